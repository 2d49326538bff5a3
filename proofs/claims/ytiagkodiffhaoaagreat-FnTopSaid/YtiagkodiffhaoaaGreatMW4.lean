/- Plain laws of the Lean functions. -/
import Derived.Test.YtiagkodiffhaoaaGreatMW3
open Option renaming bind_some->Xd
open List renaming set->Xi,all_eq_true->cS,length_set->Xx,getElem_set->fE,getElem_mem->Xm,getD->Xc,length_map->aP,mem_map->Xy,getElem_replicate->mw,length_cons->Xv,append_eq->eK,mem_or_eq_of_mem_set->Xew,getElem_of_mem->cN,map_cons->bo,sum_cons->sO,replicate->Xp,pairwise_iff_getElem->fh,mem_filter->fc,getD_eq_getElem?_getD->Xs,getElem?_set_ne->ly,getElem?_set_self->yf
open Int renaming toNat->Xb,toNat_natCast->Xf,le_refl->Xt,le_trans->EF,lt_of_le_of_lt->D7,le_of_eq->L8
open Bool renaming and_eq_false_iff->Xep,and_eq_true->Xl,and_self->lJ,eq_false_iff->nn
open Nat renaming le_refl->Xj
namespace Go.Sx
set_option linter.unusedVariables false
set_option linter.unusedSimpArgs false
section
section
variable{N:Nat}{w:Wo}{k:Nat}{x:Rt}{p:Pg}{n:Int}{ps:List Pg}
theorem Wtk(h:GOk w)(b:ROk p n x)(d:x.g=5)(f:k<=8):QOk p n w (W7 w x k):=by
 have c:=b.R d;unfold W7;split
 .split
  .exact h.st (Dn b)
  .refine h.st ?_;exact{b with Ev:=λi=>Ψ,R:=λ_=>Wtu c}
 .have aG:=Yi c h.i;obtain⟨a,j,e⟩:∃a j,Wv w.i x.l=(a,j):=⟨_,_,rfl⟩;simp only[e]at aG|-;refine⟨?_,aG.2,h.D,h.a,?_,?_,rfl,rfl⟩
  .have hy:ROk p n {x with l:=j}:={b with Ev:=λi=>Ψ,R:=λ_=>aG.1};unfold cX;simp only;split
   .exact Dn hy
   .split
    .have bN:(if x.H=2 then(6:Int)else 7)=6\/(if x.H=2 then(6:Int)else 7)=7:=by split<;>simp
     generalize (if x.H=2 then(6:Int)else 7)=m at*;exact{b with
      g:=Θ
      Ev:=λi=>Θ
      R:=λi=>Ψ}
    .exact hy
  .simp only;split<;>simp
  .simp only;intro h i;split at i
   .rcases List.mem_append.1 i with i|i
    .grind
    .rw[List.mem_singleton]at i;subst i;exact .inr ⟨aG.1.plen,aG.1.Eo,Θ,Θ⟩
   simp_all
theorem Dj(l:POk p)(h:GOk w)(m:ROk p n x)(y:k<=8)(z:0<=n):QOk p (n+1) w (WS w x k p):=by
 have a:=m.wk (Ω:n<=n+1);unfold WS;by_cases i:x.U=true/\1<=x.g/\x.g<=4
 .rw[Wb i];exact h.st (Dn a)
 rw[Wa i];by_cases q:x.g=0
 .simp_all [Wb,Wy2]
 rw[Wa q];by_cases e:x.g=1
 .rw[Wb e];grind [WAa]
 rw[Wa e];by_cases c:x.g=2
 .rw[Wb c];exact h.st (WxR l a c)
 rw[Wa c];by_cases r:x.g=3
 .simp_all [Wb,WtF]
 rw[Wa r];by_cases d:x.g=4
 .rw[Wb d];exact h.st (WsZ l h a d)
 rw[Wa d];by_cases s:x.g=5
 .simp_all [Wb,Wtk]
 rw[Wa s];by_cases f:x.g=6
 .rw[Wb f];by_cases o:x.y.length>0
  .rw[Wb o];grind [QE]
  .rw[Wa o];refine h.st ?_;exact{a with
    g:=Ψ
    Ev:=λb=>Ψ
    R:=λb=>Ψ}
 rw[Wa f];by_cases g:x.g=7
 .rw[Wb g];have t:GOk {w with a:=W1 w.a ((k:Int)+1)}:=⟨h.i,h.D,UZ h.a⟩;by_cases j:x.H=0
  .rw[Wb j];refine⟨?_,h.i,h.D,UZ h.a,Δ,λ_ b=>.inl b,rfl,rfl⟩;exact{
    g:=Ψ
    G:=by have:=m.G;grind
    Ev:=λb=>Ψ
    R:=λb=>Ψ
    y:=λu v=>by cases v
    ul:=Δ
    rg:=Δ
    ord:=Δ}
  .rw[Wa j];have:=Wwe (k:=k) t a;exact⟨this.x,this.i,this.D,this.a,this.C,this.histE,this.c,this.j⟩
 .rw[Wa g];exact h.st a
theorem Wx3(hk)(a:w.c[k]=x)(P:w.c.length<=8)(l:POk p)(h:GOk w)(b:ROk p n x)(O:n<=200000)(M:w.C.length<=500000)(d:1048576<N):
  Iv N w.e (k:Int) p=some (((Wo.put (WS w x k p) k).e,()),()):=by
 obtain⟨g1,I,J,K,g5⟩:=woG hk a;obtain⟨Y,r1,r2,r3,r4,r5,r6,Z,r8,T,lD,kb,kd,kO,R,mD,mE,ke,l0,mF,mG,mH⟩:=rtP x;have C:k<=8:=Ω
 have jU:=ZV hk a;have sJ:=b.G;have DD:=b.ul;have xi:=Qf h.a;unfold Iv WS;simp only[Wm];rw[show P5 w.e=w.c.map Rt.e from rfl,K,I,gC Ω,gC Ω];simp(maxSteps:=4000000) only[J,Y,Z,T,R,We,ij,ret,Xd,De,WJ,jP,show w.e.2.2.1.1=w.i.1 from rfl,Wi,show P4 w.e=w.a from rfl];rw[Wji h.a Ω d];simp only[ret,Xd];have u:S4 (W1 w.a ((k:Int)+1)) w.e=Wo.e {w with a:=W1 w.a ((k:Int)+1)}:=rfl;have D:S5 (Xi (w.c.map Rt.e) (Xb (k:Int)) x.e) (S4 (W1 w.a ((k:Int)+1)) w.e)=Wo.e {w with a:=W1 w.a ((k:Int)+1)}:=(woG (w:={w with a:=W1 w.a ((k:Int)+1)}) hk a).2.2.1;rw[D,Wvg (w:={w with a:=W1 w.a ((k:Int)+1)}) hk a Ω,WxX hk a P d];have Q:∀(A:Option ((Y_World×Unit)×Unit)),A=some (((Wo.put (
   if x.g=0 then gH w x k else
   if x.g=1 then am w x k p else
   if x.g=2 then(w,ch x)else
   if x.g=3 then fK w x else
   if x.g=4 then(w,W6 w x)else
   if x.g=5 then W7 w x k else
   if x.g=6 then(if x.y.length>0 then ez w x else(w,{x with g:=7}))else
   if x.g=7 then
    (if x.H=0 then({w with a:=W1 w.a ((k:Int)+1)},{G:=x.G+1})
     else gi {w with a:=W1 w.a ((k:Int)+1)} x k)
   else(w,x)) k).e,()),())->¬(x.U=true/\1<=x.g/\x.g<=4)->A=some (((Wo.put (
   if x.U=true/\1<=x.g/\x.g<=4 then(w,dE x)else
   if x.g=0 then gH w x k else
   if x.g=1 then am w x k p else
   if x.g=2 then(w,ch x)else
   if x.g=3 then fK w x else
   if x.g=4 then(w,W6 w x)else
   if x.g=5 then W7 w x k else
   if x.g=6 then(if x.y.length>0 then ez w x else(w,{x with g:=7}))else
   if x.g=7 then
    (if x.H=0 then({w with a:=W1 w.a ((k:Int)+1)},{G:=x.G+1})
     else gi {w with a:=W1 w.a ((k:Int)+1)} x k)
   else(w,x)) k).e,()),()):=λA hA O=>Θ
 have vR:(if x.g=0 then(some (((Wo.put (gH w x k) k).e,()),()):Option ((Y_World×Unit)×Unit)).bind (λU=>some ((U.1.1,()),()))
   else if x.g=1 then(Ir N w.e (k:Int) p).bind (λV=>some ((V.1.1,()),()))
   else if x.g=2 then(Is N x.e).bind (λW=>some ((S5 (Xi (w.c.map Rt.e) (Xb (k:Int)) W.1.1) w.e,()),()))
   else if x.g=3 then(EP N x.e).bind (λX=>if(x.y.length:Int)>X.2.1.2.2.2 then(yL N w.e (Xb (k:Int))).bind (λF=>some ((F.1.1,()),()))else some ((S5 (Xi (w.c.map Rt.e) (Xb (k:Int)) (S6 0 (S5 w.i.1 (S0 4 x.e)))) w.e,()),()))
   else if x.g=4 then(Ie N w.e (Xb (k:Int))).bind (λS=>some ((S.1.1,()),()))
   else if x.g=5 then(If N w.e (k:Int)).bind (λG=>some ((G.1.1,()),()))
   else if x.g=6 then(if(x.y.length:Int)>0 then(yL N w.e (Xb (k:Int))).bind (λH=>some ((H.1.1,()),()))else some ((S5 (Xi (w.c.map Rt.e) (Xb (k:Int)) (7,x.e.2)) w.e,()),()))
   else if x.g=7 then(if x.H=0 then some ((S5 (Xi (w.c.map Rt.e) (Xb (k:Int)) ((0:Int),(x.e.2.1+1,((0:Int),((0:Int),((0:Int),((0:Int),((0:Int),((0:Int),((0:Int),((0:Int),((0:Int),(false,(([]:List Int),(([]:List Kf),(([]:List Kf),(([]:List Kl),(([]:List Kb),(([]:List Int),(false,(((0:Int),((0:Int),((0:Int),(0:Int)))),(((0:Int),((0:Int),((0:Int),((0:Int),((0:Int),(([]:List Kf),([]:List Int))))))),d_Family)))))))))))))))))))))) (S4 (W1 w.a ((k:Int)+1)) w.e),()),())else(some (((Wo.put (gi {w with a:=W1 w.a ((k:Int)+1)} x k) k).e,()),()):Option ((Y_World×Unit)×Unit)).bind (λuT=>some ((uT.1.1,()),())))
   else some ((w.e,()),()))=some (((Wo.put (
   if x.g=0 then gH w x k else
   if x.g=1 then am w x k p else
   if x.g=2 then(w,ch x)else
   if x.g=3 then fK w x else
   if x.g=4 then(w,W6 w x)else
   if x.g=5 then W7 w x k else
   if x.g=6 then(if x.y.length>0 then ez w x else(w,{x with g:=7}))else
   if x.g=7 then
    (if x.H=0 then({w with a:=W1 w.a ((k:Int)+1)},{G:=x.G+1})
     else gi {w with a:=W1 w.a ((k:Int)+1)} x k)
   else(w,x)) k).e,()),()):=by
  rw[Xf];by_cases v:x.g=0
  .simp_all
  .rw[Wa v,Wa v];by_cases r:x.g=1
   .rw[Wb r,Wb r,WAE hk a C l (b.Ev Ω) b.y h.i h.D h.a d];rfl
   .rw[Wa r,Wa r];by_cases g:x.g=2
    .rw[Wb g,Wb g,Wy7 l (b.Ev Ω) g d];exact bU rfl rfl rfl
    .rw[Wa g,Wa g];by_cases f:x.g=3
     .have hl:=b.Ev Ω;obtain⟨z1,z2,z3,z4,z5,z6⟩:=hl.sz l.Y;rw[Wb f,Wb f,X8 (hl.back (.inl f)) Ω];simp only[Xd];have E:=(hl.mk24 l.Y (hl.back (.inl f)));obtain⟨m,q,e1,e2,_,_,_,_,_,_,_,_,_,pJ⟩:=E;unfold fK;by_cases c:(x.y.length:Int)>x.last.2.2.2.1
      .rw[Wb c,Wb c,QX hk a Ω Ω b.y h.D d];rfl
      .rw[Wa c,Wa c];exact bU rfl rfl rfl
     .rw[Wa f,Wa f];by_cases i:x.g=4
      .rw[Wb i,Wb i,WtO hk a l (b.Ev Ω) i h.i];rfl
      .rw[Wa i,Wa i];by_cases j:x.g=5
       .rw[Wb j,Wb j,WsX hk a C (b.R j) h.i M d];rfl
       .rw[Wa j,Wa j];by_cases s:x.g=6
        .rw[Wb s,Wb s];by_cases B:x.y.length>0
         .rw[Wb Ω,Wb B,QX hk a Ω Ω b.y h.D d];rfl
         .rw[Wa Ω,Wa B];exact bU rfl rfl rfl
        .rw[Wa s,Wa s];by_cases y:x.g=7
         .rw[Wb y,Wb y];by_cases t:x.H=0
          .rw[Wb t,Wb t,u];exact bU (w:=w) (b:={w with a:=W1 w.a ((k:Int)+1)}) (c:={G:=x.G+1}) rfl rfl rfl
          .rw[Wa t,Wa t];rfl
         simp_all
 rw[K2];by_cases z:x.U=true
 .rw[Wb z];by_cases o:1<=x.g/\x.g<=4
  .rw[Wf o.1,Wf o.2,Wb (show x.U=true/\1<=x.g/\x.g<=4 from⟨z,o⟩),Xf];exact bU rfl rfl rfl
  .have hb:(decide (1<=x.g)&&decide (x.g<=4))=false:=by
    rw[Xep,WD,WD];omega
   rw[hb];exact Q _ vR (λL=>o L.2)
 grind
end
end
section
noncomputable def iL(p:Pg):Bool:=p.2.all ff&&(nj p.1&&(decide (p.2.length<=3)&&beq (p.1.any λo=>o.1==11) (decide (p.2.length>0))))
noncomputable def dF(s:Sc):Bool:=ve s.1&&(decide (s.2.1.length<=4)&&(decide (s.2.2.length<=400)&&s.2.1.all iL))
structure PB(p:Pg):Prop where
 Y:p.1.length<=1000
 κ:p.2.length<=1000
 I:∀c∈p.2,c.length<=1000
structure SB(s:Sc):Prop where
 S:s.1.1.length<=100
 map:s.1.2.1.length<=100
 O:s.2.1.length<=100
 I:∀p∈s.2.1,PB p
 acts:s.2.2.length<=1000
variable{N:Nat}{s:Sc}{p:Pg}{w:Wo}{n:Int}{a:Ac}
theorem Rq(h:iL p=true):POk p:=by
 unfold iL at h;simp only[Xl,cS,Wg]at h;exact⟨TK h.2.1,λc a=>WDf (h.1 c a),h.2.2.1⟩
theorem rP(h:dF s=true):ThOk s.1/\s.2.1.length<=4/\s.2.2.length<=400/\∀p∈s.2.1,POk p:=by
 simp_all [dF,Xl,cS,Wg,zL,Rq]
theorem RL{a}(l:List a)(k:Nat):decide ((Wi l)<=(k:Int))=decide (l.length<=k):=by
 simp[Wi,Wf,Wj]
theorem Hp{a}(l:List a)(k:Nat):decide ((Wi l)>(k:Int))=decide (l.length>k):=by
 simp[Wi,Wf,Wj]
theorem PI(l k:Nat):decide (l>k)= !decide (l<=k):=by
 grind
theorem Wo2{l:List Opn}(h:l.length<=1048576)(g:1048576<N):Fr N l=ret (l.any λo=>o.1==11):=by
 unfold Fr SJ Z3;have c:=Hc (l:=l) (p:=λo=>o.1==11) (N:=N) (c:=λn j=>Zm N l (λb=>(some ((),(b,())))) (λe d=>(some ((),((-1:Int),())))) n j) (a:=λj=>some ((),(j,()))) (b:=some ((),((-1:Int),()))) Ω Ω
  (λn j a=>by
   simp only[Zm,WM a,Wp a,Wu a,Wl (j:=j),We,SY,Xd])
  (λn=>by simp[Zm,W0,Xj,Wc])
 rw[c];have f:=Lq (p:=λo:Opn=>o.1==11) l 0;cases hf:fnd (λo:Opn=>o.1==11) l 0 with
 |some r=>
  simp_all
 |none=>
  grind
theorem UC(h:PB p)(c:1048576<N):Cj N p=ret (iL p):=by
 have q:=h.Y;have r:=h.κ;unfold Cj iL;have e:=WF (l:=p.2) (V:=Unit) (R:=Unit×Ks) (c:=λn j v=>Bf N p.2 p (some ((),(false,()))) (λg m=>
  ((tw N p.1).bind λa=>
 (bif a.2.1 then
 (bif decide ((Wi p.2)<=(3:Int))then
 ((Fr N p.1).bind λb=>
 (some ((),(beq b.2.1 (decide ((Wi p.2)>(0:Int))),()))))
 else
 (some ((),(false,()))))
 else
 (some ((),(false,())))))) n j) (n:=N) Ω
  (b:=λj x v k=>(Cx N x).bind λo=>bif !o.2.1 then some ((),(false,()))else k v) (K:=λ_ v=>((tw N p.1).bind λa=>
 (bif a.2.1 then
 (bif decide ((Wi p.2)<=(3:Int))then
 ((Fr N p.1).bind λb=>
 (some ((),(beq b.2.1 (decide ((Wi p.2)>(0:Int))),()))))
 else
 (some ((),(false,()))))
 else
 (some ((),(false,()))))))
  (λn i v d=>by simp only[Bf,WM d,Wp d,Wu d,Wl (j:=i),We])
  (λn v=>by simp[Bf,W0,Xj,Wc]) ()
 refine e.trans ?_;rw[kF (p:=λx=>!ff x) (E:=λ_=>some ((),(false,()))) p.2 0 () (λj x v k f=>by rw[WqA (by have:=h.I x f;omega) c];rfl),me,UH Ω c,Wo2 Ω c];simp only[ret,Xd];rw[show(3:Int)=((3:Nat):Int)from rfl,RL,show(0:Int)=((0:Nat):Int)from rfl,Hp];cases p.2.all ff<;>cases nj p.1<;>cases decide (p.2.length<=3)<;>rfl
theorem OW(h:PB p)(a:1048576<N):y9 N p=ret (iL p):=by
 have q:=h.Y;have r:=h.κ;unfold y9 iL;have f:=WF (l:=p.2) (V:=Unit) (R:=Unit×Ks) (c:=λn j v=>yK N p (some ((),(false,()))) (λe d=>(some ((),(true,())))) n j) (n:=N) Ω
  (b:=λj x v k=>(Cv N x).bind λo=>bif !o.2.1 then some ((),(false,()))else k v) (K:=λ_ v=>some ((),(true,())))
  (λn i v c=>by simp only[yK,WM c,Wp c,Wu c,Wl (j:=i),We])
  (λn v=>by simp[yK,W0,Xj,Wc]) ()
 have g:yK N p (some ((),(false,()))) (λe d=>(some ((),(true,())))) N 0=ret (p.2.all ff):=by
  refine f.trans ?_;rw[kF (p:=λx=>!ff x) (E:=λ_=>some ((),(false,()))) p.2 0 () (λj x v k m=>by rw[WqS (by have:=h.I x m;omega) a];rfl),me];cases p.2.all ff<;>rfl
 rw[g,US Ω a,Vf Ω a];simp only[ret,Xd];rw[show(3:Int)=((3:Nat):Int)from rfl,Hp,PI,show(0:Int)=((0:Nat):Int)from rfl,Hp];generalize beq (p.1.any λo=>o.1==11) (decide (p.2.length>0))=b;cases p.2.all ff<;>cases nj p.1<;>cases decide (p.2.length<=3)<;>cases b<;>rfl
theorem Ge{t}(d:t.1.length<=1048576)(m:t.2.1.length<=1048576)(h:1048576<N):vJ N t=ret (ve t):=by
 unfold vJ ve x6;have e:((Wi t.2.1) !=(8:Int))= !decide (t.2.1.length=8):=by
  grind [Wi]
 have f:=WF (l:=t.2.1) (V:=Unit) (R:=Unit×Ks) (c:=λn j v=>yt N t (some ((),(false,()))) (λc b=>(some ((),(true,())))) n j) (n:=N) Ω
  (b:=λj x v k=>bif !(decide (0<=x)&&decide (x<=65536))then some ((),(false,()))else k v) (K:=λ_ v=>some ((),(true,())))
  (λn i v a=>by simp only[yt,WM a,Wp a,Wu a,Wl (j:=i),We,oN,ret,Xd])
  (λn v=>by simp[yt,W0,Xj,Wc]) ()
 have g:yt N t (some ((),(false,()))) (λc b=>(some ((),(true,())))) N 0=ret (t.2.1.all λx=>decide (0<=x)&&decide (x<=65536)):=by
  refine f.trans ?_;rw[kF (p:=λx=>!(decide (0<=x)&&decide (x<=65536))) (E:=λ_=>some ((),(false,()))) t.2.1 0 () (λj x v k _=>rfl),me];cases t.2.1.all _<;>rfl
 rw[Gm d h,e,CP,g];cases oD t.1<;>cases decide (t.2.1.length=8)<;>cases dK t.2.2<;>cases t.2.1.all _<;>rfl
theorem OM(h:SB s)(b:1048576<N):yR N s=ret (dF s):=by
 have m:=h.S;have q:=h.map;have r:=h.O;unfold yR dF;have d:=WF (l:=s.2.1) (V:=Unit) (R:=Unit×Ks) (c:=λn j v=>yu N s (some ((),(false,()))) (λg c=>(some ((),(true,())))) n j) (n:=N) Ω
  (b:=λj x v k=>(y9 N x).bind λo=>bif !o.2.1 then some ((),(false,()))else k v) (K:=λ_ v=>some ((),(true,())))
  (λn i v a=>by simp only[yu,WM a,Wp a,Wu a,Wl (j:=i),We])
  (λn v=>by simp[yu,W0,Xj,Wc]) ()
 have e:yu N s (some ((),(false,()))) (λg c=>(some ((),(true,())))) N 0=ret (s.2.1.all iL):=by
  refine d.trans ?_;rw[kF (p:=λx=>!iL x) (E:=λ_=>some ((),(false,()))) s.2.1 0 () (λj x v k f=>by rw[OW (h.I x f) b];rfl),me];cases s.2.1.all iL<;>rfl
 rw[e,Ge Ω Ω b];simp only[ret,Xd];rw[show(4:Int)=((4:Nat):Int)from rfl,Hp,PI,show(400:Int)=((400:Nat):Int)from rfl,Hp,PI];cases ve s.1<;>cases decide (s.2.1.length<=4)<;>cases decide (s.2.2.length<=400)<;>rfl
theorem Gc(h:SB s)(d:1048576<N):B8 N s=ret (dF s):=by
 have w:=h.S;have y:=h.map;have z:=h.O;unfold B8 dF SH Zu;have g:=WF (l:=s.2.1) (V:=Unit) (R:=Unit×Kk) (c:=λn j v=>Zd N s.2.1 (λa=>(some ((),(a,())))) (λf e=>(some ((),((-1:Int),())))) n j) (n:=N) Ω
  (b:=λj x v k=>(MC N x).bind λo=>bif o.2.1 then some ((),(j,()))else k v) (K:=λ_ v=>some ((),((-1:Int),())))
  (λn i v b=>by simp only[Zd,WM b,Wp b,Wu b,Wl (j:=i),We])
  (λn v=>by simp[Zd,W0,Xj,Wc]) ()
 have m:((Zd N s.2.1 (λa=>(some ((),(a,())))) (λf e=>(some ((),((-1:Int),())))) N 0).bind λu=>some ((),(decide (u.2.1>=(0:Int)),())))=ret (!s.2.1.all iL):=by
  have q:=g;rw[q,J6 (p:=λx=>!iL x) (E:=λj _=>some ((),(j,()))) s.2.1 0 () (λj x v k t=>by unfold MC;rw[UC (h.I x t) d];rfl)];have c:=Lq (p:=λx=>!iL x) s.2.1 0;rw[me]at c;rw[<-c];cases hf:fnd (λx=>!iL x) s.2.1 0 with
  |some r=>simp_all
  |none=>rfl
 rw[OR Ω Ω d];simp only[ret,Xd];rw[m,show(4:Int)=((4:Nat):Int)from rfl,RL,show(400:Int)=((400:Nat):Int)from rfl,RL];cases ve s.1<;>cases decide (s.2.1.length<=4)<;>cases decide (s.2.2.length<=400)<;>cases s.2.1.all iL<;>rfl
end
section
variable{N:Nat}{s:Sc}{p:Pg}{w:Wo}{n:Int}{a:Ac}{k:Nat}
theorem uX{ps:List Pg}(h:∀p∈ps,POk p)(a:k<ps.length):POk (ps.getD k pg0):=by
 grind
theorem WOk.tick(h:WOk s.2.1 n w):WOk s.2.1 (n+1) {w with j:=w.j+1}:=
 {h with j:=by(have:=h.j;simp_all),n0:=by have:=h.n0;omega,C:=by(have:=h.C;grind),x:=λk a=>(h.x k a).wk Ω}
theorem WOk.putQ{q}{b:Wo}(h:WOk s.2.1 (n+1) {b with j:=b.j+1})(f:(b.C.length:Int)<=n)(g:k<b.c.length)(a:QOk (s.2.1.getD k pg0) (n+1) {b with j:=b.j+1} q):WOk s.2.1 (n+1) (Wo.put q k):=by
 have d:=a.c;exact{
  len:=by show(q.1.c.set k q.2).length=_;rw[Xx,d];exact h.len
  l4:=h.l4
  O:=h.O
  j:=a.j.trans h.j
  n0:=h.n0
  i:=a.i
  D:=a.D
  a:=a.a
  histE:=λe l=>(a.histE e l).elim (h.histE e) id
  C:=by have:=a.C;show(q.1.C.length:Int)<=n+1;grind
  x:=λi c=>by
   change i<(q.1.c.set k q.2).length at c;rw[Xx,d]at c;show ROk _ _ ((q.1.c.set k q.2)[i]);rw[fE];by_cases l:k=i
   .subst l;rw[Wb rfl];exact a.x
   .rw[Wa l];have:=h.x i c;simp_all}
theorem nV(h:WOk s.2.1 n w):WOk s.2.1 (n+1) (aq s w a):=by
 have c:=h.tick;unfold aq;simp only;split
 .rename_i hb;have b:a.2.1.toNat<w.c.length:=Ω
  have f:=c.x a.2.1.toNat b;have k:=h.x a.2.1.toNat b;have d:GOk {w with j:=w.j+1}:=⟨h.i,h.D,h.a⟩;have j:=uX h.O (by rw[<-h.len];exact b);have r:w.c.length<=4:=by rw[h.len];exact h.l4
  rw[Wk b];split
  .unfold m9;rw[Wk (b)];exact c.putQ h.C b (Dj j d k Ω h.n0)
  .split
   .split
    .rename_i hf;refine c.putQ h.C b (d.st ?_);have i:=k.Ev Ω;obtain⟨o,p,g⟩:=i.V hf.1;have e:a.2.2.toNat<(s.2.1.getD a.2.1.toNat pg0).2.length:=Ω
     have m:a.2.2.toNat<w.c[a.2.1.toNat].n.κ.length:=by rw[g.len];exact e
     have l:KC ((s.2.1.getD a.2.1.toNat pg0).2.getD a.2.2.toNat []):=by rw[Wk e];exact j.κ _ (Xm e)
     exact{f with Ev:=λ_=>{i.wk (Ω:n<=n+1)with V:=λ_=>⟨o,p,KG m h.i l g rfl⟩}}
    .exact c
   .split
    .split
     .refine c.putQ h.C b (d.st ?_);exact{f with Ev:=λq=>{f.Ev q with}}
     .exact c
    .exact c
 .exact c
theorem Re(h:WOk s.2.1 n w)(V:n<=99999)(t:1048576<N):ES N w.e s a=some (((aq s w a).e,()),()):=by
 have W:=h.tick;have pK:=h.j;have qP:=h.n0;have X:w.c.length<=4:=by rw[h.len];exact h.l4
 unfold ES aq;simp only[Wm];rw[show P5 w.e=w.c.map Rt.e from rfl,show w.e.1=w.j from rfl,gC Ω];have D:Wi (w.c.map Rt.e)=(w.c.length:Int):=by unfold Wi;simp
 rw[D,eh Λ];simp only[ij,ret,Xd];by_cases l:0<=a.2.1/\a.2.1<w.c.length
 .rw[Wb l,Wf l.1,Wf (Ω:a.2.1<=(w.c.length:Int) -1)];obtain⟨k,A⟩:∃k:Nat,a.2.1=k:=⟨a.2.1.toNat,Ω⟩;have c:k<w.c.length:=Ω
  obtain⟨x,b⟩:∃x,w.c[k]=x:=⟨_,rfl⟩;have o:=h.x k c;rw[b]at o;have z:k<s.2.1.length:=by rw[<-h.len];exact c
  have g:=uX h.O z;obtain⟨G,S,T,H,U⟩:=woG c b;obtain⟨M,r1,r2,r3,r4,r5,r6,r7,r8,lZ,lD,kb,kd,Z,kP,mD,mE,K,L,mF,mG,mH⟩:=rtP x;have v:∀y:Rt,(w.j+1,S4 (Xi (w.c.map Rt.e) k y.e) w.e.2)=Wo.e (Wo.put ({w with j:=w.j+1},y) k):=λy=>by
   unfold Wo.put Wo.e;simp only[List.map_set];rfl
  have F:Wo.put ({w with j:=w.j+1},x) k={w with j:=w.j+1}:=by unfold Wo.put;simp only;rw[<-b,List.set_getElem_self]
  simp only[A,Xf,lJ,Bool.not_true,Wc];rw[G,H,Wk c,b];simp only[We,M,K,L,v,F,show w.e.2.2.1=w.i from rfl];rw[d8,Wf z];have B:Xc s.2.1 k (([]:List Ka),([]:List Kaf))=s.2.1.getD k pg0:=rfl;rw[B];generalize Y:s.2.1.getD k pg0=p at*;have J:GOk {w with j:=w.j+1}:=⟨h.i,h.D,h.a⟩;simp only[We,WJ];have C:Iv N (Wo.e {w with j:=w.j+1}) (k:Int) p=some (((Wo.put (WS {w with j:=w.j+1} x k p) k).e,()),()):=
   Wx3 (w:={w with j:=w.j+1}) c b Θ g J o Ω (by have:=h.C;grind) t
  rw[C];by_cases q:a.1=1
  .simp_all [Wb,m9,Wk,Xd]
  .rw[Wa q,Wa q];by_cases f:a.1=2
   .rw[Wb f,Wb f];by_cases m:x.g=2
    .rw[Wb m,eh (by have:=g.k3;unfold I64 Wi;omega),show Wi p.2=(p.2.length:Int)from rfl];by_cases u:0<=a.2.2/\a.2.2<p.2.length
     .rw[Wf u.1,Wf (Ω:a.2.2<=(p.2.length:Int) -1),Wb (show x.g=2/\0<=a.2.2/\a.2.2<p.2.length from⟨m,u⟩)];obtain⟨j,O⟩:∃j:Nat,a.2.2=j:=⟨a.2.2.toNat,Ω⟩;have d:j<p.2.length:=Ω
      simp only[O,Xf,lJ,We];rw[d8,Wf d];obtain⟨Q,R,i⟩:=(o.Ev Ω).V m;have E:KC (p.2.getD j []):=by rw[Wk d];exact g.κ _ (Xm d)
      rw[WmN (c:=p.2.getD j []) (by rw[i.len];exact d) (by rw[i.len];exact g.k3) h.i E i rfl Ω t];simp only[Xd,We];have:U21 (aC w.i x.n j (p.2.getD j [])).e x.e=Rt.e {x with n:=aC w.i x.n j (p.2.getD j [])}:=rfl
      grind [OC]
     grind
    simp_all
   .rw[Wa f,Wa f];by_cases r:a.1=3
    .rw[Wb r,Wb r];have I:S11 true x.e=Rt.e {x with U:=true}:=rfl;simp only[I,v,show(Cm.e x.l).2.2.1=x.l.g from rfl,jP]
     grind
    simp_all
 .rw[Wa l];have P:(decide (0<=a.2.1)&&decide (a.2.1<=(w.c.length:Int) -1))=false:=by
   rw[Xep,WD,WD];omega
  rw[P];rfl
theorem Hg(h:dF s=true):WOk s.2.1 0 (aX s):=by
 obtain⟨b,c,i,d⟩:=rP h;exact{
  len:=by simp[aX]
  l4:=c
  O:=d
  j:=rfl
  n0:=Xt _
  i:=by
   show W4 (DR s.1.1)=true;have:=b.S.len;unfold W4 DR;simp only[aP,this,decide_true,Bool.true_and,Xl,Wg,cS];refine⟨Ω,λw g=>?_⟩;obtain⟨v,f,rfl⟩:=Xy.1 g;have:=b.S.val v f;rw[rX];unfold wd0;simp only;omega
  D:=⟨Ww0 b.map.1 b.map.2,b.W⟩
  a:=⟨(λh a=>by cases a),List.Pairwise.nil⟩
  C:=by simp[aX]
  histE:=λh a=>by cases a
  x:=λk j=>by
   simp only[aX,mw];exact{
    g:=Δ
    G:=Δ
    Ev:=λa=>by simp at a
    R:=λa=>by simp at a
    y:=λu e=>by cases e
    ul:=Δ
    rg:=Δ
    ord:=Δ}}
theorem WvA:∀(l:List Ac) (n) (w),WOk s.2.1 n w->WOk s.2.1 (n+l.length) (l.foldl (aq s) w)
 | [],n,w,h=>by simpa using h
 |a::l,n,w,h=>by
  have:=WvA l (n+1) _ (nV (a:=a) h);rw[List.foldl_cons,Xv];rw[show n+((l.length+1:Nat):Int)=n+1+l.length by omega];exact this
theorem Qr(h:dF s=true):WOk s.2.1 s.2.2.length (kL s):=by
 have:=WvA s.2.2 0 _ (Hg h);rw[Int.zero_add]at this;exact this
end
section
section
variable{N:Nat}{c:Cur}
theorem Ph{b7}{l8}(f:l8.length=8):∀(n i) (c) (l:List Int),8-i<n->i<=8->bY c->l.length=i->
  Drw (λv:Kg×Unit=>v.1.1.length=8/\v.1.2.1.length=8) (EO N b7 l8 (λp o j g=>(some ((j,()),((l8,(g,b7)),())))) n (i:Int) c l)
 |0,i,c,l,h,_,_,_=>Ω
 |n+1,i,c,l,h,k,a,hl=>by
  refine .bif (λd=>?_) λd=>.ok a ⟨f,?_⟩
  .have d:(i:Int)<8:=Wx d;have e:Ws .i64 (i:Int) 1=((i+1:Nat):Int):=Wl;simp only[e];refine(iG 2 a).bind λc b a _=>.bif (λ_=>?_) λ_=>?_
   .exact(IR a).bind λc v a m=>.bifT (Ww Φ) (Ph f n (i+1) c _ Ω Ω a Ψ)
   .exact .bifT (Ww Φ) (Ph f n (i+1) c _ Ω Ω a Ψ)
  grind
theorem WwL(b:1048576<N)(a:bY c):Drw (λv:Kg×Unit=>v.1.1.length=8/\v.1.2.1.length=8) (Fg N c):=by
 exact(WDk b a).bind λc v a d=>(IR a).bind λc w a e=>Ph d N 0 c [] Ω Ω a rfl
theorem Ws9(d:1048576<N)(a:bY c):Drw (λv:Kg×Unit=>v.1.1.length<=100/\v.1.2.1.length<=100) (SU N c):=by
 refine(WwL d a).bind λc t a b=>(ed 16 a).bind λc v a f=>.bif (λ_=>?_) λ_=>.bif (λ_=>?_) λ_=>.bif (λ_=>.ok a (by simp only;omega)) λ_=>.bif (λ_=>?_) λ_=>.bif (λ_=>?_) λ_=>.ok a (by simp only;omega)
 .refine .bifT (by rw[b.1];rfl) (.ok a ?_)<;>simp_all
 .refine(ed 8 a).bind λc k a e=>?_;refine .bifT (by unfold inb;simp;omega) (.ok a ?_)<;>simp_all
 .refine .bifT (by rw[b.2];rfl) (.ok a ?_)<;>simp_all
 .refine(ed 8 a).bind λc k a e=>?_;refine .bifT (by unfold inb;simp;omega) (.ok a ?_)<;>simp_all
theorem Ou{p}(h:p.1.length<=300/\p.2.length<=100/\∀x∈p.2,x.length<=200):PB p:=⟨Ω,Ω,λx a=>Θ⟩
theorem WyN(e:1048576<N)(a:bY c):Drw (λv:Pg×Unit=>PB v.1) (SX N c):=by
 refine(iG 2 a).bind λc b a _=>(N9 e a).bind λc p a g=>(ed 10 a).bind λc v a l=>.bif (λ_=>?_) λ_=>.bif (λ_=>.bif (λd=>?_) λ_=>.ok a (Ou g)) λ_=>.bif (λ_=>?_) λ_=>.bif (λ_=>.ok a ⟨by simp only;omega,Δ,Δ⟩) λ_=>.ok a (Ou g)
 .exact(Tv e a (by simp only;omega)).bind λc w a j=>.ok a ⟨by simp only;omega,by simp only;omega,λx h=>Θ⟩
 .have d:Wi p.1.2>0:=Wx d;refine(ed (Wi p.1.2) a).bind λc k a f=>?_;have f:=f.2 d;unfold Wi at f;have i:inb k.1 p.1.2.length=true:=by grind [inb]
  refine .bifT i ((Tv e a ?_).bind λc w a j=>.bifT i (.ok a ⟨by simp only;omega,by simp only[Xx];omega,λx h=>?_⟩))<;>grind
 .refine .bifT (Ww Φ) (.ok a ⟨by simp only;omega,by simp[eK];omega,λx h=>?_⟩)<;>grind [Ww,eK]
theorem Wso{n4 a}(s:a<=600):∀(n i) (x) (c) (l:List Ac),1000-i<n->i<=700->bY c->l.length=i->
  Drw (λv:List Ac×Unit=>v.1.length<=700) (Z0 N n4 a (λt r q m p=>(some ((m,()),(p,())))) n x (i:Int) c l)
 |0,i,x,c,l,h,_,_,_=>Ω
 |n+1,i,x,c,l,h,u,d,hl=>by
  refine .bif (λo=>?_) λo=>.ok d (by simp only;omega);have o:=Wx o;have e:Ws .i64 (i:Int) 1=((i+1:Nat):Int):=Wl;simp only[e];have g:∀(w:Ac),WH (l.length+ [w].length)=true:=λw=>Ww Φ;have f:∀(x:Int) (c:Cur) (w:Ac),bY c->Drw (λv:List Ac×Unit=>v.1.length<=700) (Z0 N n4 a (λt r q m p=>(some ((m,()),(p,())))) n x ((i+1:Nat):Int) c (List.append l [w])):=λx c w d=>Wso s n (i+1) x c _ Ω Ω d Ψ;refine(iG 3 d).bind λc b d _=>.bif (λ_=>?_) λ_=>?_
  .refine(ed n4 d).bind λc k d _=>(iG 2 d).bind λc b d _=>.bif (λ_=>?_) λ_=>?_
   .refine(ed 3 d).bind λc j d _=>(iG 2 d).bind λc b d _=>.bif (λ_=>?_) λ_=>?_
    .exact(iG 40 d).bind λc b d _=>.bif (λ_=>.bifT (g _) (f _ _ _ d)) λ_=>.bifT (g _) (f _ _ _ d)
    .exact(iG 40 d).bind λc b d _=>.bif (λ_=>.bifT (g _) (f _ _ _ d)) λ_=>.bifT (g _) (f _ _ _ d)
   .exact(iG 40 d).bind λc b d _=>.bif (λ_=>.bifT (g _) (f _ _ _ d)) λ_=>.bifT (g _) (f _ _ _ d)
  .refine(iG 2 d).bind λc b d _=>.bif (λ_=>?_) λ_=>?_
   .refine(ed 3 d).bind λc j d _=>(iG 2 d).bind λc b d _=>.bif (λ_=>?_) λ_=>?_
    .exact(iG 40 d).bind λc b d _=>.bif (λ_=>.bifT (g _) (f _ _ _ d)) λ_=>.bifT (g _) (f _ _ _ d)
    .exact(iG 40 d).bind λc b d _=>.bif (λ_=>.bifT (g _) (f _ _ _ d)) λ_=>.bifT (g _) (f _ _ _ d)
   .exact(iG 40 d).bind λc b d _=>.bif (λ_=>.bifT (g _) (f _ _ _ d)) λ_=>.bifT (g _) (f _ _ _ d)
theorem WDd(d:1048576<N){n4 a}(b:a<=600)(e:bY c):Drw (λv:List Ac×Unit=>v.1.length<=700) (Fq N c n4 a):=by
 exact Wso b N 0 0 c [] Ω Ω e rfl
structure SD(s:Sc):Prop where
 S:s.1.1.length=8
 map:s.1.2.1.length=8
 O:1<=s.2.1.length/\s.2.1.length<=10
 I:∀p∈s.2.1,PB p
 acts:s.2.2.length<=700
theorem XC(g:1048576<N){n8 bS cD}{aI aT}(y:0<=cD/\cD<=500)(r:aI.length=8)(s:aT.length=8)(w:1<=n8/\n8<=4):∀(n i) (c) (l:List Pg),10-i<n->i<=4->bY c->l.length=i->(∀p∈l,PB p)->
  Drw (λv:Sc×Unit=>SD v.1) (AX N 0 cD n8 bS aI aT (λF E t u=>
  ((Zc N t (Ws .i64 cD (1:Int))).bind λm=>
 ((Fq N m.1.1 n8 m.2.1).bind λo=>
 (some ((o.1.1,()),(((aI,(aT,bS)),(u,o.2.1)),())))))) n (i:Int) c l)
 |0,i,c,l,h,_,_,_,_=>Ω
 |n+1,i,c,l,h,A,d,B,z=>by
  refine .bif (λf=>?_) λf=>?_
  .have f:(i:Int)<n8:=Wx f;have e:Ws .i64 (i:Int) 1=((i+1:Nat):Int):=Wl;simp only[e,show((0:Int)==2)=false from rfl,show((0:Int)==0)=true from rfl,Wc,We];refine(iG 3 d).bind λc b d _=>(N9 g d).bind λc p d C=>.bifT (Ww Φ) (XC g y r s w n (i+1) c _ Ω Ω d (by simp[eK];omega) λq D=>?_)<;>grind [iG,bind,N9,Ww,eK,Ou]
  .have f:¬(i:Int)<n8:=of_decide_eq_false f;have e:Ws .i64 cD 1=cD+1:=WB Λ;simp only[e];refine(ed (cD+1) d).bind λc k d j=>?_;have j:=j.2 Ω;refine(WDd (a:=k.1) g Ω d).bind λc a d x=>.ok d ⟨r,s,by simp only;omega,z,x⟩
theorem WAd(b:1048576<N){a}(f:0<=a/\a<=500)(h:bY c):Drw (λv:Sc×Unit=>SD v.1) (Io N c 0 a):=by
 refine(WwL b h).bind λc t h d=>(ed 4 h).bind λc k h g=>?_;have e:Ws .i64 1 k.1=1+k.1:=WB Λ;simp only[e];exact XC b f d.1 d.2 Ω N 0 c [] Ω Ω h rfl Δ
theorem SD.sb{s}(h:SD s):SB s:=⟨by have:=h.S;omega,by have:=h.map;omega,by have:=h.O;omega,h.I,by have:=h.acts;omega⟩
theorem YD{b7}{b9}{bi aN}{c:List Ac}(d:bY b7)(g:bi.length=8)(i:aN.length=8)(j:c.length<=700):∀(n) (l:List Pg),20-l.length<n->l.length<=11->(∀p∈l,PB p)->
  Drw (λv:Sc×Unit=>SB v.1) (Ih N b7 b9 bi aN c (λm f=>(some ((b7,()),(((bi,(aN,b9)),(f,c)),())))) n l)
 |0,l,h,_,_=>Ω
 |n+1,l,h,k,e=>by
  refine .bif (λb=>?_) λb=>.ok d ⟨by simp only;omega,by simp only;omega,by simp only;omega,e,by simp only;omega⟩;have b:=Wx b;unfold Wi at b;refine .bifT (Ww Φ) (YD d g i j n _ (by grind [eK]) (by grind [eK]) λq a=>?_);simp[eK]at a;rcases a with a|a
  .exact e q a
  .subst a;exact⟨Δ,Δ,Δ⟩
theorem Wsy{dW}{r s}{a:List Pg}(f:r.length=8)(k:s.length=8)(j:a.length<=11)(d:∀p∈a,PB p):∀(n) (c) (l:List Ac),1000-l.length<n->bY c->l.length<=800->
  Drw (λv:Sc×Unit=>SB v.1) (It N dW r s a (λo i g=>(some ((i,()),(((r,(s,dW)),(a,g)),())))) n c l)
 |0,c,l,h,_,_=>Ω
 |n+1,c,l,h,b,hl=>by
  refine(ed 2 b).bind λc v b m=>?_;have e:Ws .i64 400 v.1=400+v.1:=WB Λ;simp only[e];refine .bif (λq=>?_) λq=>.ok b ⟨by simp only;omega,by simp only;omega,by simp only;omega,d,by simp only;omega⟩;have q:=Wx q;unfold Wi at q;exact .bifT (Ww Φ) (Wsy f k j d n c _ (by grind [eK]) b (by grind [eK]))
theorem WCu(d:1048576<N){a}(f:0<=a/\a<=500)(i:bY c):Drw (λv:Sc×Unit=>SB v.1) (II N c a):=by
 refine(WAd d f i).bind λc s i j=>(ed 30 i).bind λc v i h=>.bif (λ_=>?_) λ_=>.bif (λ_=>?_) λ_=>.bif (λ_=>?_) λ_=>.bif (λ_=>?_) λ_=>.bif (λ_=>?_) λ_=>.ok i j.sb
 .exact(Ws9 d i).bind λc t i e=>.ok i ⟨e.1,e.2,by have:=j.O;simp only;omega,j.I,by have:=j.acts;simp only;omega⟩
 .refine(WyN d i).bind λc p i g=>.bifT (by unfold inb;have:=j.O;simp;omega) (.ok i ⟨by have:=j.S;simp only;omega,by have:=j.map;simp only;omega,by have:=j.O;grind,λq b=>?_,by have:=j.acts;simp only;omega⟩);rcases Xew b with b|b
  .exact j.I q b
  .subst b;exact g
 .exact YD i j.S j.map j.acts N s.1.2.1 Ω (by have:=j.O;omega) j.I
 .exact .bifT (Ww (by have:=j.acts;simp;omega)) (.ok i ⟨by have:=j.S;simp only;omega,by have:=j.map;simp only;omega,by have:=j.O;simp only;omega,j.I,by have:=j.acts;grind [eK]⟩)
 .exact Wsy j.S j.map (a:=s.1.2.1) (by have:=j.O;omega) j.I N c s.1.2.2 Ω i (by have:=j.acts;omega)
theorem WyK{a}(h:a.length<=1048576):∃v,NZ N a 200=ret v/\0<=v/\v<=200:=by
 unfold NZ;have e:kc .i64 (Wi a) 20=((a.length/20:Nat):Int):=by
  grind [kc,Wi,Int.tdiv_eq_ediv_of_nonneg,HI,I64]
 rw[e,WB Λ,show inz (20:Int)=true from rfl];simp only[We,jP];by_cases h:2+((a.length/20:Nat):Int)>200
 .simp_all
 .rw[Wa h];grind
end
end
section
def stl(x:Rt):Bool:=decide (x.g=8)||((decide (x.g=5)&&(decide (x.l.g=4)||decide (x.l.g=5)))||((decide (x.g=6)||decide (x.g=7))&&decide (x.H≠0)))
def Wn(x:Rt):Int:=if stl x=true then(if x.g=5 then x.l.F else x.ED)else 0
theorem WP{x}:stl x=true↔x.g=8\/(x.g=5/\(x.l.g=4\/x.l.g=5))\/((x.g=6\/x.g=7)/\x.H≠0):=by
 simp[stl,Bool.or_eq_true,Xl,Wg]
structure RX(x:Rt):Prop where
 doom:x.U=true->(1<=x.g/\x.g<=4)\/(x.g=5/\x.l.g<=3)
 H:x.g=5->x.H≠0
structure Stay(x y:Rt):Prop where
 G:x.G<=y.G
 st:stl x=true->stl y=true/\Wn y=Wn x/\y.H=x.H/\y.t=x.t/\y.B=x.B
structure RG(w:Wo)(x:Rt)(q:Wo×Rt):Prop where
 doom:q.2.U=false
 H:q.2.g=5->q.2.H≠0
 G:q.2.G=x.G
 i:q.1.i=w.i
 C:q.1.C=w.C
section
variable{w:Wo}{x y z:Rt}{k:Nat}{p:Pg}{n:Int}{o:Opn}
theorem Stay.refl(x):Stay x x:=⟨Xt _,λh=>⟨h,rfl,rfl,rfl,rfl⟩⟩
theorem Stay.trans(h:Stay x y)(f:Stay y z):Stay x z:=
 ⟨EF h.G f.G,λm=>by
  obtain⟨l,b,c,d,e⟩:=h.st m;obtain⟨g,i,a,j,k⟩:=f.st l;simp_all⟩
theorem Stay.un(h:stl x=false)(b:x.G<=y.G):Stay x y:=⟨b,λa=>Ψ⟩
theorem O1(a:x.U=false):(WA x).U=false/\(WA x).g≠5/\(WA x).G=x.G:=by
 unfold WA dE
 grind
theorem YW(c:x.U=false){out}(b:out≠0):RG w x (W9 w x k out):=by
 unfold W9 gi;simp only;generalize (if out=2 then []else x.A)=a;split
 .exact⟨rfl,Δ,rfl,rfl,rfl⟩
 .exact⟨c,λ_=>b,rfl,rfl,rfl⟩
theorem Wup(b:x.U=false)(a:x.g≠5):RG w x (ez w x):=⟨b,λh=>Wh h a,rfl,rfl,rfl⟩
theorem Wxi(c:x.U=false)(a:x.g≠5):(dX w x o).U=false/\(dX w x o).g≠5/\(dX w x o).G=x.G:=by
 unfold dX;cases bf x.A o.2.2.1 with
 |some v=>simp_all
 |none=>
  simp only;generalize WU w.i x.u _=b;split
  .grind [O1]
  grind
theorem Wx7(b:x.U=false)(c:x.g≠5){a}:RG w x (fV w x k a):=by
 unfold fV;split
 .grind [YW]
 .split
  .exact Wup b c
  .exact⟨b,λh=>Wh h c,rfl,rfl,rfl⟩
theorem Wyn(d:x.U=false)(e:x.g≠5):RG w x (eN w x k o):=by
 unfold eN;cases fN w.a ((k:Int)+1) (WO o).1 (WO o).2 with
 |none=>
  obtain⟨f,b,c⟩:=O1 d;exact⟨f,λh=>Wh h b,c,rfl,rfl⟩
 |some a=>exact⟨d,λh=>Wh h e,rfl,rfl,rfl⟩
theorem WB1(d:x.U=false)(e:x.g≠5):RG w x (am w x k p):=by
 unfold am;split
 .grind [YW]
 .simp only;generalize opN p.1 x.k=o;split
  .obtain⟨a,b,c⟩:=Wxi (w:=w) (o:=o) d e;exact⟨a,λh=>Wh h b,c,rfl,rfl⟩
  .split
   .exact Wx7 d e
   .split
    .exact⟨d,λh=>Ψ,rfl,rfl,rfl⟩
    .split
     .exact Wyn d e
     .repeat' split
      all_goals exact⟨d,λh=>Wh h e,rfl,rfl,rfl⟩
theorem WBl(b:x.U=false)(a:x.g≠5):RG w x (gH w x k):=by
 unfold gH
 repeat' split
 all_goals first|exact⟨b,λh=>Wh h a,rfl,rfl,rfl⟩|exact⟨rfl,λh=>Ψ,rfl,rfl,rfl⟩
theorem WwH(a:x.U=false)(b:x.g≠5):RG w x (w,ch x):=by
 unfold ch;split
 .exact⟨rfl,λh=>by(change (6:Int)=5 at h;omega),rfl,rfl,rfl⟩
 .split
  .exact⟨a,λh=>Ψ,rfl,rfl,rfl⟩
  .exact⟨a,λh=>Wh h b,rfl,rfl,rfl⟩
theorem XN(a:x.U=false)(b:x.g≠5):RG w x (fK w x):=by
 unfold fK;split
 .exact Wup a b
 .exact⟨a,λh=>Ψ,rfl,rfl,rfl⟩
theorem XV(a:x.U=false)(b:x.g≠5):RG w x (w,W6 w x):=by
 unfold W6;split
 .simp only;split
  .exact⟨rfl,λh=>by(change (6:Int)=5 at h;omega),rfl,rfl,rfl⟩
  .exact⟨a,λh=>Wh h b,rfl,rfl,rfl⟩
 .exact⟨a,λh=>Ψ,rfl,rfl,rfl⟩
theorem UI(m)(c):m.1<=(Wv m c).1.1:=by
 have a:∀i w,(lG m i w).1=m.1:=λ_ _=>rfl;unfold Wv jS gK qH tick
 grind
structure RS(w:Wo)(x:Rt)(q:Wo×Rt):Prop where
 rx:RX q.2
 stay:Stay x q.2
 K:w.i.1<=q.1.i.1
 C:∃l,q.1.C=w.C++l
theorem RG.rs{q}(h:RG w x q)(a:stl x=false):RS w x q:=⟨⟨(λb=>by rw[h.doom]at b;cases b),h.H⟩,Stay.un a (by rw[h.G];omega),by rw[h.i];omega,[],by rw[h.C];simp⟩
theorem Sf(c):bm c 6=6:=by unfold bm;rw[Wa Ω,Wa Ω]
theorem R1(c):bm c 5=5:=by unfold bm;rw[Wa Ω,Wa Ω]
theorem Wsb{c}{a}(h:a=5\/a=6):(Wz c a).F=c.F/\((Wz c a).g=c.g\/(Wz c a).g=a):=by
 unfold Wz;split
 .refine⟨rfl,.inr ?_⟩;rcases h with rfl|rfl
  .exact R1 c
  .exact Sf c
 simp_all
theorem WvR(e:RX x)(d:x.g=5):RS w x (W7 w x k):=by
 unfold W7;split
 .rename_i t;have q:x.l.g<=3:=by rcases e.doom t with h|h<;>omega
  have i:stl x=false:=by rw[nn,Ne,WP];omega
  split
  .exact⟨⟨(λt=>by cases t),λh=>by(change (6:Int)=5 at h;omega)⟩,Stay.un i (Xt _),Xt _,[],Δ⟩
  .exact⟨⟨(λt=>by cases t),e.H⟩,Stay.un i (Xt _),Xt _,[],Δ⟩
 .have o:=UI w.i x.l;have l:=e.H d;simp only;refine⟨?_,?_,o,?_⟩
  .unfold cX dE;simp only;split
   .exact⟨(λt=>by cases t),λh=>Ψ⟩
   .split
    .have b:(if x.H=2 then(6:Int)else 7)≠5:=by split<;>omega
     exact⟨(λt=>Ψ),λh=>Wh h b⟩
    .exact⟨(λt=>Ψ),λ_=>l⟩
  .have sJ:(cX {x with l:=(Wv w.i x.l).2}).G=x.G:=by
    grind [cX,dE]
   refine⟨Ψ,λu=>?_⟩;have p:=WP.1 u;have m:Wn x=x.l.F:=by unfold Wn;rw[Wb u,Wb d]
   have f:(Wv w.i x.l).2.F=x.l.F/\((Wv w.i x.l).2.g=4\/(Wv w.i x.l).2.g=5\/(Wv w.i x.l).2.g=6):=by
    unfold Wv;rcases(Ω:x.l.g=4\/x.l.g=5)with n|n
    .have:=Wsb (c:=x.l) (a:=5) (.inl rfl)
     grind
    .have:=Wsb (c:=x.l) (a:=6) (.inr rfl);simp_all
   obtain⟨r,s⟩:=f;rw[m];generalize (Wv w.i x.l).2=c at*;unfold cX;simp only;rw[Wa Ω];by_cases j:c.g=6
   .rw[Wb j];have b:(if x.H=2 then(6:Int)else 7)=6\/(if x.H=2 then(6:Int)else 7)=7:=by split<;>simp
    generalize (if x.H=2 then(6:Int)else 7)=a at*;have g:stl {x with ED:=c.F,l:={},g:=a}=true:=WP.2 (.inr (.inr ⟨b,l⟩));refine⟨g,?_,rfl,rfl,rfl⟩;unfold Wn
    grind
   .rw[Wa j];have g:stl {x with l:=c}=true:=WP.2 (.inr (.inl ⟨d,Ψ⟩));refine⟨g,?_,rfl,rfl,rfl⟩;simp_all [Wn,Wb]
  .split
   .simp_all
   simp_all
theorem Wvv(q:RX x)(v:0<=x.g/\x.g<=8):RS w x (WS w x k p):=by
 have c:x.g<=4->stl x=false:=λh=>by rw[nn,Ne,WP];omega
 unfold WS;by_cases A:x.U=true/\1<=x.g/\x.g<=4
 .rw[Wb A];exact⟨⟨(λA=>by cases A),λh=>by(change (6:Int)=5 at h;omega)⟩,Stay.un (c Ω) (Xt _),Xt _,[],Δ⟩
 rw[Wa A];have d:x.g≠5->x.U=false:=λe=>by
  rw[nn];intro h;rcases q.doom h with f|f
  .simp_all
  omega
 by_cases g:x.g=0
 .rw[Wb g];exact(WBl (d Ω) Ω).rs (c Ω)
 rw[Wa g];by_cases f:x.g=1
 .rw[Wb f];exact(WB1 (d Ω) Ω).rs (c Ω)
 rw[Wa f];by_cases i:x.g=2
 .rw[Wb i];exact(WwH (d Ω) Ω).rs (c Ω)
 rw[Wa i];by_cases j:x.g=3
 .rw[Wb j];exact(XN (d Ω) Ω).rs (c Ω)
 rw[Wa j];by_cases l:x.g=4
 .rw[Wb l];exact(XV (d Ω) Ω).rs (c Ω)
 rw[Wa l];by_cases e:x.g=5
 .simp_all [Wb,WvR]
 rw[Wa e];by_cases m:x.g=6
 .rw[Wb m];have s:∀a,a≠5->RX {x with g:=a}:=λa t=>⟨(λA=>Ψ),λh=>Wh h t⟩;by_cases r:x.y.length>0
  .rw[Wb r];refine⟨⟨(λA=>by(change x.U=true at A;simp_all)),λh=>Wh h e⟩,⟨Xt _,λB=>?_⟩,Xt _,[],by simp[ez]⟩;have b:stl (ez w x).2=true:=by
    have:=WP.1 B;rw[WP];show x.g=8\/(x.g=5/\_)\/((x.g=6\/x.g=7)/\x.H≠0);omega
   refine⟨b,?_,rfl,rfl,rfl⟩;unfold Wn;rw[Wb b,Wb B];rfl
  .rw[Wa r];refine⟨s 7 Ω,⟨Xt _,λB=>?_⟩,Xt _,[],Δ⟩;have b:stl {x with g:=7}=true:=by
    have:=WP.1 B;exact WP.2 (.inr (.inr ⟨.inr rfl,Ψ⟩))
   refine⟨b,?_,rfl,rfl,rfl⟩;unfold Wn;rw[Wb b,Wb B,Wa e,Wa Ψ]
 rw[Wa m];by_cases n:x.g=7
 .rw[Wb n];by_cases o:x.H=0
  .rw[Wb o];have u:stl x=false:=by rw[nn,Ne,WP];omega
   exact⟨⟨(λA=>by cases A),λh=>Ψ⟩,Stay.un u Θ,Xt _,[],Δ⟩
  .rw[Wa o];refine⟨⟨(λA=>by cases A),λh=>by(change (8:Int)=5 at h;omega)⟩,⟨Xt _,λB=>?_⟩,Xt _,[],by simp[gi]⟩;have b:stl (gi {w with a:=W1 w.a ((k:Int)+1)} x k).2=true:=WP.2 (.inl rfl);refine⟨b,?_,rfl,rfl,rfl⟩;unfold Wn;rw[Wb b,Wb B,Wa e];rfl
 .rw[Wa n];exact⟨q,Stay.refl x,Xt _,[],Δ⟩
end
def WX(w:Wo):Prop:=∀(i:Nat) (h:i<w.c.length),RX w.c[i]
structure WStay(w v:Wo):Prop where
 len:w.c.length=v.c.length
 x:∀(i:Nat) (h:i<w.c.length) (h':i<v.c.length),Stay w.c[i] v.c[i]
 C:∃l,v.C=w.C++l
 K:w.i.1<=v.i.1
section
variable{s:Sc}{w v u:Wo}{n:Int}{a:Ac}{k:Nat}
theorem WStay.refl(w):WStay w w:=⟨rfl,λi h a=>Stay.refl _,⟨[],Δ⟩,Xt _⟩
theorem WStay.trans(h:WStay w v)(c:WStay v u):WStay w u:=by
 obtain⟨l,e⟩:=h.C;obtain⟨f,d⟩:=c.C;exact⟨h.len.trans c.len,λi a b=>(h.x i a (by rw[<-h.len];exact a)).trans (c.x i (by rw[<-h.len];exact a) b),⟨l++f,by rw[d,e,List.append_assoc]⟩,EF h.K c.K⟩
theorem Qv{q}{b}(g:WX b)(hk)(d:q.1.c=b.c)(h:RS b b.c[k] q):WX (Wo.put q k)/\WStay b (Wo.put q k):=by
 have e:(q.1.c.set k q.2).length=b.c.length:=by rw[Xx,d]
 refine⟨λi c=>?_,e.symm,λi c f=>?_,h.C,h.K⟩
 .change i<(q.1.c.set k q.2).length at c;show RX (q.1.c.set k q.2)[i];rw[fE];by_cases a:k=i
  .rw[Wb a];exact h.rx
  .rw[Wa a];simp only[d];exact g i Ω
 .have DK:i<(q.1.c.set k q.2).length:=f;show Stay _ ((q.1.c.set k q.2)[i]'DK);rw[fE];by_cases a:k=i
  .subst a;rw[Wb rfl];exact h.stay
  simp_all [Wa,Stay.refl]
theorem qu(h:WOk s.2.1 n w)(hk):(WS {w with j:=w.j+1} w.c[k] k (s.2.1.getD k pg0)).1.c=w.c:=
 (Dj (w:={w with j:=w.j+1}) (k:=k) (uX h.O (by rw[<-h.len];exact hk)) ⟨h.i,h.D,h.a⟩ (h.x k hk) (by have:=h.l4;have:=h.len;omega) h.n0).c
theorem C3(h:WOk s.2.1 n w)(g:WX w):WX (aq s w a)/\WStay w (aq s w a):=by
 have e:WX {w with j:=w.j+1}:=g;have f:WStay w {w with j:=w.j+1}:=⟨rfl,λi h k=>Stay.refl _,⟨[],Δ⟩,Xt _⟩;unfold aq;simp only;split
 .have hk:a.2.1.toNat<w.c.length:=Ω
  rw[Wk hk];have b:=g _ hk;split
  .unfold m9;rw[Wk (hk)];obtain⟨c,d⟩:=Qv (b:={w with j:=w.j+1}) e hk (qu h hk) (Wvv b (h.x _ hk).g);exact⟨c,f.trans d⟩
  .split
   .split
    .obtain⟨c,d⟩:=Qv (b:={w with j:=w.j+1}) (q:=({w with j:=w.j+1},{w.c[a.2.1.toNat]with n:=aC w.i w.c[a.2.1.toNat].n a.2.2.toNat ((s.2.1.getD a.2.1.toNat pg0).2.getD a.2.2.toNat [])})) e hk rfl
      ⟨⟨b.doom,b.H⟩,Stay.un (by simp_all [nn,Ne,WP]) (Xt _),Xt _,[],Δ⟩
     exact⟨c,f.trans d⟩
    simp_all
   .split
    .split
     .rename_i hf;have j:stl w.c[a.2.1.toNat]=false:=by rw[nn,Ne,WP];omega
      obtain⟨c,d⟩:=Qv (b:={w with j:=w.j+1}) (q:=({w with j:=w.j+1},{w.c[a.2.1.toNat]with U:=true})) e hk rfl
       ⟨⟨λ_=>hf,b.H⟩,Stay.un j (Xt _),Xt _,[],Δ⟩
      exact⟨c,f.trans d⟩
     simp_all
    simp_all
 simp_all
theorem XS:∀(l:List Ac) (n) (w),WOk s.2.1 n w->WX w->WX (l.foldl (aq s) w)/\WStay w (l.foldl (aq s) w)
 | [],n,w,h,b=>⟨b,WStay.refl w⟩
 |a::l,n,w,h,b=>by
  obtain⟨c,d⟩:=C3 (a:=a) h b;obtain⟨e,f⟩:=XS l (n+1) _ (nV (a:=a) h) c;exact⟨e,d.trans f⟩
theorem Wz6:WX (aX s):=λi h=>by
 simp only[aX,mw];exact⟨(λa=>by cases a),λh=>Ψ⟩
end
end
section
def c6(c:Cm):Int:=
 if c.g=1 then 3*c.w.length-c.pos+1+c.o.length else
 if c.g=2 then 1+c.o.length+2*c.w.length else
 if c.g=3 then c.o.length-c.pos+2*c.w.length else
 if c.g=4 then 2*c.w.length-c.pos else
 if c.g=5 then c.w.length-c.pos else
 if c.g=7 then c.pos+1 else 0
section
variable{c:Cm}{m:Mm}{n a:Int}
theorem JT(h:CmOk c):0<=c6 c/\c6 c<=33/\(c.g≠6->c.g≠8->1<=c6 c):=by
 have e:=h.g;have b:=h.plen;have d:=h.rlen;have a:=h.pos;unfold Cm.steps at a;unfold c6;have:c.g=1\/c.g=2\/c.g=3\/c.g=4\/c.g=5\/c.g=6\/c.g=7\/c.g=8:=Ω
 rcases this with h|h|h|h|h|h|h|h<;>(rw[h]at a|-;simp at a|-;try omega)
theorem CR(h:0<=n):c6 (cw c n)=n:=by
 unfold cw;split
 .rename_i h0;rw[h0];rfl
 .show(if(7:Int)=1 then _ else if(7:Int)=2 then _ else if(7:Int)=3 then _ else if(7:Int)=4 then _ else if(7:Int)=5 then _ else if(7:Int)=7 then n-1+1 else 0)=n;simp
theorem VY(h:a=2\/a=3\/a=4\/a=5\/a=6):c6 (ei c a)<=if a=2 then 1+c.o.length+2*c.w.length else if a=3 then c.o.length+2*c.w.length else if a=4 then 2*c.w.length else if a=5 then c.w.length else 0:=by
 obtain⟨d,b⟩:∃d,bm c a=d:=⟨_,rfl⟩;have:d=a\/d=6\/(a=3/\d=4):=by
  unfold bm at b;split at b
  .omega
  .split at b<;>omega
 have e:c6 (ei c a)=c6 {c with g:=d,pos:=0}:=by unfold ei;rw[b]
 rw[e];unfold c6;simp only;rcases h with rfl|rfl|rfl|rfl|rfl<;>rcases this with rfl|rfl|⟨_,rfl⟩<;>simp<;>omega
theorem JG(h:CmOk c)(d:c.g=1/\a=2\/c.g=3/\a=4\/c.g=4/\a=5\/c.g=5/\a=6):c6 (Wz c a)<c6 c:=by
 have b:=h.pos;have e:=VY (c:=c) (a:=a) Ω;unfold Cm.steps at b;unfold Wz;split
 .rename_i g;refine D7 e ?_;unfold Cm.steps at g;unfold c6;rcases d with⟨f,rfl⟩|⟨f,rfl⟩|⟨f,rfl⟩|⟨f,rfl⟩<;>(rw[f]at b g|-;simp at b g|-;omega)
 .unfold c6;simp only;rcases d with⟨f,rfl⟩|⟨f,rfl⟩|⟨f,rfl⟩|⟨f,rfl⟩<;>(rw[f];simp;omega)
theorem Wqq(h:CmOk c)(k:c.g≠6)(l:c.g≠8):c6 (Wv m c).2<c6 c:=by
 have n:=h.g;have i:=h.plen;have j:=h.rlen;have a:=h.pos;unfold Cm.steps at a;unfold Wv;simp only;by_cases b:c.g=1
 .rw[Wb b];split
  .exact JG h (.inl ⟨b,rfl⟩)
  .show c6 (cw c c.pos)<_;rw[CR a.1];unfold c6;rw[b]at a|-;simp at a|-;omega
 rw[Wa b];by_cases d:c.g=2
 .rw[Wb d];split
  .show c6 (cw c c.w.length)<_;rw[CR Ω];unfold c6;rw[d]at a|-;simp at a|-;omega
  .refine D7 (VY (c:={c with F:=(tick m).2}) (.inr (.inl rfl))) ?_;unfold c6;rw[d]at a|-;simp at a|-;omega
 rw[Wa d];by_cases e:c.g=3
 .rw[Wb e];split
  .show c6 (cw c c.w.length)<_;rw[CR Ω];unfold c6;rw[e]at a|-;simp at a|-;omega
  .exact JG h (.inr (.inl ⟨e,rfl⟩))
 rw[Wa e];by_cases f:c.g=4
 .rw[Wb f];exact JG h (.inr (.inr (.inl ⟨f,rfl⟩)))
 rw[Wa f];by_cases g:c.g=5
 .rw[Wb g];exact JG h (.inr (.inr (.inr ⟨g,rfl⟩)))
 rw[Wa g,Wb (Ω:c.g=7)];show c6 (cw c c.pos)<_;rw[CR a.1];unfold c6;rw[show c.g=7 by omega];simp;omega
theorem WpN(h:CmOk c):c6 (WY c)<=c6 c/\(c.g<=3->c6 (WY c)<c6 c):=by
 have d:=h.g;have a:=h.pos;unfold Cm.steps at a;unfold WY;by_cases b:c.g=1
 .rw[Wb b,CR a.1];unfold c6;rw[b]at a|-;simp at a|-;omega
 rw[Wa b];split
 .rename_i zF;rw[CR Ω];rcases zF with p|p<;>(unfold c6;rw[p]at a|-;simp at a|-;omega)
 .exact⟨Xt _,λh=>Ω⟩
end
end
section
def qL(f:Fm):List Kd->Int
 | []=>0
 |x::l=>if cd x=1/\qL f l<=fP f x+fQ f then fP f x+fQ f else qL f l
def j3(f:Fm):Int:=qL f f.κ
theorem LI(f):∀(l),0<=qL f l
 | []=>Xt _
 |x::l=>by have:=LI f l;rw[qL];split<;>omega
theorem Lr{f}{b}:∀{l},0<=b->(∀x∈l,cd x=1->fP f x+fQ f<=b)->qL f l<=b
 | [],h,_=>h
 |x::l,h,hl=>by
  have c:=Lr (f:=f) h λy a=>hl y (List.mem_cons_of_mem _ a);rw[qL];split
  .rename_i hc;exact hl x (List.mem_cons_self ..) hc.1
  .exact c
theorem RE{f}:∀{l},∀x∈l,cd x=1->fP f x+fQ f<=qL f l
 | [],x,h,_=>by cases h
 |y::l,x,h,a=>by
  rw[qL];rcases List.mem_cons.1 h with rfl|h
  .split
   .exact Xt _
   .rename_i hc;by_cases b:qL f l<=fP f x+fQ f
    .exact Wh ⟨a,b⟩ hc
    .omega
  .have:=RE (f:=f) x h a;split<;>omega
variable{a:List (List Opn)}{n:Int}{f g:Fm}{m:Mm}
theorem WDF(e:FOk a n f)(m:∀c∈a,c.length<=24):0<=fQ f:=by
 have i:bF (λ_=>0) f.κ<=bF (cy f.K) f.κ:=by
  refine Hh λx o=>?_;obtain⟨k,h,rfl⟩:=cN o;have d:k<a.length:=by rw[<-e.len];exact h
  have g:=e.kid k h;rw[Wk d]at g;have q:=(Gy g (m _ (Xm d))).1;have b:=rM f.K f.κ[k];unfold cy;omega
 have j:∀l:List Kd,bF (λ_=>0) l=0:=λl=>by induction l with
  |nil=>rfl
  |cons x l ih=>simp only[bF,bo,sO]at*;omega
 rw[j]at i;have p:0<=tri (dY f):=by
  unfold tri;split
  .omega
  .split<;>omega
 unfold fQ;omega
theorem WDJ(i:FOk a n f)(o:∀c∈a,c.length<=24)(A:∀(j) (h),KT f j f.κ[j]){k}(e:k<f.κ.length)(p:cd f.κ[k]=1):1<=fP f f.κ[k]+fQ f:=by
 have J:=WDF i o;have t:k<a.length:=by rw[<-i.len];exact e
 have d:=i.kid k e;rw[Wk t]at d;have s:=o _ (Xm t);obtain⟨M,N,C⟩:=Qu d s (A k e).E;have P:=rM f.K f.κ[k];have L:1<=dY f:=by
  unfold dY;have:=qg (g:=cd) (y:=f.κ[k]) e;have m:0<=bF cd (f.κ.set k {g:=3}):=(K7 {f with κ:=f.κ.set k {g:=3}}).1;rw[qg e,p]at m;have:cd ({g:=3}:Kd)=0:=rfl;omega
 by_cases D:f.κ[k].g=0
 .have:=C D;unfold fP;omega
 .
  obtain⟨G,H,w,z⟩:=Gy d s;have F:=d.g;have K:f.κ[k].g≠3:=λu=>by unfold cd at p;rw[Wb u]at p;omega
  have I:1<=hJ f.κ[k]:=by
   by_cases E:f.κ[k].g=2
   .exact(w E).1
   .have:=z (.inr Ω);omega
  have b:cy f.K f.κ[k]<=bF (cy f.K) f.κ:=by
   have m:bF (λ_=>0) (f.κ.set k {g:=3})<=bF (cy f.K) (f.κ.set k {g:=3}):=by
    refine Hh λx q=>?_;rcases Xew q with q|rfl
    .obtain⟨j,v,rfl⟩:=cN q;have r:j<a.length:=by rw[<-i.len];exact v
     have d:=i.kid j v;rw[Wk r]at d;have O:=(Gy d (o _ (Xm r))).1;have P:=rM f.K f.κ[j];unfold cy;omega
    .unfold cy hJ eV;simp
   have B:∀l:List Kd,bF (λ_=>0) l=0:=λl=>by induction l with
    |nil=>rfl
    |cons x l ih=>simp only[bF,bo,sO]at*;omega
   rw[B,qg e]at m;have:cy f.K ({g:=3}:Kd)=0:=by unfold cy hJ eV;simp
   omega
  have u:0<=tri (dY f):=by
   unfold tri;split
   .omega
   .split<;>omega
  unfold fP fQ;unfold cy at b;unfold cy;omega
end
section
theorem WxK{l}{j e}(f:CC l)(g:Mate l j e)(b:∃h:j<l.length,l[j].1=8):∀i,j<i->i<=e->dep l j<dep l i/\frk l i=frk l (j+1):=λi w o=>by
 obtain⟨m,b⟩:=b;have p:=g.len;have c:∀d,j+1+d<=e->dep l j<dep l (j+1+d)/\frk l (j+1+d)=frk l (j+1):=λd=>by
  induction d with
  |zero=>intro _;rw[Nat.add_zero,iw m,HH b];exact⟨Ω,rfl⟩
  |succ d ih=>
   intro t;obtain⟨u,n⟩:=ih Ω;have a:j+1+d<l.length:=Ω
   have s:=AC l[j+1+d];have v:=iw a;have q:=g.ne (j+1+d) Ω Ω;refine⟨by rw[show j+1+(d+1)=j+1+d+1 by omega];omega,?_⟩;rw[show j+1+(d+1)=j+1+d+1 by omega,uA a,n];have:¬l[j+1+d].1=11:=λk=>by
    have r:=(f.fk _ a k).1;have:=f.up.at (j:=j) Ω;omega
   rw[show(l[j+1+d].1==11)=false by simpa using this];rfl
 have:=c (i-(j+1)) Ω;rw[show j+1+(i-(j+1))=i by omega]at this;exact this
def qY(x:Rt):Int:=if x.L=true then x.E.2.1 else 0
def dD(p:Pg)(a:Int):Int:=382*(1-frk p.1 a.toNat)
def cY(x:Rt):Int:=x.y.length+146*(2-x.Ez)+36
def WC(p:Pg)(x:Rt):Int:=
 if x.g=1 then 75-3*x.k-qY x+dD p x.k+cY x else
 if x.g=2 then(if x.n.Ey=true then x.y.length+3 else 73-3*x.k+j3 x.n+cY x)else
 if x.g=3 then x.last.2.1+74-3*x.last.1+dD p x.k+cY x else
 if x.g=4 then x.last.2.1-x.pos+73-3*x.last.1+dD p x.k+cY x else
 if x.g=5 then c6 x.l+x.y.length+3 else
 if x.g=6 then x.y.length+2 else
 if x.g=7 then 1 else 0
structure RT(x:Rt):Prop where
 E:x.L=true->x.E.2.1=1\/x.E.2.1=2
 n:x.g=2->x.n.Ey=true\/∀(j:Nat) (h:j<x.n.κ.length),KT x.n j x.n.κ[j]
 l:x.g=5->x.l.g≠6/\x.l.g≠8
variable{w:Wo}{x y:Rt}{k:Nat}{p:Pg}{n:Int}{o:Opn}
theorem Af(h:RT x):0<=qY x/\qY x<=2:=by
 unfold qY;split
 .have:=h.E ‹_›;omega
 .omega
theorem XH{a b}(h:a<=b):dD p b<=dD p a:=by
 have:=GP p.1 (Ω:a.toNat<=b.toNat);unfold dD;omega
theorem Se(b:CC p.1){a:Int}(h:a<=p.1.length):0<=dD p a:=by
 have:=rS b a.toNat Ω;unfold dD;omega
theorem nX(h:x.g=1):WC p x=75-3*x.k-qY x+dD p x.k+cY x:=by unfold WC;rw[Wb h]
theorem RK(h:x.g=6):WC p x=x.y.length+2:=by unfold WC;rw[h];simp
theorem JM:WC p (dE x)=x.y.length+2:=RK rfl
theorem KX(g:x.g=1)(d:y.g=1)(e:x.k+1<=y.k)(b:y.L=x.L)(c:y.E=x.E)(a:y.Ez=x.Ez)(f:(y.y.length:Int)<=x.y.length+1):WC p y<WC p x:=by
 rw[nX g,nX d];have:=XH (p:=p) (Ω:x.k<=y.k);unfold qY cY;rw[b,c,a];omega
end
section
variable{w:Wo}{x y:Rt}{k:Nat}{p:Pg}{n:Int}{o:Opn}
theorem Gz(a:CC p.1)(d:RLive p n x)(e:RT x)(c:x.g=1):(x.y.length:Int)+37+146*(2-x.Ez)<=WC p x:=by
 rw[nX c];have g:=Af e;have b:=d.k;have f:=a.len;have:=Se a b.2;unfold cY;omega
theorem Vm(b:CC p.1)(i:RLive p n x)(f:RT x)(d:x.g=1){out}(c:0<=x.u/\x.u<=1000000)(g:k<=8):WC p (W9 w x k out).2<WC p x:=by
 have h:=Gz b i f d;have j:=i.Ez;unfold W9;simp only;generalize (if out=2 then []else x.A)=a;split
 .show WC p (gi w {x with H:=out,ED:=x.u} k).2<_;have:WC p (gi w {x with H:=out,ED:=x.u} k).2=0:=rfl;omega
 .have hc:CmOk (cx ((k:Int)+1) x.u a x.o):=Qp Ω c;have:=(JT hc).2.1;have e:WC p ({x with H:=out,l:=cx ((k:Int)+1) x.u a x.o,g:=5}:Rt)=c6 (cx ((k:Int)+1) x.u a x.o)+x.y.length+3:=rfl;show WC p ({x with H:=out,l:=cx ((k:Int)+1) x.u a x.o,g:=5}:Rt)<_;rw[e];omega
theorem La(a:CC p.1)(e:RLive p n x)(r:x.m.length≠0):0<=x.last.1/\x.last.1<x.k/\0<=x.last.2.1/\x.last.2.1<=x.last.1+72/\dD p (x.last.1+1)=dD p x.k:=by
 have c:=e.m;have u:=e.k;obtain⟨j,q,y,g,h,i,l,t,f,s,v,w⟩:=xQ (d:=zRM) a (Ω:x.k.toNat<=p.1.length) c.Z r;have k:x.last=y:=h;have b:=(c.I y (by rw[g];simp)).2.1;have m:=(WxK a f l x.k.toNat t s).2;have o:=rS a j Ω;rw[k];rw[i]at b|-;rw[Xf]at b;refine⟨Ω,Ω,b.1,Ω,?_⟩;unfold dD;rw[m,show((j:Int)+1).toNat=j+1 by omega]
theorem Us(c:CC p.1)(u:RLive p n x)(f:RT x)(d:x.g=1){b}{q}:WC p (WA {x with L:=b,E:=q})<WC p x:=by
 have t:=Gz c u f d;have a:=u.Ez;unfold WA;split
 .have e:WC p (dE ({x with L:=b,E:=q}:Rt))=x.y.length+2:=rfl;rw[e];omega
 .rename_i hc;have g:=λh=>hc (.inl h);obtain⟨l,m,o,r,s⟩:=La c u g;have k:=Af f;have i:=u.k;have j:=c.len;rw[nX d];have e:WC p ({x with L:=false,E:=(0,0,0,0),Ez:=x.Ez+1,g:=3}:Rt)=x.last.2.1+74-3*x.last.1+dD p x.k+(x.y.length+146*(2-(x.Ez+1))+36):=rfl;show WC p ({x with L:=false,E:=(0,0,0,0),Ez:=x.Ez+1,g:=3}:Rt)<_;rw[e];unfold cY;omega
theorem Ws5(c:CC p.1)(d:RLive p n x)(b:RT x)(h:x.g=1):WC p (dX w x o)<WC p x:=by
 have g:=Af b;unfold dX;cases bf x.A o.2.2.1 with
 |some v=>exact KX h h (Xt _) rfl rfl rfl (by show(x.y.length:Int)<=_;omega)
 |none=>
  simp only;have e:0<=(if x.L=true then x.E else(o.2.2.1,0,0,0)).2.1/\(if x.L=true then x.E else(o.2.2.1,0,0,0)).2.1<=2:=by
   split
   .have:=b.E ‹_›;omega
   .simp
  have f:(if x.L=true then x.E else(o.2.2.1,0,0,0)).2.1=qY x:=by unfold qY;split<;>rfl
  have a:=Rj (m:=w.i) (a:=x.u) e;rw[f]at a;generalize WU w.i x.u (if x.L=true then x.E else(o.2.2.1,0,0,0))=q at*;split
  .exact Us c d b h
  .have hf:=XH (p:=p) (Ω:x.k<=x.k+1);split
   .rw[nX h];refine D7 (L8 (nX h)) ?_;show 75-3*(x.k+1) -0+dD p (x.k+1)+cY x<_;omega
   .rw[nX h];refine D7 (L8 (nX h)) ?_;show 75-3*x.k-q.2.1+dD p x.k+cY x<_;omega
theorem Wwy{a:Type}(l:List a)(h:l.length≠0):(l.dropLast.length:Int)=l.length-1:=by rw[List.length_dropLast];omega
theorem Ps(h:x.g=1\/x.g=3\/x.g=6)(b:x.y.length≠0):WC p (ez w x).2<WC p x:=by
 have a:=Wwy x.y b;have e:WC p (ez w x).2=WC p x-1:=by
  unfold ez WC cY;simp only;rw[a];rcases h with h|h|h
  .rw[Wb h,Wb h];show 75-3*x.k-qY x+dD p x.k+_=_;omega
  .rw[Wa Ω,Wa Ω,Wb h,Wa Ω,Wa Ω,Wb h];show x.last.2.1+74-3*x.last.1+dD p x.k+_=_;omega
  .rw[h];simp;omega
 omega
theorem Wrf(c:CC p.1)(a:RLive p n x)(l:RT x)(b:x.g=1)(h:k<=8):WC p (fV w x k p.1).2<WC p x:=by
 unfold fV;split
 .exact Vm c a l b a.u h
 .rename_i hz;split
  .have hM:=a.m;have u:0<=x.last.2.2.2.1:=by
    have i:x.last∈x.m:=J4 hz _;exact(hM.I _ i).2.2.2.1
   exact Ps (.inl b) Ω
  .have hM:=a.m;have m:=a.k;obtain⟨j,q,y,r,e,f,v,A,o,z,s,t⟩:=xQ (d:=zRM) c Ω hM.Z hz;have g:x.last=y:=e;refine KX b b ?_ rfl rfl rfl (by show(x.y.length:Int)<=_;omega);show x.k+1<=(kR p.1 x.last.1.toNat:Int)+1;rw[g,f,Xf];omega
theorem WqL(c:CC p.1)(d:RLive p n x)(e:RT x)(f:x.g=1):WC p (eN w x k o).2<WC p x:=by
 unfold eN;cases fN w.a ((k:Int)+1) (WO o).1 (WO o).2 with
 |none=>
  have:=Us c d e f (b:=x.L) (q:=x.E);exact this
 |some a=>
  refine KX f f (Xt _) rfl rfl rfl ?_;show((if(WN w.D o x.t).2.2.1=0 then x.y else x.y++ [(WN w.D o x.t).2.2]).length:Int)<=_;split
  .omega
  .simp
theorem WvS(j:CC p.1)(z:p.2.length<=3)(h:RLive p n x)(m:RT x)(g:x.g=1)(q:k<=8)(v:∀a θ C,j3 (cq C a θ p.2.length)<=381):WC p (am w x k p).2<WC p x:=by
 unfold am;split
 .exact Vm j h m g h.u q
 .obtain⟨i,r,s,u⟩:=jV (l:=p.1) h.k.1 (by have:=h.k;omega);simp only[u];have o:∀y:Rt,y.g=1->x.k+1<=y.k->y.L=x.L->y.E=x.E->y.Ez=x.Ez->y.y=x.y->WC p y<WC p x:=λy B b c d e f=>KX g B b c d e (by rw[f];omega);split
  .exact Ws5 j h m g
  .split
   .exact Wrf j h m g q
   .split
    .rename_i eW;rw[nX g];have e:WC p ({x with g:=2,n:=cq x.u x.t x.A p.2.length}:Rt)=73-3*x.k+j3 (cq x.u x.t x.A p.2.length)+cY x:=rfl;show WC p ({x with g:=2,n:=cq x.u x.t x.A p.2.length}:Rt)<_;rw[e];have:=v x.t x.A x.u;have A:=Af m;have t:=rS j (i+1) Ω;rw[uA r,show(p.1[i].1==11)=true by simpa using eW]at t;have:dD p x.k=382:=by
      unfold dD;rw[s,Xf];have:frk p.1 i=0:=by have:Bool.toNat true=1:=rfl;omega
      rw[this];rfl
     omega
    .split
     .exact WqL j h m g
     .split
      .exact o _ g (Xt _) rfl rfl rfl rfl
      .split
       .have q:=pM (j.ok i r).1 ‹_›;refine o _ g ?_ rfl rfl rfl rfl;show x.k+1<=(if ac x.t p.1[i].2.1 0=0 then x.k+p.1[i].2.2.1 else x.k)+1;split<;>omega
       .split
        .exact o _ g (Xt _) rfl rfl rfl rfl
        .split
         .exact o _ g (Xt _) rfl rfl rfl rfl
         .exact o _ g (Xt _) rfl rfl rfl rfl
end
section
variable{w:Wo}{x y:Rt}{k:Nat}{p:Pg}{n:Int}{o:Opn}
theorem Qt(g)(x):∀u:Nat,bF g (Xp u x)=u*g x
 |0=>by simp[bF]
 |u+1=>by
  have:=Qt g x u;simp only[bF,List.replicate_succ,bo,sO]at*;rw[this,Int.natCast_succ,Int.add_mul];omega
theorem Ws4{m}{a}{θ}{u}(h:u<=3):j3 (cq m a θ u)<=381:=by
 have l:(cq m a θ u).κ=Xp u {t:=a}:=rfl;have b:(cq m a θ u).K=0:=rfl;have e:cd ({t:=a}:Kd)=1:=rfl;have f:eV 0 ({t:=a}:Kd)=0:=rfl;have g:cy 0 ({t:=a}:Kd)=26:=rfl;have i:eb ({t:=a}:Kd)=75:=rfl;have c:dY (cq m a θ u)=u:=by unfold dY;rw[l,Qt,e];omega
 have j:fQ (cq m a θ u)=u*26+26*tri u:=by unfold fQ;rw[c,l,b,Qt,g]
 refine Lr Ω λy d _=>?_;rw[l]at d;obtain⟨k,rfl⟩:=List.mem_replicate.1 d;unfold fP;rw[j,c,b,f,i];have:u=1\/u=2\/u=3:=Ω
 rcases this with rfl|rfl|rfl<;>decide
theorem WsO(v:RLive p n x)(d:CC p.1)(o:RT x)(b:x.g=2)(m:x.n.Ey=true\/ig x.n=true):WC p (ch x)<WC p x:=by
 have a:=v.Ez;have e:WC p x=if x.n.Ey=true then(x.y.length:Int)+3 else 73-3*x.k+j3 x.n+cY x:=by unfold WC;rw[Wa Ω,Wb b]
 unfold ch;split
 .rename_i cF;rw[JM,e,Wb cF];omega
 .rename_i cF;rw[Wb (m.resolve_left cF),e,Wa cF];refine D7 (L8 (nX rfl)) ?_;have u:=Af o;have t:=LI x.n x.n.κ;obtain⟨f,g,s⟩:=v.V b;obtain⟨i,j,r,k⟩:=jV (l:=p.1) v.k.1 f;have h:=rS d (i+1) Ω;have c:=uA j;rw[<-k,g]at c;have q:dD p (x.k+1)=0:=by
   unfold dD;have:frk p.1 (i+1)=1:=by rw[c]at h|-;have:((11:Int)==11).toNat=1:=rfl;omega
   rw[show(x.k+1).toNat=i+1 by omega,this];rfl
  show 75-3*(x.k+1) -qY x+dD p (x.k+1)+cY x<73-3*x.k+qL x.n x.n.κ+cY x;rw[q];omega
theorem Wp0(g:CC p.1)(b:RLive p n x)(a:x.g=3):WC p (fK w x).2<WC p x:=by
 have f:=b.back (.inl a);have d:=b.m;unfold fK;split
 .have eD:0<=x.last.2.2.2.1:=(d.I _ (J4 f _)).2.2.2.1;exact Ps (.inr (.inl a)) Ω
 .have e:WC p x=x.last.2.1+74-3*x.last.1+dD p x.k+cY x:=by unfold WC;rw[Wa Ω,Wa Ω,Wb a]
  have c:WC p ({x with EC:=w.i.1,pos:=0,g:=4}:Rt)=x.last.2.1-0+73-3*x.last.1+dD p x.k+cY x:=rfl;show WC p ({x with EC:=w.i.1,pos:=0,g:=4}:Rt)<_;rw[e,c];omega
theorem Wor(c:CC p.1)(s:RLive p n x)(f:RT x)(b:x.g=4):WC p (W6 w x)<WC p x:=by
 have g:=s.back (.inr b);have a:=s.Ez;have j:=s.pos b;obtain⟨l,m,o,q,h⟩:=La c s g;have d:=s.k;have i:=c.len;have r:=Se c d.2;have k:=Af f;have e:WC p x=x.last.2.1-x.pos+73-3*x.last.1+dD p x.k+cY x:=by unfold WC;rw[Wa Ω,Wa Ω,Wa Ω,Wb b]
 unfold W6;split
 .simp only;split
  .rw[JM,e];unfold cY;omega
  .have e':WC p ({x with pos:=x.pos+1}:Rt)=x.last.2.1-(x.pos+1)+73-3*x.last.1+dD p x.k+cY x:=by
    unfold WC;rw[Wa (show¬x.g=1 by omega),Wa (show¬x.g=2 by omega),Wa (show¬x.g=3 by omega),Wb b];rfl
   rw[e,e'];omega
 .rw[e];refine D7 (L8 (nX rfl)) ?_;show 75-3*(x.last.1+1) -qY x+dD p (x.last.1+1)+cY x<_;rw[h];omega
theorem WpG(d:CmOk x.l)(b:x.g=5)(i:x.l.g≠6/\x.l.g≠8)(g:x.U=true->x.l.g<=3):WC p (W7 w x k).2<WC p x:=by
 have e:WC p x=c6 x.l+x.y.length+3:=by unfold WC;rw[b];rfl
 have h:=(JT d).2.2 i.1 i.2;unfold W7;split
 .rename_i hd;simp only;split
  .rw[JM,e];omega
  .have e':WC p ({x with l:=WY x.l,U:=false}:Rt)=c6 (WY x.l)+x.y.length+3:=by
    unfold WC;show(if x.g=1 then _ else _)=_;rw[b];rfl
   rw[e',e];have:=(WpN d).2 (g hd);omega
 .have a:=Wqq (m:=w.i) d i.1 i.2;show WC p (cX {x with l:=(Wv w.i x.l).2})<_;generalize (Wv w.i x.l).2=c at*;unfold cX;split
  .have e':WC p (dE ({x with l:=c}:Rt))=x.y.length+2:=rfl;rw[e',e];omega
  .split
   .rw[e];by_cases f:x.H=2
    .have e':WC p ({x with ED:=c.F,l:={},g:=if x.H=2 then 6 else 7}:Rt)=x.y.length+2:=by rw[Wb f];rfl
     show WC p ({x with ED:=c.F,l:={},g:=if x.H=2 then 6 else 7}:Rt)<_;rw[e'];omega
    .have e':WC p ({x with ED:=c.F,l:={},g:=if x.H=2 then 6 else 7}:Rt)=1:=by rw[Wa f];rfl
     show WC p ({x with ED:=c.F,l:={},g:=if x.H=2 then 6 else 7}:Rt)<_;rw[e'];omega
   .have e':WC p ({x with l:=c}:Rt)=c6 c+x.y.length+3:=by
     unfold WC;show(if x.g=1 then _ else _)=_;rw[b];rfl
    rw[e',e];omega
end
section
variable{w:Wo}{x y:Rt}{k:Nat}{p:Pg}{n:Int}{o:Opn}
theorem RT.of(h:RT x)(d:y.L=x.L)(e:y.E=x.E)(b:y.g≠2)(c:y.g≠5):RT y:=
 ⟨λa=>by rw[e];exact h.E (d▸a),λa=>Wh a b,λa=>Wh a c⟩
theorem RT.no(d:y.L=false)(b:y.g≠2)(c:y.g≠5):RT y:=
 ⟨(λa=>by rw[d]at a;cases a),λa=>Wh a b,λa=>Wh a c⟩
theorem Df:RT (dE x):=RT.no rfl (by show(6:Int)≠2;omega) (by show(6:Int)≠5;omega)
theorem UN:RT (WA x):=by
 unfold WA;split
 .exact Df
 .exact RT.no rfl (by show(3:Int)≠2;omega) (by show(3:Int)≠5;omega)
theorem XM(h:RT x){out}:RT (W9 w x k out).2:=by
 unfold W9;simp only;generalize (if out=2 then []else x.A)=a;split
 .exact h.of rfl rfl (by show(8:Int)≠2;omega) (by show(8:Int)≠5;omega)
 .refine⟨h.E,λb=>by(change (5:Int)=2 at b;omega),λ_=>?_⟩;have e:(cx ((k:Int)+1) x.u a x.o).g=if(al a).length=0 then 2 else 1:=rfl;show(cx ((k:Int)+1) x.u a x.o).g≠6/\(cx ((k:Int)+1) x.u a x.o).g≠8;rw[e];split<;>omega
theorem Wzi(h:RT x)(e:x.g=1):RT (dX w x o):=by
 have b:∀y:Rt,y.g=1->y.g≠2/\y.g≠5:=λy c=>Ω
 unfold dX;cases bf x.A o.2.2.1 with
 |some v=>exact h.of rfl rfl (b _ e).1 (b _ e).2
 |none=>
  simp only;have d:0<=(if x.L=true then x.E else(o.2.2.1,0,0,0)).2.1/\(if x.L=true then x.E else(o.2.2.1,0,0,0)).2.1<=2:=by
   split
   .have:=h.E ‹_›;omega
   .simp
  have a:=Rj (m:=w.i) (a:=x.u) d;generalize (if x.L=true then x.E else(o.2.2.1,0,0,0))=q0 at*;generalize WU w.i x.u q0=q at*;split
  .exact UN
  .split
   .exact RT.no rfl (b _ e).1 (b _ e).2
   .exact⟨λ_=>by show q.2.1=1\/q.2.1=2;omega,λc=>Wh c (b _ e).1,λc=>Wh c (b _ e).2⟩
theorem Wvn{c}{a}{θ}{u}(j)(h):KT (cq c a θ u) j (cq c a θ u).κ[j]:=by
 have e:(cq c a θ u).κ[j]={t:=a}:=by simp[cq,mw]
 rw[e];refine⟨(λh=>by cases h),?_,λ_ e b=>by cases b⟩;show(0:Int)=(j:Int)+1↔(0:Int)=2;omega
theorem WAT(h:RT x)(e:x.g=1):RT (am w x k p).2:=by
 have b:∀y:Rt,y.g=1->y.g≠2/\y.g≠5:=λy c=>Ω
 unfold am;split
 .exact XM h
 .simp only;generalize opN p.1 x.k=o;split
  .exact Wzi h e
  .split
   .unfold fV;split
    .exact XM h
    .split
     .exact h.of rfl rfl (b _ e).1 (b _ e).2
     .exact h.of rfl rfl (b _ e).1 (b _ e).2
   .split
    .exact⟨h.E,λ_=>.inr λj d=>Wvn j d,λc=>by(change (2:Int)=5 at c;omega)⟩
    .split
     .unfold eN;cases fN w.a ((k:Int)+1) (WO o).1 (WO o).2 with
      |none=>exact UN
      |some a=>exact h.of rfl rfl (b _ e).1 (b _ e).2
     .repeat' split
      all_goals exact h.of rfl rfl (b _ e).1 (b _ e).2
theorem Wtd(h:RT x)(d:x.g=5):RT (W7 w x k).2:=by
 unfold W7;split
 .simp only;split
  .exact Df
  .rename_i a;refine⟨h.E,λb=>by(change x.g=2 at b;omega),λ_=>⟨?_,a⟩⟩;have:=(h.l d).1;show(WY x.l).g≠6;unfold WY cw
   repeat' split
   all_goals first|(simp only;omega)|exact this
 .show RT (cX {x with l:=(Wv w.i x.l).2});generalize (Wv w.i x.l).2=c;unfold cX;split
  .exact Df
  .rename_i a;split
   .have:(if x.H=2 then(6:Int)else 7)≠2/\(if x.H=2 then(6:Int)else 7)≠5:=by split<;>omega
    exact h.of rfl rfl this.1 this.2
   .rename_i e;exact⟨h.E,λb=>by(change x.g=2 at b;omega),λ_=>⟨e,a⟩⟩
theorem ZH(h:RT x):RT (WS w x k p).2:=by
 unfold WS;by_cases j:x.U=true/\1<=x.g/\x.g<=4
 .rw[Wb j];exact Df
 rw[Wa j];by_cases c:x.g=0
 .rw[Wb c];unfold gH;split
  .exact h
  .split
   .exact h
   .split
    .exact h
    .exact RT.no rfl (by show(1:Int)≠2;omega) (by show(1:Int)≠5;omega)
 rw[Wa c];by_cases a:x.g=1
 .rw[Wb a];exact WAT h a
 rw[Wa a];by_cases d:x.g=2
 .rw[Wb d];show RT (ch x);unfold ch;split
  .exact Df
  .split
   .exact h.of rfl rfl (by show(1:Int)≠2;omega) (by show(1:Int)≠5;omega)
   .exact h
 rw[Wa d];by_cases e:x.g=3
 .rw[Wb e];unfold fK;split
  .exact h.of rfl rfl (by show x.g≠2;omega) (by show x.g≠5;omega)
  .exact h.of rfl rfl (by show(4:Int)≠2;omega) (by show(4:Int)≠5;omega)
 rw[Wa e];by_cases f:x.g=4
 .rw[Wb f];show RT (W6 w x);unfold W6;simp only;split
  .split
   .exact Df
   .exact h.of rfl rfl (by show x.g≠2;omega) (by show x.g≠5;omega)
  .exact h.of rfl rfl (by show(1:Int)≠2;omega) (by show(1:Int)≠5;omega)
 rw[Wa f];by_cases b:x.g=5
 .rw[Wb b];exact Wtd h b
 rw[Wa b];by_cases g:x.g=6
 .rw[Wb g];by_cases m:x.y.length>0
  .rw[Wb m];exact h.of rfl rfl (by show x.g≠2;omega) (by show x.g≠5;omega)
  .rw[Wa m];exact h.of rfl rfl (by show(7:Int)≠2;omega) (by show(7:Int)≠5;omega)
 rw[Wa g];by_cases i:x.g=7
 .rw[Wb i];by_cases l:x.H=0
  .rw[Wb l];exact RT.no rfl (by show(0:Int)≠2;omega) (by show(0:Int)≠5;omega)
  .rw[Wa l];exact h.of rfl rfl (by show(8:Int)≠2;omega) (by show(8:Int)≠5;omega)
 .rw[Wa i];exact h
end
section
variable{w:Wo}{x y:Rt}{k:Nat}{p:Pg}{n:Int}{o:Opn}{f:Fm}{a:List (List Opn)}
theorem ZA(c:POk p)(j:ROk p n x)(i:RT x)(h:1<=x.g/\x.g<=4):(x.y.length:Int)+3<=WC p x:=by
 have a:=j.Ev h;have b:=a.Ez;have l:=c.Y.len;by_cases d:x.g=1
 .have:=Gz c.Y a i d;omega
 by_cases z:x.g=2
 .have f:=a.k;obtain⟨o,q,r⟩:=a.V z;have e:WC p x=if x.n.Ey=true then(x.y.length:Int)+3 else 73-3*x.k+j3 x.n+cY x:=by unfold WC;rw[Wa Ω,Wb z]
  rw[e];split
  .omega
  .have:=LI x.n x.n.κ;unfold j3 cY;omega
 have k:=a.back Ω;obtain⟨s,t,u,v,w⟩:=La c.Y a k;have f:=a.k;have y:=Se c.Y f.2;by_cases g:x.g=3
 .have e:WC p x=x.last.2.1+74-3*x.last.1+dD p x.k+cY x:=by unfold WC;rw[Wa d,Wa z,Wb g]
  rw[e];unfold cY;omega
 .have h4:x.g=4:=Ω
  have m:=a.pos h4;have e:WC p x=x.last.2.1-x.pos+73-3*x.last.1+dD p x.k+cY x:=by unfold WC;rw[Wa d,Wa z,Wa g,Wb h4]
  rw[e];unfold cY;omega
theorem VZ(a:POk p)(z:ROk p n x)(v:RX x)(f:RT x)(t:k<=8)(h:1<=x.g/\x.g<=7):
  WC p (WS w x k p).2<WC p x\/(x.g=2/\x.n.Ey≠true/\ig x.n≠true/\(WS w x k p).2=x):=by
 unfold WS;by_cases o:x.U=true/\1<=x.g/\x.g<=4
 .rw[Wb o];have:=ZA a z f o.2;left;show WC p (dE x)<_;rw[JM];omega
 rw[Wa o,Wa Ω];by_cases j:x.g=1
 .rw[Wb j];exact .inl (WvS a.Y a.k3 (z.Ev Ω) f j t λs θ b=>Ws4 a.k3)
 rw[Wa j];by_cases g:x.g=2
 .rw[Wb g];by_cases d:x.n.Ey=true\/ig x.n=true
  .exact .inl (WsO (z.Ev Ω) a.Y f g d)
  .refine .inr ⟨g,λh=>d (.inl h),λh=>d (.inr h),?_⟩;show ch x=x;unfold ch;rw[Wa (λh=>d (.inl h)),Wa (λh=>d (.inr h))]
 rw[Wa g];by_cases l:x.g=3
 .rw[Wb l];exact .inl (Wp0 a.Y (z.Ev Ω) l)
 rw[Wa l];by_cases m:x.g=4
 .rw[Wb m];exact .inl (Wor a.Y (z.Ev Ω) f m)
 rw[Wa m];by_cases c:x.g=5
 .rw[Wb c];exact .inl (WpG (z.R c) c (f.l c) λu=>by
   rcases v.doom u with h|h
   .omega
   .exact h.2)
 rw[Wa c];left;by_cases i:x.g=6
 .rw[Wb i];by_cases r:x.y.length>0
  .rw[Wb r];exact Ps (.inr (.inr i)) Ω
  .rw[Wa r,RK i];show(1:Int)<_;omega
 .rw[Wa i,Wb Ω];have e:WC p x=1:=by unfold WC;rw[show x.g=7 by omega];rfl
  rw[e];by_cases q:x.H=0
  .rw[Wb q];show(0:Int)<1;omega
  .rw[Wa q];show(0:Int)<1;omega
theorem Wz7(f):dY f=(f.κ.length:Int) -f.κ.countP λx=>decide (x.g=3):=by
 unfold dY;have:∀l:List Kd,bF cd l=(l.length:Int) -l.countP λx=>decide (x.g=3):=λl=>by
  induction l with
  |nil=>rfl
  |cons x l ih=>
   have e:bF cd (x::l)=cd x+bF cd l:=by simp[bF]
   rw[e,ih,List.countP_cons,Xv];unfold cd;by_cases h:x.g=3
   .rw[Wb h,Wf h];simp;omega
   .rw[Wa h,Wj h];simp;omega
 exact this f.κ
theorem Wyw(m:FOk a n f)(K:a.length<=3)(v:∀c∈a,c.length<=24)(z:∀(j) (h),KT f j f.κ[j]):j3 f<=381:=by
 have C:=m.len;have E:=m.K;have A:=m.done;have J:=Wz7 f;have B:=K7 f;have y:f.K<=0->∀x:Kd,∀k (h:k<f.κ.length),f.κ[k]=x->eV f.K x=0:=λq x k i d=>by
  have:=(m.kid k i).Ew;rw[d]at this;unfold eV;rw[Wa Ω]
 have r:bF (cy f.K) f.κ<=(if f.K<=0 then 26 else 52)*dY f:=by
  have e:∀P:Int,bF (λx=>0+P*cd x) f.κ=P*dY f:=λP=>by
   rw[Qi (g:=λ_=>0)];have:∀l:List Kd,bF (λ_=>0) l=0:=λl=>by induction l with
    |nil=>rfl
    |cons x l ih=>simp only[bF,bo,sO]at*;omega
   rw[this];unfold dY;omega
  rw[<-e];refine Hh λx t=>?_;obtain⟨k,i,d⟩:=cN t;have p:k<a.length:=Ω
  have o:=m.kid k i;rw[Wk p,d]at o;obtain⟨F,G,H,I⟩:=Gy o (v _ (Xm p));have s:=rM f.K x;have D:=o.g;unfold cy;by_cases u:x.g=3
  .have:hJ x=0:=by unfold hJ;rw[Wb u]
   have Q:cd x=0:=by unfold cd;rw[Wb u]
   rw[Q]at s|-;omega
  .have Q:=ux u;rw[Q]at s|-;split
   .rw[y ‹_› x k i d];omega
   .omega
 refine Lr Ω λx t O=>?_;obtain⟨k,i,d⟩:=cN t;have p:k<a.length:=Ω
 have o:=m.kid k i;rw[Wk p,d]at o;have w:=z k i;rw[d]at w;obtain⟨L,M,N⟩:=Qu o (v _ (Xm p)) w.E;have s:=rM f.K x;unfold fP fQ;by_cases q:f.K<=0
 .rw[Wb q]at r;have b:=y q x k i d;rw[b];have:dY f=0\/dY f=1\/dY f=2\/dY f=3:=Ω
  rcases this with Q|Q|Q|Q<;>(rw[Q]at r|-;unfold tri;simp;omega)
 .rw[Wa q]at r;have:dY f=0\/dY f=1\/dY f=2:=Ω
  rcases this with Q|Q|Q<;>(rw[Q]at r|-;unfold tri;simp;omega)
theorem ua(K:POk p)(f:ROk p n x)(i:RT x):0<=WC p x/\WC p x<=808/\(1<=x.g/\x.g<=7->1<=WC p x):=by
 have v:=f.g;have y:=f.ul;have u:=K.Y.len;by_cases h:1<=x.g/\x.g<=4
 .have sM:=ZA K f i h;refine⟨Ω,?_,λ_=>Ω⟩;have a:=f.Ev h;have b:=a.Ez;have t:=a.k;have B:=a.ul;have I:dD p x.k<=382:=by unfold dD;omega
  have C:=Af i;by_cases g:x.g=1
  .rw[nX g];unfold cY;omega
  by_cases d:x.g=2
  .obtain⟨z,A,m⟩:=a.V d;have e:WC p x=if x.n.Ey=true then(x.y.length:Int)+3 else 73-3*x.k+j3 x.n+cY x:=by unfold WC;rw[Wa Ω,Wb d]
   rw[e];split
   .omega
   .rename_i cF;have:=Wyw m K.k3 (λc r=>(K.κ c r).toCC.len) ((i.n d).resolve_left cF);unfold cY;omega
  have k:=a.back Ω;obtain⟨D,E,F,G,H⟩:=La K.Y a k;have o:=(a.m.I _ (J4 k zRM)).2.1;have J:=GP p.1 (Ω:x.last.1.toNat<=x.k.toNat);have s:=rS K.Y x.k.toNat Ω;have q:x.last.2.1<=x.last.1+72*frk p.1 x.last.1.toNat:=o.2.1;have l:dD p x.k=382*(1-frk p.1 x.k.toNat):=rfl;by_cases j:x.g=3
  .have e:WC p x=x.last.2.1+74-3*x.last.1+dD p x.k+cY x:=by unfold WC;rw[Wa g,Wa d,Wb j]
   rw[e,l];unfold cY;omega
  .have h4:x.g=4:=Ω
   have w:=a.pos h4;have e:WC p x=x.last.2.1-x.pos+73-3*x.last.1+dD p x.k+cY x:=by unfold WC;rw[Wa g,Wa d,Wa j,Wb h4]
   rw[e,l];unfold cY;omega
 .have:x.g=0\/x.g=5\/x.g=6\/x.g=7\/x.g=8:=Ω
  rcases this with h|h|h|h|h
  .have e:WC p x=0:=by unfold WC;rw[h];rfl
   omega
  .have hb:=JT (f.R h);have e:WC p x=c6 x.l+x.y.length+3:=by unfold WC;rw[h];rfl
   omega
  .rw[RK h];omega
  .have e:WC p x=1:=by unfold WC;rw[h];rfl
   omega
  .have e:WC p x=0:=by unfold WC;rw[h];rfl
   omega
end
section
def zi(m:Mm)(d:Int):Prop:=∀i,0<=i->i<=7->(Wy m i).2.2=0/\(Wy m i).2.1<=d
def pbV(m:Mm)(b:Bool)(q:Pb):Prop:=b=true->(0<=q.1/\q.1<=7)/\q.2.2.1=(Wy m q.1).2.1
variable{m:Mm}{d:Int}{q:Pb}{o:Opn}{x:Kd}{f:Fm}{k:Nat}{b:List Opn}{a:List (List Opn)}{n:Int}
theorem Wt7(h:zi m d)(c:0<=q.1/\q.1<=7)(g:0<=q.2.1/\q.2.1<=2)(i:1<=q.2.1->q.2.2.1=(Wy m q.1).2.1):
  (WU m d q).1=q.1/\(WU m d q).2.1=q.2.1+1/\(WU m d q).2.2.1=(Wy m q.1).2.1:=by
 obtain⟨b,f⟩:=h q.1 c.1 c.2;have e:Xc m.2 (Xb q.1) (0,(0,0))=Wy m q.1:=rfl;unfold WU;simp only[e,WJ,jP];have:q.2.1=0\/q.2.1=1\/q.2.1=2:=Ω
 rcases this with a|a|a
 .rw[Wb a,Wb b,Wb f,a];exact⟨rfl,rfl,rfl⟩
 .have:=i Ω;rw[Wa Ω,Wb a,a];exact⟨rfl,rfl,this⟩
 .have:=i Ω;rw[Wa Ω,Wa Ω,Wb a,Wb b,Wb this.symm,a];exact⟨rfl,rfl,this⟩
theorem YE{b}{p}{c}(e:zi m d)(g:pbV m b p)(f:b=true->p.2.1=1\/p.2.1=2)(j:0<=c/\c<=7):
  (0<=(if b=true then p else(c,0,0,0)).1/\(if b=true then p else(c,0,0,0)).1<=7)/\(if b=true then p else(c,0,0,0)).2.1<=2/\
  (WU m d (if b=true then p else(c,0,0,0))).1=(if b=true then p else(c,0,0,0)).1/\(WU m d (if b=true then p else(c,0,0,0))).2.1=(if b=true then p else(c,0,0,0)).2.1+1/\
  (WU m d (if b=true then p else(c,0,0,0))).2.2.1=(Wy m (if b=true then p else(c,0,0,0)).1).2.1:=by
 by_cases h:b=true
 .rw[Wb h];have a:=g h;have i:=f h;exact⟨a.1,Ω,Wt7 e a.1 Ω λ_=>a.2⟩
 .rw[Wa h];exact⟨j,by show(0:Int)<=2;omega,Wt7 e j (by show(0:Int)<=0/\(0:Int)<=2;omega) λh=>by(change (1:Int)<=0 at h;omega)⟩
structure FGd(m:Mm)(f:Fm):Prop where
 Ey:f.Ey=false
 X:zi m f.u
 kid:∀(k:Nat) (h:k<f.κ.length),pbV m f.κ[k].L f.κ[k].E
theorem WxA(i:zi m f.u)(l:f.Ey=false)(a:pbV m x.L x.E)(e:x.L=true->x.E.2.1=1\/x.E.2.1=2)(d:0<=o.2.2.1/\o.2.2.1<=7):
  (c3 m f x o).1=f/\pbV m (c3 m f x o).2.L (c3 m f x o).2.E:=by
 unfold c3;cases bf x.A o.2.2.1 with
 |some v=>exact⟨rfl,a⟩
 |none=>
  simp only;cases ent f.buf o.2.2.1 with
  |some r=>
   simp only;split
   .exact⟨rfl,(λh=>by cases h)⟩
   .exact⟨rfl,a⟩
  |none=>
   simp only;obtain⟨g,s,b⟩:=YE (b:=x.L) (p:=x.E) (c:=o.2.2.1) i a e d;generalize (if x.L=true then x.E else(o.2.2.1,0,0,0))=q0 at*;generalize WU m f.u q0=q at*;obtain⟨j,n,k⟩:=b;rw[Wa Ω];split
   .exact⟨rfl,(λh=>by cases h)⟩
   .refine⟨rfl,λ_=>?_⟩;show(0<=q.1/\q.1<=7)/\q.2.2.1=(Wy m q.1).2.1;rw[j];exact⟨g,k⟩
theorem WyF(r:zi m f.u)(c:f.Ey=false)(j:KC b)(e:KOk b f.K n x)(d:pbV m x.L x.E)(t:KT f k x):
  (bn m f x k b).1.Ey=false/\(bn m f x k b).1.u=f.u/\(bn m f x k b).1.κ=f.κ/\pbV m (bn m f x k b).2.L (bn m f x k b).2.E:=by
 have g:pbV m (f.again x).L (f.again x).E:=λh=>by cases h
 unfold bn;split
 .rename_i h0;unfold eI;split
  .exact⟨c,rfl,rfl,d⟩
  .obtain⟨i,q,u,s⟩:=jV (l:=b) e.k.1 (by have:=e.k;omega);simp only[s];split
   .have ao:=nh (j.ok i q).1 ‹_›;have p:0<=b[i].2.2.1/\b[i].2.2.1<=7:=by have:=ao.2;unfold cp at this;simpa using this
    obtain⟨a,v⟩:=WxA (o:=b[i]) r c d t.E p;rw[a];exact⟨c,rfl,rfl,v⟩
   .split
    .refine⟨c,rfl,rfl,?_⟩;unfold pu;split<;>exact d
    .repeat' split
     all_goals exact⟨c,rfl,rfl,d⟩
 .split
  .split
   .exact⟨c,rfl,rfl,d⟩
   .exact⟨c,rfl,rfl,d⟩
  .split
   .split
    .exact⟨c,rfl,rfl,d⟩
    .simp only;split
     .exact⟨c,rfl,rfl,d⟩
     .exact⟨c,rfl,rfl,g⟩
   .exact⟨c,rfl,rfl,d⟩
theorem WxV(o:FOk a n f)(p:∀(j) (h),KT f j f.κ[j])(e:FGd m f)(g:k<f.κ.length)(l:KC (a.getD k [])):FGd m (aC m f k (a.getD k [])):=by
 have q:f.κ.getD k {}=f.κ[k]:=Wk g _;unfold aC;rw[Wa (by rw[e.Ey];simp),q];obtain⟨r,b,c,d⟩:=WyF (k:=k) e.X e.Ey l (o.kid k g) (e.kid k g) (p k g);refine⟨r,?_,λj i=>?_⟩
 .show zi m (bn m f f.κ[k] k (a.getD k [])).1.u;rw[b];exact e.X
 .have br:j<f.κ.length:=by rw[Ll c]at i;exact i
  rw[DE g c br i];split
  .exact d
  .exact e.kid j br
end
section
def lkA(c:Cm)(j:Nat):Prop:=(c.g=1/\(j:Int)<c.pos)\/c.g=2\/c.g=3\/c.g=4\/(c.g=5/\c.pos<=j)\/(c.g=7/\(j:Int)<=c.pos)
def lkd(c:Cm)(i:Int):Prop:=∃(j:Nat) (h:j<c.w.length),c.w[j].1=i/\lkA c j
def Ep(m:Mm)(i:Int):Int:=(Wy m i).2.2
structure CmLk(m:Mm)(c:Cm):Prop where
 T:∀i,0<=i->i<=7->(Ep m i=c.J↔lkd c i)
 ver:c.g=3\/c.g=4\/c.g=5->c.F<=m.1/\∀i,lkd c i->(Wy m i).2.1<=c.F
section
variable{m:Mm}{c Z:Cm}{i j:Int}{w:Wd}
theorem nB(d:W4 m=true)(a:0<=i/\i<=7)(c:0<=j/\j<=7):Wy (lG m i w) j=if j=i then w else Wy m j:=by
 have b:=(WK d).1;unfold Wy lG gh ac
 grind
theorem Da(a:Z.w=c.w)(h:∀j:Nat,j<c.w.length->(lkA Z j↔lkA c j)):lkd Z i↔lkd c i:=by
 grind [lkd]
theorem WxJ(h:CmOk c){a b}(ha)(d:b<c.w.length)(e:c.w[a].1=c.w[b].1):a=b:=by
 have f:=fh.1 h.pup
 grind
theorem CmLk.same(h:CmLk m c)(l:Z.w=c.w)(n:Z.J=c.J)(o:Z.F=c.F)(k:∀j:Nat,j<c.w.length->(lkA Z j↔lkA c j))(d:Z.g=3\/Z.g=4\/Z.g=5->c.g=3\/c.g=4\/c.g=5):CmLk m Z:=
 ⟨λi e g=>by rw[n,h.T i e g,Da l k],λf=>by
  obtain⟨a,b⟩:=h.ver (d f)
  grind [Da]⟩
theorem QU(n)(j)(a:0<=n):lkA (cw c n) j↔(j:Int)<n:=by
 by_cases h:n=0
 .simp_all [cw,Wb,lkA]
 .have:cw c n={c with g:=7,pos:=n-1}:=by unfold cw;rw[Wa h]
  rw[this];unfold lkA;grind
theorem wC(c)(a):(Wz c a).w=c.w/\(Wz c a).J=c.J/\(Wz c a).F=c.F:=by
 unfold Wz ei;split<;>exact⟨rfl,rfl,rfl⟩
theorem Gp(c)(n):(cw c n).w=c.w/\(cw c n).J=c.J/\(cw c n).F=c.F:=by
 unfold cw;split<;>exact⟨rfl,rfl,rfl⟩
theorem ml(c)(n):(cw c n).g=7\/(cw c n).g=8:=by unfold cw;split<;>simp
theorem V5(m)(c):(Wv m c).2.J=c.J:=by
 unfold Wv;simp only;have d:=λa=>(wC c a).2.1;have b:=λn=>(Gp c n).2.1
 repeat' split
 all_goals first|exact d _|exact b _|rfl
theorem Wub(h:CmOk c)(y:W4 m=true)(q:CmLk m c):CmLk (Wv m c).1 (Wv m c).2:=by
 have A:c.g=1\/c.g=4\/c.g=5\/c.g=7->c.steps=c.w.length:=λS=>by unfold Cm.steps;rw[Wb S]
 have hw:=h.J;have vT:∀n:Int,0<=n->(∀j:Nat,j<c.w.length->((j:Int)<n↔lkA c j))->CmLk m (cw c n):=λn g hn=>by
  obtain⟨k,o,p⟩:=Gp c n;refine q.same k o p (λj e=>by grind [QU]) λu=>?_;rcases ml c n with h|h<;>omega
 unfold Wv;simp only;by_cases M:c.g=1
 .rw[Wb M];obtain⟨j,e,H,w,t,I⟩:=h.put Ω;have Y:=A Ω;rw[w];by_cases D:(Wy m c.w[j].1).2.2=0
  .rw[Wb D];obtain⟨k,o,p⟩:=wC c 2;have s:∀l:Nat,l<c.w.length->(lkA (Wz c 2) l↔lkA c l\/l=j):=λl d=>by
    unfold Wz;by_cases qa1:c.pos+1=c.steps
    .have:(ei c 2).g=2:=by show bm c 2=2;unfold bm;rw[Wa Ω,Wa Ω]
     grind [lkA]
    .grind [lkA]
   refine⟨λi g f=>?_,λu=>?_⟩
   .rw[o];have B:=q.T i g f;unfold Ep qH at*;rw[nB y t ⟨g,f⟩];by_cases r:i=c.w[j].1
    .rw[Wb r];refine⟨λ_=>⟨j,Ψ,Ψ,(s j e).2 (.inr rfl)⟩,λ_=>rfl⟩
    .rw[Wa r,B];refine⟨λ⟨l,d,a,b⟩=>⟨l,Ψ,Ψ,(s l d).2 (.inl b)⟩,λ⟨l,d,a,b⟩=>?_⟩;simp only[k]at d a;rcases(s l d).1 b with b|b
     .exact⟨l,d,a,b⟩
     simp_all
   .have xa:(Wz c 2).g=1\/(Wz c 2).g=2:=by
     unfold Wz;split
     .right;show bm c 2=2;unfold bm;rw[Wa Ω,Wa Ω]
     simp_all
    grind
  simp_all [Wa,lkA]
 rw[Wa M];by_cases N:c.g=2
 .rw[Wb N];have T:=K9 y;by_cases v:(tick m).2=0
  .simp_all [Wb,lkA]
  .rw[Wa v];obtain⟨t1,V⟩:=T.2.2.2.1 v;have x:∀i,Wy (tick m).1 i=Wy m i:=λi=>by rw[V];rfl
   have s:∀l:Nat,l<c.w.length->(lkA (ei {c with F:=(tick m).2} 3) l↔lkA c l):=λl d=>by
    have qa2:c.w.length≠0:=Ω
    change l<c.w.length at d;have:(ei {c with F:=(tick m).2} 3).g=3\/(ei {c with F:=(tick m).2} 3).g=4:=by
     show bm {c with F:=(tick m).2} 3=3\/bm {c with F:=(tick m).2} 3=4;unfold bm;rw[Wa (λv=>qa2 v.2)];split<;>simp
    unfold lkA;omega
   refine⟨λi g f=>?_,λu=>⟨by show(tick m).2<=(tick m).1.1;simp_all,λi r=>?_⟩⟩
   .unfold Ep;rw[x];exact(q.T i g f).trans (Da (Z:=ei {c with F:=(tick m).2} 3) (c:=c) rfl s).symm
   .rw[x];obtain⟨l,d,a,b⟩:=r;change l<c.w.length at d;change c.w[l].1=i at a;have L:=h.Eo _ (Xm d);have B:=rX.1 (zI y L.1);rw[<-a];show(Wy m c.w[l].1).2.1<=(tick m).2;omega
 rw[Wa N];by_cases u:c.g=3
 .rw[Wb u];split
  .grind [lkA]
  .obtain⟨k,o,p⟩:=wC c 4;refine q.same k o p (λl d=>?_) λ_=>.inl u;unfold Wz;split
   .have:(ei c 4).g=4:=by show bm c 4=4;unfold bm;rw[Wa (λv=>Ω),Wa Ω]
    grind [lkA,ei]
   grind [lkA]
 rw[Wa u];by_cases K:c.g=4
 .rw[Wb K];obtain⟨j,e,H,w,t,I⟩:=h.put Ω;have Y:=A Ω;rw[w];obtain⟨k,o,p⟩:=wC c 5;have x:∀i,0<=i->i<=7->(Wy (jS m c.w[j].1 c.J c.w[j].2) i).2=(Wy m i).2:=λi g f=>by
   grind [jS,nB]
  have s:∀l:Nat,l<c.w.length->(lkA (Wz c 5) l↔lkA c l):=λl d=>by
   unfold Wz;split
   .have:(ei c 5).g=5/\(ei c 5).pos=0:=⟨R1 c,rfl⟩;unfold lkA;omega
   grind [lkA]
  refine⟨λi g f=>?_,λ_=>?_⟩
  .unfold Ep;rw[x i g f,o,Da k s];exact q.T i g f
  .obtain⟨z,G⟩:=q.ver (.inr (.inl K));rw[p];refine⟨by unfold jS;split<;>exact z,λi r=>?_⟩;have J:=(Da k s).1 r;obtain⟨l,d,a,b⟩:=J;have L:=h.Eo _ (Xm d);rw[x i Ω Ω];exact G i ⟨l,d,a,b⟩
 rw[Wa K];have Q:∀(R:Int) (j:Nat) (e:j<c.w.length),0<=c.w[j].1/\c.w[j].1<=7->lkA c j->(Wy m c.w[j].1).2.1<=R->R<=m.1->gK m c.w[j].1 c.J R=lG m c.w[j].1 ((Wy m c.w[j].1).1,R,0):=λR j e F d W U=>by
  have D:=(q.T c.w[j].1 F.1 F.2).2 ⟨j,e,rfl,d⟩;unfold Ep at D;unfold gK;rw[Wb ⟨D,W,U⟩]
 have P:∀(R:Int) (Z:Cm) (j:Nat) (e:j<c.w.length),0<=c.w[j].1/\c.w[j].1<=7->Z.w=c.w->Z.J=c.J->Z.F=c.F->(∀l:Nat,l<c.w.length->(lkA Z l↔lkA c l/\l≠j))->(Z.g=3\/Z.g=4\/Z.g=5->c.g=3\/c.g=4\/c.g=5)->CmLk (lG m c.w[j].1 ((Wy m c.w[j].1).1,R,0)) Z:=λR Z j e F k o p s X=>by
  have O:∀i,lkd Z i↔lkd c i/\i≠c.w[j].1:=λi=>by
   grind [lkd,WxJ]
  refine⟨λi g f=>?_,λu=>?_⟩
  .unfold Ep;rw[nB y F ⟨g,f⟩,o,O];by_cases r:i=c.w[j].1
   .grind
   .rw[Wa r];exact⟨λv=>⟨(q.T i g f).1 v,r⟩,λv=>(q.T i g f).2 v.1⟩
  .obtain⟨z,G⟩:=q.ver (X u);rw[p];refine⟨z,λi r=>?_⟩;have J:=(O i).1 r;obtain⟨⟨l,d,a,b⟩,qa0⟩:=J;have L:=h.Eo _ (Xm d);simp_all [nB,Wa]
 by_cases C:c.g=5
 .rw[Wb C];obtain⟨j,e,H,w,t,I⟩:=h.put Ω;have Y:=A Ω;rw[w];obtain⟨z,G⟩:=q.ver (.inr (.inr C));have E:lkA c j:=by unfold lkA;omega
  rw[Q c.F j e t E (G _ ⟨j,e,rfl,E⟩) z];obtain⟨k,o,p⟩:=wC c 6;refine P c.F (Wz c 6) j e t k o p (λl d=>?_) λ_=>.inr (.inr C)
  grind [Wz,ei,Sf,lkA]
 rw[Wa C];by_cases f:c.g=7
 .rw[Wb f];obtain⟨j,e,H,w,t,I⟩:=h.put Ω;have Y:=A Ω;rw[w];have E:lkA c j:=by unfold lkA;omega
  have B:=rX.1 (zI y t);rw[Q _ j e t E (Xt _) B.2.1.2];obtain⟨k,o,p⟩:=Gp c c.pos;refine P _ (cw c c.pos) j e t k o p (λl d=>?_) λu=>?_
  .grind [QU,lkA]
  grind [ml]
 simp_all
theorem WtJ(h:CmOk c)(a:CmLk m c):CmLk m (WY c):=by
 have f:=h.pos;have o:∀n:Int,0<=n->(∀j:Nat,j<c.w.length->((j:Int)<n↔lkA c j))->CmLk m (cw c n):=λn g l=>by
  obtain⟨b,d,e⟩:=Gp c n;refine a.same b d e (λj k=>by grind [QU]) λi=>?_;rcases ml c n with h|h<;>omega
 grind [WY,lkA]
theorem WqT(c):(WY c).J=c.J:=by
 grind [Gp,WY]
theorem VE(h:CmOk c)(n:W4 m=true){a}(B:a≠c.J)(A:a≠0)(E:0<=i/\i<=7):(Ep (Wv m c).1 i=a↔Ep m i=a)/\(Ep m i=a->Wy (Wv m c).1 i=Wy m i):=by
 have l:(Ep m i=a↔Ep m i=a)/\(Ep m i=a->Wy m i=Wy m i):=⟨Iff.rfl,λ_=>rfl⟩;have x:∀(D:Int) (e:Wd),0<=D/\D<=7->(Wy m D).2.2≠a->e.2.2≠a->(Ep (lG m D e) i=a↔Ep m i=a)/\(Ep m i=a->Wy (lG m D e) i=Wy m i):=λD e u z C=>by
  unfold Ep;rw[nB n u E]
  grind
 unfold Wv;simp only;by_cases p:c.g=1
 .rw[Wb p];obtain⟨j,k,f,b,d,g⟩:=h.put Ω;rw[b];by_cases v:(Wy m c.w[j].1).2.2=0
  .rw[Wb v];exact x _ _ d Ω Θ
  simp_all
 rw[Wa p];by_cases q:c.g=2
 .rw[Wb q];have w:=K9 n;by_cases o:(tick m).2=0
  .simp_all
  .rw[Wa o];simp only;rw[(w.2.2.2.1 o).2];exact l
 rw[Wa q];by_cases r:c.g=3
 .rw[Wb r];split<;>exact l
 rw[Wa r];by_cases s:c.g=4
 .rw[Wb s];obtain⟨j,k,f,b,d,g⟩:=h.put Ω;rw[b];unfold jS;split
  .grind
  omega
 rw[Wa s];by_cases t:c.g=5
 .rw[Wb t];obtain⟨j,k,f,b,d,g⟩:=h.put Ω;rw[b];unfold gK;split
  .grind
  omega
 rw[Wa t];by_cases y:c.g=7
 .rw[Wb y];obtain⟨j,k,f,b,d,g⟩:=h.put Ω;rw[b];unfold gK;split
  .grind
  omega
 simp_all
end
end
section
structure LB(w:Wo)(k:Nat)(x:Rt):Prop where
 l:x.g=5->x.l.J=(k:Int)+1/\CmLk w.i x.l
 no:x.g≠5->∀i,0<=i->i<=7->Ep w.i i≠(k:Int)+1
 hd:∀h∈w.a,h.1=(k:Int)+1->x.g≠0/\x.g≠8
 tk:w.N=(k:Int)+1->x.G>=3/\x.g≠8
structure LQ(w:Wo)(k:Nat)(q:Wo×Rt):Prop where
 b:LB q.1 k q.2
 oth:∀a,a≠(k:Int)+1->a≠0->∀i,0<=i->i<=7->(Ep q.1.i i=a↔Ep w.i i=a)/\(Ep w.i i=a->Wy q.1.i i=Wy w.i i)
 clk:w.i.1<=q.1.i.1
 hdo:∀h∈q.1.a,h.1≠(k:Int)+1->∃h'∈w.a,h'.1=h.1
 tko:q.1.N≠0->q.1.N≠(k:Int)+1->q.1.N=w.N
section
variable{w:Wo}{x:Rt}{k:Nat}{p:Pg}{q:Wo×Rt}{o:Opn}{n:Int}
theorem LQ.of(l:q.1.i=w.i)(j:q.1.a=w.a)(d:q.1.N=w.N)(c:LB q.1 k q.2):LQ w k q:=
 ⟨c,λe g f i a b=>Ψ,Ψ,λh m _=>⟨h,Ψ,rfl⟩,λ_ _=>d⟩
theorem LQ.keep(b:LB w k x)(c:q.1.i=w.i)(f:q.1.a=w.a)(d:q.1.N=w.N)(e:x.g≠5)(a:q.2.g≠0/\q.2.g≠5/\q.2.g≠8)(g:q.2.G=x.G):LQ w k q:=
 LQ.of c f d ⟨λh=>Wh h a.2.1,λ_=>by rw[c];exact b.no e,λh j i=>⟨a.1,a.2.2⟩,λh=>by rw[d]at h;rw[g];exact⟨(b.tk h).1,a.2.2⟩⟩
theorem Gj:(WA x).g≠0/\(WA x).g≠5/\(WA x).g≠8:=by
 unfold WA dE;split<;>simp
theorem Lp(a:x.g=1):(dX w x o).g≠0/\(dX w x o).g≠5/\(dX w x o).g≠8:=by
 grind [dX,bf,WU,Gj]
theorem Vj{l}{a}(h:(w9 l a).length=0):∀e∈l,e.1≠a:=λe c b=>by
 have:e.2.1∈w9 l a:=Xy.2 ⟨e,fc.2 ⟨c,Ψ⟩,rfl⟩;simp_all
theorem Wz1(d:∀i,0<=i->i<=7->Ep w.i i≠(k:Int)+1)(j:∀e∈w.a,e.1≠(k:Int)+1):LQ w k (gi w x k):=by
 unfold gi;refine⟨⟨λh=>Ψ,λ_=>d,λh c l=>Wh l (j h c),λh=>?_⟩,λm g f i a b=>⟨Iff.rfl,λ_=>rfl⟩,Xt _,λh c _=>⟨h,c,rfl⟩,λf g=>?_⟩
 .change (if w.N=(k:Int)+1 then 0 else w.N)=(k:Int)+1 at h;split at h<;>omega
 simp_all
theorem ZZ(d:LB w k x)(o:x.g=1){out}:LQ w k (W9 w x k out):=by
 have c:=d.no Ω;unfold W9;simp only;generalize s:(if out=2 then []else x.A)=a;split
 .rename_i hc;exact Wz1 c (Vj hc.2)
 .refine LQ.of rfl rfl rfl ⟨λ_=>⟨rfl,?_⟩,λh=>Wh rfl h,λh q r=>Ψ,λh=>⟨(d.tk h).1,Ψ⟩⟩;have l:∀i,¬lkd (cx ((k:Int)+1) x.u a x.o) i:=λi ⟨j,g,t,b⟩=>by
   change j<(al a).length at g;have m:(cx ((k:Int)+1) x.u a x.o).g=1:=by show(if(al a).length=0 then(2:Int)else 1)=1;rw[Wa Ω]
   have n:(cx ((k:Int)+1) x.u a x.o).pos=0:=rfl
   grind [lkA]
  refine⟨λi e f=>⟨λh=>Wh h (c i e f),λh=>Wh h (l i)⟩,λp=>?_⟩
  grind [cx,al]
theorem Wy0(c:LB w k x)(b:x.g=1){a}:LQ w k (fV w x k a):=by
 unfold fV;split
 .exact ZZ c b
 .split
  .exact LQ.keep c rfl rfl rfl Ω (by grind [ez]) rfl
  .exact LQ.keep c rfl rfl rfl Ω Ψ rfl
theorem Wza(p:x.U=false)(d:LB w k x)(m:x.g=1)(n:HOk w.a):LQ w k (eN w x k o):=by
 unfold eN;cases c:fN w.a ((k:Int)+1) (WO o).1 (WO o).2 with
 |none=>exact LQ.keep d rfl rfl rfl Ω Gj (O1 p).2.2
 |some a=>
  have l:∀e∈a,e.1≠(k:Int)+1->e∈w.a:=λe g f=>by
   unfold fN at c;split at c
   .injection c with c;subst c;rcases(nF lH n.ris).1 g with rfl|g
    .omega
    grind
   .cases c
  exact⟨⟨λh=>Ψ,λ_=>d.no Ω,λh j s=>Ψ,λh=>⟨(d.tk h).1,Ψ⟩⟩,
   λq m r i t b=>⟨Iff.rfl,λ_=>rfl⟩,Xt _,λh j f=>⟨h,l h j f,rfl⟩,λ_ _=>rfl⟩
theorem WBZ(c:x.U=false)(a:LB w k x)(b:x.g=1)(d:HOk w.a):LQ w k (am w x k p):=by
 unfold am;split
 .exact ZZ a b
 .simp only;split
  .exact LQ.keep a rfl rfl rfl Ω (Lp b) (Wxi c Ω).2.2
  .split
   .exact Wy0 a b
   .split
    .exact LQ.keep a rfl rfl rfl Ω Ψ rfl
    .split
     .grind [Wza]
     .repeat' split
      all_goals exact LQ.keep a rfl rfl rfl Ω Ψ rfl
theorem WBg(c:LB w k x)(e:x.g=0):LQ w k (gH w x k):=by
 unfold gH;split
 .exact LQ.of rfl rfl rfl c
 .split
  .rename_i hc;exact⟨⟨c.l,c.no,c.hd,λ_=>⟨hc.1,Ψ⟩⟩,λg j e i a b=>⟨Iff.rfl,λ_=>rfl⟩,Xt _,λh f _=>⟨h,f,rfl⟩,λ_ d=>Wh rfl d⟩
  .split
   .exact LQ.of rfl rfl rfl c
   .exact LQ.keep c rfl rfl rfl Ω Ψ rfl
theorem Wvb(e:LB w k x)(m:x.g=5)(o:CmOk x.l)(s:W4 w.i=true):LQ w k (W7 w x k):=by
 obtain⟨t,p⟩:=e.l m;have u:∀c:Cm,c.g=6\/c.g=8->∀i,¬lkd c i:=λc l i ⟨j,D,E,b⟩=>by grind [lkA]
 unfold W7;split
 .have v:=WtJ o p;have y:=WqT x.l;split
  .rename_i f;refine LQ.of rfl rfl rfl ⟨λh=>by(change (6:Int)=5 at h;omega),λ_ i E b=>?_,λh g r=>by(show(6:Int)≠0/\(6:Int)≠8;omega),λh=>⟨(e.tk h).1,by show(6:Int)≠8;omega⟩⟩;intro A;exact u _ (.inr f) i ((v.T i E b).1 Ψ)
  .exact LQ.of rfl rfl rfl ⟨λ_=>⟨by show(WY x.l).J=_;rw[y,t],v⟩,λh=>Wh m h,e.hd,e.tk⟩
 .have G:=Wub o s p;have C:=V5 w.i x.l;have z:=λF (E:F≠(k:Int)+1) (b:F≠0) (i:Int) (c:0<=i) (d:i<=7)=>VE (i:=i) o s (a:=F) Ω b ⟨c,d⟩;have B:=UI w.i x.l;simp only;refine⟨?_,z,B,λh g _=>⟨h,g,rfl⟩,λ_ _=>rfl⟩;have q:(Wv w.i x.l).2.g=6\/(Wv w.i x.l).2.g=8->∀i,0<=i->i<=7->Ep (Wv w.i x.l).1 i≠(k:Int)+1:=λl i E b A=>u _ l i ((G.T i E b).1 Ω);generalize (Wv w.i x.l).2=H at*;unfold cX;by_cases f:H.g=8
  .rw[Wb f];exact⟨λh=>by(change (6:Int)=5 at h;omega),λ_=>q (.inr f),λh g r=>by(show(6:Int)≠0/\(6:Int)≠8;omega),λh=>⟨(e.tk h).1,by show(6:Int)≠8;omega⟩⟩
  .rw[Wa f];by_cases n:H.g=6
   .rw[Wb n];have l:(if x.H=2 then(6:Int)else 7)=6\/(if x.H=2 then(6:Int)else 7)=7:=by split<;>simp
    generalize (if x.H=2 then(6:Int)else 7)=a at*;exact⟨λh=>Ψ,λ_=>q (.inl n),λh g r=>Θ,λh=>⟨(e.tk h).1,Θ⟩⟩
   .rw[Wa n];exact⟨λ_=>⟨by show H.J=_;rw[C,t],G⟩,λh=>Wh m h,e.hd,e.tk⟩
theorem WwD(F:RX x)(E:ROk p n x)(z:GOk w)(c:LB w k x):LQ w k (WS w x k p):=by
 unfold WS;by_cases v:x.U=true/\1<=x.g/\x.g<=4
 .rw[Wb v];exact LQ.keep c rfl rfl rfl Ω (by unfold dE;simp) rfl
 rw[Wa v];have l:x.g≠5->x.U=false:=λf=>by
  rw[nn];intro h;rcases F.doom h with d|d
  .simp_all
  omega
 by_cases q:x.g=0
 .simp_all [Wb,WBg]
 rw[Wa q];by_cases d:x.g=1
 .rw[Wb d];exact WBZ (l Ω) c d z.a
 rw[Wa d];by_cases r:x.g=2
 .rw[Wb r];refine LQ.keep c rfl rfl rfl Ω ?_ (WwH (w:=w) (l Ω) Ω).G
  grind [ch,dE]
 rw[Wa r];by_cases C:x.g=3
 .grind [LQ.keep,XN,fK,ez]
 rw[Wa C];by_cases s:x.g=4
 .rw[Wb s];refine LQ.keep c rfl rfl rfl Ω ?_ (XV (w:=w) (l Ω) Ω).G
  grind [W6,dE]
 rw[Wa s];by_cases f:x.g=5
 .rw[Wb f];exact Wvb c f (E.R f) z.i
 rw[Wa f];by_cases t:x.g=6
 .rw[Wb t];by_cases A:x.y.length>0
  .rw[Wb A];exact LQ.keep c rfl rfl rfl Ω (by grind [ez]) rfl
  .rw[Wa A];exact LQ.keep c rfl rfl rfl Ω Ψ rfl
 rw[Wa t];by_cases u:x.g=7
 .rw[Wb u];have j:∀e∈W1 w.a ((k:Int)+1),e.1≠(k:Int)+1/\e∈w.a:=λe m=>by
   have:=fc.1 m;simp_all
  have o:=c.no Ω;by_cases y:x.H=0
  .rw[Wb y];refine⟨⟨λh=>Ψ,λ_=>o,λh g D=>Wh D (j h g).1,λh=>⟨?_,Ψ⟩⟩,λG d q i a b=>⟨Iff.rfl,λ_=>rfl⟩,Xt _,λh g _=>⟨h,(j h g).2,rfl⟩,λ_ _=>rfl⟩;have:=(c.tk h).1
   grind
  .rw[Wa y];have:=Wz1 (w:={w with a:=W1 w.a ((k:Int)+1)}) (x:=x) o (λe m=>(j e m).1);exact⟨this.b,this.oth,this.clk,λh g B=>by obtain⟨H,a,b⟩:=this.hdo h g B;grind,this.tko⟩
 .rw[Wa u];exact LQ.of rfl rfl rfl c
end
structure LX(w:Wo):Prop where
 x:∀(k:Nat) (h:k<w.c.length),LB w k w.c[k]
 ow:∀i,0<=i->i<=7->Ep w.i i=0\/∃k:Nat,k<w.c.length/\Ep w.i i=(k:Int)+1
 hd:∀h∈w.a,∃k:Nat,k<w.c.length/\h.1=(k:Int)+1
 tk:w.N=0\/∃k:Nat,k<w.c.length/\w.N=(k:Int)+1
section
variable{s:Sc}{w v:Wo}{n:Int}{a:Ac}{k:Nat}{q:Wo×Rt}
theorem LB.other{j}{y}(h:LB w j y)(d:LQ w k q)(E:j≠k)(v:y.g=5->CmOk y.l):LB q.1 j y:=by
 have B:((j:Int)+1)≠(k:Int)+1:=Ω
 have o:=d.oth ((j:Int)+1) B Ω;refine⟨λc=>?_,λc i a b m=>h.no c i a b ((o i a b).1.1 m),λe x A=>?_,λm=>?_⟩
 .obtain⟨f,g⟩:=h.l c;refine⟨f,λi a b=>?_,λu=>?_⟩
  .rw[f,(o i a b).1,<-f];exact g.T i a b
  .obtain⟨C,G⟩:=g.ver u;refine⟨EF C d.clk,λi z=>?_⟩;obtain⟨l,n,p,r⟩:=z;have F:=(v c).Eo _ (Xm n);have s:lkd y.l i:=⟨l,n,p,r⟩;have D:=(g.T i Ω Ω).2 s;simp_all
 .obtain⟨t,a,b⟩:=d.hdo e x Ω;exact h.hd t a (b.trans A)
 .exact h.tk ((d.tko Ω Ω).symm.trans m)
theorem Sk{b}(g:LX b)(w:k<b.c.length)(p:q.1.c=b.c)(f:LQ b k q)(u:∀(i) (h:i<b.c.length),b.c[i].g=5->CmOk b.c[i].l):LX (Wo.put q k):=by
 have m:(q.1.c.set k q.2).length=b.c.length:=by rw[Xx,p]
 have v:∀i,Ep (Wo.put q k).i i=Ep q.1.i i:=λ_=>rfl;refine⟨λi o=>?_,λi a x=>?_,λe d=>?_,?_⟩
 .change i<(q.1.c.set k q.2).length at o;have r:i<b.c.length:=Ω
  have s:∀y,LB q.1 i y->LB (Wo.put q k) i y:=λy l=>⟨l.l,l.no,l.hd,l.tk⟩;show LB (Wo.put q k) i ((q.1.c.set k q.2)[i]'o);rw[fE];by_cases d:k=i
  .subst d;rw[Wb rfl];exact s _ f.b
  .rw[Wa d];simp only[p];exact s _ ((g.x i r).other f (λh=>d h.symm) (u i r))
 .show Ep q.1.i i=0\/∃j:Nat,j<(q.1.c.set k q.2).length/\Ep q.1.i i=(j:Int)+1;rw[m];by_cases n:Ep q.1.i i=0
  .omega
  .by_cases c:Ep q.1.i i=(k:Int)+1
   .grind
   .have:=(f.oth _ c n i a x).1.1 rfl;rw[<-this];exact g.ow i a x
 .show∃j:Nat,j<(q.1.c.set k q.2).length/\e.1=(j:Int)+1;rw[m];by_cases c:e.1=(k:Int)+1
  .grind
  .obtain⟨t,a,x⟩:=f.hdo e d c;rw[<-x];exact g.hd t a
 .show q.1.N=0\/∃j:Nat,j<(q.1.c.set k q.2).length/\q.1.N=(j:Int)+1;rw[m];by_cases n:q.1.N=0
  .omega
  .by_cases c:q.1.N=(k:Int)+1
   .grind
   .rw[f.tko n c];exact g.tk
theorem Ld(h:WOk s.2.1 n w)(l:WX w)(d:LX w):LX (aq s w a):=by
 have e:LX {w with j:=w.j+1}:=⟨λk b=>⟨(d.x k b).l,(d.x k b).no,(d.x k b).hd,(d.x k b).tk⟩,d.ow,d.hd,d.tk⟩;have f:=λi j g=>(h.x i j).R g;unfold aq;simp only;split
 .have b:a.2.1.toNat<w.c.length:=Ω
  have c:=e.x _ b;rw[Wk b];split
  .unfold m9;rw[Wk (b)];exact Sk e b (qu h b) (WwD (n:=n) (l _ b) (h.x _ b) ⟨h.i,h.D,h.a⟩ c) f
  .split
   .split
    .exact Sk (b:={w with j:=w.j+1}) e b rfl (LQ.of rfl rfl rfl ⟨c.l,c.no,c.hd,c.tk⟩) f
    omega
   .split
    .split
     .exact Sk (b:={w with j:=w.j+1}) e b rfl (LQ.of rfl rfl rfl ⟨c.l,c.no,c.hd,c.tk⟩) f
     omega
    omega
 omega
theorem WwE:∀(l:List Ac) (n) (w),WOk s.2.1 n w->WX w->LX w->LX (l.foldl (aq s) w)
 | [],n,w,h,b,hl=>hl
 |a::l,n,w,h,b,hl=>WwE l (n+1) _ (nV (a:=a) h) (C3 (a:=a) h b).1 (Ld h b hl)
theorem Wt4(d:dF s=true):LX (aX s):=by
 obtain⟨e,g,j,l⟩:=rP d;have f:∀i,0<=i->i<=7->Ep (aX s).i i=0:=λi a b=>by
  unfold Ep Wy ac aX DR;have:=e.S.len
  grind [Wk,wd0,aP]
 refine⟨λk m=>?_,λi a b=>.inl (f i a b),(λh c=>by cases c),.inl rfl⟩;have n:(aX s).c[k]={}:=by simp[aX,mw]
 exact⟨λh=>Ψ,(λ_ i a b=>Θ),(λh c=>by cases c),λh=>by(change (0:Int)=(k:Int)+1 at h;omega)⟩
end
end
section
structure CGd(m:Mm)(c:Cm):Prop where
 ph:1<=c.g/\c.g<=5
 sole:∀i,0<=i->i<=7->Ep m i=0\/Ep m i=c.J
 ver:c.g<=3->∀i,0<=i->i<=7->(Wy m i).2.1<=c.u
variable{m:Mm}{c:Cm}
theorem YP(a)(h:a=2\/a=3\/a=4\/a=5\/a=6):2<=bm c a/\bm c a<=6/\a<=bm c a:=by
 unfold bm;split
 .omega
 .split<;>omega
theorem J7{a}(h:a=2\/a=3\/a=4\/a=5\/a=6)(b:1<=c.g/\c.g<=5)(d:c.g<=a):1<=(Wz c a).g/\(Wz c a).g<=6/\c.g<=(Wz c a).g/\(Wz c a).u=c.u/\(Wz c a).J=c.J:=by
 unfold Wz;split
 .have:=YP (c:=c) a h;show 1<=bm c a/\bm c a<=6/\c.g<=bm c a/\_/\_;exact⟨Ω,Ω,Ω,rfl,rfl⟩
 .exact⟨by show 1<=c.g;omega,by show c.g<=6;omega,Xt _,rfl,rfl⟩
theorem Wv7(q:CmOk c)(u:W4 m=true)(D:CmLk m c)(f:CGd m c)(y:m.1<1000000):1<=(Wv m c).2.g/\(Wv m c).2.g<=6/\(Wv m c).2.u=c.u/\
  ((Wv m c).2.g<=3->∀i,0<=i->i<=7->(Wy (Wv m c).1 i).2.1<=c.u):=by
 have o:=f.ph;have n:=q.pos;unfold Cm.steps at n;have G:∀j:Nat,(h:j<c.w.length)->0<=c.w[j].1/\c.w[j].1<=7:=λj h=>(q.Eo _ (Xm h)).1;unfold Wv;simp only;by_cases s:c.g=1
 .rw[Wb s];rw[s]at n;simp at n;obtain⟨j,C⟩:∃j:Nat,c.pos=j:=⟨c.pos.toNat,Ω⟩;have r:j<c.w.length:=Ω
  have z:ac c.w c.pos (0,0)=c.w[j]:=by unfold ac;rw[C,Xf];exact Wk r _
  have k:=G j r;have A:¬lkd c c.w[j].1:=λ⟨i,B,I,b⟩=>by
   have E:i<j:=by unfold lkA at b;omega
   have:=fh.1 q.pup i j B r E;omega
  have x:(Wy m c.w[j].1).2.2=0:=by
   rcases f.sole _ k.1 k.2 with h|h
   .exact h
   .exact Wh ((D.T _ k.1 k.2).1 h) A
  rw[z,Wb x];obtain⟨I,b,_,d,_⟩:=J7 (c:=c) (a:=2) Ω o Ω;refine⟨I,b,d,λ_ i g l=>?_⟩;show(Wy (qH m c.w[j].1 c.J) i).2.1<=c.u;unfold qH;rw[nB u k ⟨g,l⟩];split
  .exact f.ver Ω _ k.1 k.2
  .exact f.ver Ω i g l
 rw[Wa s];by_cases v:c.g=2
 .rw[Wb v];have F:tick m=((m.1+1,m.2),m.1+1):=by unfold tick;rw[Wb y]
  have g:=(WK u).2.1;rw[F,Wa (show¬m.1+1=0 by omega)];have:=YP (c:={c with F:=m.1+1}) 3 Ω;exact⟨by show 1<=bm {c with F:=m.1+1} 3;omega,by show bm {c with F:=m.1+1} 3<=6;omega,rfl,λ_ i g l=>f.ver Ω i g l⟩
 rw[Wa v];by_cases t:c.g=3
 .rw[Wb t];rw[t]at n;simp at n;have p:0<=ac c.o c.pos 0/\ac c.o c.pos 0<=7:=by
   have:ac c.o c.pos 0=c.o[c.pos.toNat]'Ω:=Wk Ω _;rw[this];exact q.rd _ (Xm _)
  have a:=f.sole _ p.1 p.2;have H:=f.ver Ω _ p.1 p.2;unfold Ep at a;rw[Wa Ω];obtain⟨I,b,_,d,_⟩:=J7 (c:=c) (a:=4) Ω o Ω;exact⟨I,b,d,λ_ i g l=>f.ver Ω i g l⟩
 rw[Wa t];by_cases w:c.g=4
 .rw[Wb w];obtain⟨I,b,e,d,_⟩:=J7 (c:=c) (a:=5) Ω o Ω;exact⟨I,b,d,λh=>by(change (Wz c 5).g<=3 at h;omega)⟩
 rw[Wa w,Wb Ω];obtain⟨I,b,e,d,_⟩:=J7 (c:=c) (a:=6) Ω o Ω;exact⟨I,b,d,λh=>by(change (Wz c 6).g<=3 at h;omega)⟩
end
section
structure RGd(m:Mm)(x:Rt):Prop where
 dm:x.U=false
 sp:x.Ez=0
 ph:x.g=1\/x.g=2\/x.g=5\/x.g=6\/x.g=7
 run:x.g=1\/x.g=2->zi m x.u/\pbV m x.L x.E
 n:x.g=2->FGd m x.n
 l:x.g=5->CGd m x.l
 ft:x.g=5\/x.g=6\/x.g=7->x.H≠0
variable{w:Wo}{x y:Rt}{k:Nat}{p:Pg}{n:Int}{o:Opn}
theorem RGd.on{m}(h:RGd m x)(b:x.g=1)(f:y.g=1)(c:y.U=x.U)(a:y.Ez=x.Ez)(d:y.u=x.u)(e:pbV m y.L y.E):RGd m y:=
 ⟨c.trans h.dm,a.trans h.sp,.inl f,λ_=>⟨by rw[d];exact(h.run (.inl b)).1,e⟩,λg=>Ω,λg=>Ω,λg=>Ω⟩
theorem XU(h:RGd w.i x)(f:x.g=1){out}(g:out≠0):(W9 w x k out).2.g=8\/RGd (W9 w x k out).1.i (W9 w x k out).2:=by
 have d:=(h.run (.inl f)).1;unfold W9;simp only;generalize (if out=2 then []else x.A)=a;split
 .exact .inl rfl
 .have e:(cx ((k:Int)+1) x.u a x.o).g=if(al a).length=0 then 2 else 1:=rfl;refine .inr ⟨h.dm,h.sp,.inr (.inr (.inl rfl)),λc=>?_,λc=>?_,λ_=>⟨?_,λi j b=>.inl (d i j b).1,λ_ i j b=>(d i j b).2⟩,λ_=>g⟩
  .change (5:Int)=1\/(5:Int)=2 at c;omega
  .change (5:Int)=2 at c;omega
  .show 1<=(cx ((k:Int)+1) x.u a x.o).g/\(cx ((k:Int)+1) x.u a x.o).g<=5;rw[e];split<;>omega
theorem WxS(h:RGd w.i x)(r:x.g=1)(i:RT x)(e:0<=o.2.2.1/\o.2.2.1<=7):RGd w.i (dX w x o):=by
 obtain⟨g,d⟩:=h.run (.inl r);unfold dX;cases bf x.A o.2.2.1 with
 |some v=>exact h.on r r rfl rfl rfl d
 |none=>
  simp only;obtain⟨f,m,a⟩:=YE (b:=x.L) (p:=x.E) (c:=o.2.2.1) g d i.E e;generalize (if x.L=true then x.E else(o.2.2.1,0,0,0))=q0 at*;generalize WU w.i x.u q0=q at*;obtain⟨j,l,k⟩:=a;rw[Wa Ω];split
  .exact h.on r r rfl rfl rfl (λh=>by cases h)
  .refine h.on r r rfl rfl rfl λ_=>?_;show(0<=q.1/\q.1<=7)/\q.2.2.1=(Wy w.i q.1).2.1;rw[j];exact⟨f,k⟩
theorem WBk(g:CC p.1)(f:RLive p n x)(h:RGd w.i x)(a:x.g=1)(t:RT x)(q:∀e∈w.a,e.1=(k:Int)+1):(am w x k p).2.g=8\/RGd (am w x k p).1.i (am w x k p).2:=by
 obtain⟨d,b⟩:=h.run (.inl a);unfold am;split
 .exact XU h a Ω
 .obtain⟨i,r,u,s⟩:=jV (l:=p.1) f.k.1 (by have:=f.k;omega);simp only[s];split
  .have ao:=nh (g.ok i r).1 ‹_›;have m:0<=p.1[i].2.2.1/\p.1[i].2.2.1<=7:=by have:=ao.2;unfold cp at this;simpa using this
   exact .inr (WxS h a t m)
  .split
   .unfold fV;split
    .exact XU h a Ω
    .split
     .exact .inr (h.on a a rfl rfl rfl b)
     .exact .inr (h.on a a rfl rfl rfl b)
   .split
    .refine .inr ⟨h.dm,h.sp,.inr (.inl rfl),λ_=>⟨d,b⟩,λ_=>⟨rfl,d,λj v=>?_⟩,λc=>?_,λc=>?_⟩
     .have e:(cq x.u x.t x.A p.2.length).κ[j]={t:=x.t}:=by simp[cq,mw]
      show pbV w.i (cq x.u x.t x.A p.2.length).κ[j].L (cq x.u x.t x.A p.2.length).κ[j].E;rw[e]
      exactλh=>by cases h
     .change (2:Int)=5 at c;omega
     .change (2:Int)=5\/(2:Int)=6\/(2:Int)=7 at c;omega
    .split
     .have hb:rZ w.a ((k:Int)+1) (WO p.1[i]).1 (WO p.1[i]).2= []:=by
       unfold rZ;rw[List.map_eq_nil_iff,List.filter_eq_nil_iff];intro e o;have:=q e o;unfold blk;simp[this]
      have e:fN w.a ((k:Int)+1) (WO p.1[i]).1 (WO p.1[i]).2=some (Hm w.a ((k:Int)+1) (WO p.1[i]).1 (WO p.1[i]).2):=by unfold fN;rw[Wb hb]
      unfold eN;rw[e];exact .inr (h.on a a rfl rfl rfl b)
     .repeat' split
      all_goals exact .inr (h.on a a rfl rfl rfl b)
theorem Wx0(G:POk p)(v:ROk p n x)(h:RGd w.i x)(H:RT x)(F:∀e∈w.a,e.1=(k:Int)+1)(u:W4 w.i=true)(D:LB w k x)(z:w.i.1<1000000):
  (WS w x k p).2.g=8\/RGd (WS w x k p).1.i (WS w x k p).2:=by
 unfold WS;rw[Wa (by rw[h.dm];simp),Wa (by have:=h.ph;omega)];by_cases o:x.g=1
 .rw[Wb o];exact WBk G.Y (v.Ev Ω) h o H F
 rw[Wa o];by_cases f:x.g=2
 .rw[Wb f];obtain⟨E,I⟩:=h.run (.inr f);right;show RGd w.i (ch x);unfold ch;rw[Wa (by rw[(h.n f).Ey];simp)];split
  .exact⟨h.dm,h.sp,.inl rfl,λ_=>⟨E,I⟩,λf=>by(change (1:Int)=2 at f;omega),λf=>by(change (1:Int)=5 at f;omega),λf=>by(change (1:Int)=5\/(1:Int)=6\/(1:Int)=7 at f;omega)⟩
  .exact h
 rw[Wa f,Wa (by have:=h.ph;omega),Wa (by have:=h.ph;omega)];have j:=h.ft (by have:=h.ph;omega);by_cases g:x.g=5
 .rw[Wb g];obtain⟨r,A⟩:=D.l g;have s:=v.R g;have t:=h.l g;obtain⟨K,b,d,e⟩:=Wv7 s u A t z;have J:=V5 w.i x.l;have B:=λL (K:L≠(k:Int)+1) (b:L≠0) (i:Int) (c:0<=i) (d:i<=7)=>VE (i:=i) s u (a:=L) (by rw[r];exact K) b ⟨c,d⟩;right;unfold W7;rw[Wa (by rw[h.dm];simp)];simp only;show RGd (Wv w.i x.l).1 (cX {x with l:=(Wv w.i x.l).2});generalize (Wv w.i x.l).1=a at*;generalize (Wv w.i x.l).2=N at*;unfold cX;simp only;rw[Wa Ω];split
  .have bN:(if x.H=2 then(6:Int)else 7)=6\/(if x.H=2 then(6:Int)else 7)=7:=by split<;>simp
   generalize (if x.H=2 then(6:Int)else 7)=O at*;exact⟨h.dm,h.sp,by show O=1\/O=2\/O=5\/O=6\/O=7;omega,λf=>by(change O=1\/O=2 at f;omega),λf=>by(change O=2 at f;omega),λf=>by(change O=5 at f;omega),λ_=>j⟩
  .refine⟨h.dm,h.sp,.inr (.inr (.inl g)),λf=>by(change x.g=1\/x.g=2 at f;omega),λf=>by(change x.g=2 at f;omega),λ_=>⟨⟨K,by show N.g<=5;omega⟩,λi l m=>?_,λC i l m=>?_⟩,λ_=>j⟩
   .show Ep a i=0\/Ep a i=N.J;by_cases z0:Ep a i=0
    .exact .inl z0
    .by_cases zk:Ep a i=(k:Int)+1
     .exact .inr (by rw[J,r];exact zk)
     .have:=(B _ zk z0 i l m).1.1 rfl;rcases t.sole i l m with M|M
      .rw[M]at this;exact Wh this.symm z0
      .rw[M,r]at this;exact Wh this.symm zk
   .show(Wy a i).2.1<=N.u;rw[d];exact e C i l m
 rw[Wa g];by_cases q:x.g=6
 .rw[Wb q];right;by_cases y:x.y.length>0
  .rw[Wb y];exact⟨h.dm,h.sp,.inr (.inr (.inr (.inl q))),λf=>by(change x.g=1\/x.g=2 at f;omega),λf=>by(change x.g=2 at f;omega),λf=>by(change x.g=5 at f;omega),λ_=>j⟩
  .rw[Wa y];exact⟨h.dm,h.sp,.inr (.inr (.inr (.inr rfl))),λf=>by(change (7:Int)=1\/(7:Int)=2 at f;omega),λf=>by(change (7:Int)=2 at f;omega),λf=>by(change (7:Int)=5 at f;omega),λ_=>j⟩
 .rw[Wa q,Wb (by have:=h.ph;omega),Wa j];exact .inl rfl
end
section
section
variable{R:Type}{N e:Nat}{p:Pg}{g:List Int×List Int×Int}{a:Ka6 R}{b:Ka4 R}
 {w v:Wo} {x y:Rt} {n:Int} {l:List Int} {r c:List Int} {S:List Int×Int} {mk:List M7} {d:Nat} {k:Nat} {m f:Mm} {u:Un}
noncomputable def wA(N e:Nat)(p:Pg)(g:List Int×List Int×Int)(a:Ka6 R)(b:Ka4 R)(l:List Int)(n:Nat)(d:Int)(r:List Int)(S:List Int×Int)(mk:List M7)(c:List Int):Option R:=
 wk N (Ze N (e+1)) p.1 p.2 l g.2.2 g.1 g.2.1 a b n d r S.2 mk c S.1
noncomputable def bgn(N e:Nat)(p:Pg)(g:List Int×List Int×Int)(a:Ka6 R)(b:Ka4 R)(l:List Int):Option R:=
 wA N e p g a b l N 0 [0,0,0,0] (g.2.1,g.2.2) [] g.1
def WAt(N e:Nat)(p:Pg)(g:List Int×List Int×Int)(a:Ka6 R)(b:Ka4 R)(l:List Int)(d:Int)(r:List Int)(S:List Int×Int)(mk:List M7)(c:List Int):Prop:=
 ∃n:Nat,(N:Int)<=n+d/\bgn N e p g a b l=wA N e p g a b l n d r S mk c
theorem WAt.on{v}{r' f}{h}{mk'}(A:WAt N e p g a b l (d:Int) r S mk c)(t:1048576<N)(o:d<=24)(j:(d:Int)<v)
  (s:∀n,wA N e p g a b l (n+1) (d:Int) r S mk c=wA N e p g a b l n v r' h mk' f):WAt N e p g a b l v r' h mk' f:=by
 obtain⟨n,q,i⟩:=A;obtain⟨z,rfl⟩:∃z,n=z+1:=⟨n-1,Ω⟩;exact⟨z,Ω,i.trans (s z)⟩
theorem WAt.fin{i}(h:WAt N e p g a b l (d:Int) r S mk c)(f:1048576<N)(j:d<=24)(s:∀n,wA N e p g a b l (n+1) (d:Int) r S mk c=i):bgn N e p g a b l=i:=by
 obtain⟨n,o,q⟩:=h;obtain⟨t,rfl⟩:∃t,n=t+1:=⟨n-1,Ω⟩;simp_all
def cm7(a:List Int)(c:List Rw)(b:List Un)(S:List Int×Int)(q:RM):M7:=(q.1,(q.2.2.2.2,(ovl a (c.take q.2.2.1.toNat),la S (b.drop q.2.2.2.1.toNat))))
structure OF(p:Pg)(fk:Bool)(x:Rt):Prop where
 no:fk=false->x.B= []
 yes:fk=true->(p.2.length,x.B)∈gQ
theorem QO{c:Type}{a b:List c}{k}(h:k<=a.length):(a++b).take k=a.take k:=List.take_append_of_le_length h
theorem WvT{c0}{g}{c v}(d:Vals 8 c0)(f:bT g)(e:g.length<=300)(a:0<=c)(b:c<=7):(bf g c=some v->(ovl c0 g).getD c.toNat 0=v)/\(bf g c=none->(ovl c0 g).getD c.toNat 0=c0.getD c.toNat 0):=by
 grind [C1,qj]
end
end
section
abbrev Tg:=List Int×List Int×Int
abbrev Ka5(R:Type):=Tg->List Int->Option R
section
variable{l a:List Hd}{k:Nat}{i v e:Int}{s:Shf}{u:Un}{S:List Int×Int}{o:Opn}{r:List Int}{w:Wo}{b:List Un}{T:Tg}
def dV(S:List Int×Int)(o:Opn)(r:List Int):(List Int×Int)×List Int×Un:=
 if o.1=12 then((S.1.set o.2.1.toNat (ac r o.2.2.1 0+1),S.2),gh r o.2.2.2 (S.1.getD o.2.1.toNat 0%65536),jX o.2.1 (S.1.getD o.2.1.toNat 0))else
 if o.1=13 then(S,gh r o.2.1 (S.1.getD o.2.2.1.toNat 0%65536),(0,0,0))else
 if o.1=14 then((S.1.set o.2.1.toNat 0,S.2),gh r o.2.2.1 (S.1.getD o.2.1.toNat 0%65536),jX o.2.1 (S.1.getD o.2.1.toNat 0))else
 if o.1=15 then((S.1,(S.2+ac r o.2.1 0)%65536),r,(3,0,ac r o.2.1 0))else
 (S,gh r o.2.1 S.2,(0,0,0))
structure SV(S:List Int×Int):Prop where
 len:S.1.length=8
 key:∀i:Nat,0<=S.1.getD i 0/\S.1.getD i 0<=65536
 W:0<=S.2/\S.2<=65535
theorem Wxe(h:SV S)(i:Vals 4 r)(f:aj o=true)(j:12<=o.1):((dV S o r).2.2.1=0->(dV S o r).1=S)/\((dV S o r).2.2.1≠0->jj (dV S o r).1 (dV S o r).2.2=S):=by
 unfold dV;by_cases c:o.1=12
 .rw[Wb c];have d:=kE.1 (u3 f c).1;have g:=ZI (S:=S) (z:=ac r o.2.2.1 0+1) (h.key o.2.1.toNat).1 rfl d h.len;simp_all
 rw[Wa c];by_cases b:o.1=13
 .simp[b]
 rw[Wa b];by_cases a:o.1=14
 .rw[Wb a];have d:=kE.1 (u5 f a).1;have g:=ZI (S:=S) (z:=0) (h.key o.2.1.toNat).1 rfl d h.len;simp_all
 rw[Wa a];by_cases e:o.1=15
 .rw[Wb e];refine⟨λz=>by simp at z,λ_=>?_⟩;have l:0<=ac r o.2.1 0/\ac r o.2.1 0<=65535:=i.get o.2.1.toNat;have k:=h.W;unfold jj;simp only;rw[Wa Ω,Wa Ω,Wb trivial,show((S.2+ac r o.2.1 0)%65536-ac r o.2.1 0+65536)%65536=S.2 by omega]
 simp[e]
def hld(l:List Hd)(k:Nat)(i:Int):Prop:=∃h∈l,h.1=(k:Int)+1/\h.2.1=i
def xld(l:List Hd)(k:Nat)(i:Int):Prop:=∃h∈l,h.1=(k:Int)+1/\h.2.1=i/\h.2.2=2
theorem xld.h(h:xld l k i):hld l k i:=by
 obtain⟨e,a,b,c,_⟩:=h;exact⟨e,a,b,c⟩
def dl:List Un->Int
 | []=>0
 |u::l=>(if u.1=3 then u.2.2 else 0)+dl l
theorem w8:∀{b},dl (b++ [u])=dl b+(if u.1=3 then u.2.2 else 0)
 | []=>by simp[dl]
 |a::b=>by
  rw[List.cons_append,dl,dl,w8];omega
open Classical in
noncomputable def svw(l:List Hd)(s:Shf)(k:Nat)(T:Tg)(b:List Un):List Int×Int:=
 ((List.range 8).map λi:Nat=>if hld l k (i:Int)then WE s.1 (i:Int)else T.2.1.getD i 0,(T.2.2+dl b)%65536)
open Classical in
theorem qn(h:0<=i/\i<=7):(svw l s k T b).1.getD i.toNat 0=if hld l k i then WE s.1 i else T.2.1.getD i.toNat 0:=by
 have a:i.toNat<8:=Ω
 unfold svw;rw[Wk Ψ,List.getElem_map,List.getElem_range,show((i.toNat:Nat):Int)=i by omega]
theorem pp:(svw l s k T b).1.length=8:=by simp[svw]
theorem Ab{S c:List Int×Int}(h:S.1.length=8)(a:c.1.length=8)(d:∀i:Int,0<=i/\i<=7->S.1.getD i.toNat 0=c.1.getD i.toNat 0)(b:S.2=c.2):S=c:=by
 grind [Prod.ext,List.ext_getElem,Xf,Wk]
theorem ThOk.key(h:ThOk T)(i):0<=T.2.1.getD i 0/\T.2.1.getD i 0<=65536:=by
 by_cases a:i<T.2.1.length
 .rw[Wk a];exact h.map.2 _ (Xm _)
 simp_all
theorem Hv(h:ThOk T):SV (svw l s k T b):=by
 refine⟨pp,λi=>?_,?_⟩
 .by_cases a:i<8
  .have:=qn (l:=l) (s:=s) (k:=k) (T:=T) (b:=b) (i:=(i:Int)) Ω;rw[Xf]at this;rw[this];split
   .exact JZ _ _
   .exact h.key i
  grind [List.getElem?_eq_none,pp]
 grind [svw]
theorem Wy8(h:ShOk s)(n:Vals 4 r)(f:aj o=true)(p:12<=o.1)(q:S.1.length=8)(a:(WO o).1<=7->S.1.getD (WO o).1.toNat 0=WE s.1 (WO o).1)(g:(WO o)=(8,2)->S.2=s.2):
  (WN s o r).2=(dV S o r).2/\(∀i,0<=i/\i<=7->i≠(WO o).1->WE (WN s o r).1.1 i=WE s.1 i/\(dV S o r).1.1.getD i.toNat 0=S.1.getD i.toNat 0)/\((WO o).1<=7->(dV S o r).1.1.getD (WO o).1.toNat 0=WE (WN s o r).1.1 (WO o).1)/\(dV S o r).1.1.length=8/\(∀b:List Un,∀c:Int,S.2=(c+dl b)%65536->(dV S o r).1.2=(c+dl (if(dV S o r).2.2.1=0 then b else b++ [(dV S o r).2.2]))%65536):=by
 have t:=qy f;revert a g;unfold WN dV WO;by_cases e:o.1=12
 .have o1:=kE.1 (u3 f e).1;have k:0<=ac r o.2.2.1 0/\ac r o.2.2.1 0<=65535:=n.get o.2.2.1.toNat;simp only[Wb e,Wb (show o.1=12\/o.1=14 from .inl e)];intro a _;have a:=a o1.2;refine⟨by rw[a],λi m j=>⟨?_,?_⟩,λ_=>?_,Ψ,λb c g=>?_⟩
  .rw[CZ h.Q o1 k,Wa j]
  .rw[Xs,Xs,ly Ω]
  .rw[CZ h.Q o1 k,Wb rfl,Xs,yf Ω];rfl
  grind [jX,w8]
 by_cases d:o.1=13
 .have o1:=kE.1 (D2 f d).2;simp_all
 by_cases x:o.1=14
 .have o1:=kE.1 (u5 f x).1;simp only[Wa e,Wa d,Wb x,Wb (show o.1=12\/o.1=14 from .inr x)];intro a _;have a:=a o1.2;refine⟨by rw[a],λi m j=>⟨?_,?_⟩,λ_=>?_,Ψ,λb c g=>?_⟩
  .rw[Gq h.Q,Wa j]
  .rw[Xs,Xs,ly Ω]
  .rw[Gq h.Q,Wb rfl,Xs,yf Ω];rfl
  grind [jX,w8]
 by_cases l:o.1=15
 .simp only[Wa e,Wa d,Wa x,Wb l,Wa Ω]
  grind [absurd,w8]
 simp_all
end
section
variable{R:Type}{N:Nat}{f:Kaf->Kab->Ki->Ki->Kg->Option Ky}{d:List Opn}{g:List (List Opn)}{h:List Int}{j:Int}{k i:List Int}{a:Ka6 R}{b:Ka4 R}
 {n e:Nat} {r c:List Int} {mk:List M7} {S:List Int×Int}
theorem Ww8(hp)(u:d.length<=24)(m:12<=d[e].1)(t:aj d[e]=true)(p:Vals 4 r)(w:SV S):wk N f d g h j k i a b (n+1) (e:Int) r S.2 mk c S.1=wk N f d g h j k i a b n ((e+1:Nat):Int) (dV S d[e] r).2.1 (dV S d[e] r).1.2 mk c (dV S d[e] r).1.1:=by
 have o:=qy t;have z:∀x:Nat,cj (S.1.getD x 0) 65536=S.1.getD x 0%65536:=λx=>by
  have:=w.key x
  grind [cj,Int.tmod_eq_emod_of_nonneg]
 unfold dV;by_cases y:d[e].1=12
 .rw[Wb y];have l:0<=ac r d[e].2.2.1 0/\ac r d[e].2.2.1 0<=65535:=p.get d[e].2.2.1.toNat;refine(WDz hp u y t p.len w.len l).trans ?_;rw[z,show(1:Int)+r.getD d[e].2.2.1.toNat 0=ac r d[e].2.2.1 0+1 by unfold ac;omega];rfl
 rw[Wa y];by_cases q:d[e].1=13
 .rw[Wb q];refine(WDL hp u q t p.len w.len).trans ?_;rw[z];rfl
 rw[Wa q];by_cases s:d[e].1=14
 .rw[Wb s];refine(WDE hp u s t p.len w.len).trans ?_;rw[z];rfl
 rw[Wa s];by_cases v:d[e].1=15
 .rw[Wb v];exact WDI hp u v t p.len (p.get _) w.W
 .rw[Wa v];exact WDA hp u Ω t p.len
end
section
variable{l a:List Hd}{k:Nat}{i v e:Int}{s:Shf}{u:Un}{S:List Int×Int}{o:Opn}{r:List Int}{w:Wo}{b:List Un}{T:Tg}
theorem Wsp(a:aj o=true)(e:12<=o.1):(0<=(WO o).1/\(WO o).1<=8)/\((WO o).2=1\/(WO o).2=2):=by
 have f:=qy a;unfold WO;by_cases d:o.1=12
 .have o1:=kE.1 (u3 a d).1
  grind
 by_cases c:o.1=14
 .have o1:=kE.1 (u5 a c).1
  grind
 rw[Wa Ω];by_cases b:o.1=13
 .have o1:=kE.1 (D2 a b).2
  grind
 grind
open Classical in
theorem Wxf(h:ShOk s)(u:Vals 4 r)(t:aj o=true)(m:12<=o.1)(q:(WO o).1<=7->(svw l s k T b).1.getD (WO o).1.toNat 0=WE s.1 (WO o).1)(n:(WO o)=(8,2)->(svw l s k T b).2=s.2)(p:hld a k (WO o).1)(w:∀i,i≠(WO o).1->(hld a k i↔hld l k i)):
  svw a (WN s o r).1 k T (if(WN s o r).2.2.1=0 then b else b++ [(WN s o r).2.2])=(dV (svw l s k T b) o r).1/\(WN s o r).2=(dV (svw l s k T b) o r).2:=by
 obtain⟨y,d,e,f,g⟩:=Wy8 h u t m (pp (l:=l) (s:=s) (k:=k) (T:=T) (b:=b)) q n;refine⟨Ab pp f (λi x=>?_) ?_,y⟩
 .rw[qn x];by_cases c:i=(WO o).1
  .subst c;rw[Wb p,e x.2]
  .obtain⟨v,j⟩:=d i x c;rw[j,qn x];simp_all
 .rw[g b T.2.2 rfl,<-y];rfl
open Classical in
theorem ZG(h:ShOk s)(e:UnV u)(n:(u.1=1\/u.1=2)->hld l k u.2.1)(m:ThOk T):jj (svw l s k T (b++ [u])) u=svw l (gL s u) k T b:=by
 have a:=WAF h e;have j:(jj (svw l s k T (b++ [u])) u).1.length=8:=by
  grind [jj,pp,Xx]
 have q:=m.W;refine Ab j pp (λi x=>?_) ?_
 .rw[qn x];have g:WE (gL s u).1 i=(jj (shS s) u).1.getD i.toNat 0:=by
   rw[<-a];exact(Wvp x).symm
  have o:(shS s).1.getD i.toNat 0=WE s.1 i:=Wvp x;have p:=qn (l:=l) (s:=s) (k:=k) (T:=T) (b:=b++ [u]) x;have r:=pp (l:=l) (s:=s) (k:=k) (T:=T) (b:=b++ [u]);have t:(shS s).1.length=8:=K8;have f:(if hld l k i then WE (gL s u).1 i else T.2.1.getD i.toNat 0)=if hld l k i then(jj (shS s) u).1.getD i.toNat 0 else T.2.1.getD i.toNat 0:=by rw[g]
  refine Eq.trans ?_ f.symm;have v:∀z:Int,(0<=u.2.1/\u.2.1<=7)->hld l k u.2.1->((svw l s k T (b++ [u])).1.set u.2.1.toNat z).getD i.toNat 0=if hld l k i then((shS s).1.set u.2.1.toNat z).getD i.toNat 0 else T.2.1.getD i.toNat 0:=λz y n=>by
   grind
  rcases e with⟨c,y,d⟩|⟨c,y,d⟩|⟨c,y,d⟩
  .simp_all [jj,set,Wb]
  .simp_all [jj,set,Wa,Wb]
  simp_all [jj,Wa,Wb]
 .unfold jj svw;rw[w8]
  grind
end
end
end Go.Sx
