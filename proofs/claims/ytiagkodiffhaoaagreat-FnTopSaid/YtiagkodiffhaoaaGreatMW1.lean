/- Plain laws of the Lean functions. -/
import Derived.Test.YtiagkodiffhaoaaGreatT2
open Option renaming bind_some->Xd
open Nat renaming le_refl->Xj,zero_add->d4,le_trans->mA,add_zero->gJ,add_assoc->gU
open List renaming append->Xh,mem_cons_self->Xg,append_eq->eK,mem_cons_of_mem->Xe,length_cons->Xv,all_eq_true->cS,getD->Xc,mem_cons->Xr,set->Xi,set_set->mz,take_succ_eq_append_getElem->pO,take_of_length_le->nm,countP_le_length->H1,length->Xa,length_append->bX,length_dropLast->yg,append_inj'->Sp,append_assoc->o0,cons_append->hZ,dropLast_concat->HY,getElem_mem->Xm,length_set->Xx,pairwise_cons->Xz,mergeSort_perm->Xhk,getElem_of_mem->cN,pairwise_iff_getElem->fh,mem_iff_getElem->q8,getElem_set->fE,range->bJ,replicate->Xp,map_append->Xw,map_cons->bo,map_nil->d6,map_set->Xgq,length_map->aP,take->bM,set_getElem_self->jt,mem_range'_1->Xhz,mem_append->Xo,pairwise_append->dZ,mem_singleton->dq,mem_of_mem_take->lv,getElem?_eq_getElem->Xq,drop_length->p6,drop_eq_getElem_cons->HN,foldl_cons->eM,countP_set->Xih,length_singleton->Xem,length_nil->kp,mem_map->Xy,nil_append->p4,take_length->jz,map_congr_left->vk,getD_eq_getElem?_getD->Xs,getElem?_set_ne->ly
open Bool renaming not_true->Xu,and_eq_true->Xl,or_eq_true->sH,not_eq_true'->hU,not_eq_true->Sy,toNat_false->Sw,false_and->L7,true_and->sN,or_eq_false_iff->AK,not_eq_false'->Ed
open Int renaming toNat->Xb,toNat_natCast->Xf,le_refl->Xt
namespace Go.Sx
set_option linter.defProp false
set_option linter.unusedVariables false
set_option linter.unusedSimpArgs false
abbrev Ka9(R:Type):=Int->Bool->Int->Int->Int->Int->List Kb->List Int->List Kb->List Y_Root->List Kr->Option R
abbrev Ka8(R:Type):=Int->Bool->Option R
abbrev Ka7(R:Type):=Int->Int->Bool->Option R
abbrev Ka6(R:Type):=List Int->Option R
section
def dK(v:Int):Bool:=decide (0<=v)&&decide (v<=65535)
def oN{N}{x a b}:ir N x a b=ret (decide (a<=x)&&decide (x<=b)):=by
 unfold ir;by_cases h:a<=x<;>simp[h]
def ij{N}{x a b}:Zj N x a b=ret (decide (a<=x)&&decide (x<=b)):=by
 unfold Zj;by_cases h:a<=x<;>simp[h]
def me{a:Type}{p}(l:List a):(l.any λx=>!p x)= !l.all p:=by
 grind
abbrev Rw:=Int×Int
def cp(v:Int):Bool:=decide (0<=v)&&decide (v<=7)
def qJ(r:Rw):Bool:=cp r.1&&dK r.2
def fO(l:List Rw):Bool:=decide (l.length<=300)&&l.all qJ
def oD(l:List Int):Bool:=decide (l.length=8)&&l.all dK
def CP{N}{v}:tE N v=ret (dK v):=by
 unfold tE;simp only[oN,ret,Xd];rfl
def qe{N}{v}:mJ N v=ret (dK v):=by
 unfold mJ;simp only[ij,ret,Xd];rfl
def UJ{N}{v}:tv N v=ret (cp v):=by
 unfold tv;simp only[oN,ret,Xd];rfl
theorem tO{N}{v}:pd N v=ret (cp v):=by
 unfold pd;simp only[ij,ret,Xd];rfl
def Gm{N}{l}(d:l.length<=1048576)(c:1048576<N):tq N l=ret (oD l):=by
 unfold tq oD;by_cases h:l.length=8
 .have e:(Wi l !=8)=false:=by simp[Wi,h]
  rw[e];simp only[Wc];have b:=WF (l:=l) (V:=Unit) (R:=Unit×Ks) (c:=λn j v=>A6 N l (some ((),(false,()))) (λf g=>some ((),(true,()))) n j) (n:=N) Ω
   (b:=λj x v k=>bif !dK x then some ((),(false,()))else k v) (K:=λ_ v=>some ((),(true,())))
   (λn i v a=>by simp only[A6,WM a,Wp a,Wu a,Wl (j:=i),We,CP,ret,Xd])
   (λn v=>by simp[A6,W0,Xj,Wc]) ()
  refine b.trans ?_;rw[kF (p:=λx=>!dK x) (E:=λ_=>some ((),(false,()))) l 0 () (λj x v k _=>rfl),me];cases l.all dK<;>simp[h]
 grind [Wi]
def UF{N}{l}(d:l.length<=1048576)(c:1048576<N):mC N l 8=ret (oD l):=by
 unfold mC oD;have b:=WF (l:=l) (V:=Unit) (R:=Unit×Ks) (c:=λn j v=>sS N l 8 (some ((),(false,()))) (λf g=>some ((),((Wi l)==(8:Int),()))) n j) (n:=N) Ω
  (b:=λj x v k=>bif !dK x then some ((),(false,()))else k v) (K:=λ_ v=>some ((),((Wi l)==(8:Int),())))
  (λn i v a=>by simp only[sS,WM a,Wp a,Wu a,Wl (j:=i),We,qe,ret,Xd])
  (λn v=>by simp[sS,W0,Xj,Wc]) ()
 refine b.trans ?_;rw[kF (p:=λx=>!dK x) (E:=λ_=>some ((),(false,()))) l 0 () (λj x v k _=>rfl),me];have e:((Wi l)==(8:Int))=decide (l.length=8):=by
  grind [Wi]
 rw[e];cases l.all dK<;>simp
def CV{N}{l:List Rw}(d:l.length<=1048576)(c:1048576<N):rD N l=ret (fO l):=by
 unfold rD fO;by_cases h:l.length<=300
 .have e:decide (Wi l>300)=false:=by simp[Wi];omega
  rw[e];simp only[Wc];have b:=WF (l:=l) (V:=Unit) (R:=Unit×Ks) (c:=λn j v=>A9 N l (some ((),(false,()))) (λf g=>some ((),(true,()))) n j) (n:=N) Ω
   (b:=λj x v k=>bif !qJ x then some ((),(false,()))else k v) (K:=λ_ v=>some ((),(true,())))
   (λn i v a=>by
    simp only[A9,WM a,Wp a,Wu a,Wl (j:=i),We,CP,UJ,ret,Xd,qJ];cases cp l[i].1<;>rfl)
   (λn v=>by simp[A9,W0,Xj,Wc]) ()
  refine b.trans ?_;rw[kF (p:=λx=>!qJ x) (E:=λ_=>some ((),(false,()))) l 0 () (λj x v k _=>rfl),me];cases l.all qJ<;>simp[h]
 grind [decide,Wi]
def Gn{N}{l:List Rw}(d:l.length<=1048576)(c:1048576<N):tz N l=ret (fO l):=by
 unfold tz fO;have b:=WF (l:=l) (V:=Unit) (R:=Unit×Ks) (c:=λn j v=>Bc N l (some ((),(false,()))) (λf g=>some ((),(decide ((Wi l)<=(300:Int)),()))) n j) (n:=N) Ω
  (b:=λj x v k=>bif !qJ x then some ((),(false,()))else k v) (K:=λ_ v=>some ((),(decide ((Wi l)<=(300:Int)),())))
  (λn i v a=>by
   simp only[Bc,WM a,Wp a,Wu a,Wl (j:=i),We,qe,tO,ret,Xd,qJ];cases cp l[i].1<;>rfl)
  (λn v=>by simp[Bc,W0,Xj,Wc]) ()
 refine b.trans ?_;rw[kF (p:=λx=>!qJ x) (E:=λ_=>some ((),(false,()))) l 0 () (λj x v k _=>rfl),me];have e:decide (Wi l<=300)=decide (l.length<=300):=by apply decide_eq_decide.2;simp[Wi];omega
 rw[e];cases l.all qJ<;>simp
def Wxz{a:Type}{l:List a}(h:l.length<=1048576):WH l.length=true:=by grind [WH]
end
section
abbrev Wd:=Int×Int×Int
abbrev Mm:=Int×List Wd
def C8{a}(b:Option a):dL b b=b:=by unfold dL;simp
def ki(ε:Int)(w:Wd):Bool:=dK w.1&&((decide (0<=w.2.1)&&decide (w.2.1<=ε))&&(decide (0<=w.2.2)&&decide (w.2.2<=99)))
def W4(m:Mm):Bool:=decide (m.2.length=8)&&((decide (0<=m.1)&&decide (m.1<=1000000))&&m.2.all (ki m.1))
def zs{N}{m:Mm}(g:m.2.length<=1048576)(f:1048576<N):qa N m=ret (W4 m):=by
 unfold qa W4;have c:=WF (l:=m.2) (V:=Unit) (R:=Unit×Ks) (c:=λn j v=>BM N m.2 m (some ((),(false,()))) (λd h=>
  (bif (Wi m.2)==(8:Int)then
  ((Zj N m.1 (0:Int) (1000000:Int)).bind λb=>
  (some ((),(b.2.1,()))))
  else
  (some ((),(false,()))))) n j) (n:=N) Ω
  (b:=λj x v k=>bif !ki m.1 x then some ((),(false,()))else k v) (K:=λ_ v=>(bif (Wi m.2)==(8:Int)then
  ((Zj N m.1 (0:Int) (1000000:Int)).bind λb=>
  (some ((),(b.2.1,()))))
  else
  (some ((),(false,())))))
  (λn i v a=>by
   simp only[BM,WM a,Wp a,Wu a,Wl (j:=i),We,qe,ij,ret,Xd,ki];cases dK m.2[i].1<;>cases(decide (0<=m.2[i].2.1)&&decide (m.2[i].2.1<=m.1))<;>cases(decide (0<=m.2[i].2.2)&&decide (m.2[i].2.2<=99))<;>rfl)
  (λn v=>by simp[BM,W0,Xj,Wc]) ()
 refine c.trans ?_;rw[kF (p:=λx=>!ki m.1 x) (E:=λ_=>some ((),(false,()))) m.2 0 () (λj x v k _=>rfl),me];have e:((Wi m.2)==(8:Int))=decide (m.2.length=8):=by
  grind [Wi]
 simp only[e,ij,ret,Xd];cases m.2.all (ki m.1)<;>cases decide (m.2.length=8)<;>simp
def WmV{N}{m:Mm}(h:m.2.length<=1048576)(g:1048576<N):FY N m=ret (W4 m):=by
 unfold FY W4;have e:((Wi m.2) !=(8:Int))= !decide (m.2.length=8):=by
  grind [Wi]
 have c:=WF (l:=m.2) (V:=Unit) (R:=Unit×Ks) (c:=λn j v=>yw N m (some ((),(false,()))) (λf b=>(some ((),(true,())))) n j) (n:=N) Ω
  (b:=λj x v k=>bif !ki m.1 x then some ((),(false,()))else k v) (K:=λ_ v=>some ((),(true,())))
  (λn i v a=>by
   simp only[yw,WM a,Wp a,Wu a,Wl (j:=i),We,CP,oN,ret,Xd,ki];cases dK m.2[i].1<;>cases(decide (0<=m.2[i].2.1)&&decide (m.2[i].2.1<=m.1))<;>cases(decide (0<=m.2[i].2.2)&&decide (m.2[i].2.2<=99))<;>rfl)
  (λn v=>by simp[yw,W0,Xj,Wc]) ()
 have d:yw N m (some ((),(false,()))) (λf b=>(some ((),(true,())))) N 0=ret (m.2.all (ki m.1)):=by
  refine c.trans ?_;rw[kF (p:=λx=>!ki m.1 x) (E:=λ_=>some ((),(false,()))) m.2 0 () (λj x v k _=>rfl),me];cases m.2.all (ki m.1)<;>rfl
 rw[e,d];simp only[oN,ret,Xd];cases decide (m.2.length=8)<;>cases(decide (0<=m.1)&&decide (m.1<=1000000))<;>simp
def wd0(v:Int):Wd:=(v,(0,0))
def DR(l:List Int):Mm:=(0,l.map wd0)
def zt{c a R}{d}{K:Int->List a->Option R}{f}:∀(l:List c) (j) (o),o.length+l.length<=1000000->
  (∀(j:Nat) x (v) k,x∈l->d j x v k=bif WH (v.length+ [f x].length)then k (Xh v [f x])else none)->eP d K l j o=K ((j+l.length:Nat):Int) (o++l.map f)
 | [],j,o,_,_=>by simp[eP]
 |x::l,j,o,h,hb=>by
  rw[eP,hb j x o _ (Xg ..),Ww Φ];simp only[We];rw[zt l (j+1) _ (by grind [eK]) λj y v k b=>hb j y v k (Xe _ b)];rw[Xv,show j+1+l.length=j+(l.length+1) by omega];simp
def Wld{N}{l}(h:oD l=true)(d:1048576<N):Ch N l=some ((),(DR l,(true,()))):=by
 have m:l.length=8:=by grind [oD]
 unfold Ch;simp only[UF (Ω:l.length<=1048576) d,ret,Xd,h,Xu,Wc];have c:=WF (l:=l) (V:=List Wd) (R:=Unit×(Mm×Ks)) (c:=λn j v=>Be N l (λg e b=>(some ((),(((0:Int),b),(true,()))))) n j v) (n:=N) Ω
  (b:=λj x v k=>bif WH (v.length+ [wd0 x].length)then k (Xh v [wd0 x])else none) (K:=λ_ v=>some ((),(((0:Int),v),(true,()))))
  (λn i v a=>by simp only[Be,WM a,Wp a,Wu a,Wl (j:=i),We,wd0])
  (λn v=>by simp[Be,W0,Xj,Wc]) []
 refine c.trans ?_;rw[zt (f:=wd0) l 0 [] Φ (λj x v k _=>rfl)];rfl
theorem WK{m}(h:W4 m=true):m.2.length=8/\0<=m.1/\m.1<=1000000/\∀w∈m.2,ki m.1 w=true:=by
 simp_all [W4,Xl,Wg,cS]
def tick(m:Mm):Mm×Int:=if m.1<1000000 then((m.1+1,m.2),m.1+1)else(m,0)
def Wp7{N}{m}(h:W4 m=true)(a:1048576<N):N7 N m=some ((),((tick m).1,((tick m).2,()))):=by
 obtain⟨d,b,c,_⟩:=WK h;have e:ti N m=ret m:=by grind [ti,Ww]
 unfold N7 tick;simp only[e,zs (Ω:m.2.length<=1048576) a,ret,Xd,h,Xu,Wc];by_cases f:m.1<1000000
 .have e3:Ws .i64 m.1 1=m.1+1:=WB Λ
  grind
 grind
abbrev Pb:=Int×Int×Int×Int
def jn(p:Pb):Bool:=cp p.1&&((decide (0<=p.2.1)&&decide (p.2.1<=4))&&((decide (0<=p.2.2.1)&&decide (p.2.2.1<=1000000))&&dK p.2.2.2))
def WpV{N}{p:Pb}:NH N p=ret (jn p):=by
 unfold NH jn;simp only[tO,ij,qe,ret,Xd];cases cp p.1<;>cases(decide (0<=p.2.1)&&decide (p.2.1<=4))<;>cases(decide (0<=p.2.2.1)&&decide (p.2.2.1<=1000000))<;>simp
def WU(m:Mm)(a:Int)(p:Pb):Pb:=
 let w:=Xc m.2 (Xb p.1) (0,(0,0))
 bif p.2.1==0 then(bif w.2.2==0 then(bif decide (w.2.1<=a)then(p.1,(1,(w.2.1,p.2.2.2)))else(p.1,(4,p.2.2)))else(p.1,(4,p.2.2)))
 else bif p.2.1==1 then(p.1,(2,(p.2.2.1,w.1)))
 else bif p.2.1==2 then(bif w.2.2==0 then(bif w.2.1==p.2.2.1 then(p.1,(3,p.2.2))else(p.1,(4,p.2.2)))else(p.1,(4,p.2.2)))
 else p
def WCd{m}{p}(h:W4 m=true)(a:jn p=true):inb p.1 m.2.length=true:=by
 grind [WK,jn,cp,inb]
def JO{N}{m}{a}{p}(h:W4 m=true)(d:jn p=true)(b:1048576<N):BN N m a p=ret (WU m a p):=by
 have c:=(WK h).1;unfold BN WU;simp only[zs (Ω:m.2.length<=1048576) b,WpV,ret,Xd,h,d,Xu,Wc,WCd h d,We];generalize Xc m.2 (Xb p.1) (0,(0,0))=w;cases p.2.1==0<;>cases p.2.1==1<;>cases p.2.1==2<;>cases w.2.2==0<;>cases decide (w.2.1<=a)<;>cases w.2.1==p.2.2.1<;>rfl
def rU(l:List Rw)(c:Int):Nat->Option Int
 |0=>none
 |i+1=>if(Xc l i (0,0)).1=c then some (Xc l i (0,0)).2 else rU l c i
def bf(l:List Rw)(c:Int):Option Int:=if fO l=true then rU l c l.length else none
def opI(o:Option Int):Option (Unit×Kn):=match o with
 |none=>some ((),((0:Int),(false,())))
 |some v=>some ((),(v,(true,())))
def Vc{N}{l:List Rw}{c}(g:l.length<=1048576):∀(i n),i<n->i<=l.length->Fe N l c (λb=>(some ((),(b,(true,()))))) (λk j=>(some ((),((0:Int),(false,()))))) n ((i:Int) -1)=opI (rU l c i)
 |i,0,h,_=>Ω
 |0,n+1,h,_=>rfl
 |i+1,n+1,h,a=>by
  have e:((i+1:Nat):Int) -1=(i:Int):=Ω
  have d:decide ((i:Int)>=0)=true:=Δ
  have f:ah .i64 (i:Int) 1=(i:Int) -1:=eh Λ;rw[e,Fe,d,Wp (Ω:i<l.length),f,rU,Xf];simp only[We];by_cases m:(Xc l i ((0:Int),(0:Int))).1=c
  .rw[Wb m,beq_iff_eq.2 m];rfl
  .rw[Wa m,beq_eq_false_iff_ne.2 m];exact Vc g i n Ω Ω
theorem LA{a}{l:List a}(b:l.length<=1048576):ah .i64 (Wi l) 1=((l.length:Nat):Int) -1:=by grind [Wi,eh,I64]
def O0{N}{l:List Rw}{c}(a:l.length<=1048576)(b:1048576<N):zd N l c=opI (bf l c):=by
 unfold zd bf;simp only[Gn a b,ret,Xd];cases fO l
 .rfl
 .simp only[Xu,Wc,gp,LA a];exact Vc a l.length N Ω (Xj _)
end
section
def Lo(l o:List Rw)(c:Nat):List Rw:=match bf l c with
 |none=>o
 |some v=>o++ [((c:Int),v)]
def u1(l:List Rw):Nat->Nat->List Rw->List Rw
 |0,_,o=>o
 |j+1,c,o=>u1 l j (c+1) (Lo l o c)
def al(l:List Rw):List Rw:=u1 l 8 0 []
def Pl{N}{l:List Rw}(b:l.length<=1048576)(a:1048576<N):∀(j n c) (o:List Rw),c+j=8->j<n->o.length<=c->Ce N l (λf g d=>(some ((),(d,())))) n (c:Int) o=ret (u1 l j c o)
 |j,0,c,o,_,h,_=>Ω
 |0,n+1,c,o,h,_,_=>by
  have:c=8:=Ω
  subst this;rfl
 |j+1,n+1,c,o,h,i,ho=>by
  have e:decide ((c:Int)<8)=true:=Φ
  rw[Ce,e,O0 b a,Wl,u1,Lo];simp only[We];rcases bf l c with _|v
  .exact Pl b a j n (c+1) o Ω Ω Ω
  .have er:WH (o.length+ [((c:Int),v)].length)=true:=Ww Φ;simp only[opI,Xd,We,er];exact Pl b a j n (c+1) _ Ω Ω Φ
theorem XJ{l}(h:fO l=false):∀(j c) (o),u1 l j c o=o
 |0,_,_=>rfl
 |j+1,c,o=>by
  have e:bf l c=none:=by grind [bf]
  rw[u1,Lo,e];exact XJ h j (c+1) o
def I3{N}{l:List Rw}(b:l.length<=1048576)(a:1048576<N):tM N l=ret (al l):=by
 unfold tM;simp only[Gn b a,ret,Xd];cases h:fO l
 .grind [al,XJ]
 .exact Pl b a 8 N 0 [] rfl Ω Δ
def fnd{a:Type}(p:a->Bool):List a->Nat->Option (Nat×a)
 | [],_=>none
 |x::l,j=>bif p x then some (j,x)else fnd p l (j+1)
def J6{c V R}{a:Int->c->V->(V->Option R)->Option R}{K:Int->V->Option R}{p:c->Bool}{E:Int->c->Option R}:∀(l:List c) (j) (v),(∀(j:Nat) x v k,x∈l->a j x v k=bif p x then E j x else k v)->
  eP a K l j v=match fnd p l j with|some r=>E r.1 r.2|none=>K ((j+l.length:Nat):Int) v
 | [],j,v,_=>rfl
 |x::l,j,v,h=>by
  rw[eP,h j x v _ (Xg ..),fnd,J6 l (j+1) v λj y v k b=>h j y v k (Xe _ b)]
  grind
def m4{a}{p}:∀{l} {j} {r:Nat×a},fnd p l j=some r->p r.2=true/\j<=r.1/\r.1<j+l.length/\l[r.1-j]?=some r.2
 | [],j,r,h=>by cases h
 |x::l,j,r,h=>by
  rw[fnd]at h;cases hp:p x
  .rw[hp]at h;obtain⟨e,b,c,d⟩:=m4 (l:=l) h
   grind
  grind
theorem Dp{a}{p}:∀{l:List a} {j},fnd p l j=none->∀x∈l,p x=false
 | [],j,h=>Δ
 |x::l,j,h=>by
  rw[fnd]at h;cases hp:p x
  .rw[hp]at h;intro y b;rcases Xr.1 b with rfl|b
   .exact hp
   .exact Dp h y b
  simp_all
abbrev En:=Int×Int×Int
def ent(b:List En)(c:Int):Option (Nat×En):=fnd (λe=>e.1==c) b 0
def O7{N}{f:Y_Family}{c}(o:f.2.2.2.2.2.2.1.length<=1048576)(s:1048576<N):A2 N f c=ret (match ent f.2.2.2.2.2.2.1 c with|some r=>(r.1:Int)|none=>-1):=by
 unfold A2;show((Zn N f.2.2.2.2.2.2.1 c).bind _)=_;generalize f.2.2.2.2.2.2.1=b at o;unfold Zn ent;have m:=WF (l:=b) (V:=Unit) (R:=Kk×Kk) (c:=λn j v=>Zf N b (λg d=>(some ((d,()),(g,())))) (λq t h=>(some ((h,()),((-1:Int),())))) n j c) (n:=N) Ω
  (b:=λj x v k=>bif x.1==c then some ((c,()),(j,()))else k v) (K:=λ_ v=>some ((c,()),((-1:Int),())))
  (λn i v a=>by simp only[Zf,SS,WM a,Wp a,Wu a,Wl (j:=i),We,Xd])
  (λn v=>by simp[Zf,W0,Xj,Wc]) ()
 rw[m,J6 (p:=λe=>e.1==c) (E:=λj x=>some ((c,()),(j,()))) b 0 () (λj x v k _=>rfl)];cases fnd (λe:En=>e.1==c) b 0<;>rfl
def rK{N}{l}(h:l.length<=1048576):Zg N l=ret l:=by
 grind [Zg,Ww]
def C0{N}{l:List Rw}(h:l.length<=1048576):ry N l=ret l:=by
 grind [ry,Ww]
end
section
def OD(f:Y_Family)(k:Nat)(x:Y_KidRun):Y_Family:=U9 (Xi (Q9 f) k x) f
def again(f:Y_Family)(x:Y_KidRun):Y_KidRun:=(0,(0,(f.2.1,(x.2.2.2.1+1,(0,(0,(P4 f,([],([],([],(false,(0,(0,(0,0))))))))))))))
def ni(x:Y_KidRun)(c:Int):Pb:=bif P10 x then Q11 x else(c,(0,(0,0)))
def Hn(m:Mm)(f:Y_Family)(x:Y_KidRun)(o:Int×Int×Int×Int):Y_Family×Y_KidRun:=
 match bf (P8 x) o.2.2.1 with
 |some v=>(f,S6 (Xi (P6 x) (Xb o.2.1) v) (S1 (x.2.1+1) x))
 |none=>match ent (P6 f) o.2.2.1 with
  |some r=>bif decide (r.2.2.2>x.2.2.1)then(f,again f x)else(f,S7 (P7 x++ [r.2]) (S6 (Xi (P6 x) (Xb o.2.1) r.2.2.1) (S1 (x.2.1+1) x)))
  |none=>
   bif (WU m f.1 (ni x o.2.2.1)).2.1==4 then(S3 true f,U11 (WU m f.1 (ni x o.2.2.1)) (S10 true x))else
   bif (WU m f.1 (ni x o.2.2.1)).2.1==3 then(f,U14 0 (S13 0 (S12 0 (S11 0 (S10 false (S7 (P7 x++ [(o.2.2.1,((WU m f.1 (ni x o.2.2.1)).2.2.2,-1))]) (S6 (Xi (P6 x) (Xb o.2.1) (WU m f.1 (ni x o.2.2.1)).2.2.2) (S1 (x.2.1+1) x))))))))else
   (f,U11 (WU m f.1 (ni x o.2.2.1)) (S10 true x))
structure ReadOk(m:Mm)(f:Y_Family)(x:Y_KidRun)(o:Int×Int×Int×Int):Prop where
 i:W4 m=true
 t:(P6 x).length=4
 famr:(P4 f).length=4
 rA:0<=o.2.1/\o.2.1<=3
 cB:cp o.2.2.1=true
 M:(P7 x).length<=1000
 wr:(P8 x).length<=1000
 buf:(P6 f).length<=1000
 ver:∀e∈P6 f,0<=e.2.2
 Ew:0<=x.2.2.1
 k:0<=x.2.1/\x.2.1<=1000
 G:0<=x.2.2.2.1/\x.2.2.2.1<=100000
 E:P10 x=true->jn (Q11 x)=true
def ReadOk.pbO{m}{f}{x}{o}(h:ReadOk m f x o):jn (ni x o.2.2.1)=true:=by
 unfold ni;cases hb:P10 x
 .have:=h.cB
  grind [jn,dK]
 .exact h.E hb
def WxZ{x:Y_KidRun}(h:P10 x=true):S10 true x=x:=by rw[<-h];rfl
def gC{a}(h:0<=a/\a<=1000000):Ws .i64 a 1=a+1:=WB Λ
def rgI{r:List Int}{a}(h:r.length=4)(b:0<=a/\a<=3):inb a r.length=true:=by grind [inb]
def Uh{N}{f:Y_Family}{k}{x}(e:k<(Q9 f).length)(h:(P4 f).length=4)(g:0<=x.2.2.2.1/\x.2.2.2.1<=100000):
  yq N (U9 (Xi (Q9 f) k x) f) (k:Int)=some ((OD f k (again f x),()),()):=by
 have a:Zg N (P4 (U9 (Xi (Q9 f) k x) f))=ret (P4 f):=rK (show(P4 f).length<=1048576 by omega);have b:Q9 (U9 (Xi (Q9 f) k x) f)=Xi (Q9 f) k x:=rfl;have d:k<(Xi (Q9 f) k x).length:=Ψ
 unfold yq;rw[a,b];have c:Xc (Xi (Q9 f) k x) (Xb (k:Int)) d_KidRun=x:=Ψ
 rw[c,Wp d,gC Ω,Xf];simp only[We,ret,Xd,mz];rfl
def WpS{N}{m}{f}{k}{o}(d:k<(Q9 f).length)(h:ReadOk m f (Q9 f)[k] o)(a:1048576<N):
  Mf N f (k:Int) o m=some ((OD (Hn m f (Q9 f)[k] o).1 k (Hn m f (Q9 f)[k] o).2,()),()):=by
 generalize p:(Q9 f)[k]=x at h;have u:=h.wr;have t:=h.M;have s:=h.buf;have c:=h.t;have i:Xc (Q9 f) (Xb (k:Int)) d_KidRun=x:=by rw[Wu d,p]
 unfold Mf Hn;simp only[Wm];rw[Wp d,i,Xf,O0 Ω a,gC (by have:=h.k;omega)];rcases bf (P8 x) o.2.2.1 with _|v
 .simp only[opI,Xd,Wc,We];have j:A2 N (U9 (Xi (Q9 f) k x) f) o.2.2.1=ret (match ent (P6 f) o.2.2.1 with|some r=>(r.1:Int)|none=>-1):=O7 (f:=U9 (Xi (Q9 f) k x) f) (show(P6 f).length<=1048576 by omega) a;rw[j,Uh d h.famr h.G];rcases he:ent (P6 f) o.2.2.1 with _|r
  .simp only[ret,Xd,show decide ((-1:Int)>=0)=false from rfl,Wc];have b:=h.pbO;cases hc:P10 x
   .have fH:ni x o.2.2.1=(o.2.2.1,(0,(0,0))):=by grind [ni]
    have n:B7 N o.2.2.1=some ((),((o.2.2.1,(0,(0,0))),(true,()))):=by
     unfold B7;simp[tO,ret,Xd,h.cB,Xu,Wc]
    rw[fH]at b|-;simp only[Bool.not_false,We,n,JO h.i b a,ret,Xd,rgI c h.rA];generalize WU m f.1 (o.2.2.1,(0,(0,0)))=q;rw[Ww Φ];cases q.2.1==4<;>cases q.2.1==3<;>rfl
   .have fH:ni x o.2.2.1=Q11 x:=by grind [ni]
    rw[fH]at b|-;simp only[Xu,Wc,JO h.i b a,ret,Xd,rgI c h.rA,We];generalize WU m f.1 (Q11 x)=q;rw[Ww Φ,WxZ hc];cases q.2.1==4<;>cases q.2.1==3<;>rfl
  .have hm:=m4 he;have e:r.1<(P6 f).length:=Ω
   have l:(P6 f)[r.1]=r.2:=by
    simp_all
   have g:decide (((r.1:Nat):Int)>=0)=true:=Δ
   simp only[ret,Xd,g,We,Wp e,rgI c h.rA];rw[Wu e,l,Ww Φ];cases decide (r.2.2.2>x.2.2.1)<;>rfl
 .simp only[opI,Xd,We,rgI c h.rA];rfl
end
section
abbrev Opn:=Int×Int×Int×Int
def aL(v:Int):Bool:=decide (0<=v)&&decide (v<=3)
def jg(v:Int):Bool:=decide (0<=v)&&decide (v<=7)
def Wq9{N}{v}:o8 N v=ret (aL v):=by
 unfold o8;simp only[oN,ret,Xd];rfl
def Wqz{N}{v}:o9 N v=ret (aL v):=by
 unfold o9;simp only[ij,ret,Xd];rfl
def Wqp{N}{v}:mX N v=ret (jg v):=by
 unfold mX;simp only[ij,ret,Xd];rfl
def aj(o:Opn):Bool:=
 bif o.1==1 then aL o.2.1&&dK o.2.2.1&&(o.2.2.2==(0:Int))else
 bif o.1==2 then aL o.2.1&&aL o.2.2.1&&aL o.2.2.2 else
 bif o.1==3 then aL o.2.1&&aL o.2.2.1&&aL o.2.2.2 else
 bif o.1==4 then aL o.2.1&&aL o.2.2.1&&aL o.2.2.2 else
 bif o.1==5 then aL o.2.1&&cp o.2.2.1&&(o.2.2.2==(0:Int))else
 bif o.1==6 then cp o.2.1&&aL o.2.2.1&&(o.2.2.2==(0:Int))else
 bif o.1==7 then aL o.2.1&&(decide (1<=o.2.2.1)&&decide (o.2.2.1<=20))&&(o.2.2.2==(0:Int))else
 bif o.1==8 then aL o.2.1&&(o.2.2.1==(0:Int))&&(o.2.2.2==(0:Int))else
 bif o.1==9 then(o.2.1==(0:Int))&&(o.2.2.1==(0:Int))&&(o.2.2.2==(0:Int))else
 bif o.1==10 then(o.2.1==(0:Int))&&(o.2.2.1==(0:Int))&&(o.2.2.2==(0:Int))else
 bif o.1==11 then(o.2.1==(0:Int))&&(o.2.2.1==(0:Int))&&(o.2.2.2==(0:Int))else
 bif o.1==12 then jg o.2.1&&aL o.2.2.1&&aL o.2.2.2 else
 bif o.1==13 then aL o.2.1&&jg o.2.2.1&&(o.2.2.2==(0:Int))else
 bif o.1==14 then jg o.2.1&&aL o.2.2.1&&(o.2.2.2==(0:Int))else
 bif o.1==15 then aL o.2.1&&(o.2.2.1==(0:Int))&&(o.2.2.2==(0:Int))else
 bif o.1==16 then aL o.2.1&&(o.2.2.1==(0:Int))&&(o.2.2.2==(0:Int))else
 false
abbrev Bo:=Option Kh
def oA(p k:Bo):Bo:=p.bind λo=>bif o.2.1 then k else some ((),(false,()))
def oB(p:Bo):Bo:=p.bind λo=>some ((),(o.2.1,()))
def o3{T P Q R}{p q r}(h:T=oA P (oA Q (oB R)))(a:P=ret p)(b:Q=ret q)(c:R=ret r):T=ret (p&&q&&r):=by
 rw[h,a,b,c];cases p<;>cases q<;>rfl
def z0(v):(ret (v==(0:Int)):Bo)=ret (v==(0:Int)):=rfl
def sR(N)(v):o8 N v=ret (aL v):=Wq9
def sV(N)(v):tE N v=ret (dK v):=CP
def sC(N)(v):tv N v=ret (cp v):=UJ
def sK(N)(v):ir N v 0 7=ret (jg v):=oN
def sI(N)(v):ir N v 1 20=ret (decide (1<=v)&&decide (v<=20)):=oN
def iR(N)(v):o9 N v=ret (aL v):=Wqz
def iV(N)(v):mJ N v=ret (dK v):=qe
def iC(N)(v):pd N v=ret (cp v):=tO
def iK(N)(v):mX N v=ret (jg v):=Wqp
def iI(N)(v):Zj N v 1 20=ret (decide (1<=v)&&decide (v<=20)):=ij
def kds:List Int:=[1,2,3,4,5,6,7,8,9,10,11,12,13,14,15,16]
def TN{P:Int->Prop}(j:P 1)(l:P 2)(m:P 3)(n:P 4)(o:P 5)(p:P 6)(q:P 7)(r:P 8)(s:P 9)(f:P 10)(g:P 11)(d:P 12)(u:P 13)(v:P 14)(b:P 15)(t:P 16)
  (a:∀k,(∀i,i∈kds->(k==i)=false)->P k) (k):P k:=by
 by_cases h:k∈kds
 .simp only[kds,Xr,List.not_mem_nil,or_false]at h;rcases h with h|h|h|h|h|h|h|h|h|h|h|h|h|h|h|h<;>rw[h]<;>assumption
 .exact a k λi c=>by
   rw[beq_eq_false_iff_ne];intro e;exact h (e▸c)
def wN{N}{o:Opn}:Cy N o=ret (aj o):=by
 obtain⟨k,a,b,c⟩:=o;exact TN (P:=λk=>Cy N (k,a,b,c)=ret (aj (k,a,b,c)))
  (o3 (by kernel_rfl) (sR N a) (sV N b) (z0 c))
  (o3 (by kernel_rfl) (sR N a) (sR N b) (sR N c))
  (o3 (by kernel_rfl) (sR N a) (sR N b) (sR N c))
  (o3 (by kernel_rfl) (sR N a) (sR N b) (sR N c))
  (o3 (by kernel_rfl) (sR N a) (sC N b) (z0 c))
  (o3 (by kernel_rfl) (sC N a) (sR N b) (z0 c))
  (o3 (by kernel_rfl) (sR N a) (sI N b) (z0 c))
  (o3 (by kernel_rfl) (sR N a) (z0 b) (z0 c))
  (o3 (by kernel_rfl) (z0 a) (z0 b) (z0 c))
  (o3 (by kernel_rfl) (z0 a) (z0 b) (z0 c))
  (o3 (by kernel_rfl) (z0 a) (z0 b) (z0 c))
  (o3 (by kernel_rfl) (sK N a) (sR N b) (sR N c))
  (o3 (by kernel_rfl) (sR N a) (sK N b) (z0 c))
  (o3 (by kernel_rfl) (sK N a) (sR N b) (z0 c))
  (o3 (by kernel_rfl) (sR N a) (z0 b) (z0 c))
  (o3 (by kernel_rfl) (sR N a) (z0 b) (z0 c))
  (λk e=>by unfold Cy aj;simp(disch:=decide) [e,Wc,Wm]) k
def Gr{N}{o:Opn}:zc N o=ret (aj o):=by
 obtain⟨k,a,b,c⟩:=o;exact TN (P:=λk=>zc N (k,a,b,c)=ret (aj (k,a,b,c)))
  (o3 (by kernel_rfl) (iR N a) (iV N b) (z0 c))
  (o3 (by kernel_rfl) (iR N a) (iR N b) (iR N c))
  (o3 (by kernel_rfl) (iR N a) (iR N b) (iR N c))
  (o3 (by kernel_rfl) (iR N a) (iR N b) (iR N c))
  (o3 (by kernel_rfl) (iR N a) (iC N b) (z0 c))
  (o3 (by kernel_rfl) (iC N a) (iR N b) (z0 c))
  (o3 (by kernel_rfl) (iR N a) (iI N b) (z0 c))
  (o3 (by kernel_rfl) (iR N a) (z0 b) (z0 c))
  (o3 (by kernel_rfl) (z0 a) (z0 b) (z0 c))
  (o3 (by kernel_rfl) (z0 a) (z0 b) (z0 c))
  (o3 (by kernel_rfl) (z0 a) (z0 b) (z0 c))
  (o3 (by kernel_rfl) (iK N a) (iR N b) (iR N c))
  (o3 (by kernel_rfl) (iR N a) (iK N b) (z0 c))
  (o3 (by kernel_rfl) (iK N a) (iR N b) (z0 c))
  (o3 (by kernel_rfl) (iR N a) (z0 b) (z0 c))
  (o3 (by kernel_rfl) (iR N a) (z0 b) (z0 c))
  (λk e=>by unfold zc aj;simp(disch:=decide) [e,Wc,Wm]) k
end
section
def lI{a:Type}(p:Nat->a->Bool):Nat->List a->Bool
 |_,[]=>false
 |j,x::l=>p j x||lI p (j+1) l
def Gv{c V R}{a}{K}{p}{E:V->Option R}:∀(l:List c) (j) (v),(∀(j:Nat) x v k,x∈l->a j x v k=bif p j x then E v else k v)->
  eP a K l j v=bif lI p j l then E v else K ((j+l.length:Nat):Int) v
 | [],j,v,_=>rfl
 |x::l,j,v,h=>by
  rw[eP,h j x v _ (Xg ..),Gv l (j+1) v λj y v k b=>h j y v k (Xe _ b),lI]
  grind
def Dm{a}{p}:∀{l:List a} {j},lI p j l=true↔∃i,∃h:i<l.length,p (j+i) l[i]=true
 | [],j=>by simp[lI]
 |x::l,j=>by
  rw[lI,sH,Dm];constructor
  .rintro(h|⟨i,b,h⟩)
   .exact⟨0,Δ,Θ⟩
   .exact⟨i+1,Ψ,Θ⟩
  grind
def opd(o:Opn):Int:=bif o.1==8 then 1 else bif o.1==9 then-1 else 0
def AC(o):-1<=opd o/\opd o<=1:=by unfold opd;cases o.1==8<;>cases o.1==9<;>simp
def dep(l:List Opn)(j:Nat):Int:=((l.take j).map opd).sum
def zP(l):dep l 0=0:=by simp[dep]
theorem iw{l}{j}(h):dep l (j+1)=dep l j+opd l[j]:=by
 grind [dep,pO]
theorem Wk{a:Type}{l}{j}(h)(d:a):Xc l j d=l[j]:=by simp[h]
def jR(l):∀j:Nat,-(j:Int)<=dep l j/\dep l j<=j
 |0=>by simp[dep]
 |j+1=>by
  have a:=jR l j;by_cases h:j<l.length
  .have:=AC l[j]
   grind [iw]
  grind [dep,nm]
def bal(l:List Opn):Bool:=!lI (λj _=>decide (dep l (j+1)<0)) 0 l&&decide (dep l l.length=0)
def JR{N}{o:Opn}:Cw N o=ret (opd o):=by
 unfold Cw opd;cases o.1==8<;>cases o.1==9<;>rfl
def IW(x):(x==(0:Int))=decide (x=0):=by by_cases h:x=0<;>simp[h]
def UV{N}{l:List Opn}(q:l.length<=1048576)(m:1048576<N):Ba N l=ret (bal l):=by
 unfold Ba bal;have b:=WF (l:=l) (V:=Unit) (R:=Unit×Ks) (c:=λn j _=>AO N l (some ((),(false,()))) (λf g h=>some ((),(f==(0:Int),()))) n (dep l j.toNat) j) (n:=N) Ω
  (b:=λj _ v k=>bif decide (dep l (j.toNat+1)<0)then some ((),(false,()))else k v) (K:=λj _=>some ((),(dep l j.toNat==(0:Int),())))
  (λn i v a=>by
   have o:=jR l i;have d:=iw a;have r:=AC l[i];have e:Ws .i64 (dep l i) (opd l[i])=dep l (i+1):=by rw[WB Λ,d]
   simp only[AO,WM a,Wp a,Wu a,Wk a,Wl (j:=i),We,JR,ret,Xd,Xf,e])
  (λn v=>by simp[AO,W0,Xj,Wc]) ()
 have c:dep l (Xb 0)=0:=zP l;simp only[c]at b;refine b.trans ?_;rw[Gv (p:=λj _=>decide (dep l (j+1)<0)) (E:=λ_=>some ((),(false,()))) l 0 () (λj x v k _=>rfl)];rw[d4,Xf,IW];cases lI (λj _=>decide (dep l (j+1)<0)) 0 l<;>rfl
def Wnj{N}{l:List Opn}(m:l.length<=1048576)(g:1048576<N){i}(a:i<=l.length):Fp N l (i:Int)=ret (dep l i):=by
 unfold Fp;have b:=WF (l:=l) (V:=Unit) (R:=Unit×Kk) (c:=λn j _=>yy N (i:Int) l (λd e o=>some ((),(d,()))) n (dep l (min j.toNat i)) j) (n:=N) Ω
  (b:=λj _ v k=>k v) (K:=λj _=>some ((),(dep l (min j.toNat i),())))
  (λn j v p=>by
   have h:=jR l j;simp only[yy,WM p,Wp p,Wu p,Wk p,Wl (j:=j),We,JR,ret,Xd,Xf]
   grind [decide,min,Ws,dep,opd,WB,I64,iw])
  (λn v=>by simp[yy,W0,Xj,Wc]) ()
 have c:dep l (min (Xb 0) i)=0:=by
  simp[min,Xb,zP]
 simp only[c]at b;refine b.trans ?_;rw[zv (f:=λv _=>v) l 0 () (λj x v k _=>rfl),d4,Xf,Nat.min_eq_right a]
def Wql{N}{l:List Opn}{a b}(B:a<=b)(z:b<=l.length)(A:l.length<=1048576)(y:1048576<N):
  rc N l (b:Int) (some ((),(false,()))) (λe h g=>some ((),(e==(0:Int),()))) N 0 (a:Int)=ret (bal ((l.take b).drop a)):=by
 have u:((l.take b).drop a).length=b-a:=Φ
 unfold bal;have f:=WF (l:=(l.take b).drop a) (V:=Unit) (R:=Unit×Ks) (c:=λn j _=>rc N l (b:Int) (some ((),(false,()))) (λe h g=>some ((),(e==(0:Int),()))) n (dep ((l.take b).drop a) j.toNat) ((a+j.toNat:Nat):Int)) (n:=N) Ω
  (b:=λj _ v k=>bif decide (dep ((l.take b).drop a) (j.toNat+1)<0)then some ((),(false,()))else k v) (K:=λj _=>some ((),(dep ((l.take b).drop a) j.toNat==(0:Int),())))
  (λn i v s=>by
   have w:=jR ((l.take b).drop a) i;have t:=iw s;have d:a+i<l.length:=Ω
   have c:decide (((a+i:Nat):Int)<(b:Int))=true:=Φ
   have o:Ws .i64 ((a+i:Nat):Int) 1=((a+(i+1):Nat):Int):=by grind [WB,I64]
   have q:Ws .i64 (dep ((l.take b).drop a) i) 1=dep ((l.take b).drop a) i+1:=WB Λ;have r:ah .i64 (dep ((l.take b).drop a) i) 1=dep ((l.take b).drop a) i+ -1:=by grind [eh,I64]
   simp only[rc,c,Wp d,Wu d,Wk d,o,q,r,We,Xf];unfold opd at t
   grind)
  (λn v=>by
   have c:decide (((a+(((l.take b).drop a).length:Int).toNat:Nat):Int)<(b:Int))=false:=Ψ
   simp only[rc,c,Wc]) ()
 have m:dep ((l.take b).drop a) (Xb 0)=0:=zP _;simp only[m]at f;refine f.trans ?_;rw[Gv (p:=λj _=>decide (dep ((l.take b).drop a) (j+1)<0)) (E:=λ_=>some ((),(false,()))) _ 0 () (λj x v k _=>rfl)];rw[d4,Xf,IW];cases lI (λj _=>decide (dep ((l.take b).drop a) (j+1)<0)) 0 ((l.take b).drop a)<;>rfl
def uZ(l:List Opn)(i:Nat)(o:Opn):Bool:=decide (i+1+o.2.2.1.toNat<=l.length)&&bal ((l.take (i+1+o.2.2.1.toNat)).drop (i+1))
def frk(l:List Opn)(j:Nat):Nat:=(l.take j).countP λo=>o.1==11
theorem uA{l}{j}(h):frk l (j+1)=frk l j+(l[j].1==11).toNat:=by
 unfold frk;rw[pO h,List.countP_append,List.countP_singleton];cases l[j].1==11<;>rfl
def Wzy(l)(j):frk l j<=l.length:=mA H1 Φ
def yc(l:List Opn)(i:Nat)(o:Opn):Bool:=
 !aj o||((o.1==7)&& !uZ l i o)||((o.1==11)&&(decide (dep l i>0)||decide (frk l (i+1)>1)))||decide (dep l (i+1)<0)
def kW(l:List Opn)(i:Nat)(o:Opn):Bool:=
 !aj o||((o.1==7)&& !uZ l i o)||((o.1==11)&&(decide (frk l (i+1)>1)|| !decide (dep l i=0)))
def nj(l:List Opn):Bool:=decide (l.length<=24)&&(bal l&& !lI (kW l) 0 l)
def YS{l:List Opn}{i}{o}(f:l.length<=24)(a:i<l.length)(e:aj o=true)(d:o.1=7):
  Ws .i64 ((i+1:Nat):Int) o.2.2.1=((i+1+o.2.2.1.toNat:Nat):Int)/\1<=o.2.2.1/\o.2.2.1<=20:=by
 obtain⟨k,g,b,c⟩:=o;subst d;have:(aL g&&(decide (1<=b)&&decide (b<=20))&&(c==(0:Int)))=true:=e
 grind [WB,I64]
def Wom{N}{l:List Opn}{i}(d:l.length<=24)(c:1048576<N)(a:i<l.length)(f:aj l[i]=true)(b:l[i].1=7):FF N l (i:Int)=ret (uZ l i l[i]):=by
 obtain⟨m,g,k⟩:=YS d a f b;unfold FF uZ;simp only[Wp a,We,Wu a,Wk a,m,Wl (j:=i)];by_cases h:i+1+l[i].2.2.1.toNat<=l.length
 .have e:decide (((i+1+l[i].2.2.1.toNat:Nat):Int)>Wi l)=false:=by simp[Wi];omega
  rw[e];simp only[Wc];rw[Wql Ω h Ω c];simp[h]
 grind [decide,Wi]
def Li{l}:bal l=true↔(∀i,i<l.length->0<=dep l (i+1))/\dep l l.length=0:=by
 unfold bal;rw[Xl,hU,<-Sy,Dm,Wg];simp_all
def Wpg(l):(!lI (yc l) 0 l&&decide (dep l l.length=0))=(bal l&& !lI (kW l) 0 l):=by
 rw[Bool.eq_iff_iff,Xl,Xl,hU,hU,<-Sy,<-Sy,Dm,Dm,Li,Wg];constructor
 .rintro⟨b,c⟩;have d:∀i,i<l.length->0<=dep l (i+1):=λi a=>by
   grind [dep,absurd,yc]
  refine⟨⟨d,c⟩,?_⟩;rintro⟨i,a,h⟩;refine b ⟨i,a,?_⟩;have e:0<=dep l i:=by
   cases i with
   |zero=>rw[zP];omega
   |succ i=>grind
  unfold kW at h;unfold yc
  grind
 simp_all [d4,yc,kW,sH,Xl,Wg,hU,WD]
def US{N}{l:List Opn}(C:l.length<=1048576)(y:1048576<N):Cg N l=ret (nj l):=by
 unfold Cg nj;by_cases h:l.length<=24
 .have e:decide (Wi l>24)=false:=by simp[Wi];omega
  rw[e];simp only[Wc];have d:=WF (l:=l) (V:=Unit) (R:=Unit×Ks) (c:=λn j _=>rj N l (some ((),(false,()))) (λz F G A=>some ((),(z==(0:Int),()))) n (dep l j.toNat) ((frk l j.toNat:Nat):Int) j) (n:=N) Ω
   (b:=λj x v k=>bif yc l j.toNat x then some ((),(false,()))else k v) (K:=λj _=>some ((),(dep l j.toNat==(0:Int),())))
   (λn i v a=>by
    have B:=jR l i;have c:=iw a;have f:=uA a;have D:=Wzy l i;have r:Ws .i64 (dep l i) 1=dep l i+1:=WB Λ;have s:ah .i64 (dep l i) 1=dep l i+ -1:=by grind [eh,I64]
    have t:Ws .i64 ((frk l i:Nat):Int) 1=((frk l i+1:Nat):Int):=by grind [WB,I64]
    simp only[rj,WM a,Wp a,Wu a,Wk a,Wl (j:=i),We,Xf,wN,ret,Xd,r,s,t];unfold yc;cases ho:aj l[i]with
    |false=>rfl
    |true=>
     unfold opd at c;by_cases u:l[i].1=8
     .simp_all
     .have b8:(l[i].1==8)=false:=by simp[u]
      by_cases w:l[i].1=9
      .simp_all
      .have b9:(l[i].1==9)=false:=by simp[w]
       by_cases b:l[i].1=7
       .have b7:(l[i].1==7)=true:=by simp[b]
        have m:(l[i].1==11)=false:=by simp[b]
        have g:=Wom h y a ho b;simp only[b8,b9,b7,m,We,Wc,Sw,gJ,L7,sN,Bool.or_false,Int.add_zero,g,ret,Xd]at c f|-;simp only[c,f];cases uZ l i l[i]<;>rfl
       grind)
   (λn v=>by simp[rj,W0,Xj,Wc]) ()
  have o:dep l (Xb 0)=0:=zP l;have q:((frk l (Xb 0):Nat):Int)=0:=by simp[frk]
  simp only[o,q]at d;refine d.trans ?_;rw[Gv (p:=yc l) (E:=λ_=>some ((),(false,()))) l 0 () (λj x v k _=>by rw[Xf])];rw[d4,Xf,IW,<-Wpg];simp only[h,decide_true,sN];cases lI (yc l) 0 l<;>rfl
 grind [decide,Wi]
def UH{N}{l:List Opn}(o:l.length<=1048576)(g:1048576<N):tw N l=ret (nj l):=by
 unfold tw nj;by_cases h:l.length<=24
 .have e:decide (Wi l>24)=false:=by simp[Wi];omega
  rw[e];simp only[Wc,UV o g,ret,Xd,h,decide_true,sN];cases vo:bal l with
  |false=>rfl
  |true=>
   simp only[Xu,Wc,sN];have f:=WF (l:=l) (V:=Unit) (R:=Unit×Ks) (c:=λn j _=>vy N l (some ((),(false,()))) (λD B y=>some ((),(true,()))) n ((frk l j.toNat:Nat):Int) j) (n:=N) Ω
    (b:=λj x v k=>bif kW l j.toNat x then some ((),(false,()))else k v) (K:=λj _=>some ((),(true,())))
    (λn i v a=>by
     have c:=uA a;have C:=Wzy l i;have s:Ws .i64 ((frk l i:Nat):Int) 1=((frk l i+1:Nat):Int):=by grind [WB,I64]
     simp only[vy,Wm,WM a,Wp a,Wu a,Wk a,We,Xf,Gr,ret,Xd,s];unfold kW;cases ho:aj l[i]with
     |false=>rfl
     |true=>
      by_cases d:l[i].1=7
      .have b7:(l[i].1==7)=true:=by simp[d]
       have b:(l[i].1==11)=false:=by simp[d]
       obtain⟨u,f,z⟩:=YS h a ho d;simp only[b7,b,We,u,Wl (j:=i),Sw,gJ,L7,sN,Bool.or_false]at c|-;simp only[c];unfold uZ;by_cases A:i+1+l[i].2.2.1.toNat<=l.length
       .have q1:decide (((i+1+l[i].2.2.1.toNat:Nat):Int)>Wi l)=false:=by simp[Wi];omega
        have w:(((decide ((0:Int)<=((i+1+l[i].2.2.1.toNat:Nat):Int)))&&(decide (((i+1+l[i].2.2.1.toNat:Nat):Int)<=((Xa l):Int))))&&(decide ((0:Int)<=((i+1:Nat):Int)))&&(decide (((i+1:Nat):Int)<=((i+1+l[i].2.2.1.toNat:Nat):Int))))=true:=Φ
        rw[q1,w];simp only[Wc,We,Xf];rw[UV Φ g];simp_all
       grind [decide,Wi]
      .have b7:(l[i].1==7)=false:=by simp[d]
       by_cases m:l[i].1=11
       .have b:(l[i].1==11)=true:=by simp[m]
        simp only[b7,b,We,Wc,Bool.toNat_true,L7,sN,Bool.false_or,Wnj o g (Nat.le_of_lt a),ret,Xd,Wl (j:=i)]at c|-;simp only[c];have t:decide (((frk l i+1:Nat):Int)>1)=decide (frk l i+1>1):=Θ
        have q:(dep l i !=0)= !decide (dep l i=0):=by rw[bne,IW]
        rw[t,q];cases decide (frk l i+1>1)<;>cases decide (dep l i=0)<;>rfl
       .have b:(l[i].1==11)=false:=by simp[m]
        simp only[b7,b,We,Wc,Sw,gJ,L7,Bool.false_or,Wl (j:=i)]at c|-;simp_all)
    (λn v=>by simp[vy,W0,Xj,Wc]) ()
   have r:((frk l (Xb 0):Nat):Int)=0:=by simp[frk]
   simp only[r]at f;refine f.trans ?_;rw[Gv (p:=kW l) (E:=λ_=>some ((),(false,()))) l 0 () (λj x v k _=>by rw[Xf])];cases lI (kW l) 0 l<;>rfl
 grind [decide,Wi]
end
section
def stk(l:List Opn):Nat->List Nat
 |0=>[]
 |j+1=>bif (l.getD j (0,0,0,0)).1==8 then stk l j++ [j]else bif (l.getD j (0,0,0,0)).1==9 then(stk l j).dropLast else stk l j
theorem ss{l}{j}(h)(a:l[j].1=8):stk l (j+1)=stk l j++ [j]:=by
 grind [stk,Wk]
theorem u9{l}{j}(h)(a:l[j].1=9):stk l (j+1)=(stk l j).dropLast:=by
 grind [stk,Wk]
theorem jZ{l}{j}(h)(a:l[j].1≠8)(b:l[j].1≠9):stk l (j+1)=stk l j:=by
 grind [stk,Wk]
theorem HH{o}(h:o.1=8):opd o=1:=by unfold opd;simp[h]
theorem u2{o}(h:o.1=9):opd o= -1:=by unfold opd;simp[h]
theorem LS{o}(a:o.1≠8)(b:o.1≠9):opd o=0:=by
 grind [opd]
def tV{a:Type}(l:List a):l= []\/∃q x,l=q++ [x]:=by
 rcases List.eq_nil_or_concat l with h|⟨q,x,h⟩
 .grind
 simp_all
def Up(l:List Opn):Prop:=∀i,i<l.length->0<=dep l (i+1)
def Up.at{l}(h:Up l){j}(a:j<=l.length):0<=dep l j:=by
 cases j with
 |zero=>rw[zP];omega
 |succ j=>exact h j a
theorem gZ{l}(h:Up l):∀j,j<=l.length->((stk l j).length:Int)=dep l j
 |0,_=>by rfl
 |j+1,hj=>by
  have a:=hj;have d:=gZ h j Ω;have b:=iw a;have c:=h j a
  grind [ss,HH,bX,u9,u2,yg,jZ,LS]
def KN{l}:∀(j),j<=l.length->∀(s t) (m),stk l j=s++m::t->
  m<j/\(∃h:m<l.length,l[m].1=8)/\stk l m=s/\∀i,m<i->i<=j->∃t',stk l i=s++m::t'
 |0,_,s,t,m,h=>by simp[stk]at h
 |j+1,g,s,t,m,h=>by
  have b:=g;have n:=KN (l:=l) j Ω;have next:∀a,stk l j=s++m::a->m<j+1/\(∃h:m<l.length,l[m].1=8)/\stk l m=s/\∀i,m<i->i<=j+1->∃t',stk l i=s++m::t':=λa e=>by
   grind
  by_cases f:l[j].1=8
  .rw[ss b f]at h;rcases tV t with rfl|⟨a,x,rfl⟩
   .obtain⟨c,d⟩:=Sp (h:stk l j++ [j]=s++ [m]) rfl
    grind [ss]
   .have h2:stk l j++ [j]=(s++m::a)++ [x]:=by rw[h,o0,hZ]
    obtain⟨c,d⟩:=Sp h2 rfl
    grind [stk,ss]
  .by_cases h9:l[j].1=9
   .rw[u9 b h9]at h;rcases tV (stk l j)with e|⟨q,x,k⟩
    .simp_all
    simp_all
   grind [jZ]
theorem QM{l}{a b}(r:a<=b)(o:b<=l.length)(g:bal ((l.take b).drop a)=true):stk l b=stk l a:=by
 obtain⟨k,m⟩:=Li.1 g;have h:((l.take b).drop a).length=b-a:=Φ
 have c:∀i,i<=b-a->∃t,stk l (a+i)=stk l a++t/\(t.length:Int)=dep ((l.take b).drop a) i:=by
  intro i
  induction i with
  |zero=>simp[zP]
  |succ i ih=>
   intro q;obtain⟨t,e,d⟩:=ih Ω;have j:a+i<l.length:=Ω
   have f:i<((l.take b).drop a).length:=Ω
   have p:=iw f;by_cases n:l[a+i].1=8
   .grind [gU,ss,HH,bX]
   .by_cases h9:l[a+i].1=9
    .grind [u2,gU,u9,List.dropLast_append_of_ne_nil,yg]
    grind [gU,jZ,LS]
 obtain⟨t,e,d⟩:=c (b-a) (Xj _);simp_all
structure Mate(l:List Opn)(m k:Nat):Prop where
 lt:m<k
 len:k<l.length
 eq:dep l (k+1)=dep l m
 ne:∀i,m<=i->i<k->dep l (i+1)≠dep l m
 st:stk l (k+1)=stk l m
def WwQ{l}(q:Up l)(J:dep l l.length=0){j m}{s}(o:j<=l.length)(y:stk l j=s++ [m]):∃k,j<=k/\Mate l m k/\stk l m=s:=by
 obtain⟨a,⟨P,N⟩,c,d⟩:=KN j o s [] m y;have F:=gZ q m Ω;have low:∀i,m<=i->i<j->dep l (i+1)≠dep l m:=λi g h=>by
  grind [gZ]
 have u:∀n i,l.length-i=n->j<=i->i<=l.length->(∀b,m<=b->b<i->dep l (b+1)≠dep l m)->dep l m<dep l i->∃k,j<=k/\k<l.length/\dep l (k+1)=dep l m/\∀b,m<=b->b<k->dep l (b+1)≠dep l m:=by
  intro n
  induction n with
  |zero=>grind
  |succ n ih=>
   intro i g h K L M;have w:i<l.length:=Ω
   by_cases O:dep l (i+1)=dep l m
   .grind
   .have hd:=iw w;have Q:=AC l[i]
    grind
 have E:dep l m<dep l j:=by
  grind [gZ]
 obtain⟨k,B,r,C,D⟩:=u _ j rfl (Xj _) o low E;have A:m<k:=Ω
 have e:∀n i,i=m+1+n->i<=k->∃t,stk l i=s++m::t:=by
  intro n
  induction n with
  |zero=>grind
  |succ n ih=>
   intro i g h;obtain⟨t,p⟩:=ih (m+1+n) rfl Ω;by_cases I:l[m+1+n].1=8
   .grind [ss]
   .by_cases v:l[m+1+n].1=9
    .rcases tV t with rfl|⟨R,x,rfl⟩
     .grind [u9,stk,gZ]
     grind [u9,HY]
    grind [jZ]
 obtain⟨t,p⟩:=e (k-m-1) k Ω (Xj _);have f:=gZ q k Ω;have G:=iw r;rw[p]at f;rw[c]at F;simp at f;have H:=AC l[k];have v:l[k].1=9:=by
  grind [HH,LS]
 have z:t= []:=List.eq_nil_of_length_eq_zero Ω;refine⟨k,B,⟨A,r,C,D,?_⟩,c⟩
 grind [u9]
def YO{l}{m i}:((dep l (i+1) -dep l m)==(0:Int))=decide (dep l (i+1)=dep l m):=by
 grind
def Vn{N}{l}{m k}(E:l.length<=1048576)(C:1048576<N)(d:∃h:m<l.length,l[m].1=8)(b:Mate l m k):tL N l (m:Int)=ret (k:Int):=by
 obtain⟨o,d⟩:=d;unfold tL;have r:ah .i64 (Wi l) 1=(l.length:Int) -1:=eh (by unfold I64 Wi;omega);have s:(decide (0<=(m:Int))&&decide ((m:Int)<=(l.length:Int) -1))=true:=Φ
 have t:(l[m].1 !=8)=false:=by simp[d]
 simp only[ij,ret,Xd,r,s,Xu,Wc,Wp o,We,Wu o,t];have f:∀(c n i:Nat),k-i=c->m<=i->i<=k->l.length-i<n->∀{R:Type} (I:Int->Option R) (a:Ka7 R),vL N l I a n (dep l i-dep l m) (i:Int)=I k:=by
  intro c
  induction c with
  |zero=>
   intro n i u g v w R I a;have:i=k:=Ω
   subst this;cases n with
   |zero=>omega
   |succ n=>
    have H:=b.len;have y:=iw H;have x:=jR l i;have A:=jR l m;have z:=AC l[i];have e:Ws .i64 (dep l i-dep l m) (opd l[i])=dep l (i+1) -dep l m:=by grind [WB,I64]
    simp only[vL,WM H,Wp H,Wu H,We,JR,ret,Xd,e];simp[b.eq]
  |succ c ih=>
   intro n i u g v w R I a;cases n with
   |zero=>omega
   |succ n=>
    have D:=b.len;have H:i<l.length:=Ω
    have y:=iw H;have x:=jR l i;have A:=jR l m;have z:=AC l[i];have e:Ws .i64 (dep l i-dep l m) (opd l[i])=dep l (i+1) -dep l m:=by grind [WB,I64]
    have p:=b.ne i g Ω;simp only[vL,WM H,Wp H,Wu H,We,JR,ret,Xd,e,YO,p,decide_false,Wc,Wl (j:=i)];exact ih n (i+1) Ω Ω Ω Ω I a
 have:=f (k-m) N m rfl (Xj _) (by have:=b.lt;omega) Ω (R:=Unit×Kk) (λq=>some ((),(q,()))) (λG B F=>some ((),((-1:Int),())));simp_all
def Wq5{N}{l}{m k}(H:l.length<=1048576)(D:1048576<N)(g:∃h:m<l.length,l[m].1=8)(d:Mate l m k):zb N l (m:Int)=ret (k:Int):=by
 obtain⟨p,g⟩:=g;unfold zb;have s:decide ((m:Int)<0)=false:=Δ
 have t:decide ((m:Int)>=Wi l)=false:=by simp[Wi];omega
 have u:(l[m].1 !=8)=false:=by simp[g]
 simp only[s,t,Wc,Wp p,We,Wu p,u];have M:∀(n i:Nat) (b:i<l.length) {R:Type} (O:Int->Option R) (a:Ka7 R),m<=i->o6 N l O a (n+1) (dep l i-dep l m) (i:Int)=
   bif decide (dep l (i+1)=dep l m)then O i else o6 N l O a n (dep l (i+1) -dep l m) ((i+1:Nat):Int):=by
  intro n i b R O a K;have F:=iw b;have E:=jR l i;have J:=jR l m;have A:Ws .i64 (dep l i-dep l m) 1=dep l i-dep l m+1:=WB Λ;have B:ah .i64 (dep l i-dep l m) 1=dep l i-dep l m-1:=eh Λ;simp only[o6,WM b,Wp b,Wu b,We,Wl (j:=i),A,B];by_cases v:l[i].1=8
  .have e:dep l i-dep l m+1=dep l (i+1) -dep l m:=by grind [HH]
   grind
  .have b8:(l[i].1==8)=false:=by simp[v]
   by_cases w:l[i].1=9
   .have e:dep l i-dep l m-1=dep l (i+1) -dep l m:=by grind [u2]
    grind
   .have b9:(l[i].1==9)=false:=by simp[w]
    have e:dep l i-dep l m=dep l (i+1) -dep l m:=by grind [LS]
    simp only[b8,b9,We,Wc];rw[e,YO]
 have o:∀(c n i:Nat),k-i=c->m<=i->i<=k->l.length-i<n->∀{R:Type} (O:Int->Option R) (a:Ka7 R),o6 N l O a n (dep l i-dep l m) (i:Int)=O k:=by
  intro c
  induction c with
  |zero=>
   intro n i x f y z R O a;have:i=k:=Ω
   subst this;cases n with
   |zero=>omega
   |succ n=>rw[M n i d.len O a f];simp[d.eq]
  |succ c ih=>
   intro n i x f y z R O a;cases n with
   |zero=>omega
   |succ n=>
    have G:=d.len;have q:=d.ne i f Ω;rw[M n i Ω O a f];simp only[q,decide_false,Wc];exact ih n (i+1) Ω Ω Ω Ω O a
 have:=o (k-m) N m rfl (Xj _) (by have:=d.lt;omega) Ω (R:=Unit×Kk) (λr=>some ((),(r,()))) (λL C I=>some ((),((-1:Int),())));simp_all
end
section
def YJ{N}{o:Opn}:∃t:Int,rr N o=ret t/\Fo N o=ret t:=by
 unfold rr Fo;simp only[Wm];rw[wN,Gr];simp only[ret,Xd];cases aj o
 .simp_all
 .cases o.1==5<;>cases o.1==6<;>cases o.1==12<;>cases o.1==13<;>cases o.1==14<;>cases o.1==15<;>cases o.1==16<;>exact⟨_,rfl,rfl⟩
noncomputable def qG(o:Opn):Int:=match rr 0 o with|some (_,(t,_))=>t|none=>0
def WBH{N}{o:Opn}:rr N o=rr 0 o:=by
 unfold rr;simp only[Wm];rw[wN,wN]
def I0{N}{o:Opn}:rr N o=ret (qG o):=by
 rw[WBH];obtain⟨t,h,_⟩:=YJ (N:=0) (o:=o);unfold qG;rw[h]
def Uv{N}{o:Opn}:Fo N o=ret (qG o):=by
 obtain⟨t,h,a⟩:=YJ (N:=N) (o:=o);rw[a,<-h,I0]
noncomputable def qp(o:Opn):Bool:=(o.1==11)||(qG o==2)
noncomputable def ff(l:List Opn):Bool:=nj l&& !l.any qp
def Vf{N}{l:List Opn}(d:l.length<=1048576)(c:1048576<N):Cd N l=ret (l.any λo=>o.1==11):=by
 unfold Cd;have b:=WF (l:=l) (V:=Unit) (R:=Unit×Ks) (c:=λn j v=>AT N l (some ((),(true,()))) (λe f=>some ((),(false,()))) n j) (n:=N) Ω
  (b:=λj x v k=>bif x.1==11 then some ((),(true,()))else k v) (K:=λ_ v=>some ((),(false,())))
  (λn i v a=>by simp only[AT,WM a,Wp a,Wu a,Wl (j:=i),We])
  (λn v=>by simp[AT,W0,Xj,Wc]) ()
 refine b.trans ?_;rw[kF (p:=λx:Opn=>x.1==11) (E:=λ_=>some ((),(true,()))) l 0 () (λj x v k _=>rfl)];cases l.any λo:Opn=>o.1==11<;>rfl
def WqS{N}{l:List Opn}(d:l.length<=1048576)(c:1048576<N):Cv N l=ret (ff l):=by
 unfold Cv ff;simp only[US d c,ret,Xd];cases nj l with
 |false=>rfl
 |true=>
  simp only[Vf d c,ret,Xd,Xu,Wc,sN];have b:=WF (l:=l) (V:=Unit) (R:=Unit×Ks) (c:=λn j v=>Bv N l (some ((),(false,()))) (λf g=>some ((),(true,()))) n j) (n:=N) Ω
   (b:=λj x v k=>bif qG x==2 then some ((),(false,()))else k v) (K:=λ_ v=>some ((),(true,())))
   (λn i v a=>by simp only[Bv,WM a,Wp a,Wu a,Wl (j:=i),We,I0,ret,Xd])
   (λn v=>by simp[Bv,W0,Xj,Wc]) ()
  (try simp only[]at b)
  rw[b,kF (p:=λx=>qG x==2) (E:=λ_=>some ((),(false,()))) l 0 () (λj x v k _=>rfl)];have e:l.any qp=((l.any λo=>o.1==11)||l.any λo=>qG o==2):=by
   grind [qp,qG]
  rw[e];cases l.any λo:Opn=>o.1==11<;>cases l.any λo=>qG o==2<;>rfl
def WqA{N}{l:List Opn}(g:l.length<=1048576)(f:1048576<N):Cx N l=ret (ff l):=by
 unfold Cx ff;have c:=WF (l:=l) (V:=Unit) (R:=Unit×Ks) (c:=λn j v=>BG N l (some ((),(false,()))) (λd e=>((tw N l).bind λb=>(some ((),(b.2.1,()))))) n j) (n:=N) Ω
  (b:=λj x v k=>bif qp x then some ((),(false,()))else k v) (K:=λ_ v=>ret (nj l))
  (λn i v a=>by
   simp only[BG,WM a,Wp a,Wu a,Wl (j:=i),We,Uv,ret,Xd,qp];cases l[i].1==11<;>rfl)
  (λn v=>by simp_all [BG,W0,Xj,Wc,UH,ret,Xd]) ()
 refine c.trans ?_;rw[kF (p:=qp) (E:=λ_=>some ((),(false,()))) l 0 () (λj x v k _=>rfl)];cases l.any qp<;>cases nj l<;>rfl
def oz(l:List Int):Bool:=decide (l.length=4)&&l.all dK
def UE{N}{l}(d:l.length<=1048576)(c:1048576<N):FE N l=ret (oz l):=by
 unfold FE oz;by_cases h:l.length=4
 .have e:(Wi l !=4)=false:=by simp[Wi,h]
  rw[e];simp only[Wc];have b:=WF (l:=l) (V:=Unit) (R:=Unit×Ks) (c:=λn j v=>A7 N l (some ((),(false,()))) (λf g=>some ((),(true,()))) n j) (n:=N) Ω
   (b:=λj x v k=>bif !dK x then some ((),(false,()))else k v) (K:=λ_ v=>some ((),(true,())))
   (λn i v a=>by simp only[A7,WM a,Wp a,Wu a,Wl (j:=i),We,CP,ret,Xd])
   (λn v=>by simp[A7,W0,Xj,Wc]) ()
  refine b.trans ?_;rw[kF (p:=λx=>!dK x) (E:=λ_=>some ((),(false,()))) l 0 () (λj x v k _=>rfl),me];cases l.all dK<;>simp[h]
 grind [Wi]
def Gh{N}{l}(d:l.length<=1048576)(c:1048576<N):mC N l 4=ret (oz l):=by
 unfold mC oz;have b:=WF (l:=l) (V:=Unit) (R:=Unit×Ks) (c:=λn j v=>sS N l 4 (some ((),(false,()))) (λf g=>some ((),((Wi l)==(4:Int),()))) n j) (n:=N) Ω
  (b:=λj x v k=>bif !dK x then some ((),(false,()))else k v) (K:=λ_ v=>some ((),((Wi l)==(4:Int),())))
  (λn i v a=>by simp only[sS,WM a,Wp a,Wu a,Wl (j:=i),We,qe,ret,Xd])
  (λn v=>by simp[sS,W0,Xj,Wc]) ()
 refine b.trans ?_;rw[kF (p:=λx=>!dK x) (E:=λ_=>some ((),(false,()))) l 0 () (λj x v k _=>rfl),me];have e:((Wi l)==(4:Int))=decide (l.length=4):=by
  grind [Wi]
 rw[e];cases l.all dK<;>simp
end
section
section
variable{o:Opn}
theorem Ru(h:aj o=true)(d:1<=o.1)(e:o.1<=4):aL o.2.1=true/\(o.1=1->dK o.2.2.1=true)/\(o.1≠1->aL o.2.2.1=true/\aL o.2.2.2=true):=by
 obtain⟨k,a,b,c⟩:=o;have:k=1\/k=2\/k=3\/k=4:=Ω
 rcases this with rfl|rfl|rfl|rfl
 .have:(aL a&&dK b&&(c==(0:Int)))=true:=h;simp_all
 all_goals
  have:(aL a&&aL b&&aL c)=true:=h;simp_all
theorem nh(h:aj o=true)(d:o.1=5):aL o.2.1=true/\cp o.2.2.1=true:=by
 obtain⟨k,a,b,c⟩:=o;subst d;have:(aL a&&cp b&&(c==(0:Int)))=true:=h;simp_all
theorem CH(h:aj o=true)(d:o.1=6):cp o.2.1=true/\aL o.2.2.1=true:=by
 obtain⟨k,a,b,c⟩:=o;subst d;have:(cp a&&aL b&&(c==(0:Int)))=true:=h;simp_all
theorem pM(h:aj o=true)(d:o.1=7):aL o.2.1=true/\1<=o.2.2.1/\o.2.2.1<=20:=by
 obtain⟨k,a,b,c⟩:=o;subst d;have:(aL a&&(decide (1<=b)&&decide (b<=20))&&(c==(0:Int)))=true:=h;simp_all
theorem CI(h:aj o=true)(d:o.1=8):aL o.2.1=true:=by
 obtain⟨k,a,b,c⟩:=o;subst d;have:(aL a&&(b==(0:Int))&&(c==(0:Int)))=true:=h;simp_all
theorem qy(h:aj o=true):1<=o.1/\o.1<=16:=by
 by_cases a:1<=o.1/\o.1<=16
 .exact a
 .have e:∀n:Int,1<=n->n<=16->(o.1==n)=false:=λn b c=>Φ
  simp_all [aj]
end
def d7{x}{l:List Int}(h:aL x=true)(a:l.length=4):inb x l.length=true:=by
 grind [aL,inb]
def Wsj{x}{l:List Int}(h:cp x=true)(a:l.length=8):inb x l.length=true:=by
 grind [cp,inb]
structure Vals(n:Nat)(l:List Int):Prop where
 len:l.length=n
 val:∀x∈l,0<=x/\x<=65535
def Vals.get{n}{l}(h:Vals n l)(i):0<=l.getD i 0/\l.getD i 0<=65535:=by
 by_cases a:i<l.length
 .rw[Wk a];exact h.val _ (Xm a)
 simp_all
def Vals.set{n}{l}(h:Vals n l)(i){x}(b:0<=x/\x<=65535):Vals n (l.set i x):=
 ⟨by rw[Xx];exact h.len,λy a=>by
  rcases List.mem_or_eq_of_mem_set a with a|a
  .exact h.val y a
  omega⟩
def qf{x}:dK x=true↔0<=x/\x<=65535:=by unfold dK;simp
def nC{l}:oz l=true↔Vals 4 l:=by
 unfold oz;rw[Xl,Wg,cS];exact⟨λh=>⟨h.1,λx a=>qf.1 (h.2 x a)⟩,λh=>⟨h.len,λx a=>qf.2 (h.val x a)⟩⟩
def uy{l}:oD l=true↔Vals 8 l:=by
 unfold oD;rw[Xl,Wg,cS];exact⟨λh=>⟨h.1,λx a=>qf.1 (h.2 x a)⟩,λh=>⟨h.len,λx a=>qf.2 (h.val x a)⟩⟩
def oJ(o:Opn)(r:List Int):List Int:=
 bif o.1==1 then r.set o.2.1.toNat o.2.2.1 else
 bif o.1==2 then r.set o.2.1.toNat ((r.getD o.2.2.1.toNat 0+r.getD o.2.2.2.toNat 0)%65536)else
 bif o.1==3 then r.set o.2.1.toNat ((r.getD o.2.2.1.toNat 0-r.getD o.2.2.2.toNat 0+65536)%65536)else
 bif decide (r.getD o.2.2.1.toNat 0<r.getD o.2.2.2.toNat 0)then r.set o.2.1.toNat 1 else r.set o.2.1.toNat 0
def rH{x}(h:0<=x):cj x 65536=x%65536:=by grind [cj,Int.tmod_eq_emod_of_nonneg]
def GY{o}{r}(h:aj o=true)(b:1<=o.1)(c:o.1<=4)(a:Vals 4 r):Vals 4 (oJ o r):=by
 obtain⟨_,d,_⟩:=Ru h b c;unfold oJ;cases e1:o.1==1
 .cases o.1==2
  .cases o.1==3
   .cases decide (r.getD o.2.2.1.toNat 0<r.getD o.2.2.2.toNat 0)
    .exact a.set _ Ω
    .exact a.set _ Ω
   .exact a.set _ Ω
  .exact a.set _ Ω
 .exact a.set _ (qf.1 (d Ψ))
section
variable{N:Nat}{o:Opn}{r:List Int}
theorem OS(m:1048576<N)(h:aj o=true)(j:1<=o.1)(k:o.1<=4)(a:Vals 4 r):ze N o r=some ((),(oJ o r,(true,()))):=by
 obtain⟨n,y,v⟩:=Ru h j k;unfold ze Zg;have e:WH r.length=true:=Ww (by rw[a.len];omega);have f:decide (o.1>4)=false:=Φ
 have g:=nC.2 a;have c:=d7 n a.len;have i:inz 65536=true:=rfl;have w:=a.get o.2.2.1.toNat;have x:=a.get o.2.2.2.toNat;simp only[e,We,Xd,Gr,ret,h,Xu,Wc,f,Gh (l:=r) (by rw[a.len];omega) m,g,c,i];unfold oJ;by_cases d:o.1=1
 .simp_all
 .have b:(o.1==1)=false:=by simp[d]
  obtain⟨p,q⟩:=v d;rw[b];simp only[Wc,d7 p a.len,d7 q a.len,We,Xx,c];have s:Ws .i64 (r.getD o.2.2.1.toNat 0) (r.getD o.2.2.2.toNat 0)=r.getD o.2.2.1.toNat 0+r.getD o.2.2.2.toNat 0:=WB Λ;have t:ah .i64 (r.getD o.2.2.1.toNat 0) (r.getD o.2.2.2.toNat 0)=r.getD o.2.2.1.toNat 0-r.getD o.2.2.2.toNat 0:=eh Λ;have u:Ws .i64 (r.getD o.2.2.1.toNat 0-r.getD o.2.2.2.toNat 0) 65536=r.getD o.2.2.1.toNat 0-r.getD o.2.2.2.toNat 0+65536:=WB Λ;rw[s,t,u,rH Ω,rH Ω];cases o.1==2
  .cases o.1==3
   .simp only[Wc,Wm,mz];cases decide (r.getD o.2.2.1.toNat 0<r.getD o.2.2.2.toNat 0)<;>rfl
   .rfl
  .rfl
theorem UT(n:1048576<N)(h:aj o=true)(k:1<=o.1)(m:o.1<=4)(a:Vals 4 r):F0 N o r=some ((),(oJ o r,(true,()))):=by
 obtain⟨p,z,w⟩:=Ru h k m;unfold F0;have e:WH (([]:List Int).length+r.length)=true:=Ww (by rw[a.len];simp);have f:decide (o.1>4)=false:=Φ
 have g:=nC.2 a;have c:=d7 p a.len;have j:inz 65536=true:=rfl;have i:Xh ([]:List Int) r=r:=rfl;have x:=a.get o.2.2.1.toNat;have y:=a.get o.2.2.2.toNat;simp only[e,We,Xd,wN,ret,h,Xu,Wc,f,UE (l:=r) (by rw[a.len];omega) n,g,c,j,i];unfold oJ;by_cases d:o.1=1
 .simp_all
 .have b:(o.1==1)=false:=by simp[d]
  obtain⟨q,s⟩:=w d;rw[b];simp only[Wc,d7 q a.len,d7 s a.len,We,Xx,c];have t:Ws .i64 (r.getD o.2.2.1.toNat 0) (r.getD o.2.2.2.toNat 0)=r.getD o.2.2.1.toNat 0+r.getD o.2.2.2.toNat 0:=WB Λ;have u:ah .i64 (r.getD o.2.2.1.toNat 0) (r.getD o.2.2.2.toNat 0)=r.getD o.2.2.1.toNat 0-r.getD o.2.2.2.toNat 0:=eh Λ;have v:Ws .i64 (r.getD o.2.2.1.toNat 0-r.getD o.2.2.2.toNat 0) 65536=r.getD o.2.2.1.toNat 0-r.getD o.2.2.2.toNat 0+65536:=WB Λ;rw[t,u,v,rH Ω,rH Ω];cases o.1==2
  .cases o.1==3
   .simp only[Wc,Wm,mz];cases decide (r.getD o.2.2.1.toNat 0<r.getD o.2.2.2.toNat 0)<;>rfl
   .rfl
  .rfl
end
def gu(c:List Int)(a:List Rw):List Int:=a.foldr (λr c=>c.set r.1.toNat r.2) c
def bT(l:List Rw):Prop:=∀r∈l,(0<=r.1/\r.1<=7)/\0<=r.2/\r.2<=65535
theorem J9{l}:l.all qJ=true↔bT l:=by
 simp[cS,bT,qJ,cp,dK]
def Lh{c}(a:Vals 8 c):∀{l},bT l->Vals 8 (gu c l)
 | [],_=>a
 |r::l,h=>by
  have d:=Lh a (l:=l) λx b=>h x (Xe _ b);exact d.set _ (h r (Xg ..)).2
def WwP(c)(l)(r):gu c (l++ [r])=gu (c.set r.1.toNat r.2) l:=by
 simp[gu,List.foldr_append]
def wu{N}{l}(h:l.length<=1048576):Zg N l=ret l:=by
 simp_all [Zg,Wxz,We]
end
section
structure Lin{a:Type}(b:a->a->Int):Prop where
 irr:∀x,¬b x x<0
 tr:∀x y z,b x y<0->b y z<0->b x z<0
 nt:∀x y z,¬b x y<0->¬b y z<0->¬b x z<0
theorem vf:Lin cfE:=⟨λx=>by unfold cfE;omega,λx y z=>by unfold cfE;omega,λx y z=>by unfold cfE;omega⟩
def lH:Lin cfH:=⟨λx=>by rw[nP];omega,λx y z=>by simp only[nP];omega,λx y z=>by simp only[nP];omega⟩
def Ris{a:Type}(b:a->a->Int)(l:List a):Prop:=l.Pairwise λc d=>b c d<0
def gA{a:Type}(b:a->a->Int):List a->a->List a
 | [],e=>[e]
 |x::l,e=>if b x e<0 then x::gA b l e else if b e x<0 then e::x::l else e::l
def Ap{a:Type}(b:a->a->Int)(x y:a):Prop:=b x y<0\/b y x<0
variable{a:Type}{b:a->a->Int}
theorem Lin.ap(h:Lin b){x y}(d:¬Ap b x y){z}:(b x z<0↔b y z<0)/\(b z x<0↔b z y<0):=by
 unfold Ap at d;refine⟨⟨λa=>?_,λa=>?_⟩,⟨λa=>?_,λa=>?_⟩⟩
 .exact Classical.byContradiction λc=>h.nt x y z (λq=>d (.inl q)) c a
 .exact Classical.byContradiction λc=>h.nt y x z (λq=>d (.inr q)) c a
 .exact Classical.byContradiction λc=>h.nt z y x c (λq=>d (.inr q)) a
 .exact Classical.byContradiction λc=>h.nt z x y c (λq=>d (.inl q)) a
theorem nF(c:Lin b){e x}:∀{l},Ris b l->(x∈gA b l e↔x=e\/(x∈l/\Ap b x e))
 | [],_=>by simp[gA]
 |y::l,h=>by
  have d:=(Xz.1 h);unfold gA;by_cases g:b y e<0
  .rw[Wb g,Xr,nF c d.2,Xr];refine⟨?_,?_⟩
   .rintro(rfl|h|h)
    .exact .inr ⟨.inl rfl,.inl g⟩
    .grind
    simp_all
   grind
  .rw[Wa g];by_cases a:b e y<0
   .rw[Wb a];simp only[Xr];refine⟨?_,?_⟩
    .rintro(h|rfl|h)
     .grind
     .exact .inr ⟨.inl rfl,.inr a⟩
     .exact .inr ⟨.inr h,.inr (c.tr _ _ _ a (d.1 x h))⟩
    grind
   .rw[Wa a];simp only[Xr];have f:¬Ap b y e:=by unfold Ap;omega
    refine⟨?_,?_⟩
    .rintro(h|h)
     .grind
     .exact .inr ⟨.inr h,.inr ((c.ap f).1.1 (d.1 x h))⟩
    grind
theorem rF(d:Lin b){e}:∀{l},Ris b l->Ris b (gA b l e)
 | [],_=>by simp[gA,Ris]
 |y::l,h=>by
  have i:=(Xz.1 h);unfold gA;by_cases f:b y e<0
  .rw[Wb f];refine Xz.2 ⟨λx a=>?_,rF d i.2⟩;rcases(nF d i.2).1 a with rfl|a
   .exact f
   simp_all
  .rw[Wa f];by_cases c:b e y<0
   .rw[Wb c];refine Xz.2 ⟨λx a=>?_,h⟩;rcases Xr.1 a with rfl|a
    .exact c
    .exact d.tr _ _ _ c (i.1 x a)
   .rw[Wa c];have g:¬Ap b y e:=by unfold Ap;omega
    exact Xz.2 ⟨λx a=>(d.ap g).1.1 (i.1 x a),i.2⟩
theorem Ds(e:Lin b){L M}(g:Ris b M)(s:L.Pairwise (Ap b))(p:∀x,x∈L↔x∈M):n7 b L=M:=by
 have q:∀{l:List a},l.Pairwise (Ap b)->l.Nodup:=λh=>h.imp λ{u v} ib=>by
  rintro rfl;unfold Ap at ib;have:=e.irr u;omega
 have m:M.Pairwise (Ap b):=g.imp λh=>.inl h;have t:=(List.perm_ext_iff_of_nodup (q s) (q m)).2 p;unfold n7;have d:=List.pairwise_mergeSort (le:=λx y=>!qv b y x) (λu v c=>by
  simp only[qv,hU,WD]
  exactλd f=>e.nt _ _ _ f d) (λu v=>by
  simp only[qv,sH,hU,WD];rcases Classical.em (b v u<0)with h|h
  .exact .inr λk=>e.irr _ (e.tr _ _ _ h k)
  omega) L
 refine List.Perm.eq_of_pairwise ?_ d (g.imp λ{u v} h=>?_) ((Xhk _ _).trans t)
 .intro u v ha hb d f;simp only[qv,hU,WD]at d f;have r:=(p u).1 ((Xhk _ _).mem_iff.1 ha);obtain⟨i,n,rfl⟩:=cN r;obtain⟨j,o,rfl⟩:=cN hb;rcases Nat.lt_trichotomy i j with h|h|h
  .exact Wh (fh.1 g i j n o h) f
  .grind
  .exact Wh (fh.1 g j i o n h) d
 .simp only[qv,hU,WD]
  exactλk=>e.irr _ (e.tr _ _ _ h k)
theorem YN{r}{R}(c:∀e b,R e b->r e b=true):∀{l:List a},l.Pairwise R->u7 r l=true
 | [],_=>rfl
 |x::l,h=>by
  have:=Xz.1 h;simp only[u7,Xl,cS];exact⟨λy d=>c _ _ (this.1 y d),YN c this.2⟩
theorem YZ(c:Lin b){rng}{N}{L M}(g:Ris b M)(a:L.Pairwise (Ap b))(e:∀x,x∈L↔x∈M)(f:∀x∈L,rng x=true)(d:L.length<=1048576):
  CA rng b N L=some ((M,()),()):=by
 grind [CA,cS,YN,Ap,qF,qv,decide_eq_true,Ds]
theorem X3(d:Lin b){L:List a}{e}{i}(g:L.Pairwise (Ap b))(q)(f:¬Ap b L[i] e):(L.set i e).Pairwise (Ap b)/\∀x,x∈L.set i e↔x=e\/(x∈L/\Ap b x e):=by
 have o:∀{z},Ap b L[i] z↔Ap b e z:=λ{z}=>by unfold Ap;rw[(d.ap f).1,(d.ap f).2]
 have l:∀{p r:a},Ap b p r->Ap b r p:=λh=>h.symm;have m:=fh.1 g;refine⟨?_,λx=>⟨λc=>?_,?_⟩⟩
 .rw[fh]
  grind
 .obtain⟨j,k,rfl⟩:=cN c
  grind
 .rintro(rfl|⟨c,n⟩)
  .grind [q8]
  .obtain⟨j,k,rfl⟩:=cN c;refine q8.2 ⟨j,Ψ,?_⟩;rw[fE,Wa]
   grind
theorem VI{L}{e}(a:L.Pairwise (Ap b))(c:∀x∈L,Ap b x e):(L++ [e]).Pairwise (Ap b)/\∀x,x∈L++ [e]↔x=e\/(x∈L/\Ap b x e):=by
 grind
end
section
abbrev KM:=Int×Int×List Int
structure Kd where
 g:Int:=0
 k:Int:=0
 Ew:Int:=0
 G:Int:=0
 pos:Int:=0
 out:Int:=0
 t:List Int:=[]
 M:List En:=[]
 A:List Rw:=[]
 m:List KM:=[]
 L:Bool:=false
 E:Pb:=(0,0,0,0)
def Kd.e(x:Kd):Y_KidRun:=(x.g,x.k,x.Ew,x.G,x.pos,x.out,x.t,x.M,x.A,x.m,x.L,x.E)
structure Fm where
 u:Int:=0
 K:Int:=0
 Ep:Int:=0
 Ey:Bool:=false
 t:List Int:=[]
 start:List Rw:=[]
 buf:List En:=[]
 B:List Int:=[]
 o:List Rw:=[]
 κ:List Kd:=[]
def Fm.e(f:Fm):Y_Family:=(f.u,f.K,f.Ep,f.Ey,f.t,f.start,f.buf,f.B,f.o,f.κ.map Kd.e)
def zOp:Opn:=(0,0,0,0)
def opN(a:List Opn)(i:Int):Opn:=Xc a i.toNat zOp
def ac{a:Type}(l:List a)(i:Int)(d:a):a:=Xc l i.toNat d
def gh{a:Type}(l:List a)(i:Int)(x:a):List a:=Xi l i.toNat x
def eQ{a:Type}(l:List a)(d:a):a:=Xc l (l.length-1) d
def kR(l:List Opn)(m:Nat):Nat:=((bJ l.length).find? λk=>decide (m<=k)&&decide (dep l (k+1)=dep l m)).getD 0
def Fm.again(f:Fm)(x:Kd):Kd:={Ew:=f.K,G:=x.G+1,t:=f.t}
def c3(m:Mm)(f:Fm)(x:Kd)(o:Opn):Fm×Kd:=
 match bf x.A o.2.2.1 with
 |some v=>(f,{x with t:=gh x.t o.2.1 v,k:=x.k+1})
 |none=>match ent f.buf o.2.2.1 with
  |some r=>if r.2.2.2>x.Ew then(f,f.again x)else(f,{x with t:=gh x.t o.2.1 r.2.2.1,M:=x.M++ [r.2],k:=x.k+1})
  |none=>
   let p:=WU m f.u (if x.L then x.E else(o.2.2.1,0,0,0))
   if p.2.1=4 then({f with Ey:=true},{x with L:=true,E:=p})
   else if p.2.1=3 then(f,{x with t:=gh x.t o.2.1 p.2.2.2,M:=x.M++ [(o.2.2.1,p.2.2.2,-1)],L:=false,E:=(0,0,0,0),k:=x.k+1})
   else(f,{x with L:=true,E:=p})
def pu(x:Kd)(a:List Opn):Kd:=
 if x.m.length=0 then{x with A:=[],out:=2,g:=1}else
 let q:=eQ x.m (0,0,[])
 {x with m:=x.m.dropLast,t:=gh q.2.2 (opN a q.1).2.1 0,A:=x.A.take q.2.1.toNat,k:=kR a q.1.toNat+1}
def eI(m:Mm)(f:Fm)(x:Kd)(a:List Opn):Fm×Kd:=
 if x.k>=a.length then(f,{x with out:=1,g:=1})else
 let o:=opN a x.k
 if o.1=5 then c3 m f x o else
 if o.1=10 then(f,pu x a)else
 if o.1=6 then(f,{x with A:=x.A++ [(o.2.1,ac x.t o.2.2.1 0)],k:=x.k+1})else
 if o.1=7 then(f,{x with k:=(if ac x.t o.2.1 0=0 then x.k+o.2.2.1 else x.k)+1})else
 if o.1=8 then(f,{x with m:=x.m++ [(x.k,(x.A.length:Int),x.t)],k:=x.k+1})else
 if o.1=9 then(f,{x with m:=x.m.dropLast,t:=gh x.t (opN a (eQ x.m (0,0,[])).1).2.1 1,k:=x.k+1})else
 (f,{x with t:=oJ o x.t,k:=x.k+1})
def lX(c:Int)(b:List En)(a:List Rw):List En:=a.foldl (λb r=>gA cfE b (r.1,r.2,c)) b
def kx(l:List En):List Rw:=(l.filter λe=>decide (e.2.2= -1)).map λe=>(e.1,e.2.1)
def dr(f:Fm)(x:Kd)(k:Nat):Fm×Kd:=
 ({f with K:=f.K+1,buf:=lX (f.K+1) f.buf (al x.A),o:=f.o++kx x.M,B:=f.B++ [(k:Int)],Ep:=0},{x with g:=3,pos:=0,m:=[]})
def oY(b:List En)(c:Int):Int:=match ent b c with
 |some r=>r.2.2.2
 |none=>-1
def bn(m:Mm)(f:Fm)(x:Kd)(k:Nat)(a:List Opn):Fm×Kd:=
 if x.g=0 then eI m f x a else
 if x.g=1 then(if f.Ep=0 then({f with Ep:=(k:Int)+1},{x with g:=2})else(f,x))else
 if x.g=2 then
  if x.pos=x.M.length then dr f x k else
  let s:=ac x.M x.pos (0,0,0)
  if oY f.buf s.1=s.2.2 then(f,{x with pos:=x.pos+1})else({f with Ep:=0},f.again x)
 else(f,x)
def Fm.put(q:Fm×Kd)(k:Nat):Fm:={q.1 with κ:=q.1.κ.set k q.2}
def aC(m:Mm)(f:Fm)(k:Nat)(a:List Opn):Fm:=
 if f.Ey then f else Fm.put (bn m f (f.κ.getD k {}) k a) k
def cq(c:Int)(a:List Int)(θ:List Rw)(b:Nat):Fm:=
 {u:=c,t:=a,start:=al θ,buf:=(al θ).map λr=>(r.1,r.2,0),κ:=Xp b {t:=a}}
def ig(f:Fm):Bool:=f.κ.all λx=>decide (x.g=3)
def m5(f:Fm):List Rw:=f.buf.map λe=>(e.1,e.2.1)
def R3(x:Kd):Int:=if x.out=1/\oz x.t=true then ac x.t 0 0 else 0
def rN(f:Fm):List Int:=
 if oz f.t=true/\f.κ.length<=3 then f.κ.map R3++f.t.drop f.κ.length else []
structure KMk(c:List Opn)(d:Nat)(μ:List KM)(e:Nat):Prop where
 Z:μ.map (·.1)=(stk c d).map λm:Nat=>(m:Int)
 I:∀q∈μ,Vals 4 q.2.2/\0<=q.2.1/\q.2.1<=q.1/\q.2.1<=e
 up:μ.Pairwise λa b=>a.2.1<=b.2.1
structure KOk(a:List Opn)(c n:Int)(x:Kd):Prop where
 k:0<=x.k/\x.k<=a.length
 t:Vals 4 x.t
 Eo:bT x.A
 wl:(x.A.length:Int)<=x.k
 sl:(x.M.length:Int)<=x.k
 Ew:0<=x.Ew/\x.Ew<=c
 G:0<=x.G/\x.G<=n
 M:∀e∈x.M,(0<=e.1/\e.1<=7)/\(0<=e.2.1/\e.2.1<=65535)/\ -1<=e.2.2/\e.2.2<=x.Ew
 m:x.g=0->KMk a x.k.toNat x.m x.A.length
 pos:0<=x.pos/\x.pos<=x.M.length
 E:x.L=true->jn x.E=true
 g:0<=x.g/\x.g<=3
 out:0<=x.out/\x.out<=2
structure FOk(a:List (List Opn))(n:Int)(f:Fm):Prop where
 len:f.κ.length=a.length
 t:Vals 4 f.t
 K:0<=f.K/\f.K=f.B.length
 done:f.B.length=f.κ.countP λx=>decide (x.g=3)
 bufR:Ris cfE f.buf
 bufE:∀e∈f.buf,(0<=e.1/\e.1<=7)/\(0<=e.2.1/\e.2.1<=65535)/\0<=e.2.2/\e.2.2<=f.K
 readsL:f.o.length<=24*f.B.length
 readsE:bT f.o
 Ep:0<=f.Ep/\f.Ep<=f.κ.length
 kid:∀(k:Nat) (h:k<f.κ.length),KOk (a.getD k []) f.K n f.κ[k]
end
section
structure CC(l:List Opn):Prop where
 len:l.length<=24
 up:Up l
 z:dep l l.length=0
 ok:∀i (h:i<l.length),aj l[i]=true/\1<=l[i].1/\l[i].1<=16
 sk:∀i (h:i<l.length),l[i].1=7->i+1+l[i].2.2.1.toNat<=l.length/\bal ((l.take (i+1+l[i].2.2.1.toNat)).drop (i+1))=true
 fk:∀i (h:i<l.length),l[i].1=11->dep l i=0/\frk l (i+1)<=1
structure KC(l:List Opn):Prop extends CC l where
 k10:∀i (h:i<l.length),l[i].1<=10
def Wvu{o}(h:aj o=true)(e:12<=o.1):qG o=2:=by
 have f:=qy h;have a:=I0 (N:=0) (o:=o);unfold rr at a;simp only[Wm]at a;rw[wN,h]at a;simp only[ret,Xd,Xu,Wc]at a;have c:(o.1==5)=false:=Φ
 have d:(o.1==6)=false:=Φ
 rw[c,d]at a;simp only[Wc]at a;have:o.1=12\/o.1=13\/o.1=14\/o.1=15\/o.1=16:=Ω
 rcases this with b|b|b|b|b<;> · simp_all
def TK{l}(h:nj l=true):CC l:=by
 unfold nj at h;simp only[Xl,Wg,hU]at h;obtain⟨d,e,j⟩:=h;obtain⟨b,c⟩:=Li.1 e;have f:∀i (a:i<l.length),kW l i l[i]=false:=λi a=>by
  rw[Bool.eq_false_iff];intro f;have:lI (kW l) 0 l=true:=Dm.2 ⟨i,a,Ψ⟩;simp_all
 have m:∀i (a:i<l.length),aj l[i]=true:=λi a=>by
  grind [kW,AK,Ed]
 refine⟨d,b,c,λi a=>⟨m i a,qy (m i a)⟩,λi a k=>?_,λi a g=>?_⟩
 .grind [kW,AK,Ed,uZ]
 grind [kW,AK,Ed]
def WDf{l}(h:ff l=true):KC l:=by
 unfold ff at h;simp only[Xl,hU]at h;have b:=TK h.1;refine⟨b,λi d=>?_⟩;have a:qp l[i]=false:=by
  grind
 unfold qp at a;simp only[AK]at a;by_cases c:l[i].1<=10
 .exact c
 .exfalso;by_cases e:l[i].1=11
  .simp_all
  .have:=Wvu (b.ok i d).1 Ω;simp_all
theorem VR{l}{m k}(h:Mate l m k):kR l m=k:=by
 unfold kR;have:(bJ l.length).find? (λk=>decide (m<=k)&&decide (dep l (k+1)=dep l m))=some k:=by
  rw[List.find?_range_eq_some];have:=h.lt;refine⟨?_,List.mem_range.2 h.len,λj a=>?_⟩
  .simp[h.eq];omega
  .simp only[hU,Bool.and_eq_false_iff,WD];by_cases b:m<=j
   .exact .inr (h.ne j b a)
   omega
 grind
def jV{l}{i:Int}(a:0<=i)(h:i<l.length):∃(n:Nat) (b:n<l.length),i=n/\opN l i=l[n]:=by
 grind [opN,Wk]
theorem uQ{l}{n:Nat}(h):opN l (n:Int)=l[n]:=by
 grind [opN,Wk]
theorem Vu{a}(q)(x d:a):eQ (q++ [x]) d=x:=by unfold eQ;simp
def xQ{M}{g}{l}{a}{μ}{d}(e:CC l)(f:a<=l.length)(w:μ.map g=(stk l a).map λm:Nat=>(m:Int))(o:μ.length≠0):
  ∃(m:Nat) (q:List M) (x:M),μ=q++ [x]/\eQ μ d=x/\g x=(m:Int)/\(∃w:m<l.length,l[m].1=8)/\m<a/\Mate l m (kR l m)/\a<=kR l m/\stk l m=(stk l a).dropLast/\q.map g=(stk l m).map λm:Nat=>(m:Int):=by
 rcases tV μ with h|⟨q,x,i⟩
 .simp_all
 .rw[i,Xw,bo,d6]at w;rcases tV (stk l a)with h|⟨t,m,b⟩
  .simp_all
  .rw[b,Xw,bo,d6]at w;obtain⟨p,c⟩:=Sp w rfl;injection c with c;obtain⟨k,s,j,u⟩:=WwQ e.up e.z f b;have v:=VR j;obtain⟨n,r,_,_⟩:=KN a f t [] m b
   grind [Vu,HY]
end
section
def kdP(x:Kd):x.e.1=x.g/\x.e.2.1=x.k/\x.e.2.2.1=x.Ew/\x.e.2.2.2.1=x.G/\P4 x.e=x.pos/\P5 x.e=x.out/\P6 x.e=x.t/\P7 x.e=x.M/\P8 x.e=x.A/\P9 x.e=x.m/\P10 x.e=x.L:=⟨rfl,rfl,rfl,rfl,rfl,rfl,rfl,rfl,rfl,rfl,rfl⟩
def fmP(f:Fm):f.e.1=f.u/\f.e.2.1=f.K/\f.e.2.2.1=f.Ep/\f.e.2.2.2.1=f.Ey/\P4 f.e=f.t/\P5 f.e=f.start/\P6 f.e=f.buf/\P7 f.e=f.B/\P8 f.e=f.o/\Q9 f.e=f.κ.map Kd.e:=⟨rfl,rfl,rfl,rfl,rfl,rfl,rfl,rfl,rfl,rfl⟩
theorem U9e(f:Fm)(k)(x):U9 (Xi (f.κ.map Kd.e) k x.e) f.e=Fm.e {f with κ:=f.κ.set k x}:=by
 unfold U9 Fm.e;rw[Xgq]<;>rfl
def pN{f e:Fm}{k}{a}{y}{g}(c:y=a.e)(b:g=e.e)(d:e.κ=f.κ):
  some ((U9 (Xi (f.κ.map Kd.e) k y) g,()),())=some (((Fm.put (e,a) k).e,()),()):=by
 subst c b;rw[<-d,U9e];rfl
def WuM(m)(f)(x)(o:Opn):Hn m f.e x.e o=((c3 m f x o).1.e,(c3 m f x o).2.e):=by
 unfold Hn c3;have d:P8 x.e=x.A:=rfl;have g:P6 f.e=f.buf:=rfl;rw[d,g];rcases bf x.A o.2.2.1 with _|v
 .rcases ent f.buf o.2.2.1 with _|r
  .have h3:ni x.e o.2.2.1=if x.L then x.E else(o.2.2.1,0,0,0):=by
    unfold ni;have:P10 x.e=x.L:=rfl;rw[this];cases x.L<;>rfl
   simp only[h3];have h:f.e.1=f.u:=rfl;rw[h];generalize WU m f.u (if x.L then x.E else(o.2.2.1,0,0,0))=p;by_cases c:p.2.1=4
   .have:(p.2.1==4)=true:=Ψ
    rw[Wb c,this];rfl
   .have:(p.2.1==4)=false:=Ψ
    rw[Wa c,this];by_cases b:p.2.1=3
    .have:(p.2.1==3)=true:=Ψ
     rw[Wb b,this];rfl
    .have:(p.2.1==3)=false:=Ψ
     rw[Wa b,this];rfl
  .simp only;have i:x.e.2.2.1=x.Ew:=rfl;rw[i];by_cases a:r.2.2.2>x.Ew
   .rw[Wb a,Wf a];rfl
   .rw[Wa a,Wj a];rfl
 .rfl
def Wtj(m)(f)(x)(o):(c3 m f x o).1.κ=f.κ:=by
 grind [c3,bf,ent,WU]
variable{N:Nat}{l:List (List Opn)}{n:Int}{f:Fm}{k:Nat}{p:List Opn}{m:Mm}{x:Kd}
theorem FOk.buf8(h:FOk l n f):f.buf.length<=8:=by
 have:∀(j:List En) (c:Int),Ris cfE j->(∀e∈j,c<=e.1/\e.1<=7)->(j.length:Int)<=8-c\/j= []:=by
  intro j
  induction j with
  |nil=>simp_all
  |cons a j ih=>
   intro c i g;have d:=Xz.1 i;rcases ih (a.1+1) d.2 (λe b=>⟨by grind [cfE],(g e (Xe _ b)).2⟩)with h|h
   .grind
   grind
 rcases this f.buf 0 h.bufR (λe b=>by have:=(h.bufE e b).1;omega)with h|h
 .omega
 simp_all
theorem WuK(c:FOk l n f)(a:KOk p f.K n x)(b:KC p)(h:W4 m=true)(j:n<=100000){o:Opn}(i:aL o.2.1=true)(d:cp o.2.2.1=true):ReadOk m f.e x.e o where
 i:=h
 t:=a.t.len
 famr:=c.t.len
 rA:=by grind [aL]
 cB:=d
 M:=by have:=a.sl;have:=a.k;have:=b.len;show x.M.length<=1000;omega
 wr:=by have:=a.wl;have:=a.k;have:=b.len;show x.A.length<=1000;omega
 buf:=by have:=c.buf8;show f.buf.length<=1000;omega
 ver:=λe g=>(c.bufE e g).2.2.1
 Ew:=a.Ew.1
 k:=by have:=a.k;have:=b.len;show 0<=x.k/\x.k<=1000;omega
 G:=by have:=a.G;show 0<=x.G/\x.G<=100000;omega
 E:=a.E
theorem WJ{a:Type}{c b:Int}{x y:a}:(bif c==b then x else y)=if c=b then x else y:=by
 simp_all
theorem jP{a:Type}{p}[Decidable p]{x y:a}:(bif decide p then x else y)=if p then x else y:=by
 simp_all
theorem Wnm(b:KC p)(c:KOk p f.K n x)(v:x.g=0)(w:1048576<N):Mn N x.e p=some (((pu x p).e,()),()):=by
 unfold Mn pu;obtain⟨S,C,T,U,V,W,X,Y,E,F,D⟩:=kdP x;have K:=c.k;have L:=b.len;have k:=c.m v;simp only[Wm,F,E,C,WJ];by_cases g:x.m.length=0
 .rw[Wb (by unfold Wi;omega),Wb g];rfl
 .rw[Wa (by unfold Wi;omega),Wa g];obtain⟨j,q,y,e,r,s,⟨a,i⟩,qD,h,R,M,t⟩:=xQ (d:=((0,0,[]):KM)) b.toCC (Ω:x.k.toNat<=p.length) k.Z g;have Z:x.m.length=q.length+1:=Θ
  have J:q.length<=24:=by
   have:=Wq Xa t;simp only[aP]at this;have O:=gZ b.up j Ω;have P:=(jR p j).2;omega
  have B:ah .i64 (Wi x.m) 1=(q.length:Int):=by grind [LA]
  have A:y∈x.m:=Θ
  obtain⟨l,y2,y3,y4⟩:=k.I y A;have u:Xc x.m (Xb (q.length:Int)) ((0,0,[]):KM)=y:=Θ
  have I:bM (Xb (q.length:Int)) x.m=x.m.dropLast:=by rw[e];simp
  have Q:=c.wl;rw[B,d8,Wf (Ω:q.length<x.m.length)];simp only[We,u,I,r];have m:((decide ((0:Int)<=(q.length:Int))&&decide ((q.length:Int)<=(x.m.length:Int)))&&decide ((q.length:Int)<=((Xb (q.length:Int):Nat):Int)))=true:=by
   simp;omega
  rw[m];simp only[We];rw[rK (by rw[l.len];omega)];simp only[ret,Xd];rw[s,d8,Wf a];have G:Xc p (Xb ((j:Nat):Int)) ((0,0,0,0):Opn)=p[j]:=Wu a _;have H:opN p ((j:Nat):Int)=p[j]:=uQ a;have z:=CI (b.ok j a).1 i;simp only[We,G,H];rw[d7 z l.len];have o:(decide ((0:Int)<=y.2.1)&&decide (y.2.1<=(x.A.length:Int)))=true:=Φ
  rw[o];simp only[We];rw[C0 Θ,Vn Ω w ⟨a,i⟩ h];simp only[ret,Xd];rw[gC (by have:=h.len;omega),Xf];rfl
theorem Wq6(hk)(hm:W4 m=true)(c:KC p)(L:FOk l n f)(S:l.getD k []=p)(I:f.κ[k]=x)(v:x.g=0)(hn:n<=100000)(D:1048576<N):
  MA N f.e (k:Int) p m=some (((Fm.put (eI m f x p) k).e,()),()):=by
 have g:=L.kid k hk;rw[S,I]at g;obtain⟨k0,a,k2,k3,k4,k5,k6,k7,k8,k9,k10⟩:=kdP x;obtain⟨f0,f1,f2,f3,f4,f5,f6,f7,f8,f9⟩:=fmP f;have T:=g.k;have aa:=c.len;have j9:=g.wl;have X:Xc (f.κ.map Kd.e) (Xb (k:Int)) d_KidRun=x.e:=by
  simp_all
 have Y:U9 (Xi (f.κ.map Kd.e) (Xb (k:Int)) x.e) f.e=f.e:=by
  rw[Xf,U9e,<-I,jt]
 unfold MA eI;simp only[Wm,f9,aP];rw[d8,Wf hk];simp only[We,X,Y,a,k6,k8,k9,jP,WJ,show Wi p=(p.length:Int)from rfl];by_cases B:x.k>=p.length
 .rw[Wb B,Wb B];rw[Xf];exact pN rfl rfl rfl
 .rw[Wa B,Wa B];obtain⟨j,F,ej,eo⟩:=jV (l:=p) T.1 Ω;have zh:Xc p (Xb x.k) ((0,0,0,0):Opn)=opN p x.k:=rfl;have eH:inb x.k p.length=true:=by grind [d8,decide_eq_true]
  rw[eH];obtain⟨t,G,mn⟩:=c.ok j F;have V:=c.k10 j F;simp only[We,zh];rw[<-eo]at t G V;generalize opN p x.k=o at*;have C:=g.t.len;rw[Xf];rw[gC (Ω:0<=x.k/\x.k<=1000000)];by_cases e:o.1=5
  .rw[Wb e,Wb e];have:=nh t e;have dR:=WuK L g c hm hn this.1 this.2;have Z:(Q9 f.e)[k]'Ψ=x.e:=by
    simp_all
   have:=WpS (m:=m) (o:=o) (f:=f.e) (k:=k) Ψ Ψ D;rw[this];simp only[Xd,Z,WuM];unfold OD;have H:=Wtj m f x o;rw[show Q9 (c3 m f x o).1.e=f.κ.map Kd.e by rw[<-H];rfl];exact pN rfl rfl H
  .rw[Wa e,Wa e];by_cases u:o.1=10
   .rw[Wb u,Wb u,Wnm c g v D];exact pN rfl rfl rfl
   .rw[Wa u,Wa u];by_cases r:o.1=6
    .rw[Wb r,Wb r];rw[d7 (CH t r).2 C,Ww Φ];exact pN rfl rfl rfl
    .rw[Wa r,Wa r];by_cases s:o.1=7
     .rw[Wb s,Wb s];have h:=pM t s;rw[d7 h.1 C,WB (a:=x.k) (b:=o.2.2.1) Λ,gC (a:=x.k+o.2.2.1) Ω];by_cases A:Xc x.t (Xb o.2.1) 0=0
      .rw[Wb A,Wb (show ac x.t o.2.1 0=0 from A)];simp only[We];exact pN rfl rfl rfl
      .rw[Wa A,Wa (show¬ac x.t o.2.1 0=0 from A)];simp only[We];exact pN rfl rfl rfl
     .rw[Wa s,Wa s];by_cases w:o.1=8
      .rw[Wb w,Wb w];rw[rK Ω];have kC:x.m.length<=24:=by
        have:=Wq Xa (g.m v).Z;simp only[aP]at this;have J:=gZ c.up x.k.toNat Ω;have K:=(jR p x.k.toNat).2;omega
       simp only[ret,Xd];rw[Ww Φ];exact pN rfl rfl rfl
      .rw[Wa w,Wa w];by_cases z:o.1=9
       .rw[Wb z,Wb z];have M:=g.m v;have hz:x.m.length≠0:=by
         have h1:=Wq Xa M.Z;have J:=gZ c.up j Ω;have K:=c.up j F
         grind [iw,u2,Xf]
        obtain⟨i,q,y,W,Q,R,⟨E,P⟩,qD,bP,jq,e5,e6⟩:=xQ (d:=((0,0,[]):KM)) c.toCC (Ω:x.k.toNat<=p.length) M.Z hz;have qC:x.m.length=q.length+1:=Θ
        have kC:x.m.length<=24:=by
         have:=Wq Xa (g.m v).Z;simp only[aP]at this;have J:=gZ c.up x.k.toNat Ω;have K:=(jR p x.k.toNat).2;omega
        have i1:ah .i64 (Wi x.m) 1=(q.length:Int):=by grind [LA]
        have g1:Xc x.m (Xb (q.length:Int)) ((0,0,[]):KM)=y:=Θ
        have t1:bM (Xb (q.length:Int)) x.m=x.m.dropLast:=by rw[W];simp
        rw[i1,d8,Wf (Ω:q.length<x.m.length)];have U:(decide ((0:Int)<=(q.length:Int))&&decide ((q.length:Int)<=(x.m.length:Int)))=true:=Φ
        rw[U];simp only[We,g1,t1,Q];rw[R,d8,Wf E];have G:Xc p (Xb ((i:Nat):Int)) ((0,0,0,0):Opn)=opN p (i:Int):=rfl;have O:=CI (c.ok i E).1 P;rw[<-uQ E]at O;simp only[We,G];rw[d7 O C];exact pN rfl rfl rfl
       .rw[Wa z,Wa z];rw[OS D t Ω Ω g.t];exact pN rfl rfl rfl
end
section
def Vw{l}{c v}:∀(i),i<=l.length->rU l c i=some v->(c,v)∈l
 |0,_,h=>by simp[rU]at h
 |i+1,b,h=>by
  unfold rU at h;rw[Wk Ω]at h;by_cases a:l[i].1=c
  .grind
  .rw[Wa a]at h;exact Vw i Ω h
def Px{l}{c v}(h:bf l c=some v):fO l=true/\(c,v)∈l:=by
 unfold bf at h;by_cases a:fO l=true
 .rw[Wb a]at h;exact⟨a,Vw _ (Xj _) h⟩
 simp_all
def Wsg(l):∀(j c) (o),u1 l j c o=o++(List.range' c j).filterMap λc:Nat=>(bf l (c:Int)).map λv=>((c:Int),v)
 |0,c,o=>by simp[u1]
 |j+1,c,o=>by
  rw[u1,Wsg l j,List.range'_succ,List.filterMap_cons];unfold Lo;cases h:bf l (c:Int)<;>simp
theorem QZ(l):al l=(List.range' 0 8).filterMap λc:Nat=>(bf l (c:Int)).map λv=>((c:Int),v):=by simp[al,Wsg]
theorem zG{l}{r}:r∈al l↔(0<=r.1/\r.1<=7)/\bf l r.1=some r.2:=by
 rw[QZ,List.mem_filterMap];constructor
 .rintro⟨c,a,h⟩;rw[Xhz]at a;cases hl:bf l (c:Int)with
  |none=>simp_all
  |some v=>
   grind
 .rintro⟨b,h⟩;refine⟨r.1.toNat,Xhz.2 Ω,?_⟩
  grind
theorem Ax(l):(al l).Pairwise λa b=>a.1<b.1:=by
 rw[QZ,List.pairwise_filterMap];refine List.Pairwise.imp ?_ (List.pairwise_lt_range' (s:=0) (n:=8));simp_all
def Dc(l):(al l).length<=8:=by
 grind [QZ,mA,List.length_filterMap_le]
def zA{l}:bT (al l):=by
 intro r d;obtain⟨e,b⟩:=zG.1 d;obtain⟨a,c⟩:=Px b;unfold fO at a;simp only[Xl]at a;have:=(J9.1 a.2) _ c;omega
end
section
theorem Di{p}:jn p=true↔(0<=p.1/\p.1<=7)/\(0<=p.2.1/\p.2.1<=4)/\(0<=p.2.2.1/\p.2.2.1<=1000000)/\0<=p.2.2.2/\p.2.2.2<=65535:=by
 simp[jn,cp,dK,Xl,Wg]
theorem rX{c}{w}:ki c w=true↔(0<=w.1/\w.1<=65535)/\(0<=w.2.1/\w.2.1<=c)/\0<=w.2.2/\w.2.2<=99:=by
 simp[ki,dK,Xl,Wg]
def Wzs{m}(h:W4 m=true){c}(a:0<=c/\c<=7):ki m.1 (ac m.2 c (0,0,0))=true:=by
 grind [WK,ac,Wk,Xm]
def Yq{m}{a}{p}(h:W4 m=true)(c:jn p=true):jn (WU m a p)=true/\(WU m a p).1=p.1:=by
 have b:=Di.1 c;obtain⟨g,e,f,_⟩:=WK h;unfold WU;have d:ki m.1 (Xc m.2 (Xb p.1) (0,0,0))=true:=Wzs h b.1
 grind [rX,Di]
section
variable{l:List Opn}{a v h i:Nat}{g q:List KM}{y:KM}{c b n e:Int}{x:Kd}{f:Fm}{m:Mm}{d:List (List Opn)}{k:Nat}
theorem KMk.mono(j:KMk l a g h)(b:stk l v=stk l a)(c:h<=i):KMk l v g i:=
 ⟨by rw[b];exact j.Z,λq e=>by have:=j.I q e;grind,j.up⟩
theorem KMk.begin(r:KMk l a g h)(hp)(o:l[a].1=8){e}(p:Vals 4 e)(i:h<=a):KMk l (a+1) (g++ [((a:Int),(h:Int),e)]) h:=by
 refine⟨?_,?_,?_⟩
 .rw[ss hp o,Xw,Xw,r.Z];rfl
 .intro q c;rcases Xo.1 c with c|c
  .exact r.I q c
  simp_all
 .refine dZ.2 ⟨r.up,List.pairwise_singleton _ _,λj f b d=>?_⟩;rw[dq]at d;subst d;exact(r.I j f).2.2.2
theorem KMk.drop(o:KMk l a g h)(c:g=q++ [y])(f:stk l v=(stk l a).dropLast)(j:y.2.1<=i):KMk l v q i:=by
 subst c;have d:=o.Z;refine⟨?_,λp b=>?_,(dZ.1 o.up).1⟩
 .grind
 .have h2:=o.I p (List.mem_append_left _ b);have e:=(dZ.1 o.up).2.2 p b y Δ
  grind
theorem KOk.wk(h:KOk l c n x)(a:c<=b)(g:n<=e):KOk l b e x:=
 {h with Ew:=by have:=h.Ew;omega,G:=by have:=h.G;omega}
theorem YX(h:KOk l c n x)(j:c=f.K)(b:Vals 4 f.t)(i:0<=f.K):KOk l c (n+1) (f.again x) where
 k:=⟨Xt _,by show(0:Int)<=_;omega⟩
 t:=b
 Eo:=λr g=>by cases g
 wl:=Xt _
 sl:=Xt _
 Ew:=by show 0<=f.K/\f.K<=c;omega
 G:=by have:=h.G;show 0<=x.G+1/\x.G+1<=n+1;omega
 M:=λe a=>by cases a
 m:=λ_=>⟨by show([]:List KM).map _=(stk l 0).map _;rfl,(λq d=>by cases d),List.Pairwise.nil⟩
 pos:=⟨Xt _,Xt _⟩
 E:=λh=>by cases h
 g:=by show(0:Int)<=0/\(0:Int)<=3;omega
 out:=by show(0:Int)<=0/\(0:Int)<=2;omega
theorem KMk.len(e:CC l)(i:KMk l a g h)(b:a<=l.length):(g.length:Int)=dep l a:=by
 have:=Wq Xa i.Z;simp only[aP]at this;rw[this,gZ e.up a b]
theorem KOk.on(j:CC l)(h:KOk l c n x)(k:x.g=0){i}(a:i<l.length)(f:x.k=i){e}{Et}{θ}{μ}{Eu}{pb}{v}(m:v<=l.length)(g:i<v)(b:Vals 4 e)(ae:bT θ)(o:θ.length<=x.A.length+1)(p:Et.length<=x.M.length+1)
  (d:∀u∈Et,(0<=u.1/\u.1<=7)/\(0<=u.2.1/\u.2.1<=65535)/\ -1<=u.2.2/\u.2.2<=x.Ew) (q:x.M.length<=Et.length) (r:KMk l v μ θ.length) (s:Eu=true->jn pb=true):
  KOk l c n {x with t:=e,M:=Et,A:=θ,m:=μ,L:=Eu,E:=pb,k:=(v:Int)}:=
 {h with
  k:=Ψ
  t:=b
  Eo:=ae
  wl:=by have:=h.wl;grind
  sl:=by have:=h.sl;grind
  M:=d
  m:=λ_=>Ψ
  pos:=by have:=h.pos;grind
  E:=s}
theorem WxI(c:CC l)(o:FOk d n f)(h:KOk l f.K n x)(D:x.g=0){i}(a:i<l.length)(b:x.k=i)(s:l[i].1=5)(u:W4 m=true):
  KOk l f.K (n+1) (c3 m f x l[i]).2/\((c3 m f x l[i]).1=f\/(c3 m f x l[i]).1={f with Ey:=true}):=by
 have B:=nh (c.ok i a).1 s;have t:0<=l[i].2.2.1/\l[i].2.2.1<=7:=by grind [cp]
 have g:=h.m D;rw[b,Xf]at g;have j:=jZ a Ω Ω;have k:x.k+1=((i+1:Nat):Int):=Ω
 unfold c3;cases hl:bf x.A l[i].2.2.1 with
 |some v=>
  have w:=h.Eo _ (Px hl).2;refine⟨?_,.inl rfl⟩;simp only[k];exact(KOk.on c h D a b Ω Ω (h.t.set _ w.2) h.Eo Ω Ω h.M Ω (g.mono j Ω) h.E).wk Ω Ω
 |none=>
  simp only;cases he:ent f.buf l[i].2.2.1 with
  |some r=>
   simp only;have C:=m4 he;have A:r.2∈f.buf:=by
    grind
   have z:=o.bufE _ A;split
   .exact⟨YX h rfl o.t o.K.1,.inl rfl⟩
   .refine⟨?_,.inl rfl⟩;simp only[k];refine(KOk.on c h D a b Ω Ω (h.t.set _ z.2.1) h.Eo Ω Δ (λe G=>?_) Δ (g.mono j Ω) h.E).wk Ω Ω;rcases Xo.1 G with G|G
    .exact h.M e G
    grind
  |none=>
   simp only;have y:jn (if x.L=true then x.E else(l[i].2.2.1,0,0,0))=true:=by
    split
    .exact h.E ‹_›
    grind [Di]
   have F:=Yq (a:=f.u) u y;generalize WU m f.u (if x.L=true then x.E else(l[i].2.2.1,0,0,0))=p at*;have q:=Di.1 F.1;split
   .refine⟨?_,.inr rfl⟩;exact KOk.wk (n:=n) {h with E:=λ_=>F.1} Ω Ω
   .split
    .refine⟨?_,.inl rfl⟩;simp only[k];refine(KOk.on c h D a b Ω Ω (h.t.set _ q.2.2.2) h.Eo Ω Δ (λe G=>?_) Δ (g.mono j Ω) (λh=>by cases h)).wk Ω Ω;rcases Xo.1 G with G|G
     .exact h.M e G
     .rw[dq]at G;subst G;exact⟨t,q.2.2.2,Δ,by have:=h.Ew;grind⟩
    .refine⟨?_,.inl rfl⟩;exact KOk.wk (n:=n) {h with E:=λ_=>F.1} Ω Ω
theorem WA7(s:KC l)(U:FOk d n f)(h:KOk l f.K n x)(k:x.g=0)(W:W4 m=true):
  KOk l f.K (n+1) (eI m f x l).2/\((eI m f x l).1=f\/(eI m f x l).1={f with Ey:=true}):=by
 have c:=s.toCC;unfold eI;split
 .refine⟨?_,.inl rfl⟩;exact KOk.wk (n:=n) {h with m:=λh=>Ψ,g:=Ψ,out:=Ψ} Ω Ω
 .obtain⟨i,a,g,H⟩:=jV (l:=l) h.k.1 Ω;simp only[H];obtain⟨v,Z,Y⟩:=s.ok i a;have R:=s.k10 i a;have b:=h.m k;rw[g,Xf]at b;have p:x.k+1=((i+1:Nat):Int):=Ω
  have J:x.A.length<=i:=by have:=h.wl;omega
  split
  .grind [WxI]
  .split
   .refine⟨?_,.inl rfl⟩;unfold pu;split
    .refine KOk.wk (n:=n) {h with Eo:=(λr e=>by cases e),wl:=Ψ,m:=λh=>Ψ,g:=Ψ,out:=Ψ} Ω Ω
    .obtain⟨j,q,y,u,w,z,⟨G,F⟩,L,t,K,A,E⟩:=xQ (d:=((0,0,[]):KM)) c Ω b.Z ‹_›;obtain⟨D,O,P,Q⟩:=b.I y Θ;simp only[w,z,Xf,<-Int.natCast_succ];have V:=t.len;have X:(bM y.2.1.toNat x.A).length=y.2.1.toNat:=Ψ
     refine(KOk.on c h k a g (v:=kR l j+1) Ω Ω (D.set _ Ω) (λr e=>h.Eo r (lv e)) Ω Ω h.M Ω ?_ h.E).wk Ω Ω;rw[show x.m.dropLast=q by grind];exact b.drop u (by rw[t.st];exact A) Ω
   .split
    .refine⟨?_,.inl rfl⟩;have C:=CH v ‹_›;have o:=jZ a Ω Ω;simp only[p];refine(KOk.on c h k a g Ω Ω h.t (λr e=>?_) Δ Ω h.M Ω (b.mono o Δ) h.E).wk Ω Ω;rcases Xo.1 e with e|e
     .exact h.Eo r e
     .rw[dq]at e;subst e;have:=C.1;unfold cp at this;exact⟨Ψ,h.t.get _⟩
    .split
     .refine⟨?_,.inl rfl⟩;obtain⟨M,s2⟩:=s.sk i a ‹_›;have C:=pM v ‹_›;have o:=jZ a Ω Ω;have N:stk l (i+1+l[i].2.2.1.toNat)=stk l i:=by grind [QM]
      by_cases B:ac x.t l[i].2.1 0=0
      .simp only[Wb B,show x.k+l[i].2.2.1+1=((i+1+l[i].2.2.1.toNat:Nat):Int) by omega];exact(KOk.on c h k a g M Ω h.t h.Eo Ω Ω h.M Ω (b.mono N Ω) h.E).wk Ω Ω
      .simp only[Wa B,p];exact(KOk.on c h k a g Ω Ω h.t h.Eo Ω Ω h.M Ω (b.mono o Ω) h.E).wk Ω Ω
     .split
      .refine⟨?_,.inl rfl⟩;simp only[p];rw[g];exact(KOk.on c h k a g Ω Ω h.t h.Eo Ω Ω h.M Ω (b.begin a ‹_› h.t J) h.E).wk Ω Ω
      .split
       .refine⟨?_,.inl rfl⟩;have I:x.m.length≠0:=by
         have S:=b.len c Ω;have T:=c.up i a
         grind [iw,u2]
        obtain⟨j,q,y,u,w,z,⟨G,F⟩,L,t,K,A,E⟩:=xQ (d:=((0,0,[]):KM)) c Ω b.Z I;obtain⟨D,O,P,Q⟩:=b.I y Θ;simp only[p];refine(KOk.on c h k a g Ω Ω (h.t.set _ Ω) h.Eo Ω Ω h.M Ω ?_ h.E).wk Ω Ω;rw[show x.m.dropLast=q by grind];exact b.drop u (u9 a ‹_›) Ω
       .refine⟨?_,.inl rfl⟩;have o:=jZ a Ω Ω;simp only[p];exact(KOk.on c h k a g Ω Ω (GY v Ω Ω h.t) h.Eo Ω Ω h.M Ω (b.mono o Ω) h.E).wk Ω Ω
end
end
section
def mq(c:Int)(v:List En)(r:Rw):List En:=match ent v r.1 with
 |some a=>v.set a.1 (r.1,r.2,c)
 |none=>v++ [(r.1,r.2,c)]
theorem Ya(c)(v)(r):(mq c v r).length<=v.length+1:=by
 unfold mq;split<;>simp
theorem apE{a b:En}:Ap cfE a b↔a.1≠b.1:=by unfold Ap cfE;omega
def Wt1{c}{L M:List En}{r}(k:L.Pairwise (Ap cfE))(d:Ris cfE M)(f:∀x,x∈L↔x∈M):
  (mq c L r).Pairwise (Ap cfE)/\Ris cfE (gA cfE M (r.1,r.2,c))/\∀x,x∈mq c L r↔x∈gA cfE M (r.1,r.2,c):=by
 have b:(mq c L r).Pairwise (Ap cfE)/\∀x,x∈mq c L r↔x=(r.1,r.2,c)\/(x∈L/\Ap cfE x (r.1,r.2,c)):=by
  unfold mq ent;cases he:fnd (λe:En=>e.1==r.1) L 0 with
  |some a=>
   obtain⟨g,h,i,j⟩:=m4 he
   grind [Xq,X3,vf,apE]
  |none=>
   grind [Dp,VI,apE]
 refine⟨b.1,rF vf d,λx=>?_⟩;rw[b.2 x,nF vf d,f]
def WuZ{c}:∀{b} {L M:List En},L.Pairwise (Ap cfE)->Ris cfE M->(∀x,x∈L↔x∈M)->
  (b.foldl (mq c) L).Pairwise (Ap cfE)/\Ris cfE (lX c M b)/\∀x,x∈b.foldl (mq c) L↔x∈lX c M b
 | [],_,_,e,f,g=>⟨e,f,g⟩
 |r::b,L,M,e,f,g=>by
  obtain⟨a,h,d⟩:=Wt1 (c:=c) (r:=r) e f g;exact WuZ (b:=b) a h d
def Yj{c}:∀(a:List Rw) (L),(a.foldl (mq c) L).length<=L.length+a.length
 | [],L=>Δ
 |r::a,L=>by
  have:=Yj (c:=c) a (mq c L r)
  grind [Ya,Xv]
def OU{c}{P:En->Prop}:∀{b} {M:List En},Ris cfE M->(∀x∈M,P x)->(∀r∈b,P (r.1,r.2,c))->∀x∈lX c M b,P x
 | [],_,_,h,_=>h
 |r::b,M,g,h,i=>by
  refine OU (b:=b) (rF vf g) (λx d=>?_) λe a=>i e (Xe _ a);rcases(nF vf g).1 d with rfl|a
  .simp_all
  simp_all
def YU{R}{N}{k4}{b7 b8 b9}{aY}{bp bS B eG cu A}{lT}{gj fW dW kG}{b}{c}{fb}{fw}{fu}{iZ}{fx}{fJ}{jO}{gY}{dw}{a:Int->Bool->Kw->Option R}(k:1048576<N)(q:b.length<=8):
  ∀(d j n) (v:List En),j+d=b.length->d<n->v.length<=100+j->
  vv N k4 (Wi b) b7 b8 b9 aY bp bS B eG cu A lT gj fW dW kG b c fb fw fu iZ fx fJ jO gY dw a n (j:Int) v=a (b.length:Int) false ((b.drop j).foldl (mq b8) v)
 |0,j,n+1,v,m,o,hv=>by
  simp_all [vv,W0,Xj,Wc,p6,List.foldl_nil]
 |d+1,j,n+1,v,m,o,hv=>by
  have e:j<b.length:=Ω
  have p:=O7 (N:=N) (f:=(b7,(b8,(b9,(aY,(c,(fb,(v,(fw,(fu,Xi iZ fx (bp,(bS,(B,(eG,(cu,(A,(fJ,(jO,(gY,(dw,(lT,(gj,(fW,(dW,kG)))))))))))))))))))))))) (c:=b[j].1) Θ k;have w:=Ya b8 v b[j];have z:∀g,g=mq b8 v b[j]->vv N k4 (Wi b) b7 b8 b9 aY bp bS B eG cu A lT gj fW dW kG b c fb fw fu iZ fx fJ jO gY dw a n ((j+1:Nat):Int) g=a (b.length:Int) false ((b.drop j).foldl (mq b8) v):=λg l=>by
   subst l;rw[YU k q d (j+1) n _ Ω Ω Ω,HN e,eM]
  simp only[vv,Wm,WM e,Wp e,Wu e,Wl (j:=j),We,p,ret,Xd];have u:ent v b[j].1=ent v b[j].1:=rfl;unfold mq at z;cases he:ent v b[j].1 with
  |some y=>
   rw[he]at z;obtain⟨r,s,i,t⟩:=m4 he;rw[d4]at i;simp only[Wf (show((y.1:Int)>=0) by omega),We];rw[d8,Wf i];simp only[We,Xf];exact z _ rfl
  |none=>
   rw[he]at z;simp only[show decide ((-1:Int)>=0)=false from rfl,Wc];rw[Ww Φ];simp only[We,eK];exact z _ rfl
 |_,_,0,_,_,h,_=>Ω
def Qj{R}{N}{nY fe jv jw}{jx}{jy ja jb jc jd nZ}{oe}{og oh oi ol}{b}{iF}{om}{oo}{oq}{ii}{ot}{gk}{gl}{gr}{a:Int->Bool->Kad->Option R}(i:b.length<=1000):
  ∀(d j n) (v:List Rw),j+d=b.length->d<n->v.length<=1000+j->
  ym N nY (Wi b) fe jv jw jx jy ja jb jc jd nZ oe og oh oi ol b iF om oo oq ii ot gk gl gr a n (j:Int) v=a (b.length:Int) false (v++kx (b.drop j))
 |0,j,n+1,v,e,f,hv=>by
  have:j=b.length:=Ω
  subst this;simp[ym,W0 (Xj b.length),Wc,p6,kx,List.filter_nil,d6,List.append_nil]
 |d+1,j,n+1,v,e,f,hv=>by
  have g:j<b.length:=Ω
  have c:kx (b.drop j)=if b[j].2.2= -1 then(b[j].1,b[j].2.1)::kx (b.drop (j+1))else kx (b.drop (j+1)):=by
   rw[HN g];unfold kx
   grind
  simp only[ym,Wm,WM g,Wp g,Wu g,Wl (j:=j),We,WJ];rw[c];by_cases h:b[j].2.2= -1
  .rw[Wb h,Wb h,Ww Φ];simp only[We];rw[Qj i d (j+1) n _ Ω Ω Φ];simp
  .rw[Wa h,Wa h];rw[Qj i d (j+1) n _ Ω Ω Ω]
 |_,_,0,_,_,h,_=>Ω
variable{N:Nat}{a:List (List Opn)}{n:Int}{f:Fm}{k:Nat}{c:List Opn}{m:Mm}{x:Kd}
theorem WBM{l:List En}(h:Ris cfE l):l.Pairwise (Ap cfE):=h.imp λh=>.inl h
theorem Wnr(hk)(O:f.κ.length<=3)(T:c.length<=24)(W:FOk a n f)(m:a.getD k []=c)(p:f.κ[k]=x)(j:1048576<N):
  EN N f.e (k:Int)=some (((Fm.put (dr f x k) k).e,()),()):=by
 have b:=W.kid k hk;rw[m,p]at b;obtain⟨D,E,F,G,H,I,J,K,L,t⟩:=fmP f;have C:=b.k;have Q:=b.wl;have R:=b.sl;have V:=W.buf8;have U:f.B.length<=3:=by
  have i:=W.done
  grind
 have M:=W.readsL;have q:Xc (f.κ.map Kd.e) (Xb (k:Int)) d_KidRun=x.e:=by
  simp_all
 unfold EN;simp only[t,aP];rw[d8,Wf hk];simp only[We,q];have s:tM N x.e.2.2.2.2.2.2.2.2.1=ret (al x.A):=I3 (Ω:x.A.length<=1048576) j;rw[s];simp only[ret,Xd];have B:=Dc x.A;rw[show(0:Int)=((0:Nat):Int)from rfl];rw[YU (b:=al x.A) j B (al x.A).length 0 N _ Ω Ω Θ];simp only[List.drop_zero];have d:P6 f.e=f.buf:=rfl;have o:Ws .i64 f.e.2.1 1=f.K+1:=gC (by have:=W.K;omega);rw[d,o];obtain⟨w,A,l⟩:=WuZ (c:=f.K+1) (b:=al x.A) (WBM W.bufR) W.bufR (λx=>Iff.rfl);unfold SG;have S:=Yj (c:=f.K+1) (al x.A) f.buf;rw[YZ (rng:=F5) (N:=N) vf A w l (λe h=>?_) Ω]
 .simp only[Xd];rw[show(Kd.e x).2.2.2.2.2.2.2.1=x.M from rfl];rw[Qj (b:=x.M) Ω x.M.length 0 N _ Ω Ω Θ];rw[Ww Θ];have u:∀(g:Fm) (y:Kd),U6 (Xi (f.κ.map Kd.e) k y.e) (S5 (f.o++kx x.M) (S4 (f.B++ [(k:Int)]) (S3 (lX (f.K+1) f.buf (al x.A)) f.e.2.2.2)))=(f.Ey,f.t,f.start,lX (f.K+1) f.buf (al x.A),f.B++ [(k:Int)],f.o++kx x.M,(f.κ.set k y).map Kd.e):=λg y=>by
   rw[Xgq];rfl
  exact Wq (λz=>some (((f.u,(f.K+1,((0:Int),z))),()),())) (u f {x with g:=3,pos:=0,m:=[]})
 .have i:=(l e).1 h;have:=OU (P:=λe=>0<=e.1/\e.1<=7) W.bufR (λe h=>(W.bufE e h).1) (λr v=>(zG.1 v).1) e i
  grind [F5,x9]
theorem WoR(hk)(i:FOk a n f)(d:KOk c f.K n x)(e:f.κ[k]=x)(g:n<=100000)(o):
  yq N (Fm.e {f with Ep:=o}) (k:Int)=some (((Fm.put ({f with Ep:=o},f.again x) k).e,()),()):=by
 have h:=Uh (N:=N) (f:=Fm.e {f with Ep:=o}) (k:=k) (x:=x.e) (by show k<(f.κ.map Kd.e).length;simp_all) i.t.len (by have:=d.G;show 0<=x.G/\x.G<=100000;omega);have b:U9 (Xi (Q9 (Fm.e {f with Ep:=o})) k x.e) (Fm.e {f with Ep:=o})=Fm.e {f with Ep:=o}:=by
  have:=U9e {f with Ep:=o} k x;rw[<-e]at this;simp only[jt]at this;rw[<-e];exact this
 rw[b]at h;rw[h];exact Wq (λz=>some ((z,()),())) (U9e {f with Ep:=o} k (f.again x))
theorem WmN(g:k<f.κ.length)(G:f.κ.length<=3)(I:W4 m=true)(u:KC c)(p:FOk a n f)(s:a.getD k []=c)(J:n<=100000)(t:1048576<N):
  Mg N f.e (k:Int) c m=some (((aC m f k c).e,()),()):=by
 obtain⟨x,b⟩:∃x,f.κ[k]=x:=⟨_,rfl⟩;have r:=p.kid k g;rw[s,b]at r;obtain⟨V,W,C,D,X,Y,E,Z,f8,F⟩:=fmP f;obtain⟨K,k1,k2,k3,M,k5,k6,O,k8,k9,L⟩:=kdP x;have jp:=r.sl;have R:=r.k;have P:=u.len;have z:Xc (f.κ.map Kd.e) (Xb (k:Int)) d_KidRun=x.e:=by
  simp_all
 have A:U9 (Xi (f.κ.map Kd.e) (Xb (k:Int)) x.e) f.e=f.e:=by
  rw[Xf,U9e,<-b,jt]
 have U:Fm.put (f,x) k=f:=by unfold Fm.put;simp only;rw[<-b,jt]
 unfold Mg aC bn;simp only[Wm,F,D,aP];rw[K2];by_cases i:f.Ey=true
 .rw[Wb i,Wb i]
 rw[Wa i,Wa i];rw[d8,Wf g];simp only[We,Wc,z,A,K,M,O,C,WJ,Wk g,b];by_cases d:x.g=0
 .rw[Wb d,Wb d,Wq6 g I u p s b d J t];rfl
 .rw[Wa d,Wa d];by_cases o:x.g=1
  .rw[Wb o,Wb o];by_cases w:f.Ep=0
   .rw[Wb w,Wb w,gC Ω,Xf];exact pN rfl rfl rfl
   simp_all
  .rw[Wa o,Wa o];by_cases v:x.g=2
   .rw[Wb v,Wb v];unfold Wi;by_cases q:x.pos=(x.M.length:Int)
    .rw[Wb q,Wb q,Wnr g G P p s b t];rfl
    .rw[Wa q,Wa q];have S:=r.pos;have B:inb x.pos x.M.length=true:=by grind [inb]
     rw[B];have H:Xc x.M (Xb x.pos) ((0,0,0):En)=ac x.M x.pos (0,0,0):=rfl;simp only[We,H];have y:=O7 (N:=N) (f:=f.e) (c:=(ac x.M x.pos (0,0,0)).1) (by show f.buf.length<=1048576;have:=p.buf8;omega) t;rw[show f.e.2.2.2.2.2.2.1=f.buf from rfl]at y;rw[y];simp only[ret,Xd,E];have T:S2 (0:Int) f.e=Fm.e {f with Ep:=0}:=rfl;have jL:yq N (U9 (Xi (f.κ.map Kd.e) (Xb (k:Int)) x.e) (S2 0 f.e)) (k:Int)=some (((Fm.put ({f with Ep:=0},f.again x) k).e,()),()):=by
      grind [U9e,Xf,U9,Xi,Kd.e,Fm.e,jt,WoR]
     unfold oY;have Q:Ws .i64 x.pos 1=x.pos+1:=gC Ω;rw[Q];cases he:ent f.buf (ac x.M x.pos (0,0,0)).1 with
     |some e=>
      obtain⟨g1,g2,j,l⟩:=m4 he;rw[d4]at j;rw[Nat.sub_zero,Xq j]at l;injection l with l;rw[d8,Wf j];simp only[We,Wu j,l];by_cases h:e.2.2.2=(ac x.M x.pos (0,0,0)).2.2
      .rw[Wb h,Wb h,Xf];exact pN rfl rfl rfl
      simp_all
     |none=>
      by_cases h:(-1:Int)=(ac x.M x.pos (0,0,0)).2.2
      .rw[Wb h,Wb h,Xf];exact pN rfl rfl rfl
      simp_all
   simp_all
end
section
section
variable{p:List (List Opn)}{n:Int}{f a:Fm}{k:Nat}{q:List Opn}{m:Mm}{x y:Kd}
theorem FOk.len3(h:FOk p n f)(b:p.length<=3):f.B.length<=3:=by
 have a:=h.done;have:=H1 (p:=λx:Kd=>decide (x.g=3)) (l:=f.κ);have:=h.len;omega
theorem FOk.put1(h:FOk p n f)(hk)(d:p.getD k []=q){o:Int}{l}(e:0<=o/\o<=f.κ.length)(j:KOk q f.K (n+1) y)(g:f.κ[k].g≠3)(c:y.g≠3):
  FOk p (n+1) (Fm.put ({f with Ep:=o,Ey:=l},y) k) where
 len:=by show(f.κ.set k y).length=_;rw[Xx];exact h.len
 t:=h.t
 K:=h.K
 done:=by
  show f.B.length=(f.κ.set k y).countP _;rw[Xih hk,Wa Ψ,Wa Ψ];exact h.done
 bufR:=h.bufR
 bufE:=h.bufE
 readsL:=h.readsL
 readsE:=h.readsE
 Ep:=by show 0<=o/\o<=((f.κ.set k y).length:Int);simp_all
 kid:=λi a=>by
  change i<(f.κ.set k y).length at a;rw[Xx]at a;show KOk (p.getD i []) f.K (n+1) (f.κ.set k y)[i];rw[fE];by_cases b:k=i
  .simp_all
  .rw[Wa b];exact(h.kid i a).wk Ω Ω
theorem FOk.wk(h:FOk p n f){a}(b:n<=a):FOk p a f:=
 {h with kid:=λk c=>(h.kid k c).wk Ω b}
theorem WnX(h:∀e∈x.M,(0<=e.1/\e.1<=7)/\(0<=e.2.1/\e.2.1<=65535)/\ -1<=e.2.2/\e.2.2<=x.Ew):bT (kx x.M):=by
 intro r a;unfold kx at a
 grind
theorem Wpt(l):(kx l).length<=l.length:=by
 simp[kx,aP,List.length_filter_le]
theorem UL{c}:∀{a} {M:List En},Ris cfE M->Ris cfE (lX c M a)
 | [],_,h=>h
 |r::a,M,h=>UL (a:=a) (rF vf h)
theorem Wu0(w:FOk p n f)(hk)(o:q.length<=24)(j:p.getD k []=q)(l:f.κ[k]=x)(m:x.g=2):
  FOk p (n+1) (Fm.put (dr f x k) k):=by
 have d:=w.kid k hk;rw[j,l]at d;have s:=w.K;unfold dr Fm.put;refine{len:=?_,t:=w.t,K:=?_,done:=?_,bufR:=UL w.bufR,bufE:=?_,readsL:=?_,readsE:=?_,Ep:=?_,kid:=?_}
 .simp only[Xx];exact w.len
 .grind
 .simp only[bX,Xem];rw[Xih hk,l,Wa (by simp[m]),Wb Δ,<-w.done];rfl
 .simp only;refine OU w.bufR (λe g=>?_) λr b=>?_
  .have:=w.bufE e g;omega
  .have:=zA r b;grind
 .have h1:=w.readsL;have m:=Wpt x.M;have u:=d.sl;have v:=d.k
  grind
 .intro r b;rcases Xo.1 b with b|b
  .exact w.readsE r b
  .exact WnX d.M r b
 .simp_all
 .intro i a;simp only[Xx]at a;simp only[fE];by_cases g:k=i
  .subst g;rw[Wb rfl,j];refine KOk.wk (c:=f.K) (n:=n) ?_ Ω Ω;exact{d with m:=(λh=>Ψ),pos:=⟨Xt _,Ψ⟩,g:=Ψ}
  .rw[Wa g];exact(w.kid i a).wk Ω Ω
theorem KG(b:k<f.κ.length)(t:W4 m=true)(z:KC q)(a:FOk p n f)(d:p.getD k []=q):FOk p (n+1) (aC m f k q):=by
 obtain⟨x,i⟩:∃x,f.κ[k]=x:=⟨_,rfl⟩;have e:=a.kid k b;rw[d,i]at e;have w:Fm.put (f,x) k=f:=by unfold Fm.put;simp only;rw[<-i,jt]
 have j:=a.wk (Ω:n<=n+1);unfold aC bn;split
 .exact j
 rw[Wk b,i];split
 .rename_i h0;obtain⟨r,s⟩:=WA7 z a e h0 t;have u:(eI m f x q).2.g≠3:=by
   grind [eI,c3,pu,Fm.again]
  have:=r;have v:∀A:Fm×Kd,(A.1=f\/A.1={f with Ey:=true})->KOk q f.K (n+1) A.2->A.2.g≠3->FOk p (n+1) (Fm.put A k):=by
   rintro⟨g,y⟩ hg hy hp;simp only at hg hy hp;rcases hg with rfl|rfl
   .exact FOk.put1 (o:=g.Ep) (l:=g.Ey) a b d a.Ep hy Ψ hp
   .exact FOk.put1 (o:=f.Ep) (l:=true) a b d a.Ep hy Ψ hp
  simp_all
 .split
  .rename_i r;split
   .refine FOk.put1 (o:=(k:Int)+1) (l:=f.Ey) a b d Ω ?_ Ψ Ψ;refine KOk.wk (c:=f.K) (n:=n) ?_ Ω Ω;exact{e with m:=(λh=>Ψ),g:=Ψ}
   simp_all
  .split
   .rename_i s;split
    .exact Wu0 a b z.len d i s
    .simp only;split
     .refine FOk.put1 (o:=f.Ep) (l:=f.Ey) a b d a.Ep ?_ Ψ Ψ;refine KOk.wk (c:=f.K) (n:=n) ?_ Ω Ω;exact{e with pos:=by(have:=e.pos;grind)}
     .refine FOk.put1 (o:=0) (l:=f.Ey) a b d Ω (YX e rfl a.t a.K.1) Ψ (by show(0:Int)≠3;omega)
   simp_all
theorem WvO{g}{i}{θ}(a:Vals 4 i)(f:0<=n):FOk p n (cq g i θ p.length) where
 len:=by simp[cq]
 t:=a
 K:=by simp[cq]
 done:=by
  simp only[cq,kp];rw[List.countP_replicate,Wa Δ]
 bufR:=by
  grind [Ris,cq,Ax,cfE]
 bufE:=λe b=>by
  obtain⟨r,a,rfl⟩:=Xy.1 b;have:=zA r a
  grind [cq]
 readsL:=by simp[cq]
 readsE:=λr a=>by cases a
 Ep:=by simp[cq]
 kid:=λk d=>by
  simp only[cq,List.getElem_replicate];exact{k:=Δ,t:=a,Eo:=(λr a=>by cases a),wl:=Δ,sl:=Δ,Ew:=Δ,G:=Φ,M:=(λe b=>by cases b),m:=(λ_=>⟨by simp[stk],(λq c=>by cases c),List.Pairwise.nil⟩),pos:=Δ,E:=(λh=>by cases h),g:=Δ,out:=Δ}
end
end
section
def JJ{c b R}{a}{K:Int->List b->Option R}{f}:∀(l:List c) (d r),l.length<=r.length->
  (∀(j) x (v:List b) k,x∈l->j<v.length->a j x v k=k (v.set j (f x)))->eP a K l d.length (d++r)=K ((d.length+l.length:Nat):Int) (d++(l.map f++r.drop l.length))
 | [],d,r,_,_=>by simp[eP]
 |x::l,d,[],h,_=>by simp at h
 |x::l,d,y::r,h,hb=>by
  rw[eP,hb d.length x _ _ (Xg ..) Δ,Wlq];have:=JJ (a:=a) (K:=K) (f:=f) l (d++ [f x]) r Θ λj z v k e=>hb j z v k (Xe _ e);simp only[bX,Xem,o0,List.singleton_append]at this;rw[this];simp only[Xv,bo,List.drop_succ_cons,hZ];rw[show d.length+1+l.length=d.length+(l.length+1) by omega]
def Hc{m}{R:Type}{l:List m}{p:m->Bool}{c:Nat->Int->Option R}{N}{a:Int->Option R}{b:Option R}(i:l.length<N)(e:l.length<=1048576)(d:∀n (j) (h:j<l.length),c (n+1) (j:Int)=bif p l[j]then a j else c n ((j+1:Nat):Int))(g:∀n,c (n+1) (l.length:Int)=b):c N 0=match fnd p l 0 with|some r=>a r.1|none=>b:=by
 have f:=WF (l:=l) (V:=Unit) (c:=λn j _=>c n j) i (b:=λj x v k=>bif p x then a j else k v) (K:=λ_ _=>b) (λn j v h=>d n j h) (λn v=>g n) ();refine(f.trans (J6 (p:=p) (E:=λj _=>a j) l 0 () λj x v k _=>rfl)).trans ?_;cases fnd p l 0<;>rfl
def Lq{a}{p}:∀(l:List a) (j),(fnd p l j).isSome=l.any p
 | [],_=>rfl
 |x::l,j=>by
  unfold fnd;rw[List.any_cons];cases p x
  .simp[Lq l]
  .rfl
variable{N:Nat}
theorem Wpp{f}(b:f.κ.length<=3)(m:1048576<N):NK N f.e=ret (ig f):=by
 unfold NK SF Zq;have e:f.e.2.2.2.2.2.2.2.2.2=f.κ.map Kd.e:=rfl;rw[e];have o:(f.κ.map Kd.e).length<=3:=by simpa using b
 have g:=Hc (l:=f.κ.map Kd.e) (p:=λx=>x.1 !=3) (N:=N) (c:=λn j=>Zh N (f.κ.map Kd.e) (λd=>(some ((),(d,())))) (λk i=>(some ((),((-1:Int),())))) n j) (a:=λj=>some ((),(j,()))) (b:=some ((),((-1:Int),()))) Ω Ω
  (λn j c=>by
   simp only[Zh,WM c,Wp c,Wu c,Wl (j:=j),We,SZ,Xd])
  (λn=>by simp only[Zh,W0 (Xj _),Wc])
 rw[g];have a:=Lq (p:=λx:Y_KidRun=>x.1 !=3) (f.κ.map Kd.e) 0;have b:(f.κ.map Kd.e).any (λx=>x.1 !=3)= !ig f:=by
  unfold ig;rw[List.any_map,<-me];have:((λx:Y_KidRun=>x.1 !=3)∘Kd.e)= λx:Kd=>!decide (x.g=3):=by
   funext x;show(x.g !=3)= !decide (x.g=3);by_cases h:x.g=3<;>simp[h]
  rw[this]
 rw[b]at a;cases hf:fnd (λx:Y_KidRun=>x.1 !=3) (f.κ.map Kd.e) 0 with
 |some r=>
  rw[hf]at a;simp only[Xd,Wf (show((r.1:Int)>=0) by omega),Xu,ret];rw[show ig f=false by simpa using a.symm]
 |none=>
  rw[hf]at a;rw[show ig f=true by simpa using a.symm];rfl
theorem Wpk{f}(h:f.buf.length<=1000)(g:1048576<N):Fv N f.e=ret (m5 f):=by
 unfold Fv;have e:f.e.2.2.2.2.2.2.1=f.buf:=rfl;rw[e];have c:=WF (l:=f.buf) (V:=List Rw) (R:=Unit×(List Rw×Unit)) (c:=λn j v=>Bk N f.buf (Wi f.buf) (λm d b=>(some ((),(b,())))) n j v) (n:=N) Ω
  (b:=λj x v k=>bif WH (v.length+ [(x.1,x.2.1)].length)then k (Xh v [(x.1,x.2.1)])else none) (K:=λ_ v=>ret v)
  (λn i v a=>by simp only[Bk,WM a,Wp a,Wu a,Wl (j:=i),We])
  (λn v=>by simp[Bk,W0 (Xj f.buf.length),Wc]) []
 refine c.trans ?_;rw[zt (f:=λx:En=>(x.1,x.2.1)) f.buf 0 [] Φ (λj x v k _=>rfl)];rfl
theorem WnB{f}(o:Vals 4 f.t)(s:f.κ.length<=3)(u:∀x∈f.κ,x.t.length<=1000)(m:1048576<N):Fu N f.e=ret (rN f):=by
 unfold Fu rN;have e:f.e.2.2.2.2.1=f.t:=rfl;have r:f.e.2.2.2.2.2.2.2.2.2=f.κ.map Kd.e:=rfl;have b:=nC.2 o;have E:=o.len;have F:(f.κ.map Kd.e).length=f.κ.length:=Δ
 rw[e,r,Gh Ω m,Wb ⟨b,s⟩];simp only[ret,Xd,b,Xu,Wc];rw[Wj (by unfold Wi;omega),rK Ω];simp only[ret,Xd,Wc];have a:=WF (l:=f.κ.map Kd.e) (V:=List Int) (R:=Unit×(List Int×Unit)) (c:=λn j v=>vG N (f.κ.map Kd.e) (Wi (f.κ.map Kd.e)) (λD G q=>(some ((),(q,())))) n j v) (n:=N) Ω
  (b:=λj x v k=>bif inb j v.length then(bif x.2.2.2.2.2.1==(1:Int)then((mC N (P6 x) (4:Int)).bind λc=>(bif c.2.1 then(bif inb 0 (P6 x).length then(bif inb j (Xi v j.toNat 0).length then k (Xi (Xi v j.toNat 0) j.toNat (Xc (P6 x) (Xb (0:Int)) 0))else none)else none)else k (Xi v j.toNat 0)))else k (Xi v j.toNat 0))else none) (K:=λ_ v=>ret v)
  (λn i v d=>by simp only[vG,Wm,WM d,Wp d,Wu d,Wl (j:=i),We];rfl)
  (λn v=>by simp only[vG,W0 (Xj _),Wc]) f.t
 refine a.trans ?_;have g:=JJ (b:=Int) (K:=λ_ v=>ret v) (f:=λx:Y_KidRun=>if P5 x=1/\oz (P6 x)=true then ac (P6 x) 0 0 else 0) (f.κ.map Kd.e) [] f.t Ω (a:=λj x v k=>bif inb j v.length then(bif x.2.2.2.2.2.1==(1:Int)then((mC N (P6 x) (4:Int)).bind λc=>(bif c.2.1 then(bif inb 0 (P6 x).length then(bif inb j (Xi v j.toNat 0).length then k (Xi (Xi v j.toNat 0) j.toNat (Xc (P6 x) (Xb (0:Int)) 0))else none)else none)else k (Xi v j.toNat 0)))else k (Xi v j.toNat 0))else none)
  (λj x v k C t=>by
   obtain⟨y,w,rfl⟩:=Xy.1 C;have z:=u y w;have A:(Kd.e y).2.2.2.2.2.1=y.out:=rfl;have p:P5 (Kd.e y)=y.out:=rfl;have B:P6 (Kd.e y)=y.t:=rfl;simp only[A,p,B,d8,Wf t,We,Gh (Ω:y.t.length<=1048576) m,ret,Xd,WJ,Xf,Xx];by_cases a:y.out=1
   .rw[Wb a];cases b:oz y.t
    .rw[Wa Δ];rfl
    .have:=(nC.1 b).len;rw[Wb ⟨a,rfl⟩,show inb (0:Int) y.t.length=true by rw[this];rfl];simp only[We,mz];rfl
   .rw[Wa a,Wa (λh=>a h.1)])
 simp only[kp,p4,aP,List.map_map]at g;exact g
theorem Wlr{E}{F}{θ:List Rw}{D:Nat}(z:F.length<=1000)(A:θ.length<=1000)(y:D<=3)(t:1048576<N):
  Ff N E F θ (D:Int)=ret (cq E F θ D).e:=by
 unfold Ff;rw[rK Ω,I3 Ω t];have p:=Dc θ;simp only[ret,Xd];have s:=WF (l:=al θ) (V:=List En) (R:=Unit×(Y_Family×Unit)) (c:=λn j v=>A1 N F D (Wi (al θ)) E (al θ) F (λw C e=>
  (vD N F D E F (al θ) e
 (λq g c=>
  (some ((),((E,((0:Int),((0:Int),(false,(F,(al θ,(e,(([]:List Int),(([]:List Kf),c))))))))),()))))
 N (0:Int) ([]:List Y_KidRun))) n j v) (n:=N) Ω
  (b:=λj x v k=>bif WH (v.length+ [(x.1,(x.2,(0:Int)))].length)then k (Xh v [(x.1,(x.2,(0:Int)))])else none) (K:=λ_ e=>(vD N F D E F (al θ) e
 (λq g c=>
  (some ((),((E,((0:Int),((0:Int),(false,(F,(al θ,(e,(([]:List Int),(([]:List Kf),c))))))))),()))))
 N (0:Int) ([]:List Y_KidRun)))
  (λn i v m=>by simp only[A1,WM m,Wp m,Wu m,Wl (j:=i),We])
  (λn v=>by simp[A1,W0 (Xj _),Wc]) []
 refine s.trans ?_;rw[zt (f:=λx:Rw=>(x.1,(x.2,(0:Int)))) (al θ) 0 [] Φ (λj x v k _=>rfl)];simp only[p4];obtain⟨b,o⟩:∃b,(al θ).map (λx:Rw=>(x.1,(x.2,(0:Int))))=b:=⟨_,rfl⟩;rw[o];have a:∀(d j n:Nat) (v:List Y_KidRun),j+d=D->d<n->v=Xp j (Kd.e {t:=F})->vD N F D E F (al θ) b (λq g c=>(some ((),((E,((0:Int),((0:Int),(false,(F,(al θ,(b,(([]:List Int),(([]:List Kf),c))))))))),())))) n (j:Int) v=some ((),((E,((0:Int),((0:Int),(false,(F,(al θ,(b,(([]:List Int),(([]:List Kf),Xp D (Kd.e {t:=F})))))))))),())):=by
  intro d
  induction d with
  |zero=>
   intro j n v u p h;obtain⟨n,rfl⟩:∃G,n=G+1:=⟨n-1,Ω⟩;have:j=D:=Ω
   subst this;simp[vD,Int.lt_irrefl,decide_false,Wc,h]
  |succ d ih=>
   intro j n v u p h;obtain⟨n,rfl⟩:∃G,n=G+1:=⟨n-1,Ω⟩;have r:(j:Int)<(D:Int):=Ω
   have B:v.length=j:=by rw[h];simp
   simp only[vD,Wf r,We,rK (Ω:F.length<=1048576),ret,Xd];rw[Ww Φ];simp only[We];rw[Wl];refine ih (j+1) n _ Ω Ω ?_;rw[h,List.replicate_succ'];rfl
 have:=a D 0 N [] Ω Ω rfl;refine this.trans ?_;unfold cq Fm.e;simp[List.map_replicate,o]
end
section
def lst:List Rw->Int->Option Int
 | [],_=>none
 |r::l,c=>match lst l c with
  |some v=>some v
  |none=>if r.1=c then some r.2 else none
theorem K6(a b:List Rw)(c):lst (a++b) c=match lst b c with|some v=>some v|none=>lst a c:=by
 induction a with
 |nil=>rw[p4];cases lst b c<;>rfl
 |cons r a ih=>
  rw[hZ,lst,ih];cases lst b c<;>rfl
def Vv{l}{c}:∀i,i<=l.length->rU l c i=lst (l.take i) c
 |0,_=>by simp[rU,lst]
 |i+1,h=>by
  rw[rU,pO Ω,K6,Vv i Ω,Wk (Ω:i<l.length)];show _=match(if l[i].1=c then some l[i].2 else none)with|some v=>some v|none=>_
  grind
def zx{l}(h:bT l)(a:l.length<=300):fO l=true:=by
 unfold fO
 grind [decide_eq_true,J9]
theorem C1{l}{c}(h:bT l)(a:l.length<=300):bf l c=lst l c:=by
 unfold bf;rw[Wb (zx h a),Vv _ (Xj _),jz]
def Dx{c v}:∀{l},lst l c=some v->(c,v)∈l
 | [],h=>by cases h
 |r::l,h=>by
  rw[lst]at h;cases hl:lst l c with
  |some w=>rw[hl]at h;cases h;exact Xe _ (Dx hl)
  |none=>
   grind
theorem GU{b}{c}{r}(h:ent b c=some r):r.2∈b/\r.2.1=c:=by
 obtain⟨a,d,e,f⟩:=m4 h
 grind
def Qg{b}{c}(h:ent b c=none):∀e∈b,e.1≠c:=λe a=>by
 have:=Dp h e a;simp_all
def G6{c}{e}:∀{a} {b:List En},Ris cfE b->a.Pairwise (λm b=>m.1<b.1)->
  (e∈lX c b a↔(∃r∈a,e=(r.1,r.2,c))\/(e∈b/\∀r∈a,r.1≠e.1))
 | [],b,_,_=>by unfold lX;simp
 |r::a,b,h,n=>by
  obtain⟨l,j⟩:=Xz.1 n;have:=G6 (c:=c) (e:=e) (a:=a) (b:=gA cfE b (r.1,r.2,c)) (rF vf h) j;unfold lX at this|-;rw[eM,this,nF vf h];constructor
  .rintro(⟨i,d,f⟩|⟨d|⟨d,f⟩,k⟩)
   .simp_all
   .simp_all
   .refine .inr ⟨d,λi g=>?_⟩;rcases Xr.1 g with rfl|g
    .grind [apE]
    grind
  .rintro(⟨i,d,f⟩|⟨d,f⟩)
   .grind
   grind [Xe,apE,Xg]
def kS(f:Fm)(k:Int):List Rw:=(f.κ.getD k.toNat {}).A
def WR(f:Fm)(n:Nat):List Rw:=f.start++((f.B.take n).map (kS f)).flatten
def J2{f a}{n}(b:a.start=f.start)(d:a.B.take n=f.B.take n)(c:∀k∈f.B,kS a k=kS f k):WR a n=WR f n:=by
 grind [WR,vk,lv]
def SN(M:Int->Int->Prop)(f:Fm)(x:Kd):Prop:=∀e∈x.M,
 (e.2.2= -1/\lst (WR f x.Ew.toNat) e.1=none/\M e.1 e.2.1)\/
 (0<=e.2.2/\e.2.2<=x.Ew/\lst (WR f e.2.2.toNat) e.1=some e.2.1/\lst (WR f x.Ew.toNat) e.1=some e.2.1)
structure FT(M:Int->Int->Prop)(f:Fm):Prop where
 buf:∀e∈f.buf,∀n:Nat,e.2.2<=(n:Int)->n<=f.B.length->lst (WR f n) e.1=some e.2.1
 non:∀c:Int,0<=c->c<=7->(∀e∈f.buf,e.1≠c)->∀n:Nat,n<=f.B.length->lst (WR f n) c=none
 sn:∀(k:Nat) (h:k<f.κ.length),SN M f f.κ[k]
 nod:f.B.Nodup
 ord:∀k∈f.B,0<=k/\∃h:k.toNat<f.κ.length,f.κ[k.toNat].g=3
def FT.wk{M a}{f}(h:FT M f)(d:∀c v,M c v->a c v):FT a f:=
 ⟨h.buf,h.non,λk i e g=>(h.sn k i e g).imp (λ⟨j,b,c⟩=>⟨j,b,d _ _ c⟩) id,h.nod,h.ord⟩
section
variable{M:Int->Int->Prop}{N:Nat}{a:List (List Opn)}{n:Int}{f:Fm}{k:Nat}{b:List Opn}{m:Mm}{x y:Kd}
theorem sw(hk):f.κ.getD k {}=f.κ[k]:=Ψ
theorem FT.put(h:FT M f)(hk)(E:f.κ[k].g≠3){g}(t:g.start=f.start)(i:g.B=f.B)(B:g.buf=f.buf)(s:g.κ=f.κ.set k y)(v:SN M f y):FT M g:=by
 have u:∀j∈f.B,kS g j=kS f j:=λj b=>by
  obtain⟨w,x,z⟩:=h.ord j b;unfold kS;have l:k≠j.toNat:=λe=>Ψ
  rw[s,Xs,Xs,ly l]
 have d:∀n,WR g n=WR f n:=λn=>J2 t (by rw[i]) u;refine⟨λe a n r A=>?_,λc p q C n D=>?_,λj b e a=>?_,by rw[i];exact h.nod,λj b=>?_⟩
 .rw[d];exact h.buf e Ψ n r Ψ
 .rw[d];exact h.non c p q Θ n Ψ
 .rw[d,d];have o:j<f.κ.length:=Θ
  have m:g.κ[j]=if k=j then y else f.κ[j]:=Θ
  rw[m]at a|-;split at a
  .rename_i e1;rw[Wb e1];exact v e a
  .rename_i e1;rw[Wa e1];exact h.sn j o e a
 .rw[i]at b;obtain⟨w,x,z⟩:=h.ord j b
  grind
theorem SN.nil(h:x.M= []):SN M f x:=λe a=>Ψ
theorem SN.same(h:SN M f x)(c:y.M=x.M)(a:y.Ew=x.Ew):SN M f y:=λe b=>by rw[a];exact h e Ψ
theorem SN.snoc(h:SN M f x){e}(c:y.M=x.M++ [e])(b:y.Ew=x.Ew)(d:(e.2.2= -1/\lst (WR f x.Ew.toNat) e.1=none/\M e.1 e.2.1)\/(0<=e.2.2/\e.2.2<=x.Ew/\lst (WR f e.2.2.toNat) e.1=some e.2.1/\lst (WR f x.Ew.toNat) e.1=some e.2.1)):SN M f y:=λz a=>by
 rw[c]at a;rw[b];rcases Xo.1 a with a|a
 .exact h z a
 simp_all
def RdM(M:Int->Int->Prop)(m:Mm)(a:Int)(x:Kd)(c:Int):Prop:=(WU m a (if x.L then x.E else(c,0,0,0))).2.1=3->M c (WU m a (if x.L then x.E else(c,0,0,0))).2.2.2
theorem Wyp(h:FT M f)(d:FOk a n f)(hk)(j:f.κ[k]=x){o}(i:0<=o.2.2.1/\o.2.2.1<=7)(c:RdM M m f.u x o.2.2.1):SN M f (c3 m f x o).2:=by
 unfold RdM at c;have u:=j▸h.sn k hk;have g:=d.kid k hk;rw[j]at g;have q:=d.K;have p:=g.Ew;unfold c3;cases hl:bf x.A o.2.2.1 with
 |some v=>exact u.same rfl rfl
 |none=>
  cases he:ent f.buf o.2.2.1 with
  |some r=>
   simp only;split
   .exact SN.nil rfl
   .obtain⟨b,s⟩:=GU he;have l:=d.bufE _ b;refine u.snoc (e:=r.2) rfl rfl (.inr ⟨l.2.2.1,Ω,?_,?_⟩)
    .exact h.buf _ b _ Ω Ω
    .exact h.buf _ b _ Ω Ω
  |none=>
   simp only;generalize WU m f.u (if x.L then x.E else(o.2.2.1,0,0,0))=t at c;split
   .exact u.same rfl rfl
   .split
    .rename_i h3;exact u.snoc (e:=(o.2.2.1,_,-1)) rfl rfl (.inl ⟨rfl,h.non _ i.1 i.2 (Qg he) _ Ω,c h3⟩)
    .exact u.same rfl rfl
theorem WwY(a:SN M f x):SN M f (pu x b):=by
 unfold pu;split
 .exact a.same rfl rfl
 .exact a.same rfl rfl
theorem Wt6(h:FT M f)(i:FOk a n f)(hk)(C:f.κ[k]=x)(U:x.g=2)(ba:b.length<=24)(L:a.getD k []=b):FT M (Fm.put (dr f x k) k):=by
 have m:=i.kid k hk;rw[C,L]at m;have bQ:=i.K;have j9:x.A.length<=300:=by have:=m.wl;have:=m.k;omega
 have oI:∀c,bf x.A c=lst x.A c:=λc=>C1 m.Eo j9;have X:(k:Int)∉f.B:=λK=>by
  obtain⟨_,D,E⟩:=h.ord _ K;simp_all
 let g:=Fm.put (dr f x k) k
 have P:g.start=f.start:=rfl;have Q:g.B=f.B++ [(k:Int)]:=rfl;have R:g.κ=f.κ.set k {x with g:=3,pos:=0,m:=[]}:=rfl;have Y:∀j∈f.B,kS g j=kS f j:=λj u=>by
  obtain⟨Z,D,E⟩:=h.ord j u;unfold kS;have s:k≠j.toNat:=λe=>Ψ
  rw[R,Xs,Xs,ly s]
 have pE:kS g k=x.A:=by
  grind [kS,Xf,List.getElem?_set_self]
 have B:∀n,n<=f.B.length->WR g n=WR f n:=λn p=>J2 P (by rw[Q,List.take_append_of_le_length p]) Y;have G:WR g (f.B.length+1)=WR f f.B.length++x.A:=by
  grind [WR,nm,jz,List.flatten_append,o0,vk]
 have A:=Ax x.A;have s:∀c,0<=c->c<=7->(∀r∈al x.A,r.1≠c)->lst x.A c=none:=λc S V l=>by
  cases hl:lst x.A c with
  |none=>rfl
  |some v=>exact Wh rfl (l (c,v) (zG.2 ⟨⟨S,V⟩,Ψ⟩))
 refine⟨λe o n T U=>?_,λc y z W n p=>?_,λj u e o=>?_,?_,λj u=>?_⟩
 .have kZ:n<=f.B.length+1:=Θ
  show lst (WR g n) e.1=_;have O:e∈lX (f.K+1) f.buf (al x.A):=o;rcases(G6 i.bufR A).1 O with⟨r,w,rfl⟩|⟨t,l⟩
  .grind [K6,zG]
  .by_cases p:n<=f.B.length
   .rw[B n p];exact h.buf e t n T p
   .have:n=f.B.length+1:=Ω
    subst this;have I:=i.bufE e t;rw[G,K6,s e.1 I.1.1 I.1.2 l];exact h.buf e t _ Ω (Xj _)
 .have kZ:n<=f.B.length+1:=Θ
  show lst (WR g n) c=_;have F:∀e∈lX (f.K+1) f.buf (al x.A),e.1≠c:=W;have l:∀r∈al x.A,r.1≠c:=λr w=>F _ ((G6 (e:=(r.1,r.2,f.K+1)) i.bufR A).2 (.inl ⟨r,w,rfl⟩));have H:∀e∈f.buf,e.1≠c:=λe o q=>F e ((G6 i.bufR A).2 (.inr ⟨o,λr w=>Θ⟩)) q;by_cases J:n<=f.B.length
  .rw[B n J];exact h.non c y z H n J
  .have:n=f.B.length+1:=Ω
   subst this;rw[G,K6,s c y z l];exact h.non c y z H _ (Xj _)
 .have d:j<f.κ.length:=by
   grind
  have N:(Fm.put (dr f x k) k).κ[j]=if k=j then{x with g:=3,pos:=0,m:=[]}else f.κ[j]:=by
   grind
  have ka:SN M f ((Fm.put (dr f x k) k).κ[j])/\((Fm.put (dr f x k) k).κ[j]).Ew<=f.K:=by
   rw[N];split
   .exact⟨(C▸h.sn k hk:SN M f x).same rfl rfl,m.Ew.2⟩
   .exact⟨h.sn j d,(i.kid j d).Ew.2⟩
  have vq:=ka.1 e o
  grind
 .show(f.B++ [(k:Int)]).Nodup;rw[List.nodup_append];refine⟨h.nod,Δ,λqa0 ha qa1 t=>?_⟩
  grind
 .have d:=u;have aa:(Fm.put (dr f x k) k).κ=f.κ.set k {x with g:=3,pos:=0,m:=[]}:=rfl;rcases Xo.1 d with d|d
  .obtain⟨Z,D,E⟩:=h.ord j d
   grind
  simp_all
theorem Wyl(h:FT M f)(l:FOk a n f)(hk)(q:KC b)(p:a.getD k []=b)
  (s:f.κ[k].g=0->f.κ[k].k<b.length->(opN b f.κ[k].k).1=5->RdM M m f.u f.κ[k] (opN b f.κ[k].k).2.2.1):FT M (aC m f k b):=by
 unfold aC;split
 .exact h
 .rw[sw hk];obtain⟨x,c⟩:∃x,f.κ[k]=x:=⟨_,rfl⟩;have A:SN M f x:=c▸h.sn k hk;have r:=l.kid k hk;rw[c]at s|-;rw[c,p]at r;unfold bn;by_cases j:x.g=0
  .rw[Wb j];have z:f.κ[k].g≠3:=Ψ
   unfold eI;split
   .exact h.put hk z rfl rfl rfl rfl (A.same rfl rfl)
   .rename_i g;have g:=Int.not_le.1 g;simp only;split
    .rename_i h5;have t:0<=(opN b x.k).2.2.1/\(opN b x.k).2.2.1<=7:=by
      obtain⟨i,u,w,y⟩:=jV r.k.1 g;have:=(nh (q.ok i u).1 Ψ).2
      grind [cp]
     have v:=Wyp (o:=opN b x.k) h l hk c t (s j Ω h5);have d:(c3 m f x (opN b x.k)).1.start=f.start/\(c3 m f x (opN b x.k)).1.B=f.B/\(c3 m f x (opN b x.k)).1.buf=f.buf/\(c3 m f x (opN b x.k)).1.κ=f.κ:=by
      unfold c3
      grind
     exact h.put hk z d.1 d.2.1 d.2.2.1 (by show Xi (c3 ..).1.κ _ _=_;rw[d.2.2.2]) v
    .split
     .exact h.put hk z rfl rfl rfl rfl (WwY A)
     .repeat' split
      all_goals exact h.put hk z rfl rfl rfl rfl (A.same rfl rfl)
  .rw[Wa j];split
   .have z:f.κ[k].g≠3:=Ψ
    split
    .exact h.put hk z rfl rfl rfl rfl (A.same rfl rfl)
    .exact h.put hk z rfl rfl rfl rfl (A.same rfl rfl)
   .split
    .rename_i h2;have z:f.κ[k].g≠3:=Ψ
     split
     .exact Wt6 h l hk c h2 q.len p
     .simp only;split
      .exact h.put hk z rfl rfl rfl rfl (A.same rfl rfl)
      .exact h.put hk z rfl rfl rfl rfl (SN.nil rfl)
    .have e:Fm.put (f,x) k=f:=by
      unfold Fm.put;simp only;rw[<-c,jt hk]
     simp_all
theorem Hy{r}:∀{l},l.Pairwise (λa b=>a.1<b.1)->r∈l->lst l r.1=some r.2
 | [],_,h=>by cases h
 |a::l,c,hm=>by
  obtain⟨d,e⟩:=Xz.1 c;rw[lst];rcases Xr.1 hm with rfl|hm
  .cases hl:lst l r.1 with
   |some v=>have:=d _ (Dx hl);omega
   |none=>simp
  .rw[Hy e hm]
theorem XT{w}{c}{θ}{u}:FT M (cq w c θ u):=by
 have g:∀n,WR (cq w c θ u) n=al θ:=λn=>by
  simp[WR,cq]
 have h:∀r∈al θ,lst (al θ) r.1=some r.2:=λr b=>Hy (Ax θ) b;refine⟨λe a n m o=>?_,λt i l d n s=>?_,λj q e a=>?_,List.nodup_nil,λk f=>by cases f⟩
 .obtain⟨r,p,rfl⟩:=Xy.1 (show e∈(al θ).map λr=>((r.1,r.2,0):En)from a)
  grind
 .rw[g];cases hl:lst (al θ) t with
  |none=>rfl
  |some v=>exact Wh rfl (d (t,v,0) (Xy.2 ⟨(t,v),Dx hl,rfl⟩))
 grind [cq]
end
end
end Go.Sx
