/- Plain laws of the Lean functions. -/
import Derived.Test.YtokgfiajefpfoaaGreatT2
open Option renaming bind_some→Xd
open Nat renaming le_refl→Xl,zero_add→dj,le_trans→jR,add_zero→eL,add_assoc→eK,sub_zero→mA
open List renaming append→Xe,length_cons→Xu,mem_cons_self→Xg,append_eq→cU,mem_cons_of_mem→Xf,all_eq_true→cq,getD→Xc,mem_cons→Xs,set→Xk,set_set→nv,take_succ_eq_append_getElem→l6,countP_le_length→V2,length→Xb,length_append→Xx,length_dropLast→xT,append_inj'→N8,append_assoc→lB,cons_append→fG,dropLast_concat→E8,getElem_mem→Xo,length_set→aK,pairwise_cons→bq,mergeSort_perm→XS,getElem_of_mem→eI,pairwise_iff_getElem→eH,mem_iff_getElem→nq,getElem_set→ex,range→c7,replicate→Xt,map_append→Xw,map_cons→bK,map_nil→cV,map_set→XG,length_map→Xy,take→aI,set_getElem_self→jN,range'→XZ,mem_range'_1→XX,mem_append→Xn,pairwise_append→dx,mem_singleton→bH,getElem?_eq_getElem→Xp,drop_length→oS,drop_eq_getElem_cons→VQ,drop_zero→qC,countP_set→X2,length_singleton→VR,length_nil→jQ,mem_map→Xz,nil_append→mx
open Bool renaming not_true→Xr,and_eq_true→Xj,or_eq_true→xU,not_eq_true'→fg,not_eq_true→Oh,false_or→Io,toNat_false→Og,false_and→In,true_and→oX,or_eq_false_iff→uu,not_eq_false'→B4
open Int renaming toNat→Xa,toNat_natCast→Xi,le_refl→aj
namespace Go.Sx
set_option linter.unusedVariables false
set_option linter.unusedSimpArgs false
section
def cD(v:Int):Bool:=decide (0<=v)&&decide (v<=65535)
theorem ls{N:Nat}{x a b:Int}:fH N x a b=ret (decide (a<=x)&&decide (x<=b)):=by
 unfold fH;by_cases h:a<=x<;>simp[h]
theorem fI{N:Nat}{x a b:Int}:Zn N x a b=ret (decide (a<=x)&&decide (x<=b)):=by
 unfold Zn;by_cases h:a<=x<;>simp[h]
theorem jF{α:Type}{p:α->Bool}(l:List α):(l.any λx=>!p x)= !l.all p:=by
 grind
abbrev Rw:=Int×Int
def bY(v:Int):Bool:=decide (0<=v)&&decide (v<=7)
def mX(r:Rw):Bool:=bY r.1&&cD r.2
def ed(l:List Rw):Bool:=decide (l.length<=300)&&l.all mX
def la(l:List Int):Bool:=decide (l.length=8)&&l.all cD
theorem Av{N:Nat}{v:Int}:pw N v=ret (cD v):=by
 unfold pw;simp only[ls,ret,Xd];rfl
theorem mE{N:Nat}{v:Int}:jS N v=ret (cD v):=by
 unfold jS;simp only[fI,ret,Xd];rfl
theorem PH{N:Nat}{v:Int}:pp N v=ret (bY v):=by
 unfold pp;simp only[ls,ret,Xd];rfl
theorem pC{N:Nat}{v:Int}:lD N v=ret (bY v):=by
 unfold lD;simp only[fI,ret,Xd];rfl
theorem DF{N:Nat}{l:List Int}(d:l.length<=1048576)(c:1048576<N):po N l=ret (la l):=by
 unfold po la;by_cases h:l.length=8
 .have e:(Wh l !=8)=false:=by simp[Wh,h]
  rw[e];simp only[Wc];have b:=WH (l:=l) (V:=Unit) (R:=Unit×Ks) (lp:=λn j v=>yv N l (some ((),(false,()))) (λf g=>some ((),(true,()))) n j) (n:=N) (by omega)
   (body:=λj x v k=>bif !cD x then some ((),(false,()))else k v) (K:=λ_ v=>some ((),(true,())))
   (λn i v a=>by simp only[yv,WQ a,Ws a,Wu a,Wk (show i<4611686018427387904 by omega),We,Av,ret,Xd])
   (λn v=>by simp[yv,W6,Xl,Wc]) ()
  refine b.trans ?_;rw[hQ (p:=λx=>!cD x) (E:=λ_=>some ((),(false,()))) l 0 () (λj x v k _=>rfl),jF];cases l.all cD<;>simp[h]
 grind [Wh]
theorem PC{N:Nat}{l:List Int}(d:l.length<=1048576)(c:1048576<N):Z8 N l 8=ret (la l):=by
 unfold Z8 la;have b:=WH (l:=l) (V:=Unit) (R:=Unit×Ks) (lp:=λn j v=>pi N l 8 (some ((),(false,()))) (λf g=>some ((),((Wh l)==(8:Int),()))) n j) (n:=N) (by omega)
  (body:=λj x v k=>bif !cD x then some ((),(false,()))else k v) (K:=λ_ v=>some ((),((Wh l)==(8:Int),())))
  (λn i v a=>by simp only[pi,WQ a,Ws a,Wu a,Wk (show i<4611686018427387904 by omega),We,mE,ret,Xd])
  (λn v=>by simp[pi,W6,Xl,Wc]) ()
 refine b.trans ?_;rw[hQ (p:=λx=>!cD x) (E:=λ_=>some ((),(false,()))) l 0 () (λj x v k _=>rfl),jF];have e:((Wh l)==(8:Int))=decide (l.length=8):=by
  grind [Wh]
 rw[e];cases l.all cD<;>simp
theorem Ai{N:Nat}{l:List Rw}(d:l.length<=1048576)(c:1048576<N):nS N l=ret (ed l):=by
 unfold nS ed;by_cases h:l.length<=300
 .have e:decide (Wh l>300)=false:=by simp[Wh];omega
  rw[e];simp only[Wc];have b:=WH (l:=l) (V:=Unit) (R:=Unit×Ks) (lp:=λn j v=>yc N l (some ((),(false,()))) (λf g=>some ((),(true,()))) n j) (n:=N) (by omega)
   (body:=λj x v k=>bif !mX x then some ((),(false,()))else k v) (K:=λ_ v=>some ((),(true,())))
   (λn i v a=>by
    simp only[yc,WQ a,Ws a,Wu a,Wk (show i<4611686018427387904 by omega),We,Av,PH,ret,Xd,mX];cases bY l[i].1<;>rfl)
   (λn v=>by simp[yc,W6,Xl,Wc]) ()
  refine b.trans ?_;rw[hQ (p:=λx=>!mX x) (E:=λ_=>some ((),(false,()))) l 0 () (λj x v k _=>rfl),jF];cases l.all mX<;>simp[h]
 grind [decide,Wh]
theorem DG{N:Nat}{l:List Rw}(d:l.length<=1048576)(c:1048576<N):pr N l=ret (ed l):=by
 unfold pr ed;have b:=WH (l:=l) (V:=Unit) (R:=Unit×Ks) (lp:=λn j v=>ye N l (some ((),(false,()))) (λf g=>some ((),(decide ((Wh l)<=(300:Int)),()))) n j) (n:=N) (by omega)
  (body:=λj x v k=>bif !mX x then some ((),(false,()))else k v) (K:=λ_ v=>some ((),(decide ((Wh l)<=(300:Int)),())))
  (λn i v a=>by
   simp only[ye,WQ a,Ws a,Wu a,Wk (show i<4611686018427387904 by omega),We,mE,pC,ret,Xd,mX];cases bY l[i].1<;>rfl)
  (λn v=>by simp[ye,W6,Xl,Wc]) ()
 refine b.trans ?_;rw[hQ (p:=λx=>!mX x) (E:=λ_=>some ((),(false,()))) l 0 () (λj x v k _=>rfl),jF];have e:decide (Wh l<=300)=decide (l.length<=300):=by apply decide_eq_decide.2;simp[Wh];omega
 rw[e];cases l.all mX<;>simp
theorem Wvl{α:Type}{l:List α}(h:l.length<=1048576):WC l.length=true:=by grind [WC]
end
section
abbrev Wd:=Int×Int×Int
abbrev Mm:=Int×List Wd
theorem D0{α:Type}(a:Option α):dg a a=a:=by unfold dg;simp
def im(a:Int)(w:Wd):Bool:=cD w.1&&((decide (0<=w.2.1)&&decide (w.2.1<=a))&&(decide (0<=w.2.2)&&decide (w.2.2<=99)))
def aq(m:Mm):Bool:=decide (m.2.length=8)&&((decide (0<=m.1)&&decide (m.1<=1000000))&&m.2.all (im m.1))
theorem Ak{N:Nat}{m:Mm}(h:m.2.length<=1048576)(g:1048576<N):nG N m=ret (aq m):=by
 unfold nG aq;have c:=WH (l:=m.2) (V:=Unit) (R:=Unit×Ks) (lp:=λn j v=>yz N m.2 m (some ((),(false,()))) (λd f=>
  (bif (Wh m.2)==(8:Int)then
  ((Zn N m.1 (0:Int) (1000000:Int)).bind λb=>
  (some ((),(b.2.1,()))))
  else
  (some ((),(false,()))))) n j) (n:=N) (by omega)
  (body:=λj x v k=>bif !im m.1 x then some ((),(false,()))else k v) (K:=λ_ v=>(bif (Wh m.2)==(8:Int)then
  ((Zn N m.1 (0:Int) (1000000:Int)).bind λb=>
  (some ((),(b.2.1,()))))
  else
  (some ((),(false,())))))
  (λn i v a=>by
   simp only[yz,WQ a,Ws a,Wu a,Wk (show i<4611686018427387904 by omega),We,mE,fI,ret,Xd,im];cases cD m.2[i].1<;>cases(decide (0<=m.2[i].2.1)&&decide (m.2[i].2.1<=m.1))<;>cases(decide (0<=m.2[i].2.2)&&decide (m.2[i].2.2<=99))<;>rfl)
  (λn v=>by simp[yz,W6,Xl,Wc]) ()
 refine c.trans ?_;rw[hQ (p:=λx=>!im m.1 x) (E:=λ_=>some ((),(false,()))) m.2 0 () (λj x v k _=>rfl),jF];have e:((Wh m.2)==(8:Int))=decide (m.2.length=8):=by
  grind [Wh]
 simp only[e,fI,ret,Xd];cases m.2.all (im m.1)<;>cases decide (m.2.length=8)<;>simp
theorem WlG{N:Nat}{m:Mm}(h:m.2.length<=1048576)(g:1048576<N):Dw N m=ret (aq m):=by
 unfold Dw aq;have e:((Wh m.2) !=(8:Int))= !decide (m.2.length=8):=by
  grind [Wh]
 have d:=WH (l:=m.2) (V:=Unit) (R:=Unit×Ks) (lp:=λn j v=>uB N m (some ((),(false,()))) (λc b=>(some ((),(true,())))) n j) (n:=N) (by omega)
  (body:=λj x v k=>bif !im m.1 x then some ((),(false,()))else k v) (K:=λ_ v=>some ((),(true,())))
  (λn i v a=>by
   simp only[uB,WQ a,Ws a,Wu a,Wk (show i<4611686018427387904 by omega),We,Av,ls,ret,Xd,im];cases cD m.2[i].1<;>cases(decide (0<=m.2[i].2.1)&&decide (m.2[i].2.1<=m.1))<;>cases(decide (0<=m.2[i].2.2)&&decide (m.2[i].2.2<=99))<;>rfl)
  (λn v=>by simp[uB,W6,Xl,Wc]) ()
 have f:uB N m (some ((),(false,()))) (λc b=>(some ((),(true,())))) N 0=ret (m.2.all (im m.1)):=by
  refine d.trans ?_;rw[hQ (p:=λx=>!im m.1 x) (E:=λ_=>some ((),(false,()))) m.2 0 () (λj x v k _=>rfl),jF];cases m.2.all (im m.1)<;>rfl
 rw[e,f];simp only[ls,ret,Xd];cases decide (m.2.length=8)<;>cases(decide (0<=m.1)&&decide (m.1<=1000000))<;>simp
def wd0(v:Int):Wd:=(v,(0,0))
def BD(l:List Int):Mm:=(0,l.map wd0)
theorem Al{α β R:Type}{body:Int->α->List β->(List β->Option R)->Option R}{K:Int->List β->Option R}{f:α->β}:∀(l:List α) (j:Nat) (o:List β),o.length+l.length<=1000000->
  (∀(j:Nat) x (v:List β) k,x∈l->body j x v k=bif WC (v.length+ [f x].length)then k (Xe v [f x])else none)->d5 body K l j o=K ((j+l.length:Nat):Int) (o++l.map f)
 | [],j,o,_,_=>by simp[d5]
 |x::l,j,o,h,hb=>by
  rw[Xu]at h;rw[d5,hb j x o _ (Xg ..),Ww (by simp;omega)];simp only[We];rw[Al l (j+1) _ (by grind [cU]) λj y v k a=>hb j y v k (Xf _ a)];rw[Xu,show j+1+l.length=j+(l.length+1) by omega];simp
theorem Wkd{N:Nat}{l:List Int}(h:la l=true)(d:1048576<N):nT N l=some ((),(BD l,(true,()))):=by
 have m:l.length=8:=by grind [la]
 unfold nT;simp only[PC (show l.length<=1048576 by omega) d,ret,Xd,h,Xr,Wc];have c:=WH (l:=l) (V:=List Wd) (R:=Unit×(Mm×Ks)) (lp:=λn j v=>yf N l (λe g b=>(some ((),(((0:Int),b),(true,()))))) n j v) (n:=N) (by omega)
  (body:=λj x v k=>bif WC (v.length+ [wd0 x].length)then k (Xe v [wd0 x])else none) (K:=λ_ v=>some ((),(((0:Int),v),(true,()))))
  (λn i v a=>by simp only[yf,WQ a,Ws a,Wu a,Wk (show i<4611686018427387904 by omega),We,wd0])
  (λn v=>by simp[yf,W6,Xl,Wc]) []
 refine c.trans ?_;rw[Al (f:=wd0) l 0 [] (by simp;omega) (λj x v k _=>rfl)];rfl
theorem WP{m:Mm}(h:aq m=true):m.2.length=8/\0<=m.1/\m.1<=1000000/\∀w∈m.2,im m.1 w=true:=by
 simp_all [aq,Xj,Wg,cq]
def tick(m:Mm):Mm×Int:=if m.1<1000000 then((m.1+1,m.2),m.1+1)else(m,0)
theorem WoL{N:Nat}{m:Mm}(h:aq m=true)(a:1048576<N):KU N m=some ((),((tick m).1,((tick m).2,()))):=by
 obtain⟨f,c,d,_⟩:=WP h;have e:pm N m=ret m:=by grind [pm,Ww]
 unfold KU tick;simp only[e,Ak (show m.2.length<=1048576 by omega) a,ret,Xd,h,Xr,Wc];by_cases g:m.1<1000000
 .have e2:(m.1==1000000)=false:=by simp;omega
  have b:Wm .i64 m.1 1=m.1+1:=WE (by unfold I64;omega)
  grind
 grind
abbrev Pb:=Int×Int×Int×Int
def gr(p:Pb):Bool:=bY p.1&&((decide (0<=p.2.1)&&decide (p.2.1<=4))&&((decide (0<=p.2.2.1)&&decide (p.2.2.1<=1000000))&&cD p.2.2.2))
theorem Woz{N:Nat}{p:Pb}:J4 N p=ret (gr p):=by
 unfold J4 gr;simp only[pC,fI,mE,ret,Xd];cases bY p.1<;>cases(decide (0<=p.2.1)&&decide (p.2.1<=4))<;>cases(decide (0<=p.2.2.1)&&decide (p.2.2.1<=1000000))<;>simp
def W7(m:Mm)(rv:Int)(p:Pb):Pb:=
 let w:=Xc m.2 (Xa p.1) (0,(0,0))
 bif p.2.1==0 then(bif w.2.2==0 then(bif decide (w.2.1<=rv)then(p.1,(1,(w.2.1,p.2.2.2)))else(p.1,(4,p.2.2)))else(p.1,(4,p.2.2)))
 else bif p.2.1==1 then(p.1,(2,(p.2.2.1,w.1)))
 else bif p.2.1==2 then(bif w.2.2==0 then(bif w.2.1==p.2.2.1 then(p.1,(3,p.2.2))else(p.1,(4,p.2.2)))else(p.1,(4,p.2.2)))
 else p
theorem Wzx{m:Mm}{p:Pb}(h:aq m=true)(a:gr p=true):inb p.1 m.2.length=true:=by
 grind [WP,gr,bY,inb]
theorem Gm{N:Nat}{m:Mm}{rv:Int}{p:Pb}(h:aq m=true)(a:gr p=true)(b:1048576<N):yD N m rv p=ret (W7 m rv p):=by
 have c:=(WP h).1;unfold yD W7;simp only[Ak (show m.2.length<=1048576 by omega) b,Woz,ret,Xd,h,a,Xr,Wc,Wzx h a,We];generalize Xc m.2 (Xa p.1) (0,(0,0))=w;cases p.2.1==0<;>cases p.2.1==1<;>cases p.2.1==2<;>cases w.2.2==0<;>cases decide (w.2.1<=rv)<;>cases w.2.1==p.2.2.1<;>rfl
def oz(l:List Rw)(c:Int):Nat->Option Int
 |0=>none
 |i+1=>if(Xc l i (0,0)).1=c then some (Xc l i (0,0)).2 else oz l c i
def bm(l:List Rw)(c:Int):Option Int:=if ed l=true then oz l c l.length else none
def opI(o:Option Int):Option (Unit×Kn):=match o with
 |none=>some ((),((0:Int),(false,())))
 |some v=>some ((),(v,(true,())))
theorem Pt{N:Nat}{l:List Rw}{c:Int}(g:l.length<=1048576):∀(i n:Nat),i<n->i<=l.length->CM N l c (λb=>(some ((),(b,(true,()))))) (λk j=>(some ((),((0:Int),(false,()))))) n ((i:Int) -1)=opI (oz l c i)
 |i,0,h,_=>by omega
 |0,n+1,h,_=>rfl
 |i+1,n+1,h,hi=>by
  have e:((i+1:Nat):Int) -1=(i:Int):=by omega
  have d:decide ((i:Int)>=0)=true:=by simp
  have f:W3 .i64 (i:Int) 1=(i:Int) -1:=dZ (by unfold I64;omega);rw[e,CM,d,Ws (show i<l.length by omega),f,oz,Xi];simp only[We];by_cases a:(Xc l i ((0:Int),(0:Int))).1=c
  .rw[Wb a,beq_iff_eq.2 a];rfl
  .rw[Wa a,beq_eq_false_iff_ne.2 a];exact Pt g i n (by omega) (by omega)
theorem HL{α:Type}{l:List α}(a:l.length<=1048576):W3 .i64 (Wh l) 1=((l.length:Nat):Int) -1:=by grind [Wh,dZ,I64]
theorem Lf{N:Nat}{l:List Rw}{c:Int}(a:l.length<=1048576)(b:1048576<N):vH N l c=opI (bm l c):=by
 unfold vH bm;simp only[DG a b,ret,Xd];cases ed l
 .rfl
 .simp only[Xr,Wc,ep,HL a];exact Pt a l.length N (by omega) (Xl _)
end
section
def Ho(l o:List Rw)(c:Nat):List Rw:=match bm l c with
 |none=>o
 |some v=>o++ [((c:Int),v)]
def qm(l:List Rw):Nat->Nat->List Rw->List Rw
 |0,_,o=>o
 |j+1,c,o=>qm l j (c+1) (Ho l o c)
def al(l:List Rw):List Rw:=qm l 8 0 []
theorem LF{N:Nat}{l:List Rw}(b:l.length<=1048576)(a:1048576<N):∀(j n c:Nat) (o:List Rw),c+j=8->j<n->o.length<=c->za N l (λf g d=>(some ((),(d,())))) n (c:Int) o=ret (qm l j c o)
 |j,0,c,o,_,h,_=>by omega
 |0,n+1,c,o,h,_,_=>by
  have:c=8:=by omega
  subst this;rfl
 |j+1,n+1,c,o,h,i,ho=>by
  have e:decide ((c:Int)<8)=true:=by simp;omega
  rw[za,e,Lf b a,Wk (by omega),qm,Ho];simp only[We];rcases bm l c with _|v
  .exact LF b a j n (c+1) o (by omega) (by omega) (by omega)
  .have er:WC (o.length+ [((c:Int),v)].length)=true:=Ww (by simp;omega);simp only[opI,Xd,We,er];exact LF b a j n (c+1) _ (by omega) (by omega) (by simp;omega)
theorem QV{l:List Rw}(h:ed l=false):∀(j c:Nat) (o:List Rw),qm l j c o=o
 |0,_,_=>rfl
 |j+1,c,o=>by
  have e:bm l c=none:=by grind [bm]
  rw[qm,Ho,e];exact QV h j (c+1) o
theorem Gh{N:Nat}{l:List Rw}(b:l.length<=1048576)(a:1048576<N):px N l=ret (al l):=by
 unfold px;simp only[DG b a,ret,Xd];cases h:ed l
 .grind [al,QV]
 .exact LF b a 8 N 0 [] rfl (by omega) (by simp)
def fnd{α:Type}(p:α->Bool):List α->Nat->Option (Nat×α)
 | [],_=>none
 |x::l,j=>bif p x then some (j,x)else fnd p l (j+1)
theorem GD{α V R:Type}{body:Int->α->V->(V->Option R)->Option R}{K:Int->V->Option R}{p:α->Bool}{E:Int->α->Option R}:∀(l:List α) (j:Nat) (v:V),(∀(j:Nat) x v k,x∈l->body j x v k=bif p x then E j x else k v)->
  d5 body K l j v=match fnd p l j with|some r=>E r.1 r.2|none=>K ((j+l.length:Nat):Int) v
 | [],j,v,_=>rfl
 |x::l,j,v,h=>by
  rw[d5,h j x v _ (Xg ..),fnd,GD l (j+1) v λj y v k a=>h j y v k (Xf _ a)]
  grind
theorem kT{α:Type}{p:α->Bool}:∀{l:List α} {j:Nat} {r:Nat×α},fnd p l j=some r->p r.2=true/\j<=r.1/\r.1<j+l.length/\l[r.1-j]?=some r.2
 | [],j,r,h=>by cases h
 |x::l,j,r,h=>by
  rw[fnd]at h;cases hp:p x
  .rw[hp]at h;obtain⟨a,b,c,d⟩:=kT (l:=l) h
   grind
  grind
theorem A9{α:Type}{p:α->Bool}:∀{l:List α} {j:Nat},fnd p l j=none->∀x∈l,p x=false
 | [],j,h=>by simp
 |x::l,j,h=>by
  rw[fnd]at h;cases hp:p x
  .rw[hp]at h;intro y a;rcases Xs.1 a with rfl|a
   .exact hp
   .exact A9 h y a
  simp_all
abbrev En:=Int×Int×Int
def ent(b:List En)(c:Int):Option (Nat×En):=fnd (λe=>e.1==c) b 0
theorem Lm{N:Nat}{f:Y_Family}{c:Int}(o:f.2.2.2.2.2.2.1.length<=1048576)(t:1048576<N):xZ N f c=ret (match ent f.2.2.2.2.2.2.1 c with|some r=>(r.1:Int)|none=>-1):=by
 unfold xZ;show((Zo N f.2.2.2.2.2.2.1 c).bind _)=_;generalize f.2.2.2.2.2.2.1=b at o;unfold Zo ent;have m:=WH (l:=b) (V:=Unit) (R:=Kk×Kk) (lp:=λn j v=>Zg N b (λg d=>(some ((d,()),(g,())))) (λq s h=>(some ((h,()),((-1:Int),())))) n j c) (n:=N) (by omega)
  (body:=λj x v k=>bif x.1==c then some ((c,()),(j,()))else k v) (K:=λ_ v=>some ((c,()),((-1:Int),())))
  (λn i v a=>by simp only[Zg,Ov,WQ a,Ws a,Wu a,Wk (show i<4611686018427387904 by omega),We,Xd])
  (λn v=>by simp[Zg,W6,Xl,Wc]) ()
 rw[m,GD (p:=λe=>e.1==c) (E:=λj x=>some ((c,()),(j,()))) b 0 () (λj x v k _=>rfl)];cases fnd (λe:En=>e.1==c) b 0<;>rfl
theorem nZ{N:Nat}{l:List Int}(h:l.length<=1048576):Zr N l=ret l:=by
 grind [Zr,Ww]
theorem AC{N:Nat}{l:List Rw}(h:l.length<=1048576):nw N l=ret l:=by
 grind [nw,Ww]
end
section
def K2(f:Y_Family)(k:Nat)(x:Y_KidRun):Y_Family:=U9 (Xk (Q9 f) k x) f
def again(f:Y_Family)(x:Y_KidRun):Y_KidRun:=(0,(0,(f.2.1,(x.2.2.2.1+1,(0,(0,(P4 f,([],([],([],(false,(0,(0,(0,0))))))))))))))
def ku(x:Y_KidRun)(c:Int):Pb:=bif P10 x then Q11 x else(c,(0,(0,0)))
def Ev(m:Mm)(f:Y_Family)(x:Y_KidRun)(o:Int×Int×Int×Int):Y_Family×Y_KidRun:=
 match bm (P8 x) o.2.2.1 with
 |some v=>(f,S6 (Xk (P6 x) (Xa o.2.1) v) (S1 (x.2.1+1) x))
 |none=>match ent (P6 f) o.2.2.1 with
  |some r=>bif decide (r.2.2.2>x.2.2.1)then(f,again f x)else(f,S7 (P7 x++ [r.2]) (S6 (Xk (P6 x) (Xa o.2.1) r.2.2.1) (S1 (x.2.1+1) x)))
  |none=>
   bif (W7 m f.1 (ku x o.2.2.1)).2.1==4 then(S3 true f,U11 (W7 m f.1 (ku x o.2.2.1)) (S10 true x))else
   bif (W7 m f.1 (ku x o.2.2.1)).2.1==3 then(f,U14 0 (S13 0 (S12 0 (S11 0 (S10 false (S7 (P7 x++ [(o.2.2.1,((W7 m f.1 (ku x o.2.2.1)).2.2.2,-1))]) (S6 (Xk (P6 x) (Xa o.2.1) (W7 m f.1 (ku x o.2.2.1)).2.2.2) (S1 (x.2.1+1) x))))))))else
   (f,U11 (W7 m f.1 (ku x o.2.2.1)) (S10 true x))
structure ReadOk(m:Mm)(f:Y_Family)(x:Y_KidRun)(o:Int×Int×Int×Int):Prop where
 mem:aq m=true
 ξ:(P6 x).length=4
 famr:(P4 f).length=4
 rA:0<=o.2.1/\o.2.1<=3
 cB:bY o.2.2.1=true
 C1:(P7 x).length<=1000
 wr:(P8 x).length<=1000
 buf:(P6 f).length<=1000
 ver:∀e∈P6 f,0<=e.2.2
 C5:0<=x.2.2.1
 pc:0<=x.2.1/\x.2.1<=1000
 CY:0<=x.2.2.2.1/\x.2.2.2.1<=100000
 pb:P10 x=true->gr (Q11 x)=true
theorem ReadOk.pbO{m:Mm}{f:Y_Family}{x:Y_KidRun}{o:Int×Int×Int×Int}(h:ReadOk m f x o):gr (ku x o.2.2.1)=true:=by
 unfold ku;cases hb:P10 x
 .have:=h.cB
  grind [gr,cD]
 .exact h.pb hb
theorem WvG{x:Y_KidRun}(h:P10 x=true):S10 true x=x:=by rw[←h];rfl
theorem eT{a:Int}(h:0<=a/\a<=1000000):Wm .i64 a 1=a+1:=WE (by unfold I64;omega)
theorem rgI{r:List Int}{a:Int}(h:r.length=4)(b:0<=a/\a<=3):inb a r.length=true:=by grind [inb]
theorem OV{N:Nat}{f:Y_Family}{k:Nat}{x:Y_KidRun}(e:k<(Q9 f).length)(h:(P4 f).length=4)(g:0<=x.2.2.2.1/\x.2.2.2.1<=100000):
  uA N (U9 (Xk (Q9 f) k x) f) (k:Int)=some ((K2 f k (again f x),()),()):=by
 have a:Zr N (P4 (U9 (Xk (Q9 f) k x) f))=ret (P4 f):=nZ (show(P4 f).length<=1048576 by omega);have b:Q9 (U9 (Xk (Q9 f) k x) f)=Xk (Q9 f) k x:=rfl;have d:k<(Xk (Q9 f) k x).length:=by simp_all
 unfold uA;rw[a,b];have c:Xc (Xk (Q9 f) k x) (Xa (k:Int)) d_KidRun=x:=by simp_all
 rw[c,Ws d,eT (by omega),Xi];simp only[We,ret,Xd,nv];rfl
theorem Wou{N:Nat}{m:Mm}{f:Y_Family}{k:Nat}{o:Int×Int×Int×Int}(d:k<(Q9 f).length)(h:ReadOk m f (Q9 f)[k] o)(a:1048576<N):
  Iq N f (k:Int) o m=some ((K2 (Ev m f (Q9 f)[k] o).1 k (Ev m f (Q9 f)[k] o).2,()),()):=by
 generalize p:(Q9 f)[k]=x at h;have u:=h.wr;have t:=h.C1;have s:=h.buf;have c:=h.ξ;have i:Xc (Q9 f) (Xa (k:Int)) d_KidRun=x:=by rw[Wu d,p]
 unfold Iq Ev;simp only[Wz];rw[Ws d,i,Xi,Lf (show(P8 x).length<=1048576 by omega) a,eT (by have:=h.pc;omega)];rcases bm (P8 x) o.2.2.1 with _|v
 .simp only[opI,Xd,Wc,We];have j:xZ N (U9 (Xk (Q9 f) k x) f) o.2.2.1=ret (match ent (P6 f) o.2.2.1 with|some r=>(r.1:Int)|none=>-1):=Lm (f:=U9 (Xk (Q9 f) k x) f) (show(P6 f).length<=1048576 by omega) a;rw[j,OV d h.famr h.CY];rcases he:ent (P6 f) o.2.2.1 with _|r
  .simp only[ret,Xd,show decide ((-1:Int)>=0)=false from rfl,Wc];have b:=h.pbO;cases hc:P10 x
   .have dK:ku x o.2.2.1=(o.2.2.1,(0,(0,0))):=by grind [ku]
    have n:yR N o.2.2.1=some ((),((o.2.2.1,(0,(0,0))),(true,()))):=by
     unfold yR;simp only[pC,ret,Xd,h.cB,Xr,Wc]
    rw[dK]at b⊢;simp only[Bool.not_false,We,n,Gm h.mem b a,ret,Xd,rgI c h.rA];generalize W7 m f.1 (o.2.2.1,(0,(0,0)))=q;rw[Ww (by simp;omega)];cases q.2.1==4<;>cases q.2.1==3<;>rfl
   .have dK:ku x o.2.2.1=Q11 x:=by grind [ku]
    rw[dK]at b⊢;simp only[Xr,Wc,Gm h.mem b a,ret,Xd,rgI c h.rA,We];generalize W7 m f.1 (Q11 x)=q;rw[Ww (by simp;omega),WvG hc];cases q.2.1==4<;>cases q.2.1==3<;>rfl
  .have hm:=kT he;have e:r.1<(P6 f).length:=by omega
   have l:(P6 f)[r.1]=r.2:=by
    simp_all
   have g:decide (((r.1:Nat):Int)>=0)=true:=by simp
   simp only[ret,Xd,g,We,Ws e,rgI c h.rA];rw[Wu e,l,Ww (by simp;omega)];cases decide (r.2.2.2>x.2.2.1)<;>rfl
 .simp only[opI,Xd,We,rgI c h.rA];rfl
end
section
abbrev Opn:=Int×Int×Int×Int
def aD(v:Int):Bool:=decide (0<=v)&&decide (v<=3)
def gj(v:Int):Bool:=decide (0<=v)&&decide (v<=7)
theorem WpJ{N:Nat}{v:Int}:lE N v=ret (aD v):=by
 unfold lE;simp only[ls,ret,Xd];rfl
theorem Wpc{N:Nat}{v:Int}:lF N v=ret (aD v):=by
 unfold lF;simp only[fI,ret,Xd];rfl
theorem Wo2{N:Nat}{v:Int}:jT N v=ret (gj v):=by
 unfold jT;simp only[fI,ret,Xd];rfl
def ax(o:Opn):Bool:=
 bif o.1==1 then aD o.2.1&&cD o.2.2.1&&(o.2.2.2==(0:Int))else
 bif o.1==2 then aD o.2.1&&aD o.2.2.1&&aD o.2.2.2 else
 bif o.1==3 then aD o.2.1&&aD o.2.2.1&&aD o.2.2.2 else
 bif o.1==4 then aD o.2.1&&aD o.2.2.1&&aD o.2.2.2 else
 bif o.1==5 then aD o.2.1&&bY o.2.2.1&&(o.2.2.2==(0:Int))else
 bif o.1==6 then bY o.2.1&&aD o.2.2.1&&(o.2.2.2==(0:Int))else
 bif o.1==7 then aD o.2.1&&(decide (1<=o.2.2.1)&&decide (o.2.2.1<=20))&&(o.2.2.2==(0:Int))else
 bif o.1==8 then aD o.2.1&&(o.2.2.1==(0:Int))&&(o.2.2.2==(0:Int))else
 bif o.1==9 then(o.2.1==(0:Int))&&(o.2.2.1==(0:Int))&&(o.2.2.2==(0:Int))else
 bif o.1==10 then(o.2.1==(0:Int))&&(o.2.2.1==(0:Int))&&(o.2.2.2==(0:Int))else
 bif o.1==11 then(o.2.1==(0:Int))&&(o.2.2.1==(0:Int))&&(o.2.2.2==(0:Int))else
 bif o.1==12 then gj o.2.1&&aD o.2.2.1&&aD o.2.2.2 else
 bif o.1==13 then aD o.2.1&&gj o.2.2.1&&(o.2.2.2==(0:Int))else
 bif o.1==14 then gj o.2.1&&aD o.2.2.1&&(o.2.2.2==(0:Int))else
 bif o.1==15 then aD o.2.1&&(o.2.2.1==(0:Int))&&(o.2.2.2==(0:Int))else
 bif o.1==16 then aD o.2.1&&(o.2.2.1==(0:Int))&&(o.2.2.2==(0:Int))else
 false
abbrev Bo:=Option Kg
def oA(p k:Bo):Bo:=p.bind λo=>bif o.2.1 then k else some ((),(false,()))
def oB(p:Bo):Bo:=p.bind λo=>some ((),(o.2.1,()))
theorem o3{T P Q R:Bo}{p q r:Bool}(h:T=oA P (oA Q (oB R)))(a:P=ret p)(b:Q=ret q)(c:R=ret r):T=ret (p&&q&&r):=by
 rw[h,a,b,c];cases p<;>cases q<;>rfl
theorem z0(v:Int):(ret (v==(0:Int)):Bo)=ret (v==(0:Int)):=rfl
theorem sR(N:Nat)(v:Int):lE N v=ret (aD v):=WpJ
theorem sV(N:Nat)(v:Int):pw N v=ret (cD v):=Av
theorem sC(N:Nat)(v:Int):pp N v=ret (bY v):=PH
theorem sK(N:Nat)(v:Int):fH N v 0 7=ret (gj v):=ls
theorem sI(N:Nat)(v:Int):fH N v 1 20=ret (decide (1<=v)&&decide (v<=20)):=ls
theorem iR(N:Nat)(v:Int):lF N v=ret (aD v):=Wpc
theorem iV(N:Nat)(v:Int):jS N v=ret (cD v):=mE
theorem iC(N:Nat)(v:Int):lD N v=ret (bY v):=pC
theorem iK(N:Nat)(v:Int):jT N v=ret (gj v):=Wo2
theorem iI(N:Nat)(v:Int):Zn N v 1 20=ret (decide (1<=v)&&decide (v<=20)):=fI
def kds:List Int:=[1,2,3,4,5,6,7,8,9,10,11,12,13,14,15,16]
theorem Vx{P:Int->Prop}(j:P 1)(l:P 2)(m:P 3)(n:P 4)(o:P 5)(p:P 6)(q:P 7)(r:P 8)(s:P 9)(f:P 10)(g:P 11)(d:P 12)(u:P 13)(v:P 14)(b:P 15)(t:P 16)
  (a:∀k,(∀i,i∈kds->(k==i)=false)->P k) (k:Int):P k:=by
 by_cases h:k∈kds
 .simp only[kds,Xs,List.not_mem_nil,or_false]at h;rcases h with h|h|h|h|h|h|h|h|h|h|h|h|h|h|h|h<;>rw[h]<;>assumption
 .exact a k λi c=>by
   rw[beq_eq_false_iff_ne];intro e;exact h (e▸c)
theorem vQ{N:Nat}{o:Opn}:Af N o=ret (ax o):=by
 obtain⟨k,a,b,c⟩:=o;exact Vx (P:=λk=>Af N (k,a,b,c)=ret (ax (k,a,b,c)))
  (o3 (by kernel_rfl) (sR N a) (sV N b) (z0 c))
  (o3 (by kernel_rfl) (sR N a) (sR N b) (sR N c))
  (o3 (by kernel_rfl) (sR N a) (sR N b) (sR N c))
  (o3 (by kernel_rfl) (sR N a) (sR N b) (sR N c))
  (o3 (by kernel_rfl) (sR N a) (sC N b) (z0 c))
  (o3 (by kernel_rfl) (sC N a) (sR N b) (z0 c))
  (o3 (by kernel_rfl) (sR N a) (sI N b) (z0 c))
  (o3 (by kernel_rfl) (sR N a) (z0 b) (z0 c))
  (o3 (by kernel_rfl) (z0 a) (z0 b) (z0 c))
  (o3 (by kernel_rfl) (z0 a) (z0 b) (z0 c))
  (o3 (by kernel_rfl) (z0 a) (z0 b) (z0 c))
  (o3 (by kernel_rfl) (sK N a) (sR N b) (sR N c))
  (o3 (by kernel_rfl) (sR N a) (sK N b) (z0 c))
  (o3 (by kernel_rfl) (sK N a) (sR N b) (z0 c))
  (o3 (by kernel_rfl) (sR N a) (z0 b) (z0 c))
  (o3 (by kernel_rfl) (sR N a) (z0 b) (z0 c))
  (λk e=>by unfold Af ax;simp(disch:=decide) only[e,Wc,Wz]) k
theorem Gr{N:Nat}{o:Opn}:vE N o=ret (ax o):=by
 obtain⟨k,a,b,c⟩:=o;exact Vx (P:=λk=>vE N (k,a,b,c)=ret (ax (k,a,b,c)))
  (o3 (by kernel_rfl) (iR N a) (iV N b) (z0 c))
  (o3 (by kernel_rfl) (iR N a) (iR N b) (iR N c))
  (o3 (by kernel_rfl) (iR N a) (iR N b) (iR N c))
  (o3 (by kernel_rfl) (iR N a) (iR N b) (iR N c))
  (o3 (by kernel_rfl) (iR N a) (iC N b) (z0 c))
  (o3 (by kernel_rfl) (iC N a) (iR N b) (z0 c))
  (o3 (by kernel_rfl) (iR N a) (iI N b) (z0 c))
  (o3 (by kernel_rfl) (iR N a) (z0 b) (z0 c))
  (o3 (by kernel_rfl) (z0 a) (z0 b) (z0 c))
  (o3 (by kernel_rfl) (z0 a) (z0 b) (z0 c))
  (o3 (by kernel_rfl) (z0 a) (z0 b) (z0 c))
  (o3 (by kernel_rfl) (iK N a) (iR N b) (iR N c))
  (o3 (by kernel_rfl) (iR N a) (iK N b) (z0 c))
  (o3 (by kernel_rfl) (iK N a) (iR N b) (z0 c))
  (o3 (by kernel_rfl) (iR N a) (z0 b) (z0 c))
  (o3 (by kernel_rfl) (iR N a) (z0 b) (z0 c))
  (λk e=>by unfold vE ax;simp(disch:=decide) only[e,Wc,Wz]) k
end
section
def jp{α:Type}(p:Nat->α->Bool):Nat->List α->Bool
 |_,[]=>false
 |j,x::l=>p j x||jp p (j+1) l
theorem DK{α V R:Type}{body:Int->α->V->(V->Option R)->Option R}{K:Int->V->Option R}{p:Nat->α->Bool}{E:V->Option R}:∀(l:List α) (j:Nat) (v:V),(∀(j:Nat) x v k,x∈l->body j x v k=bif p j x then E v else k v)->
  d5 body K l j v=bif jp p j l then E v else K ((j+l.length:Nat):Int) v
 | [],j,v,_=>rfl
 |x::l,j,v,h=>by
  rw[d5,h j x v _ (Xg ..),DK l (j+1) v λj y v k a=>h j y v k (Xf _ a),jp]
  grind
theorem A3{α:Type}{p:Nat->α->Bool}:∀{l:List α} {j:Nat},jp p j l=true↔∃i,∃h:i<l.length,p (j+i) l[i]=true
 | [],j=>by simp[jp]
 |x::l,j=>by
  rw[jp,xU,A3];constructor
  .rintro(h|⟨i,a,h⟩)
   .exact⟨0,by simp,by grind⟩
   .exact⟨i+1,by simp_all,by grind⟩
  grind
def opd(o:Opn):Int:=bif o.1==8 then 1 else bif o.1==9 then-1 else 0
theorem xC(o:Opn):-1<=opd o/\opd o<=1:=by unfold opd;cases o.1==8<;>cases o.1==9<;>simp
def dep(l:List Opn)(j:Nat):Int:=((l.take j).map opd).sum
theorem rm(l:List Opn):dep l 0=0:=by simp[dep]
theorem gD{l:List Opn}{j:Nat}(h:j<l.length):dep l (j+1)=dep l j+opd l[j]:=by
 grind [dep,l6]
theorem Wn{α:Type}{l:List α}{j:Nat}(h:j<l.length)(d:α):Xc l j d=l[j]:=by simp[h]
theorem gJ(l:List Opn):∀j:Nat,-(j:Int)<=dep l j/\dep l j<=j
 |0=>by simp[dep]
 |j+1=>by
  have a:=gJ l j;by_cases h:j<l.length
  .have:=xC l[j]
   grind [gD]
  grind [dep,List.take_of_length_le]
def bal(l:List Opn):Bool:=!jp (λj _=>decide (dep l (j+1)<0)) 0 l&&decide (dep l l.length=0)
theorem GL{N:Nat}{o:Opn}:Dy N o=ret (opd o):=by
 unfold Dy opd;cases o.1==8<;>cases o.1==9<;>rfl
theorem FQ(x:Int):(x==(0:Int))=decide (x=0):=by by_cases h:x=0<;>simp[h]
theorem PQ{N:Nat}{l:List Opn}(q:l.length<=1048576)(m:1048576<N):yd N l=ret (bal l):=by
 unfold yd bal;have b:=WH (l:=l) (V:=Unit) (R:=Unit×Ks) (lp:=λn j _=>x8 N l (some ((),(false,()))) (λf g h=>some ((),(f==(0:Int),()))) n (dep l j.toNat) j) (n:=N) (by omega)
  (body:=λj _ v k=>bif decide (dep l (j.toNat+1)<0)then some ((),(false,()))else k v) (K:=λj _=>some ((),(dep l j.toNat==(0:Int),())))
  (λn i v a=>by
   have o:=gJ l i;have d:=gD a;have r:=xC l[i];have e:Wm .i64 (dep l i) (opd l[i])=dep l (i+1):=by rw[WE (by unfold I64;omega),d]
   simp only[x8,WQ a,Ws a,Wu a,Wn a,Wk (show i<4611686018427387904 by omega),We,GL,ret,Xd,Xi,e])
  (λn v=>by simp[x8,W6,Xl,Wc]) ()
 have c:dep l (Xa 0)=0:=rm l;simp only[c]at b;refine b.trans ?_;rw[DK (p:=λj _=>decide (dep l (j+1)<0)) (E:=λ_=>some ((),(false,()))) l 0 () (λj x v k _=>rfl)];rw[dj,Xi,FQ];cases jp (λj _=>decide (dep l (j+1)<0)) 0 l<;>rfl
theorem Wl0{N:Nat}{l:List Opn}(o:l.length<=1048576)(h:1048576<N){i:Nat}(hi:i<=l.length):De N l (i:Int)=ret (dep l i):=by
 unfold De;have b:=WH (l:=l) (V:=Unit) (R:=Unit×Kk) (lp:=λn j _=>uI N (i:Int) l (λd e g=>some ((),(d,()))) n (dep l (min j.toNat i)) j) (n:=N) (by omega)
  (body:=λj _ v k=>k v) (K:=λj _=>some ((),(dep l (min j.toNat i),())))
  (λn j v a=>by
   have m:=gJ l j;have p:=xC l[j];simp only[uI,WQ a,Ws a,Wu a,Wn a,Wk (show j<4611686018427387904 by omega),We,GL,ret,Xd,Xi]
   grind [decide,min,Wm,dep,opd,WE,I64,gD])
  (λn v=>by simp[uI,W6,Xl,Wc]) ()
 have c:dep l (min (Xa 0) i)=0:=by
  simp[min,Xa,rm]
 simp only[c]at b;refine b.trans ?_;rw[vR (f:=λv _=>v) l 0 () (λj x v k _=>rfl),dj,Xi,Nat.min_eq_right hi]
theorem WoZ{N:Nat}{l:List Opn}{a b:Nat}(z:a<=b)(B:b<=l.length)(C:l.length<=1048576)(A:1048576<N):
  ny N l (b:Int) (some ((),(false,()))) (λe m h=>some ((),(e==(0:Int),()))) N 0 (a:Int)=ret (bal ((l.take b).drop a)):=by
 have w:((l.take b).drop a).length=b-a:=by simp;omega
 unfold bal;have f:=WH (l:=(l.take b).drop a) (V:=Unit) (R:=Unit×Ks) (lp:=λn j _=>ny N l (b:Int) (some ((),(false,()))) (λe m h=>some ((),(e==(0:Int),()))) n (dep ((l.take b).drop a) j.toNat) ((a+j.toNat:Nat):Int)) (n:=N) (by omega)
  (body:=λj _ v k=>bif decide (dep ((l.take b).drop a) (j.toNat+1)<0)then some ((),(false,()))else k v) (K:=λj _=>some ((),(dep ((l.take b).drop a) j.toNat==(0:Int),())))
  (λn i v u=>by
   have y:=gJ ((l.take b).drop a) i;have g:=gD u;have t:((l.take b).drop a)[i]=l[a+i]:=by simp
   rw[t]at g;have d:a+i<l.length:=by omega
   have c:decide (((a+i:Nat):Int)<(b:Int))=true:=by simp;omega
   have q:Wm .i64 ((a+i:Nat):Int) 1=((a+(i+1):Nat):Int):=by grind [WE,I64]
   have r:Wm .i64 (dep ((l.take b).drop a) i) 1=dep ((l.take b).drop a) i+1:=WE (by unfold I64;omega);have s:W3 .i64 (dep ((l.take b).drop a) i) 1=dep ((l.take b).drop a) i+ -1:=by grind [dZ,I64]
   simp only[ny,c,Ws d,Wu d,Wn d,q,r,s,We,Xi];unfold opd at g
   grind)
  (λn v=>by
   have c:decide (((a+(((l.take b).drop a).length:Int).toNat:Nat):Int)<(b:Int))=false:=by simp_all
   simp only[ny,c,Wc]) ()
 have o:dep ((l.take b).drop a) (Xa 0)=0:=rm _;simp only[o]at f;refine f.trans ?_;rw[DK (p:=λj _=>decide (dep ((l.take b).drop a) (j+1)<0)) (E:=λ_=>some ((),(false,()))) _ 0 () (λj x v k _=>rfl)];rw[dj,Xi,FQ];cases jp (λj _=>decide (dep ((l.take b).drop a) (j+1)<0)) 0 ((l.take b).drop a)<;>rfl
def qg(l:List Opn)(i:Nat)(o:Opn):Bool:=decide (i+1+o.2.2.1.toNat<=l.length)&&bal ((l.take (i+1+o.2.2.1.toNat)).drop (i+1))
def frk(l:List Opn)(j:Nat):Nat:=(l.take j).countP λo=>o.1==11
theorem Bk{l:List Opn}{j:Nat}(h:j<l.length):frk l (j+1)=frk l j+(l[j].1==11).toNat:=by
 unfold frk;rw[l6 h,List.countP_append,List.countP_singleton];cases l[j].1==11<;>rfl
theorem UM(l:List Opn)(j:Nat):frk l j<=l.length:=jR V2 (by simp;omega)
def tl(l:List Opn)(i:Nat)(o:Opn):Bool:=
 !ax o||((o.1==7)&& !qg l i o)||((o.1==11)&&(decide (dep l i>0)||decide (frk l (i+1)>1)))||decide (dep l (i+1)<0)
def io(l:List Opn)(i:Nat)(o:Opn):Bool:=
 !ax o||((o.1==7)&& !qg l i o)||((o.1==11)&&(decide (frk l (i+1)>1)|| !decide (dep l i=0)))
def kt(l:List Opn):Bool:=decide (l.length<=24)&&(bal l&& !jp (io l) 0 l)
theorem R2{l:List Opn}{i:Nat}{o:Opn}(f:l.length<=24)(hi:i<l.length)(e:ax o=true)(d:o.1=7):
  Wm .i64 ((i+1:Nat):Int) o.2.2.1=((i+1+o.2.2.1.toNat:Nat):Int)/\1<=o.2.2.1/\o.2.2.1<=20:=by
 obtain⟨k,a,b,c⟩:=o;simp only at d;subst d;have:(aD a&&(decide (1<=b)&&decide (b<=20))&&(c==(0:Int)))=true:=e;simp only[Xj,Wg]at this
 grind [WE,I64]
theorem Wm3{N:Nat}{l:List Opn}{i:Nat}(d:l.length<=24)(c:1048576<N)(hi:i<l.length)(f:ax l[i]=true)(b:l[i].1=7):Dl N l (i:Int)=ret (qg l i l[i]):=by
 obtain⟨a,g,j⟩:=R2 d hi f b;unfold Dl qg;simp only[Ws hi,We,Wu hi,Wn hi,a,Wk (show i<4611686018427387904 by omega)];by_cases h:i+1+l[i].2.2.1.toNat<=l.length
 .have e:decide (((i+1+l[i].2.2.1.toNat:Nat):Int)>Wh l)=false:=by simp[Wh];omega
  rw[e];simp only[Wc];rw[WoZ (by omega) h (by omega) c];simp[h]
 grind [decide,Wh]
theorem HD{l:List Opn}:bal l=true↔(∀i,i<l.length->0<=dep l (i+1))/\dep l l.length=0:=by
 unfold bal;rw[Xj,fg,←Oh,A3,Wg];simp_all
theorem WnT(l:List Opn):(!jp (tl l) 0 l&&decide (dep l l.length=0))=(bal l&& !jp (io l) 0 l):=by
 rw[Bool.eq_iff_iff,Xj,Xj,fg,fg,←Oh,←Oh,A3,A3,HD,Wg];constructor
 .rintro⟨b,c⟩;have d:∀i,i<l.length->0<=dep l (i+1):=λi a=>by
   grind [dep,absurd,tl]
  refine⟨⟨d,c⟩,?_⟩;rintro⟨i,a,h⟩;refine b ⟨i,a,?_⟩;have e:0<=dep l i:=by
   cases i with
   |zero=>rw[rm];omega
   |succ i=>grind
  rw[dj]at h⊢;unfold io at h;unfold tl
  grind
 simp_all [dj,tl,io,xU,Xj,Wg,fg,Wy]
theorem Pf{N:Nat}{l:List Opn}(C:l.length<=1048576)(y:1048576<N):zz N l=ret (kt l):=by
 unfold zz kt;by_cases h:l.length<=24
 .have e:decide (Wh l>24)=false:=by simp[Wh];omega
  rw[e];simp only[Wc];have d:=WH (l:=l) (V:=Unit) (R:=Unit×Ks) (lp:=λn j _=>nz N l (some ((),(false,()))) (λz F G A=>some ((),(z==(0:Int),()))) n (dep l j.toNat) ((frk l j.toNat:Nat):Int) j) (n:=N) (by omega)
   (body:=λj x v k=>bif tl l j.toNat x then some ((),(false,()))else k v) (K:=λj _=>some ((),(dep l j.toNat==(0:Int),())))
   (λn i v a=>by
    have B:=gJ l i;have c:=gD a;have f:=Bk a;have D:=UM l i;have r:Wm .i64 (dep l i) 1=dep l i+1:=WE (by unfold I64;omega);have s:W3 .i64 (dep l i) 1=dep l i+ -1:=by grind [dZ,I64]
    have t:Wm .i64 ((frk l i:Nat):Int) 1=((frk l i+1:Nat):Int):=by grind [WE,I64]
    simp only[nz,WQ a,Ws a,Wu a,Wn a,Wk (show i<4611686018427387904 by omega),We,Xi,vQ,ret,Xd,r,s,t];unfold tl;cases ho:ax l[i]with
    |false=>rfl
    |true=>
     unfold opd at c;simp only[Xr,Wc,Io];by_cases u:l[i].1=8
     .simp_all
     .have b8:(l[i].1==8)=false:=by simp[u]
      by_cases w:l[i].1=9
      .simp_all
      .have b9:(l[i].1==9)=false:=by simp[w]
       by_cases b:l[i].1=7
       .have b7:(l[i].1==7)=true:=by simp[b]
        have m:(l[i].1==11)=false:=by simp[b]
        have g:=Wm3 h y a ho b;simp only[b8,b9,b7,m,We,Wc,Og,eL,In,oX,Bool.or_false,Int.add_zero,g,ret,Xd]at c f⊢;simp only[c,f];cases qg l i l[i]<;>rfl
       grind)
   (λn v=>by simp[nz,W6,Xl,Wc]) ()
  have o:dep l (Xa 0)=0:=rm l;have q:((frk l (Xa 0):Nat):Int)=0:=by simp[frk]
  simp only[o,q]at d;refine d.trans ?_;rw[DK (p:=tl l) (E:=λ_=>some ((),(false,()))) l 0 () (λj x v k _=>by rw[Xi])];rw[dj,Xi,FQ,←WnT];simp only[h,decide_true,oX];cases jp (tl l) 0 l<;>rfl
 grind [decide,Wh]
theorem PE{N:Nat}{l:List Opn}(o:l.length<=1048576)(g:1048576<N):pq N l=ret (kt l):=by
 unfold pq kt;by_cases h:l.length<=24
 .have e:decide (Wh l>24)=false:=by simp[Wh];omega
  rw[e];simp only[Wc,PQ o g,ret,Xd,h,decide_true,oX];cases uH:bal l with
  |false=>rfl
  |true=>
   simp only[Xr,Wc,oX];have f:=WH (l:=l) (V:=Unit) (R:=Unit×Ks) (lp:=λn j _=>qO N l (some ((),(false,()))) (λC D y=>some ((),(true,()))) n ((frk l j.toNat:Nat):Int) j) (n:=N) (by omega)
    (body:=λj x v k=>bif io l j.toNat x then some ((),(false,()))else k v) (K:=λj _=>some ((),(true,())))
    (λn i v a=>by
     have c:=Bk a;have B:=UM l i;have s:Wm .i64 ((frk l i:Nat):Int) 1=((frk l i+1:Nat):Int):=by grind [WE,I64]
     simp only[qO,WQ a,Ws a,Wu a,Wn a,We,Xi,Gr,ret,Xd,s];unfold io;cases ho:ax l[i]with
     |false=>rfl
     |true=>
      simp only[Xr,Wc,Io];by_cases d:l[i].1=7
      .have b7:(l[i].1==7)=true:=by simp[d]
       have b:(l[i].1==11)=false:=by simp[d]
       obtain⟨u,f,z⟩:=R2 h a ho d;simp only[b7,b,We,u,Wk (show i<4611686018427387904 by omega),Og,eL,In,oX,Bool.or_false]at c⊢;simp only[c];unfold qg;by_cases A:i+1+l[i].2.2.1.toNat<=l.length
       .have q1:decide (((i+1+l[i].2.2.1.toNat:Nat):Int)>Wh l)=false:=by simp[Wh];omega
        have w:(((decide ((0:Int)<=((i+1+l[i].2.2.1.toNat:Nat):Int)))&&(decide (((i+1+l[i].2.2.1.toNat:Nat):Int)<=((Xb l):Int))))&&(decide ((0:Int)<=((i+1:Nat):Int)))&&(decide (((i+1:Nat):Int)<=((i+1+l[i].2.2.1.toNat:Nat):Int))))=true:=by simp;omega
        rw[q1,w];simp only[Wc,We,Xi];rw[PQ (by simp;omega) g];simp_all
       grind [decide,Wh]
      .have b7:(l[i].1==7)=false:=by simp[d]
       by_cases m:l[i].1=11
       .have b:(l[i].1==11)=true:=by simp[m]
        simp only[b7,b,We,Wc,Bool.toNat_true,In,oX,Io,Wl0 o g (Nat.le_of_lt a),ret,Xd,Wk (show i<4611686018427387904 by omega)]at c⊢;simp only[c];have t:decide (((frk l i+1:Nat):Int)>1)=decide (frk l i+1>1):=by grind
        have q:(dep l i !=0)= !decide (dep l i=0):=by rw[bne,FQ]
        rw[t,q];cases decide (frk l i+1>1)<;>cases decide (dep l i=0)<;>rfl
       .have b:(l[i].1==11)=false:=by simp[m]
        simp only[b7,b,We,Wc,Og,eL,In,Io,Wk (show i<4611686018427387904 by omega)]at c⊢;simp_all)
    (λn v=>by simp[qO,W6,Xl,Wc]) ()
   have r:((frk l (Xa 0):Nat):Int)=0:=by simp[frk]
   simp only[r]at f;refine f.trans ?_;rw[DK (p:=io l) (E:=λ_=>some ((),(false,()))) l 0 () (λj x v k _=>by rw[Xi])];cases jp (io l) 0 l<;>rfl
 grind [decide,Wh]
end
section
def stk(l:List Opn):Nat->List Nat
 |0=>[]
 |j+1=>bif (l.getD j (0,0,0,0)).1==8 then stk l j++ [j]else bif (l.getD j (0,0,0,0)).1==9 then(stk l j).dropLast else stk l j
theorem oJ{l:List Opn}{j:Nat}(h:j<l.length)(a:l[j].1=8):stk l (j+1)=stk l j++ [j]:=by
 grind [stk,Wn]
theorem qu{l:List Opn}{j:Nat}(h:j<l.length)(a:l[j].1=9):stk l (j+1)=(stk l j).dropLast:=by
 grind [stk,Wn]
theorem gO{l:List Opn}{j:Nat}(h:j<l.length)(a:l[j].1≠8)(b:l[j].1≠9):stk l (j+1)=stk l j:=by
 grind [stk,Wn]
theorem H4{o:Opn}(h:o.1=8):opd o=1:=by unfold opd;simp[h]
theorem qp{o:Opn}(h:o.1=9):opd o= -1:=by unfold opd;simp[h]
theorem H6{o:Opn}(a:o.1≠8)(b:o.1≠9):opd o=0:=by
 grind [opd]
theorem pH{α:Type}(l:List α):l= []\/∃q x,l=q++ [x]:=by
 rcases List.eq_nil_or_concat l with h|⟨q,x,h⟩
 .grind
 simp_all
def Up(l:List Opn):Prop:=∀i,i<l.length->0<=dep l (i+1)
theorem Up.at{l:List Opn}(h:Up l){j:Nat}(a:j<=l.length):0<=dep l j:=by
 cases j with
 |zero=>rw[rm];omega
 |succ j=>exact h j a
theorem fh{l:List Opn}(h:Up l):∀j,j<=l.length->((stk l j).length:Int)=dep l j
 |0,_=>by rw[rm];rfl
 |j+1,hj=>by
  have a:j<l.length:=hj;have d:=fh h j (by omega);have b:=gD a;have c:=h j a
  grind [oJ,H4,Xx,qu,qp,xT,gO,H6]
theorem Hb{l:List Opn}:∀(j:Nat),j<=l.length->∀(s t:List Nat) (m:Nat),stk l j=s++m::t->
  m<j/\(∃h:m<l.length,l[m].1=8)/\stk l m=s/\∀i,m<i->i<=j->∃t',stk l i=s++m::t'
 |0,_,s,t,m,h=>by simp[stk]at h
 |j+1,g,s,t,m,h=>by
  have b:j<l.length:=g;have n:=Hb (l:=l) j (by omega);have next:∀a,stk l j=s++m::a->m<j+1/\(∃h:m<l.length,l[m].1=8)/\stk l m=s/\∀i,m<i->i<=j+1->∃t',stk l i=s++m::t':=λa e=>by
   grind
  by_cases f:l[j].1=8
  .rw[oJ b f]at h;rcases pH t with rfl|⟨a,x,rfl⟩
   .obtain⟨c,d⟩:=N8 (h:stk l j++ [j]=s++ [m]) rfl
    grind [oJ]
   .have h2:stk l j++ [j]=(s++m::a)++ [x]:=by rw[h,lB,fG]
    obtain⟨c,d⟩:=N8 h2 rfl
    grind [stk,oJ]
  .by_cases h9:l[j].1=9
   .rw[qu b h9]at h;rcases pH (stk l j)with e|⟨q,x,k⟩
    .simp_all
    simp_all
   grind [gO]
theorem Mi{l:List Opn}{a b:Nat}(o:a<=b)(r:b<=l.length)(k:bal ((l.take b).drop a)=true):stk l b=stk l a:=by
 obtain⟨h,p⟩:=HD.1 k;have m:((l.take b).drop a).length=b-a:=by simp;omega
 have c:∀i,i<=b-a->∃t,stk l (a+i)=stk l a++t/\(t.length:Int)=dep ((l.take b).drop a) i:=by
  intro i
  induction i with
  |zero=>simp[rm]
  |succ i ih=>
   intro s;obtain⟨t,e,f⟩:=ih (by omega);have n:a+i<l.length:=by omega
   have d:i<((l.take b).drop a).length:=by omega
   have j:=gD d;have g:((l.take b).drop a)[i]=l[a+i]:=by simp
   rw[g]at j;have u:=h i d;by_cases q:l[a+i].1=8
   .grind [eK,oJ,H4,Xx]
   .by_cases h9:l[a+i].1=9
    .grind [qp,eK,qu,List.dropLast_append_of_ne_nil,xT]
    grind [eK,gO,H6]
 obtain⟨t,e,f⟩:=c (b-a) (Xl _);simp_all
structure Mate(l:List Opn)(m k:Nat):Prop where
 lt:m<k
 len:k<l.length
 eq:dep l (k+1)=dep l m
 ne:∀i,m<=i->i<k->dep l (i+1)≠dep l m
 st:stk l (k+1)=stk l m
theorem Uq{l:List Opn}(f:Up l)(L:dep l l.length=0){j m:Nat}{s:List Nat}(r:j<=l.length)(A:stk l j=s++ [m]):∃k,j<=k/\Mate l m k/\stk l m=s:=by
 obtain⟨a,⟨R,P⟩,c,d⟩:=Hb j r s [] m A;have G:=fh f m (by omega);have low:∀i,m<=i->i<j->dep l (i+1)≠dep l m:=λi p q=>by
  grind [fh]
 have J:=f.at (show m<=l.length by omega);have y:∀n i,l.length-i=n->j<=i->i<=l.length->(∀b,m<=b->b<i->dep l (b+1)≠dep l m)->dep l m<dep l i->∃k,j<=k/\k<l.length/\dep l (k+1)=dep l m/\∀b,m<=b->b<k->dep l (b+1)≠dep l m:=by
  intro n
  induction n with
  |zero=>grind
  |succ n ih=>
   intro i p q M N O;have o:i<l.length:=by omega
   by_cases Q:dep l (i+1)=dep l m
   .grind
   .have hd:=gD o;have S:=xC l[i]
    grind
 have F:dep l m<dep l j:=by
  grind [fh]
 obtain⟨k,C,v,D,E⟩:=y _ j rfl (Xl _) r low F;have B:m<k:=by omega
 have g:∀n i,i=m+1+n->i<=k->∃t,stk l i=s++m::t:=by
  intro n
  induction n with
  |zero=>grind
  |succ n ih=>
   intro i p q;obtain⟨t,u⟩:=ih (m+1+n) rfl (by omega);have e:i=(m+1+n)+1:=by omega
   have o:m+1+n<l.length:=by omega
   by_cases K:l[m+1+n].1=8
   .grind [oJ]
   .by_cases z:l[m+1+n].1=9
    .rcases pH t with rfl|⟨T,x,rfl⟩
     .grind [qu,stk,fh]
     grind [qu,E8]
    grind [gO]
 obtain⟨t,u⟩:=g (k-m-1) k (by omega) (Xl _);have h:=fh f k (by omega);have H:=gD v;rw[u]at h;rw[c]at G;simp at h;have I:=xC l[k];have z:l[k].1=9:=by
  grind [H4,H6]
 have w:t= []:=List.eq_nil_of_length_eq_zero (by omega);subst w;refine⟨k,C,⟨B,v,D,E,?_⟩,c⟩
 grind [qu]
theorem Mq{l:List Opn}{m i:Nat}:((dep l (i+1) -dep l m)==(0:Int))=decide (dep l (i+1)=dep l m):=by
 grind
theorem PS{N:Nat}{l:List Opn}{m k:Nat}(E:l.length<=1048576)(C:1048576<N)(d:∃h:m<l.length,l[m].1=8)(b:Mate l m k):zs N l (m:Int)=ret (k:Int):=by
 obtain⟨j,d⟩:=d;unfold zs;have q:W3 .i64 (Wh l) 1=(l.length:Int) -1:=dZ (by unfold I64 Wh;omega);have r:(decide (0<=(m:Int))&&decide ((m:Int)<=(l.length:Int) -1))=true:=by simp;omega
 have s:(l[m].1 !=8)=false:=by simp[d]
 simp only[fI,ret,Xd,q,r,Xr,Wc,Ws j,We,Wu j,s];have f:∀(c n i:Nat),k-i=c->m<=i->i<=k->l.length-i<n->∀{R:Type} (K0:Int->Option R) (K1:Int->Int->Bool->Option R),yF N l K0 K1 n (dep l i-dep l m) (i:Int)=K0 k:=by
  intro c
  induction c with
  |zero=>
   intro n i t g u v R K0 K1;have:i=k:=by omega
   subst this;cases n with
   |zero=>omega
   |succ n=>
    have a:=b.len;have x:=gD a;have w:=gJ l i;have z:=gJ l m;have y:=xC l[i];have e:Wm .i64 (dep l i-dep l m) (opd l[i])=dep l (i+1) -dep l m:=by grind [WE,I64]
    simp only[yF,WQ a,Ws a,Wu a,We,GL,ret,Xd,e];rw[Mq];simp[b.eq]
  |succ c ih=>
   intro n i t g u v R K0 K1;cases n with
   |zero=>omega
   |succ n=>
    have D:=b.len;have a:i<l.length:=by omega
    have x:=gD a;have w:=gJ l i;have z:=gJ l m;have y:=xC l[i];have e:Wm .i64 (dep l i-dep l m) (opd l[i])=dep l (i+1) -dep l m:=by grind [WE,I64]
    have o:=b.ne i g (by omega);simp only[yF,WQ a,Ws a,Wu a,We,GL,ret,Xd,e,Mq,o,decide_false,Wc,Wk (show i<4611686018427387904 by omega)];exact ih n (i+1) (by omega) (by omega) (by omega) (by omega) K0 K1
 have:=f (k-m) N m rfl (Xl _) (by have:=b.lt;omega) (by omega) (R:=Unit×Kk) (λp=>some ((),(p,()))) (λF A B=>some ((),((-1:Int),())));simp_all
theorem PP{N:Nat}{l:List Opn}{m k:Nat}(I:l.length<=1048576)(E:1048576<N)(o:∃h:m<l.length,l[m].1=8)(d:Mate l m k):Dx N l (m:Int)=ret (k:Int):=by
 obtain⟨r,o⟩:=o;unfold Dx;have u:decide ((m:Int)<0)=false:=by simp
 have v:decide ((m:Int)>=Wh l)=false:=by simp[Wh];omega
 have w:(l[m].1 !=8)=false:=by simp[o]
 simp only[u,v,Wc,Ws r,We,Wu r,w];have a:∀(n i:Nat) (b:i<l.length) {R:Type} (K0:Int->Option R) (K1:Int->Int->Bool->Option R),m<=i->nB N l K0 K1 (n+1) (dep l i-dep l m) (i:Int)=
   bif decide (dep l (i+1)=dep l m)then K0 i else nB N l K0 K1 n (dep l (i+1) -dep l m) ((i+1:Nat):Int):=by
  intro n i b R K0 K1 K;have G:=gD b;have F:=gJ l i;have J:=gJ l m;have A:Wm .i64 (dep l i-dep l m) 1=dep l i-dep l m+1:=WE (by unfold I64;omega);have B:W3 .i64 (dep l i-dep l m) 1=dep l i-dep l m-1:=dZ (by unfold I64;omega);simp only[nB,WQ b,Ws b,Wu b,We,Wk (show i<4611686018427387904 by omega),A,B];by_cases j:l[i].1=8
  .have b8:(l[i].1==8)=true:=by simp[j]
   have g:(l[i].1==9)=false:=by simp[j]
   have e:dep l i-dep l m+1=dep l (i+1) -dep l m:=by grind [H4]
   grind
  .have b8:(l[i].1==8)=false:=by simp[j]
   by_cases q:l[i].1=9
   .have g:(l[i].1==9)=true:=by simp[q]
    have e:dep l i-dep l m-1=dep l (i+1) -dep l m:=by grind [qp]
    grind
   .have g:(l[i].1==9)=false:=by simp[q]
    have e:dep l i-dep l m=dep l (i+1) -dep l m:=by grind [H6]
    simp only[b8,g,We,Wc];rw[e,Mq]
 have p:∀(c n i:Nat),k-i=c->m<=i->i<=k->l.length-i<n->∀{R:Type} (K0:Int->Option R) (K1:Int->Int->Bool->Option R),nB N l K0 K1 n (dep l i-dep l m) (i:Int)=K0 k:=by
  intro c
  induction c with
  |zero=>
   intro n i x f y z R K0 K1;have:i=k:=by omega
   subst this;cases n with
   |zero=>omega
   |succ n=>rw[a n i d.len K0 K1 f];simp[d.eq]
  |succ c ih=>
   intro n i x f y z R K0 K1;cases n with
   |zero=>omega
   |succ n=>
    have H:=d.len;have s:=d.ne i f (by omega);rw[a n i (by omega) K0 K1 f];simp only[s,decide_false,Wc];exact ih n (i+1) (by omega) (by omega) (by omega) (by omega) K0 K1
 have:=p (k-m) N m rfl (Xl _) (by have:=d.lt;omega) (by omega) (R:=Unit×Kk) (λt=>some ((),(t,()))) (λL C D=>some ((),((-1:Int),())));simp_all
end
section
theorem Th{N:Nat}{o:Opn}:∃t:Int,nI N o=ret t/\CV N o=ret t:=by
 unfold nI CV;rw[vQ,Gr];simp only[ret,Xd];cases ax o
 .simp_all
 .cases o.1==5<;>cases o.1==6<;>cases o.1==12<;>cases o.1==13<;>cases o.1==14<;>cases o.1==15<;>cases o.1==16<;>exact⟨_,rfl,rfl⟩
noncomputable def m4(o:Opn):Int:=match nI 0 o with|some (_,(t,_))=>t|none=>0
theorem Wy5{N:Nat}{o:Opn}:nI N o=nI 0 o:=by
 unfold nI;rw[vQ,vQ]
theorem FR{N:Nat}{o:Opn}:nI N o=ret (m4 o):=by
 rw[Wy5];obtain⟨t,h,_⟩:=Th (N:=0) (o:=o);unfold m4;rw[h]
theorem Ps{N:Nat}{o:Opn}:CV N o=ret (m4 o):=by
 obtain⟨t,h,a⟩:=Th (N:=N) (o:=o);rw[a,←h,FR]
noncomputable def mS(o:Opn):Bool:=(o.1==11)||(m4 o==2)
noncomputable def dz(l:List Opn):Bool:=kt l&& !l.any mS
theorem PI{N:Nat}{l:List Opn}(d:l.length<=1048576)(c:1048576<N):y6 N l=ret (l.any λo=>o.1==11):=by
 unfold y6;have b:=WH (l:=l) (V:=Unit) (R:=Unit×Ks) (lp:=λn j v=>x7 N l (some ((),(true,()))) (λe f=>some ((),(false,()))) n j) (n:=N) (by omega)
  (body:=λj x v k=>bif x.1==11 then some ((),(true,()))else k v) (K:=λ_ v=>some ((),(false,())))
  (λn i v a=>by simp only[x7,WQ a,Ws a,Wu a,Wk (show i<4611686018427387904 by omega),We])
  (λn v=>by simp[x7,W6,Xl,Wc]) ()
 refine b.trans ?_;rw[hQ (p:=λx:Opn=>x.1==11) (E:=λ_=>some ((),(true,()))) l 0 () (λj x v k _=>rfl)];cases l.any λo:Opn=>o.1==11<;>rfl
theorem Wpu{N:Nat}{l:List Opn}(d:l.length<=1048576)(c:1048576<N):zh N l=ret (dz l):=by
 unfold zh dz;simp only[Pf d c,ret,Xd];cases kt l with
 |false=>rfl
 |true=>
  simp only[PI d c,ret,Xd,Xr,Wc,oX];have b:=WH (l:=l) (V:=Unit) (R:=Unit×Ks) (lp:=λn j v=>yx N l (some ((),(false,()))) (λf g=>some ((),(true,()))) n j) (n:=N) (by omega)
   (body:=λj x v k=>bif m4 x==2 then some ((),(false,()))else k v) (K:=λ_ v=>some ((),(true,())))
   (λn i v a=>by simp only[yx,WQ a,Ws a,Wu a,Wk (show i<4611686018427387904 by omega),We,FR,ret,Xd])
   (λn v=>by simp[yx,W6,Xl,Wc]) ()
  (try simp only[]at b)
  rw[b,hQ (p:=λx=>m4 x==2) (E:=λ_=>some ((),(false,()))) l 0 () (λj x v k _=>rfl)];have e:l.any mS=((l.any λo=>o.1==11)||l.any λo=>m4 o==2):=by
   grind [mS,m4]
  rw[e];cases l.any λo:Opn=>o.1==11<;>cases l.any λo=>m4 o==2<;>rfl
theorem Wpd{N:Nat}{l:List Opn}(g:l.length<=1048576)(f:1048576<N):zi N l=ret (dz l):=by
 unfold zi dz;have c:=WH (l:=l) (V:=Unit) (R:=Unit×Ks) (lp:=λn j v=>yy N l (some ((),(false,()))) (λd e=>((pq N l).bind λb=>(some ((),(b.2.1,()))))) n j) (n:=N) (by omega)
  (body:=λj x v k=>bif mS x then some ((),(false,()))else k v) (K:=λ_ v=>ret (kt l))
  (λn i v a=>by
   simp only[yy,WQ a,Ws a,Wu a,Wk (show i<4611686018427387904 by omega),We,Ps,ret,Xd,mS];cases l[i].1==11<;>rfl)
  (λn v=>by simp_all [yy,W6,Xl,Wc,PE,ret,Xd]) ()
 refine c.trans ?_;rw[hQ (p:=mS) (E:=λ_=>some ((),(false,()))) l 0 () (λj x v k _=>rfl)];cases l.any mS<;>cases kt l<;>rfl
def jL(l:List Int):Bool:=decide (l.length=4)&&l.all cD
theorem Wn7{N:Nat}{l:List Int}(d:l.length<=1048576)(c:1048576<N):Dk N l=ret (jL l):=by
 unfold Dk jL;by_cases h:l.length=4
 .have e:(Wh l !=4)=false:=by simp[Wh,h]
  rw[e];simp only[Wc];have b:=WH (l:=l) (V:=Unit) (R:=Unit×Ks) (lp:=λn j v=>ya N l (some ((),(false,()))) (λf g=>some ((),(true,()))) n j) (n:=N) (by omega)
   (body:=λj x v k=>bif !cD x then some ((),(false,()))else k v) (K:=λ_ v=>some ((),(true,())))
   (λn i v a=>by simp only[ya,WQ a,Ws a,Wu a,Wk (show i<4611686018427387904 by omega),We,Av,ret,Xd])
   (λn v=>by simp[ya,W6,Xl,Wc]) ()
  refine b.trans ?_;rw[hQ (p:=λx=>!cD x) (E:=λ_=>some ((),(false,()))) l 0 () (λj x v k _=>rfl),jF];cases l.all cD<;>simp[h]
 grind [Wh]
theorem F2{N:Nat}{l:List Int}(d:l.length<=1048576)(c:1048576<N):Z8 N l 4=ret (jL l):=by
 unfold Z8 jL;have b:=WH (l:=l) (V:=Unit) (R:=Unit×Ks) (lp:=λn j v=>pi N l 4 (some ((),(false,()))) (λf g=>some ((),((Wh l)==(4:Int),()))) n j) (n:=N) (by omega)
  (body:=λj x v k=>bif !cD x then some ((),(false,()))else k v) (K:=λ_ v=>some ((),((Wh l)==(4:Int),())))
  (λn i v a=>by simp only[pi,WQ a,Ws a,Wu a,Wk (show i<4611686018427387904 by omega),We,mE,ret,Xd])
  (λn v=>by simp[pi,W6,Xl,Wc]) ()
 refine b.trans ?_;rw[hQ (p:=λx=>!cD x) (E:=λ_=>some ((),(false,()))) l 0 () (λj x v k _=>rfl),jF];have e:((Wh l)==(4:Int))=decide (l.length=4):=by
  grind [Wh]
 rw[e];cases l.all cD<;>simp
end
section
section
variable{o:Opn}
theorem M2(h:ax o=true)(d:1<=o.1)(e:o.1<=4):aD o.2.1=true/\(o.1=1->cD o.2.2.1=true)/\(o.1≠1->aD o.2.2.1=true/\aD o.2.2.2=true):=by
 obtain⟨k,a,b,c⟩:=o;simp only at d e;have:k=1\/k=2\/k=3\/k=4:=by omega
 rcases this with rfl|rfl|rfl|rfl
 .have:(aD a&&cD b&&(c==(0:Int)))=true:=h;simp_all
 all_goals
  have:(aD a&&aD b&&aD c)=true:=h;simp_all
theorem lz(h:ax o=true)(d:o.1=5):aD o.2.1=true/\bY o.2.2.1=true:=by
 obtain⟨k,a,b,c⟩:=o;simp only at d;subst d;have:(aD a&&bY b&&(c==(0:Int)))=true:=h;simp_all
theorem xM(h:ax o=true)(d:o.1=6):bY o.2.1=true/\aD o.2.2.1=true:=by
 obtain⟨k,a,b,c⟩:=o;simp only at d;subst d;have:(bY a&&aD b&&(c==(0:Int)))=true:=h;simp_all
theorem qx(h:ax o=true)(d:o.1=7):aD o.2.1=true/\1<=o.2.2.1/\o.2.2.1<=20:=by
 obtain⟨k,a,b,c⟩:=o;simp only at d;subst d;have:(aD a&&(decide (1<=b)&&decide (b<=20))&&(c==(0:Int)))=true:=h;simp_all
theorem tq(h:ax o=true)(d:o.1=8):aD o.2.1=true:=by
 obtain⟨k,a,b,c⟩:=o;simp only at d;subst d;have:(aD a&&(b==(0:Int))&&(c==(0:Int)))=true:=h;simp_all
theorem ly(h:ax o=true):1<=o.1/\o.1<=16:=by
 by_cases a:1<=o.1/\o.1<=16
 .exact a
 .exfalso;have e:∀n:Int,1<=n->n<=16->(o.1==n)=false:=λn b c=>by simp;omega
  simp_all [ax]
end
theorem W2{x:Int}{l:List Int}(h:aD x=true)(a:l.length=4):inb x l.length=true:=by
 grind [aD,inb]
theorem GX{x:Int}{l:List Int}(h:bY x=true)(a:l.length=8):inb x l.length=true:=by
 grind [bY,inb]
structure Vals(n:Nat)(l:List Int):Prop where
 len:l.length=n
 val:∀x∈l,0<=x/\x<=65535
theorem Vals.get{n:Nat}{l:List Int}(h:Vals n l)(i:Nat):0<=l.getD i 0/\l.getD i 0<=65535:=by
 by_cases a:i<l.length
 .rw[Wn a];exact h.val _ (Xo a)
 simp_all
theorem Vals.set{n:Nat}{l:List Int}(h:Vals n l)(i:Nat){x:Int}(b:0<=x/\x<=65535):Vals n (l.set i x):=
 ⟨by rw[aK];exact h.len,λy a=>by
  rcases List.mem_or_eq_of_mem_set a with a|a
  .exact h.val y a
  omega⟩
theorem mG{x:Int}:cD x=true↔0<=x/\x<=65535:=by unfold cD;simp
theorem lI{l:List Int}:jL l=true↔Vals 4 l:=by
 unfold jL;rw[Xj,Wg,cq];exact⟨λh=>⟨h.1,λx a=>mG.1 (h.2 x a)⟩,λh=>⟨h.len,λx a=>mG.2 (h.val x a)⟩⟩
theorem pV{l:List Int}:la l=true↔Vals 8 l:=by
 unfold la;rw[Xj,Wg,cq];exact⟨λh=>⟨h.1,λx a=>mG.1 (h.2 x a)⟩,λh=>⟨h.len,λx a=>mG.2 (h.val x a)⟩⟩
def lh(o:Opn)(r:List Int):List Int:=
 bif o.1==1 then r.set o.2.1.toNat o.2.2.1 else
 bif o.1==2 then r.set o.2.1.toNat ((r.getD o.2.2.1.toNat 0+r.getD o.2.2.2.toNat 0)%65536)else
 bif o.1==3 then r.set o.2.1.toNat ((r.getD o.2.2.1.toNat 0-r.getD o.2.2.2.toNat 0+65536)%65536)else
 bif decide (r.getD o.2.2.1.toNat 0<r.getD o.2.2.2.toNat 0)then r.set o.2.1.toNat 1 else r.set o.2.1.toNat 0
theorem nV{x:Int}(h:0<=x):bp x 65536=x%65536:=by grind [bp,Int.tmod_eq_emod_of_nonneg]
theorem G4{o:Opn}{r:List Int}(h:ax o=true)(b:1<=o.1)(c:o.1<=4)(a:Vals 4 r):Vals 4 (lh o r):=by
 obtain⟨_,d,_⟩:=M2 h b c;unfold lh;cases e1:o.1==1
 .cases o.1==2
  .cases o.1==3
   .cases decide (r.getD o.2.2.1.toNat 0<r.getD o.2.2.2.toNat 0)
    .exact a.set _ (by omega)
    .exact a.set _ (by omega)
   .exact a.set _ (by omega)
  .exact a.set _ (by omega)
 .exact a.set _ (mG.1 (d (by simp_all)))
section
variable{N:Nat}{o:Opn}{r:List Int}
theorem PG(m:1048576<N)(h:ax o=true)(j:1<=o.1)(k:o.1<=4)(a:Vals 4 r):FO N o r=some ((),(lh o r,(true,()))):=by
 obtain⟨n,y,v⟩:=M2 h j k;unfold FO Zr;have e:WC r.length=true:=Ww (by rw[a.len];omega);have f:decide (o.1>4)=false:=by simp;omega
 have g:jL r=true:=lI.2 a;have c:=W2 n a.len;have i:inz 65536=true:=rfl;have w:=a.get o.2.2.1.toNat;have x:=a.get o.2.2.2.toNat;simp only[e,We,Xd,Gr,ret,h,Xr,Wc,f,F2 (l:=r) (by rw[a.len];omega) m,g,c,i];unfold lh;by_cases d:o.1=1
 .simp_all
 .have b:(o.1==1)=false:=by simp[d]
  obtain⟨p,q⟩:=v d;rw[b];simp only[Wc,W2 p a.len,W2 q a.len,We,aK,c];have s:Wm .i64 (r.getD o.2.2.1.toNat 0) (r.getD o.2.2.2.toNat 0)=r.getD o.2.2.1.toNat 0+r.getD o.2.2.2.toNat 0:=WE (by unfold I64;omega);have t:W3 .i64 (r.getD o.2.2.1.toNat 0) (r.getD o.2.2.2.toNat 0)=r.getD o.2.2.1.toNat 0-r.getD o.2.2.2.toNat 0:=dZ (by unfold I64;omega);have u:Wm .i64 (r.getD o.2.2.1.toNat 0-r.getD o.2.2.2.toNat 0) 65536=r.getD o.2.2.1.toNat 0-r.getD o.2.2.2.toNat 0+65536:=WE (by unfold I64;omega);rw[s,t,u,nV (by omega),nV (by omega)];cases o.1==2
  .cases o.1==3
   .simp only[Wc,Wz,nv];cases decide (r.getD o.2.2.1.toNat 0<r.getD o.2.2.2.toNat 0)<;>rfl
   .rfl
  .rfl
theorem Pi(n:1048576<N)(h:ax o=true)(k:1<=o.1)(m:o.1<=4)(a:Vals 4 r):KT N o r=some ((),(lh o r,(true,()))):=by
 obtain⟨p,z,w⟩:=M2 h k m;unfold KT;have e:WC (([]:List Int).length+r.length)=true:=Ww (by rw[a.len];simp);have f:decide (o.1>4)=false:=by simp;omega
 have g:jL r=true:=lI.2 a;have c:=W2 p a.len;have j:inz 65536=true:=rfl;have i:Xe ([]:List Int) r=r:=rfl;have x:=a.get o.2.2.1.toNat;have y:=a.get o.2.2.2.toNat;simp only[e,We,Xd,vQ,ret,h,Xr,Wc,f,Wn7 (l:=r) (by rw[a.len];omega) n,g,c,j,i];unfold lh;by_cases d:o.1=1
 .simp_all
 .have b:(o.1==1)=false:=by simp[d]
  obtain⟨q,s⟩:=w d;rw[b];simp only[Wc,W2 q a.len,W2 s a.len,We,aK,c];have t:Wm .i64 (r.getD o.2.2.1.toNat 0) (r.getD o.2.2.2.toNat 0)=r.getD o.2.2.1.toNat 0+r.getD o.2.2.2.toNat 0:=WE (by unfold I64;omega);have u:W3 .i64 (r.getD o.2.2.1.toNat 0) (r.getD o.2.2.2.toNat 0)=r.getD o.2.2.1.toNat 0-r.getD o.2.2.2.toNat 0:=dZ (by unfold I64;omega);have v:Wm .i64 (r.getD o.2.2.1.toNat 0-r.getD o.2.2.2.toNat 0) 65536=r.getD o.2.2.1.toNat 0-r.getD o.2.2.2.toNat 0+65536:=WE (by unfold I64;omega);rw[t,u,v,nV (by omega),nV (by omega)];cases o.1==2
  .cases o.1==3
   .simp only[Wc,Wz,nv];cases decide (r.getD o.2.2.1.toNat 0<r.getD o.2.2.2.toNat 0)<;>rfl
   .rfl
  .rfl
end
def dV(c:List Int)(ε:List Rw):List Int:=ε.foldr (λr c=>c.set r.1.toNat r.2) c
def aZ(l:List Rw):Prop:=∀r∈l,(0<=r.1/\r.1<=7)/\0<=r.2/\r.2<=65535
theorem GV{l:List Rw}:l.all mX=true↔aZ l:=by
 simp[cq,aZ,mX,bY,cD]
theorem HC{c:List Int}(a:Vals 8 c):∀{l:List Rw},aZ l->Vals 8 (dV c l)
 | [],_=>a
 |r::l,h=>by
  have d:=HC a (l:=l) λx b=>h x (Xf _ b);exact d.set _ (h r (Xg ..)).2
theorem WuE(c:List Int)(l:List Rw)(r:Rw):dV c (l++ [r])=dV (c.set r.1.toNat r.2) l:=by
 simp[dV,List.foldr_append]
theorem DH{N:Nat}{l:List Int}(h:l.length<=1048576):Zr N l=ret l:=by
 simp_all [Zr,Wvl,We]
end
section
structure Lin{α:Type}(cf:α->α->Int):Prop where
 irr:∀x,¬cf x x<0
 tr:∀x y z,cf x y<0->cf y z<0->cf x z<0
 nt:∀x y z,¬cf x y<0->¬cf y z<0->¬cf x z<0
theorem qz:Lin cfE:=⟨λx=>by unfold cfE;omega,λx y z=>by unfold cfE;omega,λx y z=>by unfold cfE;omega⟩
theorem ji:Lin cfH:=⟨λx=>by rw[kR];omega,λx y z=>by simp only[kR];omega,λx y z=>by simp only[kR];omega⟩
def Ris{α:Type}(cf:α->α->Int)(l:List α):Prop:=l.Pairwise λa b=>cf a b<0
def eR{α:Type}(cf:α->α->Int):List α->α->List α
 | [],e=>[e]
 |x::l,e=>if cf x e<0 then x::eR cf l e else if cf e x<0 then e::x::l else e::l
def Ap{α:Type}(cf:α->α->Int)(x y:α):Prop:=cf x y<0\/cf y x<0
variable{α:Type}{cf:α->α->Int}
theorem Lin.ap(h:Lin cf){x y:α}(b:¬Ap cf x y){z:α}:(cf x z<0↔cf y z<0)/\(cf z x<0↔cf z y<0):=by
 unfold Ap at b;refine⟨⟨λa=>?_,λa=>?_⟩,⟨λa=>?_,λa=>?_⟩⟩
 .exact Classical.byContradiction λc=>h.nt x y z (λq=>b (.inl q)) c a
 .exact Classical.byContradiction λc=>h.nt y x z (λq=>b (.inr q)) c a
 .exact Classical.byContradiction λc=>h.nt z y x c (λq=>b (.inr q)) a
 .exact Classical.byContradiction λc=>h.nt z x y c (λq=>b (.inl q)) a
theorem kF(c:Lin cf){e x:α}:∀{l:List α},Ris cf l->(x∈eR cf l e↔x=e\/(x∈l/\Ap cf x e))
 | [],_=>by simp[eR]
 |y::l,h=>by
  have d:=(bq.1 h);unfold eR;by_cases b:cf y e<0
  .rw[Wb b,Xs,kF c d.2,Xs];refine⟨?_,?_⟩
   .rintro(rfl|h|h)
    .exact .inr ⟨.inl rfl,.inl b⟩
    .grind
    simp_all
   grind
  .rw[Wa b];by_cases a:cf e y<0
   .rw[Wb a];simp only[Xs];refine⟨?_,?_⟩
    .rintro(h|rfl|h)
     .grind
     .exact .inr ⟨.inl rfl,.inr a⟩
     .exact .inr ⟨.inr h,.inr (c.tr _ _ _ a (d.1 x h))⟩
    grind
   .rw[Wa a];simp only[Xs];have f:¬Ap cf y e:=by unfold Ap;omega
    refine⟨?_,?_⟩
    .rintro(h|h)
     .grind
     .exact .inr ⟨.inr h,.inr ((c.ap f).1.1 (d.1 x h))⟩
    grind
theorem n7(d:Lin cf){e:α}:∀{l:List α},Ris cf l->Ris cf (eR cf l e)
 | [],_=>by simp[eR,Ris]
 |y::l,h=>by
  have b:=(bq.1 h);unfold eR;by_cases f:cf y e<0
  .rw[Wb f];refine bq.2 ⟨λx a=>?_,n7 d b.2⟩;rcases(kF d b.2).1 a with rfl|a
   .exact f
   simp_all
  .rw[Wa f];by_cases c:cf e y<0
   .rw[Wb c];refine bq.2 ⟨λx a=>?_,h⟩;rcases Xs.1 a with rfl|a
    .exact c
    .exact d.tr _ _ _ c (b.1 x a)
   .rw[Wa c];have g:¬Ap cf y e:=by unfold Ap;omega
    exact bq.2 ⟨λx a=>(d.ap g).1.1 (b.1 x a),b.2⟩
theorem HH(e:Lin cf){L M:List α}(g:Ris cf M)(s:L.Pairwise (Ap cf))(p:∀x,x∈L↔x∈M):lb cf L=M:=by
 have q:∀{l:List α},l.Pairwise (Ap cf)->l.Nodup:=λh=>h.imp λ{a b} gk=>by
  rintro rfl;unfold Ap at gk;have:=e.irr a;omega
 have m:M.Pairwise (Ap cf):=g.imp λh=>.inl h;have t:L.Perm M:=(List.perm_ext_iff_of_nodup (q s) (q m)).2 p;unfold lb;have d:=List.pairwise_mergeSort (le:=λx y=>!mT cf y x) (λa b c=>by
  simp only[mT,fg,Wy]
  exactλd f=>e.nt _ _ _ f d) (λa b=>by
  simp only[mT,xU,fg,Wy];rcases Classical.em (cf b a<0)with h|h
  .exact .inr λk=>e.irr _ (e.tr _ _ _ h k)
  omega) L
 refine List.Perm.eq_of_pairwise ?_ d (g.imp λ{a b} h=>?_) ((XS _ _).trans t)
 .intro a b ha hb d f;simp only[mT,fg,Wy]at d f;have r:a∈M:=(p a).1 ((XS _ _).mem_iff.1 ha);obtain⟨i,n,rfl⟩:=eI r;obtain⟨j,o,rfl⟩:=eI hb;rcases Nat.lt_trichotomy i j with h|h|h
  .exact Wi (eH.1 g i j n o h) f
  .grind
  .exact Wi (eH.1 g j i o n h) d
 .simp only[mT,fg,Wy]
  exactλk=>e.irr _ (e.tr _ _ _ h k)
theorem R0{r:α->α->Bool}{R:α->α->Prop}(c:∀a b,R a b->r a b=true):∀{l:List α},l.Pairwise R->qs r l=true
 | [],_=>rfl
 |x::l,h=>by
  have:=bq.1 h;simp only[qs,Xj,cq];exact⟨λy d=>c _ _ (this.1 y d),R0 c this.2⟩
theorem SL(c:Lin cf){rng:α->Bool}{N:Nat}{L M:List α}(b:Ris cf M)(a:L.Pairwise (Ap cf))(e:∀x,x∈L↔x∈M)(f:∀x∈L,rng x=true)(d:L.length<=1048576):
  Ah rng cf N L=some ((M,()),()):=by
 grind [Ah,cq,R0,Ap,mY,mT,decide_eq_true,HH]
theorem QL(d:Lin cf){L:List α}{e:α}{i:Nat}(g:L.Pairwise (Ap cf))(hi:i<L.length)(f:¬Ap cf L[i] e):(L.set i e).Pairwise (Ap cf)/\∀x,x∈L.set i e↔x=e\/(x∈L/\Ap cf x e):=by
 have o:∀{z},Ap cf L[i] z↔Ap cf e z:=λ{z}=>by unfold Ap;rw[(d.ap f).1,(d.ap f).2]
 have l:∀{a b:α},Ap cf a b->Ap cf b a:=λh=>h.symm;have m:=eH.1 g;refine⟨?_,λx=>⟨λc=>?_,?_⟩⟩
 .rw[eH]
  grind
 .obtain⟨j,k,rfl⟩:=eI c
  grind
 .rintro(rfl|⟨c,n⟩)
  .grind [nq]
  .obtain⟨j,k,rfl⟩:=eI c;refine nq.2 ⟨j,by simp_all,?_⟩;rw[ex,Wa]
   grind
theorem Qh{L:List α}{e:α}(a:L.Pairwise (Ap cf))(b:∀x∈L,Ap cf x e):(L++ [e]).Pairwise (Ap cf)/\∀x,x∈L++ [e]↔x=e\/(x∈L/\Ap cf x e):=by
 grind
end
section
abbrev KM:=Int×Int×List Int
structure Kd where
 ζ:Int:=0
 pc:Int:=0
 C5:Int:=0
 CY:Int:=0
 pos:Int:=0
 out:Int:=0
 ξ:List Int:=[]
 C1:List En:=[]
 ι:List Rw:=[]
 κ:List KM:=[]
 C3:Bool:=false
 pb:Pb:=(0,0,0,0)
def Kd.e(x:Kd):Y_KidRun:=(x.ζ,x.pc,x.C5,x.CY,x.pos,x.out,x.ξ,x.C1,x.ι,x.κ,x.C3,x.pb)
structure Fm where
 rv:Int:=0
 C2:Int:=0
 C0:Int:=0
 Db:Bool:=false
 ξ:List Int:=[]
 start:List Rw:=[]
 buf:List En:=[]
 υ:List Int:=[]
 μ:List Rw:=[]
 π:List Kd:=[]
def Fm.e(f:Fm):Y_Family:=(f.rv,f.C2,f.C0,f.Db,f.ξ,f.start,f.buf,f.υ,f.μ,f.π.map Kd.e)
def zOp:Opn:=(0,0,0,0)
def opN(θ:List Opn)(i:Int):Opn:=Xc θ i.toNat zOp
def ah{α:Type}(l:List α)(i:Int)(d:α):α:=Xc l i.toNat d
def d8{α:Type}(l:List α)(i:Int)(x:α):List α:=Xk l i.toNat x
def c0{α:Type}(l:List α)(d:α):α:=Xc l (l.length-1) d
def i8(l:List Opn)(m:Nat):Nat:=((c7 l.length).find? λk=>decide (m<=k)&&decide (dep l (k+1)=dep l m)).getD 0
def Fm.again(f:Fm)(x:Kd):Kd:={C5:=f.C2,CY:=x.CY+1,ξ:=f.ξ}
def c5(m:Mm)(f:Fm)(x:Kd)(o:Opn):Fm×Kd:=
 match bm x.ι o.2.2.1 with
 |some v=>(f,{x with ξ:=d8 x.ξ o.2.1 v,pc:=x.pc+1})
 |none=>match ent f.buf o.2.2.1 with
  |some r=>if r.2.2.2>x.C5 then(f,f.again x)else(f,{x with ξ:=d8 x.ξ o.2.1 r.2.2.1,C1:=x.C1++ [r.2],pc:=x.pc+1})
  |none=>
   let p:=W7 m f.rv (if x.C3 then x.pb else(o.2.2.1,0,0,0))
   if p.2.1=4 then({f with Db:=true},{x with C3:=true,pb:=p})
   else if p.2.1=3 then(f,{x with ξ:=d8 x.ξ o.2.1 p.2.2.2,C1:=x.C1++ [(o.2.2.1,p.2.2.2,-1)],C3:=false,pb:=(0,0,0,0),pc:=x.pc+1})
   else(f,{x with C3:=true,pb:=p})
def oo(x:Kd)(θ:List Opn):Kd:=
 if x.κ.length=0 then{x with ι:=[],out:=2,ζ:=1}else
 let q:=c0 x.κ (0,0,[])
 {x with κ:=x.κ.dropLast,ξ:=d8 q.2.2 (opN θ q.1).2.1 0,ι:=x.ι.take q.2.1.toNat,pc:=i8 θ q.1.toNat+1}
def dU(m:Mm)(f:Fm)(x:Kd)(θ:List Opn):Fm×Kd:=
 if x.pc>=θ.length then(f,{x with out:=1,ζ:=1})else
 let o:=opN θ x.pc
 if o.1=5 then c5 m f x o else
 if o.1=10 then(f,oo x θ)else
 if o.1=6 then(f,{x with ι:=x.ι++ [(o.2.1,ah x.ξ o.2.2.1 0)],pc:=x.pc+1})else
 if o.1=7 then(f,{x with pc:=(if ah x.ξ o.2.1 0=0 then x.pc+o.2.2.1 else x.pc)+1})else
 if o.1=8 then(f,{x with κ:=x.κ++ [(x.pc,(x.ι.length:Int),x.ξ)],pc:=x.pc+1})else
 if o.1=9 then(f,{x with κ:=x.κ.dropLast,ξ:=d8 x.ξ (opN θ (c0 x.κ (0,0,[])).1).2.1 1,pc:=x.pc+1})else
 (f,{x with ξ:=lh o x.ξ,pc:=x.pc+1})
def iG(c:Int)(b:List En)(ε:List Rw):List En:=ε.foldl (λb r=>eR cfE b (r.1,r.2,c)) b
def hN(l:List En):List Rw:=(l.filter λe=>decide (e.2.2= -1)).map λe=>(e.1,e.2.1)
def dX(f:Fm)(x:Kd)(k:Nat):Fm×Kd:=
 ({f with C2:=f.C2+1,buf:=iG (f.C2+1) f.buf (al x.ι),μ:=f.μ++hN x.C1,υ:=f.υ++ [(k:Int)],C0:=0},{x with ζ:=3,pos:=0,κ:=[]})
def tv(b:List En)(c:Int):Int:=match ent b c with
 |some r=>r.2.2.2
 |none=>-1
def cH(m:Mm)(f:Fm)(x:Kd)(k:Nat)(θ:List Opn):Fm×Kd:=
 if x.ζ=0 then dU m f x θ else
 if x.ζ=1 then(if f.C0=0 then({f with C0:=(k:Int)+1},{x with ζ:=2})else(f,x))else
 if x.ζ=2 then
  if x.pos=x.C1.length then dX f x k else
  let s:=ah x.C1 x.pos (0,0,0)
  if tv f.buf s.1=s.2.2 then(f,{x with pos:=x.pos+1})else({f with C0:=0},f.again x)
 else(f,x)
def Fm.put(q:Fm×Kd)(k:Nat):Fm:={q.1 with π:=q.1.π.set k q.2}
def bJ(m:Mm)(f:Fm)(k:Nat)(θ:List Opn):Fm:=
 if f.Db then f else Fm.put (cH m f (f.π.getD k {}) k θ) k
def eO(rv:Int)(ξ:List Int)(ι:List Rw)(π:Nat):Fm:=
 {rv:=rv,ξ:=ξ,start:=al ι,buf:=(al ι).map λr=>(r.1,r.2,0),π:=Xt π {ξ:=ξ}}
def mO(f:Fm):Bool:=f.π.all λx=>decide (x.ζ=3)
def jV(f:Fm):List Rw:=f.buf.map λe=>(e.1,e.2.1)
def NA(x:Kd):Int:=if x.out=1/\jL x.ξ=true then ah x.ξ 0 0 else 0
def oi(f:Fm):List Int:=
 if jL f.ξ=true/\f.π.length<=3 then f.π.map NA++f.ξ.drop f.π.length else []
structure KMk(θ:List Opn)(pc:Nat)(κ:List KM)(wl:Nat):Prop where
 pcs:κ.map (·.1)=(stk θ pc).map λm:Nat=>(m:Int)
 each:∀q∈κ,Vals 4 q.2.2/\0<=q.2.1/\q.2.1<=q.1/\q.2.1<=wl
 up:κ.Pairwise λa b=>a.2.1<=b.2.1
structure KOk(θ:List Opn)(c n:Int)(x:Kd):Prop where
 pc:0<=x.pc/\x.pc<=θ.length
 ξ:Vals 4 x.ξ
 ε:aZ x.ι
 wl:(x.ι.length:Int)<=x.pc
 sl:(x.C1.length:Int)<=x.pc
 C5:0<=x.C5/\x.C5<=c
 CY:0<=x.CY/\x.CY<=n
 C1:∀e∈x.C1,(0<=e.1/\e.1<=7)/\(0<=e.2.1/\e.2.1<=65535)/\ -1<=e.2.2/\e.2.2<=x.C5
 κ:x.ζ=0->KMk θ x.pc.toNat x.κ x.ι.length
 pos:0<=x.pos/\x.pos<=x.C1.length
 pb:x.C3=true->gr x.pb=true
 ζ:0<=x.ζ/\x.ζ<=3
 out:0<=x.out/\x.out<=2
structure FOk(codes:List (List Opn))(n:Int)(f:Fm):Prop where
 len:f.π.length=codes.length
 ξ:Vals 4 f.ξ
 C2:0<=f.C2/\f.C2=f.υ.length
 done:f.υ.length=f.π.countP λx=>decide (x.ζ=3)
 bufR:Ris cfE f.buf
 bufE:∀e∈f.buf,(0<=e.1/\e.1<=7)/\(0<=e.2.1/\e.2.1<=65535)/\0<=e.2.2/\e.2.2<=f.C2
 readsL:f.μ.length<=24*f.υ.length
 readsE:aZ f.μ
 C0:0<=f.C0/\f.C0<=f.π.length
 kid:∀(k:Nat) (h:k<f.π.length),KOk (codes.getD k []) f.C2 n f.π[k]
end
section
structure CC(l:List Opn):Prop where
 len:l.length<=24
 up:Up l
 z:dep l l.length=0
 ok:∀i (h:i<l.length),ax l[i]=true/\1<=l[i].1/\l[i].1<=16
 sk:∀i (h:i<l.length),l[i].1=7->i+1+l[i].2.2.1.toNat<=l.length/\bal ((l.take (i+1+l[i].2.2.1.toNat)).drop (i+1))=true
 fk:∀i (h:i<l.length),l[i].1=11->dep l i=0/\frk l (i+1)<=1
structure KC(l:List Opn):Prop extends CC l where
 k10:∀i (h:i<l.length),l[i].1<=10
theorem Uh{o:Opn}(h:ax o=true)(e:12<=o.1):m4 o=2:=by
 have f:=ly h;have a:=FR (N:=0) (o:=o);unfold nI at a;rw[vQ,h]at a;simp only[ret,Xd,Xr,Wc]at a;have c:(o.1==5)=false:=by simp;omega
 have d:(o.1==6)=false:=by simp;omega
 rw[c,d]at a;simp only[Wc]at a;have:o.1=12\/o.1=13\/o.1=14\/o.1=15\/o.1=16:=by omega
 rcases this with b|b|b|b|b<;> · simp_all
theorem VO{l:List Opn}(h:kt l=true):CC l:=by
 unfold kt at h;simp only[Xj,Wg,fg]at h;obtain⟨d,e,j⟩:=h;obtain⟨b,c⟩:=HD.1 e;have f:∀i (hi:i<l.length),io l i l[i]=false:=λi hi=>by
  rw[Bool.eq_false_iff];intro f;have:jp (io l) 0 l=true:=A3.2 ⟨i,hi,by simp_all⟩;simp_all
 have a:∀i (hi:i<l.length),ax l[i]=true:=λi hi=>by
  grind [io,uu,B4]
 refine⟨d,b,c,λi hi=>⟨a i hi,ly (a i hi)⟩,λi hi k=>?_,λi hi g=>?_⟩
 .grind [io,uu,B4,qg]
 grind [io,uu,B4]
theorem ZI{l:List Opn}(h:dz l=true):KC l:=by
 unfold dz at h;simp only[Xj,fg]at h;have b:=VO h.1;refine⟨b,λi d=>?_⟩;have a:mS l[i]=false:=by
  grind
 unfold mS at a;simp only[uu]at a;by_cases c:l[i].1<=10
 .exact c
 .exfalso;by_cases e:l[i].1=11
  .simp_all
  .have:=Uh (b.ok i d).1 (by omega);simp_all
theorem Qm{l:List Opn}{m k:Nat}(h:Mate l m k):i8 l m=k:=by
 unfold i8;have:(c7 l.length).find? (λk=>decide (m<=k)&&decide (dep l (k+1)=dep l m))=some k:=by
  rw[List.find?_range_eq_some];have:=h.lt;refine⟨?_,List.mem_range.2 h.len,λj a=>?_⟩
  .simp[h.eq];omega
  .simp only[fg,Bool.and_eq_false_iff,Wy];by_cases b:m<=j
   .exact .inr (h.ne j b a)
   omega
 grind
theorem kV{l:List Opn}{i:Int}(a:0<=i)(h:i<l.length):∃(n:Nat) (b:n<l.length),i=n/\opN l i=l[n]:=by
 grind [opN,Wn]
theorem p0{l:List Opn}{n:Nat}(h:n<l.length):opN l (n:Int)=l[n]:=by
 grind [opN,Wn]
theorem Qu{α:Type}(q:List α)(x d:α):c0 (q++ [x]) d=x:=by unfold c0;simp
theorem EN{M:Type}{g:M->Int}{l:List Opn}{pc:Nat}{κ:List M}{d:M}(e:CC l)(f:pc<=l.length)(a:κ.map g=(stk l pc).map λm:Nat=>(m:Int))(n:κ.length≠0):
  ∃(m:Nat) (q:List M) (x:M),κ=q++ [x]/\c0 κ d=x/\g x=(m:Int)/\(∃a:m<l.length,l[m].1=8)/\m<pc/\Mate l m (i8 l m)/\pc<=i8 l m/\stk l m=(stk l pc).dropLast/\q.map g=(stk l m).map λm:Nat=>(m:Int):=by
 rcases pH κ with h|⟨q,x,i⟩
 .simp_all
 .rw[i,Xw,bK,cV]at a;rcases pH (stk l pc)with h|⟨t,m,b⟩
  .simp_all
  .rw[b,Xw,bK,cV]at a;obtain⟨p,c⟩:=N8 a rfl;injection c with c;obtain⟨k,s,j,u⟩:=Uq e.up e.z f b;have v:=Qm j;obtain⟨o,r,_,_⟩:=Hb pc f t [] m b
   grind [Qu,E8]
end
section
theorem Wt8{α β:Type}(g:α->β)(l:List α)(i:Nat)(d:α):Xc (l.map g) i (g d)=g (l.getD i d):=by
 simp_all
theorem kdP(x:Kd):x.e.1=x.ζ/\x.e.2.1=x.pc/\x.e.2.2.1=x.C5/\x.e.2.2.2.1=x.CY/\P4 x.e=x.pos/\P5 x.e=x.out/\P6 x.e=x.ξ/\P7 x.e=x.C1/\P8 x.e=x.ι/\P9 x.e=x.κ/\P10 x.e=x.C3:=⟨rfl,rfl,rfl,rfl,rfl,rfl,rfl,rfl,rfl,rfl,rfl⟩
theorem fmP(f:Fm):f.e.1=f.rv/\f.e.2.1=f.C2/\f.e.2.2.1=f.C0/\f.e.2.2.2.1=f.Db/\P4 f.e=f.ξ/\P5 f.e=f.start/\P6 f.e=f.buf/\P7 f.e=f.υ/\P8 f.e=f.μ/\Q9 f.e=f.π.map Kd.e:=⟨rfl,rfl,rfl,rfl,rfl,rfl,rfl,rfl,rfl,rfl⟩
theorem U9e(f:Fm)(k:Nat)(x:Kd):U9 (Xk (f.π.map Kd.e) k x.e) f.e=Fm.e {f with π:=f.π.set k x}:=by
 unfold U9 Fm.e;rw[XG]<;>rfl
theorem lV{f f':Fm}{k:Nat}{x':Kd}{y:Y_KidRun}{g:Y_Family}(c:y=x'.e)(b:g=f'.e)(a:f'.π=f.π):
  some ((U9 (Xk (f.π.map Kd.e) k y) g,()),())=some (((Fm.put (f',x') k).e,()),()):=by
 subst c b;rw[←a,U9e];rfl
theorem WsY(m:Mm)(f:Fm)(x:Kd)(o:Opn):Ev m f.e x.e o=((c5 m f x o).1.e,(c5 m f x o).2.e):=by
 unfold Ev c5;have d:P8 x.e=x.ι:=rfl;have g:P6 f.e=f.buf:=rfl;rw[d,g];rcases bm x.ι o.2.2.1 with _|v
 .rcases ent f.buf o.2.2.1 with _|r
  .have h3:ku x.e o.2.2.1=if x.C3 then x.pb else(o.2.2.1,0,0,0):=by
    unfold ku;have:P10 x.e=x.C3:=rfl;rw[this];cases x.C3<;>rfl
   simp only[h3];have h:f.e.1=f.rv:=rfl;rw[h];generalize W7 m f.rv (if x.C3 then x.pb else(o.2.2.1,0,0,0))=p;by_cases c:p.2.1=4
   .have:(p.2.1==4)=true:=by simp_all
    rw[Wb c,this];rfl
   .have:(p.2.1==4)=false:=by simp_all
    rw[Wa c,this];by_cases b:p.2.1=3
    .have:(p.2.1==3)=true:=by simp_all
     rw[Wb b,this];rfl
    .have:(p.2.1==3)=false:=by simp_all
     rw[Wa b,this];rfl
  .simp only;have i:x.e.2.2.1=x.C5:=rfl;rw[i];by_cases a:r.2.2.2>x.C5
   .rw[Wb a,Wf a];rfl
   .rw[Wa a,Wl a];rfl
 .rfl
theorem Wrx(m:Mm)(f:Fm)(x:Kd)(o:Opn):(c5 m f x o).1.π=f.π:=by
 grind [c5,bm,ent,W7]
variable{N:Nat}{codes:List (List Opn)}{n:Int}{f:Fm}{k:Nat}{θ:List Opn}{m:Mm}{x:Kd}
theorem FOk.buf8(h:FOk codes n f):f.buf.length<=8:=by
 have:∀(l:List En) (c:Int),Ris cfE l->(∀e∈l,c<=e.1/\e.1<=7)->(l.length:Int)<=8-c\/l= []:=by
  intro l
  induction l with
  |nil=>simp_all
  |cons a l ih=>
   intro c i d;left;have g:=bq.1 i;have j:=d a (Xg ..);rcases ih (a.1+1) g.2 (λe b=>⟨by grind [cfE],(d e (Xf _ b)).2⟩)with h|h
   .grind
   grind
 rcases this f.buf 0 h.bufR (λe b=>by have:=(h.bufE e b).1;omega)with h|h
 .omega
 simp_all
theorem WsX(c:FOk codes n f)(a:KOk θ f.C2 n x)(b:KC θ)(h:aq m=true)(j:n<=100000){o:Opn}(i:aD o.2.1=true)(d:bY o.2.2.1=true):ReadOk m f.e x.e o where
 mem:=h
 ξ:=a.ξ.len
 famr:=c.ξ.len
 rA:=by grind [aD]
 cB:=d
 C1:=by have:=a.sl;have:=a.pc;have:=b.len;show x.C1.length<=1000;omega
 wr:=by have:=a.wl;have:=a.pc;have:=b.len;show x.ι.length<=1000;omega
 buf:=by have:=c.buf8;show f.buf.length<=1000;omega
 ver:=λe g=>(c.bufE e g).2.2.1
 C5:=a.C5.1
 pc:=by have:=a.pc;have:=b.len;show 0<=x.pc/\x.pc<=1000;omega
 CY:=by have:=a.CY;show 0<=x.CY/\x.CY<=100000;omega
 pb:=a.pb
theorem WI{α:Type}{a b:Int}{x y:α}:(bif a==b then x else y)=if a=b then x else y:=by
 simp_all
theorem gF{α:Type}{p:Prop}[Decidable p]{x y:α}:(bif decide p then x else y)=if p then x else y:=by
 simp_all
theorem Wl3(b:KC θ)(c:KOk θ f.C2 n x)(v:x.ζ=0)(w:1048576<N):Iw N x.e θ=some (((oo x θ).e,()),()):=by
 unfold Iw oo;obtain⟨R,C,S,T,U,V,W,X,E,F,D⟩:=kdP x;have L:=c.pc;have K:=b.len;have k:=c.κ v;simp only[Wz,F,E,C,WI];by_cases g:x.κ.length=0
 .rw[Wb (by unfold Wh;omega),Wb g];rfl
 .rw[Wa (by unfold Wh;omega),Wa g];obtain⟨j,q,y,p,r,s,⟨a,i⟩,vN,h,Y,M,t⟩:=EN (d:=((0,0,[]):KM)) b.toCC (show x.pc.toNat<=θ.length by omega) k.pcs g;have Z:x.κ.length=q.length+1:=by grind
  have J:q.length<=24:=by
   have:=Wp Xb t;simp only[Xy]at this;have O:=fh b.up j (by omega);have P:=(gJ θ j).2;omega
  have B:W3 .i64 (Wh x.κ) 1=(q.length:Int):=by grind [HL]
  have A:y∈x.κ:=by grind
  obtain⟨l,y2,y3,y4⟩:=k.each y A;have u:Xc x.κ (Xa (q.length:Int)) ((0,0,[]):KM)=y:=by grind
  have I:aI (Xa (q.length:Int)) x.κ=x.κ.dropLast:=by rw[p];simp
  have Q:=c.wl;rw[B,dc,Wf (show q.length<x.κ.length by omega)];simp only[We,u,I,r];have m:((decide ((0:Int)<=(q.length:Int))&&decide ((q.length:Int)<=(x.κ.length:Int)))&&decide ((q.length:Int)<=((Xa (q.length:Int):Nat):Int)))=true:=by
   simp;omega
  rw[m];simp only[We];rw[nZ (by rw[l.len];omega)];simp only[ret,Xd];rw[s,dc,Wf a];have G:Xc θ (Xa ((j:Nat):Int)) ((0,0,0,0):Opn)=θ[j]:=Wu a _;have H:opN θ ((j:Nat):Int)=θ[j]:=p0 a;have z:=tq (b.ok j a).1 i;simp only[We,G,H];rw[W2 z l.len];have o:(decide ((0:Int)<=y.2.1)&&decide (y.2.1<=(x.ι.length:Int)))=true:=by simp;omega
  rw[o];simp only[We];rw[AC (by grind),PS (by omega) w ⟨a,i⟩ h];simp only[ret,Xd];rw[eT (by have:=h.len;omega),Xi];rfl
theorem WpG(O:k<f.π.length)(hm:aq m=true)(c:KC θ)(L:FOk codes n f)(U:codes.getD k []=θ)(I:f.π[k]=x)(w:x.ζ=0)(hn:n<=100000)(D:1048576<N):
  IP N f.e (k:Int) θ m=some (((Fm.put (dU m f x θ) k).e,()),()):=by
 have g:=L.kid k O;rw[U,I]at g;obtain⟨k0,k1,k2,k3,k4,k5,k6,k7,k8,k9,k10⟩:=kdP x;obtain⟨f0,f1,f2,f3,f4,f5,f6,f7,f8,f9⟩:=fmP f;have W:=g.pc;have aa:=c.len;have jj:=g.wl;have Z:Xc (f.π.map Kd.e) (Xa (k:Int)) d_KidRun=x.e:=by
  simp_all
 have e3:U9 (Xk (f.π.map Kd.e) (Xa (k:Int)) x.e) f.e=f.e:=by
  rw[Xi,U9e,←I,jN]
 unfold IP dU;simp only[Wz,f9,Xy];rw[dc,Wf O];simp only[We,Z,e3,k1,k6,k8,k9,gF,WI,show Wh θ=(θ.length:Int)from rfl];by_cases v:x.pc>=θ.length
 .rw[Wb v,Wb v];rw[Xi];exact lV rfl rfl rfl
 .rw[Wa v,Wa v];obtain⟨j,F,ej,eo⟩:=kV (l:=θ) W.1 (by omega);have yb:Xc θ (Xa x.pc) ((0,0,0,0):Opn)=opN θ x.pc:=rfl;have fE:inb x.pc θ.length=true:=by grind [dc,decide_eq_true]
  rw[fE];obtain⟨t,H,ib⟩:=c.ok j F;have X:=c.k10 j F;simp only[We,yb];rw[←eo]at t H X;generalize opN θ x.pc=o at*;have C:=g.ξ.len;rw[Xi];rw[eT (show 0<=x.pc/\x.pc<=1000000 by omega)];by_cases p:o.1=5
  .rw[Wb p,Wb p];have:=lz t p;have dE:=WsX L g c hm hn this.1 this.2;have e4:(Q9 f.e)[k]'(by simp_all)=x.e:=by
    simp_all
   have:=Wou (m:=m) (o:=o) (f:=f.e) (k:=k) (by simp_all) (by simp_all) D;rw[this];simp only[Xd,e4,WsY];unfold K2;have Q:=Wrx m f x o;rw[show Q9 (c5 m f x o).1.e=f.π.map Kd.e by rw[←Q];rfl];exact lV rfl rfl Q
  .rw[Wa p,Wa p];by_cases u:o.1=10
   .rw[Wb u,Wb u,Wl3 c g w D];exact lV rfl rfl rfl
   .rw[Wa u,Wa u];by_cases r:o.1=6
    .rw[Wb r,Wb r];rw[W2 (xM t r).2 C,Ww (by simp;omega)];exact lV rfl rfl rfl
    .rw[Wa r,Wa r];by_cases s:o.1=7
     .rw[Wb s,Wb s];have h:=qx t s;rw[W2 h.1 C,WE (a:=x.pc) (b:=o.2.2.1) (by unfold I64;omega),eT (a:=x.pc+o.2.2.1) (by omega)];by_cases B:Xc x.ξ (Xa o.2.1) 0=0
      .rw[Wb B,Wb (show ah x.ξ o.2.1 0=0 from B)];simp only[We];exact lV rfl rfl rfl
      .rw[Wa B,Wa (show¬ah x.ξ o.2.1 0=0 from B)];simp only[We];exact lV rfl rfl rfl
     .rw[Wa s,Wa s];by_cases z:o.1=8
      .rw[Wb z,Wb z];rw[nZ (by omega)];have jd:x.κ.length<=24:=by
        have:=Wp Xb (g.κ w).pcs;simp only[Xy]at this;have J:=fh c.up x.pc.toNat (by omega);have K:=(gJ θ x.pc.toNat).2;omega
       simp only[ret,Xd];rw[Ww (by simp;omega)];exact lV rfl rfl rfl
      .rw[Wa z,Wa z];by_cases A:o.1=9
       .rw[Wb A,Wb A];have M:=g.κ w;have G:x.κ.length≠0:=by
         intro G;have h1:=Wp Xb M.pcs;simp only[Xy,G]at h1;have J:=fh c.up j (by omega);have K:=c.up j F
         grind [gD,qp,Xi]
        obtain⟨i,q,y,Y,S,T,⟨E,R⟩,vN,ci,nd,e5,e6⟩:=EN (d:=((0,0,[]):KM)) c.toCC (show x.pc.toNat<=θ.length by omega) M.pcs G;have oI:x.κ.length=q.length+1:=by grind
        have jd:x.κ.length<=24:=by
         have:=Wp Xb (g.κ w).pcs;simp only[Xy]at this;have J:=fh c.up x.pc.toNat (by omega);have K:=(gJ θ x.pc.toNat).2;omega
        have i1:W3 .i64 (Wh x.κ) 1=(q.length:Int):=by grind [HL]
        have g1:Xc x.κ (Xa (q.length:Int)) ((0,0,[]):KM)=y:=by grind
        have t1:aI (Xa (q.length:Int)) x.κ=x.κ.dropLast:=by rw[Y];simp
        rw[i1,dc,Wf (show q.length<x.κ.length by omega)];have V:(decide ((0:Int)<=(q.length:Int))&&decide ((q.length:Int)<=(x.κ.length:Int)))=true:=by simp;omega
        rw[V];simp only[We,g1,t1,S];rw[T,dc,Wf E];have H:Xc θ (Xa ((i:Nat):Int)) ((0,0,0,0):Opn)=opN θ (i:Int):=rfl;have P:=tq (c.ok i E).1 R;rw[←p0 E]at P;simp only[We,H];rw[W2 P C];exact lV rfl rfl rfl
       .rw[Wa A,Wa A];rw[PG D t (by omega) (by omega) g.ξ];exact lV rfl rfl rfl
end
section
theorem Qw{l:List Rw}{c v:Int}:∀(i:Nat),i<=l.length->oz l c i=some v->(c,v)∈l
 |0,_,h=>by simp[oz]at h
 |i+1,b,h=>by
  unfold oz at h;rw[Wn (show i<l.length by omega)]at h;by_cases a:l[i].1=c
  .grind
  .rw[Wa a]at h;exact Qw i (by omega) h
theorem L9{l:List Rw}{c v:Int}(h:bm l c=some v):ed l=true/\(c,v)∈l:=by
 unfold bm at h;by_cases a:ed l=true
 .rw[Wb a]at h;exact⟨a,Qw _ (Xl _) h⟩
 simp_all
theorem Si(l:List Rw):∀(j c:Nat) (o:List Rw),qm l j c o=o++(XZ c j).filterMap λc:Nat=>(bm l (c:Int)).map λv=>((c:Int),v)
 |0,c,o=>by simp[qm]
 |j+1,c,o=>by
  rw[qm,Si l j,List.range'_succ,List.filterMap_cons];unfold Ho;cases h:bm l (c:Int)<;>simp
theorem Na(l:List Rw):al l=(XZ 0 8).filterMap λc:Nat=>(bm l (c:Int)).map λv=>((c:Int),v):=by simp[al,Si]
theorem wg{l:List Rw}{r:Rw}:r∈al l↔(0<=r.1/\r.1<=7)/\bm l r.1=some r.2:=by
 rw[Na,List.mem_filterMap];constructor
 .rintro⟨c,a,h⟩;rw[XX]at a;cases hl:bm l (c:Int)with
  |none=>simp_all
  |some v=>
   grind
 .rintro⟨b,h⟩;refine⟨r.1.toNat,XX.2 (by omega),?_⟩
  grind
theorem wW(l:List Rw):(al l).Pairwise λa b=>a.1<b.1:=by
 rw[Na,List.pairwise_filterMap];refine List.Pairwise.imp ?_ (List.pairwise_lt_range' (s:=0) (n:=8));simp_all
theorem Bi(l:List Rw):(al l).length<=8:=by
 grind [Na,jR,List.length_filterMap_le]
theorem vZ{l:List Rw}:aZ (al l):=by
 intro r d;obtain⟨e,b⟩:=wg.1 d;obtain⟨a,c⟩:=L9 b;unfold ed at a;simp only[Xj]at a;have:=(GV.1 a.2) _ c;omega
end
section
theorem AP{p:Pb}:gr p=true↔(0<=p.1/\p.1<=7)/\(0<=p.2.1/\p.2.1<=4)/\(0<=p.2.2.1/\p.2.2.1<=1000000)/\0<=p.2.2.2/\p.2.2.2<=65535:=by
 simp[gr,bY,cD,Xj,Wg]
theorem mR{c:Int}{w:Wd}:im c w=true↔(0<=w.1/\w.1<=65535)/\(0<=w.2.1/\w.2.1<=c)/\0<=w.2.2/\w.2.2<=99:=by
 simp[im,cD,Xj,Wg]
theorem Nt{m:Mm}(h:aq m=true){c:Int}(a:0<=c/\c<=7):im m.1 (ah m.2 c (0,0,0))=true:=by
 grind [WP,ah,Wn,Xo]
theorem QY{m:Mm}{rv:Int}{p:Pb}(a:aq m=true)(c:gr p=true):gr (W7 m rv p)=true/\(W7 m rv p).1=p.1:=by
 have b:=AP.1 c;have d:=Nt a b.1;rw[mR]at d;obtain⟨h,f,g,_⟩:=WP a;unfold W7;simp only[WI,gF];have e:im m.1 (Xc m.2 (Xa p.1) (0,0,0))=true:=Nt a b.1
 grind [mR,AP]
section
variable{θ:List Opn}{pc dq wl mZ:Nat}{ms q:List KM}{y:KM}{c c' n n':Int}{x:Kd}{f:Fm}{m:Mm}{codes:List (List Opn)}{k:Nat}
theorem KMk.mono(h:KMk θ pc ms wl)(b:stk θ dq=stk θ pc)(c:wl<=mZ):KMk θ dq ms mZ:=
 ⟨by rw[b];exact h.pcs,λq a=>by have:=h.each q a;grind,h.up⟩
theorem KMk.begin(h:KMk θ pc ms wl)(g:pc<θ.length)(e:θ[pc].1=8){ξ:List Int}(i:Vals 4 ξ)(j:wl<=pc):KMk θ (pc+1) (ms++ [((pc:Int),(wl:Int),ξ)]) wl:=by
 refine⟨?_,?_,?_⟩
 .rw[oJ g e,Xw,Xw,h.pcs];rfl
 .intro q c;rcases Xn.1 c with c|c
  .exact h.each q c
  simp_all
 .refine dx.2 ⟨h.up,List.pairwise_singleton _ _,λa f b d=>?_⟩;rw[bH]at d;subst d;exact(h.each a f).2.2.2
theorem KMk.drop(h:KMk θ pc ms wl)(c:ms=q++ [y])(f:stk θ dq=(stk θ pc).dropLast)(g:y.2.1<=mZ):KMk θ dq q mZ:=by
 subst c;have d:=h.pcs;refine⟨?_,λa b=>?_,(dx.1 h.up).1⟩
 .grind
 .have h2:=h.each a (List.mem_append_left _ b);have e:=(dx.1 h.up).2.2 a b y (by simp)
  grind
theorem KOk.wk(h:KOk θ c n x)(a:c<=c')(b:n<=n'):KOk θ c' n' x:=
 {h with C5:=by have:=h.C5;omega,CY:=by have:=h.CY;omega}
theorem SI(h:KOk θ c n x)(j:c=f.C2)(b:Vals 4 f.ξ)(i:0<=f.C2):KOk θ c (n+1) (f.again x) where
 pc:=⟨aj _,by show(0:Int)<=_;omega⟩
 ξ:=b
 ε:=λr g=>by cases g
 wl:=aj _
 sl:=aj _
 C5:=by show 0<=f.C2/\f.C2<=c;omega
 CY:=by have:=h.CY;show 0<=x.CY+1/\x.CY+1<=n+1;omega
 C1:=λe a=>by cases a
 κ:=λ_=>⟨by show([]:List KM).map _=(stk θ 0).map _;rfl,(λq d=>by cases d),List.Pairwise.nil⟩
 pos:=⟨aj _,aj _⟩
 pb:=λh=>by cases h
 ζ:=by show(0:Int)<=0/\(0:Int)<=3;omega
 out:=by show(0:Int)<=0/\(0:Int)<=2;omega
theorem KMk.len(a:CC θ)(h:KMk θ pc ms wl)(b:pc<=θ.length):(ms.length:Int)=dep θ pc:=by
 have:=Wp Xb h.pcs;simp only[Xy]at this;rw[this,fh a.up pc b]
theorem KOk.on(k:CC θ)(h:KOk θ c n x)(l:x.ζ=0){i:Nat}(hi:i<θ.length)(j:x.pc=i){ξ:List Int}{C1:List En}{ι:List Rw}{κ:List KM}{C3:Bool}{pb:Pb}{dq:Nat}(o:dq<=θ.length)(g:i<dq)(b:Vals 4 ξ)(af:aZ ι)(q:ι.length<=x.ι.length+1)(p:C1.length<=x.C1.length+1)
  (d:∀e∈C1,(0<=e.1/\e.1<=7)/\(0<=e.2.1/\e.2.1<=65535)/\ -1<=e.2.2/\e.2.2<=x.C5) (f:x.C1.length<=C1.length) (m:KMk θ dq κ ι.length) (a:C3=true->gr pb=true):
  KOk θ c n {x with ξ:=ξ,C1:=C1,ι:=ι,κ:=κ,C3:=C3,pb:=pb,pc:=(dq:Int)}:=
 {h with
  pc:=by simp_all
  ξ:=b
  ε:=af
  wl:=by have:=h.wl;grind
  sl:=by have:=h.sl;grind
  C1:=d
  κ:=λ_=>by simp_all
  pos:=by have:=h.pos;grind
  pb:=a}
theorem Wvs(c:CC θ)(o:FOk codes n f)(h:KOk θ f.C2 n x)(d:x.ζ=0){i:Nat}(hi:i<θ.length)(b:x.pc=i)(s:θ[i].1=5)(u:aq m=true):
  KOk θ f.C2 (n+1) (c5 m f x θ[i]).2/\((c5 m f x θ[i]).1=f\/(c5 m f x θ[i]).1={f with Db:=true}):=by
 have B:=lz (c.ok i hi).1 s;have t:0<=θ[i].2.2.1/\θ[i].2.2.1<=7:=by grind [bY]
 have g:=h.κ d;rw[b,Xi]at g;have j:stk θ (i+1)=stk θ i:=gO hi (by omega) (by omega);have k:x.pc+1=((i+1:Nat):Int):=by omega
 unfold c5;cases hl:bm x.ι θ[i].2.2.1 with
 |some v=>
  have w:=h.ε _ (L9 hl).2;refine⟨?_,.inl rfl⟩;simp only[k];exact(KOk.on c h d hi b (by omega) (by omega) (h.ξ.set _ w.2) h.ε (by omega) (by omega) h.C1 (by omega) (g.mono j (by omega)) h.pb).wk (by omega) (by omega)
 |none=>
  simp only;cases he:ent f.buf θ[i].2.2.1 with
  |some r=>
   simp only;have C:=kT he;have A:r.2∈f.buf:=by
    grind
   have z:=o.bufE _ A;split
   .exact⟨SI h rfl o.ξ o.C2.1,.inl rfl⟩
   .refine⟨?_,.inl rfl⟩;simp only[k];refine(KOk.on c h d hi b (by omega) (by omega) (h.ξ.set _ z.2.1) h.ε (by omega) (by simp) (λe a=>?_) (by simp) (g.mono j (by omega)) h.pb).wk (by omega) (by omega);rcases Xn.1 a with a|a
    .exact h.C1 e a
    grind
  |none=>
   simp only;have y:gr (if x.C3=true then x.pb else(θ[i].2.2.1,0,0,0))=true:=by
    split
    .exact h.pb ‹_›
    grind [AP]
   have l:=QY (rv:=f.rv) u y;generalize W7 m f.rv (if x.C3=true then x.pb else(θ[i].2.2.1,0,0,0))=p at*;have q:=AP.1 l.1;split
   .refine⟨?_,.inr rfl⟩;exact KOk.wk (n:=n) {h with pb:=λ_=>l.1} (by omega) (by omega)
   .split
    .refine⟨?_,.inl rfl⟩;simp only[k];refine(KOk.on c h d hi b (by omega) (by omega) (h.ξ.set _ q.2.2.2) h.ε (by omega) (by simp) (λe a=>?_) (by simp) (g.mono j (by omega)) (λh=>by cases h)).wk (by omega) (by omega);rcases Xn.1 a with a|a
     .exact h.C1 e a
     .rw[bH]at a;subst a;exact⟨t,q.2.2.2,by simp,by have:=h.C5;grind⟩
    .refine⟨?_,.inl rfl⟩;exact KOk.wk (n:=n) {h with pb:=λ_=>l.1} (by omega) (by omega)
theorem Wyx(s:KC θ)(U:FOk codes n f)(h:KOk θ f.C2 n x)(k:x.ζ=0)(W:aq m=true):
  KOk θ f.C2 (n+1) (dU m f x θ).2/\((dU m f x θ).1=f\/(dU m f x θ).1={f with Db:=true}):=by
 have c:=s.toCC;unfold dU;split
 .refine⟨?_,.inl rfl⟩;exact KOk.wk (n:=n) {h with κ:=λh=>by simp_all,ζ:=by simp_all,out:=by simp_all} (by omega) (by omega)
 .obtain⟨i,a,g,H⟩:=kV (l:=θ) h.pc.1 (by omega);simp only[H];obtain⟨v,Z,Y⟩:=s.ok i a;have R:=s.k10 i a;have b:=h.κ k;rw[g,Xi]at b;have p:x.pc+1=((i+1:Nat):Int):=by omega
  have J:x.ι.length<=i:=by have:=h.wl;omega
  split
  .grind [Wvs]
  .split
   .refine⟨?_,.inl rfl⟩;unfold oo;split
    .refine KOk.wk (n:=n) {h with ε:=(λr e=>by cases e),wl:=by simp_all,κ:=λh=>by simp_all,ζ:=by simp_all,out:=by simp_all} (by omega) (by omega)
    .obtain⟨j,q,y,u,w,z,⟨G,F⟩,N,t,K,A,E⟩:=EN (d:=((0,0,[]):KM)) c (show i<=θ.length by omega) b.pcs ‹_›;obtain⟨D,O,P,Q⟩:=b.each y (by grind);simp only[w,z,Xi,←Int.natCast_succ];have V:=t.len;have X:(aI y.2.1.toNat x.ι).length=y.2.1.toNat:=by simp_all
     refine(KOk.on c h k a g (dq:=i8 θ j+1) (by omega) (by omega) (D.set _ (by omega)) (λr e=>h.ε r (List.mem_of_mem_take e)) (by omega) (by omega) h.C1 (by omega) ?_ h.pb).wk (by omega) (by omega);rw[show x.κ.dropLast=q by grind];exact b.drop u (by rw[t.st];exact A) (by omega)
   .split
    .refine⟨?_,.inl rfl⟩;have C:=xM v ‹_›;have o:stk θ (i+1)=stk θ i:=gO a (by omega) (by omega);simp only[p];refine(KOk.on c h k a g (by omega) (by omega) h.ξ (λr e=>?_) (by simp) (by omega) h.C1 (by omega) (b.mono o (by simp)) h.pb).wk (by omega) (by omega);rcases Xn.1 e with e|e
     .exact h.ε r e
     .rw[bH]at e;subst e;have:=C.1;unfold bY at this;exact⟨by simp_all,h.ξ.get _⟩
    .split
     .refine⟨?_,.inl rfl⟩;obtain⟨M,s2⟩:=s.sk i a ‹_›;have C:=qx v ‹_›;have o:stk θ (i+1)=stk θ i:=gO a (by omega) (by omega);have L:stk θ (i+1+θ[i].2.2.1.toNat)=stk θ i:=by grind [Mi]
      by_cases B:ah x.ξ θ[i].2.1 0=0
      .simp only[Wb B,show x.pc+θ[i].2.2.1+1=((i+1+θ[i].2.2.1.toNat:Nat):Int) by omega];exact(KOk.on c h k a g M (by omega) h.ξ h.ε (by omega) (by omega) h.C1 (by omega) (b.mono L (by omega)) h.pb).wk (by omega) (by omega)
      .simp only[Wa B,p];exact(KOk.on c h k a g (by omega) (by omega) h.ξ h.ε (by omega) (by omega) h.C1 (by omega) (b.mono o (by omega)) h.pb).wk (by omega) (by omega)
     .split
      .refine⟨?_,.inl rfl⟩;simp only[p];rw[g];exact(KOk.on c h k a g (by omega) (by omega) h.ξ h.ε (by omega) (by omega) h.C1 (by omega) (b.begin a ‹_› h.ξ J) h.pb).wk (by omega) (by omega)
      .split
       .refine⟨?_,.inl rfl⟩;have I:x.κ.length≠0:=by
         have S:=b.len c (by omega);have T:=c.up i a
         grind [gD,qp]
        obtain⟨j,q,y,u,w,z,⟨G,F⟩,N,t,K,A,E⟩:=EN (d:=((0,0,[]):KM)) c (show i<=θ.length by omega) b.pcs I;obtain⟨D,O,P,Q⟩:=b.each y (by grind);simp only[p];refine(KOk.on c h k a g (by omega) (by omega) (h.ξ.set _ (by omega)) h.ε (by omega) (by omega) h.C1 (by omega) ?_ h.pb).wk (by omega) (by omega);rw[show x.κ.dropLast=q by grind];exact b.drop u (qu a ‹_›) (by omega)
       .refine⟨?_,.inl rfl⟩;have o:stk θ (i+1)=stk θ i:=gO a (by omega) (by omega);simp only[p];exact(KOk.on c h k a g (by omega) (by omega) (G4 v (by omega) (by omega) h.ξ) h.ε (by omega) (by omega) h.C1 (by omega) (b.mono o (by omega)) h.pb).wk (by omega) (by omega)
end
end
section
def jM(c:Int)(v:List En)(r:Rw):List En:=match ent v r.1 with
 |some a=>v.set a.1 (r.1,r.2,c)
 |none=>v++ [(r.1,r.2,c)]
theorem Rv(c:Int)(v:List En)(r:Rw):(jM c v r).length<=v.length+1:=by
 unfold jM;split<;>simp
theorem apE{a b:En}:Ap cfE a b↔a.1≠b.1:=by unfold Ap cfE;omega
theorem Wsi{c:Int}{L M:List En}{r:Rw}(k:L.Pairwise (Ap cfE))(d:Ris cfE M)(h:∀x,x∈L↔x∈M):
  (jM c L r).Pairwise (Ap cfE)/\Ris cfE (eR cfE M (r.1,r.2,c))/\∀x,x∈jM c L r↔x∈eR cfE M (r.1,r.2,c):=by
 have b:(jM c L r).Pairwise (Ap cfE)/\∀x,x∈jM c L r↔x=(r.1,r.2,c)\/(x∈L/\Ap cfE x (r.1,r.2,c)):=by
  unfold jM ent;cases he:fnd (λe:En=>e.1==r.1) L 0 with
  |some a=>
   obtain⟨i,j,f,g⟩:=kT he;simp only[dj,mA]at f g
   grind [Xp,QL,qz,apE]
  |none=>
   grind [A9,Qh,apE]
 refine⟨b.1,n7 qz d,λx=>?_⟩;rw[b.2 x,kF qz d,h]
theorem Tt{c:Int}:∀{ε:List Rw} {L M:List En},L.Pairwise (Ap cfE)->Ris cfE M->(∀x,x∈L↔x∈M)->
  (ε.foldl (jM c) L).Pairwise (Ap cfE)/\Ris cfE (iG c M ε)/\∀x,x∈ε.foldl (jM c) L↔x∈iG c M ε
 | [],_,_,e,f,g=>⟨e,f,g⟩
 |r::ε,L,M,e,f,g=>by
  obtain⟨a,b,d⟩:=Wsi (c:=c) (r:=r) e f g;exact Tt (ε:=ε) a b d
theorem RK{c:Int}:∀(ε:List Rw) (L:List En),(ε.foldl (jM c) L).length<=L.length+ε.length
 | [],L=>by simp
 |r::ε,L=>by
  have:=RK (c:=c) ε (jM c L r)
  grind [Rv,Xu]
theorem Lj{c:Int}{P:En->Prop}:∀{ε:List Rw} {M:List En},Ris cfE M->(∀x∈M,P x)->(∀r∈ε,P (r.1,r.2,c))->∀x∈iG c M ε,P x
 | [],_,_,h,_=>h
 |r::ε,M,b,h,hr=>by
  refine Lj (ε:=ε) (n7 qz b) (λx d=>?_) λe a=>hr e (Xf _ a);rcases(kF qz b).1 d with rfl|a
  .simp_all
  simp_all
theorem R4{R:Type}{N:Nat}{K k b l:Int}{o:Bool}{p m i x r az:Int}{F:Bool}{y B u G:Int}{bz:List Ke}{cL:List Int}{q:List Ke}{z:List Int}{t:List Ke}{A:List Y_KidRun}{w:Nat}{s:List Int}{D:List Kb}{E:List Ke}{C:List Km}{K0:Int->Bool->Kw->Option R}(J:1048576<N)(Q:bz.length<=8):
  ∀(d j n:Nat) (v:List En),j+d=bz.length->d<n->v.length<=100+j->
  qK N K (Wh bz) k b l o p m i x r az F y B u G bz cL q z t A w s D E C K0 n (j:Int) v=K0 (bz.length:Int) false ((bz.drop j).foldl (jM b) v)
 |0,j,n+1,v,M,O,hv=>by
  simp_all [qK,W6,Xl,Wc,oS,List.foldl_nil]
 |d+1,j,n+1,v,M,O,hv=>by
  have g:j<bz.length:=by omega
  have P:=Lm (N:=N) (f:=(k,(b,(l,(o,(cL,(q,(v,(z,(t,Xk A w (p,(m,(i,(x,(r,(az,(s,(D,(E,(C,(F,(y,(B,(u,G)))))))))))))))))))))))) (c:=bz[j].1) (by grind) J;have W:=Rv b v bz[j];have e:∀H,H=jM b v bz[j]->qK N K (Wh bz) k b l o p m i x r az F y B u G bz cL q z t A w s D E C K0 n ((j+1:Nat):Int) H=K0 (bz.length:Int) false ((bz.drop j).foldl (jM b) v):=λH L=>by
   subst L;rw[R4 J Q d (j+1) n _ (by omega) (by omega) (by omega),VQ g,List.foldl_cons]
  simp only[qK,Wz,WQ g,Ws g,Wu g,Wk (show j<4611686018427387904 by omega),We,P,ret,Xd];have V:ent v bz[j].1=ent v bz[j].1:=rfl;unfold jM at e;cases he:ent v bz[j].1 with
  |some a=>
   rw[he]at e;obtain⟨S,T,I,U⟩:=kT he;rw[dj]at I;simp only[Wf (show((a.1:Int)>=0) by omega),We];rw[dc,Wf I];simp only[We,Xi];exact e _ rfl
  |none=>
   rw[he]at e;simp only[show decide ((-1:Int)>=0)=false from rfl,Wc];rw[Ww (by simp;omega)];simp only[We,cU];exact e _ rfl
 |_,_,0,_,_,h,_=>by omega
theorem My{R:Type}{N:Nat}{H o I p:Int}{q:Bool}{r s t u w x:Int}{y:Bool}{z A B C:Int}{eE:List Kb}{g:List Int}{D:List Ke}{E:List Kb}{F:List Int}{i:List Y_KidRun}{G:Nat}{c:List Int}{e:List Ke}{f:List Km}{K0:Int->Bool->Kaa->Option R}(b:eE.length<=1000):
  ∀(d j n:Nat) (v:List Rw),j+d=eE.length->d<n->v.length<=1000+j->
  uz N H (Wh eE) o I p q r s t u w x y z A B C eE g D E F i G c e f K0 n (j:Int) v=K0 (eE.length:Int) false (v++hN (eE.drop j))
 |0,j,n+1,v,l,m,hv=>by
  have:j=eE.length:=by omega
  subst this;simp only[uz,W6 (Xl eE.length),Wc,oS,hN,List.filter_nil,cV,List.append_nil]
 |d+1,j,n+1,v,l,m,hv=>by
  have a:j<eE.length:=by omega
  have k:hN (eE.drop j)=if eE[j].2.2= -1 then(eE[j].1,eE[j].2.1)::hN (eE.drop (j+1))else hN (eE.drop (j+1)):=by
   rw[VQ a];unfold hN
   grind
  simp only[uz,Wz,WQ a,Ws a,Wu a,Wk (show j<4611686018427387904 by omega),We,WI];rw[k];by_cases h:eE[j].2.2= -1
  .rw[Wb h,Wb h,Ww (by simp;omega)];simp only[We];rw[My b d (j+1) n _ (by omega) (by omega) (by simp;omega)];simp
  .rw[Wa h,Wa h];rw[My b d (j+1) n _ (by omega) (by omega) (by omega)]
 |_,_,0,_,_,h,_=>by omega
variable{N:Nat}{codes:List (List Opn)}{n:Int}{f:Fm}{k:Nat}{θ:List Opn}{m:Mm}{x:Kd}
theorem Wy8{l:List En}(h:Ris cfE l):l.Pairwise (Ap cfE):=h.imp λh=>.inl h
theorem Wl7(l:k<f.π.length)(Q:f.π.length<=3)(W:θ.length<=24)(a:FOk codes n f)(o:codes.getD k []=θ)(q:f.π[k]=x)(j:1048576<N):
  Cc N f.e (k:Int)=some (((Fm.put (dX f x k) k).e,()),()):=by
 have b:=a.kid k l;rw[o,q]at b;obtain⟨F,G,H,I,J,K,L,M,O,u⟩:=fmP f;have E:=b.pc;have U:=b.wl;have R:=b.sl;have X:=a.buf8;have V:f.υ.length<=3:=by
  have i:=a.done
  grind
 have S:=a.readsL;have s:Xc (f.π.map Kd.e) (Xa (k:Int)) d_KidRun=x.e:=by
  simp_all
 unfold Cc;simp only[u,Xy];rw[dc,Wf l];simp only[We,s];have t:px N x.e.2.2.2.2.2.2.2.2.1=ret (al x.ι):=Gh (show x.ι.length<=1048576 by omega) j;rw[t];simp only[ret,Xd];have D:=Bi x.ι;rw[show(0:Int)=((0:Nat):Int)from rfl];rw[R4 (bz:=al x.ι) j D (al x.ι).length 0 N _ (by omega) (by omega) (by grind)];simp only[qC];have d:P6 f.e=f.buf:=rfl;have p:Wm .i64 f.e.2.1 1=f.C2+1:=eT (by have:=a.C2;omega);rw[d,p];obtain⟨B,C,m⟩:=Tt (c:=f.C2+1) (ε:=al x.ι) (Wy8 a.bufR) a.bufR (λx=>Iff.rfl);unfold Oo;have T:=RK (c:=f.C2+1) (al x.ι) f.buf;rw[SL (rng:=E0) (N:=N) qz C B m (λe h=>?_) (by omega)]
 .simp only[Xd];have v:P7 x.e=x.C1:=rfl;rw[show(Kd.e x).2.2.2.2.2.2.2.1=x.C1 from rfl];rw[My (eE:=x.C1) (by omega) x.C1.length 0 N _ (by omega) (by omega) (by grind)];rw[Ww (by grind)];simp only[We,qC];have w:∀(g:Fm) (y:Kd),U6 (Xk (f.π.map Kd.e) k y.e) (S5 (f.μ++hN x.C1) (S4 (f.υ++ [(k:Int)]) (S3 (iG (f.C2+1) f.buf (al x.ι)) f.e.2.2.2)))=(f.Db,f.ξ,f.start,iG (f.C2+1) f.buf (al x.ι),f.υ++ [(k:Int)],f.μ++hN x.C1,(f.π.set k y).map Kd.e):=λg y=>by
   rw[XG];rfl
  rw[Xi];exact Wp (λz=>some (((f.rv,(f.C2+1,((0:Int),z))),()),())) (w f {x with ζ:=3,pos:=0,κ:=[]})
 .have i:=(m e).1 h;have:=Lj (P:=λe=>0<=e.1/\e.1<=7) a.bufR (λe h=>(a.bufE e h).1) (λr A=>(wg.1 A).1) e i
  grind [E0,tC]
theorem Wny(g:k<f.π.length)(c:FOk codes n f)(d:KOk θ f.C2 n x)(a:f.π[k]=x)(i:n<=100000)(o:Int):
  uA N (Fm.e {f with C0:=o}) (k:Int)=some (((Fm.put ({f with C0:=o},f.again x) k).e,()),()):=by
 have h:=OV (N:=N) (f:=Fm.e {f with C0:=o}) (k:=k) (x:=x.e) (by show k<(f.π.map Kd.e).length;simp_all) c.ξ.len (by have:=d.CY;show 0<=x.CY/\x.CY<=100000;omega);have b:U9 (Xk (Q9 (Fm.e {f with C0:=o})) k x.e) (Fm.e {f with C0:=o})=Fm.e {f with C0:=o}:=by
  have:=U9e {f with C0:=o} k x;rw[←a]at this;simp only[jN]at this;rw[←a];exact this
 rw[b]at h;rw[h];exact Wp (λz=>some ((z,()),())) (U9e {f with C0:=o} k (f.again x))
theorem WlA(g:k<f.π.length)(G:f.π.length<=3)(I:aq m=true)(u:KC θ)(o:FOk codes n f)(s:codes.getD k []=θ)(J:n<=100000)(t:1048576<N):
  Ir N f.e (k:Int) θ m=some (((bJ m f k θ).e,()),()):=by
 obtain⟨x,b⟩:∃x,f.π[k]=x:=⟨_,rfl⟩;have q:=o.kid k g;rw[s,b]at q;obtain⟨V,W,B,C,X,Y,D,Z,f8,E⟩:=fmP f;obtain⟨K,k1,k2,k3,M,k5,k6,O,k8,k9,L⟩:=kdP x;have iZ:=q.sl;have R:=q.pc;have P:=u.len;have z:Xc (f.π.map Kd.e) (Xa (k:Int)) d_KidRun=x.e:=by
  simp_all
 have A:U9 (Xk (f.π.map Kd.e) (Xa (k:Int)) x.e) f.e=f.e:=by
  rw[Xi,U9e,←b,jN]
 have U:Fm.put (f,x) k=f:=by unfold Fm.put;simp only;rw[←b,jN]
 unfold Ir bJ cH;simp only[Wz,E,C,Xy];rw[GQ];by_cases r:f.Db=true
 .rw[Wb r,Wb r]
 rw[Wa r,Wa r];rw[dc,Wf g];simp only[We,Wc,z,A,K,M,O,B,WI,Wn g,b];by_cases d:x.ζ=0
 .rw[Wb d,Wb d,WpG g I u o s b d J t];rfl
 .rw[Wa d,Wa d];by_cases l:x.ζ=1
  .rw[Wb l,Wb l];by_cases w:f.C0=0
   .rw[Wb w,Wb w,eT (by omega),Xi];exact lV rfl rfl rfl
   simp_all
  .rw[Wa l,Wa l];by_cases v:x.ζ=2
   .rw[Wb v,Wb v];unfold Wh;by_cases p:x.pos=(x.C1.length:Int)
    .rw[Wb p,Wb p,Wl7 g G P o s b t];rfl
    .rw[Wa p,Wa p];have T:=q.pos;have F:inb x.pos x.C1.length=true:=by grind [inb]
     rw[F];have H:Xc x.C1 (Xa x.pos) ((0,0,0):En)=ah x.C1 x.pos (0,0,0):=rfl;simp only[We,H];have y:=Lm (N:=N) (f:=f.e) (c:=(ah x.C1 x.pos (0,0,0)).1) (by show f.buf.length<=1048576;have:=o.buf8;omega) t;rw[show f.e.2.2.2.2.2.2.1=f.buf from rfl]at y;rw[y];simp only[ret,Xd,D];have S:S2 (0:Int) f.e=Fm.e {f with C0:=0}:=rfl;have iM:uA N (U9 (Xk (f.π.map Kd.e) (Xa (k:Int)) x.e) (S2 0 f.e)) (k:Int)=some (((Fm.put ({f with C0:=0},f.again x) k).e,()),()):=by
      grind [U9e,Xi,U9,Xk,Kd.e,Fm.e,jN,Wny]
     unfold tv;have Q:Wm .i64 x.pos 1=x.pos+1:=eT (by omega);rw[Q];cases he:ent f.buf (ah x.C1 x.pos (0,0,0)).1 with
     |some a=>
      obtain⟨g1,g2,i,j⟩:=kT he;rw[dj]at i;rw[mA,Xp i]at j;injection j with j;simp only[Wf (show((a.1:Int)>=0) by omega),We];rw[dc,Wf i];simp only[We,Wu i,j];by_cases h:a.2.2.2=(ah x.C1 x.pos (0,0,0)).2.2
      .rw[Wb h,Wb h,Xi];exact lV rfl rfl rfl
      simp_all
     |none=>
      simp only[show decide ((-1:Int)>=0)=false from rfl,Wc];by_cases h:(-1:Int)=(ah x.C1 x.pos (0,0,0)).2.2
      .rw[Wb h,Wb h,Xi];exact lV rfl rfl rfl
      simp_all
   simp_all
end
section
section
variable{codes:List (List Opn)}{n:Int}{f f':Fm}{k:Nat}{θ:List Opn}{m:Mm}{x y:Kd}
theorem FOk.len3(h:FOk codes n f)(b:codes.length<=3):f.υ.length<=3:=by
 have a:=h.done;have:=V2 (p:=λx:Kd=>decide (x.ζ=3)) (l:=f.π);have:=h.len;omega
theorem FOk.put1(h:FOk codes n f)(c:k<f.π.length)(e:codes.getD k []=θ){o:Int}{l:Bool}(g:0<=o/\o<=f.π.length)(m:KOk θ f.C2 (n+1) y)(j:f.π[k].ζ≠3)(d:y.ζ≠3):
  FOk codes (n+1) (Fm.put ({f with C0:=o,Db:=l},y) k) where
 len:=by show(f.π.set k y).length=_;rw[aK];exact h.len
 ξ:=h.ξ
 C2:=h.C2
 done:=by
  show f.υ.length=(f.π.set k y).countP _;rw[X2 c,Wa (by simp_all),Wa (by simp_all)];exact h.done
 bufR:=h.bufR
 bufE:=h.bufE
 readsL:=h.readsL
 readsE:=h.readsE
 C0:=by show 0<=o/\o<=((f.π.set k y).length:Int);simp_all
 kid:=λi a=>by
  change i<(f.π.set k y).length at a;rw[aK]at a;show KOk (codes.getD i []) f.C2 (n+1) (f.π.set k y)[i];rw[ex];by_cases b:k=i
  .simp_all
  .rw[Wa b];exact(h.kid i a).wk (by omega) (by omega)
theorem FOk.wk(h:FOk codes n f){n':Int}(b:n<=n'):FOk codes n' f:=
 {h with kid:=λk a=>(h.kid k a).wk (by omega) b}
theorem WmE(h:∀e∈x.C1,(0<=e.1/\e.1<=7)/\(0<=e.2.1/\e.2.1<=65535)/\ -1<=e.2.2/\e.2.2<=x.C5):aZ (hN x.C1):=by
 intro r a;unfold hN at a
 grind
theorem Wn8(l:List En):(hN l).length<=l.length:=by
 simp[hN,Xy,List.length_filter_le]
theorem Pm{c:Int}:∀{ε:List Rw} {M:List En},Ris cfE M->Ris cfE (iG c M ε)
 | [],_,h=>h
 |r::ε,M,h=>Pm (ε:=ε) (n7 qz h)
theorem Ws9(a:FOk codes n f)(o:k<f.π.length)(p:θ.length<=24)(j:codes.getD k []=θ)(l:f.π[k]=x)(m:x.ζ=2):
  FOk codes (n+1) (Fm.put (dX f x k) k):=by
 have d:=a.kid k o;rw[j,l]at d;have t:=a.C2;unfold dX Fm.put;refine{len:=?_,ξ:=a.ξ,C2:=?_,done:=?_,bufR:=Pm a.bufR,bufE:=?_,readsL:=?_,readsE:=?_,C0:=?_,kid:=?_}
 .simp only[aK];exact a.len
 .grind
 .simp only[Xx,VR];rw[X2 o,l,Wa (by simp[m]),Wb (by simp),←a.done];rfl
 .simp only;refine Lj a.bufR (λe g=>?_) λr b=>?_
  .have:=a.bufE e g;omega
  .have:=vZ r b;grind
 .have h1:=a.readsL;have m:=Wn8 x.C1;have q:=d.sl;have s:=d.pc
  grind
 .intro r b;rcases Xn.1 b with b|b
  .exact a.readsE r b
  .exact WmE d.C1 r b
 .simp_all
 .intro i hi;simp only[aK]at hi;simp only[ex];by_cases g:k=i
  .subst g;rw[Wb rfl,j];refine KOk.wk (c:=f.C2) (n:=n) ?_ (by omega) (by omega);exact{d with κ:=(λh=>by simp_all),pos:=⟨aj _,by simp_all⟩,ζ:=by simp_all}
  .rw[Wa g];exact(a.kid i hi).wk (by omega) (by omega)
theorem Sv(b:k<f.π.length)(t:aq m=true)(p:KC θ)(a:FOk codes n f)(d:codes.getD k []=θ):FOk codes (n+1) (bJ m f k θ):=by
 obtain⟨x,i⟩:∃x,f.π[k]=x:=⟨_,rfl⟩;have e:=a.kid k b;rw[d,i]at e;have w:Fm.put (f,x) k=f:=by unfold Fm.put;simp only;rw[←i,jN]
 have j:=a.wk (show n<=n+1 by omega);unfold bJ cH;split
 .exact j
 rw[Wn b,i];split
 .rename_i h0;obtain⟨r,s⟩:=Wyx p a e h0 t;have u:(dU m f x θ).2.ζ≠3:=by
   grind [dU,c5,oo,Fm.again]
  have:=r;have v:∀q:Fm×Kd,(q.1=f\/q.1={f with Db:=true})->KOk θ f.C2 (n+1) q.2->q.2.ζ≠3->FOk codes (n+1) (Fm.put q k):=by
   rintro⟨g,y⟩ hg hy hp;simp only at hg hy hp;rcases hg with rfl|rfl
   .exact FOk.put1 (o:=g.C0) (l:=g.Db) a b d a.C0 hy (by simp_all) hp
   .exact FOk.put1 (o:=f.C0) (l:=true) a b d a.C0 hy (by simp_all) hp
  simp_all
 .split
  .rename_i r;split
   .refine FOk.put1 (o:=(k:Int)+1) (l:=f.Db) a b d (by omega) ?_ (by simp_all) (by simp_all);refine KOk.wk (c:=f.C2) (n:=n) ?_ (by omega) (by omega);exact{e with κ:=(λh=>by simp_all),ζ:=by simp_all}
   simp_all
  .split
   .rename_i s;split
    .exact Ws9 a b p.len d i s
    .simp only;split
     .refine FOk.put1 (o:=f.C0) (l:=f.Db) a b d a.C0 ?_ (by simp_all) (by simp_all);refine KOk.wk (c:=f.C2) (n:=n) ?_ (by omega) (by omega);exact{e with pos:=by(have:=e.pos;grind)}
     .refine FOk.put1 (o:=0) (l:=f.Db) a b d (by omega) (SI e rfl a.ξ a.C2.1) (by simp_all) (by show(0:Int)≠3;omega)
   simp_all
theorem WtN{rv:Int}{ξ:List Int}{ι:List Rw}(a:Vals 4 ξ)(f:0<=n):FOk codes n (eO rv ξ ι codes.length) where
 len:=by simp[eO]
 ξ:=a
 C2:=by simp[eO]
 done:=by
  simp only[eO,jQ];rw[List.countP_replicate,Wa (by simp)]
 bufR:=by
  grind [Ris,eO,wW,cfE]
 bufE:=λe b=>by
  obtain⟨r,a,rfl⟩:=Xz.1 b;have:=vZ r a
  grind [eO]
 readsL:=by simp[eO]
 readsE:=λr a=>by cases a
 C0:=by simp[eO]
 kid:=λk d=>by
  simp only[eO,List.getElem_replicate];exact{pc:=by simp,ξ:=a,ε:=(λr a=>by cases a),wl:=by simp,sl:=by simp,C5:=by simp,CY:=by simp;omega,C1:=(λe b=>by cases b),κ:=(λ_=>⟨by simp[stk],(λq c=>by cases c),List.Pairwise.nil⟩),pos:=by simp,pb:=(λh=>by cases h),ζ:=by simp,out:=by simp}
end
end
section
theorem LL{α β R:Type}{body:Int->α->List β->(List β->Option R)->Option R}{K:Int->List β->Option R}{f:α->β}:∀(l:List α) (d r:List β),l.length<=r.length->
  (∀(j:Nat) x (v:List β) k,x∈l->j<v.length->body j x v k=k (v.set j (f x)))->d5 body K l d.length (d++r)=K ((d.length+l.length:Nat):Int) (d++(l.map f++r.drop l.length))
 | [],d,r,_,_=>by simp[d5]
 |x::l,d,[],h,_=>by simp at h
 |x::l,d,y::r,h,hb=>by
  rw[d5,hb d.length x _ _ (Xg ..) (by simp),Wkp];have:=LL (body:=body) (K:=K) (f:=f) l (d++ [f x]) r (by grind) λj z v k a=>hb j z v k (Xf _ a);simp only[Xx,VR,lB,List.singleton_append]at this;rw[this];simp only[Xu,bK,List.drop_succ_cons,fG];rw[show d.length+1+l.length=d.length+(l.length+1) by omega]
theorem Ek{α R:Type}{l:List α}{p:α->Bool}{lp:Nat->Int->Option R}{N:Nat}{K0:Int->Option R}{K1:Option R}(c:l.length<N)(e:l.length<=1048576)(d:∀n (j:Nat) (h:j<l.length),lp (n+1) (j:Int)=bif p l[j]then K0 j else lp n ((j+1:Nat):Int))(b:∀n,lp (n+1) (l.length:Int)=K1):lp N 0=match fnd p l 0 with|some r=>K0 r.1|none=>K1:=by
 have a:=WH (l:=l) (V:=Unit) (lp:=λn j _=>lp n j) c (body:=λj x v k=>bif p x then K0 j else k v) (K:=λ_ _=>K1) (λn j v h=>d n j h) (λn v=>b n) ();refine(a.trans (GD (p:=p) (E:=λj _=>K0 j) l 0 () λj x v k _=>rfl)).trans ?_;cases fnd p l 0<;>rfl
theorem Hq{α:Type}{p:α->Bool}:∀(l:List α) (j:Nat),(fnd p l j).isSome=l.any p
 | [],_=>rfl
 |x::l,j=>by
  unfold fnd;rw[List.any_cons];cases p x
  .simp[Hq l]
  .rfl
variable{N:Nat}
theorem Wn4{f:Fm}(b:f.π.length<=3)(m:1048576<N):J7 N f.e=ret (mO f):=by
 unfold J7 Z9 Zs;have e:f.e.2.2.2.2.2.2.2.2.2=f.π.map Kd.e:=rfl;rw[e];have o:(f.π.map Kd.e).length<=3:=by simpa using b
 have g:=Ek (l:=f.π.map Kd.e) (p:=λx=>x.1 !=3) (N:=N) (lp:=λn j=>Zh N (f.π.map Kd.e) (λd=>(some ((),(d,())))) (λi k=>(some ((),((-1:Int),())))) n j) (K0:=λj=>some ((),(j,()))) (K1:=some ((),((-1:Int),()))) (by omega) (by omega)
  (λn j c=>by
   simp only[Zh,WQ c,Ws c,Wu c,Wk (show j<4611686018427387904 by omega),We,OD,Xd])
  (λn=>by simp only[Zh,W6 (Xl _),Wc])
 rw[g];have a:=Hq (p:=λx:Y_KidRun=>x.1 !=3) (f.π.map Kd.e) 0;have b:(f.π.map Kd.e).any (λx=>x.1 !=3)= !mO f:=by
  unfold mO;rw[List.any_map,←jF];have:((λx:Y_KidRun=>x.1 !=3)∘Kd.e)= λx:Kd=>!decide (x.ζ=3):=by
   funext x;show(x.ζ !=3)= !decide (x.ζ=3);by_cases h:x.ζ=3<;>simp[h]
  rw[this]
 rw[b]at a;cases hf:fnd (λx:Y_KidRun=>x.1 !=3) (f.π.map Kd.e) 0 with
 |some r=>
  rw[hf]at a;simp only[Xd,Wf (show((r.1:Int)>=0) by omega),Xr,ret];rw[show mO f=false by simpa using a.symm]
 |none=>
  rw[hf]at a;rw[show mO f=true by simpa using a.symm];rfl
theorem WnX{f:Fm}(h:f.buf.length<=1000)(g:1048576<N):CE N f.e=ret (jV f):=by
 unfold CE;have e:f.e.2.2.2.2.2.2.1=f.buf:=rfl;rw[e];have c:=WH (l:=f.buf) (V:=List Rw) (R:=Unit×(List Rw×Unit)) (lp:=λn j v=>yp N f.buf (Wh f.buf) (λm d b=>(some ((),(b,())))) n j v) (n:=N) (by omega)
  (body:=λj x v k=>bif WC (v.length+ [(x.1,x.2.1)].length)then k (Xe v [(x.1,x.2.1)])else none) (K:=λ_ v=>ret v)
  (λn i v a=>by simp only[yp,WQ a,Ws a,Wu a,Wk (show i<4611686018427387904 by omega),We])
  (λn v=>by simp only[yp,W6 (Xl f.buf.length),Wc]) []
 refine c.trans ?_;rw[Al (f:=λx:En=>(x.1,x.2.1)) f.buf 0 [] (by simp;omega) (λj x v k _=>rfl)];rfl
theorem Wmj{f:Fm}(o:Vals 4 f.ξ)(s:f.π.length<=3)(u:∀x∈f.π,x.ξ.length<=1000)(m:1048576<N):CD N f.e=ret (oi f):=by
 unfold CD oi;have e:f.e.2.2.2.2.1=f.ξ:=rfl;have r:f.e.2.2.2.2.2.2.2.2.2=f.π.map Kd.e:=rfl;have b:jL f.ξ=true:=lI.2 o;have F:=o.len;have G:(f.π.map Kd.e).length=f.π.length:=by simp
 rw[e,r,F2 (by omega) m,Wb ⟨b,s⟩];simp only[ret,Xd,b,Xr,Wc];rw[Wl (by unfold Wh;omega),nZ (by omega)];simp only[ret,Xd,Wc];have a:=WH (l:=f.π.map Kd.e) (V:=List Int) (R:=Unit×(List Int×Unit)) (lp:=λn j v=>qH N (f.π.map Kd.e) (Wh (f.π.map Kd.e)) (λD E q=>(some ((),(q,())))) n j v) (n:=N) (by omega)
  (body:=λj x v k=>bif inb j v.length then(bif x.2.2.2.2.2.1==(1:Int)then((Z8 N (P6 x) (4:Int)).bind λc=>(bif c.2.1 then(bif inb 0 (P6 x).length then(bif inb j (Xk v j.toNat 0).length then k (Xk (Xk v j.toNat 0) j.toNat (Xc (P6 x) (Xa (0:Int)) 0))else none)else none)else k (Xk v j.toNat 0)))else k (Xk v j.toNat 0))else none) (K:=λ_ v=>ret v)
  (λn i v d=>by simp only[qH,Wz,WQ d,Ws d,Wu d,Wk (show i<4611686018427387904 by omega),We];rfl)
  (λn v=>by simp only[qH,W6 (Xl _),Wc]) f.ξ
 refine a.trans ?_;have g:=LL (β:=Int) (K:=λ_ v=>ret v) (f:=λx:Y_KidRun=>if P5 x=1/\jL (P6 x)=true then ah (P6 x) 0 0 else 0) (f.π.map Kd.e) [] f.ξ (by omega) (body:=λj x v k=>bif inb j v.length then(bif x.2.2.2.2.2.1==(1:Int)then((Z8 N (P6 x) (4:Int)).bind λc=>(bif c.2.1 then(bif inb 0 (P6 x).length then(bif inb j (Xk v j.toNat 0).length then k (Xk (Xk v j.toNat 0) j.toNat (Xc (P6 x) (Xa (0:Int)) 0))else none)else none)else k (Xk v j.toNat 0)))else k (Xk v j.toNat 0))else none)
  (λj x v k C t=>by
   obtain⟨y,w,rfl⟩:=Xz.1 C;have z:=u y w;have A:(Kd.e y).2.2.2.2.2.1=y.out:=rfl;have p:P5 (Kd.e y)=y.out:=rfl;have B:P6 (Kd.e y)=y.ξ:=rfl;simp only[A,p,B,dc,Wf t,We,F2 (show y.ξ.length<=1048576 by omega) m,ret,Xd,WI,Xi,aK];by_cases a:y.out=1
   .rw[Wb a];cases b:jL y.ξ
    .rw[Wa (by simp)];rfl
    .have:y.ξ.length=4:=(lI.1 b).len;rw[Wb ⟨a,rfl⟩,show inb (0:Int) y.ξ.length=true by rw[this];rfl];simp only[We,nv];rfl
   .rw[Wa a,Wa (λh=>a h.1)])
 simp only[jQ,mx,Xy,List.map_map]at g;exact g
theorem Wkq{rv:Int}{ξ:List Int}{ι:List Rw}{π:Nat}(z:ξ.length<=1000)(A:ι.length<=1000)(y:π<=3)(t:1048576<N):
  CN N rv ξ ι (π:Int)=ret (eO rv ξ ι π).e:=by
 unfold CN;rw[nZ (by omega),Gh (by omega) t];have p:=Bi ι;simp only[ret,Xd];have s:=WH (l:=al ι) (V:=List En) (R:=Unit×(Y_Family×Unit)) (lp:=λn j v=>xY N ξ π (Wh (al ι)) rv (al ι) ξ (λw B a=>
  (qL N ξ π rv ξ (al ι) a
 (λq g c=>
  (some ((),((rv,((0:Int),((0:Int),(false,(ξ,(al ι,(a,(([]:List Int),(([]:List Ke),c))))))))),()))))
 N (0:Int) ([]:List Y_KidRun))) n j v) (n:=N) (by omega)
  (body:=λj x v k=>bif WC (v.length+ [(x.1,(x.2,(0:Int)))].length)then k (Xe v [(x.1,(x.2,(0:Int)))])else none) (K:=λ_ a=>(qL N ξ π rv ξ (al ι) a
 (λq g c=>
  (some ((),((rv,((0:Int),((0:Int),(false,(ξ,(al ι,(a,(([]:List Int),(([]:List Ke),c))))))))),()))))
 N (0:Int) ([]:List Y_KidRun)))
  (λn i v m=>by simp only[xY,WQ m,Ws m,Wu m,Wk (show i<4611686018427387904 by omega),We])
  (λn v=>by simp only[xY,W6 (Xl _),Wc]) []
 refine s.trans ?_;rw[Al (f:=λx:Rw=>(x.1,(x.2,(0:Int)))) (al ι) 0 [] (by simp;omega) (λj x v k _=>rfl)];simp only[mx];obtain⟨b,o⟩:∃b,(al ι).map (λx:Rw=>(x.1,(x.2,(0:Int))))=b:=⟨_,rfl⟩;rw[o];have lp:∀(d j n:Nat) (v:List Y_KidRun),j+d=π->d<n->v=Xt j (Kd.e {ξ:=ξ})->qL N ξ π rv ξ (al ι) b (λq g c=>(some ((),((rv,((0:Int),((0:Int),(false,(ξ,(al ι,(b,(([]:List Int),(([]:List Ke),c))))))))),())))) n (j:Int) v=some ((),((rv,((0:Int),((0:Int),(false,(ξ,(al ι,(b,(([]:List Int),(([]:List Ke),Xt π (Kd.e {ξ:=ξ})))))))))),())):=by
  intro d
  induction d with
  |zero=>
   intro j n v u p h;obtain⟨n,rfl⟩:∃n',n=n'+1:=⟨n-1,by omega⟩;have:j=π:=by omega
   subst this;simp only[qL,Int.lt_irrefl,decide_false,Wc,h]
  |succ d ih=>
   intro j n v u p h;obtain⟨n,rfl⟩:∃n',n=n'+1:=⟨n-1,by omega⟩;have r:(j:Int)<(π:Int):=by omega
   have C:v.length=j:=by rw[h];simp
   simp only[qL,Wf r,We,nZ (show ξ.length<=1048576 by omega),ret,Xd];rw[Ww (by simp;omega)];simp only[We];rw[Wk (by omega)];refine ih (j+1) n _ (by omega) (by omega) ?_;rw[h,List.replicate_succ'];rfl
 have:=lp π 0 N [] (by omega) (by omega) rfl;refine this.trans ?_;unfold eO Fm.e;simp only[List.map_replicate,o]
end
end Go.Sx
