/- Plain laws of the Lean functions. -/
import Derived.Test.YtpfdembammnpcaaGreatT2
open Option renaming bind_some→Xd
open Nat renaming le_refl→Xm,pow_succ→Hs,zero_add→bX,le_trans→fP,add_zero→c5,add_assoc→dB
open List renaming append→Xf,length_cons→Xs,mem_cons_self→Xl,mem_cons_of_mem→Xg,all_eq_true→bA,getD→Xc,reverse_cons→YP,append_nil→hU,getElem?_eq_none→gw,getElem?_set→Yg,getD_eq_getElem?_getD→lg,getElem?_eq_getElem→Xq,getElem?_set_ne→Yb,length_set→cZ,nil_append→df,mem_cons→Xr,not_mem_nil→mB,take_succ_eq_append_getElem→Au,take_of_length_le→vD,length→Xb,length_nil→j0,cons_append→dO,drop_eq_getElem_cons→dY,append_assoc→fq,drop→gy,drop_length→fr,all_cons→dG,length_take→dA,mem_map→Xv,map_append→Xx,filter_eq_self→AA,flatMap_cons→pU,map_cons→bz,length_append→Xz,getElem_mem→Xy,mem_of_mem_take→nI,replicate→Xk,set→Xe,set_set→mC,length_dropLast→AC,append_inj'→NQ,dropLast_concat→Ym,pairwise_cons→Xu,mergeSort_perm→YM,getElem_of_mem→ln,pairwise_iff_getElem→gu,mem_iff_getElem→Ea,range→cK,map_nil→eX
open Bool renaming not_true→Xn,and_eq_true→Xh,false_and→pY,not_eq_true'→de,or_eq_true→pM,not_eq_true→N0,false_or→Hq,toNat_false→NZ,true_and→d3,and_eq_false_iff→pL,or_eq_false_iff→Hn,not_eq_false'→NW
open Int renaming toNat→Xa,toNat_natCast→Xj,eq_ofNat_of_zero_le→Hm,pow_succ→Hr
namespace Go.Sx
set_option linter.unusedVariables false
set_option linter.unusedSimpArgs false
section
def bH(v:Int):Bool:=decide (0<=v)&&decide (v<=65535)
theorem ct{N:Nat}{x a b:Int}:Za N x a b=ret (decide (a<=x)&&decide (x<=b)):=by
 unfold Za;by_cases h:a<=x<;>simp[h]
theorem WK{N:Nat}{x a b:Int}:Zb N x a b=ret (decide (a<=x)&&decide (x<=b)):=by
 unfold Zb;by_cases h:a<=x<;>simp[h]
theorem ge{α:Type}{p:α->Bool}(l:List α):(l.any λx=>!p x)= !l.all p:=by
 grind
abbrev Rw:=Int×Int
def bO(v:Int):Bool:=decide (0<=v)&&decide (v<=7)
def mo(r:Rw):Bool:=bO r.1&&bH r.2
def cb(l:List Rw):Bool:=decide (l.length<=300)&&l.all mo
def iL(l:List Int):Bool:=decide (l.length=8)&&l.all bH
theorem W8{N:Nat}{v:Int}:fu N v=ret (bH v):=by
 unfold fu;simp only[ct,ret,Xd];rfl
theorem jy{N:Nat}{v:Int}:fQ N v=ret (bH v):=by
 unfold fQ;simp only[WK,ret,Xd];rfl
theorem lO{N:Nat}{v:Int}:km N v=ret (bO v):=by
 unfold km;simp only[ct,ret,Xd];rfl
theorem W0{N:Nat}{v:Int}:gz N v=ret (bO v):=by
 unfold gz;simp only[WK,ret,Xd];rfl
theorem RD{N:Nat}{l:List Int}(d:l.length<=1048576)(c:1048576<N):yc N l=ret (iL l):=by
 unfold yc iL;by_cases h:l.length=8
 .have e:(Wh l !=8)=false:=by simp[Wh,h]
  rw[e];simp only[Wb];have b:=WB (l:=l) (V:=Unit) (R:=Unit×Kf) (lp:=λn j v=>wW N l (some ((),(false,()))) (λf g=>some ((),(true,()))) n j) (n:=N) (by omega)
   (body:=λj x v k=>bif !bH x then some ((),(false,()))else k v) (K:=λ_ v=>some ((),(true,())))
   (λn i v a=>by simp only[wW,WG a,Ws a,Ww a,Wk (show i<4611686018427387904 by omega),Wa,W8,ret,Xd])
   (λn v=>by simp[wW,WP,Xm,Wb]) ()
  refine b.trans ?_;rw[fb (p:=λx=>!bH x) (E:=λ_=>some ((),(false,()))) l 0 () (λj x v k _=>rfl),ge];cases l.all bH<;>simp[h]
 grind [Wh]
theorem Rr{N:Nat}{l:List Int}(d:l.length<=1048576)(c:1048576<N):hY N l 8=ret (iL l):=by
 unfold hY iL;have b:=WB (l:=l) (V:=Unit) (R:=Unit×Kf) (lp:=λn j v=>n7 N l 8 (some ((),(false,()))) (λf g=>some ((),((Wh l)==(8:Int),()))) n j) (n:=N) (by omega)
  (body:=λj x v k=>bif !bH x then some ((),(false,()))else k v) (K:=λ_ v=>some ((),((Wh l)==(8:Int),())))
  (λn i v a=>by simp only[n7,WG a,Ws a,Ww a,Wk (show i<4611686018427387904 by omega),Wa,jy,ret,Xd])
  (λn v=>by simp[n7,WP,Xm,Wb]) ()
 refine b.trans ?_;rw[fb (p:=λx=>!bH x) (E:=λ_=>some ((),(false,()))) l 0 () (λj x v k _=>rfl),ge];have e:((Wh l)==(8:Int))=decide (l.length=8):=by
  grind [Wh]
 rw[e];cases l.all bH<;>simp
theorem Fp{N:Nat}{l:List Rw}(d:l.length<=1048576)(c:1048576<N):qg N l=ret (cb l):=by
 unfold qg cb;by_cases h:l.length<=300
 .have e:decide (Wh l>300)=false:=by simp[Wh];omega
  rw[e];simp only[Wb];have b:=WB (l:=l) (V:=Unit) (R:=Unit×Kf) (lp:=λn j v=>wY N l (some ((),(false,()))) (λf g=>some ((),(true,()))) n j) (n:=N) (by omega)
   (body:=λj x v k=>bif !mo x then some ((),(false,()))else k v) (K:=λ_ v=>some ((),(true,())))
   (λn i v a=>by
    simp only[wY,WG a,Ws a,Ww a,Wk (show i<4611686018427387904 by omega),Wa,W8,lO,ret,Xd,mo];cases bO l[i].1<;>rfl)
   (λn v=>by simp[wY,WP,Xm,Wb]) ()
  refine b.trans ?_;rw[fb (p:=λx=>!mo x) (E:=λ_=>some ((),(false,()))) l 0 () (λj x v k _=>rfl),ge];cases l.all mo<;>simp[h]
 grind [decide,Wh]
theorem CU{N:Nat}{l:List Rw}(d:l.length<=1048576)(c:1048576<N):oF N l=ret (cb l):=by
 unfold oF cb;have b:=WB (l:=l) (V:=Unit) (R:=Unit×Kf) (lp:=λn j v=>w4 N l (some ((),(false,()))) (λf g=>some ((),(decide ((Wh l)<=(300:Int)),()))) n j) (n:=N) (by omega)
  (body:=λj x v k=>bif !mo x then some ((),(false,()))else k v) (K:=λ_ v=>some ((),(decide ((Wh l)<=(300:Int)),())))
  (λn i v a=>by
   simp only[w4,WG a,Ws a,Ww a,Wk (show i<4611686018427387904 by omega),Wa,jy,W0,ret,Xd,mo];cases bO l[i].1<;>rfl)
  (λn v=>by simp[w4,WP,Xm,Wb]) ()
 refine b.trans ?_;rw[fb (p:=λx=>!mo x) (E:=λ_=>some ((),(false,()))) l 0 () (λj x v k _=>rfl),ge];have e:decide (Wh l<=300)=decide (l.length<=300):=by apply decide_eq_decide.2;simp[Wh];omega
 rw[e];cases l.all mo<;>simp
theorem Ui{α:Type}{l:List α}(h:l.length<=1048576):Wx l.length=true:=by grind [Wx]
end
section
abbrev Wd:=Int×Int×Int
abbrev Mm:=Int×List Wd
theorem fV{α:Type}(a:Option α):ab a a=a:=by unfold ab;simp
def fg(γ:Int)(w:Wd):Bool:=bH w.1&&((decide (0<=w.2.1)&&decide (w.2.1<=γ))&&(decide (0<=w.2.2)&&decide (w.2.2<=99)))
def W2(m:Mm):Bool:=decide (m.2.length=8)&&((decide (0<=m.1)&&decide (m.1<=1000000))&&m.2.all (fg m.1))
theorem yu{N:Nat}{m:Mm}(h:m.2.length<=1048576)(g:1048576<N):mR N m=ret (W2 m):=by
 unfold mR W2;have c:=WB (l:=m.2) (V:=Unit) (R:=Unit×Kf) (lp:=λn j v=>xe N m.2 m (some ((),(false,()))) (λd f=>
  (bif (Wh m.2)==(8:Int)then
  ((Zb N m.1 (0:Int) (1000000:Int)).bind λb=>
  (some ((),(b.2.1,()))))
  else
  (some ((),(false,()))))) n j) (n:=N) (by omega)
  (body:=λj x v k=>bif !fg m.1 x then some ((),(false,()))else k v) (K:=λ_ v=>(bif (Wh m.2)==(8:Int)then
  ((Zb N m.1 (0:Int) (1000000:Int)).bind λb=>
  (some ((),(b.2.1,()))))
  else
  (some ((),(false,())))))
  (λn i v a=>by
   simp only[xe,WG a,Ws a,Ww a,Wk (show i<4611686018427387904 by omega),Wa,jy,WK,ret,Xd,fg];cases bH m.2[i].1<;>cases(decide (0<=m.2[i].2.1)&&decide (m.2[i].2.1<=m.1))<;>cases(decide (0<=m.2[i].2.2)&&decide (m.2[i].2.2<=99))<;>rfl)
  (λn v=>by simp[xe,WP,Xm,Wb]) ()
 refine c.trans ?_;rw[fb (p:=λx=>!fg m.1 x) (E:=λ_=>some ((),(false,()))) m.2 0 () (λj x v k _=>rfl),ge];have e:((Wh m.2)==(8:Int))=decide (m.2.length=8):=by
  grind [Wh]
 simp only[e,WK,ret,Xd];cases m.2.all (fg m.1)<;>cases decide (m.2.length=8)<;>simp
theorem CH{N:Nat}{m:Mm}(h:m.2.length<=1048576)(g:1048576<N):oH N m=ret (W2 m):=by
 unfold oH W2;have e:((Wh m.2) !=(8:Int))= !decide (m.2.length=8):=by
  grind [Wh]
 have d:=WB (l:=m.2) (V:=Unit) (R:=Unit×Kf) (lp:=λn j v=>tc N m (some ((),(false,()))) (λc b=>(some ((),(true,())))) n j) (n:=N) (by omega)
  (body:=λj x v k=>bif !fg m.1 x then some ((),(false,()))else k v) (K:=λ_ v=>some ((),(true,())))
  (λn i v a=>by
   simp only[tc,WG a,Ws a,Ww a,Wk (show i<4611686018427387904 by omega),Wa,W8,ct,ret,Xd,fg];cases bH m.2[i].1<;>cases(decide (0<=m.2[i].2.1)&&decide (m.2[i].2.1<=m.1))<;>cases(decide (0<=m.2[i].2.2)&&decide (m.2[i].2.2<=99))<;>rfl)
  (λn v=>by simp[tc,WP,Xm,Wb]) ()
 have f:tc N m (some ((),(false,()))) (λc b=>(some ((),(true,())))) N 0=ret (m.2.all (fg m.1)):=by
  refine d.trans ?_;rw[fb (p:=λx=>!fg m.1 x) (E:=λ_=>some ((),(false,()))) m.2 0 () (λj x v k _=>rfl),ge];cases m.2.all (fg m.1)<;>rfl
 rw[e,f];simp only[ct,ret,Xd];cases decide (m.2.length=8)<;>cases(decide (0<=m.1)&&decide (m.1<=1000000))<;>simp
def wd0(v:Int):Wd:=(v,(0,0))
def DL(l:List Int):Mm:=(0,l.map wd0)
theorem tM{α β R:Type}{body:Int->α->List β->(List β->Option R)->Option R}{K:Int->List β->Option R}{f:α->β}:∀(l:List α) (j:Nat) (o:List β),o.length+l.length<=1000000->
  (∀(j:Nat) x (v:List β) k,x∈l->body j x v k=bif Wx (v.length+ [f x].length)then k (Xf v [f x])else none)->cY body K l j o=K ((j+l.length:Nat):Int) (o++l.map f)
 | [],j,o,_,_=>by simp[cY]
 |x::l,j,o,h,hb=>by
  rw[Xs]at h;rw[cY,hb j x o _ (Xl ..),Wn (by simp;omega)];simp only[Wa];rw[tM l (j+1) _ (by grind [List.append_eq]) λj y v k a=>hb j y v k (Xg _ a)];rw[Xs,show j+1+l.length=j+(l.length+1) by omega];simp
theorem WjP{N:Nat}{l:List Int}(h:iL l=true)(d:1048576<N):ye N l=some ((),(DL l,(true,()))):=by
 have m:l.length=8:=by grind [iL]
 unfold ye;simp only[Rr (show l.length<=1048576 by omega) d,ret,Xd,h,Xn,Wb];have c:=WB (l:=l) (V:=List Wd) (R:=Unit×(Mm×Kf)) (lp:=λn j v=>w5 N l (λe g b=>(some ((),(((0:Int),b),(true,()))))) n j v) (n:=N) (by omega)
  (body:=λj x v k=>bif Wx (v.length+ [wd0 x].length)then k (Xf v [wd0 x])else none) (K:=λ_ v=>some ((),(((0:Int),v),(true,()))))
  (λn i v a=>by simp only[w5,WG a,Ws a,Ww a,Wk (show i<4611686018427387904 by omega),Wa,wd0])
  (λn v=>by simp[w5,WP,Xm,Wb]) []
 refine c.trans ?_;rw[tM (f:=wd0) l 0 [] (by simp;omega) (λj x v k _=>rfl)];rfl
theorem WjY{N:Nat}{l:List Int}(h:iL l=true)(d:1048576<N):B6 N l=some ((),(DL l,(true,()))):=by
 have m:l.length=8:=by grind [iL]
 unfold B6;simp only[RD (show l.length<=1048576 by omega) d,ret,Xd,h,Xn,Wb];have c:=WB (l:=l) (V:=List Wd) (R:=Unit×(Mm×Kf)) (lp:=λn j v=>wZ N l (λe g b=>(some ((),(((0:Int),b),(true,()))))) n j v) (n:=N) (by omega)
  (body:=λj x v k=>bif Wx (v.length+ [wd0 x].length)then k (Xf v [wd0 x])else none) (K:=λ_ v=>some ((),(((0:Int),v),(true,()))))
  (λn i v a=>by simp only[wZ,WG a,Ws a,Ww a,Wk (show i<4611686018427387904 by omega),Wa,wd0])
  (λn v=>by simp[wZ,WP,Xm,Wb]) []
 refine c.trans ?_;rw[tM (f:=wd0) l 0 [] (by simp;omega) (λj x v k _=>rfl)];rfl
theorem WE{m:Mm}(h:W2 m=true):m.2.length=8/\0<=m.1/\m.1<=1000000/\∀w∈m.2,fg m.1 w=true:=by
 simp_all [W2,Xh,Wg,bA]
def tick(m:Mm):Mm×Int:=if m.1<1000000 then((m.1+1,m.2),m.1+1)else(m,0)
theorem Won{N:Nat}{m:Mm}(h:W2 m=true)(a:1048576<N):KJ N m=some ((),((tick m).1,((tick m).2,()))):=by
 obtain⟨f,c,d,_⟩:=WE h;have e:oe N m=ret m:=by grind [oe,Wn]
 unfold KJ tick;simp only[e,yu (show m.2.length<=1048576 by omega) a,ret,Xd,h,Xn,Wb];by_cases g:m.1<1000000
 .have e2:(m.1==1000000)=false:=by simp;omega
  have b:Wj .i64 m.1 1=m.1+1:=WD (by unfold I64;omega)
  grind
 grind
theorem WnQ{N:Nat}{m:Mm}(h:W2 m=true)(a:1048576<N):KI N m=some ((),((tick m).1,((tick m).2,()))):=by
 obtain⟨f,c,d,_⟩:=WE h;have e:oC N m=ret m:=by simp_all [oC,Wn]
 unfold KI tick;simp only[e,CH (show m.2.length<=1048576 by omega) a,ret,Xd,h,Xn,Wb];by_cases g:m.1<1000000
 .have e2:decide (m.1>=1000000)=false:=by simp;omega
  have b:Wj .i64 m.1 1=m.1+1:=WD (by unfold I64;omega)
  grind
 grind
abbrev Pb:=Int×Int×Int×Int
def dR(p:Pb):Bool:=bO p.1&&((decide (0<=p.2.1)&&decide (p.2.1<=4))&&((decide (0<=p.2.2.1)&&decide (p.2.2.1<=1000000))&&bH p.2.2.2))
theorem Wob{N:Nat}{p:Pb}:I6 N p=ret (dR p):=by
 unfold I6 dR;simp only[W0,WK,jy,ret,Xd];cases bO p.1<;>cases(decide (0<=p.2.1)&&decide (p.2.1<=4))<;>cases(decide (0<=p.2.2.1)&&decide (p.2.2.1<=1000000))<;>simp
theorem Wm5{N:Nat}{p:Pb}:I5 N p=ret (dR p):=by
 unfold I5 dR;simp only[lO,ct,W8,ret,Xd];cases bO p.1<;>cases(decide (0<=p.2.1)&&decide (p.2.1<=4))<;>cases(decide (0<=p.2.2.1)&&decide (p.2.2.1<=1000000))<;>simp
def cS(m:Mm)(rv:Int)(p:Pb):Pb:=
 let w:=Xc m.2 (Xa p.1) (0,(0,0))
 bif p.2.1==0 then(bif w.2.2==0 then(bif decide (w.2.1<=rv)then(p.1,(1,(w.2.1,p.2.2.2)))else(p.1,(4,p.2.2)))else(p.1,(4,p.2.2)))
 else bif p.2.1==1 then(p.1,(2,(p.2.2.1,w.1)))
 else bif p.2.1==2 then(bif w.2.2==0 then(bif w.2.1==p.2.2.1 then(p.1,(3,p.2.2))else(p.1,(4,p.2.2)))else(p.1,(4,p.2.2)))
 else p
theorem VU{m:Mm}{p:Pb}(h:W2 m=true)(a:dR p=true):inb p.1 m.2.length=true:=by
 grind [WE,dR,bO,inb]
theorem FH{N:Nat}{m:Mm}{rv:Int}{p:Pb}(h:W2 m=true)(a:dR p=true)(b:1048576<N):xf N m rv p=ret (cS m rv p):=by
 have c:=(WE h).1;unfold xf cS;simp only[yu (show m.2.length<=1048576 by omega) b,Wob,ret,Xd,h,a,Xn,Wb,VU h a,Wa];generalize Xc m.2 (Xa p.1) (0,(0,0))=w;cases p.2.1==0<;>cases p.2.1==1<;>cases p.2.1==2<;>cases w.2.2==0<;>cases decide (w.2.1<=rv)<;>cases w.2.1==p.2.2.1<;>rfl
theorem FC{N:Nat}{m:Mm}{rv:Int}{p:Pb}(h:W2 m=true)(a:dR p=true)(c:1048576<N):xc N m rv p=ret (cS m rv p):=by
 have d:=(WE h).1;unfold xc cS;simp only[CH (show m.2.length<=1048576 by omega) c,Wm5,ret,Xd,h,a,Xn,Wb,VU h a,Wa];generalize Xc m.2 (Xa p.1) (0,(0,0))=w;have b:decide (w.2.1>rv)= !decide (w.2.1<=rv):=by
  grind
 rw[b];unfold bne;cases p.2.1==0<;>cases p.2.1==1<;>cases p.2.1==2<;>cases w.2.2==0<;>cases decide (w.2.1<=rv)<;>cases w.2.1==p.2.2.1<;>rfl
def pj(l:List Rw)(c:Int):Nat->Option Int
 |0=>none
 |i+1=>if(Xc l i (0,0)).1=c then some (Xc l i (0,0)).2 else pj l c i
def c9(l:List Rw)(c:Int):Option Int:=if cb l=true then pj l c l.length else none
def opI(o:Option Int):Option (Unit×Ky):=match o with
 |none=>some ((),((0:Int),(false,())))
 |some v=>some ((),(v,(true,())))
theorem R0{N:Nat}{l:List Rw}{c:Int}(g:l.length<=1048576):∀(i n:Nat),i<n->i<=l.length->A2 N l c (λb=>(some ((),(b,(true,()))))) (λk j=>(some ((),((0:Int),(false,()))))) n ((i:Int) -1)=opI (pj l c i)
 |i,0,h,_=>by omega
 |0,n+1,h,_=>rfl
 |i+1,n+1,h,hi=>by
  have e:((i+1:Nat):Int) -1=(i:Int):=by omega
  have d:decide ((i:Int)>=0)=true:=by simp
  have f:Wv .i64 (i:Int) 1=(i:Int) -1:=WM (by unfold I64;omega);rw[e,A2,d,Ws (show i<l.length by omega),f,pj,Xj];simp only[Wa];by_cases a:(Xc l i ((0:Int),(0:Int))).1=c
  .rw[Wf a,beq_iff_eq.2 a];rfl
  .rw[We a,beq_eq_false_iff_ne.2 a];exact R0 g i n (by omega) (by omega)
theorem R2{N:Nat}{l:List Rw}{c:Int}(g:l.length<=1048576):∀(i n:Nat),i<n->i<=l.length->A0 N l c (λb=>(some ((),(b,(true,()))))) (λk j=>(some ((),((0:Int),(false,()))))) n ((i:Int) -1)=opI (pj l c i)
 |i,0,h,_=>by omega
 |0,n+1,h,_=>rfl
 |i+1,n+1,h,hi=>by
  have e:((i+1:Nat):Int) -1=(i:Int):=by omega
  have d:decide ((i:Int)>=0)=true:=by simp
  have f:Wv .i64 (i:Int) 1=(i:Int) -1:=WM (by unfold I64;omega);rw[e,A0,d,Ws (show i<l.length by omega),f,pj,Xj];simp only[Wa];by_cases a:(Xc l i ((0:Int),(0:Int))).1=c
  .rw[Wf a,beq_iff_eq.2 a];rfl
  .rw[We a,beq_eq_false_iff_ne.2 a];exact R2 g i n (by omega) (by omega)
theorem uZ{α:Type}{l:List α}(a:l.length<=1048576):Wv .i64 (Wh l) 1=((l.length:Nat):Int) -1:=by grind [Wh,WM,I64]
theorem KU{N:Nat}{l:List Rw}{c:Int}(a:l.length<=1048576)(b:1048576<N):tL N l c=opI (c9 l c):=by
 unfold tL c9;simp only[CU a b,ret,Xd];cases cb l
 .rfl
 .simp only[Xn,Wb,WN,uZ a];exact R0 a l.length N (by omega) (Xm _)
theorem KS{N:Nat}{l:List Rw}{c:Int}(a:l.length<=1048576)(b:1048576<N):tK N l c=opI (c9 l c):=by
 unfold tK c9;simp only[Fp a b,ret,Xd];cases cb l
 .rfl
 .simp only[Xn,Wb,WN,uZ a];exact R2 a l.length N (by omega) (Xm _)
end
section
theorem Wrf(m:Int)(b:Nat):m.tdiv b=if 0<=m then((m.natAbs/b:Nat):Int)else-((m.natAbs/b:Nat):Int):=by
 split
 .rename_i h;obtain⟨n,rfl⟩:=Hm h;rfl
 .rename_i h;obtain⟨n,a⟩:=Hm (show 0<= -m by omega);have:m= -(n:Int):=by omega
  subst this;rw[Int.neg_tdiv,Int.natAbs_neg];rfl
theorem WrF(m:Int)(b:Nat):m.tmod b=if 0<=m then((m.natAbs%b:Nat):Int)else-((m.natAbs%b:Nat):Int):=by
 split
 .rename_i h;obtain⟨n,rfl⟩:=Hm h;rfl
 .rename_i h;obtain⟨n,a⟩:=Hm (show 0<= -m by omega);have:m= -(n:Int):=by omega
  subst this;rw[Int.neg_tmod,Int.natAbs_neg];rfl
def bQ:Nat->Nat->List Int
 |0,_=>[]
 |f+1,m=>if m=0 then []else(48+(m%10:Nat):Int)::bQ f (m/10)
theorem Gf:∀(f m:Nat),(bQ f m).length<=f
 |0,_=>by simp[bQ]
 |f+1,m=>by
  rw[bQ];split
  .simp
  .have:=Gf f (m/10);simp;omega
theorem Lu:∀f,bQ f 0= []
 |0=>rfl
 |f+1=>by simp[bQ]
theorem VC{n:Int}(h:0<=n/\n<=255):IntKind.wrap .u8 n=n:=by
 show(if(false&&decide (n%256>=128))=true then n%256-256 else n%256)=n;simp only[pY,Bool.false_eq_true,W4];omega
theorem Vb:inz 10=true:=rfl
theorem ku{a b:List UInt8}(h:a.length+b.length<=1000000000000):ad a b=true:=by
 unfold ad;have:IntKind.i64.max=9223372036854775807:=rfl;rw[this];simp only[de,Wm];omega
theorem Lg{m:Int}(k:I64 m)(i:m≠0):
  d9 .i64 m 10=(if 0<=m then((m.natAbs/10:Nat):Int)else-((m.natAbs/10:Nat):Int))/\
  (decide (aP m 10<0)=true->IntKind.wrap .u8 (Wj .i64 48 (Wv .i64 0 (aP m 10)))=48+((m.natAbs%10:Nat):Int))/\
  (decide (aP m 10<0)=false->IntKind.wrap .u8 (Wj .i64 48 (aP m 10))=48+((m.natAbs%10:Nat):Int)):=by
 have e:=Wrf m 10;have b:=WrF m 10;have a:∀d:Int,0<=d/\d<=9->IntKind.wrap .u8 (Wj .i64 48 d)=48+d:=λd j=>by
  rw[WD (by unfold I64;omega),VC (by omega)]
 have c:aP m 10=m.tmod (10:Nat):=rfl;have f:d9 .i64 m 10=IntKind.wrap .i64 (m.tdiv (10:Nat)):=rfl;have g:m.natAbs%10<10:=Nat.mod_lt _ (by omega);refine⟨?_,λh=>?_,λh=>?_⟩
 .rw[f,e];refine ua ?_;unfold I64 at*;split<;>omega
 .rw[c,b]at h⊢;simp only[Wg]at h;split at h
  .omega
  .rename_i hn;rw[We hn,WM (by unfold I64;omega),a _ (by omega)];omega
 .rw[c,b]at h⊢;simp only[Wm]at h;split at h
  .rename_i hn;rw[Wf hn,a _ (by omega)]
  .rename_i hn;rw[We hn,a _ (by omega)];omega
def sgn(neg:Bool)(n:Nat):Int:=bif neg then-(n:Int)else(n:Int)
theorem Li(neg:Bool)(n:Nat):(sgn neg n).natAbs=n:=by cases neg<;>simp[sgn]
theorem Vf{neg:Bool}{n:Nat}(c:n<=9223372036854775808)(b:n≠0)(a:I64 (sgn neg n)):d9 .i64 (sgn neg n) 10=sgn neg (n/10):=by
 have h:=(Lg a (by cases neg<;>simp[sgn]<;>omega)).1;rw[h,Li];cases neg
 .simp[sgn]
 .have:¬(0<=sgn true n):=by simp[sgn];omega
  rw[We this];rfl
theorem Vd{neg:Bool}{n:Nat}(h:I64 (sgn neg n)):I64 (sgn neg (n/10)):=by
 have:=Nat.div_le_self n 10;unfold I64 sgn at*;cases neg<;>simp at* <;>omega
theorem SP(N:Nat){R:Type}(b neg:Bool)(K:Int->List UInt8->Bool->Option R):∀(f n m:Nat) (a:List UInt8),m<10^f->f<=20->f<n->a.length+f<=1000->I64 (sgn neg m)->
  x5 N b K n (sgn neg m) a=K 0 (cE (bQ f m).reverse++a) false
 |f,0,m,a,_,_,h,_,_=>by omega
 |0,n+1,m,a,h,_,_,_,_=>by
  have:m=0:=by simpa using h
  subst this;cases neg<;>rfl
 |f+1,n+1,m,a,h,p,q,r,hI=>by
  rw[x5];by_cases c:m=0
  .subst c;rw[Lu];cases neg<;>rfl
  .have bI:sgn neg m≠0:=by cases neg<;>simp[sgn]<;>omega
   have k:(sgn neg m !=0)=true:=by simp[bI]
   have o:m<=9223372036854775808:=by unfold I64 sgn at hI;cases neg<;>simp at hI<;>omega
   obtain⟨_,d,e⟩:=Lg hI bI;rw[Li]at d e;have j:m/10<10^f:=by rw[Hs]at h;omega
   have l:cE (bQ (f+1) m).reverse++a=cE (bQ f (m/10)).reverse++(cE [48+((m%10:Nat):Int)]++a):=by
    rw[bQ,We c,YP];simp[cE]
   have g:ad (cE [48+((m%10:Nat):Int)]) a=true:=ku (by simp[cE];omega);have i:=SP N b neg K f n (m/10) (cE [48+((m%10:Nat):Int)]++a) j (by omega) (by omega) (by simp[cE];omega) (Vd hI);rw[k,l];simp only[Wa,Vb,Vf o c hI];cases hd:decide (aP (sgn neg m) 10<0)with
   |true=>
    simp only[Wa,d hd,g];exact i
   |false=>
    simp only[Wb,e hd,g,Wa];exact i
theorem So(N:Nat){R:Type}(g:Int)(neg:Bool)(K:Int->Bool->List Int->Option R):∀(f n m:Nat) (l:List Int),m<10^f->f<=20->f<n->l.length+f<=1000->I64 (sgn neg m)->
  x3 N g K n (sgn neg m) l=K 0 false (l++bQ f m)
 |f,0,m,l,_,_,h,_,_=>by omega
 |0,n+1,m,l,h,_,_,_,_=>by
  have:m=0:=by simpa using h
  subst this;rw[bQ,hU];cases neg<;>rfl
 |f+1,n+1,m,l,h,q,r,s,hI=>by
  rw[x3];by_cases a:m=0
  .subst a;rw[Lu,hU];cases neg<;>rfl
  .have bI:sgn neg m≠0:=by cases neg<;>simp[sgn]<;>omega
   have j:(sgn neg m !=0)=true:=by simp[bI]
   have p:m<=9223372036854775808:=by unfold I64 sgn at hI;cases neg<;>simp at hI<;>omega
   obtain⟨_,b,c⟩:=Lg hI bI;rw[Li]at b c;have i:m/10<10^f:=by rw[Hs]at h;omega
   have k:l++bQ (f+1) m=(Xf l [48+((m%10:Nat):Int)])++bQ f (m/10):=by
    rw[bQ,We a];show l++_=(l++_)++_;simp
   have o:∀d:Int,Wx (l.length+ [d].length)=true:=λd=>Wn (by simp;omega);have e:=So N g neg K f n (m/10) (Xf l [48+((m%10:Nat):Int)]) i (by omega) (by omega) (by show(l++_).length+f<=1000;simp;omega) (Vd hI);rw[j,k];simp only[Wa,Vb,Vf p a hI,o];cases hd:decide (aP (sgn neg m) 10<0)with
   |true=>
    simp only[Wa,b hd];exact e
   |false=>
    simp only[Wb,c hd];exact e
structure Half(l:List Int)(i:Nat)(m:List Int):Prop where
 len:m.length=l.length
 out:∀k,k<l.length->(k<i\/l.length<=k+i)->m[k]?=l[l.length-1-k]?
 inn:∀k,i<=k->k+i<l.length->m[k]?=l[k]?
theorem Wub{l m:List Int}{i:Nat}(h:Half l i m)(hi:l.length<=2*i+1):m=l.reverse:=by
 apply List.ext_getElem?;intro k;by_cases a:k<l.length
 .rw[List.getElem?_reverse a];by_cases b:k<i\/l.length<=k+i
  .exact h.out k a b
  .rw[h.inn k (by omega) (by omega)];congr 1;omega
 .rw[gw (by rw[h.len];omega),gw (by rw[List.length_reverse];omega)]
theorem Wsu{l m:List Int}{i:Nat}(h:Half l i m)(hi:2*i+1<l.length):Half l (i+1) ((m.set i (m.getD (l.length-1-i) 0)).set (l.length-1-i) (m.getD i 0)):=by
 have a:=h.len;refine⟨by simp[a],λk f g=>?_,λk j n=>?_⟩
 .rw[Yg,Yg];have d:m.getD i 0=l[i]:=by
   have:=h.inn i (Xm _) (by omega);rw[lg,this,Xq (by omega)];rfl
  have e:m.getD (l.length-1-i) 0=l[l.length-1-i]:=by
   have:=h.inn (l.length-1-i) (by omega) (by omega);rw[lg,this,Xq (by omega)];rfl
  rw[d,e];by_cases b:l.length-1-i=k
  .subst b;rw[Wf rfl,Wf (by simp[a];omega)];have:l.length-1-(l.length-1-i)=i:=by omega
   rw[this,Xq (by omega)]
  .rw[We b];by_cases c:i=k
   .subst c;rw[Wf rfl,Wf (by omega),Xq (by omega)]
   .rw[We c];exact h.out k f (by omega)
 .rw[Yb (by omega),Yb (by omega)];exact h.inn k (by omega) (by omega)
theorem XN(N:Nat){R:Type}(l:List Int)(j:l.length<=1000)(K:List Int->Option R):∀(n i:Nat) (m:List Int),Half l i m->l.length+1<n+i+i->i<=l.length->(0<i->2*i<=l.length+1)->
  x4 N (λ_ _ _ l=>K l) n (i:Int) (((l.length:Int) -1) -(i:Int)) m=K l.reverse
 |0,i,m,h,f,_,h3=>by omega
 |n+1,i,m,h,f,k,h3=>by
  rw[x4];by_cases g:2*i+1<l.length
  .have e1:decide ((i:Int)<((l.length:Int) -1) -(i:Int))=true:=by simp;omega
   have e:((l.length:Int) -1) -(i:Int)=((l.length-1-i:Nat):Int):=by omega
   have a:=h.len;rw[e1,e];simp only[Wa,WH,Xj,cZ,a];have b:decide (l.length-1-i<l.length)=true:=by simp;omega
   have c:decide (i<l.length)=true:=by simp;omega
   have d:Wv .i64 ((l.length-1-i:Nat):Int) 1=((l.length:Int) -1) -((i+1:Nat):Int):=by
    rw[WM (by unfold I64;omega)];omega
   rw[b,c,Wk (by omega),d];simp only[Wa];exact XN N l j K n (i+1) _ (Wsu h g) (by omega) (by omega) (by omega)
  .have e1:decide ((i:Int)<((l.length:Int) -1) -(i:Int))=false:=by simp;omega
   rw[e1];simp only[Wb];rw[Wub h (by omega)]
def aB(n:Int):List UInt8:=if n=0 then [48]else(if n<0 then [45]else [])++cE (bQ 20 n.natAbs).reverse
theorem gR(n:Int):(aB n).length<=30:=by
 have:=Gf 20 n.natAbs;unfold aB;split
 .simp
 .split<;>simp[cE]<;>omega
theorem C4{N:Nat}{n:Int}(c:I64 n)(f:100<N):Z6 N n=ret (aB n):=by
 unfold Z6 aB;by_cases b:n=0
 .subst b;rfl
 .have e0:(n==0)=false:=by simpa using b
  have d:n=sgn (decide (n<0)) n.natAbs:=by
   unfold sgn;by_cases h:n<0<;>simp[h]<;>omega
  have e:n.natAbs<10^20:=by unfold I64 at c;omega
  have a:=λ{R:Type} (K:Int->List UInt8->Bool->Option R)=>SP N (decide (n<0)) (decide (n<0)) K 20 N n.natAbs [] e (by omega) (by omega) (by simp) (by rw[←d];exact c);rw[←d]at a;rw[e0,We b];simp only[Wb];rw[a];have g:=Gf 20 n.natAbs;by_cases h:n<0
  .have:ad [45] (cE (bQ 20 n.natAbs).reverse)=true:=ku (by simp[cE];omega);simp[h,this]
  .simp[h]
theorem K7{N:Nat}{n:Int}(e:I64 n)(p:150<N):Zv N n=ret (aB n):=by
 unfold Zv aB;by_cases c:n=0
 .subst c;rfl
 .have e0:(n==0)=false:=by simpa using c
  have f:n=sgn (decide (n<0)) n.natAbs:=by
   unfold sgn;by_cases h:n<0<;>simp[h]<;>omega
  have m:n.natAbs<10^20:=by unfold I64 at e;omega
  have a:=λ{R:Type} (K:Int->Bool->List Int->Option R)=>So N n (decide (n<0)) K 20 N n.natAbs [] m (by omega) (by omega) (by simp) (by rw[←f];exact e);rw[←f]at a;rw[e0,We c];simp only[Wb];rw[a];have o:=Gf 20 n.natAbs;have g:=λ(l:List Int) (o:l.length<=100)=>XN N l (by omega) (λl=>(some ((),(cE l,())):Option (Unit×(List UInt8×Unit)))) N 0 l ⟨rfl,λk q h=>by omega,λk _ _=>rfl⟩ (by omega) (by omega) (by omega);by_cases h:n<0
  .have e1:decide (n<0)=true:=by simpa using h
   have i:Xf ([]++bQ 20 n.natAbs) [(45:Int)]=bQ 20 n.natAbs++ [45]:=by simp
   have j:Wx (([]++bQ 20 n.natAbs).length+ [(45:Int)].length)=true:=Wn (by simp;omega);have d:=g (bQ 20 n.natAbs++ [45]) (by simp;omega);have b:Wv .i64 (Wh (bQ 20 n.natAbs++ [45])) 1=(((bQ 20 n.natAbs++ [45]).length:Int) -1) -((0:Nat):Int):=by
    rw[WM (by unfold I64 Wh;simp;omega)];simp[Wh]
   rw[e1,j,i,b];simp only[Wa];refine d.trans ?_;rw[Wf h,List.reverse_append];rfl
  .have e1:decide (n<0)=false:=by simpa using h
   have d:=g (bQ 20 n.natAbs) (by omega);have b:Wv .i64 (Wh ([]++bQ 20 n.natAbs)) 1=(((bQ 20 n.natAbs).length:Int) -1) -((0:Nat):Int):=by
    rw[WM (by unfold I64 Wh;simp;omega)];simp[Wh]
   rw[e1,b];simp only[Wb,df];refine d.trans ?_;rw[We h];rfl
end
section
abbrev Opn:=Int×Int×Int×Int
def am(v:Int):Bool:=decide (0<=v)&&decide (v<=3)
def dH(v:Int):Bool:=decide (0<=v)&&decide (v<=7)
theorem Wps{N:Nat}{v:Int}:kn N v=ret (am v):=by
 unfold kn;simp only[ct,ret,Xd];rfl
theorem WoQ{N:Nat}{v:Int}:ko N v=ret (am v):=by
 unfold ko;simp only[WK,ret,Xd];rfl
theorem yz{N:Nat}{v:Int}:fv N v=ret (dH v):=by
 unfold fv;simp only[WK,ret,Xd];rfl
def bj(o:Opn):Bool:=
 bif o.1==1 then am o.2.1&&bH o.2.2.1&&(o.2.2.2==(0:Int))else
 bif o.1==2 then am o.2.1&&am o.2.2.1&&am o.2.2.2 else
 bif o.1==3 then am o.2.1&&am o.2.2.1&&am o.2.2.2 else
 bif o.1==4 then am o.2.1&&am o.2.2.1&&am o.2.2.2 else
 bif o.1==5 then am o.2.1&&bO o.2.2.1&&(o.2.2.2==(0:Int))else
 bif o.1==6 then bO o.2.1&&am o.2.2.1&&(o.2.2.2==(0:Int))else
 bif o.1==7 then am o.2.1&&(decide (1<=o.2.2.1)&&decide (o.2.2.1<=20))&&(o.2.2.2==(0:Int))else
 bif o.1==8 then am o.2.1&&(o.2.2.1==(0:Int))&&(o.2.2.2==(0:Int))else
 bif o.1==9 then(o.2.1==(0:Int))&&(o.2.2.1==(0:Int))&&(o.2.2.2==(0:Int))else
 bif o.1==10 then(o.2.1==(0:Int))&&(o.2.2.1==(0:Int))&&(o.2.2.2==(0:Int))else
 bif o.1==11 then(o.2.1==(0:Int))&&(o.2.2.1==(0:Int))&&(o.2.2.2==(0:Int))else
 bif o.1==12 then dH o.2.1&&am o.2.2.1&&am o.2.2.2 else
 bif o.1==13 then am o.2.1&&dH o.2.2.1&&(o.2.2.2==(0:Int))else
 bif o.1==14 then dH o.2.1&&am o.2.2.1&&(o.2.2.2==(0:Int))else
 bif o.1==15 then am o.2.1&&(o.2.2.1==(0:Int))&&(o.2.2.2==(0:Int))else
 bif o.1==16 then am o.2.1&&(o.2.2.1==(0:Int))&&(o.2.2.2==(0:Int))else
 false
abbrev Bo:=Option Kq
def oA(p k:Bo):Bo:=p.bind λo=>bif o.2.1 then k else some ((),(false,()))
def oB(p:Bo):Bo:=p.bind λo=>some ((),(o.2.1,()))
theorem o3{T P Q R:Bo}{p q r:Bool}(h:T=oA P (oA Q (oB R)))(a:P=ret p)(b:Q=ret q)(c:R=ret r):T=ret (p&&q&&r):=by
 rw[h,a,b,c];cases p<;>cases q<;>rfl
theorem z0(v:Int):(ret (v==(0:Int)):Bo)=ret (v==(0:Int)):=rfl
theorem sR(N:Nat)(v:Int):kn N v=ret (am v):=Wps
theorem sV(N:Nat)(v:Int):fu N v=ret (bH v):=W8
theorem sC(N:Nat)(v:Int):km N v=ret (bO v):=lO
theorem sK(N:Nat)(v:Int):Za N v 0 7=ret (dH v):=ct
theorem sI(N:Nat)(v:Int):Za N v 1 20=ret (decide (1<=v)&&decide (v<=20)):=ct
theorem iR(N:Nat)(v:Int):ko N v=ret (am v):=WoQ
theorem iV(N:Nat)(v:Int):fQ N v=ret (bH v):=jy
theorem iC(N:Nat)(v:Int):gz N v=ret (bO v):=W0
theorem iK(N:Nat)(v:Int):fv N v=ret (dH v):=yz
theorem iI(N:Nat)(v:Int):Zb N v 1 20=ret (decide (1<=v)&&decide (v<=20)):=WK
def kds:List Int:=[1,2,3,4,5,6,7,8,9,10,11,12,13,14,15,16]
theorem XQ{P:Int->Prop}(j:P 1)(l:P 2)(m:P 3)(n:P 4)(o:P 5)(p:P 6)(q:P 7)(r:P 8)(s:P 9)(f:P 10)(t:P 11)(g:P 12)(v:P 13)(b:P 14)(c:P 15)(u:P 16)
  (a:∀k,(∀i,i∈kds->(k==i)=false)->P k) (k:Int):P k:=by
 by_cases h:k∈kds
 .simp only[kds,Xr,mB,or_false]at h;rcases h with h|h|h|h|h|h|h|h|h|h|h|h|h|h|h|h<;>rw[h]<;>assumption
 .exact a k λi d=>by
   rw[beq_eq_false_iff_ne];intro e;exact h (e▸d)
theorem tT{N:Nat}{o:Opn}:tJ N o=ret (bj o):=by
 obtain⟨k,a,b,c⟩:=o;exact XQ (P:=λk=>tJ N (k,a,b,c)=ret (bj (k,a,b,c)))
  (o3 (by kernel_rfl) (sR N a) (sV N b) (z0 c))
  (o3 (by kernel_rfl) (sR N a) (sR N b) (sR N c))
  (o3 (by kernel_rfl) (sR N a) (sR N b) (sR N c))
  (o3 (by kernel_rfl) (sR N a) (sR N b) (sR N c))
  (o3 (by kernel_rfl) (sR N a) (sC N b) (z0 c))
  (o3 (by kernel_rfl) (sC N a) (sR N b) (z0 c))
  (o3 (by kernel_rfl) (sR N a) (sI N b) (z0 c))
  (o3 (by kernel_rfl) (sR N a) (z0 b) (z0 c))
  (o3 (by kernel_rfl) (z0 a) (z0 b) (z0 c))
  (o3 (by kernel_rfl) (z0 a) (z0 b) (z0 c))
  (o3 (by kernel_rfl) (z0 a) (z0 b) (z0 c))
  (o3 (by kernel_rfl) (sK N a) (sR N b) (sR N c))
  (o3 (by kernel_rfl) (sR N a) (sK N b) (z0 c))
  (o3 (by kernel_rfl) (sK N a) (sR N b) (z0 c))
  (o3 (by kernel_rfl) (sR N a) (z0 b) (z0 c))
  (o3 (by kernel_rfl) (sR N a) (z0 b) (z0 c))
  (λk e=>by unfold tJ bj;simp(disch:=decide) only[e,Wb,Wp]) k
theorem C2{N:Nat}{o:Opn}:ql N o=ret (bj o):=by
 obtain⟨k,a,b,c⟩:=o;exact XQ (P:=λk=>ql N (k,a,b,c)=ret (bj (k,a,b,c)))
  (o3 (by kernel_rfl) (iR N a) (iV N b) (z0 c))
  (o3 (by kernel_rfl) (iR N a) (iR N b) (iR N c))
  (o3 (by kernel_rfl) (iR N a) (iR N b) (iR N c))
  (o3 (by kernel_rfl) (iR N a) (iR N b) (iR N c))
  (o3 (by kernel_rfl) (iR N a) (iC N b) (z0 c))
  (o3 (by kernel_rfl) (iC N a) (iR N b) (z0 c))
  (o3 (by kernel_rfl) (iR N a) (iI N b) (z0 c))
  (o3 (by kernel_rfl) (iR N a) (z0 b) (z0 c))
  (o3 (by kernel_rfl) (z0 a) (z0 b) (z0 c))
  (o3 (by kernel_rfl) (z0 a) (z0 b) (z0 c))
  (o3 (by kernel_rfl) (z0 a) (z0 b) (z0 c))
  (o3 (by kernel_rfl) (iK N a) (iR N b) (iR N c))
  (o3 (by kernel_rfl) (iR N a) (iK N b) (z0 c))
  (o3 (by kernel_rfl) (iK N a) (iR N b) (z0 c))
  (o3 (by kernel_rfl) (iR N a) (z0 b) (z0 c))
  (o3 (by kernel_rfl) (iR N a) (z0 b) (z0 c))
  (λk e=>by unfold ql bj;simp(disch:=decide) only[e,Wb,Wp]) k
end
section
def hP{α:Type}(p:Nat->α->Bool):Nat->List α->Bool
 |_,[]=>false
 |j,x::l=>p j x||hP p (j+1) l
theorem CZ{α V R:Type}{body:Int->α->V->(V->Option R)->Option R}{K:Int->V->Option R}{p:Nat->α->Bool}{E:V->Option R}:∀(l:List α) (j:Nat) (v:V),(∀(j:Nat) x v k,x∈l->body j x v k=bif p j x then E v else k v)->
  cY body K l j v=bif hP p j l then E v else K ((j+l.length:Nat):Int) v
 | [],j,v,_=>rfl
 |x::l,j,v,h=>by
  rw[cY,h j x v _ (Xl ..),CZ l (j+1) v λj y v k a=>h j y v k (Xg _ a),hP]
  grind
theorem Dk{α:Type}{p:Nat->α->Bool}:∀{l:List α} {j:Nat},hP p j l=true↔∃i,∃h:i<l.length,p (j+i) l[i]=true
 | [],j=>by simp[hP]
 |x::l,j=>by
  rw[hP,pM,Dk];constructor
  .rintro(h|⟨i,a,h⟩)
   .exact⟨0,by simp,by grind⟩
   .exact⟨i+1,by simp_all,by grind⟩
  grind
def opd(o:Opn):Int:=bif o.1==8 then 1 else bif o.1==9 then-1 else 0
theorem uy(o:Opn):-1<=opd o/\opd o<=1:=by unfold opd;cases o.1==8<;>cases o.1==9<;>simp
def dep(l:List Opn)(j:Nat):Int:=((l.take j).map opd).sum
theorem qD(l:List Opn):dep l 0=0:=by simp[dep]
theorem fa{l:List Opn}{j:Nat}(h:j<l.length):dep l (j+1)=dep l j+opd l[j]:=by
 grind [dep,Au]
theorem WA{α:Type}{l:List α}{j:Nat}(h:j<l.length)(d:α):Xc l j d=l[j]:=by simp[h]
theorem fE(l:List Opn):∀j:Nat,-(j:Int)<=dep l j/\dep l j<=j
 |0=>by simp[dep]
 |j+1=>by
  have a:=fE l j;by_cases h:j<l.length
  .have:=uy l[j]
   grind [fa]
  grind [dep,vD]
def bal(l:List Opn):Bool:=!hP (λj _=>decide (dep l (j+1)<0)) 0 l&&decide (dep l l.length=0)
theorem FV{N:Nat}{o:Opn}:Ch N o=ret (opd o):=by
 unfold Ch opd;cases o.1==8<;>cases o.1==9<;>rfl
theorem Hi(x:Int):(x==(0:Int))=decide (x=0):=by by_cases h:x=0<;>simp[h]
theorem RN{N:Nat}{l:List Opn}(q:l.length<=1048576)(m:1048576<N):w3 N l=ret (bal l):=by
 unfold w3 bal;have b:=WB (l:=l) (V:=Unit) (R:=Unit×Kf) (lp:=λn j _=>wu N l (some ((),(false,()))) (λf g h=>some ((),(f==(0:Int),()))) n (dep l j.toNat) j) (n:=N) (by omega)
  (body:=λj _ v k=>bif decide (dep l (j.toNat+1)<0)then some ((),(false,()))else k v) (K:=λj _=>some ((),(dep l j.toNat==(0:Int),())))
  (λn i v a=>by
   have o:=fE l i;have d:=fa a;have r:=uy l[i];have e:Wj .i64 (dep l i) (opd l[i])=dep l (i+1):=by rw[WD (by unfold I64;omega),d]
   simp only[wu,WG a,Ws a,Ww a,WA a,Wk (show i<4611686018427387904 by omega),Wa,FV,ret,Xd,Xj,e])
  (λn v=>by simp[wu,WP,Xm,Wb]) ()
 have c:dep l (Xa 0)=0:=qD l;simp only[c]at b;refine b.trans ?_;rw[CZ (p:=λj _=>decide (dep l (j+1)<0)) (E:=λ_=>some ((),(false,()))) l 0 () (λj x v k _=>rfl)];rw[bX,Xj,Hi];cases hP (λj _=>decide (dep l (j+1)<0)) 0 l<;>rfl
theorem WlU{N:Nat}{l:List Opn}(m:l.length<=1048576)(g:1048576<N){i:Nat}(hi:i<=l.length):BG N l (i:Int)=ret (dep l i):=by
 unfold BG;have b:=WB (l:=l) (V:=Unit) (R:=Unit×Kj) (lp:=λn j _=>sL N (i:Int) l (λd e p=>some ((),(d,()))) n (dep l (min j.toNat i)) j) (n:=N) (by omega)
  (body:=λj _ v k=>k v) (K:=λj _=>some ((),(dep l (min j.toNat i),())))
  (λn j v a=>by
   have h:=fE l j;have o:=uy l[j];simp only[sL,WG a,Ws a,Ww a,WA a,Wk (show j<4611686018427387904 by omega),Wa,FV,ret,Xd,Xj]
   grind [decide,min,Wj,dep,opd,WD,I64,fa])
  (λn v=>by simp[sL,WP,Xm,Wb]) ()
 have c:dep l (min (Xa 0) i)=0:=by
  simp[min,Xa,qD]
 simp only[c]at b;refine b.trans ?_;rw[CY (f:=λv _=>v) l 0 () (λj x v k _=>rfl),bX,Xj,Nat.min_eq_right hi]
theorem WoB{N:Nat}{l:List Opn}{a b:Nat}(C:a<=b)(A:b<=l.length)(B:l.length<=1048576)(z:1048576<N):
  mG N l (b:Int) (some ((),(false,()))) (λe u h=>some ((),(e==(0:Int),()))) N 0 (a:Int)=ret (bal ((l.take b).drop a)):=by
 have w:((l.take b).drop a).length=b-a:=by simp;omega
 unfold bal;have f:=WB (l:=(l.take b).drop a) (V:=Unit) (R:=Unit×Kf) (lp:=λn j _=>mG N l (b:Int) (some ((),(false,()))) (λe u h=>some ((),(e==(0:Int),()))) n (dep ((l.take b).drop a) j.toNat) ((a+j.toNat:Nat):Int)) (n:=N) (by omega)
  (body:=λj _ v k=>bif decide (dep ((l.take b).drop a) (j.toNat+1)<0)then some ((),(false,()))else k v) (K:=λj _=>some ((),(dep ((l.take b).drop a) j.toNat==(0:Int),())))
  (λn i v t=>by
   have y:=fE ((l.take b).drop a) i;have g:=fa t;have s:((l.take b).drop a)[i]=l[a+i]:=by simp
   rw[s]at g;have d:a+i<l.length:=by omega
   have c:decide (((a+i:Nat):Int)<(b:Int))=true:=by simp;omega
   have o:Wj .i64 ((a+i:Nat):Int) 1=((a+(i+1):Nat):Int):=by grind [WD,I64]
   have q:Wj .i64 (dep ((l.take b).drop a) i) 1=dep ((l.take b).drop a) i+1:=WD (by unfold I64;omega);have r:Wv .i64 (dep ((l.take b).drop a) i) 1=dep ((l.take b).drop a) i+ -1:=by grind [WM,I64]
   simp only[mG,c,Ws d,Ww d,WA d,o,q,r,Wa,Xj];unfold opd at g
   grind)
  (λn v=>by
   have c:decide (((a+(((l.take b).drop a).length:Int).toNat:Nat):Int)<(b:Int))=false:=by simp_all
   simp only[mG,c,Wb]) ()
 have m:dep ((l.take b).drop a) (Xa 0)=0:=qD _;simp only[m]at f;refine f.trans ?_;rw[CZ (p:=λj _=>decide (dep ((l.take b).drop a) (j+1)<0)) (E:=λ_=>some ((),(false,()))) _ 0 () (λj x v k _=>rfl)];rw[bX,Xj,Hi];cases hP (λj _=>decide (dep ((l.take b).drop a) (j+1)<0)) 0 ((l.take b).drop a)<;>rfl
def uF(l:List Opn)(i:Nat)(o:Opn):Bool:=decide (i+1+o.2.2.1.toNat<=l.length)&&bal ((l.take (i+1+o.2.2.1.toNat)).drop (i+1))
def frk(l:List Opn)(j:Nat):Nat:=(l.take j).countP λo=>o.1==11
theorem F1{l:List Opn}{j:Nat}(h:j<l.length):frk l (j+1)=frk l j+(l[j].1==11).toNat:=by
 unfold frk;rw[Au h,List.countP_append,List.countP_singleton];cases l[j].1==11<;>rfl
theorem XA(l:List Opn)(j:Nat):frk l j<=l.length:=fP List.countP_le_length (by simp;omega)
def rz(l:List Opn)(i:Nat)(o:Opn):Bool:=
 !bj o||((o.1==7)&& !uF l i o)||((o.1==11)&&(decide (dep l i>0)||decide (frk l (i+1)>1)))||decide (dep l (i+1)<0)
def jQ(l:List Opn)(i:Nat)(o:Opn):Bool:=
 !bj o||((o.1==7)&& !uF l i o)||((o.1==11)&&(decide (frk l (i+1)>1)|| !decide (dep l i=0)))
def jX(l:List Opn):Bool:=decide (l.length<=24)&&(bal l&& !hP (jQ l) 0 l)
theorem Ut{l:List Opn}{i:Nat}{o:Opn}(f:l.length<=24)(hi:i<l.length)(e:bj o=true)(d:o.1=7):
  Wj .i64 ((i+1:Nat):Int) o.2.2.1=((i+1+o.2.2.1.toNat:Nat):Int)/\1<=o.2.2.1/\o.2.2.1<=20:=by
 obtain⟨k,a,b,c⟩:=o;simp only at d;subst d;have:(am a&&(decide (1<=b)&&decide (b<=20))&&(c==(0:Int)))=true:=e;simp only[Xh,Wg]at this
 grind [WD,I64]
theorem WmO{N:Nat}{l:List Opn}{i:Nat}(d:l.length<=24)(c:1048576<N)(hi:i<l.length)(f:bj l[i]=true)(b:l[i].1=7):B5 N l (i:Int)=ret (uF l i l[i]):=by
 obtain⟨a,g,j⟩:=Ut d hi f b;unfold B5 uF;simp only[Ws hi,Wa,Ww hi,WA hi,a,Wk (show i<4611686018427387904 by omega)];by_cases h:i+1+l[i].2.2.1.toNat<=l.length
 .have e:decide (((i+1+l[i].2.2.1.toNat:Nat):Int)>Wh l)=false:=by simp[Wh];omega
  rw[e];simp only[Wb];rw[WoB (by omega) h (by omega) c];simp[h]
 grind [decide,Wh]
theorem MS{l:List Opn}:bal l=true↔(∀i,i<l.length->0<=dep l (i+1))/\dep l l.length=0:=by
 unfold bal;rw[Xh,de,←N0,Dk,Wg];simp_all
theorem Wnz(l:List Opn):(!hP (rz l) 0 l&&decide (dep l l.length=0))=(bal l&& !hP (jQ l) 0 l):=by
 rw[Bool.eq_iff_iff,Xh,Xh,de,de,←N0,←N0,Dk,Dk,MS,Wg];constructor
 .rintro⟨b,c⟩;have d:∀i,i<l.length->0<=dep l (i+1):=λi a=>by
   grind [dep,absurd,rz]
  refine⟨⟨d,c⟩,?_⟩;rintro⟨i,a,h⟩;refine b ⟨i,a,?_⟩;have e:0<=dep l i:=by
   cases i with
   |zero=>rw[qD];omega
   |succ i=>grind
  rw[bX]at h⊢;unfold jQ at h;unfold rz
  grind
 simp_all [bX,rz,jQ,pM,Xh,Wg,de,Wm]
theorem Rn{N:Nat}{l:List Opn}(C:l.length<=1048576)(y:1048576<N):yd N l=ret (jX l):=by
 unfold yd jX;by_cases h:l.length<=24
 .have e:decide (Wh l>24)=false:=by simp[Wh];omega
  rw[e];simp only[Wb];have d:=WB (l:=l) (V:=Unit) (R:=Unit×Kf) (lp:=λn j _=>mH N l (some ((),(false,()))) (λz F G A=>some ((),(z==(0:Int),()))) n (dep l j.toNat) ((frk l j.toNat:Nat):Int) j) (n:=N) (by omega)
   (body:=λj x v k=>bif rz l j.toNat x then some ((),(false,()))else k v) (K:=λj _=>some ((),(dep l j.toNat==(0:Int),())))
   (λn i v a=>by
    have B:=fE l i;have c:=fa a;have f:=F1 a;have D:=XA l i;have r:Wj .i64 (dep l i) 1=dep l i+1:=WD (by unfold I64;omega);have s:Wv .i64 (dep l i) 1=dep l i+ -1:=by grind [WM,I64]
    have t:Wj .i64 ((frk l i:Nat):Int) 1=((frk l i+1:Nat):Int):=by grind [WD,I64]
    simp only[mH,WG a,Ws a,Ww a,WA a,Wk (show i<4611686018427387904 by omega),Wa,Xj,tT,ret,Xd,r,s,t];unfold rz;cases ho:bj l[i]with
    |false=>rfl
    |true=>
     unfold opd at c;simp only[Xn,Wb,Hq];by_cases u:l[i].1=8
     .simp_all
     .have b8:(l[i].1==8)=false:=by simp[u]
      by_cases w:l[i].1=9
      .simp_all
      .have b9:(l[i].1==9)=false:=by simp[w]
       by_cases b:l[i].1=7
       .have b7:(l[i].1==7)=true:=by simp[b]
        have m:(l[i].1==11)=false:=by simp[b]
        have g:=WmO h y a ho b;simp only[b8,b9,b7,m,Wa,Wb,NZ,c5,pY,d3,Bool.or_false,Int.add_zero,g,ret,Xd]at c f⊢;simp only[c,f];cases uF l i l[i]<;>rfl
       grind)
   (λn v=>by simp[mH,WP,Xm,Wb]) ()
  have o:dep l (Xa 0)=0:=qD l;have q:((frk l (Xa 0):Nat):Int)=0:=by simp[frk]
  simp only[o,q]at d;refine d.trans ?_;rw[CZ (p:=rz l) (E:=λ_=>some ((),(false,()))) l 0 () (λj x v k _=>by rw[Xj])];rw[bX,Xj,Hi,←Wnz];simp only[h,decide_true,d3];cases hP (rz l) 0 l<;>rfl
 grind [decide,Wh]
theorem Ru{N:Nat}{l:List Opn}(m:l.length<=1048576)(g:1048576<N):oD N l=ret (jX l):=by
 unfold oD jX;by_cases h:l.length<=24
 .have e:decide (Wh l>24)=false:=by simp[Wh];omega
  rw[e];simp only[Wb,RN m g,ret,Xd,h,decide_true,d3];cases uk:bal l with
  |false=>rfl
  |true=>
   simp only[Xn,Wb,d3];have f:=WB (l:=l) (V:=Unit) (R:=Unit×Kf) (lp:=λn j _=>qf N l (some ((),(false,()))) (λD z y=>some ((),(true,()))) n ((frk l j.toNat:Nat):Int) j) (n:=N) (by omega)
    (body:=λj x v k=>bif jQ l j.toNat x then some ((),(false,()))else k v) (K:=λj _=>some ((),(true,())))
    (λn i v a=>by
     have c:=F1 a;have C:=XA l i;have s:Wj .i64 ((frk l i:Nat):Int) 1=((frk l i+1:Nat):Int):=by grind [WD,I64]
     simp only[qf,WG a,Ws a,Ww a,WA a,Wa,Xj,C2,ret,Xd,s];unfold jQ;cases ho:bj l[i]with
     |false=>rfl
     |true=>
      simp only[Xn,Wb,Hq];by_cases d:l[i].1=7
      .have b7:(l[i].1==7)=true:=by simp[d]
       have b:(l[i].1==11)=false:=by simp[d]
       obtain⟨u,f,A⟩:=Ut h a ho d;simp only[b7,b,Wa,u,Wk (show i<4611686018427387904 by omega),NZ,c5,pY,d3,Bool.or_false]at c⊢;simp only[c];unfold uF;by_cases B:i+1+l[i].2.2.1.toNat<=l.length
       .have q1:decide (((i+1+l[i].2.2.1.toNat:Nat):Int)>Wh l)=false:=by simp[Wh];omega
        have w:(((decide ((0:Int)<=((i+1+l[i].2.2.1.toNat:Nat):Int)))&&(decide (((i+1+l[i].2.2.1.toNat:Nat):Int)<=((Xb l):Int))))&&(decide ((0:Int)<=((i+1:Nat):Int)))&&(decide (((i+1:Nat):Int)<=((i+1+l[i].2.2.1.toNat:Nat):Int))))=true:=by simp;omega
        rw[q1,w];simp only[Wb,Wa,Xj];rw[RN (by simp;omega) g];simp_all
       grind [decide,Wh]
      .have b7:(l[i].1==7)=false:=by simp[d]
       by_cases o:l[i].1=11
       .have b:(l[i].1==11)=true:=by simp[o]
        simp only[b7,b,Wa,Wb,Bool.toNat_true,pY,d3,Hq,WlU m g (Nat.le_of_lt a),ret,Xd,Wk (show i<4611686018427387904 by omega)]at c⊢;simp only[c];have t:decide (((frk l i+1:Nat):Int)>1)=decide (frk l i+1>1):=by grind
        have q:(dep l i !=0)= !decide (dep l i=0):=by rw[bne,Hi]
        rw[t,q];cases decide (frk l i+1>1)<;>cases decide (dep l i=0)<;>rfl
       .have b:(l[i].1==11)=false:=by simp[o]
        simp only[b7,b,Wa,Wb,NZ,c5,pY,Hq,Wk (show i<4611686018427387904 by omega)]at c⊢;simp_all)
    (λn v=>by simp[qf,WP,Xm,Wb]) ()
   have r:((frk l (Xa 0):Nat):Int)=0:=by simp[frk]
   simp only[r]at f;refine f.trans ?_;rw[CZ (p:=jQ l) (E:=λ_=>some ((),(false,()))) l 0 () (λj x v k _=>by rw[Xj])];cases hP (jQ l) 0 l<;>rfl
 grind [decide,Wh]
end
section
def jV(x:List UInt8):List Kh->List Kh
 | []=>[x]
 |h::t=>(x++h)::t
def spl(c:UInt8):List UInt8->List Kh
 | []=>[[]]
 |x::l=>if x=c then []::spl c l else jV [x] (spl c l)
theorem zp(c:UInt8):∀l,spl c l≠ []
 | []=>by simp[spl]
 |x::l=>by
  rw[spl];split
  .simp
  .cases spl c l<;>simp[jV]
theorem Dw(c:UInt8):∀l,(spl c l).length<=l.length+1
 | []=>by simp[spl]
 |x::l=>by
  have:=Dw c l;rw[spl];split
  .simp only[Xs];omega
  .cases h:spl c l<;>rw[h]at this<;>simp only[jV,Xs,j0]at* <;>omega
theorem Wr3(a b:List UInt8)(l:List Kh):jV a (jV b l)=jV (a++b) l:=by cases l<;>simp[jV]
theorem UN{l:List Kh}(h:l≠ []):jV [] l=l:=by cases l<;>simp_all [jV]
theorem VE{c:UInt8}:∀{x:List UInt8} (y:List UInt8),c∉x->spl c (x++c::y)=x::spl c y
 | [],y,_=>by simp[spl]
 |z::x,y,h=>by
  simp only[Xr,not_or]at h;rw[dO,spl,We (λe=>h.1 e.symm),VE y h.2,jV];rfl
variable{N:Nat}
theorem WuF{R:Type}{s:List UInt8}{c:UInt8}{K0:Int->Int->Bool->List Kh->Option R}(A:s.length<=1048576):∀(d i a n:Nat) (l:List Kh),i+d=s.length->d<n->a<=i->l.length<=i->
  ∃f g,om N s (c.toNat:Int) K0 n (a:Int) (i:Int) l=K0 ((f:Nat):Int) (s.length:Int) false g/\f<=s.length/\g++ [s.drop f]=l++jV ((s.take i).drop a) (spl c (s.drop i))/\g.length<=s.length:=by
 intro d
 induction d with
 |zero=>
  intro i h n l w x t u;obtain⟨n,rfl⟩:∃m,n=m+1:=⟨n-1,by omega⟩;have b:i=s.length:=by omega
  subst b;refine⟨h,l,?_,t,?_,u⟩
  .simp only[om,WP (Xm _),Wb]
  .simp[spl,jV]
 |succ d ih=>
  intro i h n l w x t u;obtain⟨n,rfl⟩:∃m,n=m+1:=⟨n-1,by omega⟩;have b:i<s.length:=by omega
  have y:Xc s i (0:UInt8)=s[i]:=WA b _;have r:s.drop i=s[i]::s.drop (i+1):=dY b;simp only[om,WG b,Ws b,Wa,Wk (show i<4611686018427387904 by omega),Xj,y];by_cases j:s[i]=c
  .have hb:(((s[i].toNat:Nat):Int)==((c.toNat:Nat):Int))=true:=by rw[j];simp
   have z:((decide ((0:Int)<=(i:Int))&&decide ((i:Int)<=((s.length:Nat):Int)))&&decide ((0:Int)<=(h:Int))&&decide ((h:Int)<=(i:Int)))=true:=by simp;omega
   rw[hb,Wa,z,Wa,Wn (by simp;omega),Wa];obtain⟨f,g,k,o,p,q⟩:=ih (i+1) (i+1) n (l++ [(s.take i).drop h]) (by omega) (by omega) (Xm _) (by simp;omega);refine⟨f,g,k,o,?_,q⟩;rw[p,r,spl,Wf j];have v:(s.take (i+1)).drop (i+1)= []:=by simp
   rw[v,UN (zp _ _),fq];simp[jV]
  .have hb:(((s[i].toNat:Nat):Int)==((c.toNat:Nat):Int))=false:=by
    rw[beq_eq_false_iff_ne];intro e;exact j (UInt8.toNat_inj.1 (by omega))
   rw[hb,Wb];obtain⟨f,g,k,o,p,q⟩:=ih (i+1) h n l (by omega) (by omega) (by omega) (by omega);refine⟨f,g,k,o,?_,q⟩;rw[p,r,spl,We j,Wr3];congr 2;rw[List.take_add_one,Xq b];simp only[Option.toList_some];rw[List.drop_append_of_le_length (by simp;omega)]
theorem FP{s:List UInt8}{c:UInt8}(e:s.length<=1048576)(l:1048576<N):jr N s (c.toNat:Int)=ret (spl c s):=by
 unfold jr;obtain⟨f,b,h,m,i,n⟩:=WuF (N:=N) (s:=s) (c:=c) (K0:=λa k j d=>
  (bif (decide ((0:Int)<=a))&&(decide (a<=((Xb s):Int)))then
 (bif Wx ((Xb d)+(Xb ([(gy (Xa a) s)])))then
 (some ((),(Xf d ([(gy (Xa a) s)]),())))else none)else none)) e s.length 0 0 N [] (by omega) (by omega) (by omega) (by simp)
 refine h.trans ?_;have g:(decide ((0:Int)<=(f:Int))&&decide ((f:Int)<=((s.length:Nat):Int)))=true:=by simp;omega
 simp only[g,Wa,Xj];rw[Wn (by simp;omega),Wa];have:b++ [s.drop f]=spl c s:=by
  rw[i];simp[UN (zp _ _)]
 rw[show Xf b [gy f s]=b++ [s.drop f]from rfl,this]
end
section
theorem Ls{N:Nat}{s:List UInt8}{c:Int}:tD N s c=jr N s c:=by
 have h:∀{R:Type} (K0:Int->Int->Bool->List Kh->Option R) (n:Nat) (f i:Int) (l:List Kh),ww N s c K0 n f i l=om N s c K0 n f i l:=by
  intro R K0 n
  induction n with
  |zero=>intros;rfl
  |succ n ih=>intro f i l;simp only[ww,om,ih]
 unfold tD jr;rw[h]
def isD(b:UInt8):Bool:=decide (48<=b.toNat)&&decide (b.toNat<=57)
def dn(n:Int)(l:List UInt8):Int:=l.foldl (λn b=>n*10+((b.toNat:Int) -48)) n
theorem uh{b:UInt8}:isD b=true↔48<=b.toNat/\b.toNat<=57:=by simp[isD]
theorem Gq:∀{l:List UInt8} {n:Int} {e:Nat},(∀b∈l,isD b=true)->0<=n->n<10^e->0<=dn n l/\dn n l<10^(e+l.length)
 | [],n,e,_,a,c=>⟨a,c⟩
 |b::l,n,e,h,a,c=>by
  have d:=uh.1 (h b (Xl ..));have:=Gq (l:=l) (n:=n*10+((b.toNat:Int) -48)) (e:=e+1) (λb d=>h b (Xg _ d)) (by omega) (by rw[Hr];omega);rw[Xs,show e+(l.length+1)=e+1+l.length by omega];exact this
theorem Vo{n:Int}{b:UInt8}(a:isD b=true)(e:0<=n)(f:n<1000000000000):Wj .i64 (ea .i64 10 n) (IntKind.wrap .i64 (Wv .u8 ((b.toNat:Nat):Int) 48))=n*10+((b.toNat:Int) -48)/\Wj .i64 (ea .i64 n 10) (IntKind.wrap .i64 (Wv .u8 ((b.toNat:Nat):Int) 48))=n*10+((b.toNat:Int) -48):=by
 have a:=uh.1 a;have c:Wv .u8 ((b.toNat:Nat):Int) 48=(b.toNat:Int) -48:=VC (by omega);have d:IntKind.wrap .i64 ((b.toNat:Int) -48)=(b.toNat:Int) -48:=ua (by unfold I64;omega);rw[c,d,qK (by unfold I64;omega),qK (by unfold I64;omega),WD (by unfold I64;omega),WD (by unfold I64;omega)];omega
theorem DP{e:Nat}(h:e<=11):(10:Int)^e<=100000000000:=by
 have:e=0\/e=1\/e=2\/e=3\/e=4\/e=5\/e=6\/e=7\/e=8\/e=9\/e=10\/e=11:=by omega
 rcases this with rfl|rfl|rfl|rfl|rfl|rfl|rfl|rfl|rfl|rfl|rfl|rfl<;>decide
section
variable{N:Nat}{s:List UInt8}{R:Type}
theorem XL{a:Int}{K0:Option R}{K1:Int->Int->Bool->Option R}(o:s.length<=1048576):∀(d i b:Nat) (n:Int),i+d=s.length->d<b->d<=9->0<=n->n<10^(9-d)->
  oa N s a K0 K1 b n (i:Int)=if(s.drop i).all isD=true then K1 (dn n (s.drop i)) (s.length:Int) false else K0
 |0,i,b,n,j,k,l,e,h5=>by
  obtain⟨g,rfl⟩:∃g,b=g+1:=⟨b-1,by omega⟩;have:i=s.length:=by omega
  subst this;rw[oa,WP (Xm _),Wb,fr];rfl
 |d+1,i,b,n,j,k,l,e,h5=>by
  obtain⟨g,rfl⟩:∃g,b=g+1:=⟨b-1,by omega⟩;have c:i<s.length:=by omega
  have h:s.drop i=s[i]::s.drop (i+1):=dY c;have m:(10:Int)^(9-d)=10^(9-(d+1))*10:=by rw[←Hr];congr 1;omega
  have p:=DP (show 9-(d+1)<=11 by omega);simp only[oa,WG c,Ws c,Wa,Wk (show i<4611686018427387904 by omega),Ww c];rw[h,dG];cases hd:isD s[i]with
  |false=>
   have:¬(48<=s[i].toNat/\s[i].toNat<=57):=λz=>by simp[uh.2 z]at hd
   rw[pY,We (by simp)];by_cases f:((s[i].toNat:Nat):Int)<48
   .rw[Wc f,Wa]
   .rw[Wi f,Wb,Wc (by omega),Wa]
  |true=>
   have q:=uh.1 hd;rw[Wi (by omega),Wb,Wi (by omega),Wb,(Vo hd e (by omega)).1,d3];rw[XL o d (i+1) g _ (by omega) (by omega) (by omega) (by omega) (by rw[m];omega)];rfl
theorem M5{K0:Int->Int->Int->Bool->Option R}:∀(d i a:Nat) (n k:Int),i+d=min 11 s.length->d<a->0<=n->n<10^i->0<=k->k<=i->
  ∃j t,n9 N s K0 a n k (i:Int)=K0 (dn n (((s.take 11).drop i).filter isD)) (k+(((s.take 11).drop i).filter isD).length) j t
 |0,i,a,n,k,o,p,b,q,f,h6=>by
  obtain⟨g,rfl⟩:∃g,a=g+1:=⟨a-1,by omega⟩;have l:(s.take 11).drop i= []:=List.drop_eq_nil_of_le (by rw[dA];omega);rw[l];by_cases u:s.length<=i
  .exact⟨(i:Int),false,by rw[n9,WP u,Wb];simp[dn]⟩
  .refine⟨(i:Int),decide ((i:Int)<11),?_⟩;rw[n9,WG (by omega),Wa,Wi (show¬(i:Int)<11 by omega),Wb];simp[dn]
 |d+1,i,a,n,k,o,p,b,q,f,h6=>by
  obtain⟨g,rfl⟩:∃g,a=g+1:=⟨a-1,by omega⟩;have c:i<s.length:=by omega
  have v:i<(s.take 11).length:=by rw[dA];omega
  have m:(s.take 11).drop i=s[i]::(s.take 11).drop (i+1):=by rw[dY v,List.getElem_take]
  have w:=DP (show i<=11 by omega);have x:(10:Int)^(i+1)=10^i*10:=Hr ..;simp only[n9,WG c,Ws c,Wa,Wc (show(i:Int)<11 by omega),Wk (show i<4611686018427387904 by omega),Ww c];rw[m,List.filter_cons];cases hd:isD s[i]with
  |false=>
   have r:¬(48<=s[i].toNat/\s[i].toNat<=57):=λz=>by simp[uh.2 z]at hd
   obtain⟨j,t,e⟩:=M5 (K0:=K0) d (i+1) g n k (by omega) (by omega) b (by omega) f (by omega);refine⟨j,t,?_⟩;rw[We (by simp)];by_cases h:((s[i].toNat:Nat):Int)>=48
   .rw[Wc h,Wa,Wi (by omega),Wb];exact e
   .rw[Wi h,Wb];exact e
  |true=>
   have r:=uh.1 hd;obtain⟨j,t,e⟩:=M5 (K0:=K0) d (i+1) g (n*10+((s[i].toNat:Int) -48)) (k+1) (by omega) (by omega) (by omega) (by omega) (by omega) (by omega);refine⟨j,t,?_⟩;rw[Wf rfl,Wc (show((s[i].toNat:Nat):Int)>=48 by omega),Wa,Wc (show((s[i].toNat:Nat):Int)<=57 by omega),Wa,(Vo hd b (by omega)).2,WD (show I64 (k+1) by unfold I64;omega),e,Xs];congr 1;omega
end
end
section
theorem VZ:∀(f m:Nat),∀x∈bQ f m,48<=x/\x<=57
 |0,m,x,h=>by cases h
 |f+1,m,x,h=>by
  rw[bQ]at h;split at h
  .cases h
  .rcases Xr.1 h with rfl|h
   .omega
   .exact VZ f _ x h
theorem ofd{x:Int}(h:48<=x/\x<=57):(UInt8.ofNat x.toNat).toNat=x.toNat:=by
 rw[UInt8.toNat_ofNat'];omega
theorem WwK{l:List Int}(h:∀x∈l,48<=x/\x<=57):(cE l).all isD=true:=by
 rw[bA];intro b a;obtain⟨x,c,rfl⟩:=Xv.1 a;have:=h x c;rw[uh,ofd this];omega
theorem Lo(n:Int)(c:n.natAbs<10^20):∃D,D≠ []/\D.all isD=true/\aB n=(if n<0 then [45]else [])++D:=by
 unfold aB;by_cases a:n=0
 .subst a;exact⟨[48],by simp,rfl,rfl⟩
 .rw[We a];refine⟨_,?_,WwK λx b=>VZ 20 n.natAbs x (List.mem_reverse.1 b),rfl⟩;have:bQ 20 n.natAbs≠ []:=by rw[bQ,We (by omega)];simp
  simp[cE,this]
theorem WvG{n:Int}{l m:List UInt8}:dn n (l++m)=dn (dn n l) m:=by simp[dn]
theorem Tl:∀(f m:Nat),m<10^f->dn 0 (cE (bQ f m).reverse)=m
 |0,m,h=>by
  have:m=0:=by simpa using h
  subst this;rfl
 |f+1,m,h=>by
  rw[bQ];split
  .rename_i e;subst e;rfl
  .rw[YP,cE,Xx];show dn 0 (cE (bQ f (m/10)).reverse++_)=_;rw[WvG,Tl f (m/10) (by rw[Hs]at h;omega)];show((m/10:Nat):Int)*10+(((UInt8.ofNat (48+((m%10:Nat):Int)).toNat).toNat:Int) -48)=m;rw[ofd (by omega)];omega
theorem Vs:∀(j f m:Nat),m<10^j->(bQ f m).length<=j
 |0,f,m,h=>by
  have:m=0:=by simpa using h
  subst this;rw[Lu];simp
 |j+1,0,m,h=>by simp[bQ]
 |j+1,f+1,m,h=>by
  rw[bQ];split
  .simp
  .have:=Vs j f (m/10) (by rw[Hs]at h;omega);simp;omega
theorem XG:∀e:Nat,(0:Int)<10^e
 |0=>by decide
 |e+1=>by have:=XG e;rw[Hr];omega
def sg(neg:Bool)(n:Int):Int:=bif neg then Wv .i64 0 n else n
theorem NB{neg:Bool}{n:Int}(a:0<=n)(b:n<=100000000000):I64 (sg neg n):=by
 unfold sg;cases neg
 .show I64 n;unfold I64;omega
 .show I64 (Wv .i64 0 n);rw[WM (by unfold I64;omega)];unfold I64;omega
def rdT(neg:Bool)(t s:List UInt8):Int×Bool:=if t.all isD=true/\1<=t.length/\t.length<=9/\aB (sg neg (dn 0 t))=s then(sg neg (dn 0 t),true)else(0,false)
def rd:List UInt8->Int×Bool
 | []=>(0,false)
 |b::t=>if b=45 then rdT true t (b::t)else rdT false (b::t) (b::t)
theorem WxM{m:Int}(j:0<=m)(k:m<1000000000):rd (aB m)=(m,true):=by
 by_cases d:m=0
 .subst d;rfl
 obtain⟨D,f,c,a⟩:=Lo m (by omega);rw[We (show¬m<0 by omega),df]at a;have e:aB m=cE (bQ 20 m.natAbs).reverse:=by unfold aB;rw[We d,We (by omega)];rfl
 have i:dn 0 (aB m)=m:=by rw[e,Tl 20 _ (by omega)];omega
 have h:(aB m).length<=9:=by rw[e];simpa [cE]using Vs 9 20 m.natAbs (by omega)
 cases hD:aB m with
 |nil=>exact Wz (a.symm.trans hD) f
 |cons b t=>
  have g:isD b=true:=by rw[←a,hD,dG,Xh]at c;exact c.1
  have:b≠45:=λz=>by subst z;exact Wz g (by decide)
  show(if b=45 then rdT true t (b::t)else rdT false (b::t) (b::t))=_;rw[We this,←hD];unfold rdT;rw[i];exact Wf ⟨a▸c,by rw[hD];simp,h,rfl⟩
section
variable{N:Nat}{s:List UInt8}
theorem tX(q:s.length<=1048576)(w:1048576<N):kk N s=some ((),((rd s).1,((rd s).2,()))):=by
 have c:∀(neg:Bool) (a:Nat) (t:List UInt8),s.drop a=t->a+t.length=s.length->((Zb N (Wv .i64 (Wh s) (a:Int)) 1 9).bind λu=>
   (bif !u.2.1 then(some ((),((0:Int),(false,()))))else
    (oa N s (a:Int) (some ((),((0:Int),(false,())))) (λd m l=>((Zv N (sg neg d)).bind λh=>(bif !(seq h.2.1 s)then(some ((),((0:Int),(false,()))))else(some ((),(sg neg d,(true,()))))))) N 0 (a:Int))))=some ((),((rdT neg t s).1,((rdT neg t s).2,()))):=λneg a t o v=>by
  rw[WK,WM (by unfold I64 Wh;omega)];simp only[ret,Xd];unfold rdT;by_cases k:1<=t.length/\t.length<=9
  .rw[Wc (by unfold Wh;omega),Wc (by unfold Wh;omega),show(!(true&&true))=false from rfl,Wb];have:=XL (N:=N) (a:=(a:Int)) (K0:=(some ((),((0:Int),(false,()))))) (K1:=(λd m l=>((Zv N (sg neg d)).bind λh=>(bif !(seq h.2.1 s)then(some ((),((0:Int),(false,()))))else(some ((),(sg neg d,(true,())))))))) q t.length a N 0 (by omega) (by omega) (by omega) (by omega) (XG _);rw[this,o];by_cases f:t.all isD=true
   .rw[Wf f];have r:=Gq (n:=0) (e:=0) (bA.1 f) (by omega) (by omega);have x:=DP (show 0+t.length<=11 by omega);have p:I64 (sg neg (dn 0 t)):=NB r.1 (by omega);rw[K7 p (by omega)];simp only[ret,Xd];by_cases g:aB (sg neg (dn 0 t))=s
    .rw[Wf ⟨f,k.1,k.2,g⟩,show seq (aB (sg neg (dn 0 t))) s=true by unfold seq;simpa using g];rfl
    .rw[We (λz=>g z.2.2.2),show seq (aB (sg neg (dn 0 t))) s=false by unfold seq;simpa using g];rfl
   .rw[We f,We (λz=>f z.1)]
  .rw[We (λz=>k ⟨z.2.1,z.2.2.1⟩)];have:(!(decide ((1:Int)<=Wh s-a)&&decide (Wh s-a<=9)))=true:=by
    unfold Wh;simp only[de,pL,Wm];omega
   rw[this,Wa]
 unfold kk;cases s with
 |nil=>
  have:=c false 0 [] rfl rfl;rw[show decide (Wh ([]:List UInt8)>0)=false from rfl,Wb];exact this
 |cons b t=>
  rw[show decide (Wh (b::t)>0)=true by unfold Wh;simp,Wa,show inb 0 (Xb (b::t))=true from Ws (j:=0) (by simp),Wa,show Xc (b::t) (Xa 0) (0:UInt8)=b from rfl];by_cases i:b=45
  .subst i;have:=c true 1 t rfl (by simp;omega);exact this
  .rw[show(((b.toNat:Nat):Int)==45)=false by
    rw[beq_eq_false_iff_ne];intro z;exact i (UInt8.toNat_inj.1 (by show b.toNat=45;omega)),Wb]
   have:=c false 0 (b::t) rfl (by simp);show _=some ((),((if b=45 then rdT true t (b::t)else rdT false (b::t) (b::t)).1,((if b=45 then rdT true t (b::t)else rdT false (b::t) (b::t)).2,())));rw[We i];exact this
theorem tY(O:s.length<=1048576)(K:1048576<N):kj N s=some ((),((rd s).1,((rd s).2,()))):=by
 obtain⟨j,R,F⟩:=M5 (N:=N) (s:=s) (K0:=λg x P J=>
  (bif decide ((Wh s)>(0:Int))then
 (bif inb (0:Int) (Xb s)then
 (bif (((UInt8.toNat (Xc s (Xa (0:Int)) (0:UInt8)):Nat):Int))==(45:Int)then
 (bif decide (x>(9:Int))then
 (some ((),((0:Int),(false,()))))
 else
 (bif decide ((Wh s)>(10:Int))then
 (some ((),((0:Int),(false,()))))
 else
 ((Z6 N (Wv .i64 (0:Int) g)).bind λp=>
 (bif !(seq p.2.1 s)then
 (some ((),((0:Int),(false,()))))
 else
 (some ((),(Wv .i64 (0:Int) g,(true,()))))))))
 else
 (bif decide (x>(9:Int))then
 (some ((),((0:Int),(false,()))))
 else
 (bif decide ((Wh s)>(10:Int))then
 (some ((),((0:Int),(false,()))))
 else
 ((Z6 N g).bind λH=>
 (bif !(seq H.2.1 s)then
 (some ((),((0:Int),(false,()))))
 else
 (some ((),(g,(true,())))))))))else none)
 else
 (bif decide (x>(9:Int))then
 (some ((),((0:Int),(false,()))))
 else
 (bif decide ((Wh s)>(10:Int))then
 (some ((),((0:Int),(false,()))))
 else
 ((Z6 N g).bind λE=>
 (bif !(seq E.2.1 s)then
 (some ((),((0:Int),(false,()))))
 else
 (some ((),(g,(true,())))))))))) (min 11 s.length) 0 N 0 0 (by omega) (by omega) (by omega) (by omega) (by omega) (by omega)
 unfold kj;refine Eq.trans F ?_;rw[List.drop_zero];have G:=Gq (l:=(s.take 11).filter isD) (n:=0) (e:=0) (λb h=>(List.mem_filter.1 h).2) (by omega) (by omega);have Q:((s.take 11).filter isD).length<=11:=fP (List.length_filter_le _ _) (by rw[dA];omega);have M:=DP (show 0+((s.take 11).filter isD).length<=11 by omega);have a:∀(neg:Bool) (t:List UInt8),(neg=true->s=45::t)->(neg=false->s=t/\∀u,s≠45::u)->
   (bif decide ((0:Int)+(((s.take 11).filter isD).length:Int)>9)then(some ((),((0:Int),(false,()))))else
    (bif decide (Wh s>10)then(some ((),((0:Int),(false,()))))else((Z6 N (sg neg (dn 0 ((s.take 11).filter isD)))).bind λp=>
     (bif !(seq p.2.1 s)then(some ((),((0:Int),(false,()))))else(some ((),(sg neg (dn 0 ((s.take 11).filter isD)),(true,()))))))))=some ((),((rdT neg t s).1,((rdT neg t s).2,()))):=λneg t w k=>by
  have y:=NB (neg:=neg) G.1 (by omega);rw[C4 y (by omega)];simp only[ret,Xd];unfold rdT;by_cases f:t.all isD=true/\1<=t.length/\t.length<=9
  .have e1:(s.take 11).filter isD=t:=by
    cases neg with
    |true=>
     have:=w rfl;rw[this,List.take_succ_cons,vD (by omega),List.filter_cons_of_neg (by decide),AA.2 (bA.1 f.1)]
    |false=>rw[(k rfl).1,vD (by omega),AA.2 (bA.1 f.1)]
   have L:s.length<=10:=by
    cases neg with
    |true=>rw[w rfl,Xs];omega
    |false=>rw[(k rfl).1];omega
   rw[e1,Wi (by omega),Wb,Wi (by unfold Wh;omega),Wb];by_cases m:aB (sg neg (dn 0 t))=s
   .rw[Wf ⟨f.1,f.2.1,f.2.2,m⟩,show seq (aB (sg neg (dn 0 t))) s=true by unfold seq;simpa using m];rfl
   .rw[We (λz=>m z.2.2.2),show seq (aB (sg neg (dn 0 t))) s=false by unfold seq;simpa using m];rfl
  .rw[We (λz=>f ⟨z.1,z.2.1,z.2.2.1⟩)];by_cases q:(0:Int)+(((s.take 11).filter isD).length:Int)>9
   .rw[Wc q,Wa]
   .rw[Wi q,Wb];by_cases o:Wh s>10
    .rw[Wc o,Wa]
    .rw[Wi o,Wb];have:seq (aB (sg neg (dn 0 ((s.take 11).filter isD)))) s=false:=by
      unfold seq;rw[beq_eq_false_iff_ne];intro z;apply f;obtain⟨D,C,i,c⟩:=Lo (sg neg (dn 0 ((s.take 11).filter isD))) (by unfold I64 at y;omega);rw[z]at c;have I:s.take 11=s:=vD (by unfold Wh at o;omega);rw[I]at q;have v:D.filter isD=D:=AA.2 (bA.1 i);have r:1<=D.length:=by cases D with|nil=>exact Wz rfl C|cons _ _=>simp
      have e:t=D:=by
       cases neg with
       |true=>
        have B:=w rfl;split at c
        .rw[B]at c;exact(List.cons.inj c).2
        .rw[B,df]at c;rw[←c]at i;exact Wz i (by simp[isD])
       |false=>
        split at c
        .exact Wz c ((k rfl).2 D)
        .rw[←(k rfl).1,c];rfl
      subst e;refine⟨i,r,?_⟩;have:(s.filter isD).length=t.length:=by
       rw[c,List.filter_append,v];split<;>simp[isD]
      omega
     rw[this];rfl
 cases d:s with
 |nil=>
  have:=a false [] (λz=>by cases z) (λ_=>⟨d,λu z=>by rw[d]at z;cases z⟩);rw[d]at this;exact this
 |cons b t=>
  have A:decide (Wh (b::t)>0)=true:=by unfold Wh;simp
  rw[←d]at A⊢;rw[A,Wa,show inb 0 s.length=true from by rw[d];exact Ws (j:=0) (by simp),Wa,show Xc s (Xa 0) (0:UInt8)=b by rw[d];rfl];by_cases h:b=45
  .subst h;have:=a true t (λ_=>d) (λz=>by cases z);rw[show(((45:UInt8).toNat:Nat):Int)==45 from rfl,Wa];refine Eq.trans this ?_;rw[d];rfl
  .rw[show(((b.toNat:Nat):Int)==45)=false by
    rw[beq_eq_false_iff_ne];intro z;exact h (UInt8.toNat_inj.1 (by show b.toNat=45;omega)),Wb]
   have:=a false s (λz=>by cases z) (λ_=>⟨rfl,λu z=>h (by rw[d]at z;exact(List.cons.inj z).1)⟩);refine Eq.trans this ?_;have:rd s=rdT false s s:=by rw[d];exact We h
   rw[this]
end
end
section
def wds:List Kh:=[([]:List UInt8),[115,101,116],[97,100,100],[115,117,98],[108,101,115,115],[114,101,97,100],[119,114,105,116,101],[115,107,105,112],[98,101,103,105,110],[101,110,100],[97,98,111,114,116],[102,111,114,107],[112,117,116],[103,101,116],[100,114,111,112],[98,117,109,112],[99,111,117,110,116]]
def dQ(k:Int):Nat:=[2,2,3,3,3,2,2,2,1,0,0,0,3,2,2,1,1].getD k.toNat 2
theorem k16{k:Int}(h:1<=k/\k<=16):k=1\/k=2\/k=3\/k=4\/k=5\/k=6\/k=7\/k=8\/k=9\/k=10\/k=11\/k=12\/k=13\/k=14\/k=15\/k=16:=by omega
theorem XF{N:Nat}{k:Int}(h:1<=k/\k<=16):IU N k=ret (wds.getD k.toNat []):=by
 rcases k16 h with rfl|rfl|rfl|rfl|rfl|rfl|rfl|rfl|rfl|rfl|rfl|rfl|rfl|rfl|rfl|rfl<;>rfl
theorem Uj{N:Nat}{k:Int}(h:1<=k/\k<=16):IV N k=ret (dQ k:Int):=by
 rcases k16 h with rfl|rfl|rfl|rfl|rfl|rfl|rfl|rfl|rfl|rfl|rfl|rfl|rfl|rfl|rfl|rfl<;>rfl
theorem UA{N:Nat}{k:Int}(h:1<=k/\k<=16):J3 N k=ret (dQ k:Int):=by
 rcases k16 h with rfl|rfl|rfl|rfl|rfl|rfl|rfl|rfl|rfl|rfl|rfl|rfl|rfl|rfl|rfl|rfl<;>rfl
theorem Gx{k:Int}(h:1<=k/\k<=16):dQ k<=3/\(32:UInt8)∉wds.getD k.toNat []/\(wds.getD k.toNat []).length<=5:=by
 rcases k16 h with rfl|rfl|rfl|rfl|rfl|rfl|rfl|rfl|rfl|rfl|rfl|rfl|rfl|rfl|rfl|rfl<;>exact⟨by decide,by decide,by decide⟩
theorem V8{c:UInt8}:∀{x:List UInt8},c∉x->spl c x= [x]
 | [],_=>rfl
 |z::x,h=>by
  simp only[Xr,not_or]at h;rw[spl,We (λe=>h.1 e.symm),V8 h.2];rfl
theorem TA:∀{l:List Kh} {w:List UInt8},(32:UInt8)∉w->(∀x∈l,(32:UInt8)∉x)->spl 32 (w++l.flatMap λx=>32::x)=w::l
 | [],w,h,_=>by rw[List.flatMap_nil,hU,V8 h]
 |x::l,w,h,hl=>by
  rw[pU,dO,VE _ h,TA (hl x (Xl ..)) λy a=>hl y (Xg _ a)]
theorem Wxm{n:Int}(c:n.natAbs<10^20):(32:UInt8)∉aB n:=λh=>by
 obtain⟨D,d,a,b⟩:=Lo n c;rw[b]at h;rcases List.mem_append.1 h with h|h
 .split at h
  .simp at h
  .cases h
 .exact Wz (bA.1 a _ h) (by decide)
def shO(o:Opn):List UInt8:=if bj o=true then wds.getD o.1.toNat []++(([o.2.1,o.2.2.1,o.2.2.2].take (dQ o.1)).map aB).flatMap λx=>32::x else []
section
variable{N:Nat}{R:Type}
theorem XB:∀(l:List Int),((l.map aB).flatMap λx=>(32:UInt8)::x).length<=31*l.length
 | []=>by simp
 |x::l=>by
  have:=XB l;have:=gR x;simp only[bz,pU,dO,Xs,Xz]at*;omega
theorem VS{l:List Int}{K0:List UInt8->Int->Bool->Option R}(j:1048576<N)(c:∀x∈l,I64 x)(k:l.length<=10):∀(d i a:Nat) (s:List UInt8),i+d=l.length->d<a->s.length+31*d<=1000->
  w9 N (Wh l) l K0 a s (i:Int)=K0 (s++((l.drop i).map aB).flatMap λx=>32::x) (l.length:Int) false
 |0,i,a,s,f,h,h3=>by
  obtain⟨g,rfl⟩:∃g,a=g+1:=⟨a-1,by omega⟩;have:i=l.length:=by omega
  subst this;rw[w9,WP (Xm _),Wb,fr];simp
 |d+1,i,a,s,f,h,h3=>by
  obtain⟨g,rfl⟩:∃g,a=g+1:=⟨a-1,by omega⟩;have b:i<l.length:=by omega
  have e:l.drop i=l[i]::l.drop (i+1):=dY b;have m:=gR l[i];rw[w9,WG b,Wa,Ws b,Wa,ku (by simp;omega),Wa,Ww b,K7 (c _ (Xy b)) (by omega)];simp only[ret,Xd];rw[ku (by simp;omega),Wa,Wk (show i<4611686018427387904 by omega),VS j c k d (i+1) g _ (by omega) (by omega) (by simp;omega),e];simp only[bz,pU,fq,dO,df]
theorem Wse{o:Opn}(h:1<=o.1/\o.1<=16)(a:I64 o.2.1/\I64 o.2.2.1/\I64 o.2.2.2)(b:1048576<N):tI N o=ret (shO o):=by
 obtain⟨f,g,j⟩:=Gx h;unfold tI shO;rw[C2];simp only[ret,Xd];cases bj o with
 |false=>rfl
 |true=>
  rw[XF h,Uj h];simp only[ret,Xd,Xn,Wb,Xj,WN];have e:(decide ((0:Int)<=((dQ o.1:Nat):Int))&&decide (((dQ o.1:Nat):Int)<=(([o.2.1,o.2.2.1,o.2.2.2].length:Nat):Int)))=true:=by simp;omega
  rw[e,Wa];have c:([o.2.1,o.2.2.1,o.2.2.2].take (dQ o.1)).length<=3:=by rw[dA];exact fP (Nat.min_le_right ..) (by simp)
  refine Eq.trans (VS (i:=0) (l:=[o.2.1,o.2.2.1,o.2.2.2].take (dQ o.1)) b (λx d=>?_) (by omega) ([o.2.1,o.2.2.1,o.2.2.2].take (dQ o.1)).length N _ (by omega) (by omega) (by omega)) ?_
  .have:=nI d;simp only[Xr,mB,or_false]at this;rcases this with rfl|rfl|rfl
   .exact a.1
   .exact a.2.1
   .exact a.2.2
  .rfl
theorem Tm:JE N=ret wds:=rfl
theorem WsN{o:Opn}(h:1<=o.1/\o.1<=16)(e:I64 o.2.1/\I64 o.2.2.1/\I64 o.2.2.2)(n:1048576<N):B4 N o=ret (shO o):=by
 obtain⟨s,t,u⟩:=Gx h;unfold B4 shO;rw[tT,UA h,Tm];simp only[ret,Xd];cases bj o with
 |false=>rfl
 |true=>
  have p:=gR o.2.1;have q:=gR o.2.2.1;have r:=gR o.2.2.2;have k:inb o.1 (Xb wds)=true:=by unfold inb;simp[wds];omega
  simp only[Xn,Wb,WN];rw[k,Wa,C4 e.1 (by omega),C4 e.2.1 (by omega),C4 e.2.2 (by omega)];simp only[ret,Xd];have c:dQ o.1=0\/dQ o.1=1\/dQ o.1=2\/dQ o.1=3:=by omega
  have d:∀a b:List UInt8,a.length+b.length<=1000->ad a b=true:=λa b h=>ku (by omega);generalize Xc wds o.1.toNat []=w at*;have f:=d w [32] (by simp;omega);have g:=d (w++ [32]) (aB o.2.1) (by simp;omega);have i:=d (w++ [32]++aB o.2.1) [32] (by simp;omega);have j:=d (w++ [32]++aB o.2.1++ [32]) (aB o.2.2.1) (by simp;omega);have l:=d (w++ [32]++aB o.2.1++ [32]++aB o.2.2.1) [32] (by simp;omega);have m:=d (w++ [32]++aB o.2.1++ [32]++aB o.2.2.1++ [32]) (aB o.2.2.2) (by simp;omega);rcases c with c|c|c|c<;>rw[c]
  .simp
  .rw[f,g];simp
  .rw[f,g,i,j];simp
  .rw[f,g,i,j,l,m];simp
end
end
section
section
variable{N:Nat}{s:List UInt8}{l:List Kh}{R:Type}
def Kd0(l:List Kh)(b:Int):Prop:=b=0\/(1<=b/\b<=16)/\wds.getD b.toNat []=l.getD 0 []
theorem Mt(h:0<l.length){K0 K1:Int->Bool->Int->Option R}:∀(d a:Nat) (k b:Int),k+d=17->1<=k->d<a->Kd0 l b->∃c,Kd0 l c/\w7 N s l wds K0 a k b=K0 17 false c/\xa N s l K1 a k b=K1 17 false c
 |0,a,k,b,p,q,r,e=>by
  obtain⟨g,rfl⟩:∃g,a=g+1:=⟨a-1,by omega⟩;have:k=17:=by omega
  subst this;exact⟨b,e,rfl,rfl⟩
 |d+1,a,k,b,p,q,r,e=>by
  obtain⟨g,rfl⟩:∃g,a=g+1:=⟨a-1,by omega⟩;have f:1<=k/\k<=16:=by omega
  have t:inb (0:Int) l.length=true:=Ws (j:=0) h;have m:decide (k<Wh wds)=true:=Wc (by show k<17;omega);have n:inb k wds.length=true:=by unfold inb;show(decide (0<=k)&&decide (k<((17:Nat):Int)))=true;simp;omega
  have o:Wj .i64 k 1=k+1:=WD (by unfold I64;omega);rw[w7,xa,m,n,t,Wc f.2,XF f,o];simp only[Wa,ret,Xd];by_cases i:wds.getD k.toNat []=l.getD 0 []
  .have:seq (wds.getD k.toNat []) (Xc l (Xa 0) [])=true:=by unfold seq;simpa using i
   rw[this,Wa,Wa];exact Mt h d g (k+1) k (by omega) (by omega) (by omega) (.inr ⟨f,i⟩)
  .have:seq (wds.getD k.toNat []) (Xc l (Xa 0) [])=false:=by unfold seq;simpa using i
   rw[this,Wb,Wb];exact Mt h d g (k+1) b (by omega) (by omega) (by omega) e
theorem WwI{o:Opn}(a:1<=o.1/\o.1<=16)(h:bj o=true):(0<=o.2.1/\o.2.1<=65535)/\(0<=o.2.2.1/\o.2.2.1<=65535)/\(0<=o.2.2.2/\o.2.2.2<=65535):=by
 obtain⟨k,x,y,z⟩:=o;simp only at a⊢;rcases k16 a with rfl|rfl|rfl|rfl|rfl|rfl|rfl|rfl|rfl|rfl|rfl|rfl|rfl|rfl|rfl|rfl<;>(simp[bj,am,bH,bO,dH]at h;omega)
theorem Ao{x:List UInt8}:I64 (rd x).1:=by
 have:∀(neg:Bool) (t s:List UInt8),I64 (rdT neg t s).1:=λneg t s=>by
  unfold rdT;split
  .rename_i h;have a:=Gq (n:=0) (e:=0) (bA.1 h.1) (by omega) (by omega);exact NB a.1 (by have:=DP (show 0+t.length<=11 by omega);omega)
  .exact⟨by decide,by decide⟩
 cases x with
 |nil=>exact⟨by decide,by decide⟩
 |cons b t=>
  show I64 (if b=45 then rdT true t (b::t)else rdT false (b::t) (b::t)).1;split<;>exact this ..
theorem LX{o:Opn}{w:List UInt8}{r:List Kh}(d:1<=o.1/\o.1<=16)(f:spl 32 s=w::r)(h:shO o=s)(k:w≠ []):r=([o.2.1,o.2.2.1,o.2.2.2].take (dQ o.1)).map aB/\∀x∈r,(rd x).2=true:=by
 unfold shO at h;split at h
 .rename_i aY;obtain⟨g,i,j⟩:=WwI d aY;have c:∀v∈ [o.2.1,o.2.2.1,o.2.2.2].take (dQ o.1),0<=v/\v<=65535:=λv a=>by
   have:=nI a;simp only[Xr,mB,or_false]at this;rcases this with rfl|rfl|rfl
   .exact g
   .exact i
   .exact j
  have:=TA (l:=([o.2.1,o.2.2.1,o.2.2.2].take (dQ o.1)).map aB) (Gx d).2.1 λx b=>by
   obtain⟨v,a,rfl⟩:=Xv.1 b;have:=c v a;exact Wxm (by omega)
  rw[h,f]at this;have e:=(List.cons.inj this).2;refine⟨e,λx b=>?_⟩;rw[e]at b;obtain⟨v,a,rfl⟩:=Xv.1 b;have:=c v a;rw[WxM (by omega) (by omega)]
 .subst h;have:w= []:=by
   have:=f.symm;simp[spl]at this;exact this.1
  exact Wz this k
abbrev RO:=Unit×(Opn×Kf)
theorem X3{b x y z:Int}(c:1<=b/\b<=16)(d:I64 x)(e:I64 y)(f:I64 z)(a:1048576<N):((B4 N (b,(x,(y,z)))).bind λg=>
 (bif !(seq g.2.1 s)then(some ((),((0,(0,(0,0))),(false,()))):Option RO)else(some ((),((b,(x,(y,z))),(true,()))))))=some (if shO (b,(x,(y,z)))=s then((),((b,(x,(y,z))),(true,())))else((),((0,(0,(0,0))),(false,())))):=by
 rw[WsN c ⟨d,e,f⟩ a];simp only[ret,Xd,seq];by_cases h:shO (b,(x,(y,z)))=s
 .rw[Wf h,show(shO (b,(x,(y,z)))==s)=true by simpa using h];rfl
 .rw[We h,show(shO (b,(x,(y,z)))==s)=false by simpa using h];rfl
theorem X1{b x y z:Int}(c:1<=b/\b<=16)(d:I64 x)(e:I64 y)(f:I64 z)(a:1048576<N):((tI N (b,(x,(y,z)))).bind λg=>
 (bif !(seq g.2.1 s)then(some ((),((0,(0,(0,0))),(false,()))):Option RO)else(some ((),((b,(x,(y,z))),(true,()))))))=some (if shO (b,(x,(y,z)))=s then((),((b,(x,(y,z))),(true,())))else((),((0,(0,(0,0))),(false,())))):=by
 rw[Wse c ⟨d,e,f⟩ a];simp only[ret,Xd,seq];by_cases h:shO (b,(x,(y,z)))=s
 .rw[Wf h,show(shO (b,(x,(y,z)))==s)=true by simpa using h];rfl
 .rw[We h,show(shO (b,(x,(y,z)))==s)=false by simpa using h];rfl
theorem bb{α:Type}{a c:Bool}{F X:α}:(bif !a then F else bif !c then F else X)=bif !(a&&c)then F else X:=by cases a<;>cases c<;>rfl
theorem fin{b x y z:Int}{d:Bool}(g:1<=b/\b<=16)(i:I64 x)(j:I64 y)(k:I64 z)(f:1048576<N)(h:shO (b,(x,(y,z)))=s->d=true):∃o e,(bif !d then(some ((),((0,(0,(0,0))),(false,()))):Option RO)else((B4 N (b,(x,(y,z)))).bind λc=>
 (bif !(seq c.2.1 s)then(some ((),((0,(0,(0,0))),(false,()))):Option RO)else(some ((),((b,(x,(y,z))),(true,())))))))=some ((),(o,(e,())))/\((tI N (b,(x,(y,z)))).bind λc=>
 (bif !(seq c.2.1 s)then(some ((),((0,(0,(0,0))),(false,()))):Option RO)else(some ((),((b,(x,(y,z))),(true,()))))))=some ((),(o,(e,()))):=by
 rw[X3 g i j k f,X1 g i j k f];by_cases a:shO (b,(x,(y,z)))=s
 .rw[h a,Wf a];exact⟨_,_,rfl,rfl⟩
 .rw[We a];refine⟨_,_,?_,rfl⟩;cases d<;>rfl
section
variable{M:Nat}{w x y z:List UInt8}{b:Int}{K0:Option R}{K1:Int->Bool->Int->Int->Int->Option R}{K2:Int->Bool->List Int->Option R}
theorem u0:od (M+5) s [w] b K0 K1 (M+5) 1 0 0 0=K1 1 false 0 0 0:=by kernel_rfl
theorem u1:od (M+5) s [w,x] b K0 K1 (M+5) 1 0 0 0=((kj (M+5) x).bind λo=>bif !o.2.2.1 then K0 else K1 2 false o.2.1 0 0):=by kernel_rfl
theorem u2:od (M+5) s [w,x,y] b K0 K1 (M+5) 1 0 0 0=((kj (M+5) x).bind λo=>bif !o.2.2.1 then K0 else((kj (M+5) y).bind λp=>bif !p.2.2.1 then K0 else K1 3 false o.2.1 p.2.1 0)):=by kernel_rfl
theorem u3:od (M+5) s [w,x,y,z] b K0 K1 (M+5) 1 0 0 0=((kj (M+5) x).bind λo=>bif !o.2.2.1 then K0 else((kj (M+5) y).bind λp=>bif !p.2.2.1 then K0 else((kj (M+5) z).bind λq=>bif !q.2.2.1 then K0 else K1 4 false o.2.1 p.2.1 q.2.1))):=by kernel_rfl
theorem v0:ta (M+5) s (Xa 1) (Xb [w]) (((Xb [w] -Xa 1:Nat):Int)) b [w] K2 (M+5) 0 (Xk 3 0)=K2 0 false [0,0,0]:=by kernel_rfl
theorem v1:ta (M+5) s (Xa 1) (Xb [w,x]) (((Xb [w,x] -Xa 1:Nat):Int)) b [w,x] K2 (M+5) 0 (Xk 3 0)=((kk (M+5) x).bind λo=>K2 1 false [o.2.1,0,0]):=by kernel_rfl
theorem v2:ta (M+5) s (Xa 1) (Xb [w,x,y]) (((Xb [w,x,y] -Xa 1:Nat):Int)) b [w,x,y] K2 (M+5) 0 (Xk 3 0)=((kk (M+5) x).bind λo=>(kk (M+5) y).bind λp=>K2 2 false [o.2.1,p.2.1,0]):=by kernel_rfl
theorem v3:ta (M+5) s (Xa 1) (Xb [w,x,y,z]) (((Xb [w,x,y,z] -Xa 1:Nat):Int)) b [w,x,y,z] K2 (M+5) 0 (Xk 3 0)=((kk (M+5) x).bind λo=>(kk (M+5) y).bind λp=>(kk (M+5) z).bind λq=>K2 3 false [o.2.1,p.2.1,q.2.1]):=by kernel_rfl
end
theorem uw{c:UInt8}:∀{s x:List UInt8},x∈spl c s->x.length<=s.length
 | [],x,h=>by simp[spl]at h;simp[h]
 |y::s,x,h=>by
  rw[spl]at h;split at h
  .rcases Xr.1 h with rfl|h
   .simp
   .have:=uw h;simp;omega
  .cases hs:spl c s with
   |nil=>exact Wz hs (zp c s)
   |cons a t=>
    rw[hs]at h;rcases Xr.1 h with rfl|h
    .have:=uw (c:=c) (s:=s) (x:=a) (by rw[hs];exact Xl ..);simp;omega
    .have:=uw (c:=c) (s:=s) (x:=x) (by rw[hs];exact Xg _ h);simp;omega
theorem WrB(n:s.length<=1048576)(d:1048576<N):∃o b,ya N s=some ((),(o,(b,())))/\yb N s=some ((),(o,(b,()))):=by
 unfold ya yb;have A:jr N s 32=ret (spl 32 s):=FP (c:=32) n d;rw[Ls,A,Tm];simp only[ret,Xd];have t:=zp 32 s;have m:=Dw 32 s;cases hL:spl 32 s with
 |nil=>exact Wz hL t
 |cons w r=>
  rw[hL]at m;obtain⟨M,rfl⟩:∃M,N=M+5:=⟨N-5,by omega⟩;have F:=λ(K0 K1:Int->Bool->Int->Option (Unit×(Opn×Kf)))=>Mt (N:=M+5) (s:=s) (l:=w::r) (by simp) (K0:=K0) (K1:=K1) 16 (M+5) 1 0 (by omega) (by omega) (by omega) (.inl rfl);obtain⟨b,B,u,v⟩:=F _ _;rw[u,v];rcases B with rfl|⟨f,p⟩
  .exact⟨_,_,rfl,rfl⟩
  .have sn:(b==0)=false:=by rw[beq_eq_false_iff_ne];omega
   obtain⟨G,H,I⟩:=Gx f;have k:w≠ []:=λz=>by
    subst z;change wds.getD b.toNat []= []at p;rcases k16 f with rfl|rfl|rfl|rfl|rfl|rfl|rfl|rfl|rfl|rfl|rfl|rfl|rfl|rfl|rfl|rfl<;>cases p
   rw[sn,UA f,Uj f];simp only[Wb,ret,Xd];have E:Wh (w::r)=(r.length:Int)+1:=by unfold Wh;simp
   rw[E,WM (by unfold I64;simp at m;omega),WD (show I64 (1+((dQ b:Nat):Int)) by unfold I64;omega)];by_cases D:r.length=dQ b
   .rw[show((r.length:Int)+1 !=1+((dQ b:Nat):Int))=false by simp;omega,show((r.length:Int)+1-1 !=((dQ b:Nat):Int))=false by simp;omega];have a:I64 0:=⟨by decide,by decide⟩;have j:∀x∈r,x.length<=1048576:=λx g=>fP (uw (c:=32) (s:=s) (by rw[hL];exact Xg _ g)) n;have C:(decide ((0:Int)<=1)&&decide ((1:Int)<=(((w::r).length:Nat):Int)))=true:=by simp;omega
    simp only[Wb];rw[C,Wa];cases r with
    |nil=>
     rw[u0,v0];exact⟨_,_,X3 f a a a d,X1 f a a a d⟩
    |cons x r=>
    have g:=j x (by simp);cases r with
    |nil=>
     have e:=λh=>(LX (o:=(b,((rd x).1,(0,0)))) f hL h k).2;rw[u1,v1,tY g d,tX g d];simp only[Xd];exact fin f Ao a a d λh=>e h x (by simp)
    |cons y r=>
    have i:=j y (by simp);cases r with
    |nil=>
     have e:=λh=>(LX (o:=(b,((rd x).1,((rd y).1,0)))) f hL h k).2;rw[u2,v2,tY g d,tX g d,tY i d,tX i d];simp only[Xd];rw[bb];exact fin f Ao Ao a d λh=>by rw[e h x (by simp),e h y (by simp)];rfl
    |cons z r=>
    have q:=j z (by simp);cases r with
    |nil=>
     have e:=λh=>(LX (o:=(b,((rd x).1,((rd y).1,(rd z).1)))) f hL h k).2;rw[u3,v3,tY g d,tX g d,tY i d,tX i d,tY q d,tX q d];simp only[Xd];rw[bb,bb];exact fin f Ao Ao Ao d λh=>by rw[e h x (by simp),e h y (by simp),e h z (by simp)];rfl
    |cons _ _=>simp at D;omega
   .rw[show((r.length:Int)+1 !=1+((dQ b:Nat):Int))=true by simp;omega,show((r.length:Int)+1-1 !=((dQ b:Nat):Int))=true by simp;omega];exact⟨_,_,rfl,rfl⟩
end
end
section
abbrev Cur:=List Int×Int×Int
end
section

end
section
section
variable{N:Nat}{c:Cur}
end
end
section
section
variable{N:Nat}{c:Cur}
end
end
section
def Ds(l o:List Rw)(c:Nat):List Rw:=match c9 l c with
 |none=>o
 |some v=>o++ [((c:Int),v)]
def mq(l:List Rw):Nat->Nat->List Rw->List Rw
 |0,_,o=>o
 |j+1,c,o=>mq l j (c+1) (Ds l o c)
def aA(l:List Rw):List Rw:=mq l 8 0 []
theorem Lh{N:Nat}{l:List Rw}(b:l.length<=1048576)(a:1048576<N):∀(j n c:Nat) (o:List Rw),c+j=8->j<n->o.length<=c->xX N l (λg f d=>(some ((),(d,())))) n (c:Int) o=ret (mq l j c o)
 |j,0,c,o,_,h,_=>by omega
 |0,n+1,c,o,h,_,_=>by
  have:c=8:=by omega
  subst this;rfl
 |j+1,n+1,c,o,h,i,ho=>by
  have e:decide ((c:Int)<8)=true:=by simp;omega
  rw[xX,e,KU b a,Wk (by omega),mq,Ds];simp only[Wa];rcases c9 l c with _|v
  .exact Lh b a j n (c+1) o (by omega) (by omega) (by omega)
  .have er:Wx (o.length+ [((c:Int),v)].length)=true:=Wn (by simp;omega);simp only[opI,Xd,Wa,er];exact Lh b a j n (c+1) _ (by omega) (by omega) (by simp;omega)
theorem Lb{N:Nat}{l:List Rw}(b:l.length<=1048576)(a:1048576<N):∀(j n c:Nat) (o:List Rw),c+j=8->j<n->o.length<=c->xW N l (λg f d=>(some ((),(d,())))) n (c:Int) o=ret (mq l j c o)
 |j,0,c,o,_,h,_=>by omega
 |0,n+1,c,o,h,_,_=>by
  have:c=8:=by omega
  subst this;rfl
 |j+1,n+1,c,o,h,i,ho=>by
  have e:decide ((c:Int)<8)=true:=by simp;omega
  rw[xW,e,KS b a,Wk (by omega),mq,Ds];simp only[Wa];rcases c9 l c with _|v
  .exact Lb b a j n (c+1) o (by omega) (by omega) (by omega)
  .have er:Wx (o.length+ [((c:Int),v)].length)=true:=Wn (by simp;omega);simp only[opI,Xd,Wa,er];exact Lb b a j n (c+1) _ (by omega) (by omega) (by simp;omega)
theorem Fz{N:Nat}{l:List Rw}(b:l.length<=1048576)(a:1048576<N):oJ N l=ret (aA l):=by
 unfold oJ;exact Lb b a 8 N 0 [] rfl (by omega) (by simp)
theorem TN{l:List Rw}(h:cb l=false):∀(j c:Nat) (o:List Rw),mq l j c o=o
 |0,_,_=>rfl
 |j+1,c,o=>by
  have e:c9 l c=none:=by grind [c9]
  rw[mq,Ds,e];exact TN h j (c+1) o
theorem Fx{N:Nat}{l:List Rw}(b:l.length<=1048576)(a:1048576<N):oK N l=ret (aA l):=by
 unfold oK;simp only[CU b a,ret,Xd];cases h:cb l
 .grind [aA,TN]
 .exact Lh b a 8 N 0 [] rfl (by omega) (by simp)
def fnd{α:Type}(p:α->Bool):List α->Nat->Option (Nat×α)
 | [],_=>none
 |x::l,j=>bif p x then some (j,x)else fnd p l (j+1)
theorem yM{α V R:Type}{body:Int->α->V->(V->Option R)->Option R}{K:Int->V->Option R}{p:α->Bool}{E:Int->α->Option R}:∀(l:List α) (j:Nat) (v:V),(∀(j:Nat) x v k,x∈l->body j x v k=bif p x then E j x else k v)->
  cY body K l j v=match fnd p l j with|some r=>E r.1 r.2|none=>K ((j+l.length:Nat):Int) v
 | [],j,v,_=>rfl
 |x::l,j,v,h=>by
  rw[cY,h j x v _ (Xl ..),fnd,yM l (j+1) v λj y v k a=>h j y v k (Xg _ a)]
  grind
theorem kr{α:Type}{p:α->Bool}:∀{l:List α} {j:Nat} {r:Nat×α},fnd p l j=some r->p r.2=true/\j<=r.1/\r.1<j+l.length/\l[r.1-j]?=some r.2
 | [],j,r,h=>by cases h
 |x::l,j,r,h=>by
  rw[fnd]at h;cases hp:p x
  .rw[hp]at h;obtain⟨a,b,c,d⟩:=kr (l:=l) h
   grind
  grind
theorem Db{α:Type}{p:α->Bool}:∀{l:List α} {j:Nat},fnd p l j=none->∀x∈l,p x=false
 | [],j,h=>by simp
 |x::l,j,h=>by
  rw[fnd]at h;cases hp:p x
  .rw[hp]at h;intro y a;rcases Xr.1 a with rfl|a
   .exact hp
   .exact Db h y a
  simp_all
abbrev En:=Int×Int×Int
def ent(b:List En)(c:Int):Option (Nat×En):=fnd (λe=>e.1==c) b 0
theorem K6{N:Nat}{f:Y_Family}{c:Int}(o:f.2.2.2.2.2.2.1.length<=1048576)(t:1048576<N):wH N f c=ret (match ent f.2.2.2.2.2.2.1 c with|some r=>(r.1:Int)|none=>-1):=by
 unfold wH;show((Zn N f.2.2.2.2.2.2.1 c).bind _)=_;generalize f.2.2.2.2.2.2.1=b at o;unfold Zn ent;have m:=WB (l:=b) (V:=Unit) (R:=Kj×Kj) (lp:=λn j v=>Zf N b (λg d=>(some ((d,()),(g,())))) (λq s h=>(some ((h,()),((-1:Int),())))) n j c) (n:=N) (by omega)
  (body:=λj x v k=>bif x.1==c then some ((c,()),(j,()))else k v) (K:=λ_ v=>some ((c,()),((-1:Int),())))
  (λn i v a=>by simp only[Zf,Qj,WG a,Ws a,Ww a,Wk (show i<4611686018427387904 by omega),Wa,Xd])
  (λn v=>by simp[Zf,WP,Xm,Wb]) ()
 rw[m,yM (p:=λe=>e.1==c) (E:=λj x=>some ((c,()),(j,()))) b 0 () (λj x v k _=>rfl)];cases fnd (λe:En=>e.1==c) b 0<;>rfl
theorem RY{N:Nat}{f:Y_Family}{c:Int}(o:(P6 f).length<=1048576)(m:1048576<N):xN N f c=ret (match ent (P6 f) c with|some r=>r.2|none=>(c,(0,-1))):=by
 unfold xN ent;have d:=WB (l:=P6 f) (V:=Unit) (R:=Unit×(En×Unit)) (lp:=λn j v=>wE N c f (λb=>(some ((),(b,())))) (λh g=>(some ((),((c,((0:Int),(-1:Int))),())))) n j) (n:=N) (by omega)
  (body:=λj x v k=>bif x.1==c then some ((),(x,()))else k v) (K:=λ_ v=>some ((),((c,((0:Int),(-1:Int))),())))
  (λn i v a=>by simp only[wE,WG a,Ws a,Ww a,Wk (show i<4611686018427387904 by omega),Wa])
  (λn v=>by simp only[wE,WP (Xm (P6 f).length),Wb]) ()
 refine d.trans ?_;rw[yM (p:=λe=>e.1==c) (E:=λj x=>some ((),(x,()))) (P6 f) 0 () (λj x v k _=>rfl)];cases fnd (λe:En=>e.1==c) (P6 f) 0<;>rfl
theorem gj{N:Nat}{l:List Int}(h:l.length<=1048576):Zo N l=ret l:=by
 unfold Zo;rw[Wn (by simp;omega)];rfl
theorem mX{N:Nat}{l:List Int}(h:l.length<=1048576):Zx N l=ret l:=by
 grind [Zx,Wn]
theorem yY{N:Nat}{l:List Rw}(h:l.length<=1048576):mE N l=ret l:=by
 grind [mE,Wn]
end
section
def Nz(f:Y_Family)(k:Nat)(x:Y_KidRun):Y_Family:=U9 (Xe (Q9 f) k x) f
def again(f:Y_Family)(x:Y_KidRun):Y_KidRun:=(0,(0,(f.2.1,(x.2.2.2.1+1,(0,(0,(P4 f,([],([],([],(false,(0,(0,(0,0))))))))))))))
def ff(x:Y_KidRun)(c:Int):Pb:=bif P10 x then Q11 x else(c,(0,(0,0)))
def qR(m:Mm)(f:Y_Family)(x:Y_KidRun)(o:Int×Int×Int×Int):Y_Family×Y_KidRun:=
 match c9 (P8 x) o.2.2.1 with
 |some v=>(f,S6 (Xe (P6 x) (Xa o.2.1) v) (S1 (x.2.1+1) x))
 |none=>match ent (P6 f) o.2.2.1 with
  |some r=>bif decide (r.2.2.2>x.2.2.1)then(f,again f x)else(f,S7 (P7 x++ [r.2]) (S6 (Xe (P6 x) (Xa o.2.1) r.2.2.1) (S1 (x.2.1+1) x)))
  |none=>
   bif (cS m f.1 (ff x o.2.2.1)).2.1==4 then(S3 true f,U11 (cS m f.1 (ff x o.2.2.1)) (S10 true x))else
   bif (cS m f.1 (ff x o.2.2.1)).2.1==3 then(f,U14 0 (S13 0 (S12 0 (S11 0 (S10 false (S7 (P7 x++ [(o.2.2.1,((cS m f.1 (ff x o.2.2.1)).2.2.2,-1))]) (S6 (Xe (P6 x) (Xa o.2.1) (cS m f.1 (ff x o.2.2.1)).2.2.2) (S1 (x.2.1+1) x))))))))else
   (f,U11 (cS m f.1 (ff x o.2.2.1)) (S10 true x))
structure ReadOk(m:Mm)(f:Y_Family)(x:Y_KidRun)(o:Int×Int×Int×Int):Prop where
 mem:W2 m=true
 μ:(P6 x).length=4
 famr:(P4 f).length=4
 rA:0<=o.2.1/\o.2.1<=3
 cB:bO o.2.2.1=true
 δ:(P7 x).length<=1000
 wr:(P8 x).length<=1000
 buf:(P6 f).length<=1000
 ver:∀e∈P6 f,0<=e.2.2
 Cs:0<=x.2.2.1
 pc:0<=x.2.1/\x.2.1<=1000
 χ:0<=x.2.2.2.1/\x.2.2.2.1<=100000
 pb:P10 x=true->dR (Q11 x)=true
theorem ReadOk.pbO{m:Mm}{f:Y_Family}{x:Y_KidRun}{o:Int×Int×Int×Int}(h:ReadOk m f x o):dR (ff x o.2.2.1)=true:=by
 unfold ff;cases hb:P10 x
 .have:=h.cB
  grind [dR,bH]
 .exact h.pb hb
theorem Uo{x:Y_KidRun}(h:P10 x=true):S10 true x=x:=by rw[←h];rfl
theorem au{a:Int}(h:0<=a/\a<=1000000):Wj .i64 a 1=a+1:=WD (by unfold I64;omega)
theorem rgI{r:List Int}{a:Int}(h:r.length=4)(b:0<=a/\a<=3):inb a r.length=true:=by grind [inb]
theorem Rg{N:Nat}{f:Y_Family}{x:Y_KidRun}(h:(P4 f).length=4)(a:0<=x.2.2.2.1/\x.2.2.2.1<=100000):YW N f x=some ((f,()),(again f x,())):=by
 unfold YW again;have e:Zo N f.2.2.2.2.1=ret (P4 f):=gj (by grind [P4])
 grind [au]
theorem QL{N:Nat}{f:Y_Family}{k:Nat}{x:Y_KidRun}(e:k<(Q9 f).length)(h:(P4 f).length=4)(g:0<=x.2.2.2.1/\x.2.2.2.1<=100000):
  sw N (U9 (Xe (Q9 f) k x) f) (k:Int)=some ((Nz f k (again f x),()),()):=by
 have a:Zx N (P4 (U9 (Xe (Q9 f) k x) f))=ret (P4 f):=mX (show(P4 f).length<=1048576 by omega);have b:Q9 (U9 (Xe (Q9 f) k x) f)=Xe (Q9 f) k x:=rfl;have d:k<(Xe (Q9 f) k x).length:=by simp_all
 unfold sw;rw[a,b];have c:Xc (Xe (Q9 f) k x) (Xa (k:Int)) d_KidRun=x:=by simp_all
 rw[c,Ws d,au (by omega),Xj];simp only[Wa,ret,Xd,mC];rfl
theorem Wn7{N:Nat}{m:Mm}{f:Y_Family}{k:Nat}{o:Int×Int×Int×Int}(d:k<(Q9 f).length)(h:ReadOk m f (Q9 f)[k] o)(a:1048576<N):
  HJ N f (k:Int) o m=some ((Nz (qR m f (Q9 f)[k] o).1 k (qR m f (Q9 f)[k] o).2,()),()):=by
 generalize p:(Q9 f)[k]=x at h;have u:=h.wr;have t:=h.δ;have s:=h.buf;have c:=h.μ;have i:Xc (Q9 f) (Xa (k:Int)) d_KidRun=x:=by rw[Ww d,p]
 unfold HJ qR;simp only[Wp];rw[Ws d,i,Xj,KU (show(P8 x).length<=1048576 by omega) a,au (by have:=h.pc;omega)];rcases c9 (P8 x) o.2.2.1 with _|v
 .simp only[opI,Xd,Wb,Wa];have j:wH N (U9 (Xe (Q9 f) k x) f) o.2.2.1=ret (match ent (P6 f) o.2.2.1 with|some r=>(r.1:Int)|none=>-1):=K6 (f:=U9 (Xe (Q9 f) k x) f) (show(P6 f).length<=1048576 by omega) a;rw[j,QL d h.famr h.χ];rcases he:ent (P6 f) o.2.2.1 with _|r
  .simp only[ret,Xd,show decide ((-1:Int)>=0)=false from rfl,Wb];have b:=h.pbO;cases hc:P10 x
   .have nT:ff x o.2.2.1=(o.2.2.1,(0,(0,0))):=by grind [ff]
    have n:xO N o.2.2.1=some ((),((o.2.2.1,(0,(0,0))),(true,()))):=by
     unfold xO;simp only[W0,ret,Xd,h.cB,Xn,Wb]
    rw[nT]at b⊢;simp only[Bool.not_false,Wa,n,FH h.mem b a,ret,Xd,rgI c h.rA];generalize cS m f.1 (o.2.2.1,(0,(0,0)))=q;rw[Wn (by simp;omega)];cases q.2.1==4<;>cases q.2.1==3<;>rfl
   .have nT:ff x o.2.2.1=Q11 x:=by grind [ff]
    rw[nT]at b⊢;simp only[Xn,Wb,FH h.mem b a,ret,Xd,rgI c h.rA,Wa];generalize cS m f.1 (Q11 x)=q;rw[Wn (by simp;omega),Uo hc];cases q.2.1==4<;>cases q.2.1==3<;>rfl
  .have hm:=kr he;have e:r.1<(P6 f).length:=by omega
   have l:(P6 f)[r.1]=r.2:=by
    simp_all
   have g:decide (((r.1:Nat):Int)>=0)=true:=by simp
   simp only[ret,Xd,g,Wa,Ws e,rgI c h.rA];rw[Ww e,l,Wn (by simp;omega)];cases decide (r.2.2.2>x.2.2.1)<;>rfl
 .simp only[opI,Xd,Wa,rgI c h.rA];rfl
end
section
def stk(l:List Opn):Nat->List Nat
 |0=>[]
 |j+1=>bif (l.getD j (0,0,0,0)).1==8 then stk l j++ [j]else bif (l.getD j (0,0,0,0)).1==9 then(stk l j).dropLast else stk l j
theorem pw{l:List Opn}{j:Nat}(h:j<l.length)(a:l[j].1=8):stk l (j+1)=stk l j++ [j]:=by
 grind [stk,WA]
theorem rq{l:List Opn}{j:Nat}(h:j<l.length)(a:l[j].1=9):stk l (j+1)=(stk l j).dropLast:=by
 grind [stk,WA]
theorem iQ{l:List Opn}{j:Nat}(h:j<l.length)(a:l[j].1≠8)(b:l[j].1≠9):stk l (j+1)=stk l j:=by
 grind [stk,WA]
theorem GQ{o:Opn}(h:o.1=8):opd o=1:=by unfold opd;simp[h]
theorem pt{o:Opn}(h:o.1=9):opd o= -1:=by unfold opd;simp[h]
theorem G6{o:Opn}(a:o.1≠8)(b:o.1≠9):opd o=0:=by
 grind [opd]
theorem yt{α:Type}(l:List α):l= []\/∃q x,l=q++ [x]:=by
 rcases List.eq_nil_or_concat l with h|⟨q,x,h⟩
 .grind
 simp_all
def Up(l:List Opn):Prop:=∀i,i<l.length->0<=dep l (i+1)
theorem Up.at{l:List Opn}(h:Up l){j:Nat}(a:j<=l.length):0<=dep l j:=by
 cases j with
 |zero=>rw[qD];omega
 |succ j=>exact h j a
theorem eD{l:List Opn}(h:Up l):∀j,j<=l.length->((stk l j).length:Int)=dep l j
 |0,_=>by rw[qD];rfl
 |j+1,hj=>by
  have a:j<l.length:=hj;have d:=eD h j (by omega);have b:=fa a;have c:=h j a
  grind [pw,GQ,Xz,rq,pt,AC,iQ,G6]
theorem L0{l:List Opn}:∀(j:Nat),j<=l.length->∀(s t:List Nat) (m:Nat),stk l j=s++m::t->
  m<j/\(∃h:m<l.length,l[m].1=8)/\stk l m=s/\∀i,m<i->i<=j->∃t',stk l i=s++m::t'
 |0,_,s,t,m,h=>by simp[stk]at h
 |j+1,g,s,t,m,h=>by
  have b:j<l.length:=g;have n:=L0 (l:=l) j (by omega);have next:∀a,stk l j=s++m::a->m<j+1/\(∃h:m<l.length,l[m].1=8)/\stk l m=s/\∀i,m<i->i<=j+1->∃t',stk l i=s++m::t':=λa e=>by
   grind
  by_cases f:l[j].1=8
  .rw[pw b f]at h;rcases yt t with rfl|⟨a,x,rfl⟩
   .obtain⟨c,d⟩:=NQ (h:stk l j++ [j]=s++ [m]) rfl
    grind [pw]
   .have h2:stk l j++ [j]=(s++m::a)++ [x]:=by rw[h,fq,dO]
    obtain⟨c,d⟩:=NQ h2 rfl
    grind [stk,pw]
  .by_cases h9:l[j].1=9
   .rw[rq b h9]at h;rcases yt (stk l j)with e|⟨q,x,k⟩
    .simp_all
    simp_all
   grind [iQ]
theorem Ug{l:List Opn}{a b:Nat}(u:a<=b)(q:b<=l.length)(k:bal ((l.take b).drop a)=true):stk l b=stk l a:=by
 obtain⟨h,o⟩:=MS.1 k;have m:((l.take b).drop a).length=b-a:=by simp;omega
 have c:∀i,i<=b-a->∃t,stk l (a+i)=stk l a++t/\(t.length:Int)=dep ((l.take b).drop a) i:=by
  intro i
  induction i with
  |zero=>simp[qD]
  |succ i ih=>
   intro r;obtain⟨t,e,f⟩:=ih (by omega);have n:a+i<l.length:=by omega
   have d:i<((l.take b).drop a).length:=by omega
   have j:=fa d;have g:((l.take b).drop a)[i]=l[a+i]:=by simp
   rw[g]at j;have s:=h i d;by_cases p:l[a+i].1=8
   .grind [dB,pw,GQ,Xz]
   .by_cases h9:l[a+i].1=9
    .grind [pt,dB,rq,List.dropLast_append_of_ne_nil,AC]
    grind [dB,iQ,G6]
 obtain⟨t,e,f⟩:=c (b-a) (Xm _);simp_all
structure Mate(l:List Opn)(m k:Nat):Prop where
 lt:m<k
 len:k<l.length
 eq:dep l (k+1)=dep l m
 ne:∀i,m<=i->i<k->dep l (i+1)≠dep l m
 st:stk l (k+1)=stk l m
theorem Wxi{l:List Opn}(f:Up l)(M:dep l l.length=0){j m:Nat}{s:List Nat}(r:j<=l.length)(B:stk l j=s++ [m]):∃k,j<=k/\Mate l m k/\stk l m=s:=by
 obtain⟨a,⟨S,Q⟩,c,d⟩:=L0 j r s [] m B;have G:=eD f m (by omega);have g:∀i,m<=i->i<j->dep l (i+1)≠dep l m:=λi p q=>by
  grind [eD]
 have K:=f.at (show m<=l.length by omega);have z:∀n i,l.length-i=n->j<=i->i<=l.length->(∀b,m<=b->b<i->dep l (b+1)≠dep l m)->dep l m<dep l i->∃k,j<=k/\k<l.length/\dep l (k+1)=dep l m/\∀b,m<=b->b<k->dep l (b+1)≠dep l m:=by
  intro n
  induction n with
  |zero=>grind
  |succ n ih=>
   intro i p q N O P;have o:i<l.length:=by omega
   by_cases R:dep l (i+1)=dep l m
   .grind
   .have hd:=fa o;have T:=uy l[i]
    grind
 have F:dep l m<dep l j:=by
  grind [eD]
 obtain⟨k,C,v,D,E⟩:=z _ j rfl (Xm _) r g F;have H:m<k:=by omega
 have h:∀n i,i=m+1+n->i<=k->∃t,stk l i=s++m::t:=by
  intro n
  induction n with
  |zero=>grind
  |succ n ih=>
   intro i p q;obtain⟨t,u⟩:=ih (m+1+n) rfl (by omega);have e:i=(m+1+n)+1:=by omega
   have o:m+1+n<l.length:=by omega
   by_cases L:l[m+1+n].1=8
   .grind [pw]
   .by_cases A:l[m+1+n].1=9
    .rcases yt t with rfl|⟨U,x,rfl⟩
     .grind [rq,stk,eD]
     grind [rq,Ym]
    grind [iQ]
 obtain⟨t,u⟩:=h (k-m-1) k (by omega) (Xm _);have w:=eD f k (by omega);have I:=fa v;rw[u]at w;rw[c]at G;simp at w;have J:=uy l[k];have A:l[k].1=9:=by
  grind [GQ,G6]
 have y:t= []:=List.eq_nil_of_length_eq_zero (by omega);subst y;refine⟨k,C,⟨H,v,D,E,?_⟩,c⟩
 grind [rq]
theorem L8{l:List Opn}{m i:Nat}:((dep l (i+1) -dep l m)==(0:Int))=decide (dep l (i+1)=dep l m):=by
 grind
theorem RS{N:Nat}{l:List Opn}{m k:Nat}(C:l.length<=1048576)(A:1048576<N)(d:∃h:m<l.length,l[m].1=8)(b:Mate l m k):yh N l (m:Int)=ret (k:Int):=by
 obtain⟨j,d⟩:=d;unfold yh;have q:Wv .i64 (Wh l) 1=(l.length:Int) -1:=WM (by unfold I64 Wh;omega);have r:(decide (0<=(m:Int))&&decide ((m:Int)<=(l.length:Int) -1))=true:=by simp;omega
 have s:(l[m].1 !=8)=false:=by simp[d]
 simp only[WK,ret,Xd,q,r,Xn,Wb,Ws j,Wa,Ww j,s];have f:∀(c n i:Nat),k-i=c->m<=i->i<=k->l.length-i<n->∀{R:Type} (K0:Int->Option R) (K1:Int->Int->Bool->Option R),xg N l K0 K1 n (dep l i-dep l m) (i:Int)=K0 k:=by
  intro c
  induction c with
  |zero=>
   intro n i t g u v R K0 K1;have:i=k:=by omega
   subst this;cases n with
   |zero=>omega
   |succ n=>
    have a:=b.len;have x:=fa a;have w:=fE l i;have z:=fE l m;have y:=uy l[i];have e:Wj .i64 (dep l i-dep l m) (opd l[i])=dep l (i+1) -dep l m:=by grind [WD,I64]
    simp only[xg,WG a,Ws a,Ww a,Wa,FV,ret,Xd,e];rw[L8];simp[b.eq]
  |succ c ih=>
   intro n i t g u v R K0 K1;cases n with
   |zero=>omega
   |succ n=>
    have B:=b.len;have a:i<l.length:=by omega
    have x:=fa a;have w:=fE l i;have z:=fE l m;have y:=uy l[i];have e:Wj .i64 (dep l i-dep l m) (opd l[i])=dep l (i+1) -dep l m:=by grind [WD,I64]
    have p:=b.ne i g (by omega);simp only[xg,WG a,Ws a,Ww a,Wa,FV,ret,Xd,e,L8,p,decide_false,Wb,Wk (show i<4611686018427387904 by omega)];exact ih n (i+1) (by omega) (by omega) (by omega) (by omega) K0 K1
 have:=f (k-m) N m rfl (Xm _) (by have:=b.lt;omega) (by omega) (R:=Unit×Kj) (λo=>some ((),(o,()))) (λE F D=>some ((),((-1:Int),())));simp_all
theorem R5{N:Nat}{l:List Opn}{m k:Nat}(G:l.length<=1048576)(C:1048576<N)(o:∃h:m<l.length,l[m].1=8)(d:Mate l m k):ym N l (m:Int)=ret (k:Int):=by
 obtain⟨r,o⟩:=o;unfold ym;have u:decide ((m:Int)<0)=false:=by simp
 have v:decide ((m:Int)>=Wh l)=false:=by simp[Wh];omega
 have w:(l[m].1 !=8)=false:=by simp[o]
 simp only[u,v,Wb,Ws r,Wa,Ww r,w];have a:∀(n i:Nat) (b:i<l.length) {R:Type} (K0:Int->Option R) (K1:Int->Int->Bool->Option R),m<=i->mL N l K0 K1 (n+1) (dep l i-dep l m) (i:Int)=
   bif decide (dep l (i+1)=dep l m)then K0 i else mL N l K0 K1 n (dep l (i+1) -dep l m) ((i+1:Nat):Int):=by
  intro n i b R K0 K1 K;have E:=fa b;have D:=fE l i;have H:=fE l m;have A:Wj .i64 (dep l i-dep l m) 1=dep l i-dep l m+1:=WD (by unfold I64;omega);have B:Wv .i64 (dep l i-dep l m) 1=dep l i-dep l m-1:=WM (by unfold I64;omega);simp only[mL,WG b,Ws b,Ww b,Wa,Wk (show i<4611686018427387904 by omega),A,B];by_cases j:l[i].1=8
  .have b8:(l[i].1==8)=true:=by simp[j]
   have g:(l[i].1==9)=false:=by simp[j]
   have e:dep l i-dep l m+1=dep l (i+1) -dep l m:=by grind [GQ]
   grind
  .have b8:(l[i].1==8)=false:=by simp[j]
   by_cases q:l[i].1=9
   .have g:(l[i].1==9)=true:=by simp[q]
    have e:dep l i-dep l m-1=dep l (i+1) -dep l m:=by grind [pt]
    grind
   .have g:(l[i].1==9)=false:=by simp[q]
    have e:dep l i-dep l m=dep l (i+1) -dep l m:=by grind [G6]
    simp only[b8,g,Wa,Wb];rw[e,L8]
 have p:∀(c n i:Nat),k-i=c->m<=i->i<=k->l.length-i<n->∀{R:Type} (K0:Int->Option R) (K1:Int->Int->Bool->Option R),mL N l K0 K1 n (dep l i-dep l m) (i:Int)=K0 k:=by
  intro c
  induction c with
  |zero=>
   intro n i x f y z R K0 K1;have:i=k:=by omega
   subst this;cases n with
   |zero=>omega
   |succ n=>rw[a n i d.len K0 K1 f];simp[d.eq]
  |succ c ih=>
   intro n i x f y z R K0 K1;cases n with
   |zero=>omega
   |succ n=>
    have F:=d.len;have t:=d.ne i f (by omega);rw[a n i (by omega) K0 K1 f];simp only[t,decide_false,Wb];exact ih n (i+1) (by omega) (by omega) (by omega) (by omega) K0 K1
 have:=p (k-m) N m rfl (Xm _) (by have:=d.lt;omega) (by omega) (R:=Unit×Kj) (λs=>some ((),(s,()))) (λJ L I=>some ((),((-1:Int),())));simp_all
end
section
theorem UF{N:Nat}{o:Opn}:∃t:Int,lL N o=ret t/\A9 N o=ret t:=by
 unfold lL A9;rw[tT,C2];simp only[ret,Xd];cases bj o
 .simp_all
 .cases o.1==5<;>cases o.1==6<;>cases o.1==12<;>cases o.1==13<;>cases o.1==14<;>cases o.1==15<;>cases o.1==16<;>exact⟨_,rfl,rfl⟩
noncomputable def nz(o:Opn):Int:=match lL 0 o with|some (_,(t,_))=>t|none=>0
theorem WxB{N:Nat}{o:Opn}:lL N o=lL 0 o:=by
 unfold lL;rw[tT,tT]
theorem CI{N:Nat}{o:Opn}:lL N o=ret (nz o):=by
 rw[WxB];obtain⟨t,h,_⟩:=UF (N:=0) (o:=o);unfold nz;rw[h]
theorem Re{N:Nat}{o:Opn}:A9 N o=ret (nz o):=by
 obtain⟨t,h,a⟩:=UF (N:=N) (o:=o);rw[a,←h,CI]
noncomputable def pm(o:Opn):Bool:=(o.1==11)||(nz o==2)
noncomputable def jO(l:List Opn):Bool:=jX l&& !l.any pm
theorem Ry{N:Nat}{l:List Opn}(d:l.length<=1048576)(c:1048576<N):xV N l=ret (l.any λo=>o.1==11):=by
 unfold xV;have b:=WB (l:=l) (V:=Unit) (R:=Unit×Kf) (lp:=λn j v=>wJ N l (some ((),(true,()))) (λe f=>some ((),(false,()))) n j) (n:=N) (by omega)
  (body:=λj x v k=>bif x.1==11 then some ((),(true,()))else k v) (K:=λ_ v=>some ((),(false,())))
  (λn i v a=>by simp only[wJ,WG a,Ws a,Ww a,Wk (show i<4611686018427387904 by omega),Wa])
  (λn v=>by simp[wJ,WP,Xm,Wb]) ()
 refine b.trans ?_;rw[fb (p:=λx:Opn=>x.1==11) (E:=λ_=>some ((),(true,()))) l 0 () (λj x v k _=>rfl)];cases l.any λo:Opn=>o.1==11<;>rfl
theorem Wpb{N:Nat}{l:List Opn}(d:l.length<=1048576)(c:1048576<N):yl N l=ret (jO l):=by
 unfold yl jO;simp only[Rn d c,ret,Xd];cases jX l with
 |false=>rfl
 |true=>
  simp only[Ry d c,ret,Xd,Xn,Wb,d3];have b:=WB (l:=l) (V:=Unit) (R:=Unit×Kf) (lp:=λn j v=>xb N l (some ((),(false,()))) (λf g=>some ((),(true,()))) n j) (n:=N) (by omega)
   (body:=λj x v k=>bif nz x==2 then some ((),(false,()))else k v) (K:=λ_ v=>some ((),(true,())))
   (λn i v a=>by simp only[xb,WG a,Ws a,Ww a,Wk (show i<4611686018427387904 by omega),Wa,CI,ret,Xd])
   (λn v=>by simp[xb,WP,Xm,Wb]) ()
  (try simp only[]at b)
  rw[b,fb (p:=λx=>nz x==2) (E:=λ_=>some ((),(false,()))) l 0 () (λj x v k _=>rfl)];have e:l.any pm=((l.any λo=>o.1==11)||l.any λo=>nz o==2):=by
   grind [pm,nz]
  rw[e];cases l.any λo:Opn=>o.1==11<;>cases l.any λo=>nz o==2<;>rfl
theorem WoR{N:Nat}{l:List Opn}(g:l.length<=1048576)(f:1048576<N):yg N l=ret (jO l):=by
 unfold yg jO;have c:=WB (l:=l) (V:=Unit) (R:=Unit×Kf) (lp:=λn j v=>xd N l (some ((),(false,()))) (λe d=>((oD N l).bind λb=>(some ((),(b.2.1,()))))) n j) (n:=N) (by omega)
  (body:=λj x v k=>bif pm x then some ((),(false,()))else k v) (K:=λ_ v=>ret (jX l))
  (λn i v a=>by
   simp only[xd,WG a,Ws a,Ww a,Wk (show i<4611686018427387904 by omega),Wa,Re,ret,Xd,pm];cases l[i].1==11<;>rfl)
  (λn v=>by simp_all [xd,WP,Xm,Wb,Ru,ret,Xd]) ()
 refine c.trans ?_;rw[fb (p:=pm) (E:=λ_=>some ((),(false,()))) l 0 () (λj x v k _=>rfl)];cases l.any pm<;>cases jX l<;>rfl
def gl(l:List Int):Bool:=decide (l.length=4)&&l.all bH
theorem Fq{N:Nat}{l:List Int}(d:l.length<=1048576)(c:1048576<N):mO N l=ret (gl l):=by
 unfold mO gl;by_cases h:l.length=4
 .have e:(Wh l !=4)=false:=by simp[Wh,h]
  rw[e];simp only[Wb];have b:=WB (l:=l) (V:=Unit) (R:=Unit×Kf) (lp:=λn j v=>wX N l (some ((),(false,()))) (λf g=>some ((),(true,()))) n j) (n:=N) (by omega)
   (body:=λj x v k=>bif !bH x then some ((),(false,()))else k v) (K:=λ_ v=>some ((),(true,())))
   (λn i v a=>by simp only[wX,WG a,Ws a,Ww a,Wk (show i<4611686018427387904 by omega),Wa,W8,ret,Xd])
   (λn v=>by simp[wX,WP,Xm,Wb]) ()
  refine b.trans ?_;rw[fb (p:=λx=>!bH x) (E:=λ_=>some ((),(false,()))) l 0 () (λj x v k _=>rfl),ge];cases l.all bH<;>simp[h]
 grind [Wh]
theorem Fl{N:Nat}{l:List Int}(d:l.length<=1048576)(c:1048576<N):hY N l 4=ret (gl l):=by
 unfold hY gl;have b:=WB (l:=l) (V:=Unit) (R:=Unit×Kf) (lp:=λn j v=>n7 N l 4 (some ((),(false,()))) (λf g=>some ((),((Wh l)==(4:Int),()))) n j) (n:=N) (by omega)
  (body:=λj x v k=>bif !bH x then some ((),(false,()))else k v) (K:=λ_ v=>some ((),((Wh l)==(4:Int),())))
  (λn i v a=>by simp only[n7,WG a,Ws a,Ww a,Wk (show i<4611686018427387904 by omega),Wa,jy,ret,Xd])
  (λn v=>by simp[n7,WP,Xm,Wb]) ()
 refine b.trans ?_;rw[fb (p:=λx=>!bH x) (E:=λ_=>some ((),(false,()))) l 0 () (λj x v k _=>rfl),ge];have e:((Wh l)==(4:Int))=decide (l.length=4):=by
  grind [Wh]
 rw[e];cases l.all bH<;>simp
end
section
section
variable{o:Opn}
theorem MA(h:bj o=true)(d:1<=o.1)(e:o.1<=4):am o.2.1=true/\(o.1=1->bH o.2.2.1=true)/\(o.1≠1->am o.2.2.1=true/\am o.2.2.2=true):=by
 obtain⟨k,a,b,c⟩:=o;simp only at d e;have:k=1\/k=2\/k=3\/k=4:=by omega
 rcases this with rfl|rfl|rfl|rfl
 .have:(am a&&bH b&&(c==(0:Int)))=true:=h;simp_all
 all_goals
  have:(am a&&am b&&am c)=true:=h;simp_all
theorem As(h:bj o=true)(d:o.1=5):am o.2.1=true/\bO o.2.2.1=true:=by
 obtain⟨k,a,b,c⟩:=o;simp only at d;subst d;have:(am a&&bO b&&(c==(0:Int)))=true:=h;simp_all
theorem Aj(h:bj o=true)(d:o.1=6):bO o.2.1=true/\am o.2.2.1=true:=by
 obtain⟨k,a,b,c⟩:=o;simp only at d;subst d;have:(bO a&&am b&&(c==(0:Int)))=true:=h;simp_all
theorem Al(h:bj o=true)(d:o.1=7):am o.2.1=true/\1<=o.2.2.1/\o.2.2.1<=20:=by
 obtain⟨k,a,b,c⟩:=o;simp only at d;subst d;have:(am a&&(decide (1<=b)&&decide (b<=20))&&(c==(0:Int)))=true:=h;simp_all
theorem rK(h:bj o=true)(d:o.1=8):am o.2.1=true:=by
 obtain⟨k,a,b,c⟩:=o;simp only at d;subst d;have:(am a&&(b==(0:Int))&&(c==(0:Int)))=true:=h;simp_all
theorem nE(h:bj o=true):1<=o.1/\o.1<=16:=by
 by_cases a:1<=o.1/\o.1<=16
 .exact a
 .exfalso;have e:∀n:Int,1<=n->n<=16->(o.1==n)=false:=λn b c=>by simp;omega
  simp_all [bj]
end
theorem WV{x:Int}{l:List Int}(h:am x=true)(a:l.length=4):inb x l.length=true:=by
 grind [am,inb]
structure Vals(n:Nat)(l:List Int):Prop where
 len:l.length=n
 val:∀x∈l,0<=x/\x<=65535
theorem Vals.get{n:Nat}{l:List Int}(h:Vals n l)(i:Nat):0<=l.getD i 0/\l.getD i 0<=65535:=by
 by_cases a:i<l.length
 .rw[WA a];exact h.val _ (Xy a)
 simp_all
theorem Vals.set{n:Nat}{l:List Int}(h:Vals n l)(i:Nat){x:Int}(b:0<=x/\x<=65535):Vals n (l.set i x):=
 ⟨by rw[cZ];exact h.len,λy a=>by
  rcases List.mem_or_eq_of_mem_set a with a|a
  .exact h.val y a
  omega⟩
theorem fR{x:Int}:bH x=true↔0<=x/\x<=65535:=by unfold bH;simp
theorem m0{l:List Int}:gl l=true↔Vals 4 l:=by
 unfold gl;rw[Xh,Wg,bA];exact⟨λh=>⟨h.1,λx a=>fR.1 (h.2 x a)⟩,λh=>⟨h.len,λx a=>fR.2 (h.val x a)⟩⟩
theorem Mn{l:List Int}:iL l=true↔Vals 8 l:=by
 unfold iL;rw[Xh,Wg,bA];exact⟨λh=>⟨h.1,λx a=>fR.1 (h.2 x a)⟩,λh=>⟨h.len,λx a=>fR.2 (h.val x a)⟩⟩
def rn(o:Opn)(r:List Int):List Int:=
 bif o.1==1 then r.set o.2.1.toNat o.2.2.1 else
 bif o.1==2 then r.set o.2.1.toNat ((r.getD o.2.2.1.toNat 0+r.getD o.2.2.2.toNat 0)%65536)else
 bif o.1==3 then r.set o.2.1.toNat ((r.getD o.2.2.1.toNat 0-r.getD o.2.2.2.toNat 0+65536)%65536)else
 bif decide (r.getD o.2.2.1.toNat 0<r.getD o.2.2.2.toNat 0)then r.set o.2.1.toNat 1 else r.set o.2.1.toNat 0
theorem gQ{x:Int}(h:0<=x):aP x 65536=x%65536:=by grind [aP,Int.tmod_eq_emod_of_nonneg]
theorem Mk{o:Opn}{r:List Int}(h:bj o=true)(b:1<=o.1)(c:o.1<=4)(a:Vals 4 r):Vals 4 (rn o r):=by
 obtain⟨_,d,_⟩:=MA h b c;unfold rn;cases e1:o.1==1
 .cases o.1==2
  .cases o.1==3
   .cases decide (r.getD o.2.2.1.toNat 0<r.getD o.2.2.2.toNat 0)
    .exact a.set _ (by omega)
    .exact a.set _ (by omega)
   .exact a.set _ (by omega)
  .exact a.set _ (by omega)
 .exact a.set _ (fR.1 (d (by simp_all)))
section
variable{N:Nat}{o:Opn}{r:List Int}
theorem Rx(m:1048576<N)(h:bj o=true)(j:1<=o.1)(k:o.1<=4)(a:Vals 4 r):E6 N o r=some ((),(rn o r,(true,()))):=by
 obtain⟨n,y,v⟩:=MA h j k;unfold E6 Zx;have e:Wx r.length=true:=Wn (by rw[a.len];omega);have f:decide (o.1>4)=false:=by simp;omega
 have g:gl r=true:=m0.2 a;have c:=WV n a.len;have i:inz 65536=true:=rfl;have w:=a.get o.2.2.1.toNat;have x:=a.get o.2.2.2.toNat;simp only[e,Wa,Xd,C2,ret,h,Xn,Wb,f,Fl (l:=r) (by rw[a.len];omega) m,g,c,i];unfold rn;by_cases d:o.1=1
 .simp_all
 .have b:(o.1==1)=false:=by simp[d]
  obtain⟨p,q⟩:=v d;rw[b];simp only[Wb,WV p a.len,WV q a.len,Wa,cZ,c];have s:Wj .i64 (r.getD o.2.2.1.toNat 0) (r.getD o.2.2.2.toNat 0)=r.getD o.2.2.1.toNat 0+r.getD o.2.2.2.toNat 0:=WD (by unfold I64;omega);have t:Wv .i64 (r.getD o.2.2.1.toNat 0) (r.getD o.2.2.2.toNat 0)=r.getD o.2.2.1.toNat 0-r.getD o.2.2.2.toNat 0:=WM (by unfold I64;omega);have u:Wj .i64 (r.getD o.2.2.1.toNat 0-r.getD o.2.2.2.toNat 0) 65536=r.getD o.2.2.1.toNat 0-r.getD o.2.2.2.toNat 0+65536:=WD (by unfold I64;omega);rw[s,t,u,gQ (by omega),gQ (by omega)];cases o.1==2
  .cases o.1==3
   .simp only[Wb,Wp,mC];cases decide (r.getD o.2.2.1.toNat 0<r.getD o.2.2.2.toNat 0)<;>rfl
   .rfl
  .rfl
theorem Ro(n:1048576<N)(h:bj o=true)(k:1<=o.1)(m:o.1<=4)(a:Vals 4 r):E5 N o r=some ((),(rn o r,(true,()))):=by
 obtain⟨p,z,w⟩:=MA h k m;unfold E5;have e:Wx (([]:List Int).length+r.length)=true:=Wn (by rw[a.len];simp);have f:decide (o.1>4)=false:=by simp;omega
 have g:gl r=true:=m0.2 a;have c:=WV p a.len;have j:inz 65536=true:=rfl;have i:Xf ([]:List Int) r=r:=rfl;have x:=a.get o.2.2.1.toNat;have y:=a.get o.2.2.2.toNat;simp only[e,Wa,Xd,tT,ret,h,Xn,Wb,f,Fq (l:=r) (by rw[a.len];omega) n,g,c,j,i];unfold rn;by_cases d:o.1=1
 .simp_all
 .have b:(o.1==1)=false:=by simp[d]
  obtain⟨q,s⟩:=w d;rw[b];simp only[Wb,WV q a.len,WV s a.len,Wa,cZ,c];have t:Wj .i64 (r.getD o.2.2.1.toNat 0) (r.getD o.2.2.2.toNat 0)=r.getD o.2.2.1.toNat 0+r.getD o.2.2.2.toNat 0:=WD (by unfold I64;omega);have u:Wv .i64 (r.getD o.2.2.1.toNat 0) (r.getD o.2.2.2.toNat 0)=r.getD o.2.2.1.toNat 0-r.getD o.2.2.2.toNat 0:=WM (by unfold I64;omega);have v:Wj .i64 (r.getD o.2.2.1.toNat 0-r.getD o.2.2.2.toNat 0) 65536=r.getD o.2.2.1.toNat 0-r.getD o.2.2.2.toNat 0+65536:=WD (by unfold I64;omega);rw[t,u,v,gQ (by omega),gQ (by omega)];cases o.1==2
  .cases o.1==3
   .simp only[Wb,Wp,mC];cases decide (r.getD o.2.2.1.toNat 0<r.getD o.2.2.2.toNat 0)<;>rfl
   .rfl
  .rfl
end
def hG(l:List Rw):Prop:=∀r∈l,(0<=r.1/\r.1<=7)/\0<=r.2/\r.2<=65535
theorem F9{l:List Rw}:l.all mo=true↔hG l:=by
 simp[bA,hG,mo,bO,bH]
theorem Gr{N:Nat}{l:List Int}(h:l.length<=1048576):x6 N l=ret l:=by
 simp_all [x6,j0,bX,Ui,Wa]
theorem CV{N:Nat}{l:List Int}(h:l.length<=1048576):Zx N l=ret l:=by
 simp_all [Zx,Ui,Wa]
end
section
structure Lin{α:Type}(cf:α->α->Int):Prop where
 irr:∀x,¬cf x x<0
 tr:∀x y z,cf x y<0->cf y z<0->cf x z<0
 nt:∀x y z,¬cf x y<0->¬cf y z<0->¬cf x z<0
theorem rG:Lin cfE:=⟨λx=>by unfold cfE;omega,λx y z=>by unfold cfE;omega,λx y z=>by unfold cfE;omega⟩
theorem jb:Lin cfH:=⟨λx=>by rw[gg];omega,λx y z=>by simp only[gg];omega,λx y z=>by simp only[gg];omega⟩
def Ris{α:Type}(cf:α->α->Int)(l:List α):Prop:=l.Pairwise λa b=>cf a b<0
def cd{α:Type}(cf:α->α->Int):List α->α->List α
 | [],e=>[e]
 |x::l,e=>if cf x e<0 then x::cd cf l e else if cf e x<0 then e::x::l else e::l
def Ap{α:Type}(cf:α->α->Int)(x y:α):Prop:=cf x y<0\/cf y x<0
variable{α:Type}{cf:α->α->Int}
theorem Lin.ap(h:Lin cf){x y:α}(b:¬Ap cf x y){z:α}:(cf x z<0↔cf y z<0)/\(cf z x<0↔cf z y<0):=by
 unfold Ap at b;refine⟨⟨λa=>?_,λa=>?_⟩,⟨λa=>?_,λa=>?_⟩⟩
 .exact Classical.byContradiction λc=>h.nt x y z (λq=>b (.inl q)) c a
 .exact Classical.byContradiction λc=>h.nt y x z (λq=>b (.inr q)) c a
 .exact Classical.byContradiction λc=>h.nt z y x c (λq=>b (.inr q)) a
 .exact Classical.byContradiction λc=>h.nt z x y c (λq=>b (.inl q)) a
theorem Te:∀(l:List α) (e:α),(cd cf l e).length<=l.length+1
 | [],e=>by simp[cd]
 |x::l,e=>by
  have:=Te l e;unfold cd
  grind
theorem oX(c:Lin cf){e x:α}:∀{l:List α},Ris cf l->(x∈cd cf l e↔x=e\/(x∈l/\Ap cf x e))
 | [],_=>by simp[cd]
 |y::l,h=>by
  have d:=(Xu.1 h);unfold cd;by_cases b:cf y e<0
  .rw[Wf b,Xr,oX c d.2,Xr];refine⟨?_,?_⟩
   .rintro(rfl|h|h)
    .exact .inr ⟨.inl rfl,.inl b⟩
    .grind
    simp_all
   grind
  .rw[We b];by_cases a:cf e y<0
   .rw[Wf a];simp only[Xr];refine⟨?_,?_⟩
    .rintro(h|rfl|h)
     .grind
     .exact .inr ⟨.inl rfl,.inr a⟩
     .exact .inr ⟨.inr h,.inr (c.tr _ _ _ a (d.1 x h))⟩
    grind
   .rw[We a];simp only[Xr];have f:¬Ap cf y e:=by unfold Ap;omega
    refine⟨?_,?_⟩
    .rintro(h|h)
     .grind
     .exact .inr ⟨.inr h,.inr ((c.ap f).1.1 (d.1 x h))⟩
    grind
theorem oU(d:Lin cf){e:α}:∀{l:List α},Ris cf l->Ris cf (cd cf l e)
 | [],_=>by simp[cd,Ris]
 |y::l,h=>by
  have b:=(Xu.1 h);unfold cd;by_cases f:cf y e<0
  .rw[Wf f];refine Xu.2 ⟨λx a=>?_,oU d b.2⟩;rcases(oX d b.2).1 a with rfl|a
   .exact f
   simp_all
  .rw[We f];by_cases c:cf e y<0
   .rw[Wf c];refine Xu.2 ⟨λx a=>?_,h⟩;rcases Xr.1 a with rfl|a
    .exact c
    .exact d.tr _ _ _ c (b.1 x a)
   .rw[We c];have g:¬Ap cf y e:=by unfold Ap;omega
    exact Xu.2 ⟨λx a=>(d.ap g).1.1 (b.1 x a),b.2⟩
theorem DA(e:Lin cf){L M:List α}(g:Ris cf M)(s:L.Pairwise (Ap cf))(p:∀x,x∈L↔x∈M):ky cf L=M:=by
 have q:∀{l:List α},l.Pairwise (Ap cf)->l.Nodup:=λh=>h.imp λ{a b} iF=>by
  rintro rfl;unfold Ap at iF;have:=e.irr a;omega
 have m:M.Pairwise (Ap cf):=g.imp λh=>.inl h;have t:L.Perm M:=(List.perm_ext_iff_of_nodup (q s) (q m)).2 p;unfold ky;have d:=List.pairwise_mergeSort (le:=λx y=>!mg cf y x) (λa b c=>by
  simp only[mg,de,Wm]
  exactλd f=>e.nt _ _ _ f d) (λa b=>by
  simp only[mg,pM,de,Wm];rcases Classical.em (cf b a<0)with h|h
  .exact .inr λk=>e.irr _ (e.tr _ _ _ h k)
  omega) L
 refine List.Perm.eq_of_pairwise ?_ d (g.imp λ{a b} h=>?_) ((YM _ _).trans t)
 .intro a b ha hb d f;simp only[mg,de,Wm]at d f;have r:a∈M:=(p a).1 ((YM _ _).mem_iff.1 ha);obtain⟨i,n,rfl⟩:=ln r;obtain⟨j,o,rfl⟩:=ln hb;rcases Nat.lt_trichotomy i j with h|h|h
  .exact Wz (gu.1 g i j n o h) f
  .grind
  .exact Wz (gu.1 g j i o n h) d
 .simp only[mg,de,Wm]
  exactλk=>e.irr _ (e.tr _ _ _ h k)
theorem Ur{r:α->α->Bool}{R:α->α->Prop}(c:∀a b,R a b->r a b=true):∀{l:List α},l.Pairwise R->pA r l=true
 | [],_=>rfl
 |x::l,h=>by
  have:=Xu.1 h;simp only[pA,Xh,bA];exact⟨λy d=>c _ _ (this.1 y d),Ur c this.2⟩
theorem Uy(c:Lin cf){rng:α->Bool}{N:Nat}{L M:List α}(b:Ris cf M)(a:L.Pairwise (Ap cf))(e:∀x,x∈L↔x∈M)(f:∀x∈L,rng x=true)(d:L.length<=1048576):
  yp rng cf N L=some ((M,()),()):=by
 grind [yp,bA,Ur,Ap,mp,mg,decide_eq_true,DA]
theorem Td(d:Lin cf){L:List α}{e:α}{i:Nat}(g:L.Pairwise (Ap cf))(hi:i<L.length)(f:¬Ap cf L[i] e):(L.set i e).Pairwise (Ap cf)/\∀x,x∈L.set i e↔x=e\/(x∈L/\Ap cf x e):=by
 have o:∀{z},Ap cf L[i] z↔Ap cf e z:=λ{z}=>by unfold Ap;rw[(d.ap f).1,(d.ap f).2]
 have l:∀{a b:α},Ap cf a b->Ap cf b a:=λh=>h.symm;have m:=gu.1 g;refine⟨?_,λx=>⟨λc=>?_,?_⟩⟩
 .rw[gu]
  grind
 .obtain⟨j,k,rfl⟩:=ln c
  grind
 .rintro(rfl|⟨c,n⟩)
  .grind [Ea]
  .obtain⟨j,k,rfl⟩:=ln c;refine Ea.2 ⟨j,by simp_all,?_⟩;rw[List.getElem_set,We]
   grind
theorem SM{L:List α}{e:α}(a:L.Pairwise (Ap cf))(b:∀x∈L,Ap cf x e):(L++ [e]).Pairwise (Ap cf)/\∀x,x∈L++ [e]↔x=e\/(x∈L/\Ap cf x e):=by
 grind
end
section
abbrev KM:=Int×Int×List Int
structure Kd where
 ζ:Int:=0
 pc:Int:=0
 Cs:Int:=0
 χ:Int:=0
 pos:Int:=0
 out:Int:=0
 μ:List Int:=[]
 δ:List En:=[]
 ι:List Rw:=[]
 θ:List KM:=[]
 Co:Bool:=false
 pb:Pb:=(0,0,0,0)
def Kd.e(x:Kd):Y_KidRun:=(x.ζ,x.pc,x.Cs,x.χ,x.pos,x.out,x.μ,x.δ,x.ι,x.θ,x.Co,x.pb)
structure Fm where
 rv:Int:=0
 γ:Int:=0
 Cl:Int:=0
 Cv:Bool:=false
 μ:List Int:=[]
 start:List Rw:=[]
 buf:List En:=[]
 Cq:List Int:=[]
 κ:List Rw:=[]
 ο:List Kd:=[]
def Fm.e(f:Fm):Y_Family:=(f.rv,f.γ,f.Cl,f.Cv,f.μ,f.start,f.buf,f.Cq,f.κ,f.ο.map Kd.e)
def zOp:Opn:=(0,0,0,0)
def opN(ξ:List Opn)(i:Int):Opn:=Xc ξ i.toNat zOp
def al{α:Type}(l:List α)(i:Int)(d:α):α:=Xc l i.toNat d
def hQ{α:Type}(l:List α)(i:Int)(x:α):List α:=Xe l i.toNat x
def iW{α:Type}(l:List α)(d:α):α:=Xc l (l.length-1) d
def ny(l:List Opn)(m:Nat):Nat:=((cK l.length).find? λk=>decide (m<=k)&&decide (dep l (k+1)=dep l m)).getD 0
def Fm.again(f:Fm)(x:Kd):Kd:={Cs:=f.γ,χ:=x.χ+1,μ:=f.μ}
def iS(m:Mm)(f:Fm)(x:Kd)(o:Opn):Fm×Kd:=
 match c9 x.ι o.2.2.1 with
 |some v=>(f,{x with μ:=hQ x.μ o.2.1 v,pc:=x.pc+1})
 |none=>match ent f.buf o.2.2.1 with
  |some r=>if r.2.2.2>x.Cs then(f,f.again x)else(f,{x with μ:=hQ x.μ o.2.1 r.2.2.1,δ:=x.δ++ [r.2],pc:=x.pc+1})
  |none=>
   let p:=cS m f.rv (if x.Co then x.pb else(o.2.2.1,0,0,0))
   if p.2.1=4 then({f with Cv:=true},{x with Co:=true,pb:=p})
   else if p.2.1=3 then(f,{x with μ:=hQ x.μ o.2.1 p.2.2.2,δ:=x.δ++ [(o.2.2.1,p.2.2.2,-1)],Co:=false,pb:=(0,0,0,0),pc:=x.pc+1})
   else(f,{x with Co:=true,pb:=p})
def uD(x:Kd)(ξ:List Opn):Kd:=
 if x.θ.length=0 then{x with ι:=[],out:=2,ζ:=1}else
 let q:=iW x.θ (0,0,[])
 {x with θ:=x.θ.dropLast,μ:=hQ q.2.2 (opN ξ q.1).2.1 0,ι:=x.ι.take q.2.1.toNat,pc:=ny ξ q.1.toNat+1}
def hN(m:Mm)(f:Fm)(x:Kd)(ξ:List Opn):Fm×Kd:=
 if x.pc>=ξ.length then(f,{x with out:=1,ζ:=1})else
 let o:=opN ξ x.pc
 if o.1=5 then iS m f x o else
 if o.1=10 then(f,uD x ξ)else
 if o.1=6 then(f,{x with ι:=x.ι++ [(o.2.1,al x.μ o.2.2.1 0)],pc:=x.pc+1})else
 if o.1=7 then(f,{x with pc:=(if al x.μ o.2.1 0=0 then x.pc+o.2.2.1 else x.pc)+1})else
 if o.1=8 then(f,{x with θ:=x.θ++ [(x.pc,(x.ι.length:Int),x.μ)],pc:=x.pc+1})else
 if o.1=9 then(f,{x with θ:=x.θ.dropLast,μ:=hQ x.μ (opN ξ (iW x.θ (0,0,[])).1).2.1 1,pc:=x.pc+1})else
 (f,{x with μ:=rn o x.μ,pc:=x.pc+1})
def qz(c:Int)(b:List En)(ε:List Rw):List En:=ε.foldl (λb r=>cd cfE b (r.1,r.2,c)) b
def fw(l:List En):List Rw:=(l.filter λe=>decide (e.2.2= -1)).map λe=>(e.1,e.2.1)
def q9(f:Fm)(x:Kd)(k:Nat):Fm×Kd:=
 ({f with γ:=f.γ+1,buf:=qz (f.γ+1) f.buf (aA x.ι),κ:=f.κ++fw x.δ,Cq:=f.Cq++ [(k:Int)],Cl:=0},{x with ζ:=3,pos:=0,θ:=[]})
def NC(b:List En)(c:Int):Int:=match ent b c with
 |some r=>r.2.2.2
 |none=>-1
def nB(m:Mm)(f:Fm)(x:Kd)(k:Nat)(ξ:List Opn):Fm×Kd:=
 if x.ζ=0 then hN m f x ξ else
 if x.ζ=1 then(if f.Cl=0 then({f with Cl:=(k:Int)+1},{x with ζ:=2})else(f,x))else
 if x.ζ=2 then
  if x.pos=x.δ.length then q9 f x k else
  let s:=al x.δ x.pos (0,0,0)
  if NC f.buf s.1=s.2.2 then(f,{x with pos:=x.pos+1})else({f with Cl:=0},f.again x)
 else(f,x)
def Fm.put(q:Fm×Kd)(k:Nat):Fm:={q.1 with ο:=q.1.ο.set k q.2}
def i0(m:Mm)(f:Fm)(k:Nat)(ξ:List Opn):Fm:=
 if f.Cv then f else Fm.put (nB m f (f.ο.getD k {}) k ξ) k
def gY(rv:Int)(μ:List Int)(ι:List Rw)(ο:Nat):Fm:=
 {rv:=rv,μ:=μ,start:=aA ι,buf:=(aA ι).map λr=>(r.1,r.2,0),ο:=Xk ο {μ:=μ}}
def kw(f:Fm):Bool:=f.ο.all λx=>decide (x.ζ=3)
def y9(f:Fm):List Rw:=f.buf.map λe=>(e.1,e.2.1)
def VV(x:Kd):Int:=if x.out=1/\gl x.μ=true then al x.μ 0 0 else 0
def ui(f:Fm):List Int:=
 if gl f.μ=true/\f.ο.length<=3 then f.ο.map VV++f.μ.drop f.ο.length else []
structure KMk(ξ:List Opn)(pc:Nat)(θ:List KM)(wl:Nat):Prop where
 pcs:θ.map (·.1)=(stk ξ pc).map λm:Nat=>(m:Int)
 each:∀q∈θ,Vals 4 q.2.2/\0<=q.2.1/\q.2.1<=q.1/\q.2.1<=wl
 up:θ.Pairwise λa b=>a.2.1<=b.2.1
structure KOk(ξ:List Opn)(c n:Int)(x:Kd):Prop where
 pc:0<=x.pc/\x.pc<=ξ.length
 μ:Vals 4 x.μ
 ε:hG x.ι
 wl:(x.ι.length:Int)<=x.pc
 sl:(x.δ.length:Int)<=x.pc
 Cs:0<=x.Cs/\x.Cs<=c
 χ:0<=x.χ/\x.χ<=n
 δ:∀e∈x.δ,(0<=e.1/\e.1<=7)/\(0<=e.2.1/\e.2.1<=65535)/\ -1<=e.2.2/\e.2.2<=x.Cs
 θ:x.ζ=0->KMk ξ x.pc.toNat x.θ x.ι.length
 pos:0<=x.pos/\x.pos<=x.δ.length
 pb:x.Co=true->dR x.pb=true
 ζ:0<=x.ζ/\x.ζ<=3
 out:0<=x.out/\x.out<=2
structure FOk(codes:List (List Opn))(n:Int)(f:Fm):Prop where
 len:f.ο.length=codes.length
 μ:Vals 4 f.μ
 γ:0<=f.γ/\f.γ=f.Cq.length
 done:f.Cq.length=f.ο.countP λx=>decide (x.ζ=3)
 bufR:Ris cfE f.buf
 bufE:∀e∈f.buf,(0<=e.1/\e.1<=7)/\(0<=e.2.1/\e.2.1<=65535)/\0<=e.2.2/\e.2.2<=f.γ
 readsL:f.κ.length<=24*f.Cq.length
 readsE:hG f.κ
 Cl:0<=f.Cl/\f.Cl<=f.ο.length
 kid:∀(k:Nat) (h:k<f.ο.length),KOk (codes.getD k []) f.γ n f.ο[k]
end
section
structure CC(l:List Opn):Prop where
 len:l.length<=24
 up:Up l
 z:dep l l.length=0
 ok:∀i (h:i<l.length),bj l[i]=true/\1<=l[i].1/\l[i].1<=16
 sk:∀i (h:i<l.length),l[i].1=7->i+1+l[i].2.2.1.toNat<=l.length/\bal ((l.take (i+1+l[i].2.2.1.toNat)).drop (i+1))=true
 fk:∀i (h:i<l.length),l[i].1=11->dep l i=0/\frk l (i+1)<=1
structure KC(l:List Opn):Prop extends CC l where
 k10:∀i (h:i<l.length),l[i].1<=10
theorem Gu{o:Opn}(h:bj o=true)(e:12<=o.1):nz o=2:=by
 have f:=nE h;have a:=CI (N:=0) (o:=o);unfold lL at a;rw[tT,h]at a;simp only[ret,Xd,Xn,Wb]at a;have c:(o.1==5)=false:=by simp;omega
 have d:(o.1==6)=false:=by simp;omega
 rw[c,d]at a;simp only[Wb]at a;have:o.1=12\/o.1=13\/o.1=14\/o.1=15\/o.1=16:=by omega
 rcases this with b|b|b|b|b<;> · simp_all
theorem XZ{l:List Opn}(h:jX l=true):CC l:=by
 unfold jX at h;simp only[Xh,Wg,de]at h;obtain⟨d,e,g⟩:=h;obtain⟨b,c⟩:=MS.1 e;have f:∀i (hi:i<l.length),jQ l i l[i]=false:=λi hi=>by
  rw[Bool.eq_false_iff];intro f;have:hP (jQ l) 0 l=true:=Dk.2 ⟨i,hi,by simp_all⟩;simp_all
 have a:∀i (hi:i<l.length),bj l[i]=true:=λi hi=>by
  grind [jQ,Hn,NW]
 refine⟨d,b,c,λi hi=>⟨a i hi,nE (a i hi)⟩,λi hi j=>?_,λi hi k=>?_⟩
 .grind [jQ,Hn,NW,uF]
 grind [jQ,Hn,NW]
theorem WyB{l:List Opn}(h:jO l=true):KC l:=by
 unfold jO at h;simp only[Xh,de]at h;have a:=XZ h.1;refine⟨a,λi d=>?_⟩;have b:pm l[i]=false:=by
  grind
 unfold pm at b;simp only[Hn]at b;by_cases c:l[i].1<=10
 .exact c
 .exfalso;by_cases e:l[i].1=11
  .simp_all
  .have:=Gu (a.ok i d).1 (by omega);simp_all
theorem Sl{l:List Opn}{m k:Nat}(h:Mate l m k):ny l m=k:=by
 unfold ny;have:(cK l.length).find? (λk=>decide (m<=k)&&decide (dep l (k+1)=dep l m))=some k:=by
  rw[List.find?_range_eq_some];have:=h.lt;refine⟨?_,List.mem_range.2 h.len,λj a=>?_⟩
  .simp[h.eq];omega
  .simp only[de,pL,Wm];by_cases b:m<=j
   .exact .inr (h.ne j b a)
   omega
 grind
theorem u7{l:List Opn}{i:Int}(a:0<=i)(h:i<l.length):∃(n:Nat) (b:n<l.length),i=n/\opN l i=l[n]:=by
 grind [opN,WA]
theorem qM{l:List Opn}{n:Nat}(h:n<l.length):opN l (n:Int)=l[n]:=by
 grind [opN,WA]
theorem Wrt{α:Type}(q:List α)(x d:α):iW (q++ [x]) d=x:=by unfold iW;simp
theorem u9{M:Type}{g:M->Int}{l:List Opn}{a:Nat}{θ:List M}{d:M}(f:CC l)(h:a<=l.length)(b:θ.map g=(stk l a).map λm:Nat=>(m:Int))(p:θ.length≠0):
  ∃(m:Nat) (q:List M) (x:M),θ=q++ [x]/\iW θ d=x/\g x=(m:Int)/\(∃b:m<l.length,l[m].1=8)/\m<a/\Mate l m (ny l m)/\a<=ny l m/\stk l m=(stk l a).dropLast/\q.map g=(stk l m).map λm:Nat=>(m:Int):=by
 rcases yt θ with i|⟨q,x,j⟩
 .simp_all
 .rw[j,Xx,bz,eX]at b;rcases yt (stk l a)with i|⟨t,m,c⟩
  .simp_all
  .rw[c,Xx,bz,eX]at b;obtain⟨r,e⟩:=NQ b rfl;injection e with e;obtain⟨k,u,n,v⟩:=Wxi f.up f.z h c;have w:=Sl n;obtain⟨o,s,_,_⟩:=L0 a h t [] m c
   grind [Wrt,Ym]
end
end Go.Sx
