/- Plain laws of the Lean functions. -/
import Derived.Test.YtjcmdagkabkicaaGreatT2
open Option renaming bind_some→Xd
open Nat renaming le_refl→Xm,zero_add→Xaw,le_trans→Xak,add_zero→Xbe,add_assoc→Xba,sub_zero→Xde
open List renaming mem_cons→Xs,append→Xh,length_cons→Xr,mem_cons_self→Xj,append_eq→Xbb,mem_cons_of_mem→Xf,all_eq_true→Xad,getD→Xc,set→Xe,set_set→Xct,take_succ_eq_append_getElem→Xbs,countP_le_length→Xei,length→Xb,length_append→Xaa,length_dropLast→Xda,append_inj'→Xeh,append_assoc→Xbf,cons_append→Xbc,dropLast_concat→Xen,getElem_mem→Xv,length_set→Xat,length_nil→Xby,pairwise_cons→Xy,mergeSort_perm→Xgo,getElem_of_mem→Xca,pairwise_iff_getElem→Xao,mem_iff_getElem→Xdt,getElem_set→Xcm,range→Xcu,replicate→Xp,map_append→Xz,map_cons→Xaf,map_nil→Xcg,map_set→Xeo,length_map→Xu,take→Xal,set_getElem_self→Xbg,range'→Xgb,mem_range'_1→Xfj,mem_append→Xo,pairwise_append→Xah,mem_singleton→Xag,getElem?_eq_getElem→Xq,drop_length→Xbz,drop_eq_getElem_cons→Xaz,drop_zero→Xbk,countP_set→Xhd,length_singleton→Xgg,mem_map→Xw,nil_append→Xbd
open Bool renaming not_true→Xk,and_eq_true→Xi,or_eq_true→Xce,not_eq_true'→Xai,not_eq_true→Xfu,false_or→Xff,toNat_false→Xfq,false_and→Xex,true_and→Xcb,or_eq_false_iff→Xdr,not_eq_false'→Xfa
open Int renaming toNat→Xa,toNat_natCast→Xl,le_refl→Xcv
namespace Go.Sx
set_option linter.unusedVariables false
set_option linter.unusedSimpArgs false
section
abbrev Cur:=List Int×Int×Int
end
section

end
section
def Wbf(v:Int):Bool:=decide (0<=v)&&decide (v<=65535)
theorem WcF{N:Nat}{x a b:Int}:Zf N x a b=ret (decide (a<=x)&&decide (x<=b)):=by
 unfold Zf;by_cases h:a<=x<;>simp[h]
theorem W1{N:Nat}{x a b:Int}:Zh N x a b=ret (decide (a<=x)&&decide (x<=b)):=by
 unfold Zh;by_cases h:a<=x<;>simp[h]
theorem Wbm{α:Type}{p:α->Bool}(l:List α):(l.any λx=>!p x)= !l.all p:=by
 grind
abbrev Rw:=Int×Int
def Wau(v:Int):Bool:=decide (0<=v)&&decide (v<=7)
def Wiy(r:Rw):Bool:=Wau r.1&&Wbf r.2
def Waj(l:List Rw):Bool:=decide (l.length<=300)&&l.all Wiy
def Wdr(l:List Int):Bool:=decide (l.length=8)&&l.all Wbf
theorem Wak{N:Nat}{v:Int}:Zai N v=ret (Wbf v):=by
 unfold Zai;simp only[WcF,ret,Xd];rfl
theorem Waz{N:Nat}{v:Int}:Zad N v=ret (Wbf v):=by
 unfold Zad;simp only[W1,ret,Xd];rfl
theorem WbM{N:Nat}{v:Int}:Zcg N v=ret (Wau v):=by
 unfold Zcg;simp only[WcF,ret,Xd];rfl
theorem WaH{N:Nat}{v:Int}:Za2 N v=ret (Wau v):=by
 unfold Za2;simp only[W1,ret,Xd];rfl
theorem WhE{N:Nat}{l:List Int}(hl:l.length<=1048576)(hN:1048576<N):Zie N l=ret (Wdr l):=by
 unfold Zie Wdr;by_cases h:l.length=8
 .have e:(Wg l !=8)=false:=by simp[Wg,h]
  rw[e];simp only[Wa];have h1:=Wx (l:=l) (V:=Unit) (R:=Unit×Ko) (lp:=λn j v=>Zd1 N l (some ((),(false,()))) (λi8 t9=>some ((),(true,()))) n j) (n:=N) (by omega)
   (body:=λj x v k=>bif !Wbf x then some ((),(false,()))else k v) (K:=λ_ v=>some ((),(true,())))
   (λn i v hi=>by simp only[Zd1,WL hi,Ww hi,Wt hi,Wp (show i<4611686018427387904 by omega),Wb,Wak,ret,Xd])
   (λn v=>by simp[Zd1,WW,Xm,Wa]) ()
  refine h1.trans ?_;rw[W7 (p:=λx=>!Wbf x) (E:=λ_=>some ((),(false,()))) l 0 () (λj x v k _=>rfl),Wbm];cases l.all Wbf<;>simp[h]
 grind [Wg]
theorem WhS{N:Nat}{l:List Int}(hl:l.length<=1048576)(hN:1048576<N):Z3 N l 8=ret (Wdr l):=by
 unfold Z3 Wdr;have h1:=Wx (l:=l) (V:=Unit) (R:=Unit×Ko) (lp:=λn j v=>Zag N l 8 (some ((),(false,()))) (λi8 t9=>some ((),((Wg l)==(8:Int),()))) n j) (n:=N) (by omega)
  (body:=λj x v k=>bif !Wbf x then some ((),(false,()))else k v) (K:=λ_ v=>some ((),((Wg l)==(8:Int),())))
  (λn i v hi=>by simp only[Zag,WL hi,Ww hi,Wt hi,Wp (show i<4611686018427387904 by omega),Wb,Waz,ret,Xd])
  (λn v=>by simp[Zag,WW,Xm,Wa]) ()
 refine h1.trans ?_;rw[W7 (p:=λx=>!Wbf x) (E:=λ_=>some ((),(false,()))) l 0 () (λj x v k _=>rfl),Wbm];have e:((Wg l)==(8:Int))=decide (l.length=8):=by
  grind [Wg]
 rw[e];cases l.all Wbf<;>simp
theorem Wdx{N:Nat}{l:List Rw}(hl:l.length<=1048576)(hN:1048576<N):Ze0 N l=ret (Waj l):=by
 unfold Ze0 Waj;by_cases h:l.length<=300
 .have e:decide (Wg l>300)=false:=by simp[Wg];omega
  rw[e];simp only[Wa];have h1:=Wx (l:=l) (V:=Unit) (R:=Unit×Ko) (lp:=λn j v=>Zd3 N l (some ((),(false,()))) (λi8 t9=>some ((),(true,()))) n j) (n:=N) (by omega)
   (body:=λj x v k=>bif !Wiy x then some ((),(false,()))else k v) (K:=λ_ v=>some ((),(true,())))
   (λn i v hi=>by
    simp only[Zd3,WL hi,Ww hi,Wt hi,Wp (show i<4611686018427387904 by omega),Wb,Wak,WbM,ret,Xd,Wiy];cases Wau l[i].1<;>rfl)
   (λn v=>by simp[Zd3,WW,Xm,Wa]) ()
  refine h1.trans ?_;rw[W7 (p:=λx=>!Wiy x) (E:=λ_=>some ((),(false,()))) l 0 () (λj x v k _=>rfl),Wbm];cases l.all Wiy<;>simp[h]
 grind [decide,Wg]
theorem Wcs{N:Nat}{l:List Rw}(hl:l.length<=1048576)(hN:1048576<N):Zdm N l=ret (Waj l):=by
 unfold Zdm Waj;have h1:=Wx (l:=l) (V:=Unit) (R:=Unit×Ko) (lp:=λn j v=>Zd7 N l (some ((),(false,()))) (λi8 t9=>some ((),(decide ((Wg l)<=(300:Int)),()))) n j) (n:=N) (by omega)
  (body:=λj x v k=>bif !Wiy x then some ((),(false,()))else k v) (K:=λ_ v=>some ((),(decide ((Wg l)<=(300:Int)),())))
  (λn i v hi=>by
   simp only[Zd7,WL hi,Ww hi,Wt hi,Wp (show i<4611686018427387904 by omega),Wb,Waz,WaH,ret,Xd,Wiy];cases Wau l[i].1<;>rfl)
  (λn v=>by simp[Zd7,WW,Xm,Wa]) ()
 refine h1.trans ?_;rw[W7 (p:=λx=>!Wiy x) (E:=λ_=>some ((),(false,()))) l 0 () (λj x v k _=>rfl),Wbm];have e:decide (Wg l<=300)=decide (l.length<=300):=by apply decide_eq_decide.2;simp[Wg];omega
 rw[e];cases l.all Wiy<;>simp
theorem Wp3{α:Type}{l:List α}(h:l.length<=1048576):Wz l.length=true:=by grind [Wz]
end
section
abbrev Opn:=Int×Int×Int×Int
def W6(v:Int):Bool:=decide (0<=v)&&decide (v<=3)
def WeL(v:Int):Bool:=decide (0<=v)&&decide (v<=7)
theorem WoW{N:Nat}{v:Int}:Zbn N v=ret (W6 v):=by
 unfold Zbn;simp only[WcF,ret,Xd];rfl
theorem WoR{N:Nat}{v:Int}:Zbo N v=ret (W6 v):=by
 unfold Zbo;simp only[W1,ret,Xd];rfl
theorem Woj{N:Nat}{v:Int}:Zas N v=ret (WeL v):=by
 unfold Zas;simp only[W1,ret,Xd];rfl
def WdV(o:Opn):Bool:=
 bif o.1==1 then W6 o.2.1&&Wbf o.2.2.1&&(o.2.2.2==(0:Int))else
 bif o.1==2 then W6 o.2.1&&W6 o.2.2.1&&W6 o.2.2.2 else
 bif o.1==3 then W6 o.2.1&&W6 o.2.2.1&&W6 o.2.2.2 else
 bif o.1==4 then W6 o.2.1&&W6 o.2.2.1&&W6 o.2.2.2 else
 bif o.1==5 then W6 o.2.1&&Wau o.2.2.1&&(o.2.2.2==(0:Int))else
 bif o.1==6 then Wau o.2.1&&W6 o.2.2.1&&(o.2.2.2==(0:Int))else
 bif o.1==7 then W6 o.2.1&&(decide (1<=o.2.2.1)&&decide (o.2.2.1<=20))&&(o.2.2.2==(0:Int))else
 bif o.1==8 then W6 o.2.1&&(o.2.2.1==(0:Int))&&(o.2.2.2==(0:Int))else
 bif o.1==9 then(o.2.1==(0:Int))&&(o.2.2.1==(0:Int))&&(o.2.2.2==(0:Int))else
 bif o.1==10 then(o.2.1==(0:Int))&&(o.2.2.1==(0:Int))&&(o.2.2.2==(0:Int))else
 bif o.1==11 then(o.2.1==(0:Int))&&(o.2.2.1==(0:Int))&&(o.2.2.2==(0:Int))else
 bif o.1==12 then WeL o.2.1&&W6 o.2.2.1&&W6 o.2.2.2 else
 bif o.1==13 then W6 o.2.1&&WeL o.2.2.1&&(o.2.2.2==(0:Int))else
 bif o.1==14 then WeL o.2.1&&W6 o.2.2.1&&(o.2.2.2==(0:Int))else
 bif o.1==15 then W6 o.2.1&&(o.2.2.1==(0:Int))&&(o.2.2.2==(0:Int))else
 bif o.1==16 then W6 o.2.1&&(o.2.2.1==(0:Int))&&(o.2.2.2==(0:Int))else
 false
abbrev Bo:=Option Ke
def oA(p k:Bo):Bo:=p.bind λo=>bif o.2.1 then k else some ((),(false,()))
def oB(p:Bo):Bo:=p.bind λo=>some ((),(o.2.1,()))
theorem o3{T P Q R:Bo}{p q r:Bool}(h:T=oA P (oA Q (oB R)))(hp:P=ret p)(hq:Q=ret q)(hr:R=ret r):T=ret (p&&q&&r):=by
 rw[h,hp,hq,hr];cases p<;>cases q<;>rfl
theorem z0(v:Int):(ret (v==(0:Int)):Bo)=ret (v==(0:Int)):=rfl
theorem sR(N:Nat)(v:Int):Zbn N v=ret (W6 v):=WoW
theorem sV(N:Nat)(v:Int):Zai N v=ret (Wbf v):=Wak
theorem sC(N:Nat)(v:Int):Zcg N v=ret (Wau v):=WbM
theorem sK(N:Nat)(v:Int):Zf N v 0 7=ret (WeL v):=WcF
theorem sI(N:Nat)(v:Int):Zf N v 1 20=ret (decide (1<=v)&&decide (v<=20)):=WcF
theorem iR(N:Nat)(v:Int):Zbo N v=ret (W6 v):=WoR
theorem iV(N:Nat)(v:Int):Zad N v=ret (Wbf v):=Waz
theorem iC(N:Nat)(v:Int):Za2 N v=ret (Wau v):=WaH
theorem iK(N:Nat)(v:Int):Zas N v=ret (WeL v):=Woj
theorem iI(N:Nat)(v:Int):Zh N v 1 20=ret (decide (1<=v)&&decide (v<=20)):=W1
def kds:List Int:=[1,2,3,4,5,6,7,8,9,10,11,12,13,14,15,16]
theorem Www{P:Int->Prop}(h1:P 1)(h2:P 2)(h3:P 3)(h4:P 4)(h5:P 5)(h6:P 6)(h7:P 7)(h8:P 8)(h9:P 9)(cJ:P 10)(gq:P 11)(ek:P 12)(tV:P 13)(h14:P 14)(h15:P 15)(nS:P 16)
  (h0:∀k,(∀i,i∈kds->(k==i)=false)->P k) (k:Int):P k:=by
 by_cases h:k∈kds
 .simp only[kds,Xs,List.not_mem_nil,or_false]at h;rcases h with h|h|h|h|h|h|h|h|h|h|h|h|h|h|h|h<;>rw[h]<;>assumption
 .exact h0 k λi hi=>by
   rw[beq_eq_false_iff_ne];intro e;exact h (e▸hi)
theorem Wc0{N:Nat}{o:Opn}:Zli N o=ret (WdV o):=by
 obtain⟨k,a,b,c⟩:=o;exact Www (P:=λk=>Zli N (k,a,b,c)=ret (WdV (k,a,b,c)))
  (o3 (by kernel_rfl) (sR N a) (sV N b) (z0 c))
  (o3 (by kernel_rfl) (sR N a) (sR N b) (sR N c))
  (o3 (by kernel_rfl) (sR N a) (sR N b) (sR N c))
  (o3 (by kernel_rfl) (sR N a) (sR N b) (sR N c))
  (o3 (by kernel_rfl) (sR N a) (sC N b) (z0 c))
  (o3 (by kernel_rfl) (sC N a) (sR N b) (z0 c))
  (o3 (by kernel_rfl) (sR N a) (sI N b) (z0 c))
  (o3 (by kernel_rfl) (sR N a) (z0 b) (z0 c))
  (o3 (by kernel_rfl) (z0 a) (z0 b) (z0 c))
  (o3 (by kernel_rfl) (z0 a) (z0 b) (z0 c))
  (o3 (by kernel_rfl) (z0 a) (z0 b) (z0 c))
  (o3 (by kernel_rfl) (sK N a) (sR N b) (sR N c))
  (o3 (by kernel_rfl) (sR N a) (sK N b) (z0 c))
  (o3 (by kernel_rfl) (sK N a) (sR N b) (z0 c))
  (o3 (by kernel_rfl) (sR N a) (z0 b) (z0 c))
  (o3 (by kernel_rfl) (sR N a) (z0 b) (z0 c))
  (λk e=>by unfold Zli WdV;simp(disch:=decide) only[e,Wa,Wj]) k
theorem Wfb{N:Nat}{o:Opn}:Zit N o=ret (WdV o):=by
 obtain⟨k,a,b,c⟩:=o;exact Www (P:=λk=>Zit N (k,a,b,c)=ret (WdV (k,a,b,c)))
  (o3 (by kernel_rfl) (iR N a) (iV N b) (z0 c))
  (o3 (by kernel_rfl) (iR N a) (iR N b) (iR N c))
  (o3 (by kernel_rfl) (iR N a) (iR N b) (iR N c))
  (o3 (by kernel_rfl) (iR N a) (iR N b) (iR N c))
  (o3 (by kernel_rfl) (iR N a) (iC N b) (z0 c))
  (o3 (by kernel_rfl) (iC N a) (iR N b) (z0 c))
  (o3 (by kernel_rfl) (iR N a) (iI N b) (z0 c))
  (o3 (by kernel_rfl) (iR N a) (z0 b) (z0 c))
  (o3 (by kernel_rfl) (z0 a) (z0 b) (z0 c))
  (o3 (by kernel_rfl) (z0 a) (z0 b) (z0 c))
  (o3 (by kernel_rfl) (z0 a) (z0 b) (z0 c))
  (o3 (by kernel_rfl) (iK N a) (iR N b) (iR N c))
  (o3 (by kernel_rfl) (iR N a) (iK N b) (z0 c))
  (o3 (by kernel_rfl) (iK N a) (iR N b) (z0 c))
  (o3 (by kernel_rfl) (iR N a) (z0 b) (z0 c))
  (o3 (by kernel_rfl) (iR N a) (z0 b) (z0 c))
  (λk e=>by unfold Zit WdV;simp(disch:=decide) only[e,Wa,Wj]) k
end
section
section
variable{N:Nat}{c:Cur}
end
end
section
section
variable{N:Nat}{c:Cur}
end
end
section
abbrev Wd:=Int×Int×Int
abbrev Mm:=Int×List Wd
theorem Wal{α:Type}(a:Option α):Wb6 a a=a:=by unfold Wb6;simp
def WnV(clock:Int)(w:Wd):Bool:=Wbf w.1&&((decide (0<=w.2.1)&&decide (w.2.1<=clock))&&(decide (0<=w.2.2)&&decide (w.2.2<=99)))
def W0(m:Mm):Bool:=decide (m.2.length=8)&&((decide (0<=m.1)&&decide (m.1<=1000000))&&m.2.all (WnV m.1))
theorem Wbi{N:Nat}{m:Mm}(hl:m.2.length<=1048576)(hN:1048576<N):Zc1 N m=ret (W0 m):=by
 unfold Zc1 W0;have h1:=Wx (l:=m.2) (V:=Unit) (R:=Unit×Ko) (lp:=λn j v=>Zfe N m.2 m (some ((),(false,()))) (λfM fV=>
  (bif (Wg m.2)==(8:Int)then
  ((Zh N m.1 (0:Int) (1000000:Int)).bind λkp=>
  (some ((),(kp.2.1,()))))
  else
  (some ((),(false,()))))) n j) (n:=N) (by omega)
  (body:=λj x v k=>bif !WnV m.1 x then some ((),(false,()))else k v) (K:=λ_ v=>(bif (Wg m.2)==(8:Int)then
  ((Zh N m.1 (0:Int) (1000000:Int)).bind λkp=>
  (some ((),(kp.2.1,()))))
  else
  (some ((),(false,())))))
  (λn i v hi=>by
   simp only[Zfe,WL hi,Ww hi,Wt hi,Wp (show i<4611686018427387904 by omega),Wb,Waz,W1,ret,Xd,WnV];cases Wbf m.2[i].1<;>cases(decide (0<=m.2[i].2.1)&&decide (m.2[i].2.1<=m.1))<;>cases(decide (0<=m.2[i].2.2)&&decide (m.2[i].2.2<=99))<;>rfl)
  (λn v=>by simp[Zfe,WW,Xm,Wa]) ()
 refine h1.trans ?_;rw[W7 (p:=λx=>!WnV m.1 x) (E:=λ_=>some ((),(false,()))) m.2 0 () (λj x v k _=>rfl),Wbm];have e:((Wg m.2)==(8:Int))=decide (m.2.length=8):=by
  grind [Wg]
 simp only[e,W1,ret,Xd];cases m.2.all (WnV m.1)<;>cases decide (m.2.length=8)<;>simp
theorem Wb3{N:Nat}{m:Mm}(hl:m.2.length<=1048576)(hN:1048576<N):Zeu N m=ret (W0 m):=by
 unfold Zeu W0;have e:((Wg m.2) !=(8:Int))= !decide (m.2.length=8):=by
  grind [Wg]
 have h1:=Wx (l:=m.2) (V:=Unit) (R:=Unit×Ko) (lp:=λn j v=>Zc0 N m (some ((),(false,()))) (λgX dw=>(some ((),(true,())))) n j) (n:=N) (by omega)
  (body:=λj x v k=>bif !WnV m.1 x then some ((),(false,()))else k v) (K:=λ_ v=>some ((),(true,())))
  (λn i v hi=>by
   simp only[Zc0,WL hi,Ww hi,Wt hi,Wp (show i<4611686018427387904 by omega),Wb,Wak,WcF,ret,Xd,WnV];cases Wbf m.2[i].1<;>cases(decide (0<=m.2[i].2.1)&&decide (m.2[i].2.1<=m.1))<;>cases(decide (0<=m.2[i].2.2)&&decide (m.2[i].2.2<=99))<;>rfl)
  (λn v=>by simp[Zc0,WW,Xm,Wa]) ()
 have h2:Zc0 N m (some ((),(false,()))) (λgX dw=>(some ((),(true,())))) N 0=ret (m.2.all (WnV m.1)):=by
  refine h1.trans ?_;rw[W7 (p:=λx=>!WnV m.1 x) (E:=λ_=>some ((),(false,()))) m.2 0 () (λj x v k _=>rfl),Wbm];cases m.2.all (WnV m.1)<;>rfl
 rw[e,h2];simp only[WcF,ret,Xd];cases decide (m.2.length=8)<;>cases(decide (0<=m.1)&&decide (m.1<=1000000))<;>simp
def wd0(v:Int):Wd:=(v,(0,0))
def WnW(l:List Int):Mm:=(0,l.map wd0)
theorem Wca{α β R:Type}{body:Int->α->List β->(List β->Option R)->Option R}{K:Int->List β->Option R}{f:α->β}:∀(l:List α) (j:Nat) (o:List β),o.length+l.length<=1000000->
  (∀(j:Nat) x (v:List β) k,x∈l->body j x v k=bif Wz (v.length+ [f x].length)then k (Xh v [f x])else none)->WbT body K l j o=K ((j+l.length:Nat):Int) (o++l.map f)
 | [],j,o,_,_=>by simp[WbT]
 |x::l,j,o,h,hb=>by
  rw[Xr]at h;rw[WbT,hb j x o _ (Xj ..),Wq (by simp;omega)];simp only[Wb];rw[Wca l (j+1) _ (by grind [Xbb]) λj y v k hy=>hb j y v k (Xf _ hy)];rw[Xr,show j+1+l.length=j+(l.length+1) by omega];simp
theorem WjZ{N:Nat}{l:List Int}(h:Wdr l=true)(hN:1048576<N):Zig N l=some ((),(WnW l,(true,()))):=by
 have hl:l.length=8:=by grind [Wdr]
 unfold Zig;simp only[WhS (show l.length<=1048576 by omega) hN,ret,Xd,h,Xk,Wa];have h1:=Wx (l:=l) (V:=List Wd) (R:=Unit×(Mm×Ko)) (lp:=λn j v=>Zd8 N l (λaz bc bD=>(some ((),(((0:Int),bD),(true,()))))) n j v) (n:=N) (by omega)
  (body:=λj x v k=>bif Wz (v.length+ [wd0 x].length)then k (Xh v [wd0 x])else none) (K:=λ_ v=>some ((),(((0:Int),v),(true,()))))
  (λn i v hi=>by simp only[Zd8,WL hi,Ww hi,Wt hi,Wp (show i<4611686018427387904 by omega),Wb,wd0])
  (λn v=>by simp[Zd8,WW,Xm,Wa]) []
 refine h1.trans ?_;rw[Wca (f:=wd0) l 0 [] (by simp;omega) (λj x v k _=>rfl)];rfl
theorem WjO{N:Nat}{l:List Int}(h:Wdr l=true)(hN:1048576<N):Zkd N l=some ((),(WnW l,(true,()))):=by
 have hl:l.length=8:=by grind [Wdr]
 unfold Zkd;simp only[WhE (show l.length<=1048576 by omega) hN,ret,Xd,h,Xk,Wa];have h1:=Wx (l:=l) (V:=List Wd) (R:=Unit×(Mm×Ko)) (lp:=λn j v=>Zd4 N l (λaz bc bD=>(some ((),(((0:Int),bD),(true,()))))) n j v) (n:=N) (by omega)
  (body:=λj x v k=>bif Wz (v.length+ [wd0 x].length)then k (Xh v [wd0 x])else none) (K:=λ_ v=>some ((),(((0:Int),v),(true,()))))
  (λn i v hi=>by simp only[Zd4,WL hi,Ww hi,Wt hi,Wp (show i<4611686018427387904 by omega),Wb,wd0])
  (λn v=>by simp[Zd4,WW,Xm,Wa]) []
 refine h1.trans ?_;rw[Wca (f:=wd0) l 0 [] (by simp;omega) (λj x v k _=>rfl)];rfl
theorem WC{m:Mm}(h:W0 m=true):m.2.length=8/\0<=m.1/\m.1<=1000000/\∀w∈m.2,WnV m.1 w=true:=by
 simp_all [W0,Xi,Wi,Xad]
def tick(m:Mm):Mm×Int:=if m.1<1000000 then((m.1+1,m.2),m.1+1)else(m,0)
theorem WnX{N:Nat}{m:Mm}(h:W0 m=true)(hN:1048576<N):Zro N m=some ((),((tick m).1,((tick m).2,()))):=by
 obtain⟨h8,h0,h1,_⟩:=WC h;have e:Zch N m=ret m:=by grind [Zch,Wq]
 unfold Zro tick;simp only[e,Wbi (show m.2.length<=1048576 by omega) hN,ret,Xd,h,Xk,Wa];by_cases hc:m.1<1000000
 .have e2:(m.1==1000000)=false:=by simp;omega
  have e3:Wh .i64 m.1 1=m.1+1:=WJ (by unfold I64;omega)
  grind
 grind
theorem Wm4{N:Nat}{m:Mm}(h:W0 m=true)(hN:1048576<N):Zrn N m=some ((),((tick m).1,((tick m).2,()))):=by
 obtain⟨h8,h0,h1,_⟩:=WC h;have e:Zdk N m=ret m:=by simp_all [Zdk,Wq]
 unfold Zrn tick;simp only[e,Wb3 (show m.2.length<=1048576 by omega) hN,ret,Xd,h,Xk,Wa];by_cases hc:m.1<1000000
 .have e2:decide (m.1>=1000000)=false:=by simp;omega
  have e3:Wh .i64 m.1 1=m.1+1:=WJ (by unfold I64;omega)
  grind
 grind
abbrev Pb:=Int×Int×Int×Int
def WjJ(p:Pb):Bool:=Wau p.1&&((decide (0<=p.2.1)&&decide (p.2.1<=4))&&((decide (0<=p.2.2.1)&&decide (p.2.2.1<=1000000))&&Wbf p.2.2.2))
theorem Wnk{N:Nat}{p:Pb}:Zov N p=ret (WjJ p):=by
 unfold Zov WjJ;simp only[WaH,W1,Waz,ret,Xd];cases Wau p.1<;>cases(decide (0<=p.2.1)&&decide (p.2.1<=4))<;>cases(decide (0<=p.2.2.1)&&decide (p.2.2.1<=1000000))<;>simp
theorem WmC{N:Nat}{p:Pb}:Zou N p=ret (WjJ p):=by
 unfold Zou WjJ;simp only[WbM,WcF,Wak,ret,Xd];cases Wau p.1<;>cases(decide (0<=p.2.1)&&decide (p.2.1<=4))<;>cases(decide (0<=p.2.2.1)&&decide (p.2.2.1<=1000000))<;>simp
def WaL(m:Mm)(rv:Int)(p:Pb):Pb:=
 let w:=Xc m.2 (Xa p.1) (0,(0,0))
 bif p.2.1==0 then(bif w.2.2==0 then(bif decide (w.2.1<=rv)then(p.1,(1,(w.2.1,p.2.2.2)))else(p.1,(4,p.2.2)))else(p.1,(4,p.2.2)))
 else bif p.2.1==1 then(p.1,(2,(p.2.2.1,w.1)))
 else bif p.2.1==2 then(bif w.2.2==0 then(bif w.2.1==p.2.2.1 then(p.1,(3,p.2.2))else(p.1,(4,p.2.2)))else(p.1,(4,p.2.2)))
 else p
theorem Wu3{m:Mm}{p:Pb}(h:W0 m=true)(hp:WjJ p=true):inb p.1 m.2.length=true:=by
 grind [WC,WjJ,Wau,inb]
theorem Wfq{N:Nat}{m:Mm}{rv:Int}{p:Pb}(h:W0 m=true)(hp:WjJ p=true)(hN:1048576<N):Zff N m rv p=ret (WaL m rv p):=by
 have h1:=(WC h).1;unfold Zff WaL;simp only[Wbi (show m.2.length<=1048576 by omega) hN,Wnk,ret,Xd,h,hp,Xk,Wa,Wu3 h hp,Wb];generalize Xc m.2 (Xa p.1) (0,(0,0))=w;cases p.2.1==0<;>cases p.2.1==1<;>cases p.2.1==2<;>cases w.2.2==0<;>cases decide (w.2.1<=rv)<;>cases w.2.1==p.2.2.1<;>rfl
theorem Wfj{N:Nat}{m:Mm}{rv:Int}{p:Pb}(h:W0 m=true)(hp:WjJ p=true)(hN:1048576<N):Zfc N m rv p=ret (WaL m rv p):=by
 have h1:=(WC h).1;unfold Zfc WaL;simp only[Wb3 (show m.2.length<=1048576 by omega) hN,WmC,ret,Xd,h,hp,Xk,Wa,Wu3 h hp,Wb];generalize Xc m.2 (Xa p.1) (0,(0,0))=w;have e1:decide (w.2.1>rv)= !decide (w.2.1<=rv):=by
  grind
 rw[e1];unfold bne;cases p.2.1==0<;>cases p.2.1==1<;>cases p.2.1==2<;>cases w.2.2==0<;>cases decide (w.2.1<=rv)<;>cases w.2.1==p.2.2.1<;>rfl
def Wgp(l:List Rw)(c:Int):Nat->Option Int
 |0=>none
 |i+1=>if(Xc l i (0,0)).1=c then some (Xc l i (0,0)).2 else Wgp l c i
def Wcd(l:List Rw)(c:Int):Option Int:=if Waj l=true then Wgp l c l.length else none
def opI(o:Option Int):Option (Unit×Kk):=match o with
 |none=>some ((),((0:Int),(false,())))
 |some v=>some ((),(v,(true,())))
theorem Wjn{N:Nat}{l:List Rw}{c:Int}(hl:l.length<=1048576):∀(i n:Nat),i<n->i<=l.length->Zh1 N l c (λar=>(some ((),(ar,(true,()))))) (λbm az=>(some ((),((0:Int),(false,()))))) n ((i:Int) -1)=opI (Wgp l c i)
 |i,0,h,_=>by omega
 |0,n+1,h,_=>rfl
 |i+1,n+1,h,hi=>by
  have e:((i+1:Nat):Int) -1=(i:Int):=by omega
  have e1:decide ((i:Int)>=0)=true:=by simp
  have e2:WT .i64 (i:Int) 1=(i:Int) -1:=WQ (by unfold I64;omega);rw[e,Zh1,e1,Ww (show i<l.length by omega),e2,Wgp,Xl];simp only[Wb];by_cases hc:(Xc l i ((0:Int),(0:Int))).1=c
  .rw[Wf hc,beq_iff_eq.2 hc];rfl
  .rw[Wc hc,beq_eq_false_iff_ne.2 hc];exact Wjn hl i n (by omega) (by omega)
theorem WiK{N:Nat}{l:List Rw}{c:Int}(hl:l.length<=1048576):∀(i n:Nat),i<n->i<=l.length->Zhz N l c (λar=>(some ((),(ar,(true,()))))) (λbm az=>(some ((),((0:Int),(false,()))))) n ((i:Int) -1)=opI (Wgp l c i)
 |i,0,h,_=>by omega
 |0,n+1,h,_=>rfl
 |i+1,n+1,h,hi=>by
  have e:((i+1:Nat):Int) -1=(i:Int):=by omega
  have e1:decide ((i:Int)>=0)=true:=by simp
  have e2:WT .i64 (i:Int) 1=(i:Int) -1:=WQ (by unfold I64;omega);rw[e,Zhz,e1,Ww (show i<l.length by omega),e2,Wgp,Xl];simp only[Wb];by_cases hc:(Xc l i ((0:Int),(0:Int))).1=c
  .rw[Wf hc,beq_iff_eq.2 hc];rfl
  .rw[Wc hc,beq_eq_false_iff_ne.2 hc];exact WiK hl i n (by omega) (by omega)
theorem WiY{α:Type}{l:List α}(hl:l.length<=1048576):WT .i64 (Wg l) 1=((l.length:Nat):Int) -1:=by grind [Wg,WQ,I64]
theorem WeW{N:Nat}{l:List Rw}{c:Int}(hl:l.length<=1048576)(hN:1048576<N):Ziu N l c=opI (Wcd l c):=by
 unfold Ziu Wcd;simp only[Wcs hl hN,ret,Xd];cases Waj l
 .rfl
 .simp only[Xk,Wa,W8,WiY hl];exact Wjn hl l.length N (by omega) (Xm _)
theorem WeF{N:Nat}{l:List Rw}{c:Int}(hl:l.length<=1048576)(hN:1048576<N):Zis N l c=opI (Wcd l c):=by
 unfold Zis Wcd;simp only[Wdx hl hN,ret,Xd];cases Waj l
 .rfl
 .simp only[Xk,Wa,W8,WiY hl];exact WiK hl l.length N (by omega) (Xm _)
end
section
def Wjw(l:List Rw)(o:List Rw)(c:Nat):List Rw:=match Wcd l c with
 |none=>o
 |some v=>o++ [((c:Int),v)]
def Wih(l:List Rw):Nat->Nat->List Rw->List Rw
 |0,_,o=>o
 |j+1,c,o=>Wih l j (c+1) (Wjw l o c)
def WcO(l:List Rw):List Rw:=Wih l 8 0 []
theorem Wg2{N:Nat}{l:List Rw}(hl:l.length<=1048576)(hN:1048576<N):∀(j n c:Nat) (o:List Rw),c+j=8->j<n->o.length<=c->Zg7 N l (λaq az aJ=>(some ((),(aJ,())))) n (c:Int) o=ret (Wih l j c o)
 |j,0,c,o,_,h,_=>by omega
 |0,n+1,c,o,h,_,_=>by
  have:c=8:=by omega
  subst this;rfl
 |j+1,n+1,c,o,h,h1,ho=>by
  have e:decide ((c:Int)<8)=true:=by simp;omega
  rw[Zg7,e,WeW hl hN,Wp (by omega),Wih,Wjw];simp only[Wb];rcases Wcd l c with _|v
  .exact Wg2 hl hN j n (c+1) o (by omega) (by omega) (by omega)
  .have er:Wz (o.length+ [((c:Int),v)].length)=true:=Wq (by simp;omega);simp only[opI,Xd,Wb,er];exact Wg2 hl hN j n (c+1) _ (by omega) (by omega) (by simp;omega)
theorem Whj{N:Nat}{l:List Rw}(hl:l.length<=1048576)(hN:1048576<N):∀(j n c:Nat) (o:List Rw),c+j=8->j<n->o.length<=c->Zg6 N l (λaq az aJ=>(some ((),(aJ,())))) n (c:Int) o=ret (Wih l j c o)
 |j,0,c,o,_,h,_=>by omega
 |0,n+1,c,o,h,_,_=>by
  have:c=8:=by omega
  subst this;rfl
 |j+1,n+1,c,o,h,h1,ho=>by
  have e:decide ((c:Int)<8)=true:=by simp;omega
  rw[Zg6,e,WeF hl hN,Wp (by omega),Wih,Wjw];simp only[Wb];rcases Wcd l c with _|v
  .exact Whj hl hN j n (c+1) o (by omega) (by omega) (by omega)
  .have er:Wz (o.length+ [((c:Int),v)].length)=true:=Wq (by simp;omega);simp only[opI,Xd,Wb,er];exact Whj hl hN j n (c+1) _ (by omega) (by omega) (by simp;omega)
theorem Wd6{N:Nat}{l:List Rw}(hl:l.length<=1048576)(hN:1048576<N):Zhp N l=ret (WcO l):=by
 unfold Zhp;exact Whj hl hN 8 N 0 [] rfl (by omega) (by simp)
theorem WmL{l:List Rw}(h:Waj l=false):∀(j c:Nat) (o:List Rw),Wih l j c o=o
 |0,_,_=>rfl
 |j+1,c,o=>by
  have e:Wcd l c=none:=by grind [Wcd]
  rw[Wih,Wjw,e];exact WmL h j (c+1) o
theorem WdW{N:Nat}{l:List Rw}(hl:l.length<=1048576)(hN:1048576<N):Zhq N l=ret (WcO l):=by
 unfold Zhq;simp only[Wcs hl hN,ret,Xd];cases h:Waj l
 .grind [WcO,WmL]
 .exact Wg2 hl hN 8 N 0 [] rfl (by omega) (by simp)
def fnd{α:Type}(p:α->Bool):List α->Nat->Option (Nat×α)
 | [],_=>none
 |x::l,j=>bif p x then some (j,x)else fnd p l (j+1)
theorem WdT{α V R:Type}{body:Int->α->V->(V->Option R)->Option R}{K:Int->V->Option R}{p:α->Bool}{E:Int->α->Option R}:∀(l:List α) (j:Nat) (v:V),(∀(j:Nat) x v k,x∈l->body j x v k=bif p x then E j x else k v)->
  WbT body K l j v=match fnd p l j with|some r=>E r.1 r.2|none=>K ((j+l.length:Nat):Int) v
 | [],j,v,_=>rfl
 |x::l,j,v,h=>by
  rw[WbT,h j x v _ (Xj ..),fnd,WdT l (j+1) v λj y v k hy=>h j y v k (Xf _ hy)]
  grind
theorem WcK{α:Type}{p:α->Bool}:∀{l:List α} {j:Nat} {r:Nat×α},fnd p l j=some r->p r.2=true/\j<=r.1/\r.1<j+l.length/\l[r.1-j]?=some r.2
 | [],j,r,h=>by cases h
 |x::l,j,r,h=>by
  rw[fnd]at h;cases hp:p x
  .rw[hp]at h;obtain⟨h1,h2,h3,h4⟩:=WcK (l:=l) h
   grind
  grind
theorem WgL{α:Type}{p:α->Bool}:∀{l:List α} {j:Nat},fnd p l j=none->∀x∈l,p x=false
 | [],j,h=>by simp
 |x::l,j,h=>by
  rw[fnd]at h;cases hp:p x
  .rw[hp]at h;intro y hy;rcases Xs.1 hy with rfl|hy
   .exact hp
   .exact WgL h y hy
  simp_all
abbrev En:=Int×Int×Int
def ent(b:List En)(c:Int):Option (Nat×En):=fnd (λe=>e.1==c) b 0
theorem WfS{N:Nat}{f:Y_Family}{c:Int}(hl:f.2.2.2.2.2.2.1.length<=1048576)(hN:1048576<N):Zco N f c=ret (match ent f.2.2.2.2.2.2.1 c with|some r=>(r.1:Int)|none=>-1):=by
 unfold Zco;show((Zi N f.2.2.2.2.2.2.1 c).bind _)=_;generalize f.2.2.2.2.2.2.1=b at hl;unfold Zi ent;have h1:=Wx (l:=b) (V:=Unit) (R:=Kh×Kh) (lp:=λn j v=>Zc N b (λcl bA=>(some ((bA,()),(cl,())))) (λfM fV d6=>(some ((d6,()),((-1:Int),())))) n j c) (n:=N) (by omega)
  (body:=λj x v k=>bif x.1==c then some ((c,()),(j,()))else k v) (K:=λ_ v=>some ((c,()),((-1:Int),())))
  (λn i v hi=>by simp only[Zc,Zl5,WL hi,Ww hi,Wt hi,Wp (show i<4611686018427387904 by omega),Wb,Xd])
  (λn v=>by simp[Zc,WW,Xm,Wa]) ()
 rw[h1,WdT (p:=λe=>e.1==c) (E:=λj x=>some ((c,()),(j,()))) b 0 () (λj x v k _=>rfl)];cases fnd (λe:En=>e.1==c) b 0<;>rfl
theorem Wiz{N:Nat}{f:Y_Family}{c:Int}(hl:(P6 f).length<=1048576)(hN:1048576<N):Zgc N f c=ret (match ent (P6 f) c with|some r=>r.2|none=>(c,(0,-1))):=by
 unfold Zgc ent;have h1:=Wx (l:=P6 f) (V:=Unit) (R:=Unit×(En×Unit)) (lp:=λn j v=>Zcl N c f (λcT=>(some ((),(cT,())))) (λgX dw=>(some ((),((c,((0:Int),(-1:Int))),())))) n j) (n:=N) (by omega)
  (body:=λj x v k=>bif x.1==c then some ((),(x,()))else k v) (K:=λ_ v=>some ((),((c,((0:Int),(-1:Int))),())))
  (λn i v hi=>by simp only[Zcl,WL hi,Ww hi,Wt hi,Wp (show i<4611686018427387904 by omega),Wb])
  (λn v=>by simp only[Zcl,WW (Xm (P6 f).length),Wa]) ()
 refine h1.trans ?_;rw[WdT (p:=λe=>e.1==c) (E:=λj x=>some ((),(x,()))) (P6 f) 0 () (λj x v k _=>rfl)];cases fnd (λe:En=>e.1==c) (P6 f) 0<;>rfl
theorem WcQ{N:Nat}{l:List Int}(h:l.length<=1048576):Zj N l=ret l:=by
 unfold Zj;rw[Wq (by simp;omega)];rfl
theorem Wbs{N:Nat}{l:List Int}(h:l.length<=1048576):Zm N l=ret l:=by
 grind [Zm,Wq]
theorem WdF{N:Nat}{l:List Rw}(h:l.length<=1048576):Za4 N l=ret l:=by
 grind [Za4,Wq]
end
section
def Wxf(f:Y_Family)(k:Nat)(x:Y_KidRun):Y_Family:=U9 (Xe (Q9 f) k x) f
def again(f:Y_Family)(x:Y_KidRun):Y_KidRun:=(0,(0,(f.2.1,(x.2.2.2.1+1,(0,(0,(P4 f,([],([],([],(false,(0,(0,(0,0))))))))))))))
def Wmz(x:Y_KidRun)(c:Int):Pb:=bif P10 x then Q11 x else(c,(0,(0,0)))
def We1(m:Mm)(f:Y_Family)(x:Y_KidRun)(o:Int×Int×Int×Int):Y_Family×Y_KidRun:=
 match Wcd (P8 x) o.2.2.1 with
 |some v=>(f,S6 (Xe (P6 x) (Xa o.2.1) v) (S1 (x.2.1+1) x))
 |none=>match ent (P6 f) o.2.2.1 with
  |some r=>bif decide (r.2.2.2>x.2.2.1)then(f,again f x)else(f,S7 (P7 x++ [r.2]) (S6 (Xe (P6 x) (Xa o.2.1) r.2.2.1) (S1 (x.2.1+1) x)))
  |none=>
   bif (WaL m f.1 (Wmz x o.2.2.1)).2.1==4 then(S3 true f,U11 (WaL m f.1 (Wmz x o.2.2.1)) (S10 true x))else
   bif (WaL m f.1 (Wmz x o.2.2.1)).2.1==3 then(f,U14 0 (S13 0 (S12 0 (S11 0 (S10 false (S7 (P7 x++ [(o.2.2.1,((WaL m f.1 (Wmz x o.2.2.1)).2.2.2,-1))]) (S6 (Xe (P6 x) (Xa o.2.1) (WaL m f.1 (Wmz x o.2.2.1)).2.2.2) (S1 (x.2.1+1) x))))))))else
   (f,U11 (WaL m f.1 (Wmz x o.2.2.1)) (S10 true x))
structure ReadOk(m:Mm)(f:Y_Family)(x:Y_KidRun)(o:Int×Int×Int×Int):Prop where
 mem:W0 m=true
 regs:(P6 x).length=4
 famr:(P4 f).length=4
 rA:0<=o.2.1/\o.2.1<=3
 cB:Wau o.2.2.1=true
 seen:(P7 x).length<=1000
 wr:(P8 x).length<=1000
 buf:(P6 f).length<=1000
 ver:∀e∈P6 f,0<=e.2.2
 since:0<=x.2.2.1
 pc:0<=x.2.1/\x.2.1<=1000
 tries:0<=x.2.2.2.1/\x.2.2.2.1<=100000
 pb:P10 x=true->WjJ (Q11 x)=true
theorem ReadOk.pbO{m:Mm}{f:Y_Family}{x:Y_KidRun}{o:Int×Int×Int×Int}(h:ReadOk m f x o):WjJ (Wmz x o.2.2.1)=true:=by
 unfold Wmz;cases hb:P10 x
 .have:=h.cB
  grind [WjJ,Wbf]
 .exact h.pb hb
theorem Wpv{x:Y_KidRun}(h:P10 x=true):S10 true x=x:=by rw[←h];rfl
theorem Wap{a:Int}(h:0<=a/\a<=1000000):Wh .i64 a 1=a+1:=WJ (by unfold I64;omega)
theorem rgI{r:List Int}{a:Int}(h:r.length=4)(ha:0<=a/\a<=3):inb a r.length=true:=by grind [inb]
theorem WgT{N:Nat}{f:Y_Family}{x:Y_KidRun}(h:(P4 f).length=4)(ht:0<=x.2.2.2.1/\x.2.2.2.1<=100000):Zlk N f x=some ((f,()),(again f x,())):=by
 unfold Zlk again;have e:Zj N f.2.2.2.2.1=ret (P4 f):=WcQ (by grind [P4])
 grind [Wap]
theorem We3{N:Nat}{f:Y_Family}{k:Nat}{x:Y_KidRun}(hk:k<(Q9 f).length)(h:(P4 f).length=4)(ht:0<=x.2.2.2.1/\x.2.2.2.1<=100000):
  Zax N (U9 (Xe (Q9 f) k x) f) (k:Int)=some ((Wxf f k (again f x),()),()):=by
 have e0:Zm N (P4 (U9 (Xe (Q9 f) k x) f))=ret (P4 f):=Wbs (show(P4 f).length<=1048576 by omega);have e1:Q9 (U9 (Xe (Q9 f) k x) f)=Xe (Q9 f) k x:=rfl;have lu:k<(Xe (Q9 f) k x).length:=by simp_all
 unfold Zax;rw[e0,e1];have e2:Xc (Xe (Q9 f) k x) (Xa (k:Int)) d_KidRun=x:=by simp_all
 rw[e2,Ww lu,Wap (by omega),Xl];simp only[Wb,ret,Xd,Xct];rfl
theorem Wnn{N:Nat}{m:Mm}{f:Y_Family}{k:Nat}{o:Int×Int×Int×Int}(hk:k<(Q9 f).length)(h:ReadOk m f (Q9 f)[k] o)(hN:1048576<N):
  Zkp N f (k:Int) o m=some ((Wxf (We1 m f (Q9 f)[k] o).1 k (We1 m f (Q9 f)[k] o).2,()),()):=by
 generalize hx:(Q9 f)[k]=x at h;have hw:=h.wr;have hs:=h.seen;have hb:=h.buf;have hr:=h.regs;have ex:Xc (Q9 f) (Xa (k:Int)) d_KidRun=x:=by rw[Wt hk,hx]
 unfold Zkp We1;simp only[Wj];rw[Ww hk,ex,Xl,WeW (show(P8 x).length<=1048576 by omega) hN,Wap (by have:=h.pc;omega)];rcases Wcd (P8 x) o.2.2.1 with _|v
 .simp only[opI,Xd,Wa,Wb];have hE:Zco N (U9 (Xe (Q9 f) k x) f) o.2.2.1=ret (match ent (P6 f) o.2.2.1 with|some r=>(r.1:Int)|none=>-1):=WfS (f:=U9 (Xe (Q9 f) k x) f) (show(P6 f).length<=1048576 by omega) hN;rw[hE,We3 hk h.famr h.tries];rcases he:ent (P6 f) o.2.2.1 with _|r
  .simp only[ret,Xd,show decide ((-1:Int)>=0)=false from rfl,Wa];have hp:=h.pbO;cases hc:P10 x
   .have ly:Wmz x o.2.2.1=(o.2.2.1,(0,(0,0))):=by grind [Wmz]
    have hn:Zgd N o.2.2.1=some ((),((o.2.2.1,(0,(0,0))),(true,()))):=by
     unfold Zgd;simp only[WaH,ret,Xd,h.cB,Xk,Wa]
    rw[ly]at hp⊢;simp only[Bool.not_false,Wb,hn,Wfq h.mem hp hN,ret,Xd,rgI hr h.rA];generalize WaL m f.1 (o.2.2.1,(0,(0,0)))=q;rw[Wq (by simp;omega)];cases q.2.1==4<;>cases q.2.1==3<;>rfl
   .have ly:Wmz x o.2.2.1=Q11 x:=by grind [Wmz]
    rw[ly]at hp⊢;simp only[Xk,Wa,Wfq h.mem hp hN,ret,Xd,rgI hr h.rA,Wb];generalize WaL m f.1 (Q11 x)=q;rw[Wq (by simp;omega),Wpv hc];cases q.2.1==4<;>cases q.2.1==3<;>rfl
  .have hm:=WcK he;have hi:r.1<(P6 f).length:=by omega
   have hg:(P6 f)[r.1]=r.2:=by
    simp_all
   have e2:decide (((r.1:Nat):Int)>=0)=true:=by simp
   simp only[ret,Xd,e2,Wb,Ww hi,rgI hr h.rA];rw[Wt hi,hg,Wq (by simp;omega)];cases decide (r.2.2.2>x.2.2.1)<;>rfl
 .simp only[opI,Xd,Wb,rgI hr h.rA];rfl
end
section
def WoQ{α:Type}(p:Nat->α->Bool):Nat->List α->Bool
 |_,[]=>false
 |j,x::l=>p j x||WoQ p (j+1) l
theorem WdI{α V R:Type}{body:Int->α->V->(V->Option R)->Option R}{K:Int->V->Option R}{p:Nat->α->Bool}{E:V->Option R}:∀(l:List α) (j:Nat) (v:V),(∀(j:Nat) x v k,x∈l->body j x v k=bif p j x then E v else k v)->
  WbT body K l j v=bif WoQ p j l then E v else K ((j+l.length:Nat):Int) v
 | [],j,v,_=>rfl
 |x::l,j,v,h=>by
  rw[WbT,h j x v _ (Xj ..),WdI l (j+1) v λj y v k hy=>h j y v k (Xf _ hy),WoQ]
  grind
theorem Wgc{α:Type}{p:Nat->α->Bool}:∀{l:List α} {j:Nat},WoQ p j l=true↔∃i,∃h:i<l.length,p (j+i) l[i]=true
 | [],j=>by simp[WoQ]
 |x::l,j=>by
  rw[WoQ,Xce,Wgc];constructor
  .rintro(h|⟨i,hi,h⟩)
   .exact⟨0,by simp,by grind⟩
   .exact⟨i+1,by simp_all,by grind⟩
  grind
def opd(o:Opn):Int:=bif o.1==8 then 1 else bif o.1==9 then-1 else 0
theorem WiF(o:Opn):-1<=opd o/\opd o<=1:=by unfold opd;cases o.1==8<;>cases o.1==9<;>simp
def dep(l:List Opn)(j:Nat):Int:=((l.take j).map opd).sum
theorem Wdp(l:List Opn):dep l 0=0:=by simp[dep]
theorem WaC{l:List Opn}{j:Nat}(h:j<l.length):dep l (j+1)=dep l j+opd l[j]:=by
 grind [dep,Xbs]
theorem WF{α:Type}{l:List α}{j:Nat}(h:j<l.length)(d:α):Xc l j d=l[j]:=by simp[h]
theorem Wct(l:List Opn):∀j:Nat,-(j:Int)<=dep l j/\dep l j<=j
 |0=>by simp[dep]
 |j+1=>by
  have ih:=Wct l j;by_cases h:j<l.length
  .have:=WiF l[j]
   grind [WaC]
  grind [dep,List.take_of_length_le]
def bal(l:List Opn):Bool:=!WoQ (λj _=>decide (dep l (j+1)<0)) 0 l&&decide (dep l l.length=0)
theorem Wgl{N:Nat}{o:Opn}:Zl4 N o=ret (opd o):=by
 unfold Zl4 opd;cases o.1==8<;>cases o.1==9<;>rfl
theorem Ww5(x:Int):(x==(0:Int))=decide (x=0):=by by_cases h:x=0<;>simp[h]
theorem Wio{N:Nat}{l:List Opn}(hl:l.length<=1048576)(hN:1048576<N):Zd6 N l=ret (bal l):=by
 unfold Zd6 bal;have h1:=Wx (l:=l) (V:=Unit) (R:=Unit×Ko) (lp:=λn j _=>Zbp N l (some ((),(false,()))) (λmU bc dw=>some ((),(mU==(0:Int),()))) n (dep l j.toNat) j) (n:=N) (by omega)
  (body:=λj _ v k=>bif decide (dep l (j.toNat+1)<0)then some ((),(false,()))else k v) (K:=λj _=>some ((),(dep l j.toNat==(0:Int),())))
  (λn i v hi=>by
   have hb:=Wct l i;have hs:=WaC hi;have ho:=WiF l[i];have e:Wh .i64 (dep l i) (opd l[i])=dep l (i+1):=by rw[WJ (by unfold I64;omega),hs]
   simp only[Zbp,WL hi,Ww hi,Wt hi,WF hi,Wp (show i<4611686018427387904 by omega),Wb,Wgl,ret,Xd,Xl,e])
  (λn v=>by simp[Zbp,WW,Xm,Wa]) ()
 have e0:dep l (Xa 0)=0:=Wdp l;simp only[e0]at h1;refine h1.trans ?_;rw[WdI (p:=λj _=>decide (dep l (j+1)<0)) (E:=λ_=>some ((),(false,()))) l 0 () (λj x v k _=>rfl)];rw[Xaw,Xl,Ww5];cases WoQ (λj _=>decide (dep l (j+1)<0)) 0 l<;>rfl
theorem WlT{N:Nat}{l:List Opn}(hl:l.length<=1048576)(hN:1048576<N){i:Nat}(hi:i<=l.length):Ziw N l (i:Int)=ret (dep l i):=by
 unfold Ziw;have h1:=Wx (l:=l) (V:=Unit) (R:=Unit×Kh) (lp:=λn j _=>Zbx N (i:Int) l (λmV cl fU=>some ((),(mV,()))) n (dep l (min j.toNat i)) j) (n:=N) (by omega)
  (body:=λj _ v k=>k v) (K:=λj _=>some ((),(dep l (min j.toNat i),())))
  (λn j v hj=>by
   have hb:=Wct l j;have ho:=WiF l[j];simp only[Zbx,WL hj,Ww hj,Wt hj,WF hj,Wp (show j<4611686018427387904 by omega),Wb,Wgl,ret,Xd,Xl]
   grind [decide,min,Wh,dep,opd,WJ,I64,WaC])
  (λn v=>by simp[Zbx,WW,Xm,Wa]) ()
 have e0:dep l (min (Xa 0) i)=0:=by
  simp[min,Xa,Wdp]
 simp only[e0]at h1;refine h1.trans ?_;rw[WkX (f:=λv _=>v) l 0 () (λj x v k _=>rfl),Xaw,Xl,Nat.min_eq_right hi]
theorem Wox{N:Nat}{l:List Opn}{a b:Nat}(gh:a<=b)(hb:b<=l.length)(hl:l.length<=1048576)(hN:1048576<N):
  Zaj N l (b:Int) (some ((),(false,()))) (λpf jp az=>some ((),(pf==(0:Int),()))) N 0 (a:Int)=ret (bal ((l.take b).drop a)):=by
 have ad:((l.take b).drop a).length=b-a:=by simp;omega
 unfold bal;have h1:=Wx (l:=(l.take b).drop a) (V:=Unit) (R:=Unit×Ko) (lp:=λn j _=>Zaj N l (b:Int) (some ((),(false,()))) (λpf jp az=>some ((),(pf==(0:Int),()))) n (dep ((l.take b).drop a) j.toNat) ((a+j.toNat:Nat):Int)) (n:=N) (by omega)
  (body:=λj _ v k=>bif decide (dep ((l.take b).drop a) (j.toNat+1)<0)then some ((),(false,()))else k v) (K:=λj _=>some ((),(dep ((l.take b).drop a) j.toNat==(0:Int),())))
  (λn i v hi=>by
   have cA:=Wct ((l.take b).drop a) i;have hs:=WaC hi;have ei:((l.take b).drop a)[i]=l[a+i]:=by simp
   rw[ei]at hs;have fz:a+i<l.length:=by omega
   have e1:decide (((a+i:Nat):Int)<(b:Int))=true:=by simp;omega
   have e2:Wh .i64 ((a+i:Nat):Int) 1=((a+(i+1):Nat):Int):=by grind [WJ,I64]
   have e3:Wh .i64 (dep ((l.take b).drop a) i) 1=dep ((l.take b).drop a) i+1:=WJ (by unfold I64;omega);have e4:WT .i64 (dep ((l.take b).drop a) i) 1=dep ((l.take b).drop a) i+ -1:=by grind [WQ,I64]
   simp only[Zaj,e1,Ww fz,Wt fz,WF fz,e2,e3,e4,Wb,Xl];unfold opd at hs
   grind)
  (λn v=>by
   have e1:decide (((a+(((l.take b).drop a).length:Int).toNat:Nat):Int)<(b:Int))=false:=by simp_all
   simp only[Zaj,e1,Wa]) ()
 have e0:dep ((l.take b).drop a) (Xa 0)=0:=Wdp _;simp only[e0]at h1;refine h1.trans ?_;rw[WdI (p:=λj _=>decide (dep ((l.take b).drop a) (j+1)<0)) (E:=λ_=>some ((),(false,()))) _ 0 () (λj x v k _=>rfl)];rw[Xaw,Xl,Ww5];cases WoQ (λj _=>decide (dep ((l.take b).drop a) (j+1)<0)) 0 ((l.take b).drop a)<;>rfl
def WiD(l:List Opn)(i:Nat)(o:Opn):Bool:=decide (i+1+o.2.2.1.toNat<=l.length)&&bal ((l.take (i+1+o.2.2.1.toNat)).drop (i+1))
def frk(l:List Opn)(j:Nat):Nat:=(l.take j).countP λo=>o.1==11
theorem Wh6{l:List Opn}{j:Nat}(h:j<l.length):frk l (j+1)=frk l j+(l[j].1==11).toNat:=by
 unfold frk;rw[Xbs h,List.countP_append,List.countP_singleton];cases l[j].1==11<;>rfl
theorem WuH(l:List Opn)(j:Nat):frk l j<=l.length:=Xak Xei (by simp;omega)
def WuU(l:List Opn)(i:Nat)(o:Opn):Bool:=
 !WdV o||((o.1==7)&& !WiD l i o)||((o.1==11)&&(decide (dep l i>0)||decide (frk l (i+1)>1)))||decide (dep l (i+1)<0)
def Wrs(l:List Opn)(i:Nat)(o:Opn):Bool:=
 !WdV o||((o.1==7)&& !WiD l i o)||((o.1==11)&&(decide (frk l (i+1)>1)|| !decide (dep l i=0)))
def Wrr(l:List Opn):Bool:=decide (l.length<=24)&&(bal l&& !WoQ (Wrs l) 0 l)
theorem Wp5{l:List Opn}{i:Nat}{o:Opn}(hl:l.length<=24)(hi:i<l.length)(ho:WdV o=true)(h7:o.1=7):
  Wh .i64 ((i+1:Nat):Int) o.2.2.1=((i+1+o.2.2.1.toNat:Nat):Int)/\1<=o.2.2.1/\o.2.2.1<=20:=by
 obtain⟨k,a,b,c⟩:=o;simp only at h7;subst h7;have:(W6 a&&(decide (1<=b)&&decide (b<=20))&&(c==(0:Int)))=true:=ho;simp only[Xi,Wi]at this
 grind [WJ,I64]
theorem Wm1{N:Nat}{l:List Opn}{i:Nat}(hl:l.length<=24)(hN:1048576<N)(hi:i<l.length)(ho:WdV l[i]=true)(h7:l[i].1=7):Zkc N l (i:Int)=ret (WiD l i l[i]):=by
 obtain⟨e1,h1,h2⟩:=Wp5 hl hi ho h7;unfold Zkc WiD;simp only[Ww hi,Wb,Wt hi,WF hi,e1,Wp (show i<4611686018427387904 by omega)];by_cases h:i+1+l[i].2.2.1.toNat<=l.length
 .have e:decide (((i+1+l[i].2.2.1.toNat:Nat):Int)>Wg l)=false:=by simp[Wg];omega
  rw[e];simp only[Wa];rw[Wox (by omega) h (by omega) hN];simp[h]
 grind [decide,Wg]
theorem WoP{l:List Opn}:bal l=true↔(∀i,i<l.length->0<=dep l (i+1))/\dep l l.length=0:=by
 unfold bal;rw[Xi,Xai,←Xfu,Wgc,Wi];simp_all
theorem WnT(l:List Opn):(!WoQ (WuU l) 0 l&&decide (dep l l.length=0))=(bal l&& !WoQ (Wrs l) 0 l):=by
 rw[Bool.eq_iff_iff,Xi,Xi,Xai,Xai,←Xfu,←Xfu,Wgc,Wgc,WoP,Wi];constructor
 .rintro⟨h1,h2⟩;have hd:∀i,i<l.length->0<=dep l (i+1):=λi hi=>by
   grind [dep,absurd,WuU]
  refine⟨⟨hd,h2⟩,?_⟩;rintro⟨i,hi,h⟩;refine h1 ⟨i,hi,?_⟩;have hdi:0<=dep l i:=by
   cases i with
   |zero=>rw[Wdp];omega
   |succ i=>grind
  rw[Xaw]at h⊢;unfold Wrs at h;unfold WuU
  grind
 simp_all [Xaw,WuU,Wrs,Xce,Xi,Wi,Xai,Ws]
theorem WhC{N:Nat}{l:List Opn}(hl:l.length<=1048576)(hN:1048576<N):Zif N l=ret (Wrr l):=by
 unfold Zif Wrr;by_cases h:l.length<=24
 .have e:decide (Wg l>24)=false:=by simp[Wg];omega
  rw[e];simp only[Wa];have h1:=Wx (l:=l) (V:=Unit) (R:=Unit×Ko) (lp:=λn j _=>Zak N l (some ((),(false,()))) (λmR lE sc fM=>some ((),(mR==(0:Int),()))) n (dep l j.toNat) ((frk l j.toNat:Nat):Int) j) (n:=N) (by omega)
   (body:=λj x v k=>bif WuU l j.toNat x then some ((),(false,()))else k v) (K:=λj _=>some ((),(dep l j.toNat==(0:Int),())))
   (λn i v hi=>by
    have hb:=Wct l i;have hs:=WaC hi;have hf:=Wh6 hi;have gT:=WuH l i;have e3:Wh .i64 (dep l i) 1=dep l i+1:=WJ (by unfold I64;omega);have e4:WT .i64 (dep l i) 1=dep l i+ -1:=by grind [WQ,I64]
    have e5:Wh .i64 ((frk l i:Nat):Int) 1=((frk l i+1:Nat):Int):=by grind [WJ,I64]
    simp only[Zak,WL hi,Ww hi,Wt hi,WF hi,Wp (show i<4611686018427387904 by omega),Wb,Xl,Wc0,ret,Xd,e3,e4,e5];unfold WuU;cases ho:WdV l[i]with
    |false=>rfl
    |true=>
     unfold opd at hs;simp only[Xk,Wa,Xff];by_cases h8:l[i].1=8
     .simp_all
     .have b8:(l[i].1==8)=false:=by simp[h8]
      by_cases h9:l[i].1=9
      .simp_all
      .have b9:(l[i].1==9)=false:=by simp[h9]
       by_cases h7:l[i].1=7
       .have b7:(l[i].1==7)=true:=by simp[h7]
        have bR:(l[i].1==11)=false:=by simp[h7]
        have xz:=Wm1 h hN hi ho h7;simp only[b8,b9,b7,bR,Wb,Wa,Xfq,Xbe,Xex,Xcb,Bool.or_false,Int.add_zero,xz,ret,Xd]at hs hf⊢;simp only[hs,hf];cases WiD l i l[i]<;>rfl
       grind)
   (λn v=>by simp[Zak,WW,Xm,Wa]) ()
  have e0:dep l (Xa 0)=0:=Wdp l;have e1:((frk l (Xa 0):Nat):Int)=0:=by simp[frk]
  simp only[e0,e1]at h1;refine h1.trans ?_;rw[WdI (p:=WuU l) (E:=λ_=>some ((),(false,()))) l 0 () (λj x v k _=>by rw[Xl])];rw[Xaw,Xl,Ww5,←WnT];simp only[h,decide_true,Xcb];cases WoQ (WuU l) 0 l<;>rfl
 grind [decide,Wg]
theorem WhG{N:Nat}{l:List Opn}(hl:l.length<=1048576)(hN:1048576<N):Zdl N l=ret (Wrr l):=by
 unfold Zdl Wrr;by_cases h:l.length<=24
 .have e:decide (Wg l>24)=false:=by simp[Wg];omega
  rw[e];simp only[Wa,Wio hl hN,ret,Xd,h,decide_true,Xcb];cases px:bal l with
  |false=>rfl
  |true=>
   simp only[Xk,Wa,Xcb];have h1:=Wx (l:=l) (V:=Unit) (R:=Unit×Ko) (lp:=λn j _=>Zbl N l (some ((),(false,()))) (λlF qx t22=>some ((),(true,()))) n ((frk l j.toNat:Nat):Int) j) (n:=N) (by omega)
    (body:=λj x v k=>bif Wrs l j.toNat x then some ((),(false,()))else k v) (K:=λj _=>some ((),(true,())))
    (λn i v hi=>by
     have hf:=Wh6 hi;have gT:=WuH l i;have e5:Wh .i64 ((frk l i:Nat):Int) 1=((frk l i+1:Nat):Int):=by grind [WJ,I64]
     simp only[Zbl,WL hi,Ww hi,Wt hi,WF hi,Wb,Xl,Wfb,ret,Xd,e5];unfold Wrs;cases ho:WdV l[i]with
     |false=>rfl
     |true=>
      simp only[Xk,Wa,Xff];by_cases h7:l[i].1=7
      .have b7:(l[i].1==7)=true:=by simp[h7]
       have bR:(l[i].1==11)=false:=by simp[h7]
       obtain⟨en,h1,h2⟩:=Wp5 h hi ho h7;simp only[b7,bR,Wb,en,Wp (show i<4611686018427387904 by omega),Xfq,Xbe,Xex,Xcb,Bool.or_false]at hf⊢;simp only[hf];unfold WiD;by_cases hq:i+1+l[i].2.2.1.toNat<=l.length
       .have q1:decide (((i+1+l[i].2.2.1.toNat:Nat):Int)>Wg l)=false:=by simp[Wg];omega
        have q2:(((decide ((0:Int)<=((i+1+l[i].2.2.1.toNat:Nat):Int)))&&(decide (((i+1+l[i].2.2.1.toNat:Nat):Int)<=((Xb l):Int))))&&(decide ((0:Int)<=((i+1:Nat):Int)))&&(decide (((i+1:Nat):Int)<=((i+1+l[i].2.2.1.toNat:Nat):Int))))=true:=by simp;omega
        rw[q1,q2];simp only[Wa,Wb,Xl];rw[Wio (by simp;omega) hN];simp_all
       grind [decide,Wg]
      .have b7:(l[i].1==7)=false:=by simp[h7]
       by_cases gq:l[i].1=11
       .have bR:(l[i].1==11)=true:=by simp[gq]
        simp only[b7,bR,Wb,Wa,Bool.toNat_true,Xex,Xcb,Xff,WlT hl hN (Nat.le_of_lt hi),ret,Xd,Wp (show i<4611686018427387904 by omega)]at hf⊢;simp only[hf];have ef:decide (((frk l i+1:Nat):Int)>1)=decide (frk l i+1>1):=by grind
        have e0:(dep l i !=0)= !decide (dep l i=0):=by rw[bne,Ww5]
        rw[ef,e0];cases decide (frk l i+1>1)<;>cases decide (dep l i=0)<;>rfl
       .have bR:(l[i].1==11)=false:=by simp[gq]
        simp only[b7,bR,Wb,Wa,Xfq,Xbe,Xex,Xff,Wp (show i<4611686018427387904 by omega)]at hf⊢;simp_all)
    (λn v=>by simp[Zbl,WW,Xm,Wa]) ()
   have e1:((frk l (Xa 0):Nat):Int)=0:=by simp[frk]
   simp only[e1]at h1;refine h1.trans ?_;rw[WdI (p:=Wrs l) (E:=λ_=>some ((),(false,()))) l 0 () (λj x v k _=>by rw[Xl])];cases WoQ (Wrs l) 0 l<;>rfl
 grind [decide,Wg]
end
section
def stk(l:List Opn):Nat->List Nat
 |0=>[]
 |j+1=>bif (l.getD j (0,0,0,0)).1==8 then stk l j++ [j]else bif (l.getD j (0,0,0,0)).1==9 then(stk l j).dropLast else stk l j
theorem Wmm{l:List Opn}{j:Nat}(h:j<l.length)(h8:l[j].1=8):stk l (j+1)=stk l j++ [j]:=by
 grind [stk,WF]
theorem Wn7{l:List Opn}{j:Nat}(h:j<l.length)(h9:l[j].1=9):stk l (j+1)=(stk l j).dropLast:=by
 grind [stk,WF]
theorem WgI{l:List Opn}{j:Nat}(h:j<l.length)(h8:l[j].1≠8)(h9:l[j].1≠9):stk l (j+1)=stk l j:=by
 grind [stk,WF]
theorem WtZ{o:Opn}(h:o.1=8):opd o=1:=by unfold opd;simp[h]
theorem Wl4{o:Opn}(h:o.1=9):opd o= -1:=by unfold opd;simp[h]
theorem Wui{o:Opn}(h8:o.1≠8)(h9:o.1≠9):opd o=0:=by
 grind [opd]
theorem Wcf{α:Type}(l:List α):l= []\/∃q x,l=q++ [x]:=by
 rcases List.eq_nil_or_concat l with h|⟨q,x,h⟩
 .grind
 simp_all
def Up(l:List Opn):Prop:=∀i,i<l.length->0<=dep l (i+1)
theorem Up.at{l:List Opn}(h:Up l){j:Nat}(hj:j<=l.length):0<=dep l j:=by
 cases j with
 |zero=>rw[Wdp];omega
 |succ j=>exact h j hj
theorem Wa3{l:List Opn}(h:Up l):∀j,j<=l.length->((stk l j).length:Int)=dep l j
 |0,_=>by rw[Wdp];rfl
 |j+1,hj=>by
  have eF:j<l.length:=hj;have ih:=Wa3 h j (by omega);have hd:=WaC eF;have hu:=h j eF
  grind [Wmm,WtZ,Xaa,Wn7,Wl4,Xda,WgI,Wui]
theorem Wlg{l:List Opn}:∀(j:Nat),j<=l.length->∀(s t:List Nat) (m:Nat),stk l j=s++m::t->
  m<j/\(∃h:m<l.length,l[m].1=8)/\stk l m=s/\∀i,m<i->i<=j->∃t',stk l i=s++m::t'
 |0,_,s,t,m,h=>by simp[stk]at h
 |j+1,hj,s,t,m,h=>by
  have eF:j<l.length:=hj;have ih:=Wlg (l:=l) j (by omega);have next:∀t0,stk l j=s++m::t0->m<j+1/\(∃h:m<l.length,l[m].1=8)/\stk l m=s/\∀i,m<i->i<=j+1->∃t',stk l i=s++m::t':=λt0 h0=>by
   grind
  by_cases h8:l[j].1=8
  .rw[Wmm eF h8]at h;rcases Wcf t with rfl|⟨t0,x,rfl⟩
   .obtain⟨e1,e2⟩:=Xeh (h:stk l j++ [j]=s++ [m]) rfl
    grind [Wmm]
   .have h2:stk l j++ [j]=(s++m::t0)++ [x]:=by rw[h,Xbf,Xbc]
    obtain⟨e1,e2⟩:=Xeh h2 rfl
    grind [stk,Wmm]
  .by_cases h9:l[j].1=9
   .rw[Wn7 eF h9]at h;rcases Wcf (stk l j)with h0|⟨q,x,hq⟩
    .simp_all
    simp_all
   grind [WgI]
theorem Wpw{l:List Opn}{a b:Nat}(gh:a<=b)(hb:b<=l.length)(px:bal ((l.take b).drop a)=true):stk l b=stk l a:=by
 obtain⟨h1,h2⟩:=WoP.1 px;have ad:((l.take b).drop a).length=b-a:=by simp;omega
 have key:∀i,i<=b-a->∃t,stk l (a+i)=stk l a++t/\(t.length:Int)=dep ((l.take b).drop a) i:=by
  intro i
  induction i with
  |zero=>simp[Wdp]
  |succ i ih=>
   intro hi;obtain⟨t,xA,xB⟩:=ih (by omega);have fz:a+i<l.length:=by omega
   have rW:i<((l.take b).drop a).length:=by omega
   have hd:=WaC rW;have ei:((l.take b).drop a)[i]=l[a+i]:=by simp
   rw[ei]at hd;have hu:=h1 i rW;by_cases h8:l[a+i].1=8
   .grind [Xba,Wmm,WtZ,Xaa]
   .by_cases h9:l[a+i].1=9
    .grind [Wl4,Xba,Wn7,List.dropLast_append_of_ne_nil,Xda]
    grind [Xba,WgI,Wui]
 obtain⟨t,xA,xB⟩:=key (b-a) (Xm _);simp_all
structure Mate(l:List Opn)(m k:Nat):Prop where
 lt:m<k
 len:k<l.length
 eq:dep l (k+1)=dep l m
 ne:∀i,m<=i->i<k->dep l (i+1)≠dep l m
 st:stk l (k+1)=stk l m
theorem WvW{l:List Opn}(hu:Up l)(h0:dep l l.length=0){j m:Nat}{s:List Nat}(hj:j<=l.length)(hs:stk l j=s++ [m]):∃k,j<=k/\Mate l m k/\stk l m=s:=by
 obtain⟨a,⟨hm,h8⟩,c,d⟩:=Wlg j hj s [] m hs;have nc:=Wa3 hu m (by omega);have low:∀i,m<=i->i<j->dep l (i+1)≠dep l m:=λi h1 h2=>by
  grind [Wa3]
 have dq:=hu.at (show m<=l.length by omega);have ex:∀n i,l.length-i=n->j<=i->i<=l.length->(∀i',m<=i'->i'<i->dep l (i'+1)≠dep l m)->dep l m<dep l i->∃k,j<=k/\k<l.length/\dep l (k+1)=dep l m/\∀i',m<=i'->i'<k->dep l (i'+1)≠dep l m:=by
  intro n
  induction n with
  |zero=>grind
  |succ n ih=>
   intro i h1 h2 h3 h4 h5;have fz:i<l.length:=by omega
   by_cases he:dep l (i+1)=dep l m
   .grind
   .have hd:=WaC fz;have ho:=WiF l[i]
    grind
 have lv:dep l m<dep l j:=by
  grind [Wa3]
 obtain⟨k,k1,k2,k3,k4⟩:=ex _ j rfl (Xm _) hj low lv;have oe:m<k:=by omega
 have pre:∀n i,i=m+1+n->i<=k->∃t,stk l i=s++m::t:=by
  intro n
  induction n with
  |zero=>grind
  |succ n ih=>
   intro i h1 h2;obtain⟨t,ht⟩:=ih (m+1+n) rfl (by omega);have e:i=(m+1+n)+1:=by omega
   have fz:m+1+n<l.length:=by omega
   by_cases g8:l[m+1+n].1=8
   .grind [Wmm]
   .by_cases g9:l[m+1+n].1=9
    .rcases Wcf t with rfl|⟨t0,x,rfl⟩
     .grind [Wn7,stk,Wa3]
     grind [Wn7,Xen]
    grind [WgI]
 obtain⟨t,ht⟩:=pre (k-m-1) k (by omega) (Xm _);have uJ:=Wa3 hu k (by omega);have xC:=WaC k2;rw[ht]at uJ;rw[c]at nc;simp at uJ;have ci:=WiF l[k];have g9:l[k].1=9:=by
  grind [WtZ,Wui]
 have xD:t= []:=List.eq_nil_of_length_eq_zero (by omega);subst xD;refine⟨k,k1,⟨oe,k2,k3,k4,?_⟩,c⟩
 grind [Wn7]
theorem Wma{l:List Opn}{m i:Nat}:((dep l (i+1) -dep l m)==(0:Int))=decide (dep l (i+1)=dep l m):=by
 grind
theorem Wjd{N:Nat}{l:List Opn}{m k:Nat}(hl:l.length<=1048576)(hN:1048576<N)(h8:∃h:m<l.length,l[m].1=8)(hm:Mate l m k):Zjo N l (m:Int)=ret (k:Int):=by
 obtain⟨kX,h8⟩:=h8;unfold Zjo;have e1:WT .i64 (Wg l) 1=(l.length:Int) -1:=WQ (by unfold I64 Wg;omega);have e2:(decide (0<=(m:Int))&&decide ((m:Int)<=(l.length:Int) -1))=true:=by simp;omega
 have e3:(l[m].1 !=8)=false:=by simp[h8]
 simp only[W1,ret,Xd,e1,e2,Xk,Wa,Ww kX,Wb,Wt kX,e3];have key:∀(c n i:Nat),k-i=c->m<=i->i<=k->l.length-i<n->∀{R:Type} (K0:Int->Option R) (K1:Int->Int->Bool->Option R),Zfg N l K0 K1 n (dep l i-dep l m) (i:Int)=K0 k:=by
  intro c
  induction c with
  |zero=>
   intro n i h1 h2 h3 h4 R K0 K1;have:i=k:=by omega
   subst this;cases n with
   |zero=>omega
   |succ n=>
    have fz:=hm.len;have hd:=WaC fz;have hb:=Wct l i;have ik:=Wct l m;have ho:=WiF l[i];have e:Wh .i64 (dep l i-dep l m) (opd l[i])=dep l (i+1) -dep l m:=by grind [WJ,I64]
    simp only[Zfg,WL fz,Ww fz,Wt fz,Wb,Wgl,ret,Xd,e];rw[Wma];simp[hm.eq]
  |succ c ih=>
   intro n i h1 h2 h3 h4 R K0 K1;cases n with
   |zero=>omega
   |succ n=>
    have hk:=hm.len;have fz:i<l.length:=by omega
    have hd:=WaC fz;have hb:=Wct l i;have ik:=Wct l m;have ho:=WiF l[i];have e:Wh .i64 (dep l i-dep l m) (opd l[i])=dep l (i+1) -dep l m:=by grind [WJ,I64]
    have bI:=hm.ne i h2 (by omega);simp only[Zfg,WL fz,Ww fz,Wt fz,Wb,Wgl,ret,Xd,e,Wma,bI,decide_false,Wa,Wp (show i<4611686018427387904 by omega)];exact ih n (i+1) (by omega) (by omega) (by omega) (by omega) K0 K1
 have:=key (k-m) N m rfl (Xm _) (by have:=hm.lt;omega) (by omega) (R:=Unit×Kh) (λbc=>some ((),(bc,()))) (λmV lg fU=>some ((),((-1:Int),())));simp_all
theorem Wjf{N:Nat}{l:List Opn}{m k:Nat}(hl:l.length<=1048576)(hN:1048576<N)(h8:∃h:m<l.length,l[m].1=8)(hm:Mate l m k):Zjm N l (m:Int)=ret (k:Int):=by
 obtain⟨kX,h8⟩:=h8;unfold Zjm;have e1:decide ((m:Int)<0)=false:=by simp
 have e2:decide ((m:Int)>=Wg l)=false:=by simp[Wg];omega
 have e3:(l[m].1 !=8)=false:=by simp[h8]
 simp only[e1,e2,Wa,Ww kX,Wb,Wt kX,e3];have step:∀(n i:Nat) (fz:i<l.length) {R:Type} (K0:Int->Option R) (K1:Int->Int->Bool->Option R),m<=i->Zar N l K0 K1 (n+1) (dep l i-dep l m) (i:Int)=
   bif decide (dep l (i+1)=dep l m)then K0 i else Zar N l K0 K1 n (dep l (i+1) -dep l m) ((i+1:Nat):Int):=by
  intro n i fz R K0 K1 qr;have hd:=WaC fz;have hb:=Wct l i;have ik:=Wct l m;have s1:Wh .i64 (dep l i-dep l m) 1=dep l i-dep l m+1:=WJ (by unfold I64;omega);have s2:WT .i64 (dep l i-dep l m) 1=dep l i-dep l m-1:=WQ (by unfold I64;omega);simp only[Zar,WL fz,Ww fz,Wt fz,Wb,Wp (show i<4611686018427387904 by omega),s1,s2];by_cases g8:l[i].1=8
  .have b8:(l[i].1==8)=true:=by simp[g8]
   have b9:(l[i].1==9)=false:=by simp[g8]
   have e:dep l i-dep l m+1=dep l (i+1) -dep l m:=by grind [WtZ]
   grind
  .have b8:(l[i].1==8)=false:=by simp[g8]
   by_cases g9:l[i].1=9
   .have b9:(l[i].1==9)=true:=by simp[g9]
    have e:dep l i-dep l m-1=dep l (i+1) -dep l m:=by grind [Wl4]
    grind
   .have b9:(l[i].1==9)=false:=by simp[g9]
    have e:dep l i-dep l m=dep l (i+1) -dep l m:=by grind [Wui]
    simp only[b8,b9,Wb,Wa];rw[e,Wma]
 have key:∀(c n i:Nat),k-i=c->m<=i->i<=k->l.length-i<n->∀{R:Type} (K0:Int->Option R) (K1:Int->Int->Bool->Option R),Zar N l K0 K1 n (dep l i-dep l m) (i:Int)=K0 k:=by
  intro c
  induction c with
  |zero=>
   intro n i h1 h2 h3 h4 R K0 K1;have:i=k:=by omega
   subst this;cases n with
   |zero=>omega
   |succ n=>rw[step n i hm.len K0 K1 h2];simp[hm.eq]
  |succ c ih=>
   intro n i h1 h2 h3 h4 R K0 K1;cases n with
   |zero=>omega
   |succ n=>
    have hk:=hm.len;have bI:=hm.ne i h2 (by omega);rw[step n i (by omega) K0 K1 h2];simp only[bI,decide_false,Wa];exact ih n (i+1) (by omega) (by omega) (by omega) (by omega) K0 K1
 have:=key (k-m) N m rfl (Xm _) (by have:=hm.lt;omega) (by omega) (R:=Unit×Kh) (λbc=>some ((),(bc,()))) (λmV lg fU=>some ((),((-1:Int),())));simp_all
end
section
theorem WpJ{N:Nat}{o:Opn}:∃t:Int,Za1 N o=ret t/\Ziv N o=ret t:=by
 unfold Za1 Ziv;rw[Wc0,Wfb];simp only[ret,Xd];cases WdV o
 .simp_all
 .cases o.1==5<;>cases o.1==6<;>cases o.1==12<;>cases o.1==13<;>cases o.1==14<;>cases o.1==15<;>cases o.1==16<;>exact⟨_,rfl,rfl⟩
noncomputable def Wkd(o:Opn):Int:=match Za1 0 o with|some (_,(t,_))=>t|none=>0
theorem WwF{N:Nat}{o:Opn}:Za1 N o=Za1 0 o:=by
 unfold Za1;rw[Wc0,Wc0]
theorem WbP{N:Nat}{o:Opn}:Za1 N o=ret (Wkd o):=by
 rw[WwF];obtain⟨t,h,_⟩:=WpJ (N:=0) (o:=o);unfold Wkd;rw[h]
theorem Wgk{N:Nat}{o:Opn}:Ziv N o=ret (Wkd o):=by
 obtain⟨t,h,h2⟩:=WpJ (N:=N) (o:=o);rw[h2,←h,WbP]
noncomputable def Wgt(o:Opn):Bool:=(o.1==11)||(Wkd o==2)
noncomputable def Whe(l:List Opn):Bool:=Wrr l&& !l.any Wgt
theorem Whx{N:Nat}{l:List Opn}(hl:l.length<=1048576)(hN:1048576<N):Zg5 N l=ret (l.any λo=>o.1==11):=by
 unfold Zg5;have h1:=Wx (l:=l) (V:=Unit) (R:=Unit×Ko) (lp:=λn j v=>Zcz N l (some ((),(true,()))) (λi8 t9=>some ((),(false,()))) n j) (n:=N) (by omega)
  (body:=λj x v k=>bif x.1==11 then some ((),(true,()))else k v) (K:=λ_ v=>some ((),(false,())))
  (λn i v hi=>by simp only[Zcz,WL hi,Ww hi,Wt hi,Wp (show i<4611686018427387904 by omega),Wb])
  (λn v=>by simp[Zcz,WW,Xm,Wa]) ()
 refine h1.trans ?_;rw[W7 (p:=λx:Opn=>x.1==11) (E:=λ_=>some ((),(true,()))) l 0 () (λj x v k _=>rfl)];cases l.any λo:Opn=>o.1==11<;>rfl
theorem Wo5{N:Nat}{l:List Opn}(hl:l.length<=1048576)(hN:1048576<N):Zjl N l=ret (Whe l):=by
 unfold Zjl Whe;simp only[WhC hl hN,ret,Xd];cases Wrr l with
 |false=>rfl
 |true=>
  simp only[Whx hl hN,ret,Xd,Xk,Wa,Xcb];have h1:=Wx (l:=l) (V:=Unit) (R:=Unit×Ko) (lp:=λn j v=>Zfb N l (some ((),(false,()))) (λi8 t9=>some ((),(true,()))) n j) (n:=N) (by omega)
   (body:=λj x v k=>bif Wkd x==2 then some ((),(false,()))else k v) (K:=λ_ v=>some ((),(true,())))
   (λn i v hi=>by simp only[Zfb,WL hi,Ww hi,Wt hi,Wp (show i<4611686018427387904 by omega),Wb,WbP,ret,Xd])
   (λn v=>by simp[Zfb,WW,Xm,Wa]) ()
  (try simp only[]at h1)
  rw[h1,W7 (p:=λx=>Wkd x==2) (E:=λ_=>some ((),(false,()))) l 0 () (λj x v k _=>rfl)];have e:l.any Wgt=((l.any λo=>o.1==11)||l.any λo=>Wkd o==2):=by
   grind [Wgt,Wkd]
  rw[e];cases l.any λo:Opn=>o.1==11<;>cases l.any λo=>Wkd o==2<;>rfl
theorem Wpi{N:Nat}{l:List Opn}(hl:l.length<=1048576)(hN:1048576<N):Zjn N l=ret (Whe l):=by
 unfold Zjn Whe;have h1:=Wx (l:=l) (V:=Unit) (R:=Unit×Ko) (lp:=λn j v=>Zfd N l (some ((),(false,()))) (λaq az=>((Zdl N l).bind λbZ=>(some ((),(bZ.2.1,()))))) n j) (n:=N) (by omega)
  (body:=λj x v k=>bif Wgt x then some ((),(false,()))else k v) (K:=λ_ v=>ret (Wrr l))
  (λn i v hi=>by
   simp only[Zfd,WL hi,Ww hi,Wt hi,Wp (show i<4611686018427387904 by omega),Wb,Wgk,ret,Xd,Wgt];cases l[i].1==11<;>rfl)
  (λn v=>by simp_all [Zfd,WW,Xm,Wa,WhG,ret,Xd]) ()
 refine h1.trans ?_;rw[W7 (p:=Wgt) (E:=λ_=>some ((),(false,()))) l 0 () (λj x v k _=>rfl)];cases l.any Wgt<;>cases Wrr l<;>rfl
def WcP(l:List Int):Bool:=decide (l.length=4)&&l.all Wbf
theorem Wdo{N:Nat}{l:List Int}(hl:l.length<=1048576)(hN:1048576<N):Zcf N l=ret (WcP l):=by
 unfold Zcf WcP;by_cases h:l.length=4
 .have e:(Wg l !=4)=false:=by simp[Wg,h]
  rw[e];simp only[Wa];have h1:=Wx (l:=l) (V:=Unit) (R:=Unit×Ko) (lp:=λn j v=>Zd2 N l (some ((),(false,()))) (λi8 t9=>some ((),(true,()))) n j) (n:=N) (by omega)
   (body:=λj x v k=>bif !Wbf x then some ((),(false,()))else k v) (K:=λ_ v=>some ((),(true,())))
   (λn i v hi=>by simp only[Zd2,WL hi,Ww hi,Wt hi,Wp (show i<4611686018427387904 by omega),Wb,Wak,ret,Xd])
   (λn v=>by simp[Zd2,WW,Xm,Wa]) ()
  refine h1.trans ?_;rw[W7 (p:=λx=>!Wbf x) (E:=λ_=>some ((),(false,()))) l 0 () (λj x v k _=>rfl),Wbm];cases l.all Wbf<;>simp[h]
 grind [Wg]
theorem Wdk{N:Nat}{l:List Int}(hl:l.length<=1048576)(hN:1048576<N):Z3 N l 4=ret (WcP l):=by
 unfold Z3 WcP;have h1:=Wx (l:=l) (V:=Unit) (R:=Unit×Ko) (lp:=λn j v=>Zag N l 4 (some ((),(false,()))) (λi8 t9=>some ((),((Wg l)==(4:Int),()))) n j) (n:=N) (by omega)
  (body:=λj x v k=>bif !Wbf x then some ((),(false,()))else k v) (K:=λ_ v=>some ((),((Wg l)==(4:Int),())))
  (λn i v hi=>by simp only[Zag,WL hi,Ww hi,Wt hi,Wp (show i<4611686018427387904 by omega),Wb,Waz,ret,Xd])
  (λn v=>by simp[Zag,WW,Xm,Wa]) ()
 refine h1.trans ?_;rw[W7 (p:=λx=>!Wbf x) (E:=λ_=>some ((),(false,()))) l 0 () (λj x v k _=>rfl),Wbm];have e:((Wg l)==(4:Int))=decide (l.length=4):=by
  grind [Wg]
 rw[e];cases l.all Wbf<;>simp
end
section
section
variable{o:Opn}
theorem Wo2(h:WdV o=true)(h1:1<=o.1)(h4:o.1<=4):W6 o.2.1=true/\(o.1=1->Wbf o.2.2.1=true)/\(o.1≠1->W6 o.2.2.1=true/\W6 o.2.2.2=true):=by
 obtain⟨k,a,b,c⟩:=o;simp only at h1 h4;have:k=1\/k=2\/k=3\/k=4:=by omega
 rcases this with rfl|rfl|rfl|rfl
 .have:(W6 a&&Wbf b&&(c==(0:Int)))=true:=h;simp_all
 all_goals
  have:(W6 a&&W6 b&&W6 c)=true:=h;simp_all
theorem Wwh(h:WdV o=true)(h5:o.1=5):W6 o.2.1=true/\Wau o.2.2.1=true:=by
 obtain⟨k,a,b,c⟩:=o;simp only at h5;subst h5;have:(W6 a&&Wau b&&(c==(0:Int)))=true:=h;simp_all
theorem Wwf(h:WdV o=true)(h5:o.1=6):Wau o.2.1=true/\W6 o.2.2.1=true:=by
 obtain⟨k,a,b,c⟩:=o;simp only at h5;subst h5;have:(Wau a&&W6 b&&(c==(0:Int)))=true:=h;simp_all
theorem Wwg(h:WdV o=true)(h5:o.1=7):W6 o.2.1=true/\1<=o.2.2.1/\o.2.2.1<=20:=by
 obtain⟨k,a,b,c⟩:=o;simp only at h5;subst h5;have:(W6 a&&(decide (1<=b)&&decide (b<=20))&&(c==(0:Int)))=true:=h;simp_all
theorem WuQ(h:WdV o=true)(h5:o.1=8):W6 o.2.1=true:=by
 obtain⟨k,a,b,c⟩:=o;simp only at h5;subst h5;have:(W6 a&&(b==(0:Int))&&(c==(0:Int)))=true:=h;simp_all
theorem Wj8(h:WdV o=true):1<=o.1/\o.1<=16:=by
 by_cases hk:1<=o.1/\o.1<=16
 .exact hk
 .exfalso;have e:∀n:Int,1<=n->n<=16->(o.1==n)=false:=λn h1 h2=>by simp;omega
  simp_all [WdV]
end
theorem WS{x:Int}{l:List Int}(h:W6 x=true)(hl:l.length=4):inb x l.length=true:=by
 grind [W6,inb]
structure Vals(n:Nat)(l:List Int):Prop where
 len:l.length=n
 val:∀x∈l,0<=x/\x<=65535
theorem Vals.get{n:Nat}{l:List Int}(h:Vals n l)(i:Nat):0<=l.getD i 0/\l.getD i 0<=65535:=by
 by_cases hi:i<l.length
 .rw[WF hi];exact h.val _ (Xv hi)
 simp_all
theorem Vals.set{n:Nat}{l:List Int}(h:Vals n l)(i:Nat){x:Int}(hx:0<=x/\x<=65535):Vals n (l.set i x):=
 ⟨by rw[Xat];exact h.len,λy hy=>by
  rcases List.mem_or_eq_of_mem_set hy with hy|hy
  .exact h.val y hy
  omega⟩
theorem Wao{x:Int}:Wbf x=true↔0<=x/\x<=65535:=by unfold Wbf;simp
theorem Wcn{l:List Int}:WcP l=true↔Vals 4 l:=by
 unfold WcP;rw[Xi,Wi,Xad];exact⟨λh=>⟨h.1,λx hx=>Wao.1 (h.2 x hx)⟩,λh=>⟨h.len,λx hx=>Wao.2 (h.val x hx)⟩⟩
theorem Wlc{l:List Int}:Wdr l=true↔Vals 8 l:=by
 unfold Wdr;rw[Xi,Wi,Xad];exact⟨λh=>⟨h.1,λx hx=>Wao.1 (h.2 x hx)⟩,λh=>⟨h.len,λx hx=>Wao.2 (h.val x hx)⟩⟩
def Wne(o:Opn)(r:List Int):List Int:=
 bif o.1==1 then r.set o.2.1.toNat o.2.2.1 else
 bif o.1==2 then r.set o.2.1.toNat ((r.getD o.2.2.1.toNat 0+r.getD o.2.2.2.toNat 0)%65536)else
 bif o.1==3 then r.set o.2.1.toNat ((r.getD o.2.2.1.toNat 0-r.getD o.2.2.2.toNat 0+65536)%65536)else
 bif decide (r.getD o.2.2.1.toNat 0<r.getD o.2.2.2.toNat 0)then r.set o.2.1.toNat 1 else r.set o.2.1.toNat 0
theorem WaB{x:Int}(h:0<=x):Wdj x 65536=x%65536:=by grind [Wdj,Int.tmod_eq_emod_of_nonneg]
theorem Wmr{o:Opn}{r:List Int}(h:WdV o=true)(h1:1<=o.1)(h4:o.1<=4)(hr:Vals 4 r):Vals 4 (Wne o r):=by
 obtain⟨_,hv,_⟩:=Wo2 h h1 h4;unfold Wne;cases e1:o.1==1
 .cases o.1==2
  .cases o.1==3
   .cases decide (r.getD o.2.2.1.toNat 0<r.getD o.2.2.2.toNat 0)
    .exact hr.set _ (by omega)
    .exact hr.set _ (by omega)
   .exact hr.set _ (by omega)
  .exact hr.set _ (by omega)
 .exact hr.set _ (Wao.1 (hv (by simp_all)))
section
variable{N:Nat}{o:Opn}{r:List Int}
theorem Whr(hN:1048576<N)(h:WdV o=true)(h1:1<=o.1)(h4:o.1<=4)(hr:Vals 4 r):Zpo N o r=some ((),(Wne o r,(true,()))):=by
 obtain⟨ha,hv,sY⟩:=Wo2 h h1 h4;unfold Zpo Zm;have e0:Wz r.length=true:=Wq (by rw[hr.len];omega);have e4:decide (o.1>4)=false:=by simp;omega
 have e5:WcP r=true:=Wcn.2 hr;have ea:=WS ha hr.len;have ez:inz 65536=true:=rfl;have gb:=hr.get o.2.2.1.toNat;have gc:=hr.get o.2.2.2.toNat;simp only[e0,Wb,Xd,Wfb,ret,h,Xk,Wa,e4,Wdk (l:=r) (by rw[hr.len];omega) hN,e5,ea,ez];unfold Wne;by_cases k1:o.1=1
 .simp_all
 .have b:(o.1==1)=false:=by simp[k1]
  obtain⟨hb,hc⟩:=sY k1;rw[b];simp only[Wa,WS hb hr.len,WS hc hr.len,Wb,Xat,ea];have s1:Wh .i64 (r.getD o.2.2.1.toNat 0) (r.getD o.2.2.2.toNat 0)=r.getD o.2.2.1.toNat 0+r.getD o.2.2.2.toNat 0:=WJ (by unfold I64;omega);have s2:WT .i64 (r.getD o.2.2.1.toNat 0) (r.getD o.2.2.2.toNat 0)=r.getD o.2.2.1.toNat 0-r.getD o.2.2.2.toNat 0:=WQ (by unfold I64;omega);have s3:Wh .i64 (r.getD o.2.2.1.toNat 0-r.getD o.2.2.2.toNat 0) 65536=r.getD o.2.2.1.toNat 0-r.getD o.2.2.2.toNat 0+65536:=WJ (by unfold I64;omega);rw[s1,s2,s3,WaB (by omega),WaB (by omega)];cases o.1==2
  .cases o.1==3
   .simp only[Wa,Wj,Xct];cases decide (r.getD o.2.2.1.toNat 0<r.getD o.2.2.2.toNat 0)<;>rfl
   .rfl
  .rfl
theorem Wht(hN:1048576<N)(h:WdV o=true)(h1:1<=o.1)(h4:o.1<=4)(hr:Vals 4 r):Zpn N o r=some ((),(Wne o r,(true,()))):=by
 obtain⟨ha,hv,sY⟩:=Wo2 h h1 h4;unfold Zpn;have e0:Wz (([]:List Int).length+r.length)=true:=Wq (by rw[hr.len];simp);have e4:decide (o.1>4)=false:=by simp;omega
 have e5:WcP r=true:=Wcn.2 hr;have ea:=WS ha hr.len;have ez:inz 65536=true:=rfl;have en:Xh ([]:List Int) r=r:=rfl;have gb:=hr.get o.2.2.1.toNat;have gc:=hr.get o.2.2.2.toNat;simp only[e0,Wb,Xd,Wc0,ret,h,Xk,Wa,e4,Wdo (l:=r) (by rw[hr.len];omega) hN,e5,ea,ez,en];unfold Wne;by_cases k1:o.1=1
 .simp_all
 .have b:(o.1==1)=false:=by simp[k1]
  obtain⟨hb,hc⟩:=sY k1;rw[b];simp only[Wa,WS hb hr.len,WS hc hr.len,Wb,Xat,ea];have s1:Wh .i64 (r.getD o.2.2.1.toNat 0) (r.getD o.2.2.2.toNat 0)=r.getD o.2.2.1.toNat 0+r.getD o.2.2.2.toNat 0:=WJ (by unfold I64;omega);have s2:WT .i64 (r.getD o.2.2.1.toNat 0) (r.getD o.2.2.2.toNat 0)=r.getD o.2.2.1.toNat 0-r.getD o.2.2.2.toNat 0:=WQ (by unfold I64;omega);have s3:Wh .i64 (r.getD o.2.2.1.toNat 0-r.getD o.2.2.2.toNat 0) 65536=r.getD o.2.2.1.toNat 0-r.getD o.2.2.2.toNat 0+65536:=WJ (by unfold I64;omega);rw[s1,s2,s3,WaB (by omega),WaB (by omega)];cases o.1==2
  .cases o.1==3
   .simp only[Wa,Wj,Xct];cases decide (r.getD o.2.2.1.toNat 0<r.getD o.2.2.2.toNat 0)<;>rfl
   .rfl
  .rfl
end
def WjA(l:List Rw):Prop:=∀r∈l,(0<=r.1/\r.1<=7)/\0<=r.2/\r.2<=65535
theorem Wig{l:List Rw}:l.all Wiy=true↔WjA l:=by
 simp[Xad,WjA,Wiy,Wau,Wbf]
theorem Wmk{N:Nat}{l:List Int}(h:l.length<=1048576):Zhe N l=ret l:=by
 simp_all [Zhe,Xby,Xaw,Wp3,Wb]
theorem Wcu{N:Nat}{l:List Int}(h:l.length<=1048576):Zm N l=ret l:=by
 simp_all [Zm,Wp3,Wb]
end
section
structure Lin{α:Type}(cf:α->α->Int):Prop where
 irr:∀x,¬cf x x<0
 tr:∀x y z,cf x y<0->cf y z<0->cf x z<0
 nt:∀x y z,¬cf x y<0->¬cf y z<0->¬cf x z<0
theorem WuS:Lin cfE:=⟨λx=>by unfold cfE;omega,λx y z=>by unfold cfE;omega,λx y z=>by unfold cfE;omega⟩
theorem WpW:Lin cfH:=⟨λx=>by rw[Wbk];omega,λx y z=>by simp only[Wbk];omega,λx y z=>by simp only[Wbk];omega⟩
def Ris{α:Type}(cf:α->α->Int)(l:List α):Prop:=l.Pairwise λa b=>cf a b<0
def WbH{α:Type}(cf:α->α->Int):List α->α->List α
 | [],e=>[e]
 |x::l,e=>if cf x e<0 then x::WbH cf l e else if cf e x<0 then e::x::l else e::l
def Ap{α:Type}(cf:α->α->Int)(x y:α):Prop:=cf x y<0\/cf y x<0
variable{α:Type}{cf:α->α->Int}
theorem Lin.ap(h:Lin cf){x y:α}(hn:¬Ap cf x y){z:α}:(cf x z<0↔cf y z<0)/\(cf z x<0↔cf z y<0):=by
 unfold Ap at hn;refine⟨⟨λa=>?_,λa=>?_⟩,⟨λa=>?_,λa=>?_⟩⟩
 .exact Classical.byContradiction λc=>h.nt x y z (λq=>hn (.inl q)) c a
 .exact Classical.byContradiction λc=>h.nt y x z (λq=>hn (.inr q)) c a
 .exact Classical.byContradiction λc=>h.nt z y x c (λq=>hn (.inr q)) a
 .exact Classical.byContradiction λc=>h.nt z x y c (λq=>hn (.inl q)) a
theorem Wn2:∀(l:List α) (e:α),(WbH cf l e).length<=l.length+1
 | [],e=>by simp[WbH]
 |x::l,e=>by
  have:=Wn2 l e;unfold WbH
  grind
theorem Wcv(hc:Lin cf){e x:α}:∀{l:List α},Ris cf l->(x∈WbH cf l e↔x=e\/(x∈l/\Ap cf x e))
 | [],_=>by simp[WbH]
 |y::l,h=>by
  have hl:=(Xy.1 h);unfold WbH;by_cases h1:cf y e<0
  .rw[Wf h1,Xs,Wcv hc hl.2,Xs];refine⟨?_,?_⟩
   .rintro(rfl|h|h)
    .exact .inr ⟨.inl rfl,.inl h1⟩
    .grind
    simp_all
   grind
  .rw[Wc h1];by_cases h2:cf e y<0
   .rw[Wf h2];simp only[Xs];refine⟨?_,?_⟩
    .rintro(h|rfl|h)
     .grind
     .exact .inr ⟨.inl rfl,.inr h2⟩
     .exact .inr ⟨.inr h,.inr (hc.tr _ _ _ h2 (hl.1 x h))⟩
    grind
   .rw[Wc h2];simp only[Xs];have hn:¬Ap cf y e:=by unfold Ap;omega
    refine⟨?_,?_⟩
    .rintro(h|h)
     .grind
     .exact .inr ⟨.inr h,.inr ((hc.ap hn).1.1 (hl.1 x h))⟩
    grind
theorem Wcy(hc:Lin cf){e:α}:∀{l:List α},Ris cf l->Ris cf (WbH cf l e)
 | [],_=>by simp[WbH,Ris]
 |y::l,h=>by
  have hl:=(Xy.1 h);unfold WbH;by_cases h1:cf y e<0
  .rw[Wf h1];refine Xy.2 ⟨λx hx=>?_,Wcy hc hl.2⟩;rcases(Wcv hc hl.2).1 hx with rfl|hx
   .exact h1
   simp_all
  .rw[Wc h1];by_cases h2:cf e y<0
   .rw[Wf h2];refine Xy.2 ⟨λx hx=>?_,h⟩;rcases Xs.1 hx with rfl|hx
    .exact h2
    .exact hc.tr _ _ _ h2 (hl.1 x hx)
   .rw[Wc h2];have hn:¬Ap cf y e:=by unfold Ap;omega
    exact Xy.2 ⟨λx hx=>(hc.ap hn).1.1 (hl.1 x hx),hl.2⟩
theorem Wof(hc:Lin cf){L M:List α}(hM:Ris cf M)(hL:L.Pairwise (Ap cf))(hm:∀x,x∈L↔x∈M):Wev cf L=M:=by
 have hn:∀{l:List α},l.Pairwise (Ap cf)->l.Nodup:=λh=>h.imp λ{a b} gh=>by
  rintro rfl;unfold Ap at gh;have:=hc.irr a;omega
 have hM':M.Pairwise (Ap cf):=hM.imp λh=>.inl h;have hp:L.Perm M:=(List.perm_ext_iff_of_nodup (hn hL) (hn hM')).2 hm;unfold Wev;have h1:=List.pairwise_mergeSort (le:=λx y=>!WeG cf y x) (λa b c=>by
  simp only[WeG,Xai,Ws]
  exactλh1 h2=>hc.nt _ _ _ h2 h1) (λa b=>by
  simp only[WeG,Xce,Xai,Ws];rcases Classical.em (cf b a<0)with h|h
  .exact .inr λh'=>hc.irr _ (hc.tr _ _ _ h h')
  omega) L
 refine List.Perm.eq_of_pairwise ?_ h1 (hM.imp λ{a b} h=>?_) ((Xgo _ _).trans hp)
 .intro a b ha hb h1 h2;simp only[WeG,Xai,Ws]at h1 h2;have xE:a∈M:=(hm a).1 ((Xgo _ _).mem_iff.1 ha);obtain⟨i,hi,rfl⟩:=Xca xE;obtain⟨j,hj,rfl⟩:=Xca hb;rcases Nat.lt_trichotomy i j with h|h|h
  .exact WD (Xao.1 hM i j hi hj h) h2
  .grind
  .exact WD (Xao.1 hM j i hj hi h) h1
 .simp only[WeG,Xai,Ws]
  exactλh'=>hc.irr _ (hc.tr _ _ _ h h')
theorem WpV{r:α->α->Bool}{R:α->α->Prop}(hr:∀a b,R a b->r a b=true):∀{l:List α},l.Pairwise R->WlI r l=true
 | [],_=>rfl
 |x::l,h=>by
  have:=Xy.1 h;simp only[WlI,Xi,Xad];exact⟨λy hy=>hr _ _ (this.1 y hy),WpV hr this.2⟩
theorem WpX(hc:Lin cf){rng:α->Bool}{N:Nat}{L M:List α}(hM:Ris cf M)(hL:L.Pairwise (Ap cf))(hm:∀x,x∈L↔x∈M)(hr:∀x∈L,rng x=true)(hl:L.length<=1048576):
  Zqd rng cf N L=some ((M,()),()):=by
 grind [Zqd,Xad,WpV,Ap,Wjb,WeG,decide_eq_true,Wof]
theorem Wnb(hc:Lin cf){L:List α}{e:α}{i:Nat}(hL:L.Pairwise (Ap cf))(hi:i<L.length)(hk:¬Ap cf L[i] e):(L.set i e).Pairwise (Ap cf)/\∀x,x∈L.set i e↔x=e\/(x∈L/\Ap cf x e):=by
 have sZ:∀{z},Ap cf L[i] z↔Ap cf e z:=λ{z}=>by unfold Ap;rw[(hc.ap hk).1,(hc.ap hk).2]
 have xF:∀{a b:α},Ap cf a b->Ap cf b a:=λh=>h.symm;have hG:=Xao.1 hL;refine⟨?_,λx=>⟨λhx=>?_,?_⟩⟩
 .rw[Xao]
  grind
 .obtain⟨j,hj,rfl⟩:=Xca hx
  grind
 .rintro(rfl|⟨hx,jW⟩)
  .grind [Xdt]
  .obtain⟨j,hj,rfl⟩:=Xca hx;refine Xdt.2 ⟨j,by simp_all,?_⟩;rw[Xcm,Wc]
   grind
theorem Wk5{L:List α}{e:α}(hL:L.Pairwise (Ap cf))(hk:∀x∈L,Ap cf x e):(L++ [e]).Pairwise (Ap cf)/\∀x,x∈L++ [e]↔x=e\/(x∈L/\Ap cf x e):=by
 grind
end
section
abbrev KM:=Int×Int×List Int
structure Kd where
 phase:Int:=0
 pc:Int:=0
 since:Int:=0
 tries:Int:=0
 pos:Int:=0
 out:Int:=0
 regs:List Int:=[]
 seen:List En:=[]
 writes:List Rw:=[]
 marks:List KM:=[]
 busy:Bool:=false
 pb:Pb:=(0,0,0,0)
def Kd.e(x:Kd):Y_KidRun:=(x.phase,x.pc,x.since,x.tries,x.pos,x.out,x.regs,x.seen,x.writes,x.marks,x.busy,x.pb)
structure Fm where
 rv:Int:=0
 clock:Int:=0
 owner:Int:=0
 lost:Bool:=false
 regs:List Int:=[]
 start:List Rw:=[]
 buf:List En:=[]
 order:List Int:=[]
 reads:List Rw:=[]
 kids:List Kd:=[]
def Fm.e(f:Fm):Y_Family:=(f.rv,f.clock,f.owner,f.lost,f.regs,f.start,f.buf,f.order,f.reads,f.kids.map Kd.e)
def zOp:Opn:=(0,0,0,0)
def opN(code:List Opn)(i:Int):Opn:=Xc code i.toNat zOp
def WbO{α:Type}(l:List α)(i:Int)(d:α):α:=Xc l i.toNat d
def Wpd{α:Type}(l:List α)(i:Int)(x:α):List α:=Xe l i.toNat x
def Wgg{α:Type}(l:List α)(d:α):α:=Xc l (l.length-1) d
def Wkc(l:List Opn)(m:Nat):Nat:=((Xcu l.length).find? λk=>decide (m<=k)&&decide (dep l (k+1)=dep l m)).getD 0
def Fm.again(f:Fm)(x:Kd):Kd:={since:=f.clock,tries:=x.tries+1,regs:=f.regs}
def Wgx(m:Mm)(f:Fm)(x:Kd)(o:Opn):Fm×Kd:=
 match Wcd x.writes o.2.2.1 with
 |some v=>(f,{x with regs:=Wpd x.regs o.2.1 v,pc:=x.pc+1})
 |none=>match ent f.buf o.2.2.1 with
  |some r=>if r.2.2.2>x.since then(f,f.again x)else(f,{x with regs:=Wpd x.regs o.2.1 r.2.2.1,seen:=x.seen++ [r.2],pc:=x.pc+1})
  |none=>
   let p:=WaL m f.rv (if x.busy then x.pb else(o.2.2.1,0,0,0))
   if p.2.1=4 then({f with lost:=true},{x with busy:=true,pb:=p})
   else if p.2.1=3 then(f,{x with regs:=Wpd x.regs o.2.1 p.2.2.2,seen:=x.seen++ [(o.2.2.1,p.2.2.2,-1)],busy:=false,pb:=(0,0,0,0),pc:=x.pc+1})
   else(f,{x with busy:=true,pb:=p})
def Wi8(x:Kd)(code:List Opn):Kd:=
 if x.marks.length=0 then{x with writes:=[],out:=2,phase:=1}else
 let q:=Wgg x.marks (0,0,[])
 {x with marks:=x.marks.dropLast,regs:=Wpd q.2.2 (opN code q.1).2.1 0,writes:=x.writes.take q.2.1.toNat,pc:=Wkc code q.1.toNat+1}
def Wpk(m:Mm)(f:Fm)(x:Kd)(code:List Opn):Fm×Kd:=
 if x.pc>=code.length then(f,{x with out:=1,phase:=1})else
 let o:=opN code x.pc
 if o.1=5 then Wgx m f x o else
 if o.1=10 then(f,Wi8 x code)else
 if o.1=6 then(f,{x with writes:=x.writes++ [(o.2.1,WbO x.regs o.2.2.1 0)],pc:=x.pc+1})else
 if o.1=7 then(f,{x with pc:=(if WbO x.regs o.2.1 0=0 then x.pc+o.2.2.1 else x.pc)+1})else
 if o.1=8 then(f,{x with marks:=x.marks++ [(x.pc,(x.writes.length:Int),x.regs)],pc:=x.pc+1})else
 if o.1=9 then(f,{x with marks:=x.marks.dropLast,regs:=Wpd x.regs (opN code (Wgg x.marks (0,0,[])).1).2.1 1,pc:=x.pc+1})else
 (f,{x with regs:=Wne o x.regs,pc:=x.pc+1})
def Wdh(c:Int)(b:List En)(rows:List Rw):List En:=rows.foldl (λb r=>WbH cfE b (r.1,r.2,c)) b
def WaJ(l:List En):List Rw:=(l.filter λe=>decide (e.2.2= -1)).map λe=>(e.1,e.2.1)
def WhU(f:Fm)(x:Kd)(k:Nat):Fm×Kd:=
 ({f with clock:=f.clock+1,buf:=Wdh (f.clock+1) f.buf (WcO x.writes),reads:=f.reads++WaJ x.seen,order:=f.order++ [(k:Int)],owner:=0},{x with phase:=3,pos:=0,marks:=[]})
def WxA(b:List En)(c:Int):Int:=match ent b c with
 |some r=>r.2.2.2
 |none=>-1
def WjW(m:Mm)(f:Fm)(x:Kd)(k:Nat)(code:List Opn):Fm×Kd:=
 if x.phase=0 then Wpk m f x code else
 if x.phase=1 then(if f.owner=0 then({f with owner:=(k:Int)+1},{x with phase:=2})else(f,x))else
 if x.phase=2 then
  if x.pos=x.seen.length then WhU f x k else
  let s:=WbO x.seen x.pos (0,0,0)
  if WxA f.buf s.1=s.2.2 then(f,{x with pos:=x.pos+1})else({f with owner:=0},f.again x)
 else(f,x)
def Fm.put(q:Fm×Kd)(k:Nat):Fm:={q.1 with kids:=q.1.kids.set k q.2}
def Wgw(m:Mm)(f:Fm)(k:Nat)(code:List Opn):Fm:=
 if f.lost then f else Fm.put (WjW m f (f.kids.getD k {}) k code) k
def Wc5(rv:Int)(regs:List Int)(writes:List Rw)(kids:Nat):Fm:=
 {rv:=rv,regs:=regs,start:=WcO writes,buf:=(WcO writes).map λr=>(r.1,r.2,0),kids:=Xp kids {regs:=regs}}
def WcH(f:Fm):Bool:=f.kids.all λx=>decide (x.phase=3)
def Wg6(f:Fm):List Rw:=f.buf.map λe=>(e.1,e.2.1)
def WuF(x:Kd):Int:=if x.out=1/\WcP x.regs=true then WbO x.regs 0 0 else 0
def WfZ(f:Fm):List Int:=
 if WcP f.regs=true/\f.kids.length<=3 then f.kids.map WuF++f.regs.drop f.kids.length else []
structure KMk(code:List Opn)(pc:Nat)(marks:List KM)(wl:Nat):Prop where
 pcs:marks.map (·.1)=(stk code pc).map λm:Nat=>(m:Int)
 each:∀q∈marks,Vals 4 q.2.2/\0<=q.2.1/\q.2.1<=q.1/\q.2.1<=wl
 up:marks.Pairwise λa b=>a.2.1<=b.2.1
structure KOk(code:List Opn)(c n:Int)(x:Kd):Prop where
 pc:0<=x.pc/\x.pc<=code.length
 regs:Vals 4 x.regs
 rows:WjA x.writes
 wl:(x.writes.length:Int)<=x.pc
 sl:(x.seen.length:Int)<=x.pc
 since:0<=x.since/\x.since<=c
 tries:0<=x.tries/\x.tries<=n
 seen:∀e∈x.seen,(0<=e.1/\e.1<=7)/\(0<=e.2.1/\e.2.1<=65535)/\ -1<=e.2.2/\e.2.2<=x.since
 marks:x.phase=0->KMk code x.pc.toNat x.marks x.writes.length
 pos:0<=x.pos/\x.pos<=x.seen.length
 pb:x.busy=true->WjJ x.pb=true
 phase:0<=x.phase/\x.phase<=3
 out:0<=x.out/\x.out<=2
structure FOk(codes:List (List Opn))(n:Int)(f:Fm):Prop where
 len:f.kids.length=codes.length
 regs:Vals 4 f.regs
 clock:0<=f.clock/\f.clock=f.order.length
 done:f.order.length=f.kids.countP λx=>decide (x.phase=3)
 bufR:Ris cfE f.buf
 bufE:∀e∈f.buf,(0<=e.1/\e.1<=7)/\(0<=e.2.1/\e.2.1<=65535)/\0<=e.2.2/\e.2.2<=f.clock
 readsL:f.reads.length<=24*f.order.length
 readsE:WjA f.reads
 owner:0<=f.owner/\f.owner<=f.kids.length
 kid:∀(k:Nat) (h:k<f.kids.length),KOk (codes.getD k []) f.clock n f.kids[k]
end
section
structure CC(l:List Opn):Prop where
 len:l.length<=24
 up:Up l
 z:dep l l.length=0
 ok:∀i (h:i<l.length),WdV l[i]=true/\1<=l[i].1/\l[i].1<=16
 sk:∀i (h:i<l.length),l[i].1=7->i+1+l[i].2.2.1.toNat<=l.length/\bal ((l.take (i+1+l[i].2.2.1.toNat)).drop (i+1))=true
 fk:∀i (h:i<l.length),l[i].1=11->dep l i=0/\frk l (i+1)<=1
structure KC(l:List Opn):Prop extends CC l where
 k10:∀i (h:i<l.length),l[i].1<=10
theorem Wlh{o:Opn}(h:WdV o=true)(ek:12<=o.1):Wkd o=2:=by
 have nS:=Wj8 h;have key:=WbP (N:=0) (o:=o);unfold Za1 at key;rw[Wc0,h]at key;simp only[ret,Xd,Xk,Wa]at key;have e5:(o.1==5)=false:=by simp;omega
 have e6:(o.1==6)=false:=by simp;omega
 rw[e5,e6]at key;simp only[Wa]at key;have:o.1=12\/o.1=13\/o.1=14\/o.1=15\/o.1=16:=by omega
 rcases this with hk|hk|hk|hk|hk<;> · simp_all
theorem WwA{l:List Opn}(h:Wrr l=true):CC l:=by
 unfold Wrr at h;simp only[Xi,Wi,Xai]at h;obtain⟨h1,h2,h3⟩:=h;obtain⟨b1,b2⟩:=WoP.1 h2;have hb:∀i (hi:i<l.length),Wrs l i l[i]=false:=λi hi=>by
  rw[Bool.eq_false_iff];intro hb;have:WoQ (Wrs l) 0 l=true:=Wgc.2 ⟨i,hi,by simp_all⟩;simp_all
 have ci:∀i (hi:i<l.length),WdV l[i]=true:=λi hi=>by
  grind [Wrs,Xdr,Xfa]
 refine⟨h1,b1,b2,λi hi=>⟨ci i hi,Wj8 (ci i hi)⟩,λi hi h7=>?_,λi hi gq=>?_⟩
 .grind [Wrs,Xdr,Xfa,WiD]
 grind [Wrs,Xdr,Xfa]
theorem Wxd{l:List Opn}(h:Whe l=true):KC l:=by
 unfold Whe at h;simp only[Xi,Xai]at h;have hc:=WwA h.1;refine⟨hc,λi hi=>?_⟩;have jn:Wgt l[i]=false:=by
  grind
 unfold Wgt at jn;simp only[Xdr]at jn;by_cases cJ:l[i].1<=10
 .exact cJ
 .exfalso;by_cases gq:l[i].1=11
  .simp_all
  .have:=Wlh (hc.ok i hi).1 (by omega);simp_all
theorem Wkn{l:List Opn}{m k:Nat}(h:Mate l m k):Wkc l m=k:=by
 unfold Wkc;have:(Xcu l.length).find? (λk=>decide (m<=k)&&decide (dep l (k+1)=dep l m))=some k:=by
  rw[List.find?_range_eq_some];have:=h.lt;refine⟨?_,List.mem_range.2 h.len,λj hj=>?_⟩
  .simp[h.eq];omega
  .simp only[Xai,Bool.and_eq_false_iff,Ws];by_cases hm:m<=j
   .exact .inr (h.ne j hm hj)
   omega
 grind
theorem Wjr{l:List Opn}{i:Int}(h0:0<=i)(h:i<l.length):∃(n:Nat) (hn:n<l.length),i=n/\opN l i=l[n]:=by
 grind [opN,WF]
theorem We0{l:List Opn}{n:Nat}(h:n<l.length):opN l (n:Int)=l[n]:=by
 grind [opN,WF]
theorem Wqk{α:Type}(q:List α)(x d:α):Wgg (q++ [x]) d=x:=by unfold Wgg;simp
theorem WiU{M:Type}{g:M->Int}{l:List Opn}{pc:Nat}{marks:List M}{d:M}(hc:CC l)(hp:pc<=l.length)(hm:marks.map g=(stk l pc).map λm:Nat=>(m:Int))(bI:marks.length≠0):
  ∃(m:Nat) (q:List M) (x:M),marks=q++ [x]/\Wgg marks d=x/\g x=(m:Int)/\(∃hm:m<l.length,l[m].1=8)/\m<pc/\Mate l m (Wkc l m)/\pc<=Wkc l m/\stk l m=(stk l pc).dropLast/\q.map g=(stk l m).map λm:Nat=>(m:Int):=by
 rcases Wcf marks with h0|⟨q,x,hq⟩
 .simp_all
 .rw[hq,Xz,Xaf,Xcg]at hm;rcases Wcf (stk l pc)with h0|⟨t,m,ht⟩
  .simp_all
  .rw[ht,Xz,Xaf,Xcg]at hm;obtain⟨e1,e2⟩:=Xeh hm rfl;injection e2 with e2;obtain⟨k,k1,k2,k3⟩:=WvW hc.up hc.z hp ht;have k4:=Wkn k2;obtain⟨ac,h8,_,_⟩:=Wlg pc hp t [] m ht
   grind [Wqk,Xen]
end
section
theorem Wnp{α β:Type}(g:α->β)(l:List α)(i:Nat)(d:α):Xc (l.map g) i (g d)=g (l.getD i d):=by
 simp_all
theorem kdP(x:Kd):x.e.1=x.phase/\x.e.2.1=x.pc/\x.e.2.2.1=x.since/\x.e.2.2.2.1=x.tries/\P4 x.e=x.pos/\P5 x.e=x.out/\P6 x.e=x.regs/\P7 x.e=x.seen/\P8 x.e=x.writes/\P9 x.e=x.marks/\P10 x.e=x.busy:=⟨rfl,rfl,rfl,rfl,rfl,rfl,rfl,rfl,rfl,rfl,rfl⟩
theorem fmP(f:Fm):f.e.1=f.rv/\f.e.2.1=f.clock/\f.e.2.2.1=f.owner/\f.e.2.2.2.1=f.lost/\P4 f.e=f.regs/\P5 f.e=f.start/\P6 f.e=f.buf/\P7 f.e=f.order/\P8 f.e=f.reads/\Q9 f.e=f.kids.map Kd.e:=⟨rfl,rfl,rfl,rfl,rfl,rfl,rfl,rfl,rfl,rfl⟩
theorem U9e(f:Fm)(k:Nat)(x:Kd):U9 (Xe (f.kids.map Kd.e) k x.e) f.e=Fm.e {f with kids:=f.kids.set k x}:=by
 unfold U9 Fm.e;rw[Xeo]
theorem Wrw{f f':Fm}{k:Nat}{x':Kd}{y:Y_KidRun}{g:Y_Family}(hy:y=x'.e)(hg:g=f'.e)(hf:f'.kids=f.kids):
  some ((U9 (Xe (f.kids.map Kd.e) k y) g,()),())=some (((Fm.put (f',x') k).e,()),()):=by
 subst hy hg;rw[←hf,U9e];rfl
theorem Wm3(m:Mm)(f:Fm)(x:Kd)(o:Opn):We1 m f.e x.e o=((Wgx m f x o).1.e,(Wgx m f x o).2.e):=by
 unfold We1 Wgx;have h1:P8 x.e=x.writes:=rfl;have h2:P6 f.e=f.buf:=rfl;rw[h1,h2];rcases Wcd x.writes o.2.2.1 with _|v
 .rcases ent f.buf o.2.2.1 with _|r
  .have h3:Wmz x.e o.2.2.1=if x.busy then x.pb else(o.2.2.1,0,0,0):=by
    unfold Wmz;have:P10 x.e=x.busy:=rfl;rw[this];cases x.busy<;>rfl
   simp only[h3];have h4:f.e.1=f.rv:=rfl;rw[h4];generalize WaL m f.rv (if x.busy then x.pb else(o.2.2.1,0,0,0))=p;by_cases e4:p.2.1=4
   .have:(p.2.1==4)=true:=by simp_all
    rw[Wf e4,this];rfl
   .have:(p.2.1==4)=false:=by simp_all
    rw[Wc e4,this];by_cases e3:p.2.1=3
    .have:(p.2.1==3)=true:=by simp_all
     rw[Wf e3,this];rfl
    .have:(p.2.1==3)=false:=by simp_all
     rw[Wc e3,this];rfl
  .simp only;have h5:x.e.2.2.1=x.since:=rfl;rw[h5];by_cases hv:r.2.2.2>x.since
   .rw[Wf hv,We hv];rfl
   .rw[Wc hv,Wk hv];rfl
 .rfl
theorem WkT(m:Mm)(f:Fm)(x:Kd)(o:Opn):(Wgx m f x o).1.kids=f.kids:=by
 grind [Wgx,Wcd,ent,WaL]
variable{N:Nat}{codes:List (List Opn)}{n:Int}{f:Fm}{k:Nat}{code:List Opn}{m:Mm}{x:Kd}
theorem FOk.buf8(h:FOk codes n f):f.buf.length<=8:=by
 have:∀(l:List En) (c:Int),Ris cfE l->(∀e∈l,c<=e.1/\e.1<=7)->(l.length:Int)<=8-c\/l= []:=by
  intro l
  induction l with
  |nil=>simp_all
  |cons a l ih=>
   intro c hr hb;left;have h1:=Xy.1 hr;have ha:=hb a (Xj ..);rcases ih (a.1+1) h1.2 (λe he=>⟨by grind [cfE],(hb e (Xf _ he)).2⟩)with h|h
   .grind
   grind
 rcases this f.buf 0 h.bufR (λe he=>by have:=(h.bufE e he).1;omega)with h|h
 .omega
 simp_all
theorem WmS(hF:FOk codes n f)(hx:KOk code f.clock n x)(bL:KC code)(hm:W0 m=true)(hn:n<=100000){o:Opn}(hA:W6 o.2.1=true)(hB:Wau o.2.2.1=true):ReadOk m f.e x.e o where
 mem:=hm
 regs:=hx.regs.len
 famr:=hF.regs.len
 rA:=by grind [W6]
 cB:=hB
 seen:=by have:=hx.sl;have:=hx.pc;have:=bL.len;show x.seen.length<=1000;omega
 wr:=by have:=hx.wl;have:=hx.pc;have:=bL.len;show x.writes.length<=1000;omega
 buf:=by have:=hF.buf8;show f.buf.length<=1000;omega
 ver:=λe he=>(hF.bufE e he).2.2.1
 since:=hx.since.1
 pc:=by have:=hx.pc;have:=bL.len;show 0<=x.pc/\x.pc<=1000;omega
 tries:=by have:=hx.tries;show 0<=x.tries/\x.tries<=100000;omega
 pb:=hx.pb
theorem Wu{α:Type}{a b:Int}{x y:α}:(bif a==b then x else y)=if a=b then x else y:=by
 simp_all
theorem WU{α:Type}{p:Prop}[Decidable p]{x y:α}:(bif decide p then x else y)=if p then x else y:=by
 simp_all
theorem Wmw(bL:KC code)(hx:KOk code f.clock n x)(h0:x.phase=0)(hN:1048576<N):Zj1 N x.e code=some (((Wi8 x code).e,()),()):=by
 unfold Zj1 Wi8;obtain⟨k0,k1,k2,k3,k4,k5,k6,k7,k8,k9,k10⟩:=kdP x;have bB:=hx.pc;have ad:=bL.len;have hM:=hx.marks h0;simp only[Wj,k9,k8,k1,Wu];by_cases hz:x.marks.length=0
 .rw[Wf (by unfold Wg;omega),Wf hz];rfl
 .rw[Wc (by unfold Wg;omega),Wc hz];obtain⟨j,q,y,e1,e2,e3,⟨hj,h8⟩,py,cW,iY,e5,e6⟩:=WiU (d:=((0,0,[]):KM)) bL.toCC (show x.pc.toNat<=code.length by omega) hM.pcs hz;have nc:x.marks.length=q.length+1:=by grind
  have xG:q.length<=24:=by
   have:=Wm Xb e6;simp only[Xu]at this;have h2:=Wa3 bL.up j (by omega);have h3:=(Wct code j).2;omega
  have i1:WT .i64 (Wg x.marks) 1=(q.length:Int):=by grind [WiY]
  have hy:y∈x.marks:=by grind
  obtain⟨y1,y2,y3,y4⟩:=hM.each y hy;have g1:Xc x.marks (Xa (q.length:Int)) ((0,0,[]):KM)=y:=by grind
  have t1:Xal (Xa (q.length:Int)) x.marks=x.marks.dropLast:=by rw[e1];simp
  have kJ:=hx.wl;rw[i1,WE,We (show q.length<x.marks.length by omega)];simp only[Wb,g1,t1,e2];have b1:((decide ((0:Int)<=(q.length:Int))&&decide ((q.length:Int)<=(x.marks.length:Int)))&&decide ((q.length:Int)<=((Xa (q.length:Int):Nat):Int)))=true:=by
   simp;omega
  rw[b1];simp only[Wb];rw[Wbs (by rw[y1.len];omega)];simp only[ret,Xd];rw[e3,WE,We hj];have o1:Xc code (Xa ((j:Nat):Int)) ((0,0,0,0):Opn)=code[j]:=Wt hj _;have o2:opN code ((j:Nat):Int)=code[j]:=We0 hj;have hr:=WuQ (bL.ok j hj).1 h8;simp only[Wb,o1,o2];rw[WS hr y1.len];have b2:(decide ((0:Int)<=y.2.1)&&decide (y.2.1<=(x.writes.length:Int)))=true:=by simp;omega
  rw[b2];simp only[Wb];rw[WdF (by grind),Wjd (by omega) hN ⟨hj,h8⟩ cW];simp only[ret,Xd];rw[Wap (by have:=cW.len;omega),Xl];rfl
theorem WoI(hk:k<f.kids.length)(hm:W0 m=true)(bL:KC code)(hF:FOk codes n f)(aZ:codes.getD k []=code)(aN:f.kids[k]=x)(h0:x.phase=0)(hn:n<=100000)(hN:1048576<N):
  Zll N f.e (k:Int) code m=some (((Fm.put (Wpk m f x code) k).e,()),()):=by
 have hx:=hF.kid k hk;rw[aZ,aN]at hx;obtain⟨k0,k1,k2,k3,k4,k5,k6,k7,k8,k9,k10⟩:=kdP x;obtain⟨f0,f1,f2,f3,f4,f5,f6,f7,f8,f9⟩:=fmP f;have bB:=hx.pc;have ad:=bL.len;have kJ:=hx.wl;have e2:Xc (f.kids.map Kd.e) (Xa (k:Int)) d_KidRun=x.e:=by
  simp_all
 have e3:U9 (Xe (f.kids.map Kd.e) (Xa (k:Int)) x.e) f.e=f.e:=by
  rw[Xl,U9e,←aN,Xbg]
 unfold Zll Wpk;simp only[Wj,f9,Xu];rw[WE,We hk];simp only[Wb,e2,e3,k1,k6,k8,k9,WU,Wu,show Wg code=(code.length:Int)from rfl];by_cases dq:x.pc>=code.length
 .rw[Wf dq,Wf dq];rw[Xl];exact Wrw rfl rfl rfl
 .rw[Wc dq,Wc dq];obtain⟨j,hj,ej,eo⟩:=Wjr (l:=code) bB.1 (by omega);have nd:Xc code (Xa x.pc) ((0,0,0,0):Opn)=opN code x.pc:=rfl;have dj:inb x.pc code.length=true:=by grind [WE,decide_eq_true]
  rw[dj];obtain⟨ok,o1,ip⟩:=bL.ok j hj;have bo:=bL.k10 j hj;simp only[Wb,nd];rw[←eo]at ok o1 bo;generalize opN code x.pc=o at*;have ct:=hx.regs.len;rw[Xl];rw[Wap (show 0<=x.pc/\x.pc<=1000000 by omega)];by_cases h5:o.1=5
  .rw[Wf h5,Wf h5];have:=Wwh ok h5;have jm:=WmS hF hx bL hm hn this.1 this.2;have e4:(Q9 f.e)[k]'(by simp_all)=x.e:=by
    simp_all
   have:=Wnn (m:=m) (o:=o) (f:=f.e) (k:=k) (by simp_all) (by simp_all) hN;rw[this];simp only[Xd,e4,Wm3];unfold Wxf;have iF:=WkT m f x o;rw[show Q9 (Wgx m f x o).1.e=f.kids.map Kd.e by rw[←iF];rfl];exact Wrw rfl rfl iF
  .rw[Wc h5,Wc h5];by_cases cJ:o.1=10
   .rw[Wf cJ,Wf cJ,Wmw bL hx h0 hN];exact Wrw rfl rfl rfl
   .rw[Wc cJ,Wc cJ];by_cases h6:o.1=6
    .rw[Wf h6,Wf h6];rw[WS (Wwf ok h6).2 ct,Wq (by simp;omega)];exact Wrw rfl rfl rfl
    .rw[Wc h6,Wc h6];by_cases h7:o.1=7
     .rw[Wf h7,Wf h7];have h:=Wwg ok h7;rw[WS h.1 ct,WJ (a:=x.pc) (b:=o.2.2.1) (by unfold I64;omega),Wap (a:=x.pc+o.2.2.1) (by omega)];by_cases hg:Xc x.regs (Xa o.2.1) 0=0
      .rw[Wf hg,Wf (show WbO x.regs o.2.1 0=0 from hg)];simp only[Wb];exact Wrw rfl rfl rfl
      .rw[Wc hg,Wc (show¬WbO x.regs o.2.1 0=0 from hg)];simp only[Wb];exact Wrw rfl rfl rfl
     .rw[Wc h7,Wc h7];by_cases h8:o.1=8
      .rw[Wf h8,Wf h8];rw[Wbs (by omega)];have kX:x.marks.length<=24:=by
        have:=Wm Xb (hx.marks h0).pcs;simp only[Xu]at this;have h2:=Wa3 bL.up x.pc.toNat (by omega);have h3:=(Wct code x.pc.toNat).2;omega
       simp only[ret,Xd];rw[Wq (by simp;omega)];exact Wrw rfl rfl rfl
      .rw[Wc h8,Wc h8];by_cases h9:o.1=9
       .rw[Wf h9,Wf h9];have hM:=hx.marks h0;have hz:x.marks.length≠0:=by
         intro hz;have h1:=Wm Xb hM.pcs;simp only[Xu,hz]at h1;have h2:=Wa3 bL.up j (by omega);have h3:=bL.up j hj
         grind [WaC,Wl4,Xl]
        obtain⟨i,q,y,e1,pz,pA,⟨hi,nT⟩,py,cW,iY,e5,e6⟩:=WiU (d:=((0,0,[]):KM)) bL.toCC (show x.pc.toNat<=code.length by omega) hM.pcs hz;have nc:x.marks.length=q.length+1:=by grind
        have kX:x.marks.length<=24:=by
         have:=Wm Xb (hx.marks h0).pcs;simp only[Xu]at this;have h2:=Wa3 bL.up x.pc.toNat (by omega);have h3:=(Wct code x.pc.toNat).2;omega
        have i1:WT .i64 (Wg x.marks) 1=(q.length:Int):=by grind [WiY]
        have g1:Xc x.marks (Xa (q.length:Int)) ((0,0,[]):KM)=y:=by grind
        have t1:Xal (Xa (q.length:Int)) x.marks=x.marks.dropLast:=by rw[e1];simp
        rw[i1,WE,We (show q.length<x.marks.length by omega)];have b1:(decide ((0:Int)<=(q.length:Int))&&decide ((q.length:Int)<=(x.marks.length:Int)))=true:=by simp;omega
        rw[b1];simp only[Wb,g1,t1,pz];rw[pA,WE,We hi];have o1:Xc code (Xa ((i:Nat):Int)) ((0,0,0,0):Opn)=opN code (i:Int):=rfl;have hr:=WuQ (bL.ok i hi).1 nT;rw[←We0 hi]at hr;simp only[Wb,o1];rw[WS hr ct];exact Wrw rfl rfl rfl
       .rw[Wc h9,Wc h9];rw[Whr hN ok (by omega) (by omega) hx.regs];exact Wrw rfl rfl rfl
end
section
theorem Wkx{l:List Rw}{c v:Int}:∀(i:Nat),i<=l.length->Wgp l c i=some v->(c,v)∈l
 |0,_,h=>by simp[Wgp]at h
 |i+1,hi,h=>by
  unfold Wgp at h;rw[WF (show i<l.length by omega)]at h;by_cases hc:l[i].1=c
  .grind
  .rw[Wc hc]at h;exact Wkx i (by omega) h
theorem WiJ{l:List Rw}{c v:Int}(h:Wcd l c=some v):Waj l=true/\(c,v)∈l:=by
 unfold Wcd at h;by_cases hr:Waj l=true
 .rw[Wf hr]at h;exact⟨hr,Wkx _ (Xm _) h⟩
 simp_all
theorem WpY(l:List Rw):∀(j c:Nat) (o:List Rw),Wih l j c o=o++(Xgb c j).filterMap λc:Nat=>(Wcd l (c:Int)).map λv=>((c:Int),v)
 |0,c,o=>by simp[Wih]
 |j+1,c,o=>by
  rw[Wih,WpY l j,List.range'_succ,List.filterMap_cons];unfold Wjw;cases h:Wcd l (c:Int)<;>simp
theorem WoX(l:List Rw):WcO l=(Xgb 0 8).filterMap λc:Nat=>(Wcd l (c:Int)).map λv=>((c:Int),v):=by simp[WcO,WpY]
theorem Wp9{l:List Rw}{r:Rw}:r∈WcO l↔(0<=r.1/\r.1<=7)/\Wcd l r.1=some r.2:=by
 rw[WoX,List.mem_filterMap];constructor
 .rintro⟨c,hc,h⟩;rw[Xfj]at hc;cases hl:Wcd l (c:Int)with
  |none=>simp_all
  |some v=>
   grind
 .rintro⟨h0,h⟩;refine⟨r.1.toNat,Xfj.2 (by omega),?_⟩
  grind
theorem WoT(l:List Rw):(WcO l).Pairwise λa b=>a.1<b.1:=by
 rw[WoX,List.pairwise_filterMap];refine List.Pairwise.imp ?_ (List.pairwise_lt_range' (s:=0) (n:=8));simp_all
theorem WcS(l:List Rw):(WcO l).length<=8:=by
 grind [WoX,Xak,List.length_filterMap_le]
theorem Wgs{l:List Rw}:WjA (WcO l):=by
 intro r hr;obtain⟨h0,h1⟩:=Wp9.1 hr;obtain⟨h2,h3⟩:=WiJ h1;unfold Waj at h2;simp only[Xi]at h2;have:=(Wig.1 h2.2) _ h3;omega
end
section
theorem Wfp{p:Pb}:WjJ p=true↔(0<=p.1/\p.1<=7)/\(0<=p.2.1/\p.2.1<=4)/\(0<=p.2.2.1/\p.2.2.1<=1000000)/\0<=p.2.2.2/\p.2.2.2<=65535:=by
 simp[WjJ,Wau,Wbf,Xi,Wi]
theorem WhR{c:Int}{w:Wd}:WnV c w=true↔(0<=w.1/\w.1<=65535)/\(0<=w.2.1/\w.2.1<=c)/\0<=w.2.2/\w.2.2<=99:=by
 simp[WnV,Wbf,Xi,Wi]
theorem WrL{m:Mm}(h:W0 m=true){c:Int}(hc:0<=c/\c<=7):WnV m.1 (WbO m.2 c (0,0,0))=true:=by
 grind [WC,WbO,WF,Xv]
theorem WmI{m:Mm}{rv:Int}{p:Pb}(hm:W0 m=true)(hp:WjJ p=true):WjJ (WaL m rv p)=true/\(WaL m rv p).1=p.1:=by
 have eV:=Wfp.1 hp;have hw:=WrL hm eV.1;rw[WhR]at hw;obtain⟨h8,h0,h1,_⟩:=WC hm;unfold WaL;simp only[Wu,WU];have xH:WnV m.1 (Xc m.2 (Xa p.1) (0,0,0))=true:=WrL hm eV.1
 grind [WhR,Wfp]
section
variable{code:List Opn}{pc eI wl kK:Nat}{ms q:List KM}{y:KM}{c c' n n':Int}{x:Kd}{f:Fm}{m:Mm}{codes:List (List Opn)}{k:Nat}
theorem KMk.mono(h:KMk code pc ms wl)(hs:stk code eI=stk code pc)(hw:wl<=kK):KMk code eI ms kK:=
 ⟨by rw[hs];exact h.pcs,λq hq=>by have:=h.each q hq;grind,h.up⟩
theorem KMk.begin(h:KMk code pc ms wl)(hp:pc<code.length)(h8:code[pc].1=8){regs:List Int}(hr:Vals 4 regs)(hw:wl<=pc):KMk code (pc+1) (ms++ [((pc:Int),(wl:Int),regs)]) wl:=by
 refine⟨?_,?_,?_⟩
 .rw[Wmm hp h8,Xz,Xz,h.pcs];rfl
 .intro q hq;rcases Xo.1 hq with hq|hq
  .exact h.each q hq
  simp_all
 .refine Xah.2 ⟨h.up,List.pairwise_singleton _ _,λa ha b hb=>?_⟩;rw[Xag]at hb;subst hb;exact(h.each a ha).2.2.2
theorem KMk.drop(h:KMk code pc ms wl)(nU:ms=q++ [y])(hs:stk code eI=(stk code pc).dropLast)(hw:y.2.1<=kK):KMk code eI q kK:=by
 subst nU;have h1:=h.pcs;refine⟨?_,λa ha=>?_,(Xah.1 h.up).1⟩
 .grind
 .have h2:=h.each a (List.mem_append_left _ ha);have h3:=(Xah.1 h.up).2.2 a ha y (by simp)
  grind
theorem KOk.wk(h:KOk code c n x)(hc:c<=c')(hn:n<=n'):KOk code c' n' x:=
 {h with since:=by have:=h.since;omega,tries:=by have:=h.tries;omega}
theorem Wp7(h:KOk code c n x)(hc:c=f.clock)(hf:Vals 4 f.regs)(h0:0<=f.clock):KOk code c (n+1) (f.again x) where
 pc:=⟨Xcv _,by show(0:Int)<=_;omega⟩
 regs:=hf
 rows:=λr hr=>by cases hr
 wl:=Xcv _
 sl:=Xcv _
 since:=by show 0<=f.clock/\f.clock<=c;omega
 tries:=by have:=h.tries;show 0<=x.tries+1/\x.tries+1<=n+1;omega
 seen:=λe he=>by cases he
 marks:=λ_=>⟨by show([]:List KM).map _=(stk code 0).map _;rfl,(λq hq=>by cases hq),List.Pairwise.nil⟩
 pos:=⟨Xcv _,Xcv _⟩
 pb:=λh=>by cases h
 phase:=by show(0:Int)<=0/\(0:Int)<=3;omega
 out:=by show(0:Int)<=0/\(0:Int)<=2;omega
theorem KMk.len(hc:CC code)(h:KMk code pc ms wl)(hp:pc<=code.length):(ms.length:Int)=dep code pc:=by
 have:=Wm Xb h.pcs;simp only[Xu]at this;rw[this,Wa3 hc.up pc hp]
theorem KOk.on(cn:CC code)(h:KOk code c n x)(h0:x.phase=0){i:Nat}(hi:i<code.length)(bB:x.pc=i){regs:List Int}{seen:List En}{writes:List Rw}{marks:List KM}{busy:Bool}{pb:Pb}{eI:Nat}(hp:eI<=code.length)(ac:i<eI)(hr:Vals 4 regs)(bf:WjA writes)(kJ:writes.length<=x.writes.length+1)(hQ:seen.length<=x.seen.length+1)
  (hs:∀e∈seen,(0<=e.1/\e.1<=7)/\(0<=e.2.1/\e.2.1<=65535)/\ -1<=e.2.2/\e.2.2<=x.since) (uG:x.seen.length<=seen.length) (hm:KMk code eI marks writes.length) (hb:busy=true->WjJ pb=true):
  KOk code c n {x with regs:=regs,seen:=seen,writes:=writes,marks:=marks,busy:=busy,pb:=pb,pc:=(eI:Int)}:=
 {h with
  pc:=by simp_all
  regs:=hr
  rows:=bf
  wl:=by have:=h.wl;grind
  sl:=by have:=h.sl;grind
  seen:=hs
  marks:=λ_=>by simp_all
  pos:=by have:=h.pos;grind
  pb:=hb}
theorem Wuv(cn:CC code)(hF:FOk codes n f)(h:KOk code f.clock n x)(h0:x.phase=0){i:Nat}(hi:i<code.length)(bB:x.pc=i)(h5:code[i].1=5)(hm:W0 m=true):
  KOk code f.clock (n+1) (Wgx m f x code[i]).2/\((Wgx m f x code[i]).1=f\/(Wgx m f x code[i]).1={f with lost:=true}):=by
 have ci:=Wwh (cn.ok i hi).1 h5;have hB:0<=code[i].2.2.1/\code[i].2.2.1<=7:=by grind [Wau]
 have hM:=h.marks h0;rw[bB,Xl]at hM;have bt:stk code (i+1)=stk code i:=WgI hi (by omega) (by omega);have cz:x.pc+1=((i+1:Nat):Int):=by omega
 unfold Wgx;cases hl:Wcd x.writes code[i].2.2.1 with
 |some v=>
  have hv:=h.rows _ (WiJ hl).2;refine⟨?_,.inl rfl⟩;simp only[cz];exact(KOk.on cn h h0 hi bB (by omega) (by omega) (h.regs.set _ hv.2) h.rows (by omega) (by omega) h.seen (by omega) (hM.mono bt (by omega)) h.pb).wk (by omega) (by omega)
 |none=>
  simp only;cases he:ent f.buf code[i].2.2.1 with
  |some r=>
   simp only;have hr:=WcK he;have nG:r.2∈f.buf:=by
    grind
   have jc:=hF.bufE _ nG;split
   .exact⟨Wp7 h rfl hF.regs hF.clock.1,.inl rfl⟩
   .refine⟨?_,.inl rfl⟩;simp only[cz];refine(KOk.on cn h h0 hi bB (by omega) (by omega) (h.regs.set _ jc.2.1) h.rows (by omega) (by simp) (λe je=>?_) (by simp) (hM.mono bt (by omega)) h.pb).wk (by omega) (by omega);rcases Xo.1 je with je|je
    .exact h.seen e je
    grind
  |none=>
   simp only;have fX:WjJ (if x.busy=true then x.pb else(code[i].2.2.1,0,0,0))=true:=by
    split
    .exact h.pb ‹_›
    grind [Wfp]
   have co:=WmI (rv:=f.rv) hm fX;generalize WaL m f.rv (if x.busy=true then x.pb else(code[i].2.2.1,0,0,0))=p at*;have hp:=Wfp.1 co.1;split
   .refine⟨?_,.inr rfl⟩;exact KOk.wk (n:=n) {h with pb:=λ_=>co.1} (by omega) (by omega)
   .split
    .refine⟨?_,.inl rfl⟩;simp only[cz];refine(KOk.on cn h h0 hi bB (by omega) (by omega) (h.regs.set _ hp.2.2.2) h.rows (by omega) (by simp) (λe je=>?_) (by simp) (hM.mono bt (by omega)) (λh=>by cases h)).wk (by omega) (by omega);rcases Xo.1 je with je|je
     .exact h.seen e je
     .rw[Xag]at je;subst je;exact⟨hB,hp.2.2.2,by simp,by have:=h.since;grind⟩
    .refine⟨?_,.inl rfl⟩;exact KOk.wk (n:=n) {h with pb:=λ_=>co.1} (by omega) (by omega)
theorem WvF(bL:KC code)(hF:FOk codes n f)(h:KOk code f.clock n x)(h0:x.phase=0)(hm:W0 m=true):
  KOk code f.clock (n+1) (Wpk m f x code).2/\((Wpk m f x code).1=f\/(Wpk m f x code).1={f with lost:=true}):=by
 have cn:=bL.toCC;unfold Wpk;split
 .refine⟨?_,.inl rfl⟩;exact KOk.wk (n:=n) {h with marks:=λh=>by simp_all,phase:=by simp_all,out:=by simp_all} (by omega) (by omega)
 .obtain⟨i,hi,bB,ho⟩:=Wjr (l:=code) h.pc.1 (by omega);simp only[ho];obtain⟨ok,o1,ip⟩:=bL.ok i hi;have bo:=bL.k10 i hi;have hM:=h.marks h0;rw[bB,Xl]at hM;have cz:x.pc+1=((i+1:Nat):Int):=by omega
  have kJ:x.writes.length<=i:=by have:=h.wl;omega
  split
  .grind [Wuv]
  .split
   .refine⟨?_,.inl rfl⟩;unfold Wi8;split
    .refine KOk.wk (n:=n) {h with rows:=(λr hr=>by cases hr),wl:=by simp_all,marks:=λh=>by simp_all,phase:=by simp_all,out:=by simp_all} (by omega) (by omega)
    .obtain⟨j,q,y,e1,e2,e3,⟨hj,h8⟩,py,cW,iY,e5,e6⟩:=WiU (d:=((0,0,[]):KM)) cn (show i<=code.length by omega) hM.pcs ‹_›;obtain⟨y1,y2,y3,y4⟩:=hM.each y (by grind);simp only[e2,e3,Xl,←Int.natCast_succ];have hl:=cW.len;have ht:(Xal y.2.1.toNat x.writes).length=y.2.1.toNat:=by simp_all
     refine(KOk.on cn h h0 hi bB (eI:=Wkc code j+1) (by omega) (by omega) (y1.set _ (by omega)) (λr hr=>h.rows r (List.mem_of_mem_take hr)) (by omega) (by omega) h.seen (by omega) ?_ h.pb).wk (by omega) (by omega);rw[show x.marks.dropLast=q by grind];exact hM.drop e1 (by rw[cW.st];exact e5) (by omega)
   .split
    .refine⟨?_,.inl rfl⟩;have hk:=Wwf ok ‹_›;have bt:stk code (i+1)=stk code i:=WgI hi (by omega) (by omega);simp only[cz];refine(KOk.on cn h h0 hi bB (by omega) (by omega) h.regs (λr hr=>?_) (by simp) (by omega) h.seen (by omega) (hM.mono bt (by simp)) h.pb).wk (by omega) (by omega);rcases Xo.1 hr with hr|hr
     .exact h.rows r hr
     .rw[Xag]at hr;subst hr;have:=hk.1;unfold Wau at this;exact⟨by simp_all,h.regs.get _⟩
    .split
     .refine⟨?_,.inl rfl⟩;obtain⟨s1,s2⟩:=bL.sk i hi ‹_›;have hk:=Wwg ok ‹_›;have bt:stk code (i+1)=stk code i:=WgI hi (by omega) (by omega);have nf:stk code (i+1+code[i].2.2.1.toNat)=stk code i:=by grind [Wpw]
      by_cases hg:WbO x.regs code[i].2.1 0=0
      .simp only[Wf hg,show x.pc+code[i].2.2.1+1=((i+1+code[i].2.2.1.toNat:Nat):Int) by omega];exact(KOk.on cn h h0 hi bB s1 (by omega) h.regs h.rows (by omega) (by omega) h.seen (by omega) (hM.mono nf (by omega)) h.pb).wk (by omega) (by omega)
      .simp only[Wc hg,cz];exact(KOk.on cn h h0 hi bB (by omega) (by omega) h.regs h.rows (by omega) (by omega) h.seen (by omega) (hM.mono bt (by omega)) h.pb).wk (by omega) (by omega)
     .split
      .refine⟨?_,.inl rfl⟩;simp only[cz];rw[bB];exact(KOk.on cn h h0 hi bB (by omega) (by omega) h.regs h.rows (by omega) (by omega) h.seen (by omega) (hM.begin hi ‹_› h.regs kJ) h.pb).wk (by omega) (by omega)
      .split
       .refine⟨?_,.inl rfl⟩;have hz:x.marks.length≠0:=by
         have h1:=hM.len cn (by omega);have h3:=cn.up i hi
         grind [WaC,Wl4]
        obtain⟨j,q,y,e1,e2,e3,⟨hj,h8⟩,py,cW,iY,e5,e6⟩:=WiU (d:=((0,0,[]):KM)) cn (show i<=code.length by omega) hM.pcs hz;obtain⟨y1,y2,y3,y4⟩:=hM.each y (by grind);simp only[cz];refine(KOk.on cn h h0 hi bB (by omega) (by omega) (h.regs.set _ (by omega)) h.rows (by omega) (by omega) h.seen (by omega) ?_ h.pb).wk (by omega) (by omega);rw[show x.marks.dropLast=q by grind];exact hM.drop e1 (Wn7 hi ‹_›) (by omega)
       .refine⟨?_,.inl rfl⟩;have bt:stk code (i+1)=stk code i:=WgI hi (by omega) (by omega);simp only[cz];exact(KOk.on cn h h0 hi bB (by omega) (by omega) (Wmr ok (by omega) (by omega) h.regs) h.rows (by omega) (by omega) h.seen (by omega) (hM.mono bt (by omega)) h.pb).wk (by omega) (by omega)
end
end
section
def Wf0(c:Int)(v:List En)(r:Rw):List En:=match ent v r.1 with
 |some a=>v.set a.1 (r.1,r.2,c)
 |none=>v++ [(r.1,r.2,c)]
theorem WmN(c:Int)(v:List En)(r:Rw):(Wf0 c v r).length<=v.length+1:=by
 unfold Wf0;split<;>simp
theorem apE{a b:En}:Ap cfE a b↔a.1≠b.1:=by unfold Ap cfE;omega
theorem WsK{c:Int}{L M:List En}{r:Rw}(hL:L.Pairwise (Ap cfE))(hM:Ris cfE M)(hm:∀x,x∈L↔x∈M):
  (Wf0 c L r).Pairwise (Ap cfE)/\Ris cfE (WbH cfE M (r.1,r.2,c))/\∀x,x∈Wf0 c L r↔x∈WbH cfE M (r.1,r.2,c):=by
 have key:(Wf0 c L r).Pairwise (Ap cfE)/\∀x,x∈Wf0 c L r↔x=(r.1,r.2,c)\/(x∈L/\Ap cfE x (r.1,r.2,c)):=by
  unfold Wf0 ent;cases he:fnd (λe:En=>e.1==r.1) L 0 with
  |some a=>
   obtain⟨h1,h2,h3,h4⟩:=WcK he;simp only[Xaw,Xde]at h3 h4
   grind [Xq,Wnb,WuS,apE]
  |none=>
   grind [WgL,Wk5,apE]
 refine⟨key.1,Wcy WuS hM,λx=>?_⟩;rw[key.2 x,Wcv WuS hM,hm]
theorem Wso{c:Int}:∀{rows:List Rw} {L M:List En},L.Pairwise (Ap cfE)->Ris cfE M->(∀x,x∈L↔x∈M)->
  (rows.foldl (Wf0 c) L).Pairwise (Ap cfE)/\Ris cfE (Wdh c M rows)/\∀x,x∈rows.foldl (Wf0 c) L↔x∈Wdh c M rows
 | [],_,_,hL,hM,hm=>⟨hL,hM,hm⟩
 |r::rows,L,M,hL,hM,hm=>by
  obtain⟨a,b,d⟩:=WsK (c:=c) (r:=r) hL hM hm;exact Wso (rows:=rows) a b d
theorem WnH{c:Int}:∀(rows:List Rw) (L:List En),(rows.foldl (Wf0 c) L).length<=L.length+rows.length
 | [],L=>by simp
 |r::rows,L=>by
  have:=WnH (c:=c) rows (Wf0 c L r)
  grind [WmN,Xr]
theorem WeU{c:Int}{P:En->Prop}:∀{rows:List Rw} {M:List En},Ris cfE M->(∀x∈M,P x)->(∀r∈rows,P (r.1,r.2,c))->∀x∈Wdh c M rows,P x
 | [],_,_,h,_=>h
 |r::rows,M,hM,h,hr=>by
  refine WeU (rows:=rows) (Wcy WuS hM) (λx hx=>?_) λr' h'=>hr r' (Xf _ h');rcases(Wcv WuS hM).1 hx with rfl|h'
  .simp_all
  simp_all
theorem WpQ{R:Type}{N:Nat}{k4:Int}{b7 b8 b9:Int}{bi:Bool}{bR cT bW di bU bA:Int}{iq:Bool}{ce d6 ir it:Int}{cK:List Kc}{fo:List Int}{gj:List Kc}{iu:List Int}{da:List Kc}{eM:List Y_KidRun}{iv:Nat}{fq:List Int}{fu:List Kb}{dg:List Kc}{dM:List Kg}{K0:Int->Bool->Kr->Option R}(hN:1048576<N)(xI:cK.length<=8):
  ∀(d j n:Nat) (v:List En),j+d=cK.length->d<n->v.length<=100+j->
  Zab N k4 (Wg cK) b7 b8 b9 bi bR cT bW di bU bA iq ce d6 ir it cK fo gj iu da eM iv fq fu dg dM K0 n (j:Int) v=K0 (cK.length:Int) false ((cK.drop j).foldl (Wf0 b8) v)
 |0,j,n+1,v,hj,hn,hv=>by
  simp_all [Zab,WW,Xm,Wa,Xbz,List.foldl_nil]
 |d+1,j,n+1,v,hj,hn,hv=>by
  have ac:j<cK.length:=by omega
  have lN:=WfS (N:=N) (f:=(b7,(b8,(b9,(bi,(fo,(gj,(v,(iu,(da,Xe eM iv (bR,(cT,(bW,(di,(bU,(bA,(fq,(fu,(dg,(dM,(iq,(ce,(d6,(ir,it)))))))))))))))))))))))) (c:=cK[j].1) (by grind) hN;have hs:=WmN b8 v cK[j];have dm:∀v',v'=Wf0 b8 v cK[j]->Zab N k4 (Wg cK) b7 b8 b9 bi bR cT bW di bU bA iq ce d6 ir it cK fo gj iu da eM iv fq fu dg dM K0 n ((j+1:Nat):Int) v'=K0 (cK.length:Int) false ((cK.drop j).foldl (Wf0 b8) v):=λv' xJ=>by
   subst xJ;rw[WpQ hN xI d (j+1) n _ (by omega) (by omega) (by omega),Xaz ac,List.foldl_cons]
  simp only[Zab,Wj,WL ac,Ww ac,Wt ac,Wp (show j<4611686018427387904 by omega),Wb,lN,ret,Xd];have hd:ent v cK[j].1=ent v cK[j].1:=rfl;unfold Wf0 at dm;cases he:ent v cK[j].1 with
  |some a=>
   rw[he]at dm;obtain⟨h1,h2,h3,h4⟩:=WcK he;rw[Xaw]at h3;simp only[We (show((a.1:Int)>=0) by omega),Wb];rw[WE,We h3];simp only[Wb,Xl];exact dm _ rfl
  |none=>
   rw[he]at dm;simp only[show decide ((-1:Int)>=0)=false from rfl,Wa];rw[Wq (by simp;omega)];simp only[Wb,Xbb];exact dm _ rfl
 |_,_,0,_,_,h,_=>by omega
theorem WlP{R:Type}{N:Nat}{fa fb fe ff:Int}{fg:Bool}{fh fi fj dN jt ju:Int}{jv:Bool}{jw jx jy jz:Int}{dE:List Kb}{jA:List Int}{jB:List Kc}{jC:List Kb}{jD:List Int}{jE:List Y_KidRun}{jF:Nat}{eO:List Int}{eN:List Kc}{iP:List Kg}{K0:Int->Bool->Kv->Option R}(uK:dE.length<=1000):
  ∀(d j n:Nat) (v:List Rw),j+d=dE.length->d<n->v.length<=1000+j->
  Zah N fa (Wg dE) fb fe ff fg fh fi fj dN jt ju jv jw jx jy jz dE jA jB jC jD jE jF eO eN iP K0 n (j:Int) v=K0 (dE.length:Int) false (v++WaJ (dE.drop j))
 |0,j,n+1,v,hj,hn,hv=>by
  have:j=dE.length:=by omega
  subst this;simp only[Zah,WW (Xm dE.length),Wa,Xbz,WaJ,List.filter_nil,Xcg,List.append_nil]
 |d+1,j,n+1,v,hj,hn,hv=>by
  have ac:j<dE.length:=by omega
  have he:WaJ (dE.drop j)=if dE[j].2.2= -1 then(dE[j].1,dE[j].2.1)::WaJ (dE.drop (j+1))else WaJ (dE.drop (j+1)):=by
   rw[Xaz ac];unfold WaJ
   grind
  simp only[Zah,Wj,WL ac,Ww ac,Wt ac,Wp (show j<4611686018427387904 by omega),Wb,Wu];rw[he];by_cases h:dE[j].2.2= -1
  .rw[Wf h,Wf h,Wq (by simp;omega)];simp only[Wb];rw[WlP uK d (j+1) n _ (by omega) (by omega) (by simp;omega)];simp
  .rw[Wc h,Wc h];rw[WlP uK d (j+1) n _ (by omega) (by omega) (by omega)]
 |_,_,0,_,_,h,_=>by omega
variable{N:Nat}{codes:List (List Opn)}{n:Int}{f:Fm}{k:Nat}{code:List Opn}{m:Mm}{x:Kd}
theorem WwD{l:List En}(h:Ris cfE l):l.Pairwise (Ap cfE):=h.imp λh=>.inl h
theorem Wlk(hk:k<f.kids.length)(h3:f.kids.length<=3)(ng:code.length<=24)(hF:FOk codes n f)(aZ:codes.getD k []=code)(aN:f.kids[k]=x)(hN:1048576<N):
  Zep N f.e (k:Int)=some (((Fm.put (WhU f x k) k).e,()),()):=by
 have hx:=hF.kid k hk;rw[aZ,aN]at hx;obtain⟨f0,f1,f2,f3,f4,f5,f6,f7,f8,f9⟩:=fmP f;have bB:=hx.pc;have kJ:=hx.wl;have hQ:=hx.sl;have uL:=hF.buf8;have kL:f.order.length<=3:=by
  have h1:=hF.done
  grind
 have pB:=hF.readsL;have e2:Xc (f.kids.map Kd.e) (Xa (k:Int)) d_KidRun=x.e:=by
  simp_all
 unfold Zep;simp only[f9,Xu];rw[WE,We hk];simp only[Wb,e2];have en:Zhq N x.e.2.2.2.2.2.2.2.2.1=ret (WcO x.writes):=WdW (show x.writes.length<=1048576 by omega) hN;rw[en];simp only[ret,Xd];have jo:=WcS x.writes;rw[show(0:Int)=((0:Nat):Int)from rfl];rw[WpQ (cK:=WcO x.writes) hN jo (WcO x.writes).length 0 N _ (by omega) (by omega) (by grind)];simp only[Xbk];have hP6:P6 f.e=f.buf:=rfl;have cP:Wh .i64 f.e.2.1 1=f.clock+1:=Wap (by have:=hF.clock;omega);rw[hP6,cP];obtain⟨i1,i2,i3⟩:=Wso (c:=f.clock+1) (rows:=WcO x.writes) (WwD hF.bufR) hF.bufR (λx=>Iff.rfl);unfold Z6;have gT:=WnH (c:=f.clock+1) (WcO x.writes) f.buf;rw[WpX (rng:=WwR) (N:=N) WuS i2 i1 i3 (λe he=>?_) (by omega)]
 .simp only[Xd];have hP7:P7 x.e=x.seen:=rfl;rw[show(Kd.e x).2.2.2.2.2.2.2.1=x.seen from rfl];rw[WlP (dE:=x.seen) (by omega) x.seen.length 0 N _ (by omega) (by omega) (by grind)];rw[Wq (by grind)];simp only[Wb,Xbk];have hU:∀(g:Fm) (y:Kd),U6 (Xe (f.kids.map Kd.e) k y.e) (S5 (f.reads++WaJ x.seen) (S4 (f.order++ [(k:Int)]) (S3 (Wdh (f.clock+1) f.buf (WcO x.writes)) f.e.2.2.2)))=(f.lost,f.regs,f.start,Wdh (f.clock+1) f.buf (WcO x.writes),f.order++ [(k:Int)],f.reads++WaJ x.seen,(f.kids.set k y).map Kd.e):=λg y=>by
   rw[Xeo];rfl
  rw[Xl];exact Wm (λz=>some (((f.rv,(f.clock+1,((0:Int),z))),()),())) (hU f {x with phase:=3,pos:=0,marks:=[]})
 .have h1:=(i3 e).1 he;have:=WeU (P:=λe=>0<=e.1/\e.1<=7) hF.bufR (λe he=>(hF.bufE e he).1) (λr hr=>(Wp9.1 hr).1) e h1
  grind [WwR,Wu2]
theorem Wny(hk:k<f.kids.length)(hF:FOk codes n f)(hx:KOk code f.clock n x)(aN:f.kids[k]=x)(hn:n<=100000)(o:Int):
  Zax N (Fm.e {f with owner:=o}) (k:Int)=some (((Fm.put ({f with owner:=o},f.again x) k).e,()),()):=by
 have h:=We3 (N:=N) (f:=Fm.e {f with owner:=o}) (k:=k) (x:=x.e) (by show k<(f.kids.map Kd.e).length;simp_all) hF.regs.len (by have:=hx.tries;show 0<=x.tries/\x.tries<=100000;omega);have e3:U9 (Xe (Q9 (Fm.e {f with owner:=o})) k x.e) (Fm.e {f with owner:=o})=Fm.e {f with owner:=o}:=by
  have:=U9e {f with owner:=o} k x;rw[←aN]at this;simp only[Xbg]at this;rw[←aN];exact this
 rw[e3]at h;rw[h];exact Wm (λz=>some ((z,()),())) (U9e {f with owner:=o} k (f.again x))
theorem Wl6(hk:k<f.kids.length)(h3:f.kids.length<=3)(hm:W0 m=true)(bL:KC code)(hF:FOk codes n f)(aZ:codes.getD k []=code)(hn:n<=100000)(hN:1048576<N):
  Zkq N f.e (k:Int) code m=some (((Wgw m f k code).e,()),()):=by
 obtain⟨x,aN⟩:∃x,f.kids[k]=x:=⟨_,rfl⟩;have hx:=hF.kid k hk;rw[aZ,aN]at hx;obtain⟨f0,f1,f2,f3,f4,f5,f6,f7,f8,f9⟩:=fmP f;obtain⟨k0,k1,k2,k3,k4,k5,k6,k7,k8,k9,k10⟩:=kdP x;have hQ:=hx.sl;have bB:=hx.pc;have ng:=bL.len;have e2:Xc (f.kids.map Kd.e) (Xa (k:Int)) d_KidRun=x.e:=by
  simp_all
 have e3:U9 (Xe (f.kids.map Kd.e) (Xa (k:Int)) x.e) f.e=f.e:=by
  rw[Xl,U9e,←aN,Xbg]
 have e4:Fm.put (f,x) k=f:=by unfold Fm.put;simp only;rw[←aN,Xbg]
 unfold Zkq Wgw WjW;simp only[Wj,f9,f3,Xu];rw[Wdn];by_cases hlost:f.lost=true
 .rw[Wf hlost,Wf hlost]
 rw[Wc hlost,Wc hlost];rw[WE,We hk];simp only[Wb,Wa,e2,e3,k0,k4,k7,f2,Wu,WF hk,aN];by_cases h0:x.phase=0
 .rw[Wf h0,Wf h0,WoI hk hm bL hF aZ aN h0 hn hN];rfl
 .rw[Wc h0,Wc h0];by_cases h1:x.phase=1
  .rw[Wf h1,Wf h1];by_cases ho:f.owner=0
   .rw[Wf ho,Wf ho,Wap (by omega),Xl];exact Wrw rfl rfl rfl
   simp_all
  .rw[Wc h1,Wc h1];by_cases h2:x.phase=2
   .rw[Wf h2,Wf h2];unfold Wg;by_cases hp:x.pos=(x.seen.length:Int)
    .rw[Wf hp,Wf hp,Wlk hk h3 ng hF aZ aN hN];rfl
    .rw[Wc hp,Wc hp];have fL:=hx.pos;have dj:inb x.pos x.seen.length=true:=by grind [inb]
     rw[dj];have hg:Xc x.seen (Xa x.pos) ((0,0,0):En)=WbO x.seen x.pos (0,0,0):=rfl;simp only[Wb,hg];have lN:=WfS (N:=N) (f:=f.e) (c:=(WbO x.seen x.pos (0,0,0)).1) (by show f.buf.length<=1048576;have:=hF.buf8;omega) hN;rw[show f.e.2.2.2.2.2.2.1=f.buf from rfl]at lN;rw[lN];simp only[ret,Xd,f6];have cj:S2 (0:Int) f.e=Fm.e {f with owner:=0}:=rfl;have gJ:Zax N (U9 (Xe (f.kids.map Kd.e) (Xa (k:Int)) x.e) (S2 0 f.e)) (k:Int)=some (((Fm.put ({f with owner:=0},f.again x) k).e,()),()):=by
      grind [U9e,Xl,U9,Xe,Kd.e,Fm.e,Xbg,Wny]
     unfold WxA;have pC:Wh .i64 x.pos 1=x.pos+1:=Wap (by omega);rw[pC];cases he:ent f.buf (WbO x.seen x.pos (0,0,0)).1 with
     |some a=>
      obtain⟨g1,g2,g3,g4⟩:=WcK he;rw[Xaw]at g3;rw[Xde,Xq g3]at g4;injection g4 with g4;simp only[We (show((a.1:Int)>=0) by omega),Wb];rw[WE,We g3];simp only[Wb,Wt g3,g4];by_cases hv:a.2.2.2=(WbO x.seen x.pos (0,0,0)).2.2
      .rw[Wf hv,Wf hv,Xl];exact Wrw rfl rfl rfl
      simp_all
     |none=>
      simp only[show decide ((-1:Int)>=0)=false from rfl,Wa];by_cases hv:(-1:Int)=(WbO x.seen x.pos (0,0,0)).2.2
      .rw[Wf hv,Wf hv,Xl];exact Wrw rfl rfl rfl
      simp_all
   simp_all
end
section
section
variable{codes:List (List Opn)}{n:Int}{f f':Fm}{k:Nat}{code:List Opn}{m:Mm}{x y:Kd}
theorem FOk.len3(h:FOk codes n f)(h3:codes.length<=3):f.order.length<=3:=by
 have h1:=h.done;have:=Xei (p:=λx:Kd=>decide (x.phase=3)) (l:=f.kids);have:=h.len;omega
theorem FOk.put1(h:FOk codes n f)(hk:k<f.kids.length)(aZ:codes.getD k []=code){o:Int}{l:Bool}(ho:0<=o/\o<=f.kids.length)(hy:KOk code f.clock (n+1) y)(hp:f.kids[k].phase≠3)(hyp:y.phase≠3):
  FOk codes (n+1) (Fm.put ({f with owner:=o,lost:=l},y) k) where
 len:=by show(f.kids.set k y).length=_;rw[Xat];exact h.len
 regs:=h.regs
 clock:=h.clock
 done:=by
  show f.order.length=(f.kids.set k y).countP _;rw[Xhd hk,Wc (by simp_all),Wc (by simp_all)];exact h.done
 bufR:=h.bufR
 bufE:=h.bufE
 readsL:=h.readsL
 readsE:=h.readsE
 owner:=by show 0<=o/\o<=((f.kids.set k y).length:Int);simp_all
 kid:=λi hi=>by
  change i<(f.kids.set k y).length at hi;rw[Xat]at hi;show KOk (codes.getD i []) f.clock (n+1) (f.kids.set k y)[i];rw[Xcm];by_cases he:k=i
  .simp_all
  .rw[Wc he];exact(h.kid i hi).wk (by omega) (by omega)
theorem FOk.wk(h:FOk codes n f){n':Int}(hn:n<=n'):FOk codes n' f:=
 {h with kid:=λk hk=>(h.kid k hk).wk (by omega) hn}
theorem WlB(h:∀e∈x.seen,(0<=e.1/\e.1<=7)/\(0<=e.2.1/\e.2.1<=65535)/\ -1<=e.2.2/\e.2.2<=x.since):WjA (WaJ x.seen):=by
 intro r hr;unfold WaJ at hr
 grind
theorem WnA(l:List En):(WaJ l).length<=l.length:=by
 simp[WaJ,Xu,List.length_filter_le]
theorem WhH{c:Int}:∀{rows:List Rw} {M:List En},Ris cfE M->Ris cfE (Wdh c M rows)
 | [],_,h=>h
 |r::rows,M,h=>WhH (rows:=rows) (Wcy WuS h)
theorem Wr3(hF:FOk codes n f)(hk:k<f.kids.length)(bL:code.length<=24)(aZ:codes.getD k []=code)(aN:f.kids[k]=x)(h2:x.phase=2):
  FOk codes (n+1) (Fm.put (WhU f x k) k):=by
 have hx:=hF.kid k hk;rw[aZ,aN]at hx;have hc:=hF.clock;unfold WhU Fm.put;refine{len:=?_,regs:=hF.regs,clock:=?_,done:=?_,bufR:=WhH hF.bufR,bufE:=?_,readsL:=?_,readsE:=?_,owner:=?_,kid:=?_}
 .simp only[Xat];exact hF.len
 .grind
 .simp only[Xaa,Xgg];rw[Xhd hk,aN,Wc (by simp[h2]),Wf (by simp),←hF.done];rfl
 .simp only;refine WeU hF.bufR (λe he=>?_) λr hr=>?_
  .have:=hF.bufE e he;omega
  .have:=Wgs r hr;grind
 .have h1:=hF.readsL;have h2:=WnA x.seen;have h3:=hx.sl;have h4:=hx.pc
  grind
 .intro r hr;rcases Xo.1 hr with hr|hr
  .exact hF.readsE r hr
  .exact WlB hx.seen r hr
 .simp_all
 .intro i hi;simp only[Xat]at hi;simp only[Xcm];by_cases he:k=i
  .subst he;rw[Wf rfl,aZ];refine KOk.wk (c:=f.clock) (n:=n) ?_ (by omega) (by omega);exact{hx with marks:=(λh=>by simp_all),pos:=⟨Xcv _,by simp_all⟩,phase:=by simp_all}
  .rw[Wc he];exact(hF.kid i hi).wk (by omega) (by omega)
theorem Wpz(hk:k<f.kids.length)(hm:W0 m=true)(bL:KC code)(hF:FOk codes n f)(aZ:codes.getD k []=code):FOk codes (n+1) (Wgw m f k code):=by
 obtain⟨x,aN⟩:∃x,f.kids[k]=x:=⟨_,rfl⟩;have hx:=hF.kid k hk;rw[aZ,aN]at hx;have e4:Fm.put (f,x) k=f:=by unfold Fm.put;simp only;rw[←aN,Xbg]
 have hFw:=hF.wk (show n<=n+1 by omega);unfold Wgw WjW;split
 .exact hFw
 rw[WF hk,aN];split
 .rename_i h0;obtain⟨h1,h2⟩:=WvF bL hF hx h0 hm;have hnp:(Wpk m f x code).2.phase≠3:=by
   grind [Wpk,Wgx,Wi8,Fm.again]
  have:=h1;have key:∀q:Fm×Kd,(q.1=f\/q.1={f with lost:=true})->KOk code f.clock (n+1) q.2->q.2.phase≠3->FOk codes (n+1) (Fm.put q k):=by
   rintro⟨g,y⟩ hg hy hp;simp only at hg hy hp;rcases hg with rfl|rfl
   .exact FOk.put1 (o:=g.owner) (l:=g.lost) hF hk aZ hF.owner hy (by simp_all) hp
   .exact FOk.put1 (o:=f.owner) (l:=true) hF hk aZ hF.owner hy (by simp_all) hp
  simp_all
 .split
  .rename_i h1;split
   .refine FOk.put1 (o:=(k:Int)+1) (l:=f.lost) hF hk aZ (by omega) ?_ (by simp_all) (by simp_all);refine KOk.wk (c:=f.clock) (n:=n) ?_ (by omega) (by omega);exact{hx with marks:=(λh=>by simp_all),phase:=by simp_all}
   simp_all
  .split
   .rename_i h2;split
    .exact Wr3 hF hk bL.len aZ aN h2
    .simp only;split
     .refine FOk.put1 (o:=f.owner) (l:=f.lost) hF hk aZ hF.owner ?_ (by simp_all) (by simp_all);refine KOk.wk (c:=f.clock) (n:=n) ?_ (by omega) (by omega);exact{hx with pos:=by(have:=hx.pos;grind)}
     .refine FOk.put1 (o:=0) (l:=f.lost) hF hk aZ (by omega) (Wp7 hx rfl hF.regs hF.clock.1) (by simp_all) (by show(0:Int)≠3;omega)
   simp_all
theorem Wr9{rv:Int}{regs:List Int}{writes:List Rw}(hr:Vals 4 regs)(hn:0<=n):FOk codes n (Wc5 rv regs writes codes.length) where
 len:=by simp[Wc5]
 regs:=hr
 clock:=by simp[Wc5]
 done:=by
  simp only[Wc5,Xby];rw[List.countP_replicate,Wc (by simp)]
 bufR:=by
  grind [Ris,Wc5,WoT,cfE]
 bufE:=λe he=>by
  obtain⟨r,hr,rfl⟩:=Xw.1 he;have:=Wgs r hr
  grind [Wc5]
 readsL:=by simp[Wc5]
 readsE:=λr hr=>by cases hr
 owner:=by simp[Wc5]
 kid:=λk hk=>by
  simp only[Wc5,List.getElem_replicate];exact{pc:=by simp,regs:=hr,rows:=(λr hr=>by cases hr),wl:=by simp,sl:=by simp,since:=by simp,tries:=by simp;omega,seen:=(λe he=>by cases he),marks:=(λ_=>⟨by simp[stk],(λq hq=>by cases hq),List.Pairwise.nil⟩),pos:=by simp,pb:=(λh=>by cases h),phase:=by simp,out:=by simp}
end
end
section
theorem Wg0{α β R:Type}{body:Int->α->List β->(List β->Option R)->Option R}{K:Int->List β->Option R}{f:α->β}:∀(l:List α) (d r:List β),l.length<=r.length->
  (∀(j:Nat) x (v:List β) k,x∈l->j<v.length->body j x v k=k (v.set j (f x)))->WbT body K l d.length (d++r)=K ((d.length+l.length:Nat):Int) (d++(l.map f++r.drop l.length))
 | [],d,r,_,_=>by simp[WbT]
 |x::l,d,[],h,_=>by simp at h
 |x::l,d,y::r,h,hb=>by
  rw[WbT,hb d.length x _ _ (Xj ..) (by simp),WfK];have:=Wg0 (body:=body) (K:=K) (f:=f) l (d++ [f x]) r (by grind) λj z v k hz=>hb j z v k (Xf _ hz);simp only[Xaa,Xgg,Xbf,List.singleton_append]at this;rw[this];simp only[Xr,Xaf,List.drop_succ_cons,Xbc];rw[show d.length+1+l.length=d.length+(l.length+1) by omega]
theorem Win{α:Type}{R:Type}{l:List α}{p:α->Bool}{lp:Nat->Int->Option R}{N:Nat}{K0:Int->Option R}{K1:Option R}(hl:l.length<N)(lQ:l.length<=1048576)(hs:∀n (j:Nat) (h:j<l.length),lp (n+1) (j:Int)=bif p l[j]then K0 j else lp n ((j+1:Nat):Int))(he:∀n,lp (n+1) (l.length:Int)=K1):lp N 0=match fnd p l 0 with|some r=>K0 r.1|none=>K1:=by
 have h1:=Wx (l:=l) (V:=Unit) (lp:=λn j _=>lp n j) hl (body:=λj x v k=>bif p x then K0 j else k v) (K:=λ_ _=>K1) (λn j v h=>hs n j h) (λn v=>he n) ();refine(h1.trans (WdT (p:=p) (E:=λj _=>K0 j) l 0 () λj x v k _=>rfl)).trans ?_;cases fnd p l 0<;>rfl
theorem Wlx{α:Type}{p:α->Bool}:∀(l:List α) (j:Nat),(fnd p l j).isSome=l.any p
 | [],_=>rfl
 |x::l,j=>by
  unfold fnd;rw[List.any_cons];cases p x
  .simp[Wlx l]
  .rfl
variable{N:Nat}
theorem WmW{f:Fm}(h3:f.kids.length<=3)(hN:1048576<N):Zoz N f.e=ret (WcH f):=by
 unfold Zoz Z4 Zn;have e:f.e.2.2.2.2.2.2.2.2.2=f.kids.map Kd.e:=rfl;rw[e];have hl:(f.kids.map Kd.e).length<=3:=by simpa using h3
 have h1:=Win (l:=f.kids.map Kd.e) (p:=λx=>x.1 !=3) (N:=N) (lp:=λn j=>Zd N (f.kids.map Kd.e) (λaq=>(some ((),(aq,())))) (λaz bc=>(some ((),((-1:Int),())))) n j) (K0:=λj=>some ((),(j,()))) (K1:=some ((),((-1:Int),()))) (by omega) (by omega)
  (λn j hj=>by
   simp only[Zd,WL hj,Ww hj,Wt hj,Wp (show j<4611686018427387904 by omega),Wb,Zqf,Xd])
  (λn=>by simp only[Zd,WW (Xm _),Wa])
 rw[h1];have h2:=Wlx (p:=λx:Y_KidRun=>x.1 !=3) (f.kids.map Kd.e) 0;have h3:(f.kids.map Kd.e).any (λx=>x.1 !=3)= !WcH f:=by
  unfold WcH;rw[List.any_map,←Wbm];have:((λx:Y_KidRun=>x.1 !=3)∘Kd.e)= λx:Kd=>!decide (x.phase=3):=by
   funext x;show(x.phase !=3)= !decide (x.phase=3);by_cases h:x.phase=3<;>simp[h]
  rw[this]
 rw[h3]at h2;cases hf:fnd (λx:Y_KidRun=>x.1 !=3) (f.kids.map Kd.e) 0 with
 |some r=>
  rw[hf]at h2;simp only[Xd,We (show((r.1:Int)>=0) by omega),Xk,ret];rw[show WcH f=false by simpa using h2.symm]
 |none=>
  rw[hf]at h2;rw[show WcH f=true by simpa using h2.symm];rfl
theorem Wm0{f:Fm}(h:f.buf.length<=1000)(hN:1048576<N):Zi3 N f.e=ret (Wg6 f):=by
 unfold Zi3;have e:f.e.2.2.2.2.2.2.1=f.buf:=rfl;rw[e];have h1:=Wx (l:=f.buf) (V:=List Rw) (R:=Unit×(List Rw×Unit)) (lp:=λn j v=>Zc6 N f.buf (Wg f.buf) (λt9 ar aA=>(some ((),(aA,())))) n j v) (n:=N) (by omega)
  (body:=λj x v k=>bif Wz (v.length+ [(x.1,x.2.1)].length)then k (Xh v [(x.1,x.2.1)])else none) (K:=λ_ v=>ret v)
  (λn i v hi=>by simp only[Zc6,WL hi,Ww hi,Wt hi,Wp (show i<4611686018427387904 by omega),Wb])
  (λn v=>by simp only[Zc6,WW (Xm f.buf.length),Wa]) []
 refine h1.trans ?_;rw[Wca (f:=λx:En=>(x.1,x.2.1)) f.buf 0 [] (by simp;omega) (λj x v k _=>rfl)];rfl
theorem Wlb{f:Fm}(hr:Vals 4 f.regs)(h3:f.kids.length<=3)(hx:∀x∈f.kids,x.regs.length<=1000)(hN:1048576<N):Zi2 N f.e=ret (WfZ f):=by
 unfold Zi2 WfZ;have e:f.e.2.2.2.2.1=f.regs:=rfl;have e2:f.e.2.2.2.2.2.2.2.2.2=f.kids.map Kd.e:=rfl;have kM:WcP f.regs=true:=Wcn.2 hr;have hl:=hr.len;have hm:(f.kids.map Kd.e).length=f.kids.length:=by simp
 rw[e,e2,Wdk (by omega) hN,Wf ⟨kM,h3⟩];simp only[ret,Xd,kM,Xk,Wa];rw[Wk (by unfold Wg;omega),Wbs (by omega)];simp only[ret,Xd,Wa];have h1:=Wx (l:=f.kids.map Kd.e) (V:=List Int) (R:=Unit×(List Int×Unit)) (lp:=λn j v=>Za6 N (f.kids.map Kd.e) (Wg (f.kids.map Kd.e)) (λcl fU dp=>(some ((),(dp,())))) n j v) (n:=N) (by omega)
  (body:=λj x v k=>bif inb j v.length then(bif x.2.2.2.2.2.1==(1:Int)then((Z3 N (P6 x) (4:Int)).bind λbZ=>(bif bZ.2.1 then(bif inb 0 (P6 x).length then(bif inb j (Xe v j.toNat 0).length then k (Xe (Xe v j.toNat 0) j.toNat (Xc (P6 x) (Xa (0:Int)) 0))else none)else none)else k (Xe v j.toNat 0)))else k (Xe v j.toNat 0))else none) (K:=λ_ v=>ret v)
  (λn i v hi=>by simp only[Za6,Wj,WL hi,Ww hi,Wt hi,Wp (show i<4611686018427387904 by omega),Wb];rfl)
  (λn v=>by simp only[Za6,WW (Xm _),Wa]) f.regs
 refine h1.trans ?_;have h2:=Wg0 (β:=Int) (K:=λ_ v=>ret v) (f:=λx:Y_KidRun=>if P5 x=1/\WcP (P6 x)=true then WbO (P6 x) 0 0 else 0) (f.kids.map Kd.e) [] f.regs (by omega) (body:=λj x v k=>bif inb j v.length then(bif x.2.2.2.2.2.1==(1:Int)then((Z3 N (P6 x) (4:Int)).bind λbZ=>(bif bZ.2.1 then(bif inb 0 (P6 x).length then(bif inb j (Xe v j.toNat 0).length then k (Xe (Xe v j.toNat 0) j.toNat (Xc (P6 x) (Xa (0:Int)) 0))else none)else none)else k (Xe v j.toNat 0)))else k (Xe v j.toNat 0))else none)
  (λj x v k s0 hj=>by
   obtain⟨y,hy,rfl⟩:=Xw.1 s0;have xK:=hx y hy;have p5:(Kd.e y).2.2.2.2.2.1=y.out:=rfl;have s7:P5 (Kd.e y)=y.out:=rfl;have p6:P6 (Kd.e y)=y.regs:=rfl;simp only[p5,s7,p6,WE,We hj,Wb,Wdk (show y.regs.length<=1048576 by omega) hN,ret,Xd,Wu,Xl,Xat];by_cases h1:y.out=1
   .rw[Wf h1];cases kM:WcP y.regs
    .rw[Wc (by simp)];rfl
    .have:y.regs.length=4:=(Wcn.1 kM).len;rw[Wf ⟨h1,rfl⟩,show inb (0:Int) y.regs.length=true by rw[this];rfl];simp only[Wb,Xct];rfl
   .rw[Wc h1,Wc (λh=>h1 h.1)])
 simp only[Xby,Xbd,Xu,List.map_map]at h2;exact h2
theorem WjQ{rv:Int}{regs:List Int}{writes:List Rw}{kids:Nat}(hr:regs.length<=1000)(hw:writes.length<=1000)(hk:kids<=3)(hN:1048576<N):
  Zh2 N rv regs writes (kids:Int)=ret (Wc5 rv regs writes kids).e:=by
 unfold Zh2;rw[Wbs (by omega),WdW (by omega) hN];have hn:=WcS writes;simp only[ret,Xd];have h1:=Wx (l:=WcO writes) (V:=List En) (R:=Unit×(Y_Family×Unit)) (lp:=λn j v=>Zcn N regs kids (Wg (WcO writes)) rv (WcO writes) regs (λt25 si da=>
  (Zau N regs kids rv regs (WcO writes) da
 (λmW t50 mX=>
  (some ((),((rv,((0:Int),((0:Int),(false,(regs,(WcO writes,(da,(([]:List Int),(([]:List Kc),mX))))))))),()))))
 N (0:Int) ([]:List Y_KidRun))) n j v) (n:=N) (by omega)
  (body:=λj x v k=>bif Wz (v.length+ [(x.1,(x.2,(0:Int)))].length)then k (Xh v [(x.1,(x.2,(0:Int)))])else none) (K:=λ_ da=>(Zau N regs kids rv regs (WcO writes) da
 (λmW t50 mX=>
  (some ((),((rv,((0:Int),((0:Int),(false,(regs,(WcO writes,(da,(([]:List Int),(([]:List Kc),mX))))))))),()))))
 N (0:Int) ([]:List Y_KidRun)))
  (λn i v hi=>by simp only[Zcn,WL hi,Ww hi,Wt hi,Wp (show i<4611686018427387904 by omega),Wb])
  (λn v=>by simp only[Zcn,WW (Xm _),Wa]) []
 refine h1.trans ?_;rw[Wca (f:=λx:Rw=>(x.1,(x.2,(0:Int)))) (WcO writes) 0 [] (by simp;omega) (λj x v k _=>rfl)];simp only[Xbd];obtain⟨b,hb⟩:∃b,(WcO writes).map (λx:Rw=>(x.1,(x.2,(0:Int))))=b:=⟨_,rfl⟩;rw[hb];have lp:∀(d j n:Nat) (v:List Y_KidRun),j+d=kids->d<n->v=Xp j (Kd.e {regs:=regs})->Zau N regs kids rv regs (WcO writes) b (λmW t50 mX=>(some ((),((rv,((0:Int),((0:Int),(false,(regs,(WcO writes,(b,(([]:List Int),(([]:List Kc),mX))))))))),())))) n (j:Int) v=some ((),((rv,((0:Int),((0:Int),(false,(regs,(WcO writes,(b,(([]:List Int),(([]:List Kc),Xp kids (Kd.e {regs:=regs})))))))))),())):=by
  intro d
  induction d with
  |zero=>
   intro j n v hj hn hv;obtain⟨n,rfl⟩:∃n',n=n'+1:=⟨n-1,by omega⟩;have:j=kids:=by omega
   subst this;simp only[Zau,Int.lt_irrefl,decide_false,Wa,hv]
  |succ d ih=>
   intro j n v hj hn hv;obtain⟨n,rfl⟩:∃n',n=n'+1:=⟨n-1,by omega⟩;have ac:(j:Int)<(kids:Int):=by omega
   have qb:v.length=j:=by rw[hv];simp
   simp only[Zau,We ac,Wb,Wbs (show regs.length<=1048576 by omega),ret,Xd];rw[Wq (by simp;omega)];simp only[Wb];rw[Wp (by omega)];refine ih (j+1) n _ (by omega) (by omega) ?_;rw[hv,List.replicate_succ'];rfl
 have:=lp kids 0 N [] (by omega) (by omega) rfl;refine this.trans ?_;unfold Wc5 Fm.e;simp only[List.map_replicate,hb]
end
end Go.Sx
