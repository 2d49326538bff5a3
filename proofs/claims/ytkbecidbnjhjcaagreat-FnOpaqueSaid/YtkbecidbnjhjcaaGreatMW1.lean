/- Plain laws of the Lean functions. -/
import Derived.Test.YtkbecidbnjhjcaaGreatT2
open Option renaming bind_some→Xd
open Nat renaming le_refl→Xn,zero_add→Xba,le_trans→Xcm,add_zero→Xbb,add_assoc→Xay,and_le_right→Xgq,sub_zero→Xde
open List renaming mem_cons→Xq,mem_cons_self→Xh,mem_cons_of_mem→Xe,take_succ_eq_append_getElem→Xbe,getD→Xb,countP_le_length→Xfs,length→Xc,length_append→Xac,length_dropLast→Xep,append_inj'→Xeh,dropLast_concat→Xeo,append→Xf,length_cons→Xx,append_eq→Xak,all_eq_true→Xai,getElem_mem→Xo,length_set→Xaf,set_set→Xdy,take→Xau,set→Xk,pairwise_cons→Xv,mergeSort_perm→Xgc,getElem_of_mem→Xbn,pairwise_iff_getElem→Xal,mem_iff_getElem→Xcj,getElem_set→Xaq,range→Xdb,map_append→Xz,map_cons→Xam,map_nil→Xby,range'→Xgn,mem_range'_1→Xgj,map_set→Xfl,length_map→Xu,set_getElem_self→Xbi,mem_append→Xm,pairwise_append→Xaj,mem_singleton→Xaa,getElem?_eq_getElem→Xp,drop_length→Xdg,drop_eq_getElem_cons→Xch,drop_zero→Xcg,countP_set→Xgr
open Bool renaming or_eq_true→Xck,and_eq_true→Xi,not_eq_true'→Xap,not_eq_true→Xfn,not_true→Xr,false_or→Xfc,toNat_false→Xfk,false_and→Xey,true_and→Xcd,or_eq_false_iff→Xdq,not_eq_false'→Xez
open Int renaming toNat_natCast→Xj,toNat→Xa,tmod_eq_emod_of_nonneg→Xds,eq_ofNat_of_zero_le→Xfo,le_refl→Xs
namespace Go.Sx
set_option linter.unusedVariables false
set_option linter.unusedSimpArgs false
section
def WbH(v:Int):Bool:=decide (0<=v)&&decide (v<=65535)
theorem Wlq{N:Nat}{x a b:Int}:Zbo N x a b=ret (decide (a<=x)&&decide (x<=b)):=by
 unfold Zbo;by_cases h:a<=x<;>simp[h]
theorem WS{N:Nat}{x a b:Int}:Zl N x a b=ret (decide (a<=x)&&decide (x<=b)):=by
 unfold Zl;by_cases h:a<=x<;>simp[h]
theorem Wb6{α:Type}{p:α->Bool}(l:List α):(l.any λx=>!p x)= !l.all p:=by
 grind
abbrev Rw:=Int×Int
def Wai(v:Int):Bool:=decide (0<=v)&&decide (v<=7)
def Wie(r:Rw):Bool:=Wai r.1&&WbH r.2
def WaT(l:List Rw):Bool:=decide (l.length<=300)&&l.all Wie
def Wec(l:List Int):Bool:=decide (l.length=8)&&l.all WbH
theorem WdK{N:Nat}{v:Int}:Zg5 N v=ret (WbH v):=by
 unfold Zg5;simp only[Wlq,ret,Xd];rfl
theorem Wat{N:Nat}{v:Int}:Zav N v=ret (WbH v):=by
 unfold Zav;simp only[WS,ret,Xd];rfl
theorem Wg2{N:Nat}{v:Int}:Zc6 N v=ret (Wai v):=by
 unfold Zc6;simp only[Wlq,ret,Xd];rfl
theorem WaD{N:Nat}{v:Int}:Zay N v=ret (Wai v):=by
 unfold Zay;simp only[WS,ret,Xd];rfl
theorem Wcl{N:Nat}{l:List Int}(hl:l.length<=1048576)(hN:1048576<N):Zc5 N l=ret (Wec l):=by
 unfold Zc5 Wec;by_cases h:l.length=8
 .have e:(Wi l !=8)=false:=by simp[Wi,h]
  rw[e];simp only[Wc];have h1:=Wy (l:=l) (V:=Unit) (R:=Unit×Ko) (lp:=λn j v=>Zdi N l (some ((),(false,()))) (λi8 t9=>some ((),(true,()))) n j) (n:=N) (by omega)
   (body:=λj x v k=>bif !WbH x then some ((),(false,()))else k v) (K:=λ_ v=>some ((),(true,())))
   (λn i v hi=>by simp only[Zdi,WU hi,Wp hi,Wv hi,Wn (show i<4611686018427387904 by omega),We,WdK,ret,Xd])
   (λn v=>by simp[Zdi,WZ,Xn,Wc]) ()
  refine h1.trans ?_;rw[Wau (p:=λx=>!WbH x) (E:=λ_=>some ((),(false,()))) l 0 () (λj x v k _=>rfl),Wb6];cases l.all WbH<;>simp[h]
 grind [Wi]
theorem Wch{N:Nat}{l:List Int}(hl:l.length<=1048576)(hN:1048576<N):Z7 N l 8=ret (Wec l):=by
 unfold Z7 Wec;have h1:=Wy (l:=l) (V:=Unit) (R:=Unit×Ko) (lp:=λn j v=>Zaz N l 8 (some ((),(false,()))) (λi8 t9=>some ((),((Wi l)==(8:Int),()))) n j) (n:=N) (by omega)
  (body:=λj x v k=>bif !WbH x then some ((),(false,()))else k v) (K:=λ_ v=>some ((),((Wi l)==(8:Int),())))
  (λn i v hi=>by simp only[Zaz,WU hi,Wp hi,Wv hi,Wn (show i<4611686018427387904 by omega),We,Wat,ret,Xd])
  (λn v=>by simp[Zaz,WZ,Xn,Wc]) ()
 refine h1.trans ?_;rw[Wau (p:=λx=>!WbH x) (E:=λ_=>some ((),(false,()))) l 0 () (λj x v k _=>rfl),Wb6];have e:((Wi l)==(8:Int))=decide (l.length=8):=by
  grind [Wi]
 rw[e];cases l.all WbH<;>simp
theorem WbG{N:Nat}{l:List Rw}(hl:l.length<=1048576)(hN:1048576<N):Zca N l=ret (WaT l):=by
 unfold Zca WaT;by_cases h:l.length<=300
 .have e:decide (Wi l>300)=false:=by simp[Wi];omega
  rw[e];simp only[Wc];have h1:=Wy (l:=l) (V:=Unit) (R:=Unit×Ko) (lp:=λn j v=>Zdj N l (some ((),(false,()))) (λi8 t9=>some ((),(true,()))) n j) (n:=N) (by omega)
   (body:=λj x v k=>bif !Wie x then some ((),(false,()))else k v) (K:=λ_ v=>some ((),(true,())))
   (λn i v hi=>by
    simp only[Zdj,WU hi,Wp hi,Wv hi,Wn (show i<4611686018427387904 by omega),We,WdK,Wg2,ret,Xd,Wie];cases Wai l[i].1<;>rfl)
   (λn v=>by simp[Zdj,WZ,Xn,Wc]) ()
  refine h1.trans ?_;rw[Wau (p:=λx=>!Wie x) (E:=λ_=>some ((),(false,()))) l 0 () (λj x v k _=>rfl),Wb6];cases l.all Wie<;>simp[h]
 grind [decide,Wi]
theorem Wap{N:Nat}{l:List Rw}(hl:l.length<=1048576)(hN:1048576<N):Za2 N l=ret (WaT l):=by
 unfold Za2 WaT;have h1:=Wy (l:=l) (V:=Unit) (R:=Unit×Ko) (lp:=λn j v=>Zdl N l (some ((),(false,()))) (λi8 t9=>some ((),(decide ((Wi l)<=(300:Int)),()))) n j) (n:=N) (by omega)
  (body:=λj x v k=>bif !Wie x then some ((),(false,()))else k v) (K:=λ_ v=>some ((),(decide ((Wi l)<=(300:Int)),())))
  (λn i v hi=>by
   simp only[Zdl,WU hi,Wp hi,Wv hi,Wn (show i<4611686018427387904 by omega),We,Wat,WaD,ret,Xd,Wie];cases Wai l[i].1<;>rfl)
  (λn v=>by simp[Zdl,WZ,Xn,Wc]) ()
 refine h1.trans ?_;rw[Wau (p:=λx=>!Wie x) (E:=λ_=>some ((),(false,()))) l 0 () (λj x v k _=>rfl),Wb6];have e:decide (Wi l<=300)=decide (l.length<=300):=by apply decide_eq_decide.2;simp[Wi];omega
 rw[e];cases l.all Wie<;>simp
theorem Wsw{α:Type}{l:List α}(h:l.length<=1048576):WH l.length=true:=by grind [WH]
end
section
abbrev Opn:=Int×Int×Int×Int
def W6(v:Int):Bool:=decide (0<=v)&&decide (v<=3)
def WeY(v:Int):Bool:=decide (0<=v)&&decide (v<=7)
theorem Wm1{N:Nat}{v:Int}:Zbz N v=ret (W6 v):=by
 unfold Zbz;simp only[Wlq,ret,Xd];rfl
theorem Wm5{N:Nat}{v:Int}:Zb0 N v=ret (W6 v):=by
 unfold Zb0;simp only[WS,ret,Xd];rfl
theorem Wne{N:Nat}{v:Int}:Zba N v=ret (WeY v):=by
 unfold Zba;simp only[WS,ret,Xd];rfl
def Wel(o:Opn):Bool:=
 bif o.1==1 then W6 o.2.1&&WbH o.2.2.1&&(o.2.2.2==(0:Int))else
 bif o.1==2 then W6 o.2.1&&W6 o.2.2.1&&W6 o.2.2.2 else
 bif o.1==3 then W6 o.2.1&&W6 o.2.2.1&&W6 o.2.2.2 else
 bif o.1==4 then W6 o.2.1&&W6 o.2.2.1&&W6 o.2.2.2 else
 bif o.1==5 then W6 o.2.1&&Wai o.2.2.1&&(o.2.2.2==(0:Int))else
 bif o.1==6 then Wai o.2.1&&W6 o.2.2.1&&(o.2.2.2==(0:Int))else
 bif o.1==7 then W6 o.2.1&&(decide (1<=o.2.2.1)&&decide (o.2.2.1<=20))&&(o.2.2.2==(0:Int))else
 bif o.1==8 then W6 o.2.1&&(o.2.2.1==(0:Int))&&(o.2.2.2==(0:Int))else
 bif o.1==9 then(o.2.1==(0:Int))&&(o.2.2.1==(0:Int))&&(o.2.2.2==(0:Int))else
 bif o.1==10 then(o.2.1==(0:Int))&&(o.2.2.1==(0:Int))&&(o.2.2.2==(0:Int))else
 bif o.1==11 then(o.2.1==(0:Int))&&(o.2.2.1==(0:Int))&&(o.2.2.2==(0:Int))else
 bif o.1==12 then WeY o.2.1&&W6 o.2.2.1&&W6 o.2.2.2 else
 bif o.1==13 then W6 o.2.1&&WeY o.2.2.1&&(o.2.2.2==(0:Int))else
 bif o.1==14 then WeY o.2.1&&W6 o.2.2.1&&(o.2.2.2==(0:Int))else
 bif o.1==15 then W6 o.2.1&&(o.2.2.1==(0:Int))&&(o.2.2.2==(0:Int))else
 bif o.1==16 then W6 o.2.1&&(o.2.2.1==(0:Int))&&(o.2.2.2==(0:Int))else
 false
abbrev Bo:=Option Ke
def oA(p k:Bo):Bo:=p.bind λo=>bif o.2.1 then k else some ((),(false,()))
def oB(p:Bo):Bo:=p.bind λo=>some ((),(o.2.1,()))
theorem o3{T P Q R:Bo}{p q r:Bool}(h:T=oA P (oA Q (oB R)))(hp:P=ret p)(hq:Q=ret q)(hr:R=ret r):T=ret (p&&q&&r):=by
 rw[h,hp,hq,hr];cases p<;>cases q<;>rfl
theorem z0(v:Int):(ret (v==(0:Int)):Bo)=ret (v==(0:Int)):=rfl
theorem sR(N:Nat)(v:Int):Zbz N v=ret (W6 v):=Wm1
theorem sV(N:Nat)(v:Int):Zg5 N v=ret (WbH v):=WdK
theorem sC(N:Nat)(v:Int):Zc6 N v=ret (Wai v):=Wg2
theorem sK(N:Nat)(v:Int):Zbo N v 0 7=ret (WeY v):=Wlq
theorem sI(N:Nat)(v:Int):Zbo N v 1 20=ret (decide (1<=v)&&decide (v<=20)):=Wlq
theorem iR(N:Nat)(v:Int):Zb0 N v=ret (W6 v):=Wm5
theorem iV(N:Nat)(v:Int):Zav N v=ret (WbH v):=Wat
theorem iC(N:Nat)(v:Int):Zay N v=ret (Wai v):=WaD
theorem iK(N:Nat)(v:Int):Zba N v=ret (WeY v):=Wne
theorem iI(N:Nat)(v:Int):Zl N v 1 20=ret (decide (1<=v)&&decide (v<=20)):=WS
def kds:List Int:=[1,2,3,4,5,6,7,8,9,10,11,12,13,14,15,16]
theorem Wu6{P:Int->Prop}(h1:P 1)(h2:P 2)(h3:P 3)(h4:P 4)(h5:P 5)(h6:P 6)(h7:P 7)(h8:P 8)(h9:P 9)(cC:P 10)(fw:P 11)(eF:P 12)(mz:P 13)(tT:P 14)(h15:P 15)(rM:P 16)
  (h0:∀k,(∀i,i∈kds->(k==i)=false)->P k) (k:Int):P k:=by
 by_cases h:k∈kds
 .simp only[kds,Xq,List.not_mem_nil,or_false]at h;rcases h with h|h|h|h|h|h|h|h|h|h|h|h|h|h|h|h<;>rw[h]<;>assumption
 .exact h0 k λi hi=>by
   rw[beq_eq_false_iff_ne];intro e;exact h (e▸hi)
theorem Wdo{N:Nat}{o:Opn}:Zll N o=ret (Wel o):=by
 obtain⟨k,a,b,c⟩:=o;exact Wu6 (P:=λk=>Zll N (k,a,b,c)=ret (Wel (k,a,b,c)))
  (o3 (by kernel_rfl) (sR N a) (sV N b) (z0 c))
  (o3 (by kernel_rfl) (sR N a) (sR N b) (sR N c))
  (o3 (by kernel_rfl) (sR N a) (sR N b) (sR N c))
  (o3 (by kernel_rfl) (sR N a) (sR N b) (sR N c))
  (o3 (by kernel_rfl) (sR N a) (sC N b) (z0 c))
  (o3 (by kernel_rfl) (sC N a) (sR N b) (z0 c))
  (o3 (by kernel_rfl) (sR N a) (sI N b) (z0 c))
  (o3 (by kernel_rfl) (sR N a) (z0 b) (z0 c))
  (o3 (by kernel_rfl) (z0 a) (z0 b) (z0 c))
  (o3 (by kernel_rfl) (z0 a) (z0 b) (z0 c))
  (o3 (by kernel_rfl) (z0 a) (z0 b) (z0 c))
  (o3 (by kernel_rfl) (sK N a) (sR N b) (sR N c))
  (o3 (by kernel_rfl) (sR N a) (sK N b) (z0 c))
  (o3 (by kernel_rfl) (sK N a) (sR N b) (z0 c))
  (o3 (by kernel_rfl) (sR N a) (z0 b) (z0 c))
  (o3 (by kernel_rfl) (sR N a) (z0 b) (z0 c))
  (λk e=>by unfold Zll Wel;simp(disch:=decide) only[e,Wc,Wu]) k
theorem WeL{N:Nat}{o:Opn}:Zhv N o=ret (Wel o):=by
 obtain⟨k,a,b,c⟩:=o;exact Wu6 (P:=λk=>Zhv N (k,a,b,c)=ret (Wel (k,a,b,c)))
  (o3 (by kernel_rfl) (iR N a) (iV N b) (z0 c))
  (o3 (by kernel_rfl) (iR N a) (iR N b) (iR N c))
  (o3 (by kernel_rfl) (iR N a) (iR N b) (iR N c))
  (o3 (by kernel_rfl) (iR N a) (iR N b) (iR N c))
  (o3 (by kernel_rfl) (iR N a) (iC N b) (z0 c))
  (o3 (by kernel_rfl) (iC N a) (iR N b) (z0 c))
  (o3 (by kernel_rfl) (iR N a) (iI N b) (z0 c))
  (o3 (by kernel_rfl) (iR N a) (z0 b) (z0 c))
  (o3 (by kernel_rfl) (z0 a) (z0 b) (z0 c))
  (o3 (by kernel_rfl) (z0 a) (z0 b) (z0 c))
  (o3 (by kernel_rfl) (z0 a) (z0 b) (z0 c))
  (o3 (by kernel_rfl) (iK N a) (iR N b) (iR N c))
  (o3 (by kernel_rfl) (iR N a) (iK N b) (z0 c))
  (o3 (by kernel_rfl) (iK N a) (iR N b) (z0 c))
  (o3 (by kernel_rfl) (iR N a) (z0 b) (z0 c))
  (o3 (by kernel_rfl) (iR N a) (z0 b) (z0 c))
  (λk e=>by unfold Zhv Wel;simp(disch:=decide) only[e,Wc,Wu]) k
end
section
def Wna{α:Type}(p:Nat->α->Bool):Nat->List α->Bool
 |_,[]=>false
 |j,x::l=>p j x||Wna p (j+1) l
theorem Wdg{α V R:Type}{body:Int->α->V->(V->Option R)->Option R}{K:Int->V->Option R}{p:Nat->α->Bool}{E:V->Option R}:∀(l:List α) (j:Nat) (v:V),(∀(j:Nat) x v k,x∈l->body j x v k=bif p j x then E v else k v)->
  Wb2 body K l j v=bif Wna p j l then E v else K ((j+l.length:Nat):Int) v
 | [],j,v,_=>rfl
 |x::l,j,v,h=>by
  rw[Wb2,h j x v _ (Xh ..),Wdg l (j+1) v λj y v k hy=>h j y v k (Xe _ hy),Wna]
  grind
theorem Wf3{α:Type}{p:Nat->α->Bool}:∀{l:List α} {j:Nat},Wna p j l=true↔∃i,∃h:i<l.length,p (j+i) l[i]=true
 | [],j=>by simp[Wna]
 |x::l,j=>by
  rw[Wna,Xck,Wf3];constructor
  .rintro(h|⟨i,hi,h⟩)
   .exact⟨0,by simp,by grind⟩
   .exact⟨i+1,by simp_all,by grind⟩
  grind
def opd(o:Opn):Int:=bif o.1==8 then 1 else bif o.1==9 then-1 else 0
theorem Wix(o:Opn):-1<=opd o/\opd o<=1:=by unfold opd;cases o.1==8<;>cases o.1==9<;>simp
def dep(l:List Opn)(j:Nat):Int:=((l.take j).map opd).sum
theorem Wc7(l:List Opn):dep l 0=0:=by simp[dep]
theorem WaX{l:List Opn}{j:Nat}(h:j<l.length):dep l (j+1)=dep l j+opd l[j]:=by
 grind [dep,Xbe]
theorem Wt{α:Type}{l:List α}{j:Nat}(h:j<l.length)(d:α):Xb l j d=l[j]:=by simp[h]
theorem Wds(l:List Opn):∀j:Nat,-(j:Int)<=dep l j/\dep l j<=j
 |0=>by simp[dep]
 |j+1=>by
  have ih:=Wds l j;by_cases h:j<l.length
  .have:=Wix l[j]
   grind [WaX]
  grind [dep,List.take_of_length_le]
def bal(l:List Opn):Bool:=!Wna (λj _=>decide (dep l (j+1)<0)) 0 l&&decide (dep l l.length=0)
theorem Wf4{N:Nat}{o:Opn}:Zj5 N o=ret (opd o):=by
 unfold Zj5 opd;cases o.1==8<;>cases o.1==9<;>rfl
theorem WvH(x:Int):(x==(0:Int))=decide (x=0):=by by_cases h:x=0<;>simp[h]
theorem WhS{N:Nat}{l:List Opn}(hl:l.length<=1048576)(hN:1048576<N):Zdk N l=ret (bal l):=by
 unfold Zdk bal;have h1:=Wy (l:=l) (V:=Unit) (R:=Unit×Ko) (lp:=λn j _=>Zb1 N l (some ((),(false,()))) (λtt aF au=>some ((),(tt==(0:Int),()))) n (dep l j.toNat) j) (n:=N) (by omega)
  (body:=λj _ v k=>bif decide (dep l (j.toNat+1)<0)then some ((),(false,()))else k v) (K:=λj _=>some ((),(dep l j.toNat==(0:Int),())))
  (λn i v hi=>by
   have hb:=Wds l i;have hs:=WaX hi;have ho:=Wix l[i];have e:Wm .i64 (dep l i) (opd l[i])=dep l (i+1):=by rw[WJ (by unfold I64;omega),hs]
   simp only[Zb1,WU hi,Wp hi,Wv hi,Wt hi,Wn (show i<4611686018427387904 by omega),We,Wf4,ret,Xd,Xj,e])
  (λn v=>by simp[Zb1,WZ,Xn,Wc]) ()
 have e0:dep l (Xa 0)=0:=Wc7 l;simp only[e0]at h1;refine h1.trans ?_;rw[Wdg (p:=λj _=>decide (dep l (j+1)<0)) (E:=λ_=>some ((),(false,()))) l 0 () (λj x v k _=>rfl)];rw[Xba,Xj,WvH];cases Wna (λj _=>decide (dep l (j+1)<0)) 0 l<;>rfl
theorem Wkc{N:Nat}{l:List Opn}(hl:l.length<=1048576)(hN:1048576<N){i:Nat}(hi:i<=l.length):Zhy N l (i:Int)=ret (dep l i):=by
 unfold Zhy;have h1:=Wy (l:=l) (V:=Unit) (R:=Unit×Ki) (lp:=λn j _=>Zb4 N (i:Int) l (λpT aX cJ=>some ((),(pT,()))) n (dep l (min j.toNat i)) j) (n:=N) (by omega)
  (body:=λj _ v k=>k v) (K:=λj _=>some ((),(dep l (min j.toNat i),())))
  (λn j v hj=>by
   have hb:=Wds l j;have ho:=Wix l[j];simp only[Zb4,WU hj,Wp hj,Wv hj,Wt hj,Wn (show j<4611686018427387904 by omega),We,Wf4,ret,Xd,Xj]
   grind [decide,min,Wm,dep,opd,WJ,I64,WaX])
  (λn v=>by simp[Zb4,WZ,Xn,Wc]) ()
 have e0:dep l (min (Xa 0) i)=0:=by
  simp[min,Xa,Wc7]
 simp only[e0]at h1;refine h1.trans ?_;rw[Wbf (f:=λv _=>v) l 0 () (λj x v k _=>rfl),Xba,Xj,Nat.min_eq_right hi]
theorem Wnr{N:Nat}{l:List Opn}{a b:Nat}(fg:a<=b)(hb:b<=l.length)(hl:l.length<=1048576)(hN:1048576<N):
  Za5 N l (b:Int) (some ((),(false,()))) (λpS bP ai=>some ((),(pS==(0:Int),()))) N 0 (a:Int)=ret (bal ((l.take b).drop a)):=by
 have hlen:((l.take b).drop a).length=b-a:=by simp;omega
 unfold bal;have h1:=Wy (l:=(l.take b).drop a) (V:=Unit) (R:=Unit×Ko) (lp:=λn j _=>Za5 N l (b:Int) (some ((),(false,()))) (λpS bP ai=>some ((),(pS==(0:Int),()))) n (dep ((l.take b).drop a) j.toNat) ((a+j.toNat:Nat):Int)) (n:=N) (by omega)
  (body:=λj _ v k=>bif decide (dep ((l.take b).drop a) (j.toNat+1)<0)then some ((),(false,()))else k v) (K:=λj _=>some ((),(dep ((l.take b).drop a) j.toNat==(0:Int),())))
  (λn i v hi=>by
   have hb':=Wds ((l.take b).drop a) i;have hs:=WaX hi;have ei:((l.take b).drop a)[i]=l[a+i]:=by simp
   rw[ei]at hs;have gd:a+i<l.length:=by omega
   have e1:decide (((a+i:Nat):Int)<(b:Int))=true:=by simp;omega
   have e2:Wm .i64 ((a+i:Nat):Int) 1=((a+(i+1):Nat):Int):=by grind [WJ,I64]
   have e3:Wm .i64 (dep ((l.take b).drop a) i) 1=dep ((l.take b).drop a) i+1:=WJ (by unfold I64;omega);have e4:W1 .i64 (dep ((l.take b).drop a) i) 1=dep ((l.take b).drop a) i+ -1:=by grind [Wak,I64]
   simp only[Za5,e1,Wp gd,Wv gd,Wt gd,e2,e3,e4,We,Xj];unfold opd at hs
   grind)
  (λn v=>by
   have e1:decide (((a+(((l.take b).drop a).length:Int).toNat:Nat):Int)<(b:Int))=false:=by simp_all
   simp only[Za5,e1,Wc]) ()
 have e0:dep ((l.take b).drop a) (Xa 0)=0:=Wc7 _;simp only[e0]at h1;refine h1.trans ?_;rw[Wdg (p:=λj _=>decide (dep ((l.take b).drop a) (j+1)<0)) (E:=λ_=>some ((),(false,()))) _ 0 () (λj x v k _=>rfl)];rw[Xba,Xj,WvH];cases Wna (λj _=>decide (dep ((l.take b).drop a) (j+1)<0)) 0 ((l.take b).drop a)<;>rfl
def Wis(l:List Opn)(i:Nat)(o:Opn):Bool:=decide (i+1+o.2.2.1.toNat<=l.length)&&bal ((l.take (i+1+o.2.2.1.toNat)).drop (i+1))
def frk(l:List Opn)(j:Nat):Nat:=(l.take j).countP λo=>o.1==11
theorem Whp{l:List Opn}{j:Nat}(h:j<l.length):frk l (j+1)=frk l j+(l[j].1==11).toNat:=by
 unfold frk;rw[Xbe h,List.countP_append,List.countP_singleton];cases l[j].1==11<;>rfl
theorem WtJ(l:List Opn)(j:Nat):frk l j<=l.length:=Xcm Xfs (by simp;omega)
def Wtw(l:List Opn)(i:Nat)(o:Opn):Bool:=
 !Wel o||((o.1==7)&& !Wis l i o)||((o.1==11)&&(decide (dep l i>0)||decide (frk l (i+1)>1)))||decide (dep l (i+1)<0)
def Wpv(l:List Opn)(i:Nat)(o:Opn):Bool:=
 !Wel o||((o.1==7)&& !Wis l i o)||((o.1==11)&&(decide (frk l (i+1)>1)|| !decide (dep l i=0)))
def Wps(l:List Opn):Bool:=decide (l.length<=24)&&(bal l&& !Wna (Wpv l) 0 l)
theorem Woa{l:List Opn}{i:Nat}{o:Opn}(hl:l.length<=24)(hi:i<l.length)(ho:Wel o=true)(h7:o.1=7):
  Wm .i64 ((i+1:Nat):Int) o.2.2.1=((i+1+o.2.2.1.toNat:Nat):Int)/\1<=o.2.2.1/\o.2.2.1<=20:=by
 obtain⟨k,a,b,c⟩:=o;simp only at h7;subst h7;have:(W6 a&&(decide (1<=b)&&decide (b<=20))&&(c==(0:Int)))=true:=ho;simp only[Xi,Wh]at this
 grind [WJ,I64]
theorem Wms{N:Nat}{l:List Opn}{i:Nat}(hl:l.length<=24)(hN:1048576<N)(hi:i<l.length)(ho:Wel l[i]=true)(h7:l[i].1=7):Ziw N l (i:Int)=ret (Wis l i l[i]):=by
 obtain⟨e1,h1,h2⟩:=Woa hl hi ho h7;unfold Ziw Wis;simp only[Wp hi,We,Wv hi,Wt hi,e1,Wn (show i<4611686018427387904 by omega)];by_cases h:i+1+l[i].2.2.1.toNat<=l.length
 .have e:decide (((i+1+l[i].2.2.1.toNat:Nat):Int)>Wi l)=false:=by simp[Wi];omega
  rw[e];simp only[Wc];rw[Wnr (by omega) h (by omega) hN];simp[h]
 grind [decide,Wi]
theorem WnS{l:List Opn}:bal l=true↔(∀i,i<l.length->0<=dep l (i+1))/\dep l l.length=0:=by
 unfold bal;rw[Xi,Xap,←Xfn,Wf3,Wh];simp_all
theorem Wlc(l:List Opn):(!Wna (Wtw l) 0 l&&decide (dep l l.length=0))=(bal l&& !Wna (Wpv l) 0 l):=by
 rw[Bool.eq_iff_iff,Xi,Xi,Xap,Xap,←Xfn,←Xfn,Wf3,Wf3,WnS,Wh];constructor
 .rintro⟨h1,h2⟩;have hd:∀i,i<l.length->0<=dep l (i+1):=λi hi=>by
   grind [dep,absurd,Wtw]
  refine⟨⟨hd,h2⟩,?_⟩;rintro⟨i,hi,h⟩;refine h1 ⟨i,hi,?_⟩;have hdi:0<=dep l i:=by
   cases i with
   |zero=>rw[Wc7];omega
   |succ i=>grind
  rw[Xba]at h⊢;unfold Wpv at h;unfold Wtw
  grind
 simp_all [Xba,Wtw,Wpv,Xck,Xi,Wh,Xap,Wx]
theorem Wg3{N:Nat}{l:List Opn}(hl:l.length<=1048576)(hN:1048576<N):Zhl N l=ret (Wps l):=by
 unfold Zhl Wps;by_cases h:l.length<=24
 .have e:decide (Wi l>24)=false:=by simp[Wi];omega
  rw[e];simp only[Wc];have h1:=Wy (l:=l) (V:=Unit) (R:=Unit×Ko) (lp:=λn j _=>Za6 N l (some ((),(false,()))) (λtq kZ xu bV=>some ((),(tq==(0:Int),()))) n (dep l j.toNat) ((frk l j.toNat:Nat):Int) j) (n:=N) (by omega)
   (body:=λj x v k=>bif Wtw l j.toNat x then some ((),(false,()))else k v) (K:=λj _=>some ((),(dep l j.toNat==(0:Int),())))
   (λn i v hi=>by
    have hb:=Wds l i;have hs:=WaX hi;have hf:=Whp hi;have gj:=WtJ l i;have e3:Wm .i64 (dep l i) 1=dep l i+1:=WJ (by unfold I64;omega);have e4:W1 .i64 (dep l i) 1=dep l i+ -1:=by grind [Wak,I64]
    have e5:Wm .i64 ((frk l i:Nat):Int) 1=((frk l i+1:Nat):Int):=by grind [WJ,I64]
    simp only[Za6,WU hi,Wp hi,Wv hi,Wt hi,Wn (show i<4611686018427387904 by omega),We,Xj,Wdo,ret,Xd,e3,e4,e5];unfold Wtw;cases ho:Wel l[i]with
    |false=>rfl
    |true=>
     unfold opd at hs;simp only[Xr,Wc,Xfc];by_cases h8:l[i].1=8
     .simp_all
     .have b8:(l[i].1==8)=false:=by simp[h8]
      by_cases h9:l[i].1=9
      .simp_all
      .have b9:(l[i].1==9)=false:=by simp[h9]
       by_cases h7:l[i].1=7
       .have b7:(l[i].1==7)=true:=by simp[h7]
        have aR:(l[i].1==11)=false:=by simp[h7]
        have xG:=Wms h hN hi ho h7;simp only[b8,b9,b7,aR,We,Wc,Xfk,Xbb,Xey,Xcd,Bool.or_false,Int.add_zero,xG,ret,Xd]at hs hf⊢;simp only[hs,hf];cases Wis l i l[i]<;>rfl
       grind)
   (λn v=>by simp[Za6,WZ,Xn,Wc]) ()
  have e0:dep l (Xa 0)=0:=Wc7 l;have e1:((frk l (Xa 0):Nat):Int)=0:=by simp[frk]
  simp only[e0,e1]at h1;refine h1.trans ?_;rw[Wdg (p:=Wtw l) (E:=λ_=>some ((),(false,()))) l 0 () (λj x v k _=>by rw[Xj])];rw[Xba,Xj,WvH,←Wlc];simp only[h,decide_true,Xcd];cases Wna (Wtw l) 0 l<;>rfl
 grind [decide,Wi]
theorem Wg4{N:Nat}{l:List Opn}(hl:l.length<=1048576)(hN:1048576<N):Zc7 N l=ret (Wps l):=by
 unfold Zc7 Wps;by_cases h:l.length<=24
 .have e:decide (Wi l>24)=false:=by simp[Wi];omega
  rw[e];simp only[Wc,WhS hl hN,ret,Xd,h,decide_true,Xcd];cases qG:bal l with
  |false=>rfl
  |true=>
   simp only[Xr,Wc,Xcd];have h1:=Wy (l:=l) (V:=Unit) (R:=Unit×Ko) (lp:=λn j _=>Zbx N l (some ((),(false,()))) (λla fB t22=>some ((),(true,()))) n ((frk l j.toNat:Nat):Int) j) (n:=N) (by omega)
    (body:=λj x v k=>bif Wpv l j.toNat x then some ((),(false,()))else k v) (K:=λj _=>some ((),(true,())))
    (λn i v hi=>by
     have hf:=Whp hi;have gj:=WtJ l i;have e5:Wm .i64 ((frk l i:Nat):Int) 1=((frk l i+1:Nat):Int):=by grind [WJ,I64]
     simp only[Zbx,WU hi,Wp hi,Wv hi,Wt hi,We,Xj,WeL,ret,Xd,e5];unfold Wpv;cases ho:Wel l[i]with
     |false=>rfl
     |true=>
      simp only[Xr,Wc,Xfc];by_cases h7:l[i].1=7
      .have b7:(l[i].1==7)=true:=by simp[h7]
       have aR:(l[i].1==11)=false:=by simp[h7]
       obtain⟨en,h1,h2⟩:=Woa h hi ho h7;simp only[b7,aR,We,en,Wn (show i<4611686018427387904 by omega),Xfk,Xbb,Xey,Xcd,Bool.or_false]at hf⊢;simp only[hf];unfold Wis;by_cases hq:i+1+l[i].2.2.1.toNat<=l.length
       .have q1:decide (((i+1+l[i].2.2.1.toNat:Nat):Int)>Wi l)=false:=by simp[Wi];omega
        have q2:(((decide ((0:Int)<=((i+1+l[i].2.2.1.toNat:Nat):Int)))&&(decide (((i+1+l[i].2.2.1.toNat:Nat):Int)<=((Xc l):Int))))&&(decide ((0:Int)<=((i+1:Nat):Int)))&&(decide (((i+1:Nat):Int)<=((i+1+l[i].2.2.1.toNat:Nat):Int))))=true:=by simp;omega
        rw[q1,q2];simp only[Wc,We,Xj];rw[WhS (by simp;omega) hN];simp_all
       grind [decide,Wi]
      .have b7:(l[i].1==7)=false:=by simp[h7]
       by_cases fw:l[i].1=11
       .have aR:(l[i].1==11)=true:=by simp[fw]
        simp only[b7,aR,We,Wc,Bool.toNat_true,Xey,Xcd,Xfc,Wkc hl hN (Nat.le_of_lt hi),ret,Xd,Wn (show i<4611686018427387904 by omega)]at hf⊢;simp only[hf];have ef:decide (((frk l i+1:Nat):Int)>1)=decide (frk l i+1>1):=by grind
        have e0:(dep l i !=0)= !decide (dep l i=0):=by rw[bne,WvH]
        rw[ef,e0];cases decide (frk l i+1>1)<;>cases decide (dep l i=0)<;>rfl
       .have aR:(l[i].1==11)=false:=by simp[fw]
        simp only[b7,aR,We,Wc,Xfk,Xbb,Xey,Xfc,Wn (show i<4611686018427387904 by omega)]at hf⊢;simp_all)
    (λn v=>by simp[Zbx,WZ,Xn,Wc]) ()
   have e1:((frk l (Xa 0):Nat):Int)=0:=by simp[frk]
   simp only[e1]at h1;refine h1.trans ?_;rw[Wdg (p:=Wpv l) (E:=λ_=>some ((),(false,()))) l 0 () (λj x v k _=>by rw[Xj])];cases Wna (Wpv l) 0 l<;>rfl
 grind [decide,Wi]
end
section
def stk(l:List Opn):Nat->List Nat
 |0=>[]
 |j+1=>bif (l.getD j (0,0,0,0)).1==8 then stk l j++ [j]else bif (l.getD j (0,0,0,0)).1==9 then(stk l j).dropLast else stk l j
theorem Wkj{l:List Opn}{j:Nat}(h:j<l.length)(h8:l[j].1=8):stk l (j+1)=stk l j++ [j]:=by
 grind [stk,Wt]
theorem WmQ{l:List Opn}{j:Nat}(h:j<l.length)(h9:l[j].1=9):stk l (j+1)=(stk l j).dropLast:=by
 grind [stk,Wt]
theorem WfR{l:List Opn}{j:Nat}(h:j<l.length)(h8:l[j].1≠8)(h9:l[j].1≠9):stk l (j+1)=stk l j:=by
 grind [stk,Wt]
theorem Wua{o:Opn}(h:o.1=8):opd o=1:=by unfold opd;simp[h]
theorem WpO{o:Opn}(h:o.1=9):opd o= -1:=by unfold opd;simp[h]
theorem Wuc{o:Opn}(h8:o.1≠8)(h9:o.1≠9):opd o=0:=by
 grind [opd]
theorem Wb4{α:Type}(l:List α):l= []\/∃q x,l=q++ [x]:=by
 rcases List.eq_nil_or_concat l with h|⟨q,x,h⟩
 .grind
 simp_all
def Up(l:List Opn):Prop:=∀i,i<l.length->0<=dep l (i+1)
theorem Up.at{l:List Opn}(h:Up l){j:Nat}(hj:j<=l.length):0<=dep l j:=by
 cases j with
 |zero=>rw[Wc7];omega
 |succ j=>exact h j hj
theorem WbB{l:List Opn}(h:Up l):∀j,j<=l.length->((stk l j).length:Int)=dep l j
 |0,_=>by rw[Wc7];rfl
 |j+1,hj=>by
  have hj':j<l.length:=hj;have ih:=WbB h j (by omega);have hd:=WaX hj';have hu:=h j hj'
  grind [Wkj,Wua,Xac,WmQ,WpO,Xep,WfR,Wuc]
theorem Wku{l:List Opn}:∀(j:Nat),j<=l.length->∀(s t:List Nat) (m:Nat),stk l j=s++m::t->
  m<j/\(∃h:m<l.length,l[m].1=8)/\stk l m=s/\∀i,m<i->i<=j->∃t',stk l i=s++m::t'
 |0,_,s,t,m,h=>by simp[stk]at h
 |j+1,hj,s,t,m,h=>by
  have hj':j<l.length:=hj;have ih:=Wku (l:=l) j (by omega);have next:∀t0,stk l j=s++m::t0->m<j+1/\(∃h:m<l.length,l[m].1=8)/\stk l m=s/\∀i,m<i->i<=j+1->∃t',stk l i=s++m::t':=λt0 h0=>by
   grind
  by_cases h8:l[j].1=8
  .rw[Wkj hj' h8]at h;rcases Wb4 t with rfl|⟨t0,x,rfl⟩
   .obtain⟨e1,e2⟩:=Xeh (h:stk l j++ [j]=s++ [m]) rfl
    grind [Wkj]
   .have h2:stk l j++ [j]=(s++m::t0)++ [x]:=by rw[h,List.append_assoc,List.cons_append]
    obtain⟨e1,e2⟩:=Xeh h2 rfl
    grind [stk,Wkj]
  .by_cases h9:l[j].1=9
   .rw[WmQ hj' h9]at h;rcases Wb4 (stk l j)with h0|⟨q,x,hq⟩
    .simp_all
    simp_all
   grind [WfR]
theorem Wn1{l:List Opn}{a b:Nat}(fg:a<=b)(hb:b<=l.length)(qG:bal ((l.take b).drop a)=true):stk l b=stk l a:=by
 obtain⟨h1,h2⟩:=WnS.1 qG;have hlen:((l.take b).drop a).length=b-a:=by simp;omega
 have key:∀i,i<=b-a->∃t,stk l (a+i)=stk l a++t/\(t.length:Int)=dep ((l.take b).drop a) i:=by
  intro i
  induction i with
  |zero=>simp[Wc7]
  |succ i ih=>
   intro hi;obtain⟨t,xH,xI⟩:=ih (by omega);have gd:a+i<l.length:=by omega
   have mU:i<((l.take b).drop a).length:=by omega
   have hd:=WaX mU;have ei:((l.take b).drop a)[i]=l[a+i]:=by simp
   rw[ei]at hd;have hu:=h1 i mU;by_cases h8:l[a+i].1=8
   .grind [Xay,Wkj,Wua,Xac]
   .by_cases h9:l[a+i].1=9
    .grind [WpO,Xay,WmQ,List.dropLast_append_of_ne_nil,Xep]
    grind [Xay,WfR,Wuc]
 obtain⟨t,xH,xI⟩:=key (b-a) (Xn _);simp_all
structure Mate(l:List Opn)(m k:Nat):Prop where
 lt:m<k
 len:k<l.length
 eq:dep l (k+1)=dep l m
 ne:∀i,m<=i->i<k->dep l (i+1)≠dep l m
 st:stk l (k+1)=stk l m
theorem Wt3{l:List Opn}(hu:Up l)(h0:dep l l.length=0){j m:Nat}{s:List Nat}(hj:j<=l.length)(hs:stk l j=s++ [m]):∃k,j<=k/\Mate l m k/\stk l m=s:=by
 obtain⟨a,⟨hm,h8⟩,c,d⟩:=Wku j hj s [] m hs;have tU:=WbB hu m (by omega);have low:∀i,m<=i->i<j->dep l (i+1)≠dep l m:=λi h1 h2=>by
  grind [WbB]
 have eQ:=hu.at (show m<=l.length by omega);have ex:∀n i,l.length-i=n->j<=i->i<=l.length->(∀i',m<=i'->i'<i->dep l (i'+1)≠dep l m)->dep l m<dep l i->∃k,j<=k/\k<l.length/\dep l (k+1)=dep l m/\∀i',m<=i'->i'<k->dep l (i'+1)≠dep l m:=by
  intro n
  induction n with
  |zero=>grind
  |succ n ih=>
   intro i h1 h2 h3 h4 h5;have gd:i<l.length:=by omega
   by_cases he:dep l (i+1)=dep l m
   .grind
   .have hd:=WaX gd;have ho:=Wix l[i]
    grind
 have kP:dep l m<dep l j:=by
  grind [WbB]
 obtain⟨k,k1,k2,k3,k4⟩:=ex _ j rfl (Xn _) hj low kP;have nW:m<k:=by omega
 have pre:∀n i,i=m+1+n->i<=k->∃t,stk l i=s++m::t:=by
  intro n
  induction n with
  |zero=>grind
  |succ n ih=>
   intro i h1 h2;obtain⟨t,ht⟩:=ih (m+1+n) rfl (by omega);have e:i=(m+1+n)+1:=by omega
   have gd:m+1+n<l.length:=by omega
   by_cases g8:l[m+1+n].1=8
   .grind [Wkj]
   .by_cases g9:l[m+1+n].1=9
    .rcases Wb4 t with rfl|⟨t0,x,rfl⟩
     .grind [WmQ,stk,WbB]
     grind [WmQ,Xeo]
    grind [WfR]
 obtain⟨t,ht⟩:=pre (k-m-1) k (by omega) (Xn _);have v8:=WbB hu k (by omega);have xJ:=WaX k2;rw[ht]at v8;rw[c]at tU;simp at v8;have aY:=Wix l[k];have g9:l[k].1=9:=by
  grind [Wua,Wuc]
 have xK:t= []:=List.eq_nil_of_length_eq_zero (by omega);subst xK;refine⟨k,k1,⟨nW,k2,k3,k4,?_⟩,c⟩
 grind [WmQ]
theorem Wn9{l:List Opn}{m i:Nat}:((dep l (i+1) -dep l m)==(0:Int))=decide (dep l (i+1)=dep l m):=by
 grind
theorem Wii{N:Nat}{l:List Opn}{m k:Nat}(hl:l.length<=1048576)(hN:1048576<N)(h8:∃h:m<l.length,l[m].1=8)(hm:Mate l m k):Zid N l (m:Int)=ret (k:Int):=by
 obtain⟨oi,h8⟩:=h8;unfold Zid;have e1:W1 .i64 (Wi l) 1=(l.length:Int) -1:=Wak (by unfold I64 Wi;omega);have e2:(decide (0<=(m:Int))&&decide ((m:Int)<=(l.length:Int) -1))=true:=by simp;omega
 have e3:(l[m].1 !=8)=false:=by simp[h8]
 simp only[WS,ret,Xd,e1,e2,Xr,Wc,Wp oi,We,Wv oi,e3];have key:∀(c n i:Nat),k-i=c->m<=i->i<=k->l.length-i<n->∀{R:Type} (K0:Int->Option R) (K1:Int->Int->Bool->Option R),Zep N l K0 K1 n (dep l i-dep l m) (i:Int)=K0 k:=by
  intro c
  induction c with
  |zero=>
   intro n i h1 h2 h3 h4 R K0 K1;have:i=k:=by omega
   subst this;cases n with
   |zero=>omega
   |succ n=>
    have gd:=hm.len;have hd:=WaX gd;have hb:=Wds l i;have jS:=Wds l m;have ho:=Wix l[i];have e:Wm .i64 (dep l i-dep l m) (opd l[i])=dep l (i+1) -dep l m:=by grind [WJ,I64]
    simp only[Zep,WU gd,Wp gd,Wv gd,We,Wf4,ret,Xd,e];rw[Wn9];simp[hm.eq]
  |succ c ih=>
   intro n i h1 h2 h3 h4 R K0 K1;cases n with
   |zero=>omega
   |succ n=>
    have hk:=hm.len;have gd:i<l.length:=by omega
    have hd:=WaX gd;have hb:=Wds l i;have jS:=Wds l m;have ho:=Wix l[i];have e:Wm .i64 (dep l i-dep l m) (opd l[i])=dep l (i+1) -dep l m:=by grind [WJ,I64]
    have hne:=hm.ne i h2 (by omega);simp only[Zep,WU gd,Wp gd,Wv gd,We,Wf4,ret,Xd,e,Wn9,hne,decide_false,Wc,Wn (show i<4611686018427387904 by omega)];exact ih n (i+1) (by omega) (by omega) (by omega) (by omega) K0 K1
 have:=key (k-m) N m rfl (Xn _) (by have:=hm.lt;omega) (by omega) (R:=Unit×Ki) (λaF=>some ((),(aF,()))) (λpT eJ cJ=>some ((),((-1:Int),())));simp_all
end
section
abbrev Wd:=Int×Int×Int
abbrev Mm:=Int×List Wd
theorem WfJ{α:Type}(a:Option α):Whh a a=a:=by unfold Whh;simp
def Wp0(clock:Int)(w:Wd):Bool:=WbH w.1&&((decide (0<=w.2.1)&&decide (w.2.1<=clock))&&(decide (0<=w.2.2)&&decide (w.2.2<=99)))
def W2(m:Mm):Bool:=decide (m.2.length=8)&&((decide (0<=m.1)&&decide (m.1<=1000000))&&m.2.all (Wp0 m.1))
theorem Wbg{N:Nat}{m:Mm}(hl:m.2.length<=1048576)(hN:1048576<N):Zcr N m=ret (W2 m):=by
 unfold Zcr W2;have h1:=Wy (l:=m.2) (V:=Unit) (R:=Unit×Ko) (lp:=λn j v=>Zen N m.2 m (some ((),(false,()))) (λbV eI=>
  (bif (Wi m.2)==(8:Int)then
  ((Zl N m.1 (0:Int) (1000000:Int)).bind λfA=>
  (some ((),(fA.2.1,()))))
  else
  (some ((),(false,()))))) n j) (n:=N) (by omega)
  (body:=λj x v k=>bif !Wp0 m.1 x then some ((),(false,()))else k v) (K:=λ_ v=>(bif (Wi m.2)==(8:Int)then
  ((Zl N m.1 (0:Int) (1000000:Int)).bind λfA=>
  (some ((),(fA.2.1,()))))
  else
  (some ((),(false,())))))
  (λn i v hi=>by
   simp only[Zen,WU hi,Wp hi,Wv hi,Wn (show i<4611686018427387904 by omega),We,Wat,WS,ret,Xd,Wp0];cases WbH m.2[i].1<;>cases(decide (0<=m.2[i].2.1)&&decide (m.2[i].2.1<=m.1))<;>cases(decide (0<=m.2[i].2.2)&&decide (m.2[i].2.2<=99))<;>rfl)
  (λn v=>by simp[Zen,WZ,Xn,Wc]) ()
 refine h1.trans ?_;rw[Wau (p:=λx=>!Wp0 m.1 x) (E:=λ_=>some ((),(false,()))) m.2 0 () (λj x v k _=>rfl),Wb6];have e:((Wi m.2)==(8:Int))=decide (m.2.length=8):=by
  grind [Wi]
 simp only[e,WS,ret,Xd];cases m.2.all (Wp0 m.1)<;>cases decide (m.2.length=8)<;>simp
def wd0(v:Int):Wd:=(v,(0,0))
def Wjx(l:List Int):Mm:=(0,l.map wd0)
theorem WcE{α β R:Type}{body:Int->α->List β->(List β->Option R)->Option R}{K:Int->List β->Option R}{f:α->β}:∀(l:List α) (j:Nat) (o:List β),o.length+l.length<=1000000->
  (∀(j:Nat) x (v:List β) k,x∈l->body j x v k=bif WH (v.length+ [f x].length)then k (Xf v [f x])else none)->Wb2 body K l j o=K ((j+l.length:Nat):Int) (o++l.map f)
 | [],j,o,_,_=>by simp[Wb2]
 |x::l,j,o,h,hb=>by
  rw[Xx]at h;rw[Wb2,hb j x o _ (Xh ..),WC (by simp;omega)];simp only[We];rw[WcE l (j+1) _ (by grind [Xak]) λj y v k hy=>hb j y v k (Xe _ hy)];rw[Xx,show j+1+l.length=j+(l.length+1) by omega];simp
theorem WiL{N:Nat}{l:List Int}(h:Wec l=true)(hN:1048576<N):Zcb N l=some ((),(Wjx l,(true,()))):=by
 have hl:l.length=8:=by grind [Wec]
 unfold Zcb;simp only[Wch (show l.length<=1048576 by omega) hN,ret,Xd,h,Xr,Wc];have h1:=Wy (l:=l) (V:=List Wd) (R:=Unit×(Mm×Ko)) (lp:=λn j v=>Zdm N l (λai aF bj=>(some ((),(((0:Int),bj),(true,()))))) n j v) (n:=N) (by omega)
  (body:=λj x v k=>bif WH (v.length+ [wd0 x].length)then k (Xf v [wd0 x])else none) (K:=λ_ v=>some ((),(((0:Int),v),(true,()))))
  (λn i v hi=>by simp only[Zdm,WU hi,Wp hi,Wv hi,Wn (show i<4611686018427387904 by omega),We,wd0])
  (λn v=>by simp[Zdm,WZ,Xn,Wc]) []
 refine h1.trans ?_;rw[WcE (f:=wd0) l 0 [] (by simp;omega) (λj x v k _=>rfl)];rfl
theorem WP{m:Mm}(h:W2 m=true):m.2.length=8/\0<=m.1/\m.1<=1000000/\∀w∈m.2,Wp0 m.1 w=true:=by
 simp_all [W2,Xi,Wh,Xai]
def tick(m:Mm):Mm×Int:=if m.1<1000000 then((m.1+1,m.2),m.1+1)else(m,0)
theorem WlC{N:Nat}{m:Mm}(h:W2 m=true)(hN:1048576<N):Zpn N m=some ((),((tick m).1,((tick m).2,()))):=by
 obtain⟨h8,h0,h1,_⟩:=WP h;have e:Zcd N m=ret m:=by grind [Zcd,WC]
 unfold Zpn tick;simp only[e,Wbg (show m.2.length<=1048576 by omega) hN,ret,Xd,h,Xr,Wc];by_cases hc:m.1<1000000
 .have e2:(m.1==1000000)=false:=by simp;omega
  have e3:Wm .i64 m.1 1=m.1+1:=WJ (by unfold I64;omega)
  grind
 grind
abbrev Pb:=Int×Int×Int×Int
def Wkn(p:Pb):Bool:=Wai p.1&&((decide (0<=p.2.1)&&decide (p.2.1<=4))&&((decide (0<=p.2.2.1)&&decide (p.2.2.1<=1000000))&&WbH p.2.2.2))
theorem WmK{N:Nat}{p:Pb}:Zmx N p=ret (Wkn p):=by
 unfold Zmx Wkn;simp only[WaD,WS,Wat,ret,Xd];cases Wai p.1<;>cases(decide (0<=p.2.1)&&decide (p.2.1<=4))<;>cases(decide (0<=p.2.2.1)&&decide (p.2.2.1<=1000000))<;>simp
def WV(m:Mm)(rv:Int)(p:Pb):Pb:=
 let w:=Xb m.2 (Xa p.1) (0,(0,0))
 bif p.2.1==0 then(bif w.2.2==0 then(bif decide (w.2.1<=rv)then(p.1,(1,(w.2.1,p.2.2.2)))else(p.1,(4,p.2.2)))else(p.1,(4,p.2.2)))
 else bif p.2.1==1 then(p.1,(2,(p.2.2.1,w.1)))
 else bif p.2.1==2 then(bif w.2.2==0 then(bif w.2.1==p.2.2.1 then(p.1,(3,p.2.2))else(p.1,(4,p.2.2)))else(p.1,(4,p.2.2)))
 else p
theorem Wu1{m:Mm}{p:Pb}(h:W2 m=true)(hp:Wkn p=true):inb p.1 m.2.length=true:=by
 grind [WP,Wkn,Wai,inb]
theorem WeG{N:Nat}{m:Mm}{rv:Int}{p:Pb}(h:W2 m=true)(hp:Wkn p=true)(hN:1048576<N):Zeo N m rv p=ret (WV m rv p):=by
 have h1:=(WP h).1;unfold Zeo WV;simp only[Wbg (show m.2.length<=1048576 by omega) hN,WmK,ret,Xd,h,hp,Xr,Wc,Wu1 h hp,We];generalize Xb m.2 (Xa p.1) (0,(0,0))=w;cases p.2.1==0<;>cases p.2.1==1<;>cases p.2.1==2<;>cases w.2.2==0<;>cases decide (w.2.1<=rv)<;>cases w.2.1==p.2.2.1<;>rfl
def We3(l:List Rw)(c:Int):Nat->Option Int
 |0=>none
 |i+1=>if(Xb l i (0,0)).1=c then some (Xb l i (0,0)).2 else We3 l c i
def Wa1(l:List Rw)(c:Int):Option Int:=if WaT l=true then We3 l c l.length else none
def opI(o:Option Int):Option (Unit×Kl):=match o with
 |none=>some ((),((0:Int),(false,())))
 |some v=>some ((),(v,(true,())))
theorem Wig{N:Nat}{l:List Rw}{c:Int}(hl:l.length<=1048576):∀(i n:Nat),i<n->i<=l.length->Zhb N l c (λaw=>(some ((),(aw,(true,()))))) (λol ai=>(some ((),((0:Int),(false,()))))) n ((i:Int) -1)=opI (We3 l c i)
 |i,0,h,_=>by omega
 |0,n+1,h,_=>rfl
 |i+1,n+1,h,hi=>by
  have e:((i+1:Nat):Int) -1=(i:Int):=by omega
  have e1:decide ((i:Int)>=0)=true:=by simp
  have e2:W1 .i64 (i:Int) 1=(i:Int) -1:=Wak (by unfold I64;omega);rw[e,Zhb,e1,Wp (show i<l.length by omega),e2,We3,Xj];simp only[We];by_cases hc:(Xb l i ((0:Int),(0:Int))).1=c
  .rw[Wb hc,beq_iff_eq.2 hc];rfl
  .rw[Wa hc,beq_eq_false_iff_ne.2 hc];exact Wig hl i n (by omega) (by omega)
theorem WoR{α:Type}{l:List α}(hl:l.length<=1048576):W1 .i64 (Wi l) 1=((l.length:Nat):Int) -1:=by grind [Wi,Wak,I64]
theorem Wd8{N:Nat}{l:List Rw}{c:Int}(hl:l.length<=1048576)(hN:1048576<N):Zhw N l c=opI (Wa1 l c):=by
 unfold Zhw Wa1;simp only[Wap hl hN,ret,Xd];cases WaT l
 .rfl
 .simp only[Xr,Wc,Waw,WoR hl];exact Wig hl l.length N (by omega) (Xn _)
end
section
def WjY(l:List Rw)(o:List Rw)(c:Nat):List Rw:=match Wa1 l c with
 |none=>o
 |some v=>o++ [((c:Int),v)]
def WkM(l:List Rw):Nat->Nat->List Rw->List Rw
 |0,_,o=>o
 |j+1,c,o=>WkM l j (c+1) (WjY l o c)
def WbU(l:List Rw):List Rw:=WkM l 8 0 []
theorem Wgs{N:Nat}{l:List Rw}(hl:l.length<=1048576)(hN:1048576<N):∀(j n c:Nat) (o:List Rw),c+j=8->j<n->o.length<=c->Zgn N l (λay ai aJ=>(some ((),(aJ,())))) n (c:Int) o=ret (WkM l j c o)
 |j,0,c,o,_,h,_=>by omega
 |0,n+1,c,o,h,_,_=>by
  have:c=8:=by omega
  subst this;rfl
 |j+1,n+1,c,o,h,h1,ho=>by
  have e:decide ((c:Int)<8)=true:=by simp;omega
  rw[Zgn,e,Wd8 hl hN,Wn (by omega),WkM,WjY];simp only[We];rcases Wa1 l c with _|v
  .exact Wgs hl hN j n (c+1) o (by omega) (by omega) (by omega)
  .have er:WH (o.length+ [((c:Int),v)].length)=true:=WC (by simp;omega);simp only[opI,Xd,We,er];exact Wgs hl hN j n (c+1) _ (by omega) (by omega) (by simp;omega)
theorem Wl1{l:List Rw}(h:WaT l=false):∀(j c:Nat) (o:List Rw),WkM l j c o=o
 |0,_,_=>rfl
 |j+1,c,o=>by
  have e:Wa1 l c=none:=by grind [Wa1]
  rw[WkM,WjY,e];exact Wl1 h j (c+1) o
theorem WdL{N:Nat}{l:List Rw}(hl:l.length<=1048576)(hN:1048576<N):Zgz N l=ret (WbU l):=by
 unfold Zgz;simp only[Wap hl hN,ret,Xd];cases h:WaT l
 .grind [WbU,Wl1]
 .exact Wgs hl hN 8 N 0 [] rfl (by omega) (by simp)
def fnd{α:Type}(p:α->Bool):List α->Nat->Option (Nat×α)
 | [],_=>none
 |x::l,j=>bif p x then some (j,x)else fnd p l (j+1)
theorem WfT{α V R:Type}{body:Int->α->V->(V->Option R)->Option R}{K:Int->V->Option R}{p:α->Bool}{E:Int->α->Option R}:∀(l:List α) (j:Nat) (v:V),(∀(j:Nat) x v k,x∈l->body j x v k=bif p x then E j x else k v)->
  Wb2 body K l j v=match fnd p l j with|some r=>E r.1 r.2|none=>K ((j+l.length:Nat):Int) v
 | [],j,v,_=>rfl
 |x::l,j,v,h=>by
  rw[Wb2,h j x v _ (Xh ..),fnd,WfT l (j+1) v λj y v k hy=>h j y v k (Xe _ hy)]
  grind
theorem Wcr{α:Type}{p:α->Bool}:∀{l:List α} {j:Nat} {r:Nat×α},fnd p l j=some r->p r.2=true/\j<=r.1/\r.1<j+l.length/\l[r.1-j]?=some r.2
 | [],j,r,h=>by cases h
 |x::l,j,r,h=>by
  rw[fnd]at h;cases hp:p x
  .rw[hp]at h;obtain⟨h1,h2,h3,h4⟩:=Wcr (l:=l) h
   grind
  grind
theorem WfZ{α:Type}{p:α->Bool}:∀{l:List α} {j:Nat},fnd p l j=none->∀x∈l,p x=false
 | [],j,h=>by simp
 |x::l,j,h=>by
  rw[fnd]at h;cases hp:p x
  .rw[hp]at h;intro y hy;rcases Xq.1 hy with rfl|hy
   .exact hp
   .exact WfZ h y hy
  simp_all
abbrev En:=Int×Int×Int
def ent(b:List En)(c:Int):Option (Nat×En):=fnd (λe=>e.1==c) b 0
theorem Wfk{N:Nat}{f:Y_Family}{c:Int}(hl:f.2.2.2.2.2.2.1.length<=1048576)(hN:1048576<N):Zci N f c=ret (match ent f.2.2.2.2.2.2.1 c with|some r=>(r.1:Int)|none=>-1):=by
 unfold Zci;show((Zn N f.2.2.2.2.2.2.1 c).bind _)=_;generalize f.2.2.2.2.2.2.1=b at hl;unfold Zn ent;have h1:=Wy (l:=b) (V:=Unit) (R:=Ki×Ki) (lp:=λn j v=>Zf N b (λaX aZ=>(some ((aZ,()),(aX,())))) (λbV eI bu=>(some ((bu,()),((-1:Int),())))) n j c) (n:=N) (by omega)
  (body:=λj x v k=>bif x.1==c then some ((c,()),(j,()))else k v) (K:=λ_ v=>some ((c,()),((-1:Int),())))
  (λn i v hi=>by simp only[Zf,Zj6,WU hi,Wp hi,Wv hi,Wn (show i<4611686018427387904 by omega),We,Xd])
  (λn v=>by simp[Zf,WZ,Xn,Wc]) ()
 rw[h1,WfT (p:=λe=>e.1==c) (E:=λj x=>some ((c,()),(j,()))) b 0 () (λj x v k _=>rfl)];cases fnd (λe:En=>e.1==c) b 0<;>rfl
theorem Wa2{N:Nat}{l:List Int}(h:l.length<=1048576):Zp N l=ret l:=by
 grind [Zp,WC]
theorem WcG{N:Nat}{l:List Rw}(h:l.length<=1048576):Za1 N l=ret l:=by
 grind [Za1,WC]
end
section
theorem WoQ{N:Nat}{o:Opn}:∃t:Int,Zcc N o=ret t/\Zhx N o=ret t:=by
 unfold Zcc Zhx;rw[Wdo,WeL];simp only[ret,Xd];cases Wel o
 .simp_all
 .cases o.1==5<;>cases o.1==6<;>cases o.1==12<;>cases o.1==13<;>cases o.1==14<;>cases o.1==15<;>cases o.1==16<;>exact⟨_,rfl,rfl⟩
noncomputable def WiG(o:Opn):Int:=match Zcc 0 o with|some (_,(t,_))=>t|none=>0
theorem WuX{N:Nat}{o:Opn}:Zcc N o=Zcc 0 o:=by
 unfold Zcc;rw[Wdo,Wdo]
theorem WdC{N:Nat}{o:Opn}:Zcc N o=ret (WiG o):=by
 rw[WuX];obtain⟨t,h,_⟩:=WoQ (N:=0) (o:=o);unfold WiG;rw[h]
theorem Wgb{N:Nat}{o:Opn}:Zhx N o=ret (WiG o):=by
 obtain⟨t,h,h2⟩:=WoQ (N:=N) (o:=o);rw[h2,←h,WdC]
noncomputable def WfS(o:Opn):Bool:=(o.1==11)||(WiG o==2)
noncomputable def Wgt(l:List Opn):Bool:=Wps l&& !l.any WfS
theorem Whb{N:Nat}{l:List Opn}(hl:l.length<=1048576)(hN:1048576<N):Zgm N l=ret (l.any λo=>o.1==11):=by
 unfold Zgm;have h1:=Wy (l:=l) (V:=Unit) (R:=Unit×Ko) (lp:=λn j v=>Zcq N l (some ((),(true,()))) (λi8 t9=>some ((),(false,()))) n j) (n:=N) (by omega)
  (body:=λj x v k=>bif x.1==11 then some ((),(true,()))else k v) (K:=λ_ v=>some ((),(false,())))
  (λn i v hi=>by simp only[Zcq,WU hi,Wp hi,Wv hi,Wn (show i<4611686018427387904 by omega),We])
  (λn v=>by simp[Zcq,WZ,Xn,Wc]) ()
 refine h1.trans ?_;rw[Wau (p:=λx:Opn=>x.1==11) (E:=λ_=>some ((),(true,()))) l 0 () (λj x v k _=>rfl)];cases l.any λo:Opn=>o.1==11<;>rfl
theorem WnR{N:Nat}{l:List Opn}(hl:l.length<=1048576)(hN:1048576<N):Zib N l=ret (Wgt l):=by
 unfold Zib Wgt;simp only[Wg3 hl hN,ret,Xd];cases Wps l with
 |false=>rfl
 |true=>
  simp only[Whb hl hN,ret,Xd,Xr,Wc,Xcd];have h1:=Wy (l:=l) (V:=Unit) (R:=Unit×Ko) (lp:=λn j v=>Zel N l (some ((),(false,()))) (λi8 t9=>some ((),(true,()))) n j) (n:=N) (by omega)
   (body:=λj x v k=>bif WiG x==2 then some ((),(false,()))else k v) (K:=λ_ v=>some ((),(true,())))
   (λn i v hi=>by simp only[Zel,WU hi,Wp hi,Wv hi,Wn (show i<4611686018427387904 by omega),We,WdC,ret,Xd])
   (λn v=>by simp[Zel,WZ,Xn,Wc]) ()
  (try simp only[]at h1)
  rw[h1,Wau (p:=λx=>WiG x==2) (E:=λ_=>some ((),(false,()))) l 0 () (λj x v k _=>rfl)];have e:l.any WfS=((l.any λo=>o.1==11)||l.any λo=>WiG o==2):=by
   grind [WfS,WiG]
  rw[e];cases l.any λo:Opn=>o.1==11<;>cases l.any λo=>WiG o==2<;>rfl
theorem Wnf{N:Nat}{l:List Opn}(hl:l.length<=1048576)(hN:1048576<N):Zic N l=ret (Wgt l):=by
 unfold Zic Wgt;have h1:=Wy (l:=l) (V:=Unit) (R:=Unit×Ko) (lp:=λn j v=>Zem N l (some ((),(false,()))) (λay ai=>((Zc7 N l).bind λcH=>(some ((),(cH.2.1,()))))) n j) (n:=N) (by omega)
  (body:=λj x v k=>bif WfS x then some ((),(false,()))else k v) (K:=λ_ v=>ret (Wps l))
  (λn i v hi=>by
   simp only[Zem,WU hi,Wp hi,Wv hi,Wn (show i<4611686018427387904 by omega),We,Wgb,ret,Xd,WfS];cases l[i].1==11<;>rfl)
  (λn v=>by simp_all [Zem,WZ,Xn,Wc,Wg4,ret,Xd]) ()
 refine h1.trans ?_;rw[Wau (p:=WfS) (E:=λ_=>some ((),(false,()))) l 0 () (λj x v k _=>rfl)];cases l.any WfS<;>cases Wps l<;>rfl
def We6(l:List Int):Bool:=decide (l.length=4)&&l.all WbH
theorem Wc9{N:Nat}{l:List Int}(hl:l.length<=1048576)(hN:1048576<N):Z7 N l 4=ret (We6 l):=by
 unfold Z7 We6;have h1:=Wy (l:=l) (V:=Unit) (R:=Unit×Ko) (lp:=λn j v=>Zaz N l 4 (some ((),(false,()))) (λi8 t9=>some ((),((Wi l)==(4:Int),()))) n j) (n:=N) (by omega)
  (body:=λj x v k=>bif !WbH x then some ((),(false,()))else k v) (K:=λ_ v=>some ((),((Wi l)==(4:Int),())))
  (λn i v hi=>by simp only[Zaz,WU hi,Wp hi,Wv hi,Wn (show i<4611686018427387904 by omega),We,Wat,ret,Xd])
  (λn v=>by simp[Zaz,WZ,Xn,Wc]) ()
 refine h1.trans ?_;rw[Wau (p:=λx=>!WbH x) (E:=λ_=>some ((),(false,()))) l 0 () (λj x v k _=>rfl),Wb6];have e:((Wi l)==(4:Int))=decide (l.length=4):=by
  grind [Wi]
 rw[e];cases l.all WbH<;>simp
end
section
section
variable{o:Opn}
theorem Wp6(h:Wel o=true)(h1:1<=o.1)(h4:o.1<=4):W6 o.2.1=true/\(o.1=1->WbH o.2.2.1=true)/\(o.1≠1->W6 o.2.2.1=true/\W6 o.2.2.2=true):=by
 obtain⟨k,a,b,c⟩:=o;simp only at h1 h4;have:k=1\/k=2\/k=3\/k=4:=by omega
 rcases this with rfl|rfl|rfl|rfl
 .have:(W6 a&&WbH b&&(c==(0:Int)))=true:=h;simp_all
 all_goals
  have:(W6 a&&W6 b&&W6 c)=true:=h;simp_all
theorem Wto(h:Wel o=true)(h5:o.1=5):W6 o.2.1=true/\Wai o.2.2.1=true:=by
 obtain⟨k,a,b,c⟩:=o;simp only at h5;subst h5;have:(W6 a&&Wai b&&(c==(0:Int)))=true:=h;simp_all
theorem WvR(h:Wel o=true)(h5:o.1=6):Wai o.2.1=true/\W6 o.2.2.1=true:=by
 obtain⟨k,a,b,c⟩:=o;simp only at h5;subst h5;have:(Wai a&&W6 b&&(c==(0:Int)))=true:=h;simp_all
theorem Wvh(h:Wel o=true)(h5:o.1=7):W6 o.2.1=true/\1<=o.2.2.1/\o.2.2.1<=20:=by
 obtain⟨k,a,b,c⟩:=o;simp only at h5;subst h5;have:(W6 a&&(decide (1<=b)&&decide (b<=20))&&(c==(0:Int)))=true:=h;simp_all
theorem WvN(h:Wel o=true)(h5:o.1=8):W6 o.2.1=true:=by
 obtain⟨k,a,b,c⟩:=o;simp only at h5;subst h5;have:(W6 a&&(b==(0:Int))&&(c==(0:Int)))=true:=h;simp_all
theorem Wm3(h:Wel o=true):1<=o.1/\o.1<=16:=by
 by_cases hk:1<=o.1/\o.1<=16
 .exact hk
 .exfalso;have e:∀n:Int,1<=n->n<=16->(o.1==n)=false:=λn h1 h2=>by simp;omega
  simp_all [Wel]
end
theorem Wa5{x:Int}{l:List Int}(h:W6 x=true)(hl:l.length=4):inb x l.length=true:=by
 grind [W6,inb]
structure Vals(n:Nat)(l:List Int):Prop where
 len:l.length=n
 val:∀x∈l,0<=x/\x<=65535
theorem Vals.get{n:Nat}{l:List Int}(h:Vals n l)(i:Nat):0<=l.getD i 0/\l.getD i 0<=65535:=by
 by_cases hi:i<l.length
 .rw[Wt hi];exact h.val _ (Xo hi)
 simp_all
theorem Vals.set{n:Nat}{l:List Int}(h:Vals n l)(i:Nat){x:Int}(hx:0<=x/\x<=65535):Vals n (l.set i x):=
 ⟨by rw[Xaf];exact h.len,λy hy=>by
  rcases List.mem_or_eq_of_mem_set hy with hy|hy
  .exact h.val y hy
  omega⟩
theorem Wbc{x:Int}:WbH x=true↔0<=x/\x<=65535:=by unfold WbH;simp
theorem WeI{l:List Int}:We6 l=true↔Vals 4 l:=by
 unfold We6;rw[Xi,Wh,Xai];exact⟨λh=>⟨h.1,λx hx=>Wbc.1 (h.2 x hx)⟩,λh=>⟨h.len,λx hx=>Wbc.2 (h.val x hx)⟩⟩
theorem Wcy{l:List Int}:Wec l=true↔Vals 8 l:=by
 unfold Wec;rw[Xi,Wh,Xai];exact⟨λh=>⟨h.1,λx hx=>Wbc.1 (h.2 x hx)⟩,λh=>⟨h.len,λx hx=>Wbc.2 (h.val x hx)⟩⟩
def Wnt(o:Opn)(r:List Int):List Int:=
 bif o.1==1 then r.set o.2.1.toNat o.2.2.1 else
 bif o.1==2 then r.set o.2.1.toNat ((r.getD o.2.2.1.toNat 0+r.getD o.2.2.2.toNat 0)%65536)else
 bif o.1==3 then r.set o.2.1.toNat ((r.getD o.2.2.1.toNat 0-r.getD o.2.2.2.toNat 0+65536)%65536)else
 bif decide (r.getD o.2.2.1.toNat 0<r.getD o.2.2.2.toNat 0)then r.set o.2.1.toNat 1 else r.set o.2.1.toNat 0
theorem Wco{x:Int}(h:0<=x):WiM x 65536=x%65536:=by grind [WiM,Xds]
theorem WkC{o:Opn}{r:List Int}(h:Wel o=true)(h1:1<=o.1)(h4:o.1<=4)(hr:Vals 4 r):Vals 4 (Wnt o r):=by
 obtain⟨_,hv,_⟩:=Wp6 h h1 h4;unfold Wnt;cases e1:o.1==1
 .cases o.1==2
  .cases o.1==3
   .cases decide (r.getD o.2.2.1.toNat 0<r.getD o.2.2.2.toNat 0)
    .exact hr.set _ (by omega)
    .exact hr.set _ (by omega)
   .exact hr.set _ (by omega)
  .exact hr.set _ (by omega)
 .exact hr.set _ (Wbc.1 (hv (by simp_all)))
section
variable{N:Nat}{o:Opn}{r:List Int}
theorem WgQ(hN:1048576<N)(h:Wel o=true)(h1:1<=o.1)(h4:o.1<=4)(hr:Vals 4 r):Znn N o r=some ((),(Wnt o r,(true,()))):=by
 obtain⟨ha,hv,xL⟩:=Wp6 h h1 h4;unfold Znn Zp;have e0:WH r.length=true:=WC (by rw[hr.len];omega);have e4:decide (o.1>4)=false:=by simp;omega
 have e5:We6 r=true:=WeI.2 hr;have ea:=Wa5 ha hr.len;have ez:inz 65536=true:=rfl;have gb:=hr.get o.2.2.1.toNat;have gc:=hr.get o.2.2.2.toNat;simp only[e0,We,Xd,WeL,ret,h,Xr,Wc,e4,Wc9 (l:=r) (by rw[hr.len];omega) hN,e5,ea,ez];unfold Wnt;by_cases k1:o.1=1
 .simp_all
 .have b:(o.1==1)=false:=by simp[k1]
  obtain⟨hb,hc⟩:=xL k1;rw[b];simp only[Wc,Wa5 hb hr.len,Wa5 hc hr.len,We,Xaf,ea];have s1:Wm .i64 (r.getD o.2.2.1.toNat 0) (r.getD o.2.2.2.toNat 0)=r.getD o.2.2.1.toNat 0+r.getD o.2.2.2.toNat 0:=WJ (by unfold I64;omega);have s2:W1 .i64 (r.getD o.2.2.1.toNat 0) (r.getD o.2.2.2.toNat 0)=r.getD o.2.2.1.toNat 0-r.getD o.2.2.2.toNat 0:=Wak (by unfold I64;omega);have s3:Wm .i64 (r.getD o.2.2.1.toNat 0-r.getD o.2.2.2.toNat 0) 65536=r.getD o.2.2.1.toNat 0-r.getD o.2.2.2.toNat 0+65536:=WJ (by unfold I64;omega);rw[s1,s2,s3,Wco (by omega),Wco (by omega)];cases o.1==2
  .cases o.1==3
   .simp only[Wc,Wu,Xdy];cases decide (r.getD o.2.2.1.toNat 0<r.getD o.2.2.2.toNat 0)<;>rfl
   .rfl
  .rfl
end
def Wwf(c:List Int)(rows:List Rw):List Int:=rows.foldr (λr c=>c.set r.1.toNat r.2) c
def WcU(l:List Rw):Prop:=∀r∈l,(0<=r.1/\r.1<=7)/\0<=r.2/\r.2<=65535
theorem Whr{l:List Rw}:l.all Wie=true↔WcU l:=by
 simp[Xai,WcU,Wie,Wai,WbH]
theorem Wck{N:Nat}{l:List Int}(h:l.length<=1048576):Zp N l=ret l:=by
 simp_all [Zp,Wsw,We]
end
section
abbrev Cur:=List Int×Int×Int
def WaF(c:Cur):Prop:=0<=c.2.1/\c.2.1<=c.1.length/\c.1.length<=1048576
def Wr8{α:Type}(P:α->Prop)(r:Option ((Cur×Unit)×(α×Unit))):Prop:=∃c v,r=some ((c,()),(v,()))/\WaF c/\P v
theorem Wn0(x:Int):∃n:Nat,n<=255/\Wtp .i64 x 255=n:=by
 refine⟨(BitVec.ofInt 64 x&&&BitVec.ofInt 64 255).toNat,?_,?_⟩
 .simp[BitVec.toNat_and,Xcm,Xgq]
 .unfold Wtp;have:(BitVec.ofInt 64 x&&&BitVec.ofInt 64 255).toNat<=255:=by
   simp[BitVec.toNat_and,Xcm,Xgq]
  exact wrap_i64 (Wvv (p:=(BitVec.ofInt 64 x&&&BitVec.ofInt 64 255).toNat) (by omega))
theorem Wsk{N:Nat}{code:List Int}(h:code.length<=1048576)(hN:1048576<N):∃c,WaF c/\Zj7 N code=ret c:=by
 have key:∀(n j:Nat) (v:Int),j<=code.length->code.length-j<n->∃hh i t,∀{R:Type} (K:Int->Int->Bool->Option R),Zcs N code K n v (j:Int)=K hh i t:=by
  intro n
  induction n with
  |zero=>omega
  |succ n ih=>
   intro j v h1 h2;by_cases hj:j<code.length
   .by_cases h4:j<4000
    .obtain⟨hh,i,t,e⟩:=ih (j+1) _ hj (by omega);refine⟨hh,i,t,λK=>?_⟩;have e1:decide ((j:Int)<4000)=true:=by simp;omega
     simp only[Zcs,WU hj,Wp hj,e1,We,Wn (show j<4611686018427387904 by omega)];exact e K
    .refine⟨v,j,decide ((j:Int)<4000),λK=>?_⟩;have e1:decide ((j:Int)<4000)=false:=by simp;omega
     simp only[Zcs,WU hj,e1,We,Wc]
   .refine⟨v,j,false,λK=>?_⟩;simp_all [Zcs,WZ,Wc]
 obtain⟨hh,i,t,e⟩:=key N 0 (Wm .i64 10101 (Wi code)) (Nat.zero_le _) (by omega);refine⟨(code,0,hh),⟨by simp,by simp,h⟩,?_⟩
 grind [Zj7]
theorem Weu{N:Nat}{c:Cur}(h:WaF c):Wr8 (λv=>0<=v/\v<=255) (Zgb N c):=by
 unfold Zgb;obtain⟨h1,h2,h3⟩:=h;have e1:inn 33=true:=rfl;have e2:inn 45=true:=rfl;simp only[e1,e2,We];by_cases hi:c.2.1<c.1.length
 .have e3:decide (c.2.1<Wi c.1)=true:=Wf hi;have e4:inb c.2.1 c.1.length=true:=by grind [inb]
  have e5:Wm .i64 c.2.1 1=c.2.1+1:=WJ (by unfold I64;omega);rw[e3,e4,e5];simp only[We];obtain⟨n,hn,e⟩:=Wn0 (Wm .i64 (Wtp .i64 (Wvy .i64 (WrS .i64 (Wm .i64 (WiC .i64 c.2.2 (6364136223846793005:Int)) (1442695040888963407:Int)) (33:Int)) (WrS .i64 (Wm .i64 (WiC .i64 c.2.2 (6364136223846793005:Int)) (1442695040888963407:Int)) (45:Int))) (255:Int)) (IntKind.wrap .i64 (Xb c.1 (Xa c.2.1) (0:Int))));exact⟨_,_,rfl,⟨by simp;omega,by simp;omega,h3⟩,by omega⟩
 .have e3:decide (c.2.1<Wi c.1)=false:=Wq hi;rw[e3];simp only[Wc];obtain⟨n,hn,e⟩:=Wn0 (Wvy .i64 (WrS .i64 (Wm .i64 (WiC .i64 c.2.2 (6364136223846793005:Int)) (1442695040888963407:Int)) (33:Int)) (WrS .i64 (Wm .i64 (WiC .i64 c.2.2 (6364136223846793005:Int)) (1442695040888963407:Int)) (45:Int)));exact⟨_,_,rfl,⟨h1,h2,h3⟩,by omega⟩
theorem WoM{v n:Int}(hv:0<=v)(hn:0<n):0<=WiM v n/\WiM v n<n:=by
 have e:WiM v n=v%n:=by grind [WiM,Xds]
 rw[e];exact⟨Int.emod_nonneg v (by omega),Int.emod_lt_of_pos v hn⟩
theorem Wgw{N:Nat}{c:Cur}{n:Int}(h:WaF c):Wr8 (λv=>(n<=0->v=0)/\(0<n->0<=v/\v<n)) (Zb N c n):=by
 unfold Zb;by_cases h0:n<=0
 .have e:decide (n<=0)=true:=by simp_all
  rw[e];exact⟨_,_,rfl,h,λ_=>rfl,λh=>by omega⟩
 .have e:decide (n<=0)=false:=by simp_all
  have ez:inz n=true:=by grind [inz]
  rw[e];simp only[Wc,ez,We];by_cases h1:n<=256
  .have e:decide (n<=256)=true:=by simpa using h1
   rw[e];obtain⟨c1,v,e1,hc,hv⟩:=Weu (N:=N) h;rw[e1];have:=WoM hv.1 (show 0<n by omega);exact⟨_,_,rfl,hc,λh=>by omega,λ_=>this⟩
  .have e:decide (n<=256)=false:=by simpa using h1
   rw[e];obtain⟨c1,v1,e1,kp,rV⟩:=Weu (N:=N) h;obtain⟨c2,v2,e2,dZ,gl⟩:=Weu (N:=N) kp;obtain⟨c3,v3,e3,qH,tV⟩:=Weu (N:=N) dZ;obtain⟨c4,v4,e4,wa,hv4⟩:=Weu (N:=N) qH;simp only[Wc,e1,e2,e3,e4,Xd];have m1:WiC .i64 v1 16777216=v1*16777216:=Wgr (by unfold I64;omega);have m2:WiC .i64 v2 65536=v2*65536:=Wgr (by unfold I64;omega);have m3:WiC .i64 v3 256=v3*256:=Wgr (by unfold I64;omega);have a1:Wm .i64 (v1*16777216) (v2*65536)=v1*16777216+v2*65536:=WJ (by unfold I64;omega);have a2:Wm .i64 (v1*16777216+v2*65536) (v3*256)=v1*16777216+v2*65536+v3*256:=WJ (by unfold I64;omega);have a3:Wm .i64 (v1*16777216+v2*65536+v3*256) v4=v1*16777216+v2*65536+v3*256+v4:=WJ (by unfold I64;omega);rw[m1,m2,m3,a1,a2,a3];have:=WoM (show 0<=v1*16777216+v2*65536+v3*256+v4 by omega) (show 0<n by omega);exact⟨_,_,rfl,wa,λh=>by omega,λ_=>this⟩
end
section
theorem WqP{N:Nat}{c:Cur}{n:Int}(h:WaF c):Wr8 (λ_=>True) (Zq N c n):=by
 unfold Zq;obtain⟨c1,v,e1,hc,hv⟩:=Wgw (N:=N) (n:=n) h;rw[e1];exact⟨_,_,rfl,hc,trivial⟩
theorem Wp9{N:Nat}{c:Cur}{l:List Int}(h:WaF c)(hl:0<l.length)(fL:l.length<4611686018427387904):Wr8 (λv=>v∈l) (Zbp N c l):=by
 unfold Zbp;obtain⟨c1,v,e1,hc,hv⟩:=Wgw (N:=N) (n:=Wi l) h;rw[e1];have hv:=hv.2 (by unfold Wi;omega);unfold Wi at hv;obtain⟨q,rfl⟩:=Xfo hv.1;have hq:q<l.length:=by omega
 simp only[Xd,Wp hq,We,Wv hq];exact⟨_,_,rfl,hc,Xo hq⟩
end
section
def Drw{ρ:Type}(P:ρ->Prop)(r:Option ((Cur×Unit)×ρ)):Prop:=∃c v,r=some ((c,()),v)/\WaF c/\P v
theorem Drw.of{α:Type}{P:α->Prop}{r:Option ((Cur×Unit)×(α×Unit))}(h:Wr8 P r):Drw (λv:α×Unit=>P v.1) r:=by
 obtain⟨c,v,e,h1,h2⟩:=h;exact⟨c,(v,()),e,h1,h2⟩
theorem Drw.bind{ρ σ:Type}{P:ρ->Prop}{Q:σ->Prop}{r:Option ((Cur×Unit)×ρ)}{k:(Cur×Unit)×ρ->Option ((Cur×Unit)×σ)}(h:Drw P r)(hk:∀c v,WaF c->P v->Drw Q (k ((c,()),v))):Drw Q (r.bind k):=by
 obtain⟨c,v,e,h1,h2⟩:=h;simp_all
theorem Drw.ok{ρ:Type}{P:ρ->Prop}{c:Cur}{v:ρ}(hc:WaF c)(hv:P v):Drw P (some ((c,()),v)):=⟨c,v,rfl,hc,hv⟩
theorem Drw.bif{ρ:Type}{P:ρ->Prop}{b:Bool}{x y:Option ((Cur×Unit)×ρ)}(h1:b=true->Drw P x)(h2:b=false->Drw P y):Drw P (bif b then x else y):=by
 grind
theorem Drw.bifT{ρ:Type}{P:ρ->Prop}{b:Bool}{x y:Option ((Cur×Unit)×ρ)}(hb:b=true)(h1:Drw P x):Drw P (bif b then x else y):=by simp_all
theorem Drw.mono{ρ:Type}{P Q:ρ->Prop}{r:Option ((Cur×Unit)×ρ)}(h:Drw P r)(hq:∀v,P v->Q v):Drw Q r:=by
 obtain⟨c,v,e,h1,h2⟩:=h;exact⟨c,v,e,h1,hq v h2⟩
section
variable{N:Nat}{c:Cur}
theorem Wan(n:Int)(h:WaF c):Drw (λv:Int×Unit=>(n<=0->v.1=0)/\(0<n->0<=v.1/\v.1<n)) (Zb N c n):=.of (Wgw h)
theorem WdH(n:Int)(h:WaF c):Drw (λ_:Bool×Unit=>True) (Zq N c n):=.of (WqP h)
theorem Wuz(l:List Int)(h:WaF c)(hl:0<l.length)(fL:l.length<1000):Drw (λv:Int×Unit=>v.1∈l) (Zbp N c l):=.of (Wp9 h hl (by omega))
theorem Wwl(h:WaF c):Drw (λv:Int×Unit=>0<=v.1/\v.1<=3) (Za N c):=by
 unfold Za;exact(Wan 4 h).bind λc v hc hv=>.ok hc (by grind)
theorem WvP(h:WaF c):Drw (λv:Int×Unit=>0<=v.1/\v.1<=65535) (Zhm N c):=by
 unfold Zhm;refine(WdH 6 h).bind λc v hc _=>.bif (λ_=>?_) λ_=>?_
 .refine(Wuz _ hc (by decide) (by decide)).bind λc v hc hv=>.ok hc ?_
  grind
 .exact(Wan 9 hc).bind λc v hc hv=>.ok hc (by grind)
theorem Wv7(h:WaF c):Drw (λv:Int×Unit=>0<=v.1/\v.1<=7) (Zby N c):=by
 unfold Zby;refine(WdH 8 h).bind λc v hc _=>.bif (λ_=>?_) λ_=>?_
 .exact(Wan 8 hc).bind λc v hc hv=>.ok hc (by grind)
 .exact(Wan 3 hc).bind λc v hc hv=>.ok hc (by grind)
theorem Wwo(h:WaF c):Drw (λv:Int×Unit=>True) (Zi N c):=by
 unfold Zi;refine(WdH 4 h).bind λc v hc _=>.bif (λ_=>?_) λ_=>?_
 .exact(Wan 8 hc).bind λc v hc hv=>.ok hc trivial
 .exact(Wuz _ hc (by decide) (by decide)).bind λc v hc hv=>.ok hc trivial
theorem WoC(kind:Int)(h:WaF c):Drw (λ_:Opn×Unit=>True) (Zh N c kind):=by
 unfold Zh
 repeat' first
  |with_reducible refine Drw.bif (λ_=>?_) λ_=>?_
  |with_reducible refine(Wwl (by assumption)).bind λc v hc hv=>?_
  |with_reducible refine(WvP (by assumption)).bind λc v hc hv=>?_
  |with_reducible refine(Wv7 (by assumption)).bind λc v hc hv=>?_
  |with_reducible refine(Wwo (by assumption)).bind λc v hc hv=>?_
  |with_reducible refine(Wan _ (by assumption)).bind λc v hc hv=>?_
  |with_reducible exact .ok (by assumption) trivial
theorem Wqp{rec:Cur->Int->Int->Bool->Option ((Cur×Unit)×(List Opn×Unit))}{most deep:Int}{kid:Bool}(hm:0<=most/\most<=100)
  (bo:∀c (m d:Int),WaF c->0<=m->m<most->Drw (λv:List Opn×Unit=>(v.1.length:Int)<=m+2) (rec c m d kid)):
  ∀(n i:Nat) (c:Cur) (l:List Opn),i<n->i<=1000->WaF c->(l.length:Int)<=most+2->Drw (λv:List Opn×Unit=>(v.1.length:Int)<=most+2) (Zc N rec most deep kid (λjZ j7 eh ek=>(some ((eh,()),(ek,())))) n (i:Int) c l)
 |0,i,c,l,h,_,_,_=>by omega
 |n+1,i,c,l,h,hib,hc,hl=>by
  have hs:(0:Int)<i->W1 .i64 (i:Int) 1=((i-1:Nat):Int):=λh0=>by grind [Wak,I64]
  have uW:W1 .i64 most (Wi l)=most-(l.length:Int):=Wak (by unfold I64 Wi;omega);have mU:W1 .i64 (most-(l.length:Int)) 3=most-(l.length:Int) -3:=Wak (by unfold I64;omega);simp only[Zc,uW,mU];refine .bif (λh0=>?_) λ_=>.ok hc hl;have h0:(i:Int)>0:=Ws h0;rw[hs h0];refine .bif (λh1=>?_) λ_=>.ok hc hl;have h1:(l.length:Int)<most:=Ws h1;have next:∀c' (l':List Opn),WaF c'->(l'.length:Int)<=most+2->Drw (λv:List Opn×Unit=>(v.1.length:Int)<=most+2) (Zc N rec most deep kid (λjZ j7 eh ek=>(some ((eh,()),(ek,())))) n ((i-1:Nat):Int) c' l'):=
   λc' l' h1 h2=>Wqp hm bo n (i-1) c' l' (by omega) (by omega) h1 h2
  have rm:∀(a:List Opn) (b:List Opn),(a.length:Int)+b.length<=1000->WH (a.length+b.length)=true:=λa b h=>WC (by omega);have tW:∀c' (o:Opn),WaF c'->Drw (λv:List Opn×Unit=>(v.1.length:Int)<=most+2) (bif WH (l.length+ [o].length)then Zc N rec most deep kid (λjZ j7 eh ek=>(some ((eh,()),(ek,())))) n ((i-1:Nat):Int) c' (Xf l [o])else none):=
   λc' o h2=>.bifT (rm _ _ (by simp;omega)) (next _ _ h2 (by grind [Xak]))
  refine(Wan 20 hc).bind λc v hc hv=>?_;have tX:∀c',WaF c'->(4:Int)<=most-(l.length:Int)->Drw (λv:List Opn×Unit=>(v.1.length:Int)<=most+2) ((rec c' (most-(l.length:Int) -3) (W1 .i64 deep 1) kid).bind λfI=>
           ((Zh N fI.1.1 (8:Int)).bind λeX=>
            (bif WH ((Xc l)+(Xc ([eX.2.1])))then
             (bif WH ((Xc (Xf l ([eX.2.1])))+(Xc fI.2.1))then
              ((Zq N eX.1.1 (3:Int)).bind λkB=>
               (bif kB.2.1 then
                (bif WH ((Xc (Xf (Xf l ([eX.2.1])) fI.2.1))+(Xc ([((10:Int),((0:Int),((0:Int),(0:Int))))])))then
                 (bif WH ((Xc (Xf (Xf (Xf l ([eX.2.1])) fI.2.1) ([((10:Int),((0:Int),((0:Int),(0:Int))))])))+(Xc ([((9:Int),((0:Int),((0:Int),(0:Int))))])))then
                  (Zc N rec most deep kid (λjZ j7 eh ek=>(some ((eh,()),(ek,())))) n ((i-1:Nat):Int) kB.1.1 (Xf (Xf (Xf (Xf l ([eX.2.1])) fI.2.1) ([((10:Int),((0:Int),((0:Int),(0:Int))))])) ([((9:Int),((0:Int),((0:Int),(0:Int))))])))else none)else none)
                else
                (bif WH ((Xc (Xf (Xf l ([eX.2.1])) fI.2.1))+(Xc ([((9:Int),((0:Int),((0:Int),(0:Int))))])))then
                 (Zc N rec most deep kid (λjZ j7 eh ek=>(some ((eh,()),(ek,())))) n ((i-1:Nat):Int) kB.1.1 (Xf (Xf (Xf l ([eX.2.1])) fI.2.1) ([((9:Int),((0:Int),((0:Int),(0:Int))))])))else none)))else none)else none))):=λc' fy h4=>by
   refine(bo c' _ _ fy (by omega) (by omega)).bind λc2 v2 dZ gl=>(WoC 8 dZ).bind λc3 v3 qH _=>?_;simp only[];refine .bifT (rm _ _ (by simp;omega)) (.bifT (rm _ _ (by grind [Xak])) ((WdH 3 qH).bind λc4 v4 wa _=>.bif (λ_=>?_) λ_=>?_))
   .grind [Xak]
   grind [Xak]
  repeat' first
   |with_reducible exact tW _ _ (by assumption)
   |with_reducible refine Drw.bif (λ_=>?_) λ_=>?_
   |with_reducible refine(WoC _ (by assumption)).bind λc v hc hv=>?_
   |with_reducible refine(WdH _ (by assumption)).bind λc v hc hv=>?_
   |with_reducible refine(Wan _ (by assumption)).bind λc v hc hv=>?_
   |exact tX _ (by assumption) (by simp only[Wh,ge_iff_le]at*;omega)
  all_goals
   rename_i hx;have hx:=Ws hx;refine(bo _ 2 0 (by assumption) (by omega) (by omega)).bind λc2 v2 dZ gl=>(WoC 7 dZ).bind λc3 v3 qH _=>?_
   grind [Xak]
theorem WtD(hN:1048576<N):∀(m:Nat) (c:Cur) (most deep:Int) (kid:Bool),WaF c->0<=most->most<=100->most<m->Drw (λv:List Opn×Unit=>(v.1.length:Int)<=most+2) (Ze0 N m c most deep kid)
 |0,c,most,deep,kid,hc,h0,h1,h2=>by omega
 |m+1,c,most,deep,kid,hc,h0,h1,h2=>by
  unfold Ze0;refine(Wan most hc).bind λc v hc hv=>?_;have gl:0<=v.1/\v.1<=100:=by
   omega
  have e:Wm .i64 1 v.1=(((1+v.1).toNat:Nat):Int):=by grind [WJ,I64]
  simp only[e];exact Wqp ⟨h0,h1⟩ (λc m' d fy q0 q1=>WtD hN m c m' d kid fy q0 (by omega) (by omega)) N _ c [] (by omega) (by omega) hc (by simp;omega)
theorem WvJ(hN:1048576<N){most deep:Int}{kid:Bool}(hc:WaF c)(h0:0<=most)(h1:most<=100):Drw (λv:List Opn×Unit=>v.1.length<=102) (Zj8 N c most deep kid):=by
 unfold Zj8;exact(WtD hN N c most deep kid hc h0 h1 (by omega)).mono λv hv=>by omega
theorem WoL(hN:1048576<N):∀(n i:Nat) (c:Cur) (l:List Int),8-i<n->i<=8->WaF c->l.length=i->
  Drw (λv:List Int×Unit=>v.1.length=8) (Zco N (λol ai ac bj=>(some ((ac,()),(bj,())))) n (i:Int) c l)
 |0,i,c,l,h,_,_,_=>by omega
 |n+1,i,c,l,h,hi,hc,hl=>by
  unfold Zco;refine .bif (λh0=>?_) λh0=>.ok hc (by grind);have h0:(i:Int)<8:=Ws h0;rw[Wn (show i<4611686018427387904 by omega)];refine(WvP hc).bind λc v hc hv=>.bifT (WC (by simp;omega)) ?_;exact WoL hN n (i+1) c _ (by omega) (by omega) hc (by simp_all)
theorem Wv2(hN:1048576<N)(hc:WaF c):Drw (λv:List Int×Unit=>v.1.length=8) (Zfy N c):=by
 unfold Zfy;exact WoL hN N 0 c [] (by omega) (by omega) hc rfl
end
end
section
theorem WpA{α:Type}{a b:Option α}(h:a=b):Whh a b=a:=by unfold Whh;rw[Wb h]
section
variable{N:Nat}{c:Cur}
theorem Wok(hN:1048576<N){aK:List Opn}(eF:aK.length<=300):∀(n i:Nat) (c:Cur) (l:List (List Opn)),i<n->i<=100->WaF c->l.length+i<=100->(∀x∈l,x.length<=200)->
  Drw (λv:(List Opn×List (List Opn))×Unit=>v.1.1.length<=300/\v.1.2.length<=100/\∀x∈v.1.2,x.length<=200) (Zfz N aK (λxz gr tw eW=>(some ((tw,()),((aK,eW),())))) n (i:Int) c l)
 |0,i,c,l,h,_,_,_,_=>by omega
 |n+1,i,c,l,h,hi,hc,hl,hx=>by
  unfold Zfz;refine .bif (λh0=>?_) λ_=>.ok hc ⟨eF,by simp_all,hx⟩;have h0:(i:Int)>0:=Ws h0;have e:W1 .i64 (i:Int) 1=((i-1:Nat):Int):=by grind [Wak,I64]
  rw[e];refine(Wan 5 hc).bind λc v hc hv=>?_;have hv:=hv.2 (by decide);have e2:Wm .i64 2 v.1=2+v.1:=WJ (by unfold I64;omega);simp only[e2];refine(WvJ hN hc (by omega) (by omega)).bind λc w hc hw=>.bifT (WC (by simp;omega)) ?_;refine Wok hN eF n (i-1) c _ (by omega) (by omega) hc (by grind [Xak]) λx kn=>?_
  grind [Xak]
theorem WvF(hN:1048576<N){b:Bool}(hc:WaF c):Drw (λv:(List Opn×List (List Opn))×Unit=>v.1.1.length<=300/\v.1.2.length<=100/\∀x∈v.1.2,x.length<=200) (Zea N c b):=by
 unfold Zea;refine .bif (λ_=>?_) λ_=>?_
 .refine(Wan 8 hc).bind λc v hc hv=>?_;have hv:=hv.2 (by decide);have e2:Wm .i64 3 v.1=3+v.1:=WJ (by unfold I64;omega);simp only[e2];exact(WvJ hN hc (by omega) (by omega)).bind λc w hc hw=>.ok hc ⟨by grind,by simp,by simp⟩
 .refine(Wan 4 hc).bind λc v hc hv=>?_;have hv:=hv.2 (by decide);have e2:Wm .i64 1 v.1=1+v.1:=WJ (by unfold I64;omega);simp only[e2];refine(WvJ hN hc (by omega) (by omega)).bind λc w hc hw=>(Wan 4 hc).bind λc v2 hc gl=>?_;have gl:=gl.2 (by decide);have e3:Wm .i64 1 v2.1=1+v2.1:=WJ (by unfold I64;omega);simp only[e3];refine(WvJ hN hc (by omega) (by omega)).bind λc w2 hc xM=>.bifT (WC (by simp;omega)) (.bifT (WC (by grind [Xak])) ((Wan 3 hc).bind λc v3 hc tV=>?_));have tV:=tV.2 (by decide);have e4:Wm .i64 1 v3.1=(((1+v3.1).toNat:Nat):Int):=by grind [WJ,I64]
  grind [Wok,Xak]
theorem Wwb(hc:WaF c):Drw (λv:Opn×Unit=>True) (Zol N c):=by
 unfold Zol;refine(Wan 16 hc).bind λc v hc hv=>(WoC _ hc).bind λc w hc _=>(Wan 16 hc).bind λc v hc hv=>.bif (λ_=>?_) λ_=>.bif (λ_=>?_) λ_=>.bif (λ_=>?_) λ_=>.bif (λ_=>?_) λ_=>.ok hc trivial
 all_goals exact(Wuz _ hc (by decide) (by decide)).bind λc v hc hv=>.ok hc trivial
theorem WnY:∀(n:Nat) (c:Cur) (l:List Opn),600-l.length<n->WaF c->l.length<=500->
  Drw (λv:List Opn×Unit=>v.1.length<=600) (Zf0 N (λaF dx aO=>(some ((dx,()),(aO,())))) n c l)
 |0,c,l,h,_,_=>by omega
 |n+1,c,l,h,hc,hl=>by
  unfold Zf0;refine(Wan 2 hc).bind λc v hc hv=>?_;have hv:=hv.2 (by decide);have e:Wm .i64 24 v.1=24+v.1:=WJ (by unfold I64;omega);simp only[e];refine .bif (λh0=>?_) λ_=>.ok hc (by grind);have h0:(l.length:Int)<24+v.1:=Ws h0;exact .bifT (WC (by simp;omega)) (WnY n c _ (by grind [Xak]) hc (by grind [Xak]))
theorem Wu8(hN:1048576<N){l:List Opn}(hc:WaF c)(hl:l.length<=500):Drw (λv:List Opn×Unit=>v.1.length<=600) (Zhn N c l):=by
 unfold Zhn;have en:Xf ([]:List Opn) l=l:=rfl;simp only[en];refine .bifT (WC (by simp;omega)) (.bif (λ_=>.ok hc (by simp)) λh0=>?_);have hpos:0<l.length:=by
  cases l with
  |nil=>exact Wl h0 (by decide)
  |cons a b=>simp
 refine(Wan (Wi l) hc).bind λc k hc hk=>?_;have hk:=hk.2 (by unfold Wi;omega);unfold Wi at hk;obtain⟨k,u⟩:=k;simp only at hk;obtain⟨j,rfl⟩:=Xfo hk.1;have hj:j<l.length:=by omega
 have ei:inb (j:Int) l.length=true:=Wp hj;have e1:Wm .i64 (j:Int) 1=((j+1:Nat):Int):=Wn (by omega);have c1:((decide ((0:Int)<=(j:Int)))&&(decide ((j:Int)<=((Xc l):Int))))=true:=by simp;omega
 have c2:((decide ((0:Int)<=((j+1:Nat):Int)))&&(decide (((j+1:Nat):Int)<=((Xc l):Int))))=true:=by simp;omega
 refine(Wan 6 hc).bind λc v hc hv=>?_;simp only[e1,ei,c1,c2,We,WpA rfl];refine .bif (λ_=>?_) λ_=>.bif (λ_=>.ok hc (by simp;omega)) λ_=>.bif (λ_=>?_) λ_=>.bif (λ_=>?_) λ_=>.bif (λ_=>.ok hc (by simp;omega)) λ_=>?_
 .exact(Wwb hc).bind λc w hc _=>.ok hc (by simp;omega)
 .have hlen:(List.drop (Xa ((j+1:Nat):Int)) (Xau l.length l)).length=l.length-(j+1):=by simp_all
  have ia:(Xau (Xa (j:Int)) l).length=j:=by simp_all
  exact .bifT (WC (by omega)) (.ok hc (by grind [Xak,Xac]))
 .grind [WnY]
 .exact(Wan 2 hc).bind λc w hc _=>.ok hc (by simp;omega)
end
end
section
def Wv6(f:Y_Family)(k:Nat)(x:Y_KidRun):Y_Family:=U9 (Xk (Q9 f) k x) f
def again(f:Y_Family)(x:Y_KidRun):Y_KidRun:=(0,(0,(f.2.1,(x.2.2.2.1+1,(0,(0,(P4 f,([],([],([],(false,(0,(0,(0,0))))))))))))))
def Woj(x:Y_KidRun)(c:Int):Pb:=bif P10 x then Q11 x else(c,(0,(0,0)))
def Wif(m:Mm)(f:Y_Family)(x:Y_KidRun)(o:Int×Int×Int×Int):Y_Family×Y_KidRun:=
 match Wa1 (P8 x) o.2.2.1 with
 |some v=>(f,S6 (Xk (P6 x) (Xa o.2.1) v) (S1 (x.2.1+1) x))
 |none=>match ent (P6 f) o.2.2.1 with
  |some r=>bif decide (r.2.2.2>x.2.2.1)then(f,again f x)else(f,S7 (P7 x++ [r.2]) (S6 (Xk (P6 x) (Xa o.2.1) r.2.2.1) (S1 (x.2.1+1) x)))
  |none=>
   bif (WV m f.1 (Woj x o.2.2.1)).2.1==4 then(S3 true f,U11 (WV m f.1 (Woj x o.2.2.1)) (S10 true x))else
   bif (WV m f.1 (Woj x o.2.2.1)).2.1==3 then(f,U14 0 (S13 0 (S12 0 (S11 0 (S10 false (S7 (P7 x++ [(o.2.2.1,((WV m f.1 (Woj x o.2.2.1)).2.2.2,-1))]) (S6 (Xk (P6 x) (Xa o.2.1) (WV m f.1 (Woj x o.2.2.1)).2.2.2) (S1 (x.2.1+1) x))))))))else
   (f,U11 (WV m f.1 (Woj x o.2.2.1)) (S10 true x))
structure ReadOk(m:Mm)(f:Y_Family)(x:Y_KidRun)(o:Int×Int×Int×Int):Prop where
 mem:W2 m=true
 regs:(P6 x).length=4
 famr:(P4 f).length=4
 rA:0<=o.2.1/\o.2.1<=3
 cB:Wai o.2.2.1=true
 seen:(P7 x).length<=1000
 wr:(P8 x).length<=1000
 buf:(P6 f).length<=1000
 ver:∀e∈P6 f,0<=e.2.2
 since:0<=x.2.2.1
 pc:0<=x.2.1/\x.2.1<=1000
 tries:0<=x.2.2.2.1/\x.2.2.2.1<=100000
 pb:P10 x=true->Wkn (Q11 x)=true
theorem ReadOk.pbO{m:Mm}{f:Y_Family}{x:Y_KidRun}{o:Int×Int×Int×Int}(h:ReadOk m f x o):Wkn (Woj x o.2.2.1)=true:=by
 unfold Woj;cases hb:P10 x
 .have:=h.cB
  grind [Wkn,WbH]
 .exact h.pb hb
theorem WsO{x:Y_KidRun}(h:P10 x=true):S10 true x=x:=by rw[←h];rfl
theorem WcA{a:Int}(h:0<=a/\a<=1000000):Wm .i64 a 1=a+1:=WJ (by unfold I64;omega)
theorem rgI{r:List Int}{a:Int}(h:r.length=4)(ha:0<=a/\a<=3):inb a r.length=true:=by grind [inb]
theorem Wd5{N:Nat}{f:Y_Family}{k:Nat}{x:Y_KidRun}(hk:k<(Q9 f).length)(h:(P4 f).length=4)(ht:0<=x.2.2.2.1/\x.2.2.2.1<=100000):
  Zbf N (U9 (Xk (Q9 f) k x) f) (k:Int)=some ((Wv6 f k (again f x),()),()):=by
 have e0:Zp N (P4 (U9 (Xk (Q9 f) k x) f))=ret (P4 f):=Wa2 (show(P4 f).length<=1048576 by omega);have e1:Q9 (U9 (Xk (Q9 f) k x) f)=Xk (Q9 f) k x:=rfl;have kO:k<(Xk (Q9 f) k x).length:=by simp_all
 unfold Zbf;rw[e0,e1];have e2:Xb (Xk (Q9 f) k x) (Xa (k:Int)) d_KidRun=x:=by simp_all
 rw[e2,Wp kO,WcA (by omega),Xj];simp only[We,ret,Xd,Xdy];rfl
theorem Wlv{N:Nat}{m:Mm}{f:Y_Family}{k:Nat}{o:Int×Int×Int×Int}(hk:k<(Q9 f).length)(h:ReadOk m f (Q9 f)[k] o)(hN:1048576<N):
  Zi5 N f (k:Int) o m=some ((Wv6 (Wif m f (Q9 f)[k] o).1 k (Wif m f (Q9 f)[k] o).2,()),()):=by
 generalize hx:(Q9 f)[k]=x at h;have hw:=h.wr;have hs:=h.seen;have hb:=h.buf;have hr:=h.regs;have ex:Xb (Q9 f) (Xa (k:Int)) d_KidRun=x:=by rw[Wv hk,hx]
 unfold Zi5 Wif;simp only[Wu];rw[Wp hk,ex,Xj,Wd8 (show(P8 x).length<=1048576 by omega) hN,WcA (by have:=h.pc;omega)];rcases Wa1 (P8 x) o.2.2.1 with _|v
 .simp only[opI,Xd,Wc,We];have hE:Zci N (U9 (Xk (Q9 f) k x) f) o.2.2.1=ret (match ent (P6 f) o.2.2.1 with|some r=>(r.1:Int)|none=>-1):=Wfk (f:=U9 (Xk (Q9 f) k x) f) (show(P6 f).length<=1048576 by omega) hN;rw[hE,Wd5 hk h.famr h.tries];rcases he:ent (P6 f) o.2.2.1 with _|r
  .simp only[ret,Xd,show decide ((-1:Int)>=0)=false from rfl,Wc];have hp:=h.pbO;cases hc:P10 x
   .have dA:Woj x o.2.2.1=(o.2.2.1,(0,(0,0))):=by grind [Woj]
    have hn:Zfi N o.2.2.1=some ((),((o.2.2.1,(0,(0,0))),(true,()))):=by
     unfold Zfi;simp only[WaD,ret,Xd,h.cB,Xr,Wc]
    rw[dA]at hp⊢;simp only[Bool.not_false,We,hn,WeG h.mem hp hN,ret,Xd,rgI hr h.rA];generalize WV m f.1 (o.2.2.1,(0,(0,0)))=q;rw[WC (by simp;omega)];cases q.2.1==4<;>cases q.2.1==3<;>rfl
   .have dA:Woj x o.2.2.1=Q11 x:=by grind [Woj]
    rw[dA]at hp⊢;simp only[Xr,Wc,WeG h.mem hp hN,ret,Xd,rgI hr h.rA,We];generalize WV m f.1 (Q11 x)=q;rw[WC (by simp;omega),WsO hc];cases q.2.1==4<;>cases q.2.1==3<;>rfl
  .have hm:=Wcr he;have hi:r.1<(P6 f).length:=by omega
   have hg:(P6 f)[r.1]=r.2:=by
    simp_all
   have e2:decide (((r.1:Nat):Int)>=0)=true:=by simp
   simp only[ret,Xd,e2,We,Wp hi,rgI hr h.rA];rw[Wv hi,hg,WC (by simp;omega)];cases decide (r.2.2.2>x.2.2.1)<;>rfl
 .simp only[opI,Xd,We,rgI hr h.rA];rfl
end
section
structure Lin{α:Type}(cf:α->α->Int):Prop where
 irr:∀x,¬cf x x<0
 tr:∀x y z,cf x y<0->cf y z<0->cf x z<0
 nt:∀x y z,¬cf x y<0->¬cf y z<0->¬cf x z<0
theorem WsX:Lin cfE:=⟨λx=>by unfold cfE;omega,λx y z=>by unfold cfE;omega,λx y z=>by unfold cfE;omega⟩
theorem WnW:Lin cfH:=⟨λx=>by rw[Wb9];omega,λx y z=>by simp only[Wb9];omega,λx y z=>by simp only[Wb9];omega⟩
def Ris{α:Type}(cf:α->α->Int)(l:List α):Prop:=l.Pairwise λa b=>cf a b<0
def Wdb{α:Type}(cf:α->α->Int):List α->α->List α
 | [],e=>[e]
 |x::l,e=>if cf x e<0 then x::Wdb cf l e else if cf e x<0 then e::x::l else e::l
def Ap{α:Type}(cf:α->α->Int)(x y:α):Prop:=cf x y<0\/cf y x<0
variable{α:Type}{cf:α->α->Int}
theorem Lin.ap(h:Lin cf){x y:α}(hn:¬Ap cf x y){z:α}:(cf x z<0↔cf y z<0)/\(cf z x<0↔cf z y<0):=by
 unfold Ap at hn;refine⟨⟨λa=>?_,λa=>?_⟩,⟨λa=>?_,λa=>?_⟩⟩
 .exact Classical.byContradiction λc=>h.nt x y z (λq=>hn (.inl q)) c a
 .exact Classical.byContradiction λc=>h.nt y x z (λq=>hn (.inr q)) c a
 .exact Classical.byContradiction λc=>h.nt z y x c (λq=>hn (.inr q)) a
 .exact Classical.byContradiction λc=>h.nt z x y c (λq=>hn (.inl q)) a
theorem Wa9(hc:Lin cf){e x:α}:∀{l:List α},Ris cf l->(x∈Wdb cf l e↔x=e\/(x∈l/\Ap cf x e))
 | [],_=>by simp[Wdb]
 |y::l,h=>by
  have hl:=(Xv.1 h);unfold Wdb;by_cases h1:cf y e<0
  .rw[Wb h1,Xq,Wa9 hc hl.2,Xq];refine⟨?_,?_⟩
   .rintro(rfl|h|h)
    .exact .inr ⟨.inl rfl,.inl h1⟩
    .grind
    simp_all
   grind
  .rw[Wa h1];by_cases h2:cf e y<0
   .rw[Wb h2];simp only[Xq];refine⟨?_,?_⟩
    .rintro(h|rfl|h)
     .grind
     .exact .inr ⟨.inl rfl,.inr h2⟩
     .exact .inr ⟨.inr h,.inr (hc.tr _ _ _ h2 (hl.1 x h))⟩
    grind
   .rw[Wa h2];simp only[Xq];have hn:¬Ap cf y e:=by unfold Ap;omega
    refine⟨?_,?_⟩
    .rintro(h|h)
     .grind
     .exact .inr ⟨.inr h,.inr ((hc.ap hn).1.1 (hl.1 x h))⟩
    grind
theorem WbJ(hc:Lin cf){e:α}:∀{l:List α},Ris cf l->Ris cf (Wdb cf l e)
 | [],_=>by simp[Wdb,Ris]
 |y::l,h=>by
  have hl:=(Xv.1 h);unfold Wdb;by_cases h1:cf y e<0
  .rw[Wb h1];refine Xv.2 ⟨λx hx=>?_,WbJ hc hl.2⟩;rcases(Wa9 hc hl.2).1 hx with rfl|hx
   .exact h1
   simp_all
  .rw[Wa h1];by_cases h2:cf e y<0
   .rw[Wb h2];refine Xv.2 ⟨λx hx=>?_,h⟩;rcases Xq.1 hx with rfl|hx
    .exact h2
    .exact hc.tr _ _ _ h2 (hl.1 x hx)
   .rw[Wa h2];have hn:¬Ap cf y e:=by unfold Ap;omega
    exact Xv.2 ⟨λx hx=>(hc.ap hn).1.1 (hl.1 x hx),hl.2⟩
theorem WkZ(hc:Lin cf){L M:List α}(hM:Ris cf M)(hL:L.Pairwise (Ap cf))(hm:∀x,x∈L↔x∈M):sortBy cf L=M:=by
 have hn:∀{l:List α},l.Pairwise (Ap cf)->l.Nodup:=λh=>h.imp λ{a b} fg=>by
  rintro rfl;unfold Ap at fg;have:=hc.irr a;omega
 have hM':M.Pairwise (Ap cf):=hM.imp λh=>.inl h;have hp:L.Perm M:=(List.perm_ext_iff_of_nodup (hn hL) (hn hM')).2 hm;unfold sortBy;have h1:=List.pairwise_mergeSort (le:=λx y=>!lessBy cf y x) (λa b c=>by
  simp only[lessBy,Xap,Wx]
  exactλh1 h2=>hc.nt _ _ _ h2 h1) (λa b=>by
  simp only[lessBy,Xck,Xap,Wx];rcases Classical.em (cf b a<0)with h|h
  .exact .inr λh'=>hc.irr _ (hc.tr _ _ _ h h')
  omega) L
 refine List.Perm.eq_of_pairwise ?_ h1 (hM.imp λ{a b} h=>?_) ((Xgc _ _).trans hp)
 .intro a b ha hb h1 h2;simp only[lessBy,Xap,Wx]at h1 h2;have xN:a∈M:=(hm a).1 ((Xgc _ _).mem_iff.1 ha);obtain⟨i,hi,rfl⟩:=Xbn xN;obtain⟨j,hj,rfl⟩:=Xbn hb;rcases Nat.lt_trichotomy i j with h|h|h
  .exact Wl (Xal.1 hM i j hi hj h) h2
  .grind
  .exact Wl (Xal.1 hM j i hj hi h) h1
 .simp only[lessBy,Xap,Wx]
  exactλh'=>hc.irr _ (hc.tr _ _ _ h h')
theorem Woq{r:α->α->Bool}{R:α->α->Prop}(hr:∀a b,R a b->r a b=true):∀{l:List α},l.Pairwise R->WkV r l=true
 | [],_=>rfl
 |x::l,h=>by
  have:=Xv.1 h;simp only[WkV,Xi,Xai];exact⟨λy hy=>hr _ _ (this.1 y hy),Woq hr this.2⟩
theorem Wk6(hc:Lin cf){rng:α->Bool}{N:Nat}{L M:List α}(hM:Ris cf M)(hL:L.Pairwise (Ap cf))(hm:∀x,x∈L↔x∈M)(hr:∀x∈L,rng x=true)(hl:L.length<=1048576):
  Zmi rng cf N L=some ((M,()),()):=by
 grind [Zmi,Xai,Woq,Ap,apart,lessBy,decide_eq_true,WkZ]
theorem WlO(hc:Lin cf){L:List α}{e:α}{i:Nat}(hL:L.Pairwise (Ap cf))(hi:i<L.length)(hk:¬Ap cf L[i] e):(L.set i e).Pairwise (Ap cf)/\∀x,x∈L.set i e↔x=e\/(x∈L/\Ap cf x e):=by
 have tY:∀{z},Ap cf L[i] z↔Ap cf e z:=λ{z}=>by unfold Ap;rw[(hc.ap hk).1,(hc.ap hk).2]
 have xO:∀{a b:α},Ap cf a b->Ap cf b a:=λh=>h.symm;have hG:=Xal.1 hL;refine⟨?_,λx=>⟨λhx=>?_,?_⟩⟩
 .rw[Xal]
  grind
 .obtain⟨j,hj,rfl⟩:=Xbn hx
  grind
 .rintro(rfl|⟨hx,kn⟩)
  .grind [Xcj]
  .obtain⟨j,hj,rfl⟩:=Xbn hx;refine Xcj.2 ⟨j,by simp_all,?_⟩;rw[Xaq,Wa]
   grind
theorem Wi5{L:List α}{e:α}(hL:L.Pairwise (Ap cf))(hk:∀x∈L,Ap cf x e):(L++ [e]).Pairwise (Ap cf)/\∀x,x∈L++ [e]↔x=e\/(x∈L/\Ap cf x e):=by
 grind
end
section
abbrev KM:=Int×Int×List Int
structure Kd where
 phase:Int:=0
 pc:Int:=0
 since:Int:=0
 tries:Int:=0
 pos:Int:=0
 out:Int:=0
 regs:List Int:=[]
 seen:List En:=[]
 writes:List Rw:=[]
 marks:List KM:=[]
 busy:Bool:=false
 pb:Pb:=(0,0,0,0)
def Kd.e(x:Kd):Y_KidRun:=(x.phase,x.pc,x.since,x.tries,x.pos,x.out,x.regs,x.seen,x.writes,x.marks,x.busy,x.pb)
structure Fm where
 rv:Int:=0
 clock:Int:=0
 owner:Int:=0
 lost:Bool:=false
 regs:List Int:=[]
 start:List Rw:=[]
 buf:List En:=[]
 order:List Int:=[]
 reads:List Rw:=[]
 kids:List Kd:=[]
def Fm.e(f:Fm):Y_Family:=(f.rv,f.clock,f.owner,f.lost,f.regs,f.start,f.buf,f.order,f.reads,f.kids.map Kd.e)
def zOp:Opn:=(0,0,0,0)
def opN(code:List Opn)(i:Int):Opn:=Xb code i.toNat zOp
def Wcp{α:Type}(l:List α)(i:Int)(d:α):α:=Xb l i.toNat d
def WmT{α:Type}(l:List α)(i:Int)(x:α):List α:=Xk l i.toNat x
def WgI{α:Type}(l:List α)(d:α):α:=Xb l (l.length-1) d
def WiW(l:List Opn)(m:Nat):Nat:=((Xdb l.length).find? λk=>decide (m<=k)&&decide (dep l (k+1)=dep l m)).getD 0
def Fm.again(f:Fm)(x:Kd):Kd:={since:=f.clock,tries:=x.tries+1,regs:=f.regs}
def WbA(m:Mm)(f:Fm)(x:Kd)(o:Opn):Fm×Kd:=
 match Wa1 x.writes o.2.2.1 with
 |some v=>(f,{x with regs:=WmT x.regs o.2.1 v,pc:=x.pc+1})
 |none=>match ent f.buf o.2.2.1 with
  |some r=>if r.2.2.2>x.since then(f,f.again x)else(f,{x with regs:=WmT x.regs o.2.1 r.2.2.1,seen:=x.seen++ [r.2],pc:=x.pc+1})
  |none=>
   let p:=WV m f.rv (if x.busy then x.pb else(o.2.2.1,0,0,0))
   if p.2.1=4 then({f with lost:=true},{x with busy:=true,pb:=p})
   else if p.2.1=3 then(f,{x with regs:=WmT x.regs o.2.1 p.2.2.2,seen:=x.seen++ [(o.2.2.1,p.2.2.2,-1)],busy:=false,pb:=(0,0,0,0),pc:=x.pc+1})
   else(f,{x with busy:=true,pb:=p})
def WfX(x:Kd)(code:List Opn):Kd:=
 if x.marks.length=0 then{x with writes:=[],out:=2,phase:=1}else
 let q:=WgI x.marks (0,0,[])
 {x with marks:=x.marks.dropLast,regs:=WmT q.2.2 (opN code q.1).2.1 0,writes:=x.writes.take q.2.1.toNat,pc:=WiW code q.1.toNat+1}
def Wl2(m:Mm)(f:Fm)(x:Kd)(code:List Opn):Fm×Kd:=
 if x.pc>=code.length then(f,{x with out:=1,phase:=1})else
 let o:=opN code x.pc
 if o.1=5 then WbA m f x o else
 if o.1=10 then(f,WfX x code)else
 if o.1=6 then(f,{x with writes:=x.writes++ [(o.2.1,Wcp x.regs o.2.2.1 0)],pc:=x.pc+1})else
 if o.1=7 then(f,{x with pc:=(if Wcp x.regs o.2.1 0=0 then x.pc+o.2.2.1 else x.pc)+1})else
 if o.1=8 then(f,{x with marks:=x.marks++ [(x.pc,(x.writes.length:Int),x.regs)],pc:=x.pc+1})else
 if o.1=9 then(f,{x with marks:=x.marks.dropLast,regs:=WmT x.regs (opN code (WgI x.marks (0,0,[])).1).2.1 1,pc:=x.pc+1})else
 (f,{x with regs:=Wnt o x.regs,pc:=x.pc+1})
def WaJ(c:Int)(b:List En)(rows:List Rw):List En:=rows.foldl (λb r=>Wdb cfE b (r.1,r.2,c)) b
def WaV(l:List En):List Rw:=(l.filter λe=>decide (e.2.2= -1)).map λe=>(e.1,e.2.1)
def Wa8(f:Fm)(x:Kd)(k:Nat):Fm×Kd:=
 ({f with clock:=f.clock+1,buf:=WaJ (f.clock+1) f.buf (WbU x.writes),reads:=f.reads++WaV x.seen,order:=f.order++ [(k:Int)],owner:=0},{x with phase:=3,pos:=0,marks:=[]})
def WtF(b:List En)(c:Int):Int:=match ent b c with
 |some r=>r.2.2.2
 |none=>-1
def Wbi(m:Mm)(f:Fm)(x:Kd)(k:Nat)(code:List Opn):Fm×Kd:=
 if x.phase=0 then Wl2 m f x code else
 if x.phase=1 then(if f.owner=0 then({f with owner:=(k:Int)+1},{x with phase:=2})else(f,x))else
 if x.phase=2 then
  if x.pos=x.seen.length then Wa8 f x k else
  let s:=Wcp x.seen x.pos (0,0,0)
  if WtF f.buf s.1=s.2.2 then(f,{x with pos:=x.pos+1})else({f with owner:=0},f.again x)
 else(f,x)
def Fm.put(q:Fm×Kd)(k:Nat):Fm:={q.1 with kids:=q.1.kids.set k q.2}
def WaM(m:Mm)(f:Fm)(k:Nat)(code:List Opn):Fm:=
 if f.lost then f else Fm.put (Wbi m f (f.kids.getD k {}) k code) k
def Wa7(rv:Int)(regs:List Int)(writes:List Rw)(kids:Nat):Fm:=
 {rv:=rv,regs:=regs,start:=WbU writes,buf:=(WbU writes).map λr=>(r.1,r.2,0),kids:=List.replicate kids {regs:=regs}}
def Wfx(f:Fm):Bool:=f.kids.all λx=>decide (x.phase=3)
def Wh5(f:Fm):List Rw:=f.buf.map λe=>(e.1,e.2.1)
def WtR(x:Kd):Int:=if x.out=1/\We6 x.regs=true then Wcp x.regs 0 0 else 0
def Wit(f:Fm):List Int:=
 if We6 f.regs=true/\f.kids.length<=3 then f.kids.map WtR++f.regs.drop f.kids.length else []
structure KMk(code:List Opn)(pc:Nat)(marks:List KM)(wl:Nat):Prop where
 pcs:marks.map (·.1)=(stk code pc).map λm:Nat=>(m:Int)
 each:∀q∈marks,Vals 4 q.2.2/\0<=q.2.1/\q.2.1<=q.1/\q.2.1<=wl
 up:marks.Pairwise λa b=>a.2.1<=b.2.1
structure KOk(code:List Opn)(c n:Int)(x:Kd):Prop where
 pc:0<=x.pc/\x.pc<=code.length
 regs:Vals 4 x.regs
 rows:WcU x.writes
 wl:(x.writes.length:Int)<=x.pc
 sl:(x.seen.length:Int)<=x.pc
 since:0<=x.since/\x.since<=c
 tries:0<=x.tries/\x.tries<=n
 seen:∀e∈x.seen,(0<=e.1/\e.1<=7)/\(0<=e.2.1/\e.2.1<=65535)/\ -1<=e.2.2/\e.2.2<=x.since
 marks:x.phase=0->KMk code x.pc.toNat x.marks x.writes.length
 pos:0<=x.pos/\x.pos<=x.seen.length
 pb:x.busy=true->Wkn x.pb=true
 phase:0<=x.phase/\x.phase<=3
 out:0<=x.out/\x.out<=2
structure FOk(codes:List (List Opn))(n:Int)(f:Fm):Prop where
 len:f.kids.length=codes.length
 regs:Vals 4 f.regs
 clock:0<=f.clock/\f.clock=f.order.length
 done:f.order.length=f.kids.countP λx=>decide (x.phase=3)
 bufR:Ris cfE f.buf
 bufE:∀e∈f.buf,(0<=e.1/\e.1<=7)/\(0<=e.2.1/\e.2.1<=65535)/\0<=e.2.2/\e.2.2<=f.clock
 readsL:f.reads.length<=24*f.order.length
 readsE:WcU f.reads
 owner:0<=f.owner/\f.owner<=f.kids.length
 kid:∀(k:Nat) (h:k<f.kids.length),KOk (codes.getD k []) f.clock n f.kids[k]
end
section
structure CC(l:List Opn):Prop where
 len:l.length<=24
 up:Up l
 z:dep l l.length=0
 ok:∀i (h:i<l.length),Wel l[i]=true/\1<=l[i].1/\l[i].1<=16
 sk:∀i (h:i<l.length),l[i].1=7->i+1+l[i].2.2.1.toNat<=l.length/\bal ((l.take (i+1+l[i].2.2.1.toNat)).drop (i+1))=true
 fk:∀i (h:i<l.length),l[i].1=11->dep l i=0/\frk l (i+1)<=1
structure KC(l:List Opn):Prop extends CC l where
 k10:∀i (h:i<l.length),l[i].1<=10
theorem Wrs{o:Opn}(h:Wel o=true)(eF:12<=o.1):WiG o=2:=by
 have rM:=Wm3 h;have key:=WdC (N:=0) (o:=o);unfold Zcc at key;rw[Wdo,h]at key;simp only[ret,Xd,Xr,Wc]at key;have e5:(o.1==5)=false:=by simp;omega
 have e6:(o.1==6)=false:=by simp;omega
 rw[e5,e6]at key;simp only[Wc]at key;have:o.1=12\/o.1=13\/o.1=14\/o.1=15\/o.1=16:=by omega
 rcases this with hk|hk|hk|hk|hk<;> · simp_all
theorem WvA{l:List Opn}(h:Wps l=true):CC l:=by
 unfold Wps at h;simp only[Xi,Wh,Xap]at h;obtain⟨h1,h2,h3⟩:=h;obtain⟨b1,b2⟩:=WnS.1 h2;have hb:∀i (hi:i<l.length),Wpv l i l[i]=false:=λi hi=>by
  rw[Bool.eq_false_iff];intro hb;have:Wna (Wpv l) 0 l=true:=Wf3.2 ⟨i,hi,by simp_all⟩;simp_all
 have aY:∀i (hi:i<l.length),Wel l[i]=true:=λi hi=>by
  grind [Wpv,Xdq,Xez]
 refine⟨h1,b1,b2,λi hi=>⟨aY i hi,Wm3 (aY i hi)⟩,λi hi h7=>?_,λi hi fw=>?_⟩
 .grind [Wpv,Xdq,Xez,Wis]
 grind [Wpv,Xdq,Xez]
theorem Wv3{l:List Opn}(h:Wgt l=true):KC l:=by
 unfold Wgt at h;simp only[Xi,Xap]at h;have hc:=WvA h.1;refine⟨hc,λi hi=>?_⟩;have eR:WfS l[i]=false:=by
  grind
 unfold WfS at eR;simp only[Xdq]at eR;by_cases cC:l[i].1<=10
 .exact cC
 .exfalso;by_cases fw:l[i].1=11
  .simp_all
  .have:=Wrs (hc.ok i hi).1 (by omega);simp_all
theorem Wpe{l:List Opn}{m k:Nat}(h:Mate l m k):WiW l m=k:=by
 unfold WiW;have:(Xdb l.length).find? (λk=>decide (m<=k)&&decide (dep l (k+1)=dep l m))=some k:=by
  rw[List.find?_range_eq_some];have:=h.lt;refine⟨?_,List.mem_range.2 h.len,λj hj=>?_⟩
  .simp[h.eq];omega
  .simp only[Xap,Bool.and_eq_false_iff,Wx];by_cases hm:m<=j
   .exact .inr (h.ne j hm hj)
   omega
 grind
theorem We9{l:List Opn}{i:Int}(h0:0<=i)(h:i<l.length):∃(n:Nat) (hn:n<l.length),i=n/\opN l i=l[n]:=by
 grind [opN,Wt]
theorem WkA{l:List Opn}{n:Nat}(h:n<l.length):opN l (n:Int)=l[n]:=by
 grind [opN,Wt]
theorem Wpf{α:Type}(q:List α)(x d:α):WgI (q++ [x]) d=x:=by unfold WgI;simp
theorem Wi4{M:Type}{g:M->Int}{l:List Opn}{pc:Nat}{marks:List M}{d:M}(hc:CC l)(hp:pc<=l.length)(hm:marks.map g=(stk l pc).map λm:Nat=>(m:Int))(hne:marks.length≠0):
  ∃(m:Nat) (q:List M) (x:M),marks=q++ [x]/\WgI marks d=x/\g x=(m:Int)/\(∃hm:m<l.length,l[m].1=8)/\m<pc/\Mate l m (WiW l m)/\pc<=WiW l m/\stk l m=(stk l pc).dropLast/\q.map g=(stk l m).map λm:Nat=>(m:Int):=by
 rcases Wb4 marks with h0|⟨q,x,hq⟩
 .simp_all
 .rw[hq,Xz,Xam,Xby]at hm;rcases Wb4 (stk l pc)with h0|⟨t,m,ht⟩
  .simp_all
  .rw[ht,Xz,Xam,Xby]at hm;obtain⟨e1,e2⟩:=Xeh hm rfl;injection e2 with e2;obtain⟨k,k1,k2,k3⟩:=Wt3 hc.up hc.z hp ht;have k4:=Wpe k2;obtain⟨hlt,h8,_,_⟩:=Wku pc hp t [] m ht
   grind [Wpf,Xeo]
end
section
theorem Wjo{l:List Rw}{c v:Int}:∀(i:Nat),i<=l.length->We3 l c i=some v->(c,v)∈l
 |0,_,h=>by simp[We3]at h
 |i+1,hi,h=>by
  unfold We3 at h;rw[Wt (show i<l.length by omega)]at h;by_cases hc:l[i].1=c
  .grind
  .rw[Wa hc]at h;exact Wjo i (by omega) h
theorem Wh9{l:List Rw}{c v:Int}(h:Wa1 l c=some v):WaT l=true/\(c,v)∈l:=by
 unfold Wa1 at h;by_cases hr:WaT l=true
 .rw[Wb hr]at h;exact⟨hr,Wjo _ (Xn _) h⟩
 simp_all
theorem Wn5(l:List Rw):∀(j c:Nat) (o:List Rw),WkM l j c o=o++(Xgn c j).filterMap λc:Nat=>(Wa1 l (c:Int)).map λv=>((c:Int),v)
 |0,c,o=>by simp[WkM]
 |j+1,c,o=>by
  rw[WkM,Wn5 l j,List.range'_succ,List.filterMap_cons];unfold WjY;cases h:Wa1 l (c:Int)<;>simp
theorem WnK(l:List Rw):WbU l=(Xgn 0 8).filterMap λc:Nat=>(Wa1 l (c:Int)).map λv=>((c:Int),v):=by simp[WbU,Wn5]
theorem Whm{l:List Rw}{r:Rw}:r∈WbU l↔(0<=r.1/\r.1<=7)/\Wa1 l r.1=some r.2:=by
 rw[WnK,List.mem_filterMap];constructor
 .rintro⟨c,hc,h⟩;rw[Xgj]at hc;cases hl:Wa1 l (c:Int)with
  |none=>simp_all
  |some v=>
   grind
 .rintro⟨h0,h⟩;refine⟨r.1.toNat,Xgj.2 (by omega),?_⟩
  grind
theorem WgA(l:List Rw):(WbU l).Pairwise λa b=>a.1<b.1:=by
 rw[WnK,List.pairwise_filterMap];refine List.Pairwise.imp ?_ (List.pairwise_lt_range' (s:=0) (n:=8));simp_all
theorem WeF(l:List Rw):(WbU l).length<=8:=by
 grind [WnK,Xcm,List.length_filterMap_le]
theorem Web{l:List Rw}:WcU (WbU l):=by
 intro r hr;obtain⟨h0,h1⟩:=Whm.1 hr;obtain⟨h2,h3⟩:=Wh9 h1;unfold WaT at h2;simp only[Xi]at h2;have:=(Whr.1 h2.2) _ h3;omega
end
section
theorem WrN{α β:Type}(g:α->β)(l:List α)(i:Nat)(d:α):Xb (l.map g) i (g d)=g (l.getD i d):=by
 simp_all
theorem kdP(x:Kd):x.e.1=x.phase/\x.e.2.1=x.pc/\x.e.2.2.1=x.since/\x.e.2.2.2.1=x.tries/\P4 x.e=x.pos/\P5 x.e=x.out/\P6 x.e=x.regs/\P7 x.e=x.seen/\P8 x.e=x.writes/\P9 x.e=x.marks/\P10 x.e=x.busy:=⟨rfl,rfl,rfl,rfl,rfl,rfl,rfl,rfl,rfl,rfl,rfl⟩
theorem fmP(f:Fm):f.e.1=f.rv/\f.e.2.1=f.clock/\f.e.2.2.1=f.owner/\f.e.2.2.2.1=f.lost/\P4 f.e=f.regs/\P5 f.e=f.start/\P6 f.e=f.buf/\P7 f.e=f.order/\P8 f.e=f.reads/\Q9 f.e=f.kids.map Kd.e:=⟨rfl,rfl,rfl,rfl,rfl,rfl,rfl,rfl,rfl,rfl⟩
theorem U9e(f:Fm)(k:Nat)(x:Kd):U9 (Xk (f.kids.map Kd.e) k x.e) f.e=Fm.e {f with kids:=f.kids.set k x}:=by
 unfold U9 Fm.e;rw[Xfl]
theorem Wp1{f f':Fm}{k:Nat}{x':Kd}{y:Y_KidRun}{g:Y_Family}(hy:y=x'.e)(hg:g=f'.e)(hf:f'.kids=f.kids):
  some ((U9 (Xk (f.kids.map Kd.e) k y) g,()),())=some (((Fm.put (f',x') k).e,()),()):=by
 subst hy hg;rw[←hf,U9e];rfl
theorem Wqi(m:Mm)(f:Fm)(x:Kd)(o:Opn):Wif m f.e x.e o=((WbA m f x o).1.e,(WbA m f x o).2.e):=by
 unfold Wif WbA;have h1:P8 x.e=x.writes:=rfl;have h2:P6 f.e=f.buf:=rfl;rw[h1,h2];rcases Wa1 x.writes o.2.2.1 with _|v
 .rcases ent f.buf o.2.2.1 with _|r
  .have h3:Woj x.e o.2.2.1=if x.busy then x.pb else(o.2.2.1,0,0,0):=by
    unfold Woj;have:P10 x.e=x.busy:=rfl;rw[this];cases x.busy<;>rfl
   simp only[h3];have h4:f.e.1=f.rv:=rfl;rw[h4];generalize WV m f.rv (if x.busy then x.pb else(o.2.2.1,0,0,0))=p;by_cases e4:p.2.1=4
   .have:(p.2.1==4)=true:=by simp_all
    rw[Wb e4,this];rfl
   .have:(p.2.1==4)=false:=by simp_all
    rw[Wa e4,this];by_cases e3:p.2.1=3
    .have:(p.2.1==3)=true:=by simp_all
     rw[Wb e3,this];rfl
    .have:(p.2.1==3)=false:=by simp_all
     rw[Wa e3,this];rfl
  .simp only;have h5:x.e.2.2.1=x.since:=rfl;rw[h5];by_cases hv:r.2.2.2>x.since
   .rw[Wb hv,Wf hv];rfl
   .rw[Wa hv,Wq hv];rfl
 .rfl
theorem Wo7(m:Mm)(f:Fm)(x:Kd)(o:Opn):(WbA m f x o).1.kids=f.kids:=by
 grind [WbA,Wa1,ent,WV]
variable{N:Nat}{codes:List (List Opn)}{n:Int}{f:Fm}{k:Nat}{code:List Opn}{m:Mm}{x:Kd}
theorem FOk.buf8(h:FOk codes n f):f.buf.length<=8:=by
 have:∀(l:List En) (c:Int),Ris cfE l->(∀e∈l,c<=e.1/\e.1<=7)->(l.length:Int)<=8-c\/l= []:=by
  intro l
  induction l with
  |nil=>simp_all
  |cons a l ih=>
   intro c hr hb;left;have h1:=Xv.1 hr;have ha:=hb a (Xh ..);rcases ih (a.1+1) h1.2 (λe he=>⟨by grind [cfE],(hb e (Xe _ he)).2⟩)with h|h
   .grind
   grind
 rcases this f.buf 0 h.bufR (λe he=>by have:=(h.bufE e he).1;omega)with h|h
 .omega
 simp_all
theorem Wrz(hF:FOk codes n f)(hx:KOk code f.clock n x)(bE:KC code)(hm:W2 m=true)(hn:n<=100000){o:Opn}(hA:W6 o.2.1=true)(hB:Wai o.2.2.1=true):ReadOk m f.e x.e o where
 mem:=hm
 regs:=hx.regs.len
 famr:=hF.regs.len
 rA:=by grind [W6]
 cB:=hB
 seen:=by have:=hx.sl;have:=hx.pc;have:=bE.len;show x.seen.length<=1000;omega
 wr:=by have:=hx.wl;have:=hx.pc;have:=bE.len;show x.writes.length<=1000;omega
 buf:=by have:=hF.buf8;show f.buf.length<=1000;omega
 ver:=λe he=>(hF.bufE e he).2.2.1
 since:=hx.since.1
 pc:=by have:=hx.pc;have:=bE.len;show 0<=x.pc/\x.pc<=1000;omega
 tries:=by have:=hx.tries;show 0<=x.tries/\x.tries<=100000;omega
 pb:=hx.pb
theorem WE{α:Type}{a b:Int}{x y:α}:(bif a==b then x else y)=if a=b then x else y:=by
 simp_all
theorem Wal{α:Type}{p:Prop}[Decidable p]{x y:α}:(bif decide p then x else y)=if p then x else y:=by
 simp_all
theorem Wkq(bE:KC code)(hx:KOk code f.clock n x)(h0:x.phase=0)(hN:1048576<N):Zin N x.e code=some (((WfX x code).e,()),()):=by
 unfold Zin WfX;obtain⟨k0,k1,k2,k3,k4,k5,k6,k7,k8,k9,k10⟩:=kdP x;have bf:=hx.pc;have hlen:=bE.len;have hM:=hx.marks h0;simp only[Wu,k9,k8,k1,WE];by_cases hz:x.marks.length=0
 .rw[Wb (by unfold Wi;omega),Wb hz];rfl
 .rw[Wa (by unfold Wi;omega),Wa hz];obtain⟨j,q,y,e1,e2,e3,⟨hj,h8⟩,rN,dO,iz,e5,e6⟩:=Wi4 (d:=((0,0,[]):KM)) bE.toCC (show x.pc.toNat<=code.length by omega) hM.pcs hz;have tU:x.marks.length=q.length+1:=by grind
  have xP:q.length<=24:=by
   have:=Wj Xc e6;simp only[Xu]at this;have h2:=WbB bE.up j (by omega);have h3:=(Wds code j).2;omega
  have i1:W1 .i64 (Wi x.marks) 1=(q.length:Int):=by grind [WoR]
  have hy:y∈x.marks:=by grind
  obtain⟨y1,y2,y3,y4⟩:=hM.each y hy;have g1:Xb x.marks (Xa (q.length:Int)) ((0,0,[]):KM)=y:=by grind
  have t1:Xau (Xa (q.length:Int)) x.marks=x.marks.dropLast:=by rw[e1];simp
  have lC:=hx.wl;rw[i1,W8,Wf (show q.length<x.marks.length by omega)];simp only[We,g1,t1,e2];have b1:((decide ((0:Int)<=(q.length:Int))&&decide ((q.length:Int)<=(x.marks.length:Int)))&&decide ((q.length:Int)<=((Xa (q.length:Int):Nat):Int)))=true:=by
   simp;omega
  rw[b1];simp only[We];rw[Wa2 (by rw[y1.len];omega)];simp only[ret,Xd];rw[e3,W8,Wf hj];have o1:Xb code (Xa ((j:Nat):Int)) ((0,0,0,0):Opn)=code[j]:=Wv hj _;have o2:opN code ((j:Nat):Int)=code[j]:=WkA hj;have hr:=WvN (bE.ok j hj).1 h8;simp only[We,o1,o2];rw[Wa5 hr y1.len];have b2:(decide ((0:Int)<=y.2.1)&&decide (y.2.1<=(x.writes.length:Int)))=true:=by simp;omega
  rw[b2];simp only[We];rw[WcG (by grind),Wii (by omega) hN ⟨hj,h8⟩ dO];simp only[ret,Xd];rw[WcA (by have:=dO.len;omega),Xj];rfl
theorem Wm2(hk:k<f.kids.length)(hm:W2 m=true)(bE:KC code)(hF:FOk codes n f)(aA:codes.getD k []=code)(aW:f.kids[k]=x)(h0:x.phase=0)(hn:n<=100000)(hN:1048576<N):
  Zjq N f.e (k:Int) code m=some (((Fm.put (Wl2 m f x code) k).e,()),()):=by
 have hx:=hF.kid k hk;rw[aA,aW]at hx;obtain⟨k0,k1,k2,k3,k4,k5,k6,k7,k8,k9,k10⟩:=kdP x;obtain⟨f0,f1,f2,f3,f4,f5,f6,f7,f8,f9⟩:=fmP f;have bf:=hx.pc;have hlen:=bE.len;have lC:=hx.wl;have e2:Xb (f.kids.map Kd.e) (Xa (k:Int)) d_KidRun=x.e:=by
  simp_all
 have e3:U9 (Xk (f.kids.map Kd.e) (Xa (k:Int)) x.e) f.e=f.e:=by
  rw[Xj,U9e,←aW,Xbi]
 unfold Zjq Wl2;simp only[Wu,f9,Xu];rw[W8,Wf hk];simp only[We,e2,e3,k1,k6,k8,k9,Wal,WE,show Wi code=(code.length:Int)from rfl];by_cases eQ:x.pc>=code.length
 .rw[Wb eQ,Wb eQ];rw[Xj];exact Wp1 rfl rfl rfl
 .rw[Wa eQ,Wa eQ];obtain⟨j,hj,ej,eo⟩:=We9 (l:=code) bf.1 (by omega);have tZ:Xb code (Xa x.pc) ((0,0,0,0):Opn)=opN code x.pc:=rfl;have eG:inb x.pc code.length=true:=by grind [W8,decide_eq_true]
  rw[eG];obtain⟨ok,o1,fC⟩:=bE.ok j hj;have cy:=bE.k10 j hj;simp only[We,tZ];rw[←eo]at ok o1 cy;generalize opN code x.pc=o at*;have dn:=hx.regs.len;rw[Xj];rw[WcA (show 0<=x.pc/\x.pc<=1000000 by omega)];by_cases h5:o.1=5
  .rw[Wb h5,Wb h5];have:=Wto ok h5;have di:=Wrz hF hx bE hm hn this.1 this.2;have e4:(Q9 f.e)[k]'(by simp_all)=x.e:=by
    simp_all
   have:=Wlv (m:=m) (o:=o) (f:=f.e) (k:=k) (by simp_all) (by simp_all) hN;rw[this];simp only[Xd,e4,Wqi];unfold Wv6;have jJ:=Wo7 m f x o;rw[show Q9 (WbA m f x o).1.e=f.kids.map Kd.e by rw[←jJ];rfl];exact Wp1 rfl rfl jJ
  .rw[Wa h5,Wa h5];by_cases cC:o.1=10
   .rw[Wb cC,Wb cC,Wkq bE hx h0 hN];exact Wp1 rfl rfl rfl
   .rw[Wa cC,Wa cC];by_cases h6:o.1=6
    .rw[Wb h6,Wb h6];rw[Wa5 (WvR ok h6).2 dn,WC (by simp;omega)];exact Wp1 rfl rfl rfl
    .rw[Wa h6,Wa h6];by_cases h7:o.1=7
     .rw[Wb h7,Wb h7];have h:=Wvh ok h7;rw[Wa5 h.1 dn,WJ (a:=x.pc) (b:=o.2.2.1) (by unfold I64;omega),WcA (a:=x.pc+o.2.2.1) (by omega)];by_cases hg:Xb x.regs (Xa o.2.1) 0=0
      .rw[Wb hg,Wb (show Wcp x.regs o.2.1 0=0 from hg)];simp only[We];exact Wp1 rfl rfl rfl
      .rw[Wa hg,Wa (show¬Wcp x.regs o.2.1 0=0 from hg)];simp only[We];exact Wp1 rfl rfl rfl
     .rw[Wa h7,Wa h7];by_cases h8:o.1=8
      .rw[Wb h8,Wb h8];rw[Wa2 (by omega)];have oi:x.marks.length<=24:=by
        have:=Wj Xc (hx.marks h0).pcs;simp only[Xu]at this;have h2:=WbB bE.up x.pc.toNat (by omega);have h3:=(Wds code x.pc.toNat).2;omega
       simp only[ret,Xd];rw[WC (by simp;omega)];exact Wp1 rfl rfl rfl
      .rw[Wa h8,Wa h8];by_cases h9:o.1=9
       .rw[Wb h9,Wb h9];have hM:=hx.marks h0;have hz:x.marks.length≠0:=by
         intro hz;have h1:=Wj Xc hM.pcs;simp only[Xu,hz]at h1;have h2:=WbB bE.up j (by omega);have h3:=bE.up j hj
         grind [WaX,WpO,Xj]
        obtain⟨i,q,y,e1,xQ,xR,⟨hi,xS⟩,rN,dO,iz,e5,e6⟩:=Wi4 (d:=((0,0,[]):KM)) bE.toCC (show x.pc.toNat<=code.length by omega) hM.pcs hz;have tU:x.marks.length=q.length+1:=by grind
        have oi:x.marks.length<=24:=by
         have:=Wj Xc (hx.marks h0).pcs;simp only[Xu]at this;have h2:=WbB bE.up x.pc.toNat (by omega);have h3:=(Wds code x.pc.toNat).2;omega
        have i1:W1 .i64 (Wi x.marks) 1=(q.length:Int):=by grind [WoR]
        have g1:Xb x.marks (Xa (q.length:Int)) ((0,0,[]):KM)=y:=by grind
        have t1:Xau (Xa (q.length:Int)) x.marks=x.marks.dropLast:=by rw[e1];simp
        rw[i1,W8,Wf (show q.length<x.marks.length by omega)];have b1:(decide ((0:Int)<=(q.length:Int))&&decide ((q.length:Int)<=(x.marks.length:Int)))=true:=by simp;omega
        rw[b1];simp only[We,g1,t1,xQ];rw[xR,W8,Wf hi];have o1:Xb code (Xa ((i:Nat):Int)) ((0,0,0,0):Opn)=opN code (i:Int):=rfl;have hr:=WvN (bE.ok i hi).1 xS;rw[←WkA hi]at hr;simp only[We,o1];rw[Wa5 hr dn];exact Wp1 rfl rfl rfl
       .rw[Wa h9,Wa h9];rw[WgQ hN ok (by omega) (by omega) hx.regs];exact Wp1 rfl rfl rfl
end
section
theorem WeT{p:Pb}:Wkn p=true↔(0<=p.1/\p.1<=7)/\(0<=p.2.1/\p.2.1<=4)/\(0<=p.2.2.1/\p.2.2.1<=1000000)/\0<=p.2.2.2/\p.2.2.2<=65535:=by
 simp[Wkn,Wai,WbH,Xi,Wh]
theorem WeB{c:Int}{w:Wd}:Wp0 c w=true↔(0<=w.1/\w.1<=65535)/\(0<=w.2.1/\w.2.1<=c)/\0<=w.2.2/\w.2.2<=99:=by
 simp[Wp0,WbH,Xi,Wh]
theorem Wq0{m:Mm}(h:W2 m=true){c:Int}(hc:0<=c/\c<=7):Wp0 m.1 (Wcp m.2 c (0,0,0))=true:=by
 grind [WP,Wcp,Wt,Xo]
theorem Wl3{m:Mm}{rv:Int}{p:Pb}(hm:W2 m=true)(hp:Wkn p=true):Wkn (WV m rv p)=true/\(WV m rv p).1=p.1:=by
 have dG:=WeT.1 hp;have hw:=Wq0 hm dG.1;rw[WeB]at hw;obtain⟨h8,h0,h1,_⟩:=WP hm;unfold WV;simp only[WE,Wal];have xM:Wp0 m.1 (Xb m.2 (Xa p.1) (0,0,0))=true:=Wq0 hm dG.1
 grind [WeB,WeT]
section
variable{code:List Opn}{pc dS wl kc:Nat}{ms q:List KM}{y:KM}{c c' n n':Int}{x:Kd}{f:Fm}{m:Mm}{codes:List (List Opn)}{k:Nat}
theorem KMk.mono(h:KMk code pc ms wl)(hs:stk code dS=stk code pc)(hw:wl<=kc):KMk code dS ms kc:=
 ⟨by rw[hs];exact h.pcs,λq hq=>by have:=h.each q hq;grind,h.up⟩
theorem KMk.begin(h:KMk code pc ms wl)(hp:pc<code.length)(h8:code[pc].1=8){regs:List Int}(hr:Vals 4 regs)(hw:wl<=pc):KMk code (pc+1) (ms++ [((pc:Int),(wl:Int),regs)]) wl:=by
 refine⟨?_,?_,?_⟩
 .rw[Wkj hp h8,Xz,Xz,h.pcs];rfl
 .intro q hq;rcases Xm.1 hq with hq|hq
  .exact h.each q hq
  simp_all
 .refine Xaj.2 ⟨h.up,List.pairwise_singleton _ _,λa ha b hb=>?_⟩;rw[Xaa]at hb;subst hb;exact(h.each a ha).2.2.2
theorem KMk.drop(h:KMk code pc ms wl)(oJ:ms=q++ [y])(hs:stk code dS=(stk code pc).dropLast)(hw:y.2.1<=kc):KMk code dS q kc:=by
 subst oJ;have h1:=h.pcs;refine⟨?_,λa ha=>?_,(Xaj.1 h.up).1⟩
 .grind
 .have h2:=h.each a (List.mem_append_left _ ha);have h3:=(Xaj.1 h.up).2.2 a ha y (by simp)
  grind
theorem KOk.wk(h:KOk code c n x)(hc:c<=c')(hn:n<=n'):KOk code c' n' x:=
 {h with since:=by have:=h.since;omega,tries:=by have:=h.tries;omega}
theorem Wos(h:KOk code c n x)(hc:c=f.clock)(hf:Vals 4 f.regs)(h0:0<=f.clock):KOk code c (n+1) (f.again x) where
 pc:=⟨Xs _,by show(0:Int)<=_;omega⟩
 regs:=hf
 rows:=λr hr=>by cases hr
 wl:=Xs _
 sl:=Xs _
 since:=by show 0<=f.clock/\f.clock<=c;omega
 tries:=by have:=h.tries;show 0<=x.tries+1/\x.tries+1<=n+1;omega
 seen:=λe he=>by cases he
 marks:=λ_=>⟨by show([]:List KM).map _=(stk code 0).map _;rfl,(λq hq=>by cases hq),List.Pairwise.nil⟩
 pos:=⟨Xs _,Xs _⟩
 pb:=λh=>by cases h
 phase:=by show(0:Int)<=0/\(0:Int)<=3;omega
 out:=by show(0:Int)<=0/\(0:Int)<=2;omega
theorem KMk.len(hc:CC code)(h:KMk code pc ms wl)(hp:pc<=code.length):(ms.length:Int)=dep code pc:=by
 have:=Wj Xc h.pcs;simp only[Xu]at this;rw[this,WbB hc.up pc hp]
theorem KOk.on(bO:CC code)(h:KOk code c n x)(h0:x.phase=0){i:Nat}(hi:i<code.length)(bf:x.pc=i){regs:List Int}{seen:List En}{writes:List Rw}{marks:List KM}{busy:Bool}{pb:Pb}{dS:Nat}(hp:dS<=code.length)(hlt:i<dS)(hr:Vals 4 regs)(hrow:WcU writes)(lC:writes.length<=x.writes.length+1)(hsl:seen.length<=x.seen.length+1)
  (hs:∀e∈seen,(0<=e.1/\e.1<=7)/\(0<=e.2.1/\e.2.1<=65535)/\ -1<=e.2.2/\e.2.2<=x.since) (hse:x.seen.length<=seen.length) (hm:KMk code dS marks writes.length) (hb:busy=true->Wkn pb=true):
  KOk code c n {x with regs:=regs,seen:=seen,writes:=writes,marks:=marks,busy:=busy,pb:=pb,pc:=(dS:Int)}:=
 {h with
  pc:=by simp_all
  regs:=hr
  rows:=hrow
  wl:=by have:=h.wl;grind
  sl:=by have:=h.sl;grind
  seen:=hs
  marks:=λ_=>by simp_all
  pos:=by have:=h.pos;grind
  pb:=hb}
theorem WsZ(bO:CC code)(hF:FOk codes n f)(h:KOk code f.clock n x)(h0:x.phase=0){i:Nat}(hi:i<code.length)(bf:x.pc=i)(h5:code[i].1=5)(hm:W2 m=true):
  KOk code f.clock (n+1) (WbA m f x code[i]).2/\((WbA m f x code[i]).1=f\/(WbA m f x code[i]).1={f with lost:=true}):=by
 have aY:=Wto (bO.ok i hi).1 h5;have hB:0<=code[i].2.2.1/\code[i].2.2.1<=7:=by grind [Wai]
 have hM:=h.marks h0;rw[bf,Xj]at hM;have aS:stk code (i+1)=stk code i:=WfR hi (by omega) (by omega);have cb:x.pc+1=((i+1:Nat):Int):=by omega
 unfold WbA;cases hl:Wa1 x.writes code[i].2.2.1 with
 |some v=>
  have hv:=h.rows _ (Wh9 hl).2;refine⟨?_,.inl rfl⟩;simp only[cb];exact(KOk.on bO h h0 hi bf (by omega) (by omega) (h.regs.set _ hv.2) h.rows (by omega) (by omega) h.seen (by omega) (hM.mono aS (by omega)) h.pb).wk (by omega) (by omega)
 |none=>
  simp only;cases he:ent f.buf code[i].2.2.1 with
  |some r=>
   simp only;have hr:=Wcr he;have lU:r.2∈f.buf:=by
    grind
   have gJ:=hF.bufE _ lU;split
   .exact⟨Wos h rfl hF.regs hF.clock.1,.inl rfl⟩
   .refine⟨?_,.inl rfl⟩;simp only[cb];refine(KOk.on bO h h0 hi bf (by omega) (by omega) (h.regs.set _ gJ.2.1) h.rows (by omega) (by simp) (λe dT=>?_) (by simp) (hM.mono aS (by omega)) h.pb).wk (by omega) (by omega);rcases Xm.1 dT with dT|dT
    .exact h.seen e dT
    grind
  |none=>
   simp only;have hQ:Wkn (if x.busy=true then x.pb else(code[i].2.2.1,0,0,0))=true:=by
    split
    .exact h.pb ‹_›
    grind [WeT]
   have ct:=Wl3 (rv:=f.rv) hm hQ;generalize WV m f.rv (if x.busy=true then x.pb else(code[i].2.2.1,0,0,0))=p at*;have hp:=WeT.1 ct.1;split
   .refine⟨?_,.inr rfl⟩;exact KOk.wk (n:=n) {h with pb:=λ_=>ct.1} (by omega) (by omega)
   .split
    .refine⟨?_,.inl rfl⟩;simp only[cb];refine(KOk.on bO h h0 hi bf (by omega) (by omega) (h.regs.set _ hp.2.2.2) h.rows (by omega) (by simp) (λe dT=>?_) (by simp) (hM.mono aS (by omega)) (λh=>by cases h)).wk (by omega) (by omega);rcases Xm.1 dT with dT|dT
     .exact h.seen e dT
     .rw[Xaa]at dT;subst dT;exact⟨hB,hp.2.2.2,by simp,by have:=h.since;grind⟩
    .refine⟨?_,.inl rfl⟩;exact KOk.wk (n:=n) {h with pb:=λ_=>ct.1} (by omega) (by omega)
theorem Wur(bE:KC code)(hF:FOk codes n f)(h:KOk code f.clock n x)(h0:x.phase=0)(hm:W2 m=true):
  KOk code f.clock (n+1) (Wl2 m f x code).2/\((Wl2 m f x code).1=f\/(Wl2 m f x code).1={f with lost:=true}):=by
 have bO:=bE.toCC;unfold Wl2;split
 .refine⟨?_,.inl rfl⟩;exact KOk.wk (n:=n) {h with marks:=λh=>by simp_all,phase:=by simp_all,out:=by simp_all} (by omega) (by omega)
 .obtain⟨i,hi,bf,ho⟩:=We9 (l:=code) h.pc.1 (by omega);simp only[ho];obtain⟨ok,o1,fC⟩:=bE.ok i hi;have cy:=bE.k10 i hi;have hM:=h.marks h0;rw[bf,Xj]at hM;have cb:x.pc+1=((i+1:Nat):Int):=by omega
  have lC:x.writes.length<=i:=by have:=h.wl;omega
  split
  .grind [WsZ]
  .split
   .refine⟨?_,.inl rfl⟩;unfold WfX;split
    .refine KOk.wk (n:=n) {h with rows:=(λr hr=>by cases hr),wl:=by simp_all,marks:=λh=>by simp_all,phase:=by simp_all,out:=by simp_all} (by omega) (by omega)
    .obtain⟨j,q,y,e1,e2,e3,⟨hj,h8⟩,rN,dO,iz,e5,e6⟩:=Wi4 (d:=((0,0,[]):KM)) bO (show i<=code.length by omega) hM.pcs ‹_›;obtain⟨y1,y2,y3,y4⟩:=hM.each y (by grind);simp only[e2,e3,Xj,←Int.natCast_succ];have hl:=dO.len;have ht:(Xau y.2.1.toNat x.writes).length=y.2.1.toNat:=by simp_all
     refine(KOk.on bO h h0 hi bf (dS:=WiW code j+1) (by omega) (by omega) (y1.set _ (by omega)) (λr hr=>h.rows r (List.mem_of_mem_take hr)) (by omega) (by omega) h.seen (by omega) ?_ h.pb).wk (by omega) (by omega);rw[show x.marks.dropLast=q by grind];exact hM.drop e1 (by rw[dO.st];exact e5) (by omega)
   .split
    .refine⟨?_,.inl rfl⟩;have hk:=WvR ok ‹_›;have aS:stk code (i+1)=stk code i:=WfR hi (by omega) (by omega);simp only[cb];refine(KOk.on bO h h0 hi bf (by omega) (by omega) h.regs (λr hr=>?_) (by simp) (by omega) h.seen (by omega) (hM.mono aS (by simp)) h.pb).wk (by omega) (by omega);rcases Xm.1 hr with hr|hr
     .exact h.rows r hr
     .rw[Xaa]at hr;subst hr;have:=hk.1;unfold Wai at this;exact⟨by simp_all,h.regs.get _⟩
    .split
     .refine⟨?_,.inl rfl⟩;obtain⟨s1,s2⟩:=bE.sk i hi ‹_›;have hk:=Wvh ok ‹_›;have aS:stk code (i+1)=stk code i:=WfR hi (by omega) (by omega);have nJ:stk code (i+1+code[i].2.2.1.toNat)=stk code i:=by grind [Wn1]
      by_cases hg:Wcp x.regs code[i].2.1 0=0
      .simp only[Wb hg,show x.pc+code[i].2.2.1+1=((i+1+code[i].2.2.1.toNat:Nat):Int) by omega];exact(KOk.on bO h h0 hi bf s1 (by omega) h.regs h.rows (by omega) (by omega) h.seen (by omega) (hM.mono nJ (by omega)) h.pb).wk (by omega) (by omega)
      .simp only[Wa hg,cb];exact(KOk.on bO h h0 hi bf (by omega) (by omega) h.regs h.rows (by omega) (by omega) h.seen (by omega) (hM.mono aS (by omega)) h.pb).wk (by omega) (by omega)
     .split
      .refine⟨?_,.inl rfl⟩;simp only[cb];rw[bf];exact(KOk.on bO h h0 hi bf (by omega) (by omega) h.regs h.rows (by omega) (by omega) h.seen (by omega) (hM.begin hi ‹_› h.regs lC) h.pb).wk (by omega) (by omega)
      .split
       .refine⟨?_,.inl rfl⟩;have hz:x.marks.length≠0:=by
         have h1:=hM.len bO (by omega);have h3:=bO.up i hi
         grind [WaX,WpO]
        obtain⟨j,q,y,e1,e2,e3,⟨hj,h8⟩,rN,dO,iz,e5,e6⟩:=Wi4 (d:=((0,0,[]):KM)) bO (show i<=code.length by omega) hM.pcs hz;obtain⟨y1,y2,y3,y4⟩:=hM.each y (by grind);simp only[cb];refine(KOk.on bO h h0 hi bf (by omega) (by omega) (h.regs.set _ (by omega)) h.rows (by omega) (by omega) h.seen (by omega) ?_ h.pb).wk (by omega) (by omega);rw[show x.marks.dropLast=q by grind];exact hM.drop e1 (WmQ hi ‹_›) (by omega)
       .refine⟨?_,.inl rfl⟩;have aS:stk code (i+1)=stk code i:=WfR hi (by omega) (by omega);simp only[cb];exact(KOk.on bO h h0 hi bf (by omega) (by omega) (WkC ok (by omega) (by omega) h.regs) h.rows (by omega) (by omega) h.seen (by omega) (hM.mono aS (by omega)) h.pb).wk (by omega) (by omega)
end
end
section
def zWd:Wd:=(0,0,0)
def Ww(m:Mm)(i:Int):Wd:=Wcp m.2 i zWd
def WmU(m:Mm)(i:Int)(w:Wd):Mm:=(m.1,WmT m.2 i w)
variable{m:Mm}
theorem Wm6(hm:W2 m=true){i:Int}{w:Wd}(hw:Wp0 m.1 w=true):W2 (WmU m i w)=true:=by
 obtain⟨h8,h0,h1,gZ⟩:=WP hm;unfold W2 WmU WmT
 grind
theorem WeP(hm:W2 m=true){i:Int}(hi:0<=i/\i<=7):Wp0 m.1 (Ww m i)=true:=Wq0 hm hi
theorem WjR(hm:W2 m=true):W2 (tick m).1=true/\0<=(tick m).2/\(tick m).2<=1000000/\((tick m).2≠0->(tick m).2=m.1+1/\(tick m).1=(m.1+1,m.2))/\((tick m).2=0->(tick m).1=m):=by
 obtain⟨h8,h0,h1,gZ⟩:=WP hm;unfold tick;split
 .refine⟨?_,by omega,by omega,λ_=>⟨rfl,rfl⟩,λh=>by omega⟩;unfold W2;simp only[Xi,Wh,Xai]
  grind [WeB]
 simp_all
end
section
def Wfy(c:Int)(v:List En)(r:Rw):List En:=match ent v r.1 with
 |some a=>v.set a.1 (r.1,r.2,c)
 |none=>v++ [(r.1,r.2,c)]
theorem WlU(c:Int)(v:List En)(r:Rw):(Wfy c v r).length<=v.length+1:=by
 unfold Wfy;split<;>simp
theorem apE{a b:En}:Ap cfE a b↔a.1≠b.1:=by unfold Ap cfE;omega
theorem Wra{c:Int}{L M:List En}{r:Rw}(hL:L.Pairwise (Ap cfE))(hM:Ris cfE M)(hm:∀x,x∈L↔x∈M):
  (Wfy c L r).Pairwise (Ap cfE)/\Ris cfE (Wdb cfE M (r.1,r.2,c))/\∀x,x∈Wfy c L r↔x∈Wdb cfE M (r.1,r.2,c):=by
 have key:(Wfy c L r).Pairwise (Ap cfE)/\∀x,x∈Wfy c L r↔x=(r.1,r.2,c)\/(x∈L/\Ap cfE x (r.1,r.2,c)):=by
  unfold Wfy ent;cases he:fnd (λe:En=>e.1==r.1) L 0 with
  |some a=>
   obtain⟨h1,h2,h3,h4⟩:=Wcr he;simp only[Xba,Xde]at h3 h4
   grind [Xp,WlO,WsX,apE]
  |none=>
   grind [WfZ,Wi5,apE]
 refine⟨key.1,WbJ WsX hM,λx=>?_⟩;rw[key.2 x,Wa9 WsX hM,hm]
theorem Wr9{c:Int}:∀{rows:List Rw} {L M:List En},L.Pairwise (Ap cfE)->Ris cfE M->(∀x,x∈L↔x∈M)->
  (rows.foldl (Wfy c) L).Pairwise (Ap cfE)/\Ris cfE (WaJ c M rows)/\∀x,x∈rows.foldl (Wfy c) L↔x∈WaJ c M rows
 | [],_,_,hL,hM,hm=>⟨hL,hM,hm⟩
 |r::rows,L,M,hL,hM,hm=>by
  obtain⟨a,b,d⟩:=Wra (c:=c) (r:=r) hL hM hm;exact Wr9 (rows:=rows) a b d
theorem WlA{c:Int}:∀(rows:List Rw) (L:List En),(rows.foldl (Wfy c) L).length<=L.length+rows.length
 | [],L=>by simp
 |r::rows,L=>by
  have:=WlA (c:=c) rows (Wfy c L r)
  grind [WlU,Xx]
theorem Wez{c:Int}{P:En->Prop}:∀{rows:List Rw} {M:List En},Ris cfE M->(∀x∈M,P x)->(∀r∈rows,P (r.1,r.2,c))->∀x∈WaJ c M rows,P x
 | [],_,_,h,_=>h
 |r::rows,M,hM,h,hr=>by
  refine Wez (rows:=rows) (WbJ WsX hM) (λx hx=>?_) λr' h'=>hr r' (Xe _ h');rcases(Wa9 WsX hM).1 hx with rfl|h'
  .simp_all
  simp_all
theorem Wor{R:Type}{N:Nat}{k4:Int}{b7 b8 b9:Int}{ba:Bool}{aR aG ac dx cR aZ:Int}{bZ:Bool}{bM bu dy gP:Int}{ca:List Kc}{cN:List Int}{db:List Kc}{gQ:List Int}{cY:List Kc}{eb:List Y_KidRun}{gR:Nat}{fj:List Int}{eK:List Kb}{fm:List Kc}{ee:List Kk}{K0:Int->Bool->Kt->Option R}(hN:1048576<N)(ua:ca.length<=8):
  ∀(d j n:Nat) (v:List En),j+d=ca.length->d<n->v.length<=100+j->
  Zau N k4 (Wi ca) b7 b8 b9 ba aR aG ac dx cR aZ bZ bM bu dy gP ca cN db gQ cY eb gR fj eK fm ee K0 n (j:Int) v=K0 (ca.length:Int) false ((ca.drop j).foldl (Wfy b8) v)
 |0,j,n+1,v,hj,hn,hv=>by
  simp_all [Zau,WZ,Xn,Wc,Xdg,List.foldl_nil]
 |d+1,j,n+1,v,hj,hn,hv=>by
  have hlt:j<ca.length:=by omega
  have lD:=Wfk (N:=N) (f:=(b7,(b8,(b9,(ba,(cN,(db,(v,(gQ,(cY,Xk eb gR (aR,(aG,(ac,(dx,(cR,(aZ,(fj,(eK,(fm,(ee,(bZ,(bM,(bu,(dy,gP)))))))))))))))))))))))) (c:=ca[j].1) (by grind) hN;have hs:=WlU b8 v ca[j];have bo:∀v',v'=Wfy b8 v ca[j]->Zau N k4 (Wi ca) b7 b8 b9 ba aR aG ac dx cR aZ bZ bM bu dy gP ca cN db gQ cY eb gR fj eK fm ee K0 n ((j+1:Nat):Int) v'=K0 (ca.length:Int) false ((ca.drop j).foldl (Wfy b8) v):=λv' xT=>by
   subst xT;rw[Wor hN ua d (j+1) n _ (by omega) (by omega) (by omega),Xch hlt,List.foldl_cons]
  simp only[Zau,Wu,WU hlt,Wp hlt,Wv hlt,Wn (show j<4611686018427387904 by omega),We,lD,ret,Xd];have hd:ent v ca[j].1=ent v ca[j].1:=rfl;unfold Wfy at bo;cases he:ent v ca[j].1 with
  |some a=>
   rw[he]at bo;obtain⟨h1,h2,h3,h4⟩:=Wcr he;rw[Xba]at h3;simp only[Wf (show((a.1:Int)>=0) by omega),We];rw[W8,Wf h3];simp only[We,Xj];exact bo _ rfl
  |none=>
   rw[he]at bo;simp only[show decide ((-1:Int)>=0)=false from rfl,Wc];rw[WC (by simp;omega)];simp only[We,Xak];exact bo _ rfl
 |_,_,0,_,_,h,_=>by omega
theorem WjU{R:Type}{N:Nat}{ja fD jc jd:Int}{je:Bool}{jf jg jh ji jj jk:Int}{jl:Bool}{jm jn jo jp:Int}{df:List Kb}{jq:List Int}{jr:List Kc}{jt:List Kb}{ju:List Int}{jv:List Y_KidRun}{jw:Nat}{fE:List Int}{fF:List Kc}{fG:List Kk}{K0:Int->Bool->Kw->Option R}(wc:df.length<=1000):
  ∀(d j n:Nat) (v:List Rw),j+d=df.length->d<n->v.length<=1000+j->
  Za4 N ja (Wi df) fD jc jd je jf jg jh ji jj jk jl jm jn jo jp df jq jr jt ju jv jw fE fF fG K0 n (j:Int) v=K0 (df.length:Int) false (v++WaV (df.drop j))
 |0,j,n+1,v,hj,hn,hv=>by
  have:j=df.length:=by omega
  subst this;simp only[Za4,WZ (Xn df.length),Wc,Xdg,WaV,List.filter_nil,Xby,List.append_nil]
 |d+1,j,n+1,v,hj,hn,hv=>by
  have hlt:j<df.length:=by omega
  have he:WaV (df.drop j)=if df[j].2.2= -1 then(df[j].1,df[j].2.1)::WaV (df.drop (j+1))else WaV (df.drop (j+1)):=by
   rw[Xch hlt];unfold WaV
   grind
  simp only[Za4,Wu,WU hlt,Wp hlt,Wv hlt,Wn (show j<4611686018427387904 by omega),We,WE];rw[he];by_cases h:df[j].2.2= -1
  .rw[Wb h,Wb h,WC (by simp;omega)];simp only[We];rw[WjU wc d (j+1) n _ (by omega) (by omega) (by simp;omega)];simp
  .rw[Wa h,Wa h];rw[WjU wc d (j+1) n _ (by omega) (by omega) (by omega)]
 |_,_,0,_,_,h,_=>by omega
variable{N:Nat}{codes:List (List Opn)}{n:Int}{f:Fm}{k:Nat}{code:List Opn}{m:Mm}{x:Kd}
theorem Wvp{l:List En}(h:Ris cfE l):l.Pairwise (Ap cfE):=h.imp λh=>.inl h
theorem WjM(hk:k<f.kids.length)(h3:f.kids.length<=3)(qI:code.length<=24)(hF:FOk codes n f)(aA:codes.getD k []=code)(aW:f.kids[k]=x)(hN:1048576<N):
  Zd3 N f.e (k:Int)=some (((Fm.put (Wa8 f x k) k).e,()),()):=by
 have hx:=hF.kid k hk;rw[aA,aW]at hx;obtain⟨f0,f1,f2,f3,f4,f5,f6,f7,f8,f9⟩:=fmP f;have bf:=hx.pc;have lC:=hx.wl;have hsl:=hx.sl;have hb8:=hF.buf8;have nK:f.order.length<=3:=by
  have h1:=hF.done
  grind
 have gt:=hF.readsL;have e2:Xb (f.kids.map Kd.e) (Xa (k:Int)) d_KidRun=x.e:=by
  simp_all
 unfold Zd3;simp only[f9,Xu];rw[W8,Wf hk];simp only[We,e2];have en:Zgz N x.e.2.2.2.2.2.2.2.2.1=ret (WbU x.writes):=WdL (show x.writes.length<=1048576 by omega) hN;rw[en];simp only[ret,Xd];have iX:=WeF x.writes;rw[show(0:Int)=((0:Nat):Int)from rfl];rw[Wor (ca:=WbU x.writes) hN iX (WbU x.writes).length 0 N _ (by omega) (by omega) (by grind)];simp only[Xcg];have hP6:P6 f.e=f.buf:=rfl;have hcl:Wm .i64 f.e.2.1 1=f.clock+1:=WcA (by have:=hF.clock;omega);rw[hP6,hcl];obtain⟨i1,i2,i3⟩:=Wr9 (c:=f.clock+1) (rows:=WbU x.writes) (Wvp hF.bufR) hF.bufR (λx=>Iff.rfl);unfold Zah;have gj:=WlA (c:=f.clock+1) (WbU x.writes) f.buf;rw[Wk6 (rng:=Wva) (N:=N) WsX i2 i1 i3 (λe he=>?_) (by omega)]
 .simp only[Xd];have hP7:P7 x.e=x.seen:=rfl;rw[show(Kd.e x).2.2.2.2.2.2.2.1=x.seen from rfl];rw[WjU (df:=x.seen) (by omega) x.seen.length 0 N _ (by omega) (by omega) (by grind)];rw[WC (by grind)];simp only[We,Xcg];have hU:∀(g:Fm) (y:Kd),U6 (Xk (f.kids.map Kd.e) k y.e) (S5 (f.reads++WaV x.seen) (S4 (f.order++ [(k:Int)]) (S3 (WaJ (f.clock+1) f.buf (WbU x.writes)) f.e.2.2.2)))=(f.lost,f.regs,f.start,WaJ (f.clock+1) f.buf (WbU x.writes),f.order++ [(k:Int)],f.reads++WaV x.seen,(f.kids.set k y).map Kd.e):=λg y=>by
   rw[Xfl];rfl
  rw[Xj];exact Wj (λz=>some (((f.rv,(f.clock+1,((0:Int),z))),()),())) (hU f {x with phase:=3,pos:=0,marks:=[]})
 .have h1:=(i3 e).1 he;have:=Wez (P:=λe=>0<=e.1/\e.1<=7) hF.bufR (λe he=>(hF.bufE e he).1) (λr hr=>(Whm.1 hr).1) e h1
  grind [Wva,Wsb]
theorem WlN(hk:k<f.kids.length)(hF:FOk codes n f)(hx:KOk code f.clock n x)(aW:f.kids[k]=x)(hn:n<=100000)(o:Int):
  Zbf N (Fm.e {f with owner:=o}) (k:Int)=some (((Fm.put ({f with owner:=o},f.again x) k).e,()),()):=by
 have h:=Wd5 (N:=N) (f:=Fm.e {f with owner:=o}) (k:=k) (x:=x.e) (by show k<(f.kids.map Kd.e).length;simp_all) hF.regs.len (by have:=hx.tries;show 0<=x.tries/\x.tries<=100000;omega);have e3:U9 (Xk (Q9 (Fm.e {f with owner:=o})) k x.e) (Fm.e {f with owner:=o})=Fm.e {f with owner:=o}:=by
  have:=U9e {f with owner:=o} k x;rw[←aW]at this;simp only[Xbi]at this;rw[←aW];exact this
 rw[e3]at h;rw[h];exact Wj (λz=>some ((z,()),())) (U9e {f with owner:=o} k (f.again x))
theorem Wky(hk:k<f.kids.length)(h3:f.kids.length<=3)(hm:W2 m=true)(bE:KC code)(hF:FOk codes n f)(aA:codes.getD k []=code)(hn:n<=100000)(hN:1048576<N):
  Zi6 N f.e (k:Int) code m=some (((WaM m f k code).e,()),()):=by
 obtain⟨x,aW⟩:∃x,f.kids[k]=x:=⟨_,rfl⟩;have hx:=hF.kid k hk;rw[aA,aW]at hx;obtain⟨f0,f1,f2,f3,f4,f5,f6,f7,f8,f9⟩:=fmP f;obtain⟨k0,k1,k2,k3,k4,k5,k6,k7,k8,k9,k10⟩:=kdP x;have hsl:=hx.sl;have bf:=hx.pc;have qI:=bE.len;have e2:Xb (f.kids.map Kd.e) (Xa (k:Int)) d_KidRun=x.e:=by
  simp_all
 have e3:U9 (Xk (f.kids.map Kd.e) (Xa (k:Int)) x.e) f.e=f.e:=by
  rw[Xj,U9e,←aW,Xbi]
 have e4:Fm.put (f,x) k=f:=by unfold Fm.put;simp only;rw[←aW,Xbi]
 unfold Zi6 WaM Wbi;simp only[Wu,f9,f3,Xu];rw[Whn];by_cases hlost:f.lost=true
 .rw[Wb hlost,Wb hlost]
 rw[Wa hlost,Wa hlost];rw[W8,Wf hk];simp only[We,Wc,e2,e3,k0,k4,k7,f2,WE,Wt hk,aW];by_cases h0:x.phase=0
 .rw[Wb h0,Wb h0,Wm2 hk hm bE hF aA aW h0 hn hN];rfl
 .rw[Wa h0,Wa h0];by_cases h1:x.phase=1
  .rw[Wb h1,Wb h1];by_cases ho:f.owner=0
   .rw[Wb ho,Wb ho,WcA (by omega),Xj];exact Wp1 rfl rfl rfl
   simp_all
  .rw[Wa h1,Wa h1];by_cases h2:x.phase=2
   .rw[Wb h2,Wb h2];unfold Wi;by_cases hp:x.pos=(x.seen.length:Int)
    .rw[Wb hp,Wb hp,WjM hk h3 qI hF aA aW hN];rfl
    .rw[Wa hp,Wa hp];have hpos:=hx.pos;have eG:inb x.pos x.seen.length=true:=by grind [inb]
     rw[eG];have hg:Xb x.seen (Xa x.pos) ((0,0,0):En)=Wcp x.seen x.pos (0,0,0):=rfl;simp only[We,hg];have lD:=Wfk (N:=N) (f:=f.e) (c:=(Wcp x.seen x.pos (0,0,0)).1) (by show f.buf.length<=1048576;have:=hF.buf8;omega) hN;rw[show f.e.2.2.2.2.2.2.1=f.buf from rfl]at lD;rw[lD];simp only[ret,Xd,f6];have hsz:S2 (0:Int) f.e=Fm.e {f with owner:=0}:=rfl;have fU:Zbf N (U9 (Xk (f.kids.map Kd.e) (Xa (k:Int)) x.e) (S2 0 f.e)) (k:Int)=some (((Fm.put ({f with owner:=0},f.again x) k).e,()),()):=by
      grind [U9e,Xj,U9,Xk,Kd.e,Fm.e,Xbi,WlN]
     unfold WtF;have qJ:Wm .i64 x.pos 1=x.pos+1:=WcA (by omega);rw[qJ];cases he:ent f.buf (Wcp x.seen x.pos (0,0,0)).1 with
     |some a=>
      obtain⟨g1,g2,g3,g4⟩:=Wcr he;rw[Xba]at g3;rw[Xde,Xp g3]at g4;injection g4 with g4;simp only[Wf (show((a.1:Int)>=0) by omega),We];rw[W8,Wf g3];simp only[We,Wv g3,g4];by_cases hv:a.2.2.2=(Wcp x.seen x.pos (0,0,0)).2.2
      .rw[Wb hv,Wb hv,Xj];exact Wp1 rfl rfl rfl
      simp_all
     |none=>
      simp only[show decide ((-1:Int)>=0)=false from rfl,Wc];by_cases hv:(-1:Int)=(Wcp x.seen x.pos (0,0,0)).2.2
      .rw[Wb hv,Wb hv,Xj];exact Wp1 rfl rfl rfl
      simp_all
   simp_all
end
section
section
variable{codes:List (List Opn)}{n:Int}{f f':Fm}{k:Nat}{code:List Opn}{m:Mm}{x y:Kd}
theorem FOk.len3(h:FOk codes n f)(h3:codes.length<=3):f.order.length<=3:=by
 have h1:=h.done;have:=Xfs (p:=λx:Kd=>decide (x.phase=3)) (l:=f.kids);have:=h.len;omega
theorem FOk.put1(h:FOk codes n f)(hk:k<f.kids.length)(aA:codes.getD k []=code){o:Int}{l:Bool}(ho:0<=o/\o<=f.kids.length)(hy:KOk code f.clock (n+1) y)(hp:f.kids[k].phase≠3)(hyp:y.phase≠3):
  FOk codes (n+1) (Fm.put ({f with owner:=o,lost:=l},y) k) where
 len:=by show(f.kids.set k y).length=_;rw[Xaf];exact h.len
 regs:=h.regs
 clock:=h.clock
 done:=by
  show f.order.length=(f.kids.set k y).countP _;rw[Xgr hk,Wa (by simp_all),Wa (by simp_all)];exact h.done
 bufR:=h.bufR
 bufE:=h.bufE
 readsL:=h.readsL
 readsE:=h.readsE
 owner:=by show 0<=o/\o<=((f.kids.set k y).length:Int);simp_all
 kid:=λi hi=>by
  change i<(f.kids.set k y).length at hi;rw[Xaf]at hi;show KOk (codes.getD i []) f.clock (n+1) (f.kids.set k y)[i];rw[Xaq];by_cases he:k=i
  .simp_all
  .rw[Wa he];exact(h.kid i hi).wk (by omega) (by omega)
theorem FOk.wk(h:FOk codes n f){n':Int}(hn:n<=n'):FOk codes n' f:=
 {h with kid:=λk hk=>(h.kid k hk).wk (by omega) hn}
theorem Wk3(h:∀e∈x.seen,(0<=e.1/\e.1<=7)/\(0<=e.2.1/\e.2.1<=65535)/\ -1<=e.2.2/\e.2.2<=x.since):WcU (WaV x.seen):=by
 intro r hr;unfold WaV at hr
 grind
theorem Wl0(l:List En):(WaV l).length<=l.length:=by
 simp[WaV,Xu,List.length_filter_le]
theorem WgO{c:Int}:∀{rows:List Rw} {M:List En},Ris cfE M->Ris cfE (WaJ c M rows)
 | [],_,h=>h
 |r::rows,M,h=>WgO (rows:=rows) (WbJ WsX h)
theorem WqK(hF:FOk codes n f)(hk:k<f.kids.length)(bE:code.length<=24)(aA:codes.getD k []=code)(aW:f.kids[k]=x)(h2:x.phase=2):
  FOk codes (n+1) (Fm.put (Wa8 f x k) k):=by
 have hx:=hF.kid k hk;rw[aA,aW]at hx;have hc:=hF.clock;unfold Wa8 Fm.put;refine{len:=?_,regs:=hF.regs,clock:=?_,done:=?_,bufR:=WgO hF.bufR,bufE:=?_,readsL:=?_,readsE:=?_,owner:=?_,kid:=?_}
 .simp only[Xaf];exact hF.len
 .grind
 .simp only[Xac,List.length_singleton];rw[Xgr hk,aW,Wa (by simp[h2]),Wb (by simp),←hF.done];rfl
 .simp only;refine Wez hF.bufR (λe he=>?_) λr hr=>?_
  .have:=hF.bufE e he;omega
  .have:=Web r hr;grind
 .have h1:=hF.readsL;have h2:=Wl0 x.seen;have h3:=hx.sl;have h4:=hx.pc
  grind
 .intro r hr;rcases Xm.1 hr with hr|hr
  .exact hF.readsE r hr
  .exact Wk3 hx.seen r hr
 .simp_all
 .intro i hi;simp only[Xaf]at hi;simp only[Xaq];by_cases he:k=i
  .subst he;rw[Wb rfl,aA];refine KOk.wk (c:=f.clock) (n:=n) ?_ (by omega) (by omega);exact{hx with marks:=(λh=>by simp_all),pos:=⟨Xs _,by simp_all⟩,phase:=by simp_all}
  .rw[Wa he];exact(hF.kid i hi).wk (by omega) (by omega)
theorem Woi(hk:k<f.kids.length)(hm:W2 m=true)(bE:KC code)(hF:FOk codes n f)(aA:codes.getD k []=code):FOk codes (n+1) (WaM m f k code):=by
 obtain⟨x,aW⟩:∃x,f.kids[k]=x:=⟨_,rfl⟩;have hx:=hF.kid k hk;rw[aA,aW]at hx;have e4:Fm.put (f,x) k=f:=by unfold Fm.put;simp only;rw[←aW,Xbi]
 have hFw:=hF.wk (show n<=n+1 by omega);unfold WaM Wbi;split
 .exact hFw
 rw[Wt hk,aW];split
 .rename_i h0;obtain⟨h1,h2⟩:=Wur bE hF hx h0 hm;have hnp:(Wl2 m f x code).2.phase≠3:=by
   grind [Wl2,WbA,WfX,Fm.again]
  have:=h1;have key:∀q:Fm×Kd,(q.1=f\/q.1={f with lost:=true})->KOk code f.clock (n+1) q.2->q.2.phase≠3->FOk codes (n+1) (Fm.put q k):=by
   rintro⟨g,y⟩ hg hy hp;simp only at hg hy hp;rcases hg with rfl|rfl
   .exact FOk.put1 (o:=g.owner) (l:=g.lost) hF hk aA hF.owner hy (by simp_all) hp
   .exact FOk.put1 (o:=f.owner) (l:=true) hF hk aA hF.owner hy (by simp_all) hp
  simp_all
 .split
  .rename_i h1;split
   .refine FOk.put1 (o:=(k:Int)+1) (l:=f.lost) hF hk aA (by omega) ?_ (by simp_all) (by simp_all);refine KOk.wk (c:=f.clock) (n:=n) ?_ (by omega) (by omega);exact{hx with marks:=(λh=>by simp_all),phase:=by simp_all}
   simp_all
  .split
   .rename_i h2;split
    .exact WqK hF hk bE.len aA aW h2
    .simp only;split
     .refine FOk.put1 (o:=f.owner) (l:=f.lost) hF hk aA hF.owner ?_ (by simp_all) (by simp_all);refine KOk.wk (c:=f.clock) (n:=n) ?_ (by omega) (by omega);exact{hx with pos:=by(have:=hx.pos;grind)}
     .refine FOk.put1 (o:=0) (l:=f.lost) hF hk aA (by omega) (Wos hx rfl hF.regs hF.clock.1) (by simp_all) (by show(0:Int)≠3;omega)
   simp_all
theorem WrC{rv:Int}{regs:List Int}{writes:List Rw}(hr:Vals 4 regs)(hn:0<=n):FOk codes n (Wa7 rv regs writes codes.length) where
 len:=by simp[Wa7]
 regs:=hr
 clock:=by simp[Wa7]
 done:=by
  simp only[Wa7,List.length_nil];rw[List.countP_replicate,Wa (by simp)]
 bufR:=by
  grind [Ris,Wa7,WgA,cfE]
 bufE:=λe he=>by
  obtain⟨r,hr,rfl⟩:=List.mem_map.1 he;have:=Web r hr
  grind [Wa7]
 readsL:=by simp[Wa7]
 readsE:=λr hr=>by cases hr
 owner:=by simp[Wa7]
 kid:=λk hk=>by
  simp only[Wa7,List.getElem_replicate];exact{pc:=by simp,regs:=hr,rows:=(λr hr=>by cases hr),wl:=by simp,sl:=by simp,since:=by simp,tries:=by simp;omega,seen:=(λe he=>by cases he),marks:=(λ_=>⟨by simp[stk],(λq hq=>by cases hq),List.Pairwise.nil⟩),pos:=by simp,pb:=(λh=>by cases h),phase:=by simp,out:=by simp}
end
end
end Go.Sx
