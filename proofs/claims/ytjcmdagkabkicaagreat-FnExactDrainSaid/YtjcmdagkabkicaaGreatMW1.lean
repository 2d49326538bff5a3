/- Plain laws of the Lean functions. -/
import Derived.Test.YtjcmdagkabkicaaGreatT2
open Option renaming bind_some→Xd
open Nat renaming le_refl→Xm,zero_add→Xau,le_trans→Xal,add_zero→Xbb,add_assoc→Xba,sub_zero→Xdf
open List renaming mem_cons→Xs,append→Xh,length_cons→Xr,mem_cons_self→Xj,append_eq→Xbc,mem_cons_of_mem→Xf,all_eq_true→Xad,getD→Xc,set→Xe,set_set→Xct,take_succ_eq_append_getElem→Xbt,countP_le_length→Xek,length→Xb,length_append→Xaa,length_dropLast→Xda,append_inj'→Xei,append_assoc→Xbf,cons_append→Xbd,dropLast_concat→Xeq,getElem_mem→Xv,length_set→Xat,length_nil→Xbz,pairwise_cons→Xy,mergeSort_perm→Xgo,getElem_of_mem→Xcc,pairwise_iff_getElem→Xap,mem_iff_getElem→Xdt,getElem_set→Xcm,range→Xcu,replicate→Xp,map_append→Xz,map_cons→Xaf,map_nil→Xcg,map_set→Xes,length_map→Xu,take→Xam,set_getElem_self→Xbh,range'→Xga,mem_range'_1→Xfg,mem_append→Xo,pairwise_append→Xah,mem_singleton→Xag,getElem?_eq_getElem→Xq,drop_length→Xcb,drop_eq_getElem_cons→Xay,drop_zero→Xbk,countP_set→Xhb,length_singleton→Xgf,mem_map→Xw,nil_append→Xbe
open Bool renaming not_true→Xk,and_eq_true→Xi,or_eq_true→Xcd,not_eq_true'→Xaj,not_eq_true→Xfs,false_or→Xfe,toNat_false→Xfq,false_and→Xee,true_and→Xby,or_eq_false_iff→Xdr,not_eq_false'→Xfc
open Int renaming toNat→Xa,toNat_natCast→Xl,le_refl→Xcv
namespace Go.Sx
set_option linter.unusedVariables false
set_option linter.unusedSimpArgs false
section
abbrev Cur:=List Int×Int×Int
end
section

end
section
def Wbg(v:Int):Bool:=decide (0<=v)&&decide (v<=65535)
theorem WcK{N:Nat}{x a b:Int}:Zf N x a b=ret (decide (a<=x)&&decide (x<=b)):=by
 unfold Zf;by_cases h:a<=x<;>simp[h]
theorem W1{N:Nat}{x a b:Int}:Zi N x a b=ret (decide (a<=x)&&decide (x<=b)):=by
 unfold Zi;by_cases h:a<=x<;>simp[h]
theorem Wbo{α:Type}{p:α->Bool}(l:List α):(l.any λx=>!p x)= !l.all p:=by
 grind
abbrev Rw:=Int×Int
def Wav(v:Int):Bool:=decide (0<=v)&&decide (v<=7)
def WiC(r:Rw):Bool:=Wav r.1&&Wbg r.2
def Wak(l:List Rw):Bool:=decide (l.length<=300)&&l.all WiC
def Wdm(l:List Int):Bool:=decide (l.length=8)&&l.all Wbg
theorem Wal{N:Nat}{v:Int}:Zam N v=ret (Wbg v):=by
 unfold Zam;simp only[WcK,ret,Xd];rfl
theorem WaB{N:Nat}{v:Int}:Zah N v=ret (Wbg v):=by
 unfold Zah;simp only[W1,ret,Xd];rfl
theorem WbL{N:Nat}{v:Int}:Zck N v=ret (Wav v):=by
 unfold Zck;simp only[WcK,ret,Xd];rfl
theorem WaI{N:Nat}{v:Int}:Za6 N v=ret (Wav v):=by
 unfold Za6;simp only[W1,ret,Xd];rfl
theorem Wh2{N:Nat}{l:List Int}(hl:l.length<=1048576)(hN:1048576<N):Zi1 N l=ret (Wdm l):=by
 unfold Zi1 Wdm;by_cases h:l.length=8
 .have e:(Wg l !=8)=false:=by simp[Wg,h]
  rw[e];simp only[Wa];have h1:=Wx (l:=l) (V:=Unit) (R:=Unit×Ko) (lp:=λn j v=>Zd9 N l (some ((),(false,()))) (λi8 t9=>some ((),(true,()))) n j) (n:=N) (by omega)
   (body:=λj x v k=>bif !Wbg x then some ((),(false,()))else k v) (K:=λ_ v=>some ((),(true,())))
   (λn i v hi=>by simp only[Zd9,WK hi,Ww hi,Ws hi,Wm (show i<4611686018427387904 by omega),Wb,Wal,ret,Xd])
   (λn v=>by simp[Zd9,WS,Xm,Wa]) ()
  refine h1.trans ?_;rw[W9 (p:=λx=>!Wbg x) (E:=λ_=>some ((),(false,()))) l 0 () (λj x v k _=>rfl),Wbo];cases l.all Wbg<;>simp[h]
 grind [Wg]
theorem WhX{N:Nat}{l:List Int}(hl:l.length<=1048576)(hN:1048576<N):Z6 N l 8=ret (Wdm l):=by
 unfold Z6 Wdm;have h1:=Wx (l:=l) (V:=Unit) (R:=Unit×Ko) (lp:=λn j v=>Zak N l 8 (some ((),(false,()))) (λi8 t9=>some ((),((Wg l)==(8:Int),()))) n j) (n:=N) (by omega)
  (body:=λj x v k=>bif !Wbg x then some ((),(false,()))else k v) (K:=λ_ v=>some ((),((Wg l)==(8:Int),())))
  (λn i v hi=>by simp only[Zak,WK hi,Ww hi,Ws hi,Wm (show i<4611686018427387904 by omega),Wb,WaB,ret,Xd])
  (λn v=>by simp[Zak,WS,Xm,Wa]) ()
 refine h1.trans ?_;rw[W9 (p:=λx=>!Wbg x) (E:=λ_=>some ((),(false,()))) l 0 () (λj x v k _=>rfl),Wbo];have e:((Wg l)==(8:Int))=decide (l.length=8):=by
  grind [Wg]
 rw[e];cases l.all Wbg<;>simp
theorem Wdw{N:Nat}{l:List Rw}(hl:l.length<=1048576)(hN:1048576<N):Ze8 N l=ret (Wak l):=by
 unfold Ze8 Wak;by_cases h:l.length<=300
 .have e:decide (Wg l>300)=false:=by simp[Wg];omega
  rw[e];simp only[Wa];have h1:=Wx (l:=l) (V:=Unit) (R:=Unit×Ko) (lp:=λn j v=>Zeb N l (some ((),(false,()))) (λi8 t9=>some ((),(true,()))) n j) (n:=N) (by omega)
   (body:=λj x v k=>bif !WiC x then some ((),(false,()))else k v) (K:=λ_ v=>some ((),(true,())))
   (λn i v hi=>by
    simp only[Zeb,WK hi,Ww hi,Ws hi,Wm (show i<4611686018427387904 by omega),Wb,Wal,WbL,ret,Xd,WiC];cases Wav l[i].1<;>rfl)
   (λn v=>by simp[Zeb,WS,Xm,Wa]) ()
  refine h1.trans ?_;rw[W9 (p:=λx=>!WiC x) (E:=λ_=>some ((),(false,()))) l 0 () (λj x v k _=>rfl),Wbo];cases l.all WiC<;>simp[h]
 grind [decide,Wg]
theorem WcF{N:Nat}{l:List Rw}(hl:l.length<=1048576)(hN:1048576<N):Zdu N l=ret (Wak l):=by
 unfold Zdu Wak;have h1:=Wx (l:=l) (V:=Unit) (R:=Unit×Ko) (lp:=λn j v=>Zef N l (some ((),(false,()))) (λi8 t9=>some ((),(decide ((Wg l)<=(300:Int)),()))) n j) (n:=N) (by omega)
  (body:=λj x v k=>bif !WiC x then some ((),(false,()))else k v) (K:=λ_ v=>some ((),(decide ((Wg l)<=(300:Int)),())))
  (λn i v hi=>by
   simp only[Zef,WK hi,Ww hi,Ws hi,Wm (show i<4611686018427387904 by omega),Wb,WaB,WaI,ret,Xd,WiC];cases Wav l[i].1<;>rfl)
  (λn v=>by simp[Zef,WS,Xm,Wa]) ()
 refine h1.trans ?_;rw[W9 (p:=λx=>!WiC x) (E:=λ_=>some ((),(false,()))) l 0 () (λj x v k _=>rfl),Wbo];have e:decide (Wg l<=300)=decide (l.length<=300):=by apply decide_eq_decide.2;simp[Wg];omega
 rw[e];cases l.all WiC<;>simp
theorem Wqs{α:Type}{l:List α}(h:l.length<=1048576):Wz l.length=true:=by grind [Wz]
end
section
abbrev Opn:=Int×Int×Int×Int
def W8(v:Int):Bool:=decide (0<=v)&&decide (v<=3)
def We3(v:Int):Bool:=decide (0<=v)&&decide (v<=7)
theorem Wpt{N:Nat}{v:Int}:Zbr N v=ret (W8 v):=by
 unfold Zbr;simp only[WcK,ret,Xd];rfl
theorem WoR{N:Nat}{v:Int}:Zbs N v=ret (W8 v):=by
 unfold Zbs;simp only[W1,ret,Xd];rfl
theorem Wo5{N:Nat}{v:Int}:Zaw N v=ret (We3 v):=by
 unfold Zaw;simp only[W1,ret,Xd];rfl
def WdZ(o:Opn):Bool:=
 bif o.1==1 then W8 o.2.1&&Wbg o.2.2.1&&(o.2.2.2==(0:Int))else
 bif o.1==2 then W8 o.2.1&&W8 o.2.2.1&&W8 o.2.2.2 else
 bif o.1==3 then W8 o.2.1&&W8 o.2.2.1&&W8 o.2.2.2 else
 bif o.1==4 then W8 o.2.1&&W8 o.2.2.1&&W8 o.2.2.2 else
 bif o.1==5 then W8 o.2.1&&Wav o.2.2.1&&(o.2.2.2==(0:Int))else
 bif o.1==6 then Wav o.2.1&&W8 o.2.2.1&&(o.2.2.2==(0:Int))else
 bif o.1==7 then W8 o.2.1&&(decide (1<=o.2.2.1)&&decide (o.2.2.1<=20))&&(o.2.2.2==(0:Int))else
 bif o.1==8 then W8 o.2.1&&(o.2.2.1==(0:Int))&&(o.2.2.2==(0:Int))else
 bif o.1==9 then(o.2.1==(0:Int))&&(o.2.2.1==(0:Int))&&(o.2.2.2==(0:Int))else
 bif o.1==10 then(o.2.1==(0:Int))&&(o.2.2.1==(0:Int))&&(o.2.2.2==(0:Int))else
 bif o.1==11 then(o.2.1==(0:Int))&&(o.2.2.1==(0:Int))&&(o.2.2.2==(0:Int))else
 bif o.1==12 then We3 o.2.1&&W8 o.2.2.1&&W8 o.2.2.2 else
 bif o.1==13 then W8 o.2.1&&We3 o.2.2.1&&(o.2.2.2==(0:Int))else
 bif o.1==14 then We3 o.2.1&&W8 o.2.2.1&&(o.2.2.2==(0:Int))else
 bif o.1==15 then W8 o.2.1&&(o.2.2.1==(0:Int))&&(o.2.2.2==(0:Int))else
 bif o.1==16 then W8 o.2.1&&(o.2.2.1==(0:Int))&&(o.2.2.2==(0:Int))else
 false
abbrev Bo:=Option Ke
def oA(p k:Bo):Bo:=p.bind λo=>bif o.2.1 then k else some ((),(false,()))
def oB(p:Bo):Bo:=p.bind λo=>some ((),(o.2.1,()))
theorem o3{T P Q R:Bo}{p q r:Bool}(h:T=oA P (oA Q (oB R)))(hp:P=ret p)(hq:Q=ret q)(hr:R=ret r):T=ret (p&&q&&r):=by
 rw[h,hp,hq,hr];cases p<;>cases q<;>rfl
theorem z0(v:Int):(ret (v==(0:Int)):Bo)=ret (v==(0:Int)):=rfl
theorem sR(N:Nat)(v:Int):Zbr N v=ret (W8 v):=Wpt
theorem sV(N:Nat)(v:Int):Zam N v=ret (Wbg v):=Wal
theorem sC(N:Nat)(v:Int):Zck N v=ret (Wav v):=WbL
theorem sK(N:Nat)(v:Int):Zf N v 0 7=ret (We3 v):=WcK
theorem sI(N:Nat)(v:Int):Zf N v 1 20=ret (decide (1<=v)&&decide (v<=20)):=WcK
theorem iR(N:Nat)(v:Int):Zbs N v=ret (W8 v):=WoR
theorem iV(N:Nat)(v:Int):Zah N v=ret (Wbg v):=WaB
theorem iC(N:Nat)(v:Int):Za6 N v=ret (Wav v):=WaI
theorem iK(N:Nat)(v:Int):Zaw N v=ret (We3 v):=Wo5
theorem iI(N:Nat)(v:Int):Zi N v 1 20=ret (decide (1<=v)&&decide (v<=20)):=W1
def kds:List Int:=[1,2,3,4,5,6,7,8,9,10,11,12,13,14,15,16]
theorem Wxg{P:Int->Prop}(h1:P 1)(h2:P 2)(h3:P 3)(h4:P 4)(h5:P 5)(h6:P 6)(h7:P 7)(h8:P 8)(h9:P 9)(cS:P 10)(gQ:P 11)(eS:P 12)(wS:P 13)(h14:P 14)(h15:P 15)(qe:P 16)
  (h0:∀k,(∀i,i∈kds->(k==i)=false)->P k) (k:Int):P k:=by
 by_cases h:k∈kds
 .simp only[kds,Xs,List.not_mem_nil,or_false]at h;rcases h with h|h|h|h|h|h|h|h|h|h|h|h|h|h|h|h<;>rw[h]<;>assumption
 .exact h0 k λi hi=>by
   rw[beq_eq_false_iff_ne];intro e;exact h (e▸hi)
theorem Wc6{N:Nat}{o:Opn}:Zl7 N o=ret (WdZ o):=by
 obtain⟨k,a,b,c⟩:=o;exact Wxg (P:=λk=>Zl7 N (k,a,b,c)=ret (WdZ (k,a,b,c)))
  (o3 (by kernel_rfl) (sR N a) (sV N b) (z0 c))
  (o3 (by kernel_rfl) (sR N a) (sR N b) (sR N c))
  (o3 (by kernel_rfl) (sR N a) (sR N b) (sR N c))
  (o3 (by kernel_rfl) (sR N a) (sR N b) (sR N c))
  (o3 (by kernel_rfl) (sR N a) (sC N b) (z0 c))
  (o3 (by kernel_rfl) (sC N a) (sR N b) (z0 c))
  (o3 (by kernel_rfl) (sR N a) (sI N b) (z0 c))
  (o3 (by kernel_rfl) (sR N a) (z0 b) (z0 c))
  (o3 (by kernel_rfl) (z0 a) (z0 b) (z0 c))
  (o3 (by kernel_rfl) (z0 a) (z0 b) (z0 c))
  (o3 (by kernel_rfl) (z0 a) (z0 b) (z0 c))
  (o3 (by kernel_rfl) (sK N a) (sR N b) (sR N c))
  (o3 (by kernel_rfl) (sR N a) (sK N b) (z0 c))
  (o3 (by kernel_rfl) (sK N a) (sR N b) (z0 c))
  (o3 (by kernel_rfl) (sR N a) (z0 b) (z0 c))
  (o3 (by kernel_rfl) (sR N a) (z0 b) (z0 c))
  (λk e=>by unfold Zl7 WdZ;simp(disch:=decide) only[e,Wa,Wk]) k
theorem Wfp{N:Nat}{o:Opn}:Zjg N o=ret (WdZ o):=by
 obtain⟨k,a,b,c⟩:=o;exact Wxg (P:=λk=>Zjg N (k,a,b,c)=ret (WdZ (k,a,b,c)))
  (o3 (by kernel_rfl) (iR N a) (iV N b) (z0 c))
  (o3 (by kernel_rfl) (iR N a) (iR N b) (iR N c))
  (o3 (by kernel_rfl) (iR N a) (iR N b) (iR N c))
  (o3 (by kernel_rfl) (iR N a) (iR N b) (iR N c))
  (o3 (by kernel_rfl) (iR N a) (iC N b) (z0 c))
  (o3 (by kernel_rfl) (iC N a) (iR N b) (z0 c))
  (o3 (by kernel_rfl) (iR N a) (iI N b) (z0 c))
  (o3 (by kernel_rfl) (iR N a) (z0 b) (z0 c))
  (o3 (by kernel_rfl) (z0 a) (z0 b) (z0 c))
  (o3 (by kernel_rfl) (z0 a) (z0 b) (z0 c))
  (o3 (by kernel_rfl) (z0 a) (z0 b) (z0 c))
  (o3 (by kernel_rfl) (iK N a) (iR N b) (iR N c))
  (o3 (by kernel_rfl) (iR N a) (iK N b) (z0 c))
  (o3 (by kernel_rfl) (iK N a) (iR N b) (z0 c))
  (o3 (by kernel_rfl) (iR N a) (z0 b) (z0 c))
  (o3 (by kernel_rfl) (iR N a) (z0 b) (z0 c))
  (λk e=>by unfold Zjg WdZ;simp(disch:=decide) only[e,Wa,Wk]) k
end
section
section
variable{N:Nat}{c:Cur}
end
end
section
section
variable{N:Nat}{c:Cur}
end
end
section
abbrev Wd:=Int×Int×Int
abbrev Mm:=Int×List Wd
theorem Wam{α:Type}(a:Option α):Wb8 a a=a:=by unfold Wb8;simp
def Wm9(clock:Int)(w:Wd):Bool:=Wbg w.1&&((decide (0<=w.2.1)&&decide (w.2.1<=clock))&&(decide (0<=w.2.2)&&decide (w.2.2<=99)))
def W0(m:Mm):Bool:=decide (m.2.length=8)&&((decide (0<=m.1)&&decide (m.1<=1000000))&&m.2.all (Wm9 m.1))
theorem Wbi{N:Nat}{m:Mm}(hl:m.2.length<=1048576)(hN:1048576<N):Zc5 N m=ret (W0 m):=by
 unfold Zc5 W0;have h1:=Wx (l:=m.2) (V:=Unit) (R:=Unit×Ko) (lp:=λn j v=>Zfn N m.2 m (some ((),(false,()))) (λga gt=>
  (bif (Wg m.2)==(8:Int)then
  ((Zi N m.1 (0:Int) (1000000:Int)).bind λla=>
  (some ((),(la.2.1,()))))
  else
  (some ((),(false,()))))) n j) (n:=N) (by omega)
  (body:=λj x v k=>bif !Wm9 m.1 x then some ((),(false,()))else k v) (K:=λ_ v=>(bif (Wg m.2)==(8:Int)then
  ((Zi N m.1 (0:Int) (1000000:Int)).bind λla=>
  (some ((),(la.2.1,()))))
  else
  (some ((),(false,())))))
  (λn i v hi=>by
   simp only[Zfn,WK hi,Ww hi,Ws hi,Wm (show i<4611686018427387904 by omega),Wb,WaB,W1,ret,Xd,Wm9];cases Wbg m.2[i].1<;>cases(decide (0<=m.2[i].2.1)&&decide (m.2[i].2.1<=m.1))<;>cases(decide (0<=m.2[i].2.2)&&decide (m.2[i].2.2<=99))<;>rfl)
  (λn v=>by simp[Zfn,WS,Xm,Wa]) ()
 refine h1.trans ?_;rw[W9 (p:=λx=>!Wm9 m.1 x) (E:=λ_=>some ((),(false,()))) m.2 0 () (λj x v k _=>rfl),Wbo];have e:((Wg m.2)==(8:Int))=decide (m.2.length=8):=by
  grind [Wg]
 simp only[e,W1,ret,Xd];cases m.2.all (Wm9 m.1)<;>cases decide (m.2.length=8)<;>simp
theorem WbY{N:Nat}{m:Mm}(hl:m.2.length<=1048576)(hN:1048576<N):Ze2 N m=ret (W0 m):=by
 unfold Ze2 W0;have e:((Wg m.2) !=(8:Int))= !decide (m.2.length=8):=by
  grind [Wg]
 have h1:=Wx (l:=m.2) (V:=Unit) (R:=Unit×Ko) (lp:=λn j v=>Zc4 N m (some ((),(false,()))) (λir dL=>(some ((),(true,())))) n j) (n:=N) (by omega)
  (body:=λj x v k=>bif !Wm9 m.1 x then some ((),(false,()))else k v) (K:=λ_ v=>some ((),(true,())))
  (λn i v hi=>by
   simp only[Zc4,WK hi,Ww hi,Ws hi,Wm (show i<4611686018427387904 by omega),Wb,Wal,WcK,ret,Xd,Wm9];cases Wbg m.2[i].1<;>cases(decide (0<=m.2[i].2.1)&&decide (m.2[i].2.1<=m.1))<;>cases(decide (0<=m.2[i].2.2)&&decide (m.2[i].2.2<=99))<;>rfl)
  (λn v=>by simp[Zc4,WS,Xm,Wa]) ()
 have h2:Zc4 N m (some ((),(false,()))) (λir dL=>(some ((),(true,())))) N 0=ret (m.2.all (Wm9 m.1)):=by
  refine h1.trans ?_;rw[W9 (p:=λx=>!Wm9 m.1 x) (E:=λ_=>some ((),(false,()))) m.2 0 () (λj x v k _=>rfl),Wbo];cases m.2.all (Wm9 m.1)<;>rfl
 rw[e,h2];simp only[WcK,ret,Xd];cases decide (m.2.length=8)<;>cases(decide (0<=m.1)&&decide (m.1<=1000000))<;>simp
def wd0(v:Int):Wd:=(v,(0,0))
def WnX(l:List Int):Mm:=(0,l.map wd0)
theorem Wca{α β R:Type}{body:Int->α->List β->(List β->Option R)->Option R}{K:Int->List β->Option R}{f:α->β}:∀(l:List α) (j:Nat) (o:List β),o.length+l.length<=1000000->
  (∀(j:Nat) x (v:List β) k,x∈l->body j x v k=bif Wz (v.length+ [f x].length)then k (Xh v [f x])else none)->Wbm body K l j o=K ((j+l.length:Nat):Int) (o++l.map f)
 | [],j,o,_,_=>by simp[Wbm]
 |x::l,j,o,h,hb=>by
  rw[Xr]at h;rw[Wbm,hb j x o _ (Xj ..),Wq (by simp;omega)];simp only[Wb];rw[Wca l (j+1) _ (by grind [Xbc]) λj y v k hy=>hb j y v k (Xf _ hy)];rw[Xr,show j+1+l.length=j+(l.length+1) by omega];simp
theorem WjS{N:Nat}{l:List Int}(h:Wdm l=true)(hN:1048576<N):Zi3 N l=some ((),(WnX l,(true,()))):=by
 have hl:l.length=8:=by grind [Wdm]
 unfold Zi3;simp only[WhX (show l.length<=1048576 by omega) hN,ret,Xd,h,Xk,Wa];have h1:=Wx (l:=l) (V:=List Wd) (R:=Unit×(Mm×Ko)) (lp:=λn j v=>Zeg N l (λax be bd=>(some ((),(((0:Int),bd),(true,()))))) n j v) (n:=N) (by omega)
  (body:=λj x v k=>bif Wz (v.length+ [wd0 x].length)then k (Xh v [wd0 x])else none) (K:=λ_ v=>some ((),(((0:Int),v),(true,()))))
  (λn i v hi=>by simp only[Zeg,WK hi,Ww hi,Ws hi,Wm (show i<4611686018427387904 by omega),Wb,wd0])
  (λn v=>by simp[Zeg,WS,Xm,Wa]) []
 refine h1.trans ?_;rw[Wca (f:=wd0) l 0 [] (by simp;omega) (λj x v k _=>rfl)];rfl
theorem WjW{N:Nat}{l:List Int}(h:Wdm l=true)(hN:1048576<N):Zk1 N l=some ((),(WnX l,(true,()))):=by
 have hl:l.length=8:=by grind [Wdm]
 unfold Zk1;simp only[Wh2 (show l.length<=1048576 by omega) hN,ret,Xd,h,Xk,Wa];have h1:=Wx (l:=l) (V:=List Wd) (R:=Unit×(Mm×Ko)) (lp:=λn j v=>Zec N l (λax be bd=>(some ((),(((0:Int),bd),(true,()))))) n j v) (n:=N) (by omega)
  (body:=λj x v k=>bif Wz (v.length+ [wd0 x].length)then k (Xh v [wd0 x])else none) (K:=λ_ v=>some ((),(((0:Int),v),(true,()))))
  (λn i v hi=>by simp only[Zec,WK hi,Ww hi,Ws hi,Wm (show i<4611686018427387904 by omega),Wb,wd0])
  (λn v=>by simp[Zec,WS,Xm,Wa]) []
 refine h1.trans ?_;rw[Wca (f:=wd0) l 0 [] (by simp;omega) (λj x v k _=>rfl)];rfl
theorem WC{m:Mm}(h:W0 m=true):m.2.length=8/\0<=m.1/\m.1<=1000000/\∀w∈m.2,Wm9 m.1 w=true:=by
 simp_all [W0,Xi,Wi,Xad]
def tick(m:Mm):Mm×Int:=if m.1<1000000 then((m.1+1,m.2),m.1+1)else(m,0)
theorem WnN{N:Nat}{m:Mm}(h:W0 m=true)(hN:1048576<N):Zsd N m=some ((),((tick m).1,((tick m).2,()))):=by
 obtain⟨h8,h0,h1,_⟩:=WC h;have e:Zcl N m=ret m:=by grind [Zcl,Wq]
 unfold Zsd tick;simp only[e,Wbi (show m.2.length<=1048576 by omega) hN,ret,Xd,h,Xk,Wa];by_cases hc:m.1<1000000
 .have e2:(m.1==1000000)=false:=by simp;omega
  have e3:Wh .i64 m.1 1=m.1+1:=WJ (by unfold I64;omega)
  grind
 grind
theorem Wn6{N:Nat}{m:Mm}(h:W0 m=true)(hN:1048576<N):Zsc N m=some ((),((tick m).1,((tick m).2,()))):=by
 obtain⟨h8,h0,h1,_⟩:=WC h;have e:Zds N m=ret m:=by simp_all [Zds,Wq]
 unfold Zsc tick;simp only[e,WbY (show m.2.length<=1048576 by omega) hN,ret,Xd,h,Xk,Wa];by_cases hc:m.1<1000000
 .have e2:decide (m.1>=1000000)=false:=by simp;omega
  have e3:Wh .i64 m.1 1=m.1+1:=WJ (by unfold I64;omega)
  grind
 grind
abbrev Pb:=Int×Int×Int×Int
def WjQ(p:Pb):Bool:=Wav p.1&&((decide (0<=p.2.1)&&decide (p.2.1<=4))&&((decide (0<=p.2.2.1)&&decide (p.2.2.1<=1000000))&&Wbg p.2.2.2))
theorem Wno{N:Nat}{p:Pb}:Zpj N p=ret (WjQ p):=by
 unfold Zpj WjQ;simp only[WaI,W1,WaB,ret,Xd];cases Wav p.1<;>cases(decide (0<=p.2.1)&&decide (p.2.1<=4))<;>cases(decide (0<=p.2.2.1)&&decide (p.2.2.1<=1000000))<;>simp
theorem Wnh{N:Nat}{p:Pb}:Zpi N p=ret (WjQ p):=by
 unfold Zpi WjQ;simp only[WbL,WcK,Wal,ret,Xd];cases Wav p.1<;>cases(decide (0<=p.2.1)&&decide (p.2.1<=4))<;>cases(decide (0<=p.2.2.1)&&decide (p.2.2.1<=1000000))<;>simp
def WaK(m:Mm)(rv:Int)(p:Pb):Pb:=
 let w:=Xc m.2 (Xa p.1) (0,(0,0))
 bif p.2.1==0 then(bif w.2.2==0 then(bif decide (w.2.1<=rv)then(p.1,(1,(w.2.1,p.2.2.2)))else(p.1,(4,p.2.2)))else(p.1,(4,p.2.2)))
 else bif p.2.1==1 then(p.1,(2,(p.2.2.1,w.1)))
 else bif p.2.1==2 then(bif w.2.2==0 then(bif w.2.1==p.2.2.1 then(p.1,(3,p.2.2))else(p.1,(4,p.2.2)))else(p.1,(4,p.2.2)))
 else p
theorem Wu2{m:Mm}{p:Pb}(h:W0 m=true)(hp:WjQ p=true):inb p.1 m.2.length=true:=by
 grind [WC,WjQ,Wav,inb]
theorem Wfb{N:Nat}{m:Mm}{rv:Int}{p:Pb}(h:W0 m=true)(hp:WjQ p=true)(hN:1048576<N):Zfo N m rv p=ret (WaK m rv p):=by
 have h1:=(WC h).1;unfold Zfo WaK;simp only[Wbi (show m.2.length<=1048576 by omega) hN,Wno,ret,Xd,h,hp,Xk,Wa,Wu2 h hp,Wb];generalize Xc m.2 (Xa p.1) (0,(0,0))=w;cases p.2.1==0<;>cases p.2.1==1<;>cases p.2.1==2<;>cases w.2.2==0<;>cases decide (w.2.1<=rv)<;>cases w.2.1==p.2.2.1<;>rfl
theorem Wfs{N:Nat}{m:Mm}{rv:Int}{p:Pb}(h:W0 m=true)(hp:WjQ p=true)(hN:1048576<N):Zfl N m rv p=ret (WaK m rv p):=by
 have h1:=(WC h).1;unfold Zfl WaK;simp only[WbY (show m.2.length<=1048576 by omega) hN,Wnh,ret,Xd,h,hp,Xk,Wa,Wu2 h hp,Wb];generalize Xc m.2 (Xa p.1) (0,(0,0))=w;have e1:decide (w.2.1>rv)= !decide (w.2.1<=rv):=by
  grind
 rw[e1];unfold bne;cases p.2.1==0<;>cases p.2.1==1<;>cases p.2.1==2<;>cases w.2.2==0<;>cases decide (w.2.1<=rv)<;>cases w.2.1==p.2.2.1<;>rfl
def Wgm(l:List Rw)(c:Int):Nat->Option Int
 |0=>none
 |i+1=>if(Xc l i (0,0)).1=c then some (Xc l i (0,0)).2 else Wgm l c i
def Wcm(l:List Rw)(c:Int):Option Int:=if Wak l=true then Wgm l c l.length else none
def opI(o:Option Int):Option (Unit×Kk):=match o with
 |none=>some ((),((0:Int),(false,())))
 |some v=>some ((),(v,(true,())))
theorem WjL{N:Nat}{l:List Rw}{c:Int}(hl:l.length<=1048576):∀(i n:Nat),i<n->i<=l.length->Zio N l c (λar=>(some ((),(ar,(true,()))))) (λbp ax=>(some ((),((0:Int),(false,()))))) n ((i:Int) -1)=opI (Wgm l c i)
 |i,0,h,_=>by omega
 |0,n+1,h,_=>rfl
 |i+1,n+1,h,hi=>by
  have e:((i+1:Nat):Int) -1=(i:Int):=by omega
  have e1:decide ((i:Int)>=0)=true:=by simp
  have e2:WU .i64 (i:Int) 1=(i:Int) -1:=WQ (by unfold I64;omega);rw[e,Zio,e1,Ww (show i<l.length by omega),e2,Wgm,Xl];simp only[Wb];by_cases hc:(Xc l i ((0:Int),(0:Int))).1=c
  .rw[Wf hc,beq_iff_eq.2 hc];rfl
  .rw[Wc hc,beq_eq_false_iff_ne.2 hc];exact WjL hl i n (by omega) (by omega)
theorem WiX{N:Nat}{l:List Rw}{c:Int}(hl:l.length<=1048576):∀(i n:Nat),i<n->i<=l.length->Zim N l c (λar=>(some ((),(ar,(true,()))))) (λbp ax=>(some ((),((0:Int),(false,()))))) n ((i:Int) -1)=opI (Wgm l c i)
 |i,0,h,_=>by omega
 |0,n+1,h,_=>rfl
 |i+1,n+1,h,hi=>by
  have e:((i+1:Nat):Int) -1=(i:Int):=by omega
  have e1:decide ((i:Int)>=0)=true:=by simp
  have e2:WU .i64 (i:Int) 1=(i:Int) -1:=WQ (by unfold I64;omega);rw[e,Zim,e1,Ww (show i<l.length by omega),e2,Wgm,Xl];simp only[Wb];by_cases hc:(Xc l i ((0:Int),(0:Int))).1=c
  .rw[Wf hc,beq_iff_eq.2 hc];rfl
  .rw[Wc hc,beq_eq_false_iff_ne.2 hc];exact WiX hl i n (by omega) (by omega)
theorem WiO{α:Type}{l:List α}(hl:l.length<=1048576):WU .i64 (Wg l) 1=((l.length:Nat):Int) -1:=by grind [Wg,WQ,I64]
theorem WeV{N:Nat}{l:List Rw}{c:Int}(hl:l.length<=1048576)(hN:1048576<N):Zjh N l c=opI (Wcm l c):=by
 unfold Zjh Wcm;simp only[WcF hl hN,ret,Xd];cases Wak l
 .rfl
 .simp only[Xk,Wa,W4,WiO hl];exact WjL hl l.length N (by omega) (Xm _)
theorem WeP{N:Nat}{l:List Rw}{c:Int}(hl:l.length<=1048576)(hN:1048576<N):Zjf N l c=opI (Wcm l c):=by
 unfold Zjf Wcm;simp only[Wdw hl hN,ret,Xd];cases Wak l
 .rfl
 .simp only[Xk,Wa,W4,WiO hl];exact WiX hl l.length N (by omega) (Xm _)
end
section
def WjP(l:List Rw)(o:List Rw)(c:Nat):List Rw:=match Wcm l c with
 |none=>o
 |some v=>o++ [((c:Int),v)]
def Wjm(l:List Rw):Nat->Nat->List Rw->List Rw
 |0,_,o=>o
 |j+1,c,o=>Wjm l j (c+1) (WjP l o c)
def WcU(l:List Rw):List Rw:=Wjm l 8 0 []
theorem Wg7{N:Nat}{l:List Rw}(hl:l.length<=1048576)(hN:1048576<N):∀(j n c:Nat) (o:List Rw),c+j=8->j<n->o.length<=c->Zhs N l (λaq ax aG=>(some ((),(aG,())))) n (c:Int) o=ret (Wjm l j c o)
 |j,0,c,o,_,h,_=>by omega
 |0,n+1,c,o,h,_,_=>by
  have:c=8:=by omega
  subst this;rfl
 |j+1,n+1,c,o,h,h1,ho=>by
  have e:decide ((c:Int)<8)=true:=by simp;omega
  rw[Zhs,e,WeV hl hN,Wm (by omega),Wjm,WjP];simp only[Wb];rcases Wcm l c with _|v
  .exact Wg7 hl hN j n (c+1) o (by omega) (by omega) (by omega)
  .have er:Wz (o.length+ [((c:Int),v)].length)=true:=Wq (by simp;omega);simp only[opI,Xd,Wb,er];exact Wg7 hl hN j n (c+1) _ (by omega) (by omega) (by simp;omega)
theorem Whs{N:Nat}{l:List Rw}(hl:l.length<=1048576)(hN:1048576<N):∀(j n c:Nat) (o:List Rw),c+j=8->j<n->o.length<=c->Zhr N l (λaq ax aG=>(some ((),(aG,())))) n (c:Int) o=ret (Wjm l j c o)
 |j,0,c,o,_,h,_=>by omega
 |0,n+1,c,o,h,_,_=>by
  have:c=8:=by omega
  subst this;rfl
 |j+1,n+1,c,o,h,h1,ho=>by
  have e:decide ((c:Int)<8)=true:=by simp;omega
  rw[Zhr,e,WeP hl hN,Wm (by omega),Wjm,WjP];simp only[Wb];rcases Wcm l c with _|v
  .exact Whs hl hN j n (c+1) o (by omega) (by omega) (by omega)
  .have er:Wz (o.length+ [((c:Int),v)].length)=true:=Wq (by simp;omega);simp only[opI,Xd,Wb,er];exact Whs hl hN j n (c+1) _ (by omega) (by omega) (by simp;omega)
theorem Wed{N:Nat}{l:List Rw}(hl:l.length<=1048576)(hN:1048576<N):Zid N l=ret (WcU l):=by
 unfold Zid;exact Whs hl hN 8 N 0 [] rfl (by omega) (by simp)
theorem Wnv{l:List Rw}(h:Wak l=false):∀(j c:Nat) (o:List Rw),Wjm l j c o=o
 |0,_,_=>rfl
 |j+1,c,o=>by
  have e:Wcm l c=none:=by grind [Wcm]
  rw[Wjm,WjP,e];exact Wnv h j (c+1) o
theorem Wer{N:Nat}{l:List Rw}(hl:l.length<=1048576)(hN:1048576<N):Zie N l=ret (WcU l):=by
 unfold Zie;simp only[WcF hl hN,ret,Xd];cases h:Wak l
 .grind [WcU,Wnv]
 .exact Wg7 hl hN 8 N 0 [] rfl (by omega) (by simp)
def fnd{α:Type}(p:α->Bool):List α->Nat->Option (Nat×α)
 | [],_=>none
 |x::l,j=>bif p x then some (j,x)else fnd p l (j+1)
theorem WdU{α V R:Type}{body:Int->α->V->(V->Option R)->Option R}{K:Int->V->Option R}{p:α->Bool}{E:Int->α->Option R}:∀(l:List α) (j:Nat) (v:V),(∀(j:Nat) x v k,x∈l->body j x v k=bif p x then E j x else k v)->
  Wbm body K l j v=match fnd p l j with|some r=>E r.1 r.2|none=>K ((j+l.length:Nat):Int) v
 | [],j,v,_=>rfl
 |x::l,j,v,h=>by
  rw[Wbm,h j x v _ (Xj ..),fnd,WdU l (j+1) v λj y v k hy=>h j y v k (Xf _ hy)]
  grind
theorem WcI{α:Type}{p:α->Bool}:∀{l:List α} {j:Nat} {r:Nat×α},fnd p l j=some r->p r.2=true/\j<=r.1/\r.1<j+l.length/\l[r.1-j]?=some r.2
 | [],j,r,h=>by cases h
 |x::l,j,r,h=>by
  rw[fnd]at h;cases hp:p x
  .rw[hp]at h;obtain⟨h1,h2,h3,h4⟩:=WcI (l:=l) h
   grind
  grind
theorem Wgs{α:Type}{p:α->Bool}:∀{l:List α} {j:Nat},fnd p l j=none->∀x∈l,p x=false
 | [],j,h=>by simp
 |x::l,j,h=>by
  rw[fnd]at h;cases hp:p x
  .rw[hp]at h;intro y hy;rcases Xs.1 hy with rfl|hy
   .exact hp
   .exact Wgs h y hy
  simp_all
abbrev En:=Int×Int×Int
def ent(b:List En)(c:Int):Option (Nat×En):=fnd (λe=>e.1==c) b 0
theorem WfV{N:Nat}{f:Y_Family}{c:Int}(hl:f.2.2.2.2.2.2.1.length<=1048576)(hN:1048576<N):Zcs N f c=ret (match ent f.2.2.2.2.2.2.1 c with|some r=>(r.1:Int)|none=>-1):=by
 unfold Zcs;show((Zj N f.2.2.2.2.2.2.1 c).bind _)=_;generalize f.2.2.2.2.2.2.1=b at hl;unfold Zj ent;have h1:=Wx (l:=b) (V:=Unit) (R:=Kh×Kh) (lp:=λn j v=>Zc N b (λcw bF=>(some ((bF,()),(cw,())))) (λga gt eK=>(some ((eK,()),((-1:Int),())))) n j c) (n:=N) (by omega)
  (body:=λj x v k=>bif x.1==c then some ((c,()),(j,()))else k v) (K:=λ_ v=>some ((c,()),((-1:Int),())))
  (λn i v hi=>by simp only[Zc,Zmt,WK hi,Ww hi,Ws hi,Wm (show i<4611686018427387904 by omega),Wb,Xd])
  (λn v=>by simp[Zc,WS,Xm,Wa]) ()
 rw[h1,WdU (p:=λe=>e.1==c) (E:=λj x=>some ((c,()),(j,()))) b 0 () (λj x v k _=>rfl)];cases fnd (λe:En=>e.1==c) b 0<;>rfl
theorem Wir{N:Nat}{f:Y_Family}{c:Int}(hl:(P6 f).length<=1048576)(hN:1048576<N):Zgr N f c=ret (match ent (P6 f) c with|some r=>r.2|none=>(c,(0,-1))):=by
 unfold Zgr ent;have h1:=Wx (l:=P6 f) (V:=Unit) (R:=Unit×(En×Unit)) (lp:=λn j v=>Zcp N c f (λbK=>(some ((),(bK,())))) (λir dL=>(some ((),((c,((0:Int),(-1:Int))),())))) n j) (n:=N) (by omega)
  (body:=λj x v k=>bif x.1==c then some ((),(x,()))else k v) (K:=λ_ v=>some ((),((c,((0:Int),(-1:Int))),())))
  (λn i v hi=>by simp only[Zcp,WK hi,Ww hi,Ws hi,Wm (show i<4611686018427387904 by omega),Wb])
  (λn v=>by simp only[Zcp,WS (Xm (P6 f).length),Wa]) ()
 refine h1.trans ?_;rw[WdU (p:=λe=>e.1==c) (E:=λj x=>some ((),(x,()))) (P6 f) 0 () (λj x v k _=>rfl)];cases fnd (λe:En=>e.1==c) (P6 f) 0<;>rfl
theorem WcS{N:Nat}{l:List Int}(h:l.length<=1048576):Zk N l=ret l:=by
 unfold Zk;rw[Wq (by simp;omega)];rfl
theorem Wbt{N:Nat}{l:List Int}(h:l.length<=1048576):Zn N l=ret l:=by
 grind [Zn,Wq]
theorem WdJ{N:Nat}{l:List Rw}(h:l.length<=1048576):Za8 N l=ret l:=by
 grind [Za8,Wq]
end
section
def WxV(f:Y_Family)(k:Nat)(x:Y_KidRun):Y_Family:=U9 (Xe (Q9 f) k x) f
def again(f:Y_Family)(x:Y_KidRun):Y_KidRun:=(0,(0,(f.2.1,(x.2.2.2.1+1,(0,(0,(P4 f,([],([],([],(false,(0,(0,(0,0))))))))))))))
def WmG(x:Y_KidRun)(c:Int):Pb:=bif P10 x then Q11 x else(c,(0,(0,0)))
def We1(m:Mm)(f:Y_Family)(x:Y_KidRun)(o:Int×Int×Int×Int):Y_Family×Y_KidRun:=
 match Wcm (P8 x) o.2.2.1 with
 |some v=>(f,S6 (Xe (P6 x) (Xa o.2.1) v) (S1 (x.2.1+1) x))
 |none=>match ent (P6 f) o.2.2.1 with
  |some r=>bif decide (r.2.2.2>x.2.2.1)then(f,again f x)else(f,S7 (P7 x++ [r.2]) (S6 (Xe (P6 x) (Xa o.2.1) r.2.2.1) (S1 (x.2.1+1) x)))
  |none=>
   bif (WaK m f.1 (WmG x o.2.2.1)).2.1==4 then(S3 true f,U11 (WaK m f.1 (WmG x o.2.2.1)) (S10 true x))else
   bif (WaK m f.1 (WmG x o.2.2.1)).2.1==3 then(f,U14 0 (S13 0 (S12 0 (S11 0 (S10 false (S7 (P7 x++ [(o.2.2.1,((WaK m f.1 (WmG x o.2.2.1)).2.2.2,-1))]) (S6 (Xe (P6 x) (Xa o.2.1) (WaK m f.1 (WmG x o.2.2.1)).2.2.2) (S1 (x.2.1+1) x))))))))else
   (f,U11 (WaK m f.1 (WmG x o.2.2.1)) (S10 true x))
structure ReadOk(m:Mm)(f:Y_Family)(x:Y_KidRun)(o:Int×Int×Int×Int):Prop where
 mem:W0 m=true
 regs:(P6 x).length=4
 famr:(P4 f).length=4
 rA:0<=o.2.1/\o.2.1<=3
 cB:Wav o.2.2.1=true
 seen:(P7 x).length<=1000
 wr:(P8 x).length<=1000
 buf:(P6 f).length<=1000
 ver:∀e∈P6 f,0<=e.2.2
 since:0<=x.2.2.1
 pc:0<=x.2.1/\x.2.1<=1000
 tries:0<=x.2.2.2.1/\x.2.2.2.1<=100000
 pb:P10 x=true->WjQ (Q11 x)=true
theorem ReadOk.pbO{m:Mm}{f:Y_Family}{x:Y_KidRun}{o:Int×Int×Int×Int}(h:ReadOk m f x o):WjQ (WmG x o.2.2.1)=true:=by
 unfold WmG;cases hb:P10 x
 .have:=h.cB
  grind [WjQ,Wbg]
 .exact h.pb hb
theorem Wqh{x:Y_KidRun}(h:P10 x=true):S10 true x=x:=by rw[←h];rfl
theorem Wap{a:Int}(h:0<=a/\a<=1000000):Wh .i64 a 1=a+1:=WJ (by unfold I64;omega)
theorem rgI{r:List Int}{a:Int}(h:r.length=4)(ha:0<=a/\a<=3):inb a r.length=true:=by grind [inb]
theorem Wgy{N:Nat}{f:Y_Family}{x:Y_KidRun}(h:(P4 f).length=4)(ht:0<=x.2.2.2.1/\x.2.2.2.1<=100000):Zl8 N f x=some ((f,()),(again f x,())):=by
 unfold Zl8 again;have e:Zk N f.2.2.2.2.1=ret (P4 f):=WcS (by grind [P4])
 grind [Wap]
theorem WeC{N:Nat}{f:Y_Family}{k:Nat}{x:Y_KidRun}(hk:k<(Q9 f).length)(h:(P4 f).length=4)(ht:0<=x.2.2.2.1/\x.2.2.2.1<=100000):
  Za1 N (U9 (Xe (Q9 f) k x) f) (k:Int)=some ((WxV f k (again f x),()),()):=by
 have e0:Zn N (P4 (U9 (Xe (Q9 f) k x) f))=ret (P4 f):=Wbt (show(P4 f).length<=1048576 by omega);have e1:Q9 (U9 (Xe (Q9 f) k x) f)=Xe (Q9 f) k x:=rfl;have mN:k<(Xe (Q9 f) k x).length:=by simp_all
 unfold Za1;rw[e0,e1];have e2:Xc (Xe (Q9 f) k x) (Xa (k:Int)) d_KidRun=x:=by simp_all
 rw[e2,Ww mN,Wap (by omega),Xl];simp only[Wb,ret,Xd,Xct];rfl
theorem WnO{N:Nat}{m:Mm}{f:Y_Family}{k:Nat}{o:Int×Int×Int×Int}(hk:k<(Q9 f).length)(h:ReadOk m f (Q9 f)[k] o)(hN:1048576<N):
  Zld N f (k:Int) o m=some ((WxV (We1 m f (Q9 f)[k] o).1 k (We1 m f (Q9 f)[k] o).2,()),()):=by
 generalize hx:(Q9 f)[k]=x at h;have hw:=h.wr;have hs:=h.seen;have hb:=h.buf;have hr:=h.regs;have ex:Xc (Q9 f) (Xa (k:Int)) d_KidRun=x:=by rw[Ws hk,hx]
 unfold Zld We1;simp only[Wk];rw[Ww hk,ex,Xl,WeV (show(P8 x).length<=1048576 by omega) hN,Wap (by have:=h.pc;omega)];rcases Wcm (P8 x) o.2.2.1 with _|v
 .simp only[opI,Xd,Wa,Wb];have hE:Zcs N (U9 (Xe (Q9 f) k x) f) o.2.2.1=ret (match ent (P6 f) o.2.2.1 with|some r=>(r.1:Int)|none=>-1):=WfV (f:=U9 (Xe (Q9 f) k x) f) (show(P6 f).length<=1048576 by omega) hN;rw[hE,WeC hk h.famr h.tries];rcases he:ent (P6 f) o.2.2.1 with _|r
  .simp only[ret,Xd,show decide ((-1:Int)>=0)=false from rfl,Wa];have hp:=h.pbO;cases hc:P10 x
   .have mR:WmG x o.2.2.1=(o.2.2.1,(0,(0,0))):=by grind [WmG]
    have hn:Zgs N o.2.2.1=some ((),((o.2.2.1,(0,(0,0))),(true,()))):=by
     unfold Zgs;simp only[WaI,ret,Xd,h.cB,Xk,Wa]
    rw[mR]at hp⊢;simp only[Bool.not_false,Wb,hn,Wfb h.mem hp hN,ret,Xd,rgI hr h.rA];generalize WaK m f.1 (o.2.2.1,(0,(0,0)))=q;rw[Wq (by simp;omega)];cases q.2.1==4<;>cases q.2.1==3<;>rfl
   .have mR:WmG x o.2.2.1=Q11 x:=by grind [WmG]
    rw[mR]at hp⊢;simp only[Xk,Wa,Wfb h.mem hp hN,ret,Xd,rgI hr h.rA,Wb];generalize WaK m f.1 (Q11 x)=q;rw[Wq (by simp;omega),Wqh hc];cases q.2.1==4<;>cases q.2.1==3<;>rfl
  .have hm:=WcI he;have hi:r.1<(P6 f).length:=by omega
   have hg:(P6 f)[r.1]=r.2:=by
    simp_all
   have e2:decide (((r.1:Nat):Int)>=0)=true:=by simp
   simp only[ret,Xd,e2,Wb,Ww hi,rgI hr h.rA];rw[Ws hi,hg,Wq (by simp;omega)];cases decide (r.2.2.2>x.2.2.1)<;>rfl
 .simp only[opI,Xd,Wb,rgI hr h.rA];rfl
end
section
def WoM{α:Type}(p:Nat->α->Bool):Nat->List α->Bool
 |_,[]=>false
 |j,x::l=>p j x||WoM p (j+1) l
theorem WdY{α V R:Type}{body:Int->α->V->(V->Option R)->Option R}{K:Int->V->Option R}{p:Nat->α->Bool}{E:V->Option R}:∀(l:List α) (j:Nat) (v:V),(∀(j:Nat) x v k,x∈l->body j x v k=bif p j x then E v else k v)->
  Wbm body K l j v=bif WoM p j l then E v else K ((j+l.length:Nat):Int) v
 | [],j,v,_=>rfl
 |x::l,j,v,h=>by
  rw[Wbm,h j x v _ (Xj ..),WdY l (j+1) v λj y v k hy=>h j y v k (Xf _ hy),WoM]
  grind
theorem WgG{α:Type}{p:Nat->α->Bool}:∀{l:List α} {j:Nat},WoM p j l=true↔∃i,∃h:i<l.length,p (j+i) l[i]=true
 | [],j=>by simp[WoM]
 |x::l,j=>by
  rw[WoM,Xcd,WgG];constructor
  .rintro(h|⟨i,hi,h⟩)
   .exact⟨0,by simp,by grind⟩
   .exact⟨i+1,by simp_all,by grind⟩
  grind
def opd(o:Opn):Int:=bif o.1==8 then 1 else bif o.1==9 then-1 else 0
theorem WiK(o:Opn):-1<=opd o/\opd o<=1:=by unfold opd;cases o.1==8<;>cases o.1==9<;>simp
def dep(l:List Opn)(j:Nat):Int:=((l.take j).map opd).sum
theorem WdC(l:List Opn):dep l 0=0:=by simp[dep]
theorem WaD{l:List Opn}{j:Nat}(h:j<l.length):dep l (j+1)=dep l j+opd l[j]:=by
 grind [dep,Xbt]
theorem WD{α:Type}{l:List α}{j:Nat}(h:j<l.length)(d:α):Xc l j d=l[j]:=by simp[h]
theorem Wcs(l:List Opn):∀j:Nat,-(j:Int)<=dep l j/\dep l j<=j
 |0=>by simp[dep]
 |j+1=>by
  have ih:=Wcs l j;by_cases h:j<l.length
  .have:=WiK l[j]
   grind [WaD]
  grind [dep,List.take_of_length_le]
def bal(l:List Opn):Bool:=!WoM (λj _=>decide (dep l (j+1)<0)) 0 l&&decide (dep l l.length=0)
theorem WgX{N:Nat}{o:Opn}:Zms N o=ret (opd o):=by
 unfold Zms opd;cases o.1==8<;>cases o.1==9<;>rfl
theorem Wxt(x:Int):(x==(0:Int))=decide (x=0):=by by_cases h:x=0<;>simp[h]
theorem WjK{N:Nat}{l:List Opn}(hl:l.length<=1048576)(hN:1048576<N):Zee N l=ret (bal l):=by
 unfold Zee bal;have h1:=Wx (l:=l) (V:=Unit) (R:=Unit×Ko) (lp:=λn j _=>Zbt N l (some ((),(false,()))) (λoH be dL=>some ((),(oH==(0:Int),()))) n (dep l j.toNat) j) (n:=N) (by omega)
  (body:=λj _ v k=>bif decide (dep l (j.toNat+1)<0)then some ((),(false,()))else k v) (K:=λj _=>some ((),(dep l j.toNat==(0:Int),())))
  (λn i v hi=>by
   have hb:=Wcs l i;have hs:=WaD hi;have ho:=WiK l[i];have e:Wh .i64 (dep l i) (opd l[i])=dep l (i+1):=by rw[WJ (by unfold I64;omega),hs]
   simp only[Zbt,WK hi,Ww hi,Ws hi,WD hi,Wm (show i<4611686018427387904 by omega),Wb,WgX,ret,Xd,Xl,e])
  (λn v=>by simp[Zbt,WS,Xm,Wa]) ()
 have e0:dep l (Xa 0)=0:=WdC l;simp only[e0]at h1;refine h1.trans ?_;rw[WdY (p:=λj _=>decide (dep l (j+1)<0)) (E:=λ_=>some ((),(false,()))) l 0 () (λj x v k _=>rfl)];rw[Xau,Xl,Wxt];cases WoM (λj _=>decide (dep l (j+1)<0)) 0 l<;>rfl
theorem WmB{N:Nat}{l:List Opn}(hl:l.length<=1048576)(hN:1048576<N){i:Nat}(hi:i<=l.length):Zjj N l (i:Int)=ret (dep l i):=by
 unfold Zjj;have h1:=Wx (l:=l) (V:=Unit) (R:=Unit×Kh) (lp:=λn j _=>Zb1 N (i:Int) l (λoI cw gr=>some ((),(oI,()))) n (dep l (min j.toNat i)) j) (n:=N) (by omega)
  (body:=λj _ v k=>k v) (K:=λj _=>some ((),(dep l (min j.toNat i),())))
  (λn j v hj=>by
   have hb:=Wcs l j;have ho:=WiK l[j];simp only[Zb1,WK hj,Ww hj,Ws hj,WD hj,Wm (show j<4611686018427387904 by omega),Wb,WgX,ret,Xd,Xl]
   grind [decide,min,Wh,dep,opd,WJ,I64,WaD])
  (λn v=>by simp[Zb1,WS,Xm,Wa]) ()
 have e0:dep l (min (Xa 0) i)=0:=by
  simp[min,Xa,WdC]
 simp only[e0]at h1;refine h1.trans ?_;rw[Wle (f:=λv _=>v) l 0 () (λj x v k _=>rfl),Xau,Xl,Nat.min_eq_right hi]
theorem Wpw{N:Nat}{l:List Opn}{a b:Nat}(gH:a<=b)(hb:b<=l.length)(hl:l.length<=1048576)(hN:1048576<N):
  Zan N l (b:Int) (some ((),(false,()))) (λrf j8 ax=>some ((),(rf==(0:Int),()))) N 0 (a:Int)=ret (bal ((l.take b).drop a)):=by
 have ad:((l.take b).drop a).length=b-a:=by simp;omega
 unfold bal;have h1:=Wx (l:=(l.take b).drop a) (V:=Unit) (R:=Unit×Ko) (lp:=λn j _=>Zan N l (b:Int) (some ((),(false,()))) (λrf j8 ax=>some ((),(rf==(0:Int),()))) n (dep ((l.take b).drop a) j.toNat) ((a+j.toNat:Nat):Int)) (n:=N) (by omega)
  (body:=λj _ v k=>bif decide (dep ((l.take b).drop a) (j.toNat+1)<0)then some ((),(false,()))else k v) (K:=λj _=>some ((),(dep ((l.take b).drop a) j.toNat==(0:Int),())))
  (λn i v hi=>by
   have cJ:=Wcs ((l.take b).drop a) i;have hs:=WaD hi;have ei:((l.take b).drop a)[i]=l[a+i]:=by simp
   rw[ei]at hs;have fN:a+i<l.length:=by omega
   have e1:decide (((a+i:Nat):Int)<(b:Int))=true:=by simp;omega
   have e2:Wh .i64 ((a+i:Nat):Int) 1=((a+(i+1):Nat):Int):=by grind [WJ,I64]
   have e3:Wh .i64 (dep ((l.take b).drop a) i) 1=dep ((l.take b).drop a) i+1:=WJ (by unfold I64;omega);have e4:WU .i64 (dep ((l.take b).drop a) i) 1=dep ((l.take b).drop a) i+ -1:=by grind [WQ,I64]
   simp only[Zan,e1,Ww fN,Ws fN,WD fN,e2,e3,e4,Wb,Xl];unfold opd at hs
   grind)
  (λn v=>by
   have e1:decide (((a+(((l.take b).drop a).length:Int).toNat:Nat):Int)<(b:Int))=false:=by simp_all
   simp only[Zan,e1,Wa]) ()
 have e0:dep ((l.take b).drop a) (Xa 0)=0:=WdC _;simp only[e0]at h1;refine h1.trans ?_;rw[WdY (p:=λj _=>decide (dep ((l.take b).drop a) (j+1)<0)) (E:=λ_=>some ((),(false,()))) _ 0 () (λj x v k _=>rfl)];rw[Xau,Xl,Wxt];cases WoM (λj _=>decide (dep ((l.take b).drop a) (j+1)<0)) 0 ((l.take b).drop a)<;>rfl
def Wi0(l:List Opn)(i:Nat)(o:Opn):Bool:=decide (i+1+o.2.2.1.toNat<=l.length)&&bal ((l.take (i+1+o.2.2.1.toNat)).drop (i+1))
def frk(l:List Opn)(j:Nat):Nat:=(l.take j).countP λo=>o.1==11
theorem Wil{l:List Opn}{j:Nat}(h:j<l.length):frk l (j+1)=frk l j+(l[j].1==11).toNat:=by
 unfold frk;rw[Xbt h,List.countP_append,List.countP_singleton];cases l[j].1==11<;>rfl
theorem Wvf(l:List Opn)(j:Nat):frk l j<=l.length:=Xal Xek (by simp;omega)
def Wvd(l:List Opn)(i:Nat)(o:Opn):Bool:=
 !WdZ o||((o.1==7)&& !Wi0 l i o)||((o.1==11)&&(decide (dep l i>0)||decide (frk l (i+1)>1)))||decide (dep l (i+1)<0)
def Wqw(l:List Opn)(i:Nat)(o:Opn):Bool:=
 !WdZ o||((o.1==7)&& !Wi0 l i o)||((o.1==11)&&(decide (frk l (i+1)>1)|| !decide (dep l i=0)))
def Wra(l:List Opn):Bool:=decide (l.length<=24)&&(bal l&& !WoM (Wqw l) 0 l)
theorem Wqt{l:List Opn}{i:Nat}{o:Opn}(hl:l.length<=24)(hi:i<l.length)(ho:WdZ o=true)(h7:o.1=7):
  Wh .i64 ((i+1:Nat):Int) o.2.2.1=((i+1+o.2.2.1.toNat:Nat):Int)/\1<=o.2.2.1/\o.2.2.1<=20:=by
 obtain⟨k,a,b,c⟩:=o;simp only at h7;subst h7;have:(W8 a&&(decide (1<=b)&&decide (b<=20))&&(c==(0:Int)))=true:=ho;simp only[Xi,Wi]at this
 grind [WJ,I64]
theorem Wn2{N:Nat}{l:List Opn}{i:Nat}(hl:l.length<=24)(hN:1048576<N)(hi:i<l.length)(ho:WdZ l[i]=true)(h7:l[i].1=7):Zk0 N l (i:Int)=ret (Wi0 l i l[i]):=by
 obtain⟨e1,h1,h2⟩:=Wqt hl hi ho h7;unfold Zk0 Wi0;simp only[Ww hi,Wb,Ws hi,WD hi,e1,Wm (show i<4611686018427387904 by omega)];by_cases h:i+1+l[i].2.2.1.toNat<=l.length
 .have e:decide (((i+1+l[i].2.2.1.toNat:Nat):Int)>Wg l)=false:=by simp[Wg];omega
  rw[e];simp only[Wa];rw[Wpw (by omega) h (by omega) hN];simp[h]
 grind [decide,Wg]
theorem Wpi{l:List Opn}:bal l=true↔(∀i,i<l.length->0<=dep l (i+1))/\dep l l.length=0:=by
 unfold bal;rw[Xi,Xaj,←Xfs,WgG,Wi];simp_all
theorem Wod(l:List Opn):(!WoM (Wvd l) 0 l&&decide (dep l l.length=0))=(bal l&& !WoM (Wqw l) 0 l):=by
 rw[Bool.eq_iff_iff,Xi,Xi,Xaj,Xaj,←Xfs,←Xfs,WgG,WgG,Wpi,Wi];constructor
 .rintro⟨h1,h2⟩;have hd:∀i,i<l.length->0<=dep l (i+1):=λi hi=>by
   grind [dep,absurd,Wvd]
  refine⟨⟨hd,h2⟩,?_⟩;rintro⟨i,hi,h⟩;refine h1 ⟨i,hi,?_⟩;have hdi:0<=dep l i:=by
   cases i with
   |zero=>rw[WdC];omega
   |succ i=>grind
  rw[Xau]at h⊢;unfold Wqw at h;unfold Wvd
  grind
 simp_all [Xau,Wvd,Wqw,Xcd,Xi,Wi,Xaj,Wt]
theorem WhO{N:Nat}{l:List Opn}(hl:l.length<=1048576)(hN:1048576<N):Zi2 N l=ret (Wra l):=by
 unfold Zi2 Wra;by_cases h:l.length<=24
 .have e:decide (Wg l>24)=false:=by simp[Wg];omega
  rw[e];simp only[Wa];have h1:=Wx (l:=l) (V:=Unit) (R:=Unit×Ko) (lp:=λn j _=>Zao N l (some ((),(false,()))) (λoF mX uI ga=>some ((),(oF==(0:Int),()))) n (dep l j.toNat) ((frk l j.toNat:Nat):Int) j) (n:=N) (by omega)
   (body:=λj x v k=>bif Wvd l j.toNat x then some ((),(false,()))else k v) (K:=λj _=>some ((),(dep l j.toNat==(0:Int),())))
   (λn i v hi=>by
    have hb:=Wcs l i;have hs:=WaD hi;have hf:=Wil hi;have il:=Wvf l i;have e3:Wh .i64 (dep l i) 1=dep l i+1:=WJ (by unfold I64;omega);have e4:WU .i64 (dep l i) 1=dep l i+ -1:=by grind [WQ,I64]
    have e5:Wh .i64 ((frk l i:Nat):Int) 1=((frk l i+1:Nat):Int):=by grind [WJ,I64]
    simp only[Zao,WK hi,Ww hi,Ws hi,WD hi,Wm (show i<4611686018427387904 by omega),Wb,Xl,Wc6,ret,Xd,e3,e4,e5];unfold Wvd;cases ho:WdZ l[i]with
    |false=>rfl
    |true=>
     unfold opd at hs;simp only[Xk,Wa,Xfe];by_cases h8:l[i].1=8
     .simp_all
     .have b8:(l[i].1==8)=false:=by simp[h8]
      by_cases h9:l[i].1=9
      .simp_all
      .have b9:(l[i].1==9)=false:=by simp[h9]
       by_cases h7:l[i].1=7
       .have b7:(l[i].1==7)=true:=by simp[h7]
        have bk:(l[i].1==11)=false:=by simp[h7]
        have Ab:=Wn2 h hN hi ho h7;simp only[b8,b9,b7,bk,Wb,Wa,Xfq,Xbb,Xee,Xby,Bool.or_false,Int.add_zero,Ab,ret,Xd]at hs hf⊢;simp only[hs,hf];cases Wi0 l i l[i]<;>rfl
       grind)
   (λn v=>by simp[Zao,WS,Xm,Wa]) ()
  have e0:dep l (Xa 0)=0:=WdC l;have e1:((frk l (Xa 0):Nat):Int)=0:=by simp[frk]
  simp only[e0,e1]at h1;refine h1.trans ?_;rw[WdY (p:=Wvd l) (E:=λ_=>some ((),(false,()))) l 0 () (λj x v k _=>by rw[Xl])];rw[Xau,Xl,Wxt,←Wod];simp only[h,decide_true,Xby];cases WoM (Wvd l) 0 l<;>rfl
 grind [decide,Wg]
theorem Wh3{N:Nat}{l:List Opn}(hl:l.length<=1048576)(hN:1048576<N):Zdt N l=ret (Wra l):=by
 unfold Zdt Wra;by_cases h:l.length<=24
 .have e:decide (Wg l>24)=false:=by simp[Wg];omega
  rw[e];simp only[Wa,WjK hl hN,ret,Xd,h,decide_true,Xby];cases rM:bal l with
  |false=>rfl
  |true=>
   simp only[Xk,Wa,Xby];have h1:=Wx (l:=l) (V:=Unit) (R:=Unit×Ko) (lp:=λn j _=>Zbp N l (some ((),(false,()))) (λmY it t22=>some ((),(true,()))) n ((frk l j.toNat:Nat):Int) j) (n:=N) (by omega)
    (body:=λj x v k=>bif Wqw l j.toNat x then some ((),(false,()))else k v) (K:=λj _=>some ((),(true,())))
    (λn i v hi=>by
     have hf:=Wil hi;have il:=Wvf l i;have e5:Wh .i64 ((frk l i:Nat):Int) 1=((frk l i+1:Nat):Int):=by grind [WJ,I64]
     simp only[Zbp,WK hi,Ww hi,Ws hi,WD hi,Wb,Xl,Wfp,ret,Xd,e5];unfold Wqw;cases ho:WdZ l[i]with
     |false=>rfl
     |true=>
      simp only[Xk,Wa,Xfe];by_cases h7:l[i].1=7
      .have b7:(l[i].1==7)=true:=by simp[h7]
       have bk:(l[i].1==11)=false:=by simp[h7]
       obtain⟨en,h1,h2⟩:=Wqt h hi ho h7;simp only[b7,bk,Wb,en,Wm (show i<4611686018427387904 by omega),Xfq,Xbb,Xee,Xby,Bool.or_false]at hf⊢;simp only[hf];unfold Wi0;by_cases hq:i+1+l[i].2.2.1.toNat<=l.length
       .have q1:decide (((i+1+l[i].2.2.1.toNat:Nat):Int)>Wg l)=false:=by simp[Wg];omega
        have q2:(((decide ((0:Int)<=((i+1+l[i].2.2.1.toNat:Nat):Int)))&&(decide (((i+1+l[i].2.2.1.toNat:Nat):Int)<=((Xb l):Int))))&&(decide ((0:Int)<=((i+1:Nat):Int)))&&(decide (((i+1:Nat):Int)<=((i+1+l[i].2.2.1.toNat:Nat):Int))))=true:=by simp;omega
        rw[q1,q2];simp only[Wa,Wb,Xl];rw[WjK (by simp;omega) hN];simp_all
       grind [decide,Wg]
      .have b7:(l[i].1==7)=false:=by simp[h7]
       by_cases gQ:l[i].1=11
       .have bk:(l[i].1==11)=true:=by simp[gQ]
        simp only[b7,bk,Wb,Wa,Bool.toNat_true,Xee,Xby,Xfe,WmB hl hN (Nat.le_of_lt hi),ret,Xd,Wm (show i<4611686018427387904 by omega)]at hf⊢;simp only[hf];have ef:decide (((frk l i+1:Nat):Int)>1)=decide (frk l i+1>1):=by grind
        have e0:(dep l i !=0)= !decide (dep l i=0):=by rw[bne,Wxt]
        rw[ef,e0];cases decide (frk l i+1>1)<;>cases decide (dep l i=0)<;>rfl
       .have bk:(l[i].1==11)=false:=by simp[gQ]
        simp only[b7,bk,Wb,Wa,Xfq,Xbb,Xee,Xfe,Wm (show i<4611686018427387904 by omega)]at hf⊢;simp_all)
    (λn v=>by simp[Zbp,WS,Xm,Wa]) ()
   have e1:((frk l (Xa 0):Nat):Int)=0:=by simp[frk]
   simp only[e1]at h1;refine h1.trans ?_;rw[WdY (p:=Wqw l) (E:=λ_=>some ((),(false,()))) l 0 () (λj x v k _=>by rw[Xl])];cases WoM (Wqw l) 0 l<;>rfl
 grind [decide,Wg]
end
section
def stk(l:List Opn):Nat->List Nat
 |0=>[]
 |j+1=>bif (l.getD j (0,0,0,0)).1==8 then stk l j++ [j]else bif (l.getD j (0,0,0,0)).1==9 then(stk l j).dropLast else stk l j
theorem WlC{l:List Opn}{j:Nat}(h:j<l.length)(h8:l[j].1=8):stk l (j+1)=stk l j++ [j]:=by
 grind [stk,WD]
theorem Wm4{l:List Opn}{j:Nat}(h:j<l.length)(h9:l[j].1=9):stk l (j+1)=(stk l j).dropLast:=by
 grind [stk,WD]
theorem WgS{l:List Opn}{j:Nat}(h:j<l.length)(h8:l[j].1≠8)(h9:l[j].1≠9):stk l (j+1)=stk l j:=by
 grind [stk,WD]
theorem WuT{o:Opn}(h:o.1=8):opd o=1:=by unfold opd;simp[h]
theorem Wl7{o:Opn}(h:o.1=9):opd o= -1:=by unfold opd;simp[h]
theorem WtM{o:Opn}(h8:o.1≠8)(h9:o.1≠9):opd o=0:=by
 grind [opd]
theorem Wcd{α:Type}(l:List α):l= []\/∃q x,l=q++ [x]:=by
 rcases List.eq_nil_or_concat l with h|⟨q,x,h⟩
 .grind
 simp_all
def Up(l:List Opn):Prop:=∀i,i<l.length->0<=dep l (i+1)
theorem Up.at{l:List Opn}(h:Up l){j:Nat}(hj:j<=l.length):0<=dep l j:=by
 cases j with
 |zero=>rw[WdC];omega
 |succ j=>exact h j hj
theorem Wa3{l:List Opn}(h:Up l):∀j,j<=l.length->((stk l j).length:Int)=dep l j
 |0,_=>by rw[WdC];rfl
 |j+1,hj=>by
  have fb:j<l.length:=hj;have ih:=Wa3 h j (by omega);have hd:=WaD fb;have hu:=h j fb
  grind [WlC,WuT,Xaa,Wm4,Wl7,Xda,WgS,WtM]
theorem Wmb{l:List Opn}:∀(j:Nat),j<=l.length->∀(s t:List Nat) (m:Nat),stk l j=s++m::t->
  m<j/\(∃h:m<l.length,l[m].1=8)/\stk l m=s/\∀i,m<i->i<=j->∃t',stk l i=s++m::t'
 |0,_,s,t,m,h=>by simp[stk]at h
 |j+1,hj,s,t,m,h=>by
  have fb:j<l.length:=hj;have ih:=Wmb (l:=l) j (by omega);have next:∀t0,stk l j=s++m::t0->m<j+1/\(∃h:m<l.length,l[m].1=8)/\stk l m=s/\∀i,m<i->i<=j+1->∃t',stk l i=s++m::t':=λt0 h0=>by
   grind
  by_cases h8:l[j].1=8
  .rw[WlC fb h8]at h;rcases Wcd t with rfl|⟨t0,x,rfl⟩
   .obtain⟨e1,e2⟩:=Xei (h:stk l j++ [j]=s++ [m]) rfl
    grind [WlC]
   .have h2:stk l j++ [j]=(s++m::t0)++ [x]:=by rw[h,Xbf,Xbd]
    obtain⟨e1,e2⟩:=Xei h2 rfl
    grind [stk,WlC]
  .by_cases h9:l[j].1=9
   .rw[Wm4 fb h9]at h;rcases Wcd (stk l j)with h0|⟨q,x,hq⟩
    .simp_all
    simp_all
   grind [WgS]
theorem WpM{l:List Opn}{a b:Nat}(gH:a<=b)(hb:b<=l.length)(rM:bal ((l.take b).drop a)=true):stk l b=stk l a:=by
 obtain⟨h1,h2⟩:=Wpi.1 rM;have ad:((l.take b).drop a).length=b-a:=by simp;omega
 have key:∀i,i<=b-a->∃t,stk l (a+i)=stk l a++t/\(t.length:Int)=dep ((l.take b).drop a) i:=by
  intro i
  induction i with
  |zero=>simp[WdC]
  |succ i ih=>
   intro hi;obtain⟨t,Ad,Ae⟩:=ih (by omega);have fN:a+i<l.length:=by omega
   have uB:i<((l.take b).drop a).length:=by omega
   have hd:=WaD uB;have ei:((l.take b).drop a)[i]=l[a+i]:=by simp
   rw[ei]at hd;have hu:=h1 i uB;by_cases h8:l[a+i].1=8
   .grind [Xba,WlC,WuT,Xaa]
   .by_cases h9:l[a+i].1=9
    .grind [Wl7,Xba,Wm4,List.dropLast_append_of_ne_nil,Xda]
    grind [Xba,WgS,WtM]
 obtain⟨t,Ad,Ae⟩:=key (b-a) (Xm _);simp_all
structure Mate(l:List Opn)(m k:Nat):Prop where
 lt:m<k
 len:k<l.length
 eq:dep l (k+1)=dep l m
 ne:∀i,m<=i->i<k->dep l (i+1)≠dep l m
 st:stk l (k+1)=stk l m
theorem Wwv{l:List Opn}(hu:Up l)(h0:dep l l.length=0){j m:Nat}{s:List Nat}(hj:j<=l.length)(hs:stk l j=s++ [m]):∃k,j<=k/\Mate l m k/\stk l m=s:=by
 obtain⟨a,⟨hm,h8⟩,c,d⟩:=Wmb j hj s [] m hs;have px:=Wa3 hu m (by omega);have low:∀i,m<=i->i<j->dep l (i+1)≠dep l m:=λi h1 h2=>by
  grind [Wa3]
 have dG:=hu.at (show m<=l.length by omega);have ex:∀n i,l.length-i=n->j<=i->i<=l.length->(∀i',m<=i'->i'<i->dep l (i'+1)≠dep l m)->dep l m<dep l i->∃k,j<=k/\k<l.length/\dep l (k+1)=dep l m/\∀i',m<=i'->i'<k->dep l (i'+1)≠dep l m:=by
  intro n
  induction n with
  |zero=>grind
  |succ n ih=>
   intro i h1 h2 h3 h4 h5;have fN:i<l.length:=by omega
   by_cases he:dep l (i+1)=dep l m
   .grind
   .have hd:=WaD fN;have ho:=WiK l[i]
    grind
 have mO:dep l m<dep l j:=by
  grind [Wa3]
 obtain⟨k,k1,k2,k3,k4⟩:=ex _ j rfl (Xm _) hj low mO;have qq:m<k:=by omega
 have pre:∀n i,i=m+1+n->i<=k->∃t,stk l i=s++m::t:=by
  intro n
  induction n with
  |zero=>grind
  |succ n ih=>
   intro i h1 h2;obtain⟨t,ht⟩:=ih (m+1+n) rfl (by omega);have e:i=(m+1+n)+1:=by omega
   have fN:m+1+n<l.length:=by omega
   by_cases g8:l[m+1+n].1=8
   .grind [WlC]
   .by_cases g9:l[m+1+n].1=9
    .rcases Wcd t with rfl|⟨t0,x,rfl⟩
     .grind [Wm4,stk,Wa3]
     grind [Wm4,Xeq]
    grind [WgS]
 obtain⟨t,ht⟩:=pre (k-m-1) k (by omega) (Xm _);have xz:=Wa3 hu k (by omega);have Af:=WaD k2;rw[ht]at xz;rw[c]at px;simp at xz;have bI:=WiK l[k];have g9:l[k].1=9:=by
  grind [WuT,WtM]
 have Ag:t= []:=List.eq_nil_of_length_eq_zero (by omega);subst Ag;refine⟨k,k1,⟨qq,k2,k3,k4,?_⟩,c⟩
 grind [Wm4]
theorem Wmk{l:List Opn}{m i:Nat}:((dep l (i+1) -dep l m)==(0:Int))=decide (dep l (i+1)=dep l m):=by
 grind
theorem WiQ{N:Nat}{l:List Opn}{m k:Nat}(hl:l.length<=1048576)(hN:1048576<N)(h8:∃h:m<l.length,l[m].1=8)(hm:Mate l m k):Zkb N l (m:Int)=ret (k:Int):=by
 obtain⟨mx,h8⟩:=h8;unfold Zkb;have e1:WU .i64 (Wg l) 1=(l.length:Int) -1:=WQ (by unfold I64 Wg;omega);have e2:(decide (0<=(m:Int))&&decide ((m:Int)<=(l.length:Int) -1))=true:=by simp;omega
 have e3:(l[m].1 !=8)=false:=by simp[h8]
 simp only[W1,ret,Xd,e1,e2,Xk,Wa,Ww mx,Wb,Ws mx,e3];have key:∀(c n i:Nat),k-i=c->m<=i->i<=k->l.length-i<n->∀{R:Type} (K0:Int->Option R) (K1:Int->Int->Bool->Option R),Zfp N l K0 K1 n (dep l i-dep l m) (i:Int)=K0 k:=by
  intro c
  induction c with
  |zero=>
   intro n i h1 h2 h3 h4 R K0 K1;have:i=k:=by omega
   subst this;cases n with
   |zero=>omega
   |succ n=>
    have fN:=hm.len;have hd:=WaD fN;have hb:=Wcs l i;have iZ:=Wcs l m;have ho:=WiK l[i];have e:Wh .i64 (dep l i-dep l m) (opd l[i])=dep l (i+1) -dep l m:=by grind [WJ,I64]
    simp only[Zfp,WK fN,Ww fN,Ws fN,Wb,WgX,ret,Xd,e];rw[Wmk];simp[hm.eq]
  |succ c ih=>
   intro n i h1 h2 h3 h4 R K0 K1;cases n with
   |zero=>omega
   |succ n=>
    have hk:=hm.len;have fN:i<l.length:=by omega
    have hd:=WaD fN;have hb:=Wcs l i;have iZ:=Wcs l m;have ho:=WiK l[i];have e:Wh .i64 (dep l i-dep l m) (opd l[i])=dep l (i+1) -dep l m:=by grind [WJ,I64]
    have bQ:=hm.ne i h2 (by omega);simp only[Zfp,WK fN,Ww fN,Ws fN,Wb,WgX,ret,Xd,e,Wmk,bQ,decide_false,Wa,Wm (show i<4611686018427387904 by omega)];exact ih n (i+1) (by omega) (by omega) (by omega) (by omega) K0 K1
 have:=key (k-m) N m rfl (Xm _) (by have:=hm.lt;omega) (by omega) (R:=Unit×Kh) (λbe=>some ((),(be,()))) (λoI mC gr=>some ((),((-1:Int),())));simp_all
theorem WjE{N:Nat}{l:List Opn}{m k:Nat}(hl:l.length<=1048576)(hN:1048576<N)(h8:∃h:m<l.length,l[m].1=8)(hm:Mate l m k):Zj9 N l (m:Int)=ret (k:Int):=by
 obtain⟨mx,h8⟩:=h8;unfold Zj9;have e1:decide ((m:Int)<0)=false:=by simp
 have e2:decide ((m:Int)>=Wg l)=false:=by simp[Wg];omega
 have e3:(l[m].1 !=8)=false:=by simp[h8]
 simp only[e1,e2,Wa,Ww mx,Wb,Ws mx,e3];have step:∀(n i:Nat) (fN:i<l.length) {R:Type} (K0:Int->Option R) (K1:Int->Int->Bool->Option R),m<=i->Zav N l K0 K1 (n+1) (dep l i-dep l m) (i:Int)=
   bif decide (dep l (i+1)=dep l m)then K0 i else Zav N l K0 K1 n (dep l (i+1) -dep l m) ((i+1:Nat):Int):=by
  intro n i fN R K0 K1 sU;have hd:=WaD fN;have hb:=Wcs l i;have iZ:=Wcs l m;have s1:Wh .i64 (dep l i-dep l m) 1=dep l i-dep l m+1:=WJ (by unfold I64;omega);have s2:WU .i64 (dep l i-dep l m) 1=dep l i-dep l m-1:=WQ (by unfold I64;omega);simp only[Zav,WK fN,Ww fN,Ws fN,Wb,Wm (show i<4611686018427387904 by omega),s1,s2];by_cases g8:l[i].1=8
  .have b8:(l[i].1==8)=true:=by simp[g8]
   have b9:(l[i].1==9)=false:=by simp[g8]
   have e:dep l i-dep l m+1=dep l (i+1) -dep l m:=by grind [WuT]
   grind
  .have b8:(l[i].1==8)=false:=by simp[g8]
   by_cases g9:l[i].1=9
   .have b9:(l[i].1==9)=true:=by simp[g9]
    have e:dep l i-dep l m-1=dep l (i+1) -dep l m:=by grind [Wl7]
    grind
   .have b9:(l[i].1==9)=false:=by simp[g9]
    have e:dep l i-dep l m=dep l (i+1) -dep l m:=by grind [WtM]
    simp only[b8,b9,Wb,Wa];rw[e,Wmk]
 have key:∀(c n i:Nat),k-i=c->m<=i->i<=k->l.length-i<n->∀{R:Type} (K0:Int->Option R) (K1:Int->Int->Bool->Option R),Zav N l K0 K1 n (dep l i-dep l m) (i:Int)=K0 k:=by
  intro c
  induction c with
  |zero=>
   intro n i h1 h2 h3 h4 R K0 K1;have:i=k:=by omega
   subst this;cases n with
   |zero=>omega
   |succ n=>rw[step n i hm.len K0 K1 h2];simp[hm.eq]
  |succ c ih=>
   intro n i h1 h2 h3 h4 R K0 K1;cases n with
   |zero=>omega
   |succ n=>
    have hk:=hm.len;have bQ:=hm.ne i h2 (by omega);rw[step n i (by omega) K0 K1 h2];simp only[bQ,decide_false,Wa];exact ih n (i+1) (by omega) (by omega) (by omega) (by omega) K0 K1
 have:=key (k-m) N m rfl (Xm _) (by have:=hm.lt;omega) (by omega) (R:=Unit×Kh) (λbe=>some ((),(be,()))) (λoI mC gr=>some ((),((-1:Int),())));simp_all
end
section
theorem Wql{N:Nat}{o:Opn}:∃t:Int,Za5 N o=ret t/\Zji N o=ret t:=by
 unfold Za5 Zji;rw[Wc6,Wfp];simp only[ret,Xd];cases WdZ o
 .simp_all
 .cases o.1==5<;>cases o.1==6<;>cases o.1==12<;>cases o.1==13<;>cases o.1==14<;>cases o.1==15<;>cases o.1==16<;>exact⟨_,rfl,rfl⟩
noncomputable def Wkf(o:Opn):Int:=match Za5 0 o with|some (_,(t,_))=>t|none=>0
theorem Wxi{N:Nat}{o:Opn}:Za5 N o=Za5 0 o:=by
 unfold Za5;rw[Wc6,Wc6]
theorem Wb6{N:Nat}{o:Opn}:Za5 N o=ret (Wkf o):=by
 rw[Wxi];obtain⟨t,h,_⟩:=Wql (N:=0) (o:=o);unfold Wkf;rw[h]
theorem WgL{N:Nat}{o:Opn}:Zji N o=ret (Wkf o):=by
 obtain⟨t,h,h2⟩:=Wql (N:=N) (o:=o);rw[h2,←h,Wb6]
noncomputable def WgD(o:Opn):Bool:=(o.1==11)||(Wkf o==2)
noncomputable def Whq(l:List Opn):Bool:=Wra l&& !l.any WgD
theorem Why{N:Nat}{l:List Opn}(hl:l.length<=1048576)(hN:1048576<N):Zhq N l=ret (l.any λo=>o.1==11):=by
 unfold Zhq;have h1:=Wx (l:=l) (V:=Unit) (R:=Unit×Ko) (lp:=λn j v=>Zc3 N l (some ((),(true,()))) (λi8 t9=>some ((),(false,()))) n j) (n:=N) (by omega)
  (body:=λj x v k=>bif x.1==11 then some ((),(true,()))else k v) (K:=λ_ v=>some ((),(false,())))
  (λn i v hi=>by simp only[Zc3,WK hi,Ww hi,Ws hi,Wm (show i<4611686018427387904 by omega),Wb])
  (λn v=>by simp[Zc3,WS,Xm,Wa]) ()
 refine h1.trans ?_;rw[W9 (p:=λx:Opn=>x.1==11) (E:=λ_=>some ((),(true,()))) l 0 () (λj x v k _=>rfl)];cases l.any λo:Opn=>o.1==11<;>rfl
theorem WoJ{N:Nat}{l:List Opn}(hl:l.length<=1048576)(hN:1048576<N):Zj8 N l=ret (Whq l):=by
 unfold Zj8 Whq;simp only[WhO hl hN,ret,Xd];cases Wra l with
 |false=>rfl
 |true=>
  simp only[Why hl hN,ret,Xd,Xk,Wa,Xby];have h1:=Wx (l:=l) (V:=Unit) (R:=Unit×Ko) (lp:=λn j v=>Zfk N l (some ((),(false,()))) (λi8 t9=>some ((),(true,()))) n j) (n:=N) (by omega)
   (body:=λj x v k=>bif Wkf x==2 then some ((),(false,()))else k v) (K:=λ_ v=>some ((),(true,())))
   (λn i v hi=>by simp only[Zfk,WK hi,Ww hi,Ws hi,Wm (show i<4611686018427387904 by omega),Wb,Wb6,ret,Xd])
   (λn v=>by simp[Zfk,WS,Xm,Wa]) ()
  (try simp only[]at h1)
  rw[h1,W9 (p:=λx=>Wkf x==2) (E:=λ_=>some ((),(false,()))) l 0 () (λj x v k _=>rfl)];have e:l.any WgD=((l.any λo=>o.1==11)||l.any λo=>Wkf o==2):=by
   grind [WgD,Wkf]
  rw[e];cases l.any λo:Opn=>o.1==11<;>cases l.any λo=>Wkf o==2<;>rfl
theorem Wox{N:Nat}{l:List Opn}(hl:l.length<=1048576)(hN:1048576<N):Zka N l=ret (Whq l):=by
 unfold Zka Whq;have h1:=Wx (l:=l) (V:=Unit) (R:=Unit×Ko) (lp:=λn j v=>Zfm N l (some ((),(false,()))) (λaq ax=>((Zdt N l).bind λcj=>(some ((),(cj.2.1,()))))) n j) (n:=N) (by omega)
  (body:=λj x v k=>bif WgD x then some ((),(false,()))else k v) (K:=λ_ v=>ret (Wra l))
  (λn i v hi=>by
   simp only[Zfm,WK hi,Ww hi,Ws hi,Wm (show i<4611686018427387904 by omega),Wb,WgL,ret,Xd,WgD];cases l[i].1==11<;>rfl)
  (λn v=>by simp_all [Zfm,WS,Xm,Wa,Wh3,ret,Xd]) ()
 refine h1.trans ?_;rw[W9 (p:=WgD) (E:=λ_=>some ((),(false,()))) l 0 () (λj x v k _=>rfl)];cases l.any WgD<;>cases Wra l<;>rfl
def WcT(l:List Int):Bool:=decide (l.length=4)&&l.all Wbg
theorem Wdz{N:Nat}{l:List Int}(hl:l.length<=1048576)(hN:1048576<N):Zcj N l=ret (WcT l):=by
 unfold Zcj WcT;by_cases h:l.length=4
 .have e:(Wg l !=4)=false:=by simp[Wg,h]
  rw[e];simp only[Wa];have h1:=Wx (l:=l) (V:=Unit) (R:=Unit×Ko) (lp:=λn j v=>Zea N l (some ((),(false,()))) (λi8 t9=>some ((),(true,()))) n j) (n:=N) (by omega)
   (body:=λj x v k=>bif !Wbg x then some ((),(false,()))else k v) (K:=λ_ v=>some ((),(true,())))
   (λn i v hi=>by simp only[Zea,WK hi,Ww hi,Ws hi,Wm (show i<4611686018427387904 by omega),Wb,Wal,ret,Xd])
   (λn v=>by simp[Zea,WS,Xm,Wa]) ()
  refine h1.trans ?_;rw[W9 (p:=λx=>!Wbg x) (E:=λ_=>some ((),(false,()))) l 0 () (λj x v k _=>rfl),Wbo];cases l.all Wbg<;>simp[h]
 grind [Wg]
theorem WdA{N:Nat}{l:List Int}(hl:l.length<=1048576)(hN:1048576<N):Z6 N l 4=ret (WcT l):=by
 unfold Z6 WcT;have h1:=Wx (l:=l) (V:=Unit) (R:=Unit×Ko) (lp:=λn j v=>Zak N l 4 (some ((),(false,()))) (λi8 t9=>some ((),((Wg l)==(4:Int),()))) n j) (n:=N) (by omega)
  (body:=λj x v k=>bif !Wbg x then some ((),(false,()))else k v) (K:=λ_ v=>some ((),((Wg l)==(4:Int),())))
  (λn i v hi=>by simp only[Zak,WK hi,Ww hi,Ws hi,Wm (show i<4611686018427387904 by omega),Wb,WaB,ret,Xd])
  (λn v=>by simp[Zak,WS,Xm,Wa]) ()
 refine h1.trans ?_;rw[W9 (p:=λx=>!Wbg x) (E:=λ_=>some ((),(false,()))) l 0 () (λj x v k _=>rfl),Wbo];have e:((Wg l)==(4:Int))=decide (l.length=4):=by
  grind [Wg]
 rw[e];cases l.all Wbg<;>simp
end
section
section
variable{o:Opn}
theorem Wpg(h:WdZ o=true)(h1:1<=o.1)(h4:o.1<=4):W8 o.2.1=true/\(o.1=1->Wbg o.2.2.1=true)/\(o.1≠1->W8 o.2.2.1=true/\W8 o.2.2.2=true):=by
 obtain⟨k,a,b,c⟩:=o;simp only at h1 h4;have:k=1\/k=2\/k=3\/k=4:=by omega
 rcases this with rfl|rfl|rfl|rfl
 .have:(W8 a&&Wbg b&&(c==(0:Int)))=true:=h;simp_all
 all_goals
  have:(W8 a&&W8 b&&W8 c)=true:=h;simp_all
theorem WwE(h:WdZ o=true)(h5:o.1=5):W8 o.2.1=true/\Wav o.2.2.1=true:=by
 obtain⟨k,a,b,c⟩:=o;simp only at h5;subst h5;have:(W8 a&&Wav b&&(c==(0:Int)))=true:=h;simp_all
theorem WwB(h:WdZ o=true)(h5:o.1=6):Wav o.2.1=true/\W8 o.2.2.1=true:=by
 obtain⟨k,a,b,c⟩:=o;simp only at h5;subst h5;have:(Wav a&&W8 b&&(c==(0:Int)))=true:=h;simp_all
theorem Wwz(h:WdZ o=true)(h5:o.1=7):W8 o.2.1=true/\1<=o.2.2.1/\o.2.2.1<=20:=by
 obtain⟨k,a,b,c⟩:=o;simp only at h5;subst h5;have:(W8 a&&(decide (1<=b)&&decide (b<=20))&&(c==(0:Int)))=true:=h;simp_all
theorem Wvk(h:WdZ o=true)(h5:o.1=8):W8 o.2.1=true:=by
 obtain⟨k,a,b,c⟩:=o;simp only at h5;subst h5;have:(W8 a&&(b==(0:Int))&&(c==(0:Int)))=true:=h;simp_all
theorem Wki(h:WdZ o=true):1<=o.1/\o.1<=16:=by
 by_cases hk:1<=o.1/\o.1<=16
 .exact hk
 .exfalso;have e:∀n:Int,1<=n->n<=16->(o.1==n)=false:=λn h1 h2=>by simp;omega
  simp_all [WdZ]
end
theorem WT{x:Int}{l:List Int}(h:W8 x=true)(hl:l.length=4):inb x l.length=true:=by
 grind [W8,inb]
structure Vals(n:Nat)(l:List Int):Prop where
 len:l.length=n
 val:∀x∈l,0<=x/\x<=65535
theorem Vals.get{n:Nat}{l:List Int}(h:Vals n l)(i:Nat):0<=l.getD i 0/\l.getD i 0<=65535:=by
 by_cases hi:i<l.length
 .rw[WD hi];exact h.val _ (Xv hi)
 simp_all
theorem Vals.set{n:Nat}{l:List Int}(h:Vals n l)(i:Nat){x:Int}(hx:0<=x/\x<=65535):Vals n (l.set i x):=
 ⟨by rw[Xat];exact h.len,λy hy=>by
  rcases List.mem_or_eq_of_mem_set hy with hy|hy
  .exact h.val y hy
  omega⟩
theorem War{x:Int}:Wbg x=true↔0<=x/\x<=65535:=by unfold Wbg;simp
theorem Wco{l:List Int}:WcT l=true↔Vals 4 l:=by
 unfold WcT;rw[Xi,Wi,Xad];exact⟨λh=>⟨h.1,λx hx=>War.1 (h.2 x hx)⟩,λh=>⟨h.len,λx hx=>War.2 (h.val x hx)⟩⟩
theorem WlL{l:List Int}:Wdm l=true↔Vals 8 l:=by
 unfold Wdm;rw[Xi,Wi,Xad];exact⟨λh=>⟨h.1,λx hx=>War.1 (h.2 x hx)⟩,λh=>⟨h.len,λx hx=>War.2 (h.val x hx)⟩⟩
def Wn1(o:Opn)(r:List Int):List Int:=
 bif o.1==1 then r.set o.2.1.toNat o.2.2.1 else
 bif o.1==2 then r.set o.2.1.toNat ((r.getD o.2.2.1.toNat 0+r.getD o.2.2.2.toNat 0)%65536)else
 bif o.1==3 then r.set o.2.1.toNat ((r.getD o.2.2.1.toNat 0-r.getD o.2.2.2.toNat 0+65536)%65536)else
 bif decide (r.getD o.2.2.1.toNat 0<r.getD o.2.2.2.toNat 0)then r.set o.2.1.toNat 1 else r.set o.2.1.toNat 0
theorem WaC{x:Int}(h:0<=x):WdD x 65536=x%65536:=by grind [WdD,Int.tmod_eq_emod_of_nonneg]
theorem Wms{o:Opn}{r:List Int}(h:WdZ o=true)(h1:1<=o.1)(h4:o.1<=4)(hr:Vals 4 r):Vals 4 (Wn1 o r):=by
 obtain⟨_,hv,_⟩:=Wpg h h1 h4;unfold Wn1;cases e1:o.1==1
 .cases o.1==2
  .cases o.1==3
   .cases decide (r.getD o.2.2.1.toNat 0<r.getD o.2.2.2.toNat 0)
    .exact hr.set _ (by omega)
    .exact hr.set _ (by omega)
   .exact hr.set _ (by omega)
  .exact hr.set _ (by omega)
 .exact hr.set _ (War.1 (hv (by simp_all)))
section
variable{N:Nat}{o:Opn}{r:List Int}
theorem WhS(hN:1048576<N)(h:WdZ o=true)(h1:1<=o.1)(h4:o.1<=4)(hr:Vals 4 r):Zqc N o r=some ((),(Wn1 o r,(true,()))):=by
 obtain⟨ha,hv,vS⟩:=Wpg h h1 h4;unfold Zqc Zn;have e0:Wz r.length=true:=Wq (by rw[hr.len];omega);have e4:decide (o.1>4)=false:=by simp;omega
 have e5:WcT r=true:=Wco.2 hr;have ea:=WT ha hr.len;have ez:inz 65536=true:=rfl;have gb:=hr.get o.2.2.1.toNat;have gc:=hr.get o.2.2.2.toNat;simp only[e0,Wb,Xd,Wfp,ret,h,Xk,Wa,e4,WdA (l:=r) (by rw[hr.len];omega) hN,e5,ea,ez];unfold Wn1;by_cases k1:o.1=1
 .simp_all
 .have b:(o.1==1)=false:=by simp[k1]
  obtain⟨hb,hc⟩:=vS k1;rw[b];simp only[Wa,WT hb hr.len,WT hc hr.len,Wb,Xat,ea];have s1:Wh .i64 (r.getD o.2.2.1.toNat 0) (r.getD o.2.2.2.toNat 0)=r.getD o.2.2.1.toNat 0+r.getD o.2.2.2.toNat 0:=WJ (by unfold I64;omega);have s2:WU .i64 (r.getD o.2.2.1.toNat 0) (r.getD o.2.2.2.toNat 0)=r.getD o.2.2.1.toNat 0-r.getD o.2.2.2.toNat 0:=WQ (by unfold I64;omega);have s3:Wh .i64 (r.getD o.2.2.1.toNat 0-r.getD o.2.2.2.toNat 0) 65536=r.getD o.2.2.1.toNat 0-r.getD o.2.2.2.toNat 0+65536:=WJ (by unfold I64;omega);rw[s1,s2,s3,WaC (by omega),WaC (by omega)];cases o.1==2
  .cases o.1==3
   .simp only[Wa,Wk,Xct];cases decide (r.getD o.2.2.1.toNat 0<r.getD o.2.2.2.toNat 0)<;>rfl
   .rfl
  .rfl
theorem WhA(hN:1048576<N)(h:WdZ o=true)(h1:1<=o.1)(h4:o.1<=4)(hr:Vals 4 r):Zqb N o r=some ((),(Wn1 o r,(true,()))):=by
 obtain⟨ha,hv,vS⟩:=Wpg h h1 h4;unfold Zqb;have e0:Wz (([]:List Int).length+r.length)=true:=Wq (by rw[hr.len];simp);have e4:decide (o.1>4)=false:=by simp;omega
 have e5:WcT r=true:=Wco.2 hr;have ea:=WT ha hr.len;have ez:inz 65536=true:=rfl;have en:Xh ([]:List Int) r=r:=rfl;have gb:=hr.get o.2.2.1.toNat;have gc:=hr.get o.2.2.2.toNat;simp only[e0,Wb,Xd,Wc6,ret,h,Xk,Wa,e4,Wdz (l:=r) (by rw[hr.len];omega) hN,e5,ea,ez,en];unfold Wn1;by_cases k1:o.1=1
 .simp_all
 .have b:(o.1==1)=false:=by simp[k1]
  obtain⟨hb,hc⟩:=vS k1;rw[b];simp only[Wa,WT hb hr.len,WT hc hr.len,Wb,Xat,ea];have s1:Wh .i64 (r.getD o.2.2.1.toNat 0) (r.getD o.2.2.2.toNat 0)=r.getD o.2.2.1.toNat 0+r.getD o.2.2.2.toNat 0:=WJ (by unfold I64;omega);have s2:WU .i64 (r.getD o.2.2.1.toNat 0) (r.getD o.2.2.2.toNat 0)=r.getD o.2.2.1.toNat 0-r.getD o.2.2.2.toNat 0:=WQ (by unfold I64;omega);have s3:Wh .i64 (r.getD o.2.2.1.toNat 0-r.getD o.2.2.2.toNat 0) 65536=r.getD o.2.2.1.toNat 0-r.getD o.2.2.2.toNat 0+65536:=WJ (by unfold I64;omega);rw[s1,s2,s3,WaC (by omega),WaC (by omega)];cases o.1==2
  .cases o.1==3
   .simp only[Wa,Wk,Xct];cases decide (r.getD o.2.2.1.toNat 0<r.getD o.2.2.2.toNat 0)<;>rfl
   .rfl
  .rfl
end
def Wjg(l:List Rw):Prop:=∀r∈l,(0<=r.1/\r.1<=7)/\0<=r.2/\r.2<=65535
theorem Wij{l:List Rw}:l.all WiC=true↔Wjg l:=by
 simp[Xad,Wjg,WiC,Wav,Wbg]
theorem Wmm{N:Nat}{l:List Int}(h:l.length<=1048576):Zh0 N l=ret l:=by
 simp_all [Zh0,Xbz,Xau,Wqs,Wb]
theorem Wcz{N:Nat}{l:List Int}(h:l.length<=1048576):Zn N l=ret l:=by
 simp_all [Zn,Wqs,Wb]
end
section
structure Lin{α:Type}(cf:α->α->Int):Prop where
 irr:∀x,¬cf x x<0
 tr:∀x y z,cf x y<0->cf y z<0->cf x z<0
 nt:∀x y z,¬cf x y<0->¬cf y z<0->¬cf x z<0
theorem Wvc:Lin cfE:=⟨λx=>by unfold cfE;omega,λx y z=>by unfold cfE;omega,λx y z=>by unfold cfE;omega⟩
theorem Wp7:Lin cfH:=⟨λx=>by rw[Wbn];omega,λx y z=>by simp only[Wbn];omega,λx y z=>by simp only[Wbn];omega⟩
def Ris{α:Type}(cf:α->α->Int)(l:List α):Prop:=l.Pairwise λa b=>cf a b<0
def WbE{α:Type}(cf:α->α->Int):List α->α->List α
 | [],e=>[e]
 |x::l,e=>if cf x e<0 then x::WbE cf l e else if cf e x<0 then e::x::l else e::l
def Ap{α:Type}(cf:α->α->Int)(x y:α):Prop:=cf x y<0\/cf y x<0
variable{α:Type}{cf:α->α->Int}
theorem Lin.ap(h:Lin cf){x y:α}(hn:¬Ap cf x y){z:α}:(cf x z<0↔cf y z<0)/\(cf z x<0↔cf z y<0):=by
 unfold Ap at hn;refine⟨⟨λa=>?_,λa=>?_⟩,⟨λa=>?_,λa=>?_⟩⟩
 .exact Classical.byContradiction λc=>h.nt x y z (λq=>hn (.inl q)) c a
 .exact Classical.byContradiction λc=>h.nt y x z (λq=>hn (.inr q)) c a
 .exact Classical.byContradiction λc=>h.nt z y x c (λq=>hn (.inr q)) a
 .exact Classical.byContradiction λc=>h.nt z x y c (λq=>hn (.inl q)) a
theorem WmS:∀(l:List α) (e:α),(WbE cf l e).length<=l.length+1
 | [],e=>by simp[WbE]
 |x::l,e=>by
  have:=WmS l e;unfold WbE
  grind
theorem Wcu(hc:Lin cf){e x:α}:∀{l:List α},Ris cf l->(x∈WbE cf l e↔x=e\/(x∈l/\Ap cf x e))
 | [],_=>by simp[WbE]
 |y::l,h=>by
  have hl:=(Xy.1 h);unfold WbE;by_cases h1:cf y e<0
  .rw[Wf h1,Xs,Wcu hc hl.2,Xs];refine⟨?_,?_⟩
   .rintro(rfl|h|h)
    .exact .inr ⟨.inl rfl,.inl h1⟩
    .grind
    simp_all
   grind
  .rw[Wc h1];by_cases h2:cf e y<0
   .rw[Wf h2];simp only[Xs];refine⟨?_,?_⟩
    .rintro(h|rfl|h)
     .grind
     .exact .inr ⟨.inl rfl,.inr h2⟩
     .exact .inr ⟨.inr h,.inr (hc.tr _ _ _ h2 (hl.1 x h))⟩
    grind
   .rw[Wc h2];simp only[Xs];have hn:¬Ap cf y e:=by unfold Ap;omega
    refine⟨?_,?_⟩
    .rintro(h|h)
     .grind
     .exact .inr ⟨.inr h,.inr ((hc.ap hn).1.1 (hl.1 x h))⟩
    grind
theorem Wcy(hc:Lin cf){e:α}:∀{l:List α},Ris cf l->Ris cf (WbE cf l e)
 | [],_=>by simp[WbE,Ris]
 |y::l,h=>by
  have hl:=(Xy.1 h);unfold WbE;by_cases h1:cf y e<0
  .rw[Wf h1];refine Xy.2 ⟨λx hx=>?_,Wcy hc hl.2⟩;rcases(Wcu hc hl.2).1 hx with rfl|hx
   .exact h1
   simp_all
  .rw[Wc h1];by_cases h2:cf e y<0
   .rw[Wf h2];refine Xy.2 ⟨λx hx=>?_,h⟩;rcases Xs.1 hx with rfl|hx
    .exact h2
    .exact hc.tr _ _ _ h2 (hl.1 x hx)
   .rw[Wc h2];have hn:¬Ap cf y e:=by unfold Ap;omega
    exact Xy.2 ⟨λx hx=>(hc.ap hn).1.1 (hl.1 x hx),hl.2⟩
theorem Wpv(hc:Lin cf){L M:List α}(hM:Ris cf M)(hL:L.Pairwise (Ap cf))(hm:∀x,x∈L↔x∈M):Wes cf L=M:=by
 have hn:∀{l:List α},l.Pairwise (Ap cf)->l.Nodup:=λh=>h.imp λ{a b} gH=>by
  rintro rfl;unfold Ap at gH;have:=hc.irr a;omega
 have hM':M.Pairwise (Ap cf):=hM.imp λh=>.inl h;have hp:L.Perm M:=(List.perm_ext_iff_of_nodup (hn hL) (hn hM')).2 hm;unfold Wes;have h1:=List.pairwise_mergeSort (le:=λx y=>!We5 cf y x) (λa b c=>by
  simp only[We5,Xaj,Wt]
  exactλh1 h2=>hc.nt _ _ _ h2 h1) (λa b=>by
  simp only[We5,Xcd,Xaj,Wt];rcases Classical.em (cf b a<0)with h|h
  .exact .inr λh'=>hc.irr _ (hc.tr _ _ _ h h')
  omega) L
 refine List.Perm.eq_of_pairwise ?_ h1 (hM.imp λ{a b} h=>?_) ((Xgo _ _).trans hp)
 .intro a b ha hb h1 h2;simp only[We5,Xaj,Wt]at h1 h2;have Ah:a∈M:=(hm a).1 ((Xgo _ _).mem_iff.1 ha);obtain⟨i,hi,rfl⟩:=Xcc Ah;obtain⟨j,hj,rfl⟩:=Xcc hb;rcases Nat.lt_trichotomy i j with h|h|h
  .exact WE (Xap.1 hM i j hi hj h) h2
  .grind
  .exact WE (Xap.1 hM j i hj hi h) h1
 .simp only[We5,Xaj,Wt]
  exactλh'=>hc.irr _ (hc.tr _ _ _ h h')
theorem Wqk{r:α->α->Bool}{R:α->α->Prop}(hr:∀a b,R a b->r a b=true):∀{l:List α},l.Pairwise R->Wlm r l=true
 | [],_=>rfl
 |x::l,h=>by
  have:=Xy.1 h;simp only[Wlm,Xi,Xad];exact⟨λy hy=>hr _ _ (this.1 y hy),Wqk hr this.2⟩
theorem WpR(hc:Lin cf){rng:α->Bool}{N:Nat}{L M:List α}(hM:Ris cf M)(hL:L.Pairwise (Ap cf))(hm:∀x,x∈L↔x∈M)(hr:∀x∈L,rng x=true)(hl:L.length<=1048576):
  Zq2 rng cf N L=some ((M,()),()):=by
 grind [Zq2,Xad,Wqk,Ap,WiD,We5,decide_eq_true,Wpv]
theorem WnF(hc:Lin cf){L:List α}{e:α}{i:Nat}(hL:L.Pairwise (Ap cf))(hi:i<L.length)(hk:¬Ap cf L[i] e):(L.set i e).Pairwise (Ap cf)/\∀x,x∈L.set i e↔x=e\/(x∈L/\Ap cf x e):=by
 have vT:∀{z},Ap cf L[i] z↔Ap cf e z:=λ{z}=>by unfold Ap;rw[(hc.ap hk).1,(hc.ap hk).2]
 have Ai:∀{a b:α},Ap cf a b->Ap cf b a:=λh=>h.symm;have hG:=Xap.1 hL;refine⟨?_,λx=>⟨λhx=>?_,?_⟩⟩
 .rw[Xap]
  grind
 .obtain⟨j,hj,rfl⟩:=Xcc hx
  grind
 .rintro(rfl|⟨hx,kI⟩)
  .grind [Xdt]
  .obtain⟨j,hj,rfl⟩:=Xcc hx;refine Xdt.2 ⟨j,by simp_all,?_⟩;rw[Xcm,Wc]
   grind
theorem Wkp{L:List α}{e:α}(hL:L.Pairwise (Ap cf))(hk:∀x∈L,Ap cf x e):(L++ [e]).Pairwise (Ap cf)/\∀x,x∈L++ [e]↔x=e\/(x∈L/\Ap cf x e):=by
 grind
end
section
abbrev KM:=Int×Int×List Int
structure Kd where
 phase:Int:=0
 pc:Int:=0
 since:Int:=0
 tries:Int:=0
 pos:Int:=0
 out:Int:=0
 regs:List Int:=[]
 seen:List En:=[]
 writes:List Rw:=[]
 marks:List KM:=[]
 busy:Bool:=false
 pb:Pb:=(0,0,0,0)
def Kd.e(x:Kd):Y_KidRun:=(x.phase,x.pc,x.since,x.tries,x.pos,x.out,x.regs,x.seen,x.writes,x.marks,x.busy,x.pb)
structure Fm where
 rv:Int:=0
 clock:Int:=0
 owner:Int:=0
 lost:Bool:=false
 regs:List Int:=[]
 start:List Rw:=[]
 buf:List En:=[]
 order:List Int:=[]
 reads:List Rw:=[]
 kids:List Kd:=[]
def Fm.e(f:Fm):Y_Family:=(f.rv,f.clock,f.owner,f.lost,f.regs,f.start,f.buf,f.order,f.reads,f.kids.map Kd.e)
def zOp:Opn:=(0,0,0,0)
def opN(code:List Opn)(i:Int):Opn:=Xc code i.toNat zOp
def WbQ{α:Type}(l:List α)(i:Int)(d:α):α:=Xc l i.toNat d
def WoK{α:Type}(l:List α)(i:Int)(x:α):List α:=Xe l i.toNat x
def WgB{α:Type}(l:List α)(d:α):α:=Xc l (l.length-1) d
def Wkg(l:List Opn)(m:Nat):Nat:=((Xcu l.length).find? λk=>decide (m<=k)&&decide (dep l (k+1)=dep l m)).getD 0
def Fm.again(f:Fm)(x:Kd):Kd:={since:=f.clock,tries:=x.tries+1,regs:=f.regs}
def Wg2(m:Mm)(f:Fm)(x:Kd)(o:Opn):Fm×Kd:=
 match Wcm x.writes o.2.2.1 with
 |some v=>(f,{x with regs:=WoK x.regs o.2.1 v,pc:=x.pc+1})
 |none=>match ent f.buf o.2.2.1 with
  |some r=>if r.2.2.2>x.since then(f,f.again x)else(f,{x with regs:=WoK x.regs o.2.1 r.2.2.1,seen:=x.seen++ [r.2],pc:=x.pc+1})
  |none=>
   let p:=WaK m f.rv (if x.busy then x.pb else(o.2.2.1,0,0,0))
   if p.2.1=4 then({f with lost:=true},{x with busy:=true,pb:=p})
   else if p.2.1=3 then(f,{x with regs:=WoK x.regs o.2.1 p.2.2.2,seen:=x.seen++ [(o.2.2.1,p.2.2.2,-1)],busy:=false,pb:=(0,0,0,0),pc:=x.pc+1})
   else(f,{x with busy:=true,pb:=p})
def Wi6(x:Kd)(code:List Opn):Kd:=
 if x.marks.length=0 then{x with writes:=[],out:=2,phase:=1}else
 let q:=WgB x.marks (0,0,[])
 {x with marks:=x.marks.dropLast,regs:=WoK q.2.2 (opN code q.1).2.1 0,writes:=x.writes.take q.2.1.toNat,pc:=Wkg code q.1.toNat+1}
def WoT(m:Mm)(f:Fm)(x:Kd)(code:List Opn):Fm×Kd:=
 if x.pc>=code.length then(f,{x with out:=1,phase:=1})else
 let o:=opN code x.pc
 if o.1=5 then Wg2 m f x o else
 if o.1=10 then(f,Wi6 x code)else
 if o.1=6 then(f,{x with writes:=x.writes++ [(o.2.1,WbQ x.regs o.2.2.1 0)],pc:=x.pc+1})else
 if o.1=7 then(f,{x with pc:=(if WbQ x.regs o.2.1 0=0 then x.pc+o.2.2.1 else x.pc)+1})else
 if o.1=8 then(f,{x with marks:=x.marks++ [(x.pc,(x.writes.length:Int),x.regs)],pc:=x.pc+1})else
 if o.1=9 then(f,{x with marks:=x.marks.dropLast,regs:=WoK x.regs (opN code (WgB x.marks (0,0,[])).1).2.1 1,pc:=x.pc+1})else
 (f,{x with regs:=Wn1 o x.regs,pc:=x.pc+1})
def Wdv(c:Int)(b:List En)(rows:List Rw):List En:=rows.foldl (λb r=>WbE cfE b (r.1,r.2,c)) b
def WaL(l:List En):List Rw:=(l.filter λe=>decide (e.2.2= -1)).map λe=>(e.1,e.2.1)
def WhR(f:Fm)(x:Kd)(k:Nat):Fm×Kd:=
 ({f with clock:=f.clock+1,buf:=Wdv (f.clock+1) f.buf (WcU x.writes),reads:=f.reads++WaL x.seen,order:=f.order++ [(k:Int)],owner:=0},{x with phase:=3,pos:=0,marks:=[]})
def WxF(b:List En)(c:Int):Int:=match ent b c with
 |some r=>r.2.2.2
 |none=>-1
def Wj8(m:Mm)(f:Fm)(x:Kd)(k:Nat)(code:List Opn):Fm×Kd:=
 if x.phase=0 then WoT m f x code else
 if x.phase=1 then(if f.owner=0 then({f with owner:=(k:Int)+1},{x with phase:=2})else(f,x))else
 if x.phase=2 then
  if x.pos=x.seen.length then WhR f x k else
  let s:=WbQ x.seen x.pos (0,0,0)
  if WxF f.buf s.1=s.2.2 then(f,{x with pos:=x.pos+1})else({f with owner:=0},f.again x)
 else(f,x)
def Fm.put(q:Fm×Kd)(k:Nat):Fm:={q.1 with kids:=q.1.kids.set k q.2}
def Wgx(m:Mm)(f:Fm)(k:Nat)(code:List Opn):Fm:=
 if f.lost then f else Fm.put (Wj8 m f (f.kids.getD k {}) k code) k
def Wde(rv:Int)(regs:List Int)(writes:List Rw)(kids:Nat):Fm:=
 {rv:=rv,regs:=regs,start:=WcU writes,buf:=(WcU writes).map λr=>(r.1,r.2,0),kids:=Xp kids {regs:=regs}}
def WcJ(f:Fm):Bool:=f.kids.all λx=>decide (x.phase=3)
def Whh(f:Fm):List Rw:=f.buf.map λe=>(e.1,e.2.1)
def Wu4(x:Kd):Int:=if x.out=1/\WcT x.regs=true then WbQ x.regs 0 0 else 0
def Wf4(f:Fm):List Int:=
 if WcT f.regs=true/\f.kids.length<=3 then f.kids.map Wu4++f.regs.drop f.kids.length else []
structure KMk(code:List Opn)(pc:Nat)(marks:List KM)(wl:Nat):Prop where
 pcs:marks.map (·.1)=(stk code pc).map λm:Nat=>(m:Int)
 each:∀q∈marks,Vals 4 q.2.2/\0<=q.2.1/\q.2.1<=q.1/\q.2.1<=wl
 up:marks.Pairwise λa b=>a.2.1<=b.2.1
structure KOk(code:List Opn)(c n:Int)(x:Kd):Prop where
 pc:0<=x.pc/\x.pc<=code.length
 regs:Vals 4 x.regs
 rows:Wjg x.writes
 wl:(x.writes.length:Int)<=x.pc
 sl:(x.seen.length:Int)<=x.pc
 since:0<=x.since/\x.since<=c
 tries:0<=x.tries/\x.tries<=n
 seen:∀e∈x.seen,(0<=e.1/\e.1<=7)/\(0<=e.2.1/\e.2.1<=65535)/\ -1<=e.2.2/\e.2.2<=x.since
 marks:x.phase=0->KMk code x.pc.toNat x.marks x.writes.length
 pos:0<=x.pos/\x.pos<=x.seen.length
 pb:x.busy=true->WjQ x.pb=true
 phase:0<=x.phase/\x.phase<=3
 out:0<=x.out/\x.out<=2
structure FOk(codes:List (List Opn))(n:Int)(f:Fm):Prop where
 len:f.kids.length=codes.length
 regs:Vals 4 f.regs
 clock:0<=f.clock/\f.clock=f.order.length
 done:f.order.length=f.kids.countP λx=>decide (x.phase=3)
 bufR:Ris cfE f.buf
 bufE:∀e∈f.buf,(0<=e.1/\e.1<=7)/\(0<=e.2.1/\e.2.1<=65535)/\0<=e.2.2/\e.2.2<=f.clock
 readsL:f.reads.length<=24*f.order.length
 readsE:Wjg f.reads
 owner:0<=f.owner/\f.owner<=f.kids.length
 kid:∀(k:Nat) (h:k<f.kids.length),KOk (codes.getD k []) f.clock n f.kids[k]
end
section
structure CC(l:List Opn):Prop where
 len:l.length<=24
 up:Up l
 z:dep l l.length=0
 ok:∀i (h:i<l.length),WdZ l[i]=true/\1<=l[i].1/\l[i].1<=16
 sk:∀i (h:i<l.length),l[i].1=7->i+1+l[i].2.2.1.toNat<=l.length/\bal ((l.take (i+1+l[i].2.2.1.toNat)).drop (i+1))=true
 fk:∀i (h:i<l.length),l[i].1=11->dep l i=0/\frk l (i+1)<=1
structure KC(l:List Opn):Prop extends CC l where
 k10:∀i (h:i<l.length),l[i].1<=10
theorem Wma{o:Opn}(h:WdZ o=true)(eS:12<=o.1):Wkf o=2:=by
 have qe:=Wki h;have key:=Wb6 (N:=0) (o:=o);unfold Za5 at key;rw[Wc6,h]at key;simp only[ret,Xd,Xk,Wa]at key;have e5:(o.1==5)=false:=by simp;omega
 have e6:(o.1==6)=false:=by simp;omega
 rw[e5,e6]at key;simp only[Wa]at key;have:o.1=12\/o.1=13\/o.1=14\/o.1=15\/o.1=16:=by omega
 rcases this with hk|hk|hk|hk|hk<;> · simp_all
theorem Ww8{l:List Opn}(h:Wra l=true):CC l:=by
 unfold Wra at h;simp only[Xi,Wi,Xaj]at h;obtain⟨h1,h2,h3⟩:=h;obtain⟨b1,b2⟩:=Wpi.1 h2;have hb:∀i (hi:i<l.length),Wqw l i l[i]=false:=λi hi=>by
  rw[Bool.eq_false_iff];intro hb;have:WoM (Wqw l) 0 l=true:=WgG.2 ⟨i,hi,by simp_all⟩;simp_all
 have bI:∀i (hi:i<l.length),WdZ l[i]=true:=λi hi=>by
  grind [Wqw,Xdr,Xfc]
 refine⟨h1,b1,b2,λi hi=>⟨bI i hi,Wki (bI i hi)⟩,λi hi h7=>?_,λi hi gQ=>?_⟩
 .grind [Wqw,Xdr,Xfc,Wi0]
 grind [Wqw,Xdr,Xfc]
theorem WxD{l:List Opn}(h:Whq l=true):KC l:=by
 unfold Whq at h;simp only[Xi,Xaj]at h;have hc:=Ww8 h.1;refine⟨hc,λi hi=>?_⟩;have jZ:WgD l[i]=false:=by
  grind
 unfold WgD at jZ;simp only[Xdr]at jZ;by_cases cS:l[i].1<=10
 .exact cS
 .exfalso;by_cases gQ:l[i].1=11
  .simp_all
  .have:=Wma (hc.ok i hi).1 (by omega);simp_all
theorem Wld{l:List Opn}{m k:Nat}(h:Mate l m k):Wkg l m=k:=by
 unfold Wkg;have:(Xcu l.length).find? (λk=>decide (m<=k)&&decide (dep l (k+1)=dep l m))=some k:=by
  rw[List.find?_range_eq_some];have:=h.lt;refine⟨?_,List.mem_range.2 h.len,λj hj=>?_⟩
  .simp[h.eq];omega
  .simp only[Xaj,Bool.and_eq_false_iff,Wt];by_cases hm:m<=j
   .exact .inr (h.ne j hm hj)
   omega
 grind
theorem WjA{l:List Opn}{i:Int}(h0:0<=i)(h:i<l.length):∃(n:Nat) (hn:n<l.length),i=n/\opN l i=l[n]:=by
 grind [opN,WD]
theorem WeM{l:List Opn}{n:Nat}(h:n<l.length):opN l (n:Int)=l[n]:=by
 grind [opN,WD]
theorem WrJ{α:Type}(q:List α)(x d:α):WgB (q++ [x]) d=x:=by unfold WgB;simp
theorem WiT{M:Type}{g:M->Int}{l:List Opn}{pc:Nat}{marks:List M}{d:M}(hc:CC l)(hp:pc<=l.length)(hm:marks.map g=(stk l pc).map λm:Nat=>(m:Int))(bQ:marks.length≠0):
  ∃(m:Nat) (q:List M) (x:M),marks=q++ [x]/\WgB marks d=x/\g x=(m:Int)/\(∃hm:m<l.length,l[m].1=8)/\m<pc/\Mate l m (Wkg l m)/\pc<=Wkg l m/\stk l m=(stk l pc).dropLast/\q.map g=(stk l m).map λm:Nat=>(m:Int):=by
 rcases Wcd marks with h0|⟨q,x,hq⟩
 .simp_all
 .rw[hq,Xz,Xaf,Xcg]at hm;rcases Wcd (stk l pc)with h0|⟨t,m,ht⟩
  .simp_all
  .rw[ht,Xz,Xaf,Xcg]at hm;obtain⟨e1,e2⟩:=Xei hm rfl;injection e2 with e2;obtain⟨k,k1,k2,k3⟩:=Wwv hc.up hc.z hp ht;have k4:=Wld k2;obtain⟨ac,h8,_,_⟩:=Wmb pc hp t [] m ht
   grind [WrJ,Xeq]
end
section
theorem WnZ{α β:Type}(g:α->β)(l:List α)(i:Nat)(d:α):Xc (l.map g) i (g d)=g (l.getD i d):=by
 simp_all
theorem kdP(x:Kd):x.e.1=x.phase/\x.e.2.1=x.pc/\x.e.2.2.1=x.since/\x.e.2.2.2.1=x.tries/\P4 x.e=x.pos/\P5 x.e=x.out/\P6 x.e=x.regs/\P7 x.e=x.seen/\P8 x.e=x.writes/\P9 x.e=x.marks/\P10 x.e=x.busy:=⟨rfl,rfl,rfl,rfl,rfl,rfl,rfl,rfl,rfl,rfl,rfl⟩
theorem fmP(f:Fm):f.e.1=f.rv/\f.e.2.1=f.clock/\f.e.2.2.1=f.owner/\f.e.2.2.2.1=f.lost/\P4 f.e=f.regs/\P5 f.e=f.start/\P6 f.e=f.buf/\P7 f.e=f.order/\P8 f.e=f.reads/\Q9 f.e=f.kids.map Kd.e:=⟨rfl,rfl,rfl,rfl,rfl,rfl,rfl,rfl,rfl,rfl⟩
theorem U9e(f:Fm)(k:Nat)(x:Kd):U9 (Xe (f.kids.map Kd.e) k x.e) f.e=Fm.e {f with kids:=f.kids.set k x}:=by
 unfold U9 Fm.e;rw[Xes]
theorem WrN{f f':Fm}{k:Nat}{x':Kd}{y:Y_KidRun}{g:Y_Family}(hy:y=x'.e)(hg:g=f'.e)(hf:f'.kids=f.kids):
  some ((U9 (Xe (f.kids.map Kd.e) k y) g,()),())=some (((Fm.put (f',x') k).e,()),()):=by
 subst hy hg;rw[←hf,U9e];rfl
theorem Wnq(m:Mm)(f:Fm)(x:Kd)(o:Opn):We1 m f.e x.e o=((Wg2 m f x o).1.e,(Wg2 m f x o).2.e):=by
 unfold We1 Wg2;have h1:P8 x.e=x.writes:=rfl;have h2:P6 f.e=f.buf:=rfl;rw[h1,h2];rcases Wcm x.writes o.2.2.1 with _|v
 .rcases ent f.buf o.2.2.1 with _|r
  .have h3:WmG x.e o.2.2.1=if x.busy then x.pb else(o.2.2.1,0,0,0):=by
    unfold WmG;have:P10 x.e=x.busy:=rfl;rw[this];cases x.busy<;>rfl
   simp only[h3];have h4:f.e.1=f.rv:=rfl;rw[h4];generalize WaK m f.rv (if x.busy then x.pb else(o.2.2.1,0,0,0))=p;by_cases e4:p.2.1=4
   .have:(p.2.1==4)=true:=by simp_all
    rw[Wf e4,this];rfl
   .have:(p.2.1==4)=false:=by simp_all
    rw[Wc e4,this];by_cases e3:p.2.1=3
    .have:(p.2.1==3)=true:=by simp_all
     rw[Wf e3,this];rfl
    .have:(p.2.1==3)=false:=by simp_all
     rw[Wc e3,this];rfl
  .simp only;have h5:x.e.2.2.1=x.since:=rfl;rw[h5];by_cases hv:r.2.2.2>x.since
   .rw[Wf hv,We hv];rfl
   .rw[Wc hv,Wj hv];rfl
 .rfl
theorem WkO(m:Mm)(f:Fm)(x:Kd)(o:Opn):(Wg2 m f x o).1.kids=f.kids:=by
 grind [Wg2,Wcm,ent,WaK]
variable{N:Nat}{codes:List (List Opn)}{n:Int}{f:Fm}{k:Nat}{code:List Opn}{m:Mm}{x:Kd}
theorem FOk.buf8(h:FOk codes n f):f.buf.length<=8:=by
 have:∀(l:List En) (c:Int),Ris cfE l->(∀e∈l,c<=e.1/\e.1<=7)->(l.length:Int)<=8-c\/l= []:=by
  intro l
  induction l with
  |nil=>simp_all
  |cons a l ih=>
   intro c hr hb;left;have h1:=Xy.1 hr;have ha:=hb a (Xj ..);rcases ih (a.1+1) h1.2 (λe he=>⟨by grind [cfE],(hb e (Xf _ he)).2⟩)with h|h
   .grind
   grind
 rcases this f.buf 0 h.bufR (λe he=>by have:=(h.bufE e he).1;omega)with h|h
 .omega
 simp_all
theorem Wnz(hF:FOk codes n f)(hx:KOk code f.clock n x)(bT:KC code)(hm:W0 m=true)(hn:n<=100000){o:Opn}(hA:W8 o.2.1=true)(hB:Wav o.2.2.1=true):ReadOk m f.e x.e o where
 mem:=hm
 regs:=hx.regs.len
 famr:=hF.regs.len
 rA:=by grind [W8]
 cB:=hB
 seen:=by have:=hx.sl;have:=hx.pc;have:=bT.len;show x.seen.length<=1000;omega
 wr:=by have:=hx.wl;have:=hx.pc;have:=bT.len;show x.writes.length<=1000;omega
 buf:=by have:=hF.buf8;show f.buf.length<=1000;omega
 ver:=λe he=>(hF.bufE e he).2.2.1
 since:=hx.since.1
 pc:=by have:=hx.pc;have:=bT.len;show 0<=x.pc/\x.pc<=1000;omega
 tries:=by have:=hx.tries;show 0<=x.tries/\x.tries<=100000;omega
 pb:=hx.pb
theorem Wv{α:Type}{a b:Int}{x y:α}:(bif a==b then x else y)=if a=b then x else y:=by
 simp_all
theorem WV{α:Type}{p:Prop}[Decidable p]{x y:α}:(bif decide p then x else y)=if p then x else y:=by
 simp_all
theorem Wmw(bT:KC code)(hx:KOk code f.clock n x)(h0:x.phase=0)(hN:1048576<N):Zkp N x.e code=some (((Wi6 x code).e,()),()):=by
 unfold Zkp Wi6;obtain⟨k0,k1,k2,k3,k4,k5,k6,k7,k8,k9,k10⟩:=kdP x;have bH:=hx.pc;have ad:=bT.len;have hM:=hx.marks h0;simp only[Wk,k9,k8,k1,Wv];by_cases hz:x.marks.length=0
 .rw[Wf (by unfold Wg;omega),Wf hz];rfl
 .rw[Wc (by unfold Wg;omega),Wc hz];obtain⟨j,q,y,e1,e2,e3,⟨hj,h8⟩,rN,df,jJ,e5,e6⟩:=WiT (d:=((0,0,[]):KM)) bT.toCC (show x.pc.toNat<=code.length by omega) hM.pcs hz;have px:x.marks.length=q.length+1:=by grind
  have Aj:q.length<=24:=by
   have:=Wn Xb e6;simp only[Xu]at this;have h2:=Wa3 bT.up j (by omega);have h3:=(Wcs code j).2;omega
  have i1:WU .i64 (Wg x.marks) 1=(q.length:Int):=by grind [WiO]
  have hy:y∈x.marks:=by grind
  obtain⟨y1,y2,y3,y4⟩:=hM.each y hy;have g1:Xc x.marks (Xa (q.length:Int)) ((0,0,[]):KM)=y:=by grind
  have t1:Xam (Xa (q.length:Int)) x.marks=x.marks.dropLast:=by rw[e1];simp
  have mc:=hx.wl;rw[i1,WF,We (show q.length<x.marks.length by omega)];simp only[Wb,g1,t1,e2];have b1:((decide ((0:Int)<=(q.length:Int))&&decide ((q.length:Int)<=(x.marks.length:Int)))&&decide ((q.length:Int)<=((Xa (q.length:Int):Nat):Int)))=true:=by
   simp;omega
  rw[b1];simp only[Wb];rw[Wbt (by rw[y1.len];omega)];simp only[ret,Xd];rw[e3,WF,We hj];have o1:Xc code (Xa ((j:Nat):Int)) ((0,0,0,0):Opn)=code[j]:=Ws hj _;have o2:opN code ((j:Nat):Int)=code[j]:=WeM hj;have hr:=Wvk (bT.ok j hj).1 h8;simp only[Wb,o1,o2];rw[WT hr y1.len];have b2:(decide ((0:Int)<=y.2.1)&&decide (y.2.1<=(x.writes.length:Int)))=true:=by simp;omega
  rw[b2];simp only[Wb];rw[WdJ (by grind),WiQ (by omega) hN ⟨hj,h8⟩ df];simp only[ret,Xd];rw[Wap (by have:=df.len;omega),Xl];rfl
theorem Wpp(hk:k<f.kids.length)(hm:W0 m=true)(bT:KC code)(hF:FOk codes n f)(bb:codes.getD k []=code)(aN:f.kids[k]=x)(h0:x.phase=0)(hn:n<=100000)(hN:1048576<N):
  Zl9 N f.e (k:Int) code m=some (((Fm.put (WoT m f x code) k).e,()),()):=by
 have hx:=hF.kid k hk;rw[bb,aN]at hx;obtain⟨k0,k1,k2,k3,k4,k5,k6,k7,k8,k9,k10⟩:=kdP x;obtain⟨f0,f1,f2,f3,f4,f5,f6,f7,f8,f9⟩:=fmP f;have bH:=hx.pc;have ad:=bT.len;have mc:=hx.wl;have e2:Xc (f.kids.map Kd.e) (Xa (k:Int)) d_KidRun=x.e:=by
  simp_all
 have e3:U9 (Xe (f.kids.map Kd.e) (Xa (k:Int)) x.e) f.e=f.e:=by
  rw[Xl,U9e,←aN,Xbh]
 unfold Zl9 WoT;simp only[Wk,f9,Xu];rw[WF,We hk];simp only[Wb,e2,e3,k1,k6,k8,k9,WV,Wv,show Wg code=(code.length:Int)from rfl];by_cases dG:x.pc>=code.length
 .rw[Wf dG,Wf dG];rw[Xl];exact WrN rfl rfl rfl
 .rw[Wc dG,Wc dG];obtain⟨j,hj,ej,eo⟩:=WjA (l:=code) bH.1 (by omega);have py:Xc code (Xa x.pc) ((0,0,0,0):Opn)=opN code x.pc:=rfl;have dB:inb x.pc code.length=true:=by grind [WF,decide_eq_true]
  rw[dB];obtain⟨ok,o1,jd⟩:=bT.ok j hj;have bn:=bT.k10 j hj;simp only[Wb,py];rw[←eo]at ok o1 bn;generalize opN code x.pc=o at*;have cE:=hx.regs.len;rw[Xl];rw[Wap (show 0<=x.pc/\x.pc<=1000000 by omega)];by_cases h5:o.1=5
  .rw[Wf h5,Wf h5];have:=WwE ok h5;have jY:=Wnz hF hx bT hm hn this.1 this.2;have e4:(Q9 f.e)[k]'(by simp_all)=x.e:=by
    simp_all
   have:=WnO (m:=m) (o:=o) (f:=f.e) (k:=k) (by simp_all) (by simp_all) hN;rw[this];simp only[Xd,e4,Wnq];unfold WxV;have jt:=WkO m f x o;rw[show Q9 (Wg2 m f x o).1.e=f.kids.map Kd.e by rw[←jt];rfl];exact WrN rfl rfl jt
  .rw[Wc h5,Wc h5];by_cases cS:o.1=10
   .rw[Wf cS,Wf cS,Wmw bT hx h0 hN];exact WrN rfl rfl rfl
   .rw[Wc cS,Wc cS];by_cases h6:o.1=6
    .rw[Wf h6,Wf h6];rw[WT (WwB ok h6).2 cE,Wq (by simp;omega)];exact WrN rfl rfl rfl
    .rw[Wc h6,Wc h6];by_cases h7:o.1=7
     .rw[Wf h7,Wf h7];have h:=Wwz ok h7;rw[WT h.1 cE,WJ (a:=x.pc) (b:=o.2.2.1) (by unfold I64;omega),Wap (a:=x.pc+o.2.2.1) (by omega)];by_cases hg:Xc x.regs (Xa o.2.1) 0=0
      .rw[Wf hg,Wf (show WbQ x.regs o.2.1 0=0 from hg)];simp only[Wb];exact WrN rfl rfl rfl
      .rw[Wc hg,Wc (show¬WbQ x.regs o.2.1 0=0 from hg)];simp only[Wb];exact WrN rfl rfl rfl
     .rw[Wc h7,Wc h7];by_cases h8:o.1=8
      .rw[Wf h8,Wf h8];rw[Wbt (by omega)];have mx:x.marks.length<=24:=by
        have:=Wn Xb (hx.marks h0).pcs;simp only[Xu]at this;have h2:=Wa3 bT.up x.pc.toNat (by omega);have h3:=(Wcs code x.pc.toNat).2;omega
       simp only[ret,Xd];rw[Wq (by simp;omega)];exact WrN rfl rfl rfl
      .rw[Wc h8,Wc h8];by_cases h9:o.1=9
       .rw[Wf h9,Wf h9];have hM:=hx.marks h0;have hz:x.marks.length≠0:=by
         intro hz;have h1:=Wn Xb hM.pcs;simp only[Xu,hz]at h1;have h2:=Wa3 bT.up j (by omega);have h3:=bT.up j hj
         grind [WaD,Wl7,Xl]
        obtain⟨i,q,y,e1,rO,rP,⟨hi,qf⟩,rN,df,jJ,e5,e6⟩:=WiT (d:=((0,0,[]):KM)) bT.toCC (show x.pc.toNat<=code.length by omega) hM.pcs hz;have px:x.marks.length=q.length+1:=by grind
        have mx:x.marks.length<=24:=by
         have:=Wn Xb (hx.marks h0).pcs;simp only[Xu]at this;have h2:=Wa3 bT.up x.pc.toNat (by omega);have h3:=(Wcs code x.pc.toNat).2;omega
        have i1:WU .i64 (Wg x.marks) 1=(q.length:Int):=by grind [WiO]
        have g1:Xc x.marks (Xa (q.length:Int)) ((0,0,[]):KM)=y:=by grind
        have t1:Xam (Xa (q.length:Int)) x.marks=x.marks.dropLast:=by rw[e1];simp
        rw[i1,WF,We (show q.length<x.marks.length by omega)];have b1:(decide ((0:Int)<=(q.length:Int))&&decide ((q.length:Int)<=(x.marks.length:Int)))=true:=by simp;omega
        rw[b1];simp only[Wb,g1,t1,rO];rw[rP,WF,We hi];have o1:Xc code (Xa ((i:Nat):Int)) ((0,0,0,0):Opn)=opN code (i:Int):=rfl;have hr:=Wvk (bT.ok i hi).1 qf;rw[←WeM hi]at hr;simp only[Wb,o1];rw[WT hr cE];exact WrN rfl rfl rfl
       .rw[Wc h9,Wc h9];rw[WhS hN ok (by omega) (by omega) hx.regs];exact WrN rfl rfl rfl
end
section
theorem WkE{l:List Rw}{c v:Int}:∀(i:Nat),i<=l.length->Wgm l c i=some v->(c,v)∈l
 |0,_,h=>by simp[Wgm]at h
 |i+1,hi,h=>by
  unfold Wgm at h;rw[WD (show i<l.length by omega)]at h;by_cases hc:l[i].1=c
  .grind
  .rw[Wc hc]at h;exact WkE i (by omega) h
theorem Wi4{l:List Rw}{c v:Int}(h:Wcm l c=some v):Wak l=true/\(c,v)∈l:=by
 unfold Wcm at h;by_cases hr:Wak l=true
 .rw[Wf hr]at h;exact⟨hr,WkE _ (Xm _) h⟩
 simp_all
theorem WpH(l:List Rw):∀(j c:Nat) (o:List Rw),Wjm l j c o=o++(Xga c j).filterMap λc:Nat=>(Wcm l (c:Int)).map λv=>((c:Int),v)
 |0,c,o=>by simp[Wjm]
 |j+1,c,o=>by
  rw[Wjm,WpH l j,List.range'_succ,List.filterMap_cons];unfold WjP;cases h:Wcm l (c:Int)<;>simp
theorem Wo7(l:List Rw):WcU l=(Xga 0 8).filterMap λc:Nat=>(Wcm l (c:Int)).map λv=>((c:Int),v):=by simp[WcU,WpH]
theorem WpG{l:List Rw}{r:Rw}:r∈WcU l↔(0<=r.1/\r.1<=7)/\Wcm l r.1=some r.2:=by
 rw[Wo7,List.mem_filterMap];constructor
 .rintro⟨c,hc,h⟩;rw[Xfg]at hc;cases hl:Wcm l (c:Int)with
  |none=>simp_all
  |some v=>
   grind
 .rintro⟨h0,h⟩;refine⟨r.1.toNat,Xfg.2 (by omega),?_⟩
  grind
theorem Woz(l:List Rw):(WcU l).Pairwise λa b=>a.1<b.1:=by
 rw[Wo7,List.pairwise_filterMap];refine List.Pairwise.imp ?_ (List.pairwise_lt_range' (s:=0) (n:=8));simp_all
theorem Wc0(l:List Rw):(WcU l).length<=8:=by
 grind [Wo7,Xal,List.length_filterMap_le]
theorem WgV{l:List Rw}:Wjg (WcU l):=by
 intro r hr;obtain⟨h0,h1⟩:=WpG.1 hr;obtain⟨h2,h3⟩:=Wi4 h1;unfold Wak at h2;simp only[Xi]at h2;have:=(Wij.1 h2.2) _ h3;omega
end
section
theorem Wfj{p:Pb}:WjQ p=true↔(0<=p.1/\p.1<=7)/\(0<=p.2.1/\p.2.1<=4)/\(0<=p.2.2.1/\p.2.2.1<=1000000)/\0<=p.2.2.2/\p.2.2.2<=65535:=by
 simp[WjQ,Wav,Wbg,Xi,Wi]
theorem WhY{c:Int}{w:Wd}:Wm9 c w=true↔(0<=w.1/\w.1<=65535)/\(0<=w.2.1/\w.2.1<=c)/\0<=w.2.2/\w.2.2<=99:=by
 simp[Wm9,Wbg,Xi,Wi]
theorem Wtv{m:Mm}(h:W0 m=true){c:Int}(hc:0<=c/\c<=7):Wm9 m.1 (WbQ m.2 c (0,0,0))=true:=by
 grind [WC,WbQ,WD,Xv]
theorem Wnf{m:Mm}{rv:Int}{p:Pb}(hm:W0 m=true)(hp:WjQ p=true):WjQ (WaK m rv p)=true/\(WaK m rv p).1=p.1:=by
 have fz:=Wfj.1 hp;have hw:=Wtv hm fz.1;rw[WhY]at hw;obtain⟨h8,h0,h1,_⟩:=WC hm;unfold WaK;simp only[Wv,WV];have Ak:Wm9 m.1 (Xc m.2 (Xa p.1) (0,0,0))=true:=Wtv hm fz.1
 grind [WhY,Wfj]
section
variable{code:List Opn}{pc fg wl md:Nat}{ms q:List KM}{y:KM}{c c' n n':Int}{x:Kd}{f:Fm}{m:Mm}{codes:List (List Opn)}{k:Nat}
theorem KMk.mono(h:KMk code pc ms wl)(hs:stk code fg=stk code pc)(hw:wl<=md):KMk code fg ms md:=
 ⟨by rw[hs];exact h.pcs,λq hq=>by have:=h.each q hq;grind,h.up⟩
theorem KMk.begin(h:KMk code pc ms wl)(hp:pc<code.length)(h8:code[pc].1=8){regs:List Int}(hr:Vals 4 regs)(hw:wl<=pc):KMk code (pc+1) (ms++ [((pc:Int),(wl:Int),regs)]) wl:=by
 refine⟨?_,?_,?_⟩
 .rw[WlC hp h8,Xz,Xz,h.pcs];rfl
 .intro q hq;rcases Xo.1 hq with hq|hq
  .exact h.each q hq
  simp_all
 .refine Xah.2 ⟨h.up,List.pairwise_singleton _ _,λa ha b hb=>?_⟩;rw[Xag]at hb;subst hb;exact(h.each a ha).2.2.2
theorem KMk.drop(h:KMk code pc ms wl)(qg:ms=q++ [y])(hs:stk code fg=(stk code pc).dropLast)(hw:y.2.1<=md):KMk code fg q md:=by
 subst qg;have h1:=h.pcs;refine⟨?_,λa ha=>?_,(Xah.1 h.up).1⟩
 .grind
 .have h2:=h.each a (List.mem_append_left _ ha);have h3:=(Xah.1 h.up).2.2 a ha y (by simp)
  grind
theorem KOk.wk(h:KOk code c n x)(hc:c<=c')(hn:n<=n'):KOk code c' n' x:=
 {h with since:=by have:=h.since;omega,tries:=by have:=h.tries;omega}
theorem Wqp(h:KOk code c n x)(hc:c=f.clock)(hf:Vals 4 f.regs)(h0:0<=f.clock):KOk code c (n+1) (f.again x) where
 pc:=⟨Xcv _,by show(0:Int)<=_;omega⟩
 regs:=hf
 rows:=λr hr=>by cases hr
 wl:=Xcv _
 sl:=Xcv _
 since:=by show 0<=f.clock/\f.clock<=c;omega
 tries:=by have:=h.tries;show 0<=x.tries+1/\x.tries+1<=n+1;omega
 seen:=λe he=>by cases he
 marks:=λ_=>⟨by show([]:List KM).map _=(stk code 0).map _;rfl,(λq hq=>by cases hq),List.Pairwise.nil⟩
 pos:=⟨Xcv _,Xcv _⟩
 pb:=λh=>by cases h
 phase:=by show(0:Int)<=0/\(0:Int)<=3;omega
 out:=by show(0:Int)<=0/\(0:Int)<=2;omega
theorem KMk.len(hc:CC code)(h:KMk code pc ms wl)(hp:pc<=code.length):(ms.length:Int)=dep code pc:=by
 have:=Wn Xb h.pcs;simp only[Xu]at this;rw[this,Wa3 hc.up pc hp]
theorem KOk.on(cx:CC code)(h:KOk code c n x)(h0:x.phase=0){i:Nat}(hi:i<code.length)(bH:x.pc=i){regs:List Int}{seen:List En}{writes:List Rw}{marks:List KM}{busy:Bool}{pb:Pb}{fg:Nat}(hp:fg<=code.length)(ac:i<fg)(hr:Vals 4 regs)(bi:Wjg writes)(mc:writes.length<=x.writes.length+1)(iN:seen.length<=x.seen.length+1)
  (hs:∀e∈seen,(0<=e.1/\e.1<=7)/\(0<=e.2.1/\e.2.1<=65535)/\ -1<=e.2.2/\e.2.2<=x.since) (xw:x.seen.length<=seen.length) (hm:KMk code fg marks writes.length) (hb:busy=true->WjQ pb=true):
  KOk code c n {x with regs:=regs,seen:=seen,writes:=writes,marks:=marks,busy:=busy,pb:=pb,pc:=(fg:Int)}:=
 {h with
  pc:=by simp_all
  regs:=hr
  rows:=bi
  wl:=by have:=h.wl;grind
  sl:=by have:=h.sl;grind
  seen:=hs
  marks:=λ_=>by simp_all
  pos:=by have:=h.pos;grind
  pb:=hb}
theorem Wur(cx:CC code)(hF:FOk codes n f)(h:KOk code f.clock n x)(h0:x.phase=0){i:Nat}(hi:i<code.length)(bH:x.pc=i)(h5:code[i].1=5)(hm:W0 m=true):
  KOk code f.clock (n+1) (Wg2 m f x code[i]).2/\((Wg2 m f x code[i]).1=f\/(Wg2 m f x code[i]).1={f with lost:=true}):=by
 have bI:=WwE (cx.ok i hi).1 h5;have hB:0<=code[i].2.2.1/\code[i].2.2.1<=7:=by grind [Wav]
 have hM:=h.marks h0;rw[bH,Xl]at hM;have bv:stk code (i+1)=stk code i:=WgS hi (by omega) (by omega);have cI:x.pc+1=((i+1:Nat):Int):=by omega
 unfold Wg2;cases hl:Wcm x.writes code[i].2.2.1 with
 |some v=>
  have hv:=h.rows _ (Wi4 hl).2;refine⟨?_,.inl rfl⟩;simp only[cI];exact(KOk.on cx h h0 hi bH (by omega) (by omega) (h.regs.set _ hv.2) h.rows (by omega) (by omega) h.seen (by omega) (hM.mono bv (by omega)) h.pb).wk (by omega) (by omega)
 |none=>
  simp only;cases he:ent f.buf code[i].2.2.1 with
  |some r=>
   simp only;have hr:=WcI he;have pT:r.2∈f.buf:=by
    grind
   have jN:=hF.bufE _ pT;split
   .exact⟨Wqp h rfl hF.regs hF.clock.1,.inl rfl⟩
   .refine⟨?_,.inl rfl⟩;simp only[cI];refine(KOk.on cx h h0 hi bH (by omega) (by omega) (h.regs.set _ jN.2.1) h.rows (by omega) (by simp) (λe jP=>?_) (by simp) (hM.mono bv (by omega)) h.pb).wk (by omega) (by omega);rcases Xo.1 jP with jP|jP
    .exact h.seen e jP
    grind
  |none=>
   simp only;have gz:WjQ (if x.busy=true then x.pb else(code[i].2.2.1,0,0,0))=true:=by
    split
    .exact h.pb ‹_›
    grind [Wfj]
   have cy:=Wnf (rv:=f.rv) hm gz;generalize WaK m f.rv (if x.busy=true then x.pb else(code[i].2.2.1,0,0,0))=p at*;have hp:=Wfj.1 cy.1;split
   .refine⟨?_,.inr rfl⟩;exact KOk.wk (n:=n) {h with pb:=λ_=>cy.1} (by omega) (by omega)
   .split
    .refine⟨?_,.inl rfl⟩;simp only[cI];refine(KOk.on cx h h0 hi bH (by omega) (by omega) (h.regs.set _ hp.2.2.2) h.rows (by omega) (by simp) (λe jP=>?_) (by simp) (hM.mono bv (by omega)) (λh=>by cases h)).wk (by omega) (by omega);rcases Xo.1 jP with jP|jP
     .exact h.seen e jP
     .rw[Xag]at jP;subst jP;exact⟨hB,hp.2.2.2,by simp,by have:=h.since;grind⟩
    .refine⟨?_,.inl rfl⟩;exact KOk.wk (n:=n) {h with pb:=λ_=>cy.1} (by omega) (by omega)
theorem Wv6(bT:KC code)(hF:FOk codes n f)(h:KOk code f.clock n x)(h0:x.phase=0)(hm:W0 m=true):
  KOk code f.clock (n+1) (WoT m f x code).2/\((WoT m f x code).1=f\/(WoT m f x code).1={f with lost:=true}):=by
 have cx:=bT.toCC;unfold WoT;split
 .refine⟨?_,.inl rfl⟩;exact KOk.wk (n:=n) {h with marks:=λh=>by simp_all,phase:=by simp_all,out:=by simp_all} (by omega) (by omega)
 .obtain⟨i,hi,bH,ho⟩:=WjA (l:=code) h.pc.1 (by omega);simp only[ho];obtain⟨ok,o1,jd⟩:=bT.ok i hi;have bn:=bT.k10 i hi;have hM:=h.marks h0;rw[bH,Xl]at hM;have cI:x.pc+1=((i+1:Nat):Int):=by omega
  have mc:x.writes.length<=i:=by have:=h.wl;omega
  split
  .grind [Wur]
  .split
   .refine⟨?_,.inl rfl⟩;unfold Wi6;split
    .refine KOk.wk (n:=n) {h with rows:=(λr hr=>by cases hr),wl:=by simp_all,marks:=λh=>by simp_all,phase:=by simp_all,out:=by simp_all} (by omega) (by omega)
    .obtain⟨j,q,y,e1,e2,e3,⟨hj,h8⟩,rN,df,jJ,e5,e6⟩:=WiT (d:=((0,0,[]):KM)) cx (show i<=code.length by omega) hM.pcs ‹_›;obtain⟨y1,y2,y3,y4⟩:=hM.each y (by grind);simp only[e2,e3,Xl,←Int.natCast_succ];have hl:=df.len;have ht:(Xam y.2.1.toNat x.writes).length=y.2.1.toNat:=by simp_all
     refine(KOk.on cx h h0 hi bH (fg:=Wkg code j+1) (by omega) (by omega) (y1.set _ (by omega)) (λr hr=>h.rows r (List.mem_of_mem_take hr)) (by omega) (by omega) h.seen (by omega) ?_ h.pb).wk (by omega) (by omega);rw[show x.marks.dropLast=q by grind];exact hM.drop e1 (by rw[df.st];exact e5) (by omega)
   .split
    .refine⟨?_,.inl rfl⟩;have hk:=WwB ok ‹_›;have bv:stk code (i+1)=stk code i:=WgS hi (by omega) (by omega);simp only[cI];refine(KOk.on cx h h0 hi bH (by omega) (by omega) h.regs (λr hr=>?_) (by simp) (by omega) h.seen (by omega) (hM.mono bv (by simp)) h.pb).wk (by omega) (by omega);rcases Xo.1 hr with hr|hr
     .exact h.rows r hr
     .rw[Xag]at hr;subst hr;have:=hk.1;unfold Wav at this;exact⟨by simp_all,h.regs.get _⟩
    .split
     .refine⟨?_,.inl rfl⟩;obtain⟨s1,s2⟩:=bT.sk i hi ‹_›;have hk:=Wwz ok ‹_›;have bv:stk code (i+1)=stk code i:=WgS hi (by omega) (by omega);have pz:stk code (i+1+code[i].2.2.1.toNat)=stk code i:=by grind [WpM]
      by_cases hg:WbQ x.regs code[i].2.1 0=0
      .simp only[Wf hg,show x.pc+code[i].2.2.1+1=((i+1+code[i].2.2.1.toNat:Nat):Int) by omega];exact(KOk.on cx h h0 hi bH s1 (by omega) h.regs h.rows (by omega) (by omega) h.seen (by omega) (hM.mono pz (by omega)) h.pb).wk (by omega) (by omega)
      .simp only[Wc hg,cI];exact(KOk.on cx h h0 hi bH (by omega) (by omega) h.regs h.rows (by omega) (by omega) h.seen (by omega) (hM.mono bv (by omega)) h.pb).wk (by omega) (by omega)
     .split
      .refine⟨?_,.inl rfl⟩;simp only[cI];rw[bH];exact(KOk.on cx h h0 hi bH (by omega) (by omega) h.regs h.rows (by omega) (by omega) h.seen (by omega) (hM.begin hi ‹_› h.regs mc) h.pb).wk (by omega) (by omega)
      .split
       .refine⟨?_,.inl rfl⟩;have hz:x.marks.length≠0:=by
         have h1:=hM.len cx (by omega);have h3:=cx.up i hi
         grind [WaD,Wl7]
        obtain⟨j,q,y,e1,e2,e3,⟨hj,h8⟩,rN,df,jJ,e5,e6⟩:=WiT (d:=((0,0,[]):KM)) cx (show i<=code.length by omega) hM.pcs hz;obtain⟨y1,y2,y3,y4⟩:=hM.each y (by grind);simp only[cI];refine(KOk.on cx h h0 hi bH (by omega) (by omega) (h.regs.set _ (by omega)) h.rows (by omega) (by omega) h.seen (by omega) ?_ h.pb).wk (by omega) (by omega);rw[show x.marks.dropLast=q by grind];exact hM.drop e1 (Wm4 hi ‹_›) (by omega)
       .refine⟨?_,.inl rfl⟩;have bv:stk code (i+1)=stk code i:=WgS hi (by omega) (by omega);simp only[cI];exact(KOk.on cx h h0 hi bH (by omega) (by omega) (Wms ok (by omega) (by omega) h.regs) h.rows (by omega) (by omega) h.seen (by omega) (hM.mono bv (by omega)) h.pb).wk (by omega) (by omega)
end
end
section
def Wf9(c:Int)(v:List En)(r:Rw):List En:=match ent v r.1 with
 |some a=>v.set a.1 (r.1,r.2,c)
 |none=>v++ [(r.1,r.2,c)]
theorem WnE(c:Int)(v:List En)(r:Rw):(Wf9 c v r).length<=v.length+1:=by
 unfold Wf9;split<;>simp
theorem apE{a b:En}:Ap cfE a b↔a.1≠b.1:=by unfold Ap cfE;omega
theorem Ws0{c:Int}{L M:List En}{r:Rw}(hL:L.Pairwise (Ap cfE))(hM:Ris cfE M)(hm:∀x,x∈L↔x∈M):
  (Wf9 c L r).Pairwise (Ap cfE)/\Ris cfE (WbE cfE M (r.1,r.2,c))/\∀x,x∈Wf9 c L r↔x∈WbE cfE M (r.1,r.2,c):=by
 have key:(Wf9 c L r).Pairwise (Ap cfE)/\∀x,x∈Wf9 c L r↔x=(r.1,r.2,c)\/(x∈L/\Ap cfE x (r.1,r.2,c)):=by
  unfold Wf9 ent;cases he:fnd (λe:En=>e.1==r.1) L 0 with
  |some a=>
   obtain⟨h1,h2,h3,h4⟩:=WcI he;simp only[Xau,Xdf]at h3 h4
   grind [Xq,WnF,Wvc,apE]
  |none=>
   grind [Wgs,Wkp,apE]
 refine⟨key.1,Wcy Wvc hM,λx=>?_⟩;rw[key.2 x,Wcu Wvc hM,hm]
theorem Wsj{c:Int}:∀{rows:List Rw} {L M:List En},L.Pairwise (Ap cfE)->Ris cfE M->(∀x,x∈L↔x∈M)->
  (rows.foldl (Wf9 c) L).Pairwise (Ap cfE)/\Ris cfE (Wdv c M rows)/\∀x,x∈rows.foldl (Wf9 c) L↔x∈Wdv c M rows
 | [],_,_,hL,hM,hm=>⟨hL,hM,hm⟩
 |r::rows,L,M,hL,hM,hm=>by
  obtain⟨a,b,d⟩:=Ws0 (c:=c) (r:=r) hL hM hm;exact Wsj (rows:=rows) a b d
theorem Woi{c:Int}:∀(rows:List Rw) (L:List En),(rows.foldl (Wf9 c) L).length<=L.length+rows.length
 | [],L=>by simp
 |r::rows,L=>by
  have:=Woi (c:=c) rows (Wf9 c L r)
  grind [WnE,Xr]
theorem We8{c:Int}{P:En->Prop}:∀{rows:List Rw} {M:List En},Ris cfE M->(∀x∈M,P x)->(∀r∈rows,P (r.1,r.2,c))->∀x∈Wdv c M rows,P x
 | [],_,_,h,_=>h
 |r::rows,M,hM,h,hr=>by
  refine We8 (rows:=rows) (Wcy Wvc hM) (λx hx=>?_) λr' h'=>hr r' (Xf _ h');rcases(Wcu Wvc hM).1 hx with rfl|h'
  .simp_all
  simp_all
theorem Wqd{R:Type}{N:Nat}{k4:Int}{b7 b8 b9:Int}{aP:Bool}{bk bK bA dz ce bF:Int}{je:Bool}{cp eK jf dm:Int}{cU:List Kc}{fG:List Int}{gL:List Kc}{jg:List Int}{dt:List Kc}{fj:List Y_KidRun}{jh:Nat}{dO:List Int}{dP:List Kb}{cK:List Kc}{cC:List Ki}{K0:Int->Bool->Kq->Option R}(hN:1048576<N)(Al:cU.length<=8):
  ∀(d j n:Nat) (v:List En),j+d=cU.length->d<n->v.length<=100+j->
  Zae N k4 (Wg cU) b7 b8 b9 aP bk bK bA dz ce bF je cp eK jf dm cU fG gL jg dt fj jh dO dP cK cC K0 n (j:Int) v=K0 (cU.length:Int) false ((cU.drop j).foldl (Wf9 b8) v)
 |0,j,n+1,v,hj,hn,hv=>by
  simp_all [Zae,WS,Xm,Wa,Xcb,List.foldl_nil]
 |d+1,j,n+1,v,hj,hn,hv=>by
  have ac:j<cU.length:=by omega
  have nf:=WfV (N:=N) (f:=(b7,(b8,(b9,(aP,(fG,(gL,(v,(jg,(dt,Xe fj jh (bk,(bK,(bA,(dz,(ce,(bF,(dO,(dP,(cK,(cC,(je,(cp,(eK,(jf,dm)))))))))))))))))))))))) (c:=cU[j].1) (by grind) hN;have hs:=WnE b8 v cU[j];have dC:∀v',v'=Wf9 b8 v cU[j]->Zae N k4 (Wg cU) b7 b8 b9 aP bk bK bA dz ce bF je cp eK jf dm cU fG gL jg dt fj jh dO dP cK cC K0 n ((j+1:Nat):Int) v'=K0 (cU.length:Int) false ((cU.drop j).foldl (Wf9 b8) v):=λv' Am=>by
   subst Am;rw[Wqd hN Al d (j+1) n _ (by omega) (by omega) (by omega),Xay ac,List.foldl_cons]
  simp only[Zae,Wk,WK ac,Ww ac,Ws ac,Wm (show j<4611686018427387904 by omega),Wb,nf,ret,Xd];have hd:ent v cU[j].1=ent v cU[j].1:=rfl;unfold Wf9 at dC;cases he:ent v cU[j].1 with
  |some a=>
   rw[he]at dC;obtain⟨h1,h2,h3,h4⟩:=WcI he;rw[Xau]at h3;simp only[We (show((a.1:Int)>=0) by omega),Wb];rw[WF,We h3];simp only[Wb,Xl];exact dC _ rfl
  |none=>
   rw[he]at dC;simp only[show decide ((-1:Int)>=0)=false from rfl,Wa];rw[Wq (by simp;omega)];simp only[Wb,Xbc];exact dC _ rfl
 |_,_,0,_,_,h,_=>by omega
theorem WlI{R:Type}{N:Nat}{fF co cT dD:Int}{dE:Bool}{dF dM dN dc ge ke:Int}{iw:Bool}{iy iz iA kg:Int}{dA:List Kb}{iB:List Int}{iD:List Kc}{iE:List Kb}{kh:List Int}{ki:List Y_KidRun}{kj:Nat}{ek:List Int}{eh:List Kc}{gU:List Ki}{K0:Int->Bool->Kv->Option R}(xA:dA.length<=1000):
  ∀(d j n:Nat) (v:List Rw),j+d=dA.length->d<n->v.length<=1000+j->
  Zal N fF (Wg dA) co cT dD dE dF dM dN dc ge ke iw iy iz iA kg dA iB iD iE kh ki kj ek eh gU K0 n (j:Int) v=K0 (dA.length:Int) false (v++WaL (dA.drop j))
 |0,j,n+1,v,hj,hn,hv=>by
  have:j=dA.length:=by omega
  subst this;simp only[Zal,WS (Xm dA.length),Wa,Xcb,WaL,List.filter_nil,Xcg,List.append_nil]
 |d+1,j,n+1,v,hj,hn,hv=>by
  have ac:j<dA.length:=by omega
  have he:WaL (dA.drop j)=if dA[j].2.2= -1 then(dA[j].1,dA[j].2.1)::WaL (dA.drop (j+1))else WaL (dA.drop (j+1)):=by
   rw[Xay ac];unfold WaL
   grind
  simp only[Zal,Wk,WK ac,Ww ac,Ws ac,Wm (show j<4611686018427387904 by omega),Wb,Wv];rw[he];by_cases h:dA[j].2.2= -1
  .rw[Wf h,Wf h,Wq (by simp;omega)];simp only[Wb];rw[WlI xA d (j+1) n _ (by omega) (by omega) (by simp;omega)];simp
  .rw[Wc h,Wc h];rw[WlI xA d (j+1) n _ (by omega) (by omega) (by omega)]
 |_,_,0,_,_,h,_=>by omega
variable{N:Nat}{codes:List (List Opn)}{n:Int}{f:Fm}{k:Nat}{code:List Opn}{m:Mm}{x:Kd}
theorem WwQ{l:List En}(h:Ris cfE l):l.Pairwise (Ap cfE):=h.imp λh=>.inl h
theorem WlV(hk:k<f.kids.length)(h3:f.kids.length<=3)(pA:code.length<=24)(hF:FOk codes n f)(bb:codes.getD k []=code)(aN:f.kids[k]=x)(hN:1048576<N):
  Zex N f.e (k:Int)=some (((Fm.put (WhR f x k) k).e,()),()):=by
 have hx:=hF.kid k hk;rw[bb,aN]at hx;obtain⟨f0,f1,f2,f3,f4,f5,f6,f7,f8,f9⟩:=fmP f;have bH:=hx.pc;have mc:=hx.wl;have iN:=hx.sl;have xB:=hF.buf8;have me:f.order.length<=3:=by
  have h1:=hF.done
  grind
 have rQ:=hF.readsL;have e2:Xc (f.kids.map Kd.e) (Xa (k:Int)) d_KidRun=x.e:=by
  simp_all
 unfold Zex;simp only[f9,Xu];rw[WF,We hk];simp only[Wb,e2];have en:Zie N x.e.2.2.2.2.2.2.2.2.1=ret (WcU x.writes):=Wer (show x.writes.length<=1048576 by omega) hN;rw[en];simp only[ret,Xd];have j7:=Wc0 x.writes;rw[show(0:Int)=((0:Nat):Int)from rfl];rw[Wqd (cU:=WcU x.writes) hN j7 (WcU x.writes).length 0 N _ (by omega) (by omega) (by grind)];simp only[Xbk];have hP6:P6 f.e=f.buf:=rfl;have c7:Wh .i64 f.e.2.1 1=f.clock+1:=Wap (by have:=hF.clock;omega);rw[hP6,c7];obtain⟨i1,i2,i3⟩:=Wsj (c:=f.clock+1) (rows:=WcU x.writes) (WwQ hF.bufR) hF.bufR (λx=>Iff.rfl);unfold Z9;have il:=Woi (c:=f.clock+1) (WcU x.writes) f.buf;rw[WpR (rng:=Ww5) (N:=N) Wvc i2 i1 i3 (λe he=>?_) (by omega)]
 .simp only[Xd];have hP7:P7 x.e=x.seen:=rfl;rw[show(Kd.e x).2.2.2.2.2.2.2.1=x.seen from rfl];rw[WlI (dA:=x.seen) (by omega) x.seen.length 0 N _ (by omega) (by omega) (by grind)];rw[Wq (by grind)];simp only[Wb,Xbk];have hU:∀(g:Fm) (y:Kd),U6 (Xe (f.kids.map Kd.e) k y.e) (S5 (f.reads++WaL x.seen) (S4 (f.order++ [(k:Int)]) (S3 (Wdv (f.clock+1) f.buf (WcU x.writes)) f.e.2.2.2)))=(f.lost,f.regs,f.start,Wdv (f.clock+1) f.buf (WcU x.writes),f.order++ [(k:Int)],f.reads++WaL x.seen,(f.kids.set k y).map Kd.e):=λg y=>by
   rw[Xes];rfl
  rw[Xl];exact Wn (λz=>some (((f.rv,(f.clock+1,((0:Int),z))),()),())) (hU f {x with phase:=3,pos:=0,marks:=[]})
 .have h1:=(i3 e).1 he;have:=We8 (P:=λe=>0<=e.1/\e.1<=7) hF.bufR (λe he=>(hF.bufE e he).1) (λr hr=>(WpG.1 hr).1) e h1
  grind [Ww5,Wvg]
theorem Wng(hk:k<f.kids.length)(hF:FOk codes n f)(hx:KOk code f.clock n x)(aN:f.kids[k]=x)(hn:n<=100000)(o:Int):
  Za1 N (Fm.e {f with owner:=o}) (k:Int)=some (((Fm.put ({f with owner:=o},f.again x) k).e,()),()):=by
 have h:=WeC (N:=N) (f:=Fm.e {f with owner:=o}) (k:=k) (x:=x.e) (by show k<(f.kids.map Kd.e).length;simp_all) hF.regs.len (by have:=hx.tries;show 0<=x.tries/\x.tries<=100000;omega);have e3:U9 (Xe (Q9 (Fm.e {f with owner:=o})) k x.e) (Fm.e {f with owner:=o})=Fm.e {f with owner:=o}:=by
  have:=U9e {f with owner:=o} k x;rw[←aN]at this;simp only[Xbh]at this;rw[←aN];exact this
 rw[e3]at h;rw[h];exact Wn (λz=>some ((z,()),())) (U9e {f with owner:=o} k (f.again x))
theorem Wlp(hk:k<f.kids.length)(h3:f.kids.length<=3)(hm:W0 m=true)(bT:KC code)(hF:FOk codes n f)(bb:codes.getD k []=code)(hn:n<=100000)(hN:1048576<N):
  Zle N f.e (k:Int) code m=some (((Wgx m f k code).e,()),()):=by
 obtain⟨x,aN⟩:∃x,f.kids[k]=x:=⟨_,rfl⟩;have hx:=hF.kid k hk;rw[bb,aN]at hx;obtain⟨f0,f1,f2,f3,f4,f5,f6,f7,f8,f9⟩:=fmP f;obtain⟨k0,k1,k2,k3,k4,k5,k6,k7,k8,k9,k10⟩:=kdP x;have iN:=hx.sl;have bH:=hx.pc;have pA:=bT.len;have e2:Xc (f.kids.map Kd.e) (Xa (k:Int)) d_KidRun=x.e:=by
  simp_all
 have e3:U9 (Xe (f.kids.map Kd.e) (Xa (k:Int)) x.e) f.e=f.e:=by
  rw[Xl,U9e,←aN,Xbh]
 have e4:Fm.put (f,x) k=f:=by unfold Fm.put;simp only;rw[←aN,Xbh]
 unfold Zle Wgx Wj8;simp only[Wk,f9,f3,Xu];rw[Wdp];by_cases hlost:f.lost=true
 .rw[Wf hlost,Wf hlost]
 rw[Wc hlost,Wc hlost];rw[WF,We hk];simp only[Wb,Wa,e2,e3,k0,k4,k7,f2,Wv,WD hk,aN];by_cases h0:x.phase=0
 .rw[Wf h0,Wf h0,Wpp hk hm bT hF bb aN h0 hn hN];rfl
 .rw[Wc h0,Wc h0];by_cases h1:x.phase=1
  .rw[Wf h1,Wf h1];by_cases ho:f.owner=0
   .rw[Wf ho,Wf ho,Wap (by omega),Xl];exact WrN rfl rfl rfl
   simp_all
  .rw[Wc h1,Wc h1];by_cases h2:x.phase=2
   .rw[Wf h2,Wf h2];unfold Wg;by_cases hp:x.pos=(x.seen.length:Int)
    .rw[Wf hp,Wf hp,WlV hk h3 pA hF bb aN hN];rfl
    .rw[Wc hp,Wc hp];have fZ:=hx.pos;have dB:inb x.pos x.seen.length=true:=by grind [inb]
     rw[dB];have hg:Xc x.seen (Xa x.pos) ((0,0,0):En)=WbQ x.seen x.pos (0,0,0):=rfl;simp only[Wb,hg];have nf:=WfV (N:=N) (f:=f.e) (c:=(WbQ x.seen x.pos (0,0,0)).1) (by show f.buf.length<=1048576;have:=hF.buf8;omega) hN;rw[show f.e.2.2.2.2.2.2.1=f.buf from rfl]at nf;rw[nf];simp only[ret,Xd,f6];have ct:S2 (0:Int) f.e=Fm.e {f with owner:=0}:=rfl;have hY:Za1 N (U9 (Xe (f.kids.map Kd.e) (Xa (k:Int)) x.e) (S2 0 f.e)) (k:Int)=some (((Fm.put ({f with owner:=0},f.again x) k).e,()),()):=by
      grind [U9e,Xl,U9,Xe,Kd.e,Fm.e,Xbh,Wng]
     unfold WxF;have rR:Wh .i64 x.pos 1=x.pos+1:=Wap (by omega);rw[rR];cases he:ent f.buf (WbQ x.seen x.pos (0,0,0)).1 with
     |some a=>
      obtain⟨g1,g2,g3,g4⟩:=WcI he;rw[Xau]at g3;rw[Xdf,Xq g3]at g4;injection g4 with g4;simp only[We (show((a.1:Int)>=0) by omega),Wb];rw[WF,We g3];simp only[Wb,Ws g3,g4];by_cases hv:a.2.2.2=(WbQ x.seen x.pos (0,0,0)).2.2
      .rw[Wf hv,Wf hv,Xl];exact WrN rfl rfl rfl
      simp_all
     |none=>
      simp only[show decide ((-1:Int)>=0)=false from rfl,Wa];by_cases hv:(-1:Int)=(WbQ x.seen x.pos (0,0,0)).2.2
      .rw[Wf hv,Wf hv,Xl];exact WrN rfl rfl rfl
      simp_all
   simp_all
end
section
section
variable{codes:List (List Opn)}{n:Int}{f f':Fm}{k:Nat}{code:List Opn}{m:Mm}{x y:Kd}
theorem FOk.len3(h:FOk codes n f)(h3:codes.length<=3):f.order.length<=3:=by
 have h1:=h.done;have:=Xek (p:=λx:Kd=>decide (x.phase=3)) (l:=f.kids);have:=h.len;omega
theorem FOk.put1(h:FOk codes n f)(hk:k<f.kids.length)(bb:codes.getD k []=code){o:Int}{l:Bool}(ho:0<=o/\o<=f.kids.length)(hy:KOk code f.clock (n+1) y)(hp:f.kids[k].phase≠3)(hyp:y.phase≠3):
  FOk codes (n+1) (Fm.put ({f with owner:=o,lost:=l},y) k) where
 len:=by show(f.kids.set k y).length=_;rw[Xat];exact h.len
 regs:=h.regs
 clock:=h.clock
 done:=by
  show f.order.length=(f.kids.set k y).countP _;rw[Xhb hk,Wc (by simp_all),Wc (by simp_all)];exact h.done
 bufR:=h.bufR
 bufE:=h.bufE
 readsL:=h.readsL
 readsE:=h.readsE
 owner:=by show 0<=o/\o<=((f.kids.set k y).length:Int);simp_all
 kid:=λi hi=>by
  change i<(f.kids.set k y).length at hi;rw[Xat]at hi;show KOk (codes.getD i []) f.clock (n+1) (f.kids.set k y)[i];rw[Xcm];by_cases he:k=i
  .simp_all
  .rw[Wc he];exact(h.kid i hi).wk (by omega) (by omega)
theorem FOk.wk(h:FOk codes n f){n':Int}(hn:n<=n'):FOk codes n' f:=
 {h with kid:=λk hk=>(h.kid k hk).wk (by omega) hn}
theorem Wmv(h:∀e∈x.seen,(0<=e.1/\e.1<=7)/\(0<=e.2.1/\e.2.1<=65535)/\ -1<=e.2.2/\e.2.2<=x.since):Wjg (WaL x.seen):=by
 intro r hr;unfold WaL at hr
 grind
theorem WnP(l:List En):(WaL l).length<=l.length:=by
 simp[WaL,Xu,List.length_filter_le]
theorem WhN{c:Int}:∀{rows:List Rw} {M:List En},Ris cfE M->Ris cfE (Wdv c M rows)
 | [],_,h=>h
 |r::rows,M,h=>WhN (rows:=rows) (Wcy Wvc h)
theorem WsU(hF:FOk codes n f)(hk:k<f.kids.length)(bT:code.length<=24)(bb:codes.getD k []=code)(aN:f.kids[k]=x)(h2:x.phase=2):
  FOk codes (n+1) (Fm.put (WhR f x k) k):=by
 have hx:=hF.kid k hk;rw[bb,aN]at hx;have hc:=hF.clock;unfold WhR Fm.put;refine{len:=?_,regs:=hF.regs,clock:=?_,done:=?_,bufR:=WhN hF.bufR,bufE:=?_,readsL:=?_,readsE:=?_,owner:=?_,kid:=?_}
 .simp only[Xat];exact hF.len
 .grind
 .simp only[Xaa,Xgf];rw[Xhb hk,aN,Wc (by simp[h2]),Wf (by simp),←hF.done];rfl
 .simp only;refine We8 hF.bufR (λe he=>?_) λr hr=>?_
  .have:=hF.bufE e he;omega
  .have:=WgV r hr;grind
 .have h1:=hF.readsL;have h2:=WnP x.seen;have h3:=hx.sl;have h4:=hx.pc
  grind
 .intro r hr;rcases Xo.1 hr with hr|hr
  .exact hF.readsE r hr
  .exact Wmv hx.seen r hr
 .simp_all
 .intro i hi;simp only[Xat]at hi;simp only[Xcm];by_cases he:k=i
  .subst he;rw[Wf rfl,bb];refine KOk.wk (c:=f.clock) (n:=n) ?_ (by omega) (by omega);exact{hx with marks:=(λh=>by simp_all),pos:=⟨Xcv _,by simp_all⟩,phase:=by simp_all}
  .rw[Wc he];exact(hF.kid i hi).wk (by omega) (by omega)
theorem Wqm(hk:k<f.kids.length)(hm:W0 m=true)(bT:KC code)(hF:FOk codes n f)(bb:codes.getD k []=code):FOk codes (n+1) (Wgx m f k code):=by
 obtain⟨x,aN⟩:∃x,f.kids[k]=x:=⟨_,rfl⟩;have hx:=hF.kid k hk;rw[bb,aN]at hx;have e4:Fm.put (f,x) k=f:=by unfold Fm.put;simp only;rw[←aN,Xbh]
 have hFw:=hF.wk (show n<=n+1 by omega);unfold Wgx Wj8;split
 .exact hFw
 rw[WD hk,aN];split
 .rename_i h0;obtain⟨h1,h2⟩:=Wv6 bT hF hx h0 hm;have hnp:(WoT m f x code).2.phase≠3:=by
   grind [WoT,Wg2,Wi6,Fm.again]
  have:=h1;have key:∀q:Fm×Kd,(q.1=f\/q.1={f with lost:=true})->KOk code f.clock (n+1) q.2->q.2.phase≠3->FOk codes (n+1) (Fm.put q k):=by
   rintro⟨g,y⟩ hg hy hp;simp only at hg hy hp;rcases hg with rfl|rfl
   .exact FOk.put1 (o:=g.owner) (l:=g.lost) hF hk bb hF.owner hy (by simp_all) hp
   .exact FOk.put1 (o:=f.owner) (l:=true) hF hk bb hF.owner hy (by simp_all) hp
  simp_all
 .split
  .rename_i h1;split
   .refine FOk.put1 (o:=(k:Int)+1) (l:=f.lost) hF hk bb (by omega) ?_ (by simp_all) (by simp_all);refine KOk.wk (c:=f.clock) (n:=n) ?_ (by omega) (by omega);exact{hx with marks:=(λh=>by simp_all),phase:=by simp_all}
   simp_all
  .split
   .rename_i h2;split
    .exact WsU hF hk bT.len bb aN h2
    .simp only;split
     .refine FOk.put1 (o:=f.owner) (l:=f.lost) hF hk bb hF.owner ?_ (by simp_all) (by simp_all);refine KOk.wk (c:=f.clock) (n:=n) ?_ (by omega) (by omega);exact{hx with pos:=by(have:=hx.pos;grind)}
     .refine FOk.put1 (o:=0) (l:=f.lost) hF hk bb (by omega) (Wqp hx rfl hF.regs hF.clock.1) (by simp_all) (by show(0:Int)≠3;omega)
   simp_all
theorem Wta{rv:Int}{regs:List Int}{writes:List Rw}(hr:Vals 4 regs)(hn:0<=n):FOk codes n (Wde rv regs writes codes.length) where
 len:=by simp[Wde]
 regs:=hr
 clock:=by simp[Wde]
 done:=by
  simp only[Wde,Xbz];rw[List.countP_replicate,Wc (by simp)]
 bufR:=by
  grind [Ris,Wde,Woz,cfE]
 bufE:=λe he=>by
  obtain⟨r,hr,rfl⟩:=Xw.1 he;have:=WgV r hr
  grind [Wde]
 readsL:=by simp[Wde]
 readsE:=λr hr=>by cases hr
 owner:=by simp[Wde]
 kid:=λk hk=>by
  simp only[Wde,List.getElem_replicate];exact{pc:=by simp,regs:=hr,rows:=(λr hr=>by cases hr),wl:=by simp,sl:=by simp,since:=by simp,tries:=by simp;omega,seen:=(λe he=>by cases he),marks:=(λ_=>⟨by simp[stk],(λq hq=>by cases hq),List.Pairwise.nil⟩),pos:=by simp,pb:=(λh=>by cases h),phase:=by simp,out:=by simp}
end
end
section
theorem Whp{α β R:Type}{body:Int->α->List β->(List β->Option R)->Option R}{K:Int->List β->Option R}{f:α->β}:∀(l:List α) (d r:List β),l.length<=r.length->
  (∀(j:Nat) x (v:List β) k,x∈l->j<v.length->body j x v k=k (v.set j (f x)))->Wbm body K l d.length (d++r)=K ((d.length+l.length:Nat):Int) (d++(l.map f++r.drop l.length))
 | [],d,r,_,_=>by simp[Wbm]
 |x::l,d,[],h,_=>by simp at h
 |x::l,d,y::r,h,hb=>by
  rw[Wbm,hb d.length x _ _ (Xj ..) (by simp),WfH];have:=Whp (body:=body) (K:=K) (f:=f) l (d++ [f x]) r (by grind) λj z v k hz=>hb j z v k (Xf _ hz);simp only[Xaa,Xgf,Xbf,List.singleton_append]at this;rw[this];simp only[Xr,Xaf,List.drop_succ_cons,Xbd];rw[show d.length+1+l.length=d.length+(l.length+1) by omega]
theorem Wjz{α:Type}{R:Type}{l:List α}{p:α->Bool}{lp:Nat->Int->Option R}{N:Nat}{K0:Int->Option R}{K1:Option R}(hl:l.length<N)(ni:l.length<=1048576)(hs:∀n (j:Nat) (h:j<l.length),lp (n+1) (j:Int)=bif p l[j]then K0 j else lp n ((j+1:Nat):Int))(he:∀n,lp (n+1) (l.length:Int)=K1):lp N 0=match fnd p l 0 with|some r=>K0 r.1|none=>K1:=by
 have h1:=Wx (l:=l) (V:=Unit) (lp:=λn j _=>lp n j) hl (body:=λj x v k=>bif p x then K0 j else k v) (K:=λ_ _=>K1) (λn j v h=>hs n j h) (λn v=>he n) ();refine(h1.trans (WdU (p:=p) (E:=λj _=>K0 j) l 0 () λj x v k _=>rfl)).trans ?_;cases fnd p l 0<;>rfl
theorem Wmi{α:Type}{p:α->Bool}:∀(l:List α) (j:Nat),(fnd p l j).isSome=l.any p
 | [],_=>rfl
 |x::l,j=>by
  unfold fnd;rw[List.any_cons];cases p x
  .simp[Wmi l]
  .rfl
variable{N:Nat}
theorem Wne{f:Fm}(h3:f.kids.length<=3)(hN:1048576<N):Zpn N f.e=ret (WcJ f):=by
 unfold Zpn Z7 Zo;have e:f.e.2.2.2.2.2.2.2.2.2=f.kids.map Kd.e:=rfl;rw[e];have hl:(f.kids.map Kd.e).length<=3:=by simpa using h3
 have h1:=Wjz (l:=f.kids.map Kd.e) (p:=λx=>x.1 !=3) (N:=N) (lp:=λn j=>Zd N (f.kids.map Kd.e) (λaq=>(some ((),(aq,())))) (λax be=>(some ((),((-1:Int),())))) n j) (K0:=λj=>some ((),(j,()))) (K1:=some ((),((-1:Int),()))) (by omega) (by omega)
  (λn j hj=>by
   simp only[Zd,WK hj,Ww hj,Ws hj,Wm (show j<4611686018427387904 by omega),Wb,Zq4,Xd])
  (λn=>by simp only[Zd,WS (Xm _),Wa])
 rw[h1];have h2:=Wmi (p:=λx:Y_KidRun=>x.1 !=3) (f.kids.map Kd.e) 0;have h3:(f.kids.map Kd.e).any (λx=>x.1 !=3)= !WcJ f:=by
  unfold WcJ;rw[List.any_map,←Wbo];have:((λx:Y_KidRun=>x.1 !=3)∘Kd.e)= λx:Kd=>!decide (x.phase=3):=by
   funext x;show(x.phase !=3)= !decide (x.phase=3);by_cases h:x.phase=3<;>simp[h]
  rw[this]
 rw[h3]at h2;cases hf:fnd (λx:Y_KidRun=>x.1 !=3) (f.kids.map Kd.e) 0 with
 |some r=>
  rw[hf]at h2;simp only[Xd,We (show((r.1:Int)>=0) by omega),Xk,ret];rw[show WcJ f=false by simpa using h2.symm]
 |none=>
  rw[hf]at h2;rw[show WcJ f=true by simpa using h2.symm];rfl
theorem WmV{f:Fm}(h:f.buf.length<=1000)(hN:1048576<N):Zjq N f.e=ret (Whh f):=by
 unfold Zjq;have e:f.e.2.2.2.2.2.2.1=f.buf:=rfl;rw[e];have h1:=Wx (l:=f.buf) (V:=List Rw) (R:=Unit×(List Rw×Unit)) (lp:=λn j v=>Zda N f.buf (Wg f.buf) (λt9 ar aA=>(some ((),(aA,())))) n j v) (n:=N) (by omega)
  (body:=λj x v k=>bif Wz (v.length+ [(x.1,x.2.1)].length)then k (Xh v [(x.1,x.2.1)])else none) (K:=λ_ v=>ret v)
  (λn i v hi=>by simp only[Zda,WK hi,Ww hi,Ws hi,Wm (show i<4611686018427387904 by omega),Wb])
  (λn v=>by simp only[Zda,WS (Xm f.buf.length),Wa]) []
 refine h1.trans ?_;rw[Wca (f:=λx:En=>(x.1,x.2.1)) f.buf 0 [] (by simp;omega) (λj x v k _=>rfl)];rfl
theorem Wmz{f:Fm}(hr:Vals 4 f.regs)(h3:f.kids.length<=3)(hx:∀x∈f.kids,x.regs.length<=1000)(hN:1048576<N):Zjp N f.e=ret (Wf4 f):=by
 unfold Zjp Wf4;have e:f.e.2.2.2.2.1=f.regs:=rfl;have e2:f.e.2.2.2.2.2.2.2.2.2=f.kids.map Kd.e:=rfl;have mf:WcT f.regs=true:=Wco.2 hr;have hl:=hr.len;have hm:(f.kids.map Kd.e).length=f.kids.length:=by simp
 rw[e,e2,WdA (by omega) hN,Wf ⟨mf,h3⟩];simp only[ret,Xd,mf,Xk,Wa];rw[Wj (by unfold Wg;omega),Wbt (by omega)];simp only[ret,Xd,Wa];have h1:=Wx (l:=f.kids.map Kd.e) (V:=List Int) (R:=Unit×(List Int×Unit)) (lp:=λn j v=>Zba N (f.kids.map Kd.e) (Wg (f.kids.map Kd.e)) (λcw gr ca=>(some ((),(ca,())))) n j v) (n:=N) (by omega)
  (body:=λj x v k=>bif inb j v.length then(bif x.2.2.2.2.2.1==(1:Int)then((Z6 N (P6 x) (4:Int)).bind λcj=>(bif cj.2.1 then(bif inb 0 (P6 x).length then(bif inb j (Xe v j.toNat 0).length then k (Xe (Xe v j.toNat 0) j.toNat (Xc (P6 x) (Xa (0:Int)) 0))else none)else none)else k (Xe v j.toNat 0)))else k (Xe v j.toNat 0))else none) (K:=λ_ v=>ret v)
  (λn i v hi=>by simp only[Zba,Wk,WK hi,Ww hi,Ws hi,Wm (show i<4611686018427387904 by omega),Wb];rfl)
  (λn v=>by simp only[Zba,WS (Xm _),Wa]) f.regs
 refine h1.trans ?_;have h2:=Whp (β:=Int) (K:=λ_ v=>ret v) (f:=λx:Y_KidRun=>if P5 x=1/\WcT (P6 x)=true then WbQ (P6 x) 0 0 else 0) (f.kids.map Kd.e) [] f.regs (by omega) (body:=λj x v k=>bif inb j v.length then(bif x.2.2.2.2.2.1==(1:Int)then((Z6 N (P6 x) (4:Int)).bind λcj=>(bif cj.2.1 then(bif inb 0 (P6 x).length then(bif inb j (Xe v j.toNat 0).length then k (Xe (Xe v j.toNat 0) j.toNat (Xc (P6 x) (Xa (0:Int)) 0))else none)else none)else k (Xe v j.toNat 0)))else k (Xe v j.toNat 0))else none)
  (λj x v k vU hj=>by
   obtain⟨y,hy,rfl⟩:=Xw.1 vU;have Ao:=hx y hy;have p5:(Kd.e y).2.2.2.2.2.1=y.out:=rfl;have vW:P5 (Kd.e y)=y.out:=rfl;have p6:P6 (Kd.e y)=y.regs:=rfl;simp only[p5,vW,p6,WF,We hj,Wb,WdA (show y.regs.length<=1048576 by omega) hN,ret,Xd,Wv,Xl,Xat];by_cases h1:y.out=1
   .rw[Wf h1];cases mf:WcT y.regs
    .rw[Wc (by simp)];rfl
    .have:y.regs.length=4:=(Wco.1 mf).len;rw[Wf ⟨h1,rfl⟩,show inb (0:Int) y.regs.length=true by rw[this];rfl];simp only[Wb,Xct];rfl
   .rw[Wc h1,Wc (λh=>h1 h.1)])
 simp only[Xbz,Xbe,Xu,List.map_map]at h2;exact h2
theorem Wj9{rv:Int}{regs:List Int}{writes:List Rw}{kids:Nat}(hr:regs.length<=1000)(hw:writes.length<=1000)(hk:kids<=3)(hN:1048576<N):
  Zip N rv regs writes (kids:Int)=ret (Wde rv regs writes kids).e:=by
 unfold Zip;rw[Wbt (by omega),Wer (by omega) hN];have hn:=Wc0 writes;simp only[ret,Xd];have h1:=Wx (l:=WcU writes) (V:=List En) (R:=Unit×(Y_Family×Unit)) (lp:=λn j v=>Zcr N regs kids (Wg (WcU writes)) rv (WcU writes) regs (λt25 uM dt=>
  (Zay N regs kids rv regs (WcU writes) dt
 (λoJ t50 iu=>
  (some ((),((rv,((0:Int),((0:Int),(false,(regs,(WcU writes,(dt,(([]:List Int),(([]:List Kc),iu))))))))),()))))
 N (0:Int) ([]:List Y_KidRun))) n j v) (n:=N) (by omega)
  (body:=λj x v k=>bif Wz (v.length+ [(x.1,(x.2,(0:Int)))].length)then k (Xh v [(x.1,(x.2,(0:Int)))])else none) (K:=λ_ dt=>(Zay N regs kids rv regs (WcU writes) dt
 (λoJ t50 iu=>
  (some ((),((rv,((0:Int),((0:Int),(false,(regs,(WcU writes,(dt,(([]:List Int),(([]:List Kc),iu))))))))),()))))
 N (0:Int) ([]:List Y_KidRun)))
  (λn i v hi=>by simp only[Zcr,WK hi,Ww hi,Ws hi,Wm (show i<4611686018427387904 by omega),Wb])
  (λn v=>by simp only[Zcr,WS (Xm _),Wa]) []
 refine h1.trans ?_;rw[Wca (f:=λx:Rw=>(x.1,(x.2,(0:Int)))) (WcU writes) 0 [] (by simp;omega) (λj x v k _=>rfl)];simp only[Xbe];obtain⟨b,hb⟩:∃b,(WcU writes).map (λx:Rw=>(x.1,(x.2,(0:Int))))=b:=⟨_,rfl⟩;rw[hb];have lp:∀(d j n:Nat) (v:List Y_KidRun),j+d=kids->d<n->v=Xp j (Kd.e {regs:=regs})->Zay N regs kids rv regs (WcU writes) b (λoJ t50 iu=>(some ((),((rv,((0:Int),((0:Int),(false,(regs,(WcU writes,(b,(([]:List Int),(([]:List Kc),iu))))))))),())))) n (j:Int) v=some ((),((rv,((0:Int),((0:Int),(false,(regs,(WcU writes,(b,(([]:List Int),(([]:List Kc),Xp kids (Kd.e {regs:=regs})))))))))),())):=by
  intro d
  induction d with
  |zero=>
   intro j n v hj hn hv;obtain⟨n,rfl⟩:∃n',n=n'+1:=⟨n-1,by omega⟩;have:j=kids:=by omega
   subst this;simp only[Zay,Int.lt_irrefl,decide_false,Wa,hv]
  |succ d ih=>
   intro j n v hj hn hv;obtain⟨n,rfl⟩:∃n',n=n'+1:=⟨n-1,by omega⟩;have ac:(j:Int)<(kids:Int):=by omega
   have sy:v.length=j:=by rw[hv];simp
   simp only[Zay,We ac,Wb,Wbt (show regs.length<=1048576 by omega),ret,Xd];rw[Wq (by simp;omega)];simp only[Wb];rw[Wm (by omega)];refine ih (j+1) n _ (by omega) (by omega) ?_;rw[hv,List.replicate_succ'];rfl
 have:=lp kids 0 N [] (by omega) (by omega) rfl;refine this.trans ?_;unfold Wde Fm.e;simp only[List.map_replicate,hb]
end
end Go.Sx
