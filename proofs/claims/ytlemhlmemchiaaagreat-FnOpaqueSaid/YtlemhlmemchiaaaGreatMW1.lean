/- Plain laws of the Lean functions. -/
import Derived.Test.YtlemhlmemchiaaaGreatT2
open Option renaming bind_some→Xd
open Nat renaming le_refl→Xn,add_assoc→Xas,add_comm→Xcq,zero_add→Xba,le_trans→Xcr,add_zero→Xbb,and_le_right→Xgu
open List renaming mem_cons_self→Xh,mem_cons_of_mem→Xe,length_cons→Xw,take_succ_eq_append_getElem→Xbk,map_append→Xr,getD→Xb,take_of_length_le→Xbx,length→Xc,length_append→Xae,length_dropLast→Xez,append_inj'→Xep,eq_nil_of_length_eq_zero→Xad,dropLast_concat→Xew,append→Xf,append_eq→Xai,all_eq_true→Xak,mem_cons→Xq,getElem_mem→Xo,getD_eq_getElem?_getD→Xac,getElem?_eq_none→Xbg,length_set→Xaf,set_set→Xej,take→Xav,length_take→Xal,set→Xm,pairwise_cons→Xz,mergeSort_perm→Xge,getElem_of_mem→Xbs,pairwise_iff_getElem→Xaq,getElem_set→Xao,mem_iff_getElem→Xco,mem_singleton→Xx,range→Xdl,map_cons→Xam,map_nil→Xcg,range'→Xgs,mem_range'_1→Xgr,length_map→Xy
open Bool renaming false_or→Xct,or_eq_true→Xcl,and_eq_true→Xi,not_eq_true'→Xar,not_eq_true→Xfs,not_true→Xs,toNat_false→Xdn,false_and→Xcw,true_and→Xbt,toNat_true→Xgw,eq_false_iff→Xca,or_eq_false_iff→Xdz,not_eq_false'→Xfg
open Int renaming toNat_natCast→Xj,toNat→Xa,add_zero→Xfr,tmod_eq_emod_of_nonneg→Xec,eq_ofNat_of_zero_le→Xft
namespace Go.Sx
set_option linter.unusedVariables false
set_option linter.unusedSimpArgs false
section
def Wbh(v:Int):Bool:=decide (0<=v)&&decide (v<=65535)
theorem WcS{N:Nat}{x a b:Int}:Zbd N x a b=ret (decide (a<=x)&&decide (x<=b)):=by
 unfold Zbd;by_cases h:a<=x<;>simp[h]
theorem Wk{N:Nat}{x a b:Int}:Zl N x a b=ret (decide (a<=x)&&decide (x<=b)):=by
 unfold Zl;by_cases h:a<=x<;>simp[h]
theorem Wb1{α:Type}{p:α->Bool}(l:List α):(l.any λx=>!p x)= !l.all p:=by
 induction l with
 |nil=>rfl
 |cons x l ih=>simp[ih,Bool.not_and]
abbrev Rw:=Int×Int
def W2(v:Int):Bool:=decide (0<=v)&&decide (v<=7)
def WhX(r:Rw):Bool:=W2 r.1&&Wbh r.2
def WaL(l:List Rw):Bool:=decide (l.length<=300)&&l.all WhX
def Wd1(l:List Int):Bool:=decide (l.length=8)&&l.all Wbh
theorem WJ{N:Nat}{v:Int}:Zg7 N v=ret (Wbh v):=by
 unfold Zg7;simp only[WcS,ret,Xd];rfl
theorem Wp{N:Nat}{v:Int}:Za0 N v=ret (Wbh v):=by
 unfold Za0;simp only[Wk,ret,Xd];rfl
theorem WI{N:Nat}{v:Int}:Zcc N v=ret (W2 v):=by
 unfold Zcc;simp only[WcS,ret,Xd];rfl
theorem Wn{N:Nat}{v:Int}:Zau N v=ret (W2 v):=by
 unfold Zau;simp only[Wk,ret,Xd];rfl
theorem Wcm{N:Nat}{l:List Int}(hl:l.length<=1048576)(hN:1048576<N):Zc8 N l=ret (Wd1 l):=by
 unfold Zc8 Wd1;by_cases h:l.length=8
 .have e:(Wb l !=8)=false:=by simp[Wb,h]
  rw[e];simp only[cond_false];have h1:=Wq (l:=l) (V:=Unit) (R:=Unit×Ko) (lp:=λn j v=>Zdk N l (some ((),(false,()))) (λi8 t9=>some ((),(true,()))) n j) (n:=N) (by omega)
   (body:=λj x v k=>bif !Wbh x then some ((),(false,()))else k v) (K:=λ_ v=>some ((),(true,())))
   (λn i v hi=>by simp only[Zdk,WN hi,Wg hi,Wj hi,Wf (show i<4611686018427387904 by omega),cond_true,WJ,ret,Xd])
   (λn v=>by simp only[Zdk,WV (Xn l.length),cond_false]) ()
  refine h1.trans ?_;rw[Was (p:=λx=>!Wbh x) (E:=λ_=>some ((),(false,()))) l 0 () (λj x v k _=>rfl),Wb1];cases l.all Wbh<;>simp[h]
 .have e:(Wb l !=8)=true:=by simp[Wb];omega
  rw[e];simp[h]
theorem Wcb{N:Nat}{l:List Int}(hl:l.length<=1048576)(hN:1048576<N):Zab N l 8=ret (Wd1 l):=by
 unfold Zab Wd1;have h1:=Wq (l:=l) (V:=Unit) (R:=Unit×Ko) (lp:=λn j v=>Za3 N l 8 (some ((),(false,()))) (λi8 t9=>some ((),((Wb l)==(8:Int),()))) n j) (n:=N) (by omega)
  (body:=λj x v k=>bif !Wbh x then some ((),(false,()))else k v) (K:=λ_ v=>some ((),((Wb l)==(8:Int),())))
  (λn i v hi=>by simp only[Za3,WN hi,Wg hi,Wj hi,Wf (show i<4611686018427387904 by omega),cond_true,Wp,ret,Xd])
  (λn v=>by simp only[Za3,WV (Xn l.length),cond_false]) ()
 refine h1.trans ?_;rw[Was (p:=λx=>!Wbh x) (E:=λ_=>some ((),(false,()))) l 0 () (λj x v k _=>rfl),Wb1];have e:((Wb l)==(8:Int))=decide (l.length=8):=by
  by_cases h:l.length=8
  .simp[Wb,h]
  .simp[Wb,h];omega
 rw[e];cases l.all Wbh<;>simp
theorem WbE{N:Nat}{l:List Rw}(hl:l.length<=1048576)(hN:1048576<N):Zcd N l=ret (WaL l):=by
 unfold Zcd WaL;by_cases h:l.length<=300
 .have e:decide (Wb l>300)=false:=by simp[Wb];omega
  rw[e];simp only[cond_false];have h1:=Wq (l:=l) (V:=Unit) (R:=Unit×Ko) (lp:=λn j v=>Zdl N l (some ((),(false,()))) (λi8 t9=>some ((),(true,()))) n j) (n:=N) (by omega)
   (body:=λj x v k=>bif !WhX x then some ((),(false,()))else k v) (K:=λ_ v=>some ((),(true,())))
   (λn i v hi=>by
    simp only[Zdl,WN hi,Wg hi,Wj hi,Wf (show i<4611686018427387904 by omega),cond_true,WJ,WI,ret,Xd,WhX];cases W2 l[i].1<;>rfl)
   (λn v=>by simp only[Zdl,WV (Xn l.length),cond_false]) ()
  refine h1.trans ?_;rw[Was (p:=λx=>!WhX x) (E:=λ_=>some ((),(false,()))) l 0 () (λj x v k _=>rfl),Wb1];cases l.all WhX<;>simp[h]
 .have e:decide (Wb l>300)=true:=by simp[Wb];omega
  rw[e];simp[h]
theorem Wak{N:Nat}{l:List Rw}(hl:l.length<=1048576)(hN:1048576<N):Za7 N l=ret (WaL l):=by
 unfold Za7 WaL;have h1:=Wq (l:=l) (V:=Unit) (R:=Unit×Ko) (lp:=λn j v=>Zdn N l (some ((),(false,()))) (λi8 t9=>some ((),(decide ((Wb l)<=(300:Int)),()))) n j) (n:=N) (by omega)
  (body:=λj x v k=>bif !WhX x then some ((),(false,()))else k v) (K:=λ_ v=>some ((),(decide ((Wb l)<=(300:Int)),())))
  (λn i v hi=>by
   simp only[Zdn,WN hi,Wg hi,Wj hi,Wf (show i<4611686018427387904 by omega),cond_true,Wp,Wn,ret,Xd,WhX];cases W2 l[i].1<;>rfl)
  (λn v=>by simp only[Zdn,WV (Xn l.length),cond_false]) ()
 refine h1.trans ?_;rw[Was (p:=λx=>!WhX x) (E:=λ_=>some ((),(false,()))) l 0 () (λj x v k _=>rfl),Wb1];have e:decide (Wb l<=300)=decide (l.length<=300):=by apply decide_eq_decide.2;simp[Wb];omega
 rw[e];cases l.all WhX<;>simp
theorem WsW{α:Type}{l:List α}(h:l.length<=1048576):WA l.length=true:=by unfold WA;simp;omega
end
section
abbrev Opn:=Int×Int×Int×Int
def Wi(v:Int):Bool:=decide (0<=v)&&decide (v<=3)
def WbX(v:Int):Bool:=decide (0<=v)&&decide (v<=7)
theorem WR{N:Nat}{v:Int}:Zs N v=ret (Wi v):=by
 unfold Zs;simp only[WcS,ret,Xd];rfl
theorem WS{N:Nat}{v:Int}:Zt N v=ret (Wi v):=by
 unfold Zt;simp only[Wk,ret,Xd];rfl
theorem WQ{N:Nat}{v:Int}:Za5 N v=ret (WbX v):=by
 unfold Za5;simp only[Wk,ret,Xd];rfl
theorem Wbp{v:Int}:(decide ((0:Int)<=v)&&decide (v<=7))=WbX v:=rfl
def Wan(o:Opn):Bool:=
 bif o.1==1 then Wi o.2.1&&Wbh o.2.2.1&&(o.2.2.2==(0:Int))else
 bif o.1==2 then Wi o.2.1&&Wi o.2.2.1&&Wi o.2.2.2 else
 bif o.1==3 then Wi o.2.1&&Wi o.2.2.1&&Wi o.2.2.2 else
 bif o.1==4 then Wi o.2.1&&Wi o.2.2.1&&Wi o.2.2.2 else
 bif o.1==5 then Wi o.2.1&&W2 o.2.2.1&&(o.2.2.2==(0:Int))else
 bif o.1==6 then W2 o.2.1&&Wi o.2.2.1&&(o.2.2.2==(0:Int))else
 bif o.1==7 then Wi o.2.1&&(decide (1<=o.2.2.1)&&decide (o.2.2.1<=20))&&(o.2.2.2==(0:Int))else
 bif o.1==8 then Wi o.2.1&&(o.2.2.1==(0:Int))&&(o.2.2.2==(0:Int))else
 bif o.1==9 then(o.2.1==(0:Int))&&(o.2.2.1==(0:Int))&&(o.2.2.2==(0:Int))else
 bif o.1==10 then(o.2.1==(0:Int))&&(o.2.2.1==(0:Int))&&(o.2.2.2==(0:Int))else
 bif o.1==11 then(o.2.1==(0:Int))&&(o.2.2.1==(0:Int))&&(o.2.2.2==(0:Int))else
 bif o.1==12 then WbX o.2.1&&Wi o.2.2.1&&Wi o.2.2.2 else
 bif o.1==13 then Wi o.2.1&&WbX o.2.2.1&&(o.2.2.2==(0:Int))else
 bif o.1==14 then WbX o.2.1&&Wi o.2.2.1&&(o.2.2.2==(0:Int))else
 bif o.1==15 then Wi o.2.1&&(o.2.2.1==(0:Int))&&(o.2.2.2==(0:Int))else
 bif o.1==16 then Wi o.2.1&&(o.2.2.1==(0:Int))&&(o.2.2.2==(0:Int))else
 false
theorem Wtd{N:Nat}{a b c:Int}:Zp N (1,a,b,c)=ret (Wan (1,a,b,c)):=by
 have h:Zp N (1,a,b,c)=((Zs N a).bind λo=>bif o.2.1 then((Zg7 N b).bind λo=>bif o.2.1 then some ((),(c==(0:Int),()))else some ((),(false,())))else some ((),(false,()))):=by kernel_rfl
 have h2:Wan (1,a,b,c)=(Wi a&&Wbh b&&(c==(0:Int))):=rfl;rw[h,h2];simp only[WR,WJ,WI,WcS,Wbp,ret,Xd];cases Wi a<;>cases Wbh b<;>rfl
theorem Wsw{N:Nat}{a b c:Int}:Zp N (2,a,b,c)=ret (Wan (2,a,b,c)):=by
 have h:Zp N (2,a,b,c)=((Zs N a).bind λo=>bif o.2.1 then((Zs N b).bind λo=>bif o.2.1 then((Zs N c).bind λo=>some ((),(o.2.1,())))else some ((),(false,())))else some ((),(false,()))):=by kernel_rfl
 have h2:Wan (2,a,b,c)=(Wi a&&Wi b&&Wi c):=rfl;rw[h,h2];simp only[WR,WJ,WI,WcS,Wbp,ret,Xd];cases Wi a<;>cases Wi b<;>rfl
theorem WtF{N:Nat}{a b c:Int}:Zp N (3,a,b,c)=ret (Wan (3,a,b,c)):=by
 have h:Zp N (3,a,b,c)=((Zs N a).bind λo=>bif o.2.1 then((Zs N b).bind λo=>bif o.2.1 then((Zs N c).bind λo=>some ((),(o.2.1,())))else some ((),(false,())))else some ((),(false,()))):=by kernel_rfl
 have h2:Wan (3,a,b,c)=(Wi a&&Wi b&&Wi c):=rfl;rw[h,h2];simp only[WR,WJ,WI,WcS,Wbp,ret,Xd];cases Wi a<;>cases Wi b<;>rfl
theorem WtE{N:Nat}{a b c:Int}:Zp N (4,a,b,c)=ret (Wan (4,a,b,c)):=by
 have h:Zp N (4,a,b,c)=((Zs N a).bind λo=>bif o.2.1 then((Zs N b).bind λo=>bif o.2.1 then((Zs N c).bind λo=>some ((),(o.2.1,())))else some ((),(false,())))else some ((),(false,()))):=by kernel_rfl
 have h2:Wan (4,a,b,c)=(Wi a&&Wi b&&Wi c):=rfl;rw[h,h2];simp only[WR,WJ,WI,WcS,Wbp,ret,Xd];cases Wi a<;>cases Wi b<;>rfl
theorem WsE{N:Nat}{a b c:Int}:Zp N (5,a,b,c)=ret (Wan (5,a,b,c)):=by
 have h:Zp N (5,a,b,c)=((Zs N a).bind λo=>bif o.2.1 then((Zcc N b).bind λo=>bif o.2.1 then some ((),(c==(0:Int),()))else some ((),(false,())))else some ((),(false,()))):=by kernel_rfl
 have h2:Wan (5,a,b,c)=(Wi a&&W2 b&&(c==(0:Int))):=rfl;rw[h,h2];simp only[WR,WJ,WI,WcS,Wbp,ret,Xd];cases Wi a<;>cases W2 b<;>rfl
theorem WsL{N:Nat}{a b c:Int}:Zp N (6,a,b,c)=ret (Wan (6,a,b,c)):=by
 have h:Zp N (6,a,b,c)=((Zcc N a).bind λo=>bif o.2.1 then((Zs N b).bind λo=>bif o.2.1 then some ((),(c==(0:Int),()))else some ((),(false,())))else some ((),(false,()))):=by kernel_rfl
 have h2:Wan (6,a,b,c)=(W2 a&&Wi b&&(c==(0:Int))):=rfl;rw[h,h2];simp only[WR,WJ,WI,WcS,Wbp,ret,Xd];cases W2 a<;>cases Wi b<;>rfl
theorem Wtk{N:Nat}{a b c:Int}:Zp N (7,a,b,c)=ret (Wan (7,a,b,c)):=by
 have h:Zp N (7,a,b,c)=((Zs N a).bind λo=>bif o.2.1 then((Zbd N b 1 20).bind λo=>bif o.2.1 then some ((),(c==(0:Int),()))else some ((),(false,())))else some ((),(false,()))):=by kernel_rfl
 have h2:Wan (7,a,b,c)=(Wi a&&(decide (1<=b)&&decide (b<=20))&&(c==(0:Int))):=rfl;rw[h,h2];simp only[WR,WJ,WI,WcS,Wbp,ret,Xd];cases Wi a<;>cases(decide (1<=b)&&decide (b<=20))<;>rfl
theorem Wsh{N:Nat}{a b c:Int}:Zp N (8,a,b,c)=ret (Wan (8,a,b,c)):=by
 have h:Zp N (8,a,b,c)=((Zs N a).bind λo=>bif o.2.1 then(bif b==(0:Int)then some ((),(c==(0:Int),()))else some ((),(false,())))else some ((),(false,()))):=by kernel_rfl
 have h2:Wan (8,a,b,c)=(Wi a&&(b==(0:Int))&&(c==(0:Int))):=rfl;rw[h,h2];simp only[WR,WJ,WI,WcS,Wbp,ret,Xd];cases Wi a<;>cases(b==(0:Int))<;>rfl
theorem WsZ{N:Nat}{a b c:Int}:Zp N (9,a,b,c)=ret (Wan (9,a,b,c)):=by
 have h:Zp N (9,a,b,c)=(bif a==(0:Int)then(bif b==(0:Int)then some ((),(c==(0:Int),()))else some ((),(false,())))else some ((),(false,()))):=by kernel_rfl
 have h2:Wan (9,a,b,c)=((a==(0:Int))&&(b==(0:Int))&&(c==(0:Int))):=rfl;rw[h,h2];simp only[WR,WJ,WI,WcS,Wbp,ret,Xd];cases(a==(0:Int))<;>cases(b==(0:Int))<;>rfl
theorem WrX{N:Nat}{a b c:Int}:Zp N (10,a,b,c)=ret (Wan (10,a,b,c)):=by
 have h:Zp N (10,a,b,c)=(bif a==(0:Int)then(bif b==(0:Int)then some ((),(c==(0:Int),()))else some ((),(false,())))else some ((),(false,()))):=by kernel_rfl
 have h2:Wan (10,a,b,c)=((a==(0:Int))&&(b==(0:Int))&&(c==(0:Int))):=rfl;rw[h,h2];simp only[WR,WJ,WI,WcS,Wbp,ret,Xd];cases(a==(0:Int))<;>cases(b==(0:Int))<;>rfl
theorem Wq9{N:Nat}{a b c:Int}:Zp N (11,a,b,c)=ret (Wan (11,a,b,c)):=by
 have h:Zp N (11,a,b,c)=(bif a==(0:Int)then(bif b==(0:Int)then some ((),(c==(0:Int),()))else some ((),(false,())))else some ((),(false,()))):=by kernel_rfl
 have h2:Wan (11,a,b,c)=((a==(0:Int))&&(b==(0:Int))&&(c==(0:Int))):=rfl;rw[h,h2];simp only[WR,WJ,WI,WcS,Wbp,ret,Xd];cases(a==(0:Int))<;>cases(b==(0:Int))<;>rfl
theorem WqA{N:Nat}{a b c:Int}:Zp N (12,a,b,c)=ret (Wan (12,a,b,c)):=by
 have h:Zp N (12,a,b,c)=((Zbd N a 0 7).bind λo=>bif o.2.1 then((Zs N b).bind λo=>bif o.2.1 then((Zs N c).bind λo=>some ((),(o.2.1,())))else some ((),(false,())))else some ((),(false,()))):=by kernel_rfl
 have h2:Wan (12,a,b,c)=(WbX a&&Wi b&&Wi c):=rfl;rw[h,h2];simp only[WR,WJ,WI,WcS,Wbp,ret,Xd];cases WbX a<;>cases Wi b<;>rfl
theorem Wqr{N:Nat}{a b c:Int}:Zp N (13,a,b,c)=ret (Wan (13,a,b,c)):=by
 have h:Zp N (13,a,b,c)=((Zs N a).bind λo=>bif o.2.1 then((Zbd N b 0 7).bind λo=>bif o.2.1 then some ((),(c==(0:Int),()))else some ((),(false,())))else some ((),(false,()))):=by kernel_rfl
 have h2:Wan (13,a,b,c)=(Wi a&&WbX b&&(c==(0:Int))):=rfl;rw[h,h2];simp only[WR,WJ,WI,WcS,Wbp,ret,Xd];cases Wi a<;>cases WbX b<;>rfl
theorem WqD{N:Nat}{a b c:Int}:Zp N (14,a,b,c)=ret (Wan (14,a,b,c)):=by
 have h:Zp N (14,a,b,c)=((Zbd N a 0 7).bind λo=>bif o.2.1 then((Zs N b).bind λo=>bif o.2.1 then some ((),(c==(0:Int),()))else some ((),(false,())))else some ((),(false,()))):=by kernel_rfl
 have h2:Wan (14,a,b,c)=(WbX a&&Wi b&&(c==(0:Int))):=rfl;rw[h,h2];simp only[WR,WJ,WI,WcS,Wbp,ret,Xd];cases WbX a<;>cases Wi b<;>rfl
theorem WqK{N:Nat}{a b c:Int}:Zp N (15,a,b,c)=ret (Wan (15,a,b,c)):=by
 have h:Zp N (15,a,b,c)=((Zs N a).bind λo=>bif o.2.1 then(bif b==(0:Int)then some ((),(c==(0:Int),()))else some ((),(false,())))else some ((),(false,()))):=by kernel_rfl
 have h2:Wan (15,a,b,c)=(Wi a&&(b==(0:Int))&&(c==(0:Int))):=rfl;rw[h,h2];simp only[WR,WJ,WI,WcS,Wbp,ret,Xd];cases Wi a<;>cases(b==(0:Int))<;>rfl
theorem WrF{N:Nat}{a b c:Int}:Zp N (16,a,b,c)=ret (Wan (16,a,b,c)):=by
 have h:Zp N (16,a,b,c)=((Zs N a).bind λo=>bif o.2.1 then(bif b==(0:Int)then some ((),(c==(0:Int),()))else some ((),(false,())))else some ((),(false,()))):=by kernel_rfl
 have h2:Wan (16,a,b,c)=(Wi a&&(b==(0:Int))&&(c==(0:Int))):=rfl;rw[h,h2];simp only[WR,WJ,WI,WcS,Wbp,ret,Xd];cases Wi a<;>cases(b==(0:Int))<;>rfl
theorem Wdr{N:Nat}{o:Opn}:Zp N o=ret (Wan o):=by
 obtain⟨k,a,b,c⟩:=o;by_cases h1:k=1
 .subst h1;exact Wtd
 by_cases h2:k=2
 .subst h2;exact Wsw
 by_cases h3:k=3
 .subst h3;exact WtF
 by_cases h4:k=4
 .subst h4;exact WtE
 by_cases h5:k=5
 .subst h5;exact WsE
 by_cases h6:k=6
 .subst h6;exact WsL
 by_cases h7:k=7
 .subst h7;exact Wtk
 by_cases h8:k=8
 .subst h8;exact Wsh
 by_cases h9:k=9
 .subst h9;exact WsZ
 by_cases ca:k=10
 .subst ca;exact WrX
 by_cases dr:k=11
 .subst dr;exact Wq9
 by_cases dM:k=12
 .subst dM;exact WqA
 by_cases iY:k=13
 .subst iY;exact Wqr
 by_cases mz:k=14
 .subst mz;exact WqD
 by_cases h15:k=15
 .subst h15;exact WqK
 by_cases kg:k=16
 .subst kg;exact WrF
 have e1:(k==(1:Int))=false:=by simpa using h1
 have e2:(k==(2:Int))=false:=by simpa using h2
 have e3:(k==(3:Int))=false:=by simpa using h3
 have e4:(k==(4:Int))=false:=by simpa using h4
 have e5:(k==(5:Int))=false:=by simpa using h5
 have e6:(k==(6:Int))=false:=by simpa using h6
 have e7:(k==(7:Int))=false:=by simpa using h7
 have e8:(k==(8:Int))=false:=by simpa using h8
 have e9:(k==(9:Int))=false:=by simpa using h9
 have iQ:(k==(10:Int))=false:=by simpa using ca
 have jC:(k==(11:Int))=false:=by simpa using dr
 have kh:(k==(12:Int))=false:=by simpa using dM
 have eI:(k==(13:Int))=false:=by simpa using iY
 have iR:(k==(14:Int))=false:=by simpa using mz
 have tR:(k==(15:Int))=false:=by simpa using h15
 have tS:(k==(16:Int))=false:=by simpa using kg
 unfold Zp Wan;simp only[];rw[e1,e2,e3,e4,e5,e6,e7,e8,e9,iQ,jC,kh,eI,iR,tR,tS];rfl
theorem Wtc{N:Nat}{a b c:Int}:Zo N (1,a,b,c)=ret (Wan (1,a,b,c)):=by
 have h:Zo N (1,a,b,c)=((Zt N a).bind λo=>bif o.2.1 then((Za0 N b).bind λo=>bif o.2.1 then some ((),(c==(0:Int),()))else some ((),(false,())))else some ((),(false,()))):=by kernel_rfl
 have h2:Wan (1,a,b,c)=(Wi a&&Wbh b&&(c==(0:Int))):=rfl;rw[h,h2];simp only[WS,Wp,Wn,WQ,Wk,Wbp,ret,Xd];cases Wi a<;>cases Wbh b<;>rfl
theorem Wsy{N:Nat}{a b c:Int}:Zo N (2,a,b,c)=ret (Wan (2,a,b,c)):=by
 have h:Zo N (2,a,b,c)=((Zt N a).bind λo=>bif o.2.1 then((Zt N b).bind λo=>bif o.2.1 then((Zt N c).bind λo=>some ((),(o.2.1,())))else some ((),(false,())))else some ((),(false,()))):=by kernel_rfl
 have h2:Wan (2,a,b,c)=(Wi a&&Wi b&&Wi c):=rfl;rw[h,h2];simp only[WS,Wp,Wn,WQ,Wk,Wbp,ret,Xd];cases Wi a<;>cases Wi b<;>rfl
theorem Wtu{N:Nat}{a b c:Int}:Zo N (3,a,b,c)=ret (Wan (3,a,b,c)):=by
 have h:Zo N (3,a,b,c)=((Zt N a).bind λo=>bif o.2.1 then((Zt N b).bind λo=>bif o.2.1 then((Zt N c).bind λo=>some ((),(o.2.1,())))else some ((),(false,())))else some ((),(false,()))):=by kernel_rfl
 have h2:Wan (3,a,b,c)=(Wi a&&Wi b&&Wi c):=rfl;rw[h,h2];simp only[WS,Wp,Wn,WQ,Wk,Wbp,ret,Xd];cases Wi a<;>cases Wi b<;>rfl
theorem Wsu{N:Nat}{a b c:Int}:Zo N (4,a,b,c)=ret (Wan (4,a,b,c)):=by
 have h:Zo N (4,a,b,c)=((Zt N a).bind λo=>bif o.2.1 then((Zt N b).bind λo=>bif o.2.1 then((Zt N c).bind λo=>some ((),(o.2.1,())))else some ((),(false,())))else some ((),(false,()))):=by kernel_rfl
 have h2:Wan (4,a,b,c)=(Wi a&&Wi b&&Wi c):=rfl;rw[h,h2];simp only[WS,Wp,Wn,WQ,Wk,Wbp,ret,Xd];cases Wi a<;>cases Wi b<;>rfl
theorem Wtx{N:Nat}{a b c:Int}:Zo N (5,a,b,c)=ret (Wan (5,a,b,c)):=by
 have h:Zo N (5,a,b,c)=((Zt N a).bind λo=>bif o.2.1 then((Zau N b).bind λo=>bif o.2.1 then some ((),(c==(0:Int),()))else some ((),(false,())))else some ((),(false,()))):=by kernel_rfl
 have h2:Wan (5,a,b,c)=(Wi a&&W2 b&&(c==(0:Int))):=rfl;rw[h,h2];simp only[WS,Wp,Wn,WQ,Wk,Wbp,ret,Xd];cases Wi a<;>cases W2 b<;>rfl
theorem Wso{N:Nat}{a b c:Int}:Zo N (6,a,b,c)=ret (Wan (6,a,b,c)):=by
 have h:Zo N (6,a,b,c)=((Zau N a).bind λo=>bif o.2.1 then((Zt N b).bind λo=>bif o.2.1 then some ((),(c==(0:Int),()))else some ((),(false,())))else some ((),(false,()))):=by kernel_rfl
 have h2:Wan (6,a,b,c)=(W2 a&&Wi b&&(c==(0:Int))):=rfl;rw[h,h2];simp only[WS,Wp,Wn,WQ,Wk,Wbp,ret,Xd];cases W2 a<;>cases Wi b<;>rfl
theorem WsC{N:Nat}{a b c:Int}:Zo N (7,a,b,c)=ret (Wan (7,a,b,c)):=by
 have h:Zo N (7,a,b,c)=((Zt N a).bind λo=>bif o.2.1 then((Zl N b 1 20).bind λo=>bif o.2.1 then some ((),(c==(0:Int),()))else some ((),(false,())))else some ((),(false,()))):=by kernel_rfl
 have h2:Wan (7,a,b,c)=(Wi a&&(decide (1<=b)&&decide (b<=20))&&(c==(0:Int))):=rfl;rw[h,h2];simp only[WS,Wp,Wn,WQ,Wk,Wbp,ret,Xd];cases Wi a<;>cases(decide (1<=b)&&decide (b<=20))<;>rfl
theorem Wtw{N:Nat}{a b c:Int}:Zo N (8,a,b,c)=ret (Wan (8,a,b,c)):=by
 have h:Zo N (8,a,b,c)=((Zt N a).bind λo=>bif o.2.1 then(bif b==(0:Int)then some ((),(c==(0:Int),()))else some ((),(false,())))else some ((),(false,()))):=by kernel_rfl
 have h2:Wan (8,a,b,c)=(Wi a&&(b==(0:Int))&&(c==(0:Int))):=rfl;rw[h,h2];simp only[WS,Wp,Wn,WQ,Wk,Wbp,ret,Xd];cases Wi a<;>cases(b==(0:Int))<;>rfl
theorem Ws2{N:Nat}{a b c:Int}:Zo N (9,a,b,c)=ret (Wan (9,a,b,c)):=by
 have h:Zo N (9,a,b,c)=(bif a==(0:Int)then(bif b==(0:Int)then some ((),(c==(0:Int),()))else some ((),(false,())))else some ((),(false,()))):=by kernel_rfl
 have h2:Wan (9,a,b,c)=((a==(0:Int))&&(b==(0:Int))&&(c==(0:Int))):=rfl;rw[h,h2];simp only[WS,Wp,Wn,WQ,Wk,Wbp,ret,Xd];cases(a==(0:Int))<;>cases(b==(0:Int))<;>rfl
theorem Wqv{N:Nat}{a b c:Int}:Zo N (10,a,b,c)=ret (Wan (10,a,b,c)):=by
 have h:Zo N (10,a,b,c)=(bif a==(0:Int)then(bif b==(0:Int)then some ((),(c==(0:Int),()))else some ((),(false,())))else some ((),(false,()))):=by kernel_rfl
 have h2:Wan (10,a,b,c)=((a==(0:Int))&&(b==(0:Int))&&(c==(0:Int))):=rfl;rw[h,h2];simp only[WS,Wp,Wn,WQ,Wk,Wbp,ret,Xd];cases(a==(0:Int))<;>cases(b==(0:Int))<;>rfl
theorem Wre{N:Nat}{a b c:Int}:Zo N (11,a,b,c)=ret (Wan (11,a,b,c)):=by
 have h:Zo N (11,a,b,c)=(bif a==(0:Int)then(bif b==(0:Int)then some ((),(c==(0:Int),()))else some ((),(false,())))else some ((),(false,()))):=by kernel_rfl
 have h2:Wan (11,a,b,c)=((a==(0:Int))&&(b==(0:Int))&&(c==(0:Int))):=rfl;rw[h,h2];simp only[WS,Wp,Wn,WQ,Wk,Wbp,ret,Xd];cases(a==(0:Int))<;>cases(b==(0:Int))<;>rfl
theorem Wr6{N:Nat}{a b c:Int}:Zo N (12,a,b,c)=ret (Wan (12,a,b,c)):=by
 have h:Zo N (12,a,b,c)=((Za5 N a).bind λo=>bif o.2.1 then((Zt N b).bind λo=>bif o.2.1 then((Zt N c).bind λo=>some ((),(o.2.1,())))else some ((),(false,())))else some ((),(false,()))):=by kernel_rfl
 have h2:Wan (12,a,b,c)=(WbX a&&Wi b&&Wi c):=rfl;rw[h,h2];simp only[WS,Wp,Wn,WQ,Wk,Wbp,ret,Xd];cases WbX a<;>cases Wi b<;>rfl
theorem WrL{N:Nat}{a b c:Int}:Zo N (13,a,b,c)=ret (Wan (13,a,b,c)):=by
 have h:Zo N (13,a,b,c)=((Zt N a).bind λo=>bif o.2.1 then((Za5 N b).bind λo=>bif o.2.1 then some ((),(c==(0:Int),()))else some ((),(false,())))else some ((),(false,()))):=by kernel_rfl
 have h2:Wan (13,a,b,c)=(Wi a&&WbX b&&(c==(0:Int))):=rfl;rw[h,h2];simp only[WS,Wp,Wn,WQ,Wk,Wbp,ret,Xd];cases Wi a<;>cases WbX b<;>rfl
theorem Wp5{N:Nat}{a b c:Int}:Zo N (14,a,b,c)=ret (Wan (14,a,b,c)):=by
 have h:Zo N (14,a,b,c)=((Za5 N a).bind λo=>bif o.2.1 then((Zt N b).bind λo=>bif o.2.1 then some ((),(c==(0:Int),()))else some ((),(false,())))else some ((),(false,()))):=by kernel_rfl
 have h2:Wan (14,a,b,c)=(WbX a&&Wi b&&(c==(0:Int))):=rfl;rw[h,h2];simp only[WS,Wp,Wn,WQ,Wk,Wbp,ret,Xd];cases WbX a<;>cases Wi b<;>rfl
theorem Wqc{N:Nat}{a b c:Int}:Zo N (15,a,b,c)=ret (Wan (15,a,b,c)):=by
 have h:Zo N (15,a,b,c)=((Zt N a).bind λo=>bif o.2.1 then(bif b==(0:Int)then some ((),(c==(0:Int),()))else some ((),(false,())))else some ((),(false,()))):=by kernel_rfl
 have h2:Wan (15,a,b,c)=(Wi a&&(b==(0:Int))&&(c==(0:Int))):=rfl;rw[h,h2];simp only[WS,Wp,Wn,WQ,Wk,Wbp,ret,Xd];cases Wi a<;>cases(b==(0:Int))<;>rfl
theorem Wp7{N:Nat}{a b c:Int}:Zo N (16,a,b,c)=ret (Wan (16,a,b,c)):=by
 have h:Zo N (16,a,b,c)=((Zt N a).bind λo=>bif o.2.1 then(bif b==(0:Int)then some ((),(c==(0:Int),()))else some ((),(false,())))else some ((),(false,()))):=by kernel_rfl
 have h2:Wan (16,a,b,c)=(Wi a&&(b==(0:Int))&&(c==(0:Int))):=rfl;rw[h,h2];simp only[WS,Wp,Wn,WQ,Wk,Wbp,ret,Xd];cases Wi a<;>cases(b==(0:Int))<;>rfl
theorem WeN{N:Nat}{o:Opn}:Zo N o=ret (Wan o):=by
 obtain⟨k,a,b,c⟩:=o;by_cases h1:k=1
 .subst h1;exact Wtc
 by_cases h2:k=2
 .subst h2;exact Wsy
 by_cases h3:k=3
 .subst h3;exact Wtu
 by_cases h4:k=4
 .subst h4;exact Wsu
 by_cases h5:k=5
 .subst h5;exact Wtx
 by_cases h6:k=6
 .subst h6;exact Wso
 by_cases h7:k=7
 .subst h7;exact WsC
 by_cases h8:k=8
 .subst h8;exact Wtw
 by_cases h9:k=9
 .subst h9;exact Ws2
 by_cases ca:k=10
 .subst ca;exact Wqv
 by_cases dr:k=11
 .subst dr;exact Wre
 by_cases dM:k=12
 .subst dM;exact Wr6
 by_cases iY:k=13
 .subst iY;exact WrL
 by_cases mz:k=14
 .subst mz;exact Wp5
 by_cases h15:k=15
 .subst h15;exact Wqc
 by_cases kg:k=16
 .subst kg;exact Wp7
 have e1:(k==(1:Int))=false:=by simpa using h1
 have e2:(k==(2:Int))=false:=by simpa using h2
 have e3:(k==(3:Int))=false:=by simpa using h3
 have e4:(k==(4:Int))=false:=by simpa using h4
 have e5:(k==(5:Int))=false:=by simpa using h5
 have e6:(k==(6:Int))=false:=by simpa using h6
 have e7:(k==(7:Int))=false:=by simpa using h7
 have e8:(k==(8:Int))=false:=by simpa using h8
 have e9:(k==(9:Int))=false:=by simpa using h9
 have iQ:(k==(10:Int))=false:=by simpa using ca
 have jC:(k==(11:Int))=false:=by simpa using dr
 have kh:(k==(12:Int))=false:=by simpa using dM
 have eI:(k==(13:Int))=false:=by simpa using iY
 have iR:(k==(14:Int))=false:=by simpa using mz
 have tR:(k==(15:Int))=false:=by simpa using h15
 have tS:(k==(16:Int))=false:=by simpa using kg
 unfold Zo Wan;simp only[];rw[e1,e2,e3,e4,e5,e6,e7,e8,e9,iQ,jC,kh,eI,iR,tR,tS];rfl
end
section
def Wm4{α:Type}(p:Nat->α->Bool):Nat->List α->Bool
 |_,[]=>false
 |j,x::l=>p j x||Wm4 p (j+1) l
theorem Wdn{α V R:Type}{body:Int->α->V->(V->Option R)->Option R}{K:Int->V->Option R}{p:Nat->α->Bool}{E:V->Option R}:∀(l:List α) (j:Nat) (v:V),(∀(j:Nat) x v k,x∈l->body j x v k=bif p j x then E v else k v)->
  WbW body K l j v=bif Wm4 p j l then E v else K ((j+l.length:Nat):Int) v
 | [],j,v,_=>rfl
 |x::l,j,v,h=>by
  rw[WbW,h j x v _ (Xh ..),Wdn l (j+1) v λj y v k hy=>h j y v k (Xe _ hy),Wm4];cases p j x
  .simp only[cond_false,Xct,Xw];rw[show j+1+l.length=j+(l.length+1) by omega]
  .rfl
theorem Wf4{α:Type}{p:Nat->α->Bool}:∀{l:List α} {j:Nat},Wm4 p j l=true↔∃i,∃h:i<l.length,p (j+i) l[i]=true
 | [],j=>by simp[Wm4]
 |x::l,j=>by
  rw[Wm4,Xcl,Wf4];constructor
  .rintro(h|⟨i,hi,h⟩)
   .exact⟨0,by simp,by simpa using h⟩
   .exact⟨i+1,by simpa using hi,by simpa [Xas,Xcq 1]using h⟩
  .rintro⟨i,hi,h⟩;cases i with
   |zero=>exact .inl (by simpa using h)
   |succ i=>exact .inr ⟨i,by simpa using hi,by simpa [Xas,Xcq 1]using h⟩
def opd(o:Opn):Int:=bif o.1==8 then 1 else bif o.1==9 then-1 else 0
theorem Wh9(o:Opn):-1<=opd o/\opd o<=1:=by unfold opd;cases o.1==8<;>cases o.1==9<;>simp
def dep(l:List Opn)(j:Nat):Int:=((l.take j).map opd).sum
theorem WcY(l:List Opn):dep l 0=0:=by simp[dep]
theorem WaT{l:List Opn}{j:Nat}(h:j<l.length):dep l (j+1)=dep l j+opd l[j]:=by
 unfold dep;rw[Xbk h,Xr,List.sum_append];simp
theorem Wh{α:Type}{l:List α}{j:Nat}(h:j<l.length)(d:α):Xb l j d=l[j]:=by simp[h]
theorem Wdk(l:List Opn):∀j:Nat,-(j:Int)<=dep l j/\dep l j<=j
 |0=>by simp[dep]
 |j+1=>by
  have ih:=Wdk l j;by_cases h:j<l.length
  .have:=Wh9 l[j];rw[WaT h];omega
  .have:dep l (j+1)=dep l j:=by unfold dep;rw[Xbx (by omega),Xbx (by omega)]
   rw[this];omega
def bal(l:List Opn):Bool:=!Wm4 (λj _=>decide (dep l (j+1)<0)) 0 l&&decide (dep l l.length=0)
theorem Wf1{N:Nat}{o:Opn}:Zj6 N o=ret (opd o):=by
 unfold Zj6 opd;cases o.1==8<;>cases o.1==9<;>rfl
theorem Wv2(x:Int):(x==(0:Int))=decide (x=0):=by by_cases h:x=0<;>simp[h]
theorem Wir{N:Nat}{l:List Opn}(hl:l.length<=1048576)(hN:1048576<N):Zdm N l=ret (bal l):=by
 unfold Zdm bal;have h1:=Wq (l:=l) (V:=Unit) (R:=Unit×Ko) (lp:=λn j _=>Zb3 N l (some ((),(false,()))) (λtp aG au=>some ((),(tp==(0:Int),()))) n (dep l j.toNat) j) (n:=N) (by omega)
  (body:=λj _ v k=>bif decide (dep l (j.toNat+1)<0)then some ((),(false,()))else k v) (K:=λj _=>some ((),(dep l j.toNat==(0:Int),())))
  (λn i v hi=>by
   have hb:=Wdk l i;have hs:=WaT hi;have ho:=Wh9 l[i];have e:We .i64 (dep l i) (opd l[i])=dep l (i+1):=by rw[WC (by unfold I64;omega),hs]
   simp only[Zb3,WN hi,Wg hi,Wj hi,Wh hi,Wf (show i<4611686018427387904 by omega),cond_true,Wf1,ret,Xd,Xj,e])
  (λn v=>by simp only[Zb3,WV (Xn l.length),cond_false]) ()
 have e0:dep l (Xa 0)=0:=WcY l;simp only[e0]at h1;refine h1.trans ?_;rw[Wdn (p:=λj _=>decide (dep l (j+1)<0)) (E:=λ_=>some ((),(false,()))) l 0 () (λj x v k _=>rfl)];rw[Xba,Xj,Wv2];cases Wm4 (λj _=>decide (dep l (j+1)<0)) 0 l<;>rfl
theorem WjL{N:Nat}{l:List Opn}(hl:l.length<=1048576)(hN:1048576<N){i:Nat}(hi:i<=l.length):Zhz N l (i:Int)=ret (dep l i):=by
 unfold Zhz;have h1:=Wq (l:=l) (V:=Unit) (R:=Unit×Ki) (lp:=λn j _=>Zb6 N (i:Int) l (λqd aY cL=>some ((),(qd,()))) n (dep l (min j.toNat i)) j) (n:=N) (by omega)
  (body:=λj _ v k=>k v) (K:=λj _=>some ((),(dep l (min j.toNat i),())))
  (λn j v hj=>by
   have hb:=Wdk l j;have ho:=Wh9 l[j];simp only[Zb6,WN hj,Wg hj,Wj hj,Wh hj,Wf (show j<4611686018427387904 by omega),cond_true,Wf1,ret,Xd,Xj];by_cases h:j<i
   .have e1:decide ((j:Int)<(i:Int))=true:=by simpa using h
    have e2:min j i=j:=by omega
    have e3:min (j+1) i=j+1:=by omega
    have e:We .i64 (dep l j) (opd l[j])=dep l (j+1):=by rw[WC (by unfold I64;omega),WaT hj]
    rw[e1,e2,e3,e];rfl
   .have e1:decide ((j:Int)<(i:Int))=false:=by simp;omega
    have e2:min j i=i:=by omega
    have e3:min (j+1) i=i:=by omega
    rw[e1,e2,e3];rfl)
  (λn v=>by simp only[Zb6,WV (Xn l.length),cond_false]) ()
 have e0:dep l (min (Xa 0) i)=0:=by
  have:min (Xa 0) i=0:=by simp
  rw[this];exact WcY l
 simp only[e0]at h1;refine h1.trans ?_;rw[Wa9 (f:=λv _=>v) l 0 () (λj x v k _=>rfl),Xba,Xj,Nat.min_eq_right hi]
theorem Wno{N:Nat}{l:List Opn}{a b:Nat}(d9:a<=b)(hb:b<=l.length)(hl:l.length<=1048576)(hN:1048576<N):
  Zba N l (b:Int) (some ((),(false,()))) (λqc bT ai=>some ((),(qc==(0:Int),()))) N 0 (a:Int)=ret (bal ((l.take b).drop a)):=by
 have hlen:((l.take b).drop a).length=b-a:=by simp;omega
 unfold bal;have h1:=Wq (l:=(l.take b).drop a) (V:=Unit) (R:=Unit×Ko) (lp:=λn j _=>Zba N l (b:Int) (some ((),(false,()))) (λqc bT ai=>some ((),(qc==(0:Int),()))) n (dep ((l.take b).drop a) j.toNat) ((a+j.toNat:Nat):Int)) (n:=N) (by omega)
  (body:=λj _ v k=>bif decide (dep ((l.take b).drop a) (j.toNat+1)<0)then some ((),(false,()))else k v) (K:=λj _=>some ((),(dep ((l.take b).drop a) j.toNat==(0:Int),())))
  (λn i v hi=>by
   have hb':=Wdk ((l.take b).drop a) i;have hs:=WaT hi;have ei:((l.take b).drop a)[i]=l[a+i]:=by simp
   rw[ei]at hs;have dV:a+i<l.length:=by omega
   have e1:decide (((a+i:Nat):Int)<(b:Int))=true:=by simp;omega
   have e2:We .i64 ((a+i:Nat):Int) 1=((a+(i+1):Nat):Int):=by rw[WC (by unfold I64;omega)];omega
   have e3:We .i64 (dep ((l.take b).drop a) i) 1=dep ((l.take b).drop a) i+1:=WC (by unfold I64;omega);have e4:WW .i64 (dep ((l.take b).drop a) i) 1=dep ((l.take b).drop a) i+ -1:=by rw[Wag (by unfold I64;omega)];omega
   simp only[Zba,e1,Wg dV,Wj dV,Wh dV,e2,e3,e4,cond_true,Xj];unfold opd at hs;cases h8:l[a+i].1==8
   .cases h9:l[a+i].1==9
    .rw[h8,h9]at hs;simp only[cond_false,Xfr]at hs;simp only[hs,cond_false]
    .rw[h8,h9]at hs;simp only[cond_false,cond_true]at hs;simp only[hs,cond_false,cond_true]
   .have h9:(l[a+i].1==9)=false:=by
     have:l[a+i].1=8:=by simpa using h8
     rw[this];rfl
    rw[h8]at hs;simp only[cond_true]at hs;simp only[hs,h9,cond_false,cond_true])
  (λn v=>by
   have e1:decide (((a+(((l.take b).drop a).length:Int).toNat:Nat):Int)<(b:Int))=false:=by rw[Xj,hlen];simp;omega
   simp only[Zba,e1,cond_false]) ()
 have e0:dep ((l.take b).drop a) (Xa 0)=0:=WcY _;simp only[e0]at h1;refine h1.trans ?_;rw[Wdn (p:=λj _=>decide (dep ((l.take b).drop a) (j+1)<0)) (E:=λ_=>some ((),(false,()))) _ 0 () (λj x v k _=>rfl)];rw[Xba,Xj,Wv2];cases Wm4 (λj _=>decide (dep ((l.take b).drop a) (j+1)<0)) 0 ((l.take b).drop a)<;>rfl
def Wg0(l:List Opn)(i:Nat)(o:Opn):Bool:=decide (i+1+o.2.2.1.toNat<=l.length)&&bal ((l.take (i+1+o.2.2.1.toNat)).drop (i+1))
def frk(l:List Opn)(j:Nat):Nat:=(l.take j).countP λo=>o.1==11
theorem Whk{l:List Opn}{j:Nat}(h:j<l.length):frk l (j+1)=frk l j+(l[j].1==11).toNat:=by
 unfold frk;rw[Xbk h,List.countP_append,List.countP_singleton];cases l[j].1==11<;>rfl
theorem WtT(l:List Opn)(j:Nat):frk l j<=l.length:=Xcr List.countP_le_length (by simp;omega)
def WtJ(l:List Opn)(i:Nat)(o:Opn):Bool:=
 !Wan o||((o.1==7)&& !Wg0 l i o)||((o.1==11)&&(decide (dep l i>0)||decide (frk l (i+1)>1)))||decide (dep l (i+1)<0)
def WpJ(l:List Opn)(i:Nat)(o:Opn):Bool:=
 !Wan o||((o.1==7)&& !Wg0 l i o)||((o.1==11)&&(decide (frk l (i+1)>1)|| !decide (dep l i=0)))
def Wo5(l:List Opn):Bool:=decide (l.length<=24)&&(bal l&& !Wm4 (WpJ l) 0 l)
theorem Wor{l:List Opn}{i:Nat}{o:Opn}(hl:l.length<=24)(hi:i<l.length)(ho:Wan o=true)(h7:o.1=7):
  We .i64 ((i+1:Nat):Int) o.2.2.1=((i+1+o.2.2.1.toNat:Nat):Int)/\1<=o.2.2.1/\o.2.2.1<=20:=by
 obtain⟨k,a,b,c⟩:=o;simp only at h7;subst h7;have:(Wi a&&(decide (1<=b)&&decide (b<=20))&&(c==(0:Int)))=true:=ho;simp only[Xi,decide_eq_true_eq]at this;refine⟨?_,this.1.2.1,this.1.2.2⟩;rw[WC (by unfold I64;simp only[];omega)];simp only[];omega
theorem WlX{N:Nat}{l:List Opn}{i:Nat}(hl:l.length<=24)(hN:1048576<N)(hi:i<l.length)(ho:Wan l[i]=true)(h7:l[i].1=7):Zix N l (i:Int)=ret (Wg0 l i l[i]):=by
 obtain⟨e1,h1,h2⟩:=Wor hl hi ho h7;unfold Zix Wg0;simp only[Wg hi,cond_true,Wj hi,Wh hi,e1,Wf (show i<4611686018427387904 by omega)];by_cases h:i+1+l[i].2.2.1.toNat<=l.length
 .have e:decide (((i+1+l[i].2.2.1.toNat:Nat):Int)>Wb l)=false:=by simp[Wb];omega
  rw[e];simp only[cond_false];rw[Wno (by omega) h (by omega) hN];simp[h]
 .have e:decide (((i+1+l[i].2.2.1.toNat:Nat):Int)>Wb l)=true:=by simp[Wb];omega
  rw[e];simp[h]
theorem WnH{l:List Opn}:bal l=true↔(∀i,i<l.length->0<=dep l (i+1))/\dep l l.length=0:=by
 unfold bal;rw[Xi,Xar,←Xfs,Wf4,decide_eq_true_eq];constructor
 .rintro⟨h1,h2⟩;refine⟨λi hi=>?_,h2⟩;by_cases h:dep l (i+1)<0
  .exact absurd ⟨i,hi,by simpa using h⟩ h1
  .omega
 .rintro⟨h1,h2⟩;refine⟨?_,h2⟩;rintro⟨i,hi,h⟩;have:=h1 i hi;simp at h;omega
theorem Wmh(l:List Opn):(!Wm4 (WtJ l) 0 l&&decide (dep l l.length=0))=(bal l&& !Wm4 (WpJ l) 0 l):=by
 rw[Bool.eq_iff_iff,Xi,Xi,Xar,Xar,←Xfs,←Xfs,Wf4,Wf4,WnH,decide_eq_true_eq];constructor
 .rintro⟨h1,h2⟩;have hd:∀i,i<l.length->0<=dep l (i+1):=λi hi=>by
   by_cases h:dep l (i+1)<0
   .refine absurd ⟨i,hi,?_⟩ h1;unfold WtJ;simp[h]
   .omega
  refine⟨⟨hd,h2⟩,?_⟩;rintro⟨i,hi,h⟩;refine h1 ⟨i,hi,?_⟩;have xH:0<=dep l i:=by
   cases i with
   |zero=>rw[WcY];omega
   |succ i=>exact hd i (by omega)
  rw[Xba]at h⊢;unfold WpJ at h;unfold WtJ;simp only[Xcl,Xi,decide_eq_true_eq,Xar,decide_eq_false_iff_not]at h⊢;rcases h with(h|h)|⟨h,h'⟩
  .exact .inl (.inl (.inl h))
  .exact .inl (.inl (.inr h))
  .refine .inl (.inr ⟨h,?_⟩);rcases h' with h'|h'
   .exact .inr h'
   .exact .inl (by omega)
 .rintro⟨⟨hd,h2⟩,h1⟩;refine⟨?_,h2⟩;rintro⟨i,hi,h⟩;refine h1 ⟨i,hi,?_⟩;have xH:=hd i hi;rw[Xba]at h⊢;unfold WtJ at h;unfold WpJ;simp only[Xcl,Xi,decide_eq_true_eq,Xar,decide_eq_false_iff_not]at h⊢;rcases h with((h|h)|⟨h,h'⟩)|h
  .exact .inl (.inl h)
  .exact .inl (.inr h)
  .refine .inr ⟨h,?_⟩;rcases h' with h'|h'
   .exact .inr (by omega)
   .exact .inl h'
  .omega
theorem Wg3{N:Nat}{l:List Opn}(hl:l.length<=1048576)(hN:1048576<N):Zhn N l=ret (Wo5 l):=by
 unfold Zhn Wo5;by_cases h:l.length<=24
 .have e:decide (Wb l>24)=false:=by simp[Wb];omega
  rw[e];simp only[cond_false];have h1:=Wq (l:=l) (V:=Unit) (R:=Unit×Ko) (lp:=λn j _=>Zbb N l (some ((),(false,()))) (λtn ln xw cd=>some ((),(tn==(0:Int),()))) n (dep l j.toNat) ((frk l j.toNat:Nat):Int) j) (n:=N) (by omega)
   (body:=λj x v k=>bif WtJ l j.toNat x then some ((),(false,()))else k v) (K:=λj _=>some ((),(dep l j.toNat==(0:Int),())))
   (λn i v hi=>by
    have hb:=Wdk l i;have hs:=WaT hi;have hf:=Whk hi;have fM:=WtT l i;have e3:We .i64 (dep l i) 1=dep l i+1:=WC (by unfold I64;omega);have e4:WW .i64 (dep l i) 1=dep l i+ -1:=by rw[Wag (by unfold I64;omega)];omega
    have e5:We .i64 ((frk l i:Nat):Int) 1=((frk l i+1:Nat):Int):=by rw[WC (by unfold I64;omega)];rfl
    simp only[Zbb,WN hi,Wg hi,Wj hi,Wh hi,Wf (show i<4611686018427387904 by omega),cond_true,Xj,Wdr,ret,Xd,e3,e4,e5];unfold WtJ;cases ho:Wan l[i]with
    |false=>rfl
    |true=>
     unfold opd at hs;simp only[Xs,cond_false,Xct];by_cases h8:l[i].1=8
     .have b8:(l[i].1==8)=true:=by simp[h8]
      have b7:(l[i].1==7)=false:=by simp[h8]
      have aO:(l[i].1==11)=false:=by simp[h8]
      simp only[b8,b7,aO,cond_true,cond_false,Xdn,Xbb,Xcw,Xct]at hs hf⊢;simp only[hs,hf]
     .have b8:(l[i].1==8)=false:=by simp[h8]
      by_cases h9:l[i].1=9
      .have b9:(l[i].1==9)=true:=by simp[h9]
       have b7:(l[i].1==7)=false:=by simp[h9]
       have aO:(l[i].1==11)=false:=by simp[h9]
       simp only[b8,b9,b7,aO,cond_true,cond_false,Xdn,Xbb,Xcw,Xct]at hs hf⊢;simp only[hs,hf]
      .have b9:(l[i].1==9)=false:=by simp[h9]
       by_cases h7:l[i].1=7
       .have b7:(l[i].1==7)=true:=by simp[h7]
        have aO:(l[i].1==11)=false:=by simp[h7]
        have xI:=WlX h hN hi ho h7;simp only[b8,b9,b7,aO,cond_true,cond_false,Xdn,Xbb,Xcw,Xbt,Bool.or_false,Xfr,xI,ret,Xd]at hs hf⊢;simp only[hs,hf];cases Wg0 l i l[i]<;>rfl
       .have b7:(l[i].1==7)=false:=by simp[h7]
        by_cases dr:l[i].1=11
        .have aO:(l[i].1==11)=true:=by simp[dr]
         simp only[b8,b9,b7,aO,cond_true,cond_false,Xgw,Xcw,Xbt,Xct,Xfr]at hs hf⊢;simp only[hs,hf];have ef:decide (((frk l i+1:Nat):Int)>1)=decide (frk l i+1>1):=by apply decide_eq_decide.2;omega
         rw[ef];cases decide (dep l i>0)<;>cases decide (frk l i+1>1)<;>cases decide (dep l i<0)<;>rfl
        .have aO:(l[i].1==11)=false:=by simp[dr]
         simp only[b8,b9,b7,aO,cond_true,cond_false,Xdn,Xbb,Xcw,Xct,Xfr]at hs hf⊢;simp only[hs,hf])
   (λn v=>by simp only[Zbb,WV (Xn l.length),cond_false]) ()
  have e0:dep l (Xa 0)=0:=WcY l;have e1:((frk l (Xa 0):Nat):Int)=0:=by simp[frk]
  simp only[e0,e1]at h1;refine h1.trans ?_;rw[Wdn (p:=WtJ l) (E:=λ_=>some ((),(false,()))) l 0 () (λj x v k _=>by rw[Xj])];rw[Xba,Xj,Wv2,←Wmh];simp only[h,decide_true,Xbt];cases Wm4 (WtJ l) 0 l<;>rfl
 .have e:decide (Wb l>24)=true:=by simp[Wb];omega
  rw[e];simp[h]
theorem Wg2{N:Nat}{l:List Opn}(hl:l.length<=1048576)(hN:1048576<N):Zc9 N l=ret (Wo5 l):=by
 unfold Zc9 Wo5;by_cases h:l.length<=24
 .have e:decide (Wb l>24)=false:=by simp[Wb];omega
  rw[e];simp only[cond_false,Wir hl hN,ret,Xd,h,decide_true,Xbt];cases qT:bal l with
  |false=>rfl
  |true=>
   simp only[Xs,cond_false,Xbt];have h1:=Wq (l:=l) (V:=Unit) (R:=Unit×Ko) (lp:=λn j _=>Zb1 N l (some ((),(false,()))) (λlq fO t22=>some ((),(true,()))) n ((frk l j.toNat:Nat):Int) j) (n:=N) (by omega)
    (body:=λj x v k=>bif WpJ l j.toNat x then some ((),(false,()))else k v) (K:=λj _=>some ((),(true,())))
    (λn i v hi=>by
     have hf:=Whk hi;have fM:=WtT l i;have e5:We .i64 ((frk l i:Nat):Int) 1=((frk l i+1:Nat):Int):=by rw[WC (by unfold I64;omega)];rfl
     simp only[Zb1,WN hi,Wg hi,Wj hi,Wh hi,cond_true,Xj,WeN,ret,Xd,e5];unfold WpJ;cases ho:Wan l[i]with
     |false=>rfl
     |true=>
      simp only[Xs,cond_false,Xct];by_cases h7:l[i].1=7
      .have b7:(l[i].1==7)=true:=by simp[h7]
       have aO:(l[i].1==11)=false:=by simp[h7]
       obtain⟨en,h1,h2⟩:=Wor h hi ho h7;simp only[b7,aO,cond_true,en,Wf (show i<4611686018427387904 by omega),Xdn,Xbb,Xcw,Xbt,Bool.or_false]at hf⊢;simp only[hf];unfold Wg0;by_cases hq:i+1+l[i].2.2.1.toNat<=l.length
       .have q1:decide (((i+1+l[i].2.2.1.toNat:Nat):Int)>Wb l)=false:=by simp[Wb];omega
        have q2:(((decide ((0:Int)<=((i+1+l[i].2.2.1.toNat:Nat):Int)))&&(decide (((i+1+l[i].2.2.1.toNat:Nat):Int)<=((Xc l):Int))))&&(decide ((0:Int)<=((i+1:Nat):Int)))&&(decide (((i+1:Nat):Int)<=((i+1+l[i].2.2.1.toNat:Nat):Int))))=true:=by simp;omega
        rw[q1,q2];simp only[cond_false,cond_true,Xj];rw[Wir (by simp;omega) hN];simp only[ret,Xd,hq,decide_true,Xbt]
       .have q1:decide (((i+1+l[i].2.2.1.toNat:Nat):Int)>Wb l)=true:=by simp[Wb];omega
        rw[q1];simp[hq]
      .have b7:(l[i].1==7)=false:=by simp[h7]
       by_cases dr:l[i].1=11
       .have aO:(l[i].1==11)=true:=by simp[dr]
        simp only[b7,aO,cond_true,cond_false,Xgw,Xcw,Xbt,Xct,WjL hl hN (Nat.le_of_lt hi),ret,Xd,Wf (show i<4611686018427387904 by omega)]at hf⊢;simp only[hf];have ef:decide (((frk l i+1:Nat):Int)>1)=decide (frk l i+1>1):=by apply decide_eq_decide.2;omega
        have e0:(dep l i !=0)= !decide (dep l i=0):=by rw[bne,Wv2]
        rw[ef,e0];cases decide (frk l i+1>1)<;>cases decide (dep l i=0)<;>rfl
       .have aO:(l[i].1==11)=false:=by simp[dr]
        simp only[b7,aO,cond_true,cond_false,Xdn,Xbb,Xcw,Xct,Wf (show i<4611686018427387904 by omega)]at hf⊢;simp only[hf])
    (λn v=>by simp only[Zb1,WV (Xn l.length),cond_false]) ()
   have e1:((frk l (Xa 0):Nat):Int)=0:=by simp[frk]
   simp only[e1]at h1;refine h1.trans ?_;rw[Wdn (p:=WpJ l) (E:=λ_=>some ((),(false,()))) l 0 () (λj x v k _=>by rw[Xj])];cases Wm4 (WpJ l) 0 l<;>rfl
 .have e:decide (Wb l>24)=true:=by simp[Wb];omega
  rw[e];simp[h]
end
section
def stk(l:List Opn):Nat->List Nat
 |0=>[]
 |j+1=>bif (l.getD j (0,0,0,0)).1==8 then stk l j++ [j]else bif (l.getD j (0,0,0,0)).1==9 then(stk l j).dropLast else stk l j
theorem WiO{l:List Opn}{j:Nat}(h:j<l.length)(h8:l[j].1=8):stk l (j+1)=stk l j++ [j]:=by
 rw[stk,Wh h];simp[h8]
theorem Wj1{l:List Opn}{j:Nat}(h:j<l.length)(h9:l[j].1=9):stk l (j+1)=(stk l j).dropLast:=by
 rw[stk,Wh h];simp[h9]
theorem Wga{l:List Opn}{j:Nat}(h:j<l.length)(h8:l[j].1≠8)(h9:l[j].1≠9):stk l (j+1)=stk l j:=by
 rw[stk,Wh h];have e8:(l[j].1==8)=false:=by simp[h8]
 have e9:(l[j].1==9)=false:=by simp[h9]
 rw[e8,e9];rfl
theorem WuJ{o:Opn}(h:o.1=8):opd o=1:=by unfold opd;simp[h]
theorem Wk2{o:Opn}(h:o.1=9):opd o= -1:=by unfold opd;simp[h]
theorem WuT{o:Opn}(h8:o.1≠8)(h9:o.1≠9):opd o=0:=by
 unfold opd;have e8:(o.1==8)=false:=by simp[h8]
 have e9:(o.1==9)=false:=by simp[h9]
 rw[e8,e9];rfl
theorem Wb6{α:Type}(l:List α):l= []\/∃q x,l=q++ [x]:=by
 rcases List.eq_nil_or_concat l with h|⟨q,x,h⟩
 .exact .inl h
 .exact .inr ⟨q,x,by rw[h,List.concat_eq_append]⟩
def Up(l:List Opn):Prop:=∀i,i<l.length->0<=dep l (i+1)
theorem Up.at{l:List Opn}(h:Up l){j:Nat}(hj:j<=l.length):0<=dep l j:=by
 cases j with
 |zero=>rw[WcY];omega
 |succ j=>exact h j hj
theorem Wbx{l:List Opn}(h:Up l):∀j,j<=l.length->((stk l j).length:Int)=dep l j
 |0,_=>by rw[WcY];rfl
 |j+1,hj=>by
  have hj':j<l.length:=hj;have ih:=Wbx h j (by omega);have hd:=WaT hj';have hu:=h j hj';by_cases h8:l[j].1=8
  .rw[WiO hj' h8,hd,WuJ h8,Xae];simp;omega
  .by_cases h9:l[j].1=9
   .rw[Wj1 hj' h9,hd,Wk2 h9,Xez];rw[hd,Wk2 h9]at hu;omega
   .rw[Wga hj' h8 h9,hd,WuT h8 h9];omega
theorem Wkb{l:List Opn}:∀(j:Nat),j<=l.length->∀(s t:List Nat) (m:Nat),stk l j=s++m::t->
  m<j/\(∃h:m<l.length,l[m].1=8)/\stk l m=s/\∀i,m<i->i<=j->∃t',stk l i=s++m::t'
 |0,_,s,t,m,h=>by simp[stk]at h
 |j+1,hj,s,t,m,h=>by
  have hj':j<l.length:=hj;have ih:=Wkb (l:=l) j (by omega);have next:∀t0,stk l j=s++m::t0->m<j+1/\(∃h:m<l.length,l[m].1=8)/\stk l m=s/\∀i,m<i->i<=j+1->∃t',stk l i=s++m::t':=λt0 h0=>by
   obtain⟨a,b,c,d⟩:=ih s t0 m h0;refine⟨by omega,b,c,λi lm jV=>?_⟩;by_cases he:i=j+1
   .subst he;exact⟨t,h⟩
   .exact d i lm (by omega)
  by_cases h8:l[j].1=8
  .rw[WiO hj' h8]at h;rcases Wb6 t with rfl|⟨t0,x,rfl⟩
   .obtain⟨e1,e2⟩:=Xep (h:stk l j++ [j]=s++ [m]) rfl;injection e2 with e2;subst e2;refine⟨by omega,⟨hj',h8⟩,e1,λi lm jV=>?_⟩;have:i=j+1:=by omega
    subst this;exact⟨[],by rw[WiO hj' h8];exact h⟩
   .have h2:stk l j++ [j]=(s++m::t0)++ [x]:=by rw[h,List.append_assoc,List.cons_append]
    obtain⟨e1,e2⟩:=Xep h2 rfl;have h':stk l (j+1)=s++m::(t0++ [x]):=by rw[WiO hj' h8,h]
    obtain⟨a,b,c,d⟩:=ih s t0 m e1;refine⟨by omega,b,c,λi lm jV=>?_⟩;by_cases he:i=j+1
    .subst he;exact⟨_,h'⟩
    .exact d i lm (by omega)
  .by_cases h9:l[j].1=9
   .rw[Wj1 hj' h9]at h;rcases Wb6 (stk l j)with h0|⟨q,x,hq⟩
    .rw[h0]at h;simp at h
    .have ek:(stk l j).dropLast=q:=by rw[hq];simp
     rw[ek]at h;have h2:stk l j=s++m::(t++ [x]):=by rw[hq,h];simp
     obtain⟨a,b,c,d⟩:=ih s _ m h2;refine⟨by omega,b,c,λi lm jV=>?_⟩;by_cases he:i=j+1
     .subst he;exact⟨t,by rw[Wj1 hj' h9,ek];exact h⟩
     .exact d i lm (by omega)
   .exact next t (by rw[←Wga hj' h8 h9];exact h)
theorem WnS{l:List Opn}{a b:Nat}(d9:a<=b)(hb:b<=l.length)(qT:bal ((l.take b).drop a)=true):stk l b=stk l a:=by
 obtain⟨h1,h2⟩:=WnH.1 qT;have hlen:((l.take b).drop a).length=b-a:=by simp;omega
 have key:∀i,i<=b-a->∃t,stk l (a+i)=stk l a++t/\(t.length:Int)=dep ((l.take b).drop a) i:=by
  intro i
  induction i with
  |zero=>intro _;exact⟨[],by simp,by rw[WcY];rfl⟩
  |succ i ih=>
   intro hi;obtain⟨t,oR,tT⟩:=ih (by omega);have dV:a+i<l.length:=by omega
   have jV:i<((l.take b).drop a).length:=by omega
   have hd:=WaT jV;have ei:((l.take b).drop a)[i]=l[a+i]:=by simp
   rw[ei]at hd;have hu:=h1 i jV;by_cases h8:l[a+i].1=8
   .refine⟨t++ [a+i],by rw[←Xas,WiO dV h8,oR];simp,?_⟩;rw[hd,WuJ h8,Xae];simp;omega
   .by_cases h9:l[a+i].1=9
    .rw[hd,Wk2 h9]at hu;have hne:t≠ []:=λh=>by subst h;simp at tT;omega
     refine⟨t.dropLast,?_,?_⟩
     .rw[←Xas,Wj1 dV h9,oR,List.dropLast_append_of_ne_nil hne]
     .rw[hd,Wk2 h9,Xez];omega
    .refine⟨t,by rw[←Xas,Wga dV h8 h9,oR],?_⟩;rw[hd,WuT h8 h9];omega
 obtain⟨t,oR,tT⟩:=key (b-a) (Xn _);rw[←hlen,h2]at tT;have:t= []:=Xad (by omega);subst this;rw[show a+(b-a)=b by omega]at oR;simpa using oR
structure Mate(l:List Opn)(m k:Nat):Prop where
 lt:m<k
 len:k<l.length
 eq:dep l (k+1)=dep l m
 ne:∀i,m<=i->i<k->dep l (i+1)≠dep l m
 st:stk l (k+1)=stk l m
theorem WuP{l:List Opn}(hu:Up l)(h0:dep l l.length=0){j m:Nat}{s:List Nat}(hj:j<=l.length)(hs:stk l j=s++ [m]):∃k,j<=k/\Mate l m k/\stk l m=s:=by
 obtain⟨a,⟨hm,h8⟩,c,d⟩:=Wkb j hj s [] m hs;have mA:=Wbx hu m (by omega);have low:∀i,m<=i->i<j->dep l (i+1)≠dep l m:=λi h1 h2=>by
  obtain⟨t',xJ⟩:=d (i+1) (by omega) (by omega);have:=Wbx hu (i+1) (by omega);rw[xJ]at this;rw[c]at mA;simp at this;omega
 have fb:=hu.at (show m<=l.length by omega);have ex:∀n i,l.length-i=n->j<=i->i<=l.length->(∀i',m<=i'->i'<i->dep l (i'+1)≠dep l m)->dep l m<dep l i->∃k,j<=k/\k<l.length/\dep l (k+1)=dep l m/\∀i',m<=i'->i'<k->dep l (i'+1)≠dep l m:=by
  intro n
  induction n with
  |zero=>intro i h1 h2 h3 h4 h5;exfalso;rw[show i=l.length by omega,h0]at h5;omega
  |succ n ih=>
   intro i h1 h2 h3 h4 h5;have dV:i<l.length:=by omega
   by_cases he:dep l (i+1)=dep l m
   .exact⟨i,h2,dV,he,h4⟩
   .have hd:=WaT dV;have ho:=Wh9 l[i];refine ih (i+1) (by omega) (by omega) dV (λi' q1 q2=>?_) (by omega);by_cases dy:i'=i
    .subst dy;exact he
    .exact h4 i' q1 (by omega)
 have kX:dep l m<dep l j:=by
  have:=Wbx hu j hj;rw[hs]at this;rw[c]at mA;simp at this;omega
 obtain⟨k,k1,k2,k3,k4⟩:=ex _ j rfl (Xn _) hj low kX;have oi:m<k:=by omega
 have pre:∀n i,i=m+1+n->i<=k->∃t,stk l i=s++m::t:=by
  intro n
  induction n with
  |zero=>intro i h1 h2;exact⟨[],by rw[h1,Xbb,WiO hm h8,c]⟩
  |succ n ih=>
   intro i h1 h2;obtain⟨t,ht⟩:=ih (m+1+n) rfl (by omega);have e:i=(m+1+n)+1:=by omega
   have dV:m+1+n<l.length:=by omega
   by_cases g8:l[m+1+n].1=8
   .exact⟨t++ [m+1+n],by rw[e,WiO dV g8,ht];simp⟩
   .by_cases g9:l[m+1+n].1=9
    .rcases Wb6 t with rfl|⟨t0,x,rfl⟩
     .exfalso;have q:=Wj1 dV g9;rw[ht]at q;have q2:stk l (m+1+n+1)=s:=by rw[q];simp
      have q3:=Wbx hu (m+1+n+1) (by omega);rw[q2]at q3;rw[c]at mA;exact k4 (m+1+n) (by omega) (by omega) (by omega)
     .exact⟨t0,by rw[e,Wj1 dV g9,ht,show s++m::(t0++ [x])=(s++m::t0)++ [x] by simp,Xew]⟩
    .exact⟨t,by rw[e,Wga dV g8 g9,ht]⟩
 obtain⟨t,ht⟩:=pre (k-m-1) k (by omega) (Xn _);have v6:=Wbx hu k (by omega);have xK:=WaT k2;rw[ht]at v6;rw[c]at mA;simp at v6;have aX:=Wh9 l[k];have g9:l[k].1=9:=by
  by_cases g9:l[k].1=9
  .exact g9
  .by_cases g8:l[k].1=8
   .have:=WuJ g8;omega
   .have:=WuT g8 g9;omega
 have xL:t= []:=Xad (by have:=Wk2 g9;omega);subst xL;refine⟨k,k1,⟨oi,k2,k3,k4,?_⟩,c⟩;rw[Wj1 k2 g9,ht,c];simp
theorem WoH{l:List Opn}{m i:Nat}:((dep l (i+1) -dep l m)==(0:Int))=decide (dep l (i+1)=dep l m):=by
 by_cases h:dep l (i+1)=dep l m
 .simp[h]
 .have:dep l (i+1) -dep l m≠0:=by omega
  simp[h,this]
theorem Wh4{N:Nat}{l:List Opn}{m k:Nat}(hl:l.length<=1048576)(hN:1048576<N)(h8:∃h:m<l.length,l[m].1=8)(hm:Mate l m k):Zie N l (m:Int)=ret (k:Int):=by
 obtain⟨oA,h8⟩:=h8;unfold Zie;have e1:WW .i64 (Wb l) 1=(l.length:Int) -1:=Wag (by unfold I64 Wb;omega);have e2:(decide (0<=(m:Int))&&decide ((m:Int)<=(l.length:Int) -1))=true:=by simp;omega
 have e3:(l[m].1 !=8)=false:=by simp[h8]
 simp only[Wk,ret,Xd,e1,e2,Xs,cond_false,Wg oA,cond_true,Wj oA,e3];have key:∀(c n i:Nat),k-i=c->m<=i->i<=k->l.length-i<n->∀{R:Type} (K0:Int->Option R) (K1:Int->Int->Bool->Option R),Zer N l K0 K1 n (dep l i-dep l m) (i:Int)=K0 k:=by
  intro c
  induction c with
  |zero=>
   intro n i h1 h2 h3 h4 R K0 K1;have:i=k:=by omega
   subst this;cases n with
   |zero=>omega
   |succ n=>
    have dV:=hm.len;have hd:=WaT dV;have hb:=Wdk l i;have ja:=Wdk l m;have ho:=Wh9 l[i];have e:We .i64 (dep l i-dep l m) (opd l[i])=dep l (i+1) -dep l m:=by rw[WC (by unfold I64;omega),hd];omega
    simp only[Zer,WN dV,Wg dV,Wj dV,cond_true,Wf1,ret,Xd,e];rw[WoH];simp[hm.eq]
  |succ c ih=>
   intro n i h1 h2 h3 h4 R K0 K1;cases n with
   |zero=>omega
   |succ n=>
    have hk:=hm.len;have dV:i<l.length:=by omega
    have hd:=WaT dV;have hb:=Wdk l i;have ja:=Wdk l m;have ho:=Wh9 l[i];have e:We .i64 (dep l i-dep l m) (opd l[i])=dep l (i+1) -dep l m:=by rw[WC (by unfold I64;omega),hd];omega
    have hne:=hm.ne i h2 (by omega);simp only[Zer,WN dV,Wg dV,Wj dV,cond_true,Wf1,ret,Xd,e,WoH,hne,decide_false,cond_false,Wf (show i<4611686018427387904 by omega)];exact ih n (i+1) (by omega) (by omega) (by omega) (by omega) K0 K1
 have:=key (k-m) N m rfl (Xn _) (by have:=hm.lt;omega) (by omega) (R:=Unit×Ki) (λaG=>some ((),(aG,()))) (λqd eW cL=>some ((),((-1:Int),())));rw[Int.sub_self]at this;exact this
end
section
abbrev Wd:=Int×Int×Int
abbrev Mm:=Int×List Wd
theorem Wf5{α:Type}(a:Option α):Whg a a=a:=by unfold Whg;simp
def WpO(clock:Int)(w:Wd):Bool:=Wbh w.1&&((decide (0<=w.2.1)&&decide (w.2.1<=clock))&&(decide (0<=w.2.2)&&decide (w.2.2<=99)))
def WZ(m:Mm):Bool:=decide (m.2.length=8)&&((decide (0<=m.1)&&decide (m.1<=1000000))&&m.2.all (WpO m.1))
theorem Wba{N:Nat}{m:Mm}(hl:m.2.length<=1048576)(hN:1048576<N):Zcu N m=ret (WZ m):=by
 unfold Zcu WZ;have h1:=Wq (l:=m.2) (V:=Unit) (R:=Unit×Ko) (lp:=λn j v=>Zep N m.2 m (some ((),(false,()))) (λcd eV=>
  (bif (Wb m.2)==(8:Int)then
  ((Zl N m.1 (0:Int) (1000000:Int)).bind λfN=>
  (some ((),(fN.2.1,()))))
  else
  (some ((),(false,()))))) n j) (n:=N) (by omega)
  (body:=λj x v k=>bif !WpO m.1 x then some ((),(false,()))else k v) (K:=λ_ v=>(bif (Wb m.2)==(8:Int)then
  ((Zl N m.1 (0:Int) (1000000:Int)).bind λfN=>
  (some ((),(fN.2.1,()))))
  else
  (some ((),(false,())))))
  (λn i v hi=>by
   simp only[Zep,WN hi,Wg hi,Wj hi,Wf (show i<4611686018427387904 by omega),cond_true,Wp,Wk,ret,Xd,WpO];cases Wbh m.2[i].1<;>cases(decide (0<=m.2[i].2.1)&&decide (m.2[i].2.1<=m.1))<;>cases(decide (0<=m.2[i].2.2)&&decide (m.2[i].2.2<=99))<;>rfl)
  (λn v=>by simp only[Zep,WV (Xn m.2.length),cond_false]) ()
 refine h1.trans ?_;rw[Was (p:=λx=>!WpO m.1 x) (E:=λ_=>some ((),(false,()))) m.2 0 () (λj x v k _=>rfl),Wb1];have e:((Wb m.2)==(8:Int))=decide (m.2.length=8):=by
  by_cases h:m.2.length=8
  .simp[Wb,h]
  .simp[Wb,h];omega
 simp only[e,Wk,ret,Xd];cases m.2.all (WpO m.1)<;>cases decide (m.2.length=8)<;>simp
def wd0(v:Int):Wd:=(v,(0,0))
def Wjg(l:List Int):Mm:=(0,l.map wd0)
theorem Wcy{α β R:Type}{body:Int->α->List β->(List β->Option R)->Option R}{K:Int->List β->Option R}{f:α->β}:∀(l:List α) (j:Nat) (o:List β),o.length+l.length<=1000000->
  (∀(j:Nat) x (v:List β) k,x∈l->body j x v k=bif WA (v.length+ [f x].length)then k (Xf v [f x])else none)->WbW body K l j o=K ((j+l.length:Nat):Int) (o++l.map f)
 | [],j,o,_,_=>by simp[WbW]
 |x::l,j,o,h,hb=>by
  rw[Xw]at h;rw[WbW,hb j x o _ (Xh ..),Ww (by simp;omega)];simp only[cond_true];rw[Wcy l (j+1) _ (by simp[Xai];omega) λj y v k hy=>hb j y v k (Xe _ hy)];rw[Xw,show j+1+l.length=j+(l.length+1) by omega];simp
theorem WiG{N:Nat}{l:List Int}(h:Wd1 l=true)(hN:1048576<N):Zce N l=some ((),(Wjg l,(true,()))):=by
 have hl:l.length=8:=by unfold Wd1 at h;simp at h;exact h.1
 unfold Zce;simp only[Wcb (show l.length<=1048576 by omega) hN,ret,Xd,h,Xs,cond_false];have h1:=Wq (l:=l) (V:=List Wd) (R:=Unit×(Mm×Ko)) (lp:=λn j v=>Zdo N l (λai aG bn=>(some ((),(((0:Int),bn),(true,()))))) n j v) (n:=N) (by omega)
  (body:=λj x v k=>bif WA (v.length+ [wd0 x].length)then k (Xf v [wd0 x])else none) (K:=λ_ v=>some ((),(((0:Int),v),(true,()))))
  (λn i v hi=>by simp only[Zdo,WN hi,Wg hi,Wj hi,Wf (show i<4611686018427387904 by omega),cond_true,wd0])
  (λn v=>by simp only[Zdo,WV (Xn l.length),cond_false]) []
 refine h1.trans ?_;rw[Wcy (f:=wd0) l 0 [] (by simp;omega) (λj x v k _=>rfl)];rfl
theorem WK{m:Mm}(h:WZ m=true):m.2.length=8/\0<=m.1/\m.1<=1000000/\∀w∈m.2,WpO m.1 w=true:=by
 unfold WZ at h;simp only[Xi,decide_eq_true_eq,Xak]at h;exact⟨h.1,h.2.1.1,h.2.1.2,h.2.2⟩
def tick(m:Mm):Mm×Int:=if m.1<1000000 then((m.1+1,m.2),m.1+1)else(m,0)
theorem Wk7{N:Nat}{m:Mm}(h:WZ m=true)(hN:1048576<N):Zpn N m=some ((),((tick m).1,((tick m).2,()))):=by
 obtain⟨h8,h0,h1,_⟩:=WK h;have e:Zcg N m=ret m:=by unfold Zcg;rw[Ww (by omega)];rfl
 unfold Zpn tick;simp only[e,Wba (show m.2.length<=1048576 by omega) hN,ret,Xd,h,Xs,cond_false];by_cases hc:m.1<1000000
 .have e2:(m.1==1000000)=false:=by simp;omega
  have e3:We .i64 m.1 1=m.1+1:=WC (by unfold I64;omega);rw[e2,if_pos hc,e3];rfl
 .have e2:(m.1==1000000)=true:=by simp;omega
  rw[e2,if_neg hc];rfl
abbrev Pb:=Int×Int×Int×Int
def Wka(p:Pb):Bool:=W2 p.1&&((decide (0<=p.2.1)&&decide (p.2.1<=4))&&((decide (0<=p.2.2.1)&&decide (p.2.2.1<=1000000))&&Wbh p.2.2.2))
theorem WlI{N:Nat}{p:Pb}:Zmx N p=ret (Wka p):=by
 unfold Zmx Wka;simp only[Wn,Wk,Wp,ret,Xd];cases W2 p.1<;>cases(decide (0<=p.2.1)&&decide (p.2.1<=4))<;>cases(decide (0<=p.2.2.1)&&decide (p.2.2.1<=1000000))<;>simp
def WO(m:Mm)(rv:Int)(p:Pb):Pb:=
 let w:=Xb m.2 (Xa p.1) (0,(0,0))
 bif p.2.1==0 then(bif w.2.2==0 then(bif decide (w.2.1<=rv)then(p.1,(1,(w.2.1,p.2.2.2)))else(p.1,(4,p.2.2)))else(p.1,(4,p.2.2)))
 else bif p.2.1==1 then(p.1,(2,(p.2.2.1,w.1)))
 else bif p.2.1==2 then(bif w.2.2==0 then(bif w.2.1==p.2.2.1 then(p.1,(3,p.2.2))else(p.1,(4,p.2.2)))else(p.1,(4,p.2.2)))
 else p
theorem WvA{m:Mm}{p:Pb}(h:WZ m=true)(hp:Wka p=true):inb p.1 m.2.length=true:=by
 have h1:=(WK h).1;unfold Wka W2 at hp;simp at hp;unfold inb;rw[h1];simp;omega
theorem WeK{N:Nat}{m:Mm}{rv:Int}{p:Pb}(h:WZ m=true)(hp:Wka p=true)(hN:1048576<N):Zeq N m rv p=ret (WO m rv p):=by
 have h1:=(WK h).1;unfold Zeq WO;simp only[Wba (show m.2.length<=1048576 by omega) hN,WlI,ret,Xd,h,hp,Xs,cond_false,WvA h hp,cond_true];generalize Xb m.2 (Xa p.1) (0,(0,0))=w;cases p.2.1==0<;>cases p.2.1==1<;>cases p.2.1==2<;>cases w.2.2==0<;>cases decide (w.2.1<=rv)<;>cases w.2.1==p.2.2.1<;>rfl
def We1(l:List Rw)(c:Int):Nat->Option Int
 |0=>none
 |i+1=>if(Xb l i (0,0)).1=c then some (Xb l i (0,0)).2 else We1 l c i
def WaH(l:List Rw)(c:Int):Option Int:=if WaL l=true then We1 l c l.length else none
def opI(o:Option Int):Option (Unit×Kl):=match o with
 |none=>some ((),((0:Int),(false,())))
 |some v=>some ((),(v,(true,())))
theorem Wic{N:Nat}{l:List Rw}{c:Int}(hl:l.length<=1048576):∀(i n:Nat),i<n->i<=l.length->Zhd N l c (λaw=>(some ((),(aw,(true,()))))) (λoC ai=>(some ((),((0:Int),(false,()))))) n ((i:Int) -1)=opI (We1 l c i)
 |i,0,h,_=>by omega
 |0,n+1,h,_=>rfl
 |i+1,n+1,h,hi=>by
  have e:((i+1:Nat):Int) -1=(i:Int):=by omega
  have e1:decide ((i:Int)>=0)=true:=by simp
  have e2:WW .i64 (i:Int) 1=(i:Int) -1:=Wag (by unfold I64;omega);rw[e,Zhd,e1,Wg (show i<l.length by omega),e2,We1,Xj];simp only[cond_true];by_cases hc:(Xb l i ((0:Int),(0:Int))).1=c
  .rw[if_pos hc,beq_iff_eq.2 hc];rfl
  .rw[if_neg hc,beq_eq_false_iff_ne.2 hc];exact Wic hl i n (by omega) (by omega)
theorem WoC{α:Type}{l:List α}(hl:l.length<=1048576):WW .i64 (Wb l) 1=((l.length:Nat):Int) -1:=by unfold Wb;exact Wag (by unfold I64;omega)
theorem Wd2{N:Nat}{l:List Rw}{c:Int}(hl:l.length<=1048576)(hN:1048576<N):Zhx N l c=opI (WaH l c):=by
 unfold Zhx WaH;simp only[Wak hl hN,ret,Xd];cases WaL l
 .rfl
 .simp only[Xs,cond_false,if_true,WoC hl];exact Wic hl l.length N (by omega) (Xn _)
end
section
def Wkn(l:List Rw)(o:List Rw)(c:Nat):List Rw:=match WaH l c with
 |none=>o
 |some v=>o++ [((c:Int),v)]
def Wke(l:List Rw):Nat->Nat->List Rw->List Rw
 |0,_,o=>o
 |j+1,c,o=>Wke l j (c+1) (Wkn l o c)
def WbR(l:List Rw):List Rw:=Wke l 8 0 []
theorem WgG{N:Nat}{l:List Rw}(hl:l.length<=1048576)(hN:1048576<N):∀(j n c:Nat) (o:List Rw),c+j=8->j<n->o.length<=c->Zgp N l (λay ai aJ=>(some ((),(aJ,())))) n (c:Int) o=ret (Wke l j c o)
 |j,0,c,o,_,h,_=>by omega
 |0,n+1,c,o,h,_,_=>by
  have:c=8:=by omega
  subst this;rfl
 |j+1,n+1,c,o,h,h1,ho=>by
  have e:decide ((c:Int)<8)=true:=by simp;omega
  rw[Zgp,e,Wd2 hl hN,Wf (by omega),Wke,Wkn];simp only[cond_true];rcases WaH l c with _|v
  .exact WgG hl hN j n (c+1) o (by omega) (by omega) (by omega)
  .have er:WA (o.length+ [((c:Int),v)].length)=true:=Ww (by simp;omega);simp only[opI,Xd,cond_true,er];exact WgG hl hN j n (c+1) _ (by omega) (by omega) (by simp;omega)
theorem WlA{l:List Rw}(h:WaL l=false):∀(j c:Nat) (o:List Rw),Wke l j c o=o
 |0,_,_=>rfl
 |j+1,c,o=>by
  have e:WaH l c=none:=by unfold WaH;rw[h];rfl
  rw[Wke,Wkn,e];exact WlA h j (c+1) o
theorem Wdv{N:Nat}{l:List Rw}(hl:l.length<=1048576)(hN:1048576<N):Zg1 N l=ret (WbR l):=by
 unfold Zg1;simp only[Wak hl hN,ret,Xd];cases h:WaL l
 .unfold WbR;rw[WlA h];rfl
 .exact WgG hl hN 8 N 0 [] rfl (by omega) (by simp)
def fnd{α:Type}(p:α->Bool):List α->Nat->Option (Nat×α)
 | [],_=>none
 |x::l,j=>bif p x then some (j,x)else fnd p l (j+1)
theorem WfT{α V R:Type}{body:Int->α->V->(V->Option R)->Option R}{K:Int->V->Option R}{p:α->Bool}{E:Int->α->Option R}:∀(l:List α) (j:Nat) (v:V),(∀(j:Nat) x v k,x∈l->body j x v k=bif p x then E j x else k v)->
  WbW body K l j v=match fnd p l j with|some r=>E r.1 r.2|none=>K ((j+l.length:Nat):Int) v
 | [],j,v,_=>rfl
 |x::l,j,v,h=>by
  rw[WbW,h j x v _ (Xh ..),fnd,WfT l (j+1) v λj y v k hy=>h j y v k (Xe _ hy)];cases p x
  .simp only[cond_false];rw[Xw,show j+1+l.length=j+(l.length+1) by omega]
  .rfl
theorem Wcp{α:Type}{p:α->Bool}:∀{l:List α} {j:Nat} {r:Nat×α},fnd p l j=some r->p r.2=true/\j<=r.1/\r.1<j+l.length/\l[r.1-j]?=some r.2
 | [],j,r,h=>by cases h
 |x::l,j,r,h=>by
  rw[fnd]at h;cases hp:p x
  .rw[hp]at h;obtain⟨h1,h2,h3,h4⟩:=Wcp (l:=l) h;refine⟨h1,by omega,by rw[Xw];omega,?_⟩;obtain⟨q,hq⟩:∃q,r.1-j=q+1:=⟨r.1-j-1,by omega⟩;rw[hq,List.getElem?_cons_succ];rw[show r.1-(j+1)=q by omega]at h4;exact h4
  .rw[hp]at h;cases h;exact⟨hp,Xn _,by simp,by simp⟩
theorem WfX{α:Type}{p:α->Bool}:∀{l:List α} {j:Nat},fnd p l j=none->∀x∈l,p x=false
 | [],j,h=>by simp
 |x::l,j,h=>by
  rw[fnd]at h;cases hp:p x
  .rw[hp]at h;intro y hy;rcases Xq.1 hy with rfl|hy
   .exact hp
   .exact WfX h y hy
  .rw[hp]at h;cases h
abbrev En:=Int×Int×Int
def ent(b:List En)(c:Int):Option (Nat×En):=fnd (λe=>e.1==c) b 0
theorem Wfq{N:Nat}{f:Y_Family}{c:Int}(hl:f.2.2.2.2.2.2.1.length<=1048576)(hN:1048576<N):Zcl N f c=ret (match ent f.2.2.2.2.2.2.1 c with|some r=>(r.1:Int)|none=>-1):=by
 unfold Zcl;show((Zn N f.2.2.2.2.2.2.1 c).bind _)=_;generalize f.2.2.2.2.2.2.1=b at hl;unfold Zn ent;have h1:=Wq (l:=b) (V:=Unit) (R:=Ki×Ki) (lp:=λn j v=>Zf N b (λaY bc=>(some ((bc,()),(aY,())))) (λcd eV bv=>(some ((bv,()),((-1:Int),())))) n j c) (n:=N) (by omega)
  (body:=λj x v k=>bif x.1==c then some ((c,()),(j,()))else k v) (K:=λ_ v=>some ((c,()),((-1:Int),())))
  (λn i v hi=>by simp only[Zf,Zj7,WN hi,Wg hi,Wj hi,Wf (show i<4611686018427387904 by omega),cond_true,Xd])
  (λn v=>by simp only[Zf,WV (Xn b.length),cond_false]) ()
 rw[h1,WfT (p:=λe=>e.1==c) (E:=λj x=>some ((c,()),(j,()))) b 0 () (λj x v k _=>rfl)];cases fnd (λe:En=>e.1==c) b 0<;>rfl
theorem WaV{N:Nat}{l:List Int}(h:l.length<=1048576):Zr N l=ret l:=by
 unfold Zr;rw[Ww (by omega)];rfl
theorem WcC{N:Nat}{l:List Rw}(h:l.length<=1048576):Za6 N l=ret l:=by
 unfold Za6;rw[Ww (by omega)];rfl
end
section
theorem Wn1{N:Nat}{o:Opn}:∃t:Int,Zcf N o=ret t/\Zhy N o=ret t:=by
 unfold Zcf Zhy;rw[Wdr,WeN];simp only[ret,Xd];cases Wan o
 .exact⟨0,rfl,rfl⟩
 .cases o.1==5<;>cases o.1==6<;>cases o.1==12<;>cases o.1==13<;>cases o.1==14<;>cases o.1==15<;>cases o.1==16<;>exact⟨_,rfl,rfl⟩
noncomputable def Wix(o:Opn):Int:=match Zcf 0 o with|some (_,(t,_))=>t|none=>0
theorem WvU{N:Nat}{o:Opn}:Zcf N o=Zcf 0 o:=by
 unfold Zcf;rw[Wdr,Wdr]
theorem Wdx{N:Nat}{o:Opn}:Zcf N o=ret (Wix o):=by
 rw[WvU];obtain⟨t,h,_⟩:=Wn1 (N:=0) (o:=o);unfold Wix;rw[h]
theorem WfD{N:Nat}{o:Opn}:Zhy N o=ret (Wix o):=by
 obtain⟨t,h,h2⟩:=Wn1 (N:=N) (o:=o);rw[h2,←h,Wdx]
noncomputable def WfL(o:Opn):Bool:=(o.1==11)||(Wix o==2)
noncomputable def WgD(l:List Opn):Bool:=Wo5 l&& !l.any WfL
theorem Wg7{N:Nat}{l:List Opn}(hl:l.length<=1048576)(hN:1048576<N):Zgo N l=ret (l.any λo=>o.1==11):=by
 unfold Zgo;have h1:=Wq (l:=l) (V:=Unit) (R:=Unit×Ko) (lp:=λn j v=>Zct N l (some ((),(true,()))) (λi8 t9=>some ((),(false,()))) n j) (n:=N) (by omega)
  (body:=λj x v k=>bif x.1==11 then some ((),(true,()))else k v) (K:=λ_ v=>some ((),(false,())))
  (λn i v hi=>by simp only[Zct,WN hi,Wg hi,Wj hi,Wf (show i<4611686018427387904 by omega),cond_true])
  (λn v=>by simp only[Zct,WV (Xn l.length),cond_false]) ()
 refine h1.trans ?_;rw[Was (p:=λx:Opn=>x.1==11) (E:=λ_=>some ((),(true,()))) l 0 () (λj x v k _=>rfl)];cases l.any λo:Opn=>o.1==11<;>rfl
theorem WmT{N:Nat}{l:List Opn}(hl:l.length<=1048576)(hN:1048576<N):Zic N l=ret (WgD l):=by
 unfold Zic WgD;simp only[Wg3 hl hN,ret,Xd];cases Wo5 l with
 |false=>rfl
 |true=>
  simp only[Wg7 hl hN,ret,Xd,Xs,cond_false,Xbt];have h1:=Wq (l:=l) (V:=Unit) (R:=Unit×Ko) (lp:=λn j v=>Zen N l (some ((),(false,()))) (λi8 t9=>some ((),(true,()))) n j) (n:=N) (by omega)
   (body:=λj x v k=>bif Wix x==2 then some ((),(false,()))else k v) (K:=λ_ v=>some ((),(true,())))
   (λn i v hi=>by simp only[Zen,WN hi,Wg hi,Wj hi,Wf (show i<4611686018427387904 by omega),cond_true,Wdx,ret,Xd])
   (λn v=>by simp only[Zen,WV (Xn l.length),cond_false]) ()
  (try simp only[]at h1)
  rw[h1,Was (p:=λx=>Wix x==2) (E:=λ_=>some ((),(false,()))) l 0 () (λj x v k _=>rfl)];have e:l.any WfL=((l.any λo=>o.1==11)||l.any λo=>Wix o==2):=by
   clear h1 hl
   induction l with
   |nil=>rfl
   |cons x l ih=>
    simp only[List.any_cons,ih,WfL];cases x.1==11<;>cases Wix x==2<;>simp
  rw[e];cases l.any λo:Opn=>o.1==11<;>cases l.any λo=>Wix o==2<;>rfl
theorem Wm5{N:Nat}{l:List Opn}(hl:l.length<=1048576)(hN:1048576<N):Zid N l=ret (WgD l):=by
 unfold Zid WgD;have h1:=Wq (l:=l) (V:=Unit) (R:=Unit×Ko) (lp:=λn j v=>Zeo N l (some ((),(false,()))) (λay ai=>((Zc9 N l).bind λcJ=>(some ((),(cJ.2.1,()))))) n j) (n:=N) (by omega)
  (body:=λj x v k=>bif WfL x then some ((),(false,()))else k v) (K:=λ_ v=>ret (Wo5 l))
  (λn i v hi=>by
   simp only[Zeo,WN hi,Wg hi,Wj hi,Wf (show i<4611686018427387904 by omega),cond_true,WfD,ret,Xd,WfL];cases l[i].1==11<;>rfl)
  (λn v=>by simp only[Zeo,WV (Xn l.length),cond_false,Wg2 hl hN,ret,Xd]) ()
 refine h1.trans ?_;rw[Was (p:=WfL) (E:=λ_=>some ((),(false,()))) l 0 () (λj x v k _=>rfl)];cases l.any WfL<;>cases Wo5 l<;>rfl
def WeY(l:List Int):Bool:=decide (l.length=4)&&l.all Wbh
theorem Wc1{N:Nat}{l:List Int}(hl:l.length<=1048576)(hN:1048576<N):Zab N l 4=ret (WeY l):=by
 unfold Zab WeY;have h1:=Wq (l:=l) (V:=Unit) (R:=Unit×Ko) (lp:=λn j v=>Za3 N l 4 (some ((),(false,()))) (λi8 t9=>some ((),((Wb l)==(4:Int),()))) n j) (n:=N) (by omega)
  (body:=λj x v k=>bif !Wbh x then some ((),(false,()))else k v) (K:=λ_ v=>some ((),((Wb l)==(4:Int),())))
  (λn i v hi=>by simp only[Za3,WN hi,Wg hi,Wj hi,Wf (show i<4611686018427387904 by omega),cond_true,Wp,ret,Xd])
  (λn v=>by simp only[Za3,WV (Xn l.length),cond_false]) ()
 refine h1.trans ?_;rw[Was (p:=λx=>!Wbh x) (E:=λ_=>some ((),(false,()))) l 0 () (λj x v k _=>rfl),Wb1];have e:((Wb l)==(4:Int))=decide (l.length=4):=by
  by_cases h:l.length=4
  .simp[Wb,h]
  .simp[Wb,h];omega
 rw[e];cases l.all Wbh<;>simp
end
section
section
variable{o:Opn}
theorem WpZ(h:Wan o=true)(h1:1<=o.1)(h4:o.1<=4):Wi o.2.1=true/\(o.1=1->Wbh o.2.2.1=true)/\(o.1≠1->Wi o.2.2.1=true/\Wi o.2.2.2=true):=by
 obtain⟨k,a,b,c⟩:=o;simp only at h1 h4;have:k=1\/k=2\/k=3\/k=4:=by omega
 rcases this with rfl|rfl|rfl|rfl
 .have:(Wi a&&Wbh b&&(c==(0:Int)))=true:=h;simp only[Xi]at this;exact⟨this.1.1,λ_=>this.1.2,λh=>absurd rfl h⟩
 all_goals
  have:(Wi a&&Wi b&&Wi c)=true:=h;simp only[Xi]at this;exact⟨this.1.1,λh=>by simp at h,λ_=>⟨this.1.2,this.2⟩⟩
theorem WtZ(h:Wan o=true)(h5:o.1=5):Wi o.2.1=true/\W2 o.2.2.1=true:=by
 obtain⟨k,a,b,c⟩:=o;simp only at h5;subst h5;have:(Wi a&&W2 b&&(c==(0:Int)))=true:=h;simp only[Xi]at this;exact this.1
theorem Wv0(h:Wan o=true)(h5:o.1=6):W2 o.2.1=true/\Wi o.2.2.1=true:=by
 obtain⟨k,a,b,c⟩:=o;simp only at h5;subst h5;have:(W2 a&&Wi b&&(c==(0:Int)))=true:=h;simp only[Xi]at this;exact this.1
theorem Wvm(h:Wan o=true)(h5:o.1=7):Wi o.2.1=true/\1<=o.2.2.1/\o.2.2.1<=20:=by
 obtain⟨k,a,b,c⟩:=o;simp only at h5;subst h5;have:(Wi a&&(decide (1<=b)&&decide (b<=20))&&(c==(0:Int)))=true:=h;simp only[Xi,decide_eq_true_eq]at this;exact⟨this.1.1,this.1.2.1,this.1.2.2⟩
theorem Wwa(h:Wan o=true)(h5:o.1=8):Wi o.2.1=true:=by
 obtain⟨k,a,b,c⟩:=o;simp only at h5;subst h5;have:(Wi a&&(b==(0:Int))&&(c==(0:Int)))=true:=h;simp only[Xi]at this;exact this.1.1
theorem Wnd(h:Wan o=true):1<=o.1/\o.1<=16:=by
 by_cases hk:1<=o.1/\o.1<=16
 .exact hk
 .exfalso;have e:∀n:Int,1<=n->n<=16->(o.1==n)=false:=λn h1 h2=>by simp;omega
  unfold Wan at h;rw[e 1 (by omega) (by omega),e 2 (by omega) (by omega),e 3 (by omega) (by omega),e 4 (by omega) (by omega),e 5 (by omega) (by omega),e 6 (by omega) (by omega),e 7 (by omega) (by omega),e 8 (by omega) (by omega),
   e 9 (by omega) (by omega),e 10 (by omega) (by omega),e 11 (by omega) (by omega),e 12 (by omega) (by omega),e 13 (by omega) (by omega),e 14 (by omega) (by omega),e 15 (by omega) (by omega),e 16 (by omega) (by omega)]at h
  cases h
end
theorem WaX{x:Int}{l:List Int}(h:Wi x=true)(hl:l.length=4):inb x l.length=true:=by
 unfold Wi at h;simp at h;unfold inb;simp;omega
structure Vals(n:Nat)(l:List Int):Prop where
 len:l.length=n
 val:∀x∈l,0<=x/\x<=65535
theorem Vals.get{n:Nat}{l:List Int}(h:Vals n l)(i:Nat):0<=l.getD i 0/\l.getD i 0<=65535:=by
 by_cases hi:i<l.length
 .rw[Wh hi];exact h.val _ (Xo hi)
 .rw[Xac,Xbg (by omega)];simp
theorem Vals.set{n:Nat}{l:List Int}(h:Vals n l)(i:Nat){x:Int}(hx:0<=x/\x<=65535):Vals n (l.set i x):=
 ⟨by rw[Xaf];exact h.len,λy hy=>by
  rcases List.mem_or_eq_of_mem_set hy with hy|hy
  .exact h.val y hy
  .rw[hy];exact hx⟩
theorem Wa8{x:Int}:Wbh x=true↔0<=x/\x<=65535:=by unfold Wbh;simp
theorem WeD{l:List Int}:WeY l=true↔Vals 4 l:=by
 unfold WeY;rw[Xi,decide_eq_true_eq,Xak];exact⟨λh=>⟨h.1,λx hx=>Wa8.1 (h.2 x hx)⟩,λh=>⟨h.len,λx hx=>Wa8.2 (h.val x hx)⟩⟩
theorem Wct{l:List Int}:Wd1 l=true↔Vals 8 l:=by
 unfold Wd1;rw[Xi,decide_eq_true_eq,Xak];exact⟨λh=>⟨h.1,λx hx=>Wa8.1 (h.2 x hx)⟩,λh=>⟨h.len,λx hx=>Wa8.2 (h.val x hx)⟩⟩
def WmP(o:Opn)(r:List Int):List Int:=
 bif o.1==1 then r.set o.2.1.toNat o.2.2.1 else
 bif o.1==2 then r.set o.2.1.toNat ((r.getD o.2.2.1.toNat 0+r.getD o.2.2.2.toNat 0)%65536)else
 bif o.1==3 then r.set o.2.1.toNat ((r.getD o.2.2.1.toNat 0-r.getD o.2.2.2.toNat 0+65536)%65536)else
 bif decide (r.getD o.2.2.1.toNat 0<r.getD o.2.2.2.toNat 0)then r.set o.2.1.toNat 1 else r.set o.2.1.toNat 0
theorem Wcn{x:Int}(h:0<=x):WiQ x 65536=x%65536:=by unfold WiQ;exact Xec h
theorem Wkj{o:Opn}{r:List Int}(h:Wan o=true)(h1:1<=o.1)(h4:o.1<=4)(hr:Vals 4 r):Vals 4 (WmP o r):=by
 obtain⟨_,hv,_⟩:=WpZ h h1 h4;unfold WmP;cases e1:o.1==1
 .cases o.1==2
  .cases o.1==3
   .cases decide (r.getD o.2.2.1.toNat 0<r.getD o.2.2.2.toNat 0)
    .exact hr.set _ (by omega)
    .exact hr.set _ (by omega)
   .exact hr.set _ (by omega)
  .exact hr.set _ (by omega)
 .exact hr.set _ (Wa8.1 (hv (by simpa using e1)))
section
variable{N:Nat}{o:Opn}{r:List Int}
theorem WgZ(hN:1048576<N)(h:Wan o=true)(h1:1<=o.1)(h4:o.1<=4)(hr:Vals 4 r):Znn N o r=some ((),(WmP o r,(true,()))):=by
 obtain⟨ha,hv,xM⟩:=WpZ h h1 h4;unfold Znn Zr;have e0:WA r.length=true:=Ww (by rw[hr.len];omega);have e4:decide (o.1>4)=false:=by simp;omega
 have e5:WeY r=true:=WeD.2 hr;have ea:=WaX ha hr.len;have ez:inz 65536=true:=rfl;have gb:=hr.get o.2.2.1.toNat;have gc:=hr.get o.2.2.2.toNat;simp only[e0,cond_true,Xd,WeN,ret,h,Xs,cond_false,e4,Wc1 (l:=r) (by rw[hr.len];omega) hN,e5,ea,ez];unfold WmP;by_cases k1:o.1=1
 .have b:(o.1==1)=true:=by simp[k1]
  rw[b];rfl
 .have b:(o.1==1)=false:=by simp[k1]
  obtain⟨hb,hc⟩:=xM k1;rw[b];simp only[cond_false,WaX hb hr.len,WaX hc hr.len,cond_true,Xaf,ea];have s1:We .i64 (r.getD o.2.2.1.toNat 0) (r.getD o.2.2.2.toNat 0)=r.getD o.2.2.1.toNat 0+r.getD o.2.2.2.toNat 0:=WC (by unfold I64;omega);have s2:WW .i64 (r.getD o.2.2.1.toNat 0) (r.getD o.2.2.2.toNat 0)=r.getD o.2.2.1.toNat 0-r.getD o.2.2.2.toNat 0:=Wag (by unfold I64;omega);have s3:We .i64 (r.getD o.2.2.1.toNat 0-r.getD o.2.2.2.toNat 0) 65536=r.getD o.2.2.1.toNat 0-r.getD o.2.2.2.toNat 0+65536:=WC (by unfold I64;omega);rw[s1,s2,s3,Wcn (by omega),Wcn (by omega)];cases o.1==2
  .cases o.1==3
   .simp only[cond_false,Wl,Xej];cases decide (r.getD o.2.2.1.toNat 0<r.getD o.2.2.2.toNat 0)<;>rfl
   .rfl
  .rfl
end
def Www(c:List Int)(rows:List Rw):List Int:=rows.foldr (λr c=>c.set r.1.toNat r.2) c
def WcP(l:List Rw):Prop:=∀r∈l,(0<=r.1/\r.1<=7)/\0<=r.2/\r.2<=65535
theorem Whn{l:List Rw}:l.all WhX=true↔WcP l:=by
 rw[Xak];unfold WcP WhX W2 Wbh;simp
theorem Wcd{N:Nat}{l:List Int}(h:l.length<=1048576):Zr N l=ret l:=by
 unfold Zr;simp only[WsW h,cond_true]
end
section
abbrev Cur:=List Int×Int×Int
def WaA(c:Cur):Prop:=0<=c.2.1/\c.2.1<=c.1.length/\c.1.length<=1048576
def Wq4{α:Type}(P:α->Prop)(r:Option ((Cur×Unit)×(α×Unit))):Prop:=∃c v,r=some ((c,()),(v,()))/\WaA c/\P v
theorem Woq(x:Int):∃n:Nat,n<=255/\WtQ .i64 x 255=n:=by
 refine⟨(BitVec.ofInt 64 x&&&BitVec.ofInt 64 255).toNat,?_,?_⟩
 .rw[BitVec.toNat_and];exact Xcr Xgu (by decide)
 .unfold WtQ;have:(BitVec.ofInt 64 x&&&BitVec.ofInt 64 255).toNat<=255:=by
   rw[BitVec.toNat_and];exact Xcr Xgu (by decide)
  exact wrap_i64 (WvZ (p:=(BitVec.ofInt 64 x&&&BitVec.ofInt 64 255).toNat) (by omega))
theorem Ws4{N:Nat}{code:List Int}(h:code.length<=1048576)(hN:1048576<N):∃c,WaA c/\Zj8 N code=ret c:=by
 have key:∀(n j:Nat) (v:Int),j<=code.length->code.length-j<n->∃hh i t,∀{R:Type} (K:Int->Int->Bool->Option R),Zcv N code K n v (j:Int)=K hh i t:=by
  intro n
  induction n with
  |zero=>intro j v _ h2;omega
  |succ n ih=>
   intro j v h1 h2;by_cases hj:j<code.length
   .by_cases h4:j<4000
    .obtain⟨hh,i,t,e⟩:=ih (j+1) _ hj (by omega);refine⟨hh,i,t,λK=>?_⟩;have e1:decide ((j:Int)<4000)=true:=by simp;omega
     simp only[Zcv,WN hj,Wg hj,e1,cond_true,Wf (show j<4611686018427387904 by omega)];exact e K
    .refine⟨v,j,decide ((j:Int)<4000),λK=>?_⟩;have e1:decide ((j:Int)<4000)=false:=by simp;omega
     simp only[Zcv,WN hj,e1,cond_true,cond_false]
   .refine⟨v,j,false,λK=>?_⟩;simp only[Zcv,WV (show code.length<=j by omega),cond_false]
 obtain⟨hh,i,t,e⟩:=key N 0 (We .i64 10101 (Wb code)) (Nat.zero_le _) (by omega);refine⟨(code,0,hh),⟨by simp,by simp,h⟩,?_⟩;unfold Zj8;exact e _
theorem Wep{N:Nat}{c:Cur}(h:WaA c):Wq4 (λv=>0<=v/\v<=255) (Zgd N c):=by
 unfold Zgd;obtain⟨h1,h2,h3⟩:=h;have e1:inn 33=true:=rfl;have e2:inn 45=true:=rfl;simp only[e1,e2,cond_true];by_cases hi:c.2.1<c.1.length
 .have e3:decide (c.2.1<Wb c.1)=true:=decide_eq_true hi;have e4:inb c.2.1 c.1.length=true:=by unfold inb;simp;exact⟨h1,hi⟩
  have e5:We .i64 c.2.1 1=c.2.1+1:=WC (by unfold I64;omega);rw[e3,e4,e5];simp only[cond_true];obtain⟨n,hn,e⟩:=Woq (We .i64 (WtQ .i64 (WvR .i64 (Wqu .i64 (We .i64 (Wiw .i64 c.2.2 (6364136223846793005:Int)) (1442695040888963407:Int)) (33:Int)) (Wqu .i64 (We .i64 (Wiw .i64 c.2.2 (6364136223846793005:Int)) (1442695040888963407:Int)) (45:Int))) (255:Int)) (IntKind.wrap .i64 (Xb c.1 (Xa c.2.1) (0:Int))));exact⟨_,_,rfl,⟨by simp;omega,by simp;omega,h3⟩,by rw[e];omega⟩
 .have e3:decide (c.2.1<Wb c.1)=false:=decide_eq_false hi;rw[e3];simp only[cond_false];obtain⟨n,hn,e⟩:=Woq (WvR .i64 (Wqu .i64 (We .i64 (Wiw .i64 c.2.2 (6364136223846793005:Int)) (1442695040888963407:Int)) (33:Int)) (Wqu .i64 (We .i64 (Wiw .i64 c.2.2 (6364136223846793005:Int)) (1442695040888963407:Int)) (45:Int)));exact⟨_,_,rfl,⟨h1,h2,h3⟩,by rw[e];omega⟩
theorem Wn6{v n:Int}(hv:0<=v)(hn:0<n):0<=WiQ v n/\WiQ v n<n:=by
 have e:WiQ v n=v%n:=by unfold WiQ;exact Xec hv
 rw[e];exact⟨Int.emod_nonneg v (by omega),Int.emod_lt_of_pos v hn⟩
theorem WgA{N:Nat}{c:Cur}{n:Int}(h:WaA c):Wq4 (λv=>(n<=0->v=0)/\(0<n->0<=v/\v<n)) (Zb N c n):=by
 unfold Zb;by_cases h0:n<=0
 .have e:decide (n<=0)=true:=by simpa using h0
  rw[e];exact⟨_,_,rfl,h,λ_=>rfl,λh=>by omega⟩
 .have e:decide (n<=0)=false:=by simpa using h0
  have ez:inz n=true:=by unfold inz;simp;omega
  rw[e];simp only[cond_false,ez,cond_true];by_cases h1:n<=256
  .have e:decide (n<=256)=true:=by simpa using h1
   rw[e];obtain⟨c1,v,e1,hc,hv⟩:=Wep (N:=N) h;rw[e1];have:=Wn6 hv.1 (show 0<n by omega);exact⟨_,_,rfl,hc,λh=>by omega,λ_=>this⟩
  .have e:decide (n<=256)=false:=by simpa using h1
   rw[e];obtain⟨c1,v1,e1,kx,ry⟩:=Wep (N:=N) h;obtain⟨c2,v2,e2,ep,gz⟩:=Wep (N:=N) kx;obtain⟨c3,v3,e3,oS,tU⟩:=Wep (N:=N) ep;obtain⟨c4,v4,e4,rV,hv4⟩:=Wep (N:=N) oS;simp only[cond_false,e1,e2,e3,e4,Xd];have m1:Wiw .i64 v1 16777216=v1*16777216:=Wgm (by unfold I64;omega);have m2:Wiw .i64 v2 65536=v2*65536:=Wgm (by unfold I64;omega);have m3:Wiw .i64 v3 256=v3*256:=Wgm (by unfold I64;omega);have a1:We .i64 (v1*16777216) (v2*65536)=v1*16777216+v2*65536:=WC (by unfold I64;omega);have a2:We .i64 (v1*16777216+v2*65536) (v3*256)=v1*16777216+v2*65536+v3*256:=WC (by unfold I64;omega);have a3:We .i64 (v1*16777216+v2*65536+v3*256) v4=v1*16777216+v2*65536+v3*256+v4:=WC (by unfold I64;omega);rw[m1,m2,m3,a1,a2,a3];have:=Wn6 (show 0<=v1*16777216+v2*65536+v3*256+v4 by omega) (show 0<n by omega);exact⟨_,_,rfl,rV,λh=>by omega,λ_=>this⟩
end
section
theorem Wrq{N:Nat}{c:Cur}{n:Int}(h:WaA c):Wq4 (λ_=>True) (Zu N c n):=by
 unfold Zu;obtain⟨c1,v,e1,hc,hv⟩:=WgA (N:=N) (n:=n) h;rw[e1];exact⟨_,_,rfl,hc,trivial⟩
theorem WqG{N:Nat}{c:Cur}{l:List Int}(h:WaA c)(hl:0<l.length)(eS:l.length<4611686018427387904):Wq4 (λv=>v∈l) (Zbt N c l):=by
 unfold Zbt;obtain⟨c1,v,e1,hc,hv⟩:=WgA (N:=N) (n:=Wb l) h;rw[e1];have hv:=hv.2 (by unfold Wb;omega);unfold Wb at hv;obtain⟨q,rfl⟩:=Xft hv.1;have hq:q<l.length:=by omega
 simp only[Xd,Wg hq,cond_true,Wj hq];exact⟨_,_,rfl,hc,Xo hq⟩
end
section
def Drw{ρ:Type}(P:ρ->Prop)(r:Option ((Cur×Unit)×ρ)):Prop:=∃c v,r=some ((c,()),v)/\WaA c/\P v
theorem Drw.of{α:Type}{P:α->Prop}{r:Option ((Cur×Unit)×(α×Unit))}(h:Wq4 P r):Drw (λv:α×Unit=>P v.1) r:=by
 obtain⟨c,v,e,h1,h2⟩:=h;exact⟨c,(v,()),e,h1,h2⟩
theorem Drw.bind{ρ σ:Type}{P:ρ->Prop}{Q:σ->Prop}{r:Option ((Cur×Unit)×ρ)}{k:(Cur×Unit)×ρ->Option ((Cur×Unit)×σ)}(h:Drw P r)(hk:∀c v,WaA c->P v->Drw Q (k ((c,()),v))):Drw Q (r.bind k):=by
 obtain⟨c,v,e,h1,h2⟩:=h;rw[e];exact hk c v h1 h2
theorem Drw.ok{ρ:Type}{P:ρ->Prop}{c:Cur}{v:ρ}(hc:WaA c)(hv:P v):Drw P (some ((c,()),v)):=⟨c,v,rfl,hc,hv⟩
theorem Drw.bif{ρ:Type}{P:ρ->Prop}{b:Bool}{x y:Option ((Cur×Unit)×ρ)}(h1:b=true->Drw P x)(h2:b=false->Drw P y):Drw P (bif b then x else y):=by
 cases b
 .exact h2 rfl
 .exact h1 rfl
theorem Drw.bifT{ρ:Type}{P:ρ->Prop}{b:Bool}{x y:Option ((Cur×Unit)×ρ)}(hb:b=true)(h1:Drw P x):Drw P (bif b then x else y):=by rw[hb];exact h1
theorem Drw.mono{ρ:Type}{P Q:ρ->Prop}{r:Option ((Cur×Unit)×ρ)}(h:Drw P r)(hq:∀v,P v->Q v):Drw Q r:=by
 obtain⟨c,v,e,h1,h2⟩:=h;exact⟨c,v,e,h1,hq v h2⟩
section
variable{N:Nat}{c:Cur}
theorem Wal(n:Int)(h:WaA c):Drw (λv:Int×Unit=>(n<=0->v.1=0)/\(0<n->0<=v.1/\v.1<n)) (Zb N c n):=.of (WgA h)
theorem Wdz(n:Int)(h:WaA c):Drw (λ_:Bool×Unit=>True) (Zu N c n):=.of (Wrq h)
theorem Wu7(l:List Int)(h:WaA c)(hl:0<l.length)(eS:l.length<1000):Drw (λv:Int×Unit=>v.1∈l) (Zbt N c l):=.of (WqG h hl (by omega))
theorem WwE(h:WaA c):Drw (λv:Int×Unit=>0<=v.1/\v.1<=3) (Za N c):=by
 unfold Za;exact(Wal 4 h).bind λc v hc hv=>.ok hc (by have:=hv.2 (by decide);simp only[];omega)
theorem Wwc(h:WaA c):Drw (λv:Int×Unit=>0<=v.1/\v.1<=65535) (Zho N c):=by
 unfold Zho;refine(Wdz 6 h).bind λc v hc _=>.bif (λ_=>?_) λ_=>?_
 .refine(Wu7 _ hc (by decide) (by decide)).bind λc v hc hv=>.ok hc ?_;simp only[Xq,List.not_mem_nil,or_false]at hv⊢;omega
 .exact(Wal 9 hc).bind λc v hc hv=>.ok hc (by have:=hv.2 (by decide);simp only[];omega)
theorem Wwu(h:WaA c):Drw (λv:Int×Unit=>0<=v.1/\v.1<=7) (Zb2 N c):=by
 unfold Zb2;refine(Wdz 8 h).bind λc v hc _=>.bif (λ_=>?_) λ_=>?_
 .exact(Wal 8 hc).bind λc v hc hv=>.ok hc (by have:=hv.2 (by decide);simp only[];omega)
 .exact(Wal 3 hc).bind λc v hc hv=>.ok hc (by have:=hv.2 (by decide);simp only[];omega)
theorem WwD(h:WaA c):Drw (λv:Int×Unit=>True) (Zi N c):=by
 unfold Zi;refine(Wdz 4 h).bind λc v hc _=>.bif (λ_=>?_) λ_=>?_
 .exact(Wal 8 hc).bind λc v hc hv=>.ok hc trivial
 .exact(Wu7 _ hc (by decide) (by decide)).bind λc v hc hv=>.ok hc trivial
theorem Wn9(kind:Int)(h:WaA c):Drw (λ_:Opn×Unit=>True) (Zh N c kind):=by
 unfold Zh
 repeat' first
  |with_reducible refine Drw.bif (λ_=>?_) λ_=>?_
  |with_reducible refine(WwE (by assumption)).bind λc v hc hv=>?_
  |with_reducible refine(Wwc (by assumption)).bind λc v hc hv=>?_
  |with_reducible refine(Wwu (by assumption)).bind λc v hc hv=>?_
  |with_reducible refine(WwD (by assumption)).bind λc v hc hv=>?_
  |with_reducible refine(Wal _ (by assumption)).bind λc v hc hv=>?_
  |with_reducible exact .ok (by assumption) trivial
theorem Wsc{rec:Cur->Int->Int->Bool->Option ((Cur×Unit)×(List Opn×Unit))}{most deep:Int}{kid:Bool}(hm:0<=most/\most<=100)
  (bm:∀c (m d:Int),WaA c->0<=m->m<most->Drw (λv:List Opn×Unit=>(v.1.length:Int)<=m+2) (rec c m d kid)):
  ∀(n i:Nat) (c:Cur) (l:List Opn),i<n->i<=1000->WaA c->(l.length:Int)<=most+2->Drw (λv:List Opn×Unit=>(v.1.length:Int)<=most+2) (Zc N rec most deep kid (λj9 ka eD eE=>(some ((eD,()),(eE,())))) n (i:Int) c l)
 |0,i,c,l,h,_,_,_=>by omega
 |n+1,i,c,l,h,hib,hc,hl=>by
  have hs:(0:Int)<i->WW .i64 (i:Int) 1=((i-1:Nat):Int):=λh0=>by rw[Wag (by unfold I64;omega)];omega
  have lm:WW .i64 most (Wb l)=most-(l.length:Int):=Wag (by unfold I64 Wb;omega);have jV:WW .i64 (most-(l.length:Int)) 3=most-(l.length:Int) -3:=Wag (by unfold I64;omega);simp only[Zc,lm,jV];refine .bif (λh0=>?_) λ_=>.ok hc hl;have h0:(i:Int)>0:=of_decide_eq_true h0;rw[hs h0];refine .bif (λh1=>?_) λ_=>.ok hc hl;have h1:(l.length:Int)<most:=of_decide_eq_true h1;have next:∀c' (l':List Opn),WaA c'->(l'.length:Int)<=most+2->Drw (λv:List Opn×Unit=>(v.1.length:Int)<=most+2) (Zc N rec most deep kid (λj9 ka eD eE=>(some ((eD,()),(eE,())))) n ((i-1:Nat):Int) c' l'):=
   λc' l' h1 h2=>Wsc hm bm n (i-1) c' l' (by omega) (by omega) h1 h2
  have rm:∀(a:List Opn) (b:List Opn),(a.length:Int)+b.length<=1000->WA (a.length+b.length)=true:=λa b h=>Ww (by omega);have tV:∀c' (o:Opn),WaA c'->Drw (λv:List Opn×Unit=>(v.1.length:Int)<=most+2) (bif WA (l.length+ [o].length)then Zc N rec most deep kid (λj9 ka eD eE=>(some ((eD,()),(eE,())))) n ((i-1:Nat):Int) c' (Xf l [o])else none):=
   λc' o h2=>.bifT (rm _ _ (by simp;omega)) (next _ _ h2 (by simp[Xai];omega))
  refine(Wal 20 hc).bind λc v hc hv=>?_;have tW:∀c',WaA c'->(4:Int)<=most-(l.length:Int)->Drw (λv:List Opn×Unit=>(v.1.length:Int)<=most+2) ((rec c' (most-(l.length:Int) -3) (WW .i64 deep 1) kid).bind λfX=>
           ((Zh N fX.1.1 (8:Int)).bind λfm=>
            (bif WA ((Xc l)+(Xc ([fm.2.1])))then
             (bif WA ((Xc (Xf l ([fm.2.1])))+(Xc fX.2.1))then
              ((Zu N fm.1.1 (3:Int)).bind λkH=>
               (bif kH.2.1 then
                (bif WA ((Xc (Xf (Xf l ([fm.2.1])) fX.2.1))+(Xc ([((10:Int),((0:Int),((0:Int),(0:Int))))])))then
                 (bif WA ((Xc (Xf (Xf (Xf l ([fm.2.1])) fX.2.1) ([((10:Int),((0:Int),((0:Int),(0:Int))))])))+(Xc ([((9:Int),((0:Int),((0:Int),(0:Int))))])))then
                  (Zc N rec most deep kid (λj9 ka eD eE=>(some ((eD,()),(eE,())))) n ((i-1:Nat):Int) kH.1.1 (Xf (Xf (Xf (Xf l ([fm.2.1])) fX.2.1) ([((10:Int),((0:Int),((0:Int),(0:Int))))])) ([((9:Int),((0:Int),((0:Int),(0:Int))))])))else none)else none)
                else
                (bif WA ((Xc (Xf (Xf l ([fm.2.1])) fX.2.1))+(Xc ([((9:Int),((0:Int),((0:Int),(0:Int))))])))then
                 (Zc N rec most deep kid (λj9 ka eD eE=>(some ((eD,()),(eE,())))) n ((i-1:Nat):Int) kH.1.1 (Xf (Xf (Xf l ([fm.2.1])) fX.2.1) ([((9:Int),((0:Int),((0:Int),(0:Int))))])))else none)))else none)else none))):=λc' fJ h4=>by
   refine(bm c' _ _ fJ (by omega) (by omega)).bind λc2 v2 ep gz=>(Wn9 8 ep).bind λc3 v3 oS _=>?_;simp only[];refine .bifT (rm _ _ (by simp;omega)) (.bifT (rm _ _ (by simp[Xai];omega)) ((Wdz 3 oS).bind λc4 v4 rV _=>.bif (λ_=>?_) λ_=>?_))
   .exact .bifT (rm _ _ (by simp[Xai];omega)) (.bifT (rm _ _ (by simp[Xai];omega)) (next _ _ rV (by simp[Xai];omega)))
   .exact .bifT (rm _ _ (by simp[Xai];omega)) (next _ _ rV (by simp[Xai];omega))
  repeat' first
   |with_reducible exact tV _ _ (by assumption)
   |with_reducible refine Drw.bif (λ_=>?_) λ_=>?_
   |with_reducible refine(Wn9 _ (by assumption)).bind λc v hc hv=>?_
   |with_reducible refine(Wdz _ (by assumption)).bind λc v hc hv=>?_
   |with_reducible refine(Wal _ (by assumption)).bind λc v hc hv=>?_
   |exact tW _ (by assumption) (by simp only[decide_eq_true_eq,ge_iff_le]at*;omega)
  all_goals
   rename_i hx;have hx:=of_decide_eq_true hx;refine(bm _ 2 0 (by assumption) (by omega) (by omega)).bind λc2 v2 ep gz=>(Wn9 7 ep).bind λc3 v3 oS _=>?_;simp only[];exact .bifT (rm _ _ (by simp;omega)) (.bifT (rm _ _ (by simp[Xai];omega)) (next _ _ oS (by simp[Xai];omega)))
theorem Wt0(hN:1048576<N):∀(m:Nat) (c:Cur) (most deep:Int) (kid:Bool),WaA c->0<=most->most<=100->most<m->Drw (λv:List Opn×Unit=>(v.1.length:Int)<=most+2) (Ze2 N m c most deep kid)
 |0,c,most,deep,kid,hc,h0,h1,h2=>by omega
 |m+1,c,most,deep,kid,hc,h0,h1,h2=>by
  unfold Ze2;refine(Wal most hc).bind λc v hc hv=>?_;have gz:0<=v.1/\v.1<=100:=by
   by_cases hm:most<=0
   .have:=hv.1 hm;omega
   .have:=hv.2 (by omega);omega
  have e:We .i64 1 v.1=(((1+v.1).toNat:Nat):Int):=by rw[WC (by unfold I64;omega)];omega
  simp only[e];exact Wsc ⟨h0,h1⟩ (λc m' d fJ q0 q1=>Wt0 hN m c m' d kid fJ q0 (by omega) (by omega)) N _ c [] (by omega) (by omega) hc (by simp;omega)
theorem Wv6(hN:1048576<N){most deep:Int}{kid:Bool}(hc:WaA c)(h0:0<=most)(h1:most<=100):Drw (λv:List Opn×Unit=>v.1.length<=102) (Zj9 N c most deep kid):=by
 unfold Zj9;exact(Wt0 hN N c most deep kid hc h0 h1 (by omega)).mono λv hv=>by omega
theorem Wn5(hN:1048576<N):∀(n i:Nat) (c:Cur) (l:List Int),8-i<n->i<=8->WaA c->l.length=i->
  Drw (λv:List Int×Unit=>v.1.length=8) (Zcr N (λoC ai ac bn=>(some ((ac,()),(bn,())))) n (i:Int) c l)
 |0,i,c,l,h,_,_,_=>by omega
 |n+1,i,c,l,h,hi,hc,hl=>by
  unfold Zcr;refine .bif (λh0=>?_) λh0=>.ok hc (by have h0:=of_decide_eq_false h0;simp only[];omega);have h0:(i:Int)<8:=of_decide_eq_true h0;rw[Wf (show i<4611686018427387904 by omega)];refine(Wwc hc).bind λc v hc hv=>.bifT (Ww (by simp;omega)) ?_;exact Wn5 hN n (i+1) c _ (by omega) (by omega) hc (by simp[Xai];omega)
theorem Wwm(hN:1048576<N)(hc:WaA c):Drw (λv:List Int×Unit=>v.1.length=8) (Zf0 N c):=by
 unfold Zf0;exact Wn5 hN N 0 c [] (by omega) (by omega) hc rfl
end
end
section
theorem WpK{α:Type}{a b:Option α}(h:a=b):Whg a b=a:=by unfold Whg;rw[if_pos h]
section
variable{N:Nat}{c:Cur}
theorem WoE(hN:1048576<N){aK:List Opn}(dM:aK.length<=300):∀(n i:Nat) (c:Cur) (l:List (List Opn)),i<n->i<=100->WaA c->l.length+i<=100->(∀x∈l,x.length<=200)->
  Drw (λv:(List Opn×List (List Opn))×Unit=>v.1.1.length<=300/\v.1.2.length<=100/\∀x∈v.1.2,x.length<=200) (Zf1 N aK (λxA gE tu fj=>(some ((tu,()),((aK,fj),())))) n (i:Int) c l)
 |0,i,c,l,h,_,_,_,_=>by omega
 |n+1,i,c,l,h,hi,hc,hl,hx=>by
  unfold Zf1;refine .bif (λh0=>?_) λ_=>.ok hc ⟨dM,by simp only[];omega,hx⟩;have h0:(i:Int)>0:=of_decide_eq_true h0;have e:WW .i64 (i:Int) 1=((i-1:Nat):Int):=by rw[Wag (by unfold I64;omega)];omega
  rw[e];refine(Wal 5 hc).bind λc v hc hv=>?_;have hv:=hv.2 (by decide);have e2:We .i64 2 v.1=2+v.1:=WC (by unfold I64;omega);simp only[e2];refine(Wv6 hN hc (by omega) (by omega)).bind λc w hc hw=>.bifT (Ww (by simp;omega)) ?_;refine WoE hN dM n (i-1) c _ (by omega) (by omega) hc (by simp[Xai];omega) λx eM=>?_;simp[Xai]at eM;rcases eM with eM|eM
  .exact hx x eM
  .rw[eM];omega
theorem Wvz(hN:1048576<N){b:Bool}(hc:WaA c):Drw (λv:(List Opn×List (List Opn))×Unit=>v.1.1.length<=300/\v.1.2.length<=100/\∀x∈v.1.2,x.length<=200) (Zec N c b):=by
 unfold Zec;refine .bif (λ_=>?_) λ_=>?_
 .refine(Wal 8 hc).bind λc v hc hv=>?_;have hv:=hv.2 (by decide);have e2:We .i64 3 v.1=3+v.1:=WC (by unfold I64;omega);simp only[e2];exact(Wv6 hN hc (by omega) (by omega)).bind λc w hc hw=>.ok hc ⟨by simp only[];omega,by simp,by simp⟩
 .refine(Wal 4 hc).bind λc v hc hv=>?_;have hv:=hv.2 (by decide);have e2:We .i64 1 v.1=1+v.1:=WC (by unfold I64;omega);simp only[e2];refine(Wv6 hN hc (by omega) (by omega)).bind λc w hc hw=>(Wal 4 hc).bind λc v2 hc gz=>?_;have gz:=gz.2 (by decide);have e3:We .i64 1 v2.1=1+v2.1:=WC (by unfold I64;omega);simp only[e3];refine(Wv6 hN hc (by omega) (by omega)).bind λc w2 hc v7=>.bifT (Ww (by simp;omega)) (.bifT (Ww (by simp[Xai];omega)) ((Wal 3 hc).bind λc v3 hc tU=>?_));have tU:=tU.2 (by decide);have e4:We .i64 1 v3.1=(((1+v3.1).toNat:Nat):Int):=by rw[WC (by unfold I64;omega)];omega
  simp only[e4];exact WoE hN (by simp[Xai];omega) N _ c [] (by omega) (by omega) hc (by simp;omega) (by simp)
theorem Wws(hc:WaA c):Drw (λv:Opn×Unit=>True) (Zol N c):=by
 unfold Zol;refine(Wal 16 hc).bind λc v hc hv=>(Wn9 _ hc).bind λc w hc _=>(Wal 16 hc).bind λc v hc hv=>.bif (λ_=>?_) λ_=>.bif (λ_=>?_) λ_=>.bif (λ_=>?_) λ_=>.bif (λ_=>?_) λ_=>.ok hc trivial
 all_goals exact(Wu7 _ hc (by decide) (by decide)).bind λc v hc hv=>.ok hc trivial
theorem Wok:∀(n:Nat) (c:Cur) (l:List Opn),600-l.length<n->WaA c->l.length<=500->
  Drw (λv:List Opn×Unit=>v.1.length<=600) (Zf2 N (λaG dG aR=>(some ((dG,()),(aR,())))) n c l)
 |0,c,l,h,_,_=>by omega
 |n+1,c,l,h,hc,hl=>by
  unfold Zf2;refine(Wal 2 hc).bind λc v hc hv=>?_;have hv:=hv.2 (by decide);have e:We .i64 24 v.1=24+v.1:=WC (by unfold I64;omega);simp only[e];refine .bif (λh0=>?_) λ_=>.ok hc (by simp only[];omega);have h0:(l.length:Int)<24+v.1:=of_decide_eq_true h0;exact .bifT (Ww (by simp;omega)) (Wok n c _ (by simp[Xai];omega) hc (by simp[Xai];omega))
theorem WvB(hN:1048576<N){l:List Opn}(hc:WaA c)(hl:l.length<=500):Drw (λv:List Opn×Unit=>v.1.length<=600) (Zhp N c l):=by
 unfold Zhp;have en:Xf ([]:List Opn) l=l:=rfl;simp only[en];refine .bifT (Ww (by simp;omega)) (.bif (λ_=>.ok hc (by simp)) λh0=>?_);have hpos:0<l.length:=by
  cases l with
  |nil=>exact absurd h0 (by decide)
  |cons a b=>simp
 refine(Wal (Wb l) hc).bind λc k hc hk=>?_;have hk:=hk.2 (by unfold Wb;omega);unfold Wb at hk;obtain⟨k,u⟩:=k;simp only at hk;obtain⟨j,rfl⟩:=Xft hk.1;have hj:j<l.length:=by omega
 have ei:inb (j:Int) l.length=true:=Wg hj;have e1:We .i64 (j:Int) 1=((j+1:Nat):Int):=Wf (by omega);have c1:((decide ((0:Int)<=(j:Int)))&&(decide ((j:Int)<=((Xc l):Int))))=true:=by simp;omega
 have c2:((decide ((0:Int)<=((j+1:Nat):Int)))&&(decide (((j+1:Nat):Int)<=((Xc l):Int))))=true:=by simp;omega
 refine(Wal 6 hc).bind λc v hc hv=>?_;simp only[e1,ei,c1,c2,cond_true,WpK rfl];refine .bif (λ_=>?_) λ_=>.bif (λ_=>.ok hc (by simp;omega)) λ_=>.bif (λ_=>?_) λ_=>.bif (λ_=>?_) λ_=>.bif (λ_=>.ok hc (by simp;omega)) λ_=>?_
 .exact(Wws hc).bind λc w hc _=>.ok hc (by simp;omega)
 .have hlen:(List.drop (Xa ((j+1:Nat):Int)) (Xav l.length l)).length=l.length-(j+1):=by rw[Xj,List.length_drop,Xal];omega
  have ii:(Xav (Xa (j:Int)) l).length=j:=by rw[Xj,Xal];omega
  exact .bifT (Ww (by rw[Xj];omega)) (.ok hc (by simp only[Xai,Xae];omega))
 .exact Wok N c l (by omega) hc hl
 .exact(Wal 2 hc).bind λc w hc _=>.ok hc (by simp;omega)
end
end
section
def Wwp(f:Y_Family)(k:Nat)(x:Y_KidRun):Y_Family:=U9 (Xm (Q9 f) k x) f
def again(f:Y_Family)(x:Y_KidRun):Y_KidRun:=(0,(0,(f.2.1,(x.2.2.2.1+1,(0,(0,(P4 f,([],([],([],(false,(0,(0,(0,0))))))))))))))
def WoL(x:Y_KidRun)(c:Int):Pb:=bif P10 x then Q11 x else(c,(0,(0,0)))
def WhF(m:Mm)(f:Y_Family)(x:Y_KidRun)(o:Int×Int×Int×Int):Y_Family×Y_KidRun:=
 match WaH (P8 x) o.2.2.1 with
 |some v=>(f,S6 (Xm (P6 x) (Xa o.2.1) v) (S1 (x.2.1+1) x))
 |none=>match ent (P6 f) o.2.2.1 with
  |some r=>bif decide (r.2.2.2>x.2.2.1)then(f,again f x)else(f,S7 (P7 x++ [r.2]) (S6 (Xm (P6 x) (Xa o.2.1) r.2.2.1) (S1 (x.2.1+1) x)))
  |none=>
   bif (WO m f.1 (WoL x o.2.2.1)).2.1==4 then(S3 true f,U11 (WO m f.1 (WoL x o.2.2.1)) (S10 true x))else
   bif (WO m f.1 (WoL x o.2.2.1)).2.1==3 then(f,U14 0 (S13 0 (S12 0 (S11 0 (S10 false (S7 (P7 x++ [(o.2.2.1,((WO m f.1 (WoL x o.2.2.1)).2.2.2,-1))]) (S6 (Xm (P6 x) (Xa o.2.1) (WO m f.1 (WoL x o.2.2.1)).2.2.2) (S1 (x.2.1+1) x))))))))else
   (f,U11 (WO m f.1 (WoL x o.2.2.1)) (S10 true x))
structure ReadOk(m:Mm)(f:Y_Family)(x:Y_KidRun)(o:Int×Int×Int×Int):Prop where
 mem:WZ m=true
 regs:(P6 x).length=4
 famr:(P4 f).length=4
 rA:0<=o.2.1/\o.2.1<=3
 cB:W2 o.2.2.1=true
 seen:(P7 x).length<=1000
 wr:(P8 x).length<=1000
 buf:(P6 f).length<=1000
 ver:∀e∈P6 f,0<=e.2.2
 since:0<=x.2.2.1
 pc:0<=x.2.1/\x.2.1<=1000
 tries:0<=x.2.2.2.1/\x.2.2.2.1<=100000
 pb:P10 x=true->Wka (Q11 x)=true
theorem ReadOk.pbO{m:Mm}{f:Y_Family}{x:Y_KidRun}{o:Int×Int×Int×Int}(h:ReadOk m f x o):Wka (WoL x o.2.2.1)=true:=by
 unfold WoL;cases hb:P10 x
 .have:=h.cB;unfold Wka;simp[this,Wbh]
 .exact h.pb hb
theorem Wsn{x:Y_KidRun}(h:P10 x=true):S10 true x=x:=by rw[←h];rfl
theorem Wcs{a:Int}(h:0<=a/\a<=1000000):We .i64 a 1=a+1:=WC (by unfold I64;omega)
theorem rgI{r:List Int}{a:Int}(h:r.length=4)(ha:0<=a/\a<=3):inb a r.length=true:=by unfold inb;rw[h];simp;omega
theorem WdY{N:Nat}{f:Y_Family}{k:Nat}{x:Y_KidRun}(hk:k<(Q9 f).length)(h:(P4 f).length=4)(ht:0<=x.2.2.2.1/\x.2.2.2.1<=100000):
  Zbk N (U9 (Xm (Q9 f) k x) f) (k:Int)=some ((Wwp f k (again f x),()),()):=by
 have e0:Zr N (P4 (U9 (Xm (Q9 f) k x) f))=ret (P4 f):=WaV (show(P4 f).length<=1048576 by omega);have e1:Q9 (U9 (Xm (Q9 f) k x) f)=Xm (Q9 f) k x:=rfl;have kB:k<(Xm (Q9 f) k x).length:=by simpa using hk
 unfold Zbk;rw[e0,e1];have e2:Xb (Xm (Q9 f) k x) (Xa (k:Int)) d_KidRun=x:=by rw[Wj kB];simp
 rw[e2,Wg kB,Wcs (by omega),Xj];simp only[cond_true,ret,Xd,Xej];rfl
theorem Wmm{N:Nat}{m:Mm}{f:Y_Family}{k:Nat}{o:Int×Int×Int×Int}(hk:k<(Q9 f).length)(h:ReadOk m f (Q9 f)[k] o)(hN:1048576<N):
  Zi6 N f (k:Int) o m=some ((Wwp (WhF m f (Q9 f)[k] o).1 k (WhF m f (Q9 f)[k] o).2,()),()):=by
 generalize hx:(Q9 f)[k]=x at h;have hw:=h.wr;have hs:=h.seen;have hb:=h.buf;have hr:=h.regs;have ex:Xb (Q9 f) (Xa (k:Int)) d_KidRun=x:=by rw[Wj hk,hx]
 unfold Zi6 WhF;simp only[Wl];rw[Wg hk,ex,Xj,Wd2 (show(P8 x).length<=1048576 by omega) hN,Wcs (by have:=h.pc;omega)];rcases WaH (P8 x) o.2.2.1 with _|v
 .simp only[opI,Xd,cond_false,cond_true];have hE:Zcl N (U9 (Xm (Q9 f) k x) f) o.2.2.1=ret (match ent (P6 f) o.2.2.1 with|some r=>(r.1:Int)|none=>-1):=Wfq (f:=U9 (Xm (Q9 f) k x) f) (show(P6 f).length<=1048576 by omega) hN;rw[hE,WdY hk h.famr h.tries];rcases he:ent (P6 f) o.2.2.1 with _|r
  .simp only[ret,Xd,show decide ((-1:Int)>=0)=false from rfl,cond_false];have hp:=h.pbO;cases hc:P10 x
   .have dI:WoL x o.2.2.1=(o.2.2.1,(0,(0,0))):=by unfold WoL;rw[hc];rfl
    have hn:Zfk N o.2.2.1=some ((),((o.2.2.1,(0,(0,0))),(true,()))):=by
     unfold Zfk;simp only[Wn,ret,Xd,h.cB,Xs,cond_false]
    rw[dI]at hp⊢;simp only[Bool.not_false,cond_true,hn,WeK h.mem hp hN,ret,Xd,rgI hr h.rA];generalize WO m f.1 (o.2.2.1,(0,(0,0)))=q;rw[Ww (by simp;omega)];cases q.2.1==4<;>cases q.2.1==3<;>rfl
   .have dI:WoL x o.2.2.1=Q11 x:=by unfold WoL;rw[hc];rfl
    rw[dI]at hp⊢;simp only[Xs,cond_false,WeK h.mem hp hN,ret,Xd,rgI hr h.rA,cond_true];generalize WO m f.1 (Q11 x)=q;rw[Ww (by simp;omega),Wsn hc];cases q.2.1==4<;>cases q.2.1==3<;>rfl
  .have hm:=Wcp he;have hi:r.1<(P6 f).length:=by have:=hm.2.2.1;omega
   have hg:(P6 f)[r.1]=r.2:=by
    have:=hm.2.2.2;rw[Nat.sub_zero,List.getElem?_eq_getElem hi]at this;exact Option.some.inj this
   have e2:decide (((r.1:Nat):Int)>=0)=true:=by simp
   simp only[ret,Xd,e2,cond_true,Wg hi,rgI hr h.rA];rw[Wj hi,hg,Ww (by simp;omega)];cases decide (r.2.2.2>x.2.2.1)<;>rfl
 .simp only[opI,Xd,cond_true,rgI hr h.rA];rfl
end
section
structure Lin{α:Type}(cf:α->α->Int):Prop where
 irr:∀x,¬cf x x<0
 tr:∀x y z,cf x y<0->cf y z<0->cf x z<0
 nt:∀x y z,¬cf x y<0->¬cf y z<0->¬cf x z<0
theorem WsQ:Lin cfE:=⟨λx=>by unfold cfE;omega,λx y z=>by unfold cfE;omega,λx y z=>by unfold cfE;omega⟩
theorem WnB:Lin cfH:=⟨λx=>by rw[Wby];omega,λx y z=>by simp only[Wby];omega,λx y z=>by simp only[Wby];omega⟩
def Ris{α:Type}(cf:α->α->Int)(l:List α):Prop:=l.Pairwise λa b=>cf a b<0
def Wc9{α:Type}(cf:α->α->Int):List α->α->List α
 | [],e=>[e]
 |x::l,e=>if cf x e<0 then x::Wc9 cf l e else if cf e x<0 then e::x::l else e::l
def Ap{α:Type}(cf:α->α->Int)(x y:α):Prop:=cf x y<0\/cf y x<0
variable{α:Type}{cf:α->α->Int}
theorem Lin.ap(h:Lin cf){x y:α}(hn:¬Ap cf x y){z:α}:(cf x z<0↔cf y z<0)/\(cf z x<0↔cf z y<0):=by
 unfold Ap at hn;refine⟨⟨λa=>?_,λa=>?_⟩,⟨λa=>?_,λa=>?_⟩⟩
 .exact Classical.byContradiction λc=>h.nt x y z (λq=>hn (.inl q)) c a
 .exact Classical.byContradiction λc=>h.nt y x z (λq=>hn (.inr q)) c a
 .exact Classical.byContradiction λc=>h.nt z y x c (λq=>hn (.inr q)) a
 .exact Classical.byContradiction λc=>h.nt z x y c (λq=>hn (.inl q)) a
theorem Wa3(hc:Lin cf){e x:α}:∀{l:List α},Ris cf l->(x∈Wc9 cf l e↔x=e\/(x∈l/\Ap cf x e))
 | [],_=>by simp[Wc9]
 |y::l,h=>by
  have hl:=(Xz.1 h);unfold Wc9;by_cases h1:cf y e<0
  .rw[if_pos h1,Xq,Wa3 hc hl.2,Xq];refine⟨?_,?_⟩
   .rintro(rfl|h|h)
    .exact .inr ⟨.inl rfl,.inl h1⟩
    .exact .inl h
    .exact .inr ⟨.inr h.1,h.2⟩
   .rintro(h|⟨rfl|h,h'⟩)
    .exact .inr (.inl h)
    .exact .inl rfl
    .exact .inr (.inr ⟨h,h'⟩)
  .rw[if_neg h1];by_cases h2:cf e y<0
   .rw[if_pos h2];simp only[Xq];refine⟨?_,?_⟩
    .rintro(h|rfl|h)
     .exact .inl h
     .exact .inr ⟨.inl rfl,.inr h2⟩
     .exact .inr ⟨.inr h,.inr (hc.tr _ _ _ h2 (hl.1 x h))⟩
    .rintro(h|⟨rfl|h,_⟩)
     .exact .inl h
     .exact .inr (.inl rfl)
     .exact .inr (.inr h)
   .rw[if_neg h2];simp only[Xq];have hn:¬Ap cf y e:=by unfold Ap;omega
    refine⟨?_,?_⟩
    .rintro(h|h)
     .exact .inl h
     .exact .inr ⟨.inr h,.inr ((hc.ap hn).1.1 (hl.1 x h))⟩
    .rintro(h|⟨rfl|h,h'⟩)
     .exact .inl h
     .exact absurd h' hn
     .exact .inr h
theorem WbI(hc:Lin cf){e:α}:∀{l:List α},Ris cf l->Ris cf (Wc9 cf l e)
 | [],_=>by simp[Wc9,Ris]
 |y::l,h=>by
  have hl:=(Xz.1 h);unfold Wc9;by_cases h1:cf y e<0
  .rw[if_pos h1];refine Xz.2 ⟨λx hx=>?_,WbI hc hl.2⟩;rcases(Wa3 hc hl.2).1 hx with rfl|hx
   .exact h1
   .exact hl.1 x hx.1
  .rw[if_neg h1];by_cases h2:cf e y<0
   .rw[if_pos h2];refine Xz.2 ⟨λx hx=>?_,h⟩;rcases Xq.1 hx with rfl|hx
    .exact h2
    .exact hc.tr _ _ _ h2 (hl.1 x hx)
   .rw[if_neg h2];have hn:¬Ap cf y e:=by unfold Ap;omega
    exact Xz.2 ⟨λx hx=>(hc.ap hn).1.1 (hl.1 x hx),hl.2⟩
theorem Wkz(hc:Lin cf){L M:List α}(hM:Ris cf M)(hL:L.Pairwise (Ap cf))(hm:∀x,x∈L↔x∈M):sortBy cf L=M:=by
 have hn:∀{l:List α},l.Pairwise (Ap cf)->l.Nodup:=λh=>h.imp λ{a b} d9=>by
  rintro rfl;unfold Ap at d9;have:=hc.irr a;omega
 have hM':M.Pairwise (Ap cf):=hM.imp λh=>.inl h;have hp:L.Perm M:=(List.perm_ext_iff_of_nodup (hn hL) (hn hM')).2 hm;unfold sortBy;have h1:=List.pairwise_mergeSort (le:=λx y=>!lessBy cf y x) (λa b c=>by
  simp only[lessBy,Xar,decide_eq_false_iff_not]
  exactλh1 h2=>hc.nt _ _ _ h2 h1) (λa b=>by
  simp only[lessBy,Xcl,Xar,decide_eq_false_iff_not];rcases Classical.em (cf b a<0)with h|h
  .exact .inr λh'=>hc.irr _ (hc.tr _ _ _ h h')
  .exact .inl h) L
 refine List.Perm.eq_of_pairwise ?_ h1 (hM.imp λ{a b} h=>?_) ((Xge _ _).trans hp)
 .intro a b ha hb h1 h2;simp only[lessBy,Xar,decide_eq_false_iff_not]at h1 h2;have xN:a∈M:=(hm a).1 ((Xge _ _).mem_iff.1 ha);obtain⟨i,hi,rfl⟩:=Xbs xN;obtain⟨j,hj,rfl⟩:=Xbs hb;rcases Nat.lt_trichotomy i j with h|h|h
  .exact absurd (Xaq.1 hM i j hi hj h) h2
  .subst h;rfl
  .exact absurd (Xaq.1 hM j i hj hi h) h1
 .simp only[lessBy,Xar,decide_eq_false_iff_not]
  exactλh'=>hc.irr _ (hc.tr _ _ _ h h')
theorem Wow{r:α->α->Bool}{R:α->α->Prop}(hr:∀a b,R a b->r a b=true):∀{l:List α},l.Pairwise R->Wkk r l=true
 | [],_=>rfl
 |x::l,h=>by
  have:=Xz.1 h;simp only[Wkk,Xi,Xak];exact⟨λy hy=>hr _ _ (this.1 y hy),Wow hr this.2⟩
theorem WkO(hc:Lin cf){rng:α->Bool}{N:Nat}{L M:List α}(hM:Ris cf M)(hL:L.Pairwise (Ap cf))(hm:∀x,x∈L↔x∈M)(hr:∀x∈L,rng x=true)(hl:L.length<=1048576):
  Zmi rng cf N L=some ((M,()),()):=by
 unfold Zmi;rw[Xak.2 hr,Wow (R:=Ap cf) (λa b h=>by unfold apart lessBy;simpa [Ap]using h) hL,decide_eq_true (by omega)];rw[←Wkz hc hM hL hm];rfl
theorem WlN(hc:Lin cf){L:List α}{e:α}{i:Nat}(hL:L.Pairwise (Ap cf))(hi:i<L.length)(hk:¬Ap cf L[i] e):(L.set i e).Pairwise (Ap cf)/\∀x,x∈L.set i e↔x=e\/(x∈L/\Ap cf x e):=by
 have nT:∀{z},Ap cf L[i] z↔Ap cf e z:=λ{z}=>by unfold Ap;rw[(hc.ap hk).1,(hc.ap hk).2]
 have ki:∀{a b:α},Ap cf a b->Ap cf b a:=λh=>h.symm;have hG:=Xaq.1 hL;refine⟨?_,λx=>⟨λhx=>?_,?_⟩⟩
 .rw[Xaq];intro a b ha hb d9;rw[Xaf]at ha hb;rw[Xao,Xao];by_cases h1:i=a
  .rw[if_pos h1,if_neg (by omega)];subst h1;exact nT.1 (hG i b ha hb d9)
  .rw[if_neg h1];by_cases h2:i=b
   .rw[if_pos h2];subst h2;exact ki (nT.1 (ki (hG a i ha hb d9)))
   .rw[if_neg h2];exact hG a b ha hb d9
 .obtain⟨j,hj,rfl⟩:=Xbs hx;rw[Xaf]at hj;rw[Xao];by_cases h1:i=j
  .rw[if_pos h1];exact .inl rfl
  .rw[if_neg h1];refine .inr ⟨Xo hj,?_⟩;rcases Nat.lt_or_gt_of_ne h1 with h|h
   .exact ki (nT.1 (hG i j hi hj h))
   .exact ki (nT.1 (ki (hG j i hj hi h)))
 .rintro(rfl|⟨hx,eM⟩)
  .exact Xco.2 ⟨i,by simpa using hi,by simp⟩
  .obtain⟨j,hj,rfl⟩:=Xbs hx;refine Xco.2 ⟨j,by simpa using hj,?_⟩;rw[Xao,if_neg];rintro rfl;exact hk eM
theorem Wjb{L:List α}{e:α}(hL:L.Pairwise (Ap cf))(hk:∀x∈L,Ap cf x e):(L++ [e]).Pairwise (Ap cf)/\∀x,x∈L++ [e]↔x=e\/(x∈L/\Ap cf x e):=by
 refine⟨List.pairwise_append.2 ⟨hL,List.pairwise_singleton _ _,λa ha b hb=>?_⟩,λx=>?_⟩
 .rw[Xx]at hb;subst hb;exact hk a ha
 .simp only[List.mem_append,Xx];refine⟨?_,?_⟩
  .rintro(h|h)
   .exact .inr ⟨h,hk x h⟩
   .exact .inl h
  .rintro(h|h)
   .exact .inr h
   .exact .inl h.1
end
section
abbrev KM:=Int×Int×List Int
structure Kd where
 phase:Int:=0
 pc:Int:=0
 since:Int:=0
 tries:Int:=0
 pos:Int:=0
 out:Int:=0
 regs:List Int:=[]
 seen:List En:=[]
 writes:List Rw:=[]
 marks:List KM:=[]
 busy:Bool:=false
 pb:Pb:=(0,0,0,0)
def Kd.e(x:Kd):Y_KidRun:=(x.phase,x.pc,x.since,x.tries,x.pos,x.out,x.regs,x.seen,x.writes,x.marks,x.busy,x.pb)
structure Fm where
 rv:Int:=0
 clock:Int:=0
 owner:Int:=0
 lost:Bool:=false
 regs:List Int:=[]
 start:List Rw:=[]
 buf:List En:=[]
 order:List Int:=[]
 reads:List Rw:=[]
 kids:List Kd:=[]
def Fm.e(f:Fm):Y_Family:=(f.rv,f.clock,f.owner,f.lost,f.regs,f.start,f.buf,f.order,f.reads,f.kids.map Kd.e)
def zOp:Opn:=(0,0,0,0)
def opN(code:List Opn)(i:Int):Opn:=Xb code i.toNat zOp
def Wci{α:Type}(l:List α)(i:Int)(d:α):α:=Xb l i.toNat d
def WmN{α:Type}(l:List α)(i:Int)(x:α):List α:=Xm l i.toNat x
def Wgx{α:Type}(l:List α)(d:α):α:=Xb l (l.length-1) d
def WiM(l:List Opn)(m:Nat):Nat:=((Xdl l.length).find? λk=>decide (m<=k)&&decide (dep l (k+1)=dep l m)).getD 0
def Fm.again(f:Fm)(x:Kd):Kd:={since:=f.clock,tries:=x.tries+1,regs:=f.regs}
def WbA(m:Mm)(f:Fm)(x:Kd)(o:Opn):Fm×Kd:=
 match WaH x.writes o.2.2.1 with
 |some v=>(f,{x with regs:=WmN x.regs o.2.1 v,pc:=x.pc+1})
 |none=>match ent f.buf o.2.2.1 with
  |some r=>if r.2.2.2>x.since then(f,f.again x)else(f,{x with regs:=WmN x.regs o.2.1 r.2.2.1,seen:=x.seen++ [r.2],pc:=x.pc+1})
  |none=>
   let p:=WO m f.rv (if x.busy then x.pb else(o.2.2.1,0,0,0))
   if p.2.1=4 then({f with lost:=true},{x with busy:=true,pb:=p})
   else if p.2.1=3 then(f,{x with regs:=WmN x.regs o.2.1 p.2.2.2,seen:=x.seen++ [(o.2.2.1,p.2.2.2,-1)],busy:=false,pb:=(0,0,0,0),pc:=x.pc+1})
   else(f,{x with busy:=true,pb:=p})
def Wf3(x:Kd)(code:List Opn):Kd:=
 if x.marks.length=0 then{x with writes:=[],out:=2,phase:=1}else
 let q:=Wgx x.marks (0,0,[])
 {x with marks:=x.marks.dropLast,regs:=WmN q.2.2 (opN code q.1).2.1 0,writes:=x.writes.take q.2.1.toNat,pc:=WiM code q.1.toNat+1}
def Wl1(m:Mm)(f:Fm)(x:Kd)(code:List Opn):Fm×Kd:=
 if x.pc>=code.length then(f,{x with out:=1,phase:=1})else
 let o:=opN code x.pc
 if o.1=5 then WbA m f x o else
 if o.1=10 then(f,Wf3 x code)else
 if o.1=6 then(f,{x with writes:=x.writes++ [(o.2.1,Wci x.regs o.2.2.1 0)],pc:=x.pc+1})else
 if o.1=7 then(f,{x with pc:=(if Wci x.regs o.2.1 0=0 then x.pc+o.2.2.1 else x.pc)+1})else
 if o.1=8 then(f,{x with marks:=x.marks++ [(x.pc,(x.writes.length:Int),x.regs)],pc:=x.pc+1})else
 if o.1=9 then(f,{x with marks:=x.marks.dropLast,regs:=WmN x.regs (opN code (Wgx x.marks (0,0,[])).1).2.1 1,pc:=x.pc+1})else
 (f,{x with regs:=WmP o x.regs,pc:=x.pc+1})
def WaC(c:Int)(b:List En)(rows:List Rw):List En:=rows.foldl (λb r=>Wc9 cfE b (r.1,r.2,c)) b
def WaR(l:List En):List Rw:=(l.filter λe=>decide (e.2.2= -1)).map λe=>(e.1,e.2.1)
def Wa1(f:Fm)(x:Kd)(k:Nat):Fm×Kd:=
 ({f with clock:=f.clock+1,buf:=WaC (f.clock+1) f.buf (WbR x.writes),reads:=f.reads++WaR x.seen,order:=f.order++ [(k:Int)],owner:=0},{x with phase:=3,pos:=0,marks:=[]})
def Wt9(b:List En)(c:Int):Int:=match ent b c with
 |some r=>r.2.2.2
 |none=>-1
def Wbc(m:Mm)(f:Fm)(x:Kd)(k:Nat)(code:List Opn):Fm×Kd:=
 if x.phase=0 then Wl1 m f x code else
 if x.phase=1 then(if f.owner=0 then({f with owner:=(k:Int)+1},{x with phase:=2})else(f,x))else
 if x.phase=2 then
  if x.pos=x.seen.length then Wa1 f x k else
  let s:=Wci x.seen x.pos (0,0,0)
  if Wt9 f.buf s.1=s.2.2 then(f,{x with pos:=x.pos+1})else({f with owner:=0},f.again x)
 else(f,x)
def Fm.put(q:Fm×Kd)(k:Nat):Fm:={q.1 with kids:=q.1.kids.set k q.2}
def WaI(m:Mm)(f:Fm)(k:Nat)(code:List Opn):Fm:=
 if f.lost then f else Fm.put (Wbc m f (f.kids.getD k {}) k code) k
def WaZ(rv:Int)(regs:List Int)(writes:List Rw)(kids:Nat):Fm:=
 {rv:=rv,regs:=regs,start:=WbR writes,buf:=(WbR writes).map λr=>(r.1,r.2,0),kids:=List.replicate kids {regs:=regs}}
def Wfv(f:Fm):Bool:=f.kids.all λx=>decide (x.phase=3)
def Wgq(f:Fm):List Rw:=f.buf.map λe=>(e.1,e.2.1)
def Wt6(x:Kd):Int:=if x.out=1/\WeY x.regs=true then Wci x.regs 0 0 else 0
def WhQ(f:Fm):List Int:=
 if WeY f.regs=true/\f.kids.length<=3 then f.kids.map Wt6++f.regs.drop f.kids.length else []
structure KMk(code:List Opn)(pc:Nat)(marks:List KM)(wl:Nat):Prop where
 pcs:marks.map (·.1)=(stk code pc).map λm:Nat=>(m:Int)
 each:∀q∈marks,Vals 4 q.2.2/\0<=q.2.1/\q.2.1<=q.1/\q.2.1<=wl
 up:marks.Pairwise λa b=>a.2.1<=b.2.1
structure KOk(code:List Opn)(c n:Int)(x:Kd):Prop where
 pc:0<=x.pc/\x.pc<=code.length
 regs:Vals 4 x.regs
 rows:WcP x.writes
 wl:(x.writes.length:Int)<=x.pc
 sl:(x.seen.length:Int)<=x.pc
 since:0<=x.since/\x.since<=c
 tries:0<=x.tries/\x.tries<=n
 seen:∀e∈x.seen,(0<=e.1/\e.1<=7)/\(0<=e.2.1/\e.2.1<=65535)/\ -1<=e.2.2/\e.2.2<=x.since
 marks:x.phase=0->KMk code x.pc.toNat x.marks x.writes.length
 pos:0<=x.pos/\x.pos<=x.seen.length
 pb:x.busy=true->Wka x.pb=true
 phase:0<=x.phase/\x.phase<=3
 out:0<=x.out/\x.out<=2
structure FOk(codes:List (List Opn))(n:Int)(f:Fm):Prop where
 len:f.kids.length=codes.length
 regs:Vals 4 f.regs
 clock:0<=f.clock/\f.clock=f.order.length
 done:f.order.length=f.kids.countP λx=>decide (x.phase=3)
 bufR:Ris cfE f.buf
 bufE:∀e∈f.buf,(0<=e.1/\e.1<=7)/\(0<=e.2.1/\e.2.1<=65535)/\0<=e.2.2/\e.2.2<=f.clock
 readsL:f.reads.length<=24*f.order.length
 readsE:WcP f.reads
 owner:0<=f.owner/\f.owner<=f.kids.length
 kid:∀(k:Nat) (h:k<f.kids.length),KOk (codes.getD k []) f.clock n f.kids[k]
end
section
structure CC(l:List Opn):Prop where
 len:l.length<=24
 up:Up l
 z:dep l l.length=0
 ok:∀i (h:i<l.length),Wan l[i]=true/\1<=l[i].1/\l[i].1<=16
 sk:∀i (h:i<l.length),l[i].1=7->i+1+l[i].2.2.1.toNat<=l.length/\bal ((l.take (i+1+l[i].2.2.1.toNat)).drop (i+1))=true
 fk:∀i (h:i<l.length),l[i].1=11->dep l i=0/\frk l (i+1)<=1
structure KC(l:List Opn):Prop extends CC l where
 k10:∀i (h:i<l.length),l[i].1<=10
theorem WrH{o:Opn}(h:Wan o=true)(dM:12<=o.1):Wix o=2:=by
 have kg:=Wnd h;have key:=Wdx (N:=0) (o:=o);unfold Zcf at key;rw[Wdr,h]at key;simp only[ret,Xd,Xs,cond_false]at key;have e5:(o.1==5)=false:=by simp;omega
 have e6:(o.1==6)=false:=by simp;omega
 rw[e5,e6]at key;simp only[cond_false]at key;have:o.1=12\/o.1=13\/o.1=14\/o.1=15\/o.1=16:=by omega
 rcases this with hk|hk|hk|hk|hk<;> · rw[hk]at key;simpa using key.symm
theorem WvD{l:List Opn}(h:Wo5 l=true):CC l:=by
 unfold Wo5 at h;simp only[Xi,decide_eq_true_eq,Xar]at h;obtain⟨h1,h2,h3⟩:=h;obtain⟨b1,b2⟩:=WnH.1 h2;have hb:∀i (hi:i<l.length),WpJ l i l[i]=false:=λi hi=>by
  rw[Xca];intro hb;have:Wm4 (WpJ l) 0 l=true:=Wf4.2 ⟨i,hi,by rw[Xba];exact hb⟩;rw[h3]at this;cases this
 have aX:∀i (hi:i<l.length),Wan l[i]=true:=λi hi=>by
  have:=hb i hi;unfold WpJ at this;simp only[Xdz,Xfg]at this;exact this.1.1
 refine⟨h1,b1,b2,λi hi=>⟨aX i hi,Wnd (aX i hi)⟩,λi hi h7=>?_,λi hi dr=>?_⟩
 .have:=hb i hi;unfold WpJ at this;simp only[Xdz,Xfg]at this;have h8:=this.1.2;rw[h7]at h8;have:Wg0 l i l[i]=true:=by simpa using h8
  unfold Wg0 at this;simpa using this
 .have:=hb i hi;unfold WpJ at this;simp only[Xdz,Xfg]at this;have h8:=this.2;rw[dr]at h8;simp at h8;omega
theorem Wwq{l:List Opn}(h:WgD l=true):KC l:=by
 unfold WgD at h;simp only[Xi,Xar]at h;have hc:=WvD h.1;refine⟨hc,λi hi=>?_⟩;have d6:WfL l[i]=false:=by
  rw[Xca];intro hb;have:=List.any_eq_true.2 ⟨l[i],Xo hi,hb⟩;rw[h.2]at this;cases this
 unfold WfL at d6;simp only[Xdz]at d6;by_cases ca:l[i].1<=10
 .exact ca
 .exfalso;by_cases dr:l[i].1=11
  .simp[dr]at d6
  .have:=WrH (hc.ok i hi).1 (by have:=(hc.ok i hi).2;omega);rw[this]at d6;simp at d6
theorem Wph{l:List Opn}{m k:Nat}(h:Mate l m k):WiM l m=k:=by
 unfold WiM;have:(Xdl l.length).find? (λk=>decide (m<=k)&&decide (dep l (k+1)=dep l m))=some k:=by
  rw[List.find?_range_eq_some];have:=h.lt;refine⟨?_,List.mem_range.2 h.len,λj hj=>?_⟩
  .simp[h.eq];omega
  .simp only[Xar,Bool.and_eq_false_iff,decide_eq_false_iff_not];by_cases hm:m<=j
   .exact .inr (h.ne j hm hj)
   .exact .inl hm
 rw[this];rfl
theorem We5{l:List Opn}{i:Int}(h0:0<=i)(h:i<l.length):∃(n:Nat) (hn:n<l.length),i=n/\opN l i=l[n]:=by
 refine⟨i.toNat,by omega,by omega,?_⟩;unfold opN;exact Wh (by omega) _
theorem Wj9{l:List Opn}{n:Nat}(h:n<l.length):opN l (n:Int)=l[n]:=by
 unfold opN;exact Wh (by simpa using h) _
theorem WpC{α:Type}(q:List α)(x d:α):Wgx (q++ [x]) d=x:=by unfold Wgx;simp
theorem Wjs{M:Type}{g:M->Int}{l:List Opn}{pc:Nat}{marks:List M}{d:M}(hc:CC l)(hp:pc<=l.length)(hm:marks.map g=(stk l pc).map λm:Nat=>(m:Int))(hne:marks.length≠0):
  ∃(m:Nat) (q:List M) (x:M),marks=q++ [x]/\Wgx marks d=x/\g x=(m:Int)/\(∃hm:m<l.length,l[m].1=8)/\m<pc/\Mate l m (WiM l m)/\pc<=WiM l m/\stk l m=(stk l pc).dropLast/\q.map g=(stk l m).map λm:Nat=>(m:Int):=by
 rcases Wb6 marks with h0|⟨q,x,hq⟩
 .rw[h0]at hne;simp at hne
 .rw[hq,Xr,Xam,Xcg]at hm;rcases Wb6 (stk l pc)with h0|⟨t,m,ht⟩
  .rw[h0]at hm;simp at hm
  .rw[ht,Xr,Xam,Xcg]at hm;obtain⟨e1,e2⟩:=Xep hm rfl;injection e2 with e2;obtain⟨k,k1,k2,k3⟩:=WuP hc.up hc.z hp ht;have k4:=Wph k2;obtain⟨hlt,h8,_,_⟩:=Wkb pc hp t [] m ht;refine⟨m,q,x,hq,by rw[hq];exact WpC q x d,e2,h8,hlt,by rw[k4];exact k2,by omega,by rw[ht,Xew];exact k3,by rw[k3];exact e1⟩
end
section
theorem Wjd{l:List Rw}{c v:Int}:∀(i:Nat),i<=l.length->We1 l c i=some v->(c,v)∈l
 |0,_,h=>by simp[We1]at h
 |i+1,hi,h=>by
  unfold We1 at h;rw[Wh (show i<l.length by omega)]at h;by_cases hc:l[i].1=c
  .rw[if_pos hc]at h;injection h with h;have:l[i]=(c,v):=by rw[←hc,←h]
   rw[←this];exact Xo _
  .rw[if_neg hc]at h;exact Wjd i (by omega) h
theorem Wit{l:List Rw}{c v:Int}(h:WaH l c=some v):WaL l=true/\(c,v)∈l:=by
 unfold WaH at h;by_cases hr:WaL l=true
 .rw[if_pos hr]at h;exact⟨hr,Wjd _ (Xn _) h⟩
 .rw[if_neg hr]at h;cases h
theorem WoB(l:List Rw):∀(j c:Nat) (o:List Rw),Wke l j c o=o++(Xgs c j).filterMap λc:Nat=>(WaH l (c:Int)).map λv=>((c:Int),v)
 |0,c,o=>by simp[Wke]
 |j+1,c,o=>by
  rw[Wke,WoB l j,List.range'_succ,List.filterMap_cons];unfold Wkn;cases h:WaH l (c:Int)<;>simp
theorem WnA(l:List Rw):WbR l=(Xgs 0 8).filterMap λc:Nat=>(WaH l (c:Int)).map λv=>((c:Int),v):=by unfold WbR;rw[WoB];simp
theorem Whl{l:List Rw}{r:Rw}:r∈WbR l↔(0<=r.1/\r.1<=7)/\WaH l r.1=some r.2:=by
 rw[WnA,List.mem_filterMap];constructor
 .rintro⟨c,hc,h⟩;rw[Xgr]at hc;cases hl:WaH l (c:Int)with
  |none=>rw[hl]at h;cases h
  |some v=>
   rw[hl]at h;injection h with h;subst h;exact⟨by show 0<=(c:Int)/\(c:Int)<=7;omega,hl⟩
 .rintro⟨h0,h⟩;refine⟨r.1.toNat,Xgr.2 (by omega),?_⟩;rw[show((r.1.toNat:Nat):Int)=r.1 by omega,h];rfl
theorem Wgs(l:List Rw):(WbR l).Pairwise λa b=>a.1<b.1:=by
 rw[WnA,List.pairwise_filterMap];refine List.Pairwise.imp ?_ (List.pairwise_lt_range' (s:=0) (n:=8));intro a b d9 r hr r' bh;cases h1:WaH l (a:Int)<;>rw[h1]at hr<;>simp at hr;cases h2:WaH l (b:Int)<;>rw[h2]at bh<;>simp at bh;rw[←hr,←bh];simp;omega
theorem WeR(l:List Rw):(WbR l).length<=8:=by
 rw[WnA];exact Xcr (List.length_filterMap_le _ _) (by simp)
theorem Wd8{l:List Rw}:WcP (WbR l):=by
 intro r hr;obtain⟨h0,h1⟩:=Whl.1 hr;obtain⟨h2,h3⟩:=Wit h1;unfold WaL at h2;simp only[Xi]at h2;have:=(Whn.1 h2.2) _ h3;exact⟨h0,this.2⟩
end
section
theorem Wf8{α β:Type}(g:α->β)(l:List α)(i:Nat)(d:α):Xb (l.map g) i (g d)=g (l.getD i d):=by
 by_cases h:i<l.length
 .rw[Wh (show i<(l.map g).length by simpa using h),Wh h];simp
 .rw[Xac,Xac,Xbg (by simpa using h),Xbg (by simpa using h)];rfl
theorem kdP(x:Kd):x.e.1=x.phase/\x.e.2.1=x.pc/\x.e.2.2.1=x.since/\x.e.2.2.2.1=x.tries/\P4 x.e=x.pos/\P5 x.e=x.out/\P6 x.e=x.regs/\P7 x.e=x.seen/\P8 x.e=x.writes/\P9 x.e=x.marks/\P10 x.e=x.busy:=⟨rfl,rfl,rfl,rfl,rfl,rfl,rfl,rfl,rfl,rfl,rfl⟩
theorem fmP(f:Fm):f.e.1=f.rv/\f.e.2.1=f.clock/\f.e.2.2.1=f.owner/\f.e.2.2.2.1=f.lost/\P4 f.e=f.regs/\P5 f.e=f.start/\P6 f.e=f.buf/\P7 f.e=f.order/\P8 f.e=f.reads/\Q9 f.e=f.kids.map Kd.e:=⟨rfl,rfl,rfl,rfl,rfl,rfl,rfl,rfl,rfl,rfl⟩
theorem U9e(f:Fm)(k:Nat)(x:Kd):U9 (Xm (f.kids.map Kd.e) k x.e) f.e=Fm.e {f with kids:=f.kids.set k x}:=by
 unfold U9 Fm.e;rw[List.map_set]
theorem WpQ{f f':Fm}{k:Nat}{x':Kd}{y:Y_KidRun}{g:Y_Family}(hy:y=x'.e)(hg:g=f'.e)(hf:f'.kids=f.kids):
  some ((U9 (Xm (f.kids.map Kd.e) k y) g,()),())=some (((Fm.put (f',x') k).e,()),()):=by
 subst hy hg;rw[←hf,U9e];rfl
theorem Wqh(m:Mm)(f:Fm)(x:Kd)(o:Opn):WhF m f.e x.e o=((WbA m f x o).1.e,(WbA m f x o).2.e):=by
 unfold WhF WbA;have h1:P8 x.e=x.writes:=rfl;have h2:P6 f.e=f.buf:=rfl;rw[h1,h2];rcases WaH x.writes o.2.2.1 with _|v
 .rcases ent f.buf o.2.2.1 with _|r
  .have h3:WoL x.e o.2.2.1=if x.busy then x.pb else(o.2.2.1,0,0,0):=by
    unfold WoL;have:P10 x.e=x.busy:=rfl;rw[this];cases x.busy<;>rfl
   simp only[h3];have h4:f.e.1=f.rv:=rfl;rw[h4];generalize WO m f.rv (if x.busy then x.pb else(o.2.2.1,0,0,0))=p;by_cases e4:p.2.1=4
   .have:(p.2.1==4)=true:=by simpa using e4
    rw[if_pos e4,this];rfl
   .have:(p.2.1==4)=false:=by simpa using e4
    rw[if_neg e4,this];by_cases e3:p.2.1=3
    .have:(p.2.1==3)=true:=by simpa using e3
     rw[if_pos e3,this];rfl
    .have:(p.2.1==3)=false:=by simpa using e3
     rw[if_neg e3,this];rfl
  .simp only;have h5:x.e.2.2.1=x.since:=rfl;rw[h5];by_cases hv:r.2.2.2>x.since
   .rw[if_pos hv,decide_eq_true hv];rfl
   .rw[if_neg hv,decide_eq_false hv];rfl
 .rfl
theorem WpB(m:Mm)(f:Fm)(x:Kd)(o:Opn):(WbA m f x o).1.kids=f.kids:=by
 unfold WbA;cases WaH x.writes o.2.2.1 with
 |some v=>rfl
 |none=>
  cases ent f.buf o.2.2.1 with
  |some r=>simp only;split<;>rfl
  |none=>
   simp only;generalize WO m f.rv _=p
   repeat' split
   all_goals rfl
variable{N:Nat}{codes:List (List Opn)}{n:Int}{f:Fm}{k:Nat}{code:List Opn}{m:Mm}{x:Kd}
theorem FOk.buf8(h:FOk codes n f):f.buf.length<=8:=by
 have:∀(l:List En) (c:Int),Ris cfE l->(∀e∈l,c<=e.1/\e.1<=7)->(l.length:Int)<=8-c\/l= []:=by
  intro l
  induction l with
  |nil=>intro c _ _;exact .inr rfl
  |cons a l ih=>
   intro c hr hb;left;have h1:=Xz.1 hr;have ha:=hb a (Xh ..);rcases ih (a.1+1) h1.2 (λe he=>⟨by have:=h1.1 e he;unfold cfE at this;omega,(hb e (Xe _ he)).2⟩)with h|h
   .rw[Xw];omega
   .subst h;simp;omega
 rcases this f.buf 0 h.bufR (λe he=>by have:=(h.bufE e he).1;omega)with h|h
 .omega
 .rw[h];simp
theorem Wr0(hF:FOk codes n f)(hx:KOk code f.clock n x)(bD:KC code)(hm:WZ m=true)(hn:n<=100000){o:Opn}(hA:Wi o.2.1=true)(hB:W2 o.2.2.1=true):ReadOk m f.e x.e o where
 mem:=hm
 regs:=hx.regs.len
 famr:=hF.regs.len
 rA:=by unfold Wi at hA;simpa using hA
 cB:=hB
 seen:=by have:=hx.sl;have:=hx.pc;have:=bD.len;show x.seen.length<=1000;omega
 wr:=by have:=hx.wl;have:=hx.pc;have:=bD.len;show x.writes.length<=1000;omega
 buf:=by have:=hF.buf8;show f.buf.length<=1000;omega
 ver:=λe he=>(hF.bufE e he).2.2.1
 since:=hx.since.1
 pc:=by have:=hx.pc;have:=bD.len;show 0<=x.pc/\x.pc<=1000;omega
 tries:=by have:=hx.tries;show 0<=x.tries/\x.tries<=100000;omega
 pb:=hx.pb
theorem Wv{α:Type}{a b:Int}{x y:α}:(bif a==b then x else y)=if a=b then x else y:=by
 by_cases h:a=b
 .have:(a==b)=true:=by simpa using h
  rw[this,if_pos h];rfl
 .have:(a==b)=false:=by simpa using h
  rw[this,if_neg h];rfl
theorem Waa{α:Type}{p:Prop}[Decidable p]{x y:α}:(bif decide p then x else y)=if p then x else y:=by
 by_cases h:p
 .rw[if_pos h,decide_eq_true h];rfl
 .rw[if_neg h,decide_eq_false h];rfl
theorem WkW(bD:KC code)(hx:KOk code f.clock n x)(h0:x.phase=0)(hN:1048576<N):Zio N x.e code=some (((Wf3 x code).e,()),()):=by
 unfold Zio Wf3;obtain⟨k0,k1,k2,k3,k4,k5,k6,k7,k8,k9,k10⟩:=kdP x;have bf:=hx.pc;have hlen:=bD.len;have hM:=hx.marks h0;simp only[Wl,k9,k8,k1,Wv];by_cases hz:x.marks.length=0
 .rw[if_pos (by unfold Wb;omega),if_pos hz];rfl
 .rw[if_neg (by unfold Wb;omega),if_neg hz];obtain⟨j,q,y,e1,e2,e3,⟨hj,h8⟩,rW,dW,iG,e5,e6⟩:=Wjs (d:=((0,0,[]):KM)) bD.toCC (show x.pc.toNat<=code.length by omega) hM.pcs hz;have mA:x.marks.length=q.length+1:=by rw[e1];simp
  have xO:q.length<=24:=by
   have:=congrArg Xc e6;simp only[Xy]at this;have h2:=Wbx bD.up j (by omega);have h3:=(Wdk code j).2;omega
  have i1:WW .i64 (Wb x.marks) 1=(q.length:Int):=by rw[WoC (by omega),mA];omega
  have hy:y∈x.marks:=by rw[e1];simp
  obtain⟨y1,y2,y3,y4⟩:=hM.each y hy;have g1:Xb x.marks (Xa (q.length:Int)) ((0,0,[]):KM)=y:=by rw[e1];simp
  have t1:Xav (Xa (q.length:Int)) x.marks=x.marks.dropLast:=by rw[e1];simp
  have lL:=hx.wl;rw[i1,W5,decide_eq_true (show q.length<x.marks.length by omega)];simp only[cond_true,g1,t1,e2];have b1:((decide ((0:Int)<=(q.length:Int))&&decide ((q.length:Int)<=(x.marks.length:Int)))&&decide ((q.length:Int)<=((Xa (q.length:Int):Nat):Int)))=true:=by
   simp;omega
  rw[b1];simp only[cond_true];rw[WaV (by rw[y1.len];omega)];simp only[ret,Xd];rw[e3,W5,decide_eq_true hj];have o1:Xb code (Xa ((j:Nat):Int)) ((0,0,0,0):Opn)=code[j]:=Wj hj _;have o2:opN code ((j:Nat):Int)=code[j]:=Wj9 hj;have hr:=Wwa (bD.ok j hj).1 h8;simp only[cond_true,o1,o2];rw[WaX hr y1.len];have b2:(decide ((0:Int)<=y.2.1)&&decide (y.2.1<=(x.writes.length:Int)))=true:=by simp;omega
  rw[b2];simp only[cond_true];rw[WcC (by rw[Xal];omega),Wh4 (by omega) hN ⟨hj,h8⟩ dW];simp only[ret,Xd];rw[Wcs (by have:=dW.len;omega),Xj];rfl
theorem Wm3(hk:k<f.kids.length)(hm:WZ m=true)(bD:KC code)(hF:FOk codes n f)(aC:codes.getD k []=code)(aQ:f.kids[k]=x)(h0:x.phase=0)(hn:n<=100000)(hN:1048576<N):
  Zjr N f.e (k:Int) code m=some (((Fm.put (Wl1 m f x code) k).e,()),()):=by
 have hx:=hF.kid k hk;rw[aC,aQ]at hx;obtain⟨k0,k1,k2,k3,k4,k5,k6,k7,k8,k9,k10⟩:=kdP x;obtain⟨f0,f1,f2,f3,f4,f5,f6,f7,f8,f9⟩:=fmP f;have bf:=hx.pc;have hlen:=bD.len;have lL:=hx.wl;have e2:Xb (f.kids.map Kd.e) (Xa (k:Int)) d_KidRun=x.e:=by
  have:=Wf8 Kd.e f.kids k {};rw[Wh hk,aQ]at this;exact this
 have e3:U9 (Xm (f.kids.map Kd.e) (Xa (k:Int)) x.e) f.e=f.e:=by
  rw[Xj,U9e,←aQ,List.set_getElem_self]
 unfold Zjr Wl1;simp only[Wl,f9,Xy];rw[W5,decide_eq_true hk];simp only[cond_true,e2,e3,k1,k6,k8,k9,Waa,Wv,show Wb code=(code.length:Int)from rfl];by_cases fb:x.pc>=code.length
 .rw[if_pos fb,if_pos fb];rw[Xj];exact WpQ rfl rfl rfl
 .rw[if_neg fb,if_neg fb];obtain⟨j,hj,ej,eo⟩:=We5 (l:=code) bf.1 (by omega);have tX:Xb code (Xa x.pc) ((0,0,0,0):Opn)=opN code x.pc:=rfl;have eT:inb x.pc code.length=true:=by rw[ej,W5];exact decide_eq_true hj
  rw[eT];obtain⟨ok,o1,fR⟩:=bD.ok j hj;have cC:=bD.k10 j hj;simp only[cond_true,tX];rw[←eo]at ok o1 cC;generalize opN code x.pc=o at*;have dx:=hx.regs.len;rw[Xj];rw[Wcs (show 0<=x.pc/\x.pc<=1000000 by omega)];by_cases h5:o.1=5
  .rw[if_pos h5,if_pos h5];have:=WtZ ok h5;have dn:=Wr0 hF hx bD hm hn this.1 this.2;have e4:(Q9 f.e)[k]'(by rw[f9];simpa using hk)=x.e:=by
    simp only[f9,List.getElem_map,aQ]
   have:=Wmm (m:=m) (o:=o) (f:=f.e) (k:=k) (by rw[f9];simpa using hk) (by rw[e4];exact dn) hN;rw[this];simp only[Xd,e4,Wqh];unfold Wwp;have jN:=WpB m f x o;rw[show Q9 (WbA m f x o).1.e=f.kids.map Kd.e by rw[←jN];rfl];exact WpQ rfl rfl jN
  .rw[if_neg h5,if_neg h5];by_cases ca:o.1=10
   .rw[if_pos ca,if_pos ca,WkW bD hx h0 hN];exact WpQ rfl rfl rfl
   .rw[if_neg ca,if_neg ca];by_cases h6:o.1=6
    .rw[if_pos h6,if_pos h6];rw[WaX (Wv0 ok h6).2 dx,Ww (by simp;omega)];exact WpQ rfl rfl rfl
    .rw[if_neg h6,if_neg h6];by_cases h7:o.1=7
     .rw[if_pos h7,if_pos h7];have h:=Wvm ok h7;rw[WaX h.1 dx,WC (a:=x.pc) (b:=o.2.2.1) (by unfold I64;omega),Wcs (a:=x.pc+o.2.2.1) (by omega)];by_cases hg:Xb x.regs (Xa o.2.1) 0=0
      .rw[if_pos hg,if_pos (show Wci x.regs o.2.1 0=0 from hg)];simp only[cond_true];exact WpQ rfl rfl rfl
      .rw[if_neg hg,if_neg (show¬Wci x.regs o.2.1 0=0 from hg)];simp only[cond_true];exact WpQ rfl rfl rfl
     .rw[if_neg h7,if_neg h7];by_cases h8:o.1=8
      .rw[if_pos h8,if_pos h8];rw[WaV (by omega)];have oA:x.marks.length<=24:=by
        have:=congrArg Xc (hx.marks h0).pcs;simp only[Xy]at this;have h2:=Wbx bD.up x.pc.toNat (by omega);have h3:=(Wdk code x.pc.toNat).2;omega
       simp only[ret,Xd];rw[Ww (by simp;omega)];exact WpQ rfl rfl rfl
      .rw[if_neg h8,if_neg h8];by_cases h9:o.1=9
       .rw[if_pos h9,if_pos h9];have hM:=hx.marks h0;have hz:x.marks.length≠0:=by
         intro hz;have h1:=congrArg Xc hM.pcs;simp only[Xy,hz]at h1;have h2:=Wbx bD.up j (by omega);have h3:=bD.up j hj;rw[WaT hj,Wk2 (by rw[←eo];exact h9)]at h3;rw[ej,Xj]at h1;omega
        obtain⟨i,q,y,e1,xP,xQ,⟨hi,xR⟩,rW,dW,iG,e5,e6⟩:=Wjs (d:=((0,0,[]):KM)) bD.toCC (show x.pc.toNat<=code.length by omega) hM.pcs hz;have mA:x.marks.length=q.length+1:=by rw[e1];simp
        have oA:x.marks.length<=24:=by
         have:=congrArg Xc (hx.marks h0).pcs;simp only[Xy]at this;have h2:=Wbx bD.up x.pc.toNat (by omega);have h3:=(Wdk code x.pc.toNat).2;omega
        have i1:WW .i64 (Wb x.marks) 1=(q.length:Int):=by rw[WoC (by omega),mA];omega
        have g1:Xb x.marks (Xa (q.length:Int)) ((0,0,[]):KM)=y:=by rw[e1];simp
        have t1:Xav (Xa (q.length:Int)) x.marks=x.marks.dropLast:=by rw[e1];simp
        rw[i1,W5,decide_eq_true (show q.length<x.marks.length by omega)];have b1:(decide ((0:Int)<=(q.length:Int))&&decide ((q.length:Int)<=(x.marks.length:Int)))=true:=by simp;omega
        rw[b1];simp only[cond_true,g1,t1,xP];rw[xQ,W5,decide_eq_true hi];have o1:Xb code (Xa ((i:Nat):Int)) ((0,0,0,0):Opn)=opN code (i:Int):=rfl;have hr:=Wwa (bD.ok i hi).1 xR;rw[←Wj9 hi]at hr;simp only[cond_true,o1];rw[WaX hr dx];exact WpQ rfl rfl rfl
       .rw[if_neg h9,if_neg h9];rw[WgZ hN ok (by omega) (by omega) hx.regs];exact WpQ rfl rfl rfl
end
end Go.Sx
