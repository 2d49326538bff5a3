/- Plain laws of the Lean functions. -/
import Derived.Test.YtnkbflecplbceaaGreatT2
open Option renaming bind_some→Xd
open Nat renaming le_refl→Xn,add_assoc→Xar,add_comm→Xcr,zero_add→Xbc,le_trans→Xcq,add_zero→Xau,and_le_right→Xgy
open List renaming mem_cons_self→Xi,mem_cons_of_mem→Xe,length_cons→Xu,take_succ_eq_append_getElem→Xci,map_append→Xr,getD→Xc,take_of_length_le→Xcz,length→Xa,length_append→Xaa,length_dropLast→Xea,append_inj'→Xen,eq_nil_of_length_eq_zero→Xy,dropLast_concat→Xet,append→Xf,append_eq→Xah,all_eq_true→Xae,mem_cons→Xo,getElem_mem→Xq,getD_eq_getElem?_getD→Xba,getElem?_eq_none→Xbg,length_set→Xad,set_set→Xdp,take→Xas,length_take→Xap,set→Xl,pairwise_cons→Xac,mergeSort_perm→Xgl,getElem_of_mem→Xam,pairwise_iff_getElem→Xat,getElem_set→Xao,mem_iff_getElem→Xgj,mem_singleton→Xz,range→Xdi,map_cons→Xaj,map_nil→Xck,range'→Xgx,mem_range'_1→Xgt,length_map→Xaf
open Bool renaming false_or→Xcs,or_eq_true→Xbw,and_eq_true→Xh,not_eq_true'→Xaq,not_eq_true→Xfs,not_true→Xab,toNat_false→Xdn,false_and→Xcu,true_and→Xbq,toNat_true→Xhe,eq_false_iff→Xbz,or_eq_false_iff→Xec,not_eq_false'→Xfi
open Int renaming toNat_natCast→Xj,toNat→Xb,add_zero→Xfu,tmod_eq_emod_of_nonneg→Xdg,eq_ofNat_of_zero_le→Xfx
namespace Go.Sx
set_option linter.unusedVariables false
set_option linter.unusedSimpArgs false
section
def Wbg(v:Int):Bool:=decide (0<=v)&&decide (v<=65535)
theorem Wdz{N:Nat}{x a b:Int}:Zbp N x a b=ret (decide (a<=x)&&decide (x<=b)):=by
 unfold Zbp;by_cases h:a<=x<;>simp[h]
theorem Wn{N:Nat}{x a b:Int}:Zm N x a b=ret (decide (a<=x)&&decide (x<=b)):=by
 unfold Zm;by_cases h:a<=x<;>simp[h]
theorem WcC{α:Type}{p:α->Bool}(l:List α):(l.any λx=>!p x)= !l.all p:=by
 induction l with
 |nil=>rfl
 |cons x l ih=>simp[ih,Bool.not_and]
abbrev Rw:=Int×Int
def W7(v:Int):Bool:=decide (0<=v)&&decide (v<=7)
def Wmq(r:Rw):Bool:=W7 r.1&&Wbg r.2
def Wbb(l:List Rw):Bool:=decide (l.length<=300)&&l.all Wmq
def Weo(l:List Int):Bool:=decide (l.length=8)&&l.all Wbg
theorem WQ{N:Nat}{v:Int}:Zg0 N v=ret (Wbg v):=by
 unfold Zg0;simp only[Wdz,ret,Xd];rfl
theorem Wp{N:Nat}{v:Int}:Zaz N v=ret (Wbg v):=by
 unfold Zaz;simp only[Wn,ret,Xd];rfl
theorem WP{N:Nat}{v:Int}:Zgg N v=ret (W7 v):=by
 unfold Zgg;simp only[Wdz,ret,Xd];rfl
theorem Wm{N:Nat}{v:Int}:Zba N v=ret (W7 v):=by
 unfold Zba;simp only[Wn,ret,Xd];rfl
theorem Wmk{N:Nat}{l:List Int}(hl:l.length<=1048576)(hN:1048576<N):Zhn N l=ret (Weo l):=by
 unfold Zhn Weo;by_cases h:l.length=8
 .have e:(Wb l !=8)=false:=by simp[Wb,h]
  rw[e];simp only[cond_false];have h1:=WO (l:=l) (V:=Unit) (R:=Unit×Ko) (lp:=λn j v=>Zc1 N l (some ((),(false,()))) (λi8 t9=>some ((),(true,()))) n j) (n:=N) (by omega)
   (body:=λj x v k=>bif !Wbg x then some ((),(false,()))else k v) (K:=λ_ v=>some ((),(true,())))
   (λn i v hi=>by simp only[Zc1,Wao hi,Wv hi,WB hi,Wk (show i<4611686018427387904 by omega),cond_true,WQ,ret,Xd])
   (λn v=>by simp only[Zc1,WaH (Xn l.length),cond_false]) ()
  refine h1.trans ?_;rw[WaK (p:=λx=>!Wbg x) (E:=λ_=>some ((),(false,()))) l 0 () (λj x v k _=>rfl),WcC];cases l.all Wbg<;>simp[h]
 .have e:(Wb l !=8)=true:=by simp[Wb];omega
  rw[e];simp[h]
theorem Whz{N:Nat}{l:List Int}(hl:l.length<=1048576)(hN:1048576<N):Zaj N l 8=ret (Weo l):=by
 unfold Zaj Weo;have h1:=WO (l:=l) (V:=Unit) (R:=Unit×Ko) (lp:=λn j v=>Za2 N l 8 (some ((),(false,()))) (λi8 t9=>some ((),((Wb l)==(8:Int),()))) n j) (n:=N) (by omega)
  (body:=λj x v k=>bif !Wbg x then some ((),(false,()))else k v) (K:=λ_ v=>some ((),((Wb l)==(8:Int),())))
  (λn i v hi=>by simp only[Za2,Wao hi,Wv hi,WB hi,Wk (show i<4611686018427387904 by omega),cond_true,Wp,ret,Xd])
  (λn v=>by simp only[Za2,WaH (Xn l.length),cond_false]) ()
 refine h1.trans ?_;rw[WaK (p:=λx=>!Wbg x) (E:=λ_=>some ((),(false,()))) l 0 () (λj x v k _=>rfl),WcC];have e:((Wb l)==(8:Int))=decide (l.length=8):=by
  by_cases h:l.length=8
  .simp[Wb,h]
  .simp[Wb,h];omega
 rw[e];cases l.all Wbg<;>simp
theorem Wcs{N:Nat}{l:List Rw}(hl:l.length<=1048576)(hN:1048576<N):Zcs N l=ret (Wbb l):=by
 unfold Zcs Wbb;have h1:=WO (l:=l) (V:=Unit) (R:=Unit×Ko) (lp:=λn j v=>Zc3 N l (some ((),(false,()))) (λi8 t9=>some ((),(decide ((Wb l)<=(300:Int)),()))) n j) (n:=N) (by omega)
  (body:=λj x v k=>bif !Wmq x then some ((),(false,()))else k v) (K:=λ_ v=>some ((),(decide ((Wb l)<=(300:Int)),())))
  (λn i v hi=>by
   simp only[Zc3,Wao hi,Wv hi,WB hi,Wk (show i<4611686018427387904 by omega),cond_true,Wp,Wm,ret,Xd,Wmq];cases W7 l[i].1<;>rfl)
  (λn v=>by simp only[Zc3,WaH (Xn l.length),cond_false]) ()
 refine h1.trans ?_;rw[WaK (p:=λx=>!Wmq x) (E:=λ_=>some ((),(false,()))) l 0 () (λj x v k _=>rfl),WcC];have e:decide (Wb l<=300)=decide (l.length<=300):=by apply decide_eq_decide.2;simp[Wb];omega
 rw[e];cases l.all Wmq<;>simp
theorem WtZ{α:Type}{l:List α}(h:l.length<=1048576):WG l.length=true:=by unfold WG;simp;omega
end
section
abbrev Opn:=Int×Int×Int×Int
def Wj(v:Int):Bool:=decide (0<=v)&&decide (v<=3)
def Wb6(v:Int):Bool:=decide (0<=v)&&decide (v<=7)
theorem WZ{N:Nat}{v:Int}:Zr N v=ret (Wj v):=by
 unfold Zr;simp only[Wdz,ret,Xd];rfl
theorem W0{N:Nat}{v:Int}:Zs N v=ret (Wj v):=by
 unfold Zs;simp only[Wn,ret,Xd];rfl
theorem WW{N:Nat}{v:Int}:Za4 N v=ret (Wb6 v):=by
 unfold Za4;simp only[Wn,ret,Xd];rfl
theorem Wbv{v:Int}:(decide ((0:Int)<=v)&&decide (v<=7))=Wb6 v:=rfl
def Was(o:Opn):Bool:=
 bif o.1==1 then Wj o.2.1&&Wbg o.2.2.1&&(o.2.2.2==(0:Int))else
 bif o.1==2 then Wj o.2.1&&Wj o.2.2.1&&Wj o.2.2.2 else
 bif o.1==3 then Wj o.2.1&&Wj o.2.2.1&&Wj o.2.2.2 else
 bif o.1==4 then Wj o.2.1&&Wj o.2.2.1&&Wj o.2.2.2 else
 bif o.1==5 then Wj o.2.1&&W7 o.2.2.1&&(o.2.2.2==(0:Int))else
 bif o.1==6 then W7 o.2.1&&Wj o.2.2.1&&(o.2.2.2==(0:Int))else
 bif o.1==7 then Wj o.2.1&&(decide (1<=o.2.2.1)&&decide (o.2.2.1<=20))&&(o.2.2.2==(0:Int))else
 bif o.1==8 then Wj o.2.1&&(o.2.2.1==(0:Int))&&(o.2.2.2==(0:Int))else
 bif o.1==9 then(o.2.1==(0:Int))&&(o.2.2.1==(0:Int))&&(o.2.2.2==(0:Int))else
 bif o.1==10 then(o.2.1==(0:Int))&&(o.2.2.1==(0:Int))&&(o.2.2.2==(0:Int))else
 bif o.1==11 then(o.2.1==(0:Int))&&(o.2.2.1==(0:Int))&&(o.2.2.2==(0:Int))else
 bif o.1==12 then Wb6 o.2.1&&Wj o.2.2.1&&Wj o.2.2.2 else
 bif o.1==13 then Wj o.2.1&&Wb6 o.2.2.1&&(o.2.2.2==(0:Int))else
 bif o.1==14 then Wb6 o.2.1&&Wj o.2.2.1&&(o.2.2.2==(0:Int))else
 bif o.1==15 then Wj o.2.1&&(o.2.2.1==(0:Int))&&(o.2.2.2==(0:Int))else
 bif o.1==16 then Wj o.2.1&&(o.2.2.1==(0:Int))&&(o.2.2.2==(0:Int))else
 false
theorem Wth{N:Nat}{a b c:Int}:Zp N (1,a,b,c)=ret (Was (1,a,b,c)):=by
 have h:Zp N (1,a,b,c)=((Zr N a).bind λo=>bif o.2.1 then((Zg0 N b).bind λo=>bif o.2.1 then some ((),(c==(0:Int),()))else some ((),(false,())))else some ((),(false,()))):=by kernel_rfl
 have h2:Was (1,a,b,c)=(Wj a&&Wbg b&&(c==(0:Int))):=rfl;rw[h,h2];simp only[WZ,WQ,WP,Wdz,Wbv,ret,Xd];cases Wj a<;>cases Wbg b<;>rfl
theorem Wua{N:Nat}{a b c:Int}:Zp N (2,a,b,c)=ret (Was (2,a,b,c)):=by
 have h:Zp N (2,a,b,c)=((Zr N a).bind λo=>bif o.2.1 then((Zr N b).bind λo=>bif o.2.1 then((Zr N c).bind λo=>some ((),(o.2.1,())))else some ((),(false,())))else some ((),(false,()))):=by kernel_rfl
 have h2:Was (2,a,b,c)=(Wj a&&Wj b&&Wj c):=rfl;rw[h,h2];simp only[WZ,WQ,WP,Wdz,Wbv,ret,Xd];cases Wj a<;>cases Wj b<;>rfl
theorem WtO{N:Nat}{a b c:Int}:Zp N (3,a,b,c)=ret (Was (3,a,b,c)):=by
 have h:Zp N (3,a,b,c)=((Zr N a).bind λo=>bif o.2.1 then((Zr N b).bind λo=>bif o.2.1 then((Zr N c).bind λo=>some ((),(o.2.1,())))else some ((),(false,())))else some ((),(false,()))):=by kernel_rfl
 have h2:Was (3,a,b,c)=(Wj a&&Wj b&&Wj c):=rfl;rw[h,h2];simp only[WZ,WQ,WP,Wdz,Wbv,ret,Xd];cases Wj a<;>cases Wj b<;>rfl
theorem Wtc{N:Nat}{a b c:Int}:Zp N (4,a,b,c)=ret (Was (4,a,b,c)):=by
 have h:Zp N (4,a,b,c)=((Zr N a).bind λo=>bif o.2.1 then((Zr N b).bind λo=>bif o.2.1 then((Zr N c).bind λo=>some ((),(o.2.1,())))else some ((),(false,())))else some ((),(false,()))):=by kernel_rfl
 have h2:Was (4,a,b,c)=(Wj a&&Wj b&&Wj c):=rfl;rw[h,h2];simp only[WZ,WQ,WP,Wdz,Wbv,ret,Xd];cases Wj a<;>cases Wj b<;>rfl
theorem Wt1{N:Nat}{a b c:Int}:Zp N (5,a,b,c)=ret (Was (5,a,b,c)):=by
 have h:Zp N (5,a,b,c)=((Zr N a).bind λo=>bif o.2.1 then((Zgg N b).bind λo=>bif o.2.1 then some ((),(c==(0:Int),()))else some ((),(false,())))else some ((),(false,()))):=by kernel_rfl
 have h2:Was (5,a,b,c)=(Wj a&&W7 b&&(c==(0:Int))):=rfl;rw[h,h2];simp only[WZ,WQ,WP,Wdz,Wbv,ret,Xd];cases Wj a<;>cases W7 b<;>rfl
theorem WtP{N:Nat}{a b c:Int}:Zp N (6,a,b,c)=ret (Was (6,a,b,c)):=by
 have h:Zp N (6,a,b,c)=((Zgg N a).bind λo=>bif o.2.1 then((Zr N b).bind λo=>bif o.2.1 then some ((),(c==(0:Int),()))else some ((),(false,())))else some ((),(false,()))):=by kernel_rfl
 have h2:Was (6,a,b,c)=(W7 a&&Wj b&&(c==(0:Int))):=rfl;rw[h,h2];simp only[WZ,WQ,WP,Wdz,Wbv,ret,Xd];cases W7 a<;>cases Wj b<;>rfl
theorem Wuv{N:Nat}{a b c:Int}:Zp N (7,a,b,c)=ret (Was (7,a,b,c)):=by
 have h:Zp N (7,a,b,c)=((Zr N a).bind λo=>bif o.2.1 then((Zbp N b 1 20).bind λo=>bif o.2.1 then some ((),(c==(0:Int),()))else some ((),(false,())))else some ((),(false,()))):=by kernel_rfl
 have h2:Was (7,a,b,c)=(Wj a&&(decide (1<=b)&&decide (b<=20))&&(c==(0:Int))):=rfl;rw[h,h2];simp only[WZ,WQ,WP,Wdz,Wbv,ret,Xd];cases Wj a<;>cases(decide (1<=b)&&decide (b<=20))<;>rfl
theorem Wup{N:Nat}{a b c:Int}:Zp N (8,a,b,c)=ret (Was (8,a,b,c)):=by
 have h:Zp N (8,a,b,c)=((Zr N a).bind λo=>bif o.2.1 then(bif b==(0:Int)then some ((),(c==(0:Int),()))else some ((),(false,())))else some ((),(false,()))):=by kernel_rfl
 have h2:Was (8,a,b,c)=(Wj a&&(b==(0:Int))&&(c==(0:Int))):=rfl;rw[h,h2];simp only[WZ,WQ,WP,Wdz,Wbv,ret,Xd];cases Wj a<;>cases(b==(0:Int))<;>rfl
theorem WtV{N:Nat}{a b c:Int}:Zp N (9,a,b,c)=ret (Was (9,a,b,c)):=by
 have h:Zp N (9,a,b,c)=(bif a==(0:Int)then(bif b==(0:Int)then some ((),(c==(0:Int),()))else some ((),(false,())))else some ((),(false,()))):=by kernel_rfl
 have h2:Was (9,a,b,c)=((a==(0:Int))&&(b==(0:Int))&&(c==(0:Int))):=rfl;rw[h,h2];simp only[WZ,WQ,WP,Wdz,Wbv,ret,Xd];cases(a==(0:Int))<;>cases(b==(0:Int))<;>rfl
theorem Wsf{N:Nat}{a b c:Int}:Zp N (10,a,b,c)=ret (Was (10,a,b,c)):=by
 have h:Zp N (10,a,b,c)=(bif a==(0:Int)then(bif b==(0:Int)then some ((),(c==(0:Int),()))else some ((),(false,())))else some ((),(false,()))):=by kernel_rfl
 have h2:Was (10,a,b,c)=((a==(0:Int))&&(b==(0:Int))&&(c==(0:Int))):=rfl;rw[h,h2];simp only[WZ,WQ,WP,Wdz,Wbv,ret,Xd];cases(a==(0:Int))<;>cases(b==(0:Int))<;>rfl
theorem WsB{N:Nat}{a b c:Int}:Zp N (11,a,b,c)=ret (Was (11,a,b,c)):=by
 have h:Zp N (11,a,b,c)=(bif a==(0:Int)then(bif b==(0:Int)then some ((),(c==(0:Int),()))else some ((),(false,())))else some ((),(false,()))):=by kernel_rfl
 have h2:Was (11,a,b,c)=((a==(0:Int))&&(b==(0:Int))&&(c==(0:Int))):=rfl;rw[h,h2];simp only[WZ,WQ,WP,Wdz,Wbv,ret,Xd];cases(a==(0:Int))<;>cases(b==(0:Int))<;>rfl
theorem Ws4{N:Nat}{a b c:Int}:Zp N (12,a,b,c)=ret (Was (12,a,b,c)):=by
 have h:Zp N (12,a,b,c)=((Zbp N a 0 7).bind λo=>bif o.2.1 then((Zr N b).bind λo=>bif o.2.1 then((Zr N c).bind λo=>some ((),(o.2.1,())))else some ((),(false,())))else some ((),(false,()))):=by kernel_rfl
 have h2:Was (12,a,b,c)=(Wb6 a&&Wj b&&Wj c):=rfl;rw[h,h2];simp only[WZ,WQ,WP,Wdz,Wbv,ret,Xd];cases Wb6 a<;>cases Wj b<;>rfl
theorem Wre{N:Nat}{a b c:Int}:Zp N (13,a,b,c)=ret (Was (13,a,b,c)):=by
 have h:Zp N (13,a,b,c)=((Zr N a).bind λo=>bif o.2.1 then((Zbp N b 0 7).bind λo=>bif o.2.1 then some ((),(c==(0:Int),()))else some ((),(false,())))else some ((),(false,()))):=by kernel_rfl
 have h2:Was (13,a,b,c)=(Wj a&&Wb6 b&&(c==(0:Int))):=rfl;rw[h,h2];simp only[WZ,WQ,WP,Wdz,Wbv,ret,Xd];cases Wj a<;>cases Wb6 b<;>rfl
theorem Wrl{N:Nat}{a b c:Int}:Zp N (14,a,b,c)=ret (Was (14,a,b,c)):=by
 have h:Zp N (14,a,b,c)=((Zbp N a 0 7).bind λo=>bif o.2.1 then((Zr N b).bind λo=>bif o.2.1 then some ((),(c==(0:Int),()))else some ((),(false,())))else some ((),(false,()))):=by kernel_rfl
 have h2:Was (14,a,b,c)=(Wb6 a&&Wj b&&(c==(0:Int))):=rfl;rw[h,h2];simp only[WZ,WQ,WP,Wdz,Wbv,ret,Xd];cases Wb6 a<;>cases Wj b<;>rfl
theorem Wq7{N:Nat}{a b c:Int}:Zp N (15,a,b,c)=ret (Was (15,a,b,c)):=by
 have h:Zp N (15,a,b,c)=((Zr N a).bind λo=>bif o.2.1 then(bif b==(0:Int)then some ((),(c==(0:Int),()))else some ((),(false,())))else some ((),(false,()))):=by kernel_rfl
 have h2:Was (15,a,b,c)=(Wj a&&(b==(0:Int))&&(c==(0:Int))):=rfl;rw[h,h2];simp only[WZ,WQ,WP,Wdz,Wbv,ret,Xd];cases Wj a<;>cases(b==(0:Int))<;>rfl
theorem WrB{N:Nat}{a b c:Int}:Zp N (16,a,b,c)=ret (Was (16,a,b,c)):=by
 have h:Zp N (16,a,b,c)=((Zr N a).bind λo=>bif o.2.1 then(bif b==(0:Int)then some ((),(c==(0:Int),()))else some ((),(false,())))else some ((),(false,()))):=by kernel_rfl
 have h2:Was (16,a,b,c)=(Wj a&&(b==(0:Int))&&(c==(0:Int))):=rfl;rw[h,h2];simp only[WZ,WQ,WP,Wdz,Wbv,ret,Xd];cases Wj a<;>cases(b==(0:Int))<;>rfl
theorem WdA{N:Nat}{o:Opn}:Zp N o=ret (Was o):=by
 obtain⟨k,a,b,c⟩:=o;by_cases h1:k=1
 .subst h1;exact Wth
 by_cases h2:k=2
 .subst h2;exact Wua
 by_cases h3:k=3
 .subst h3;exact WtO
 by_cases h4:k=4
 .subst h4;exact Wtc
 by_cases h5:k=5
 .subst h5;exact Wt1
 by_cases h6:k=6
 .subst h6;exact WtP
 by_cases h7:k=7
 .subst h7;exact Wuv
 by_cases h8:k=8
 .subst h8;exact Wup
 by_cases h9:k=9
 .subst h9;exact WtV
 by_cases ci:k=10
 .subst ci;exact Wsf
 by_cases dg:k=11
 .subst dg;exact WsB
 by_cases dv:k=12
 .subst dv;exact Ws4
 by_cases jF:k=13
 .subst jF;exact Wre
 by_cases nD:k=14
 .subst nD;exact Wrl
 by_cases h15:k=15
 .subst h15;exact Wq7
 by_cases kU:k=16
 .subst kU;exact WrB
 have e1:(k==(1:Int))=false:=by simpa using h1
 have e2:(k==(2:Int))=false:=by simpa using h2
 have e3:(k==(3:Int))=false:=by simpa using h3
 have e4:(k==(4:Int))=false:=by simpa using h4
 have e5:(k==(5:Int))=false:=by simpa using h5
 have e6:(k==(6:Int))=false:=by simpa using h6
 have e7:(k==(7:Int))=false:=by simpa using h7
 have e8:(k==(8:Int))=false:=by simpa using h8
 have e9:(k==(9:Int))=false:=by simpa using h9
 have eD:(k==(10:Int))=false:=by simpa using ci
 have kj:(k==(11:Int))=false:=by simpa using dg
 have kV:(k==(12:Int))=false:=by simpa using dv
 have kW:(k==(13:Int))=false:=by simpa using jF
 have jv:(k==(14:Int))=false:=by simpa using nD
 have ww:(k==(15:Int))=false:=by simpa using h15
 have wy:(k==(16:Int))=false:=by simpa using kU
 unfold Zp Was;simp only[];rw[e1,e2,e3,e4,e5,e6,e7,e8,e9,eD,kj,kV,kW,jv,ww,wy];rfl
theorem Wtn{N:Nat}{a b c:Int}:Zo N (1,a,b,c)=ret (Was (1,a,b,c)):=by
 have h:Zo N (1,a,b,c)=((Zs N a).bind λo=>bif o.2.1 then((Zaz N b).bind λo=>bif o.2.1 then some ((),(c==(0:Int),()))else some ((),(false,())))else some ((),(false,()))):=by kernel_rfl
 have h2:Was (1,a,b,c)=(Wj a&&Wbg b&&(c==(0:Int))):=rfl;rw[h,h2];simp only[W0,Wp,Wm,WW,Wn,Wbv,ret,Xd];cases Wj a<;>cases Wbg b<;>rfl
theorem Wt4{N:Nat}{a b c:Int}:Zo N (2,a,b,c)=ret (Was (2,a,b,c)):=by
 have h:Zo N (2,a,b,c)=((Zs N a).bind λo=>bif o.2.1 then((Zs N b).bind λo=>bif o.2.1 then((Zs N c).bind λo=>some ((),(o.2.1,())))else some ((),(false,())))else some ((),(false,()))):=by kernel_rfl
 have h2:Was (2,a,b,c)=(Wj a&&Wj b&&Wj c):=rfl;rw[h,h2];simp only[W0,Wp,Wm,WW,Wn,Wbv,ret,Xd];cases Wj a<;>cases Wj b<;>rfl
theorem Wte{N:Nat}{a b c:Int}:Zo N (3,a,b,c)=ret (Was (3,a,b,c)):=by
 have h:Zo N (3,a,b,c)=((Zs N a).bind λo=>bif o.2.1 then((Zs N b).bind λo=>bif o.2.1 then((Zs N c).bind λo=>some ((),(o.2.1,())))else some ((),(false,())))else some ((),(false,()))):=by kernel_rfl
 have h2:Was (3,a,b,c)=(Wj a&&Wj b&&Wj c):=rfl;rw[h,h2];simp only[W0,Wp,Wm,WW,Wn,Wbv,ret,Xd];cases Wj a<;>cases Wj b<;>rfl
theorem Wtv{N:Nat}{a b c:Int}:Zo N (4,a,b,c)=ret (Was (4,a,b,c)):=by
 have h:Zo N (4,a,b,c)=((Zs N a).bind λo=>bif o.2.1 then((Zs N b).bind λo=>bif o.2.1 then((Zs N c).bind λo=>some ((),(o.2.1,())))else some ((),(false,())))else some ((),(false,()))):=by kernel_rfl
 have h2:Was (4,a,b,c)=(Wj a&&Wj b&&Wj c):=rfl;rw[h,h2];simp only[W0,Wp,Wm,WW,Wn,Wbv,ret,Xd];cases Wj a<;>cases Wj b<;>rfl
theorem Wtw{N:Nat}{a b c:Int}:Zo N (5,a,b,c)=ret (Was (5,a,b,c)):=by
 have h:Zo N (5,a,b,c)=((Zs N a).bind λo=>bif o.2.1 then((Zba N b).bind λo=>bif o.2.1 then some ((),(c==(0:Int),()))else some ((),(false,())))else some ((),(false,()))):=by kernel_rfl
 have h2:Was (5,a,b,c)=(Wj a&&W7 b&&(c==(0:Int))):=rfl;rw[h,h2];simp only[W0,Wp,Wm,WW,Wn,Wbv,ret,Xd];cases Wj a<;>cases W7 b<;>rfl
theorem Wuz{N:Nat}{a b c:Int}:Zo N (6,a,b,c)=ret (Was (6,a,b,c)):=by
 have h:Zo N (6,a,b,c)=((Zba N a).bind λo=>bif o.2.1 then((Zs N b).bind λo=>bif o.2.1 then some ((),(c==(0:Int),()))else some ((),(false,())))else some ((),(false,()))):=by kernel_rfl
 have h2:Was (6,a,b,c)=(W7 a&&Wj b&&(c==(0:Int))):=rfl;rw[h,h2];simp only[W0,Wp,Wm,WW,Wn,Wbv,ret,Xd];cases W7 a<;>cases Wj b<;>rfl
theorem Wtl{N:Nat}{a b c:Int}:Zo N (7,a,b,c)=ret (Was (7,a,b,c)):=by
 have h:Zo N (7,a,b,c)=((Zs N a).bind λo=>bif o.2.1 then((Zm N b 1 20).bind λo=>bif o.2.1 then some ((),(c==(0:Int),()))else some ((),(false,())))else some ((),(false,()))):=by kernel_rfl
 have h2:Was (7,a,b,c)=(Wj a&&(decide (1<=b)&&decide (b<=20))&&(c==(0:Int))):=rfl;rw[h,h2];simp only[W0,Wp,Wm,WW,Wn,Wbv,ret,Xd];cases Wj a<;>cases(decide (1<=b)&&decide (b<=20))<;>rfl
theorem Wun{N:Nat}{a b c:Int}:Zo N (8,a,b,c)=ret (Was (8,a,b,c)):=by
 have h:Zo N (8,a,b,c)=((Zs N a).bind λo=>bif o.2.1 then(bif b==(0:Int)then some ((),(c==(0:Int),()))else some ((),(false,())))else some ((),(false,()))):=by kernel_rfl
 have h2:Was (8,a,b,c)=(Wj a&&(b==(0:Int))&&(c==(0:Int))):=rfl;rw[h,h2];simp only[W0,Wp,Wm,WW,Wn,Wbv,ret,Xd];cases Wj a<;>cases(b==(0:Int))<;>rfl
theorem Wt9{N:Nat}{a b c:Int}:Zo N (9,a,b,c)=ret (Was (9,a,b,c)):=by
 have h:Zo N (9,a,b,c)=(bif a==(0:Int)then(bif b==(0:Int)then some ((),(c==(0:Int),()))else some ((),(false,())))else some ((),(false,()))):=by kernel_rfl
 have h2:Was (9,a,b,c)=((a==(0:Int))&&(b==(0:Int))&&(c==(0:Int))):=rfl;rw[h,h2];simp only[W0,Wp,Wm,WW,Wn,Wbv,ret,Xd];cases(a==(0:Int))<;>cases(b==(0:Int))<;>rfl
theorem Wq6{N:Nat}{a b c:Int}:Zo N (10,a,b,c)=ret (Was (10,a,b,c)):=by
 have h:Zo N (10,a,b,c)=(bif a==(0:Int)then(bif b==(0:Int)then some ((),(c==(0:Int),()))else some ((),(false,())))else some ((),(false,()))):=by kernel_rfl
 have h2:Was (10,a,b,c)=((a==(0:Int))&&(b==(0:Int))&&(c==(0:Int))):=rfl;rw[h,h2];simp only[W0,Wp,Wm,WW,Wn,Wbv,ret,Xd];cases(a==(0:Int))<;>cases(b==(0:Int))<;>rfl
theorem Wrb{N:Nat}{a b c:Int}:Zo N (11,a,b,c)=ret (Was (11,a,b,c)):=by
 have h:Zo N (11,a,b,c)=(bif a==(0:Int)then(bif b==(0:Int)then some ((),(c==(0:Int),()))else some ((),(false,())))else some ((),(false,()))):=by kernel_rfl
 have h2:Was (11,a,b,c)=((a==(0:Int))&&(b==(0:Int))&&(c==(0:Int))):=rfl;rw[h,h2];simp only[W0,Wp,Wm,WW,Wn,Wbv,ret,Xd];cases(a==(0:Int))<;>cases(b==(0:Int))<;>rfl
theorem Wrt{N:Nat}{a b c:Int}:Zo N (12,a,b,c)=ret (Was (12,a,b,c)):=by
 have h:Zo N (12,a,b,c)=((Za4 N a).bind λo=>bif o.2.1 then((Zs N b).bind λo=>bif o.2.1 then((Zs N c).bind λo=>some ((),(o.2.1,())))else some ((),(false,())))else some ((),(false,()))):=by kernel_rfl
 have h2:Was (12,a,b,c)=(Wb6 a&&Wj b&&Wj c):=rfl;rw[h,h2];simp only[W0,Wp,Wm,WW,Wn,Wbv,ret,Xd];cases Wb6 a<;>cases Wj b<;>rfl
theorem Wsi{N:Nat}{a b c:Int}:Zo N (13,a,b,c)=ret (Was (13,a,b,c)):=by
 have h:Zo N (13,a,b,c)=((Zs N a).bind λo=>bif o.2.1 then((Za4 N b).bind λo=>bif o.2.1 then some ((),(c==(0:Int),()))else some ((),(false,())))else some ((),(false,()))):=by kernel_rfl
 have h2:Was (13,a,b,c)=(Wj a&&Wb6 b&&(c==(0:Int))):=rfl;rw[h,h2];simp only[W0,Wp,Wm,WW,Wn,Wbv,ret,Xd];cases Wj a<;>cases Wb6 b<;>rfl
theorem WsD{N:Nat}{a b c:Int}:Zo N (14,a,b,c)=ret (Was (14,a,b,c)):=by
 have h:Zo N (14,a,b,c)=((Za4 N a).bind λo=>bif o.2.1 then((Zs N b).bind λo=>bif o.2.1 then some ((),(c==(0:Int),()))else some ((),(false,())))else some ((),(false,()))):=by kernel_rfl
 have h2:Was (14,a,b,c)=(Wb6 a&&Wj b&&(c==(0:Int))):=rfl;rw[h,h2];simp only[W0,Wp,Wm,WW,Wn,Wbv,ret,Xd];cases Wb6 a<;>cases Wj b<;>rfl
theorem WrW{N:Nat}{a b c:Int}:Zo N (15,a,b,c)=ret (Was (15,a,b,c)):=by
 have h:Zo N (15,a,b,c)=((Zs N a).bind λo=>bif o.2.1 then(bif b==(0:Int)then some ((),(c==(0:Int),()))else some ((),(false,())))else some ((),(false,()))):=by kernel_rfl
 have h2:Was (15,a,b,c)=(Wj a&&(b==(0:Int))&&(c==(0:Int))):=rfl;rw[h,h2];simp only[W0,Wp,Wm,WW,Wn,Wbv,ret,Xd];cases Wj a<;>cases(b==(0:Int))<;>rfl
theorem Wrf{N:Nat}{a b c:Int}:Zo N (16,a,b,c)=ret (Was (16,a,b,c)):=by
 have h:Zo N (16,a,b,c)=((Zs N a).bind λo=>bif o.2.1 then(bif b==(0:Int)then some ((),(c==(0:Int),()))else some ((),(false,())))else some ((),(false,()))):=by kernel_rfl
 have h2:Was (16,a,b,c)=(Wj a&&(b==(0:Int))&&(c==(0:Int))):=rfl;rw[h,h2];simp only[W0,Wp,Wm,WW,Wn,Wbv,ret,Xd];cases Wj a<;>cases(b==(0:Int))<;>rfl
theorem We5{N:Nat}{o:Opn}:Zo N o=ret (Was o):=by
 obtain⟨k,a,b,c⟩:=o;by_cases h1:k=1
 .subst h1;exact Wtn
 by_cases h2:k=2
 .subst h2;exact Wt4
 by_cases h3:k=3
 .subst h3;exact Wte
 by_cases h4:k=4
 .subst h4;exact Wtv
 by_cases h5:k=5
 .subst h5;exact Wtw
 by_cases h6:k=6
 .subst h6;exact Wuz
 by_cases h7:k=7
 .subst h7;exact Wtl
 by_cases h8:k=8
 .subst h8;exact Wun
 by_cases h9:k=9
 .subst h9;exact Wt9
 by_cases ci:k=10
 .subst ci;exact Wq6
 by_cases dg:k=11
 .subst dg;exact Wrb
 by_cases dv:k=12
 .subst dv;exact Wrt
 by_cases jF:k=13
 .subst jF;exact Wsi
 by_cases nD:k=14
 .subst nD;exact WsD
 by_cases h15:k=15
 .subst h15;exact WrW
 by_cases kU:k=16
 .subst kU;exact Wrf
 have e1:(k==(1:Int))=false:=by simpa using h1
 have e2:(k==(2:Int))=false:=by simpa using h2
 have e3:(k==(3:Int))=false:=by simpa using h3
 have e4:(k==(4:Int))=false:=by simpa using h4
 have e5:(k==(5:Int))=false:=by simpa using h5
 have e6:(k==(6:Int))=false:=by simpa using h6
 have e7:(k==(7:Int))=false:=by simpa using h7
 have e8:(k==(8:Int))=false:=by simpa using h8
 have e9:(k==(9:Int))=false:=by simpa using h9
 have eD:(k==(10:Int))=false:=by simpa using ci
 have kj:(k==(11:Int))=false:=by simpa using dg
 have kV:(k==(12:Int))=false:=by simpa using dv
 have kW:(k==(13:Int))=false:=by simpa using jF
 have jv:(k==(14:Int))=false:=by simpa using nD
 have ww:(k==(15:Int))=false:=by simpa using h15
 have wy:(k==(16:Int))=false:=by simpa using kU
 unfold Zo Was;simp only[];rw[e1,e2,e3,e4,e5,e6,e7,e8,e9,eD,kj,kV,kW,jv,ww,wy];rfl
end
section
def WlO{α:Type}(p:Nat->α->Bool):Nat->List α->Bool
 |_,[]=>false
 |j,x::l=>p j x||WlO p (j+1) l
theorem WdE{α V R:Type}{body:Int->α->V->(V->Option R)->Option R}{K:Int->V->Option R}{p:Nat->α->Bool}{E:V->Option R}:∀(l:List α) (j:Nat) (v:V),(∀(j:Nat) x v k,x∈l->body j x v k=bif p j x then E v else k v)->
  Wcg body K l j v=bif WlO p j l then E v else K ((j+l.length:Nat):Int) v
 | [],j,v,_=>rfl
 |x::l,j,v,h=>by
  rw[Wcg,h j x v _ (Xi ..),WdE l (j+1) v λj y v k hy=>h j y v k (Xe _ hy),WlO];cases p j x
  .simp only[cond_false,Xcs,Xu];rw[show j+1+l.length=j+(l.length+1) by omega]
  .rfl
theorem Wgp{α:Type}{p:Nat->α->Bool}:∀{l:List α} {j:Nat},WlO p j l=true↔∃i,∃h:i<l.length,p (j+i) l[i]=true
 | [],j=>by simp[WlO]
 |x::l,j=>by
  rw[WlO,Xbw,Wgp];constructor
  .rintro(h|⟨i,hi,h⟩)
   .exact⟨0,by simp,by simpa using h⟩
   .exact⟨i+1,by simpa using hi,by simpa [Xar,Xcr 1]using h⟩
  .rintro⟨i,hi,h⟩;cases i with
   |zero=>exact .inl (by simpa using h)
   |succ i=>exact .inr ⟨i,by simpa using hi,by simpa [Xar,Xcr 1]using h⟩
def opd(o:Opn):Int:=bif o.1==8 then 1 else bif o.1==9 then-1 else 0
theorem Whx(o:Opn):-1<=opd o/\opd o<=1:=by unfold opd;cases o.1==8<;>cases o.1==9<;>simp
def dep(l:List Opn)(j:Nat):Int:=((l.take j).map opd).sum
theorem Wdg(l:List Opn):dep l 0=0:=by simp[dep]
theorem WaG{l:List Opn}{j:Nat}(h:j<l.length):dep l (j+1)=dep l j+opd l[j]:=by
 unfold dep;rw[Xci h,Xr,List.sum_append];simp
theorem Wf{α:Type}{l:List α}{j:Nat}(h:j<l.length)(d:α):Xc l j d=l[j]:=by simp[h]
theorem Wdq(l:List Opn):∀j:Nat,-(j:Int)<=dep l j/\dep l j<=j
 |0=>by simp[dep]
 |j+1=>by
  have ih:=Wdq l j;by_cases h:j<l.length
  .have:=Whx l[j];rw[WaG h];omega
  .have:dep l (j+1)=dep l j:=by unfold dep;rw[Xcz (by omega),Xcz (by omega)]
   rw[this];omega
def bal(l:List Opn):Bool:=!WlO (λj _=>decide (dep l (j+1)<0)) 0 l&&decide (dep l l.length=0)
theorem WgE{N:Nat}{o:Opn}:Ziq N o=ret (opd o):=by
 unfold Ziq opd;cases o.1==8<;>cases o.1==9<;>rfl
theorem Ww7(x:Int):(x==(0:Int))=decide (x=0):=by by_cases h:x=0<;>simp[h]
theorem Wik{N:Nat}{l:List Opn}(hl:l.length<=1048576)(hN:1048576<N):Zc2 N l=ret (bal l):=by
 unfold Zc2 bal;have h1:=WO (l:=l) (V:=Unit) (R:=Unit×Ko) (lp:=λn j _=>Zbz N l (some ((),(false,()))) (λvJ be gG=>some ((),(vJ==(0:Int),()))) n (dep l j.toNat) j) (n:=N) (by omega)
  (body:=λj _ v k=>bif decide (dep l (j.toNat+1)<0)then some ((),(false,()))else k v) (K:=λj _=>some ((),(dep l j.toNat==(0:Int),())))
  (λn i v hi=>by
   have hb:=Wdq l i;have hs:=WaG hi;have ho:=Whx l[i];have e:We .i64 (dep l i) (opd l[i])=dep l (i+1):=by rw[Ww (by unfold I64;omega),hs]
   simp only[Zbz,Wao hi,Wv hi,WB hi,Wf hi,Wk (show i<4611686018427387904 by omega),cond_true,WgE,ret,Xd,Xj,e])
  (λn v=>by simp only[Zbz,WaH (Xn l.length),cond_false]) ()
 have e0:dep l (Xb 0)=0:=Wdg l;simp only[e0]at h1;refine h1.trans ?_;rw[WdE (p:=λj _=>decide (dep l (j+1)<0)) (E:=λ_=>some ((),(false,()))) l 0 () (λj x v k _=>rfl)];rw[Xbc,Xj,Ww7];cases WlO (λj _=>decide (dep l (j+1)<0)) 0 l<;>rfl
theorem Wko{N:Nat}{l:List Opn}(hl:l.length<=1048576)(hN:1048576<N){i:Nat}(hi:i<=l.length):Zgs N l (i:Int)=ret (dep l i):=by
 unfold Zgs;have h1:=WO (l:=l) (V:=Unit) (R:=Unit×Kh) (lp:=λn j _=>Zb2 N (i:Int) l (λsy bS iq=>some ((),(sy,()))) n (dep l (min j.toNat i)) j) (n:=N) (by omega)
  (body:=λj _ v k=>k v) (K:=λj _=>some ((),(dep l (min j.toNat i),())))
  (λn j v hj=>by
   have hb:=Wdq l j;have ho:=Whx l[j];simp only[Zb2,Wao hj,Wv hj,WB hj,Wf hj,Wk (show j<4611686018427387904 by omega),cond_true,WgE,ret,Xd,Xj];by_cases h:j<i
   .have e1:decide ((j:Int)<(i:Int))=true:=by simpa using h
    have e2:min j i=j:=by omega
    have e3:min (j+1) i=j+1:=by omega
    have e:We .i64 (dep l j) (opd l[j])=dep l (j+1):=by rw[Ww (by unfold I64;omega),WaG hj]
    rw[e1,e2,e3,e];rfl
   .have e1:decide ((j:Int)<(i:Int))=false:=by simp;omega
    have e2:min j i=i:=by omega
    have e3:min (j+1) i=i:=by omega
    rw[e1,e2,e3];rfl)
  (λn v=>by simp only[Zb2,WaH (Xn l.length),cond_false]) ()
 have e0:dep l (min (Xb 0) i)=0:=by
  have:min (Xb 0) i=0:=by simp
  rw[this];exact Wdg l
 simp only[e0]at h1;refine h1.trans ?_;rw[WjB (f:=λv _=>v) l 0 () (λj x v k _=>rfl),Xbc,Xj,Nat.min_eq_right hi]
theorem WnH{N:Nat}{l:List Opn}{a b:Nat}(dY:a<=b)(hb:b<=l.length)(hl:l.length<=1048576)(hN:1048576<N):
  Za7 N l (b:Int) (some ((),(false,()))) (λsw qK aM=>some ((),(sw==(0:Int),()))) N 0 (a:Int)=ret (bal ((l.take b).drop a)):=by
 have hlen:((l.take b).drop a).length=b-a:=by simp;omega
 unfold bal;have h1:=WO (l:=(l.take b).drop a) (V:=Unit) (R:=Unit×Ko) (lp:=λn j _=>Za7 N l (b:Int) (some ((),(false,()))) (λsw qK aM=>some ((),(sw==(0:Int),()))) n (dep ((l.take b).drop a) j.toNat) ((a+j.toNat:Nat):Int)) (n:=N) (by omega)
  (body:=λj _ v k=>bif decide (dep ((l.take b).drop a) (j.toNat+1)<0)then some ((),(false,()))else k v) (K:=λj _=>some ((),(dep ((l.take b).drop a) j.toNat==(0:Int),())))
  (λn i v hi=>by
   have hb':=Wdq ((l.take b).drop a) i;have hs:=WaG hi;have ei:((l.take b).drop a)[i]=l[a+i]:=by simp
   rw[ei]at hs;have dP:a+i<l.length:=by omega
   have e1:decide (((a+i:Nat):Int)<(b:Int))=true:=by simp;omega
   have e2:We .i64 ((a+i:Nat):Int) 1=((a+(i+1):Nat):Int):=by rw[Ww (by unfold I64;omega)];omega
   have e3:We .i64 (dep ((l.take b).drop a) i) 1=dep ((l.take b).drop a) i+1:=Ww (by unfold I64;omega);have e4:W5 .i64 (dep ((l.take b).drop a) i) 1=dep ((l.take b).drop a) i+ -1:=by rw[Waq (by unfold I64;omega)];omega
   simp only[Za7,e1,Wv dP,WB dP,Wf dP,e2,e3,e4,cond_true,Xj];unfold opd at hs;cases h8:l[a+i].1==8
   .cases h9:l[a+i].1==9
    .rw[h8,h9]at hs;simp only[cond_false,Xfu]at hs;simp only[hs,cond_false]
    .rw[h8,h9]at hs;simp only[cond_false,cond_true]at hs;simp only[hs,cond_false,cond_true]
   .have h9:(l[a+i].1==9)=false:=by
     have:l[a+i].1=8:=by simpa using h8
     rw[this];rfl
    rw[h8]at hs;simp only[cond_true]at hs;simp only[hs,h9,cond_false,cond_true])
  (λn v=>by
   have e1:decide (((a+(((l.take b).drop a).length:Int).toNat:Nat):Int)<(b:Int))=false:=by rw[Xj,hlen];simp;omega
   simp only[Za7,e1,cond_false]) ()
 have e0:dep ((l.take b).drop a) (Xb 0)=0:=Wdg _;simp only[e0]at h1;refine h1.trans ?_;rw[WdE (p:=λj _=>decide (dep ((l.take b).drop a) (j+1)<0)) (E:=λ_=>some ((),(false,()))) _ 0 () (λj x v k _=>rfl)];rw[Xbc,Xj,Ww7];cases WlO (λj _=>decide (dep ((l.take b).drop a) (j+1)<0)) 0 ((l.take b).drop a)<;>rfl
def Whu(l:List Opn)(i:Nat)(o:Opn):Bool:=decide (i+1+o.2.2.1.toNat<=l.length)&&bal ((l.take (i+1+o.2.2.1.toNat)).drop (i+1))
def frk(l:List Opn)(j:Nat):Nat:=(l.take j).countP λo=>o.1==11
theorem Wd2{l:List Opn}{j:Nat}(h:j<l.length):frk l (j+1)=frk l j+(l[j].1==11).toNat:=by
 unfold frk;rw[Xci h,List.countP_append,List.countP_singleton];cases l[j].1==11<;>rfl
theorem WuM(l:List Opn)(j:Nat):frk l j<=l.length:=Xcq List.countP_le_length (by simp;omega)
def WuL(l:List Opn)(i:Nat)(o:Opn):Bool:=
 !Was o||((o.1==7)&& !Whu l i o)||((o.1==11)&&(decide (dep l i>0)||decide (frk l (i+1)>1)))||decide (dep l (i+1)<0)
def WnN(l:List Opn)(i:Nat)(o:Opn):Bool:=
 !Was o||((o.1==7)&& !Whu l i o)||((o.1==11)&&(decide (frk l (i+1)>1)|| !decide (dep l i=0)))
def WnX(l:List Opn):Bool:=decide (l.length<=24)&&(bal l&& !WlO (WnN l) 0 l)
theorem WoP{l:List Opn}{i:Nat}{o:Opn}(hl:l.length<=24)(hi:i<l.length)(ho:Was o=true)(h7:o.1=7):
  We .i64 ((i+1:Nat):Int) o.2.2.1=((i+1+o.2.2.1.toNat:Nat):Int)/\1<=o.2.2.1/\o.2.2.1<=20:=by
 obtain⟨k,a,b,c⟩:=o;simp only at h7;subst h7;have:(Wj a&&(decide (1<=b)&&decide (b<=20))&&(c==(0:Int)))=true:=ho;simp only[Xh,decide_eq_true_eq]at this;refine⟨?_,this.1.2.1,this.1.2.2⟩;rw[Ww (by unfold I64;simp only[];omega)];simp only[];omega
theorem Wna{N:Nat}{l:List Opn}{i:Nat}(hl:l.length<=24)(hN:1048576<N)(hi:i<l.length)(ho:Was l[i]=true)(h7:l[i].1=7):Zho N l (i:Int)=ret (Whu l i l[i]):=by
 obtain⟨e1,h1,h2⟩:=WoP hl hi ho h7;unfold Zho Whu;simp only[Wv hi,cond_true,WB hi,Wf hi,e1,Wk (show i<4611686018427387904 by omega)];by_cases h:i+1+l[i].2.2.1.toNat<=l.length
 .have e:decide (((i+1+l[i].2.2.1.toNat:Nat):Int)>Wb l)=false:=by simp[Wb];omega
  rw[e];simp only[cond_false];rw[WnH (by omega) h (by omega) hN];simp[h]
 .have e:decide (((i+1+l[i].2.2.1.toNat:Nat):Int)>Wb l)=true:=by simp[Wb];omega
  rw[e];simp[h]
theorem WnJ{l:List Opn}:bal l=true↔(∀i,i<l.length->0<=dep l (i+1))/\dep l l.length=0:=by
 unfold bal;rw[Xh,Xaq,←Xfs,Wgp,decide_eq_true_eq];constructor
 .rintro⟨h1,h2⟩;refine⟨λi hi=>?_,h2⟩;by_cases h:dep l (i+1)<0
  .exact absurd ⟨i,hi,by simpa using h⟩ h1
  .omega
 .rintro⟨h1,h2⟩;refine⟨?_,h2⟩;rintro⟨i,hi,h⟩;have:=h1 i hi;simp at h;omega
theorem Wmg(l:List Opn):(!WlO (WuL l) 0 l&&decide (dep l l.length=0))=(bal l&& !WlO (WnN l) 0 l):=by
 rw[Bool.eq_iff_iff,Xh,Xh,Xaq,Xaq,←Xfs,←Xfs,Wgp,Wgp,WnJ,decide_eq_true_eq];constructor
 .rintro⟨h1,h2⟩;have hd:∀i,i<l.length->0<=dep l (i+1):=λi hi=>by
   by_cases h:dep l (i+1)<0
   .refine absurd ⟨i,hi,?_⟩ h1;unfold WuL;simp[h]
   .omega
  refine⟨⟨hd,h2⟩,?_⟩;rintro⟨i,hi,h⟩;refine h1 ⟨i,hi,?_⟩;have zx:0<=dep l i:=by
   cases i with
   |zero=>rw[Wdg];omega
   |succ i=>exact hd i (by omega)
  rw[Xbc]at h⊢;unfold WnN at h;unfold WuL;simp only[Xbw,Xh,decide_eq_true_eq,Xaq,decide_eq_false_iff_not]at h⊢;rcases h with(h|h)|⟨h,h'⟩
  .exact .inl (.inl (.inl h))
  .exact .inl (.inl (.inr h))
  .refine .inl (.inr ⟨h,?_⟩);rcases h' with h'|h'
   .exact .inr h'
   .exact .inl (by omega)
 .rintro⟨⟨hd,h2⟩,h1⟩;refine⟨?_,h2⟩;rintro⟨i,hi,h⟩;refine h1 ⟨i,hi,?_⟩;have zx:=hd i hi;rw[Xbc]at h⊢;unfold WuL at h;unfold WnN;simp only[Xbw,Xh,decide_eq_true_eq,Xaq,decide_eq_false_iff_not]at h⊢;rcases h with((h|h)|⟨h,h'⟩)|h
  .exact .inl (.inl h)
  .exact .inl (.inr h)
  .refine .inr ⟨h,?_⟩;rcases h' with h'|h'
   .exact .inr (by omega)
   .exact .inl h'
  .omega
theorem Whc{N:Nat}{l:List Opn}(hl:l.length<=1048576)(hN:1048576<N):Zgh N l=ret (WnX l):=by
 unfold Zgh WnX;by_cases h:l.length<=24
 .have e:decide (Wb l>24)=false:=by simp[Wb];omega
  rw[e];simp only[cond_false];have h1:=WO (l:=l) (V:=Unit) (R:=Unit×Ko) (lp:=λn j _=>Za8 N l (some ((),(false,()))) (λvH mg zh ep=>some ((),(vH==(0:Int),()))) n (dep l j.toNat) ((frk l j.toNat:Nat):Int) j) (n:=N) (by omega)
   (body:=λj x v k=>bif WuL l j.toNat x then some ((),(false,()))else k v) (K:=λj _=>some ((),(dep l j.toNat==(0:Int),())))
   (λn i v hi=>by
    have hb:=Wdq l i;have hs:=WaG hi;have hf:=Wd2 hi;have gh:=WuM l i;have e3:We .i64 (dep l i) 1=dep l i+1:=Ww (by unfold I64;omega);have e4:W5 .i64 (dep l i) 1=dep l i+ -1:=by rw[Waq (by unfold I64;omega)];omega
    have e5:We .i64 ((frk l i:Nat):Int) 1=((frk l i+1:Nat):Int):=by rw[Ww (by unfold I64;omega)];rfl
    simp only[Za8,Wao hi,Wv hi,WB hi,Wf hi,Wk (show i<4611686018427387904 by omega),cond_true,Xj,WdA,ret,Xd,e3,e4,e5];unfold WuL;cases ho:Was l[i]with
    |false=>rfl
    |true=>
     unfold opd at hs;simp only[Xab,cond_false,Xcs];by_cases h8:l[i].1=8
     .have b8:(l[i].1==8)=true:=by simp[h8]
      have b7:(l[i].1==7)=false:=by simp[h8]
      have bc:(l[i].1==11)=false:=by simp[h8]
      simp only[b8,b7,bc,cond_true,cond_false,Xdn,Xau,Xcu,Xcs]at hs hf⊢;simp only[hs,hf]
     .have b8:(l[i].1==8)=false:=by simp[h8]
      by_cases h9:l[i].1=9
      .have b9:(l[i].1==9)=true:=by simp[h9]
       have b7:(l[i].1==7)=false:=by simp[h9]
       have bc:(l[i].1==11)=false:=by simp[h9]
       simp only[b8,b9,b7,bc,cond_true,cond_false,Xdn,Xau,Xcu,Xcs]at hs hf⊢;simp only[hs,hf]
      .have b9:(l[i].1==9)=false:=by simp[h9]
       by_cases h7:l[i].1=7
       .have b7:(l[i].1==7)=true:=by simp[h7]
        have bc:(l[i].1==11)=false:=by simp[h7]
        have zy:=Wna h hN hi ho h7;simp only[b8,b9,b7,bc,cond_true,cond_false,Xdn,Xau,Xcu,Xbq,Bool.or_false,Xfu,zy,ret,Xd]at hs hf⊢;simp only[hs,hf];cases Whu l i l[i]<;>rfl
       .have b7:(l[i].1==7)=false:=by simp[h7]
        by_cases dg:l[i].1=11
        .have bc:(l[i].1==11)=true:=by simp[dg]
         simp only[b8,b9,b7,bc,cond_true,cond_false,Xhe,Xcu,Xbq,Xcs,Xfu]at hs hf⊢;simp only[hs,hf];have ef:decide (((frk l i+1:Nat):Int)>1)=decide (frk l i+1>1):=by apply decide_eq_decide.2;omega
         rw[ef];cases decide (dep l i>0)<;>cases decide (frk l i+1>1)<;>cases decide (dep l i<0)<;>rfl
        .have bc:(l[i].1==11)=false:=by simp[dg]
         simp only[b8,b9,b7,bc,cond_true,cond_false,Xdn,Xau,Xcu,Xcs,Xfu]at hs hf⊢;simp only[hs,hf])
   (λn v=>by simp only[Za8,WaH (Xn l.length),cond_false]) ()
  have e0:dep l (Xb 0)=0:=Wdg l;have e1:((frk l (Xb 0):Nat):Int)=0:=by simp[frk]
  simp only[e0,e1]at h1;refine h1.trans ?_;rw[WdE (p:=WuL l) (E:=λ_=>some ((),(false,()))) l 0 () (λj x v k _=>by rw[Xj])];rw[Xbc,Xj,Ww7,←Wmg];simp only[h,decide_true,Xbq];cases WlO (WuL l) 0 l<;>rfl
 .have e:decide (Wb l>24)=true:=by simp[Wb];omega
  rw[e];simp[h]
theorem Whh{N:Nat}{l:List Opn}(hl:l.length<=1048576)(hN:1048576<N):Zcr N l=ret (WnX l):=by
 unfold Zcr WnX;by_cases h:l.length<=24
 .have e:decide (Wb l>24)=false:=by simp[Wb];omega
  rw[e];simp only[cond_false,Wik hl hN,ret,Xd,h,decide_true,Xbq];cases ti:bal l with
  |false=>rfl
  |true=>
   simp only[Xab,cond_false,Xbq];have h1:=WO (l:=l) (V:=Unit) (R:=Unit×Ko) (lp:=λn j _=>Zbx N l (some ((),(false,()))) (λmh gU t22=>some ((),(true,()))) n ((frk l j.toNat:Nat):Int) j) (n:=N) (by omega)
    (body:=λj x v k=>bif WnN l j.toNat x then some ((),(false,()))else k v) (K:=λj _=>some ((),(true,())))
    (λn i v hi=>by
     have hf:=Wd2 hi;have gh:=WuM l i;have e5:We .i64 ((frk l i:Nat):Int) 1=((frk l i+1:Nat):Int):=by rw[Ww (by unfold I64;omega)];rfl
     simp only[Zbx,Wao hi,Wv hi,WB hi,Wf hi,cond_true,Xj,We5,ret,Xd,e5];unfold WnN;cases ho:Was l[i]with
     |false=>rfl
     |true=>
      simp only[Xab,cond_false,Xcs];by_cases h7:l[i].1=7
      .have b7:(l[i].1==7)=true:=by simp[h7]
       have bc:(l[i].1==11)=false:=by simp[h7]
       obtain⟨en,h1,h2⟩:=WoP h hi ho h7;simp only[b7,bc,cond_true,en,Wk (show i<4611686018427387904 by omega),Xdn,Xau,Xcu,Xbq,Bool.or_false]at hf⊢;simp only[hf];unfold Whu;by_cases hq:i+1+l[i].2.2.1.toNat<=l.length
       .have q1:decide (((i+1+l[i].2.2.1.toNat:Nat):Int)>Wb l)=false:=by simp[Wb];omega
        have q2:(((decide ((0:Int)<=((i+1+l[i].2.2.1.toNat:Nat):Int)))&&(decide (((i+1+l[i].2.2.1.toNat:Nat):Int)<=((Xa l):Int))))&&(decide ((0:Int)<=((i+1:Nat):Int)))&&(decide (((i+1:Nat):Int)<=((i+1+l[i].2.2.1.toNat:Nat):Int))))=true:=by simp;omega
        rw[q1,q2];simp only[cond_false,cond_true,Xj];rw[Wik (by simp;omega) hN];simp only[ret,Xd,hq,decide_true,Xbq]
       .have q1:decide (((i+1+l[i].2.2.1.toNat:Nat):Int)>Wb l)=true:=by simp[Wb];omega
        rw[q1];simp[hq]
      .have b7:(l[i].1==7)=false:=by simp[h7]
       by_cases dg:l[i].1=11
       .have bc:(l[i].1==11)=true:=by simp[dg]
        simp only[b7,bc,cond_true,cond_false,Xhe,Xcu,Xbq,Xcs,Wko hl hN (Nat.le_of_lt hi),ret,Xd,Wk (show i<4611686018427387904 by omega)]at hf⊢;simp only[hf];have ef:decide (((frk l i+1:Nat):Int)>1)=decide (frk l i+1>1):=by apply decide_eq_decide.2;omega
        have e0:(dep l i !=0)= !decide (dep l i=0):=by rw[bne,Ww7]
        rw[ef,e0];cases decide (frk l i+1>1)<;>cases decide (dep l i=0)<;>rfl
       .have bc:(l[i].1==11)=false:=by simp[dg]
        simp only[b7,bc,cond_true,cond_false,Xdn,Xau,Xcu,Xcs,Wk (show i<4611686018427387904 by omega)]at hf⊢;simp only[hf])
    (λn v=>by simp only[Zbx,WaH (Xn l.length),cond_false]) ()
   have e1:((frk l (Xb 0):Nat):Int)=0:=by simp[frk]
   simp only[e1]at h1;refine h1.trans ?_;rw[WdE (p:=WnN l) (E:=λ_=>some ((),(false,()))) l 0 () (λj x v k _=>by rw[Xj])];cases WlO (WnN l) 0 l<;>rfl
 .have e:decide (Wb l>24)=true:=by simp[Wb];omega
  rw[e];simp[h]
end
section
def stk(l:List Opn):Nat->List Nat
 |0=>[]
 |j+1=>bif (l.getD j (0,0,0,0)).1==8 then stk l j++ [j]else bif (l.getD j (0,0,0,0)).1==9 then(stk l j).dropLast else stk l j
theorem Wi3{l:List Opn}{j:Nat}(h:j<l.length)(h8:l[j].1=8):stk l (j+1)=stk l j++ [j]:=by
 rw[stk,Wf h];simp[h8]
theorem Wku{l:List Opn}{j:Nat}(h:j<l.length)(h9:l[j].1=9):stk l (j+1)=(stk l j).dropLast:=by
 rw[stk,Wf h];simp[h9]
theorem Wga{l:List Opn}{j:Nat}(h:j<l.length)(h8:l[j].1≠8)(h9:l[j].1≠9):stk l (j+1)=stk l j:=by
 rw[stk,Wf h];have e8:(l[j].1==8)=false:=by simp[h8]
 have e9:(l[j].1==9)=false:=by simp[h9]
 rw[e8,e9];rfl
theorem Wui{o:Opn}(h:o.1=8):opd o=1:=by unfold opd;simp[h]
theorem Wk3{o:Opn}(h:o.1=9):opd o= -1:=by unfold opd;simp[h]
theorem WvA{o:Opn}(h8:o.1≠8)(h9:o.1≠9):opd o=0:=by
 unfold opd;have e8:(o.1==8)=false:=by simp[h8]
 have e9:(o.1==9)=false:=by simp[h9]
 rw[e8,e9];rfl
theorem Wcd{α:Type}(l:List α):l= []\/∃q x,l=q++ [x]:=by
 rcases List.eq_nil_or_concat l with h|⟨q,x,h⟩
 .exact .inl h
 .exact .inr ⟨q,x,by rw[h,List.concat_eq_append]⟩
def Up(l:List Opn):Prop:=∀i,i<l.length->0<=dep l (i+1)
theorem Up.at{l:List Opn}(h:Up l){j:Nat}(hj:j<=l.length):0<=dep l j:=by
 cases j with
 |zero=>rw[Wdg];omega
 |succ j=>exact h j hj
theorem WbE{l:List Opn}(h:Up l):∀j,j<=l.length->((stk l j).length:Int)=dep l j
 |0,_=>by rw[Wdg];rfl
 |j+1,hj=>by
  have hj':j<l.length:=hj;have ih:=WbE h j (by omega);have hd:=WaG hj';have hu:=h j hj';by_cases h8:l[j].1=8
  .rw[Wi3 hj' h8,hd,Wui h8,Xaa];simp;omega
  .by_cases h9:l[j].1=9
   .rw[Wku hj' h9,hd,Wk3 h9,Xea];rw[hd,Wk3 h9]at hu;omega
   .rw[Wga hj' h8 h9,hd,WvA h8 h9];omega
theorem WlC{l:List Opn}:∀(j:Nat),j<=l.length->∀(s t:List Nat) (m:Nat),stk l j=s++m::t->
  m<j/\(∃h:m<l.length,l[m].1=8)/\stk l m=s/\∀i,m<i->i<=j->∃t',stk l i=s++m::t'
 |0,_,s,t,m,h=>by simp[stk]at h
 |j+1,hj,s,t,m,h=>by
  have hj':j<l.length:=hj;have ih:=WlC (l:=l) j (by omega);have next:∀t0,stk l j=s++m::t0->m<j+1/\(∃h:m<l.length,l[m].1=8)/\stk l m=s/\∀i,m<i->i<=j+1->∃t',stk l i=s++m::t':=λt0 h0=>by
   obtain⟨a,b,c,d⟩:=ih s t0 m h0;refine⟨by omega,b,c,λi md me=>?_⟩;by_cases he:i=j+1
   .subst he;exact⟨t,h⟩
   .exact d i md (by omega)
  by_cases h8:l[j].1=8
  .rw[Wi3 hj' h8]at h;rcases Wcd t with rfl|⟨t0,x,rfl⟩
   .obtain⟨e1,e2⟩:=Xen (h:stk l j++ [j]=s++ [m]) rfl;injection e2 with e2;subst e2;refine⟨by omega,⟨hj',h8⟩,e1,λi md me=>?_⟩;have:i=j+1:=by omega
    subst this;exact⟨[],by rw[Wi3 hj' h8];exact h⟩
   .have h2:stk l j++ [j]=(s++m::t0)++ [x]:=by rw[h,List.append_assoc,List.cons_append]
    obtain⟨e1,e2⟩:=Xen h2 rfl;have h':stk l (j+1)=s++m::(t0++ [x]):=by rw[Wi3 hj' h8,h]
    obtain⟨a,b,c,d⟩:=ih s t0 m e1;refine⟨by omega,b,c,λi md me=>?_⟩;by_cases he:i=j+1
    .subst he;exact⟨_,h'⟩
    .exact d i md (by omega)
  .by_cases h9:l[j].1=9
   .rw[Wku hj' h9]at h;rcases Wcd (stk l j)with h0|⟨q,x,hq⟩
    .rw[h0]at h;simp at h
    .have eb:(stk l j).dropLast=q:=by rw[hq];simp
     rw[eb]at h;have h2:stk l j=s++m::(t++ [x]):=by rw[hq,h];simp
     obtain⟨a,b,c,d⟩:=ih s _ m h2;refine⟨by omega,b,c,λi md me=>?_⟩;by_cases he:i=j+1
     .subst he;exact⟨t,by rw[Wku hj' h9,eb];exact h⟩
     .exact d i md (by omega)
   .exact next t (by rw[←Wga hj' h8 h9];exact h)
theorem WoH{l:List Opn}{a b:Nat}(dY:a<=b)(hb:b<=l.length)(ti:bal ((l.take b).drop a)=true):stk l b=stk l a:=by
 obtain⟨h1,h2⟩:=WnJ.1 ti;have hlen:((l.take b).drop a).length=b-a:=by simp;omega
 have key:∀i,i<=b-a->∃t,stk l (a+i)=stk l a++t/\(t.length:Int)=dep ((l.take b).drop a) i:=by
  intro i
  induction i with
  |zero=>intro _;exact⟨[],by simp,by rw[Wdg];rfl⟩
  |succ i ih=>
   intro hi;obtain⟨t,q8,uu⟩:=ih (by omega);have dP:a+i<l.length:=by omega
   have me:i<((l.take b).drop a).length:=by omega
   have hd:=WaG me;have ei:((l.take b).drop a)[i]=l[a+i]:=by simp
   rw[ei]at hd;have hu:=h1 i me;by_cases h8:l[a+i].1=8
   .refine⟨t++ [a+i],by rw[←Xar,Wi3 dP h8,q8];simp,?_⟩;rw[hd,Wui h8,Xaa];simp;omega
   .by_cases h9:l[a+i].1=9
    .rw[hd,Wk3 h9]at hu;have hne:t≠ []:=λh=>by subst h;simp at uu;omega
     refine⟨t.dropLast,?_,?_⟩
     .rw[←Xar,Wku dP h9,q8,List.dropLast_append_of_ne_nil hne]
     .rw[hd,Wk3 h9,Xea];omega
    .refine⟨t,by rw[←Xar,Wga dP h8 h9,q8],?_⟩;rw[hd,WvA h8 h9];omega
 obtain⟨t,q8,uu⟩:=key (b-a) (Xn _);rw[←hlen,h2]at uu;have:t= []:=Xy (by omega);subst this;rw[show a+(b-a)=b by omega]at q8;simpa using q8
structure Mate(l:List Opn)(m k:Nat):Prop where
 lt:m<k
 len:k<l.length
 eq:dep l (k+1)=dep l m
 ne:∀i,m<=i->i<k->dep l (i+1)≠dep l m
 st:stk l (k+1)=stk l m
theorem WvL{l:List Opn}(hu:Up l)(h0:dep l l.length=0){j m:Nat}{s:List Nat}(hj:j<=l.length)(hs:stk l j=s++ [m]):∃k,j<=k/\Mate l m k/\stk l m=s:=by
 obtain⟨a,⟨hm,h8⟩,c,d⟩:=WlC j hj s [] m hs;have nE:=WbE hu m (by omega);have low:∀i,m<=i->i<j->dep l (i+1)≠dep l m:=λi h1 h2=>by
  obtain⟨t',zA⟩:=d (i+1) (by omega) (by omega);have:=WbE hu (i+1) (by omega);rw[zA]at this;rw[c]at nE;simp at this;omega
 have fH:=hu.at (show m<=l.length by omega);have ex:∀n i,l.length-i=n->j<=i->i<=l.length->(∀i',m<=i'->i'<i->dep l (i'+1)≠dep l m)->dep l m<dep l i->∃k,j<=k/\k<l.length/\dep l (k+1)=dep l m/\∀i',m<=i'->i'<k->dep l (i'+1)≠dep l m:=by
  intro n
  induction n with
  |zero=>intro i h1 h2 h3 h4 h5;exfalso;rw[show i=l.length by omega,h0]at h5;omega
  |succ n ih=>
   intro i h1 h2 h3 h4 h5;have dP:i<l.length:=by omega
   by_cases he:dep l (i+1)=dep l m
   .exact⟨i,h2,dP,he,h4⟩
   .have hd:=WaG dP;have ho:=Whx l[i];refine ih (i+1) (by omega) (by omega) dP (λi' q1 q2=>?_) (by omega);by_cases jL:i'=i
    .subst jL;exact he
    .exact h4 i' q1 (by omega)
 have lU:dep l m<dep l j:=by
  have:=WbE hu j hj;rw[hs]at this;rw[c]at nE;simp at this;omega
 obtain⟨k,k1,k2,k3,k4⟩:=ex _ j rfl (Xn _) hj low lU;have rz:m<k:=by omega
 have pre:∀n i,i=m+1+n->i<=k->∃t,stk l i=s++m::t:=by
  intro n
  induction n with
  |zero=>intro i h1 h2;exact⟨[],by rw[h1,Xau,Wi3 hm h8,c]⟩
  |succ n ih=>
   intro i h1 h2;obtain⟨t,ht⟩:=ih (m+1+n) rfl (by omega);have e:i=(m+1+n)+1:=by omega
   have dP:m+1+n<l.length:=by omega
   by_cases g8:l[m+1+n].1=8
   .exact⟨t++ [m+1+n],by rw[e,Wi3 dP g8,ht];simp⟩
   .by_cases g9:l[m+1+n].1=9
    .rcases Wcd t with rfl|⟨t0,x,rfl⟩
     .exfalso;have q:=Wku dP g9;rw[ht]at q;have q2:stk l (m+1+n+1)=s:=by rw[q];simp
      have q3:=WbE hu (m+1+n+1) (by omega);rw[q2]at q3;rw[c]at nE;exact k4 (m+1+n) (by omega) (by omega) (by omega)
     .exact⟨t0,by rw[e,Wku dP g9,ht,show s++m::(t0++ [x])=(s++m::t0)++ [x] by simp,Xet]⟩
    .exact⟨t,by rw[e,Wga dP g8 g9,ht]⟩
 obtain⟨t,ht⟩:=pre (k-m-1) k (by omega) (Xn _);have x9:=WbE hu k (by omega);have zB:=WaG k2;rw[ht]at x9;rw[c]at nE;simp at x9;have aI:=Whx l[k];have g9:l[k].1=9:=by
  by_cases g9:l[k].1=9
  .exact g9
  .by_cases g8:l[k].1=8
   .have:=Wui g8;omega
   .have:=WvA g8 g9;omega
 have zC:t= []:=Xy (by have:=Wk3 g9;omega);subst zC;refine⟨k,k1,⟨rz,k2,k3,k4,?_⟩,c⟩;rw[Wku k2 g9,ht,c];simp
theorem WoG{l:List Opn}{m i:Nat}:((dep l (i+1) -dep l m)==(0:Int))=decide (dep l (i+1)=dep l m):=by
 by_cases h:dep l (i+1)=dep l m
 .simp[h]
 .have:dep l (i+1) -dep l m≠0:=by omega
  simp[h,this]
theorem Wiw{N:Nat}{l:List Opn}{m k:Nat}(hl:l.length<=1048576)(hN:1048576<N)(h8:∃h:m<l.length,l[m].1=8)(hm:Mate l m k):Zg3 N l (m:Int)=ret (k:Int):=by
 obtain⟨qQ,h8⟩:=h8;unfold Zg3;have e1:W5 .i64 (Wb l) 1=(l.length:Int) -1:=Waq (by unfold I64 Wb;omega);have e2:(decide (0<=(m:Int))&&decide ((m:Int)<=(l.length:Int) -1))=true:=by simp;omega
 have e3:(l[m].1 !=8)=false:=by simp[h8]
 simp only[Wn,ret,Xd,e1,e2,Xab,cond_false,Wv qQ,cond_true,WB qQ,e3];have key:∀(c n i:Nat),k-i=c->m<=i->i<=k->l.length-i<n->∀{R:Type} (K0:Int->Option R) (K1:Int->Int->Bool->Option R),Zdz N l K0 K1 n (dep l i-dep l m) (i:Int)=K0 k:=by
  intro c
  induction c with
  |zero=>
   intro n i h1 h2 h3 h4 R K0 K1;have:i=k:=by omega
   subst this;cases n with
   |zero=>omega
   |succ n=>
    have dP:=hm.len;have hd:=WaG dP;have hb:=Wdq l i;have jK:=Wdq l m;have ho:=Whx l[i];have e:We .i64 (dep l i-dep l m) (opd l[i])=dep l (i+1) -dep l m:=by rw[Ww (by unfold I64;omega),hd];omega
    simp only[Zdz,Wao dP,Wv dP,WB dP,cond_true,WgE,ret,Xd,e];rw[WoG];simp[hm.eq]
  |succ c ih=>
   intro n i h1 h2 h3 h4 R K0 K1;cases n with
   |zero=>omega
   |succ n=>
    have hk:=hm.len;have dP:i<l.length:=by omega
    have hd:=WaG dP;have hb:=Wdq l i;have jK:=Wdq l m;have ho:=Whx l[i];have e:We .i64 (dep l i-dep l m) (opd l[i])=dep l (i+1) -dep l m:=by rw[Ww (by unfold I64;omega),hd];omega
    have hne:=hm.ne i h2 (by omega);simp only[Zdz,Wao dP,Wv dP,WB dP,cond_true,WgE,ret,Xd,e,WoG,hne,decide_false,cond_false,Wk (show i<4611686018427387904 by omega)];exact ih n (i+1) (by omega) (by omega) (by omega) (by omega) K0 K1
 have:=key (k-m) N m rfl (Xn _) (by have:=hm.lt;omega) (by omega) (R:=Unit×Kh) (λbe=>some ((),(be,()))) (λsy zl iq=>some ((),((-1:Int),())));rw[Int.sub_self]at this;exact this
end
section
abbrev Wd:=Int×Int×Int
abbrev Mm:=Int×List Wd
theorem WgF{α:Type}(a:Option α):Wft a a=a:=by unfold Wft;simp
def Wqs(clock:Int)(w:Wd):Bool:=Wbg w.1&&((decide (0<=w.2.1)&&decide (w.2.1<=clock))&&(decide (0<=w.2.2)&&decide (w.2.2<=99)))
def WY(m:Mm):Bool:=decide (m.2.length=8)&&((decide (0<=m.1)&&decide (m.1<=1000000))&&m.2.all (Wqs m.1))
theorem Wa2{N:Nat}{m:Mm}(hl:m.2.length<=1048576)(hN:1048576<N):Zb7 N m=ret (WY m):=by
 unfold Zb7 WY;have h1:=WO (l:=m.2) (V:=Unit) (R:=Unit×Ko) (lp:=λn j v=>Zdx N m.2 m (some ((),(false,()))) (λep ir=>
  (bif (Wb m.2)==(8:Int)then
  ((Zm N m.1 (0:Int) (1000000:Int)).bind λgk=>
  (some ((),(gk.2.1,()))))
  else
  (some ((),(false,()))))) n j) (n:=N) (by omega)
  (body:=λj x v k=>bif !Wqs m.1 x then some ((),(false,()))else k v) (K:=λ_ v=>(bif (Wb m.2)==(8:Int)then
  ((Zm N m.1 (0:Int) (1000000:Int)).bind λgk=>
  (some ((),(gk.2.1,()))))
  else
  (some ((),(false,())))))
  (λn i v hi=>by
   simp only[Zdx,Wao hi,Wv hi,WB hi,Wk (show i<4611686018427387904 by omega),cond_true,Wp,Wn,ret,Xd,Wqs];cases Wbg m.2[i].1<;>cases(decide (0<=m.2[i].2.1)&&decide (m.2[i].2.1<=m.1))<;>cases(decide (0<=m.2[i].2.2)&&decide (m.2[i].2.2<=99))<;>rfl)
  (λn v=>by simp only[Zdx,WaH (Xn m.2.length),cond_false]) ()
 refine h1.trans ?_;rw[WaK (p:=λx=>!Wqs m.1 x) (E:=λ_=>some ((),(false,()))) m.2 0 () (λj x v k _=>rfl),WcC];have e:((Wb m.2)==(8:Int))=decide (m.2.length=8):=by
  by_cases h:m.2.length=8
  .simp[Wb,h]
  .simp[Wb,h];omega
 simp only[e,Wn,ret,Xd];cases m.2.all (Wqs m.1)<;>cases decide (m.2.length=8)<;>simp
def wd0(v:Int):Wd:=(v,(0,0))
def Wj4(l:List Int):Mm:=(0,l.map wd0)
theorem Wds{α β R:Type}{body:Int->α->List β->(List β->Option R)->Option R}{K:Int->List β->Option R}{f:α->β}:∀(l:List α) (j:Nat) (o:List β),o.length+l.length<=1000000->
  (∀(j:Nat) x (v:List β) k,x∈l->body j x v k=bif WG (v.length+ [f x].length)then k (Xf v [f x])else none)->Wcg body K l j o=K ((j+l.length:Nat):Int) (o++l.map f)
 | [],j,o,_,_=>by simp[Wcg]
 |x::l,j,o,h,hb=>by
  rw[Xu]at h;rw[Wcg,hb j x o _ (Xi ..),WC (by simp;omega)];simp only[cond_true];rw[Wds l (j+1) _ (by simp[Xah];omega) λj y v k hy=>hb j y v k (Xe _ hy)];rw[Xu,show j+1+l.length=j+(l.length+1) by omega];simp
theorem Wjj{N:Nat}{l:List Int}(h:Weo l=true)(hN:1048576<N):Zb6 N l=some ((),(Wj4 l,(true,()))):=by
 have hl:l.length=8:=by unfold Weo at h;simp at h;exact h.1
 unfold Zb6;simp only[Whz (show l.length<=1048576 by omega) hN,ret,Xd,h,Xab,cond_false];have h1:=WO (l:=l) (V:=List Wd) (R:=Unit×(Mm×Ko)) (lp:=λn j v=>Zc4 N l (λaM be aW=>(some ((),(((0:Int),aW),(true,()))))) n j v) (n:=N) (by omega)
  (body:=λj x v k=>bif WG (v.length+ [wd0 x].length)then k (Xf v [wd0 x])else none) (K:=λ_ v=>some ((),(((0:Int),v),(true,()))))
  (λn i v hi=>by simp only[Zc4,Wao hi,Wv hi,WB hi,Wk (show i<4611686018427387904 by omega),cond_true,wd0])
  (λn v=>by simp only[Zc4,WaH (Xn l.length),cond_false]) []
 refine h1.trans ?_;rw[Wds (f:=wd0) l 0 [] (by simp;omega) (λj x v k _=>rfl)];rfl
theorem Wt{m:Mm}(h:WY m=true):m.2.length=8/\0<=m.1/\m.1<=1000000/\∀w∈m.2,Wqs m.1 w=true:=by
 unfold WY at h;simp only[Xh,decide_eq_true_eq,Xae]at h;exact⟨h.1,h.2.1.1,h.2.1.2,h.2.2⟩
def tick(m:Mm):Mm×Int:=if m.1<1000000 then((m.1+1,m.2),m.1+1)else(m,0)
theorem WlN{N:Nat}{m:Mm}(h:WY m=true)(hN:1048576<N):Zns N m=some ((),((tick m).1,((tick m).2,()))):=by
 obtain⟨h8,h0,h1,_⟩:=Wt h;have e:Zca N m=ret m:=by unfold Zca;rw[WC (by omega)];rfl
 unfold Zns tick;simp only[e,Wa2 (show m.2.length<=1048576 by omega) hN,ret,Xd,h,Xab,cond_false];by_cases hc:m.1<1000000
 .have e2:(m.1==1000000)=false:=by simp;omega
  have e3:We .i64 m.1 1=m.1+1:=Ww (by unfold I64;omega);rw[e2,if_pos hc,e3];rfl
 .have e2:(m.1==1000000)=true:=by simp;omega
  rw[e2,if_neg hc];rfl
abbrev Pb:=Int×Int×Int×Int
def Wlp(p:Pb):Bool:=W7 p.1&&((decide (0<=p.2.1)&&decide (p.2.1<=4))&&((decide (0<=p.2.2.1)&&decide (p.2.2.1<=1000000))&&Wbg p.2.2.2))
theorem Wnj{N:Nat}{p:Pb}:Zk9 N p=ret (Wlp p):=by
 unfold Zk9 Wlp;simp only[Wm,Wn,Wp,ret,Xd];cases W7 p.1<;>cases(decide (0<=p.2.1)&&decide (p.2.1<=4))<;>cases(decide (0<=p.2.2.1)&&decide (p.2.2.1<=1000000))<;>simp
def WV(m:Mm)(rv:Int)(p:Pb):Pb:=
 let w:=Xc m.2 (Xb p.1) (0,(0,0))
 bif p.2.1==0 then(bif w.2.2==0 then(bif decide (w.2.1<=rv)then(p.1,(1,(w.2.1,p.2.2.2)))else(p.1,(4,p.2.2)))else(p.1,(4,p.2.2)))
 else bif p.2.1==1 then(p.1,(2,(p.2.2.1,w.1)))
 else bif p.2.1==2 then(bif w.2.2==0 then(bif w.2.1==p.2.2.1 then(p.1,(3,p.2.2))else(p.1,(4,p.2.2)))else(p.1,(4,p.2.2)))
 else p
theorem Wwd{m:Mm}{p:Pb}(h:WY m=true)(hp:Wlp p=true):inb p.1 m.2.length=true:=by
 have h1:=(Wt h).1;unfold Wlp W7 at hp;simp at hp;unfold inb;rw[h1];simp;omega
theorem We3{N:Nat}{m:Mm}{rv:Int}{p:Pb}(h:WY m=true)(hp:Wlp p=true)(hN:1048576<N):Zdy N m rv p=ret (WV m rv p):=by
 have h1:=(Wt h).1;unfold Zdy WV;simp only[Wa2 (show m.2.length<=1048576 by omega) hN,Wnj,ret,Xd,h,hp,Xab,cond_false,Wwd h hp,cond_true];generalize Xc m.2 (Xb p.1) (0,(0,0))=w;cases p.2.1==0<;>cases p.2.1==1<;>cases p.2.1==2<;>cases w.2.2==0<;>cases decide (w.2.1<=rv)<;>cases w.2.1==p.2.2.1<;>rfl
def WdF(l:List Rw)(c:Int):Nat->Option Int
 |0=>none
 |i+1=>if(Xc l i (0,0)).1=c then some (Xc l i (0,0)).2 else WdF l c i
def Wbc(l:List Rw)(c:Int):Option Int:=if Wbb l=true then WdF l c l.length else none
def opI(o:Option Int):Option (Unit×Kl):=match o with
 |none=>some ((),((0:Int),(false,())))
 |some v=>some ((),(v,(true,())))
theorem WiK{N:Nat}{l:List Rw}{c:Int}(hl:l.length<=1048576):∀(i n:Nat),i<n->i<=l.length->Zf9 N l c (λaB=>(some ((),(aB,(true,()))))) (λsA aM=>(some ((),((0:Int),(false,()))))) n ((i:Int) -1)=opI (WdF l c i)
 |i,0,h,_=>by omega
 |0,n+1,h,_=>rfl
 |i+1,n+1,h,hi=>by
  have e:((i+1:Nat):Int) -1=(i:Int):=by omega
  have e1:decide ((i:Int)>=0)=true:=by simp
  have e2:W5 .i64 (i:Int) 1=(i:Int) -1:=Waq (by unfold I64;omega);rw[e,Zf9,e1,Wv (show i<l.length by omega),e2,WdF,Xj];simp only[cond_true];by_cases hc:(Xc l i ((0:Int),(0:Int))).1=c
  .rw[if_pos hc,beq_iff_eq.2 hc];rfl
  .rw[if_neg hc,beq_eq_false_iff_ne.2 hc];exact WiK hl i n (by omega) (by omega)
theorem Wpd{α:Type}{l:List α}(hl:l.length<=1048576):W5 .i64 (Wb l) 1=((l.length:Nat):Int) -1:=by unfold Wb;exact Waq (by unfold I64;omega)
theorem Wey{N:Nat}{l:List Rw}{c:Int}(hl:l.length<=1048576)(hN:1048576<N):Zgq N l c=opI (Wbc l c):=by
 unfold Zgq Wbc;simp only[Wcs hl hN,ret,Xd];cases Wbb l
 .rfl
 .simp only[Xab,cond_false,if_true,Wpd hl];exact WiK hl l.length N (by omega) (Xn _)
end
section
def Wkx(l:List Rw)(o:List Rw)(c:Nat):List Rw:=match Wbc l c with
 |none=>o
 |some v=>o++ [((c:Int),v)]
def Wkz(l:List Rw):Nat->Nat->List Rw->List Rw
 |0,_,o=>o
 |j+1,c,o=>Wkz l j (c+1) (Wkx l o c)
def WcN(l:List Rw):List Rw:=Wkz l 8 0 []
theorem Wg4{N:Nat}{l:List Rw}(hl:l.length<=1048576)(hN:1048576<N):∀(j n c:Nat) (o:List Rw),c+j=8->j<n->o.length<=c->Zfn N l (λaL aM aX=>(some ((),(aX,())))) n (c:Int) o=ret (Wkz l j c o)
 |j,0,c,o,_,h,_=>by omega
 |0,n+1,c,o,h,_,_=>by
  have:c=8:=by omega
  subst this;rfl
 |j+1,n+1,c,o,h,h1,ho=>by
  have e:decide ((c:Int)<8)=true:=by simp;omega
  rw[Zfn,e,Wey hl hN,Wk (by omega),Wkz,Wkx];simp only[cond_true];rcases Wbc l c with _|v
  .exact Wg4 hl hN j n (c+1) o (by omega) (by omega) (by omega)
  .have er:WG (o.length+ [((c:Int),v)].length)=true:=WC (by simp;omega);simp only[opI,Xd,cond_true,er];exact Wg4 hl hN j n (c+1) _ (by omega) (by omega) (by simp;omega)
theorem Wm7{l:List Rw}(h:Wbb l=false):∀(j c:Nat) (o:List Rw),Wkz l j c o=o
 |0,_,_=>rfl
 |j+1,c,o=>by
  have e:Wbc l c=none:=by unfold Wbc;rw[h];rfl
  rw[Wkz,Wkx,e];exact Wm7 h j (c+1) o
theorem WdO{N:Nat}{l:List Rw}(hl:l.length<=1048576)(hN:1048576<N):Zfy N l=ret (WcN l):=by
 unfold Zfy;simp only[Wcs hl hN,ret,Xd];cases h:Wbb l
 .unfold WcN;rw[Wm7 h];rfl
 .exact Wg4 hl hN 8 N 0 [] rfl (by omega) (by simp)
def fnd{α:Type}(p:α->Bool):List α->Nat->Option (Nat×α)
 | [],_=>none
 |x::l,j=>bif p x then some (j,x)else fnd p l (j+1)
theorem Wgb{α V R:Type}{body:Int->α->V->(V->Option R)->Option R}{K:Int->V->Option R}{p:α->Bool}{E:Int->α->Option R}:∀(l:List α) (j:Nat) (v:V),(∀(j:Nat) x v k,x∈l->body j x v k=bif p x then E j x else k v)->
  Wcg body K l j v=match fnd p l j with|some r=>E r.1 r.2|none=>K ((j+l.length:Nat):Int) v
 | [],j,v,_=>rfl
 |x::l,j,v,h=>by
  rw[Wcg,h j x v _ (Xi ..),fnd,Wgb l (j+1) v λj y v k hy=>h j y v k (Xe _ hy)];cases p x
  .simp only[cond_false];rw[Xu,show j+1+l.length=j+(l.length+1) by omega]
  .rfl
theorem WcZ{α:Type}{p:α->Bool}:∀{l:List α} {j:Nat} {r:Nat×α},fnd p l j=some r->p r.2=true/\j<=r.1/\r.1<j+l.length/\l[r.1-j]?=some r.2
 | [],j,r,h=>by cases h
 |x::l,j,r,h=>by
  rw[fnd]at h;cases hp:p x
  .rw[hp]at h;obtain⟨h1,h2,h3,h4⟩:=WcZ (l:=l) h;refine⟨h1,by omega,by rw[Xu];omega,?_⟩;obtain⟨q,hq⟩:∃q,r.1-j=q+1:=⟨r.1-j-1,by omega⟩;rw[hq,List.getElem?_cons_succ];rw[show r.1-(j+1)=q by omega]at h4;exact h4
  .rw[hp]at h;cases h;exact⟨hp,Xn _,by simp,by simp⟩
theorem WhU{α:Type}{p:α->Bool}:∀{l:List α} {j:Nat},fnd p l j=none->∀x∈l,p x=false
 | [],j,h=>by simp
 |x::l,j,h=>by
  rw[fnd]at h;cases hp:p x
  .rw[hp]at h;intro y hy;rcases Xo.1 hy with rfl|hy
   .exact hp
   .exact WhU h y hy
  .rw[hp]at h;cases h
abbrev En:=Int×Int×Int
def ent(b:List En)(c:Int):Option (Nat×En):=fnd (λe=>e.1==c) b 0
theorem Wfy{N:Nat}{f:Y_Family}{c:Int}(hl:f.2.2.2.2.2.2.1.length<=1048576)(hN:1048576<N):Zcf N f c=ret (match ent f.2.2.2.2.2.2.1 c with|some r=>(r.1:Int)|none=>-1):=by
 unfold Zcf;show((Zn N f.2.2.2.2.2.2.1 c).bind _)=_;generalize f.2.2.2.2.2.2.1=b at hl;unfold Zn ent;have h1:=WO (l:=b) (V:=Unit) (R:=Kh×Kh) (lp:=λn j v=>Zf N b (λbS ba=>(some ((ba,()),(bS,())))) (λep ir dE=>(some ((dE,()),((-1:Int),())))) n j c) (n:=N) (by omega)
  (body:=λj x v k=>bif x.1==c then some ((c,()),(j,()))else k v) (K:=λ_ v=>some ((c,()),((-1:Int),())))
  (λn i v hi=>by simp only[Zf,Zir,Wao hi,Wv hi,WB hi,Wk (show i<4611686018427387904 by omega),cond_true,Xd])
  (λn v=>by simp only[Zf,WaH (Xn b.length),cond_false]) ()
 rw[h1,Wgb (p:=λe=>e.1==c) (E:=λj x=>some ((c,()),(j,()))) b 0 () (λj x v k _=>rfl)];cases fnd (λe:En=>e.1==c) b 0<;>rfl
theorem Wbt{N:Nat}{l:List Int}(h:l.length<=1048576):Zu N l=ret l:=by
 unfold Zu;rw[WC (by omega)];rfl
theorem WdB{N:Nat}{l:List Rw}(h:l.length<=1048576):Zbj N l=ret l:=by
 unfold Zbj;rw[WC (by omega)];rfl
end
section
theorem Wpn{N:Nat}{o:Opn}:∃t:Int,Zb9 N o=ret t/\Zgr N o=ret t:=by
 unfold Zb9 Zgr;rw[WdA,We5];simp only[ret,Xd];cases Was o
 .exact⟨0,rfl,rfl⟩
 .cases o.1==5<;>cases o.1==6<;>cases o.1==12<;>cases o.1==13<;>cases o.1==14<;>cases o.1==15<;>cases o.1==16<;>exact⟨_,rfl,rfl⟩
noncomputable def Wi9(o:Opn):Int:=match Zb9 0 o with|some (_,(t,_))=>t|none=>0
theorem WwX{N:Nat}{o:Opn}:Zb9 N o=Zb9 0 o:=by
 unfold Zb9;rw[WdA,WdA]
theorem WdY{N:Nat}{o:Opn}:Zb9 N o=ret (Wi9 o):=by
 rw[WwX];obtain⟨t,h,_⟩:=Wpn (N:=0) (o:=o);unfold Wi9;rw[h]
theorem Wgk{N:Nat}{o:Opn}:Zgr N o=ret (Wi9 o):=by
 obtain⟨t,h,h2⟩:=Wpn (N:=N) (o:=o);rw[h2,←h,WdY]
noncomputable def Wge(o:Opn):Bool:=(o.1==11)||(Wi9 o==2)
noncomputable def WgX(l:List Opn):Bool:=WnX l&& !l.any Wge
theorem Whi{N:Nat}{l:List Opn}(hl:l.length<=1048576)(hN:1048576<N):Zfm N l=ret (l.any λo=>o.1==11):=by
 unfold Zfm;have h1:=WO (l:=l) (V:=Unit) (R:=Unit×Ko) (lp:=λn j v=>Zck N l (some ((),(true,()))) (λi8 t9=>some ((),(false,()))) n j) (n:=N) (by omega)
  (body:=λj x v k=>bif x.1==11 then some ((),(true,()))else k v) (K:=λ_ v=>some ((),(false,())))
  (λn i v hi=>by simp only[Zck,Wao hi,Wv hi,WB hi,Wk (show i<4611686018427387904 by omega),cond_true])
  (λn v=>by simp only[Zck,WaH (Xn l.length),cond_false]) ()
 refine h1.trans ?_;rw[WaK (p:=λx:Opn=>x.1==11) (E:=λ_=>some ((),(true,()))) l 0 () (λj x v k _=>rfl)];cases l.any λo:Opn=>o.1==11<;>rfl
theorem Wn0{N:Nat}{l:List Opn}(hl:l.length<=1048576)(hN:1048576<N):Zg1 N l=ret (WgX l):=by
 unfold Zg1 WgX;simp only[Whc hl hN,ret,Xd];cases WnX l with
 |false=>rfl
 |true=>
  simp only[Whi hl hN,ret,Xd,Xab,cond_false,Xbq];have h1:=WO (l:=l) (V:=Unit) (R:=Unit×Ko) (lp:=λn j v=>Zdv N l (some ((),(false,()))) (λi8 t9=>some ((),(true,()))) n j) (n:=N) (by omega)
   (body:=λj x v k=>bif Wi9 x==2 then some ((),(false,()))else k v) (K:=λ_ v=>some ((),(true,())))
   (λn i v hi=>by simp only[Zdv,Wao hi,Wv hi,WB hi,Wk (show i<4611686018427387904 by omega),cond_true,WdY,ret,Xd])
   (λn v=>by simp only[Zdv,WaH (Xn l.length),cond_false]) ()
  (try simp only[]at h1)
  rw[h1,WaK (p:=λx=>Wi9 x==2) (E:=λ_=>some ((),(false,()))) l 0 () (λj x v k _=>rfl)];have e:l.any Wge=((l.any λo=>o.1==11)||l.any λo=>Wi9 o==2):=by
   clear h1 hl
   induction l with
   |nil=>rfl
   |cons x l ih=>
    simp only[List.any_cons,ih,Wge];cases x.1==11<;>cases Wi9 x==2<;>simp
  rw[e];cases l.any λo:Opn=>o.1==11<;>cases l.any λo=>Wi9 o==2<;>rfl
theorem WnF{N:Nat}{l:List Opn}(hl:l.length<=1048576)(hN:1048576<N):Zg2 N l=ret (WgX l):=by
 unfold Zg2 WgX;have h1:=WO (l:=l) (V:=Unit) (R:=Unit×Ko) (lp:=λn j v=>Zdw N l (some ((),(false,()))) (λaL aM=>((Zcr N l).bind λcw=>(some ((),(cw.2.1,()))))) n j) (n:=N) (by omega)
  (body:=λj x v k=>bif Wge x then some ((),(false,()))else k v) (K:=λ_ v=>ret (WnX l))
  (λn i v hi=>by
   simp only[Zdw,Wao hi,Wv hi,WB hi,Wk (show i<4611686018427387904 by omega),cond_true,Wgk,ret,Xd,Wge];cases l[i].1==11<;>rfl)
  (λn v=>by simp only[Zdw,WaH (Xn l.length),cond_false,Whh hl hN,ret,Xd]) ()
 refine h1.trans ?_;rw[WaK (p:=Wge) (E:=λ_=>some ((),(false,()))) l 0 () (λj x v k _=>rfl)];cases l.any Wge<;>cases WnX l<;>rfl
def Wfw(l:List Int):Bool:=decide (l.length=4)&&l.all Wbg
theorem Wdf{N:Nat}{l:List Int}(hl:l.length<=1048576)(hN:1048576<N):Zaj N l 4=ret (Wfw l):=by
 unfold Zaj Wfw;have h1:=WO (l:=l) (V:=Unit) (R:=Unit×Ko) (lp:=λn j v=>Za2 N l 4 (some ((),(false,()))) (λi8 t9=>some ((),((Wb l)==(4:Int),()))) n j) (n:=N) (by omega)
  (body:=λj x v k=>bif !Wbg x then some ((),(false,()))else k v) (K:=λ_ v=>some ((),((Wb l)==(4:Int),())))
  (λn i v hi=>by simp only[Za2,Wao hi,Wv hi,WB hi,Wk (show i<4611686018427387904 by omega),cond_true,Wp,ret,Xd])
  (λn v=>by simp only[Za2,WaH (Xn l.length),cond_false]) ()
 refine h1.trans ?_;rw[WaK (p:=λx=>!Wbg x) (E:=λ_=>some ((),(false,()))) l 0 () (λj x v k _=>rfl),WcC];have e:((Wb l)==(4:Int))=decide (l.length=4):=by
  by_cases h:l.length=4
  .simp[Wb,h]
  .simp[Wb,h];omega
 rw[e];cases l.all Wbg<;>simp
end
section
section
variable{o:Opn}
theorem Ws9(h:Was o=true)(h1:1<=o.1)(h4:o.1<=4):Wj o.2.1=true/\(o.1=1->Wbg o.2.2.1=true)/\(o.1≠1->Wj o.2.2.1=true/\Wj o.2.2.2=true):=by
 obtain⟨k,a,b,c⟩:=o;simp only at h1 h4;have:k=1\/k=2\/k=3\/k=4:=by omega
 rcases this with rfl|rfl|rfl|rfl
 .have:(Wj a&&Wbg b&&(c==(0:Int)))=true:=h;simp only[Xh]at this;exact⟨this.1.1,λ_=>this.1.2,λh=>absurd rfl h⟩
 all_goals
  have:(Wj a&&Wj b&&Wj c)=true:=h;simp only[Xh]at this;exact⟨this.1.1,λh=>by simp at h,λ_=>⟨this.1.2,this.2⟩⟩
theorem Wwb(h:Was o=true)(h5:o.1=5):Wj o.2.1=true/\W7 o.2.2.1=true:=by
 obtain⟨k,a,b,c⟩:=o;simp only at h5;subst h5;have:(Wj a&&W7 b&&(c==(0:Int)))=true:=h;simp only[Xh]at this;exact this.1
theorem Ww2(h:Was o=true)(h5:o.1=6):W7 o.2.1=true/\Wj o.2.2.1=true:=by
 obtain⟨k,a,b,c⟩:=o;simp only at h5;subst h5;have:(W7 a&&Wj b&&(c==(0:Int)))=true:=h;simp only[Xh]at this;exact this.1
theorem Wv8(h:Was o=true)(h5:o.1=7):Wj o.2.1=true/\1<=o.2.2.1/\o.2.2.1<=20:=by
 obtain⟨k,a,b,c⟩:=o;simp only at h5;subst h5;have:(Wj a&&(decide (1<=b)&&decide (b<=20))&&(c==(0:Int)))=true:=h;simp only[Xh,decide_eq_true_eq]at this;exact⟨this.1.1,this.1.2.1,this.1.2.2⟩
theorem Ww3(h:Was o=true)(h5:o.1=8):Wj o.2.1=true:=by
 obtain⟨k,a,b,c⟩:=o;simp only at h5;subst h5;have:(Wj a&&(b==(0:Int))&&(c==(0:Int)))=true:=h;simp only[Xh]at this;exact this.1.1
theorem Wou(h:Was o=true):1<=o.1/\o.1<=16:=by
 by_cases hk:1<=o.1/\o.1<=16
 .exact hk
 .exfalso;have e:∀n:Int,1<=n->n<=16->(o.1==n)=false:=λn h1 h2=>by simp;omega
  unfold Was at h;rw[e 1 (by omega) (by omega),e 2 (by omega) (by omega),e 3 (by omega) (by omega),e 4 (by omega) (by omega),e 5 (by omega) (by omega),e 6 (by omega) (by omega),e 7 (by omega) (by omega),e 8 (by omega) (by omega),
   e 9 (by omega) (by omega),e 10 (by omega) (by omega),e 11 (by omega) (by omega),e 12 (by omega) (by omega),e 13 (by omega) (by omega),e 14 (by omega) (by omega),e 15 (by omega) (by omega),e 16 (by omega) (by omega)]at h
  cases h
end
theorem Wa9{x:Int}{l:List Int}(h:Wj x=true)(hl:l.length=4):inb x l.length=true:=by
 unfold Wj at h;simp at h;unfold inb;simp;omega
structure Vals(n:Nat)(l:List Int):Prop where
 len:l.length=n
 val:∀x∈l,0<=x/\x<=65535
theorem Vals.get{n:Nat}{l:List Int}(h:Vals n l)(i:Nat):0<=l.getD i 0/\l.getD i 0<=65535:=by
 by_cases hi:i<l.length
 .rw[Wf hi];exact h.val _ (Xq hi)
 .rw[Xba,Xbg (by omega)];simp
theorem Vals.set{n:Nat}{l:List Int}(h:Vals n l)(i:Nat){x:Int}(hx:0<=x/\x<=65535):Vals n (l.set i x):=
 ⟨by rw[Xad];exact h.len,λy hy=>by
  rcases List.mem_or_eq_of_mem_set hy with hy|hy
  .exact h.val y hy
  .rw[hy];exact hx⟩
theorem Wa4{x:Int}:Wbg x=true↔0<=x/\x<=65535:=by unfold Wbg;simp
theorem We8{l:List Int}:Wfw l=true↔Vals 4 l:=by
 unfold Wfw;rw[Xh,decide_eq_true_eq,Xae];exact⟨λh=>⟨h.1,λx hx=>Wa4.1 (h.2 x hx)⟩,λh=>⟨h.len,λx hx=>Wa4.2 (h.val x hx)⟩⟩
theorem WpD{l:List Int}:Weo l=true↔Vals 8 l:=by
 unfold Weo;rw[Xh,decide_eq_true_eq,Xae];exact⟨λh=>⟨h.1,λx hx=>Wa4.1 (h.2 x hx)⟩,λh=>⟨h.len,λx hx=>Wa4.2 (h.val x hx)⟩⟩
def WkD(o:Opn)(r:List Int):List Int:=
 bif o.1==1 then r.set o.2.1.toNat o.2.2.1 else
 bif o.1==2 then r.set o.2.1.toNat ((r.getD o.2.2.1.toNat 0+r.getD o.2.2.2.toNat 0)%65536)else
 bif o.1==3 then r.set o.2.1.toNat ((r.getD o.2.2.1.toNat 0-r.getD o.2.2.2.toNat 0+65536)%65536)else
 bif decide (r.getD o.2.2.1.toNat 0<r.getD o.2.2.2.toNat 0)then r.set o.2.1.toNat 1 else r.set o.2.1.toNat 0
theorem WbT{x:Int}(h:0<=x):Wb7 x 65536=x%65536:=by unfold Wb7;exact Xdg h
theorem Wlk{o:Opn}{r:List Int}(h:Was o=true)(h1:1<=o.1)(h4:o.1<=4)(hr:Vals 4 r):Vals 4 (WkD o r):=by
 obtain⟨_,hv,_⟩:=Ws9 h h1 h4;unfold WkD;cases e1:o.1==1
 .cases o.1==2
  .cases o.1==3
   .cases decide (r.getD o.2.2.1.toNat 0<r.getD o.2.2.2.toNat 0)
    .exact hr.set _ (by omega)
    .exact hr.set _ (by omega)
   .exact hr.set _ (by omega)
  .exact hr.set _ (by omega)
 .exact hr.set _ (Wa4.1 (hv (by simpa using e1)))
section
variable{N:Nat}{o:Opn}{r:List Int}
theorem WhA(hN:1048576<N)(h:Was o=true)(h1:1<=o.1)(h4:o.1<=4)(hr:Vals 4 r):Zlx N o r=some ((),(WkD o r,(true,()))):=by
 obtain⟨ha,hv,zD⟩:=Ws9 h h1 h4;unfold Zlx Zu;have e0:WG r.length=true:=WC (by rw[hr.len];omega);have e4:decide (o.1>4)=false:=by simp;omega
 have e5:Wfw r=true:=We8.2 hr;have ea:=Wa9 ha hr.len;have ez:inz 65536=true:=rfl;have gb:=hr.get o.2.2.1.toNat;have gc:=hr.get o.2.2.2.toNat;simp only[e0,cond_true,Xd,We5,ret,h,Xab,cond_false,e4,Wdf (l:=r) (by rw[hr.len];omega) hN,e5,ea,ez];unfold WkD;by_cases k1:o.1=1
 .have b:(o.1==1)=true:=by simp[k1]
  rw[b];rfl
 .have b:(o.1==1)=false:=by simp[k1]
  obtain⟨hb,hc⟩:=zD k1;rw[b];simp only[cond_false,Wa9 hb hr.len,Wa9 hc hr.len,cond_true,Xad,ea];have s1:We .i64 (r.getD o.2.2.1.toNat 0) (r.getD o.2.2.2.toNat 0)=r.getD o.2.2.1.toNat 0+r.getD o.2.2.2.toNat 0:=Ww (by unfold I64;omega);have s2:W5 .i64 (r.getD o.2.2.1.toNat 0) (r.getD o.2.2.2.toNat 0)=r.getD o.2.2.1.toNat 0-r.getD o.2.2.2.toNat 0:=Waq (by unfold I64;omega);have s3:We .i64 (r.getD o.2.2.1.toNat 0-r.getD o.2.2.2.toNat 0) 65536=r.getD o.2.2.1.toNat 0-r.getD o.2.2.2.toNat 0+65536:=Ww (by unfold I64;omega);rw[s1,s2,s3,WbT (by omega),WbT (by omega)];cases o.1==2
  .cases o.1==3
   .simp only[cond_false,Wz,Xdp];cases decide (r.getD o.2.2.1.toNat 0<r.getD o.2.2.2.toNat 0)<;>rfl
   .rfl
  .rfl
end
def Wi1(l:List Rw):Prop:=∀r∈l,(0<=r.1/\r.1<=7)/\0<=r.2/\r.2<=65535
theorem Wkc{l:List Rw}:l.all Wmq=true↔Wi1 l:=by
 rw[Xae];unfold Wi1 Wmq W7 Wbg;simp
theorem Wcx{N:Nat}{l:List Int}(h:l.length<=1048576):Zu N l=ret l:=by
 unfold Zu;simp only[WtZ h,cond_true]
end
section
abbrev Cur:=List Int×Int×Int
def WaL(c:Cur):Prop:=0<=c.2.1/\c.2.1<=c.1.length/\c.1.length<=1048576
def Wq5{α:Type}(P:α->Prop)(r:Option ((Cur×Unit)×(α×Unit))):Prop:=∃c v,r=some ((c,()),(v,()))/\WaL c/\P v
theorem Wpo(x:Int):∃n:Nat,n<=255/\Wu4 .i64 x 255=n:=by
 refine⟨(BitVec.ofInt 64 x&&&BitVec.ofInt 64 255).toNat,?_,?_⟩
 .rw[BitVec.toNat_and];exact Xcq Xgy (by decide)
 .unfold Wu4;have:(BitVec.ofInt 64 x&&&BitVec.ofInt 64 255).toNat<=255:=by
   rw[BitVec.toNat_and];exact Xcq Xgy (by decide)
  exact wrap_i64 (WwJ (p:=(BitVec.ofInt 64 x&&&BitVec.ofInt 64 255).toNat) (by omega))
theorem Wuw{N:Nat}{code:List Int}(h:code.length<=1048576)(hN:1048576<N):∃c,WaL c/\Zis N code=ret c:=by
 have key:∀(n j:Nat) (v:Int),j<=code.length->code.length-j<n->∃hh i t,∀{R:Type} (K:Int->Int->Bool->Option R),Zcl N code K n v (j:Int)=K hh i t:=by
  intro n
  induction n with
  |zero=>intro j v _ h2;omega
  |succ n ih=>
   intro j v h1 h2;by_cases hj:j<code.length
   .by_cases h4:j<4000
    .obtain⟨hh,i,t,e⟩:=ih (j+1) _ hj (by omega);refine⟨hh,i,t,λK=>?_⟩;have e1:decide ((j:Int)<4000)=true:=by simp;omega
     simp only[Zcl,Wao hj,Wv hj,e1,cond_true,Wk (show j<4611686018427387904 by omega)];exact e K
    .refine⟨v,j,decide ((j:Int)<4000),λK=>?_⟩;have e1:decide ((j:Int)<4000)=false:=by simp;omega
     simp only[Zcl,Wao hj,e1,cond_true,cond_false]
   .refine⟨v,j,false,λK=>?_⟩;simp only[Zcl,WaH (show code.length<=j by omega),cond_false]
 obtain⟨hh,i,t,e⟩:=key N 0 (We .i64 10101 (Wb code)) (Nat.zero_le _) (by omega);refine⟨(code,0,hh),⟨by simp,by simp,h⟩,?_⟩;unfold Zis;exact e _
theorem WeA{N:Nat}{c:Cur}(h:WaL c):Wq5 (λv=>0<=v/\v<=255) (Zff N c):=by
 unfold Zff;obtain⟨h1,h2,h3⟩:=h;have e1:inn 33=true:=rfl;have e2:inn 45=true:=rfl;simp only[e1,e2,cond_true];by_cases hi:c.2.1<c.1.length
 .have e3:decide (c.2.1<Wb c.1)=true:=decide_eq_true hi;have e4:inb c.2.1 c.1.length=true:=by unfold inb;simp;exact⟨h1,hi⟩
  have e5:We .i64 c.2.1 1=c.2.1+1:=Ww (by unfold I64;omega);rw[e3,e4,e5];simp only[cond_true];obtain⟨n,hn,e⟩:=Wpo (We .i64 (Wu4 .i64 (Wwr .i64 (WsY .i64 (We .i64 (WdQ .i64 c.2.2 (6364136223846793005:Int)) (1442695040888963407:Int)) (33:Int)) (WsY .i64 (We .i64 (WdQ .i64 c.2.2 (6364136223846793005:Int)) (1442695040888963407:Int)) (45:Int))) (255:Int)) (IntKind.wrap .i64 (Xc c.1 (Xb c.2.1) (0:Int))));exact⟨_,_,rfl,⟨by simp;omega,by simp;omega,h3⟩,by rw[e];omega⟩
 .have e3:decide (c.2.1<Wb c.1)=false:=decide_eq_false hi;rw[e3];simp only[cond_false];obtain⟨n,hn,e⟩:=Wpo (Wwr .i64 (WsY .i64 (We .i64 (WdQ .i64 c.2.2 (6364136223846793005:Int)) (1442695040888963407:Int)) (33:Int)) (WsY .i64 (We .i64 (WdQ .i64 c.2.2 (6364136223846793005:Int)) (1442695040888963407:Int)) (45:Int)));exact⟨_,_,rfl,⟨h1,h2,h3⟩,by rw[e];omega⟩
theorem WoR{v n:Int}(hv:0<=v)(hn:0<n):0<=Wb7 v n/\Wb7 v n<n:=by
 have e:Wb7 v n=v%n:=by unfold Wb7;exact Xdg hv
 rw[e];exact⟨Int.emod_nonneg v (by omega),Int.emod_lt_of_pos v hn⟩
theorem WgU{N:Nat}{c:Cur}{n:Int}(h:WaL c):Wq5 (λv=>(n<=0->v=0)/\(0<n->0<=v/\v<n)) (Zb N c n):=by
 unfold Zb;by_cases h0:n<=0
 .have e:decide (n<=0)=true:=by simpa using h0
  rw[e];exact⟨_,_,rfl,h,λ_=>rfl,λh=>by omega⟩
 .have e:decide (n<=0)=false:=by simpa using h0
  have ez:inz n=true:=by unfold inz;simp;omega
  rw[e];simp only[cond_false,ez,cond_true];by_cases h1:n<=256
  .have e:decide (n<=256)=true:=by simpa using h1
   rw[e];obtain⟨c1,v,e1,hc,hv⟩:=WeA (N:=N) h;rw[e1];have:=WoR hv.1 (show 0<n by omega);exact⟨_,_,rfl,hc,λh=>by omega,λ_=>this⟩
  .have e:decide (n<=256)=false:=by simpa using h1
   rw[e];obtain⟨c1,v1,e1,mP,tM⟩:=WeA (N:=N) h;obtain⟨c2,v2,e2,fa,gQ⟩:=WeA (N:=N) mP;obtain⟨c3,v3,e3,qm,wz⟩:=WeA (N:=N) fa;obtain⟨c4,v4,e4,q9,hv4⟩:=WeA (N:=N) qm;simp only[cond_false,e1,e2,e3,e4,Xd];have m1:WdQ .i64 v1 16777216=v1*16777216:=WdN (by unfold I64;omega);have m2:WdQ .i64 v2 65536=v2*65536:=WdN (by unfold I64;omega);have m3:WdQ .i64 v3 256=v3*256:=WdN (by unfold I64;omega);have a1:We .i64 (v1*16777216) (v2*65536)=v1*16777216+v2*65536:=Ww (by unfold I64;omega);have a2:We .i64 (v1*16777216+v2*65536) (v3*256)=v1*16777216+v2*65536+v3*256:=Ww (by unfold I64;omega);have a3:We .i64 (v1*16777216+v2*65536+v3*256) v4=v1*16777216+v2*65536+v3*256+v4:=Ww (by unfold I64;omega);rw[m1,m2,m3,a1,a2,a3];have:=WoR (show 0<=v1*16777216+v2*65536+v3*256+v4 by omega) (show 0<n by omega);exact⟨_,_,rfl,q9,λh=>by omega,λ_=>this⟩
end
section
theorem WsA{N:Nat}{c:Cur}{n:Int}(h:WaL c):Wq5 (λ_=>True) (Zt N c n):=by
 unfold Zt;obtain⟨c1,v,e1,hc,hv⟩:=WgU (N:=N) (n:=n) h;rw[e1];exact⟨_,_,rfl,hc,trivial⟩
theorem Wsx{N:Nat}{c:Cur}{l:List Int}(h:WaL c)(hl:0<l.length)(eZ:l.length<4611686018427387904):Wq5 (λv=>v∈l) (Zbq N c l):=by
 unfold Zbq;obtain⟨c1,v,e1,hc,hv⟩:=WgU (N:=N) (n:=Wb l) h;rw[e1];have hv:=hv.2 (by unfold Wb;omega);unfold Wb at hv;obtain⟨q,rfl⟩:=Xfx hv.1;have hq:q<l.length:=by omega
 simp only[Xd,Wv hq,cond_true,WB hq];exact⟨_,_,rfl,hc,Xq hq⟩
end
section
def Drw{ρ:Type}(P:ρ->Prop)(r:Option ((Cur×Unit)×ρ)):Prop:=∃c v,r=some ((c,()),v)/\WaL c/\P v
theorem Drw.of{α:Type}{P:α->Prop}{r:Option ((Cur×Unit)×(α×Unit))}(h:Wq5 P r):Drw (λv:α×Unit=>P v.1) r:=by
 obtain⟨c,v,e,h1,h2⟩:=h;exact⟨c,(v,()),e,h1,h2⟩
theorem Drw.bind{ρ σ:Type}{P:ρ->Prop}{Q:σ->Prop}{r:Option ((Cur×Unit)×ρ)}{k:(Cur×Unit)×ρ->Option ((Cur×Unit)×σ)}(h:Drw P r)(hk:∀c v,WaL c->P v->Drw Q (k ((c,()),v))):Drw Q (r.bind k):=by
 obtain⟨c,v,e,h1,h2⟩:=h;rw[e];exact hk c v h1 h2
theorem Drw.ok{ρ:Type}{P:ρ->Prop}{c:Cur}{v:ρ}(hc:WaL c)(hv:P v):Drw P (some ((c,()),v)):=⟨c,v,rfl,hc,hv⟩
theorem Drw.bif{ρ:Type}{P:ρ->Prop}{b:Bool}{x y:Option ((Cur×Unit)×ρ)}(h1:b=true->Drw P x)(h2:b=false->Drw P y):Drw P (bif b then x else y):=by
 cases b
 .exact h2 rfl
 .exact h1 rfl
theorem Drw.bifT{ρ:Type}{P:ρ->Prop}{b:Bool}{x y:Option ((Cur×Unit)×ρ)}(hb:b=true)(h1:Drw P x):Drw P (bif b then x else y):=by rw[hb];exact h1
theorem Drw.mono{ρ:Type}{P Q:ρ->Prop}{r:Option ((Cur×Unit)×ρ)}(h:Drw P r)(hq:∀v,P v->Q v):Drw Q r:=by
 obtain⟨c,v,e,h1,h2⟩:=h;exact⟨c,v,e,h1,hq v h2⟩
section
variable{N:Nat}{c:Cur}
theorem Wau(n:Int)(h:WaL c):Drw (λv:Int×Unit=>(n<=0->v.1=0)/\(0<n->0<=v.1/\v.1<n)) (Zb N c n):=.of (WgU h)
theorem WdJ(n:Int)(h:WaL c):Drw (λ_:Bool×Unit=>True) (Zt N c n):=.of (WsA h)
theorem Wvq(l:List Int)(h:WaL c)(hl:0<l.length)(eZ:l.length<1000):Drw (λv:Int×Unit=>v.1∈l) (Zbq N c l):=.of (Wsx h hl (by omega))
theorem Wxx(h:WaL c):Drw (λv:Int×Unit=>0<=v.1/\v.1<=3) (Za N c):=by
 unfold Za;exact(Wau 4 h).bind λc v hc hv=>.ok hc (by have:=hv.2 (by decide);simp only[];omega)
theorem WwY(h:WaL c):Drw (λv:Int×Unit=>0<=v.1/\v.1<=65535) (Zgi N c):=by
 unfold Zgi;refine(WdJ 6 h).bind λc v hc _=>.bif (λ_=>?_) λ_=>?_
 .refine(Wvq _ hc (by decide) (by decide)).bind λc v hc hv=>.ok hc ?_;simp only[Xo,List.not_mem_nil,or_false]at hv⊢;omega
 .exact(Wau 9 hc).bind λc v hc hv=>.ok hc (by have:=hv.2 (by decide);simp only[];omega)
theorem Wxe(h:WaL c):Drw (λv:Int×Unit=>0<=v.1/\v.1<=7) (Zby N c):=by
 unfold Zby;refine(WdJ 8 h).bind λc v hc _=>.bif (λ_=>?_) λ_=>?_
 .exact(Wau 8 hc).bind λc v hc hv=>.ok hc (by have:=hv.2 (by decide);simp only[];omega)
 .exact(Wau 3 hc).bind λc v hc hv=>.ok hc (by have:=hv.2 (by decide);simp only[];omega)
theorem Wxw(h:WaL c):Drw (λv:Int×Unit=>True) (Zi N c):=by
 unfold Zi;refine(WdJ 4 h).bind λc v hc _=>.bif (λ_=>?_) λ_=>?_
 .exact(Wau 8 hc).bind λc v hc hv=>.ok hc trivial
 .exact(Wvq _ hc (by decide) (by decide)).bind λc v hc hv=>.ok hc trivial
theorem WoU(kind:Int)(h:WaL c):Drw (λ_:Opn×Unit=>True) (Zh N c kind):=by
 unfold Zh
 repeat' first
  |with_reducible refine Drw.bif (λ_=>?_) λ_=>?_
  |with_reducible refine(Wxx (by assumption)).bind λc v hc hv=>?_
  |with_reducible refine(WwY (by assumption)).bind λc v hc hv=>?_
  |with_reducible refine(Wxe (by assumption)).bind λc v hc hv=>?_
  |with_reducible refine(Wxw (by assumption)).bind λc v hc hv=>?_
  |with_reducible refine(Wau _ (by assumption)).bind λc v hc hv=>?_
  |with_reducible exact .ok (by assumption) trivial
theorem WrZ{rec:Cur->Int->Int->Bool->Option ((Cur×Unit)×(List Opn×Unit))}{most deep:Int}{kid:Bool}(hm:0<=most/\most<=100)
  (bd:∀c (m d:Int),WaL c->0<=m->m<most->Drw (λv:List Opn×Unit=>(v.1.length:Int)<=m+2) (rec c m d kid)):
  ∀(n i:Nat) (c:Cur) (l:List Opn),i<n->i<=1000->WaL c->(l.length:Int)<=most+2->Drw (λv:List Opn×Unit=>(v.1.length:Int)<=most+2) (Zc N rec most deep kid (λkO kP ey eA=>(some ((ey,()),(eA,())))) n (i:Int) c l)
 |0,i,c,l,h,_,_,_=>by omega
 |n+1,i,c,l,h,hib,hc,hl=>by
  have hs:(0:Int)<i->W5 .i64 (i:Int) 1=((i-1:Nat):Int):=λh0=>by rw[Waq (by unfold I64;omega)];omega
  have md:W5 .i64 most (Wb l)=most-(l.length:Int):=Waq (by unfold I64 Wb;omega);have me:W5 .i64 (most-(l.length:Int)) 3=most-(l.length:Int) -3:=Waq (by unfold I64;omega);simp only[Zc,md,me];refine .bif (λh0=>?_) λ_=>.ok hc hl;have h0:(i:Int)>0:=of_decide_eq_true h0;rw[hs h0];refine .bif (λh1=>?_) λ_=>.ok hc hl;have h1:(l.length:Int)<most:=of_decide_eq_true h1;have next:∀c' (l':List Opn),WaL c'->(l'.length:Int)<=most+2->Drw (λv:List Opn×Unit=>(v.1.length:Int)<=most+2) (Zc N rec most deep kid (λkO kP ey eA=>(some ((ey,()),(eA,())))) n ((i-1:Nat):Int) c' l'):=
   λc' l' h1 h2=>WrZ hm bd n (i-1) c' l' (by omega) (by omega) h1 h2
  have rm:∀(a:List Opn) (b:List Opn),(a.length:Int)+b.length<=1000->WG (a.length+b.length)=true:=λa b h=>WC (by omega);have wA:∀c' (o:Opn),WaL c'->Drw (λv:List Opn×Unit=>(v.1.length:Int)<=most+2) (bif WG (l.length+ [o].length)then Zc N rec most deep kid (λkO kP ey eA=>(some ((ey,()),(eA,())))) n ((i-1:Nat):Int) c' (Xf l [o])else none):=
   λc' o h2=>.bifT (rm _ _ (by simp;omega)) (next _ _ h2 (by simp[Xah];omega))
  refine(Wau 20 hc).bind λc v hc hv=>?_;have wB:∀c',WaL c'->(4:Int)<=most-(l.length:Int)->Drw (λv:List Opn×Unit=>(v.1.length:Int)<=most+2) ((rec c' (most-(l.length:Int) -3) (W5 .i64 deep 1) kid).bind λgl=>
           ((Zh N gl.1.1 (8:Int)).bind λfA=>
            (bif WG ((Xa l)+(Xa ([fA.2.1])))then
             (bif WG ((Xa (Xf l ([fA.2.1])))+(Xa gl.2.1))then
              ((Zt N fA.1.1 (3:Int)).bind λlI=>
               (bif lI.2.1 then
                (bif WG ((Xa (Xf (Xf l ([fA.2.1])) gl.2.1))+(Xa ([((10:Int),((0:Int),((0:Int),(0:Int))))])))then
                 (bif WG ((Xa (Xf (Xf (Xf l ([fA.2.1])) gl.2.1) ([((10:Int),((0:Int),((0:Int),(0:Int))))])))+(Xa ([((9:Int),((0:Int),((0:Int),(0:Int))))])))then
                  (Zc N rec most deep kid (λkO kP ey eA=>(some ((ey,()),(eA,())))) n ((i-1:Nat):Int) lI.1.1 (Xf (Xf (Xf (Xf l ([fA.2.1])) gl.2.1) ([((10:Int),((0:Int),((0:Int),(0:Int))))])) ([((9:Int),((0:Int),((0:Int),(0:Int))))])))else none)else none)
                else
                (bif WG ((Xa (Xf (Xf l ([fA.2.1])) gl.2.1))+(Xa ([((9:Int),((0:Int),((0:Int),(0:Int))))])))then
                 (Zc N rec most deep kid (λkO kP ey eA=>(some ((ey,()),(eA,())))) n ((i-1:Nat):Int) lI.1.1 (Xf (Xf (Xf l ([fA.2.1])) gl.2.1) ([((9:Int),((0:Int),((0:Int),(0:Int))))])))else none)))else none)else none))):=λc' ia h4=>by
   refine(bd c' _ _ ia (by omega) (by omega)).bind λc2 v2 fa gQ=>(WoU 8 fa).bind λc3 v3 qm _=>?_;simp only[];refine .bifT (rm _ _ (by simp;omega)) (.bifT (rm _ _ (by simp[Xah];omega)) ((WdJ 3 qm).bind λc4 v4 q9 _=>.bif (λ_=>?_) λ_=>?_))
   .exact .bifT (rm _ _ (by simp[Xah];omega)) (.bifT (rm _ _ (by simp[Xah];omega)) (next _ _ q9 (by simp[Xah];omega)))
   .exact .bifT (rm _ _ (by simp[Xah];omega)) (next _ _ q9 (by simp[Xah];omega))
  repeat' first
   |with_reducible exact wA _ _ (by assumption)
   |with_reducible refine Drw.bif (λ_=>?_) λ_=>?_
   |with_reducible refine(WoU _ (by assumption)).bind λc v hc hv=>?_
   |with_reducible refine(WdJ _ (by assumption)).bind λc v hc hv=>?_
   |with_reducible refine(Wau _ (by assumption)).bind λc v hc hv=>?_
   |exact wB _ (by assumption) (by simp only[decide_eq_true_eq,ge_iff_le]at*;omega)
  all_goals
   rename_i hx;have hx:=of_decide_eq_true hx;refine(bd _ 2 0 (by assumption) (by omega) (by omega)).bind λc2 v2 fa gQ=>(WoU 7 fa).bind λc3 v3 qm _=>?_;simp only[];exact .bifT (rm _ _ (by simp;omega)) (.bifT (rm _ _ (by simp[Xah];omega)) (next _ _ qm (by simp[Xah];omega)))
theorem Wu1(hN:1048576<N):∀(m:Nat) (c:Cur) (most deep:Int) (kid:Bool),WaL c->0<=most->most<=100->most<m->Drw (λv:List Opn×Unit=>(v.1.length:Int)<=most+2) (Zd9 N m c most deep kid)
 |0,c,most,deep,kid,hc,h0,h1,h2=>by omega
 |m+1,c,most,deep,kid,hc,h0,h1,h2=>by
  unfold Zd9;refine(Wau most hc).bind λc v hc hv=>?_;have gQ:0<=v.1/\v.1<=100:=by
   by_cases hm:most<=0
   .have:=hv.1 hm;omega
   .have:=hv.2 (by omega);omega
  have e:We .i64 1 v.1=(((1+v.1).toNat:Nat):Int):=by rw[Ww (by unfold I64;omega)];omega
  simp only[e];exact WrZ ⟨h0,h1⟩ (λc m' d ia q0 q1=>Wu1 hN m c m' d kid ia q0 (by omega) (by omega)) N _ c [] (by omega) (by omega) hc (by simp;omega)
theorem Ww5(hN:1048576<N){most deep:Int}{kid:Bool}(hc:WaL c)(h0:0<=most)(h1:most<=100):Drw (λv:List Opn×Unit=>v.1.length<=102) (Zit N c most deep kid):=by
 unfold Zit;exact(Wu1 hN N c most deep kid hc h0 h1 (by omega)).mono λv hv=>by omega
theorem Wpa(hN:1048576<N):∀(n i:Nat) (c:Cur) (l:List Int),8-i<n->i<=8->WaL c->l.length=i->
  Drw (λv:List Int×Unit=>v.1.length=8) (Zci N (λsA aM bM aW=>(some ((bM,()),(aW,())))) n (i:Int) c l)
 |0,i,c,l,h,_,_,_=>by omega
 |n+1,i,c,l,h,hi,hc,hl=>by
  unfold Zci;refine .bif (λh0=>?_) λh0=>.ok hc (by have h0:=of_decide_eq_false h0;simp only[];omega);have h0:(i:Int)<8:=of_decide_eq_true h0;rw[Wk (show i<4611686018427387904 by omega)];refine(WwY hc).bind λc v hc hv=>.bifT (WC (by simp;omega)) ?_;exact Wpa hN n (i+1) c _ (by omega) (by omega) hc (by simp[Xah];omega)
theorem Ww9(hN:1048576<N)(hc:WaL c):Drw (λv:List Int×Unit=>v.1.length=8) (Ze2 N c):=by
 unfold Ze2;exact Wpa hN N 0 c [] (by omega) (by omega) hc rfl
end
end
section
theorem WqE{α:Type}{a b:Option α}(h:a=b):Wft a b=a:=by unfold Wft;rw[if_pos h]
section
variable{N:Nat}{c:Cur}
theorem WoW(hN:1048576<N){bm:List Opn}(dv:bm.length<=300):∀(n i:Nat) (c:Cur) (l:List (List Opn)),i<n->i<=100->WaL c->l.length+i<=100->(∀x∈l,x.length<=200)->
  Drw (λv:(List Opn×List (List Opn))×Unit=>v.1.1.length<=300/\v.1.2.length<=100/\∀x∈v.1.2,x.length<=200) (Ze3 N bm (λzo eX dC gW=>(some ((dC,()),((bm,gW),())))) n (i:Int) c l)
 |0,i,c,l,h,_,_,_,_=>by omega
 |n+1,i,c,l,h,hi,hc,hl,hx=>by
  unfold Ze3;refine .bif (λh0=>?_) λ_=>.ok hc ⟨dv,by simp only[];omega,hx⟩;have h0:(i:Int)>0:=of_decide_eq_true h0;have e:W5 .i64 (i:Int) 1=((i-1:Nat):Int):=by rw[Waq (by unfold I64;omega)];omega
  rw[e];refine(Wau 5 hc).bind λc v hc hv=>?_;have hv:=hv.2 (by decide);have e2:We .i64 2 v.1=2+v.1:=Ww (by unfold I64;omega);simp only[e2];refine(Ww5 hN hc (by omega) (by omega)).bind λc w hc hw=>.bifT (WC (by simp;omega)) ?_;refine WoW hN dv n (i-1) c _ (by omega) (by omega) hc (by simp[Xah];omega) λx eG=>?_;simp[Xah]at eG;rcases eG with eG|eG
  .exact hx x eG
  .rw[eG];omega
theorem Wwu(hN:1048576<N){b:Bool}(hc:WaL c):Drw (λv:(List Opn×List (List Opn))×Unit=>v.1.1.length<=300/\v.1.2.length<=100/\∀x∈v.1.2,x.length<=200) (Zdm N c b):=by
 unfold Zdm;refine .bif (λ_=>?_) λ_=>?_
 .refine(Wau 8 hc).bind λc v hc hv=>?_;have hv:=hv.2 (by decide);have e2:We .i64 3 v.1=3+v.1:=Ww (by unfold I64;omega);simp only[e2];exact(Ww5 hN hc (by omega) (by omega)).bind λc w hc hw=>.ok hc ⟨by simp only[];omega,by simp,by simp⟩
 .refine(Wau 4 hc).bind λc v hc hv=>?_;have hv:=hv.2 (by decide);have e2:We .i64 1 v.1=1+v.1:=Ww (by unfold I64;omega);simp only[e2];refine(Ww5 hN hc (by omega) (by omega)).bind λc w hc hw=>(Wau 4 hc).bind λc v2 hc gQ=>?_;have gQ:=gQ.2 (by decide);have e3:We .i64 1 v2.1=1+v2.1:=Ww (by unfold I64;omega);simp only[e3];refine(Ww5 hN hc (by omega) (by omega)).bind λc w2 hc ya=>.bifT (WC (by simp;omega)) (.bifT (WC (by simp[Xah];omega)) ((Wau 3 hc).bind λc v3 hc wz=>?_));have wz:=wz.2 (by decide);have e4:We .i64 1 v3.1=(((1+v3.1).toNat:Nat):Int):=by rw[Ww (by unfold I64;omega)];omega
  simp only[e4];exact WoW hN (by simp[Xah];omega) N _ c [] (by omega) (by omega) hc (by simp;omega) (by simp)
theorem Wxh(hc:WaL c):Drw (λv:Opn×Unit=>True) (Zmt N c):=by
 unfold Zmt;refine(Wau 16 hc).bind λc v hc hv=>(WoU _ hc).bind λc w hc _=>(Wau 16 hc).bind λc v hc hv=>.bif (λ_=>?_) λ_=>.bif (λ_=>?_) λ_=>.bif (λ_=>?_) λ_=>.bif (λ_=>?_) λ_=>.ok hc trivial
 all_goals exact(Wvq _ hc (by decide) (by decide)).bind λc v hc hv=>.ok hc trivial
theorem Wpm:∀(n:Nat) (c:Cur) (l:List Opn),600-l.length<n->WaL c->l.length<=500->
  Drw (λv:List Opn×Unit=>v.1.length<=600) (Ze4 N (λbe dA bk=>(some ((dA,()),(bk,())))) n c l)
 |0,c,l,h,_,_=>by omega
 |n+1,c,l,h,hc,hl=>by
  unfold Ze4;refine(Wau 2 hc).bind λc v hc hv=>?_;have hv:=hv.2 (by decide);have e:We .i64 24 v.1=24+v.1:=Ww (by unfold I64;omega);simp only[e];refine .bif (λh0=>?_) λ_=>.ok hc (by simp only[];omega);have h0:(l.length:Int)<24+v.1:=of_decide_eq_true h0;exact .bifT (WC (by simp;omega)) (Wpm n c _ (by simp[Xah];omega) hc (by simp[Xah];omega))
theorem WwE(hN:1048576<N){l:List Opn}(hc:WaL c)(hl:l.length<=500):Drw (λv:List Opn×Unit=>v.1.length<=600) (Zgj N c l):=by
 unfold Zgj;have en:Xf ([]:List Opn) l=l:=rfl;simp only[en];refine .bifT (WC (by simp;omega)) (.bif (λ_=>.ok hc (by simp)) λh0=>?_);have hpos:0<l.length:=by
  cases l with
  |nil=>exact absurd h0 (by decide)
  |cons a b=>simp
 refine(Wau (Wb l) hc).bind λc k hc hk=>?_;have hk:=hk.2 (by unfold Wb;omega);unfold Wb at hk;obtain⟨k,u⟩:=k;simp only at hk;obtain⟨j,rfl⟩:=Xfx hk.1;have hj:j<l.length:=by omega
 have ei:inb (j:Int) l.length=true:=Wv hj;have e1:We .i64 (j:Int) 1=((j+1:Nat):Int):=Wk (by omega);have c1:((decide ((0:Int)<=(j:Int)))&&(decide ((j:Int)<=((Xa l):Int))))=true:=by simp;omega
 have c2:((decide ((0:Int)<=((j+1:Nat):Int)))&&(decide (((j+1:Nat):Int)<=((Xa l):Int))))=true:=by simp;omega
 refine(Wau 6 hc).bind λc v hc hv=>?_;simp only[e1,ei,c1,c2,cond_true,WqE rfl];refine .bif (λ_=>?_) λ_=>.bif (λ_=>.ok hc (by simp;omega)) λ_=>.bif (λ_=>?_) λ_=>.bif (λ_=>?_) λ_=>.bif (λ_=>.ok hc (by simp;omega)) λ_=>?_
 .exact(Wxh hc).bind λc w hc _=>.ok hc (by simp;omega)
 .have hlen:(List.drop (Xb ((j+1:Nat):Int)) (Xas l.length l)).length=l.length-(j+1):=by rw[Xj,List.length_drop,Xap];omega
  have iL:(Xas (Xb (j:Int)) l).length=j:=by rw[Xj,Xap];omega
  exact .bifT (WC (by rw[Xj];omega)) (.ok hc (by simp only[Xah,Xaa];omega))
 .exact Wpm N c l (by omega) hc hl
 .exact(Wau 2 hc).bind λc w hc _=>.ok hc (by simp;omega)
end
end
section
def Wxc(f:Y_Family)(k:Nat)(x:Y_KidRun):Y_Family:=U9 (Xl (Q9 f) k x) f
def again(f:Y_Family)(x:Y_KidRun):Y_KidRun:=(0,(0,(f.2.1,(x.2.2.2.1+1,(0,(0,(P4 f,([],([],([],(false,(0,(0,(0,0))))))))))))))
def Woy(x:Y_KidRun)(c:Int):Pb:=bif P10 x then Q11 x else(c,(0,(0,0)))
def Wh0(m:Mm)(f:Y_Family)(x:Y_KidRun)(o:Int×Int×Int×Int):Y_Family×Y_KidRun:=
 match Wbc (P8 x) o.2.2.1 with
 |some v=>(f,S6 (Xl (P6 x) (Xb o.2.1) v) (S1 (x.2.1+1) x))
 |none=>match ent (P6 f) o.2.2.1 with
  |some r=>bif decide (r.2.2.2>x.2.2.1)then(f,again f x)else(f,S7 (P7 x++ [r.2]) (S6 (Xl (P6 x) (Xb o.2.1) r.2.2.1) (S1 (x.2.1+1) x)))
  |none=>
   bif (WV m f.1 (Woy x o.2.2.1)).2.1==4 then(S3 true f,U11 (WV m f.1 (Woy x o.2.2.1)) (S10 true x))else
   bif (WV m f.1 (Woy x o.2.2.1)).2.1==3 then(f,U14 0 (S13 0 (S12 0 (S11 0 (S10 false (S7 (P7 x++ [(o.2.2.1,((WV m f.1 (Woy x o.2.2.1)).2.2.2,-1))]) (S6 (Xl (P6 x) (Xb o.2.1) (WV m f.1 (Woy x o.2.2.1)).2.2.2) (S1 (x.2.1+1) x))))))))else
   (f,U11 (WV m f.1 (Woy x o.2.2.1)) (S10 true x))
structure ReadOk(m:Mm)(f:Y_Family)(x:Y_KidRun)(o:Int×Int×Int×Int):Prop where
 mem:WY m=true
 regs:(P6 x).length=4
 famr:(P4 f).length=4
 rA:0<=o.2.1/\o.2.1<=3
 cB:W7 o.2.2.1=true
 seen:(P7 x).length<=1000
 wr:(P8 x).length<=1000
 buf:(P6 f).length<=1000
 ver:∀e∈P6 f,0<=e.2.2
 since:0<=x.2.2.1
 pc:0<=x.2.1/\x.2.1<=1000
 tries:0<=x.2.2.2.1/\x.2.2.2.1<=100000
 pb:P10 x=true->Wlp (Q11 x)=true
theorem ReadOk.pbO{m:Mm}{f:Y_Family}{x:Y_KidRun}{o:Int×Int×Int×Int}(h:ReadOk m f x o):Wlp (Woy x o.2.2.1)=true:=by
 unfold Woy;cases hb:P10 x
 .have:=h.cB;unfold Wlp;simp[this,Wbg]
 .exact h.pb hb
theorem Wuj{x:Y_KidRun}(h:P10 x=true):S10 true x=x:=by rw[←h];rfl
theorem WcG{a:Int}(h:0<=a/\a<=1000000):We .i64 a 1=a+1:=Ww (by unfold I64;omega)
theorem rgI{r:List Int}{a:Int}(h:r.length=4)(ha:0<=a/\a<=3):inb a r.length=true:=by unfold inb;rw[h];simp;omega
theorem WeL{N:Nat}{f:Y_Family}{k:Nat}{x:Y_KidRun}(hk:k<(Q9 f).length)(h:(P4 f).length=4)(ht:0<=x.2.2.2.1/\x.2.2.2.1<=100000):
  Zbh N (U9 (Xl (Q9 f) k x) f) (k:Int)=some ((Wxc f k (again f x),()),()):=by
 have e0:Zu N (P4 (U9 (Xl (Q9 f) k x) f))=ret (P4 f):=Wbt (show(P4 f).length<=1048576 by omega);have e1:Q9 (U9 (Xl (Q9 f) k x) f)=Xl (Q9 f) k x:=rfl;have fv:k<(Xl (Q9 f) k x).length:=by simpa using hk
 unfold Zbh;rw[e0,e1];have e2:Xc (Xl (Q9 f) k x) (Xb (k:Int)) d_KidRun=x:=by rw[WB fv];simp
 rw[e2,Wv fv,WcG (by omega),Xj];simp only[cond_true,ret,Xd,Xdp];rfl
theorem Wmr{N:Nat}{m:Mm}{f:Y_Family}{k:Nat}{o:Int×Int×Int×Int}(hk:k<(Q9 f).length)(h:ReadOk m f (Q9 f)[k] o)(hN:1048576<N):
  Zhv N f (k:Int) o m=some ((Wxc (Wh0 m f (Q9 f)[k] o).1 k (Wh0 m f (Q9 f)[k] o).2,()),()):=by
 generalize hx:(Q9 f)[k]=x at h;have hw:=h.wr;have hs:=h.seen;have hb:=h.buf;have hr:=h.regs;have ex:Xc (Q9 f) (Xb (k:Int)) d_KidRun=x:=by rw[WB hk,hx]
 unfold Zhv Wh0;simp only[Wz];rw[Wv hk,ex,Xj,Wey (show(P8 x).length<=1048576 by omega) hN,WcG (by have:=h.pc;omega)];rcases Wbc (P8 x) o.2.2.1 with _|v
 .simp only[opI,Xd,cond_false,cond_true];have hE:Zcf N (U9 (Xl (Q9 f) k x) f) o.2.2.1=ret (match ent (P6 f) o.2.2.1 with|some r=>(r.1:Int)|none=>-1):=Wfy (f:=U9 (Xl (Q9 f) k x) f) (show(P6 f).length<=1048576 by omega) hN;rw[hE,WeL hk h.famr h.tries];rcases he:ent (P6 f) o.2.2.1 with _|r
  .simp only[ret,Xd,show decide ((-1:Int)>=0)=false from rfl,cond_false];have hp:=h.pbO;cases hc:P10 x
   .have oe:Woy x o.2.2.1=(o.2.2.1,(0,(0,0))):=by unfold Woy;rw[hc];rfl
    have hn:Zeq N o.2.2.1=some ((),((o.2.2.1,(0,(0,0))),(true,()))):=by
     unfold Zeq;simp only[Wm,ret,Xd,h.cB,Xab,cond_false]
    rw[oe]at hp⊢;simp only[Bool.not_false,cond_true,hn,We3 h.mem hp hN,ret,Xd,rgI hr h.rA];generalize WV m f.1 (o.2.2.1,(0,(0,0)))=q;rw[WC (by simp;omega)];cases q.2.1==4<;>cases q.2.1==3<;>rfl
   .have oe:Woy x o.2.2.1=Q11 x:=by unfold Woy;rw[hc];rfl
    rw[oe]at hp⊢;simp only[Xab,cond_false,We3 h.mem hp hN,ret,Xd,rgI hr h.rA,cond_true];generalize WV m f.1 (Q11 x)=q;rw[WC (by simp;omega),Wuj hc];cases q.2.1==4<;>cases q.2.1==3<;>rfl
  .have hm:=WcZ he;have hi:r.1<(P6 f).length:=by have:=hm.2.2.1;omega
   have hg:(P6 f)[r.1]=r.2:=by
    have:=hm.2.2.2;rw[Nat.sub_zero,List.getElem?_eq_getElem hi]at this;exact Option.some.inj this
   have e2:decide (((r.1:Nat):Int)>=0)=true:=by simp
   simp only[ret,Xd,e2,cond_true,Wv hi,rgI hr h.rA];rw[WB hi,hg,WC (by simp;omega)];cases decide (r.2.2.2>x.2.2.1)<;>rfl
 .simp only[opI,Xd,cond_true,rgI hr h.rA];rfl
end
section
structure Lin{α:Type}(cf:α->α->Int):Prop where
 irr:∀x,¬cf x x<0
 tr:∀x y z,cf x y<0->cf y z<0->cf x z<0
 nt:∀x y z,¬cf x y<0->¬cf y z<0->¬cf x z<0
theorem WvM:Lin cfE:=⟨λx=>by unfold cfE;omega,λx y z=>by unfold cfE;omega,λx y z=>by unfold cfE;omega⟩
theorem Wor:Lin cfH:=⟨λx=>by rw[WbJ];omega,λx y z=>by simp only[WbJ];omega,λx y z=>by simp only[WbJ];omega⟩
def Ris{α:Type}(cf:α->α->Int)(l:List α):Prop:=l.Pairwise λa b=>cf a b<0
def WfT{α:Type}(cf:α->α->Int):List α->α->List α
 | [],e=>[e]
 |x::l,e=>if cf x e<0 then x::WfT cf l e else if cf e x<0 then e::x::l else e::l
def Ap{α:Type}(cf:α->α->Int)(x y:α):Prop:=cf x y<0\/cf y x<0
variable{α:Type}{cf:α->α->Int}
theorem Lin.ap(h:Lin cf){x y:α}(hn:¬Ap cf x y){z:α}:(cf x z<0↔cf y z<0)/\(cf z x<0↔cf z y<0):=by
 unfold Ap at hn;refine⟨⟨λa=>?_,λa=>?_⟩,⟨λa=>?_,λa=>?_⟩⟩
 .exact Classical.byContradiction λc=>h.nt x y z (λq=>hn (.inl q)) c a
 .exact Classical.byContradiction λc=>h.nt y x z (λq=>hn (.inr q)) c a
 .exact Classical.byContradiction λc=>h.nt z y x c (λq=>hn (.inr q)) a
 .exact Classical.byContradiction λc=>h.nt z x y c (λq=>hn (.inl q)) a
theorem WbP(hc:Lin cf){e x:α}:∀{l:List α},Ris cf l->(x∈WfT cf l e↔x=e\/(x∈l/\Ap cf x e))
 | [],_=>by simp[WfT]
 |y::l,h=>by
  have hl:=(Xac.1 h);unfold WfT;by_cases h1:cf y e<0
  .rw[if_pos h1,Xo,WbP hc hl.2,Xo];refine⟨?_,?_⟩
   .rintro(rfl|h|h)
    .exact .inr ⟨.inl rfl,.inl h1⟩
    .exact .inl h
    .exact .inr ⟨.inr h.1,h.2⟩
   .rintro(h|⟨rfl|h,h'⟩)
    .exact .inr (.inl h)
    .exact .inl rfl
    .exact .inr (.inr ⟨h,h'⟩)
  .rw[if_neg h1];by_cases h2:cf e y<0
   .rw[if_pos h2];simp only[Xo];refine⟨?_,?_⟩
    .rintro(h|rfl|h)
     .exact .inl h
     .exact .inr ⟨.inl rfl,.inr h2⟩
     .exact .inr ⟨.inr h,.inr (hc.tr _ _ _ h2 (hl.1 x h))⟩
    .rintro(h|⟨rfl|h,_⟩)
     .exact .inl h
     .exact .inr (.inl rfl)
     .exact .inr (.inr h)
   .rw[if_neg h2];simp only[Xo];have hn:¬Ap cf y e:=by unfold Ap;omega
    refine⟨?_,?_⟩
    .rintro(h|h)
     .exact .inl h
     .exact .inr ⟨.inr h,.inr ((hc.ap hn).1.1 (hl.1 x h))⟩
    .rintro(h|⟨rfl|h,h'⟩)
     .exact .inl h
     .exact absurd h' hn
     .exact .inr h
theorem WcS(hc:Lin cf){e:α}:∀{l:List α},Ris cf l->Ris cf (WfT cf l e)
 | [],_=>by simp[WfT,Ris]
 |y::l,h=>by
  have hl:=(Xac.1 h);unfold WfT;by_cases h1:cf y e<0
  .rw[if_pos h1];refine Xac.2 ⟨λx hx=>?_,WcS hc hl.2⟩;rcases(WbP hc hl.2).1 hx with rfl|hx
   .exact h1
   .exact hl.1 x hx.1
  .rw[if_neg h1];by_cases h2:cf e y<0
   .rw[if_pos h2];refine Xac.2 ⟨λx hx=>?_,h⟩;rcases Xo.1 hx with rfl|hx
    .exact h2
    .exact hc.tr _ _ _ h2 (hl.1 x hx)
   .rw[if_neg h2];have hn:¬Ap cf y e:=by unfold Ap;omega
    exact Xac.2 ⟨λx hx=>(hc.ap hn).1.1 (hl.1 x hx),hl.2⟩
theorem Woo(hc:Lin cf){L M:List α}(hM:Ris cf M)(hL:L.Pairwise (Ap cf))(hm:∀x,x∈L↔x∈M):sortBy cf L=M:=by
 have hn:∀{l:List α},l.Pairwise (Ap cf)->l.Nodup:=λh=>h.imp λ{a b} dY=>by
  rintro rfl;unfold Ap at dY;have:=hc.irr a;omega
 have hM':M.Pairwise (Ap cf):=hM.imp λh=>.inl h;have hp:L.Perm M:=(List.perm_ext_iff_of_nodup (hn hL) (hn hM')).2 hm;unfold sortBy;have h1:=List.pairwise_mergeSort (le:=λx y=>!lessBy cf y x) (λa b c=>by
  simp only[lessBy,Xaq,decide_eq_false_iff_not]
  exactλh1 h2=>hc.nt _ _ _ h2 h1) (λa b=>by
  simp only[lessBy,Xbw,Xaq,decide_eq_false_iff_not];rcases Classical.em (cf b a<0)with h|h
  .exact .inr λh'=>hc.irr _ (hc.tr _ _ _ h h')
  .exact .inl h) L
 refine List.Perm.eq_of_pairwise ?_ h1 (hM.imp λ{a b} h=>?_) ((Xgl _ _).trans hp)
 .intro a b ha hb h1 h2;simp only[lessBy,Xaq,decide_eq_false_iff_not]at h1 h2;have zF:a∈M:=(hm a).1 ((Xgl _ _).mem_iff.1 ha);obtain⟨i,hi,rfl⟩:=Xam zF;obtain⟨j,hj,rfl⟩:=Xam hb;rcases Nat.lt_trichotomy i j with h|h|h
  .exact absurd (Xat.1 hM i j hi hj h) h2
  .subst h;rfl
  .exact absurd (Xat.1 hM j i hj hi h) h1
 .simp only[lessBy,Xaq,decide_eq_false_iff_not]
  exactλh'=>hc.irr _ (hc.tr _ _ _ h h')
theorem Wo6{r:α->α->Bool}{R:α->α->Prop}(hr:∀a b,R a b->r a b=true):∀{l:List α},l.Pairwise R->WkF r l=true
 | [],_=>rfl
 |x::l,h=>by
  have:=Xac.1 h;simp only[WkF,Xh,Xae];exact⟨λy hy=>hr _ _ (this.1 y hy),Wo6 hr this.2⟩
theorem Wpv(hc:Lin cf){rng:α->Bool}{N:Nat}{L M:List α}(hM:Ris cf M)(hL:L.Pairwise (Ap cf))(hm:∀x,x∈L↔x∈M)(hr:∀x∈L,rng x=true)(hl:L.length<=1048576):
  Zl9 rng cf N L=some ((M,()),()):=by
 unfold Zl9;rw[Xae.2 hr,Wo6 (R:=Ap cf) (λa b h=>by unfold apart lessBy;simpa [Ap]using h) hL,decide_eq_true (by omega)];rw[←Woo hc hM hL hm];rfl
theorem Wnl(hc:Lin cf){L:List α}{e:α}{i:Nat}(hL:L.Pairwise (Ap cf))(hi:i<L.length)(hk:¬Ap cf L[i] e):(L.set i e).Pairwise (Ap cf)/\∀x,x∈L.set i e↔x=e\/(x∈L/\Ap cf x e):=by
 have qn:∀{z},Ap cf L[i] z↔Ap cf e z:=λ{z}=>by unfold Ap;rw[(hc.ap hk).1,(hc.ap hk).2]
 have kX:∀{a b:α},Ap cf a b->Ap cf b a:=λh=>h.symm;have hG:=Xat.1 hL;refine⟨?_,λx=>⟨λhx=>?_,?_⟩⟩
 .rw[Xat];intro a b ha hb dY;rw[Xad]at ha hb;rw[Xao,Xao];by_cases h1:i=a
  .rw[if_pos h1,if_neg (by omega)];subst h1;exact qn.1 (hG i b ha hb dY)
  .rw[if_neg h1];by_cases h2:i=b
   .rw[if_pos h2];subst h2;exact kX (qn.1 (kX (hG a i ha hb dY)))
   .rw[if_neg h2];exact hG a b ha hb dY
 .obtain⟨j,hj,rfl⟩:=Xam hx;rw[Xad]at hj;rw[Xao];by_cases h1:i=j
  .rw[if_pos h1];exact .inl rfl
  .rw[if_neg h1];refine .inr ⟨Xq hj,?_⟩;rcases Nat.lt_or_gt_of_ne h1 with h|h
   .exact kX (qn.1 (hG i j hi hj h))
   .exact kX (qn.1 (kX (hG j i hj hi h)))
 .rintro(rfl|⟨hx,eG⟩)
  .exact Xgj.2 ⟨i,by simpa using hi,by simp⟩
  .obtain⟨j,hj,rfl⟩:=Xam hx;refine Xgj.2 ⟨j,by simpa using hj,?_⟩;rw[Xao,if_neg];rintro rfl;exact hk eG
theorem WjW{L:List α}{e:α}(hL:L.Pairwise (Ap cf))(hk:∀x∈L,Ap cf x e):(L++ [e]).Pairwise (Ap cf)/\∀x,x∈L++ [e]↔x=e\/(x∈L/\Ap cf x e):=by
 refine⟨List.pairwise_append.2 ⟨hL,List.pairwise_singleton _ _,λa ha b hb=>?_⟩,λx=>?_⟩
 .rw[Xz]at hb;subst hb;exact hk a ha
 .simp only[List.mem_append,Xz];refine⟨?_,?_⟩
  .rintro(h|h)
   .exact .inr ⟨h,hk x h⟩
   .exact .inl h
  .rintro(h|h)
   .exact .inr h
   .exact .inl h.1
end
section
abbrev KM:=Int×Int×List Int
structure Kd where
 phase:Int:=0
 pc:Int:=0
 since:Int:=0
 tries:Int:=0
 pos:Int:=0
 out:Int:=0
 regs:List Int:=[]
 seen:List En:=[]
 writes:List Rw:=[]
 marks:List KM:=[]
 busy:Bool:=false
 pb:Pb:=(0,0,0,0)
def Kd.e(x:Kd):Y_KidRun:=(x.phase,x.pc,x.since,x.tries,x.pos,x.out,x.regs,x.seen,x.writes,x.marks,x.busy,x.pb)
structure Fm where
 rv:Int:=0
 clock:Int:=0
 owner:Int:=0
 lost:Bool:=false
 regs:List Int:=[]
 start:List Rw:=[]
 buf:List En:=[]
 order:List Int:=[]
 reads:List Rw:=[]
 kids:List Kd:=[]
def Fm.e(f:Fm):Y_Family:=(f.rv,f.clock,f.owner,f.lost,f.regs,f.start,f.buf,f.order,f.reads,f.kids.map Kd.e)
def zOp:Opn:=(0,0,0,0)
def opN(code:List Opn)(i:Int):Opn:=Xc code i.toNat zOp
def Wbi{α:Type}(l:List α)(i:Int)(d:α):α:=Xc l i.toNat d
def Wlw{α:Type}(l:List α)(i:Int)(x:α):List α:=Xl l i.toNat x
def WhH{α:Type}(l:List α)(d:α):α:=Xc l (l.length-1) d
def WiA(l:List Opn)(m:Nat):Nat:=((Xdi l.length).find? λk=>decide (m<=k)&&decide (dep l (k+1)=dep l m)).getD 0
def Fm.again(f:Fm)(x:Kd):Kd:={since:=f.clock,tries:=x.tries+1,regs:=f.regs}
def Wej(m:Mm)(f:Fm)(x:Kd)(o:Opn):Fm×Kd:=
 match Wbc x.writes o.2.2.1 with
 |some v=>(f,{x with regs:=Wlw x.regs o.2.1 v,pc:=x.pc+1})
 |none=>match ent f.buf o.2.2.1 with
  |some r=>if r.2.2.2>x.since then(f,f.again x)else(f,{x with regs:=Wlw x.regs o.2.1 r.2.2.1,seen:=x.seen++ [r.2],pc:=x.pc+1})
  |none=>
   let p:=WV m f.rv (if x.busy then x.pb else(o.2.2.1,0,0,0))
   if p.2.1=4 then({f with lost:=true},{x with busy:=true,pb:=p})
   else if p.2.1=3 then(f,{x with regs:=Wlw x.regs o.2.1 p.2.2.2,seen:=x.seen++ [(o.2.2.1,p.2.2.2,-1)],busy:=false,pb:=(0,0,0,0),pc:=x.pc+1})
   else(f,{x with busy:=true,pb:=p})
def Wh9(x:Kd)(code:List Opn):Kd:=
 if x.marks.length=0 then{x with writes:=[],out:=2,phase:=1}else
 let q:=WhH x.marks (0,0,[])
 {x with marks:=x.marks.dropLast,regs:=Wlw q.2.2 (opN code q.1).2.1 0,writes:=x.writes.take q.2.1.toNat,pc:=WiA code q.1.toNat+1}
def WqK(m:Mm)(f:Fm)(x:Kd)(code:List Opn):Fm×Kd:=
 if x.pc>=code.length then(f,{x with out:=1,phase:=1})else
 let o:=opN code x.pc
 if o.1=5 then Wej m f x o else
 if o.1=10 then(f,Wh9 x code)else
 if o.1=6 then(f,{x with writes:=x.writes++ [(o.2.1,Wbi x.regs o.2.2.1 0)],pc:=x.pc+1})else
 if o.1=7 then(f,{x with pc:=(if Wbi x.regs o.2.1 0=0 then x.pc+o.2.2.1 else x.pc)+1})else
 if o.1=8 then(f,{x with marks:=x.marks++ [(x.pc,(x.writes.length:Int),x.regs)],pc:=x.pc+1})else
 if o.1=9 then(f,{x with marks:=x.marks.dropLast,regs:=Wlw x.regs (opN code (WhH x.marks (0,0,[])).1).2.1 1,pc:=x.pc+1})else
 (f,{x with regs:=WkD o x.regs,pc:=x.pc+1})
def Wd6(c:Int)(b:List En)(rows:List Rw):List En:=rows.foldl (λb r=>WfT cfE b (r.1,r.2,c)) b
def Wbj(l:List En):List Rw:=(l.filter λe=>decide (e.2.2= -1)).map λe=>(e.1,e.2.1)
def Wdb(f:Fm)(x:Kd)(k:Nat):Fm×Kd:=
 ({f with clock:=f.clock+1,buf:=Wd6 (f.clock+1) f.buf (WcN x.writes),reads:=f.reads++Wbj x.seen,order:=f.order++ [(k:Int)],owner:=0},{x with phase:=3,pos:=0,marks:=[]})
def WvZ(b:List En)(c:Int):Int:=match ent b c with
 |some r=>r.2.2.2
 |none=>-1
def Wei(m:Mm)(f:Fm)(x:Kd)(k:Nat)(code:List Opn):Fm×Kd:=
 if x.phase=0 then WqK m f x code else
 if x.phase=1 then(if f.owner=0 then({f with owner:=(k:Int)+1},{x with phase:=2})else(f,x))else
 if x.phase=2 then
  if x.pos=x.seen.length then Wdb f x k else
  let s:=Wbi x.seen x.pos (0,0,0)
  if WvZ f.buf s.1=s.2.2 then(f,{x with pos:=x.pos+1})else({f with owner:=0},f.again x)
 else(f,x)
def Fm.put(q:Fm×Kd)(k:Nat):Fm:={q.1 with kids:=q.1.kids.set k q.2}
def WcD(m:Mm)(f:Fm)(k:Nat)(code:List Opn):Fm:=
 if f.lost then f else Fm.put (Wei m f (f.kids.getD k {}) k code) k
def WaA(rv:Int)(regs:List Int)(writes:List Rw)(kids:Nat):Fm:=
 {rv:=rv,regs:=regs,start:=WcN writes,buf:=(WcN writes).map λr=>(r.1,r.2,0),kids:=List.replicate kids {regs:=regs}}
def Wbd(f:Fm):Bool:=f.kids.all λx=>decide (x.phase=3)
def WgP(f:Fm):List Rw:=f.buf.map λe=>(e.1,e.2.1)
def WuS(x:Kd):Int:=if x.out=1/\Wfw x.regs=true then Wbi x.regs 0 0 else 0
def WiQ(f:Fm):List Int:=
 if Wfw f.regs=true/\f.kids.length<=3 then f.kids.map WuS++f.regs.drop f.kids.length else []
structure KMk(code:List Opn)(pc:Nat)(marks:List KM)(wl:Nat):Prop where
 pcs:marks.map (·.1)=(stk code pc).map λm:Nat=>(m:Int)
 each:∀q∈marks,Vals 4 q.2.2/\0<=q.2.1/\q.2.1<=q.1/\q.2.1<=wl
 up:marks.Pairwise λa b=>a.2.1<=b.2.1
structure KOk(code:List Opn)(c n:Int)(x:Kd):Prop where
 pc:0<=x.pc/\x.pc<=code.length
 regs:Vals 4 x.regs
 rows:Wi1 x.writes
 wl:(x.writes.length:Int)<=x.pc
 sl:(x.seen.length:Int)<=x.pc
 since:0<=x.since/\x.since<=c
 tries:0<=x.tries/\x.tries<=n
 seen:∀e∈x.seen,(0<=e.1/\e.1<=7)/\(0<=e.2.1/\e.2.1<=65535)/\ -1<=e.2.2/\e.2.2<=x.since
 marks:x.phase=0->KMk code x.pc.toNat x.marks x.writes.length
 pos:0<=x.pos/\x.pos<=x.seen.length
 pb:x.busy=true->Wlp x.pb=true
 phase:0<=x.phase/\x.phase<=3
 out:0<=x.out/\x.out<=2
structure FOk(codes:List (List Opn))(n:Int)(f:Fm):Prop where
 len:f.kids.length=codes.length
 regs:Vals 4 f.regs
 clock:0<=f.clock/\f.clock=f.order.length
 done:f.order.length=f.kids.countP λx=>decide (x.phase=3)
 bufR:Ris cfE f.buf
 bufE:∀e∈f.buf,(0<=e.1/\e.1<=7)/\(0<=e.2.1/\e.2.1<=65535)/\0<=e.2.2/\e.2.2<=f.clock
 readsL:f.reads.length<=24*f.order.length
 readsE:Wi1 f.reads
 owner:0<=f.owner/\f.owner<=f.kids.length
 kid:∀(k:Nat) (h:k<f.kids.length),KOk (codes.getD k []) f.clock n f.kids[k]
end
section
structure CC(l:List Opn):Prop where
 len:l.length<=24
 up:Up l
 z:dep l l.length=0
 ok:∀i (h:i<l.length),Was l[i]=true/\1<=l[i].1/\l[i].1<=16
 sk:∀i (h:i<l.length),l[i].1=7->i+1+l[i].2.2.1.toNat<=l.length/\bal ((l.take (i+1+l[i].2.2.1.toNat)).drop (i+1))=true
 fk:∀i (h:i<l.length),l[i].1=11->dep l i=0/\frk l (i+1)<=1
structure KC(l:List Opn):Prop extends CC l where
 k10:∀i (h:i<l.length),l[i].1<=10
theorem WrQ{o:Opn}(h:Was o=true)(dv:12<=o.1):Wi9 o=2:=by
 have kU:=Wou h;have key:=WdY (N:=0) (o:=o);unfold Zb9 at key;rw[WdA,h]at key;simp only[ret,Xd,Xab,cond_false]at key;have e5:(o.1==5)=false:=by simp;omega
 have e6:(o.1==6)=false:=by simp;omega
 rw[e5,e6]at key;simp only[cond_false]at key;have:o.1=12\/o.1=13\/o.1=14\/o.1=15\/o.1=16:=by omega
 rcases this with hk|hk|hk|hk|hk<;> · rw[hk]at key;simpa using key.symm
theorem WwK{l:List Opn}(h:WnX l=true):CC l:=by
 unfold WnX at h;simp only[Xh,decide_eq_true_eq,Xaq]at h;obtain⟨h1,h2,h3⟩:=h;obtain⟨b1,b2⟩:=WnJ.1 h2;have hb:∀i (hi:i<l.length),WnN l i l[i]=false:=λi hi=>by
  rw[Xbz];intro hb;have:WlO (WnN l) 0 l=true:=Wgp.2 ⟨i,hi,by rw[Xbc];exact hb⟩;rw[h3]at this;cases this
 have aI:∀i (hi:i<l.length),Was l[i]=true:=λi hi=>by
  have:=hb i hi;unfold WnN at this;simp only[Xec,Xfi]at this;exact this.1.1
 refine⟨h1,b1,b2,λi hi=>⟨aI i hi,Wou (aI i hi)⟩,λi hi h7=>?_,λi hi dg=>?_⟩
 .have:=hb i hi;unfold WnN at this;simp only[Xec,Xfi]at this;have h8:=this.1.2;rw[h7]at h8;have:Whu l i l[i]=true:=by simpa using h8
  unfold Whu at this;simpa using this
 .have:=hb i hi;unfold WnN at this;simp only[Xec,Xfi]at this;have h8:=this.2;rw[dg]at h8;simp at h8;omega
theorem Wxa{l:List Opn}(h:WgX l=true):KC l:=by
 unfold WgX at h;simp only[Xh,Xaq]at h;have hc:=WwK h.1;refine⟨hc,λi hi=>?_⟩;have cy:Wge l[i]=false:=by
  rw[Xbz];intro hb;have:=List.any_eq_true.2 ⟨l[i],Xq hi,hb⟩;rw[h.2]at this;cases this
 unfold Wge at cy;simp only[Xec]at cy;by_cases ci:l[i].1<=10
 .exact ci
 .exfalso;by_cases dg:l[i].1=11
  .simp[dg]at cy
  .have:=WrQ (hc.ok i hi).1 (by have:=(hc.ok i hi).2;omega);rw[this]at cy;simp at cy
theorem Wqo{l:List Opn}{m k:Nat}(h:Mate l m k):WiA l m=k:=by
 unfold WiA;have:(Xdi l.length).find? (λk=>decide (m<=k)&&decide (dep l (k+1)=dep l m))=some k:=by
  rw[List.find?_range_eq_some];have:=h.lt;refine⟨?_,List.mem_range.2 h.len,λj hj=>?_⟩
  .simp[h.eq];omega
  .simp only[Xaq,Bool.and_eq_false_iff,decide_eq_false_iff_not];by_cases hm:m<=j
   .exact .inr (h.ne j hm hj)
   .exact .inl hm
 rw[this];rfl
theorem Wfk{l:List Opn}{i:Int}(h0:0<=i)(h:i<l.length):∃(n:Nat) (hn:n<l.length),i=n/\opN l i=l[n]:=by
 refine⟨i.toNat,by omega,by omega,?_⟩;unfold opN;exact Wf (by omega) _
theorem Wlv{l:List Opn}{n:Nat}(h:n<l.length):opN l (n:Int)=l[n]:=by
 unfold opN;exact Wf (by simpa using h) _
theorem Wqf{α:Type}(q:List α)(x d:α):WhH (q++ [x]) d=x:=by unfold WhH;simp
theorem Who{M:Type}{g:M->Int}{l:List Opn}{pc:Nat}{marks:List M}{d:M}(hc:CC l)(hp:pc<=l.length)(hm:marks.map g=(stk l pc).map λm:Nat=>(m:Int))(hne:marks.length≠0):
  ∃(m:Nat) (q:List M) (x:M),marks=q++ [x]/\WhH marks d=x/\g x=(m:Int)/\(∃hm:m<l.length,l[m].1=8)/\m<pc/\Mate l m (WiA l m)/\pc<=WiA l m/\stk l m=(stk l pc).dropLast/\q.map g=(stk l m).map λm:Nat=>(m:Int):=by
 rcases Wcd marks with h0|⟨q,x,hq⟩
 .rw[h0]at hne;simp at hne
 .rw[hq,Xr,Xaj,Xck]at hm;rcases Wcd (stk l pc)with h0|⟨t,m,ht⟩
  .rw[h0]at hm;simp at hm
  .rw[ht,Xr,Xaj,Xck]at hm;obtain⟨e1,e2⟩:=Xen hm rfl;injection e2 with e2;obtain⟨k,k1,k2,k3⟩:=WvL hc.up hc.z hp ht;have k4:=Wqo k2;obtain⟨hlt,h8,_,_⟩:=WlC pc hp t [] m ht;refine⟨m,q,x,hq,by rw[hq];exact Wqf q x d,e2,h8,hlt,by rw[k4];exact k2,by omega,by rw[ht,Xet];exact k3,by rw[k3];exact e1⟩
end
section
theorem WjG{l:List Rw}{c v:Int}:∀(i:Nat),i<=l.length->WdF l c i=some v->(c,v)∈l
 |0,_,h=>by simp[WdF]at h
 |i+1,hi,h=>by
  unfold WdF at h;rw[Wf (show i<l.length by omega)]at h;by_cases hc:l[i].1=c
  .rw[if_pos hc]at h;injection h with h;have:l[i]=(c,v):=by rw[←hc,←h]
   rw[←this];exact Xq _
  .rw[if_neg hc]at h;exact WjG i (by omega) h
theorem WiF{l:List Rw}{c v:Int}(h:Wbc l c=some v):Wbb l=true/\(c,v)∈l:=by
 unfold Wbc at h;by_cases hr:Wbb l=true
 .rw[if_pos hr]at h;exact⟨hr,WjG _ (Xn _) h⟩
 .rw[if_neg hr]at h;cases h
theorem Wpz(l:List Rw):∀(j c:Nat) (o:List Rw),Wkz l j c o=o++(Xgx c j).filterMap λc:Nat=>(Wbc l (c:Int)).map λv=>((c:Int),v)
 |0,c,o=>by simp[Wkz]
 |j+1,c,o=>by
  rw[Wkz,Wpz l j,List.range'_succ,List.filterMap_cons];unfold Wkx;cases h:Wbc l (c:Int)<;>simp
theorem Wkg(l:List Rw):WcN l=(Xgx 0 8).filterMap λc:Nat=>(Wbc l (c:Int)).map λv=>((c:Int),v):=by unfold WcN;rw[Wpz];simp
theorem WoK{l:List Rw}{r:Rw}:r∈WcN l↔(0<=r.1/\r.1<=7)/\Wbc l r.1=some r.2:=by
 rw[Wkg,List.mem_filterMap];constructor
 .rintro⟨c,hc,h⟩;rw[Xgt]at hc;cases hl:Wbc l (c:Int)with
  |none=>rw[hl]at h;cases h
  |some v=>
   rw[hl]at h;injection h with h;subst h;exact⟨by show 0<=(c:Int)/\(c:Int)<=7;omega,hl⟩
 .rintro⟨h0,h⟩;refine⟨r.1.toNat,Xgt.2 (by omega),?_⟩;rw[show((r.1.toNat:Nat):Int)=r.1 by omega,h];rfl
theorem WnT(l:List Rw):(WcN l).Pairwise λa b=>a.1<b.1:=by
 rw[Wkg,List.pairwise_filterMap];refine List.Pairwise.imp ?_ (List.pairwise_lt_range' (s:=0) (n:=8));intro a b dY r hr r' bO;cases h1:Wbc l (a:Int)<;>rw[h1]at hr<;>simp at hr;cases h2:Wbc l (b:Int)<;>rw[h2]at bO<;>simp at bO;rw[←hr,←bO];simp;omega
theorem Wf0(l:List Rw):(WcN l).length<=8:=by
 rw[Wkg];exact Xcq (List.length_filterMap_le _ _) (by simp)
theorem Wf1{l:List Rw}:Wi1 (WcN l):=by
 intro r hr;obtain⟨h0,h1⟩:=WoK.1 hr;obtain⟨h2,h3⟩:=WiF h1;unfold Wbb at h2;simp only[Xh]at h2;have:=(Wkc.1 h2.2) _ h3;exact⟨h0,this.2⟩
end
section
theorem Wgt{α β:Type}(g:α->β)(l:List α)(i:Nat)(d:α):Xc (l.map g) i (g d)=g (l.getD i d):=by
 by_cases h:i<l.length
 .rw[Wf (show i<(l.map g).length by simpa using h),Wf h];simp
 .rw[Xba,Xba,Xbg (by simpa using h),Xbg (by simpa using h)];rfl
theorem kdP(x:Kd):x.e.1=x.phase/\x.e.2.1=x.pc/\x.e.2.2.1=x.since/\x.e.2.2.2.1=x.tries/\P4 x.e=x.pos/\P5 x.e=x.out/\P6 x.e=x.regs/\P7 x.e=x.seen/\P8 x.e=x.writes/\P9 x.e=x.marks/\P10 x.e=x.busy:=⟨rfl,rfl,rfl,rfl,rfl,rfl,rfl,rfl,rfl,rfl,rfl⟩
theorem fmP(f:Fm):f.e.1=f.rv/\f.e.2.1=f.clock/\f.e.2.2.1=f.owner/\f.e.2.2.2.1=f.lost/\P4 f.e=f.regs/\P5 f.e=f.start/\P6 f.e=f.buf/\P7 f.e=f.order/\P8 f.e=f.reads/\Q9 f.e=f.kids.map Kd.e:=⟨rfl,rfl,rfl,rfl,rfl,rfl,rfl,rfl,rfl,rfl⟩
theorem U9e(f:Fm)(k:Nat)(x:Kd):U9 (Xl (f.kids.map Kd.e) k x.e) f.e=Fm.e {f with kids:=f.kids.set k x}:=by
 unfold U9 Fm.e;rw[List.map_set]
theorem WqL{f f':Fm}{k:Nat}{x':Kd}{y:Y_KidRun}{g:Y_Family}(hy:y=x'.e)(hg:g=f'.e)(hf:f'.kids=f.kids):
  some ((U9 (Xl (f.kids.map Kd.e) k y) g,()),())=some (((Fm.put (f',x') k).e,()),()):=by
 subst hy hg;rw[←hf,U9e];rfl
theorem WsC(m:Mm)(f:Fm)(x:Kd)(o:Opn):Wh0 m f.e x.e o=((Wej m f x o).1.e,(Wej m f x o).2.e):=by
 unfold Wh0 Wej;have h1:P8 x.e=x.writes:=rfl;have h2:P6 f.e=f.buf:=rfl;rw[h1,h2];rcases Wbc x.writes o.2.2.1 with _|v
 .rcases ent f.buf o.2.2.1 with _|r
  .have h3:Woy x.e o.2.2.1=if x.busy then x.pb else(o.2.2.1,0,0,0):=by
    unfold Woy;have:P10 x.e=x.busy:=rfl;rw[this];cases x.busy<;>rfl
   simp only[h3];have h4:f.e.1=f.rv:=rfl;rw[h4];generalize WV m f.rv (if x.busy then x.pb else(o.2.2.1,0,0,0))=p;by_cases e4:p.2.1=4
   .have:(p.2.1==4)=true:=by simpa using e4
    rw[if_pos e4,this];rfl
   .have:(p.2.1==4)=false:=by simpa using e4
    rw[if_neg e4,this];by_cases e3:p.2.1=3
    .have:(p.2.1==3)=true:=by simpa using e3
     rw[if_pos e3,this];rfl
    .have:(p.2.1==3)=false:=by simpa using e3
     rw[if_neg e3,this];rfl
  .simp only;have h5:x.e.2.2.1=x.since:=rfl;rw[h5];by_cases hv:r.2.2.2>x.since
   .rw[if_pos hv,decide_eq_true hv];rfl
   .rw[if_neg hv,decide_eq_false hv];rfl
 .rfl
theorem Wqu(m:Mm)(f:Fm)(x:Kd)(o:Opn):(Wej m f x o).1.kids=f.kids:=by
 unfold Wej;cases Wbc x.writes o.2.2.1 with
 |some v=>rfl
 |none=>
  cases ent f.buf o.2.2.1 with
  |some r=>simp only;split<;>rfl
  |none=>
   simp only;generalize WV m f.rv _=p
   repeat' split
   all_goals rfl
variable{N:Nat}{codes:List (List Opn)}{n:Int}{f:Fm}{k:Nat}{code:List Opn}{m:Mm}{x:Kd}
theorem FOk.buf8(h:FOk codes n f):f.buf.length<=8:=by
 have:∀(l:List En) (c:Int),Ris cfE l->(∀e∈l,c<=e.1/\e.1<=7)->(l.length:Int)<=8-c\/l= []:=by
  intro l
  induction l with
  |nil=>intro c _ _;exact .inr rfl
  |cons a l ih=>
   intro c hr hb;left;have h1:=Xac.1 hr;have ha:=hb a (Xi ..);rcases ih (a.1+1) h1.2 (λe he=>⟨by have:=h1.1 e he;unfold cfE at this;omega,(hb e (Xe _ he)).2⟩)with h|h
   .rw[Xu];omega
   .subst h;simp;omega
 rcases this f.buf 0 h.bufR (λe he=>by have:=(h.bufE e he).1;omega)with h|h
 .omega
 .rw[h];simp
theorem Wr4(hF:FOk codes n f)(hx:KOk code f.clock n x)(bb:KC code)(hm:WY m=true)(hn:n<=100000){o:Opn}(hA:Wj o.2.1=true)(hB:W7 o.2.2.1=true):ReadOk m f.e x.e o where
 mem:=hm
 regs:=hx.regs.len
 famr:=hF.regs.len
 rA:=by unfold Wj at hA;simpa using hA
 cB:=hB
 seen:=by have:=hx.sl;have:=hx.pc;have:=bb.len;show x.seen.length<=1000;omega
 wr:=by have:=hx.wl;have:=hx.pc;have:=bb.len;show x.writes.length<=1000;omega
 buf:=by have:=hF.buf8;show f.buf.length<=1000;omega
 ver:=λe he=>(hF.bufE e he).2.2.1
 since:=hx.since.1
 pc:=by have:=hx.pc;have:=bb.len;show 0<=x.pc/\x.pc<=1000;omega
 tries:=by have:=hx.tries;show 0<=x.tries/\x.tries<=100000;omega
 pb:=hx.pb
theorem Wu{α:Type}{a b:Int}{x y:α}:(bif a==b then x else y)=if a=b then x else y:=by
 by_cases h:a=b
 .have:(a==b)=true:=by simpa using h
  rw[this,if_pos h];rfl
 .have:(a==b)=false:=by simpa using h
  rw[this,if_neg h];rfl
theorem War{α:Type}{p:Prop}[Decidable p]{x y:α}:(bif decide p then x else y)=if p then x else y:=by
 by_cases h:p
 .rw[if_pos h,decide_eq_true h];rfl
 .rw[if_neg h,decide_eq_false h];rfl
theorem Wll(bb:KC code)(hx:KOk code f.clock n x)(h0:x.phase=0)(hN:1048576<N):Zhe N x.e code=some (((Wh9 x code).e,()),()):=by
 unfold Zhe Wh9;obtain⟨k0,k1,k2,k3,k4,k5,k6,k7,k8,k9,k10⟩:=kdP x;have aF:=hx.pc;have hlen:=bb.len;have hM:=hx.marks h0;simp only[Wz,k9,k8,k1,Wu];by_cases hz:x.marks.length=0
 .rw[if_pos (by unfold Wb;omega),if_pos hz];rfl
 .rw[if_neg (by unfold Wb;omega),if_neg hz];obtain⟨j,q,y,e1,e2,e3,⟨hj,h8⟩,qo,cL,ge,e5,e6⟩:=Who (d:=((0,0,[]):KM)) bb.toCC (show x.pc.toNat<=code.length by omega) hM.pcs hz;have nE:x.marks.length=q.length+1:=by rw[e1];simp
  have zG:q.length<=24:=by
   have:=congrArg Xa e6;simp only[Xaf]at this;have h2:=WbE bb.up j (by omega);have h3:=(Wdq code j).2;omega
  have i1:W5 .i64 (Wb x.marks) 1=(q.length:Int):=by rw[Wpd (by omega),nE];omega
  have hy:y∈x.marks:=by rw[e1];simp
  obtain⟨y1,y2,y3,y4⟩:=hM.each y hy;have g1:Xc x.marks (Xb (q.length:Int)) ((0,0,[]):KM)=y:=by rw[e1];simp
  have t1:Xas (Xb (q.length:Int)) x.marks=x.marks.dropLast:=by rw[e1];simp
  have qp:=hx.wl;rw[i1,Wac,decide_eq_true (show q.length<x.marks.length by omega)];simp only[cond_true,g1,t1,e2];have b1:((decide ((0:Int)<=(q.length:Int))&&decide ((q.length:Int)<=(x.marks.length:Int)))&&decide ((q.length:Int)<=((Xb (q.length:Int):Nat):Int)))=true:=by
   simp;omega
  rw[b1];simp only[cond_true];rw[Wbt (by rw[y1.len];omega)];simp only[ret,Xd];rw[e3,Wac,decide_eq_true hj];have o1:Xc code (Xb ((j:Nat):Int)) ((0,0,0,0):Opn)=code[j]:=WB hj _;have o2:opN code ((j:Nat):Int)=code[j]:=Wlv hj;have hr:=Ww3 (bb.ok j hj).1 h8;simp only[cond_true,o1,o2];rw[Wa9 hr y1.len];have b2:(decide ((0:Int)<=y.2.1)&&decide (y.2.1<=(x.writes.length:Int)))=true:=by simp;omega
  rw[b2];simp only[cond_true];rw[WdB (by rw[Xap];omega),Wiw (by omega) hN ⟨hj,h8⟩ cL];simp only[ret,Xd];rw[WcG (by have:=cL.len;omega),Xj];rfl
theorem Wof(hk:k<f.kids.length)(hm:WY m=true)(bb:KC code)(hF:FOk codes n f)(aK:codes.getD k []=code)(aD:f.kids[k]=x)(h0:x.phase=0)(hn:n<=100000)(hN:1048576<N):
  Zid N f.e (k:Int) code m=some (((Fm.put (WqK m f x code) k).e,()),()):=by
 have hx:=hF.kid k hk;rw[aK,aD]at hx;obtain⟨k0,k1,k2,k3,k4,k5,k6,k7,k8,k9,k10⟩:=kdP x;obtain⟨f0,f1,f2,f3,f4,f5,f6,f7,f8,f9⟩:=fmP f;have aF:=hx.pc;have hlen:=bb.len;have qp:=hx.wl;have e2:Xc (f.kids.map Kd.e) (Xb (k:Int)) d_KidRun=x.e:=by
  have:=Wgt Kd.e f.kids k {};rw[Wf hk,aD]at this;exact this
 have e3:U9 (Xl (f.kids.map Kd.e) (Xb (k:Int)) x.e) f.e=f.e:=by
  rw[Xj,U9e,←aD,List.set_getElem_self]
 unfold Zid WqK;simp only[Wz,f9,Xaf];rw[Wac,decide_eq_true hk];simp only[cond_true,e2,e3,k1,k6,k8,k9,War,Wu,show Wb code=(code.length:Int)from rfl];by_cases fH:x.pc>=code.length
 .rw[if_pos fH,if_pos fH];rw[Xj];exact WqL rfl rfl rfl
 .rw[if_neg fH,if_neg fH];obtain⟨j,hj,ej,eo⟩:=Wfk (l:=code) aF.1 (by omega);have wC:Xc code (Xb x.pc) ((0,0,0,0):Opn)=opN code x.pc:=rfl;have il:inb x.pc code.length=true:=by rw[ej,Wac];exact decide_eq_true hj
  rw[il];obtain⟨ok,o1,gV⟩:=bb.ok j hj;have bT:=bb.k10 j hj;simp only[cond_true,wC];rw[←eo]at ok o1 bT;generalize opN code x.pc=o at*;have cZ:=hx.regs.len;rw[Xj];rw[WcG (show 0<=x.pc/\x.pc<=1000000 by omega)];by_cases h5:o.1=5
  .rw[if_pos h5,if_pos h5];have:=Wwb ok h5;have lP:=Wr4 hF hx bb hm hn this.1 this.2;have e4:(Q9 f.e)[k]'(by rw[f9];simpa using hk)=x.e:=by
    simp only[f9,List.getElem_map,aD]
   have:=Wmr (m:=m) (o:=o) (f:=f.e) (k:=k) (by rw[f9];simpa using hk) (by rw[e4];exact lP) hN;rw[this];simp only[Xd,e4,WsC];unfold Wxc;have jI:=Wqu m f x o;rw[show Q9 (Wej m f x o).1.e=f.kids.map Kd.e by rw[←jI];rfl];exact WqL rfl rfl jI
  .rw[if_neg h5,if_neg h5];by_cases ci:o.1=10
   .rw[if_pos ci,if_pos ci,Wll bb hx h0 hN];exact WqL rfl rfl rfl
   .rw[if_neg ci,if_neg ci];by_cases h6:o.1=6
    .rw[if_pos h6,if_pos h6];rw[Wa9 (Ww2 ok h6).2 cZ,WC (by simp;omega)];exact WqL rfl rfl rfl
    .rw[if_neg h6,if_neg h6];by_cases h7:o.1=7
     .rw[if_pos h7,if_pos h7];have h:=Wv8 ok h7;rw[Wa9 h.1 cZ,Ww (a:=x.pc) (b:=o.2.2.1) (by unfold I64;omega),WcG (a:=x.pc+o.2.2.1) (by omega)];by_cases hg:Xc x.regs (Xb o.2.1) 0=0
      .rw[if_pos hg,if_pos (show Wbi x.regs o.2.1 0=0 from hg)];simp only[cond_true];exact WqL rfl rfl rfl
      .rw[if_neg hg,if_neg (show¬Wbi x.regs o.2.1 0=0 from hg)];simp only[cond_true];exact WqL rfl rfl rfl
     .rw[if_neg h7,if_neg h7];by_cases h8:o.1=8
      .rw[if_pos h8,if_pos h8];rw[Wbt (by omega)];have qQ:x.marks.length<=24:=by
        have:=congrArg Xa (hx.marks h0).pcs;simp only[Xaf]at this;have h2:=WbE bb.up x.pc.toNat (by omega);have h3:=(Wdq code x.pc.toNat).2;omega
       simp only[ret,Xd];rw[WC (by simp;omega)];exact WqL rfl rfl rfl
      .rw[if_neg h8,if_neg h8];by_cases h9:o.1=9
       .rw[if_pos h9,if_pos h9];have hM:=hx.marks h0;have hz:x.marks.length≠0:=by
         intro hz;have h1:=congrArg Xa hM.pcs;simp only[Xaf,hz]at h1;have h2:=WbE bb.up j (by omega);have h3:=bb.up j hj;rw[WaG hj,Wk3 (by rw[←eo];exact h9)]at h3;rw[ej,Xj]at h1;omega
        obtain⟨i,q,y,e1,jw,uv,⟨hi,zH⟩,qo,cL,ge,e5,e6⟩:=Who (d:=((0,0,[]):KM)) bb.toCC (show x.pc.toNat<=code.length by omega) hM.pcs hz;have nE:x.marks.length=q.length+1:=by rw[e1];simp
        have qQ:x.marks.length<=24:=by
         have:=congrArg Xa (hx.marks h0).pcs;simp only[Xaf]at this;have h2:=WbE bb.up x.pc.toNat (by omega);have h3:=(Wdq code x.pc.toNat).2;omega
        have i1:W5 .i64 (Wb x.marks) 1=(q.length:Int):=by rw[Wpd (by omega),nE];omega
        have g1:Xc x.marks (Xb (q.length:Int)) ((0,0,[]):KM)=y:=by rw[e1];simp
        have t1:Xas (Xb (q.length:Int)) x.marks=x.marks.dropLast:=by rw[e1];simp
        rw[i1,Wac,decide_eq_true (show q.length<x.marks.length by omega)];have b1:(decide ((0:Int)<=(q.length:Int))&&decide ((q.length:Int)<=(x.marks.length:Int)))=true:=by simp;omega
        rw[b1];simp only[cond_true,g1,t1,jw];rw[uv,Wac,decide_eq_true hi];have o1:Xc code (Xb ((i:Nat):Int)) ((0,0,0,0):Opn)=opN code (i:Int):=rfl;have hr:=Ww3 (bb.ok i hi).1 zH;rw[←Wlv hi]at hr;simp only[cond_true,o1];rw[Wa9 hr cZ];exact WqL rfl rfl rfl
       .rw[if_neg h9,if_neg h9];rw[WhA hN ok (by omega) (by omega) hx.regs];exact WqL rfl rfl rfl
end
end Go.Sx
