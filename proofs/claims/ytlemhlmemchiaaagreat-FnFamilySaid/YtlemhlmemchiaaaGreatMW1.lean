/- Plain laws of the Lean functions. -/
import Derived.Test.YtlemhlmemchiaaaGreatT
open Option renaming bind_some→Xd
open Nat renaming le_refl→Xl,add_assoc→Xan,add_comm→Xcj,zero_add→Xbd,le_trans→Xck,add_zero→Xat
open List renaming mem_cons_self→Xh,mem_cons_of_mem→Xe,length_cons→Xt,take_succ_eq_append_getElem→Xbg,map_append→Xn,getD→Xc,take_of_length_le→Xbr,length→Xa,length_append→Xs,length_dropLast→Xer,append_inj'→Xej,eq_nil_of_length_eq_zero→Xx,dropLast_concat→Xdw,append→Xf,all_eq_true→Xai,mem_cons→Xm,getElem_mem→Xac,getD_eq_getElem?_getD→Xv,getElem?_eq_none→Xbf,length_set→Xad,mem_or_eq_of_mem_set→Xdi,set_set→Xdq,set→Xo,pairwise_cons→Xy,mergeSort_perm→Xgb,getElem_of_mem→Xdl,pairwise_iff_getElem→Xde,getElem_set→Xbi,mem_iff_getElem→Xdh,pairwise_append→Xaa,pairwise_singleton→Xba,mem_singleton→Xab,mem_append→Xk,range→Xdf,map_cons→Xaj,map_nil→Xbh,range'→Xgk,mem_range'_1→Xgj,length_map→Xz,take→Xbs,length_take→Xau
open Bool renaming false_or→Xcl,or_eq_true→Xch,and_eq_true→Xi,not_eq_true'→Xam,not_eq_true→Xfj,not_true→Xah,toNat_false→Xdk,false_and→Xcv,true_and→Xca,toNat_true→Xgu,eq_false_iff→Xdd,or_eq_false_iff→Xcd,not_eq_false'→Xdo
open Int renaming toNat_natCast→Xp,toNat→Xb,add_zero→Xfm,le_refl→Xco
namespace Go.Sx
set_option linter.unusedVariables false
set_option linter.unusedSimpArgs false
section
def WaH(v:Int):Bool:=decide (0<=v)&&decide (v<=65535)
theorem Wb8{N:Nat}{x a b:Int}:Zad N x a b=ret (decide (a<=x)&&decide (x<=b)):=by
 unfold Zad;by_cases h:a<=x<;>simp[h]
theorem Wp{N:Nat}{x a b:Int}:Zr N x a b=ret (decide (a<=x)&&decide (x<=b)):=by
 unfold Zr;by_cases h:a<=x<;>simp[h]
theorem Wdc{α:Type}{p:α->Bool}(l:List α):(l.any λx=>!p x)= !l.all p:=by
 induction l with
 |nil=>rfl
 |cons x l ih=>simp[ih,Bool.not_and]
abbrev Rw:=Int×Int
def WO(v:Int):Bool:=decide (0<=v)&&decide (v<=7)
def Wgm(r:Rw):Bool:=WO r.1&&WaH r.2
def Wa1(l:List Rw):Bool:=decide (l.length<=300)&&l.all Wgm
def WbS(l:List Int):Bool:=decide (l.length=8)&&l.all WaH
theorem Wx{N:Nat}{v:Int}:Zc6 N v=ret (WaH v):=by
 unfold Zc6;simp only[Wb8,ret,Xd];rfl
theorem Wo{N:Nat}{v:Int}:Zbg N v=ret (WaH v):=by
 unfold Zbg;simp only[Wp,ret,Xd];rfl
theorem Wv{N:Nat}{v:Int}:Zat N v=ret (WO v):=by
 unfold Zat;simp only[Wb8,ret,Xd];rfl
theorem Wn{N:Nat}{v:Int}:Zae N v=ret (WO v):=by
 unfold Zae;simp only[Wp,ret,Xd];rfl
theorem Wbv{N:Nat}{l:List Int}(hl:l.length<=1048576)(hN:1048576<N):Zbb N l=ret (WbS l):=by
 unfold Zbb WbS;by_cases h:l.length=8
 .have e:(We l !=8)=false:=by simp[We,h]
  rw[e];simp only[cond_false];have h1:=WG (l:=l) (V:=Unit) (R:=Unit×Km) (lp:=λn j v=>Zbl N l (some ((),(false,()))) (λi8 t9=>some ((),(true,()))) n j) (n:=N) (by omega)
   (body:=λj x v k=>bif !WaH x then some ((),(false,()))else k v) (K:=λ_ v=>some ((),(true,())))
   (λn i v hi=>by simp only[Zbl,Waa hi,Wt hi,Wz hi,Wj (show i<4611686018427387904 by omega),cond_true,Wx,ret,Xd])
   (λn v=>by simp only[Zbl,Was (Xl l.length),cond_false]) ()
  refine h1.trans ?_;rw[Way (p:=λx=>!WaH x) (E:=λ_=>some ((),(false,()))) l 0 () (λj x v k _=>rfl),Wdc];cases l.all WaH<;>simp[h]
 .have e:(We l !=8)=true:=by simp[We];omega
  rw[e];simp[h]
theorem Wb4{N:Nat}{l:List Int}(hl:l.length<=1048576)(hN:1048576<N):Zq N l 8=ret (WbS l):=by
 unfold Zq WbS;have h1:=WG (l:=l) (V:=Unit) (R:=Unit×Km) (lp:=λn j v=>Z1 N l 8 (some ((),(false,()))) (λi8 t9=>some ((),((We l)==(8:Int),()))) n j) (n:=N) (by omega)
  (body:=λj x v k=>bif !WaH x then some ((),(false,()))else k v) (K:=λ_ v=>some ((),((We l)==(8:Int),())))
  (λn i v hi=>by simp only[Z1,Waa hi,Wt hi,Wz hi,Wj (show i<4611686018427387904 by omega),cond_true,Wo,ret,Xd])
  (λn v=>by simp only[Z1,Was (Xl l.length),cond_false]) ()
 refine h1.trans ?_;rw[Way (p:=λx=>!WaH x) (E:=λ_=>some ((),(false,()))) l 0 () (λj x v k _=>rfl),Wdc];have e:((We l)==(8:Int))=decide (l.length=8):=by
  by_cases h:l.length=8
  .simp[We,h]
  .simp[We,h];omega
 rw[e];cases l.all WaH<;>simp
theorem Wbq{N:Nat}{l:List Rw}(hl:l.length<=1048576)(hN:1048576<N):Zbc N l=ret (Wa1 l):=by
 unfold Zbc Wa1;by_cases h:l.length<=300
 .have e:decide (We l>300)=false:=by simp[We];omega
  rw[e];simp only[cond_false];have h1:=WG (l:=l) (V:=Unit) (R:=Unit×Km) (lp:=λn j v=>Zbn N l (some ((),(false,()))) (λi8 t9=>some ((),(true,()))) n j) (n:=N) (by omega)
   (body:=λj x v k=>bif !Wgm x then some ((),(false,()))else k v) (K:=λ_ v=>some ((),(true,())))
   (λn i v hi=>by
    simp only[Zbn,Waa hi,Wt hi,Wz hi,Wj (show i<4611686018427387904 by omega),cond_true,Wx,Wv,ret,Xd,Wgm];cases WO l[i].1<;>rfl)
   (λn v=>by simp only[Zbn,Was (Xl l.length),cond_false]) ()
  refine h1.trans ?_;rw[Way (p:=λx=>!Wgm x) (E:=λ_=>some ((),(false,()))) l 0 () (λj x v k _=>rfl),Wdc];cases l.all Wgm<;>simp[h]
 .have e:decide (We l>300)=true:=by simp[We];omega
  rw[e];simp[h]
theorem Wa3{N:Nat}{l:List Rw}(hl:l.length<=1048576)(hN:1048576<N):Zau N l=ret (Wa1 l):=by
 unfold Zau Wa1;have h1:=WG (l:=l) (V:=Unit) (R:=Unit×Km) (lp:=λn j v=>Zbp N l (some ((),(false,()))) (λi8 t9=>some ((),(decide ((We l)<=(300:Int)),()))) n j) (n:=N) (by omega)
  (body:=λj x v k=>bif !Wgm x then some ((),(false,()))else k v) (K:=λ_ v=>some ((),(decide ((We l)<=(300:Int)),())))
  (λn i v hi=>by
   simp only[Zbp,Waa hi,Wt hi,Wz hi,Wj (show i<4611686018427387904 by omega),cond_true,Wo,Wn,ret,Xd,Wgm];cases WO l[i].1<;>rfl)
  (λn v=>by simp only[Zbp,Was (Xl l.length),cond_false]) ()
 refine h1.trans ?_;rw[Way (p:=λx=>!Wgm x) (E:=λ_=>some ((),(false,()))) l 0 () (λj x v k _=>rfl),Wdc];have e:decide (We l<=300)=decide (l.length<=300):=by apply decide_eq_decide.2;simp[We];omega
 rw[e];cases l.all Wgm<;>simp
end
section
abbrev Opn:=Int×Int×Int×Int
def Wg(v:Int):Bool:=decide (0<=v)&&decide (v<=3)
def Wdf(v:Int):Bool:=decide (0<=v)&&decide (v<=7)
theorem WD{N:Nat}{v:Int}:Zk N v=ret (Wg v):=by
 unfold Zk;simp only[Wb8,ret,Xd];rfl
theorem WC{N:Nat}{v:Int}:Zl N v=ret (Wg v):=by
 unfold Zl;simp only[Wp,ret,Xd];rfl
theorem WF{N:Nat}{v:Int}:Zcj N v=ret (Wdf v):=by
 unfold Zcj;simp only[Wp,ret,Xd];rfl
theorem WaK{v:Int}:(decide ((0:Int)<=v)&&decide (v<=7))=Wdf v:=rfl
def W3(o:Opn):Bool:=
 bif o.1==1 then Wg o.2.1&&WaH o.2.2.1&&(o.2.2.2==(0:Int))else
 bif o.1==2 then Wg o.2.1&&Wg o.2.2.1&&Wg o.2.2.2 else
 bif o.1==3 then Wg o.2.1&&Wg o.2.2.1&&Wg o.2.2.2 else
 bif o.1==4 then Wg o.2.1&&Wg o.2.2.1&&Wg o.2.2.2 else
 bif o.1==5 then Wg o.2.1&&WO o.2.2.1&&(o.2.2.2==(0:Int))else
 bif o.1==6 then WO o.2.1&&Wg o.2.2.1&&(o.2.2.2==(0:Int))else
 bif o.1==7 then Wg o.2.1&&(decide (1<=o.2.2.1)&&decide (o.2.2.1<=20))&&(o.2.2.2==(0:Int))else
 bif o.1==8 then Wg o.2.1&&(o.2.2.1==(0:Int))&&(o.2.2.2==(0:Int))else
 bif o.1==9 then(o.2.1==(0:Int))&&(o.2.2.1==(0:Int))&&(o.2.2.2==(0:Int))else
 bif o.1==10 then(o.2.1==(0:Int))&&(o.2.2.1==(0:Int))&&(o.2.2.2==(0:Int))else
 bif o.1==11 then(o.2.1==(0:Int))&&(o.2.2.1==(0:Int))&&(o.2.2.2==(0:Int))else
 bif o.1==12 then Wdf o.2.1&&Wg o.2.2.1&&Wg o.2.2.2 else
 bif o.1==13 then Wg o.2.1&&Wdf o.2.2.1&&(o.2.2.2==(0:Int))else
 bif o.1==14 then Wdf o.2.1&&Wg o.2.2.1&&(o.2.2.2==(0:Int))else
 bif o.1==15 then Wg o.2.1&&(o.2.2.1==(0:Int))&&(o.2.2.2==(0:Int))else
 bif o.1==16 then Wg o.2.1&&(o.2.2.1==(0:Int))&&(o.2.2.2==(0:Int))else
 false
theorem WoY{N:Nat}{a b c:Int}:Zi N (1,a,b,c)=ret (W3 (1,a,b,c)):=by
 have h:Zi N (1,a,b,c)=((Zk N a).bind λo=>bif o.2.1 then((Zc6 N b).bind λo=>bif o.2.1 then some ((),(c==(0:Int),()))else some ((),(false,())))else some ((),(false,()))):=by kernel_rfl
 have h2:W3 (1,a,b,c)=(Wg a&&WaH b&&(c==(0:Int))):=rfl;rw[h,h2];simp only[WD,Wx,Wv,Wb8,WaK,ret,Xd];cases Wg a<;>cases WaH b<;>rfl
theorem Woq{N:Nat}{a b c:Int}:Zi N (2,a,b,c)=ret (W3 (2,a,b,c)):=by
 have h:Zi N (2,a,b,c)=((Zk N a).bind λo=>bif o.2.1 then((Zk N b).bind λo=>bif o.2.1 then((Zk N c).bind λo=>some ((),(o.2.1,())))else some ((),(false,())))else some ((),(false,()))):=by kernel_rfl
 have h2:W3 (2,a,b,c)=(Wg a&&Wg b&&Wg c):=rfl;rw[h,h2];simp only[WD,Wx,Wv,Wb8,WaK,ret,Xd];cases Wg a<;>cases Wg b<;>rfl
theorem Wot{N:Nat}{a b c:Int}:Zi N (3,a,b,c)=ret (W3 (3,a,b,c)):=by
 have h:Zi N (3,a,b,c)=((Zk N a).bind λo=>bif o.2.1 then((Zk N b).bind λo=>bif o.2.1 then((Zk N c).bind λo=>some ((),(o.2.1,())))else some ((),(false,())))else some ((),(false,()))):=by kernel_rfl
 have h2:W3 (3,a,b,c)=(Wg a&&Wg b&&Wg c):=rfl;rw[h,h2];simp only[WD,Wx,Wv,Wb8,WaK,ret,Xd];cases Wg a<;>cases Wg b<;>rfl
theorem Wos{N:Nat}{a b c:Int}:Zi N (4,a,b,c)=ret (W3 (4,a,b,c)):=by
 have h:Zi N (4,a,b,c)=((Zk N a).bind λo=>bif o.2.1 then((Zk N b).bind λo=>bif o.2.1 then((Zk N c).bind λo=>some ((),(o.2.1,())))else some ((),(false,())))else some ((),(false,()))):=by kernel_rfl
 have h2:W3 (4,a,b,c)=(Wg a&&Wg b&&Wg c):=rfl;rw[h,h2];simp only[WD,Wx,Wv,Wb8,WaK,ret,Xd];cases Wg a<;>cases Wg b<;>rfl
theorem WoZ{N:Nat}{a b c:Int}:Zi N (5,a,b,c)=ret (W3 (5,a,b,c)):=by
 have h:Zi N (5,a,b,c)=((Zk N a).bind λo=>bif o.2.1 then((Zat N b).bind λo=>bif o.2.1 then some ((),(c==(0:Int),()))else some ((),(false,())))else some ((),(false,()))):=by kernel_rfl
 have h2:W3 (5,a,b,c)=(Wg a&&WO b&&(c==(0:Int))):=rfl;rw[h,h2];simp only[WD,Wx,Wv,Wb8,WaK,ret,Xd];cases Wg a<;>cases WO b<;>rfl
theorem Wo1{N:Nat}{a b c:Int}:Zi N (6,a,b,c)=ret (W3 (6,a,b,c)):=by
 have h:Zi N (6,a,b,c)=((Zat N a).bind λo=>bif o.2.1 then((Zk N b).bind λo=>bif o.2.1 then some ((),(c==(0:Int),()))else some ((),(false,())))else some ((),(false,()))):=by kernel_rfl
 have h2:W3 (6,a,b,c)=(WO a&&Wg b&&(c==(0:Int))):=rfl;rw[h,h2];simp only[WD,Wx,Wv,Wb8,WaK,ret,Xd];cases WO a<;>cases Wg b<;>rfl
theorem WoE{N:Nat}{a b c:Int}:Zi N (7,a,b,c)=ret (W3 (7,a,b,c)):=by
 have h:Zi N (7,a,b,c)=((Zk N a).bind λo=>bif o.2.1 then((Zad N b 1 20).bind λo=>bif o.2.1 then some ((),(c==(0:Int),()))else some ((),(false,())))else some ((),(false,()))):=by kernel_rfl
 have h2:W3 (7,a,b,c)=(Wg a&&(decide (1<=b)&&decide (b<=20))&&(c==(0:Int))):=rfl;rw[h,h2];simp only[WD,Wx,Wv,Wb8,WaK,ret,Xd];cases Wg a<;>cases(decide (1<=b)&&decide (b<=20))<;>rfl
theorem Woj{N:Nat}{a b c:Int}:Zi N (8,a,b,c)=ret (W3 (8,a,b,c)):=by
 have h:Zi N (8,a,b,c)=((Zk N a).bind λo=>bif o.2.1 then(bif b==(0:Int)then some ((),(c==(0:Int),()))else some ((),(false,())))else some ((),(false,()))):=by kernel_rfl
 have h2:W3 (8,a,b,c)=(Wg a&&(b==(0:Int))&&(c==(0:Int))):=rfl;rw[h,h2];simp only[WD,Wx,Wv,Wb8,WaK,ret,Xd];cases Wg a<;>cases(b==(0:Int))<;>rfl
theorem Wo2{N:Nat}{a b c:Int}:Zi N (9,a,b,c)=ret (W3 (9,a,b,c)):=by
 have h:Zi N (9,a,b,c)=(bif a==(0:Int)then(bif b==(0:Int)then some ((),(c==(0:Int),()))else some ((),(false,())))else some ((),(false,()))):=by kernel_rfl
 have h2:W3 (9,a,b,c)=((a==(0:Int))&&(b==(0:Int))&&(c==(0:Int))):=rfl;rw[h,h2];simp only[WD,Wx,Wv,Wb8,WaK,ret,Xd];cases(a==(0:Int))<;>cases(b==(0:Int))<;>rfl
theorem Wnv{N:Nat}{a b c:Int}:Zi N (10,a,b,c)=ret (W3 (10,a,b,c)):=by
 have h:Zi N (10,a,b,c)=(bif a==(0:Int)then(bif b==(0:Int)then some ((),(c==(0:Int),()))else some ((),(false,())))else some ((),(false,()))):=by kernel_rfl
 have h2:W3 (10,a,b,c)=((a==(0:Int))&&(b==(0:Int))&&(c==(0:Int))):=rfl;rw[h,h2];simp only[WD,Wx,Wv,Wb8,WaK,ret,Xd];cases(a==(0:Int))<;>cases(b==(0:Int))<;>rfl
theorem WmY{N:Nat}{a b c:Int}:Zi N (11,a,b,c)=ret (W3 (11,a,b,c)):=by
 have h:Zi N (11,a,b,c)=(bif a==(0:Int)then(bif b==(0:Int)then some ((),(c==(0:Int),()))else some ((),(false,())))else some ((),(false,()))):=by kernel_rfl
 have h2:W3 (11,a,b,c)=((a==(0:Int))&&(b==(0:Int))&&(c==(0:Int))):=rfl;rw[h,h2];simp only[WD,Wx,Wv,Wb8,WaK,ret,Xd];cases(a==(0:Int))<;>cases(b==(0:Int))<;>rfl
theorem WnW{N:Nat}{a b c:Int}:Zi N (12,a,b,c)=ret (W3 (12,a,b,c)):=by
 have h:Zi N (12,a,b,c)=((Zad N a 0 7).bind λo=>bif o.2.1 then((Zk N b).bind λo=>bif o.2.1 then((Zk N c).bind λo=>some ((),(o.2.1,())))else some ((),(false,())))else some ((),(false,()))):=by kernel_rfl
 have h2:W3 (12,a,b,c)=(Wdf a&&Wg b&&Wg c):=rfl;rw[h,h2];simp only[WD,Wx,Wv,Wb8,WaK,ret,Xd];cases Wdf a<;>cases Wg b<;>rfl
theorem WnT{N:Nat}{a b c:Int}:Zi N (13,a,b,c)=ret (W3 (13,a,b,c)):=by
 have h:Zi N (13,a,b,c)=((Zk N a).bind λo=>bif o.2.1 then((Zad N b 0 7).bind λo=>bif o.2.1 then some ((),(c==(0:Int),()))else some ((),(false,())))else some ((),(false,()))):=by kernel_rfl
 have h2:W3 (13,a,b,c)=(Wg a&&Wdf b&&(c==(0:Int))):=rfl;rw[h,h2];simp only[WD,Wx,Wv,Wb8,WaK,ret,Xd];cases Wg a<;>cases Wdf b<;>rfl
theorem Wni{N:Nat}{a b c:Int}:Zi N (14,a,b,c)=ret (W3 (14,a,b,c)):=by
 have h:Zi N (14,a,b,c)=((Zad N a 0 7).bind λo=>bif o.2.1 then((Zk N b).bind λo=>bif o.2.1 then some ((),(c==(0:Int),()))else some ((),(false,())))else some ((),(false,()))):=by kernel_rfl
 have h2:W3 (14,a,b,c)=(Wdf a&&Wg b&&(c==(0:Int))):=rfl;rw[h,h2];simp only[WD,Wx,Wv,Wb8,WaK,ret,Xd];cases Wdf a<;>cases Wg b<;>rfl
theorem WnC{N:Nat}{a b c:Int}:Zi N (15,a,b,c)=ret (W3 (15,a,b,c)):=by
 have h:Zi N (15,a,b,c)=((Zk N a).bind λo=>bif o.2.1 then(bif b==(0:Int)then some ((),(c==(0:Int),()))else some ((),(false,())))else some ((),(false,()))):=by kernel_rfl
 have h2:W3 (15,a,b,c)=(Wg a&&(b==(0:Int))&&(c==(0:Int))):=rfl;rw[h,h2];simp only[WD,Wx,Wv,Wb8,WaK,ret,Xd];cases Wg a<;>cases(b==(0:Int))<;>rfl
theorem Wmu{N:Nat}{a b c:Int}:Zi N (16,a,b,c)=ret (W3 (16,a,b,c)):=by
 have h:Zi N (16,a,b,c)=((Zk N a).bind λo=>bif o.2.1 then(bif b==(0:Int)then some ((),(c==(0:Int),()))else some ((),(false,())))else some ((),(false,()))):=by kernel_rfl
 have h2:W3 (16,a,b,c)=(Wg a&&(b==(0:Int))&&(c==(0:Int))):=rfl;rw[h,h2];simp only[WD,Wx,Wv,Wb8,WaK,ret,Xd];cases Wg a<;>cases(b==(0:Int))<;>rfl
theorem Wbf{N:Nat}{o:Opn}:Zi N o=ret (W3 o):=by
 obtain⟨k,a,b,c⟩:=o;by_cases h1:k=1
 .subst h1;exact WoY
 by_cases h2:k=2
 .subst h2;exact Woq
 by_cases h3:k=3
 .subst h3;exact Wot
 by_cases h4:k=4
 .subst h4;exact Wos
 by_cases h5:k=5
 .subst h5;exact WoZ
 by_cases h6:k=6
 .subst h6;exact Wo1
 by_cases h7:k=7
 .subst h7;exact WoE
 by_cases h8:k=8
 .subst h8;exact Woj
 by_cases h9:k=9
 .subst h9;exact Wo2
 by_cases bq:k=10
 .subst bq;exact Wnv
 by_cases fb:k=11
 .subst fb;exact WmY
 by_cases lQ:k=12
 .subst lQ;exact WnW
 by_cases kE:k=13
 .subst kE;exact WnT
 by_cases jV:k=14
 .subst jV;exact Wni
 by_cases jW:k=15
 .subst jW;exact WnC
 by_cases gZ:k=16
 .subst gZ;exact Wmu
 have e1:(k==(1:Int))=false:=by simpa using h1
 have e2:(k==(2:Int))=false:=by simpa using h2
 have e3:(k==(3:Int))=false:=by simpa using h3
 have e4:(k==(4:Int))=false:=by simpa using h4
 have e5:(k==(5:Int))=false:=by simpa using h5
 have e6:(k==(6:Int))=false:=by simpa using h6
 have e7:(k==(7:Int))=false:=by simpa using h7
 have e8:(k==(8:Int))=false:=by simpa using h8
 have e9:(k==(9:Int))=false:=by simpa using h9
 have rj:(k==(10:Int))=false:=by simpa using bq
 have rk:(k==(11:Int))=false:=by simpa using fb
 have rl:(k==(12:Int))=false:=by simpa using lQ
 have rn:(k==(13:Int))=false:=by simpa using kE
 have rq:(k==(14:Int))=false:=by simpa using jV
 have rr:(k==(15:Int))=false:=by simpa using jW
 have rt:(k==(16:Int))=false:=by simpa using gZ
 unfold Zi W3;simp only[];rw[e1,e2,e3,e4,e5,e6,e7,e8,e9,rj,rk,rl,rn,rq,rr,rt];rfl
theorem WoR{N:Nat}{a b c:Int}:Zj N (1,a,b,c)=ret (W3 (1,a,b,c)):=by
 have h:Zj N (1,a,b,c)=((Zl N a).bind λo=>bif o.2.1 then((Zbg N b).bind λo=>bif o.2.1 then some ((),(c==(0:Int),()))else some ((),(false,())))else some ((),(false,()))):=by kernel_rfl
 have h2:W3 (1,a,b,c)=(Wg a&&WaH b&&(c==(0:Int))):=rfl;rw[h,h2];simp only[WC,Wo,Wn,WF,Wp,WaK,ret,Xd];cases Wg a<;>cases WaH b<;>rfl
theorem WoA{N:Nat}{a b c:Int}:Zj N (2,a,b,c)=ret (W3 (2,a,b,c)):=by
 have h:Zj N (2,a,b,c)=((Zl N a).bind λo=>bif o.2.1 then((Zl N b).bind λo=>bif o.2.1 then((Zl N c).bind λo=>some ((),(o.2.1,())))else some ((),(false,())))else some ((),(false,()))):=by kernel_rfl
 have h2:W3 (2,a,b,c)=(Wg a&&Wg b&&Wg c):=rfl;rw[h,h2];simp only[WC,Wo,Wn,WF,Wp,WaK,ret,Xd];cases Wg a<;>cases Wg b<;>rfl
theorem Wow{N:Nat}{a b c:Int}:Zj N (3,a,b,c)=ret (W3 (3,a,b,c)):=by
 have h:Zj N (3,a,b,c)=((Zl N a).bind λo=>bif o.2.1 then((Zl N b).bind λo=>bif o.2.1 then((Zl N c).bind λo=>some ((),(o.2.1,())))else some ((),(false,())))else some ((),(false,()))):=by kernel_rfl
 have h2:W3 (3,a,b,c)=(Wg a&&Wg b&&Wg c):=rfl;rw[h,h2];simp only[WC,Wo,Wn,WF,Wp,WaK,ret,Xd];cases Wg a<;>cases Wg b<;>rfl
theorem WoJ{N:Nat}{a b c:Int}:Zj N (4,a,b,c)=ret (W3 (4,a,b,c)):=by
 have h:Zj N (4,a,b,c)=((Zl N a).bind λo=>bif o.2.1 then((Zl N b).bind λo=>bif o.2.1 then((Zl N c).bind λo=>some ((),(o.2.1,())))else some ((),(false,())))else some ((),(false,()))):=by kernel_rfl
 have h2:W3 (4,a,b,c)=(Wg a&&Wg b&&Wg c):=rfl;rw[h,h2];simp only[WC,Wo,Wn,WF,Wp,WaK,ret,Xd];cases Wg a<;>cases Wg b<;>rfl
theorem Woo{N:Nat}{a b c:Int}:Zj N (5,a,b,c)=ret (W3 (5,a,b,c)):=by
 have h:Zj N (5,a,b,c)=((Zl N a).bind λo=>bif o.2.1 then((Zae N b).bind λo=>bif o.2.1 then some ((),(c==(0:Int),()))else some ((),(false,())))else some ((),(false,()))):=by kernel_rfl
 have h2:W3 (5,a,b,c)=(Wg a&&WO b&&(c==(0:Int))):=rfl;rw[h,h2];simp only[WC,Wo,Wn,WF,Wp,WaK,ret,Xd];cases Wg a<;>cases WO b<;>rfl
theorem Wpk{N:Nat}{a b c:Int}:Zj N (6,a,b,c)=ret (W3 (6,a,b,c)):=by
 have h:Zj N (6,a,b,c)=((Zae N a).bind λo=>bif o.2.1 then((Zl N b).bind λo=>bif o.2.1 then some ((),(c==(0:Int),()))else some ((),(false,())))else some ((),(false,()))):=by kernel_rfl
 have h2:W3 (6,a,b,c)=(WO a&&Wg b&&(c==(0:Int))):=rfl;rw[h,h2];simp only[WC,Wo,Wn,WF,Wp,WaK,ret,Xd];cases WO a<;>cases Wg b<;>rfl
theorem WoC{N:Nat}{a b c:Int}:Zj N (7,a,b,c)=ret (W3 (7,a,b,c)):=by
 have h:Zj N (7,a,b,c)=((Zl N a).bind λo=>bif o.2.1 then((Zr N b 1 20).bind λo=>bif o.2.1 then some ((),(c==(0:Int),()))else some ((),(false,())))else some ((),(false,()))):=by kernel_rfl
 have h2:W3 (7,a,b,c)=(Wg a&&(decide (1<=b)&&decide (b<=20))&&(c==(0:Int))):=rfl;rw[h,h2];simp only[WC,Wo,Wn,WF,Wp,WaK,ret,Xd];cases Wg a<;>cases(decide (1<=b)&&decide (b<=20))<;>rfl
theorem WoP{N:Nat}{a b c:Int}:Zj N (8,a,b,c)=ret (W3 (8,a,b,c)):=by
 have h:Zj N (8,a,b,c)=((Zl N a).bind λo=>bif o.2.1 then(bif b==(0:Int)then some ((),(c==(0:Int),()))else some ((),(false,())))else some ((),(false,()))):=by kernel_rfl
 have h2:W3 (8,a,b,c)=(Wg a&&(b==(0:Int))&&(c==(0:Int))):=rfl;rw[h,h2];simp only[WC,Wo,Wn,WF,Wp,WaK,ret,Xd];cases Wg a<;>cases(b==(0:Int))<;>rfl
theorem WoX{N:Nat}{a b c:Int}:Zj N (9,a,b,c)=ret (W3 (9,a,b,c)):=by
 have h:Zj N (9,a,b,c)=(bif a==(0:Int)then(bif b==(0:Int)then some ((),(c==(0:Int),()))else some ((),(false,())))else some ((),(false,()))):=by kernel_rfl
 have h2:W3 (9,a,b,c)=((a==(0:Int))&&(b==(0:Int))&&(c==(0:Int))):=rfl;rw[h,h2];simp only[WC,Wo,Wn,WF,Wp,WaK,ret,Xd];cases(a==(0:Int))<;>cases(b==(0:Int))<;>rfl
theorem Wog{N:Nat}{a b c:Int}:Zj N (10,a,b,c)=ret (W3 (10,a,b,c)):=by
 have h:Zj N (10,a,b,c)=(bif a==(0:Int)then(bif b==(0:Int)then some ((),(c==(0:Int),()))else some ((),(false,())))else some ((),(false,()))):=by kernel_rfl
 have h2:W3 (10,a,b,c)=((a==(0:Int))&&(b==(0:Int))&&(c==(0:Int))):=rfl;rw[h,h2];simp only[WC,Wo,Wn,WF,Wp,WaK,ret,Xd];cases(a==(0:Int))<;>cases(b==(0:Int))<;>rfl
theorem Woa{N:Nat}{a b c:Int}:Zj N (11,a,b,c)=ret (W3 (11,a,b,c)):=by
 have h:Zj N (11,a,b,c)=(bif a==(0:Int)then(bif b==(0:Int)then some ((),(c==(0:Int),()))else some ((),(false,())))else some ((),(false,()))):=by kernel_rfl
 have h2:W3 (11,a,b,c)=((a==(0:Int))&&(b==(0:Int))&&(c==(0:Int))):=rfl;rw[h,h2];simp only[WC,Wo,Wn,WF,Wp,WaK,ret,Xd];cases(a==(0:Int))<;>cases(b==(0:Int))<;>rfl
theorem WmO{N:Nat}{a b c:Int}:Zj N (12,a,b,c)=ret (W3 (12,a,b,c)):=by
 have h:Zj N (12,a,b,c)=((Zcj N a).bind λo=>bif o.2.1 then((Zl N b).bind λo=>bif o.2.1 then((Zl N c).bind λo=>some ((),(o.2.1,())))else some ((),(false,())))else some ((),(false,()))):=by kernel_rfl
 have h2:W3 (12,a,b,c)=(Wdf a&&Wg b&&Wg c):=rfl;rw[h,h2];simp only[WC,Wo,Wn,WF,Wp,WaK,ret,Xd];cases Wdf a<;>cases Wg b<;>rfl
theorem WmF{N:Nat}{a b c:Int}:Zj N (13,a,b,c)=ret (W3 (13,a,b,c)):=by
 have h:Zj N (13,a,b,c)=((Zl N a).bind λo=>bif o.2.1 then((Zcj N b).bind λo=>bif o.2.1 then some ((),(c==(0:Int),()))else some ((),(false,())))else some ((),(false,()))):=by kernel_rfl
 have h2:W3 (13,a,b,c)=(Wg a&&Wdf b&&(c==(0:Int))):=rfl;rw[h,h2];simp only[WC,Wo,Wn,WF,Wp,WaK,ret,Xd];cases Wg a<;>cases Wdf b<;>rfl
theorem Wnk{N:Nat}{a b c:Int}:Zj N (14,a,b,c)=ret (W3 (14,a,b,c)):=by
 have h:Zj N (14,a,b,c)=((Zcj N a).bind λo=>bif o.2.1 then((Zl N b).bind λo=>bif o.2.1 then some ((),(c==(0:Int),()))else some ((),(false,())))else some ((),(false,()))):=by kernel_rfl
 have h2:W3 (14,a,b,c)=(Wdf a&&Wg b&&(c==(0:Int))):=rfl;rw[h,h2];simp only[WC,Wo,Wn,WF,Wp,WaK,ret,Xd];cases Wdf a<;>cases Wg b<;>rfl
theorem Wms{N:Nat}{a b c:Int}:Zj N (15,a,b,c)=ret (W3 (15,a,b,c)):=by
 have h:Zj N (15,a,b,c)=((Zl N a).bind λo=>bif o.2.1 then(bif b==(0:Int)then some ((),(c==(0:Int),()))else some ((),(false,())))else some ((),(false,()))):=by kernel_rfl
 have h2:W3 (15,a,b,c)=(Wg a&&(b==(0:Int))&&(c==(0:Int))):=rfl;rw[h,h2];simp only[WC,Wo,Wn,WF,Wp,WaK,ret,Xd];cases Wg a<;>cases(b==(0:Int))<;>rfl
theorem Wn3{N:Nat}{a b c:Int}:Zj N (16,a,b,c)=ret (W3 (16,a,b,c)):=by
 have h:Zj N (16,a,b,c)=((Zl N a).bind λo=>bif o.2.1 then(bif b==(0:Int)then some ((),(c==(0:Int),()))else some ((),(false,())))else some ((),(false,()))):=by kernel_rfl
 have h2:W3 (16,a,b,c)=(Wg a&&(b==(0:Int))&&(c==(0:Int))):=rfl;rw[h,h2];simp only[WC,Wo,Wn,WF,Wp,WaK,ret,Xd];cases Wg a<;>cases(b==(0:Int))<;>rfl
theorem WeN{N:Nat}{o:Opn}:Zj N o=ret (W3 o):=by
 obtain⟨k,a,b,c⟩:=o;by_cases h1:k=1
 .subst h1;exact WoR
 by_cases h2:k=2
 .subst h2;exact WoA
 by_cases h3:k=3
 .subst h3;exact Wow
 by_cases h4:k=4
 .subst h4;exact WoJ
 by_cases h5:k=5
 .subst h5;exact Woo
 by_cases h6:k=6
 .subst h6;exact Wpk
 by_cases h7:k=7
 .subst h7;exact WoC
 by_cases h8:k=8
 .subst h8;exact WoP
 by_cases h9:k=9
 .subst h9;exact WoX
 by_cases bq:k=10
 .subst bq;exact Wog
 by_cases fb:k=11
 .subst fb;exact Woa
 by_cases lQ:k=12
 .subst lQ;exact WmO
 by_cases kE:k=13
 .subst kE;exact WmF
 by_cases jV:k=14
 .subst jV;exact Wnk
 by_cases jW:k=15
 .subst jW;exact Wms
 by_cases gZ:k=16
 .subst gZ;exact Wn3
 have e1:(k==(1:Int))=false:=by simpa using h1
 have e2:(k==(2:Int))=false:=by simpa using h2
 have e3:(k==(3:Int))=false:=by simpa using h3
 have e4:(k==(4:Int))=false:=by simpa using h4
 have e5:(k==(5:Int))=false:=by simpa using h5
 have e6:(k==(6:Int))=false:=by simpa using h6
 have e7:(k==(7:Int))=false:=by simpa using h7
 have e8:(k==(8:Int))=false:=by simpa using h8
 have e9:(k==(9:Int))=false:=by simpa using h9
 have rj:(k==(10:Int))=false:=by simpa using bq
 have rk:(k==(11:Int))=false:=by simpa using fb
 have rl:(k==(12:Int))=false:=by simpa using lQ
 have rn:(k==(13:Int))=false:=by simpa using kE
 have rq:(k==(14:Int))=false:=by simpa using jV
 have rr:(k==(15:Int))=false:=by simpa using jW
 have rt:(k==(16:Int))=false:=by simpa using gZ
 unfold Zj W3;simp only[];rw[e1,e2,e3,e4,e5,e6,e7,e8,e9,rj,rk,rl,rn,rq,rr,rt];rfl
end
section
def WjO{α:Type}(p:Nat->α->Bool):Nat->List α->Bool
 |_,[]=>false
 |j,x::l=>p j x||WjO p (j+1) l
theorem Wb9{α V R:Type}{body:Int->α->V->(V->Option R)->Option R}{K:Int->V->Option R}{p:Nat->α->Bool}{E:V->Option R}:∀(l:List α) (j:Nat) (v:V),(∀(j:Nat) x v k,x∈l->body j x v k=bif p j x then E v else k v)->
  WbL body K l j v=bif WjO p j l then E v else K ((j+l.length:Nat):Int) v
 | [],j,v,_=>rfl
 |x::l,j,v,h=>by
  rw[WbL,h j x v _ (Xh ..),Wb9 l (j+1) v λj y v k hy=>h j y v k (Xe _ hy),WjO];cases p j x
  .simp only[cond_false,Xcl,Xt];rw[show j+1+l.length=j+(l.length+1) by omega]
  .rfl
theorem Wdi{α:Type}{p:Nat->α->Bool}:∀{l:List α} {j:Nat},WjO p j l=true↔∃i,∃h:i<l.length,p (j+i) l[i]=true
 | [],j=>by simp[WjO]
 |x::l,j=>by
  rw[WjO,Xch,Wdi];constructor
  .rintro(h|⟨i,hi,h⟩)
   .exact⟨0,by simp,by simpa using h⟩
   .exact⟨i+1,by simpa using hi,by simpa [Xan,Xcj 1]using h⟩
  .rintro⟨i,hi,h⟩;cases i with
   |zero=>exact .inl (by simpa using h)
   |succ i=>exact .inr ⟨i,by simpa using hi,by simpa [Xan,Xcj 1]using h⟩
def opd(o:Opn):Int:=bif o.1==8 then 1 else bif o.1==9 then-1 else 0
theorem Wgl(o:Opn):-1<=opd o/\opd o<=1:=by unfold opd;cases o.1==8<;>cases o.1==9<;>simp
def dep(l:List Opn)(j:Nat):Int:=((l.take j).map opd).sum
theorem Wb1(l:List Opn):dep l 0=0:=by simp[dep]
theorem Wal{l:List Opn}{j:Nat}(h:j<l.length):dep l (j+1)=dep l j+opd l[j]:=by
 unfold dep;rw[Xbg h,Xn,List.sum_append];simp
theorem WE{α:Type}{l:List α}{j:Nat}(h:j<l.length)(d:α):Xc l j d=l[j]:=by simp[h]
theorem WbV(l:List Opn):∀j:Nat,-(j:Int)<=dep l j/\dep l j<=j
 |0=>by simp[dep]
 |j+1=>by
  have ih:=WbV l j;by_cases h:j<l.length
  .have:=Wgl l[j];rw[Wal h];omega
  .have:dep l (j+1)=dep l j:=by unfold dep;rw[Xbr (by omega),Xbr (by omega)]
   rw[this];omega
def bal(l:List Opn):Bool:=!WjO (λj _=>decide (dep l (j+1)<0)) 0 l&&decide (dep l l.length=0)
theorem Wd9{N:Nat}{o:Opn}:Zer N o=ret (opd o):=by
 unfold Zer opd;cases o.1==8<;>cases o.1==9<;>rfl
theorem WqV(x:Int):(x==(0:Int))=decide (x=0):=by by_cases h:x=0<;>simp[h]
theorem WfZ{N:Nat}{l:List Opn}(hl:l.length<=1048576)(hN:1048576<N):Zbo N l=ret (bal l):=by
 unfold Zbo bal;have h1:=WG (l:=l) (V:=Unit) (R:=Unit×Km) (lp:=λn j _=>Zap N l (some ((),(false,()))) (λqt bQ cY=>some ((),(qt==(0:Int),()))) n (dep l j.toNat) j) (n:=N) (by omega)
  (body:=λj _ v k=>bif decide (dep l (j.toNat+1)<0)then some ((),(false,()))else k v) (K:=λj _=>some ((),(dep l j.toNat==(0:Int),())))
  (λn i v hi=>by
   have hb:=WbV l i;have hs:=Wal hi;have ho:=Wgl l[i];have e:Wf .i64 (dep l i) (opd l[i])=dep l (i+1):=by rw[WI (by unfold I64;omega),hs]
   simp only[Zap,Waa hi,Wt hi,Wz hi,WE hi,Wj (show i<4611686018427387904 by omega),cond_true,Wd9,ret,Xd,Xp,e])
  (λn v=>by simp only[Zap,Was (Xl l.length),cond_false]) ()
 have e0:dep l (Xb 0)=0:=Wb1 l;simp only[e0]at h1;refine h1.trans ?_;rw[Wb9 (p:=λj _=>decide (dep l (j+1)<0)) (E:=λ_=>some ((),(false,()))) l 0 () (λj x v k _=>rfl)];rw[Xbd,Xp,WqV];cases WjO (λj _=>decide (dep l (j+1)<0)) 0 l<;>rfl
theorem WhG{N:Nat}{l:List Opn}(hl:l.length<=1048576)(hN:1048576<N){i:Nat}(hi:i<=l.length):Zdk N l (i:Int)=ret (dep l i):=by
 unfold Zdk;have h1:=WG (l:=l) (V:=Unit) (R:=Unit×Kj) (lp:=λn j _=>Zaq N (i:Int) l (λmi fo cE=>some ((),(mi,()))) n (dep l (min j.toNat i)) j) (n:=N) (by omega)
  (body:=λj _ v k=>k v) (K:=λj _=>some ((),(dep l (min j.toNat i),())))
  (λn j v hj=>by
   have hb:=WbV l j;have ho:=Wgl l[j];simp only[Zaq,Waa hj,Wt hj,Wz hj,WE hj,Wj (show j<4611686018427387904 by omega),cond_true,Wd9,ret,Xd,Xp];by_cases h:j<i
   .have e1:decide ((j:Int)<(i:Int))=true:=by simpa using h
    have e2:min j i=j:=by omega
    have e3:min (j+1) i=j+1:=by omega
    have e:Wf .i64 (dep l j) (opd l[j])=dep l (j+1):=by rw[WI (by unfold I64;omega),Wal hj]
    rw[e1,e2,e3,e];rfl
   .have e1:decide ((j:Int)<(i:Int))=false:=by simp;omega
    have e2:min j i=i:=by omega
    have e3:min (j+1) i=i:=by omega
    rw[e1,e2,e3];rfl)
  (λn v=>by simp only[Zaq,Was (Xl l.length),cond_false]) ()
 have e0:dep l (min (Xb 0) i)=0:=by
  have:min (Xb 0) i=0:=by simp
  rw[this];exact Wb1 l
 simp only[e0]at h1;refine h1.trans ?_;rw[WeR (f:=λv _=>v) l 0 () (λj x v k _=>rfl),Xbd,Xp,Nat.min_eq_right hi]
theorem WjP{N:Nat}{l:List Opn}{a b:Nat}(fi:a<=b)(hb:b<=l.length)(hl:l.length<=1048576)(hN:1048576<N):
  Z6 N l (b:Int) (some ((),(false,()))) (λnJ ec bG=>some ((),(nJ==(0:Int),()))) N 0 (a:Int)=ret (bal ((l.take b).drop a)):=by
 have hlen:((l.take b).drop a).length=b-a:=by simp;omega
 unfold bal;have h1:=WG (l:=(l.take b).drop a) (V:=Unit) (R:=Unit×Km) (lp:=λn j _=>Z6 N l (b:Int) (some ((),(false,()))) (λnJ ec bG=>some ((),(nJ==(0:Int),()))) n (dep ((l.take b).drop a) j.toNat) ((a+j.toNat:Nat):Int)) (n:=N) (by omega)
  (body:=λj _ v k=>bif decide (dep ((l.take b).drop a) (j.toNat+1)<0)then some ((),(false,()))else k v) (K:=λj _=>some ((),(dep ((l.take b).drop a) j.toNat==(0:Int),())))
  (λn i v hi=>by
   have hb':=WbV ((l.take b).drop a) i;have hs:=Wal hi;have ei:((l.take b).drop a)[i]=l[a+i]:=by simp
   rw[ei]at hs;have cz:a+i<l.length:=by omega
   have e1:decide (((a+i:Nat):Int)<(b:Int))=true:=by simp;omega
   have e2:Wf .i64 ((a+i:Nat):Int) 1=((a+(i+1):Nat):Int):=by rw[WI (by unfold I64;omega)];omega
   have e3:Wf .i64 (dep ((l.take b).drop a) i) 1=dep ((l.take b).drop a) i+1:=WI (by unfold I64;omega);have e4:WN .i64 (dep ((l.take b).drop a) i) 1=dep ((l.take b).drop a) i+ -1:=by rw[Wax (by unfold I64;omega)];omega
   simp only[Z6,e1,Wt cz,Wz cz,WE cz,e2,e3,e4,cond_true,Xp];unfold opd at hs;cases h8:l[a+i].1==8
   .cases h9:l[a+i].1==9
    .rw[h8,h9]at hs;simp only[cond_false,Xfm]at hs;simp only[hs,cond_false]
    .rw[h8,h9]at hs;simp only[cond_false,cond_true]at hs;simp only[hs,cond_false,cond_true]
   .have h9:(l[a+i].1==9)=false:=by
     have:l[a+i].1=8:=by simpa using h8
     rw[this];rfl
    rw[h8]at hs;simp only[cond_true]at hs;simp only[hs,h9,cond_false,cond_true])
  (λn v=>by
   have e1:decide (((a+(((l.take b).drop a).length:Int).toNat:Nat):Int)<(b:Int))=false:=by rw[Xp,hlen];simp;omega
   simp only[Z6,e1,cond_false]) ()
 have e0:dep ((l.take b).drop a) (Xb 0)=0:=Wb1 _;simp only[e0]at h1;refine h1.trans ?_;rw[Wb9 (p:=λj _=>decide (dep ((l.take b).drop a) (j+1)<0)) (E:=λ_=>some ((),(false,()))) _ 0 () (λj x v k _=>rfl)];rw[Xbd,Xp,WqV];cases WjO (λj _=>decide (dep ((l.take b).drop a) (j+1)<0)) 0 ((l.take b).drop a)<;>rfl
def WdB(l:List Opn)(i:Nat)(o:Opn):Bool:=decide (i+1+o.2.2.1.toNat<=l.length)&&bal ((l.take (i+1+o.2.2.1.toNat)).drop (i+1))
def frk(l:List Opn)(j:Nat):Nat:=(l.take j).countP λo=>o.1==11
theorem Wlb{l:List Opn}{j:Nat}(h:j<l.length):frk l (j+1)=frk l j+(l[j].1==11).toNat:=by
 unfold frk;rw[Xbg h,List.countP_append,List.countP_singleton];cases l[j].1==11<;>rfl
theorem Wpq(l:List Opn)(j:Nat):frk l j<=l.length:=Xck List.countP_le_length (by simp;omega)
def WpA(l:List Opn)(i:Nat)(o:Opn):Bool:=
 !W3 o||((o.1==7)&& !WdB l i o)||((o.1==11)&&(decide (dep l i>0)||decide (frk l (i+1)>1)))||decide (dep l (i+1)<0)
def WiP(l:List Opn)(i:Nat)(o:Opn):Bool:=
 !W3 o||((o.1==7)&& !WdB l i o)||((o.1==11)&&(decide (frk l (i+1)>1)|| !decide (dep l i=0)))
def WnV(l:List Opn):Bool:=decide (l.length<=24)&&(bal l&& !WjO (WiP l) 0 l)
theorem WkU{l:List Opn}{i:Nat}{o:Opn}(hl:l.length<=24)(hi:i<l.length)(ho:W3 o=true)(h7:o.1=7):
  Wf .i64 ((i+1:Nat):Int) o.2.2.1=((i+1+o.2.2.1.toNat:Nat):Int)/\1<=o.2.2.1/\o.2.2.1<=20:=by
 obtain⟨k,a,b,c⟩:=o;simp only at h7;subst h7;have:(Wg a&&(decide (1<=b)&&decide (b<=20))&&(c==(0:Int)))=true:=ho;simp only[Xi,decide_eq_true_eq]at this;refine⟨?_,this.1.2.1,this.1.2.2⟩;rw[WI (by unfold I64;simp only[];omega)];simp only[];omega
theorem WjJ{N:Nat}{l:List Opn}{i:Nat}(hl:l.length<=24)(hN:1048576<N)(hi:i<l.length)(ho:W3 l[i]=true)(h7:l[i].1=7):Zd1 N l (i:Int)=ret (WdB l i l[i]):=by
 obtain⟨e1,h1,h2⟩:=WkU hl hi ho h7;unfold Zd1 WdB;simp only[Wt hi,cond_true,Wz hi,WE hi,e1,Wj (show i<4611686018427387904 by omega)];by_cases h:i+1+l[i].2.2.1.toNat<=l.length
 .have e:decide (((i+1+l[i].2.2.1.toNat:Nat):Int)>We l)=false:=by simp[We];omega
  rw[e];simp only[cond_false];rw[WjP (by omega) h (by omega) hN];simp[h]
 .have e:decide (((i+1+l[i].2.2.1.toNat:Nat):Int)>We l)=true:=by simp[We];omega
  rw[e];simp[h]
theorem WhY{l:List Opn}:bal l=true↔(∀i,i<l.length->0<=dep l (i+1))/\dep l l.length=0:=by
 unfold bal;rw[Xi,Xam,←Xfj,Wdi,decide_eq_true_eq];constructor
 .rintro⟨h1,h2⟩;refine⟨λi hi=>?_,h2⟩;by_cases h:dep l (i+1)<0
  .exact absurd ⟨i,hi,by simpa using h⟩ h1
  .omega
 .rintro⟨h1,h2⟩;refine⟨?_,h2⟩;rintro⟨i,hi,h⟩;have:=h1 i hi;simp at h;omega
theorem Wi5(l:List Opn):(!WjO (WpA l) 0 l&&decide (dep l l.length=0))=(bal l&& !WjO (WiP l) 0 l):=by
 rw[Bool.eq_iff_iff,Xi,Xi,Xam,Xam,←Xfj,←Xfj,Wdi,Wdi,WhY,decide_eq_true_eq];constructor
 .rintro⟨h1,h2⟩;have hd:∀i,i<l.length->0<=dep l (i+1):=λi hi=>by
   by_cases h:dep l (i+1)<0
   .refine absurd ⟨i,hi,?_⟩ h1;unfold WpA;simp[h]
   .omega
  refine⟨⟨hd,h2⟩,?_⟩;rintro⟨i,hi,h⟩;refine h1 ⟨i,hi,?_⟩;have vo:0<=dep l i:=by
   cases i with
   |zero=>rw[Wb1];omega
   |succ i=>exact hd i (by omega)
  rw[Xbd]at h⊢;unfold WiP at h;unfold WpA;simp only[Xch,Xi,decide_eq_true_eq,Xam,decide_eq_false_iff_not]at h⊢;rcases h with(h|h)|⟨h,h'⟩
  .exact .inl (.inl (.inl h))
  .exact .inl (.inl (.inr h))
  .refine .inl (.inr ⟨h,?_⟩);rcases h' with h'|h'
   .exact .inr h'
   .exact .inl (by omega)
 .rintro⟨⟨hd,h2⟩,h1⟩;refine⟨?_,h2⟩;rintro⟨i,hi,h⟩;refine h1 ⟨i,hi,?_⟩;have vo:=hd i hi;rw[Xbd]at h⊢;unfold WpA at h;unfold WiP;simp only[Xch,Xi,decide_eq_true_eq,Xam,decide_eq_false_iff_not]at h⊢;rcases h with((h|h)|⟨h,h'⟩)|h
  .exact .inl (.inl h)
  .exact .inl (.inr h)
  .refine .inr ⟨h,?_⟩;rcases h' with h'|h'
   .exact .inr (by omega)
   .exact .inl h'
  .omega
theorem Wjx{N:Nat}{l:List Opn}(hl:l.length<=1048576)(hN:1048576<N):Zd2 N l=ret (WnV l):=by
 unfold Zd2 WnV;by_cases h:l.length<=24
 .have e:decide (We l>24)=false:=by simp[We];omega
  rw[e];simp only[cond_false];have h1:=WG (l:=l) (V:=Unit) (R:=Unit×Km) (lp:=λn j _=>Z7 N l (some ((),(false,()))) (λqs jD sA mh=>some ((),(qs==(0:Int),()))) n (dep l j.toNat) ((frk l j.toNat:Nat):Int) j) (n:=N) (by omega)
   (body:=λj x v k=>bif WpA l j.toNat x then some ((),(false,()))else k v) (K:=λj _=>some ((),(dep l j.toNat==(0:Int),())))
   (λn i v hi=>by
    have hb:=WbV l i;have hs:=Wal hi;have hf:=Wlb hi;have dQ:=Wpq l i;have e3:Wf .i64 (dep l i) 1=dep l i+1:=WI (by unfold I64;omega);have e4:WN .i64 (dep l i) 1=dep l i+ -1:=by rw[Wax (by unfold I64;omega)];omega
    have e5:Wf .i64 ((frk l i:Nat):Int) 1=((frk l i+1:Nat):Int):=by rw[WI (by unfold I64;omega)];rfl
    simp only[Z7,Waa hi,Wt hi,Wz hi,WE hi,Wj (show i<4611686018427387904 by omega),cond_true,Xp,Wbf,ret,Xd,e3,e4,e5];unfold WpA;cases ho:W3 l[i]with
    |false=>rfl
    |true=>
     unfold opd at hs;simp only[Xah,cond_false,Xcl];by_cases h8:l[i].1=8
     .have b8:(l[i].1==8)=true:=by simp[h8]
      have b7:(l[i].1==7)=false:=by simp[h8]
      have aI:(l[i].1==11)=false:=by simp[h8]
      simp only[b8,b7,aI,cond_true,cond_false,Xdk,Xat,Xcv,Xcl]at hs hf⊢;simp only[hs,hf]
     .have b8:(l[i].1==8)=false:=by simp[h8]
      by_cases h9:l[i].1=9
      .have b9:(l[i].1==9)=true:=by simp[h9]
       have b7:(l[i].1==7)=false:=by simp[h9]
       have aI:(l[i].1==11)=false:=by simp[h9]
       simp only[b8,b9,b7,aI,cond_true,cond_false,Xdk,Xat,Xcv,Xcl]at hs hf⊢;simp only[hs,hf]
      .have b9:(l[i].1==9)=false:=by simp[h9]
       by_cases h7:l[i].1=7
       .have b7:(l[i].1==7)=true:=by simp[h7]
        have aI:(l[i].1==11)=false:=by simp[h7]
        have vp:=WjJ h hN hi ho h7;simp only[b8,b9,b7,aI,cond_true,cond_false,Xdk,Xat,Xcv,Xca,Bool.or_false,Xfm,vp,ret,Xd]at hs hf⊢;simp only[hs,hf];cases WdB l i l[i]<;>rfl
       .have b7:(l[i].1==7)=false:=by simp[h7]
        by_cases fb:l[i].1=11
        .have aI:(l[i].1==11)=true:=by simp[fb]
         simp only[b8,b9,b7,aI,cond_true,cond_false,Xgu,Xcv,Xca,Xcl,Xfm]at hs hf⊢;simp only[hs,hf];have ef:decide (((frk l i+1:Nat):Int)>1)=decide (frk l i+1>1):=by apply decide_eq_decide.2;omega
         rw[ef];cases decide (dep l i>0)<;>cases decide (frk l i+1>1)<;>cases decide (dep l i<0)<;>rfl
        .have aI:(l[i].1==11)=false:=by simp[fb]
         simp only[b8,b9,b7,aI,cond_true,cond_false,Xdk,Xat,Xcv,Xcl,Xfm]at hs hf⊢;simp only[hs,hf])
   (λn v=>by simp only[Z7,Was (Xl l.length),cond_false]) ()
  have e0:dep l (Xb 0)=0:=Wb1 l;have e1:((frk l (Xb 0):Nat):Int)=0:=by simp[frk]
  simp only[e0,e1]at h1;refine h1.trans ?_;rw[Wb9 (p:=WpA l) (E:=λ_=>some ((),(false,()))) l 0 () (λj x v k _=>by rw[Xp])];rw[Xbd,Xp,WqV,←Wi5];simp only[h,decide_true,Xca];cases WjO (WpA l) 0 l<;>rfl
 .have e:decide (We l>24)=true:=by simp[We];omega
  rw[e];simp[h]
theorem Wjw{N:Nat}{l:List Opn}(hl:l.length<=1048576)(hN:1048576<N):Zdh N l=ret (WnV l):=by
 unfold Zdh WnV;by_cases h:l.length<=24
 .have e:decide (We l>24)=false:=by simp[We];omega
  rw[e];simp only[cond_false,WfZ hl hN,ret,Xd,h,decide_true,Xca];cases oA:bal l with
  |false=>rfl
  |true=>
   simp only[Xah,cond_false,Xca];have h1:=WG (l:=l) (V:=Unit) (R:=Unit×Km) (lp:=λn j _=>Zam N l (some ((),(false,()))) (λjF eU t22=>some ((),(true,()))) n ((frk l j.toNat:Nat):Int) j) (n:=N) (by omega)
    (body:=λj x v k=>bif WiP l j.toNat x then some ((),(false,()))else k v) (K:=λj _=>some ((),(true,())))
    (λn i v hi=>by
     have hf:=Wlb hi;have dQ:=Wpq l i;have e5:Wf .i64 ((frk l i:Nat):Int) 1=((frk l i+1:Nat):Int):=by rw[WI (by unfold I64;omega)];rfl
     simp only[Zam,Waa hi,Wt hi,Wz hi,WE hi,cond_true,Xp,WeN,ret,Xd,e5];unfold WiP;cases ho:W3 l[i]with
     |false=>rfl
     |true=>
      simp only[Xah,cond_false,Xcl];by_cases h7:l[i].1=7
      .have b7:(l[i].1==7)=true:=by simp[h7]
       have aI:(l[i].1==11)=false:=by simp[h7]
       obtain⟨en,h1,h2⟩:=WkU h hi ho h7;simp only[b7,aI,cond_true,en,Wj (show i<4611686018427387904 by omega),Xdk,Xat,Xcv,Xca,Bool.or_false]at hf⊢;simp only[hf];unfold WdB;by_cases hq:i+1+l[i].2.2.1.toNat<=l.length
       .have q1:decide (((i+1+l[i].2.2.1.toNat:Nat):Int)>We l)=false:=by simp[We];omega
        have q2:(((decide ((0:Int)<=((i+1+l[i].2.2.1.toNat:Nat):Int)))&&(decide (((i+1+l[i].2.2.1.toNat:Nat):Int)<=((Xa l):Int))))&&(decide ((0:Int)<=((i+1:Nat):Int)))&&(decide (((i+1:Nat):Int)<=((i+1+l[i].2.2.1.toNat:Nat):Int))))=true:=by simp;omega
        rw[q1,q2];simp only[cond_false,cond_true,Xp];rw[WfZ (by simp;omega) hN];simp only[ret,Xd,hq,decide_true,Xca]
       .have q1:decide (((i+1+l[i].2.2.1.toNat:Nat):Int)>We l)=true:=by simp[We];omega
        rw[q1];simp[hq]
      .have b7:(l[i].1==7)=false:=by simp[h7]
       by_cases fb:l[i].1=11
       .have aI:(l[i].1==11)=true:=by simp[fb]
        simp only[b7,aI,cond_true,cond_false,Xgu,Xcv,Xca,Xcl,WhG hl hN (Nat.le_of_lt hi),ret,Xd,Wj (show i<4611686018427387904 by omega)]at hf⊢;simp only[hf];have ef:decide (((frk l i+1:Nat):Int)>1)=decide (frk l i+1>1):=by apply decide_eq_decide.2;omega
        have e0:(dep l i !=0)= !decide (dep l i=0):=by rw[bne,WqV]
        rw[ef,e0];cases decide (frk l i+1>1)<;>cases decide (dep l i=0)<;>rfl
       .have aI:(l[i].1==11)=false:=by simp[fb]
        simp only[b7,aI,cond_true,cond_false,Xdk,Xat,Xcv,Xcl,Wj (show i<4611686018427387904 by omega)]at hf⊢;simp only[hf])
    (λn v=>by simp only[Zam,Was (Xl l.length),cond_false]) ()
   have e1:((frk l (Xb 0):Nat):Int)=0:=by simp[frk]
   simp only[e1]at h1;refine h1.trans ?_;rw[Wb9 (p:=WiP l) (E:=λ_=>some ((),(false,()))) l 0 () (λj x v k _=>by rw[Xp])];cases WjO (WiP l) 0 l<;>rfl
 .have e:decide (We l>24)=true:=by simp[We];omega
  rw[e];simp[h]
end
section
def stk(l:List Opn):Nat->List Nat
 |0=>[]
 |j+1=>bif (l.getD j (0,0,0,0)).1==8 then stk l j++ [j]else bif (l.getD j (0,0,0,0)).1==9 then(stk l j).dropLast else stk l j
theorem WhR{l:List Opn}{j:Nat}(h:j<l.length)(h8:l[j].1=8):stk l (j+1)=stk l j++ [j]:=by
 rw[stk,WE h];simp[h8]
theorem WhZ{l:List Opn}{j:Nat}(h:j<l.length)(h9:l[j].1=9):stk l (j+1)=(stk l j).dropLast:=by
 rw[stk,WE h];simp[h9]
theorem Wfj{l:List Opn}{j:Nat}(h:j<l.length)(h8:l[j].1≠8)(h9:l[j].1≠9):stk l (j+1)=stk l j:=by
 rw[stk,WE h];have e8:(l[j].1==8)=false:=by simp[h8]
 have e9:(l[j].1==9)=false:=by simp[h9]
 rw[e8,e9];rfl
theorem WoT{o:Opn}(h:o.1=8):opd o=1:=by unfold opd;simp[h]
theorem WhM{o:Opn}(h:o.1=9):opd o= -1:=by unfold opd;simp[h]
theorem Wpi{o:Opn}(h8:o.1≠8)(h9:o.1≠9):opd o=0:=by
 unfold opd;have e8:(o.1==8)=false:=by simp[h8]
 have e9:(o.1==9)=false:=by simp[h9]
 rw[e8,e9];rfl
theorem Wav{α:Type}(l:List α):l= []\/∃q x,l=q++ [x]:=by
 rcases List.eq_nil_or_concat l with h|⟨q,x,h⟩
 .exact .inl h
 .exact .inr ⟨q,x,by rw[h,List.concat_eq_append]⟩
def Up(l:List Opn):Prop:=∀i,i<l.length->0<=dep l (i+1)
theorem Up.at{l:List Opn}(h:Up l){j:Nat}(hj:j<=l.length):0<=dep l j:=by
 cases j with
 |zero=>rw[Wb1];omega
 |succ j=>exact h j hj
theorem Wbb{l:List Opn}(h:Up l):∀j,j<=l.length->((stk l j).length:Int)=dep l j
 |0,_=>by rw[Wb1];rfl
 |j+1,hj=>by
  have hj':j<l.length:=hj;have ih:=Wbb h j (by omega);have hd:=Wal hj';have hu:=h j hj';by_cases h8:l[j].1=8
  .rw[WhR hj' h8,hd,WoT h8,Xs];simp;omega
  .by_cases h9:l[j].1=9
   .rw[WhZ hj' h9,hd,WhM h9,Xer];rw[hd,WhM h9]at hu;omega
   .rw[Wfj hj' h8 h9,hd,Wpi h8 h9];omega
theorem Wfw{l:List Opn}:∀(j:Nat),j<=l.length->∀(s t:List Nat) (m:Nat),stk l j=s++m::t->
  m<j/\(∃h:m<l.length,l[m].1=8)/\stk l m=s/\∀i,m<i->i<=j->∃t',stk l i=s++m::t'
 |0,_,s,t,m,h=>by simp[stk]at h
 |j+1,hj,s,t,m,h=>by
  have hj':j<l.length:=hj;have ih:=Wfw (l:=l) j (by omega);have next:∀t0,stk l j=s++m::t0->m<j+1/\(∃h:m<l.length,l[m].1=8)/\stk l m=s/\∀i,m<i->i<=j+1->∃t',stk l i=s++m::t':=λt0 h0=>by
   obtain⟨a,b,c,d⟩:=ih s t0 m h0;refine⟨by omega,b,c,λi jA jB=>?_⟩;by_cases he:i=j+1
   .subst he;exact⟨t,h⟩
   .exact d i jA (by omega)
  by_cases h8:l[j].1=8
  .rw[WhR hj' h8]at h;rcases Wav t with rfl|⟨t0,x,rfl⟩
   .obtain⟨e1,e2⟩:=Xej (h:stk l j++ [j]=s++ [m]) rfl;injection e2 with e2;subst e2;refine⟨by omega,⟨hj',h8⟩,e1,λi jA jB=>?_⟩;have:i=j+1:=by omega
    subst this;exact⟨[],by rw[WhR hj' h8];exact h⟩
   .have h2:stk l j++ [j]=(s++m::t0)++ [x]:=by rw[h,List.append_assoc,List.cons_append]
    obtain⟨e1,e2⟩:=Xej h2 rfl;have h':stk l (j+1)=s++m::(t0++ [x]):=by rw[WhR hj' h8,h]
    obtain⟨a,b,c,d⟩:=ih s t0 m e1;refine⟨by omega,b,c,λi jA jB=>?_⟩;by_cases he:i=j+1
    .subst he;exact⟨_,h'⟩
    .exact d i jA (by omega)
  .by_cases h9:l[j].1=9
   .rw[WhZ hj' h9]at h;rcases Wav (stk l j)with h0|⟨q,x,hq⟩
    .rw[h0]at h;simp at h
    .have du:(stk l j).dropLast=q:=by rw[hq];simp
     rw[du]at h;have h2:stk l j=s++m::(t++ [x]):=by rw[hq,h];simp
     obtain⟨a,b,c,d⟩:=ih s _ m h2;refine⟨by omega,b,c,λi jA jB=>?_⟩;by_cases he:i=j+1
     .subst he;exact⟨t,by rw[WhZ hj' h9,du];exact h⟩
     .exact d i jA (by omega)
   .exact next t (by rw[←Wfj hj' h8 h9];exact h)
theorem WkX{l:List Opn}{a b:Nat}(fi:a<=b)(hb:b<=l.length)(oA:bal ((l.take b).drop a)=true):stk l b=stk l a:=by
 obtain⟨h1,h2⟩:=WhY.1 oA;have hlen:((l.take b).drop a).length=b-a:=by simp;omega
 have key:∀i,i<=b-a->∃t,stk l (a+i)=stk l a++t/\(t.length:Int)=dep ((l.take b).drop a) i:=by
  intro i
  induction i with
  |zero=>intro _;exact⟨[],by simp,by rw[Wb1];rfl⟩
  |succ i ih=>
   intro hi;obtain⟨t,mC,ru⟩:=ih (by omega);have cz:a+i<l.length:=by omega
   have jB:i<((l.take b).drop a).length:=by omega
   have hd:=Wal jB;have ei:((l.take b).drop a)[i]=l[a+i]:=by simp
   rw[ei]at hd;have hu:=h1 i jB;by_cases h8:l[a+i].1=8
   .refine⟨t++ [a+i],by rw[←Xan,WhR cz h8,mC];simp,?_⟩;rw[hd,WoT h8,Xs];simp;omega
   .by_cases h9:l[a+i].1=9
    .rw[hd,WhM h9]at hu;have hne:t≠ []:=λh=>by subst h;simp at ru;omega
     refine⟨t.dropLast,?_,?_⟩
     .rw[←Xan,WhZ cz h9,mC,List.dropLast_append_of_ne_nil hne]
     .rw[hd,WhM h9,Xer];omega
    .refine⟨t,by rw[←Xan,Wfj cz h8 h9,mC],?_⟩;rw[hd,Wpi h8 h9];omega
 obtain⟨t,mC,ru⟩:=key (b-a) (Xl _);rw[←hlen,h2]at ru;have:t= []:=Xx (by omega);subst this;rw[show a+(b-a)=b by omega]at mC;simpa using mC
structure Mate(l:List Opn)(m k:Nat):Prop where
 lt:m<k
 len:k<l.length
 eq:dep l (k+1)=dep l m
 ne:∀i,m<=i->i<k->dep l (i+1)≠dep l m
 st:stk l (k+1)=stk l m
theorem Wmz{l:List Opn}(hu:Up l)(h0:dep l l.length=0){j m:Nat}{s:List Nat}(hj:j<=l.length)(hs:stk l j=s++ [m]):∃k,j<=k/\Mate l m k/\stk l m=s:=by
 obtain⟨a,⟨hm,h8⟩,c,d⟩:=Wfw j hj s [] m hs;have kx:=Wbb hu m (by omega);have low:∀i,m<=i->i<j->dep l (i+1)≠dep l m:=λi h1 h2=>by
  obtain⟨t',vq⟩:=d (i+1) (by omega) (by omega);have:=Wbb hu (i+1) (by omega);rw[vq]at this;rw[c]at kx;simp at this;omega
 have eD:=hu.at (show m<=l.length by omega);have ex:∀n i,l.length-i=n->j<=i->i<=l.length->(∀i',m<=i'->i'<i->dep l (i'+1)≠dep l m)->dep l m<dep l i->∃k,j<=k/\k<l.length/\dep l (k+1)=dep l m/\∀i',m<=i'->i'<k->dep l (i'+1)≠dep l m:=by
  intro n
  induction n with
  |zero=>intro i h1 h2 h3 h4 h5;exfalso;rw[show i=l.length by omega,h0]at h5;omega
  |succ n ih=>
   intro i h1 h2 h3 h4 h5;have cz:i<l.length:=by omega
   by_cases he:dep l (i+1)=dep l m
   .exact⟨i,h2,cz,he,h4⟩
   .have hd:=Wal cz;have ho:=Wgl l[i];refine ih (i+1) (by omega) (by omega) cz (λi' q1 q2=>?_) (by omega);by_cases jz:i'=i
    .subst jz;exact he
    .exact h4 i' q1 (by omega)
 have jo:dep l m<dep l j:=by
  have:=Wbb hu j hj;rw[hs]at this;rw[c]at kx;simp at this;omega
 obtain⟨k,k1,k2,k3,k4⟩:=ex _ j rfl (Xl _) hj low jo;have pE:m<k:=by omega
 have pre:∀n i,i=m+1+n->i<=k->∃t,stk l i=s++m::t:=by
  intro n
  induction n with
  |zero=>intro i h1 h2;exact⟨[],by rw[h1,Xat,WhR hm h8,c]⟩
  |succ n ih=>
   intro i h1 h2;obtain⟨t,ht⟩:=ih (m+1+n) rfl (by omega);have e:i=(m+1+n)+1:=by omega
   have cz:m+1+n<l.length:=by omega
   by_cases g8:l[m+1+n].1=8
   .exact⟨t++ [m+1+n],by rw[e,WhR cz g8,ht];simp⟩
   .by_cases g9:l[m+1+n].1=9
    .rcases Wav t with rfl|⟨t0,x,rfl⟩
     .exfalso;have q:=WhZ cz g9;rw[ht]at q;have q2:stk l (m+1+n+1)=s:=by rw[q];simp
      have q3:=Wbb hu (m+1+n+1) (by omega);rw[q2]at q3;rw[c]at kx;exact k4 (m+1+n) (by omega) (by omega) (by omega)
     .exact⟨t0,by rw[e,WhZ cz g9,ht,show s++m::(t0++ [x])=(s++m::t0)++ [x] by simp,Xdw]⟩
    .exact⟨t,by rw[e,Wfj cz g8 g9,ht]⟩
 obtain⟨t,ht⟩:=pre (k-m-1) k (by omega) (Xl _);have tI:=Wbb hu k (by omega);have vr:=Wal k2;rw[ht]at tI;rw[c]at kx;simp at tI;have bm:=Wgl l[k];have g9:l[k].1=9:=by
  by_cases g9:l[k].1=9
  .exact g9
  .by_cases g8:l[k].1=8
   .have:=WoT g8;omega
   .have:=Wpi g8 g9;omega
 have vt:t= []:=Xx (by have:=WhM g9;omega);subst vt;refine⟨k,k1,⟨pE,k2,k3,k4,?_⟩,c⟩;rw[WhZ k2 g9,ht,c];simp
theorem Wen{l:List Opn}{m i:Nat}:((dep l (i+1) -dep l m)==(0:Int))=decide (dep l (i+1)=dep l m):=by
 by_cases h:dep l (i+1)=dep l m
 .simp[h]
 .have:dep l (i+1) -dep l m≠0:=by omega
  simp[h,this]
theorem Wj5{N:Nat}{l:List Opn}{m k:Nat}(hl:l.length<=1048576)(hN:1048576<N)(h8:∃h:m<l.length,l[m].1=8)(hm:Mate l m k):Zeu N l (m:Int)=ret (k:Int):=by
 obtain⟨gD,h8⟩:=h8;unfold Zeu;have e1:WN .i64 (We l) 1=(l.length:Int) -1:=Wax (by unfold I64 We;omega);have e2:(decide (0<=(m:Int))&&decide ((m:Int)<=(l.length:Int) -1))=true:=by simp;omega
 have e3:(l[m].1 !=8)=false:=by simp[h8]
 simp only[Wp,ret,Xd,e1,e2,Xah,cond_false,Wt gD,cond_true,Wz gD,e3];have key:∀(c n i:Nat),k-i=c->m<=i->i<=k->l.length-i<n->∀{R:Type} (K0:Int->Option R) (K1:Int->Int->Bool->Option R),Zcb N l K0 K1 n (dep l i-dep l m) (i:Int)=K0 k:=by
  intro c
  induction c with
  |zero=>
   intro n i h1 h2 h3 h4 R K0 K1;have:i=k:=by omega
   subst this;cases n with
   |zero=>omega
   |succ n=>
    have cz:=hm.len;have hd:=Wal cz;have hb:=WbV l i;have jb:=WbV l m;have ho:=Wgl l[i];have e:Wf .i64 (dep l i-dep l m) (opd l[i])=dep l (i+1) -dep l m:=by rw[WI (by unfold I64;omega),hd];omega
    simp only[Zcb,Waa cz,Wt cz,Wz cz,cond_true,Wd9,ret,Xd,e];rw[Wen];simp[hm.eq]
  |succ c ih=>
   intro n i h1 h2 h3 h4 R K0 K1;cases n with
   |zero=>omega
   |succ n=>
    have hk:=hm.len;have cz:i<l.length:=by omega
    have hd:=Wal cz;have hb:=WbV l i;have jb:=WbV l m;have ho:=Wgl l[i];have e:Wf .i64 (dep l i-dep l m) (opd l[i])=dep l (i+1) -dep l m:=by rw[WI (by unfold I64;omega),hd];omega
    have hne:=hm.ne i h2 (by omega);simp only[Zcb,Waa cz,Wt cz,Wz cz,cond_true,Wd9,ret,Xd,e,Wen,hne,decide_false,cond_false,Wj (show i<4611686018427387904 by omega)];exact ih n (i+1) (by omega) (by omega) (by omega) (by omega) K0 K1
 have:=key (k-m) N m rfl (Xl _) (by have:=hm.lt;omega) (by omega) (R:=Unit×Kj) (λbQ=>some ((),(bQ,()))) (λmi mn cE=>some ((),((-1:Int),())));rw[Int.sub_self]at this;exact this
theorem WkB{N:Nat}{l:List Opn}{m k:Nat}(hl:l.length<=1048576)(hN:1048576<N)(h8:∃h:m<l.length,l[m].1=8)(hm:Mate l m k):Zep N l (m:Int)=ret (k:Int):=by
 obtain⟨gD,h8⟩:=h8;unfold Zep;have e1:decide ((m:Int)<0)=false:=by simp
 have e2:decide ((m:Int)>=We l)=false:=by simp[We];omega
 have e3:(l[m].1 !=8)=false:=by simp[h8]
 simp only[e1,e2,cond_false,Wt gD,cond_true,Wz gD,e3];have step:∀(n i:Nat) (cz:i<l.length) {R:Type} (K0:Int->Option R) (K1:Int->Int->Bool->Option R),m<=i->Zaa N l K0 K1 (n+1) (dep l i-dep l m) (i:Int)=
   bif decide (dep l (i+1)=dep l m)then K0 i else Zaa N l K0 K1 n (dep l (i+1) -dep l m) ((i+1:Nat):Int):=by
  intro n i cz R K0 K1 oY;have hd:=Wal cz;have hb:=WbV l i;have jb:=WbV l m;have s1:Wf .i64 (dep l i-dep l m) 1=dep l i-dep l m+1:=WI (by unfold I64;omega);have s2:WN .i64 (dep l i-dep l m) 1=dep l i-dep l m-1:=Wax (by unfold I64;omega);simp only[Zaa,Waa cz,Wt cz,Wz cz,cond_true,Wj (show i<4611686018427387904 by omega),s1,s2];by_cases g8:l[i].1=8
  .have b8:(l[i].1==8)=true:=by simp[g8]
   have b9:(l[i].1==9)=false:=by simp[g8]
   have e:dep l i-dep l m+1=dep l (i+1) -dep l m:=by rw[hd,WoT g8];omega
   simp only[b8,b9,cond_true,cond_false,e,Wen]
  .have b8:(l[i].1==8)=false:=by simp[g8]
   by_cases g9:l[i].1=9
   .have b9:(l[i].1==9)=true:=by simp[g9]
    have e:dep l i-dep l m-1=dep l (i+1) -dep l m:=by rw[hd,WhM g9];omega
    simp only[b8,b9,cond_true,cond_false,e,Wen]
   .have b9:(l[i].1==9)=false:=by simp[g9]
    have e:dep l i-dep l m=dep l (i+1) -dep l m:=by rw[hd,Wpi g8 g9];omega
    simp only[b8,b9,cond_true,cond_false];rw[e,Wen]
 have key:∀(c n i:Nat),k-i=c->m<=i->i<=k->l.length-i<n->∀{R:Type} (K0:Int->Option R) (K1:Int->Int->Bool->Option R),Zaa N l K0 K1 n (dep l i-dep l m) (i:Int)=K0 k:=by
  intro c
  induction c with
  |zero=>
   intro n i h1 h2 h3 h4 R K0 K1;have:i=k:=by omega
   subst this;cases n with
   |zero=>omega
   |succ n=>rw[step n i hm.len K0 K1 h2];simp[hm.eq]
  |succ c ih=>
   intro n i h1 h2 h3 h4 R K0 K1;cases n with
   |zero=>omega
   |succ n=>
    have hk:=hm.len;have hne:=hm.ne i h2 (by omega);rw[step n i (by omega) K0 K1 h2];simp only[hne,decide_false,cond_false];exact ih n (i+1) (by omega) (by omega) (by omega) (by omega) K0 K1
 have:=key (k-m) N m rfl (Xl _) (by have:=hm.lt;omega) (by omega) (R:=Unit×Kj) (λbQ=>some ((),(bQ,()))) (λmi mn cE=>some ((),((-1:Int),())));rw[Int.sub_self]at this;exact this
end
section
abbrev Wd:=Int×Int×Int
abbrev Mm:=Int×List Wd
def Wmp(clock:Int)(w:Wd):Bool:=WaH w.1&&((decide (0<=w.2.1)&&decide (w.2.1<=clock))&&(decide (0<=w.2.2)&&decide (w.2.2<=99)))
def WaL(m:Mm):Bool:=decide (m.2.length=8)&&((decide (0<=m.1)&&decide (m.1<=1000000))&&m.2.all (Wmp m.1))
theorem Wei{N:Nat}{m:Mm}(hl:m.2.length<=1048576)(hN:1048576<N):Zds N m=ret (WaL m):=by
 unfold Zds WaL;have h1:=WG (l:=m.2) (V:=Unit) (R:=Unit×Km) (lp:=λn j v=>Zca N m.2 m (some ((),(false,()))) (λmh qv=>
  (bif (We m.2)==(8:Int)then
  ((Zr N m.1 (0:Int) (1000000:Int)).bind λjc=>
  (some ((),(jc.2.1,()))))
  else
  (some ((),(false,()))))) n j) (n:=N) (by omega)
  (body:=λj x v k=>bif !Wmp m.1 x then some ((),(false,()))else k v) (K:=λ_ v=>(bif (We m.2)==(8:Int)then
  ((Zr N m.1 (0:Int) (1000000:Int)).bind λjc=>
  (some ((),(jc.2.1,()))))
  else
  (some ((),(false,())))))
  (λn i v hi=>by
   simp only[Zca,Waa hi,Wt hi,Wz hi,Wj (show i<4611686018427387904 by omega),cond_true,Wo,Wp,ret,Xd,Wmp];cases WaH m.2[i].1<;>cases(decide (0<=m.2[i].2.1)&&decide (m.2[i].2.1<=m.1))<;>cases(decide (0<=m.2[i].2.2)&&decide (m.2[i].2.2<=99))<;>rfl)
  (λn v=>by simp only[Zca,Was (Xl m.2.length),cond_false]) ()
 refine h1.trans ?_;rw[Way (p:=λx=>!Wmp m.1 x) (E:=λ_=>some ((),(false,()))) m.2 0 () (λj x v k _=>rfl),Wdc];have e:((We m.2)==(8:Int))=decide (m.2.length=8):=by
  by_cases h:m.2.length=8
  .simp[We,h]
  .simp[We,h];omega
 simp only[e,Wp,ret,Xd];cases m.2.all (Wmp m.1)<;>cases decide (m.2.length=8)<;>simp
def wd0(v:Int):Wd:=(v,(0,0))
def WfR(l:List Int):Mm:=(0,l.map wd0)
theorem Wdq{α β R:Type}{body:Int->α->List β->(List β->Option R)->Option R}{K:Int->List β->Option R}{f:α->β}:∀(l:List α) (j:Nat) (o:List β),o.length+l.length<=1000000->
  (∀(j:Nat) x (v:List β) k,x∈l->body j x v k=bif WB (v.length+ [f x].length)then k (Xf v [f x])else none)->WbL body K l j o=K ((j+l.length:Nat):Int) (o++l.map f)
 | [],j,o,_,_=>by simp[WbL]
 |x::l,j,o,h,hb=>by
  rw[Xt]at h;rw[WbL,hb j x o _ (Xh ..),Wy (by simp;omega)];simp only[cond_true];rw[Wdq l (j+1) _ (by simp[List.append_eq];omega) λj y v k hy=>hb j y v k (Xe _ hy)];rw[Xt,show j+1+l.length=j+(l.length+1) by omega];simp
theorem Wgx{N:Nat}{l:List Int}(h:WbS l=true)(hN:1048576<N):Zd3 N l=some ((),(WfR l,(true,()))):=by
 have hl:l.length=8:=by unfold WbS at h;simp at h;exact h.1
 unfold Zd3;simp only[Wb4 (show l.length<=1048576 by omega) hN,ret,Xd,h,Xah,cond_false];have h1:=WG (l:=l) (V:=List Wd) (R:=Unit×(Mm×Km)) (lp:=λn j v=>Zbq N l (λbG bQ cO=>(some ((),(((0:Int),cO),(true,()))))) n j v) (n:=N) (by omega)
  (body:=λj x v k=>bif WB (v.length+ [wd0 x].length)then k (Xf v [wd0 x])else none) (K:=λ_ v=>some ((),(((0:Int),v),(true,()))))
  (λn i v hi=>by simp only[Zbq,Waa hi,Wt hi,Wz hi,Wj (show i<4611686018427387904 by omega),cond_true,wd0])
  (λn v=>by simp only[Zbq,Was (Xl l.length),cond_false]) []
 refine h1.trans ?_;rw[Wdq (f:=wd0) l 0 [] (by simp;omega) (λj x v k _=>rfl)];rfl
theorem W2{m:Mm}(h:WaL m=true):m.2.length=8/\0<=m.1/\m.1<=1000000/\∀w∈m.2,Wmp m.1 w=true:=by
 unfold WaL at h;simp only[Xi,decide_eq_true_eq,Xai]at h;exact⟨h.1,h.2.1.1,h.2.1.2,h.2.2⟩
def WeE(m:Mm):Mm×Int:=if m.1<1000000 then((m.1+1,m.2),m.1+1)else(m,0)
theorem Wjl{N:Nat}{m:Mm}(h:WaL m=true)(hN:1048576<N):Zh9 N m=some ((),((WeE m).1,((WeE m).2,()))):=by
 obtain⟨h8,h0,h1,_⟩:=W2 h;have e:Zgb N m=ret m:=by unfold Zgb;rw[Wy (by omega)];rfl
 unfold Zh9 WeE;simp only[e,Wei (show m.2.length<=1048576 by omega) hN,ret,Xd,h,Xah,cond_false];by_cases hc:m.1<1000000
 .have e2:(m.1==1000000)=false:=by simp;omega
  have e3:Wf .i64 m.1 1=m.1+1:=WI (by unfold I64;omega);rw[e2,if_pos hc,e3];rfl
 .have e2:(m.1==1000000)=true:=by simp;omega
  rw[e2,if_neg hc];rfl
abbrev Pb:=Int×Int×Int×Int
def WjW(p:Pb):Bool:=WO p.1&&((decide (0<=p.2.1)&&decide (p.2.1<=4))&&((decide (0<=p.2.2.1)&&decide (p.2.2.1<=1000000))&&WaH p.2.2.2))
theorem Wjn{N:Nat}{p:Pb}:Zga N p=ret (WjW p):=by
 unfold Zga WjW;simp only[Wn,Wp,Wo,ret,Xd];cases WO p.1<;>cases(decide (0<=p.2.1)&&decide (p.2.1<=4))<;>cases(decide (0<=p.2.2.1)&&decide (p.2.2.1<=1000000))<;>simp
def WM(m:Mm)(rv:Int)(p:Pb):Pb:=
 let w:=Xc m.2 (Xb p.1) (0,(0,0))
 bif p.2.1==0 then(bif w.2.2==0 then(bif decide (w.2.1<=rv)then(p.1,(1,(w.2.1,p.2.2.2)))else(p.1,(4,p.2.2)))else(p.1,(4,p.2.2)))
 else bif p.2.1==1 then(p.1,(2,(p.2.2.1,w.1)))
 else bif p.2.1==2 then(bif w.2.2==0 then(bif w.2.1==p.2.2.1 then(p.1,(3,p.2.2))else(p.1,(4,p.2.2)))else(p.1,(4,p.2.2)))
 else p
theorem WqC{m:Mm}{p:Pb}(h:WaL m=true)(hp:WjW p=true):inb p.1 m.2.length=true:=by
 have h1:=(W2 h).1;unfold WjW WO at hp;simp at hp;unfold inb;rw[h1];simp;omega
theorem WgU{N:Nat}{m:Mm}{rv:Int}{p:Pb}(h:WaL m=true)(hp:WjW p=true)(hN:1048576<N):Zdt N m rv p=ret (WM m rv p):=by
 have h1:=(W2 h).1;unfold Zdt WM;simp only[Wei (show m.2.length<=1048576 by omega) hN,Wjn,ret,Xd,h,hp,Xah,cond_false,WqC h hp,cond_true];generalize Xc m.2 (Xb p.1) (0,(0,0))=w;cases p.2.1==0<;>cases p.2.1==1<;>cases p.2.1==2<;>cases w.2.2==0<;>cases decide (w.2.1<=rv)<;>cases w.2.1==p.2.2.1<;>rfl
def Wdx(l:List Rw)(c:Int):Nat->Option Int
 |0=>none
 |i+1=>if(Xc l i (0,0)).1=c then some (Xc l i (0,0)).2 else Wdx l c i
def WaF(l:List Rw)(c:Int):Option Int:=if Wa1 l=true then Wdx l c l.length else none
def opI(o:Option Int):Option (Unit×(Int×Km)):=match o with
 |none=>some ((),((0:Int),(false,())))
 |some v=>some ((),(v,(true,())))
theorem WfH{N:Nat}{l:List Rw}{c:Int}(hl:l.length<=1048576):∀(i n:Nat),i<n->i<=l.length->Zdb N l c (λaN=>(some ((),(aN,(true,()))))) (λpf bG=>(some ((),((0:Int),(false,()))))) n ((i:Int) -1)=opI (Wdx l c i)
 |i,0,h,_=>by omega
 |0,n+1,h,_=>rfl
 |i+1,n+1,h,hi=>by
  have e:((i+1:Nat):Int) -1=(i:Int):=by omega
  have e1:decide ((i:Int)>=0)=true:=by simp
  have e2:WN .i64 (i:Int) 1=(i:Int) -1:=Wax (by unfold I64;omega);rw[e,Zdb,e1,Wt (show i<l.length by omega),e2,Wdx,Xp];simp only[cond_true];by_cases hc:(Xc l i ((0:Int),(0:Int))).1=c
  .rw[if_pos hc,beq_iff_eq.2 hc];rfl
  .rw[if_neg hc,beq_eq_false_iff_ne.2 hc];exact WfH hl i n (by omega) (by omega)
theorem Wm6{α:Type}{l:List α}(hl:l.length<=1048576):WN .i64 (We l) 1=((l.length:Nat):Int) -1:=by unfold We;exact Wax (by unfold I64;omega)
theorem Wfc{N:Nat}{l:List Rw}{c:Int}(hl:l.length<=1048576)(hN:1048576<N):Zek N l c=opI (WaF l c):=by
 unfold Zek WaF;simp only[Wa3 hl hN,ret,Xd];cases Wa1 l
 .rfl
 .simp only[Xah,cond_false,if_true,Wm6 hl];exact WfH hl l.length N (by omega) (Xl _)
end
section
def Wih(l:List Rw)(o:List Rw)(c:Nat):List Rw:=match WaF l c with
 |none=>o
 |some v=>o++ [((c:Int),v)]
def Wh9(l:List Rw):Nat->Nat->List Rw->List Rw
 |0,_,o=>o
 |j+1,c,o=>Wh9 l j (c+1) (Wih l o c)
def WbI(l:List Rw):List Rw:=Wh9 l 8 0 []
theorem WeD{N:Nat}{l:List Rw}(hl:l.length<=1048576)(hN:1048576<N):∀(j n c:Nat) (o:List Rw),c+j=8->j<n->o.length<=c->Zcz N l (λaV bG dw=>(some ((),(dw,())))) n (c:Int) o=ret (Wh9 l j c o)
 |j,0,c,o,_,h,_=>by omega
 |0,n+1,c,o,h,_,_=>by
  have:c=8:=by omega
  subst this;rfl
 |j+1,n+1,c,o,h,h1,ho=>by
  have e:decide ((c:Int)<8)=true:=by simp;omega
  rw[Zcz,e,Wfc hl hN,Wj (by omega),Wh9,Wih];simp only[cond_true];rcases WaF l c with _|v
  .exact WeD hl hN j n (c+1) o (by omega) (by omega) (by omega)
  .have er:WB (o.length+ [((c:Int),v)].length)=true:=Wy (by simp;omega);simp only[opI,Xd,cond_true,er];exact WeD hl hN j n (c+1) _ (by omega) (by omega) (by simp;omega)
theorem WiL{l:List Rw}(h:Wa1 l=false):∀(j c:Nat) (o:List Rw),Wh9 l j c o=o
 |0,_,_=>rfl
 |j+1,c,o=>by
  have e:WaF l c=none:=by unfold WaF;rw[h];rfl
  rw[Wh9,Wih,e];exact WiL h j (c+1) o
theorem Wgg{N:Nat}{l:List Rw}(hl:l.length<=1048576)(hN:1048576<N):Zd8 N l=ret (WbI l):=by
 unfold Zd8;simp only[Wa3 hl hN,ret,Xd];cases h:Wa1 l
 .unfold WbI;rw[WiL h];rfl
 .exact WeD hl hN 8 N 0 [] rfl (by omega) (by simp)
def fnd{α:Type}(p:α->Bool):List α->Nat->Option (Nat×α)
 | [],_=>none
 |x::l,j=>bif p x then some (j,x)else fnd p l (j+1)
theorem Wfz{α V R:Type}{body:Int->α->V->(V->Option R)->Option R}{K:Int->V->Option R}{p:α->Bool}{E:Int->α->Option R}:∀(l:List α) (j:Nat) (v:V),(∀(j:Nat) x v k,x∈l->body j x v k=bif p x then E j x else k v)->
  WbL body K l j v=match fnd p l j with|some r=>E r.1 r.2|none=>K ((j+l.length:Nat):Int) v
 | [],j,v,_=>rfl
 |x::l,j,v,h=>by
  rw[WbL,h j x v _ (Xh ..),fnd,Wfz l (j+1) v λj y v k hy=>h j y v k (Xe _ hy)];cases p x
  .simp only[cond_false];rw[Xt,show j+1+l.length=j+(l.length+1) by omega]
  .rfl
theorem WdP{α:Type}{p:α->Bool}:∀{l:List α} {j:Nat} {r:Nat×α},fnd p l j=some r->p r.2=true/\j<=r.1/\r.1<j+l.length/\l[r.1-j]?=some r.2
 | [],j,r,h=>by cases h
 |x::l,j,r,h=>by
  rw[fnd]at h;cases hp:p x
  .rw[hp]at h;obtain⟨h1,h2,h3,h4⟩:=WdP (l:=l) h;refine⟨h1,by omega,by rw[Xt];omega,?_⟩;obtain⟨q,hq⟩:∃q,r.1-j=q+1:=⟨r.1-j-1,by omega⟩;rw[hq,List.getElem?_cons_succ];rw[show r.1-(j+1)=q by omega]at h4;exact h4
  .rw[hp]at h;cases h;exact⟨hp,Xl _,by simp,by simp⟩
theorem Wh5{α:Type}{p:α->Bool}:∀{l:List α} {j:Nat},fnd p l j=none->∀x∈l,p x=false
 | [],j,h=>by simp
 |x::l,j,h=>by
  rw[fnd]at h;cases hp:p x
  .rw[hp]at h;intro y hy;rcases Xm.1 hy with rfl|hy
   .exact hp
   .exact Wh5 h y hy
  .rw[hp]at h;cases h
abbrev En:=Int×Int×Int
def ent(b:List En)(c:Int):Option (Nat×En):=fnd (λe=>e.1==c) b 0
theorem WdN{N:Nat}{f:Y_Family}{c:Int}(hl:f.2.2.2.2.2.2.1.length<=1048576)(hN:1048576<N):Zaw N f c=ret (match ent f.2.2.2.2.2.2.1 c with|some r=>(r.1:Int)|none=>-1):=by
 unfold Zaw;show((Zh N f.2.2.2.2.2.2.1 c).bind _)=_;generalize f.2.2.2.2.2.2.1=b at hl;unfold Zh ent;have h1:=WG (l:=b) (V:=Unit) (R:=Kj×Kj) (lp:=λn j v=>Zd N b (λfo aT=>(some ((aT,()),(fo,())))) (λmh qv ek=>(some ((ek,()),((-1:Int),())))) n j c) (n:=N) (by omega)
  (body:=λj x v k=>bif x.1==c then some ((c,()),(j,()))else k v) (K:=λ_ v=>some ((c,()),((-1:Int),())))
  (λn i v hi=>by simp only[Zd,Zet,Waa hi,Wt hi,Wz hi,Wj (show i<4611686018427387904 by omega),cond_true,Xd])
  (λn v=>by simp only[Zd,Was (Xl b.length),cond_false]) ()
 rw[h1,Wfz (p:=λe=>e.1==c) (E:=λj x=>some ((c,()),(j,()))) b 0 () (λj x v k _=>rfl)];cases fnd (λe:En=>e.1==c) b 0<;>rfl
theorem WqN{N:Nat}{l:List Int}(h:l.length<=1048576):Zf9 N l=ret l:=by
 unfold Zf9;rw[Wy (by simp;omega)];rfl
theorem WbT{N:Nat}{l:List Int}(h:l.length<=1048576):Z2 N l=ret l:=by
 unfold Z2;rw[Wy (by omega)];rfl
theorem WmA{N:Nat}{l:List Rw}(h:l.length<=1048576):Zfm N l=ret l:=by
 unfold Zfm;rw[Wy (by omega)];rfl
end
section
theorem WkY{N:Nat}{o:Opn}:∃t:Int,Zao N o=ret t/\Zeq N o=ret t:=by
 unfold Zao Zeq;rw[Wbf,WeN];simp only[ret,Xd];cases W3 o
 .exact⟨0,rfl,rfl⟩
 .cases o.1==5<;>cases o.1==6<;>cases o.1==12<;>cases o.1==13<;>cases o.1==14<;>cases o.1==15<;>cases o.1==16<;>exact⟨_,rfl,rfl⟩
noncomputable def Wgn(o:Opn):Int:=match Zao 0 o with|some (_,(t,_))=>t|none=>0
theorem Wqo{N:Nat}{o:Opn}:Zao N o=Zao 0 o:=by
 unfold Zao;rw[Wbf,Wbf]
theorem WbB{N:Nat}{o:Opn}:Zao N o=ret (Wgn o):=by
 rw[Wqo];obtain⟨t,h,_⟩:=WkY (N:=0) (o:=o);unfold Wgn;rw[h]
theorem Whm{N:Nat}{o:Opn}:Zeq N o=ret (Wgn o):=by
 obtain⟨t,h,h2⟩:=WkY (N:=N) (o:=o);rw[h2,←h,WbB]
noncomputable def Wc4(o:Opn):Bool:=(o.1==11)||(Wgn o==2)
noncomputable def Wce(l:List Opn):Bool:=WnV l&& !l.any Wc4
theorem WiJ{N:Nat}{l:List Opn}(hl:l.length<=1048576)(hN:1048576<N):Zdj N l=ret (l.any λo=>o.1==11):=by
 unfold Zdj;have h1:=WG (l:=l) (V:=Unit) (R:=Unit×Km) (lp:=λn j v=>Za1 N l (some ((),(true,()))) (λi8 t9=>some ((),(false,()))) n j) (n:=N) (by omega)
  (body:=λj x v k=>bif x.1==11 then some ((),(true,()))else k v) (K:=λ_ v=>some ((),(false,())))
  (λn i v hi=>by simp only[Za1,Waa hi,Wt hi,Wz hi,Wj (show i<4611686018427387904 by omega),cond_true])
  (λn v=>by simp only[Za1,Was (Xl l.length),cond_false]) ()
 refine h1.trans ?_;rw[Way (p:=λx:Opn=>x.1==11) (E:=λ_=>some ((),(true,()))) l 0 () (λj x v k _=>rfl)];cases l.any λo:Opn=>o.1==11<;>rfl
theorem Wgp{N:Nat}{l:List Opn}(hl:l.length<=1048576)(hN:1048576<N):Zc7 N l=ret (Wce l):=by
 unfold Zc7 Wce;simp only[Wjx hl hN,ret,Xd];cases WnV l with
 |false=>rfl
 |true=>
  simp only[WiJ hl hN,ret,Xd,Xah,cond_false,Xca];have h1:=WG (l:=l) (V:=Unit) (R:=Unit×Km) (lp:=λn j v=>Zb7 N l (some ((),(false,()))) (λi8 t9=>some ((),(true,()))) n j) (n:=N) (by omega)
   (body:=λj x v k=>bif Wgn x==2 then some ((),(false,()))else k v) (K:=λ_ v=>some ((),(true,())))
   (λn i v hi=>by simp only[Zb7,Waa hi,Wt hi,Wz hi,Wj (show i<4611686018427387904 by omega),cond_true,WbB,ret,Xd])
   (λn v=>by simp only[Zb7,Was (Xl l.length),cond_false]) ()
  (try simp only[]at h1)
  rw[h1,Way (p:=λx=>Wgn x==2) (E:=λ_=>some ((),(false,()))) l 0 () (λj x v k _=>rfl)];have e:l.any Wc4=((l.any λo=>o.1==11)||l.any λo=>Wgn o==2):=by
   clear h1 hl
   induction l with
   |nil=>rfl
   |cons x l ih=>
    simp only[List.any_cons,ih,Wc4];cases x.1==11<;>cases Wgn x==2<;>simp
  rw[e];cases l.any λo:Opn=>o.1==11<;>cases l.any λo=>Wgn o==2<;>rfl
theorem Wkl{N:Nat}{l:List Opn}(hl:l.length<=1048576)(hN:1048576<N):Zdr N l=ret (Wce l):=by
 unfold Zdr Wce;have h1:=WG (l:=l) (V:=Unit) (R:=Unit×Km) (lp:=λn j v=>Zb8 N l (some ((),(false,()))) (λaV bG=>((Zdh N l).bind λcX=>(some ((),(cX.2.1,()))))) n j) (n:=N) (by omega)
  (body:=λj x v k=>bif Wc4 x then some ((),(false,()))else k v) (K:=λ_ v=>ret (WnV l))
  (λn i v hi=>by
   simp only[Zb8,Waa hi,Wt hi,Wz hi,Wj (show i<4611686018427387904 by omega),cond_true,Whm,ret,Xd,Wc4];cases l[i].1==11<;>rfl)
  (λn v=>by simp only[Zb8,Was (Xl l.length),cond_false,Wjw hl hN,ret,Xd]) ()
 refine h1.trans ?_;rw[Way (p:=Wc4) (E:=λ_=>some ((),(false,()))) l 0 () (λj x v k _=>rfl)];cases l.any Wc4<;>cases WnV l<;>rfl
def Wa4(l:List Int):Bool:=decide (l.length=4)&&l.all WaH
theorem Wc2{N:Nat}{l:List Int}(hl:l.length<=1048576)(hN:1048576<N):Zcu N l=ret (Wa4 l):=by
 unfold Zcu Wa4;by_cases h:l.length=4
 .have e:(We l !=4)=false:=by simp[We,h]
  rw[e];simp only[cond_false];have h1:=WG (l:=l) (V:=Unit) (R:=Unit×Km) (lp:=λn j v=>Zbm N l (some ((),(false,()))) (λi8 t9=>some ((),(true,()))) n j) (n:=N) (by omega)
   (body:=λj x v k=>bif !WaH x then some ((),(false,()))else k v) (K:=λ_ v=>some ((),(true,())))
   (λn i v hi=>by simp only[Zbm,Waa hi,Wt hi,Wz hi,Wj (show i<4611686018427387904 by omega),cond_true,Wx,ret,Xd])
   (λn v=>by simp only[Zbm,Was (Xl l.length),cond_false]) ()
  refine h1.trans ?_;rw[Way (p:=λx=>!WaH x) (E:=λ_=>some ((),(false,()))) l 0 () (λj x v k _=>rfl),Wdc];cases l.all WaH<;>simp[h]
 .have e:(We l !=4)=true:=by simp[We];omega
  rw[e];simp[h]
theorem WbZ{N:Nat}{l:List Int}(hl:l.length<=1048576)(hN:1048576<N):Zq N l 4=ret (Wa4 l):=by
 unfold Zq Wa4;have h1:=WG (l:=l) (V:=Unit) (R:=Unit×Km) (lp:=λn j v=>Z1 N l 4 (some ((),(false,()))) (λi8 t9=>some ((),((We l)==(4:Int),()))) n j) (n:=N) (by omega)
  (body:=λj x v k=>bif !WaH x then some ((),(false,()))else k v) (K:=λ_ v=>some ((),((We l)==(4:Int),())))
  (λn i v hi=>by simp only[Z1,Waa hi,Wt hi,Wz hi,Wj (show i<4611686018427387904 by omega),cond_true,Wo,ret,Xd])
  (λn v=>by simp only[Z1,Was (Xl l.length),cond_false]) ()
 refine h1.trans ?_;rw[Way (p:=λx=>!WaH x) (E:=λ_=>some ((),(false,()))) l 0 () (λj x v k _=>rfl),Wdc];have e:((We l)==(4:Int))=decide (l.length=4):=by
  by_cases h:l.length=4
  .simp[We,h]
  .simp[We,h];omega
 rw[e];cases l.all WaH<;>simp
end
section
section
variable{o:Opn}
theorem Wj1(h:W3 o=true)(h1:1<=o.1)(h4:o.1<=4):Wg o.2.1=true/\(o.1=1->WaH o.2.2.1=true)/\(o.1≠1->Wg o.2.2.1=true/\Wg o.2.2.2=true):=by
 obtain⟨k,a,b,c⟩:=o;simp only at h1 h4;have:k=1\/k=2\/k=3\/k=4:=by omega
 rcases this with rfl|rfl|rfl|rfl
 .have:(Wg a&&WaH b&&(c==(0:Int)))=true:=h;simp only[Xi]at this;exact⟨this.1.1,λ_=>this.1.2,λh=>absurd rfl h⟩
 all_goals
  have:(Wg a&&Wg b&&Wg c)=true:=h;simp only[Xi]at this;exact⟨this.1.1,λh=>by simp at h,λ_=>⟨this.1.2,this.2⟩⟩
theorem WpC(h:W3 o=true)(h5:o.1=5):Wg o.2.1=true/\WO o.2.2.1=true:=by
 obtain⟨k,a,b,c⟩:=o;simp only at h5;subst h5;have:(Wg a&&WO b&&(c==(0:Int)))=true:=h;simp only[Xi]at this;exact this.1
theorem WqW(h:W3 o=true)(h5:o.1=6):WO o.2.1=true/\Wg o.2.2.1=true:=by
 obtain⟨k,a,b,c⟩:=o;simp only at h5;subst h5;have:(WO a&&Wg b&&(c==(0:Int)))=true:=h;simp only[Xi]at this;exact this.1
theorem WqA(h:W3 o=true)(h5:o.1=7):Wg o.2.1=true/\1<=o.2.2.1/\o.2.2.1<=20:=by
 obtain⟨k,a,b,c⟩:=o;simp only at h5;subst h5;have:(Wg a&&(decide (1<=b)&&decide (b<=20))&&(c==(0:Int)))=true:=h;simp only[Xi,decide_eq_true_eq]at this;exact⟨this.1.1,this.1.2.1,this.1.2.2⟩
theorem WqY(h:W3 o=true)(h5:o.1=8):Wg o.2.1=true:=by
 obtain⟨k,a,b,c⟩:=o;simp only at h5;subst h5;have:(Wg a&&(b==(0:Int))&&(c==(0:Int)))=true:=h;simp only[Xi]at this;exact this.1.1
theorem WoG(h:W3 o=true):1<=o.1/\o.1<=16:=by
 by_cases hk:1<=o.1/\o.1<=16
 .exact hk
 .exfalso;have e:∀n:Int,1<=n->n<=16->(o.1==n)=false:=λn h1 h2=>by simp;omega
  unfold W3 at h;rw[e 1 (by omega) (by omega),e 2 (by omega) (by omega),e 3 (by omega) (by omega),e 4 (by omega) (by omega),e 5 (by omega) (by omega),e 6 (by omega) (by omega),e 7 (by omega) (by omega),e 8 (by omega) (by omega),
   e 9 (by omega) (by omega),e 10 (by omega) (by omega),e 11 (by omega) (by omega),e 12 (by omega) (by omega),e 13 (by omega) (by omega),e 14 (by omega) (by omega),e 15 (by omega) (by omega),e 16 (by omega) (by omega)]at h
  cases h
end
theorem WaZ{x:Int}{l:List Int}(h:Wg x=true)(hl:l.length=4):inb x l.length=true:=by
 unfold Wg at h;simp at h;unfold inb;simp;omega
theorem WlA{x:Int}{l:List Int}(h:WO x=true)(hl:l.length=8):inb x l.length=true:=by
 unfold WO at h;simp at h;unfold inb;simp;omega
structure Vals(n:Nat)(l:List Int):Prop where
 len:l.length=n
 val:∀x∈l,0<=x/\x<=65535
theorem Vals.get{n:Nat}{l:List Int}(h:Vals n l)(i:Nat):0<=l.getD i 0/\l.getD i 0<=65535:=by
 by_cases hi:i<l.length
 .rw[WE hi];exact h.val _ (Xac hi)
 .rw[Xv,Xbf (by omega)];simp
theorem Vals.set{n:Nat}{l:List Int}(h:Vals n l)(i:Nat){x:Int}(hx:0<=x/\x<=65535):Vals n (l.set i x):=
 ⟨by rw[Xad];exact h.len,λy hy=>by
  rcases Xdi hy with hy|hy
  .exact h.val y hy
  .rw[hy];exact hx⟩
theorem Wc9{x:Int}:WaH x=true↔0<=x/\x<=65535:=by unfold WaH;simp
theorem WbE{l:List Int}:Wa4 l=true↔Vals 4 l:=by
 unfold Wa4;rw[Xi,decide_eq_true_eq,Xai];exact⟨λh=>⟨h.1,λx hx=>Wc9.1 (h.2 x hx)⟩,λh=>⟨h.len,λx hx=>Wc9.2 (h.val x hx)⟩⟩
theorem WbC{l:List Int}:WbS l=true↔Vals 8 l:=by
 unfold WbS;rw[Xi,decide_eq_true_eq,Xai];exact⟨λh=>⟨h.1,λx hx=>Wc9.1 (h.2 x hx)⟩,λh=>⟨h.len,λx hx=>Wc9.2 (h.val x hx)⟩⟩
def WfW(o:Opn)(r:List Int):List Int:=
 bif o.1==1 then r.set o.2.1.toNat o.2.2.1 else
 bif o.1==2 then r.set o.2.1.toNat ((r.getD o.2.2.1.toNat 0+r.getD o.2.2.2.toNat 0)%65536)else
 bif o.1==3 then r.set o.2.1.toNat ((r.getD o.2.2.1.toNat 0-r.getD o.2.2.2.toNat 0+65536)%65536)else
 bif decide (r.getD o.2.2.1.toNat 0<r.getD o.2.2.2.toNat 0)then r.set o.2.1.toNat 1 else r.set o.2.1.toNat 0
theorem Weh{x:Int}(h:0<=x):WgB x 65536=x%65536:=by unfold WgB;exact Int.tmod_eq_emod_of_nonneg h
theorem Wk0{o:Opn}{r:List Int}(h:W3 o=true)(h1:1<=o.1)(h4:o.1<=4)(hr:Vals 4 r):Vals 4 (WfW o r):=by
 obtain⟨_,hv,_⟩:=Wj1 h h1 h4;unfold WfW;cases e1:o.1==1
 .cases o.1==2
  .cases o.1==3
   .cases decide (r.getD o.2.2.1.toNat 0<r.getD o.2.2.2.toNat 0)
    .exact hr.set _ (by omega)
    .exact hr.set _ (by omega)
   .exact hr.set _ (by omega)
  .exact hr.set _ (by omega)
 .exact hr.set _ (Wc9.1 (hv (by simpa using e1)))
section
variable{N:Nat}{o:Opn}{r:List Int}
theorem Wjf(hN:1048576<N)(h:W3 o=true)(h1:1<=o.1)(h4:o.1<=4)(hr:Vals 4 r):Zh8 N o r=some ((),(WfW o r,(true,()))):=by
 obtain⟨ha,hv,pj⟩:=Wj1 h h1 h4;unfold Zh8 Z2;have e0:WB r.length=true:=Wy (by rw[hr.len];omega);have e4:decide (o.1>4)=false:=by simp;omega
 have e5:Wa4 r=true:=WbE.2 hr;have ea:=WaZ ha hr.len;have ez:inz 65536=true:=rfl;have gb:=hr.get o.2.2.1.toNat;have gc:=hr.get o.2.2.2.toNat;simp only[e0,cond_true,Xd,WeN,ret,h,Xah,cond_false,e4,WbZ (l:=r) (by rw[hr.len];omega) hN,e5,ea,ez];unfold WfW;by_cases k1:o.1=1
 .have b:(o.1==1)=true:=by simp[k1]
  rw[b];rfl
 .have b:(o.1==1)=false:=by simp[k1]
  obtain⟨hb,hc⟩:=pj k1;rw[b];simp only[cond_false,WaZ hb hr.len,WaZ hc hr.len,cond_true,Xad,ea];have s1:Wf .i64 (r.getD o.2.2.1.toNat 0) (r.getD o.2.2.2.toNat 0)=r.getD o.2.2.1.toNat 0+r.getD o.2.2.2.toNat 0:=WI (by unfold I64;omega);have s2:WN .i64 (r.getD o.2.2.1.toNat 0) (r.getD o.2.2.2.toNat 0)=r.getD o.2.2.1.toNat 0-r.getD o.2.2.2.toNat 0:=Wax (by unfold I64;omega);have s3:Wf .i64 (r.getD o.2.2.1.toNat 0-r.getD o.2.2.2.toNat 0) 65536=r.getD o.2.2.1.toNat 0-r.getD o.2.2.2.toNat 0+65536:=WI (by unfold I64;omega);rw[s1,s2,s3,Weh (by omega),Weh (by omega)];cases o.1==2
  .cases o.1==3
   .simp only[cond_false,WJ,Xdq];cases decide (r.getD o.2.2.1.toNat 0<r.getD o.2.2.2.toNat 0)<;>rfl
   .rfl
  .rfl
theorem WiQ(hN:1048576<N)(h:W3 o=true)(h1:1<=o.1)(h4:o.1<=4)(hr:Vals 4 r):Zh7 N o r=some ((),(WfW o r,(true,()))):=by
 obtain⟨ha,hv,pj⟩:=Wj1 h h1 h4;unfold Zh7;have e0:WB (([]:List Int).length+r.length)=true:=Wy (by rw[hr.len];simp);have e4:decide (o.1>4)=false:=by simp;omega
 have e5:Wa4 r=true:=WbE.2 hr;have ea:=WaZ ha hr.len;have ez:inz 65536=true:=rfl;have en:Xf ([]:List Int) r=r:=rfl;have gb:=hr.get o.2.2.1.toNat;have gc:=hr.get o.2.2.2.toNat;simp only[e0,cond_true,Xd,Wbf,ret,h,Xah,cond_false,e4,Wc2 (l:=r) (by rw[hr.len];omega) hN,e5,ea,ez,en];unfold WfW;by_cases k1:o.1=1
 .have b:(o.1==1)=true:=by simp[k1]
  rw[b];rfl
 .have b:(o.1==1)=false:=by simp[k1]
  obtain⟨hb,hc⟩:=pj k1;rw[b];simp only[cond_false,WaZ hb hr.len,WaZ hc hr.len,cond_true,Xad,ea];have s1:Wf .i64 (r.getD o.2.2.1.toNat 0) (r.getD o.2.2.2.toNat 0)=r.getD o.2.2.1.toNat 0+r.getD o.2.2.2.toNat 0:=WI (by unfold I64;omega);have s2:WN .i64 (r.getD o.2.2.1.toNat 0) (r.getD o.2.2.2.toNat 0)=r.getD o.2.2.1.toNat 0-r.getD o.2.2.2.toNat 0:=Wax (by unfold I64;omega);have s3:Wf .i64 (r.getD o.2.2.1.toNat 0-r.getD o.2.2.2.toNat 0) 65536=r.getD o.2.2.1.toNat 0-r.getD o.2.2.2.toNat 0+65536:=WI (by unfold I64;omega);rw[s1,s2,s3,Weh (by omega),Weh (by omega)];cases o.1==2
  .cases o.1==3
   .simp only[cond_false,WJ,Xdq];cases decide (r.getD o.2.2.1.toNat 0<r.getD o.2.2.2.toNat 0)<;>rfl
   .rfl
  .rfl
end
def WeC(c:List Int)(rows:List Rw):List Int:=rows.foldr (λr c=>c.set r.1.toNat r.2) c
def WdJ(l:List Rw):Prop:=∀r∈l,(0<=r.1/\r.1<=7)/\0<=r.2/\r.2<=65535
theorem Wij{l:List Rw}:l.all Wgm=true↔WdJ l:=by
 rw[Xai];unfold WdJ Wgm WO WaH;simp
theorem Whj{c:List Int}(hc:Vals 8 c):∀{l:List Rw},WdJ l->Vals 8 (WeC c l)
 | [],_=>hc
 |r::l,h=>by
  have ih:=Whj hc (l:=l) λx hx=>h x (Xe _ hx);exact ih.set _ (h r (Xh ..)).2
theorem Wng(c:List Int)(l:List Rw)(r:Rw):WeC c (l++ [r])=WeC (c.set r.1.toNat r.2) l:=by
 unfold WeC;rw[List.foldr_append];rfl
end
section
def Wra(f:Y_Family)(k:Nat)(x:Y_KidRun):Y_Family:=U9 (Xo (Q9 f) k x) f
def again(f:Y_Family)(x:Y_KidRun):Y_KidRun:=(0,(0,(f.2.1,(x.2.2.2.1+1,(0,(0,(P4 f,([],([],([],(false,(0,(0,(0,0))))))))))))))
def Wld(x:Y_KidRun)(c:Int):Pb:=bif P10 x then Q11 x else(c,(0,(0,0)))
def WfV(m:Mm)(f:Y_Family)(x:Y_KidRun)(o:Int×Int×Int×Int):Y_Family×Y_KidRun:=
 match WaF (P8 x) o.2.2.1 with
 |some v=>(f,S6 (Xo (P6 x) (Xb o.2.1) v) (S1 (x.2.1+1) x))
 |none=>match ent (P6 f) o.2.2.1 with
  |some r=>bif decide (r.2.2.2>x.2.2.1)then(f,again f x)else(f,S7 (P7 x++ [r.2]) (S6 (Xo (P6 x) (Xb o.2.1) r.2.2.1) (S1 (x.2.1+1) x)))
  |none=>
   bif (WM m f.1 (Wld x o.2.2.1)).2.1==4 then(S3 true f,U11 (WM m f.1 (Wld x o.2.2.1)) (S10 true x))else
   bif (WM m f.1 (Wld x o.2.2.1)).2.1==3 then(f,U14 0 (S13 0 (S12 0 (S11 0 (S10 false (S7 (P7 x++ [(o.2.2.1,((WM m f.1 (Wld x o.2.2.1)).2.2.2,-1))]) (S6 (Xo (P6 x) (Xb o.2.1) (WM m f.1 (Wld x o.2.2.1)).2.2.2) (S1 (x.2.1+1) x))))))))else
   (f,U11 (WM m f.1 (Wld x o.2.2.1)) (S10 true x))
structure ReadOk(m:Mm)(f:Y_Family)(x:Y_KidRun)(o:Int×Int×Int×Int):Prop where
 mem:WaL m=true
 regs:(P6 x).length=4
 famr:(P4 f).length=4
 rA:0<=o.2.1/\o.2.1<=3
 cB:WO o.2.2.1=true
 seen:(P7 x).length<=1000
 wr:(P8 x).length<=1000
 buf:(P6 f).length<=1000
 ver:∀e∈P6 f,0<=e.2.2
 since:0<=x.2.2.1
 pc:0<=x.2.1/\x.2.1<=1000
 tries:0<=x.2.2.2.1/\x.2.2.2.1<=100000
 pb:P10 x=true->WjW (Q11 x)=true
theorem ReadOk.pbO{m:Mm}{f:Y_Family}{x:Y_KidRun}{o:Int×Int×Int×Int}(h:ReadOk m f x o):WjW (Wld x o.2.2.1)=true:=by
 unfold Wld;cases hb:P10 x
 .have:=h.cB;unfold WjW;simp[this,WaH]
 .exact h.pb hb
theorem WoV{x:Y_KidRun}(h:P10 x=true):S10 true x=x:=by rw[←h];rfl
theorem WjB{a:Int}(h:0<=a/\a<=1000000):Wf .i64 a 1=a+1:=WI (by unfold I64;omega)
theorem rgI{r:List Int}{a:Int}(h:r.length=4)(ha:0<=a/\a<=3):inb a r.length=true:=by unfold inb;rw[h];simp;omega
theorem Wc3{N:Nat}{f:Y_Family}{k:Nat}{x:Y_KidRun}(hk:k<(Q9 f).length)(h:(P4 f).length=4)(ht:0<=x.2.2.2.1/\x.2.2.2.1<=100000):
  Zac N (U9 (Xo (Q9 f) k x) f) (k:Int)=some ((Wra f k (again f x),()),()):=by
 have e0:Z2 N (P4 (U9 (Xo (Q9 f) k x) f))=ret (P4 f):=WbT (show(P4 f).length<=1048576 by omega);have e1:Q9 (U9 (Xo (Q9 f) k x) f)=Xo (Q9 f) k x:=rfl;have iY:k<(Xo (Q9 f) k x).length:=by simpa using hk
 unfold Zac;rw[e0,e1];have e2:Xc (Xo (Q9 f) k x) (Xb (k:Int)) d_KidRun=x:=by rw[Wz iY];simp
 rw[e2,Wt iY,WjB (by omega),Xp];simp only[cond_true,ret,Xd,Xdq];rfl
theorem Wi7{N:Nat}{m:Mm}{f:Y_Family}{k:Nat}{o:Int×Int×Int×Int}(hk:k<(Q9 f).length)(h:ReadOk m f (Q9 f)[k] o)(hN:1048576<N):
  Zd9 N f (k:Int) o m=some ((Wra (WfV m f (Q9 f)[k] o).1 k (WfV m f (Q9 f)[k] o).2,()),()):=by
 generalize hx:(Q9 f)[k]=x at h;have hw:=h.wr;have hs:=h.seen;have hb:=h.buf;have hr:=h.regs;have ex:Xc (Q9 f) (Xb (k:Int)) d_KidRun=x:=by rw[Wz hk,hx]
 unfold Zd9 WfV;simp only[WJ];rw[Wt hk,ex,Xp,Wfc (show(P8 x).length<=1048576 by omega) hN,WjB (by have:=h.pc;omega)];rcases WaF (P8 x) o.2.2.1 with _|v
 .simp only[opI,Xd,cond_false,cond_true];have hE:Zaw N (U9 (Xo (Q9 f) k x) f) o.2.2.1=ret (match ent (P6 f) o.2.2.1 with|some r=>(r.1:Int)|none=>-1):=WdN (f:=U9 (Xo (Q9 f) k x) f) (show(P6 f).length<=1048576 by omega) hN;rw[hE,Wc3 hk h.famr h.tries];rcases he:ent (P6 f) o.2.2.1 with _|r
  .simp only[ret,Xd,show decide ((-1:Int)>=0)=false from rfl,cond_false];have hp:=h.pbO;cases hc:P10 x
   .have cV:Wld x o.2.2.1=(o.2.2.1,(0,(0,0))):=by unfold Wld;rw[hc];rfl
    have hn:Zfl N o.2.2.1=some ((),((o.2.2.1,(0,(0,0))),(true,()))):=by
     unfold Zfl;simp only[Wn,ret,Xd,h.cB,Xah,cond_false]
    rw[cV]at hp⊢;simp only[Bool.not_false,cond_true,hn,WgU h.mem hp hN,ret,Xd,rgI hr h.rA];generalize WM m f.1 (o.2.2.1,(0,(0,0)))=q;rw[Wy (by simp;omega)];cases q.2.1==4<;>cases q.2.1==3<;>rfl
   .have cV:Wld x o.2.2.1=Q11 x:=by unfold Wld;rw[hc];rfl
    rw[cV]at hp⊢;simp only[Xah,cond_false,WgU h.mem hp hN,ret,Xd,rgI hr h.rA,cond_true];generalize WM m f.1 (Q11 x)=q;rw[Wy (by simp;omega),WoV hc];cases q.2.1==4<;>cases q.2.1==3<;>rfl
  .have hm:=WdP he;have hi:r.1<(P6 f).length:=by have:=hm.2.2.1;omega
   have hg:(P6 f)[r.1]=r.2:=by
    have:=hm.2.2.2;rw[Nat.sub_zero,List.getElem?_eq_getElem hi]at this;exact Option.some.inj this
   have e2:decide (((r.1:Nat):Int)>=0)=true:=by simp
   simp only[ret,Xd,e2,cond_true,Wt hi,rgI hr h.rA];rw[Wz hi,hg,Wy (by simp;omega)];cases decide (r.2.2.2>x.2.2.1)<;>rfl
 .simp only[opI,Xd,cond_true,rgI hr h.rA];rfl
end
section
structure Lin{α:Type}(cf:α->α->Int):Prop where
 irr:∀x,¬cf x x<0
 tr:∀x y z,cf x y<0->cf y z<0->cf x z<0
 nt:∀x y z,¬cf x y<0->¬cf y z<0->¬cf x z<0
theorem Wpg:Lin cfE:=⟨λx=>by unfold cfE;omega,λx y z=>by unfold cfE;omega,λx y z=>by unfold cfE;omega⟩
def Ris{α:Type}(cf:α->α->Int)(l:List α):Prop:=l.Pairwise λa b=>cf a b<0
def WfY{α:Type}(cf:α->α->Int):List α->α->List α
 | [],e=>[e]
 |x::l,e=>if cf x e<0 then x::WfY cf l e else if cf e x<0 then e::x::l else e::l
def Ap{α:Type}(cf:α->α->Int)(x y:α):Prop:=cf x y<0\/cf y x<0
variable{α:Type}{cf:α->α->Int}
theorem Lin.ap(h:Lin cf){x y:α}(hn:¬Ap cf x y){z:α}:(cf x z<0↔cf y z<0)/\(cf z x<0↔cf z y<0):=by
 unfold Ap at hn;refine⟨⟨λa=>?_,λa=>?_⟩,⟨λa=>?_,λa=>?_⟩⟩
 .exact Classical.byContradiction λc=>h.nt x y z (λq=>hn (.inl q)) c a
 .exact Classical.byContradiction λc=>h.nt y x z (λq=>hn (.inr q)) c a
 .exact Classical.byContradiction λc=>h.nt z y x c (λq=>hn (.inr q)) a
 .exact Classical.byContradiction λc=>h.nt z x y c (λq=>hn (.inl q)) a
theorem WcO(hc:Lin cf){e x:α}:∀{l:List α},Ris cf l->(x∈WfY cf l e↔x=e\/(x∈l/\Ap cf x e))
 | [],_=>by simp[WfY]
 |y::l,h=>by
  have hl:=(Xy.1 h);unfold WfY;by_cases h1:cf y e<0
  .rw[if_pos h1,Xm,WcO hc hl.2,Xm];refine⟨?_,?_⟩
   .rintro(rfl|h|h)
    .exact .inr ⟨.inl rfl,.inl h1⟩
    .exact .inl h
    .exact .inr ⟨.inr h.1,h.2⟩
   .rintro(h|⟨rfl|h,h'⟩)
    .exact .inr (.inl h)
    .exact .inl rfl
    .exact .inr (.inr ⟨h,h'⟩)
  .rw[if_neg h1];by_cases h2:cf e y<0
   .rw[if_pos h2];simp only[Xm];refine⟨?_,?_⟩
    .rintro(h|rfl|h)
     .exact .inl h
     .exact .inr ⟨.inl rfl,.inr h2⟩
     .exact .inr ⟨.inr h,.inr (hc.tr _ _ _ h2 (hl.1 x h))⟩
    .rintro(h|⟨rfl|h,_⟩)
     .exact .inl h
     .exact .inr (.inl rfl)
     .exact .inr (.inr h)
   .rw[if_neg h2];simp only[Xm];have hn:¬Ap cf y e:=by unfold Ap;omega
    refine⟨?_,?_⟩
    .rintro(h|h)
     .exact .inl h
     .exact .inr ⟨.inr h,.inr ((hc.ap hn).1.1 (hl.1 x h))⟩
    .rintro(h|⟨rfl|h,h'⟩)
     .exact .inl h
     .exact absurd h' hn
     .exact .inr h
theorem WcP(hc:Lin cf){e:α}:∀{l:List α},Ris cf l->Ris cf (WfY cf l e)
 | [],_=>by simp[WfY,Ris]
 |y::l,h=>by
  have hl:=(Xy.1 h);unfold WfY;by_cases h1:cf y e<0
  .rw[if_pos h1];refine Xy.2 ⟨λx hx=>?_,WcP hc hl.2⟩;rcases(WcO hc hl.2).1 hx with rfl|hx
   .exact h1
   .exact hl.1 x hx.1
  .rw[if_neg h1];by_cases h2:cf e y<0
   .rw[if_pos h2];refine Xy.2 ⟨λx hx=>?_,h⟩;rcases Xm.1 hx with rfl|hx
    .exact h2
    .exact hc.tr _ _ _ h2 (hl.1 x hx)
   .rw[if_neg h2];have hn:¬Ap cf y e:=by unfold Ap;omega
    exact Xy.2 ⟨λx hx=>(hc.ap hn).1.1 (hl.1 x hx),hl.2⟩
theorem Wqe(hc:Lin cf){L M:List α}(hM:Ris cf M)(hL:L.Pairwise (Ap cf))(hm:∀x,x∈L↔x∈M):sortBy cf L=M:=by
 have hn:∀{l:List α},l.Pairwise (Ap cf)->l.Nodup:=λh=>h.imp λ{a b} fi=>by
  rintro rfl;unfold Ap at fi;have:=hc.irr a;omega
 have hM':M.Pairwise (Ap cf):=hM.imp λh=>.inl h;have hp:L.Perm M:=(List.perm_ext_iff_of_nodup (hn hL) (hn hM')).2 hm;unfold sortBy;have h1:=List.pairwise_mergeSort (le:=λx y=>!lessBy cf y x) (λa b c=>by
  simp only[lessBy,Xam,decide_eq_false_iff_not]
  exactλh1 h2=>hc.nt _ _ _ h2 h1) (λa b=>by
  simp only[lessBy,Xch,Xam,decide_eq_false_iff_not];rcases Classical.em (cf b a<0)with h|h
  .exact .inr λh'=>hc.irr _ (hc.tr _ _ _ h h')
  .exact .inl h) L
 refine List.Perm.eq_of_pairwise ?_ h1 (hM.imp λ{a b} h=>?_) ((Xgb _ _).trans hp)
 .intro a b ha hb h1 h2;simp only[lessBy,Xam,decide_eq_false_iff_not]at h1 h2;have vu:a∈M:=(hm a).1 ((Xgb _ _).mem_iff.1 ha);obtain⟨i,hi,rfl⟩:=Xdl vu;obtain⟨j,hj,rfl⟩:=Xdl hb;rcases Nat.lt_trichotomy i j with h|h|h
  .exact absurd (Xde.1 hM i j hi hj h) h2
  .subst h;rfl
  .exact absurd (Xde.1 hM j i hj hi h) h1
 .simp only[lessBy,Xam,decide_eq_false_iff_not]
  exactλh'=>hc.irr _ (hc.tr _ _ _ h h')
theorem WkL{r:α->α->Bool}{R:α->α->Prop}(hr:∀a b,R a b->r a b=true):∀{l:List α},l.Pairwise R->WhC r l=true
 | [],_=>rfl
 |x::l,h=>by
  have:=Xy.1 h;simp only[WhC,Xi,Xai];exact⟨λy hy=>hr _ _ (this.1 y hy),WkL hr this.2⟩
theorem WoI(hc:Lin cf){rng:α->Bool}{N:Nat}{L M:List α}(hM:Ris cf M)(hL:L.Pairwise (Ap cf))(hm:∀x,x∈L↔x∈M)(hr:∀x∈L,rng x=true)(hl:L.length<=1048576):
  Zhv rng cf N L=some ((M,()),()):=by
 unfold Zhv;rw[Xai.2 hr,WkL (R:=Ap cf) (λa b h=>by unfold apart lessBy;simpa [Ap]using h) hL,decide_eq_true (by omega)];rw[←Wqe hc hM hL hm];rfl
theorem Wm2(hc:Lin cf){L:List α}{e:α}{i:Nat}(hL:L.Pairwise (Ap cf))(hi:i<L.length)(hk:¬Ap cf L[i] e):(L.set i e).Pairwise (Ap cf)/\∀x,x∈L.set i e↔x=e\/(x∈L/\Ap cf x e):=by
 have pm:∀{z},Ap cf L[i] z↔Ap cf e z:=λ{z}=>by unfold Ap;rw[(hc.ap hk).1,(hc.ap hk).2]
 have iS:∀{a b:α},Ap cf a b->Ap cf b a:=λh=>h.symm;have hG:=Xde.1 hL;refine⟨?_,λx=>⟨λhx=>?_,?_⟩⟩
 .rw[Xde];intro a b ha hb fi;rw[Xad]at ha hb;rw[Xbi,Xbi];by_cases h1:i=a
  .rw[if_pos h1,if_neg (by omega)];subst h1;exact pm.1 (hG i b ha hb fi)
  .rw[if_neg h1];by_cases h2:i=b
   .rw[if_pos h2];subst h2;exact iS (pm.1 (iS (hG a i ha hb fi)))
   .rw[if_neg h2];exact hG a b ha hb fi
 .obtain⟨j,hj,rfl⟩:=Xdl hx;rw[Xad]at hj;rw[Xbi];by_cases h1:i=j
  .rw[if_pos h1];exact .inl rfl
  .rw[if_neg h1];refine .inr ⟨Xac hj,?_⟩;rcases Nat.lt_or_gt_of_ne h1 with h|h
   .exact iS (pm.1 (hG i j hi hj h))
   .exact iS (pm.1 (iS (hG j i hj hi h)))
 .rintro(rfl|⟨hx,lV⟩)
  .exact Xdh.2 ⟨i,by simpa using hi,by simp⟩
  .obtain⟨j,hj,rfl⟩:=Xdl hx;refine Xdh.2 ⟨j,by simpa using hj,?_⟩;rw[Xbi,if_neg];rintro rfl;exact hk lV
theorem Wml{L:List α}{e:α}(hL:L.Pairwise (Ap cf))(hk:∀x∈L,Ap cf x e):(L++ [e]).Pairwise (Ap cf)/\∀x,x∈L++ [e]↔x=e\/(x∈L/\Ap cf x e):=by
 refine⟨Xaa.2 ⟨hL,Xba _ _,λa ha b hb=>?_⟩,λx=>?_⟩
 .rw[Xab]at hb;subst hb;exact hk a ha
 .simp only[Xk,Xab];refine⟨?_,?_⟩
  .rintro(h|h)
   .exact .inr ⟨h,hk x h⟩
   .exact .inl h
  .rintro(h|h)
   .exact .inr h
   .exact .inl h.1
end
section
abbrev KM:=Int×Int×List Int
structure Kd where
 phase:Int:=0
 pc:Int:=0
 since:Int:=0
 tries:Int:=0
 pos:Int:=0
 out:Int:=0
 regs:List Int:=[]
 seen:List En:=[]
 writes:List Rw:=[]
 marks:List KM:=[]
 busy:Bool:=false
 pb:Pb:=(0,0,0,0)
def Kd.e(x:Kd):Y_KidRun:=(x.phase,x.pc,x.since,x.tries,x.pos,x.out,x.regs,x.seen,x.writes,x.marks,x.busy,x.pb)
structure Fm where
 rv:Int:=0
 clock:Int:=0
 owner:Int:=0
 lost:Bool:=false
 regs:List Int:=[]
 start:List Rw:=[]
 buf:List En:=[]
 order:List Int:=[]
 reads:List Rw:=[]
 kids:List Kd:=[]
def Fm.e(f:Fm):Y_Family:=(f.rv,f.clock,f.owner,f.lost,f.regs,f.start,f.buf,f.order,f.reads,f.kids.map Kd.e)
def zOp:Opn:=(0,0,0,0)
def opN(code:List Opn)(i:Int):Opn:=Xc code i.toNat zOp
def WdD{α:Type}(l:List α)(i:Int)(d:α):α:=Xc l i.toNat d
def Wn5{α:Type}(l:List α)(i:Int)(x:α):List α:=Xo l i.toNat x
def Wf8{α:Type}(l:List α)(d:α):α:=Xc l (l.length-1) d
def Wgt(l:List Opn)(m:Nat):Nat:=((Xdf l.length).find? λk=>decide (m<=k)&&decide (dep l (k+1)=dep l m)).getD 0
def Fm.again(f:Fm)(x:Kd):Kd:={since:=f.clock,tries:=x.tries+1,regs:=f.regs}
def WaG(m:Mm)(f:Fm)(x:Kd)(o:Opn):Fm×Kd:=
 match WaF x.writes o.2.2.1 with
 |some v=>(f,{x with regs:=Wn5 x.regs o.2.1 v,pc:=x.pc+1})
 |none=>match ent f.buf o.2.2.1 with
  |some r=>if r.2.2.2>x.since then(f,f.again x)else(f,{x with regs:=Wn5 x.regs o.2.1 r.2.2.1,seen:=x.seen++ [r.2],pc:=x.pc+1})
  |none=>
   let p:=WM m f.rv (if x.busy then x.pb else(o.2.2.1,0,0,0))
   if p.2.1=4 then({f with lost:=true},{x with busy:=true,pb:=p})
   else if p.2.1=3 then(f,{x with regs:=Wn5 x.regs o.2.1 p.2.2.2,seen:=x.seen++ [(o.2.2.1,p.2.2.2,-1)],busy:=false,pb:=(0,0,0,0),pc:=x.pc+1})
   else(f,{x with busy:=true,pb:=p})
def Wdd(x:Kd)(code:List Opn):Kd:=
 if x.marks.length=0 then{x with writes:=[],out:=2,phase:=1}else
 let q:=Wf8 x.marks (0,0,[])
 {x with marks:=x.marks.dropLast,regs:=Wn5 q.2.2 (opN code q.1).2.1 0,writes:=x.writes.take q.2.1.toNat,pc:=Wgt code q.1.toNat+1}
def WeL(m:Mm)(f:Fm)(x:Kd)(code:List Opn):Fm×Kd:=
 if x.pc>=code.length then(f,{x with out:=1,phase:=1})else
 let o:=opN code x.pc
 if o.1=5 then WaG m f x o else
 if o.1=10 then(f,Wdd x code)else
 if o.1=6 then(f,{x with writes:=x.writes++ [(o.2.1,WdD x.regs o.2.2.1 0)],pc:=x.pc+1})else
 if o.1=7 then(f,{x with pc:=(if WdD x.regs o.2.1 0=0 then x.pc+o.2.2.1 else x.pc)+1})else
 if o.1=8 then(f,{x with marks:=x.marks++ [(x.pc,(x.writes.length:Int),x.regs)],pc:=x.pc+1})else
 if o.1=9 then(f,{x with marks:=x.marks.dropLast,regs:=Wn5 x.regs (opN code (Wf8 x.marks (0,0,[])).1).2.1 1,pc:=x.pc+1})else
 (f,{x with regs:=WfW o x.regs,pc:=x.pc+1})
def Wab(c:Int)(b:List En)(rows:List Rw):List En:=rows.foldl (λb r=>WfY cfE b (r.1,r.2,c)) b
def WaB(l:List En):List Rw:=(l.filter λe=>decide (e.2.2= -1)).map λe=>(e.1,e.2.1)
def Wad(f:Fm)(x:Kd)(k:Nat):Fm×Kd:=
 ({f with clock:=f.clock+1,buf:=Wab (f.clock+1) f.buf (WbI x.writes),reads:=f.reads++WaB x.seen,order:=f.order++ [(k:Int)],owner:=0},{x with phase:=3,pos:=0,marks:=[]})
def WpH(b:List En)(c:Int):Int:=match ent b c with
 |some r=>r.2.2.2
 |none=>-1
def WaA(m:Mm)(f:Fm)(x:Kd)(k:Nat)(code:List Opn):Fm×Kd:=
 if x.phase=0 then WeL m f x code else
 if x.phase=1 then(if f.owner=0 then({f with owner:=(k:Int)+1},{x with phase:=2})else(f,x))else
 if x.phase=2 then
  if x.pos=x.seen.length then Wad f x k else
  let s:=WdD x.seen x.pos (0,0,0)
  if WpH f.buf s.1=s.2.2 then(f,{x with pos:=x.pos+1})else({f with owner:=0},f.again x)
 else(f,x)
def Fm.put(q:Fm×Kd)(k:Nat):Fm:={q.1 with kids:=q.1.kids.set k q.2}
def WaY(m:Mm)(f:Fm)(k:Nat)(code:List Opn):Fm:=
 if f.lost then f else Fm.put (WaA m f (f.kids.getD k {}) k code) k
def WaE(rv:Int)(regs:List Int)(writes:List Rw)(kids:Nat):Fm:=
 {rv:=rv,regs:=regs,start:=WbI writes,buf:=(WbI writes).map λr=>(r.1,r.2,0),kids:=List.replicate kids {regs:=regs}}
def WcE(f:Fm):Bool:=f.kids.all λx=>decide (x.phase=3)
def Wct(f:Fm):List Rw:=f.buf.map λe=>(e.1,e.2.1)
def Wes(x:Kd):Int:=if x.out=1/\Wa4 x.regs=true then WdD x.regs 0 0 else 0
def Wd2(f:Fm):List Int:=
 if Wa4 f.regs=true/\f.kids.length<=3 then f.kids.map Wes++f.regs.drop f.kids.length else []
structure KMk(code:List Opn)(pc:Nat)(marks:List KM)(wl:Nat):Prop where
 pcs:marks.map (·.1)=(stk code pc).map λm:Nat=>(m:Int)
 each:∀q∈marks,Vals 4 q.2.2/\0<=q.2.1/\q.2.1<=q.1/\q.2.1<=wl
 up:marks.Pairwise λa b=>a.2.1<=b.2.1
structure KOk(code:List Opn)(c n:Int)(x:Kd):Prop where
 pc:0<=x.pc/\x.pc<=code.length
 regs:Vals 4 x.regs
 rows:WdJ x.writes
 wl:(x.writes.length:Int)<=x.pc
 sl:(x.seen.length:Int)<=x.pc
 since:0<=x.since/\x.since<=c
 tries:0<=x.tries/\x.tries<=n
 seen:∀e∈x.seen,(0<=e.1/\e.1<=7)/\(0<=e.2.1/\e.2.1<=65535)/\ -1<=e.2.2/\e.2.2<=x.since
 marks:x.phase=0->KMk code x.pc.toNat x.marks x.writes.length
 pos:0<=x.pos/\x.pos<=x.seen.length
 pb:x.busy=true->WjW x.pb=true
 phase:0<=x.phase/\x.phase<=3
 out:0<=x.out/\x.out<=2
structure FOk(codes:List (List Opn))(n:Int)(f:Fm):Prop where
 len:f.kids.length=codes.length
 regs:Vals 4 f.regs
 clock:0<=f.clock/\f.clock=f.order.length
 done:f.order.length=f.kids.countP λx=>decide (x.phase=3)
 bufR:Ris cfE f.buf
 bufE:∀e∈f.buf,(0<=e.1/\e.1<=7)/\(0<=e.2.1/\e.2.1<=65535)/\0<=e.2.2/\e.2.2<=f.clock
 readsL:f.reads.length<=24*f.order.length
 readsE:WdJ f.reads
 owner:0<=f.owner/\f.owner<=f.kids.length
 kid:∀(k:Nat) (h:k<f.kids.length),KOk (codes.getD k []) f.clock n f.kids[k]
end
section
structure CC(l:List Opn):Prop where
 len:l.length<=24
 up:Up l
 z:dep l l.length=0
 ok:∀i (h:i<l.length),W3 l[i]=true/\1<=l[i].1/\l[i].1<=16
 sk:∀i (h:i<l.length),l[i].1=7->i+1+l[i].2.2.1.toNat<=l.length/\bal ((l.take (i+1+l[i].2.2.1.toNat)).drop (i+1))=true
 fk:∀i (h:i<l.length),l[i].1=11->dep l i=0/\frk l (i+1)<=1
structure KC(l:List Opn):Prop extends CC l where
 k10:∀i (h:i<l.length),l[i].1<=10
theorem Wqc{o:Opn}(h:W3 o=true)(lQ:12<=o.1):Wgn o=2:=by
 have gZ:=WoG h;have key:=WbB (N:=0) (o:=o);unfold Zao at key;rw[Wbf,h]at key;simp only[ret,Xd,Xah,cond_false]at key;have e5:(o.1==5)=false:=by simp;omega
 have e6:(o.1==6)=false:=by simp;omega
 rw[e5,e6]at key;simp only[cond_false]at key;have:o.1=12\/o.1=13\/o.1=14\/o.1=15\/o.1=16:=by omega
 rcases this with hk|hk|hk|hk|hk<;> · rw[hk]at key;simpa using key.symm
theorem Wq4{l:List Opn}(h:WnV l=true):CC l:=by
 unfold WnV at h;simp only[Xi,decide_eq_true_eq,Xam]at h;obtain⟨h1,h2,h3⟩:=h;obtain⟨b1,b2⟩:=WhY.1 h2;have hb:∀i (hi:i<l.length),WiP l i l[i]=false:=λi hi=>by
  rw[Xdd];intro hb;have:WjO (WiP l) 0 l=true:=Wdi.2 ⟨i,hi,by rw[Xbd];exact hb⟩;rw[h3]at this;cases this
 have bm:∀i (hi:i<l.length),W3 l[i]=true:=λi hi=>by
  have:=hb i hi;unfold WiP at this;simp only[Xcd,Xdo]at this;exact this.1.1
 refine⟨h1,b1,b2,λi hi=>⟨bm i hi,WoG (bm i hi)⟩,λi hi h7=>?_,λi hi fb=>?_⟩
 .have:=hb i hi;unfold WiP at this;simp only[Xcd,Xdo]at this;have h8:=this.1.2;rw[h7]at h8;have:WdB l i l[i]=true:=by simpa using h8
  unfold WdB at this;simpa using this
 .have:=hb i hi;unfold WiP at this;simp only[Xcd,Xdo]at this;have h8:=this.2;rw[fb]at h8;simp at h8;omega
theorem Wqt{l:List Opn}(h:Wce l=true):KC l:=by
 unfold Wce at h;simp only[Xi,Xam]at h;have hc:=Wq4 h.1;refine⟨hc,λi hi=>?_⟩;have dp:Wc4 l[i]=false:=by
  rw[Xdd];intro hb;have:=List.any_eq_true.2 ⟨l[i],Xac hi,hb⟩;rw[h.2]at this;cases this
 unfold Wc4 at dp;simp only[Xcd]at dp;by_cases bq:l[i].1<=10
 .exact bq
 .exfalso;by_cases fb:l[i].1=11
  .simp[fb]at dp
  .have:=Wqc (hc.ok i hi).1 (by have:=(hc.ok i hi).2;omega);rw[this]at dp;simp at dp
theorem WgP{l:List Opn}{m k:Nat}(h:Mate l m k):Wgt l m=k:=by
 unfold Wgt;have:(Xdf l.length).find? (λk=>decide (m<=k)&&decide (dep l (k+1)=dep l m))=some k:=by
  rw[List.find?_range_eq_some];have:=h.lt;refine⟨?_,List.mem_range.2 h.len,λj hj=>?_⟩
  .simp[h.eq];omega
  .simp only[Xam,Bool.and_eq_false_iff,decide_eq_false_iff_not];by_cases hm:m<=j
   .exact .inr (h.ne j hm hj)
   .exact .inl hm
 rw[this];rfl
theorem Wjd{l:List Opn}{i:Int}(h0:0<=i)(h:i<l.length):∃(n:Nat) (hn:n<l.length),i=n/\opN l i=l[n]:=by
 refine⟨i.toNat,by omega,by omega,?_⟩;unfold opN;exact WE (by omega) _
theorem WmE{l:List Opn}{n:Nat}(h:n<l.length):opN l (n:Int)=l[n]:=by
 unfold opN;exact WE (by simpa using h) _
theorem WgX{α:Type}(q:List α)(x d:α):Wf8 (q++ [x]) d=x:=by unfold Wf8;simp
theorem WkH{M:Type}{g:M->Int}{l:List Opn}{pc:Nat}{marks:List M}{d:M}(hc:CC l)(hp:pc<=l.length)(hm:marks.map g=(stk l pc).map λm:Nat=>(m:Int))(hne:marks.length≠0):
  ∃(m:Nat) (q:List M) (x:M),marks=q++ [x]/\Wf8 marks d=x/\g x=(m:Int)/\(∃hm:m<l.length,l[m].1=8)/\m<pc/\Mate l m (Wgt l m)/\pc<=Wgt l m/\stk l m=(stk l pc).dropLast/\q.map g=(stk l m).map λm:Nat=>(m:Int):=by
 rcases Wav marks with h0|⟨q,x,hq⟩
 .rw[h0]at hne;simp at hne
 .rw[hq,Xn,Xaj,Xbh]at hm;rcases Wav (stk l pc)with h0|⟨t,m,ht⟩
  .rw[h0]at hm;simp at hm
  .rw[ht,Xn,Xaj,Xbh]at hm;obtain⟨e1,e2⟩:=Xej hm rfl;injection e2 with e2;obtain⟨k,k1,k2,k3⟩:=Wmz hc.up hc.z hp ht;have k4:=WgP k2;obtain⟨hlt,h8,_,_⟩:=Wfw pc hp t [] m ht;refine⟨m,q,x,hq,by rw[hq];exact WgX q x d,e2,h8,hlt,by rw[k4];exact k2,by omega,by rw[ht,Xdw];exact k3,by rw[k3];exact e1⟩
end
section
theorem Wg8{l:List Rw}{c v:Int}:∀(i:Nat),i<=l.length->Wdx l c i=some v->(c,v)∈l
 |0,_,h=>by simp[Wdx]at h
 |i+1,hi,h=>by
  unfold Wdx at h;rw[WE (show i<l.length by omega)]at h;by_cases hc:l[i].1=c
  .rw[if_pos hc]at h;injection h with h;have:l[i]=(c,v):=by rw[←hc,←h]
   rw[←this];exact Xac _
  .rw[if_neg hc]at h;exact Wg8 i (by omega) h
theorem WiZ{l:List Rw}{c v:Int}(h:WaF l c=some v):Wa1 l=true/\(c,v)∈l:=by
 unfold WaF at h;by_cases hr:Wa1 l=true
 .rw[if_pos hr]at h;exact⟨hr,Wg8 _ (Xl _) h⟩
 .rw[if_neg hr]at h;cases h
theorem Wlf(l:List Rw):∀(j c:Nat) (o:List Rw),Wh9 l j c o=o++(Xgk c j).filterMap λc:Nat=>(WaF l (c:Int)).map λv=>((c:Int),v)
 |0,c,o=>by simp[Wh9]
 |j+1,c,o=>by
  rw[Wh9,Wlf l j,List.range'_succ,List.filterMap_cons];unfold Wih;cases h:WaF l (c:Int)<;>simp
theorem WkD(l:List Rw):WbI l=(Xgk 0 8).filterMap λc:Nat=>(WaF l (c:Int)).map λv=>((c:Int),v):=by unfold WbI;rw[Wlf];simp
theorem Wdj{l:List Rw}{r:Rw}:r∈WbI l↔(0<=r.1/\r.1<=7)/\WaF l r.1=some r.2:=by
 rw[WkD,List.mem_filterMap];constructor
 .rintro⟨c,hc,h⟩;rw[Xgj]at hc;cases hl:WaF l (c:Int)with
  |none=>rw[hl]at h;cases h
  |some v=>
   rw[hl]at h;injection h with h;subst h;exact⟨by show 0<=(c:Int)/\(c:Int)<=7;omega,hl⟩
 .rintro⟨h0,h⟩;refine⟨r.1.toNat,Xgj.2 (by omega),?_⟩;rw[show((r.1.toNat:Nat):Int)=r.1 by omega,h];rfl
theorem Wgf(l:List Rw):(WbI l).Pairwise λa b=>a.1<b.1:=by
 rw[WkD,List.pairwise_filterMap];refine List.Pairwise.imp ?_ (List.pairwise_lt_range' (s:=0) (n:=8));intro a b fi r hr r' aS;cases h1:WaF l (a:Int)<;>rw[h1]at hr<;>simp at hr;cases h2:WaF l (b:Int)<;>rw[h2]at aS<;>simp at aS;rw[←hr,←aS];simp;omega
theorem Wfr(l:List Rw):(WbI l).length<=8:=by
 rw[WkD];exact Xck (List.length_filterMap_le _ _) (by simp)
theorem Wc8{l:List Rw}:WdJ (WbI l):=by
 intro r hr;obtain⟨h0,h1⟩:=Wdj.1 hr;obtain⟨h2,h3⟩:=WiZ h1;unfold Wa1 at h2;simp only[Xi]at h2;have:=(Wij.1 h2.2) _ h3;exact⟨h0,this.2⟩
end
section
theorem Wf3{α β:Type}(g:α->β)(l:List α)(i:Nat)(d:α):Xc (l.map g) i (g d)=g (l.getD i d):=by
 by_cases h:i<l.length
 .rw[WE (show i<(l.map g).length by simpa using h),WE h];simp
 .rw[Xv,Xv,Xbf (by simpa using h),Xbf (by simpa using h)];rfl
theorem kdP(x:Kd):x.e.1=x.phase/\x.e.2.1=x.pc/\x.e.2.2.1=x.since/\x.e.2.2.2.1=x.tries/\P4 x.e=x.pos/\P5 x.e=x.out/\P6 x.e=x.regs/\P7 x.e=x.seen/\P8 x.e=x.writes/\P9 x.e=x.marks/\P10 x.e=x.busy:=⟨rfl,rfl,rfl,rfl,rfl,rfl,rfl,rfl,rfl,rfl,rfl⟩
theorem fmP(f:Fm):f.e.1=f.rv/\f.e.2.1=f.clock/\f.e.2.2.1=f.owner/\f.e.2.2.2.1=f.lost/\P4 f.e=f.regs/\P5 f.e=f.start/\P6 f.e=f.buf/\P7 f.e=f.order/\P8 f.e=f.reads/\Q9 f.e=f.kids.map Kd.e:=⟨rfl,rfl,rfl,rfl,rfl,rfl,rfl,rfl,rfl,rfl⟩
theorem U9e(f:Fm)(k:Nat)(x:Kd):U9 (Xo (f.kids.map Kd.e) k x.e) f.e=Fm.e {f with kids:=f.kids.set k x}:=by
 unfold U9 Fm.e;rw[List.map_set]
theorem Wmq{f f':Fm}{k:Nat}{x':Kd}{y:Y_KidRun}{g:Y_Family}(hy:y=x'.e)(hg:g=f'.e)(hf:f'.kids=f.kids):
  some ((U9 (Xo (f.kids.map Kd.e) k y) g,()),())=some (((Fm.put (f',x') k).e,()),()):=by
 subst hy hg;rw[←hf,U9e];rfl
theorem Wn0(m:Mm)(f:Fm)(x:Kd)(o:Opn):WfV m f.e x.e o=((WaG m f x o).1.e,(WaG m f x o).2.e):=by
 unfold WfV WaG;have h1:P8 x.e=x.writes:=rfl;have h2:P6 f.e=f.buf:=rfl;rw[h1,h2];rcases WaF x.writes o.2.2.1 with _|v
 .rcases ent f.buf o.2.2.1 with _|r
  .have h3:Wld x.e o.2.2.1=if x.busy then x.pb else(o.2.2.1,0,0,0):=by
    unfold Wld;have:P10 x.e=x.busy:=rfl;rw[this];cases x.busy<;>rfl
   simp only[h3];have h4:f.e.1=f.rv:=rfl;rw[h4];generalize WM m f.rv (if x.busy then x.pb else(o.2.2.1,0,0,0))=p;by_cases e4:p.2.1=4
   .have:(p.2.1==4)=true:=by simpa using e4
    rw[if_pos e4,this];rfl
   .have:(p.2.1==4)=false:=by simpa using e4
    rw[if_neg e4,this];by_cases e3:p.2.1=3
    .have:(p.2.1==3)=true:=by simpa using e3
     rw[if_pos e3,this];rfl
    .have:(p.2.1==3)=false:=by simpa using e3
     rw[if_neg e3,this];rfl
  .simp only;have h5:x.e.2.2.1=x.since:=rfl;rw[h5];by_cases hv:r.2.2.2>x.since
   .rw[if_pos hv,decide_eq_true hv];rfl
   .rw[if_neg hv,decide_eq_false hv];rfl
 .rfl
theorem Whh(m:Mm)(f:Fm)(x:Kd)(o:Opn):(WaG m f x o).1.kids=f.kids:=by
 unfold WaG;cases WaF x.writes o.2.2.1 with
 |some v=>rfl
 |none=>
  cases ent f.buf o.2.2.1 with
  |some r=>simp only;split<;>rfl
  |none=>
   simp only;generalize WM m f.rv _=p
   repeat' split
   all_goals rfl
variable{N:Nat}{codes:List (List Opn)}{n:Int}{f:Fm}{k:Nat}{code:List Opn}{m:Mm}{x:Kd}
theorem FOk.buf8(h:FOk codes n f):f.buf.length<=8:=by
 have:∀(l:List En) (c:Int),Ris cfE l->(∀e∈l,c<=e.1/\e.1<=7)->(l.length:Int)<=8-c\/l= []:=by
  intro l
  induction l with
  |nil=>intro c _ _;exact .inr rfl
  |cons a l ih=>
   intro c hr hb;left;have h1:=Xy.1 hr;have ha:=hb a (Xh ..);rcases ih (a.1+1) h1.2 (λe he=>⟨by have:=h1.1 e he;unfold cfE at this;omega,(hb e (Xe _ he)).2⟩)with h|h
   .rw[Xt];omega
   .subst h;simp;omega
 rcases this f.buf 0 h.bufR (λe he=>by have:=(h.bufE e he).1;omega)with h|h
 .omega
 .rw[h];simp
theorem Wm4(hF:FOk codes n f)(hx:KOk code f.clock n x)(bi:KC code)(hm:WaL m=true)(hn:n<=100000){o:Opn}(hA:Wg o.2.1=true)(hB:WO o.2.2.1=true):ReadOk m f.e x.e o where
 mem:=hm
 regs:=hx.regs.len
 famr:=hF.regs.len
 rA:=by unfold Wg at hA;simpa using hA
 cB:=hB
 seen:=by have:=hx.sl;have:=hx.pc;have:=bi.len;show x.seen.length<=1000;omega
 wr:=by have:=hx.wl;have:=hx.pc;have:=bi.len;show x.writes.length<=1000;omega
 buf:=by have:=hF.buf8;show f.buf.length<=1000;omega
 ver:=λe he=>(hF.bufE e he).2.2.1
 since:=hx.since.1
 pc:=by have:=hx.pc;have:=bi.len;show 0<=x.pc/\x.pc<=1000;omega
 tries:=by have:=hx.tries;show 0<=x.tries/\x.tries<=100000;omega
 pb:=hx.pb
theorem Wdl{α:Type}{a b:Int}{x y:α}:(bif a==b then x else y)=if a=b then x else y:=by
 by_cases h:a=b
 .have:(a==b)=true:=by simpa using h
  rw[this,if_pos h];rfl
 .have:(a==b)=false:=by simpa using h
  rw[this,if_neg h];rfl
theorem Wlc{α:Type}{p:Prop}[Decidable p]{x y:α}:(bif decide p then x else y)=if p then x else y:=by
 by_cases h:p
 .rw[if_pos h,decide_eq_true h];rfl
 .rw[if_neg h,decide_eq_false h];rfl
theorem Wib(bi:KC code)(hx:KOk code f.clock n x)(h0:x.phase=0)(hN:1048576<N):Zdw N x.e code=some (((Wdd x code).e,()),()):=by
 unfold Zdw Wdd;obtain⟨k0,k1,k2,k3,k4,k5,k6,k7,k8,k9,k10⟩:=kdP x;have bV:=hx.pc;have hlen:=bi.len;have hM:=hx.marks h0;simp only[WJ,k9,k8,k1,Wdl];by_cases hz:x.marks.length=0
 .rw[if_pos (by unfold We;omega),if_pos hz];rfl
 .rw[if_neg (by unfold We;omega),if_neg hz];obtain⟨j,q,y,e1,e2,e3,⟨hj,h8⟩,rx,bv,jk,e5,e6⟩:=WkH (d:=((0,0,[]):KM)) bi.toCC (show x.pc.toNat<=code.length by omega) hM.pcs hz;have kx:x.marks.length=q.length+1:=by rw[e1];simp
  have vv:q.length<=24:=by
   have:=congrArg Xa e6;simp only[Xz]at this;have h2:=Wbb bi.up j (by omega);have h3:=(WbV code j).2;omega
  have i1:WN .i64 (We x.marks) 1=(q.length:Int):=by rw[Wm6 (by omega),kx];omega
  have hy:y∈x.marks:=by rw[e1];simp
  obtain⟨y1,y2,y3,y4⟩:=hM.each y hy;have g1:Xc x.marks (Xb (q.length:Int)) ((0,0,[]):KM)=y:=by rw[e1];simp
  have t1:Xbs (Xb (q.length:Int)) x.marks=x.marks.dropLast:=by rw[e1];simp
  have jX:=hx.wl;rw[i1,Wbe,decide_eq_true (show q.length<x.marks.length by omega)];simp only[cond_true,g1,t1,e2];have b1:((decide ((0:Int)<=(q.length:Int))&&decide ((q.length:Int)<=(x.marks.length:Int)))&&decide ((q.length:Int)<=((Xb (q.length:Int):Nat):Int)))=true:=by
   simp;omega
  rw[b1];simp only[cond_true];rw[WbT (by rw[y1.len];omega)];simp only[ret,Xd];rw[e3,Wbe,decide_eq_true hj];have o1:Xc code (Xb ((j:Nat):Int)) ((0,0,0,0):Opn)=code[j]:=Wz hj _;have o2:opN code ((j:Nat):Int)=code[j]:=WmE hj;have hr:=WqY (bi.ok j hj).1 h8;simp only[cond_true,o1,o2];rw[WaZ hr y1.len];have b2:(decide ((0:Int)<=y.2.1)&&decide (y.2.1<=(x.writes.length:Int)))=true:=by simp;omega
  rw[b2];simp only[cond_true];rw[WmA (by rw[Xau];omega),Wj5 (by omega) hN ⟨hj,h8⟩ bv];simp only[ret,Xd];rw[WjB (by have:=bv.len;omega),Xp];rfl
theorem Wj7(hk:k<f.kids.length)(hm:WaL m=true)(bi:KC code)(hF:FOk codes n f)(aq:codes.getD k []=code)(bK:f.kids[k]=x)(h0:x.phase=0)(hn:n<=100000)(hN:1048576<N):
  Zel N f.e (k:Int) code m=some (((Fm.put (WeL m f x code) k).e,()),()):=by
 have hx:=hF.kid k hk;rw[aq,bK]at hx;obtain⟨k0,k1,k2,k3,k4,k5,k6,k7,k8,k9,k10⟩:=kdP x;obtain⟨f0,f1,f2,f3,f4,f5,f6,f7,f8,f9⟩:=fmP f;have bV:=hx.pc;have hlen:=bi.len;have jX:=hx.wl;have e2:Xc (f.kids.map Kd.e) (Xb (k:Int)) d_KidRun=x.e:=by
  have:=Wf3 Kd.e f.kids k {};rw[WE hk,bK]at this;exact this
 have e3:U9 (Xo (f.kids.map Kd.e) (Xb (k:Int)) x.e) f.e=f.e:=by
  rw[Xp,U9e,←bK,List.set_getElem_self]
 unfold Zel WeL;simp only[WJ,f9,Xz];rw[Wbe,decide_eq_true hk];simp only[cond_true,e2,e3,k1,k6,k8,k9,Wlc,Wdl,show We code=(code.length:Int)from rfl];by_cases eD:x.pc>=code.length
 .rw[if_pos eD,if_pos eD];rw[Xp];exact Wmq rfl rfl rfl
 .rw[if_neg eD,if_neg eD];obtain⟨j,hj,ej,eo⟩:=Wjd (l:=code) bV.1 (by omega);have vx:Xc code (Xb x.pc) ((0,0,0,0):Opn)=opN code x.pc:=rfl;have gP:inb x.pc code.length=true:=by rw[ej,Wbe];exact decide_eq_true hj
  rw[gP];obtain⟨ok,o1,eW⟩:=bi.ok j hj;have dJ:=bi.k10 j hj;simp only[cond_true,vx];rw[←eo]at ok o1 dJ;generalize opN code x.pc=o at*;have iV:=hx.regs.len;rw[Xp];rw[WjB (show 0<=x.pc/\x.pc<=1000000 by omega)];by_cases h5:o.1=5
  .rw[if_pos h5,if_pos h5];have:=WpC ok h5;have mL:=Wm4 hF hx bi hm hn this.1 this.2;have e4:(Q9 f.e)[k]'(by rw[f9];simpa using hk)=x.e:=by
    simp only[f9,List.getElem_map,bK]
   have:=Wi7 (m:=m) (o:=o) (f:=f.e) (k:=k) (by rw[f9];simpa using hk) (by rw[e4];exact mL) hN;rw[this];simp only[Xd,e4,Wn0];unfold Wra;have iy:=Whh m f x o;rw[show Q9 (WaG m f x o).1.e=f.kids.map Kd.e by rw[←iy];rfl];exact Wmq rfl rfl iy
  .rw[if_neg h5,if_neg h5];by_cases bq:o.1=10
   .rw[if_pos bq,if_pos bq,Wib bi hx h0 hN];exact Wmq rfl rfl rfl
   .rw[if_neg bq,if_neg bq];by_cases h6:o.1=6
    .rw[if_pos h6,if_pos h6];rw[WaZ (WqW ok h6).2 iV,Wy (by simp;omega)];exact Wmq rfl rfl rfl
    .rw[if_neg h6,if_neg h6];by_cases h7:o.1=7
     .rw[if_pos h7,if_pos h7];have h:=WqA ok h7;rw[WaZ h.1 iV,WI (a:=x.pc) (b:=o.2.2.1) (by unfold I64;omega),WjB (a:=x.pc+o.2.2.1) (by omega)];by_cases hg:Xc x.regs (Xb o.2.1) 0=0
      .rw[if_pos hg,if_pos (show WdD x.regs o.2.1 0=0 from hg)];simp only[cond_true];exact Wmq rfl rfl rfl
      .rw[if_neg hg,if_neg (show¬WdD x.regs o.2.1 0=0 from hg)];simp only[cond_true];exact Wmq rfl rfl rfl
     .rw[if_neg h7,if_neg h7];by_cases h8:o.1=8
      .rw[if_pos h8,if_pos h8];rw[WbT (by omega)];have gD:x.marks.length<=24:=by
        have:=congrArg Xa (hx.marks h0).pcs;simp only[Xz]at this;have h2:=Wbb bi.up x.pc.toNat (by omega);have h3:=(WbV code x.pc.toNat).2;omega
       simp only[ret,Xd];rw[Wy (by simp;omega)];exact Wmq rfl rfl rfl
      .rw[if_neg h8,if_neg h8];by_cases h9:o.1=9
       .rw[if_pos h9,if_pos h9];have hM:=hx.marks h0;have hz:x.marks.length≠0:=by
         intro hz;have h1:=congrArg Xa hM.pcs;simp only[Xz,hz]at h1;have h2:=Wbb bi.up j (by omega);have h3:=bi.up j hj;rw[Wal hj,WhM (by rw[←eo];exact h9)]at h3;rw[ej,Xp]at h1;omega
        obtain⟨i,q,y,e1,vy,vz,⟨hi,vA⟩,rx,bv,jk,e5,e6⟩:=WkH (d:=((0,0,[]):KM)) bi.toCC (show x.pc.toNat<=code.length by omega) hM.pcs hz;have kx:x.marks.length=q.length+1:=by rw[e1];simp
        have gD:x.marks.length<=24:=by
         have:=congrArg Xa (hx.marks h0).pcs;simp only[Xz]at this;have h2:=Wbb bi.up x.pc.toNat (by omega);have h3:=(WbV code x.pc.toNat).2;omega
        have i1:WN .i64 (We x.marks) 1=(q.length:Int):=by rw[Wm6 (by omega),kx];omega
        have g1:Xc x.marks (Xb (q.length:Int)) ((0,0,[]):KM)=y:=by rw[e1];simp
        have t1:Xbs (Xb (q.length:Int)) x.marks=x.marks.dropLast:=by rw[e1];simp
        rw[i1,Wbe,decide_eq_true (show q.length<x.marks.length by omega)];have b1:(decide ((0:Int)<=(q.length:Int))&&decide ((q.length:Int)<=(x.marks.length:Int)))=true:=by simp;omega
        rw[b1];simp only[cond_true,g1,t1,vy];rw[vz,Wbe,decide_eq_true hi];have o1:Xc code (Xb ((i:Nat):Int)) ((0,0,0,0):Opn)=opN code (i:Int):=rfl;have hr:=WqY (bi.ok i hi).1 vA;rw[←WmE hi]at hr;simp only[cond_true,o1];rw[WaZ hr iV];exact Wmq rfl rfl rfl
       .rw[if_neg h9,if_neg h9];rw[Wjf hN ok (by omega) (by omega) hx.regs];exact Wmq rfl rfl rfl
end
section
theorem Wfp{p:Pb}:WjW p=true↔(0<=p.1/\p.1<=7)/\(0<=p.2.1/\p.2.1<=4)/\(0<=p.2.2.1/\p.2.2.1<=1000000)/\0<=p.2.2.2/\p.2.2.2<=65535:=by
 unfold WjW WO WaH;simp only[Xi,decide_eq_true_eq]
theorem Wed{c:Int}{w:Wd}:Wmp c w=true↔(0<=w.1/\w.1<=65535)/\(0<=w.2.1/\w.2.1<=c)/\0<=w.2.2/\w.2.2<=99:=by
 unfold Wmp WaH;simp only[Xi,decide_eq_true_eq]
theorem Wnb{m:Mm}(h:WaL m=true){c:Int}(hc:0<=c/\c<=7):Wmp m.1 (WdD m.2 c (0,0,0))=true:=by
 obtain⟨h8,h0,h1,hw⟩:=W2 h;unfold WdD;rw[WE (show c.toNat<m.2.length by omega)];exact hw _ (Xac _)
theorem WmB{m:Mm}{rv:Int}{p:Pb}(hm:WaL m=true)(hp:WjW p=true):WjW (WM m rv p)=true/\(WM m rv p).1=p.1:=by
 have cK:=Wfp.1 hp;have hw:=Wnb hm cK.1;rw[Wed]at hw;obtain⟨h8,h0,h1,_⟩:=W2 hm;unfold WM;simp only[Wdl,Wlc];have vC:Wmp m.1 (Xc m.2 (Xb p.1) (0,0,0))=true:=Wnb hm cK.1;rw[Wed]at vC;refine⟨?_,?_⟩
 .rw[Wfp]
  repeat' split
  all_goals(try simp only);omega
 .repeat' split
  all_goals rfl
section
variable{code:List Opn}{pc cN wl pn:Nat}{ms q:List KM}{y:KM}{c c' n n':Int}{x:Kd}{f:Fm}{m:Mm}{codes:List (List Opn)}{k:Nat}
theorem KMk.mono(h:KMk code pc ms wl)(hs:stk code cN=stk code pc)(hw:wl<=pn):KMk code cN ms pn:=
 ⟨by rw[hs];exact h.pcs,λq hq=>by have:=h.each q hq;exact⟨this.1,this.2.1,this.2.2.1,by omega⟩,h.up⟩
theorem KMk.begin(h:KMk code pc ms wl)(hp:pc<code.length)(h8:code[pc].1=8){regs:List Int}(hr:Vals 4 regs)(hw:wl<=pc):KMk code (pc+1) (ms++ [((pc:Int),(wl:Int),regs)]) wl:=by
 refine⟨?_,?_,?_⟩
 .rw[WhR hp h8,Xn,Xn,h.pcs];rfl
 .intro q hq;rcases Xk.1 hq with hq|hq
  .exact h.each q hq
  .rw[Xab]at hq;subst hq;exact⟨hr,by simp,by simpa using hw,by simp⟩
 .refine Xaa.2 ⟨h.up,Xba _ _,λa ha b hb=>?_⟩;rw[Xab]at hb;subst hb;exact(h.each a ha).2.2.2
theorem KMk.drop(h:KMk code pc ms wl)(vD:ms=q++ [y])(hs:stk code cN=(stk code pc).dropLast)(hw:y.2.1<=pn):KMk code cN q pn:=by
 subst vD;have h1:=h.pcs;refine⟨?_,λa ha=>?_,(Xaa.1 h.up).1⟩
 .rw[hs,List.map_dropLast,←h1,Xn];simp
 .have h2:=h.each a (List.mem_append_left _ ha);have h3:=(Xaa.1 h.up).2.2 a ha y (by simp);exact⟨h2.1,h2.2.1,h2.2.2.1,by omega⟩
theorem KOk.wk(h:KOk code c n x)(hc:c<=c')(hn:n<=n'):KOk code c' n' x:=
 {h with since:=by have:=h.since;omega,tries:=by have:=h.tries;omega}
theorem Wls(h:KOk code c n x)(hc:c=f.clock)(hf:Vals 4 f.regs)(h0:0<=f.clock):KOk code c (n+1) (f.again x) where
 pc:=⟨Xco _,by show(0:Int)<=_;omega⟩
 regs:=hf
 rows:=λr hr=>by cases hr
 wl:=Xco _
 sl:=Xco _
 since:=by show 0<=f.clock/\f.clock<=c;omega
 tries:=by have:=h.tries;show 0<=x.tries+1/\x.tries+1<=n+1;omega
 seen:=λe he=>by cases he
 marks:=λ_=>⟨by show([]:List KM).map _=(stk code 0).map _;rfl,(λq hq=>by cases hq),List.Pairwise.nil⟩
 pos:=⟨Xco _,Xco _⟩
 pb:=λh=>by cases h
 phase:=by show(0:Int)<=0/\(0:Int)<=3;omega
 out:=by show(0:Int)<=0/\(0:Int)<=2;omega
theorem KMk.len(hc:CC code)(h:KMk code pc ms wl)(hp:pc<=code.length):(ms.length:Int)=dep code pc:=by
 have:=congrArg Xa h.pcs;simp only[Xz]at this;rw[this,Wbb hc.up pc hp]
theorem KOk.on(eM:CC code)(h:KOk code c n x)(h0:x.phase=0){i:Nat}(hi:i<code.length)(bV:x.pc=i){regs:List Int}{seen:List En}{writes:List Rw}{marks:List KM}{busy:Bool}{pb:Pb}{cN:Nat}(hp:cN<=code.length)(hlt:i<cN)(hr:Vals 4 regs)(hrow:WdJ writes)(jX:writes.length<=x.writes.length+1)(hsl:seen.length<=x.seen.length+1)
  (hs:∀e∈seen,(0<=e.1/\e.1<=7)/\(0<=e.2.1/\e.2.1<=65535)/\ -1<=e.2.2/\e.2.2<=x.since) (hse:x.seen.length<=seen.length) (hm:KMk code cN marks writes.length) (hb:busy=true->WjW pb=true):
  KOk code c n {x with regs:=regs,seen:=seen,writes:=writes,marks:=marks,busy:=busy,pb:=pb,pc:=(cN:Int)}:=
 {h with
  pc:=by show(0:Int)<=(cN:Int)/\(cN:Int)<=_;omega
  regs:=hr
  rows:=hrow
  wl:=by have:=h.wl;show(writes.length:Int)<=(cN:Int);omega
  sl:=by have:=h.sl;show(seen.length:Int)<=(cN:Int);omega
  seen:=hs
  marks:=λ_=>by show KMk code ((cN:Nat):Int).toNat marks writes.length;rw[Xp];exact hm
  pos:=by have:=h.pos;show 0<=x.pos/\x.pos<=(seen.length:Int);omega
  pb:=hb}
theorem Wpa(eM:CC code)(hF:FOk codes n f)(h:KOk code f.clock n x)(h0:x.phase=0){i:Nat}(hi:i<code.length)(bV:x.pc=i)(h5:code[i].1=5)(hm:WaL m=true):
  KOk code f.clock (n+1) (WaG m f x code[i]).2/\((WaG m f x code[i]).1=f\/(WaG m f x code[i]).1={f with lost:=true}):=by
 have bm:=WpC (eM.ok i hi).1 h5;have hB:0<=code[i].2.2.1/\code[i].2.2.1<=7:=by have:=bm.2;unfold WO at this;simpa using this
 have hM:=h.marks h0;rw[bV,Xp]at hM;have ch:stk code (i+1)=stk code i:=Wfj hi (by omega) (by omega);have eC:x.pc+1=((i+1:Nat):Int):=by omega
 unfold WaG;cases hl:WaF x.writes code[i].2.2.1 with
 |some v=>
  have hv:=h.rows _ (WiZ hl).2;refine⟨?_,.inl rfl⟩;simp only[eC];exact(KOk.on eM h h0 hi bV (by omega) (by omega) (h.regs.set _ hv.2) h.rows (by omega) (by omega) h.seen (by omega) (hM.mono ch (by omega)) h.pb).wk (by omega) (by omega)
 |none=>
  simp only;cases he:ent f.buf code[i].2.2.1 with
  |some r=>
   simp only;have hr:=WdP he;have md:r.2∈f.buf:=by
    have:=hr.2.2.2;exact List.mem_of_getElem? this
   have eT:=hF.bufE _ md;split
   .exact⟨Wls h rfl hF.regs hF.clock.1,.inl rfl⟩
   .refine⟨?_,.inl rfl⟩;simp only[eC];refine(KOk.on eM h h0 hi bV (by omega) (by omega) (h.regs.set _ eT.2.1) h.rows (by omega) (by simp) (λe fO=>?_) (by simp) (hM.mono ch (by omega)) h.pb).wk (by omega) (by omega);rcases Xk.1 fO with fO|fO
    .exact h.seen e fO
    .rw[Xab]at fO;subst fO;exact⟨eT.1,eT.2.1,by omega,by omega⟩
  |none=>
   simp only;have mF:WjW (if x.busy=true then x.pb else(code[i].2.2.1,0,0,0))=true:=by
    split
    .exact h.pb ‹_›
    .rw[Wfp];simp only;omega
   have dg:=WmB (rv:=f.rv) hm mF;generalize WM m f.rv (if x.busy=true then x.pb else(code[i].2.2.1,0,0,0))=p at*;have hp:=Wfp.1 dg.1;split
   .refine⟨?_,.inr rfl⟩;exact KOk.wk (n:=n) {h with pb:=λ_=>dg.1} (by omega) (by omega)
   .split
    .refine⟨?_,.inl rfl⟩;simp only[eC];refine(KOk.on eM h h0 hi bV (by omega) (by omega) (h.regs.set _ hp.2.2.2) h.rows (by omega) (by simp) (λe fO=>?_) (by simp) (hM.mono ch (by omega)) (λh=>by cases h)).wk (by omega) (by omega);rcases Xk.1 fO with fO|fO
     .exact h.seen e fO
     .rw[Xab]at fO;subst fO;exact⟨hB,hp.2.2.2,by simp,by have:=h.since;simp only;omega⟩
    .refine⟨?_,.inl rfl⟩;exact KOk.wk (n:=n) {h with pb:=λ_=>dg.1} (by omega) (by omega)
theorem Wqa(bi:KC code)(hF:FOk codes n f)(h:KOk code f.clock n x)(h0:x.phase=0)(hm:WaL m=true):
  KOk code f.clock (n+1) (WeL m f x code).2/\((WeL m f x code).1=f\/(WeL m f x code).1={f with lost:=true}):=by
 have eM:=bi.toCC;unfold WeL;split
 .refine⟨?_,.inl rfl⟩;exact KOk.wk (n:=n) {h with marks:=λh=>by(change (1:Int)=0 at h;omega),phase:=by(show(0:Int)<=1/\(1:Int)<=3;omega),out:=by(show(0:Int)<=1/\(1:Int)<=2;omega)} (by omega) (by omega)
 .obtain⟨i,hi,bV,ho⟩:=Wjd (l:=code) h.pc.1 (by have:=h.pc;omega);simp only[ho];obtain⟨ok,o1,eW⟩:=bi.ok i hi;have dJ:=bi.k10 i hi;have hM:=h.marks h0;rw[bV,Xp]at hM;have eC:x.pc+1=((i+1:Nat):Int):=by omega
  have jX:x.writes.length<=i:=by have:=h.wl;omega
  split
  .exact Wpa eM hF h h0 hi bV ‹_› hm
  .split
   .refine⟨?_,.inl rfl⟩;unfold Wdd;split
    .refine KOk.wk (n:=n) {h with rows:=(λr hr=>by cases hr),wl:=by(have:=h.pc;show(0:Int)<=x.pc;omega),marks:=λh=>by(change (1:Int)=0 at h;omega),phase:=by(show(0:Int)<=1/\(1:Int)<=3;omega),out:=by(show(0:Int)<=2/\(2:Int)<=2;omega)} (by omega) (by omega)
    .obtain⟨j,q,y,e1,e2,e3,⟨hj,h8⟩,rx,bv,jk,e5,e6⟩:=WkH (d:=((0,0,[]):KM)) eM (show i<=code.length by omega) hM.pcs ‹_›;obtain⟨y1,y2,y3,y4⟩:=hM.each y (by rw[e1];simp);simp only[e2,e3,Xp,←Int.natCast_succ];have hl:=bv.len;have ht:(Xbs y.2.1.toNat x.writes).length=y.2.1.toNat:=by rw[Xau];omega
     refine(KOk.on eM h h0 hi bV (cN:=Wgt code j+1) (by omega) (by omega) (y1.set _ (by omega)) (λr hr=>h.rows r (List.mem_of_mem_take hr)) (by omega) (by omega) h.seen (by omega) ?_ h.pb).wk (by omega) (by omega);rw[show x.marks.dropLast=q by rw[e1];simp];exact hM.drop e1 (by rw[bv.st];exact e5) (by rw[ht];omega)
   .split
    .refine⟨?_,.inl rfl⟩;have hk:=WqW ok ‹_›;have ch:stk code (i+1)=stk code i:=Wfj hi (by omega) (by omega);simp only[eC];refine(KOk.on eM h h0 hi bV (by omega) (by omega) h.regs (λr hr=>?_) (by simp) (by omega) h.seen (by omega) (hM.mono ch (by simp)) h.pb).wk (by omega) (by omega);rcases Xk.1 hr with hr|hr
     .exact h.rows r hr
     .rw[Xab]at hr;subst hr;have:=hk.1;unfold WO at this;exact⟨by simpa using this,h.regs.get _⟩
    .split
     .refine⟨?_,.inl rfl⟩;obtain⟨s1,s2⟩:=bi.sk i hi ‹_›;have hk:=WqA ok ‹_›;have ch:stk code (i+1)=stk code i:=Wfj hi (by omega) (by omega);have ry:stk code (i+1+code[i].2.2.1.toNat)=stk code i:=by rw[←ch];exact WkX (by omega) s1 s2
      by_cases hg:WdD x.regs code[i].2.1 0=0
      .simp only[if_pos hg,show x.pc+code[i].2.2.1+1=((i+1+code[i].2.2.1.toNat:Nat):Int) by omega];exact(KOk.on eM h h0 hi bV s1 (by omega) h.regs h.rows (by omega) (by omega) h.seen (by omega) (hM.mono ry (by omega)) h.pb).wk (by omega) (by omega)
      .simp only[if_neg hg,eC];exact(KOk.on eM h h0 hi bV (by omega) (by omega) h.regs h.rows (by omega) (by omega) h.seen (by omega) (hM.mono ch (by omega)) h.pb).wk (by omega) (by omega)
     .split
      .refine⟨?_,.inl rfl⟩;simp only[eC];rw[bV];exact(KOk.on eM h h0 hi bV (by omega) (by omega) h.regs h.rows (by omega) (by omega) h.seen (by omega) (hM.begin hi ‹_› h.regs jX) h.pb).wk (by omega) (by omega)
      .split
       .refine⟨?_,.inl rfl⟩;have hz:x.marks.length≠0:=by
         have h1:=hM.len eM (by omega);have h3:=eM.up i hi;rw[Wal hi,WhM ‹_›]at h3;omega
        obtain⟨j,q,y,e1,e2,e3,⟨hj,h8⟩,rx,bv,jk,e5,e6⟩:=WkH (d:=((0,0,[]):KM)) eM (show i<=code.length by omega) hM.pcs hz;obtain⟨y1,y2,y3,y4⟩:=hM.each y (by rw[e1];simp);simp only[eC];refine(KOk.on eM h h0 hi bV (by omega) (by omega) (h.regs.set _ (by omega)) h.rows (by omega) (by omega) h.seen (by omega) ?_ h.pb).wk (by omega) (by omega);rw[show x.marks.dropLast=q by rw[e1];simp];exact hM.drop e1 (WhZ hi ‹_›) (by omega)
       .refine⟨?_,.inl rfl⟩;have ch:stk code (i+1)=stk code i:=Wfj hi (by omega) (by omega);simp only[eC];exact(KOk.on eM h h0 hi bV (by omega) (by omega) (Wk0 ok (by omega) (by omega) h.regs) h.rows (by omega) (by omega) h.seen (by omega) (hM.mono ch (by omega)) h.pb).wk (by omega) (by omega)
end
end
section
def zWd:Wd:=(0,0,0)
def WaU(m:Mm)(i:Int):Wd:=WdD m.2 i zWd
def Wre(m:Mm)(i:Int)(w:Wd):Mm:=(m.1,Wn5 m.2 i w)
variable{m:Mm}
theorem WpR(hm:WaL m=true){i:Int}{w:Wd}(hw:Wmp m.1 w=true):WaL (Wre m i w)=true:=by
 obtain⟨h8,h0,h1,lR⟩:=W2 hm;unfold WaL Wre Wn5;simp only[Xi,decide_eq_true_eq,Xai,Xad];refine⟨h8,⟨h0,h1⟩,λx hx=>?_⟩;rcases Xdi hx with h|h
 .exact lR x h
 .subst h;exact hw
theorem WhV(hm:WaL m=true){i:Int}(hi:0<=i/\i<=7):Wmp m.1 (WaU m i)=true:=Wnb hm hi
theorem WpO(hm:WaL m=true):WaL (WeE m).1=true/\0<=(WeE m).2/\(WeE m).2<=1000000/\((WeE m).2≠0->(WeE m).2=m.1+1/\(WeE m).1=(m.1+1,m.2))/\((WeE m).2=0->(WeE m).1=m):=by
 obtain⟨h8,h0,h1,lR⟩:=W2 hm;unfold WeE;split
 .refine⟨?_,by simp only;omega,by simp only;omega,λ_=>⟨rfl,rfl⟩,λh=>by simp only at h;omega⟩;unfold WaL;simp only[Xi,decide_eq_true_eq,Xai];refine⟨h8,⟨by omega,by omega⟩,λw hw=>?_⟩;have:=Wed.1 (lR w hw);rw[Wed];omega
 .exact⟨hm,by simp,by simp,λh=>absurd rfl h,λ_=>rfl⟩
end
end Go.Sx
