/- Plain laws of the Lean functions. -/
import Derived.Test.YtajmpbmmfponlaaGreatT
open Option renaming bind_some→Xc
open Nat renaming le_refl→Xj,add_assoc→Xak,add_comm→Xce,zero_add→Xbe,le_trans→Xaz,add_zero→Xap
open List renaming mem_cons_self→Xg,mem_cons_of_mem→Xe,length_cons→Xq,take_succ_eq_append_getElem→Xbx,map_append→Xo,getD→Xd,take_of_length_le→Xcn,length→Xb,length_append→Xw,length_dropLast→Xct,append_inj'→Xey,eq_nil_of_length_eq_zero→Xx,dropLast_concat→Xfp,append→Xp,all_eq_true→Xaf,mem_cons→Xm,getElem_mem→Xas,getD_eq_getElem?_getD→Xbg,getElem?_eq_none→Xbh,length_set→Xau,set_set→Xeu,set→Xl,pairwise_cons→Xv,mergeSort_perm→Xfq,getElem_of_mem→Xdn,pairwise_iff_getElem→Xcu,getElem_set→Xdb,mem_iff_getElem→Xea,pairwise_append→Xac,pairwise_singleton→Xbi,mem_singleton→Xab,mem_append→Xk,range→Xcv,map_cons→Xag,map_nil→Xca,range'→Xfw,mem_range'_1→Xft,length_map→Xad,take→Xcl,length_take→Xbc
open Bool renaming false_or→Xcg,or_eq_true→Xcc,and_eq_true→Xh,not_eq_true'→Xai,not_eq_true→Xew,not_true→Xaj,toNat_false→Xda,false_and→Xcm,true_and→Xbr,toNat_true→Xfz,eq_false_iff→Xdg,or_eq_false_iff→Xdj,not_eq_false'→Xem
open Int renaming toNat_natCast→Xu,toNat→Xa,add_zero→Xex,le_refl→Xcf
namespace Go.Sx
set_option linter.unusedVariables false
set_option linter.unusedSimpArgs false
section
def Waz(v:Int):Bool:=decide (0<=v)&&decide (v<=65535)
theorem WbD{N:Nat}{x a b:Int}:Zl N x a b=ret (decide (a<=x)&&decide (x<=b)):=by
 unfold Zl;by_cases h:a<=x<;>simp[h]
theorem Wz{N:Nat}{x a b:Int}:Zi N x a b=ret (decide (a<=x)&&decide (x<=b)):=by
 unfold Zi;by_cases h:a<=x<;>simp[h]
theorem WcX{α:Type}{p:α->Bool}(l:List α):(l.any λx=>!p x)= !l.all p:=by
 induction l with
 |nil=>rfl
 |cons x l ih=>simp[ih,Bool.not_and]
abbrev Rw:=Int×Int
def W6(v:Int):Bool:=decide (0<=v)&&decide (v<=7)
def Wgk(r:Rw):Bool:=W6 r.1&&Waz r.2
def Wa9(l:List Rw):Bool:=decide (l.length<=300)&&l.all Wgk
def WbI(l:List Int):Bool:=decide (l.length=8)&&l.all Waz
theorem Wr{N:Nat}{v:Int}:Zbz N v=ret (Waz v):=by
 unfold Zbz;simp only[WbD,ret,Xc];rfl
theorem Wq{N:Nat}{v:Int}:Zba N v=ret (Waz v):=by
 unfold Zba;simp only[Wz,ret,Xc];rfl
theorem Wt{N:Nat}{v:Int}:Zb2 N v=ret (W6 v):=by
 unfold Zb2;simp only[WbD,ret,Xc];rfl
theorem Wo{N:Nat}{v:Int}:Za5 N v=ret (W6 v):=by
 unfold Za5;simp only[Wz,ret,Xc];rfl
theorem Wfu{N:Nat}{l:List Int}(hl:l.length<=1048576)(hN:1048576<N):Zde N l=ret (WbI l):=by
 unfold Zde WbI;by_cases h:l.length=8
 .have e:(Wc l !=8)=false:=by simp[Wc,h]
  rw[e];simp only[cond_false];have h1:=Wp (l:=l) (V:=Unit) (R:=Unit×Kk) (lp:=λn j v=>Zbh N l (some ((),(false,()))) (λi8 t9=>some ((),(true,()))) n j) (n:=N) (by omega)
   (body:=λj x v k=>bif !Waz x then some ((),(false,()))else k v) (K:=λ_ v=>some ((),(true,())))
   (λn i v hi=>by simp only[Zbh,WX hi,Wn hi,Wv hi,Wh (show i<4611686018427387904 by omega),cond_true,Wr,ret,Xc])
   (λn v=>by simp only[Zbh,Wac (Xj l.length),cond_false]) ()
  refine h1.trans ?_;rw[War (p:=λx=>!Waz x) (E:=λ_=>some ((),(false,()))) l 0 () (λj x v k _=>rfl),WcX];cases l.all Waz<;>simp[h]
 .have e:(Wc l !=8)=true:=by simp[Wc];omega
  rw[e];simp[h]
theorem Wfp{N:Nat}{l:List Int}(hl:l.length<=1048576)(hN:1048576<N):Zx N l 8=ret (WbI l):=by
 unfold Zx WbI;have h1:=Wp (l:=l) (V:=Unit) (R:=Unit×Kk) (lp:=λn j v=>Zo N l 8 (some ((),(false,()))) (λi8 t9=>some ((),((Wc l)==(8:Int),()))) n j) (n:=N) (by omega)
  (body:=λj x v k=>bif !Waz x then some ((),(false,()))else k v) (K:=λ_ v=>some ((),((Wc l)==(8:Int),())))
  (λn i v hi=>by simp only[Zo,WX hi,Wn hi,Wv hi,Wh (show i<4611686018427387904 by omega),cond_true,Wq,ret,Xc])
  (λn v=>by simp only[Zo,Wac (Xj l.length),cond_false]) ()
 refine h1.trans ?_;rw[War (p:=λx=>!Waz x) (E:=λ_=>some ((),(false,()))) l 0 () (λj x v k _=>rfl),WcX];have e:((Wc l)==(8:Int))=decide (l.length=8):=by
  by_cases h:l.length=8
  .simp[Wc,h]
  .simp[Wc,h];omega
 rw[e];cases l.all Waz<;>simp
theorem Wfq{N:Nat}{l:List Rw}(hl:l.length<=1048576)(hN:1048576<N):Zdg N l=ret (Wa9 l):=by
 unfold Zdg Wa9;by_cases h:l.length<=300
 .have e:decide (Wc l>300)=false:=by simp[Wc];omega
  rw[e];simp only[cond_false];have h1:=Wp (l:=l) (V:=Unit) (R:=Unit×Kk) (lp:=λn j v=>Zbj N l (some ((),(false,()))) (λi8 t9=>some ((),(true,()))) n j) (n:=N) (by omega)
   (body:=λj x v k=>bif !Wgk x then some ((),(false,()))else k v) (K:=λ_ v=>some ((),(true,())))
   (λn i v hi=>by
    simp only[Zbj,WX hi,Wn hi,Wv hi,Wh (show i<4611686018427387904 by omega),cond_true,Wr,Wt,ret,Xc,Wgk];cases W6 l[i].1<;>rfl)
   (λn v=>by simp only[Zbj,Wac (Xj l.length),cond_false]) ()
  refine h1.trans ?_;rw[War (p:=λx=>!Wgk x) (E:=λ_=>some ((),(false,()))) l 0 () (λj x v k _=>rfl),WcX];cases l.all Wgk<;>simp[h]
 .have e:decide (Wc l>300)=true:=by simp[Wc];omega
  rw[e];simp[h]
theorem Wc8{N:Nat}{l:List Rw}(hl:l.length<=1048576)(hN:1048576<N):Zcs N l=ret (Wa9 l):=by
 unfold Zcs Wa9;have h1:=Wp (l:=l) (V:=Unit) (R:=Unit×Kk) (lp:=λn j v=>Zbn N l (some ((),(false,()))) (λi8 t9=>some ((),(decide ((Wc l)<=(300:Int)),()))) n j) (n:=N) (by omega)
  (body:=λj x v k=>bif !Wgk x then some ((),(false,()))else k v) (K:=λ_ v=>some ((),(decide ((Wc l)<=(300:Int)),())))
  (λn i v hi=>by
   simp only[Zbn,WX hi,Wn hi,Wv hi,Wh (show i<4611686018427387904 by omega),cond_true,Wq,Wo,ret,Xc,Wgk];cases W6 l[i].1<;>rfl)
  (λn v=>by simp only[Zbn,Wac (Xj l.length),cond_false]) ()
 refine h1.trans ?_;rw[War (p:=λx=>!Wgk x) (E:=λ_=>some ((),(false,()))) l 0 () (λj x v k _=>rfl),WcX];have e:decide (Wc l<=300)=decide (l.length<=300):=by apply decide_eq_decide.2;simp[Wc];omega
 rw[e];cases l.all Wgk<;>simp
end
section
abbrev Opn:=Int×Int×Int×Int
def Wg(v:Int):Bool:=decide (0<=v)&&decide (v<=3)
def WcK(v:Int):Bool:=decide (0<=v)&&decide (v<=7)
theorem WD{N:Nat}{v:Int}:Ze N v=ret (Wg v):=by
 unfold Ze;simp only[WbD,ret,Xc];rfl
theorem WF{N:Nat}{v:Int}:Zf N v=ret (Wg v):=by
 unfold Zf;simp only[Wz,ret,Xc];rfl
theorem WE{N:Nat}{v:Int}:Zcl N v=ret (WcK v):=by
 unfold Zcl;simp only[Wz,ret,Xc];rfl
theorem WaL{v:Int}:(decide ((0:Int)<=v)&&decide (v<=7))=WcK v:=rfl
def Wab(o:Opn):Bool:=
 bif o.1==1 then Wg o.2.1&&Waz o.2.2.1&&(o.2.2.2==(0:Int))else
 bif o.1==2 then Wg o.2.1&&Wg o.2.2.1&&Wg o.2.2.2 else
 bif o.1==3 then Wg o.2.1&&Wg o.2.2.1&&Wg o.2.2.2 else
 bif o.1==4 then Wg o.2.1&&Wg o.2.2.1&&Wg o.2.2.2 else
 bif o.1==5 then Wg o.2.1&&W6 o.2.2.1&&(o.2.2.2==(0:Int))else
 bif o.1==6 then W6 o.2.1&&Wg o.2.2.1&&(o.2.2.2==(0:Int))else
 bif o.1==7 then Wg o.2.1&&(decide (1<=o.2.2.1)&&decide (o.2.2.1<=20))&&(o.2.2.2==(0:Int))else
 bif o.1==8 then Wg o.2.1&&(o.2.2.1==(0:Int))&&(o.2.2.2==(0:Int))else
 bif o.1==9 then(o.2.1==(0:Int))&&(o.2.2.1==(0:Int))&&(o.2.2.2==(0:Int))else
 bif o.1==10 then(o.2.1==(0:Int))&&(o.2.2.1==(0:Int))&&(o.2.2.2==(0:Int))else
 bif o.1==11 then(o.2.1==(0:Int))&&(o.2.2.1==(0:Int))&&(o.2.2.2==(0:Int))else
 bif o.1==12 then WcK o.2.1&&Wg o.2.2.1&&Wg o.2.2.2 else
 bif o.1==13 then Wg o.2.1&&WcK o.2.2.1&&(o.2.2.2==(0:Int))else
 bif o.1==14 then WcK o.2.1&&Wg o.2.2.1&&(o.2.2.2==(0:Int))else
 bif o.1==15 then Wg o.2.1&&(o.2.2.1==(0:Int))&&(o.2.2.2==(0:Int))else
 bif o.1==16 then Wg o.2.1&&(o.2.2.1==(0:Int))&&(o.2.2.2==(0:Int))else
 false
theorem Woo{N:Nat}{a b c:Int}:Zc N (1,a,b,c)=ret (Wab (1,a,b,c)):=by
 have h:Zc N (1,a,b,c)=((Ze N a).bind λo=>bif o.2.1 then((Zbz N b).bind λo=>bif o.2.1 then some ((),(c==(0:Int),()))else some ((),(false,())))else some ((),(false,()))):=by kernel_rfl
 have h2:Wab (1,a,b,c)=(Wg a&&Waz b&&(c==(0:Int))):=rfl;rw[h,h2];simp only[WD,Wr,Wt,WbD,WaL,ret,Xc];cases Wg a<;>cases Waz b<;>rfl
theorem Wn6{N:Nat}{a b c:Int}:Zc N (2,a,b,c)=ret (Wab (2,a,b,c)):=by
 have h:Zc N (2,a,b,c)=((Ze N a).bind λo=>bif o.2.1 then((Ze N b).bind λo=>bif o.2.1 then((Ze N c).bind λo=>some ((),(o.2.1,())))else some ((),(false,())))else some ((),(false,()))):=by kernel_rfl
 have h2:Wab (2,a,b,c)=(Wg a&&Wg b&&Wg c):=rfl;rw[h,h2];simp only[WD,Wr,Wt,WbD,WaL,ret,Xc];cases Wg a<;>cases Wg b<;>rfl
theorem Wou{N:Nat}{a b c:Int}:Zc N (3,a,b,c)=ret (Wab (3,a,b,c)):=by
 have h:Zc N (3,a,b,c)=((Ze N a).bind λo=>bif o.2.1 then((Ze N b).bind λo=>bif o.2.1 then((Ze N c).bind λo=>some ((),(o.2.1,())))else some ((),(false,())))else some ((),(false,()))):=by kernel_rfl
 have h2:Wab (3,a,b,c)=(Wg a&&Wg b&&Wg c):=rfl;rw[h,h2];simp only[WD,Wr,Wt,WbD,WaL,ret,Xc];cases Wg a<;>cases Wg b<;>rfl
theorem WoR{N:Nat}{a b c:Int}:Zc N (4,a,b,c)=ret (Wab (4,a,b,c)):=by
 have h:Zc N (4,a,b,c)=((Ze N a).bind λo=>bif o.2.1 then((Ze N b).bind λo=>bif o.2.1 then((Ze N c).bind λo=>some ((),(o.2.1,())))else some ((),(false,())))else some ((),(false,()))):=by kernel_rfl
 have h2:Wab (4,a,b,c)=(Wg a&&Wg b&&Wg c):=rfl;rw[h,h2];simp only[WD,Wr,Wt,WbD,WaL,ret,Xc];cases Wg a<;>cases Wg b<;>rfl
theorem Wn3{N:Nat}{a b c:Int}:Zc N (5,a,b,c)=ret (Wab (5,a,b,c)):=by
 have h:Zc N (5,a,b,c)=((Ze N a).bind λo=>bif o.2.1 then((Zb2 N b).bind λo=>bif o.2.1 then some ((),(c==(0:Int),()))else some ((),(false,())))else some ((),(false,()))):=by kernel_rfl
 have h2:Wab (5,a,b,c)=(Wg a&&W6 b&&(c==(0:Int))):=rfl;rw[h,h2];simp only[WD,Wr,Wt,WbD,WaL,ret,Xc];cases Wg a<;>cases W6 b<;>rfl
theorem Wn7{N:Nat}{a b c:Int}:Zc N (6,a,b,c)=ret (Wab (6,a,b,c)):=by
 have h:Zc N (6,a,b,c)=((Zb2 N a).bind λo=>bif o.2.1 then((Ze N b).bind λo=>bif o.2.1 then some ((),(c==(0:Int),()))else some ((),(false,())))else some ((),(false,()))):=by kernel_rfl
 have h2:Wab (6,a,b,c)=(W6 a&&Wg b&&(c==(0:Int))):=rfl;rw[h,h2];simp only[WD,Wr,Wt,WbD,WaL,ret,Xc];cases W6 a<;>cases Wg b<;>rfl
theorem WoD{N:Nat}{a b c:Int}:Zc N (7,a,b,c)=ret (Wab (7,a,b,c)):=by
 have h:Zc N (7,a,b,c)=((Ze N a).bind λo=>bif o.2.1 then((Zl N b 1 20).bind λo=>bif o.2.1 then some ((),(c==(0:Int),()))else some ((),(false,())))else some ((),(false,()))):=by kernel_rfl
 have h2:Wab (7,a,b,c)=(Wg a&&(decide (1<=b)&&decide (b<=20))&&(c==(0:Int))):=rfl;rw[h,h2];simp only[WD,Wr,Wt,WbD,WaL,ret,Xc];cases Wg a<;>cases(decide (1<=b)&&decide (b<=20))<;>rfl
theorem Wn0{N:Nat}{a b c:Int}:Zc N (8,a,b,c)=ret (Wab (8,a,b,c)):=by
 have h:Zc N (8,a,b,c)=((Ze N a).bind λo=>bif o.2.1 then(bif b==(0:Int)then some ((),(c==(0:Int),()))else some ((),(false,())))else some ((),(false,()))):=by kernel_rfl
 have h2:Wab (8,a,b,c)=(Wg a&&(b==(0:Int))&&(c==(0:Int))):=rfl;rw[h,h2];simp only[WD,Wr,Wt,WbD,WaL,ret,Xc];cases Wg a<;>cases(b==(0:Int))<;>rfl
theorem WnX{N:Nat}{a b c:Int}:Zc N (9,a,b,c)=ret (Wab (9,a,b,c)):=by
 have h:Zc N (9,a,b,c)=(bif a==(0:Int)then(bif b==(0:Int)then some ((),(c==(0:Int),()))else some ((),(false,())))else some ((),(false,()))):=by kernel_rfl
 have h2:Wab (9,a,b,c)=((a==(0:Int))&&(b==(0:Int))&&(c==(0:Int))):=rfl;rw[h,h2];simp only[WD,Wr,Wt,WbD,WaL,ret,Xc];cases(a==(0:Int))<;>cases(b==(0:Int))<;>rfl
theorem WnD{N:Nat}{a b c:Int}:Zc N (10,a,b,c)=ret (Wab (10,a,b,c)):=by
 have h:Zc N (10,a,b,c)=(bif a==(0:Int)then(bif b==(0:Int)then some ((),(c==(0:Int),()))else some ((),(false,())))else some ((),(false,()))):=by kernel_rfl
 have h2:Wab (10,a,b,c)=((a==(0:Int))&&(b==(0:Int))&&(c==(0:Int))):=rfl;rw[h,h2];simp only[WD,Wr,Wt,WbD,WaL,ret,Xc];cases(a==(0:Int))<;>cases(b==(0:Int))<;>rfl
theorem WmW{N:Nat}{a b c:Int}:Zc N (11,a,b,c)=ret (Wab (11,a,b,c)):=by
 have h:Zc N (11,a,b,c)=(bif a==(0:Int)then(bif b==(0:Int)then some ((),(c==(0:Int),()))else some ((),(false,())))else some ((),(false,()))):=by kernel_rfl
 have h2:Wab (11,a,b,c)=((a==(0:Int))&&(b==(0:Int))&&(c==(0:Int))):=rfl;rw[h,h2];simp only[WD,Wr,Wt,WbD,WaL,ret,Xc];cases(a==(0:Int))<;>cases(b==(0:Int))<;>rfl
theorem Wnd{N:Nat}{a b c:Int}:Zc N (12,a,b,c)=ret (Wab (12,a,b,c)):=by
 have h:Zc N (12,a,b,c)=((Zl N a 0 7).bind λo=>bif o.2.1 then((Ze N b).bind λo=>bif o.2.1 then((Ze N c).bind λo=>some ((),(o.2.1,())))else some ((),(false,())))else some ((),(false,()))):=by kernel_rfl
 have h2:Wab (12,a,b,c)=(WcK a&&Wg b&&Wg c):=rfl;rw[h,h2];simp only[WD,Wr,Wt,WbD,WaL,ret,Xc];cases WcK a<;>cases Wg b<;>rfl
theorem Wmr{N:Nat}{a b c:Int}:Zc N (13,a,b,c)=ret (Wab (13,a,b,c)):=by
 have h:Zc N (13,a,b,c)=((Ze N a).bind λo=>bif o.2.1 then((Zl N b 0 7).bind λo=>bif o.2.1 then some ((),(c==(0:Int),()))else some ((),(false,())))else some ((),(false,()))):=by kernel_rfl
 have h2:Wab (13,a,b,c)=(Wg a&&WcK b&&(c==(0:Int))):=rfl;rw[h,h2];simp only[WD,Wr,Wt,WbD,WaL,ret,Xc];cases Wg a<;>cases WcK b<;>rfl
theorem WnT{N:Nat}{a b c:Int}:Zc N (14,a,b,c)=ret (Wab (14,a,b,c)):=by
 have h:Zc N (14,a,b,c)=((Zl N a 0 7).bind λo=>bif o.2.1 then((Ze N b).bind λo=>bif o.2.1 then some ((),(c==(0:Int),()))else some ((),(false,())))else some ((),(false,()))):=by kernel_rfl
 have h2:Wab (14,a,b,c)=(WcK a&&Wg b&&(c==(0:Int))):=rfl;rw[h,h2];simp only[WD,Wr,Wt,WbD,WaL,ret,Xc];cases WcK a<;>cases Wg b<;>rfl
theorem Wmo{N:Nat}{a b c:Int}:Zc N (15,a,b,c)=ret (Wab (15,a,b,c)):=by
 have h:Zc N (15,a,b,c)=((Ze N a).bind λo=>bif o.2.1 then(bif b==(0:Int)then some ((),(c==(0:Int),()))else some ((),(false,())))else some ((),(false,()))):=by kernel_rfl
 have h2:Wab (15,a,b,c)=(Wg a&&(b==(0:Int))&&(c==(0:Int))):=rfl;rw[h,h2];simp only[WD,Wr,Wt,WbD,WaL,ret,Xc];cases Wg a<;>cases(b==(0:Int))<;>rfl
theorem Wnn{N:Nat}{a b c:Int}:Zc N (16,a,b,c)=ret (Wab (16,a,b,c)):=by
 have h:Zc N (16,a,b,c)=((Ze N a).bind λo=>bif o.2.1 then(bif b==(0:Int)then some ((),(c==(0:Int),()))else some ((),(false,())))else some ((),(false,()))):=by kernel_rfl
 have h2:Wab (16,a,b,c)=(Wg a&&(b==(0:Int))&&(c==(0:Int))):=rfl;rw[h,h2];simp only[WD,Wr,Wt,WbD,WaL,ret,Xc];cases Wg a<;>cases(b==(0:Int))<;>rfl
theorem WbG{N:Nat}{o:Opn}:Zc N o=ret (Wab o):=by
 obtain⟨k,a,b,c⟩:=o;by_cases h1:k=1
 .subst h1;exact Woo
 by_cases h2:k=2
 .subst h2;exact Wn6
 by_cases h3:k=3
 .subst h3;exact Wou
 by_cases h4:k=4
 .subst h4;exact WoR
 by_cases h5:k=5
 .subst h5;exact Wn3
 by_cases h6:k=6
 .subst h6;exact Wn7
 by_cases h7:k=7
 .subst h7;exact WoD
 by_cases h8:k=8
 .subst h8;exact Wn0
 by_cases h9:k=9
 .subst h9;exact WnX
 by_cases ba:k=10
 .subst ba;exact WnD
 by_cases eK:k=11
 .subst eK;exact WmW
 by_cases jE:k=12
 .subst jE;exact Wnd
 by_cases iy:k=13
 .subst iy;exact Wmr
 by_cases h14:k=14
 .subst h14;exact WnT
 by_cases h15:k=15
 .subst h15;exact Wmo
 by_cases jF:k=16
 .subst jF;exact Wnn
 have e1:(k==(1:Int))=false:=by simpa using h1
 have e2:(k==(2:Int))=false:=by simpa using h2
 have e3:(k==(3:Int))=false:=by simpa using h3
 have e4:(k==(4:Int))=false:=by simpa using h4
 have e5:(k==(5:Int))=false:=by simpa using h5
 have e6:(k==(6:Int))=false:=by simpa using h6
 have e7:(k==(7:Int))=false:=by simpa using h7
 have e8:(k==(8:Int))=false:=by simpa using h8
 have e9:(k==(9:Int))=false:=by simpa using h9
 have nq:(k==(10:Int))=false:=by simpa using ba
 have nr:(k==(11:Int))=false:=by simpa using eK
 have nv:(k==(12:Int))=false:=by simpa using jE
 have ny:(k==(13:Int))=false:=by simpa using iy
 have nz:(k==(14:Int))=false:=by simpa using h14
 have nA:(k==(15:Int))=false:=by simpa using h15
 have nB:(k==(16:Int))=false:=by simpa using jF
 unfold Zc Wab;simp only[];rw[e1,e2,e3,e4,e5,e6,e7,e8,e9,nq,nr,nv,ny,nz,nA,nB];rfl
theorem Wow{N:Nat}{a b c:Int}:Zd N (1,a,b,c)=ret (Wab (1,a,b,c)):=by
 have h:Zd N (1,a,b,c)=((Zf N a).bind λo=>bif o.2.1 then((Zba N b).bind λo=>bif o.2.1 then some ((),(c==(0:Int),()))else some ((),(false,())))else some ((),(false,()))):=by kernel_rfl
 have h2:Wab (1,a,b,c)=(Wg a&&Waz b&&(c==(0:Int))):=rfl;rw[h,h2];simp only[WF,Wq,Wo,WE,Wz,WaL,ret,Xc];cases Wg a<;>cases Waz b<;>rfl
theorem Woz{N:Nat}{a b c:Int}:Zd N (2,a,b,c)=ret (Wab (2,a,b,c)):=by
 have h:Zd N (2,a,b,c)=((Zf N a).bind λo=>bif o.2.1 then((Zf N b).bind λo=>bif o.2.1 then((Zf N c).bind λo=>some ((),(o.2.1,())))else some ((),(false,())))else some ((),(false,()))):=by kernel_rfl
 have h2:Wab (2,a,b,c)=(Wg a&&Wg b&&Wg c):=rfl;rw[h,h2];simp only[WF,Wq,Wo,WE,Wz,WaL,ret,Xc];cases Wg a<;>cases Wg b<;>rfl
theorem WoL{N:Nat}{a b c:Int}:Zd N (3,a,b,c)=ret (Wab (3,a,b,c)):=by
 have h:Zd N (3,a,b,c)=((Zf N a).bind λo=>bif o.2.1 then((Zf N b).bind λo=>bif o.2.1 then((Zf N c).bind λo=>some ((),(o.2.1,())))else some ((),(false,())))else some ((),(false,()))):=by kernel_rfl
 have h2:Wab (3,a,b,c)=(Wg a&&Wg b&&Wg c):=rfl;rw[h,h2];simp only[WF,Wq,Wo,WE,Wz,WaL,ret,Xc];cases Wg a<;>cases Wg b<;>rfl
theorem Wok{N:Nat}{a b c:Int}:Zd N (4,a,b,c)=ret (Wab (4,a,b,c)):=by
 have h:Zd N (4,a,b,c)=((Zf N a).bind λo=>bif o.2.1 then((Zf N b).bind λo=>bif o.2.1 then((Zf N c).bind λo=>some ((),(o.2.1,())))else some ((),(false,())))else some ((),(false,()))):=by kernel_rfl
 have h2:Wab (4,a,b,c)=(Wg a&&Wg b&&Wg c):=rfl;rw[h,h2];simp only[WF,Wq,Wo,WE,Wz,WaL,ret,Xc];cases Wg a<;>cases Wg b<;>rfl
theorem WoP{N:Nat}{a b c:Int}:Zd N (5,a,b,c)=ret (Wab (5,a,b,c)):=by
 have h:Zd N (5,a,b,c)=((Zf N a).bind λo=>bif o.2.1 then((Za5 N b).bind λo=>bif o.2.1 then some ((),(c==(0:Int),()))else some ((),(false,())))else some ((),(false,()))):=by kernel_rfl
 have h2:Wab (5,a,b,c)=(Wg a&&W6 b&&(c==(0:Int))):=rfl;rw[h,h2];simp only[WF,Wq,Wo,WE,Wz,WaL,ret,Xc];cases Wg a<;>cases W6 b<;>rfl
theorem Wn5{N:Nat}{a b c:Int}:Zd N (6,a,b,c)=ret (Wab (6,a,b,c)):=by
 have h:Zd N (6,a,b,c)=((Za5 N a).bind λo=>bif o.2.1 then((Zf N b).bind λo=>bif o.2.1 then some ((),(c==(0:Int),()))else some ((),(false,())))else some ((),(false,()))):=by kernel_rfl
 have h2:Wab (6,a,b,c)=(W6 a&&Wg b&&(c==(0:Int))):=rfl;rw[h,h2];simp only[WF,Wq,Wo,WE,Wz,WaL,ret,Xc];cases W6 a<;>cases Wg b<;>rfl
theorem WoC{N:Nat}{a b c:Int}:Zd N (7,a,b,c)=ret (Wab (7,a,b,c)):=by
 have h:Zd N (7,a,b,c)=((Zf N a).bind λo=>bif o.2.1 then((Zi N b 1 20).bind λo=>bif o.2.1 then some ((),(c==(0:Int),()))else some ((),(false,())))else some ((),(false,()))):=by kernel_rfl
 have h2:Wab (7,a,b,c)=(Wg a&&(decide (1<=b)&&decide (b<=20))&&(c==(0:Int))):=rfl;rw[h,h2];simp only[WF,Wq,Wo,WE,Wz,WaL,ret,Xc];cases Wg a<;>cases(decide (1<=b)&&decide (b<=20))<;>rfl
theorem WoW{N:Nat}{a b c:Int}:Zd N (8,a,b,c)=ret (Wab (8,a,b,c)):=by
 have h:Zd N (8,a,b,c)=((Zf N a).bind λo=>bif o.2.1 then(bif b==(0:Int)then some ((),(c==(0:Int),()))else some ((),(false,())))else some ((),(false,()))):=by kernel_rfl
 have h2:Wab (8,a,b,c)=(Wg a&&(b==(0:Int))&&(c==(0:Int))):=rfl;rw[h,h2];simp only[WF,Wq,Wo,WE,Wz,WaL,ret,Xc];cases Wg a<;>cases(b==(0:Int))<;>rfl
theorem Wn2{N:Nat}{a b c:Int}:Zd N (9,a,b,c)=ret (Wab (9,a,b,c)):=by
 have h:Zd N (9,a,b,c)=(bif a==(0:Int)then(bif b==(0:Int)then some ((),(c==(0:Int),()))else some ((),(false,())))else some ((),(false,()))):=by kernel_rfl
 have h2:Wab (9,a,b,c)=((a==(0:Int))&&(b==(0:Int))&&(c==(0:Int))):=rfl;rw[h,h2];simp only[WF,Wq,Wo,WE,Wz,WaL,ret,Xc];cases(a==(0:Int))<;>cases(b==(0:Int))<;>rfl
theorem Wnt{N:Nat}{a b c:Int}:Zd N (10,a,b,c)=ret (Wab (10,a,b,c)):=by
 have h:Zd N (10,a,b,c)=(bif a==(0:Int)then(bif b==(0:Int)then some ((),(c==(0:Int),()))else some ((),(false,())))else some ((),(false,()))):=by kernel_rfl
 have h2:Wab (10,a,b,c)=((a==(0:Int))&&(b==(0:Int))&&(c==(0:Int))):=rfl;rw[h,h2];simp only[WF,Wq,Wo,WE,Wz,WaL,ret,Xc];cases(a==(0:Int))<;>cases(b==(0:Int))<;>rfl
theorem Wnz{N:Nat}{a b c:Int}:Zd N (11,a,b,c)=ret (Wab (11,a,b,c)):=by
 have h:Zd N (11,a,b,c)=(bif a==(0:Int)then(bif b==(0:Int)then some ((),(c==(0:Int),()))else some ((),(false,())))else some ((),(false,()))):=by kernel_rfl
 have h2:Wab (11,a,b,c)=((a==(0:Int))&&(b==(0:Int))&&(c==(0:Int))):=rfl;rw[h,h2];simp only[WF,Wq,Wo,WE,Wz,WaL,ret,Xc];cases(a==(0:Int))<;>cases(b==(0:Int))<;>rfl
theorem Wm4{N:Nat}{a b c:Int}:Zd N (12,a,b,c)=ret (Wab (12,a,b,c)):=by
 have h:Zd N (12,a,b,c)=((Zcl N a).bind λo=>bif o.2.1 then((Zf N b).bind λo=>bif o.2.1 then((Zf N c).bind λo=>some ((),(o.2.1,())))else some ((),(false,())))else some ((),(false,()))):=by kernel_rfl
 have h2:Wab (12,a,b,c)=(WcK a&&Wg b&&Wg c):=rfl;rw[h,h2];simp only[WF,Wq,Wo,WE,Wz,WaL,ret,Xc];cases WcK a<;>cases Wg b<;>rfl
theorem WmY{N:Nat}{a b c:Int}:Zd N (13,a,b,c)=ret (Wab (13,a,b,c)):=by
 have h:Zd N (13,a,b,c)=((Zf N a).bind λo=>bif o.2.1 then((Zcl N b).bind λo=>bif o.2.1 then some ((),(c==(0:Int),()))else some ((),(false,())))else some ((),(false,()))):=by kernel_rfl
 have h2:Wab (13,a,b,c)=(Wg a&&WcK b&&(c==(0:Int))):=rfl;rw[h,h2];simp only[WF,Wq,Wo,WE,Wz,WaL,ret,Xc];cases Wg a<;>cases WcK b<;>rfl
theorem Wmt{N:Nat}{a b c:Int}:Zd N (14,a,b,c)=ret (Wab (14,a,b,c)):=by
 have h:Zd N (14,a,b,c)=((Zcl N a).bind λo=>bif o.2.1 then((Zf N b).bind λo=>bif o.2.1 then some ((),(c==(0:Int),()))else some ((),(false,())))else some ((),(false,()))):=by kernel_rfl
 have h2:Wab (14,a,b,c)=(WcK a&&Wg b&&(c==(0:Int))):=rfl;rw[h,h2];simp only[WF,Wq,Wo,WE,Wz,WaL,ret,Xc];cases WcK a<;>cases Wg b<;>rfl
theorem Wm1{N:Nat}{a b c:Int}:Zd N (15,a,b,c)=ret (Wab (15,a,b,c)):=by
 have h:Zd N (15,a,b,c)=((Zf N a).bind λo=>bif o.2.1 then(bif b==(0:Int)then some ((),(c==(0:Int),()))else some ((),(false,())))else some ((),(false,()))):=by kernel_rfl
 have h2:Wab (15,a,b,c)=(Wg a&&(b==(0:Int))&&(c==(0:Int))):=rfl;rw[h,h2];simp only[WF,Wq,Wo,WE,Wz,WaL,ret,Xc];cases Wg a<;>cases(b==(0:Int))<;>rfl
theorem WmA{N:Nat}{a b c:Int}:Zd N (16,a,b,c)=ret (Wab (16,a,b,c)):=by
 have h:Zd N (16,a,b,c)=((Zf N a).bind λo=>bif o.2.1 then(bif b==(0:Int)then some ((),(c==(0:Int),()))else some ((),(false,())))else some ((),(false,()))):=by kernel_rfl
 have h2:Wab (16,a,b,c)=(Wg a&&(b==(0:Int))&&(c==(0:Int))):=rfl;rw[h,h2];simp only[WF,Wq,Wo,WE,Wz,WaL,ret,Xc];cases Wg a<;>cases(b==(0:Int))<;>rfl
theorem WeP{N:Nat}{o:Opn}:Zd N o=ret (Wab o):=by
 obtain⟨k,a,b,c⟩:=o;by_cases h1:k=1
 .subst h1;exact Wow
 by_cases h2:k=2
 .subst h2;exact Woz
 by_cases h3:k=3
 .subst h3;exact WoL
 by_cases h4:k=4
 .subst h4;exact Wok
 by_cases h5:k=5
 .subst h5;exact WoP
 by_cases h6:k=6
 .subst h6;exact Wn5
 by_cases h7:k=7
 .subst h7;exact WoC
 by_cases h8:k=8
 .subst h8;exact WoW
 by_cases h9:k=9
 .subst h9;exact Wn2
 by_cases ba:k=10
 .subst ba;exact Wnt
 by_cases eK:k=11
 .subst eK;exact Wnz
 by_cases jE:k=12
 .subst jE;exact Wm4
 by_cases iy:k=13
 .subst iy;exact WmY
 by_cases h14:k=14
 .subst h14;exact Wmt
 by_cases h15:k=15
 .subst h15;exact Wm1
 by_cases jF:k=16
 .subst jF;exact WmA
 have e1:(k==(1:Int))=false:=by simpa using h1
 have e2:(k==(2:Int))=false:=by simpa using h2
 have e3:(k==(3:Int))=false:=by simpa using h3
 have e4:(k==(4:Int))=false:=by simpa using h4
 have e5:(k==(5:Int))=false:=by simpa using h5
 have e6:(k==(6:Int))=false:=by simpa using h6
 have e7:(k==(7:Int))=false:=by simpa using h7
 have e8:(k==(8:Int))=false:=by simpa using h8
 have e9:(k==(9:Int))=false:=by simpa using h9
 have nq:(k==(10:Int))=false:=by simpa using ba
 have nr:(k==(11:Int))=false:=by simpa using eK
 have nv:(k==(12:Int))=false:=by simpa using jE
 have ny:(k==(13:Int))=false:=by simpa using iy
 have nz:(k==(14:Int))=false:=by simpa using h14
 have nA:(k==(15:Int))=false:=by simpa using h15
 have nB:(k==(16:Int))=false:=by simpa using jF
 unfold Zd Wab;simp only[];rw[e1,e2,e3,e4,e5,e6,e7,e8,e9,nq,nr,nv,ny,nz,nA,nB];rfl
end
section
def WjY{α:Type}(p:Nat->α->Bool):Nat->List α->Bool
 |_,[]=>false
 |j,x::l=>p j x||WjY p (j+1) l
theorem Wce{α V R:Type}{body:Int->α->V->(V->Option R)->Option R}{K:Int->V->Option R}{p:Nat->α->Bool}{E:V->Option R}:∀(l:List α) (j:Nat) (v:V),(∀(j:Nat) x v k,x∈l->body j x v k=bif p j x then E v else k v)->
  WbC body K l j v=bif WjY p j l then E v else K ((j+l.length:Nat):Int) v
 | [],j,v,_=>rfl
 |x::l,j,v,h=>by
  rw[WbC,h j x v _ (Xg ..),Wce l (j+1) v λj y v k hy=>h j y v k (Xe _ hy),WjY];cases p j x
  .simp only[cond_false,Xcg,Xq];rw[show j+1+l.length=j+(l.length+1) by omega]
  .rfl
theorem Wef{α:Type}{p:Nat->α->Bool}:∀{l:List α} {j:Nat},WjY p j l=true↔∃i,∃h:i<l.length,p (j+i) l[i]=true
 | [],j=>by simp[WjY]
 |x::l,j=>by
  rw[WjY,Xcc,Wef];constructor
  .rintro(h|⟨i,hi,h⟩)
   .exact⟨0,by simp,by simpa using h⟩
   .exact⟨i+1,by simpa using hi,by simpa [Xak,Xce 1]using h⟩
  .rintro⟨i,hi,h⟩;cases i with
   |zero=>exact .inl (by simpa using h)
   |succ i=>exact .inr ⟨i,by simpa using hi,by simpa [Xak,Xce 1]using h⟩
def opd(o:Opn):Int:=bif o.1==8 then 1 else bif o.1==9 then-1 else 0
theorem Wf1(o:Opn):-1<=opd o/\opd o<=1:=by unfold opd;cases o.1==8<;>cases o.1==9<;>simp
def dep(l:List Opn)(j:Nat):Int:=((l.take j).map opd).sum
theorem Wb3(l:List Opn):dep l 0=0:=by simp[dep]
theorem Wam{l:List Opn}{j:Nat}(h:j<l.length):dep l (j+1)=dep l j+opd l[j]:=by
 unfold dep;rw[Xbx h,Xo,List.sum_append];simp
theorem WL{α:Type}{l:List α}{j:Nat}(h:j<l.length)(d:α):Xd l j d=l[j]:=by simp[h]
theorem WbM(l:List Opn):∀j:Nat,-(j:Int)<=dep l j/\dep l j<=j
 |0=>by simp[dep]
 |j+1=>by
  have ih:=WbM l j;by_cases h:j<l.length
  .have:=Wf1 l[j];rw[Wam h];omega
  .have:dep l (j+1)=dep l j:=by unfold dep;rw[Xcn (by omega),Xcn (by omega)]
   rw[this];omega
def bal(l:List Opn):Bool:=!WjY (λj _=>decide (dep l (j+1)<0)) 0 l&&decide (dep l l.length=0)
theorem Wek{N:Nat}{o:Opn}:Zfn N o=ret (opd o):=by
 unfold Zfn opd;cases o.1==8<;>cases o.1==9<;>rfl
theorem WqD(x:Int):(x==(0:Int))=decide (x=0):=by by_cases h:x=0<;>simp[h]
theorem Wgh{N:Nat}{l:List Opn}(hl:l.length<=1048576)(hN:1048576<N):Zbm N l=ret (bal l):=by
 unfold Zbm bal;have h1:=Wp (l:=l) (V:=Unit) (R:=Unit×Kk) (lp:=λn j _=>Zaa N l (some ((),(false,()))) (λmR cX fD=>some ((),(mR==(0:Int),()))) n (dep l j.toNat) j) (n:=N) (by omega)
  (body:=λj _ v k=>bif decide (dep l (j.toNat+1)<0)then some ((),(false,()))else k v) (K:=λj _=>some ((),(dep l j.toNat==(0:Int),())))
  (λn i v hi=>by
   have hb:=WbM l i;have hs:=Wam hi;have ho:=Wf1 l[i];have e:Wf .i64 (dep l i) (opd l[i])=dep l (i+1):=by rw[W3 (by unfold I64;omega),hs]
   simp only[Zaa,WX hi,Wn hi,Wv hi,WL hi,Wh (show i<4611686018427387904 by omega),cond_true,Wek,ret,Xc,Xu,e])
  (λn v=>by simp only[Zaa,Wac (Xj l.length),cond_false]) ()
 have e0:dep l (Xa 0)=0:=Wb3 l;simp only[e0]at h1;refine h1.trans ?_;rw[Wce (p:=λj _=>decide (dep l (j+1)<0)) (E:=λ_=>some ((),(false,()))) l 0 () (λj x v k _=>rfl)];rw[Xbe,Xu,WqD];cases WjY (λj _=>decide (dep l (j+1)<0)) 0 l<;>rfl
theorem WhI{N:Nat}{l:List Opn}(hl:l.length<=1048576)(hN:1048576<N){i:Nat}(hi:i<=l.length):Zds N l (i:Int)=ret (dep l i):=by
 unfold Zds;have h1:=Wp (l:=l) (V:=Unit) (R:=Unit×Kg) (lp:=λn j _=>Zag N (i:Int) l (λjC gD gE=>some ((),(jC,()))) n (dep l (min j.toNat i)) j) (n:=N) (by omega)
  (body:=λj _ v k=>k v) (K:=λj _=>some ((),(dep l (min j.toNat i),())))
  (λn j v hj=>by
   have hb:=WbM l j;have ho:=Wf1 l[j];simp only[Zag,WX hj,Wn hj,Wv hj,WL hj,Wh (show j<4611686018427387904 by omega),cond_true,Wek,ret,Xc,Xu];by_cases h:j<i
   .have e1:decide ((j:Int)<(i:Int))=true:=by simpa using h
    have e2:min j i=j:=by omega
    have e3:min (j+1) i=j+1:=by omega
    have e:Wf .i64 (dep l j) (opd l[j])=dep l (j+1):=by rw[W3 (by unfold I64;omega),Wam hj]
    rw[e1,e2,e3,e];rfl
   .have e1:decide ((j:Int)<(i:Int))=false:=by simp;omega
    have e2:min j i=i:=by omega
    have e3:min (j+1) i=i:=by omega
    rw[e1,e2,e3];rfl)
  (λn v=>by simp only[Zag,Wac (Xj l.length),cond_false]) ()
 have e0:dep l (min (Xa 0) i)=0:=by
  have:min (Xa 0) i=0:=by simp
  rw[this];exact Wb3 l
 simp only[e0]at h1;refine h1.trans ?_;rw[Whh (f:=λv _=>v) l 0 () (λj x v k _=>rfl),Xbe,Xu,Nat.min_eq_right hi]
theorem WjU{N:Nat}{l:List Opn}{a b:Nat}(eZ:a<=b)(hb:b<=l.length)(hl:l.length<=1048576)(hN:1048576<N):
  Zq N l (b:Int) (some ((),(false,()))) (λkN ii aU=>some ((),(kN==(0:Int),()))) N 0 (a:Int)=ret (bal ((l.take b).drop a)):=by
 have hlen:((l.take b).drop a).length=b-a:=by simp;omega
 unfold bal;have h1:=Wp (l:=(l.take b).drop a) (V:=Unit) (R:=Unit×Kk) (lp:=λn j _=>Zq N l (b:Int) (some ((),(false,()))) (λkN ii aU=>some ((),(kN==(0:Int),()))) n (dep ((l.take b).drop a) j.toNat) ((a+j.toNat:Nat):Int)) (n:=N) (by omega)
  (body:=λj _ v k=>bif decide (dep ((l.take b).drop a) (j.toNat+1)<0)then some ((),(false,()))else k v) (K:=λj _=>some ((),(dep ((l.take b).drop a) j.toNat==(0:Int),())))
  (λn i v hi=>by
   have hb':=WbM ((l.take b).drop a) i;have hs:=Wam hi;have ei:((l.take b).drop a)[i]=l[a+i]:=by simp
   rw[ei]at hs;have bM:a+i<l.length:=by omega
   have e1:decide (((a+i:Nat):Int)<(b:Int))=true:=by simp;omega
   have e2:Wf .i64 ((a+i:Nat):Int) 1=((a+(i+1):Nat):Int):=by rw[W3 (by unfold I64;omega)];omega
   have e3:Wf .i64 (dep ((l.take b).drop a) i) 1=dep ((l.take b).drop a) i+1:=W3 (by unfold I64;omega);have e4:Wa8 .i64 (dep ((l.take b).drop a) i) 1=dep ((l.take b).drop a) i+ -1:=by rw[WaE (by unfold I64;omega)];omega
   simp only[Zq,e1,Wn bM,Wv bM,WL bM,e2,e3,e4,cond_true,Xu];unfold opd at hs;cases h8:l[a+i].1==8
   .cases h9:l[a+i].1==9
    .rw[h8,h9]at hs;simp only[cond_false,Xex]at hs;simp only[hs,cond_false]
    .rw[h8,h9]at hs;simp only[cond_false,cond_true]at hs;simp only[hs,cond_false,cond_true]
   .have h9:(l[a+i].1==9)=false:=by
     have:l[a+i].1=8:=by simpa using h8
     rw[this];rfl
    rw[h8]at hs;simp only[cond_true]at hs;simp only[hs,h9,cond_false,cond_true])
  (λn v=>by
   have e1:decide (((a+(((l.take b).drop a).length:Int).toNat:Nat):Int)<(b:Int))=false:=by rw[Xu,hlen];simp;omega
   simp only[Zq,e1,cond_false]) ()
 have e0:dep ((l.take b).drop a) (Xa 0)=0:=Wb3 _;simp only[e0]at h1;refine h1.trans ?_;rw[Wce (p:=λj _=>decide (dep ((l.take b).drop a) (j+1)<0)) (E:=λ_=>some ((),(false,()))) _ 0 () (λj x v k _=>rfl)];rw[Xbe,Xu,WqD];cases WjY (λj _=>decide (dep ((l.take b).drop a) (j+1)<0)) 0 ((l.take b).drop a)<;>rfl
def Wfs(l:List Opn)(i:Nat)(o:Opn):Bool:=decide (i+1+o.2.2.1.toNat<=l.length)&&bal ((l.take (i+1+o.2.2.1.toNat)).drop (i+1))
def frk(l:List Opn)(j:Nat):Nat:=(l.take j).countP λo=>o.1==11
theorem Wlp{l:List Opn}{j:Nat}(h:j<l.length):frk l (j+1)=frk l j+(l[j].1==11).toNat:=by
 unfold frk;rw[Xbx h,List.countP_append,List.countP_singleton];cases l[j].1==11<;>rfl
theorem Wph(l:List Opn)(j:Nat):frk l j<=l.length:=Xaz List.countP_le_length (by simp;omega)
def Wo7(l:List Opn)(i:Nat)(o:Opn):Bool:=
 !Wab o||((o.1==7)&& !Wfs l i o)||((o.1==11)&&(decide (dep l i>0)||decide (frk l (i+1)>1)))||decide (dep l (i+1)<0)
def WlR(l:List Opn)(i:Nat)(o:Opn):Bool:=
 !Wab o||((o.1==7)&& !Wfs l i o)||((o.1==11)&&(decide (frk l (i+1)>1)|| !decide (dep l i=0)))
def WnW(l:List Opn):Bool:=decide (l.length<=24)&&(bal l&& !WjY (WlR l) 0 l)
theorem Wli{l:List Opn}{i:Nat}{o:Opn}(hl:l.length<=24)(hi:i<l.length)(ho:Wab o=true)(h7:o.1=7):
  Wf .i64 ((i+1:Nat):Int) o.2.2.1=((i+1+o.2.2.1.toNat:Nat):Int)/\1<=o.2.2.1/\o.2.2.1<=20:=by
 obtain⟨k,a,b,c⟩:=o;simp only at h7;subst h7;have:(Wg a&&(decide (1<=b)&&decide (b<=20))&&(c==(0:Int)))=true:=ho;simp only[Xh,decide_eq_true_eq]at this;refine⟨?_,this.1.2.1,this.1.2.2⟩;rw[W3 (by unfold I64;simp only[];omega)];simp only[];omega
theorem Wi1{N:Nat}{l:List Opn}{i:Nat}(hl:l.length<=24)(hN:1048576<N)(hi:i<l.length)(ho:Wab l[i]=true)(h7:l[i].1=7):Zeh N l (i:Int)=ret (Wfs l i l[i]):=by
 obtain⟨e1,h1,h2⟩:=Wli hl hi ho h7;unfold Zeh Wfs;simp only[Wn hi,cond_true,Wv hi,WL hi,e1,Wh (show i<4611686018427387904 by omega)];by_cases h:i+1+l[i].2.2.1.toNat<=l.length
 .have e:decide (((i+1+l[i].2.2.1.toNat:Nat):Int)>Wc l)=false:=by simp[Wc];omega
  rw[e];simp only[cond_false];rw[WjU (by omega) h (by omega) hN];simp[h]
 .have e:decide (((i+1+l[i].2.2.1.toNat:Nat):Int)>Wc l)=true:=by simp[Wc];omega
  rw[e];simp[h]
theorem WkD{l:List Opn}:bal l=true↔(∀i,i<l.length->0<=dep l (i+1))/\dep l l.length=0:=by
 unfold bal;rw[Xh,Xai,←Xew,Wef,decide_eq_true_eq];constructor
 .rintro⟨h1,h2⟩;refine⟨λi hi=>?_,h2⟩;by_cases h:dep l (i+1)<0
  .exact absurd ⟨i,hi,by simpa using h⟩ h1
  .omega
 .rintro⟨h1,h2⟩;refine⟨?_,h2⟩;rintro⟨i,hi,h⟩;have:=h1 i hi;simp at h;omega
theorem WjK(l:List Opn):(!WjY (Wo7 l) 0 l&&decide (dep l l.length=0))=(bal l&& !WjY (WlR l) 0 l):=by
 rw[Bool.eq_iff_iff,Xh,Xh,Xai,Xai,←Xew,←Xew,Wef,Wef,WkD,decide_eq_true_eq];constructor
 .rintro⟨h1,h2⟩;have hd:∀i,i<l.length->0<=dep l (i+1):=λi hi=>by
   by_cases h:dep l (i+1)<0
   .refine absurd ⟨i,hi,?_⟩ h1;unfold Wo7;simp[h]
   .omega
  refine⟨⟨hd,h2⟩,?_⟩;rintro⟨i,hi,h⟩;refine h1 ⟨i,hi,?_⟩;have p8:0<=dep l i:=by
   cases i with
   |zero=>rw[Wb3];omega
   |succ i=>exact hd i (by omega)
  rw[Xbe]at h⊢;unfold WlR at h;unfold Wo7;simp only[Xcc,Xh,decide_eq_true_eq,Xai,decide_eq_false_iff_not]at h⊢;rcases h with(h|h)|⟨h,h'⟩
  .exact .inl (.inl (.inl h))
  .exact .inl (.inl (.inr h))
  .refine .inl (.inr ⟨h,?_⟩);rcases h' with h'|h'
   .exact .inr h'
   .exact .inl (by omega)
 .rintro⟨⟨hd,h2⟩,h1⟩;refine⟨?_,h2⟩;rintro⟨i,hi,h⟩;refine h1 ⟨i,hi,?_⟩;have p8:=hd i hi;rw[Xbe]at h⊢;unfold Wo7 at h;unfold WlR;simp only[Xcc,Xh,decide_eq_true_eq,Xai,decide_eq_false_iff_not]at h⊢;rcases h with((h|h)|⟨h,h'⟩)|h
  .exact .inl (.inl h)
  .exact .inl (.inr h)
  .refine .inr ⟨h,?_⟩;rcases h' with h'|h'
   .exact .inr (by omega)
   .exact .inl h'
  .omega
theorem Wiz{N:Nat}{l:List Opn}(hl:l.length<=1048576)(hN:1048576<N):Zei N l=ret (WnW l):=by
 unfold Zei WnW;by_cases h:l.length<=24
 .have e:decide (Wc l>24)=false:=by simp[Wc];omega
  rw[e];simp only[cond_false];have h1:=Wp (l:=l) (V:=Unit) (R:=Unit×Kk) (lp:=λn j _=>Zr N l (some ((),(false,()))) (λmK gZ pN kO=>some ((),(mK==(0:Int),()))) n (dep l j.toNat) ((frk l j.toNat:Nat):Int) j) (n:=N) (by omega)
   (body:=λj x v k=>bif Wo7 l j.toNat x then some ((),(false,()))else k v) (K:=λj _=>some ((),(dep l j.toNat==(0:Int),())))
   (λn i v hi=>by
    have hb:=WbM l i;have hs:=Wam hi;have hf:=Wlp hi;have du:=Wph l i;have e3:Wf .i64 (dep l i) 1=dep l i+1:=W3 (by unfold I64;omega);have e4:Wa8 .i64 (dep l i) 1=dep l i+ -1:=by rw[WaE (by unfold I64;omega)];omega
    have e5:Wf .i64 ((frk l i:Nat):Int) 1=((frk l i+1:Nat):Int):=by rw[W3 (by unfold I64;omega)];rfl
    simp only[Zr,WX hi,Wn hi,Wv hi,WL hi,Wh (show i<4611686018427387904 by omega),cond_true,Xu,WbG,ret,Xc,e3,e4,e5];unfold Wo7;cases ho:Wab l[i]with
    |false=>rfl
    |true=>
     unfold opd at hs;simp only[Xaj,cond_false,Xcg];by_cases h8:l[i].1=8
     .have b8:(l[i].1==8)=true:=by simp[h8]
      have b7:(l[i].1==7)=false:=by simp[h8]
      have bs:(l[i].1==11)=false:=by simp[h8]
      simp only[b8,b7,bs,cond_true,cond_false,Xda,Xap,Xcm,Xcg]at hs hf⊢;simp only[hs,hf]
     .have b8:(l[i].1==8)=false:=by simp[h8]
      by_cases h9:l[i].1=9
      .have b9:(l[i].1==9)=true:=by simp[h9]
       have b7:(l[i].1==7)=false:=by simp[h9]
       have bs:(l[i].1==11)=false:=by simp[h9]
       simp only[b8,b9,b7,bs,cond_true,cond_false,Xda,Xap,Xcm,Xcg]at hs hf⊢;simp only[hs,hf]
      .have b9:(l[i].1==9)=false:=by simp[h9]
       by_cases h7:l[i].1=7
       .have b7:(l[i].1==7)=true:=by simp[h7]
        have bs:(l[i].1==11)=false:=by simp[h7]
        have p9:=Wi1 h hN hi ho h7;simp only[b8,b9,b7,bs,cond_true,cond_false,Xda,Xap,Xcm,Xbr,Bool.or_false,Xex,p9,ret,Xc]at hs hf⊢;simp only[hs,hf];cases Wfs l i l[i]<;>rfl
       .have b7:(l[i].1==7)=false:=by simp[h7]
        by_cases eK:l[i].1=11
        .have bs:(l[i].1==11)=true:=by simp[eK]
         simp only[b8,b9,b7,bs,cond_true,cond_false,Xfz,Xcm,Xbr,Xcg,Xex]at hs hf⊢;simp only[hs,hf];have ef:decide (((frk l i+1:Nat):Int)>1)=decide (frk l i+1>1):=by apply decide_eq_decide.2;omega
         rw[ef];cases decide (dep l i>0)<;>cases decide (frk l i+1>1)<;>cases decide (dep l i<0)<;>rfl
        .have bs:(l[i].1==11)=false:=by simp[eK]
         simp only[b8,b9,b7,bs,cond_true,cond_false,Xda,Xap,Xcm,Xcg,Xex]at hs hf⊢;simp only[hs,hf])
   (λn v=>by simp only[Zr,Wac (Xj l.length),cond_false]) ()
  have e0:dep l (Xa 0)=0:=Wb3 l;have e1:((frk l (Xa 0):Nat):Int)=0:=by simp[frk]
  simp only[e0,e1]at h1;refine h1.trans ?_;rw[Wce (p:=Wo7 l) (E:=λ_=>some ((),(false,()))) l 0 () (λj x v k _=>by rw[Xu])];rw[Xbe,Xu,WqD,←WjK];simp only[h,decide_true,Xbr];cases WjY (Wo7 l) 0 l<;>rfl
 .have e:decide (Wc l>24)=true:=by simp[Wc];omega
  rw[e];simp[h]
theorem Wi2{N:Nat}{l:List Opn}(hl:l.length<=1048576)(hN:1048576<N):Zdh N l=ret (WnW l):=by
 unfold Zdh WnW;by_cases h:l.length<=24
 .have e:decide (Wc l>24)=false:=by simp[Wc];omega
  rw[e];simp only[cond_false,Wgh hl hN,ret,Xc,h,decide_true,Xbr];cases kR:bal l with
  |false=>rfl
  |true=>
   simp only[Xaj,cond_false,Xbr];have h1:=Wp (l:=l) (V:=Unit) (R:=Unit×Kk) (lp:=λn j _=>Z8 N l (some ((),(false,()))) (λhD pV t22=>some ((),(true,()))) n ((frk l j.toNat:Nat):Int) j) (n:=N) (by omega)
    (body:=λj x v k=>bif WlR l j.toNat x then some ((),(false,()))else k v) (K:=λj _=>some ((),(true,())))
    (λn i v hi=>by
     have hf:=Wlp hi;have du:=Wph l i;have e5:Wf .i64 ((frk l i:Nat):Int) 1=((frk l i+1:Nat):Int):=by rw[W3 (by unfold I64;omega)];rfl
     simp only[Z8,WX hi,Wn hi,Wv hi,WL hi,cond_true,Xu,WeP,ret,Xc,e5];unfold WlR;cases ho:Wab l[i]with
     |false=>rfl
     |true=>
      simp only[Xaj,cond_false,Xcg];by_cases h7:l[i].1=7
      .have b7:(l[i].1==7)=true:=by simp[h7]
       have bs:(l[i].1==11)=false:=by simp[h7]
       obtain⟨en,h1,h2⟩:=Wli h hi ho h7;simp only[b7,bs,cond_true,en,Wh (show i<4611686018427387904 by omega),Xda,Xap,Xcm,Xbr,Bool.or_false]at hf⊢;simp only[hf];unfold Wfs;by_cases hq:i+1+l[i].2.2.1.toNat<=l.length
       .have q1:decide (((i+1+l[i].2.2.1.toNat:Nat):Int)>Wc l)=false:=by simp[Wc];omega
        have q2:(((decide ((0:Int)<=((i+1+l[i].2.2.1.toNat:Nat):Int)))&&(decide (((i+1+l[i].2.2.1.toNat:Nat):Int)<=((Xb l):Int))))&&(decide ((0:Int)<=((i+1:Nat):Int)))&&(decide (((i+1:Nat):Int)<=((i+1+l[i].2.2.1.toNat:Nat):Int))))=true:=by simp;omega
        rw[q1,q2];simp only[cond_false,cond_true,Xu];rw[Wgh (by simp;omega) hN];simp only[ret,Xc,hq,decide_true,Xbr]
       .have q1:decide (((i+1+l[i].2.2.1.toNat:Nat):Int)>Wc l)=true:=by simp[Wc];omega
        rw[q1];simp[hq]
      .have b7:(l[i].1==7)=false:=by simp[h7]
       by_cases eK:l[i].1=11
       .have bs:(l[i].1==11)=true:=by simp[eK]
        simp only[b7,bs,cond_true,cond_false,Xfz,Xcm,Xbr,Xcg,WhI hl hN (Nat.le_of_lt hi),ret,Xc,Wh (show i<4611686018427387904 by omega)]at hf⊢;simp only[hf];have ef:decide (((frk l i+1:Nat):Int)>1)=decide (frk l i+1>1):=by apply decide_eq_decide.2;omega
        have e0:(dep l i !=0)= !decide (dep l i=0):=by rw[bne,WqD]
        rw[ef,e0];cases decide (frk l i+1>1)<;>cases decide (dep l i=0)<;>rfl
       .have bs:(l[i].1==11)=false:=by simp[eK]
        simp only[b7,bs,cond_true,cond_false,Xda,Xap,Xcm,Xcg,Wh (show i<4611686018427387904 by omega)]at hf⊢;simp only[hf])
    (λn v=>by simp only[Z8,Wac (Xj l.length),cond_false]) ()
   have e1:((frk l (Xa 0):Nat):Int)=0:=by simp[frk]
   simp only[e1]at h1;refine h1.trans ?_;rw[Wce (p:=WlR l) (E:=λ_=>some ((),(false,()))) l 0 () (λj x v k _=>by rw[Xu])];cases WjY (WlR l) 0 l<;>rfl
 .have e:decide (Wc l>24)=true:=by simp[Wc];omega
  rw[e];simp[h]
end
section
def stk(l:List Opn):Nat->List Nat
 |0=>[]
 |j+1=>bif (l.getD j (0,0,0,0)).1==8 then stk l j++ [j]else bif (l.getD j (0,0,0,0)).1==9 then(stk l j).dropLast else stk l j
theorem WiE{l:List Opn}{j:Nat}(h:j<l.length)(h8:l[j].1=8):stk l (j+1)=stk l j++ [j]:=by
 rw[stk,WL h];simp[h8]
theorem Wju{l:List Opn}{j:Nat}(h:j<l.length)(h9:l[j].1=9):stk l (j+1)=(stk l j).dropLast:=by
 rw[stk,WL h];simp[h9]
theorem Wi3{l:List Opn}{j:Nat}(h:j<l.length)(h8:l[j].1≠8)(h9:l[j].1≠9):stk l (j+1)=stk l j:=by
 rw[stk,WL h];have e8:(l[j].1==8)=false:=by simp[h8]
 have e9:(l[j].1==9)=false:=by simp[h9]
 rw[e8,e9];rfl
theorem WoH{o:Opn}(h:o.1=8):opd o=1:=by unfold opd;simp[h]
theorem WhK{o:Opn}(h:o.1=9):opd o= -1:=by unfold opd;simp[h]
theorem Wov{o:Opn}(h8:o.1≠8)(h9:o.1≠9):opd o=0:=by
 unfold opd;have e8:(o.1==8)=false:=by simp[h8]
 have e9:(o.1==9)=false:=by simp[h9]
 rw[e8,e9];rfl
theorem WbO{α:Type}(l:List α):l= []\/∃q x,l=q++ [x]:=by
 rcases List.eq_nil_or_concat l with h|⟨q,x,h⟩
 .exact .inl h
 .exact .inr ⟨q,x,by rw[h,List.concat_eq_append]⟩
def Up(l:List Opn):Prop:=∀i,i<l.length->0<=dep l (i+1)
theorem Up.at{l:List Opn}(h:Up l){j:Nat}(hj:j<=l.length):0<=dep l j:=by
 cases j with
 |zero=>rw[Wb3];omega
 |succ j=>exact h j hj
theorem Wbe{l:List Opn}(h:Up l):∀j,j<=l.length->((stk l j).length:Int)=dep l j
 |0,_=>by rw[Wb3];rfl
 |j+1,hj=>by
  have hj':j<l.length:=hj;have ih:=Wbe h j (by omega);have hd:=Wam hj';have hu:=h j hj';by_cases h8:l[j].1=8
  .rw[WiE hj' h8,hd,WoH h8,Xw];simp;omega
  .by_cases h9:l[j].1=9
   .rw[Wju hj' h9,hd,WhK h9,Xct];rw[hd,WhK h9]at hu;omega
   .rw[Wi3 hj' h8 h9,hd,Wov h8 h9];omega
theorem Whv{l:List Opn}:∀(j:Nat),j<=l.length->∀(s t:List Nat) (m:Nat),stk l j=s++m::t->
  m<j/\(∃h:m<l.length,l[m].1=8)/\stk l m=s/\∀i,m<i->i<=j->∃t',stk l i=s++m::t'
 |0,_,s,t,m,h=>by simp[stk]at h
 |j+1,hj,s,t,m,h=>by
  have hj':j<l.length:=hj;have ih:=Whv (l:=l) j (by omega);have next:∀t0,stk l j=s++m::t0->m<j+1/\(∃h:m<l.length,l[m].1=8)/\stk l m=s/\∀i,m<i->i<=j+1->∃t',stk l i=s++m::t':=λt0 h0=>by
   obtain⟨a,b,c,d⟩:=ih s t0 m h0;refine⟨by omega,b,c,λi iV iW=>?_⟩;by_cases he:i=j+1
   .subst he;exact⟨t,h⟩
   .exact d i iV (by omega)
  by_cases h8:l[j].1=8
  .rw[WiE hj' h8]at h;rcases WbO t with rfl|⟨t0,x,rfl⟩
   .obtain⟨e1,e2⟩:=Xey (h:stk l j++ [j]=s++ [m]) rfl;injection e2 with e2;subst e2;refine⟨by omega,⟨hj',h8⟩,e1,λi iV iW=>?_⟩;have:i=j+1:=by omega
    subst this;exact⟨[],by rw[WiE hj' h8];exact h⟩
   .have h2:stk l j++ [j]=(s++m::t0)++ [x]:=by rw[h,List.append_assoc,List.cons_append]
    obtain⟨e1,e2⟩:=Xey h2 rfl;have h':stk l (j+1)=s++m::(t0++ [x]):=by rw[WiE hj' h8,h]
    obtain⟨a,b,c,d⟩:=ih s t0 m e1;refine⟨by omega,b,c,λi iV iW=>?_⟩;by_cases he:i=j+1
    .subst he;exact⟨_,h'⟩
    .exact d i iV (by omega)
  .by_cases h9:l[j].1=9
   .rw[Wju hj' h9]at h;rcases WbO (stk l j)with h0|⟨q,x,hq⟩
    .rw[h0]at h;simp at h
    .have cH:(stk l j).dropLast=q:=by rw[hq];simp
     rw[cH]at h;have h2:stk l j=s++m::(t++ [x]):=by rw[hq,h];simp
     obtain⟨a,b,c,d⟩:=ih s _ m h2;refine⟨by omega,b,c,λi iV iW=>?_⟩;by_cases he:i=j+1
     .subst he;exact⟨t,by rw[Wju hj' h9,cH];exact h⟩
     .exact d i iV (by omega)
   .exact next t (by rw[←Wi3 hj' h8 h9];exact h)
theorem WoE{l:List Opn}{a b:Nat}(eZ:a<=b)(hb:b<=l.length)(kR:bal ((l.take b).drop a)=true):stk l b=stk l a:=by
 obtain⟨h1,h2⟩:=WkD.1 kR;have hlen:((l.take b).drop a).length=b-a:=by simp;omega
 have key:∀i,i<=b-a->∃t,stk l (a+i)=stk l a++t/\(t.length:Int)=dep ((l.take b).drop a) i:=by
  intro i
  induction i with
  |zero=>intro _;exact⟨[],by simp,by rw[Wb3];rfl⟩
  |succ i ih=>
   intro hi;obtain⟨t,jG,nC⟩:=ih (by omega);have bM:a+i<l.length:=by omega
   have iW:i<((l.take b).drop a).length:=by omega
   have hd:=Wam iW;have ei:((l.take b).drop a)[i]=l[a+i]:=by simp
   rw[ei]at hd;have hu:=h1 i iW;by_cases h8:l[a+i].1=8
   .refine⟨t++ [a+i],by rw[←Xak,WiE bM h8,jG];simp,?_⟩;rw[hd,WoH h8,Xw];simp;omega
   .by_cases h9:l[a+i].1=9
    .rw[hd,WhK h9]at hu;have hne:t≠ []:=λh=>by subst h;simp at nC;omega
     refine⟨t.dropLast,?_,?_⟩
     .rw[←Xak,Wju bM h9,jG,List.dropLast_append_of_ne_nil hne]
     .rw[hd,WhK h9,Xct];omega
    .refine⟨t,by rw[←Xak,Wi3 bM h8 h9,jG],?_⟩;rw[hd,Wov h8 h9];omega
 obtain⟨t,jG,nC⟩:=key (b-a) (Xj _);rw[←hlen,h2]at nC;have:t= []:=Xx (by omega);subst this;rw[show a+(b-a)=b by omega]at jG;simpa using jG
structure Mate(l:List Opn)(m k:Nat):Prop where
 lt:m<k
 len:k<l.length
 eq:dep l (k+1)=dep l m
 ne:∀i,m<=i->i<k->dep l (i+1)≠dep l m
 st:stk l (k+1)=stk l m
theorem WpQ{l:List Opn}(hu:Up l)(h0:dep l l.length=0){j m:Nat}{s:List Nat}(hj:j<=l.length)(hs:stk l j=s++ [m]):∃k,j<=k/\Mate l m k/\stk l m=s:=by
 obtain⟨a,⟨hm,h8⟩,c,d⟩:=Whv j hj s [] m hs;have fI:=Wbe hu m (by omega);have low:∀i,m<=i->i<j->dep l (i+1)≠dep l m:=λi h1 h2=>by
  obtain⟨t',qa⟩:=d (i+1) (by omega) (by omega);have:=Wbe hu (i+1) (by omega);rw[qa]at this;rw[c]at fI;simp at this;omega
 have cI:=hu.at (show m<=l.length by omega);have ex:∀n i,l.length-i=n->j<=i->i<=l.length->(∀i',m<=i'->i'<i->dep l (i'+1)≠dep l m)->dep l m<dep l i->∃k,j<=k/\k<l.length/\dep l (k+1)=dep l m/\∀i',m<=i'->i'<k->dep l (i'+1)≠dep l m:=by
  intro n
  induction n with
  |zero=>intro i h1 h2 h3 h4 h5;exfalso;rw[show i=l.length by omega,h0]at h5;omega
  |succ n ih=>
   intro i h1 h2 h3 h4 h5;have bM:i<l.length:=by omega
   by_cases he:dep l (i+1)=dep l m
   .exact⟨i,h2,bM,he,h4⟩
   .have hd:=Wam bM;have ho:=Wf1 l[i];refine ih (i+1) (by omega) (by omega) bM (λi' q1 q2=>?_) (by omega);by_cases mC:i'=i
    .subst mC;exact he
    .exact h4 i' q1 (by omega)
 have gQ:dep l m<dep l j:=by
  have:=Wbe hu j hj;rw[hs]at this;rw[c]at fI;simp at this;omega
 obtain⟨k,k1,k2,k3,k4⟩:=ex _ j rfl (Xj _) hj low gQ;have lN:m<k:=by omega
 have pre:∀n i,i=m+1+n->i<=k->∃t,stk l i=s++m::t:=by
  intro n
  induction n with
  |zero=>intro i h1 h2;exact⟨[],by rw[h1,Xap,WiE hm h8,c]⟩
  |succ n ih=>
   intro i h1 h2;obtain⟨t,ht⟩:=ih (m+1+n) rfl (by omega);have e:i=(m+1+n)+1:=by omega
   have bM:m+1+n<l.length:=by omega
   by_cases g8:l[m+1+n].1=8
   .exact⟨t++ [m+1+n],by rw[e,WiE bM g8,ht];simp⟩
   .by_cases g9:l[m+1+n].1=9
    .rcases WbO t with rfl|⟨t0,x,rfl⟩
     .exfalso;have q:=Wju bM g9;rw[ht]at q;have q2:stk l (m+1+n+1)=s:=by rw[q];simp
      have q3:=Wbe hu (m+1+n+1) (by omega);rw[q2]at q3;rw[c]at fI;exact k4 (m+1+n) (by omega) (by omega) (by omega)
     .exact⟨t0,by rw[e,Wju bM g9,ht,show s++m::(t0++ [x])=(s++m::t0)++ [x] by simp,Xfp]⟩
    .exact⟨t,by rw[e,Wi3 bM g8 g9,ht]⟩
 obtain⟨t,ht⟩:=pre (k-m-1) k (by omega) (Xj _);have oA:=Wbe hu k (by omega);have qb:=Wam k2;rw[ht]at oA;rw[c]at fI;simp at oA;have bn:=Wf1 l[k];have g9:l[k].1=9:=by
  by_cases g9:l[k].1=9
  .exact g9
  .by_cases g8:l[k].1=8
   .have:=WoH g8;omega
   .have:=Wov g8 g9;omega
 have qc:t= []:=Xx (by have:=WhK g9;omega);subst qc;refine⟨k,k1,⟨lN,k2,k3,k4,?_⟩,c⟩;rw[Wju k2 g9,ht,c];simp
theorem Wea{l:List Opn}{m i:Nat}:((dep l (i+1) -dep l m)==(0:Int))=decide (dep l (i+1)=dep l m):=by
 by_cases h:dep l (i+1)=dep l m
 .simp[h]
 .have:dep l (i+1) -dep l m≠0:=by omega
  simp[h,this]
theorem Wj6{N:Nat}{l:List Opn}{m k:Nat}(hl:l.length<=1048576)(hN:1048576<N)(h8:∃h:m<l.length,l[m].1=8)(hm:Mate l m k):Zfq N l (m:Int)=ret (k:Int):=by
 obtain⟨gw,h8⟩:=h8;unfold Zfq;have e1:Wa8 .i64 (Wc l) 1=(l.length:Int) -1:=WaE (by unfold I64 Wc;omega);have e2:(decide (0<=(m:Int))&&decide ((m:Int)<=(l.length:Int) -1))=true:=by simp;omega
 have e3:(l[m].1 !=8)=false:=by simp[h8]
 simp only[Wz,ret,Xc,e1,e2,Xaj,cond_false,Wn gw,cond_true,Wv gw,e3];have key:∀(c n i:Nat),k-i=c->m<=i->i<=k->l.length-i<n->∀{R:Type} (K0:Int->Option R) (K1:Int->Int->Bool->Option R),Zcb N l K0 K1 n (dep l i-dep l m) (i:Int)=K0 k:=by
  intro c
  induction c with
  |zero=>
   intro n i h1 h2 h3 h4 R K0 K1;have:i=k:=by omega
   subst this;cases n with
   |zero=>omega
   |succ n=>
    have bM:=hm.len;have hd:=Wam bM;have hb:=WbM l i;have gy:=WbM l m;have ho:=Wf1 l[i];have e:Wf .i64 (dep l i-dep l m) (opd l[i])=dep l (i+1) -dep l m:=by rw[W3 (by unfold I64;omega),hd];omega
    simp only[Zcb,WX bM,Wn bM,Wv bM,cond_true,Wek,ret,Xc,e];rw[Wea];simp[hm.eq]
  |succ c ih=>
   intro n i h1 h2 h3 h4 R K0 K1;cases n with
   |zero=>omega
   |succ n=>
    have hk:=hm.len;have bM:i<l.length:=by omega
    have hd:=Wam bM;have hb:=WbM l i;have gy:=WbM l m;have ho:=Wf1 l[i];have e:Wf .i64 (dep l i-dep l m) (opd l[i])=dep l (i+1) -dep l m:=by rw[W3 (by unfold I64;omega),hd];omega
    have hne:=hm.ne i h2 (by omega);simp only[Zcb,WX bM,Wn bM,Wv bM,cond_true,Wek,ret,Xc,e,Wea,hne,decide_false,cond_false,Wh (show i<4611686018427387904 by omega)];exact ih n (i+1) (by omega) (by omega) (by omega) (by omega) K0 K1
 have:=key (k-m) N m rfl (Xj _) (by have:=hm.lt;omega) (by omega) (R:=Unit×Kg) (λcX=>some ((),(cX,()))) (λjC ot gE=>some ((),((-1:Int),())));rw[Int.sub_self]at this;exact this
theorem WjX{N:Nat}{l:List Opn}{m k:Nat}(hl:l.length<=1048576)(hN:1048576<N)(h8:∃h:m<l.length,l[m].1=8)(hm:Mate l m k):Zfl N l (m:Int)=ret (k:Int):=by
 obtain⟨gw,h8⟩:=h8;unfold Zfl;have e1:decide ((m:Int)<0)=false:=by simp
 have e2:decide ((m:Int)>=Wc l)=false:=by simp[Wc];omega
 have e3:(l[m].1 !=8)=false:=by simp[h8]
 simp only[e1,e2,cond_false,Wn gw,cond_true,Wv gw,e3];have step:∀(n i:Nat) (bM:i<l.length) {R:Type} (K0:Int->Option R) (K1:Int->Int->Bool->Option R),m<=i->Zw N l K0 K1 (n+1) (dep l i-dep l m) (i:Int)=
   bif decide (dep l (i+1)=dep l m)then K0 i else Zw N l K0 K1 n (dep l (i+1) -dep l m) ((i+1:Nat):Int):=by
  intro n i bM R K0 K1 lu;have hd:=Wam bM;have hb:=WbM l i;have gy:=WbM l m;have s1:Wf .i64 (dep l i-dep l m) 1=dep l i-dep l m+1:=W3 (by unfold I64;omega);have s2:Wa8 .i64 (dep l i-dep l m) 1=dep l i-dep l m-1:=WaE (by unfold I64;omega);simp only[Zw,WX bM,Wn bM,Wv bM,cond_true,Wh (show i<4611686018427387904 by omega),s1,s2];by_cases g8:l[i].1=8
  .have b8:(l[i].1==8)=true:=by simp[g8]
   have b9:(l[i].1==9)=false:=by simp[g8]
   have e:dep l i-dep l m+1=dep l (i+1) -dep l m:=by rw[hd,WoH g8];omega
   simp only[b8,b9,cond_true,cond_false,e,Wea]
  .have b8:(l[i].1==8)=false:=by simp[g8]
   by_cases g9:l[i].1=9
   .have b9:(l[i].1==9)=true:=by simp[g9]
    have e:dep l i-dep l m-1=dep l (i+1) -dep l m:=by rw[hd,WhK g9];omega
    simp only[b8,b9,cond_true,cond_false,e,Wea]
   .have b9:(l[i].1==9)=false:=by simp[g9]
    have e:dep l i-dep l m=dep l (i+1) -dep l m:=by rw[hd,Wov g8 g9];omega
    simp only[b8,b9,cond_true,cond_false];rw[e,Wea]
 have key:∀(c n i:Nat),k-i=c->m<=i->i<=k->l.length-i<n->∀{R:Type} (K0:Int->Option R) (K1:Int->Int->Bool->Option R),Zw N l K0 K1 n (dep l i-dep l m) (i:Int)=K0 k:=by
  intro c
  induction c with
  |zero=>
   intro n i h1 h2 h3 h4 R K0 K1;have:i=k:=by omega
   subst this;cases n with
   |zero=>omega
   |succ n=>rw[step n i hm.len K0 K1 h2];simp[hm.eq]
  |succ c ih=>
   intro n i h1 h2 h3 h4 R K0 K1;cases n with
   |zero=>omega
   |succ n=>
    have hk:=hm.len;have hne:=hm.ne i h2 (by omega);rw[step n i (by omega) K0 K1 h2];simp only[hne,decide_false,cond_false];exact ih n (i+1) (by omega) (by omega) (by omega) (by omega) K0 K1
 have:=key (k-m) N m rfl (Xj _) (by have:=hm.lt;omega) (by omega) (R:=Unit×Kg) (λcX=>some ((),(cX,()))) (λjC ot gE=>some ((),((-1:Int),())));rw[Int.sub_self]at this;exact this
end
section
abbrev Wd:=Int×Int×Int
abbrev Mm:=Int×List Wd
theorem Wec{α:Type}(a:Option α):Win a a=a:=by unfold Win;simp
def Wiy(clock:Int)(w:Wd):Bool:=Waz w.1&&((decide (0<=w.2.1)&&decide (w.2.1<=clock))&&(decide (0<=w.2.2)&&decide (w.2.2<=99)))
def WaB(m:Mm):Bool:=decide (m.2.length=8)&&((decide (0<=m.1)&&decide (m.1<=1000000))&&m.2.all (Wiy m.1))
theorem Web{N:Nat}{m:Mm}(hl:m.2.length<=1048576)(hN:1048576<N):Zd0 N m=ret (WaB m):=by
 unfold Zd0 WaB;have h1:=Wp (l:=m.2) (V:=Unit) (R:=Unit×Kk) (lp:=λn j v=>Zca N m.2 m (some ((),(false,()))) (λkO lz=>
  (bif (Wc m.2)==(8:Int)then
  ((Zi N m.1 (0:Int) (1000000:Int)).bind λgF=>
  (some ((),(gF.2.1,()))))
  else
  (some ((),(false,()))))) n j) (n:=N) (by omega)
  (body:=λj x v k=>bif !Wiy m.1 x then some ((),(false,()))else k v) (K:=λ_ v=>(bif (Wc m.2)==(8:Int)then
  ((Zi N m.1 (0:Int) (1000000:Int)).bind λgF=>
  (some ((),(gF.2.1,()))))
  else
  (some ((),(false,())))))
  (λn i v hi=>by
   simp only[Zca,WX hi,Wn hi,Wv hi,Wh (show i<4611686018427387904 by omega),cond_true,Wq,Wz,ret,Xc,Wiy];cases Waz m.2[i].1<;>cases(decide (0<=m.2[i].2.1)&&decide (m.2[i].2.1<=m.1))<;>cases(decide (0<=m.2[i].2.2)&&decide (m.2[i].2.2<=99))<;>rfl)
  (λn v=>by simp only[Zca,Wac (Xj m.2.length),cond_false]) ()
 refine h1.trans ?_;rw[War (p:=λx=>!Wiy m.1 x) (E:=λ_=>some ((),(false,()))) m.2 0 () (λj x v k _=>rfl),WcX];have e:((Wc m.2)==(8:Int))=decide (m.2.length=8):=by
  by_cases h:m.2.length=8
  .simp[Wc,h]
  .simp[Wc,h];omega
 simp only[e,Wz,ret,Xc];cases m.2.all (Wiy m.1)<;>cases decide (m.2.length=8)<;>simp
theorem Wd2{N:Nat}{m:Mm}(hl:m.2.length<=1048576)(hN:1048576<N):Zdx N m=ret (WaB m):=by
 unfold Zdx WaB;have e:((Wc m.2) !=(8:Int))= !decide (m.2.length=8):=by
  by_cases h:m.2.length=8
  .simp[Wc,h]
  .simp[Wc,h];omega
 have h1:=Wp (l:=m.2) (V:=Unit) (R:=Unit×Kk) (lp:=λn j v=>Za2 N m (some ((),(false,()))) (λir fD=>(some ((),(true,())))) n j) (n:=N) (by omega)
  (body:=λj x v k=>bif !Wiy m.1 x then some ((),(false,()))else k v) (K:=λ_ v=>some ((),(true,())))
  (λn i v hi=>by
   simp only[Za2,WX hi,Wn hi,Wv hi,Wh (show i<4611686018427387904 by omega),cond_true,Wr,WbD,ret,Xc,Wiy];cases Waz m.2[i].1<;>cases(decide (0<=m.2[i].2.1)&&decide (m.2[i].2.1<=m.1))<;>cases(decide (0<=m.2[i].2.2)&&decide (m.2[i].2.2<=99))<;>rfl)
  (λn v=>by simp only[Za2,Wac (Xj m.2.length),cond_false]) ()
 have h2:Za2 N m (some ((),(false,()))) (λir fD=>(some ((),(true,())))) N 0=ret (m.2.all (Wiy m.1)):=by
  refine h1.trans ?_;rw[War (p:=λx=>!Wiy m.1 x) (E:=λ_=>some ((),(false,()))) m.2 0 () (λj x v k _=>rfl),WcX];cases m.2.all (Wiy m.1)<;>rfl
 rw[e,h2];simp only[WbD,ret,Xc];cases decide (m.2.length=8)<;>cases(decide (0<=m.1)&&decide (m.1<=1000000))<;>simp
def wd0(v:Int):Wd:=(v,(0,0))
def Wjl(l:List Int):Mm:=(0,l.map wd0)
theorem Wdf{α β R:Type}{body:Int->α->List β->(List β->Option R)->Option R}{K:Int->List β->Option R}{f:α->β}:∀(l:List α) (j:Nat) (o:List β),o.length+l.length<=1000000->
  (∀(j:Nat) x (v:List β) k,x∈l->body j x v k=bif WT (v.length+ [f x].length)then k (Xp v [f x])else none)->WbC body K l j o=K ((j+l.length:Nat):Int) (o++l.map f)
 | [],j,o,_,_=>by simp[WbC]
 |x::l,j,o,h,hb=>by
  rw[Xq]at h;rw[WbC,hb j x o _ (Xg ..),Ws (by simp;omega)];simp only[cond_true];rw[Wdf l (j+1) _ (by simp[List.append_eq];omega) λj y v k hy=>hb j y v k (Xe _ hy)];rw[Xq,show j+1+l.length=j+(l.length+1) by omega];simp
theorem Wgx{N:Nat}{l:List Int}(h:WbI l=true)(hN:1048576<N):Zem N l=some ((),(Wjl l,(true,()))):=by
 have hl:l.length=8:=by unfold WbI at h;simp at h;exact h.1
 unfold Zem;simp only[Wfp (show l.length<=1048576 by omega) hN,ret,Xc,h,Xaj,cond_false];have h1:=Wp (l:=l) (V:=List Wd) (R:=Unit×(Mm×Kk)) (lp:=λn j v=>Zbo N l (λaU cX kQ=>(some ((),(((0:Int),kQ),(true,()))))) n j v) (n:=N) (by omega)
  (body:=λj x v k=>bif WT (v.length+ [wd0 x].length)then k (Xp v [wd0 x])else none) (K:=λ_ v=>some ((),(((0:Int),v),(true,()))))
  (λn i v hi=>by simp only[Zbo,WX hi,Wn hi,Wv hi,Wh (show i<4611686018427387904 by omega),cond_true,wd0])
  (λn v=>by simp only[Zbo,Wac (Xj l.length),cond_false]) []
 refine h1.trans ?_;rw[Wdf (f:=wd0) l 0 [] (by simp;omega) (λj x v k _=>rfl)];rfl
theorem WgG{N:Nat}{l:List Int}(h:WbI l=true)(hN:1048576<N):Zej N l=some ((),(Wjl l,(true,()))):=by
 have hl:l.length=8:=by unfold WbI at h;simp at h;exact h.1
 unfold Zej;simp only[Wfu (show l.length<=1048576 by omega) hN,ret,Xc,h,Xaj,cond_false];have h1:=Wp (l:=l) (V:=List Wd) (R:=Unit×(Mm×Kk)) (lp:=λn j v=>Zbk N l (λaU cX kQ=>(some ((),(((0:Int),kQ),(true,()))))) n j v) (n:=N) (by omega)
  (body:=λj x v k=>bif WT (v.length+ [wd0 x].length)then k (Xp v [wd0 x])else none) (K:=λ_ v=>some ((),(((0:Int),v),(true,()))))
  (λn i v hi=>by simp only[Zbk,WX hi,Wn hi,Wv hi,Wh (show i<4611686018427387904 by omega),cond_true,wd0])
  (λn v=>by simp only[Zbk,Wac (Xj l.length),cond_false]) []
 refine h1.trans ?_;rw[Wdf (f:=wd0) l 0 [] (by simp;omega) (λj x v k _=>rfl)];rfl
theorem WV{m:Mm}(h:WaB m=true):m.2.length=8/\0<=m.1/\m.1<=1000000/\∀w∈m.2,Wiy m.1 w=true:=by
 unfold WaB at h;simp only[Xh,decide_eq_true_eq,Xaf]at h;exact⟨h.1,h.2.1.1,h.2.1.2,h.2.2⟩
def Wd7(m:Mm):Mm×Int:=if m.1<1000000 then((m.1+1,m.2),m.1+1)else(m,0)
theorem WiU{N:Nat}{m:Mm}(h:WaB m=true)(hN:1048576<N):Zkh N m=some ((),((Wd7 m).1,((Wd7 m).2,()))):=by
 obtain⟨h8,h0,h1,_⟩:=WV h;have e:Zhk N m=ret m:=by unfold Zhk;rw[Ws (by omega)];rfl
 unfold Zkh Wd7;simp only[e,Web (show m.2.length<=1048576 by omega) hN,ret,Xc,h,Xaj,cond_false];by_cases hc:m.1<1000000
 .have e2:(m.1==1000000)=false:=by simp;omega
  have e3:Wf .i64 m.1 1=m.1+1:=W3 (by unfold I64;omega);rw[e2,if_pos hc,e3];rfl
 .have e2:(m.1==1000000)=true:=by simp;omega
  rw[e2,if_neg hc];rfl
theorem WjH{N:Nat}{m:Mm}(h:WaB m=true)(hN:1048576<N):Zke N m=some ((),((Wd7 m).1,((Wd7 m).2,()))):=by
 obtain⟨h8,h0,h1,_⟩:=WV h;have e:Zic N m=ret m:=by unfold Zic;rw[Ws (by simp;omega)];rfl
 unfold Zke Wd7;simp only[e,Wd2 (show m.2.length<=1048576 by omega) hN,ret,Xc,h,Xaj,cond_false];by_cases hc:m.1<1000000
 .have e2:decide (m.1>=1000000)=false:=by simp;omega
  have e3:Wf .i64 m.1 1=m.1+1:=W3 (by unfold I64;omega);rw[e2,if_pos hc,e3];rfl
 .have e2:decide (m.1>=1000000)=true:=by simp;omega
  rw[e2,if_neg hc];rfl
abbrev Pb:=Int×Int×Int×Int
def Wiq(p:Pb):Bool:=W6 p.1&&((decide (0<=p.2.1)&&decide (p.2.1<=4))&&((decide (0<=p.2.2.1)&&decide (p.2.2.1<=1000000))&&Waz p.2.2.2))
theorem WiA{N:Nat}{p:Pb}:Zhj N p=ret (Wiq p):=by
 unfold Zhj Wiq;simp only[Wo,Wz,Wq,ret,Xc];cases W6 p.1<;>cases(decide (0<=p.2.1)&&decide (p.2.1<=4))<;>cases(decide (0<=p.2.2.1)&&decide (p.2.2.1<=1000000))<;>simp
theorem Wjr{N:Nat}{p:Pb}:Zhi N p=ret (Wiq p):=by
 unfold Zhi Wiq;simp only[Wt,WbD,Wr,ret,Xc];cases W6 p.1<;>cases(decide (0<=p.2.1)&&decide (p.2.1<=4))<;>cases(decide (0<=p.2.2.1)&&decide (p.2.2.1<=1000000))<;>simp
def WaD(m:Mm)(rv:Int)(p:Pb):Pb:=
 let w:=Xd m.2 (Xa p.1) (0,(0,0))
 bif p.2.1==0 then(bif w.2.2==0 then(bif decide (w.2.1<=rv)then(p.1,(1,(w.2.1,p.2.2.2)))else(p.1,(4,p.2.2)))else(p.1,(4,p.2.2)))
 else bif p.2.1==1 then(p.1,(2,(p.2.2.1,w.1)))
 else bif p.2.1==2 then(bif w.2.2==0 then(bif w.2.1==p.2.2.1 then(p.1,(3,p.2.2))else(p.1,(4,p.2.2)))else(p.1,(4,p.2.2)))
 else p
theorem Wo9{m:Mm}{p:Pb}(h:WaB m=true)(hp:Wiq p=true):inb p.1 m.2.length=true:=by
 have h1:=(WV h).1;unfold Wiq W6 at hp;simp at hp;unfold inb;rw[h1];simp;omega
theorem WgQ{N:Nat}{m:Mm}{rv:Int}{p:Pb}(h:WaB m=true)(hp:Wiq p=true)(hN:1048576<N):Zd1 N m rv p=ret (WaD m rv p):=by
 have h1:=(WV h).1;unfold Zd1 WaD;simp only[Web (show m.2.length<=1048576 by omega) hN,WiA,ret,Xc,h,hp,Xaj,cond_false,Wo9 h hp,cond_true];generalize Xd m.2 (Xa p.1) (0,(0,0))=w;cases p.2.1==0<;>cases p.2.1==1<;>cases p.2.1==2<;>cases w.2.2==0<;>cases decide (w.2.1<=rv)<;>cases w.2.1==p.2.2.1<;>rfl
theorem WgU{N:Nat}{m:Mm}{rv:Int}{p:Pb}(h:WaB m=true)(hp:Wiq p=true)(hN:1048576<N):Zdy N m rv p=ret (WaD m rv p):=by
 have h1:=(WV h).1;unfold Zdy WaD;simp only[Wd2 (show m.2.length<=1048576 by omega) hN,Wjr,ret,Xc,h,hp,Xaj,cond_false,Wo9 h hp,cond_true];generalize Xd m.2 (Xa p.1) (0,(0,0))=w;have e1:decide (w.2.1>rv)= !decide (w.2.1<=rv):=by
  by_cases hc:w.2.1<=rv
  .simp[hc]
  .simp[hc];omega
 rw[e1];unfold bne;cases p.2.1==0<;>cases p.2.1==1<;>cases p.2.1==2<;>cases w.2.2==0<;>cases decide (w.2.1<=rv)<;>cases w.2.1==p.2.2.1<;>rfl
def WeB(l:List Rw)(c:Int):Nat->Option Int
 |0=>none
 |i+1=>if(Xd l i (0,0)).1=c then some (Xd l i (0,0)).2 else WeB l c i
def Wbq(l:List Rw)(c:Int):Option Int:=if Wa9 l=true then WeB l c l.length else none
def opI(o:Option Int):Option (Unit×Ki):=match o with
 |none=>some ((),((0:Int),(false,())))
 |some v=>some ((),(v,(true,())))
theorem Wf8{N:Nat}{l:List Rw}{c:Int}(hl:l.length<=1048576):∀(i n:Nat),i<n->i<=l.length->Zc5 N l c (λaM=>(some ((),(aM,(true,()))))) (λbX aU=>(some ((),((0:Int),(false,()))))) n ((i:Int) -1)=opI (WeB l c i)
 |i,0,h,_=>by omega
 |0,n+1,h,_=>rfl
 |i+1,n+1,h,hi=>by
  have e:((i+1:Nat):Int) -1=(i:Int):=by omega
  have e1:decide ((i:Int)>=0)=true:=by simp
  have e2:Wa8 .i64 (i:Int) 1=(i:Int) -1:=WaE (by unfold I64;omega);rw[e,Zc5,e1,Wn (show i<l.length by omega),e2,WeB,Xu];simp only[cond_true];by_cases hc:(Xd l i ((0:Int),(0:Int))).1=c
  .rw[if_pos hc,beq_iff_eq.2 hc];rfl
  .rw[if_neg hc,beq_eq_false_iff_ne.2 hc];exact Wf8 hl i n (by omega) (by omega)
theorem Wgq{N:Nat}{l:List Rw}{c:Int}(hl:l.length<=1048576):∀(i n:Nat),i<n->i<=l.length->Zc3 N l c (λaM=>(some ((),(aM,(true,()))))) (λbX aU=>(some ((),((0:Int),(false,()))))) n ((i:Int) -1)=opI (WeB l c i)
 |i,0,h,_=>by omega
 |0,n+1,h,_=>rfl
 |i+1,n+1,h,hi=>by
  have e:((i+1:Nat):Int) -1=(i:Int):=by omega
  have e1:decide ((i:Int)>=0)=true:=by simp
  have e2:Wa8 .i64 (i:Int) 1=(i:Int) -1:=WaE (by unfold I64;omega);rw[e,Zc3,e1,Wn (show i<l.length by omega),e2,WeB,Xu];simp only[cond_true];by_cases hc:(Xd l i ((0:Int),(0:Int))).1=c
  .rw[if_pos hc,beq_iff_eq.2 hc];rfl
  .rw[if_neg hc,beq_eq_false_iff_ne.2 hc];exact Wgq hl i n (by omega) (by omega)
theorem Whe{α:Type}{l:List α}(hl:l.length<=1048576):Wa8 .i64 (Wc l) 1=((l.length:Nat):Int) -1:=by unfold Wc;exact WaE (by unfold I64;omega)
theorem Wfw{N:Nat}{l:List Rw}{c:Int}(hl:l.length<=1048576)(hN:1048576<N):Ze2 N l c=opI (Wbq l c):=by
 unfold Ze2 Wbq;simp only[Wc8 hl hN,ret,Xc];cases Wa9 l
 .rfl
 .simp only[Xaj,cond_false,if_true,Whe hl];exact Wf8 hl l.length N (by omega) (Xj _)
theorem Wfk{N:Nat}{l:List Rw}{c:Int}(hl:l.length<=1048576)(hN:1048576<N):Ze1 N l c=opI (Wbq l c):=by
 unfold Ze1 Wbq;simp only[Wfq hl hN,ret,Xc];cases Wa9 l
 .rfl
 .simp only[Xaj,cond_false,if_true,Whe hl];exact Wgq hl l.length N (by omega) (Xj _)
end
section
def Wgc(l:List Rw)(o:List Rw)(c:Nat):List Rw:=match Wbq l c with
 |none=>o
 |some v=>o++ [((c:Int),v)]
def Wgd(l:List Rw):Nat->Nat->List Rw->List Rw
 |0,_,o=>o
 |j+1,c,o=>Wgd l j (c+1) (Wgc l o c)
def Wdo(l:List Rw):List Rw:=Wgd l 8 0 []
theorem WeO{N:Nat}{l:List Rw}(hl:l.length<=1048576)(hN:1048576<N):∀(j n c:Nat) (o:List Rw),c+j=8->j<n->o.length<=c->Zcw N l (λaC aU bh=>(some ((),(bh,())))) n (c:Int) o=ret (Wgd l j c o)
 |j,0,c,o,_,h,_=>by omega
 |0,n+1,c,o,h,_,_=>by
  have:c=8:=by omega
  subst this;rfl
 |j+1,n+1,c,o,h,h1,ho=>by
  have e:decide ((c:Int)<8)=true:=by simp;omega
  rw[Zcw,e,Wfw hl hN,Wh (by omega),Wgd,Wgc];simp only[cond_true];rcases Wbq l c with _|v
  .exact WeO hl hN j n (c+1) o (by omega) (by omega) (by omega)
  .have er:WT (o.length+ [((c:Int),v)].length)=true:=Ws (by simp;omega);simp only[opI,Xc,cond_true,er];exact WeO hl hN j n (c+1) _ (by omega) (by omega) (by simp;omega)
theorem WeK{N:Nat}{l:List Rw}(hl:l.length<=1048576)(hN:1048576<N):∀(j n c:Nat) (o:List Rw),c+j=8->j<n->o.length<=c->Zcv N l (λaC aU bh=>(some ((),(bh,())))) n (c:Int) o=ret (Wgd l j c o)
 |j,0,c,o,_,h,_=>by omega
 |0,n+1,c,o,h,_,_=>by
  have:c=8:=by omega
  subst this;rfl
 |j+1,n+1,c,o,h,h1,ho=>by
  have e:decide ((c:Int)<8)=true:=by simp;omega
  rw[Zcv,e,Wfk hl hN,Wh (by omega),Wgd,Wgc];simp only[cond_true];rcases Wbq l c with _|v
  .exact WeK hl hN j n (c+1) o (by omega) (by omega) (by omega)
  .have er:WT (o.length+ [((c:Int),v)].length)=true:=Ws (by simp;omega);simp only[opI,Xc,cond_true,er];exact WeK hl hN j n (c+1) _ (by omega) (by omega) (by simp;omega)
theorem WfJ{N:Nat}{l:List Rw}(hl:l.length<=1048576)(hN:1048576<N):Zep N l=ret (Wdo l):=by
 unfold Zep;exact WeK hl hN 8 N 0 [] rfl (by omega) (by simp)
theorem Wix{l:List Rw}(h:Wa9 l=false):∀(j c:Nat) (o:List Rw),Wgd l j c o=o
 |0,_,_=>rfl
 |j+1,c,o=>by
  have e:Wbq l c=none:=by unfold Wbq;rw[h];rfl
  rw[Wgd,Wgc,e];exact Wix h j (c+1) o
theorem Wgf{N:Nat}{l:List Rw}(hl:l.length<=1048576)(hN:1048576<N):Zer N l=ret (Wdo l):=by
 unfold Zer;simp only[Wc8 hl hN,ret,Xc];cases h:Wa9 l
 .unfold Wdo;rw[Wix h];rfl
 .exact WeO hl hN 8 N 0 [] rfl (by omega) (by simp)
def fnd{α:Type}(p:α->Bool):List α->Nat->Option (Nat×α)
 | [],_=>none
 |x::l,j=>bif p x then some (j,x)else fnd p l (j+1)
theorem Wgn{α V R:Type}{body:Int->α->V->(V->Option R)->Option R}{K:Int->V->Option R}{p:α->Bool}{E:Int->α->Option R}:∀(l:List α) (j:Nat) (v:V),(∀(j:Nat) x v k,x∈l->body j x v k=bif p x then E j x else k v)->
  WbC body K l j v=match fnd p l j with|some r=>E r.1 r.2|none=>K ((j+l.length:Nat):Int) v
 | [],j,v,_=>rfl
 |x::l,j,v,h=>by
  rw[WbC,h j x v _ (Xg ..),fnd,Wgn l (j+1) v λj y v k hy=>h j y v k (Xe _ hy)];cases p x
  .simp only[cond_false];rw[Xq,show j+1+l.length=j+(l.length+1) by omega]
  .rfl
theorem WdO{α:Type}{p:α->Bool}:∀{l:List α} {j:Nat} {r:Nat×α},fnd p l j=some r->p r.2=true/\j<=r.1/\r.1<j+l.length/\l[r.1-j]?=some r.2
 | [],j,r,h=>by cases h
 |x::l,j,r,h=>by
  rw[fnd]at h;cases hp:p x
  .rw[hp]at h;obtain⟨h1,h2,h3,h4⟩:=WdO (l:=l) h;refine⟨h1,by omega,by rw[Xq];omega,?_⟩;obtain⟨q,hq⟩:∃q,r.1-j=q+1:=⟨r.1-j-1,by omega⟩;rw[hq,List.getElem?_cons_succ];rw[show r.1-(j+1)=q by omega]at h4;exact h4
  .rw[hp]at h;cases h;exact⟨hp,Xj _,by simp,by simp⟩
theorem Wlm{α:Type}{p:α->Bool}:∀{l:List α} {j:Nat},fnd p l j=none->∀x∈l,p x=false
 | [],j,h=>by simp
 |x::l,j,h=>by
  rw[fnd]at h;cases hp:p x
  .rw[hp]at h;intro y hy;rcases Xm.1 hy with rfl|hy
   .exact hp
   .exact Wlm h y hy
  .rw[hp]at h;cases h
abbrev En:=Int×Int×Int
def ent(b:List En)(c:Int):Option (Nat×En):=fnd (λe=>e.1==c) b 0
theorem WdX{N:Nat}{f:Y_Family}{c:Int}(hl:f.2.2.2.2.2.2.1.length<=1048576)(hN:1048576<N):Zap N f c=ret (match ent f.2.2.2.2.2.2.1 c with|some r=>(r.1:Int)|none=>-1):=by
 unfold Zap;show((Zb N f.2.2.2.2.2.2.1 c).bind _)=_;generalize f.2.2.2.2.2.2.1=b at hl;unfold Zb ent;have h1:=Wp (l:=b) (V:=Unit) (R:=Kg×Kg) (lp:=λn j v=>Za N b (λgD bt=>(some ((bt,()),(gD,())))) (λkO lz dn=>(some ((dn,()),((-1:Int),())))) n j c) (n:=N) (by omega)
  (body:=λj x v k=>bif x.1==c then some ((c,()),(j,()))else k v) (K:=λ_ v=>some ((c,()),((-1:Int),())))
  (λn i v hi=>by simp only[Za,Zfp,WX hi,Wn hi,Wv hi,Wh (show i<4611686018427387904 by omega),cond_true,Xc])
  (λn v=>by simp only[Za,Wac (Xj b.length),cond_false]) ()
 rw[h1,Wgn (p:=λe=>e.1==c) (E:=λj x=>some ((c,()),(j,()))) b 0 () (λj x v k _=>rfl)];cases fnd (λe:En=>e.1==c) b 0<;>rfl
theorem Wgi{N:Nat}{f:Y_Family}{c:Int}(hl:(P6 f).length<=1048576)(hN:1048576<N):Zck N f c=ret (match ent (P6 f) c with|some r=>r.2|none=>(c,(0,-1))):=by
 unfold Zck ent;have h1:=Wp (l:=P6 f) (V:=Unit) (R:=Unit×(En×Unit)) (lp:=λn j v=>Zam N c f (λbr=>(some ((),(br,())))) (λir fD=>(some ((),((c,((0:Int),(-1:Int))),())))) n j) (n:=N) (by omega)
  (body:=λj x v k=>bif x.1==c then some ((),(x,()))else k v) (K:=λ_ v=>some ((),((c,((0:Int),(-1:Int))),())))
  (λn i v hi=>by simp only[Zam,WX hi,Wn hi,Wv hi,Wh (show i<4611686018427387904 by omega),cond_true])
  (λn v=>by simp only[Zam,Wac (Xj (P6 f).length),cond_false]) ()
 refine h1.trans ?_;rw[Wgn (p:=λe=>e.1==c) (E:=λj x=>some ((),(x,()))) (P6 f) 0 () (λj x v k _=>rfl)];cases fnd (λe:En=>e.1==c) (P6 f) 0<;>rfl
theorem Wew{N:Nat}{l:List Int}(h:l.length<=1048576):Zn N l=ret l:=by
 unfold Zn;rw[Ws (by simp;omega)];rfl
theorem WcS{N:Nat}{l:List Int}(h:l.length<=1048576):Z2 N l=ret l:=by
 unfold Z2;rw[Ws (by omega)];rfl
theorem WmK{N:Nat}{l:List Rw}(h:l.length<=1048576):Zgn N l=ret l:=by
 unfold Zgn;rw[Ws (by omega)];rfl
end
section
theorem Wlo{N:Nat}{o:Opn}:∃t:Int,Zal N o=ret t/\Zfm N o=ret t:=by
 unfold Zal Zfm;rw[WbG,WeP];simp only[ret,Xc];cases Wab o
 .exact⟨0,rfl,rfl⟩
 .cases o.1==5<;>cases o.1==6<;>cases o.1==12<;>cases o.1==13<;>cases o.1==14<;>cases o.1==15<;>cases o.1==16<;>exact⟨_,rfl,rfl⟩
noncomputable def WgI(o:Opn):Int:=match Zal 0 o with|some (_,(t,_))=>t|none=>0
theorem Wqu{N:Nat}{o:Opn}:Zal N o=Zal 0 o:=by
 unfold Zal;rw[WbG,WbG]
theorem WcC{N:Nat}{o:Opn}:Zal N o=ret (WgI o):=by
 rw[Wqu];obtain⟨t,h,_⟩:=Wlo (N:=0) (o:=o);unfold WgI;rw[h]
theorem WhA{N:Nat}{o:Opn}:Zfm N o=ret (WgI o):=by
 obtain⟨t,h,h2⟩:=Wlo (N:=N) (o:=o);rw[h2,←h,WcC]
noncomputable def WeI(o:Opn):Bool:=(o.1==11)||(WgI o==2)
noncomputable def Wfz(l:List Opn):Bool:=WnW l&& !l.any WeI
theorem Wjd{N:Nat}{l:List Opn}(hl:l.length<=1048576)(hN:1048576<N):Zdq N l=ret (l.any λo=>o.1==11):=by
 unfold Zdq;have h1:=Wp (l:=l) (V:=Unit) (R:=Unit×Kk) (lp:=λn j v=>Za0 N l (some ((),(true,()))) (λi8 t9=>some ((),(false,()))) n j) (n:=N) (by omega)
  (body:=λj x v k=>bif x.1==11 then some ((),(true,()))else k v) (K:=λ_ v=>some ((),(false,())))
  (λn i v hi=>by simp only[Za0,WX hi,Wn hi,Wv hi,Wh (show i<4611686018427387904 by omega),cond_true])
  (λn v=>by simp only[Za0,Wac (Xj l.length),cond_false]) ()
 refine h1.trans ?_;rw[War (p:=λx:Opn=>x.1==11) (E:=λ_=>some ((),(true,()))) l 0 () (λj x v k _=>rfl)];cases l.any λo:Opn=>o.1==11<;>rfl
theorem WjV{N:Nat}{l:List Opn}(hl:l.length<=1048576)(hN:1048576<N):Zdw N l=ret (Wfz l):=by
 unfold Zdw Wfz;simp only[Wiz hl hN,ret,Xc];cases WnW l with
 |false=>rfl
 |true=>
  simp only[Wjd hl hN,ret,Xc,Xaj,cond_false,Xbr];have h1:=Wp (l:=l) (V:=Unit) (R:=Unit×Kk) (lp:=λn j v=>Zb7 N l (some ((),(false,()))) (λi8 t9=>some ((),(true,()))) n j) (n:=N) (by omega)
   (body:=λj x v k=>bif WgI x==2 then some ((),(false,()))else k v) (K:=λ_ v=>some ((),(true,())))
   (λn i v hi=>by simp only[Zb7,WX hi,Wn hi,Wv hi,Wh (show i<4611686018427387904 by omega),cond_true,WcC,ret,Xc])
   (λn v=>by simp only[Zb7,Wac (Xj l.length),cond_false]) ()
  (try simp only[]at h1)
  rw[h1,War (p:=λx=>WgI x==2) (E:=λ_=>some ((),(false,()))) l 0 () (λj x v k _=>rfl)];have e:l.any WeI=((l.any λo=>o.1==11)||l.any λo=>WgI o==2):=by
   clear h1 hl
   induction l with
   |nil=>rfl
   |cons x l ih=>
    simp only[List.any_cons,ih,WeI];cases x.1==11<;>cases WgI x==2<;>simp
  rw[e];cases l.any λo:Opn=>o.1==11<;>cases l.any λo=>WgI o==2<;>rfl
theorem WkL{N:Nat}{l:List Opn}(hl:l.length<=1048576)(hN:1048576<N):Zdz N l=ret (Wfz l):=by
 unfold Zdz Wfz;have h1:=Wp (l:=l) (V:=Unit) (R:=Unit×Kk) (lp:=λn j v=>Zb8 N l (some ((),(false,()))) (λaC aU=>((Zdh N l).bind λdH=>(some ((),(dH.2.1,()))))) n j) (n:=N) (by omega)
  (body:=λj x v k=>bif WeI x then some ((),(false,()))else k v) (K:=λ_ v=>ret (WnW l))
  (λn i v hi=>by
   simp only[Zb8,WX hi,Wn hi,Wv hi,Wh (show i<4611686018427387904 by omega),cond_true,WhA,ret,Xc,WeI];cases l[i].1==11<;>rfl)
  (λn v=>by simp only[Zb8,Wac (Xj l.length),cond_false,Wi2 hl hN,ret,Xc]) ()
 refine h1.trans ?_;rw[War (p:=WeI) (E:=λ_=>some ((),(false,()))) l 0 () (λj x v k _=>rfl)];cases l.any WeI<;>cases WnW l<;>rfl
def Wca(l:List Int):Bool:=decide (l.length=4)&&l.all Waz
theorem Wfe{N:Nat}{l:List Int}(hl:l.length<=1048576)(hN:1048576<N):Zdf N l=ret (Wca l):=by
 unfold Zdf Wca;by_cases h:l.length=4
 .have e:(Wc l !=4)=false:=by simp[Wc,h]
  rw[e];simp only[cond_false];have h1:=Wp (l:=l) (V:=Unit) (R:=Unit×Kk) (lp:=λn j v=>Zbi N l (some ((),(false,()))) (λi8 t9=>some ((),(true,()))) n j) (n:=N) (by omega)
   (body:=λj x v k=>bif !Waz x then some ((),(false,()))else k v) (K:=λ_ v=>some ((),(true,())))
   (λn i v hi=>by simp only[Zbi,WX hi,Wn hi,Wv hi,Wh (show i<4611686018427387904 by omega),cond_true,Wr,ret,Xc])
   (λn v=>by simp only[Zbi,Wac (Xj l.length),cond_false]) ()
  refine h1.trans ?_;rw[War (p:=λx=>!Waz x) (E:=λ_=>some ((),(false,()))) l 0 () (λj x v k _=>rfl),WcX];cases l.all Waz<;>simp[h]
 .have e:(Wc l !=4)=true:=by simp[Wc];omega
  rw[e];simp[h]
theorem We7{N:Nat}{l:List Int}(hl:l.length<=1048576)(hN:1048576<N):Zx N l 4=ret (Wca l):=by
 unfold Zx Wca;have h1:=Wp (l:=l) (V:=Unit) (R:=Unit×Kk) (lp:=λn j v=>Zo N l 4 (some ((),(false,()))) (λi8 t9=>some ((),((Wc l)==(4:Int),()))) n j) (n:=N) (by omega)
  (body:=λj x v k=>bif !Waz x then some ((),(false,()))else k v) (K:=λ_ v=>some ((),((Wc l)==(4:Int),())))
  (λn i v hi=>by simp only[Zo,WX hi,Wn hi,Wv hi,Wh (show i<4611686018427387904 by omega),cond_true,Wq,ret,Xc])
  (λn v=>by simp only[Zo,Wac (Xj l.length),cond_false]) ()
 refine h1.trans ?_;rw[War (p:=λx=>!Waz x) (E:=λ_=>some ((),(false,()))) l 0 () (λj x v k _=>rfl),WcX];have e:((Wc l)==(4:Int))=decide (l.length=4):=by
  by_cases h:l.length=4
  .simp[Wc,h]
  .simp[Wc,h];omega
 rw[e];cases l.all Waz<;>simp
end
section
section
variable{o:Opn}
theorem WkA(h:Wab o=true)(h1:1<=o.1)(h4:o.1<=4):Wg o.2.1=true/\(o.1=1->Waz o.2.2.1=true)/\(o.1≠1->Wg o.2.2.1=true/\Wg o.2.2.2=true):=by
 obtain⟨k,a,b,c⟩:=o;simp only at h1 h4;have:k=1\/k=2\/k=3\/k=4:=by omega
 rcases this with rfl|rfl|rfl|rfl
 .have:(Wg a&&Waz b&&(c==(0:Int)))=true:=h;simp only[Xh]at this;exact⟨this.1.1,λ_=>this.1.2,λh=>absurd rfl h⟩
 all_goals
  have:(Wg a&&Wg b&&Wg c)=true:=h;simp only[Xh]at this;exact⟨this.1.1,λh=>by simp at h,λ_=>⟨this.1.2,this.2⟩⟩
theorem WqO(h:Wab o=true)(h5:o.1=5):Wg o.2.1=true/\W6 o.2.2.1=true:=by
 obtain⟨k,a,b,c⟩:=o;simp only at h5;subst h5;have:(Wg a&&W6 b&&(c==(0:Int)))=true:=h;simp only[Xh]at this;exact this.1
theorem WqT(h:Wab o=true)(h5:o.1=6):W6 o.2.1=true/\Wg o.2.2.1=true:=by
 obtain⟨k,a,b,c⟩:=o;simp only at h5;subst h5;have:(W6 a&&Wg b&&(c==(0:Int)))=true:=h;simp only[Xh]at this;exact this.1
theorem Wq2(h:Wab o=true)(h5:o.1=7):Wg o.2.1=true/\1<=o.2.2.1/\o.2.2.1<=20:=by
 obtain⟨k,a,b,c⟩:=o;simp only at h5;subst h5;have:(Wg a&&(decide (1<=b)&&decide (b<=20))&&(c==(0:Int)))=true:=h;simp only[Xh,decide_eq_true_eq]at this;exact⟨this.1.1,this.1.2.1,this.1.2.2⟩
theorem WqA(h:Wab o=true)(h5:o.1=8):Wg o.2.1=true:=by
 obtain⟨k,a,b,c⟩:=o;simp only at h5;subst h5;have:(Wg a&&(b==(0:Int))&&(c==(0:Int)))=true:=h;simp only[Xh]at this;exact this.1.1
theorem Wqr(h:Wab o=true):1<=o.1/\o.1<=16:=by
 by_cases hk:1<=o.1/\o.1<=16
 .exact hk
 .exfalso;have e:∀n:Int,1<=n->n<=16->(o.1==n)=false:=λn h1 h2=>by simp;omega
  unfold Wab at h;rw[e 1 (by omega) (by omega),e 2 (by omega) (by omega),e 3 (by omega) (by omega),e 4 (by omega) (by omega),e 5 (by omega) (by omega),e 6 (by omega) (by omega),e 7 (by omega) (by omega),e 8 (by omega) (by omega),
   e 9 (by omega) (by omega),e 10 (by omega) (by omega),e 11 (by omega) (by omega),e 12 (by omega) (by omega),e 13 (by omega) (by omega),e 14 (by omega) (by omega),e 15 (by omega) (by omega),e 16 (by omega) (by omega)]at h
  cases h
end
theorem Wa2{x:Int}{l:List Int}(h:Wg x=true)(hl:l.length=4):inb x l.length=true:=by
 unfold Wg at h;simp at h;unfold inb;simp;omega
structure Vals(n:Nat)(l:List Int):Prop where
 len:l.length=n
 val:∀x∈l,0<=x/\x<=65535
theorem Vals.get{n:Nat}{l:List Int}(h:Vals n l)(i:Nat):0<=l.getD i 0/\l.getD i 0<=65535:=by
 by_cases hi:i<l.length
 .rw[WL hi];exact h.val _ (Xas hi)
 .rw[Xbg,Xbh (by omega)];simp
theorem Vals.set{n:Nat}{l:List Int}(h:Vals n l)(i:Nat){x:Int}(hx:0<=x/\x<=65535):Vals n (l.set i x):=
 ⟨by rw[Xau];exact h.len,λy hy=>by
  rcases List.mem_or_eq_of_mem_set hy with hy|hy
  .exact h.val y hy
  .rw[hy];exact hx⟩
theorem WcV{x:Int}:Waz x=true↔0<=x/\x<=65535:=by unfold Waz;simp
theorem WhD{l:List Int}:Wca l=true↔Vals 4 l:=by
 unfold Wca;rw[Xh,decide_eq_true_eq,Xaf];exact⟨λh=>⟨h.1,λx hx=>WcV.1 (h.2 x hx)⟩,λh=>⟨h.len,λx hx=>WcV.2 (h.val x hx)⟩⟩
theorem Wh4{l:List Int}:WbI l=true↔Vals 8 l:=by
 unfold WbI;rw[Xh,decide_eq_true_eq,Xaf];exact⟨λh=>⟨h.1,λx hx=>WcV.1 (h.2 x hx)⟩,λh=>⟨h.len,λx hx=>WcV.2 (h.val x hx)⟩⟩
def WkH(o:Opn)(r:List Int):List Int:=
 bif o.1==1 then r.set o.2.1.toNat o.2.2.1 else
 bif o.1==2 then r.set o.2.1.toNat ((r.getD o.2.2.1.toNat 0+r.getD o.2.2.2.toNat 0)%65536)else
 bif o.1==3 then r.set o.2.1.toNat ((r.getD o.2.2.1.toNat 0-r.getD o.2.2.2.toNat 0+65536)%65536)else
 bif decide (r.getD o.2.2.1.toNat 0<r.getD o.2.2.2.toNat 0)then r.set o.2.1.toNat 1 else r.set o.2.1.toNat 0
theorem WeE{x:Int}(h:0<=x):Wj9 x 65536=x%65536:=by unfold Wj9;exact Int.tmod_eq_emod_of_nonneg h
theorem WoI{o:Opn}{r:List Int}(h:Wab o=true)(h1:1<=o.1)(h4:o.1<=4)(hr:Vals 4 r):Vals 4 (WkH o r):=by
 obtain⟨_,hv,_⟩:=WkA h h1 h4;unfold WkH;cases e1:o.1==1
 .cases o.1==2
  .cases o.1==3
   .cases decide (r.getD o.2.2.1.toNat 0<r.getD o.2.2.2.toNat 0)
    .exact hr.set _ (by omega)
    .exact hr.set _ (by omega)
   .exact hr.set _ (by omega)
  .exact hr.set _ (by omega)
 .exact hr.set _ (WcV.1 (hv (by simpa using e1)))
section
variable{N:Nat}{o:Opn}{r:List Int}
theorem Wiv(hN:1048576<N)(h:Wab o=true)(h1:1<=o.1)(h4:o.1<=4)(hr:Vals 4 r):Zkg N o r=some ((),(WkH o r,(true,()))):=by
 obtain⟨ha,hv,nD⟩:=WkA h h1 h4;unfold Zkg Z2;have e0:WT r.length=true:=Ws (by rw[hr.len];omega);have e4:decide (o.1>4)=false:=by simp;omega
 have e5:Wca r=true:=WhD.2 hr;have ea:=Wa2 ha hr.len;have ez:inz 65536=true:=rfl;have gb:=hr.get o.2.2.1.toNat;have gc:=hr.get o.2.2.2.toNat;simp only[e0,cond_true,Xc,WeP,ret,h,Xaj,cond_false,e4,We7 (l:=r) (by rw[hr.len];omega) hN,e5,ea,ez];unfold WkH;by_cases k1:o.1=1
 .have b:(o.1==1)=true:=by simp[k1]
  rw[b];rfl
 .have b:(o.1==1)=false:=by simp[k1]
  obtain⟨hb,hc⟩:=nD k1;rw[b];simp only[cond_false,Wa2 hb hr.len,Wa2 hc hr.len,cond_true,Xau,ea];have s1:Wf .i64 (r.getD o.2.2.1.toNat 0) (r.getD o.2.2.2.toNat 0)=r.getD o.2.2.1.toNat 0+r.getD o.2.2.2.toNat 0:=W3 (by unfold I64;omega);have s2:Wa8 .i64 (r.getD o.2.2.1.toNat 0) (r.getD o.2.2.2.toNat 0)=r.getD o.2.2.1.toNat 0-r.getD o.2.2.2.toNat 0:=WaE (by unfold I64;omega);have s3:Wf .i64 (r.getD o.2.2.1.toNat 0-r.getD o.2.2.2.toNat 0) 65536=r.getD o.2.2.1.toNat 0-r.getD o.2.2.2.toNat 0+65536:=W3 (by unfold I64;omega);rw[s1,s2,s3,WeE (by omega),WeE (by omega)];cases o.1==2
  .cases o.1==3
   .simp only[cond_false,Wk,Xeu];cases decide (r.getD o.2.2.1.toNat 0<r.getD o.2.2.2.toNat 0)<;>rfl
   .rfl
  .rfl
theorem WiY(hN:1048576<N)(h:Wab o=true)(h1:1<=o.1)(h4:o.1<=4)(hr:Vals 4 r):Zkf N o r=some ((),(WkH o r,(true,()))):=by
 obtain⟨ha,hv,nD⟩:=WkA h h1 h4;unfold Zkf;have e0:WT (([]:List Int).length+r.length)=true:=Ws (by rw[hr.len];simp);have e4:decide (o.1>4)=false:=by simp;omega
 have e5:Wca r=true:=WhD.2 hr;have ea:=Wa2 ha hr.len;have ez:inz 65536=true:=rfl;have en:Xp ([]:List Int) r=r:=rfl;have gb:=hr.get o.2.2.1.toNat;have gc:=hr.get o.2.2.2.toNat;simp only[e0,cond_true,Xc,WbG,ret,h,Xaj,cond_false,e4,Wfe (l:=r) (by rw[hr.len];omega) hN,e5,ea,ez,en];unfold WkH;by_cases k1:o.1=1
 .have b:(o.1==1)=true:=by simp[k1]
  rw[b];rfl
 .have b:(o.1==1)=false:=by simp[k1]
  obtain⟨hb,hc⟩:=nD k1;rw[b];simp only[cond_false,Wa2 hb hr.len,Wa2 hc hr.len,cond_true,Xau,ea];have s1:Wf .i64 (r.getD o.2.2.1.toNat 0) (r.getD o.2.2.2.toNat 0)=r.getD o.2.2.1.toNat 0+r.getD o.2.2.2.toNat 0:=W3 (by unfold I64;omega);have s2:Wa8 .i64 (r.getD o.2.2.1.toNat 0) (r.getD o.2.2.2.toNat 0)=r.getD o.2.2.1.toNat 0-r.getD o.2.2.2.toNat 0:=WaE (by unfold I64;omega);have s3:Wf .i64 (r.getD o.2.2.1.toNat 0-r.getD o.2.2.2.toNat 0) 65536=r.getD o.2.2.1.toNat 0-r.getD o.2.2.2.toNat 0+65536:=W3 (by unfold I64;omega);rw[s1,s2,s3,WeE (by omega),WeE (by omega)];cases o.1==2
  .cases o.1==3
   .simp only[cond_false,Wk,Xeu];cases decide (r.getD o.2.2.1.toNat 0<r.getD o.2.2.2.toNat 0)<;>rfl
   .rfl
  .rfl
end
def WlP(l:List Rw):Prop:=∀r∈l,(0<=r.1/\r.1<=7)/\0<=r.2/\r.2<=65535
theorem Woj{l:List Rw}:l.all Wgk=true↔WlP l:=by
 rw[Xaf];unfold WlP Wgk W6 Waz;simp
end
section
def Wq0(f:Y_Family)(k:Nat)(x:Y_KidRun):Y_Family:=U9 (Xl (Q9 f) k x) f
def again(f:Y_Family)(x:Y_KidRun):Y_KidRun:=(0,(0,(f.2.1,(x.2.2.2.1+1,(0,(0,(P4 f,([],([],([],(false,(0,(0,(0,0))))))))))))))
def Wip(x:Y_KidRun)(c:Int):Pb:=bif P10 x then Q11 x else(c,(0,(0,0)))
def Wc0(m:Mm)(f:Y_Family)(x:Y_KidRun)(o:Int×Int×Int×Int):Y_Family×Y_KidRun:=
 match Wbq (P8 x) o.2.2.1 with
 |some v=>(f,S6 (Xl (P6 x) (Xa o.2.1) v) (S1 (x.2.1+1) x))
 |none=>match ent (P6 f) o.2.2.1 with
  |some r=>bif decide (r.2.2.2>x.2.2.1)then(f,again f x)else(f,S7 (P7 x++ [r.2]) (S6 (Xl (P6 x) (Xa o.2.1) r.2.2.1) (S1 (x.2.1+1) x)))
  |none=>
   bif (WaD m f.1 (Wip x o.2.2.1)).2.1==4 then(S3 true f,U11 (WaD m f.1 (Wip x o.2.2.1)) (S10 true x))else
   bif (WaD m f.1 (Wip x o.2.2.1)).2.1==3 then(f,U14 0 (S13 0 (S12 0 (S11 0 (S10 false (S7 (P7 x++ [(o.2.2.1,((WaD m f.1 (Wip x o.2.2.1)).2.2.2,-1))]) (S6 (Xl (P6 x) (Xa o.2.1) (WaD m f.1 (Wip x o.2.2.1)).2.2.2) (S1 (x.2.1+1) x))))))))else
   (f,U11 (WaD m f.1 (Wip x o.2.2.1)) (S10 true x))
structure ReadOk(m:Mm)(f:Y_Family)(x:Y_KidRun)(o:Int×Int×Int×Int):Prop where
 mem:WaB m=true
 regs:(P6 x).length=4
 famr:(P4 f).length=4
 rA:0<=o.2.1/\o.2.1<=3
 cB:W6 o.2.2.1=true
 seen:(P7 x).length<=1000
 wr:(P8 x).length<=1000
 buf:(P6 f).length<=1000
 ver:∀e∈P6 f,0<=e.2.2
 since:0<=x.2.2.1
 pc:0<=x.2.1/\x.2.1<=1000
 tries:0<=x.2.2.2.1/\x.2.2.2.1<=100000
 pb:P10 x=true->Wiq (Q11 x)=true
theorem ReadOk.pbO{m:Mm}{f:Y_Family}{x:Y_KidRun}{o:Int×Int×Int×Int}(h:ReadOk m f x o):Wiq (Wip x o.2.2.1)=true:=by
 unfold Wip;cases hb:P10 x
 .have:=h.cB;unfold Wiq;simp[this,Waz]
 .exact h.pb hb
theorem Wk6{x:Y_KidRun}(h:P10 x=true):S10 true x=x:=by rw[←h];rfl
theorem Wc4{a:Int}(h:0<=a/\a<=1000000):Wf .i64 a 1=a+1:=W3 (by unfold I64;omega)
theorem rgI{r:List Int}{a:Int}(h:r.length=4)(ha:0<=a/\a<=3):inb a r.length=true:=by unfold inb;rw[h];simp;omega
theorem Wem{N:Nat}{f:Y_Family}{x:Y_KidRun}(h:(P4 f).length=4)(ht:0<=x.2.2.2.1/\x.2.2.2.1<=100000):Zs N f x=some ((f,()),(again f x,())):=by
 unfold Zs again;have e:Zn N f.2.2.2.2.1=ret (P4 f):=Wew (by show(P4 f).length<=1048576;omega);rw[e,Wc4 (by omega)];rfl
theorem WcW{N:Nat}{f:Y_Family}{k:Nat}{x:Y_KidRun}(hk:k<(Q9 f).length)(h:(P4 f).length=4)(ht:0<=x.2.2.2.1/\x.2.2.2.1<=100000):
  Zz N (U9 (Xl (Q9 f) k x) f) (k:Int)=some ((Wq0 f k (again f x),()),()):=by
 have e0:Z2 N (P4 (U9 (Xl (Q9 f) k x) f))=ret (P4 f):=WcS (show(P4 f).length<=1048576 by omega);have e1:Q9 (U9 (Xl (Q9 f) k x) f)=Xl (Q9 f) k x:=rfl;have gu:k<(Xl (Q9 f) k x).length:=by simpa using hk
 unfold Zz;rw[e0,e1];have e2:Xd (Xl (Q9 f) k x) (Xa (k:Int)) d_KidRun=x:=by rw[Wv gu];simp
 rw[e2,Wn gu,Wc4 (by omega),Xu];simp only[cond_true,ret,Xc,Xeu];rfl
theorem Wi4{N:Nat}{m:Mm}{f:Y_Family}{k:Nat}{o:Int×Int×Int×Int}(hk:k<(Q9 f).length)(h:ReadOk m f (Q9 f)[k] o)(hN:1048576<N):
  Zes N f (k:Int) o m=some ((Wq0 (Wc0 m f (Q9 f)[k] o).1 k (Wc0 m f (Q9 f)[k] o).2,()),()):=by
 generalize hx:(Q9 f)[k]=x at h;have hw:=h.wr;have hs:=h.seen;have hb:=h.buf;have hr:=h.regs;have ex:Xd (Q9 f) (Xa (k:Int)) d_KidRun=x:=by rw[Wv hk,hx]
 unfold Zes Wc0;simp only[Wk];rw[Wn hk,ex,Xu,Wfw (show(P8 x).length<=1048576 by omega) hN,Wc4 (by have:=h.pc;omega)];rcases Wbq (P8 x) o.2.2.1 with _|v
 .simp only[opI,Xc,cond_false,cond_true];have hE:Zap N (U9 (Xl (Q9 f) k x) f) o.2.2.1=ret (match ent (P6 f) o.2.2.1 with|some r=>(r.1:Int)|none=>-1):=WdX (f:=U9 (Xl (Q9 f) k x) f) (show(P6 f).length<=1048576 by omega) hN;rw[hE,WcW hk h.famr h.tries];rcases he:ent (P6 f) o.2.2.1 with _|r
  .simp only[ret,Xc,show decide ((-1:Int)>=0)=false from rfl,cond_false];have hp:=h.pbO;cases hc:P10 x
   .have gT:Wip x o.2.2.1=(o.2.2.1,(0,(0,0))):=by unfold Wip;rw[hc];rfl
    have hn:Zgm N o.2.2.1=some ((),((o.2.2.1,(0,(0,0))),(true,()))):=by
     unfold Zgm;simp only[Wo,ret,Xc,h.cB,Xaj,cond_false]
    rw[gT]at hp⊢;simp only[Bool.not_false,cond_true,hn,WgQ h.mem hp hN,ret,Xc,rgI hr h.rA];generalize WaD m f.1 (o.2.2.1,(0,(0,0)))=q;rw[Ws (by simp;omega)];cases q.2.1==4<;>cases q.2.1==3<;>rfl
   .have gT:Wip x o.2.2.1=Q11 x:=by unfold Wip;rw[hc];rfl
    rw[gT]at hp⊢;simp only[Xaj,cond_false,WgQ h.mem hp hN,ret,Xc,rgI hr h.rA,cond_true];generalize WaD m f.1 (Q11 x)=q;rw[Ws (by simp;omega),Wk6 hc];cases q.2.1==4<;>cases q.2.1==3<;>rfl
  .have hm:=WdO he;have hi:r.1<(P6 f).length:=by have:=hm.2.2.1;omega
   have hg:(P6 f)[r.1]=r.2:=by
    have:=hm.2.2.2;rw[Nat.sub_zero,List.getElem?_eq_getElem hi]at this;exact Option.some.inj this
   have e2:decide (((r.1:Nat):Int)>=0)=true:=by simp
   simp only[ret,Xc,e2,cond_true,Wn hi,rgI hr h.rA];rw[Wv hi,hg,Ws (by simp;omega)];cases decide (r.2.2.2>x.2.2.1)<;>rfl
 .simp only[opI,Xc,cond_true,rgI hr h.rA];rfl
end
section
structure Lin{α:Type}(cf:α->α->Int):Prop where
 irr:∀x,¬cf x x<0
 tr:∀x y z,cf x y<0->cf y z<0->cf x z<0
 nt:∀x y z,¬cf x y<0->¬cf y z<0->¬cf x z<0
theorem Wpj:Lin cfE:=⟨λx=>by unfold cfE;omega,λx y z=>by unfold cfE;omega,λx y z=>by unfold cfE;omega⟩
def Ris{α:Type}(cf:α->α->Int)(l:List α):Prop:=l.Pairwise λa b=>cf a b<0
def WcU{α:Type}(cf:α->α->Int):List α->α->List α
 | [],e=>[e]
 |x::l,e=>if cf x e<0 then x::WcU cf l e else if cf e x<0 then e::x::l else e::l
def Ap{α:Type}(cf:α->α->Int)(x y:α):Prop:=cf x y<0\/cf y x<0
variable{α:Type}{cf:α->α->Int}
theorem Lin.ap(h:Lin cf){x y:α}(hn:¬Ap cf x y){z:α}:(cf x z<0↔cf y z<0)/\(cf z x<0↔cf z y<0):=by
 unfold Ap at hn;refine⟨⟨λa=>?_,λa=>?_⟩,⟨λa=>?_,λa=>?_⟩⟩
 .exact Classical.byContradiction λc=>h.nt x y z (λq=>hn (.inl q)) c a
 .exact Classical.byContradiction λc=>h.nt y x z (λq=>hn (.inr q)) c a
 .exact Classical.byContradiction λc=>h.nt z y x c (λq=>hn (.inr q)) a
 .exact Classical.byContradiction λc=>h.nt z x y c (λq=>hn (.inl q)) a
theorem Wjg:∀(l:List α) (e:α),(WcU cf l e).length<=l.length+1
 | [],e=>by simp[WcU]
 |x::l,e=>by
  have:=Wjg l e;unfold WcU;by_cases h1:cf x e<0
  .rw[if_pos h1];simp;omega
  .rw[if_neg h1];by_cases h2:cf e x<0
   .rw[if_pos h2];simp
   .rw[if_neg h2];simp
theorem Wen(hc:Lin cf){e x:α}:∀{l:List α},Ris cf l->(x∈WcU cf l e↔x=e\/(x∈l/\Ap cf x e))
 | [],_=>by simp[WcU]
 |y::l,h=>by
  have hl:=(Xv.1 h);unfold WcU;by_cases h1:cf y e<0
  .rw[if_pos h1,Xm,Wen hc hl.2,Xm];refine⟨?_,?_⟩
   .rintro(rfl|h|h)
    .exact .inr ⟨.inl rfl,.inl h1⟩
    .exact .inl h
    .exact .inr ⟨.inr h.1,h.2⟩
   .rintro(h|⟨rfl|h,h'⟩)
    .exact .inr (.inl h)
    .exact .inl rfl
    .exact .inr (.inr ⟨h,h'⟩)
  .rw[if_neg h1];by_cases h2:cf e y<0
   .rw[if_pos h2];simp only[Xm];refine⟨?_,?_⟩
    .rintro(h|rfl|h)
     .exact .inl h
     .exact .inr ⟨.inl rfl,.inr h2⟩
     .exact .inr ⟨.inr h,.inr (hc.tr _ _ _ h2 (hl.1 x h))⟩
    .rintro(h|⟨rfl|h,_⟩)
     .exact .inl h
     .exact .inr (.inl rfl)
     .exact .inr (.inr h)
   .rw[if_neg h2];simp only[Xm];have hn:¬Ap cf y e:=by unfold Ap;omega
    refine⟨?_,?_⟩
    .rintro(h|h)
     .exact .inl h
     .exact .inr ⟨.inr h,.inr ((hc.ap hn).1.1 (hl.1 x h))⟩
    .rintro(h|⟨rfl|h,h'⟩)
     .exact .inl h
     .exact absurd h' hn
     .exact .inr h
theorem WcP(hc:Lin cf){e:α}:∀{l:List α},Ris cf l->Ris cf (WcU cf l e)
 | [],_=>by simp[WcU,Ris]
 |y::l,h=>by
  have hl:=(Xv.1 h);unfold WcU;by_cases h1:cf y e<0
  .rw[if_pos h1];refine Xv.2 ⟨λx hx=>?_,WcP hc hl.2⟩;rcases(Wen hc hl.2).1 hx with rfl|hx
   .exact h1
   .exact hl.1 x hx.1
  .rw[if_neg h1];by_cases h2:cf e y<0
   .rw[if_pos h2];refine Xv.2 ⟨λx hx=>?_,h⟩;rcases Xm.1 hx with rfl|hx
    .exact h2
    .exact hc.tr _ _ _ h2 (hl.1 x hx)
   .rw[if_neg h2];have hn:¬Ap cf y e:=by unfold Ap;omega
    exact Xv.2 ⟨λx hx=>(hc.ap hn).1.1 (hl.1 x hx),hl.2⟩
theorem WpB(hc:Lin cf){L M:List α}(hM:Ris cf M)(hL:L.Pairwise (Ap cf))(hm:∀x,x∈L↔x∈M):sortBy cf L=M:=by
 have hn:∀{l:List α},l.Pairwise (Ap cf)->l.Nodup:=λh=>h.imp λ{a b} eZ=>by
  rintro rfl;unfold Ap at eZ;have:=hc.irr a;omega
 have hM':M.Pairwise (Ap cf):=hM.imp λh=>.inl h;have hp:L.Perm M:=(List.perm_ext_iff_of_nodup (hn hL) (hn hM')).2 hm;unfold sortBy;have h1:=List.pairwise_mergeSort (le:=λx y=>!lessBy cf y x) (λa b c=>by
  simp only[lessBy,Xai,decide_eq_false_iff_not]
  exactλh1 h2=>hc.nt _ _ _ h2 h1) (λa b=>by
  simp only[lessBy,Xcc,Xai,decide_eq_false_iff_not];rcases Classical.em (cf b a<0)with h|h
  .exact .inr λh'=>hc.irr _ (hc.tr _ _ _ h h')
  .exact .inl h) L
 refine List.Perm.eq_of_pairwise ?_ h1 (hM.imp λ{a b} h=>?_) ((Xfq _ _).trans hp)
 .intro a b ha hb h1 h2;simp only[lessBy,Xai,decide_eq_false_iff_not]at h1 h2;have qd:a∈M:=(hm a).1 ((Xfq _ _).mem_iff.1 ha);obtain⟨i,hi,rfl⟩:=Xdn qd;obtain⟨j,hj,rfl⟩:=Xdn hb;rcases Nat.lt_trichotomy i j with h|h|h
  .exact absurd (Xcu.1 hM i j hi hj h) h2
  .subst h;rfl
  .exact absurd (Xcu.1 hM j i hj hi h) h1
 .simp only[lessBy,Xai,decide_eq_false_iff_not]
  exactλh'=>hc.irr _ (hc.tr _ _ _ h h')
theorem Wlj{r:α->α->Bool}{R:α->α->Prop}(hr:∀a b,R a b->r a b=true):∀{l:List α},l.Pairwise R->WhT r l=true
 | [],_=>rfl
 |x::l,h=>by
  have:=Xv.1 h;simp only[WhT,Xh,Xaf];exact⟨λy hy=>hr _ _ (this.1 y hy),Wlj hr this.2⟩
theorem Wol(hc:Lin cf){rng:α->Bool}{N:Nat}{L M:List α}(hM:Ris cf M)(hL:L.Pairwise (Ap cf))(hm:∀x,x∈L↔x∈M)(hr:∀x∈L,rng x=true)(hl:L.length<=1048576):
  Zjt rng cf N L=some ((M,()),()):=by
 unfold Zjt;rw[Xaf.2 hr,Wlj (R:=Ap cf) (λa b h=>by unfold apart lessBy;simpa [Ap]using h) hL,decide_eq_true (by omega)];rw[←WpB hc hM hL hm];rfl
theorem WmL(hc:Lin cf){L:List α}{e:α}{i:Nat}(hL:L.Pairwise (Ap cf))(hi:i<L.length)(hk:¬Ap cf L[i] e):(L.set i e).Pairwise (Ap cf)/\∀x,x∈L.set i e↔x=e\/(x∈L/\Ap cf x e):=by
 have lC:∀{z},Ap cf L[i] z↔Ap cf e z:=λ{z}=>by unfold Ap;rw[(hc.ap hk).1,(hc.ap hk).2]
 have gl:∀{a b:α},Ap cf a b->Ap cf b a:=λh=>h.symm;have hG:=Xcu.1 hL;refine⟨?_,λx=>⟨λhx=>?_,?_⟩⟩
 .rw[Xcu];intro a b ha hb eZ;rw[Xau]at ha hb;rw[Xdb,Xdb];by_cases h1:i=a
  .rw[if_pos h1,if_neg (by omega)];subst h1;exact lC.1 (hG i b ha hb eZ)
  .rw[if_neg h1];by_cases h2:i=b
   .rw[if_pos h2];subst h2;exact gl (lC.1 (gl (hG a i ha hb eZ)))
   .rw[if_neg h2];exact hG a b ha hb eZ
 .obtain⟨j,hj,rfl⟩:=Xdn hx;rw[Xau]at hj;rw[Xdb];by_cases h1:i=j
  .rw[if_pos h1];exact .inl rfl
  .rw[if_neg h1];refine .inr ⟨Xas hj,?_⟩;rcases Nat.lt_or_gt_of_ne h1 with h|h
   .exact gl (lC.1 (hG i j hi hj h))
   .exact gl (lC.1 (gl (hG j i hj hi h)))
 .rintro(rfl|⟨hx,jn⟩)
  .exact Xea.2 ⟨i,by simpa using hi,by simp⟩
  .obtain⟨j,hj,rfl⟩:=Xdn hx;refine Xea.2 ⟨j,by simpa using hj,?_⟩;rw[Xdb,if_neg];rintro rfl;exact hk jn
theorem Wme{L:List α}{e:α}(hL:L.Pairwise (Ap cf))(hk:∀x∈L,Ap cf x e):(L++ [e]).Pairwise (Ap cf)/\∀x,x∈L++ [e]↔x=e\/(x∈L/\Ap cf x e):=by
 refine⟨Xac.2 ⟨hL,Xbi _ _,λa ha b hb=>?_⟩,λx=>?_⟩
 .rw[Xab]at hb;subst hb;exact hk a ha
 .simp only[Xk,Xab];refine⟨?_,?_⟩
  .rintro(h|h)
   .exact .inr ⟨h,hk x h⟩
   .exact .inl h
  .rintro(h|h)
   .exact .inr h
   .exact .inl h.1
end
section
abbrev KM:=Int×Int×List Int
structure Kd where
 phase:Int:=0
 pc:Int:=0
 since:Int:=0
 tries:Int:=0
 pos:Int:=0
 out:Int:=0
 regs:List Int:=[]
 seen:List En:=[]
 writes:List Rw:=[]
 marks:List KM:=[]
 busy:Bool:=false
 pb:Pb:=(0,0,0,0)
def Kd.e(x:Kd):Y_KidRun:=(x.phase,x.pc,x.since,x.tries,x.pos,x.out,x.regs,x.seen,x.writes,x.marks,x.busy,x.pb)
structure Fm where
 rv:Int:=0
 clock:Int:=0
 owner:Int:=0
 lost:Bool:=false
 regs:List Int:=[]
 start:List Rw:=[]
 buf:List En:=[]
 order:List Int:=[]
 reads:List Rw:=[]
 kids:List Kd:=[]
def Fm.e(f:Fm):Y_Family:=(f.rv,f.clock,f.owner,f.lost,f.regs,f.start,f.buf,f.order,f.reads,f.kids.map Kd.e)
def zOp:Opn:=(0,0,0,0)
def opN(code:List Opn)(i:Int):Opn:=Xd code i.toNat zOp
def WeW{α:Type}(l:List α)(i:Int)(d:α):α:=Xd l i.toNat d
def Wo0{α:Type}(l:List α)(i:Int)(x:α):List α:=Xl l i.toNat x
def Wms{α:Type}(l:List α)(d:α):α:=Xd l (l.length-1) d
def Wlu(l:List Opn)(m:Nat):Nat:=((Xcv l.length).find? λk=>decide (m<=k)&&decide (dep l (k+1)=dep l m)).getD 0
def Fm.again(f:Fm)(x:Kd):Kd:={since:=f.clock,tries:=x.tries+1,regs:=f.regs}
def Wd0(m:Mm)(f:Fm)(x:Kd)(o:Opn):Fm×Kd:=
 match Wbq x.writes o.2.2.1 with
 |some v=>(f,{x with regs:=Wo0 x.regs o.2.1 v,pc:=x.pc+1})
 |none=>match ent f.buf o.2.2.1 with
  |some r=>if r.2.2.2>x.since then(f,f.again x)else(f,{x with regs:=Wo0 x.regs o.2.1 r.2.2.1,seen:=x.seen++ [r.2],pc:=x.pc+1})
  |none=>
   let p:=WaD m f.rv (if x.busy then x.pb else(o.2.2.1,0,0,0))
   if p.2.1=4 then({f with lost:=true},{x with busy:=true,pb:=p})
   else if p.2.1=3 then(f,{x with regs:=Wo0 x.regs o.2.1 p.2.2.2,seen:=x.seen++ [(o.2.2.1,p.2.2.2,-1)],busy:=false,pb:=(0,0,0,0),pc:=x.pc+1})
   else(f,{x with busy:=true,pb:=p})
def WfR(x:Kd)(code:List Opn):Kd:=
 if x.marks.length=0 then{x with writes:=[],out:=2,phase:=1}else
 let q:=Wms x.marks (0,0,[])
 {x with marks:=x.marks.dropLast,regs:=Wo0 q.2.2 (opN code q.1).2.1 0,writes:=x.writes.take q.2.1.toNat,pc:=Wlu code q.1.toNat+1}
def Wkx(m:Mm)(f:Fm)(x:Kd)(code:List Opn):Fm×Kd:=
 if x.pc>=code.length then(f,{x with out:=1,phase:=1})else
 let o:=opN code x.pc
 if o.1=5 then Wd0 m f x o else
 if o.1=10 then(f,WfR x code)else
 if o.1=6 then(f,{x with writes:=x.writes++ [(o.2.1,WeW x.regs o.2.2.1 0)],pc:=x.pc+1})else
 if o.1=7 then(f,{x with pc:=(if WeW x.regs o.2.1 0=0 then x.pc+o.2.2.1 else x.pc)+1})else
 if o.1=8 then(f,{x with marks:=x.marks++ [(x.pc,(x.writes.length:Int),x.regs)],pc:=x.pc+1})else
 if o.1=9 then(f,{x with marks:=x.marks.dropLast,regs:=Wo0 x.regs (opN code (Wms x.marks (0,0,[])).1).2.1 1,pc:=x.pc+1})else
 (f,{x with regs:=WkH o x.regs,pc:=x.pc+1})
def WbZ(c:Int)(b:List En)(rows:List Rw):List En:=rows.foldl (λb r=>WcU cfE b (r.1,r.2,c)) b
def W7(l:List En):List Rw:=(l.filter λe=>decide (e.2.2= -1)).map λe=>(e.1,e.2.1)
def Wfn(f:Fm)(x:Kd)(k:Nat):Fm×Kd:=
 ({f with clock:=f.clock+1,buf:=WbZ (f.clock+1) f.buf (Wdo x.writes),reads:=f.reads++W7 x.seen,order:=f.order++ [(k:Int)],owner:=0},{x with phase:=3,pos:=0,marks:=[]})
def WqU(b:List En)(c:Int):Int:=match ent b c with
 |some r=>r.2.2.2
 |none=>-1
def WfV(m:Mm)(f:Fm)(x:Kd)(k:Nat)(code:List Opn):Fm×Kd:=
 if x.phase=0 then Wkx m f x code else
 if x.phase=1 then(if f.owner=0 then({f with owner:=(k:Int)+1},{x with phase:=2})else(f,x))else
 if x.phase=2 then
  if x.pos=x.seen.length then Wfn f x k else
  let s:=WeW x.seen x.pos (0,0,0)
  if WqU f.buf s.1=s.2.2 then(f,{x with pos:=x.pos+1})else({f with owner:=0},f.again x)
 else(f,x)
def Fm.put(q:Fm×Kd)(k:Nat):Fm:={q.1 with kids:=q.1.kids.set k q.2}
def WfN(m:Mm)(f:Fm)(k:Nat)(code:List Opn):Fm:=
 if f.lost then f else Fm.put (WfV m f (f.kids.getD k {}) k code) k
def Wby(rv:Int)(regs:List Int)(writes:List Rw)(kids:Nat):Fm:=
 {rv:=rv,regs:=regs,start:=Wdo writes,buf:=(Wdo writes).map λr=>(r.1,r.2,0),kids:=List.replicate kids {regs:=regs}}
structure KMk(code:List Opn)(pc:Nat)(marks:List KM)(wl:Nat):Prop where
 pcs:marks.map (·.1)=(stk code pc).map λm:Nat=>(m:Int)
 each:∀q∈marks,Vals 4 q.2.2/\0<=q.2.1/\q.2.1<=q.1/\q.2.1<=wl
 up:marks.Pairwise λa b=>a.2.1<=b.2.1
structure KOk(code:List Opn)(c n:Int)(x:Kd):Prop where
 pc:0<=x.pc/\x.pc<=code.length
 regs:Vals 4 x.regs
 rows:WlP x.writes
 wl:(x.writes.length:Int)<=x.pc
 sl:(x.seen.length:Int)<=x.pc
 since:0<=x.since/\x.since<=c
 tries:0<=x.tries/\x.tries<=n
 seen:∀e∈x.seen,(0<=e.1/\e.1<=7)/\(0<=e.2.1/\e.2.1<=65535)/\ -1<=e.2.2/\e.2.2<=x.since
 marks:x.phase=0->KMk code x.pc.toNat x.marks x.writes.length
 pos:0<=x.pos/\x.pos<=x.seen.length
 pb:x.busy=true->Wiq x.pb=true
 phase:0<=x.phase/\x.phase<=3
 out:0<=x.out/\x.out<=2
structure FOk(codes:List (List Opn))(n:Int)(f:Fm):Prop where
 len:f.kids.length=codes.length
 regs:Vals 4 f.regs
 clock:0<=f.clock/\f.clock=f.order.length
 done:f.order.length=f.kids.countP λx=>decide (x.phase=3)
 bufR:Ris cfE f.buf
 bufE:∀e∈f.buf,(0<=e.1/\e.1<=7)/\(0<=e.2.1/\e.2.1<=65535)/\0<=e.2.2/\e.2.2<=f.clock
 readsL:f.reads.length<=24*f.order.length
 readsE:WlP f.reads
 owner:0<=f.owner/\f.owner<=f.kids.length
 kid:∀(k:Nat) (h:k<f.kids.length),KOk (codes.getD k []) f.clock n f.kids[k]
end
section
structure CC(l:List Opn):Prop where
 len:l.length<=24
 up:Up l
 z:dep l l.length=0
 ok:∀i (h:i<l.length),Wab l[i]=true/\1<=l[i].1/\l[i].1<=16
 sk:∀i (h:i<l.length),l[i].1=7->i+1+l[i].2.2.1.toNat<=l.length/\bal ((l.take (i+1+l[i].2.2.1.toNat)).drop (i+1))=true
 fk:∀i (h:i<l.length),l[i].1=11->dep l i=0/\frk l (i+1)<=1
structure KC(l:List Opn):Prop extends CC l where
 k10:∀i (h:i<l.length),l[i].1<=10
theorem WpZ{o:Opn}(h:Wab o=true)(jE:12<=o.1):WgI o=2:=by
 have jF:=Wqr h;have key:=WcC (N:=0) (o:=o);unfold Zal at key;rw[WbG,h]at key;simp only[ret,Xc,Xaj,cond_false]at key;have e5:(o.1==5)=false:=by simp;omega
 have e6:(o.1==6)=false:=by simp;omega
 rw[e5,e6]at key;simp only[cond_false]at key;have:o.1=12\/o.1=13\/o.1=14\/o.1=15\/o.1=16:=by omega
 rcases this with hk|hk|hk|hk|hk<;> · rw[hk]at key;simpa using key.symm
theorem WqN{l:List Opn}(h:WnW l=true):CC l:=by
 unfold WnW at h;simp only[Xh,decide_eq_true_eq,Xai]at h;obtain⟨h1,h2,h3⟩:=h;obtain⟨b1,b2⟩:=WkD.1 h2;have hb:∀i (hi:i<l.length),WlR l i l[i]=false:=λi hi=>by
  rw[Xdg];intro hb;have:WjY (WlR l) 0 l=true:=Wef.2 ⟨i,hi,by rw[Xbe];exact hb⟩;rw[h3]at this;cases this
 have bn:∀i (hi:i<l.length),Wab l[i]=true:=λi hi=>by
  have:=hb i hi;unfold WlR at this;simp only[Xdj,Xem]at this;exact this.1.1
 refine⟨h1,b1,b2,λi hi=>⟨bn i hi,Wqr (bn i hi)⟩,λi hi h7=>?_,λi hi eK=>?_⟩
 .have:=hb i hi;unfold WlR at this;simp only[Xdj,Xem]at this;have h8:=this.1.2;rw[h7]at h8;have:Wfs l i l[i]=true:=by simpa using h8
  unfold Wfs at this;simpa using this
 .have:=hb i hi;unfold WlR at this;simp only[Xdj,Xem]at this;have h8:=this.2;rw[eK]at h8;simp at h8;omega
theorem Wq5{l:List Opn}(h:Wfz l=true):KC l:=by
 unfold Wfz at h;simp only[Xh,Xai]at h;have hc:=WqN h.1;refine⟨hc,λi hi=>?_⟩;have d6:WeI l[i]=false:=by
  rw[Xdg];intro hb;have:=List.any_eq_true.2 ⟨l[i],Xas hi,hb⟩;rw[h.2]at this;cases this
 unfold WeI at d6;simp only[Xdj]at d6;by_cases ba:l[i].1<=10
 .exact ba
 .exfalso;by_cases eK:l[i].1=11
  .simp[eK]at d6
  .have:=WpZ (hc.ok i hi).1 (by have:=(hc.ok i hi).2;omega);rw[this]at d6;simp at d6
theorem WgW{l:List Opn}{m k:Nat}(h:Mate l m k):Wlu l m=k:=by
 unfold Wlu;have:(Xcv l.length).find? (λk=>decide (m<=k)&&decide (dep l (k+1)=dep l m))=some k:=by
  rw[List.find?_range_eq_some];have:=h.lt;refine⟨?_,List.mem_range.2 h.len,λj hj=>?_⟩
  .simp[h.eq];omega
  .simp only[Xai,Bool.and_eq_false_iff,decide_eq_false_iff_not];by_cases hm:m<=j
   .exact .inr (h.ne j hm hj)
   .exact .inl hm
 rw[this];rfl
theorem Wnu{l:List Opn}{i:Int}(h0:0<=i)(h:i<l.length):∃(n:Nat) (hn:n<l.length),i=n/\opN l i=l[n]:=by
 refine⟨i.toNat,by omega,by omega,?_⟩;unfold opN;exact WL (by omega) _
theorem WhL{l:List Opn}{n:Nat}(h:n<l.length):opN l (n:Int)=l[n]:=by
 unfold opN;exact WL (by simpa using h) _
theorem Wmf{α:Type}(q:List α)(x d:α):Wms (q++ [x]) d=x:=by unfold Wms;simp
theorem Whd{M:Type}{g:M->Int}{l:List Opn}{pc:Nat}{marks:List M}{d:M}(hc:CC l)(hp:pc<=l.length)(hm:marks.map g=(stk l pc).map λm:Nat=>(m:Int))(hne:marks.length≠0):
  ∃(m:Nat) (q:List M) (x:M),marks=q++ [x]/\Wms marks d=x/\g x=(m:Int)/\(∃hm:m<l.length,l[m].1=8)/\m<pc/\Mate l m (Wlu l m)/\pc<=Wlu l m/\stk l m=(stk l pc).dropLast/\q.map g=(stk l m).map λm:Nat=>(m:Int):=by
 rcases WbO marks with h0|⟨q,x,hq⟩
 .rw[h0]at hne;simp at hne
 .rw[hq,Xo,Xag,Xca]at hm;rcases WbO (stk l pc)with h0|⟨t,m,ht⟩
  .rw[h0]at hm;simp at hm
  .rw[ht,Xo,Xag,Xca]at hm;obtain⟨e1,e2⟩:=Xey hm rfl;injection e2 with e2;obtain⟨k,k1,k2,k3⟩:=WpQ hc.up hc.z hp ht;have k4:=WgW k2;obtain⟨hlt,h8,_,_⟩:=Whv pc hp t [] m ht;refine⟨m,q,x,hq,by rw[hq];exact Wmf q x d,e2,h8,hlt,by rw[k4];exact k2,by omega,by rw[ht,Xfp];exact k3,by rw[k3];exact e1⟩
end
section
theorem Whk{l:List Rw}{c v:Int}:∀(i:Nat),i<=l.length->WeB l c i=some v->(c,v)∈l
 |0,_,h=>by simp[WeB]at h
 |i+1,hi,h=>by
  unfold WeB at h;rw[WL (show i<l.length by omega)]at h;by_cases hc:l[i].1=c
  .rw[if_pos hc]at h;injection h with h;have:l[i]=(c,v):=by rw[←hc,←h]
   rw[←this];exact Xas _
  .rw[if_neg hc]at h;exact Whk i (by omega) h
theorem WiT{l:List Rw}{c v:Int}(h:Wbq l c=some v):Wa9 l=true/\(c,v)∈l:=by
 unfold Wbq at h;by_cases hr:Wa9 l=true
 .rw[if_pos hr]at h;exact⟨hr,Whk _ (Xj _) h⟩
 .rw[if_neg hr]at h;cases h
theorem WkQ(l:List Rw):∀(j c:Nat) (o:List Rw),Wgd l j c o=o++(Xfw c j).filterMap λc:Nat=>(Wbq l (c:Int)).map λv=>((c:Int),v)
 |0,c,o=>by simp[Wgd]
 |j+1,c,o=>by
  rw[Wgd,WkQ l j,List.range'_succ,List.filterMap_cons];unfold Wgc;cases h:Wbq l (c:Int)<;>simp
theorem Wkf(l:List Rw):Wdo l=(Xfw 0 8).filterMap λc:Nat=>(Wbq l (c:Int)).map λv=>((c:Int),v):=by unfold Wdo;rw[WkQ];simp
theorem Wlr{l:List Rw}{r:Rw}:r∈Wdo l↔(0<=r.1/\r.1<=7)/\Wbq l r.1=some r.2:=by
 rw[Wkf,List.mem_filterMap];constructor
 .rintro⟨c,hc,h⟩;rw[Xft]at hc;cases hl:Wbq l (c:Int)with
  |none=>rw[hl]at h;cases h
  |some v=>
   rw[hl]at h;injection h with h;subst h;exact⟨by show 0<=(c:Int)/\(c:Int)<=7;omega,hl⟩
 .rintro⟨h0,h⟩;refine⟨r.1.toNat,Xft.2 (by omega),?_⟩;rw[show((r.1.toNat:Nat):Int)=r.1 by omega,h];rfl
theorem WpJ(l:List Rw):(Wdo l).Pairwise λa b=>a.1<b.1:=by
 rw[Wkf,List.pairwise_filterMap];refine List.Pairwise.imp ?_ (List.pairwise_lt_range' (s:=0) (n:=8));intro a b eZ r hr r' bb;cases h1:Wbq l (a:Int)<;>rw[h1]at hr<;>simp at hr;cases h2:Wbq l (b:Int)<;>rw[h2]at bb<;>simp at bb;rw[←hr,←bb];simp;omega
theorem Weo(l:List Rw):(Wdo l).length<=8:=by
 rw[Wkf];exact Xaz (List.length_filterMap_le _ _) (by simp)
theorem WjE{l:List Rw}:WlP (Wdo l):=by
 intro r hr;obtain⟨h0,h1⟩:=Wlr.1 hr;obtain⟨h2,h3⟩:=WiT h1;unfold Wa9 at h2;simp only[Xh]at h2;have:=(Woj.1 h2.2) _ h3;exact⟨h0,this.2⟩
end
section
theorem Wei{α β:Type}(g:α->β)(l:List α)(i:Nat)(d:α):Xd (l.map g) i (g d)=g (l.getD i d):=by
 by_cases h:i<l.length
 .rw[WL (show i<(l.map g).length by simpa using h),WL h];simp
 .rw[Xbg,Xbg,Xbh (by simpa using h),Xbh (by simpa using h)];rfl
theorem kdP(x:Kd):x.e.1=x.phase/\x.e.2.1=x.pc/\x.e.2.2.1=x.since/\x.e.2.2.2.1=x.tries/\P4 x.e=x.pos/\P5 x.e=x.out/\P6 x.e=x.regs/\P7 x.e=x.seen/\P8 x.e=x.writes/\P9 x.e=x.marks/\P10 x.e=x.busy:=⟨rfl,rfl,rfl,rfl,rfl,rfl,rfl,rfl,rfl,rfl,rfl⟩
theorem fmP(f:Fm):f.e.1=f.rv/\f.e.2.1=f.clock/\f.e.2.2.1=f.owner/\f.e.2.2.2.1=f.lost/\P4 f.e=f.regs/\P5 f.e=f.start/\P6 f.e=f.buf/\P7 f.e=f.order/\P8 f.e=f.reads/\Q9 f.e=f.kids.map Kd.e:=⟨rfl,rfl,rfl,rfl,rfl,rfl,rfl,rfl,rfl,rfl⟩
theorem U9e(f:Fm)(k:Nat)(x:Kd):U9 (Xl (f.kids.map Kd.e) k x.e) f.e=Fm.e {f with kids:=f.kids.set k x}:=by
 unfold U9 Fm.e;rw[List.map_set]
theorem Wml{f f':Fm}{k:Nat}{x':Kd}{y:Y_KidRun}{g:Y_Family}(hy:y=x'.e)(hg:g=f'.e)(hf:f'.kids=f.kids):
  some ((U9 (Xl (f.kids.map Kd.e) k y) g,()),())=some (((Fm.put (f',x') k).e,()),()):=by
 subst hy hg;rw[←hf,U9e];rfl
theorem Wjq(m:Mm)(f:Fm)(x:Kd)(o:Opn):Wc0 m f.e x.e o=((Wd0 m f x o).1.e,(Wd0 m f x o).2.e):=by
 unfold Wc0 Wd0;have h1:P8 x.e=x.writes:=rfl;have h2:P6 f.e=f.buf:=rfl;rw[h1,h2];rcases Wbq x.writes o.2.2.1 with _|v
 .rcases ent f.buf o.2.2.1 with _|r
  .have h3:Wip x.e o.2.2.1=if x.busy then x.pb else(o.2.2.1,0,0,0):=by
    unfold Wip;have:P10 x.e=x.busy:=rfl;rw[this];cases x.busy<;>rfl
   simp only[h3];have h4:f.e.1=f.rv:=rfl;rw[h4];generalize WaD m f.rv (if x.busy then x.pb else(o.2.2.1,0,0,0))=p;by_cases e4:p.2.1=4
   .have:(p.2.1==4)=true:=by simpa using e4
    rw[if_pos e4,this];rfl
   .have:(p.2.1==4)=false:=by simpa using e4
    rw[if_neg e4,this];by_cases e3:p.2.1=3
    .have:(p.2.1==3)=true:=by simpa using e3
     rw[if_pos e3,this];rfl
    .have:(p.2.1==3)=false:=by simpa using e3
     rw[if_neg e3,this];rfl
  .simp only;have h5:x.e.2.2.1=x.since:=rfl;rw[h5];by_cases hv:r.2.2.2>x.since
   .rw[if_pos hv,decide_eq_true hv];rfl
   .rw[if_neg hv,decide_eq_false hv];rfl
 .rfl
theorem WeV(m:Mm)(f:Fm)(x:Kd)(o:Opn):(Wd0 m f x o).1.kids=f.kids:=by
 unfold Wd0;cases Wbq x.writes o.2.2.1 with
 |some v=>rfl
 |none=>
  cases ent f.buf o.2.2.1 with
  |some r=>simp only;split<;>rfl
  |none=>
   simp only;generalize WaD m f.rv _=p
   repeat' split
   all_goals rfl
variable{N:Nat}{codes:List (List Opn)}{n:Int}{f:Fm}{k:Nat}{code:List Opn}{m:Mm}{x:Kd}
theorem FOk.buf8(h:FOk codes n f):f.buf.length<=8:=by
 have:∀(l:List En) (c:Int),Ris cfE l->(∀e∈l,c<=e.1/\e.1<=7)->(l.length:Int)<=8-c\/l= []:=by
  intro l
  induction l with
  |nil=>intro c _ _;exact .inr rfl
  |cons a l ih=>
   intro c hr hb;left;have h1:=Xv.1 hr;have ha:=hb a (Xg ..);rcases ih (a.1+1) h1.2 (λe he=>⟨by have:=h1.1 e he;unfold cfE at this;omega,(hb e (Xe _ he)).2⟩)with h|h
   .rw[Xq];omega
   .subst h;simp;omega
 rcases this f.buf 0 h.bufR (λe he=>by have:=(h.bufE e he).1;omega)with h|h
 .omega
 .rw[h];simp
theorem Wis(hF:FOk codes n f)(hx:KOk code f.clock n x)(be:KC code)(hm:WaB m=true)(hn:n<=100000){o:Opn}(hA:Wg o.2.1=true)(hB:W6 o.2.2.1=true):ReadOk m f.e x.e o where
 mem:=hm
 regs:=hx.regs.len
 famr:=hF.regs.len
 rA:=by unfold Wg at hA;simpa using hA
 cB:=hB
 seen:=by have:=hx.sl;have:=hx.pc;have:=be.len;show x.seen.length<=1000;omega
 wr:=by have:=hx.wl;have:=hx.pc;have:=be.len;show x.writes.length<=1000;omega
 buf:=by have:=hF.buf8;show f.buf.length<=1000;omega
 ver:=λe he=>(hF.bufE e he).2.2.1
 since:=hx.since.1
 pc:=by have:=hx.pc;have:=be.len;show 0<=x.pc/\x.pc<=1000;omega
 tries:=by have:=hx.tries;show 0<=x.tries/\x.tries<=100000;omega
 pb:=hx.pb
theorem WbB{α:Type}{a b:Int}{x y:α}:(bif a==b then x else y)=if a=b then x else y:=by
 by_cases h:a=b
 .have:(a==b)=true:=by simpa using h
  rw[this,if_pos h];rfl
 .have:(a==b)=false:=by simpa using h
  rw[this,if_neg h];rfl
theorem WkX{α:Type}{p:Prop}[Decidable p]{x y:α}:(bif decide p then x else y)=if p then x else y:=by
 by_cases h:p
 .rw[if_pos h,decide_eq_true h];rfl
 .rw[if_neg h,decide_eq_false h];rfl
theorem Wh1(be:KC code)(hx:KOk code f.clock n x)(h0:x.phase=0)(hN:1048576<N):Zd4 N x.e code=some (((WfR x code).e,()),()):=by
 unfold Zd4 WfR;obtain⟨k0,k1,k2,k3,k4,k5,k6,k7,k8,k9,k10⟩:=kdP x;have cG:=hx.pc;have hlen:=be.len;have hM:=hx.marks h0;simp only[Wk,k9,k8,k1,WbB];by_cases hz:x.marks.length=0
 .rw[if_pos (by unfold Wc;omega),if_pos hz];rfl
 .rw[if_neg (by unfold Wc;omega),if_neg hz];obtain⟨j,q,y,e1,e2,e3,⟨hj,h8⟩,kS,bz,fP,e5,e6⟩:=Whd (d:=((0,0,[]):KM)) be.toCC (show x.pc.toNat<=code.length by omega) hM.pcs hz;have fI:x.marks.length=q.length+1:=by rw[e1];simp
  have qe:q.length<=24:=by
   have:=congrArg Xb e6;simp only[Xad]at this;have h2:=Wbe be.up j (by omega);have h3:=(WbM code j).2;omega
  have i1:Wa8 .i64 (Wc x.marks) 1=(q.length:Int):=by rw[Whe (by omega),fI];omega
  have hy:y∈x.marks:=by rw[e1];simp
  obtain⟨y1,y2,y3,y4⟩:=hM.each y hy;have g1:Xd x.marks (Xa (q.length:Int)) ((0,0,[]):KM)=y:=by rw[e1];simp
  have t1:Xcl (Xa (q.length:Int)) x.marks=x.marks.dropLast:=by rw[e1];simp
  have hQ:=hx.wl;rw[i1,Waf,decide_eq_true (show q.length<x.marks.length by omega)];simp only[cond_true,g1,t1,e2];have b1:((decide ((0:Int)<=(q.length:Int))&&decide ((q.length:Int)<=(x.marks.length:Int)))&&decide ((q.length:Int)<=((Xa (q.length:Int):Nat):Int)))=true:=by
   simp;omega
  rw[b1];simp only[cond_true];rw[WcS (by rw[y1.len];omega)];simp only[ret,Xc];rw[e3,Waf,decide_eq_true hj];have o1:Xd code (Xa ((j:Nat):Int)) ((0,0,0,0):Opn)=code[j]:=Wv hj _;have o2:opN code ((j:Nat):Int)=code[j]:=WhL hj;have hr:=WqA (be.ok j hj).1 h8;simp only[cond_true,o1,o2];rw[Wa2 hr y1.len];have b2:(decide ((0:Int)<=y.2.1)&&decide (y.2.1<=(x.writes.length:Int)))=true:=by simp;omega
  rw[b2];simp only[cond_true];rw[WmK (by rw[Xbc];omega),Wj6 (by omega) hN ⟨hj,h8⟩ bz];simp only[ret,Xc];rw[Wc4 (by have:=bz.len;omega),Xu];rfl
theorem WkE(hk:k<f.kids.length)(hm:WaB m=true)(be:KC code)(hF:FOk codes n f)(aq:codes.getD k []=code)(aT:f.kids[k]=x)(h0:x.phase=0)(hn:n<=100000)(hN:1048576<N):
  Ze6 N f.e (k:Int) code m=some (((Fm.put (Wkx m f x code) k).e,()),()):=by
 have hx:=hF.kid k hk;rw[aq,aT]at hx;obtain⟨k0,k1,k2,k3,k4,k5,k6,k7,k8,k9,k10⟩:=kdP x;obtain⟨f0,f1,f2,f3,f4,f5,f6,f7,f8,f9⟩:=fmP f;have cG:=hx.pc;have hlen:=be.len;have hQ:=hx.wl;have e2:Xd (f.kids.map Kd.e) (Xa (k:Int)) d_KidRun=x.e:=by
  have:=Wei Kd.e f.kids k {};rw[WL hk,aT]at this;exact this
 have e3:U9 (Xl (f.kids.map Kd.e) (Xa (k:Int)) x.e) f.e=f.e:=by
  rw[Xu,U9e,←aT,List.set_getElem_self]
 unfold Ze6 Wkx;simp only[Wk,f9,Xad];rw[Waf,decide_eq_true hk];simp only[cond_true,e2,e3,k1,k6,k8,k9,WkX,WbB,show Wc code=(code.length:Int)from rfl];by_cases cI:x.pc>=code.length
 .rw[if_pos cI,if_pos cI];rw[Xu];exact Wml rfl rfl rfl
 .rw[if_neg cI,if_neg cI];obtain⟨j,hj,ej,eo⟩:=Wnu (l:=code) cG.1 (by omega);have nE:Xd code (Xa x.pc) ((0,0,0,0):Opn)=opN code x.pc:=rfl;have dG:inb x.pc code.length=true:=by rw[ej,Waf];exact decide_eq_true hj
  rw[dG];obtain⟨ok,o1,fx⟩:=be.ok j hj;have cW:=be.k10 j hj;simp only[cond_true,nE];rw[←eo]at ok o1 cW;generalize opN code x.pc=o at*;have fB:=hx.regs.len;rw[Xu];rw[Wc4 (show 0<=x.pc/\x.pc<=1000000 by omega)];by_cases h5:o.1=5
  .rw[if_pos h5,if_pos h5];have:=WqO ok h5;have iz:=Wis hF hx be hm hn this.1 this.2;have e4:(Q9 f.e)[k]'(by rw[f9];simpa using hk)=x.e:=by
    simp only[f9,List.getElem_map,aT]
   have:=Wi4 (m:=m) (o:=o) (f:=f.e) (k:=k) (by rw[f9];simpa using hk) (by rw[e4];exact iz) hN;rw[this];simp only[Xc,e4,Wjq];unfold Wq0;have eQ:=WeV m f x o;rw[show Q9 (Wd0 m f x o).1.e=f.kids.map Kd.e by rw[←eQ];rfl];exact Wml rfl rfl eQ
  .rw[if_neg h5,if_neg h5];by_cases ba:o.1=10
   .rw[if_pos ba,if_pos ba,Wh1 be hx h0 hN];exact Wml rfl rfl rfl
   .rw[if_neg ba,if_neg ba];by_cases h6:o.1=6
    .rw[if_pos h6,if_pos h6];rw[Wa2 (WqT ok h6).2 fB,Ws (by simp;omega)];exact Wml rfl rfl rfl
    .rw[if_neg h6,if_neg h6];by_cases h7:o.1=7
     .rw[if_pos h7,if_pos h7];have h:=Wq2 ok h7;rw[Wa2 h.1 fB,W3 (a:=x.pc) (b:=o.2.2.1) (by unfold I64;omega),Wc4 (a:=x.pc+o.2.2.1) (by omega)];by_cases hg:Xd x.regs (Xa o.2.1) 0=0
      .rw[if_pos hg,if_pos (show WeW x.regs o.2.1 0=0 from hg)];simp only[cond_true];exact Wml rfl rfl rfl
      .rw[if_neg hg,if_neg (show¬WeW x.regs o.2.1 0=0 from hg)];simp only[cond_true];exact Wml rfl rfl rfl
     .rw[if_neg h7,if_neg h7];by_cases h8:o.1=8
      .rw[if_pos h8,if_pos h8];rw[WcS (by omega)];have gw:x.marks.length<=24:=by
        have:=congrArg Xb (hx.marks h0).pcs;simp only[Xad]at this;have h2:=Wbe be.up x.pc.toNat (by omega);have h3:=(WbM code x.pc.toNat).2;omega
       simp only[ret,Xc];rw[Ws (by simp;omega)];exact Wml rfl rfl rfl
      .rw[if_neg h8,if_neg h8];by_cases h9:o.1=9
       .rw[if_pos h9,if_pos h9];have hM:=hx.marks h0;have hz:x.marks.length≠0:=by
         intro hz;have h1:=congrArg Xb hM.pcs;simp only[Xad,hz]at h1;have h2:=Wbe be.up j (by omega);have h3:=be.up j hj;rw[Wam hj,WhK (by rw[←eo];exact h9)]at h3;rw[ej,Xu]at h1;omega
        obtain⟨i,q,y,e1,kT,kU,⟨hi,jH⟩,kS,bz,fP,e5,e6⟩:=Whd (d:=((0,0,[]):KM)) be.toCC (show x.pc.toNat<=code.length by omega) hM.pcs hz;have fI:x.marks.length=q.length+1:=by rw[e1];simp
        have gw:x.marks.length<=24:=by
         have:=congrArg Xb (hx.marks h0).pcs;simp only[Xad]at this;have h2:=Wbe be.up x.pc.toNat (by omega);have h3:=(WbM code x.pc.toNat).2;omega
        have i1:Wa8 .i64 (Wc x.marks) 1=(q.length:Int):=by rw[Whe (by omega),fI];omega
        have g1:Xd x.marks (Xa (q.length:Int)) ((0,0,[]):KM)=y:=by rw[e1];simp
        have t1:Xcl (Xa (q.length:Int)) x.marks=x.marks.dropLast:=by rw[e1];simp
        rw[i1,Waf,decide_eq_true (show q.length<x.marks.length by omega)];have b1:(decide ((0:Int)<=(q.length:Int))&&decide ((q.length:Int)<=(x.marks.length:Int)))=true:=by simp;omega
        rw[b1];simp only[cond_true,g1,t1,kT];rw[kU,Waf,decide_eq_true hi];have o1:Xd code (Xa ((i:Nat):Int)) ((0,0,0,0):Opn)=opN code (i:Int):=rfl;have hr:=WqA (be.ok i hi).1 jH;rw[←WhL hi]at hr;simp only[cond_true,o1];rw[Wa2 hr fB];exact Wml rfl rfl rfl
       .rw[if_neg h9,if_neg h9];rw[Wiv hN ok (by omega) (by omega) hx.regs];exact Wml rfl rfl rfl
end
section
theorem WfF{p:Pb}:Wiq p=true↔(0<=p.1/\p.1<=7)/\(0<=p.2.1/\p.2.1<=4)/\(0<=p.2.2.1/\p.2.2.1<=1000000)/\0<=p.2.2.2/\p.2.2.2<=65535:=by
 unfold Wiq W6 Waz;simp only[Xh,decide_eq_true_eq]
theorem Wfj{c:Int}{w:Wd}:Wiy c w=true↔(0<=w.1/\w.1<=65535)/\(0<=w.2.1/\w.2.1<=c)/\0<=w.2.2/\w.2.2<=99:=by
 unfold Wiy Waz;simp only[Xh,decide_eq_true_eq]
theorem Wnf{m:Mm}(h:WaB m=true){c:Int}(hc:0<=c/\c<=7):Wiy m.1 (WeW m.2 c (0,0,0))=true:=by
 obtain⟨h8,h0,h1,hw⟩:=WV h;unfold WeW;rw[WL (show c.toNat<m.2.length by omega)];exact hw _ (Xas _)
theorem WmN{m:Mm}{rv:Int}{p:Pb}(hm:WaB m=true)(hp:Wiq p=true):Wiq (WaD m rv p)=true/\(WaD m rv p).1=p.1:=by
 have bU:=WfF.1 hp;have hw:=Wnf hm bU.1;rw[Wfj]at hw;obtain⟨h8,h0,h1,_⟩:=WV hm;unfold WaD;simp only[WbB,WkX];have qf:Wiy m.1 (Xd m.2 (Xa p.1) (0,0,0))=true:=Wnf hm bU.1;rw[Wfj]at qf;refine⟨?_,?_⟩
 .rw[WfF]
  repeat' split
  all_goals(try simp only);omega
 .repeat' split
  all_goals rfl
section
variable{code:List Opn}{pc dv wl lD:Nat}{ms q:List KM}{y:KM}{c c' n n':Int}{x:Kd}{f:Fm}{m:Mm}{codes:List (List Opn)}{k:Nat}
theorem KMk.mono(h:KMk code pc ms wl)(hs:stk code dv=stk code pc)(hw:wl<=lD):KMk code dv ms lD:=
 ⟨by rw[hs];exact h.pcs,λq hq=>by have:=h.each q hq;exact⟨this.1,this.2.1,this.2.2.1,by omega⟩,h.up⟩
theorem KMk.begin(h:KMk code pc ms wl)(hp:pc<code.length)(h8:code[pc].1=8){regs:List Int}(hr:Vals 4 regs)(hw:wl<=pc):KMk code (pc+1) (ms++ [((pc:Int),(wl:Int),regs)]) wl:=by
 refine⟨?_,?_,?_⟩
 .rw[WiE hp h8,Xo,Xo,h.pcs];rfl
 .intro q hq;rcases Xk.1 hq with hq|hq
  .exact h.each q hq
  .rw[Xab]at hq;subst hq;exact⟨hr,by simp,by simpa using hw,by simp⟩
 .refine Xac.2 ⟨h.up,Xbi _ _,λa ha b hb=>?_⟩;rw[Xab]at hb;subst hb;exact(h.each a ha).2.2.2
theorem KMk.drop(h:KMk code pc ms wl)(qg:ms=q++ [y])(hs:stk code dv=(stk code pc).dropLast)(hw:y.2.1<=lD):KMk code dv q lD:=by
 subst qg;have h1:=h.pcs;refine⟨?_,λa ha=>?_,(Xac.1 h.up).1⟩
 .rw[hs,List.map_dropLast,←h1,Xo];simp
 .have h2:=h.each a (List.mem_append_left _ ha);have h3:=(Xac.1 h.up).2.2 a ha y (by simp);exact⟨h2.1,h2.2.1,h2.2.2.1,by omega⟩
theorem KOk.wk(h:KOk code c n x)(hc:c<=c')(hn:n<=n'):KOk code c' n' x:=
 {h with since:=by have:=h.since;omega,tries:=by have:=h.tries;omega}
theorem Wk4(h:KOk code c n x)(hc:c=f.clock)(hf:Vals 4 f.regs)(h0:0<=f.clock):KOk code c (n+1) (f.again x) where
 pc:=⟨Xcf _,by show(0:Int)<=_;omega⟩
 regs:=hf
 rows:=λr hr=>by cases hr
 wl:=Xcf _
 sl:=Xcf _
 since:=by show 0<=f.clock/\f.clock<=c;omega
 tries:=by have:=h.tries;show 0<=x.tries+1/\x.tries+1<=n+1;omega
 seen:=λe he=>by cases he
 marks:=λ_=>⟨by show([]:List KM).map _=(stk code 0).map _;rfl,(λq hq=>by cases hq),List.Pairwise.nil⟩
 pos:=⟨Xcf _,Xcf _⟩
 pb:=λh=>by cases h
 phase:=by show(0:Int)<=0/\(0:Int)<=3;omega
 out:=by show(0:Int)<=0/\(0:Int)<=2;omega
theorem KMk.len(hc:CC code)(h:KMk code pc ms wl)(hp:pc<=code.length):(ms.length:Int)=dep code pc:=by
 have:=congrArg Xb h.pcs;simp only[Xad]at this;rw[this,Wbe hc.up pc hp]
theorem KOk.on(dx:CC code)(h:KOk code c n x)(h0:x.phase=0){i:Nat}(hi:i<code.length)(cG:x.pc=i){regs:List Int}{seen:List En}{writes:List Rw}{marks:List KM}{busy:Bool}{pb:Pb}{dv:Nat}(hp:dv<=code.length)(hlt:i<dv)(hr:Vals 4 regs)(hrow:WlP writes)(hQ:writes.length<=x.writes.length+1)(hsl:seen.length<=x.seen.length+1)
  (hs:∀e∈seen,(0<=e.1/\e.1<=7)/\(0<=e.2.1/\e.2.1<=65535)/\ -1<=e.2.2/\e.2.2<=x.since) (hse:x.seen.length<=seen.length) (hm:KMk code dv marks writes.length) (hb:busy=true->Wiq pb=true):
  KOk code c n {x with regs:=regs,seen:=seen,writes:=writes,marks:=marks,busy:=busy,pb:=pb,pc:=(dv:Int)}:=
 {h with
  pc:=by show(0:Int)<=(dv:Int)/\(dv:Int)<=_;omega
  regs:=hr
  rows:=hrow
  wl:=by have:=h.wl;show(writes.length:Int)<=(dv:Int);omega
  sl:=by have:=h.sl;show(seen.length:Int)<=(dv:Int);omega
  seen:=hs
  marks:=λ_=>by show KMk code ((dv:Nat):Int).toNat marks writes.length;rw[Xu];exact hm
  pos:=by have:=h.pos;show 0<=x.pos/\x.pos<=(seen.length:Int);omega
  pb:=hb}
theorem WoV(dx:CC code)(hF:FOk codes n f)(h:KOk code f.clock n x)(h0:x.phase=0){i:Nat}(hi:i<code.length)(cG:x.pc=i)(h5:code[i].1=5)(hm:WaB m=true):
  KOk code f.clock (n+1) (Wd0 m f x code[i]).2/\((Wd0 m f x code[i]).1=f\/(Wd0 m f x code[i]).1={f with lost:=true}):=by
 have bn:=WqO (dx.ok i hi).1 h5;have hB:0<=code[i].2.2.1/\code[i].2.2.1<=7:=by have:=bn.2;unfold W6 at this;simpa using this
 have hM:=h.marks h0;rw[cG,Xu]at hM;have bT:stk code (i+1)=stk code i:=Wi3 hi (by omega) (by omega);have dq:x.pc+1=((i+1:Nat):Int):=by omega
 unfold Wd0;cases hl:Wbq x.writes code[i].2.2.1 with
 |some v=>
  have hv:=h.rows _ (WiT hl).2;refine⟨?_,.inl rfl⟩;simp only[dq];exact(KOk.on dx h h0 hi cG (by omega) (by omega) (h.regs.set _ hv.2) h.rows (by omega) (by omega) h.seen (by omega) (hM.mono bT (by omega)) h.pb).wk (by omega) (by omega)
 |none=>
  simp only;cases he:ent f.buf code[i].2.2.1 with
  |some r=>
   simp only;have hr:=WdO he;have jw:r.2∈f.buf:=by
    have:=hr.2.2.2;exact List.mem_of_getElem? this
   have ew:=hF.bufE _ jw;split
   .exact⟨Wk4 h rfl hF.regs hF.clock.1,.inl rfl⟩
   .refine⟨?_,.inl rfl⟩;simp only[dq];refine(KOk.on dx h h0 hi cG (by omega) (by omega) (h.regs.set _ ew.2.1) h.rows (by omega) (by simp) (λe eA=>?_) (by simp) (hM.mono bT (by omega)) h.pb).wk (by omega) (by omega);rcases Xk.1 eA with eA|eA
    .exact h.seen e eA
    .rw[Xab]at eA;subst eA;exact⟨ew.1,ew.2.1,by omega,by omega⟩
  |none=>
   simp only;have jJ:Wiq (if x.busy=true then x.pb else(code[i].2.2.1,0,0,0))=true:=by
    split
    .exact h.pb ‹_›
    .rw[WfF];simp only;omega
   have bP:=WmN (rv:=f.rv) hm jJ;generalize WaD m f.rv (if x.busy=true then x.pb else(code[i].2.2.1,0,0,0))=p at*;have hp:=WfF.1 bP.1;split
   .refine⟨?_,.inr rfl⟩;exact KOk.wk (n:=n) {h with pb:=λ_=>bP.1} (by omega) (by omega)
   .split
    .refine⟨?_,.inl rfl⟩;simp only[dq];refine(KOk.on dx h h0 hi cG (by omega) (by omega) (h.regs.set _ hp.2.2.2) h.rows (by omega) (by simp) (λe eA=>?_) (by simp) (hM.mono bT (by omega)) (λh=>by cases h)).wk (by omega) (by omega);rcases Xk.1 eA with eA|eA
     .exact h.seen e eA
     .rw[Xab]at eA;subst eA;exact⟨hB,hp.2.2.2,by simp,by have:=h.since;simp only;omega⟩
    .refine⟨?_,.inl rfl⟩;exact KOk.wk (n:=n) {h with pb:=λ_=>bP.1} (by omega) (by omega)
theorem WpR(be:KC code)(hF:FOk codes n f)(h:KOk code f.clock n x)(h0:x.phase=0)(hm:WaB m=true):
  KOk code f.clock (n+1) (Wkx m f x code).2/\((Wkx m f x code).1=f\/(Wkx m f x code).1={f with lost:=true}):=by
 have dx:=be.toCC;unfold Wkx;split
 .refine⟨?_,.inl rfl⟩;exact KOk.wk (n:=n) {h with marks:=λh=>by(change (1:Int)=0 at h;omega),phase:=by(show(0:Int)<=1/\(1:Int)<=3;omega),out:=by(show(0:Int)<=1/\(1:Int)<=2;omega)} (by omega) (by omega)
 .obtain⟨i,hi,cG,ho⟩:=Wnu (l:=code) h.pc.1 (by have:=h.pc;omega);simp only[ho];obtain⟨ok,o1,fx⟩:=be.ok i hi;have cW:=be.k10 i hi;have hM:=h.marks h0;rw[cG,Xu]at hM;have dq:x.pc+1=((i+1:Nat):Int):=by omega
  have hQ:x.writes.length<=i:=by have:=h.wl;omega
  split
  .exact WoV dx hF h h0 hi cG ‹_› hm
  .split
   .refine⟨?_,.inl rfl⟩;unfold WfR;split
    .refine KOk.wk (n:=n) {h with rows:=(λr hr=>by cases hr),wl:=by(have:=h.pc;show(0:Int)<=x.pc;omega),marks:=λh=>by(change (1:Int)=0 at h;omega),phase:=by(show(0:Int)<=1/\(1:Int)<=3;omega),out:=by(show(0:Int)<=2/\(2:Int)<=2;omega)} (by omega) (by omega)
    .obtain⟨j,q,y,e1,e2,e3,⟨hj,h8⟩,kS,bz,fP,e5,e6⟩:=Whd (d:=((0,0,[]):KM)) dx (show i<=code.length by omega) hM.pcs ‹_›;obtain⟨y1,y2,y3,y4⟩:=hM.each y (by rw[e1];simp);simp only[e2,e3,Xu,←Int.natCast_succ];have hl:=bz.len;have ht:(Xcl y.2.1.toNat x.writes).length=y.2.1.toNat:=by rw[Xbc];omega
     refine(KOk.on dx h h0 hi cG (dv:=Wlu code j+1) (by omega) (by omega) (y1.set _ (by omega)) (λr hr=>h.rows r (List.mem_of_mem_take hr)) (by omega) (by omega) h.seen (by omega) ?_ h.pb).wk (by omega) (by omega);rw[show x.marks.dropLast=q by rw[e1];simp];exact hM.drop e1 (by rw[bz.st];exact e5) (by rw[ht];omega)
   .split
    .refine⟨?_,.inl rfl⟩;have hk:=WqT ok ‹_›;have bT:stk code (i+1)=stk code i:=Wi3 hi (by omega) (by omega);simp only[dq];refine(KOk.on dx h h0 hi cG (by omega) (by omega) h.regs (λr hr=>?_) (by simp) (by omega) h.seen (by omega) (hM.mono bT (by simp)) h.pb).wk (by omega) (by omega);rcases Xk.1 hr with hr|hr
     .exact h.rows r hr
     .rw[Xab]at hr;subst hr;have:=hk.1;unfold W6 at this;exact⟨by simpa using this,h.regs.get _⟩
    .split
     .refine⟨?_,.inl rfl⟩;obtain⟨s1,s2⟩:=be.sk i hi ‹_›;have hk:=Wq2 ok ‹_›;have bT:stk code (i+1)=stk code i:=Wi3 hi (by omega) (by omega);have nF:stk code (i+1+code[i].2.2.1.toNat)=stk code i:=by rw[←bT];exact WoE (by omega) s1 s2
      by_cases hg:WeW x.regs code[i].2.1 0=0
      .simp only[if_pos hg,show x.pc+code[i].2.2.1+1=((i+1+code[i].2.2.1.toNat:Nat):Int) by omega];exact(KOk.on dx h h0 hi cG s1 (by omega) h.regs h.rows (by omega) (by omega) h.seen (by omega) (hM.mono nF (by omega)) h.pb).wk (by omega) (by omega)
      .simp only[if_neg hg,dq];exact(KOk.on dx h h0 hi cG (by omega) (by omega) h.regs h.rows (by omega) (by omega) h.seen (by omega) (hM.mono bT (by omega)) h.pb).wk (by omega) (by omega)
     .split
      .refine⟨?_,.inl rfl⟩;simp only[dq];rw[cG];exact(KOk.on dx h h0 hi cG (by omega) (by omega) h.regs h.rows (by omega) (by omega) h.seen (by omega) (hM.begin hi ‹_› h.regs hQ) h.pb).wk (by omega) (by omega)
      .split
       .refine⟨?_,.inl rfl⟩;have hz:x.marks.length≠0:=by
         have h1:=hM.len dx (by omega);have h3:=dx.up i hi;rw[Wam hi,WhK ‹_›]at h3;omega
        obtain⟨j,q,y,e1,e2,e3,⟨hj,h8⟩,kS,bz,fP,e5,e6⟩:=Whd (d:=((0,0,[]):KM)) dx (show i<=code.length by omega) hM.pcs hz;obtain⟨y1,y2,y3,y4⟩:=hM.each y (by rw[e1];simp);simp only[dq];refine(KOk.on dx h h0 hi cG (by omega) (by omega) (h.regs.set _ (by omega)) h.rows (by omega) (by omega) h.seen (by omega) ?_ h.pb).wk (by omega) (by omega);rw[show x.marks.dropLast=q by rw[e1];simp];exact hM.drop e1 (Wju hi ‹_›) (by omega)
       .refine⟨?_,.inl rfl⟩;have bT:stk code (i+1)=stk code i:=Wi3 hi (by omega) (by omega);simp only[dq];exact(KOk.on dx h h0 hi cG (by omega) (by omega) (WoI ok (by omega) (by omega) h.regs) h.rows (by omega) (by omega) h.seen (by omega) (hM.mono bT (by omega)) h.pb).wk (by omega) (by omega)
end
end
end Go.Sx
