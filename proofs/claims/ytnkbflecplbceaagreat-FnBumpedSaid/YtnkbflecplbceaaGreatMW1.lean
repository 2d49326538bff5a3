/- Plain laws of the Lean functions. -/
import Derived.Test.YtnkbflecplbceaaGreatT2
open Option renaming bind_some→Xc
open Nat renaming le_refl→Xn,add_assoc→Xas,add_comm→Xcq,zero_add→Xaw,le_trans→Xcr,add_zero→Xat,and_le_right→Xgy
open List renaming mem_cons_self→Xi,mem_cons_of_mem→Xf,length_cons→Xr,take_succ_eq_append_getElem→Xcj,map_append→Xp,getD→Xd,take_of_length_le→Xdb,length→Xa,length_append→Xz,length_dropLast→Xee,append_inj'→Xen,eq_nil_of_length_eq_zero→Xw,dropLast_concat→Xev,append→Xe,append_eq→Xaf,all_eq_true→Xae,mem_cons→Xo,getElem_mem→Xx,getD_eq_getElem?_getD→Xbc,getElem?_eq_none→Xbl,length_set→Xaa,set_set→Xdo,take→Xau,length_take→Xap,set→Xl,pairwise_cons→Xad,mergeSort_perm→Xgj,getElem_of_mem→Xaq,pairwise_iff_getElem→Xav,getElem_set→Xam,mem_iff_getElem→Xgg,mem_singleton→Xac,range→Xbt,map_cons→Xai,map_nil→Xck,range'→Xgx,mem_range'_1→Xgu,length_map→Xaj
open Bool renaming false_or→Xcs,or_eq_true→Xbs,and_eq_true→Xh,not_eq_true'→Xao,not_eq_true→Xft,not_true→Xab,toNat_false→Xdq,false_and→Xcu,true_and→Xbq,toNat_true→Xha,eq_false_iff→Xby,or_eq_false_iff→Xdy,not_eq_false'→Xfe
open Int renaming toNat_natCast→Xj,toNat→Xb,add_zero→Xfr,tmod_eq_emod_of_nonneg→Xbr,eq_ofNat_of_zero_le→Xfw
namespace Go.Sx
set_option linter.unusedVariables false
set_option linter.unusedSimpArgs false
section
def Wbi(v:Int):Bool:=decide (0<=v)&&decide (v<=65535)
theorem Wdz{N:Nat}{x a b:Int}:Zbo N x a b=ret (decide (a<=x)&&decide (x<=b)):=by
 unfold Zbo;by_cases h:a<=x<;>simp[h]
theorem Wk{N:Nat}{x a b:Int}:Zm N x a b=ret (decide (a<=x)&&decide (x<=b)):=by
 unfold Zm;by_cases h:a<=x<;>simp[h]
theorem Wcx{α:Type}{p:α->Bool}(l:List α):(l.any λx=>!p x)= !l.all p:=by
 induction l with
 |nil=>rfl
 |cons x l ih=>simp[ih,Bool.not_and]
abbrev Rw:=Int×Int
def W5(v:Int):Bool:=decide (0<=v)&&decide (v<=7)
def Wn7(r:Rw):Bool:=W5 r.1&&Wbi r.2
def Wbg(l:List Rw):Bool:=decide (l.length<=300)&&l.all Wn7
def WeD(l:List Int):Bool:=decide (l.length=8)&&l.all Wbi
theorem WM{N:Nat}{v:Int}:Zg8 N v=ret (Wbi v):=by
 unfold Zg8;simp only[Wdz,ret,Xc];rfl
theorem Wl{N:Nat}{v:Int}:Zaz N v=ret (Wbi v):=by
 unfold Zaz;simp only[Wk,ret,Xc];rfl
theorem WL{N:Nat}{v:Int}:Zgp N v=ret (W5 v):=by
 unfold Zgp;simp only[Wdz,ret,Xc];rfl
theorem Wj{N:Nat}{v:Int}:Zba N v=ret (W5 v):=by
 unfold Zba;simp only[Wk,ret,Xc];rfl
theorem WmZ{N:Nat}{l:List Int}(hl:l.length<=1048576)(hN:1048576<N):Zhw N l=ret (WeD l):=by
 unfold Zhw WeD;by_cases h:l.length=8
 .have e:(Wb l !=8)=false:=by simp[Wb,h]
  rw[e];simp only[cond_false];have h1:=WE (l:=l) (V:=Unit) (R:=Unit×Ko) (lp:=λn j v=>Zc3 N l (some ((),(false,()))) (λi8 t9=>some ((),(true,()))) n j) (n:=N) (by omega)
   (body:=λj x v k=>bif !Wbi x then some ((),(false,()))else k v) (K:=λ_ v=>some ((),(true,())))
   (λn i v hi=>by simp only[Zc3,Waf hi,Wn hi,Wq hi,Wg (show i<4611686018427387904 by omega),cond_true,WM,ret,Xc])
   (λn v=>by simp only[Zc3,Waw (Xn l.length),cond_false]) ()
  refine h1.trans ?_;rw[WaE (p:=λx=>!Wbi x) (E:=λ_=>some ((),(false,()))) l 0 () (λj x v k _=>rfl),Wcx];cases l.all Wbi<;>simp[h]
 .have e:(Wb l !=8)=true:=by simp[Wb];omega
  rw[e];simp[h]
theorem Whp{N:Nat}{l:List Int}(hl:l.length<=1048576)(hN:1048576<N):Zak N l 8=ret (WeD l):=by
 unfold Zak WeD;have h1:=WE (l:=l) (V:=Unit) (R:=Unit×Ko) (lp:=λn j v=>Za2 N l 8 (some ((),(false,()))) (λi8 t9=>some ((),((Wb l)==(8:Int),()))) n j) (n:=N) (by omega)
  (body:=λj x v k=>bif !Wbi x then some ((),(false,()))else k v) (K:=λ_ v=>some ((),((Wb l)==(8:Int),())))
  (λn i v hi=>by simp only[Za2,Waf hi,Wn hi,Wq hi,Wg (show i<4611686018427387904 by omega),cond_true,Wl,ret,Xc])
  (λn v=>by simp only[Za2,Waw (Xn l.length),cond_false]) ()
 refine h1.trans ?_;rw[WaE (p:=λx=>!Wbi x) (E:=λ_=>some ((),(false,()))) l 0 () (λj x v k _=>rfl),Wcx];have e:((Wb l)==(8:Int))=decide (l.length=8):=by
  by_cases h:l.length=8
  .simp[Wb,h]
  .simp[Wb,h];omega
 rw[e];cases l.all Wbi<;>simp
theorem Wcu{N:Nat}{l:List Rw}(hl:l.length<=1048576)(hN:1048576<N):Zcv N l=ret (Wbg l):=by
 unfold Zcv Wbg;have h1:=WE (l:=l) (V:=Unit) (R:=Unit×Ko) (lp:=λn j v=>Zc5 N l (some ((),(false,()))) (λi8 t9=>some ((),(decide ((Wb l)<=(300:Int)),()))) n j) (n:=N) (by omega)
  (body:=λj x v k=>bif !Wn7 x then some ((),(false,()))else k v) (K:=λ_ v=>some ((),(decide ((Wb l)<=(300:Int)),())))
  (λn i v hi=>by
   simp only[Zc5,Waf hi,Wn hi,Wq hi,Wg (show i<4611686018427387904 by omega),cond_true,Wl,Wj,ret,Xc,Wn7];cases W5 l[i].1<;>rfl)
  (λn v=>by simp only[Zc5,Waw (Xn l.length),cond_false]) ()
 refine h1.trans ?_;rw[WaE (p:=λx=>!Wn7 x) (E:=λ_=>some ((),(false,()))) l 0 () (λj x v k _=>rfl),Wcx];have e:decide (Wb l<=300)=decide (l.length<=300):=by apply decide_eq_decide.2;simp[Wb];omega
 rw[e];cases l.all Wn7<;>simp
theorem Wtp{α:Type}{l:List α}(h:l.length<=1048576):Wy l.length=true:=by unfold Wy;simp;omega
end
section
abbrev Opn:=Int×Int×Int×Int
def Wh(v:Int):Bool:=decide (0<=v)&&decide (v<=3)
def WbZ(v:Int):Bool:=decide (0<=v)&&decide (v<=7)
theorem WS{N:Nat}{v:Int}:Zr N v=ret (Wh v):=by
 unfold Zr;simp only[Wdz,ret,Xc];rfl
theorem WU{N:Nat}{v:Int}:Zs N v=ret (Wh v):=by
 unfold Zs;simp only[Wk,ret,Xc];rfl
theorem WR{N:Nat}{v:Int}:Za4 N v=ret (WbZ v):=by
 unfold Za4;simp only[Wk,ret,Xc];rfl
theorem Wbx{v:Int}:(decide ((0:Int)<=v)&&decide (v<=7))=WbZ v:=rfl
def Wap(o:Opn):Bool:=
 bif o.1==1 then Wh o.2.1&&Wbi o.2.2.1&&(o.2.2.2==(0:Int))else
 bif o.1==2 then Wh o.2.1&&Wh o.2.2.1&&Wh o.2.2.2 else
 bif o.1==3 then Wh o.2.1&&Wh o.2.2.1&&Wh o.2.2.2 else
 bif o.1==4 then Wh o.2.1&&Wh o.2.2.1&&Wh o.2.2.2 else
 bif o.1==5 then Wh o.2.1&&W5 o.2.2.1&&(o.2.2.2==(0:Int))else
 bif o.1==6 then W5 o.2.1&&Wh o.2.2.1&&(o.2.2.2==(0:Int))else
 bif o.1==7 then Wh o.2.1&&(decide (1<=o.2.2.1)&&decide (o.2.2.1<=20))&&(o.2.2.2==(0:Int))else
 bif o.1==8 then Wh o.2.1&&(o.2.2.1==(0:Int))&&(o.2.2.2==(0:Int))else
 bif o.1==9 then(o.2.1==(0:Int))&&(o.2.2.1==(0:Int))&&(o.2.2.2==(0:Int))else
 bif o.1==10 then(o.2.1==(0:Int))&&(o.2.2.1==(0:Int))&&(o.2.2.2==(0:Int))else
 bif o.1==11 then(o.2.1==(0:Int))&&(o.2.2.1==(0:Int))&&(o.2.2.2==(0:Int))else
 bif o.1==12 then WbZ o.2.1&&Wh o.2.2.1&&Wh o.2.2.2 else
 bif o.1==13 then Wh o.2.1&&WbZ o.2.2.1&&(o.2.2.2==(0:Int))else
 bif o.1==14 then WbZ o.2.1&&Wh o.2.2.1&&(o.2.2.2==(0:Int))else
 bif o.1==15 then Wh o.2.1&&(o.2.2.1==(0:Int))&&(o.2.2.2==(0:Int))else
 bif o.1==16 then Wh o.2.1&&(o.2.2.1==(0:Int))&&(o.2.2.2==(0:Int))else
 false
theorem Wuf{N:Nat}{a b c:Int}:Zp N (1,a,b,c)=ret (Wap (1,a,b,c)):=by
 have h:Zp N (1,a,b,c)=((Zr N a).bind λo=>bif o.2.1 then((Zg8 N b).bind λo=>bif o.2.1 then some ((),(c==(0:Int),()))else some ((),(false,())))else some ((),(false,()))):=by kernel_rfl
 have h2:Wap (1,a,b,c)=(Wh a&&Wbi b&&(c==(0:Int))):=rfl;rw[h,h2];simp only[WS,WM,WL,Wdz,Wbx,ret,Xc];cases Wh a<;>cases Wbi b<;>rfl
theorem Wtv{N:Nat}{a b c:Int}:Zp N (2,a,b,c)=ret (Wap (2,a,b,c)):=by
 have h:Zp N (2,a,b,c)=((Zr N a).bind λo=>bif o.2.1 then((Zr N b).bind λo=>bif o.2.1 then((Zr N c).bind λo=>some ((),(o.2.1,())))else some ((),(false,())))else some ((),(false,()))):=by kernel_rfl
 have h2:Wap (2,a,b,c)=(Wh a&&Wh b&&Wh c):=rfl;rw[h,h2];simp only[WS,WM,WL,Wdz,Wbx,ret,Xc];cases Wh a<;>cases Wh b<;>rfl
theorem WtJ{N:Nat}{a b c:Int}:Zp N (3,a,b,c)=ret (Wap (3,a,b,c)):=by
 have h:Zp N (3,a,b,c)=((Zr N a).bind λo=>bif o.2.1 then((Zr N b).bind λo=>bif o.2.1 then((Zr N c).bind λo=>some ((),(o.2.1,())))else some ((),(false,())))else some ((),(false,()))):=by kernel_rfl
 have h2:Wap (3,a,b,c)=(Wh a&&Wh b&&Wh c):=rfl;rw[h,h2];simp only[WS,WM,WL,Wdz,Wbx,ret,Xc];cases Wh a<;>cases Wh b<;>rfl
theorem Wt1{N:Nat}{a b c:Int}:Zp N (4,a,b,c)=ret (Wap (4,a,b,c)):=by
 have h:Zp N (4,a,b,c)=((Zr N a).bind λo=>bif o.2.1 then((Zr N b).bind λo=>bif o.2.1 then((Zr N c).bind λo=>some ((),(o.2.1,())))else some ((),(false,())))else some ((),(false,()))):=by kernel_rfl
 have h2:Wap (4,a,b,c)=(Wh a&&Wh b&&Wh c):=rfl;rw[h,h2];simp only[WS,WM,WL,Wdz,Wbx,ret,Xc];cases Wh a<;>cases Wh b<;>rfl
theorem Wtw{N:Nat}{a b c:Int}:Zp N (5,a,b,c)=ret (Wap (5,a,b,c)):=by
 have h:Zp N (5,a,b,c)=((Zr N a).bind λo=>bif o.2.1 then((Zgp N b).bind λo=>bif o.2.1 then some ((),(c==(0:Int),()))else some ((),(false,())))else some ((),(false,()))):=by kernel_rfl
 have h2:Wap (5,a,b,c)=(Wh a&&W5 b&&(c==(0:Int))):=rfl;rw[h,h2];simp only[WS,WM,WL,Wdz,Wbx,ret,Xc];cases Wh a<;>cases W5 b<;>rfl
theorem Wtt{N:Nat}{a b c:Int}:Zp N (6,a,b,c)=ret (Wap (6,a,b,c)):=by
 have h:Zp N (6,a,b,c)=((Zgp N a).bind λo=>bif o.2.1 then((Zr N b).bind λo=>bif o.2.1 then some ((),(c==(0:Int),()))else some ((),(false,())))else some ((),(false,()))):=by kernel_rfl
 have h2:Wap (6,a,b,c)=(W5 a&&Wh b&&(c==(0:Int))):=rfl;rw[h,h2];simp only[WS,WM,WL,Wdz,Wbx,ret,Xc];cases W5 a<;>cases Wh b<;>rfl
theorem Wtk{N:Nat}{a b c:Int}:Zp N (7,a,b,c)=ret (Wap (7,a,b,c)):=by
 have h:Zp N (7,a,b,c)=((Zr N a).bind λo=>bif o.2.1 then((Zbo N b 1 20).bind λo=>bif o.2.1 then some ((),(c==(0:Int),()))else some ((),(false,())))else some ((),(false,()))):=by kernel_rfl
 have h2:Wap (7,a,b,c)=(Wh a&&(decide (1<=b)&&decide (b<=20))&&(c==(0:Int))):=rfl;rw[h,h2];simp only[WS,WM,WL,Wdz,Wbx,ret,Xc];cases Wh a<;>cases(decide (1<=b)&&decide (b<=20))<;>rfl
theorem Wtg{N:Nat}{a b c:Int}:Zp N (8,a,b,c)=ret (Wap (8,a,b,c)):=by
 have h:Zp N (8,a,b,c)=((Zr N a).bind λo=>bif o.2.1 then(bif b==(0:Int)then some ((),(c==(0:Int),()))else some ((),(false,())))else some ((),(false,()))):=by kernel_rfl
 have h2:Wap (8,a,b,c)=(Wh a&&(b==(0:Int))&&(c==(0:Int))):=rfl;rw[h,h2];simp only[WS,WM,WL,Wdz,Wbx,ret,Xc];cases Wh a<;>cases(b==(0:Int))<;>rfl
theorem Wta{N:Nat}{a b c:Int}:Zp N (9,a,b,c)=ret (Wap (9,a,b,c)):=by
 have h:Zp N (9,a,b,c)=(bif a==(0:Int)then(bif b==(0:Int)then some ((),(c==(0:Int),()))else some ((),(false,())))else some ((),(false,()))):=by kernel_rfl
 have h2:Wap (9,a,b,c)=((a==(0:Int))&&(b==(0:Int))&&(c==(0:Int))):=rfl;rw[h,h2];simp only[WS,WM,WL,Wdz,Wbx,ret,Xc];cases(a==(0:Int))<;>cases(b==(0:Int))<;>rfl
theorem WrN{N:Nat}{a b c:Int}:Zp N (10,a,b,c)=ret (Wap (10,a,b,c)):=by
 have h:Zp N (10,a,b,c)=(bif a==(0:Int)then(bif b==(0:Int)then some ((),(c==(0:Int),()))else some ((),(false,())))else some ((),(false,()))):=by kernel_rfl
 have h2:Wap (10,a,b,c)=((a==(0:Int))&&(b==(0:Int))&&(c==(0:Int))):=rfl;rw[h,h2];simp only[WS,WM,WL,Wdz,Wbx,ret,Xc];cases(a==(0:Int))<;>cases(b==(0:Int))<;>rfl
theorem Wrz{N:Nat}{a b c:Int}:Zp N (11,a,b,c)=ret (Wap (11,a,b,c)):=by
 have h:Zp N (11,a,b,c)=(bif a==(0:Int)then(bif b==(0:Int)then some ((),(c==(0:Int),()))else some ((),(false,())))else some ((),(false,()))):=by kernel_rfl
 have h2:Wap (11,a,b,c)=((a==(0:Int))&&(b==(0:Int))&&(c==(0:Int))):=rfl;rw[h,h2];simp only[WS,WM,WL,Wdz,Wbx,ret,Xc];cases(a==(0:Int))<;>cases(b==(0:Int))<;>rfl
theorem WsS{N:Nat}{a b c:Int}:Zp N (12,a,b,c)=ret (Wap (12,a,b,c)):=by
 have h:Zp N (12,a,b,c)=((Zbo N a 0 7).bind λo=>bif o.2.1 then((Zr N b).bind λo=>bif o.2.1 then((Zr N c).bind λo=>some ((),(o.2.1,())))else some ((),(false,())))else some ((),(false,()))):=by kernel_rfl
 have h2:Wap (12,a,b,c)=(WbZ a&&Wh b&&Wh c):=rfl;rw[h,h2];simp only[WS,WM,WL,Wdz,Wbx,ret,Xc];cases WbZ a<;>cases Wh b<;>rfl
theorem Wr7{N:Nat}{a b c:Int}:Zp N (13,a,b,c)=ret (Wap (13,a,b,c)):=by
 have h:Zp N (13,a,b,c)=((Zr N a).bind λo=>bif o.2.1 then((Zbo N b 0 7).bind λo=>bif o.2.1 then some ((),(c==(0:Int),()))else some ((),(false,())))else some ((),(false,()))):=by kernel_rfl
 have h2:Wap (13,a,b,c)=(Wh a&&WbZ b&&(c==(0:Int))):=rfl;rw[h,h2];simp only[WS,WM,WL,Wdz,Wbx,ret,Xc];cases Wh a<;>cases WbZ b<;>rfl
theorem Wr6{N:Nat}{a b c:Int}:Zp N (14,a,b,c)=ret (Wap (14,a,b,c)):=by
 have h:Zp N (14,a,b,c)=((Zbo N a 0 7).bind λo=>bif o.2.1 then((Zr N b).bind λo=>bif o.2.1 then some ((),(c==(0:Int),()))else some ((),(false,())))else some ((),(false,()))):=by kernel_rfl
 have h2:Wap (14,a,b,c)=(WbZ a&&Wh b&&(c==(0:Int))):=rfl;rw[h,h2];simp only[WS,WM,WL,Wdz,Wbx,ret,Xc];cases WbZ a<;>cases Wh b<;>rfl
theorem WsR{N:Nat}{a b c:Int}:Zp N (15,a,b,c)=ret (Wap (15,a,b,c)):=by
 have h:Zp N (15,a,b,c)=((Zr N a).bind λo=>bif o.2.1 then(bif b==(0:Int)then some ((),(c==(0:Int),()))else some ((),(false,())))else some ((),(false,()))):=by kernel_rfl
 have h2:Wap (15,a,b,c)=(Wh a&&(b==(0:Int))&&(c==(0:Int))):=rfl;rw[h,h2];simp only[WS,WM,WL,Wdz,Wbx,ret,Xc];cases Wh a<;>cases(b==(0:Int))<;>rfl
theorem WrO{N:Nat}{a b c:Int}:Zp N (16,a,b,c)=ret (Wap (16,a,b,c)):=by
 have h:Zp N (16,a,b,c)=((Zr N a).bind λo=>bif o.2.1 then(bif b==(0:Int)then some ((),(c==(0:Int),()))else some ((),(false,())))else some ((),(false,()))):=by kernel_rfl
 have h2:Wap (16,a,b,c)=(Wh a&&(b==(0:Int))&&(c==(0:Int))):=rfl;rw[h,h2];simp only[WS,WM,WL,Wdz,Wbx,ret,Xc];cases Wh a<;>cases(b==(0:Int))<;>rfl
theorem Wdp{N:Nat}{o:Opn}:Zp N o=ret (Wap o):=by
 obtain⟨k,a,b,c⟩:=o;by_cases h1:k=1
 .subst h1;exact Wuf
 by_cases h2:k=2
 .subst h2;exact Wtv
 by_cases h3:k=3
 .subst h3;exact WtJ
 by_cases h4:k=4
 .subst h4;exact Wt1
 by_cases h5:k=5
 .subst h5;exact Wtw
 by_cases h6:k=6
 .subst h6;exact Wtt
 by_cases h7:k=7
 .subst h7;exact Wtk
 by_cases h8:k=8
 .subst h8;exact Wtg
 by_cases h9:k=9
 .subst h9;exact Wta
 by_cases ch:k=10
 .subst ch;exact WrN
 by_cases dj:k=11
 .subst dj;exact Wrz
 by_cases eB:k=12
 .subst eB;exact WsS
 by_cases jA:k=13
 .subst jA;exact Wr7
 by_cases na:k=14
 .subst na;exact Wr6
 by_cases h15:k=15
 .subst h15;exact WsR
 by_cases kF:k=16
 .subst kF;exact WrO
 have e1:(k==(1:Int))=false:=by simpa using h1
 have e2:(k==(2:Int))=false:=by simpa using h2
 have e3:(k==(3:Int))=false:=by simpa using h3
 have e4:(k==(4:Int))=false:=by simpa using h4
 have e5:(k==(5:Int))=false:=by simpa using h5
 have e6:(k==(6:Int))=false:=by simpa using h6
 have e7:(k==(7:Int))=false:=by simpa using h7
 have e8:(k==(8:Int))=false:=by simpa using h8
 have e9:(k==(9:Int))=false:=by simpa using h9
 have jt:(k==(10:Int))=false:=by simpa using ch
 have jY:(k==(11:Int))=false:=by simpa using dj
 have kG:(k==(12:Int))=false:=by simpa using eB
 have kH:(k==(13:Int))=false:=by simpa using jA
 have ju:(k==(14:Int))=false:=by simpa using na
 have vK:(k==(15:Int))=false:=by simpa using h15
 have vL:(k==(16:Int))=false:=by simpa using kF
 unfold Zp Wap;simp only[];rw[e1,e2,e3,e4,e5,e6,e7,e8,e9,jt,jY,kG,kH,ju,vK,vL];rfl
theorem WtS{N:Nat}{a b c:Int}:Zo N (1,a,b,c)=ret (Wap (1,a,b,c)):=by
 have h:Zo N (1,a,b,c)=((Zs N a).bind λo=>bif o.2.1 then((Zaz N b).bind λo=>bif o.2.1 then some ((),(c==(0:Int),()))else some ((),(false,())))else some ((),(false,()))):=by kernel_rfl
 have h2:Wap (1,a,b,c)=(Wh a&&Wbi b&&(c==(0:Int))):=rfl;rw[h,h2];simp only[WU,Wl,Wj,WR,Wk,Wbx,ret,Xc];cases Wh a<;>cases Wbi b<;>rfl
theorem Ws8{N:Nat}{a b c:Int}:Zo N (2,a,b,c)=ret (Wap (2,a,b,c)):=by
 have h:Zo N (2,a,b,c)=((Zs N a).bind λo=>bif o.2.1 then((Zs N b).bind λo=>bif o.2.1 then((Zs N c).bind λo=>some ((),(o.2.1,())))else some ((),(false,())))else some ((),(false,()))):=by kernel_rfl
 have h2:Wap (2,a,b,c)=(Wh a&&Wh b&&Wh c):=rfl;rw[h,h2];simp only[WU,Wl,Wj,WR,Wk,Wbx,ret,Xc];cases Wh a<;>cases Wh b<;>rfl
theorem Wuh{N:Nat}{a b c:Int}:Zo N (3,a,b,c)=ret (Wap (3,a,b,c)):=by
 have h:Zo N (3,a,b,c)=((Zs N a).bind λo=>bif o.2.1 then((Zs N b).bind λo=>bif o.2.1 then((Zs N c).bind λo=>some ((),(o.2.1,())))else some ((),(false,())))else some ((),(false,()))):=by kernel_rfl
 have h2:Wap (3,a,b,c)=(Wh a&&Wh b&&Wh c):=rfl;rw[h,h2];simp only[WU,Wl,Wj,WR,Wk,Wbx,ret,Xc];cases Wh a<;>cases Wh b<;>rfl
theorem WtY{N:Nat}{a b c:Int}:Zo N (4,a,b,c)=ret (Wap (4,a,b,c)):=by
 have h:Zo N (4,a,b,c)=((Zs N a).bind λo=>bif o.2.1 then((Zs N b).bind λo=>bif o.2.1 then((Zs N c).bind λo=>some ((),(o.2.1,())))else some ((),(false,())))else some ((),(false,()))):=by kernel_rfl
 have h2:Wap (4,a,b,c)=(Wh a&&Wh b&&Wh c):=rfl;rw[h,h2];simp only[WU,Wl,Wj,WR,Wk,Wbx,ret,Xc];cases Wh a<;>cases Wh b<;>rfl
theorem WtO{N:Nat}{a b c:Int}:Zo N (5,a,b,c)=ret (Wap (5,a,b,c)):=by
 have h:Zo N (5,a,b,c)=((Zs N a).bind λo=>bif o.2.1 then((Zba N b).bind λo=>bif o.2.1 then some ((),(c==(0:Int),()))else some ((),(false,())))else some ((),(false,()))):=by kernel_rfl
 have h2:Wap (5,a,b,c)=(Wh a&&W5 b&&(c==(0:Int))):=rfl;rw[h,h2];simp only[WU,Wl,Wj,WR,Wk,Wbx,ret,Xc];cases Wh a<;>cases W5 b<;>rfl
theorem Wtr{N:Nat}{a b c:Int}:Zo N (6,a,b,c)=ret (Wap (6,a,b,c)):=by
 have h:Zo N (6,a,b,c)=((Zba N a).bind λo=>bif o.2.1 then((Zs N b).bind λo=>bif o.2.1 then some ((),(c==(0:Int),()))else some ((),(false,())))else some ((),(false,()))):=by kernel_rfl
 have h2:Wap (6,a,b,c)=(W5 a&&Wh b&&(c==(0:Int))):=rfl;rw[h,h2];simp only[WU,Wl,Wj,WR,Wk,Wbx,ret,Xc];cases W5 a<;>cases Wh b<;>rfl
theorem Wtc{N:Nat}{a b c:Int}:Zo N (7,a,b,c)=ret (Wap (7,a,b,c)):=by
 have h:Zo N (7,a,b,c)=((Zs N a).bind λo=>bif o.2.1 then((Zm N b 1 20).bind λo=>bif o.2.1 then some ((),(c==(0:Int),()))else some ((),(false,())))else some ((),(false,()))):=by kernel_rfl
 have h2:Wap (7,a,b,c)=(Wh a&&(decide (1<=b)&&decide (b<=20))&&(c==(0:Int))):=rfl;rw[h,h2];simp only[WU,Wl,Wj,WR,Wk,Wbx,ret,Xc];cases Wh a<;>cases(decide (1<=b)&&decide (b<=20))<;>rfl
theorem WtF{N:Nat}{a b c:Int}:Zo N (8,a,b,c)=ret (Wap (8,a,b,c)):=by
 have h:Zo N (8,a,b,c)=((Zs N a).bind λo=>bif o.2.1 then(bif b==(0:Int)then some ((),(c==(0:Int),()))else some ((),(false,())))else some ((),(false,()))):=by kernel_rfl
 have h2:Wap (8,a,b,c)=(Wh a&&(b==(0:Int))&&(c==(0:Int))):=rfl;rw[h,h2];simp only[WU,Wl,Wj,WR,Wk,Wbx,ret,Xc];cases Wh a<;>cases(b==(0:Int))<;>rfl
theorem Wt3{N:Nat}{a b c:Int}:Zo N (9,a,b,c)=ret (Wap (9,a,b,c)):=by
 have h:Zo N (9,a,b,c)=(bif a==(0:Int)then(bif b==(0:Int)then some ((),(c==(0:Int),()))else some ((),(false,())))else some ((),(false,()))):=by kernel_rfl
 have h2:Wap (9,a,b,c)=((a==(0:Int))&&(b==(0:Int))&&(c==(0:Int))):=rfl;rw[h,h2];simp only[WU,Wl,Wj,WR,Wk,Wbx,ret,Xc];cases(a==(0:Int))<;>cases(b==(0:Int))<;>rfl
theorem WrC{N:Nat}{a b c:Int}:Zo N (10,a,b,c)=ret (Wap (10,a,b,c)):=by
 have h:Zo N (10,a,b,c)=(bif a==(0:Int)then(bif b==(0:Int)then some ((),(c==(0:Int),()))else some ((),(false,())))else some ((),(false,()))):=by kernel_rfl
 have h2:Wap (10,a,b,c)=((a==(0:Int))&&(b==(0:Int))&&(c==(0:Int))):=rfl;rw[h,h2];simp only[WU,Wl,Wj,WR,Wk,Wbx,ret,Xc];cases(a==(0:Int))<;>cases(b==(0:Int))<;>rfl
theorem WsT{N:Nat}{a b c:Int}:Zo N (11,a,b,c)=ret (Wap (11,a,b,c)):=by
 have h:Zo N (11,a,b,c)=(bif a==(0:Int)then(bif b==(0:Int)then some ((),(c==(0:Int),()))else some ((),(false,())))else some ((),(false,()))):=by kernel_rfl
 have h2:Wap (11,a,b,c)=((a==(0:Int))&&(b==(0:Int))&&(c==(0:Int))):=rfl;rw[h,h2];simp only[WU,Wl,Wj,WR,Wk,Wbx,ret,Xc];cases(a==(0:Int))<;>cases(b==(0:Int))<;>rfl
theorem Wsi{N:Nat}{a b c:Int}:Zo N (12,a,b,c)=ret (Wap (12,a,b,c)):=by
 have h:Zo N (12,a,b,c)=((Za4 N a).bind λo=>bif o.2.1 then((Zs N b).bind λo=>bif o.2.1 then((Zs N c).bind λo=>some ((),(o.2.1,())))else some ((),(false,())))else some ((),(false,()))):=by kernel_rfl
 have h2:Wap (12,a,b,c)=(WbZ a&&Wh b&&Wh c):=rfl;rw[h,h2];simp only[WU,Wl,Wj,WR,Wk,Wbx,ret,Xc];cases WbZ a<;>cases Wh b<;>rfl
theorem Wrv{N:Nat}{a b c:Int}:Zo N (13,a,b,c)=ret (Wap (13,a,b,c)):=by
 have h:Zo N (13,a,b,c)=((Zs N a).bind λo=>bif o.2.1 then((Za4 N b).bind λo=>bif o.2.1 then some ((),(c==(0:Int),()))else some ((),(false,())))else some ((),(false,()))):=by kernel_rfl
 have h2:Wap (13,a,b,c)=(Wh a&&WbZ b&&(c==(0:Int))):=rfl;rw[h,h2];simp only[WU,Wl,Wj,WR,Wk,Wbx,ret,Xc];cases Wh a<;>cases WbZ b<;>rfl
theorem Wrd{N:Nat}{a b c:Int}:Zo N (14,a,b,c)=ret (Wap (14,a,b,c)):=by
 have h:Zo N (14,a,b,c)=((Za4 N a).bind λo=>bif o.2.1 then((Zs N b).bind λo=>bif o.2.1 then some ((),(c==(0:Int),()))else some ((),(false,())))else some ((),(false,()))):=by kernel_rfl
 have h2:Wap (14,a,b,c)=(WbZ a&&Wh b&&(c==(0:Int))):=rfl;rw[h,h2];simp only[WU,Wl,Wj,WR,Wk,Wbx,ret,Xc];cases WbZ a<;>cases Wh b<;>rfl
theorem Wr2{N:Nat}{a b c:Int}:Zo N (15,a,b,c)=ret (Wap (15,a,b,c)):=by
 have h:Zo N (15,a,b,c)=((Zs N a).bind λo=>bif o.2.1 then(bif b==(0:Int)then some ((),(c==(0:Int),()))else some ((),(false,())))else some ((),(false,()))):=by kernel_rfl
 have h2:Wap (15,a,b,c)=(Wh a&&(b==(0:Int))&&(c==(0:Int))):=rfl;rw[h,h2];simp only[WU,Wl,Wj,WR,Wk,Wbx,ret,Xc];cases Wh a<;>cases(b==(0:Int))<;>rfl
theorem Wrb{N:Nat}{a b c:Int}:Zo N (16,a,b,c)=ret (Wap (16,a,b,c)):=by
 have h:Zo N (16,a,b,c)=((Zs N a).bind λo=>bif o.2.1 then(bif b==(0:Int)then some ((),(c==(0:Int),()))else some ((),(false,())))else some ((),(false,()))):=by kernel_rfl
 have h2:Wap (16,a,b,c)=(Wh a&&(b==(0:Int))&&(c==(0:Int))):=rfl;rw[h,h2];simp only[WU,Wl,Wj,WR,Wk,Wbx,ret,Xc];cases Wh a<;>cases(b==(0:Int))<;>rfl
theorem WeZ{N:Nat}{o:Opn}:Zo N o=ret (Wap o):=by
 obtain⟨k,a,b,c⟩:=o;by_cases h1:k=1
 .subst h1;exact WtS
 by_cases h2:k=2
 .subst h2;exact Ws8
 by_cases h3:k=3
 .subst h3;exact Wuh
 by_cases h4:k=4
 .subst h4;exact WtY
 by_cases h5:k=5
 .subst h5;exact WtO
 by_cases h6:k=6
 .subst h6;exact Wtr
 by_cases h7:k=7
 .subst h7;exact Wtc
 by_cases h8:k=8
 .subst h8;exact WtF
 by_cases h9:k=9
 .subst h9;exact Wt3
 by_cases ch:k=10
 .subst ch;exact WrC
 by_cases dj:k=11
 .subst dj;exact WsT
 by_cases eB:k=12
 .subst eB;exact Wsi
 by_cases jA:k=13
 .subst jA;exact Wrv
 by_cases na:k=14
 .subst na;exact Wrd
 by_cases h15:k=15
 .subst h15;exact Wr2
 by_cases kF:k=16
 .subst kF;exact Wrb
 have e1:(k==(1:Int))=false:=by simpa using h1
 have e2:(k==(2:Int))=false:=by simpa using h2
 have e3:(k==(3:Int))=false:=by simpa using h3
 have e4:(k==(4:Int))=false:=by simpa using h4
 have e5:(k==(5:Int))=false:=by simpa using h5
 have e6:(k==(6:Int))=false:=by simpa using h6
 have e7:(k==(7:Int))=false:=by simpa using h7
 have e8:(k==(8:Int))=false:=by simpa using h8
 have e9:(k==(9:Int))=false:=by simpa using h9
 have jt:(k==(10:Int))=false:=by simpa using ch
 have jY:(k==(11:Int))=false:=by simpa using dj
 have kG:(k==(12:Int))=false:=by simpa using eB
 have kH:(k==(13:Int))=false:=by simpa using jA
 have ju:(k==(14:Int))=false:=by simpa using na
 have vK:(k==(15:Int))=false:=by simpa using h15
 have vL:(k==(16:Int))=false:=by simpa using kF
 unfold Zo Wap;simp only[];rw[e1,e2,e3,e4,e5,e6,e7,e8,e9,jt,jY,kG,kH,ju,vK,vL];rfl
end
section
def Wnh{α:Type}(p:Nat->α->Bool):Nat->List α->Bool
 |_,[]=>false
 |j,x::l=>p j x||Wnh p (j+1) l
theorem WdB{α V R:Type}{body:Int->α->V->(V->Option R)->Option R}{K:Int->V->Option R}{p:Nat->α->Bool}{E:V->Option R}:∀(l:List α) (j:Nat) (v:V),(∀(j:Nat) x v k,x∈l->body j x v k=bif p j x then E v else k v)->
  Wb7 body K l j v=bif Wnh p j l then E v else K ((j+l.length:Nat):Int) v
 | [],j,v,_=>rfl
 |x::l,j,v,h=>by
  rw[Wb7,h j x v _ (Xi ..),WdB l (j+1) v λj y v k hy=>h j y v k (Xf _ hy),Wnh];cases p j x
  .simp only[cond_false,Xcs,Xr];rw[show j+1+l.length=j+(l.length+1) by omega]
  .rfl
theorem Wgi{α:Type}{p:Nat->α->Bool}:∀{l:List α} {j:Nat},Wnh p j l=true↔∃i,∃h:i<l.length,p (j+i) l[i]=true
 | [],j=>by simp[Wnh]
 |x::l,j=>by
  rw[Wnh,Xbs,Wgi];constructor
  .rintro(h|⟨i,hi,h⟩)
   .exact⟨0,by simp,by simpa using h⟩
   .exact⟨i+1,by simpa using hi,by simpa [Xas,Xcq 1]using h⟩
  .rintro⟨i,hi,h⟩;cases i with
   |zero=>exact .inl (by simpa using h)
   |succ i=>exact .inr ⟨i,by simpa using hi,by simpa [Xas,Xcq 1]using h⟩
def opd(o:Opn):Int:=bif o.1==8 then 1 else bif o.1==9 then-1 else 0
theorem Whb(o:Opn):-1<=opd o/\opd o<=1:=by unfold opd;cases o.1==8<;>cases o.1==9<;>simp
def dep(l:List Opn)(j:Nat):Int:=((l.take j).map opd).sum
theorem Wc8(l:List Opn):dep l 0=0:=by simp[dep]
theorem WaF{l:List Opn}{j:Nat}(h:j<l.length):dep l (j+1)=dep l j+opd l[j]:=by
 unfold dep;rw[Xcj h,Xp,List.sum_append];simp
theorem Wf{α:Type}{l:List α}{j:Nat}(h:j<l.length)(d:α):Xd l j d=l[j]:=by simp[h]
theorem Wdq(l:List Opn):∀j:Nat,-(j:Int)<=dep l j/\dep l j<=j
 |0=>by simp[dep]
 |j+1=>by
  have ih:=Wdq l j;by_cases h:j<l.length
  .have:=Whb l[j];rw[WaF h];omega
  .have:dep l (j+1)=dep l j:=by unfold dep;rw[Xdb (by omega),Xdb (by omega)]
   rw[this];omega
def bal(l:List Opn):Bool:=!Wnh (λj _=>decide (dep l (j+1)<0)) 0 l&&decide (dep l l.length=0)
theorem Wf1{N:Nat}{o:Opn}:Zi0 N o=ret (opd o):=by
 unfold Zi0 opd;cases o.1==8<;>cases o.1==9<;>rfl
theorem WwP(x:Int):(x==(0:Int))=decide (x=0):=by by_cases h:x=0<;>simp[h]
theorem WhY{N:Nat}{l:List Opn}(hl:l.length<=1048576)(hN:1048576<N):Zc4 N l=ret (bal l):=by
 unfold Zc4 bal;have h1:=WE (l:=l) (V:=Unit) (R:=Unit×Ko) (lp:=λn j _=>Zbz N l (some ((),(false,()))) (λu4 bh gG=>some ((),(u4==(0:Int),()))) n (dep l j.toNat) j) (n:=N) (by omega)
  (body:=λj _ v k=>bif decide (dep l (j.toNat+1)<0)then some ((),(false,()))else k v) (K:=λj _=>some ((),(dep l j.toNat==(0:Int),())))
  (λn i v hi=>by
   have hb:=Wdq l i;have hs:=WaF hi;have ho:=Whb l[i];have e:We .i64 (dep l i) (opd l[i])=dep l (i+1):=by rw[Wp (by unfold I64;omega),hs]
   simp only[Zbz,Waf hi,Wn hi,Wq hi,Wf hi,Wg (show i<4611686018427387904 by omega),cond_true,Wf1,ret,Xc,Xj,e])
  (λn v=>by simp only[Zbz,Waw (Xn l.length),cond_false]) ()
 have e0:dep l (Xb 0)=0:=Wc8 l;simp only[e0]at h1;refine h1.trans ?_;rw[WdB (p:=λj _=>decide (dep l (j+1)<0)) (E:=λ_=>some ((),(false,()))) l 0 () (λj x v k _=>rfl)];rw[Xaw,Xj,WwP];cases Wnh (λj _=>decide (dep l (j+1)<0)) 0 l<;>rfl
theorem Wlj{N:Nat}{l:List Opn}(hl:l.length<=1048576)(hN:1048576<N){i:Nat}(hi:i<=l.length):Zg1 N l (i:Int)=ret (dep l i):=by
 unfold Zg1;have h1:=WE (l:=l) (V:=Unit) (R:=Unit×Kh) (lp:=λn j _=>Zb2 N (i:Int) l (λsc bS ij=>some ((),(sc,()))) n (dep l (min j.toNat i)) j) (n:=N) (by omega)
  (body:=λj _ v k=>k v) (K:=λj _=>some ((),(dep l (min j.toNat i),())))
  (λn j v hj=>by
   have hb:=Wdq l j;have ho:=Whb l[j];simp only[Zb2,Waf hj,Wn hj,Wq hj,Wf hj,Wg (show j<4611686018427387904 by omega),cond_true,Wf1,ret,Xc,Xj];by_cases h:j<i
   .have e1:decide ((j:Int)<(i:Int))=true:=by simpa using h
    have e2:min j i=j:=by omega
    have e3:min (j+1) i=j+1:=by omega
    have e:We .i64 (dep l j) (opd l[j])=dep l (j+1):=by rw[Wp (by unfold I64;omega),WaF hj]
    rw[e1,e2,e3,e];rfl
   .have e1:decide ((j:Int)<(i:Int))=false:=by simp;omega
    have e2:min j i=i:=by omega
    have e3:min (j+1) i=i:=by omega
    rw[e1,e2,e3];rfl)
  (λn v=>by simp only[Zb2,Waw (Xn l.length),cond_false]) ()
 have e0:dep l (min (Xb 0) i)=0:=by
  have:min (Xb 0) i=0:=by simp
  rw[this];exact Wc8 l
 simp only[e0]at h1;refine h1.trans ?_;rw[WeX (f:=λv _=>v) l 0 () (λj x v k _=>rfl),Xaw,Xj,Nat.min_eq_right hi]
theorem WnH{N:Nat}{l:List Opn}{a b:Nat}(cu:a<=b)(hb:b<=l.length)(hl:l.length<=1048576)(hN:1048576<N):
  Za7 N l (b:Int) (some ((),(false,()))) (λsa qi aO=>some ((),(sa==(0:Int),()))) N 0 (a:Int)=ret (bal ((l.take b).drop a)):=by
 have hlen:((l.take b).drop a).length=b-a:=by simp;omega
 unfold bal;have h1:=WE (l:=(l.take b).drop a) (V:=Unit) (R:=Unit×Ko) (lp:=λn j _=>Za7 N l (b:Int) (some ((),(false,()))) (λsa qi aO=>some ((),(sa==(0:Int),()))) n (dep ((l.take b).drop a) j.toNat) ((a+j.toNat:Nat):Int)) (n:=N) (by omega)
  (body:=λj _ v k=>bif decide (dep ((l.take b).drop a) (j.toNat+1)<0)then some ((),(false,()))else k v) (K:=λj _=>some ((),(dep ((l.take b).drop a) j.toNat==(0:Int),())))
  (λn i v hi=>by
   have hb':=Wdq ((l.take b).drop a) i;have hs:=WaF hi;have ei:((l.take b).drop a)[i]=l[a+i]:=by simp
   rw[ei]at hs;have dV:a+i<l.length:=by omega
   have e1:decide (((a+i:Nat):Int)<(b:Int))=true:=by simp;omega
   have e2:We .i64 ((a+i:Nat):Int) 1=((a+(i+1):Nat):Int):=by rw[Wp (by unfold I64;omega)];omega
   have e3:We .i64 (dep ((l.take b).drop a) i) 1=dep ((l.take b).drop a) i+1:=Wp (by unfold I64;omega);have e4:W1 .i64 (dep ((l.take b).drop a) i) 1=dep ((l.take b).drop a) i+ -1:=by rw[Wan (by unfold I64;omega)];omega
   simp only[Za7,e1,Wn dV,Wq dV,Wf dV,e2,e3,e4,cond_true,Xj];unfold opd at hs;cases h8:l[a+i].1==8
   .cases h9:l[a+i].1==9
    .rw[h8,h9]at hs;simp only[cond_false,Xfr]at hs;simp only[hs,cond_false]
    .rw[h8,h9]at hs;simp only[cond_false,cond_true]at hs;simp only[hs,cond_false,cond_true]
   .have h9:(l[a+i].1==9)=false:=by
     have:l[a+i].1=8:=by simpa using h8
     rw[this];rfl
    rw[h8]at hs;simp only[cond_true]at hs;simp only[hs,h9,cond_false,cond_true])
  (λn v=>by
   have e1:decide (((a+(((l.take b).drop a).length:Int).toNat:Nat):Int)<(b:Int))=false:=by rw[Xj,hlen];simp;omega
   simp only[Za7,e1,cond_false]) ()
 have e0:dep ((l.take b).drop a) (Xb 0)=0:=Wc8 _;simp only[e0]at h1;refine h1.trans ?_;rw[WdB (p:=λj _=>decide (dep ((l.take b).drop a) (j+1)<0)) (E:=λ_=>some ((),(false,()))) _ 0 () (λj x v k _=>rfl)];rw[Xaw,Xj,WwP];cases Wnh (λj _=>decide (dep ((l.take b).drop a) (j+1)<0)) 0 ((l.take b).drop a)<;>rfl
def Wht(l:List Opn)(i:Nat)(o:Opn):Bool:=decide (i+1+o.2.2.1.toNat<=l.length)&&bal ((l.take (i+1+o.2.2.1.toNat)).drop (i+1))
def frk(l:List Opn)(j:Nat):Nat:=(l.take j).countP λo=>o.1==11
theorem WdZ{l:List Opn}{j:Nat}(h:j<l.length):frk l (j+1)=frk l j+(l[j].1==11).toNat:=by
 unfold frk;rw[Xcj h,List.countP_append,List.countP_singleton];cases l[j].1==11<;>rfl
theorem Wux(l:List Opn)(j:Nat):frk l j<=l.length:=Xcr List.countP_le_length (by simp;omega)
def Wuz(l:List Opn)(i:Nat)(o:Opn):Bool:=
 !Wap o||((o.1==7)&& !Wht l i o)||((o.1==11)&&(decide (dep l i>0)||decide (frk l (i+1)>1)))||decide (dep l (i+1)<0)
def Wpo(l:List Opn)(i:Nat)(o:Opn):Bool:=
 !Wap o||((o.1==7)&& !Wht l i o)||((o.1==11)&&(decide (frk l (i+1)>1)|| !decide (dep l i=0)))
def WoX(l:List Opn):Bool:=decide (l.length<=24)&&(bal l&& !Wnh (Wpo l) 0 l)
theorem WoI{l:List Opn}{i:Nat}{o:Opn}(hl:l.length<=24)(hi:i<l.length)(ho:Wap o=true)(h7:o.1=7):
  We .i64 ((i+1:Nat):Int) o.2.2.1=((i+1+o.2.2.1.toNat:Nat):Int)/\1<=o.2.2.1/\o.2.2.1<=20:=by
 obtain⟨k,a,b,c⟩:=o;simp only at h7;subst h7;have:(Wh a&&(decide (1<=b)&&decide (b<=20))&&(c==(0:Int)))=true:=ho;simp only[Xh,decide_eq_true_eq]at this;refine⟨?_,this.1.2.1,this.1.2.2⟩;rw[Wp (by unfold I64;simp only[];omega)];simp only[];omega
theorem WmM{N:Nat}{l:List Opn}{i:Nat}(hl:l.length<=24)(hN:1048576<N)(hi:i<l.length)(ho:Wap l[i]=true)(h7:l[i].1=7):Zhx N l (i:Int)=ret (Wht l i l[i]):=by
 obtain⟨e1,h1,h2⟩:=WoI hl hi ho h7;unfold Zhx Wht;simp only[Wn hi,cond_true,Wq hi,Wf hi,e1,Wg (show i<4611686018427387904 by omega)];by_cases h:i+1+l[i].2.2.1.toNat<=l.length
 .have e:decide (((i+1+l[i].2.2.1.toNat:Nat):Int)>Wb l)=false:=by simp[Wb];omega
  rw[e];simp only[cond_false];rw[WnH (by omega) h (by omega) hN];simp[h]
 .have e:decide (((i+1+l[i].2.2.1.toNat:Nat):Int)>Wb l)=true:=by simp[Wb];omega
  rw[e];simp[h]
theorem Wok{l:List Opn}:bal l=true↔(∀i,i<l.length->0<=dep l (i+1))/\dep l l.length=0:=by
 unfold bal;rw[Xh,Xao,←Xft,Wgi,decide_eq_true_eq];constructor
 .rintro⟨h1,h2⟩;refine⟨λi hi=>?_,h2⟩;by_cases h:dep l (i+1)<0
  .exact absurd ⟨i,hi,by simpa using h⟩ h1
  .omega
 .rintro⟨h1,h2⟩;refine⟨?_,h2⟩;rintro⟨i,hi,h⟩;have:=h1 i hi;simp at h;omega
theorem WlC(l:List Opn):(!Wnh (Wuz l) 0 l&&decide (dep l l.length=0))=(bal l&& !Wnh (Wpo l) 0 l):=by
 rw[Bool.eq_iff_iff,Xh,Xh,Xao,Xao,←Xft,←Xft,Wgi,Wgi,Wok,decide_eq_true_eq];constructor
 .rintro⟨h1,h2⟩;have hd:∀i,i<l.length->0<=dep l (i+1):=λi hi=>by
   by_cases h:dep l (i+1)<0
   .refine absurd ⟨i,hi,?_⟩ h1;unfold Wuz;simp[h]
   .omega
  refine⟨⟨hd,h2⟩,?_⟩;rintro⟨i,hi,h⟩;refine h1 ⟨i,hi,?_⟩;have zi:0<=dep l i:=by
   cases i with
   |zero=>rw[Wc8];omega
   |succ i=>exact hd i (by omega)
  rw[Xaw]at h⊢;unfold Wpo at h;unfold Wuz;simp only[Xbs,Xh,decide_eq_true_eq,Xao,decide_eq_false_iff_not]at h⊢;rcases h with(h|h)|⟨h,h'⟩
  .exact .inl (.inl (.inl h))
  .exact .inl (.inl (.inr h))
  .refine .inl (.inr ⟨h,?_⟩);rcases h' with h'|h'
   .exact .inr h'
   .exact .inl (by omega)
 .rintro⟨⟨hd,h2⟩,h1⟩;refine⟨?_,h2⟩;rintro⟨i,hi,h⟩;refine h1 ⟨i,hi,?_⟩;have zi:=hd i hi;rw[Xaw]at h⊢;unfold Wuz at h;unfold Wpo;simp only[Xbs,Xh,decide_eq_true_eq,Xao,decide_eq_false_iff_not]at h⊢;rcases h with((h|h)|⟨h,h'⟩)|h
  .exact .inl (.inl h)
  .exact .inl (.inr h)
  .refine .inr ⟨h,?_⟩;rcases h' with h'|h'
   .exact .inr (by omega)
   .exact .inl h'
  .omega
theorem Whh{N:Nat}{l:List Opn}(hl:l.length<=1048576)(hN:1048576<N):Zgq N l=ret (WoX l):=by
 unfold Zgq WoX;by_cases h:l.length<=24
 .have e:decide (Wb l>24)=false:=by simp[Wb];omega
  rw[e];simp only[cond_false];have h1:=WE (l:=l) (V:=Unit) (R:=Unit×Ko) (lp:=λn j _=>Za8 N l (some ((),(false,()))) (λu3 lN yY eE=>some ((),(u3==(0:Int),()))) n (dep l j.toNat) ((frk l j.toNat:Nat):Int) j) (n:=N) (by omega)
   (body:=λj x v k=>bif Wuz l j.toNat x then some ((),(false,()))else k v) (K:=λj _=>some ((),(dep l j.toNat==(0:Int),())))
   (λn i v hi=>by
    have hb:=Wdq l i;have hs:=WaF hi;have hf:=WdZ hi;have gi:=Wux l i;have e3:We .i64 (dep l i) 1=dep l i+1:=Wp (by unfold I64;omega);have e4:W1 .i64 (dep l i) 1=dep l i+ -1:=by rw[Wan (by unfold I64;omega)];omega
    have e5:We .i64 ((frk l i:Nat):Int) 1=((frk l i+1:Nat):Int):=by rw[Wp (by unfold I64;omega)];rfl
    simp only[Za8,Waf hi,Wn hi,Wq hi,Wf hi,Wg (show i<4611686018427387904 by omega),cond_true,Xj,Wdp,ret,Xc,e3,e4,e5];unfold Wuz;cases ho:Wap l[i]with
    |false=>rfl
    |true=>
     unfold opd at hs;simp only[Xab,cond_false,Xcs];by_cases h8:l[i].1=8
     .have b8:(l[i].1==8)=true:=by simp[h8]
      have b7:(l[i].1==7)=false:=by simp[h8]
      have aU:(l[i].1==11)=false:=by simp[h8]
      simp only[b8,b7,aU,cond_true,cond_false,Xdq,Xat,Xcu,Xcs]at hs hf⊢;simp only[hs,hf]
     .have b8:(l[i].1==8)=false:=by simp[h8]
      by_cases h9:l[i].1=9
      .have b9:(l[i].1==9)=true:=by simp[h9]
       have b7:(l[i].1==7)=false:=by simp[h9]
       have aU:(l[i].1==11)=false:=by simp[h9]
       simp only[b8,b9,b7,aU,cond_true,cond_false,Xdq,Xat,Xcu,Xcs]at hs hf⊢;simp only[hs,hf]
      .have b9:(l[i].1==9)=false:=by simp[h9]
       by_cases h7:l[i].1=7
       .have b7:(l[i].1==7)=true:=by simp[h7]
        have aU:(l[i].1==11)=false:=by simp[h7]
        have zj:=WmM h hN hi ho h7;simp only[b8,b9,b7,aU,cond_true,cond_false,Xdq,Xat,Xcu,Xbq,Bool.or_false,Xfr,zj,ret,Xc]at hs hf⊢;simp only[hs,hf];cases Wht l i l[i]<;>rfl
       .have b7:(l[i].1==7)=false:=by simp[h7]
        by_cases dj:l[i].1=11
        .have aU:(l[i].1==11)=true:=by simp[dj]
         simp only[b8,b9,b7,aU,cond_true,cond_false,Xha,Xcu,Xbq,Xcs,Xfr]at hs hf⊢;simp only[hs,hf];have ef:decide (((frk l i+1:Nat):Int)>1)=decide (frk l i+1>1):=by apply decide_eq_decide.2;omega
         rw[ef];cases decide (dep l i>0)<;>cases decide (frk l i+1>1)<;>cases decide (dep l i<0)<;>rfl
        .have aU:(l[i].1==11)=false:=by simp[dj]
         simp only[b8,b9,b7,aU,cond_true,cond_false,Xdq,Xat,Xcu,Xcs,Xfr]at hs hf⊢;simp only[hs,hf])
   (λn v=>by simp only[Za8,Waw (Xn l.length),cond_false]) ()
  have e0:dep l (Xb 0)=0:=Wc8 l;have e1:((frk l (Xb 0):Nat):Int)=0:=by simp[frk]
  simp only[e0,e1]at h1;refine h1.trans ?_;rw[WdB (p:=Wuz l) (E:=λ_=>some ((),(false,()))) l 0 () (λj x v k _=>by rw[Xj])];rw[Xaw,Xj,WwP,←WlC];simp only[h,decide_true,Xbq];cases Wnh (Wuz l) 0 l<;>rfl
 .have e:decide (Wb l>24)=true:=by simp[Wb];omega
  rw[e];simp[h]
theorem Whe{N:Nat}{l:List Opn}(hl:l.length<=1048576)(hN:1048576<N):Zcu N l=ret (WoX l):=by
 unfold Zcu WoX;by_cases h:l.length<=24
 .have e:decide (Wb l>24)=false:=by simp[Wb];omega
  rw[e];simp only[cond_false,WhY hl hN,ret,Xc,h,decide_true,Xbq];cases sV:bal l with
  |false=>rfl
  |true=>
   simp only[Xab,cond_false,Xbq];have h1:=WE (l:=l) (V:=Unit) (R:=Unit×Ko) (lp:=λn j _=>Zbx N l (some ((),(false,()))) (λlO gR t22=>some ((),(true,()))) n ((frk l j.toNat:Nat):Int) j) (n:=N) (by omega)
    (body:=λj x v k=>bif Wpo l j.toNat x then some ((),(false,()))else k v) (K:=λj _=>some ((),(true,())))
    (λn i v hi=>by
     have hf:=WdZ hi;have gi:=Wux l i;have e5:We .i64 ((frk l i:Nat):Int) 1=((frk l i+1:Nat):Int):=by rw[Wp (by unfold I64;omega)];rfl
     simp only[Zbx,Waf hi,Wn hi,Wq hi,Wf hi,cond_true,Xj,WeZ,ret,Xc,e5];unfold Wpo;cases ho:Wap l[i]with
     |false=>rfl
     |true=>
      simp only[Xab,cond_false,Xcs];by_cases h7:l[i].1=7
      .have b7:(l[i].1==7)=true:=by simp[h7]
       have aU:(l[i].1==11)=false:=by simp[h7]
       obtain⟨en,h1,h2⟩:=WoI h hi ho h7;simp only[b7,aU,cond_true,en,Wg (show i<4611686018427387904 by omega),Xdq,Xat,Xcu,Xbq,Bool.or_false]at hf⊢;simp only[hf];unfold Wht;by_cases hq:i+1+l[i].2.2.1.toNat<=l.length
       .have q1:decide (((i+1+l[i].2.2.1.toNat:Nat):Int)>Wb l)=false:=by simp[Wb];omega
        have q2:(((decide ((0:Int)<=((i+1+l[i].2.2.1.toNat:Nat):Int)))&&(decide (((i+1+l[i].2.2.1.toNat:Nat):Int)<=((Xa l):Int))))&&(decide ((0:Int)<=((i+1:Nat):Int)))&&(decide (((i+1:Nat):Int)<=((i+1+l[i].2.2.1.toNat:Nat):Int))))=true:=by simp;omega
        rw[q1,q2];simp only[cond_false,cond_true,Xj];rw[WhY (by simp;omega) hN];simp only[ret,Xc,hq,decide_true,Xbq]
       .have q1:decide (((i+1+l[i].2.2.1.toNat:Nat):Int)>Wb l)=true:=by simp[Wb];omega
        rw[q1];simp[hq]
      .have b7:(l[i].1==7)=false:=by simp[h7]
       by_cases dj:l[i].1=11
       .have aU:(l[i].1==11)=true:=by simp[dj]
        simp only[b7,aU,cond_true,cond_false,Xha,Xcu,Xbq,Xcs,Wlj hl hN (Nat.le_of_lt hi),ret,Xc,Wg (show i<4611686018427387904 by omega)]at hf⊢;simp only[hf];have ef:decide (((frk l i+1:Nat):Int)>1)=decide (frk l i+1>1):=by apply decide_eq_decide.2;omega
        have e0:(dep l i !=0)= !decide (dep l i=0):=by rw[bne,WwP]
        rw[ef,e0];cases decide (frk l i+1>1)<;>cases decide (dep l i=0)<;>rfl
       .have aU:(l[i].1==11)=false:=by simp[dj]
        simp only[b7,aU,cond_true,cond_false,Xdq,Xat,Xcu,Xcs,Wg (show i<4611686018427387904 by omega)]at hf⊢;simp only[hf])
    (λn v=>by simp only[Zbx,Waw (Xn l.length),cond_false]) ()
   have e1:((frk l (Xb 0):Nat):Int)=0:=by simp[frk]
   simp only[e1]at h1;refine h1.trans ?_;rw[WdB (p:=Wpo l) (E:=λ_=>some ((),(false,()))) l 0 () (λj x v k _=>by rw[Xj])];cases Wnh (Wpo l) 0 l<;>rfl
 .have e:decide (Wb l>24)=true:=by simp[Wb];omega
  rw[e];simp[h]
end
section
def stk(l:List Opn):Nat->List Nat
 |0=>[]
 |j+1=>bif (l.getD j (0,0,0,0)).1==8 then stk l j++ [j]else bif (l.getD j (0,0,0,0)).1==9 then(stk l j).dropLast else stk l j
theorem Wjj{l:List Opn}{j:Nat}(h:j<l.length)(h8:l[j].1=8):stk l (j+1)=stk l j++ [j]:=by
 rw[stk,Wf h];simp[h8]
theorem Wkn{l:List Opn}{j:Nat}(h:j<l.length)(h9:l[j].1=9):stk l (j+1)=(stk l j).dropLast:=by
 rw[stk,Wf h];simp[h9]
theorem Wgh{l:List Opn}{j:Nat}(h:j<l.length)(h8:l[j].1≠8)(h9:l[j].1≠9):stk l (j+1)=stk l j:=by
 rw[stk,Wf h];have e8:(l[j].1==8)=false:=by simp[h8]
 have e9:(l[j].1==9)=false:=by simp[h9]
 rw[e8,e9];rfl
theorem Wt8{o:Opn}(h:o.1=8):opd o=1:=by unfold opd;simp[h]
theorem Wlp{o:Opn}(h:o.1=9):opd o= -1:=by unfold opd;simp[h]
theorem WvO{o:Opn}(h8:o.1≠8)(h9:o.1≠9):opd o=0:=by
 unfold opd;have e8:(o.1==8)=false:=by simp[h8]
 have e9:(o.1==9)=false:=by simp[h9]
 rw[e8,e9];rfl
theorem Wcc{α:Type}(l:List α):l= []\/∃q x,l=q++ [x]:=by
 rcases List.eq_nil_or_concat l with h|⟨q,x,h⟩
 .exact .inl h
 .exact .inr ⟨q,x,by rw[h,List.concat_eq_append]⟩
def Up(l:List Opn):Prop:=∀i,i<l.length->0<=dep l (i+1)
theorem Up.at{l:List Opn}(h:Up l){j:Nat}(hj:j<=l.length):0<=dep l j:=by
 cases j with
 |zero=>rw[Wc8];omega
 |succ j=>exact h j hj
theorem WbI{l:List Opn}(h:Up l):∀j,j<=l.length->((stk l j).length:Int)=dep l j
 |0,_=>by rw[Wc8];rfl
 |j+1,hj=>by
  have hj':j<l.length:=hj;have ih:=WbI h j (by omega);have hd:=WaF hj';have hu:=h j hj';by_cases h8:l[j].1=8
  .rw[Wjj hj' h8,hd,Wt8 h8,Xz];simp;omega
  .by_cases h9:l[j].1=9
   .rw[Wkn hj' h9,hd,Wlp h9,Xee];rw[hd,Wlp h9]at hu;omega
   .rw[Wgh hj' h8 h9,hd,WvO h8 h9];omega
theorem Wlw{l:List Opn}:∀(j:Nat),j<=l.length->∀(s t:List Nat) (m:Nat),stk l j=s++m::t->
  m<j/\(∃h:m<l.length,l[m].1=8)/\stk l m=s/\∀i,m<i->i<=j->∃t',stk l i=s++m::t'
 |0,_,s,t,m,h=>by simp[stk]at h
 |j+1,hj,s,t,m,h=>by
  have hj':j<l.length:=hj;have ih:=Wlw (l:=l) j (by omega);have next:∀t0,stk l j=s++m::t0->m<j+1/\(∃h:m<l.length,l[m].1=8)/\stk l m=s/\∀i,m<i->i<=j+1->∃t',stk l i=s++m::t':=λt0 h0=>by
   obtain⟨a,b,c,d⟩:=ih s t0 m h0;refine⟨by omega,b,c,λi lK lL=>?_⟩;by_cases he:i=j+1
   .subst he;exact⟨t,h⟩
   .exact d i lK (by omega)
  by_cases h8:l[j].1=8
  .rw[Wjj hj' h8]at h;rcases Wcc t with rfl|⟨t0,x,rfl⟩
   .obtain⟨e1,e2⟩:=Xen (h:stk l j++ [j]=s++ [m]) rfl;injection e2 with e2;subst e2;refine⟨by omega,⟨hj',h8⟩,e1,λi lK lL=>?_⟩;have:i=j+1:=by omega
    subst this;exact⟨[],by rw[Wjj hj' h8];exact h⟩
   .have h2:stk l j++ [j]=(s++m::t0)++ [x]:=by rw[h,List.append_assoc,List.cons_append]
    obtain⟨e1,e2⟩:=Xen h2 rfl;have h':stk l (j+1)=s++m::(t0++ [x]):=by rw[Wjj hj' h8,h]
    obtain⟨a,b,c,d⟩:=ih s t0 m e1;refine⟨by omega,b,c,λi lK lL=>?_⟩;by_cases he:i=j+1
    .subst he;exact⟨_,h'⟩
    .exact d i lK (by omega)
  .by_cases h9:l[j].1=9
   .rw[Wkn hj' h9]at h;rcases Wcc (stk l j)with h0|⟨q,x,hq⟩
    .rw[h0]at h;simp at h
    .have eC:(stk l j).dropLast=q:=by rw[hq];simp
     rw[eC]at h;have h2:stk l j=s++m::(t++ [x]):=by rw[hq,h];simp
     obtain⟨a,b,c,d⟩:=ih s _ m h2;refine⟨by omega,b,c,λi lK lL=>?_⟩;by_cases he:i=j+1
     .subst he;exact⟨t,by rw[Wkn hj' h9,eC];exact h⟩
     .exact d i lK (by omega)
   .exact next t (by rw[←Wgh hj' h8 h9];exact h)
theorem Wpp{l:List Opn}{a b:Nat}(cu:a<=b)(hb:b<=l.length)(sV:bal ((l.take b).drop a)=true):stk l b=stk l a:=by
 obtain⟨h1,h2⟩:=Wok.1 sV;have hlen:((l.take b).drop a).length=b-a:=by simp;omega
 have key:∀i,i<=b-a->∃t,stk l (a+i)=stk l a++t/\(t.length:Int)=dep ((l.take b).drop a) i:=by
  intro i
  induction i with
  |zero=>intro _;exact⟨[],by simp,by rw[Wc8];rfl⟩
  |succ i ih=>
   intro hi;obtain⟨t,qL,tN⟩:=ih (by omega);have dV:a+i<l.length:=by omega
   have lL:i<((l.take b).drop a).length:=by omega
   have hd:=WaF lL;have ei:((l.take b).drop a)[i]=l[a+i]:=by simp
   rw[ei]at hd;have hu:=h1 i lL;by_cases h8:l[a+i].1=8
   .refine⟨t++ [a+i],by rw[←Xas,Wjj dV h8,qL];simp,?_⟩;rw[hd,Wt8 h8,Xz];simp;omega
   .by_cases h9:l[a+i].1=9
    .rw[hd,Wlp h9]at hu;have hne:t≠ []:=λh=>by subst h;simp at tN;omega
     refine⟨t.dropLast,?_,?_⟩
     .rw[←Xas,Wkn dV h9,qL,List.dropLast_append_of_ne_nil hne]
     .rw[hd,Wlp h9,Xee];omega
    .refine⟨t,by rw[←Xas,Wgh dV h8 h9,qL],?_⟩;rw[hd,WvO h8 h9];omega
 obtain⟨t,qL,tN⟩:=key (b-a) (Xn _);rw[←hlen,h2]at tN;have:t= []:=Xw (by omega);subst this;rw[show a+(b-a)=b by omega]at qL;simpa using qL
structure Mate(l:List Opn)(m k:Nat):Prop where
 lt:m<k
 len:k<l.length
 eq:dep l (k+1)=dep l m
 ne:∀i,m<=i->i<k->dep l (i+1)≠dep l m
 st:stk l (k+1)=stk l m
theorem WuT{l:List Opn}(hu:Up l)(h0:dep l l.length=0){j m:Nat}{s:List Nat}(hj:j<=l.length)(hs:stk l j=s++ [m]):∃k,j<=k/\Mate l m k/\stk l m=s:=by
 obtain⟨a,⟨hm,h8⟩,c,d⟩:=Wlw j hj s [] m hs;have nb:=WbI hu m (by omega);have low:∀i,m<=i->i<j->dep l (i+1)≠dep l m:=λi h1 h2=>by
  obtain⟨t',zl⟩:=d (i+1) (by omega) (by omega);have:=WbI hu (i+1) (by omega);rw[zl]at this;rw[c]at nb;simp at this;omega
 have gd:=hu.at (show m<=l.length by omega);have ex:∀n i,l.length-i=n->j<=i->i<=l.length->(∀i',m<=i'->i'<i->dep l (i'+1)≠dep l m)->dep l m<dep l i->∃k,j<=k/\k<l.length/\dep l (k+1)=dep l m/\∀i',m<=i'->i'<k->dep l (i'+1)≠dep l m:=by
  intro n
  induction n with
  |zero=>intro i h1 h2 h3 h4 h5;exfalso;rw[show i=l.length by omega,h0]at h5;omega
  |succ n ih=>
   intro i h1 h2 h3 h4 h5;have dV:i<l.length:=by omega
   by_cases he:dep l (i+1)=dep l m
   .exact⟨i,h2,dV,he,h4⟩
   .have hd:=WaF dV;have ho:=Whb l[i];refine ih (i+1) (by omega) (by omega) dV (λi' q1 q2=>?_) (by omega);by_cases jk:i'=i
    .subst jk;exact he
    .exact h4 i' q1 (by omega)
 have lA:dep l m<dep l j:=by
  have:=WbI hu j hj;rw[hs]at this;rw[c]at nb;simp at this;omega
 obtain⟨k,k1,k2,k3,k4⟩:=ex _ j rfl (Xn _) hj low lA;have q9:m<k:=by omega
 have pre:∀n i,i=m+1+n->i<=k->∃t,stk l i=s++m::t:=by
  intro n
  induction n with
  |zero=>intro i h1 h2;exact⟨[],by rw[h1,Xat,Wjj hm h8,c]⟩
  |succ n ih=>
   intro i h1 h2;obtain⟨t,ht⟩:=ih (m+1+n) rfl (by omega);have e:i=(m+1+n)+1:=by omega
   have dV:m+1+n<l.length:=by omega
   by_cases g8:l[m+1+n].1=8
   .exact⟨t++ [m+1+n],by rw[e,Wjj dV g8,ht];simp⟩
   .by_cases g9:l[m+1+n].1=9
    .rcases Wcc t with rfl|⟨t0,x,rfl⟩
     .exfalso;have q:=Wkn dV g9;rw[ht]at q;have q2:stk l (m+1+n+1)=s:=by rw[q];simp
      have q3:=WbI hu (m+1+n+1) (by omega);rw[q2]at q3;rw[c]at nb;exact k4 (m+1+n) (by omega) (by omega) (by omega)
     .exact⟨t0,by rw[e,Wkn dV g9,ht,show s++m::(t0++ [x])=(s++m::t0)++ [x] by simp,Xev]⟩
    .exact⟨t,by rw[e,Wgh dV g8 g9,ht]⟩
 obtain⟨t,ht⟩:=pre (k-m-1) k (by omega) (Xn _);have xM:=WbI hu k (by omega);have zm:=WaF k2;rw[ht]at xM;rw[c]at nb;simp at xM;have aH:=Whb l[k];have g9:l[k].1=9:=by
  by_cases g9:l[k].1=9
  .exact g9
  .by_cases g8:l[k].1=8
   .have:=Wt8 g8;omega
   .have:=WvO g8 g9;omega
 have zn:t= []:=Xw (by have:=Wlp g9;omega);subst zn;refine⟨k,k1,⟨q9,k2,k3,k4,?_⟩,c⟩;rw[Wkn k2 g9,ht,c];simp
theorem Wo2{l:List Opn}{m i:Nat}:((dep l (i+1) -dep l m)==(0:Int))=decide (dep l (i+1)=dep l m):=by
 by_cases h:dep l (i+1)=dep l m
 .simp[h]
 .have:dep l (i+1) -dep l m≠0:=by omega
  simp[h,this]
theorem Wh7{N:Nat}{l:List Opn}{m k:Nat}(hl:l.length<=1048576)(hN:1048576<N)(h8:∃h:m<l.length,l[m].1=8)(hm:Mate l m k):Zhb N l (m:Int)=ret (k:Int):=by
 obtain⟨qo,h8⟩:=h8;unfold Zhb;have e1:W1 .i64 (Wb l) 1=(l.length:Int) -1:=Wan (by unfold I64 Wb;omega);have e2:(decide (0<=(m:Int))&&decide ((m:Int)<=(l.length:Int) -1))=true:=by simp;omega
 have e3:(l[m].1 !=8)=false:=by simp[h8]
 simp only[Wk,ret,Xc,e1,e2,Xab,cond_false,Wn qo,cond_true,Wq qo,e3];have key:∀(c n i:Nat),k-i=c->m<=i->i<=k->l.length-i<n->∀{R:Type} (K0:Int->Option R) (K1:Int->Int->Bool->Option R),Zd3 N l K0 K1 n (dep l i-dep l m) (i:Int)=K0 k:=by
  intro c
  induction c with
  |zero=>
   intro n i h1 h2 h3 h4 R K0 K1;have:i=k:=by omega
   subst this;cases n with
   |zero=>omega
   |succ n=>
    have dV:=hm.len;have hd:=WaF dV;have hb:=Wdq l i;have jB:=Wdq l m;have ho:=Whb l[i];have e:We .i64 (dep l i-dep l m) (opd l[i])=dep l (i+1) -dep l m:=by rw[Wp (by unfold I64;omega),hd];omega
    simp only[Zd3,Waf dV,Wn dV,Wq dV,cond_true,Wf1,ret,Xc,e];rw[Wo2];simp[hm.eq]
  |succ c ih=>
   intro n i h1 h2 h3 h4 R K0 K1;cases n with
   |zero=>omega
   |succ n=>
    have hk:=hm.len;have dV:i<l.length:=by omega
    have hd:=WaF dV;have hb:=Wdq l i;have jB:=Wdq l m;have ho:=Whb l[i];have e:We .i64 (dep l i-dep l m) (opd l[i])=dep l (i+1) -dep l m:=by rw[Wp (by unfold I64;omega),hd];omega
    have hne:=hm.ne i h2 (by omega);simp only[Zd3,Waf dV,Wn dV,Wq dV,cond_true,Wf1,ret,Xc,e,Wo2,hne,decide_false,cond_false,Wg (show i<4611686018427387904 by omega)];exact ih n (i+1) (by omega) (by omega) (by omega) (by omega) K0 K1
 have:=key (k-m) N m rfl (Xn _) (by have:=hm.lt;omega) (by omega) (R:=Unit×Kh) (λbh=>some ((),(bh,()))) (λsc y5 ij=>some ((),((-1:Int),())));rw[Int.sub_self]at this;exact this
end
section
abbrev Wd:=Int×Int×Int
abbrev Mm:=Int×List Wd
theorem WgH{α:Type}(a:Option α):WhE a a=a:=by unfold WhE;simp
def Wp5(clock:Int)(w:Wd):Bool:=Wbi w.1&&((decide (0<=w.2.1)&&decide (w.2.1<=clock))&&(decide (0<=w.2.2)&&decide (w.2.2<=99)))
def WZ(m:Mm):Bool:=decide (m.2.length=8)&&((decide (0<=m.1)&&decide (m.1<=1000000))&&m.2.all (Wp5 m.1))
theorem WaX{N:Nat}{m:Mm}(hl:m.2.length<=1048576)(hN:1048576<N):Zb7 N m=ret (WZ m):=by
 unfold Zb7 WZ;have h1:=WE (l:=m.2) (V:=Unit) (R:=Unit×Ko) (lp:=λn j v=>Zd1 N m.2 m (some ((),(false,()))) (λeE ik=>
  (bif (Wb m.2)==(8:Int)then
  ((Zm N m.1 (0:Int) (1000000:Int)).bind λgQ=>
  (some ((),(gQ.2.1,()))))
  else
  (some ((),(false,()))))) n j) (n:=N) (by omega)
  (body:=λj x v k=>bif !Wp5 m.1 x then some ((),(false,()))else k v) (K:=λ_ v=>(bif (Wb m.2)==(8:Int)then
  ((Zm N m.1 (0:Int) (1000000:Int)).bind λgQ=>
  (some ((),(gQ.2.1,()))))
  else
  (some ((),(false,())))))
  (λn i v hi=>by
   simp only[Zd1,Waf hi,Wn hi,Wq hi,Wg (show i<4611686018427387904 by omega),cond_true,Wl,Wk,ret,Xc,Wp5];cases Wbi m.2[i].1<;>cases(decide (0<=m.2[i].2.1)&&decide (m.2[i].2.1<=m.1))<;>cases(decide (0<=m.2[i].2.2)&&decide (m.2[i].2.2<=99))<;>rfl)
  (λn v=>by simp only[Zd1,Waw (Xn m.2.length),cond_false]) ()
 refine h1.trans ?_;rw[WaE (p:=λx=>!Wp5 m.1 x) (E:=λ_=>some ((),(false,()))) m.2 0 () (λj x v k _=>rfl),Wcx];have e:((Wb m.2)==(8:Int))=decide (m.2.length=8):=by
  by_cases h:m.2.length=8
  .simp[Wb,h]
  .simp[Wb,h];omega
 simp only[e,Wk,ret,Xc];cases m.2.all (Wp5 m.1)<;>cases decide (m.2.length=8)<;>simp
def wd0(v:Int):Wd:=(v,(0,0))
def Wmp(l:List Int):Mm:=(0,l.map wd0)
theorem Wdr{α β R:Type}{body:Int->α->List β->(List β->Option R)->Option R}{K:Int->List β->Option R}{f:α->β}:∀(l:List α) (j:Nat) (o:List β),o.length+l.length<=1000000->
  (∀(j:Nat) x (v:List β) k,x∈l->body j x v k=bif Wy (v.length+ [f x].length)then k (Xe v [f x])else none)->Wb7 body K l j o=K ((j+l.length:Nat):Int) (o++l.map f)
 | [],j,o,_,_=>by simp[Wb7]
 |x::l,j,o,h,hb=>by
  rw[Xr]at h;rw[Wb7,hb j x o _ (Xi ..),Ws (by simp;omega)];simp only[cond_true];rw[Wdr l (j+1) _ (by simp[Xaf];omega) λj y v k hy=>hb j y v k (Xf _ hy)];rw[Xr,show j+1+l.length=j+(l.length+1) by omega];simp
theorem Wi0{N:Nat}{l:List Int}(h:WeD l=true)(hN:1048576<N):Zb6 N l=some ((),(Wmp l,(true,()))):=by
 have hl:l.length=8:=by unfold WeD at h;simp at h;exact h.1
 unfold Zb6;simp only[Whp (show l.length<=1048576 by omega) hN,ret,Xc,h,Xab,cond_false];have h1:=WE (l:=l) (V:=List Wd) (R:=Unit×(Mm×Ko)) (lp:=λn j v=>Zc6 N l (λaO bh bb=>(some ((),(((0:Int),bb),(true,()))))) n j v) (n:=N) (by omega)
  (body:=λj x v k=>bif Wy (v.length+ [wd0 x].length)then k (Xe v [wd0 x])else none) (K:=λ_ v=>some ((),(((0:Int),v),(true,()))))
  (λn i v hi=>by simp only[Zc6,Waf hi,Wn hi,Wq hi,Wg (show i<4611686018427387904 by omega),cond_true,wd0])
  (λn v=>by simp only[Zc6,Waw (Xn l.length),cond_false]) []
 refine h1.trans ?_;rw[Wdr (f:=wd0) l 0 [] (by simp;omega) (λj x v k _=>rfl)];rfl
theorem WD{m:Mm}(h:WZ m=true):m.2.length=8/\0<=m.1/\m.1<=1000000/\∀w∈m.2,Wp5 m.1 w=true:=by
 unfold WZ at h;simp only[Xh,decide_eq_true_eq,Xae]at h;exact⟨h.1,h.2.1.1,h.2.1.2,h.2.2⟩
def tick(m:Mm):Mm×Int:=if m.1<1000000 then((m.1+1,m.2),m.1+1)else(m,0)
theorem Wm7{N:Nat}{m:Mm}(h:WZ m=true)(hN:1048576<N):Zn2 N m=some ((),((tick m).1,((tick m).2,()))):=by
 obtain⟨h8,h0,h1,_⟩:=WD h;have e:Zb9 N m=ret m:=by unfold Zb9;rw[Ws (by omega)];rfl
 unfold Zn2 tick;simp only[e,WaX (show m.2.length<=1048576 by omega) hN,ret,Xc,h,Xab,cond_false];by_cases hc:m.1<1000000
 .have e2:(m.1==1000000)=false:=by simp;omega
  have e3:We .i64 m.1 1=m.1+1:=Wp (by unfold I64;omega);rw[e2,if_pos hc,e3];rfl
 .have e2:(m.1==1000000)=true:=by simp;omega
  rw[e2,if_neg hc];rfl
abbrev Pb:=Int×Int×Int×Int
def Wll(p:Pb):Bool:=W5 p.1&&((decide (0<=p.2.1)&&decide (p.2.1<=4))&&((decide (0<=p.2.2.1)&&decide (p.2.2.1<=1000000))&&Wbi p.2.2.2))
theorem WmY{N:Nat}{p:Pb}:Zli N p=ret (Wll p):=by
 unfold Zli Wll;simp only[Wj,Wk,Wl,ret,Xc];cases W5 p.1<;>cases(decide (0<=p.2.1)&&decide (p.2.1<=4))<;>cases(decide (0<=p.2.2.1)&&decide (p.2.2.1<=1000000))<;>simp
def W0(m:Mm)(rv:Int)(p:Pb):Pb:=
 let w:=Xd m.2 (Xb p.1) (0,(0,0))
 bif p.2.1==0 then(bif w.2.2==0 then(bif decide (w.2.1<=rv)then(p.1,(1,(w.2.1,p.2.2.2)))else(p.1,(4,p.2.2)))else(p.1,(4,p.2.2)))
 else bif p.2.1==1 then(p.1,(2,(p.2.2.1,w.1)))
 else bif p.2.1==2 then(bif w.2.2==0 then(bif w.2.1==p.2.2.1 then(p.1,(3,p.2.2))else(p.1,(4,p.2.2)))else(p.1,(4,p.2.2)))
 else p
theorem Wv5{m:Mm}{p:Pb}(h:WZ m=true)(hp:Wll p=true):inb p.1 m.2.length=true:=by
 have h1:=(WD h).1;unfold Wll W5 at hp;simp at hp;unfold inb;rw[h1];simp;omega
theorem WeS{N:Nat}{m:Mm}{rv:Int}{p:Pb}(h:WZ m=true)(hp:Wll p=true)(hN:1048576<N):Zd2 N m rv p=ret (W0 m rv p):=by
 have h1:=(WD h).1;unfold Zd2 W0;simp only[WaX (show m.2.length<=1048576 by omega) hN,WmY,ret,Xc,h,hp,Xab,cond_false,Wv5 h hp,cond_true];generalize Xd m.2 (Xb p.1) (0,(0,0))=w;cases p.2.1==0<;>cases p.2.1==1<;>cases p.2.1==2<;>cases w.2.2==0<;>cases decide (w.2.1<=rv)<;>cases w.2.1==p.2.2.1<;>rfl
def Wit(l:List Rw)(c:Int):Nat->Option Int
 |0=>none
 |i+1=>if(Xd l i (0,0)).1=c then some (Xd l i (0,0)).2 else Wit l c i
def Wbk(l:List Rw)(c:Int):Option Int:=if Wbg l=true then Wit l c l.length else none
def opI(o:Option Int):Option (Unit×Kl):=match o with
 |none=>some ((),((0:Int),(false,())))
 |some v=>some ((),(v,(true,())))
theorem Wib{N:Nat}{l:List Rw}{c:Int}(hl:l.length<=1048576):∀(i n:Nat),i<n->i<=l.length->Zgi N l c (λaA=>(some ((),(aA,(true,()))))) (λse aO=>(some ((),((0:Int),(false,()))))) n ((i:Int) -1)=opI (Wit l c i)
 |i,0,h,_=>by omega
 |0,n+1,h,_=>rfl
 |i+1,n+1,h,hi=>by
  have e:((i+1:Nat):Int) -1=(i:Int):=by omega
  have e1:decide ((i:Int)>=0)=true:=by simp
  have e2:W1 .i64 (i:Int) 1=(i:Int) -1:=Wan (by unfold I64;omega);rw[e,Zgi,e1,Wn (show i<l.length by omega),e2,Wit,Xj];simp only[cond_true];by_cases hc:(Xd l i ((0:Int),(0:Int))).1=c
  .rw[if_pos hc,beq_iff_eq.2 hc];rfl
  .rw[if_neg hc,beq_eq_false_iff_ne.2 hc];exact Wib hl i n (by omega) (by omega)
theorem Wpt{α:Type}{l:List α}(hl:l.length<=1048576):W1 .i64 (Wb l) 1=((l.length:Nat):Int) -1:=by unfold Wb;exact Wan (by unfold I64;omega)
theorem WeC{N:Nat}{l:List Rw}{c:Int}(hl:l.length<=1048576)(hN:1048576<N):Zgz N l c=opI (Wbk l c):=by
 unfold Zgz Wbk;simp only[Wcu hl hN,ret,Xc];cases Wbg l
 .rfl
 .simp only[Xab,cond_false,if_true,Wpt hl];exact Wib hl l.length N (by omega) (Xn _)
end
section
def Wlv(l:List Rw)(o:List Rw)(c:Nat):List Rw:=match Wbk l c with
 |none=>o
 |some v=>o++ [((c:Int),v)]
def WkH(l:List Rw):Nat->Nat->List Rw->List Rw
 |0,_,o=>o
 |j+1,c,o=>WkH l j (c+1) (Wlv l o c)
def Wc3(l:List Rw):List Rw:=WkH l 8 0 []
theorem WgJ{N:Nat}{l:List Rw}(hl:l.length<=1048576)(hN:1048576<N):∀(j n c:Nat) (o:List Rw),c+j=8->j<n->o.length<=c->Zfv N l (λaL aO aK=>(some ((),(aK,())))) n (c:Int) o=ret (WkH l j c o)
 |j,0,c,o,_,h,_=>by omega
 |0,n+1,c,o,h,_,_=>by
  have:c=8:=by omega
  subst this;rfl
 |j+1,n+1,c,o,h,h1,ho=>by
  have e:decide ((c:Int)<8)=true:=by simp;omega
  rw[Zfv,e,WeC hl hN,Wg (by omega),WkH,Wlv];simp only[cond_true];rcases Wbk l c with _|v
  .exact WgJ hl hN j n (c+1) o (by omega) (by omega) (by omega)
  .have er:Wy (o.length+ [((c:Int),v)].length)=true:=Ws (by simp;omega);simp only[opI,Xc,cond_true,er];exact WgJ hl hN j n (c+1) _ (by omega) (by omega) (by simp;omega)
theorem WlF{l:List Rw}(h:Wbg l=false):∀(j c:Nat) (o:List Rw),WkH l j c o=o
 |0,_,_=>rfl
 |j+1,c,o=>by
  have e:Wbk l c=none:=by unfold Wbk;rw[h];rfl
  rw[WkH,Wlv,e];exact WlF h j (c+1) o
theorem WdI{N:Nat}{l:List Rw}(hl:l.length<=1048576)(hN:1048576<N):Zf7 N l=ret (Wc3 l):=by
 unfold Zf7;simp only[Wcu hl hN,ret,Xc];cases h:Wbg l
 .unfold Wc3;rw[WlF h];rfl
 .exact WgJ hl hN 8 N 0 [] rfl (by omega) (by simp)
def fnd{α:Type}(p:α->Bool):List α->Nat->Option (Nat×α)
 | [],_=>none
 |x::l,j=>bif p x then some (j,x)else fnd p l (j+1)
theorem Wgs{α V R:Type}{body:Int->α->V->(V->Option R)->Option R}{K:Int->V->Option R}{p:α->Bool}{E:Int->α->Option R}:∀(l:List α) (j:Nat) (v:V),(∀(j:Nat) x v k,x∈l->body j x v k=bif p x then E j x else k v)->
  Wb7 body K l j v=match fnd p l j with|some r=>E r.1 r.2|none=>K ((j+l.length:Nat):Int) v
 | [],j,v,_=>rfl
 |x::l,j,v,h=>by
  rw[Wb7,h j x v _ (Xi ..),fnd,Wgs l (j+1) v λj y v k hy=>h j y v k (Xf _ hy)];cases p x
  .simp only[cond_false];rw[Xr,show j+1+l.length=j+(l.length+1) by omega]
  .rfl
theorem WcU{α:Type}{p:α->Bool}:∀{l:List α} {j:Nat} {r:Nat×α},fnd p l j=some r->p r.2=true/\j<=r.1/\r.1<j+l.length/\l[r.1-j]?=some r.2
 | [],j,r,h=>by cases h
 |x::l,j,r,h=>by
  rw[fnd]at h;cases hp:p x
  .rw[hp]at h;obtain⟨h1,h2,h3,h4⟩:=WcU (l:=l) h;refine⟨h1,by omega,by rw[Xr];omega,?_⟩;obtain⟨q,hq⟩:∃q,r.1-j=q+1:=⟨r.1-j-1,by omega⟩;rw[hq,List.getElem?_cons_succ];rw[show r.1-(j+1)=q by omega]at h4;exact h4
  .rw[hp]at h;cases h;exact⟨hp,Xn _,by simp,by simp⟩
theorem WhQ{α:Type}{p:α->Bool}:∀{l:List α} {j:Nat},fnd p l j=none->∀x∈l,p x=false
 | [],j,h=>by simp
 |x::l,j,h=>by
  rw[fnd]at h;cases hp:p x
  .rw[hp]at h;intro y hy;rcases Xo.1 hy with rfl|hy
   .exact hp
   .exact WhQ h y hy
  .rw[hp]at h;cases h
abbrev En:=Int×Int×Int
def ent(b:List En)(c:Int):Option (Nat×En):=fnd (λe=>e.1==c) b 0
theorem WfQ{N:Nat}{f:Y_Family}{c:Int}(hl:f.2.2.2.2.2.2.1.length<=1048576)(hN:1048576<N):Zcg N f c=ret (match ent f.2.2.2.2.2.2.1 c with|some r=>(r.1:Int)|none=>-1):=by
 unfold Zcg;show((Zn N f.2.2.2.2.2.2.1 c).bind _)=_;generalize f.2.2.2.2.2.2.1=b at hl;unfold Zn ent;have h1:=WE (l:=b) (V:=Unit) (R:=Kh×Kh) (lp:=λn j v=>Zf N b (λbS bf=>(some ((bf,()),(bS,())))) (λeE ik dI=>(some ((dI,()),((-1:Int),())))) n j c) (n:=N) (by omega)
  (body:=λj x v k=>bif x.1==c then some ((c,()),(j,()))else k v) (K:=λ_ v=>some ((c,()),((-1:Int),())))
  (λn i v hi=>by simp only[Zf,Zi1,Waf hi,Wn hi,Wq hi,Wg (show i<4611686018427387904 by omega),cond_true,Xc])
  (λn v=>by simp only[Zf,Waw (Xn b.length),cond_false]) ()
 rw[h1,Wgs (p:=λe=>e.1==c) (E:=λj x=>some ((c,()),(j,()))) b 0 () (λj x v k _=>rfl)];cases fnd (λe:En=>e.1==c) b 0<;>rfl
theorem Wbn{N:Nat}{l:List Int}(h:l.length<=1048576):Zu N l=ret l:=by
 unfold Zu;rw[Ws (by omega)];rfl
theorem WdA{N:Nat}{l:List Rw}(h:l.length<=1048576):Zbj N l=ret l:=by
 unfold Zbj;rw[Ws (by omega)];rfl
end
section
theorem WoN{N:Nat}{o:Opn}:∃t:Int,Zb8 N o=ret t/\Zg0 N o=ret t:=by
 unfold Zb8 Zg0;rw[Wdp,WeZ];simp only[ret,Xc];cases Wap o
 .exact⟨0,rfl,rfl⟩
 .cases o.1==5<;>cases o.1==6<;>cases o.1==12<;>cases o.1==13<;>cases o.1==14<;>cases o.1==15<;>cases o.1==16<;>exact⟨_,rfl,rfl⟩
noncomputable def Wjh(o:Opn):Int:=match Zb8 0 o with|some (_,(t,_))=>t|none=>0
theorem Wv0{N:Nat}{o:Opn}:Zb8 N o=Zb8 0 o:=by
 unfold Zb8;rw[Wdp,Wdp]
theorem WdG{N:Nat}{o:Opn}:Zb8 N o=ret (Wjh o):=by
 rw[Wv0];obtain⟨t,h,_⟩:=WoN (N:=0) (o:=o);unfold Wjh;rw[h]
theorem Wgb{N:Nat}{o:Opn}:Zg0 N o=ret (Wjh o):=by
 obtain⟨t,h,h2⟩:=WoN (N:=N) (o:=o);rw[h2,←h,WdG]
noncomputable def Wgp(o:Opn):Bool:=(o.1==11)||(Wjh o==2)
noncomputable def WgX(l:List Opn):Bool:=WoX l&& !l.any Wgp
theorem Whq{N:Nat}{l:List Opn}(hl:l.length<=1048576)(hN:1048576<N):Zfu N l=ret (l.any λo=>o.1==11):=by
 unfold Zfu;have h1:=WE (l:=l) (V:=Unit) (R:=Unit×Ko) (lp:=λn j v=>Zcm N l (some ((),(true,()))) (λi8 t9=>some ((),(false,()))) n j) (n:=N) (by omega)
  (body:=λj x v k=>bif x.1==11 then some ((),(true,()))else k v) (K:=λ_ v=>some ((),(false,())))
  (λn i v hi=>by simp only[Zcm,Waf hi,Wn hi,Wq hi,Wg (show i<4611686018427387904 by omega),cond_true])
  (λn v=>by simp only[Zcm,Waw (Xn l.length),cond_false]) ()
 refine h1.trans ?_;rw[WaE (p:=λx:Opn=>x.1==11) (E:=λ_=>some ((),(true,()))) l 0 () (λj x v k _=>rfl)];cases l.any λo:Opn=>o.1==11<;>rfl
theorem Wnt{N:Nat}{l:List Opn}(hl:l.length<=1048576)(hN:1048576<N):Zg9 N l=ret (WgX l):=by
 unfold Zg9 WgX;simp only[Whh hl hN,ret,Xc];cases WoX l with
 |false=>rfl
 |true=>
  simp only[Whq hl hN,ret,Xc,Xab,cond_false,Xbq];have h1:=WE (l:=l) (V:=Unit) (R:=Unit×Ko) (lp:=λn j v=>Zdz N l (some ((),(false,()))) (λi8 t9=>some ((),(true,()))) n j) (n:=N) (by omega)
   (body:=λj x v k=>bif Wjh x==2 then some ((),(false,()))else k v) (K:=λ_ v=>some ((),(true,())))
   (λn i v hi=>by simp only[Zdz,Waf hi,Wn hi,Wq hi,Wg (show i<4611686018427387904 by omega),cond_true,WdG,ret,Xc])
   (λn v=>by simp only[Zdz,Waw (Xn l.length),cond_false]) ()
  (try simp only[]at h1)
  rw[h1,WaE (p:=λx=>Wjh x==2) (E:=λ_=>some ((),(false,()))) l 0 () (λj x v k _=>rfl)];have e:l.any Wgp=((l.any λo=>o.1==11)||l.any λo=>Wjh o==2):=by
   clear h1 hl
   induction l with
   |nil=>rfl
   |cons x l ih=>
    simp only[List.any_cons,ih,Wgp];cases x.1==11<;>cases Wjh x==2<;>simp
  rw[e];cases l.any λo:Opn=>o.1==11<;>cases l.any λo=>Wjh o==2<;>rfl
theorem Wof{N:Nat}{l:List Opn}(hl:l.length<=1048576)(hN:1048576<N):Zha N l=ret (WgX l):=by
 unfold Zha WgX;have h1:=WE (l:=l) (V:=Unit) (R:=Unit×Ko) (lp:=λn j v=>Zd0 N l (some ((),(false,()))) (λaL aO=>((Zcu N l).bind λcG=>(some ((),(cG.2.1,()))))) n j) (n:=N) (by omega)
  (body:=λj x v k=>bif Wgp x then some ((),(false,()))else k v) (K:=λ_ v=>ret (WoX l))
  (λn i v hi=>by
   simp only[Zd0,Waf hi,Wn hi,Wq hi,Wg (show i<4611686018427387904 by omega),cond_true,Wgb,ret,Xc,Wgp];cases l[i].1==11<;>rfl)
  (λn v=>by simp only[Zd0,Waw (Xn l.length),cond_false,Whe hl hN,ret,Xc]) ()
 refine h1.trans ?_;rw[WaE (p:=Wgp) (E:=λ_=>some ((),(false,()))) l 0 () (λj x v k _=>rfl)];cases l.any Wgp<;>cases WoX l<;>rfl
def Wfp(l:List Int):Bool:=decide (l.length=4)&&l.all Wbi
theorem Wda{N:Nat}{l:List Int}(hl:l.length<=1048576)(hN:1048576<N):Zak N l 4=ret (Wfp l):=by
 unfold Zak Wfp;have h1:=WE (l:=l) (V:=Unit) (R:=Unit×Ko) (lp:=λn j v=>Za2 N l 4 (some ((),(false,()))) (λi8 t9=>some ((),((Wb l)==(4:Int),()))) n j) (n:=N) (by omega)
  (body:=λj x v k=>bif !Wbi x then some ((),(false,()))else k v) (K:=λ_ v=>some ((),((Wb l)==(4:Int),())))
  (λn i v hi=>by simp only[Za2,Waf hi,Wn hi,Wq hi,Wg (show i<4611686018427387904 by omega),cond_true,Wl,ret,Xc])
  (λn v=>by simp only[Za2,Waw (Xn l.length),cond_false]) ()
 refine h1.trans ?_;rw[WaE (p:=λx=>!Wbi x) (E:=λ_=>some ((),(false,()))) l 0 () (λj x v k _=>rfl),Wcx];have e:((Wb l)==(4:Int))=decide (l.length=4):=by
  by_cases h:l.length=4
  .simp[Wb,h]
  .simp[Wb,h];omega
 rw[e];cases l.all Wbi<;>simp
end
section
section
variable{o:Opn}
theorem Wri(h:Wap o=true)(h1:1<=o.1)(h4:o.1<=4):Wh o.2.1=true/\(o.1=1->Wbi o.2.2.1=true)/\(o.1≠1->Wh o.2.2.1=true/\Wh o.2.2.2=true):=by
 obtain⟨k,a,b,c⟩:=o;simp only at h1 h4;have:k=1\/k=2\/k=3\/k=4:=by omega
 rcases this with rfl|rfl|rfl|rfl
 .have:(Wh a&&Wbi b&&(c==(0:Int)))=true:=h;simp only[Xh]at this;exact⟨this.1.1,λ_=>this.1.2,λh=>absurd rfl h⟩
 all_goals
  have:(Wh a&&Wh b&&Wh c)=true:=h;simp only[Xh]at this;exact⟨this.1.1,λh=>by simp at h,λ_=>⟨this.1.2,this.2⟩⟩
theorem WvX(h:Wap o=true)(h5:o.1=5):Wh o.2.1=true/\W5 o.2.2.1=true:=by
 obtain⟨k,a,b,c⟩:=o;simp only at h5;subst h5;have:(Wh a&&W5 b&&(c==(0:Int)))=true:=h;simp only[Xh]at this;exact this.1
theorem WwQ(h:Wap o=true)(h5:o.1=6):W5 o.2.1=true/\Wh o.2.2.1=true:=by
 obtain⟨k,a,b,c⟩:=o;simp only at h5;subst h5;have:(W5 a&&Wh b&&(c==(0:Int)))=true:=h;simp only[Xh]at this;exact this.1
theorem WvV(h:Wap o=true)(h5:o.1=7):Wh o.2.1=true/\1<=o.2.2.1/\o.2.2.1<=20:=by
 obtain⟨k,a,b,c⟩:=o;simp only at h5;subst h5;have:(Wh a&&(decide (1<=b)&&decide (b<=20))&&(c==(0:Int)))=true:=h;simp only[Xh,decide_eq_true_eq]at this;exact⟨this.1.1,this.1.2.1,this.1.2.2⟩
theorem WwM(h:Wap o=true)(h5:o.1=8):Wh o.2.1=true:=by
 obtain⟨k,a,b,c⟩:=o;simp only at h5;subst h5;have:(Wh a&&(b==(0:Int))&&(c==(0:Int)))=true:=h;simp only[Xh]at this;exact this.1.1
theorem WnL(h:Wap o=true):1<=o.1/\o.1<=16:=by
 by_cases hk:1<=o.1/\o.1<=16
 .exact hk
 .exfalso;have e:∀n:Int,1<=n->n<=16->(o.1==n)=false:=λn h1 h2=>by simp;omega
  unfold Wap at h;rw[e 1 (by omega) (by omega),e 2 (by omega) (by omega),e 3 (by omega) (by omega),e 4 (by omega) (by omega),e 5 (by omega) (by omega),e 6 (by omega) (by omega),e 7 (by omega) (by omega),e 8 (by omega) (by omega),
   e 9 (by omega) (by omega),e 10 (by omega) (by omega),e 11 (by omega) (by omega),e 12 (by omega) (by omega),e 13 (by omega) (by omega),e 14 (by omega) (by omega),e 15 (by omega) (by omega),e 16 (by omega) (by omega)]at h
  cases h
end
theorem Wa4{x:Int}{l:List Int}(h:Wh x=true)(hl:l.length=4):inb x l.length=true:=by
 unfold Wh at h;simp at h;unfold inb;simp;omega
structure Vals(n:Nat)(l:List Int):Prop where
 len:l.length=n
 val:∀x∈l,0<=x/\x<=65535
theorem Vals.get{n:Nat}{l:List Int}(h:Vals n l)(i:Nat):0<=l.getD i 0/\l.getD i 0<=65535:=by
 by_cases hi:i<l.length
 .rw[Wf hi];exact h.val _ (Xx hi)
 .rw[Xbc,Xbl (by omega)];simp
theorem Vals.set{n:Nat}{l:List Int}(h:Vals n l)(i:Nat){x:Int}(hx:0<=x/\x<=65535):Vals n (l.set i x):=
 ⟨by rw[Xaa];exact h.len,λy hy=>by
  rcases List.mem_or_eq_of_mem_set hy with hy|hy
  .exact h.val y hy
  .rw[hy];exact hx⟩
theorem Wa0{x:Int}:Wbi x=true↔0<=x/\x<=65535:=by unfold Wbi;simp
theorem WeR{l:List Int}:Wfp l=true↔Vals 4 l:=by
 unfold Wfp;rw[Xh,decide_eq_true_eq,Xae];exact⟨λh=>⟨h.1,λx hx=>Wa0.1 (h.2 x hx)⟩,λh=>⟨h.len,λx hx=>Wa0.2 (h.val x hx)⟩⟩
theorem WoV{l:List Int}:WeD l=true↔Vals 8 l:=by
 unfold WeD;rw[Xh,decide_eq_true_eq,Xae];exact⟨λh=>⟨h.1,λx hx=>Wa0.1 (h.2 x hx)⟩,λh=>⟨h.len,λx hx=>Wa0.2 (h.val x hx)⟩⟩
def Wmx(o:Opn)(r:List Int):List Int:=
 bif o.1==1 then r.set o.2.1.toNat o.2.2.1 else
 bif o.1==2 then r.set o.2.1.toNat ((r.getD o.2.2.1.toNat 0+r.getD o.2.2.2.toNat 0)%65536)else
 bif o.1==3 then r.set o.2.1.toNat ((r.getD o.2.2.1.toNat 0-r.getD o.2.2.2.toNat 0+65536)%65536)else
 bif decide (r.getD o.2.2.1.toNat 0<r.getD o.2.2.2.toNat 0)then r.set o.2.1.toNat 1 else r.set o.2.1.toNat 0
theorem Wcs{x:Int}(h:0<=x):WcC x 65536=x%65536:=by unfold WcC;exact Xbr h
theorem WkD{o:Opn}{r:List Int}(h:Wap o=true)(h1:1<=o.1)(h4:o.1<=4)(hr:Vals 4 r):Vals 4 (Wmx o r):=by
 obtain⟨_,hv,_⟩:=Wri h h1 h4;unfold Wmx;cases e1:o.1==1
 .cases o.1==2
  .cases o.1==3
   .cases decide (r.getD o.2.2.1.toNat 0<r.getD o.2.2.2.toNat 0)
    .exact hr.set _ (by omega)
    .exact hr.set _ (by omega)
   .exact hr.set _ (by omega)
  .exact hr.set _ (by omega)
 .exact hr.set _ (Wa0.1 (hv (by simpa using e1)))
section
variable{N:Nat}{o:Opn}{r:List Int}
theorem WhC(hN:1048576<N)(h:Wap o=true)(h1:1<=o.1)(h4:o.1<=4)(hr:Vals 4 r):Zl7 N o r=some ((),(Wmx o r,(true,()))):=by
 obtain⟨ha,hv,zo⟩:=Wri h h1 h4;unfold Zl7 Zu;have e0:Wy r.length=true:=Ws (by rw[hr.len];omega);have e4:decide (o.1>4)=false:=by simp;omega
 have e5:Wfp r=true:=WeR.2 hr;have ea:=Wa4 ha hr.len;have ez:inz 65536=true:=rfl;have gb:=hr.get o.2.2.1.toNat;have gc:=hr.get o.2.2.2.toNat;simp only[e0,cond_true,Xc,WeZ,ret,h,Xab,cond_false,e4,Wda (l:=r) (by rw[hr.len];omega) hN,e5,ea,ez];unfold Wmx;by_cases k1:o.1=1
 .have b:(o.1==1)=true:=by simp[k1]
  rw[b];rfl
 .have b:(o.1==1)=false:=by simp[k1]
  obtain⟨hb,hc⟩:=zo k1;rw[b];simp only[cond_false,Wa4 hb hr.len,Wa4 hc hr.len,cond_true,Xaa,ea];have s1:We .i64 (r.getD o.2.2.1.toNat 0) (r.getD o.2.2.2.toNat 0)=r.getD o.2.2.1.toNat 0+r.getD o.2.2.2.toNat 0:=Wp (by unfold I64;omega);have s2:W1 .i64 (r.getD o.2.2.1.toNat 0) (r.getD o.2.2.2.toNat 0)=r.getD o.2.2.1.toNat 0-r.getD o.2.2.2.toNat 0:=Wan (by unfold I64;omega);have s3:We .i64 (r.getD o.2.2.1.toNat 0-r.getD o.2.2.2.toNat 0) 65536=r.getD o.2.2.1.toNat 0-r.getD o.2.2.2.toNat 0+65536:=Wp (by unfold I64;omega);rw[s1,s2,s3,Wcs (by omega),Wcs (by omega)];cases o.1==2
  .cases o.1==3
   .simp only[cond_false,Wt,Xdo];cases decide (r.getD o.2.2.1.toNat 0<r.getD o.2.2.2.toNat 0)<;>rfl
   .rfl
  .rfl
end
def Wi5(l:List Rw):Prop:=∀r∈l,(0<=r.1/\r.1<=7)/\0<=r.2/\r.2<=65535
theorem WkE{l:List Rw}:l.all Wn7=true↔Wi5 l:=by
 rw[Xae];unfold Wi5 Wn7 W5 Wbi;simp
theorem Wcl{N:Nat}{l:List Int}(h:l.length<=1048576):Zu N l=ret l:=by
 unfold Zu;simp only[Wtp h,cond_true]
end
section
abbrev Cur:=List Int×Int×Int
def WaH(c:Cur):Prop:=0<=c.2.1/\c.2.1<=c.1.length/\c.1.length<=1048576
def WqL{α:Type}(P:α->Prop)(r:Option ((Cur×Unit)×(α×Unit))):Prop:=∃c v,r=some ((c,()),(v,()))/\WaH c/\P v
theorem WoA(x:Int):∃n:Nat,n<=255/\WuN .i64 x 255=n:=by
 refine⟨(BitVec.ofInt 64 x&&&BitVec.ofInt 64 255).toNat,?_,?_⟩
 .rw[BitVec.toNat_and];exact Xcr Xgy (by decide)
 .unfold WuN;have:(BitVec.ofInt 64 x&&&BitVec.ofInt 64 255).toNat<=255:=by
   rw[BitVec.toNat_and];exact Xcr Xgy (by decide)
  exact wrap_i64 (Wwk (p:=(BitVec.ofInt 64 x&&&BitVec.ofInt 64 255).toNat) (by omega))
theorem Wto{N:Nat}{code:List Int}(h:code.length<=1048576)(hN:1048576<N):∃c,WaH c/\Zi2 N code=ret c:=by
 have key:∀(n j:Nat) (v:Int),j<=code.length->code.length-j<n->∃hh i t,∀{R:Type} (K:Int->Int->Bool->Option R),Zcn N code K n v (j:Int)=K hh i t:=by
  intro n
  induction n with
  |zero=>intro j v _ h2;omega
  |succ n ih=>
   intro j v h1 h2;by_cases hj:j<code.length
   .by_cases h4:j<4000
    .obtain⟨hh,i,t,e⟩:=ih (j+1) _ hj (by omega);refine⟨hh,i,t,λK=>?_⟩;have e1:decide ((j:Int)<4000)=true:=by simp;omega
     simp only[Zcn,Waf hj,Wn hj,e1,cond_true,Wg (show j<4611686018427387904 by omega)];exact e K
    .refine⟨v,j,decide ((j:Int)<4000),λK=>?_⟩;have e1:decide ((j:Int)<4000)=false:=by simp;omega
     simp only[Zcn,Waf hj,e1,cond_true,cond_false]
   .refine⟨v,j,false,λK=>?_⟩;simp only[Zcn,Waw (show code.length<=j by omega),cond_false]
 obtain⟨hh,i,t,e⟩:=key N 0 (We .i64 10101 (Wb code)) (Nat.zero_le _) (by omega);refine⟨(code,0,hh),⟨by simp,by simp,h⟩,?_⟩;unfold Zi2;exact e _
theorem WeN{N:Nat}{c:Cur}(h:WaH c):WqL (λv=>0<=v/\v<=255) (Zfm N c):=by
 unfold Zfm;obtain⟨h1,h2,h3⟩:=h;have e1:inn 33=true:=rfl;have e2:inn 45=true:=rfl;simp only[e1,e2,cond_true];by_cases hi:c.2.1<c.1.length
 .have e3:decide (c.2.1<Wb c.1)=true:=decide_eq_true hi;have e4:inb c.2.1 c.1.length=true:=by unfold inb;simp;exact⟨h1,hi⟩
  have e5:We .i64 c.2.1 1=c.2.1+1:=Wp (by unfold I64;omega);rw[e3,e4,e5];simp only[cond_true];obtain⟨n,hn,e⟩:=WoA (We .i64 (WuN .i64 (Wwh .i64 (Wsf .i64 (We .i64 (Weg .i64 c.2.2 (6364136223846793005:Int)) (1442695040888963407:Int)) (33:Int)) (Wsf .i64 (We .i64 (Weg .i64 c.2.2 (6364136223846793005:Int)) (1442695040888963407:Int)) (45:Int))) (255:Int)) (IntKind.wrap .i64 (Xd c.1 (Xb c.2.1) (0:Int))));exact⟨_,_,rfl,⟨by simp;omega,by simp;omega,h3⟩,by rw[e];omega⟩
 .have e3:decide (c.2.1<Wb c.1)=false:=decide_eq_false hi;rw[e3];simp only[cond_false];obtain⟨n,hn,e⟩:=WoA (Wwh .i64 (Wsf .i64 (We .i64 (Weg .i64 c.2.2 (6364136223846793005:Int)) (1442695040888963407:Int)) (33:Int)) (Wsf .i64 (We .i64 (Weg .i64 c.2.2 (6364136223846793005:Int)) (1442695040888963407:Int)) (45:Int)));exact⟨_,_,rfl,⟨h1,h2,h3⟩,by rw[e];omega⟩
theorem Wo1{v n:Int}(hv:0<=v)(hn:0<n):0<=WcC v n/\WcC v n<n:=by
 have e:WcC v n=v%n:=by unfold WcC;exact Xbr hv
 rw[e];exact⟨Int.emod_nonneg v (by omega),Int.emod_lt_of_pos v hn⟩
theorem WgR{N:Nat}{c:Cur}{n:Int}(h:WaH c):WqL (λv=>(n<=0->v=0)/\(0<n->0<=v/\v<n)) (Zb N c n):=by
 unfold Zb;by_cases h0:n<=0
 .have e:decide (n<=0)=true:=by simpa using h0
  rw[e];exact⟨_,_,rfl,h,λ_=>rfl,λh=>by omega⟩
 .have e:decide (n<=0)=false:=by simpa using h0
  have ez:inz n=true:=by unfold inz;simp;omega
  rw[e];simp only[cond_false,ez,cond_true];by_cases h1:n<=256
  .have e:decide (n<=256)=true:=by simpa using h1
   rw[e];obtain⟨c1,v,e1,hc,hv⟩:=WeN (N:=N) h;rw[e1];have:=Wo1 hv.1 (show 0<n by omega);exact⟨_,_,rfl,hc,λh=>by omega,λ_=>this⟩
  .have e:decide (n<=256)=false:=by simpa using h1
   rw[e];obtain⟨c1,v1,e1,ny,tu⟩:=WeN (N:=N) h;obtain⟨c2,v2,e2,gu,gO⟩:=WeN (N:=N) ny;obtain⟨c3,v3,e3,sW,vM⟩:=WeN (N:=N) gu;obtain⟨c4,v4,e4,qM,hv4⟩:=WeN (N:=N) sW;simp only[cond_false,e1,e2,e3,e4,Xc];have m1:Weg .i64 v1 16777216=v1*16777216:=Wdi (by unfold I64;omega);have m2:Weg .i64 v2 65536=v2*65536:=Wdi (by unfold I64;omega);have m3:Weg .i64 v3 256=v3*256:=Wdi (by unfold I64;omega);have a1:We .i64 (v1*16777216) (v2*65536)=v1*16777216+v2*65536:=Wp (by unfold I64;omega);have a2:We .i64 (v1*16777216+v2*65536) (v3*256)=v1*16777216+v2*65536+v3*256:=Wp (by unfold I64;omega);have a3:We .i64 (v1*16777216+v2*65536+v3*256) v4=v1*16777216+v2*65536+v3*256+v4:=Wp (by unfold I64;omega);rw[m1,m2,m3,a1,a2,a3];have:=Wo1 (show 0<=v1*16777216+v2*65536+v3*256+v4 by omega) (show 0<n by omega);exact⟨_,_,rfl,qM,λh=>by omega,λ_=>this⟩
end
section
theorem WsJ{N:Nat}{c:Cur}{n:Int}(h:WaH c):WqL (λ_=>True) (Zt N c n):=by
 unfold Zt;obtain⟨c1,v,e1,hc,hv⟩:=WgR (N:=N) (n:=n) h;rw[e1];exact⟨_,_,rfl,hc,trivial⟩
theorem WsC{N:Nat}{c:Cur}{l:List Int}(h:WaH c)(hl:0<l.length)(iE:l.length<4611686018427387904):WqL (λv=>v∈l) (Zbp N c l):=by
 unfold Zbp;obtain⟨c1,v,e1,hc,hv⟩:=WgR (N:=N) (n:=Wb l) h;rw[e1];have hv:=hv.2 (by unfold Wb;omega);unfold Wb at hv;obtain⟨q,rfl⟩:=Xfw hv.1;have hq:q<l.length:=by omega
 simp only[Xc,Wn hq,cond_true,Wq hq];exact⟨_,_,rfl,hc,Xx hq⟩
end
section
def Drw{ρ:Type}(P:ρ->Prop)(r:Option ((Cur×Unit)×ρ)):Prop:=∃c v,r=some ((c,()),v)/\WaH c/\P v
theorem Drw.of{α:Type}{P:α->Prop}{r:Option ((Cur×Unit)×(α×Unit))}(h:WqL P r):Drw (λv:α×Unit=>P v.1) r:=by
 obtain⟨c,v,e,h1,h2⟩:=h;exact⟨c,(v,()),e,h1,h2⟩
theorem Drw.bind{ρ σ:Type}{P:ρ->Prop}{Q:σ->Prop}{r:Option ((Cur×Unit)×ρ)}{k:(Cur×Unit)×ρ->Option ((Cur×Unit)×σ)}(h:Drw P r)(hk:∀c v,WaH c->P v->Drw Q (k ((c,()),v))):Drw Q (r.bind k):=by
 obtain⟨c,v,e,h1,h2⟩:=h;rw[e];exact hk c v h1 h2
theorem Drw.ok{ρ:Type}{P:ρ->Prop}{c:Cur}{v:ρ}(hc:WaH c)(hv:P v):Drw P (some ((c,()),v)):=⟨c,v,rfl,hc,hv⟩
theorem Drw.bif{ρ:Type}{P:ρ->Prop}{b:Bool}{x y:Option ((Cur×Unit)×ρ)}(h1:b=true->Drw P x)(h2:b=false->Drw P y):Drw P (bif b then x else y):=by
 cases b
 .exact h2 rfl
 .exact h1 rfl
theorem Drw.bifT{ρ:Type}{P:ρ->Prop}{b:Bool}{x y:Option ((Cur×Unit)×ρ)}(hb:b=true)(h1:Drw P x):Drw P (bif b then x else y):=by rw[hb];exact h1
theorem Drw.mono{ρ:Type}{P Q:ρ->Prop}{r:Option ((Cur×Unit)×ρ)}(h:Drw P r)(hq:∀v,P v->Q v):Drw Q r:=by
 obtain⟨c,v,e,h1,h2⟩:=h;exact⟨c,v,e,h1,hq v h2⟩
section
variable{N:Nat}{c:Cur}
theorem War(n:Int)(h:WaH c):Drw (λv:Int×Unit=>(n<=0->v.1=0)/\(0<n->0<=v.1/\v.1<n)) (Zb N c n):=.of (WgR h)
theorem WdY(n:Int)(h:WaH c):Drw (λ_:Bool×Unit=>True) (Zt N c n):=.of (WsJ h)
theorem Wu5(l:List Int)(h:WaH c)(hl:0<l.length)(iE:l.length<1000):Drw (λv:Int×Unit=>v.1∈l) (Zbp N c l):=.of (WsC h hl (by omega))
theorem Wxb(h:WaH c):Drw (λv:Int×Unit=>0<=v.1/\v.1<=3) (Za N c):=by
 unfold Za;exact(War 4 h).bind λc v hc hv=>.ok hc (by have:=hv.2 (by decide);simp only[];omega)
theorem WwJ(h:WaH c):Drw (λv:Int×Unit=>0<=v.1/\v.1<=65535) (Zgr N c):=by
 unfold Zgr;refine(WdY 6 h).bind λc v hc _=>.bif (λ_=>?_) λ_=>?_
 .refine(Wu5 _ hc (by decide) (by decide)).bind λc v hc hv=>.ok hc ?_;simp only[Xo,List.not_mem_nil,or_false]at hv⊢;omega
 .exact(War 9 hc).bind λc v hc hv=>.ok hc (by have:=hv.2 (by decide);simp only[];omega)
theorem Ww0(h:WaH c):Drw (λv:Int×Unit=>0<=v.1/\v.1<=7) (Zby N c):=by
 unfold Zby;refine(WdY 8 h).bind λc v hc _=>.bif (λ_=>?_) λ_=>?_
 .exact(War 8 hc).bind λc v hc hv=>.ok hc (by have:=hv.2 (by decide);simp only[];omega)
 .exact(War 3 hc).bind λc v hc hv=>.ok hc (by have:=hv.2 (by decide);simp only[];omega)
theorem Wxd(h:WaH c):Drw (λv:Int×Unit=>True) (Zi N c):=by
 unfold Zi;refine(WdY 4 h).bind λc v hc _=>.bif (λ_=>?_) λ_=>?_
 .exact(War 8 hc).bind λc v hc hv=>.ok hc trivial
 .exact(Wu5 _ hc (by decide) (by decide)).bind λc v hc hv=>.ok hc trivial
theorem Wpj(kind:Int)(h:WaH c):Drw (λ_:Opn×Unit=>True) (Zh N c kind):=by
 unfold Zh
 repeat' first
  |with_reducible refine Drw.bif (λ_=>?_) λ_=>?_
  |with_reducible refine(Wxb (by assumption)).bind λc v hc hv=>?_
  |with_reducible refine(WwJ (by assumption)).bind λc v hc hv=>?_
  |with_reducible refine(Ww0 (by assumption)).bind λc v hc hv=>?_
  |with_reducible refine(Wxd (by assumption)).bind λc v hc hv=>?_
  |with_reducible refine(War _ (by assumption)).bind λc v hc hv=>?_
  |with_reducible exact .ok (by assumption) trivial
theorem WsH{rec:Cur->Int->Int->Bool->Option ((Cur×Unit)×(List Opn×Unit))}{most deep:Int}{kid:Bool}(hm:0<=most/\most<=100)
  (aW:∀c (m d:Int),WaH c->0<=m->m<most->Drw (λv:List Opn×Unit=>(v.1.length:Int)<=m+2) (rec c m d kid)):
  ∀(n i:Nat) (c:Cur) (l:List Opn),i<n->i<=1000->WaH c->(l.length:Int)<=most+2->Drw (λv:List Opn×Unit=>(v.1.length:Int)<=most+2) (Zc N rec most deep kid (λky kz eF eG=>(some ((eF,()),(eG,())))) n (i:Int) c l)
 |0,i,c,l,h,_,_,_=>by omega
 |n+1,i,c,l,h,hib,hc,hl=>by
  have hs:(0:Int)<i->W1 .i64 (i:Int) 1=((i-1:Nat):Int):=λh0=>by rw[Wan (by unfold I64;omega)];omega
  have lK:W1 .i64 most (Wb l)=most-(l.length:Int):=Wan (by unfold I64 Wb;omega);have lL:W1 .i64 (most-(l.length:Int)) 3=most-(l.length:Int) -3:=Wan (by unfold I64;omega);simp only[Zc,lK,lL];refine .bif (λh0=>?_) λ_=>.ok hc hl;have h0:(i:Int)>0:=of_decide_eq_true h0;rw[hs h0];refine .bif (λh1=>?_) λ_=>.ok hc hl;have h1:(l.length:Int)<most:=of_decide_eq_true h1;have next:∀c' (l':List Opn),WaH c'->(l'.length:Int)<=most+2->Drw (λv:List Opn×Unit=>(v.1.length:Int)<=most+2) (Zc N rec most deep kid (λky kz eF eG=>(some ((eF,()),(eG,())))) n ((i-1:Nat):Int) c' l'):=
   λc' l' h1 h2=>WsH hm aW n (i-1) c' l' (by omega) (by omega) h1 h2
  have rm:∀(a:List Opn) (b:List Opn),(a.length:Int)+b.length<=1000->Wy (a.length+b.length)=true:=λa b h=>Ws (by omega);have vN:∀c' (o:Opn),WaH c'->Drw (λv:List Opn×Unit=>(v.1.length:Int)<=most+2) (bif Wy (l.length+ [o].length)then Zc N rec most deep kid (λky kz eF eG=>(some ((eF,()),(eG,())))) n ((i-1:Nat):Int) c' (Xe l [o])else none):=
   λc' o h2=>.bifT (rm _ _ (by simp;omega)) (next _ _ h2 (by simp[Xaf];omega))
  refine(War 20 hc).bind λc v hc hv=>?_;have vQ:∀c',WaH c'->(4:Int)<=most-(l.length:Int)->Drw (λv:List Opn×Unit=>(v.1.length:Int)<=most+2) ((rec c' (most-(l.length:Int) -3) (W1 .i64 deep 1) kid).bind λgk=>
           ((Zh N gk.1.1 (8:Int)).bind λfE=>
            (bif Wy ((Xa l)+(Xa ([fE.2.1])))then
             (bif Wy ((Xa (Xe l ([fE.2.1])))+(Xa gk.2.1))then
              ((Zt N fE.1.1 (3:Int)).bind λlh=>
               (bif lh.2.1 then
                (bif Wy ((Xa (Xe (Xe l ([fE.2.1])) gk.2.1))+(Xa ([((10:Int),((0:Int),((0:Int),(0:Int))))])))then
                 (bif Wy ((Xa (Xe (Xe (Xe l ([fE.2.1])) gk.2.1) ([((10:Int),((0:Int),((0:Int),(0:Int))))])))+(Xa ([((9:Int),((0:Int),((0:Int),(0:Int))))])))then
                  (Zc N rec most deep kid (λky kz eF eG=>(some ((eF,()),(eG,())))) n ((i-1:Nat):Int) lh.1.1 (Xe (Xe (Xe (Xe l ([fE.2.1])) gk.2.1) ([((10:Int),((0:Int),((0:Int),(0:Int))))])) ([((9:Int),((0:Int),((0:Int),(0:Int))))])))else none)else none)
                else
                (bif Wy ((Xa (Xe (Xe l ([fE.2.1])) gk.2.1))+(Xa ([((9:Int),((0:Int),((0:Int),(0:Int))))])))then
                 (Zc N rec most deep kid (λky kz eF eG=>(some ((eF,()),(eG,())))) n ((i-1:Nat):Int) lh.1.1 (Xe (Xe (Xe l ([fE.2.1])) gk.2.1) ([((9:Int),((0:Int),((0:Int),(0:Int))))])))else none)))else none)else none))):=λc' gY h4=>by
   refine(aW c' _ _ gY (by omega) (by omega)).bind λc2 v2 gu gO=>(Wpj 8 gu).bind λc3 v3 sW _=>?_;simp only[];refine .bifT (rm _ _ (by simp;omega)) (.bifT (rm _ _ (by simp[Xaf];omega)) ((WdY 3 sW).bind λc4 v4 qM _=>.bif (λ_=>?_) λ_=>?_))
   .exact .bifT (rm _ _ (by simp[Xaf];omega)) (.bifT (rm _ _ (by simp[Xaf];omega)) (next _ _ qM (by simp[Xaf];omega)))
   .exact .bifT (rm _ _ (by simp[Xaf];omega)) (next _ _ qM (by simp[Xaf];omega))
  repeat' first
   |with_reducible exact vN _ _ (by assumption)
   |with_reducible refine Drw.bif (λ_=>?_) λ_=>?_
   |with_reducible refine(Wpj _ (by assumption)).bind λc v hc hv=>?_
   |with_reducible refine(WdY _ (by assumption)).bind λc v hc hv=>?_
   |with_reducible refine(War _ (by assumption)).bind λc v hc hv=>?_
   |exact vQ _ (by assumption) (by simp only[decide_eq_true_eq,ge_iff_le]at*;omega)
  all_goals
   rename_i hx;have hx:=of_decide_eq_true hx;refine(aW _ 2 0 (by assumption) (by omega) (by omega)).bind λc2 v2 gu gO=>(Wpj 7 gu).bind λc3 v3 sW _=>?_;simp only[];exact .bifT (rm _ _ (by simp;omega)) (.bifT (rm _ _ (by simp[Xaf];omega)) (next _ _ sW (by simp[Xaf];omega)))
theorem WuM(hN:1048576<N):∀(m:Nat) (c:Cur) (most deep:Int) (kid:Bool),WaH c->0<=most->most<=100->most<m->Drw (λv:List Opn×Unit=>(v.1.length:Int)<=most+2) (Zee N m c most deep kid)
 |0,c,most,deep,kid,hc,h0,h1,h2=>by omega
 |m+1,c,most,deep,kid,hc,h0,h1,h2=>by
  unfold Zee;refine(War most hc).bind λc v hc hv=>?_;have gO:0<=v.1/\v.1<=100:=by
   by_cases hm:most<=0
   .have:=hv.1 hm;omega
   .have:=hv.2 (by omega);omega
  have e:We .i64 1 v.1=(((1+v.1).toNat:Nat):Int):=by rw[Wp (by unfold I64;omega)];omega
  simp only[e];exact WsH ⟨h0,h1⟩ (λc m' d gY q0 q1=>WuM hN m c m' d kid gY q0 (by omega) (by omega)) N _ c [] (by omega) (by omega) hc (by simp;omega)
theorem WwN(hN:1048576<N){most deep:Int}{kid:Bool}(hc:WaH c)(h0:0<=most)(h1:most<=100):Drw (λv:List Opn×Unit=>v.1.length<=102) (Zi3 N c most deep kid):=by
 unfold Zi3;exact(WuM hN N c most deep kid hc h0 h1 (by omega)).mono λv hv=>by omega
theorem Wpn(hN:1048576<N):∀(n i:Nat) (c:Cur) (l:List Int),8-i<n->i<=8->WaH c->l.length=i->
  Drw (λv:List Int×Unit=>v.1.length=8) (Zck N (λse aO bM bb=>(some ((bM,()),(bb,())))) n (i:Int) c l)
 |0,i,c,l,h,_,_,_=>by omega
 |n+1,i,c,l,h,hi,hc,hl=>by
  unfold Zck;refine .bif (λh0=>?_) λh0=>.ok hc (by have h0:=of_decide_eq_false h0;simp only[];omega);have h0:(i:Int)<8:=of_decide_eq_true h0;rw[Wg (show i<4611686018427387904 by omega)];refine(WwJ hc).bind λc v hc hv=>.bifT (Ws (by simp;omega)) ?_;exact Wpn hN n (i+1) c _ (by omega) (by omega) hc (by simp[Xaf];omega)
theorem Ww7(hN:1048576<N)(hc:WaH c):Drw (λv:List Int×Unit=>v.1.length=8) (Ze9 N c):=by
 unfold Ze9;exact Wpn hN N 0 c [] (by omega) (by omega) hc rfl
end
end
section
theorem Wqo{α:Type}{a b:Option α}(h:a=b):WhE a b=a:=by unfold WhE;rw[if_pos h]
section
variable{N:Nat}{c:Cur}
theorem Wox(hN:1048576<N){bq:List Opn}(eB:bq.length<=300):∀(n i:Nat) (c:Cur) (l:List (List Opn)),i<n->i<=100->WaH c->l.length+i<=100->(∀x∈l,x.length<=200)->
  Drw (λv:(List Opn×List (List Opn))×Unit=>v.1.1.length<=300/\v.1.2.length<=100/\∀x∈v.1.2,x.length<=200) (Zfa N bq (λy8 fh dG gS=>(some ((dG,()),((bq,gS),())))) n (i:Int) c l)
 |0,i,c,l,h,_,_,_,_=>by omega
 |n+1,i,c,l,h,hi,hc,hl,hx=>by
  unfold Zfa;refine .bif (λh0=>?_) λ_=>.ok hc ⟨eB,by simp only[];omega,hx⟩;have h0:(i:Int)>0:=of_decide_eq_true h0;have e:W1 .i64 (i:Int) 1=((i-1:Nat):Int):=by rw[Wan (by unfold I64;omega)];omega
  rw[e];refine(War 5 hc).bind λc v hc hv=>?_;have hv:=hv.2 (by decide);have e2:We .i64 2 v.1=2+v.1:=Wp (by unfold I64;omega);simp only[e2];refine(WwN hN hc (by omega) (by omega)).bind λc w hc hw=>.bifT (Ws (by simp;omega)) ?_;refine Wox hN eB n (i-1) c _ (by omega) (by omega) hc (by simp[Xaf];omega) λx eT=>?_;simp[Xaf]at eT;rcases eT with eT|eT
  .exact hx x eT
  .rw[eT];omega
theorem Wws(hN:1048576<N){b:Bool}(hc:WaH c):Drw (λv:(List Opn×List (List Opn))×Unit=>v.1.1.length<=300/\v.1.2.length<=100/\∀x∈v.1.2,x.length<=200) (Zdq N c b):=by
 unfold Zdq;refine .bif (λ_=>?_) λ_=>?_
 .refine(War 8 hc).bind λc v hc hv=>?_;have hv:=hv.2 (by decide);have e2:We .i64 3 v.1=3+v.1:=Wp (by unfold I64;omega);simp only[e2];exact(WwN hN hc (by omega) (by omega)).bind λc w hc hw=>.ok hc ⟨by simp only[];omega,by simp,by simp⟩
 .refine(War 4 hc).bind λc v hc hv=>?_;have hv:=hv.2 (by decide);have e2:We .i64 1 v.1=1+v.1:=Wp (by unfold I64;omega);simp only[e2];refine(WwN hN hc (by omega) (by omega)).bind λc w hc hw=>(War 4 hc).bind λc v2 hc gO=>?_;have gO:=gO.2 (by decide);have e3:We .i64 1 v2.1=1+v2.1:=Wp (by unfold I64;omega);simp only[e3];refine(WwN hN hc (by omega) (by omega)).bind λc w2 hc xN=>.bifT (Ws (by simp;omega)) (.bifT (Ws (by simp[Xaf];omega)) ((War 3 hc).bind λc v3 hc vM=>?_));have vM:=vM.2 (by decide);have e4:We .i64 1 v3.1=(((1+v3.1).toNat:Nat):Int):=by rw[Wp (by unfold I64;omega)];omega
  simp only[e4];exact Wox hN (by simp[Xaf];omega) N _ c [] (by omega) (by omega) hc (by simp;omega) (by simp)
theorem Ww8(hc:WaH c):Drw (λv:Opn×Unit=>True) (Zm2 N c):=by
 unfold Zm2;refine(War 16 hc).bind λc v hc hv=>(Wpj _ hc).bind λc w hc _=>(War 16 hc).bind λc v hc hv=>.bif (λ_=>?_) λ_=>.bif (λ_=>?_) λ_=>.bif (λ_=>?_) λ_=>.bif (λ_=>?_) λ_=>.ok hc trivial
 all_goals exact(Wu5 _ hc (by decide) (by decide)).bind λc v hc hv=>.ok hc trivial
theorem Wpk:∀(n:Nat) (c:Cur) (l:List Opn),600-l.length<n->WaH c->l.length<=500->
  Drw (λv:List Opn×Unit=>v.1.length<=600) (Zfb N (λbh dE bp=>(some ((dE,()),(bp,())))) n c l)
 |0,c,l,h,_,_=>by omega
 |n+1,c,l,h,hc,hl=>by
  unfold Zfb;refine(War 2 hc).bind λc v hc hv=>?_;have hv:=hv.2 (by decide);have e:We .i64 24 v.1=24+v.1:=Wp (by unfold I64;omega);simp only[e];refine .bif (λh0=>?_) λ_=>.ok hc (by simp only[];omega);have h0:(l.length:Int)<24+v.1:=of_decide_eq_true h0;exact .bifT (Ws (by simp;omega)) (Wpk n c _ (by simp[Xaf];omega) hc (by simp[Xaf];omega))
theorem Wwu(hN:1048576<N){l:List Opn}(hc:WaH c)(hl:l.length<=500):Drw (λv:List Opn×Unit=>v.1.length<=600) (Zgs N c l):=by
 unfold Zgs;have en:Xe ([]:List Opn) l=l:=rfl;simp only[en];refine .bifT (Ws (by simp;omega)) (.bif (λ_=>.ok hc (by simp)) λh0=>?_);have hpos:0<l.length:=by
  cases l with
  |nil=>exact absurd h0 (by decide)
  |cons a b=>simp
 refine(War (Wb l) hc).bind λc k hc hk=>?_;have hk:=hk.2 (by unfold Wb;omega);unfold Wb at hk;obtain⟨k,u⟩:=k;simp only at hk;obtain⟨j,rfl⟩:=Xfw hk.1;have hj:j<l.length:=by omega
 have ei:inb (j:Int) l.length=true:=Wn hj;have e1:We .i64 (j:Int) 1=((j+1:Nat):Int):=Wg (by omega);have c1:((decide ((0:Int)<=(j:Int)))&&(decide ((j:Int)<=((Xa l):Int))))=true:=by simp;omega
 have c2:((decide ((0:Int)<=((j+1:Nat):Int)))&&(decide (((j+1:Nat):Int)<=((Xa l):Int))))=true:=by simp;omega
 refine(War 6 hc).bind λc v hc hv=>?_;simp only[e1,ei,c1,c2,cond_true,Wqo rfl];refine .bif (λ_=>?_) λ_=>.bif (λ_=>.ok hc (by simp;omega)) λ_=>.bif (λ_=>?_) λ_=>.bif (λ_=>?_) λ_=>.bif (λ_=>.ok hc (by simp;omega)) λ_=>?_
 .exact(Ww8 hc).bind λc w hc _=>.ok hc (by simp;omega)
 .have hlen:(List.drop (Xb ((j+1:Nat):Int)) (Xau l.length l)).length=l.length-(j+1):=by rw[Xj,List.length_drop,Xap];omega
  have iK:(Xau (Xb (j:Int)) l).length=j:=by rw[Xj,Xap];omega
  exact .bifT (Ws (by rw[Xj];omega)) (.ok hc (by simp only[Xaf,Xz];omega))
 .exact Wpk N c l (by omega) hc hl
 .exact(War 2 hc).bind λc w hc _=>.ok hc (by simp;omega)
end
end
section
def Ww3(f:Y_Family)(k:Nat)(x:Y_KidRun):Y_Family:=U9 (Xl (Q9 f) k x) f
def again(f:Y_Family)(x:Y_KidRun):Y_KidRun:=(0,(0,(f.2.1,(x.2.2.2.1+1,(0,(0,(P4 f,([],([],([],(false,(0,(0,(0,0))))))))))))))
def Wpq(x:Y_KidRun)(c:Int):Pb:=bif P10 x then Q11 x else(c,(0,(0,0)))
def Wh5(m:Mm)(f:Y_Family)(x:Y_KidRun)(o:Int×Int×Int×Int):Y_Family×Y_KidRun:=
 match Wbk (P8 x) o.2.2.1 with
 |some v=>(f,S6 (Xl (P6 x) (Xb o.2.1) v) (S1 (x.2.1+1) x))
 |none=>match ent (P6 f) o.2.2.1 with
  |some r=>bif decide (r.2.2.2>x.2.2.1)then(f,again f x)else(f,S7 (P7 x++ [r.2]) (S6 (Xl (P6 x) (Xb o.2.1) r.2.2.1) (S1 (x.2.1+1) x)))
  |none=>
   bif (W0 m f.1 (Wpq x o.2.2.1)).2.1==4 then(S3 true f,U11 (W0 m f.1 (Wpq x o.2.2.1)) (S10 true x))else
   bif (W0 m f.1 (Wpq x o.2.2.1)).2.1==3 then(f,U14 0 (S13 0 (S12 0 (S11 0 (S10 false (S7 (P7 x++ [(o.2.2.1,((W0 m f.1 (Wpq x o.2.2.1)).2.2.2,-1))]) (S6 (Xl (P6 x) (Xb o.2.1) (W0 m f.1 (Wpq x o.2.2.1)).2.2.2) (S1 (x.2.1+1) x))))))))else
   (f,U11 (W0 m f.1 (Wpq x o.2.2.1)) (S10 true x))
structure ReadOk(m:Mm)(f:Y_Family)(x:Y_KidRun)(o:Int×Int×Int×Int):Prop where
 mem:WZ m=true
 regs:(P6 x).length=4
 famr:(P4 f).length=4
 rA:0<=o.2.1/\o.2.1<=3
 cB:W5 o.2.2.1=true
 seen:(P7 x).length<=1000
 wr:(P8 x).length<=1000
 buf:(P6 f).length<=1000
 ver:∀e∈P6 f,0<=e.2.2
 since:0<=x.2.2.1
 pc:0<=x.2.1/\x.2.1<=1000
 tries:0<=x.2.2.2.1/\x.2.2.2.1<=100000
 pb:P10 x=true->Wll (Q11 x)=true
theorem ReadOk.pbO{m:Mm}{f:Y_Family}{x:Y_KidRun}{o:Int×Int×Int×Int}(h:ReadOk m f x o):Wll (Wpq x o.2.2.1)=true:=by
 unfold Wpq;cases hb:P10 x
 .have:=h.cB;unfold Wll;simp[this,Wbi]
 .exact h.pb hb
theorem Wtj{x:Y_KidRun}(h:P10 x=true):S10 true x=x:=by rw[←h];rfl
theorem WcG{a:Int}(h:0<=a/\a<=1000000):We .i64 a 1=a+1:=Wp (by unfold I64;omega)
theorem rgI{r:List Int}{a:Int}(h:r.length=4)(ha:0<=a/\a<=3):inb a r.length=true:=by unfold inb;rw[h];simp;omega
theorem WeF{N:Nat}{f:Y_Family}{k:Nat}{x:Y_KidRun}(hk:k<(Q9 f).length)(h:(P4 f).length=4)(ht:0<=x.2.2.2.1/\x.2.2.2.1<=100000):
  Zbh N (U9 (Xl (Q9 f) k x) f) (k:Int)=some ((Ww3 f k (again f x),()),()):=by
 have e0:Zu N (P4 (U9 (Xl (Q9 f) k x) f))=ret (P4 f):=Wbn (show(P4 f).length<=1048576 by omega);have e1:Q9 (U9 (Xl (Q9 f) k x) f)=Xl (Q9 f) k x:=rfl;have fA:k<(Xl (Q9 f) k x).length:=by simpa using hk
 unfold Zbh;rw[e0,e1];have e2:Xd (Xl (Q9 f) k x) (Xb (k:Int)) d_KidRun=x:=by rw[Wq fA];simp
 rw[e2,Wn fA,WcG (by omega),Xj];simp only[cond_true,ret,Xc,Xdo];rfl
theorem WlP{N:Nat}{m:Mm}{f:Y_Family}{k:Nat}{o:Int×Int×Int×Int}(hk:k<(Q9 f).length)(h:ReadOk m f (Q9 f)[k] o)(hN:1048576<N):
  Zh4 N f (k:Int) o m=some ((Ww3 (Wh5 m f (Q9 f)[k] o).1 k (Wh5 m f (Q9 f)[k] o).2,()),()):=by
 generalize hx:(Q9 f)[k]=x at h;have hw:=h.wr;have hs:=h.seen;have hb:=h.buf;have hr:=h.regs;have ex:Xd (Q9 f) (Xb (k:Int)) d_KidRun=x:=by rw[Wq hk,hx]
 unfold Zh4 Wh5;simp only[Wt];rw[Wn hk,ex,Xj,WeC (show(P8 x).length<=1048576 by omega) hN,WcG (by have:=h.pc;omega)];rcases Wbk (P8 x) o.2.2.1 with _|v
 .simp only[opI,Xc,cond_false,cond_true];have hE:Zcg N (U9 (Xl (Q9 f) k x) f) o.2.2.1=ret (match ent (P6 f) o.2.2.1 with|some r=>(r.1:Int)|none=>-1):=WfQ (f:=U9 (Xl (Q9 f) k x) f) (show(P6 f).length<=1048576 by omega) hN;rw[hE,WeF hk h.famr h.tries];rcases he:ent (P6 f) o.2.2.1 with _|r
  .simp only[ret,Xc,show decide ((-1:Int)>=0)=false from rfl,cond_false];have hp:=h.pbO;cases hc:P10 x
   .have nH:Wpq x o.2.2.1=(o.2.2.1,(0,(0,0))):=by unfold Wpq;rw[hc];rfl
    have hn:Zew N o.2.2.1=some ((),((o.2.2.1,(0,(0,0))),(true,()))):=by
     unfold Zew;simp only[Wj,ret,Xc,h.cB,Xab,cond_false]
    rw[nH]at hp⊢;simp only[Bool.not_false,cond_true,hn,WeS h.mem hp hN,ret,Xc,rgI hr h.rA];generalize W0 m f.1 (o.2.2.1,(0,(0,0)))=q;rw[Ws (by simp;omega)];cases q.2.1==4<;>cases q.2.1==3<;>rfl
   .have nH:Wpq x o.2.2.1=Q11 x:=by unfold Wpq;rw[hc];rfl
    rw[nH]at hp⊢;simp only[Xab,cond_false,WeS h.mem hp hN,ret,Xc,rgI hr h.rA,cond_true];generalize W0 m f.1 (Q11 x)=q;rw[Ws (by simp;omega),Wtj hc];cases q.2.1==4<;>cases q.2.1==3<;>rfl
  .have hm:=WcU he;have hi:r.1<(P6 f).length:=by have:=hm.2.2.1;omega
   have hg:(P6 f)[r.1]=r.2:=by
    have:=hm.2.2.2;rw[Nat.sub_zero,List.getElem?_eq_getElem hi]at this;exact Option.some.inj this
   have e2:decide (((r.1:Nat):Int)>=0)=true:=by simp
   simp only[ret,Xc,e2,cond_true,Wn hi,rgI hr h.rA];rw[Wq hi,hg,Ws (by simp;omega)];cases decide (r.2.2.2>x.2.2.1)<;>rfl
 .simp only[opI,Xc,cond_true,rgI hr h.rA];rfl
end
section
structure Lin{α:Type}(cf:α->α->Int):Prop where
 irr:∀x,¬cf x x<0
 tr:∀x y z,cf x y<0->cf y z<0->cf x z<0
 nt:∀x y z,¬cf x y<0->¬cf y z<0->¬cf x z<0
theorem WvC:Lin cfE:=⟨λx=>by unfold cfE;omega,λx y z=>by unfold cfE;omega,λx y z=>by unfold cfE;omega⟩
theorem Wni:Lin cfH:=⟨λx=>by rw[WbG];omega,λx y z=>by simp only[WbG];omega,λx y z=>by simp only[WbG];omega⟩
def Ris{α:Type}(cf:α->α->Int)(l:List α):Prop:=l.Pairwise λa b=>cf a b<0
def WfJ{α:Type}(cf:α->α->Int):List α->α->List α
 | [],e=>[e]
 |x::l,e=>if cf x e<0 then x::WfJ cf l e else if cf e x<0 then e::x::l else e::l
def Ap{α:Type}(cf:α->α->Int)(x y:α):Prop:=cf x y<0\/cf y x<0
variable{α:Type}{cf:α->α->Int}
theorem Lin.ap(h:Lin cf){x y:α}(hn:¬Ap cf x y){z:α}:(cf x z<0↔cf y z<0)/\(cf z x<0↔cf z y<0):=by
 unfold Ap at hn;refine⟨⟨λa=>?_,λa=>?_⟩,⟨λa=>?_,λa=>?_⟩⟩
 .exact Classical.byContradiction λc=>h.nt x y z (λq=>hn (.inl q)) c a
 .exact Classical.byContradiction λc=>h.nt y x z (λq=>hn (.inr q)) c a
 .exact Classical.byContradiction λc=>h.nt z y x c (λq=>hn (.inr q)) a
 .exact Classical.byContradiction λc=>h.nt z x y c (λq=>hn (.inl q)) a
theorem Wbu(hc:Lin cf){e x:α}:∀{l:List α},Ris cf l->(x∈WfJ cf l e↔x=e\/(x∈l/\Ap cf x e))
 | [],_=>by simp[WfJ]
 |y::l,h=>by
  have hl:=(Xad.1 h);unfold WfJ;by_cases h1:cf y e<0
  .rw[if_pos h1,Xo,Wbu hc hl.2,Xo];refine⟨?_,?_⟩
   .rintro(rfl|h|h)
    .exact .inr ⟨.inl rfl,.inl h1⟩
    .exact .inl h
    .exact .inr ⟨.inr h.1,h.2⟩
   .rintro(h|⟨rfl|h,h'⟩)
    .exact .inr (.inl h)
    .exact .inl rfl
    .exact .inr (.inr ⟨h,h'⟩)
  .rw[if_neg h1];by_cases h2:cf e y<0
   .rw[if_pos h2];simp only[Xo];refine⟨?_,?_⟩
    .rintro(h|rfl|h)
     .exact .inl h
     .exact .inr ⟨.inl rfl,.inr h2⟩
     .exact .inr ⟨.inr h,.inr (hc.tr _ _ _ h2 (hl.1 x h))⟩
    .rintro(h|⟨rfl|h,_⟩)
     .exact .inl h
     .exact .inr (.inl rfl)
     .exact .inr (.inr h)
   .rw[if_neg h2];simp only[Xo];have hn:¬Ap cf y e:=by unfold Ap;omega
    refine⟨?_,?_⟩
    .rintro(h|h)
     .exact .inl h
     .exact .inr ⟨.inr h,.inr ((hc.ap hn).1.1 (hl.1 x h))⟩
    .rintro(h|⟨rfl|h,h'⟩)
     .exact .inl h
     .exact absurd h' hn
     .exact .inr h
theorem WcN(hc:Lin cf){e:α}:∀{l:List α},Ris cf l->Ris cf (WfJ cf l e)
 | [],_=>by simp[WfJ,Ris]
 |y::l,h=>by
  have hl:=(Xad.1 h);unfold WfJ;by_cases h1:cf y e<0
  .rw[if_pos h1];refine Xad.2 ⟨λx hx=>?_,WcN hc hl.2⟩;rcases(Wbu hc hl.2).1 hx with rfl|hx
   .exact h1
   .exact hl.1 x hx.1
  .rw[if_neg h1];by_cases h2:cf e y<0
   .rw[if_pos h2];refine Xad.2 ⟨λx hx=>?_,h⟩;rcases Xo.1 hx with rfl|hx
    .exact h2
    .exact hc.tr _ _ _ h2 (hl.1 x hx)
   .rw[if_neg h2];have hn:¬Ap cf y e:=by unfold Ap;omega
    exact Xad.2 ⟨λx hx=>(hc.ap hn).1.1 (hl.1 x hx),hl.2⟩
theorem WnV(hc:Lin cf){L M:List α}(hM:Ris cf M)(hL:L.Pairwise (Ap cf))(hm:∀x,x∈L↔x∈M):sortBy cf L=M:=by
 have hn:∀{l:List α},l.Pairwise (Ap cf)->l.Nodup:=λh=>h.imp λ{a b} cu=>by
  rintro rfl;unfold Ap at cu;have:=hc.irr a;omega
 have hM':M.Pairwise (Ap cf):=hM.imp λh=>.inl h;have hp:L.Perm M:=(List.perm_ext_iff_of_nodup (hn hL) (hn hM')).2 hm;unfold sortBy;have h1:=List.pairwise_mergeSort (le:=λx y=>!lessBy cf y x) (λa b c=>by
  simp only[lessBy,Xao,decide_eq_false_iff_not]
  exactλh1 h2=>hc.nt _ _ _ h2 h1) (λa b=>by
  simp only[lessBy,Xbs,Xao,decide_eq_false_iff_not];rcases Classical.em (cf b a<0)with h|h
  .exact .inr λh'=>hc.irr _ (hc.tr _ _ _ h h')
  .exact .inl h) L
 refine List.Perm.eq_of_pairwise ?_ h1 (hM.imp λ{a b} h=>?_) ((Xgj _ _).trans hp)
 .intro a b ha hb h1 h2;simp only[lessBy,Xao,decide_eq_false_iff_not]at h1 h2;have zp:a∈M:=(hm a).1 ((Xgj _ _).mem_iff.1 ha);obtain⟨i,hi,rfl⟩:=Xaq zp;obtain⟨j,hj,rfl⟩:=Xaq hb;rcases Nat.lt_trichotomy i j with h|h|h
  .exact absurd (Xav.1 hM i j hi hj h) h2
  .subst h;rfl
  .exact absurd (Xav.1 hM j i hj hi h) h1
 .simp only[lessBy,Xao,decide_eq_false_iff_not]
  exactλh'=>hc.irr _ (hc.tr _ _ _ h h')
theorem WoF{r:α->α->Bool}{R:α->α->Prop}(hr:∀a b,R a b->r a b=true):∀{l:List α},l.Pairwise R->Wls r l=true
 | [],_=>rfl
 |x::l,h=>by
  have:=Xad.1 h;simp only[Wls,Xh,Xae];exact⟨λy hy=>hr _ _ (this.1 y hy),WoF hr this.2⟩
theorem WoE(hc:Lin cf){rng:α->Bool}{N:Nat}{L M:List α}(hM:Ris cf M)(hL:L.Pairwise (Ap cf))(hm:∀x,x∈L↔x∈M)(hr:∀x∈L,rng x=true)(hl:L.length<=1048576):
  Zmj rng cf N L=some ((M,()),()):=by
 unfold Zmj;rw[Xae.2 hr,WoF (R:=Ap cf) (λa b h=>by unfold apart lessBy;simpa [Ap]using h) hL,decide_eq_true (by omega)];rw[←WnV hc hM hL hm];rfl
theorem WmD(hc:Lin cf){L:List α}{e:α}{i:Nat}(hL:L.Pairwise (Ap cf))(hi:i<L.length)(hk:¬Ap cf L[i] e):(L.set i e).Pairwise (Ap cf)/\∀x,x∈L.set i e↔x=e\/(x∈L/\Ap cf x e):=by
 have lj:∀{z},Ap cf L[i] z↔Ap cf e z:=λ{z}=>by unfold Ap;rw[(hc.ap hk).1,(hc.ap hk).2]
 have kI:∀{a b:α},Ap cf a b->Ap cf b a:=λh=>h.symm;have hG:=Xav.1 hL;refine⟨?_,λx=>⟨λhx=>?_,?_⟩⟩
 .rw[Xav];intro a b ha hb cu;rw[Xaa]at ha hb;rw[Xam,Xam];by_cases h1:i=a
  .rw[if_pos h1,if_neg (by omega)];subst h1;exact lj.1 (hG i b ha hb cu)
  .rw[if_neg h1];by_cases h2:i=b
   .rw[if_pos h2];subst h2;exact kI (lj.1 (kI (hG a i ha hb cu)))
   .rw[if_neg h2];exact hG a b ha hb cu
 .obtain⟨j,hj,rfl⟩:=Xaq hx;rw[Xaa]at hj;rw[Xam];by_cases h1:i=j
  .rw[if_pos h1];exact .inl rfl
  .rw[if_neg h1];refine .inr ⟨Xx hj,?_⟩;rcases Nat.lt_or_gt_of_ne h1 with h|h
   .exact kI (lj.1 (hG i j hi hj h))
   .exact kI (lj.1 (kI (hG j i hj hi h)))
 .rintro(rfl|⟨hx,eT⟩)
  .exact Xgg.2 ⟨i,by simpa using hi,by simp⟩
  .obtain⟨j,hj,rfl⟩:=Xaq hx;refine Xgg.2 ⟨j,by simpa using hj,?_⟩;rw[Xam,if_neg];rintro rfl;exact hk eT
theorem Wjp{L:List α}{e:α}(hL:L.Pairwise (Ap cf))(hk:∀x∈L,Ap cf x e):(L++ [e]).Pairwise (Ap cf)/\∀x,x∈L++ [e]↔x=e\/(x∈L/\Ap cf x e):=by
 refine⟨List.pairwise_append.2 ⟨hL,List.pairwise_singleton _ _,λa ha b hb=>?_⟩,λx=>?_⟩
 .rw[Xac]at hb;subst hb;exact hk a ha
 .simp only[List.mem_append,Xac];refine⟨?_,?_⟩
  .rintro(h|h)
   .exact .inr ⟨h,hk x h⟩
   .exact .inl h
  .rintro(h|h)
   .exact .inr h
   .exact .inl h.1
end
section
abbrev KM:=Int×Int×List Int
structure Kd where
 phase:Int:=0
 pc:Int:=0
 since:Int:=0
 tries:Int:=0
 pos:Int:=0
 out:Int:=0
 regs:List Int:=[]
 seen:List En:=[]
 writes:List Rw:=[]
 marks:List KM:=[]
 busy:Bool:=false
 pb:Pb:=(0,0,0,0)
def Kd.e(x:Kd):Y_KidRun:=(x.phase,x.pc,x.since,x.tries,x.pos,x.out,x.regs,x.seen,x.writes,x.marks,x.busy,x.pb)
structure Fm where
 rv:Int:=0
 clock:Int:=0
 owner:Int:=0
 lost:Bool:=false
 regs:List Int:=[]
 start:List Rw:=[]
 buf:List En:=[]
 order:List Int:=[]
 reads:List Rw:=[]
 kids:List Kd:=[]
def Fm.e(f:Fm):Y_Family:=(f.rv,f.clock,f.owner,f.lost,f.regs,f.start,f.buf,f.order,f.reads,f.kids.map Kd.e)
def zOp:Opn:=(0,0,0,0)
def opN(code:List Opn)(i:Int):Opn:=Xd code i.toNat zOp
def WbL{α:Type}(l:List α)(i:Int)(d:α):α:=Xd l i.toNat d
def WlR{α:Type}(l:List α)(i:Int)(x:α):List α:=Xl l i.toNat x
def Wg2{α:Type}(l:List α)(d:α):α:=Xd l (l.length-1) d
def Wie(l:List Opn)(m:Nat):Nat:=((Xbt l.length).find? λk=>decide (m<=k)&&decide (dep l (k+1)=dep l m)).getD 0
def Fm.again(f:Fm)(x:Kd):Kd:={since:=f.clock,tries:=x.tries+1,regs:=f.regs}
def Wec(m:Mm)(f:Fm)(x:Kd)(o:Opn):Fm×Kd:=
 match Wbk x.writes o.2.2.1 with
 |some v=>(f,{x with regs:=WlR x.regs o.2.1 v,pc:=x.pc+1})
 |none=>match ent f.buf o.2.2.1 with
  |some r=>if r.2.2.2>x.since then(f,f.again x)else(f,{x with regs:=WlR x.regs o.2.1 r.2.2.1,seen:=x.seen++ [r.2],pc:=x.pc+1})
  |none=>
   let p:=W0 m f.rv (if x.busy then x.pb else(o.2.2.1,0,0,0))
   if p.2.1=4 then({f with lost:=true},{x with busy:=true,pb:=p})
   else if p.2.1=3 then(f,{x with regs:=WlR x.regs o.2.1 p.2.2.2,seen:=x.seen++ [(o.2.2.1,p.2.2.2,-1)],busy:=false,pb:=(0,0,0,0),pc:=x.pc+1})
   else(f,{x with busy:=true,pb:=p})
def Wh1(x:Kd)(code:List Opn):Kd:=
 if x.marks.length=0 then{x with writes:=[],out:=2,phase:=1}else
 let q:=Wg2 x.marks (0,0,[])
 {x with marks:=x.marks.dropLast,regs:=WlR q.2.2 (opN code q.1).2.1 0,writes:=x.writes.take q.2.1.toNat,pc:=Wie code q.1.toNat+1}
def WqG(m:Mm)(f:Fm)(x:Kd)(code:List Opn):Fm×Kd:=
 if x.pc>=code.length then(f,{x with out:=1,phase:=1})else
 let o:=opN code x.pc
 if o.1=5 then Wec m f x o else
 if o.1=10 then(f,Wh1 x code)else
 if o.1=6 then(f,{x with writes:=x.writes++ [(o.2.1,WbL x.regs o.2.2.1 0)],pc:=x.pc+1})else
 if o.1=7 then(f,{x with pc:=(if WbL x.regs o.2.1 0=0 then x.pc+o.2.2.1 else x.pc)+1})else
 if o.1=8 then(f,{x with marks:=x.marks++ [(x.pc,(x.writes.length:Int),x.regs)],pc:=x.pc+1})else
 if o.1=9 then(f,{x with marks:=x.marks.dropLast,regs:=WlR x.regs (opN code (Wg2 x.marks (0,0,[])).1).2.1 1,pc:=x.pc+1})else
 (f,{x with regs:=Wmx o x.regs,pc:=x.pc+1})
def WdN(c:Int)(b:List En)(rows:List Rw):List En:=rows.foldl (λb r=>WfJ cfE b (r.1,r.2,c)) b
def Wbe(l:List En):List Rw:=(l.filter λe=>decide (e.2.2= -1)).map λe=>(e.1,e.2.1)
def Wdf(f:Fm)(x:Kd)(k:Nat):Fm×Kd:=
 ({f with clock:=f.clock+1,buf:=WdN (f.clock+1) f.buf (Wc3 x.writes),reads:=f.reads++Wbe x.seen,order:=f.order++ [(k:Int)],owner:=0},{x with phase:=3,pos:=0,marks:=[]})
def Wvr(b:List En)(c:Int):Int:=match ent b c with
 |some r=>r.2.2.2
 |none=>-1
def Wea(m:Mm)(f:Fm)(x:Kd)(k:Nat)(code:List Opn):Fm×Kd:=
 if x.phase=0 then WqG m f x code else
 if x.phase=1 then(if f.owner=0 then({f with owner:=(k:Int)+1},{x with phase:=2})else(f,x))else
 if x.phase=2 then
  if x.pos=x.seen.length then Wdf f x k else
  let s:=WbL x.seen x.pos (0,0,0)
  if Wvr f.buf s.1=s.2.2 then(f,{x with pos:=x.pos+1})else({f with owner:=0},f.again x)
 else(f,x)
def Fm.put(q:Fm×Kd)(k:Nat):Fm:={q.1 with kids:=q.1.kids.set k q.2}
def Wcz(m:Mm)(f:Fm)(k:Nat)(code:List Opn):Fm:=
 if f.lost then f else Fm.put (Wea m f (f.kids.getD k {}) k code) k
def Wax(rv:Int)(regs:List Int)(writes:List Rw)(kids:Nat):Fm:=
 {rv:=rv,regs:=regs,start:=Wc3 writes,buf:=(Wc3 writes).map λr=>(r.1,r.2,0),kids:=List.replicate kids {regs:=regs}}
def Wa6(f:Fm):Bool:=f.kids.all λx=>decide (x.phase=3)
def WgV(f:Fm):List Rw:=f.buf.map λe=>(e.1,e.2.1)
def Wur(x:Kd):Int:=if x.out=1/\Wfp x.regs=true then WbL x.regs 0 0 else 0
def Wh2(f:Fm):List Int:=
 if Wfp f.regs=true/\f.kids.length<=3 then f.kids.map Wur++f.regs.drop f.kids.length else []
structure KMk(code:List Opn)(pc:Nat)(marks:List KM)(wl:Nat):Prop where
 pcs:marks.map (·.1)=(stk code pc).map λm:Nat=>(m:Int)
 each:∀q∈marks,Vals 4 q.2.2/\0<=q.2.1/\q.2.1<=q.1/\q.2.1<=wl
 up:marks.Pairwise λa b=>a.2.1<=b.2.1
structure KOk(code:List Opn)(c n:Int)(x:Kd):Prop where
 pc:0<=x.pc/\x.pc<=code.length
 regs:Vals 4 x.regs
 rows:Wi5 x.writes
 wl:(x.writes.length:Int)<=x.pc
 sl:(x.seen.length:Int)<=x.pc
 since:0<=x.since/\x.since<=c
 tries:0<=x.tries/\x.tries<=n
 seen:∀e∈x.seen,(0<=e.1/\e.1<=7)/\(0<=e.2.1/\e.2.1<=65535)/\ -1<=e.2.2/\e.2.2<=x.since
 marks:x.phase=0->KMk code x.pc.toNat x.marks x.writes.length
 pos:0<=x.pos/\x.pos<=x.seen.length
 pb:x.busy=true->Wll x.pb=true
 phase:0<=x.phase/\x.phase<=3
 out:0<=x.out/\x.out<=2
structure FOk(codes:List (List Opn))(n:Int)(f:Fm):Prop where
 len:f.kids.length=codes.length
 regs:Vals 4 f.regs
 clock:0<=f.clock/\f.clock=f.order.length
 done:f.order.length=f.kids.countP λx=>decide (x.phase=3)
 bufR:Ris cfE f.buf
 bufE:∀e∈f.buf,(0<=e.1/\e.1<=7)/\(0<=e.2.1/\e.2.1<=65535)/\0<=e.2.2/\e.2.2<=f.clock
 readsL:f.reads.length<=24*f.order.length
 readsE:Wi5 f.reads
 owner:0<=f.owner/\f.owner<=f.kids.length
 kid:∀(k:Nat) (h:k<f.kids.length),KOk (codes.getD k []) f.clock n f.kids[k]
end
section
structure CC(l:List Opn):Prop where
 len:l.length<=24
 up:Up l
 z:dep l l.length=0
 ok:∀i (h:i<l.length),Wap l[i]=true/\1<=l[i].1/\l[i].1<=16
 sk:∀i (h:i<l.length),l[i].1=7->i+1+l[i].2.2.1.toNat<=l.length/\bal ((l.take (i+1+l[i].2.2.1.toNat)).drop (i+1))=true
 fk:∀i (h:i<l.length),l[i].1=11->dep l i=0/\frk l (i+1)<=1
structure KC(l:List Opn):Prop extends CC l where
 k10:∀i (h:i<l.length),l[i].1<=10
theorem WqM{o:Opn}(h:Wap o=true)(eB:12<=o.1):Wjh o=2:=by
 have kF:=WnL h;have key:=WdG (N:=0) (o:=o);unfold Zb8 at key;rw[Wdp,h]at key;simp only[ret,Xc,Xab,cond_false]at key;have e5:(o.1==5)=false:=by simp;omega
 have e6:(o.1==6)=false:=by simp;omega
 rw[e5,e6]at key;simp only[cond_false]at key;have:o.1=12\/o.1=13\/o.1=14\/o.1=15\/o.1=16:=by omega
 rcases this with hk|hk|hk|hk|hk<;> · rw[hk]at key;simpa using key.symm
theorem Wwd{l:List Opn}(h:WoX l=true):CC l:=by
 unfold WoX at h;simp only[Xh,decide_eq_true_eq,Xao]at h;obtain⟨h1,h2,h3⟩:=h;obtain⟨b1,b2⟩:=Wok.1 h2;have hb:∀i (hi:i<l.length),Wpo l i l[i]=false:=λi hi=>by
  rw[Xby];intro hb;have:Wnh (Wpo l) 0 l=true:=Wgi.2 ⟨i,hi,by rw[Xaw];exact hb⟩;rw[h3]at this;cases this
 have aH:∀i (hi:i<l.length),Wap l[i]=true:=λi hi=>by
  have:=hb i hi;unfold Wpo at this;simp only[Xdy,Xfe]at this;exact this.1.1
 refine⟨h1,b1,b2,λi hi=>⟨aH i hi,WnL (aH i hi)⟩,λi hi h7=>?_,λi hi dj=>?_⟩
 .have:=hb i hi;unfold Wpo at this;simp only[Xdy,Xfe]at this;have h8:=this.1.2;rw[h7]at h8;have:Wht l i l[i]=true:=by simpa using h8
  unfold Wht at this;simpa using this
 .have:=hb i hi;unfold Wpo at this;simp only[Xdy,Xfe]at this;have h8:=this.2;rw[dj]at h8;simp at h8;omega
theorem WwR{l:List Opn}(h:WgX l=true):KC l:=by
 unfold WgX at h;simp only[Xh,Xao]at h;have hc:=Wwd h.1;refine⟨hc,λi hi=>?_⟩;have ct:Wgp l[i]=false:=by
  rw[Xby];intro hb;have:=List.any_eq_true.2 ⟨l[i],Xx hi,hb⟩;rw[h.2]at this;cases this
 unfold Wgp at ct;simp only[Xdy]at ct;by_cases ch:l[i].1<=10
 .exact ch
 .exfalso;by_cases dj:l[i].1=11
  .simp[dj]at ct
  .have:=WqM (hc.ok i hi).1 (by have:=(hc.ok i hi).2;omega);rw[this]at ct;simp at ct
theorem WpM{l:List Opn}{m k:Nat}(h:Mate l m k):Wie l m=k:=by
 unfold Wie;have:(Xbt l.length).find? (λk=>decide (m<=k)&&decide (dep l (k+1)=dep l m))=some k:=by
  rw[List.find?_range_eq_some];have:=h.lt;refine⟨?_,List.mem_range.2 h.len,λj hj=>?_⟩
  .simp[h.eq];omega
  .simp only[Xao,Bool.and_eq_false_iff,decide_eq_false_iff_not];by_cases hm:m<=j
   .exact .inr (h.ne j hm hj)
   .exact .inl hm
 rw[this];rfl
theorem Wft{l:List Opn}{i:Int}(h0:0<=i)(h:i<l.length):∃(n:Nat) (hn:n<l.length),i=n/\opN l i=l[n]:=by
 refine⟨i.toNat,by omega,by omega,?_⟩;unfold opN;exact Wf (by omega) _
theorem Wlm{l:List Opn}{n:Nat}(h:n<l.length):opN l (n:Int)=l[n]:=by
 unfold opN;exact Wf (by simpa using h) _
theorem WpC{α:Type}(q:List α)(x d:α):Wg2 (q++ [x]) d=x:=by unfold Wg2;simp
theorem Whf{M:Type}{g:M->Int}{l:List Opn}{pc:Nat}{marks:List M}{d:M}(hc:CC l)(hp:pc<=l.length)(hm:marks.map g=(stk l pc).map λm:Nat=>(m:Int))(hne:marks.length≠0):
  ∃(m:Nat) (q:List M) (x:M),marks=q++ [x]/\Wg2 marks d=x/\g x=(m:Int)/\(∃hm:m<l.length,l[m].1=8)/\m<pc/\Mate l m (Wie l m)/\pc<=Wie l m/\stk l m=(stk l pc).dropLast/\q.map g=(stk l m).map λm:Nat=>(m:Int):=by
 rcases Wcc marks with h0|⟨q,x,hq⟩
 .rw[h0]at hne;simp at hne
 .rw[hq,Xp,Xai,Xck]at hm;rcases Wcc (stk l pc)with h0|⟨t,m,ht⟩
  .rw[h0]at hm;simp at hm
  .rw[ht,Xp,Xai,Xck]at hm;obtain⟨e1,e2⟩:=Xen hm rfl;injection e2 with e2;obtain⟨k,k1,k2,k3⟩:=WuT hc.up hc.z hp ht;have k4:=WpM k2;obtain⟨hlt,h8,_,_⟩:=Wlw pc hp t [] m ht;refine⟨m,q,x,hq,by rw[hq];exact WpC q x d,e2,h8,hlt,by rw[k4];exact k2,by omega,by rw[ht,Xev];exact k3,by rw[k3];exact e1⟩
end
section
theorem WjY{l:List Rw}{c v:Int}:∀(i:Nat),i<=l.length->Wit l c i=some v->(c,v)∈l
 |0,_,h=>by simp[Wit]at h
 |i+1,hi,h=>by
  unfold Wit at h;rw[Wf (show i<l.length by omega)]at h;by_cases hc:l[i].1=c
  .rw[if_pos hc]at h;injection h with h;have:l[i]=(c,v):=by rw[←hc,←h]
   rw[←this];exact Xx _
  .rw[if_neg hc]at h;exact WjY i (by omega) h
theorem Wih{l:List Rw}{c v:Int}(h:Wbk l c=some v):Wbg l=true/\(c,v)∈l:=by
 unfold Wbk at h;by_cases hr:Wbg l=true
 .rw[if_pos hr]at h;exact⟨hr,WjY _ (Xn _) h⟩
 .rw[if_neg hr]at h;cases h
theorem WoG(l:List Rw):∀(j c:Nat) (o:List Rw),WkH l j c o=o++(Xgx c j).filterMap λc:Nat=>(Wbk l (c:Int)).map λv=>((c:Int),v)
 |0,c,o=>by simp[WkH]
 |j+1,c,o=>by
  rw[WkH,WoG l j,List.range'_succ,List.filterMap_cons];unfold Wlv;cases h:Wbk l (c:Int)<;>simp
theorem Woa(l:List Rw):Wc3 l=(Xgx 0 8).filterMap λc:Nat=>(Wbk l (c:Int)).map λv=>((c:Int),v):=by unfold Wc3;rw[WoG];simp
theorem WoD{l:List Rw}{r:Rw}:r∈Wc3 l↔(0<=r.1/\r.1<=7)/\Wbk l r.1=some r.2:=by
 rw[Woa,List.mem_filterMap];constructor
 .rintro⟨c,hc,h⟩;rw[Xgu]at hc;cases hl:Wbk l (c:Int)with
  |none=>rw[hl]at h;cases h
  |some v=>
   rw[hl]at h;injection h with h;subst h;exact⟨by show 0<=(c:Int)/\(c:Int)<=7;omega,hl⟩
 .rintro⟨h0,h⟩;refine⟨r.1.toNat,Xgu.2 (by omega),?_⟩;rw[show((r.1.toNat:Nat):Int)=r.1 by omega,h];rfl
theorem WnM(l:List Rw):(Wc3 l).Pairwise λa b=>a.1<b.1:=by
 rw[Woa,List.pairwise_filterMap];refine List.Pairwise.imp ?_ (List.pairwise_lt_range' (s:=0) (n:=8));intro a b cu r hr r' bO;cases h1:Wbk l (a:Int)<;>rw[h1]at hr<;>simp at hr;cases h2:Wbk l (b:Int)<;>rw[h2]at bO<;>simp at bO;rw[←hr,←bO];simp;omega
theorem Wgr(l:List Rw):(Wc3 l).length<=8:=by
 rw[Woa];exact Xcr (List.length_filterMap_le _ _) (by simp)
theorem Wgw{l:List Rw}:Wi5 (Wc3 l):=by
 intro r hr;obtain⟨h0,h1⟩:=WoD.1 hr;obtain⟨h2,h3⟩:=Wih h1;unfold Wbg at h2;simp only[Xh]at h2;have:=(WkE.1 h2.2) _ h3;exact⟨h0,this.2⟩
end
section
theorem Wgm{α β:Type}(g:α->β)(l:List α)(i:Nat)(d:α):Xd (l.map g) i (g d)=g (l.getD i d):=by
 by_cases h:i<l.length
 .rw[Wf (show i<(l.map g).length by simpa using h),Wf h];simp
 .rw[Xbc,Xbc,Xbl (by simpa using h),Xbl (by simpa using h)];rfl
theorem kdP(x:Kd):x.e.1=x.phase/\x.e.2.1=x.pc/\x.e.2.2.1=x.since/\x.e.2.2.2.1=x.tries/\P4 x.e=x.pos/\P5 x.e=x.out/\P6 x.e=x.regs/\P7 x.e=x.seen/\P8 x.e=x.writes/\P9 x.e=x.marks/\P10 x.e=x.busy:=⟨rfl,rfl,rfl,rfl,rfl,rfl,rfl,rfl,rfl,rfl,rfl⟩
theorem fmP(f:Fm):f.e.1=f.rv/\f.e.2.1=f.clock/\f.e.2.2.1=f.owner/\f.e.2.2.2.1=f.lost/\P4 f.e=f.regs/\P5 f.e=f.start/\P6 f.e=f.buf/\P7 f.e=f.order/\P8 f.e=f.reads/\Q9 f.e=f.kids.map Kd.e:=⟨rfl,rfl,rfl,rfl,rfl,rfl,rfl,rfl,rfl,rfl⟩
theorem U9e(f:Fm)(k:Nat)(x:Kd):U9 (Xl (f.kids.map Kd.e) k x.e) f.e=Fm.e {f with kids:=f.kids.set k x}:=by
 unfold U9 Fm.e;rw[List.map_set]
theorem WqE{f f':Fm}{k:Nat}{x':Kd}{y:Y_KidRun}{g:Y_Family}(hy:y=x'.e)(hg:g=f'.e)(hf:f'.kids=f.kids):
  some ((U9 (Xl (f.kids.map Kd.e) k y) g,()),())=some (((Fm.put (f',x') k).e,()),()):=by
 subst hy hg;rw[←hf,U9e];rfl
theorem WsD(m:Mm)(f:Fm)(x:Kd)(o:Opn):Wh5 m f.e x.e o=((Wec m f x o).1.e,(Wec m f x o).2.e):=by
 unfold Wh5 Wec;have h1:P8 x.e=x.writes:=rfl;have h2:P6 f.e=f.buf:=rfl;rw[h1,h2];rcases Wbk x.writes o.2.2.1 with _|v
 .rcases ent f.buf o.2.2.1 with _|r
  .have h3:Wpq x.e o.2.2.1=if x.busy then x.pb else(o.2.2.1,0,0,0):=by
    unfold Wpq;have:P10 x.e=x.busy:=rfl;rw[this];cases x.busy<;>rfl
   simp only[h3];have h4:f.e.1=f.rv:=rfl;rw[h4];generalize W0 m f.rv (if x.busy then x.pb else(o.2.2.1,0,0,0))=p;by_cases e4:p.2.1=4
   .have:(p.2.1==4)=true:=by simpa using e4
    rw[if_pos e4,this];rfl
   .have:(p.2.1==4)=false:=by simpa using e4
    rw[if_neg e4,this];by_cases e3:p.2.1=3
    .have:(p.2.1==3)=true:=by simpa using e3
     rw[if_pos e3,this];rfl
    .have:(p.2.1==3)=false:=by simpa using e3
     rw[if_neg e3,this];rfl
  .simp only;have h5:x.e.2.2.1=x.since:=rfl;rw[h5];by_cases hv:r.2.2.2>x.since
   .rw[if_pos hv,decide_eq_true hv];rfl
   .rw[if_neg hv,decide_eq_false hv];rfl
 .rfl
theorem WpW(m:Mm)(f:Fm)(x:Kd)(o:Opn):(Wec m f x o).1.kids=f.kids:=by
 unfold Wec;cases Wbk x.writes o.2.2.1 with
 |some v=>rfl
 |none=>
  cases ent f.buf o.2.2.1 with
  |some r=>simp only;split<;>rfl
  |none=>
   simp only;generalize W0 m f.rv _=p
   repeat' split
   all_goals rfl
variable{N:Nat}{codes:List (List Opn)}{n:Int}{f:Fm}{k:Nat}{code:List Opn}{m:Mm}{x:Kd}
theorem FOk.buf8(h:FOk codes n f):f.buf.length<=8:=by
 have:∀(l:List En) (c:Int),Ris cfE l->(∀e∈l,c<=e.1/\e.1<=7)->(l.length:Int)<=8-c\/l= []:=by
  intro l
  induction l with
  |nil=>intro c _ _;exact .inr rfl
  |cons a l ih=>
   intro c hr hb;left;have h1:=Xad.1 hr;have ha:=hb a (Xi ..);rcases ih (a.1+1) h1.2 (λe he=>⟨by have:=h1.1 e he;unfold cfE at this;omega,(hb e (Xf _ he)).2⟩)with h|h
   .rw[Xr];omega
   .subst h;simp;omega
 rcases this f.buf 0 h.bufR (λe he=>by have:=(h.bufE e he).1;omega)with h|h
 .omega
 .rw[h];simp
theorem Wso(hF:FOk codes n f)(hx:KOk code f.clock n x)(bg:KC code)(hm:WZ m=true)(hn:n<=100000){o:Opn}(hA:Wh o.2.1=true)(hB:W5 o.2.2.1=true):ReadOk m f.e x.e o where
 mem:=hm
 regs:=hx.regs.len
 famr:=hF.regs.len
 rA:=by unfold Wh at hA;simpa using hA
 cB:=hB
 seen:=by have:=hx.sl;have:=hx.pc;have:=bg.len;show x.seen.length<=1000;omega
 wr:=by have:=hx.wl;have:=hx.pc;have:=bg.len;show x.writes.length<=1000;omega
 buf:=by have:=hF.buf8;show f.buf.length<=1000;omega
 ver:=λe he=>(hF.bufE e he).2.2.1
 since:=hx.since.1
 pc:=by have:=hx.pc;have:=bg.len;show 0<=x.pc/\x.pc<=1000;omega
 tries:=by have:=hx.tries;show 0<=x.tries/\x.tries<=100000;omega
 pb:=hx.pb
theorem Wu{α:Type}{a b:Int}{x y:α}:(bif a==b then x else y)=if a=b then x else y:=by
 by_cases h:a=b
 .have:(a==b)=true:=by simpa using h
  rw[this,if_pos h];rfl
 .have:(a==b)=false:=by simpa using h
  rw[this,if_neg h];rfl
theorem Wav{α:Type}{p:Prop}[Decidable p]{x y:α}:(bif decide p then x else y)=if p then x else y:=by
 by_cases h:p
 .rw[if_pos h,decide_eq_true h];rfl
 .rw[if_neg h,decide_eq_false h];rfl
theorem Wk0(bg:KC code)(hx:KOk code f.clock n x)(h0:x.phase=0)(hN:1048576<N):Zhn N x.e code=some (((Wh1 x code).e,()),()):=by
 unfold Zhn Wh1;obtain⟨k0,k1,k2,k3,k4,k5,k6,k7,k8,k9,k10⟩:=kdP x;have aS:=hx.pc;have hlen:=bg.len;have hM:=hx.marks h0;simp only[Wt,k9,k8,k1,Wu];by_cases hz:x.marks.length=0
 .rw[if_pos (by unfold Wb;omega),if_pos hz];rfl
 .rw[if_neg (by unfold Wb;omega),if_neg hz];obtain⟨j,q,y,e1,e2,e3,⟨hj,h8⟩,pQ,cO,gg,e5,e6⟩:=Whf (d:=((0,0,[]):KM)) bg.toCC (show x.pc.toNat<=code.length by omega) hM.pcs hz;have nb:x.marks.length=q.length+1:=by rw[e1];simp
  have zq:q.length<=24:=by
   have:=congrArg Xa e6;simp only[Xaj]at this;have h2:=WbI bg.up j (by omega);have h3:=(Wdq code j).2;omega
  have i1:W1 .i64 (Wb x.marks) 1=(q.length:Int):=by rw[Wpt (by omega),nb];omega
  have hy:y∈x.marks:=by rw[e1];simp
  obtain⟨y1,y2,y3,y4⟩:=hM.each y hy;have g1:Xd x.marks (Xb (q.length:Int)) ((0,0,[]):KM)=y:=by rw[e1];simp
  have t1:Xau (Xb (q.length:Int)) x.marks=x.marks.dropLast:=by rw[e1];simp
  have pR:=hx.wl;rw[i1,W7,decide_eq_true (show q.length<x.marks.length by omega)];simp only[cond_true,g1,t1,e2];have b1:((decide ((0:Int)<=(q.length:Int))&&decide ((q.length:Int)<=(x.marks.length:Int)))&&decide ((q.length:Int)<=((Xb (q.length:Int):Nat):Int)))=true:=by
   simp;omega
  rw[b1];simp only[cond_true];rw[Wbn (by rw[y1.len];omega)];simp only[ret,Xc];rw[e3,W7,decide_eq_true hj];have o1:Xd code (Xb ((j:Nat):Int)) ((0,0,0,0):Opn)=code[j]:=Wq hj _;have o2:opN code ((j:Nat):Int)=code[j]:=Wlm hj;have hr:=WwM (bg.ok j hj).1 h8;simp only[cond_true,o1,o2];rw[Wa4 hr y1.len];have b2:(decide ((0:Int)<=y.2.1)&&decide (y.2.1<=(x.writes.length:Int)))=true:=by simp;omega
  rw[b2];simp only[cond_true];rw[WdA (by rw[Xap];omega),Wh7 (by omega) hN ⟨hj,h8⟩ cO];simp only[ret,Xc];rw[WcG (by have:=cO.len;omega),Xj];rfl
theorem WnT(hk:k<f.kids.length)(hm:WZ m=true)(bg:KC code)(hF:FOk codes n f)(aM:codes.getD k []=code)(aC:f.kids[k]=x)(h0:x.phase=0)(hn:n<=100000)(hN:1048576<N):
  Zim N f.e (k:Int) code m=some (((Fm.put (WqG m f x code) k).e,()),()):=by
 have hx:=hF.kid k hk;rw[aM,aC]at hx;obtain⟨k0,k1,k2,k3,k4,k5,k6,k7,k8,k9,k10⟩:=kdP x;obtain⟨f0,f1,f2,f3,f4,f5,f6,f7,f8,f9⟩:=fmP f;have aS:=hx.pc;have hlen:=bg.len;have pR:=hx.wl;have e2:Xd (f.kids.map Kd.e) (Xb (k:Int)) d_KidRun=x.e:=by
  have:=Wgm Kd.e f.kids k {};rw[Wf hk,aC]at this;exact this
 have e3:U9 (Xl (f.kids.map Kd.e) (Xb (k:Int)) x.e) f.e=f.e:=by
  rw[Xj,U9e,←aC,List.set_getElem_self]
 unfold Zim WqG;simp only[Wt,f9,Xaj];rw[W7,decide_eq_true hk];simp only[cond_true,e2,e3,k1,k6,k8,k9,Wav,Wu,show Wb code=(code.length:Int)from rfl];by_cases gd:x.pc>=code.length
 .rw[if_pos gd,if_pos gd];rw[Xj];exact WqE rfl rfl rfl
 .rw[if_neg gd,if_neg gd];obtain⟨j,hj,ej,eo⟩:=Wft (l:=code) aS.1 (by omega);have vR:Xd code (Xb x.pc) ((0,0,0,0):Opn)=opN code x.pc:=rfl;have ib:inb x.pc code.length=true:=by rw[ej,W7];exact decide_eq_true hj
  rw[ib];obtain⟨ok,o1,iT⟩:=bg.ok j hj;have ca:=bg.k10 j hj;simp only[cond_true,vR];rw[←eo]at ok o1 ca;generalize opN code x.pc=o at*;have du:=hx.regs.len;rw[Xj];rw[WcG (show 0<=x.pc/\x.pc<=1000000 by omega)];by_cases h5:o.1=5
  .rw[if_pos h5,if_pos h5];have:=WvX ok h5;have lq:=Wso hF hx bg hm hn this.1 this.2;have e4:(Q9 f.e)[k]'(by rw[f9];simpa using hk)=x.e:=by
    simp only[f9,List.getElem_map,aC]
   have:=WlP (m:=m) (o:=o) (f:=f.e) (k:=k) (by rw[f9];simpa using hk) (by rw[e4];exact lq) hN;rw[this];simp only[Xc,e4,WsD];unfold Ww3;have hQ:=WpW m f x o;rw[show Q9 (Wec m f x o).1.e=f.kids.map Kd.e by rw[←hQ];rfl];exact WqE rfl rfl hQ
  .rw[if_neg h5,if_neg h5];by_cases ch:o.1=10
   .rw[if_pos ch,if_pos ch,Wk0 bg hx h0 hN];exact WqE rfl rfl rfl
   .rw[if_neg ch,if_neg ch];by_cases h6:o.1=6
    .rw[if_pos h6,if_pos h6];rw[Wa4 (WwQ ok h6).2 du,Ws (by simp;omega)];exact WqE rfl rfl rfl
    .rw[if_neg h6,if_neg h6];by_cases h7:o.1=7
     .rw[if_pos h7,if_pos h7];have h:=WvV ok h7;rw[Wa4 h.1 du,Wp (a:=x.pc) (b:=o.2.2.1) (by unfold I64;omega),WcG (a:=x.pc+o.2.2.1) (by omega)];by_cases hg:Xd x.regs (Xb o.2.1) 0=0
      .rw[if_pos hg,if_pos (show WbL x.regs o.2.1 0=0 from hg)];simp only[cond_true];exact WqE rfl rfl rfl
      .rw[if_neg hg,if_neg (show¬WbL x.regs o.2.1 0=0 from hg)];simp only[cond_true];exact WqE rfl rfl rfl
     .rw[if_neg h7,if_neg h7];by_cases h8:o.1=8
      .rw[if_pos h8,if_pos h8];rw[Wbn (by omega)];have qo:x.marks.length<=24:=by
        have:=congrArg Xa (hx.marks h0).pcs;simp only[Xaj]at this;have h2:=WbI bg.up x.pc.toNat (by omega);have h3:=(Wdq code x.pc.toNat).2;omega
       simp only[ret,Xc];rw[Ws (by simp;omega)];exact WqE rfl rfl rfl
      .rw[if_neg h8,if_neg h8];by_cases h9:o.1=9
       .rw[if_pos h9,if_pos h9];have hM:=hx.marks h0;have hz:x.marks.length≠0:=by
         intro hz;have h1:=congrArg Xa hM.pcs;simp only[Xaj,hz]at h1;have h2:=WbI bg.up j (by omega);have h3:=bg.up j hj;rw[WaF hj,Wlp (by rw[←eo];exact h9)]at h3;rw[ej,Xj]at h1;omega
        obtain⟨i,q,y,e1,zr,zt,⟨hi,pS⟩,pQ,cO,gg,e5,e6⟩:=Whf (d:=((0,0,[]):KM)) bg.toCC (show x.pc.toNat<=code.length by omega) hM.pcs hz;have nb:x.marks.length=q.length+1:=by rw[e1];simp
        have qo:x.marks.length<=24:=by
         have:=congrArg Xa (hx.marks h0).pcs;simp only[Xaj]at this;have h2:=WbI bg.up x.pc.toNat (by omega);have h3:=(Wdq code x.pc.toNat).2;omega
        have i1:W1 .i64 (Wb x.marks) 1=(q.length:Int):=by rw[Wpt (by omega),nb];omega
        have g1:Xd x.marks (Xb (q.length:Int)) ((0,0,[]):KM)=y:=by rw[e1];simp
        have t1:Xau (Xb (q.length:Int)) x.marks=x.marks.dropLast:=by rw[e1];simp
        rw[i1,W7,decide_eq_true (show q.length<x.marks.length by omega)];have b1:(decide ((0:Int)<=(q.length:Int))&&decide ((q.length:Int)<=(x.marks.length:Int)))=true:=by simp;omega
        rw[b1];simp only[cond_true,g1,t1,zr];rw[zt,W7,decide_eq_true hi];have o1:Xd code (Xb ((i:Nat):Int)) ((0,0,0,0):Opn)=opN code (i:Int):=rfl;have hr:=WwM (bg.ok i hi).1 pS;rw[←Wlm hi]at hr;simp only[cond_true,o1];rw[Wa4 hr du];exact WqE rfl rfl rfl
       .rw[if_neg h9,if_neg h9];rw[WhC hN ok (by omega) (by omega) hx.regs];exact WqE rfl rfl rfl
end
end Go.Sx
