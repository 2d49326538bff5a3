/- Plain laws of the Lean functions. -/
import Derived.Test.YtnkbflecplbceaaGreatT2
open Option renaming bind_some→Xc
open Nat renaming le_refl→Xm,add_assoc→Xap,add_comm→Xco,zero_add→Xbb,le_trans→Xcn,add_zero→Xax,and_le_right→Xgu
open List renaming mem_cons_self→Xi,mem_cons_of_mem→Xe,length_cons→Xr,take_succ_eq_append_getElem→Xcq,map_append→Xp,getD→Xd,take_of_length_le→Xcx,length→Xa,length_append→Xz,length_dropLast→Xdu,append_inj'→Xel,eq_nil_of_length_eq_zero→Xy,dropLast_concat→Xew,append→Xf,append_eq→Xah,all_eq_true→Xae,mem_cons→Xo,getElem_mem→Xt,getD_eq_getElem?_getD→Xbc,getElem?_eq_none→Xbj,length_set→Xad,set_set→Xdm,take→Xar,length_take→Xan,set→Xl,pairwise_cons→Xab,mergeSort_perm→Xgi,getElem_of_mem→Xat,pairwise_iff_getElem→Xay,getElem_set→Xaq,mem_iff_getElem→Xgd,mem_singleton→Xac,range→Xdf,map_cons→Xaj,map_nil→Xch,range'→Xgs,mem_range'_1→Xgp,length_map→Xaf
open Bool renaming false_or→Xcp,or_eq_true→Xbw,and_eq_true→Xh,not_eq_true'→Xao,not_eq_true→Xfq,not_true→Xaa,toNat_false→Xdn,false_and→Xcs,true_and→Xbp,toNat_true→Xgy,eq_false_iff→Xbz,or_eq_false_iff→Xdv,not_eq_false'→Xff
open Int renaming toNat_natCast→Xj,toNat→Xb,add_zero→Xfu,tmod_eq_emod_of_nonneg→Xea,eq_ofNat_of_zero_le→Xfw
namespace Go.Sx
set_option linter.unusedVariables false
set_option linter.unusedSimpArgs false
section
def Wds(v:Int):Bool:=decide (0≤v)&&decide (v≤65535)
theorem Who{N:Nat}{x a b:Int}:Zbf N x a b=ret (decide (a≤x)&&decide (x≤b)):=by
 unfold Zbf
 by_cases h:a≤x<;>simp[h]
theorem Wj{N:Nat}{x a b:Int}:Zo N x a b=ret (decide (a≤x)&&decide (x≤b)):=by
 unfold Zo
 by_cases h:a≤x<;>simp[h]
theorem Wfu{α:Type}{p:α→Bool}(l:List α):(l.any λx=>!p x)= !l.all p:=by
 induction l with
 |nil=>rfl
 |cons x l ih=>simp[ih,Bool.not_and]
abbrev Rw:=Int×Int
def Waz(v:Int):Bool:=decide (0≤v)&&decide (v≤7)
def isRow(r:Rw):Bool:=Waz r.1&&Wds r.2
def Wdk(l:List Rw):Bool:=decide (l.length≤300)&&l.all isRow
def Wkp(l:List Int):Bool:=decide (l.length=8)&&l.all Wds
theorem Waf{N:Nat}{v:Int}:Zgx N v=ret (Wds v):=by
 unfold Zgx;simp only[Who,ret,Xc];rfl
theorem Wi{N:Nat}{v:Int}:Za9 N v=ret (Wds v):=by
 unfold Za9;simp only[Wj,ret,Xc];rfl
theorem Wai{N:Nat}{v:Int}:Zhb N v=ret (Waz v):=by
 unfold Zhb;simp only[Who,ret,Xc];rfl
theorem Wh{N:Nat}{v:Int}:Zbl N v=ret (Waz v):=by
 unfold Zbl;simp only[Wj,ret,Xc];rfl
theorem specVals_run{N:Nat}{l:List Int}(hl:l.length≤1048576)(hN:1048576<N):Zih N l=ret (Wkp l):=by
 unfold Zih Wkp
 by_cases h:l.length=8
 ·have e:(ilen l !=8)=false:=by simp[ilen,h]
  rw[e]
  simp only[cond_false]
  have h1:=Wv (l:=l) (V:=Unit) (R:=Unit×(Bool×Unit)) (lp:=λn j v=>Zdd N l (some ((),(false,()))) (λi8 t9=>some ((),(true,()))) n j) (n:=N) (by omega)
   (body:=λj x v k=>bif !Wds x then some ((),(false,()))else k v) (K:=λ_ v=>some ((),(true,())))
   (λn i v hi=>by simp only[Zdd,Wbb hi,Wk hi,Wm hi,We (show i<4611686018427387904 by omega),cond_true,Waf,ret,Xc])
   (λn v=>by simp only[Zdd,Wbl (Xm l.length),cond_false]) ()
  refine h1.trans ?_
  rw[Wbs (p:=λx=>!Wds x) (E:=λ_=>some ((),(false,()))) l 0 () (λj x v k _=>rfl),Wfu]
  cases l.all Wds<;>simp[h]
 ·have e:(ilen l !=8)=true:=by simp[ilen];omega
  rw[e]
  simp[h]
theorem Wrr{N:Nat}{l:List Int}(hl:l.length≤1048576)(hN:1048576<N):Zaq N l 8=ret (Wkp l):=by
 unfold Zaq Wkp
 have h1:=Wv (l:=l) (V:=Unit) (R:=Unit×(Bool×Unit)) (lp:=λn j v=>Zbc N l 8 (some ((),(false,()))) (λi8 t9=>some ((),((ilen l)==(8:Int),()))) n j) (n:=N) (by omega)
  (body:=λj x v k=>bif !Wds x then some ((),(false,()))else k v) (K:=λ_ v=>some ((),((ilen l)==(8:Int),())))
  (λn i v hi=>by simp only[Zbc,Wbb hi,Wk hi,Wm hi,We (show i<4611686018427387904 by omega),cond_true,Wi,ret,Xc])
  (λn v=>by simp only[Zbc,Wbl (Xm l.length),cond_false]) ()
 refine h1.trans ?_
 rw[Wbs (p:=λx=>!Wds x) (E:=λ_=>some ((),(false,()))) l 0 () (λj x v k _=>rfl),Wfu]
 have e:((ilen l)==(8:Int))=decide (l.length=8):=by
  by_cases h:l.length=8
  ·simp[ilen,h]
  ·simp[ilen,h];omega
 rw[e]
 cases l.all Wds<;>simp
theorem Wgi{N:Nat}{l:List Rw}(hl:l.length≤1048576)(hN:1048576<N):Zc4 N l=ret (Wdk l):=by
 unfold Zc4 Wdk
 have h1:=Wv (l:=l) (V:=Unit) (R:=Unit×(Bool×Unit)) (lp:=λn j v=>Zdf N l (some ((),(false,()))) (λi8 t9=>some ((),(decide ((ilen l)≤(300:Int)),()))) n j) (n:=N) (by omega)
  (body:=λj x v k=>bif !isRow x then some ((),(false,()))else k v) (K:=λ_ v=>some ((),(decide ((ilen l)≤(300:Int)),())))
  (λn i v hi=>by
   simp only[Zdf,Wbb hi,Wk hi,Wm hi,We (show i<4611686018427387904 by omega),cond_true,Wi,Wh,ret,Xc,isRow]
   cases Waz l[i].1<;>rfl)
  (λn v=>by simp only[Zdf,Wbl (Xm l.length),cond_false]) ()
 refine h1.trans ?_
 rw[Wbs (p:=λx=>!isRow x) (E:=λ_=>some ((),(false,()))) l 0 () (λj x v k _=>rfl),Wfu]
 have e:decide (ilen l≤300)=decide (l.length≤300):=by apply decide_eq_decide.2;simp[ilen];omega
 rw[e]
 cases l.all isRow<;>simp
theorem room_300{α:Type}{l:List α}(h:l.length≤1048576):room l.length=true:=by unfold room;simp;omega
end
section
abbrev Opn:=Int×Int×Int×Int
def Wf(v:Int):Bool:=decide (0≤v)&&decide (v≤3)
def Wfe(v:Int):Bool:=decide (0≤v)&&decide (v≤7)
theorem Wam{N:Nat}{v:Int}:Zt N v=ret (Wf v):=by
 unfold Zt;simp only[Who,ret,Xc];rfl
theorem Wao{N:Nat}{v:Int}:Zu N v=ret (Wf v):=by
 unfold Zu;simp only[Wj,ret,Xc];rfl
theorem Wan{N:Nat}{v:Int}:Zbe N v=ret (Wfe v):=by
 unfold Zbe;simp only[Wj,ret,Xc];rfl
theorem Wea{v:Int}:(decide ((0:Int)≤v)&&decide (v≤7))=Wfe v:=rfl
def opOk(o:Opn):Bool:=
 bif o.1==1 then Wf o.2.1&&Wds o.2.2.1&&(o.2.2.2==(0:Int))else
 bif o.1==2 then Wf o.2.1&&Wf o.2.2.1&&Wf o.2.2.2 else
 bif o.1==3 then Wf o.2.1&&Wf o.2.2.1&&Wf o.2.2.2 else
 bif o.1==4 then Wf o.2.1&&Wf o.2.2.1&&Wf o.2.2.2 else
 bif o.1==5 then Wf o.2.1&&Waz o.2.2.1&&(o.2.2.2==(0:Int))else
 bif o.1==6 then Waz o.2.1&&Wf o.2.2.1&&(o.2.2.2==(0:Int))else
 bif o.1==7 then Wf o.2.1&&(decide (1≤o.2.2.1)&&decide (o.2.2.1≤20))&&(o.2.2.2==(0:Int))else
 bif o.1==8 then Wf o.2.1&&(o.2.2.1==(0:Int))&&(o.2.2.2==(0:Int))else
 bif o.1==9 then(o.2.1==(0:Int))&&(o.2.2.1==(0:Int))&&(o.2.2.2==(0:Int))else
 bif o.1==10 then(o.2.1==(0:Int))&&(o.2.2.1==(0:Int))&&(o.2.2.2==(0:Int))else
 bif o.1==11 then(o.2.1==(0:Int))&&(o.2.2.1==(0:Int))&&(o.2.2.2==(0:Int))else
 bif o.1==12 then Wfe o.2.1&&Wf o.2.2.1&&Wf o.2.2.2 else
 bif o.1==13 then Wf o.2.1&&Wfe o.2.2.1&&(o.2.2.2==(0:Int))else
 bif o.1==14 then Wfe o.2.1&&Wf o.2.2.1&&(o.2.2.2==(0:Int))else
 bif o.1==15 then Wf o.2.1&&(o.2.2.1==(0:Int))&&(o.2.2.2==(0:Int))else
 bif o.1==16 then Wf o.2.1&&(o.2.2.1==(0:Int))&&(o.2.2.2==(0:Int))else
 false
theorem specOp_1{N:Nat}{a b c:Int}:Zr N (1,a,b,c)=ret (opOk (1,a,b,c)):=by
 have h:Zr N (1,a,b,c)=((Zt N a).bind λo=>bif o.2.1 then((Zgx N b).bind λo=>bif o.2.1 then some ((),(c==(0:Int),()))else some ((),(false,())))else some ((),(false,()))):=by kernel_rfl
 have h2:opOk (1,a,b,c)=(Wf a&&Wds b&&(c==(0:Int))):=rfl
 rw[h,h2]
 simp only[Wam,Waf,Wai,Who,Wea,ret,Xc]
 cases Wf a<;>cases Wds b<;>rfl
theorem specOp_2{N:Nat}{a b c:Int}:Zr N (2,a,b,c)=ret (opOk (2,a,b,c)):=by
 have h:Zr N (2,a,b,c)=((Zt N a).bind λo=>bif o.2.1 then((Zt N b).bind λo=>bif o.2.1 then((Zt N c).bind λo=>some ((),(o.2.1,())))else some ((),(false,())))else some ((),(false,()))):=by kernel_rfl
 have h2:opOk (2,a,b,c)=(Wf a&&Wf b&&Wf c):=rfl
 rw[h,h2]
 simp only[Wam,Waf,Wai,Who,Wea,ret,Xc]
 cases Wf a<;>cases Wf b<;>rfl
theorem specOp_3{N:Nat}{a b c:Int}:Zr N (3,a,b,c)=ret (opOk (3,a,b,c)):=by
 have h:Zr N (3,a,b,c)=((Zt N a).bind λo=>bif o.2.1 then((Zt N b).bind λo=>bif o.2.1 then((Zt N c).bind λo=>some ((),(o.2.1,())))else some ((),(false,())))else some ((),(false,()))):=by kernel_rfl
 have h2:opOk (3,a,b,c)=(Wf a&&Wf b&&Wf c):=rfl
 rw[h,h2]
 simp only[Wam,Waf,Wai,Who,Wea,ret,Xc]
 cases Wf a<;>cases Wf b<;>rfl
theorem specOp_4{N:Nat}{a b c:Int}:Zr N (4,a,b,c)=ret (opOk (4,a,b,c)):=by
 have h:Zr N (4,a,b,c)=((Zt N a).bind λo=>bif o.2.1 then((Zt N b).bind λo=>bif o.2.1 then((Zt N c).bind λo=>some ((),(o.2.1,())))else some ((),(false,())))else some ((),(false,()))):=by kernel_rfl
 have h2:opOk (4,a,b,c)=(Wf a&&Wf b&&Wf c):=rfl
 rw[h,h2]
 simp only[Wam,Waf,Wai,Who,Wea,ret,Xc]
 cases Wf a<;>cases Wf b<;>rfl
theorem specOp_5{N:Nat}{a b c:Int}:Zr N (5,a,b,c)=ret (opOk (5,a,b,c)):=by
 have h:Zr N (5,a,b,c)=((Zt N a).bind λo=>bif o.2.1 then((Zhb N b).bind λo=>bif o.2.1 then some ((),(c==(0:Int),()))else some ((),(false,())))else some ((),(false,()))):=by kernel_rfl
 have h2:opOk (5,a,b,c)=(Wf a&&Waz b&&(c==(0:Int))):=rfl
 rw[h,h2]
 simp only[Wam,Waf,Wai,Who,Wea,ret,Xc]
 cases Wf a<;>cases Waz b<;>rfl
theorem specOp_6{N:Nat}{a b c:Int}:Zr N (6,a,b,c)=ret (opOk (6,a,b,c)):=by
 have h:Zr N (6,a,b,c)=((Zhb N a).bind λo=>bif o.2.1 then((Zt N b).bind λo=>bif o.2.1 then some ((),(c==(0:Int),()))else some ((),(false,())))else some ((),(false,()))):=by kernel_rfl
 have h2:opOk (6,a,b,c)=(Waz a&&Wf b&&(c==(0:Int))):=rfl
 rw[h,h2]
 simp only[Wam,Waf,Wai,Who,Wea,ret,Xc]
 cases Waz a<;>cases Wf b<;>rfl
theorem specOp_7{N:Nat}{a b c:Int}:Zr N (7,a,b,c)=ret (opOk (7,a,b,c)):=by
 have h:Zr N (7,a,b,c)=((Zt N a).bind λo=>bif o.2.1 then((Zbf N b 1 20).bind λo=>bif o.2.1 then some ((),(c==(0:Int),()))else some ((),(false,())))else some ((),(false,()))):=by kernel_rfl
 have h2:opOk (7,a,b,c)=(Wf a&&(decide (1≤b)&&decide (b≤20))&&(c==(0:Int))):=rfl
 rw[h,h2]
 simp only[Wam,Waf,Wai,Who,Wea,ret,Xc]
 cases Wf a<;>cases(decide (1≤b)&&decide (b≤20))<;>rfl
theorem specOp_8{N:Nat}{a b c:Int}:Zr N (8,a,b,c)=ret (opOk (8,a,b,c)):=by
 have h:Zr N (8,a,b,c)=((Zt N a).bind λo=>bif o.2.1 then(bif b==(0:Int)then some ((),(c==(0:Int),()))else some ((),(false,())))else some ((),(false,()))):=by kernel_rfl
 have h2:opOk (8,a,b,c)=(Wf a&&(b==(0:Int))&&(c==(0:Int))):=rfl
 rw[h,h2]
 simp only[Wam,Waf,Wai,Who,Wea,ret,Xc]
 cases Wf a<;>cases(b==(0:Int))<;>rfl
theorem specOp_9{N:Nat}{a b c:Int}:Zr N (9,a,b,c)=ret (opOk (9,a,b,c)):=by
 have h:Zr N (9,a,b,c)=(bif a==(0:Int)then(bif b==(0:Int)then some ((),(c==(0:Int),()))else some ((),(false,())))else some ((),(false,()))):=by kernel_rfl
 have h2:opOk (9,a,b,c)=((a==(0:Int))&&(b==(0:Int))&&(c==(0:Int))):=rfl
 rw[h,h2]
 simp only[Wam,Waf,Wai,Who,Wea,ret,Xc]
 cases(a==(0:Int))<;>cases(b==(0:Int))<;>rfl
theorem specOp_10{N:Nat}{a b c:Int}:Zr N (10,a,b,c)=ret (opOk (10,a,b,c)):=by
 have h:Zr N (10,a,b,c)=(bif a==(0:Int)then(bif b==(0:Int)then some ((),(c==(0:Int),()))else some ((),(false,())))else some ((),(false,()))):=by kernel_rfl
 have h2:opOk (10,a,b,c)=((a==(0:Int))&&(b==(0:Int))&&(c==(0:Int))):=rfl
 rw[h,h2]
 simp only[Wam,Waf,Wai,Who,Wea,ret,Xc]
 cases(a==(0:Int))<;>cases(b==(0:Int))<;>rfl
theorem specOp_11{N:Nat}{a b c:Int}:Zr N (11,a,b,c)=ret (opOk (11,a,b,c)):=by
 have h:Zr N (11,a,b,c)=(bif a==(0:Int)then(bif b==(0:Int)then some ((),(c==(0:Int),()))else some ((),(false,())))else some ((),(false,()))):=by kernel_rfl
 have h2:opOk (11,a,b,c)=((a==(0:Int))&&(b==(0:Int))&&(c==(0:Int))):=rfl
 rw[h,h2]
 simp only[Wam,Waf,Wai,Who,Wea,ret,Xc]
 cases(a==(0:Int))<;>cases(b==(0:Int))<;>rfl
theorem specOp_12{N:Nat}{a b c:Int}:Zr N (12,a,b,c)=ret (opOk (12,a,b,c)):=by
 have h:Zr N (12,a,b,c)=((Zbf N a 0 7).bind λo=>bif o.2.1 then((Zt N b).bind λo=>bif o.2.1 then((Zt N c).bind λo=>some ((),(o.2.1,())))else some ((),(false,())))else some ((),(false,()))):=by kernel_rfl
 have h2:opOk (12,a,b,c)=(Wfe a&&Wf b&&Wf c):=rfl
 rw[h,h2]
 simp only[Wam,Waf,Wai,Who,Wea,ret,Xc]
 cases Wfe a<;>cases Wf b<;>rfl
theorem specOp_13{N:Nat}{a b c:Int}:Zr N (13,a,b,c)=ret (opOk (13,a,b,c)):=by
 have h:Zr N (13,a,b,c)=((Zt N a).bind λo=>bif o.2.1 then((Zbf N b 0 7).bind λo=>bif o.2.1 then some ((),(c==(0:Int),()))else some ((),(false,())))else some ((),(false,()))):=by kernel_rfl
 have h2:opOk (13,a,b,c)=(Wf a&&Wfe b&&(c==(0:Int))):=rfl
 rw[h,h2]
 simp only[Wam,Waf,Wai,Who,Wea,ret,Xc]
 cases Wf a<;>cases Wfe b<;>rfl
theorem specOp_14{N:Nat}{a b c:Int}:Zr N (14,a,b,c)=ret (opOk (14,a,b,c)):=by
 have h:Zr N (14,a,b,c)=((Zbf N a 0 7).bind λo=>bif o.2.1 then((Zt N b).bind λo=>bif o.2.1 then some ((),(c==(0:Int),()))else some ((),(false,())))else some ((),(false,()))):=by kernel_rfl
 have h2:opOk (14,a,b,c)=(Wfe a&&Wf b&&(c==(0:Int))):=rfl
 rw[h,h2]
 simp only[Wam,Waf,Wai,Who,Wea,ret,Xc]
 cases Wfe a<;>cases Wf b<;>rfl
theorem specOp_15{N:Nat}{a b c:Int}:Zr N (15,a,b,c)=ret (opOk (15,a,b,c)):=by
 have h:Zr N (15,a,b,c)=((Zt N a).bind λo=>bif o.2.1 then(bif b==(0:Int)then some ((),(c==(0:Int),()))else some ((),(false,())))else some ((),(false,()))):=by kernel_rfl
 have h2:opOk (15,a,b,c)=(Wf a&&(b==(0:Int))&&(c==(0:Int))):=rfl
 rw[h,h2]
 simp only[Wam,Waf,Wai,Who,Wea,ret,Xc]
 cases Wf a<;>cases(b==(0:Int))<;>rfl
theorem specOp_16{N:Nat}{a b c:Int}:Zr N (16,a,b,c)=ret (opOk (16,a,b,c)):=by
 have h:Zr N (16,a,b,c)=((Zt N a).bind λo=>bif o.2.1 then(bif b==(0:Int)then some ((),(c==(0:Int),()))else some ((),(false,())))else some ((),(false,()))):=by kernel_rfl
 have h2:opOk (16,a,b,c)=(Wf a&&(b==(0:Int))&&(c==(0:Int))):=rfl
 rw[h,h2]
 simp only[Wam,Waf,Wai,Who,Wea,ret,Xc]
 cases Wf a<;>cases(b==(0:Int))<;>rfl
theorem Wim{N:Nat}{o:Opn}:Zr N o=ret (opOk o):=by
 obtain⟨k,a,b,c⟩:=o
 by_cases h1:k=1
 ·subst h1;exact specOp_1
 by_cases h2:k=2
 ·subst h2;exact specOp_2
 by_cases h3:k=3
 ·subst h3;exact specOp_3
 by_cases h4:k=4
 ·subst h4;exact specOp_4
 by_cases h5:k=5
 ·subst h5;exact specOp_5
 by_cases h6:k=6
 ·subst h6;exact specOp_6
 by_cases h7:k=7
 ·subst h7;exact specOp_7
 by_cases h8:k=8
 ·subst h8;exact specOp_8
 by_cases h9:k=9
 ·subst h9;exact specOp_9
 by_cases h10:k=10
 ·subst h10;exact specOp_10
 by_cases h11:k=11
 ·subst h11;exact specOp_11
 by_cases h12:k=12
 ·subst h12;exact specOp_12
 by_cases h13:k=13
 ·subst h13;exact specOp_13
 by_cases h14:k=14
 ·subst h14;exact specOp_14
 by_cases h15:k=15
 ·subst h15;exact specOp_15
 by_cases h16:k=16
 ·subst h16;exact specOp_16
 have e1:(k==(1:Int))=false:=by simpa using h1
 have e2:(k==(2:Int))=false:=by simpa using h2
 have e3:(k==(3:Int))=false:=by simpa using h3
 have e4:(k==(4:Int))=false:=by simpa using h4
 have e5:(k==(5:Int))=false:=by simpa using h5
 have e6:(k==(6:Int))=false:=by simpa using h6
 have e7:(k==(7:Int))=false:=by simpa using h7
 have e8:(k==(8:Int))=false:=by simpa using h8
 have e9:(k==(9:Int))=false:=by simpa using h9
 have e10:(k==(10:Int))=false:=by simpa using h10
 have e11:(k==(11:Int))=false:=by simpa using h11
 have e12:(k==(12:Int))=false:=by simpa using h12
 have e13:(k==(13:Int))=false:=by simpa using h13
 have e14:(k==(14:Int))=false:=by simpa using h14
 have e15:(k==(15:Int))=false:=by simpa using h15
 have e16:(k==(16:Int))=false:=by simpa using h16
 unfold Zr opOk
 simp only[]
 rw[e1,e2,e3,e4,e5,e6,e7,e8,e9,e10,e11,e12,e13,e14,e15,e16]
 rfl
theorem implOp_1{N:Nat}{a b c:Int}:Zq N (1,a,b,c)=ret (opOk (1,a,b,c)):=by
 have h:Zq N (1,a,b,c)=((Zu N a).bind λo=>bif o.2.1 then((Za9 N b).bind λo=>bif o.2.1 then some ((),(c==(0:Int),()))else some ((),(false,())))else some ((),(false,()))):=by kernel_rfl
 have h2:opOk (1,a,b,c)=(Wf a&&Wds b&&(c==(0:Int))):=rfl
 rw[h,h2]
 simp only[Wao,Wi,Wh,Wan,Wj,Wea,ret,Xc]
 cases Wf a<;>cases Wds b<;>rfl
theorem implOp_2{N:Nat}{a b c:Int}:Zq N (2,a,b,c)=ret (opOk (2,a,b,c)):=by
 have h:Zq N (2,a,b,c)=((Zu N a).bind λo=>bif o.2.1 then((Zu N b).bind λo=>bif o.2.1 then((Zu N c).bind λo=>some ((),(o.2.1,())))else some ((),(false,())))else some ((),(false,()))):=by kernel_rfl
 have h2:opOk (2,a,b,c)=(Wf a&&Wf b&&Wf c):=rfl
 rw[h,h2]
 simp only[Wao,Wi,Wh,Wan,Wj,Wea,ret,Xc]
 cases Wf a<;>cases Wf b<;>rfl
theorem implOp_3{N:Nat}{a b c:Int}:Zq N (3,a,b,c)=ret (opOk (3,a,b,c)):=by
 have h:Zq N (3,a,b,c)=((Zu N a).bind λo=>bif o.2.1 then((Zu N b).bind λo=>bif o.2.1 then((Zu N c).bind λo=>some ((),(o.2.1,())))else some ((),(false,())))else some ((),(false,()))):=by kernel_rfl
 have h2:opOk (3,a,b,c)=(Wf a&&Wf b&&Wf c):=rfl
 rw[h,h2]
 simp only[Wao,Wi,Wh,Wan,Wj,Wea,ret,Xc]
 cases Wf a<;>cases Wf b<;>rfl
theorem implOp_4{N:Nat}{a b c:Int}:Zq N (4,a,b,c)=ret (opOk (4,a,b,c)):=by
 have h:Zq N (4,a,b,c)=((Zu N a).bind λo=>bif o.2.1 then((Zu N b).bind λo=>bif o.2.1 then((Zu N c).bind λo=>some ((),(o.2.1,())))else some ((),(false,())))else some ((),(false,()))):=by kernel_rfl
 have h2:opOk (4,a,b,c)=(Wf a&&Wf b&&Wf c):=rfl
 rw[h,h2]
 simp only[Wao,Wi,Wh,Wan,Wj,Wea,ret,Xc]
 cases Wf a<;>cases Wf b<;>rfl
theorem implOp_5{N:Nat}{a b c:Int}:Zq N (5,a,b,c)=ret (opOk (5,a,b,c)):=by
 have h:Zq N (5,a,b,c)=((Zu N a).bind λo=>bif o.2.1 then((Zbl N b).bind λo=>bif o.2.1 then some ((),(c==(0:Int),()))else some ((),(false,())))else some ((),(false,()))):=by kernel_rfl
 have h2:opOk (5,a,b,c)=(Wf a&&Waz b&&(c==(0:Int))):=rfl
 rw[h,h2]
 simp only[Wao,Wi,Wh,Wan,Wj,Wea,ret,Xc]
 cases Wf a<;>cases Waz b<;>rfl
theorem implOp_6{N:Nat}{a b c:Int}:Zq N (6,a,b,c)=ret (opOk (6,a,b,c)):=by
 have h:Zq N (6,a,b,c)=((Zbl N a).bind λo=>bif o.2.1 then((Zu N b).bind λo=>bif o.2.1 then some ((),(c==(0:Int),()))else some ((),(false,())))else some ((),(false,()))):=by kernel_rfl
 have h2:opOk (6,a,b,c)=(Waz a&&Wf b&&(c==(0:Int))):=rfl
 rw[h,h2]
 simp only[Wao,Wi,Wh,Wan,Wj,Wea,ret,Xc]
 cases Waz a<;>cases Wf b<;>rfl
theorem implOp_7{N:Nat}{a b c:Int}:Zq N (7,a,b,c)=ret (opOk (7,a,b,c)):=by
 have h:Zq N (7,a,b,c)=((Zu N a).bind λo=>bif o.2.1 then((Zo N b 1 20).bind λo=>bif o.2.1 then some ((),(c==(0:Int),()))else some ((),(false,())))else some ((),(false,()))):=by kernel_rfl
 have h2:opOk (7,a,b,c)=(Wf a&&(decide (1≤b)&&decide (b≤20))&&(c==(0:Int))):=rfl
 rw[h,h2]
 simp only[Wao,Wi,Wh,Wan,Wj,Wea,ret,Xc]
 cases Wf a<;>cases(decide (1≤b)&&decide (b≤20))<;>rfl
theorem implOp_8{N:Nat}{a b c:Int}:Zq N (8,a,b,c)=ret (opOk (8,a,b,c)):=by
 have h:Zq N (8,a,b,c)=((Zu N a).bind λo=>bif o.2.1 then(bif b==(0:Int)then some ((),(c==(0:Int),()))else some ((),(false,())))else some ((),(false,()))):=by kernel_rfl
 have h2:opOk (8,a,b,c)=(Wf a&&(b==(0:Int))&&(c==(0:Int))):=rfl
 rw[h,h2]
 simp only[Wao,Wi,Wh,Wan,Wj,Wea,ret,Xc]
 cases Wf a<;>cases(b==(0:Int))<;>rfl
theorem implOp_9{N:Nat}{a b c:Int}:Zq N (9,a,b,c)=ret (opOk (9,a,b,c)):=by
 have h:Zq N (9,a,b,c)=(bif a==(0:Int)then(bif b==(0:Int)then some ((),(c==(0:Int),()))else some ((),(false,())))else some ((),(false,()))):=by kernel_rfl
 have h2:opOk (9,a,b,c)=((a==(0:Int))&&(b==(0:Int))&&(c==(0:Int))):=rfl
 rw[h,h2]
 simp only[Wao,Wi,Wh,Wan,Wj,Wea,ret,Xc]
 cases(a==(0:Int))<;>cases(b==(0:Int))<;>rfl
theorem implOp_10{N:Nat}{a b c:Int}:Zq N (10,a,b,c)=ret (opOk (10,a,b,c)):=by
 have h:Zq N (10,a,b,c)=(bif a==(0:Int)then(bif b==(0:Int)then some ((),(c==(0:Int),()))else some ((),(false,())))else some ((),(false,()))):=by kernel_rfl
 have h2:opOk (10,a,b,c)=((a==(0:Int))&&(b==(0:Int))&&(c==(0:Int))):=rfl
 rw[h,h2]
 simp only[Wao,Wi,Wh,Wan,Wj,Wea,ret,Xc]
 cases(a==(0:Int))<;>cases(b==(0:Int))<;>rfl
theorem implOp_11{N:Nat}{a b c:Int}:Zq N (11,a,b,c)=ret (opOk (11,a,b,c)):=by
 have h:Zq N (11,a,b,c)=(bif a==(0:Int)then(bif b==(0:Int)then some ((),(c==(0:Int),()))else some ((),(false,())))else some ((),(false,()))):=by kernel_rfl
 have h2:opOk (11,a,b,c)=((a==(0:Int))&&(b==(0:Int))&&(c==(0:Int))):=rfl
 rw[h,h2]
 simp only[Wao,Wi,Wh,Wan,Wj,Wea,ret,Xc]
 cases(a==(0:Int))<;>cases(b==(0:Int))<;>rfl
theorem implOp_12{N:Nat}{a b c:Int}:Zq N (12,a,b,c)=ret (opOk (12,a,b,c)):=by
 have h:Zq N (12,a,b,c)=((Zbe N a).bind λo=>bif o.2.1 then((Zu N b).bind λo=>bif o.2.1 then((Zu N c).bind λo=>some ((),(o.2.1,())))else some ((),(false,())))else some ((),(false,()))):=by kernel_rfl
 have h2:opOk (12,a,b,c)=(Wfe a&&Wf b&&Wf c):=rfl
 rw[h,h2]
 simp only[Wao,Wi,Wh,Wan,Wj,Wea,ret,Xc]
 cases Wfe a<;>cases Wf b<;>rfl
theorem implOp_13{N:Nat}{a b c:Int}:Zq N (13,a,b,c)=ret (opOk (13,a,b,c)):=by
 have h:Zq N (13,a,b,c)=((Zu N a).bind λo=>bif o.2.1 then((Zbe N b).bind λo=>bif o.2.1 then some ((),(c==(0:Int),()))else some ((),(false,())))else some ((),(false,()))):=by kernel_rfl
 have h2:opOk (13,a,b,c)=(Wf a&&Wfe b&&(c==(0:Int))):=rfl
 rw[h,h2]
 simp only[Wao,Wi,Wh,Wan,Wj,Wea,ret,Xc]
 cases Wf a<;>cases Wfe b<;>rfl
theorem implOp_14{N:Nat}{a b c:Int}:Zq N (14,a,b,c)=ret (opOk (14,a,b,c)):=by
 have h:Zq N (14,a,b,c)=((Zbe N a).bind λo=>bif o.2.1 then((Zu N b).bind λo=>bif o.2.1 then some ((),(c==(0:Int),()))else some ((),(false,())))else some ((),(false,()))):=by kernel_rfl
 have h2:opOk (14,a,b,c)=(Wfe a&&Wf b&&(c==(0:Int))):=rfl
 rw[h,h2]
 simp only[Wao,Wi,Wh,Wan,Wj,Wea,ret,Xc]
 cases Wfe a<;>cases Wf b<;>rfl
theorem implOp_15{N:Nat}{a b c:Int}:Zq N (15,a,b,c)=ret (opOk (15,a,b,c)):=by
 have h:Zq N (15,a,b,c)=((Zu N a).bind λo=>bif o.2.1 then(bif b==(0:Int)then some ((),(c==(0:Int),()))else some ((),(false,())))else some ((),(false,()))):=by kernel_rfl
 have h2:opOk (15,a,b,c)=(Wf a&&(b==(0:Int))&&(c==(0:Int))):=rfl
 rw[h,h2]
 simp only[Wao,Wi,Wh,Wan,Wj,Wea,ret,Xc]
 cases Wf a<;>cases(b==(0:Int))<;>rfl
theorem implOp_16{N:Nat}{a b c:Int}:Zq N (16,a,b,c)=ret (opOk (16,a,b,c)):=by
 have h:Zq N (16,a,b,c)=((Zu N a).bind λo=>bif o.2.1 then(bif b==(0:Int)then some ((),(c==(0:Int),()))else some ((),(false,())))else some ((),(false,()))):=by kernel_rfl
 have h2:opOk (16,a,b,c)=(Wf a&&(b==(0:Int))&&(c==(0:Int))):=rfl
 rw[h,h2]
 simp only[Wao,Wi,Wh,Wan,Wj,Wea,ret,Xc]
 cases Wf a<;>cases(b==(0:Int))<;>rfl
theorem Wmc{N:Nat}{o:Opn}:Zq N o=ret (opOk o):=by
 obtain⟨k,a,b,c⟩:=o
 by_cases h1:k=1
 ·subst h1;exact implOp_1
 by_cases h2:k=2
 ·subst h2;exact implOp_2
 by_cases h3:k=3
 ·subst h3;exact implOp_3
 by_cases h4:k=4
 ·subst h4;exact implOp_4
 by_cases h5:k=5
 ·subst h5;exact implOp_5
 by_cases h6:k=6
 ·subst h6;exact implOp_6
 by_cases h7:k=7
 ·subst h7;exact implOp_7
 by_cases h8:k=8
 ·subst h8;exact implOp_8
 by_cases h9:k=9
 ·subst h9;exact implOp_9
 by_cases h10:k=10
 ·subst h10;exact implOp_10
 by_cases h11:k=11
 ·subst h11;exact implOp_11
 by_cases h12:k=12
 ·subst h12;exact implOp_12
 by_cases h13:k=13
 ·subst h13;exact implOp_13
 by_cases h14:k=14
 ·subst h14;exact implOp_14
 by_cases h15:k=15
 ·subst h15;exact implOp_15
 by_cases h16:k=16
 ·subst h16;exact implOp_16
 have e1:(k==(1:Int))=false:=by simpa using h1
 have e2:(k==(2:Int))=false:=by simpa using h2
 have e3:(k==(3:Int))=false:=by simpa using h3
 have e4:(k==(4:Int))=false:=by simpa using h4
 have e5:(k==(5:Int))=false:=by simpa using h5
 have e6:(k==(6:Int))=false:=by simpa using h6
 have e7:(k==(7:Int))=false:=by simpa using h7
 have e8:(k==(8:Int))=false:=by simpa using h8
 have e9:(k==(9:Int))=false:=by simpa using h9
 have e10:(k==(10:Int))=false:=by simpa using h10
 have e11:(k==(11:Int))=false:=by simpa using h11
 have e12:(k==(12:Int))=false:=by simpa using h12
 have e13:(k==(13:Int))=false:=by simpa using h13
 have e14:(k==(14:Int))=false:=by simpa using h14
 have e15:(k==(15:Int))=false:=by simpa using h15
 have e16:(k==(16:Int))=false:=by simpa using h16
 unfold Zq opOk
 simp only[]
 rw[e1,e2,e3,e4,e5,e6,e7,e8,e9,e10,e11,e12,e13,e14,e15,e16]
 rfl
end
section
def anyI{α:Type}(p:Nat→α→Bool):Nat→List α→Bool
 |_,[]=>false
 |j,x::l=>p j x||anyI p (j+1) l
theorem Wil{α V R:Type}{body:Int→α→V→(V→Option R)→Option R}{K:Int→V→Option R}{p:Nat→α→Bool}{E:V→Option R}:∀(l:List α) (j:Nat) (v:V),(∀(j:Nat) x v k,x∈l→body j x v k=bif p j x then E v else k v)→
  Wfk body K l j v=bif anyI p j l then E v else K ((j+l.length:Nat):Int) v
 | [],j,v,_=>rfl
 |x::l,j,v,h=>by
  rw[Wfk,h j x v _ (Xi ..),Wil l (j+1) v λj y v k hy=>h j y v k (Xe _ hy),anyI]
  cases p j x
  ·simp only[cond_false,Xcp,Xr]
   rw[show j+1+l.length=j+(l.length+1) by omega]
  ·rfl
theorem Wom{α:Type}{p:Nat→α→Bool}:∀{l:List α} {j:Nat},anyI p j l=true↔∃i,∃h:i<l.length,p (j+i) l[i]=true
 | [],j=>by simp[anyI]
 |x::l,j=>by
  rw[anyI,Xbw,Wom]
  constructor
  ·rintro(h|⟨i,hi,h⟩)
   ·exact⟨0,by simp,by simpa using h⟩
   ·exact⟨i+1,by simpa using hi,by simpa [Xap,Xco 1]using h⟩
  ·rintro⟨i,hi,h⟩
   cases i with
   |zero=>exact .inl (by simpa using h)
   |succ i=>exact .inr ⟨i,by simpa using hi,by simpa [Xap,Xco 1]using h⟩
def opd(o:Opn):Int:=bif o.1==8 then 1 else bif o.1==9 then-1 else 0
theorem Wrj(o:Opn):-1≤opd o∧opd o≤1:=by unfold opd;cases o.1==8<;>cases o.1==9<;>simp
def dep(l:List Opn)(j:Nat):Int:=((l.take j).map opd).sum
theorem Wht(l:List Opn):dep l 0=0:=by simp[dep]
theorem Wbz{l:List Opn}{j:Nat}(h:j<l.length):dep l (j+1)=dep l j+opd l[j]:=by
 unfold dep
 rw[Xcq h,Xp,List.sum_append]
 simp
theorem Wc{α:Type}{l:List α}{j:Nat}(h:j<l.length)(d:α):Xd l j d=l[j]:=by simp[h]
theorem Wij(l:List Opn):∀j:Nat,-(j:Int)≤dep l j∧dep l j≤j
 |0=>by simp[dep]
 |j+1=>by
  have ih:=Wij l j
  by_cases h:j<l.length
  ·have:=Wrj l[j]
   rw[Wbz h];omega
  ·have:dep l (j+1)=dep l j:=by unfold dep;rw[Xcx (by omega),Xcx (by omega)]
   rw[this];omega
def bal(l:List Opn):Bool:=!anyI (λj _=>decide (dep l (j+1)<0)) 0 l&&decide (dep l l.length=0)
theorem Wov{N:Nat}{o:Opn}:Zjn N o=ret (opd o):=by
 unfold Zjn opd
 cases o.1==8<;>cases o.1==9<;>rfl
theorem deq0(x:Int):(x==(0:Int))=decide (x=0):=by by_cases h:x=0<;>simp[h]
theorem Wso{N:Nat}{l:List Opn}(hl:l.length≤1048576)(hN:1048576<N):Zde N l=ret (bal l):=by
 unfold Zde bal
 have h1:=Wv (l:=l) (V:=Unit) (R:=Unit×(Bool×Unit)) (lp:=λn j _=>Zb9 N l (some ((),(false,()))) (λn12 t13 t14=>some ((),(n12==(0:Int),()))) n (dep l j.toNat) j) (n:=N) (by omega)
  (body:=λj _ v k=>bif decide (dep l (j.toNat+1)<0)then some ((),(false,()))else k v) (K:=λj _=>some ((),(dep l j.toNat==(0:Int),())))
  (λn i v hi=>by
   have hb:=Wij l i
   have hs:=Wbz hi
   have ho:=Wrj l[i]
   have e:iadd .i64 (dep l i) (opd l[i])=dep l (i+1):=by rw[Wx (by unfold I64;omega),hs]
   simp only[Zb9,Wbb hi,Wk hi,Wm hi,Wc hi,We (show i<4611686018427387904 by omega),cond_true,Wov,ret,Xc,Xj,e])
  (λn v=>by simp only[Zb9,Wbl (Xm l.length),cond_false]) ()
 have e0:dep l (Xb 0)=0:=Wht l
 simp only[e0]at h1
 refine h1.trans ?_
 rw[Wil (p:=λj _=>decide (dep l (j+1)<0)) (E:=λ_=>some ((),(false,()))) l 0 () (λj x v k _=>rfl)]
 rw[Xbb,Xj,deq0]
 cases anyI (λj _=>decide (dep l (j+1)<0)) 0 l<;>rfl
theorem Wyv{N:Nat}{l:List Opn}(hl:l.length≤1048576)(hN:1048576<N){i:Nat}(hi:i≤l.length):Zhm N l (i:Int)=ret (dep l i):=by
 unfold Zhm
 have h1:=Wv (l:=l) (V:=Unit) (R:=Unit×(Int×Unit)) (lp:=λn j _=>Zcc N (i:Int) l (λn14 t15 t16=>some ((),(n14,()))) n (dep l (min j.toNat i)) j) (n:=N) (by omega)
  (body:=λj _ v k=>k v) (K:=λj _=>some ((),(dep l (min j.toNat i),())))
  (λn j v hj=>by
   have hb:=Wij l j
   have ho:=Wrj l[j]
   simp only[Zcc,Wbb hj,Wk hj,Wm hj,Wc hj,We (show j<4611686018427387904 by omega),cond_true,Wov,ret,Xc,Xj]
   by_cases h:j<i
   ·have e1:decide ((j:Int)<(i:Int))=true:=by simpa using h
    have e2:min j i=j:=by omega
    have e3:min (j+1) i=j+1:=by omega
    have e:iadd .i64 (dep l j) (opd l[j])=dep l (j+1):=by rw[Wx (by unfold I64;omega),Wbz hj]
    rw[e1,e2,e3,e]
    rfl
   ·have e1:decide ((j:Int)<(i:Int))=false:=by simp;omega
    have e2:min j i=i:=by omega
    have e3:min (j+1) i=i:=by omega
    rw[e1,e2,e3]
    rfl)
  (λn v=>by simp only[Zcc,Wbl (Xm l.length),cond_false]) ()
 have e0:dep l (min (Xb 0) i)=0:=by
  have:min (Xb 0) i=0:=by simp
  rw[this];exact Wht l
 simp only[e0]at h1
 refine h1.trans ?_
 rw[Wff (f:=λv _=>v) l 0 () (λj x v k _=>rfl),Xbb,Xj,Nat.min_eq_right hi]
theorem specSkip_lp{N:Nat}{l:List Opn}{a b:Nat}(hab:a≤b)(hb:b≤l.length)(hl:l.length≤1048576)(hN:1048576<N):
  Zbi N l (b:Int) (some ((),(false,()))) (λd10 k11 t12=>some ((),(d10==(0:Int),()))) N 0 (a:Int)=ret (bal ((l.take b).drop a)):=by
 have hlen:((l.take b).drop a).length=b-a:=by simp;omega
 unfold bal
 have h1:=Wv (l:=(l.take b).drop a) (V:=Unit) (R:=Unit×(Bool×Unit)) (lp:=λn j _=>Zbi N l (b:Int) (some ((),(false,()))) (λd10 k11 t12=>some ((),(d10==(0:Int),()))) n (dep ((l.take b).drop a) j.toNat) ((a+j.toNat:Nat):Int)) (n:=N) (by omega)
  (body:=λj _ v k=>bif decide (dep ((l.take b).drop a) (j.toNat+1)<0)then some ((),(false,()))else k v) (K:=λj _=>some ((),(dep ((l.take b).drop a) j.toNat==(0:Int),())))
  (λn i v hi=>by
   have hb':=Wij ((l.take b).drop a) i
   have hs:=Wbz hi
   have ei:((l.take b).drop a)[i]=l[a+i]:=by simp
   rw[ei]at hs
   have hil:a+i<l.length:=by omega
   have e1:decide (((a+i:Nat):Int)<(b:Int))=true:=by simp;omega
   have e2:iadd .i64 ((a+i:Nat):Int) 1=((a+(i+1):Nat):Int):=by rw[Wx (by unfold I64;omega)];omega
   have e3:iadd .i64 (dep ((l.take b).drop a) i) 1=dep ((l.take b).drop a) i+1:=Wx (by unfold I64;omega)
   have e4:isub .i64 (dep ((l.take b).drop a) i) 1=dep ((l.take b).drop a) i+ -1:=by rw[Wbm (by unfold I64;omega)];omega
   simp only[Zbi,e1,Wk hil,Wm hil,Wc hil,e2,e3,e4,cond_true,Xj]
   unfold opd at hs
   cases h8:l[a+i].1==8
   ·cases h9:l[a+i].1==9
    ·rw[h8,h9]at hs
     simp only[cond_false,Xfu]at hs
     simp only[hs,cond_false]
    ·rw[h8,h9]at hs
     simp only[cond_false,cond_true]at hs
     simp only[hs,cond_false,cond_true]
   ·have h9:(l[a+i].1==9)=false:=by
     have:l[a+i].1=8:=by simpa using h8
     rw[this];rfl
    rw[h8]at hs
    simp only[cond_true]at hs
    simp only[hs,h9,cond_false,cond_true])
  (λn v=>by
   have e1:decide (((a+(((l.take b).drop a).length:Int).toNat:Nat):Int)<(b:Int))=false:=by rw[Xj,hlen];simp;omega
   simp only[Zbi,e1,cond_false]) ()
 have e0:dep ((l.take b).drop a) (Xb 0)=0:=Wht _
 simp only[e0]at h1
 refine h1.trans ?_
 rw[Wil (p:=λj _=>decide (dep ((l.take b).drop a) (j+1)<0)) (E:=λ_=>some ((),(false,()))) _ 0 () (λj x v k _=>rfl)]
 rw[Xbb,Xj,deq0]
 cases anyI (λj _=>decide (dep ((l.take b).drop a) (j+1)<0)) 0 ((l.take b).drop a)<;>rfl
def Wqt(l:List Opn)(i:Nat)(o:Opn):Bool:=decide (i+1+o.2.2.1.toNat≤l.length)&&bal ((l.take (i+1+o.2.2.1.toNat)).drop (i+1))
def frk(l:List Opn)(j:Nat):Nat:=(l.take j).countP λo=>o.1==11
theorem Wjr{l:List Opn}{j:Nat}(h:j<l.length):frk l (j+1)=frk l j+(l[j].1==11).toNat:=by
 unfold frk
 rw[Xcq h,List.countP_append,List.countP_singleton]
 cases l[j].1==11<;>rfl
theorem frk_le(l:List Opn)(j:Nat):frk l j≤l.length:=Xcn List.countP_le_length (by simp;omega)
def badS(l:List Opn)(i:Nat)(o:Opn):Bool:=
 !opOk o||((o.1==7)&& !Wqt l i o)||((o.1==11)&&(decide (dep l i>0)||decide (frk l (i+1)>1)))||decide (dep l (i+1)<0)
def badI(l:List Opn)(i:Nat)(o:Opn):Bool:=
 !opOk o||((o.1==7)&& !Wqt l i o)||((o.1==11)&&(decide (frk l (i+1)>1)|| !decide (dep l i=0)))
def cdOk(l:List Opn):Bool:=decide (l.length≤24)&&(bal l&& !anyI (badI l) 0 l)
theorem skip_num{l:List Opn}{i:Nat}{o:Opn}(hl:l.length≤24)(hi:i<l.length)(ho:opOk o=true)(h7:o.1=7):
  iadd .i64 ((i+1:Nat):Int) o.2.2.1=((i+1+o.2.2.1.toNat:Nat):Int)∧1≤o.2.2.1∧o.2.2.1≤20:=by
 obtain⟨k,a,b,c⟩:=o
 simp only at h7
 subst h7
 have:(Wf a&&(decide (1≤b)&&decide (b≤20))&&(c==(0:Int)))=true:=ho
 simp only[Xh,decide_eq_true_eq]at this
 refine⟨?_,this.1.2.1,this.1.2.2⟩
 rw[Wx (by unfold I64;simp only[];omega)]
 simp only[]
 omega
theorem specSkip_run{N:Nat}{l:List Opn}{i:Nat}(hl:l.length≤24)(hN:1048576<N)(hi:i<l.length)(ho:opOk l[i]=true)(h7:l[i].1=7):Zii N l (i:Int)=ret (Wqt l i l[i]):=by
 obtain⟨e1,h1,h2⟩:=skip_num hl hi ho h7
 unfold Zii Wqt
 simp only[Wk hi,cond_true,Wm hi,Wc hi,e1,We (show i<4611686018427387904 by omega)]
 by_cases h:i+1+l[i].2.2.1.toNat≤l.length
 ·have e:decide (((i+1+l[i].2.2.1.toNat:Nat):Int)>ilen l)=false:=by simp[ilen];omega
  rw[e]
  simp only[cond_false]
  rw[specSkip_lp (by omega) h (by omega) hN]
  simp[h]
 ·have e:decide (((i+1+l[i].2.2.1.toNat:Nat):Int)>ilen l)=true:=by simp[ilen];omega
  rw[e]
  simp[h]
theorem bal_iff{l:List Opn}:bal l=true↔(∀i,i<l.length→0≤dep l (i+1))∧dep l l.length=0:=by
 unfold bal
 rw[Xh,Xao,←Xfq,Wom,decide_eq_true_eq]
 constructor
 ·rintro⟨h1,h2⟩
  refine⟨λi hi=>?_,h2⟩
  by_cases h:dep l (i+1)<0
  ·exact absurd ⟨i,hi,by simpa using h⟩ h1
  ·omega
 ·rintro⟨h1,h2⟩
  refine⟨?_,h2⟩
  rintro⟨i,hi,h⟩
  have:=h1 i hi
  simp at h
  omega
theorem specCode_sem(l:List Opn):(!anyI (badS l) 0 l&&decide (dep l l.length=0))=(bal l&& !anyI (badI l) 0 l):=by
 rw[Bool.eq_iff_iff,Xh,Xh,Xao,Xao,←Xfq,←Xfq,Wom,Wom,bal_iff,decide_eq_true_eq]
 constructor
 ·rintro⟨h1,h2⟩
  have hd:∀i,i<l.length→0≤dep l (i+1):=λi hi=>by
   by_cases h:dep l (i+1)<0
   ·refine absurd ⟨i,hi,?_⟩ h1
    unfold badS;simp[h]
   ·omega
  refine⟨⟨hd,h2⟩,?_⟩
  rintro⟨i,hi,h⟩
  refine h1 ⟨i,hi,?_⟩
  have hdi:0≤dep l i:=by
   cases i with
   |zero=>rw[Wht];omega
   |succ i=>exact hd i (by omega)
  rw[Xbb]at h⊢
  unfold badI at h
  unfold badS
  simp only[Xbw,Xh,decide_eq_true_eq,Xao,decide_eq_false_iff_not]at h⊢
  rcases h with(h|h)|⟨h,h'⟩
  ·exact .inl (.inl (.inl h))
  ·exact .inl (.inl (.inr h))
  ·refine .inl (.inr ⟨h,?_⟩)
   rcases h' with h'|h'
   ·exact .inr h'
   ·exact .inl (by omega)
 ·rintro⟨⟨hd,h2⟩,h1⟩
  refine⟨?_,h2⟩
  rintro⟨i,hi,h⟩
  refine h1 ⟨i,hi,?_⟩
  have hdi:=hd i hi
  rw[Xbb]at h⊢
  unfold badS at h
  unfold badI
  simp only[Xbw,Xh,decide_eq_true_eq,Xao,decide_eq_false_iff_not]at h⊢
  rcases h with((h|h)|⟨h,h'⟩)|h
  ·exact .inl (.inl h)
  ·exact .inl (.inr h)
  ·refine .inr ⟨h,?_⟩
   rcases h' with h'|h'
   ·exact .inr (by omega)
   ·exact .inl h'
  ·omega
theorem Wro{N:Nat}{l:List Opn}(hl:l.length≤1048576)(hN:1048576<N):Zhc N l=ret (cdOk l):=by
 unfold Zhc cdOk
 by_cases h:l.length≤24
 ·have e:decide (ilen l>24)=false:=by simp[ilen];omega
  rw[e]
  simp only[cond_false]
  have h1:=Wv (l:=l) (V:=Unit) (R:=Unit×(Bool×Unit)) (lp:=λn j _=>Zbj N l (some ((),(false,()))) (λd14 forks15 i16 t17=>some ((),(d14==(0:Int),()))) n (dep l j.toNat) ((frk l j.toNat:Nat):Int) j) (n:=N) (by omega)
   (body:=λj x v k=>bif badS l j.toNat x then some ((),(false,()))else k v) (K:=λj _=>some ((),(dep l j.toNat==(0:Int),())))
   (λn i v hi=>by
    have hb:=Wij l i
    have hs:=Wbz hi
    have hf:=Wjr hi
    have hfl:=frk_le l i
    have e3:iadd .i64 (dep l i) 1=dep l i+1:=Wx (by unfold I64;omega)
    have e4:isub .i64 (dep l i) 1=dep l i+ -1:=by rw[Wbm (by unfold I64;omega)];omega
    have e5:iadd .i64 ((frk l i:Nat):Int) 1=((frk l i+1:Nat):Int):=by rw[Wx (by unfold I64;omega)];rfl
    simp only[Zbj,Wbb hi,Wk hi,Wm hi,Wc hi,We (show i<4611686018427387904 by omega),cond_true,Xj,Wim,ret,Xc,e3,e4,e5]
    unfold badS
    cases ho:opOk l[i]with
    |false=>rfl
    |true=>
     unfold opd at hs
     simp only[Xaa,cond_false,Xcp]
     by_cases h8:l[i].1=8
     ·have b8:(l[i].1==8)=true:=by simp[h8]
      have b7:(l[i].1==7)=false:=by simp[h8]
      have b11:(l[i].1==11)=false:=by simp[h8]
      simp only[b8,b7,b11,cond_true,cond_false,Xdn,Xax,Xcs,Xcp]at hs hf⊢
      simp only[hs,hf]
     ·have b8:(l[i].1==8)=false:=by simp[h8]
      by_cases h9:l[i].1=9
      ·have b9:(l[i].1==9)=true:=by simp[h9]
       have b7:(l[i].1==7)=false:=by simp[h9]
       have b11:(l[i].1==11)=false:=by simp[h9]
       simp only[b8,b9,b7,b11,cond_true,cond_false,Xdn,Xax,Xcs,Xcp]at hs hf⊢
       simp only[hs,hf]
      ·have b9:(l[i].1==9)=false:=by simp[h9]
       by_cases h7:l[i].1=7
       ·have b7:(l[i].1==7)=true:=by simp[h7]
        have b11:(l[i].1==11)=false:=by simp[h7]
        have hsk:=specSkip_run h hN hi ho h7
        simp only[b8,b9,b7,b11,cond_true,cond_false,Xdn,Xax,Xcs,Xbp,Bool.or_false,Xfu,hsk,ret,Xc]at hs hf⊢
        simp only[hs,hf]
        cases Wqt l i l[i]<;>rfl
       ·have b7:(l[i].1==7)=false:=by simp[h7]
        by_cases h11:l[i].1=11
        ·have b11:(l[i].1==11)=true:=by simp[h11]
         simp only[b8,b9,b7,b11,cond_true,cond_false,Xgy,Xcs,Xbp,Xcp,Xfu]at hs hf⊢
         simp only[hs,hf]
         have ef:decide (((frk l i+1:Nat):Int)>1)=decide (frk l i+1>1):=by apply decide_eq_decide.2;omega
         rw[ef]
         cases decide (dep l i>0)<;>cases decide (frk l i+1>1)<;>cases decide (dep l i<0)<;>rfl
        ·have b11:(l[i].1==11)=false:=by simp[h11]
         simp only[b8,b9,b7,b11,cond_true,cond_false,Xdn,Xax,Xcs,Xcp,Xfu]at hs hf⊢
         simp only[hs,hf])
   (λn v=>by simp only[Zbj,Wbl (Xm l.length),cond_false]) ()
  have e0:dep l (Xb 0)=0:=Wht l
  have e1:((frk l (Xb 0):Nat):Int)=0:=by simp[frk]
  simp only[e0,e1]at h1
  refine h1.trans ?_
  rw[Wil (p:=badS l) (E:=λ_=>some ((),(false,()))) l 0 () (λj x v k _=>by rw[Xj])]
  rw[Xbb,Xj,deq0,←specCode_sem]
  simp only[h,decide_true,Xbp]
  cases anyI (badS l) 0 l<;>rfl
 ·have e:decide (ilen l>24)=true:=by simp[ilen];omega
  rw[e]
  simp[h]
theorem Wrf{N:Nat}{l:List Opn}(hl:l.length≤1048576)(hN:1048576<N):Zc3 N l=ret (cdOk l):=by
 unfold Zc3 cdOk
 by_cases h:l.length≤24
 ·have e:decide (ilen l>24)=false:=by simp[ilen];omega
  rw[e]
  simp only[cond_false,Wso hl hN,ret,Xc,h,decide_true,Xbp]
  cases hbal:bal l with
  |false=>rfl
  |true=>
   simp only[Xaa,cond_false,Xbp]
   have h1:=Wv (l:=l) (V:=Unit) (R:=Unit×(Bool×Unit)) (lp:=λn j _=>Zb6 N l (some ((),(false,()))) (λforks20 t21 t22=>some ((),(true,()))) n ((frk l j.toNat:Nat):Int) j) (n:=N) (by omega)
    (body:=λj x v k=>bif badI l j.toNat x then some ((),(false,()))else k v) (K:=λj _=>some ((),(true,())))
    (λn i v hi=>by
     have hf:=Wjr hi
     have hfl:=frk_le l i
     have e5:iadd .i64 ((frk l i:Nat):Int) 1=((frk l i+1:Nat):Int):=by rw[Wx (by unfold I64;omega)];rfl
     simp only[Zb6,Wbb hi,Wk hi,Wm hi,Wc hi,cond_true,Xj,Wmc,ret,Xc,e5]
     unfold badI
     cases ho:opOk l[i]with
     |false=>rfl
     |true=>
      simp only[Xaa,cond_false,Xcp]
      by_cases h7:l[i].1=7
      ·have b7:(l[i].1==7)=true:=by simp[h7]
       have b11:(l[i].1==11)=false:=by simp[h7]
       obtain⟨en,h1,h2⟩:=skip_num h hi ho h7
       simp only[b7,b11,cond_true,en,We (show i<4611686018427387904 by omega),Xdn,Xax,Xcs,Xbp,Bool.or_false]at hf⊢
       simp only[hf]
       unfold Wqt
       by_cases hq:i+1+l[i].2.2.1.toNat≤l.length
       ·have q1:decide (((i+1+l[i].2.2.1.toNat:Nat):Int)>ilen l)=false:=by simp[ilen];omega
        have q2:(((decide ((0:Int)≤((i+1+l[i].2.2.1.toNat:Nat):Int)))&&(decide (((i+1+l[i].2.2.1.toNat:Nat):Int)≤((Xa l):Int))))&&(decide ((0:Int)≤((i+1:Nat):Int)))&&(decide (((i+1:Nat):Int)≤((i+1+l[i].2.2.1.toNat:Nat):Int))))=true:=by simp;omega
        rw[q1,q2]
        simp only[cond_false,cond_true,Xj]
        rw[Wso (by simp;omega) hN]
        simp only[ret,Xc,hq,decide_true,Xbp]
       ·have q1:decide (((i+1+l[i].2.2.1.toNat:Nat):Int)>ilen l)=true:=by simp[ilen];omega
        rw[q1]
        simp[hq]
      ·have b7:(l[i].1==7)=false:=by simp[h7]
       by_cases h11:l[i].1=11
       ·have b11:(l[i].1==11)=true:=by simp[h11]
        simp only[b7,b11,cond_true,cond_false,Xgy,Xcs,Xbp,Xcp,Wyv hl hN (Nat.le_of_lt hi),ret,Xc,We (show i<4611686018427387904 by omega)]at hf⊢
        simp only[hf]
        have ef:decide (((frk l i+1:Nat):Int)>1)=decide (frk l i+1>1):=by apply decide_eq_decide.2;omega
        have e0:(dep l i !=0)= !decide (dep l i=0):=by rw[bne,deq0]
        rw[ef,e0]
        cases decide (frk l i+1>1)<;>cases decide (dep l i=0)<;>rfl
       ·have b11:(l[i].1==11)=false:=by simp[h11]
        simp only[b7,b11,cond_true,cond_false,Xdn,Xax,Xcs,Xcp,We (show i<4611686018427387904 by omega)]at hf⊢
        simp only[hf])
    (λn v=>by simp only[Zb6,Wbl (Xm l.length),cond_false]) ()
   have e1:((frk l (Xb 0):Nat):Int)=0:=by simp[frk]
   simp only[e1]at h1
   refine h1.trans ?_
   rw[Wil (p:=badI l) (E:=λ_=>some ((),(false,()))) l 0 () (λj x v k _=>by rw[Xj])]
   cases anyI (badI l) 0 l<;>rfl
 ·have e:decide (ilen l>24)=true:=by simp[ilen];omega
  rw[e]
  simp[h]
end
section
def stk(l:List Opn):Nat→List Nat
 |0=>[]
 |j+1=>bif (l.getD j (0,0,0,0)).1==8 then stk l j++ [j]else bif (l.getD j (0,0,0,0)).1==9 then(stk l j).dropLast else stk l j
theorem Wva{l:List Opn}{j:Nat}(h:j<l.length)(h8:l[j].1=8):stk l (j+1)=stk l j++ [j]:=by
 rw[stk,Wc h];simp[h8]
theorem Wxy{l:List Opn}{j:Nat}(h:j<l.length)(h9:l[j].1=9):stk l (j+1)=(stk l j).dropLast:=by
 rw[stk,Wc h];simp[h9]
theorem Wpi{l:List Opn}{j:Nat}(h:j<l.length)(h8:l[j].1≠8)(h9:l[j].1≠9):stk l (j+1)=stk l j:=by
 rw[stk,Wc h]
 have e8:(l[j].1==8)=false:=by simp[h8]
 have e9:(l[j].1==9)=false:=by simp[h9]
 rw[e8,e9];rfl
theorem opd_8{o:Opn}(h:o.1=8):opd o=1:=by unfold opd;simp[h]
theorem Wzk{o:Opn}(h:o.1=9):opd o= -1:=by unfold opd;simp[h]
theorem opd_o{o:Opn}(h8:o.1≠8)(h9:o.1≠9):opd o=0:=by
 unfold opd
 have e8:(o.1==8)=false:=by simp[h8]
 have e9:(o.1==9)=false:=by simp[h9]
 rw[e8,e9];rfl
theorem Wfp{α:Type}(l:List α):l= []∨∃q x,l=q++ [x]:=by
 rcases List.eq_nil_or_concat l with h|⟨q,x,h⟩
 ·exact .inl h
 ·exact .inr ⟨q,x,by rw[h,List.concat_eq_append]⟩
def Up(l:List Opn):Prop:=∀i,i<l.length→0≤dep l (i+1)
theorem Up.at{l:List Opn}(h:Up l){j:Nat}(hj:j≤l.length):0≤dep l j:=by
 cases j with
 |zero=>rw[Wht];omega
 |succ j=>exact h j hj
theorem Weg{l:List Opn}(h:Up l):∀j,j≤l.length→((stk l j).length:Int)=dep l j
 |0,_=>by rw[Wht];rfl
 |j+1,hj=>by
  have hj':j<l.length:=hj
  have ih:=Weg h j (by omega)
  have hd:=Wbz hj'
  have hu:=h j hj'
  by_cases h8:l[j].1=8
  ·rw[Wva hj' h8,hd,opd_8 h8,Xz];simp;omega
  ·by_cases h9:l[j].1=9
   ·rw[Wxy hj' h9,hd,Wzk h9,Xdu]
    rw[hd,Wzk h9]at hu
    omega
   ·rw[Wpi hj' h8 h9,hd,opd_o h8 h9];omega
theorem Wzr{l:List Opn}:∀(j:Nat),j≤l.length→∀(s t:List Nat) (m:Nat),stk l j=s++m::t→
  m<j∧(∃h:m<l.length,l[m].1=8)∧stk l m=s∧∀i,m<i→i≤j→∃t',stk l i=s++m::t'
 |0,_,s,t,m,h=>by simp[stk]at h
 |j+1,hj,s,t,m,h=>by
  have hj':j<l.length:=hj
  have ih:=Wzr (l:=l) j (by omega)
  have next:∀t0,stk l j=s++m::t0→m<j+1∧(∃h:m<l.length,l[m].1=8)∧stk l m=s∧∀i,m<i→i≤j+1→∃t',stk l i=s++m::t':=λt0 h0=>by
   obtain⟨a,b,c,d⟩:=ih s t0 m h0
   refine⟨by omega,b,c,λi hi1 hi2=>?_⟩
   by_cases he:i=j+1
   ·subst he;exact⟨t,h⟩
   ·exact d i hi1 (by omega)
  by_cases h8:l[j].1=8
  ·rw[Wva hj' h8]at h
   rcases Wfp t with rfl|⟨t0,x,rfl⟩
   ·obtain⟨e1,e2⟩:=Xel (h:stk l j++ [j]=s++ [m]) rfl
    injection e2 with e2
    subst e2
    refine⟨by omega,⟨hj',h8⟩,e1,λi hi1 hi2=>?_⟩
    have:i=j+1:=by omega
    subst this
    exact⟨[],by rw[Wva hj' h8];exact h⟩
   ·have h2:stk l j++ [j]=(s++m::t0)++ [x]:=by rw[h,List.append_assoc,List.cons_append]
    obtain⟨e1,e2⟩:=Xel h2 rfl
    have h':stk l (j+1)=s++m::(t0++ [x]):=by rw[Wva hj' h8,h]
    obtain⟨a,b,c,d⟩:=ih s t0 m e1
    refine⟨by omega,b,c,λi hi1 hi2=>?_⟩
    by_cases he:i=j+1
    ·subst he;exact⟨_,h'⟩
    ·exact d i hi1 (by omega)
  ·by_cases h9:l[j].1=9
   ·rw[Wxy hj' h9]at h
    rcases Wfp (stk l j)with h0|⟨q,x,hq⟩
    ·rw[h0]at h;simp at h
    ·have hq':(stk l j).dropLast=q:=by rw[hq];simp
     rw[hq']at h
     have h2:stk l j=s++m::(t++ [x]):=by rw[hq,h];simp
     obtain⟨a,b,c,d⟩:=ih s _ m h2
     refine⟨by omega,b,c,λi hi1 hi2=>?_⟩
     by_cases he:i=j+1
     ·subst he;exact⟨t,by rw[Wxy hj' h9,hq'];exact h⟩
     ·exact d i hi1 (by omega)
   ·exact next t (by rw[←Wpi hj' h8 h9];exact h)
theorem stk_part{l:List Opn}{a b:Nat}(hab:a≤b)(hb:b≤l.length)(hbal:bal ((l.take b).drop a)=true):stk l b=stk l a:=by
 obtain⟨h1,h2⟩:=bal_iff.1 hbal
 have hlen:((l.take b).drop a).length=b-a:=by simp;omega
 have key:∀i,i≤b-a→∃t,stk l (a+i)=stk l a++t∧(t.length:Int)=dep ((l.take b).drop a) i:=by
  intro i
  induction i with
  |zero=>intro _;exact⟨[],by simp,by rw[Wht];rfl⟩
  |succ i ih=>
   intro hi
   obtain⟨t,ht1,ht2⟩:=ih (by omega)
   have hil:a+i<l.length:=by omega
   have hi2:i<((l.take b).drop a).length:=by omega
   have hd:=Wbz hi2
   have ei:((l.take b).drop a)[i]=l[a+i]:=by simp
   rw[ei]at hd
   have hu:=h1 i hi2
   by_cases h8:l[a+i].1=8
   ·refine⟨t++ [a+i],by rw[←Xap,Wva hil h8,ht1];simp,?_⟩
    rw[hd,opd_8 h8,Xz];simp;omega
   ·by_cases h9:l[a+i].1=9
    ·rw[hd,Wzk h9]at hu
     have hne:t≠ []:=λh=>by subst h;simp at ht2;omega
     refine⟨t.dropLast,?_,?_⟩
     ·rw[←Xap,Wxy hil h9,ht1,List.dropLast_append_of_ne_nil hne]
     ·rw[hd,Wzk h9,Xdu];omega
    ·refine⟨t,by rw[←Xap,Wpi hil h8 h9,ht1],?_⟩
     rw[hd,opd_o h8 h9];omega
 obtain⟨t,ht1,ht2⟩:=key (b-a) (Xm _)
 rw[←hlen,h2]at ht2
 have:t= []:=Xy (by omega)
 subst this
 rw[show a+(b-a)=b by omega]at ht1
 simpa using ht1
structure Mate(l:List Opn)(m k:Nat):Prop where
 lt:m<k
 len:k<l.length
 eq:dep l (k+1)=dep l m
 ne:∀i,m≤i→i<k→dep l (i+1)≠dep l m
 st:stk l (k+1)=stk l m
theorem mate_at{l:List Opn}(hu:Up l)(h0:dep l l.length=0){j m:Nat}{s:List Nat}(hj:j≤l.length)(hs:stk l j=s++ [m]):∃k,j≤k∧Mate l m k∧stk l m=s:=by
 obtain⟨a,⟨hm,h8⟩,c,d⟩:=Wzr j hj s [] m hs
 have hlm:=Weg hu m (by omega)
 have low:∀i,m≤i→i<j→dep l (i+1)≠dep l m:=λi h1 h2=>by
  obtain⟨t',ht'⟩:=d (i+1) (by omega) (by omega)
  have:=Weg hu (i+1) (by omega)
  rw[ht']at this
  rw[c]at hlm
  simp at this
  omega
 have hge:=hu.at (show m≤l.length by omega)
 have ex:∀n i,l.length-i=n→j≤i→i≤l.length→(∀i',m≤i'→i'<i→dep l (i'+1)≠dep l m)→dep l m<dep l i→∃k,j≤k∧k<l.length∧dep l (k+1)=dep l m∧∀i',m≤i'→i'<k→dep l (i'+1)≠dep l m:=by
  intro n
  induction n with
  |zero=>intro i h1 h2 h3 h4 h5;exfalso;rw[show i=l.length by omega,h0]at h5;omega
  |succ n ih=>
   intro i h1 h2 h3 h4 h5
   have hil:i<l.length:=by omega
   by_cases he:dep l (i+1)=dep l m
   ·exact⟨i,h2,hil,he,h4⟩
   ·have hd:=Wbz hil
    have ho:=Wrj l[i]
    refine ih (i+1) (by omega) (by omega) hil (λi' q1 q2=>?_) (by omega)
    by_cases hi':i'=i
    ·subst hi';exact he
    ·exact h4 i' q1 (by omega)
 have hdj:dep l m<dep l j:=by
  have:=Weg hu j hj
  rw[hs]at this
  rw[c]at hlm
  simp at this
  omega
 obtain⟨k,k1,k2,k3,k4⟩:=ex _ j rfl (Xm _) hj low hdj
 have hmk:m<k:=by omega
 have pre:∀n i,i=m+1+n→i≤k→∃t,stk l i=s++m::t:=by
  intro n
  induction n with
  |zero=>intro i h1 h2;exact⟨[],by rw[h1,Xax,Wva hm h8,c]⟩
  |succ n ih=>
   intro i h1 h2
   obtain⟨t,ht⟩:=ih (m+1+n) rfl (by omega)
   have e:i=(m+1+n)+1:=by omega
   have hil:m+1+n<l.length:=by omega
   by_cases g8:l[m+1+n].1=8
   ·exact⟨t++ [m+1+n],by rw[e,Wva hil g8,ht];simp⟩
   ·by_cases g9:l[m+1+n].1=9
    ·rcases Wfp t with rfl|⟨t0,x,rfl⟩
     ·exfalso
      have q:=Wxy hil g9
      rw[ht]at q
      have q2:stk l (m+1+n+1)=s:=by rw[q];simp
      have q3:=Weg hu (m+1+n+1) (by omega)
      rw[q2]at q3
      rw[c]at hlm
      exact k4 (m+1+n) (by omega) (by omega) (by omega)
     ·exact⟨t0,by rw[e,Wxy hil g9,ht,show s++m::(t0++ [x])=(s++m::t0)++ [x] by simp,Xew]⟩
    ·exact⟨t,by rw[e,Wpi hil g8 g9,ht]⟩
 obtain⟨t,ht⟩:=pre (k-m-1) k (by omega) (Xm _)
 have hdk:=Weg hu k (by omega)
 have hdk1:=Wbz k2
 rw[ht]at hdk
 rw[c]at hlm
 simp at hdk
 have hok:=Wrj l[k]
 have g9:l[k].1=9:=by
  by_cases g9:l[k].1=9
  ·exact g9
  ·by_cases g8:l[k].1=8
   ·have:=opd_8 g8;omega
   ·have:=opd_o g8 g9;omega
 have htn:t= []:=Xy (by have:=Wzk g9;omega)
 subst htn
 refine⟨k,k1,⟨hmk,k2,k3,k4,?_⟩,c⟩
 rw[Wxy k2 g9,ht,c];simp
theorem dep_ne_0{l:List Opn}{m i:Nat}:((dep l (i+1) -dep l m)==(0:Int))=decide (dep l (i+1)=dep l m):=by
 by_cases h:dep l (i+1)=dep l m
 ·simp[h]
 ·have:dep l (i+1) -dep l m≠0:=by omega
  simp[h,this]
theorem Wsv{N:Nat}{l:List Opn}{m k:Nat}(hl:l.length≤1048576)(hN:1048576<N)(h8:∃h:m<l.length,l[m].1=8)(hm:Mate l m k):Zhx N l (m:Int)=ret (k:Int):=by
 obtain⟨hml,h8⟩:=h8
 unfold Zhx
 have e1:isub .i64 (ilen l) 1=(l.length:Int) -1:=Wbm (by unfold I64 ilen;omega)
 have e2:(decide (0≤(m:Int))&&decide ((m:Int)≤(l.length:Int) -1))=true:=by simp;omega
 have e3:(l[m].1 !=8)=false:=by simp[h8]
 simp only[Wj,ret,Xc,e1,e2,Xaa,cond_false,Wk hml,cond_true,Wm hml,e3]
 have key:∀(c n i:Nat),k-i=c→m≤i→i≤k→l.length-i<n→∀{R:Type} (K0:Int→Option R) (K1:Int→Int→Bool→Option R),Zeb N l K0 K1 n (dep l i-dep l m) (i:Int)=K0 k:=by
  intro c
  induction c with
  |zero=>
   intro n i h1 h2 h3 h4 R K0 K1
   have:i=k:=by omega
   subst this
   cases n with
   |zero=>omega
   |succ n=>
    have hil:=hm.len
    have hd:=Wbz hil
    have hb:=Wij l i
    have hb2:=Wij l m
    have ho:=Wrj l[i]
    have e:iadd .i64 (dep l i-dep l m) (opd l[i])=dep l (i+1) -dep l m:=by rw[Wx (by unfold I64;omega),hd];omega
    simp only[Zeb,Wbb hil,Wk hil,Wm hil,cond_true,Wov,ret,Xc,e]
    rw[dep_ne_0]
    simp[hm.eq]
  |succ c ih=>
   intro n i h1 h2 h3 h4 R K0 K1
   cases n with
   |zero=>omega
   |succ n=>
    have hk:=hm.len
    have hil:i<l.length:=by omega
    have hd:=Wbz hil
    have hb:=Wij l i
    have hb2:=Wij l m
    have ho:=Wrj l[i]
    have e:iadd .i64 (dep l i-dep l m) (opd l[i])=dep l (i+1) -dep l m:=by rw[Wx (by unfold I64;omega),hd];omega
    have hne:=hm.ne i h2 (by omega)
    simp only[Zeb,Wbb hil,Wk hil,Wm hil,cond_true,Wov,ret,Xc,e,dep_ne_0,hne,decide_false,cond_false,We (show i<4611686018427387904 by omega)]
    exact ih n (i+1) (by omega) (by omega) (by omega) (by omega) K0 K1
 have:=key (k-m) N m rfl (Xm _) (by have:=hm.lt;omega) (by omega) (R:=Unit×(Int×Unit)) (λt13=>some ((),(t13,()))) (λn14 k15 t16=>some ((),((-1:Int),())))
 rw[Int.sub_self]at this
 exact this
end
section
abbrev Wd:=Int×Int×Int
abbrev Mm:=Int×List Wd
theorem Wpc{α:Type}(a:Option α):both a a=a:=by unfold both;simp
def isWd(clock:Int)(w:Wd):Bool:=Wds w.1&&((decide (0≤w.2.1)&&decide (w.2.1≤clock))&&(decide (0≤w.2.2)&&decide (w.2.2≤99)))
def Waq(m:Mm):Bool:=decide (m.2.length=8)&&((decide (0≤m.1)&&decide (m.1≤1000000))&&m.2.all (isWd m.1))
theorem Wcx{N:Nat}{m:Mm}(hl:m.2.length≤1048576)(hN:1048576<N):Zch N m=ret (Waq m):=by
 unfold Zch Waq
 have h1:=Wv (l:=m.2) (V:=Unit) (R:=Unit×(Bool×Unit)) (lp:=λn j v=>Zd9 N m.2 m (some ((),(false,()))) (λt17 t18=>
  (bif (ilen m.2)==(8:Int)then
  ((Zo N m.1 (0:Int) (1000000:Int)).bind λo19=>
  (some ((),(o19.2.1,()))))
  else
  (some ((),(false,()))))) n j) (n:=N) (by omega)
  (body:=λj x v k=>bif !isWd m.1 x then some ((),(false,()))else k v) (K:=λ_ v=>(bif (ilen m.2)==(8:Int)then
  ((Zo N m.1 (0:Int) (1000000:Int)).bind λo19=>
  (some ((),(o19.2.1,()))))
  else
  (some ((),(false,())))))
  (λn i v hi=>by
   simp only[Zd9,Wbb hi,Wk hi,Wm hi,We (show i<4611686018427387904 by omega),cond_true,Wi,Wj,ret,Xc,isWd]
   cases Wds m.2[i].1<;>cases(decide (0≤m.2[i].2.1)&&decide (m.2[i].2.1≤m.1))<;>cases(decide (0≤m.2[i].2.2)&&decide (m.2[i].2.2≤99))<;>rfl)
  (λn v=>by simp only[Zd9,Wbl (Xm m.2.length),cond_false]) ()
 refine h1.trans ?_
 rw[Wbs (p:=λx=>!isWd m.1 x) (E:=λ_=>some ((),(false,()))) m.2 0 () (λj x v k _=>rfl),Wfu]
 have e:((ilen m.2)==(8:Int))=decide (m.2.length=8):=by
  by_cases h:m.2.length=8
  ·simp[ilen,h]
  ·simp[ilen,h];omega
 simp only[e,Wj,ret,Xc]
 cases m.2.all (isWd m.1)<;>cases decide (m.2.length=8)<;>simp
theorem Wxx{N:Nat}{m:Mm}(hl:m.2.length≤1048576)(hN:1048576<N):Zjm N m=ret (Waq m):=by
 unfold Zjm Waq
 have e:((ilen m.2) !=(8:Int))= !decide (m.2.length=8):=by
  by_cases h:m.2.length=8
  ·simp[ilen,h]
  ·simp[ilen,h];omega
 have h1:=Wv (l:=m.2) (V:=Unit) (R:=Unit×(Bool×Unit)) (lp:=λn j v=>Zcw N m (some ((),(false,()))) (λi13 t14=>(some ((),(true,())))) n j) (n:=N) (by omega)
  (body:=λj x v k=>bif !isWd m.1 x then some ((),(false,()))else k v) (K:=λ_ v=>some ((),(true,())))
  (λn i v hi=>by
   simp only[Zcw,Wbb hi,Wk hi,Wm hi,We (show i<4611686018427387904 by omega),cond_true,Waf,Who,ret,Xc,isWd]
   cases Wds m.2[i].1<;>cases(decide (0≤m.2[i].2.1)&&decide (m.2[i].2.1≤m.1))<;>cases(decide (0≤m.2[i].2.2)&&decide (m.2[i].2.2≤99))<;>rfl)
  (λn v=>by simp only[Zcw,Wbl (Xm m.2.length),cond_false]) ()
 have h2:Zcw N m (some ((),(false,()))) (λi13 t14=>(some ((),(true,())))) N 0=ret (m.2.all (isWd m.1)):=by
  refine h1.trans ?_
  rw[Wbs (p:=λx=>!isWd m.1 x) (E:=λ_=>some ((),(false,()))) m.2 0 () (λj x v k _=>rfl),Wfu]
  cases m.2.all (isWd m.1)<;>rfl
 rw[e,h2]
 simp only[Who,ret,Xc]
 cases decide (m.2.length=8)<;>cases(decide (0≤m.1)&&decide (m.1≤1000000))<;>simp
def wd0(v:Int):Wd:=(v,(0,0))
def memNew(l:List Int):Mm:=(0,l.map wd0)
theorem Wip{α β R:Type}{body:Int→α→List β→(List β→Option R)→Option R}{K:Int→List β→Option R}{f:α→β}:∀(l:List α) (j:Nat) (o:List β),o.length+l.length≤1000000→
  (∀(j:Nat) x (v:List β) k,x∈l→body j x v k=bif room (v.length+ [f x].length)then k (Xf v [f x])else none)→Wfk body K l j o=K ((j+l.length:Nat):Int) (o++l.map f)
 | [],j,o,_,_=>by simp[Wfk]
 |x::l,j,o,h,hb=>by
  rw[Xr]at h
  rw[Wfk,hb j x o _ (Xi ..),Ww (by simp;omega)]
  simp only[cond_true]
  rw[Wip l (j+1) _ (by simp[Xah];omega) λj y v k hy=>hb j y v k (Xe _ hy)]
  rw[Xr,show j+1+l.length=j+(l.length+1) by omega]
  simp
theorem Wvb{N:Nat}{l:List Int}(h:Wkp l=true)(hN:1048576<N):Zcg N l=some ((),(memNew l,(true,()))):=by
 have hl:l.length=8:=by unfold Wkp at h;simp at h;exact h.1
 unfold Zcg
 simp only[Wrr (show l.length≤1048576 by omega) hN,ret,Xc,h,Xaa,cond_false]
 have h1:=Wv (l:=l) (V:=List Wd) (R:=Unit×(Mm×(Bool×Unit))) (lp:=λn j v=>Zdg N l (λt12 t13 l14=>(some ((),(((0:Int),l14),(true,()))))) n j v) (n:=N) (by omega)
  (body:=λj x v k=>bif room (v.length+ [wd0 x].length)then k (Xf v [wd0 x])else none) (K:=λ_ v=>some ((),(((0:Int),v),(true,()))))
  (λn i v hi=>by simp only[Zdg,Wbb hi,Wk hi,Wm hi,We (show i<4611686018427387904 by omega),cond_true,wd0])
  (λn v=>by simp only[Zdg,Wbl (Xm l.length),cond_false]) []
 refine h1.trans ?_
 rw[Wip (f:=wd0) l 0 [] (by simp;omega) (λj x v k _=>rfl)]
 rfl
theorem Wz{m:Mm}(h:Waq m=true):m.2.length=8∧0≤m.1∧m.1≤1000000∧∀w∈m.2,isWd m.1 w=true:=by
 unfold Waq at h
 simp only[Xh,decide_eq_true_eq,Xae]at h
 exact⟨h.1,h.2.1.1,h.2.1.2,h.2.2⟩
def tick(m:Mm):Mm×Int:=if m.1<1000000 then((m.1+1,m.2),m.1+1)else(m,0)
theorem implTick_run{N:Nat}{m:Mm}(h:Waq m=true)(hN:1048576<N):Zox N m=some ((),((tick m).1,((tick m).2,()))):=by
 obtain⟨h8,h0,h1,_⟩:=Wz h
 have e:Zcj N m=ret m:=by unfold Zcj;rw[Ww (by omega)];rfl
 unfold Zox tick
 simp only[e,Wcx (show m.2.length≤1048576 by omega) hN,ret,Xc,h,Xaa,cond_false]
 by_cases hc:m.1<1000000
 ·have e2:(m.1==1000000)=false:=by simp;omega
  have e3:iadd .i64 m.1 1=m.1+1:=Wx (by unfold I64;omega)
  rw[e2,if_pos hc,e3];rfl
 ·have e2:(m.1==1000000)=true:=by simp;omega
  rw[e2,if_neg hc];rfl
abbrev Pb:=Int×Int×Int×Int
def pbOk(p:Pb):Bool:=Waz p.1&&((decide (0≤p.2.1)&&decide (p.2.1≤4))&&((decide (0≤p.2.2.1)&&decide (p.2.2.1≤1000000))&&Wds p.2.2.2))
theorem implPbOk_run{N:Nat}{p:Pb}:Zl5 N p=ret (pbOk p):=by
 unfold Zl5 pbOk
 simp only[Wh,Wj,Wi,ret,Xc]
 cases Waz p.1<;>cases(decide (0≤p.2.1)&&decide (p.2.1≤4))<;>cases(decide (0≤p.2.2.1)&&decide (p.2.2.1≤1000000))<;>simp
def Was(m:Mm)(rv:Int)(p:Pb):Pb:=
 let w:=Xd m.2 (Xb p.1) (0,(0,0))
 bif p.2.1==0 then(bif w.2.2==0 then(bif decide (w.2.1≤rv)then(p.1,(1,(w.2.1,p.2.2.2)))else(p.1,(4,p.2.2)))else(p.1,(4,p.2.2)))
 else bif p.2.1==1 then(p.1,(2,(p.2.2.1,w.1)))
 else bif p.2.1==2 then(bif w.2.2==0 then(bif w.2.1==p.2.2.1 then(p.1,(3,p.2.2))else(p.1,(4,p.2.2)))else(p.1,(4,p.2.2)))
 else p
theorem pb_inb{m:Mm}{p:Pb}(h:Waq m=true)(hp:pbOk p=true):inb p.1 m.2.length=true:=by
 have h1:=(Wz h).1
 unfold pbOk Waz at hp
 simp at hp
 unfold inb
 rw[h1];simp;omega
theorem Wlw{N:Nat}{m:Mm}{rv:Int}{p:Pb}(h:Waq m=true)(hp:pbOk p=true)(hN:1048576<N):Zea N m rv p=ret (Was m rv p):=by
 have h1:=(Wz h).1
 unfold Zea Was
 simp only[Wcx (show m.2.length≤1048576 by omega) hN,implPbOk_run,ret,Xc,h,hp,Xaa,cond_false,pb_inb h hp,cond_true]
 generalize Xd m.2 (Xb p.1) (0,(0,0))=w
 cases p.2.1==0<;>cases p.2.1==1<;>cases p.2.1==2<;>cases w.2.2==0<;>cases decide (w.2.1≤rv)<;>cases w.2.1==p.2.2.1<;>rfl
def Wss(l:List Rw)(c:Int):Nat→Option Int
 |0=>none
 |i+1=>if(Xd l i (0,0)).1=c then some (Xd l i (0,0)).2 else Wss l c i
def Wdr(l:List Rw)(c:Int):Option Int:=if Wdk l=true then Wss l c l.length else none
def opI(o:Option Int):Option (Unit×(Int×(Bool×Unit))):=match o with
 |none=>some ((),((0:Int),(false,())))
 |some v=>some ((),(v,(true,())))
theorem Wtt{N:Nat}{l:List Rw}{c:Int}(hl:l.length≤1048576):∀(i n:Nat),i<n→i≤l.length→Zg3 N l c (λt10=>(some ((),(t10,(true,()))))) (λi11 t12=>(some ((),((0:Int),(false,()))))) n ((i:Int) -1)=opI (Wss l c i)
 |i,0,h,_=>by omega
 |0,n+1,h,_=>rfl
 |i+1,n+1,h,hi=>by
  have e:((i+1:Nat):Int) -1=(i:Int):=by omega
  have e1:decide ((i:Int)≥0)=true:=by simp
  have e2:isub .i64 (i:Int) 1=(i:Int) -1:=Wbm (by unfold I64;omega)
  rw[e,Zg3,e1,Wk (show i<l.length by omega),e2,Wss,Xj]
  simp only[cond_true]
  by_cases hc:(Xd l i ((0:Int),(0:Int))).1=c
  ·rw[if_pos hc,beq_iff_eq.2 hc];rfl
  ·rw[if_neg hc,beq_eq_false_iff_ne.2 hc]
   exact Wtt hl i n (by omega) (by omega)
theorem len_m1{α:Type}{l:List α}(hl:l.length≤1048576):isub .i64 (ilen l) 1=((l.length:Nat):Int) -1:=by unfold ilen;exact Wbm (by unfold I64;omega)
theorem Wkm{N:Nat}{l:List Rw}{c:Int}(hl:l.length≤1048576)(hN:1048576<N):Zhk N l c=opI (Wdr l c):=by
 unfold Zhk Wdr
 simp only[Wgi hl hN,ret,Xc]
 cases Wdk l
 ·rfl
 ·simp only[Xaa,cond_false,if_true,len_m1 hl]
  exact Wtt hl l.length N (by omega) (Xm _)
end
section
def Wxr(l:List Rw)(o:List Rw)(c:Nat):List Rw:=match Wdr l c with
 |none=>o
 |some v=>o++ [((c:Int),v)]
def Wxm(l:List Rw):Nat→Nat→List Rw→List Rw
 |0,_,o=>o
 |j+1,c,o=>Wxm l j (c+1) (Wxr l o c)
def netR(l:List Rw):List Rw:=Wxm l 8 0 []
theorem Wpu{N:Nat}{l:List Rw}(hl:l.length≤1048576)(hN:1048576<N):∀(j n c:Nat) (o:List Rw),c+j=8→j<n→o.length≤c→Zgg N l (λt11 t12 l13=>(some ((),(l13,())))) n (c:Int) o=ret (Wxm l j c o)
 |j,0,c,o,_,h,_=>by omega
 |0,n+1,c,o,h,_,_=>by
  have:c=8:=by omega
  subst this;rfl
 |j+1,n+1,c,o,h,h1,ho=>by
  have e:decide ((c:Int)<8)=true:=by simp;omega
  rw[Zgg,e,Wkm hl hN,We (by omega),Wxm,Wxr]
  simp only[cond_true]
  rcases Wdr l c with _|v
  ·exact Wpu hl hN j n (c+1) o (by omega) (by omega) (by omega)
  ·have er:room (o.length+ [((c:Int),v)].length)=true:=Ww (by simp;omega)
   simp only[opI,Xc,cond_true,er]
   exact Wpu hl hN j n (c+1) _ (by omega) (by omega) (by simp;omega)
theorem netGo_bad{l:List Rw}(h:Wdk l=false):∀(j c:Nat) (o:List Rw),Wxm l j c o=o
 |0,_,_=>rfl
 |j+1,c,o=>by
  have e:Wdr l c=none:=by unfold Wdr;rw[h];rfl
  rw[Wxm,Wxr,e]
  exact netGo_bad h j (c+1) o
theorem Wjm{N:Nat}{l:List Rw}(hl:l.length≤1048576)(hN:1048576<N):Zgr N l=ret (netR l):=by
 unfold Zgr
 simp only[Wgi hl hN,ret,Xc]
 cases h:Wdk l
 ·unfold netR;rw[netGo_bad h];rfl
 ·exact Wpu hl hN 8 N 0 [] rfl (by omega) (by simp)
def fnd{α:Type}(p:α→Bool):List α→Nat→Option (Nat×α)
 | [],_=>none
 |x::l,j=>bif p x then some (j,x)else fnd p l (j+1)
theorem Wpp{α V R:Type}{body:Int→α→V→(V→Option R)→Option R}{K:Int→V→Option R}{p:α→Bool}{E:Int→α→Option R}:∀(l:List α) (j:Nat) (v:V),(∀(j:Nat) x v k,x∈l→body j x v k=bif p x then E j x else k v)→
  Wfk body K l j v=match fnd p l j with|some r=>E r.1 r.2|none=>K ((j+l.length:Nat):Int) v
 | [],j,v,_=>rfl
 |x::l,j,v,h=>by
  rw[Wfk,h j x v _ (Xi ..),fnd,Wpp l (j+1) v λj y v k hy=>h j y v k (Xe _ hy)]
  cases p x
  ·simp only[cond_false]
   rw[Xr,show j+1+l.length=j+(l.length+1) by omega]
  ·rfl
theorem Whj{α:Type}{p:α→Bool}:∀{l:List α} {j:Nat} {r:Nat×α},fnd p l j=some r→p r.2=true∧j≤r.1∧r.1<j+l.length∧l[r.1-j]?=some r.2
 | [],j,r,h=>by cases h
 |x::l,j,r,h=>by
  rw[fnd]at h
  cases hp:p x
  ·rw[hp]at h
   obtain⟨h1,h2,h3,h4⟩:=Whj (l:=l) h
   refine⟨h1,by omega,by rw[Xr];omega,?_⟩
   obtain⟨q,hq⟩:∃q,r.1-j=q+1:=⟨r.1-j-1,by omega⟩
   rw[hq,List.getElem?_cons_succ]
   rw[show r.1-(j+1)=q by omega]at h4
   exact h4
  ·rw[hp]at h
   cases h
   exact⟨hp,Xm _,by simp,by simp⟩
theorem Wsa{α:Type}{p:α→Bool}:∀{l:List α} {j:Nat},fnd p l j=none→∀x∈l,p x=false
 | [],j,h=>by simp
 |x::l,j,h=>by
  rw[fnd]at h
  cases hp:p x
  ·rw[hp]at h
   intro y hy
   rcases Xo.1 hy with rfl|hy
   ·exact hp
   ·exact Wsa h y hy
  ·rw[hp]at h;cases h
abbrev En:=Int×Int×Int
def ent(b:List En)(c:Int):Option (Nat×En):=fnd (λe=>e.1==c) b 0
theorem Wne{N:Nat}{f:Y_Family}{c:Int}(hl:f.2.2.2.2.2.2.1.length≤1048576)(hN:1048576<N):Zcp N f c=ret (match ent f.2.2.2.2.2.2.1 c with|some r=>(r.1:Int)|none=>-1):=by
 unfold Zcp
 show((Zp N f.2.2.2.2.2.2.1 c).bind _)=_
 generalize f.2.2.2.2.2.2.1=b at hl
 unfold Zp ent
 have h1:=Wv (l:=b) (V:=Unit) (R:=(Int×Unit)×(Int×Unit)) (lp:=λn j v=>Zf N b (λt15 b16=>(some ((b16,()),(t15,())))) (λt17 t18 b19=>(some ((b19,()),((-1:Int),())))) n j c) (n:=N) (by omega)
  (body:=λj x v k=>bif x.1==c then some ((c,()),(j,()))else k v) (K:=λ_ v=>some ((c,()),((-1:Int),())))
  (λn i v hi=>by simp only[Zf,Zjo,Wbb hi,Wk hi,Wm hi,We (show i<4611686018427387904 by omega),cond_true,Xc])
  (λn v=>by simp only[Zf,Wbl (Xm b.length),cond_false]) ()
 rw[h1,Wpp (p:=λe=>e.1==c) (E:=λj x=>some ((c,()),(j,()))) b 0 () (λj x v k _=>rfl)]
 cases fnd (λe:En=>e.1==c) b 0<;>rfl
theorem Wdx{N:Nat}{l:List Int}(h:l.length≤1048576):Zw N l=ret l:=by
 unfold Zw;rw[Ww (by omega)];rfl
theorem Wig{N:Nat}{l:List Rw}(h:l.length≤1048576):Zbu N l=ret l:=by
 unfold Zbu;rw[Ww (by omega)];rfl
end
section
theorem touch_ex{N:Nat}{o:Opn}:∃t:Int,Zci N o=ret t∧Zhl N o=ret t:=by
 unfold Zci Zhl
 rw[Wim,Wmc]
 simp only[ret,Xc]
 cases opOk o
 ·exact⟨0,rfl,rfl⟩
 ·cases o.1==5<;>cases o.1==6<;>cases o.1==12<;>cases o.1==13<;>cases o.1==14<;>cases o.1==15<;>cases o.1==16<;>exact⟨_,rfl,rfl⟩
noncomputable def Wvj(o:Opn):Int:=match Zci 0 o with|some (_,(t,_))=>t|none=>0
theorem touchN{N:Nat}{o:Opn}:Zci N o=Zci 0 o:=by
 unfold Zci
 rw[Wim,Wim]
theorem Wjl{N:Nat}{o:Opn}:Zci N o=ret (Wvj o):=by
 rw[touchN]
 obtain⟨t,h,_⟩:=touch_ex (N:=0) (o:=o)
 unfold Wvj
 rw[h]
theorem Wor{N:Nat}{o:Opn}:Zhl N o=ret (Wvj o):=by
 obtain⟨t,h,h2⟩:=touch_ex (N:=N) (o:=o)
 rw[h2,←h,Wjl]
noncomputable def Wot(o:Opn):Bool:=(o.1==11)||(Wvj o==2)
noncomputable def Wqn(l:List Opn):Bool:=cdOk l&& !l.any Wot
theorem Wqu{N:Nat}{l:List Opn}(hl:l.length≤1048576)(hN:1048576<N):Zgf N l=ret (l.any λo=>o.1==11):=by
 unfold Zgf
 have h1:=Wv (l:=l) (V:=Unit) (R:=Unit×(Bool×Unit)) (lp:=λn j v=>Zcv N l (some ((),(true,()))) (λi8 t9=>some ((),(false,()))) n j) (n:=N) (by omega)
  (body:=λj x v k=>bif x.1==11 then some ((),(true,()))else k v) (K:=λ_ v=>some ((),(false,())))
  (λn i v hi=>by simp only[Zcv,Wbb hi,Wk hi,Wm hi,We (show i<4611686018427387904 by omega),cond_true])
  (λn v=>by simp only[Zcv,Wbl (Xm l.length),cond_false]) ()
 refine h1.trans ?_
 rw[Wbs (p:=λx:Opn=>x.1==11) (E:=λ_=>some ((),(true,()))) l 0 () (λj x v k _=>rfl)]
 cases l.any λo:Opn=>o.1==11<;>rfl
theorem specKid_run{N:Nat}{l:List Opn}(hl:l.length≤1048576)(hN:1048576<N):Zhv N l=ret (Wqn l):=by
 unfold Zhv Wqn
 simp only[Wro hl hN,ret,Xc]
 cases cdOk l with
 |false=>rfl
 |true=>
  simp only[Wqu hl hN,ret,Xc,Xaa,cond_false,Xbp]
  have h1:=Wv (l:=l) (V:=Unit) (R:=Unit×(Bool×Unit)) (lp:=λn j v=>Zd7 N l (some ((),(false,()))) (λi8 t9=>some ((),(true,()))) n j) (n:=N) (by omega)
   (body:=λj x v k=>bif Wvj x==2 then some ((),(false,()))else k v) (K:=λ_ v=>some ((),(true,())))
   (λn i v hi=>by simp only[Zd7,Wbb hi,Wk hi,Wm hi,We (show i<4611686018427387904 by omega),cond_true,Wjl,ret,Xc])
   (λn v=>by simp only[Zd7,Wbl (Xm l.length),cond_false]) ()
  (try simp only[]at h1)
  rw[h1,Wbs (p:=λx=>Wvj x==2) (E:=λ_=>some ((),(false,()))) l 0 () (λj x v k _=>rfl)]
  have e:l.any Wot=((l.any λo=>o.1==11)||l.any λo=>Wvj o==2):=by
   clear h1 hl
   induction l with
   |nil=>rfl
   |cons x l ih=>
    simp only[List.any_cons,ih,Wot]
    cases x.1==11<;>cases Wvj x==2<;>simp
  rw[e]
  cases l.any λo:Opn=>o.1==11<;>cases l.any λo=>Wvj o==2<;>rfl
theorem implKid_run{N:Nat}{l:List Opn}(hl:l.length≤1048576)(hN:1048576<N):Zhw N l=ret (Wqn l):=by
 unfold Zhw Wqn
 have h1:=Wv (l:=l) (V:=Unit) (R:=Unit×(Bool×Unit)) (lp:=λn j v=>Zd8 N l (some ((),(false,()))) (λt11 t12=>((Zc3 N l).bind λo13=>(some ((),(o13.2.1,()))))) n j) (n:=N) (by omega)
  (body:=λj x v k=>bif Wot x then some ((),(false,()))else k v) (K:=λ_ v=>ret (cdOk l))
  (λn i v hi=>by
   simp only[Zd8,Wbb hi,Wk hi,Wm hi,We (show i<4611686018427387904 by omega),cond_true,Wor,ret,Xc,Wot]
   cases l[i].1==11<;>rfl)
  (λn v=>by simp only[Zd8,Wbl (Xm l.length),cond_false,Wrf hl hN,ret,Xc]) ()
 refine h1.trans ?_
 rw[Wbs (p:=Wot) (E:=λ_=>some ((),(false,()))) l 0 () (λj x v k _=>rfl)]
 cases l.any Wot<;>cases cdOk l<;>rfl
def Wmm(l:List Int):Bool:=decide (l.length=4)&&l.all Wds
theorem Whx{N:Nat}{l:List Int}(hl:l.length≤1048576)(hN:1048576<N):Zaq N l 4=ret (Wmm l):=by
 unfold Zaq Wmm
 have h1:=Wv (l:=l) (V:=Unit) (R:=Unit×(Bool×Unit)) (lp:=λn j v=>Zbc N l 4 (some ((),(false,()))) (λi8 t9=>some ((),((ilen l)==(4:Int),()))) n j) (n:=N) (by omega)
  (body:=λj x v k=>bif !Wds x then some ((),(false,()))else k v) (K:=λ_ v=>some ((),((ilen l)==(4:Int),())))
  (λn i v hi=>by simp only[Zbc,Wbb hi,Wk hi,Wm hi,We (show i<4611686018427387904 by omega),cond_true,Wi,ret,Xc])
  (λn v=>by simp only[Zbc,Wbl (Xm l.length),cond_false]) ()
 refine h1.trans ?_
 rw[Wbs (p:=λx=>!Wds x) (E:=λ_=>some ((),(false,()))) l 0 () (λj x v k _=>rfl),Wfu]
 have e:((ilen l)==(4:Int))=decide (l.length=4):=by
  by_cases h:l.length=4
  ·simp[ilen,h]
  ·simp[ilen,h];omega
 rw[e]
 cases l.all Wds<;>simp
end
section
section
variable{o:Opn}
theorem ok_calc(h:opOk o=true)(h1:1≤o.1)(h4:o.1≤4):Wf o.2.1=true∧(o.1=1→Wds o.2.2.1=true)∧(o.1≠1→Wf o.2.2.1=true∧Wf o.2.2.2=true):=by
 obtain⟨k,a,b,c⟩:=o
 simp only at h1 h4
 have:k=1∨k=2∨k=3∨k=4:=by omega
 rcases this with rfl|rfl|rfl|rfl
 ·have:(Wf a&&Wds b&&(c==(0:Int)))=true:=h
  simp only[Xh]at this
  exact⟨this.1.1,λ_=>this.1.2,λh=>absurd rfl h⟩
 all_goals
  have:(Wf a&&Wf b&&Wf c)=true:=h
  simp only[Xh]at this
  exact⟨this.1.1,λh=>by simp at h,λ_=>⟨this.1.2,this.2⟩⟩
theorem ok_5(h:opOk o=true)(h5:o.1=5):Wf o.2.1=true∧Waz o.2.2.1=true:=by
 obtain⟨k,a,b,c⟩:=o
 simp only at h5;subst h5
 have:(Wf a&&Waz b&&(c==(0:Int)))=true:=h
 simp only[Xh]at this
 exact this.1
theorem ok_6(h:opOk o=true)(h5:o.1=6):Waz o.2.1=true∧Wf o.2.2.1=true:=by
 obtain⟨k,a,b,c⟩:=o
 simp only at h5;subst h5
 have:(Waz a&&Wf b&&(c==(0:Int)))=true:=h
 simp only[Xh]at this
 exact this.1
theorem ok_7(h:opOk o=true)(h5:o.1=7):Wf o.2.1=true∧1≤o.2.2.1∧o.2.2.1≤20:=by
 obtain⟨k,a,b,c⟩:=o
 simp only at h5;subst h5
 have:(Wf a&&(decide (1≤b)&&decide (b≤20))&&(c==(0:Int)))=true:=h
 simp only[Xh,decide_eq_true_eq]at this
 exact⟨this.1.1,this.1.2.1,this.1.2.2⟩
theorem ok_8(h:opOk o=true)(h5:o.1=8):Wf o.2.1=true:=by
 obtain⟨k,a,b,c⟩:=o
 simp only at h5;subst h5
 have:(Wf a&&(b==(0:Int))&&(c==(0:Int)))=true:=h
 simp only[Xh]at this
 exact this.1.1
theorem ok_16(h:opOk o=true):1≤o.1∧o.1≤16:=by
 by_cases hk:1≤o.1∧o.1≤16
 ·exact hk
 ·exfalso
  have e:∀n:Int,1≤n→n≤16→(o.1==n)=false:=λn h1 h2=>by simp;omega
  unfold opOk at h
  rw[e 1 (by omega) (by omega),e 2 (by omega) (by omega),e 3 (by omega) (by omega),e 4 (by omega) (by omega),e 5 (by omega) (by omega),e 6 (by omega) (by omega),e 7 (by omega) (by omega),e 8 (by omega) (by omega),
   e 9 (by omega) (by omega),e 10 (by omega) (by omega),e 11 (by omega) (by omega),e 12 (by omega) (by omega),e 13 (by omega) (by omega),e 14 (by omega) (by omega),e 15 (by omega) (by omega),e 16 (by omega) (by omega)]at h
  cases h
end
theorem Wcz{x:Int}{l:List Int}(h:Wf x=true)(hl:l.length=4):inb x l.length=true:=by
 unfold Wf at h;simp at h
 unfold inb;simp;omega
structure Vals(n:Nat)(l:List Int):Prop where
 len:l.length=n
 val:∀x∈l,0≤x∧x≤65535
theorem Vals.get{n:Nat}{l:List Int}(h:Vals n l)(i:Nat):0≤l.getD i 0∧l.getD i 0≤65535:=by
 by_cases hi:i<l.length
 ·rw[Wc hi];exact h.val _ (Xt hi)
 ·rw[Xbc,Xbj (by omega)];simp
theorem Vals.set{n:Nat}{l:List Int}(h:Vals n l)(i:Nat){x:Int}(hx:0≤x∧x≤65535):Vals n (l.set i x):=
 ⟨by rw[Xad];exact h.len,λy hy=>by
  rcases List.mem_or_eq_of_mem_set hy with hy|hy
  ·exact h.val y hy
  ·rw[hy];exact hx⟩
theorem Wdf{x:Int}:Wds x=true↔0≤x∧x≤65535:=by unfold Wds;simp
theorem Wmg{l:List Int}:Wmm l=true↔Vals 4 l:=by
 unfold Wmm
 rw[Xh,decide_eq_true_eq,Xae]
 exact⟨λh=>⟨h.1,λx hx=>Wdf.1 (h.2 x hx)⟩,λh=>⟨h.len,λx hx=>Wdf.2 (h.val x hx)⟩⟩
theorem vals_iff{l:List Int}:Wkp l=true↔Vals 8 l:=by
 unfold Wkp
 rw[Xh,decide_eq_true_eq,Xae]
 exact⟨λh=>⟨h.1,λx hx=>Wdf.1 (h.2 x hx)⟩,λh=>⟨h.len,λx hx=>Wdf.2 (h.val x hx)⟩⟩
def calcF(o:Opn)(r:List Int):List Int:=
 bif o.1==1 then r.set o.2.1.toNat o.2.2.1 else
 bif o.1==2 then r.set o.2.1.toNat ((r.getD o.2.2.1.toNat 0+r.getD o.2.2.2.toNat 0)%65536)else
 bif o.1==3 then r.set o.2.1.toNat ((r.getD o.2.2.1.toNat 0-r.getD o.2.2.2.toNat 0+65536)%65536)else
 bif decide (r.getD o.2.2.1.toNat 0<r.getD o.2.2.2.toNat 0)then r.set o.2.1.toNat 1 else r.set o.2.1.toNat 0
theorem Wgg{x:Int}(h:0≤x):irem x 65536=x%65536:=by unfold irem;exact Xea h
theorem Wzb{o:Opn}{r:List Int}(h:opOk o=true)(h1:1≤o.1)(h4:o.1≤4)(hr:Vals 4 r):Vals 4 (calcF o r):=by
 obtain⟨_,hv,_⟩:=ok_calc h h1 h4
 unfold calcF
 cases e1:o.1==1
 ·cases o.1==2
  ·cases o.1==3
   ·cases decide (r.getD o.2.2.1.toNat 0<r.getD o.2.2.2.toNat 0)
    ·exact hr.set _ (by omega)
    ·exact hr.set _ (by omega)
   ·exact hr.set _ (by omega)
  ·exact hr.set _ (by omega)
 ·exact hr.set _ (Wdf.1 (hv (by simpa using e1)))
section
variable{N:Nat}{o:Opn}{r:List Int}
theorem Wrk(hN:1048576<N)(h:opOk o=true)(h1:1≤o.1)(h4:o.1≤4)(hr:Vals 4 r):Zmv N o r=some ((),(calcF o r,(true,()))):=by
 obtain⟨ha,hv,hbc⟩:=ok_calc h h1 h4
 unfold Zmv Zw
 have e0:room r.length=true:=Ww (by rw[hr.len];omega)
 have e4:decide (o.1>4)=false:=by simp;omega
 have e5:Wmm r=true:=Wmg.2 hr
 have ea:=Wcz ha hr.len
 have ez:inz 65536=true:=rfl
 have gb:=hr.get o.2.2.1.toNat
 have gc:=hr.get o.2.2.2.toNat
 simp only[e0,cond_true,Xc,Wmc,ret,h,Xaa,cond_false,e4,Whx (l:=r) (by rw[hr.len];omega) hN,e5,ea,ez]
 unfold calcF
 by_cases k1:o.1=1
 ·have b:(o.1==1)=true:=by simp[k1]
  rw[b];rfl
 ·have b:(o.1==1)=false:=by simp[k1]
  obtain⟨hb,hc⟩:=hbc k1
  rw[b]
  simp only[cond_false,Wcz hb hr.len,Wcz hc hr.len,cond_true,Xad,ea]
  have s1:iadd .i64 (r.getD o.2.2.1.toNat 0) (r.getD o.2.2.2.toNat 0)=r.getD o.2.2.1.toNat 0+r.getD o.2.2.2.toNat 0:=Wx (by unfold I64;omega)
  have s2:isub .i64 (r.getD o.2.2.1.toNat 0) (r.getD o.2.2.2.toNat 0)=r.getD o.2.2.1.toNat 0-r.getD o.2.2.2.toNat 0:=Wbm (by unfold I64;omega)
  have s3:iadd .i64 (r.getD o.2.2.1.toNat 0-r.getD o.2.2.2.toNat 0) 65536=r.getD o.2.2.1.toNat 0-r.getD o.2.2.2.toNat 0+65536:=Wx (by unfold I64;omega)
  rw[s1,s2,s3,Wgg (by omega),Wgg (by omega)]
  cases o.1==2
  ·cases o.1==3
   ·simp only[cond_false,Wq,Xdm]
    cases decide (r.getD o.2.2.1.toNat 0<r.getD o.2.2.2.toNat 0)<;>rfl
   ·rfl
  ·rfl
end
def Rows(l:List Rw):Prop:=∀r∈l,(0≤r.1∧r.1≤7)∧0≤r.2∧r.2≤65535
theorem Wzn{l:List Rw}:l.all isRow=true↔Rows l:=by
 rw[Xae]
 unfold Rows isRow Waz Wds
 simp
theorem Wgk{N:Nat}{l:List Int}(h:l.length≤1048576):Zw N l=ret l:=by
 unfold Zw
 simp only[room_300 h,cond_true]
end
section
abbrev Cur:=List Int×Int×Int
def Wce(c:Cur):Prop:=0≤c.2.1∧c.2.1≤c.1.length∧c.1.length≤1048576
def Draws{α:Type}(P:α→Prop)(r:Option ((Cur×Unit)×(α×Unit))):Prop:=∃c v,r=some ((c,()),(v,()))∧Wce c∧P v
theorem iand_255(x:Int):∃n:Nat,n≤255∧iand .i64 x 255=n:=by
 refine⟨(BitVec.ofInt 64 x&&&BitVec.ofInt 64 255).toNat,?_,?_⟩
 ·rw[BitVec.toNat_and]
  exact Xcn Xgu (by decide)
 ·unfold iand
  have:(BitVec.ofInt 64 x&&&BitVec.ofInt 64 255).toNat≤255:=by
   rw[BitVec.toNat_and]
   exact Xcn Xgu (by decide)
  exact wrap_i64 (natI64 (p:=(BitVec.ofInt 64 x&&&BitVec.ofInt 64 255).toNat) (by omega))
theorem new_draw{N:Nat}{code:List Int}(h:code.length≤1048576)(hN:1048576<N):∃c,Wce c∧Zjp N code=ret c:=by
 have key:∀(n j:Nat) (v:Int),j≤code.length→code.length-j<n→∃hh i t,∀{R:Type} (K:Int→Int→Bool→Option R),Zcx N code K n v (j:Int)=K hh i t:=by
  intro n
  induction n with
  |zero=>intro j v _ h2;omega
  |succ n ih=>
   intro j v h1 h2
   by_cases hj:j<code.length
   ·by_cases h4:j<4000
    ·obtain⟨hh,i,t,e⟩:=ih (j+1) _ hj (by omega)
     refine⟨hh,i,t,λK=>?_⟩
     have e1:decide ((j:Int)<4000)=true:=by simp;omega
     simp only[Zcx,Wbb hj,Wk hj,e1,cond_true,We (show j<4611686018427387904 by omega)]
     exact e K
    ·refine⟨v,j,decide ((j:Int)<4000),λK=>?_⟩
     have e1:decide ((j:Int)<4000)=false:=by simp;omega
     simp only[Zcx,Wbb hj,e1,cond_true,cond_false]
   ·refine⟨v,j,false,λK=>?_⟩
    simp only[Zcx,Wbl (show code.length≤j by omega),cond_false]
 obtain⟨hh,i,t,e⟩:=key N 0 (iadd .i64 10101 (ilen code)) (Nat.zero_le _) (by omega)
 refine⟨(code,0,hh),⟨by simp,by simp,h⟩,?_⟩
 unfold Zjp
 exact e _
theorem Wkv{N:Nat}{c:Cur}(h:Wce c):Draws (λv=>0≤v∧v≤255) (Zf3 N c):=by
 unfold Zf3
 obtain⟨h1,h2,h3⟩:=h
 have e1:inn 33=true:=rfl
 have e2:inn 45=true:=rfl
 simp only[e1,e2,cond_true]
 by_cases hi:c.2.1<c.1.length
 ·have e3:decide (c.2.1<ilen c.1)=true:=decide_eq_true hi
  have e4:inb c.2.1 c.1.length=true:=by unfold inb;simp;exact⟨h1,hi⟩
  have e5:iadd .i64 c.2.1 1=c.2.1+1:=Wx (by unfold I64;omega)
  rw[e3,e4,e5]
  simp only[cond_true]
  obtain⟨n,hn,e⟩:=iand_255 (iadd .i64 (iand .i64 (ixor .i64 (ishr .i64 (iadd .i64 (imul .i64 c.2.2 (6364136223846793005:Int)) (1442695040888963407:Int)) (33:Int)) (ishr .i64 (iadd .i64 (imul .i64 c.2.2 (6364136223846793005:Int)) (1442695040888963407:Int)) (45:Int))) (255:Int)) (IntKind.wrap .i64 (Xd c.1 (Xb c.2.1) (0:Int))))
  exact⟨_,_,rfl,⟨by simp;omega,by simp;omega,h3⟩,by rw[e];omega⟩
 ·have e3:decide (c.2.1<ilen c.1)=false:=decide_eq_false hi
  rw[e3]
  simp only[cond_false]
  obtain⟨n,hn,e⟩:=iand_255 (ixor .i64 (ishr .i64 (iadd .i64 (imul .i64 c.2.2 (6364136223846793005:Int)) (1442695040888963407:Int)) (33:Int)) (ishr .i64 (iadd .i64 (imul .i64 c.2.2 (6364136223846793005:Int)) (1442695040888963407:Int)) (45:Int)))
  exact⟨_,_,rfl,⟨h1,h2,h3⟩,by rw[e];omega⟩
theorem irem_pos{v n:Int}(hv:0≤v)(hn:0<n):0≤irem v n∧irem v n<n:=by
 have e:irem v n=v%n:=by unfold irem;exact Xea hv
 rw[e]
 exact⟨Int.emod_nonneg v (by omega),Int.emod_lt_of_pos v hn⟩
theorem Wqm{N:Nat}{c:Cur}{n:Int}(h:Wce c):Draws (λv=>(n≤0→v=0)∧(0<n→0≤v∧v<n)) (Zb N c n):=by
 unfold Zb
 by_cases h0:n≤0
 ·have e:decide (n≤0)=true:=by simpa using h0
  rw[e]
  exact⟨_,_,rfl,h,λ_=>rfl,λh=>by omega⟩
 ·have e:decide (n≤0)=false:=by simpa using h0
  have ez:inz n=true:=by unfold inz;simp;omega
  rw[e]
  simp only[cond_false,ez,cond_true]
  by_cases h1:n≤256
  ·have e:decide (n≤256)=true:=by simpa using h1
   rw[e]
   obtain⟨c1,v,e1,hc,hv⟩:=Wkv (N:=N) h
   rw[e1]
   have:=irem_pos hv.1 (show 0<n by omega)
   exact⟨_,_,rfl,hc,λh=>by omega,λ_=>this⟩
  ·have e:decide (n≤256)=false:=by simpa using h1
   rw[e]
   obtain⟨c1,v1,e1,hc1,hv1⟩:=Wkv (N:=N) h
   obtain⟨c2,v2,e2,hc2,hv2⟩:=Wkv (N:=N) hc1
   obtain⟨c3,v3,e3,hc3,hv3⟩:=Wkv (N:=N) hc2
   obtain⟨c4,v4,e4,hc4,hv4⟩:=Wkv (N:=N) hc3
   simp only[cond_false,e1,e2,e3,e4,Xc]
   have m1:imul .i64 v1 16777216=v1*16777216:=Wqh (by unfold I64;omega)
   have m2:imul .i64 v2 65536=v2*65536:=Wqh (by unfold I64;omega)
   have m3:imul .i64 v3 256=v3*256:=Wqh (by unfold I64;omega)
   have a1:iadd .i64 (v1*16777216) (v2*65536)=v1*16777216+v2*65536:=Wx (by unfold I64;omega)
   have a2:iadd .i64 (v1*16777216+v2*65536) (v3*256)=v1*16777216+v2*65536+v3*256:=Wx (by unfold I64;omega)
   have a3:iadd .i64 (v1*16777216+v2*65536+v3*256) v4=v1*16777216+v2*65536+v3*256+v4:=Wx (by unfold I64;omega)
   rw[m1,m2,m3,a1,a2,a3]
   have:=irem_pos (show 0≤v1*16777216+v2*65536+v3*256+v4 by omega) (show 0<n by omega)
   exact⟨_,_,rfl,hc4,λh=>by omega,λ_=>this⟩
end
section
theorem once_draw{N:Nat}{c:Cur}{n:Int}(h:Wce c):Draws (λ_=>True) (Zv N c n):=by
 unfold Zv
 obtain⟨c1,v,e1,hc,hv⟩:=Wqm (N:=N) (n:=n) h
 rw[e1]
 exact⟨_,_,rfl,hc,trivial⟩
theorem pick_draw{N:Nat}{c:Cur}{l:List Int}(h:Wce c)(hl:0<l.length)(hl2:l.length<4611686018427387904):Draws (λv=>v∈l) (Zbz N c l):=by
 unfold Zbz
 obtain⟨c1,v,e1,hc,hv⟩:=Wqm (N:=N) (n:=ilen l) h
 rw[e1]
 have hv:=hv.2 (by unfold ilen;omega)
 unfold ilen at hv
 obtain⟨q,rfl⟩:=Xfw hv.1
 have hq:q<l.length:=by omega
 simp only[Xc,Wk hq,cond_true,Wm hq]
 exact⟨_,_,rfl,hc,Xt hq⟩
end
section
def Drw{ρ:Type}(P:ρ→Prop)(r:Option ((Cur×Unit)×ρ)):Prop:=∃c v,r=some ((c,()),v)∧Wce c∧P v
theorem Drw.of{α:Type}{P:α→Prop}{r:Option ((Cur×Unit)×(α×Unit))}(h:Draws P r):Drw (λv:α×Unit=>P v.1) r:=by
 obtain⟨c,v,e,h1,h2⟩:=h
 exact⟨c,(v,()),e,h1,h2⟩
theorem Drw.bind{ρ σ:Type}{P:ρ→Prop}{Q:σ→Prop}{r:Option ((Cur×Unit)×ρ)}{k:(Cur×Unit)×ρ→Option ((Cur×Unit)×σ)}(h:Drw P r)(hk:∀c v,Wce c→P v→Drw Q (k ((c,()),v))):Drw Q (r.bind k):=by
 obtain⟨c,v,e,h1,h2⟩:=h
 rw[e]
 exact hk c v h1 h2
theorem Drw.ok{ρ:Type}{P:ρ→Prop}{c:Cur}{v:ρ}(hc:Wce c)(hv:P v):Drw P (some ((c,()),v)):=⟨c,v,rfl,hc,hv⟩
theorem Drw.bif{ρ:Type}{P:ρ→Prop}{b:Bool}{x y:Option ((Cur×Unit)×ρ)}(h1:b=true→Drw P x)(h2:b=false→Drw P y):Drw P (bif b then x else y):=by
 cases b
 ·exact h2 rfl
 ·exact h1 rfl
theorem Drw.bifT{ρ:Type}{P:ρ→Prop}{b:Bool}{x y:Option ((Cur×Unit)×ρ)}(hb:b=true)(h1:Drw P x):Drw P (bif b then x else y):=by rw[hb];exact h1
theorem Drw.mono{ρ:Type}{P Q:ρ→Prop}{r:Option ((Cur×Unit)×ρ)}(h:Drw P r)(hq:∀v,P v→Q v):Drw Q r:=by
 obtain⟨c,v,e,h1,h2⟩:=h
 exact⟨c,v,e,h1,hq v h2⟩
section
variable{N:Nat}{c:Cur}
theorem Wbo(n:Int)(h:Wce c):Drw (λv:Int×Unit=>(n≤0→v.1=0)∧(0<n→0≤v.1∧v.1<n)) (Zb N c n):=.of (Wqm h)
theorem Wjb(n:Int)(h:Wce c):Drw (λ_:Bool×Unit=>True) (Zv N c n):=.of (once_draw h)
theorem dPick(l:List Int)(h:Wce c)(hl:0<l.length)(hl2:l.length<1000):Drw (λv:Int×Unit=>v.1∈l) (Zbz N c l):=.of (pick_draw h hl (by omega))
theorem dReg(h:Wce c):Drw (λv:Int×Unit=>0≤v.1∧v.1≤3) (Za N c):=by
 unfold Za
 exact(Wbo 4 h).bind λc v hc hv=>.ok hc (by have:=hv.2 (by decide);simp only[];omega)
theorem dVal(h:Wce c):Drw (λv:Int×Unit=>0≤v.1∧v.1≤65535) (Zhd N c):=by
 unfold Zhd
 refine(Wjb 6 h).bind λc v hc _=>.bif (λ_=>?_) λ_=>?_
 ·refine(dPick _ hc (by decide) (by decide)).bind λc v hc hv=>.ok hc ?_
  simp only[Xo,List.not_mem_nil,or_false]at hv⊢
  omega
 ·exact(Wbo 9 hc).bind λc v hc hv=>.ok hc (by have:=hv.2 (by decide);simp only[];omega)
theorem dCell(h:Wce c):Drw (λv:Int×Unit=>0≤v.1∧v.1≤7) (Zb7 N c):=by
 unfold Zb7
 refine(Wjb 8 h).bind λc v hc _=>.bif (λ_=>?_) λ_=>?_
 ·exact(Wbo 8 hc).bind λc v hc hv=>.ok hc (by have:=hv.2 (by decide);simp only[];omega)
 ·exact(Wbo 3 hc).bind λc v hc hv=>.ok hc (by have:=hv.2 (by decide);simp only[];omega)
theorem dKey(h:Wce c):Drw (λv:Int×Unit=>True) (Zk N c):=by
 unfold Zk
 refine(Wjb 4 h).bind λc v hc _=>.bif (λ_=>?_) λ_=>?_
 ·exact(Wbo 8 hc).bind λc v hc hv=>.ok hc trivial
 ·exact(dPick _ hc (by decide) (by decide)).bind λc v hc hv=>.ok hc trivial
theorem dPlain(kind:Int)(h:Wce c):Drw (λ_:Opn×Unit=>True) (Zj N c kind):=by
 unfold Zj
 repeat' first
  |with_reducible refine Drw.bif (λ_=>?_) λ_=>?_
  |with_reducible refine(dReg (by assumption)).bind λc v hc hv=>?_
  |with_reducible refine(dVal (by assumption)).bind λc v hc hv=>?_
  |with_reducible refine(dCell (by assumption)).bind λc v hc hv=>?_
  |with_reducible refine(dKey (by assumption)).bind λc v hc hv=>?_
  |with_reducible refine(Wbo _ (by assumption)).bind λc v hc hv=>?_
  |with_reducible exact .ok (by assumption) trivial
theorem dGen_lp{rec:Cur→Int→Int→Bool→Option ((Cur×Unit)×(List Opn×Unit))}{most deep:Int}{kid:Bool}(hm:0≤most∧most≤100)
  (hrec:∀c (m d:Int),Wce c→0≤m→m<most→Drw (λv:List Opn×Unit=>(v.1.length:Int)≤m+2) (rec c m d kid)):
  ∀(n i:Nat) (c:Cur) (l:List Opn),i<n→i≤1000→Wce c→(l.length:Int)≤most+2→Drw (λv:List Opn×Unit=>(v.1.length:Int)≤most+2) (Zc N rec most deep kid (λn152 t153 b154 l155=>(some ((b154,()),(l155,())))) n (i:Int) c l)
 |0,i,c,l,h,_,_,_=>by omega
 |n+1,i,c,l,h,hib,hc,hl=>by
  have hs:(0:Int)<i→isub .i64 (i:Int) 1=((i-1:Nat):Int):=λh0=>by rw[Wbm (by unfold I64;omega)];omega
  have hi1:isub .i64 most (ilen l)=most-(l.length:Int):=Wbm (by unfold I64 ilen;omega)
  have hi2:isub .i64 (most-(l.length:Int)) 3=most-(l.length:Int) -3:=Wbm (by unfold I64;omega)
  simp only[Zc,hi1,hi2]
  refine .bif (λh0=>?_) λ_=>.ok hc hl
  have h0:(i:Int)>0:=of_decide_eq_true h0
  rw[hs h0]
  refine .bif (λh1=>?_) λ_=>.ok hc hl
  have h1:(l.length:Int)<most:=of_decide_eq_true h1
  have next:∀c' (l':List Opn),Wce c'→(l'.length:Int)≤most+2→Drw (λv:List Opn×Unit=>(v.1.length:Int)≤most+2) (Zc N rec most deep kid (λn152 t153 b154 l155=>(some ((b154,()),(l155,())))) n ((i-1:Nat):Int) c' l'):=
   λc' l' h1 h2=>dGen_lp hm hrec n (i-1) c' l' (by omega) (by omega) h1 h2
  have rm:∀(a:List Opn) (b:List Opn),(a.length:Int)+b.length≤1000→room (a.length+b.length)=true:=λa b h=>Ww (by omega)
  have add1:∀c' (o:Opn),Wce c'→Drw (λv:List Opn×Unit=>(v.1.length:Int)≤most+2) (bif room (l.length+ [o].length)then Zc N rec most deep kid (λn152 t153 b154 l155=>(some ((b154,()),(l155,())))) n ((i-1:Nat):Int) c' (Xf l [o])else none):=
   λc' o h2=>.bifT (rm _ _ (by simp;omega)) (next _ _ h2 (by simp[Xah];omega))
  refine(Wbo 20 hc).bind λc v hc hv=>?_
  have c12:∀c',Wce c'→(4:Int)≤most-(l.length:Int)→Drw (λv:List Opn×Unit=>(v.1.length:Int)≤most+2) ((rec c' (most-(l.length:Int) -3) (isub .i64 deep 1) kid).bind λo89=>
           ((Zj N o89.1.1 (8:Int)).bind λo90=>
            (bif room ((Xa l)+(Xa ([o90.2.1])))then
             (bif room ((Xa (Xf l ([o90.2.1])))+(Xa o89.2.1))then
              ((Zv N o90.1.1 (3:Int)).bind λo91=>
               (bif o91.2.1 then
                (bif room ((Xa (Xf (Xf l ([o90.2.1])) o89.2.1))+(Xa ([((10:Int),((0:Int),((0:Int),(0:Int))))])))then
                 (bif room ((Xa (Xf (Xf (Xf l ([o90.2.1])) o89.2.1) ([((10:Int),((0:Int),((0:Int),(0:Int))))])))+(Xa ([((9:Int),((0:Int),((0:Int),(0:Int))))])))then
                  (Zc N rec most deep kid (λn152 t153 b154 l155=>(some ((b154,()),(l155,())))) n ((i-1:Nat):Int) o91.1.1 (Xf (Xf (Xf (Xf l ([o90.2.1])) o89.2.1) ([((10:Int),((0:Int),((0:Int),(0:Int))))])) ([((9:Int),((0:Int),((0:Int),(0:Int))))])))else none)else none)
                else
                (bif room ((Xa (Xf (Xf l ([o90.2.1])) o89.2.1))+(Xa ([((9:Int),((0:Int),((0:Int),(0:Int))))])))then
                 (Zc N rec most deep kid (λn152 t153 b154 l155=>(some ((b154,()),(l155,())))) n ((i-1:Nat):Int) o91.1.1 (Xf (Xf (Xf l ([o90.2.1])) o89.2.1) ([((9:Int),((0:Int),((0:Int),(0:Int))))])))else none)))else none)else none))):=λc' hc' h4=>by
   refine(hrec c' _ _ hc' (by omega) (by omega)).bind λc2 v2 hc2 hv2=>(dPlain 8 hc2).bind λc3 v3 hc3 _=>?_
   simp only[]
   refine .bifT (rm _ _ (by simp;omega)) (.bifT (rm _ _ (by simp[Xah];omega)) ((Wjb 3 hc3).bind λc4 v4 hc4 _=>.bif (λ_=>?_) λ_=>?_))
   ·exact .bifT (rm _ _ (by simp[Xah];omega)) (.bifT (rm _ _ (by simp[Xah];omega)) (next _ _ hc4 (by simp[Xah];omega)))
   ·exact .bifT (rm _ _ (by simp[Xah];omega)) (next _ _ hc4 (by simp[Xah];omega))
  repeat' first
   |with_reducible exact add1 _ _ (by assumption)
   |with_reducible refine Drw.bif (λ_=>?_) λ_=>?_
   |with_reducible refine(dPlain _ (by assumption)).bind λc v hc hv=>?_
   |with_reducible refine(Wjb _ (by assumption)).bind λc v hc hv=>?_
   |with_reducible refine(Wbo _ (by assumption)).bind λc v hc hv=>?_
   |exact c12 _ (by assumption) (by simp only[decide_eq_true_eq,ge_iff_le]at*;omega)
  all_goals
   rename_i hx
   have hx:=of_decide_eq_true hx
   refine(hrec _ 2 0 (by assumption) (by omega) (by omega)).bind λc2 v2 hc2 hv2=>(dPlain 7 hc2).bind λc3 v3 hc3 _=>?_
   simp only[]
   exact .bifT (rm _ _ (by simp;omega)) (.bifT (rm _ _ (by simp[Xah];omega)) (next _ _ hc3 (by simp[Xah];omega)))
theorem dGen_r(hN:1048576<N):∀(m:Nat) (c:Cur) (most deep:Int) (kid:Bool),Wce c→0≤most→most≤100→most<m→Drw (λv:List Opn×Unit=>(v.1.length:Int)≤most+2) (Zel N m c most deep kid)
 |0,c,most,deep,kid,hc,h0,h1,h2=>by omega
 |m+1,c,most,deep,kid,hc,h0,h1,h2=>by
  unfold Zel
  refine(Wbo most hc).bind λc v hc hv=>?_
  have hv2:0≤v.1∧v.1≤100:=by
   by_cases hm:most≤0
   ·have:=hv.1 hm;omega
   ·have:=hv.2 (by omega);omega
  have e:iadd .i64 1 v.1=(((1+v.1).toNat:Nat):Int):=by rw[Wx (by unfold I64;omega)];omega
  simp only[e]
  exact dGen_lp ⟨h0,h1⟩ (λc m' d hc' q0 q1=>dGen_r hN m c m' d kid hc' q0 (by omega) (by omega)) N _ c [] (by omega) (by omega) hc (by simp;omega)
theorem dGen(hN:1048576<N){most deep:Int}{kid:Bool}(hc:Wce c)(h0:0≤most)(h1:most≤100):Drw (λv:List Opn×Unit=>v.1.length≤102) (Zjq N c most deep kid):=by
 unfold Zjq
 exact(dGen_r hN N c most deep kid hc h0 h1 (by omega)).mono λv hv=>by omega
theorem dVals_lp(hN:1048576<N):∀(n i:Nat) (c:Cur) (l:List Int),8-i<n→i≤8→Wce c→l.length=i→
  Drw (λv:List Int×Unit=>v.1.length=8) (Zct N (λi11 t12 b13 l14=>(some ((b13,()),(l14,())))) n (i:Int) c l)
 |0,i,c,l,h,_,_,_=>by omega
 |n+1,i,c,l,h,hi,hc,hl=>by
  unfold Zct
  refine .bif (λh0=>?_) λh0=>.ok hc (by have h0:=of_decide_eq_false h0;simp only[];omega)
  have h0:(i:Int)<8:=of_decide_eq_true h0
  rw[We (show i<4611686018427387904 by omega)]
  refine(dVal hc).bind λc v hc hv=>.bifT (Ww (by simp;omega)) ?_
  exact dVals_lp hN n (i+1) c _ (by omega) (by omega) hc (by simp[Xah];omega)
theorem dVals(hN:1048576<N)(hc:Wce c):Drw (λv:List Int×Unit=>v.1.length=8) (Zfq N c):=by
 unfold Zfq
 exact dVals_lp hN N 0 c [] (by omega) (by omega) hc rfl
end
end
section
theorem both_same2{α:Type}{a b:Option α}(h:a=b):both a b=a:=by unfold both;rw[if_pos h]
section
variable{N:Nat}{c:Cur}
theorem dKids_lp(hN:1048576<N){l12:List Opn}(h12:l12.length≤300):∀(n i:Nat) (c:Cur) (l:List (List Opn)),i<n→i≤100→Wce c→l.length+i≤100→(∀x∈l,x.length≤200)→
  Drw (λv:(List Opn×List (List Opn))×Unit=>v.1.1.length≤300∧v.1.2.length≤100∧∀x∈v.1.2,x.length≤200) (Zfr N l12 (λn22 t23 b24 l25=>(some ((b24,()),((l12,l25),())))) n (i:Int) c l)
 |0,i,c,l,h,_,_,_,_=>by omega
 |n+1,i,c,l,h,hi,hc,hl,hx=>by
  unfold Zfr
  refine .bif (λh0=>?_) λ_=>.ok hc ⟨h12,by simp only[];omega,hx⟩
  have h0:(i:Int)>0:=of_decide_eq_true h0
  have e:isub .i64 (i:Int) 1=((i-1:Nat):Int):=by rw[Wbm (by unfold I64;omega)];omega
  rw[e]
  refine(Wbo 5 hc).bind λc v hc hv=>?_
  have hv:=hv.2 (by decide)
  have e2:iadd .i64 2 v.1=2+v.1:=Wx (by unfold I64;omega)
  simp only[e2]
  refine(dGen hN hc (by omega) (by omega)).bind λc w hc hw=>.bifT (Ww (by simp;omega)) ?_
  refine dKids_lp hN h12 n (i-1) c _ (by omega) (by omega) hc (by simp[Xah];omega) λx hx'=>?_
  simp[Xah]at hx'
  rcases hx' with hx'|hx'
  ·exact hx x hx'
  ·rw[hx'];omega
theorem dProg(hN:1048576<N){b:Bool}(hc:Wce c):Drw (λv:(List Opn×List (List Opn))×Unit=>v.1.1.length≤300∧v.1.2.length≤100∧∀x∈v.1.2,x.length≤200) (Zdy N c b):=by
 unfold Zdy
 refine .bif (λ_=>?_) λ_=>?_
 ·refine(Wbo 8 hc).bind λc v hc hv=>?_
  have hv:=hv.2 (by decide)
  have e2:iadd .i64 3 v.1=3+v.1:=Wx (by unfold I64;omega)
  simp only[e2]
  exact(dGen hN hc (by omega) (by omega)).bind λc w hc hw=>.ok hc ⟨by simp only[];omega,by simp,by simp⟩
 ·refine(Wbo 4 hc).bind λc v hc hv=>?_
  have hv:=hv.2 (by decide)
  have e2:iadd .i64 1 v.1=1+v.1:=Wx (by unfold I64;omega)
  simp only[e2]
  refine(dGen hN hc (by omega) (by omega)).bind λc w hc hw=>(Wbo 4 hc).bind λc v2 hc hv2=>?_
  have hv2:=hv2.2 (by decide)
  have e3:iadd .i64 1 v2.1=1+v2.1:=Wx (by unfold I64;omega)
  simp only[e3]
  refine(dGen hN hc (by omega) (by omega)).bind λc w2 hc hw2=>.bifT (Ww (by simp;omega)) (.bifT (Ww (by simp[Xah];omega)) ((Wbo 3 hc).bind λc v3 hc hv3=>?_))
  have hv3:=hv3.2 (by decide)
  have e4:iadd .i64 1 v3.1=(((1+v3.1).toNat:Nat):Int):=by rw[Wx (by unfold I64;omega)];omega
  simp only[e4]
  exact dKids_lp hN (by simp[Xah];omega) N _ c [] (by omega) (by omega) hc (by simp;omega) (by simp)
theorem dAny4(hc:Wce c):Drw (λv:Opn×Unit=>True) (Znv N c):=by
 unfold Znv
 refine(Wbo 16 hc).bind λc v hc hv=>(dPlain _ hc).bind λc w hc _=>(Wbo 16 hc).bind λc v hc hv=>.bif (λ_=>?_) λ_=>.bif (λ_=>?_) λ_=>.bif (λ_=>?_) λ_=>.bif (λ_=>?_) λ_=>.ok hc trivial
 all_goals exact(dPick _ hc (by decide) (by decide)).bind λc v hc hv=>.ok hc trivial
theorem dBend_lp:∀(n:Nat) (c:Cur) (l:List Opn),600-l.length<n→Wce c→l.length≤500→
  Drw (λv:List Opn×Unit=>v.1.length≤600) (Zfs N (λt13 b14 l15=>(some ((b14,()),(l15,())))) n c l)
 |0,c,l,h,_,_=>by omega
 |n+1,c,l,h,hc,hl=>by
  unfold Zfs
  refine(Wbo 2 hc).bind λc v hc hv=>?_
  have hv:=hv.2 (by decide)
  have e:iadd .i64 24 v.1=24+v.1:=Wx (by unfold I64;omega)
  simp only[e]
  refine .bif (λh0=>?_) λ_=>.ok hc (by simp only[];omega)
  have h0:(l.length:Int)<24+v.1:=of_decide_eq_true h0
  exact .bifT (Ww (by simp;omega)) (dBend_lp n c _ (by simp[Xah];omega) hc (by simp[Xah];omega))
theorem dBend(hN:1048576<N){l:List Opn}(hc:Wce c)(hl:l.length≤500):Drw (λv:List Opn×Unit=>v.1.length≤600) (Zhe N c l):=by
 unfold Zhe
 have en:Xf ([]:List Opn) l=l:=rfl
 simp only[en]
 refine .bifT (Ww (by simp;omega)) (.bif (λ_=>.ok hc (by simp)) λh0=>?_)
 have hpos:0<l.length:=by
  cases l with
  |nil=>exact absurd h0 (by decide)
  |cons a b=>simp
 refine(Wbo (ilen l) hc).bind λc k hc hk=>?_
 have hk:=hk.2 (by unfold ilen;omega)
 unfold ilen at hk
 obtain⟨k,u⟩:=k
 simp only at hk
 obtain⟨j,rfl⟩:=Xfw hk.1
 have hj:j<l.length:=by omega
 have ei:inb (j:Int) l.length=true:=Wk hj
 have e1:iadd .i64 (j:Int) 1=((j+1:Nat):Int):=We (by omega)
 have c1:((decide ((0:Int)≤(j:Int)))&&(decide ((j:Int)≤((Xa l):Int))))=true:=by simp;omega
 have c2:((decide ((0:Int)≤((j+1:Nat):Int)))&&(decide (((j+1:Nat):Int)≤((Xa l):Int))))=true:=by simp;omega
 refine(Wbo 6 hc).bind λc v hc hv=>?_
 simp only[e1,ei,c1,c2,cond_true,both_same2 rfl]
 refine .bif (λ_=>?_) λ_=>.bif (λ_=>.ok hc (by simp;omega)) λ_=>.bif (λ_=>?_) λ_=>.bif (λ_=>?_) λ_=>.bif (λ_=>.ok hc (by simp;omega)) λ_=>?_
 ·exact(dAny4 hc).bind λc w hc _=>.ok hc (by simp;omega)
 ·have hlen:(List.drop (Xb ((j+1:Nat):Int)) (Xar l.length l)).length=l.length-(j+1):=by rw[Xj,List.length_drop,Xan];omega
  have hlen2:(Xar (Xb (j:Int)) l).length=j:=by rw[Xj,Xan];omega
  exact .bifT (Ww (by rw[Xj];omega)) (.ok hc (by simp only[Xah,Xz];omega))
 ·exact dBend_lp N c l (by omega) hc hl
 ·exact(Wbo 2 hc).bind λc w hc _=>.ok hc (by simp;omega)
end
end
section
def setK(f:Y_Family)(k:Nat)(x:Y_KidRun):Y_Family:=U9 (Xl (Q9 f) k x) f
def again(f:Y_Family)(x:Y_KidRun):Y_KidRun:=(0,(0,(f.2.1,(x.2.2.2.1+1,(0,(0,(P4 f,([],([],([],(false,(0,(0,(0,0))))))))))))))
def pbOf(x:Y_KidRun)(c:Int):Pb:=bif P10 x then Q11 x else(c,(0,(0,0)))
def Wup(m:Mm)(f:Y_Family)(x:Y_KidRun)(o:Int×Int×Int×Int):Y_Family×Y_KidRun:=
 match Wdr (P8 x) o.2.2.1 with
 |some v=>(f,S6 (Xl (P6 x) (Xb o.2.1) v) (S1 (x.2.1+1) x))
 |none=>match ent (P6 f) o.2.2.1 with
  |some r=>bif decide (r.2.2.2>x.2.2.1)then(f,again f x)else(f,S7 (P7 x++ [r.2]) (S6 (Xl (P6 x) (Xb o.2.1) r.2.2.1) (S1 (x.2.1+1) x)))
  |none=>
   bif (Was m f.1 (pbOf x o.2.2.1)).2.1==4 then(S3 true f,U11 (Was m f.1 (pbOf x o.2.2.1)) (S10 true x))else
   bif (Was m f.1 (pbOf x o.2.2.1)).2.1==3 then(f,U14 0 (S13 0 (S12 0 (S11 0 (S10 false (S7 (P7 x++ [(o.2.2.1,((Was m f.1 (pbOf x o.2.2.1)).2.2.2,-1))]) (S6 (Xl (P6 x) (Xb o.2.1) (Was m f.1 (pbOf x o.2.2.1)).2.2.2) (S1 (x.2.1+1) x))))))))else
   (f,U11 (Was m f.1 (pbOf x o.2.2.1)) (S10 true x))
structure ReadOk(m:Mm)(f:Y_Family)(x:Y_KidRun)(o:Int×Int×Int×Int):Prop where
 mem:Waq m=true
 regs:(P6 x).length=4
 famr:(P4 f).length=4
 rA:0≤o.2.1∧o.2.1≤3
 cB:Waz o.2.2.1=true
 seen:(P7 x).length≤1000
 wr:(P8 x).length≤1000
 buf:(P6 f).length≤1000
 ver:∀e∈P6 f,0≤e.2.2
 since:0≤x.2.2.1
 pc:0≤x.2.1∧x.2.1≤1000
 tries:0≤x.2.2.2.1∧x.2.2.2.1≤100000
 pb:P10 x=true→pbOk (Q11 x)=true
theorem ReadOk.pbO{m:Mm}{f:Y_Family}{x:Y_KidRun}{o:Int×Int×Int×Int}(h:ReadOk m f x o):pbOk (pbOf x o.2.2.1)=true:=by
 unfold pbOf
 cases hb:P10 x
 ·have:=h.cB
  unfold pbOk
  simp[this,Wds]
 ·exact h.pb hb
theorem S10_same{x:Y_KidRun}(h:P10 x=true):S10 true x=x:=by rw[←h];rfl
theorem Wgr{a:Int}(h:0≤a∧a≤1000000):iadd .i64 a 1=a+1:=Wx (by unfold I64;omega)
theorem rgI{r:List Int}{a:Int}(h:r.length=4)(ha:0≤a∧a≤3):inb a r.length=true:=by unfold inb;rw[h];simp;omega
theorem Wkt{N:Nat}{f:Y_Family}{k:Nat}{x:Y_KidRun}(hk:k<(Q9 f).length)(h:(P4 f).length=4)(ht:0≤x.2.2.2.1∧x.2.2.2.1≤100000):
  Zbs N (U9 (Xl (Q9 f) k x) f) (k:Int)=some ((setK f k (again f x),()),()):=by
 have e0:Zw N (P4 (U9 (Xl (Q9 f) k x) f))=ret (P4 f):=Wdx (show(P4 f).length≤1048576 by omega)
 have e1:Q9 (U9 (Xl (Q9 f) k x) f)=Xl (Q9 f) k x:=rfl
 have hk2:k<(Xl (Q9 f) k x).length:=by simpa using hk
 unfold Zbs
 rw[e0,e1]
 have e2:Xd (Xl (Q9 f) k x) (Xb (k:Int)) d_KidRun=x:=by rw[Wm hk2];simp
 rw[e2,Wk hk2,Wgr (by omega),Xj]
 simp only[cond_true,ret,Xc,Xdm]
 rfl
theorem implRead_run{N:Nat}{m:Mm}{f:Y_Family}{k:Nat}{o:Int×Int×Int×Int}(hk:k<(Q9 f).length)(h:ReadOk m f (Q9 f)[k] o)(hN:1048576<N):
  Zir N f (k:Int) o m=some ((setK (Wup m f (Q9 f)[k] o).1 k (Wup m f (Q9 f)[k] o).2,()),()):=by
 generalize hx:(Q9 f)[k]=x at h
 have hw:=h.wr
 have hs:=h.seen
 have hb:=h.buf
 have hr:=h.regs
 have ex:Xd (Q9 f) (Xb (k:Int)) d_KidRun=x:=by rw[Wm hk,hx]
 unfold Zir Wup
 simp only[Wq]
 rw[Wk hk,ex,Xj,Wkm (show(P8 x).length≤1048576 by omega) hN,Wgr (by have:=h.pc;omega)]
 rcases Wdr (P8 x) o.2.2.1 with _|v
 ·simp only[opI,Xc,cond_false,cond_true]
  have hE:Zcp N (U9 (Xl (Q9 f) k x) f) o.2.2.1=ret (match ent (P6 f) o.2.2.1 with|some r=>(r.1:Int)|none=>-1):=Wne (f:=U9 (Xl (Q9 f) k x) f) (show(P6 f).length≤1048576 by omega) hN
  rw[hE,Wkt hk h.famr h.tries]
  rcases he:ent (P6 f) o.2.2.1 with _|r
  ·simp only[ret,Xc,show decide ((-1:Int)≥0)=false from rfl,cond_false]
   have hp:=h.pbO
   cases hc:P10 x
   ·have hp2:pbOf x o.2.2.1=(o.2.2.1,(0,(0,0))):=by unfold pbOf;rw[hc];rfl
    have hn:Zfe N o.2.2.1=some ((),((o.2.2.1,(0,(0,0))),(true,()))):=by
     unfold Zfe
     simp only[Wh,ret,Xc,h.cB,Xaa,cond_false]
    rw[hp2]at hp⊢
    simp only[Bool.not_false,cond_true,hn,Wlw h.mem hp hN,ret,Xc,rgI hr h.rA]
    generalize Was m f.1 (o.2.2.1,(0,(0,0)))=q
    rw[Ww (by simp;omega)]
    cases q.2.1==4<;>cases q.2.1==3<;>rfl
   ·have hp2:pbOf x o.2.2.1=Q11 x:=by unfold pbOf;rw[hc];rfl
    rw[hp2]at hp⊢
    simp only[Xaa,cond_false,Wlw h.mem hp hN,ret,Xc,rgI hr h.rA,cond_true]
    generalize Was m f.1 (Q11 x)=q
    rw[Ww (by simp;omega),S10_same hc]
    cases q.2.1==4<;>cases q.2.1==3<;>rfl
  ·have hm:=Whj he
   have hi:r.1<(P6 f).length:=by have:=hm.2.2.1;omega
   have hg:(P6 f)[r.1]=r.2:=by
    have:=hm.2.2.2
    rw[Nat.sub_zero,List.getElem?_eq_getElem hi]at this
    exact Option.some.inj this
   have e2:decide (((r.1:Nat):Int)≥0)=true:=by simp
   simp only[ret,Xc,e2,cond_true,Wk hi,rgI hr h.rA]
   rw[Wm hi,hg,Ww (by simp;omega)]
   cases decide (r.2.2.2>x.2.2.1)<;>rfl
 ·simp only[opI,Xc,cond_true,rgI hr h.rA]
  rfl
end
section
structure Lin{α:Type}(cf:α→α→Int):Prop where
 irr:∀x,¬cf x x<0
 tr:∀x y z,cf x y<0→cf y z<0→cf x z<0
 nt:∀x y z,¬cf x y<0→¬cf y z<0→¬cf x z<0
theorem linE:Lin cfE:=⟨λx=>by unfold cfE;omega,λx y z=>by unfold cfE;omega,λx y z=>by unfold cfE;omega⟩
theorem linH:Lin cfH:=⟨λx=>by rw[Wek];omega,λx y z=>by simp only[Wek];omega,λx y z=>by simp only[Wek];omega⟩
def Ris{α:Type}(cf:α→α→Int)(l:List α):Prop:=l.Pairwise λa b=>cf a b<0
def Wnt{α:Type}(cf:α→α→Int):List α→α→List α
 | [],e=>[e]
 |x::l,e=>if cf x e<0 then x::Wnt cf l e else if cf e x<0 then e::x::l else e::l
def Ap{α:Type}(cf:α→α→Int)(x y:α):Prop:=cf x y<0∨cf y x<0
variable{α:Type}{cf:α→α→Int}
theorem Lin.ap(h:Lin cf){x y:α}(hn:¬Ap cf x y){z:α}:(cf x z<0↔cf y z<0)∧(cf z x<0↔cf z y<0):=by
 unfold Ap at hn
 refine⟨⟨λa=>?_,λa=>?_⟩,⟨λa=>?_,λa=>?_⟩⟩
 ·exact Classical.byContradiction λc=>h.nt x y z (λq=>hn (.inl q)) c a
 ·exact Classical.byContradiction λc=>h.nt y x z (λq=>hn (.inr q)) c a
 ·exact Classical.byContradiction λc=>h.nt z y x c (λq=>hn (.inr q)) a
 ·exact Classical.byContradiction λc=>h.nt z x y c (λq=>hn (.inl q)) a
theorem Wes(hc:Lin cf){e x:α}:∀{l:List α},Ris cf l→(x∈Wnt cf l e↔x=e∨(x∈l∧Ap cf x e))
 | [],_=>by simp[Wnt]
 |y::l,h=>by
  have hl:=(Xab.1 h)
  unfold Wnt
  by_cases h1:cf y e<0
  ·rw[if_pos h1,Xo,Wes hc hl.2,Xo]
   refine⟨?_,?_⟩
   ·rintro(rfl|h|h)
    ·exact .inr ⟨.inl rfl,.inl h1⟩
    ·exact .inl h
    ·exact .inr ⟨.inr h.1,h.2⟩
   ·rintro(h|⟨rfl|h,h'⟩)
    ·exact .inr (.inl h)
    ·exact .inl rfl
    ·exact .inr (.inr ⟨h,h'⟩)
  ·rw[if_neg h1];by_cases h2:cf e y<0
   ·rw[if_pos h2]
    simp only[Xo]
    refine⟨?_,?_⟩
    ·rintro(h|rfl|h)
     ·exact .inl h
     ·exact .inr ⟨.inl rfl,.inr h2⟩
     ·exact .inr ⟨.inr h,.inr (hc.tr _ _ _ h2 (hl.1 x h))⟩
    ·rintro(h|⟨rfl|h,_⟩)
     ·exact .inl h
     ·exact .inr (.inl rfl)
     ·exact .inr (.inr h)
   ·rw[if_neg h2]
    simp only[Xo]
    have hn:¬Ap cf y e:=by unfold Ap;omega
    refine⟨?_,?_⟩
    ·rintro(h|h)
     ·exact .inl h
     ·exact .inr ⟨.inr h,.inr ((hc.ap hn).1.1 (hl.1 x h))⟩
    ·rintro(h|⟨rfl|h,h'⟩)
     ·exact .inl h
     ·exact absurd h' hn
     ·exact .inr h
theorem Whf(hc:Lin cf){e:α}:∀{l:List α},Ris cf l→Ris cf (Wnt cf l e)
 | [],_=>by simp[Wnt,Ris]
 |y::l,h=>by
  have hl:=(Xab.1 h)
  unfold Wnt
  by_cases h1:cf y e<0
  ·rw[if_pos h1]
   refine Xab.2 ⟨λx hx=>?_,Whf hc hl.2⟩
   rcases(Wes hc hl.2).1 hx with rfl|hx
   ·exact h1
   ·exact hl.1 x hx.1
  ·rw[if_neg h1];by_cases h2:cf e y<0
   ·rw[if_pos h2]
    refine Xab.2 ⟨λx hx=>?_,h⟩
    rcases Xo.1 hx with rfl|hx
    ·exact h2
    ·exact hc.tr _ _ _ h2 (hl.1 x hx)
   ·rw[if_neg h2]
    have hn:¬Ap cf y e:=by unfold Ap;omega
    exact Xab.2 ⟨λx hx=>(hc.ap hn).1.1 (hl.1 x hx),hl.2⟩
theorem sort_eq(hc:Lin cf){L M:List α}(hM:Ris cf M)(hL:L.Pairwise (Ap cf))(hm:∀x,x∈L↔x∈M):sortBy cf L=M:=by
 have hn:∀{l:List α},l.Pairwise (Ap cf)→l.Nodup:=λh=>h.imp λ{a b} hab=>by
  rintro rfl
  unfold Ap at hab
  have:=hc.irr a
  omega
 have hM':M.Pairwise (Ap cf):=hM.imp λh=>.inl h
 have hp:L.Perm M:=(List.perm_ext_iff_of_nodup (hn hL) (hn hM')).2 hm
 unfold sortBy
 have h1:=List.pairwise_mergeSort (le:=λx y=>!lessBy cf y x) (λa b c=>by
  simp only[lessBy,Xao,decide_eq_false_iff_not]
  exactλh1 h2=>hc.nt _ _ _ h2 h1) (λa b=>by
  simp only[lessBy,Xbw,Xao,decide_eq_false_iff_not]
  rcases Classical.em (cf b a<0)with h|h
  ·exact .inr λh'=>hc.irr _ (hc.tr _ _ _ h h')
  ·exact .inl h) L
 refine List.Perm.eq_of_pairwise ?_ h1 (hM.imp λ{a b} h=>?_) ((Xgi _ _).trans hp)
 ·intro a b ha hb h1 h2
  simp only[lessBy,Xao,decide_eq_false_iff_not]at h1 h2
  have ha':a∈M:=(hm a).1 ((Xgi _ _).mem_iff.1 ha)
  obtain⟨i,hi,rfl⟩:=Xat ha'
  obtain⟨j,hj,rfl⟩:=Xat hb
  rcases Nat.lt_trichotomy i j with h|h|h
  ·exact absurd (Xay.1 hM i j hi hj h) h2
  ·subst h;rfl
  ·exact absurd (Xay.1 hM j i hj hi h) h1
 ·simp only[lessBy,Xao,decide_eq_false_iff_not]
  exactλh'=>hc.irr _ (hc.tr _ _ _ h h')
theorem pairs_of{r:α→α→Bool}{R:α→α→Prop}(hr:∀a b,R a b→r a b=true):∀{l:List α},l.Pairwise R→Wzg r l=true
 | [],_=>rfl
 |x::l,h=>by
  have:=Xab.1 h
  simp only[Wzg,Xh,Xae]
  exact⟨λy hy=>hr _ _ (this.1 y hy),pairs_of hr this.2⟩
theorem sort_run(hc:Lin cf){rng:α→Bool}{N:Nat}{L M:List α}(hM:Ris cf M)(hL:L.Pairwise (Ap cf))(hm:∀x,x∈L↔x∈M)(hr:∀x∈L,rng x=true)(hl:L.length≤1048576):
  Znb rng cf N L=some ((M,()),()):=by
 unfold Znb
 rw[Xae.2 hr,pairs_of (R:=Ap cf) (λa b h=>by unfold apart lessBy;simpa [Ap]using h) hL,decide_eq_true (by omega)]
 rw[←sort_eq hc hM hL hm]
 rfl
theorem apart_set(hc:Lin cf){L:List α}{e:α}{i:Nat}(hL:L.Pairwise (Ap cf))(hi:i<L.length)(hk:¬Ap cf L[i] e):(L.set i e).Pairwise (Ap cf)∧∀x,x∈L.set i e↔x=e∨(x∈L∧Ap cf x e):=by
 have hap:∀{z},Ap cf L[i] z↔Ap cf e z:=λ{z}=>by unfold Ap;rw[(hc.ap hk).1,(hc.ap hk).2]
 have hsym:∀{a b:α},Ap cf a b→Ap cf b a:=λh=>h.symm
 have hG:=Xay.1 hL
 refine⟨?_,λx=>⟨λhx=>?_,?_⟩⟩
 ·rw[Xay]
  intro a b ha hb hab
  rw[Xad]at ha hb
  rw[Xaq,Xaq]
  by_cases h1:i=a
  ·rw[if_pos h1,if_neg (by omega)]
   subst h1
   exact hap.1 (hG i b ha hb hab)
  ·rw[if_neg h1];by_cases h2:i=b
   ·rw[if_pos h2]
    subst h2
    exact hsym (hap.1 (hsym (hG a i ha hb hab)))
   ·rw[if_neg h2];exact hG a b ha hb hab
 ·obtain⟨j,hj,rfl⟩:=Xat hx
  rw[Xad]at hj
  rw[Xaq]
  by_cases h1:i=j
  ·rw[if_pos h1];exact .inl rfl
  ·rw[if_neg h1]
   refine .inr ⟨Xt hj,?_⟩
   rcases Nat.lt_or_gt_of_ne h1 with h|h
   ·exact hsym (hap.1 (hG i j hi hj h))
   ·exact hsym (hap.1 (hsym (hG j i hj hi h)))
 ·rintro(rfl|⟨hx,hx'⟩)
  ·exact Xgd.2 ⟨i,by simpa using hi,by simp⟩
  ·obtain⟨j,hj,rfl⟩:=Xat hx
   refine Xgd.2 ⟨j,by simpa using hj,?_⟩
   rw[Xaq,if_neg]
   rintro rfl
   exact hk hx'
theorem Wxg{L:List α}{e:α}(hL:L.Pairwise (Ap cf))(hk:∀x∈L,Ap cf x e):(L++ [e]).Pairwise (Ap cf)∧∀x,x∈L++ [e]↔x=e∨(x∈L∧Ap cf x e):=by
 refine⟨List.pairwise_append.2 ⟨hL,List.pairwise_singleton _ _,λa ha b hb=>?_⟩,λx=>?_⟩
 ·rw[Xac]at hb;subst hb;exact hk a ha
 ·simp only[List.mem_append,Xac]
  refine⟨?_,?_⟩
  ·rintro(h|h)
   ·exact .inr ⟨h,hk x h⟩
   ·exact .inl h
  ·rintro(h|h)
   ·exact .inr h
   ·exact .inl h.1
end
section
abbrev KM:=Int×Int×List Int
structure Kd where
 phase:Int:=0
 pc:Int:=0
 since:Int:=0
 tries:Int:=0
 pos:Int:=0
 out:Int:=0
 regs:List Int:=[]
 seen:List En:=[]
 writes:List Rw:=[]
 marks:List KM:=[]
 busy:Bool:=false
 pb:Pb:=(0,0,0,0)
def Kd.e(x:Kd):Y_KidRun:=(x.phase,x.pc,x.since,x.tries,x.pos,x.out,x.regs,x.seen,x.writes,x.marks,x.busy,x.pb)
structure Fm where
 rv:Int:=0
 clock:Int:=0
 owner:Int:=0
 lost:Bool:=false
 regs:List Int:=[]
 start:List Rw:=[]
 buf:List En:=[]
 order:List Int:=[]
 reads:List Rw:=[]
 kids:List Kd:=[]
def Fm.e(f:Fm):Y_Family:=(f.rv,f.clock,f.owner,f.lost,f.regs,f.start,f.buf,f.order,f.reads,f.kids.map Kd.e)
def zOp:Opn:=(0,0,0,0)
def opN(code:List Opn)(i:Int):Opn:=Xd code i.toNat zOp
def getI{α:Type}(l:List α)(i:Int)(d:α):α:=Xd l i.toNat d
def setI{α:Type}(l:List α)(i:Int)(x:α):List α:=Xl l i.toNat x
def Wrw{α:Type}(l:List α)(d:α):α:=Xd l (l.length-1) d
def Wsn(l:List Opn)(m:Nat):Nat:=((Xdf l.length).find? λk=>decide (m≤k)&&decide (dep l (k+1)=dep l m)).getD 0
def Fm.again(f:Fm)(x:Kd):Kd:={since:=f.clock,tries:=x.tries+1,regs:=f.regs}
def Wkd(m:Mm)(f:Fm)(x:Kd)(o:Opn):Fm×Kd:=
 match Wdr x.writes o.2.2.1 with
 |some v=>(f,{x with regs:=setI x.regs o.2.1 v,pc:=x.pc+1})
 |none=>match ent f.buf o.2.2.1 with
  |some r=>if r.2.2.2>x.since then(f,f.again x)else(f,{x with regs:=setI x.regs o.2.1 r.2.2.1,seen:=x.seen++ [r.2],pc:=x.pc+1})
  |none=>
   let p:=Was m f.rv (if x.busy then x.pb else(o.2.2.1,0,0,0))
   if p.2.1=4 then({f with lost:=true},{x with busy:=true,pb:=p})
   else if p.2.1=3 then(f,{x with regs:=setI x.regs o.2.1 p.2.2.2,seen:=x.seen++ [(o.2.2.1,p.2.2.2,-1)],busy:=false,pb:=(0,0,0,0),pc:=x.pc+1})
   else(f,{x with busy:=true,pb:=p})
def Wsx(x:Kd)(code:List Opn):Kd:=
 if x.marks.length=0 then{x with writes:=[],out:=2,phase:=1}else
 let q:=Wrw x.marks (0,0,[])
 {x with marks:=x.marks.dropLast,regs:=setI q.2.2 (opN code q.1).2.1 0,writes:=x.writes.take q.2.1.toNat,pc:=Wsn code q.1.toNat+1}
def kRun(m:Mm)(f:Fm)(x:Kd)(code:List Opn):Fm×Kd:=
 if x.pc≥code.length then(f,{x with out:=1,phase:=1})else
 let o:=opN code x.pc
 if o.1=5 then Wkd m f x o else
 if o.1=10 then(f,Wsx x code)else
 if o.1=6 then(f,{x with writes:=x.writes++ [(o.2.1,getI x.regs o.2.2.1 0)],pc:=x.pc+1})else
 if o.1=7 then(f,{x with pc:=(if getI x.regs o.2.1 0=0 then x.pc+o.2.2.1 else x.pc)+1})else
 if o.1=8 then(f,{x with marks:=x.marks++ [(x.pc,(x.writes.length:Int),x.regs)],pc:=x.pc+1})else
 if o.1=9 then(f,{x with marks:=x.marks.dropLast,regs:=setI x.regs (opN code (Wrw x.marks (0,0,[])).1).2.1 1,pc:=x.pc+1})else
 (f,{x with regs:=calcF o x.regs,pc:=x.pc+1})
def Wjh(c:Int)(b:List En)(rows:List Rw):List En:=rows.foldl (λb r=>Wnt cfE b (r.1,r.2,c)) b
def Wdi(l:List En):List Rw:=(l.filter λe=>decide (e.2.2= -1)).map λe=>(e.1,e.2.1)
def Whr(f:Fm)(x:Kd)(k:Nat):Fm×Kd:=
 ({f with clock:=f.clock+1,buf:=Wjh (f.clock+1) f.buf (netR x.writes),reads:=f.reads++Wdi x.seen,order:=f.order++ [(k:Int)],owner:=0},{x with phase:=3,pos:=0,marks:=[]})
def entV(b:List En)(c:Int):Int:=match ent b c with
 |some r=>r.2.2.2
 |none=>-1
def Wke(m:Mm)(f:Fm)(x:Kd)(k:Nat)(code:List Opn):Fm×Kd:=
 if x.phase=0 then kRun m f x code else
 if x.phase=1 then(if f.owner=0 then({f with owner:=(k:Int)+1},{x with phase:=2})else(f,x))else
 if x.phase=2 then
  if x.pos=x.seen.length then Whr f x k else
  let s:=getI x.seen x.pos (0,0,0)
  if entV f.buf s.1=s.2.2 then(f,{x with pos:=x.pos+1})else({f with owner:=0},f.again x)
 else(f,x)
def Fm.put(q:Fm×Kd)(k:Nat):Fm:={q.1 with kids:=q.1.kids.set k q.2}
def Wgo(m:Mm)(f:Fm)(k:Nat)(code:List Opn):Fm:=
 if f.lost then f else Fm.put (Wke m f (f.kids.getD k {}) k code) k
def Wbw(rv:Int)(regs:List Int)(writes:List Rw)(kids:Nat):Fm:=
 {rv:=rv,regs:=regs,start:=netR writes,buf:=(netR writes).map λr=>(r.1,r.2,0),kids:=List.replicate kids {regs:=regs}}
def Wdh(f:Fm):Bool:=f.kids.all λx=>decide (x.phase=3)
def Wqc(f:Fm):List Rw:=f.buf.map λe=>(e.1,e.2.1)
def kidReg(x:Kd):Int:=if x.out=1∧Wmm x.regs=true then getI x.regs 0 0 else 0
def Wtk(f:Fm):List Int:=
 if Wmm f.regs=true∧f.kids.length≤3 then f.kids.map kidReg++f.regs.drop f.kids.length else []
structure KMk(code:List Opn)(pc:Nat)(marks:List KM)(wl:Nat):Prop where
 pcs:marks.map (·.1)=(stk code pc).map λm:Nat=>(m:Int)
 each:∀q∈marks,Vals 4 q.2.2∧0≤q.2.1∧q.2.1≤q.1∧q.2.1≤wl
 up:marks.Pairwise λa b=>a.2.1≤b.2.1
structure KOk(code:List Opn)(c n:Int)(x:Kd):Prop where
 pc:0≤x.pc∧x.pc≤code.length
 regs:Vals 4 x.regs
 rows:Rows x.writes
 wl:(x.writes.length:Int)≤x.pc
 sl:(x.seen.length:Int)≤x.pc
 since:0≤x.since∧x.since≤c
 tries:0≤x.tries∧x.tries≤n
 seen:∀e∈x.seen,(0≤e.1∧e.1≤7)∧(0≤e.2.1∧e.2.1≤65535)∧ -1≤e.2.2∧e.2.2≤x.since
 marks:x.phase=0→KMk code x.pc.toNat x.marks x.writes.length
 pos:0≤x.pos∧x.pos≤x.seen.length
 pb:x.busy=true→pbOk x.pb=true
 phase:0≤x.phase∧x.phase≤3
 out:0≤x.out∧x.out≤2
structure FOk(codes:List (List Opn))(n:Int)(f:Fm):Prop where
 len:f.kids.length=codes.length
 regs:Vals 4 f.regs
 clock:0≤f.clock∧f.clock=f.order.length
 done:f.order.length=f.kids.countP λx=>decide (x.phase=3)
 bufR:Ris cfE f.buf
 bufE:∀e∈f.buf,(0≤e.1∧e.1≤7)∧(0≤e.2.1∧e.2.1≤65535)∧0≤e.2.2∧e.2.2≤f.clock
 readsL:f.reads.length≤24*f.order.length
 readsE:Rows f.reads
 owner:0≤f.owner∧f.owner≤f.kids.length
 kid:∀(k:Nat) (h:k<f.kids.length),KOk (codes.getD k []) f.clock n f.kids[k]
end
section
structure CC(l:List Opn):Prop where
 len:l.length≤24
 up:Up l
 z:dep l l.length=0
 ok:∀i (h:i<l.length),opOk l[i]=true∧1≤l[i].1∧l[i].1≤16
 sk:∀i (h:i<l.length),l[i].1=7→i+1+l[i].2.2.1.toNat≤l.length∧bal ((l.take (i+1+l[i].2.2.1.toNat)).drop (i+1))=true
 fk:∀i (h:i<l.length),l[i].1=11→dep l i=0∧frk l (i+1)≤1
structure KC(l:List Opn):Prop extends CC l where
 k10:∀i (h:i<l.length),l[i].1≤10
theorem touch_2{o:Opn}(h:opOk o=true)(h12:12≤o.1):Wvj o=2:=by
 have h16:=ok_16 h
 have key:=Wjl (N:=0) (o:=o)
 unfold Zci at key
 rw[Wim,h]at key
 simp only[ret,Xc,Xaa,cond_false]at key
 have e5:(o.1==5)=false:=by simp;omega
 have e6:(o.1==6)=false:=by simp;omega
 rw[e5,e6]at key
 simp only[cond_false]at key
 have:o.1=12∨o.1=13∨o.1=14∨o.1=15∨o.1=16:=by omega
 rcases this with hk|hk|hk|hk|hk<;> · rw[hk]at key;simpa using key.symm
theorem cc_of{l:List Opn}(h:cdOk l=true):CC l:=by
 unfold cdOk at h
 simp only[Xh,decide_eq_true_eq,Xao]at h
 obtain⟨h1,h2,h3⟩:=h
 obtain⟨b1,b2⟩:=bal_iff.1 h2
 have hb:∀i (hi:i<l.length),badI l i l[i]=false:=λi hi=>by
  rw[Xbz]
  intro hb
  have:anyI (badI l) 0 l=true:=Wom.2 ⟨i,hi,by rw[Xbb];exact hb⟩
  rw[h3]at this;cases this
 have hok:∀i (hi:i<l.length),opOk l[i]=true:=λi hi=>by
  have:=hb i hi
  unfold badI at this
  simp only[Xdv,Xff]at this
  exact this.1.1
 refine⟨h1,b1,b2,λi hi=>⟨hok i hi,ok_16 (hok i hi)⟩,λi hi h7=>?_,λi hi h11=>?_⟩
 ·have:=hb i hi
  unfold badI at this
  simp only[Xdv,Xff]at this
  have h8:=this.1.2
  rw[h7]at h8
  have:Wqt l i l[i]=true:=by simpa using h8
  unfold Wqt at this
  simpa using this
 ·have:=hb i hi
  unfold badI at this
  simp only[Xdv,Xff]at this
  have h8:=this.2
  rw[h11]at h8
  simp at h8
  omega
theorem kc_of{l:List Opn}(h:Wqn l=true):KC l:=by
 unfold Wqn at h
 simp only[Xh,Xao]at h
 have hc:=cc_of h.1
 refine⟨hc,λi hi=>?_⟩
 have hk':Wot l[i]=false:=by
  rw[Xbz]
  intro hb
  have:=List.any_eq_true.2 ⟨l[i],Xt hi,hb⟩
  rw[h.2]at this;cases this
 unfold Wot at hk'
 simp only[Xdv]at hk'
 by_cases h10:l[i].1≤10
 ·exact h10
 ·exfalso
  by_cases h11:l[i].1=11
  ·simp[h11]at hk'
  ·have:=touch_2 (hc.ok i hi).1 (by have:=(hc.ok i hi).2;omega)
   rw[this]at hk'
   simp at hk'
theorem endOf_mate{l:List Opn}{m k:Nat}(h:Mate l m k):Wsn l m=k:=by
 unfold Wsn
 have:(Xdf l.length).find? (λk=>decide (m≤k)&&decide (dep l (k+1)=dep l m))=some k:=by
  rw[List.find?_range_eq_some]
  have:=h.lt
  refine⟨?_,List.mem_range.2 h.len,λj hj=>?_⟩
  ·simp[h.eq];omega
  ·simp only[Xao,Bool.and_eq_false_iff,decide_eq_false_iff_not]
   by_cases hm:m≤j
   ·exact .inr (h.ne j hm hj)
   ·exact .inl hm
 rw[this];rfl
theorem Wml{l:List Opn}{i:Int}(h0:0≤i)(h:i<l.length):∃(n:Nat) (hn:n<l.length),i=n∧opN l i=l[n]:=by
 refine⟨i.toNat,by omega,by omega,?_⟩
 unfold opN
 exact Wc (by omega) _
theorem Wyc{l:List Opn}{n:Nat}(h:n<l.length):opN l (n:Int)=l[n]:=by
 unfold opN
 exact Wc (by simpa using h) _
theorem lastD_snoc{α:Type}(q:List α)(x d:α):Wrw (q++ [x]) d=x:=by unfold Wrw;simp
theorem Wrp{M:Type}{g:M→Int}{l:List Opn}{pc:Nat}{marks:List M}{d:M}(hc:CC l)(hp:pc≤l.length)(hm:marks.map g=(stk l pc).map λm:Nat=>(m:Int))(hne:marks.length≠0):
  ∃(m:Nat) (q:List M) (x:M),marks=q++ [x]∧Wrw marks d=x∧g x=(m:Int)∧(∃hm:m<l.length,l[m].1=8)∧m<pc∧Mate l m (Wsn l m)∧pc≤Wsn l m∧stk l m=(stk l pc).dropLast∧q.map g=(stk l m).map λm:Nat=>(m:Int):=by
 rcases Wfp marks with h0|⟨q,x,hq⟩
 ·rw[h0]at hne;simp at hne
 ·rw[hq,Xp,Xaj,Xch]at hm
  rcases Wfp (stk l pc)with h0|⟨t,m,ht⟩
  ·rw[h0]at hm;simp at hm
  ·rw[ht,Xp,Xaj,Xch]at hm
   obtain⟨e1,e2⟩:=Xel hm rfl
   injection e2 with e2
   obtain⟨k,k1,k2,k3⟩:=mate_at hc.up hc.z hp ht
   have k4:=endOf_mate k2
   obtain⟨hlt,h8,_,_⟩:=Wzr pc hp t [] m ht
   refine⟨m,q,x,hq,by rw[hq];exact lastD_snoc q x d,e2,h8,hlt,by rw[k4];exact k2,by omega,by rw[ht,Xew];exact k3,by rw[k3];exact e1⟩
end
section
theorem Wvr{l:List Rw}{c v:Int}:∀(i:Nat),i≤l.length→Wss l c i=some v→(c,v)∈l
 |0,_,h=>by simp[Wss]at h
 |i+1,hi,h=>by
  unfold Wss at h
  rw[Wc (show i<l.length by omega)]at h
  by_cases hc:l[i].1=c
  ·rw[if_pos hc]at h
   injection h with h
   have:l[i]=(c,v):=by rw[←hc,←h]
   rw[←this];exact Xt _
  ·rw[if_neg hc]at h;exact Wvr i (by omega) h
theorem Wua{l:List Rw}{c v:Int}(h:Wdr l c=some v):Wdk l=true∧(c,v)∈l:=by
 unfold Wdr at h
 by_cases hr:Wdk l=true
 ·rw[if_pos hr]at h;exact⟨hr,Wvr _ (Xm _) h⟩
 ·rw[if_neg hr]at h;cases h
theorem netGo_eq(l:List Rw):∀(j c:Nat) (o:List Rw),Wxm l j c o=o++(Xgs c j).filterMap λc:Nat=>(Wdr l (c:Int)).map λv=>((c:Int),v)
 |0,c,o=>by simp[Wxm]
 |j+1,c,o=>by
  rw[Wxm,netGo_eq l j,List.range'_succ,List.filterMap_cons]
  unfold Wxr
  cases h:Wdr l (c:Int)<;>simp
theorem netR_eq(l:List Rw):netR l=(Xgs 0 8).filterMap λc:Nat=>(Wdr l (c:Int)).map λv=>((c:Int),v):=by unfold netR;rw[netGo_eq];simp
theorem mem_netR{l:List Rw}{r:Rw}:r∈netR l↔(0≤r.1∧r.1≤7)∧Wdr l r.1=some r.2:=by
 rw[netR_eq,List.mem_filterMap]
 constructor
 ·rintro⟨c,hc,h⟩
  rw[Xgp]at hc
  cases hl:Wdr l (c:Int)with
  |none=>rw[hl]at h;cases h
  |some v=>
   rw[hl]at h
   injection h with h
   subst h
   exact⟨by show 0≤(c:Int)∧(c:Int)≤7;omega,hl⟩
 ·rintro⟨h0,h⟩
  refine⟨r.1.toNat,Xgp.2 (by omega),?_⟩
  rw[show((r.1.toNat:Nat):Int)=r.1 by omega,h]
  rfl
theorem netR_up(l:List Rw):(netR l).Pairwise λa b=>a.1<b.1:=by
 rw[netR_eq,List.pairwise_filterMap]
 refine List.Pairwise.imp ?_ (List.pairwise_lt_range' (s:=0) (n:=8))
 intro a b hab r hr r' hr'
 cases h1:Wdr l (a:Int)<;>rw[h1]at hr<;>simp at hr
 cases h2:Wdr l (b:Int)<;>rw[h2]at hr'<;>simp at hr'
 rw[←hr,←hr']
 simp;omega
theorem Wpa(l:List Rw):(netR l).length≤8:=by
 rw[netR_eq]
 exact Xcn (List.length_filterMap_le _ _) (by simp)
theorem Wof{l:List Rw}:Rows (netR l):=by
 intro r hr
 obtain⟨h0,h1⟩:=mem_netR.1 hr
 obtain⟨h2,h3⟩:=Wua h1
 unfold Wdk at h2
 simp only[Xh]at h2
 have:=(Wzn.1 h2.2) _ h3
 exact⟨h0,this.2⟩
end
section
theorem Woy{α β:Type}(g:α→β)(l:List α)(i:Nat)(d:α):Xd (l.map g) i (g d)=g (l.getD i d):=by
 by_cases h:i<l.length
 ·rw[Wc (show i<(l.map g).length by simpa using h),Wc h];simp
 ·rw[Xbc,Xbc,Xbj (by simpa using h),Xbj (by simpa using h)];rfl
theorem kdP(x:Kd):x.e.1=x.phase∧x.e.2.1=x.pc∧x.e.2.2.1=x.since∧x.e.2.2.2.1=x.tries∧P4 x.e=x.pos∧P5 x.e=x.out∧P6 x.e=x.regs∧P7 x.e=x.seen∧P8 x.e=x.writes∧P9 x.e=x.marks∧P10 x.e=x.busy:=⟨rfl,rfl,rfl,rfl,rfl,rfl,rfl,rfl,rfl,rfl,rfl⟩
theorem fmP(f:Fm):f.e.1=f.rv∧f.e.2.1=f.clock∧f.e.2.2.1=f.owner∧f.e.2.2.2.1=f.lost∧P4 f.e=f.regs∧P5 f.e=f.start∧P6 f.e=f.buf∧P7 f.e=f.order∧P8 f.e=f.reads∧Q9 f.e=f.kids.map Kd.e:=⟨rfl,rfl,rfl,rfl,rfl,rfl,rfl,rfl,rfl,rfl⟩
theorem U9e(f:Fm)(k:Nat)(x:Kd):U9 (Xl (f.kids.map Kd.e) k x.e) f.e=Fm.e {f with kids:=f.kids.set k x}:=by
 unfold U9 Fm.e;rw[List.map_set]
theorem fin9{f f':Fm}{k:Nat}{x':Kd}{y:Y_KidRun}{g:Y_Family}(hy:y=x'.e)(hg:g=f'.e)(hf:f'.kids=f.kids):
  some ((U9 (Xl (f.kids.map Kd.e) k y) g,()),())=some (((Fm.put (f',x') k).e,()),()):=by
 subst hy hg
 rw[←hf,U9e];rfl
theorem kidRead_e(m:Mm)(f:Fm)(x:Kd)(o:Opn):Wup m f.e x.e o=((Wkd m f x o).1.e,(Wkd m f x o).2.e):=by
 unfold Wup Wkd
 have h1:P8 x.e=x.writes:=rfl
 have h2:P6 f.e=f.buf:=rfl
 rw[h1,h2]
 rcases Wdr x.writes o.2.2.1 with _|v
 ·rcases ent f.buf o.2.2.1 with _|r
  ·have h3:pbOf x.e o.2.2.1=if x.busy then x.pb else(o.2.2.1,0,0,0):=by
    unfold pbOf
    have:P10 x.e=x.busy:=rfl
    rw[this]
    cases x.busy<;>rfl
   simp only[h3]
   have h4:f.e.1=f.rv:=rfl
   rw[h4]
   generalize Was m f.rv (if x.busy then x.pb else(o.2.2.1,0,0,0))=p
   by_cases e4:p.2.1=4
   ·have:(p.2.1==4)=true:=by simpa using e4
    rw[if_pos e4,this];rfl
   ·have:(p.2.1==4)=false:=by simpa using e4
    rw[if_neg e4,this]
    by_cases e3:p.2.1=3
    ·have:(p.2.1==3)=true:=by simpa using e3
     rw[if_pos e3,this];rfl
    ·have:(p.2.1==3)=false:=by simpa using e3
     rw[if_neg e3,this];rfl
  ·simp only
   have h5:x.e.2.2.1=x.since:=rfl
   rw[h5]
   by_cases hv:r.2.2.2>x.since
   ·rw[if_pos hv,decide_eq_true hv];rfl
   ·rw[if_neg hv,decide_eq_false hv];rfl
 ·rfl
theorem kRead_kids(m:Mm)(f:Fm)(x:Kd)(o:Opn):(Wkd m f x o).1.kids=f.kids:=by
 unfold Wkd
 cases Wdr x.writes o.2.2.1 with
 |some v=>rfl
 |none=>
  cases ent f.buf o.2.2.1 with
  |some r=>simp only;split<;>rfl
  |none=>
   simp only
   generalize Was m f.rv _=p
   repeat' split
   all_goals rfl
variable{N:Nat}{codes:List (List Opn)}{n:Int}{f:Fm}{k:Nat}{code:List Opn}{m:Mm}{x:Kd}
theorem FOk.buf8(h:FOk codes n f):f.buf.length≤8:=by
 have:∀(l:List En) (c:Int),Ris cfE l→(∀e∈l,c≤e.1∧e.1≤7)→(l.length:Int)≤8-c∨l= []:=by
  intro l
  induction l with
  |nil=>intro c _ _;exact .inr rfl
  |cons a l ih=>
   intro c hr hb
   left
   have h1:=Xab.1 hr
   have ha:=hb a (Xi ..)
   rcases ih (a.1+1) h1.2 (λe he=>⟨by have:=h1.1 e he;unfold cfE at this;omega,(hb e (Xe _ he)).2⟩)with h|h
   ·rw[Xr];omega
   ·subst h;simp;omega
 rcases this f.buf 0 h.bufR (λe he=>by have:=(h.bufE e he).1;omega)with h|h
 ·omega
 ·rw[h];simp
theorem readOk_of(hF:FOk codes n f)(hx:KOk code f.clock n x)(hkc:KC code)(hm:Waq m=true)(hn:n≤100000){o:Opn}(hA:Wf o.2.1=true)(hB:Waz o.2.2.1=true):ReadOk m f.e x.e o where
 mem:=hm
 regs:=hx.regs.len
 famr:=hF.regs.len
 rA:=by unfold Wf at hA;simpa using hA
 cB:=hB
 seen:=by have:=hx.sl;have:=hx.pc;have:=hkc.len;show x.seen.length≤1000;omega
 wr:=by have:=hx.wl;have:=hx.pc;have:=hkc.len;show x.writes.length≤1000;omega
 buf:=by have:=hF.buf8;show f.buf.length≤1000;omega
 ver:=λe he=>(hF.bufE e he).2.2.1
 since:=hx.since.1
 pc:=by have:=hx.pc;have:=hkc.len;show 0≤x.pc∧x.pc≤1000;omega
 tries:=by have:=hx.tries;show 0≤x.tries∧x.tries≤100000;omega
 pb:=hx.pb
theorem Wn{α:Type}{a b:Int}{x y:α}:(bif a==b then x else y)=if a=b then x else y:=by
 by_cases h:a=b
 ·have:(a==b)=true:=by simpa using h
  rw[this,if_pos h];rfl
 ·have:(a==b)=false:=by simpa using h
  rw[this,if_neg h];rfl
theorem Wbv{α:Type}{p:Prop}[Decidable p]{x y:α}:(bif decide p then x else y)=if p then x else y:=by
 by_cases h:p
 ·rw[if_pos h,decide_eq_true h];rfl
 ·rw[if_neg h,decide_eq_false h];rfl
theorem Wya(hkc:KC code)(hx:KOk code f.clock n x)(h0:x.phase=0)(hN:1048576<N):Zh8 N x.e code=some (((Wsx x code).e,()),()):=by
 unfold Zh8 Wsx
 obtain⟨k0,k1,k2,k3,k4,k5,k6,k7,k8,k9,k10⟩:=kdP x
 have hpc:=hx.pc
 have hlen:=hkc.len
 have hM:=hx.marks h0
 simp only[Wq,k9,k8,k1,Wn]
 by_cases hz:x.marks.length=0
 ·rw[if_pos (by unfold ilen;omega),if_pos hz];rfl
 ·rw[if_neg (by unfold ilen;omega),if_neg hz]
  obtain⟨j,q,y,e1,e2,e3,⟨hj,h8⟩,hjp,hmate,hpe,e5,e6⟩:=Wrp (d:=((0,0,[]):KM)) hkc.toCC (show x.pc.toNat≤code.length by omega) hM.pcs hz
  have hlm:x.marks.length=q.length+1:=by rw[e1];simp
  have hq24:q.length≤24:=by
   have:=congrArg Xa e6
   simp only[Xaf]at this
   have h2:=Weg hkc.up j (by omega)
   have h3:=(Wij code j).2
   omega
  have i1:isub .i64 (ilen x.marks) 1=(q.length:Int):=by rw[len_m1 (by omega),hlm];omega
  have hy:y∈x.marks:=by rw[e1];simp
  obtain⟨y1,y2,y3,y4⟩:=hM.each y hy
  have g1:Xd x.marks (Xb (q.length:Int)) ((0,0,[]):KM)=y:=by rw[e1];simp
  have t1:Xar (Xb (q.length:Int)) x.marks=x.marks.dropLast:=by rw[e1];simp
  have hwl:=hx.wl
  rw[i1,Way,decide_eq_true (show q.length<x.marks.length by omega)]
  simp only[cond_true,g1,t1,e2]
  have b1:((decide ((0:Int)≤(q.length:Int))&&decide ((q.length:Int)≤(x.marks.length:Int)))&&decide ((q.length:Int)≤((Xb (q.length:Int):Nat):Int)))=true:=by
   simp;omega
  rw[b1]
  simp only[cond_true]
  rw[Wdx (by rw[y1.len];omega)]
  simp only[ret,Xc]
  rw[e3,Way,decide_eq_true hj]
  have o1:Xd code (Xb ((j:Nat):Int)) ((0,0,0,0):Opn)=code[j]:=Wm hj _
  have o2:opN code ((j:Nat):Int)=code[j]:=Wyc hj
  have hr:=ok_8 (hkc.ok j hj).1 h8
  simp only[cond_true,o1,o2]
  rw[Wcz hr y1.len]
  have b2:(decide ((0:Int)≤y.2.1)&&decide (y.2.1≤(x.writes.length:Int)))=true:=by simp;omega
  rw[b2]
  simp only[cond_true]
  rw[Wig (by rw[Xan];omega),Wsv (by omega) hN ⟨hj,h8⟩ hmate]
  simp only[ret,Xc]
  rw[Wgr (by have:=hmate.len;omega),Xj]
  rfl
theorem implRun_run(hk:k<f.kids.length)(hm:Waq m=true)(hkc:KC code)(hF:FOk codes n f)(hcode:codes.getD k []=code)(hxe:f.kids[k]=x)(h0:x.phase=0)(hn:n≤100000)(hN:1048576<N):
  Zi9 N f.e (k:Int) code m=some (((Fm.put (kRun m f x code) k).e,()),()):=by
 have hx:=hF.kid k hk
 rw[hcode,hxe]at hx
 obtain⟨k0,k1,k2,k3,k4,k5,k6,k7,k8,k9,k10⟩:=kdP x
 obtain⟨f0,f1,f2,f3,f4,f5,f6,f7,f8,f9⟩:=fmP f
 have hpc:=hx.pc
 have hlen:=hkc.len
 have hwl:=hx.wl
 have e2:Xd (f.kids.map Kd.e) (Xb (k:Int)) d_KidRun=x.e:=by
  have:=Woy Kd.e f.kids k {}
  rw[Wc hk,hxe]at this
  exact this
 have e3:U9 (Xl (f.kids.map Kd.e) (Xb (k:Int)) x.e) f.e=f.e:=by
  rw[Xj,U9e,←hxe,List.set_getElem_self]
 unfold Zi9 kRun
 simp only[Wq,f9,Xaf]
 rw[Way,decide_eq_true hk]
 simp only[cond_true,e2,e3,k1,k6,k8,k9,Wbv,Wn,show ilen code=(code.length:Int)from rfl]
 by_cases hge:x.pc≥code.length
 ·rw[if_pos hge,if_pos hge]
  rw[Xj]
  exact fin9 rfl rfl rfl
 ·rw[if_neg hge,if_neg hge]
  obtain⟨j,hj,ej,eo⟩:=Wml (l:=code) hpc.1 (by omega)
  have eo':Xd code (Xb x.pc) ((0,0,0,0):Opn)=opN code x.pc:=rfl
  have hin:inb x.pc code.length=true:=by rw[ej,Way];exact decide_eq_true hj
  rw[hin]
  obtain⟨ok,o1,o16⟩:=hkc.ok j hj
  have o10:=hkc.k10 j hj
  simp only[cond_true,eo']
  rw[←eo]at ok o1 o10
  generalize opN code x.pc=o at*
  have hrl:=hx.regs.len
  rw[Xj]
  rw[Wgr (show 0≤x.pc∧x.pc≤1000000 by omega)]
  by_cases h5:o.1=5
  ·rw[if_pos h5,if_pos h5]
   have:=ok_5 ok h5
   have hro:=readOk_of hF hx hkc hm hn this.1 this.2
   have e4:(Q9 f.e)[k]'(by rw[f9];simpa using hk)=x.e:=by
    simp only[f9,List.getElem_map,hxe]
   have:=implRead_run (m:=m) (o:=o) (f:=f.e) (k:=k) (by rw[f9];simpa using hk) (by rw[e4];exact hro) hN
   rw[this]
   simp only[Xc,e4,kidRead_e]
   unfold setK
   have hkk:=kRead_kids m f x o
   rw[show Q9 (Wkd m f x o).1.e=f.kids.map Kd.e by rw[←hkk];rfl]
   exact fin9 rfl rfl hkk
  ·rw[if_neg h5,if_neg h5]
   by_cases h10:o.1=10
   ·rw[if_pos h10,if_pos h10,Wya hkc hx h0 hN]
    exact fin9 rfl rfl rfl
   ·rw[if_neg h10,if_neg h10]
    by_cases h6:o.1=6
    ·rw[if_pos h6,if_pos h6]
     rw[Wcz (ok_6 ok h6).2 hrl,Ww (by simp;omega)]
     exact fin9 rfl rfl rfl
    ·rw[if_neg h6,if_neg h6]
     by_cases h7:o.1=7
     ·rw[if_pos h7,if_pos h7]
      have h:=ok_7 ok h7
      rw[Wcz h.1 hrl,Wx (a:=x.pc) (b:=o.2.2.1) (by unfold I64;omega),Wgr (a:=x.pc+o.2.2.1) (by omega)]
      by_cases hg:Xd x.regs (Xb o.2.1) 0=0
      ·rw[if_pos hg,if_pos (show getI x.regs o.2.1 0=0 from hg)]
       simp only[cond_true]
       exact fin9 rfl rfl rfl
      ·rw[if_neg hg,if_neg (show¬getI x.regs o.2.1 0=0 from hg)]
       simp only[cond_true]
       exact fin9 rfl rfl rfl
     ·rw[if_neg h7,if_neg h7]
      by_cases h8:o.1=8
      ·rw[if_pos h8,if_pos h8]
       rw[Wdx (by omega)]
       have hml:x.marks.length≤24:=by
        have:=congrArg Xa (hx.marks h0).pcs
        simp only[Xaf]at this
        have h2:=Weg hkc.up x.pc.toNat (by omega)
        have h3:=(Wij code x.pc.toNat).2
        omega
       simp only[ret,Xc]
       rw[Ww (by simp;omega)]
       exact fin9 rfl rfl rfl
      ·rw[if_neg h8,if_neg h8]
       by_cases h9:o.1=9
       ·rw[if_pos h9,if_pos h9]
        have hM:=hx.marks h0
        have hz:x.marks.length≠0:=by
         intro hz
         have h1:=congrArg Xa hM.pcs
         simp only[Xaf,hz]at h1
         have h2:=Weg hkc.up j (by omega)
         have h3:=hkc.up j hj
         rw[Wbz hj,Wzk (by rw[←eo];exact h9)]at h3
         rw[ej,Xj]at h1
         omega
        obtain⟨i,q,y,e1,e2',e3',⟨hi,hi8⟩,hjp,hmate,hpe,e5,e6⟩:=Wrp (d:=((0,0,[]):KM)) hkc.toCC (show x.pc.toNat≤code.length by omega) hM.pcs hz
        have hlm:x.marks.length=q.length+1:=by rw[e1];simp
        have hml:x.marks.length≤24:=by
         have:=congrArg Xa (hx.marks h0).pcs
         simp only[Xaf]at this
         have h2:=Weg hkc.up x.pc.toNat (by omega)
         have h3:=(Wij code x.pc.toNat).2
         omega
        have i1:isub .i64 (ilen x.marks) 1=(q.length:Int):=by rw[len_m1 (by omega),hlm];omega
        have g1:Xd x.marks (Xb (q.length:Int)) ((0,0,[]):KM)=y:=by rw[e1];simp
        have t1:Xar (Xb (q.length:Int)) x.marks=x.marks.dropLast:=by rw[e1];simp
        rw[i1,Way,decide_eq_true (show q.length<x.marks.length by omega)]
        have b1:(decide ((0:Int)≤(q.length:Int))&&decide ((q.length:Int)≤(x.marks.length:Int)))=true:=by simp;omega
        rw[b1]
        simp only[cond_true,g1,t1,e2']
        rw[e3',Way,decide_eq_true hi]
        have o1:Xd code (Xb ((i:Nat):Int)) ((0,0,0,0):Opn)=opN code (i:Int):=rfl
        have hr:=ok_8 (hkc.ok i hi).1 hi8
        rw[←Wyc hi]at hr
        simp only[cond_true,o1]
        rw[Wcz hr hrl]
        exact fin9 rfl rfl rfl
       ·rw[if_neg h9,if_neg h9]
        rw[Wrk hN ok (by omega) (by omega) hx.regs]
        exact fin9 rfl rfl rfl
end
end Go.Sx
