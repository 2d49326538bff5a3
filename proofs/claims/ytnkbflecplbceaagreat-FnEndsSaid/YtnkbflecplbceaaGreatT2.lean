/- What each Go function computes, as a Lean function. -/
import Derived.Test.YtnkbflecplbceaaGreatT
open List renaming length→Xa,getD→Xd
open Int renaming toNat→Xb
namespace Go.Sx
noncomputable section
set_option linter.unusedVariables false
def Zio(N:Nat)(w1:Y_World):Option (Unit×(Bool×Unit)):=(bif decide ((ilen w1.2.2.2.2.1)>0)then(some ((),(false,())))else(bif w1.2.1 !=0 then(some ((),(false,())))else((Zjm N w1.2.2.1).bind λo2=>(bif !o2.2.1 then(some ((),(false,())))else(Zcm N w1 (some ((),(false,()))) (λi7 t8=>(Zb8 N w1 (some ((),(false,()))) (λi13 t14=>(some ((),(true,())))) N 0)) N 0)))))
def Znx(N:Nat)(x1:Int×Int×Int):Option (Unit×(Bool×Unit)):=(some ((),(x1.2.2 !=0,())))
def Zg{R:Type}(N:Nat)(s2:List (Int×Int×Int))(K0:Int→Option R)(K1:Int→Bool→Option R):Nat→Int→Option R
  |0,_=>none
  |n+1,t4=>(bif decide (t4<(ilen s2))then(bif inb t4 (Xa s2)then((Znx N (Xd s2 (Xb t4) (0,0,0))).bind λo10=>(bif o10.2.1 then(K0 t4)else(Zg N s2 K0 K1 n (iadd .i64 t4 1))))else none)else(K1 t4 (decide (t4<(ilen s2)))))
def Z2(N:Nat)(s1:List (Int×Int×Int)):Option (Unit×(Int×Unit)):=(Zg N s1 (λt11=>(some ((),(t11,())))) (λt12 t13=>(some ((),((-1:Int),())))) N 0)
def Zaf(N:Nat)(s1:List (Int×Int×Int)):Option (Unit×(Bool×Unit)):=((Z2 N s1).bind λo2=>(some ((),(decide (o2.2.1≥0),()))))
def Zny(N:Nat)(r1:Y_Root):Option (Unit×(Bool×Unit)):=(some ((),(decide ((ilen r1.2.2.2.2.2.2.2.2.2.2.2.2.2.2.2.2.1)>0),())))
def Zh{R:Type}(N:Nat)(s2:List Y_Root)(K0:Int→Option R)(K1:Int→Bool→Option R):Nat→Int→Option R
  |0,_=>none
  |n+1,t4=>(bif decide (t4<(ilen s2))then(bif inb t4 (Xa s2)then((Zny N (Xd s2 (Xb t4) d_Root)).bind λo10=>(bif o10.2.1 then(K0 t4)else(Zh N s2 K0 K1 n (iadd .i64 t4 1))))else none)else(K1 t4 (decide (t4<(ilen s2)))))
def Z3(N:Nat)(s1:List Y_Root):Option (Unit×(Int×Unit)):=(Zh N s1 (λt11=>(some ((),(t11,())))) (λt12 t13=>(some ((),((-1:Int),())))) N 0)
def Zag(N:Nat)(s1:List Y_Root):Option (Unit×(Bool×Unit)):=((Z3 N s1).bind λo2=>(some ((),(decide (o2.2.1≥0),()))))
def Zm2(N:Nat)(w1:Y_World):Option (Unit×(Bool×Unit)):=(bif decide ((ilen w1.2.2.2.2.1)>0)then(some ((),(false,())))else(bif w1.2.1 !=0 then(some ((),(false,())))else((Zch N w1.2.2.1).bind λo2=>(bif !o2.2.1 then(some ((),(false,())))else((Zaf N w1.2.2.1.2).bind λo3=>(bif !o3.2.1 then((Zag N w1.2.2.2.2.2.1).bind λo4=>(some ((),(!o4.2.1,()))))else(some ((),(false,())))))))))
def Zcs{R:Type}(N:Nat)(t2:List Y_Root)(t3:Int)(K0:Int→Bool→(List Int)→Option R):Nat→Int→(List Int)→Option R
  |0,_,_=>none
  |n+1,t4,l5=>(bif decide (t4<t3)then(bif inb t4 (Xa t2)then(bif (Xd t2 (Xb t4) d_Root).1 !=0 then(bif (Xd t2 (Xb t4) d_Root).1 !=8 then(bif room ((Xa l5)+(Xa ([t4])))then(Zcs N t2 t3 K0 n (iadd .i64 t4 1) (List.append l5 ([t4])))else none)else(Zcs N t2 t3 K0 n (iadd .i64 t4 1) l5))else(Zcs N t2 t3 K0 n (iadd .i64 t4 1) l5))else none)else(K0 t4 (decide (t4<t3)) l5))
def Zkx(N:Nat)(w1:Y_World):Option (Unit×((List Int)×Unit)):=(Zcs N w1.2.2.2.2.2.1 (ilen w1.2.2.2.2.2.1) (λt9 t10 l11=>(some ((),(l11,())))) N 0 ([]:List Int))
def Zkt(N:Nat)(code1:List Int):Option (Unit×(Bool×Unit)):=((Zsk N code1).bind λo2=>(bif o2.2.1 then(some ((),(true,())))else((Zj2 N code1).bind λo3=>((Zdm N o3.2.1).bind λo4=>((Zg6 N o3.2.1).bind λo5=>(bif !o5.2.1 then(some ((),((ilen o4.2.1.2.2.2.2.2.1)==0,())))else((Zmx N o4.2.1).bind λo6=>(bif o6.2.1 then(bif (ilen o4.2.1.2.2.2.2.2.1)==(ilen o3.2.1.2.1)then(bif decide (o4.2.2.1≤6000)then((Zio N o4.2.1).bind λo7=>(bif o7.2.1 then((Zm2 N o4.2.1).bind λo8=>(bif o8.2.1 then((Zkx N o4.2.1).bind λo9=>(some ((),((ilen o9.2.1)==0,()))))else(some ((),(false,())))))else(some ((),(false,())))))else(some ((),(false,()))))else(some ((),(false,()))))else(some ((),(false,())))))))))))
end
end Go.Sx
