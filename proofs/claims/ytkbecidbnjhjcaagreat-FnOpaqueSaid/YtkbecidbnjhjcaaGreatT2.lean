/- What each Go function computes, as a Lean function. -/
import Derived.Test.YtkbecidbnjhjcaaGreatT
open List renaming length→Xc,getD→Xb
open Int renaming toNat→Xa
namespace Go.Sx
noncomputable section
set_option linter.unusedVariables false
def Zbq{R:Type}(N:Nat)(n7:Int)(b9:Y_Family)(K0:Int->Bool->Kh->Option R):Nat->Int->Kh->Option R
  |0,_,_=>none
  |n+1,i8,bw=>(bif decide (i8<(Wi (P7 b9)))then(bif decide (i8<n7)then(bif inb i8 (Xc (P7 b9))then(Wu (Xb (P7 b9) (Xa i8) 0) λe9000=>(bif decide (e9000>=0)then(bif decide (e9000<(Wi (Q9 b9)))then(bif inb e9000 (Xc (Q9 b9))then((Zca N (Xb (Q9 b9) (Xa e9000) d_KidRun).2.2.2.2.2.2.2.2.1).bind λaT=>(bif aT.2.1 then(bif inb e9000 (Xc (Q9 b9))then((Zde N bw (Xb (Q9 b9) (Xa e9000) d_KidRun).2.2.2.2.2.2.2.2.1).bind λaj=>(Zbq N n7 b9 K0 n (Wm .i64 i8 1) aj.2.1))else none)else(Zbq N n7 b9 K0 n (Wm .i64 i8 1) bw)))else none)else(Zbq N n7 b9 K0 n (Wm .i64 i8 1) bw))else(Zbq N n7 b9 K0 n (Wm .i64 i8 1) bw)))else none)else(K0 i8 (decide (i8<n7)) bw))else(K0 i8 false bw))
def Zka(N:Nat)(be:List Int)(f2:Y_Family)(n3:Int):Option Ks:=((Zc5 N be).bind λo4=>(bif !o4.2.1 then(some ((),(([]:List Int),())))else((Zca N f2.2.2.2.2.2.1).bind λo5=>(bif !o5.2.1 then(some ((),(([]:List Int),())))else((Zde N be f2.2.2.2.2.2.1).bind λo6=>(Zbq N n3 f2 (λxE ew dM=>(some ((),(dM,())))) N 0 o6.2.1))))))
def Zcy{R:Type}(N:Nat)(cP:List Int)(ae:Int)(aG:Y_Family)(aJ:List Int)(K0:Option R)(K1:Int->Bool->Option R):Nat->Int->Option R
  |0,_=>none
  |n+1,bP=>(bif inb ae (Xc (Q9 aG))then(Wu (Xb (Q9 aG) (Xa ae) d_KidRun) λe9001=>(bif decide (bP<(Wi (P7 e9001)))then(bif inb ae (Xc (Q9 aG))then(bif inb bP (Xc (P7 e9001))then(Wu (Xb (P7 e9001) (Xa bP) (0,0,0)) λe9000=>((Zc6 N e9000.1).bind λaj=>(bif !aj.2.1 then K0 else(bif inb e9000.1 (Xc aJ)then(bif (Xb aJ (Xa e9000.1) 0) !=e9000.2.1 then K0 else(Zcy N cP ae aG aJ K0 K1 n (Wm .i64 bP 1)))else none))))else none)else none)else(K1 bP (decide (bP<(Wi (P7 e9001)))))))else none)
def Zcz{R:Type}(N:Nat)(cq:List Int)(b7:Y_Family)(K0:Option R)(K1:Int->Bool->Option R):Nat->Int->Option R
  |0,_=>none
  |n+1,i6=>(bif decide (i6<(Wi b7.2.2.2.2.2.2.2.2.2))then(bif inb i6 (Xc b7.2.2.2.2.2.2.2.2.2)then((Zka N cq b7 (Xb b7.2.2.2.2.2.2.2.2.2 (Xa i6) d_KidRun).2.2.1).bind λjx=>(Zcy N cq i6 b7 jx.2.1 K0 (λxF nF=>(Zcz N cq b7 K0 K1 n (Wm .i64 i6 1))) N 0))else none)else(K1 i6 (decide (i6<(Wi b7.2.2.2.2.2.2.2.2.2)))))
def Zh6(N:Nat)(be:List Int)(f2:Y_Family):Option Ke:=((Zc5 N be).bind λo3=>(bif !o3.2.1 then(some ((),(false,())))else((Zca N f2.2.2.2.2.2.1).bind λo4=>(bif !o4.2.1 then(some ((),(false,())))else(Zcz N be f2 (some ((),(false,()))) (λmg iZ=>(some ((),(true,())))) N 0)))))
def Zdr{R:Type}(N:Nat)(ae:Int)(aG:Kf×List Km×List Kb)(ac:Y_World)(aO:List Int)(K0:Option R)(K1:Int->Bool->Option R):Nat->Int->Option R
  |0,_=>none
  |n+1,bP=>(Wu (Xb (P5 ac) (Xa ae) d_Root) λe9000=>(bif decide (bP<(Wi (P13 e9000)))then(bif inb bP (Xc (P13 e9000))then(Wu (Xb (P13 e9000) (Xa bP) (0,0)) λe9001=>(bif inb e9001.1 (Xc aO)then(bif inb bP (Xc (P13 e9000))then(bif (Xb aO (Xa e9001.1) 0) !=e9001.2 then K0 else(Zdr N ae aG ac aO K0 K1 n (Wm .i64 bP 1)))else none)else none))else none)else(K1 bP (decide (bP<(Wi (P13 e9000)))))))
def Zds{R:Type}(N:Nat)(b6:Kf×List Km×List Kb)(b7:Y_World)(K0:Option R)(K1:Int->Bool->Option R):Nat->Int->Option R
  |0,_=>none
  |n+1,i5=>(bif decide (i5<(Wi (P5 b7)))then(bif inb i5 (Xc (P5 b7))then((Zca N (Xb (P5 b7) (Xa i5) d_Root).2.2.2.2.2.2.2.2.2.2.2.2.2.1).bind λkA=>(bif !kA.2.1 then K0 else((Ze4 N b6.1.1 (Q6 b7) (Xb (P5 b7) (Xa i5) d_Root).2.2.2.2.1).bind λjV=>(Zdr N i5 b6 b7 jV.2.1 K0 (λk26 kC=>((Ze4 N b6.1.1 (Q6 b7) (Xb (P5 b7) (Xa i5) d_Root).2.2.2.2.2.2.2.2.2.2.2.2.2.2.2.2.2.2.2.2.2.1).bind λjy=>((Zh6 N jy.2.1 (Xb (P5 b7) (Xa i5) d_Root).2.2.2.2.2.2.2.2.2.2.2.2.2.2.2.2.2.2.2.2.2).bind λjW=>(bif !jW.2.1 then K0 else(Zds N b6 b7 K0 K1 n (Wm .i64 i5 1)))))) N 0))))else none)else(K1 i5 (decide (i5<(Wi (P5 b7))))))
def Zhp(N:Nat)(s1:Kf×List Km×List Kb)(w2:Y_World):Option Ke:=((Zfk N s1.1).bind λo3=>(bif !o3.2.1 then(some ((),(false,())))else((Zgc N w2.2.2.2.2.2.2).bind λo4=>(bif !o4.2.1 then(some ((),(false,())))else(Zds N s1 w2 (some ((),(false,()))) (λv7 rJ=>(some ((),(true,())))) N 0)))))
def Zon(N:Nat)(x1:Int×Int×List Kc)(a2:Int×Int×List Kc):Option ((Kn×Unit)×Ko):=(some ((a2,()),(x1.1==a2.1,())))
def Zk{R:Type}(N:Nat)(s3:List Kn)(K0:Int->Kn->Option R)(K1:Int->Bool->Kn->Option R):Nat->Int->Kn->Option R
  |0,_,_=>none
  |n+1,t5,b6=>(bif decide (t5<(Wi s3))then(bif inb t5 (Xc s3)then((Zon N (Xb s3 (Xa t5) (0,(0,([]:List Kc)))) b6).bind λde=>(bif de.2.1 then(K0 t5 de.1.1)else(Zk N s3 K0 K1 n (Wm .i64 t5 1) de.1.1)))else none)else(K1 t5 (decide (t5<(Wi s3))) b6))
def Zv(N:Nat)(s1:List Kn)(ck:Int×Int×List Kc):Option ((Kn×Unit)×Ki):=(Zk N s1 (λaX aZ=>(some ((aZ,()),(aX,())))) (λbV eI bu=>(some ((bu,()),((-1:Int),())))) N 0 ck)
def Z5(N:Nat)(s1:List Kn)(ck:Int×Int×List Kc):Option ((Kn×Unit)×Ko):=((Zv N s1 ck).bind λo3=>(some ((o3.1.1,()),(decide (o3.2.1>=0),()))))
def Zdt{R:Type}(N:Nat)(l2:List Kn)(K0:Option R)(K1:Int->Bool->Option R):Nat->Int->Option R
  |0,_=>none
  |n+1,t5=>(bif decide (t5<(Wi l2))then(bif inb t5 (Xc l2)then((Zl N (Xb l2 (Xa t5) (0,(0,([]:List Kc)))).1 1 1000000).bind λfC=>(bif !fC.2.1 then K0 else((Zdb N (Xb l2 (Xa t5) (0,(0,([]:List Kc)))).2.1).bind λky=>(bif !ky.2.1 then K0 else((Za2 N (Xb l2 (Xa t5) (0,(0,([]:List Kc)))).2.2).bind λgq=>(bif !gq.2.1 then K0 else(bif (decide ((0:Int)<=t5))&&(decide (t5<=((Xc l2):Int)))then((Z5 N (List.take (Xa t5) l2) (Xb l2 (Xa t5) (0,(0,([]:List Kc))))).bind λfA=>(bif fA.2.1 then K0 else(Zdt N l2 K0 K1 n (Wm .i64 t5 1))))else none)))))))else none)else(K1 t5 (decide (t5<(Wi l2)))))
def Zhq(N:Nat)(l1:List Kn):Option Ke:=(Zdt N l1 (some ((),(false,()))) (λfJ fB=>(some ((),(decide ((Wi l1)<=200),())))) N 0)
def Zc0{R:Type}(N:Nat)(t6:List Kc)(K0:Int->Bool->Kh->Option R):Nat->Int->Kh->Option R
  |0,_,_=>none
  |n+1,t8,l9=>(bif decide (t8<(Wi t6))then(bif inb t8 (Xc t6)then(bif inb (Xb t6 (Xa t8) (0,0)).1 (Xc l9)then(Zc0 N t6 K0 n (Wm .i64 t8 1) (List.set l9 (Xa (Xb t6 (Xa t8) (0,0)).1) (Xb t6 (Xa t8) (0,0)).2))else none)else none)else(K0 t8 (decide (t8<(Wi t6))) l9))
def Zdf(N:Nat)(aH:List Int)(l2:List Kc):Option Ks:=((Z7 N aH 8).bind λo3=>(bif !o3.2.1 then(some ((),(([]:List Int),())))else((Za2 N l2).bind λo4=>(bif !o4.2.1 then(some ((),(([]:List Int),())))else((Zp N aH).bind λo5=>(Zc0 N l2 (λaF au aO=>(some ((),(aO,())))) N 0 o5.2.1))))))
def Zbr{R:Type}(N:Nat)(n7:Int)(t8:List Int)(aR:Y_Family)(K0:Int->Bool->Kh->Option R):Nat->Int->Kh->Option R
  |0,_,_=>none
  |n+1,aw,aK=>(bif decide (aw<(Wi (P7 aR)))then(bif inb aw (Xc t8)then(bif decide (aw<n7)then(Wu (Xb t8 (Xa aw) 0) λe9000=>((Zl N e9000 0 (W1 .i64 (Wi (Q9 aR)) 1)).bind λbA=>(bif bA.2.1 then(bif inb e9000 (Xc (Q9 aR))then((Za2 N (Xb (Q9 aR) (Xa e9000) d_KidRun).2.2.2.2.2.2.2.2.1).bind λaT=>(bif aT.2.1 then(bif inb e9000 (Xc (Q9 aR))then((Zdf N aK (Xb (Q9 aR) (Xa e9000) d_KidRun).2.2.2.2.2.2.2.2.1).bind λaj=>(Zbr N n7 t8 aR K0 n (Wm .i64 aw 1) aj.2.1))else none)else(Zbr N n7 t8 aR K0 n (Wm .i64 aw 1) aK)))else none)else(Zbr N n7 t8 aR K0 n (Wm .i64 aw 1) aK))))else(Zbr N n7 t8 aR K0 n (Wm .i64 aw 1) aK))else none)else(K0 aw (decide (aw<(Wi (P7 aR)))) aK))
def Zg8(N:Nat)(be:List Int)(f2:Y_Family)(n3:Int):Option Ks:=((Z7 N be 8).bind λo4=>(bif !o4.2.1 then(some ((),(([]:List Int),())))else((Za2 N f2.2.2.2.2.2.1).bind λo5=>(bif !o5.2.1 then(some ((),(([]:List Int),())))else((Zdf N be f2.2.2.2.2.2.1).bind λo6=>(Zbr N n3 f2.2.2.2.2.2.2.2.1 f2 (λt25 iZ cY=>(some ((),(cY,())))) N 0 o6.2.1))))))
def Zc1{R:Type}(N:Nat)(bU:List Int)(ay:List Y_KidRun)(ai:Int)(aF:Int)(au:List Kb)(bZ:Y_Family)(bW:List Int)(K0:Option R)(K1:Int->Bool->Option R):Nat->Int->Option R
  |0,_=>none
  |n+1,cJ=>(bif decide (cJ<(Wi (Xb ay (Xa aF) d_KidRun).2.2.2.2.2.2.2.1))then(bif inb cJ (Xc au)then(Wu (Xb au (Xa cJ) (0,0,0)) λe9000=>((Zay N e9000.1).bind λaj=>(bif !aj.2.1 then K0 else(bif inb e9000.1 (Xc bW)then(bif (Xb bW (Xa e9000.1) 0) !=e9000.2.1 then K0 else(Zc1 N bU ay ai aF au bZ bW K0 K1 n (Wm .i64 cJ 1)))else none))))else none)else(K1 cJ (decide (cJ<(Wi (Xb ay (Xa aF) d_KidRun).2.2.2.2.2.2.2.1)))))
def Zc2{R:Type}(N:Nat)(cr:List Int)(t5:List Y_KidRun)(b8:Y_Family)(K0:Option R)(K1:Int->Bool->Option R):Nat->Int->Option R
  |0,_=>none
  |n+1,t7=>(bif decide (t7<(Wi (Q9 b8)))then(bif inb t7 (Xc t5)then((Zg8 N cr b8 (Xb t5 (Xa t7) d_KidRun).2.2.1).bind λjz=>(Zc1 N cr t5 (Wi (Q9 b8)) t7 (Xb t5 (Xa t7) d_KidRun).2.2.2.2.2.2.2.1 b8 jz.2.1 K0 (λt32 rI=>(Zc2 N cr t5 b8 K0 K1 n (Wm .i64 t7 1))) N 0))else none)else(K1 t7 (decide (t7<(Wi (Q9 b8))))))
def Zh7(N:Nat)(be:List Int)(f2:Y_Family):Option Ke:=((Zg8 N be f2 0).bind λo3=>(bif Nat.blt 0 (Xc o3.2.1)then(Zc2 N be f2.2.2.2.2.2.2.2.2.2 f2 (some ((),(false,()))) (λrL mh=>(some ((),(true,())))) N 0)else none))
def Zck{R:Type}(N:Nat)(t2:List Kn)(K0:Int->Bool->(List Kn)->Option R):Nat->Int->(List Kn)->Option R
  |0,_,_=>none
  |n+1,t4,l5=>(bif decide (t4<(Wi t2))then(bif inb t4 (Xc t2)then((Za1 N (Xb t2 (Xa t4) (0,(0,([]:List Kc)))).2.2).bind λfX=>(bif WH ((Xc l5)+(Xc ([((Xb t2 (Xa t4) ((0:Int),((0:Int),([]:List Kc)))).1,((Xb t2 (Xa t4) ((0:Int),((0:Int),([]:List Kc)))).2.1,fX.2.1))])))then(Zck N t2 K0 n (Wm .i64 t4 1) (List.append l5 ([((Xb t2 (Xa t4) (0,(0,([]:List Kc)))).1,((Xb t2 (Xa t4) (0,(0,([]:List Kc)))).2.1,fX.2.1))])))else none))else none)else(K0 t4 (decide (t4<(Wi t2))) l5))
def Zhe(N:Nat)(l1:List Kn):Option (Unit×((List Kn)×Unit)):=(Zck N l1 (λai aF bj=>(some ((),(bj,())))) N 0 ([]:List Kn))
def Zax(N:Nat)(x1:List Kn):Option (((List Kn)×Unit)×Unit):=Zmi WvQ cfW N x1
def Zb8{R:Type}(N:Nat)(n9:Int)(aw:Int)(aJ:List Kn)(K0:Int->Bool->Kh->Option R):Nat->Int->Kh->Option R
  |0,_,_=>none
  |n+1,ay,aK=>(bif decide (ay<aw)then(bif inb ay (Xc aJ)then(bif decide ((Xb aJ (Xa ay) (0,(0,([]:List Kc)))).1<=n9)then((Zdf N aK (Xb aJ (Xa ay) (0,(0,([]:List Kc)))).2.2).bind λgq=>(Zb8 N n9 aw aJ K0 n (Wm .i64 ay 1) gq.2.1))else(Zb8 N n9 aw aJ K0 n (Wm .i64 ay 1) aK))else none)else(K0 ay (decide (ay<aw)) aK))
def Zgs(N:Nat)(aH:List Int)(l2:List Kn)(n3:Int):Option Ks:=((Z7 N aH 8).bind λo4=>(bif !o4.2.1 then(some ((),(([]:List Int),())))else((Zhq N l2).bind λo5=>(bif !o5.2.1 then(some ((),(([]:List Int),())))else((Zhe N l2).bind λo6=>((Zax N o6.2.1).bind λo7=>((Zp N aH).bind λo8=>(Zb8 N n3 (Wi o7.1.1) o7.1.1 (λew fJ bz=>(some ((),(bz,())))) N 0 o8.2.1))))))))
def Zdu{R:Type}(N:Nat)(ai:List Y_Root)(aF:Int)(au:Int)(aX:List Kc)(bM:Kf×List Km×List Kb)(bu:Y_World)(bz:List Int)(K0:Option R)(K1:Int->Bool->Option R):Nat->Int->Option R
  |0,_=>none
  |n+1,bV=>(bif decide (bV<(Wi (Xb ai (Xa au) d_Root).2.2.2.2.2.2.2.2.2.2.2.2.2.1))then(bif inb bV (Xc aX)then(Wu (Xb aX (Xa bV) (0,0)) λe9000=>(bif inb e9000.1 (Xc bz)then(bif (Xb bz (Xa e9000.1) 0) !=e9000.2 then K0 else(Zdu N ai aF au aX bM bu bz K0 K1 n (Wm .i64 bV 1)))else none))else none)else(K1 bV (decide (bV<(Wi (Xb ai (Xa au) d_Root).2.2.2.2.2.2.2.2.2.2.2.2.2.1)))))
def Zdv{R:Type}(N:Nat)(t5:List Y_Root)(b8:Kf×List Km×List Kb)(b9:Y_World)(K0:Option R)(K1:Int->Bool->Option R):Nat->Int->Option R
  |0,_=>none
  |n+1,t7=>(bif decide (t7<(Wi (P5 b9)))then(bif inb t7 (Xc t5)then((Za2 N (Xb t5 (Xa t7) d_Root).2.2.2.2.2.2.2.2.2.2.2.2.2.1).bind λil=>(bif !il.2.1 then K0 else((Zgs N b8.1.1 (Q6 b9) (Xb t5 (Xa t7) d_Root).2.2.2.2.1).bind λim=>(Zdu N t5 (Wi (P5 b9)) t7 (Xb t5 (Xa t7) d_Root).2.2.2.2.2.2.2.2.2.2.2.2.2.1 b8 b9 im.2.1 K0 (λt38 t39=>((Zgs N b8.1.1 (Q6 b9) (Xb t5 (Xa t7) d_Root).2.2.2.2.2.2.2.2.2.2.2.2.2.2.2.2.2.2.2.2.2.1).bind λmb=>((Zh7 N mb.2.1 (Xb t5 (Xa t7) d_Root).2.2.2.2.2.2.2.2.2.2.2.2.2.2.2.2.2.2.2.2.2).bind λmc=>(bif !mc.2.1 then K0 else(Zdv N t5 b8 b9 K0 K1 n (Wm .i64 t7 1)))))) N 0))))else none)else(K1 t7 (decide (t7<(Wi (P5 b9))))))
def Zhr(N:Nat)(s1:Kf×List Km×List Kb)(w2:Y_World):Option Ke:=((Zi8 N s1.1).bind λo3=>(bif !o3.2.1 then(some ((),(false,())))else((Zhq N w2.2.2.2.2.2.2).bind λo4=>(bif !o4.2.1 then(some ((),(false,())))else(Zdv N w2.2.2.2.2.2.1 s1 w2 (some ((),(false,()))) (λt42 t43=>(some ((),(true,())))) N 0)))))
def Zcl{R:Type}(N:Nat)(ae:Int)(aG:Kf×List Km×List Kb)(ac:Y_World)(aO:List Int)(K0:Option R)(K1:Int->Bool->Option R):Nat->Int->Option R
  |0,_=>none
  |n+1,bP=>(Wu (Xb (P5 ac) (Xa ae) d_Root) λe9001=>(bif decide (bP<(Wi (P13 e9001)))then(bif inb bP (Xc (P13 e9001))then(Wu (Xb (P13 e9001) (Xa bP) (0,0)) λe9000=>(bif decide (e9000.1<0)then K0 else(bif inb bP (Xc (P13 e9001))then(bif decide (e9000.1>=(Wi aO))then K0 else(bif inb bP (Xc (P13 e9001))then(bif inb e9000.1 (Xc aO)then(bif inb bP (Xc (P13 e9001))then(bif (Xb aO (Xa e9000.1) 0) !=e9000.2 then K0 else(Zcl N ae aG ac aO K0 K1 n (Wm .i64 bP 1)))else none)else none)else none))else none)))else none)else(K1 bP (decide (bP<(Wi (P13 e9001)))))))
def Zcm{R:Type}(N:Nat)(b7:Kf×List Km×List Kb)(b8:Y_World)(K0:Option R)(K1:Int->Bool->Option R):Nat->Int->Option R
  |0,_=>none
  |n+1,i6=>(bif decide (i6<(Wi (P5 b8)))then(bif inb i6 (Xc (P5 b8))then((Ze4 N b7.1.1 (Q6 b8) (Xb (P5 b8) (Xa i6) d_Root).2.2.2.2.1).bind λjx=>(Zcl N i6 b7 b8 jx.2.1 K0 (λxF nF=>(Zcm N b7 b8 K0 K1 n (Wm .i64 i6 1))) N 0))else none)else(K1 i6 (decide (i6<(Wi (P5 b8))))))
def Zfm(N:Nat)(ad:List Int):Option Ke:=((Ztr N ad).bind λo2=>(bif o2.2.1 then(some ((),(true,())))else((Zlv N ad).bind λo3=>((Zh5 N o3.2.1).bind λo4=>((Zhd N o3.2.1).bind λo5=>(bif !o5.2.1 then(some ((),((Wi o4.2.1.2.2.2.2.2.1)==0,())))else(Zcm N o3.2.1 o4.2.1 (some ((),(false,()))) (λmg iZ=>(bif (Wi o4.2.1.2.2.2.2.2.1)==(Wi o3.2.1.2.1)then((Zhp N o3.2.1 o4.2.1).bind λoq=>(bif oq.2.1 then((Zhr N o3.2.1 o4.2.1).bind λjy=>(some ((),(jy.2.1,()))))else(some ((),(false,())))))else(some ((),(false,()))))) N 0)))))))
end
end Go.Sx
