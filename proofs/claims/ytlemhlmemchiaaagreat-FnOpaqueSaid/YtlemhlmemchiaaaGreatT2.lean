/- What each Go function computes, as a Lean function. -/
import Derived.Test.YtlemhlmemchiaaaGreatT
open List renaming length→Xc,getD→Xb
open Int renaming toNat→Xa
namespace Go.Sx
noncomputable section
set_option linter.unusedVariables false
def Zbu{R:Type}(N:Nat)(n7:Int)(b9:Y_Family)(K0:Int->Bool->Kh->Option R):Nat->Int->Kh->Option R
  |0,_,_=>none
  |n+1,i8,bz=>(bif decide (i8<(Wb (P7 b9)))then(bif decide (i8<n7)then(bif inb i8 (Xc (P7 b9))then(Wl (Xb (P7 b9) (Xa i8) 0) λe9000=>(bif decide (e9000>=0)then(bif decide (e9000<(Wb (Q9 b9)))then(bif inb e9000 (Xc (Q9 b9))then((Zcd N (Xb (Q9 b9) (Xa e9000) d_KidRun).2.2.2.2.2.2.2.2.1).bind λaU=>(bif aU.2.1 then(bif inb e9000 (Xc (Q9 b9))then((Zdg N bz (Xb (Q9 b9) (Xa e9000) d_KidRun).2.2.2.2.2.2.2.2.1).bind λaj=>(Zbu N n7 b9 K0 n (We .i64 i8 1) aj.2.1))else none)else(Zbu N n7 b9 K0 n (We .i64 i8 1) bz)))else none)else(Zbu N n7 b9 K0 n (We .i64 i8 1) bz))else(Zbu N n7 b9 K0 n (We .i64 i8 1) bz)))else none)else(K0 i8 (decide (i8<n7)) bz))else(K0 i8 false bz))
def Zkb(N:Nat)(bg:List Int)(f2:Y_Family)(n3:Int):Option Ks:=((Zc8 N bg).bind λo4=>(bif !o4.2.1 then(some ((),(([]:List Int),())))else((Zcd N f2.2.2.2.2.2.1).bind λo5=>(bif !o5.2.1 then(some ((),(([]:List Int),())))else((Zdg N bg f2.2.2.2.2.2.1).bind λo6=>(Zbu N n3 f2 (λxF eG dT=>(some ((),(dT,())))) N 0 o6.2.1))))))
def Zc1{R:Type}(N:Nat)(cT:List Int)(ae:Int)(aH:Y_Family)(aJ:List Int)(K0:Option R)(K1:Int->Bool->Option R):Nat->Int->Option R
  |0,_=>none
  |n+1,bT=>(bif inb ae (Xc (Q9 aH))then(Wl (Xb (Q9 aH) (Xa ae) d_KidRun) λe9001=>(bif decide (bT<(Wb (P7 e9001)))then(bif inb ae (Xc (Q9 aH))then(bif inb bT (Xc (P7 e9001))then(Wl (Xb (P7 e9001) (Xa bT) (0,0,0)) λe9000=>((Zcc N e9000.1).bind λaj=>(bif !aj.2.1 then K0 else(bif inb e9000.1 (Xc aJ)then(bif (Xb aJ (Xa e9000.1) 0) !=e9000.2.1 then K0 else(Zc1 N cT ae aH aJ K0 K1 n (We .i64 bT 1)))else none))))else none)else none)else(K1 bT (decide (bT<(Wb (P7 e9001)))))))else none)
def Zc2{R:Type}(N:Nat)(cw:List Int)(b7:Y_Family)(K0:Option R)(K1:Int->Bool->Option R):Nat->Int->Option R
  |0,_=>none
  |n+1,i6=>(bif decide (i6<(Wb b7.2.2.2.2.2.2.2.2.2))then(bif inb i6 (Xc b7.2.2.2.2.2.2.2.2.2)then((Zkb N cw b7 (Xb b7.2.2.2.2.2.2.2.2.2 (Xa i6) d_KidRun).2.2.1).bind λjz=>(Zc1 N cw i6 b7 jz.2.1 K0 (λxG nP=>(Zc2 N cw b7 K0 K1 n (We .i64 i6 1))) N 0))else none)else(K1 i6 (decide (i6<(Wb b7.2.2.2.2.2.2.2.2.2)))))
def Zh7(N:Nat)(bg:List Int)(f2:Y_Family):Option Ke:=((Zc8 N bg).bind λo3=>(bif !o3.2.1 then(some ((),(false,())))else((Zcd N f2.2.2.2.2.2.1).bind λo4=>(bif !o4.2.1 then(some ((),(false,())))else(Zc2 N bg f2 (some ((),(false,()))) (λmx jb=>(some ((),(true,())))) N 0)))))
def Zdt{R:Type}(N:Nat)(ae:Int)(aH:Kf×List Km×List Kb)(ac:Y_World)(aR:List Int)(K0:Option R)(K1:Int->Bool->Option R):Nat->Int->Option R
  |0,_=>none
  |n+1,bT=>(Wl (Xb (P5 ac) (Xa ae) d_Root) λe9000=>(bif decide (bT<(Wb (P13 e9000)))then(bif inb bT (Xc (P13 e9000))then(Wl (Xb (P13 e9000) (Xa bT) (0,0)) λe9001=>(bif inb e9001.1 (Xc aR)then(bif inb bT (Xc (P13 e9000))then(bif (Xb aR (Xa e9001.1) 0) !=e9001.2 then K0 else(Zdt N ae aH ac aR K0 K1 n (We .i64 bT 1)))else none)else none))else none)else(K1 bT (decide (bT<(Wb (P13 e9000)))))))
def Zdu{R:Type}(N:Nat)(b6:Kf×List Km×List Kb)(b7:Y_World)(K0:Option R)(K1:Int->Bool->Option R):Nat->Int->Option R
  |0,_=>none
  |n+1,i5=>(bif decide (i5<(Wb (P5 b7)))then(bif inb i5 (Xc (P5 b7))then((Zcd N (Xb (P5 b7) (Xa i5) d_Root).2.2.2.2.2.2.2.2.2.2.2.2.2.1).bind λkG=>(bif !kG.2.1 then K0 else((Ze6 N b6.1.1 (Q6 b7) (Xb (P5 b7) (Xa i5) d_Root).2.2.2.2.1).bind λjY=>(Zdt N i5 b6 b7 jY.2.1 K0 (λk26 kI=>((Ze6 N b6.1.1 (Q6 b7) (Xb (P5 b7) (Xa i5) d_Root).2.2.2.2.2.2.2.2.2.2.2.2.2.2.2.2.2.2.2.2.2.1).bind λjA=>((Zh7 N jA.2.1 (Xb (P5 b7) (Xa i5) d_Root).2.2.2.2.2.2.2.2.2.2.2.2.2.2.2.2.2.2.2.2.2).bind λjZ=>(bif !jZ.2.1 then K0 else(Zdu N b6 b7 K0 K1 n (We .i64 i5 1)))))) N 0))))else none)else(K1 i5 (decide (i5<(Wb (P5 b7))))))
def Zhr(N:Nat)(s1:Kf×List Km×List Kb)(w2:Y_World):Option Ke:=((Zfm N s1.1).bind λo3=>(bif !o3.2.1 then(some ((),(false,())))else((Zge N w2.2.2.2.2.2.2).bind λo4=>(bif !o4.2.1 then(some ((),(false,())))else(Zdu N s1 w2 (some ((),(false,()))) (λvZ rS=>(some ((),(true,())))) N 0)))))
def Zon(N:Nat)(x1:Int×Int×List Kc)(a2:Int×Int×List Kc):Option ((Kn×Unit)×Ko):=(some ((a2,()),(x1.1==a2.1,())))
def Zk{R:Type}(N:Nat)(s3:List Kn)(K0:Int->Kn->Option R)(K1:Int->Bool->Kn->Option R):Nat->Int->Kn->Option R
  |0,_,_=>none
  |n+1,t5,b6=>(bif decide (t5<(Wb s3))then(bif inb t5 (Xc s3)then((Zon N (Xb s3 (Xa t5) (0,(0,([]:List Kc)))) b6).bind λdp=>(bif dp.2.1 then(K0 t5 dp.1.1)else(Zk N s3 K0 K1 n (We .i64 t5 1) dp.1.1)))else none)else(K1 t5 (decide (t5<(Wb s3))) b6))
def Zz(N:Nat)(s1:List Kn)(cp:Int×Int×List Kc):Option ((Kn×Unit)×Ki):=(Zk N s1 (λaY bc=>(some ((bc,()),(aY,())))) (λcd eV bv=>(some ((bv,()),((-1:Int),())))) N 0 cp)
def Z9(N:Nat)(s1:List Kn)(cp:Int×Int×List Kc):Option ((Kn×Unit)×Ko):=((Zz N s1 cp).bind λo3=>(some ((o3.1.1,()),(decide (o3.2.1>=0),()))))
def Zdv{R:Type}(N:Nat)(l2:List Kn)(K0:Option R)(K1:Int->Bool->Option R):Nat->Int->Option R
  |0,_=>none
  |n+1,t5=>(bif decide (t5<(Wb l2))then(bif inb t5 (Xc l2)then((Zl N (Xb l2 (Xa t5) (0,(0,([]:List Kc)))).1 1 1000000).bind λfR=>(bif !fR.2.1 then K0 else((Zdd N (Xb l2 (Xa t5) (0,(0,([]:List Kc)))).2.1).bind λkE=>(bif !kE.2.1 then K0 else((Za7 N (Xb l2 (Xa t5) (0,(0,([]:List Kc)))).2.2).bind λgD=>(bif !gD.2.1 then K0 else(bif (decide ((0:Int)<=t5))&&(decide (t5<=((Xc l2):Int)))then((Z9 N (List.take (Xa t5) l2) (Xb l2 (Xa t5) (0,(0,([]:List Kc))))).bind λfN=>(bif fN.2.1 then K0 else(Zdv N l2 K0 K1 n (We .i64 t5 1))))else none)))))))else none)else(K1 t5 (decide (t5<(Wb l2)))))
def Zhs(N:Nat)(l1:List Kn):Option Ke:=(Zdv N l1 (some ((),(false,()))) (λfY fO=>(some ((),(decide ((Wb l1)<=200),())))) N 0)
def Zc3{R:Type}(N:Nat)(t6:List Kc)(K0:Int->Bool->Kh->Option R):Nat->Int->Kh->Option R
  |0,_,_=>none
  |n+1,t8,l9=>(bif decide (t8<(Wb t6))then(bif inb t8 (Xc t6)then(bif inb (Xb t6 (Xa t8) (0,0)).1 (Xc l9)then(Zc3 N t6 K0 n (We .i64 t8 1) (List.set l9 (Xa (Xb t6 (Xa t8) (0,0)).1) (Xb t6 (Xa t8) (0,0)).2))else none)else none)else(K0 t8 (decide (t8<(Wb t6))) l9))
def Zdh(N:Nat)(aI:List Int)(l2:List Kc):Option Ks:=((Zab N aI 8).bind λo3=>(bif !o3.2.1 then(some ((),(([]:List Int),())))else((Za7 N l2).bind λo4=>(bif !o4.2.1 then(some ((),(([]:List Int),())))else((Zr N aI).bind λo5=>(Zc3 N l2 (λaG au aR=>(some ((),(aR,())))) N 0 o5.2.1))))))
def Zbv{R:Type}(N:Nat)(n7:Int)(t8:List Int)(aO:Y_Family)(K0:Int->Bool->Kh->Option R):Nat->Int->Kh->Option R
  |0,_,_=>none
  |n+1,aw,aK=>(bif decide (aw<(Wb (P7 aO)))then(bif inb aw (Xc t8)then(bif decide (aw<n7)then(Wl (Xb t8 (Xa aw) 0) λe9000=>((Zl N e9000 0 (WW .i64 (Wb (Q9 aO)) 1)).bind λbC=>(bif bC.2.1 then(bif inb e9000 (Xc (Q9 aO))then((Za7 N (Xb (Q9 aO) (Xa e9000) d_KidRun).2.2.2.2.2.2.2.2.1).bind λaU=>(bif aU.2.1 then(bif inb e9000 (Xc (Q9 aO))then((Zdh N aK (Xb (Q9 aO) (Xa e9000) d_KidRun).2.2.2.2.2.2.2.2.1).bind λaj=>(Zbv N n7 t8 aO K0 n (We .i64 aw 1) aj.2.1))else none)else(Zbv N n7 t8 aO K0 n (We .i64 aw 1) aK)))else none)else(Zbv N n7 t8 aO K0 n (We .i64 aw 1) aK))))else(Zbv N n7 t8 aO K0 n (We .i64 aw 1) aK))else none)else(K0 aw (decide (aw<(Wb (P7 aO)))) aK))
def Zha(N:Nat)(bg:List Int)(f2:Y_Family)(n3:Int):Option Ks:=((Zab N bg 8).bind λo4=>(bif !o4.2.1 then(some ((),(([]:List Int),())))else((Za7 N f2.2.2.2.2.2.1).bind λo5=>(bif !o5.2.1 then(some ((),(([]:List Int),())))else((Zdh N bg f2.2.2.2.2.2.1).bind λo6=>(Zbv N n3 f2.2.2.2.2.2.2.2.1 f2 (λt25 jb c9=>(some ((),(c9,())))) N 0 o6.2.1))))))
def Zc4{R:Type}(N:Nat)(bY:List Int)(ay:List Y_KidRun)(ai:Int)(aG:Int)(au:List Kb)(cg:Y_Family)(ce:List Int)(K0:Option R)(K1:Int->Bool->Option R):Nat->Int->Option R
  |0,_=>none
  |n+1,cL=>(bif decide (cL<(Wb (Xb ay (Xa aG) d_KidRun).2.2.2.2.2.2.2.1))then(bif inb cL (Xc au)then(Wl (Xb au (Xa cL) (0,0,0)) λe9000=>((Zau N e9000.1).bind λaj=>(bif !aj.2.1 then K0 else(bif inb e9000.1 (Xc ce)then(bif (Xb ce (Xa e9000.1) 0) !=e9000.2.1 then K0 else(Zc4 N bY ay ai aG au cg ce K0 K1 n (We .i64 cL 1)))else none))))else none)else(K1 cL (decide (cL<(Wb (Xb ay (Xa aG) d_KidRun).2.2.2.2.2.2.2.1)))))
def Zc5{R:Type}(N:Nat)(cx:List Int)(t5:List Y_KidRun)(b8:Y_Family)(K0:Option R)(K1:Int->Bool->Option R):Nat->Int->Option R
  |0,_=>none
  |n+1,t7=>(bif decide (t7<(Wb (Q9 b8)))then(bif inb t7 (Xc t5)then((Zha N cx b8 (Xb t5 (Xa t7) d_KidRun).2.2.1).bind λjB=>(Zc4 N cx t5 (Wb (Q9 b8)) t7 (Xb t5 (Xa t7) d_KidRun).2.2.2.2.2.2.2.1 b8 jB.2.1 K0 (λt32 rR=>(Zc5 N cx t5 b8 K0 K1 n (We .i64 t7 1))) N 0))else none)else(K1 t7 (decide (t7<(Wb (Q9 b8))))))
def Zh8(N:Nat)(bg:List Int)(f2:Y_Family):Option Ke:=((Zha N bg f2 0).bind λo3=>(bif Nat.blt 0 (Xc o3.2.1)then(Zc5 N bg f2.2.2.2.2.2.2.2.2.2 f2 (some ((),(false,()))) (λrU my=>(some ((),(true,())))) N 0)else none))
def Zcn{R:Type}(N:Nat)(t2:List Kn)(K0:Int->Bool->(List Kn)->Option R):Nat->Int->(List Kn)->Option R
  |0,_,_=>none
  |n+1,t4,l5=>(bif decide (t4<(Wb t2))then(bif inb t4 (Xc t2)then((Za6 N (Xb t2 (Xa t4) (0,(0,([]:List Kc)))).2.2).bind λgl=>(bif WA ((Xc l5)+(Xc ([((Xb t2 (Xa t4) ((0:Int),((0:Int),([]:List Kc)))).1,((Xb t2 (Xa t4) ((0:Int),((0:Int),([]:List Kc)))).2.1,gl.2.1))])))then(Zcn N t2 K0 n (We .i64 t4 1) (List.append l5 ([((Xb t2 (Xa t4) (0,(0,([]:List Kc)))).1,((Xb t2 (Xa t4) (0,(0,([]:List Kc)))).2.1,gl.2.1))])))else none))else none)else(K0 t4 (decide (t4<(Wb t2))) l5))
def Zhg(N:Nat)(l1:List Kn):Option (Unit×((List Kn)×Unit)):=(Zcn N l1 (λai aG bn=>(some ((),(bn,())))) N 0 ([]:List Kn))
def Za2(N:Nat)(x1:List Kn):Option (((List Kn)×Unit)×Unit):=Zmi Wv4 cfW N x1
def Zca{R:Type}(N:Nat)(n9:Int)(aw:Int)(aJ:List Kn)(K0:Int->Bool->Kh->Option R):Nat->Int->Kh->Option R
  |0,_,_=>none
  |n+1,ay,aK=>(bif decide (ay<aw)then(bif inb ay (Xc aJ)then(bif decide ((Xb aJ (Xa ay) (0,(0,([]:List Kc)))).1<=n9)then((Zdh N aK (Xb aJ (Xa ay) (0,(0,([]:List Kc)))).2.2).bind λgD=>(Zca N n9 aw aJ K0 n (We .i64 ay 1) gD.2.1))else(Zca N n9 aw aJ K0 n (We .i64 ay 1) aK))else none)else(K0 ay (decide (ay<aw)) aK))
def Zgu(N:Nat)(aI:List Int)(l2:List Kn)(n3:Int):Option Ks:=((Zab N aI 8).bind λo4=>(bif !o4.2.1 then(some ((),(([]:List Int),())))else((Zhs N l2).bind λo5=>(bif !o5.2.1 then(some ((),(([]:List Int),())))else((Zhg N l2).bind λo6=>((Za2 N o6.2.1).bind λo7=>((Zr N aI).bind λo8=>(Zca N n3 (Wb o7.1.1) o7.1.1 (λeG fY bA=>(some ((),(bA,())))) N 0 o8.2.1))))))))
def Zdw{R:Type}(N:Nat)(ai:List Y_Root)(aG:Int)(au:Int)(aY:List Kc)(bO:Kf×List Km×List Kb)(bv:Y_World)(bA:List Int)(K0:Option R)(K1:Int->Bool->Option R):Nat->Int->Option R
  |0,_=>none
  |n+1,cd=>(bif decide (cd<(Wb (Xb ai (Xa au) d_Root).2.2.2.2.2.2.2.2.2.2.2.2.2.1))then(bif inb cd (Xc aY)then(Wl (Xb aY (Xa cd) (0,0)) λe9000=>(bif inb e9000.1 (Xc bA)then(bif (Xb bA (Xa e9000.1) 0) !=e9000.2 then K0 else(Zdw N ai aG au aY bO bv bA K0 K1 n (We .i64 cd 1)))else none))else none)else(K1 cd (decide (cd<(Wb (Xb ai (Xa au) d_Root).2.2.2.2.2.2.2.2.2.2.2.2.2.1)))))
def Zdx{R:Type}(N:Nat)(t5:List Y_Root)(b8:Kf×List Km×List Kb)(b9:Y_World)(K0:Option R)(K1:Int->Bool->Option R):Nat->Int->Option R
  |0,_=>none
  |n+1,t7=>(bif decide (t7<(Wb (P5 b9)))then(bif inb t7 (Xc t5)then((Za7 N (Xb t5 (Xa t7) d_Root).2.2.2.2.2.2.2.2.2.2.2.2.2.1).bind λit=>(bif !it.2.1 then K0 else((Zgu N b8.1.1 (Q6 b9) (Xb t5 (Xa t7) d_Root).2.2.2.2.1).bind λiu=>(Zdw N t5 (Wb (P5 b9)) t7 (Xb t5 (Xa t7) d_Root).2.2.2.2.2.2.2.2.2.2.2.2.2.1 b8 b9 iu.2.1 K0 (λt38 t39=>((Zgu N b8.1.1 (Q6 b9) (Xb t5 (Xa t7) d_Root).2.2.2.2.2.2.2.2.2.2.2.2.2.2.2.2.2.2.2.2.2.1).bind λml=>((Zh8 N ml.2.1 (Xb t5 (Xa t7) d_Root).2.2.2.2.2.2.2.2.2.2.2.2.2.2.2.2.2.2.2.2.2).bind λmm=>(bif !mm.2.1 then K0 else(Zdx N t5 b8 b9 K0 K1 n (We .i64 t7 1)))))) N 0))))else none)else(K1 t7 (decide (t7<(Wb (P5 b9))))))
def Zht(N:Nat)(s1:Kf×List Km×List Kb)(w2:Y_World):Option Ke:=((Zi9 N s1.1).bind λo3=>(bif !o3.2.1 then(some ((),(false,())))else((Zhs N w2.2.2.2.2.2.2).bind λo4=>(bif !o4.2.1 then(some ((),(false,())))else(Zdx N w2.2.2.2.2.2.1 s1 w2 (some ((),(false,()))) (λt42 t43=>(some ((),(true,())))) N 0)))))
def Zco{R:Type}(N:Nat)(ae:Int)(aH:Kf×List Km×List Kb)(ac:Y_World)(aR:List Int)(K0:Option R)(K1:Int->Bool->Option R):Nat->Int->Option R
  |0,_=>none
  |n+1,bT=>(Wl (Xb (P5 ac) (Xa ae) d_Root) λe9001=>(bif decide (bT<(Wb (P13 e9001)))then(bif inb bT (Xc (P13 e9001))then(Wl (Xb (P13 e9001) (Xa bT) (0,0)) λe9000=>(bif decide (e9000.1<0)then K0 else(bif inb bT (Xc (P13 e9001))then(bif decide (e9000.1>=(Wb aR))then K0 else(bif inb bT (Xc (P13 e9001))then(bif inb e9000.1 (Xc aR)then(bif inb bT (Xc (P13 e9001))then(bif (Xb aR (Xa e9000.1) 0) !=e9000.2 then K0 else(Zco N ae aH ac aR K0 K1 n (We .i64 bT 1)))else none)else none)else none))else none)))else none)else(K1 bT (decide (bT<(Wb (P13 e9001)))))))
def Zcp{R:Type}(N:Nat)(b7:Kf×List Km×List Kb)(b8:Y_World)(K0:Option R)(K1:Int->Bool->Option R):Nat->Int->Option R
  |0,_=>none
  |n+1,i6=>(bif decide (i6<(Wb (P5 b8)))then(bif inb i6 (Xc (P5 b8))then((Ze6 N b7.1.1 (Q6 b8) (Xb (P5 b8) (Xa i6) d_Root).2.2.2.2.1).bind λjz=>(Zco N i6 b7 b8 jz.2.1 K0 (λxG nP=>(Zcp N b7 b8 K0 K1 n (We .i64 i6 1))) N 0))else none)else(K1 i6 (decide (i6<(Wb (P5 b8))))))
def Zfo(N:Nat)(ad:List Int):Option Ke:=((Ztr N ad).bind λo2=>(bif o2.2.1 then(some ((),(true,())))else((Zlv N ad).bind λo3=>((Zh6 N o3.2.1).bind λo4=>((Zhf N o3.2.1).bind λo5=>(bif !o5.2.1 then(some ((),((Wb o4.2.1.2.2.2.2.2.1)==0,())))else(Zcp N o3.2.1 o4.2.1 (some ((),(false,()))) (λmx jb=>(bif (Wb o4.2.1.2.2.2.2.2.1)==(Wb o3.2.1.2.1)then((Zhr N o3.2.1 o4.2.1).bind λoF=>(bif oF.2.1 then((Zht N o3.2.1 o4.2.1).bind λjA=>(some ((),(jA.2.1,()))))else(some ((),(false,())))))else(some ((),(false,()))))) N 0)))))))
end
end Go.Sx
