/- Each Go function does what its Lean function says. -/
import Derived.Test.YtnkbflecplbceaaGreatD
open List renaming getD→Xd
open Int renaming toNat→Xb
namespace Go.Sx
noncomputable section
open Go.Proofs
set_option linter.unusedVariables false
set_option linter.unusedSimpArgs false
theorem Zor(N:Nat){R:Type}(K:Ex->St->Option R){k4:Int}{t5:Int}{b7:Int}{b8:Int}{b9:Int}{aI:Bool}{aU:Int}{bK:Int}{bM:Int}{dE:Int}{cT:Int}{bf:Int}{il:Bool}{db:Int}{dI:Int}{dF:Int}{im:Int}{bU:List Kc}{cM:List Int}{dc:List Kc}{io:List Int}{cY:List Kc}{fR:List Y_KidRun}{ip:Nat}{fS:List Int}{fT:List Kb}{fU:List Kc}{cZ:List Kk}{K0:Int->Bool->Kr->Option R}(h0:K0= λvv oG jX=>K (.exit 0) (Zof k4 t5 b7 b8 b9 aI aU bK bM dE cT bf il db dI dF im bU cM dc io cY fR ip fS fT fU cZ vv oG jX))(n:Nat)(t6:Int)(gS:List Kb):Zax N k4 t5 b7 b8 b9 aI aU bK bM dE cT bf il db dI dF im bU cM dc io cY fR ip fS fT fU cZ K0 n t6 gS=LM Zcl N 0 100003 n (Zoq k4 t5 t6 b7 b8 b9 aI aU bK bM dE cT bf il db dI dF im bU cM dc gS io cY fR ip fS fT fU cZ) K:=by
  subst h0
  induction n generalizing t6 gS with
  |zero=>kernel_rfl
  |succ n ih=>rw[Zax];simp only[ih];kernel_rfl
def Zos(jC:Int)(jD:Int)(t45:Int)(cH:Int)(eY:Int)(eZ:Int)(fa:Bool)(fb:Int)(fo:Int)(fq:Int)(fu:Int)(fv:Int)(jE:Int)(jF:Bool)(jG:Int)(jH:Int)(jI:Int)(jJ:Int)(de:List Kb)(jK:List Int)(jL:List Kc)(jM:List Kb)(jN:List Int)(ld:List Kc)(jO:List Y_KidRun)(jP:Nat)(fe:List Int)(ff:List Kc)(fg:List Kk):St:=⟨[(0,vP 0 0),(1,vI jC),(4,vP 1 0),(75,vO 2),(76,vI jD),(77,vI t45)],[(0,.box [.val Ja cH,.val Ja eY,.val Ja eZ,.val Jp fa,.own 3,.own 4,.own 5,.own 6,.own 7,.own 8]),(1,.box [.val Ja fb,.val Ja fo,.val Ja fq,.val Ja fu,.val Ja fv,.val Ja jE,.own 9,.own 2,.own 10,.own 11,.val Jp jF,.val Ja jG,.val Ja jH,.val Ja jI,.val Ja jJ]),(2,.arr Jl de),(3,.arr Ja jK),(4,.arr Jw jL),(5,.arr Jl jM),(6,.arr Ja jN),(7,.arr Jw ld),(8,.hole Jh jO jP 1),(9,.arr Ja fe),(10,.arr Jw ff),(11,.arr Js fg)],12⟩
def Zog(jC:Int)(jD:Int)(cH:Int)(eY:Int)(eZ:Int)(fa:Bool)(fb:Int)(fo:Int)(fq:Int)(fu:Int)(fv:Int)(jE:Int)(jF:Bool)(jG:Int)(jH:Int)(jI:Int)(jJ:Int)(de:List Kb)(jK:List Int)(jL:List Kc)(jM:List Kb)(jN:List Int)(jO:List Y_KidRun)(jP:Nat)(fe:List Int)(ff:List Kc)(fg:List Kk)(vx:Int)(vy:Bool)(vz:List Kc):St:=⟨[(0,vP 0 0),(1,vI jC),(4,vP 1 0),(75,vO 2),(76,vI jD),(77,vI vx),(78,vB vy)],[(0,.box [.val Ja cH,.val Ja eY,.val Ja eZ,.val Jp fa,.own 3,.own 4,.own 5,.own 6,.own 7,.own 8]),(1,.box [.val Ja fb,.val Ja fo,.val Ja fq,.val Ja fu,.val Ja fv,.val Ja jE,.own 9,.own 2,.own 10,.own 11,.val Jp jF,.val Ja jG,.val Ja jH,.val Ja jI,.val Ja jJ]),(2,.arr Jl de),(3,.arr Ja jK),(4,.arr Jw jL),(5,.arr Jl jM),(6,.arr Ja jN),(7,.arr Jw vz),(8,.hole Jh jO jP 1),(9,.arr Ja fe),(10,.arr Jw ff),(11,.arr Js fg)],12⟩
theorem Zot(N:Nat){R:Type}(K:Ex->St->Option R){jC:Int}{jD:Int}{cH:Int}{eY:Int}{eZ:Int}{fa:Bool}{fb:Int}{fo:Int}{fq:Int}{fu:Int}{fv:Int}{jE:Int}{jF:Bool}{jG:Int}{jH:Int}{jI:Int}{jJ:Int}{de:List Kb}{jK:List Int}{jL:List Kc}{jM:List Kb}{jN:List Int}{jO:List Y_KidRun}{jP:Nat}{fe:List Int}{ff:List Kc}{fg:List Kk}{K0:Int->Bool->Kw->Option R}(h0:K0= λvx vy vz=>K (.exit 2) (Zog jC jD cH eY eZ fa fb fo fq fu fv jE jF jG jH jI jJ de jK jL jM jN jO jP fe ff fg vx vy vz))(n:Nat)(t45:Int)(ld:List Kc):Za6 N jC jD cH eY eZ fa fb fo fq fu fv jE jF jG jH jI jJ de jK jL jM jN jO jP fe ff fg K0 n t45 ld=LM Zcl N 1 100013 n (Zos jC jD t45 cH eY eZ fa fb fo fq fu fv jE jF jG jH jI jJ de jK jL jM jN ld jO jP fe ff fg) K:=by
  subst h0
  induction n generalizing t45 ld with
  |zero=>kernel_rfl
  |succ n ih=>rw[Za6];simp only[ih];kernel_rfl
theorem Zrp(N:Nat)(f1:Y_Family)(k2:Int):DN Zcl N (f1,k2,())=Zdj N f1 k2:=by
  conv=>rhs;rw[Zdj];simp(disch:=exact id (by kernel_rfl)) only[Zor (R:=(Y_Family×Unit)×Unit) N (CF Zcl N [1,1,0,1,0]),Zot (R:=(Y_Family×Unit)×Unit) N (CF Zcl N [1,1,1,1,0,1,0])]
  kernel_rfl
theorem Zrq(N:Nat):GW 121 (Zjd N):=GF Zcl N Tryz.func121 (GC (Zng N) (GC (Zjb N) (GC (Zdy N) Wa))) (λd=>Zrp N d.1 d.2.1)
def Zj3(N:Nat):Sig:=Sig.of [.box Jz,.v Ja false,.v Jc false,.v Jt true] [] (λd=>Zh5 N d.1 d.2.1 d.2.2.1 d.2.2.2.1)
def Ztp:Fn:=⟨Tryz.f74,λ |2=>[.opn 20]|_=>[],Zj3,λN=>[(120,Zki N),(121,Zjd N),(122,Zep N),(123,Zfr N)]⟩
theorem Ztq(N:Nat):GW 74 (Zj3 N):=GF Ztp N Tryz.func74 (GC (Zvg N) (GC (Zrq N) (GC (Zjb N) (GC (Zly N) Wa))))
def Zil(N:Nat):Sig:=Sig.of [.box Jv,.v Jr true,.v Jl true] [] (λd=>Zf1 N d.1 d.2.1 d.2.2.1)
def Zww:Fn:=⟨Tryz.f36,λ |3=>[.unfE 6]|_=>[],Zil,λN=>[(44,Z5 N),(73,Zkh N),(74,Zj3 N)]⟩
theorem Zn9(N:Nat):GW 36 (Zil N):=GF Zww N Tryz.func36 (GC (Zad N) (GC (Zve N) (GC (Ztq N) Wa)))
def Zoh(N:Nat):Sig:=Sig.of [.v Jr true] [.v Jv true] (λd=>Zj9 N d.1)
def Zmi:Fn:=⟨Tryz.f18,λ |3=>[.nest 21 Jab]|6=>[.canon [1,2,3,32,33,34,35]]|7=>[.canon [1,2,3,5,32,33,34]]|8=>[.canon [1,2,3,32,33,34]]|9=>[.canon [1,2,3,32,33,34]]|100006=>[.adoptC 3 6 Jl,.adoptC 3 8 Ji,.canon [1,2,3,32,33,34]]|_=>[],Zoh,λN=>[(35,Ziu N),(45,Zlb N),(46,Zne N),(36,Zil N)]⟩
def Zxp(t5:List Kb)(t7:Int)(b8:Kf×List Km×List Kb)(bM:Int)(dE:Int)(cT:Int)(bf:Int)(dg:List Kb)(cj:List Int)(da:List Kb)(dT:List Y_Root)(cX:List Kn):St:=⟨[(1,vP 0 0),(2,vP 1 0),(3,vP 2 0),(32,vV Je t5),(33,vI (Wb b8.2.2)),(34,vI t7)],[(0,.box [.val Jj b8.1.1,.val Jj b8.1.2.1,.val Ja b8.1.2.2,.val Jaa b8.2.1,.val Je b8.2.2]),(1,.box [.val Ja (0:Int),.val Ja (0:Int),.val Ja (0:Int),.nils,.nils,.val Ja (0:Int),.nils,.nils,.nils]),(2,.box [.val Ja bM,.val Ja dE,.val Ja cT,.own 3,.own 4,.val Ja bf,.own 5,.own 6,.own 7]),(3,.arr Jl dg),(4,.arr Ja cj),(5,.arr Jl da),(6,.arr Jab dT),(7,.arr Ji cX)],8⟩
def Zwx(t5:List Kb)(b8:Kf×List Km×List Kb)(vA:Int)(t25:Bool)(fG:Int)(fH:Int)(fI:Int)(jW:Int)(fS:List Kb)(fT:List Int)(fU:List Kb)(cZ:List Y_Root)(cV:List Kn):St:=⟨[(1,vP 0 0),(2,vP 1 0),(3,vP 2 0),(32,vV Je t5),(33,vI (Wb b8.2.2)),(34,vI vA),(35,vB t25)],[(0,.box [.val Jj b8.1.1,.val Jj b8.1.2.1,.val Ja b8.1.2.2,.val Jaa b8.2.1,.val Je b8.2.2]),(1,.box [.val Ja (0:Int),.val Ja (0:Int),.val Ja (0:Int),.nils,.nils,.val Ja (0:Int),.nils,.nils,.nils]),(2,.box [.val Ja fG,.val Ja fH,.val Ja fI,.own 3,.own 4,.val Ja jW,.own 5,.own 6,.own 7]),(3,.arr Jl fS),(4,.arr Ja fT),(5,.arr Jl fU),(6,.arr Jab cZ),(7,.arr Ji cV)],8⟩
theorem Zxq(N:Nat){R:Type}(K:Ex->St->Option R){t5:List Kb}{b8:Kf×List Km×List Kb}{K0:Int->Bool->Int->Int->Int->Int->Kr->Ki->Kr->(List Y_Root)->Kaa->Option R}(h0:K0= λvA t25 fG fH fI jW fS fT fU cZ cV=>K (.exit 0) (Zwx t5 b8 vA t25 fG fH fI jW fS fT fU cZ cV))(n:Nat)(t7:Int)(bM:Int)(dE:Int)(cT:Int)(bf:Int)(dg:List Kb)(cj:List Int)(da:List Kb)(dT:List Y_Root)(cX:List Kn):Zbb N t5 b8 K0 n t7 bM dE cT bf dg cj da dT cX=LM Zmi N 0 100006 n (Zxp t5 t7 b8 bM dE cT bf dg cj da dT cX) K:=by
  subst h0
  induction n generalizing t7 bM dE cT bf dg cj da dT cX with
  |zero=>kernel_rfl
  |succ n ih=>rw[Zbb];simp only[ih];kernel_rfl
theorem Z08(N:Nat)(s1:Kf×List Km×List Kb):DN Zmi N (s1,())=Zj9 N s1:=by
  conv=>rhs;rw[Zj9];simp(disch:=exact id (by kernel_rfl)) only[Zxq (R:=Unit×(Y_World×Unit)) N (CF Zmi N [1,1,1,1,0,1,0])]
  kernel_rfl
theorem Z09(N:Nat):GW 18 (Zoh N):=GF Zmi N Tryz.func18 (GC (Zok N) (GC (Zv9 N) (GC (Zzu N) (GC (Zn9 N) Wa)))) (λd=>Z08 N d.1)
def Znm(N:Nat):Sig:=Sig.of [.v (TY_Root) true] [.v Jp false] (λd=>Zoa N d.1)
def Zz5:Fn:=⟨Tryz.f38,Wz,Znm,Wbd⟩
theorem Zz6(N:Nat):GW 38 (Znm N):=GF Zz5 N Tryz.func38 Wa
def Za1(N:Nat):Sig:=Sig.of [.v Ju false,.clos 38 0] [.v Ja false] (λd=>Z1 N d.1)
def Zae:Fn:=⟨Tryz.f75,λ |2=>[.canon [0,1,7,8,9]]|3=>[.canon [0,1,5,7,8]]|4=>[.canon [0,1,5,7,8,16]]|5=>[.canon [1,4]]|6=>[.canon [0,1,7,8]]|100002=>[.canon [0,1,7,8]]|_=>[],Za1,λN=>[(38,Znm N)]⟩
def Ze7(s2:List Y_Root)(t4:Int):St:=⟨[(0,vV Ju s2),(1,.s (.one (.clos 38 []))),(7,vI (Wb s2)),(8,vI t4)],[],0⟩
def Zeu(s2:List Y_Root)(t7:Int):St:=⟨[(1,.s (.one (.clos 38 []))),(4,vI t7)],[],0⟩
def Zev(s2:List Y_Root)(t8:Int)(t9:Bool):St:=⟨[(0,vV Ju s2),(1,.s (.one (.clos 38 []))),(7,vI (Wb s2)),(8,vI t8),(9,vB t9)],[],0⟩
theorem Ze8(N:Nat){R:Type}(K:Ex->St->Option R){s2:List Y_Root}{K0:Int->Option R}{K1:Int->Bool->Option R}(h0:K0= λt7=>K .ret (Zeu s2 t7))(h1:K1= λt8 t9=>K (.exit 0) (Zev s2 t8 t9))(n:Nat)(t4:Int):Zk N s2 K0 K1 n t4=LM Zae N 0 100002 n (Ze7 s2 t4) K:=by
  subst h0 h1
  induction n generalizing t4 with
  |zero=>kernel_rfl
  |succ n ih=>rw[Zk];simp only[ih];kernel_rfl
theorem Zf5(N:Nat)(s1:List Y_Root):DN Zae N (s1,())=Z1 N s1:=by
  conv=>rhs;rw[Z1];simp(disch:=exact id (by kernel_rfl)) only[Ze8 (R:=Unit×Kh) N (CF Zae N [1,0,1,0])]
  kernel_rfl
theorem Zf6(N:Nat):GW 75 (Za1 N):=GF Zae N Tryz.func75 (GC (Zz6 N) Wa) (λd=>Zf5 N d.1)
def Zat(N:Nat):Sig:=Sig.of [.v Ju false,.clos 38 0] [.v Jp false] (λd=>Zay N d.1)
def Zfk:Fn:=⟨Tryz.f37,Wz,Zat,λN=>[(75,Za1 N)]⟩
theorem Zfl(N:Nat):GW 37 (Zat N):=GF Zfk N Tryz.func37 (GC (Zf6 N) Wa)
def Zoi(N:Nat):Sig:=Sig.of [.v (TY_World) true] [.v Jp false] (λd=>Zn3 N d.1)
def Z1a:Fn:=⟨Tryz.f13,Wz,Zoi,λN=>[(37,Zat N)]⟩
theorem Z1b(N:Nat):GW 13 (Zoi N):=GF Z1a N Tryz.func13 (GC (Zfl N) Wa)
def Zl5(N:Nat):Sig:=Sig.of [.v Jr true] [.v (TY_World) true,.v Ja false] (λd=>Zdd N d.1)
def Zcd:Fn:=⟨Tryz.f11,λ |5=>[.canon [1,2,4,5,21]]|6=>[.canon [1,2,4,5]]|7=>[.canon [1,2,4,5,25,26,27]]|8=>[.canon [1,2,4,5,25,26,27,28]]|9=>[.canon [1,2,4,5,6,7,25,26,27]]|10=>[.canon [1,2,4,5,6,7,25,26,27]]|11=>[.canon [1,2,4,5,6,25,26,27,38,39]]|12=>[.canon [1,2,4,5,6,25,26,27,38,39,40]]|13=>[.canon [1,2,4,5,6,8,25,26,27,38,39]]|14=>[.canon [1,2,4,5,6,25,26,27,38,39]]|15=>[.canon [1,2,4,5,6,25,26,27,38,39]]|16=>[.canon [1,2,4,5,25,26,27]]|100005=>[.canon [1,2,4,5]]|100008=>[.canon [1,2,4,5,25,26,27]]|100012=>[.canon [1,2,4,5,6,25,26,27,38,39]]|_=>[],Zl5,λN=>[(35,Ziu N),(18,Zoh N),(13,Zoi N),(36,Zil N)]⟩
def Zrr(bw:Int)(iv:Int)(jU:List Km)(jV:Int)(t45:Int)(cH:Kf×List Km×List Kb)(eY:Int)(eZ:Int)(fa:Int)(fb:Int)(fo:Int)(fq:Int)(fu:Int)(fv:Int)(mV:List Kb)(mW:List Int)(mX:List Kb)(mY:List Y_Root)(mZ:List Kn):St:=⟨[(1,vP 0 0),(2,vP 1 0),(4,vP 2 0),(5,vI bw),(6,vI iv),(25,vV Jaa jU),(26,vI jV),(27,vI iv),(38,vI (Wb (Xd jU (Xb iv) (([]:List Ka),([]:List Kx))).2)),(39,vI t45)],[(0,.box [.val Jj cH.1.1,.val Jj cH.1.2.1,.val Ja cH.1.2.2,.val Jaa cH.2.1,.val Je cH.2.2]),(1,.box [.val Ja eY,.val Ja eZ,.val Ja fa,.nils,.nils,.val Ja fb,.nils,.nils,.nils]),(2,.box [.val Ja fo,.val Ja fq,.val Ja fu,.own 3,.own 4,.val Ja fv,.own 5,.own 6,.own 7]),(3,.arr Jl mV),(4,.arr Ja mW),(5,.arr Jl mX),(6,.arr Jab mY),(7,.arr Ji mZ)],8⟩
def Zp9(bw:Int)(iv:Int)(jU:List Km)(jV:Int)(cH:Kf×List Km×List Kb)(eY:Int)(eZ:Int)(fa:Int)(fb:Int)(qJ:Int)(qK:Bool)(me:Int)(mf:Int)(mg:Int)(mh:Int)(mi:List Kb)(fe:List Int)(ff:List Kb)(fg:List Y_Root)(mj:List Kn):St:=⟨[(1,vP 0 0),(2,vP 1 0),(4,vP 2 0),(5,vI bw),(6,vI iv),(25,vV Jaa jU),(26,vI jV),(27,vI iv),(38,vI (Wb (Xd jU (Xb iv) (([]:List Ka),([]:List Kx))).2)),(39,vI qJ),(40,vB qK)],[(0,.box [.val Jj cH.1.1,.val Jj cH.1.2.1,.val Ja cH.1.2.2,.val Jaa cH.2.1,.val Je cH.2.2]),(1,.box [.val Ja eY,.val Ja eZ,.val Ja fa,.nils,.nils,.val Ja fb,.nils,.nils,.nils]),(2,.box [.val Ja me,.val Ja mf,.val Ja mg,.own 3,.own 4,.val Ja mh,.own 5,.own 6,.own 7]),(3,.arr Jl mi),(4,.arr Ja fe),(5,.arr Jl ff),(6,.arr Jab fg),(7,.arr Ji mj)],8⟩
theorem Zrs(N:Nat){R:Type}(K:Ex->St->Option R){bw:Int}{iv:Int}{jU:List Km}{jV:Int}{cH:Kf×List Km×List Kb}{eY:Int}{eZ:Int}{fa:Int}{fb:Int}{K0:Int->Bool->Int->Int->Int->Int->Kr->Ki->Kr->(List Y_Root)->Kaa->Option R}(h0:K0= λqJ qK me mf mg mh mi fe ff fg mj=>K (.exit 4) (Zp9 bw iv jU jV cH eY eZ fa fb qJ qK me mf mg mh mi fe ff fg mj))(n:Nat)(t45:Int)(fo:Int)(fq:Int)(fu:Int)(fv:Int)(mV:List Kb)(mW:List Int)(mX:List Kb)(mY:List Y_Root)(mZ:List Kn):Zci N bw iv jU jV cH eY eZ fa fb K0 n t45 fo fq fu fv mV mW mX mY mZ=LM Zcd N 2 100012 n (Zrr bw iv jU jV t45 cH eY eZ fa fb fo fq fu fv mV mW mX mY mZ) K:=by
  subst h0
  induction n generalizing t45 fo fq fu fv mV mW mX mY mZ with
  |zero=>kernel_rfl
  |succ n ih=>rw[Zci];simp only[ih];kernel_rfl
def Zrt(bj:Int)(gR:List Km)(fh:Int)(dG:Kf×List Km×List Kb)(li:Int)(fG:Int)(fH:Int)(fI:Int)(jW:Int)(m6:Int)(m7:Int)(cy:Int)(cZ:List Kb)(cV:List Int)(jT:List Kb)(m9:List Y_Root)(jX:List Kn):St:=⟨[(1,vP 0 0),(2,vP 1 0),(4,vP 2 0),(5,vI bj),(25,vV Jaa gR),(26,vI (Wb dG.2.1)),(27,vI fh)],[(0,.box [.val Jj dG.1.1,.val Jj dG.1.2.1,.val Ja dG.1.2.2,.val Jaa dG.2.1,.val Je dG.2.2]),(1,.box [.val Ja li,.val Ja fG,.val Ja fH,.nils,.nils,.val Ja fI,.nils,.nils,.nils]),(2,.box [.val Ja jW,.val Ja m6,.val Ja m7,.own 3,.own 4,.val Ja cy,.own 5,.own 6,.own 7]),(3,.arr Jl cZ),(4,.arr Ja cV),(5,.arr Jl jT),(6,.arr Jab m9),(7,.arr Ji jX)],8⟩
def Zqa(bj:Int)(gR:List Km)(dG:Kf×List Km×List Kb)(li:Int)(fG:Int)(fH:Int)(fI:Int)(vC:Int)(vD:Bool)(vE:Int)(px:Int)(py:Int)(pz:Int)(pA:List Kb)(pB:List Int)(pC:List Kb)(pD:List Y_Root)(pE:List Kn):St:=⟨[(1,vP 0 0),(2,vP 1 0),(4,vP 2 0),(5,vI bj),(25,vV Jaa gR),(26,vI (Wb dG.2.1)),(27,vI vC),(28,vB vD)],[(0,.box [.val Jj dG.1.1,.val Jj dG.1.2.1,.val Ja dG.1.2.2,.val Jaa dG.2.1,.val Je dG.2.2]),(1,.box [.val Ja li,.val Ja fG,.val Ja fH,.nils,.nils,.val Ja fI,.nils,.nils,.nils]),(2,.box [.val Ja vE,.val Ja px,.val Ja py,.own 3,.own 4,.val Ja pz,.own 5,.own 6,.own 7]),(3,.arr Jl pA),(4,.arr Ja pB),(5,.arr Jl pC),(6,.arr Jab pD),(7,.arr Ji pE)],8⟩
theorem Zru(N:Nat){R:Type}(K:Ex->St->Option R){bj:Int}{gR:List Km}{dG:Kf×List Km×List Kb}{li:Int}{fG:Int}{fH:Int}{fI:Int}{K0:Int->Bool->Int->Int->Int->Int->Kr->Ki->Kr->(List Y_Root)->Kaa->Option R}(h0:K0= λvC vD vE px py pz pA pB pC pD pE=>K (.exit 2) (Zqa bj gR dG li fG fH fI vC vD vE px py pz pA pB pC pD pE))(n:Nat)(fh:Int)(jW:Int)(m6:Int)(m7:Int)(cy:Int)(cZ:List Kb)(cV:List Int)(jT:List Kb)(m9:List Y_Root)(jX:List Kn):Zbu N bj gR dG li fG fH fI K0 n fh jW m6 m7 cy cZ cV jT m9 jX=LM Zcd N 1 100008 n (Zrt bj gR fh dG li fG fH fI jW m6 m7 cy cZ cV jT m9 jX) K:=by
  subst h0
  induction n generalizing fh jW m6 m7 cy cZ cV jT m9 jX with
  |zero=>kernel_rfl
  |succ n ih=>rw[Zbu];simp(disch:=exact id (by kernel_rfl)) only[ih,Zrs N (CL Zcd N 1 100008 [1,1,0,0,1,1,1,0] n K)];kernel_rfl
def Zrv(bm:Int)(b5:Kf×List Km×List Kb)(aI:Int)(aU:Int)(bK:Int)(bM:Int)(bb:List Kb)(bp:List Int)(dh:List Kb)(dg:List Y_Root)(cj:List Kn):St:=⟨[(1,vP 0 0),(2,vP 1 0),(4,vP 2 0),(5,vI bm)],[(0,.box [.val Jj b5.1.1,.val Jj b5.1.2.1,.val Ja b5.1.2.2,.val Jaa b5.2.1,.val Je b5.2.2]),(1,.box [.val Ja (0:Int),.val Ja (0:Int),.val Ja (0:Int),.nils,.nils,.val Ja (0:Int),.nils,.nils,.nils]),(2,.box [.val Ja aI,.val Ja aU,.val Ja bK,.own 3,.own 4,.val Ja bM,.own 5,.own 6,.own 7]),(3,.arr Jl bb),(4,.arr Ja bp),(5,.arr Jl dh),(6,.arr Jab dg),(7,.arr Ji cj)],8⟩
def Zqb(b5:Kf×List Km×List Kb)(dN:Int)(pF:Bool)(pG:Int)(pH:Int)(pI:Int)(pJ:Int)(pK:List Kb)(pL:List Int)(pM:List Kb)(pN:List Y_Root)(pO:List Kn):St:=⟨[(1,vP 0 0),(2,vP 1 0),(4,vP 2 0),(5,vI dN),(21,vB pF)],[(0,.box [.val Jj b5.1.1,.val Jj b5.1.2.1,.val Ja b5.1.2.2,.val Jaa b5.2.1,.val Je b5.2.2]),(1,.box [.val Ja (0:Int),.val Ja (0:Int),.val Ja (0:Int),.nils,.nils,.val Ja (0:Int),.nils,.nils,.nils]),(2,.box [.val Ja pG,.val Ja pH,.val Ja pI,.own 3,.own 4,.val Ja pJ,.own 5,.own 6,.own 7]),(3,.arr Jl pK),(4,.arr Ja pL),(5,.arr Jl pM),(6,.arr Jab pN),(7,.arr Ji pO)],8⟩
theorem Zrw(N:Nat){R:Type}(K:Ex->St->Option R){b5:Kf×List Km×List Kb}{K0:Int->Bool->Int->Int->Int->Int->Kr->Ki->Kr->(List Y_Root)->Kaa->Option R}(h0:K0= λdN pF pG pH pI pJ pK pL pM pN pO=>K (.exit 0) (Zqb b5 dN pF pG pH pI pJ pK pL pM pN pO))(n:Nat)(bm:Int)(aI:Int)(aU:Int)(bK:Int)(bM:Int)(bb:List Kb)(bp:List Int)(dh:List Kb)(dg:List Y_Root)(cj:List Kn):Zbv N b5 K0 n bm aI aU bK bM bb bp dh dg cj=LM Zcd N 0 100005 n (Zrv bm b5 aI aU bK bM bb bp dh dg cj) K:=by
  subst h0
  induction n generalizing bm aI aU bK bM bb bp dh dg cj with
  |zero=>kernel_rfl
  |succ n ih=>rw[Zbv];simp(disch:=exact id (by kernel_rfl)) only[ih,Zru N (CL Zcd N 0 100005 [1,0,1,1,0] n K)];kernel_rfl
theorem Zxr(N:Nat)(s1:Kf×List Km×List Kb):DN Zcd N (s1,())=Zdd N s1:=by
  conv=>rhs;rw[Zdd];simp(disch:=exact id (by kernel_rfl)) only[Zrw (R:=Unit×(Y_World×Kh)) N (CF Zcd N [1,1,1,1,0,0])]
  kernel_rfl
theorem Zxs(N:Nat):GW 11 (Zl5 N):=GF Zcd N Tryz.func11 (GC (Zok N) (GC (Z09 N) (GC (Z1b N) (GC (Zn9 N) Wa)))) (λd=>Zxr N d.1)
def Zn1(N:Nat):Sig:=Sig.of [.v Jj false] [.v Jac false] (λd=>Zhi N d.1)
def Zlw:Fn:=⟨Tryz.f28,λ |5=>[.canon [0,3,12,13]]|6=>[.canon [0,3,4,12]]|7=>[.canon [0,3,4,5,12]]|8=>[.canon [0,3,5,6,7,12]]|9=>[.canon [0,3,5,6,12,21]]|10=>[.canon [0,3,5,12]]|11=>[.canon [0,3,12]]|12=>[.canon [0,3,12]]|100005=>[.canon [0,3,12]]|_=>[],Zn1,λN=>[(67,Zd9 N),(68,Zf2 N)]⟩
def Zwy(l3:List Int)(t4:Int)(l5:List Int):St:=⟨[(0,vV Jj l3),(3,vO 0),(12,vI t4)],[(0,.arr Ja l5)],1⟩
def Zvh(l3:List Int)(t7:Int)(t8:Bool)(l9:List Int):St:=⟨[(0,vV Jj l3),(3,vO 0),(12,vI t7),(13,vB t8)],[(0,.arr Ja l9)],1⟩
theorem Zwz(N:Nat){R:Type}(K:Ex->St->Option R){l3:List Int}{K0:Int->Bool->Ki->Option R}(h0:K0= λt7 t8 l9=>K (.exit 0) (Zvh l3 t7 t8 l9))(n:Nat)(t4:Int)(l5:List Int):Zcr N l3 K0 n t4 l5=LM Zlw N 0 100005 n (Zwy l3 t4 l5) K:=by
  subst h0
  induction n generalizing t4 l5 with
  |zero=>kernel_rfl
  |succ n ih=>rw[Zcr];simp only[ih];kernel_rfl
theorem Z0w(N:Nat)(l1:List Int):DN Zlw N (l1,())=Zhi N l1:=by
  conv=>rhs;rw[Zhi];simp(disch:=exact id (by kernel_rfl)) only[Zwz (R:=Unit×Ku) N (CF Zlw N [1,1,1,0,1,0])]
  kernel_rfl
theorem Z0x(N:Nat):GW 28 (Zn1 N):=GF Zlw N Tryz.func28 (GC (Zhj N) (GC (Zjo N) Wa)) (λd=>Z0w N d.1)
def Znn(N:Nat):Sig:=Sig.of [.v Jt true] [.v Jac false] (λd=>Zfn N d.1)
def Zk4:Fn:=⟨Tryz.f27,λ |5=>[.canon [3,11,12,13,14]]|6=>[.canon [3,5,11,12,13]]|7=>[.canon [3,11,12,13]]|8=>[.canon [3,11,12,13]]|100005=>[.canon [3,11,12,13]]|_=>[],Znn,λN=>[(40,Zc0 N)]⟩
def Zvi(t3:List Kb)(t4:Int)(t5:Int)(l6:List Int):St:=⟨[(3,vO 0),(11,vV Je t3),(12,vI t4),(13,vI t5)],[(0,.arr Ja l6)],1⟩
def Ztr(t3:List Kb)(t4:Int)(t7:Int)(t8:Bool)(l9:List Int):St:=⟨[(3,vO 0),(11,vV Je t3),(12,vI t4),(13,vI t7),(14,vB t8)],[(0,.arr Ja l9)],1⟩
theorem Zvj(N:Nat){R:Type}(K:Ex->St->Option R){t3:List Kb}{t4:Int}{K0:Int->Bool->Ki->Option R}(h0:K0= λt7 t8 l9=>K (.exit 0) (Ztr t3 t4 t7 t8 l9))(n:Nat)(t5:Int)(l6:List Int):Zc8 N t3 t4 K0 n t5 l6=LM Zk4 N 0 100005 n (Zvi t3 t4 t5 l6) K:=by
  subst h0
  induction n generalizing t5 l6 with
  |zero=>kernel_rfl
  |succ n ih=>rw[Zc8];simp only[ih];kernel_rfl
theorem Zz7(N:Nat)(m1:Int×List Kb):DN Zk4 N (m1,())=Zfn N m1:=by
  conv=>rhs;rw[Zfn];simp(disch:=exact id (by kernel_rfl)) only[Zvj (R:=Unit×Ku) N (CF Zk4 N [1,1,1,0,1,0])]
  kernel_rfl
theorem Zz8(N:Nat):GW 27 (Znn N):=GF Zk4 N Tryz.func27 (GC (Zf4 N) Wa) (λd=>Zz7 N d.1)
def Zl6(N:Nat):Sig:=Sig.of [.v Jj false,.v Jj false] [.v Jp false] (λd=>Zde N d.1 d.2.1)
def Ziz:Fn:=⟨Tryz.f26,λ |4=>[.canon [0,1,5,14]]|5=>[.canon [0,1,5]]|6=>[.canon [0,1,5,25]]|7=>[.canon [4]]|100004=>[.canon [0,1,5]]|_=>[],Zl6,Wbd⟩
def Zrx(a3:List Int)(b4:List Int)(i5:Int):St:=⟨[(0,vV Jj a3),(1,vV Jj b4),(5,vI i5)],[],0⟩
def Zqc(a3:List Int)(b4:List Int):St:=⟨[(4,vB false)],[],0⟩
def Zqd(a3:List Int)(b4:List Int)(i6:Int)(t7:Bool):St:=⟨[(0,vV Jj a3),(1,vV Jj b4),(5,vI i6),(14,vB t7)],[],0⟩
theorem Zry(N:Nat){R:Type}(K:Ex->St->Option R){a3:List Int}{b4:List Int}{K0:Option R}{K1:Int->Bool->Option R}(h0:K0=K .ret (Zqc a3 b4))(h1:K1= λi6 t7=>K (.exit 0) (Zqd a3 b4 i6 t7))(n:Nat)(i5:Int):Zcj N a3 b4 K0 K1 n i5=LM Ziz N 0 100004 n (Zrx a3 b4 i5) K:=by
  subst h0 h1
  induction n generalizing i5 with
  |zero=>kernel_rfl
  |succ n ih=>rw[Zcj];simp only[ih];kernel_rfl
theorem Zxt(N:Nat)(a1:List Int)(b2:List Int):DN Ziz N (a1,b2,())=Zde N a1 b2:=by
  conv=>rhs;rw[Zde];simp(disch:=exact id (by kernel_rfl)) only[Zry (R:=Unit×Ko) N (CF Ziz N [1,1,0,1,0])]
  kernel_rfl
theorem Zxu(N:Nat):GW 26 (Zl6 N):=GF Ziz N Tryz.func26 Wa (λd=>Zxt N d.1 d.2.1)
def Zop(N:Nat):Sig:=Sig.of [.v Jm false] [.v Jp false] (λd=>Zez N d.1)
def Zce:Fn:=⟨Tryz.f6,λ |9=>[.canon [0,3,4,5,6,33]]|10=>[.canon [0,3,4,5,6]]|11=>[.canon [0,3,4,5,6,7]]|12=>[.canon [0,3,4,5,6,7,8]]|13=>[.canon [0,3,4,5,6,7,8,56]]|14=>[.canon [0,3,4,5,6,8]]|15=>[.canon [0,3,4,5,6,8]]|16=>[.canon [0,3,4,5,6]]|22=>[.canon [0,3,9,11,12,96]]|23=>[.canon [0,3,9,11,12]]|24=>[.canon [0,3,9,11,12,13]]|25=>[.canon [0,3,9,11,12,13,14]]|26=>[.canon [0,3,9,11,12,13,14,15]]|27=>[.canon [0,3,9,11,12,13,14,15,100]]|28=>[.canon [0,3,9,11,12,13,14,15]]|29=>[.canon [0,3,9,11,12,13,14,15,16]]|30=>[.canon [0,3,9,11,12,13,14,15,16]]|31=>[.canon [0,3,9,11,12,13,14,15]]|32=>[.canon [0,3,9,11,12,159]]|33=>[.canon [2]]|100009=>[.adoptC 4 3 Jk,.canon [0,3,4,5,6]]|100022=>[.canon [0,3,9,11,12]]|100027=>[.canon [0,3,9,11,12,13,14,15]]|_=>[],Zop,λN=>[(9,Zou N),(29,Zlz N),(12,Zl1 N),(30,Zpw N),(11,Zl5 N),(28,Zn1 N),(27,Znn N),(26,Zl6 N)]⟩
def Zrz(cr:List Int)(dA:Int)(i7:Int)(b8:Kf×List Km×List Kb)(b9:List Int)(aI:List Int)(aU:Int)(bK:List Kb)(aK:List Km):St:=⟨[(0,vV Jm cr),(3,vP 0 0),(4,vP 1 0),(5,vI dA),(6,vI i7)],[(0,.box [.val Jj b8.1.1,.val Jj b8.1.2.1,.val Ja b8.1.2.2,.val Jaa b8.2.1,.val Je b8.2.2]),(1,.box [.val Jj b9,.val Jj aI,.val Ja aU,.own 2,.val Je bK]),(2,.arr Jk aK)],3⟩
def Zqe(cr:List Int)(b8:Kf×List Km×List Kb)(b9:List Int)(aI:List Int)(aU:Int)(bK:List Kb)(iz:Int)(vF:Int)(fW:Bool)(dT:List Km):St:=⟨[(0,vV Jm cr),(3,vP 0 0),(4,vP 1 0),(5,vI iz),(6,vI vF),(33,vB fW)],[(0,.box [.val Jj b8.1.1,.val Jj b8.1.2.1,.val Ja b8.1.2.2,.val Jaa b8.2.1,.val Je b8.2.2]),(1,.box [.val Jj b9,.val Jj aI,.val Ja aU,.own 2,.val Je bK]),(2,.arr Jk dT)],3⟩
theorem Zr0(N:Nat){R:Type}(K:Ex->St->Option R){cr:List Int}{b8:Kf×List Km×List Kb}{b9:List Int}{aI:List Int}{aU:Int}{bK:List Kb}{K0:Int->Int->Bool->(List Km)->Option R}(h0:K0= λiz vF fW dT=>K (.exit 0) (Zqe cr b8 b9 aI aU bK iz vF fW dT))(n:Nat)(dA:Int)(i7:Int)(aK:List Km):Zbw N cr b8 b9 aI aU bK K0 n dA i7 aK=LM Zce N 0 100009 n (Zrz cr dA i7 b8 b9 aI aU bK aK) K:=by
  subst h0
  induction n generalizing dA i7 aK with
  |zero=>kernel_rfl
  |succ n ih=>rw[Zbw];simp only[ih];kernel_rfl
def Zr1(aF:List Int)(eJ:Int)(eK:Bool)(dB:Bool)(iV:Int)(cU:Kf×List Km×List Kb)(ck:Y_World)(cx:List Int):St:=⟨[(0,vV Jm aF),(3,vP 0 0),(9,vP 1 0),(11,vO 2),(12,vI eJ),(13,vB eK),(14,vB dB),(15,vI iV)],[(0,.box [.val Jj cU.1.1,.val Jj cU.1.2.1,.val Ja cU.1.2.2,.val Jaa cU.2.1,.val Je cU.2.2]),(1,.box [.val Ja ck.1,.val Ja ck.2.1,.val Ja ck.2.2.1.1,.val Je ck.2.2.1.2,.val Jj ck.2.2.2.1.1,.val Ja ck.2.2.2.1.2,.val Je ck.2.2.2.2.1,.val Ju ck.2.2.2.2.2.1,.val (.slice Ji) ck.2.2.2.2.2.2]),(2,.arr Ja cx)],3⟩
def Zqf(aF:List Int)(eJ:Int)(cU:Kf×List Km×List Kb)(ck:Y_World)(cx:List Int)(pP:Bool)(kE:Bool)(vG:Int)(t50:Bool):St:=⟨[(0,vV Jm aF),(3,vP 0 0),(9,vP 1 0),(11,vO 2),(12,vI eJ),(13,vB pP),(14,vB kE),(15,vI vG),(100,vB t50)],[(0,.box [.val Jj cU.1.1,.val Jj cU.1.2.1,.val Ja cU.1.2.2,.val Jaa cU.2.1,.val Je cU.2.2]),(1,.box [.val Ja ck.1,.val Ja ck.2.1,.val Ja ck.2.2.1.1,.val Je ck.2.2.1.2,.val Jj ck.2.2.2.1.1,.val Ja ck.2.2.2.1.2,.val Je ck.2.2.2.2.1,.val Ju ck.2.2.2.2.2.1,.val (.slice Ji) ck.2.2.2.2.2.2]),(2,.arr Ja cx)],3⟩
theorem Zr2(N:Nat){R:Type}(K:Ex->St->Option R){aF:List Int}{eJ:Int}{cU:Kf×List Km×List Kb}{ck:Y_World}{cx:List Int}{K0:Bool->Bool->Int->Bool->Option R}(h0:K0= λpP kE vG t50=>K (.exit 4) (Zqf aF eJ cU ck cx pP kE vG t50))(n:Nat)(eK:Bool)(dB:Bool)(iV:Int):Z2 N aF eJ cU ck cx K0 n eK dB iV=LM Zce N 2 100027 n (Zr1 aF eJ eK dB iV cU ck cx) K:=by
  subst h0
  induction n generalizing eK dB iV with
  |zero=>kernel_rfl
  |succ n ih=>rw[Z2];simp only[ih];kernel_rfl
def Zr3(bn:List Int)(fj:Int)(cy:Kf×List Km×List Kb)(di:Y_World)(cV:List Int):St:=⟨[(0,vV Jm bn),(3,vP 0 0),(9,vP 1 0),(11,vO 2),(12,vI fj)],[(0,.box [.val Jj cy.1.1,.val Jj cy.1.2.1,.val Ja cy.1.2.2,.val Jaa cy.2.1,.val Je cy.2.2]),(1,.box [.val Ja di.1,.val Ja di.2.1,.val Ja di.2.2.1.1,.val Je di.2.2.1.2,.val Jj di.2.2.2.1.1,.val Ja di.2.2.2.1.2,.val Je di.2.2.2.2.1,.val Ju di.2.2.2.2.2.1,.val (.slice Ji) di.2.2.2.2.2.2]),(2,.arr Ja cV)],3⟩
def Zqg(bn:List Int)(cy:Kf×List Km×List Kb)(di:Y_World)(cV:List Int):St:=⟨[(2,vB false)],[],0⟩
def Zqh(bn:List Int)(cy:Kf×List Km×List Kb)(di:Y_World)(cV:List Int)(vH:Int)(vJ:Bool):St:=⟨[(0,vV Jm bn),(3,vP 0 0),(9,vP 1 0),(11,vO 2),(12,vI vH),(96,vB vJ)],[(0,.box [.val Jj cy.1.1,.val Jj cy.1.2.1,.val Ja cy.1.2.2,.val Jaa cy.2.1,.val Je cy.2.2]),(1,.box [.val Ja di.1,.val Ja di.2.1,.val Ja di.2.2.1.1,.val Je di.2.2.1.2,.val Jj di.2.2.2.1.1,.val Ja di.2.2.2.1.2,.val Je di.2.2.2.2.1,.val Ju di.2.2.2.2.2.1,.val (.slice Ji) di.2.2.2.2.2.2]),(2,.arr Ja cV)],3⟩
theorem Zr4(N:Nat){R:Type}(K:Ex->St->Option R){bn:List Int}{cy:Kf×List Km×List Kb}{di:Y_World}{cV:List Int}{K0:Option R}{K1:Int->Bool->Option R}(h0:K0=K .ret (Zqg bn cy di cV))(h1:K1= λvH vJ=>K (.exit 2) (Zqh bn cy di cV vH vJ))(n:Nat)(fj:Int):Z3 N bn cy di cV K0 K1 n fj=LM Zce N 1 100022 n (Zr3 bn fj cy di cV) K:=by
  subst h0 h1
  induction n generalizing fj with
  |zero=>kernel_rfl
  |succ n ih=>rw[Z3];simp(disch:=exact id (by kernel_rfl)) only[ih,Zr2 N (CL Zce N 1 100022 [1,0,0,1,1,0,1,0] n K)];kernel_rfl
theorem Zxv(N:Nat)(ad:List Int):DN Zce N (ad,())=Zez N ad:=by
  conv=>rhs;rw[Zez];simp(disch:=exact id (by kernel_rfl)) only[Zr0 (R:=Unit×Ko) N (CF Zce N [1,1,1,1,1,1,0,1,0]),Zr4 (R:=Unit×Ko) N (CF Zce N [1,1,1,1,1,1,1,1,1,1,0,1,0])]
  kernel_rfl
set_option maxRecDepth 100000 in theorem Zxw (N:Nat):GW 6 (Zop N):=GF Zce N Tryz.func6 (GC (Z1d N) (GC (Zw2 N) (GC (Zw6 N) (GC (Z1g N) (GC (Zxs N) (GC (Z0x N) (GC (Zz8 N) (GC (Zxu N) Wa)))))))) (λ d=>Zxv N d.1)
end
end Go.Sx
