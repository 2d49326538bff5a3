/- Each Go function does what its Lean function says. -/
import Derived.Test.YtkbecidbnjhjcaaGreatD
open List renaming getD→Xb
open Int renaming toNat→Xa
namespace Go.Sx
noncomputable section
open Go.Proofs
set_option linter.unusedVariables false
set_option linter.unusedSimpArgs false
theorem Zna(N:Nat):GW 45 (Zia N):=GF Z4a N Tryz.func45 (GC (Zi4 N) Wg)
def Zfu(N:Nat):Sig:=Sig.of [.v Je false] [.v Jy false] (λd=>Zc5 N d.1)
def Zma:Fn:=⟨Tryz.f20,λ |4=>[.canon [0,3,10]]|5=>[.canon [0,3]]|6=>[.canon [0,3,18]]|7=>[.canon [2]]|100004=>[.canon [0,3]]|_=>[],Zfu,λN=>[(45,Zia N)]⟩
def Zxu(l2:List Int)(i3:Int):St:=⟨[(0,vV Je l2),(3,vI i3)],[],0⟩
def Zu5(l2:List Int):St:=⟨[(2,vB false)],[],0⟩
def Zu6(l2:List Int)(i5:Int)(t6:Bool):St:=⟨[(0,vV Je l2),(3,vI i5),(10,vB t6)],[],0⟩
theorem Zxv(N:Nat){R:Type}(K:Ex->St->Option R){l2:List Int}{K0:Option R}{K1:Int->Bool->Option R}(h0:K0=K .ret (Zu5 l2))(h1:K1= λi5 t6=>K (.exit 0) (Zu6 l2 i5 t6))(n:Nat)(i3:Int):Zdi N l2 K0 K1 n i3=LM Zma N 0 100004 n (Zxu l2 i3) K:=by
  subst h0 h1
  induction n generalizing i3 with
  |zero=>kernel_rfl
  |succ n ih=>rw[Zdi];simp only[ih];kernel_rfl
theorem Z3c(N:Nat)(l1:List Int):DN Zma N (l1,())=Zc5 N l1:=by
  conv=>rhs;rw[Zc5];simp(disch:=exact id (by kernel_rfl)) only[Zxv (R:=Unit×Ko) N (CF Zma N [1,1,0,1,0])]
  kernel_rfl
theorem Zjm(N:Nat):GW 20 (Zfu N):=GF Zma N Tryz.func20 (GC (Zna N) Wg) (λd=>Z3c N d.1)
def Zj1(N:Nat):Sig:=Sig.of [.v Jx true] [.v Jy false] (λd=>Zfk N d.1)
def Zj2:Fn:=⟨Tryz.f18,λ |4=>[.canon [1,3,24]]|5=>[.canon [1,3]]|6=>[.canon [1,3,33]]|7=>[.canon [2]]|100004=>[.canon [1,3]]|_=>[],Zj1,λN=>[(20,Zfu N),(45,Zia N),(46,Zgd N)]⟩
def Zs2(i4:Int)(b5:List Int×List Int×Int):St:=⟨[(1,vP 0 0),(3,vI i4)],[(0,.box [.val Je b5.1,.val Je b5.2.1,.val Ja b5.2.2])],1⟩
def Zrp(b5:List Int×List Int×Int):St:=⟨[(2,vB false)],[],0⟩
def Zrq(b5:List Int×List Int×Int)(i7:Int)(t8:Bool):St:=⟨[(1,vP 0 0),(3,vI i7),(24,vB t8)],[(0,.box [.val Je b5.1,.val Je b5.2.1,.val Ja b5.2.2])],1⟩
theorem Zs3(N:Nat){R:Type}(K:Ex->St->Option R){b5:List Int×List Int×Int}{K0:Option R}{K1:Int->Bool->Option R}(h0:K0=K .ret (Zrp b5))(h1:K1= λi7 t8=>K (.exit 0) (Zrq b5 i7 t8))(n:Nat)(i4:Int):Zbu N b5 K0 K1 n i4=LM Zj2 N 0 100004 n (Zs2 i4 b5) K:=by
  subst h0 h1
  induction n generalizing i4 with
  |zero=>kernel_rfl
  |succ n ih=>rw[Zbu];simp only[ih];kernel_rfl
theorem Z0t(N:Nat)(s1:List Int×List Int×Int):DN Zj2 N (s1,())=Zfk N s1:=by
  conv=>rhs;rw[Zfk];simp(disch:=exact id (by kernel_rfl)) only[Zs3 (R:=Unit×Ko) N (CF Zj2 N [1,1,0,1,0])]
  kernel_rfl
theorem Zp5(N:Nat):GW 18 (Zj1 N):=GF Zj2 N Tryz.func18 (GC (Zjm N) (GC (Zna N) (GC (Zi4 N) Wg))) (λd=>Z0t N d.1)
def Zpj(N:Nat):Sig:=Sig.of [.v Ja false] [.v Jy false] (λd=>Zbz N d.1)
def Z4b:Fn:=⟨Tryz.f134,WI,Zpj,λN=>[(46,Zgd N)]⟩
theorem Z4c(N:Nat):GW 134 (Zpj N):=GF Z4b N Tryz.func134 (GC (Zi4 N) Wg)
def Zjn(N:Nat):Sig:=Sig.of [.v Ja false] [.v Jy false] (λd=>Zc6 N d.1)
def Z3d:Fn:=⟨Tryz.f50,WI,Zjn,λN=>[(46,Zgd N)]⟩
theorem Zo2(N:Nat):GW 50 (Zjn N):=GF Z3d N Tryz.func50 (GC (Zi4 N) Wg)
def Znx(N:Nat):Sig:=Sig.of [.v Ju true] [.v Jy false] (λd=>Zll N d.1)
def Z4s:Fn:=⟨Tryz.f93,WI,Znx,λN=>[(134,Zpj N),(45,Zia N),(50,Zjn N),(46,Zgd N)]⟩
theorem Zwg(N:Nat):GW 93 (Znx N):=GF Z4s N Tryz.func93 (GC (Z4c N) (GC (Zna N) (GC (Zo2 N) (GC (Zi4 N) Wg))))
def Zo3(N:Nat):Sig:=Sig.of [.v Jh false,.v Ja false] [.v Jy false] (λd=>Ziw N d.1 d.2.1)
def Zmb:Fn:=⟨Tryz.f94,λ |6=>[.canon [0,5,6,7,24]]|7=>[.canon [0,5,6,7]]|8=>[.canon [0,5,6,7,32]]|9=>[.canon [0,5,6,7]]|10=>[.canon [0,5,6,7,40]]|11=>[.canon [0,5,6,7]]|12=>[.canon [0,5,6,7,44]]|13=>[.canon [4]]|100006=>[.canon [0,5,6,7]]|_=>[],Zo3,Wbo⟩
def Zxw(af:List Ka)(gm:Int)(d5:Int)(k6:Int):St:=⟨[(0,vV Jh af),(5,vI gm),(6,vI d5),(7,vI k6)],[],0⟩
def Zu7(af:List Ka)(gm:Int):St:=⟨[(4,vB false)],[],0⟩
def Zu8(af:List Ka)(gm:Int)(d7:Int)(k8:Int)(t9:Bool):St:=⟨[(0,vV Jh af),(5,vI gm),(6,vI d7),(7,vI k8),(24,vB t9)],[],0⟩
theorem Zxx(N:Nat){R:Type}(K:Ex->St->Option R){af:List Ka}{gm:Int}{K0:Option R}{K1:Int->Int->Bool->Option R}(h0:K0=K .ret (Zu7 af gm))(h1:K1= λd7 k8 t9=>K (.exit 0) (Zu8 af gm d7 k8 t9))(n:Nat)(d5:Int)(k6:Int):Za5 N af gm K0 K1 n d5 k6=LM Zmb N 0 100006 n (Zxw af gm d5 k6) K:=by
  subst h0 h1
  induction n generalizing d5 k6 with
  |zero=>kernel_rfl
  |succ n ih=>rw[Za5];simp only[ih];kernel_rfl
theorem Z3e(N:Nat)(ad:List Ka)(i2:Int):DN Zmb N (ad,i2,())=Ziw N ad i2:=by
  conv=>rhs;rw[Ziw];simp(disch:=exact id (by kernel_rfl)) only[Zxx (R:=Unit×Ko) N (CF Zmb N [1,1,1,1,0,1,0])]
  kernel_rfl
theorem Z3f(N:Nat):GW 94 (Zo3 N):=GF Zmb N Tryz.func94 Wg (λd=>Z3e N d.1 d.2.1)
def Zmc(N:Nat):Sig:=Sig.of [.v Jh false] [.v Jy false] (λd=>Zhl N d.1)
def Zmd:Fn:=⟨Tryz.f47,λ |6=>[.canon [0,3,4,5,12]]|7=>[.canon [0,3,4,5]]|8=>[.canon [0,3,4,5,20]]|9=>[.canon [2]]|10=>[.canon [0,3,4,5,25]]|11=>[.canon [0,3,4,5,25,26]]|12=>[.canon [0,3,4,5]]|13=>[.canon [0,3,4,5,25,30]]|14=>[.canon [0,3,4,5]]|15=>[.canon [0,3,4,5,25,34]]|16=>[.canon [0,3,4,5,39]]|17=>[.canon [2]]|18=>[.canon [0,3,4,5,40]]|19=>[.canon [0,3,4,5]]|20=>[.canon [0,3,4,5,49]]|21=>[.canon [2]]|22=>[.canon [0,3,4,5,51]]|23=>[.canon [2]]|100006=>[.canon [0,3,4,5]]|_=>[],Zmc,λN=>[(93,Znx N),(94,Zo3 N)]⟩
def Zxy(aa:List Ka)(d3:Int)(aD:Int)(i5:Int):St:=⟨[(0,vV Jh aa),(3,vI d3),(4,vI aD),(5,vI i5)],[],0⟩
def Zu9(aa:List Ka):St:=⟨[(2,vB false)],[],0⟩
def Zva(aa:List Ka)(d8:Int)(gW:Int)(ae:Int)(ay:Bool):St:=⟨[(0,vV Jh aa),(3,vI d8),(4,vI gW),(5,vI ae),(12,vB ay)],[],0⟩
theorem Zxz(N:Nat){R:Type}(K:Ex->St->Option R){aa:List Ka}{K0:Option R}{K1:Int->Int->Int->Bool->Option R}(h0:K0=K .ret (Zu9 aa))(h1:K1= λd8 gW ae ay=>K (.exit 0) (Zva aa d8 gW ae ay))(n:Nat)(d3:Int)(aD:Int)(i5:Int):Za6 N aa K0 K1 n d3 aD i5=LM Zmd N 0 100006 n (Zxy aa d3 aD i5) K:=by
  subst h0 h1
  induction n generalizing d3 aD i5 with
  |zero=>kernel_rfl
  |succ n ih=>rw[Za6];simp only[ih];kernel_rfl
theorem Z3g(N:Nat)(ad:List Ka):DN Zmd N (ad,())=Zhl N ad:=by
  conv=>rhs;rw[Zhl];simp(disch:=exact id (by kernel_rfl)) only[Zxz (R:=Unit×Ko) N (CF Zmd N [1,1,1,1,0,1,0])]
  kernel_rfl
theorem Zq8(N:Nat):GW 47 (Zmc N):=GF Zmd N Tryz.func47 (GC (Zwg N) (GC (Z3f N) Wg)) (λd=>Z3g N d.1)
def Zk9(N:Nat):Sig:=Sig.of [.v Jh false] [.v Jy false] (λd=>Zgm N d.1)
def Zla:Fn:=⟨Tryz.f48,λ |2=>[.canon [0,3,7]]|3=>[.canon [0,3]]|4=>[.canon [0,3,15]]|5=>[.canon [2]]|100002=>[.canon [0,3]]|_=>[],Zk9,Wbo⟩
def Zvb(aa:List Ka)(i3:Int):St:=⟨[(0,vV Jh aa),(3,vI i3)],[],0⟩
def Zs4(aa:List Ka):St:=⟨[(2,vB true)],[],0⟩
def Zs5(aa:List Ka)(i4:Int)(t5:Bool):St:=⟨[(0,vV Jh aa),(3,vI i4),(7,vB t5)],[],0⟩
theorem Zvc(N:Nat){R:Type}(K:Ex->St->Option R){aa:List Ka}{K0:Option R}{K1:Int->Bool->Option R}(h0:K0=K .ret (Zs4 aa))(h1:K1= λi4 t5=>K (.exit 0) (Zs5 aa i4 t5))(n:Nat)(i3:Int):Zcq N aa K0 K1 n i3=LM Zla N 0 100002 n (Zvb aa i3) K:=by
  subst h0 h1
  induction n generalizing i3 with
  |zero=>kernel_rfl
  |succ n ih=>rw[Zcq];simp only[ih];kernel_rfl
theorem Z17(N:Nat)(ad:List Ka):DN Zla N (ad,())=Zgm N ad:=by
  conv=>rhs;rw[Zgm];simp(disch:=exact id (by kernel_rfl)) only[Zvc (R:=Unit×Ko) N (CF Zla N [1,0,1,0])]
  kernel_rfl
theorem Zqk(N:Nat):GW 48 (Zk9 N):=GF Zla N Tryz.func48 Wg (λd=>Z17 N d.1)
def Zog(N:Nat):Sig:=Sig.of [.v Ju true] [.v Ja false] (λd=>Zcc N d.1)
def Z18:Fn:=⟨Tryz.f95,WI,Zog,λN=>[(93,Znx N)]⟩
theorem Z19(N:Nat):GW 95 (Zog N):=GF Z18 N Tryz.func95 (GC (Zwg N) Wg)
def Zpk(N:Nat):Sig:=Sig.of [.v Jh false] [.v Jy false] (λd=>Zib N d.1)
def Znb:Fn:=⟨Tryz.f49,λ |4=>[.canon [0,3,14]]|5=>[.canon [0,3]]|6=>[.canon [0,3,22]]|7=>[.canon [2]]|100004=>[.canon [0,3]]|_=>[],Zpk,λN=>[(47,Zmc N),(48,Zk9 N),(95,Zog N)]⟩
def Zz2(aM:List Ka)(i5:Int):St:=⟨[(0,vV Jh aM),(3,vI i5)],[],0⟩
def Zx0(aM:List Ka):St:=⟨[(2,vB false)],[],0⟩
def Zx1(aM:List Ka)(i7:Int)(t8:Bool):St:=⟨[(0,vV Jh aM),(3,vI i7),(14,vB t8)],[],0⟩
theorem Zz3(N:Nat){R:Type}(K:Ex->St->Option R){aM:List Ka}{K0:Option R}{K1:Int->Bool->Option R}(h0:K0=K .ret (Zx0 aM))(h1:K1= λi7 t8=>K (.exit 0) (Zx1 aM i7 t8))(n:Nat)(i5:Int):Zel N aM K0 K1 n i5=LM Znb N 0 100004 n (Zz2 aM i5) K:=by
  subst h0 h1
  induction n generalizing i5 with
  |zero=>kernel_rfl
  |succ n ih=>rw[Zel];simp only[ih];kernel_rfl
theorem Z4d(N:Nat)(ad:List Ka):DN Znb N (ad,())=Zib N ad:=by
  conv=>rhs;rw[Zib];simp(disch:=exact id (by kernel_rfl)) only[Zz3 (R:=Unit×Ko) N (CF Znb N [1,1,0,1,0])]
  kernel_rfl
theorem Z4e(N:Nat):GW 49 (Zpk N):=GF Znb N Tryz.func49 (GC (Zq8 N) (GC (Zqk N) (GC (Z19 N) Wg))) (λd=>Z4d N d.1)
def Zo4(N:Nat):Sig:=Sig.of [.v Jo true] [.v Jy false] (λd=>Zho N d.1)
def Zme:Fn:=⟨Tryz.f19,λ |4=>[.canon [1,3,28]]|5=>[.canon [1,3]]|6=>[.canon [1,3,38]]|7=>[.canon [2]]|100004=>[.canon [1,3]]|_=>[],Zo4,λN=>[(47,Zmc N),(48,Zk9 N),(49,Zpk N)]⟩
def Zx2(i4:Int)(b5:List Ka×List Kx):St:=⟨[(1,vP 0 0),(3,vI i4)],[(0,.box [.val Jh b5.1,.val (.slice Jh) b5.2])],1⟩
def Zvd(b5:List Ka×List Kx):St:=⟨[(2,vB false)],[],0⟩
def Zve(b5:List Ka×List Kx)(i7:Int)(t8:Bool):St:=⟨[(1,vP 0 0),(3,vI i7),(28,vB t8)],[(0,.box [.val Jh b5.1,.val (.slice Jh) b5.2])],1⟩
theorem Zx3(N:Nat){R:Type}(K:Ex->St->Option R){b5:List Ka×List Kx}{K0:Option R}{K1:Int->Bool->Option R}(h0:K0=K .ret (Zvd b5))(h1:K1= λi7 t8=>K (.exit 0) (Zve b5 i7 t8))(n:Nat)(i4:Int):Zce N b5 K0 K1 n i4=LM Zme N 0 100004 n (Zx2 i4 b5) K:=by
  subst h0 h1
  induction n generalizing i4 with
  |zero=>kernel_rfl
  |succ n ih=>rw[Zce];simp only[ih];kernel_rfl
theorem Z3h(N:Nat)(p1:List Ka×List Kx):DN Zme N (p1,())=Zho N p1:=by
  conv=>rhs;rw[Zho];simp(disch:=exact id (by kernel_rfl)) only[Zx3 (R:=Unit×Ko) N (CF Zme N [1,1,0,1,0])]
  kernel_rfl
theorem Z3i(N:Nat):GW 19 (Zo4 N):=GF Zme N Tryz.func19 (GC (Zq8 N) (GC (Zqk N) (GC (Z4e N) Wg))) (λd=>Z3h N d.1)
def Znk(N:Nat):Sig:=Sig.of [.v Jag true] [.v Jy false] (λd=>Zhd N d.1)
def Zj3:Fn:=⟨Tryz.f7,λ |4=>[.canon [1,3,24]]|5=>[.canon [1,3]]|6=>[.canon [1,3,33]]|7=>[.canon [2]]|100004=>[.canon [1,3]]|_=>[],Znk,λN=>[(18,Zj1 N),(19,Zo4 N)]⟩
def Zs6(i3:Int)(b4:Kf×List Km×List Kb):St:=⟨[(1,vP 0 0),(3,vI i3)],[(0,.box [.val Je b4.1.1,.val Je b4.1.2.1,.val Ja b4.1.2.2,.val Jab b4.2.1,.val Jk b4.2.2])],1⟩
def Zrr(b4:Kf×List Km×List Kb):St:=⟨[(2,vB false)],[],0⟩
def Zrs(b4:Kf×List Km×List Kb)(i6:Int)(t7:Bool):St:=⟨[(1,vP 0 0),(3,vI i6),(24,vB t7)],[(0,.box [.val Je b4.1.1,.val Je b4.1.2.1,.val Ja b4.1.2.2,.val Jab b4.2.1,.val Jk b4.2.2])],1⟩
theorem Zs7(N:Nat){R:Type}(K:Ex->St->Option R){b4:Kf×List Km×List Kb}{K0:Option R}{K1:Int->Bool->Option R}(h0:K0=K .ret (Zrr b4))(h1:K1= λi6 t7=>K (.exit 0) (Zrs b4 i6 t7))(n:Nat)(i3:Int):Zbv N b4 K0 K1 n i3=LM Zj3 N 0 100004 n (Zs6 i3 b4) K:=by
  subst h0 h1
  induction n generalizing i3 with
  |zero=>kernel_rfl
  |succ n ih=>rw[Zbv];simp only[ih];kernel_rfl
theorem Z0u(N:Nat)(s1:Kf×List Km×List Kb):DN Zj3 N (s1,())=Zhd N s1:=by
  conv=>rhs;rw[Zhd];simp(disch:=exact id (by kernel_rfl)) only[Zs7 (R:=Unit×Ko) N (CF Zj3 N [1,1,0,1,0])]
  kernel_rfl
theorem Z0v(N:Nat):GW 7 (Znk N):=GF Zj3 N Tryz.func7 (GC (Zp5 N) (GC (Z3i N) Wg)) (λd=>Z0u N d.1)
def Zfv(N:Nat):Sig:=Sig.of [.v Jc false] [.v Jy false] (λd=>Zca N d.1)
def Zmf:Fn:=⟨Tryz.f24,λ |4=>[.canon [0,3,10]]|5=>[.canon [0,3]]|6=>[.canon [0,3,28]]|7=>[.canon [2]]|100004=>[.canon [0,3]]|_=>[],Zfv,λN=>[(50,Zjn N),(45,Zia N)]⟩
def Zx4(l2:List Kc)(i3:Int):St:=⟨[(0,vV Jc l2),(3,vI i3)],[],0⟩
def Zvf(l2:List Kc):St:=⟨[(2,vB false)],[],0⟩
def Zvg(l2:List Kc)(i6:Int)(t7:Bool):St:=⟨[(0,vV Jc l2),(3,vI i6),(10,vB t7)],[],0⟩
theorem Zx5(N:Nat){R:Type}(K:Ex->St->Option R){l2:List Kc}{K0:Option R}{K1:Int->Bool->Option R}(h0:K0=K .ret (Zvf l2))(h1:K1= λi6 t7=>K (.exit 0) (Zvg l2 i6 t7))(n:Nat)(i3:Int):Zdj N l2 K0 K1 n i3=LM Zmf N 0 100004 n (Zx4 l2 i3) K:=by
  subst h0 h1
  induction n generalizing i3 with
  |zero=>kernel_rfl
  |succ n ih=>rw[Zdj];simp only[ih];kernel_rfl
theorem Z3j(N:Nat)(l1:List Kc):DN Zmf N (l1,())=Zca N l1:=by
  conv=>rhs;rw[Zca];simp(disch:=exact id (by kernel_rfl)) only[Zx5 (R:=Unit×Ko) N (CF Zmf N [1,1,0,1,0])]
  kernel_rfl
theorem Zjo(N:Nat):GW 24 (Zfv N):=GF Zmf N Tryz.func24 (GC (Zo2 N) (GC (Zna N) Wg)) (λd=>Z3j N d.1)
def Zjp(N:Nat):Sig:=Sig.of [.v Jt false] [.v Jy false] (λd=>Zgc N d.1)
def Zhh:Fn:=⟨Tryz.f21,λ |4=>[.canon [0,3,11]]|5=>[.canon [0,3]]|6=>[.canon [0,3,38]]|7=>[.canon [2]]|8=>[.canon [0,3,4]]|9=>[.canon [0,3,4,41]]|10=>[.canon [0,3,4]]|11=>[.canon [0,3,4,54]]|12=>[.canon [2]]|100004=>[.canon [0,3]]|100009=>[.canon [0,3,4]]|_=>[],Zjp,λN=>[(46,Zgd N),(24,Zfv N)]⟩
def Zx6(l7:List Kn)(i8:Int)(k9:Int):St:=⟨[(0,vV Jt l7),(3,vI i8),(4,vI k9)],[],0⟩
def Zvh(l7:List Kn)(i8:Int):St:=⟨[(2,vB false)],[],0⟩
def Zvi(l7:List Kn)(i8:Int)(k10:Int)(ay:Bool):St:=⟨[(0,vV Jt l7),(3,vI i8),(4,vI k10),(41,vB ay)],[],0⟩
theorem Zx7(N:Nat){R:Type}(K:Ex->St->Option R){l7:List Kn}{i8:Int}{K0:Option R}{K1:Int->Bool->Option R}(h0:K0=K .ret (Zvh l7 i8))(h1:K1= λk10 ay=>K (.exit 2) (Zvi l7 i8 k10 ay))(n:Nat)(k9:Int):Zdo N l7 i8 K0 K1 n k9=LM Zhh N 1 100009 n (Zx6 l7 i8 k9) K:=by
  subst h0 h1
  induction n generalizing k9 with
  |zero=>kernel_rfl
  |succ n ih=>rw[Zdo];simp only[ih];kernel_rfl
def Zx8(l2:List Kn)(i3:Int):St:=⟨[(0,vV Jt l2),(3,vI i3)],[],0⟩
def Zvj(l2:List Kn):St:=⟨[(2,vB false)],[],0⟩
def Zvk(l2:List Kn)(eZ:Int)(aX:Bool):St:=⟨[(0,vV Jt l2),(3,vI eZ),(11,vB aX)],[],0⟩
theorem Zx9(N:Nat){R:Type}(K:Ex->St->Option R){l2:List Kn}{K0:Option R}{K1:Int->Bool->Option R}(h0:K0=K .ret (Zvj l2))(h1:K1= λeZ aX=>K (.exit 0) (Zvk l2 eZ aX))(n:Nat)(i3:Int):Zdp N l2 K0 K1 n i3=LM Zhh N 0 100004 n (Zx8 l2 i3) K:=by
  subst h0 h1
  induction n generalizing i3 with
  |zero=>kernel_rfl
  |succ n ih=>rw[Zdp];simp(disch:=exact id (by kernel_rfl)) only[ih,Zx7 N (CL Zhh N 0 100004 [1,0,0,1,1,0] n K)];kernel_rfl
theorem Z3k(N:Nat)(l1:List Kn):DN Zhh N (l1,())=Zgc N l1:=by
  conv=>rhs;rw[Zgc];simp(disch:=exact id (by kernel_rfl)) only[Zx9 (R:=Unit×Ko) N (CF Zhh N [1,1,0,1,0])]
  kernel_rfl
theorem Zo5(N:Nat):GW 21 (Zjp N):=GF Zhh N Tryz.func21 (GC (Zi4 N) (GC (Zjo N) Wg)) (λd=>Z3k N d.1)
def Zo6(N:Nat):Sig:=Sig.of [.v Jt false] [.v Jf false] (λd=>Zi2 N d.1)
def Zhi:Fn:=⟨Tryz.f22,λ |5=>[.canon [0,3,4,16]]|6=>[.canon [0,3,4,5]]|7=>[.canon [0,3,4,5,6]]|8=>[.canon [0,3,4,5,6,20]]|9=>[.canon [0,3,4,5,6]]|10=>[.canon [0,3,4,5,6,38]]|11=>[.canon [0,3,4,5,6]]|12=>[.canon [0,3,5]]|13=>[.canon [0,3,4]]|100005=>[.canon [0,3,4]]|100008=>[.canon [0,3,4,5,6]]|_=>[],Zo6,λN=>[(21,Zjp N)]⟩
def Zya(l6:List Kn)(cA:Int)(c8:Int)(i9:Int)(bw:List Int):St:=⟨[(0,vV Jt l6),(3,vO 0),(4,vI cA),(5,vI c8),(6,vI i9)],[(0,.arr Ja bw)],1⟩
def Zvl(l6:List Kn)(cA:Int)(bw:List Int)(gX:Int)(tP:Int)(aF:Bool):St:=⟨[(0,vV Jt l6),(3,vO 0),(4,vI cA),(5,vI gX),(6,vI tP),(20,vB aF)],[(0,.arr Ja bw)],1⟩
theorem Zyb(N:Nat){R:Type}(K:Ex->St->Option R){l6:List Kn}{cA:Int}{bw:List Int}{K0:Int->Int->Bool->Option R}(h0:K0= λgX tP aF=>K (.exit 2) (Zvl l6 cA bw gX tP aF))(n:Nat)(c8:Int)(i9:Int):Zbg N l6 cA bw K0 n c8 i9=LM Zhi N 1 100008 n (Zya l6 cA c8 i9 bw) K:=by
  subst h0
  induction n generalizing c8 i9 with
  |zero=>kernel_rfl
  |succ n ih=>rw[Zbg];simp only[ih];kernel_rfl
def Zyc(l3:List Kn)(dN:Int)(l5:List Int):St:=⟨[(0,vV Jt l3),(3,vO 0),(4,vI dN)],[(0,.arr Ja l5)],1⟩
def Zvm(l3:List Kn)(gY:Int)(eI:Bool)(cM:List Int):St:=⟨[(0,vV Jt l3),(3,vO 0),(4,vI gY),(16,vB eI)],[(0,.arr Ja cM)],1⟩
theorem Zyd(N:Nat){R:Type}(K:Ex->St->Option R){l3:List Kn}{K0:Int->Bool->Kh->Option R}(h0:K0= λgY eI cM=>K (.exit 0) (Zvm l3 gY eI cM))(n:Nat)(dN:Int)(l5:List Int):Zdq N l3 K0 n dN l5=LM Zhi N 0 100005 n (Zyc l3 dN l5) K:=by
  subst h0
  induction n generalizing dN l5 with
  |zero=>kernel_rfl
  |succ n ih=>rw[Zdq];simp(disch:=exact id (by kernel_rfl)) only[ih,Zyb N (CL Zhi N 0 100005 [1,0,1,0,1,0] n K)];kernel_rfl
theorem Z3l(N:Nat)(l1:List Kn):DN Zhi N (l1,())=Zi2 N l1:=by
  conv=>rhs;rw[Zi2];simp(disch:=exact id (by kernel_rfl)) only[Zyd (R:=Unit×Ky) N (CF Zhi N [1,1,1,1,0,0])]
  kernel_rfl
theorem Z3m(N:Nat):GW 22 (Zo6 N):=GF Zhi N Tryz.func22 (GC (Zo5 N) Wg) (λd=>Z3l N d.1)
def Zlb(N:Nat):Sig:=Sig.of [.v Je false,.v Jc false] [.v Jf false] (λd=>Zde N d.1 d.2.1)
def Zlc:Fn:=⟨Tryz.f23,λ |5=>[.canon [1,5,6,22]]|6=>[.canon [1,5,6]]|7=>[.canon [1,5,6]]|100005=>[.canon [1,5,6]]|_=>[],Zlb,λN=>[(20,Zfu N),(24,Zfv N)]⟩
def Zvn(l5:List Kc)(i6:Int)(l7:List Int):St:=⟨[(1,vV Jc l5),(5,vO 0),(6,vI i6)],[(0,.arr Ja l7)],1⟩
def Zs8(l5:List Kc)(i8:Int)(t9:Bool)(bw:List Int):St:=⟨[(1,vV Jc l5),(5,vO 0),(6,vI i8),(22,vB t9)],[(0,.arr Ja bw)],1⟩
theorem Zvo(N:Nat){R:Type}(K:Ex->St->Option R){l5:List Kc}{K0:Int->Bool->Kh->Option R}(h0:K0= λi8 t9 bw=>K (.exit 0) (Zs8 l5 i8 t9 bw))(n:Nat)(i6:Int)(l7:List Int):Zcw N l5 K0 n i6 l7=LM Zlc N 0 100005 n (Zvn l5 i6 l7) K:=by
  subst h0
  induction n generalizing i6 l7 with
  |zero=>kernel_rfl
  |succ n ih=>rw[Zcw];simp only[ih];kernel_rfl
theorem Z2a(N:Nat)(aH:List Int)(l2:List Kc):DN Zlc N (aH,l2,())=Zde N aH l2:=by
  conv=>rhs;rw[Zde];simp(disch:=exact id (by kernel_rfl)) only[Zvo (R:=Unit×Ky) N (CF Zlc N [1,1,1,0,1,0])]
  kernel_rfl
theorem Zql(N:Nat):GW 23 (Zlb N):=GF Zlc N Tryz.func23 (GC (Zjm N) (GC (Zjo N) Wg)) (λd=>Z2a N d.1 d.2.1)
def Zld(N:Nat):Sig:=Sig.of [.v Je false,.v Jt false,.v Ja false] [.v Jf false] (λd=>Ze4 N d.1 d.2.1 d.2.2.1)
def Zgw:Fn:=⟨Tryz.f8,λ |6=>[.canon [1,2,7,8,9,36]]|7=>[.canon [1,2,7,8,9]]|8=>[.canon [1,2,7,8,9,10]]|9=>[.canon [1,2,7,8,9,10,42]]|10=>[.canon [1,2,7,8,9,10]]|11=>[.canon [1,2,7,8,9,10,54]]|12=>[.canon [1,2,7,8,9,10]]|100006=>[.canon [1,2,7,8,9]]|100009=>[.canon [1,2,7,8,9,10]]|_=>[],Zld,λN=>[(20,Zfu N),(21,Zjp N),(22,Zo6 N),(23,Zlb N)]⟩
def Zvp(aK:List Kn)(kD:Int)(eZ:Int)(eJ:Int)(dg:List Int)(cI:List Int):St:=⟨[(1,vV Jt aK),(2,vI kD),(7,vO 0),(8,vO 1),(9,vI eZ),(10,vI eJ)],[(0,.arr Ja dg),(1,.arr Ja cI)],2⟩
def Zs9(aK:List Kn)(kD:Int)(eZ:Int)(cI:List Int)(rK:Int)(fJ:Bool)(bz:List Int):St:=⟨[(1,vV Jt aK),(2,vI kD),(7,vO 0),(8,vO 1),(9,vI eZ),(10,vI rK),(42,vB fJ)],[(0,.arr Ja bz),(1,.arr Ja cI)],2⟩
theorem Zvq(N:Nat){R:Type}(K:Ex->St->Option R){aK:List Kn}{kD:Int}{eZ:Int}{cI:List Int}{K0:Int->Bool->Kh->Option R}(h0:K0= λrK fJ bz=>K (.exit 2) (Zs9 aK kD eZ cI rK fJ bz))(n:Nat)(eJ:Int)(dg:List Int):Zbm N aK kD eZ cI K0 n eJ dg=LM Zgw N 1 100009 n (Zvp aK kD eZ eJ dg cI) K:=by
  subst h0
  induction n generalizing eJ dg with
  |zero=>kernel_rfl
  |succ n ih=>rw[Zbm];simp only[ih];kernel_rfl
def Zvr(l7:List Kn)(n8:Int)(i9:Int)(bw:List Int)(aq:List Int):St:=⟨[(1,vV Jt l7),(2,vI n8),(7,vO 0),(8,vO 1),(9,vI i9)],[(0,.arr Ja bw),(1,.arr Ja aq)],2⟩
def Zta(l7:List Kn)(n8:Int)(aq:List Int)(tQ:Int)(kC:Bool)(eb:List Int):St:=⟨[(1,vV Jt l7),(2,vI n8),(7,vO 0),(8,vO 1),(9,vI tQ),(36,vB kC)],[(0,.arr Ja eb),(1,.arr Ja aq)],2⟩
theorem Zvs(N:Nat){R:Type}(K:Ex->St->Option R){l7:List Kn}{n8:Int}{aq:List Int}{K0:Int->Bool->Kh->Option R}(h0:K0= λtQ kC eb=>K (.exit 0) (Zta l7 n8 aq tQ kC eb))(n:Nat)(i9:Int)(bw:List Int):Zcx N l7 n8 aq K0 n i9 bw=LM Zgw N 0 100006 n (Zvr l7 n8 i9 bw aq) K:=by
  subst h0
  induction n generalizing i9 bw with
  |zero=>kernel_rfl
  |succ n ih=>rw[Zcx];simp(disch:=exact id (by kernel_rfl)) only[ih,Zvq N (CL Zgw N 0 100006 [1,0,0,1,0] n K)];kernel_rfl
theorem Z2b(N:Nat)(aH:List Int)(l2:List Kn)(n3:Int):DN Zgw N (aH,l2,n3,())=Ze4 N aH l2 n3:=by
  conv=>rhs;rw[Ze4];simp(disch:=exact id (by kernel_rfl)) only[Zvs (R:=Unit×Ky) N (CF Zgw N [1,1,1,1,0,1,0])]
  kernel_rfl
theorem Zqm(N:Nat):GW 8 (Zld N):=GF Zgw N Tryz.func8 (GC (Zjm N) (GC (Zo5 N) (GC (Z3m N) (GC (Zql N) Wg)))) (λd=>Z2b N d.1 d.2.1 d.2.2.1)
def Zpl(N:Nat):Sig:=Sig.of [.v Je false,.v (TY_Family) true,.v Ja false] [.v Jf false] (λd=>Zka N d.1 d.2.1 d.2.2.1)
def Znc:Fn:=⟨Tryz.f51,λ |5=>[.canon [2,4,7,8,33]]|6=>[.canon [2,4,7,8]]|7=>[.canon [2,4,7,8,9]]|8=>[.canon [2,4,7,8,9,58]]|9=>[.canon [2,4,7,8]]|100005=>[.canon [2,4,7,8]]|_=>[],Zpl,λN=>[(20,Zfu N),(24,Zfv N),(23,Zlb N)]⟩
def Zz4(n7:Int)(i8:Int)(b9:Y_Family)(bw:List Int):St:=⟨[(2,vI n7),(4,vP 0 0),(7,vO 1),(8,vI i8)],[(0,.box [.val Ja b9.1,.val Ja b9.2.1,.val Ja b9.2.2.1,.val Jy b9.2.2.2.1,.val Je b9.2.2.2.2.1,.val Jc b9.2.2.2.2.2.1,.val Jk b9.2.2.2.2.2.2.1,.val Je b9.2.2.2.2.2.2.2.1,.val Jc b9.2.2.2.2.2.2.2.2.1,.val Jr b9.2.2.2.2.2.2.2.2.2]),(1,.arr Ja bw)],2⟩
def Zye(n7:Int)(b9:Y_Family)(tR:Int)(au:Bool)(aO:List Int):St:=⟨[(2,vI n7),(4,vP 0 0),(7,vO 1),(8,vI tR),(33,vB au)],[(0,.box [.val Ja b9.1,.val Ja b9.2.1,.val Ja b9.2.2.1,.val Jy b9.2.2.2.1,.val Je b9.2.2.2.2.1,.val Jc b9.2.2.2.2.2.1,.val Jk b9.2.2.2.2.2.2.1,.val Je b9.2.2.2.2.2.2.2.1,.val Jc b9.2.2.2.2.2.2.2.2.1,.val Jr b9.2.2.2.2.2.2.2.2.2]),(1,.arr Ja aO)],2⟩
theorem Zz5(N:Nat){R:Type}(K:Ex->St->Option R){n7:Int}{b9:Y_Family}{K0:Int->Bool->Kh->Option R}(h0:K0= λtR au aO=>K (.exit 0) (Zye n7 b9 tR au aO))(n:Nat)(i8:Int)(bw:List Int):Zbq N n7 b9 K0 n i8 bw=LM Znc N 0 100005 n (Zz4 n7 i8 b9 bw) K:=by
  subst h0
  induction n generalizing i8 bw with
  |zero=>kernel_rfl
  |succ n ih=>rw[Zbq];simp only[ih];kernel_rfl
theorem Z4f(N:Nat)(be:List Int)(f2:Y_Family)(n3:Int):DN Znc N (be,f2,n3,())=Zka N be f2 n3:=by
  conv=>rhs;rw[Zka];simp(disch:=exact id (by kernel_rfl)) only[Zz5 (R:=Unit×Ky) N (CF Znc N [1,1,1,0,1,0])]
  kernel_rfl
theorem Z4g(N:Nat):GW 51 (Zpl N):=GF Znc N Tryz.func51 (GC (Zjm N) (GC (Zjo N) (GC (Zql N) Wg))) (λd=>Z4f N d.1 d.2.1 d.2.2.1)
def Zoh(N:Nat):Sig:=Sig.of [.v Je false,.v (TY_Family) true] [.v Jy false] (λd=>Zh6 N d.1 d.2.1)
def Zgx:Fn:=⟨Tryz.f25,λ |4=>[.canon [0,3,5,22]]|5=>[.canon [0,3,5]]|6=>[.canon [0,3,5,6]]|7=>[.canon [0,3,5,6,7]]|8=>[.canon [0,3,5,6,7,42]]|9=>[.canon [0,3,5,6,7]]|10=>[.canon [0,3,5,6,7,8]]|11=>[.canon [0,3,5,6,7,67]]|12=>[.canon [4]]|100004=>[.canon [0,3,5]]|100008=>[.canon [0,3,5,6,7]]|_=>[],Zoh,λN=>[(20,Zfu N),(24,Zfv N),(51,Zpl N),(50,Zjn N)]⟩
def Zvt(cP:List Int)(ae:Int)(bP:Int)(aG:Y_Family)(aJ:List Int):St:=⟨[(0,vV Je cP),(3,vP 0 0),(5,vI ae),(6,vO 1),(7,vI bP)],[(0,.box [.val Ja aG.1,.val Ja aG.2.1,.val Ja aG.2.2.1,.val Jy aG.2.2.2.1,.val Je aG.2.2.2.2.1,.val Jc aG.2.2.2.2.2.1,.val Jk aG.2.2.2.2.2.2.1,.val Je aG.2.2.2.2.2.2.2.1,.val Jc aG.2.2.2.2.2.2.2.2.1,.val Jr aG.2.2.2.2.2.2.2.2.2]),(1,.arr Ja aJ)],2⟩
def Ztb(cP:List Int)(ae:Int)(aG:Y_Family)(aJ:List Int):St:=⟨[(4,vB false)],[],0⟩
def Ztc(cP:List Int)(ae:Int)(aG:Y_Family)(aJ:List Int)(eJ:Int)(cJ:Bool):St:=⟨[(0,vV Je cP),(3,vP 0 0),(5,vI ae),(6,vO 1),(7,vI eJ),(42,vB cJ)],[(0,.box [.val Ja aG.1,.val Ja aG.2.1,.val Ja aG.2.2.1,.val Jy aG.2.2.2.1,.val Je aG.2.2.2.2.1,.val Jc aG.2.2.2.2.2.1,.val Jk aG.2.2.2.2.2.2.1,.val Je aG.2.2.2.2.2.2.2.1,.val Jc aG.2.2.2.2.2.2.2.2.1,.val Jr aG.2.2.2.2.2.2.2.2.2]),(1,.arr Ja aJ)],2⟩
theorem Zvu(N:Nat){R:Type}(K:Ex->St->Option R){cP:List Int}{ae:Int}{aG:Y_Family}{aJ:List Int}{K0:Option R}{K1:Int->Bool->Option R}(h0:K0=K .ret (Ztb cP ae aG aJ))(h1:K1= λeJ cJ=>K (.exit 2) (Ztc cP ae aG aJ eJ cJ))(n:Nat)(bP:Int):Zcy N cP ae aG aJ K0 K1 n bP=LM Zgx N 1 100008 n (Zvt cP ae bP aG aJ) K:=by
  subst h0 h1
  induction n generalizing bP with
  |zero=>kernel_rfl
  |succ n ih=>rw[Zcy];simp only[ih];kernel_rfl
def Zvv(cq:List Int)(i6:Int)(b7:Y_Family):St:=⟨[(0,vV Je cq),(3,vP 0 0),(5,vI i6)],[(0,.box [.val Ja b7.1,.val Ja b7.2.1,.val Ja b7.2.2.1,.val Jy b7.2.2.2.1,.val Je b7.2.2.2.2.1,.val Jc b7.2.2.2.2.2.1,.val Jk b7.2.2.2.2.2.2.1,.val Je b7.2.2.2.2.2.2.2.1,.val Jc b7.2.2.2.2.2.2.2.2.1,.val Jr b7.2.2.2.2.2.2.2.2.2])],1⟩
def Ztd(cq:List Int)(b7:Y_Family):St:=⟨[(4,vB false)],[],0⟩
def Zte(cq:List Int)(b7:Y_Family)(lj:Int)(fB:Bool):St:=⟨[(0,vV Je cq),(3,vP 0 0),(5,vI lj),(22,vB fB)],[(0,.box [.val Ja b7.1,.val Ja b7.2.1,.val Ja b7.2.2.1,.val Jy b7.2.2.2.1,.val Je b7.2.2.2.2.1,.val Jc b7.2.2.2.2.2.1,.val Jk b7.2.2.2.2.2.2.1,.val Je b7.2.2.2.2.2.2.2.1,.val Jc b7.2.2.2.2.2.2.2.2.1,.val Jr b7.2.2.2.2.2.2.2.2.2])],1⟩
theorem Zvw(N:Nat){R:Type}(K:Ex->St->Option R){cq:List Int}{b7:Y_Family}{K0:Option R}{K1:Int->Bool->Option R}(h0:K0=K .ret (Ztd cq b7))(h1:K1= λlj fB=>K (.exit 0) (Zte cq b7 lj fB))(n:Nat)(i6:Int):Zcz N cq b7 K0 K1 n i6=LM Zgx N 0 100004 n (Zvv cq i6 b7) K:=by
  subst h0 h1
  induction n generalizing i6 with
  |zero=>kernel_rfl
  |succ n ih=>rw[Zcz];simp(disch:=exact id (by kernel_rfl)) only[ih,Zvu N (CL Zgx N 0 100004 [1,0,0,1,1,0] n K)];kernel_rfl
theorem Z2c(N:Nat)(be:List Int)(f2:Y_Family):DN Zgx N (be,f2,())=Zh6 N be f2:=by
  conv=>rhs;rw[Zh6];simp(disch:=exact id (by kernel_rfl)) only[Zvw (R:=Unit×Ko) N (CF Zgx N [1,1,0,1,0])]
  kernel_rfl
theorem Z2d(N:Nat):GW 25 (Zoh N):=GF Zgx N Tryz.func25 (GC (Zjm N) (GC (Zjo N) (GC (Z4g N) (GC (Zo2 N) Wg)))) (λd=>Z2c N d.1 d.2.1)
def Zo7(N:Nat):Sig:=Sig.of [.v Jag true,.v (TY_World) true] [.v Jy false] (λd=>Zhp N d.1 d.2.1)
def Zhj:Fn:=⟨Tryz.f9,λ |4=>[.canon [2,3,5,23]]|5=>[.canon [2,3,5]]|6=>[.canon [2,3,5,6]]|7=>[.canon [2,3,5,6,34]]|8=>[.canon [4]]|9=>[.canon [2,3,5,6,7]]|10=>[.canon [2,3,5,6,7,8]]|11=>[.canon [2,3,5,6,7,8,47]]|12=>[.canon [2,3,5,6,7,8]]|13=>[.canon [2,3,5,6,7,8,65]]|14=>[.canon [4]]|15=>[.canon [2,3,5,78]]|16=>[.canon [4]]|100004=>[.canon [2,3,5]]|100011=>[.canon [2,3,5,6,7,8]]|_=>[],Zo7,λN=>[(18,Zj1 N),(21,Zjp N),(24,Zfv N),(8,Zld N),(25,Zoh N)]⟩
def Zyf(ae:Int)(bP:Int)(aG:Kf×List Km×List Kb)(ac:Y_World)(aO:List Int):St:=⟨[(2,vP 0 0),(3,vP 1 0),(5,vI ae),(6,vP 2 0),(7,vO 3),(8,vI bP)],[(0,.box [.val Je aG.1.1,.val Je aG.1.2.1,.val Ja aG.1.2.2,.val Jab aG.2.1,.val Jk aG.2.2]),(1,.box [.val Ja ac.1,.val Ja ac.2.1,.val Ja ac.2.2.1.1,.val Jk ac.2.2.1.2,.val Je ac.2.2.2.1.1,.val Ja ac.2.2.2.1.2,.val Jk ac.2.2.2.2.1,.val Jw ac.2.2.2.2.2.1,.val Jt ac.2.2.2.2.2.2]),(2,.box [.val Ja (Xb ac.2.2.2.2.2.1 (Xa ae) d_Root).1,.val Ja (Xb ac.2.2.2.2.2.1 (Xa ae) d_Root).2.1,.val Ja (Xb ac.2.2.2.2.2.1 (Xa ae) d_Root).2.2.1,.val Ja (Xb ac.2.2.2.2.2.1 (Xa ae) d_Root).2.2.2.1,.val Ja (Xb ac.2.2.2.2.2.1 (Xa ae) d_Root).2.2.2.2.1,.val Ja (Xb ac.2.2.2.2.2.1 (Xa ae) d_Root).2.2.2.2.2.1,.val Ja (Xb ac.2.2.2.2.2.1 (Xa ae) d_Root).2.2.2.2.2.2.1,.val Ja (Xb ac.2.2.2.2.2.1 (Xa ae) d_Root).2.2.2.2.2.2.2.1,.val Ja (Xb ac.2.2.2.2.2.1 (Xa ae) d_Root).2.2.2.2.2.2.2.2.1,.val Ja (Xb ac.2.2.2.2.2.1 (Xa ae) d_Root).2.2.2.2.2.2.2.2.2.1,.val Ja (Xb ac.2.2.2.2.2.1 (Xa ae) d_Root).2.2.2.2.2.2.2.2.2.2.1,.val Jy (Xb ac.2.2.2.2.2.1 (Xa ae) d_Root).2.2.2.2.2.2.2.2.2.2.2.1,.val Je (Xb ac.2.2.2.2.2.1 (Xa ae) d_Root).2.2.2.2.2.2.2.2.2.2.2.2.1,.val Jc (Xb ac.2.2.2.2.2.1 (Xa ae) d_Root).2.2.2.2.2.2.2.2.2.2.2.2.2.1,.val Jc (Xb ac.2.2.2.2.2.1 (Xa ae) d_Root).2.2.2.2.2.2.2.2.2.2.2.2.2.2.1,.val (.slice Jj) (Xb ac.2.2.2.2.2.1 (Xa ae) d_Root).2.2.2.2.2.2.2.2.2.2.2.2.2.2.2.1,.val Jk (Xb ac.2.2.2.2.2.1 (Xa ae) d_Root).2.2.2.2.2.2.2.2.2.2.2.2.2.2.2.2.1,.val Je (Xb ac.2.2.2.2.2.1 (Xa ae) d_Root).2.2.2.2.2.2.2.2.2.2.2.2.2.2.2.2.2.1,.val Jy (Xb ac.2.2.2.2.2.1 (Xa ae) d_Root).2.2.2.2.2.2.2.2.2.2.2.2.2.2.2.2.2.2.1,.val Ja (Xb ac.2.2.2.2.2.1 (Xa ae) d_Root).2.2.2.2.2.2.2.2.2.2.2.2.2.2.2.2.2.2.2.1.1,.val Ja (Xb ac.2.2.2.2.2.1 (Xa ae) d_Root).2.2.2.2.2.2.2.2.2.2.2.2.2.2.2.2.2.2.2.1.2.1,.val Ja (Xb ac.2.2.2.2.2.1 (Xa ae) d_Root).2.2.2.2.2.2.2.2.2.2.2.2.2.2.2.2.2.2.2.1.2.2.1,.val Ja (Xb ac.2.2.2.2.2.1 (Xa ae) d_Root).2.2.2.2.2.2.2.2.2.2.2.2.2.2.2.2.2.2.2.1.2.2.2,.val Ja (Xb ac.2.2.2.2.2.1 (Xa ae) d_Root).2.2.2.2.2.2.2.2.2.2.2.2.2.2.2.2.2.2.2.2.1.1,.val Ja (Xb ac.2.2.2.2.2.1 (Xa ae) d_Root).2.2.2.2.2.2.2.2.2.2.2.2.2.2.2.2.2.2.2.2.1.2.1,.val Ja (Xb ac.2.2.2.2.2.1 (Xa ae) d_Root).2.2.2.2.2.2.2.2.2.2.2.2.2.2.2.2.2.2.2.2.1.2.2.1,.val Ja (Xb ac.2.2.2.2.2.1 (Xa ae) d_Root).2.2.2.2.2.2.2.2.2.2.2.2.2.2.2.2.2.2.2.2.1.2.2.2.1,.val Ja (Xb ac.2.2.2.2.2.1 (Xa ae) d_Root).2.2.2.2.2.2.2.2.2.2.2.2.2.2.2.2.2.2.2.2.1.2.2.2.2.1,.val Jc (Xb ac.2.2.2.2.2.1 (Xa ae) d_Root).2.2.2.2.2.2.2.2.2.2.2.2.2.2.2.2.2.2.2.2.1.2.2.2.2.2.1,.val Je (Xb ac.2.2.2.2.2.1 (Xa ae) d_Root).2.2.2.2.2.2.2.2.2.2.2.2.2.2.2.2.2.2.2.2.1.2.2.2.2.2.2,.val Ja (Xb ac.2.2.2.2.2.1 (Xa ae) d_Root).2.2.2.2.2.2.2.2.2.2.2.2.2.2.2.2.2.2.2.2.2.1,.val Ja (Xb ac.2.2.2.2.2.1 (Xa ae) d_Root).2.2.2.2.2.2.2.2.2.2.2.2.2.2.2.2.2.2.2.2.2.2.1,.val Ja (Xb ac.2.2.2.2.2.1 (Xa ae) d_Root).2.2.2.2.2.2.2.2.2.2.2.2.2.2.2.2.2.2.2.2.2.2.2.1,.val Jy (Xb ac.2.2.2.2.2.1 (Xa ae) d_Root).2.2.2.2.2.2.2.2.2.2.2.2.2.2.2.2.2.2.2.2.2.2.2.2.1,.val Je (Xb ac.2.2.2.2.2.1 (Xa ae) d_Root).2.2.2.2.2.2.2.2.2.2.2.2.2.2.2.2.2.2.2.2.2.2.2.2.2.1,.val Jc (Xb ac.2.2.2.2.2.1 (Xa ae) d_Root).2.2.2.2.2.2.2.2.2.2.2.2.2.2.2.2.2.2.2.2.2.2.2.2.2.2.1,.val Jk (Xb ac.2.2.2.2.2.1 (Xa ae) d_Root).2.2.2.2.2.2.2.2.2.2.2.2.2.2.2.2.2.2.2.2.2.2.2.2.2.2.2.1,.val Je (Xb ac.2.2.2.2.2.1 (Xa ae) d_Root).2.2.2.2.2.2.2.2.2.2.2.2.2.2.2.2.2.2.2.2.2.2.2.2.2.2.2.2.1,.val Jc (Xb ac.2.2.2.2.2.1 (Xa ae) d_Root).2.2.2.2.2.2.2.2.2.2.2.2.2.2.2.2.2.2.2.2.2.2.2.2.2.2.2.2.2.1,.val Jr (Xb ac.2.2.2.2.2.1 (Xa ae) d_Root).2.2.2.2.2.2.2.2.2.2.2.2.2.2.2.2.2.2.2.2.2.2.2.2.2.2.2.2.2.2]),(3,.arr Ja aO)],4⟩
def Zvx(ae:Int)(aG:Kf×List Km×List Kb)(ac:Y_World)(aO:List Int):St:=⟨[(4,vB false)],[],0⟩
def Zvy(ae:Int)(aG:Kf×List Km×List Kb)(ac:Y_World)(aO:List Int)(nI:Int)(bV:Bool):St:=⟨[(2,vP 0 0),(3,vP 1 0),(5,vI ae),(6,vP 2 0),(7,vO 3),(8,vI nI),(47,vB bV)],[(0,.box [.val Je aG.1.1,.val Je aG.1.2.1,.val Ja aG.1.2.2,.val Jab aG.2.1,.val Jk aG.2.2]),(1,.box [.val Ja ac.1,.val Ja ac.2.1,.val Ja ac.2.2.1.1,.val Jk ac.2.2.1.2,.val Je ac.2.2.2.1.1,.val Ja ac.2.2.2.1.2,.val Jk ac.2.2.2.2.1,.val Jw ac.2.2.2.2.2.1,.val Jt ac.2.2.2.2.2.2]),(2,.box [.val Ja (Xb ac.2.2.2.2.2.1 (Xa ae) d_Root).1,.val Ja (Xb ac.2.2.2.2.2.1 (Xa ae) d_Root).2.1,.val Ja (Xb ac.2.2.2.2.2.1 (Xa ae) d_Root).2.2.1,.val Ja (Xb ac.2.2.2.2.2.1 (Xa ae) d_Root).2.2.2.1,.val Ja (Xb ac.2.2.2.2.2.1 (Xa ae) d_Root).2.2.2.2.1,.val Ja (Xb ac.2.2.2.2.2.1 (Xa ae) d_Root).2.2.2.2.2.1,.val Ja (Xb ac.2.2.2.2.2.1 (Xa ae) d_Root).2.2.2.2.2.2.1,.val Ja (Xb ac.2.2.2.2.2.1 (Xa ae) d_Root).2.2.2.2.2.2.2.1,.val Ja (Xb ac.2.2.2.2.2.1 (Xa ae) d_Root).2.2.2.2.2.2.2.2.1,.val Ja (Xb ac.2.2.2.2.2.1 (Xa ae) d_Root).2.2.2.2.2.2.2.2.2.1,.val Ja (Xb ac.2.2.2.2.2.1 (Xa ae) d_Root).2.2.2.2.2.2.2.2.2.2.1,.val Jy (Xb ac.2.2.2.2.2.1 (Xa ae) d_Root).2.2.2.2.2.2.2.2.2.2.2.1,.val Je (Xb ac.2.2.2.2.2.1 (Xa ae) d_Root).2.2.2.2.2.2.2.2.2.2.2.2.1,.val Jc (Xb ac.2.2.2.2.2.1 (Xa ae) d_Root).2.2.2.2.2.2.2.2.2.2.2.2.2.1,.val Jc (Xb ac.2.2.2.2.2.1 (Xa ae) d_Root).2.2.2.2.2.2.2.2.2.2.2.2.2.2.1,.val (.slice Jj) (Xb ac.2.2.2.2.2.1 (Xa ae) d_Root).2.2.2.2.2.2.2.2.2.2.2.2.2.2.2.1,.val Jk (Xb ac.2.2.2.2.2.1 (Xa ae) d_Root).2.2.2.2.2.2.2.2.2.2.2.2.2.2.2.2.1,.val Je (Xb ac.2.2.2.2.2.1 (Xa ae) d_Root).2.2.2.2.2.2.2.2.2.2.2.2.2.2.2.2.2.1,.val Jy (Xb ac.2.2.2.2.2.1 (Xa ae) d_Root).2.2.2.2.2.2.2.2.2.2.2.2.2.2.2.2.2.2.1,.val Ja (Xb ac.2.2.2.2.2.1 (Xa ae) d_Root).2.2.2.2.2.2.2.2.2.2.2.2.2.2.2.2.2.2.2.1.1,.val Ja (Xb ac.2.2.2.2.2.1 (Xa ae) d_Root).2.2.2.2.2.2.2.2.2.2.2.2.2.2.2.2.2.2.2.1.2.1,.val Ja (Xb ac.2.2.2.2.2.1 (Xa ae) d_Root).2.2.2.2.2.2.2.2.2.2.2.2.2.2.2.2.2.2.2.1.2.2.1,.val Ja (Xb ac.2.2.2.2.2.1 (Xa ae) d_Root).2.2.2.2.2.2.2.2.2.2.2.2.2.2.2.2.2.2.2.1.2.2.2,.val Ja (Xb ac.2.2.2.2.2.1 (Xa ae) d_Root).2.2.2.2.2.2.2.2.2.2.2.2.2.2.2.2.2.2.2.2.1.1,.val Ja (Xb ac.2.2.2.2.2.1 (Xa ae) d_Root).2.2.2.2.2.2.2.2.2.2.2.2.2.2.2.2.2.2.2.2.1.2.1,.val Ja (Xb ac.2.2.2.2.2.1 (Xa ae) d_Root).2.2.2.2.2.2.2.2.2.2.2.2.2.2.2.2.2.2.2.2.1.2.2.1,.val Ja (Xb ac.2.2.2.2.2.1 (Xa ae) d_Root).2.2.2.2.2.2.2.2.2.2.2.2.2.2.2.2.2.2.2.2.1.2.2.2.1,.val Ja (Xb ac.2.2.2.2.2.1 (Xa ae) d_Root).2.2.2.2.2.2.2.2.2.2.2.2.2.2.2.2.2.2.2.2.1.2.2.2.2.1,.val Jc (Xb ac.2.2.2.2.2.1 (Xa ae) d_Root).2.2.2.2.2.2.2.2.2.2.2.2.2.2.2.2.2.2.2.2.1.2.2.2.2.2.1,.val Je (Xb ac.2.2.2.2.2.1 (Xa ae) d_Root).2.2.2.2.2.2.2.2.2.2.2.2.2.2.2.2.2.2.2.2.1.2.2.2.2.2.2,.val Ja (Xb ac.2.2.2.2.2.1 (Xa ae) d_Root).2.2.2.2.2.2.2.2.2.2.2.2.2.2.2.2.2.2.2.2.2.1,.val Ja (Xb ac.2.2.2.2.2.1 (Xa ae) d_Root).2.2.2.2.2.2.2.2.2.2.2.2.2.2.2.2.2.2.2.2.2.2.1,.val Ja (Xb ac.2.2.2.2.2.1 (Xa ae) d_Root).2.2.2.2.2.2.2.2.2.2.2.2.2.2.2.2.2.2.2.2.2.2.2.1,.val Jy (Xb ac.2.2.2.2.2.1 (Xa ae) d_Root).2.2.2.2.2.2.2.2.2.2.2.2.2.2.2.2.2.2.2.2.2.2.2.2.1,.val Je (Xb ac.2.2.2.2.2.1 (Xa ae) d_Root).2.2.2.2.2.2.2.2.2.2.2.2.2.2.2.2.2.2.2.2.2.2.2.2.2.1,.val Jc (Xb ac.2.2.2.2.2.1 (Xa ae) d_Root).2.2.2.2.2.2.2.2.2.2.2.2.2.2.2.2.2.2.2.2.2.2.2.2.2.2.1,.val Jk (Xb ac.2.2.2.2.2.1 (Xa ae) d_Root).2.2.2.2.2.2.2.2.2.2.2.2.2.2.2.2.2.2.2.2.2.2.2.2.2.2.2.1,.val Je (Xb ac.2.2.2.2.2.1 (Xa ae) d_Root).2.2.2.2.2.2.2.2.2.2.2.2.2.2.2.2.2.2.2.2.2.2.2.2.2.2.2.2.1,.val Jc (Xb ac.2.2.2.2.2.1 (Xa ae) d_Root).2.2.2.2.2.2.2.2.2.2.2.2.2.2.2.2.2.2.2.2.2.2.2.2.2.2.2.2.2.1,.val Jr (Xb ac.2.2.2.2.2.1 (Xa ae) d_Root).2.2.2.2.2.2.2.2.2.2.2.2.2.2.2.2.2.2.2.2.2.2.2.2.2.2.2.2.2.2]),(3,.arr Ja aO)],4⟩
theorem Zyg(N:Nat){R:Type}(K:Ex->St->Option R){ae:Int}{aG:Kf×List Km×List Kb}{ac:Y_World}{aO:List Int}{K0:Option R}{K1:Int->Bool->Option R}(h0:K0=K .ret (Zvx ae aG ac aO))(h1:K1= λnI bV=>K (.exit 2) (Zvy ae aG ac aO nI bV))(n:Nat)(bP:Int):Zdr N ae aG ac aO K0 K1 n bP=LM Zhj N 1 100011 n (Zyf ae bP aG ac aO) K:=by
  subst h0 h1
  induction n generalizing bP with
  |zero=>kernel_rfl
  |succ n ih=>rw[Zdr];simp only[ih];kernel_rfl
def Zyh(i5:Int)(b6:Kf×List Km×List Kb)(b7:Y_World):St:=⟨[(2,vP 0 0),(3,vP 1 0),(5,vI i5)],[(0,.box [.val Je b6.1.1,.val Je b6.1.2.1,.val Ja b6.1.2.2,.val Jab b6.2.1,.val Jk b6.2.2]),(1,.box [.val Ja b7.1,.val Ja b7.2.1,.val Ja b7.2.2.1.1,.val Jk b7.2.2.1.2,.val Je b7.2.2.2.1.1,.val Ja b7.2.2.2.1.2,.val Jk b7.2.2.2.2.1,.val Jw b7.2.2.2.2.2.1,.val Jt b7.2.2.2.2.2.2])],2⟩
def Zvz(b6:Kf×List Km×List Kb)(b7:Y_World):St:=⟨[(4,vB false)],[],0⟩
def Zv0(b6:Kf×List Km×List Kb)(b7:Y_World)(tS:Int)(gr:Bool):St:=⟨[(2,vP 0 0),(3,vP 1 0),(5,vI tS),(23,vB gr)],[(0,.box [.val Je b6.1.1,.val Je b6.1.2.1,.val Ja b6.1.2.2,.val Jab b6.2.1,.val Jk b6.2.2]),(1,.box [.val Ja b7.1,.val Ja b7.2.1,.val Ja b7.2.2.1.1,.val Jk b7.2.2.1.2,.val Je b7.2.2.2.1.1,.val Ja b7.2.2.2.1.2,.val Jk b7.2.2.2.2.1,.val Jw b7.2.2.2.2.2.1,.val Jt b7.2.2.2.2.2.2])],2⟩
theorem Zyi(N:Nat){R:Type}(K:Ex->St->Option R){b6:Kf×List Km×List Kb}{b7:Y_World}{K0:Option R}{K1:Int->Bool->Option R}(h0:K0=K .ret (Zvz b6 b7))(h1:K1= λtS gr=>K (.exit 0) (Zv0 b6 b7 tS gr))(n:Nat)(i5:Int):Zds N b6 b7 K0 K1 n i5=LM Zhj N 0 100004 n (Zyh i5 b6 b7) K:=by
  subst h0 h1
  induction n generalizing i5 with
  |zero=>kernel_rfl
  |succ n ih=>rw[Zds];simp(disch:=exact id (by kernel_rfl)) only[ih,Zyg N (CL Zhj N 0 100004 [1,0,0,1,1,1,0,1,0] n K)];kernel_rfl
theorem Z3n(N:Nat)(s1:Kf×List Km×List Kb)(w2:Y_World):DN Zhj N (s1,w2,())=Zhp N s1 w2:=by
  conv=>rhs;rw[Zhp];simp(disch:=exact id (by kernel_rfl)) only[Zyi (R:=Unit×Ko) N (CF Zhj N [1,1,0,1,0])]
  kernel_rfl
theorem Z3o(N:Nat):GW 9 (Zo7 N):=GF Zhj N Tryz.func9 (GC (Zp5 N) (GC (Zo5 N) (GC (Zjo N) (GC (Zqm N) (GC (Z2d N) Wg))))) (λd=>Z3n N d.1 d.2.1)
def Znl(N:Nat):Sig:=Sig.of [.v Ji true,.box Ji] [.v Jy false] (λd=>Zon N d.1 d.2.1)
def Z0w:Fn:=⟨Tryz.f55,WI,Znl,Wbo⟩
theorem Z0x(N:Nat):GW 55 (Znl N):=GF Z0w N Tryz.func55 Wg
def Zap(N:Nat):Sig:=Sig.of [.v Jt false,.clos 55 1,.box Ji] [.v Ja false] (λd=>Zv N d.1 d.2.1)
def Zab:Fn:=⟨Tryz.f96,λ |2=>[.canon [0,1,7,8,9]]|3=>[.canon [0,1,5,7,8]]|4=>[.canon [0,1,5,7,8,16]]|5=>[.canon [1,4]]|6=>[.canon [0,1,7,8]]|100002=>[.canon [0,1,7,8]]|_=>[],Zap,λN=>[(55,Znl N)]⟩
def Zey(s3:List Kn)(t5:Int)(b6:Int×Int×List Kc):St:=⟨[(0,vV Jt s3),(1,.s (.one (.clos 55 [0]))),(7,vI (Wi s3)),(8,vI t5)],[(0,.box [.val Ja b6.1,.val Ja b6.2.1,.val Jc b6.2.2])],1⟩
def Zej(s3:List Kn)(t9:Int)(ba:Int×Int×List Kc):St:=⟨[(1,.s (.one (.clos 55 [0]))),(4,vI t9)],[(0,.box [.val Ja ba.1,.val Ja ba.2.1,.val Jc ba.2.2])],1⟩
def Zek(s3:List Kn)(ay:Int)(ai:Bool)(ac:Int×Int×List Kc):St:=⟨[(0,vV Jt s3),(1,.s (.one (.clos 55 [0]))),(7,vI (Wi s3)),(8,vI ay),(9,vB ai)],[(0,.box [.val Ja ac.1,.val Ja ac.2.1,.val Jc ac.2.2])],1⟩
theorem Zez(N:Nat){R:Type}(K:Ex->St->Option R){s3:List Kn}{K0:Int->Kn->Option R}{K1:Int->Bool->Kn->Option R}(h0:K0= λt9 ba=>K .ret (Zej s3 t9 ba))(h1:K1= λay ai ac=>K (.exit 0) (Zek s3 ay ai ac))(n:Nat)(t5:Int)(b6:Int×Int×List Kc):Zk N s3 K0 K1 n t5 b6=LM Zab N 0 100002 n (Zey s3 t5 b6) K:=by
  subst h0 h1
  induction n generalizing t5 b6 with
  |zero=>kernel_rfl
  |succ n ih=>rw[Zk];simp only[ih];kernel_rfl
theorem Zfw(N:Nat)(s1:List Kn)(ck:Int×Int×List Kc):DN Zab N (s1,ck,())=Zv N s1 ck:=by
  conv=>rhs;rw[Zv];simp(disch:=exact id (by kernel_rfl)) only[Zez (R:=(Kn×Unit)×Ki) N (CF Zab N [1,0,1,0])]
  kernel_rfl
theorem Zfx(N:Nat):GW 96 (Zap N):=GF Zab N Tryz.func96 (GC (Z0x N) Wg) (λd=>Zfw N d.1 d.2.1)
def Zak(N:Nat):Sig:=Sig.of [.v Jt false,.clos 55 1,.box Ji] [.v Jy false] (λd=>Z5 N d.1 d.2.1)
def Zfc:Fn:=⟨Tryz.f54,WI,Zak,λN=>[(96,Zap N)]⟩
theorem Zfd(N:Nat):GW 54 (Zak N):=GF Zfc N Tryz.func54 (GC (Zfx N) Wg)
def Zmg(N:Nat):Sig:=Sig.of [.v Jt false] [.v Jy false] (λd=>Zhq N d.1)
def Zmh:Fn:=⟨Tryz.f27,λ |2=>[.canon [0,5,6,7,8]]|3=>[.canon [0,3,4,5,6,7]]|4=>[.canon [0,5,6,7,34]]|5=>[.canon [2]]|6=>[.canon [0,5,6,7]]|100002=>[.canon [0,5,6,7]]|_=>[],Zmg,λN=>[(42,Zw N),(53,Zc4 N),(28,Zb3 N),(54,Zak N)]⟩
def Zyj(l2:List Kn)(t5:Int):St:=⟨[(0,vV Jt l2),(5,vV Jt l2),(6,vI (Wi l2)),(7,vI t5)],[],0⟩
def Zv1(l2:List Kn):St:=⟨[(2,vB false)],[],0⟩
def Zv2(l2:List Kn)(au:Int)(aX:Bool):St:=⟨[(0,vV Jt l2),(5,vV Jt l2),(6,vI (Wi l2)),(7,vI au),(8,vB aX)],[],0⟩
theorem Zyk(N:Nat){R:Type}(K:Ex->St->Option R){l2:List Kn}{K0:Option R}{K1:Int->Bool->Option R}(h0:K0=K .ret (Zv1 l2))(h1:K1= λau aX=>K (.exit 0) (Zv2 l2 au aX))(n:Nat)(t5:Int):Zdt N l2 K0 K1 n t5=LM Zmh N 0 100002 n (Zyj l2 t5) K:=by
  subst h0 h1
  induction n generalizing t5 with
  |zero=>kernel_rfl
  |succ n ih=>rw[Zdt];simp only[ih];kernel_rfl
theorem Z3p(N:Nat)(l1:List Kn):DN Zmh N (l1,())=Zhq N l1:=by
  conv=>rhs;rw[Zhq];simp(disch:=exact id (by kernel_rfl)) only[Zyk (R:=Unit×Ko) N (CF Zmh N [1,0,1,0])]
  kernel_rfl
theorem Zq9(N:Nat):GW 27 (Zmg N):=GF Zmh N Tryz.func27 (GC (Z1 N) (GC (Zgv N) (GC (Zd0 N) (GC (Zfd N) Wg)))) (λd=>Z3p N d.1)
def Znm(N:Nat):Sig:=Sig.of [.v Jt false] [.v (.own Ji) false] (λd=>Zhe N d.1)
def Zj4:Fn:=⟨Tryz.f57,λ |3=>[.canon [3,6,7,8,9]]|4=>[.canon [3,5,6,7,8]]|5=>[.canon [3,5,6,7,8]]|6=>[.canon [3,6,7,8]]|7=>[.canon [3,6,7,8]]|100003=>[.adopt 3 Ji,.canon [3,6,7,8]]|_=>[],Znm,λN=>[(97,Zcg N)]⟩
def Ztf(t2:List Kn)(t4:Int)(l5:List Kn):St:=⟨[(3,vO 0),(6,vV Jt t2),(7,vI (Wi t2)),(8,vI t4)],[(0,.arr Ji l5)],1⟩
def Zrt(t2:List Kn)(t8:Int)(t9:Bool)(bw:List Kn):St:=⟨[(3,vO 0),(6,vV Jt t2),(7,vI (Wi t2)),(8,vI t8),(9,vB t9)],[(0,.arr Ji bw)],1⟩
theorem Ztg(N:Nat){R:Type}(K:Ex->St->Option R){t2:List Kn}{K0:Int->Bool->(List Kn)->Option R}(h0:K0= λt8 t9 bw=>K (.exit 0) (Zrt t2 t8 t9 bw))(n:Nat)(t4:Int)(l5:List Kn):Zck N t2 K0 n t4 l5=LM Zj4 N 0 100003 n (Ztf t2 t4 l5) K:=by
  subst h0
  induction n generalizing t4 l5 with
  |zero=>kernel_rfl
  |succ n ih=>rw[Zck];simp only[ih];kernel_rfl
theorem Z0y(N:Nat)(l1:List Kn):DN Zj4 N (l1,())=Zhe N l1:=by
  conv=>rhs;rw[Zhe];simp(disch:=exact id (by kernel_rfl)) only[Ztg (R:=Unit×((List Kn)×Unit)) N (CF Zj4 N [1,1,0,1,0])]
  kernel_rfl
theorem Z0z(N:Nat):GW 57 (Znm N):=GF Zj4 N Tryz.func57 (GC (Zf5 N) Wg) (λd=>Z0y N d.1)
def Zbt(N:Nat):Sig:=Sig.of [.mut Ji,.clos 59 0] [] (λd=>Zax N d.1)
theorem Zgg:CmpOk Tryz.prog 59 Ji WvQ cfW:=by
  intro G x y us vs w hx hy h1 h2;obtain⟨_,_,rfl,a1,_,_,rfl,a2,_,rfl,a3⟩:=h1;obtain⟨_,_,rfl,b1,_,_,rfl,b2,_,rfl,b3⟩:=h2;simp only[Enc]at a1 a2 b1 b2;subst a1 a2 b1 b2;simp only[List.cons_append,List.nil_append]
  go_enter Tryz.func59,Tryz.ntmps59
  go_wp2
  rw[sub_run (Wef hx) (Wef hy) (c:=cfW x y) rfl]
  go_wp2
  go_ret
  exact⟨rfl,two_grow _ _ _⟩
theorem Zgh(N:Nat):GW 58 (Zbt N):=⟨WcL Tryz.func58 (show WnQ Tryz.f58=true by kernel_rfl),good_sortF sortFW (e:=.prod Ja (.prod Ja Jc)) rfl (by decide) Tryz.isAgg81 Tryz.sizeOf81 (enters_of Tryz.func59 (by kernel_rfl) rfl) Wwk Zgg N⟩
def Zle(N:Nat):Sig:=Sig.of [.v Je false,.v Jc false] [.v Jf false] (λd=>Zdf N d.1 d.2.1)
def Zlf:Fn:=⟨Tryz.f61,λ |5=>[.canon [5,18,19,20,21]]|6=>[.canon [5,7,18,19,20]]|7=>[.canon [5,18,19,20]]|8=>[.canon [5,18,19,20]]|100005=>[.canon [5,18,19,20]]|_=>[],Zle,λN=>[(41,Za8 N),(28,Zb3 N),(60,Zy N)]⟩
def Zv3(t6:List Kc)(t8:Int)(l9:List Int):St:=⟨[(5,vO 0),(18,vV Jc t6),(19,vI (Wi t6)),(20,vI t8)],[(0,.arr Ja l9)],1⟩
def Zth(t6:List Kc)(aw:Int)(ay:Bool)(aK:List Int):St:=⟨[(5,vO 0),(18,vV Jc t6),(19,vI (Wi t6)),(20,vI aw),(21,vB ay)],[(0,.arr Ja aK)],1⟩
theorem Zv4(N:Nat){R:Type}(K:Ex->St->Option R){t6:List Kc}{K0:Int->Bool->Kh->Option R}(h0:K0= λaw ay aK=>K (.exit 0) (Zth t6 aw ay aK))(n:Nat)(t8:Int)(l9:List Int):Zc0 N t6 K0 n t8 l9=LM Zlf N 0 100005 n (Zv3 t6 t8 l9) K:=by
  subst h0
  induction n generalizing t8 l9 with
  |zero=>kernel_rfl
  |succ n ih=>rw[Zc0];simp only[ih];kernel_rfl
theorem Z2e(N:Nat)(aH:List Int)(l2:List Kc):DN Zlf N (aH,l2,())=Zdf N aH l2:=by
  conv=>rhs;rw[Zdf];simp(disch:=exact id (by kernel_rfl)) only[Zv4 (R:=Unit×Ky) N (CF Zlf N [1,1,1,0,1,0])]
  kernel_rfl
theorem Zqn(N:Nat):GW 61 (Zle N):=GF Zlf N Tryz.func61 (GC (Zb9 N) (GC (Zd0 N) (GC (Z4 N) Wg))) (λd=>Z2e N d.1 d.2.1)
def Zoi(N:Nat):Sig:=Sig.of [.v Je false,.v Jt false,.v Ja false] [.v Jf false] (λd=>Zgs N d.1 d.2.1 d.2.2.1)
def Zlg:Fn:=⟨Tryz.f29,λ |7=>[.canon [2,8,25,26,27,28]]|8=>[.canon [2,8,10,25,26,27]]|9=>[.canon [2,8,10,25,26,27,34]]|10=>[.canon [2,8,25,26,27]]|11=>[.canon [2,8,25,26,27]]|100007=>[.canon [2,8,25,26,27]]|_=>[],Zoi,λN=>[(41,Za8 N),(27,Zmg N),(57,Znm N),(58,Zbt N),(60,Zy N),(61,Zle N)]⟩
def Zv5(n9:Int)(aw:Int)(ay:Int)(aK:List Int)(aJ:List Kn):St:=⟨[(2,vI n9),(8,vO 0),(25,vO 1),(26,vI aw),(27,vI ay)],[(0,.arr Ja aK),(1,.arr Ji aJ)],2⟩
def Zti(n9:Int)(aw:Int)(aJ:List Kn)(aX:Int)(cJ:Bool)(cI:List Int):St:=⟨[(2,vI n9),(8,vO 0),(25,vO 1),(26,vI aw),(27,vI aX),(28,vB cJ)],[(0,.arr Ja cI),(1,.arr Ji aJ)],2⟩
theorem Zv6(N:Nat){R:Type}(K:Ex->St->Option R){n9:Int}{aw:Int}{aJ:List Kn}{K0:Int->Bool->Kh->Option R}(h0:K0= λaX cJ cI=>K (.exit 0) (Zti n9 aw aJ aX cJ cI))(n:Nat)(ay:Int)(aK:List Int):Zb8 N n9 aw aJ K0 n ay aK=LM Zlg N 0 100007 n (Zv5 n9 aw ay aK aJ) K:=by
  subst h0
  induction n generalizing ay aK with
  |zero=>kernel_rfl
  |succ n ih=>rw[Zb8];simp only[ih];kernel_rfl
theorem Z2f(N:Nat)(aH:List Int)(l2:List Kn)(n3:Int):DN Zlg N (aH,l2,n3,())=Zgs N aH l2 n3:=by
  conv=>rhs;rw[Zgs];simp(disch:=exact id (by kernel_rfl)) only[Zv6 (R:=Unit×Ky) N (CF Zlg N [1,1,1,1,1,0,1,0])]
  kernel_rfl
theorem Z2g(N:Nat):GW 29 (Zoi N):=GF Zlg N Tryz.func29 (GC (Zb9 N) (GC (Zq9 N) (GC (Z0z N) (GC (Zgh N) (GC (Z4 N) (GC (Zqn N) Wg)))))) (λd=>Z2f N d.1 d.2.1 d.2.2.1)
def Zpm(N:Nat):Sig:=Sig.of [.v Je false,.v (TY_Family) true,.v Ja false] [.v Jf false] (λd=>Zg8 N d.1 d.2.1 d.2.2.1)
def Znd:Fn:=⟨Tryz.f62,λ |5=>[.canon [2,4,7,24,25,26,27]]|6=>[.canon [2,4,7,8,9,24,25,26]]|7=>[.canon [2,4,7,9,24,25,26,50]]|8=>[.canon [2,4,7,24,25,26]]|9=>[.canon [2,4,7,24,25,26]]|100005=>[.canon [2,4,7,24,25,26]]|_=>[],Zpm,λN=>[(41,Za8 N),(28,Zb3 N),(61,Zle N),(42,Zw N)]⟩
def Zz6(n7:Int)(t8:List Int)(aw:Int)(aR:Y_Family)(aK:List Int):St:=⟨[(2,vI n7),(4,vP 0 0),(7,vO 1),(24,vV Je t8),(25,vI (Wi aR.2.2.2.2.2.2.2.1)),(26,vI aw)],[(0,.box [.val Ja aR.1,.val Ja aR.2.1,.val Ja aR.2.2.1,.val Jy aR.2.2.2.1,.val Je aR.2.2.2.2.1,.val Jc aR.2.2.2.2.2.1,.val Jk aR.2.2.2.2.2.2.1,.val Je aR.2.2.2.2.2.2.2.1,.val Jc aR.2.2.2.2.2.2.2.2.1,.val Jr aR.2.2.2.2.2.2.2.2.2]),(1,.arr Ja aK)],2⟩
def Zyl(n7:Int)(t8:List Int)(aR:Y_Family)(ew:Int)(fJ:Bool)(bz:List Int):St:=⟨[(2,vI n7),(4,vP 0 0),(7,vO 1),(24,vV Je t8),(25,vI (Wi aR.2.2.2.2.2.2.2.1)),(26,vI ew),(27,vB fJ)],[(0,.box [.val Ja aR.1,.val Ja aR.2.1,.val Ja aR.2.2.1,.val Jy aR.2.2.2.1,.val Je aR.2.2.2.2.1,.val Jc aR.2.2.2.2.2.1,.val Jk aR.2.2.2.2.2.2.1,.val Je aR.2.2.2.2.2.2.2.1,.val Jc aR.2.2.2.2.2.2.2.2.1,.val Jr aR.2.2.2.2.2.2.2.2.2]),(1,.arr Ja bz)],2⟩
theorem Zz7(N:Nat){R:Type}(K:Ex->St->Option R){n7:Int}{t8:List Int}{aR:Y_Family}{K0:Int->Bool->Kh->Option R}(h0:K0= λew fJ bz=>K (.exit 0) (Zyl n7 t8 aR ew fJ bz))(n:Nat)(aw:Int)(aK:List Int):Zbr N n7 t8 aR K0 n aw aK=LM Znd N 0 100005 n (Zz6 n7 t8 aw aR aK) K:=by
  subst h0
  induction n generalizing aw aK with
  |zero=>kernel_rfl
  |succ n ih=>rw[Zbr];simp only[ih];kernel_rfl
theorem Z4h(N:Nat)(be:List Int)(f2:Y_Family)(n3:Int):DN Znd N (be,f2,n3,())=Zg8 N be f2 n3:=by
  conv=>rhs;rw[Zg8];simp(disch:=exact id (by kernel_rfl)) only[Zz7 (R:=Unit×Ky) N (CF Znd N [1,1,1,0,1,0])]
  kernel_rfl
theorem Z4i(N:Nat):GW 62 (Zpm N):=GF Znd N Tryz.func62 (GC (Zb9 N) (GC (Zd0 N) (GC (Zqn N) (GC (Z1 N) Wg)))) (λd=>Z4h N d.1 d.2.1 d.2.2.1)
def Zoj(N:Nat):Sig:=Sig.of [.v Je false,.v (TY_Family) true] [.v Jy false] (λd=>Zh7 N d.1 d.2.1)
def Zgy:Fn:=⟨Tryz.f30,λ |4=>[.canon [0,3,15,16,17,18]]|5=>[.canon [0,3,6,15,16,17]]|6=>[.canon [0,3,6,7,15,16,17]]|7=>[.canon [0,3,7,15,16,17,27,28,29]]|8=>[.canon [0,3,7,15,16,17,27,28,29,30]]|9=>[.canon [0,3,7,9,15,16,17,27,28,29]]|10=>[.canon [0,3,7,15,16,17,27,28,29,46]]|11=>[.canon [4]]|12=>[.canon [0,3,7,15,16,17,27,28,29]]|13=>[.canon [0,3,15,16,17]]|100004=>[.canon [0,3,15,16,17]]|100008=>[.canon [0,3,7,15,16,17,27,28,29]]|_=>[],Zoj,λN=>[(62,Zpm N),(56,Zbn N)]⟩
def Zv7(bU:List Int)(ay:List Y_KidRun)(ai:Int)(aF:Int)(au:List Kb)(cJ:Int)(bZ:Y_Family)(bW:List Int):St:=⟨[(0,vV Je bU),(3,vP 0 0),(7,vO 1),(15,vV Jr ay),(16,vI ai),(17,vI aF),(27,vV Jk au),(28,vI (Wi (Xb ay (Xa aF) d_KidRun).2.2.2.2.2.2.2.1)),(29,vI cJ)],[(0,.box [.val Ja bZ.1,.val Ja bZ.2.1,.val Ja bZ.2.2.1,.val Jy bZ.2.2.2.1,.val Je bZ.2.2.2.2.1,.val Jc bZ.2.2.2.2.2.1,.val Jk bZ.2.2.2.2.2.2.1,.val Je bZ.2.2.2.2.2.2.2.1,.val Jc bZ.2.2.2.2.2.2.2.2.1,.val Jr bZ.2.2.2.2.2.2.2.2.2]),(1,.arr Ja bW)],2⟩
def Ztj(bU:List Int)(ay:List Y_KidRun)(ai:Int)(aF:Int)(au:List Kb)(bZ:Y_Family)(bW:List Int):St:=⟨[(4,vB false)],[],0⟩
def Ztk(bU:List Int)(ay:List Y_KidRun)(ai:Int)(aF:Int)(au:List Kb)(bZ:Y_Family)(bW:List Int)(fB:Int)(t22:Bool):St:=⟨[(0,vV Je bU),(3,vP 0 0),(7,vO 1),(15,vV Jr ay),(16,vI ai),(17,vI aF),(27,vV Jk au),(28,vI (Wi (Xb ay (Xa aF) d_KidRun).2.2.2.2.2.2.2.1)),(29,vI fB),(30,vB t22)],[(0,.box [.val Ja bZ.1,.val Ja bZ.2.1,.val Ja bZ.2.2.1,.val Jy bZ.2.2.2.1,.val Je bZ.2.2.2.2.1,.val Jc bZ.2.2.2.2.2.1,.val Jk bZ.2.2.2.2.2.2.1,.val Je bZ.2.2.2.2.2.2.2.1,.val Jc bZ.2.2.2.2.2.2.2.2.1,.val Jr bZ.2.2.2.2.2.2.2.2.2]),(1,.arr Ja bW)],2⟩
theorem Zv8(N:Nat){R:Type}(K:Ex->St->Option R){bU:List Int}{ay:List Y_KidRun}{ai:Int}{aF:Int}{au:List Kb}{bZ:Y_Family}{bW:List Int}{K0:Option R}{K1:Int->Bool->Option R}(h0:K0=K .ret (Ztj bU ay ai aF au bZ bW))(h1:K1= λfB t22=>K (.exit 2) (Ztk bU ay ai aF au bZ bW fB t22))(n:Nat)(cJ:Int):Zc1 N bU ay ai aF au bZ bW K0 K1 n cJ=LM Zgy N 1 100008 n (Zv7 bU ay ai aF au cJ bZ bW) K:=by
  subst h0 h1
  induction n generalizing cJ with
  |zero=>kernel_rfl
  |succ n ih=>rw[Zc1];simp only[ih];kernel_rfl
def Zv9(cr:List Int)(t5:List Y_KidRun)(t7:Int)(b8:Y_Family):St:=⟨[(0,vV Je cr),(3,vP 0 0),(15,vV Jr t5),(16,vI (Wi b8.2.2.2.2.2.2.2.2.2)),(17,vI t7)],[(0,.box [.val Ja b8.1,.val Ja b8.2.1,.val Ja b8.2.2.1,.val Jy b8.2.2.2.1,.val Je b8.2.2.2.2.1,.val Jc b8.2.2.2.2.2.1,.val Jk b8.2.2.2.2.2.2.1,.val Je b8.2.2.2.2.2.2.2.1,.val Jc b8.2.2.2.2.2.2.2.2.1,.val Jr b8.2.2.2.2.2.2.2.2.2])],1⟩
def Ztl(cr:List Int)(t5:List Y_KidRun)(b8:Y_Family):St:=⟨[(4,vB false)],[],0⟩
def Ztm(cr:List Int)(t5:List Y_KidRun)(b8:Y_Family)(gN:Int)(gO:Bool):St:=⟨[(0,vV Je cr),(3,vP 0 0),(15,vV Jr t5),(16,vI (Wi b8.2.2.2.2.2.2.2.2.2)),(17,vI gN),(18,vB gO)],[(0,.box [.val Ja b8.1,.val Ja b8.2.1,.val Ja b8.2.2.1,.val Jy b8.2.2.2.1,.val Je b8.2.2.2.2.1,.val Jc b8.2.2.2.2.2.1,.val Jk b8.2.2.2.2.2.2.1,.val Je b8.2.2.2.2.2.2.2.1,.val Jc b8.2.2.2.2.2.2.2.2.1,.val Jr b8.2.2.2.2.2.2.2.2.2])],1⟩
theorem Zwa(N:Nat){R:Type}(K:Ex->St->Option R){cr:List Int}{t5:List Y_KidRun}{b8:Y_Family}{K0:Option R}{K1:Int->Bool->Option R}(h0:K0=K .ret (Ztl cr t5 b8))(h1:K1= λgN gO=>K (.exit 0) (Ztm cr t5 b8 gN gO))(n:Nat)(t7:Int):Zc2 N cr t5 b8 K0 K1 n t7=LM Zgy N 0 100004 n (Zv9 cr t5 t7 b8) K:=by
  subst h0 h1
  induction n generalizing t7 with
  |zero=>kernel_rfl
  |succ n ih=>rw[Zc2];simp(disch:=exact id (by kernel_rfl)) only[ih,Zv8 N (CL Zgy N 0 100004 [1,1,0,0,1,1,1,0] n K)];kernel_rfl
theorem Z2h(N:Nat)(be:List Int)(f2:Y_Family):DN Zgy N (be,f2,())=Zh7 N be f2:=by
  conv=>rhs;rw[Zh7];simp(disch:=exact id (by kernel_rfl)) only[Zwa (R:=Unit×Ko) N (CF Zgy N [1,1,0,1,0])]
  kernel_rfl
theorem Z2i(N:Nat):GW 30 (Zoj N):=GF Zgy N Tryz.func30 (GC (Z4i N) (GC (Zcn N) Wg)) (λd=>Z2h N d.1 d.2.1)
def Zo8(N:Nat):Sig:=Sig.of [.v Jag true,.v (TY_World) true] [.v Jy false] (λd=>Zhr N d.1 d.2.1)
def Zhk:Fn:=⟨Tryz.f10,λ |4=>[.canon [2,3,21,22,23,24]]|5=>[.canon [2,3,6,21,22,23]]|6=>[.canon [2,3,6,21,22,23,30]]|7=>[.canon [4]]|8=>[.canon [2,3,6,7,21,22,23]]|9=>[.canon [2,3,6,7,21,22,23,40,41,42]]|10=>[.canon [2,3,6,7,21,22,23,40,41,42,43]]|11=>[.canon [2,3,6,7,9,21,22,23,40,41,42]]|12=>[.canon [2,3,6,7,21,22,23,40,41,42,53]]|13=>[.canon [4]]|14=>[.canon [2,3,6,7,21,22,23,40,41,42]]|15=>[.canon [2,3,21,22,23,67]]|16=>[.canon [4]]|17=>[.canon [2,3,21,22,23]]|100004=>[.canon [2,3,21,22,23]]|100010=>[.canon [2,3,6,7,21,22,23,40,41,42]]|_=>[],Zo8,λN=>[(26,Zjw N),(27,Zmg N),(28,Zb3 N),(29,Zoi N),(30,Zoj N)]⟩
def Zym(ai:List Y_Root)(aF:Int)(au:Int)(aX:List Kc)(bV:Int)(bM:Kf×List Km×List Kb)(bu:Y_World)(bz:List Int):St:=⟨[(2,vP 0 0),(3,vP 1 0),(6,vP 2 0),(7,vO 3),(21,vV Jw ai),(22,vI aF),(23,vI au),(40,vV Jc aX),(41,vI (Wi (Xb ai (Xa au) d_Root).2.2.2.2.2.2.2.2.2.2.2.2.2.1)),(42,vI bV)],[(0,.box [.val Je bM.1.1,.val Je bM.1.2.1,.val Ja bM.1.2.2,.val Jab bM.2.1,.val Jk bM.2.2]),(1,.box [.val Ja bu.1,.val Ja bu.2.1,.val Ja bu.2.2.1.1,.val Jk bu.2.2.1.2,.val Je bu.2.2.2.1.1,.val Ja bu.2.2.2.1.2,.val Jk bu.2.2.2.2.1,.val Jw bu.2.2.2.2.2.1,.val Jt bu.2.2.2.2.2.2]),(2,.box [.val Ja (Xb ai (Xa au) d_Root).1,.val Ja (Xb ai (Xa au) d_Root).2.1,.val Ja (Xb ai (Xa au) d_Root).2.2.1,.val Ja (Xb ai (Xa au) d_Root).2.2.2.1,.val Ja (Xb ai (Xa au) d_Root).2.2.2.2.1,.val Ja (Xb ai (Xa au) d_Root).2.2.2.2.2.1,.val Ja (Xb ai (Xa au) d_Root).2.2.2.2.2.2.1,.val Ja (Xb ai (Xa au) d_Root).2.2.2.2.2.2.2.1,.val Ja (Xb ai (Xa au) d_Root).2.2.2.2.2.2.2.2.1,.val Ja (Xb ai (Xa au) d_Root).2.2.2.2.2.2.2.2.2.1,.val Ja (Xb ai (Xa au) d_Root).2.2.2.2.2.2.2.2.2.2.1,.val Jy (Xb ai (Xa au) d_Root).2.2.2.2.2.2.2.2.2.2.2.1,.val Je (Xb ai (Xa au) d_Root).2.2.2.2.2.2.2.2.2.2.2.2.1,.val Jc (Xb ai (Xa au) d_Root).2.2.2.2.2.2.2.2.2.2.2.2.2.1,.val Jc (Xb ai (Xa au) d_Root).2.2.2.2.2.2.2.2.2.2.2.2.2.2.1,.val (.slice Jj) (Xb ai (Xa au) d_Root).2.2.2.2.2.2.2.2.2.2.2.2.2.2.2.1,.val Jk (Xb ai (Xa au) d_Root).2.2.2.2.2.2.2.2.2.2.2.2.2.2.2.2.1,.val Je (Xb ai (Xa au) d_Root).2.2.2.2.2.2.2.2.2.2.2.2.2.2.2.2.2.1,.val Jy (Xb ai (Xa au) d_Root).2.2.2.2.2.2.2.2.2.2.2.2.2.2.2.2.2.2.1,.val Ja (Xb ai (Xa au) d_Root).2.2.2.2.2.2.2.2.2.2.2.2.2.2.2.2.2.2.2.1.1,.val Ja (Xb ai (Xa au) d_Root).2.2.2.2.2.2.2.2.2.2.2.2.2.2.2.2.2.2.2.1.2.1,.val Ja (Xb ai (Xa au) d_Root).2.2.2.2.2.2.2.2.2.2.2.2.2.2.2.2.2.2.2.1.2.2.1,.val Ja (Xb ai (Xa au) d_Root).2.2.2.2.2.2.2.2.2.2.2.2.2.2.2.2.2.2.2.1.2.2.2,.val Ja (Xb ai (Xa au) d_Root).2.2.2.2.2.2.2.2.2.2.2.2.2.2.2.2.2.2.2.2.1.1,.val Ja (Xb ai (Xa au) d_Root).2.2.2.2.2.2.2.2.2.2.2.2.2.2.2.2.2.2.2.2.1.2.1,.val Ja (Xb ai (Xa au) d_Root).2.2.2.2.2.2.2.2.2.2.2.2.2.2.2.2.2.2.2.2.1.2.2.1,.val Ja (Xb ai (Xa au) d_Root).2.2.2.2.2.2.2.2.2.2.2.2.2.2.2.2.2.2.2.2.1.2.2.2.1,.val Ja (Xb ai (Xa au) d_Root).2.2.2.2.2.2.2.2.2.2.2.2.2.2.2.2.2.2.2.2.1.2.2.2.2.1,.val Jc (Xb ai (Xa au) d_Root).2.2.2.2.2.2.2.2.2.2.2.2.2.2.2.2.2.2.2.2.1.2.2.2.2.2.1,.val Je (Xb ai (Xa au) d_Root).2.2.2.2.2.2.2.2.2.2.2.2.2.2.2.2.2.2.2.2.1.2.2.2.2.2.2,.val Ja (Xb ai (Xa au) d_Root).2.2.2.2.2.2.2.2.2.2.2.2.2.2.2.2.2.2.2.2.2.1,.val Ja (Xb ai (Xa au) d_Root).2.2.2.2.2.2.2.2.2.2.2.2.2.2.2.2.2.2.2.2.2.2.1,.val Ja (Xb ai (Xa au) d_Root).2.2.2.2.2.2.2.2.2.2.2.2.2.2.2.2.2.2.2.2.2.2.2.1,.val Jy (Xb ai (Xa au) d_Root).2.2.2.2.2.2.2.2.2.2.2.2.2.2.2.2.2.2.2.2.2.2.2.2.1,.val Je (Xb ai (Xa au) d_Root).2.2.2.2.2.2.2.2.2.2.2.2.2.2.2.2.2.2.2.2.2.2.2.2.2.1,.val Jc (Xb ai (Xa au) d_Root).2.2.2.2.2.2.2.2.2.2.2.2.2.2.2.2.2.2.2.2.2.2.2.2.2.2.1,.val Jk (Xb ai (Xa au) d_Root).2.2.2.2.2.2.2.2.2.2.2.2.2.2.2.2.2.2.2.2.2.2.2.2.2.2.2.1,.val Je (Xb ai (Xa au) d_Root).2.2.2.2.2.2.2.2.2.2.2.2.2.2.2.2.2.2.2.2.2.2.2.2.2.2.2.2.1,.val Jc (Xb ai (Xa au) d_Root).2.2.2.2.2.2.2.2.2.2.2.2.2.2.2.2.2.2.2.2.2.2.2.2.2.2.2.2.2.1,.val Jr (Xb ai (Xa au) d_Root).2.2.2.2.2.2.2.2.2.2.2.2.2.2.2.2.2.2.2.2.2.2.2.2.2.2.2.2.2.2]),(3,.arr Ja bz)],4⟩
def Zwb(ai:List Y_Root)(aF:Int)(au:Int)(aX:List Kc)(bM:Kf×List Km×List Kb)(bu:Y_World)(bz:List Int):St:=⟨[(4,vB false)],[],0⟩
def Zwc(ai:List Y_Root)(aF:Int)(au:Int)(aX:List Kc)(bM:Kf×List Km×List Kb)(bu:Y_World)(bz:List Int)(t22:Int)(gr:Bool):St:=⟨[(2,vP 0 0),(3,vP 1 0),(6,vP 2 0),(7,vO 3),(21,vV Jw ai),(22,vI aF),(23,vI au),(40,vV Jc aX),(41,vI (Wi (Xb ai (Xa au) d_Root).2.2.2.2.2.2.2.2.2.2.2.2.2.1)),(42,vI t22),(43,vB gr)],[(0,.box [.val Je bM.1.1,.val Je bM.1.2.1,.val Ja bM.1.2.2,.val Jab bM.2.1,.val Jk bM.2.2]),(1,.box [.val Ja bu.1,.val Ja bu.2.1,.val Ja bu.2.2.1.1,.val Jk bu.2.2.1.2,.val Je bu.2.2.2.1.1,.val Ja bu.2.2.2.1.2,.val Jk bu.2.2.2.2.1,.val Jw bu.2.2.2.2.2.1,.val Jt bu.2.2.2.2.2.2]),(2,.box [.val Ja (Xb ai (Xa au) d_Root).1,.val Ja (Xb ai (Xa au) d_Root).2.1,.val Ja (Xb ai (Xa au) d_Root).2.2.1,.val Ja (Xb ai (Xa au) d_Root).2.2.2.1,.val Ja (Xb ai (Xa au) d_Root).2.2.2.2.1,.val Ja (Xb ai (Xa au) d_Root).2.2.2.2.2.1,.val Ja (Xb ai (Xa au) d_Root).2.2.2.2.2.2.1,.val Ja (Xb ai (Xa au) d_Root).2.2.2.2.2.2.2.1,.val Ja (Xb ai (Xa au) d_Root).2.2.2.2.2.2.2.2.1,.val Ja (Xb ai (Xa au) d_Root).2.2.2.2.2.2.2.2.2.1,.val Ja (Xb ai (Xa au) d_Root).2.2.2.2.2.2.2.2.2.2.1,.val Jy (Xb ai (Xa au) d_Root).2.2.2.2.2.2.2.2.2.2.2.1,.val Je (Xb ai (Xa au) d_Root).2.2.2.2.2.2.2.2.2.2.2.2.1,.val Jc (Xb ai (Xa au) d_Root).2.2.2.2.2.2.2.2.2.2.2.2.2.1,.val Jc (Xb ai (Xa au) d_Root).2.2.2.2.2.2.2.2.2.2.2.2.2.2.1,.val (.slice Jj) (Xb ai (Xa au) d_Root).2.2.2.2.2.2.2.2.2.2.2.2.2.2.2.1,.val Jk (Xb ai (Xa au) d_Root).2.2.2.2.2.2.2.2.2.2.2.2.2.2.2.2.1,.val Je (Xb ai (Xa au) d_Root).2.2.2.2.2.2.2.2.2.2.2.2.2.2.2.2.2.1,.val Jy (Xb ai (Xa au) d_Root).2.2.2.2.2.2.2.2.2.2.2.2.2.2.2.2.2.2.1,.val Ja (Xb ai (Xa au) d_Root).2.2.2.2.2.2.2.2.2.2.2.2.2.2.2.2.2.2.2.1.1,.val Ja (Xb ai (Xa au) d_Root).2.2.2.2.2.2.2.2.2.2.2.2.2.2.2.2.2.2.2.1.2.1,.val Ja (Xb ai (Xa au) d_Root).2.2.2.2.2.2.2.2.2.2.2.2.2.2.2.2.2.2.2.1.2.2.1,.val Ja (Xb ai (Xa au) d_Root).2.2.2.2.2.2.2.2.2.2.2.2.2.2.2.2.2.2.2.1.2.2.2,.val Ja (Xb ai (Xa au) d_Root).2.2.2.2.2.2.2.2.2.2.2.2.2.2.2.2.2.2.2.2.1.1,.val Ja (Xb ai (Xa au) d_Root).2.2.2.2.2.2.2.2.2.2.2.2.2.2.2.2.2.2.2.2.1.2.1,.val Ja (Xb ai (Xa au) d_Root).2.2.2.2.2.2.2.2.2.2.2.2.2.2.2.2.2.2.2.2.1.2.2.1,.val Ja (Xb ai (Xa au) d_Root).2.2.2.2.2.2.2.2.2.2.2.2.2.2.2.2.2.2.2.2.1.2.2.2.1,.val Ja (Xb ai (Xa au) d_Root).2.2.2.2.2.2.2.2.2.2.2.2.2.2.2.2.2.2.2.2.1.2.2.2.2.1,.val Jc (Xb ai (Xa au) d_Root).2.2.2.2.2.2.2.2.2.2.2.2.2.2.2.2.2.2.2.2.1.2.2.2.2.2.1,.val Je (Xb ai (Xa au) d_Root).2.2.2.2.2.2.2.2.2.2.2.2.2.2.2.2.2.2.2.2.1.2.2.2.2.2.2,.val Ja (Xb ai (Xa au) d_Root).2.2.2.2.2.2.2.2.2.2.2.2.2.2.2.2.2.2.2.2.2.1,.val Ja (Xb ai (Xa au) d_Root).2.2.2.2.2.2.2.2.2.2.2.2.2.2.2.2.2.2.2.2.2.2.1,.val Ja (Xb ai (Xa au) d_Root).2.2.2.2.2.2.2.2.2.2.2.2.2.2.2.2.2.2.2.2.2.2.2.1,.val Jy (Xb ai (Xa au) d_Root).2.2.2.2.2.2.2.2.2.2.2.2.2.2.2.2.2.2.2.2.2.2.2.2.1,.val Je (Xb ai (Xa au) d_Root).2.2.2.2.2.2.2.2.2.2.2.2.2.2.2.2.2.2.2.2.2.2.2.2.2.1,.val Jc (Xb ai (Xa au) d_Root).2.2.2.2.2.2.2.2.2.2.2.2.2.2.2.2.2.2.2.2.2.2.2.2.2.2.1,.val Jk (Xb ai (Xa au) d_Root).2.2.2.2.2.2.2.2.2.2.2.2.2.2.2.2.2.2.2.2.2.2.2.2.2.2.2.1,.val Je (Xb ai (Xa au) d_Root).2.2.2.2.2.2.2.2.2.2.2.2.2.2.2.2.2.2.2.2.2.2.2.2.2.2.2.2.1,.val Jc (Xb ai (Xa au) d_Root).2.2.2.2.2.2.2.2.2.2.2.2.2.2.2.2.2.2.2.2.2.2.2.2.2.2.2.2.2.1,.val Jr (Xb ai (Xa au) d_Root).2.2.2.2.2.2.2.2.2.2.2.2.2.2.2.2.2.2.2.2.2.2.2.2.2.2.2.2.2.2]),(3,.arr Ja bz)],4⟩
theorem Zyn(N:Nat){R:Type}(K:Ex->St->Option R){ai:List Y_Root}{aF:Int}{au:Int}{aX:List Kc}{bM:Kf×List Km×List Kb}{bu:Y_World}{bz:List Int}{K0:Option R}{K1:Int->Bool->Option R}(h0:K0=K .ret (Zwb ai aF au aX bM bu bz))(h1:K1= λt22 gr=>K (.exit 2) (Zwc ai aF au aX bM bu bz t22 gr))(n:Nat)(bV:Int):Zdu N ai aF au aX bM bu bz K0 K1 n bV=LM Zhk N 1 100010 n (Zym ai aF au aX bV bM bu bz) K:=by
  subst h0 h1
  induction n generalizing bV with
  |zero=>kernel_rfl
  |succ n ih=>rw[Zdu];simp only[ih];kernel_rfl
def Zyo(t5:List Y_Root)(t7:Int)(b8:Kf×List Km×List Kb)(b9:Y_World):St:=⟨[(2,vP 0 0),(3,vP 1 0),(21,vV Jw t5),(22,vI (Wi b9.2.2.2.2.2.1)),(23,vI t7)],[(0,.box [.val Je b8.1.1,.val Je b8.1.2.1,.val Ja b8.1.2.2,.val Jab b8.2.1,.val Jk b8.2.2]),(1,.box [.val Ja b9.1,.val Ja b9.2.1,.val Ja b9.2.2.1.1,.val Jk b9.2.2.1.2,.val Je b9.2.2.2.1.1,.val Ja b9.2.2.2.1.2,.val Jk b9.2.2.2.2.1,.val Jw b9.2.2.2.2.2.1,.val Jt b9.2.2.2.2.2.2])],2⟩
def Zwd(t5:List Y_Root)(b8:Kf×List Km×List Kb)(b9:Y_World):St:=⟨[(4,vB false)],[],0⟩
def Zwe(t5:List Y_Root)(b8:Kf×List Km×List Kb)(b9:Y_World)(rL:Int)(mh:Bool):St:=⟨[(2,vP 0 0),(3,vP 1 0),(21,vV Jw t5),(22,vI (Wi b9.2.2.2.2.2.1)),(23,vI rL),(24,vB mh)],[(0,.box [.val Je b8.1.1,.val Je b8.1.2.1,.val Ja b8.1.2.2,.val Jab b8.2.1,.val Jk b8.2.2]),(1,.box [.val Ja b9.1,.val Ja b9.2.1,.val Ja b9.2.2.1.1,.val Jk b9.2.2.1.2,.val Je b9.2.2.2.1.1,.val Ja b9.2.2.2.1.2,.val Jk b9.2.2.2.2.1,.val Jw b9.2.2.2.2.2.1,.val Jt b9.2.2.2.2.2.2])],2⟩
theorem Zyp(N:Nat){R:Type}(K:Ex->St->Option R){t5:List Y_Root}{b8:Kf×List Km×List Kb}{b9:Y_World}{K0:Option R}{K1:Int->Bool->Option R}(h0:K0=K .ret (Zwd t5 b8 b9))(h1:K1= λrL mh=>K (.exit 0) (Zwe t5 b8 b9 rL mh))(n:Nat)(t7:Int):Zdv N t5 b8 b9 K0 K1 n t7=LM Zhk N 0 100004 n (Zyo t5 t7 b8 b9) K:=by
  subst h0 h1
  induction n generalizing t7 with
  |zero=>kernel_rfl
  |succ n ih=>rw[Zdv];simp(disch:=exact id (by kernel_rfl)) only[ih,Zyn N (CL Zhk N 0 100004 [1,1,0,0,1,1,1,0,1,0] n K)];kernel_rfl
theorem Z3q(N:Nat)(s1:Kf×List Km×List Kb)(w2:Y_World):DN Zhk N (s1,w2,())=Zhr N s1 w2:=by
  conv=>rhs;rw[Zhr];simp(disch:=exact id (by kernel_rfl)) only[Zyp (R:=Unit×Ko) N (CF Zhk N [1,1,0,1,0])]
  kernel_rfl
theorem Z3r(N:Nat):GW 10 (Zo8 N):=GF Zhk N Tryz.func10 (GC (Zp0 N) (GC (Zq9 N) (GC (Zd0 N) (GC (Z2g N) (GC (Z2i N) Wg))))) (λd=>Z3q N d.1 d.2.1)
def Zp6(N:Nat):Sig:=Sig.of [.v Jz false] [.v Jy false] (λd=>Zfm N d.1)
def Zf8:Fn:=⟨Tryz.f3,λ |8=>[.canon [3,4,5,26]]|9=>[.canon [3,4,5]]|10=>[.canon [3,4,5,6]]|11=>[.canon [3,4,5,6,7]]|12=>[.canon [3,4,5,6,7,8]]|13=>[.canon [3,4,5,6,7,8,46]]|14=>[.canon [3,4,5,6,7,8]]|15=>[.canon [3,4,5,6,7,8,84]]|16=>[.canon [2]]|100008=>[.canon [3,4,5]]|100013=>[.canon [3,4,5,6,7,8]]|_=>[],Zp6,λN=>[(4,Zqb N),(5,Zng N),(6,Zof N),(7,Znk N),(8,Zld N),(9,Zo7 N),(10,Zo8 N)]⟩
def Ztn(ae:Int)(bP:Int)(aG:Kf×List Km×List Kb)(ac:Y_World)(aO:List Int):St:=⟨[(3,vP 0 0),(4,vP 1 0),(5,vI ae),(6,vP 2 0),(7,vO 3),(8,vI bP)],[(0,.box [.val Je aG.1.1,.val Je aG.1.2.1,.val Ja aG.1.2.2,.val Jab aG.2.1,.val Jk aG.2.2]),(1,.box [.val Ja ac.1,.val Ja ac.2.1,.val Ja ac.2.2.1.1,.val Jk ac.2.2.1.2,.val Je ac.2.2.2.1.1,.val Ja ac.2.2.2.1.2,.val Jk ac.2.2.2.2.1,.val Jw ac.2.2.2.2.2.1,.val Jt ac.2.2.2.2.2.2]),(2,.box [.val Ja (Xb ac.2.2.2.2.2.1 (Xa ae) d_Root).1,.val Ja (Xb ac.2.2.2.2.2.1 (Xa ae) d_Root).2.1,.val Ja (Xb ac.2.2.2.2.2.1 (Xa ae) d_Root).2.2.1,.val Ja (Xb ac.2.2.2.2.2.1 (Xa ae) d_Root).2.2.2.1,.val Ja (Xb ac.2.2.2.2.2.1 (Xa ae) d_Root).2.2.2.2.1,.val Ja (Xb ac.2.2.2.2.2.1 (Xa ae) d_Root).2.2.2.2.2.1,.val Ja (Xb ac.2.2.2.2.2.1 (Xa ae) d_Root).2.2.2.2.2.2.1,.val Ja (Xb ac.2.2.2.2.2.1 (Xa ae) d_Root).2.2.2.2.2.2.2.1,.val Ja (Xb ac.2.2.2.2.2.1 (Xa ae) d_Root).2.2.2.2.2.2.2.2.1,.val Ja (Xb ac.2.2.2.2.2.1 (Xa ae) d_Root).2.2.2.2.2.2.2.2.2.1,.val Ja (Xb ac.2.2.2.2.2.1 (Xa ae) d_Root).2.2.2.2.2.2.2.2.2.2.1,.val Jy (Xb ac.2.2.2.2.2.1 (Xa ae) d_Root).2.2.2.2.2.2.2.2.2.2.2.1,.val Je (Xb ac.2.2.2.2.2.1 (Xa ae) d_Root).2.2.2.2.2.2.2.2.2.2.2.2.1,.val Jc (Xb ac.2.2.2.2.2.1 (Xa ae) d_Root).2.2.2.2.2.2.2.2.2.2.2.2.2.1,.val Jc (Xb ac.2.2.2.2.2.1 (Xa ae) d_Root).2.2.2.2.2.2.2.2.2.2.2.2.2.2.1,.val (.slice Jj) (Xb ac.2.2.2.2.2.1 (Xa ae) d_Root).2.2.2.2.2.2.2.2.2.2.2.2.2.2.2.1,.val Jk (Xb ac.2.2.2.2.2.1 (Xa ae) d_Root).2.2.2.2.2.2.2.2.2.2.2.2.2.2.2.2.1,.val Je (Xb ac.2.2.2.2.2.1 (Xa ae) d_Root).2.2.2.2.2.2.2.2.2.2.2.2.2.2.2.2.2.1,.val Jy (Xb ac.2.2.2.2.2.1 (Xa ae) d_Root).2.2.2.2.2.2.2.2.2.2.2.2.2.2.2.2.2.2.1,.val Ja (Xb ac.2.2.2.2.2.1 (Xa ae) d_Root).2.2.2.2.2.2.2.2.2.2.2.2.2.2.2.2.2.2.2.1.1,.val Ja (Xb ac.2.2.2.2.2.1 (Xa ae) d_Root).2.2.2.2.2.2.2.2.2.2.2.2.2.2.2.2.2.2.2.1.2.1,.val Ja (Xb ac.2.2.2.2.2.1 (Xa ae) d_Root).2.2.2.2.2.2.2.2.2.2.2.2.2.2.2.2.2.2.2.1.2.2.1,.val Ja (Xb ac.2.2.2.2.2.1 (Xa ae) d_Root).2.2.2.2.2.2.2.2.2.2.2.2.2.2.2.2.2.2.2.1.2.2.2,.val Ja (Xb ac.2.2.2.2.2.1 (Xa ae) d_Root).2.2.2.2.2.2.2.2.2.2.2.2.2.2.2.2.2.2.2.2.1.1,.val Ja (Xb ac.2.2.2.2.2.1 (Xa ae) d_Root).2.2.2.2.2.2.2.2.2.2.2.2.2.2.2.2.2.2.2.2.1.2.1,.val Ja (Xb ac.2.2.2.2.2.1 (Xa ae) d_Root).2.2.2.2.2.2.2.2.2.2.2.2.2.2.2.2.2.2.2.2.1.2.2.1,.val Ja (Xb ac.2.2.2.2.2.1 (Xa ae) d_Root).2.2.2.2.2.2.2.2.2.2.2.2.2.2.2.2.2.2.2.2.1.2.2.2.1,.val Ja (Xb ac.2.2.2.2.2.1 (Xa ae) d_Root).2.2.2.2.2.2.2.2.2.2.2.2.2.2.2.2.2.2.2.2.1.2.2.2.2.1,.val Jc (Xb ac.2.2.2.2.2.1 (Xa ae) d_Root).2.2.2.2.2.2.2.2.2.2.2.2.2.2.2.2.2.2.2.2.1.2.2.2.2.2.1,.val Je (Xb ac.2.2.2.2.2.1 (Xa ae) d_Root).2.2.2.2.2.2.2.2.2.2.2.2.2.2.2.2.2.2.2.2.1.2.2.2.2.2.2,.val Ja (Xb ac.2.2.2.2.2.1 (Xa ae) d_Root).2.2.2.2.2.2.2.2.2.2.2.2.2.2.2.2.2.2.2.2.2.1,.val Ja (Xb ac.2.2.2.2.2.1 (Xa ae) d_Root).2.2.2.2.2.2.2.2.2.2.2.2.2.2.2.2.2.2.2.2.2.2.1,.val Ja (Xb ac.2.2.2.2.2.1 (Xa ae) d_Root).2.2.2.2.2.2.2.2.2.2.2.2.2.2.2.2.2.2.2.2.2.2.2.1,.val Jy (Xb ac.2.2.2.2.2.1 (Xa ae) d_Root).2.2.2.2.2.2.2.2.2.2.2.2.2.2.2.2.2.2.2.2.2.2.2.2.1,.val Je (Xb ac.2.2.2.2.2.1 (Xa ae) d_Root).2.2.2.2.2.2.2.2.2.2.2.2.2.2.2.2.2.2.2.2.2.2.2.2.2.1,.val Jc (Xb ac.2.2.2.2.2.1 (Xa ae) d_Root).2.2.2.2.2.2.2.2.2.2.2.2.2.2.2.2.2.2.2.2.2.2.2.2.2.2.1,.val Jk (Xb ac.2.2.2.2.2.1 (Xa ae) d_Root).2.2.2.2.2.2.2.2.2.2.2.2.2.2.2.2.2.2.2.2.2.2.2.2.2.2.2.1,.val Je (Xb ac.2.2.2.2.2.1 (Xa ae) d_Root).2.2.2.2.2.2.2.2.2.2.2.2.2.2.2.2.2.2.2.2.2.2.2.2.2.2.2.2.1,.val Jc (Xb ac.2.2.2.2.2.1 (Xa ae) d_Root).2.2.2.2.2.2.2.2.2.2.2.2.2.2.2.2.2.2.2.2.2.2.2.2.2.2.2.2.2.1,.val Jr (Xb ac.2.2.2.2.2.1 (Xa ae) d_Root).2.2.2.2.2.2.2.2.2.2.2.2.2.2.2.2.2.2.2.2.2.2.2.2.2.2.2.2.2.2]),(3,.arr Ja aO)],4⟩
def Zru(ae:Int)(aG:Kf×List Km×List Kb)(ac:Y_World)(aO:List Int):St:=⟨[(2,vB false)],[],0⟩
def Zrv(ae:Int)(aG:Kf×List Km×List Kb)(ac:Y_World)(aO:List Int)(nI:Int)(bV:Bool):St:=⟨[(3,vP 0 0),(4,vP 1 0),(5,vI ae),(6,vP 2 0),(7,vO 3),(8,vI nI),(46,vB bV)],[(0,.box [.val Je aG.1.1,.val Je aG.1.2.1,.val Ja aG.1.2.2,.val Jab aG.2.1,.val Jk aG.2.2]),(1,.box [.val Ja ac.1,.val Ja ac.2.1,.val Ja ac.2.2.1.1,.val Jk ac.2.2.1.2,.val Je ac.2.2.2.1.1,.val Ja ac.2.2.2.1.2,.val Jk ac.2.2.2.2.1,.val Jw ac.2.2.2.2.2.1,.val Jt ac.2.2.2.2.2.2]),(2,.box [.val Ja (Xb ac.2.2.2.2.2.1 (Xa ae) d_Root).1,.val Ja (Xb ac.2.2.2.2.2.1 (Xa ae) d_Root).2.1,.val Ja (Xb ac.2.2.2.2.2.1 (Xa ae) d_Root).2.2.1,.val Ja (Xb ac.2.2.2.2.2.1 (Xa ae) d_Root).2.2.2.1,.val Ja (Xb ac.2.2.2.2.2.1 (Xa ae) d_Root).2.2.2.2.1,.val Ja (Xb ac.2.2.2.2.2.1 (Xa ae) d_Root).2.2.2.2.2.1,.val Ja (Xb ac.2.2.2.2.2.1 (Xa ae) d_Root).2.2.2.2.2.2.1,.val Ja (Xb ac.2.2.2.2.2.1 (Xa ae) d_Root).2.2.2.2.2.2.2.1,.val Ja (Xb ac.2.2.2.2.2.1 (Xa ae) d_Root).2.2.2.2.2.2.2.2.1,.val Ja (Xb ac.2.2.2.2.2.1 (Xa ae) d_Root).2.2.2.2.2.2.2.2.2.1,.val Ja (Xb ac.2.2.2.2.2.1 (Xa ae) d_Root).2.2.2.2.2.2.2.2.2.2.1,.val Jy (Xb ac.2.2.2.2.2.1 (Xa ae) d_Root).2.2.2.2.2.2.2.2.2.2.2.1,.val Je (Xb ac.2.2.2.2.2.1 (Xa ae) d_Root).2.2.2.2.2.2.2.2.2.2.2.2.1,.val Jc (Xb ac.2.2.2.2.2.1 (Xa ae) d_Root).2.2.2.2.2.2.2.2.2.2.2.2.2.1,.val Jc (Xb ac.2.2.2.2.2.1 (Xa ae) d_Root).2.2.2.2.2.2.2.2.2.2.2.2.2.2.1,.val (.slice Jj) (Xb ac.2.2.2.2.2.1 (Xa ae) d_Root).2.2.2.2.2.2.2.2.2.2.2.2.2.2.2.1,.val Jk (Xb ac.2.2.2.2.2.1 (Xa ae) d_Root).2.2.2.2.2.2.2.2.2.2.2.2.2.2.2.2.1,.val Je (Xb ac.2.2.2.2.2.1 (Xa ae) d_Root).2.2.2.2.2.2.2.2.2.2.2.2.2.2.2.2.2.1,.val Jy (Xb ac.2.2.2.2.2.1 (Xa ae) d_Root).2.2.2.2.2.2.2.2.2.2.2.2.2.2.2.2.2.2.1,.val Ja (Xb ac.2.2.2.2.2.1 (Xa ae) d_Root).2.2.2.2.2.2.2.2.2.2.2.2.2.2.2.2.2.2.2.1.1,.val Ja (Xb ac.2.2.2.2.2.1 (Xa ae) d_Root).2.2.2.2.2.2.2.2.2.2.2.2.2.2.2.2.2.2.2.1.2.1,.val Ja (Xb ac.2.2.2.2.2.1 (Xa ae) d_Root).2.2.2.2.2.2.2.2.2.2.2.2.2.2.2.2.2.2.2.1.2.2.1,.val Ja (Xb ac.2.2.2.2.2.1 (Xa ae) d_Root).2.2.2.2.2.2.2.2.2.2.2.2.2.2.2.2.2.2.2.1.2.2.2,.val Ja (Xb ac.2.2.2.2.2.1 (Xa ae) d_Root).2.2.2.2.2.2.2.2.2.2.2.2.2.2.2.2.2.2.2.2.1.1,.val Ja (Xb ac.2.2.2.2.2.1 (Xa ae) d_Root).2.2.2.2.2.2.2.2.2.2.2.2.2.2.2.2.2.2.2.2.1.2.1,.val Ja (Xb ac.2.2.2.2.2.1 (Xa ae) d_Root).2.2.2.2.2.2.2.2.2.2.2.2.2.2.2.2.2.2.2.2.1.2.2.1,.val Ja (Xb ac.2.2.2.2.2.1 (Xa ae) d_Root).2.2.2.2.2.2.2.2.2.2.2.2.2.2.2.2.2.2.2.2.1.2.2.2.1,.val Ja (Xb ac.2.2.2.2.2.1 (Xa ae) d_Root).2.2.2.2.2.2.2.2.2.2.2.2.2.2.2.2.2.2.2.2.1.2.2.2.2.1,.val Jc (Xb ac.2.2.2.2.2.1 (Xa ae) d_Root).2.2.2.2.2.2.2.2.2.2.2.2.2.2.2.2.2.2.2.2.1.2.2.2.2.2.1,.val Je (Xb ac.2.2.2.2.2.1 (Xa ae) d_Root).2.2.2.2.2.2.2.2.2.2.2.2.2.2.2.2.2.2.2.2.1.2.2.2.2.2.2,.val Ja (Xb ac.2.2.2.2.2.1 (Xa ae) d_Root).2.2.2.2.2.2.2.2.2.2.2.2.2.2.2.2.2.2.2.2.2.1,.val Ja (Xb ac.2.2.2.2.2.1 (Xa ae) d_Root).2.2.2.2.2.2.2.2.2.2.2.2.2.2.2.2.2.2.2.2.2.2.1,.val Ja (Xb ac.2.2.2.2.2.1 (Xa ae) d_Root).2.2.2.2.2.2.2.2.2.2.2.2.2.2.2.2.2.2.2.2.2.2.2.1,.val Jy (Xb ac.2.2.2.2.2.1 (Xa ae) d_Root).2.2.2.2.2.2.2.2.2.2.2.2.2.2.2.2.2.2.2.2.2.2.2.2.1,.val Je (Xb ac.2.2.2.2.2.1 (Xa ae) d_Root).2.2.2.2.2.2.2.2.2.2.2.2.2.2.2.2.2.2.2.2.2.2.2.2.2.1,.val Jc (Xb ac.2.2.2.2.2.1 (Xa ae) d_Root).2.2.2.2.2.2.2.2.2.2.2.2.2.2.2.2.2.2.2.2.2.2.2.2.2.2.1,.val Jk (Xb ac.2.2.2.2.2.1 (Xa ae) d_Root).2.2.2.2.2.2.2.2.2.2.2.2.2.2.2.2.2.2.2.2.2.2.2.2.2.2.2.1,.val Je (Xb ac.2.2.2.2.2.1 (Xa ae) d_Root).2.2.2.2.2.2.2.2.2.2.2.2.2.2.2.2.2.2.2.2.2.2.2.2.2.2.2.2.1,.val Jc (Xb ac.2.2.2.2.2.1 (Xa ae) d_Root).2.2.2.2.2.2.2.2.2.2.2.2.2.2.2.2.2.2.2.2.2.2.2.2.2.2.2.2.2.1,.val Jr (Xb ac.2.2.2.2.2.1 (Xa ae) d_Root).2.2.2.2.2.2.2.2.2.2.2.2.2.2.2.2.2.2.2.2.2.2.2.2.2.2.2.2.2.2]),(3,.arr Ja aO)],4⟩
theorem Zto(N:Nat){R:Type}(K:Ex->St->Option R){ae:Int}{aG:Kf×List Km×List Kb}{ac:Y_World}{aO:List Int}{K0:Option R}{K1:Int->Bool->Option R}(h0:K0=K .ret (Zru ae aG ac aO))(h1:K1= λnI bV=>K (.exit 2) (Zrv ae aG ac aO nI bV))(n:Nat)(bP:Int):Zcl N ae aG ac aO K0 K1 n bP=LM Zf8 N 1 100013 n (Ztn ae bP aG ac aO) K:=by
  subst h0 h1
  induction n generalizing bP with
  |zero=>kernel_rfl
  |succ n ih=>rw[Zcl];simp only[ih];kernel_rfl
def Ztp(i6:Int)(b7:Kf×List Km×List Kb)(b8:Y_World):St:=⟨[(3,vP 0 0),(4,vP 1 0),(5,vI i6)],[(0,.box [.val Je b7.1.1,.val Je b7.1.2.1,.val Ja b7.1.2.2,.val Jab b7.2.1,.val Jk b7.2.2]),(1,.box [.val Ja b8.1,.val Ja b8.2.1,.val Ja b8.2.2.1.1,.val Jk b8.2.2.1.2,.val Je b8.2.2.2.1.1,.val Ja b8.2.2.2.1.2,.val Jk b8.2.2.2.2.1,.val Jw b8.2.2.2.2.2.1,.val Jt b8.2.2.2.2.2.2])],2⟩
def Zrw(b7:Kf×List Km×List Kb)(b8:Y_World):St:=⟨[(2,vB false)],[],0⟩
def Zrx(b7:Kf×List Km×List Kb)(b8:Y_World)(lj:Int)(fB:Bool):St:=⟨[(3,vP 0 0),(4,vP 1 0),(5,vI lj),(26,vB fB)],[(0,.box [.val Je b7.1.1,.val Je b7.1.2.1,.val Ja b7.1.2.2,.val Jab b7.2.1,.val Jk b7.2.2]),(1,.box [.val Ja b8.1,.val Ja b8.2.1,.val Ja b8.2.2.1.1,.val Jk b8.2.2.1.2,.val Je b8.2.2.2.1.1,.val Ja b8.2.2.2.1.2,.val Jk b8.2.2.2.2.1,.val Jw b8.2.2.2.2.2.1,.val Jt b8.2.2.2.2.2.2])],2⟩
theorem Ztq(N:Nat){R:Type}(K:Ex->St->Option R){b7:Kf×List Km×List Kb}{b8:Y_World}{K0:Option R}{K1:Int->Bool->Option R}(h0:K0=K .ret (Zrw b7 b8))(h1:K1= λlj fB=>K (.exit 0) (Zrx b7 b8 lj fB))(n:Nat)(i6:Int):Zcm N b7 b8 K0 K1 n i6=LM Zf8 N 0 100008 n (Ztp i6 b7 b8) K:=by
  subst h0 h1
  induction n generalizing i6 with
  |zero=>kernel_rfl
  |succ n ih=>rw[Zcm];simp(disch:=exact id (by kernel_rfl)) only[ih,Zto N (CL Zf8 N 0 100008 [1,0,0,1,1,1,0] n K)];kernel_rfl
theorem Z00(N:Nat)(ad:List Int):DN Zf8 N (ad,())=Zfm N ad:=by
  conv=>rhs;rw[Zfm];simp(disch:=exact id (by kernel_rfl)) only[Ztq (R:=Unit×Ko) N (CF Zf8 N [1,1,1,1,1,0,1,0])]
  kernel_rfl
set_option maxRecDepth 100000 in theorem Z01 (N:Nat):GW 3 (Zp6 N):=GF Zf8 N Tryz.func3 (GC (Z4u N) (GC (Z0a N) (GC (Z16 N) (GC (Z0v N) (GC (Zqm N) (GC (Z3o N) (GC (Z3r N) Wg))))))) (λ d=>Z00 N d.1)
end
end Go.Sx
