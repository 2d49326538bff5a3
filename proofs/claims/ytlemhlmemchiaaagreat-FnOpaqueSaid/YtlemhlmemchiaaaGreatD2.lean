/- Each Go function does what its Lean function says. -/
import Derived.Test.YtlemhlmemchiaaaGreatD
open List renaming getD→Xb
open Int renaming toNat→Xa
namespace Go.Sx
noncomputable section
open Go.Proofs
set_option linter.unusedVariables false
set_option linter.unusedSimpArgs false
def Zib(N:Nat):Sig:=Sig.of [.v Ja false] [.v Jy false] (λd=>Zg7 N d.1)
def Z4a:Fn:=⟨Tryz.f103,WB,Zib,λN=>[(57,Zgf N)]⟩
theorem Zna(N:Nat):GW 103 (Zib N):=GF Z4a N Tryz.func103 (GC (Zi5 N) Wa)
def Zfw(N:Nat):Sig:=Sig.of [.v Je false] [.v Jy false] (λd=>Zc8 N d.1)
def Zma:Fn:=⟨Tryz.f54,λ |4=>[.canon [0,3,10]]|5=>[.canon [0,3]]|6=>[.canon [0,3,18]]|7=>[.canon [2]]|100004=>[.canon [0,3]]|_=>[],Zfw,λN=>[(103,Zib N)]⟩
def Zxu(l2:List Int)(i3:Int):St:=⟨[(0,vV Je l2),(3,vI i3)],[],0⟩
def Zu5(l2:List Int):St:=⟨[(2,vB false)],[],0⟩
def Zu6(l2:List Int)(i5:Int)(t6:Bool):St:=⟨[(0,vV Je l2),(3,vI i5),(10,vB t6)],[],0⟩
theorem Zxv(N:Nat){R:Type}(K:Ex->St->Option R){l2:List Int}{K0:Option R}{K1:Int->Bool->Option R}(h0:K0=K .ret (Zu5 l2))(h1:K1= λi5 t6=>K (.exit 0) (Zu6 l2 i5 t6))(n:Nat)(i3:Int):Zdk N l2 K0 K1 n i3=LM Zma N 0 100004 n (Zxu l2 i3) K:=by
  subst h0 h1
  induction n generalizing i3 with
  |zero=>kernel_rfl
  |succ n ih=>rw[Zdk];simp only[ih];kernel_rfl
theorem Z3c(N:Nat)(l1:List Int):DN Zma N (l1,())=Zc8 N l1:=by
  conv=>rhs;rw[Zc8];simp(disch:=exact id (by kernel_rfl)) only[Zxv (R:=Unit×Ko) N (CF Zma N [1,1,0,1,0])]
  kernel_rfl
theorem Zjn(N:Nat):GW 54 (Zfw N):=GF Zma N Tryz.func54 (GC (Zna N) Wa) (λd=>Z3c N d.1)
def Zj2(N:Nat):Sig:=Sig.of [.v Jx true] [.v Jy false] (λd=>Zfm N d.1)
def Zj3:Fn:=⟨Tryz.f42,λ |4=>[.canon [1,3,24]]|5=>[.canon [1,3]]|6=>[.canon [1,3,33]]|7=>[.canon [2]]|100004=>[.canon [1,3]]|_=>[],Zj2,λN=>[(54,Zfw N),(103,Zib N),(57,Zgf N)]⟩
def Zs2(i4:Int)(b5:List Int×List Int×Int):St:=⟨[(1,vP 0 0),(3,vI i4)],[(0,.box [.val Je b5.1,.val Je b5.2.1,.val Ja b5.2.2])],1⟩
def Zrp(b5:List Int×List Int×Int):St:=⟨[(2,vB false)],[],0⟩
def Zrq(b5:List Int×List Int×Int)(i7:Int)(t8:Bool):St:=⟨[(1,vP 0 0),(3,vI i7),(24,vB t8)],[(0,.box [.val Je b5.1,.val Je b5.2.1,.val Ja b5.2.2])],1⟩
theorem Zs3(N:Nat){R:Type}(K:Ex->St->Option R){b5:List Int×List Int×Int}{K0:Option R}{K1:Int->Bool->Option R}(h0:K0=K .ret (Zrp b5))(h1:K1= λi7 t8=>K (.exit 0) (Zrq b5 i7 t8))(n:Nat)(i4:Int):Zby N b5 K0 K1 n i4=LM Zj3 N 0 100004 n (Zs2 i4 b5) K:=by
  subst h0 h1
  induction n generalizing i4 with
  |zero=>kernel_rfl
  |succ n ih=>rw[Zby];simp only[ih];kernel_rfl
theorem Z0t(N:Nat)(s1:List Int×List Int×Int):DN Zj3 N (s1,())=Zfm N s1:=by
  conv=>rhs;rw[Zfm];simp(disch:=exact id (by kernel_rfl)) only[Zs3 (R:=Unit×Ko) N (CF Zj3 N [1,1,0,1,0])]
  kernel_rfl
theorem Zp5(N:Nat):GW 42 (Zj2 N):=GF Zj3 N Tryz.func42 (GC (Zjn N) (GC (Zna N) (GC (Zi5 N) Wa))) (λd=>Z0t N d.1)
def Zpj(N:Nat):Sig:=Sig.of [.v Ja false] [.v Jy false] (λd=>Zs N d.1)
def Z4b:Fn:=⟨Tryz.f228,WB,Zpj,λN=>[(57,Zgf N)]⟩
theorem Z4c(N:Nat):GW 228 (Zpj N):=GF Z4b N Tryz.func228 (GC (Zi5 N) Wa)
def Zjo(N:Nat):Sig:=Sig.of [.v Ja false] [.v Jy false] (λd=>Zcc N d.1)
def Z3d:Fn:=⟨Tryz.f60,WB,Zjo,λN=>[(57,Zgf N)]⟩
theorem Zo2(N:Nat):GW 60 (Zjo N):=GF Z3d N Tryz.func60 (GC (Zi5 N) Wa)
def Znx(N:Nat):Sig:=Sig.of [.v Ju true] [.v Jy false] (λd=>Zp N d.1)
def Z4s:Fn:=⟨Tryz.f160,WB,Znx,λN=>[(228,Zpj N),(103,Zib N),(60,Zjo N),(57,Zgf N)]⟩
theorem Zwg(N:Nat):GW 160 (Znx N):=GF Z4s N Tryz.func160 (GC (Z4c N) (GC (Zna N) (GC (Zo2 N) (GC (Zi5 N) Wa))))
def Zo3(N:Nat):Sig:=Sig.of [.v Jh false,.v Ja false] [.v Jy false] (λd=>Zix N d.1 d.2.1)
def Zmb:Fn:=⟨Tryz.f161,λ |6=>[.canon [0,5,6,7,24]]|7=>[.canon [0,5,6,7]]|8=>[.canon [0,5,6,7,32]]|9=>[.canon [0,5,6,7]]|10=>[.canon [0,5,6,7,40]]|11=>[.canon [0,5,6,7]]|12=>[.canon [0,5,6,7,44]]|13=>[.canon [4]]|100006=>[.canon [0,5,6,7]]|_=>[],Zo3,Wbg⟩
def Zxw(af:List Ka)(gB:Int)(d5:Int)(k6:Int):St:=⟨[(0,vV Jh af),(5,vI gB),(6,vI d5),(7,vI k6)],[],0⟩
def Zu7(af:List Ka)(gB:Int):St:=⟨[(4,vB false)],[],0⟩
def Zu8(af:List Ka)(gB:Int)(d7:Int)(k8:Int)(t9:Bool):St:=⟨[(0,vV Jh af),(5,vI gB),(6,vI d7),(7,vI k8),(24,vB t9)],[],0⟩
theorem Zxx(N:Nat){R:Type}(K:Ex->St->Option R){af:List Ka}{gB:Int}{K0:Option R}{K1:Int->Int->Bool->Option R}(h0:K0=K .ret (Zu7 af gB))(h1:K1= λd7 k8 t9=>K (.exit 0) (Zu8 af gB d7 k8 t9))(n:Nat)(d5:Int)(k6:Int):Zba N af gB K0 K1 n d5 k6=LM Zmb N 0 100006 n (Zxw af gB d5 k6) K:=by
  subst h0 h1
  induction n generalizing d5 k6 with
  |zero=>kernel_rfl
  |succ n ih=>rw[Zba];simp only[ih];kernel_rfl
theorem Z3e(N:Nat)(ad:List Ka)(i2:Int):DN Zmb N (ad,i2,())=Zix N ad i2:=by
  conv=>rhs;rw[Zix];simp(disch:=exact id (by kernel_rfl)) only[Zxx (R:=Unit×Ko) N (CF Zmb N [1,1,1,1,0,1,0])]
  kernel_rfl
theorem Z3f(N:Nat):GW 161 (Zo3 N):=GF Zmb N Tryz.func161 Wa (λd=>Z3e N d.1 d.2.1)
def Zmc(N:Nat):Sig:=Sig.of [.v Jh false] [.v Jy false] (λd=>Zhn N d.1)
def Zmd:Fn:=⟨Tryz.f101,λ |6=>[.canon [0,3,4,5,12]]|7=>[.canon [0,3,4,5]]|8=>[.canon [0,3,4,5,20]]|9=>[.canon [2]]|10=>[.canon [0,3,4,5,25]]|11=>[.canon [0,3,4,5,25,26]]|12=>[.canon [0,3,4,5]]|13=>[.canon [0,3,4,5,25,30]]|14=>[.canon [0,3,4,5]]|15=>[.canon [0,3,4,5,25,34]]|16=>[.canon [0,3,4,5,39]]|17=>[.canon [2]]|18=>[.canon [0,3,4,5,40]]|19=>[.canon [0,3,4,5]]|20=>[.canon [0,3,4,5,49]]|21=>[.canon [2]]|22=>[.canon [0,3,4,5,51]]|23=>[.canon [2]]|100006=>[.canon [0,3,4,5]]|_=>[],Zmc,λN=>[(160,Znx N),(161,Zo3 N)]⟩
def Zxy(aa:List Ka)(d3:Int)(aF:Int)(i5:Int):St:=⟨[(0,vV Jh aa),(3,vI d3),(4,vI aF),(5,vI i5)],[],0⟩
def Zu9(aa:List Ka):St:=⟨[(2,vB false)],[],0⟩
def Zva(aa:List Ka)(d8:Int)(hI:Int)(ae:Int)(ay:Bool):St:=⟨[(0,vV Jh aa),(3,vI d8),(4,vI hI),(5,vI ae),(12,vB ay)],[],0⟩
theorem Zxz(N:Nat){R:Type}(K:Ex->St->Option R){aa:List Ka}{K0:Option R}{K1:Int->Int->Int->Bool->Option R}(h0:K0=K .ret (Zu9 aa))(h1:K1= λd8 hI ae ay=>K (.exit 0) (Zva aa d8 hI ae ay))(n:Nat)(d3:Int)(aF:Int)(i5:Int):Zbb N aa K0 K1 n d3 aF i5=LM Zmd N 0 100006 n (Zxy aa d3 aF i5) K:=by
  subst h0 h1
  induction n generalizing d3 aF i5 with
  |zero=>kernel_rfl
  |succ n ih=>rw[Zbb];simp only[ih];kernel_rfl
theorem Z3g(N:Nat)(ad:List Ka):DN Zmd N (ad,())=Zhn N ad:=by
  conv=>rhs;rw[Zhn];simp(disch:=exact id (by kernel_rfl)) only[Zxz (R:=Unit×Ko) N (CF Zmd N [1,1,1,1,0,1,0])]
  kernel_rfl
theorem Zq8(N:Nat):GW 101 (Zmc N):=GF Zmd N Tryz.func101 (GC (Zwg N) (GC (Z3f N) Wa)) (λd=>Z3g N d.1)
def Zla(N:Nat):Sig:=Sig.of [.v Jh false] [.v Jy false] (λd=>Zgo N d.1)
def Zlb:Fn:=⟨Tryz.f102,λ |2=>[.canon [0,3,7]]|3=>[.canon [0,3]]|4=>[.canon [0,3,15]]|5=>[.canon [2]]|100002=>[.canon [0,3]]|_=>[],Zla,Wbg⟩
def Zvb(aa:List Ka)(i3:Int):St:=⟨[(0,vV Jh aa),(3,vI i3)],[],0⟩
def Zs4(aa:List Ka):St:=⟨[(2,vB true)],[],0⟩
def Zs5(aa:List Ka)(i4:Int)(t5:Bool):St:=⟨[(0,vV Jh aa),(3,vI i4),(7,vB t5)],[],0⟩
theorem Zvc(N:Nat){R:Type}(K:Ex->St->Option R){aa:List Ka}{K0:Option R}{K1:Int->Bool->Option R}(h0:K0=K .ret (Zs4 aa))(h1:K1= λi4 t5=>K (.exit 0) (Zs5 aa i4 t5))(n:Nat)(i3:Int):Zct N aa K0 K1 n i3=LM Zlb N 0 100002 n (Zvb aa i3) K:=by
  subst h0 h1
  induction n generalizing i3 with
  |zero=>kernel_rfl
  |succ n ih=>rw[Zct];simp only[ih];kernel_rfl
theorem Z17(N:Nat)(ad:List Ka):DN Zlb N (ad,())=Zgo N ad:=by
  conv=>rhs;rw[Zgo];simp(disch:=exact id (by kernel_rfl)) only[Zvc (R:=Unit×Ko) N (CF Zlb N [1,0,1,0])]
  kernel_rfl
theorem Zqk(N:Nat):GW 102 (Zla N):=GF Zlb N Tryz.func102 Wa (λd=>Z17 N d.1)
def Zog(N:Nat):Sig:=Sig.of [.v Ju true] [.v Ja false] (λd=>Zcf N d.1)
def Z18:Fn:=⟨Tryz.f120,WB,Zog,λN=>[(160,Znx N)]⟩
theorem Z19(N:Nat):GW 120 (Zog N):=GF Z18 N Tryz.func120 (GC (Zwg N) Wa)
def Zpk(N:Nat):Sig:=Sig.of [.v Jh false] [.v Jy false] (λd=>Zic N d.1)
def Znb:Fn:=⟨Tryz.f58,λ |4=>[.canon [0,3,14]]|5=>[.canon [0,3]]|6=>[.canon [0,3,22]]|7=>[.canon [2]]|100004=>[.canon [0,3]]|_=>[],Zpk,λN=>[(101,Zmc N),(102,Zla N),(120,Zog N)]⟩
def Zz2(aN:List Ka)(i5:Int):St:=⟨[(0,vV Jh aN),(3,vI i5)],[],0⟩
def Zx0(aN:List Ka):St:=⟨[(2,vB false)],[],0⟩
def Zx1(aN:List Ka)(i7:Int)(t8:Bool):St:=⟨[(0,vV Jh aN),(3,vI i7),(14,vB t8)],[],0⟩
theorem Zz3(N:Nat){R:Type}(K:Ex->St->Option R){aN:List Ka}{K0:Option R}{K1:Int->Bool->Option R}(h0:K0=K .ret (Zx0 aN))(h1:K1= λi7 t8=>K (.exit 0) (Zx1 aN i7 t8))(n:Nat)(i5:Int):Zen N aN K0 K1 n i5=LM Znb N 0 100004 n (Zz2 aN i5) K:=by
  subst h0 h1
  induction n generalizing i5 with
  |zero=>kernel_rfl
  |succ n ih=>rw[Zen];simp only[ih];kernel_rfl
theorem Z4d(N:Nat)(ad:List Ka):DN Znb N (ad,())=Zic N ad:=by
  conv=>rhs;rw[Zic];simp(disch:=exact id (by kernel_rfl)) only[Zz3 (R:=Unit×Ko) N (CF Znb N [1,1,0,1,0])]
  kernel_rfl
theorem Z4e(N:Nat):GW 58 (Zpk N):=GF Znb N Tryz.func58 (GC (Zq8 N) (GC (Zqk N) (GC (Z19 N) Wa))) (λd=>Z4d N d.1)
def Zo4(N:Nat):Sig:=Sig.of [.v Jo true] [.v Jy false] (λd=>Zhq N d.1)
def Zme:Fn:=⟨Tryz.f41,λ |4=>[.canon [1,3,28]]|5=>[.canon [1,3]]|6=>[.canon [1,3,38]]|7=>[.canon [2]]|100004=>[.canon [1,3]]|_=>[],Zo4,λN=>[(101,Zmc N),(102,Zla N),(58,Zpk N)]⟩
def Zx2(i4:Int)(b5:List Ka×List Kx):St:=⟨[(1,vP 0 0),(3,vI i4)],[(0,.box [.val Jh b5.1,.val (.slice Jh) b5.2])],1⟩
def Zvd(b5:List Ka×List Kx):St:=⟨[(2,vB false)],[],0⟩
def Zve(b5:List Ka×List Kx)(i7:Int)(t8:Bool):St:=⟨[(1,vP 0 0),(3,vI i7),(28,vB t8)],[(0,.box [.val Jh b5.1,.val (.slice Jh) b5.2])],1⟩
theorem Zx3(N:Nat){R:Type}(K:Ex->St->Option R){b5:List Ka×List Kx}{K0:Option R}{K1:Int->Bool->Option R}(h0:K0=K .ret (Zvd b5))(h1:K1= λi7 t8=>K (.exit 0) (Zve b5 i7 t8))(n:Nat)(i4:Int):Zch N b5 K0 K1 n i4=LM Zme N 0 100004 n (Zx2 i4 b5) K:=by
  subst h0 h1
  induction n generalizing i4 with
  |zero=>kernel_rfl
  |succ n ih=>rw[Zch];simp only[ih];kernel_rfl
theorem Z3h(N:Nat)(p1:List Ka×List Kx):DN Zme N (p1,())=Zhq N p1:=by
  conv=>rhs;rw[Zhq];simp(disch:=exact id (by kernel_rfl)) only[Zx3 (R:=Unit×Ko) N (CF Zme N [1,1,0,1,0])]
  kernel_rfl
theorem Z3i(N:Nat):GW 41 (Zo4 N):=GF Zme N Tryz.func41 (GC (Zq8 N) (GC (Zqk N) (GC (Z4e N) Wa))) (λd=>Z3h N d.1)
def Znk(N:Nat):Sig:=Sig.of [.v Jag true] [.v Jy false] (λd=>Zhf N d.1)
def Zj4:Fn:=⟨Tryz.f24,λ |4=>[.canon [1,3,24]]|5=>[.canon [1,3]]|6=>[.canon [1,3,33]]|7=>[.canon [2]]|100004=>[.canon [1,3]]|_=>[],Znk,λN=>[(42,Zj2 N),(41,Zo4 N)]⟩
def Zs6(i3:Int)(b4:Kf×List Km×List Kb):St:=⟨[(1,vP 0 0),(3,vI i3)],[(0,.box [.val Je b4.1.1,.val Je b4.1.2.1,.val Ja b4.1.2.2,.val Jab b4.2.1,.val Jk b4.2.2])],1⟩
def Zrr(b4:Kf×List Km×List Kb):St:=⟨[(2,vB false)],[],0⟩
def Zrs(b4:Kf×List Km×List Kb)(i6:Int)(t7:Bool):St:=⟨[(1,vP 0 0),(3,vI i6),(24,vB t7)],[(0,.box [.val Je b4.1.1,.val Je b4.1.2.1,.val Ja b4.1.2.2,.val Jab b4.2.1,.val Jk b4.2.2])],1⟩
theorem Zs7(N:Nat){R:Type}(K:Ex->St->Option R){b4:Kf×List Km×List Kb}{K0:Option R}{K1:Int->Bool->Option R}(h0:K0=K .ret (Zrr b4))(h1:K1= λi6 t7=>K (.exit 0) (Zrs b4 i6 t7))(n:Nat)(i3:Int):Zbz N b4 K0 K1 n i3=LM Zj4 N 0 100004 n (Zs6 i3 b4) K:=by
  subst h0 h1
  induction n generalizing i3 with
  |zero=>kernel_rfl
  |succ n ih=>rw[Zbz];simp only[ih];kernel_rfl
theorem Z0u(N:Nat)(s1:Kf×List Km×List Kb):DN Zj4 N (s1,())=Zhf N s1:=by
  conv=>rhs;rw[Zhf];simp(disch:=exact id (by kernel_rfl)) only[Zs7 (R:=Unit×Ko) N (CF Zj4 N [1,1,0,1,0])]
  kernel_rfl
theorem Z0v(N:Nat):GW 24 (Znk N):=GF Zj4 N Tryz.func24 (GC (Zp5 N) (GC (Z3i N) Wa)) (λd=>Z0u N d.1)
def Zfx(N:Nat):Sig:=Sig.of [.v Jc false] [.v Jy false] (λd=>Zcd N d.1)
def Zmf:Fn:=⟨Tryz.f56,λ |4=>[.canon [0,3,10]]|5=>[.canon [0,3]]|6=>[.canon [0,3,28]]|7=>[.canon [2]]|100004=>[.canon [0,3]]|_=>[],Zfx,λN=>[(60,Zjo N),(103,Zib N)]⟩
def Zx4(l2:List Kc)(i3:Int):St:=⟨[(0,vV Jc l2),(3,vI i3)],[],0⟩
def Zvf(l2:List Kc):St:=⟨[(2,vB false)],[],0⟩
def Zvg(l2:List Kc)(i6:Int)(t7:Bool):St:=⟨[(0,vV Jc l2),(3,vI i6),(10,vB t7)],[],0⟩
theorem Zx5(N:Nat){R:Type}(K:Ex->St->Option R){l2:List Kc}{K0:Option R}{K1:Int->Bool->Option R}(h0:K0=K .ret (Zvf l2))(h1:K1= λi6 t7=>K (.exit 0) (Zvg l2 i6 t7))(n:Nat)(i3:Int):Zdl N l2 K0 K1 n i3=LM Zmf N 0 100004 n (Zx4 l2 i3) K:=by
  subst h0 h1
  induction n generalizing i3 with
  |zero=>kernel_rfl
  |succ n ih=>rw[Zdl];simp only[ih];kernel_rfl
theorem Z3j(N:Nat)(l1:List Kc):DN Zmf N (l1,())=Zcd N l1:=by
  conv=>rhs;rw[Zcd];simp(disch:=exact id (by kernel_rfl)) only[Zx5 (R:=Unit×Ko) N (CF Zmf N [1,1,0,1,0])]
  kernel_rfl
theorem Zjp(N:Nat):GW 56 (Zfx N):=GF Zmf N Tryz.func56 (GC (Zo2 N) (GC (Zna N) Wa)) (λd=>Z3j N d.1)
def Zjq(N:Nat):Sig:=Sig.of [.v Jt false] [.v Jy false] (λd=>Zge N d.1)
def Zhj:Fn:=⟨Tryz.f76,λ |4=>[.canon [0,3,11]]|5=>[.canon [0,3]]|6=>[.canon [0,3,38]]|7=>[.canon [2]]|8=>[.canon [0,3,4]]|9=>[.canon [0,3,4,41]]|10=>[.canon [0,3,4]]|11=>[.canon [0,3,4,54]]|12=>[.canon [2]]|100004=>[.canon [0,3]]|100009=>[.canon [0,3,4]]|_=>[],Zjq,λN=>[(57,Zgf N),(56,Zfx N)]⟩
def Zx6(l7:List Kn)(i8:Int)(k9:Int):St:=⟨[(0,vV Jt l7),(3,vI i8),(4,vI k9)],[],0⟩
def Zvh(l7:List Kn)(i8:Int):St:=⟨[(2,vB false)],[],0⟩
def Zvi(l7:List Kn)(i8:Int)(k10:Int)(ay:Bool):St:=⟨[(0,vV Jt l7),(3,vI i8),(4,vI k10),(41,vB ay)],[],0⟩
theorem Zx7(N:Nat){R:Type}(K:Ex->St->Option R){l7:List Kn}{i8:Int}{K0:Option R}{K1:Int->Bool->Option R}(h0:K0=K .ret (Zvh l7 i8))(h1:K1= λk10 ay=>K (.exit 2) (Zvi l7 i8 k10 ay))(n:Nat)(k9:Int):Zdq N l7 i8 K0 K1 n k9=LM Zhj N 1 100009 n (Zx6 l7 i8 k9) K:=by
  subst h0 h1
  induction n generalizing k9 with
  |zero=>kernel_rfl
  |succ n ih=>rw[Zdq];simp only[ih];kernel_rfl
def Zx8(l2:List Kn)(i3:Int):St:=⟨[(0,vV Jt l2),(3,vI i3)],[],0⟩
def Zvj(l2:List Kn):St:=⟨[(2,vB false)],[],0⟩
def Zvk(l2:List Kn)(fq:Int)(aY:Bool):St:=⟨[(0,vV Jt l2),(3,vI fq),(11,vB aY)],[],0⟩
theorem Zx9(N:Nat){R:Type}(K:Ex->St->Option R){l2:List Kn}{K0:Option R}{K1:Int->Bool->Option R}(h0:K0=K .ret (Zvj l2))(h1:K1= λfq aY=>K (.exit 0) (Zvk l2 fq aY))(n:Nat)(i3:Int):Zdr N l2 K0 K1 n i3=LM Zhj N 0 100004 n (Zx8 l2 i3) K:=by
  subst h0 h1
  induction n generalizing i3 with
  |zero=>kernel_rfl
  |succ n ih=>rw[Zdr];simp(disch:=exact id (by kernel_rfl)) only[ih,Zx7 N (CL Zhj N 0 100004 [1,0,0,1,1,0] n K)];kernel_rfl
theorem Z3k(N:Nat)(l1:List Kn):DN Zhj N (l1,())=Zge N l1:=by
  conv=>rhs;rw[Zge];simp(disch:=exact id (by kernel_rfl)) only[Zx9 (R:=Unit×Ko) N (CF Zhj N [1,1,0,1,0])]
  kernel_rfl
theorem Zo5(N:Nat):GW 76 (Zjq N):=GF Zhj N Tryz.func76 (GC (Zi5 N) (GC (Zjp N) Wa)) (λd=>Z3k N d.1)
def Zo6(N:Nat):Sig:=Sig.of [.v Jt false] [.v Jf false] (λd=>Zi3 N d.1)
def Zhk:Fn:=⟨Tryz.f77,λ |5=>[.canon [0,3,4,16]]|6=>[.canon [0,3,4,5]]|7=>[.canon [0,3,4,5,6]]|8=>[.canon [0,3,4,5,6,20]]|9=>[.canon [0,3,4,5,6]]|10=>[.canon [0,3,4,5,6,38]]|11=>[.canon [0,3,4,5,6]]|12=>[.canon [0,3,5]]|13=>[.canon [0,3,4]]|100005=>[.canon [0,3,4]]|100008=>[.canon [0,3,4,5,6]]|_=>[],Zo6,λN=>[(76,Zjq N)]⟩
def Zya(l6:List Kn)(cE:Int)(db:Int)(i9:Int)(bz:List Int):St:=⟨[(0,vV Jt l6),(3,vO 0),(4,vI cE),(5,vI db),(6,vI i9)],[(0,.arr Ja bz)],1⟩
def Zvl(l6:List Kn)(cE:Int)(bz:List Int)(hJ:Int)(tN:Int)(aG:Bool):St:=⟨[(0,vV Jt l6),(3,vO 0),(4,vI cE),(5,vI hJ),(6,vI tN),(20,vB aG)],[(0,.arr Ja bz)],1⟩
theorem Zyb(N:Nat){R:Type}(K:Ex->St->Option R){l6:List Kn}{cE:Int}{bz:List Int}{K0:Int->Int->Bool->Option R}(h0:K0= λhJ tN aG=>K (.exit 2) (Zvl l6 cE bz hJ tN aG))(n:Nat)(db:Int)(i9:Int):Zbl N l6 cE bz K0 n db i9=LM Zhk N 1 100008 n (Zya l6 cE db i9 bz) K:=by
  subst h0
  induction n generalizing db i9 with
  |zero=>kernel_rfl
  |succ n ih=>rw[Zbl];simp only[ih];kernel_rfl
def Zyc(l3:List Kn)(dU:Int)(l5:List Int):St:=⟨[(0,vV Jt l3),(3,vO 0),(4,vI dU)],[(0,.arr Ja l5)],1⟩
def Zvm(l3:List Kn)(hP:Int)(eV:Bool)(cQ:List Int):St:=⟨[(0,vV Jt l3),(3,vO 0),(4,vI hP),(16,vB eV)],[(0,.arr Ja cQ)],1⟩
theorem Zyd(N:Nat){R:Type}(K:Ex->St->Option R){l3:List Kn}{K0:Int->Bool->Kh->Option R}(h0:K0= λhP eV cQ=>K (.exit 0) (Zvm l3 hP eV cQ))(n:Nat)(dU:Int)(l5:List Int):Zds N l3 K0 n dU l5=LM Zhk N 0 100005 n (Zyc l3 dU l5) K:=by
  subst h0
  induction n generalizing dU l5 with
  |zero=>kernel_rfl
  |succ n ih=>rw[Zds];simp(disch:=exact id (by kernel_rfl)) only[ih,Zyb N (CL Zhk N 0 100005 [1,0,1,0,1,0] n K)];kernel_rfl
theorem Z3l(N:Nat)(l1:List Kn):DN Zhk N (l1,())=Zi3 N l1:=by
  conv=>rhs;rw[Zi3];simp(disch:=exact id (by kernel_rfl)) only[Zyd (R:=Unit×Ky) N (CF Zhk N [1,1,1,1,0,0])]
  kernel_rfl
theorem Z3m(N:Nat):GW 77 (Zo6 N):=GF Zhk N Tryz.func77 (GC (Zo5 N) Wa) (λd=>Z3l N d.1)
def Zlc(N:Nat):Sig:=Sig.of [.v Je false,.v Jc false] [.v Jf false] (λd=>Zdg N d.1 d.2.1)
def Zld:Fn:=⟨Tryz.f19,λ |5=>[.canon [1,5,6,22]]|6=>[.canon [1,5,6]]|7=>[.canon [1,5,6]]|100005=>[.canon [1,5,6]]|_=>[],Zlc,λN=>[(54,Zfw N),(56,Zfx N)]⟩
def Zvn(l5:List Kc)(i6:Int)(l7:List Int):St:=⟨[(1,vV Jc l5),(5,vO 0),(6,vI i6)],[(0,.arr Ja l7)],1⟩
def Zs8(l5:List Kc)(i8:Int)(t9:Bool)(bz:List Int):St:=⟨[(1,vV Jc l5),(5,vO 0),(6,vI i8),(22,vB t9)],[(0,.arr Ja bz)],1⟩
theorem Zvo(N:Nat){R:Type}(K:Ex->St->Option R){l5:List Kc}{K0:Int->Bool->Kh->Option R}(h0:K0= λi8 t9 bz=>K (.exit 0) (Zs8 l5 i8 t9 bz))(n:Nat)(i6:Int)(l7:List Int):Zcz N l5 K0 n i6 l7=LM Zld N 0 100005 n (Zvn l5 i6 l7) K:=by
  subst h0
  induction n generalizing i6 l7 with
  |zero=>kernel_rfl
  |succ n ih=>rw[Zcz];simp only[ih];kernel_rfl
theorem Z2a(N:Nat)(aI:List Int)(l2:List Kc):DN Zld N (aI,l2,())=Zdg N aI l2:=by
  conv=>rhs;rw[Zdg];simp(disch:=exact id (by kernel_rfl)) only[Zvo (R:=Unit×Ky) N (CF Zld N [1,1,1,0,1,0])]
  kernel_rfl
theorem Zql(N:Nat):GW 19 (Zlc N):=GF Zld N Tryz.func19 (GC (Zjn N) (GC (Zjp N) Wa)) (λd=>Z2a N d.1 d.2.1)
def Zle(N:Nat):Sig:=Sig.of [.v Je false,.v Jt false,.v Ja false] [.v Jf false] (λd=>Ze6 N d.1 d.2.1 d.2.2.1)
def Zgy:Fn:=⟨Tryz.f25,λ |6=>[.canon [1,2,7,8,9,36]]|7=>[.canon [1,2,7,8,9]]|8=>[.canon [1,2,7,8,9,10]]|9=>[.canon [1,2,7,8,9,10,42]]|10=>[.canon [1,2,7,8,9,10]]|11=>[.canon [1,2,7,8,9,10,54]]|12=>[.canon [1,2,7,8,9,10]]|100006=>[.canon [1,2,7,8,9]]|100009=>[.canon [1,2,7,8,9,10]]|_=>[],Zle,λN=>[(54,Zfw N),(76,Zjq N),(77,Zo6 N),(19,Zlc N)]⟩
def Zvp(aK:List Kn)(kJ:Int)(fq:Int)(eW:Int)(dq:List Int)(cK:List Int):St:=⟨[(1,vV Jt aK),(2,vI kJ),(7,vO 0),(8,vO 1),(9,vI fq),(10,vI eW)],[(0,.arr Ja dq),(1,.arr Ja cK)],2⟩
def Zs9(aK:List Kn)(kJ:Int)(fq:Int)(cK:List Int)(rT:Int)(fY:Bool)(bA:List Int):St:=⟨[(1,vV Jt aK),(2,vI kJ),(7,vO 0),(8,vO 1),(9,vI fq),(10,vI rT),(42,vB fY)],[(0,.arr Ja bA),(1,.arr Ja cK)],2⟩
theorem Zvq(N:Nat){R:Type}(K:Ex->St->Option R){aK:List Kn}{kJ:Int}{fq:Int}{cK:List Int}{K0:Int->Bool->Kh->Option R}(h0:K0= λrT fY bA=>K (.exit 2) (Zs9 aK kJ fq cK rT fY bA))(n:Nat)(eW:Int)(dq:List Int):Zbr N aK kJ fq cK K0 n eW dq=LM Zgy N 1 100009 n (Zvp aK kJ fq eW dq cK) K:=by
  subst h0
  induction n generalizing eW dq with
  |zero=>kernel_rfl
  |succ n ih=>rw[Zbr];simp only[ih];kernel_rfl
def Zvr(l7:List Kn)(n8:Int)(i9:Int)(bz:List Int)(ar:List Int):St:=⟨[(1,vV Jt l7),(2,vI n8),(7,vO 0),(8,vO 1),(9,vI i9)],[(0,.arr Ja bz),(1,.arr Ja ar)],2⟩
def Zta(l7:List Kn)(n8:Int)(ar:List Int)(tO:Int)(kI:Bool)(eB:List Int):St:=⟨[(1,vV Jt l7),(2,vI n8),(7,vO 0),(8,vO 1),(9,vI tO),(36,vB kI)],[(0,.arr Ja eB),(1,.arr Ja ar)],2⟩
theorem Zvs(N:Nat){R:Type}(K:Ex->St->Option R){l7:List Kn}{n8:Int}{ar:List Int}{K0:Int->Bool->Kh->Option R}(h0:K0= λtO kI eB=>K (.exit 0) (Zta l7 n8 ar tO kI eB))(n:Nat)(i9:Int)(bz:List Int):Zc0 N l7 n8 ar K0 n i9 bz=LM Zgy N 0 100006 n (Zvr l7 n8 i9 bz ar) K:=by
  subst h0
  induction n generalizing i9 bz with
  |zero=>kernel_rfl
  |succ n ih=>rw[Zc0];simp(disch:=exact id (by kernel_rfl)) only[ih,Zvq N (CL Zgy N 0 100006 [1,0,0,1,0] n K)];kernel_rfl
theorem Z2b(N:Nat)(aI:List Int)(l2:List Kn)(n3:Int):DN Zgy N (aI,l2,n3,())=Ze6 N aI l2 n3:=by
  conv=>rhs;rw[Ze6];simp(disch:=exact id (by kernel_rfl)) only[Zvs (R:=Unit×Ky) N (CF Zgy N [1,1,1,1,0,1,0])]
  kernel_rfl
theorem Zqm(N:Nat):GW 25 (Zle N):=GF Zgy N Tryz.func25 (GC (Zjn N) (GC (Zo5 N) (GC (Z3m N) (GC (Zql N) Wa)))) (λd=>Z2b N d.1 d.2.1 d.2.2.1)
def Zpl(N:Nat):Sig:=Sig.of [.v Je false,.v (TY_Family) true,.v Ja false] [.v Jf false] (λd=>Zkb N d.1 d.2.1 d.2.2.1)
def Znc:Fn:=⟨Tryz.f59,λ |5=>[.canon [2,4,7,8,33]]|6=>[.canon [2,4,7,8]]|7=>[.canon [2,4,7,8,9]]|8=>[.canon [2,4,7,8,9,58]]|9=>[.canon [2,4,7,8]]|100005=>[.canon [2,4,7,8]]|_=>[],Zpl,λN=>[(54,Zfw N),(56,Zfx N),(19,Zlc N)]⟩
def Zz4(n7:Int)(i8:Int)(b9:Y_Family)(bz:List Int):St:=⟨[(2,vI n7),(4,vP 0 0),(7,vO 1),(8,vI i8)],[(0,.box [.val Ja b9.1,.val Ja b9.2.1,.val Ja b9.2.2.1,.val Jy b9.2.2.2.1,.val Je b9.2.2.2.2.1,.val Jc b9.2.2.2.2.2.1,.val Jk b9.2.2.2.2.2.2.1,.val Je b9.2.2.2.2.2.2.2.1,.val Jc b9.2.2.2.2.2.2.2.2.1,.val Jr b9.2.2.2.2.2.2.2.2.2]),(1,.arr Ja bz)],2⟩
def Zye(n7:Int)(b9:Y_Family)(tP:Int)(au:Bool)(aR:List Int):St:=⟨[(2,vI n7),(4,vP 0 0),(7,vO 1),(8,vI tP),(33,vB au)],[(0,.box [.val Ja b9.1,.val Ja b9.2.1,.val Ja b9.2.2.1,.val Jy b9.2.2.2.1,.val Je b9.2.2.2.2.1,.val Jc b9.2.2.2.2.2.1,.val Jk b9.2.2.2.2.2.2.1,.val Je b9.2.2.2.2.2.2.2.1,.val Jc b9.2.2.2.2.2.2.2.2.1,.val Jr b9.2.2.2.2.2.2.2.2.2]),(1,.arr Ja aR)],2⟩
theorem Zz5(N:Nat){R:Type}(K:Ex->St->Option R){n7:Int}{b9:Y_Family}{K0:Int->Bool->Kh->Option R}(h0:K0= λtP au aR=>K (.exit 0) (Zye n7 b9 tP au aR))(n:Nat)(i8:Int)(bz:List Int):Zbu N n7 b9 K0 n i8 bz=LM Znc N 0 100005 n (Zz4 n7 i8 b9 bz) K:=by
  subst h0
  induction n generalizing i8 bz with
  |zero=>kernel_rfl
  |succ n ih=>rw[Zbu];simp only[ih];kernel_rfl
theorem Z4f(N:Nat)(bg:List Int)(f2:Y_Family)(n3:Int):DN Znc N (bg,f2,n3,())=Zkb N bg f2 n3:=by
  conv=>rhs;rw[Zkb];simp(disch:=exact id (by kernel_rfl)) only[Zz5 (R:=Unit×Ky) N (CF Znc N [1,1,1,0,1,0])]
  kernel_rfl
theorem Z4g(N:Nat):GW 59 (Zpl N):=GF Znc N Tryz.func59 (GC (Zjn N) (GC (Zjp N) (GC (Zql N) Wa))) (λd=>Z4f N d.1 d.2.1 d.2.2.1)
def Zoh(N:Nat):Sig:=Sig.of [.v Je false,.v (TY_Family) true] [.v Jy false] (λd=>Zh7 N d.1 d.2.1)
def Zgz:Fn:=⟨Tryz.f13,λ |4=>[.canon [0,3,5,22]]|5=>[.canon [0,3,5]]|6=>[.canon [0,3,5,6]]|7=>[.canon [0,3,5,6,7]]|8=>[.canon [0,3,5,6,7,42]]|9=>[.canon [0,3,5,6,7]]|10=>[.canon [0,3,5,6,7,8]]|11=>[.canon [0,3,5,6,7,67]]|12=>[.canon [4]]|100004=>[.canon [0,3,5]]|100008=>[.canon [0,3,5,6,7]]|_=>[],Zoh,λN=>[(54,Zfw N),(56,Zfx N),(59,Zpl N),(60,Zjo N)]⟩
def Zvt(cT:List Int)(ae:Int)(bT:Int)(aH:Y_Family)(aJ:List Int):St:=⟨[(0,vV Je cT),(3,vP 0 0),(5,vI ae),(6,vO 1),(7,vI bT)],[(0,.box [.val Ja aH.1,.val Ja aH.2.1,.val Ja aH.2.2.1,.val Jy aH.2.2.2.1,.val Je aH.2.2.2.2.1,.val Jc aH.2.2.2.2.2.1,.val Jk aH.2.2.2.2.2.2.1,.val Je aH.2.2.2.2.2.2.2.1,.val Jc aH.2.2.2.2.2.2.2.2.1,.val Jr aH.2.2.2.2.2.2.2.2.2]),(1,.arr Ja aJ)],2⟩
def Ztb(cT:List Int)(ae:Int)(aH:Y_Family)(aJ:List Int):St:=⟨[(4,vB false)],[],0⟩
def Ztc(cT:List Int)(ae:Int)(aH:Y_Family)(aJ:List Int)(eW:Int)(cL:Bool):St:=⟨[(0,vV Je cT),(3,vP 0 0),(5,vI ae),(6,vO 1),(7,vI eW),(42,vB cL)],[(0,.box [.val Ja aH.1,.val Ja aH.2.1,.val Ja aH.2.2.1,.val Jy aH.2.2.2.1,.val Je aH.2.2.2.2.1,.val Jc aH.2.2.2.2.2.1,.val Jk aH.2.2.2.2.2.2.1,.val Je aH.2.2.2.2.2.2.2.1,.val Jc aH.2.2.2.2.2.2.2.2.1,.val Jr aH.2.2.2.2.2.2.2.2.2]),(1,.arr Ja aJ)],2⟩
theorem Zvu(N:Nat){R:Type}(K:Ex->St->Option R){cT:List Int}{ae:Int}{aH:Y_Family}{aJ:List Int}{K0:Option R}{K1:Int->Bool->Option R}(h0:K0=K .ret (Ztb cT ae aH aJ))(h1:K1= λeW cL=>K (.exit 2) (Ztc cT ae aH aJ eW cL))(n:Nat)(bT:Int):Zc1 N cT ae aH aJ K0 K1 n bT=LM Zgz N 1 100008 n (Zvt cT ae bT aH aJ) K:=by
  subst h0 h1
  induction n generalizing bT with
  |zero=>kernel_rfl
  |succ n ih=>rw[Zc1];simp only[ih];kernel_rfl
def Zvv(cw:List Int)(i6:Int)(b7:Y_Family):St:=⟨[(0,vV Je cw),(3,vP 0 0),(5,vI i6)],[(0,.box [.val Ja b7.1,.val Ja b7.2.1,.val Ja b7.2.2.1,.val Jy b7.2.2.2.1,.val Je b7.2.2.2.2.1,.val Jc b7.2.2.2.2.2.1,.val Jk b7.2.2.2.2.2.2.1,.val Je b7.2.2.2.2.2.2.2.1,.val Jc b7.2.2.2.2.2.2.2.2.1,.val Jr b7.2.2.2.2.2.2.2.2.2])],1⟩
def Ztd(cw:List Int)(b7:Y_Family):St:=⟨[(4,vB false)],[],0⟩
def Zte(cw:List Int)(b7:Y_Family)(lw:Int)(fO:Bool):St:=⟨[(0,vV Je cw),(3,vP 0 0),(5,vI lw),(22,vB fO)],[(0,.box [.val Ja b7.1,.val Ja b7.2.1,.val Ja b7.2.2.1,.val Jy b7.2.2.2.1,.val Je b7.2.2.2.2.1,.val Jc b7.2.2.2.2.2.1,.val Jk b7.2.2.2.2.2.2.1,.val Je b7.2.2.2.2.2.2.2.1,.val Jc b7.2.2.2.2.2.2.2.2.1,.val Jr b7.2.2.2.2.2.2.2.2.2])],1⟩
theorem Zvw(N:Nat){R:Type}(K:Ex->St->Option R){cw:List Int}{b7:Y_Family}{K0:Option R}{K1:Int->Bool->Option R}(h0:K0=K .ret (Ztd cw b7))(h1:K1= λlw fO=>K (.exit 0) (Zte cw b7 lw fO))(n:Nat)(i6:Int):Zc2 N cw b7 K0 K1 n i6=LM Zgz N 0 100004 n (Zvv cw i6 b7) K:=by
  subst h0 h1
  induction n generalizing i6 with
  |zero=>kernel_rfl
  |succ n ih=>rw[Zc2];simp(disch:=exact id (by kernel_rfl)) only[ih,Zvu N (CL Zgz N 0 100004 [1,0,0,1,1,0] n K)];kernel_rfl
theorem Z2c(N:Nat)(bg:List Int)(f2:Y_Family):DN Zgz N (bg,f2,())=Zh7 N bg f2:=by
  conv=>rhs;rw[Zh7];simp(disch:=exact id (by kernel_rfl)) only[Zvw (R:=Unit×Ko) N (CF Zgz N [1,1,0,1,0])]
  kernel_rfl
theorem Z2d(N:Nat):GW 13 (Zoh N):=GF Zgz N Tryz.func13 (GC (Zjn N) (GC (Zjp N) (GC (Z4g N) (GC (Zo2 N) Wa)))) (λd=>Z2c N d.1 d.2.1)
def Zo7(N:Nat):Sig:=Sig.of [.v Jag true,.v (TY_World) true] [.v Jy false] (λd=>Zhr N d.1 d.2.1)
def Zhl:Fn:=⟨Tryz.f26,λ |4=>[.canon [2,3,5,23]]|5=>[.canon [2,3,5]]|6=>[.canon [2,3,5,6]]|7=>[.canon [2,3,5,6,34]]|8=>[.canon [4]]|9=>[.canon [2,3,5,6,7]]|10=>[.canon [2,3,5,6,7,8]]|11=>[.canon [2,3,5,6,7,8,47]]|12=>[.canon [2,3,5,6,7,8]]|13=>[.canon [2,3,5,6,7,8,65]]|14=>[.canon [4]]|15=>[.canon [2,3,5,78]]|16=>[.canon [4]]|100004=>[.canon [2,3,5]]|100011=>[.canon [2,3,5,6,7,8]]|_=>[],Zo7,λN=>[(42,Zj2 N),(76,Zjq N),(56,Zfx N),(25,Zle N),(13,Zoh N)]⟩
def Zyf(ae:Int)(bT:Int)(aH:Kf×List Km×List Kb)(ac:Y_World)(aR:List Int):St:=⟨[(2,vP 0 0),(3,vP 1 0),(5,vI ae),(6,vP 2 0),(7,vO 3),(8,vI bT)],[(0,.box [.val Je aH.1.1,.val Je aH.1.2.1,.val Ja aH.1.2.2,.val Jab aH.2.1,.val Jk aH.2.2]),(1,.box [.val Ja ac.1,.val Ja ac.2.1,.val Ja ac.2.2.1.1,.val Jk ac.2.2.1.2,.val Je ac.2.2.2.1.1,.val Ja ac.2.2.2.1.2,.val Jk ac.2.2.2.2.1,.val Jw ac.2.2.2.2.2.1,.val Jt ac.2.2.2.2.2.2]),(2,.box [.val Ja (Xb ac.2.2.2.2.2.1 (Xa ae) d_Root).1,.val Ja (Xb ac.2.2.2.2.2.1 (Xa ae) d_Root).2.1,.val Ja (Xb ac.2.2.2.2.2.1 (Xa ae) d_Root).2.2.1,.val Ja (Xb ac.2.2.2.2.2.1 (Xa ae) d_Root).2.2.2.1,.val Ja (Xb ac.2.2.2.2.2.1 (Xa ae) d_Root).2.2.2.2.1,.val Ja (Xb ac.2.2.2.2.2.1 (Xa ae) d_Root).2.2.2.2.2.1,.val Ja (Xb ac.2.2.2.2.2.1 (Xa ae) d_Root).2.2.2.2.2.2.1,.val Ja (Xb ac.2.2.2.2.2.1 (Xa ae) d_Root).2.2.2.2.2.2.2.1,.val Ja (Xb ac.2.2.2.2.2.1 (Xa ae) d_Root).2.2.2.2.2.2.2.2.1,.val Ja (Xb ac.2.2.2.2.2.1 (Xa ae) d_Root).2.2.2.2.2.2.2.2.2.1,.val Ja (Xb ac.2.2.2.2.2.1 (Xa ae) d_Root).2.2.2.2.2.2.2.2.2.2.1,.val Jy (Xb ac.2.2.2.2.2.1 (Xa ae) d_Root).2.2.2.2.2.2.2.2.2.2.2.1,.val Je (Xb ac.2.2.2.2.2.1 (Xa ae) d_Root).2.2.2.2.2.2.2.2.2.2.2.2.1,.val Jc (Xb ac.2.2.2.2.2.1 (Xa ae) d_Root).2.2.2.2.2.2.2.2.2.2.2.2.2.1,.val Jc (Xb ac.2.2.2.2.2.1 (Xa ae) d_Root).2.2.2.2.2.2.2.2.2.2.2.2.2.2.1,.val (.slice Jj) (Xb ac.2.2.2.2.2.1 (Xa ae) d_Root).2.2.2.2.2.2.2.2.2.2.2.2.2.2.2.1,.val Jk (Xb ac.2.2.2.2.2.1 (Xa ae) d_Root).2.2.2.2.2.2.2.2.2.2.2.2.2.2.2.2.1,.val Je (Xb ac.2.2.2.2.2.1 (Xa ae) d_Root).2.2.2.2.2.2.2.2.2.2.2.2.2.2.2.2.2.1,.val Jy (Xb ac.2.2.2.2.2.1 (Xa ae) d_Root).2.2.2.2.2.2.2.2.2.2.2.2.2.2.2.2.2.2.1,.val Ja (Xb ac.2.2.2.2.2.1 (Xa ae) d_Root).2.2.2.2.2.2.2.2.2.2.2.2.2.2.2.2.2.2.2.1.1,.val Ja (Xb ac.2.2.2.2.2.1 (Xa ae) d_Root).2.2.2.2.2.2.2.2.2.2.2.2.2.2.2.2.2.2.2.1.2.1,.val Ja (Xb ac.2.2.2.2.2.1 (Xa ae) d_Root).2.2.2.2.2.2.2.2.2.2.2.2.2.2.2.2.2.2.2.1.2.2.1,.val Ja (Xb ac.2.2.2.2.2.1 (Xa ae) d_Root).2.2.2.2.2.2.2.2.2.2.2.2.2.2.2.2.2.2.2.1.2.2.2,.val Ja (Xb ac.2.2.2.2.2.1 (Xa ae) d_Root).2.2.2.2.2.2.2.2.2.2.2.2.2.2.2.2.2.2.2.2.1.1,.val Ja (Xb ac.2.2.2.2.2.1 (Xa ae) d_Root).2.2.2.2.2.2.2.2.2.2.2.2.2.2.2.2.2.2.2.2.1.2.1,.val Ja (Xb ac.2.2.2.2.2.1 (Xa ae) d_Root).2.2.2.2.2.2.2.2.2.2.2.2.2.2.2.2.2.2.2.2.1.2.2.1,.val Ja (Xb ac.2.2.2.2.2.1 (Xa ae) d_Root).2.2.2.2.2.2.2.2.2.2.2.2.2.2.2.2.2.2.2.2.1.2.2.2.1,.val Ja (Xb ac.2.2.2.2.2.1 (Xa ae) d_Root).2.2.2.2.2.2.2.2.2.2.2.2.2.2.2.2.2.2.2.2.1.2.2.2.2.1,.val Jc (Xb ac.2.2.2.2.2.1 (Xa ae) d_Root).2.2.2.2.2.2.2.2.2.2.2.2.2.2.2.2.2.2.2.2.1.2.2.2.2.2.1,.val Je (Xb ac.2.2.2.2.2.1 (Xa ae) d_Root).2.2.2.2.2.2.2.2.2.2.2.2.2.2.2.2.2.2.2.2.1.2.2.2.2.2.2,.val Ja (Xb ac.2.2.2.2.2.1 (Xa ae) d_Root).2.2.2.2.2.2.2.2.2.2.2.2.2.2.2.2.2.2.2.2.2.1,.val Ja (Xb ac.2.2.2.2.2.1 (Xa ae) d_Root).2.2.2.2.2.2.2.2.2.2.2.2.2.2.2.2.2.2.2.2.2.2.1,.val Ja (Xb ac.2.2.2.2.2.1 (Xa ae) d_Root).2.2.2.2.2.2.2.2.2.2.2.2.2.2.2.2.2.2.2.2.2.2.2.1,.val Jy (Xb ac.2.2.2.2.2.1 (Xa ae) d_Root).2.2.2.2.2.2.2.2.2.2.2.2.2.2.2.2.2.2.2.2.2.2.2.2.1,.val Je (Xb ac.2.2.2.2.2.1 (Xa ae) d_Root).2.2.2.2.2.2.2.2.2.2.2.2.2.2.2.2.2.2.2.2.2.2.2.2.2.1,.val Jc (Xb ac.2.2.2.2.2.1 (Xa ae) d_Root).2.2.2.2.2.2.2.2.2.2.2.2.2.2.2.2.2.2.2.2.2.2.2.2.2.2.1,.val Jk (Xb ac.2.2.2.2.2.1 (Xa ae) d_Root).2.2.2.2.2.2.2.2.2.2.2.2.2.2.2.2.2.2.2.2.2.2.2.2.2.2.2.1,.val Je (Xb ac.2.2.2.2.2.1 (Xa ae) d_Root).2.2.2.2.2.2.2.2.2.2.2.2.2.2.2.2.2.2.2.2.2.2.2.2.2.2.2.2.1,.val Jc (Xb ac.2.2.2.2.2.1 (Xa ae) d_Root).2.2.2.2.2.2.2.2.2.2.2.2.2.2.2.2.2.2.2.2.2.2.2.2.2.2.2.2.2.1,.val Jr (Xb ac.2.2.2.2.2.1 (Xa ae) d_Root).2.2.2.2.2.2.2.2.2.2.2.2.2.2.2.2.2.2.2.2.2.2.2.2.2.2.2.2.2.2]),(3,.arr Ja aR)],4⟩
def Zvx(ae:Int)(aH:Kf×List Km×List Kb)(ac:Y_World)(aR:List Int):St:=⟨[(4,vB false)],[],0⟩
def Zvy(ae:Int)(aH:Kf×List Km×List Kb)(ac:Y_World)(aR:List Int)(nS:Int)(cd:Bool):St:=⟨[(2,vP 0 0),(3,vP 1 0),(5,vI ae),(6,vP 2 0),(7,vO 3),(8,vI nS),(47,vB cd)],[(0,.box [.val Je aH.1.1,.val Je aH.1.2.1,.val Ja aH.1.2.2,.val Jab aH.2.1,.val Jk aH.2.2]),(1,.box [.val Ja ac.1,.val Ja ac.2.1,.val Ja ac.2.2.1.1,.val Jk ac.2.2.1.2,.val Je ac.2.2.2.1.1,.val Ja ac.2.2.2.1.2,.val Jk ac.2.2.2.2.1,.val Jw ac.2.2.2.2.2.1,.val Jt ac.2.2.2.2.2.2]),(2,.box [.val Ja (Xb ac.2.2.2.2.2.1 (Xa ae) d_Root).1,.val Ja (Xb ac.2.2.2.2.2.1 (Xa ae) d_Root).2.1,.val Ja (Xb ac.2.2.2.2.2.1 (Xa ae) d_Root).2.2.1,.val Ja (Xb ac.2.2.2.2.2.1 (Xa ae) d_Root).2.2.2.1,.val Ja (Xb ac.2.2.2.2.2.1 (Xa ae) d_Root).2.2.2.2.1,.val Ja (Xb ac.2.2.2.2.2.1 (Xa ae) d_Root).2.2.2.2.2.1,.val Ja (Xb ac.2.2.2.2.2.1 (Xa ae) d_Root).2.2.2.2.2.2.1,.val Ja (Xb ac.2.2.2.2.2.1 (Xa ae) d_Root).2.2.2.2.2.2.2.1,.val Ja (Xb ac.2.2.2.2.2.1 (Xa ae) d_Root).2.2.2.2.2.2.2.2.1,.val Ja (Xb ac.2.2.2.2.2.1 (Xa ae) d_Root).2.2.2.2.2.2.2.2.2.1,.val Ja (Xb ac.2.2.2.2.2.1 (Xa ae) d_Root).2.2.2.2.2.2.2.2.2.2.1,.val Jy (Xb ac.2.2.2.2.2.1 (Xa ae) d_Root).2.2.2.2.2.2.2.2.2.2.2.1,.val Je (Xb ac.2.2.2.2.2.1 (Xa ae) d_Root).2.2.2.2.2.2.2.2.2.2.2.2.1,.val Jc (Xb ac.2.2.2.2.2.1 (Xa ae) d_Root).2.2.2.2.2.2.2.2.2.2.2.2.2.1,.val Jc (Xb ac.2.2.2.2.2.1 (Xa ae) d_Root).2.2.2.2.2.2.2.2.2.2.2.2.2.2.1,.val (.slice Jj) (Xb ac.2.2.2.2.2.1 (Xa ae) d_Root).2.2.2.2.2.2.2.2.2.2.2.2.2.2.2.1,.val Jk (Xb ac.2.2.2.2.2.1 (Xa ae) d_Root).2.2.2.2.2.2.2.2.2.2.2.2.2.2.2.2.1,.val Je (Xb ac.2.2.2.2.2.1 (Xa ae) d_Root).2.2.2.2.2.2.2.2.2.2.2.2.2.2.2.2.2.1,.val Jy (Xb ac.2.2.2.2.2.1 (Xa ae) d_Root).2.2.2.2.2.2.2.2.2.2.2.2.2.2.2.2.2.2.1,.val Ja (Xb ac.2.2.2.2.2.1 (Xa ae) d_Root).2.2.2.2.2.2.2.2.2.2.2.2.2.2.2.2.2.2.2.1.1,.val Ja (Xb ac.2.2.2.2.2.1 (Xa ae) d_Root).2.2.2.2.2.2.2.2.2.2.2.2.2.2.2.2.2.2.2.1.2.1,.val Ja (Xb ac.2.2.2.2.2.1 (Xa ae) d_Root).2.2.2.2.2.2.2.2.2.2.2.2.2.2.2.2.2.2.2.1.2.2.1,.val Ja (Xb ac.2.2.2.2.2.1 (Xa ae) d_Root).2.2.2.2.2.2.2.2.2.2.2.2.2.2.2.2.2.2.2.1.2.2.2,.val Ja (Xb ac.2.2.2.2.2.1 (Xa ae) d_Root).2.2.2.2.2.2.2.2.2.2.2.2.2.2.2.2.2.2.2.2.1.1,.val Ja (Xb ac.2.2.2.2.2.1 (Xa ae) d_Root).2.2.2.2.2.2.2.2.2.2.2.2.2.2.2.2.2.2.2.2.1.2.1,.val Ja (Xb ac.2.2.2.2.2.1 (Xa ae) d_Root).2.2.2.2.2.2.2.2.2.2.2.2.2.2.2.2.2.2.2.2.1.2.2.1,.val Ja (Xb ac.2.2.2.2.2.1 (Xa ae) d_Root).2.2.2.2.2.2.2.2.2.2.2.2.2.2.2.2.2.2.2.2.1.2.2.2.1,.val Ja (Xb ac.2.2.2.2.2.1 (Xa ae) d_Root).2.2.2.2.2.2.2.2.2.2.2.2.2.2.2.2.2.2.2.2.1.2.2.2.2.1,.val Jc (Xb ac.2.2.2.2.2.1 (Xa ae) d_Root).2.2.2.2.2.2.2.2.2.2.2.2.2.2.2.2.2.2.2.2.1.2.2.2.2.2.1,.val Je (Xb ac.2.2.2.2.2.1 (Xa ae) d_Root).2.2.2.2.2.2.2.2.2.2.2.2.2.2.2.2.2.2.2.2.1.2.2.2.2.2.2,.val Ja (Xb ac.2.2.2.2.2.1 (Xa ae) d_Root).2.2.2.2.2.2.2.2.2.2.2.2.2.2.2.2.2.2.2.2.2.1,.val Ja (Xb ac.2.2.2.2.2.1 (Xa ae) d_Root).2.2.2.2.2.2.2.2.2.2.2.2.2.2.2.2.2.2.2.2.2.2.1,.val Ja (Xb ac.2.2.2.2.2.1 (Xa ae) d_Root).2.2.2.2.2.2.2.2.2.2.2.2.2.2.2.2.2.2.2.2.2.2.2.1,.val Jy (Xb ac.2.2.2.2.2.1 (Xa ae) d_Root).2.2.2.2.2.2.2.2.2.2.2.2.2.2.2.2.2.2.2.2.2.2.2.2.1,.val Je (Xb ac.2.2.2.2.2.1 (Xa ae) d_Root).2.2.2.2.2.2.2.2.2.2.2.2.2.2.2.2.2.2.2.2.2.2.2.2.2.1,.val Jc (Xb ac.2.2.2.2.2.1 (Xa ae) d_Root).2.2.2.2.2.2.2.2.2.2.2.2.2.2.2.2.2.2.2.2.2.2.2.2.2.2.1,.val Jk (Xb ac.2.2.2.2.2.1 (Xa ae) d_Root).2.2.2.2.2.2.2.2.2.2.2.2.2.2.2.2.2.2.2.2.2.2.2.2.2.2.2.1,.val Je (Xb ac.2.2.2.2.2.1 (Xa ae) d_Root).2.2.2.2.2.2.2.2.2.2.2.2.2.2.2.2.2.2.2.2.2.2.2.2.2.2.2.2.1,.val Jc (Xb ac.2.2.2.2.2.1 (Xa ae) d_Root).2.2.2.2.2.2.2.2.2.2.2.2.2.2.2.2.2.2.2.2.2.2.2.2.2.2.2.2.2.1,.val Jr (Xb ac.2.2.2.2.2.1 (Xa ae) d_Root).2.2.2.2.2.2.2.2.2.2.2.2.2.2.2.2.2.2.2.2.2.2.2.2.2.2.2.2.2.2]),(3,.arr Ja aR)],4⟩
theorem Zyg(N:Nat){R:Type}(K:Ex->St->Option R){ae:Int}{aH:Kf×List Km×List Kb}{ac:Y_World}{aR:List Int}{K0:Option R}{K1:Int->Bool->Option R}(h0:K0=K .ret (Zvx ae aH ac aR))(h1:K1= λnS cd=>K (.exit 2) (Zvy ae aH ac aR nS cd))(n:Nat)(bT:Int):Zdt N ae aH ac aR K0 K1 n bT=LM Zhl N 1 100011 n (Zyf ae bT aH ac aR) K:=by
  subst h0 h1
  induction n generalizing bT with
  |zero=>kernel_rfl
  |succ n ih=>rw[Zdt];simp only[ih];kernel_rfl
def Zyh(i5:Int)(b6:Kf×List Km×List Kb)(b7:Y_World):St:=⟨[(2,vP 0 0),(3,vP 1 0),(5,vI i5)],[(0,.box [.val Je b6.1.1,.val Je b6.1.2.1,.val Ja b6.1.2.2,.val Jab b6.2.1,.val Jk b6.2.2]),(1,.box [.val Ja b7.1,.val Ja b7.2.1,.val Ja b7.2.2.1.1,.val Jk b7.2.2.1.2,.val Je b7.2.2.2.1.1,.val Ja b7.2.2.2.1.2,.val Jk b7.2.2.2.2.1,.val Jw b7.2.2.2.2.2.1,.val Jt b7.2.2.2.2.2.2])],2⟩
def Zvz(b6:Kf×List Km×List Kb)(b7:Y_World):St:=⟨[(4,vB false)],[],0⟩
def Zv0(b6:Kf×List Km×List Kb)(b7:Y_World)(tQ:Int)(gE:Bool):St:=⟨[(2,vP 0 0),(3,vP 1 0),(5,vI tQ),(23,vB gE)],[(0,.box [.val Je b6.1.1,.val Je b6.1.2.1,.val Ja b6.1.2.2,.val Jab b6.2.1,.val Jk b6.2.2]),(1,.box [.val Ja b7.1,.val Ja b7.2.1,.val Ja b7.2.2.1.1,.val Jk b7.2.2.1.2,.val Je b7.2.2.2.1.1,.val Ja b7.2.2.2.1.2,.val Jk b7.2.2.2.2.1,.val Jw b7.2.2.2.2.2.1,.val Jt b7.2.2.2.2.2.2])],2⟩
theorem Zyi(N:Nat){R:Type}(K:Ex->St->Option R){b6:Kf×List Km×List Kb}{b7:Y_World}{K0:Option R}{K1:Int->Bool->Option R}(h0:K0=K .ret (Zvz b6 b7))(h1:K1= λtQ gE=>K (.exit 0) (Zv0 b6 b7 tQ gE))(n:Nat)(i5:Int):Zdu N b6 b7 K0 K1 n i5=LM Zhl N 0 100004 n (Zyh i5 b6 b7) K:=by
  subst h0 h1
  induction n generalizing i5 with
  |zero=>kernel_rfl
  |succ n ih=>rw[Zdu];simp(disch:=exact id (by kernel_rfl)) only[ih,Zyg N (CL Zhl N 0 100004 [1,0,0,1,1,1,0,1,0] n K)];kernel_rfl
theorem Z3n(N:Nat)(s1:Kf×List Km×List Kb)(w2:Y_World):DN Zhl N (s1,w2,())=Zhr N s1 w2:=by
  conv=>rhs;rw[Zhr];simp(disch:=exact id (by kernel_rfl)) only[Zyi (R:=Unit×Ko) N (CF Zhl N [1,1,0,1,0])]
  kernel_rfl
theorem Z3o(N:Nat):GW 26 (Zo7 N):=GF Zhl N Tryz.func26 (GC (Zp5 N) (GC (Zo5 N) (GC (Zjp N) (GC (Zqm N) (GC (Z2d N) Wa))))) (λd=>Z3n N d.1 d.2.1)
def Znl(N:Nat):Sig:=Sig.of [.v Ji true,.box Ji] [.v Jy false] (λd=>Zon N d.1 d.2.1)
def Z0w:Fn:=⟨Tryz.f132,WB,Znl,Wbg⟩
theorem Z0x(N:Nat):GW 132 (Znl N):=GF Z0w N Tryz.func132 Wa
def Zat(N:Nat):Sig:=Sig.of [.v Jt false,.clos 132 1,.box Ji] [.v Ja false] (λd=>Zz N d.1 d.2.1)
def Zaf:Fn:=⟨Tryz.f203,λ |2=>[.canon [0,1,7,8,9]]|3=>[.canon [0,1,5,7,8]]|4=>[.canon [0,1,5,7,8,16]]|5=>[.canon [1,4]]|6=>[.canon [0,1,7,8]]|100002=>[.canon [0,1,7,8]]|_=>[],Zat,λN=>[(132,Znl N)]⟩
def Ze0(s3:List Kn)(t5:Int)(b6:Int×Int×List Kc):St:=⟨[(0,vV Jt s3),(1,.s (.one (.clos 132 [0]))),(7,vI (Wb s3)),(8,vI t5)],[(0,.box [.val Ja b6.1,.val Ja b6.2.1,.val Jc b6.2.2])],1⟩
def Zel(s3:List Kn)(t9:Int)(bd:Int×Int×List Kc):St:=⟨[(1,.s (.one (.clos 132 [0]))),(4,vI t9)],[(0,.box [.val Ja bd.1,.val Ja bd.2.1,.val Jc bd.2.2])],1⟩
def Zem(s3:List Kn)(ay:Int)(ai:Bool)(ac:Int×Int×List Kc):St:=⟨[(0,vV Jt s3),(1,.s (.one (.clos 132 [0]))),(7,vI (Wb s3)),(8,vI ay),(9,vB ai)],[(0,.box [.val Ja ac.1,.val Ja ac.2.1,.val Jc ac.2.2])],1⟩
theorem Ze1(N:Nat){R:Type}(K:Ex->St->Option R){s3:List Kn}{K0:Int->Kn->Option R}{K1:Int->Bool->Kn->Option R}(h0:K0= λt9 bd=>K .ret (Zel s3 t9 bd))(h1:K1= λay ai ac=>K (.exit 0) (Zem s3 ay ai ac))(n:Nat)(t5:Int)(b6:Int×Int×List Kc):Zk N s3 K0 K1 n t5 b6=LM Zaf N 0 100002 n (Ze0 s3 t5 b6) K:=by
  subst h0 h1
  induction n generalizing t5 b6 with
  |zero=>kernel_rfl
  |succ n ih=>rw[Zk];simp only[ih];kernel_rfl
theorem Zfy(N:Nat)(s1:List Kn)(cp:Int×Int×List Kc):DN Zaf N (s1,cp,())=Zz N s1 cp:=by
  conv=>rhs;rw[Zz];simp(disch:=exact id (by kernel_rfl)) only[Ze1 (R:=(Kn×Unit)×Ki) N (CF Zaf N [1,0,1,0])]
  kernel_rfl
theorem Zfz(N:Nat):GW 203 (Zat N):=GF Zaf N Tryz.func203 (GC (Z0x N) Wa) (λd=>Zfy N d.1 d.2.1)
def Zao(N:Nat):Sig:=Sig.of [.v Jt false,.clos 132 1,.box Ji] [.v Jy false] (λd=>Z9 N d.1 d.2.1)
def Zfe:Fn:=⟨Tryz.f131,WB,Zao,λN=>[(203,Zat N)]⟩
theorem Zff(N:Nat):GW 131 (Zao N):=GF Zfe N Tryz.func131 (GC (Zfz N) Wa)
def Zmg(N:Nat):Sig:=Sig.of [.v Jt false] [.v Jy false] (λd=>Zhs N d.1)
def Zmh:Fn:=⟨Tryz.f79,λ |2=>[.canon [0,5,6,7,8]]|3=>[.canon [0,3,4,5,6,7]]|4=>[.canon [0,5,6,7,34]]|5=>[.canon [2]]|6=>[.canon [0,5,6,7]]|100002=>[.canon [0,5,6,7]]|_=>[],Zmg,λN=>[(51,Z0 N),(130,Zc7 N),(69,Zb5 N),(131,Zao N)]⟩
def Zyj(l2:List Kn)(t5:Int):St:=⟨[(0,vV Jt l2),(5,vV Jt l2),(6,vI (Wb l2)),(7,vI t5)],[],0⟩
def Zv1(l2:List Kn):St:=⟨[(2,vB false)],[],0⟩
def Zv2(l2:List Kn)(au:Int)(aY:Bool):St:=⟨[(0,vV Jt l2),(5,vV Jt l2),(6,vI (Wb l2)),(7,vI au),(8,vB aY)],[],0⟩
theorem Zyk(N:Nat){R:Type}(K:Ex->St->Option R){l2:List Kn}{K0:Option R}{K1:Int->Bool->Option R}(h0:K0=K .ret (Zv1 l2))(h1:K1= λau aY=>K (.exit 0) (Zv2 l2 au aY))(n:Nat)(t5:Int):Zdv N l2 K0 K1 n t5=LM Zmh N 0 100002 n (Zyj l2 t5) K:=by
  subst h0 h1
  induction n generalizing t5 with
  |zero=>kernel_rfl
  |succ n ih=>rw[Zdv];simp only[ih];kernel_rfl
theorem Z3p(N:Nat)(l1:List Kn):DN Zmh N (l1,())=Zhs N l1:=by
  conv=>rhs;rw[Zhs];simp(disch:=exact id (by kernel_rfl)) only[Zyk (R:=Unit×Ko) N (CF Zmh N [1,0,1,0])]
  kernel_rfl
theorem Zq9(N:Nat):GW 79 (Zmg N):=GF Zmh N Tryz.func79 (GC (Z5 N) (GC (Zgx N) (GC (Zd2 N) (GC (Zff N) Wa)))) (λd=>Z3p N d.1)
def Znm(N:Nat):Sig:=Sig.of [.v Jt false] [.v (.own Ji) false] (λd=>Zhg N d.1)
def Zj5:Fn:=⟨Tryz.f133,λ |3=>[.canon [3,6,7,8,9]]|4=>[.canon [3,5,6,7,8]]|5=>[.canon [3,5,6,7,8]]|6=>[.canon [3,6,7,8]]|7=>[.canon [3,6,7,8]]|100003=>[.adopt 3 Ji,.canon [3,6,7,8]]|_=>[],Znm,λN=>[(204,Zcj N)]⟩
def Ztf(t2:List Kn)(t4:Int)(l5:List Kn):St:=⟨[(3,vO 0),(6,vV Jt t2),(7,vI (Wb t2)),(8,vI t4)],[(0,.arr Ji l5)],1⟩
def Zrt(t2:List Kn)(t8:Int)(t9:Bool)(bz:List Kn):St:=⟨[(3,vO 0),(6,vV Jt t2),(7,vI (Wb t2)),(8,vI t8),(9,vB t9)],[(0,.arr Ji bz)],1⟩
theorem Ztg(N:Nat){R:Type}(K:Ex->St->Option R){t2:List Kn}{K0:Int->Bool->(List Kn)->Option R}(h0:K0= λt8 t9 bz=>K (.exit 0) (Zrt t2 t8 t9 bz))(n:Nat)(t4:Int)(l5:List Kn):Zcn N t2 K0 n t4 l5=LM Zj5 N 0 100003 n (Ztf t2 t4 l5) K:=by
  subst h0
  induction n generalizing t4 l5 with
  |zero=>kernel_rfl
  |succ n ih=>rw[Zcn];simp only[ih];kernel_rfl
theorem Z0y(N:Nat)(l1:List Kn):DN Zj5 N (l1,())=Zhg N l1:=by
  conv=>rhs;rw[Zhg];simp(disch:=exact id (by kernel_rfl)) only[Ztg (R:=Unit×((List Kn)×Unit)) N (CF Zj5 N [1,1,0,1,0])]
  kernel_rfl
theorem Z0z(N:Nat):GW 133 (Znm N):=GF Zj5 N Tryz.func133 (GC (Zf7 N) Wa) (λd=>Z0y N d.1)
def Zbx(N:Nat):Sig:=Sig.of [.mut Ji,.clos 135 0] [] (λd=>Za2 N d.1)
theorem Zgi:CmpOk Tryz.prog 135 Ji Wv4 cfW:=by
  intro G x y us vs w hx hy h1 h2;obtain⟨_,_,rfl,a1,_,_,rfl,a2,_,rfl,a3⟩:=h1;obtain⟨_,_,rfl,b1,_,_,rfl,b2,_,rfl,b3⟩:=h2;simp only[Enc]at a1 a2 b1 b2;subst a1 a2 b1 b2;simp only[List.cons_append,List.nil_append]
  go_enter Tryz.func135,Tryz.ntmps135
  go_wp2
  rw[sub_run (Wd4 hx) (Wd4 hy) (c:=cfW x y) rfl]
  go_wp2
  go_ret
  exact⟨rfl,two_grow _ _ _⟩
theorem Zgj(N:Nat):GW 134 (Zbx N):=⟨WcL Tryz.func134 (show Wnf Tryz.f134=true by kernel_rfl),good_sortF sortFW (e:=.prod Ja (.prod Ja Jc)) rfl (by decide) Tryz.isAgg84 Tryz.sizeOf84 (enters_of Tryz.func135 (by kernel_rfl) rfl) WwH Zgi N⟩
def Zlf(N:Nat):Sig:=Sig.of [.v Je false,.v Jc false] [.v Jf false] (λd=>Zdh N d.1 d.2.1)
def Zlg:Fn:=⟨Tryz.f70,λ |5=>[.canon [5,18,19,20,21]]|6=>[.canon [5,7,18,19,20]]|7=>[.canon [5,18,19,20]]|8=>[.canon [5,18,19,20]]|100005=>[.canon [5,18,19,20]]|_=>[],Zlf,λN=>[(67,Zbe N),(69,Zb5 N),(68,Z2 N)]⟩
def Zv3(t6:List Kc)(t8:Int)(l9:List Int):St:=⟨[(5,vO 0),(18,vV Jc t6),(19,vI (Wb t6)),(20,vI t8)],[(0,.arr Ja l9)],1⟩
def Zth(t6:List Kc)(aw:Int)(ay:Bool)(aK:List Int):St:=⟨[(5,vO 0),(18,vV Jc t6),(19,vI (Wb t6)),(20,vI aw),(21,vB ay)],[(0,.arr Ja aK)],1⟩
theorem Zv4(N:Nat){R:Type}(K:Ex->St->Option R){t6:List Kc}{K0:Int->Bool->Kh->Option R}(h0:K0= λaw ay aK=>K (.exit 0) (Zth t6 aw ay aK))(n:Nat)(t8:Int)(l9:List Int):Zc3 N t6 K0 n t8 l9=LM Zlg N 0 100005 n (Zv3 t6 t8 l9) K:=by
  subst h0
  induction n generalizing t8 l9 with
  |zero=>kernel_rfl
  |succ n ih=>rw[Zc3];simp only[ih];kernel_rfl
theorem Z2e(N:Nat)(aI:List Int)(l2:List Kc):DN Zlg N (aI,l2,())=Zdh N aI l2:=by
  conv=>rhs;rw[Zdh];simp(disch:=exact id (by kernel_rfl)) only[Zv4 (R:=Unit×Ky) N (CF Zlg N [1,1,1,0,1,0])]
  kernel_rfl
theorem Zqn(N:Nat):GW 70 (Zlf N):=GF Zlg N Tryz.func70 (GC (Zcb N) (GC (Zd2 N) (GC (Z8 N) Wa))) (λd=>Z2e N d.1 d.2.1)
def Zoi(N:Nat):Sig:=Sig.of [.v Je false,.v Jt false,.v Ja false] [.v Jf false] (λd=>Zgu N d.1 d.2.1 d.2.2.1)
def Zlh:Fn:=⟨Tryz.f80,λ |7=>[.canon [2,8,25,26,27,28]]|8=>[.canon [2,8,10,25,26,27]]|9=>[.canon [2,8,10,25,26,27,34]]|10=>[.canon [2,8,25,26,27]]|11=>[.canon [2,8,25,26,27]]|100007=>[.canon [2,8,25,26,27]]|_=>[],Zoi,λN=>[(67,Zbe N),(79,Zmg N),(133,Znm N),(134,Zbx N),(68,Z2 N),(70,Zlf N)]⟩
def Zv5(n9:Int)(aw:Int)(ay:Int)(aK:List Int)(aJ:List Kn):St:=⟨[(2,vI n9),(8,vO 0),(25,vO 1),(26,vI aw),(27,vI ay)],[(0,.arr Ja aK),(1,.arr Ji aJ)],2⟩
def Zti(n9:Int)(aw:Int)(aJ:List Kn)(aY:Int)(cL:Bool)(cK:List Int):St:=⟨[(2,vI n9),(8,vO 0),(25,vO 1),(26,vI aw),(27,vI aY),(28,vB cL)],[(0,.arr Ja cK),(1,.arr Ji aJ)],2⟩
theorem Zv6(N:Nat){R:Type}(K:Ex->St->Option R){n9:Int}{aw:Int}{aJ:List Kn}{K0:Int->Bool->Kh->Option R}(h0:K0= λaY cL cK=>K (.exit 0) (Zti n9 aw aJ aY cL cK))(n:Nat)(ay:Int)(aK:List Int):Zca N n9 aw aJ K0 n ay aK=LM Zlh N 0 100007 n (Zv5 n9 aw ay aK aJ) K:=by
  subst h0
  induction n generalizing ay aK with
  |zero=>kernel_rfl
  |succ n ih=>rw[Zca];simp only[ih];kernel_rfl
theorem Z2f(N:Nat)(aI:List Int)(l2:List Kn)(n3:Int):DN Zlh N (aI,l2,n3,())=Zgu N aI l2 n3:=by
  conv=>rhs;rw[Zgu];simp(disch:=exact id (by kernel_rfl)) only[Zv6 (R:=Unit×Ky) N (CF Zlh N [1,1,1,1,1,0,1,0])]
  kernel_rfl
theorem Z2g(N:Nat):GW 80 (Zoi N):=GF Zlh N Tryz.func80 (GC (Zcb N) (GC (Zq9 N) (GC (Z0z N) (GC (Zgj N) (GC (Z8 N) (GC (Zqn N) Wa)))))) (λd=>Z2f N d.1 d.2.1 d.2.2.1)
def Zpm(N:Nat):Sig:=Sig.of [.v Je false,.v (TY_Family) true,.v Ja false] [.v Jf false] (λd=>Zha N d.1 d.2.1 d.2.2.1)
def Znd:Fn:=⟨Tryz.f21,λ |5=>[.canon [2,4,7,24,25,26,27]]|6=>[.canon [2,4,7,8,9,24,25,26]]|7=>[.canon [2,4,7,9,24,25,26,50]]|8=>[.canon [2,4,7,24,25,26]]|9=>[.canon [2,4,7,24,25,26]]|100005=>[.canon [2,4,7,24,25,26]]|_=>[],Zpm,λN=>[(67,Zbe N),(69,Zb5 N),(70,Zlf N),(51,Z0 N)]⟩
def Zz6(n7:Int)(t8:List Int)(aw:Int)(aO:Y_Family)(aK:List Int):St:=⟨[(2,vI n7),(4,vP 0 0),(7,vO 1),(24,vV Je t8),(25,vI (Wb aO.2.2.2.2.2.2.2.1)),(26,vI aw)],[(0,.box [.val Ja aO.1,.val Ja aO.2.1,.val Ja aO.2.2.1,.val Jy aO.2.2.2.1,.val Je aO.2.2.2.2.1,.val Jc aO.2.2.2.2.2.1,.val Jk aO.2.2.2.2.2.2.1,.val Je aO.2.2.2.2.2.2.2.1,.val Jc aO.2.2.2.2.2.2.2.2.1,.val Jr aO.2.2.2.2.2.2.2.2.2]),(1,.arr Ja aK)],2⟩
def Zyl(n7:Int)(t8:List Int)(aO:Y_Family)(eG:Int)(fY:Bool)(bA:List Int):St:=⟨[(2,vI n7),(4,vP 0 0),(7,vO 1),(24,vV Je t8),(25,vI (Wb aO.2.2.2.2.2.2.2.1)),(26,vI eG),(27,vB fY)],[(0,.box [.val Ja aO.1,.val Ja aO.2.1,.val Ja aO.2.2.1,.val Jy aO.2.2.2.1,.val Je aO.2.2.2.2.1,.val Jc aO.2.2.2.2.2.1,.val Jk aO.2.2.2.2.2.2.1,.val Je aO.2.2.2.2.2.2.2.1,.val Jc aO.2.2.2.2.2.2.2.2.1,.val Jr aO.2.2.2.2.2.2.2.2.2]),(1,.arr Ja bA)],2⟩
theorem Zz7(N:Nat){R:Type}(K:Ex->St->Option R){n7:Int}{t8:List Int}{aO:Y_Family}{K0:Int->Bool->Kh->Option R}(h0:K0= λeG fY bA=>K (.exit 0) (Zyl n7 t8 aO eG fY bA))(n:Nat)(aw:Int)(aK:List Int):Zbv N n7 t8 aO K0 n aw aK=LM Znd N 0 100005 n (Zz6 n7 t8 aw aO aK) K:=by
  subst h0
  induction n generalizing aw aK with
  |zero=>kernel_rfl
  |succ n ih=>rw[Zbv];simp only[ih];kernel_rfl
theorem Z4h(N:Nat)(bg:List Int)(f2:Y_Family)(n3:Int):DN Znd N (bg,f2,n3,())=Zha N bg f2 n3:=by
  conv=>rhs;rw[Zha];simp(disch:=exact id (by kernel_rfl)) only[Zz7 (R:=Unit×Ky) N (CF Znd N [1,1,1,0,1,0])]
  kernel_rfl
theorem Z4i(N:Nat):GW 21 (Zpm N):=GF Znd N Tryz.func21 (GC (Zcb N) (GC (Zd2 N) (GC (Zqn N) (GC (Z5 N) Wa)))) (λd=>Z4h N d.1 d.2.1 d.2.2.1)
def Zoj(N:Nat):Sig:=Sig.of [.v Je false,.v (TY_Family) true] [.v Jy false] (λd=>Zh8 N d.1 d.2.1)
def Zg0:Fn:=⟨Tryz.f14,λ |4=>[.canon [0,3,15,16,17,18]]|5=>[.canon [0,3,6,15,16,17]]|6=>[.canon [0,3,6,7,15,16,17]]|7=>[.canon [0,3,7,15,16,17,27,28,29]]|8=>[.canon [0,3,7,15,16,17,27,28,29,30]]|9=>[.canon [0,3,7,9,15,16,17,27,28,29]]|10=>[.canon [0,3,7,15,16,17,27,28,29,46]]|11=>[.canon [4]]|12=>[.canon [0,3,7,15,16,17,27,28,29]]|13=>[.canon [0,3,15,16,17]]|100004=>[.canon [0,3,15,16,17]]|100008=>[.canon [0,3,7,15,16,17,27,28,29]]|_=>[],Zoj,λN=>[(21,Zpm N),(61,Zbs N)]⟩
def Zv7(bY:List Int)(ay:List Y_KidRun)(ai:Int)(aG:Int)(au:List Kb)(cL:Int)(cg:Y_Family)(ce:List Int):St:=⟨[(0,vV Je bY),(3,vP 0 0),(7,vO 1),(15,vV Jr ay),(16,vI ai),(17,vI aG),(27,vV Jk au),(28,vI (Wb (Xb ay (Xa aG) d_KidRun).2.2.2.2.2.2.2.1)),(29,vI cL)],[(0,.box [.val Ja cg.1,.val Ja cg.2.1,.val Ja cg.2.2.1,.val Jy cg.2.2.2.1,.val Je cg.2.2.2.2.1,.val Jc cg.2.2.2.2.2.1,.val Jk cg.2.2.2.2.2.2.1,.val Je cg.2.2.2.2.2.2.2.1,.val Jc cg.2.2.2.2.2.2.2.2.1,.val Jr cg.2.2.2.2.2.2.2.2.2]),(1,.arr Ja ce)],2⟩
def Ztj(bY:List Int)(ay:List Y_KidRun)(ai:Int)(aG:Int)(au:List Kb)(cg:Y_Family)(ce:List Int):St:=⟨[(4,vB false)],[],0⟩
def Ztk(bY:List Int)(ay:List Y_KidRun)(ai:Int)(aG:Int)(au:List Kb)(cg:Y_Family)(ce:List Int)(fO:Int)(t22:Bool):St:=⟨[(0,vV Je bY),(3,vP 0 0),(7,vO 1),(15,vV Jr ay),(16,vI ai),(17,vI aG),(27,vV Jk au),(28,vI (Wb (Xb ay (Xa aG) d_KidRun).2.2.2.2.2.2.2.1)),(29,vI fO),(30,vB t22)],[(0,.box [.val Ja cg.1,.val Ja cg.2.1,.val Ja cg.2.2.1,.val Jy cg.2.2.2.1,.val Je cg.2.2.2.2.1,.val Jc cg.2.2.2.2.2.1,.val Jk cg.2.2.2.2.2.2.1,.val Je cg.2.2.2.2.2.2.2.1,.val Jc cg.2.2.2.2.2.2.2.2.1,.val Jr cg.2.2.2.2.2.2.2.2.2]),(1,.arr Ja ce)],2⟩
theorem Zv8(N:Nat){R:Type}(K:Ex->St->Option R){bY:List Int}{ay:List Y_KidRun}{ai:Int}{aG:Int}{au:List Kb}{cg:Y_Family}{ce:List Int}{K0:Option R}{K1:Int->Bool->Option R}(h0:K0=K .ret (Ztj bY ay ai aG au cg ce))(h1:K1= λfO t22=>K (.exit 2) (Ztk bY ay ai aG au cg ce fO t22))(n:Nat)(cL:Int):Zc4 N bY ay ai aG au cg ce K0 K1 n cL=LM Zg0 N 1 100008 n (Zv7 bY ay ai aG au cL cg ce) K:=by
  subst h0 h1
  induction n generalizing cL with
  |zero=>kernel_rfl
  |succ n ih=>rw[Zc4];simp only[ih];kernel_rfl
def Zv9(cx:List Int)(t5:List Y_KidRun)(t7:Int)(b8:Y_Family):St:=⟨[(0,vV Je cx),(3,vP 0 0),(15,vV Jr t5),(16,vI (Wb b8.2.2.2.2.2.2.2.2.2)),(17,vI t7)],[(0,.box [.val Ja b8.1,.val Ja b8.2.1,.val Ja b8.2.2.1,.val Jy b8.2.2.2.1,.val Je b8.2.2.2.2.1,.val Jc b8.2.2.2.2.2.1,.val Jk b8.2.2.2.2.2.2.1,.val Je b8.2.2.2.2.2.2.2.1,.val Jc b8.2.2.2.2.2.2.2.2.1,.val Jr b8.2.2.2.2.2.2.2.2.2])],1⟩
def Ztl(cx:List Int)(t5:List Y_KidRun)(b8:Y_Family):St:=⟨[(4,vB false)],[],0⟩
def Ztm(cx:List Int)(t5:List Y_KidRun)(b8:Y_Family)(gT:Int)(gU:Bool):St:=⟨[(0,vV Je cx),(3,vP 0 0),(15,vV Jr t5),(16,vI (Wb b8.2.2.2.2.2.2.2.2.2)),(17,vI gT),(18,vB gU)],[(0,.box [.val Ja b8.1,.val Ja b8.2.1,.val Ja b8.2.2.1,.val Jy b8.2.2.2.1,.val Je b8.2.2.2.2.1,.val Jc b8.2.2.2.2.2.1,.val Jk b8.2.2.2.2.2.2.1,.val Je b8.2.2.2.2.2.2.2.1,.val Jc b8.2.2.2.2.2.2.2.2.1,.val Jr b8.2.2.2.2.2.2.2.2.2])],1⟩
theorem Zwa(N:Nat){R:Type}(K:Ex->St->Option R){cx:List Int}{t5:List Y_KidRun}{b8:Y_Family}{K0:Option R}{K1:Int->Bool->Option R}(h0:K0=K .ret (Ztl cx t5 b8))(h1:K1= λgT gU=>K (.exit 0) (Ztm cx t5 b8 gT gU))(n:Nat)(t7:Int):Zc5 N cx t5 b8 K0 K1 n t7=LM Zg0 N 0 100004 n (Zv9 cx t5 t7 b8) K:=by
  subst h0 h1
  induction n generalizing t7 with
  |zero=>kernel_rfl
  |succ n ih=>rw[Zc5];simp(disch:=exact id (by kernel_rfl)) only[ih,Zv8 N (CL Zg0 N 0 100004 [1,1,0,0,1,1,1,0] n K)];kernel_rfl
theorem Z2h(N:Nat)(bg:List Int)(f2:Y_Family):DN Zg0 N (bg,f2,())=Zh8 N bg f2:=by
  conv=>rhs;rw[Zh8];simp(disch:=exact id (by kernel_rfl)) only[Zwa (R:=Unit×Ko) N (CF Zg0 N [1,1,0,1,0])]
  kernel_rfl
theorem Z2i(N:Nat):GW 14 (Zoj N):=GF Zg0 N Tryz.func14 (GC (Z4i N) (GC (Zcq N) Wa)) (λd=>Z2h N d.1 d.2.1)
def Zo8(N:Nat):Sig:=Sig.of [.v Jag true,.v (TY_World) true] [.v Jy false] (λd=>Zht N d.1 d.2.1)
def Zhm:Fn:=⟨Tryz.f27,λ |4=>[.canon [2,3,21,22,23,24]]|5=>[.canon [2,3,6,21,22,23]]|6=>[.canon [2,3,6,21,22,23,30]]|7=>[.canon [4]]|8=>[.canon [2,3,6,7,21,22,23]]|9=>[.canon [2,3,6,7,21,22,23,40,41,42]]|10=>[.canon [2,3,6,7,21,22,23,40,41,42,43]]|11=>[.canon [2,3,6,7,9,21,22,23,40,41,42]]|12=>[.canon [2,3,6,7,21,22,23,40,41,42,53]]|13=>[.canon [4]]|14=>[.canon [2,3,6,7,21,22,23,40,41,42]]|15=>[.canon [2,3,21,22,23,67]]|16=>[.canon [4]]|17=>[.canon [2,3,21,22,23]]|100004=>[.canon [2,3,21,22,23]]|100010=>[.canon [2,3,6,7,21,22,23,40,41,42]]|_=>[],Zo8,λN=>[(78,Zjx N),(79,Zmg N),(69,Zb5 N),(80,Zoi N),(14,Zoj N)]⟩
def Zym(ai:List Y_Root)(aG:Int)(au:Int)(aY:List Kc)(cd:Int)(bO:Kf×List Km×List Kb)(bv:Y_World)(bA:List Int):St:=⟨[(2,vP 0 0),(3,vP 1 0),(6,vP 2 0),(7,vO 3),(21,vV Jw ai),(22,vI aG),(23,vI au),(40,vV Jc aY),(41,vI (Wb (Xb ai (Xa au) d_Root).2.2.2.2.2.2.2.2.2.2.2.2.2.1)),(42,vI cd)],[(0,.box [.val Je bO.1.1,.val Je bO.1.2.1,.val Ja bO.1.2.2,.val Jab bO.2.1,.val Jk bO.2.2]),(1,.box [.val Ja bv.1,.val Ja bv.2.1,.val Ja bv.2.2.1.1,.val Jk bv.2.2.1.2,.val Je bv.2.2.2.1.1,.val Ja bv.2.2.2.1.2,.val Jk bv.2.2.2.2.1,.val Jw bv.2.2.2.2.2.1,.val Jt bv.2.2.2.2.2.2]),(2,.box [.val Ja (Xb ai (Xa au) d_Root).1,.val Ja (Xb ai (Xa au) d_Root).2.1,.val Ja (Xb ai (Xa au) d_Root).2.2.1,.val Ja (Xb ai (Xa au) d_Root).2.2.2.1,.val Ja (Xb ai (Xa au) d_Root).2.2.2.2.1,.val Ja (Xb ai (Xa au) d_Root).2.2.2.2.2.1,.val Ja (Xb ai (Xa au) d_Root).2.2.2.2.2.2.1,.val Ja (Xb ai (Xa au) d_Root).2.2.2.2.2.2.2.1,.val Ja (Xb ai (Xa au) d_Root).2.2.2.2.2.2.2.2.1,.val Ja (Xb ai (Xa au) d_Root).2.2.2.2.2.2.2.2.2.1,.val Ja (Xb ai (Xa au) d_Root).2.2.2.2.2.2.2.2.2.2.1,.val Jy (Xb ai (Xa au) d_Root).2.2.2.2.2.2.2.2.2.2.2.1,.val Je (Xb ai (Xa au) d_Root).2.2.2.2.2.2.2.2.2.2.2.2.1,.val Jc (Xb ai (Xa au) d_Root).2.2.2.2.2.2.2.2.2.2.2.2.2.1,.val Jc (Xb ai (Xa au) d_Root).2.2.2.2.2.2.2.2.2.2.2.2.2.2.1,.val (.slice Jj) (Xb ai (Xa au) d_Root).2.2.2.2.2.2.2.2.2.2.2.2.2.2.2.1,.val Jk (Xb ai (Xa au) d_Root).2.2.2.2.2.2.2.2.2.2.2.2.2.2.2.2.1,.val Je (Xb ai (Xa au) d_Root).2.2.2.2.2.2.2.2.2.2.2.2.2.2.2.2.2.1,.val Jy (Xb ai (Xa au) d_Root).2.2.2.2.2.2.2.2.2.2.2.2.2.2.2.2.2.2.1,.val Ja (Xb ai (Xa au) d_Root).2.2.2.2.2.2.2.2.2.2.2.2.2.2.2.2.2.2.2.1.1,.val Ja (Xb ai (Xa au) d_Root).2.2.2.2.2.2.2.2.2.2.2.2.2.2.2.2.2.2.2.1.2.1,.val Ja (Xb ai (Xa au) d_Root).2.2.2.2.2.2.2.2.2.2.2.2.2.2.2.2.2.2.2.1.2.2.1,.val Ja (Xb ai (Xa au) d_Root).2.2.2.2.2.2.2.2.2.2.2.2.2.2.2.2.2.2.2.1.2.2.2,.val Ja (Xb ai (Xa au) d_Root).2.2.2.2.2.2.2.2.2.2.2.2.2.2.2.2.2.2.2.2.1.1,.val Ja (Xb ai (Xa au) d_Root).2.2.2.2.2.2.2.2.2.2.2.2.2.2.2.2.2.2.2.2.1.2.1,.val Ja (Xb ai (Xa au) d_Root).2.2.2.2.2.2.2.2.2.2.2.2.2.2.2.2.2.2.2.2.1.2.2.1,.val Ja (Xb ai (Xa au) d_Root).2.2.2.2.2.2.2.2.2.2.2.2.2.2.2.2.2.2.2.2.1.2.2.2.1,.val Ja (Xb ai (Xa au) d_Root).2.2.2.2.2.2.2.2.2.2.2.2.2.2.2.2.2.2.2.2.1.2.2.2.2.1,.val Jc (Xb ai (Xa au) d_Root).2.2.2.2.2.2.2.2.2.2.2.2.2.2.2.2.2.2.2.2.1.2.2.2.2.2.1,.val Je (Xb ai (Xa au) d_Root).2.2.2.2.2.2.2.2.2.2.2.2.2.2.2.2.2.2.2.2.1.2.2.2.2.2.2,.val Ja (Xb ai (Xa au) d_Root).2.2.2.2.2.2.2.2.2.2.2.2.2.2.2.2.2.2.2.2.2.1,.val Ja (Xb ai (Xa au) d_Root).2.2.2.2.2.2.2.2.2.2.2.2.2.2.2.2.2.2.2.2.2.2.1,.val Ja (Xb ai (Xa au) d_Root).2.2.2.2.2.2.2.2.2.2.2.2.2.2.2.2.2.2.2.2.2.2.2.1,.val Jy (Xb ai (Xa au) d_Root).2.2.2.2.2.2.2.2.2.2.2.2.2.2.2.2.2.2.2.2.2.2.2.2.1,.val Je (Xb ai (Xa au) d_Root).2.2.2.2.2.2.2.2.2.2.2.2.2.2.2.2.2.2.2.2.2.2.2.2.2.1,.val Jc (Xb ai (Xa au) d_Root).2.2.2.2.2.2.2.2.2.2.2.2.2.2.2.2.2.2.2.2.2.2.2.2.2.2.1,.val Jk (Xb ai (Xa au) d_Root).2.2.2.2.2.2.2.2.2.2.2.2.2.2.2.2.2.2.2.2.2.2.2.2.2.2.2.1,.val Je (Xb ai (Xa au) d_Root).2.2.2.2.2.2.2.2.2.2.2.2.2.2.2.2.2.2.2.2.2.2.2.2.2.2.2.2.1,.val Jc (Xb ai (Xa au) d_Root).2.2.2.2.2.2.2.2.2.2.2.2.2.2.2.2.2.2.2.2.2.2.2.2.2.2.2.2.2.1,.val Jr (Xb ai (Xa au) d_Root).2.2.2.2.2.2.2.2.2.2.2.2.2.2.2.2.2.2.2.2.2.2.2.2.2.2.2.2.2.2]),(3,.arr Ja bA)],4⟩
def Zwb(ai:List Y_Root)(aG:Int)(au:Int)(aY:List Kc)(bO:Kf×List Km×List Kb)(bv:Y_World)(bA:List Int):St:=⟨[(4,vB false)],[],0⟩
def Zwc(ai:List Y_Root)(aG:Int)(au:Int)(aY:List Kc)(bO:Kf×List Km×List Kb)(bv:Y_World)(bA:List Int)(t22:Int)(gE:Bool):St:=⟨[(2,vP 0 0),(3,vP 1 0),(6,vP 2 0),(7,vO 3),(21,vV Jw ai),(22,vI aG),(23,vI au),(40,vV Jc aY),(41,vI (Wb (Xb ai (Xa au) d_Root).2.2.2.2.2.2.2.2.2.2.2.2.2.1)),(42,vI t22),(43,vB gE)],[(0,.box [.val Je bO.1.1,.val Je bO.1.2.1,.val Ja bO.1.2.2,.val Jab bO.2.1,.val Jk bO.2.2]),(1,.box [.val Ja bv.1,.val Ja bv.2.1,.val Ja bv.2.2.1.1,.val Jk bv.2.2.1.2,.val Je bv.2.2.2.1.1,.val Ja bv.2.2.2.1.2,.val Jk bv.2.2.2.2.1,.val Jw bv.2.2.2.2.2.1,.val Jt bv.2.2.2.2.2.2]),(2,.box [.val Ja (Xb ai (Xa au) d_Root).1,.val Ja (Xb ai (Xa au) d_Root).2.1,.val Ja (Xb ai (Xa au) d_Root).2.2.1,.val Ja (Xb ai (Xa au) d_Root).2.2.2.1,.val Ja (Xb ai (Xa au) d_Root).2.2.2.2.1,.val Ja (Xb ai (Xa au) d_Root).2.2.2.2.2.1,.val Ja (Xb ai (Xa au) d_Root).2.2.2.2.2.2.1,.val Ja (Xb ai (Xa au) d_Root).2.2.2.2.2.2.2.1,.val Ja (Xb ai (Xa au) d_Root).2.2.2.2.2.2.2.2.1,.val Ja (Xb ai (Xa au) d_Root).2.2.2.2.2.2.2.2.2.1,.val Ja (Xb ai (Xa au) d_Root).2.2.2.2.2.2.2.2.2.2.1,.val Jy (Xb ai (Xa au) d_Root).2.2.2.2.2.2.2.2.2.2.2.1,.val Je (Xb ai (Xa au) d_Root).2.2.2.2.2.2.2.2.2.2.2.2.1,.val Jc (Xb ai (Xa au) d_Root).2.2.2.2.2.2.2.2.2.2.2.2.2.1,.val Jc (Xb ai (Xa au) d_Root).2.2.2.2.2.2.2.2.2.2.2.2.2.2.1,.val (.slice Jj) (Xb ai (Xa au) d_Root).2.2.2.2.2.2.2.2.2.2.2.2.2.2.2.1,.val Jk (Xb ai (Xa au) d_Root).2.2.2.2.2.2.2.2.2.2.2.2.2.2.2.2.1,.val Je (Xb ai (Xa au) d_Root).2.2.2.2.2.2.2.2.2.2.2.2.2.2.2.2.2.1,.val Jy (Xb ai (Xa au) d_Root).2.2.2.2.2.2.2.2.2.2.2.2.2.2.2.2.2.2.1,.val Ja (Xb ai (Xa au) d_Root).2.2.2.2.2.2.2.2.2.2.2.2.2.2.2.2.2.2.2.1.1,.val Ja (Xb ai (Xa au) d_Root).2.2.2.2.2.2.2.2.2.2.2.2.2.2.2.2.2.2.2.1.2.1,.val Ja (Xb ai (Xa au) d_Root).2.2.2.2.2.2.2.2.2.2.2.2.2.2.2.2.2.2.2.1.2.2.1,.val Ja (Xb ai (Xa au) d_Root).2.2.2.2.2.2.2.2.2.2.2.2.2.2.2.2.2.2.2.1.2.2.2,.val Ja (Xb ai (Xa au) d_Root).2.2.2.2.2.2.2.2.2.2.2.2.2.2.2.2.2.2.2.2.1.1,.val Ja (Xb ai (Xa au) d_Root).2.2.2.2.2.2.2.2.2.2.2.2.2.2.2.2.2.2.2.2.1.2.1,.val Ja (Xb ai (Xa au) d_Root).2.2.2.2.2.2.2.2.2.2.2.2.2.2.2.2.2.2.2.2.1.2.2.1,.val Ja (Xb ai (Xa au) d_Root).2.2.2.2.2.2.2.2.2.2.2.2.2.2.2.2.2.2.2.2.1.2.2.2.1,.val Ja (Xb ai (Xa au) d_Root).2.2.2.2.2.2.2.2.2.2.2.2.2.2.2.2.2.2.2.2.1.2.2.2.2.1,.val Jc (Xb ai (Xa au) d_Root).2.2.2.2.2.2.2.2.2.2.2.2.2.2.2.2.2.2.2.2.1.2.2.2.2.2.1,.val Je (Xb ai (Xa au) d_Root).2.2.2.2.2.2.2.2.2.2.2.2.2.2.2.2.2.2.2.2.1.2.2.2.2.2.2,.val Ja (Xb ai (Xa au) d_Root).2.2.2.2.2.2.2.2.2.2.2.2.2.2.2.2.2.2.2.2.2.1,.val Ja (Xb ai (Xa au) d_Root).2.2.2.2.2.2.2.2.2.2.2.2.2.2.2.2.2.2.2.2.2.2.1,.val Ja (Xb ai (Xa au) d_Root).2.2.2.2.2.2.2.2.2.2.2.2.2.2.2.2.2.2.2.2.2.2.2.1,.val Jy (Xb ai (Xa au) d_Root).2.2.2.2.2.2.2.2.2.2.2.2.2.2.2.2.2.2.2.2.2.2.2.2.1,.val Je (Xb ai (Xa au) d_Root).2.2.2.2.2.2.2.2.2.2.2.2.2.2.2.2.2.2.2.2.2.2.2.2.2.1,.val Jc (Xb ai (Xa au) d_Root).2.2.2.2.2.2.2.2.2.2.2.2.2.2.2.2.2.2.2.2.2.2.2.2.2.2.1,.val Jk (Xb ai (Xa au) d_Root).2.2.2.2.2.2.2.2.2.2.2.2.2.2.2.2.2.2.2.2.2.2.2.2.2.2.2.1,.val Je (Xb ai (Xa au) d_Root).2.2.2.2.2.2.2.2.2.2.2.2.2.2.2.2.2.2.2.2.2.2.2.2.2.2.2.2.1,.val Jc (Xb ai (Xa au) d_Root).2.2.2.2.2.2.2.2.2.2.2.2.2.2.2.2.2.2.2.2.2.2.2.2.2.2.2.2.2.1,.val Jr (Xb ai (Xa au) d_Root).2.2.2.2.2.2.2.2.2.2.2.2.2.2.2.2.2.2.2.2.2.2.2.2.2.2.2.2.2.2]),(3,.arr Ja bA)],4⟩
theorem Zyn(N:Nat){R:Type}(K:Ex->St->Option R){ai:List Y_Root}{aG:Int}{au:Int}{aY:List Kc}{bO:Kf×List Km×List Kb}{bv:Y_World}{bA:List Int}{K0:Option R}{K1:Int->Bool->Option R}(h0:K0=K .ret (Zwb ai aG au aY bO bv bA))(h1:K1= λt22 gE=>K (.exit 2) (Zwc ai aG au aY bO bv bA t22 gE))(n:Nat)(cd:Int):Zdw N ai aG au aY bO bv bA K0 K1 n cd=LM Zhm N 1 100010 n (Zym ai aG au aY cd bO bv bA) K:=by
  subst h0 h1
  induction n generalizing cd with
  |zero=>kernel_rfl
  |succ n ih=>rw[Zdw];simp only[ih];kernel_rfl
def Zyo(t5:List Y_Root)(t7:Int)(b8:Kf×List Km×List Kb)(b9:Y_World):St:=⟨[(2,vP 0 0),(3,vP 1 0),(21,vV Jw t5),(22,vI (Wb b9.2.2.2.2.2.1)),(23,vI t7)],[(0,.box [.val Je b8.1.1,.val Je b8.1.2.1,.val Ja b8.1.2.2,.val Jab b8.2.1,.val Jk b8.2.2]),(1,.box [.val Ja b9.1,.val Ja b9.2.1,.val Ja b9.2.2.1.1,.val Jk b9.2.2.1.2,.val Je b9.2.2.2.1.1,.val Ja b9.2.2.2.1.2,.val Jk b9.2.2.2.2.1,.val Jw b9.2.2.2.2.2.1,.val Jt b9.2.2.2.2.2.2])],2⟩
def Zwd(t5:List Y_Root)(b8:Kf×List Km×List Kb)(b9:Y_World):St:=⟨[(4,vB false)],[],0⟩
def Zwe(t5:List Y_Root)(b8:Kf×List Km×List Kb)(b9:Y_World)(rU:Int)(my:Bool):St:=⟨[(2,vP 0 0),(3,vP 1 0),(21,vV Jw t5),(22,vI (Wb b9.2.2.2.2.2.1)),(23,vI rU),(24,vB my)],[(0,.box [.val Je b8.1.1,.val Je b8.1.2.1,.val Ja b8.1.2.2,.val Jab b8.2.1,.val Jk b8.2.2]),(1,.box [.val Ja b9.1,.val Ja b9.2.1,.val Ja b9.2.2.1.1,.val Jk b9.2.2.1.2,.val Je b9.2.2.2.1.1,.val Ja b9.2.2.2.1.2,.val Jk b9.2.2.2.2.1,.val Jw b9.2.2.2.2.2.1,.val Jt b9.2.2.2.2.2.2])],2⟩
theorem Zyp(N:Nat){R:Type}(K:Ex->St->Option R){t5:List Y_Root}{b8:Kf×List Km×List Kb}{b9:Y_World}{K0:Option R}{K1:Int->Bool->Option R}(h0:K0=K .ret (Zwd t5 b8 b9))(h1:K1= λrU my=>K (.exit 0) (Zwe t5 b8 b9 rU my))(n:Nat)(t7:Int):Zdx N t5 b8 b9 K0 K1 n t7=LM Zhm N 0 100004 n (Zyo t5 t7 b8 b9) K:=by
  subst h0 h1
  induction n generalizing t7 with
  |zero=>kernel_rfl
  |succ n ih=>rw[Zdx];simp(disch:=exact id (by kernel_rfl)) only[ih,Zyn N (CL Zhm N 0 100004 [1,1,0,0,1,1,1,0,1,0] n K)];kernel_rfl
theorem Z3q(N:Nat)(s1:Kf×List Km×List Kb)(w2:Y_World):DN Zhm N (s1,w2,())=Zht N s1 w2:=by
  conv=>rhs;rw[Zht];simp(disch:=exact id (by kernel_rfl)) only[Zyp (R:=Unit×Ko) N (CF Zhm N [1,1,0,1,0])]
  kernel_rfl
theorem Z3r(N:Nat):GW 27 (Zo8 N):=GF Zhm N Tryz.func27 (GC (Zp0 N) (GC (Zq9 N) (GC (Zd2 N) (GC (Z2g N) (GC (Z2i N) Wa))))) (λd=>Z3q N d.1 d.2.1)
def Zp6(N:Nat):Sig:=Sig.of [.v Jz false] [.v Jy false] (λd=>Zfo N d.1)
def Zga:Fn:=⟨Tryz.f4,λ |8=>[.canon [3,4,5,26]]|9=>[.canon [3,4,5]]|10=>[.canon [3,4,5,6]]|11=>[.canon [3,4,5,6,7]]|12=>[.canon [3,4,5,6,7,8]]|13=>[.canon [3,4,5,6,7,8,46]]|14=>[.canon [3,4,5,6,7,8]]|15=>[.canon [3,4,5,6,7,8,84]]|16=>[.canon [2]]|100008=>[.canon [3,4,5]]|100013=>[.canon [3,4,5,6,7,8]]|_=>[],Zp6,λN=>[(9,Zqb N),(22,Zng N),(23,Zof N),(24,Znk N),(25,Zle N),(26,Zo7 N),(27,Zo8 N)]⟩
def Ztn(ae:Int)(bT:Int)(aH:Kf×List Km×List Kb)(ac:Y_World)(aR:List Int):St:=⟨[(3,vP 0 0),(4,vP 1 0),(5,vI ae),(6,vP 2 0),(7,vO 3),(8,vI bT)],[(0,.box [.val Je aH.1.1,.val Je aH.1.2.1,.val Ja aH.1.2.2,.val Jab aH.2.1,.val Jk aH.2.2]),(1,.box [.val Ja ac.1,.val Ja ac.2.1,.val Ja ac.2.2.1.1,.val Jk ac.2.2.1.2,.val Je ac.2.2.2.1.1,.val Ja ac.2.2.2.1.2,.val Jk ac.2.2.2.2.1,.val Jw ac.2.2.2.2.2.1,.val Jt ac.2.2.2.2.2.2]),(2,.box [.val Ja (Xb ac.2.2.2.2.2.1 (Xa ae) d_Root).1,.val Ja (Xb ac.2.2.2.2.2.1 (Xa ae) d_Root).2.1,.val Ja (Xb ac.2.2.2.2.2.1 (Xa ae) d_Root).2.2.1,.val Ja (Xb ac.2.2.2.2.2.1 (Xa ae) d_Root).2.2.2.1,.val Ja (Xb ac.2.2.2.2.2.1 (Xa ae) d_Root).2.2.2.2.1,.val Ja (Xb ac.2.2.2.2.2.1 (Xa ae) d_Root).2.2.2.2.2.1,.val Ja (Xb ac.2.2.2.2.2.1 (Xa ae) d_Root).2.2.2.2.2.2.1,.val Ja (Xb ac.2.2.2.2.2.1 (Xa ae) d_Root).2.2.2.2.2.2.2.1,.val Ja (Xb ac.2.2.2.2.2.1 (Xa ae) d_Root).2.2.2.2.2.2.2.2.1,.val Ja (Xb ac.2.2.2.2.2.1 (Xa ae) d_Root).2.2.2.2.2.2.2.2.2.1,.val Ja (Xb ac.2.2.2.2.2.1 (Xa ae) d_Root).2.2.2.2.2.2.2.2.2.2.1,.val Jy (Xb ac.2.2.2.2.2.1 (Xa ae) d_Root).2.2.2.2.2.2.2.2.2.2.2.1,.val Je (Xb ac.2.2.2.2.2.1 (Xa ae) d_Root).2.2.2.2.2.2.2.2.2.2.2.2.1,.val Jc (Xb ac.2.2.2.2.2.1 (Xa ae) d_Root).2.2.2.2.2.2.2.2.2.2.2.2.2.1,.val Jc (Xb ac.2.2.2.2.2.1 (Xa ae) d_Root).2.2.2.2.2.2.2.2.2.2.2.2.2.2.1,.val (.slice Jj) (Xb ac.2.2.2.2.2.1 (Xa ae) d_Root).2.2.2.2.2.2.2.2.2.2.2.2.2.2.2.1,.val Jk (Xb ac.2.2.2.2.2.1 (Xa ae) d_Root).2.2.2.2.2.2.2.2.2.2.2.2.2.2.2.2.1,.val Je (Xb ac.2.2.2.2.2.1 (Xa ae) d_Root).2.2.2.2.2.2.2.2.2.2.2.2.2.2.2.2.2.1,.val Jy (Xb ac.2.2.2.2.2.1 (Xa ae) d_Root).2.2.2.2.2.2.2.2.2.2.2.2.2.2.2.2.2.2.1,.val Ja (Xb ac.2.2.2.2.2.1 (Xa ae) d_Root).2.2.2.2.2.2.2.2.2.2.2.2.2.2.2.2.2.2.2.1.1,.val Ja (Xb ac.2.2.2.2.2.1 (Xa ae) d_Root).2.2.2.2.2.2.2.2.2.2.2.2.2.2.2.2.2.2.2.1.2.1,.val Ja (Xb ac.2.2.2.2.2.1 (Xa ae) d_Root).2.2.2.2.2.2.2.2.2.2.2.2.2.2.2.2.2.2.2.1.2.2.1,.val Ja (Xb ac.2.2.2.2.2.1 (Xa ae) d_Root).2.2.2.2.2.2.2.2.2.2.2.2.2.2.2.2.2.2.2.1.2.2.2,.val Ja (Xb ac.2.2.2.2.2.1 (Xa ae) d_Root).2.2.2.2.2.2.2.2.2.2.2.2.2.2.2.2.2.2.2.2.1.1,.val Ja (Xb ac.2.2.2.2.2.1 (Xa ae) d_Root).2.2.2.2.2.2.2.2.2.2.2.2.2.2.2.2.2.2.2.2.1.2.1,.val Ja (Xb ac.2.2.2.2.2.1 (Xa ae) d_Root).2.2.2.2.2.2.2.2.2.2.2.2.2.2.2.2.2.2.2.2.1.2.2.1,.val Ja (Xb ac.2.2.2.2.2.1 (Xa ae) d_Root).2.2.2.2.2.2.2.2.2.2.2.2.2.2.2.2.2.2.2.2.1.2.2.2.1,.val Ja (Xb ac.2.2.2.2.2.1 (Xa ae) d_Root).2.2.2.2.2.2.2.2.2.2.2.2.2.2.2.2.2.2.2.2.1.2.2.2.2.1,.val Jc (Xb ac.2.2.2.2.2.1 (Xa ae) d_Root).2.2.2.2.2.2.2.2.2.2.2.2.2.2.2.2.2.2.2.2.1.2.2.2.2.2.1,.val Je (Xb ac.2.2.2.2.2.1 (Xa ae) d_Root).2.2.2.2.2.2.2.2.2.2.2.2.2.2.2.2.2.2.2.2.1.2.2.2.2.2.2,.val Ja (Xb ac.2.2.2.2.2.1 (Xa ae) d_Root).2.2.2.2.2.2.2.2.2.2.2.2.2.2.2.2.2.2.2.2.2.1,.val Ja (Xb ac.2.2.2.2.2.1 (Xa ae) d_Root).2.2.2.2.2.2.2.2.2.2.2.2.2.2.2.2.2.2.2.2.2.2.1,.val Ja (Xb ac.2.2.2.2.2.1 (Xa ae) d_Root).2.2.2.2.2.2.2.2.2.2.2.2.2.2.2.2.2.2.2.2.2.2.2.1,.val Jy (Xb ac.2.2.2.2.2.1 (Xa ae) d_Root).2.2.2.2.2.2.2.2.2.2.2.2.2.2.2.2.2.2.2.2.2.2.2.2.1,.val Je (Xb ac.2.2.2.2.2.1 (Xa ae) d_Root).2.2.2.2.2.2.2.2.2.2.2.2.2.2.2.2.2.2.2.2.2.2.2.2.2.1,.val Jc (Xb ac.2.2.2.2.2.1 (Xa ae) d_Root).2.2.2.2.2.2.2.2.2.2.2.2.2.2.2.2.2.2.2.2.2.2.2.2.2.2.1,.val Jk (Xb ac.2.2.2.2.2.1 (Xa ae) d_Root).2.2.2.2.2.2.2.2.2.2.2.2.2.2.2.2.2.2.2.2.2.2.2.2.2.2.2.1,.val Je (Xb ac.2.2.2.2.2.1 (Xa ae) d_Root).2.2.2.2.2.2.2.2.2.2.2.2.2.2.2.2.2.2.2.2.2.2.2.2.2.2.2.2.1,.val Jc (Xb ac.2.2.2.2.2.1 (Xa ae) d_Root).2.2.2.2.2.2.2.2.2.2.2.2.2.2.2.2.2.2.2.2.2.2.2.2.2.2.2.2.2.1,.val Jr (Xb ac.2.2.2.2.2.1 (Xa ae) d_Root).2.2.2.2.2.2.2.2.2.2.2.2.2.2.2.2.2.2.2.2.2.2.2.2.2.2.2.2.2.2]),(3,.arr Ja aR)],4⟩
def Zru(ae:Int)(aH:Kf×List Km×List Kb)(ac:Y_World)(aR:List Int):St:=⟨[(2,vB false)],[],0⟩
def Zrv(ae:Int)(aH:Kf×List Km×List Kb)(ac:Y_World)(aR:List Int)(nS:Int)(cd:Bool):St:=⟨[(3,vP 0 0),(4,vP 1 0),(5,vI ae),(6,vP 2 0),(7,vO 3),(8,vI nS),(46,vB cd)],[(0,.box [.val Je aH.1.1,.val Je aH.1.2.1,.val Ja aH.1.2.2,.val Jab aH.2.1,.val Jk aH.2.2]),(1,.box [.val Ja ac.1,.val Ja ac.2.1,.val Ja ac.2.2.1.1,.val Jk ac.2.2.1.2,.val Je ac.2.2.2.1.1,.val Ja ac.2.2.2.1.2,.val Jk ac.2.2.2.2.1,.val Jw ac.2.2.2.2.2.1,.val Jt ac.2.2.2.2.2.2]),(2,.box [.val Ja (Xb ac.2.2.2.2.2.1 (Xa ae) d_Root).1,.val Ja (Xb ac.2.2.2.2.2.1 (Xa ae) d_Root).2.1,.val Ja (Xb ac.2.2.2.2.2.1 (Xa ae) d_Root).2.2.1,.val Ja (Xb ac.2.2.2.2.2.1 (Xa ae) d_Root).2.2.2.1,.val Ja (Xb ac.2.2.2.2.2.1 (Xa ae) d_Root).2.2.2.2.1,.val Ja (Xb ac.2.2.2.2.2.1 (Xa ae) d_Root).2.2.2.2.2.1,.val Ja (Xb ac.2.2.2.2.2.1 (Xa ae) d_Root).2.2.2.2.2.2.1,.val Ja (Xb ac.2.2.2.2.2.1 (Xa ae) d_Root).2.2.2.2.2.2.2.1,.val Ja (Xb ac.2.2.2.2.2.1 (Xa ae) d_Root).2.2.2.2.2.2.2.2.1,.val Ja (Xb ac.2.2.2.2.2.1 (Xa ae) d_Root).2.2.2.2.2.2.2.2.2.1,.val Ja (Xb ac.2.2.2.2.2.1 (Xa ae) d_Root).2.2.2.2.2.2.2.2.2.2.1,.val Jy (Xb ac.2.2.2.2.2.1 (Xa ae) d_Root).2.2.2.2.2.2.2.2.2.2.2.1,.val Je (Xb ac.2.2.2.2.2.1 (Xa ae) d_Root).2.2.2.2.2.2.2.2.2.2.2.2.1,.val Jc (Xb ac.2.2.2.2.2.1 (Xa ae) d_Root).2.2.2.2.2.2.2.2.2.2.2.2.2.1,.val Jc (Xb ac.2.2.2.2.2.1 (Xa ae) d_Root).2.2.2.2.2.2.2.2.2.2.2.2.2.2.1,.val (.slice Jj) (Xb ac.2.2.2.2.2.1 (Xa ae) d_Root).2.2.2.2.2.2.2.2.2.2.2.2.2.2.2.1,.val Jk (Xb ac.2.2.2.2.2.1 (Xa ae) d_Root).2.2.2.2.2.2.2.2.2.2.2.2.2.2.2.2.1,.val Je (Xb ac.2.2.2.2.2.1 (Xa ae) d_Root).2.2.2.2.2.2.2.2.2.2.2.2.2.2.2.2.2.1,.val Jy (Xb ac.2.2.2.2.2.1 (Xa ae) d_Root).2.2.2.2.2.2.2.2.2.2.2.2.2.2.2.2.2.2.1,.val Ja (Xb ac.2.2.2.2.2.1 (Xa ae) d_Root).2.2.2.2.2.2.2.2.2.2.2.2.2.2.2.2.2.2.2.1.1,.val Ja (Xb ac.2.2.2.2.2.1 (Xa ae) d_Root).2.2.2.2.2.2.2.2.2.2.2.2.2.2.2.2.2.2.2.1.2.1,.val Ja (Xb ac.2.2.2.2.2.1 (Xa ae) d_Root).2.2.2.2.2.2.2.2.2.2.2.2.2.2.2.2.2.2.2.1.2.2.1,.val Ja (Xb ac.2.2.2.2.2.1 (Xa ae) d_Root).2.2.2.2.2.2.2.2.2.2.2.2.2.2.2.2.2.2.2.1.2.2.2,.val Ja (Xb ac.2.2.2.2.2.1 (Xa ae) d_Root).2.2.2.2.2.2.2.2.2.2.2.2.2.2.2.2.2.2.2.2.1.1,.val Ja (Xb ac.2.2.2.2.2.1 (Xa ae) d_Root).2.2.2.2.2.2.2.2.2.2.2.2.2.2.2.2.2.2.2.2.1.2.1,.val Ja (Xb ac.2.2.2.2.2.1 (Xa ae) d_Root).2.2.2.2.2.2.2.2.2.2.2.2.2.2.2.2.2.2.2.2.1.2.2.1,.val Ja (Xb ac.2.2.2.2.2.1 (Xa ae) d_Root).2.2.2.2.2.2.2.2.2.2.2.2.2.2.2.2.2.2.2.2.1.2.2.2.1,.val Ja (Xb ac.2.2.2.2.2.1 (Xa ae) d_Root).2.2.2.2.2.2.2.2.2.2.2.2.2.2.2.2.2.2.2.2.1.2.2.2.2.1,.val Jc (Xb ac.2.2.2.2.2.1 (Xa ae) d_Root).2.2.2.2.2.2.2.2.2.2.2.2.2.2.2.2.2.2.2.2.1.2.2.2.2.2.1,.val Je (Xb ac.2.2.2.2.2.1 (Xa ae) d_Root).2.2.2.2.2.2.2.2.2.2.2.2.2.2.2.2.2.2.2.2.1.2.2.2.2.2.2,.val Ja (Xb ac.2.2.2.2.2.1 (Xa ae) d_Root).2.2.2.2.2.2.2.2.2.2.2.2.2.2.2.2.2.2.2.2.2.1,.val Ja (Xb ac.2.2.2.2.2.1 (Xa ae) d_Root).2.2.2.2.2.2.2.2.2.2.2.2.2.2.2.2.2.2.2.2.2.2.1,.val Ja (Xb ac.2.2.2.2.2.1 (Xa ae) d_Root).2.2.2.2.2.2.2.2.2.2.2.2.2.2.2.2.2.2.2.2.2.2.2.1,.val Jy (Xb ac.2.2.2.2.2.1 (Xa ae) d_Root).2.2.2.2.2.2.2.2.2.2.2.2.2.2.2.2.2.2.2.2.2.2.2.2.1,.val Je (Xb ac.2.2.2.2.2.1 (Xa ae) d_Root).2.2.2.2.2.2.2.2.2.2.2.2.2.2.2.2.2.2.2.2.2.2.2.2.2.1,.val Jc (Xb ac.2.2.2.2.2.1 (Xa ae) d_Root).2.2.2.2.2.2.2.2.2.2.2.2.2.2.2.2.2.2.2.2.2.2.2.2.2.2.1,.val Jk (Xb ac.2.2.2.2.2.1 (Xa ae) d_Root).2.2.2.2.2.2.2.2.2.2.2.2.2.2.2.2.2.2.2.2.2.2.2.2.2.2.2.1,.val Je (Xb ac.2.2.2.2.2.1 (Xa ae) d_Root).2.2.2.2.2.2.2.2.2.2.2.2.2.2.2.2.2.2.2.2.2.2.2.2.2.2.2.2.1,.val Jc (Xb ac.2.2.2.2.2.1 (Xa ae) d_Root).2.2.2.2.2.2.2.2.2.2.2.2.2.2.2.2.2.2.2.2.2.2.2.2.2.2.2.2.2.1,.val Jr (Xb ac.2.2.2.2.2.1 (Xa ae) d_Root).2.2.2.2.2.2.2.2.2.2.2.2.2.2.2.2.2.2.2.2.2.2.2.2.2.2.2.2.2.2]),(3,.arr Ja aR)],4⟩
theorem Zto(N:Nat){R:Type}(K:Ex->St->Option R){ae:Int}{aH:Kf×List Km×List Kb}{ac:Y_World}{aR:List Int}{K0:Option R}{K1:Int->Bool->Option R}(h0:K0=K .ret (Zru ae aH ac aR))(h1:K1= λnS cd=>K (.exit 2) (Zrv ae aH ac aR nS cd))(n:Nat)(bT:Int):Zco N ae aH ac aR K0 K1 n bT=LM Zga N 1 100013 n (Ztn ae bT aH ac aR) K:=by
  subst h0 h1
  induction n generalizing bT with
  |zero=>kernel_rfl
  |succ n ih=>rw[Zco];simp only[ih];kernel_rfl
def Ztp(i6:Int)(b7:Kf×List Km×List Kb)(b8:Y_World):St:=⟨[(3,vP 0 0),(4,vP 1 0),(5,vI i6)],[(0,.box [.val Je b7.1.1,.val Je b7.1.2.1,.val Ja b7.1.2.2,.val Jab b7.2.1,.val Jk b7.2.2]),(1,.box [.val Ja b8.1,.val Ja b8.2.1,.val Ja b8.2.2.1.1,.val Jk b8.2.2.1.2,.val Je b8.2.2.2.1.1,.val Ja b8.2.2.2.1.2,.val Jk b8.2.2.2.2.1,.val Jw b8.2.2.2.2.2.1,.val Jt b8.2.2.2.2.2.2])],2⟩
def Zrw(b7:Kf×List Km×List Kb)(b8:Y_World):St:=⟨[(2,vB false)],[],0⟩
def Zrx(b7:Kf×List Km×List Kb)(b8:Y_World)(lw:Int)(fO:Bool):St:=⟨[(3,vP 0 0),(4,vP 1 0),(5,vI lw),(26,vB fO)],[(0,.box [.val Je b7.1.1,.val Je b7.1.2.1,.val Ja b7.1.2.2,.val Jab b7.2.1,.val Jk b7.2.2]),(1,.box [.val Ja b8.1,.val Ja b8.2.1,.val Ja b8.2.2.1.1,.val Jk b8.2.2.1.2,.val Je b8.2.2.2.1.1,.val Ja b8.2.2.2.1.2,.val Jk b8.2.2.2.2.1,.val Jw b8.2.2.2.2.2.1,.val Jt b8.2.2.2.2.2.2])],2⟩
theorem Ztq(N:Nat){R:Type}(K:Ex->St->Option R){b7:Kf×List Km×List Kb}{b8:Y_World}{K0:Option R}{K1:Int->Bool->Option R}(h0:K0=K .ret (Zrw b7 b8))(h1:K1= λlw fO=>K (.exit 0) (Zrx b7 b8 lw fO))(n:Nat)(i6:Int):Zcp N b7 b8 K0 K1 n i6=LM Zga N 0 100008 n (Ztp i6 b7 b8) K:=by
  subst h0 h1
  induction n generalizing i6 with
  |zero=>kernel_rfl
  |succ n ih=>rw[Zcp];simp(disch:=exact id (by kernel_rfl)) only[ih,Zto N (CL Zga N 0 100008 [1,0,0,1,1,1,0] n K)];kernel_rfl
theorem Z00(N:Nat)(ad:List Int):DN Zga N (ad,())=Zfo N ad:=by
  conv=>rhs;rw[Zfo];simp(disch:=exact id (by kernel_rfl)) only[Ztq (R:=Unit×Ko) N (CF Zga N [1,1,1,1,1,0,1,0])]
  kernel_rfl
set_option maxRecDepth 100000 in theorem Z01 (N:Nat):GW 4 (Zp6 N):=GF Zga N Tryz.func4 (GC (Z4u N) (GC (Z0a N) (GC (Z16 N) (GC (Z0v N) (GC (Zqm N) (GC (Z3o N) (GC (Z3r N) Wa))))))) (λ d=>Z00 N d.1)
end
end Go.Sx
