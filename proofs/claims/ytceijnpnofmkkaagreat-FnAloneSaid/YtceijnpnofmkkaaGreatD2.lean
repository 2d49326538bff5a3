/- Each Go function does what its Lean function says. -/
import Derived.Test.YtceijnpnofmkkaaGreatD
open List renaming getD→Xc
open Int renaming toNat→Xa
namespace Go.Sx
noncomputable section
open Go.Proofs
set_option linter.unusedVariables false
set_option linter.unusedSimpArgs false
def Zj1(N:Nat):Sig:=Sig.of [.box Jx,.v Ja false] [] (λd=>Zdq N d.1 d.2.1)
def Zcp:Fn:=⟨Tryz.f126,λ |0=>[.opn 16]|3=>[.canon [0,1,4,28,29,30,31]]|4=>[.canon [0,1,4,6,28,29,30]]|5=>[.canon [0,1,4,6,7,28,29,30]]|6=>[.canon [0,1,4,7,8,28,29,30]]|7=>[.canon [0,1,4,7,8,28,29,30,48]]|8=>[.canon [0,1,4,28,29,30]]|9=>[.canon [0,1,4,28,29,30]]|10=>[.canon [0,1,4,28,29,30]]|13=>[.canon [0,1,4,75,76,77,78]]|14=>[.canon [0,1,4,10,75,76,77]]|15=>[.canon [0,1,4,10,75,76,77,83]]|16=>[.canon [0,1,4,75,76,77]]|17=>[.canon [0,1,4,75,76,77]]|100003=>[.canon [0,1,4,28,29,30]]|100013=>[.canon [0,1,4,75,76,77]]|_=>[],Zj1,λN=>[(176,Zjw N),(127,Zew N),(177,Za8 N)]⟩
def Zpw(k4:Int)(t5:Int)(t6:Int)(b7:Int)(b8:Int)(b9:Int)(bj:Bool)(bN:Int)(eH:Int)(aB:Int)(dZ:Int)(dp:Int)(ak:Int)(jf:Bool)(fW:Int)(ep:Int)(jg:Int)(dS:Int)(bS:List Kc)(dy:List Int)(gD:List Kc)(iB:List Kb)(gE:List Int)(ff:List Kc)(jh:List Y_KidRun)(cN:Nat)(dr:List Int)(gF:List Kb)(gG:List Kc)(co:List Kl):St:=⟨[(0,vP 0 0),(1,vI k4),(4,vP 1 0),(28,vO 2),(29,vI t5),(30,vI t6)],[(0,.box [.val Ja b7,.val Ja b8,.val Ja b9,.val Jq bj,.own 3,.own 4,.own 5,.own 6,.own 7,.own 8]),(1,.box [.val Ja bN,.val Ja eH,.val Ja aB,.val Ja dZ,.val Ja dp,.val Ja ak,.own 9,.own 10,.own 11,.own 12,.val Jq jf,.val Ja fW,.val Ja ep,.val Ja jg,.val Ja dS]),(2,.arr Js bS),(3,.arr Ja dy),(4,.arr Js gD),(5,.arr Jj iB),(6,.arr Ja gE),(7,.arr Js ff),(8,.hole Jh jh cN 1),(9,.arr Ja dr),(10,.arr Jj gF),(11,.arr Js gG),(12,.arr Jaa co)],13⟩
def Zpj(k4:Int)(t5:Int)(b7:Int)(b8:Int)(b9:Int)(bj:Bool)(bN:Int)(eH:Int)(aB:Int)(dZ:Int)(dp:Int)(ak:Int)(jf:Bool)(fW:Int)(ep:Int)(jg:Int)(dS:Int)(bS:List Kc)(dy:List Int)(gD:List Kc)(gE:List Int)(ff:List Kc)(jh:List Y_KidRun)(cN:Nat)(dr:List Int)(gF:List Kb)(gG:List Kc)(co:List Kl)(xj:Int)(pu:Bool)(fO:List Kb):St:=⟨[(0,vP 0 0),(1,vI k4),(4,vP 1 0),(28,vO 2),(29,vI t5),(30,vI xj),(31,vB pu)],[(0,.box [.val Ja b7,.val Ja b8,.val Ja b9,.val Jq bj,.own 3,.own 4,.own 5,.own 6,.own 7,.own 8]),(1,.box [.val Ja bN,.val Ja eH,.val Ja aB,.val Ja dZ,.val Ja dp,.val Ja ak,.own 9,.own 10,.own 11,.own 12,.val Jq jf,.val Ja fW,.val Ja ep,.val Ja jg,.val Ja dS]),(2,.arr Js bS),(3,.arr Ja dy),(4,.arr Js gD),(5,.arr Jj fO),(6,.arr Ja gE),(7,.arr Js ff),(8,.hole Jh jh cN 1),(9,.arr Ja dr),(10,.arr Jj gF),(11,.arr Js gG),(12,.arr Jaa co)],13⟩
theorem Zpx(N:Nat){R:Type}(K:Ex->St->Option R){k4:Int}{t5:Int}{b7:Int}{b8:Int}{b9:Int}{bj:Bool}{bN:Int}{eH:Int}{aB:Int}{dZ:Int}{dp:Int}{ak:Int}{jf:Bool}{fW:Int}{ep:Int}{jg:Int}{dS:Int}{bS:List Kc}{dy:List Int}{gD:List Kc}{gE:List Int}{ff:List Kc}{jh:List Y_KidRun}{cN:Nat}{dr:List Int}{gF:List Kb}{gG:List Kc}{co:List Kl}{K0:Int->Bool->Ks->Option R}(h0:K0= λxj pu fO=>K (.exit 0) (Zpj k4 t5 b7 b8 b9 bj bN eH aB dZ dp ak jf fW ep jg dS bS dy gD gE ff jh cN dr gF gG co xj pu fO))(n:Nat)(t6:Int)(iB:List Kb):Zau N k4 t5 b7 b8 b9 bj bN eH aB dZ dp ak jf fW ep jg dS bS dy gD gE ff jh cN dr gF gG co K0 n t6 iB=LM Zcp N 0 100003 n (Zpw k4 t5 t6 b7 b8 b9 bj bN eH aB dZ dp ak jf fW ep jg dS bS dy gD iB gE ff jh cN dr gF gG co) K:=by
  subst h0
  induction n generalizing t6 iB with
  |zero=>kernel_rfl
  |succ n ih=>rw[Zau];simp only[ih];kernel_rfl
def Zpy(kE:Int)(iD:Int)(t45:Int)(dE:Int)(fF:Int)(fG:Int)(fH:Bool)(fI:Int)(fX:Int)(fY:Int)(fZ:Int)(ga:Int)(kF:Int)(kG:Bool)(kH:Int)(kI:Int)(kJ:Int)(kK:Int)(dJ:List Kb)(fJ:List Int)(kL:List Kc)(kM:List Kb)(kN:List Int)(mh:List Kc)(fK:List Y_KidRun)(kO:Nat)(dz:List Int)(dA:List Kc)(dB:List Kl):St:=⟨[(0,vP 0 0),(1,vI kE),(4,vP 1 0),(75,vO 2),(76,vI iD),(77,vI t45)],[(0,.box [.val Ja dE,.val Ja fF,.val Ja fG,.val Jq fH,.own 3,.own 4,.own 5,.own 6,.own 7,.own 8]),(1,.box [.val Ja fI,.val Ja fX,.val Ja fY,.val Ja fZ,.val Ja ga,.val Ja kF,.own 9,.own 2,.own 10,.own 11,.val Jq kG,.val Ja kH,.val Ja kI,.val Ja kJ,.val Ja kK]),(2,.arr Jj dJ),(3,.arr Ja fJ),(4,.arr Js kL),(5,.arr Jj kM),(6,.arr Ja kN),(7,.arr Js mh),(8,.hole Jh fK kO 1),(9,.arr Ja dz),(10,.arr Js dA),(11,.arr Jaa dB)],12⟩
def Zpk(kE:Int)(iD:Int)(dE:Int)(fF:Int)(fG:Int)(fH:Bool)(fI:Int)(fX:Int)(fY:Int)(fZ:Int)(ga:Int)(kF:Int)(kG:Bool)(kH:Int)(kI:Int)(kJ:Int)(kK:Int)(dJ:List Kb)(fJ:List Int)(kL:List Kc)(kM:List Kb)(kN:List Int)(fK:List Y_KidRun)(kO:Nat)(dz:List Int)(dA:List Kc)(dB:List Kl)(xk:Int)(xl:Bool)(xm:List Kc):St:=⟨[(0,vP 0 0),(1,vI kE),(4,vP 1 0),(75,vO 2),(76,vI iD),(77,vI xk),(78,vB xl)],[(0,.box [.val Ja dE,.val Ja fF,.val Ja fG,.val Jq fH,.own 3,.own 4,.own 5,.own 6,.own 7,.own 8]),(1,.box [.val Ja fI,.val Ja fX,.val Ja fY,.val Ja fZ,.val Ja ga,.val Ja kF,.own 9,.own 2,.own 10,.own 11,.val Jq kG,.val Ja kH,.val Ja kI,.val Ja kJ,.val Ja kK]),(2,.arr Jj dJ),(3,.arr Ja fJ),(4,.arr Js kL),(5,.arr Jj kM),(6,.arr Ja kN),(7,.arr Js xm),(8,.hole Jh fK kO 1),(9,.arr Ja dz),(10,.arr Js dA),(11,.arr Jaa dB)],12⟩
theorem Zpz(N:Nat){R:Type}(K:Ex->St->Option R){kE:Int}{iD:Int}{dE:Int}{fF:Int}{fG:Int}{fH:Bool}{fI:Int}{fX:Int}{fY:Int}{fZ:Int}{ga:Int}{kF:Int}{kG:Bool}{kH:Int}{kI:Int}{kJ:Int}{kK:Int}{dJ:List Kb}{fJ:List Int}{kL:List Kc}{kM:List Kb}{kN:List Int}{fK:List Y_KidRun}{kO:Nat}{dz:List Int}{dA:List Kc}{dB:List Kl}{K0:Int->Bool->Kz->Option R}(h0:K0= λxk xl xm=>K (.exit 2) (Zpk kE iD dE fF fG fH fI fX fY fZ ga kF kG kH kI kJ kK dJ fJ kL kM kN fK kO dz dA dB xk xl xm))(n:Nat)(t45:Int)(mh:List Kc):Za3 N kE iD dE fF fG fH fI fX fY fZ ga kF kG kH kI kJ kK dJ fJ kL kM kN fK kO dz dA dB K0 n t45 mh=LM Zcp N 1 100013 n (Zpy kE iD t45 dE fF fG fH fI fX fY fZ ga kF kG kH kI kJ kK dJ fJ kL kM kN mh fK kO dz dA dB) K:=by
  subst h0
  induction n generalizing t45 mh with
  |zero=>kernel_rfl
  |succ n ih=>rw[Za3];simp only[ih];kernel_rfl
theorem Zsw(N:Nat)(f1:Y_Family)(k2:Int):DN Zcp N (f1,k2,())=Zdq N f1 k2:=by
  conv=>rhs;rw[Zdq];simp(disch:=exact id (by kernel_rfl)) only[Zpx (R:=(Y_Family×Unit)×Unit) N (CF Zcp N [1,1,0,1,0]),Zpz (R:=(Y_Family×Unit)×Unit) N (CF Zcp N [1,1,1,1,0,1,0])]
  kernel_rfl
theorem Zsx(N:Nat):GW 126 (Zj1 N):=GF Zcp N Tryz.func126 (GC (Zoa N) (GC (Zjz N) (GC (Zd4 N) Wg))) (λd=>Zsw N d.1 d.2.1)
def Zks(N:Nat):Sig:=Sig.of [.box Jx,.v Ja false,.v Jc false,.v Jab true] [] (λd=>Zik N d.1 d.2.1 d.2.2.1 d.2.2.2.1)
def Zuu:Fn:=⟨Tryz.f70,λ |2=>[.opn 20]|_=>[],Zks,λN=>[(125,Zle N),(126,Zj1 N),(127,Zew N),(128,Zfy N)]⟩
theorem Zuv(N:Nat):GW 70 (Zks N):=GF Zuu N Tryz.func70 (GC (Zw0 N) (GC (Zsx N) (GC (Zjz N) (GC (Zmx N) Wg))))
def Zi3(N:Nat):Sig:=Sig.of [.box Jr,.v Jae true,.v Jj true] [] (λd=>Zf6 N d.1 d.2.1 d.2.2.1)
def Zyq:Fn:=⟨Tryz.f30,λ |3=>[.unfE 6]|_=>[],Zi3,λN=>[(68,Z0 N),(69,Zld N),(70,Zks N)]⟩
theorem Zpb(N:Nat):GW 30 (Zi3 N):=GF Zyq N Tryz.func30 (GC (Z8 N) (GC (Zwy N) (GC (Zuv N) Wg)))
def Zpl(N:Nat):Sig:=Sig.of [.v Jae true] [.v Jr true] (λd=>Zk2 N d.1)
def Zm9:Fn:=⟨Tryz.f28,λ |3=>[.nest 21 Jk]|6=>[.canon [1,2,3,32,33,34,35]]|7=>[.canon [1,2,3,5,32,33,34]]|8=>[.canon [1,2,3,32,33,34]]|9=>[.canon [1,2,3,32,33,34]]|100006=>[.adoptC 3 6 Jj,.adoptC 3 8 Ji,.canon [1,2,3,32,33,34]]|_=>[],Zpl,λN=>[(27,Zjf N),(64,Zl9 N),(65,Zn8 N),(30,Zi3 N)]⟩
def Zzf(t5:List Kb)(t7:Int)(b8:Ki×List Kn×List Kb)(aB:Int)(dZ:Int)(dp:Int)(ak:Int)(ae:List Kb)(aI:List Int)(aM:List Kb)(aG:List Y_Root)(aJ:List Ko):St:=⟨[(1,vP 0 0),(2,vP 1 0),(3,vP 2 0),(32,vV Jf t5),(33,vI (Wi b8.2.2)),(34,vI t7)],[(0,.box [.val Je b8.1.1,.val Je b8.1.2.1,.val Ja b8.1.2.2,.val Jn b8.2.1,.val Jf b8.2.2]),(1,.box [.val Ja (0:Int),.val Ja (0:Int),.val Ja (0:Int),.nils,.nils,.val Ja (0:Int),.nils,.nils,.nils]),(2,.box [.val Ja aB,.val Ja dZ,.val Ja dp,.own 3,.own 4,.val Ja ak,.own 5,.own 6,.own 7]),(3,.arr Jj ae),(4,.arr Ja aI),(5,.arr Jj aM),(6,.arr Jk aG),(7,.arr Ji aJ)],8⟩
def Zyr(t5:List Kb)(b8:Ki×List Kn×List Kb)(xn:Int)(t25:Bool)(jO:Int)(jP:Int)(jQ:Int)(kV:Int)(dr:List Kb)(gF:List Int)(gG:List Kb)(co:List Y_Root)(kW:List Ko):St:=⟨[(1,vP 0 0),(2,vP 1 0),(3,vP 2 0),(32,vV Jf t5),(33,vI (Wi b8.2.2)),(34,vI xn),(35,vB t25)],[(0,.box [.val Je b8.1.1,.val Je b8.1.2.1,.val Ja b8.1.2.2,.val Jn b8.2.1,.val Jf b8.2.2]),(1,.box [.val Ja (0:Int),.val Ja (0:Int),.val Ja (0:Int),.nils,.nils,.val Ja (0:Int),.nils,.nils,.nils]),(2,.box [.val Ja jO,.val Ja jP,.val Ja jQ,.own 3,.own 4,.val Ja kV,.own 5,.own 6,.own 7]),(3,.arr Jj dr),(4,.arr Ja gF),(5,.arr Jj gG),(6,.arr Jk co),(7,.arr Ji kW)],8⟩
theorem Zzg(N:Nat){R:Type}(K:Ex->St->Option R){t5:List Kb}{b8:Ki×List Kn×List Kb}{K0:Int->Bool->Int->Int->Int->Int->Ks->Kg->Ks->(List Y_Root)->Kad->Option R}(h0:K0= λxn t25 jO jP jQ kV dr gF gG co kW=>K (.exit 0) (Zyr t5 b8 xn t25 jO jP jQ kV dr gF gG co kW))(n:Nat)(t7:Int)(aB:Int)(dZ:Int)(dp:Int)(ak:Int)(ae:List Kb)(aI:List Int)(aM:List Kb)(aG:List Y_Root)(aJ:List Ko):Za7 N t5 b8 K0 n t7 aB dZ dp ak ae aI aM aG aJ=LM Zm9 N 0 100006 n (Zzf t5 t7 b8 aB dZ dp ak ae aI aM aG aJ) K:=by
  subst h0
  induction n generalizing t7 aB dZ dp ak ae aI aM aG aJ with
  |zero=>kernel_rfl
  |succ n ih=>rw[Za7];simp only[ih];kernel_rfl
theorem Z3b(N:Nat)(s1:Ki×List Kn×List Kb):DN Zm9 N (s1,())=Zk2 N s1:=by
  conv=>rhs;rw[Zk2];simp(disch:=exact id (by kernel_rfl)) only[Zzg (R:=Unit×(Y_World×Unit)) N (CF Zm9 N [1,1,1,1,0,1,0])]
  kernel_rfl
theorem Z3c(N:Nat):GW 28 (Zpl N):=GF Zm9 N Tryz.func28 (GC (Zpr N) (GC (Zx5 N) (GC (Z1k N) (GC (Zpb N) Wg)))) (λd=>Z3b N d.1)
def Zog(N:Nat):Sig:=Sig.of [.v (TY_Root) true] [.v Jq false] (λd=>Zpc N d.1)
def Z1v:Fn:=⟨Tryz.f67,WG,Zog,Wbo⟩
theorem Z1w(N:Nat):GW 67 (Zog N):=GF Z1v N Tryz.func67 Wg
def Zay(N:Nat):Sig:=Sig.of [.v (.slice (TY_Root)) false,.clos 67 0] [.v Ja false] (λd=>Z2 N d.1)
def Zab:Fn:=⟨Tryz.f114,λ |2=>[.canon [0,1,7,8,9]]|3=>[.canon [0,1,5,7,8]]|4=>[.canon [0,1,5,7,8,16]]|5=>[.canon [1,4]]|6=>[.canon [0,1,7,8]]|100002=>[.canon [0,1,7,8]]|_=>[],Zay,λN=>[(67,Zog N)]⟩
def Zfg(s2:List Y_Root)(t4:Int):St:=⟨[(0,vV (.slice (TY_Root)) s2),(1,.s (.one (.clos 67 []))),(7,vI (Wi s2)),(8,vI t4)],[],0⟩
def Ze2(s2:List Y_Root)(t7:Int):St:=⟨[(1,.s (.one (.clos 67 []))),(4,vI t7)],[],0⟩
def Ze3(s2:List Y_Root)(t8:Int)(t9:Bool):St:=⟨[(0,vV (.slice (TY_Root)) s2),(1,.s (.one (.clos 67 []))),(7,vI (Wi s2)),(8,vI t8),(9,vB t9)],[],0⟩
theorem Zfh(N:Nat){R:Type}(K:Ex->St->Option R){s2:List Y_Root}{K0:Int->Option R}{K1:Int->Bool->Option R}(h0:K0= λt7=>K .ret (Ze2 s2 t7))(h1:K1= λt8 t9=>K (.exit 0) (Ze3 s2 t8 t9))(n:Nat)(t4:Int):Zp N s2 K0 K1 n t4=LM Zab N 0 100002 n (Zfg s2 t4) K:=by
  subst h0 h1
  induction n generalizing t4 with
  |zero=>kernel_rfl
  |succ n ih=>rw[Zp];simp only[ih];kernel_rfl
theorem Zgc(N:Nat)(s1:List Y_Root):DN Zab N (s1,())=Z2 N s1:=by
  conv=>rhs;rw[Z2];simp(disch:=exact id (by kernel_rfl)) only[Zfh (R:=Unit×Kj) N (CF Zab N [1,0,1,0])]
  kernel_rfl
theorem Zgd(N:Nat):GW 114 (Zay N):=GF Zab N Tryz.func114 (GC (Z1w N) Wg) (λd=>Zgc N d.1)
def Zaq(N:Nat):Sig:=Sig.of [.v (.slice (TY_Root)) false,.clos 67 0] [.v Jq false] (λd=>Zav N d.1)
def Zfr:Fn:=⟨Tryz.f66,WG,Zaq,λN=>[(114,Zay N)]⟩
theorem Zfs(N:Nat):GW 66 (Zaq N):=GF Zfr N Tryz.func66 (GC (Zgd N) Wg)
def Zpm(N:Nat):Sig:=Sig.of [.v (TY_World) true] [.v Jq false] (λd=>Zo3 N d.1)
def Z3d:Fn:=⟨Tryz.f29,WG,Zpm,λN=>[(66,Zaq N)]⟩
theorem Z3e(N:Nat):GW 29 (Zpm N):=GF Z3d N Tryz.func29 (GC (Zfs N) Wg)
def Zm0(N:Nat):Sig:=Sig.of [.v Jae true] [.v (TY_World) true,.v Ja false] (λd=>Zgw N d.1)
def Zcg:Fn:=⟨Tryz.f9,λ |5=>[.canon [1,2,4,5,21]]|6=>[.canon [1,2,4,5]]|7=>[.canon [1,2,4,5,25,26,27]]|8=>[.canon [1,2,4,5,25,26,27,28]]|9=>[.canon [1,2,4,5,6,7,25,26,27]]|10=>[.canon [1,2,4,5,6,7,25,26,27]]|11=>[.canon [1,2,4,5,6,25,26,27,38,39]]|12=>[.canon [1,2,4,5,6,25,26,27,38,39,40]]|13=>[.canon [1,2,4,5,6,8,25,26,27,38,39]]|14=>[.canon [1,2,4,5,6,25,26,27,38,39]]|15=>[.canon [1,2,4,5,6,25,26,27,38,39]]|16=>[.canon [1,2,4,5,25,26,27]]|100005=>[.canon [1,2,4,5]]|100008=>[.canon [1,2,4,5,25,26,27]]|100012=>[.canon [1,2,4,5,6,25,26,27,38,39]]|_=>[],Zm0,λN=>[(27,Zjf N),(28,Zpl N),(29,Zpm N),(30,Zi3 N)]⟩
def Zsy(bL:Int)(jo:Int)(kT:List Kn)(kU:Int)(t45:Int)(dE:Ki×List Kn×List Kb)(fF:Int)(fG:Int)(fH:Int)(fI:Int)(fX:Int)(fY:Int)(fZ:Int)(ga:Int)(nR:List Kb)(nS:List Int)(nT:List Kb)(nU:List Y_Root)(nV:List Ko):St:=⟨[(1,vP 0 0),(2,vP 1 0),(4,vP 2 0),(5,vI bL),(6,vI jo),(25,vV Jn kT),(26,vI kU),(27,vI jo),(38,vI (Wi (Xc kT (Xa jo) (([]:List Ka),([]:List Kab))).2)),(39,vI t45)],[(0,.box [.val Je dE.1.1,.val Je dE.1.2.1,.val Ja dE.1.2.2,.val Jn dE.2.1,.val Jf dE.2.2]),(1,.box [.val Ja fF,.val Ja fG,.val Ja fH,.nils,.nils,.val Ja fI,.nils,.nils,.nils]),(2,.box [.val Ja fX,.val Ja fY,.val Ja fZ,.own 3,.own 4,.val Ja ga,.own 5,.own 6,.own 7]),(3,.arr Jj nR),(4,.arr Ja nS),(5,.arr Jj nT),(6,.arr Jk nU),(7,.arr Ji nV)],8⟩
def Zrm(bL:Int)(jo:Int)(kT:List Kn)(kU:Int)(dE:Ki×List Kn×List Kb)(fF:Int)(fG:Int)(fH:Int)(fI:Int)(rz:Int)(rD:Bool)(gL:Int)(gM:Int)(gN:Int)(mU:Int)(fz:List Kb)(dz:List Int)(dA:List Kb)(dB:List Y_Root)(gO:List Ko):St:=⟨[(1,vP 0 0),(2,vP 1 0),(4,vP 2 0),(5,vI bL),(6,vI jo),(25,vV Jn kT),(26,vI kU),(27,vI jo),(38,vI (Wi (Xc kT (Xa jo) (([]:List Ka),([]:List Kab))).2)),(39,vI rz),(40,vB rD)],[(0,.box [.val Je dE.1.1,.val Je dE.1.2.1,.val Ja dE.1.2.2,.val Jn dE.2.1,.val Jf dE.2.2]),(1,.box [.val Ja fF,.val Ja fG,.val Ja fH,.nils,.nils,.val Ja fI,.nils,.nils,.nils]),(2,.box [.val Ja gL,.val Ja gM,.val Ja gN,.own 3,.own 4,.val Ja mU,.own 5,.own 6,.own 7]),(3,.arr Jj fz),(4,.arr Ja dz),(5,.arr Jj dA),(6,.arr Jk dB),(7,.arr Ji gO)],8⟩
theorem Zsz(N:Nat){R:Type}(K:Ex->St->Option R){bL:Int}{jo:Int}{kT:List Kn}{kU:Int}{dE:Ki×List Kn×List Kb}{fF:Int}{fG:Int}{fH:Int}{fI:Int}{K0:Int->Bool->Int->Int->Int->Int->Ks->Kg->Ks->(List Y_Root)->Kad->Option R}(h0:K0= λrz rD gL gM gN mU fz dz dA dB gO=>K (.exit 4) (Zrm bL jo kT kU dE fF fG fH fI rz rD gL gM gN mU fz dz dA dB gO))(n:Nat)(t45:Int)(fX:Int)(fY:Int)(fZ:Int)(ga:Int)(nR:List Kb)(nS:List Int)(nT:List Kb)(nU:List Y_Root)(nV:List Ko):Zck N bL jo kT kU dE fF fG fH fI K0 n t45 fX fY fZ ga nR nS nT nU nV=LM Zcg N 2 100012 n (Zsy bL jo kT kU t45 dE fF fG fH fI fX fY fZ ga nR nS nT nU nV) K:=by
  subst h0
  induction n generalizing t45 fX fY fZ ga nR nS nT nU nV with
  |zero=>kernel_rfl
  |succ n ih=>rw[Zck];simp only[ih];kernel_rfl
def Zs0(bB:Int)(iA:List Kn)(fL:Int)(d6:Ki×List Kn×List Kb)(mj:Int)(jO:Int)(jP:Int)(jQ:Int)(kV:Int)(nW:Int)(gZ:Int)(eI:Int)(co:List Kb)(kW:List Int)(eJ:List Kb)(fN:List Y_Root)(fO:List Ko):St:=⟨[(1,vP 0 0),(2,vP 1 0),(4,vP 2 0),(5,vI bB),(25,vV Jn iA),(26,vI (Wi d6.2.1)),(27,vI fL)],[(0,.box [.val Je d6.1.1,.val Je d6.1.2.1,.val Ja d6.1.2.2,.val Jn d6.2.1,.val Jf d6.2.2]),(1,.box [.val Ja mj,.val Ja jO,.val Ja jP,.nils,.nils,.val Ja jQ,.nils,.nils,.nils]),(2,.box [.val Ja kV,.val Ja nW,.val Ja gZ,.own 3,.own 4,.val Ja eI,.own 5,.own 6,.own 7]),(3,.arr Jj co),(4,.arr Ja kW),(5,.arr Jj eJ),(6,.arr Jk fN),(7,.arr Ji fO)],8⟩
def Zrn(bB:Int)(iA:List Kn)(d6:Ki×List Kn×List Kb)(mj:Int)(jO:Int)(jP:Int)(jQ:Int)(xo:Int)(xp:Bool)(xq:Int)(qo:Int)(qp:Int)(qq:Int)(qr:List Kb)(qs:List Int)(qu:List Kb)(qv:List Y_Root)(jm:List Ko):St:=⟨[(1,vP 0 0),(2,vP 1 0),(4,vP 2 0),(5,vI bB),(25,vV Jn iA),(26,vI (Wi d6.2.1)),(27,vI xo),(28,vB xp)],[(0,.box [.val Je d6.1.1,.val Je d6.1.2.1,.val Ja d6.1.2.2,.val Jn d6.2.1,.val Jf d6.2.2]),(1,.box [.val Ja mj,.val Ja jO,.val Ja jP,.nils,.nils,.val Ja jQ,.nils,.nils,.nils]),(2,.box [.val Ja xq,.val Ja qo,.val Ja qp,.own 3,.own 4,.val Ja qq,.own 5,.own 6,.own 7]),(3,.arr Jj qr),(4,.arr Ja qs),(5,.arr Jj qu),(6,.arr Jk qv),(7,.arr Ji jm)],8⟩
theorem Zs1(N:Nat){R:Type}(K:Ex->St->Option R){bB:Int}{iA:List Kn}{d6:Ki×List Kn×List Kb}{mj:Int}{jO:Int}{jP:Int}{jQ:Int}{K0:Int->Bool->Int->Int->Int->Int->Ks->Kg->Ks->(List Y_Root)->Kad->Option R}(h0:K0= λxo xp xq qo qp qq qr qs qu qv jm=>K (.exit 2) (Zrn bB iA d6 mj jO jP jQ xo xp xq qo qp qq qr qs qu qv jm))(n:Nat)(fL:Int)(kV:Int)(nW:Int)(gZ:Int)(eI:Int)(co:List Kb)(kW:List Int)(eJ:List Kb)(fN:List Y_Root)(fO:List Ko):Zbt N bB iA d6 mj jO jP jQ K0 n fL kV nW gZ eI co kW eJ fN fO=LM Zcg N 1 100008 n (Zs0 bB iA fL d6 mj jO jP jQ kV nW gZ eI co kW eJ fN fO) K:=by
  subst h0
  induction n generalizing fL kV nW gZ eI co kW eJ fN fO with
  |zero=>kernel_rfl
  |succ n ih=>rw[Zbt];simp(disch:=exact id (by kernel_rfl)) only[ih,Zsz N (CL Zcg N 1 100008 [1,1,0,0,1,1,1,0] n K)];kernel_rfl
def Zs2(bD:Int)(b5:Ki×List Kn×List Kb)(bj:Int)(bN:Int)(eH:Int)(aB:Int)(bH:List Kb)(cq:List Int)(dF:List Kb)(ae:List Y_Root)(aI:List Ko):St:=⟨[(1,vP 0 0),(2,vP 1 0),(4,vP 2 0),(5,vI bD)],[(0,.box [.val Je b5.1.1,.val Je b5.1.2.1,.val Ja b5.1.2.2,.val Jn b5.2.1,.val Jf b5.2.2]),(1,.box [.val Ja (0:Int),.val Ja (0:Int),.val Ja (0:Int),.nils,.nils,.val Ja (0:Int),.nils,.nils,.nils]),(2,.box [.val Ja bj,.val Ja bN,.val Ja eH,.own 3,.own 4,.val Ja aB,.own 5,.own 6,.own 7]),(3,.arr Jj bH),(4,.arr Ja cq),(5,.arr Jj dF),(6,.arr Jk ae),(7,.arr Ji aI)],8⟩
def Zro(b5:Ki×List Kn×List Kb)(eB:Int)(qw:Bool)(qx:Int)(qy:Int)(qz:Int)(jq:Int)(jr:List Kb)(jt:List Int)(ju:List Kb)(qC:List Y_Root)(qD:List Ko):St:=⟨[(1,vP 0 0),(2,vP 1 0),(4,vP 2 0),(5,vI eB),(21,vB qw)],[(0,.box [.val Je b5.1.1,.val Je b5.1.2.1,.val Ja b5.1.2.2,.val Jn b5.2.1,.val Jf b5.2.2]),(1,.box [.val Ja (0:Int),.val Ja (0:Int),.val Ja (0:Int),.nils,.nils,.val Ja (0:Int),.nils,.nils,.nils]),(2,.box [.val Ja qx,.val Ja qy,.val Ja qz,.own 3,.own 4,.val Ja jq,.own 5,.own 6,.own 7]),(3,.arr Jj jr),(4,.arr Ja jt),(5,.arr Jj ju),(6,.arr Jk qC),(7,.arr Ji qD)],8⟩
theorem Zs3(N:Nat){R:Type}(K:Ex->St->Option R){b5:Ki×List Kn×List Kb}{K0:Int->Bool->Int->Int->Int->Int->Ks->Kg->Ks->(List Y_Root)->Kad->Option R}(h0:K0= λeB qw qx qy qz jq jr jt ju qC qD=>K (.exit 0) (Zro b5 eB qw qx qy qz jq jr jt ju qC qD))(n:Nat)(bD:Int)(bj:Int)(bN:Int)(eH:Int)(aB:Int)(bH:List Kb)(cq:List Int)(dF:List Kb)(ae:List Y_Root)(aI:List Ko):Zbu N b5 K0 n bD bj bN eH aB bH cq dF ae aI=LM Zcg N 0 100005 n (Zs2 bD b5 bj bN eH aB bH cq dF ae aI) K:=by
  subst h0
  induction n generalizing bD bj bN eH aB bH cq dF ae aI with
  |zero=>kernel_rfl
  |succ n ih=>rw[Zbu];simp(disch:=exact id (by kernel_rfl)) only[ih,Zs1 N (CL Zcg N 0 100005 [1,0,1,1,0] n K)];kernel_rfl
theorem Zzh(N:Nat)(s1:Ki×List Kn×List Kb):DN Zcg N (s1,())=Zgw N s1:=by
  conv=>rhs;rw[Zgw];simp(disch:=exact id (by kernel_rfl)) only[Zs3 (R:=Unit×(Y_World×Kj)) N (CF Zcg N [1,1,1,1,0,0])]
  kernel_rfl
theorem Zzi(N:Nat):GW 9 (Zm0 N):=GF Zcg N Tryz.func9 (GC (Zpr N) (GC (Z3c N) (GC (Z3e N) (GC (Zpb N) Wg)))) (λd=>Zzh N d.1)
def Znu(N:Nat):Sig:=Sig.of [.v Je false,.v Ja false] [.v Jaf false,.v Jq false] (λd=>Zf7 N d.1 d.2.1)
def Zge:Fn:=⟨Tryz.f56,λ |4=>[.canon [0,1,6,7,8,16]]|5=>[.canon [0,1,6,7,8]]|6=>[.canon [0,1,6,7,8,9]]|7=>[.canon [0,1,6,7,8,9,33]]|8=>[.canon [4,5]]|9=>[.canon [0,1,6,7,8,9]]|10=>[.canon [0,1,6,7,8]]|12=>[.canon [1,6,7,10,44]]|13=>[.canon [1,6,7,10]]|14=>[.canon [1,6,7,10,51]]|15=>[.canon [1,6,7,10]]|100004=>[.canon [0,1,6,7,8]]|100012=>[.canon [1,6,7,10]]|_=>[],Znu,λN=>[(51,Zfu N)]⟩
def Zuw(aj:List Int)(n4:Int)(i5:Int)(l6:List Int)(l7:List Bool):St:=⟨[(0,vV Je aj),(1,vI n4),(6,vO 0),(7,vO 1),(8,vI i5)],[(0,.arr Ja l6),(1,.arr Jq l7)],2⟩
def Zs4(aj:List Int)(n4:Int)(l9:List Int):St:=⟨[(4,vO 0),(5,vB false)],[(0,.arr Ja l9)],1⟩
def Zs5(aj:List Int)(n4:Int)(jK:Int)(aX:Bool)(aw:List Int)(cj:List Bool):St:=⟨[(0,vV Je aj),(1,vI n4),(6,vO 0),(7,vO 1),(8,vI jK),(16,vB aX)],[(0,.arr Ja aw),(1,.arr Jq cj)],2⟩
theorem Zux(N:Nat){R:Type}(K:Ex->St->Option R){aj:List Int}{n4:Int}{K0:Kg->Option R}{K1:Int->Bool->Kg->(List Bool)->Option R}(h0:K0= λl9=>K .ret (Zs4 aj n4 l9))(h1:K1= λjK aX aw cj=>K (.exit 0) (Zs5 aj n4 jK aX aw cj))(n:Nat)(i5:Int)(l6:List Int)(l7:List Bool):Zir N aj n4 K0 K1 n i5 l6 l7=LM Zge N 0 100004 n (Zuw aj n4 i5 l6 l7) K:=by
  subst h0 h1
  induction n generalizing i5 l6 l7 with
  |zero=>kernel_rfl
  |succ n ih=>rw[Zir];simp only[ih];kernel_rfl
def Zuy(kS:Int)(jl:Int)(bS:List Int)(dy:List Bool):St:=⟨[(1,vI kS),(6,vO 0),(7,vO 1),(10,vI jl)],[(0,.arr Ja bS),(1,.arr Jq dy)],2⟩
def Zs6(kS:Int)(dy:List Bool)(xr:Int)(t25:Bool)(gE:List Int):St:=⟨[(1,vI kS),(6,vO 0),(7,vO 1),(10,vI xr),(44,vB t25)],[(0,.arr Ja gE),(1,.arr Jq dy)],2⟩
theorem Zuz(N:Nat){R:Type}(K:Ex->St->Option R){kS:Int}{dy:List Bool}{K0:Int->Bool->Kg->Option R}(h0:K0= λxr t25 gE=>K (.exit 2) (Zs6 kS dy xr t25 gE))(n:Nat)(jl:Int)(bS:List Int):Zgp N kS dy K0 n jl bS=LM Zge N 1 100012 n (Zuy kS jl bS dy) K:=by
  subst h0
  induction n generalizing jl bS with
  |zero=>kernel_rfl
  |succ n ih=>rw[Zgp];simp only[ih];kernel_rfl
theorem Z0r(N:Nat)(bE:List Int)(n2:Int):DN Zge N (bE,n2,())=Zf7 N bE n2:=by
  conv=>rhs;rw[Zf7];simp(disch:=exact id (by kernel_rfl)) only[Zux (R:=Unit×(Kg×Kq)) N (CF Zge N [1,1,1,0,1,0]),Zuz (R:=Unit×(Kg×Kq)) N (CF Zge N [1,1,1,1,0,1,0])]
  kernel_rfl
theorem Z0s(N:Nat):GW 56 (Znu N):=GF Zge N Tryz.func56 (GC (Zih N) Wg) (λd=>Z0r N d.1 d.2.1)
def Zoh(N:Nat):Sig:=Sig.of [.v Jo true] [.v Jz true] (λd=>Zg6 N d.1)
def Z1x:Fn:=⟨Tryz.f101,WG,Zoh,Wbo⟩
theorem Z1y(N:Nat):GW 101 (Zoh N):=GF Z1x N Tryz.func101 Wg
def Zoz(N:Nat):Sig:=Sig.of [.v Jc false,.v Ja false] [.v Ja false] (λd=>Zjl N d.1 d.2.1)
def Zmu:Fn:=⟨Tryz.f102,λ |5=>[.canon [0,5,6,27]]|6=>[.canon [0,5,6]]|7=>[.canon [0,5,6,35]]|8=>[.canon [0,5,6]]|9=>[.canon [0,5,6,43]]|10=>[.canon [0,5,6]]|11=>[.canon [0,5,6,47]]|12=>[.canon [4]]|100005=>[.canon [0,5,6]]|_=>[],Zoz,Wbo⟩
def Zys(ah:List Ka)(d4:Int)(k5:Int):St:=⟨[(0,vV Jc ah),(5,vI d4),(6,vI k5)],[],0⟩
def Zw1(ah:List Ka)(t6:Int):St:=⟨[(4,vI t6)],[],0⟩
def Zw2(ah:List Ka)(d7:Int)(k8:Int)(t9:Bool):St:=⟨[(0,vV Jc ah),(5,vI d7),(6,vI k8),(27,vB t9)],[],0⟩
theorem Zyt(N:Nat){R:Type}(K:Ex->St->Option R){ah:List Ka}{K0:Int->Option R}{K1:Int->Int->Bool->Option R}(h0:K0= λt6=>K .ret (Zw1 ah t6))(h1:K1= λd7 k8 t9=>K (.exit 0) (Zw2 ah d7 k8 t9))(n:Nat)(d4:Int)(k5:Int):Za9 N ah K0 K1 n d4 k5=LM Zmu N 0 100005 n (Zys ah d4 k5) K:=by
  subst h0 h1
  induction n generalizing d4 k5 with
  |zero=>kernel_rfl
  |succ n ih=>rw[Za9];simp only[ih];kernel_rfl
theorem Z2w(N:Nat)(af:List Ka)(i2:Int):DN Zmu N (af,i2,())=Zjl N af i2:=by
  conv=>rhs;rw[Zjl];simp(disch:=exact id (by kernel_rfl)) only[Zyt (R:=Unit×Kj) N (CF Zmu N [1,1,1,0,1,0])]
  kernel_rfl
theorem Z2x(N:Nat):GW 102 (Zoz N):=GF Zmu N Tryz.func102 Wg (λd=>Z2w N d.1 d.2.1)
def Zoi(N:Nat):Sig:=Sig.of [.v Je false] [.v Jq false] (λd=>Zib N d.1)
def Zl0:Fn:=⟨Tryz.f157,λ |4=>[.canon [0,3,10]]|5=>[.canon [0,3]]|6=>[.canon [0,3,18]]|7=>[.canon [2]]|100004=>[.canon [0,3]]|_=>[],Zoi,λN=>[(50,Zhl N)]⟩
def Zw3(l2:List Int)(i3:Int):St:=⟨[(0,vV Je l2),(3,vI i3)],[],0⟩
def Zu0(l2:List Int):St:=⟨[(2,vB false)],[],0⟩
def Zu1(l2:List Int)(i5:Int)(t6:Bool):St:=⟨[(0,vV Je l2),(3,vI i5),(10,vB t6)],[],0⟩
theorem Zw4(N:Nat){R:Type}(K:Ex->St->Option R){l2:List Int}{K0:Option R}{K1:Int->Bool->Option R}(h0:K0=K .ret (Zu0 l2))(h1:K1= λi5 t6=>K (.exit 0) (Zu1 l2 i5 t6))(n:Nat)(i3:Int):Zda N l2 K0 K1 n i3=LM Zl0 N 0 100004 n (Zw3 l2 i3) K:=by
  subst h0 h1
  induction n generalizing i3 with
  |zero=>kernel_rfl
  |succ n ih=>rw[Zda];simp only[ih];kernel_rfl
theorem Z1z(N:Nat)(l1:List Int):DN Zl0 N (l1,())=Zib N l1:=by
  conv=>rhs;rw[Zib];simp(disch:=exact id (by kernel_rfl)) only[Zw4 (R:=Unit×Kq) N (CF Zl0 N [1,1,0,1,0])]
  kernel_rfl
theorem Z10(N:Nat):GW 157 (Zoi N):=GF Zl0 N Tryz.func157 (GC (Zmm N) Wg) (λd=>Z1z N d.1)
def Zpn(N:Nat):Sig:=Sig.of [.v Jt true,.v Je false] [.v Jaf false,.v Jq false] (λd=>Zo1 N d.1 d.2.1)
def Z3f:Fn:=⟨Tryz.f103,WG,Zpn,λN=>[(88,Zky N),(157,Zoi N)]⟩
theorem Z3g(N:Nat):GW 103 (Zpn N):=GF Z3f N Tryz.func103 (GC (Zpd N) (GC (Z10 N) Wg))
def Zkt(N m:Nat):Sig:=Sig.of [.v Jc false,.v Jw false,.v Je false,.v Je false,.v Jo true] [.v Jm true] (λd=>Zj N m d.1 d.2.1 d.2.2.1 d.2.2.2.1 d.2.2.2.2.1)
def Zq4(N:Nat):Sig:=Zkt N N
def Zdn(m:Nat):Fn:=⟨Tryz.f57,λ |6=>[.canon [0,1,2,3,9,10,11,12,13,37]]|7=>[.canon [0,1,2,3,9,10,11,12,13,14]]|8=>[.canon [0,1,2,3,9,10,11,12,13,14,15]]|9=>[.canon [0,1,2,3,9,10,11,12,13,14,15,45]]|10=>[.canon [0,1,2,9,10,11,12,15,24]]|11=>[.canon [0,1,2,3,9,10,11,12,15]]|12=>[.canon [0,1,2,3,9,10,11,12,13,14,15,45,53]]|13=>[.canon [0,1,2,3,9,10,11,12,15]]|14=>[.canon [0,1,2,3,9,10,11,12,13,14,15,45,65]]|15=>[.canon [0,1,2,3,9,10,11,12,15]]|16=>[.canon [0,1,2,3,9,10,11,12,13,14,15,45,77]]|17=>[.canon [0,1,2,3,9,10,11,12,14,15,84]]|18=>[.canon [0,1,2,3,9,10,11,12,15]]|19=>[.canon [0,1,2,3,9,10,11,12,13,14,15,45,89]]|20=>[.canon [0,1,2,3,9,10,11,12,15]]|21=>[.canon [0,1,2,3,9,10,11,12,14,15,45,101]]|22=>[.canon [0,1,2,3,9,10,11,12,15,16]]|23=>[.canon [0,1,2,3,9,10,11,12,15,16]]|24=>[.canon [0,1,2,3,9,10,11,12,15]]|25=>[.canon [0,1,2,3,9,10,11,12,14,15,45,122]]|26=>[.canon [0,1,2,3,9,10,11,12,126]]|27=>[.canon [10]]|28=>[.canon [0,1,2,9,10,11,12,17]]|29=>[.canon [0,1,2,9,10,11,12,17]]|30=>[.canon [0,1,2,3,9,10,11,12,17]]|31=>[.canon [0,1,2,3,9,10,11,12,17]]|32=>[.canon [0,1,2,3,9,10,11,12,17]]|33=>[.canon [0,1,2,3,9,10,11,12,15]]|34=>[.canon [0,1,2,3,9,10,11,12,14,15,45,161]]|35=>[.canon [0,1,2,3,9,10,11,12,15,18]]|36=>[.canon [0,1,2,3,9,10,11,12,15,18,19]]|37=>[.canon [0,1,2,3,9,10,11,12,15,18,19,169]]|38=>[.canon [0,1,2,3,9,10,11,12,15,18,19]]|39=>[.canon [0,1,2,3,9,10,11,12,15,18,19,20]]|40=>[.canon [0,1,2,3,9,10,11,12,15,18,19,20]]|41=>[.canon [0,1,2,3,9,10,11,12,15,18,19,20,187]]|42=>[.canon [0,1,2,3,9,10,11,12,15,18,19]]|43=>[.canon [0,1,2,3,9,10,11,12,15,18,21]]|44=>[.canon [0,1,2,3,9,10,11,12,15,18,21,201]]|45=>[.canon [0,1,2,3,9,10,11,12,15,18,21]]|46=>[.canon [0,1,2,3,9,10,11,12,15,18,21]]|47=>[.canon [0,1,2,3,9,10,11,12,14,15,45,211]]|48=>[.canon [0,1,2,3,9,10,11,12,14,15,22]]|49=>[.canon [0,1,2,3,9,10,11,12,14,15,22]]|50=>[.canon [0,1,2,3,9,10,11,12,15]]|51=>[.canon [0,1,2,3,9,10,11,12,14,15,45,236]]|52=>[.canon [0,1,2,3,9,10,11,12,15]]|53=>[.canon [0,1,2,3,9,10,11,12,14,15,45,249]]|54=>[.canon [0,1,2,3,9,10,11,12,14,15,23]]|55=>[.canon [0,1,2,3,9,10,11,12,14,15,23]]|56=>[.canon [0,1,2,3,9,10,11,12,15]]|57=>[.canon [0,1,2,3,9,10,11,12,14,15,45,268]]|58=>[.canon [0,1,2,3,9,10,11,12,15]]|59=>[.canon [0,1,2,3,9,10,11,12,14,15,280]]|60=>[.canon [0,1,2,3,9,10,11,12,15]]|61=>[.canon [0,1,2,3,9,10,11,12,13]]|100006=>[.canon [0,1,2,3,9,10,11,12,13]]|100037=>[.canon [0,1,2,3,9,10,11,12,15,18,19]]|100044=>[.canon [0,1,2,3,9,10,11,12,15,18,21]]|_=>[],λN=>Zkt N (m+1),λN=>[(101,Zoh N),(102,Zoz N),(57,Zkt N m),(103,Zpn N)]⟩
def Zw5(ce:List Ka)(bA:List Kab)(aC:List Int)(cg:Int)(cN:Int)(dr:List Int)(gZ:Int)(eI:Int)(iq:Int)(df:Int)(eJ:List Ke)(fN:List Int)(fO:List Int)(fh:List Int)(cz:List Int)(bw:List Int):St:=⟨[(0,vV Jc ce),(1,vV Jw bA),(2,vV Je aC),(3,vO 0),(9,vP 1 0),(10,vP 2 0),(11,vP 3 0),(12,vO 4),(15,vI cg),(18,vO 5),(19,vI cN)],[(0,.arr Ja dr),(1,.box [.own 6,.own 7,.val Ja gZ]),(2,.box [.val Ja eI,.nils,.nils,.nils,.val Ja iq]),(3,.box [.own 8,.own 9,.val Ja df]),(4,.arr Jy eJ),(5,.arr Ja fN),(6,.arr Ja fO),(7,.arr Ja fh),(8,.arr Ja cz),(9,.arr Ja bw)],10⟩
def Zu2(ce:List Ka)(bA:List Kab)(aC:List Int)(cg:Int)(dr:List Int)(eI:Int)(iq:Int)(df:Int)(eJ:List Ke)(cz:List Int)(bw:List Int)(xt:Int)(iD:Bool)(xu:Int)(lP:List Int)(qn:List Int)(xw:List Int):St:=⟨[(0,vV Jc ce),(1,vV Jw bA),(2,vV Je aC),(3,vO 0),(9,vP 1 0),(10,vP 2 0),(11,vP 3 0),(12,vO 4),(15,vI cg),(18,vO 5),(19,vI xt),(169,vB iD)],[(0,.arr Ja dr),(1,.box [.own 6,.own 7,.val Ja xu]),(2,.box [.val Ja eI,.nils,.nils,.nils,.val Ja iq]),(3,.box [.own 8,.own 9,.val Ja df]),(4,.arr Jy eJ),(5,.arr Ja lP),(6,.arr Ja qn),(7,.arr Ja xw),(8,.arr Ja cz),(9,.arr Ja bw)],10⟩
theorem Zw6(N m:Nat){R:Type}(K:Ex->St->Option R){ce:List Ka}{bA:List Kab}{aC:List Int}{cg:Int}{dr:List Int}{eI:Int}{iq:Int}{df:Int}{eJ:List Ke}{cz:List Int}{bw:List Int}{K0:Int->Bool->Int->Kg->Kg->Kg->Option R}(h0:K0= λxt iD xu lP qn xw=>K (.exit 3) (Zu2 ce bA aC cg dr eI iq df eJ cz bw xt iD xu lP qn xw))(n:Nat)(cN:Int)(gZ:Int)(fN:List Int)(fO:List Int)(fh:List Int):Zbg N (Zj N m) ce bA aC cg dr eI iq df eJ cz bw K0 n cN gZ fN fO fh=LM (Zdn m) N 1 100037 n (Zw5 ce bA aC cg cN dr gZ eI iq df eJ fN fO fh cz bw) K:=by
  subst h0
  induction n generalizing cN gZ fN fO fh with
  |zero=>kernel_rfl
  |succ n ih=>rw[Zbg];simp only[ih];kernel_rfl
def Zw7(cV:List Ka)(cW:List Kab)(ck:List Int)(cX:Int)(jN:Int)(fJ:List Int)(mT:Int)(gL:Int)(gM:Int)(gN:Int)(fK:List Ke)(fz:List Int)(dz:List Int)(dA:List Int)(dB:List Int)(gO:List Int):St:=⟨[(0,vV Jc cV),(1,vV Jw cW),(2,vV Je ck),(3,vO 0),(9,vP 1 0),(10,vP 2 0),(11,vP 3 0),(12,vO 4),(15,vI cX),(18,vO 5),(21,vI jN)],[(0,.arr Ja fJ),(1,.box [.own 6,.own 7,.val Ja mT]),(2,.box [.val Ja gL,.nils,.nils,.nils,.val Ja gM]),(3,.box [.own 8,.own 9,.val Ja gN]),(4,.arr Jy fK),(5,.arr Ja fz),(6,.arr Ja dz),(7,.arr Ja dA),(8,.arr Ja dB),(9,.arr Ja gO)],10⟩
def Zu3(cV:List Ka)(cW:List Kab)(ck:List Int)(cX:Int)(mT:Int)(gL:Int)(gM:Int)(gN:Int)(fK:List Ke)(fz:List Int)(dz:List Int)(dA:List Int)(dB:List Int)(gO:List Int)(xx:Int)(xy:Bool)(xz:List Int):St:=⟨[(0,vV Jc cV),(1,vV Jw cW),(2,vV Je ck),(3,vO 0),(9,vP 1 0),(10,vP 2 0),(11,vP 3 0),(12,vO 4),(15,vI cX),(18,vO 5),(21,vI xx),(201,vB xy)],[(0,.arr Ja xz),(1,.box [.own 6,.own 7,.val Ja mT]),(2,.box [.val Ja gL,.nils,.nils,.nils,.val Ja gM]),(3,.box [.own 8,.own 9,.val Ja gN]),(4,.arr Jy fK),(5,.arr Ja fz),(6,.arr Ja dz),(7,.arr Ja dA),(8,.arr Ja dB),(9,.arr Ja gO)],10⟩
theorem Zw8(N m:Nat){R:Type}(K:Ex->St->Option R){cV:List Ka}{cW:List Kab}{ck:List Int}{cX:Int}{mT:Int}{gL:Int}{gM:Int}{gN:Int}{fK:List Ke}{fz:List Int}{dz:List Int}{dA:List Int}{dB:List Int}{gO:List Int}{K0:Int->Bool->Kg->Option R}(h0:K0= λxx xy xz=>K (.exit 5) (Zu3 cV cW ck cX mT gL gM gN fK fz dz dA dB gO xx xy xz))(n:Nat)(jN:Int)(fJ:List Int):Zce N (Zj N m) cV cW ck cX mT gL gM gN fK fz dz dA dB gO K0 n jN fJ=LM (Zdn m) N 2 100044 n (Zw7 cV cW ck cX jN fJ mT gL gM gN fK fz dz dA dB gO) K:=by
  subst h0
  induction n generalizing jN fJ with
  |zero=>kernel_rfl
  |succ n ih=>rw[Zce];simp only[ih];kernel_rfl
def Zw9(aa:List Ka)(ai:List Kab)(ab:List Int)(ay:Int)(aw:List Int)(aB:Int)(ak:Int)(ae:List Ke)(aI:List Int)(aM:List Int)(aG:List Int)(aJ:List Int):St:=⟨[(0,vV Jc aa),(1,vV Jw ai),(2,vV Je ab),(3,vO 0),(9,vP 1 0),(10,vP 2 0),(11,vP 3 0),(12,vO 4),(13,vI ay)],[(0,.arr Ja aw),(1,.box [.own 5,.own 6,.val Ja aB]),(2,.box [.val Ja (0:Int),.nils,.nils,.nils,.val Ja (0:Int)]),(3,.box [.own 7,.own 8,.val Ja ak]),(4,.arr Jy ae),(5,.arr Ja aI),(6,.arr Ja aM),(7,.arr Ja aG),(8,.arr Ja aJ)],9⟩
def Zu4(aa:List Ka)(ai:List Kab)(ab:List Int)(ak:Int)(aG:List Int)(aJ:List Int)(xA:List Int):St:=⟨[(10,vP 0 0)],[(0,.box [.val Ja (2:Int),.own 1,.own 2,.own 3,.val Ja ak]),(1,.arr Ja xA),(2,.arr Ja aG),(3,.arr Ja aJ)],4⟩
def Zu5(aa:List Ka)(ai:List Kab)(ab:List Int)(ak:Int)(aG:List Int)(aJ:List Int)(qE:Int)(xB:Bool)(xC:List Int)(xD:Int)(xE:List Ke)(xF:List Int)(qF:List Int):St:=⟨[(0,vV Jc aa),(1,vV Jw ai),(2,vV Je ab),(3,vO 0),(9,vP 1 0),(10,vP 2 0),(11,vP 3 0),(12,vO 4),(13,vI qE),(37,vB xB)],[(0,.arr Ja xC),(1,.box [.own 5,.own 6,.val Ja xD]),(2,.box [.val Ja (0:Int),.nils,.nils,.nils,.val Ja (0:Int)]),(3,.box [.own 7,.own 8,.val Ja ak]),(4,.arr Jy xE),(5,.arr Ja xF),(6,.arr Ja qF),(7,.arr Ja aG),(8,.arr Ja aJ)],9⟩
theorem Zxa(N m:Nat){R:Type}(K:Ex->St->Option R){aa:List Ka}{ai:List Kab}{ab:List Int}{ak:Int}{aG:List Int}{aJ:List Int}{K0:Kg->Option R}{K1:Int->Bool->Kg->Int->(List Ke)->Kg->Kg->Option R}(h0:K0= λxA=>K .ret (Zu4 aa ai ab ak aG aJ xA))(h1:K1= λqE xB xC xD xE xF qF=>K (.exit 0) (Zu5 aa ai ab ak aG aJ qE xB xC xD xE xF qF))(n:Nat)(ay:Int)(aw:List Int)(aB:Int)(ae:List Ke)(aI:List Int)(aM:List Int):Zd N (Zj N m) aa ai ab ak aG aJ K0 K1 n ay aw aB ae aI aM=LM (Zdn m) N 0 100006 n (Zw9 aa ai ab ay aw aB ak ae aI aM aG aJ) K:=by
  subst h0 h1
  induction n generalizing ay aw aB ae aI aM with
  |zero=>kernel_rfl
  |succ n ih=>rw[Zd];simp(disch:=exact id (by kernel_rfl)) only[ih,Zw6 N m (CL (Zdn m) N 0 100006 [1,0,1,1,0,1,0,1,1,1,1,1,1,1,1,1,1,1,1,1,0,1,0,1,0] n K),Zw8 N m (CL (Zdn m) N 0 100006 [1,0,1,1,0,1,0,1,1,1,1,1,1,1,1,1,1,1,1,1,0,1,1,1,0] n K)];kernel_rfl
theorem Z11(N m:Nat)(af:List Ka)(bp:List Kab)(aj:List Int)(cF:List Int)(s5:List Int×List Int×Int):DN (Zdn m) N (af,bp,aj,cF,s5,())=Zj N (m+1) af bp aj cF s5:=by
  conv=>rhs;rw[Zj];simp(disch:=exact id (by kernel_rfl)) only[Zxa (R:=Unit×(Ke×Unit)) N m (CF (Zdn m) N [1,1,1,1,1,1,0,0])]
  kernel_rfl
theorem Zqc(N:Nat):∀m,GW 57 (Zkt N m)
  |0=>⟨Wcu Tryz.func57 (show Wmk Tryz.f57=true by kernel_rfl),λd o h=>nomatch (show none=some o from h)⟩
  |m+1=>GF (Zdn m) N Tryz.func57 (GC (Z1y N) (GC (Z2x N) (GC (Zqc N m) (GC (Z3g N) Wg)))) (λd=>Z11 N m d.1 d.2.1 d.2.2.1 d.2.2.2.1 d.2.2.2.2.1)
theorem Z12(N:Nat):GW 57 (Zq4 N):=Zqc N N
def Zoj(N:Nat):Sig:=Sig.of [.v Jah true,.v Je false,.v Jo true] [.v Jm true] (λd=>Zkw N d.1 d.2.1 d.2.2.1)
def Z13:Fn:=⟨Tryz.f19,WG,Zoj,λN=>[(16,Zln N),(17,Zjd N),(56,Znu N),(57,Zq4 N)]⟩
theorem Z14(N:Nat):GW 19 (Zoj N):=GF Z13 N Tryz.func19 (GC (Zqy N) (GC (Zpq N) (GC (Z0s N) (GC (Z12 N) Wg))))
def Zm1(N:Nat):Sig:=Sig.of [.v Je false,.v Je false] [.v Jq false] (λd=>Zbo N d.1 d.2.1)
def Zjk:Fn:=⟨Tryz.f12,λ |4=>[.canon [0,1,5,14]]|5=>[.canon [0,1,5]]|6=>[.canon [0,1,5,25]]|7=>[.canon [4]]|100004=>[.canon [0,1,5]]|_=>[],Zm1,Wbo⟩
def Zs7(a3:List Int)(b4:List Int)(i5:Int):St:=⟨[(0,vV Je a3),(1,vV Je b4),(5,vI i5)],[],0⟩
def Zrp(a3:List Int)(b4:List Int):St:=⟨[(4,vB false)],[],0⟩
def Zrq(a3:List Int)(b4:List Int)(i6:Int)(t7:Bool):St:=⟨[(0,vV Je a3),(1,vV Je b4),(5,vI i6),(14,vB t7)],[],0⟩
theorem Zs8(N:Nat){R:Type}(K:Ex->St->Option R){a3:List Int}{b4:List Int}{K0:Option R}{K1:Int->Bool->Option R}(h0:K0=K .ret (Zrp a3 b4))(h1:K1= λi6 t7=>K (.exit 0) (Zrq a3 b4 i6 t7))(n:Nat)(i5:Int):Zcl N a3 b4 K0 K1 n i5=LM Zjk N 0 100004 n (Zs7 a3 b4 i5) K:=by
  subst h0 h1
  induction n generalizing i5 with
  |zero=>kernel_rfl
  |succ n ih=>rw[Zcl];simp only[ih];kernel_rfl
theorem Zzj(N:Nat)(a1:List Int)(b2:List Int):DN Zjk N (a1,b2,())=Zbo N a1 b2:=by
  conv=>rhs;rw[Zbo];simp(disch:=exact id (by kernel_rfl)) only[Zs8 (R:=Unit×Kq) N (CF Zjk N [1,1,0,1,0])]
  kernel_rfl
theorem Zzk(N:Nat):GW 12 (Zm1 N):=GF Zjk N Tryz.func12 Wg (λd=>Zzj N d.1 d.2.1)
def Zok(N:Nat):Sig:=Sig.of [.v Jab true] [.v Jaf false] (λd=>Zg7 N d.1)
def Zl1:Fn:=⟨Tryz.f14,λ |5=>[.canon [3,11,12,13,14]]|6=>[.canon [3,5,11,12,13]]|7=>[.canon [3,11,12,13]]|8=>[.canon [3,11,12,13]]|100005=>[.canon [3,11,12,13]]|_=>[],Zok,λN=>[(39,Zc6 N)]⟩
def Zxb(t3:List Kb)(t4:Int)(t5:Int)(l6:List Int):St:=⟨[(3,vO 0),(11,vV Jf t3),(12,vI t4),(13,vI t5)],[(0,.arr Ja l6)],1⟩
def Zu6(t3:List Kb)(t4:Int)(t7:Int)(t8:Bool)(l9:List Int):St:=⟨[(3,vO 0),(11,vV Jf t3),(12,vI t4),(13,vI t7),(14,vB t8)],[(0,.arr Ja l9)],1⟩
theorem Zxc(N:Nat){R:Type}(K:Ex->St->Option R){t3:List Kb}{t4:Int}{K0:Int->Bool->Kg->Option R}(h0:K0= λt7 t8 l9=>K (.exit 0) (Zu6 t3 t4 t7 t8 l9))(n:Nat)(t5:Int)(l6:List Int):Zdf N t3 t4 K0 n t5 l6=LM Zl1 N 0 100005 n (Zxb t3 t4 t5 l6) K:=by
  subst h0
  induction n generalizing t5 l6 with
  |zero=>kernel_rfl
  |succ n ih=>rw[Zdf];simp only[ih];kernel_rfl
theorem Z15(N:Nat)(m1:Int×List Kb):DN Zl1 N (m1,())=Zg7 N m1:=by
  conv=>rhs;rw[Zg7];simp(disch:=exact id (by kernel_rfl)) only[Zxc (R:=Unit×Kv) N (CF Zl1 N [1,1,1,0,1,0])]
  kernel_rfl
theorem Z16(N:Nat):GW 14 (Zok N):=GF Zl1 N Tryz.func14 (GC (Zgb N) Wg) (λd=>Z15 N d.1)
def Zo0(N:Nat):Sig:=Sig.of [.v Je false] [.v Jaf false] (λd=>Zhv N d.1)
def Zmv:Fn:=⟨Tryz.f20,λ |5=>[.canon [0,3,12,13]]|6=>[.canon [0,3,4,12]]|7=>[.canon [0,3,4,5,12]]|8=>[.canon [0,3,5,6,7,12]]|9=>[.canon [0,3,5,6,12,21]]|10=>[.canon [0,3,5,12]]|11=>[.canon [0,3,12]]|12=>[.canon [0,3,12]]|100005=>[.canon [0,3,12]]|_=>[],Zo0,λN=>[(58,Zeg N),(59,Zf9 N)]⟩
def Zyu(l3:List Int)(t4:Int)(l5:List Int):St:=⟨[(0,vV Je l3),(3,vO 0),(12,vI t4)],[(0,.arr Ja l5)],1⟩
def Zxd(l3:List Int)(t7:Int)(t8:Bool)(l9:List Int):St:=⟨[(0,vV Je l3),(3,vO 0),(12,vI t7),(13,vB t8)],[(0,.arr Ja l9)],1⟩
theorem Zyv(N:Nat){R:Type}(K:Ex->St->Option R){l3:List Int}{K0:Int->Bool->Kg->Option R}(h0:K0= λt7 t8 l9=>K (.exit 0) (Zxd l3 t7 t8 l9))(n:Nat)(t4:Int)(l5:List Int):Zcx N l3 K0 n t4 l5=LM Zmv N 0 100005 n (Zyu l3 t4 l5) K:=by
  subst h0
  induction n generalizing t4 l5 with
  |zero=>kernel_rfl
  |succ n ih=>rw[Zcx];simp only[ih];kernel_rfl
theorem Z2y(N:Nat)(l1:List Int):DN Zmv N (l1,())=Zhv N l1:=by
  conv=>rhs;rw[Zhv];simp(disch:=exact id (by kernel_rfl)) only[Zyv (R:=Unit×Kv) N (CF Zmv N [1,1,1,0,1,0])]
  kernel_rfl
theorem Z2z(N:Nat):GW 20 (Zo0 N):=GF Zmv N Tryz.func20 (GC (Zhw N) (GC (Zkd N) Wg)) (λd=>Z2y N d.1)
def Zqd(N:Nat):Sig:=Sig.of [.v Ju false] [.v Jq false] (λd=>Zjs N d.1)
def Z0t:Fn:=⟨Tryz.f4,WG,Zqd,λN=>[(6,Zp0 N),(15,Zk6 N),(16,Zln N),(18,Zn6 N),(17,Zjd N),(9,Zm0 N),(19,Zoj N),(12,Zm1 N),(14,Zok N),(20,Zo0 N)]⟩
set_option maxRecDepth 100000 in theorem Z0u (N:Nat):GW 4 (Zqd N):=GF Z0t N Tryz.func4 (GC (Z3i N) (GC (Zvl N) (GC (Zqy N) (GC (Z1f N) (GC (Zpq N) (GC (Zzi N) (GC (Z14 N) (GC (Zzk N) (GC (Z16 N) (GC (Z2z N) Wg))))))))))
end
end Go.Sx
