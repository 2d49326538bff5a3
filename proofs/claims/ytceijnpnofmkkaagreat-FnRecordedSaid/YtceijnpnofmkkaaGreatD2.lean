/- Each Go function does what its Lean function says. -/
import Derived.Test.YtceijnpnofmkkaaGreatD
open List renaming getD→Xd
open Int renaming toNat→Xb
namespace Go.Sx
noncomputable section
open Go.Proofs
set_option linter.unusedVariables false
set_option linter.unusedSimpArgs false
theorem Zqs(N:Nat){R:Type}(K:Ex->St->Option R){k4:Int}{t5:Int}{b7:Int}{b8:Int}{b9:Int}{au:Bool}{aX:Int}{bw:Int}{bp:Int}{dy:Int}{bD:Int}{ax:Int}{hQ:Bool}{db:Int}{da:Int}{dz:Int}{hY:Int}{bY:List Kc}{cJ:List Int}{cK:List Kc}{hZ:List Int}{cA:List Kc}{fH:List Y_KidRun}{ia:Nat}{fI:List Int}{ew:List Kb}{fJ:List Kc}{cV:List Kk}{K0:Int->Bool->Ks->Option R}(h0:K0= λt35 t36 jR=>K (.exit 0) (Zqf k4 t5 b7 b8 b9 au aX bw bp dy bD ax hQ db da dz hY bY cJ cK hZ cA fH ia fI ew fJ cV t35 t36 jR))(n:Nat)(t6:Int)(gE:List Kb):Zax N k4 t5 b7 b8 b9 au aX bw bp dy bD ax hQ db da dz hY bY cJ cK hZ cA fH ia fI ew fJ cV K0 n t6 gE=LM Zcx N 0 100003 n (Zqr k4 t5 t6 b7 b8 b9 au aX bw bp dy bD ax hQ db da dz hY bY cJ cK gE hZ cA fH ia fI ew fJ cV) K:=by
  subst h0
  induction n generalizing t6 gE with
  |zero=>kernel_rfl
  |succ n ih=>rw[Zax];simp only[ih];kernel_rfl
def Zqt(jy:Int)(t44:Int)(t45:Int)(cF:Int)(eJ:Int)(eK:Int)(eM:Bool)(eN:Int)(eZ:Int)(fa:Int)(fb:Int)(fe:Int)(jz:Int)(jA:Bool)(jB:Int)(jC:Int)(jD:Int)(jE:Int)(dh:List Kb)(jF:List Int)(jG:List Kc)(jH:List Kb)(jI:List Int)(lm:List Kc)(jJ:List Y_KidRun)(jK:Nat)(eO:List Int)(eP:List Kc)(eQ:List Kk):St:=⟨[(0,vP 0 0),(1,vI jy),(4,vP 1 0),(75,vO 2),(76,vI t44),(77,vI t45)],[(0,.box [.val Ja cF,.val Ja eJ,.val Ja eK,.val Jp eM,.own 3,.own 4,.own 5,.own 6,.own 7,.own 8]),(1,.box [.val Ja eN,.val Ja eZ,.val Ja fa,.val Ja fb,.val Ja fe,.val Ja jz,.own 9,.own 2,.own 10,.own 11,.val Jp jA,.val Ja jB,.val Ja jC,.val Ja jD,.val Ja jE]),(2,.arr Jl dh),(3,.arr Ja jF),(4,.arr Jx jG),(5,.arr Jl jH),(6,.arr Ja jI),(7,.arr Jx lm),(8,.hole Ji jJ jK 1),(9,.arr Ja eO),(10,.arr Jx eP),(11,.arr Jt eQ)],12⟩
def Zqg(jy:Int)(t44:Int)(cF:Int)(eJ:Int)(eK:Int)(eM:Bool)(eN:Int)(eZ:Int)(fa:Int)(fb:Int)(fe:Int)(jz:Int)(jA:Bool)(jB:Int)(jC:Int)(jD:Int)(jE:Int)(dh:List Kb)(jF:List Int)(jG:List Kc)(jH:List Kb)(jI:List Int)(jJ:List Y_KidRun)(jK:Nat)(eO:List Int)(eP:List Kc)(eQ:List Kk)(we:Int)(wg:Bool)(wh:List Kc):St:=⟨[(0,vP 0 0),(1,vI jy),(4,vP 1 0),(75,vO 2),(76,vI t44),(77,vI we),(78,vB wg)],[(0,.box [.val Ja cF,.val Ja eJ,.val Ja eK,.val Jp eM,.own 3,.own 4,.own 5,.own 6,.own 7,.own 8]),(1,.box [.val Ja eN,.val Ja eZ,.val Ja fa,.val Ja fb,.val Ja fe,.val Ja jz,.own 9,.own 2,.own 10,.own 11,.val Jp jA,.val Ja jB,.val Ja jC,.val Ja jD,.val Ja jE]),(2,.arr Jl dh),(3,.arr Ja jF),(4,.arr Jx jG),(5,.arr Jl jH),(6,.arr Ja jI),(7,.arr Jx wh),(8,.hole Ji jJ jK 1),(9,.arr Ja eO),(10,.arr Jx eP),(11,.arr Jt eQ)],12⟩
theorem Zqu(N:Nat){R:Type}(K:Ex->St->Option R){jy:Int}{t44:Int}{cF:Int}{eJ:Int}{eK:Int}{eM:Bool}{eN:Int}{eZ:Int}{fa:Int}{fb:Int}{fe:Int}{jz:Int}{jA:Bool}{jB:Int}{jC:Int}{jD:Int}{jE:Int}{dh:List Kb}{jF:List Int}{jG:List Kc}{jH:List Kb}{jI:List Int}{jJ:List Y_KidRun}{jK:Nat}{eO:List Int}{eP:List Kc}{eQ:List Kk}{K0:Int->Bool->Kw->Option R}(h0:K0= λwe wg wh=>K (.exit 2) (Zqg jy t44 cF eJ eK eM eN eZ fa fb fe jz jA jB jC jD jE dh jF jG jH jI jJ jK eO eP eQ we wg wh))(n:Nat)(t45:Int)(lm:List Kc):Za5 N jy t44 cF eJ eK eM eN eZ fa fb fe jz jA jB jC jD jE dh jF jG jH jI jJ jK eO eP eQ K0 n t45 lm=LM Zcx N 1 100013 n (Zqt jy t44 t45 cF eJ eK eM eN eZ fa fb fe jz jA jB jC jD jE dh jF jG jH jI lm jJ jK eO eP eQ) K:=by
  subst h0
  induction n generalizing t45 lm with
  |zero=>kernel_rfl
  |succ n ih=>rw[Za5];simp only[ih];kernel_rfl
theorem Zt8(N:Nat)(f1:Y_Family)(k2:Int):DN Zcx N (f1,k2,())=Zd1 N f1 k2:=by
  conv=>rhs;rw[Zd1];simp(disch:=exact id (by kernel_rfl)) only[Zqs (R:=(Y_Family×Unit)×Unit) N (CF Zcx N [1,1,0,1,0]),Zqu (R:=(Y_Family×Unit)×Unit) N (CF Zcx N [1,1,1,1,0,1,0])]
  kernel_rfl
theorem Zt9(N:Nat):GW 126 (Zkk N):=GF Zcx N Tryz.func126 (GC (Zo8 N) (GC (Zki N) (GC (Zei N) Wg))) (λd=>Zt8 N d.1 d.2.1)
def Zld(N:Nat):Sig:=Sig.of [.box Jab,.v Ja false,.v Jc false,.v Ju true] [] (λd=>Zi6 N d.1 d.2.1 d.2.2.1 d.2.2.2.1)
def Zv8:Fn:=⟨Tryz.f70,λ |2=>[.opn 20]|_=>[],Zld,λN=>[(125,Zlx N),(126,Zkk N),(127,Zfc N),(128,Zgi N)]⟩
theorem Zv9(N:Nat):GW 70 (Zld N):=GF Zv8 N Tryz.func70 (GC (Zx7 N) (GC (Zt9 N) (GC (Zki N) (GC (Znl N) Wg))))
def Zjm(N:Nat):Sig:=Sig.of [.box Jw,.v Jr true,.v Jl true] [] (λd=>Zgr N d.1 d.2.1 d.2.2.1)
def Zzz:Fn:=⟨Tryz.f30,λ |3=>[.unfE 6]|_=>[],Zjm,λN=>[(68,Zs N),(69,Zlw N),(70,Zld N)]⟩
theorem Zp8(N:Nat):GW 30 (Zjm N):=GF Zzz N Tryz.func30 (GC (Zy N) (GC (Zx5 N) (GC (Zv9 N) Wg)))
def Zqh(N:Nat):Sig:=Sig.of [.v Jr true] [.v Jw true] (λd=>Zlo N d.1)
def Zn5:Fn:=⟨Tryz.f28,λ |3=>[.nest 21 Jad]|6=>[.canon [1,2,3,32,33,34,35]]|7=>[.canon [1,2,3,5,32,33,34]]|8=>[.canon [1,2,3,32,33,34]]|9=>[.canon [1,2,3,32,33,34]]|100006=>[.adoptC 3 6 Jl,.adoptC 3 8 Je,.canon [1,2,3,32,33,34]]|_=>[],Zqh,λN=>[(27,Zjz N),(64,Zms N),(65,Zo6 N),(30,Zjm N)]⟩
def Z0v(t5:List Kb)(t7:Int)(b8:Kf×List Kn×List Kb)(bp:Int)(dy:Int)(bD:Int)(ax:Int)(bN:List Kb)(bT:List Int)(c8:List Kb)(eI:List Y_Root)(cG:List Ko):St:=⟨[(1,vP 0 0),(2,vP 1 0),(3,vP 2 0),(32,vV Jf t5),(33,vI (Wj b8.2.2)),(34,vI t7)],[(0,.box [.val Jj b8.1.1,.val Jj b8.1.2.1,.val Ja b8.1.2.2,.val Jac b8.2.1,.val Jf b8.2.2]),(1,.box [.val Ja (0:Int),.val Ja (0:Int),.val Ja (0:Int),.nils,.nils,.val Ja (0:Int),.nils,.nils,.nils]),(2,.box [.val Ja bp,.val Ja dy,.val Ja bD,.own 3,.own 4,.val Ja ax,.own 5,.own 6,.own 7]),(3,.arr Jl bN),(4,.arr Ja bT),(5,.arr Jl c8),(6,.arr Jad eI),(7,.arr Je cG)],8⟩
def Zz0(t5:List Kb)(b8:Kf×List Kn×List Kb)(wi:Int)(t25:Bool)(eT:Int)(fw:Int)(fy:Int)(jP:Int)(fI:List Kb)(ew:List Int)(fJ:List Kb)(cV:List Y_Root)(jQ:List Ko):St:=⟨[(1,vP 0 0),(2,vP 1 0),(3,vP 2 0),(32,vV Jf t5),(33,vI (Wj b8.2.2)),(34,vI wi),(35,vB t25)],[(0,.box [.val Jj b8.1.1,.val Jj b8.1.2.1,.val Ja b8.1.2.2,.val Jac b8.2.1,.val Jf b8.2.2]),(1,.box [.val Ja (0:Int),.val Ja (0:Int),.val Ja (0:Int),.nils,.nils,.val Ja (0:Int),.nils,.nils,.nils]),(2,.box [.val Ja eT,.val Ja fw,.val Ja fy,.own 3,.own 4,.val Ja jP,.own 5,.own 6,.own 7]),(3,.arr Jl fI),(4,.arr Ja ew),(5,.arr Jl fJ),(6,.arr Jad cV),(7,.arr Je jQ)],8⟩
theorem Z0w(N:Nat){R:Type}(K:Ex->St->Option R){t5:List Kb}{b8:Kf×List Kn×List Kb}{K0:Int->Bool->Int->Int->Int->Int->Ks->Ki->Ks->(List Y_Root)->Kab->Option R}(h0:K0= λwi t25 eT fw fy jP fI ew fJ cV jQ=>K (.exit 0) (Zz0 t5 b8 wi t25 eT fw fy jP fI ew fJ cV jQ))(n:Nat)(t7:Int)(bp:Int)(dy:Int)(bD:Int)(ax:Int)(bN:List Kb)(bT:List Int)(c8:List Kb)(eI:List Y_Root)(cG:List Ko):Zba N t5 b8 K0 n t7 bp dy bD ax bN bT c8 eI cG=LM Zn5 N 0 100006 n (Z0v t5 t7 b8 bp dy bD ax bN bT c8 eI cG) K:=by
  subst h0
  induction n generalizing t7 bp dy bD ax bN bT c8 eI cG with
  |zero=>kernel_rfl
  |succ n ih=>rw[Zba];simp only[ih];kernel_rfl
theorem Z41(N:Nat)(s1:Kf×List Kn×List Kb):DN Zn5 N (s1,())=Zlo N s1:=by
  conv=>rhs;rw[Zlo];simp(disch:=exact id (by kernel_rfl)) only[Z0w (R:=Unit×(Y_World×Unit)) N (CF Zn5 N [1,1,1,1,0,1,0])]
  kernel_rfl
theorem Z42(N:Nat):GW 28 (Zqh N):=GF Zn5 N Tryz.func28 (GC (Zqm N) (GC (Zzc N) (GC (Z3e N) (GC (Zp8 N) Wg)))) (λd=>Z41 N d.1)
def Zpe(N:Nat):Sig:=Sig.of [.v (TY_Root) true] [.v Jp false] (λd=>Zqa N d.1)
def Z3p:Fn:=⟨Tryz.f67,WG,Zpe,Wbk⟩
theorem Z3q(N:Nat):GW 67 (Zpe N):=GF Z3p N Tryz.func67 Wg
def Za1(N:Nat):Sig:=Sig.of [.v Jv false,.clos 67 0] [.v Ja false] (λd=>Z2 N d.1)
def Zae:Fn:=⟨Tryz.f114,λ |2=>[.canon [0,1,7,8,9]]|3=>[.canon [0,1,5,7,8]]|4=>[.canon [0,1,5,7,8,16]]|5=>[.canon [1,4]]|6=>[.canon [0,1,7,8]]|100002=>[.canon [0,1,7,8]]|_=>[],Za1,λN=>[(67,Zpe N)]⟩
def Zfx(s2:List Y_Root)(t4:Int):St:=⟨[(0,vV Jv s2),(1,.s (.one (.clos 67 []))),(7,vI (Wj s2)),(8,vI t4)],[],0⟩
def Zfj(s2:List Y_Root)(t7:Int):St:=⟨[(1,.s (.one (.clos 67 []))),(4,vI t7)],[],0⟩
def Zfk(s2:List Y_Root)(t8:Int)(t9:Bool):St:=⟨[(0,vV Jv s2),(1,.s (.one (.clos 67 []))),(7,vI (Wj s2)),(8,vI t8),(9,vB t9)],[],0⟩
theorem Zfy(N:Nat){R:Type}(K:Ex->St->Option R){s2:List Y_Root}{K0:Int->Option R}{K1:Int->Bool->Option R}(h0:K0= λt7=>K .ret (Zfj s2 t7))(h1:K1= λt8 t9=>K (.exit 0) (Zfk s2 t8 t9))(n:Nat)(t4:Int):Zm N s2 K0 K1 n t4=LM Zae N 0 100002 n (Zfx s2 t4) K:=by
  subst h0 h1
  induction n generalizing t4 with
  |zero=>kernel_rfl
  |succ n ih=>rw[Zm];simp only[ih];kernel_rfl
theorem Zgz(N:Nat)(s1:List Y_Root):DN Zae N (s1,())=Z2 N s1:=by
  conv=>rhs;rw[Z2];simp(disch:=exact id (by kernel_rfl)) only[Zfy (R:=Unit×Kh) N (CF Zae N [1,0,1,0])]
  kernel_rfl
theorem Zg0(N:Nat):GW 114 (Za1 N):=GF Zae N Tryz.func114 (GC (Z3q N) Wg) (λd=>Zgz N d.1)
def Zat(N:Nat):Sig:=Sig.of [.v Jv false,.clos 67 0] [.v Jp false] (λd=>Zay N d.1)
def Zgc:Fn:=⟨Tryz.f66,WG,Zat,λN=>[(114,Za1 N)]⟩
theorem Zgd(N:Nat):GW 66 (Zat N):=GF Zgc N Tryz.func66 (GC (Zg0 N) Wg)
def Zqi(N:Nat):Sig:=Sig.of [.v (TY_World) true] [.v Jp false] (λd=>Zp2 N d.1)
def Z43:Fn:=⟨Tryz.f29,WG,Zqi,λN=>[(66,Zat N)]⟩
theorem Z44(N:Nat):GW 29 (Zqi N):=GF Z43 N Tryz.func29 (GC (Zgd N) Wg)
def Znr(N:Nat):Sig:=Sig.of [.v Jr true] [.v (TY_World) true,.v Ja false] (λd=>Zhg N d.1)
def Zco:Fn:=⟨Tryz.f9,λ |5=>[.canon [1,2,4,5,21]]|6=>[.canon [1,2,4,5]]|7=>[.canon [1,2,4,5,25,26,27]]|8=>[.canon [1,2,4,5,25,26,27,28]]|9=>[.canon [1,2,4,5,6,7,25,26,27]]|10=>[.canon [1,2,4,5,6,7,25,26,27]]|11=>[.canon [1,2,4,5,6,25,26,27,38,39]]|12=>[.canon [1,2,4,5,6,25,26,27,38,39,40]]|13=>[.canon [1,2,4,5,6,8,25,26,27,38,39]]|14=>[.canon [1,2,4,5,6,25,26,27,38,39]]|15=>[.canon [1,2,4,5,6,25,26,27,38,39]]|16=>[.canon [1,2,4,5,25,26,27]]|100005=>[.canon [1,2,4,5]]|100008=>[.canon [1,2,4,5,25,26,27]]|100012=>[.canon [1,2,4,5,6,25,26,27,38,39]]|_=>[],Znr,λN=>[(27,Zjz N),(28,Zqh N),(29,Zqi N),(30,Zjm N)]⟩
def Zua(bu:Int)(ig:Int)(t41:List Kn)(jN:Int)(t45:Int)(cF:Kf×List Kn×List Kb)(eJ:Int)(eK:Int)(eM:Int)(eN:Int)(eZ:Int)(fa:Int)(fb:Int)(fe:Int)(m0:List Kb)(m6:List Int)(m7:List Kb)(m9:List Y_Root)(na:List Ko):St:=⟨[(1,vP 0 0),(2,vP 1 0),(4,vP 2 0),(5,vI bu),(6,vI ig),(25,vV Jac t41),(26,vI jN),(27,vI ig),(38,vI (Wj (Xd t41 (Xb ig) (([]:List Ka),([]:List Kz))).2)),(39,vI t45)],[(0,.box [.val Jj cF.1.1,.val Jj cF.1.2.1,.val Ja cF.1.2.2,.val Jac cF.2.1,.val Jf cF.2.2]),(1,.box [.val Ja eJ,.val Ja eK,.val Ja eM,.nils,.nils,.val Ja eN,.nils,.nils,.nils]),(2,.box [.val Ja eZ,.val Ja fa,.val Ja fb,.own 3,.own 4,.val Ja fe,.own 5,.own 6,.own 7]),(3,.arr Jl m0),(4,.arr Ja m6),(5,.arr Jl m7),(6,.arr Jad m9),(7,.arr Je na)],8⟩
def Zss(bu:Int)(ig:Int)(t41:List Kn)(jN:Int)(cF:Kf×List Kn×List Kb)(eJ:Int)(eK:Int)(eM:Int)(eN:Int)(qW:Int)(t63:Bool)(me:Int)(mf:Int)(mg:Int)(mh:Int)(mj:List Kb)(eO:List Int)(eP:List Kb)(eQ:List Y_Root)(ml:List Ko):St:=⟨[(1,vP 0 0),(2,vP 1 0),(4,vP 2 0),(5,vI bu),(6,vI ig),(25,vV Jac t41),(26,vI jN),(27,vI ig),(38,vI (Wj (Xd t41 (Xb ig) (([]:List Ka),([]:List Kz))).2)),(39,vI qW),(40,vB t63)],[(0,.box [.val Jj cF.1.1,.val Jj cF.1.2.1,.val Ja cF.1.2.2,.val Jac cF.2.1,.val Jf cF.2.2]),(1,.box [.val Ja eJ,.val Ja eK,.val Ja eM,.nils,.nils,.val Ja eN,.nils,.nils,.nils]),(2,.box [.val Ja me,.val Ja mf,.val Ja mg,.own 3,.own 4,.val Ja mh,.own 5,.own 6,.own 7]),(3,.arr Jl mj),(4,.arr Ja eO),(5,.arr Jl eP),(6,.arr Jad eQ),(7,.arr Je ml)],8⟩
theorem Zub(N:Nat){R:Type}(K:Ex->St->Option R){bu:Int}{ig:Int}{t41:List Kn}{jN:Int}{cF:Kf×List Kn×List Kb}{eJ:Int}{eK:Int}{eM:Int}{eN:Int}{K0:Int->Bool->Int->Int->Int->Int->Ks->Ki->Ks->(List Y_Root)->Kab->Option R}(h0:K0= λqW t63 me mf mg mh mj eO eP eQ ml=>K (.exit 4) (Zss bu ig t41 jN cF eJ eK eM eN qW t63 me mf mg mh mj eO eP eQ ml))(n:Nat)(t45:Int)(eZ:Int)(fa:Int)(fb:Int)(fe:Int)(m0:List Kb)(m6:List Int)(m7:List Kb)(m9:List Y_Root)(na:List Ko):Zcs N bu ig t41 jN cF eJ eK eM eN K0 n t45 eZ fa fb fe m0 m6 m7 m9 na=LM Zco N 2 100012 n (Zua bu ig t41 jN t45 cF eJ eK eM eN eZ fa fb fe m0 m6 m7 m9 na) K:=by
  subst h0
  induction n generalizing t45 eZ fa fb fe m0 m6 m7 m9 na with
  |zero=>kernel_rfl
  |succ n ih=>rw[Zcs];simp only[ih];kernel_rfl
def Zuc(bi:Int)(d6:List Kn)(t23:Int)(dA:Kf×List Kn×List Kb)(jO:Int)(eT:Int)(fw:Int)(fy:Int)(jP:Int)(nb:Int)(nc:Int)(jM:Int)(cV:List Kb)(jQ:List Int)(jL:List Kb)(nd:List Y_Root)(jR:List Ko):St:=⟨[(1,vP 0 0),(2,vP 1 0),(4,vP 2 0),(5,vI bi),(25,vV Jac d6),(26,vI (Wj dA.2.1)),(27,vI t23)],[(0,.box [.val Jj dA.1.1,.val Jj dA.1.2.1,.val Ja dA.1.2.2,.val Jac dA.2.1,.val Jf dA.2.2]),(1,.box [.val Ja jO,.val Ja eT,.val Ja fw,.nils,.nils,.val Ja fy,.nils,.nils,.nils]),(2,.box [.val Ja jP,.val Ja nb,.val Ja nc,.own 3,.own 4,.val Ja jM,.own 5,.own 6,.own 7]),(3,.arr Jl cV),(4,.arr Ja jQ),(5,.arr Jl jL),(6,.arr Jad nd),(7,.arr Je jR)],8⟩
def Zst(bi:Int)(d6:List Kn)(dA:Kf×List Kn×List Kb)(jO:Int)(eT:Int)(fw:Int)(fy:Int)(wj:Int)(wm:Bool)(wn:Int)(pK:Int)(pL:Int)(pM:Int)(pN:List Kb)(pO:List Int)(pP:List Kb)(pQ:List Y_Root)(pR:List Ko):St:=⟨[(1,vP 0 0),(2,vP 1 0),(4,vP 2 0),(5,vI bi),(25,vV Jac d6),(26,vI (Wj dA.2.1)),(27,vI wj),(28,vB wm)],[(0,.box [.val Jj dA.1.1,.val Jj dA.1.2.1,.val Ja dA.1.2.2,.val Jac dA.2.1,.val Jf dA.2.2]),(1,.box [.val Ja jO,.val Ja eT,.val Ja fw,.nils,.nils,.val Ja fy,.nils,.nils,.nils]),(2,.box [.val Ja wn,.val Ja pK,.val Ja pL,.own 3,.own 4,.val Ja pM,.own 5,.own 6,.own 7]),(3,.arr Jl pN),(4,.arr Ja pO),(5,.arr Jl pP),(6,.arr Jad pQ),(7,.arr Je pR)],8⟩
theorem Zud(N:Nat){R:Type}(K:Ex->St->Option R){bi:Int}{d6:List Kn}{dA:Kf×List Kn×List Kb}{jO:Int}{eT:Int}{fw:Int}{fy:Int}{K0:Int->Bool->Int->Int->Int->Int->Ks->Ki->Ks->(List Y_Root)->Kab->Option R}(h0:K0= λwj wm wn pK pL pM pN pO pP pQ pR=>K (.exit 2) (Zst bi d6 dA jO eT fw fy wj wm wn pK pL pM pN pO pP pQ pR))(n:Nat)(t23:Int)(jP:Int)(nb:Int)(nc:Int)(jM:Int)(cV:List Kb)(jQ:List Int)(jL:List Kb)(nd:List Y_Root)(jR:List Ko):Zbz N bi d6 dA jO eT fw fy K0 n t23 jP nb nc jM cV jQ jL nd jR=LM Zco N 1 100008 n (Zuc bi d6 t23 dA jO eT fw fy jP nb nc jM cV jQ jL nd jR) K:=by
  subst h0
  induction n generalizing t23 jP nb nc jM cV jQ jL nd jR with
  |zero=>kernel_rfl
  |succ n ih=>rw[Zbz];simp(disch:=exact id (by kernel_rfl)) only[ih,Zub N (CL Zco N 1 100008 [1,1,0,0,1,1,1,0] n K)];kernel_rfl
def Zue(bm:Int)(b5:Kf×List Kn×List Kb)(au:Int)(aX:Int)(bw:Int)(bp:Int)(aR:List Kb)(bg:List Int)(de:List Kb)(bN:List Y_Root)(bT:List Ko):St:=⟨[(1,vP 0 0),(2,vP 1 0),(4,vP 2 0),(5,vI bm)],[(0,.box [.val Jj b5.1.1,.val Jj b5.1.2.1,.val Ja b5.1.2.2,.val Jac b5.2.1,.val Jf b5.2.2]),(1,.box [.val Ja (0:Int),.val Ja (0:Int),.val Ja (0:Int),.nils,.nils,.val Ja (0:Int),.nils,.nils,.nils]),(2,.box [.val Ja au,.val Ja aX,.val Ja bw,.own 3,.own 4,.val Ja bp,.own 5,.own 6,.own 7]),(3,.arr Jl aR),(4,.arr Ja bg),(5,.arr Jl de),(6,.arr Jad bN),(7,.arr Je bT)],8⟩
def Zsu(b5:Kf×List Kn×List Kb)(dJ:Int)(pS:Bool)(pT:Int)(pU:Int)(pV:Int)(pW:Int)(pX:List Kb)(pY:List Int)(pZ:List Kb)(p9:List Y_Root)(qa:List Ko):St:=⟨[(1,vP 0 0),(2,vP 1 0),(4,vP 2 0),(5,vI dJ),(21,vB pS)],[(0,.box [.val Jj b5.1.1,.val Jj b5.1.2.1,.val Ja b5.1.2.2,.val Jac b5.2.1,.val Jf b5.2.2]),(1,.box [.val Ja (0:Int),.val Ja (0:Int),.val Ja (0:Int),.nils,.nils,.val Ja (0:Int),.nils,.nils,.nils]),(2,.box [.val Ja pT,.val Ja pU,.val Ja pV,.own 3,.own 4,.val Ja pW,.own 5,.own 6,.own 7]),(3,.arr Jl pX),(4,.arr Ja pY),(5,.arr Jl pZ),(6,.arr Jad p9),(7,.arr Je qa)],8⟩
theorem Zuf(N:Nat){R:Type}(K:Ex->St->Option R){b5:Kf×List Kn×List Kb}{K0:Int->Bool->Int->Int->Int->Int->Ks->Ki->Ks->(List Y_Root)->Kab->Option R}(h0:K0= λdJ pS pT pU pV pW pX pY pZ p9 qa=>K (.exit 0) (Zsu b5 dJ pS pT pU pV pW pX pY pZ p9 qa))(n:Nat)(bm:Int)(au:Int)(aX:Int)(bw:Int)(bp:Int)(aR:List Kb)(bg:List Int)(de:List Kb)(bN:List Y_Root)(bT:List Ko):Zb0 N b5 K0 n bm au aX bw bp aR bg de bN bT=LM Zco N 0 100005 n (Zue bm b5 au aX bw bp aR bg de bN bT) K:=by
  subst h0
  induction n generalizing bm au aX bw bp aR bg de bN bT with
  |zero=>kernel_rfl
  |succ n ih=>rw[Zb0];simp(disch:=exact id (by kernel_rfl)) only[ih,Zud N (CL Zco N 0 100005 [1,0,1,1,0] n K)];kernel_rfl
theorem Z0x(N:Nat)(s1:Kf×List Kn×List Kb):DN Zco N (s1,())=Zhg N s1:=by
  conv=>rhs;rw[Zhg];simp(disch:=exact id (by kernel_rfl)) only[Zuf (R:=Unit×(Y_World×Kh)) N (CF Zco N [1,1,1,1,0,0])]
  kernel_rfl
theorem Z0y(N:Nat):GW 9 (Znr N):=GF Zco N Tryz.func9 (GC (Zqm N) (GC (Z42 N) (GC (Z44 N) (GC (Zp8 N) Wg)))) (λd=>Z0x N d.1)
def Zns(N:Nat):Sig:=Sig.of [.v Je true,.box Je] [.v Jp false] (λd=>Zov N d.1 d.2.1)
def Z0z:Fn:=⟨Tryz.f74,WG,Zns,Wbk⟩
theorem Z00(N:Nat):GW 74 (Zns N):=GF Z0z N Tryz.func74 Wg
def Zas(N:Nat):Sig:=Sig.of [.v Js false,.clos 74 1,.box Je] [.v Ja false] (λd=>Zx N d.1 d.2.1)
def Zac:Fn:=⟨Tryz.f130,λ |2=>[.canon [0,1,7,8,9]]|3=>[.canon [0,1,5,7,8]]|4=>[.canon [0,1,5,7,8,16]]|5=>[.canon [1,4]]|6=>[.canon [0,1,7,8]]|100002=>[.canon [0,1,7,8]]|_=>[],Zas,λN=>[(74,Zns N)]⟩
def Zez(s3:List Ko)(t5:Int)(b6:Int×Int×List Kc):St:=⟨[(0,vV Js s3),(1,.s (.one (.clos 74 [0]))),(7,vI (Wj s3)),(8,vI t5)],[(0,.box [.val Ja b6.1,.val Ja b6.2.1,.val Jn b6.2.2])],1⟩
def Zej(s3:List Ko)(t9:Int)(au:Int×Int×List Kc):St:=⟨[(1,.s (.one (.clos 74 [0]))),(4,vI t9)],[(0,.box [.val Ja au.1,.val Ja au.2.1,.val Jn au.2.2])],1⟩
def Zek(s3:List Ko)(aq:Int)(aH:Bool)(bp:Int×Int×List Kc):St:=⟨[(0,vV Js s3),(1,.s (.one (.clos 74 [0]))),(7,vI (Wj s3)),(8,vI aq),(9,vB aH)],[(0,.box [.val Ja bp.1,.val Ja bp.2.1,.val Jn bp.2.2])],1⟩
theorem Ze0(N:Nat){R:Type}(K:Ex->St->Option R){s3:List Ko}{K0:Int->Ko->Option R}{K1:Int->Bool->Ko->Option R}(h0:K0= λt9 au=>K .ret (Zej s3 t9 au))(h1:K1= λaq aH bp=>K (.exit 0) (Zek s3 aq aH bp))(n:Nat)(t5:Int)(b6:Int×Int×List Kc):Zl N s3 K0 K1 n t5 b6=LM Zac N 0 100002 n (Zez s3 t5 b6) K:=by
  subst h0 h1
  induction n generalizing t5 b6 with
  |zero=>kernel_rfl
  |succ n ih=>rw[Zl];simp only[ih];kernel_rfl
theorem Zfz(N:Nat)(s1:List Ko)(cj:Int×Int×List Kc):DN Zac N (s1,cj,())=Zx N s1 cj:=by
  conv=>rhs;rw[Zx];simp(disch:=exact id (by kernel_rfl)) only[Ze0 (R:=(Ko×Unit)×Kh) N (CF Zac N [1,0,1,0])]
  kernel_rfl
theorem Zf0(N:Nat):GW 130 (Zas N):=GF Zac N Tryz.func130 (GC (Z00 N) Wg) (λd=>Zfz N d.1 d.2.1)
def Zan(N:Nat):Sig:=Sig.of [.v Js false,.clos 74 1,.box Je] [.v Jp false] (λd=>Z7 N d.1 d.2.1)
def Zfd:Fn:=⟨Tryz.f73,WG,Zan,λN=>[(130,Zas N)]⟩
theorem Zfe(N:Nat):GW 73 (Zan N):=GF Zfd N Tryz.func73 (GC (Zf0 N) Wg)
def Zpf(N:Nat):Sig:=Sig.of [.v Js false] [.v Jp false] (λd=>Zi2 N d.1)
def Zmi:Fn:=⟨Tryz.f31,λ |2=>[.canon [0,5,6,7,8]]|3=>[.canon [0,3,4,5,6,7]]|4=>[.canon [0,5,6,7,34]]|5=>[.canon [2]]|6=>[.canon [0,5,6,7]]|100002=>[.canon [0,5,6,7]]|_=>[],Zpf,λN=>[(68,Zs N),(71,Zcg N),(72,Zcv N),(73,Zan N)]⟩
def Zx8(l2:List Ko)(t5:Int):St:=⟨[(0,vV Js l2),(5,vV Js l2),(6,vI (Wj l2)),(7,vI t5)],[],0⟩
def Zwa(l2:List Ko):St:=⟨[(2,vB false)],[],0⟩
def Zwb(l2:List Ko)(dE:Int)(bf:Bool):St:=⟨[(0,vV Js l2),(5,vV Js l2),(6,vI (Wj l2)),(7,vI dE),(8,vB bf)],[],0⟩
theorem Zx9(N:Nat){R:Type}(K:Ex->St->Option R){l2:List Ko}{K0:Option R}{K1:Int->Bool->Option R}(h0:K0=K .ret (Zwa l2))(h1:K1= λdE bf=>K (.exit 0) (Zwb l2 dE bf))(n:Nat)(t5:Int):Zdq N l2 K0 K1 n t5=LM Zmi N 0 100002 n (Zx8 l2 t5) K:=by
  subst h0 h1
  induction n generalizing t5 with
  |zero=>kernel_rfl
  |succ n ih=>rw[Zdq];simp only[ih];kernel_rfl
theorem Z3r(N:Nat)(l1:List Ko):DN Zmi N (l1,())=Zi2 N l1:=by
  conv=>rhs;rw[Zi2];simp(disch:=exact id (by kernel_rfl)) only[Zx9 (R:=Unit×Kq) N (CF Zmi N [1,0,1,0])]
  kernel_rfl
theorem Z3s(N:Nat):GW 31 (Zpf N):=GF Zmi N Tryz.func31 (GC (Zy N) (GC (Zev N) (GC (Zft N) (GC (Zfe N) Wg)))) (λd=>Z3r N d.1)
def Zlm(N:Nat):Sig:=Sig.of [.mut Ja] [] (λd=>Zc3 N d.1)
theorem Zqj(N:Nat):GW 32 (Zlm N):=⟨WcY Tryz.func32 (show Woh Tryz.f32=true by kernel_rfl),good_sortL sortL N⟩
def Zpg(N:Nat):Sig:=Sig.of [.v Js false] [.v Jae false] (λd=>Zi3 N d.1)
def Zmj:Fn:=⟨Tryz.f10,λ |5=>[.canon [3,10,11,12,13]]|6=>[.canon [3,5,10,11,12]]|7=>[.canon [3,10,11,12]]|8=>[.canon [3,10,11,12]]|100005=>[.canon [3,10,11,12]]|_=>[],Zpg,λN=>[(31,Zpf N),(32,Zlm N)]⟩
def Zya(t3:List Ko)(t5:Int)(l6:List Int):St:=⟨[(3,vO 0),(10,vV Js t3),(11,vI (Wj t3)),(12,vI t5)],[(0,.arr Ja l6)],1⟩
def Zwc(t3:List Ko)(t7:Int)(t8:Bool)(l9:List Int):St:=⟨[(3,vO 0),(10,vV Js t3),(11,vI (Wj t3)),(12,vI t7),(13,vB t8)],[(0,.arr Ja l9)],1⟩
theorem Zyb(N:Nat){R:Type}(K:Ex->St->Option R){t3:List Ko}{K0:Int->Bool->Ki->Option R}(h0:K0= λt7 t8 l9=>K (.exit 0) (Zwc t3 t7 t8 l9))(n:Nat)(t5:Int)(l6:List Int):Zdr N t3 K0 n t5 l6=LM Zmj N 0 100005 n (Zya t3 t5 l6) K:=by
  subst h0
  induction n generalizing t5 l6 with
  |zero=>kernel_rfl
  |succ n ih=>rw[Zdr];simp only[ih];kernel_rfl
theorem Z3t(N:Nat)(l1:List Ko):DN Zmj N (l1,())=Zi3 N l1:=by
  conv=>rhs;rw[Zi3];simp(disch:=exact id (by kernel_rfl)) only[Zyb (R:=Unit×Ku) N (CF Zmj N [1,1,1,0,1,0])]
  kernel_rfl
theorem Z3u(N:Nat):GW 10 (Zpg N):=GF Zmj N Tryz.func10 (GC (Z3s N) (GC (Zqj N) Wg)) (λd=>Z3t N d.1)
def Zpy(N:Nat):Sig:=Sig.of [.v Jn false] [.v Jp false] (λd=>Zka N d.1)
def Znh:Fn:=⟨Tryz.f77,λ |2=>[.canon [0,3,7]]|3=>[.canon [0,3]]|4=>[.canon [0,3,21]]|5=>[.canon [2]]|100002=>[.canon [0,3]]|_=>[],Zpy,λN=>[(72,Zcv N)]⟩
def Zz1(l2:List Kc)(i3:Int):St:=⟨[(0,vV Jn l2),(3,vI i3)],[],0⟩
def Zyc(l2:List Kc):St:=⟨[(2,vB false)],[],0⟩
def Zyd(l2:List Kc)(i4:Int)(t5:Bool):St:=⟨[(0,vV Jn l2),(3,vI i4),(7,vB t5)],[],0⟩
theorem Zz2(N:Nat){R:Type}(K:Ex->St->Option R){l2:List Kc}{K0:Option R}{K1:Int->Bool->Option R}(h0:K0=K .ret (Zyc l2))(h1:K1= λi4 t5=>K (.exit 0) (Zyd l2 i4 t5))(n:Nat)(i3:Int):Zgs N l2 K0 K1 n i3=LM Znh N 0 100002 n (Zz1 l2 i3) K:=by
  subst h0 h1
  induction n generalizing i3 with
  |zero=>kernel_rfl
  |succ n ih=>rw[Zgs];simp only[ih];kernel_rfl
theorem Z4k(N:Nat)(l1:List Kc):DN Znh N (l1,())=Zka N l1:=by
  conv=>rhs;rw[Zka];simp(disch:=exact id (by kernel_rfl)) only[Zz2 (R:=Unit×Kq) N (CF Znh N [1,0,1,0])]
  kernel_rfl
theorem Z4l(N:Nat):GW 77 (Zpy N):=GF Znh N Tryz.func77 (GC (Zft N) Wg) (λd=>Z4k N d.1)
def Zmz(N:Nat):Sig:=Sig.of [.v Ja false] [.v Jaf false] (λd=>Zdf N d.1)
def Zph:Fn:=⟨Tryz.f78,λ |4=>[.canon [0,3,9]]|5=>[.canon [0,3]]|6=>[.canon [0,3]]|100004=>[.canon [0,3]]|_=>[],Zmz,λN=>[(68,Zs N)]⟩
def Z2c(n3:Int)(l4:List Int):St:=⟨[(0,vI n3),(3,vO 0)],[(0,.arr (.int .u8) l4)],1⟩
def Z01(n5:Int)(t6:Bool)(l7:List Int):St:=⟨[(0,vI n5),(3,vO 0),(9,vB t6)],[(0,.arr (.int .u8) l7)],1⟩
theorem Z2d(N:Nat){R:Type}(K:Ex->St->Option R){K0:Int->Bool->Ki->Option R}(h0:K0= λn5 t6 l7=>K (.exit 0) (Z01 n5 t6 l7))(n:Nat)(n3:Int)(l4:List Int):Ze5 N K0 n n3 l4=LM Zph N 0 100004 n (Z2c n3 l4) K:=by
  subst h0
  induction n generalizing n3 l4 with
  |zero=>kernel_rfl
  |succ n ih=>rw[Ze5];simp only[ih];kernel_rfl
theorem Z48(N:Nat)(n1:Int):DN Zph N (n1,())=Zdf N n1:=by
  conv=>rhs;rw[Zdf];simp(disch:=exact id (by kernel_rfl)) only[Z2d (R:=Unit×(Kl×Unit)) N (CF Zph N [1,1,1,0,0])]
  kernel_rfl
theorem Zq9(N:Nat):GW 78 (Zmz N):=GF Zph N Tryz.func78 (GC (Zy N) Wg) (λd=>Z48 N d.1)
def Zjn(N:Nat):Sig:=Sig.of [.v Je true] [.v Jaf false] (λd=>Zc4 N d.1)
def Zjo:Fn:=⟨Tryz.f33,λ |5=>[.canon [3,35,36,37,38]]|6=>[.canon [3,5,35,36,37]]|7=>[.canon [3,35,36,37]]|8=>[.canon [3,35,36,37]]|100005=>[.canon [3,35,36,37]]|_=>[],Zjn,λN=>[(68,Zs N),(71,Zcg N),(77,Zpy N),(78,Zmz N)]⟩
def Zsv(s8:List UInt8)(t9:List Kc)(ao:Int)(aq:Int):St:=⟨[(3,vV Jaf s8),(35,vV Jn t9),(36,vI ao),(37,vI aq)],[],0⟩
def Zrw(t9:List Kc)(ao:Int)(tc:List UInt8)(bf:Int)(eY:Bool):St:=⟨[(3,vV Jaf tc),(35,vV Jn t9),(36,vI ao),(37,vI bf),(38,vB eY)],[],0⟩
theorem Zsw(N:Nat){R:Type}(K:Ex->St->Option R){t9:List Kc}{ao:Int}{K0:Kl->Int->Bool->Option R}(h0:K0= λtc bf eY=>K (.exit 0) (Zrw t9 ao tc bf eY))(n:Nat)(s8:List UInt8)(aq:Int):Zcd N t9 ao K0 n s8 aq=LM Zjo N 0 100005 n (Zsv s8 t9 ao aq) K:=by
  subst h0
  induction n generalizing s8 aq with
  |zero=>kernel_rfl
  |succ n ih=>rw[Zcd];simp only[ih];kernel_rfl
theorem Zz3(N:Nat)(w1:Int×Int×List Kc):DN Zjo N (w1,())=Zc4 N w1:=by
  conv=>rhs;rw[Zc4];simp(disch:=exact id (by kernel_rfl)) only[Zsw (R:=Unit×(Kl×Unit)) N (CF Zjo N [1,1,1,0,1,0])]
  kernel_rfl
theorem Zp9(N:Nat):GW 33 (Zjn N):=GF Zjo N Tryz.func33 (GC (Zy N) (GC (Zev N) (GC (Z4l N) (GC (Zq9 N) Wg)))) (λd=>Zz3 N d.1)
def Zle(N:Nat):Sig:=Sig.of [.v Jaf false] [.v Ja false,.v Ja false] (λd=>Zh6 N d.1)
def Zlf:Fn:=⟨Tryz.f142,λ |3=>[.canon [0,4,5,13]]|4=>[.canon [0,4,5]]|5=>[.canon [0,4,5]]|6=>[.canon [0,4,5,29]]|7=>[.canon [4,5,36]]|8=>[.canon [2,3]]|9=>[.canon [2,3]]|100003=>[.canon [0,4,5]]|_=>[],Zle,λN=>[(78,Zmz N)]⟩
def Zwd(s2:List UInt8)(n3:Int)(i4:Int):St:=⟨[(0,vV Jaf s2),(4,vI n3),(5,vI i4)],[],0⟩
def Zug(s2:List UInt8)(t7:Int)(t8:Int):St:=⟨[(2,vI t7),(3,vI t8)],[],0⟩
def Zuh(s2:List UInt8)(n9:Int)(iF:Int)(aq:Bool):St:=⟨[(0,vV Jaf s2),(4,vI n9),(5,vI iF),(13,vB aq)],[],0⟩
theorem Zwe(N:Nat){R:Type}(K:Ex->St->Option R){s2:List UInt8}{K0:Int->Int->Option R}{K1:Int->Int->Bool->Option R}(h0:K0= λt7 t8=>K .ret (Zug s2 t7 t8))(h1:K1= λn9 iF aq=>K (.exit 0) (Zuh s2 n9 iF aq))(n:Nat)(n3:Int)(i4:Int):Zc5 N s2 K0 K1 n n3 i4=LM Zlf N 0 100003 n (Zwd s2 n3 i4) K:=by
  subst h0 h1
  induction n generalizing n3 i4 with
  |zero=>kernel_rfl
  |succ n ih=>rw[Zc5];simp only[ih];kernel_rfl
theorem Z2e(N:Nat)(s1:List UInt8):DN Zlf N (s1,())=Zh6 N s1:=by
  conv=>rhs;rw[Zh6];simp(disch:=exact id (by kernel_rfl)) only[Zwe (R:=Unit×(Int×Kh)) N (CF Zlf N [1,1,0,1,0])]
  kernel_rfl
theorem Zra(N:Nat):GW 142 (Zle N):=GF Zlf N Tryz.func142 (GC (Zq9 N) Wg) (λd=>Z2e N d.1)
def Zrb(N:Nat):Sig:=Sig.of [.v Jaf false] [.v Ja false] (λd=>Zm5 N d.1)
def Zkl:Fn:=⟨Tryz.f82,λ |3=>[.canon [0,3,4,9]]|4=>[.canon [0,3,4]]|5=>[.canon [0,3,4]]|6=>[.canon [0,3,4,18]]|7=>[.canon [0,3,4,18,19]]|8=>[.canon [0,3,4,5,18]]|9=>[.canon [0,3,4,5,18]]|10=>[.canon [0,3,4,18,25]]|11=>[.canon [0,3,4,18]]|12=>[.canon [0,3,4,18]]|100003=>[.canon [0,3,4]]|100007=>[.canon [0,3,4,18]]|_=>[],Zrb,Wbk⟩
def Z2f(s5:List UInt8)(c6:Int)(i7:Int)(t8:Int):St:=⟨[(0,vV Jaf s5),(3,vI c6),(4,vI i7),(18,vI t8)],[],0⟩
def Z02(s5:List UInt8)(i7:Int)(c9:Int)(ao:Int)(aq:Bool):St:=⟨[(0,vV Jaf s5),(3,vI c9),(4,vI i7),(18,vI ao),(19,vB aq)],[],0⟩
theorem Z2g(N:Nat){R:Type}(K:Ex->St->Option R){s5:List UInt8}{i7:Int}{K0:Int->Int->Bool->Option R}(h0:K0= λc9 ao aq=>K (.exit 2) (Z02 s5 i7 c9 ao aq))(n:Nat)(c6:Int)(t8:Int):Zdg N s5 i7 K0 n c6 t8=LM Zkl N 1 100007 n (Z2f s5 c6 i7 t8) K:=by
  subst h0
  induction n generalizing c6 t8 with
  |zero=>kernel_rfl
  |succ n ih=>rw[Zdg];simp only[ih];kernel_rfl
def Z2h(s2:List UInt8)(c3:Int)(i4:Int):St:=⟨[(0,vV Jaf s2),(3,vI c3),(4,vI i4)],[],0⟩
def Z03(s2:List UInt8)(wo:Int)(si:Int)(cR:Bool):St:=⟨[(0,vV Jaf s2),(3,vI wo),(4,vI si),(9,vB cR)],[],0⟩
theorem Z2i(N:Nat){R:Type}(K:Ex->St->Option R){s2:List UInt8}{K0:Int->Int->Bool->Option R}(h0:K0= λwo si cR=>K (.exit 0) (Z03 s2 wo si cR))(n:Nat)(c3:Int)(i4:Int):Zgt N s2 K0 n c3 i4=LM Zkl N 0 100003 n (Z2h s2 c3 i4) K:=by
  subst h0
  induction n generalizing c3 i4 with
  |zero=>kernel_rfl
  |succ n ih=>rw[Zgt];simp(disch:=exact id (by kernel_rfl)) only[ih,Z2g N (CL Zkl N 0 100003 [1,0,0,1,1,0] n K)];kernel_rfl
theorem Z49(N:Nat)(s1:List UInt8):DN Zkl N (s1,())=Zm5 N s1:=by
  conv=>rhs;rw[Zm5];simp(disch:=exact id (by kernel_rfl)) only[Z2i (R:=Unit×Kh) N (CF Zkl N [1,1,0,1,0])]
  kernel_rfl
theorem Z5a(N:Nat):GW 82 (Zrb N):=GF Zkl N Tryz.func82 Wg (λd=>Z49 N d.1)
def Zpz(N:Nat):Sig:=Sig.of [.v Ja false,.v Ja false] [.v Jaf false] (λd=>Zkb N d.1 d.2.1)
def Zni:Fn:=⟨Tryz.f81,λ |5=>[.canon [0,5,6,26]]|6=>[.canon [0,5,6]]|7=>[.canon [0,5,6]]|8=>[.canon [0,5,6]]|100005=>[.canon [0,5,6]]|_=>[],Zpz,λN=>[(68,Zs N)]⟩
def Zz4(n4:Int)(i5:Int)(l6:List Int):St:=⟨[(0,vI n4),(5,vO 0),(6,vI i5)],[(0,.arr (.int .u8) l6)],1⟩
def Zye(n7:Int)(i8:Int)(t9:Bool)(eB:List Int):St:=⟨[(0,vI n7),(5,vO 0),(6,vI i8),(26,vB t9)],[(0,.arr (.int .u8) eB)],1⟩
theorem Zz5(N:Nat){R:Type}(K:Ex->St->Option R){K0:Int->Int->Bool->Ki->Option R}(h0:K0= λn7 i8 t9 eB=>K (.exit 0) (Zye n7 i8 t9 eB))(n:Nat)(n4:Int)(i5:Int)(l6:List Int):Zce N K0 n n4 i5 l6=LM Zni N 0 100005 n (Zz4 n4 i5 l6) K:=by
  subst h0
  induction n generalizing n4 i5 l6 with
  |zero=>kernel_rfl
  |succ n ih=>rw[Zce];simp only[ih];kernel_rfl
theorem Z4m(N:Nat)(n1:Int)(bO:Int):DN Zni N (n1,bO,())=Zkb N n1 bO:=by
  conv=>rhs;rw[Zkb];simp(disch:=exact id (by kernel_rfl)) only[Zz5 (R:=Unit×(Kl×Unit)) N (CF Zni N [1,1,1,0,1,0])]
  kernel_rfl
theorem Z4n(N:Nat):GW 81 (Zpz N):=GF Zni N Tryz.func81 (GC (Zy N) Wg) (λd=>Z4m N d.1 d.2.1)
def Znj(N:Nat):Sig:=Sig.of [.v Jaf false] [.v Jaf false] (λd=>Zd4 N d.1)
def Z4o:Fn:=⟨Tryz.f35,WG,Znj,λN=>[(78,Zmz N),(82,Zrb N),(81,Zpz N)]⟩
theorem Zui(N:Nat):GW 35 (Znj N):=GF Z4o N Tryz.func35 (GC (Zq9 N) (GC (Z5a N) (GC (Z4n N) Wg)))
def Zop(N:Nat):Sig:=Sig.of [.v Jaf false] [.v Jaf false,.v Ja false] (λd=>Zm6 N d.1)
def Z2j:Fn:=⟨Tryz.f79,WG,Zop,λN=>[(142,Zle N),(35,Znj N)]⟩
theorem Z2k(N:Nat):GW 79 (Zop N):=GF Z2j N Tryz.func79 (GC (Zra N) (GC (Zui N) Wg))
def Zp0(N:Nat):Sig:=Sig.of [.v Jaf false] [.v Ja false,.v Jaf false,.v Jp false] (λd=>Zg9 N d.1)
def Z4p:Fn:=⟨Tryz.f143,WG,Zp0,λN=>[(142,Zle N)]⟩
theorem Z4q(N:Nat):GW 143 (Zp0 N):=GF Z4p N Tryz.func143 (GC (Zra N) Wg)
def Zm0(N:Nat):Sig:=Sig.of [.v Jaf false] [.v (.prod Ja (.prod Ja (.own Jx))) true,.v Jp false] (λd=>Zgu N d.1)
def Zjp:Fn:=⟨Tryz.f80,λ |8=>[.canon [0,2,5,11,54,55,56]]|9=>[.canon [0,2,11,12,13,14,54,55]]|10=>[.canon [0,2,11,12,14,15,16,17,54,55]]|11=>[.canon [0,2,11,12,15,16,54,55,74]]|12=>[.canon [2,3]]|13=>[.canon [0,2,11,16,54,55]]|14=>[.canon [0,2,5,11,54,55]]|15=>[.canon [0,2,5,11,54,55]]|100008=>[.adoptC 11 2 Jx,.canon [0,2,5,11,54,55]]|_=>[],Zm0,λN=>[(143,Zp0 N),(33,Zjn N)]⟩
def Zsx(s5:List UInt8)(dP:List UInt8)(t7:Int)(t8:Int)(aX:Int)(bw:Int)(aL:List Kc):St:=⟨[(0,vV Jaf s5),(2,vP 0 0),(5,vV Jaf dP),(11,vP 1 0),(54,vI t7),(55,vI t8)],[(0,.box [.val Ja (0:Int),.val Ja (0:Int),.nils]),(1,.box [.val Ja aX,.val Ja bw,.own 2]),(2,.arr Jx aL)],3⟩
def Zrx(s5:List UInt8)(t7:Int)(aX:Int)(bw:Int):St:=⟨[(2,vP 0 0),(3,vB false)],[(0,.box [.val Ja (0:Int),.val Ja (0:Int),.nils])],1⟩
def Zry(s5:List UInt8)(t7:Int)(aX:Int)(bw:Int)(ij:List UInt8)(eR:Int)(gH:Bool)(cG:List Kc):St:=⟨[(0,vV Jaf s5),(2,vP 0 0),(5,vV Jaf ij),(11,vP 1 0),(54,vI t7),(55,vI eR),(56,vB gH)],[(0,.box [.val Ja (0:Int),.val Ja (0:Int),.nils]),(1,.box [.val Ja aX,.val Ja bw,.own 2]),(2,.arr Jx cG)],3⟩
theorem Zsy(N:Nat){R:Type}(K:Ex->St->Option R){s5:List UInt8}{t7:Int}{aX:Int}{bw:Int}{K0:Option R}{K1:Kl->Int->Bool->Kw->Option R}(h0:K0=K .ret (Zrx s5 t7 aX bw))(h1:K1= λij eR gH cG=>K (.exit 0) (Zry s5 t7 aX bw ij eR gH cG))(n:Nat)(dP:List UInt8)(t8:Int)(aL:List Kc):Zcf N s5 t7 aX bw K0 K1 n dP t8 aL=LM Zjp N 0 100008 n (Zsx s5 dP t7 t8 aX bw aL) K:=by
  subst h0 h1
  induction n generalizing dP t8 aL with
  |zero=>kernel_rfl
  |succ n ih=>rw[Zcf];simp only[ih];kernel_rfl
theorem Zz6(N:Nat)(s1:List UInt8):DN Zjp N (s1,())=Zgu N s1:=by
  conv=>rhs;rw[Zgu];simp(disch:=exact id (by kernel_rfl)) only[Zsy (R:=Unit×(Ko×Kq)) N (CF Zjp N [1,1,1,1,1,1,0,1,0])]
  kernel_rfl
theorem Zz7(N:Nat):GW 80 (Zm0 N):=GF Zjp N Tryz.func80 (GC (Z4q N) (GC (Zp9 N) Wg)) (λd=>Zz6 N d.1)
def Zhu(N:Nat):Sig:=Sig.of [.v Jaf false] [.v (.own Je) false,.v Ja false] (λd=>Ze6 N d.1)
def Zhv:Fn:=⟨Tryz.f34,λ |4=>[.canon [0,4,5,6,14]]|5=>[.canon [0,4,5,6,7,8]]|6=>[.canon [0,4,5,6,8,9,10]]|7=>[.canon [0,4,5,8,9,38]]|8=>[.canon [0,4,5,8,9]]|9=>[.canon [0,4,5,6,8]]|10=>[.canon [0,4,5,6]]|100004=>[.canon [0,4,5,6]]|_=>[],Zhu,λN=>[(79,Zop N),(80,Zm0 N)]⟩
def Zrc(cu:List UInt8)(iJ:Int)(dt:Int)(l5:List Ko):St:=⟨[(0,vV Jaf cu),(4,vO 0),(5,vI iJ),(6,vI dt)],[(0,.arr Je l5)],1⟩
def Zqv(cu:List UInt8)(wq:Int)(n9:Int)(ao:Bool)(am:List Ko)(bw:Int)(bp:Int)(aR:List Kc):St:=⟨[(0,vV Jaf cu),(4,vO 0),(5,vI wq),(8,vI n9),(9,vP 1 0),(38,vB ao)],[(0,.arr Je am),(1,.box [.val Ja bw,.val Ja bp,.own 2]),(2,.arr Jx aR)],3⟩
def Zqw(cu:List UInt8)(qb:Int)(ik:Int)(cR:Bool)(bT:List Ko):St:=⟨[(0,vV Jaf cu),(4,vO 0),(5,vI qb),(6,vI ik),(14,vB cR)],[(0,.arr Je bT)],1⟩
theorem Zrd(N:Nat){R:Type}(K:Ex->St->Option R){cu:List UInt8}{K0:Int->Int->Bool->Kab->Int->Int->Kw->Option R}{K1:Int->Int->Bool->Kab->Option R}(h0:K0= λwq n9 ao am bw bp aR=>K (.exit 0) (Zqv cu wq n9 ao am bw bp aR))(h1:K1= λqb ik cR bT=>K (.exit 0) (Zqw cu qb ik cR bT))(n:Nat)(iJ:Int)(dt:Int)(l5:List Ko):Zbu N cu K0 K1 n iJ dt l5=LM Zhv N 0 100004 n (Zrc cu iJ dt l5) K:=by
  subst h0 h1
  induction n generalizing iJ dt l5 with
  |zero=>kernel_rfl
  |succ n ih=>rw[Zbu];simp only[ih];kernel_rfl
theorem Zwf(N:Nat)(ck:List UInt8):DN Zhv N (ck,())=Ze6 N ck:=by
  conv=>rhs;rw[Ze6];simp(disch:=exact id (by kernel_rfl)) only[Zrd (R:=Unit×(Kab×Kh)) N (CF Zhv N [1,1,1,1,0,0])]
  kernel_rfl
theorem Zpi(N:Nat):GW 34 (Zhu N):=GF Zhv N Tryz.func34 (GC (Z2k N) (GC (Zz7 N) Wg)) (λd=>Zwf N d.1)
def Zly(N:Nat):Sig:=Sig.of [.v Jaf false,.v Je true] [.v Jaf false,.v Jp false] (λd=>Zju N d.1 d.2.1)
def Zyf:Fn:=⟨Tryz.f11,WG,Zly,λN=>[(33,Zjn N),(34,Zhu N),(35,Znj N)]⟩
theorem Zyg(N:Nat):GW 11 (Zly N):=GF Zyf N Tryz.func11 (GC (Zp9 N) (GC (Zpi N) (GC (Zui N) Wg)))
def Zoq(N:Nat):Sig:=Sig.of [.v Jj false,.v Jn false] [.v Jae false] (λd=>Zgv N d.1 d.2.1)
def Zlg:Fn:=⟨Tryz.f38,λ |5=>[.canon [5,18,19,20,21]]|6=>[.canon [5,7,18,19,20]]|7=>[.canon [5,18,19,20]]|8=>[.canon [5,18,19,20]]|100005=>[.canon [5,18,19,20]]|_=>[],Zoq,λN=>[(36,Zbs N),(72,Zcv N),(37,Z0 N)]⟩
def Zwg(t6:List Kc)(t8:Int)(l9:List Int):St:=⟨[(5,vO 0),(18,vV Jn t6),(19,vI (Wj t6)),(20,vI t8)],[(0,.arr Ja l9)],1⟩
def Zuj(t6:List Kc)(ao:Int)(aq:Bool)(aY:List Int):St:=⟨[(5,vO 0),(18,vV Jn t6),(19,vI (Wj t6)),(20,vI ao),(21,vB aq)],[(0,.arr Ja aY)],1⟩
theorem Zwh(N:Nat){R:Type}(K:Ex->St->Option R){t6:List Kc}{K0:Int->Bool->Ki->Option R}(h0:K0= λao aq aY=>K (.exit 0) (Zuj t6 ao aq aY))(n:Nat)(t8:Int)(l9:List Int):Zc6 N t6 K0 n t8 l9=LM Zlg N 0 100005 n (Zwg t6 t8 l9) K:=by
  subst h0
  induction n generalizing t8 l9 with
  |zero=>kernel_rfl
  |succ n ih=>rw[Zc6];simp only[ih];kernel_rfl
theorem Z2l(N:Nat)(bU:List Int)(l2:List Kc):DN Zlg N (bU,l2,())=Zgv N bU l2:=by
  conv=>rhs;rw[Zgv];simp(disch:=exact id (by kernel_rfl)) only[Zwh (R:=Unit×Ku) N (CF Zlg N [1,1,1,0,1,0])]
  kernel_rfl
theorem Z2m(N:Nat):GW 38 (Zoq N):=GF Zlg N Tryz.func38 (GC (Zc7 N) (GC (Zft N) (GC (Z6 N) Wg))) (λd=>Z2l N d.1 d.2.1)
def Zkm(N:Nat):Sig:=Sig.of [.v Jj false,.v Jaf false] [.v Jae false] (λd=>Zcu N d.1 d.2.1)
def Zhj:Fn:=⟨Tryz.f13,λ |6=>[.canon [5,20,21,22,23]]|7=>[.canon [5,9,20,21,22]]|8=>[.canon [5,20,21,22]]|9=>[.canon [5,20,21,22]]|100006=>[.canon [5,20,21,22]]|_=>[],Zkm,λN=>[(36,Zbs N),(37,Z0 N),(34,Zhu N),(38,Zoq N)]⟩
def Zqx(t6:Int)(t7:Int)(l8:List Int)(l9:List Ko):St:=⟨[(5,vO 0),(20,vO 1),(21,vI t6),(22,vI t7)],[(0,.arr Ja l8),(1,.arr Je l9)],2⟩
def Zqk(t6:Int)(l9:List Ko)(aq:Int)(aH:Bool)(aL:List Int):St:=⟨[(5,vO 0),(20,vO 1),(21,vI t6),(22,vI aq),(23,vB aH)],[(0,.arr Ja aL),(1,.arr Je l9)],2⟩
theorem Zqy(N:Nat){R:Type}(K:Ex->St->Option R){t6:Int}{l9:List Ko}{K0:Int->Bool->Ki->Option R}(h0:K0= λaq aH aL=>K (.exit 0) (Zqk t6 l9 aq aH aL))(n:Nat)(t7:Int)(l8:List Int):Zbk N t6 l9 K0 n t7 l8=LM Zhj N 0 100006 n (Zqx t6 t7 l8 l9) K:=by
  subst h0
  induction n generalizing t7 l8 with
  |zero=>kernel_rfl
  |succ n ih=>rw[Zbk];simp only[ih];kernel_rfl
theorem Zuk(N:Nat)(bU:List Int)(cu:List UInt8):DN Zhj N (bU,cu,())=Zcu N bU cu:=by
  conv=>rhs;rw[Zcu];simp(disch:=exact id (by kernel_rfl)) only[Zqy (R:=Unit×Ku) N (CF Zhj N [1,1,1,1,0,1,0])]
  kernel_rfl
theorem Zul(N:Nat):GW 13 (Zkm N):=GF Zhj N Tryz.func13 (GC (Zc7 N) (GC (Z6 N) (GC (Zpi N) (GC (Z2m N) Wg)))) (λd=>Zuk N d.1 d.2.1)
def Zpj(N:Nat):Sig:=Sig.of [.v Ju true] [.v Jae false] (λd=>Zho N d.1)
def Zmk:Fn:=⟨Tryz.f14,λ |5=>[.canon [3,11,12,13,14]]|6=>[.canon [3,5,11,12,13]]|7=>[.canon [3,11,12,13]]|8=>[.canon [3,11,12,13]]|100005=>[.canon [3,11,12,13]]|_=>[],Zpj,λN=>[(39,Zdh N)]⟩
def Zyh(t3:List Kb)(t4:Int)(t5:Int)(l6:List Int):St:=⟨[(3,vO 0),(11,vV Jf t3),(12,vI t4),(13,vI t5)],[(0,.arr Ja l6)],1⟩
def Zwi(t3:List Kb)(t4:Int)(t7:Int)(t8:Bool)(l9:List Int):St:=⟨[(3,vO 0),(11,vV Jf t3),(12,vI t4),(13,vI t7),(14,vB t8)],[(0,.arr Ja l9)],1⟩
theorem Zyi(N:Nat){R:Type}(K:Ex->St->Option R){t3:List Kb}{t4:Int}{K0:Int->Bool->Ki->Option R}(h0:K0= λt7 t8 l9=>K (.exit 0) (Zwi t3 t4 t7 t8 l9))(n:Nat)(t5:Int)(l6:List Int):Zdp N t3 t4 K0 n t5 l6=LM Zmk N 0 100005 n (Zyh t3 t4 t5 l6) K:=by
  subst h0
  induction n generalizing t5 l6 with
  |zero=>kernel_rfl
  |succ n ih=>rw[Zdp];simp only[ih];kernel_rfl
theorem Z3v(N:Nat)(m1:Int×List Kb):DN Zmk N (m1,())=Zho N m1:=by
  conv=>rhs;rw[Zho];simp(disch:=exact id (by kernel_rfl)) only[Zyi (R:=Unit×Ku) N (CF Zmk N [1,1,1,0,1,0])]
  kernel_rfl
theorem Z3w(N:Nat):GW 14 (Zpj N):=GF Zmk N Tryz.func14 (GC (Zgy N) Wg) (λd=>Z3v N d.1)
def Znt(N:Nat):Sig:=Sig.of [.v Jj false,.v Jj false] [.v Jp false] (λd=>Zfo N d.1 d.2.1)
def Zj4:Fn:=⟨Tryz.f12,λ |4=>[.canon [0,1,5,14]]|5=>[.canon [0,1,5]]|6=>[.canon [0,1,5,25]]|7=>[.canon [4]]|100004=>[.canon [0,1,5]]|_=>[],Znt,Wbk⟩
def Zum(a3:List Int)(b4:List Int)(i5:Int):St:=⟨[(0,vV Jj a3),(1,vV Jj b4),(5,vI i5)],[],0⟩
def Zsz(a3:List Int)(b4:List Int):St:=⟨[(4,vB false)],[],0⟩
def Zs0(a3:List Int)(b4:List Int)(i6:Int)(t7:Bool):St:=⟨[(0,vV Jj a3),(1,vV Jj b4),(5,vI i6),(14,vB t7)],[],0⟩
theorem Zun(N:Nat){R:Type}(K:Ex->St->Option R){a3:List Int}{b4:List Int}{K0:Option R}{K1:Int->Bool->Option R}(h0:K0=K .ret (Zsz a3 b4))(h1:K1= λi6 t7=>K (.exit 0) (Zs0 a3 b4 i6 t7))(n:Nat)(i5:Int):Zct N a3 b4 K0 K1 n i5=LM Zj4 N 0 100004 n (Zum a3 b4 i5) K:=by
  subst h0 h1
  induction n generalizing i5 with
  |zero=>kernel_rfl
  |succ n ih=>rw[Zct];simp only[ih];kernel_rfl
theorem Z04(N:Nat)(a1:List Int)(b2:List Int):DN Zj4 N (a1,b2,())=Zfo N a1 b2:=by
  conv=>rhs;rw[Zfo];simp(disch:=exact id (by kernel_rfl)) only[Zun (R:=Unit×Kq) N (CF Zj4 N [1,1,0,1,0])]
  kernel_rfl
theorem Z05(N:Nat):GW 12 (Znt N):=GF Zj4 N Tryz.func12 Wg (λd=>Z04 N d.1 d.2.1)
def Zpn(N:Nat):Sig:=Sig.of [.v Jy false] [.v Jp false] (λd=>Zds N d.1)
def Zd3:Fn:=⟨Tryz.f3,λ |10=>[.canon [3,4,6,7,8,30]]|11=>[.canon [3,4,6,7,8]]|12=>[.canon [3,4,6,7,8,9]]|13=>[.canon [3,4,6,7,8,9,37]]|14=>[.canon [3,4,6,7,8,9]]|15=>[.canon [3,4,6,7,8,9,50]]|16=>[.canon [3,4,6,8,9,10,11]]|17=>[.canon [3,4,6,8,9,10,62]]|18=>[.canon [2]]|19=>[.canon [3,4,6,7,8,9]]|100010=>[.canon [3,4,6,7,8]]|100013=>[.canon [3,4,6,7,8,9]]|_=>[],Zpn,λN=>[(6,Zqz N),(7,Zmq N),(8,Znn N),(9,Znr N),(10,Zpg N),(11,Zly N),(13,Zkm N),(14,Zpj N),(12,Znt N)]⟩
def Zrz(du:List UInt8)(iL:Int)(iM:Int)(bD:Kf×List Kn×List Kb)(ax:Y_World)(bN:List Int):St:=⟨[(3,vP 0 0),(4,vP 1 0),(6,vO 2),(7,vV Jaf du),(8,vI iL),(9,vI iM)],[(0,.box [.val Jj bD.1.1,.val Jj bD.1.2.1,.val Ja bD.1.2.2,.val Jac bD.2.1,.val Jf bD.2.2]),(1,.box [.val Ja ax.1,.val Ja ax.2.1,.val Ja ax.2.2.1.1,.val Jf ax.2.2.1.2,.val Jj ax.2.2.2.1.1,.val Ja ax.2.2.2.1.2,.val Jf ax.2.2.2.2.1,.val Jv ax.2.2.2.2.2.1,.val Js ax.2.2.2.2.2.2]),(2,.arr Ja bN)],3⟩
def Zre(iL:Int)(bD:Kf×List Kn×List Kb)(ax:Y_World)(bN:List Int):St:=⟨[(2,vB false)],[],0⟩
def Zrf(iL:Int)(bD:Kf×List Kn×List Kb)(ax:Y_World)(bN:List Int)(kG:List UInt8)(ws:Int)(d6:Bool):St:=⟨[(3,vP 0 0),(4,vP 1 0),(6,vO 2),(7,vV Jaf kG),(8,vI iL),(9,vI ws),(37,vB d6)],[(0,.box [.val Jj bD.1.1,.val Jj bD.1.2.1,.val Ja bD.1.2.2,.val Jac bD.2.1,.val Jf bD.2.2]),(1,.box [.val Ja ax.1,.val Ja ax.2.1,.val Ja ax.2.2.1.1,.val Jf ax.2.2.1.2,.val Jj ax.2.2.2.1.1,.val Ja ax.2.2.2.1.2,.val Jf ax.2.2.2.2.1,.val Jv ax.2.2.2.2.2.1,.val Js ax.2.2.2.2.2.2]),(2,.arr Ja bN)],3⟩
theorem Zr0(N:Nat){R:Type}(K:Ex->St->Option R){iL:Int}{bD:Kf×List Kn×List Kb}{ax:Y_World}{bN:List Int}{K0:Option R}{K1:Kl->Int->Bool->Option R}(h0:K0=K .ret (Zre iL bD ax bN))(h1:K1= λkG ws d6=>K (.exit 2) (Zrf iL bD ax bN kG ws d6))(n:Nat)(du:List UInt8)(iM:Int):Zbi N iL bD ax bN K0 K1 n du iM=LM Zd3 N 1 100013 n (Zrz du iL iM bD ax bN) K:=by
  subst h0 h1
  induction n generalizing du iM with
  |zero=>kernel_rfl
  |succ n ih=>rw[Zbi];simp only[ih];kernel_rfl
def Zr1(gt:List UInt8)(i8:Int)(b9:Kf×List Kn×List Kb)(au:Y_World)(am:List Int):St:=⟨[(3,vP 0 0),(4,vP 1 0),(6,vO 2),(7,vV Jaf gt),(8,vI i8)],[(0,.box [.val Jj b9.1.1,.val Jj b9.1.2.1,.val Ja b9.1.2.2,.val Jac b9.2.1,.val Jf b9.2.2]),(1,.box [.val Ja au.1,.val Ja au.2.1,.val Ja au.2.2.1.1,.val Jf au.2.2.1.2,.val Jj au.2.2.2.1.1,.val Ja au.2.2.2.1.2,.val Jf au.2.2.2.2.1,.val Jv au.2.2.2.2.2.1,.val Js au.2.2.2.2.2.2]),(2,.arr Ja am)],3⟩
def Zrg(b9:Kf×List Kn×List Kb)(au:Y_World)(am:List Int):St:=⟨[(2,vB false)],[],0⟩
def Zrh(b9:Kf×List Kn×List Kb)(au:Y_World)(am:List Int)(kH:List UInt8)(wu:Int)(sY:Bool):St:=⟨[(3,vP 0 0),(4,vP 1 0),(6,vO 2),(7,vV Jaf kH),(8,vI wu),(30,vB sY)],[(0,.box [.val Jj b9.1.1,.val Jj b9.1.2.1,.val Ja b9.1.2.2,.val Jac b9.2.1,.val Jf b9.2.2]),(1,.box [.val Ja au.1,.val Ja au.2.1,.val Ja au.2.2.1.1,.val Jf au.2.2.1.2,.val Jj au.2.2.2.1.1,.val Ja au.2.2.2.1.2,.val Jf au.2.2.2.2.1,.val Jv au.2.2.2.2.2.1,.val Js au.2.2.2.2.2.2]),(2,.arr Ja am)],3⟩
theorem Zr2(N:Nat){R:Type}(K:Ex->St->Option R){b9:Kf×List Kn×List Kb}{au:Y_World}{am:List Int}{K0:Option R}{K1:Kl->Int->Bool->Option R}(h0:K0=K .ret (Zrg b9 au am))(h1:K1= λkH wu sY=>K (.exit 0) (Zrh b9 au am kH wu sY))(n:Nat)(gt:List UInt8)(i8:Int):Zbj N b9 au am K0 K1 n gt i8=LM Zd3 N 0 100010 n (Zr1 gt i8 b9 au am) K:=by
  subst h0 h1
  induction n generalizing gt i8 with
  |zero=>kernel_rfl
  |succ n ih=>rw[Zbj];simp(disch:=exact id (by kernel_rfl)) only[ih,Zr0 N (CL Zd3 N 0 100010 [1,0,0,1,0] n K)];kernel_rfl
theorem Zyj(N:Nat)(ac:List Int):DN Zd3 N (ac,())=Zds N ac:=by
  conv=>rhs;rw[Zds];simp(disch:=exact id (by kernel_rfl)) only[Zr2 (R:=Unit×Kq) N (CF Zd3 N [1,1,1,1,1,1,1,0,1,0])]
  kernel_rfl
set_option maxRecDepth 100000 in theorem Zyk (N:Nat):GW 3 (Zpn N):=GF Zd3 N Tryz.func3 (GC (Z46 N) (GC (Zyz N) (GC (Z0c N) (GC (Z0y N) (GC (Z3u N) (GC (Zyg N) (GC (Zul N) (GC (Z3w N) (GC (Z05 N) Wg))))))))) (λ d=>Zyj N d.1)
end
end Go.Sx
