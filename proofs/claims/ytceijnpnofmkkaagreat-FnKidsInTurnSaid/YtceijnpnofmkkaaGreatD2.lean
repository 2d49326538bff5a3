/- Each Go function does what its Lean function says. -/
import Derived.Test.YtceijnpnofmkkaaGreatD
open List renaming getD→Xc
open Int renaming toNat→Xb
namespace Go.Sx
noncomputable section
open Go.Proofs
set_option linter.unusedVariables false
set_option linter.unusedSimpArgs false
theorem Zok(N:Nat){R:Type}(K:Ex->St->Option R){k4:Int}{t5:Int}{b7:Int}{b8:Int}{b9:Int}{aN:Bool}{bA:Int}{cn:Int}{bO:Int}{dy:Int}{cS:Int}{aY:Int}{iw:Bool}{da:Int}{dD:Int}{dz:Int}{iy:Int}{bY:List Kc}{cK:List Int}{db:List Kc}{iz:List Int}{dx:List Kc}{fR:List Y_KidRun}{iA:Nat}{fS:List Int}{fT:List Kb}{fU:List Kc}{cW:List Kk}{K0:Int->Bool->Kr->Option R}(h0:K0= λwA pe ko=>K (.exit 0) (Zn8 k4 t5 b7 b8 b9 aN bA cn bO dy cS aY iw da dD dz iy bY cK db iz dx fR iA fS fT fU cW wA pe ko))(n:Nat)(t6:Int)(gW:List Kb):Zar N k4 t5 b7 b8 b9 aN bA cn bO dy cS aY iw da dD dz iy bY cK db iz dx fR iA fS fT fU cW K0 n t6 gW=LM Zcg N 0 100003 n (Zoj k4 t5 t6 b7 b8 b9 aN bA cn bO dy cS aY iw da dD dz iy bY cK db gW iz dx fR iA fS fT fU cW) K:=by
  subst h0
  induction n generalizing t6 gW with
  |zero=>kernel_rfl
  |succ n ih=>rw[Zar];simp only[ih];kernel_rfl
def Zol(jP:Int)(jQ:Int)(t45:Int)(cH:Int)(eS:Int)(eT:Int)(eU:Bool)(eV:Int)(fi:Int)(fj:Int)(fm:Int)(fo:Int)(jR:Int)(jS:Bool)(jT:Int)(jU:Int)(jV:Int)(jW:Int)(dg:List Kb)(jX:List Int)(jY:List Kc)(jZ:List Kb)(j8:List Int)(lN:List Kc)(j9:List Y_KidRun)(ka:Nat)(eW:List Int)(eX:List Kc)(eY:List Kk):St:=⟨[(0,vP 0 0),(1,vI jP),(4,vP 1 0),(75,vO 2),(76,vI jQ),(77,vI t45)],[(0,.box [.val Ja cH,.val Ja eS,.val Ja eT,.val Jp eU,.own 3,.own 4,.own 5,.own 6,.own 7,.own 8]),(1,.box [.val Ja eV,.val Ja fi,.val Ja fj,.val Ja fm,.val Ja fo,.val Ja jR,.own 9,.own 2,.own 10,.own 11,.val Jp jS,.val Ja jT,.val Ja jU,.val Ja jV,.val Ja jW]),(2,.arr Jk dg),(3,.arr Ja jX),(4,.arr Jv jY),(5,.arr Jk jZ),(6,.arr Ja j8),(7,.arr Jv lN),(8,.hole Jh j9 ka 1),(9,.arr Ja eW),(10,.arr Jv eX),(11,.arr Js eY)],12⟩
def Zn9(jP:Int)(jQ:Int)(cH:Int)(eS:Int)(eT:Int)(eU:Bool)(eV:Int)(fi:Int)(fj:Int)(fm:Int)(fo:Int)(jR:Int)(jS:Bool)(jT:Int)(jU:Int)(jV:Int)(jW:Int)(dg:List Kb)(jX:List Int)(jY:List Kc)(jZ:List Kb)(j8:List Int)(j9:List Y_KidRun)(ka:Nat)(eW:List Int)(eX:List Kc)(eY:List Kk)(wB:Int)(wC:Bool)(wD:List Kc):St:=⟨[(0,vP 0 0),(1,vI jP),(4,vP 1 0),(75,vO 2),(76,vI jQ),(77,vI wB),(78,vB wC)],[(0,.box [.val Ja cH,.val Ja eS,.val Ja eT,.val Jp eU,.own 3,.own 4,.own 5,.own 6,.own 7,.own 8]),(1,.box [.val Ja eV,.val Ja fi,.val Ja fj,.val Ja fm,.val Ja fo,.val Ja jR,.own 9,.own 2,.own 10,.own 11,.val Jp jS,.val Ja jT,.val Ja jU,.val Ja jV,.val Ja jW]),(2,.arr Jk dg),(3,.arr Ja jX),(4,.arr Jv jY),(5,.arr Jk jZ),(6,.arr Ja j8),(7,.arr Jv wD),(8,.hole Jh j9 ka 1),(9,.arr Ja eW),(10,.arr Jv eX),(11,.arr Js eY)],12⟩
theorem Zom(N:Nat){R:Type}(K:Ex->St->Option R){jP:Int}{jQ:Int}{cH:Int}{eS:Int}{eT:Int}{eU:Bool}{eV:Int}{fi:Int}{fj:Int}{fm:Int}{fo:Int}{jR:Int}{jS:Bool}{jT:Int}{jU:Int}{jV:Int}{jW:Int}{dg:List Kb}{jX:List Int}{jY:List Kc}{jZ:List Kb}{j8:List Int}{j9:List Y_KidRun}{ka:Nat}{eW:List Int}{eX:List Kc}{eY:List Kk}{K0:Int->Bool->Kw->Option R}(h0:K0= λwB wC wD=>K (.exit 2) (Zn9 jP jQ cH eS eT eU eV fi fj fm fo jR jS jT jU jV jW dg jX jY jZ j8 j9 ka eW eX eY wB wC wD))(n:Nat)(t45:Int)(lN:List Kc):Za0 N jP jQ cH eS eT eU eV fi fj fm fo jR jS jT jU jV jW dg jX jY jZ j8 j9 ka eW eX eY K0 n t45 lN=LM Zcg N 1 100013 n (Zol jP jQ t45 cH eS eT eU eV fi fj fm fo jR jS jT jU jV jW dg jX jY jZ j8 lN j9 ka eW eX eY) K:=by
  subst h0
  induction n generalizing t45 lN with
  |zero=>kernel_rfl
  |succ n ih=>rw[Za0];simp only[ih];kernel_rfl
theorem Zre(N:Nat)(f1:Y_Family)(k2:Int):DN Zcg N (f1,k2,())=Zdc N f1 k2:=by
  conv=>rhs;rw[Zdc];simp(disch:=exact id (by kernel_rfl)) only[Zok (R:=(Y_Family×Unit)×Unit) N (CF Zcg N [1,1,0,1,0]),Zom (R:=(Y_Family×Unit)×Unit) N (CF Zcg N [1,1,1,1,0,1,0])]
  kernel_rfl
theorem Zrf(N:Nat):GW 126 (Zi4 N):=GF Zcg N Tryz.func126 (GC (Zm9 N) (GC (Zi2 N) (GC (Zds N) Wi))) (λd=>Zre N d.1 d.2.1)
def Zju(N:Nat):Sig:=Sig.of [.box Jy,.v Ja false,.v Jc false,.v Jt true] [] (λd=>Zhx N d.1 d.2.1 d.2.2.1 d.2.2.2.1)
def Zs8:Fn:=⟨Tryz.f70,λ |2=>[.opn 20]|_=>[],Zju,λN=>[(125,Zka N),(126,Zi4 N),(127,Zeh N),(128,Zfh N)]⟩
theorem Zs9(N:Nat):GW 70 (Zju N):=GF Zs8 N Tryz.func70 (GC (Zuz N) (GC (Zrf N) (GC (Zi2 N) (GC (Zlp N) Wi))))
def Zid(N:Nat):Sig:=Sig.of [.box Ju,.v Jaf true,.v Jk true] [] (λd=>Zfq N d.1 d.2.1 d.2.2.1)
def Zwe:Fn:=⟨Tryz.f30,λ |3=>[.unfE 6]|_=>[],Zid,λN=>[(68,Zz N),(69,Zj9 N),(70,Zju N)]⟩
theorem Zn2(N:Nat):GW 30 (Zid N):=GF Zwe N Tryz.func30 (GC (Z7 N) (GC (Zux N) (GC (Zs9 N) Wi)))
def Zoa(N:Nat):Sig:=Sig.of [.v Jaf true] [.v Ju true] (λd=>Zj1 N d.1)
def Zl9:Fn:=⟨Tryz.f28,λ |3=>[.nest 21 Jaa]|6=>[.canon [1,2,3,32,33,34,35]]|7=>[.canon [1,2,3,5,32,33,34]]|8=>[.canon [1,2,3,32,33,34]]|9=>[.canon [1,2,3,32,33,34]]|100006=>[.adoptC 3 6 Jk,.adoptC 3 8 Ji,.canon [1,2,3,32,33,34]]|_=>[],Zoa,λN=>[(27,Zim N),(64,Zk3 N),(65,Zm7 N),(30,Zid N)]⟩
def Zw7(t5:List Kb)(t7:Int)(b8:Kg×List Km×List Kb)(bO:Int)(dy:Int)(cS:Int)(aY:Int)(dc:List Kb)(ck:List Int)(c9:List Kb)(eQ:List Y_Root)(cG:List Kn):St:=⟨[(1,vP 0 0),(2,vP 1 0),(3,vP 2 0),(32,vV Je t5),(33,vI (Wj b8.2.2)),(34,vI t7)],[(0,.box [.val Jj b8.1.1,.val Jj b8.1.2.1,.val Ja b8.1.2.2,.val Jz b8.2.1,.val Je b8.2.2]),(1,.box [.val Ja (0:Int),.val Ja (0:Int),.val Ja (0:Int),.nils,.nils,.val Ja (0:Int),.nils,.nils,.nils]),(2,.box [.val Ja bO,.val Ja dy,.val Ja cS,.own 3,.own 4,.val Ja aY,.own 5,.own 6,.own 7]),(3,.arr Jk dc),(4,.arr Ja ck),(5,.arr Jk c9),(6,.arr Jaa eQ),(7,.arr Ji cG)],8⟩
def Zwf(t5:List Kb)(b8:Kg×List Km×List Kb)(wE:Int)(t25:Bool)(fF:Int)(fG:Int)(fH:Int)(km:Int)(fS:List Kb)(fT:List Int)(fU:List Kb)(cW:List Y_Root)(kn:List Kn):St:=⟨[(1,vP 0 0),(2,vP 1 0),(3,vP 2 0),(32,vV Je t5),(33,vI (Wj b8.2.2)),(34,vI wE),(35,vB t25)],[(0,.box [.val Jj b8.1.1,.val Jj b8.1.2.1,.val Ja b8.1.2.2,.val Jz b8.2.1,.val Je b8.2.2]),(1,.box [.val Ja (0:Int),.val Ja (0:Int),.val Ja (0:Int),.nils,.nils,.val Ja (0:Int),.nils,.nils,.nils]),(2,.box [.val Ja fF,.val Ja fG,.val Ja fH,.own 3,.own 4,.val Ja km,.own 5,.own 6,.own 7]),(3,.arr Jk fS),(4,.arr Ja fT),(5,.arr Jk fU),(6,.arr Jaa cW),(7,.arr Ji kn)],8⟩
theorem Zw8(N:Nat){R:Type}(K:Ex->St->Option R){t5:List Kb}{b8:Kg×List Km×List Kb}{K0:Int->Bool->Int->Int->Int->Int->Kr->Kj->Kr->(List Y_Root)->Kaa->Option R}(h0:K0= λwE t25 fF fG fH km fS fT fU cW kn=>K (.exit 0) (Zwf t5 b8 wE t25 fF fG fH km fS fT fU cW kn))(n:Nat)(t7:Int)(bO:Int)(dy:Int)(cS:Int)(aY:Int)(dc:List Kb)(ck:List Int)(c9:List Kb)(eQ:List Y_Root)(cG:List Kn):Za4 N t5 b8 K0 n t7 bO dy cS aY dc ck c9 eQ cG=LM Zl9 N 0 100006 n (Zw7 t5 t7 b8 bO dy cS aY dc ck c9 eQ cG) K:=by
  subst h0
  induction n generalizing t7 bO dy cS aY dc ck c9 eQ cG with
  |zero=>kernel_rfl
  |succ n ih=>rw[Za4];simp only[ih];kernel_rfl
theorem Z0k(N:Nat)(s1:Kg×List Km×List Kb):DN Zl9 N (s1,())=Zj1 N s1:=by
  conv=>rhs;rw[Zj1];simp(disch:=exact id (by kernel_rfl)) only[Zw8 (R:=Unit×(Y_World×Unit)) N (CF Zl9 N [1,1,1,1,0,1,0])]
  kernel_rfl
theorem Z0l(N:Nat):GW 28 (Zoa N):=GF Zl9 N Tryz.func28 (GC (Zoe N) (GC (Zvr N) (GC (Zy8 N) (GC (Zn2 N) Wi)))) (λd=>Z0k N d.1)
def Znf(N:Nat):Sig:=Sig.of [.v (TY_Root) true] [.v Jp false] (λd=>Zn3 N d.1)
def Zzj:Fn:=⟨Tryz.f67,WM,Znf,Wbq⟩
theorem Zzk(N:Nat):GW 67 (Znf N):=GF Zzj N Tryz.func67 Wi
def Zaw(N:Nat):Sig:=Sig.of [.v (.slice (TY_Root)) false,.clos 67 0] [.v Ja false] (λd=>Zx N d.1)
def Z8:Fn:=⟨Tryz.f114,λ |2=>[.canon [0,1,7,8,9]]|3=>[.canon [0,1,5,7,8]]|4=>[.canon [0,1,5,7,8,16]]|5=>[.canon [1,4]]|6=>[.canon [0,1,7,8]]|100002=>[.canon [0,1,7,8]]|_=>[],Zaw,λN=>[(67,Znf N)]⟩
def Zey(s2:List Y_Root)(t4:Int):St:=⟨[(0,vV (.slice (TY_Root)) s2),(1,.s (.one (.clos 67 []))),(7,vI (Wj s2)),(8,vI t4)],[],0⟩
def Zem(s2:List Y_Root)(t7:Int):St:=⟨[(1,.s (.one (.clos 67 []))),(4,vI t7)],[],0⟩
def Zen(s2:List Y_Root)(t8:Int)(t9:Bool):St:=⟨[(0,vV (.slice (TY_Root)) s2),(1,.s (.one (.clos 67 []))),(7,vI (Wj s2)),(8,vI t8),(9,vB t9)],[],0⟩
theorem Zez(N:Nat){R:Type}(K:Ex->St->Option R){s2:List Y_Root}{K0:Int->Option R}{K1:Int->Bool->Option R}(h0:K0= λt7=>K .ret (Zem s2 t7))(h1:K1= λt8 t9=>K (.exit 0) (Zen s2 t8 t9))(n:Nat)(t4:Int):Zk N s2 K0 K1 n t4=LM Z8 N 0 100002 n (Zey s2 t4) K:=by
  subst h0 h1
  induction n generalizing t4 with
  |zero=>kernel_rfl
  |succ n ih=>rw[Zk];simp only[ih];kernel_rfl
theorem Zfu(N:Nat)(s1:List Y_Root):DN Z8 N (s1,())=Zx N s1:=by
  conv=>rhs;rw[Zx];simp(disch:=exact id (by kernel_rfl)) only[Zez (R:=Unit×Kh) N (CF Z8 N [1,0,1,0])]
  kernel_rfl
theorem Zfv(N:Nat):GW 114 (Zaw N):=GF Z8 N Tryz.func114 (GC (Zzk N) Wi) (λd=>Zfu N d.1)
def Zan(N:Nat):Sig:=Sig.of [.v (.slice (TY_Root)) false,.clos 67 0] [.v Jp false] (λd=>Zat N d.1)
def Zfb:Fn:=⟨Tryz.f66,WM,Zan,λN=>[(114,Zaw N)]⟩
theorem Zfc(N:Nat):GW 66 (Zan N):=GF Zfb N Tryz.func66 (GC (Zfv N) Wi)
def Zob(N:Nat):Sig:=Sig.of [.v (TY_World) true] [.v Jp false] (λd=>Znv N d.1)
def Z0m:Fn:=⟨Tryz.f29,WM,Zob,λN=>[(66,Zan N)]⟩
theorem Z0n(N:Nat):GW 29 (Zob N):=GF Z0m N Tryz.func29 (GC (Zfc N) Wi)
def Zlx(N:Nat):Sig:=Sig.of [.v Jaf true] [.v (TY_World) true,.v Ja false] (λd=>Zce N d.1)
def Zb8:Fn:=⟨Tryz.f9,λ |5=>[.canon [1,2,4,5,21]]|6=>[.canon [1,2,4,5]]|7=>[.canon [1,2,4,5,25,26,27]]|8=>[.canon [1,2,4,5,25,26,27,28]]|9=>[.canon [1,2,4,5,6,7,25,26,27]]|10=>[.canon [1,2,4,5,6,7,25,26,27]]|11=>[.canon [1,2,4,5,6,25,26,27,38,39]]|12=>[.canon [1,2,4,5,6,25,26,27,38,39,40]]|13=>[.canon [1,2,4,5,6,8,25,26,27,38,39]]|14=>[.canon [1,2,4,5,6,25,26,27,38,39]]|15=>[.canon [1,2,4,5,6,25,26,27,38,39]]|16=>[.canon [1,2,4,5,25,26,27]]|100005=>[.canon [1,2,4,5]]|100008=>[.canon [1,2,4,5,25,26,27]]|100012=>[.canon [1,2,4,5,6,25,26,27,38,39]]|_=>[],Zlx,λN=>[(27,Zim N),(28,Zoa N),(29,Zob N),(30,Zid N)]⟩
def Zrg(bw:Int)(iG:Int)(ki:List Km)(kj:Int)(t45:Int)(cH:Kg×List Km×List Kb)(eS:Int)(eT:Int)(eU:Int)(eV:Int)(fi:Int)(fj:Int)(fm:Int)(fo:Int)(nE:List Kb)(nF:List Int)(nG:List Kb)(nH:List Y_Root)(nI:List Kn):St:=⟨[(1,vP 0 0),(2,vP 1 0),(4,vP 2 0),(5,vI bw),(6,vI iG),(25,vV Jz ki),(26,vI kj),(27,vI iG),(38,vI (Wj (Xc ki (Xb iG) (([]:List Ka),([]:List Ky))).2)),(39,vI t45)],[(0,.box [.val Jj cH.1.1,.val Jj cH.1.2.1,.val Ja cH.1.2.2,.val Jz cH.2.1,.val Je cH.2.2]),(1,.box [.val Ja eS,.val Ja eT,.val Ja eU,.nils,.nils,.val Ja eV,.nils,.nils,.nils]),(2,.box [.val Ja fi,.val Ja fj,.val Ja fm,.own 3,.own 4,.val Ja fo,.own 5,.own 6,.own 7]),(3,.arr Jk nE),(4,.arr Ja nF),(5,.arr Jk nG),(6,.arr Jaa nH),(7,.arr Ji nI)],8⟩
def Zp4(bw:Int)(iG:Int)(ki:List Km)(kj:Int)(cH:Kg×List Km×List Kb)(eS:Int)(eT:Int)(eU:Int)(eV:Int)(rj:Int)(rk:Bool)(mM:Int)(mN:Int)(mO:Int)(mP:Int)(mQ:List Kb)(eW:List Int)(eX:List Kb)(eY:List Y_Root)(mR:List Kn):St:=⟨[(1,vP 0 0),(2,vP 1 0),(4,vP 2 0),(5,vI bw),(6,vI iG),(25,vV Jz ki),(26,vI kj),(27,vI iG),(38,vI (Wj (Xc ki (Xb iG) (([]:List Ka),([]:List Ky))).2)),(39,vI rj),(40,vB rk)],[(0,.box [.val Jj cH.1.1,.val Jj cH.1.2.1,.val Ja cH.1.2.2,.val Jz cH.2.1,.val Je cH.2.2]),(1,.box [.val Ja eS,.val Ja eT,.val Ja eU,.nils,.nils,.val Ja eV,.nils,.nils,.nils]),(2,.box [.val Ja mM,.val Ja mN,.val Ja mO,.own 3,.own 4,.val Ja mP,.own 5,.own 6,.own 7]),(3,.arr Jk mQ),(4,.arr Ja eW),(5,.arr Jk eX),(6,.arr Jaa eY),(7,.arr Ji mR)],8⟩
theorem Zrh(N:Nat){R:Type}(K:Ex->St->Option R){bw:Int}{iG:Int}{ki:List Km}{kj:Int}{cH:Kg×List Km×List Kb}{eS:Int}{eT:Int}{eU:Int}{eV:Int}{K0:Int->Bool->Int->Int->Int->Int->Kr->Kj->Kr->(List Y_Root)->Kaa->Option R}(h0:K0= λrj rk mM mN mO mP mQ eW eX eY mR=>K (.exit 4) (Zp4 bw iG ki kj cH eS eT eU eV rj rk mM mN mO mP mQ eW eX eY mR))(n:Nat)(t45:Int)(fi:Int)(fj:Int)(fm:Int)(fo:Int)(nE:List Kb)(nF:List Int)(nG:List Kb)(nH:List Y_Root)(nI:List Kn):Zcc N bw iG ki kj cH eS eT eU eV K0 n t45 fi fj fm fo nE nF nG nH nI=LM Zb8 N 2 100012 n (Zrg bw iG ki kj t45 cH eS eT eU eV fi fj fm fo nE nF nG nH nI) K:=by
  subst h0
  induction n generalizing t45 fi fj fm fo nE nF nG nH nI with
  |zero=>kernel_rfl
  |succ n ih=>rw[Zcc];simp only[ih];kernel_rfl
def Zri(bf:Int)(gV:List Km)(eZ:Int)(dA:Kg×List Km×List Kb)(lQ:Int)(fF:Int)(fG:Int)(fH:Int)(km:Int)(nJ:Int)(nK:Int)(kh:Int)(cW:List Kb)(kn:List Int)(kg:List Kb)(nL:List Y_Root)(ko:List Kn):St:=⟨[(1,vP 0 0),(2,vP 1 0),(4,vP 2 0),(5,vI bf),(25,vV Jz gV),(26,vI (Wj dA.2.1)),(27,vI eZ)],[(0,.box [.val Jj dA.1.1,.val Jj dA.1.2.1,.val Ja dA.1.2.2,.val Jz dA.2.1,.val Je dA.2.2]),(1,.box [.val Ja lQ,.val Ja fF,.val Ja fG,.nils,.nils,.val Ja fH,.nils,.nils,.nils]),(2,.box [.val Ja km,.val Ja nJ,.val Ja nK,.own 3,.own 4,.val Ja kh,.own 5,.own 6,.own 7]),(3,.arr Jk cW),(4,.arr Ja kn),(5,.arr Jk kg),(6,.arr Jaa nL),(7,.arr Ji ko)],8⟩
def Zp5(bf:Int)(gV:List Km)(dA:Kg×List Km×List Kb)(lQ:Int)(fF:Int)(fG:Int)(fH:Int)(wF:Int)(wG:Bool)(wH:Int)(pZ:Int)(p9:Int)(qa:Int)(qb:List Kb)(qc:List Int)(qd:List Kb)(qe:List Y_Root)(qf:List Kn):St:=⟨[(1,vP 0 0),(2,vP 1 0),(4,vP 2 0),(5,vI bf),(25,vV Jz gV),(26,vI (Wj dA.2.1)),(27,vI wF),(28,vB wG)],[(0,.box [.val Jj dA.1.1,.val Jj dA.1.2.1,.val Ja dA.1.2.2,.val Jz dA.2.1,.val Je dA.2.2]),(1,.box [.val Ja lQ,.val Ja fF,.val Ja fG,.nils,.nils,.val Ja fH,.nils,.nils,.nils]),(2,.box [.val Ja wH,.val Ja pZ,.val Ja p9,.own 3,.own 4,.val Ja qa,.own 5,.own 6,.own 7]),(3,.arr Jk qb),(4,.arr Ja qc),(5,.arr Jk qd),(6,.arr Jaa qe),(7,.arr Ji qf)],8⟩
theorem Zrj(N:Nat){R:Type}(K:Ex->St->Option R){bf:Int}{gV:List Km}{dA:Kg×List Km×List Kb}{lQ:Int}{fF:Int}{fG:Int}{fH:Int}{K0:Int->Bool->Int->Int->Int->Int->Kr->Kj->Kr->(List Y_Root)->Kaa->Option R}(h0:K0= λwF wG wH pZ p9 qa qb qc qd qe qf=>K (.exit 2) (Zp5 bf gV dA lQ fF fG fH wF wG wH pZ p9 qa qb qc qd qe qf))(n:Nat)(eZ:Int)(km:Int)(nJ:Int)(nK:Int)(kh:Int)(cW:List Kb)(kn:List Int)(kg:List Kb)(nL:List Y_Root)(ko:List Kn):Zbo N bf gV dA lQ fF fG fH K0 n eZ km nJ nK kh cW kn kg nL ko=LM Zb8 N 1 100008 n (Zri bf gV eZ dA lQ fF fG fH km nJ nK kh cW kn kg nL ko) K:=by
  subst h0
  induction n generalizing eZ km nJ nK kh cW kn kg nL ko with
  |zero=>kernel_rfl
  |succ n ih=>rw[Zbo];simp(disch:=exact id (by kernel_rfl)) only[ih,Zrh N (CL Zb8 N 1 100008 [1,1,0,0,1,1,1,0] n K)];kernel_rfl
def Zrk(bh:Int)(b5:Kg×List Km×List Kb)(aN:Int)(bA:Int)(cn:Int)(bO:Int)(aU:List Kb)(bm:List Int)(cM:List Kb)(dc:List Y_Root)(ck:List Kn):St:=⟨[(1,vP 0 0),(2,vP 1 0),(4,vP 2 0),(5,vI bh)],[(0,.box [.val Jj b5.1.1,.val Jj b5.1.2.1,.val Ja b5.1.2.2,.val Jz b5.2.1,.val Je b5.2.2]),(1,.box [.val Ja (0:Int),.val Ja (0:Int),.val Ja (0:Int),.nils,.nils,.val Ja (0:Int),.nils,.nils,.nils]),(2,.box [.val Ja aN,.val Ja bA,.val Ja cn,.own 3,.own 4,.val Ja bO,.own 5,.own 6,.own 7]),(3,.arr Jk aU),(4,.arr Ja bm),(5,.arr Jk cM),(6,.arr Jaa dc),(7,.arr Ji ck)],8⟩
def Zp6(b5:Kg×List Km×List Kb)(dJ:Int)(qg:Bool)(qh:Int)(qi:Int)(qj:Int)(qk:Int)(ql:List Kb)(qm:List Int)(qn:List Kb)(qo:List Y_Root)(qp:List Kn):St:=⟨[(1,vP 0 0),(2,vP 1 0),(4,vP 2 0),(5,vI dJ),(21,vB qg)],[(0,.box [.val Jj b5.1.1,.val Jj b5.1.2.1,.val Ja b5.1.2.2,.val Jz b5.2.1,.val Je b5.2.2]),(1,.box [.val Ja (0:Int),.val Ja (0:Int),.val Ja (0:Int),.nils,.nils,.val Ja (0:Int),.nils,.nils,.nils]),(2,.box [.val Ja qh,.val Ja qi,.val Ja qj,.own 3,.own 4,.val Ja qk,.own 5,.own 6,.own 7]),(3,.arr Jk ql),(4,.arr Ja qm),(5,.arr Jk qn),(6,.arr Jaa qo),(7,.arr Ji qp)],8⟩
theorem Zrl(N:Nat){R:Type}(K:Ex->St->Option R){b5:Kg×List Km×List Kb}{K0:Int->Bool->Int->Int->Int->Int->Kr->Kj->Kr->(List Y_Root)->Kaa->Option R}(h0:K0= λdJ qg qh qi qj qk ql qm qn qo qp=>K (.exit 0) (Zp6 b5 dJ qg qh qi qj qk ql qm qn qo qp))(n:Nat)(bh:Int)(aN:Int)(bA:Int)(cn:Int)(bO:Int)(aU:List Kb)(bm:List Int)(cM:List Kb)(dc:List Y_Root)(ck:List Kn):Zbp N b5 K0 n bh aN bA cn bO aU bm cM dc ck=LM Zb8 N 0 100005 n (Zrk bh b5 aN bA cn bO aU bm cM dc ck) K:=by
  subst h0
  induction n generalizing bh aN bA cn bO aU bm cM dc ck with
  |zero=>kernel_rfl
  |succ n ih=>rw[Zbp];simp(disch:=exact id (by kernel_rfl)) only[ih,Zrj N (CL Zb8 N 0 100005 [1,0,1,1,0] n K)];kernel_rfl
theorem Zw9(N:Nat)(s1:Kg×List Km×List Kb):DN Zb8 N (s1,())=Zce N s1:=by
  conv=>rhs;rw[Zce];simp(disch:=exact id (by kernel_rfl)) only[Zrl (R:=Unit×(Y_World×Kh)) N (CF Zb8 N [1,1,1,1,0,0])]
  kernel_rfl
theorem Zxa(N:Nat):GW 9 (Zlx N):=GF Zb8 N Tryz.func9 (GC (Zoe N) (GC (Z0l N) (GC (Z0n N) (GC (Zn2 N) Wi)))) (λd=>Zw9 N d.1)
def Zng(N:Nat):Sig:=Sig.of [.v Jt true] [.v Jab false] (λd=>Zdk N d.1)
def Zkw:Fn:=⟨Tryz.f14,λ |5=>[.canon [3,11,12,13,14]]|6=>[.canon [3,5,11,12,13]]|7=>[.canon [3,11,12,13]]|8=>[.canon [3,11,12,13]]|100005=>[.canon [3,11,12,13]]|_=>[],Zng,λN=>[(39,Zcv N)]⟩
def Zu0(t3:List Kb)(t4:Int)(t5:Int)(l6:List Int):St:=⟨[(3,vO 0),(11,vV Je t3),(12,vI t4),(13,vI t5)],[(0,.arr Ja l6)],1⟩
def Zta(t3:List Kb)(t4:Int)(t7:Int)(t8:Bool)(l9:List Int):St:=⟨[(3,vO 0),(11,vV Je t3),(12,vI t4),(13,vI t7),(14,vB t8)],[(0,.arr Ja l9)],1⟩
theorem Zu1(N:Nat){R:Type}(K:Ex->St->Option R){t3:List Kb}{t4:Int}{K0:Int->Bool->Kj->Option R}(h0:K0= λt7 t8 l9=>K (.exit 0) (Zta t3 t4 t7 t8 l9))(n:Nat)(t5:Int)(l6:List Int):Zc3 N t3 t4 K0 n t5 l6=LM Zkw N 0 100005 n (Zu0 t3 t4 t5 l6) K:=by
  subst h0
  induction n generalizing t5 l6 with
  |zero=>kernel_rfl
  |succ n ih=>rw[Zc3];simp only[ih];kernel_rfl
theorem Zzl(N:Nat)(m1:Int×List Kb):DN Zkw N (m1,())=Zdk N m1:=by
  conv=>rhs;rw[Zdk];simp(disch:=exact id (by kernel_rfl)) only[Zu1 (R:=Unit×Ku) N (CF Zkw N [1,1,1,0,1,0])]
  kernel_rfl
theorem Zzm(N:Nat):GW 14 (Zng N):=GF Zkw N Tryz.func14 (GC (Zft N) Wi) (λd=>Zzl N d.1)
def Zmu(N:Nat):Sig:=Sig.of [.v Jl false] [.v Jp false] (λd=>Zcd N d.1)
def Zgf:Fn:=⟨Tryz.f5,λ |9=>[.canon [0,3,4,5,6,28]]|10=>[.canon [0,3,4,5,6]]|11=>[.canon [0,3,4,5,6,7]]|12=>[.canon [0,3,4,5,6,7]]|13=>[.canon [0,3,4,5,6]]|100009=>[.adoptC 4 1 Jc,.canon [0,3,4,5,6]]|_=>[],Zmu,λN=>[(6,Zop N),(21,Zlq N),(8,Zls N),(22,Zpr N),(23,Zlt N),(9,Zlx N),(14,Zng N)]⟩
def Zon(cY:List Int)(dQ:Int)(i7:Int)(b8:Kg×List Km×List Kb)(eI:List Ky):St:=⟨[(0,vV Jl cY),(3,vP 0 0),(4,vP 1 0),(5,vI dQ),(6,vI i7)],[(0,.box [.val Jj b8.1.1,.val Jj b8.1.2.1,.val Ja b8.1.2.2,.val Jz b8.2.1,.val Je b8.2.2]),(1,.box [.own 2,.own 3]),(2,.arr Jw ([((11:Int),((0:Int),((0:Int),(0:Int))))])),(3,.arr Jc eI)],4⟩
def Zoc(cY:List Int)(b8:Kg×List Km×List Kb)(iJ:Int)(pX:Int)(bM:Bool)(cM:List Ky):St:=⟨[(0,vV Jl cY),(3,vP 0 0),(4,vP 1 0),(5,vI iJ),(6,vI pX),(28,vB bM)],[(0,.box [.val Jj b8.1.1,.val Jj b8.1.2.1,.val Ja b8.1.2.2,.val Jz b8.2.1,.val Je b8.2.2]),(1,.box [.own 2,.own 3]),(2,.arr Jw ([((11:Int),((0:Int),((0:Int),(0:Int))))])),(3,.arr Jc cM)],4⟩
theorem Zoo(N:Nat){R:Type}(K:Ex->St->Option R){cY:List Int}{b8:Kg×List Km×List Kb}{K0:Int->Int->Bool->Kx->Option R}(h0:K0= λiJ pX bM cM=>K (.exit 0) (Zoc cY b8 iJ pX bM cM))(n:Nat)(dQ:Int)(i7:Int)(eI:List Ky):Zas N cY b8 K0 n dQ i7 eI=LM Zgf N 0 100009 n (Zon cY dQ i7 b8 eI) K:=by
  subst h0
  induction n generalizing dQ i7 eI with
  |zero=>kernel_rfl
  |succ n ih=>rw[Zas];simp only[ih];kernel_rfl
theorem Zrm(N:Nat)(ac:List Int):DN Zgf N (ac,())=Zcd N ac:=by
  conv=>rhs;rw[Zcd];simp(disch:=exact id (by kernel_rfl)) only[Zoo (R:=Unit×Ko) N (CF Zgf N [1,1,1,1,1,1,0,1,0])]
  kernel_rfl
set_option maxRecDepth 100000 in theorem Zrn (N:Nat):GW 5 (Zmu N):=GF Zgf N Tryz.func5 (GC (Z0p N) (GC (Zwi N) (GC (Zwm N) (GC (Z0s N) (GC (Zwo N) (GC (Zxa N) (GC (Zzm N) Wi))))))) (λ d=>Zrm N d.1)
end
end Go.Sx
