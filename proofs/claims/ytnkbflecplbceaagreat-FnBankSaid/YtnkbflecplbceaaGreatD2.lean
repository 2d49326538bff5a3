/- Each Go function does what its Lean function says. -/
import Derived.Test.YtnkbflecplbceaaGreatD
open List renaming getD→Xc
open Int renaming toNat→Xb
namespace Go.Sx
noncomputable section
open Go.Proofs
set_option linter.unusedVariables false
set_option linter.unusedSimpArgs false
theorem Zog(N:Nat){R:Type}(K:Ex->St->Option R){k4:Int}{t5:Int}{b7:Int}{b8:Int}{b9:Int}{aQ:Bool}{bc:Int}{cp:Int}{bM:Int}{dA:Int}{cQ:Int}{ba:Int}{it:Bool}{da:Int}{dE:Int}{dB:Int}{iu:Int}{bV:List Kc}{cJ:List Int}{db:List Kc}{iv:List Int}{dy:List Kc}{fM:List Y_KidRun}{iw:Nat}{fN:List Int}{fO:List Kb}{fR:List Kc}{cW:List Kk}{K0:Int->Bool->Kr->Option R}(h0:K0= λwh pd ki=>K (.exit 0) (Zn5 k4 t5 b7 b8 b9 aQ bc cp bM dA cQ ba it da dE dB iu bV cJ db iv dy fM iw fN fO fR cW wh pd ki))(n:Nat)(t6:Int)(gW:List Kb):Zaw N k4 t5 b7 b8 b9 aQ bc cp bM dA cQ ba it da dE dB iu bV cJ db iv dy fM iw fN fO fR cW K0 n t6 gW=LM Zcj N 0 100003 n (Zof k4 t5 t6 b7 b8 b9 aQ bc cp bM dA cQ ba it da dE dB iu bV cJ db gW iv dy fM iw fN fO fR cW) K:=by
  subst h0
  induction n generalizing t6 gW with
  |zero=>kernel_rfl
  |succ n ih=>rw[Zaw];simp only[ih];kernel_rfl
def Zoh(jN:Int)(jO:Int)(t45:Int)(cE:Int)(eO:Int)(eQ:Int)(eS:Bool)(eT:Int)(ff:Int)(fg:Int)(fh:Int)(fi:Int)(jP:Int)(jQ:Bool)(jR:Int)(jS:Int)(jT:Int)(jU:Int)(dc:List Kb)(jV:List Int)(jW:List Kc)(jX:List Kb)(jY:List Int)(lF:List Kc)(jZ:List Y_KidRun)(j8:Nat)(eU:List Int)(eV:List Kc)(eW:List Kk):St:=⟨[(0,vP 0 0),(1,vI jN),(4,vP 1 0),(75,vO 2),(76,vI jO),(77,vI t45)],[(0,.box [.val Ja cE,.val Ja eO,.val Ja eQ,.val Jp eS,.own 3,.own 4,.own 5,.own 6,.own 7,.own 8]),(1,.box [.val Ja eT,.val Ja ff,.val Ja fg,.val Ja fh,.val Ja fi,.val Ja jP,.own 9,.own 2,.own 10,.own 11,.val Jp jQ,.val Ja jR,.val Ja jS,.val Ja jT,.val Ja jU]),(2,.arr Jk dc),(3,.arr Ja jV),(4,.arr Jw jW),(5,.arr Jk jX),(6,.arr Ja jY),(7,.arr Jw lF),(8,.hole Jh jZ j8 1),(9,.arr Ja eU),(10,.arr Jw eV),(11,.arr Js eW)],12⟩
def Zn6(jN:Int)(jO:Int)(cE:Int)(eO:Int)(eQ:Int)(eS:Bool)(eT:Int)(ff:Int)(fg:Int)(fh:Int)(fi:Int)(jP:Int)(jQ:Bool)(jR:Int)(jS:Int)(jT:Int)(jU:Int)(dc:List Kb)(jV:List Int)(jW:List Kc)(jX:List Kb)(jY:List Int)(jZ:List Y_KidRun)(j8:Nat)(eU:List Int)(eV:List Kc)(eW:List Kk)(wj:Int)(wm:Bool)(wn:List Kc):St:=⟨[(0,vP 0 0),(1,vI jN),(4,vP 1 0),(75,vO 2),(76,vI jO),(77,vI wj),(78,vB wm)],[(0,.box [.val Ja cE,.val Ja eO,.val Ja eQ,.val Jp eS,.own 3,.own 4,.own 5,.own 6,.own 7,.own 8]),(1,.box [.val Ja eT,.val Ja ff,.val Ja fg,.val Ja fh,.val Ja fi,.val Ja jP,.own 9,.own 2,.own 10,.own 11,.val Jp jQ,.val Ja jR,.val Ja jS,.val Ja jT,.val Ja jU]),(2,.arr Jk dc),(3,.arr Ja jV),(4,.arr Jw jW),(5,.arr Jk jX),(6,.arr Ja jY),(7,.arr Jw wn),(8,.hole Jh jZ j8 1),(9,.arr Ja eU),(10,.arr Jw eV),(11,.arr Js eW)],12⟩
theorem Zoi(N:Nat){R:Type}(K:Ex->St->Option R){jN:Int}{jO:Int}{cE:Int}{eO:Int}{eQ:Int}{eS:Bool}{eT:Int}{ff:Int}{fg:Int}{fh:Int}{fi:Int}{jP:Int}{jQ:Bool}{jR:Int}{jS:Int}{jT:Int}{jU:Int}{dc:List Kb}{jV:List Int}{jW:List Kc}{jX:List Kb}{jY:List Int}{jZ:List Y_KidRun}{j8:Nat}{eU:List Int}{eV:List Kc}{eW:List Kk}{K0:Int->Bool->Kw->Option R}(h0:K0= λwj wm wn=>K (.exit 2) (Zn6 jN jO cE eO eQ eS eT ff fg fh fi jP jQ jR jS jT jU dc jV jW jX jY jZ j8 eU eV eW wj wm wn))(n:Nat)(t45:Int)(lF:List Kc):Za6 N jN jO cE eO eQ eS eT ff fg fh fi jP jQ jR jS jT jU dc jV jW jX jY jZ j8 eU eV eW K0 n t45 lF=LM Zcj N 1 100013 n (Zoh jN jO t45 cE eO eQ eS eT ff fg fh fi jP jQ jR jS jT jU dc jV jW jX jY lF jZ j8 eU eV eW) K:=by
  subst h0
  induction n generalizing t45 lF with
  |zero=>kernel_rfl
  |succ n ih=>rw[Za6];simp only[ih];kernel_rfl
theorem Zq9(N:Nat)(f1:Y_Family)(k2:Int):DN Zcj N (f1,k2,())=Zdf N f1 k2:=by
  conv=>rhs;rw[Zdf];simp(disch:=exact id (by kernel_rfl)) only[Zog (R:=(Y_Family×Unit)×Unit) N (CF Zcj N [1,1,0,1,0]),Zoi (R:=(Y_Family×Unit)×Unit) N (CF Zcj N [1,1,1,1,0,1,0])]
  kernel_rfl
theorem Zra(N:Nat):GW 121 (Zi3 N):=GF Zcj N Tryz.func121 (GC (Zm7 N) (GC (Zi1 N) (GC (Zdu N) Wa))) (λd=>Zq9 N d.1 d.2.1)
def Zjt(N:Nat):Sig:=Sig.of [.box Jz,.v Ja false,.v Jc false,.v Jt true] [] (λd=>Zhw N d.1 d.2.1 d.2.2.1 d.2.2.2.1)
def Zs1:Fn:=⟨Tryz.f74,λ |2=>[.opn 20]|_=>[],Zjt,λN=>[(120,Zj9 N),(121,Zi3 N),(122,Zej N),(123,Zfj N)]⟩
theorem Zs2(N:Nat):GW 74 (Zjt N):=GF Zs1 N Tryz.func74 (GC (Zus N) (GC (Zra N) (GC (Zi1 N) (GC (Zlo N) Wa))))
def Zic(N:Nat):Sig:=Sig.of [.box Ju,.v Jaf true,.v Jk true] [] (λd=>Zfs N d.1 d.2.1 d.2.2.1)
def Zv7:Fn:=⟨Tryz.f36,λ |3=>[.unfE 6]|_=>[],Zic,λN=>[(44,Z3 N),(73,Zj8 N),(74,Zjt N)]⟩
theorem Znz(N:Nat):GW 36 (Zic N):=GF Zv7 N Tryz.func36 (GC (Zab N) (GC (Zuq N) (GC (Zs2 N) Wa)))
def Zn7(N:Nat):Sig:=Sig.of [.v Jaf true] [.v Ju true] (λd=>Zj0 N d.1)
def Zl8:Fn:=⟨Tryz.f18,λ |3=>[.nest 21 Jab]|6=>[.canon [1,2,3,32,33,34,35]]|7=>[.canon [1,2,3,5,32,33,34]]|8=>[.canon [1,2,3,32,33,34]]|9=>[.canon [1,2,3,32,33,34]]|100006=>[.adoptC 3 6 Jk,.adoptC 3 8 Ji,.canon [1,2,3,32,33,34]]|_=>[],Zn7,λN=>[(35,Zil N),(45,Zk2 N),(46,Zm5 N),(36,Zic N)]⟩
def Zw0(t5:List Kb)(t7:Int)(b8:Kg×List Km×List Kb)(bM:Int)(dA:Int)(cQ:Int)(ba:Int)(de:List Kb)(ck:List Int)(c9:List Kb)(eN:List Y_Root)(cV:List Kn):St:=⟨[(1,vP 0 0),(2,vP 1 0),(3,vP 2 0),(32,vV Je t5),(33,vI (Wb b8.2.2)),(34,vI t7)],[(0,.box [.val Jj b8.1.1,.val Jj b8.1.2.1,.val Ja b8.1.2.2,.val Jaa b8.2.1,.val Je b8.2.2]),(1,.box [.val Ja (0:Int),.val Ja (0:Int),.val Ja (0:Int),.nils,.nils,.val Ja (0:Int),.nils,.nils,.nils]),(2,.box [.val Ja bM,.val Ja dA,.val Ja cQ,.own 3,.own 4,.val Ja ba,.own 5,.own 6,.own 7]),(3,.arr Jk de),(4,.arr Ja ck),(5,.arr Jk c9),(6,.arr Jab eN),(7,.arr Ji cV)],8⟩
def Zv8(t5:List Kb)(b8:Kg×List Km×List Kb)(wo:Int)(t25:Bool)(fC:Int)(fD:Int)(fE:Int)(kg:Int)(fN:List Kb)(fO:List Int)(fR:List Kb)(cW:List Y_Root)(kh:List Kn):St:=⟨[(1,vP 0 0),(2,vP 1 0),(3,vP 2 0),(32,vV Je t5),(33,vI (Wb b8.2.2)),(34,vI wo),(35,vB t25)],[(0,.box [.val Jj b8.1.1,.val Jj b8.1.2.1,.val Ja b8.1.2.2,.val Jaa b8.2.1,.val Je b8.2.2]),(1,.box [.val Ja (0:Int),.val Ja (0:Int),.val Ja (0:Int),.nils,.nils,.val Ja (0:Int),.nils,.nils,.nils]),(2,.box [.val Ja fC,.val Ja fD,.val Ja fE,.own 3,.own 4,.val Ja kg,.own 5,.own 6,.own 7]),(3,.arr Jk fN),(4,.arr Ja fO),(5,.arr Jk fR),(6,.arr Jab cW),(7,.arr Ji kh)],8⟩
theorem Zw1(N:Nat){R:Type}(K:Ex->St->Option R){t5:List Kb}{b8:Kg×List Km×List Kb}{K0:Int->Bool->Int->Int->Int->Int->Kr->Kj->Kr->(List Y_Root)->Kz->Option R}(h0:K0= λwo t25 fC fD fE kg fN fO fR cW kh=>K (.exit 0) (Zv8 t5 b8 wo t25 fC fD fE kg fN fO fR cW kh))(n:Nat)(t7:Int)(bM:Int)(dA:Int)(cQ:Int)(ba:Int)(de:List Kb)(ck:List Int)(c9:List Kb)(eN:List Y_Root)(cV:List Kn):Zbb N t5 b8 K0 n t7 bM dA cQ ba de ck c9 eN cV=LM Zl8 N 0 100006 n (Zw0 t5 t7 b8 bM dA cQ ba de ck c9 eN cV) K:=by
  subst h0
  induction n generalizing t7 bM dA cQ ba de ck c9 eN cV with
  |zero=>kernel_rfl
  |succ n ih=>rw[Zbb];simp only[ih];kernel_rfl
theorem Z0f(N:Nat)(s1:Kg×List Km×List Kb):DN Zl8 N (s1,())=Zj0 N s1:=by
  conv=>rhs;rw[Zj0];simp(disch:=exact id (by kernel_rfl)) only[Zw1 (R:=Unit×(Y_World×Unit)) N (CF Zl8 N [1,1,1,1,0,1,0])]
  kernel_rfl
theorem Z0g(N:Nat):GW 18 (Zn7 N):=GF Zl8 N Tryz.func18 (GC (Zoa N) (GC (Zvk N) (GC (Zy1 N) (GC (Znz N) Wa)))) (λd=>Z0f N d.1)
def Znd(N:Nat):Sig:=Sig.of [.v (TY_Root) true] [.v Jp false] (λd=>Zn0 N d.1)
def Zzc:Fn:=⟨Tryz.f38,WF,Znd,Wbh⟩
theorem Zzd(N:Nat):GW 38 (Znd N):=GF Zzc N Tryz.func38 Wa
def Za1(N:Nat):Sig:=Sig.of [.v (.slice (TY_Root)) false,.clos 38 0] [.v Ja false] (λd=>Z1 N d.1)
def Zac:Fn:=⟨Tryz.f75,λ |2=>[.canon [0,1,7,8,9]]|3=>[.canon [0,1,5,7,8]]|4=>[.canon [0,1,5,7,8,16]]|5=>[.canon [1,4]]|6=>[.canon [0,1,7,8]]|100002=>[.canon [0,1,7,8]]|_=>[],Za1,λN=>[(38,Znd N)]⟩
def Ze0(s2:List Y_Root)(t4:Int):St:=⟨[(0,vV (.slice (TY_Root)) s2),(1,.s (.one (.clos 38 []))),(7,vI (Wb s2)),(8,vI t4)],[],0⟩
def Zeo(s2:List Y_Root)(t7:Int):St:=⟨[(1,.s (.one (.clos 38 []))),(4,vI t7)],[],0⟩
def Zep(s2:List Y_Root)(t8:Int)(t9:Bool):St:=⟨[(0,vV (.slice (TY_Root)) s2),(1,.s (.one (.clos 38 []))),(7,vI (Wb s2)),(8,vI t8),(9,vB t9)],[],0⟩
theorem Ze1(N:Nat){R:Type}(K:Ex->St->Option R){s2:List Y_Root}{K0:Int->Option R}{K1:Int->Bool->Option R}(h0:K0= λt7=>K .ret (Zeo s2 t7))(h1:K1= λt8 t9=>K (.exit 0) (Zep s2 t8 t9))(n:Nat)(t4:Int):Zk N s2 K0 K1 n t4=LM Zac N 0 100002 n (Ze0 s2 t4) K:=by
  subst h0 h1
  induction n generalizing t4 with
  |zero=>kernel_rfl
  |succ n ih=>rw[Zk];simp only[ih];kernel_rfl
theorem Zfw(N:Nat)(s1:List Y_Root):DN Zac N (s1,())=Z1 N s1:=by
  conv=>rhs;rw[Z1];simp(disch:=exact id (by kernel_rfl)) only[Ze1 (R:=Unit×Kh) N (CF Zac N [1,0,1,0])]
  kernel_rfl
theorem Zfx(N:Nat):GW 75 (Za1 N):=GF Zac N Tryz.func75 (GC (Zzd N) Wa) (λd=>Zfw N d.1)
def Zas(N:Nat):Sig:=Sig.of [.v (.slice (TY_Root)) false,.clos 38 0] [.v Jp false] (λd=>Zax N d.1)
def Zfd:Fn:=⟨Tryz.f37,WF,Zas,λN=>[(75,Za1 N)]⟩
theorem Zfe(N:Nat):GW 37 (Zas N):=GF Zfd N Tryz.func37 (GC (Zfx N) Wa)
def Zn8(N:Nat):Sig:=Sig.of [.v (TY_World) true] [.v Jp false] (λd=>Znt N d.1)
def Z0h:Fn:=⟨Tryz.f13,WF,Zn8,λN=>[(37,Zas N)]⟩
theorem Z0i(N:Nat):GW 13 (Zn8 N):=GF Z0h N Tryz.func13 (GC (Zfe N) Wa)
def Zlw(N:Nat):Sig:=Sig.of [.v Jaf true] [.v (TY_World) true,.v Ja false] (λd=>Zbo N d.1)
def Zcd:Fn:=⟨Tryz.f11,λ |5=>[.canon [1,2,4,5,21]]|6=>[.canon [1,2,4,5]]|7=>[.canon [1,2,4,5,25,26,27]]|8=>[.canon [1,2,4,5,25,26,27,28]]|9=>[.canon [1,2,4,5,6,7,25,26,27]]|10=>[.canon [1,2,4,5,6,7,25,26,27]]|11=>[.canon [1,2,4,5,6,25,26,27,38,39]]|12=>[.canon [1,2,4,5,6,25,26,27,38,39,40]]|13=>[.canon [1,2,4,5,6,8,25,26,27,38,39]]|14=>[.canon [1,2,4,5,6,25,26,27,38,39]]|15=>[.canon [1,2,4,5,6,25,26,27,38,39]]|16=>[.canon [1,2,4,5,25,26,27]]|100005=>[.canon [1,2,4,5]]|100008=>[.canon [1,2,4,5,25,26,27]]|100012=>[.canon [1,2,4,5,6,25,26,27,38,39]]|_=>[],Zlw,λN=>[(35,Zil N),(18,Zn7 N),(13,Zn8 N),(36,Zic N)]⟩
def Zrb(bu:Int)(iD:Int)(kd:List Km)(ke:Int)(t45:Int)(cE:Kg×List Km×List Kb)(eO:Int)(eQ:Int)(eS:Int)(eT:Int)(ff:Int)(fg:Int)(fh:Int)(fi:Int)(nq:List Kb)(nr:List Int)(nv:List Kb)(ny:List Y_Root)(nz:List Kn):St:=⟨[(1,vP 0 0),(2,vP 1 0),(4,vP 2 0),(5,vI bu),(6,vI iD),(25,vV Jaa kd),(26,vI ke),(27,vI iD),(38,vI (Wb (Xc kd (Xb iD) (([]:List Ka),([]:List Kx))).2)),(39,vI t45)],[(0,.box [.val Jj cE.1.1,.val Jj cE.1.2.1,.val Ja cE.1.2.2,.val Jaa cE.2.1,.val Je cE.2.2]),(1,.box [.val Ja eO,.val Ja eQ,.val Ja eS,.nils,.nils,.val Ja eT,.nils,.nils,.nils]),(2,.box [.val Ja ff,.val Ja fg,.val Ja fh,.own 3,.own 4,.val Ja fi,.own 5,.own 6,.own 7]),(3,.arr Jk nq),(4,.arr Ja nr),(5,.arr Jk nv),(6,.arr Jab ny),(7,.arr Ji nz)],8⟩
def Zpz(bu:Int)(iD:Int)(kd:List Km)(ke:Int)(cE:Kg×List Km×List Kb)(eO:Int)(eQ:Int)(eS:Int)(eT:Int)(qZ:Int)(q7:Bool)(mz:Int)(mA:Int)(mB:Int)(mC:Int)(mD:List Kb)(eU:List Int)(eV:List Kb)(eW:List Y_Root)(mE:List Kn):St:=⟨[(1,vP 0 0),(2,vP 1 0),(4,vP 2 0),(5,vI bu),(6,vI iD),(25,vV Jaa kd),(26,vI ke),(27,vI iD),(38,vI (Wb (Xc kd (Xb iD) (([]:List Ka),([]:List Kx))).2)),(39,vI qZ),(40,vB q7)],[(0,.box [.val Jj cE.1.1,.val Jj cE.1.2.1,.val Ja cE.1.2.2,.val Jaa cE.2.1,.val Je cE.2.2]),(1,.box [.val Ja eO,.val Ja eQ,.val Ja eS,.nils,.nils,.val Ja eT,.nils,.nils,.nils]),(2,.box [.val Ja mz,.val Ja mA,.val Ja mB,.own 3,.own 4,.val Ja mC,.own 5,.own 6,.own 7]),(3,.arr Jk mD),(4,.arr Ja eU),(5,.arr Jk eV),(6,.arr Jab eW),(7,.arr Ji mE)],8⟩
theorem Zrc(N:Nat){R:Type}(K:Ex->St->Option R){bu:Int}{iD:Int}{kd:List Km}{ke:Int}{cE:Kg×List Km×List Kb}{eO:Int}{eQ:Int}{eS:Int}{eT:Int}{K0:Int->Bool->Int->Int->Int->Int->Kr->Kj->Kr->(List Y_Root)->Kz->Option R}(h0:K0= λqZ q7 mz mA mB mC mD eU eV eW mE=>K (.exit 4) (Zpz bu iD kd ke cE eO eQ eS eT qZ q7 mz mA mB mC mD eU eV eW mE))(n:Nat)(t45:Int)(ff:Int)(fg:Int)(fh:Int)(fi:Int)(nq:List Kb)(nr:List Int)(nv:List Kb)(ny:List Y_Root)(nz:List Kn):Zch N bu iD kd ke cE eO eQ eS eT K0 n t45 ff fg fh fi nq nr nv ny nz=LM Zcd N 2 100012 n (Zrb bu iD kd ke t45 cE eO eQ eS eT ff fg fh fi nq nr nv ny nz) K:=by
  subst h0
  induction n generalizing t45 ff fg fh fi nq nr nv ny nz with
  |zero=>kernel_rfl
  |succ n ih=>rw[Zch];simp only[ih];kernel_rfl
def Zrd(bg:Int)(gU:List Km)(eX:Int)(dC:Kg×List Km×List Kb)(lJ:Int)(fC:Int)(fD:Int)(fE:Int)(kg:Int)(nA:Int)(nB:Int)(kc:Int)(cW:List Kb)(kh:List Int)(kb:List Kb)(nC:List Y_Root)(ki:List Kn):St:=⟨[(1,vP 0 0),(2,vP 1 0),(4,vP 2 0),(5,vI bg),(25,vV Jaa gU),(26,vI (Wb dC.2.1)),(27,vI eX)],[(0,.box [.val Jj dC.1.1,.val Jj dC.1.2.1,.val Ja dC.1.2.2,.val Jaa dC.2.1,.val Je dC.2.2]),(1,.box [.val Ja lJ,.val Ja fC,.val Ja fD,.nils,.nils,.val Ja fE,.nils,.nils,.nils]),(2,.box [.val Ja kg,.val Ja nA,.val Ja nB,.own 3,.own 4,.val Ja kc,.own 5,.own 6,.own 7]),(3,.arr Jk cW),(4,.arr Ja kh),(5,.arr Jk kb),(6,.arr Jab nC),(7,.arr Ji ki)],8⟩
def Zp0(bg:Int)(gU:List Km)(dC:Kg×List Km×List Kb)(lJ:Int)(fC:Int)(fD:Int)(fE:Int)(wq:Int)(ws:Bool)(wu:Int)(pV:Int)(pW:Int)(pX:Int)(pY:List Kb)(pZ:List Int)(p9:List Kb)(qa:List Y_Root)(qb:List Kn):St:=⟨[(1,vP 0 0),(2,vP 1 0),(4,vP 2 0),(5,vI bg),(25,vV Jaa gU),(26,vI (Wb dC.2.1)),(27,vI wq),(28,vB ws)],[(0,.box [.val Jj dC.1.1,.val Jj dC.1.2.1,.val Ja dC.1.2.2,.val Jaa dC.2.1,.val Je dC.2.2]),(1,.box [.val Ja lJ,.val Ja fC,.val Ja fD,.nils,.nils,.val Ja fE,.nils,.nils,.nils]),(2,.box [.val Ja wu,.val Ja pV,.val Ja pW,.own 3,.own 4,.val Ja pX,.own 5,.own 6,.own 7]),(3,.arr Jk pY),(4,.arr Ja pZ),(5,.arr Jk p9),(6,.arr Jab qa),(7,.arr Ji qb)],8⟩
theorem Zre(N:Nat){R:Type}(K:Ex->St->Option R){bg:Int}{gU:List Km}{dC:Kg×List Km×List Kb}{lJ:Int}{fC:Int}{fD:Int}{fE:Int}{K0:Int->Bool->Int->Int->Int->Int->Kr->Kj->Kr->(List Y_Root)->Kz->Option R}(h0:K0= λwq ws wu pV pW pX pY pZ p9 qa qb=>K (.exit 2) (Zp0 bg gU dC lJ fC fD fE wq ws wu pV pW pX pY pZ p9 qa qb))(n:Nat)(eX:Int)(kg:Int)(nA:Int)(nB:Int)(kc:Int)(cW:List Kb)(kh:List Int)(kb:List Kb)(nC:List Y_Root)(ki:List Kn):Zbv N bg gU dC lJ fC fD fE K0 n eX kg nA nB kc cW kh kb nC ki=LM Zcd N 1 100008 n (Zrd bg gU eX dC lJ fC fD fE kg nA nB kc cW kh kb nC ki) K:=by
  subst h0
  induction n generalizing eX kg nA nB kc cW kh kb nC ki with
  |zero=>kernel_rfl
  |succ n ih=>rw[Zbv];simp(disch:=exact id (by kernel_rfl)) only[ih,Zrc N (CL Zcd N 1 100008 [1,1,0,0,1,1,1,0] n K)];kernel_rfl
def Zrf(bi:Int)(b5:Kg×List Km×List Kb)(aQ:Int)(bc:Int)(cp:Int)(bM:Int)(aW:List Kb)(bk:List Int)(df:List Kb)(de:List Y_Root)(ck:List Kn):St:=⟨[(1,vP 0 0),(2,vP 1 0),(4,vP 2 0),(5,vI bi)],[(0,.box [.val Jj b5.1.1,.val Jj b5.1.2.1,.val Ja b5.1.2.2,.val Jaa b5.2.1,.val Je b5.2.2]),(1,.box [.val Ja (0:Int),.val Ja (0:Int),.val Ja (0:Int),.nils,.nils,.val Ja (0:Int),.nils,.nils,.nils]),(2,.box [.val Ja aQ,.val Ja bc,.val Ja cp,.own 3,.own 4,.val Ja bM,.own 5,.own 6,.own 7]),(3,.arr Jk aW),(4,.arr Ja bk),(5,.arr Jk df),(6,.arr Jab de),(7,.arr Ji ck)],8⟩
def Zp1(b5:Kg×List Km×List Kb)(dJ:Int)(qc:Bool)(qd:Int)(qe:Int)(qf:Int)(qg:Int)(qh:List Kb)(qi:List Int)(qj:List Kb)(qk:List Y_Root)(ql:List Kn):St:=⟨[(1,vP 0 0),(2,vP 1 0),(4,vP 2 0),(5,vI dJ),(21,vB qc)],[(0,.box [.val Jj b5.1.1,.val Jj b5.1.2.1,.val Ja b5.1.2.2,.val Jaa b5.2.1,.val Je b5.2.2]),(1,.box [.val Ja (0:Int),.val Ja (0:Int),.val Ja (0:Int),.nils,.nils,.val Ja (0:Int),.nils,.nils,.nils]),(2,.box [.val Ja qd,.val Ja qe,.val Ja qf,.own 3,.own 4,.val Ja qg,.own 5,.own 6,.own 7]),(3,.arr Jk qh),(4,.arr Ja qi),(5,.arr Jk qj),(6,.arr Jab qk),(7,.arr Ji ql)],8⟩
theorem Zrg(N:Nat){R:Type}(K:Ex->St->Option R){b5:Kg×List Km×List Kb}{K0:Int->Bool->Int->Int->Int->Int->Kr->Kj->Kr->(List Y_Root)->Kz->Option R}(h0:K0= λdJ qc qd qe qf qg qh qi qj qk ql=>K (.exit 0) (Zp1 b5 dJ qc qd qe qf qg qh qi qj qk ql))(n:Nat)(bi:Int)(aQ:Int)(bc:Int)(cp:Int)(bM:Int)(aW:List Kb)(bk:List Int)(df:List Kb)(de:List Y_Root)(ck:List Kn):Zbw N b5 K0 n bi aQ bc cp bM aW bk df de ck=LM Zcd N 0 100005 n (Zrf bi b5 aQ bc cp bM aW bk df de ck) K:=by
  subst h0
  induction n generalizing bi aQ bc cp bM aW bk df de ck with
  |zero=>kernel_rfl
  |succ n ih=>rw[Zbw];simp(disch:=exact id (by kernel_rfl)) only[ih,Zre N (CL Zcd N 0 100005 [1,0,1,1,0] n K)];kernel_rfl
theorem Zw2(N:Nat)(s1:Kg×List Km×List Kb):DN Zcd N (s1,())=Zbo N s1:=by
  conv=>rhs;rw[Zbo];simp(disch:=exact id (by kernel_rfl)) only[Zrg (R:=Unit×(Y_World×Kh)) N (CF Zcd N [1,1,1,1,0,0])]
  kernel_rfl
theorem Zw3(N:Nat):GW 11 (Zlw N):=GF Zcd N Tryz.func11 (GC (Zoa N) (GC (Z0g N) (GC (Z0i N) (GC (Znz N) Wa)))) (λd=>Zw2 N d.1)
def Zne(N:Nat):Sig:=Sig.of [.v Jt true] [.v Jac false] (λd=>Zb8 N d.1)
def Zkv:Fn:=⟨Tryz.f27,λ |5=>[.canon [3,11,12,13,14]]|6=>[.canon [3,5,11,12,13]]|7=>[.canon [3,11,12,13]]|8=>[.canon [3,11,12,13]]|100005=>[.canon [3,11,12,13]]|_=>[],Zne,λN=>[(40,Zcy N)]⟩
def Zut(t3:List Kb)(t4:Int)(t5:Int)(l6:List Int):St:=⟨[(3,vO 0),(11,vV Je t3),(12,vI t4),(13,vI t5)],[(0,.arr Ja l6)],1⟩
def Zs3(t3:List Kb)(t4:Int)(t7:Int)(t8:Bool)(l9:List Int):St:=⟨[(3,vO 0),(11,vV Je t3),(12,vI t4),(13,vI t7),(14,vB t8)],[(0,.arr Ja l9)],1⟩
theorem Zuu(N:Nat){R:Type}(K:Ex->St->Option R){t3:List Kb}{t4:Int}{K0:Int->Bool->Kj->Option R}(h0:K0= λt7 t8 l9=>K (.exit 0) (Zs3 t3 t4 t7 t8 l9))(n:Nat)(t5:Int)(l6:List Int):Zc6 N t3 t4 K0 n t5 l6=LM Zkv N 0 100005 n (Zut t3 t4 t5 l6) K:=by
  subst h0
  induction n generalizing t5 l6 with
  |zero=>kernel_rfl
  |succ n ih=>rw[Zc6];simp only[ih];kernel_rfl
theorem Zze(N:Nat)(m1:Int×List Kb):DN Zkv N (m1,())=Zb8 N m1:=by
  conv=>rhs;rw[Zb8];simp(disch:=exact id (by kernel_rfl)) only[Zuu (R:=Unit×Ku) N (CF Zkv N [1,1,1,0,1,0])]
  kernel_rfl
theorem Zzf(N:Nat):GW 27 (Zne N):=GF Zkv N Tryz.func27 (GC (Zfv N) Wa) (λd=>Zze N d.1)
def Zpe(N:Nat):Sig:=Sig.of [.v Jv false] [.v Jp false] (λd=>Zjw N d.1)
def Zzg:Fn:=⟨Tryz.f7,WF,Zpe,λN=>[(9,Zoj N),(29,Zlp N),(12,Zlr N),(30,Zpm N),(31,Zls N),(11,Zlw N),(27,Zne N)]⟩
set_option maxRecDepth 100000 in theorem Zzh (N:Nat):GW 7 (Zpe N):=GF Zzg N Tryz.func7 (GC (Z0k N) (GC (Zwb N) (GC (Zwf N) (GC (Z0n N) (GC (Zwh N) (GC (Zw3 N) (GC (Zzf N) Wa)))))))
end
end Go.Sx
