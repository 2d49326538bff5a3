/- Each Go function does what its Lean function says. -/
import Derived.Test.YtaohbbihecfgcaaGreatD
open List renaming cons_append→Xbb,nil_append→Xaq
namespace Go.Sx
noncomputable section
open Go.Proofs
set_option linter.unusedVariables false
set_option linter.unusedSimpArgs false
def Zwy(t4:List Int)(ar:Int)(aw:Bool)(aV:List Int):St:=⟨[(3,vO 0),(10,vV Je t4),(11,vI (Wh t4)),(12,vI ar),(13,vB aw)],[(0,.arr Ja aV)],1⟩
theorem Zx6(N:Nat){R:Type}(K:Ex->St->Option R){t4:List Int}{K0:Int->Bool->Ki->Option R}(h0:K0= λar aw aV=>K (.exit 0) (Zwy t4 ar aw aV))(n:Nat)(t6:Int)(l7:List Int):Zbg N t4 K0 n t6 l7=LM Zk1 N 0 100005 n (Zx5 t4 t6 l7) K:=by
  subst h0
  induction n generalizing t6 l7 with
  |zero=>kernel_rfl
  |succ n ih=>rw[Zbg];simp only[ih];kernel_rfl
theorem Z7t(N:Nat)(m1:List Int):DN Zk1 N (m1,())=Za5 N m1:=by
  conv=>rhs;rw[Za5];simp(disch:=exact id (by kernel_rfl)) only[Zx6 (R:=Unit×Kad) N (CF Zk1 N [1,1,1,0,1,0])]
  kernel_rfl
theorem Z7u(N:Nat):GW 49 (Zpx N):=GF Zk1 N Tryz.func49 (GC (Zzs N) (GC (Zab2 N) (GC (Zs3 N) Wg))) (λd=>Z7t N d.1)
def Zuf(N:Nat):Sig:=Sig.of [.v Je false] [.v Jy true,.v Jr false] (λd=>Zce N d.1)
def Zpg:Fn:=⟨Tryz.f50,λ |5=>[.canon [2,4,12,13,14,15]]|6=>[.canon [2,4,6,12,13,14]]|7=>[.canon [2,4,12,13,14]]|8=>[.canon [2,4,12,13,14]]|100005=>[.adoptC 4 1 Jb,.canon [2,4,12,13,14]]|_=>[],Zuf,λN=>[(83,Zdb N)]⟩
def Z5w(t3:List Int)(t5:Int)(l8:List Kb):St:=⟨[(2,vP 0 0),(4,vP 1 0),(12,vV Je t3),(13,vI (Wh t3)),(14,vI t5)],[(0,.box [.val Ja (0:Int),.nils]),(1,.box [.val Ja (0:Int),.own 2]),(2,.arr Jb l8)],3⟩
def Z24(t3:List Int)(t9:Int)(ar:Bool)(an:List Kb):St:=⟨[(2,vP 0 0),(4,vP 1 0),(12,vV Je t3),(13,vI (Wh t3)),(14,vI t9),(15,vB ar)],[(0,.box [.val Ja (0:Int),.nils]),(1,.box [.val Ja (0:Int),.own 2]),(2,.arr Jb an)],3⟩
theorem Z5x(N:Nat){R:Type}(K:Ex->St->Option R){t3:List Int}{K0:Int->Bool->Kr->Option R}(h0:K0= λt9 ar an=>K (.exit 0) (Z24 t3 t9 ar an))(n:Nat)(t5:Int)(l8:List Kb):Zd1 N t3 K0 n t5 l8=LM Zpg N 0 100005 n (Z5w t3 t5 l8) K:=by
  subst h0
  induction n generalizing t5 l8 with
  |zero=>kernel_rfl
  |succ n ih=>rw[Zd1];simp only[ih];kernel_rfl
theorem Zael(N:Nat)(l1:List Int):DN Zpg N (l1,())=Zce N l1:=by
  conv=>rhs;rw[Zce];simp(disch:=exact id (by kernel_rfl)) only[Z5x (R:=Unit×(Ks×Kq)) N (CF Zpg N [1,1,1,0,1,0])]
  kernel_rfl
theorem Zaem(N:Nat):GW 50 (Zuf N):=GF Zpg N Tryz.func50 (GC (Zht N) Wg) (λd=>Zael N d.1)
def Zdc(N:Nat):Sig:=Sig.of [.box Jk] [] (λd=>Za6 N d.1)
def Z7v:Fn:=⟨Tryz.f92,Wx,Zdc,W0⟩
theorem Zhu(N:Nat):GW 92 (Zdc N):=GF Z7v N Tryz.func92 Wg
def Zoe(N:Nat):Sig:=Sig.of [.box Jp,.v Ja false] [] (λd=>Zgp N d.1 d.2.1)
def Zjx:Fn:=⟨Tryz.f93,λ |3=>[.canon [0,1,4,5,17,18,19,20]]|4=>[.canon [0,1,4,5,6,7,17,18,19]]|5=>[.canon [0,1,4,5,17,18,19]]|6=>[.canon [0,1,4,5,17,18,19]]|100003=>[.canon [0,1,4,5,17,18,19]]|_=>[],Zoe,W0⟩
def Zwz(k3:Int)(r4:Nat)(cS:Bool)(t6:Int)(t7:Int)(b8:Int)(b9:Int)(ac:Int)(ca:Int)(aV:List Y_Root)(aY:List Kb)(bi:List Int)(bh:List Kb)(cC:List Kn):St:=⟨[(0,vP 0 0),(1,vI k3),(4,.s (.one (.eptr 1 r4 0))),(5,vB cS),(17,vO 1),(18,vI t6),(19,vI t7)],[(0,.box [.val Ja b8,.val Ja b9,.val Ja ac,.own 2,.own 3,.val Ja ca,.own 4,.own 1,.own 5]),(1,.arr Jk aV),(2,.arr Jb aY),(3,.arr Ja bi),(4,.arr Jb bh),(5,.arr Jw cC)],6⟩
def Zwl(k3:Int)(r4:Nat)(t6:Int)(b8:Int)(b9:Int)(ac:Int)(ca:Int)(aV:List Y_Root)(aY:List Kb)(bi:List Int)(bh:List Kb)(cC:List Kn)(fS:Bool)(fv:Int)(hC:Bool):St:=⟨[(0,vP 0 0),(1,vI k3),(4,.s (.one (.eptr 1 r4 0))),(5,vB fS),(17,vO 1),(18,vI t6),(19,vI fv),(20,vB hC)],[(0,.box [.val Ja b8,.val Ja b9,.val Ja ac,.own 2,.own 3,.val Ja ca,.own 4,.own 1,.own 5]),(1,.arr Jk aV),(2,.arr Jb aY),(3,.arr Ja bi),(4,.arr Jb bh),(5,.arr Jw cC)],6⟩
theorem Zw0(N:Nat){R:Type}(K:Ex->St->Option R){k3:Int}{r4:Nat}{t6:Int}{b8:Int}{b9:Int}{ac:Int}{ca:Int}{aV:List Y_Root}{aY:List Kb}{bi:List Int}{bh:List Kb}{cC:List Kn}{K0:Bool->Int->Bool->Option R}(h0:K0= λfS fv hC=>K (.exit 0) (Zwl k3 r4 t6 b8 b9 ac ca aV aY bi bh cC fS fv hC))(n:Nat)(cS:Bool)(t7:Int):Zal N k3 r4 t6 b8 b9 ac ca aV aY bi bh cC K0 n cS t7=LM Zjx N 0 100003 n (Zwz k3 r4 cS t6 t7 b8 b9 ac ca aV aY bi bh cC) K:=by
  subst h0
  induction n generalizing cS t7 with
  |zero=>kernel_rfl
  |succ n ih=>rw[Zal];simp only[ih];kernel_rfl
theorem Z5y(N:Nat)(w1:Y_World)(k2:Int):DN Zjx N (w1,k2,())=Zgp N w1 k2:=by
  conv=>rhs;rw[Zgp];simp(disch:=exact id (by kernel_rfl)) only[Zw0 (R:=(Y_World×Unit)×Unit) N (CF Zjx N [1,1,0,1,0])]
  kernel_rfl
theorem Z5z(N:Nat):GW 93 (Zoe N):=GF Zjx N Tryz.func93 Wg (λd=>Z5y N d.1 d.2.1)
def Zph(N:Nat):Sig:=Sig.of [.v Ja false,.v Ja false,.v Ja false] [.v Jr false] (λd=>Zkb N d.1 d.2.1 d.2.2.1)
def Zaen:Fn:=⟨Tryz.f236,Wx,Zph,λN=>[(24,Zr N)]⟩
theorem Zxj(N:Nat):GW 236 (Zph N):=GF Zaen N Tryz.func236 (GC (Zy N) Wg)
def Zme(N:Nat):Sig:=Sig.of [.v Jb true,.v Jb true] [.v Ja false] (λd=>Zjv N d.1 d.2.1)
def Zzy:Fn:=⟨Tryz.f237,Wx,Zme,W0⟩
theorem Zzz(N:Nat):GW 237 (Zme N):=GF Zzy N Tryz.func237 Wg
def Zhj(N:Nat):Sig:=Sig.of [.v Jo false] [.v Jr false] (λd=>Zfn N d.1)
def Zni:Fn:=⟨Tryz.f166,λ |2=>[.canon [0,5,6,7,8]]|3=>[.canon [0,3,4,5,6,7]]|4=>[.canon [0,3,4,5,6,7,33]]|5=>[.canon [2]]|6=>[.canon [0,5,6,7,60]]|7=>[.canon [2]]|8=>[.canon [0,5,6,7]]|100002=>[.canon [0,5,6,7]]|_=>[],Zhj,λN=>[(236,Zph N),(237,Zme N)]⟩
def Z25(l2:List Kb)(t5:Int):St:=⟨[(0,vV Jo l2),(5,vV Jo l2),(6,vI (Wh l2)),(7,vI t5)],[],0⟩
def Zz0(l2:List Kb):St:=⟨[(2,vB false)],[],0⟩
def Zz1(l2:List Kb)(ar:Int)(aw:Bool):St:=⟨[(0,vV Jo l2),(5,vV Jo l2),(6,vI (Wh l2)),(7,vI ar),(8,vB aw)],[],0⟩
theorem Z26(N:Nat){R:Type}(K:Ex->St->Option R){l2:List Kb}{K0:Option R}{K1:Int->Bool->Option R}(h0:K0=K .ret (Zz0 l2))(h1:K1= λar aw=>K (.exit 0) (Zz1 l2 ar aw))(n:Nat)(t5:Int):Zaj N l2 K0 K1 n t5=LM Zni N 0 100002 n (Z25 l2 t5) K:=by
  subst h0 h1
  induction n generalizing t5 with
  |zero=>kernel_rfl
  |succ n ih=>rw[Zaj];simp only[ih];kernel_rfl
theorem Zab6(N:Nat)(l1:List Kb):DN Zni N (l1,())=Zfn N l1:=by
  conv=>rhs;rw[Zfn];simp(disch:=exact id (by kernel_rfl)) only[Z26 (R:=Unit×Kq) N (CF Zni N [1,0,1,0])]
  kernel_rfl
theorem Znj(N:Nat):GW 166 (Zhj N):=GF Zni N Tryz.func166 (GC (Zxj N) (GC (Zzz N) Wg)) (λd=>Zab6 N d.1)
def Zs4(N:Nat):Sig:=Sig.of [.v Jo false,.v Ja false] [.v Jx false] (λd=>Zg7 N d.1 d.2.1)
def Znk:Fn:=⟨Tryz.f209,λ |5=>[.canon [1,5,12,13,14,15]]|6=>[.canon [1,5,7,12,13,14]]|7=>[.canon [1,5,7,12,13,14,21]]|8=>[.canon [1,5,12,13,14]]|9=>[.canon [1,5,12,13,14]]|100005=>[.canon [1,5,12,13,14]]|_=>[],Zs4,λN=>[(166,Zhj N)]⟩
def Z27(bY:Int)(t5:List Kb)(t7:Int)(l8:List Int):St:=⟨[(1,vI bY),(5,vO 0),(12,vV Jo t5),(13,vI (Wh t5)),(14,vI t7)],[(0,.arr Ja l8)],1⟩
def Zz2(bY:Int)(t5:List Kb)(t9:Int)(ar:Bool)(an:List Int):St:=⟨[(1,vI bY),(5,vO 0),(12,vV Jo t5),(13,vI (Wh t5)),(14,vI t9),(15,vB ar)],[(0,.arr Ja an)],1⟩
theorem Z28(N:Nat){R:Type}(K:Ex->St->Option R){bY:Int}{t5:List Kb}{K0:Int->Bool->Ki->Option R}(h0:K0= λt9 ar an=>K (.exit 0) (Zz2 bY t5 t9 ar an))(n:Nat)(t7:Int)(l8:List Int):Zb3 N bY t5 K0 n t7 l8=LM Znk N 0 100005 n (Z27 bY t5 t7 l8) K:=by
  subst h0
  induction n generalizing t7 l8 with
  |zero=>kernel_rfl
  |succ n ih=>rw[Zb3];simp only[ih];kernel_rfl
theorem Zab7(N:Nat)(l1:List Kb)(aD:Int):DN Znk N (l1,aD,())=Zg7 N l1 aD:=by
  conv=>rhs;rw[Zg7];simp(disch:=exact id (by kernel_rfl)) only[Z28 (R:=Unit×Kad) N (CF Znk N [1,1,1,0,1,0])]
  kernel_rfl
theorem Zab8(N:Nat):GW 209 (Zs4 N):=GF Znk N Tryz.func209 (GC (Znj N) Wg) (λd=>Zab7 N d.1 d.2.1)
def Zk2(N:Nat):Sig:=Sig.of [.box Jp,.v Ja false] [] (λd=>Zg8 N d.1 d.2.1)
def Z7w:Fn:=⟨Tryz.f101,λ |0=>[.opn 10]|_=>[],Zk2,W0⟩
theorem Zvh(N:Nat):GW 101 (Zk2 N):=GF Z7w N Tryz.func101 Wg
def Zfh(N:Nat):Sig:=Sig.of [.v Ja false] [.v Jr false] (λd=>Zfo N d.1)
def Zab9:Fn:=⟨Tryz.f252,Wx,Zfh,λN=>[(24,Zr N)]⟩
theorem Zjs(N:Nat):GW 252 (Zfh N):=GF Zab9 N Tryz.func252 (GC (Zy N) Wg)
def Zh6(N:Nat):Sig:=Sig.of [.v Jd false] [.v Jr false] (λd=>Zdf N d.1)
def Zpi:Fn:=⟨Tryz.f239,λ |2=>[.canon [0,5,6,7,8]]|3=>[.canon [0,4,5,6,7]]|4=>[.canon [0,5,6,7,20]]|5=>[.canon [2]]|6=>[.canon [0,5,6,7]]|100002=>[.canon [0,5,6,7]]|_=>[],Zh6,λN=>[(206,Zb0 N),(85,Zas N)]⟩
def Z50(l2:List Kc)(t5:Int):St:=⟨[(0,vV Jd l2),(5,vV Jd l2),(6,vI (Wh l2)),(7,vI t5)],[],0⟩
def Z29(l2:List Kc):St:=⟨[(2,vB false)],[],0⟩
def Z3a(l2:List Kc)(ar:Int)(aw:Bool):St:=⟨[(0,vV Jd l2),(5,vV Jd l2),(6,vI (Wh l2)),(7,vI ar),(8,vB aw)],[],0⟩
theorem Z51(N:Nat){R:Type}(K:Ex->St->Option R){l2:List Kc}{K0:Option R}{K1:Int->Bool->Option R}(h0:K0=K .ret (Z29 l2))(h1:K1= λar aw=>K (.exit 0) (Z3a l2 ar aw))(n:Nat)(t5:Int):Zd0 N l2 K0 K1 n t5=LM Zpi N 0 100002 n (Z50 l2 t5) K:=by
  subst h0 h1
  induction n generalizing t5 with
  |zero=>kernel_rfl
  |succ n ih=>rw[Zd0];simp only[ih];kernel_rfl
theorem Zaeo(N:Nat)(l1:List Kc):DN Zpi N (l1,())=Zdf N l1:=by
  conv=>rhs;rw[Zdf];simp(disch:=exact id (by kernel_rfl)) only[Z51 (R:=Unit×Kq) N (CF Zpi N [1,0,1,0])]
  kernel_rfl
theorem Zpj(N:Nat):GW 239 (Zh6 N):=GF Zpi N Tryz.func239 (GC (Zec N) (GC (Zbo N) Wg)) (λd=>Zaeo N d.1)
def Zn9(N:Nat):Sig:=Sig.of [.v Jd false,.v Ja false] [.v Ja false,.v Jr false] (λd=>Zio N d.1 d.2.1)
def Zr5:Fn:=⟨Tryz.f211,λ |4=>[.canon [0,1,6,14]]|5=>[.canon [0,1,6]]|6=>[.canon [0,1,6,23]]|7=>[.canon [4,5]]|100004=>[.canon [0,1,6]]|_=>[],Zn9,λN=>[(239,Zh6 N)]⟩
def Z9p(l4:List Kc)(aT:Int)(i6:Int):St:=⟨[(0,vV Jd l4),(1,vI aT),(6,vI i6)],[],0⟩
def Z7x(l4:List Kc)(aT:Int)(t7:Int):St:=⟨[(4,vI t7),(5,vB true)],[],0⟩
def Z7y(l4:List Kc)(aT:Int)(i8:Int)(t9:Bool):St:=⟨[(0,vV Jd l4),(1,vI aT),(6,vI i8),(14,vB t9)],[],0⟩
theorem Z9q(N:Nat){R:Type}(K:Ex->St->Option R){l4:List Kc}{aT:Int}{K0:Int->Option R}{K1:Int->Bool->Option R}(h0:K0= λt7=>K .ret (Z7x l4 aT t7))(h1:K1= λi8 t9=>K (.exit 0) (Z7y l4 aT i8 t9))(n:Nat)(i6:Int):Zhx N l4 aT K0 K1 n i6=LM Zr5 N 0 100004 n (Z9p l4 aT i6) K:=by
  subst h0 h1
  induction n generalizing i6 with
  |zero=>kernel_rfl
  |succ n ih=>rw[Zhx];simp only[ih];kernel_rfl
theorem Zagk(N:Nat)(l1:List Kc)(bM:Int):DN Zr5 N (l1,bM,())=Zio N l1 bM:=by
  conv=>rhs;rw[Zio];simp(disch:=exact id (by kernel_rfl)) only[Z9q (R:=Unit×Kk) N (CF Zr5 N [1,1,0,1,0])]
  kernel_rfl
theorem Zvt(N:Nat):GW 211 (Zn9 N):=GF Zr5 N Tryz.func211 (GC (Zpj N) Wg) (λd=>Zagk N d.1 d.2.1)
def Zmf(N:Nat):Sig:=Sig.of [.v Jd false] [.v Jc false] (λd=>Zhl N d.1)
def Zug:Fn:=⟨Tryz.f171,λ |5=>[.canon [0,3,11,12]]|6=>[.canon [0,3,4,11]]|7=>[.canon [0,3,4,5,6,11]]|8=>[.canon [0,3,4,5,11,20]]|9=>[.canon [0,3,11]]|10=>[.canon [0,3,11]]|100005=>[.canon [0,3,11]]|_=>[],Zmf,λN=>[(239,Zh6 N),(211,Zn9 N)]⟩
def Zaca(l3:List Kc)(t4:Int)(l5:List Kc):St:=⟨[(0,vV Jd l3),(3,vO 0),(11,vI t4)],[(0,.arr Jt l5)],1⟩
def Z9r(l3:List Kc)(t7:Int)(t8:Bool)(l9:List Kc):St:=⟨[(0,vV Jd l3),(3,vO 0),(11,vI t7),(12,vB t8)],[(0,.arr Jt l9)],1⟩
theorem Zacb(N:Nat){R:Type}(K:Ex->St->Option R){l3:List Kc}{K0:Int->Bool->Kv->Option R}(h0:K0= λt7 t8 l9=>K (.exit 0) (Z9r l3 t7 t8 l9))(n:Nat)(t4:Int)(l5:List Kc):Zg5 N l3 K0 n t4 l5=LM Zug N 0 100005 n (Zaca l3 t4 l5) K:=by
  subst h0
  induction n generalizing t4 l5 with
  |zero=>kernel_rfl
  |succ n ih=>rw[Zg5];simp only[ih];kernel_rfl
theorem Zagv(N:Nat)(l1:List Kc):DN Zug N (l1,())=Zhl N l1:=by
  conv=>rhs;rw[Zhl];simp(disch:=exact id (by kernel_rfl)) only[Zacb (R:=Unit×(Kv×Unit)) N (CF Zug N [1,1,1,0,1,0])]
  kernel_rfl
theorem Zuh(N:Nat):GW 171 (Zmf N):=GF Zug N Tryz.func171 (GC (Zpj N) (GC (Zvt N) Wg)) (λd=>Zagv N d.1)
def Zs5(N:Nat):Sig:=Sig.of [.v Jd false] [.v Jx false] (λd=>Zit N d.1)
def Znl:Fn:=⟨Tryz.f253,λ |3=>[.canon [3,8,9,10,11]]|4=>[.canon [3,5,8,9,10]]|5=>[.canon [3,8,9,10]]|6=>[.canon [3,8,9,10]]|100003=>[.canon [3,8,9,10]]|_=>[],Zs5,λN=>[(171,Zmf N)]⟩
def Z3b(t3:Int)(t4:Int)(l5:List Int)(l6:List Kc):St:=⟨[(3,vO 0),(8,vO 1),(9,vI t3),(10,vI t4)],[(0,.arr Ja l5),(1,.arr Jt l6)],2⟩
def Zz3(t3:Int)(l6:List Kc)(t7:Int)(t8:Bool)(l9:List Int):St:=⟨[(3,vO 0),(8,vO 1),(9,vI t3),(10,vI t7),(11,vB t8)],[(0,.arr Ja l9),(1,.arr Jt l6)],2⟩
theorem Z3c(N:Nat){R:Type}(K:Ex->St->Option R){t3:Int}{l6:List Kc}{K0:Int->Bool->Ki->Option R}(h0:K0= λt7 t8 l9=>K (.exit 0) (Zz3 t3 l6 t7 t8 l9))(n:Nat)(t4:Int)(l5:List Int):Zcx N t3 l6 K0 n t4 l5=LM Znl N 0 100003 n (Z3b t3 t4 l5 l6) K:=by
  subst h0
  induction n generalizing t4 l5 with
  |zero=>kernel_rfl
  |succ n ih=>rw[Zcx];simp only[ih];kernel_rfl
theorem Zacc(N:Nat)(l1:List Kc):DN Znl N (l1,())=Zit N l1:=by
  conv=>rhs;rw[Zit];simp(disch:=exact id (by kernel_rfl)) only[Z3c (R:=Unit×Kad) N (CF Znl N [1,1,0,1,0])]
  kernel_rfl
theorem Zacd(N:Nat):GW 253 (Zs5 N):=GF Znl N Tryz.func253 (GC (Zuh N) Wg) (λd=>Zacc N d.1)
def Zpy(N:Nat):Sig:=Sig.of [.v Ja false,.v Ja false,.v Jd false,.v Jd false] [.v Ji true,.v Jr false] (λd=>Ze6 N d.1 d.2.1 d.2.2.1 d.2.2.2.1)
def Z7z:Fn:=⟨Tryz.f210,Wx,Zpy,λN=>[(252,Zfh N),(24,Zr N),(239,Zh6 N),(171,Zmf N),(253,Zs5 N)]⟩
theorem Z70(N:Nat):GW 210 (Zpy N):=GF Z7z N Tryz.func210 (GC (Zjs N) (GC (Zy N) (GC (Zpj N) (GC (Zuh N) (GC (Zacd N) Wg)))))
def Zil(N:Nat):Sig:=Sig.of [.box Jp,.v Ja false,.v Ja false] [] (λd=>Zhr N d.1 d.2.1 d.2.2.1)
def Z3d:Fn:=⟨Tryz.f152,λ |0=>[.opn 13]|_=>[],Zil,λN=>[(209,Zs4 N),(101,Zk2 N),(210,Zpy N)]⟩
theorem Zui(N:Nat):GW 152 (Zil N):=GF Z3d N Tryz.func152 (GC (Zab8 N) (GC (Zvh N) (GC (Z70 N) Wg)))
def Zlw(N:Nat):Sig:=Sig.of [.v Ja false] [.v Jq true,.v Jr false] (λd=>Zf8 N d.1)
def Z9s:Fn:=⟨Tryz.f212,Wx,Zlw,λN=>[(206,Zb0 N)]⟩
theorem Zv6(N:Nat):GW 212 (Zlw N):=GF Z9s N Tryz.func212 (GC (Zec N) Wg)
def Zfz(N:Nat):Sig:=Sig.of [.v Jad true] [.v Jr false] (λd=>Zcu N d.1)
def Zqt:Fn:=⟨Tryz.f229,λ |2=>[.canon [1,6,7,8,9]]|3=>[.canon [1,4,6,7,8]]|4=>[.canon [1,6,7,8,29]]|5=>[.canon [2]]|6=>[.canon [1,6,7,8]]|100002=>[.canon [1,6,7,8]]|_=>[],Zfz,λN=>[(85,Zas N),(24,Zr N)]⟩
def Z71(t2:List Kb)(t4:Int)(b5:Int×List Kb):St:=⟨[(1,vP 0 0),(6,vV Jo t2),(7,vI (Wh b5.2)),(8,vI t4)],[(0,.box [.val Ja b5.1,.val Jo b5.2])],1⟩
def Z52(t2:List Kb)(b5:Int×List Kb):St:=⟨[(2,vB false)],[],0⟩
def Z53(t2:List Kb)(b5:Int×List Kb)(aB:Int)(aU:Bool):St:=⟨[(1,vP 0 0),(6,vV Jo t2),(7,vI (Wh b5.2)),(8,vI aB),(9,vB aU)],[(0,.box [.val Ja b5.1,.val Jo b5.2])],1⟩
theorem Z72(N:Nat){R:Type}(K:Ex->St->Option R){t2:List Kb}{b5:Int×List Kb}{K0:Option R}{K1:Int->Bool->Option R}(h0:K0=K .ret (Z52 t2 b5))(h1:K1= λaB aU=>K (.exit 0) (Z53 t2 b5 aB aU))(n:Nat)(t4:Int):Ze1 N t2 b5 K0 K1 n t4=LM Zqt N 0 100002 n (Z71 t2 t4 b5) K:=by
  subst h0 h1
  induction n generalizing t4 with
  |zero=>kernel_rfl
  |succ n ih=>rw[Ze1];simp only[ih];kernel_rfl
theorem Zafz(N:Nat)(m1:Int×List Kb):DN Zqt N (m1,())=Zcu N m1:=by
  conv=>rhs;rw[Zcu];simp(disch:=exact id (by kernel_rfl)) only[Z72 (R:=Unit×Kq) N (CF Zqt N [1,0,1,0])]
  kernel_rfl
theorem Zi8(N:Nat):GW 229 (Zfz N):=GF Zqt N Tryz.func229 (GC (Zbo N) (GC (Zy N) Wg)) (λd=>Zafz N d.1)
def Zs6(N:Nat):Sig:=Sig.of [.v Jq true] [.v Jr false] (λd=>Zp8 N d.1)
def Zace:Fn:=⟨Tryz.f254,Wx,Zs6,λN=>[(206,Zb0 N),(24,Zr N),(85,Zas N)]⟩
theorem Zacf(N:Nat):GW 254 (Zs6 N):=GF Zace N Tryz.func254 (GC (Zec N) (GC (Zy N) (GC (Zbo N) Wg)))
def Zk3(N:Nat):Sig:=Sig.of [.v Jad true,.v Ja false,.v Jq true] [.v Jq true] (λd=>Ze2 N d.1 d.2.1 d.2.2.1)
def Z73:Fn:=⟨Tryz.f213,Wx,Zk3,λN=>[(229,Zfz N),(254,Zs6 N)]⟩
theorem Zvi(N:Nat):GW 213 (Zk3 N):=GF Z73 N Tryz.func213 (GC (Zi8 N) (GC (Zacf N) Wg))
def Zhp(N:Nat):Sig:=Sig.of [.box Jk] [] (λd=>Zdl N d.1)
def Zx7:Fn:=⟨Tryz.f214,Wx,Zhp,λN=>[(92,Zdc N)]⟩
theorem Zrp(N:Nat):GW 214 (Zhp N):=GF Zx7 N Tryz.func214 (GC (Zhu N) Wg)
def Zof(N:Nat):Sig:=Sig.of [.boxal Jp 3,.v Jq true] [] (λd=>Zlh N d.1 d.2.1 d.2.2.1)
def Z54:Fn:=⟨Tryz.f153,λ |1000000=>[.unfE 1]|_=>[],Zof,λN=>[(211,Zn9 N),(212,Zlw N),(213,Zk3 N),(214,Zhp N)]⟩
theorem Z55(N:Nat):GW 153 (Zof N):=GF Z54 N Tryz.func153 (GC (Zvt N) (GC (Zv6 N) (GC (Zvi N) (GC (Zrp N) Wg))))
def Zk4(N:Nat):Sig:=Sig.of [.box Jk] [.v Jj true] (λd=>Zjh N d.1)
def Z74:Fn:=⟨Tryz.f96,Wx,Zk4,W0⟩
theorem Zvj(N:Nat):GW 96 (Zk4 N):=GF Z74 N Tryz.func96 Wg
def Zk5(N:Nat):Sig:=Sig.of [.v Jae true] [.v Jai true] (λd=>Zji N d.1)
def Z75:Fn:=⟨Tryz.f221,Wx,Zk5,λN=>[(145,Zw N)]⟩
theorem Zvk(N:Nat):GW 221 (Zk5 N):=GF Z75 N Tryz.func221 (GC (Z5 N) Wg)
def Znm(N:Nat):Sig:=Sig.of [.v Jae true] [.v Jr false] (λd=>Zl4 N d.1)
def Zacg:Fn:=⟨Tryz.f222,Wx,Znm,λN=>[(146,Zhi N),(85,Zas N)]⟩
theorem Zwm(N:Nat):GW 222 (Znm N):=GF Zacg N Tryz.func222 (GC (Zng N) (GC (Zbo N) Wg))
def Zuj(N:Nat):Sig:=Sig.of [.v Jb true] [.v Jr false] (λd=>Zrr N d.1)
def Zaep:Fn:=⟨Tryz.f223,Wx,Zuj,λN=>[(147,Zfw N),(85,Zas N)]⟩
theorem Zaeq(N:Nat):GW 223 (Zuj N):=GF Zaep N Tryz.func223 (GC (Zi7 N) (GC (Zbo N) Wg))
def Zlx(N:Nat):Sig:=Sig.of [.v Je false,.v Ja false] [.v Jx false,.v Ja false,.v Jr false] (λd=>Zkm N d.1 d.2.1)
def Z9t:Fn:=⟨Tryz.f224,Wx,Zlx,λN=>[(145,Zw N),(146,Zhi N),(147,Zfw N),(148,Zn8 N),(149,Zjq N)]⟩
theorem Zv7(N:Nat):GW 224 (Zlx N):=GF Z9t N Tryz.func224 (GC (Z5 N) (GC (Zng N) (GC (Zi7 N) (GC (Zvs N) (GC (Zs2 N) Wg)))))
def Zs7(N:Nat):Sig:=Sig.of [.v Jae true,.v Jb true] [.v Jai true,.v Jr false] (λd=>Zp9 N d.1 d.2.1)
def Zach:Fn:=⟨Tryz.f161,Wx,Zs7,λN=>[(221,Zk5 N),(222,Znm N),(223,Zuj N),(91,Zjr N),(224,Zlx N)]⟩
theorem Zaci(N:Nat):GW 161 (Zs7 N):=GF Zach N Tryz.func161 (GC (Zvk N) (GC (Zwm N) (GC (Zaeq N) (GC (Zs3 N) (GC (Zv7 N) Wg)))))
def Zjy(N:Nat):Sig:=Sig.of [.boxal Jp 3] [] (λd=>Zch N d.1 d.2.1)
def Z56:Fn:=⟨Tryz.f97,λ |1000000=>[.unfE 1]|_=>[],Zjy,λN=>[(161,Zs7 N)]⟩
theorem Zus(N:Nat):GW 97 (Zjy N):=GF Z56 N Tryz.func97 (GC (Zaci N) Wg)
def Zd7(N:Nat):Sig:=Sig.of [.v Jd false] [.v Jc false] (λd=>Zbf N d.1)
def Z9u:Fn:=⟨Tryz.f162,Wx,Zd7,W0⟩
theorem Zii(N:Nat):GW 162 (Zd7 N):=GF Z9u N Tryz.func162 Wg
def Zqu(N:Nat):Sig:=Sig.of [.v Jg false,.v Ja false] [.v Ja false] (λd=>Zjd N d.1 d.2.1)
def Zqv:Fn:=⟨Tryz.f215,λ |5=>[.canon [0,5,6,25]]|6=>[.canon [0,5,6]]|7=>[.canon [0,5,6]]|8=>[.canon [0,5,6,36]]|9=>[.canon [4]]|100005=>[.canon [0,5,6]]|_=>[],Zqu,λN=>[(24,Zr N),(204,Zmd N)]⟩
def Z76(au:List Ka)(n5:Int)(k6:Int):St:=⟨[(0,vV Jg au),(5,vI n5),(6,vI k6)],[],0⟩
def Z57(au:List Ka)(t8:Int):St:=⟨[(4,vI t8)],[],0⟩
def Z58(au:List Ka)(n9:Int)(k10:Int)(aw:Bool):St:=⟨[(0,vV Jg au),(5,vI n9),(6,vI k10),(25,vB aw)],[],0⟩
theorem Z77(N:Nat){R:Type}(K:Ex->St->Option R){au:List Ka}{K0:Int->Option R}{K1:Int->Int->Bool->Option R}(h0:K0= λt8=>K .ret (Z57 au t8))(h1:K1= λn9 k10 aw=>K (.exit 0) (Z58 au n9 k10 aw))(n:Nat)(n5:Int)(k6:Int):Ze3 N au K0 K1 n n5 k6=LM Zqv N 0 100005 n (Z76 au n5 k6) K:=by
  subst h0 h1
  induction n generalizing n5 k6 with
  |zero=>kernel_rfl
  |succ n ih=>rw[Ze3];simp only[ih];kernel_rfl
theorem Zaf0(N:Nat)(ad:List Ka)(i2:Int):DN Zqv N (ad,i2,())=Zjd N ad i2:=by
  conv=>rhs;rw[Zjd];simp(disch:=exact id (by kernel_rfl)) only[Z77 (R:=Unit×Kh) N (CF Zqv N [1,1,1,0,1,0])]
  kernel_rfl
theorem Zz4(N:Nat):GW 215 (Zqu N):=GF Zqv N Tryz.func215 (GC (Zy N) (GC (Zu7 N) Wg)) (λd=>Zaf0 N d.1 d.2.1)
def Znn(N:Nat):Sig:=Sig.of [.box Jp,.v Ja false,.v Jg false] [] (λd=>Zkn N d.1 d.2.1 d.2.2.1)
def Z3e:Fn:=⟨Tryz.f154,λ |0=>[.opn 13]|_=>[],Znn,λN=>[(152,Zil N),(96,Zk4 N),(97,Zjy N),(145,Zw N),(162,Zd7 N),(215,Zqu N)]⟩
theorem Z3f(N:Nat):GW 154 (Znn N):=GF Z3e N Tryz.func154 (GC (Zui N) (GC (Zvj N) (GC (Zus N) (GC (Z5 N) (GC (Zii N) (GC (Zz4 N) Wg))))))
def Zre(N:Nat):Sig:=Sig.of [.v Ja false,.v Je false,.v Jd false,.v Ja false] [.v Jf true] (λd=>Zhy N d.1 d.2.1 d.2.2.1 d.2.2.2.1)
def Zgs:Fn:=⟨Tryz.f155,λ |3=>[.canon [1,3,8,9,19,20,21,22]]|4=>[.canon [1,3,8,9,11,19,20,21]]|5=>[.canon [1,3,8,9,19,20,21]]|6=>[.canon [1,3,8,9,19,20,21]]|8=>[.canon [1,8,9,36,37,38]]|9=>[.nest 44 Jl,.canon [1,8,9,36,37]]|10=>[.canon [1,8,9,36,37]]|100003=>[.adoptC 9 6 Jb,.canon [1,3,8,9,19,20,21]]|100008=>[.adoptC 9 9 Jl,.canon [1,8,9,36,37]]|_=>[],Zre,λN=>[(145,Zw N),(171,Zmf N)]⟩
def Zz5(dt:List Int)(du:Int)(t9:Int)(ar:Int)(bk:Int)(ax:List Kc)(cw:List Int)(dG:List Kb):St:=⟨[(1,vV Je dt),(3,vI du),(8,vP 0 0),(9,vP 1 0),(19,vO 2),(20,vI t9),(21,vI ar)],[(0,.box [.val Ja (0:Int),.val Ja (0:Int),.val Ja (0:Int),.val Jr false,.nils,.nils,.nils,.nils,.nils,.nils]),(1,.box [.val Ja bk,.val Ja (0:Int),.val Ja (0:Int),.val Jr false,.own 3,.own 2,.own 4,.nils,.nils,.nils]),(2,.arr Jt ax),(3,.arr Ja cw),(4,.arr Jb dG)],5⟩
def Zx8(dt:List Int)(du:Int)(t9:Int)(bk:Int)(ax:List Kc)(cw:List Int)(t22:Int)(mx:Bool)(dx:List Kb):St:=⟨[(1,vV Je dt),(3,vI du),(8,vP 0 0),(9,vP 1 0),(19,vO 2),(20,vI t9),(21,vI t22),(22,vB mx)],[(0,.box [.val Ja (0:Int),.val Ja (0:Int),.val Ja (0:Int),.val Jr false,.nils,.nils,.nils,.nils,.nils,.nils]),(1,.box [.val Ja bk,.val Ja (0:Int),.val Ja (0:Int),.val Jr false,.own 3,.own 2,.own 4,.nils,.nils,.nils]),(2,.arr Jt ax),(3,.arr Ja cw),(4,.arr Jb dx)],5⟩
theorem Zz6(N:Nat){R:Type}(K:Ex->St->Option R){dt:List Int}{du:Int}{t9:Int}{bk:Int}{ax:List Kc}{cw:List Int}{K0:Int->Bool->Kr->Option R}(h0:K0= λt22 mx dx=>K (.exit 0) (Zx8 dt du t9 bk ax cw t22 mx dx))(n:Nat)(ar:Int)(dG:List Kb):Zcl N dt du t9 bk ax cw K0 n ar dG=LM Zgs N 0 100003 n (Zz5 dt du t9 ar bk ax cw dG) K:=by
  subst h0
  induction n generalizing ar dG with
  |zero=>kernel_rfl
  |succ n ih=>rw[Zcl];simp only[ih];kernel_rfl
def Zz7(cr:List Int)(jB:Int)(jZ:Int)(ky:Int)(kz:List Int)(df:List Kc)(bW:List Kb)(bX:List Y_KidRun):St:=⟨[(1,vV Je cr),(8,vP 0 0),(9,vP 1 0),(36,vI jB),(37,vI jZ)],[(0,.box [.val Ja (0:Int),.val Ja (0:Int),.val Ja (0:Int),.val Jr false,.nils,.nils,.nils,.nils,.nils,.nils]),(1,.box [.val Ja ky,.val Ja (0:Int),.val Ja (0:Int),.val Jr false,.own 2,.own 3,.own 4,.nils,.nils,.own 5]),(2,.arr Ja kz),(3,.arr Jt df),(4,.arr Jb bW),(5,.arr Jl bX)],6⟩
def Zx9(cr:List Int)(jB:Int)(ky:Int)(kz:List Int)(df:List Kc)(bW:List Kb)(t45:Int)(t46:Bool)(fE:List Y_KidRun):St:=⟨[(1,vV Je cr),(8,vP 0 0),(9,vP 1 0),(36,vI jB),(37,vI t45),(38,vB t46)],[(0,.box [.val Ja (0:Int),.val Ja (0:Int),.val Ja (0:Int),.val Jr false,.nils,.nils,.nils,.nils,.nils,.nils]),(1,.box [.val Ja ky,.val Ja (0:Int),.val Ja (0:Int),.val Jr false,.own 2,.own 3,.own 4,.nils,.nils,.own 5]),(2,.arr Ja kz),(3,.arr Jt df),(4,.arr Jb bW),(5,.arr Jl fE)],6⟩
theorem Zz8(N:Nat){R:Type}(K:Ex->St->Option R){cr:List Int}{jB:Int}{ky:Int}{kz:List Int}{df:List Kc}{bW:List Kb}{K0:Int->Bool->(List Y_KidRun)->Option R}(h0:K0= λt45 t46 fE=>K (.exit 2) (Zx9 cr jB ky kz df bW t45 t46 fE))(n:Nat)(jZ:Int)(bX:List Y_KidRun):Za7 N cr jB ky kz df bW K0 n jZ bX=LM Zgs N 1 100008 n (Zz7 cr jB jZ ky kz df bW bX) K:=by
  subst h0
  induction n generalizing jZ bX with
  |zero=>kernel_rfl
  |succ n ih=>rw[Za7];simp only[ih];kernel_rfl
theorem Z9v(N:Nat)(iG:Int)(am:List Int)(bH:List Kc)(cQ:Int):DN Zgs N (iG,am,bH,cQ,())=Zhy N iG am bH cQ:=by
  conv=>rhs;rw[Zhy];simp(disch:=exact id (by kernel_rfl)) only[Zz6 (R:=Unit×(Y_Family×Unit)) N (CF Zgs N [1,1,0,1,0]),Zz8 (R:=Unit×(Y_Family×Unit)) N (CF Zgs N [1,1,1,0,1,0])]
  kernel_rfl
theorem Z9w(N:Nat):GW 155 (Zre N):=GF Zgs N Tryz.func155 (GC (Z5 N) (GC (Zuh N) Wg)) (λd=>Z9v N d.1 d.2.1 d.2.2.1 d.2.2.2.1)
def Zpz(N:Nat):Sig:=Sig.of [.v Jq true] [.v Ja false,.v Ja false] (λd=>Zml N d.1)
def Z78:Fn:=⟨Tryz.f216,Wx,Zpz,λN=>[(141,Zkg N)]⟩
theorem Z79(N:Nat):GW 216 (Zpz N):=GF Z78 N Tryz.func216 (GC (Zr3 N) Wg)
def Zk6(N:Nat):Sig:=Sig.of [.v Jo false] [.v Jam false] (λd=>Ze7 N d.1)
def Z8a:Fn:=⟨Tryz.f165,Wx,Zk6,W0⟩
theorem Zvl(N:Nat):GW 165 (Zk6 N):=GF Z8a N Tryz.func165 Wg
def Zuk(N:Nat):Sig:=Sig.of [.v Jo false,.v Ja false,.v Ja false,.v Ja false] [.v Jx false] (λd=>Zkc N d.1 d.2.1 d.2.2.1 d.2.2.2.1)
def Zpk:Fn:=⟨Tryz.f255,λ |5=>[.canon [1,2,3,9,21,22,23,24]]|6=>[.canon [1,2,3,9,11,21,22,23]]|7=>[.canon [1,2,3,9,11,21,22,23,45]]|8=>[.canon [1,2,3,9,21,22,23]]|9=>[.canon [1,2,3,9,21,22,23]]|100005=>[.canon [1,2,3,9,21,22,23]]|_=>[],Zuk,λN=>[(166,Zhj N),(24,Zr N)]⟩
def Z59(dz:Int)(ck:Int)(cl:Int)(ar:List Kb)(aB:Int)(aY:List Int):St:=⟨[(1,vI dz),(2,vI ck),(3,vI cl),(9,vO 0),(21,vV Jo ar),(22,vI (Wh ar)),(23,vI aB)],[(0,.arr Ja aY)],1⟩
def Z3g(dz:Int)(ck:Int)(cl:Int)(ar:List Kb)(dH:Int)(bR:Bool)(cC:List Int):St:=⟨[(1,vI dz),(2,vI ck),(3,vI cl),(9,vO 0),(21,vV Jo ar),(22,vI (Wh ar)),(23,vI dH),(24,vB bR)],[(0,.arr Ja cC)],1⟩
theorem Z6a(N:Nat){R:Type}(K:Ex->St->Option R){dz:Int}{ck:Int}{cl:Int}{ar:List Kb}{K0:Int->Bool->Ki->Option R}(h0:K0= λdH bR cC=>K (.exit 0) (Z3g dz ck cl ar dH bR cC))(n:Nat)(aB:Int)(aY:List Int):Zax N dz ck cl ar K0 n aB aY=LM Zpk N 0 100005 n (Z59 dz ck cl ar aB aY) K:=by
  subst h0
  induction n generalizing aB aY with
  |zero=>kernel_rfl
  |succ n ih=>rw[Zax];simp only[ih];kernel_rfl
theorem Zaer(N:Nat)(l1:List Kb)(aD:Int)(aF:Int)(aM:Int):DN Zpk N (l1,aD,aF,aM,())=Zkc N l1 aD aF aM:=by
  conv=>rhs;rw[Zkc];simp(disch:=exact id (by kernel_rfl)) only[Z6a (R:=Unit×Kad) N (CF Zpk N [1,1,1,0,1,0])]
  kernel_rfl
theorem Zaes(N:Nat):GW 255 (Zuk N):=GF Zpk N Tryz.func255 (GC (Znj N) (GC (Zy N) Wg)) (λd=>Zaer N d.1 d.2.1 d.2.2.1 d.2.2.2.1)
def Zbb(N:Nat):Sig:=Sig.of [.mut Jb,.clos 237 0] [] (λd=>Zo N d.1)
theorem Zf3:CmpOk Tryz.prog 237 Jb WtW cfH:=by
  intro G x y us vs w hx hy h1 h2;obtain⟨_,_,rfl,a1,_,_,rfl,a2,a3⟩:=h1;obtain⟨_,_,rfl,b1,_,_,rfl,b2,b3⟩:=h2;simp only[Enc]at a1 a2 a3 b1 b2 b3;subst a1 a2 a3 b1 b2 b3;simp only[Xbb,Xaq];unfold WtW at hx hy;simp only[Bool.and_eq_true]at hx hy
  go_enter Tryz.func237,Tryz.ntmps237
  go_wp2
  rw[guard_run (a:=x.2.1) (b:=y.2.1),Result.andThen_ok];rw[neq_run (a:=x.2.1) (b:=y.2.1),Result.andThen_ok];rcases hb:(bne (α:=Int) x.2.1 y.2.1)with _|_
  . go_wp2
    rw[sub_run (Wgz hx.1) (Wgz hy.1) (Wuc hb)]
    go_wp2
    go_ret
    exact⟨rfl,two_grow _ _ _⟩
  . go_wp2
    rw[sub_run (Wgz hx.2) (Wgz hy.2) (WuA hb)]
    go_wp2
    go_ret
    exact⟨rfl,two_grow _ _ _⟩
theorem Zf4(N:Nat):GW 256 (Zbb N):=⟨Wfr Tryz.func256 (show Wqj Tryz.f256=true by kernel_rfl),good_sortF sortFH (e:=.prod Ja Jt) rfl (by decide) Tryz.isAgg213 Tryz.sizeOf213 (enters_of Tryz.func237 (by kernel_rfl) rfl) Wvc Zf3 N⟩
def Zs8(N:Nat):Sig:=Sig.of [.v Jo false,.v Ja false,.v Ja false,.v Ja false] [.v Jam false,.v Jr false] (λd=>Ziu N d.1 d.2.1 d.2.2.1 d.2.2.2.1)
def Zno:Fn:=⟨Tryz.f217,λ |5=>[.canon [1,2,3,10,35,36,37,38]]|6=>[.canon [1,2,3,10,11,12,35,36,37]]|7=>[.canon [1,2,3,10,11,12,35,36,37,51]]|8=>[.canon [10]]|9=>[.canon [8,9]]|10=>[.canon [1,2,3,10,35,36,37]]|100005=>[.canon [1,2,3,10,35,36,37]]|_=>[],Zs8,λN=>[(165,Zk6 N),(166,Zhj N),(236,Zph N),(255,Zuk N),(256,Zbb N)]⟩
def Z3h(dO:Int)(bF:Int)(bG:Int)(aB:Int)(aU:Int)(bi:List Kb):St:=⟨[(1,vI dO),(2,vI bF),(3,vI bG),(10,vO 0),(35,vO 0),(36,vI aB),(37,vI aU)],[(0,.arr Jb bi)],1⟩
def Zz9(dO:Int)(bF:Int)(bG:Int)(aB:Int)(bi:List Kb)(bh:List Kb):St:=⟨[(8,vO 0),(9,vB true)],[(0,.arr Jb bh)],1⟩
def Z0a(dO:Int)(bF:Int)(bG:Int)(aB:Int)(bi:List Kb)(gz:Int)(fu:Bool):St:=⟨[(1,vI dO),(2,vI bF),(3,vI bG),(10,vO 0),(35,vO 0),(36,vI aB),(37,vI gz),(38,vB fu)],[(0,.arr Jb bi)],1⟩
theorem Z3i(N:Nat){R:Type}(K:Ex->St->Option R){dO:Int}{bF:Int}{bG:Int}{aB:Int}{bi:List Kb}{K0:Kr->Option R}{K1:Int->Bool->Option R}(h0:K0= λbh=>K .ret (Zz9 dO bF bG aB bi bh))(h1:K1= λgz fu=>K (.exit 0) (Z0a dO bF bG aB bi gz fu))(n:Nat)(aU:Int):Zb4 N dO bF bG aB bi K0 K1 n aU=LM Zno N 0 100005 n (Z3h dO bF bG aB aU bi) K:=by
  subst h0 h1
  induction n generalizing aU with
  |zero=>kernel_rfl
  |succ n ih=>rw[Zb4];simp only[ih];kernel_rfl
theorem Zacj(N:Nat)(l1:List Kb)(aD:Int)(aF:Int)(aM:Int):DN Zno N (l1,aD,aF,aM,())=Ziu N l1 aD aF aM:=by
  conv=>rhs;rw[Ziu];simp(disch:=exact id (by kernel_rfl)) only[Z3i (R:=Unit×(Kr×Kq)) N (CF Zno N [1,1,1,0,1,0])]
  kernel_rfl
theorem Zack(N:Nat):GW 217 (Zs8 N):=GF Zno N Tryz.func217 (GC (Zvl N) (GC (Znj N) (GC (Zxj N) (GC (Zaes N) (GC (Zf4 N) Wg))))) (λd=>Zacj N d.1 d.2.1 d.2.2.1 d.2.2.2.1)
def Zul(N:Nat):Sig:=Sig.of [.v Ja false,.v Ja false] [.v Jb true] (λd=>Zn2 N d.1 d.2.1)
def Zaet:Fn:=⟨Tryz.f257,Wx,Zul,W0⟩
theorem Zaeu(N:Nat):GW 257 (Zul N):=GF Zaet N Tryz.func257 Wg
def Zs9(N:Nat):Sig:=Sig.of [.v Jae true,.v Jq true,.v Je false] [.v Jai true,.v Jx false,.v Jb true,.v Jr false] (λd=>Zqa N d.1 d.2.1 d.2.2.1)
def Zacl:Fn:=⟨Tryz.f218,Wx,Zs9,λN=>[(221,Zk5 N),(145,Zw N),(222,Znm N),(83,Zdb N),(139,Znd N),(91,Zjr N),(257,Zul N),(149,Zjq N),(224,Zlx N)]⟩
theorem Zacm(N:Nat):GW 218 (Zs9 N):=GF Zacl N Tryz.func218 (GC (Zvk N) (GC (Z5 N) (GC (Zwm N) (GC (Zht N) (GC (Zwi N) (GC (Zs3 N) (GC (Zaeu N) (GC (Zs2 N) (GC (Zv7 N) Wg)))))))))
def Znp(N:Nat):Sig:=Sig.of [.box Jp,.v Ja false,.v Jq true] [] (λd=>Zhs N d.1 d.2.1 d.2.2.1)
def Z3j:Fn:=⟨Tryz.f156,λ |1=>[.opn 20]|_=>[],Znp,λN=>[(216,Zpz N),(217,Zs8 N),(214,Zhp N),(218,Zs9 N)]⟩
theorem Z3k(N:Nat):GW 156 (Znp N):=GF Z3j N Tryz.func156 (GC (Z79 N) (GC (Zack N) (GC (Zrp N) (GC (Zacm N) Wg))))
def Zh7(N:Nat):Sig:=Sig.of [.rp (TY_Root)] [.vj Jq] (λd=>Zeg N d.1)
def Z0b:Fn:=⟨Tryz.f96,Wx,Zh7,W0⟩
theorem Ztg(N:Nat):GW 96 (Zh7 N):=GF Z0b N Tryz.func96 Wg
def Zr6(N:Nat):Sig:=Sig.of [.v Jq true,.v Je false] [.v Jx false,.v Jr false] (λd=>Zrm N d.1 d.2.1)
def Zagl:Fn:=⟨Tryz.f157,Wx,Zr6,λN=>[(145,Zw N),(141,Zkg N),(83,Zdb N)]⟩
theorem Z4c(N:Nat):GW 157 (Zr6 N):=GF Zagl N Tryz.func157 (GC (Z5 N) (GC (Zr3 N) (GC (Zht N) Wg)))
def Zp0(N:Nat):Sig:=Sig.of [.box Jp,.v Ja false,.v Jag true] [] (λd=>Zjj N d.1 d.2.1 d.2.2.1)
def Z8b:Fn:=⟨Tryz.f94,λ |1=>[.opn 14]|_=>[],Zp0,λN=>[(152,Zil N),(153,Zof N),(154,Znn N),(155,Zre N),(156,Znp N),(145,Zw N),(96,Zh7 N),(157,Zr6 N)]⟩
theorem Z8c(N:Nat):GW 94 (Zp0 N):=GF Z8b N Tryz.func94 (GC (Zui N) (GC (Z55 N) (GC (Z3f N) (GC (Z9w N) (GC (Z3k N) (GC (Z5 N) (GC (Ztg N) (GC (Z4c N) Wg))))))))
def Zp1(N:Nat):Sig:=Sig.of [.v (TY_KidRun) true] [.v Jr false] (λd=>Zsa N d.1)
def Z8d:Fn:=⟨Tryz.f220,Wx,Zp1,W0⟩
theorem Z8e(N:Nat):GW 220 (Zp1 N):=GF Z8d N Tryz.func220 Wg
def Zae(N:Nat):Sig:=Sig.of [.v Jaa false,.clos 220 0] [.v Ja false] (λd=>Zn N d.1)
def Zu:Fn:=⟨Tryz.f258,λ |2=>[.canon [0,1,7,8,9]]|3=>[.canon [0,1,5,7,8]]|4=>[.canon [0,1,5,7,8,16]]|5=>[.canon [1,4]]|6=>[.canon [0,1,7,8]]|100002=>[.canon [0,1,7,8]]|_=>[],Zae,λN=>[(220,Zp1 N)]⟩
def Zed(s2:List Y_KidRun)(t4:Int):St:=⟨[(0,vV Jaa s2),(1,.s (.one (.clos 220 []))),(7,vI (Wh s2)),(8,vI t4)],[],0⟩
def Zd8(s2:List Y_KidRun)(t7:Int):St:=⟨[(1,.s (.one (.clos 220 []))),(4,vI t7)],[],0⟩
def Zd9(s2:List Y_KidRun)(t8:Int)(t9:Bool):St:=⟨[(0,vV Jaa s2),(1,.s (.one (.clos 220 []))),(7,vI (Wh s2)),(8,vI t8),(9,vB t9)],[],0⟩
theorem Zee(N:Nat){R:Type}(K:Ex->St->Option R){s2:List Y_KidRun}{K0:Int->Option R}{K1:Int->Bool->Option R}(h0:K0= λt7=>K .ret (Zd8 s2 t7))(h1:K1= λt8 t9=>K (.exit 0) (Zd9 s2 t8 t9))(n:Nat)(t4:Int):Zd N s2 K0 K1 n t4=LM Zu N 0 100002 n (Zed s2 t4) K:=by
  subst h0 h1
  induction n generalizing t4 with
  |zero=>kernel_rfl
  |succ n ih=>rw[Zd];simp only[ih];kernel_rfl
theorem Zf0(N:Nat)(s1:List Y_KidRun):DN Zu N (s1,())=Zn N s1:=by
  conv=>rhs;rw[Zn];simp(disch:=exact id (by kernel_rfl)) only[Zee (R:=Unit×Kh) N (CF Zu N [1,0,1,0])]
  kernel_rfl
theorem Zf1(N:Nat):GW 258 (Zae N):=GF Zu N Tryz.func258 (GC (Z8e N) Wg) (λd=>Zf0 N d.1)
def Z6(N:Nat):Sig:=Sig.of [.v Jaa false,.clos 220 0] [.v Jr false] (λd=>Z9 N d.1)
def Zej:Fn:=⟨Tryz.f219,Wx,Z6,λN=>[(258,Zae N)]⟩
theorem Zek(N:Nat):GW 219 (Z6 N):=GF Zej N Tryz.func219 (GC (Zf1 N) Wg)
def Zta(N:Nat):Sig:=Sig.of [.v (TY_Family) true] [.v Jr false] (λd=>Zqb N d.1)
def Zacn:Fn:=⟨Tryz.f158,Wx,Zta,λN=>[(219,Z6 N)]⟩
theorem Zaco(N:Nat):GW 158 (Zta N):=GF Zacn N Tryz.func158 (GC (Zek N) Wg)
def Ztb(N:Nat):Sig:=Sig.of [.v (TY_Family) true] [.v Jx false] (λd=>Ziv N d.1)
def Znq:Fn:=⟨Tryz.f159,λ |5=>[.canon [3,20,21,22,23]]|6=>[.canon [3,4,5,20,21,22]]|7=>[.canon [3,4,5,20,21,22]]|8=>[.canon [3,4,5,20,21,22,37]]|9=>[.canon [3,20,21,22]]|10=>[.canon [3,20,21,22]]|100005=>[.canon [3,20,21,22]]|_=>[],Ztb,λN=>[(83,Zdb N),(145,Zw N)]⟩
def Z3l(t4:List Y_KidRun)(t5:Int)(t6:Int)(l7:List Int):St:=⟨[(3,vO 0),(20,vV Jaa t4),(21,vI t5),(22,vI t6)],[(0,.arr Ja l7)],1⟩
def Z0c(t4:List Y_KidRun)(t5:Int)(ar:Int)(aw:Bool)(aV:List Int):St:=⟨[(3,vO 0),(20,vV Jaa t4),(21,vI t5),(22,vI ar),(23,vB aw)],[(0,.arr Ja aV)],1⟩
theorem Z3m(N:Nat){R:Type}(K:Ex->St->Option R){t4:List Y_KidRun}{t5:Int}{K0:Int->Bool->Ki->Option R}(h0:K0= λar aw aV=>K (.exit 0) (Z0c t4 t5 ar aw aV))(n:Nat)(t6:Int)(l7:List Int):Zbh N t4 t5 K0 n t6 l7=LM Znq N 0 100005 n (Z3l t4 t5 t6 l7) K:=by
  subst h0
  induction n generalizing t6 l7 with
  |zero=>kernel_rfl
  |succ n ih=>rw[Zbh];simp only[ih];kernel_rfl
theorem Zacp(N:Nat)(f1:Y_Family):DN Znq N (f1,())=Ziv N f1:=by
  conv=>rhs;rw[Ziv];simp(disch:=exact id (by kernel_rfl)) only[Z3m (R:=Unit×Kad) N (CF Znq N [1,1,1,0,1,0])]
  kernel_rfl
theorem Zacq(N:Nat):GW 159 (Ztb N):=GF Znq N Tryz.func159 (GC (Zht N) (GC (Z5 N) Wg)) (λd=>Zacp N d.1)
def Ztc(N:Nat):Sig:=Sig.of [.v (TY_Family) true] [.v Jc false] (λd=>Ziw N d.1)
def Znr:Fn:=⟨Tryz.f160,λ |3=>[.canon [3,8,9,10,11]]|4=>[.canon [3,5,8,9,10]]|5=>[.canon [3,8,9,10]]|6=>[.canon [3,8,9,10]]|100003=>[.canon [3,8,9,10]]|_=>[],Ztc,W0⟩
def Z3n(t2:List Kb)(t3:Int)(t4:Int)(l5:List Kc):St:=⟨[(3,vO 0),(8,vV Jo t2),(9,vI t3),(10,vI t4)],[(0,.arr Jt l5)],1⟩
def Z0d(t2:List Kb)(t3:Int)(t6:Int)(t7:Bool)(l8:List Kc):St:=⟨[(3,vO 0),(8,vV Jo t2),(9,vI t3),(10,vI t6),(11,vB t7)],[(0,.arr Jt l8)],1⟩
theorem Z3o(N:Nat){R:Type}(K:Ex->St->Option R){t2:List Kb}{t3:Int}{K0:Int->Bool->Kv->Option R}(h0:K0= λt6 t7 l8=>K (.exit 0) (Z0d t2 t3 t6 t7 l8))(n:Nat)(t4:Int)(l5:List Kc):Zcy N t2 t3 K0 n t4 l5=LM Znr N 0 100003 n (Z3n t2 t3 t4 l5) K:=by
  subst h0
  induction n generalizing t4 l5 with
  |zero=>kernel_rfl
  |succ n ih=>rw[Zcy];simp only[ih];kernel_rfl
theorem Zacr(N:Nat)(f1:Y_Family):DN Znr N (f1,())=Ziw N f1:=by
  conv=>rhs;rw[Ziw];simp(disch:=exact id (by kernel_rfl)) only[Z3o (R:=Unit×(Kv×Unit)) N (CF Znr N [1,1,0,1,0])]
  kernel_rfl
theorem Zacs(N:Nat):GW 160 (Ztc N):=GF Znr N Tryz.func160 Wg (λd=>Zacr N d.1)
def Zp2(N:Nat):Sig:=Sig.of [.box Jk] [] (λd=>Zjk N d.1)
def Z8f:Fn:=⟨Tryz.f95,Wx,Zp2,λN=>[(92,Zdc N),(158,Zta N),(159,Ztb N),(160,Ztc N),(145,Zw N)]⟩
theorem Z8g(N:Nat):GW 95 (Zp2 N):=GF Z8f N Tryz.func95 (GC (Zhu N) (GC (Zaco N) (GC (Zacq N) (GC (Zacs N) (GC (Z5 N) Wg)))))
def Zmg(N:Nat):Sig:=Sig.of [.boxal Jp 3] [] (λd=>Zg1 N d.1 d.2.1)
def Z0e:Fn:=⟨Tryz.f98,λ |1000000=>[.unfE 1]|_=>[],Zmg,λN=>[(96,Zk4 N),(92,Zdc N),(162,Zd7 N),(145,Zw N)]⟩
theorem Z0f(N:Nat):GW 98 (Zmg N):=GF Z0e N Tryz.func98 (GC (Zvj N) (GC (Zhu N) (GC (Zii N) (GC (Z5 N) Wg))))
def Zjz(N:Nat):Sig:=Sig.of [.v Jn true] [.v Ji true] (λd=>Zig N d.1)
def Z6b:Fn:=⟨Tryz.f225,Wx,Zjz,λN=>[(162,Zd7 N),(145,Zw N)]⟩
theorem Zut(N:Nat):GW 225 (Zjz N):=GF Z6b N Tryz.func225 (GC (Zii N) (GC (Z5 N) Wg))
def Zhq(N:Nat):Sig:=Sig.of [.v Jn true] [.v Ja false] (λd=>Zdm N d.1)
def Zya:Fn:=⟨Tryz.f259,Wx,Zhq,W0⟩
theorem Zrq(N:Nat):GW 259 (Zhq N):=GF Zya N Tryz.func259 Wg
def Zly(N:Nat):Sig:=Sig.of [.v Jn true] [.v Jr false] (λd=>Zga N d.1)
def Zgt:Fn:=⟨Tryz.f226,λ |4=>[.canon [1,3,38]]|5=>[.canon [1,3]]|6=>[.canon [1,3,54]]|7=>[.canon [2]]|9=>[.canon [1,56,57,58,59]]|10=>[.canon [1,4,5,56,57,58]]|11=>[.canon [1,56,57,58,79]]|12=>[.canon [2]]|13=>[.canon [1,56,57,58]]|100004=>[.canon [1,3]]|100009=>[.canon [1,56,57,58]]|_=>[],Zly,λN=>[(252,Zfh N),(24,Zr N),(239,Zh6 N),(206,Zb0 N),(259,Zhq N)]⟩
def Z0g(i7:Int)(b8:Int×Int×Int×Int×Int×List Kc×List Int):St:=⟨[(1,vP 0 0),(3,vI i7)],[(0,.box [.val Ja b8.1,.val Ja b8.2.1,.val Ja b8.2.2.1,.val Ja b8.2.2.2.1,.val Ja b8.2.2.2.2.1,.val Jd b8.2.2.2.2.2.1,.val Je b8.2.2.2.2.2.2])],1⟩
def Zyb(b8:Int×Int×Int×Int×Int×List Kc×List Int):St:=⟨[(2,vB false)],[],0⟩
def Zyc(b8:Int×Int×Int×Int×Int×List Kc×List Int)(i9:Int)(ar:Bool):St:=⟨[(1,vP 0 0),(3,vI i9),(38,vB ar)],[(0,.box [.val Ja b8.1,.val Ja b8.2.1,.val Ja b8.2.2.1,.val Ja b8.2.2.2.1,.val Ja b8.2.2.2.2.1,.val Jd b8.2.2.2.2.2.1,.val Je b8.2.2.2.2.2.2])],1⟩
theorem Z0h(N:Nat){R:Type}(K:Ex->St->Option R){b8:Int×Int×Int×Int×Int×List Kc×List Int}{K0:Option R}{K1:Int->Bool->Option R}(h0:K0=K .ret (Zyb b8))(h1:K1= λi9 ar=>K (.exit 0) (Zyc b8 i9 ar))(n:Nat)(i7:Int):Zbs N b8 K0 K1 n i7=LM Zgt N 0 100004 n (Z0g i7 b8) K:=by
  subst h0 h1
  induction n generalizing i7 with
  |zero=>kernel_rfl
  |succ n ih=>rw[Zbs];simp only[ih];kernel_rfl
def Z0i(aU:List Int)(bR:Int)(aC:Int×Int×Int×Int×Int×List Kc×List Int):St:=⟨[(1,vP 0 0),(56,vV Je aU),(57,vI (Wh aC.2.2.2.2.2.2)),(58,vI bR)],[(0,.box [.val Ja aC.1,.val Ja aC.2.1,.val Ja aC.2.2.1,.val Ja aC.2.2.2.1,.val Ja aC.2.2.2.2.1,.val Jd aC.2.2.2.2.2.1,.val Je aC.2.2.2.2.2.2])],1⟩
def Zyd(aU:List Int)(aC:Int×Int×Int×Int×Int×List Kc×List Int):St:=⟨[(2,vB false)],[],0⟩
def Zye(aU:List Int)(aC:Int×Int×Int×Int×Int×List Kc×List Int)(hC:Int)(nJ:Bool):St:=⟨[(1,vP 0 0),(56,vV Je aU),(57,vI (Wh aC.2.2.2.2.2.2)),(58,vI hC),(59,vB nJ)],[(0,.box [.val Ja aC.1,.val Ja aC.2.1,.val Ja aC.2.2.1,.val Ja aC.2.2.2.1,.val Ja aC.2.2.2.2.1,.val Jd aC.2.2.2.2.2.1,.val Je aC.2.2.2.2.2.2])],1⟩
theorem Z0j(N:Nat){R:Type}(K:Ex->St->Option R){aU:List Int}{aC:Int×Int×Int×Int×Int×List Kc×List Int}{K0:Option R}{K1:Int->Bool->Option R}(h0:K0=K .ret (Zyd aU aC))(h1:K1= λhC nJ=>K (.exit 2) (Zye aU aC hC nJ))(n:Nat)(bR:Int):Za8 N aU aC K0 K1 n bR=LM Zgt N 1 100009 n (Z0i aU bR aC) K:=by
  subst h0 h1
  induction n generalizing bR with
  |zero=>kernel_rfl
  |succ n ih=>rw[Za8];simp only[ih];kernel_rfl
theorem Z9x(N:Nat)(c1:Int×Int×Int×Int×Int×List Kc×List Int):DN Zgt N (c1,())=Zga N c1:=by
  conv=>rhs;rw[Zga];simp(disch:=exact id (by kernel_rfl)) only[Z0h (R:=Unit×Kq) N (CF Zgt N [1,1,0,1,0]),Z0j (R:=Unit×Kq) N (CF Zgt N [1,1,1,0,1,0])]
  kernel_rfl
theorem Zv8(N:Nat):GW 226 (Zly N):=GF Zgt N Tryz.func226 (GC (Zjs N) (GC (Zy N) (GC (Zpj N) (GC (Zec N) (GC (Zrq N) Wg))))) (λd=>Z9x N d.1)
def Zgm(N:Nat):Sig:=Sig.of [.box Ji,.v Ja false] [] (λd=>Zv N d.1 d.2.1)
def Zwn:Fn:=⟨Tryz.f227,Wx,Zgm,W0⟩
theorem Zp3(N:Nat):GW 227 (Zgm N):=GF Zwn N Tryz.func227 Wg
def Zns(N:Nat):Sig:=Sig.of [.v Jn true] [.v Ji true,.v Jr false] (λd=>Zko N d.1)
def Z3p:Fn:=⟨Tryz.f163,Wx,Zns,λN=>[(225,Zjz N),(226,Zly N),(227,Zgm N)]⟩
theorem Z3q(N:Nat):GW 163 (Zns N):=GF Z3p N Tryz.func163 (GC (Zut N) (GC (Zv8 N) (GC (Zp3 N) Wg)))
def Zfi(N:Nat):Sig:=Sig.of [.v Jad true] [.v Jy true] (λd=>Zcf N d.1)
def Zact:Fn:=⟨Tryz.f228,Wx,Zfi,W0⟩
theorem Zjt(N:Nat):GW 228 (Zfi N):=GF Zact N Tryz.func228 Wg
def Zvu(N:Nat):Sig:=Sig.of [.v Jad true,.v Ja false,.v Ja false] [.v Jy true,.v Jr false] (λd=>Zrn N d.1 d.2.1 d.2.2.1)
def Zagm:Fn:=⟨Tryz.f230,Wx,Zvu,λN=>[(228,Zfi N),(229,Zfz N),(206,Zb0 N),(252,Zfh N)]⟩
theorem Zagn(N:Nat):GW 230 (Zvu N):=GF Zagm N Tryz.func230 (GC (Zjt N) (GC (Zi8 N) (GC (Zec N) (GC (Zjs N) Wg))))
def Zgz(N:Nat):Sig:=Sig.of [.box Ji,.v Ja false] [] (λd=>Zfp N d.1 d.2.1)
def Zw1:Fn:=⟨Tryz.f233,Wx,Zgz,W0⟩
theorem Zqz(N:Nat):GW 233 (Zgz N):=GF Zw1 N Tryz.func233 Wg
def Znt(N:Nat):Sig:=Sig.of [.box Ji,.v Ja false] [] (λd=>Zbi N d.1 d.2.1)
def Z3r:Fn:=⟨Tryz.f231,Wx,Znt,λN=>[(259,Zhq N),(233,Zgz N)]⟩
theorem Z3s(N:Nat):GW 231 (Znt N):=GF Z3r N Tryz.func231 (GC (Zrq N) (GC (Zqz N) Wg))
def Zvv(N:Nat):Sig:=Sig.of [.v Jad true] [.v Jy true,.v Ja false] (λd=>Zve N d.1)
def Zago:Fn:=⟨Tryz.f232,Wx,Zvv,λN=>[(228,Zfi N),(229,Zfz N)]⟩
theorem Zagp(N:Nat):GW 232 (Zvv N):=GF Zago N Tryz.func232 (GC (Zjt N) (GC (Zi8 N) Wg))
def Zu9(N:Nat):Sig:=Sig.of [.v Jad true,.v Ja false,.v Ja false,.v Ja false] [.v Jy true,.v Jr false] (λd=>Ztk N d.1 d.2.1 d.2.2.1 d.2.2.2.1)
def Zaf1:Fn:=⟨Tryz.f234,Wx,Zu9,λN=>[(228,Zfi N),(229,Zfz N),(206,Zb0 N),(252,Zfh N),(85,Zas N)]⟩
theorem Zaf2(N:Nat):GW 234 (Zu9 N):=GF Zaf1 N Tryz.func234 (GC (Zjt N) (GC (Zi8 N) (GC (Zec N) (GC (Zjs N) (GC (Zbo N) Wg)))))
def Zum(N:Nat):Sig:=Sig.of [.v Jad true,.v Ja false,.v Ja false,.v Ja false] [.v Jy true,.v Jr false] (λd=>Zn3 N d.1 d.2.1 d.2.2.1 d.2.2.2.1)
def Zaev:Fn:=⟨Tryz.f235,Wx,Zum,λN=>[(228,Zfi N),(229,Zfz N),(206,Zb0 N),(252,Zfh N),(24,Zr N)]⟩
theorem Zaew(N:Nat):GW 235 (Zum N):=GF Zaev N Tryz.func235 (GC (Zjt N) (GC (Zi8 N) (GC (Zec N) (GC (Zjs N) (GC (Zy N) Wg)))))
def Zog(N:Nat):Sig:=Sig.of [.v Jad true,.v Jn true] [.v Jy true,.v Ji true] (λd=>Zli N d.1 d.2.1)
def Z6c:Fn:=⟨Tryz.f164,Wx,Zog,λN=>[(228,Zfi N),(225,Zjz N),(229,Zfz N),(226,Zly N),(230,Zvu N),(231,Znt N),(227,Zgm N),(232,Zvv N),(233,Zgz N),(234,Zu9 N),(235,Zum N)]⟩
theorem Z6d(N:Nat):GW 164 (Zog N):=GF Z6c N Tryz.func164 (GC (Zjt N) (GC (Zut N) (GC (Zi8 N) (GC (Zv8 N) (GC (Zagn N) (GC (Z3s N) (GC (Zp3 N) (GC (Zagp N) (GC (Zqz N) (GC (Zaf2 N) (GC (Zaew N) Wg)))))))))))
def Zmh(N:Nat):Sig:=Sig.of [.box Jp,.v Ja false] [] (λd=>Zg2 N d.1 d.2.1)
def Z0k:Fn:=⟨Tryz.f99,λ |0=>[.opn 13]|_=>[],Zmh,λN=>[(163,Zns N),(92,Zdc N),(164,Zog N),(162,Zd7 N)]⟩
theorem Z0l(N:Nat):GW 99 (Zmh N):=GF Z0k N Tryz.func99 (GC (Z3q N) (GC (Zhu N) (GC (Z6d N) (GC (Zii N) Wg))))
def Zj0(N:Nat):Sig:=Sig.of [.v Jb true,.box Ja] [.v Jr false] (λd=>Zgq N d.1 d.2.1)
def Z6e:Fn:=⟨Tryz.f168,Wx,Zj0,W0⟩
theorem Zuu(N:Nat):GW 168 (Zj0 N):=GF Z6e N Tryz.func168 Wg
def Zai(N:Nat):Sig:=Sig.of [.v Jo false,.clos 168 1,.box Ja] [.v Ja false] (λd=>Zq N d.1 d.2.1)
def Z0:Fn:=⟨Tryz.f238,λ |2=>[.canon [0,1,7,8,9]]|3=>[.canon [0,1,5,7,8]]|4=>[.canon [0,1,5,7,8,16]]|5=>[.canon [1,4]]|6=>[.canon [0,1,7,8]]|100002=>[.canon [0,1,7,8]]|_=>[],Zai,λN=>[(168,Zj0 N)]⟩
def Zfj(s3:List Kb)(t5:Int)(b6:Int):St:=⟨[(0,vV Jo s3),(1,.s (.one (.clos 168 [0]))),(7,vI (Wh s3)),(8,vI t5)],[(0,.box [.val Ja b6])],1⟩
def Zer(s3:List Kb)(t9:Int)(ac:Int):St:=⟨[(1,.s (.one (.clos 168 [0]))),(4,vI t9)],[(0,.box [.val Ja ac])],1⟩
def Zes(s3:List Kb)(aw:Int)(aB:Bool)(bE:Int):St:=⟨[(0,vV Jo s3),(1,.s (.one (.clos 168 [0]))),(7,vI (Wh s3)),(8,vI aw),(9,vB aB)],[(0,.box [.val Ja bE])],1⟩
theorem Zfk(N:Nat){R:Type}(K:Ex->St->Option R){s3:List Kb}{K0:Int->Int->Option R}{K1:Int->Bool->Int->Option R}(h0:K0= λt9 ac=>K .ret (Zer s3 t9 ac))(h1:K1= λaw aB bE=>K (.exit 0) (Zes s3 aw aB bE))(n:Nat)(t5:Int)(b6:Int):Ze N s3 K0 K1 n t5 b6=LM Z0 N 0 100002 n (Zfj s3 t5 b6) K:=by
  subst h0 h1
  induction n generalizing t5 b6 with
  |zero=>kernel_rfl
  |succ n ih=>rw[Ze];simp only[ih];kernel_rfl
theorem Zgn(N:Nat)(s1:List Kb)(dw:Int):DN Z0 N (s1,dw,())=Zq N s1 dw:=by
  conv=>rhs;rw[Zq];simp(disch:=exact id (by kernel_rfl)) only[Zfk (R:=Kh×Kh) N (CF Z0 N [1,0,1,0])]
  kernel_rfl
theorem Zgo(N:Nat):GW 238 (Zai N):=GF Z0 N Tryz.func238 (GC (Zuu N) Wg) (λd=>Zgn N d.1 d.2.1)
def Zag(N:Nat):Sig:=Sig.of [.v Jam false,.clos 168 1,.box Ja] [.v Jam false] (λd=>Zl N d.1 d.2.1)
def Zx:Fn:=⟨Tryz.f167,λ |5=>[.canon [0,1,5,6,19]]|6=>[.canon [0,1,5,6]]|7=>[.canon [0,1,5,6,7]]|8=>[.canon [0,1,5,6,7,29]]|9=>[.canon [0,1,5,6]]|10=>[.canon [0,1,5,6]]|11=>[.view 38]|100005=>[.canon [0,1,5,6]]|_=>[],Zag,λN=>[(238,Zai N),(168,Zj0 N)]⟩
def Zet(i4:Int)(j5:Int)(l6:List Kb)(b7:Int):St:=⟨[(0,vO 0),(1,.s (.one (.clos 168 [1]))),(5,vI i4),(6,vI j5)],[(0,.arr Jb l6),(1,.box [.val Ja b7])],2⟩
def Zel(i9:Int)(qD:Int)(aw:Bool)(aV:List Kb)(bE:Int):St:=⟨[(0,vO 0),(1,.s (.one (.clos 168 [1]))),(5,vI i9),(6,vI qD),(19,vB aw)],[(0,.arr Jb aV),(1,.box [.val Ja bE])],2⟩
theorem Zeu(N:Nat){R:Type}(K:Ex->St->Option R){K0:Int->Int->Bool->Kr->Int->Option R}(h0:K0= λi9 qD aw aV bE=>K (.exit 0) (Zel i9 qD aw aV bE))(n:Nat)(i4:Int)(j5:Int)(l6:List Kb)(b7:Int):Za N K0 n i4 j5 l6 b7=LM Zx N 0 100005 n (Zet i4 j5 l6 b7) K:=by
  subst h0
  induction n generalizing i4 j5 l6 b7 with
  |zero=>kernel_rfl
  |succ n ih=>rw[Za];simp only[ih];kernel_rfl
theorem Zf5(N:Nat)(s1:List Kb)(dw:Int):DN Zx N (s1,dw,())=Zl N s1 dw:=by
  conv=>rhs;rw[Zl];simp(disch:=exact id (by kernel_rfl)) only[Zeu (R:=Kh×Kac) N (CF Zx N [1,1,1,0,1,0])]
  kernel_rfl
theorem Zf6(N:Nat):GW 167 (Zag N):=GF Zx N Tryz.func167 (GC (Zgo N) (GC (Zuu N) Wg)) (λd=>Zf5 N d.1 d.2.1)
def Zrf(N:Nat):Sig:=Sig.of [.v Jo false,.v Ja false] [.v Jam false] (λd=>Zom N d.1 d.2.1)
def Z9y:Fn:=⟨Tryz.f100,Wx,Zrf,λN=>[(165,Zk6 N),(166,Zhj N),(167,Zag N)]⟩
theorem Z9z(N:Nat):GW 100 (Zrf N):=GF Z9y N Tryz.func100 (GC (Zvl N) (GC (Znj N) (GC (Zf6 N) Wg)))
def Zoh(N:Nat):Sig:=Sig.of [.box Jp,.v Ja false,.v Jag true] [] (λd=>Zih N d.1 d.2.1 d.2.2.1)
def Z6f:Fn:=⟨Tryz.f51,λ |1=>[.opn 12]|_=>[],Zoh,λN=>[(24,Zr N),(92,Zdc N),(93,Zoe N),(94,Zp0 N),(95,Zp2 N),(96,Zh7 N),(97,Zjy N),(98,Zmg N),(99,Zmh N),(100,Zrf N),(101,Zk2 N)]⟩
theorem Z6g(N:Nat):GW 51 (Zoh N):=GF Z6f N Tryz.func51 (GC (Zy N) (GC (Zhu N) (GC (Z5z N) (GC (Z8c N) (GC (Z8g N) (GC (Ztg N) (GC (Zus N) (GC (Z0f N) (GC (Z0l N) (GC (Z9z N) (GC (Zvh N) Wg)))))))))))
def Zj1(N:Nat):Sig:=Sig.of [.v Jb true,.box Ja] [.v Jr false] (λd=>Zl3 N d.1 d.2.1)
def Zw2:Fn:=⟨Tryz.f175,Wx,Zj1,W0⟩
theorem Zw3(N:Nat):GW 175 (Zj1 N):=GF Zw2 N Tryz.func175 Wg
def Z7(N:Nat):Sig:=Sig.of [.v Jo false,.clos 175 1,.box Ja] [.v Ja false] (λd=>Zi N d.1 d.2.1)
def Zs:Fn:=⟨Tryz.f174,λ |2=>[.canon [0,1,7,8,9]]|3=>[.canon [0,1,5,7,8]]|4=>[.canon [0,1,5,7,8,16]]|5=>[.canon [1,4]]|6=>[.canon [0,1,7,8]]|100002=>[.canon [0,1,7,8]]|_=>[],Z7,λN=>[(175,Zj1 N)]⟩
def Zdp(s3:List Kb)(t5:Int)(b6:Int):St:=⟨[(0,vV Jo s3),(1,.s (.one (.clos 175 [0]))),(7,vI (Wh s3)),(8,vI t5)],[(0,.box [.val Ja b6])],1⟩
def Zdh(s3:List Kb)(t9:Int)(ac:Int):St:=⟨[(1,.s (.one (.clos 175 [0]))),(4,vI t9)],[(0,.box [.val Ja ac])],1⟩
def Zdi(s3:List Kb)(aw:Int)(aB:Bool)(bE:Int):St:=⟨[(0,vV Jo s3),(1,.s (.one (.clos 175 [0]))),(7,vI (Wh s3)),(8,vI aw),(9,vB aB)],[(0,.box [.val Ja bE])],1⟩
theorem Zdq(N:Nat){R:Type}(K:Ex->St->Option R){s3:List Kb}{K0:Int->Int->Option R}{K1:Int->Bool->Int->Option R}(h0:K0= λt9 ac=>K .ret (Zdh s3 t9 ac))(h1:K1= λaw aB bE=>K (.exit 0) (Zdi s3 aw aB bE))(n:Nat)(t5:Int)(b6:Int):Zc N s3 K0 K1 n t5 b6=LM Zs N 0 100002 n (Zdp s3 t5 b6) K:=by
  subst h0 h1
  induction n generalizing t5 b6 with
  |zero=>kernel_rfl
  |succ n ih=>rw[Zc];simp only[ih];kernel_rfl
theorem Zem(N:Nat)(s1:List Kb)(dw:Int):DN Zs N (s1,dw,())=Zi N s1 dw:=by
  conv=>rhs;rw[Zi];simp(disch:=exact id (by kernel_rfl)) only[Zdq (R:=Kh×Kh) N (CF Zs N [1,0,1,0])]
  kernel_rfl
theorem Zen(N:Nat):GW 174 (Z7 N):=GF Zs N Tryz.func174 (GC (Zw3 N) Wg) (λd=>Zem N d.1 d.2.1)
def Zf2(N:Nat):Sig:=Sig.of [.rp (TY_Family),.v Ja false] [.v Ja false] (λd=>Zcm N d.1 d.2.1)
def Z0m:Fn:=⟨Tryz.f104,Wx,Zf2,λN=>[(174,Z7 N)]⟩
theorem Zmi(N:Nat):GW 104 (Zf2 N):=GF Z0m N Tryz.func104 (GC (Zen N) Wg)
def Zg0(N:Nat):Sig:=Sig.of [.box Jf,.v Ja false] [] (λd=>Zba N d.1 d.2.1)
def Zw4:Fn:=⟨Tryz.f105,Wx,Zg0,λN=>[(145,Zw N)]⟩
theorem Zq0(N:Nat):GW 105 (Zg0 N):=GF Zw4 N Tryz.func105 (GC (Z5 N) Wg)
def Znu(N:Nat):Sig:=Sig.of [.box Jf,.v Ja false,.v Jq true,.v Jad true] [] (λd=>Zki N d.1 d.2.1 d.2.2.1 d.2.2.2.1)
def Z3t:Fn:=⟨Tryz.f169,λ |1=>[.opn 18]|_=>[],Znu,λN=>[(211,Zn9 N),(104,Zf2 N),(105,Zg0 N),(212,Zlw N),(213,Zk3 N)]⟩
theorem Z3u(N:Nat):GW 169 (Znu N):=GF Z3t N Tryz.func169 (GC (Zvt N) (GC (Zmi N) (GC (Zq0 N) (GC (Zv6 N) (GC (Zvi N) Wg)))))
def Zmj(N:Nat):Sig:=Sig.of [.box Jl,.v Jg false] [] (λd=>Zju N d.1 d.2.1)
def Z0n:Fn:=⟨Tryz.f170,λ |5=>[.opn 28]|_=>[],Zmj,λN=>[(145,Zw N),(162,Zd7 N),(215,Zqu N)]⟩
theorem Z0o(N:Nat):GW 170 (Zmj N):=GF Z0n N Tryz.func170 (GC (Z5 N) (GC (Zii N) (GC (Zz4 N) Wg)))
def Zoi(N:Nat):Sig:=Sig.of [.box Jf,.v Ja false,.v Jg false,.v Jad true] [] (λd=>Zlf N d.1 d.2.1 d.2.2.1 d.2.2.2.1)
def Z6h:Fn:=⟨Tryz.f102,λ |1=>[.opn 16]|18=>[.nest 128 Jaj]|_=>[],Zoi,λN=>[(169,Znu N),(170,Zmj N),(145,Zw N),(157,Zr6 N)]⟩
theorem Z6i(N:Nat):GW 102 (Zoi N):=GF Z6h N Tryz.func102 (GC (Z3u N) (GC (Z0o N) (GC (Z5 N) (GC (Z4c N) Wg))))
def Za2(N:Nat):Sig:=Sig.of [.mut Jb,.clos 173 0] [] (λd=>Zaa N d.1)
theorem Zev:CmpOk Tryz.prog 173 Jb WuD cfE:=by
  intro G x y us vs w hx hy h1 h2;obtain⟨_,_,rfl,a1,_,_,rfl,a2,a3⟩:=h1;obtain⟨_,_,rfl,b1,_,_,rfl,b2,b3⟩:=h2;simp only[Enc]at a1 a2 a3 b1 b2 b3;subst a1 a2 a3 b1 b2 b3;simp only[Xbb,Xaq]
  go_enter Tryz.func173,Tryz.ntmps173
  go_wp2
  rw[sub_run (Wgz hx) (Wgz hy) (c:=cfE x y) rfl]
  go_wp2
  go_ret
  exact⟨rfl,two_grow _ _ _⟩
theorem Zew(N:Nat):GW 172 (Za2 N):=⟨Wfr Tryz.func172 (show Wqj Tryz.f172=true by kernel_rfl),good_sortF sortFE (e:=.prod Ja Jt) rfl (by decide) Tryz.isAgg143 Tryz.sizeOf143 (enters_of Tryz.func173 (by kernel_rfl) rfl) Wvb Zev N⟩
def Zmk(N:Nat):Sig:=Sig.of [.box Jf,.v Ja false] [] (λd=>Zef N d.1 d.2.1)
def Zcr:Fn:=⟨Tryz.f103,λ |0=>[.opn 16]|3=>[.canon [0,1,4,28,29,30,31]]|4=>[.canon [0,1,4,6,28,29,30]]|5=>[.canon [0,1,4,6,7,28,29,30]]|6=>[.canon [0,1,4,7,8,28,29,30]]|7=>[.canon [0,1,4,7,8,28,29,30,48]]|8=>[.canon [0,1,4,28,29,30]]|9=>[.canon [0,1,4,28,29,30]]|10=>[.canon [0,1,4,28,29,30]]|13=>[.canon [0,1,4,75,76,77,78]]|14=>[.canon [0,1,4,10,75,76,77]]|15=>[.canon [0,1,4,10,75,76,77,83]]|16=>[.canon [0,1,4,75,76,77]]|17=>[.canon [0,1,4,75,76,77]]|100003=>[.canon [0,1,4,28,29,30]]|100013=>[.canon [0,1,4,75,76,77]]|_=>[],Zmk,λN=>[(171,Zmf N),(104,Zf2 N),(172,Za2 N)]⟩
def Zv9(k4:Int)(t5:Int)(t6:Int)(b7:Int)(b8:Int)(b9:Int)(ac:Bool)(ca:Int)(cE:Int)(bE:Int)(cj:Int)(bk:Int)(aC:Int)(gZ:Bool)(bb:Int)(dL:Int)(dI:Int)(dJ:Int)(cy:List Kc)(fO:List Int)(dx:List Kc)(dy:List Kb)(c7:List Int)(cg:List Kc)(cR:List Y_KidRun)(g0:Nat)(fP:List Int)(eU:List Kb)(cq:List Kc)(cV:List Kj):St:=⟨[(0,vP 0 0),(1,vI k4),(4,vP 1 0),(28,vO 2),(29,vI t5),(30,vI t6)],[(0,.box [.val Ja b7,.val Ja b8,.val Ja b9,.val Jr ac,.own 3,.own 4,.own 5,.own 6,.own 7,.own 8]),(1,.box [.val Ja ca,.val Ja cE,.val Ja bE,.val Ja cj,.val Ja bk,.val Ja aC,.own 9,.own 10,.own 11,.own 12,.val Jr gZ,.val Ja bb,.val Ja dL,.val Ja dI,.val Ja dJ]),(2,.arr Jt cy),(3,.arr Ja fO),(4,.arr Jt dx),(5,.arr Jb dy),(6,.arr Ja c7),(7,.arr Jt cg),(8,.hole Jl cR g0 1),(9,.arr Ja fP),(10,.arr Jb eU),(11,.arr Jt cq),(12,.arr Jaj cV)],13⟩
def Zvw(k4:Int)(t5:Int)(b7:Int)(b8:Int)(b9:Int)(ac:Bool)(ca:Int)(cE:Int)(bE:Int)(cj:Int)(bk:Int)(aC:Int)(gZ:Bool)(bb:Int)(dL:Int)(dI:Int)(dJ:Int)(cy:List Kc)(fO:List Int)(dx:List Kc)(c7:List Int)(cg:List Kc)(cR:List Y_KidRun)(g0:Nat)(fP:List Int)(eU:List Kb)(cq:List Kc)(cV:List Kj)(qE:Int)(lO:Bool)(qF:List Kb):St:=⟨[(0,vP 0 0),(1,vI k4),(4,vP 1 0),(28,vO 2),(29,vI t5),(30,vI qE),(31,vB lO)],[(0,.box [.val Ja b7,.val Ja b8,.val Ja b9,.val Jr ac,.own 3,.own 4,.own 5,.own 6,.own 7,.own 8]),(1,.box [.val Ja ca,.val Ja cE,.val Ja bE,.val Ja cj,.val Ja bk,.val Ja aC,.own 9,.own 10,.own 11,.own 12,.val Jr gZ,.val Ja bb,.val Ja dL,.val Ja dI,.val Ja dJ]),(2,.arr Jt cy),(3,.arr Ja fO),(4,.arr Jt dx),(5,.arr Jb qF),(6,.arr Ja c7),(7,.arr Jt cg),(8,.hole Jl cR g0 1),(9,.arr Ja fP),(10,.arr Jb eU),(11,.arr Jt cq),(12,.arr Jaj cV)],13⟩
theorem Zwa(N:Nat){R:Type}(K:Ex->St->Option R){k4:Int}{t5:Int}{b7:Int}{b8:Int}{b9:Int}{ac:Bool}{ca:Int}{cE:Int}{bE:Int}{cj:Int}{bk:Int}{aC:Int}{gZ:Bool}{bb:Int}{dL:Int}{dI:Int}{dJ:Int}{cy:List Kc}{fO:List Int}{dx:List Kc}{c7:List Int}{cg:List Kc}{cR:List Y_KidRun}{g0:Nat}{fP:List Int}{eU:List Kb}{cq:List Kc}{cV:List Kj}{K0:Int->Bool->Kr->Option R}(h0:K0= λqE lO qF=>K (.exit 0) (Zvw k4 t5 b7 b8 b9 ac ca cE bE cj bk aC gZ bb dL dI dJ cy fO dx c7 cg cR g0 fP eU cq cV qE lO qF))(n:Nat)(t6:Int)(dy:List Kb):Zam N k4 t5 b7 b8 b9 ac ca cE bE cj bk aC gZ bb dL dI dJ cy fO dx c7 cg cR g0 fP eU cq cV K0 n t6 dy=LM Zcr N 0 100003 n (Zv9 k4 t5 t6 b7 b8 b9 ac ca cE bE cj bk aC gZ bb dL dI dJ cy fO dx dy c7 cg cR g0 fP eU cq cV) K:=by
  subst h0
  induction n generalizing t6 dy with
  |zero=>kernel_rfl
  |succ n ih=>rw[Zam];simp only[ih];kernel_rfl
def Zwb(eM:Int)(iU:Int)(t45:Int)(eN:Int)(eO:Int)(eP:Int)(eQ:Bool)(eR:Int)(eS:Int)(eT:Int)(bw:Int)(iW:Int)(iX:Int)(iY:Bool)(iZ:Int)(ja:Int)(jb:Int)(gB:Int)(dg:List Kb)(jc:List Int)(jd:List Kc)(gD:List Kb)(gE:List Int)(im:List Kc)(gF:List Y_KidRun)(je:Nat)(dr:List Int)(dq:List Kc)(fD:List Kj):St:=⟨[(0,vP 0 0),(1,vI eM),(4,vP 1 0),(75,vO 2),(76,vI iU),(77,vI t45)],[(0,.box [.val Ja eN,.val Ja eO,.val Ja eP,.val Jr eQ,.own 3,.own 4,.own 5,.own 6,.own 7,.own 8]),(1,.box [.val Ja eR,.val Ja eS,.val Ja eT,.val Ja bw,.val Ja iW,.val Ja iX,.own 9,.own 2,.own 10,.own 11,.val Jr iY,.val Ja iZ,.val Ja ja,.val Ja jb,.val Ja gB]),(2,.arr Jb dg),(3,.arr Ja jc),(4,.arr Jt jd),(5,.arr Jb gD),(6,.arr Ja gE),(7,.arr Jt im),(8,.hole Jl gF je 1),(9,.arr Ja dr),(10,.arr Jt dq),(11,.arr Jaj fD)],12⟩
def Zvx(eM:Int)(iU:Int)(eN:Int)(eO:Int)(eP:Int)(eQ:Bool)(eR:Int)(eS:Int)(eT:Int)(bw:Int)(iW:Int)(iX:Int)(iY:Bool)(iZ:Int)(ja:Int)(jb:Int)(gB:Int)(dg:List Kb)(jc:List Int)(jd:List Kc)(gD:List Kb)(gE:List Int)(gF:List Y_KidRun)(je:Nat)(dr:List Int)(dq:List Kc)(fD:List Kj)(lR:Int)(qG:Bool)(qH:List Kc):St:=⟨[(0,vP 0 0),(1,vI eM),(4,vP 1 0),(75,vO 2),(76,vI iU),(77,vI lR),(78,vB qG)],[(0,.box [.val Ja eN,.val Ja eO,.val Ja eP,.val Jr eQ,.own 3,.own 4,.own 5,.own 6,.own 7,.own 8]),(1,.box [.val Ja eR,.val Ja eS,.val Ja eT,.val Ja bw,.val Ja iW,.val Ja iX,.own 9,.own 2,.own 10,.own 11,.val Jr iY,.val Ja iZ,.val Ja ja,.val Ja jb,.val Ja gB]),(2,.arr Jb dg),(3,.arr Ja jc),(4,.arr Jt jd),(5,.arr Jb gD),(6,.arr Ja gE),(7,.arr Jt qH),(8,.hole Jl gF je 1),(9,.arr Ja dr),(10,.arr Jt dq),(11,.arr Jaj fD)],12⟩
theorem Zwc(N:Nat){R:Type}(K:Ex->St->Option R){eM:Int}{iU:Int}{eN:Int}{eO:Int}{eP:Int}{eQ:Bool}{eR:Int}{eS:Int}{eT:Int}{bw:Int}{iW:Int}{iX:Int}{iY:Bool}{iZ:Int}{ja:Int}{jb:Int}{gB:Int}{dg:List Kb}{jc:List Int}{jd:List Kc}{gD:List Kb}{gE:List Int}{gF:List Y_KidRun}{je:Nat}{dr:List Int}{dq:List Kc}{fD:List Kj}{K0:Int->Bool->Kv->Option R}(h0:K0= λlR qG qH=>K (.exit 2) (Zvx eM iU eN eO eP eQ eR eS eT bw iW iX iY iZ ja jb gB dg jc jd gD gE gF je dr dq fD lR qG qH))(n:Nat)(t45:Int)(im:List Kc):Zat N eM iU eN eO eP eQ eR eS eT bw iW iX iY iZ ja jb gB dg jc jd gD gE gF je dr dq fD K0 n t45 im=LM Zcr N 1 100013 n (Zwb eM iU t45 eN eO eP eQ eR eS eT bw iW iX iY iZ ja jb gB dg jc jd gD gE im gF je dr dq fD) K:=by
  subst h0
  induction n generalizing t45 im with
  |zero=>kernel_rfl
  |succ n ih=>rw[Zat];simp only[ih];kernel_rfl
theorem Z0p(N:Nat)(f1:Y_Family)(k2:Int):DN Zcr N (f1,k2,())=Zef N f1 k2:=by
  conv=>rhs;rw[Zef];simp(disch:=exact id (by kernel_rfl)) only[Zwa (R:=(Y_Family×Unit)×Unit) N (CF Zcr N [1,1,0,1,0]),Zwc (R:=(Y_Family×Unit)×Unit) N (CF Zcr N [1,1,1,1,0,1,0])]
  kernel_rfl
theorem Z0q(N:Nat):GW 103 (Zmk N):=GF Zcr N Tryz.func103 (GC (Zuh N) (GC (Zmi N) (GC (Zew N) Wg))) (λd=>Z0p N d.1 d.2.1)
def Znv(N:Nat):Sig:=Sig.of [.box Jf,.v Ja false,.v Jg false,.v Jad true] [] (λd=>Zkj N d.1 d.2.1 d.2.2.1 d.2.2.2.1)
def Z3v:Fn:=⟨Tryz.f52,λ |2=>[.opn 20]|_=>[],Znv,λN=>[(102,Zoi N),(103,Zmk N),(104,Zf2 N),(105,Zg0 N)]⟩
theorem Z3w(N:Nat):GW 52 (Znv N):=GF Z3v N Tryz.func52 (GC (Z6i N) (GC (Z0q N) (GC (Zmi N) (GC (Zq0 N) Wg))))
def Zk7(N:Nat):Sig:=Sig.of [.box Jp,.v Js true,.v Jb true] [] (λd=>Ze8 N d.1 d.2.1 d.2.2.1)
def Z8h:Fn:=⟨Tryz.f25,λ |3=>[.unfE 6]|_=>[],Zk7,λN=>[(24,Zr N),(51,Zoh N),(52,Znv N)]⟩
theorem Zvm(N:Nat):GW 25 (Zk7 N):=GF Z8h N Tryz.func25 (GC (Zy N) (GC (Z6g N) (GC (Z3w N) Wg)))
def Zvy(N:Nat):Sig:=Sig.of [.v Js true] [.v Jp true] (λd=>Zoa N d.1)
def Zr7:Fn:=⟨Tryz.f23,λ |3=>[.nest 21 Jk]|6=>[.canon [1,2,3,32,33,34,35]]|7=>[.canon [1,2,3,5,32,33,34]]|8=>[.canon [1,2,3,32,33,34]]|9=>[.canon [1,2,3,32,33,34]]|100006=>[.adoptC 3 6 Jb,.adoptC 3 8 Jw,.canon [1,2,3,32,33,34]]|_=>[],Zvy,λN=>[(22,Zlu N),(49,Zpx N),(50,Zuf N),(25,Zk7 N)]⟩
def Z90(t5:List Kb)(t7:Int)(b8:Kf×List Km×List Kb)(bE:Int)(cj:Int)(bk:Int)(aC:Int)(dZ:List Kb)(cb:List Int)(ax:List Kb)(cw:List Y_Root)(dG:List Kn):St:=⟨[(1,vP 0 0),(2,vP 1 0),(3,vP 2 0),(32,vV Jo t5),(33,vI (Wh b8.2.2)),(34,vI t7)],[(0,.box [.val Je b8.1.1,.val Je b8.1.2.1,.val Ja b8.1.2.2,.val Jm b8.2.1,.val Jo b8.2.2]),(1,.box [.val Ja (0:Int),.val Ja (0:Int),.val Ja (0:Int),.nils,.nils,.val Ja (0:Int),.nils,.nils,.nils]),(2,.box [.val Ja bE,.val Ja cj,.val Ja bk,.own 3,.own 4,.val Ja aC,.own 5,.own 6,.own 7]),(3,.arr Jb dZ),(4,.arr Ja cb),(5,.arr Jb ax),(6,.arr Jk cw),(7,.arr Jw dG)],8⟩
def Z8i(t5:List Kb)(b8:Kf×List Km×List Kb)(jH:Int)(t25:Bool)(qI:Int)(lT:Int)(lU:Int)(lV:Int)(fP:List Kb)(eU:List Int)(cq:List Kb)(cV:List Y_Root)(lW:List Kn):St:=⟨[(1,vP 0 0),(2,vP 1 0),(3,vP 2 0),(32,vV Jo t5),(33,vI (Wh b8.2.2)),(34,vI jH),(35,vB t25)],[(0,.box [.val Je b8.1.1,.val Je b8.1.2.1,.val Ja b8.1.2.2,.val Jm b8.2.1,.val Jo b8.2.2]),(1,.box [.val Ja (0:Int),.val Ja (0:Int),.val Ja (0:Int),.nils,.nils,.val Ja (0:Int),.nils,.nils,.nils]),(2,.box [.val Ja qI,.val Ja lT,.val Ja lU,.own 3,.own 4,.val Ja lV,.own 5,.own 6,.own 7]),(3,.arr Jb fP),(4,.arr Ja eU),(5,.arr Jb cq),(6,.arr Jk cV),(7,.arr Jw lW)],8⟩
theorem Z91(N:Nat){R:Type}(K:Ex->St->Option R){t5:List Kb}{b8:Kf×List Km×List Kb}{K0:Int->Bool->Int->Int->Int->Int->Kr->Ki->Kr->(List Y_Root)->(List Kn)->Option R}(h0:K0= λjH t25 qI lT lU lV fP eU cq cV lW=>K (.exit 0) (Z8i t5 b8 jH t25 qI lT lU lV fP eU cq cV lW))(n:Nat)(t7:Int)(bE:Int)(cj:Int)(bk:Int)(aC:Int)(dZ:List Kb)(cb:List Int)(ax:List Kb)(cw:List Y_Root)(dG:List Kn):Za1 N t5 b8 K0 n t7 bE cj bk aC dZ cb ax cw dG=LM Zr7 N 0 100006 n (Z90 t5 t7 b8 bE cj bk aC dZ cb ax cw dG) K:=by
  subst h0
  induction n generalizing t7 bE cj bk aC dZ cb ax cw dG with
  |zero=>kernel_rfl
  |succ n ih=>rw[Za1];simp only[ih];kernel_rfl
theorem Zagq(N:Nat)(s1:Kf×List Km×List Kb):DN Zr7 N (s1,())=Zoa N s1:=by
  conv=>rhs;rw[Zoa];simp(disch:=exact id (by kernel_rfl)) only[Z91 (R:=Unit×(Y_World×Unit)) N (CF Zr7 N [1,1,1,1,0,1,0])]
  kernel_rfl
theorem Zagr(N:Nat):GW 23 (Zvy N):=GF Zr7 N Tryz.func23 (GC (Zv4 N) (GC (Z7u N) (GC (Zaem N) (GC (Zvm N) Wg)))) (λd=>Zagq N d.1)
def Ztd(N:Nat):Sig:=Sig.of [.v Js true] [.v Jal false] (λd=>Zg9 N d.1)
def Znw:Fn:=⟨Tryz.f7,λ |8=>[.canon [1,3,5,18,19,20,21]]|9=>[.canon [1,3,5,6,7,18,19,20]]|10=>[.canon [1,3,5,6,7,8,18,19,20]]|11=>[.canon [1,3,5,6,7,8,18,19,20,31]]|12=>[.canon [1,3,5,6,7,8,18,19,20]]|13=>[.canon [1,3,5,6,7,8,18,19,20]]|14=>[.canon [1,3,5,6,7,8,18,19,20,54]]|15=>[.canon [1,3,5,18,19,20]]|16=>[.canon [1,3,5,18,19,20]]|100008=>[.canon [1,3,5,18,19,20]]|_=>[],Ztd,λN=>[(22,Zlu N),(23,Zvy N),(24,Zr N),(25,Zk7 N)]⟩
def Z3x(t4:List Kb)(t5:Int)(t6:Int)(b7:List Int)(b8:List Int)(b9:Int)(ac:List Km)(an:List Ka)(cE:Int)(bE:Int)(cj:Int)(bk:Int)(cC:List Kb)(dZ:List Int)(cb:List Kb)(ax:List Y_Root)(cw:List Kn):St:=⟨[(1,vP 0 0),(3,vO 1),(5,vP 2 0),(18,vV Jo t4),(19,vI t5),(20,vI t6)],[(0,.box [.val Je b7,.val Je b8,.val Ja b9,.val Jm ac,.nils]),(1,.arr Jq an),(2,.box [.val Ja cE,.val Ja bE,.val Ja cj,.own 3,.own 4,.val Ja bk,.own 5,.own 6,.own 7]),(3,.arr Jb cC),(4,.arr Ja dZ),(5,.arr Jb cb),(6,.arr Jk ax),(7,.arr Jw cw)],8⟩
def Z0r(t4:List Kb)(t5:Int)(b7:List Int)(b8:List Int)(b9:Int)(ac:List Km)(jH:Int)(t25:Bool)(c7:List Ka)(lT:Int)(lU:Int)(lV:Int)(qJ:Int)(eU:List Kb)(cq:List Int)(cV:List Kb)(lW:List Y_Root)(qK:List Kn):St:=⟨[(1,vP 0 0),(3,vO 1),(5,vP 2 0),(18,vV Jo t4),(19,vI t5),(20,vI jH),(21,vB t25)],[(0,.box [.val Je b7,.val Je b8,.val Ja b9,.val Jm ac,.nils]),(1,.arr Jq c7),(2,.box [.val Ja lT,.val Ja lU,.val Ja lV,.own 3,.own 4,.val Ja qJ,.own 5,.own 6,.own 7]),(3,.arr Jb eU),(4,.arr Ja cq),(5,.arr Jb cV),(6,.arr Jk lW),(7,.arr Jw qK)],8⟩
theorem Z3y(N:Nat){R:Type}(K:Ex->St->Option R){t4:List Kb}{t5:Int}{b7:List Int}{b8:List Int}{b9:Int}{ac:List Km}{K0:Int->Bool->Kaa->Int->Int->Int->Int->Kr->Ki->Kr->(List Y_Root)->(List Kn)->Option R}(h0:K0= λjH t25 c7 lT lU lV qJ eU cq cV lW qK=>K (.exit 0) (Z0r t4 t5 b7 b8 b9 ac jH t25 c7 lT lU lV qJ eU cq cV lW qK))(n:Nat)(t6:Int)(an:List Ka)(cE:Int)(bE:Int)(cj:Int)(bk:Int)(cC:List Kb)(dZ:List Int)(cb:List Kb)(ax:List Y_Root)(cw:List Kn):Zab N t4 t5 b7 b8 b9 ac K0 n t6 an cE bE cj bk cC dZ cb ax cw=LM Znw N 0 100008 n (Z3x t4 t5 t6 b7 b8 b9 ac an cE bE cj bk cC dZ cb ax cw) K:=by
  subst h0
  induction n generalizing t6 an cE bE cj bk cC dZ cb ax cw with
  |zero=>kernel_rfl
  |succ n ih=>rw[Zab];simp only[ih];kernel_rfl
theorem Zacu(N:Nat)(s1:Kf×List Km×List Kb):DN Znw N (s1,())=Zg9 N s1:=by
  conv=>rhs;rw[Zg9];simp(disch:=exact id (by kernel_rfl)) only[Z3y (R:=Unit×Kai) N (CF Znw N [1,1,1,1,1,1,0,1,0])]
  kernel_rfl
theorem Zacv(N:Nat):GW 7 (Ztd N):=GF Znw N Tryz.func7 (GC (Zv4 N) (GC (Zagr N) (GC (Zy N) (GC (Zvm N) Wg)))) (λd=>Zacu N d.1)
def Zun(N:Nat):Sig:=Sig.of [.v Jq true,.v Jq true] [.v Jr false] (λd=>Zrz N d.1 d.2.1)
def Zaex:Fn:=⟨Tryz.f26,Wx,Zun,W0⟩
theorem Zaey(N:Nat):GW 26 (Zun N):=GF Zaex N Tryz.func26 Wg
def Zte(N:Nat):Sig:=Sig.of [.v Jg false,.v Jg false] [.v Jr false] (λd=>Zfu N d.1 d.2.1)
def Znx:Fn:=⟨Tryz.f8,λ |4=>[.canon [0,1,5,14]]|5=>[.canon [0,1,5]]|6=>[.canon [0,1,5,26]]|7=>[.canon [4]]|100004=>[.canon [0,1,5]]|_=>[],Zte,λN=>[(26,Zun N)]⟩
def Z3z(a3:List Ka)(b4:List Ka)(i5:Int):St:=⟨[(0,vV Jg a3),(1,vV Jg b4),(5,vI i5)],[],0⟩
def Z0s(a3:List Ka)(b4:List Ka):St:=⟨[(4,vB false)],[],0⟩
def Z0t(a3:List Ka)(b4:List Ka)(i7:Int)(t8:Bool):St:=⟨[(0,vV Jg a3),(1,vV Jg b4),(5,vI i7),(14,vB t8)],[],0⟩
theorem Z30(N:Nat){R:Type}(K:Ex->St->Option R){a3:List Ka}{b4:List Ka}{K0:Option R}{K1:Int->Bool->Option R}(h0:K0=K .ret (Z0s a3 b4))(h1:K1= λi7 t8=>K (.exit 0) (Z0t a3 b4 i7 t8))(n:Nat)(i5:Int):Zc8 N a3 b4 K0 K1 n i5=LM Znx N 0 100004 n (Z3z a3 b4 i5) K:=by
  subst h0 h1
  induction n generalizing i5 with
  |zero=>kernel_rfl
  |succ n ih=>rw[Zc8];simp only[ih];kernel_rfl
theorem Zacw(N:Nat)(a1:List Ka)(b2:List Ka):DN Znx N (a1,b2,())=Zfu N a1 b2:=by
  conv=>rhs;rw[Zfu];simp(disch:=exact id (by kernel_rfl)) only[Z30 (R:=Unit×Kq) N (CF Znx N [1,1,0,1,0])]
  kernel_rfl
theorem Zacx(N:Nat):GW 8 (Zte N):=GF Znx N Tryz.func8 (GC (Zaey N) Wg) (λd=>Zacw N d.1 d.2.1)
def Zuo(N:Nat):Sig:=Sig.of [.v Je false,.v Je false] [.v Jr false] (λd=>Zib N d.1 d.2.1)
def Zpl:Fn:=⟨Tryz.f53,λ |4=>[.canon [0,1,5,14]]|5=>[.canon [0,1,5]]|6=>[.canon [0,1,5,25]]|7=>[.canon [4]]|100004=>[.canon [0,1,5]]|_=>[],Zuo,W0⟩
def Z6j(a3:List Int)(b4:List Int)(i5:Int):St:=⟨[(0,vV Je a3),(1,vV Je b4),(5,vI i5)],[],0⟩
def Z31(a3:List Int)(b4:List Int):St:=⟨[(4,vB false)],[],0⟩
def Z32(a3:List Int)(b4:List Int)(i6:Int)(t7:Bool):St:=⟨[(0,vV Je a3),(1,vV Je b4),(5,vI i6),(14,vB t7)],[],0⟩
theorem Z6k(N:Nat){R:Type}(K:Ex->St->Option R){a3:List Int}{b4:List Int}{K0:Option R}{K1:Int->Bool->Option R}(h0:K0=K .ret (Z31 a3 b4))(h1:K1= λi6 t7=>K (.exit 0) (Z32 a3 b4 i6 t7))(n:Nat)(i5:Int):Zd2 N a3 b4 K0 K1 n i5=LM Zpl N 0 100004 n (Z6j a3 b4 i5) K:=by
  subst h0 h1
  induction n generalizing i5 with
  |zero=>kernel_rfl
  |succ n ih=>rw[Zd2];simp only[ih];kernel_rfl
theorem Zaez(N:Nat)(a1:List Int)(b2:List Int):DN Zpl N (a1,b2,())=Zib N a1 b2:=by
  conv=>rhs;rw[Zib];simp(disch:=exact id (by kernel_rfl)) only[Z6k (R:=Unit×Kq) N (CF Zpl N [1,1,0,1,0])]
  kernel_rfl
theorem Zae0(N:Nat):GW 53 (Zuo N):=GF Zpl N Tryz.func53 Wg (λd=>Zaez N d.1 d.2.1)
def Zrg(N:Nat):Sig:=Sig.of [.v Jak true,.v Jak true] [.v Jr false] (λd=>Zor N d.1 d.2.1)
def Z92:Fn:=⟨Tryz.f27,Wx,Zrg,λN=>[(53,Zuo N)]⟩
theorem Z93(N:Nat):GW 27 (Zrg N):=GF Z92 N Tryz.func27 (GC (Zae0 N) Wg)
def Zvz(N:Nat):Sig:=Sig.of [.v Jq true,.v Jq true] [.v Jr false] (λd=>Zvf N d.1 d.2.1)
def Zags:Fn:=⟨Tryz.f176,Wx,Zvz,W0⟩
theorem Zagt(N:Nat):GW 176 (Zvz N):=GF Zags N Tryz.func176 Wg
def Zqw(N:Nat):Sig:=Sig.of [.v Jg false,.v Jg false] [.v Jr false] (λd=>Zje N d.1 d.2.1)
def Zqx:Fn:=⟨Tryz.f106,λ |4=>[.canon [0,1,5,14]]|5=>[.canon [0,1,5]]|6=>[.canon [0,1,5,26]]|7=>[.canon [4]]|100004=>[.canon [0,1,5]]|_=>[],Zqw,λN=>[(176,Zvz N)]⟩
def Z8j(a3:List Ka)(b4:List Ka)(i5:Int):St:=⟨[(0,vV Jg a3),(1,vV Jg b4),(5,vI i5)],[],0⟩
def Z6l(a3:List Ka)(b4:List Ka):St:=⟨[(4,vB false)],[],0⟩
def Z6m(a3:List Ka)(b4:List Ka)(i7:Int)(t8:Bool):St:=⟨[(0,vV Jg a3),(1,vV Jg b4),(5,vI i7),(14,vB t8)],[],0⟩
theorem Z8k(N:Nat){R:Type}(K:Ex->St->Option R){a3:List Ka}{b4:List Ka}{K0:Option R}{K1:Int->Bool->Option R}(h0:K0=K .ret (Z6l a3 b4))(h1:K1= λi7 t8=>K (.exit 0) (Z6m a3 b4 i7 t8))(n:Nat)(i5:Int):Ze4 N a3 b4 K0 K1 n i5=LM Zqx N 0 100004 n (Z8j a3 b4 i5) K:=by
  subst h0 h1
  induction n generalizing i5 with
  |zero=>kernel_rfl
  |succ n ih=>rw[Ze4];simp only[ih];kernel_rfl
theorem Zaf3(N:Nat)(a1:List Ka)(b2:List Ka):DN Zqx N (a1,b2,())=Zje N a1 b2:=by
  conv=>rhs;rw[Zje];simp(disch:=exact id (by kernel_rfl)) only[Z8k (R:=Unit×Kq) N (CF Zqx N [1,1,0,1,0])]
  kernel_rfl
theorem Z0u(N:Nat):GW 106 (Zqw N):=GF Zqx N Tryz.func106 (GC (Zagt N) Wg) (λd=>Zaf3 N d.1 d.2.1)
def Zva(N:Nat):Sig:=Sig.of [.v Jg true,.v Jg true] [.v Jr false] (λd=>Ztj N d.1 d.2.1)
def Zaf4:Fn:=⟨Tryz.f177,Wx,Zva,λN=>[(106,Zqw N)]⟩
theorem Zaf5(N:Nat):GW 177 (Zva N):=GF Zaf4 N Tryz.func177 (GC (Z0u N) Wg)
def Zup(N:Nat):Sig:=Sig.of [.v Jab false,.v Jab false] [.v Jr false] (λd=>Zj8 N d.1 d.2.1)
def Zpm:Fn:=⟨Tryz.f107,λ |4=>[.canon [0,1,5,14]]|5=>[.canon [0,1,5]]|6=>[.canon [0,1,5,26]]|7=>[.canon [4]]|100004=>[.canon [0,1,5]]|_=>[],Zup,λN=>[(177,Zva N)]⟩
def Z6n(a3:List Kaa)(b4:List Kaa)(i5:Int):St:=⟨[(0,vV Jab a3),(1,vV Jab b4),(5,vI i5)],[],0⟩
def Z33(a3:List Kaa)(b4:List Kaa):St:=⟨[(4,vB false)],[],0⟩
def Z34(a3:List Kaa)(b4:List Kaa)(i7:Int)(t8:Bool):St:=⟨[(0,vV Jab a3),(1,vV Jab b4),(5,vI i7),(14,vB t8)],[],0⟩
theorem Z6o(N:Nat){R:Type}(K:Ex->St->Option R){a3:List Kaa}{b4:List Kaa}{K0:Option R}{K1:Int->Bool->Option R}(h0:K0=K .ret (Z33 a3 b4))(h1:K1= λi7 t8=>K (.exit 0) (Z34 a3 b4 i7 t8))(n:Nat)(i5:Int):Zd3 N a3 b4 K0 K1 n i5=LM Zpm N 0 100004 n (Z6n a3 b4 i5) K:=by
  subst h0 h1
  induction n generalizing i5 with
  |zero=>kernel_rfl
  |succ n ih=>rw[Zd3];simp only[ih];kernel_rfl
theorem Zae1(N:Nat)(a1:List Kaa)(b2:List Kaa):DN Zpm N (a1,b2,())=Zj8 N a1 b2:=by
  conv=>rhs;rw[Zj8];simp(disch:=exact id (by kernel_rfl)) only[Z6o (R:=Unit×Kq) N (CF Zpm N [1,1,0,1,0])]
  kernel_rfl
theorem Zae2(N:Nat):GW 107 (Zup N):=GF Zpm N Tryz.func107 (GC (Zaf5 N) Wg) (λd=>Zae1 N d.1 d.2.1)
def Zuq(N:Nat):Sig:=Sig.of [.v Jag true,.v Jag true] [.v Jr false] (λd=>Zr0 N d.1 d.2.1)
def Zae3:Fn:=⟨Tryz.f54,Wx,Zuq,λN=>[(106,Zqw N),(107,Zup N)]⟩
theorem Zae4(N:Nat):GW 54 (Zuq N):=GF Zae3 N Tryz.func54 (GC (Z0u N) (GC (Zae2 N) Wg))
def Ztf(N:Nat):Sig:=Sig.of [.v Jm false,.v Jm false] [.v Jr false] (λd=>Zi6 N d.1 d.2.1)
def Zny:Fn:=⟨Tryz.f28,λ |4=>[.canon [0,1,5,14]]|5=>[.canon [0,1,5]]|6=>[.canon [0,1,5,26]]|7=>[.canon [4]]|100004=>[.canon [0,1,5]]|_=>[],Ztf,λN=>[(54,Zuq N)]⟩
def Z35(a3:List Km)(b4:List Km)(i5:Int):St:=⟨[(0,vV Jm a3),(1,vV Jm b4),(5,vI i5)],[],0⟩
def Z0v(a3:List Km)(b4:List Km):St:=⟨[(4,vB false)],[],0⟩
def Z0w(a3:List Km)(b4:List Km)(i7:Int)(t8:Bool):St:=⟨[(0,vV Jm a3),(1,vV Jm b4),(5,vI i7),(14,vB t8)],[],0⟩
theorem Z36(N:Nat){R:Type}(K:Ex->St->Option R){a3:List Km}{b4:List Km}{K0:Option R}{K1:Int->Bool->Option R}(h0:K0=K .ret (Z0v a3 b4))(h1:K1= λi7 t8=>K (.exit 0) (Z0w a3 b4 i7 t8))(n:Nat)(i5:Int):Zc9 N a3 b4 K0 K1 n i5=LM Zny N 0 100004 n (Z35 a3 b4 i5) K:=by
  subst h0 h1
  induction n generalizing i5 with
  |zero=>kernel_rfl
  |succ n ih=>rw[Zc9];simp only[ih];kernel_rfl
theorem Zacy(N:Nat)(a1:List Km)(b2:List Km):DN Zny N (a1,b2,())=Zi6 N a1 b2:=by
  conv=>rhs;rw[Zi6];simp(disch:=exact id (by kernel_rfl)) only[Z36 (R:=Unit×Kq) N (CF Zny N [1,1,0,1,0])]
  kernel_rfl
theorem Zacz(N:Nat):GW 28 (Ztf N):=GF Zny N Tryz.func28 (GC (Zae4 N) Wg) (λd=>Zacy N d.1 d.2.1)
def Zvb(N:Nat):Sig:=Sig.of [.v Jb true,.v Jb true] [.v Jr false] (λd=>Ztm N d.1 d.2.1)
def Zaf6:Fn:=⟨Tryz.f55,Wx,Zvb,W0⟩
theorem Zaf7(N:Nat):GW 55 (Zvb N):=GF Zaf6 N Tryz.func55 Wg
def Zur(N:Nat):Sig:=Sig.of [.v Jo false,.v Jo false] [.v Jr false] (λd=>Zkf N d.1 d.2.1)
def Zpn:Fn:=⟨Tryz.f29,λ |4=>[.canon [0,1,5,14]]|5=>[.canon [0,1,5]]|6=>[.canon [0,1,5,26]]|7=>[.canon [4]]|100004=>[.canon [0,1,5]]|_=>[],Zur,λN=>[(55,Zvb N)]⟩
def Z6p(a3:List Kb)(b4:List Kb)(i5:Int):St:=⟨[(0,vV Jo a3),(1,vV Jo b4),(5,vI i5)],[],0⟩
def Z37(a3:List Kb)(b4:List Kb):St:=⟨[(4,vB false)],[],0⟩
def Z38(a3:List Kb)(b4:List Kb)(i7:Int)(t8:Bool):St:=⟨[(0,vV Jo a3),(1,vV Jo b4),(5,vI i7),(14,vB t8)],[],0⟩
theorem Z6q(N:Nat){R:Type}(K:Ex->St->Option R){a3:List Kb}{b4:List Kb}{K0:Option R}{K1:Int->Bool->Option R}(h0:K0=K .ret (Z37 a3 b4))(h1:K1= λi7 t8=>K (.exit 0) (Z38 a3 b4 i7 t8))(n:Nat)(i5:Int):Zd6 N a3 b4 K0 K1 n i5=LM Zpn N 0 100004 n (Z6p a3 b4 i5) K:=by
  subst h0 h1
  induction n generalizing i5 with
  |zero=>kernel_rfl
  |succ n ih=>rw[Zd6];simp only[ih];kernel_rfl
theorem Zae5(N:Nat)(a1:List Kb)(b2:List Kb):DN Zpn N (a1,b2,())=Zkf N a1 b2:=by
  conv=>rhs;rw[Zkf];simp(disch:=exact id (by kernel_rfl)) only[Z6q (R:=Unit×Kq) N (CF Zpn N [1,1,0,1,0])]
  kernel_rfl
theorem Zae6(N:Nat):GW 29 (Zur N):=GF Zpn N Tryz.func29 (GC (Zaf7 N) Wg) (λd=>Zae5 N d.1 d.2.1)
def Zrh(N:Nat):Sig:=Sig.of [.v Js true,.v Js true] [.v Jr false] (λd=>Zos N d.1 d.2.1)
def Z94:Fn:=⟨Tryz.f9,Wx,Zrh,λN=>[(27,Zrg N),(28,Ztf N),(29,Zur N)]⟩
theorem Z95(N:Nat):GW 9 (Zrh N):=GF Z94 N Tryz.func9 (GC (Z93 N) (GC (Zacz N) (GC (Zae6 N) Wg)))
def Zri(N:Nat):Sig:=Sig.of [.mut Ja,.v Ja false] [.v Ja false] (λd=>Zf9 N d.1 d.2.1)
def Zlz:Fn:=⟨Tryz.f56,λ |2=>[.canon [0,1,5,9]]|3=>[.canon [0,1,5]]|4=>[.canon [0,1,5]]|5=>[.canon [0,1,5]]|100002=>[.canon [0,1,5]]|_=>[],Zri,W0⟩
def Z0x(k3:Int)(i4:Int)(l5:List Int):St:=⟨[(0,vO 0),(1,vI k3),(5,vI i4)],[(0,.arr Ja l5)],1⟩
def Zyf(k6:Int)(i7:Int)(t8:Bool)(l9:List Int):St:=⟨[(0,vO 0),(1,vI k6),(5,vI i7),(9,vB t8)],[(0,.arr Ja l9)],1⟩
theorem Z0y(N:Nat){R:Type}(K:Ex->St->Option R){K0:Int->Int->Bool->Ki->Option R}(h0:K0= λk6 i7 t8 l9=>K (.exit 0) (Zyf k6 i7 t8 l9))(n:Nat)(k3:Int)(i4:Int)(l5:List Int):Zcn N K0 n k3 i4 l5=LM Zlz N 0 100002 n (Z0x k3 i4 l5) K:=by
  subst h0
  induction n generalizing k3 i4 l5 with
  |zero=>kernel_rfl
  |succ n ih=>rw[Zcn];simp only[ih];kernel_rfl
theorem Z96(N:Nat)(a1:List Int)(k2:Int):DN Zlz N (a1,k2,())=Zf9 N a1 k2:=by
  conv=>rhs;rw[Zf9];simp(disch:=exact id (by kernel_rfl)) only[Z0y (R:=Kad×Kh) N (CF Zlz N [1,0,1,0])]
  kernel_rfl
theorem Z97(N:Nat):GW 56 (Zri N):=GF Zlz N Tryz.func56 Wg (λd=>Z96 N d.1 d.2.1)
def Zoj(N:Nat):Sig:=Sig.of [.kv (.prod Jx Jai) true,.v Ja false] [.v Ja false] (λd=>Zq2 N d.1 d.2.1)
def Z6r:Fn:=⟨Tryz.f30,Wx,Zoj,λN=>[(56,Zri N)]⟩
theorem Z6s(N:Nat):GW 30 (Zoj N):=GF Z6r N Tryz.func30 (GC (Z97 N) Wg)
def Znz(N:Nat):Sig:=Sig.of [.mut Jq,.v Ja false] [.v Ja false] (λd=>Zg6 N d.1 d.2.1)
def Zn0:Fn:=⟨Tryz.f57,λ |2=>[.canon [0,1,5,9]]|3=>[.canon [0,1,5]]|4=>[.canon [0,1,5]]|5=>[.canon [0,1,5]]|6=>[.canon [0,1,5]]|7=>[.canon [0,1,5]]|8=>[.canon [0,1,5]]|9=>[.canon [0,1,5]]|10=>[.canon [0,1,5]]|11=>[.canon [0,1,5]]|100002=>[.canon [0,1,5]]|_=>[],Znz,W0⟩
def Z39(k3:Int)(i4:Int)(l5:List Ka):St:=⟨[(0,vO 0),(1,vI k3),(5,vI i4)],[(0,.arr Jq l5)],1⟩
def Z0z(k9:Int)(bo:Int)(aw:Bool)(aV:List Ka):St:=⟨[(0,vO 0),(1,vI k9),(5,vI bo),(9,vB aw)],[(0,.arr Jq aV)],1⟩
theorem Z4a(N:Nat){R:Type}(K:Ex->St->Option R){K0:Int->Int->Bool->Kaa->Option R}(h0:K0= λk9 bo aw aV=>K (.exit 0) (Z0z k9 bo aw aV))(n:Nat)(k3:Int)(i4:Int)(l5:List Ka):Zcv N K0 n k3 i4 l5=LM Zn0 N 0 100002 n (Z39 k3 i4 l5) K:=by
  subst h0
  induction n generalizing k3 i4 l5 with
  |zero=>kernel_rfl
  |succ n ih=>rw[Zcv];simp only[ih];kernel_rfl
theorem Zac0(N:Nat)(a1:List Ka)(k2:Int):DN Zn0 N (a1,k2,())=Zg6 N a1 k2:=by
  conv=>rhs;rw[Zg6];simp(disch:=exact id (by kernel_rfl)) only[Z4a (R:=Kai×Kh) N (CF Zn0 N [1,0,1,0])]
  kernel_rfl
theorem Zwo(N:Nat):GW 57 (Znz N):=GF Zn0 N Tryz.func57 Wg (λd=>Zac0 N d.1 d.2.1)
def Zrj(N:Nat):Sig:=Sig.of [.mut Jal,.v Ja false] [.v Ja false] (λd=>Zhz N d.1 d.2.1)
def Zl0:Fn:=⟨Tryz.f58,λ |2=>[.canon [0,1,5,9]]|3=>[.canon [0,1,5]]|4=>[.opn 14,.refold 14,.canon [0,1,5]]|100002=>[.canon [0,1,5]]|_=>[],Zrj,λN=>[(57,Znz N)]⟩
def Z00(k3:Int)(i4:Int)(l5:List Kaa):St:=⟨[(0,vO 0),(1,vI k3),(5,vI i4)],[(0,.arr Jal l5)],1⟩
def Zyg(k7:Int)(i8:Int)(t9:Bool)(cP:List Kaa):St:=⟨[(0,vO 0),(1,vI k7),(5,vI i8),(9,vB t9)],[(0,.arr Jal cP)],1⟩
theorem Z01(N:Nat){R:Type}(K:Ex->St->Option R){K0:Int->Int->Bool->Kw->Option R}(h0:K0= λk7 i8 t9 cP=>K (.exit 0) (Zyg k7 i8 t9 cP))(n:Nat)(k3:Int)(i4:Int)(l5:List Kaa):Zco N K0 n k3 i4 l5=LM Zl0 N 0 100002 n (Z00 k3 i4 l5) K:=by
  subst h0
  induction n generalizing k3 i4 l5 with
  |zero=>kernel_rfl
  |succ n ih=>rw[Zco];simp only[ih];kernel_rfl
theorem Z98(N:Nat)(a1:List Kaa)(k2:Int):DN Zl0 N (a1,k2,())=Zhz N a1 k2:=by
  conv=>rhs;rw[Zhz];simp(disch:=exact id (by kernel_rfl)) only[Z01 (R:=(Kw×Unit)×Kh) N (CF Zl0 N [1,0,1,0])]
  kernel_rfl
theorem Z99(N:Nat):GW 58 (Zrj N):=GF Zl0 N Tryz.func58 (GC (Zwo N) Wg) (λd=>Z98 N d.1 d.2.1)
def Zp4(N:Nat):Sig:=Sig.of [.mut Jz,.v Ja false] [.v Ja false] (λd=>Zhc N d.1 d.2.1)
def Zk8:Fn:=⟨Tryz.f31,λ |2=>[.canon [0,1,5,9]]|3=>[.canon [0,1,5]]|4=>[.opn 14,.canon [0,1,5]]|5=>[.refold 21,.canon [0,1,5]]|100002=>[.canon [0,1,5]]|_=>[],Zp4,λN=>[(57,Znz N),(58,Zrj N)]⟩
def Zyh(k3:Int)(i4:Int)(l5:List Km):St:=⟨[(0,vO 0),(1,vI k3),(5,vI i4)],[(0,.arr Jz l5)],1⟩
def Zw5(k8:Int)(i9:Int)(ar:Bool)(an:List Km):St:=⟨[(0,vO 0),(1,vI k8),(5,vI i9),(9,vB ar)],[(0,.arr Jz an)],1⟩
theorem Zyi(N:Nat){R:Type}(K:Ex->St->Option R){K0:Int->Int->Bool->Kah->Option R}(h0:K0= λk8 i9 ar an=>K (.exit 0) (Zw5 k8 i9 ar an))(n:Nat)(k3:Int)(i4:Int)(l5:List Km):Zb9 N K0 n k3 i4 l5=LM Zk8 N 0 100002 n (Zyh k3 i4 l5) K:=by
  subst h0
  induction n generalizing k3 i4 l5 with
  |zero=>kernel_rfl
  |succ n ih=>rw[Zb9];simp only[ih];kernel_rfl
theorem Z8l(N:Nat)(a1:List Km)(k2:Int):DN Zk8 N (a1,k2,())=Zhc N a1 k2:=by
  conv=>rhs;rw[Zhc];simp(disch:=exact id (by kernel_rfl)) only[Zyi (R:=(Kah×Unit)×Kh) N (CF Zk8 N [1,0,1,0])]
  kernel_rfl
theorem Z8m(N:Nat):GW 31 (Zp4 N):=GF Zk8 N Tryz.func31 (GC (Zwo N) (GC (Z99 N) Wg)) (λd=>Z8l N d.1 d.2.1)
def Zrk(N:Nat):Sig:=Sig.of [.mut Jb,.v Ja false] [.v Ja false] (λd=>Zh3 N d.1 d.2.1)
def Zl1:Fn:=⟨Tryz.f32,λ |2=>[.canon [0,1,5,9]]|3=>[.canon [0,1,5]]|4=>[.canon [0,1,5]]|5=>[.canon [0,1,5]]|6=>[.canon [0,1,5]]|7=>[.canon [0,1,5]]|8=>[.canon [0,1,5]]|9=>[.canon [0,1,5]]|100002=>[.canon [0,1,5]]|_=>[],Zrk,W0⟩
def Z02(k3:Int)(i4:Int)(l5:List Kb):St:=⟨[(0,vO 0),(1,vI k3),(5,vI i4)],[(0,.arr Jb l5)],1⟩
def Zyj(k8:Int)(i9:Int)(ar:Bool)(an:List Kb):St:=⟨[(0,vO 0),(1,vI k8),(5,vI i9),(9,vB ar)],[(0,.arr Jb an)],1⟩
theorem Z03(N:Nat){R:Type}(K:Ex->St->Option R){K0:Int->Int->Bool->Kr->Option R}(h0:K0= λk8 i9 ar an=>K (.exit 0) (Zyj k8 i9 ar an))(n:Nat)(k3:Int)(i4:Int)(l5:List Kb):Zcp N K0 n k3 i4 l5=LM Zl1 N 0 100002 n (Z02 k3 i4 l5) K:=by
  subst h0
  induction n generalizing k3 i4 l5 with
  |zero=>kernel_rfl
  |succ n ih=>rw[Zcp];simp only[ih];kernel_rfl
theorem Zaaa(N:Nat)(a1:List Kb)(k2:Int):DN Zl1 N (a1,k2,())=Zh3 N a1 k2:=by
  conv=>rhs;rw[Zh3];simp(disch:=exact id (by kernel_rfl)) only[Z03 (R:=Kac×Kh) N (CF Zl1 N [1,0,1,0])]
  kernel_rfl
theorem Zaab(N:Nat):GW 32 (Zrk N):=GF Zl1 N Tryz.func32 Wg (λd=>Zaaa N d.1 d.2.1)
def Zok(N:Nat):Sig:=Sig.of [.kv (.prod (.prod Jx Jai) (.prod (.own Jz) Jam)) true,.v Ja false] [.v Ja false] (λd=>Zlk N d.1 d.2.1)
def Z6t:Fn:=⟨Tryz.f10,Wx,Zok,λN=>[(30,Zoj N),(31,Zp4 N),(32,Zrk N)]⟩
theorem Z6u(N:Nat):GW 10 (Zok N):=GF Z6t N Tryz.func10 (GC (Z6s N) (GC (Z8m N) (GC (Zaab N) Wg)))
def Zp5(N:Nat):Sig:=Sig.of [.mut Jq,.v Ja false] [.v Ja false] (λd=>Zhd N d.1 d.2.1)
def Zk9:Fn:=⟨Tryz.f11,λ |2=>[.canon [0,1,5,9]]|3=>[.canon [0,1,5]]|4=>[.canon [0,1,5]]|5=>[.canon [0,1,5]]|6=>[.canon [0,1,5]]|7=>[.canon [0,1,5]]|8=>[.canon [0,1,5]]|9=>[.canon [0,1,5]]|10=>[.canon [0,1,5]]|11=>[.canon [0,1,5]]|100002=>[.canon [0,1,5]]|_=>[],Zp5,W0⟩
def Zyk(k3:Int)(i4:Int)(l5:List Ka):St:=⟨[(0,vO 0),(1,vI k3),(5,vI i4)],[(0,.arr Jq l5)],1⟩
def Zw6(k9:Int)(bo:Int)(aw:Bool)(aV:List Ka):St:=⟨[(0,vO 0),(1,vI k9),(5,vI bo),(9,vB aw)],[(0,.arr Jq aV)],1⟩
theorem Zyl(N:Nat){R:Type}(K:Ex->St->Option R){K0:Int->Int->Bool->Kaa->Option R}(h0:K0= λk9 bo aw aV=>K (.exit 0) (Zw6 k9 bo aw aV))(n:Nat)(k3:Int)(i4:Int)(l5:List Ka):Zca N K0 n k3 i4 l5=LM Zk9 N 0 100002 n (Zyk k3 i4 l5) K:=by
  subst h0
  induction n generalizing k3 i4 l5 with
  |zero=>kernel_rfl
  |succ n ih=>rw[Zca];simp only[ih];kernel_rfl
theorem Z8n(N:Nat)(a1:List Ka)(k2:Int):DN Zk9 N (a1,k2,())=Zhd N a1 k2:=by
  conv=>rhs;rw[Zhd];simp(disch:=exact id (by kernel_rfl)) only[Zyl (R:=Kai×Kh) N (CF Zk9 N [1,0,1,0])]
  kernel_rfl
theorem Z8o(N:Nat):GW 11 (Zp5 N):=GF Zk9 N Tryz.func11 Wg (λd=>Z8n N d.1 d.2.1)
def Zp6(N:Nat):Sig:=Sig.of [.v Jg false,.v Ja false] [.v Ja false] (λd=>Zfb N d.1 d.2.1)
def Zla:Fn:=⟨Tryz.f12,λ |2=>[.canon [0,1,5,9]]|3=>[.canon [0,1,5]]|4=>[.canon [0,1,5,18]]|5=>[.canon [4]]|6=>[.canon [0,1,5]]|7=>[.canon [0,1,5,27]]|8=>[.canon [4]]|9=>[.canon [0,1,5]]|10=>[.canon [0,1,5,36]]|11=>[.canon [4]]|12=>[.canon [0,1,5]]|13=>[.canon [0,1,5,45]]|14=>[.canon [4]]|15=>[.canon [0,1,5]]|100002=>[.canon [0,1,5]]|_=>[],Zp6,W0⟩
def Zym(a3:List Ka)(k4:Int)(i5:Int):St:=⟨[(0,vV Jg a3),(1,vI k4),(5,vI i5)],[],0⟩
def Zw7(a3:List Ka):St:=⟨[(4,vI (-1:Int))],[],0⟩
def Zw8(a3:List Ka)(k6:Int)(i7:Int)(t8:Bool):St:=⟨[(0,vV Jg a3),(1,vI k6),(5,vI i7),(9,vB t8)],[],0⟩
theorem Zyn(N:Nat){R:Type}(K:Ex->St->Option R){a3:List Ka}{K0:Option R}{K1:Int->Int->Bool->Option R}(h0:K0=K .ret (Zw7 a3))(h1:K1= λk6 i7 t8=>K (.exit 0) (Zw8 a3 k6 i7 t8))(n:Nat)(k4:Int)(i5:Int):Zcb N a3 K0 K1 n k4 i5=LM Zla N 0 100002 n (Zym a3 k4 i5) K:=by
  subst h0 h1
  induction n generalizing k4 i5 with
  |zero=>kernel_rfl
  |succ n ih=>rw[Zcb];simp only[ih];kernel_rfl
theorem Z8p(N:Nat)(a1:List Ka)(k2:Int):DN Zla N (a1,k2,())=Zfb N a1 k2:=by
  conv=>rhs;rw[Zfb];simp(disch:=exact id (by kernel_rfl)) only[Zyn (R:=Unit×Kh) N (CF Zla N [1,0,1,0])]
  kernel_rfl
theorem Z8q(N:Nat):GW 12 (Zp6 N):=GF Zla N Tryz.func12 Wg (λd=>Z8p N d.1 d.2.1)
def Zq1(N:Nat):Sig:=Sig.of [.v Js true] [.v Jr false] (λd=>Zfv N d.1)
def Zw9:Fn:=⟨Tryz.f3,Wx,Zq1,λN=>[(4,Zq4 N),(6,Zq6 N),(5,Zsy N),(7,Ztd N),(8,Zte N),(9,Zrh N),(10,Zok N),(11,Zp5 N),(12,Zp6 N)]⟩
set_option maxRecDepth 100000 in theorem Zxa (N:Nat):GW 3 (Zq1 N):=GF Zw9 N Tryz.func3 (GC (Z8u N) (GC (Z8y N) (GC (Zabu N) (GC (Zacv N) (GC (Zacx N) (GC (Z95 N) (GC (Z6u N) (GC (Z8o N) (GC (Z8q N) Wg)))))))))
end
end Go.Sx
