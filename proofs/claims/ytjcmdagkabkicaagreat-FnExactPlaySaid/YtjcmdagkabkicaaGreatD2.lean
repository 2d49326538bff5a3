/- Each Go function does what its Lean function says. -/
import Derived.Test.YtjcmdagkabkicaaGreatD
open List renaming cons_append→Xbc,nil_append→Xbd
namespace Go.Sx
noncomputable section
open Go.Proofs
set_option linter.unusedVariables false
set_option linter.unusedSimpArgs false
def Z1s:Fn:=⟨Tryz.f202,λ |0=>[.opn 13]|5=>[.shutD 34 15]|_=>[],λN=>Sig.of [.box Jn,.v Ja false,.v Jg false] [] (λd=>Zkt N d.1 d.2.1 d.2.2.1),CX [Zq9,Zqq,Zra,Z2,Zin,Zx3]⟩
def Z1t:Gd:=GF Z1s Tryz.func202
def Zgw:Fn:=⟨Tryz.f203,λ |3=>[.canon [1,3,8,9,19,20,21,22]]|4=>[.canon [1,3,8,9,11,19,20,21]]|5=>[.canon [1,3,8,9,19,20,21]]|6=>[.canon [1,3,8,9,19,20,21]]|8=>[.canon [1,8,9,36,37,38]]|9=>[.nest 44 Jk,.canon [1,8,9,36,37]]|10=>[.canon [1,8,9,36,37]]|100003=>[.adoptC 9 6 Jb,.canon [1,3,8,9,19,20,21]]|100008=>[.adoptC 9 9 Jk,.canon [1,8,9,36,37]]|_=>[],λN=>Sig.of [.v Ja false,.v Ji false,.v Jd false,.v Ja false] [.v Ju true] (λd=>Zh2 N d.1 d.2.1 d.2.2.1 d.2.2.2.1),CX [Z2,Zq8]⟩
def Zx4(dO:List Int)(dP:Int)(t9:Int)(ar:Int)(bU:Int)(aY:List Kc)(dv:List Int)(dD:List Kb):St:=⟨[(1,vV Ji dO),(3,vI dP),(8,vP 0 0),(9,vP 1 0),(19,vO 2),(20,vI t9),(21,vI ar)],[(0,.box [.val Ja (0:Int),.val Ja (0:Int),.val Ja (0:Int),.val Jp false,.nils,.nils,.nils,.nils,.nils,.nils]),(1,.box [.val Ja bU,.val Ja (0:Int),.val Ja (0:Int),.val Jp false,.own 3,.own 2,.own 4,.nils,.nils,.nils]),(2,.arr Jt aY),(3,.arr Ja dv),(4,.arr Jb dD)],5⟩
def Zvi(dO:List Int)(dP:Int)(t9:Int)(bU:Int)(aY:List Kc)(dv:List Int)(t22:Int)(nN:Bool)(gj:List Kb):St:=⟨[(1,vV Ji dO),(3,vI dP),(8,vP 0 0),(9,vP 1 0),(19,vO 2),(20,vI t9),(21,vI t22),(22,vB nN)],[(0,.box [.val Ja (0:Int),.val Ja (0:Int),.val Ja (0:Int),.val Jp false,.nils,.nils,.nils,.nils,.nils,.nils]),(1,.box [.val Ja bU,.val Ja (0:Int),.val Ja (0:Int),.val Jp false,.own 3,.own 2,.own 4,.nils,.nils,.nils]),(2,.arr Jt aY),(3,.arr Ja dv),(4,.arr Jb gj)],5⟩
theorem Zx5(N:Nat){R:Type}(K:Ex->St->Option R){dO:List Int}{dP:Int}{t9:Int}{bU:Int}{aY:List Kc}{dv:List Int}{K0:Int->Bool->Kr->Option R}(h0:K0= λt22 nN gj=>K (.exit 0) (Zvi dO dP t9 bU aY dv t22 nN gj))(n:Nat)(ar:Int)(dD:List Kb):Zcn N dO dP t9 bU aY dv K0 n ar dD=LM Zgw N 0 100003 n (Zx4 dO dP t9 ar bU aY dv dD) K:=by
  subst h0
  induction n generalizing ar dD with
  |zero=>kernel_rfl
  |succ n ih=>rw[Zcn];simp only[ih];kernel_rfl
def Zx6(cH:List Int)(kq:Int)(ld:Int)(kr:Int)(kt:List Int)(fN:List Kc)(cx:List Kb)(cq:List Y_KidRun):St:=⟨[(1,vV Ji cH),(8,vP 0 0),(9,vP 1 0),(36,vI kq),(37,vI ld)],[(0,.box [.val Ja (0:Int),.val Ja (0:Int),.val Ja (0:Int),.val Jp false,.nils,.nils,.nils,.nils,.nils,.nils]),(1,.box [.val Ja kr,.val Ja (0:Int),.val Ja (0:Int),.val Jp false,.own 2,.own 3,.own 4,.nils,.nils,.own 5]),(2,.arr Ja kt),(3,.arr Jt fN),(4,.arr Jb cx),(5,.arr Jk cq)],6⟩
def Zvj(cH:List Int)(kq:Int)(kr:Int)(kt:List Int)(fN:List Kc)(cx:List Kb)(t45:Int)(t46:Bool)(sL:List Y_KidRun):St:=⟨[(1,vV Ji cH),(8,vP 0 0),(9,vP 1 0),(36,vI kq),(37,vI t45),(38,vB t46)],[(0,.box [.val Ja (0:Int),.val Ja (0:Int),.val Ja (0:Int),.val Jp false,.nils,.nils,.nils,.nils,.nils,.nils]),(1,.box [.val Ja kr,.val Ja (0:Int),.val Ja (0:Int),.val Jp false,.own 2,.own 3,.own 4,.nils,.nils,.own 5]),(2,.arr Ja kt),(3,.arr Jt fN),(4,.arr Jb cx),(5,.arr Jk sL)],6⟩
theorem Zx7(N:Nat){R:Type}(K:Ex->St->Option R){cH:List Int}{kq:Int}{kr:Int}{kt:List Int}{fN:List Kc}{cx:List Kb}{K0:Int->Bool->(List Y_KidRun)->Option R}(h0:K0= λt45 t46 sL=>K (.exit 2) (Zvj cH kq kr kt fN cx t45 t46 sL))(n:Nat)(ld:Int)(cq:List Y_KidRun):Zau N cH kq kr kt fN cx K0 n ld cq=LM Zgw N 1 100008 n (Zx6 cH kq ld kr kt fN cx cq) K:=by
  subst h0
  induction n generalizing ld cq with
  |zero=>kernel_rfl
  |succ n ih=>rw[Zau];simp only[ih];kernel_rfl
theorem Z9t(N:Nat)(jg:Int)(ao:List Int)(bV:List Kc)(de:Int):DN Zgw N (jg,ao,bV,de,())=Zh2 N jg ao bV de:=by
  conv=>rhs;rw[Zh2];simp(disch:=exact id (by kernel_rfl)) only[Zx5 (R:=Unit×(Y_Family×Unit)) N (CF Zgw N [1,1,0,1,0]),Zx7 (R:=Unit×(Y_Family×Unit)) N (CF Zgw N [1,1,1,0,1,0])]
  kernel_rfl
def Z9u:Gd:=GF Zgw Tryz.func203 (λN d=>Z9t N d.1 d.2.1 d.2.2.1 d.2.2.2.1)
def Z7a:Fn:=⟨Tryz.f268,Wv,λN=>Sig.of [.v Jq true] [.v Ja false,.v Ja false] (λd=>Zmg N d.1),CX [Zp9]⟩
def Z7b:Gd:=GF Z7a Tryz.func268
def Z7c:Fn:=⟨Tryz.f213,Wv,λN=>Sig.of [.v Jm false] [.v Jak false] (λd=>Zfl N d.1),WR⟩
def Zru:Gd:=GN Z7c Tryz.func213
def Zom:Fn:=⟨Tryz.f309,λ |5=>[.canon [1,2,3,9,21,22,23,24]]|6=>[.canon [1,2,3,9,11,21,22,23]]|7=>[.canon [1,2,3,9,11,21,22,23,45]]|8=>[.canon [1,2,3,9,21,22,23]]|9=>[.canon [1,2,3,9,21,22,23]]|100005=>[.canon [1,2,3,9,21,22,23]]|_=>[],λN=>Sig.of [.v Jm false,.v Ja false,.v Ja false,.v Ja false] [.v Jae false] (λd=>Zkk N d.1 d.2.1 d.2.2.1 d.2.2.2.1),CX [Zm8,Zz]⟩
def Z41(dS:Int)(cC:Int)(cD:Int)(ar:List Kb)(az:Int)(aJ:List Int):St:=⟨[(1,vI dS),(2,vI cC),(3,vI cD),(9,vO 0),(21,vV Jm ar),(22,vI (Wg ar)),(23,vI az)],[(0,.arr Ja aJ)],1⟩
def Z1u(dS:Int)(cC:Int)(cD:Int)(ar:List Kb)(dw:Int)(cl:Bool)(cQ:List Int):St:=⟨[(1,vI dS),(2,vI cC),(3,vI cD),(9,vO 0),(21,vV Jm ar),(22,vI (Wg ar)),(23,vI dw),(24,vB cl)],[(0,.arr Ja cQ)],1⟩
theorem Z42(N:Nat){R:Type}(K:Ex->St->Option R){dS:Int}{cC:Int}{cD:Int}{ar:List Kb}{K0:Int->Bool->Kj->Option R}(h0:K0= λdw cl cQ=>K (.exit 0) (Z1u dS cC cD ar dw cl cQ))(n:Nat)(az:Int)(aJ:List Int):Zal N dS cC cD ar K0 n az aJ=LM Zom N 0 100005 n (Z41 dS cC cD ar az aJ) K:=by
  subst h0
  induction n generalizing az aJ with
  |zero=>kernel_rfl
  |succ n ih=>rw[Zal];simp only[ih];kernel_rfl
theorem Zafh(N:Nat)(l1:List Kb)(aK:Int)(aL:Int)(aW:Int):DN Zom N (l1,aK,aL,aW,())=Zkk N l1 aK aL aW:=by
  conv=>rhs;rw[Zkk];simp(disch:=exact id (by kernel_rfl)) only[Z42 (R:=Unit×Kac) N (CF Zom N [1,1,1,0,1,0])]
  kernel_rfl
def Zafi:Gd:=GF Zom Tryz.func309 (λN d=>Zafh N d.1 d.2.1 d.2.2.1 d.2.2.2.1)
def Za0(N:Nat):Sig:=Sig.of [.mut Jb,.clos 289 0] [] (λd=>Zo N d.1)
theorem Zf7:WvV Tryz.prog 289 Jb WvO cfH:=by
  intro G x y us vs w hx hy h1 h2;obtain⟨_,_,rfl,a1,_,_,rfl,a2,a3⟩:=h1;obtain⟨_,_,rfl,b1,_,_,rfl,b2,b3⟩:=h2;simp only[Enc]at a1 a2 a3 b1 b2 b3;subst a1 a2 a3 b1 b2 b3;simp only[Xbc,Xbd];unfold WvO at hx hy;simp only[Bool.and_eq_true]at hx hy
  go_enter Tryz.func289,Tryz.ntmps289
  go_wp2
  rw[WsB (a:=x.2.1) (b:=y.2.1),Result.andThen_ok];rw[Wvf (a:=x.2.1) (b:=y.2.1),Result.andThen_ok];rcases hb:(bne (α:=Int) x.2.1 y.2.1)with _|_
  . go_wp2
    rw[Wo7 (Whh hx.1) (Whh hy.1) (WwG hb)]
    go_wp2
    go_ret
    exact⟨rfl,Wmu _ _ _⟩
  . go_wp2
    rw[Wo7 (Whh hx.2) (Whh hy.2) (WwY hb)]
    go_wp2
    go_ret
    exact⟨rfl,Wmu _ _ _⟩
theorem Zf8(N:Nat):GW 310 (Za0 N):=⟨Wd2 Tryz.func310 (show Wo4 Tryz.f310=true by kernel_rfl),WkH sortFH (e:=.prod Ja Jt) rfl (by decide) Tryz.isAgg134 Tryz.sizeOf134 (enters_of Tryz.func289 (by kernel_rfl) rfl) WxJ Zf7 N⟩
def Zf9:Gd:=⟨310,Za0,Zf8⟩
def Znb:Fn:=⟨Tryz.f269,λ |5=>[.canon [1,2,3,10,35,36,37,38]]|6=>[.canon [1,2,3,10,11,12,35,36,37]]|7=>[.canon [1,2,3,10,11,12,35,36,37,51]]|8=>[.canon [10]]|9=>[.canon [8,9]]|10=>[.canon [1,2,3,10,35,36,37]]|100005=>[.canon [1,2,3,10,35,36,37]]|_=>[],λN=>Sig.of [.v Jm false,.v Ja false,.v Ja false,.v Ja false] [.v Jak false,.v Jp false] (λd=>Zi1 N d.1 d.2.1 d.2.2.1 d.2.2.2.1),CX [Zru,Zm8,Zut,Zafi,Zf9]⟩
def Z1v(ee:Int)(bS:Int)(bT:Int)(az:Int)(bc:Int)(bD:List Kb):St:=⟨[(1,vI ee),(2,vI bS),(3,vI bT),(10,vO 0),(35,vO 0),(36,vI az),(37,vI bc)],[(0,.arr Jb bD)],1⟩
def Zx8(ee:Int)(bS:Int)(bT:Int)(az:Int)(bD:List Kb)(bj:List Kb):St:=⟨[(8,vO 0),(9,vB true)],[(0,.arr Jb bj)],1⟩
def Zx9(ee:Int)(bS:Int)(bT:Int)(az:Int)(bD:List Kb)(fU:Int)(fM:Bool):St:=⟨[(1,vI ee),(2,vI bS),(3,vI bT),(10,vO 0),(35,vO 0),(36,vI az),(37,vI fU),(38,vB fM)],[(0,.arr Jb bD)],1⟩
theorem Z1w(N:Nat){R:Type}(K:Ex->St->Option R){ee:Int}{bS:Int}{bT:Int}{az:Int}{bD:List Kb}{K0:Kr->Option R}{K1:Int->Bool->Option R}(h0:K0= λbj=>K .ret (Zx8 ee bS bT az bD bj))(h1:K1= λfU fM=>K (.exit 0) (Zx9 ee bS bT az bD fU fM))(n:Nat)(bc:Int):Zb0 N ee bS bT az bD K0 K1 n bc=LM Znb N 0 100005 n (Z1v ee bS bT az bc bD) K:=by
  subst h0 h1
  induction n generalizing bc with
  |zero=>kernel_rfl
  |succ n ih=>rw[Zb0];simp only[ih];kernel_rfl
theorem Zacq(N:Nat)(l1:List Kb)(aK:Int)(aL:Int)(aW:Int):DN Znb N (l1,aK,aL,aW,())=Zi1 N l1 aK aL aW:=by
  conv=>rhs;rw[Zi1];simp(disch:=exact id (by kernel_rfl)) only[Z1w (R:=Unit×(Kr×Ko)) N (CF Znb N [1,1,1,0,1,0])]
  kernel_rfl
def Zacr:Gd:=GF Znb Tryz.func269 (λN d=>Zacq N d.1 d.2.1 d.2.2.1 d.2.2.2.1)
def Zafj:Fn:=⟨Tryz.f311,Wv,λN=>Sig.of [.v Ja false,.v Ja false] [.v Jb true] (λd=>Znm N d.1 d.2.1),WR⟩
def Zafk:Gd:=GN Zafj Tryz.func311
def Zacs:Fn:=⟨Tryz.f270,Wv,λN=>Sig.of [.v Jag true,.v Jq true,.v Ji false] [.v Jap true,.v Jae false,.v Jb true,.v Jp false] (λd=>Zoy N d.1 d.2.1 d.2.2.1),CX [Zrt,Z2,Zsx,Zhx,Zst,Zqn,Zafk,Zqm,Zsa]⟩
def Zact:Gd:=GF Zacs Tryz.func270
def Z1x:Fn:=⟨Tryz.f204,λ |1=>[.opn 20]|_=>[],λN=>Sig.of [.box Jn,.v Ja false,.v Jq true] [] (λd=>Zhv N d.1 d.2.1 d.2.2.1),CX [Z7b,Zacr,Zpr,Zact]⟩
def Z1y:Gd:=GF Z1x Tryz.func204
def Zya:Fn:=⟨Tryz.f140,Wv,λN=>Sig.of [.rp (TY_Root)] [.vj Jq] (λd=>Zes N d.1),WR⟩
def Zqr:Gd:=GN Zya Tryz.func140
def Zahp:Fn:=⟨Tryz.f205,Wv,λN=>Sig.of [.v Jq true,.v Ji false] [.v Jae false,.v Jp false] (λd=>Zpo N d.1 d.2.1),CX [Z2,Zp9,Zhx]⟩
def Z24:Gd:=GF Zahp Tryz.func205
def Z7d:Fn:=⟨Tryz.f138,λ |1=>[.opn 14]|26=>[.nest 170 Jao]|_=>[],λN=>Sig.of [.box Jn,.v Ja false,.v Jai true] [] (λd=>Zjt N d.1 d.2.1 d.2.2.1),CX [Zq9,Z4x,Z1t,Z9u,Z1y,Z2,Zqr,Z24]⟩
def Z7e:Gd:=GF Z7d Tryz.func138
def Z7f:Fn:=⟨Tryz.f272,Wv,λN=>Sig.of [.v (TY_KidRun) true] [.v Jp false] (λd=>Zqf N d.1),WR⟩
def Z7g:Gd:=GN Z7f Tryz.func272
def Zt:Fn:=⟨Tryz.f312,λ |2=>[.canon [0,1,7,8,9]]|3=>[.canon [0,1,5,7,8]]|4=>[.canon [0,1,5,7,8,16]]|5=>[.canon [1,4]]|6=>[.canon [0,1,7,8]]|100002=>[.canon [0,1,7,8]]|_=>[],λN=>Sig.of [.v Jad false,.clos 272 0] [.v Ja false] (λd=>Zn N d.1),CX [Z7g]⟩
def Zen(s2:List Y_KidRun)(t4:Int):St:=⟨[(0,vV Jad s2),(1,.s (.one (.clos 272 []))),(7,vI (Wg s2)),(8,vI t4)],[],0⟩
def Zeh(s2:List Y_KidRun)(t7:Int):St:=⟨[(1,.s (.one (.clos 272 []))),(4,vI t7)],[],0⟩
def Zei(s2:List Y_KidRun)(t8:Int)(t9:Bool):St:=⟨[(0,vV Jad s2),(1,.s (.one (.clos 272 []))),(7,vI (Wg s2)),(8,vI t8),(9,vB t9)],[],0⟩
theorem Zeo(N:Nat){R:Type}(K:Ex->St->Option R){s2:List Y_KidRun}{K0:Int->Option R}{K1:Int->Bool->Option R}(h0:K0= λt7=>K .ret (Zeh s2 t7))(h1:K1= λt8 t9=>K (.exit 0) (Zei s2 t8 t9))(n:Nat)(t4:Int):Zd N s2 K0 K1 n t4=LM Zt N 0 100002 n (Zen s2 t4) K:=by
  subst h0 h1
  induction n generalizing t4 with
  |zero=>kernel_rfl
  |succ n ih=>rw[Zd];simp only[ih];kernel_rfl
theorem Zf5(N:Nat)(s1:List Y_KidRun):DN Zt N (s1,())=Zn N s1:=by
  conv=>rhs;rw[Zn];simp(disch:=exact id (by kernel_rfl)) only[Zeo (R:=Unit×Kh) N (CF Zt N [1,0,1,0])]
  kernel_rfl
def Zf6:Gd:=GF Zt Tryz.func312 (λN d=>Zf5 N d.1)
def Zev:Fn:=⟨Tryz.f271,Wv,λN=>Sig.of [.v Jad false,.clos 272 0] [.v Jp false] (λd=>Z4 N d.1),CX [Zf6]⟩
def Zew:Gd:=GF Zev Tryz.func271
def Zacu:Fn:=⟨Tryz.f206,Wv,λN=>Sig.of [.v (TY_Family) true] [.v Jp false] (λd=>Zoz N d.1),CX [Zew]⟩
def Zacv:Gd:=GF Zacu Tryz.func206
def Znc:Fn:=⟨Tryz.f207,λ |5=>[.canon [3,20,21,22,23]]|6=>[.canon [3,4,5,20,21,22]]|7=>[.canon [3,4,5,20,21,22]]|8=>[.canon [3,4,5,20,21,22,37]]|9=>[.canon [3,20,21,22]]|10=>[.canon [3,20,21,22]]|100005=>[.canon [3,20,21,22]]|_=>[],λN=>Sig.of [.v (TY_Family) true] [.v Jae false] (λd=>Zi2 N d.1),CX [Zhx,Z2]⟩
def Z1z(t4:List Y_KidRun)(t5:Int)(t6:Int)(l7:List Int):St:=⟨[(3,vO 0),(20,vV Jad t4),(21,vI t5),(22,vI t6)],[(0,.arr Ja l7)],1⟩
def Zyb(t4:List Y_KidRun)(t5:Int)(ar:Int)(aq:Bool)(bC:List Int):St:=⟨[(3,vO 0),(20,vV Jad t4),(21,vI t5),(22,vI ar),(23,vB aq)],[(0,.arr Ja bC)],1⟩
theorem Z10(N:Nat){R:Type}(K:Ex->St->Option R){t4:List Y_KidRun}{t5:Int}{K0:Int->Bool->Kj->Option R}(h0:K0= λar aq bC=>K (.exit 0) (Zyb t4 t5 ar aq bC))(n:Nat)(t6:Int)(l7:List Int):Za6 N t4 t5 K0 n t6 l7=LM Znc N 0 100005 n (Z1z t4 t5 t6 l7) K:=by
  subst h0
  induction n generalizing t6 l7 with
  |zero=>kernel_rfl
  |succ n ih=>rw[Za6];simp only[ih];kernel_rfl
theorem Zacw(N:Nat)(f1:Y_Family):DN Znc N (f1,())=Zi2 N f1:=by
  conv=>rhs;rw[Zi2];simp(disch:=exact id (by kernel_rfl)) only[Z10 (R:=Unit×Kac) N (CF Znc N [1,1,1,0,1,0])]
  kernel_rfl
def Zacx:Gd:=GF Znc Tryz.func207 (λN d=>Zacw N d.1)
def Znd:Fn:=⟨Tryz.f208,λ |3=>[.canon [3,8,9,10,11]]|4=>[.canon [3,5,8,9,10]]|5=>[.canon [3,8,9,10]]|6=>[.canon [3,8,9,10]]|100003=>[.canon [3,8,9,10]]|_=>[],λN=>Sig.of [.v (TY_Family) true] [.v Jc false] (λd=>Zi3 N d.1),WR⟩
def Z11(t2:List Kb)(t3:Int)(t4:Int)(l5:List Kc):St:=⟨[(3,vO 0),(8,vV Jm t2),(9,vI t3),(10,vI t4)],[(0,.arr Jt l5)],1⟩
def Zyc(t2:List Kb)(t3:Int)(t6:Int)(t7:Bool)(l8:List Kc):St:=⟨[(3,vO 0),(8,vV Jm t2),(9,vI t3),(10,vI t6),(11,vB t7)],[(0,.arr Jt l8)],1⟩
theorem Z12(N:Nat){R:Type}(K:Ex->St->Option R){t2:List Kb}{t3:Int}{K0:Int->Bool->Kv->Option R}(h0:K0= λt6 t7 l8=>K (.exit 0) (Zyc t2 t3 t6 t7 l8))(n:Nat)(t4:Int)(l5:List Kc):Zc6 N t2 t3 K0 n t4 l5=LM Znd N 0 100003 n (Z11 t2 t3 t4 l5) K:=by
  subst h0
  induction n generalizing t4 l5 with
  |zero=>kernel_rfl
  |succ n ih=>rw[Zc6];simp only[ih];kernel_rfl
theorem Zacy(N:Nat)(f1:Y_Family):DN Znd N (f1,())=Zi3 N f1:=by
  conv=>rhs;rw[Zi3];simp(disch:=exact id (by kernel_rfl)) only[Z12 (R:=Unit×Kad) N (CF Znd N [1,1,0,1,0])]
  kernel_rfl
def Zacz:Gd:=GN Znd Tryz.func208 (λN d=>Zacy N d.1)
def Z7h:Fn:=⟨Tryz.f139,Wv,λN=>Sig.of [.box Jj] [] (λd=>Zju N d.1),CX [Zhy,Zacv,Zacx,Zacz,Z2]⟩
def Z7i:Gd:=GF Z7h Tryz.func139
def Zyd:Fn:=⟨Tryz.f142,λ |2=>[.shut 1 15]|11=>[.shut 1 15]|1000000=>[.unfE 1]|_=>[],λN=>Sig.of [.boxal Jn 3] [] (λd=>Zg3 N d.1 d.2.1),CX [Zqq,Zhy,Zin,Z2]⟩
def Zye:Gd:=GF Zyd Tryz.func142
def Z43:Fn:=⟨Tryz.f277,Wv,λN=>Sig.of [.v Jl true] [.v Jr true] (λd=>Zil N d.1),CX [Zin,Z2]⟩
def Zrb:Gd:=GF Z43 Tryz.func277
def Zvk:Fn:=⟨Tryz.f313,Wv,λN=>Sig.of [.v Jl true] [.v Ja false] (λd=>Zdt N d.1),WR⟩
def Zps:Gd:=GN Zvk Tryz.func313
def Zgx:Fn:=⟨Tryz.f278,λ |4=>[.canon [1,3,38]]|5=>[.canon [1,3]]|6=>[.canon [1,3,54]]|7=>[.canon [2]]|9=>[.canon [1,56,57,58,59]]|10=>[.canon [1,4,5,56,57,58]]|11=>[.canon [1,56,57,58,79]]|12=>[.canon [2]]|13=>[.canon [1,56,57,58]]|100004=>[.canon [1,3]]|100009=>[.canon [1,56,57,58]]|_=>[],λN=>Sig.of [.v Jl true] [.v Jp false] (λd=>Zgf N d.1),CX [Zjz,Zz,Zol,Zel,Zps]⟩
def Zyf(i7:Int)(b8:Int×Int×Int×Int×Int×List Kc×List Int):St:=⟨[(1,vP 0 0),(3,vI i7)],[(0,.box (split Jl b8))],1⟩
def Zvl(b8:Int×Int×Int×Int×Int×List Kc×List Int):St:=⟨[(2,vB false)],[],0⟩
def Zvm(b8:Int×Int×Int×Int×Int×List Kc×List Int)(i9:Int)(ar:Bool):St:=⟨[(1,vP 0 0),(3,vI i9),(38,vB ar)],[(0,.box (split Jl b8))],1⟩
theorem Zyg(N:Nat){R:Type}(K:Ex->St->Option R){b8:Int×Int×Int×Int×Int×List Kc×List Int}{K0:Option R}{K1:Int->Bool->Option R}(h0:K0=K .ret (Zvl b8))(h1:K1= λi9 ar=>K (.exit 0) (Zvm b8 i9 ar))(n:Nat)(i7:Int):Zbj N b8 K0 K1 n i7=LM Zgx N 0 100004 n (Zyf i7 b8) K:=by
  subst h0 h1
  induction n generalizing i7 with
  |zero=>kernel_rfl
  |succ n ih=>rw[Zbj];simp only[ih];kernel_rfl
def Zyh(bc:List Int)(cl:Int)(bA:Int×Int×Int×Int×Int×List Kc×List Int):St:=⟨[(1,vP 0 0),(56,vV Ji bc),(57,vI (Wg bA.2.2.2.2.2.2)),(58,vI cl)],[(0,.box (split Jl bA))],1⟩
def Zvn(bc:List Int)(bA:Int×Int×Int×Int×Int×List Kc×List Int):St:=⟨[(2,vB false)],[],0⟩
def Zvo(bc:List Int)(bA:Int×Int×Int×Int×Int×List Kc×List Int)(hC:Int)(nL:Bool):St:=⟨[(1,vP 0 0),(56,vV Ji bc),(57,vI (Wg bA.2.2.2.2.2.2)),(58,vI hC),(59,vB nL)],[(0,.box (split Jl bA))],1⟩
theorem Zyi(N:Nat){R:Type}(K:Ex->St->Option R){bc:List Int}{bA:Int×Int×Int×Int×Int×List Kc×List Int}{K0:Option R}{K1:Int->Bool->Option R}(h0:K0=K .ret (Zvn bc bA))(h1:K1= λhC nL=>K (.exit 2) (Zvo bc bA hC nL))(n:Nat)(cl:Int):Zav N bc bA K0 K1 n cl=LM Zgx N 1 100009 n (Zyh bc cl bA) K:=by
  subst h0 h1
  induction n generalizing cl with
  |zero=>kernel_rfl
  |succ n ih=>rw[Zav];simp only[ih];kernel_rfl
theorem Z9v(N:Nat)(c1:Int×Int×Int×Int×Int×List Kc×List Int):DN Zgx N (c1,())=Zgf N c1:=by
  conv=>rhs;rw[Zgf];simp(disch:=exact id (by kernel_rfl)) only[Zyg (R:=Unit×Ko) N (CF Zgx N [1,1,0,1,0]),Zyi (R:=Unit×Ko) N (CF Zgx N [1,1,1,0,1,0])]
  kernel_rfl
def Zsb:Gd:=GF Zgx Tryz.func278 (λN d=>Z9v N d.1)
def Zsy:Fn:=⟨Tryz.f279,Wv,λN=>Sig.of [.box Jr,.v Ja false] [] (λd=>Zu N d.1 d.2.1),WR⟩
def Zot:Gd:=GN Zsy Tryz.func279
def Z13:Fn:=⟨Tryz.f211,Wv,λN=>Sig.of [.v Jl true] [.v Jr true,.v Jp false] (λd=>Zku N d.1),CX [Zrb,Zsb,Zot]⟩
def Z14:Gd:=GF Z13 Tryz.func211
def Zac0:Fn:=⟨Tryz.f280,Wv,λN=>Sig.of [.v Jaf true] [.v Jz true] (λd=>Zch N d.1),WR⟩
def Zj0:Gd:=GN Zac0 Tryz.func280
def Zahq:Fn:=⟨Tryz.f282,Wv,λN=>Sig.of [.v Jaf true,.v Ja false,.v Ja false] [.v Jz true,.v Jp false] (λd=>Zpp N d.1 d.2.1 d.2.2.1),CX [Zj0,Zjj,Zel,Zjz]⟩
def Zahr:Gd:=GF Zahq Tryz.func282
def Ztp:Fn:=⟨Tryz.f285,Wv,λN=>Sig.of [.box Jr,.v Ja false] [] (λd=>Zfy N d.1 d.2.1),WR⟩
def Zpi:Gd:=GN Ztp Tryz.func285
def Z15:Fn:=⟨Tryz.f283,Wv,λN=>Sig.of [.box Jr,.v Ja false] [] (λd=>Za7 N d.1 d.2.1),CX [Zps,Zpi]⟩
def Z16:Gd:=GF Z15 Tryz.func283
def Zahs:Fn:=⟨Tryz.f284,Wv,λN=>Sig.of [.v Jaf true] [.v Jz true,.v Ja false] (λd=>Zro N d.1),CX [Zj0,Zjj]⟩
def Zaht:Gd:=GF Zahs Tryz.func284
def Zagz:Fn:=⟨Tryz.f286,Wv,λN=>Sig.of [.v Jaf true,.v Ja false,.v Ja false,.v Ja false] [.v Jz true,.v Jp false] (λd=>Zqx N d.1 d.2.1 d.2.2.1 d.2.2.2.1),CX [Zj0,Zjj,Zel,Zjz,Zbf]⟩
def Zag0:Gd:=GF Zagz Tryz.func286
def Zafl:Fn:=⟨Tryz.f287,Wv,λN=>Sig.of [.v Jaf true,.v Ja false,.v Ja false,.v Ja false] [.v Jz true,.v Jp false] (λd=>Znn N d.1 d.2.1 d.2.2.1 d.2.2.2.1),CX [Zj0,Zjj,Zel,Zjz,Zz]⟩
def Zafm:Gd:=GF Zafl Tryz.func287
def Z44:Fn:=⟨Tryz.f212,Wv,λN=>Sig.of [.v Jaf true,.v Jl true] [.v Jz true,.v Jr true] (λd=>Zlo N d.1 d.2.1),CX [Zj0,Zrb,Zjj,Zsb,Zahr,Z16,Zot,Zaht,Zpi,Zag0,Zafm]⟩
def Z45:Gd:=GF Z44 Tryz.func212
def Zyj:Fn:=⟨Tryz.f143,λ |0=>[.opn 13]|11=>[.nest 85 Jah]|_=>[],λN=>Sig.of [.box Jn,.v Ja false] [] (λd=>Zg4 N d.1 d.2.1),CX [Z14,Zhy,Z45,Zin]⟩
def Zyk:Gd:=GF Zyj Tryz.func143
def Z46:Fn:=⟨Tryz.f216,Wv,λN=>Sig.of [.v Jb true,.box Ja] [.v Jp false] (λd=>Zgs N d.1 d.2.1),WR⟩
def Zrc:Gd:=GN Z46 Tryz.func216
def Zx:Fn:=⟨Tryz.f290,λ |2=>[.canon [0,1,7,8,9]]|3=>[.canon [0,1,5,7,8]]|4=>[.canon [0,1,5,7,8,16]]|5=>[.canon [1,4]]|6=>[.canon [0,1,7,8]]|100002=>[.canon [0,1,7,8]]|_=>[],λN=>Sig.of [.v Jm false,.clos 216 1,.box Ja] [.v Ja false] (λd=>Zq N d.1 d.2.1),CX [Zrc]⟩
def Zfq(s3:List Kb)(t5:Int)(b6:Int):St:=⟨[(0,vV Jm s3),(1,.s (.one (.clos 216 [0]))),(7,vI (Wg s3)),(8,vI t5)],[(0,.box [.val Ja b6])],1⟩
def Ze3(s3:List Kb)(t9:Int)(bi:Int):St:=⟨[(1,.s (.one (.clos 216 [0]))),(4,vI t9)],[(0,.box [.val Ja bi])],1⟩
def Ze4(s3:List Kb)(aq:Int)(az:Bool)(bW:Int):St:=⟨[(0,vV Jm s3),(1,.s (.one (.clos 216 [0]))),(7,vI (Wg s3)),(8,vI aq),(9,vB az)],[(0,.box [.val Ja bW])],1⟩
theorem Zfr(N:Nat){R:Type}(K:Ex->St->Option R){s3:List Kb}{K0:Int->Int->Option R}{K1:Int->Bool->Int->Option R}(h0:K0= λt9 bi=>K .ret (Ze3 s3 t9 bi))(h1:K1= λaq az bW=>K (.exit 0) (Ze4 s3 aq az bW))(n:Nat)(t5:Int)(b6:Int):Ze N s3 K0 K1 n t5 b6=LM Zx N 0 100002 n (Zfq s3 t5 b6) K:=by
  subst h0 h1
  induction n generalizing t5 b6 with
  |zero=>kernel_rfl
  |succ n ih=>rw[Ze];simp only[ih];kernel_rfl
theorem Zgo(N:Nat)(s1:List Kb)(dR:Int):DN Zx N (s1,dR,())=Zq N s1 dR:=by
  conv=>rhs;rw[Zq];simp(disch:=exact id (by kernel_rfl)) only[Zfr (R:=Kh×Kh) N (CF Zx N [1,0,1,0])]
  kernel_rfl
def Zgp:Gd:=GF Zx Tryz.func290 (λN d=>Zgo N d.1 d.2.1)
def Zv:Fn:=⟨Tryz.f215,λ |5=>[.canon [0,1,5,6,19]]|6=>[.canon [0,1,5,6]]|7=>[.canon [0,1,5,6,7]]|8=>[.canon [0,1,5,6,7,29]]|9=>[.canon [0,1,5,6]]|10=>[.canon [0,1,5,6]]|11=>[.view 38]|100005=>[.canon [0,1,5,6]]|_=>[],λN=>Sig.of [.v Jak false,.clos 216 1,.box Ja] [.v Jak false] (λd=>Zl N d.1 d.2.1),CX [Zgp,Zrc]⟩
def Ze5(i4:Int)(j5:Int)(l6:List Kb)(b7:Int):St:=⟨[(0,vO 0),(1,.s (.one (.clos 216 [1]))),(5,vI i4),(6,vI j5)],[(0,.arr Jb l6),(1,.box [.val Ja b7])],2⟩
def Zex(i9:Int)(sN:Int)(aq:Bool)(bC:List Kb)(bW:Int):St:=⟨[(0,vO 0),(1,.s (.one (.clos 216 [1]))),(5,vI i9),(6,vI sN),(19,vB aq)],[(0,.arr Jb bC),(1,.box [.val Ja bW])],2⟩
theorem Ze6(N:Nat){R:Type}(K:Ex->St->Option R){K0:Int->Int->Bool->Kr->Int->Option R}(h0:K0= λi9 sN aq bC bW=>K (.exit 0) (Zex i9 sN aq bC bW))(n:Nat)(i4:Int)(j5:Int)(l6:List Kb)(b7:Int):Za N K0 n i4 j5 l6 b7=LM Zv N 0 100005 n (Ze5 i4 j5 l6 b7) K:=by
  subst h0
  induction n generalizing i4 j5 l6 b7 with
  |zero=>kernel_rfl
  |succ n ih=>rw[Za];simp only[ih];kernel_rfl
theorem Zga(N:Nat)(s1:List Kb)(dR:Int):DN Zv N (s1,dR,())=Zl N s1 dR:=by
  conv=>rhs;rw[Zl];simp(disch:=exact id (by kernel_rfl)) only[Ze6 (R:=Kh×Kaa) N (CF Zv N [1,1,1,0,1,0])]
  kernel_rfl
def Zgb:Gd:=GF Zv Tryz.func215 (λN d=>Zga N d.1 d.2.1)
def Z9w:Fn:=⟨Tryz.f144,Wv,λN=>Sig.of [.v Jm false,.v Ja false] [.v Jak false] (λd=>Znv N d.1 d.2.1),CX [Zru,Zm8,Zgb]⟩
def Z9x:Gd:=GF Z9w Tryz.func144
def Z47:Fn:=⟨Tryz.f73,λ |1=>[.opn 12]|_=>[],λN=>Sig.of [.box Jn,.v Ja false,.v Jai true] [] (λd=>Zim N d.1 d.2.1 d.2.2.1),CX [Zz,Zhy,Z4r,Z7e,Z7i,Zqr,Zra,Zye,Zyk,Z9x,Zrr]⟩
def Z48:Gd:=GF Z47 Tryz.func73
def Ztq:Fn:=⟨Tryz.f223,Wv,λN=>Sig.of [.v Jb true,.box Ja] [.v Jp false] (λd=>Zl5 N d.1 d.2.1),WR⟩
def Ztr:Gd:=GN Ztq Tryz.func223
def Zr:Fn:=⟨Tryz.f222,λ |2=>[.canon [0,1,7,8,9]]|3=>[.canon [0,1,5,7,8]]|4=>[.canon [0,1,5,7,8,16]]|5=>[.canon [1,4]]|6=>[.canon [0,1,7,8]]|100002=>[.canon [0,1,7,8]]|_=>[],λN=>Sig.of [.v Jm false,.clos 223 1,.box Ja] [.v Ja false] (λd=>Zi N d.1 d.2.1),CX [Ztr]⟩
def Zdw(s3:List Kb)(t5:Int)(b6:Int):St:=⟨[(0,vV Jm s3),(1,.s (.one (.clos 223 [0]))),(7,vI (Wg s3)),(8,vI t5)],[(0,.box [.val Ja b6])],1⟩
def Zdo(s3:List Kb)(t9:Int)(bi:Int):St:=⟨[(1,.s (.one (.clos 223 [0]))),(4,vI t9)],[(0,.box [.val Ja bi])],1⟩
def Zdp(s3:List Kb)(aq:Int)(az:Bool)(bW:Int):St:=⟨[(0,vV Jm s3),(1,.s (.one (.clos 223 [0]))),(7,vI (Wg s3)),(8,vI aq),(9,vB az)],[(0,.box [.val Ja bW])],1⟩
theorem Zdx(N:Nat){R:Type}(K:Ex->St->Option R){s3:List Kb}{K0:Int->Int->Option R}{K1:Int->Bool->Int->Option R}(h0:K0= λt9 bi=>K .ret (Zdo s3 t9 bi))(h1:K1= λaq az bW=>K (.exit 0) (Zdp s3 aq az bW))(n:Nat)(t5:Int)(b6:Int):Zc N s3 K0 K1 n t5 b6=LM Zr N 0 100002 n (Zdw s3 t5 b6) K:=by
  subst h0 h1
  induction n generalizing t5 b6 with
  |zero=>kernel_rfl
  |succ n ih=>rw[Zc];simp only[ih];kernel_rfl
theorem Zey(N:Nat)(s1:List Kb)(dR:Int):DN Zr N (s1,dR,())=Zi N s1 dR:=by
  conv=>rhs;rw[Zi];simp(disch:=exact id (by kernel_rfl)) only[Zdx (R:=Kh×Kh) N (CF Zr N [1,0,1,0])]
  kernel_rfl
def Zez:Gd:=GF Zr Tryz.func222 (λN d=>Zey N d.1 d.2.1)
def Zyl:Fn:=⟨Tryz.f148,Wv,λN=>Sig.of [.rp (TY_Family),.v Ja false] [.v Ja false] (λd=>Zco N d.1 d.2.1),CX [Zez]⟩
def Zme:Gd:=GF Zyl Tryz.func148
def Zts:Fn:=⟨Tryz.f149,Wv,λN=>Sig.of [.box Ju,.v Ja false] [] (λd=>Zax N d.1 d.2.1),CX [Z2]⟩
def Zpj:Gd:=GF Zts Tryz.func149
def Z17:Fn:=⟨Tryz.f217,λ |1=>[.opn 18]|_=>[],λN=>Sig.of [.box Ju,.v Ja false,.v Jq true,.v Jaf true] [] (λd=>Zkp N d.1 d.2.1 d.2.2.1 d.2.2.2.1),CX [Zry,Zme,Zpj,Zr9,Zrs]⟩
def Z18:Gd:=GF Z17 Tryz.func217
def Zym:Fn:=⟨Tryz.f218,λ |5=>[.opn 28]|_=>[],λN=>Sig.of [.box Jk,.v Jg false] [] (λd=>Zj1 N d.1 d.2.1),CX [Z2,Zin,Zx3]⟩
def Zyn:Gd:=GF Zym Tryz.func218
def Z49:Fn:=⟨Tryz.f146,λ |1=>[.opn 16]|18=>[.nest 128 Je]|_=>[],λN=>Sig.of [.box Ju,.v Ja false,.v Jg false,.v Jaf true] [] (λd=>Zll N d.1 d.2.1 d.2.2.1 d.2.2.2.1),CX [Z18,Zyn,Z2,Z24]⟩
def Z5a:Gd:=GF Z49 Tryz.func146
def Zaq(N:Nat):Sig:=Sig.of [.mut Jb,.clos 221 0] [] (λd=>Z6 N d.1)
theorem Ze7:WvV Tryz.prog 221 Jb WwR cfE:=by
  intro G x y us vs w hx hy h1 h2;obtain⟨_,_,rfl,a1,_,_,rfl,a2,a3⟩:=h1;obtain⟨_,_,rfl,b1,_,_,rfl,b2,b3⟩:=h2;simp only[Enc]at a1 a2 a3 b1 b2 b3;subst a1 a2 a3 b1 b2 b3;simp only[Xbc,Xbd]
  go_enter Tryz.func221,Tryz.ntmps221
  go_wp2
  rw[Wo7 (Whh hx) (Whh hy) (c:=cfE x y) rfl]
  go_wp2
  go_ret
  exact⟨rfl,Wmu _ _ _⟩
theorem Ze8(N:Nat):GW 220 (Zaq N):=⟨Wd2 Tryz.func220 (show Wo4 Tryz.f220=true by kernel_rfl),WkH sortFE (e:=.prod Ja Jt) rfl (by decide) Tryz.isAgg168 Tryz.sizeOf168 (enters_of Tryz.func221 (by kernel_rfl) rfl) WxL Ze7 N⟩
def Ze9:Gd:=⟨220,Zaq,Ze8⟩
def Zcy:Fn:=⟨Tryz.f147,λ |0=>[.opn 16]|3=>[.canon [0,1,4,28,29,30,31]]|4=>[.canon [0,1,4,6,28,29,30]]|5=>[.canon [0,1,4,6,7,28,29,30]]|6=>[.canon [0,1,4,7,8,28,29,30]]|7=>[.canon [0,1,4,7,8,28,29,30,48]]|8=>[.canon [0,1,4,28,29,30]]|9=>[.canon [0,1,4,28,29,30]]|10=>[.canon [0,1,4,28,29,30]]|13=>[.canon [0,1,4,75,76,77,78]]|14=>[.canon [0,1,4,10,75,76,77]]|15=>[.canon [0,1,4,10,75,76,77,83]]|16=>[.canon [0,1,4,75,76,77]]|17=>[.canon [0,1,4,75,76,77]]|100003=>[.canon [0,1,4,28,29,30]]|100013=>[.canon [0,1,4,75,76,77]]|_=>[],λN=>Sig.of [.box Ju,.v Ja false] [] (λd=>Zep N d.1 d.2.1),CX [Zq8,Zme,Ze9]⟩
def Zsd(k4:Int)(t5:Int)(t6:Int)(b7:Int)(b8:Int)(b9:Int)(bi:Bool)(bR:Int)(cT:Int)(bW:Int)(di:Int)(bU:Int)(bA:Int)(iq:Bool)(ce:Int)(d6:Int)(ir:Int)(it:Int)(cK:List Kc)(fo:List Int)(gj:List Kc)(gY:List Kb)(iu:List Int)(da:List Kc)(eM:List Y_KidRun)(iv:Nat)(fq:List Int)(fu:List Kb)(dg:List Kc)(dM:List Kg):St:=⟨[(0,vP 0 0),(1,vI k4),(4,vP 1 0),(28,vO 2),(29,vI t5),(30,vI t6)],[(0,.box [.val Ja b7,.val Ja b8,.val Ja b9,.val Jp bi,.own 3,.own 4,.own 5,.own 6,.own 7,.own 8]),(1,.box [.val Ja bR,.val Ja cT,.val Ja bW,.val Ja di,.val Ja bU,.val Ja bA,.own 9,.own 10,.own 11,.own 12,.val Jp iq,.val Ja ce,.val Ja d6,.val Ja ir,.val Ja it]),(2,.arr Jt cK),(3,.arr Ja fo),(4,.arr Jt gj),(5,.arr Jb gY),(6,.arr Ja iu),(7,.arr Jt da),(8,.hole Jk eM iv 1),(9,.arr Ja fq),(10,.arr Jb fu),(11,.arr Jt dg),(12,.arr Je dM)],13⟩
def Zrz(k4:Int)(t5:Int)(b7:Int)(b8:Int)(b9:Int)(bi:Bool)(bR:Int)(cT:Int)(bW:Int)(di:Int)(bU:Int)(bA:Int)(iq:Bool)(ce:Int)(d6:Int)(ir:Int)(it:Int)(cK:List Kc)(fo:List Int)(gj:List Kc)(iu:List Int)(da:List Kc)(eM:List Y_KidRun)(iv:Nat)(fq:List Int)(fu:List Kb)(dg:List Kc)(dM:List Kg)(sO:Int)(nO:Bool)(sP:List Kb):St:=⟨[(0,vP 0 0),(1,vI k4),(4,vP 1 0),(28,vO 2),(29,vI t5),(30,vI sO),(31,vB nO)],[(0,.box [.val Ja b7,.val Ja b8,.val Ja b9,.val Jp bi,.own 3,.own 4,.own 5,.own 6,.own 7,.own 8]),(1,.box [.val Ja bR,.val Ja cT,.val Ja bW,.val Ja di,.val Ja bU,.val Ja bA,.own 9,.own 10,.own 11,.own 12,.val Jp iq,.val Ja ce,.val Ja d6,.val Ja ir,.val Ja it]),(2,.arr Jt cK),(3,.arr Ja fo),(4,.arr Jt gj),(5,.arr Jb sP),(6,.arr Ja iu),(7,.arr Jt da),(8,.hole Jk eM iv 1),(9,.arr Ja fq),(10,.arr Jb fu),(11,.arr Jt dg),(12,.arr Je dM)],13⟩
theorem Zse(N:Nat){R:Type}(K:Ex->St->Option R){k4:Int}{t5:Int}{b7:Int}{b8:Int}{b9:Int}{bi:Bool}{bR:Int}{cT:Int}{bW:Int}{di:Int}{bU:Int}{bA:Int}{iq:Bool}{ce:Int}{d6:Int}{ir:Int}{it:Int}{cK:List Kc}{fo:List Int}{gj:List Kc}{iu:List Int}{da:List Kc}{eM:List Y_KidRun}{iv:Nat}{fq:List Int}{fu:List Kb}{dg:List Kc}{dM:List Kg}{K0:Int->Bool->Kr->Option R}(h0:K0= λsO nO sP=>K (.exit 0) (Zrz k4 t5 b7 b8 b9 bi bR cT bW di bU bA iq ce d6 ir it cK fo gj iu da eM iv fq fu dg dM sO nO sP))(n:Nat)(t6:Int)(gY:List Kb):Zab N k4 t5 b7 b8 b9 bi bR cT bW di bU bA iq ce d6 ir it cK fo gj iu da eM iv fq fu dg dM K0 n t6 gY=LM Zcy N 0 100003 n (Zsd k4 t5 t6 b7 b8 b9 bi bR cT bW di bU bA iq ce d6 ir it cK fo gj gY iu da eM iv fq fu dg dM) K:=by
  subst h0
  induction n generalizing t6 gY with
  |zero=>kernel_rfl
  |succ n ih=>rw[Zab];simp only[ih];kernel_rfl
def Zsf(fa:Int)(jr:Int)(t45:Int)(fb:Int)(fe:Int)(ff:Int)(fg:Bool)(fh:Int)(fi:Int)(fj:Int)(dN:Int)(jt:Int)(ju:Int)(jv:Bool)(jw:Int)(jx:Int)(jy:Int)(jz:Int)(dE:List Kb)(jA:List Int)(jB:List Kc)(jC:List Kb)(jD:List Int)(lh:List Kc)(jE:List Y_KidRun)(jF:Nat)(eO:List Int)(eN:List Kc)(iP:List Kg):St:=⟨[(0,vP 0 0),(1,vI fa),(4,vP 1 0),(75,vO 2),(76,vI jr),(77,vI t45)],[(0,.box [.val Ja fb,.val Ja fe,.val Ja ff,.val Jp fg,.own 3,.own 4,.own 5,.own 6,.own 7,.own 8]),(1,.box [.val Ja fh,.val Ja fi,.val Ja fj,.val Ja dN,.val Ja jt,.val Ja ju,.own 9,.own 2,.own 10,.own 11,.val Jp jv,.val Ja jw,.val Ja jx,.val Ja jy,.val Ja jz]),(2,.arr Jb dE),(3,.arr Ja jA),(4,.arr Jt jB),(5,.arr Jb jC),(6,.arr Ja jD),(7,.arr Jt lh),(8,.hole Jk jE jF 1),(9,.arr Ja eO),(10,.arr Jt eN),(11,.arr Je iP)],12⟩
def Zr0(fa:Int)(jr:Int)(fb:Int)(fe:Int)(ff:Int)(fg:Bool)(fh:Int)(fi:Int)(fj:Int)(dN:Int)(jt:Int)(ju:Int)(jv:Bool)(jw:Int)(jx:Int)(jy:Int)(jz:Int)(dE:List Kb)(jA:List Int)(jB:List Kc)(jC:List Kb)(jD:List Int)(jE:List Y_KidRun)(jF:Nat)(eO:List Int)(eN:List Kc)(iP:List Kg)(m8:Int)(sQ:Bool)(sS:List Kc):St:=⟨[(0,vP 0 0),(1,vI fa),(4,vP 1 0),(75,vO 2),(76,vI jr),(77,vI m8),(78,vB sQ)],[(0,.box [.val Ja fb,.val Ja fe,.val Ja ff,.val Jp fg,.own 3,.own 4,.own 5,.own 6,.own 7,.own 8]),(1,.box [.val Ja fh,.val Ja fi,.val Ja fj,.val Ja dN,.val Ja jt,.val Ja ju,.own 9,.own 2,.own 10,.own 11,.val Jp jv,.val Ja jw,.val Ja jx,.val Ja jy,.val Ja jz]),(2,.arr Jb dE),(3,.arr Ja jA),(4,.arr Jt jB),(5,.arr Jb jC),(6,.arr Ja jD),(7,.arr Jt sS),(8,.hole Jk jE jF 1),(9,.arr Ja eO),(10,.arr Jt eN),(11,.arr Je iP)],12⟩
theorem Zsg(N:Nat){R:Type}(K:Ex->St->Option R){fa:Int}{jr:Int}{fb:Int}{fe:Int}{ff:Int}{fg:Bool}{fh:Int}{fi:Int}{fj:Int}{dN:Int}{jt:Int}{ju:Int}{jv:Bool}{jw:Int}{jx:Int}{jy:Int}{jz:Int}{dE:List Kb}{jA:List Int}{jB:List Kc}{jC:List Kb}{jD:List Int}{jE:List Y_KidRun}{jF:Nat}{eO:List Int}{eN:List Kc}{iP:List Kg}{K0:Int->Bool->Kv->Option R}(h0:K0= λm8 sQ sS=>K (.exit 2) (Zr0 fa jr fb fe ff fg fh fi fj dN jt ju jv jw jx jy jz dE jA jB jC jD jE jF eO eN iP m8 sQ sS))(n:Nat)(t45:Int)(lh:List Kc):Zah N fa jr fb fe ff fg fh fi fj dN jt ju jv jw jx jy jz dE jA jB jC jD jE jF eO eN iP K0 n t45 lh=LM Zcy N 1 100013 n (Zsf fa jr t45 fb fe ff fg fh fi fj dN jt ju jv jw jx jy jz dE jA jB jC jD lh jE jF eO eN iP) K:=by
  subst h0
  induction n generalizing t45 lh with
  |zero=>kernel_rfl
  |succ n ih=>rw[Zah];simp only[ih];kernel_rfl
theorem Zyo(N:Nat)(f1:Y_Family)(k2:Int):DN Zcy N (f1,k2,())=Zep N f1 k2:=by
  conv=>rhs;rw[Zep];simp(disch:=exact id (by kernel_rfl)) only[Zse (R:=(Y_Family×Unit)×Unit) N (CF Zcy N [1,1,0,1,0]),Zsg (R:=(Y_Family×Unit)×Unit) N (CF Zcy N [1,1,1,1,0,1,0])]
  kernel_rfl
def Zyp:Gd:=GF Zcy Tryz.func147 (λN d=>Zyo N d.1 d.2.1)
def Z19:Fn:=⟨Tryz.f74,λ |2=>[.opn 20]|_=>[],λN=>Sig.of [.box Ju,.v Ja false,.v Jg false,.v Jaf true] [] (λd=>Zkq N d.1 d.2.1 d.2.2.1 d.2.2.2.1),CX [Z5a,Zyp,Zme,Zpj]⟩
def Z2a:Gd:=GF Z19 Tryz.func74
def Z7j:Fn:=⟨Tryz.f28,λ |3=>[.unfE 6]|_=>[],λN=>Sig.of [.box Jn,.v Jx true,.v Jb true] [] (λd=>Zmh N d.1 d.2.1 d.2.2.1),CX [Zz,Z48,Z2a]⟩
def Z7k:Gd:=GF Z7j Tryz.func28
def Zqc:Fn:=⟨Tryz.f8,λ |3=>[.nest 21 Jj]|6=>[.canon [1,2,3,32,33,34,35]]|7=>[.canon [1,2,3,5,32,33,34]]|8=>[.canon [1,2,3,32,33,34]]|9=>[.canon [1,2,3,32,33,34]]|100006=>[.adoptC 3 6 Jb,.adoptC 3 8 Jah,.canon [1,2,3,32,33,34]]|_=>[],λN=>Sig.of [.v Jx true] [.v Jn true] (λd=>Zlj N d.1),CX [Z9i,Z6x,Zafc,Z7k]⟩
def Z9y(t5:List Kb)(t7:Int)(b8:Ki×List Km×List Kb)(bW:Int)(di:Int)(bU:Int)(bA:Int)(dp:List Kb)(cy:List Int)(aY:List Kb)(dv:List Y_Root)(dD:List Kn):St:=⟨[(1,vP 0 0),(2,vP 1 0),(3,vP 2 0),(32,vV Jm t5),(33,vI (Wg b8.2.2)),(34,vI t7)],[(0,.box [.val Ji b8.1.1,.val Ji b8.1.2.1,.val Ja b8.1.2.2,.val Jo b8.2.1,.val Jm b8.2.2]),(1,.box [.val Ja (0:Int),.val Ja (0:Int),.val Ja (0:Int),.nils,.nils,.val Ja (0:Int),.nils,.nils,.nils]),(2,.box [.val Ja bW,.val Ja di,.val Ja bU,.own 3,.own 4,.val Ja bA,.own 5,.own 6,.own 7]),(3,.arr Jb dp),(4,.arr Ja cy),(5,.arr Jb aY),(6,.arr Jj dv),(7,.arr Jah dD)],8⟩
def Z7l(t5:List Kb)(b8:Ki×List Km×List Kb)(m7:Int)(t25:Bool)(m9:Int)(sT:Int)(sU:Int)(sW:Int)(fq:List Kb)(fu:List Int)(dg:List Kb)(dM:List Y_Root)(sX:List Kn):St:=⟨[(1,vP 0 0),(2,vP 1 0),(3,vP 2 0),(32,vV Jm t5),(33,vI (Wg b8.2.2)),(34,vI m7),(35,vB t25)],[(0,.box [.val Ji b8.1.1,.val Ji b8.1.2.1,.val Ja b8.1.2.2,.val Jo b8.2.1,.val Jm b8.2.2]),(1,.box [.val Ja (0:Int),.val Ja (0:Int),.val Ja (0:Int),.nils,.nils,.val Ja (0:Int),.nils,.nils,.nils]),(2,.box [.val Ja m9,.val Ja sT,.val Ja sU,.own 3,.own 4,.val Ja sW,.own 5,.own 6,.own 7]),(3,.arr Jb fq),(4,.arr Ja fu),(5,.arr Jb dg),(6,.arr Jj dM),(7,.arr Jah sX)],8⟩
theorem Z9z(N:Nat){R:Type}(K:Ex->St->Option R){t5:List Kb}{b8:Ki×List Km×List Kb}{K0:Int->Bool->Int->Int->Int->Int->Kr->Kj->Kr->(List Y_Root)->Kag->Option R}(h0:K0= λm7 t25 m9 sT sU sW fq fu dg dM sX=>K (.exit 0) (Z7l t5 b8 m7 t25 m9 sT sU sW fq fu dg dM sX))(n:Nat)(t7:Int)(bW:Int)(di:Int)(bU:Int)(bA:Int)(dp:List Kb)(cy:List Int)(aY:List Kb)(dv:List Y_Root)(dD:List Kn):Zek N t5 b8 K0 n t7 bW di bU bA dp cy aY dv dD=LM Zqc N 0 100006 n (Z9y t5 t7 b8 bW di bU bA dp cy aY dv dD) K:=by
  subst h0
  induction n generalizing t7 bW di bU bA dp cy aY dv dD with
  |zero=>kernel_rfl
  |succ n ih=>rw[Zek];simp only[ih];kernel_rfl
theorem Zahu(N:Nat)(s1:Ki×List Km×List Kb):DN Zqc N (s1,())=Zlj N s1:=by
  conv=>rhs;rw[Zlj];simp(disch:=exact id (by kernel_rfl)) only[Z9z (R:=Unit×(Y_World×Unit)) N (CF Zqc N [1,1,1,1,0,1,0])]
  kernel_rfl
def Zahv:Gd:=GF Zqc Tryz.func8 (λN d=>Zahu N d.1)
def Zafn:Fn:=⟨Tryz.f150,Wv,λN=>Sig.of [.v Jb true,.v Jb true] [.v Jp false] (λd=>Zpt N d.1 d.2.1),WR⟩
def Zafo:Gd:=GN Zafn Tryz.func150
def Zne:Fn:=⟨Tryz.f75,λ |4=>[.canon [0,1,5,14]]|5=>[.canon [0,1,5]]|6=>[.canon [0,1,5,26]]|7=>[.canon [4]]|100004=>[.canon [0,1,5]]|_=>[],λN=>Sig.of [.v Jm false,.v Jm false] [.v Jp false] (λd=>Zix N d.1 d.2.1),CX [Zafo]⟩
def Z2b(a3:List Kb)(b4:List Kb)(i5:Int):St:=⟨[(0,vV Jm a3),(1,vV Jm b4),(5,vI i5)],[],0⟩
def Zyq(a3:List Kb)(b4:List Kb):St:=⟨[(4,vB false)],[],0⟩
def Zyr(a3:List Kb)(b4:List Kb)(i7:Int)(t8:Bool):St:=⟨[(0,vV Jm a3),(1,vV Jm b4),(5,vI i7),(14,vB t8)],[],0⟩
theorem Z2c(N:Nat){R:Type}(K:Ex->St->Option R){a3:List Kb}{b4:List Kb}{K0:Option R}{K1:Int->Bool->Option R}(h0:K0=K .ret (Zyq a3 b4))(h1:K1= λi7 t8=>K (.exit 0) (Zyr a3 b4 i7 t8))(n:Nat)(i5:Int):Zc2 N a3 b4 K0 K1 n i5=LM Zne N 0 100004 n (Z2b a3 b4 i5) K:=by
  subst h0 h1
  induction n generalizing i5 with
  |zero=>kernel_rfl
  |succ n ih=>rw[Zc2];simp only[ih];kernel_rfl
theorem Zac1(N:Nat)(a1:List Kb)(b2:List Kb):DN Zne N (a1,b2,())=Zix N a1 b2:=by
  conv=>rhs;rw[Zix];simp(disch:=exact id (by kernel_rfl)) only[Z2c (R:=Unit×Ko) N (CF Zne N [1,1,0,1,0])]
  kernel_rfl
def Zac2:Gd:=GF Zne Tryz.func75 (λN d=>Zac1 N d.1 d.2.1)
def Zag1:Fn:=⟨Tryz.f29,Wv,λN=>Sig.of [.v Jaf true,.v Jaf true] [.v Jp false] (λd=>Zqu N d.1 d.2.1),CX [Zac2]⟩
def Zag2:Gd:=GF Zag1 Tryz.func29
def Zon:Fn:=⟨Tryz.f76,λ |4=>[.canon [0,1,5,14]]|5=>[.canon [0,1,5]]|6=>[.canon [0,1,5,25]]|7=>[.canon [4]]|100004=>[.canon [0,1,5]]|_=>[],λN=>Sig.of [.v Ji false,.v Ji false] [.v Jp false] (λd=>Zaf N d.1 d.2.1),WR⟩
def Z5b(a3:List Int)(b4:List Int)(i5:Int):St:=⟨[(0,vV Ji a3),(1,vV Ji b4),(5,vI i5)],[],0⟩
def Z2d(a3:List Int)(b4:List Int):St:=⟨[(4,vB false)],[],0⟩
def Z2e(a3:List Int)(b4:List Int)(i6:Int)(t7:Bool):St:=⟨[(0,vV Ji a3),(1,vV Ji b4),(5,vI i6),(14,vB t7)],[],0⟩
theorem Z5c(N:Nat){R:Type}(K:Ex->St->Option R){a3:List Int}{b4:List Int}{K0:Option R}{K1:Int->Bool->Option R}(h0:K0=K .ret (Z2d a3 b4))(h1:K1= λi6 t7=>K (.exit 0) (Z2e a3 b4 i6 t7))(n:Nat)(i5:Int):Zd9 N a3 b4 K0 K1 n i5=LM Zon N 0 100004 n (Z5b a3 b4 i5) K:=by
  subst h0 h1
  induction n generalizing i5 with
  |zero=>kernel_rfl
  |succ n ih=>rw[Zd9];simp only[ih];kernel_rfl
theorem Zafp(N:Nat)(a1:List Int)(b2:List Int):DN Zon N (a1,b2,())=Zaf N a1 b2:=by
  conv=>rhs;rw[Zaf];simp(disch:=exact id (by kernel_rfl)) only[Z5c (R:=Unit×Ko) N (CF Zon N [1,1,0,1,0])]
  kernel_rfl
def Zem:Gd:=GN Zon Tryz.func76 (λN d=>Zafp N d.1 d.2.1)
def Zac3:Fn:=⟨Tryz.f30,Wv,λN=>Sig.of [.v Jag true,.v Jag true] [.v Jp false] (λd=>Zo5 N d.1 d.2.1),CX [Zem]⟩
def Zac4:Gd:=GF Zac3 Tryz.func30
def Zafq:Fn:=⟨Tryz.f77,Wv,λN=>Sig.of [.v Jb true,.v Jb true] [.v Jp false] (λd=>Zp3 N d.1 d.2.1),WR⟩
def Zafr:Gd:=GN Zafq Tryz.func77
def Znf:Fn:=⟨Tryz.f31,λ |4=>[.canon [0,1,5,14]]|5=>[.canon [0,1,5]]|6=>[.canon [0,1,5,26]]|7=>[.canon [4]]|100004=>[.canon [0,1,5]]|_=>[],λN=>Sig.of [.v Jm false,.v Jm false] [.v Jp false] (λd=>Zjd N d.1 d.2.1),CX [Zafr]⟩
def Z2f(a3:List Kb)(b4:List Kb)(i5:Int):St:=⟨[(0,vV Jm a3),(1,vV Jm b4),(5,vI i5)],[],0⟩
def Zys(a3:List Kb)(b4:List Kb):St:=⟨[(4,vB false)],[],0⟩
def Zyt(a3:List Kb)(b4:List Kb)(i7:Int)(t8:Bool):St:=⟨[(0,vV Jm a3),(1,vV Jm b4),(5,vI i7),(14,vB t8)],[],0⟩
theorem Z2g(N:Nat){R:Type}(K:Ex->St->Option R){a3:List Kb}{b4:List Kb}{K0:Option R}{K1:Int->Bool->Option R}(h0:K0=K .ret (Zys a3 b4))(h1:K1= λi7 t8=>K (.exit 0) (Zyt a3 b4 i7 t8))(n:Nat)(i5:Int):Zdg N a3 b4 K0 K1 n i5=LM Znf N 0 100004 n (Z2f a3 b4 i5) K:=by
  subst h0 h1
  induction n generalizing i5 with
  |zero=>kernel_rfl
  |succ n ih=>rw[Zdg];simp only[ih];kernel_rfl
theorem Zac5(N:Nat)(a1:List Kb)(b2:List Kb):DN Znf N (a1,b2,())=Zjd N a1 b2:=by
  conv=>rhs;rw[Zjd];simp(disch:=exact id (by kernel_rfl)) only[Z2g (R:=Unit×Ko) N (CF Znf N [1,1,0,1,0])]
  kernel_rfl
def Zac6:Gd:=GF Znf Tryz.func31 (λN d=>Zac5 N d.1 d.2.1)
def Zag3:Fn:=⟨Tryz.f224,Wv,λN=>Sig.of [.v Jt true,.v Jt true] [.v Jp false] (λd=>Zqv N d.1 d.2.1),WR⟩
def Zag4:Gd:=GN Zag3 Tryz.func224
def Zoo:Fn:=⟨Tryz.f151,λ |4=>[.canon [0,1,5,14]]|5=>[.canon [0,1,5]]|6=>[.canon [0,1,5,26]]|7=>[.canon [4]]|100004=>[.canon [0,1,5]]|_=>[],λN=>Sig.of [.v Jd false,.v Jd false] [.v Jp false] (λd=>Zbm N d.1 d.2.1),CX [Zag4]⟩
def Z5d(a3:List Kc)(b4:List Kc)(i5:Int):St:=⟨[(0,vV Jd a3),(1,vV Jd b4),(5,vI i5)],[],0⟩
def Z2h(a3:List Kc)(b4:List Kc):St:=⟨[(4,vB false)],[],0⟩
def Z2i(a3:List Kc)(b4:List Kc)(i7:Int)(t8:Bool):St:=⟨[(0,vV Jd a3),(1,vV Jd b4),(5,vI i7),(14,vB t8)],[],0⟩
theorem Z5e(N:Nat){R:Type}(K:Ex->St->Option R){a3:List Kc}{b4:List Kc}{K0:Option R}{K1:Int->Bool->Option R}(h0:K0=K .ret (Z2h a3 b4))(h1:K1= λi7 t8=>K (.exit 0) (Z2i a3 b4 i7 t8))(n:Nat)(i5:Int):Zea N a3 b4 K0 K1 n i5=LM Zoo N 0 100004 n (Z5d a3 b4 i5) K:=by
  subst h0 h1
  induction n generalizing i5 with
  |zero=>kernel_rfl
  |succ n ih=>rw[Zea];simp only[ih];kernel_rfl
theorem Zafs(N:Nat)(a1:List Kc)(b2:List Kc):DN Zoo N (a1,b2,())=Zbm N a1 b2:=by
  conv=>rhs;rw[Zbm];simp(disch:=exact id (by kernel_rfl)) only[Z5e (R:=Unit×Ko) N (CF Zoo N [1,1,0,1,0])]
  kernel_rfl
def Zk5:Gd:=GF Zoo Tryz.func151 (λN d=>Zafs N d.1 d.2.1)
def Zaft:Fn:=⟨Tryz.f225,Wv,λN=>Sig.of [.v Js true,.v Js true] [.v Jp false] (λd=>Zp4 N d.1 d.2.1),CX [Zem]⟩
def Zafu:Gd:=GF Zaft Tryz.func225
def Zng:Fn:=⟨Tryz.f152,λ |4=>[.canon [0,1,5,14]]|5=>[.canon [0,1,5]]|6=>[.canon [0,1,5,26]]|7=>[.canon [4]]|100004=>[.canon [0,1,5]]|_=>[],λN=>Sig.of [.v Jam false,.v Jam false] [.v Jp false] (λd=>Zje N d.1 d.2.1),CX [Zafu]⟩
def Z2j(a3:List Kf)(b4:List Kf)(i5:Int):St:=⟨[(0,vV Jam a3),(1,vV Jam b4),(5,vI i5)],[],0⟩
def Zyu(a3:List Kf)(b4:List Kf):St:=⟨[(4,vB false)],[],0⟩
def Zyv(a3:List Kf)(b4:List Kf)(i7:Int)(t8:Bool):St:=⟨[(0,vV Jam a3),(1,vV Jam b4),(5,vI i7),(14,vB t8)],[],0⟩
theorem Z2k(N:Nat){R:Type}(K:Ex->St->Option R){a3:List Kf}{b4:List Kf}{K0:Option R}{K1:Int->Bool->Option R}(h0:K0=K .ret (Zyu a3 b4))(h1:K1= λi7 t8=>K (.exit 0) (Zyv a3 b4 i7 t8))(n:Nat)(i5:Int):Zdh N a3 b4 K0 K1 n i5=LM Zng N 0 100004 n (Z2j a3 b4 i5) K:=by
  subst h0 h1
  induction n generalizing i5 with
  |zero=>kernel_rfl
  |succ n ih=>rw[Zdh];simp only[ih];kernel_rfl
theorem Zac7(N:Nat)(a1:List Kf)(b2:List Kf):DN Zng N (a1,b2,())=Zje N a1 b2:=by
  conv=>rhs;rw[Zje];simp(disch:=exact id (by kernel_rfl)) only[Z2k (R:=Unit×Ko) N (CF Zng N [1,1,0,1,0])]
  kernel_rfl
def Zac8:Gd:=GF Zng Tryz.func152 (λN d=>Zac7 N d.1 d.2.1)
def Zafv:Fn:=⟨Tryz.f226,Wv,λN=>Sig.of [.v Jb true,.v Jb true] [.v Jp false] (λd=>Zp5 N d.1 d.2.1),WR⟩
def Zafw:Gd:=GN Zafv Tryz.func226
def Znh:Fn:=⟨Tryz.f153,λ |4=>[.canon [0,1,5,14]]|5=>[.canon [0,1,5]]|6=>[.canon [0,1,5,26]]|7=>[.canon [4]]|100004=>[.canon [0,1,5]]|_=>[],λN=>Sig.of [.v Jm false,.v Jm false] [.v Jp false] (λd=>Zjf N d.1 d.2.1),CX [Zafw]⟩
def Z2l(a3:List Kb)(b4:List Kb)(i5:Int):St:=⟨[(0,vV Jm a3),(1,vV Jm b4),(5,vI i5)],[],0⟩
def Zyw(a3:List Kb)(b4:List Kb):St:=⟨[(4,vB false)],[],0⟩
def Zyx(a3:List Kb)(b4:List Kb)(i7:Int)(t8:Bool):St:=⟨[(0,vV Jm a3),(1,vV Jm b4),(5,vI i7),(14,vB t8)],[],0⟩
theorem Z2m(N:Nat){R:Type}(K:Ex->St->Option R){a3:List Kb}{b4:List Kb}{K0:Option R}{K1:Int->Bool->Option R}(h0:K0=K .ret (Zyw a3 b4))(h1:K1= λi7 t8=>K (.exit 0) (Zyx a3 b4 i7 t8))(n:Nat)(i5:Int):Zdi N a3 b4 K0 K1 n i5=LM Znh N 0 100004 n (Z2l a3 b4 i5) K:=by
  subst h0 h1
  induction n generalizing i5 with
  |zero=>kernel_rfl
  |succ n ih=>rw[Zdi];simp only[ih];kernel_rfl
theorem Zac9(N:Nat)(a1:List Kb)(b2:List Kb):DN Znh N (a1,b2,())=Zjf N a1 b2:=by
  conv=>rhs;rw[Zjf];simp(disch:=exact id (by kernel_rfl)) only[Z2m (R:=Unit×Ko) N (CF Znh N [1,1,0,1,0])]
  kernel_rfl
def Zada:Gd:=GF Znh Tryz.func153 (λN d=>Zac9 N d.1 d.2.1)
def Zadb:Fn:=⟨Tryz.f154,Wv,λN=>Sig.of [.v Jq true,.v Jq true] [.v Jp false] (λd=>Zl6 N d.1 d.2.1),WR⟩
def Zsz:Gd:=GN Zadb Tryz.func154
def Z90:Fn:=⟨Tryz.f155,Wv,λN=>Sig.of [.v Jl true,.v Jl true] [.v Jp false] (λd=>Zn2 N d.1 d.2.1),CX [Zk5,Zem]⟩
def Z91:Gd:=GF Z90 Tryz.func155
def Zadc:Fn:=⟨Tryz.f294,Wv,λN=>Sig.of [.v Jb true,.v Jb true] [.v Jp false] (λd=>Zow N d.1 d.2.1),WR⟩
def Zadd:Gd:=GN Zadc Tryz.func294
def Zlw:Fn:=⟨Tryz.f227,λ |4=>[.canon [0,1,5,14]]|5=>[.canon [0,1,5]]|6=>[.canon [0,1,5,26]]|7=>[.canon [4]]|100004=>[.canon [0,1,5]]|_=>[],λN=>Sig.of [.v Jm false,.v Jm false] [.v Jp false] (λd=>Zge N d.1 d.2.1),CX [Zadd]⟩
def Zyy(a3:List Kb)(b4:List Kb)(i5:Int):St:=⟨[(0,vV Jm a3),(1,vV Jm b4),(5,vI i5)],[],0⟩
def Zvp(a3:List Kb)(b4:List Kb):St:=⟨[(4,vB false)],[],0⟩
def Zvq(a3:List Kb)(b4:List Kb)(i7:Int)(t8:Bool):St:=⟨[(0,vV Jm a3),(1,vV Jm b4),(5,vI i7),(14,vB t8)],[],0⟩
theorem Zyz(N:Nat){R:Type}(K:Ex->St->Option R){a3:List Kb}{b4:List Kb}{K0:Option R}{K1:Int->Bool->Option R}(h0:K0=K .ret (Zvp a3 b4))(h1:K1= λi7 t8=>K (.exit 0) (Zvq a3 b4 i7 t8))(n:Nat)(i5:Int):Zcp N a3 b4 K0 K1 n i5=LM Zlw N 0 100004 n (Zyy a3 b4 i5) K:=by
  subst h0 h1
  induction n generalizing i5 with
  |zero=>kernel_rfl
  |succ n ih=>rw[Zcp];simp only[ih];kernel_rfl
theorem Z92(N:Nat)(a1:List Kb)(b2:List Kb):DN Zlw N (a1,b2,())=Zge N a1 b2:=by
  conv=>rhs;rw[Zge];simp(disch:=exact id (by kernel_rfl)) only[Zyz (R:=Unit×Ko) N (CF Zlw N [1,1,0,1,0])]
  kernel_rfl
def Zsc:Gd:=GF Zlw Tryz.func227 (λN d=>Z92 N d.1 d.2.1)
def Z7m:Fn:=⟨Tryz.f331,Wv,λN=>Sig.of [.v Jaa true,.v Jaa true] [.v Jp false] (λd=>Zmf N d.1 d.2.1),CX [Zem]⟩
def Z7n:Gd:=GF Z7m Tryz.func331
def Zj5:Fn:=⟨Tryz.f324,λ |4=>[.canon [0,1,5,14]]|5=>[.canon [0,1,5]]|6=>[.canon [0,1,5,26]]|7=>[.canon [4]]|100004=>[.canon [0,1,5]]|_=>[],λN=>Sig.of [.v Jal false,.v Jal false] [.v Jp false] (λd=>Zgq N d.1 d.2.1),CX [Z7n]⟩
def Ztt(a3:List Kg)(b4:List Kg)(i5:Int):St:=⟨[(0,vV Jal a3),(1,vV Jal b4),(5,vI i5)],[],0⟩
def Zs0(a3:List Kg)(b4:List Kg):St:=⟨[(4,vB false)],[],0⟩
def Zs1(a3:List Kg)(b4:List Kg)(i7:Int)(t8:Bool):St:=⟨[(0,vV Jal a3),(1,vV Jal b4),(5,vI i7),(14,vB t8)],[],0⟩
theorem Ztu(N:Nat){R:Type}(K:Ex->St->Option R){a3:List Kg}{b4:List Kg}{K0:Option R}{K1:Int->Bool->Option R}(h0:K0=K .ret (Zs0 a3 b4))(h1:K1= λi7 t8=>K (.exit 0) (Zs1 a3 b4 i7 t8))(n:Nat)(i5:Int):Zbq N a3 b4 K0 K1 n i5=LM Zj5 N 0 100004 n (Ztt a3 b4 i5) K:=by
  subst h0 h1
  induction n generalizing i5 with
  |zero=>kernel_rfl
  |succ n ih=>rw[Zbq];simp only[ih];kernel_rfl
theorem Z5f(N:Nat)(a1:List Kg)(b2:List Kg):DN Zj5 N (a1,b2,())=Zgq N a1 b2:=by
  conv=>rhs;rw[Zgq];simp(disch:=exact id (by kernel_rfl)) only[Ztu (R:=Unit×Ko) N (CF Zj5 N [1,1,0,1,0])]
  kernel_rfl
def Z5g:Gd:=GF Zj5 Tryz.func324 (λN d=>Z5f N d.1 d.2.1)
def Z93:Fn:=⟨Tryz.f295,Wv,λN=>Sig.of [.v (TY_KidRun) true,.v (TY_KidRun) true] [.v Jp false] (λd=>Znr N d.1 d.2.1),CX [Zem,Zsc,Zk5,Z5g,Zsz]⟩
def Z94:Gd:=GF Z93 Tryz.func295
def Zk6:Fn:=⟨Tryz.f228,λ |4=>[.canon [0,1,5,14]]|5=>[.canon [0,1,5]]|6=>[.canon [0,1,5,26]]|7=>[.canon [4]]|100004=>[.canon [0,1,5]]|_=>[],λN=>Sig.of [.v Jad false,.v Jad false] [.v Jp false] (λd=>Zg8 N d.1 d.2.1),CX [Z94]⟩
def Zvr(a3:List Y_KidRun)(b4:List Y_KidRun)(i5:Int):St:=⟨[(0,vV Jad a3),(1,vV Jad b4),(5,vI i5)],[],0⟩
def Ztv(a3:List Y_KidRun)(b4:List Y_KidRun):St:=⟨[(4,vB false)],[],0⟩
def Ztw(a3:List Y_KidRun)(b4:List Y_KidRun)(i7:Int)(t8:Bool):St:=⟨[(0,vV Jad a3),(1,vV Jad b4),(5,vI i7),(14,vB t8)],[],0⟩
theorem Zvs(N:Nat){R:Type}(K:Ex->St->Option R){a3:List Y_KidRun}{b4:List Y_KidRun}{K0:Option R}{K1:Int->Bool->Option R}(h0:K0=K .ret (Ztv a3 b4))(h1:K1= λi7 t8=>K (.exit 0) (Ztw a3 b4 i7 t8))(n:Nat)(i5:Int):Zb3 N a3 b4 K0 K1 n i5=LM Zk6 N 0 100004 n (Zvr a3 b4 i5) K:=by
  subst h0 h1
  induction n generalizing i5 with
  |zero=>kernel_rfl
  |succ n ih=>rw[Zb3];simp only[ih];kernel_rfl
theorem Z7o(N:Nat)(a1:List Y_KidRun)(b2:List Y_KidRun):DN Zk6 N (a1,b2,())=Zg8 N a1 b2:=by
  conv=>rhs;rw[Zg8];simp(disch:=exact id (by kernel_rfl)) only[Zvs (R:=Unit×Ko) N (CF Zk6 N [1,1,0,1,0])]
  kernel_rfl
def Z7p:Gd:=GF Zk6 Tryz.func228 (λN d=>Z7o N d.1 d.2.1)
def Z95:Fn:=⟨Tryz.f156,Wv,λN=>Sig.of [.v (TY_Family) true,.v (TY_Family) true] [.v Jp false] (λd=>Zns N d.1 d.2.1),CX [Zem,Zk5,Zsc,Z7p]⟩
def Z96:Gd:=GF Z95 Tryz.func156
def Zafx:Fn:=⟨Tryz.f78,Wv,λN=>Sig.of [.v (TY_Root) true,.v (TY_Root) true] [.v Jp false] (λd=>Zp6 N d.1 d.2.1),CX [Zem,Zk5,Zac8,Zada,Zsz,Z91,Z96]⟩
def Zafy:Gd:=GF Zafx Tryz.func78
def Zni:Fn:=⟨Tryz.f32,λ |4=>[.canon [0,1,5,14]]|5=>[.canon [0,1,5]]|6=>[.canon [0,1,5,26]]|7=>[.canon [4]]|100004=>[.canon [0,1,5]]|_=>[],λN=>Sig.of [.v Jaj false,.v Jaj false] [.v Jp false] (λd=>Zjg N d.1 d.2.1),CX [Zafy]⟩
def Z2n(a3:List Y_Root)(b4:List Y_Root)(i5:Int):St:=⟨[(0,vV Jaj a3),(1,vV Jaj b4),(5,vI i5)],[],0⟩
def Zy0(a3:List Y_Root)(b4:List Y_Root):St:=⟨[(4,vB false)],[],0⟩
def Zy1(a3:List Y_Root)(b4:List Y_Root)(i7:Int)(t8:Bool):St:=⟨[(0,vV Jaj a3),(1,vV Jaj b4),(5,vI i7),(14,vB t8)],[],0⟩
theorem Z2o(N:Nat){R:Type}(K:Ex->St->Option R){a3:List Y_Root}{b4:List Y_Root}{K0:Option R}{K1:Int->Bool->Option R}(h0:K0=K .ret (Zy0 a3 b4))(h1:K1= λi7 t8=>K (.exit 0) (Zy1 a3 b4 i7 t8))(n:Nat)(i5:Int):Zdj N a3 b4 K0 K1 n i5=LM Zni N 0 100004 n (Z2n a3 b4 i5) K:=by
  subst h0 h1
  induction n generalizing i5 with
  |zero=>kernel_rfl
  |succ n ih=>rw[Zdj];simp only[ih];kernel_rfl
theorem Zade(N:Nat)(a1:List Y_Root)(b2:List Y_Root):DN Zni N (a1,b2,())=Zjg N a1 b2:=by
  conv=>rhs;rw[Zjg];simp(disch:=exact id (by kernel_rfl)) only[Z2o (R:=Unit×Ko) N (CF Zni N [1,1,0,1,0])]
  kernel_rfl
def Zadf:Gd:=GF Zni Tryz.func32 (λN d=>Zade N d.1 d.2.1)
def Zadg:Fn:=⟨Tryz.f79,Wv,λN=>Sig.of [.v Jy true,.v Jy true] [.v Jp false] (λd=>Zo6 N d.1 d.2.1),CX [Zk5]⟩
def Zadh:Gd:=GF Zadg Tryz.func79
def Zlx:Fn:=⟨Tryz.f33,λ |4=>[.canon [0,1,5,14]]|5=>[.canon [0,1,5]]|6=>[.canon [0,1,5,26]]|7=>[.canon [4]]|100004=>[.canon [0,1,5]]|_=>[],λN=>Sig.of [.v Jan false,.v Jan false] [.v Jp false] (λd=>Zh8 N d.1 d.2.1),CX [Zadh]⟩
def Zy2(a3:List Kn)(b4:List Kn)(i5:Int):St:=⟨[(0,vV Jan a3),(1,vV Jan b4),(5,vI i5)],[],0⟩
def Zvt(a3:List Kn)(b4:List Kn):St:=⟨[(4,vB false)],[],0⟩
def Zvu(a3:List Kn)(b4:List Kn)(i7:Int)(t8:Bool):St:=⟨[(0,vV Jan a3),(1,vV Jan b4),(5,vI i7),(14,vB t8)],[],0⟩
theorem Zy3(N:Nat){R:Type}(K:Ex->St->Option R){a3:List Kn}{b4:List Kn}{K0:Option R}{K1:Int->Bool->Option R}(h0:K0=K .ret (Zvt a3 b4))(h1:K1= λi7 t8=>K (.exit 0) (Zvu a3 b4 i7 t8))(n:Nat)(i5:Int):Zcw N a3 b4 K0 K1 n i5=LM Zlx N 0 100004 n (Zy2 a3 b4 i5) K:=by
  subst h0 h1
  induction n generalizing i5 with
  |zero=>kernel_rfl
  |succ n ih=>rw[Zcw];simp only[ih];kernel_rfl
theorem Z97(N:Nat)(a1:List Kn)(b2:List Kn):DN Zlx N (a1,b2,())=Zh8 N a1 b2:=by
  conv=>rhs;rw[Zh8];simp(disch:=exact id (by kernel_rfl)) only[Zy3 (R:=Unit×Ko) N (CF Zlx N [1,1,0,1,0])]
  kernel_rfl
def Z98:Gd:=GF Zlx Tryz.func33 (λN d=>Z97 N d.1 d.2.1)
def Zadi:Fn:=⟨Tryz.f9,Wv,λN=>Sig.of [.v (TY_World) true,.v (TY_World) true] [.v Jp false] (λd=>Zjh N d.1 d.2.1),CX [Zag2,Zac4,Zac6,Zadf,Z98]⟩
def Zadj:Gd:=GF Zadi Tryz.func9
def Z99:Fn:=⟨Tryz.f34,Wv,λN=>Sig.of [.v Jar true,.v Jar true] [.v Jp false] (λd=>Zn0 N d.1 d.2.1),CX [Zem]⟩
def Zaaa:Gd:=GF Z99 Tryz.func34
def Zahw:Fn:=⟨Tryz.f229,Wv,λN=>Sig.of [.v Jq true,.v Jq true] [.v Jp false] (λd=>Zrp N d.1 d.2.1),WR⟩
def Zahx:Gd:=GN Zahw Tryz.func229
def Zpg:Fn:=⟨Tryz.f157,λ |4=>[.canon [0,1,5,14]]|5=>[.canon [0,1,5]]|6=>[.canon [0,1,5,26]]|7=>[.canon [4]]|100004=>[.canon [0,1,5]]|_=>[],λN=>Sig.of [.v Jg false,.v Jg false] [.v Jp false] (λd=>Zjp N d.1 d.2.1),CX [Zahx]⟩
def Z7q(a3:List Ka)(b4:List Ka)(i5:Int):St:=⟨[(0,vV Jg a3),(1,vV Jg b4),(5,vI i5)],[],0⟩
def Z5h(a3:List Ka)(b4:List Ka):St:=⟨[(4,vB false)],[],0⟩
def Z5i(a3:List Ka)(b4:List Ka)(i7:Int)(t8:Bool):St:=⟨[(0,vV Jg a3),(1,vV Jg b4),(5,vI i7),(14,vB t8)],[],0⟩
theorem Z7r(N:Nat){R:Type}(K:Ex->St->Option R){a3:List Ka}{b4:List Ka}{K0:Option R}{K1:Int->Bool->Option R}(h0:K0=K .ret (Z5h a3 b4))(h1:K1= λi7 t8=>K (.exit 0) (Z5i a3 b4 i7 t8))(n:Nat)(i5:Int):Zfh N a3 b4 K0 K1 n i5=LM Zpg N 0 100004 n (Z7q a3 b4 i5) K:=by
  subst h0 h1
  induction n generalizing i5 with
  |zero=>kernel_rfl
  |succ n ih=>rw[Zfh];simp only[ih];kernel_rfl
theorem Zag5(N:Nat)(a1:List Ka)(b2:List Ka):DN Zpg N (a1,b2,())=Zjp N a1 b2:=by
  conv=>rhs;rw[Zjp];simp(disch:=exact id (by kernel_rfl)) only[Z7r (R:=Unit×Ko) N (CF Zpg N [1,1,0,1,0])]
  kernel_rfl
def Zy4:Gd:=GF Zpg Tryz.func157 (λN d=>Zag5 N d.1 d.2.1)
def Zag6:Fn:=⟨Tryz.f230,Wv,λN=>Sig.of [.v Jg true,.v Jg true] [.v Jp false] (λd=>Zqw N d.1 d.2.1),CX [Zy4]⟩
def Zag7:Gd:=GF Zag6 Tryz.func230
def Zop:Fn:=⟨Tryz.f158,λ |4=>[.canon [0,1,5,14]]|5=>[.canon [0,1,5]]|6=>[.canon [0,1,5,26]]|7=>[.canon [4]]|100004=>[.canon [0,1,5]]|_=>[],λN=>Sig.of [.v Jac false,.v Jac false] [.v Jp false] (λd=>Zkg N d.1 d.2.1),CX [Zag7]⟩
def Z5j(a3:List Kz)(b4:List Kz)(i5:Int):St:=⟨[(0,vV Jac a3),(1,vV Jac b4),(5,vI i5)],[],0⟩
def Z2p(a3:List Kz)(b4:List Kz):St:=⟨[(4,vB false)],[],0⟩
def Z2q(a3:List Kz)(b4:List Kz)(i7:Int)(t8:Bool):St:=⟨[(0,vV Jac a3),(1,vV Jac b4),(5,vI i7),(14,vB t8)],[],0⟩
theorem Z5k(N:Nat){R:Type}(K:Ex->St->Option R){a3:List Kz}{b4:List Kz}{K0:Option R}{K1:Int->Bool->Option R}(h0:K0=K .ret (Z2p a3 b4))(h1:K1= λi7 t8=>K (.exit 0) (Z2q a3 b4 i7 t8))(n:Nat)(i5:Int):Zeb N a3 b4 K0 K1 n i5=LM Zop N 0 100004 n (Z5j a3 b4 i5) K:=by
  subst h0 h1
  induction n generalizing i5 with
  |zero=>kernel_rfl
  |succ n ih=>rw[Zeb];simp only[ih];kernel_rfl
theorem Zafz(N:Nat)(a1:List Kz)(b2:List Kz):DN Zop N (a1,b2,())=Zkg N a1 b2:=by
  conv=>rhs;rw[Zkg];simp(disch:=exact id (by kernel_rfl)) only[Z5k (R:=Unit×Ko) N (CF Zop N [1,1,0,1,0])]
  kernel_rfl
def Zaf0:Gd:=GF Zop Tryz.func158 (λN d=>Zafz N d.1 d.2.1)
def Zaf1:Fn:=⟨Tryz.f80,Wv,λN=>Sig.of [.v Jai true,.v Jai true] [.v Jp false] (λd=>Zp2 N d.1 d.2.1),CX [Zy4,Zaf0]⟩
def Zaf2:Gd:=GF Zaf1 Tryz.func80
def Znj:Fn:=⟨Tryz.f35,λ |4=>[.canon [0,1,5,14]]|5=>[.canon [0,1,5]]|6=>[.canon [0,1,5,26]]|7=>[.canon [4]]|100004=>[.canon [0,1,5]]|_=>[],λN=>Sig.of [.v Jo false,.v Jo false] [.v Jp false] (λd=>Zjc N d.1 d.2.1),CX [Zaf2]⟩
def Z2r(a3:List Km)(b4:List Km)(i5:Int):St:=⟨[(0,vV Jo a3),(1,vV Jo b4),(5,vI i5)],[],0⟩
def Zy5(a3:List Km)(b4:List Km):St:=⟨[(4,vB false)],[],0⟩
def Zy6(a3:List Km)(b4:List Km)(i7:Int)(t8:Bool):St:=⟨[(0,vV Jo a3),(1,vV Jo b4),(5,vI i7),(14,vB t8)],[],0⟩
theorem Z2s(N:Nat){R:Type}(K:Ex->St->Option R){a3:List Km}{b4:List Km}{K0:Option R}{K1:Int->Bool->Option R}(h0:K0=K .ret (Zy5 a3 b4))(h1:K1= λi7 t8=>K (.exit 0) (Zy6 a3 b4 i7 t8))(n:Nat)(i5:Int):Zdf N a3 b4 K0 K1 n i5=LM Znj N 0 100004 n (Z2r a3 b4 i5) K:=by
  subst h0 h1
  induction n generalizing i5 with
  |zero=>kernel_rfl
  |succ n ih=>rw[Zdf];simp only[ih];kernel_rfl
theorem Zadk(N:Nat)(a1:List Km)(b2:List Km):DN Znj N (a1,b2,())=Zjc N a1 b2:=by
  conv=>rhs;rw[Zjc];simp(disch:=exact id (by kernel_rfl)) only[Z2s (R:=Unit×Ko) N (CF Znj N [1,1,0,1,0])]
  kernel_rfl
def Zadl:Gd:=GF Znj Tryz.func35 (λN d=>Zadk N d.1 d.2.1)
def Zag8:Fn:=⟨Tryz.f81,Wv,λN=>Sig.of [.v Jb true,.v Jb true] [.v Jp false] (λd=>Zqz N d.1 d.2.1),WR⟩
def Zag9:Gd:=GN Zag8 Tryz.func81
def Zoq:Fn:=⟨Tryz.f36,λ |4=>[.canon [0,1,5,14]]|5=>[.canon [0,1,5]]|6=>[.canon [0,1,5,26]]|7=>[.canon [4]]|100004=>[.canon [0,1,5]]|_=>[],λN=>Sig.of [.v Jm false,.v Jm false] [.v Jp false] (λd=>Zkn N d.1 d.2.1),CX [Zag9]⟩
def Z5l(a3:List Kb)(b4:List Kb)(i5:Int):St:=⟨[(0,vV Jm a3),(1,vV Jm b4),(5,vI i5)],[],0⟩
def Z2t(a3:List Kb)(b4:List Kb):St:=⟨[(4,vB false)],[],0⟩
def Z2u(a3:List Kb)(b4:List Kb)(i7:Int)(t8:Bool):St:=⟨[(0,vV Jm a3),(1,vV Jm b4),(5,vI i7),(14,vB t8)],[],0⟩
theorem Z5m(N:Nat){R:Type}(K:Ex->St->Option R){a3:List Kb}{b4:List Kb}{K0:Option R}{K1:Int->Bool->Option R}(h0:K0=K .ret (Z2t a3 b4))(h1:K1= λi7 t8=>K (.exit 0) (Z2u a3 b4 i7 t8))(n:Nat)(i5:Int):Zeg N a3 b4 K0 K1 n i5=LM Zoq N 0 100004 n (Z5l a3 b4 i5) K:=by
  subst h0 h1
  induction n generalizing i5 with
  |zero=>kernel_rfl
  |succ n ih=>rw[Zeg];simp only[ih];kernel_rfl
theorem Zaf3(N:Nat)(a1:List Kb)(b2:List Kb):DN Zoq N (a1,b2,())=Zkn N a1 b2:=by
  conv=>rhs;rw[Zkn];simp(disch:=exact id (by kernel_rfl)) only[Z5m (R:=Unit×Ko) N (CF Zoq N [1,1,0,1,0])]
  kernel_rfl
def Zaf4:Gd:=GF Zoq Tryz.func36 (λN d=>Zaf3 N d.1 d.2.1)
def Zaab:Fn:=⟨Tryz.f10,Wv,λN=>Sig.of [.v Jx true,.v Jx true] [.v Jp false] (λd=>Zn1 N d.1 d.2.1),CX [Zaaa,Zadl,Zaf4]⟩
def Zaac:Gd:=GF Zaab Tryz.func10
def Zly:Fn:=⟨Tryz.f82,λ |2=>[.canon [0,1,5,9]]|3=>[.canon [0,1,5]]|4=>[.canon [0,1,5]]|5=>[.canon [0,1,5]]|100002=>[.canon [0,1,5]]|_=>[],λN=>Sig.of [.mut Ja,.v Ja false] [.v Ja false] (λd=>Z5 N d.1 d.2.1),WR⟩
def Zy7(k3:Int)(i4:Int)(l5:List Int):St:=⟨[(0,vO 0),(1,vI k3),(5,vI i4)],[(0,.arr Ja l5)],1⟩
def Zvv(k6:Int)(i7:Int)(t8:Bool)(l9:List Int):St:=⟨[(0,vO 0),(1,vI k6),(5,vI i7),(9,vB t8)],[(0,.arr Ja l9)],1⟩
theorem Zy8(N:Nat){R:Type}(K:Ex->St->Option R){K0:Int->Int->Bool->Kj->Option R}(h0:K0= λk6 i7 t8 l9=>K (.exit 0) (Zvv k6 i7 t8 l9))(n:Nat)(k3:Int)(i4:Int)(l5:List Int):Zcq N K0 n k3 i4 l5=LM Zly N 0 100002 n (Zy7 k3 i4 l5) K:=by
  subst h0
  induction n generalizing k3 i4 l5 with
  |zero=>kernel_rfl
  |succ n ih=>rw[Zcq];simp only[ih];kernel_rfl
theorem Zaad(N:Nat)(a1:List Int)(k2:Int):DN Zly N (a1,k2,())=Z5 N a1 k2:=by
  conv=>rhs;rw[Z5];simp(disch:=exact id (by kernel_rfl)) only[Zy8 (R:=Kac×Kh) N (CF Zly N [1,0,1,0])]
  kernel_rfl
def Zgy:Gd:=GN Zly Tryz.func82 (λN d=>Zaad N d.1 d.2.1)
def Z5n:Fn:=⟨Tryz.f37,Wv,λN=>Sig.of [.kv (.prod Jae Jap) true,.v Ja false] [.v Ja false] (λd=>Zpk N d.1 d.2.1),CX [Zgy]⟩
def Z5o:Gd:=GF Z5n Tryz.func37
def Znk:Fn:=⟨Tryz.f83,λ |2=>[.canon [0,1,5,9]]|3=>[.canon [0,1,5]]|4=>[.canon [0,1,5]]|5=>[.canon [0,1,5]]|6=>[.canon [0,1,5]]|7=>[.canon [0,1,5]]|8=>[.canon [0,1,5]]|9=>[.canon [0,1,5]]|10=>[.canon [0,1,5]]|11=>[.canon [0,1,5]]|100002=>[.canon [0,1,5]]|_=>[],λN=>Sig.of [.mut Jq,.v Ja false] [.v Ja false] (λd=>Zg9 N d.1 d.2.1),WR⟩
def Z2v(k3:Int)(i4:Int)(l5:List Ka):St:=⟨[(0,vO 0),(1,vI k3),(5,vI i4)],[(0,.arr Jq l5)],1⟩
def Zy9(k9:Int)(aT:Int)(aq:Bool)(bC:List Ka):St:=⟨[(0,vO 0),(1,vI k9),(5,vI aT),(9,vB aq)],[(0,.arr Jq bC)],1⟩
theorem Z2w(N:Nat){R:Type}(K:Ex->St->Option R){K0:Int->Int->Bool->Kz->Option R}(h0:K0= λk9 aT aq bC=>K (.exit 0) (Zy9 k9 aT aq bC))(n:Nat)(k3:Int)(i4:Int)(l5:List Ka):Zc3 N K0 n k3 i4 l5=LM Znk N 0 100002 n (Z2v k3 i4 l5) K:=by
  subst h0
  induction n generalizing k3 i4 l5 with
  |zero=>kernel_rfl
  |succ n ih=>rw[Zc3];simp only[ih];kernel_rfl
theorem Zadm(N:Nat)(a1:List Ka)(k2:Int):DN Znk N (a1,k2,())=Zg9 N a1 k2:=by
  conv=>rhs;rw[Zg9];simp(disch:=exact id (by kernel_rfl)) only[Z2w (R:=(Kz×Unit)×Kh) N (CF Znk N [1,0,1,0])]
  kernel_rfl
def Zs2:Gd:=GN Znk Tryz.func83 (λN d=>Zadm N d.1 d.2.1)
def Zlz:Fn:=⟨Tryz.f84,λ |2=>[.canon [0,1,5,9]]|3=>[.canon [0,1,5]]|4=>[.opn 14,.refold 14,.canon [0,1,5]]|100002=>[.canon [0,1,5]]|_=>[],λN=>Sig.of [.mut (.own Jq),.v Ja false] [.v Ja false] (λd=>Zh3 N d.1 d.2.1),CX [Zs2]⟩
def Zza(k3:Int)(i4:Int)(l5:List Kz):St:=⟨[(0,vO 0),(1,vI k3),(5,vI i4)],[(0,.arr (.own Jq) l5)],1⟩
def Zvw(k7:Int)(i8:Int)(t9:Bool)(cd:List Kz):St:=⟨[(0,vO 0),(1,vI k7),(5,vI i8),(9,vB t9)],[(0,.arr (.own Jq) cd)],1⟩
theorem Zzb(N:Nat){R:Type}(K:Ex->St->Option R){K0:Int->Int->Bool->Kw->Option R}(h0:K0= λk7 i8 t9 cd=>K (.exit 0) (Zvw k7 i8 t9 cd))(n:Nat)(k3:Int)(i4:Int)(l5:List Kz):Zcs N K0 n k3 i4 l5=LM Zlz N 0 100002 n (Zza k3 i4 l5) K:=by
  subst h0
  induction n generalizing k3 i4 l5 with
  |zero=>kernel_rfl
  |succ n ih=>rw[Zcs];simp only[ih];kernel_rfl
theorem Zaae(N:Nat)(a1:List Kz)(k2:Int):DN Zlz N (a1,k2,())=Zh3 N a1 k2:=by
  conv=>rhs;rw[Zh3];simp(disch:=exact id (by kernel_rfl)) only[Zzb (R:=(Kw×Unit)×Kh) N (CF Zlz N [1,0,1,0])]
  kernel_rfl
def Zaaf:Gd:=GF Zlz Tryz.func84 (λN d=>Zaae N d.1 d.2.1)
def Zk7:Fn:=⟨Tryz.f38,λ |2=>[.canon [0,1,5,9]]|3=>[.canon [0,1,5]]|4=>[.opn 14,.canon [0,1,5]]|5=>[.refold 21,.canon [0,1,5]]|100002=>[.canon [0,1,5]]|_=>[],λN=>Sig.of [.mut Jab,.v Ja false] [.v Ja false] (λd=>Zhg N d.1 d.2.1),CX [Zs2,Zaaf]⟩
def Zvx(k3:Int)(i4:Int)(l5:List Km):St:=⟨[(0,vO 0),(1,vI k3),(5,vI i4)],[(0,.arr Jab l5)],1⟩
def Ztx(k8:Int)(i9:Int)(ar:Bool)(aA:List Km):St:=⟨[(0,vO 0),(1,vI k8),(5,vI i9),(9,vB ar)],[(0,.arr Jab aA)],1⟩
theorem Zvy(N:Nat){R:Type}(K:Ex->St->Option R){K0:Int->Int->Bool->Kah->Option R}(h0:K0= λk8 i9 ar aA=>K (.exit 0) (Ztx k8 i9 ar aA))(n:Nat)(k3:Int)(i4:Int)(l5:List Km):Zb6 N K0 n k3 i4 l5=LM Zk7 N 0 100002 n (Zvx k3 i4 l5) K:=by
  subst h0
  induction n generalizing k3 i4 l5 with
  |zero=>kernel_rfl
  |succ n ih=>rw[Zb6];simp only[ih];kernel_rfl
theorem Z7s(N:Nat)(a1:List Km)(k2:Int):DN Zk7 N (a1,k2,())=Zhg N a1 k2:=by
  conv=>rhs;rw[Zhg];simp(disch:=exact id (by kernel_rfl)) only[Zvy (R:=(Kah×Unit)×Kh) N (CF Zk7 N [1,0,1,0])]
  kernel_rfl
def Z7t:Gd:=GF Zk7 Tryz.func38 (λN d=>Z7s N d.1 d.2.1)
def Zl0:Fn:=⟨Tryz.f39,λ |2=>[.canon [0,1,5,9]]|3=>[.canon [0,1,5]]|4=>[.canon [0,1,5]]|5=>[.canon [0,1,5]]|6=>[.canon [0,1,5]]|7=>[.canon [0,1,5]]|8=>[.canon [0,1,5]]|9=>[.canon [0,1,5]]|100002=>[.canon [0,1,5]]|_=>[],λN=>Sig.of [.mut Jb,.v Ja false] [.v Ja false] (λd=>Zh7 N d.1 d.2.1),WR⟩
def Zzc(k3:Int)(i4:Int)(l5:List Kb):St:=⟨[(0,vO 0),(1,vI k3),(5,vI i4)],[(0,.arr Jb l5)],1⟩
def Zvz(k8:Int)(i9:Int)(ar:Bool)(aA:List Kb):St:=⟨[(0,vO 0),(1,vI k8),(5,vI i9),(9,vB ar)],[(0,.arr Jb aA)],1⟩
theorem Zzd(N:Nat){R:Type}(K:Ex->St->Option R){K0:Int->Int->Bool->Kr->Option R}(h0:K0= λk8 i9 ar aA=>K (.exit 0) (Zvz k8 i9 ar aA))(n:Nat)(k3:Int)(i4:Int)(l5:List Kb):Zcv N K0 n k3 i4 l5=LM Zl0 N 0 100002 n (Zzc k3 i4 l5) K:=by
  subst h0
  induction n generalizing k3 i4 l5 with
  |zero=>kernel_rfl
  |succ n ih=>rw[Zcv];simp only[ih];kernel_rfl
theorem Zaag(N:Nat)(a1:List Kb)(k2:Int):DN Zl0 N (a1,k2,())=Zh7 N a1 k2:=by
  conv=>rhs;rw[Zh7];simp(disch:=exact id (by kernel_rfl)) only[Zzd (R:=Kaa×Kh) N (CF Zl0 N [1,0,1,0])]
  kernel_rfl
def Zaah:Gd:=GN Zl0 Tryz.func39 (λN d=>Zaag N d.1 d.2.1)
def Z5p:Fn:=⟨Tryz.f11,Wv,λN=>Sig.of [.kv (.prod (.prod Jae Jap) (.prod (.own Jab) Jak)) true,.v Ja false] [.v Ja false] (λd=>Zlq N d.1 d.2.1),CX [Z5o,Z7t,Zaah]⟩
def Z5q:Gd:=GF Z5p Tryz.func11
def Zk8:Fn:=⟨Tryz.f85,λ |2=>[.canon [0,1,5,9]]|3=>[.canon [0,1,5]]|4=>[.canon [0,1,5]]|5=>[.canon [0,1,5]]|6=>[.canon [0,1,5]]|7=>[.canon [0,1,5]]|8=>[.canon [0,1,5]]|9=>[.canon [0,1,5]]|100002=>[.canon [0,1,5]]|_=>[],λN=>Sig.of [.mut Jb,.v Ja false] [.v Ja false] (λd=>Zha N d.1 d.2.1),WR⟩
def Zv0(k3:Int)(i4:Int)(l5:List Kb):St:=⟨[(0,vO 0),(1,vI k3),(5,vI i4)],[(0,.arr Jb l5)],1⟩
def Zty(k8:Int)(i9:Int)(ar:Bool)(aA:List Kb):St:=⟨[(0,vO 0),(1,vI k8),(5,vI i9),(9,vB ar)],[(0,.arr Jb aA)],1⟩
theorem Zv1(N:Nat){R:Type}(K:Ex->St->Option R){K0:Int->Int->Bool->Kr->Option R}(h0:K0= λk8 i9 ar aA=>K (.exit 0) (Zty k8 i9 ar aA))(n:Nat)(k3:Int)(i4:Int)(l5:List Kb):Zb4 N K0 n k3 i4 l5=LM Zk8 N 0 100002 n (Zv0 k3 i4 l5) K:=by
  subst h0
  induction n generalizing k3 i4 l5 with
  |zero=>kernel_rfl
  |succ n ih=>rw[Zb4];simp only[ih];kernel_rfl
theorem Z7u(N:Nat)(a1:List Kb)(k2:Int):DN Zk8 N (a1,k2,())=Zha N a1 k2:=by
  conv=>rhs;rw[Zha];simp(disch:=exact id (by kernel_rfl)) only[Zv1 (R:=Kaa×Kh) N (CF Zk8 N [1,0,1,0])]
  kernel_rfl
def Z7v:Gd:=GN Zk8 Tryz.func85 (λN d=>Z7u N d.1 d.2.1)
def Zadn:Fn:=⟨Tryz.f40,Wv,λN=>Sig.of [.kv Jz true,.v Ja false] [.v Ja false] (λd=>Zrf N d.1 d.2.1),CX [Z7v]⟩
def Zado:Gd:=GF Zadn Tryz.func40
def Z7w:Fn:=⟨Tryz.f41,Wv,λN=>Sig.of [.kv Jap true,.v Ja false] [.v Ja false] (λd=>Zqg N d.1 d.2.1),CX [Zgy]⟩
def Z7x:Gd:=GF Z7w Tryz.func41
def Zk9:Fn:=⟨Tryz.f42,λ |2=>[.canon [0,1,5,9]]|3=>[.canon [0,1,5]]|4=>[.canon [0,1,5]]|5=>[.canon [0,1,5]]|6=>[.canon [0,1,5]]|7=>[.canon [0,1,5]]|8=>[.canon [0,1,5]]|9=>[.canon [0,1,5]]|100002=>[.canon [0,1,5]]|_=>[],λN=>Sig.of [.mut Jb,.v Ja false] [.v Ja false] (λd=>Zhh N d.1 d.2.1),WR⟩
def Zv2(k3:Int)(i4:Int)(l5:List Kb):St:=⟨[(0,vO 0),(1,vI k3),(5,vI i4)],[(0,.arr Jb l5)],1⟩
def Ztz(k8:Int)(i9:Int)(ar:Bool)(aA:List Kb):St:=⟨[(0,vO 0),(1,vI k8),(5,vI i9),(9,vB ar)],[(0,.arr Jb aA)],1⟩
theorem Zv3(N:Nat){R:Type}(K:Ex->St->Option R){K0:Int->Int->Bool->Kr->Option R}(h0:K0= λk8 i9 ar aA=>K (.exit 0) (Ztz k8 i9 ar aA))(n:Nat)(k3:Int)(i4:Int)(l5:List Kb):Zb7 N K0 n k3 i4 l5=LM Zk9 N 0 100002 n (Zv2 k3 i4 l5) K:=by
  subst h0
  induction n generalizing k3 i4 l5 with
  |zero=>kernel_rfl
  |succ n ih=>rw[Zb7];simp only[ih];kernel_rfl
theorem Z7y(N:Nat)(a1:List Kb)(k2:Int):DN Zk9 N (a1,k2,())=Zhh N a1 k2:=by
  conv=>rhs;rw[Zhh];simp(disch:=exact id (by kernel_rfl)) only[Zv3 (R:=Kaa×Kh) N (CF Zk9 N [1,0,1,0])]
  kernel_rfl
def Z7z:Gd:=GN Zk9 Tryz.func42 (λN d=>Z7y N d.1 d.2.1)
def Zl1:Fn:=⟨Tryz.f86,λ |2=>[.canon [0,1,5,9]]|3=>[.canon [0,1,5]]|4=>[.canon [0,1,5]]|5=>[.canon [0,1,5]]|6=>[.canon [0,1,5]]|7=>[.canon [0,1,5]]|100002=>[.canon [0,1,5]]|_=>[],λN=>Sig.of [.mut Jt,.v Ja false] [.v Ja false] (λd=>Zao N d.1 d.2.1),WR⟩
def Zze(k3:Int)(i4:Int)(l5:List Kc):St:=⟨[(0,vO 0),(1,vI k3),(5,vI i4)],[(0,.arr Jt l5)],1⟩
def Zv4(k7:Int)(i8:Int)(t9:Bool)(cd:List Kc):St:=⟨[(0,vO 0),(1,vI k7),(5,vI i8),(9,vB t9)],[(0,.arr Jt cd)],1⟩
theorem Zzf(N:Nat){R:Type}(K:Ex->St->Option R){K0:Int->Int->Bool->Kv->Option R}(h0:K0= λk7 i8 t9 cd=>K (.exit 0) (Zv4 k7 i8 t9 cd))(n:Nat)(k3:Int)(i4:Int)(l5:List Kc):Zcr N K0 n k3 i4 l5=LM Zl1 N 0 100002 n (Zze k3 i4 l5) K:=by
  subst h0
  induction n generalizing k3 i4 l5 with
  |zero=>kernel_rfl
  |succ n ih=>rw[Zcr];simp only[ih];kernel_rfl
theorem Zaai(N:Nat)(a1:List Kc)(k2:Int):DN Zl1 N (a1,k2,())=Zao N a1 k2:=by
  conv=>rhs;rw[Zao];simp(disch:=exact id (by kernel_rfl)) only[Zzf (R:=Kad×Kh) N (CF Zl1 N [1,0,1,0])]
  kernel_rfl
def Zpl:Gd:=GN Zl1 Tryz.func86 (λN d=>Zaai N d.1 d.2.1)
def Zla:Fn:=⟨Tryz.f87,λ |2=>[.canon [0,1,5,9]]|3=>[.canon [0,1,5]]|4=>[.opn 15,.canon [0,1,5]]|5=>[.canon [0,1,5]]|6=>[.canon [0,1,5]]|7=>[.canon [0,1,5]]|8=>[.canon [0,1,5]]|9=>[.canon [0,1,5]]|10=>[.canon [0,1,5]]|11=>[.canon [0,1,5]]|12=>[.refold 42,.canon [0,1,5]]|100002=>[.canon [0,1,5]]|_=>[],λN=>Sig.of [.mut Jao,.v Ja false] [.v Ja false] (λd=>Zhi N d.1 d.2.1),CX [Zgy]⟩
def Zv5(k3:Int)(i4:Int)(l5:List Kf):St:=⟨[(0,vO 0),(1,vI k3),(5,vI i4)],[(0,.arr Jao l5)],1⟩
def Zt0(k7:Int)(i8:Int)(t9:Bool)(cd:List Kf):St:=⟨[(0,vO 0),(1,vI k7),(5,vI i8),(9,vB t9)],[(0,.arr Jao cd)],1⟩
theorem Zv6(N:Nat){R:Type}(K:Ex->St->Option R){K0:Int->Int->Bool->(List Kf)->Option R}(h0:K0= λk7 i8 t9 cd=>K (.exit 0) (Zt0 k7 i8 t9 cd))(n:Nat)(k3:Int)(i4:Int)(l5:List Kf):Zb8 N K0 n k3 i4 l5=LM Zla N 0 100002 n (Zv5 k3 i4 l5) K:=by
  subst h0
  induction n generalizing k3 i4 l5 with
  |zero=>kernel_rfl
  |succ n ih=>rw[Zb8];simp only[ih];kernel_rfl
theorem Z70(N:Nat)(a1:List Kf)(k2:Int):DN Zla N (a1,k2,())=Zhi N a1 k2:=by
  conv=>rhs;rw[Zhi];simp(disch:=exact id (by kernel_rfl)) only[Zv6 (R:=((List Kf)×Unit)×Kh) N (CF Zla N [1,0,1,0])]
  kernel_rfl
def Z71:Gd:=GF Zla Tryz.func87 (λN d=>Z70 N d.1 d.2.1)
def Zlb:Fn:=⟨Tryz.f88,λ |2=>[.canon [0,1,5,9]]|3=>[.canon [0,1,5]]|4=>[.canon [0,1,5]]|5=>[.canon [0,1,5]]|6=>[.canon [0,1,5]]|7=>[.canon [0,1,5]]|8=>[.canon [0,1,5]]|9=>[.canon [0,1,5]]|100002=>[.canon [0,1,5]]|_=>[],λN=>Sig.of [.mut Jb,.v Ja false] [.v Ja false] (λd=>Zhj N d.1 d.2.1),WR⟩
def Zv7(k3:Int)(i4:Int)(l5:List Kb):St:=⟨[(0,vO 0),(1,vI k3),(5,vI i4)],[(0,.arr Jb l5)],1⟩
def Zt1(k8:Int)(i9:Int)(ar:Bool)(aA:List Kb):St:=⟨[(0,vO 0),(1,vI k8),(5,vI i9),(9,vB ar)],[(0,.arr Jb aA)],1⟩
theorem Zv8(N:Nat){R:Type}(K:Ex->St->Option R){K0:Int->Int->Bool->Kr->Option R}(h0:K0= λk8 i9 ar aA=>K (.exit 0) (Zt1 k8 i9 ar aA))(n:Nat)(k3:Int)(i4:Int)(l5:List Kb):Zb9 N K0 n k3 i4 l5=LM Zlb N 0 100002 n (Zv7 k3 i4 l5) K:=by
  subst h0
  induction n generalizing k3 i4 l5 with
  |zero=>kernel_rfl
  |succ n ih=>rw[Zb9];simp only[ih];kernel_rfl
theorem Z72(N:Nat)(a1:List Kb)(k2:Int):DN Zlb N (a1,k2,())=Zhj N a1 k2:=by
  conv=>rhs;rw[Zhj];simp(disch:=exact id (by kernel_rfl)) only[Zv8 (R:=Kaa×Kh) N (CF Zlb N [1,0,1,0])]
  kernel_rfl
def Z73:Gd:=GN Zlb Tryz.func88 (λN d=>Z72 N d.1 d.2.1)
def Zj6:Fn:=⟨Tryz.f89,λ |2=>[.canon [0,1,5,9]]|3=>[.canon [0,1,5]]|4=>[.canon [0,1,5]]|5=>[.canon [0,1,5]]|6=>[.canon [0,1,5]]|7=>[.canon [0,1,5]]|8=>[.canon [0,1,5]]|9=>[.canon [0,1,5]]|100002=>[.canon [0,1,5]]|_=>[],λN=>Sig.of [.mut Jb,.v Ja false] [.v Ja false] (λd=>Zec N d.1 d.2.1),WR⟩
def Zt2(k3:Int)(i4:Int)(l5:List Kb):St:=⟨[(0,vO 0),(1,vI k3),(5,vI i4)],[(0,.arr Jb l5)],1⟩
def Zs3(k8:Int)(i9:Int)(ar:Bool)(aA:List Kb):St:=⟨[(0,vO 0),(1,vI k8),(5,vI i9),(9,vB ar)],[(0,.arr Jb aA)],1⟩
theorem Zt3(N:Nat){R:Type}(K:Ex->St->Option R){K0:Int->Int->Bool->Kr->Option R}(h0:K0= λk8 i9 ar aA=>K (.exit 0) (Zs3 k8 i9 ar aA))(n:Nat)(k3:Int)(i4:Int)(l5:List Kb):Zbr N K0 n k3 i4 l5=LM Zj6 N 0 100002 n (Zt2 k3 i4 l5) K:=by
  subst h0
  induction n generalizing k3 i4 l5 with
  |zero=>kernel_rfl
  |succ n ih=>rw[Zbr];simp only[ih];kernel_rfl
theorem Z5r(N:Nat)(a1:List Kb)(k2:Int):DN Zj6 N (a1,k2,())=Zec N a1 k2:=by
  conv=>rhs;rw[Zec];simp(disch:=exact id (by kernel_rfl)) only[Zt3 (R:=Kaa×Kh) N (CF Zj6 N [1,0,1,0])]
  kernel_rfl
def Zrd:Gd:=GN Zj6 Tryz.func89 (λN d=>Z5r N d.1 d.2.1)
def Zib:Fn:=⟨Tryz.f159,λ |2=>[.canon [0,1,5,9]]|3=>[.canon [0,1,5]]|4=>[.opn 15,.canon [0,1,5]]|5=>[.canon [0,1,5]]|6=>[.canon [0,1,5]]|7=>[.canon [0,1,5]]|8=>[.refold 28,.canon [0,1,5]]|100002=>[.canon [0,1,5]]|_=>[],λN=>Sig.of [.mut Je,.v Ja false] [.v Ja false] (λd=>Zeq N d.1 d.2.1),CX [Zgy]⟩
def Zsh(k3:Int)(i4:Int)(l5:List Kg):St:=⟨[(0,vO 0),(1,vI k3),(5,vI i4)],[(0,.arr Je l5)],1⟩
def Zr1(k7:Int)(i8:Int)(t9:Bool)(cd:List Kg):St:=⟨[(0,vO 0),(1,vI k7),(5,vI i8),(9,vB t9)],[(0,.arr Je cd)],1⟩
theorem Zsi(N:Nat){R:Type}(K:Ex->St->Option R){K0:Int->Int->Bool->(List Kg)->Option R}(h0:K0= λk7 i8 t9 cd=>K (.exit 0) (Zr1 k7 i8 t9 cd))(n:Nat)(k3:Int)(i4:Int)(l5:List Kg):Zay N K0 n k3 i4 l5=LM Zib N 0 100002 n (Zsh k3 i4 l5) K:=by
  subst h0
  induction n generalizing k3 i4 l5 with
  |zero=>kernel_rfl
  |succ n ih=>rw[Zay];simp only[ih];kernel_rfl
theorem Zzg(N:Nat)(a1:List Kg)(k2:Int):DN Zib N (a1,k2,())=Zeq N a1 k2:=by
  conv=>rhs;rw[Zeq];simp(disch:=exact id (by kernel_rfl)) only[Zsi (R:=((List Kg)×Unit)×Kh) N (CF Zib N [1,0,1,0])]
  kernel_rfl
def Zzh:Gd:=GF Zib Tryz.func159 (λN d=>Zzg N d.1 d.2.1)
def Ziq:Fn:=⟨Tryz.f90,λ |2=>[.canon [0,1,5,9]]|3=>[.canon [0,1,5]]|4=>[.opn 15,.canon [0,1,5]]|5=>[.canon [0,1,5]]|6=>[.canon [0,1,5]]|7=>[.canon [0,1,5]]|8=>[.canon [0,1,5]]|9=>[.canon [0,1,5]]|10=>[.canon [0,1,5]]|11=>[.canon [0,1,5]]|12=>[.canon [0,1,5]]|13=>[.canon [0,1,5]]|14=>[.canon [0,1,5]]|15=>[.canon [0,1,5]]|16=>[.canon [0,1,5]]|17=>[.canon [0,1,5]]|18=>[.canon [0,1,5]]|19=>[.canon [0,1,5]]|20=>[.canon [0,1,5]]|21=>[.canon [0,1,5]]|22=>[.canon [0,1,5]]|23=>[.canon [0,1,5]]|24=>[.canon [0,1,5]]|25=>[.canon [0,1,5]]|26=>[.canon [0,1,5]]|27=>[.canon [0,1,5]]|28=>[.refold 118,.canon [0,1,5]]|29=>[.canon [0,1,5]]|100002=>[.canon [0,1,5]]|_=>[],λN=>Sig.of [.mut Jk,.v Ja false] [.v Ja false] (λd=>Zft N d.1 d.2.1),CX [Zgy,Zrd,Zpl,Zzh]⟩
def Zs4(k3:Int)(i4:Int)(l5:List Y_KidRun):St:=⟨[(0,vO 0),(1,vI k3),(5,vI i4)],[(0,.arr Jk l5)],1⟩
def Zsj(k10:Int)(bm:Int)(az:Bool)(aJ:List Y_KidRun):St:=⟨[(0,vO 0),(1,vI k10),(5,vI bm),(9,vB az)],[(0,.arr Jk aJ)],1⟩
theorem Zs5(N:Nat){R:Type}(K:Ex->St->Option R){K0:Int->Int->Bool->(List Y_KidRun)->Option R}(h0:K0= λk10 bm az aJ=>K (.exit 0) (Zsj k10 bm az aJ))(n:Nat)(k3:Int)(i4:Int)(l5:List Y_KidRun):Zbc N K0 n k3 i4 l5=LM Ziq N 0 100002 n (Zs4 k3 i4 l5) K:=by
  subst h0
  induction n generalizing k3 i4 l5 with
  |zero=>kernel_rfl
  |succ n ih=>rw[Zbc];simp only[ih];kernel_rfl
theorem Z2x(N:Nat)(a1:List Y_KidRun)(k2:Int):DN Ziq N (a1,k2,())=Zft N a1 k2:=by
  conv=>rhs;rw[Zft];simp(disch:=exact id (by kernel_rfl)) only[Zs5 (R:=((List Y_KidRun)×Unit)×Kh) N (CF Ziq N [1,0,1,0])]
  kernel_rfl
def Z2y:Gd:=GF Ziq Tryz.func90 (λN d=>Z2x N d.1 d.2.1)
def Zlc:Fn:=⟨Tryz.f43,λ |2=>[.canon [0,1,5,9]]|3=>[.canon [0,1,5]]|4=>[.opn 15,.canon [0,1,5]]|5=>[.canon [0,1,5]]|6=>[.canon [0,1,5]]|7=>[.canon [0,1,5]]|8=>[.canon [0,1,5]]|9=>[.canon [0,1,5]]|10=>[.canon [0,1,5]]|11=>[.canon [0,1,5]]|12=>[.canon [0,1,5]]|13=>[.canon [0,1,5]]|14=>[.canon [0,1,5]]|15=>[.canon [0,1,5]]|16=>[.canon [0,1,5]]|17=>[.canon [0,1,5]]|18=>[.canon [0,1,5]]|19=>[.canon [0,1,5]]|20=>[.canon [0,1,5]]|21=>[.canon [0,1,5]]|22=>[.canon [0,1,5]]|23=>[.canon [0,1,5]]|24=>[.canon [0,1,5]]|25=>[.canon [0,1,5]]|26=>[.canon [0,1,5]]|27=>[.canon [0,1,5]]|28=>[.canon [0,1,5]]|29=>[.canon [0,1,5]]|30=>[.canon [0,1,5]]|31=>[.canon [0,1,5]]|32=>[.canon [0,1,5]]|33=>[.canon [0,1,5]]|34=>[.canon [0,1,5]]|35=>[.canon [0,1,5]]|36=>[.canon [0,1,5]]|37=>[.canon [0,1,5]]|38=>[.canon [0,1,5]]|39=>[.canon [0,1,5]]|40=>[.canon [0,1,5]]|41=>[.canon [0,1,5]]|42=>[.canon [0,1,5]]|43=>[.canon [0,1,5]]|44=>[.canon [0,1,5]]|45=>[.canon [0,1,5]]|46=>[.canon [0,1,5]]|47=>[.canon [0,1,5]]|48=>[.canon [0,1,5]]|49=>[.canon [0,1,5]]|50=>[.canon [0,1,5]]|51=>[.canon [0,1,5]]|52=>[.canon [0,1,5]]|53=>[.canon [0,1,5]]|54=>[.canon [0,1,5]]|55=>[.canon [0,1,5]]|56=>[.canon [0,1,5]]|57=>[.canon [0,1,5]]|58=>[.canon [0,1,5]]|59=>[.canon [0,1,5]]|60=>[.canon [0,1,5]]|61=>[.canon [0,1,5]]|62=>[.canon [0,1,5]]|63=>[.canon [0,1,5]]|64=>[.canon [0,1,5]]|65=>[.canon [0,1,5]]|66=>[.canon [0,1,5]]|67=>[.canon [0,1,5]]|68=>[.canon [0,1,5]]|69=>[.refold 313,.canon [0,1,5]]|100002=>[.canon [0,1,5]]|_=>[],λN=>Sig.of [.mut Jj,.v Ja false] [.v Ja false] (λd=>Zhk N d.1 d.2.1),CX [Zgy,Zpl,Z71,Z73,Zrd,Z2y]⟩
def Zv9(k3:Int)(i4:Int)(l5:List Y_Root):St:=⟨[(0,vO 0),(1,vI k3),(5,vI i4)],[(0,.arr Jj l5)],1⟩
def Zt4(nb:Int)(iA:Int)(t22:Bool)(fo:List Y_Root):St:=⟨[(0,vO 0),(1,vI nb),(5,vI iA),(9,vB t22)],[(0,.arr Jj fo)],1⟩
theorem Zwa(N:Nat){R:Type}(K:Ex->St->Option R){K0:Int->Int->Bool->(List Y_Root)->Option R}(h0:K0= λnb iA t22 fo=>K (.exit 0) (Zt4 nb iA t22 fo))(n:Nat)(k3:Int)(i4:Int)(l5:List Y_Root):Zca N K0 n k3 i4 l5=LM Zlc N 0 100002 n (Zv9 k3 i4 l5) K:=by
  subst h0
  induction n generalizing k3 i4 l5 with
  |zero=>kernel_rfl
  |succ n ih=>rw[Zca];simp only[ih];kernel_rfl
theorem Z74(N:Nat)(a1:List Y_Root)(k2:Int):DN Zlc N (a1,k2,())=Zhk N a1 k2:=by
  conv=>rhs;rw[Zhk];simp(disch:=exact id (by kernel_rfl)) only[Zwa (R:=((List Y_Root)×Unit)×Kh) N (CF Zlc N [1,0,1,0])]
  kernel_rfl
def Z75:Gd:=GF Zlc Tryz.func43 (λN d=>Z74 N d.1 d.2.1)
def Zj7:Fn:=⟨Tryz.f44,λ |2=>[.canon [0,1,5,9]]|3=>[.canon [0,1,5]]|4=>[.opn 15,.canon [0,1,5]]|5=>[.canon [0,1,5]]|6=>[.canon [0,1,5]]|7=>[.canon [0,1,5]]|8=>[.refold 28,.canon [0,1,5]]|100002=>[.canon [0,1,5]]|_=>[],λN=>Sig.of [.mut Jah,.v Ja false] [.v Ja false] (λd=>Zgt N d.1 d.2.1),CX [Zpl]⟩
def Zt5(k3:Int)(i4:Int)(l5:List Kn):St:=⟨[(0,vO 0),(1,vI k3),(5,vI i4)],[(0,.arr Jah l5)],1⟩
def Zs6(k7:Int)(i8:Int)(t9:Bool)(cd:List Kn):St:=⟨[(0,vO 0),(1,vI k7),(5,vI i8),(9,vB t9)],[(0,.arr Jah cd)],1⟩
theorem Zt6(N:Nat){R:Type}(K:Ex->St->Option R){K0:Int->Int->Bool->Kag->Option R}(h0:K0= λk7 i8 t9 cd=>K (.exit 0) (Zs6 k7 i8 t9 cd))(n:Nat)(k3:Int)(i4:Int)(l5:List Kn):Zbu N K0 n k3 i4 l5=LM Zj7 N 0 100002 n (Zt5 k3 i4 l5) K:=by
  subst h0
  induction n generalizing k3 i4 l5 with
  |zero=>kernel_rfl
  |succ n ih=>rw[Zbu];simp only[ih];kernel_rfl
theorem Z5s(N:Nat)(a1:List Kn)(k2:Int):DN Zj7 N (a1,k2,())=Zgt N a1 k2:=by
  conv=>rhs;rw[Zgt];simp(disch:=exact id (by kernel_rfl)) only[Zt6 (R:=(Kag×Unit)×Kh) N (CF Zj7 N [1,0,1,0])]
  kernel_rfl
def Z5t:Gd:=GF Zj7 Tryz.func44 (λN d=>Z5s N d.1 d.2.1)
def Z76:Fn:=⟨Tryz.f12,Wv,λN=>Sig.of [.kv Jn true,.v Ja false] [.v Ja false] (λd=>Zml N d.1 d.2.1),CX [Zado,Z7x,Z7z,Z75,Z5t]⟩
def Z77:Gd:=GF Z76 Tryz.func12
def Zld:Fn:=⟨Tryz.f91,λ |2=>[.canon [0,1,5,9]]|3=>[.canon [0,1,5]]|4=>[.canon [0,1,5,18]]|5=>[.canon [4]]|6=>[.canon [0,1,5]]|7=>[.canon [0,1,5,27]]|8=>[.canon [4]]|9=>[.canon [0,1,5]]|10=>[.canon [0,1,5,36]]|11=>[.canon [4]]|12=>[.canon [0,1,5]]|100002=>[.canon [0,1,5]]|_=>[],λN=>Sig.of [.v Jm false,.v Ja false] [.v Ja false] (λd=>Zhb N d.1 d.2.1),WR⟩
def Zwb(a3:List Kb)(k4:Int)(i5:Int):St:=⟨[(0,vV Jm a3),(1,vI k4),(5,vI i5)],[],0⟩
def Zt7(a3:List Kb):St:=⟨[(4,vI (-1:Int))],[],0⟩
def Zt8(a3:List Kb)(k6:Int)(i7:Int)(t8:Bool):St:=⟨[(0,vV Jm a3),(1,vI k6),(5,vI i7),(9,vB t8)],[],0⟩
theorem Zwc(N:Nat){R:Type}(K:Ex->St->Option R){a3:List Kb}{K0:Option R}{K1:Int->Int->Bool->Option R}(h0:K0=K .ret (Zt7 a3))(h1:K1= λk6 i7 t8=>K (.exit 0) (Zt8 a3 k6 i7 t8))(n:Nat)(k4:Int)(i5:Int):Zb5 N a3 K0 K1 n k4 i5=LM Zld N 0 100002 n (Zwb a3 k4 i5) K:=by
  subst h0 h1
  induction n generalizing k4 i5 with
  |zero=>kernel_rfl
  |succ n ih=>rw[Zb5];simp only[ih];kernel_rfl
theorem Z78(N:Nat)(a1:List Kb)(k2:Int):DN Zld N (a1,k2,())=Zhb N a1 k2:=by
  conv=>rhs;rw[Zhb];simp(disch:=exact id (by kernel_rfl)) only[Zwc (R:=Unit×Kh) N (CF Zld N [1,0,1,0])]
  kernel_rfl
def Z79:Gd:=GN Zld Tryz.func91 (λN d=>Z78 N d.1 d.2.1)
def Zadp:Fn:=⟨Tryz.f45,Wv,λN=>Sig.of [.v Jaf true,.v Ja false] [.v Ja false] (λd=>Zrg N d.1 d.2.1),CX [Z79]⟩
def Zadq:Gd:=GF Zadp Tryz.func45
def Zl2:Fn:=⟨Tryz.f92,λ |2=>[.canon [0,1,5,9]]|3=>[.canon [0,1,5]]|4=>[.canon [0,1,5,17]]|5=>[.canon [4]]|6=>[.canon [0,1,5]]|100002=>[.canon [0,1,5]]|_=>[],λN=>Sig.of [.v Ji false,.v Ja false] [.v Ja false] (λd=>Zac N d.1 d.2.1),WR⟩
def Zzi(a3:List Int)(k4:Int)(i5:Int):St:=⟨[(0,vV Ji a3),(1,vI k4),(5,vI i5)],[],0⟩
def Zwd(a3:List Int):St:=⟨[(4,vI (-1:Int))],[],0⟩
def Zwe(a3:List Int)(k6:Int)(i7:Int)(t8:Bool):St:=⟨[(0,vV Ji a3),(1,vI k6),(5,vI i7),(9,vB t8)],[],0⟩
theorem Zzj(N:Nat){R:Type}(K:Ex->St->Option R){a3:List Int}{K0:Option R}{K1:Int->Int->Bool->Option R}(h0:K0=K .ret (Zwd a3))(h1:K1= λk6 i7 t8=>K (.exit 0) (Zwe a3 k6 i7 t8))(n:Nat)(k4:Int)(i5:Int):Zct N a3 K0 K1 n k4 i5=LM Zl2 N 0 100002 n (Zzi a3 k4 i5) K:=by
  subst h0 h1
  induction n generalizing k4 i5 with
  |zero=>kernel_rfl
  |succ n ih=>rw[Zct];simp only[ih];kernel_rfl
theorem Zaaj(N:Nat)(a1:List Int)(k2:Int):DN Zl2 N (a1,k2,())=Zac N a1 k2:=by
  conv=>rhs;rw[Zac];simp(disch:=exact id (by kernel_rfl)) only[Zzj (R:=Unit×Kh) N (CF Zl2 N [1,0,1,0])]
  kernel_rfl
def Zio:Gd:=GN Zl2 Tryz.func92 (λN d=>Zaaj N d.1 d.2.1)
def Z8a:Fn:=⟨Tryz.f46,Wv,λN=>Sig.of [.v Jag true,.v Ja false] [.v Ja false] (λd=>Zqh N d.1 d.2.1),CX [Zio]⟩
def Z8b:Gd:=GF Z8a Tryz.func46
def Zle:Fn:=⟨Tryz.f47,λ |2=>[.canon [0,1,5,9]]|3=>[.canon [0,1,5]]|4=>[.canon [0,1,5,18]]|5=>[.canon [4]]|6=>[.canon [0,1,5]]|7=>[.canon [0,1,5,27]]|8=>[.canon [4]]|9=>[.canon [0,1,5]]|10=>[.canon [0,1,5,36]]|11=>[.canon [4]]|12=>[.canon [0,1,5]]|100002=>[.canon [0,1,5]]|_=>[],λN=>Sig.of [.v Jm false,.v Ja false] [.v Ja false] (λd=>Zhl N d.1 d.2.1),WR⟩
def Zwf(a3:List Kb)(k4:Int)(i5:Int):St:=⟨[(0,vV Jm a3),(1,vI k4),(5,vI i5)],[],0⟩
def Zt9(a3:List Kb):St:=⟨[(4,vI (-1:Int))],[],0⟩
def Zua(a3:List Kb)(k6:Int)(i7:Int)(t8:Bool):St:=⟨[(0,vV Jm a3),(1,vI k6),(5,vI i7),(9,vB t8)],[],0⟩
theorem Zwg(N:Nat){R:Type}(K:Ex->St->Option R){a3:List Kb}{K0:Option R}{K1:Int->Int->Bool->Option R}(h0:K0=K .ret (Zt9 a3))(h1:K1= λk6 i7 t8=>K (.exit 0) (Zua a3 k6 i7 t8))(n:Nat)(k4:Int)(i5:Int):Zcb N a3 K0 K1 n k4 i5=LM Zle N 0 100002 n (Zwf a3 k4 i5) K:=by
  subst h0 h1
  induction n generalizing k4 i5 with
  |zero=>kernel_rfl
  |succ n ih=>rw[Zcb];simp only[ih];kernel_rfl
theorem Z8c(N:Nat)(a1:List Kb)(k2:Int):DN Zle N (a1,k2,())=Zhl N a1 k2:=by
  conv=>rhs;rw[Zhl];simp(disch:=exact id (by kernel_rfl)) only[Zwg (R:=Unit×Kh) N (CF Zle N [1,0,1,0])]
  kernel_rfl
def Z8d:Gd:=GN Zle Tryz.func47 (λN d=>Z8c N d.1 d.2.1)
def Zl3:Fn:=⟨Tryz.f93,λ |2=>[.canon [0,1,5,9]]|3=>[.canon [0,1,5]]|4=>[.canon [0,1,5,18]]|5=>[.canon [4]]|6=>[.canon [0,1,5]]|7=>[.canon [0,1,5,27]]|8=>[.canon [4]]|9=>[.canon [0,1,5]]|100002=>[.canon [0,1,5]]|_=>[],λN=>Sig.of [.v Jd false,.v Ja false] [.v Ja false] (λd=>Zap N d.1 d.2.1),WR⟩
def Zzk(a3:List Kc)(k4:Int)(i5:Int):St:=⟨[(0,vV Jd a3),(1,vI k4),(5,vI i5)],[],0⟩
def Zwh(a3:List Kc):St:=⟨[(4,vI (-1:Int))],[],0⟩
def Zwi(a3:List Kc)(k6:Int)(i7:Int)(t8:Bool):St:=⟨[(0,vV Jd a3),(1,vI k6),(5,vI i7),(9,vB t8)],[],0⟩
theorem Zzl(N:Nat){R:Type}(K:Ex->St->Option R){a3:List Kc}{K0:Option R}{K1:Int->Int->Bool->Option R}(h0:K0=K .ret (Zwh a3))(h1:K1= λk6 i7 t8=>K (.exit 0) (Zwi a3 k6 i7 t8))(n:Nat)(k4:Int)(i5:Int):Zcu N a3 K0 K1 n k4 i5=LM Zl3 N 0 100002 n (Zzk a3 k4 i5) K:=by
  subst h0 h1
  induction n generalizing k4 i5 with
  |zero=>kernel_rfl
  |succ n ih=>rw[Zcu];simp only[ih];kernel_rfl
theorem Zaak(N:Nat)(a1:List Kc)(k2:Int):DN Zl3 N (a1,k2,())=Zap N a1 k2:=by
  conv=>rhs;rw[Zap];simp(disch:=exact id (by kernel_rfl)) only[Zzl (R:=Unit×Kh) N (CF Zl3 N [1,0,1,0])]
  kernel_rfl
def Zpm:Gd:=GN Zl3 Tryz.func93 (λN d=>Zaak N d.1 d.2.1)
def Zlf:Fn:=⟨Tryz.f94,λ |2=>[.canon [0,1,5,9]]|3=>[.canon [0,1,5]]|4=>[.canon [0,1,5,18]]|5=>[.canon [4]]|6=>[.canon [0,1,5]]|7=>[.canon [0,1,5,27]]|8=>[.canon [4]]|9=>[.canon [0,1,5]]|10=>[.canon [0,1,5,36]]|11=>[.canon [4]]|12=>[.canon [0,1,5]]|13=>[.canon [0,1,5,45]]|14=>[.canon [4]]|15=>[.canon [0,1,5]]|16=>[.canon [0,1,5]]|17=>[.canon [0,1,5,56]]|18=>[.canon [4]]|100002=>[.canon [0,1,5]]|_=>[],λN=>Sig.of [.v Jam false,.v Ja false] [.v Ja false] (λd=>Zhm N d.1 d.2.1),CX [Zio]⟩
def Zwj(a3:List Kf)(k4:Int)(i5:Int):St:=⟨[(0,vV Jam a3),(1,vI k4),(5,vI i5)],[],0⟩
def Zub(a3:List Kf):St:=⟨[(4,vI (-1:Int))],[],0⟩
def Zuc(a3:List Kf)(k7:Int)(i8:Int)(t9:Bool):St:=⟨[(0,vV Jam a3),(1,vI k7),(5,vI i8),(9,vB t9)],[],0⟩
theorem Zwk(N:Nat){R:Type}(K:Ex->St->Option R){a3:List Kf}{K0:Option R}{K1:Int->Int->Bool->Option R}(h0:K0=K .ret (Zub a3))(h1:K1= λk7 i8 t9=>K (.exit 0) (Zuc a3 k7 i8 t9))(n:Nat)(k4:Int)(i5:Int):Zcc N a3 K0 K1 n k4 i5=LM Zlf N 0 100002 n (Zwj a3 k4 i5) K:=by
  subst h0 h1
  induction n generalizing k4 i5 with
  |zero=>kernel_rfl
  |succ n ih=>rw[Zcc];simp only[ih];kernel_rfl
theorem Z8e(N:Nat)(a1:List Kf)(k2:Int):DN Zlf N (a1,k2,())=Zhm N a1 k2:=by
  conv=>rhs;rw[Zhm];simp(disch:=exact id (by kernel_rfl)) only[Zwk (R:=Unit×Kh) N (CF Zlf N [1,0,1,0])]
  kernel_rfl
def Z8f:Gd:=GF Zlf Tryz.func94 (λN d=>Z8e N d.1 d.2.1)
def Zlg:Fn:=⟨Tryz.f95,λ |2=>[.canon [0,1,5,9]]|3=>[.canon [0,1,5]]|4=>[.canon [0,1,5,18]]|5=>[.canon [4]]|6=>[.canon [0,1,5]]|7=>[.canon [0,1,5,27]]|8=>[.canon [4]]|9=>[.canon [0,1,5]]|10=>[.canon [0,1,5,36]]|11=>[.canon [4]]|12=>[.canon [0,1,5]]|100002=>[.canon [0,1,5]]|_=>[],λN=>Sig.of [.v Jm false,.v Ja false] [.v Ja false] (λd=>Zhn N d.1 d.2.1),WR⟩
def Zwl(a3:List Kb)(k4:Int)(i5:Int):St:=⟨[(0,vV Jm a3),(1,vI k4),(5,vI i5)],[],0⟩
def Zud(a3:List Kb):St:=⟨[(4,vI (-1:Int))],[],0⟩
def Zue(a3:List Kb)(k6:Int)(i7:Int)(t8:Bool):St:=⟨[(0,vV Jm a3),(1,vI k6),(5,vI i7),(9,vB t8)],[],0⟩
theorem Zwm(N:Nat){R:Type}(K:Ex->St->Option R){a3:List Kb}{K0:Option R}{K1:Int->Int->Bool->Option R}(h0:K0=K .ret (Zud a3))(h1:K1= λk6 i7 t8=>K (.exit 0) (Zue a3 k6 i7 t8))(n:Nat)(k4:Int)(i5:Int):Zcd N a3 K0 K1 n k4 i5=LM Zlg N 0 100002 n (Zwl a3 k4 i5) K:=by
  subst h0 h1
  induction n generalizing k4 i5 with
  |zero=>kernel_rfl
  |succ n ih=>rw[Zcd];simp only[ih];kernel_rfl
theorem Z8g(N:Nat)(a1:List Kb)(k2:Int):DN Zlg N (a1,k2,())=Zhn N a1 k2:=by
  conv=>rhs;rw[Zhn];simp(disch:=exact id (by kernel_rfl)) only[Zwm (R:=Unit×Kh) N (CF Zlg N [1,0,1,0])]
  kernel_rfl
def Z8h:Gd:=GN Zlg Tryz.func95 (λN d=>Z8g N d.1 d.2.1)
def Zj8:Fn:=⟨Tryz.f96,λ |2=>[.canon [0,1,5,9]]|3=>[.canon [0,1,5]]|4=>[.canon [0,1,5,18]]|5=>[.canon [4]]|6=>[.canon [0,1,5]]|7=>[.canon [0,1,5,27]]|8=>[.canon [4]]|9=>[.canon [0,1,5]]|10=>[.canon [0,1,5,36]]|11=>[.canon [4]]|12=>[.canon [0,1,5]]|100002=>[.canon [0,1,5]]|_=>[],λN=>Sig.of [.v Jm false,.v Ja false] [.v Ja false] (λd=>Zed N d.1 d.2.1),WR⟩
def Zuf(a3:List Kb)(k4:Int)(i5:Int):St:=⟨[(0,vV Jm a3),(1,vI k4),(5,vI i5)],[],0⟩
def Zs7(a3:List Kb):St:=⟨[(4,vI (-1:Int))],[],0⟩
def Zs8(a3:List Kb)(k6:Int)(i7:Int)(t8:Bool):St:=⟨[(0,vV Jm a3),(1,vI k6),(5,vI i7),(9,vB t8)],[],0⟩
theorem Zug(N:Nat){R:Type}(K:Ex->St->Option R){a3:List Kb}{K0:Option R}{K1:Int->Int->Bool->Option R}(h0:K0=K .ret (Zs7 a3))(h1:K1= λk6 i7 t8=>K (.exit 0) (Zs8 a3 k6 i7 t8))(n:Nat)(k4:Int)(i5:Int):Zbs N a3 K0 K1 n k4 i5=LM Zj8 N 0 100002 n (Zuf a3 k4 i5) K:=by
  subst h0 h1
  induction n generalizing k4 i5 with
  |zero=>kernel_rfl
  |succ n ih=>rw[Zbs];simp only[ih];kernel_rfl
theorem Z5u(N:Nat)(a1:List Kb)(k2:Int):DN Zj8 N (a1,k2,())=Zed N a1 k2:=by
  conv=>rhs;rw[Zed];simp(disch:=exact id (by kernel_rfl)) only[Zug (R:=Unit×Kh) N (CF Zj8 N [1,0,1,0])]
  kernel_rfl
def Zre:Gd:=GN Zj8 Tryz.func96 (λN d=>Z5u N d.1 d.2.1)
def Zic:Fn:=⟨Tryz.f160,λ |2=>[.canon [0,1,5,9]]|3=>[.canon [0,1,5]]|4=>[.canon [0,1,5,18]]|5=>[.canon [4]]|6=>[.canon [0,1,5]]|7=>[.canon [0,1,5,27]]|8=>[.canon [4]]|9=>[.canon [0,1,5]]|10=>[.canon [0,1,5]]|11=>[.canon [0,1,5,38]]|12=>[.canon [4]]|100002=>[.canon [0,1,5]]|_=>[],λN=>Sig.of [.v Jal false,.v Ja false] [.v Ja false] (λd=>Zer N d.1 d.2.1),CX [Zio]⟩
def Zsk(a3:List Kg)(k4:Int)(i5:Int):St:=⟨[(0,vV Jal a3),(1,vI k4),(5,vI i5)],[],0⟩
def Zr2(a3:List Kg):St:=⟨[(4,vI (-1:Int))],[],0⟩
def Zr3(a3:List Kg)(k7:Int)(i8:Int)(t9:Bool):St:=⟨[(0,vV Jal a3),(1,vI k7),(5,vI i8),(9,vB t9)],[],0⟩
theorem Zsl(N:Nat){R:Type}(K:Ex->St->Option R){a3:List Kg}{K0:Option R}{K1:Int->Int->Bool->Option R}(h0:K0=K .ret (Zr2 a3))(h1:K1= λk7 i8 t9=>K (.exit 0) (Zr3 a3 k7 i8 t9))(n:Nat)(k4:Int)(i5:Int):Zaz N a3 K0 K1 n k4 i5=LM Zic N 0 100002 n (Zsk a3 k4 i5) K:=by
  subst h0 h1
  induction n generalizing k4 i5 with
  |zero=>kernel_rfl
  |succ n ih=>rw[Zaz];simp only[ih];kernel_rfl
theorem Zzm(N:Nat)(a1:List Kg)(k2:Int):DN Zic N (a1,k2,())=Zer N a1 k2:=by
  conv=>rhs;rw[Zer];simp(disch:=exact id (by kernel_rfl)) only[Zsl (R:=Unit×Kh) N (CF Zic N [1,0,1,0])]
  kernel_rfl
def Zzn:Gd:=GF Zic Tryz.func160 (λN d=>Zzm N d.1 d.2.1)
def Zir:Fn:=⟨Tryz.f97,λ |2=>[.canon [0,1,5,9]]|3=>[.canon [0,1,5]]|4=>[.canon [0,1,5,18]]|5=>[.canon [4]]|6=>[.canon [0,1,5]]|7=>[.canon [0,1,5,27]]|8=>[.canon [4]]|9=>[.canon [0,1,5]]|10=>[.canon [0,1,5,36]]|11=>[.canon [4]]|12=>[.canon [0,1,5]]|13=>[.canon [0,1,5,45]]|14=>[.canon [4]]|15=>[.canon [0,1,5]]|16=>[.canon [0,1,5,54]]|17=>[.canon [4]]|18=>[.canon [0,1,5]]|19=>[.canon [0,1,5,63]]|20=>[.canon [4]]|21=>[.canon [0,1,5]]|22=>[.canon [0,1,5]]|23=>[.canon [0,1,5,74]]|24=>[.canon [4]]|25=>[.canon [0,1,5]]|26=>[.canon [0,1,5,83]]|27=>[.canon [4]]|28=>[.canon [0,1,5]]|29=>[.canon [0,1,5,92]]|30=>[.canon [4]]|31=>[.canon [0,1,5]]|32=>[.canon [0,1,5,101]]|33=>[.canon [4]]|34=>[.canon [0,1,5,110]]|35=>[.canon [4]]|36=>[.canon [0,1,5]]|37=>[.canon [0,1,5,120]]|38=>[.canon [4]]|39=>[.canon [0,1,5]]|40=>[.canon [0,1,5,130]]|41=>[.canon [4]]|42=>[.canon [0,1,5]]|43=>[.canon [0,1,5,140]]|44=>[.canon [4]]|45=>[.canon [0,1,5]]|46=>[.canon [0,1,5,150]]|47=>[.canon [4]]|48=>[.canon [0,1,5]]|100002=>[.canon [0,1,5]]|_=>[],λN=>Sig.of [.v Jad false,.v Ja false] [.v Ja false] (λd=>Zfu N d.1 d.2.1),CX [Zio,Zre,Zpm,Zzn]⟩
def Zs9(a3:List Y_KidRun)(k4:Int)(i5:Int):St:=⟨[(0,vV Jad a3),(1,vI k4),(5,vI i5)],[],0⟩
def Zsm(a3:List Y_KidRun):St:=⟨[(4,vI (-1:Int))],[],0⟩
def Zsn(a3:List Y_KidRun)(k10:Int)(bm:Int)(az:Bool):St:=⟨[(0,vV Jad a3),(1,vI k10),(5,vI bm),(9,vB az)],[],0⟩
theorem Zta(N:Nat){R:Type}(K:Ex->St->Option R){a3:List Y_KidRun}{K0:Option R}{K1:Int->Int->Bool->Option R}(h0:K0=K .ret (Zsm a3))(h1:K1= λk10 bm az=>K (.exit 0) (Zsn a3 k10 bm az))(n:Nat)(k4:Int)(i5:Int):Zbd N a3 K0 K1 n k4 i5=LM Zir N 0 100002 n (Zs9 a3 k4 i5) K:=by
  subst h0 h1
  induction n generalizing k4 i5 with
  |zero=>kernel_rfl
  |succ n ih=>rw[Zbd];simp only[ih];kernel_rfl
theorem Z2z(N:Nat)(a1:List Y_KidRun)(k2:Int):DN Zir N (a1,k2,())=Zfu N a1 k2:=by
  conv=>rhs;rw[Zfu];simp(disch:=exact id (by kernel_rfl)) only[Zta (R:=Unit×Kh) N (CF Zir N [1,0,1,0])]
  kernel_rfl
def Z20:Gd:=GF Zir Tryz.func97 (λN d=>Z2z N d.1 d.2.1)
def Zlh:Fn:=⟨Tryz.f48,λ |2=>[.canon [0,1,5,9]]|3=>[.canon [0,1,5]]|4=>[.canon [0,1,5,18]]|5=>[.canon [4]]|6=>[.canon [0,1,5]]|7=>[.canon [0,1,5,27]]|8=>[.canon [4]]|9=>[.canon [0,1,5]]|10=>[.canon [0,1,5,36]]|11=>[.canon [4]]|12=>[.canon [0,1,5]]|13=>[.canon [0,1,5,45]]|14=>[.canon [4]]|15=>[.canon [0,1,5]]|16=>[.canon [0,1,5,54]]|17=>[.canon [4]]|18=>[.canon [0,1,5]]|19=>[.canon [0,1,5,63]]|20=>[.canon [4]]|21=>[.canon [0,1,5]]|22=>[.canon [0,1,5,72]]|23=>[.canon [4]]|24=>[.canon [0,1,5]]|25=>[.canon [0,1,5,81]]|26=>[.canon [4]]|27=>[.canon [0,1,5]]|28=>[.canon [0,1,5,90]]|29=>[.canon [4]]|30=>[.canon [0,1,5]]|31=>[.canon [0,1,5,99]]|32=>[.canon [4]]|33=>[.canon [0,1,5]]|34=>[.canon [0,1,5,108]]|35=>[.canon [4]]|36=>[.canon [0,1,5]]|37=>[.canon [0,1,5,119]]|38=>[.canon [4]]|39=>[.canon [0,1,5]]|40=>[.canon [0,1,5]]|41=>[.canon [0,1,5,130]]|42=>[.canon [4]]|43=>[.canon [0,1,5]]|44=>[.canon [0,1,5,139]]|45=>[.canon [4]]|46=>[.canon [0,1,5]]|47=>[.canon [0,1,5,148]]|48=>[.canon [4]]|49=>[.canon [0,1,5]]|50=>[.canon [0,1,5,157]]|51=>[.canon [4]]|52=>[.canon [0,1,5]]|53=>[.canon [0,1,5,166]]|54=>[.canon [4]]|55=>[.canon [0,1,5]]|56=>[.canon [0,1,5,175]]|57=>[.canon [4]]|58=>[.canon [0,1,5,184]]|59=>[.canon [4]]|60=>[.canon [0,1,5]]|61=>[.canon [0,1,5,194]]|62=>[.canon [4]]|63=>[.canon [0,1,5]]|64=>[.canon [0,1,5,204]]|65=>[.canon [4]]|66=>[.canon [0,1,5]]|67=>[.canon [0,1,5,214]]|68=>[.canon [4]]|69=>[.canon [0,1,5]]|70=>[.canon [0,1,5,224]]|71=>[.canon [4]]|72=>[.canon [0,1,5]]|73=>[.canon [0,1,5,234]]|74=>[.canon [4]]|75=>[.canon [0,1,5]]|76=>[.canon [0,1,5,244]]|77=>[.canon [4]]|78=>[.canon [0,1,5]]|79=>[.canon [0,1,5,254]]|80=>[.canon [4]]|81=>[.canon [0,1,5]]|82=>[.canon [0,1,5,264]]|83=>[.canon [4]]|84=>[.canon [0,1,5]]|85=>[.canon [0,1,5,274]]|86=>[.canon [4]]|87=>[.canon [0,1,5]]|88=>[.canon [0,1,5]]|89=>[.canon [0,1,5,286]]|90=>[.canon [4]]|91=>[.canon [0,1,5]]|92=>[.canon [0,1,5,296]]|93=>[.canon [4]]|94=>[.canon [0,1,5,304]]|95=>[.canon [4]]|96=>[.canon [0,1,5]]|97=>[.canon [0,1,5,314]]|98=>[.canon [4]]|99=>[.canon [0,1,5]]|100=>[.canon [0,1,5,324]]|101=>[.canon [4]]|102=>[.canon [0,1,5]]|103=>[.canon [0,1,5,336]]|104=>[.canon [4]]|105=>[.canon [0,1,5]]|106=>[.canon [0,1,5]]|107=>[.canon [0,1,5,348]]|108=>[.canon [4]]|109=>[.canon [0,1,5]]|110=>[.canon [0,1,5,358]]|111=>[.canon [4]]|112=>[.canon [0,1,5]]|113=>[.canon [0,1,5,368]]|114=>[.canon [4]]|115=>[.canon [0,1,5]]|116=>[.canon [0,1,5,378]]|117=>[.canon [4]]|118=>[.canon [0,1,5]]|119=>[.canon [0,1,5,388]]|120=>[.canon [4]]|121=>[.canon [0,1,5]]|122=>[.canon [0,1,5,398]]|123=>[.canon [4]]|100002=>[.canon [0,1,5]]|_=>[],λN=>Sig.of [.v Jaj false,.v Ja false] [.v Ja false] (λd=>Zho N d.1 d.2.1),CX [Zio,Zpm,Z8f,Z8h,Zre,Z20]⟩
def Zwn(a3:List Y_Root)(k4:Int)(i5:Int):St:=⟨[(0,vV Jaj a3),(1,vI k4),(5,vI i5)],[],0⟩
def Zuh(a3:List Y_Root):St:=⟨[(4,vI (-1:Int))],[],0⟩
def Zui(a3:List Y_Root)(nb:Int)(iA:Int)(t22:Bool):St:=⟨[(0,vV Jaj a3),(1,vI nb),(5,vI iA),(9,vB t22)],[],0⟩
theorem Zwo(N:Nat){R:Type}(K:Ex->St->Option R){a3:List Y_Root}{K0:Option R}{K1:Int->Int->Bool->Option R}(h0:K0=K .ret (Zuh a3))(h1:K1= λnb iA t22=>K (.exit 0) (Zui a3 nb iA t22))(n:Nat)(k4:Int)(i5:Int):Zce N a3 K0 K1 n k4 i5=LM Zlh N 0 100002 n (Zwn a3 k4 i5) K:=by
  subst h0 h1
  induction n generalizing k4 i5 with
  |zero=>kernel_rfl
  |succ n ih=>rw[Zce];simp only[ih];kernel_rfl
theorem Z8i(N:Nat)(a1:List Y_Root)(k2:Int):DN Zlh N (a1,k2,())=Zho N a1 k2:=by
  conv=>rhs;rw[Zho];simp(disch:=exact id (by kernel_rfl)) only[Zwo (R:=Unit×Kh) N (CF Zlh N [1,0,1,0])]
  kernel_rfl
def Z8j:Gd:=GF Zlh Tryz.func48 (λN d=>Z8i N d.1 d.2.1)
def Zj9:Fn:=⟨Tryz.f49,λ |2=>[.canon [0,1,5,9]]|3=>[.canon [0,1,5]]|4=>[.canon [0,1,5,18]]|5=>[.canon [4]]|6=>[.canon [0,1,5]]|7=>[.canon [0,1,5,27]]|8=>[.canon [4]]|9=>[.canon [0,1,5]]|10=>[.canon [0,1,5]]|11=>[.canon [0,1,5,38]]|12=>[.canon [4]]|100002=>[.canon [0,1,5]]|_=>[],λN=>Sig.of [.v Jan false,.v Ja false] [.v Ja false] (λd=>Zgu N d.1 d.2.1),CX [Zpm]⟩
def Zuj(a3:List Kn)(k4:Int)(i5:Int):St:=⟨[(0,vV Jan a3),(1,vI k4),(5,vI i5)],[],0⟩
def Ztb(a3:List Kn):St:=⟨[(4,vI (-1:Int))],[],0⟩
def Ztc(a3:List Kn)(k7:Int)(i8:Int)(t9:Bool):St:=⟨[(0,vV Jan a3),(1,vI k7),(5,vI i8),(9,vB t9)],[],0⟩
theorem Zuk(N:Nat){R:Type}(K:Ex->St->Option R){a3:List Kn}{K0:Option R}{K1:Int->Int->Bool->Option R}(h0:K0=K .ret (Ztb a3))(h1:K1= λk7 i8 t9=>K (.exit 0) (Ztc a3 k7 i8 t9))(n:Nat)(k4:Int)(i5:Int):Zbv N a3 K0 K1 n k4 i5=LM Zj9 N 0 100002 n (Zuj a3 k4 i5) K:=by
  subst h0 h1
  induction n generalizing k4 i5 with
  |zero=>kernel_rfl
  |succ n ih=>rw[Zbv];simp only[ih];kernel_rfl
theorem Z5v(N:Nat)(a1:List Kn)(k2:Int):DN Zj9 N (a1,k2,())=Zgu N a1 k2:=by
  conv=>rhs;rw[Zgu];simp(disch:=exact id (by kernel_rfl)) only[Zuk (R:=Unit×Kh) N (CF Zj9 N [1,0,1,0])]
  kernel_rfl
def Z5w:Gd:=GF Zj9 Tryz.func49 (λN d=>Z5v N d.1 d.2.1)
def Z8k:Fn:=⟨Tryz.f13,Wv,λN=>Sig.of [.v (TY_World) true,.v Ja false] [.v Ja false] (λd=>Zjw N d.1 d.2.1),CX [Zadq,Z8b,Z8d,Z8j,Z5w]⟩
def Z8l:Gd:=GF Z8k Tryz.func13
def Z21:Fn:=⟨Tryz.f3,Wv,λN=>Sig.of [.v Jx true] [.v Jp false] (λd=>Zhw N d.1),CX [Z8p,Z8t,Zahl,Zahv,Zadj,Zaac,Z5q,Z77,Z8l]⟩
set_option maxRecDepth 100000 in def Z22:Gd:=GF Z21 Tryz.func3
end
end Go.Sx
