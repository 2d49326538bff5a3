/- Each Go function does what its Lean function says. -/
import Derived.Test.YtjcmdagkabkicaaGreatD
open List renaming cons_append→Xbd,nil_append→Xbe,getD→Xc
open Int renaming toNat→Xa
namespace Go.Sx
noncomputable section
open Go.Proofs
open Tryz
variable(N:Nat){R:Type}(K:Ex->St->Option R)
set_option linter.unusedVariables false
set_option linter.unusedSimpArgs false
def Z2n:Fn:=⟨f200,λ |0=>[.opn 13]|_=>[],λN=>Sig.of [.box Jo,vf_ Ja,vf_ Ja] [] (λd=>Zii N d.1 d.2.1 d.2.2.1),CX [Zadt,Zsh,Z8b]⟩
def Zry:Gd:=GF Z2n func200
def Zaa4:Fn:=⟨f264,Wu,λN=>Sig.of [vf_ Ja] [vt_ Jq,vf_ Jp] (λd=>Zgs N d.1),CX [Zet]⟩
def Zs2:Gd:=GF Zaa4 func264
def Zp2:Fn:=⟨f281,λ |2=>cn_ [1,6,7,8,9]|3=>cn_ [1,4,6,7,8]|4=>cn_ [1,6,7,8,29]|5=>cn_ [2]|6=>cn_ [1,6,7,8]|100002=>cn_ [1,6,7,8]|_=>[],λN=>Sig.of [vt_ Jaf] [vf_ Jp] (λd=>Zc5 N d.1),CX [Zbj,Z1]⟩
def Z8c(t2:List Kb)(t4:Int)(b5:Int×List Kb):St:=⟨[(1,vP 0 0),(6,vV Jn t2),(7,vI (Wg b5.2)),(8,vI t4)],[(0,.box [.val Ja b5.1,.val Jn b5.2])],1⟩
def Z5r(t2:List Kb)(b5:Int×List Kb):St:=⟨[(2,vB false)],[],0⟩
def Z5s(t2:List Kb)(b5:Int×List Kb)(ax:Int)(be:Bool):St:=⟨[(1,vP 0 0),(6,vV Jn t2),(7,vI (Wg b5.2)),(8,vI ax),(9,vB be)],[(0,.box [.val Ja b5.1,.val Jn b5.2])],1⟩
theorem Z8d{t2:List Kb}{b5:Int×List Kb}{K0:Option R}{K1:Int->Bool->Option R}(h0:K0=K .ret (Z5r t2 b5))(h1:K1= λax be=>K (.exit 0) (Z5s t2 b5 ax be))(n:Nat)(t4:Int):Zfn N t2 b5 K0 K1 n t4=LM Zp2 N 0 100002 n (Z8c t2 t4 b5) K:=by
  subst h0 h1
  induction n generalizing t4 with
  |zero=>kernel_rfl
  |succ n ih=>rw[Zfn];simp only[ih];kernel_rfl
theorem Zaie(m1:Int×List Kb):DN Zp2 N (m1,())=Zc5 N m1:=by
  conv=>rhs;rw[Zc5];simp(disch:=exact id (by kernel_rfl)) only[Z8d (R:=Unit×Ko) N (CF Zp2 N [1,0,1,0])]
  kernel_rfl
def Zj6:Gd:=GF Zp2 func281 (λN d=>Zaie N d.1)
def Zadz:Fn:=⟨f308,Wu,λN=>Sig.of [vt_ Jq] [vf_ Jp] (λd=>Zpj N d.1),CX [Zet,Z1,Zbj]⟩
def Zad0:Gd:=GF Zadz func308
def Z8e:Fn:=⟨f265,Wu,λN=>Sig.of [vt_ Jaf,vf_ Ja,vt_ Jq] [vt_ Jq] (λd=>Zfo N d.1 d.2.1 d.2.2.1),CX [Zj6,Zad0]⟩
def Zsi:Gd:=GF Z8e func265
def Zwb:Fn:=⟨f266,Wu,λN=>Sig.of [.box Jj] [] (λd=>Zd0 N d.1),CX [Zil]⟩
def Zqf:Gd:=GF Zwb func266
def Z5t:Fn:=⟨f201,λ |1000000=>[.unfE 1]|_=>[],λN=>Sig.of [.boxal Jo 3,vt_ Jq] [] (λd=>Zmb N d.1 d.2.1 d.2.2.1),CX [Zsq,Zs2,Zsi,Zqf]⟩
def Z5u:Gd:=GF Z5t func201
def Zrd:Nat->List Ghost:=λ |0=>[.unfC 0 15 none]|_=>[]
def Zre(N:Nat):Sig:=.inline (Inl.of tab Zrd Tryz.f140.ntmps (Wpc Tryz.f140) Tryz.f140.results.toList (by kernel_rfl))
theorem Zyw(N:Nat):GW 140 (Zre N):=⟨Wee Tryz.func140 (by kernel_rfl),Wug mixedOk tabOk Tryz.func140 (by kernel_rfl) (by kernel_rfl) (by kernel_rfl) (λid=>by unfold Zrd;split<;>rfl)⟩
def Zrf:Gd:=⟨140,Zre,Zyw⟩
def Z8f:Fn:=⟨f273,Wu,λN=>Sig.of [vt_ Jag] [vt_ Jaq] (λd=>Zkf N d.1),CX [Z5]⟩
def Zsj:Gd:=GF Z8f func273
def Zad1:Fn:=⟨f274,Wu,λN=>Sig.of [vt_ Jag] [vf_ Jp] (λd=>Zmv N d.1),CX [Znt,Zbj]⟩
def Ztq:Gd:=GF Zad1 func274
def Zags:Fn:=⟨f275,Wu,λN=>Sig.of [vt_ Jb] [vf_ Jp] (λd=>Zqi N d.1),CX [Zj5,Zbj]⟩
def Zagt:Gd:=GF Zags func275
def Zaa5:Fn:=⟨f276,Wu,λN=>Sig.of [vf_ Ji,vf_ Ja] [vf_ Jah,vf_ Ja,vf_ Jp] (λd=>Zlh N d.1 d.2.1),CX [Z5,Znt,Zj5,Zsp,Zrb]⟩
def Zs3:Gd:=GF Zaa5 func276
def Zad2:Fn:=⟨f209,Wu,λN=>Sig.of [vt_ Jag,vt_ Jb] [vt_ Jaq,vf_ Jp] (λd=>Zpl N d.1 d.2.1),CX [Zsj,Ztq,Zagt,Zrc,Zs3]⟩
def Zad3:Gd:=GF Zad2 func209
def Z5v:Fn:=⟨f141,λ |1000000=>[.unfE 1]|_=>[],λN=>Sig.of [.boxal Jo 3] [] (λd=>Zcn N d.1 d.2.1),CX [Zad3]⟩
def Zrz:Gd:=GF Z5v func141
def Zaa6:Fn:=⟨f210,Wu,λN=>Sig.of [vf_ Jd] [vf_ Jc] (λd=>Za8 N d.1),WR⟩
def Zja:Gd:=GN Zaa6 func210
def Zp3:Fn:=⟨f267,λ |5=>cn_ [0,5,6,25]|6=>cn_ [0,5,6]|7=>cn_ [0,5,6]|8=>cn_ [0,5,6,36]|9=>cn_ [4]|100005=>cn_ [0,5,6]|_=>[],λN=>Sig.of [vf_ Jg,vf_ Ja] [vf_ Ja] (λd=>Zkb N d.1 d.2.1),CX [Z1,Zsa]⟩
def Z8g(aB:List Ka)(n5:Int)(k6:Int):St:=⟨[(0,vV Jg aB),(5,vI n5),(6,vI k6)],[],0⟩
def Z5w(aB:List Ka)(t8:Int):St:=⟨[(4,vI t8)],[],0⟩
def Z5x(aB:List Ka)(n9:Int)(k10:Int)(aq:Bool):St:=⟨[(0,vV Jg aB),(5,vI n9),(6,vI k10),(25,vB aq)],[],0⟩
theorem Z8h{aB:List Ka}{K0:Int->Option R}{K1:Int->Int->Bool->Option R}(h0:K0= λt8=>K .ret (Z5w aB t8))(h1:K1= λn9 k10 aq=>K (.exit 0) (Z5x aB n9 k10 aq))(n:Nat)(n5:Int)(k6:Int):Zfp N aB K0 K1 n n5 k6=LM Zp3 N 0 100005 n (Z8g aB n5 k6) K:=by
  subst h0 h1
  induction n generalizing n5 k6 with
  |zero=>kernel_rfl
  |succ n ih=>rw[Zfp];simp only[ih];kernel_rfl
theorem Zaif(ai:List Ka)(i2:Int):DN Zp3 N (ai,i2,())=Zkb N ai i2:=by
  conv=>rhs;rw[Zkb];simp(disch:=exact id (by kernel_rfl)) only[Z8h (R:=Unit×Kh) N (CF Zp3 N [1,1,1,0,1,0])]
  kernel_rfl
def Zyx:Gd:=GF Zp3 func267 (λN d=>Zaif N d.1 d.2.1)
def Z2o:Fn:=⟨f202,λ |0=>[.opn 13]|5=>[.shutD 34 15]|_=>[],λN=>Sig.of [.box Jo,vf_ Ja,vf_ Jg] [] (λd=>Zli N d.1 d.2.1 d.2.2.1),CX [Zry,Zrf,Zrz,Z5,Zja,Zyx]⟩
def Z2p:Gd:=GF Z2o func202
def Zhe:Fn:=⟨f203,λ |3=>cn_ [1,3,8,9,19,20,21,22]|4=>cn_ [1,3,8,9,11,19,20,21]|5=>cn_ [1,3,8,9,19,20,21]|6=>cn_ [1,3,8,9,19,20,21]|8=>cn_ [1,8,9,36,37,38]|9=>[.nest 44 Jk,.canon [1,8,9,36,37]]|10=>cn_ [1,8,9,36,37]|100003=>[.adoptC 9 6 Jb,.canon [1,3,8,9,19,20,21]]|100008=>[.adoptC 9 9 Jk,.canon [1,8,9,36,37]]|_=>[],λN=>Sig.of [vf_ Ja,vf_ Ji,vf_ Jd,vf_ Ja] [vt_ Jw] (λd=>Zip N d.1 d.2.1 d.2.2.1 d.2.2.2.1),CX [Z5,Zrx]⟩
def Zyy(ew:List Int)(ey:Int)(t9:Int)(ar:Int)(ce:Int)(ba:List Kc)(dK:List Int)(dW:List Kb):St:=⟨[(1,vV Ji ew),(3,vI ey),(8,vP 0 0),(9,vP 1 0),(19,vO 2),(20,vI t9),(21,vI ar)],[(0,.box [.val Ja (0:Int),.val Ja (0:Int),.val Ja (0:Int),.val Jp false,.nils,.nils,.nils,.nils,.nils,.nils]),(1,.box [.val Ja ce,.val Ja (0:Int),.val Ja (0:Int),.val Jp false,.own 3,.own 2,.own 4,.nils,.nils,.nils]),(2,.arr Ju ba),(3,.arr Ja dK),(4,.arr Jb dW)],5⟩
def Zwc(ew:List Int)(ey:Int)(t9:Int)(ce:Int)(ba:List Kc)(dK:List Int)(t22:Int)(gu:Bool)(gL:List Kb):St:=⟨[(1,vV Ji ew),(3,vI ey),(8,vP 0 0),(9,vP 1 0),(19,vO 2),(20,vI t9),(21,vI t22),(22,vB gu)],[(0,.box [.val Ja (0:Int),.val Ja (0:Int),.val Ja (0:Int),.val Jp false,.nils,.nils,.nils,.nils,.nils,.nils]),(1,.box [.val Ja ce,.val Ja (0:Int),.val Ja (0:Int),.val Jp false,.own 3,.own 2,.own 4,.nils,.nils,.nils]),(2,.arr Ju ba),(3,.arr Ja dK),(4,.arr Jb gL)],5⟩
theorem Zyz{ew:List Int}{ey:Int}{t9:Int}{ce:Int}{ba:List Kc}{dK:List Int}{K0:Int->Bool->Kq->Option R}(h0:K0= λt22 gu gL=>K (.exit 0) (Zwc ew ey t9 ce ba dK t22 gu gL))(n:Nat)(ar:Int)(dW:List Kb):Zcr N ew ey t9 ce ba dK K0 n ar dW=LM Zhe N 0 100003 n (Zyy ew ey t9 ar ce ba dK dW) K:=by
  subst h0
  induction n generalizing ar dW with
  |zero=>kernel_rfl
  |succ n ih=>rw[Zcr];simp only[ih];kernel_rfl
def Zy0(cQ:List Int)(lb:Int)(mB:Int)(ld:Int)(lg:List Int)(gd:List Kc)(cH:List Kb)(cA:List Y_KidRun):St:=⟨[(1,vV Ji cQ),(8,vP 0 0),(9,vP 1 0),(36,vI lb),(37,vI mB)],[(0,.box [.val Ja (0:Int),.val Ja (0:Int),.val Ja (0:Int),.val Jp false,.nils,.nils,.nils,.nils,.nils,.nils]),(1,.box [.val Ja ld,.val Ja (0:Int),.val Ja (0:Int),.val Jp false,.own 2,.own 3,.own 4,.nils,.nils,.own 5]),(2,.arr Ja lg),(3,.arr Ju gd),(4,.arr Jb cH),(5,.arr Jk cA)],6⟩
def Zwd(cQ:List Int)(lb:Int)(ld:Int)(lg:List Int)(gd:List Kc)(cH:List Kb)(t45:Int)(t46:Bool)(vH:List Y_KidRun):St:=⟨[(1,vV Ji cQ),(8,vP 0 0),(9,vP 1 0),(36,vI lb),(37,vI t45),(38,vB t46)],[(0,.box [.val Ja (0:Int),.val Ja (0:Int),.val Ja (0:Int),.val Jp false,.nils,.nils,.nils,.nils,.nils,.nils]),(1,.box [.val Ja ld,.val Ja (0:Int),.val Ja (0:Int),.val Jp false,.own 2,.own 3,.own 4,.nils,.nils,.own 5]),(2,.arr Ja lg),(3,.arr Ju gd),(4,.arr Jb cH),(5,.arr Jk vH)],6⟩
theorem Zy1{cQ:List Int}{lb:Int}{ld:Int}{lg:List Int}{gd:List Kc}{cH:List Kb}{K0:Int->Bool->(List Y_KidRun)->Option R}(h0:K0= λt45 t46 vH=>K (.exit 2) (Zwd cQ lb ld lg gd cH t45 t46 vH))(n:Nat)(mB:Int)(cA:List Y_KidRun):Zay N cQ lb ld lg gd cH K0 n mB cA=LM Zhe N 1 100008 n (Zy0 cQ lb mB ld lg gd cH cA) K:=by
  subst h0
  induction n generalizing mB cA with
  |zero=>kernel_rfl
  |succ n ih=>rw[Zay];simp only[ih];kernel_rfl
theorem Zaa7(jR:Int)(ao:List Int)(cg:List Kc)(dw:Int):DN Zhe N (jR,ao,cg,dw,())=Zip N jR ao cg dw:=by
  conv=>rhs;rw[Zip];simp(disch:=exact id (by kernel_rfl)) only[Zyz (R:=Unit×(Y_Family×Unit)) N (CF Zhe N [1,1,0,1,0]),Zy1 (R:=Unit×(Y_Family×Unit)) N (CF Zhe N [1,1,1,0,1,0])]
  kernel_rfl
def Zaa8:Gd:=GF Zhe func203 (λN d=>Zaa7 N d.1 d.2.1 d.2.2.1 d.2.2.2.1)
def Z8i:Fn:=⟨f268,Wu,λN=>Sig.of [vt_ Jq] [vf_ Ja,vf_ Ja] (λd=>Zm5 N d.1),CX [Zqy]⟩
def Z8j:Gd:=GF Z8i func268
def Z8k:Fn:=⟨f213,Wu,λN=>Sig.of [vf_ Jn] [vf_ Jak] (λd=>Zfu N d.1),WR⟩
def Zsk:Gd:=GN Z8k func213
def Zpa:Fn:=⟨f309,λ |5=>cn_ [1,2,3,9,21,22,23,24]|6=>cn_ [1,2,3,9,11,21,22,23]|7=>cn_ [1,2,3,9,11,21,22,23,45]|8=>cn_ [1,2,3,9,21,22,23]|9=>cn_ [1,2,3,9,21,22,23]|100005=>cn_ [1,2,3,9,21,22,23]|_=>[],λN=>Sig.of [vf_ Jn,vf_ Ja,vf_ Ja,vf_ Ja] [vf_ Jah] (λd=>Zk8 N d.1 d.2.1 d.2.2.1 d.2.2.2.1),CX [Znw,Z1]⟩
def Z5y(eC:Int)(cL:Int)(cM:Int)(ar:List Kb)(ax:Int)(aG:List Int):St:=⟨[(1,vI eC),(2,vI cL),(3,vI cM),(9,vO 0),(21,vV Jn ar),(22,vI (Wg ar)),(23,vI ax)],[(0,.arr Ja aG)],1⟩
def Z2q(eC:Int)(cL:Int)(cM:Int)(ar:List Kb)(dL:Int)(cw:Bool)(bG:List Int):St:=⟨[(1,vI eC),(2,vI cL),(3,vI cM),(9,vO 0),(21,vV Jn ar),(22,vI (Wg ar)),(23,vI dL),(24,vB cw)],[(0,.arr Ja bG)],1⟩
theorem Z5z{eC:Int}{cL:Int}{cM:Int}{ar:List Kb}{K0:Int->Bool->Kj->Option R}(h0:K0= λdL cw bG=>K (.exit 0) (Z2q eC cL cM ar dL cw bG))(n:Nat)(ax:Int)(aG:List Int):Zap N eC cL cM ar K0 n ax aG=LM Zpa N 0 100005 n (Z5y eC cL cM ar ax aG) K:=by
  subst h0
  induction n generalizing ax aG with
  |zero=>kernel_rfl
  |succ n ih=>rw[Zap];simp only[ih];kernel_rfl
theorem Zagu(l1:List Kb)(aK:Int)(aL:Int)(aY:Int):DN Zpa N (l1,aK,aL,aY,())=Zk8 N l1 aK aL aY:=by
  conv=>rhs;rw[Zk8];simp(disch:=exact id (by kernel_rfl)) only[Z5z (R:=Unit×Kad) N (CF Zpa N [1,1,1,0,1,0])]
  kernel_rfl
def Zagv:Gd:=GF Zpa func309 (λN d=>Zagu N d.1 d.2.1 d.2.2.1 d.2.2.2.1)
def Za4(N:Nat):Sig:=Sig.of [.mut Jb,.clos 289 0] [] (λd=>Zp N d.1)
theorem Zgk:Wwr Tryz.prog 289 Jb WvU cfH:=by
  intro G x y us vs w hx hy h1 h2;obtain⟨_,_,rfl,a1,_,_,rfl,a2,a3⟩:=h1;obtain⟨_,_,rfl,b1,_,_,rfl,b2,b3⟩:=h2;simp only[Enc]at a1 a2 a3 b1 b2 b3;subst a1 a2 a3 b1 b2 b3;simp only[Xbd,Xbe];unfold WvU at hx hy;simp only[Bool.and_eq_true]at hx hy
  go_enter Tryz.func289,Tryz.ntmps289
  go_wp2
  rw[WsH (a:=x.2.1) (b:=y.2.1),Result.andThen_ok];rw[Wv3 (a:=x.2.1) (b:=y.2.1),Result.andThen_ok];rcases hb:(bne (α:=Int) x.2.1 y.2.1)with _|_
  . go_wp2
    rw[WoQ (Wg6 hx.1) (Wg6 hy.1) (Wxf hb)]
    go_wp2
    go_ret
    exact⟨rfl,Wlo _ _ _⟩
  . go_wp2
    rw[WoQ (Wg6 hx.2) (Wg6 hy.2) (Wxc hb)]
    go_wp2
    go_ret
    exact⟨rfl,Wlo _ _ _⟩
theorem Zgl(N:Nat):GW 310 (Za4 N):=⟨Wee Tryz.func310 (show WoI Tryz.f310=true by kernel_rfl),Wla sortFH (e:=.prod Ja Ju) rfl (by decide) Tryz.isAgg134 Tryz.sizeOf134 (enters_of Tryz.func289 (by kernel_rfl) rfl) Wx5 Zgk N⟩
def Zgm:Gd:=⟨310,Za4,Zgl⟩
def Znz:Fn:=⟨f269,λ |5=>cn_ [1,2,3,10,35,36,37,38]|6=>cn_ [1,2,3,10,11,12,35,36,37]|7=>cn_ [1,2,3,10,11,12,35,36,37,51]|8=>cn_ [10]|9=>cn_ [8,9]|10=>cn_ [1,2,3,10,35,36,37]|100005=>cn_ [1,2,3,10,35,36,37]|_=>[],λN=>Sig.of [vf_ Jn,vf_ Ja,vf_ Ja,vf_ Ja] [vf_ Jak,vf_ Jp] (λd=>Zjo N d.1 d.2.1 d.2.2.1 d.2.2.2.1),CX [Zsk,Znw,Zvn,Zagv,Zgm]⟩
def Z2r(eO:Int)(cb:Int)(cd:Int)(ax:Int)(be:Int)(bd:List Kb):St:=⟨[(1,vI eO),(2,vI cb),(3,vI cd),(10,vO 0),(35,vO 0),(36,vI ax),(37,vI be)],[(0,.arr Jb bd)],1⟩
def Zy2(eO:Int)(cb:Int)(cd:Int)(ax:Int)(bd:List Kb)(aQ:List Kb):St:=⟨[(8,vO 0),(9,vB true)],[(0,.arr Jb aQ)],1⟩
def Zy3(eO:Int)(cb:Int)(cd:Int)(ax:Int)(bd:List Kb)(gr:Int)(ga:Bool):St:=⟨[(1,vI eO),(2,vI cb),(3,vI cd),(10,vO 0),(35,vO 0),(36,vI ax),(37,vI gr),(38,vB ga)],[(0,.arr Jb bd)],1⟩
theorem Z2s{eO:Int}{cb:Int}{cd:Int}{ax:Int}{bd:List Kb}{K0:Kq->Option R}{K1:Int->Bool->Option R}(h0:K0= λaQ=>K .ret (Zy2 eO cb cd ax bd aQ))(h1:K1= λgr ga=>K (.exit 0) (Zy3 eO cb cd ax bd gr ga))(n:Nat)(be:Int):Zb4 N eO cb cd ax bd K0 K1 n be=LM Znz N 0 100005 n (Z2r eO cb cd ax be bd) K:=by
  subst h0 h1
  induction n generalizing be with
  |zero=>kernel_rfl
  |succ n ih=>rw[Zb4];simp only[ih];kernel_rfl
theorem Zad4(l1:List Kb)(aK:Int)(aL:Int)(aY:Int):DN Znz N (l1,aK,aL,aY,())=Zjo N l1 aK aL aY:=by
  conv=>rhs;rw[Zjo];simp(disch:=exact id (by kernel_rfl)) only[Z2s (R:=Unit×(Kq×Ko)) N (CF Znz N [1,1,1,0,1,0])]
  kernel_rfl
def Zad5:Gd:=GF Znz func269 (λN d=>Zad4 N d.1 d.2.1 d.2.2.1 d.2.2.2.1)
def Zagw:Fn:=⟨f311,Wu,λN=>Sig.of [vf_ Ja,vf_ Ja] [vt_ Jb] (λd=>Zoa N d.1 d.2.1),WR⟩
def Zagx:Gd:=GN Zagw func311
def Zad6:Fn:=⟨f270,Wu,λN=>Sig.of [vt_ Jag,vt_ Jq,vf_ Ji] [vt_ Jaq,vf_ Jah,vt_ Jb,vf_ Jp] (λd=>Zpm N d.1 d.2.1 d.2.2.1),CX [Zsj,Z5,Ztq,Zik,Ztm,Zrc,Zagx,Zrb,Zs3]⟩
def Zad7:Gd:=GF Zad6 func270
def Z2t:Fn:=⟨f204,λ |1=>[.opn 20]|_=>[],λN=>Sig.of [.box Jo,vf_ Ja,vt_ Jq] [] (λd=>Zij N d.1 d.2.1 d.2.2.1),CX [Z8j,Zad5,Zqf,Zad7]⟩
def Z2u:Gd:=GF Z2t func204
def Zy4:Fn:=⟨f140,Wu,λN=>Sig.of [.rp (TY_Root)] [.vj Jq] (λd=>Ze0 N d.1),WR⟩
def Zrg:Gd:=GN Zy4 func140
def Zaja:Fn:=⟨f205,Wu,λN=>Sig.of [vt_ Jq,vf_ Ji] [vf_ Jah,vf_ Jp] (λd=>Zqc N d.1 d.2.1),CX [Z5,Zqy,Zik]⟩
def Z3y:Gd:=GF Zaja func205
def Z8l:Fn:=⟨f138,λ |1=>[.opn 14]|26=>[.nest 170 Jap]|_=>[],λN=>Sig.of [.box Jo,vf_ Ja,vt_ Jaj] [] (λd=>Zkg N d.1 d.2.1 d.2.2.1),CX [Zry,Z5u,Z2p,Zaa8,Z2u,Z5,Zrg,Z3y]⟩
def Z8m:Gd:=GF Z8l func138
def Z8n:Fn:=⟨f272,Wu,λN=>Sig.of [vt_ (TY_KidRun)] [vf_ Jp] (λd=>Zq4 N d.1),WR⟩
def Z8o:Gd:=GN Z8n func272
def Zv:Fn:=⟨f312,λ |2=>cn_ [0,1,7,8,9]|3=>cn_ [0,1,5,7,8]|4=>cn_ [0,1,5,7,8,16]|5=>cn_ [1,4]|6=>cn_ [0,1,7,8]|100002=>cn_ [0,1,7,8]|_=>[],λN=>Sig.of [vf_ Jae,.clos 272 0] [vf_ Ja] (λd=>Zo N d.1),CX [Z8o]⟩
def Zev(s2:List Y_KidRun)(t4:Int):St:=⟨[(0,vV Jae s2),(1,.s (.one (.clos 272 []))),(7,vI (Wg s2)),(8,vI t4)],[],0⟩
def Zep(s2:List Y_KidRun)(t7:Int):St:=⟨[(1,.s (.one (.clos 272 []))),(4,vI t7)],[],0⟩
def Zeq(s2:List Y_KidRun)(t8:Int)(t9:Bool):St:=⟨[(0,vV Jae s2),(1,.s (.one (.clos 272 []))),(7,vI (Wg s2)),(8,vI t8),(9,vB t9)],[],0⟩
theorem Zew{s2:List Y_KidRun}{K0:Int->Option R}{K1:Int->Bool->Option R}(h0:K0= λt7=>K .ret (Zep s2 t7))(h1:K1= λt8 t9=>K (.exit 0) (Zeq s2 t8 t9))(n:Nat)(t4:Int):Zd N s2 K0 K1 n t4=LM Zv N 0 100002 n (Zev s2 t4) K:=by
  subst h0 h1
  induction n generalizing t4 with
  |zero=>kernel_rfl
  |succ n ih=>rw[Zd];simp only[ih];kernel_rfl
theorem Zgh(s1:List Y_KidRun):DN Zv N (s1,())=Zo N s1:=by
  conv=>rhs;rw[Zo];simp(disch:=exact id (by kernel_rfl)) only[Zew (R:=Unit×Kh) N (CF Zv N [1,0,1,0])]
  kernel_rfl
def Zgi:Gd:=GF Zv func312 (λN d=>Zgh N d.1)
def Ze3:Fn:=⟨f271,Wu,λN=>Sig.of [vf_ Jae,.clos 272 0] [vf_ Jp] (λd=>Z7 N d.1),CX [Zgi]⟩
def Ze4:Gd:=GF Ze3 func271
def Zad8:Fn:=⟨f206,Wu,λN=>Sig.of [vt_ (TY_Family)] [vf_ Jp] (λd=>Zpn N d.1),CX [Ze4]⟩
def Zad9:Gd:=GF Zad8 func206
def Zn0:Fn:=⟨f207,λ |5=>cn_ [3,20,21,22,23]|6=>cn_ [3,4,5,20,21,22]|7=>cn_ [3,4,5,20,21,22]|8=>cn_ [3,4,5,20,21,22,37]|9=>cn_ [3,20,21,22]|10=>cn_ [3,20,21,22]|100005=>cn_ [3,20,21,22]|_=>[],λN=>Sig.of [vt_ (TY_Family)] [vf_ Jah] (λd=>Zjp N d.1),CX [Zik,Z5]⟩
def Z2v(t4:List Y_KidRun)(t5:Int)(t6:Int)(l7:List Int):St:=⟨[(3,vO 0),(20,vV Jae t4),(21,vI t5),(22,vI t6)],[(0,.arr Ja l7)],1⟩
def Zy5(t4:List Y_KidRun)(t5:Int)(ar:Int)(aq:Bool)(bJ:List Int):St:=⟨[(3,vO 0),(20,vV Jae t4),(21,vI t5),(22,vI ar),(23,vB aq)],[(0,.arr Ja bJ)],1⟩
theorem Z2w{t4:List Y_KidRun}{t5:Int}{K0:Int->Bool->Kj->Option R}(h0:K0= λar aq bJ=>K (.exit 0) (Zy5 t4 t5 ar aq bJ))(n:Nat)(t6:Int)(l7:List Int):Zba N t4 t5 K0 n t6 l7=LM Zn0 N 0 100005 n (Z2v t4 t5 t6 l7) K:=by
  subst h0
  induction n generalizing t6 l7 with
  |zero=>kernel_rfl
  |succ n ih=>rw[Zba];simp only[ih];kernel_rfl
theorem Zaea(f1:Y_Family):DN Zn0 N (f1,())=Zjp N f1:=by
  conv=>rhs;rw[Zjp];simp(disch:=exact id (by kernel_rfl)) only[Z2w (R:=Unit×Kad) N (CF Zn0 N [1,1,1,0,1,0])]
  kernel_rfl
def Zaeb:Gd:=GF Zn0 func207 (λN d=>Zaea N d.1)
def Zn1:Fn:=⟨f208,λ |3=>cn_ [3,8,9,10,11]|4=>cn_ [3,5,8,9,10]|5=>cn_ [3,8,9,10]|6=>cn_ [3,8,9,10]|100003=>cn_ [3,8,9,10]|_=>[],λN=>Sig.of [vt_ (TY_Family)] [vf_ Jc] (λd=>Zjq N d.1),WR⟩
def Z2x(t2:List Kb)(t3:Int)(t4:Int)(l5:List Kc):St:=⟨[(3,vO 0),(8,vV Jn t2),(9,vI t3),(10,vI t4)],[(0,.arr Ju l5)],1⟩
def Zy6(t2:List Kb)(t3:Int)(t6:Int)(t7:Bool)(l8:List Kc):St:=⟨[(3,vO 0),(8,vV Jn t2),(9,vI t3),(10,vI t6),(11,vB t7)],[(0,.arr Ju l8)],1⟩
theorem Z2y{t2:List Kb}{t3:Int}{K0:Int->Bool->Kv->Option R}(h0:K0= λt6 t7 l8=>K (.exit 0) (Zy6 t2 t3 t6 t7 l8))(n:Nat)(t4:Int)(l5:List Kc):Zda N t2 t3 K0 n t4 l5=LM Zn1 N 0 100003 n (Z2x t2 t3 t4 l5) K:=by
  subst h0
  induction n generalizing t4 l5 with
  |zero=>kernel_rfl
  |succ n ih=>rw[Zda];simp only[ih];kernel_rfl
theorem Zaec(f1:Y_Family):DN Zn1 N (f1,())=Zjq N f1:=by
  conv=>rhs;rw[Zjq];simp(disch:=exact id (by kernel_rfl)) only[Z2y (R:=Unit×Kae) N (CF Zn1 N [1,1,0,1,0])]
  kernel_rfl
def Zaed:Gd:=GN Zn1 func208 (λN d=>Zaec N d.1)
def Z8p:Fn:=⟨f139,Wu,λN=>Sig.of [.box Jj] [] (λd=>Zkh N d.1),CX [Zil,Zad9,Zaeb,Zaed,Z5]⟩
def Z8q:Gd:=GF Z8p func139
def Zy7:Fn:=⟨f142,λ |2=>[.shut 1 15]|11=>[.shut 1 15]|1000000=>[.unfE 1]|_=>[],λN=>Sig.of [.boxal Jo 3] [] (λd=>Zhn N d.1 d.2.1),CX [Zrf,Zil,Zja,Z5]⟩
def Zy8:Gd:=GF Zy7 func142
def Z50:Fn:=⟨f277,Wu,λN=>Sig.of [vt_ Jl] [vt_ Jr] (λd=>Zi8 N d.1),CX [Zja,Z5]⟩
def Zr0:Gd:=GF Z50 func277
def Zwe:Fn:=⟨f313,Wu,λN=>Sig.of [vt_ Jl] [vf_ Ja] (λd=>Zd1 N d.1),WR⟩
def Zqg:Gd:=GN Zwe func313
def Zhf:Fn:=⟨f278,λ |4=>cn_ [1,3,38]|5=>cn_ [1,3]|6=>cn_ [1,3,54]|7=>cn_ [2]|9=>cn_ [1,56,57,58,59]|10=>cn_ [1,4,5,56,57,58]|11=>cn_ [1,56,57,58,79]|12=>cn_ [2]|13=>cn_ [1,56,57,58]|100004=>cn_ [1,3]|100009=>cn_ [1,56,57,58]|_=>[],λN=>Sig.of [vt_ Jl] [vf_ Jp] (λd=>Zgu N d.1),CX [Zkn,Z1,Zo9,Zet,Zqg]⟩
def Zy9(i7:Int)(b8:Int×Int×Int×Int×Int×List Kc×List Int):St:=⟨[(1,vP 0 0),(3,vI i7)],[(0,.box (split Jl b8))],1⟩
def Zwf(b8:Int×Int×Int×Int×Int×List Kc×List Int):St:=⟨[(2,vB false)],[],0⟩
def Zwg(b8:Int×Int×Int×Int×Int×List Kc×List Int)(i9:Int)(ar:Bool):St:=⟨[(1,vP 0 0),(3,vI i9),(38,vB ar)],[(0,.box (split Jl b8))],1⟩
theorem Zza{b8:Int×Int×Int×Int×Int×List Kc×List Int}{K0:Option R}{K1:Int->Bool->Option R}(h0:K0=K .ret (Zwf b8))(h1:K1= λi9 ar=>K (.exit 0) (Zwg b8 i9 ar))(n:Nat)(i7:Int):Zbn N b8 K0 K1 n i7=LM Zhf N 0 100004 n (Zy9 i7 b8) K:=by
  subst h0 h1
  induction n generalizing i7 with
  |zero=>kernel_rfl
  |succ n ih=>rw[Zbn];simp only[ih];kernel_rfl
def Zzb(be:List Int)(cw:Int)(bF:Int×Int×Int×Int×Int×List Kc×List Int):St:=⟨[(1,vP 0 0),(56,vV Ji be),(57,vI (Wg bF.2.2.2.2.2.2)),(58,vI cw)],[(0,.box (split Jl bF))],1⟩
def Zwh(be:List Int)(bF:Int×Int×Int×Int×Int×List Kc×List Int):St:=⟨[(2,vB false)],[],0⟩
def Zwi(be:List Int)(bF:Int×Int×Int×Int×Int×List Kc×List Int)(iH:Int)(pY:Bool):St:=⟨[(1,vP 0 0),(56,vV Ji be),(57,vI (Wg bF.2.2.2.2.2.2)),(58,vI iH),(59,vB pY)],[(0,.box (split Jl bF))],1⟩
theorem Zzc{be:List Int}{bF:Int×Int×Int×Int×Int×List Kc×List Int}{K0:Option R}{K1:Int->Bool->Option R}(h0:K0=K .ret (Zwh be bF))(h1:K1= λiH pY=>K (.exit 2) (Zwi be bF iH pY))(n:Nat)(cw:Int):Zaz N be bF K0 K1 n cw=LM Zhf N 1 100009 n (Zzb be cw bF) K:=by
  subst h0 h1
  induction n generalizing cw with
  |zero=>kernel_rfl
  |succ n ih=>rw[Zaz];simp only[ih];kernel_rfl
theorem Zaa9(c1:Int×Int×Int×Int×Int×List Kc×List Int):DN Zhf N (c1,())=Zgu N c1:=by
  conv=>rhs;rw[Zgu];simp(disch:=exact id (by kernel_rfl)) only[Zza (R:=Unit×Ko) N (CF Zhf N [1,1,0,1,0]),Zzc (R:=Unit×Ko) N (CF Zhf N [1,1,1,0,1,0])]
  kernel_rfl
def Zs4:Gd:=GF Zhf func278 (λN d=>Zaa9 N d.1)
def Ztr:Fn:=⟨f279,Wu,λN=>Sig.of [.box Jr,vf_ Ja] [] (λd=>Zw N d.1 d.2.1),WR⟩
def Zph:Gd:=GN Ztr func279
def Z2z:Fn:=⟨f211,Wu,λN=>Sig.of [vt_ Jl] [vt_ Jr,vf_ Jp] (λd=>Zlj N d.1),CX [Zr0,Zs4,Zph]⟩
def Z20:Gd:=GF Z2z func211
def Zaee:Fn:=⟨f280,Wu,λN=>Sig.of [vt_ Jaf] [vt_ Jz] (λd=>Zcl N d.1),WR⟩
def Zko:Gd:=GN Zaee func280
def Zajb:Fn:=⟨f282,Wu,λN=>Sig.of [vt_ Jaf,vf_ Ja,vf_ Ja] [vt_ Jz,vf_ Jp] (λd=>Zqd N d.1 d.2.1 d.2.2.1),CX [Zko,Zj6,Zet,Zkn]⟩
def Zajc:Gd:=GF Zajb func282
def Zui:Fn:=⟨f285,Wu,λN=>Sig.of [.box Jr,vf_ Ja] [] (λd=>Zf9 N d.1 d.2.1),WR⟩
def Zp6:Gd:=GN Zui func285
def Z21:Fn:=⟨f283,Wu,λN=>Sig.of [.box Jr,vf_ Ja] [] (λd=>Zbb N d.1 d.2.1),CX [Zqg,Zp6]⟩
def Z22:Gd:=GF Z21 func283
def Zajd:Fn:=⟨f284,Wu,λN=>Sig.of [vt_ Jaf] [vt_ Jz,vf_ Ja] (λd=>Zsd N d.1),CX [Zko,Zj6]⟩
def Zaje:Gd:=GF Zajd func284
def Zaig:Fn:=⟨f286,Wu,λN=>Sig.of [vt_ Jaf,vf_ Ja,vf_ Ja,vf_ Ja] [vt_ Jz,vf_ Jp] (λd=>Zrm N d.1 d.2.1 d.2.2.1 d.2.2.2.1),CX [Zko,Zj6,Zet,Zkn,Zbj]⟩
def Zaih:Gd:=GF Zaig func286
def Zagy:Fn:=⟨f287,Wu,λN=>Sig.of [vt_ Jaf,vf_ Ja,vf_ Ja,vf_ Ja] [vt_ Jz,vf_ Jp] (λd=>Zob N d.1 d.2.1 d.2.2.1 d.2.2.2.1),CX [Zko,Zj6,Zet,Zkn,Z1]⟩
def Zagz:Gd:=GF Zagy func287
def Z51:Fn:=⟨f212,Wu,λN=>Sig.of [vt_ Jaf,vt_ Jl] [vt_ Jz,vt_ Jr] (λd=>Zmc N d.1 d.2.1),CX [Zko,Zr0,Zj6,Zs4,Zajc,Z22,Zph,Zaje,Zp6,Zaih,Zagz]⟩
def Z52:Gd:=GF Z51 func212
def Zzd:Fn:=⟨f143,λ |0=>[.opn 13]|11=>[.nest 85 Jab]|_=>[],λN=>Sig.of [.box Jo,vf_ Ja] [] (λd=>Zho N d.1 d.2.1),CX [Z20,Zil,Z52,Zja]⟩
def Zze:Gd:=GF Zzd func143
def Z53:Fn:=⟨f216,Wu,λN=>Sig.of [vt_ Jb,.box Ja] [vf_ Jp] (λd=>Zha N d.1 d.2.1),WR⟩
def Zr1:Gd:=GN Z53 func216
def Zz:Fn:=⟨f290,λ |2=>cn_ [0,1,7,8,9]|3=>cn_ [0,1,5,7,8]|4=>cn_ [0,1,5,7,8,16]|5=>cn_ [1,4]|6=>cn_ [0,1,7,8]|100002=>cn_ [0,1,7,8]|_=>[],λN=>Sig.of [vf_ Jn,.clos 216 1,.box Ja] [vf_ Ja] (λd=>Zr N d.1 d.2.1),CX [Zr1]⟩
def Zf1(s3:List Kb)(t5:Int)(b6:Int):St:=⟨[(0,vV Jn s3),(1,.s (.one (.clos 216 [0]))),(7,vI (Wg s3)),(8,vI t5)],[(0,.box [.val Ja b6])],1⟩
def Zfc(s3:List Kb)(t9:Int)(aP:Int):St:=⟨[(1,.s (.one (.clos 216 [0]))),(4,vI t9)],[(0,.box [.val Ja aP])],1⟩
def Zfd(s3:List Kb)(aq:Int)(ax:Bool)(bA:Int):St:=⟨[(0,vV Jn s3),(1,.s (.one (.clos 216 [0]))),(7,vI (Wg s3)),(8,vI aq),(9,vB ax)],[(0,.box [.val Ja bA])],1⟩
theorem Zf2{s3:List Kb}{K0:Int->Int->Option R}{K1:Int->Bool->Int->Option R}(h0:K0= λt9 aP=>K .ret (Zfc s3 t9 aP))(h1:K1= λaq ax bA=>K (.exit 0) (Zfd s3 aq ax bA))(n:Nat)(t5:Int)(b6:Int):Ze N s3 K0 K1 n t5 b6=LM Zz N 0 100002 n (Zf1 s3 t5 b6) K:=by
  subst h0 h1
  induction n generalizing t5 b6 with
  |zero=>kernel_rfl
  |succ n ih=>rw[Ze];simp only[ih];kernel_rfl
theorem Zg4(s1:List Kb)(eB:Int):DN Zz N (s1,eB,())=Zr N s1 eB:=by
  conv=>rhs;rw[Zr];simp(disch:=exact id (by kernel_rfl)) only[Zf2 (R:=Kh×Kh) N (CF Zz N [1,0,1,0])]
  kernel_rfl
def Zg5:Gd:=GF Zz func290 (λN d=>Zg4 N d.1 d.2.1)
def Zx:Fn:=⟨f215,λ |5=>cn_ [0,1,5,6,19]|6=>cn_ [0,1,5,6]|7=>cn_ [0,1,5,6,7]|8=>cn_ [0,1,5,6,7,29]|9=>cn_ [0,1,5,6]|10=>cn_ [0,1,5,6]|11=>[.view 38]|100005=>cn_ [0,1,5,6]|_=>[],λN=>Sig.of [vf_ Jak,.clos 216 1,.box Ja] [vf_ Jak] (λd=>Zm N d.1 d.2.1),CX [Zg5,Zr1]⟩
def Zfe(i4:Int)(j5:Int)(l6:List Kb)(b7:Int):St:=⟨[(0,vO 0),(1,.s (.one (.clos 216 [1]))),(5,vI i4),(6,vI j5)],[(0,.arr Jb l6),(1,.box [.val Ja b7])],2⟩
def Ze5(i9:Int)(vJ:Int)(aq:Bool)(bJ:List Kb)(bA:Int):St:=⟨[(0,vO 0),(1,.s (.one (.clos 216 [1]))),(5,vI i9),(6,vI vJ),(19,vB aq)],[(0,.arr Jb bJ),(1,.box [.val Ja bA])],2⟩
theorem Zff{K0:Int->Int->Bool->Kq->Int->Option R}(h0:K0= λi9 vJ aq bJ bA=>K (.exit 0) (Ze5 i9 vJ aq bJ bA))(n:Nat)(i4:Int)(j5:Int)(l6:List Kb)(b7:Int):Za N K0 n i4 j5 l6 b7=LM Zx N 0 100005 n (Zfe i4 j5 l6 b7) K:=by
  subst h0
  induction n generalizing i4 j5 l6 b7 with
  |zero=>kernel_rfl
  |succ n ih=>rw[Za];simp only[ih];kernel_rfl
theorem Zgn(s1:List Kb)(eB:Int):DN Zx N (s1,eB,())=Zm N s1 eB:=by
  conv=>rhs;rw[Zm];simp(disch:=exact id (by kernel_rfl)) only[Zff (R:=Kh×Kaa) N (CF Zx N [1,1,1,0,1,0])]
  kernel_rfl
def Zgo:Gd:=GF Zx func215 (λN d=>Zgn N d.1 d.2.1)
def Zaba:Fn:=⟨f144,Wu,λN=>Sig.of [vf_ Jn,vf_ Ja] [vf_ Jak] (λd=>Zoj N d.1 d.2.1),CX [Zsk,Znw,Zgo]⟩
def Zabb:Gd:=GF Zaba func144
def Z54:Fn:=⟨f73,λ |1=>[.opn 12]|_=>[],λN=>Sig.of [.box Jo,vf_ Ja,vt_ Jaj] [] (λd=>Zi9 N d.1 d.2.1 d.2.2.1),CX [Z1,Zil,Z5o,Z8m,Z8q,Zrg,Zrz,Zy8,Zze,Zabb,Zsh]⟩
def Z55:Gd:=GF Z54 func73
def Zuj:Fn:=⟨f223,Wu,λN=>Sig.of [vt_ Jb,.box Ja] [vf_ Jp] (λd=>Zmt N d.1 d.2.1),WR⟩
def Zuk:Gd:=GN Zuj func223
def Zs:Fn:=⟨f222,λ |2=>cn_ [0,1,7,8,9]|3=>cn_ [0,1,5,7,8]|4=>cn_ [0,1,5,7,8,16]|5=>cn_ [1,4]|6=>cn_ [0,1,7,8]|100002=>cn_ [0,1,7,8]|_=>[],λN=>Sig.of [vf_ Jn,.clos 223 1,.box Ja] [vf_ Ja] (λd=>Zj N d.1 d.2.1),CX [Zuk]⟩
def Zd4(s3:List Kb)(t5:Int)(b6:Int):St:=⟨[(0,vV Jn s3),(1,.s (.one (.clos 223 [0]))),(7,vI (Wg s3)),(8,vI t5)],[(0,.box [.val Ja b6])],1⟩
def Zdw(s3:List Kb)(t9:Int)(aP:Int):St:=⟨[(1,.s (.one (.clos 223 [0]))),(4,vI t9)],[(0,.box [.val Ja aP])],1⟩
def Zdx(s3:List Kb)(aq:Int)(ax:Bool)(bA:Int):St:=⟨[(0,vV Jn s3),(1,.s (.one (.clos 223 [0]))),(7,vI (Wg s3)),(8,vI aq),(9,vB ax)],[(0,.box [.val Ja bA])],1⟩
theorem Zd5{s3:List Kb}{K0:Int->Int->Option R}{K1:Int->Bool->Int->Option R}(h0:K0= λt9 aP=>K .ret (Zdw s3 t9 aP))(h1:K1= λaq ax bA=>K (.exit 0) (Zdx s3 aq ax bA))(n:Nat)(t5:Int)(b6:Int):Zc N s3 K0 K1 n t5 b6=LM Zs N 0 100002 n (Zd4 s3 t5 b6) K:=by
  subst h0 h1
  induction n generalizing t5 b6 with
  |zero=>kernel_rfl
  |succ n ih=>rw[Zc];simp only[ih];kernel_rfl
theorem Ze6(s1:List Kb)(eB:Int):DN Zs N (s1,eB,())=Zj N s1 eB:=by
  conv=>rhs;rw[Zj];simp(disch:=exact id (by kernel_rfl)) only[Zd5 (R:=Kh×Kh) N (CF Zs N [1,0,1,0])]
  kernel_rfl
def Ze7:Gd:=GF Zs func222 (λN d=>Ze6 N d.1 d.2.1)
def Zzf:Fn:=⟨f148,Wu,λN=>Sig.of [.rp (TY_Family),vf_ Ja] [vf_ Ja] (λd=>Zcs N d.1 d.2.1),CX [Ze7]⟩
def Zm3:Gd:=GF Zzf func148
def Zul:Fn:=⟨f149,Wu,λN=>Sig.of [.box Jw,vf_ Ja] [] (λd=>Za1 N d.1 d.2.1),CX [Z5]⟩
def Zp7:Gd:=GF Zul func149
def Z23:Fn:=⟨f217,λ |1=>[.opn 18]|_=>[],λN=>Sig.of [.box Jw,vf_ Ja,vt_ Jq,vt_ Jaf] [] (λd=>Zld N d.1 d.2.1 d.2.2.1 d.2.2.2.1),CX [Zsq,Zm3,Zp7,Zs2,Zsi]⟩
def Z24:Gd:=GF Z23 func217
def Zzg:Fn:=⟨f218,λ |5=>[.opn 28]|_=>[],λN=>Sig.of [.box Jk,vf_ Jg] [] (λd=>Zkp N d.1 d.2.1),CX [Z5,Zja,Zyx]⟩
def Zzh:Gd:=GF Zzg func218
def Z56:Fn:=⟨f146,λ |1=>[.opn 16]|18=>[.nest 128 Je]|_=>[],λN=>Sig.of [.box Jw,vf_ Ja,vf_ Jg,vt_ Jaf] [] (λd=>Zl9 N d.1 d.2.1 d.2.2.1 d.2.2.2.1),CX [Z24,Zzh,Z5,Z3y]⟩
def Z57:Gd:=GF Z56 func146
def Zau(N:Nat):Sig:=Sig.of [.mut Jb,.clos 221 0] [] (λd=>Z9 N d.1)
theorem Zfg:Wwr Tryz.prog 221 Jb Ww5 cfE:=by
  intro G x y us vs w hx hy h1 h2;obtain⟨_,_,rfl,a1,_,_,rfl,a2,a3⟩:=h1;obtain⟨_,_,rfl,b1,_,_,rfl,b2,b3⟩:=h2;simp only[Enc]at a1 a2 a3 b1 b2 b3;subst a1 a2 a3 b1 b2 b3;simp only[Xbd,Xbe]
  go_enter Tryz.func221,Tryz.ntmps221
  go_wp2
  rw[WoQ (Wg6 hx) (Wg6 hy) (c:=cfE x y) rfl]
  go_wp2
  go_ret
  exact⟨rfl,Wlo _ _ _⟩
theorem Zfh(N:Nat):GW 220 (Zau N):=⟨Wee Tryz.func220 (show WoI Tryz.f220=true by kernel_rfl),Wla sortFE (e:=.prod Ja Ju) rfl (by decide) Tryz.isAgg168 Tryz.sizeOf168 (enters_of Tryz.func221 (by kernel_rfl) rfl) Wx3 Zfg N⟩
def Zfi:Gd:=⟨220,Zau,Zfh⟩
def Zc2:Fn:=⟨f147,λ |0=>[.opn 16]|3=>cn_ [0,1,4,28,29,30,31]|4=>cn_ [0,1,4,6,28,29,30]|5=>cn_ [0,1,4,6,7,28,29,30]|6=>cn_ [0,1,4,7,8,28,29,30]|7=>cn_ [0,1,4,7,8,28,29,30,48]|8=>cn_ [0,1,4,28,29,30]|9=>cn_ [0,1,4,28,29,30]|10=>cn_ [0,1,4,28,29,30]|13=>cn_ [0,1,4,75,76,77,78]|14=>cn_ [0,1,4,10,75,76,77]|15=>cn_ [0,1,4,10,75,76,77,83]|16=>cn_ [0,1,4,75,76,77]|17=>cn_ [0,1,4,75,76,77]|100003=>cn_ [0,1,4,28,29,30]|100013=>cn_ [0,1,4,75,76,77]|_=>[],λN=>Sig.of [.box Jw,vf_ Ja] [] (λd=>Zex N d.1 d.2.1),CX [Zrx,Zm3,Zfi]⟩
def Zs6(k4:Int)(t5:Int)(t6:Int)(b7:Int)(b8:Int)(b9:Int)(aP:Bool)(bk:Int)(bK:Int)(bA:Int)(dz:Int)(ce:Int)(bF:Int)(je:Bool)(cp:Int)(eK:Int)(jf:Int)(dm:Int)(cU:List Kc)(fG:List Int)(gL:List Kc)(iv:List Kb)(jg:List Int)(dt:List Kc)(fj:List Y_KidRun)(jh:Nat)(dO:List Int)(dP:List Kb)(cK:List Kc)(cC:List Ki):St:=⟨[(0,vP 0 0),(1,vI k4),(4,vP 1 0),(28,vO 2),(29,vI t5),(30,vI t6)],[(0,.box [.val Ja b7,.val Ja b8,.val Ja b9,.val Jp aP,.own 3,.own 4,.own 5,.own 6,.own 7,.own 8]),(1,.box [.val Ja bk,.val Ja bK,.val Ja bA,.val Ja dz,.val Ja ce,.val Ja bF,.own 9,.own 10,.own 11,.own 12,.val Jp je,.val Ja cp,.val Ja eK,.val Ja jf,.val Ja dm]),(2,.arr Ju cU),(3,.arr Ja fG),(4,.arr Ju gL),(5,.arr Jb iv),(6,.arr Ja jg),(7,.arr Ju dt),(8,.hole Jk fj jh 1),(9,.arr Ja dO),(10,.arr Jb dP),(11,.arr Ju cK),(12,.arr Je cC)],13⟩
def Zsr(k4:Int)(t5:Int)(b7:Int)(b8:Int)(b9:Int)(aP:Bool)(bk:Int)(bK:Int)(bA:Int)(dz:Int)(ce:Int)(bF:Int)(je:Bool)(cp:Int)(eK:Int)(jf:Int)(dm:Int)(cU:List Kc)(fG:List Int)(gL:List Kc)(jg:List Int)(dt:List Kc)(fj:List Y_KidRun)(jh:Nat)(dO:List Int)(dP:List Kb)(cK:List Kc)(cC:List Ki)(vK:Int)(qa:Bool)(ko:List Kb):St:=⟨[(0,vP 0 0),(1,vI k4),(4,vP 1 0),(28,vO 2),(29,vI t5),(30,vI vK),(31,vB qa)],[(0,.box [.val Ja b7,.val Ja b8,.val Ja b9,.val Jp aP,.own 3,.own 4,.own 5,.own 6,.own 7,.own 8]),(1,.box [.val Ja bk,.val Ja bK,.val Ja bA,.val Ja dz,.val Ja ce,.val Ja bF,.own 9,.own 10,.own 11,.own 12,.val Jp je,.val Ja cp,.val Ja eK,.val Ja jf,.val Ja dm]),(2,.arr Ju cU),(3,.arr Ja fG),(4,.arr Ju gL),(5,.arr Jb ko),(6,.arr Ja jg),(7,.arr Ju dt),(8,.hole Jk fj jh 1),(9,.arr Ja dO),(10,.arr Jb dP),(11,.arr Ju cK),(12,.arr Je cC)],13⟩
theorem Zs7{k4:Int}{t5:Int}{b7:Int}{b8:Int}{b9:Int}{aP:Bool}{bk:Int}{bK:Int}{bA:Int}{dz:Int}{ce:Int}{bF:Int}{je:Bool}{cp:Int}{eK:Int}{jf:Int}{dm:Int}{cU:List Kc}{fG:List Int}{gL:List Kc}{jg:List Int}{dt:List Kc}{fj:List Y_KidRun}{jh:Nat}{dO:List Int}{dP:List Kb}{cK:List Kc}{cC:List Ki}{K0:Int->Bool->Kq->Option R}(h0:K0= λvK qa ko=>K (.exit 0) (Zsr k4 t5 b7 b8 b9 aP bk bK bA dz ce bF je cp eK jf dm cU fG gL jg dt fj jh dO dP cK cC vK qa ko))(n:Nat)(t6:Int)(iv:List Kb):Zae N k4 t5 b7 b8 b9 aP bk bK bA dz ce bF je cp eK jf dm cU fG gL jg dt fj jh dO dP cK cC K0 n t6 iv=LM Zc2 N 0 100003 n (Zs6 k4 t5 t6 b7 b8 b9 aP bk bK bA dz ce bF je cp eK jf dm cU fG gL iv jg dt fj jh dO dP cK cC) K:=by
  subst h0
  induction n generalizing t6 iv with
  |zero=>kernel_rfl
  |succ n ih=>rw[Zae];simp only[ih];kernel_rfl
def Zs8(fF:Int)(kc:Int)(t45:Int)(co:Int)(cT:Int)(dD:Int)(dE:Bool)(dF:Int)(dM:Int)(dN:Int)(dc:Int)(ge:Int)(ke:Int)(iw:Bool)(iy:Int)(iz:Int)(iA:Int)(kg:Int)(dA:List Kb)(iB:List Int)(iD:List Kc)(iE:List Kb)(kh:List Int)(mD:List Kc)(ki:List Y_KidRun)(kj:Nat)(ek:List Int)(eh:List Kc)(gU:List Ki):St:=⟨[(0,vP 0 0),(1,vI fF),(4,vP 1 0),(75,vO 2),(76,vI kc),(77,vI t45)],[(0,.box [.val Ja co,.val Ja cT,.val Ja dD,.val Jp dE,.own 3,.own 4,.own 5,.own 6,.own 7,.own 8]),(1,.box [.val Ja dF,.val Ja dM,.val Ja dN,.val Ja dc,.val Ja ge,.val Ja ke,.own 9,.own 2,.own 10,.own 11,.val Jp iw,.val Ja iy,.val Ja iz,.val Ja iA,.val Ja kg]),(2,.arr Jb dA),(3,.arr Ja iB),(4,.arr Ju iD),(5,.arr Jb iE),(6,.arr Ja kh),(7,.arr Ju mD),(8,.hole Jk ki kj 1),(9,.arr Ja ek),(10,.arr Ju eh),(11,.arr Je gU)],12⟩
def Zss(fF:Int)(kc:Int)(co:Int)(cT:Int)(dD:Int)(dE:Bool)(dF:Int)(dM:Int)(dN:Int)(dc:Int)(ge:Int)(ke:Int)(iw:Bool)(iy:Int)(iz:Int)(iA:Int)(kg:Int)(dA:List Kb)(iB:List Int)(iD:List Kc)(iE:List Kb)(kh:List Int)(ki:List Y_KidRun)(kj:Nat)(ek:List Int)(eh:List Kc)(gU:List Ki)(oP:Int)(vL:Bool)(vM:List Kc):St:=⟨[(0,vP 0 0),(1,vI fF),(4,vP 1 0),(75,vO 2),(76,vI kc),(77,vI oP),(78,vB vL)],[(0,.box [.val Ja co,.val Ja cT,.val Ja dD,.val Jp dE,.own 3,.own 4,.own 5,.own 6,.own 7,.own 8]),(1,.box [.val Ja dF,.val Ja dM,.val Ja dN,.val Ja dc,.val Ja ge,.val Ja ke,.own 9,.own 2,.own 10,.own 11,.val Jp iw,.val Ja iy,.val Ja iz,.val Ja iA,.val Ja kg]),(2,.arr Jb dA),(3,.arr Ja iB),(4,.arr Ju iD),(5,.arr Jb iE),(6,.arr Ja kh),(7,.arr Ju vM),(8,.hole Jk ki kj 1),(9,.arr Ja ek),(10,.arr Ju eh),(11,.arr Je gU)],12⟩
theorem Zs9{fF:Int}{kc:Int}{co:Int}{cT:Int}{dD:Int}{dE:Bool}{dF:Int}{dM:Int}{dN:Int}{dc:Int}{ge:Int}{ke:Int}{iw:Bool}{iy:Int}{iz:Int}{iA:Int}{kg:Int}{dA:List Kb}{iB:List Int}{iD:List Kc}{iE:List Kb}{kh:List Int}{ki:List Y_KidRun}{kj:Nat}{ek:List Int}{eh:List Kc}{gU:List Ki}{K0:Int->Bool->Kv->Option R}(h0:K0= λoP vL vM=>K (.exit 2) (Zss fF kc co cT dD dE dF dM dN dc ge ke iw iy iz iA kg dA iB iD iE kh ki kj ek eh gU oP vL vM))(n:Nat)(t45:Int)(mD:List Kc):Zal N fF kc co cT dD dE dF dM dN dc ge ke iw iy iz iA kg dA iB iD iE kh ki kj ek eh gU K0 n t45 mD=LM Zc2 N 1 100013 n (Zs8 fF kc t45 co cT dD dE dF dM dN dc ge ke iw iy iz iA kg dA iB iD iE kh mD ki kj ek eh gU) K:=by
  subst h0
  induction n generalizing t45 mD with
  |zero=>kernel_rfl
  |succ n ih=>rw[Zal];simp only[ih];kernel_rfl
theorem Zzi(f1:Y_Family)(k2:Int):DN Zc2 N (f1,k2,())=Zex N f1 k2:=by
  conv=>rhs;rw[Zex];simp(disch:=exact id (by kernel_rfl)) only[Zs7 (R:=(Y_Family×Unit)×Unit) N (CF Zc2 N [1,1,0,1,0]),Zs9 (R:=(Y_Family×Unit)×Unit) N (CF Zc2 N [1,1,1,1,0,1,0])]
  kernel_rfl
def Zzj:Gd:=GF Zc2 func147 (λN d=>Zzi N d.1 d.2.1)
def Z25:Fn:=⟨f74,λ |2=>[.opn 20]|_=>[],λN=>Sig.of [.box Jw,vf_ Ja,vf_ Jg,vt_ Jaf] [] (λd=>Zle N d.1 d.2.1 d.2.2.1 d.2.2.2.1),CX [Z57,Zzj,Zm3,Zp7]⟩
def Z26:Gd:=GF Z25 func74
def Z8r:Fn:=⟨f28,λ |3=>[.unfE 6]|_=>[],λN=>Sig.of [.box Jo,vt_ Jt,vt_ Jb] [] (λd=>Zhz N d.1 d.2.1 d.2.2.1),CX [Z1,Z55,Z26]⟩
def Zsl:Gd:=GF Z8r func28
def Zq1:Fn:=⟨f8,λ |3=>[.nest 21 Jj]|6=>cn_ [1,2,3,32,33,34,35]|7=>cn_ [1,2,3,5,32,33,34]|8=>cn_ [1,2,3,32,33,34]|9=>cn_ [1,2,3,32,33,34]|100006=>[.adoptC 3 6 Jb,.adoptC 3 8 Jab,.canon [1,2,3,32,33,34]]|_=>[],λN=>Sig.of [vt_ Jt] [vt_ Jo] (λd=>Zoe N d.1),CX [Zs0,Z75,Zagp,Zsl]⟩
def Zabc(t5:List Kb)(t7:Int)(b8:Kg×List Km×List Kb)(bA:Int)(dz:Int)(ce:Int)(bF:Int)(ca:List Kb)(bX:List Int)(ba:List Kb)(dK:List Y_Root)(dW:List Kn):St:=⟨[(1,vP 0 0),(2,vP 1 0),(3,vP 2 0),(32,vV Jn t5),(33,vI (Wg b8.2.2)),(34,vI t7)],[(0,.box [.val Ji b8.1.1,.val Ji b8.1.2.1,.val Ja b8.1.2.2,.val Jm b8.2.1,.val Jn b8.2.2]),(1,.box [.val Ja (0:Int),.val Ja (0:Int),.val Ja (0:Int),.nils,.nils,.val Ja (0:Int),.nils,.nils,.nils]),(2,.box [.val Ja bA,.val Ja dz,.val Ja ce,.own 3,.own 4,.val Ja bF,.own 5,.own 6,.own 7]),(3,.arr Jb ca),(4,.arr Ja bX),(5,.arr Jb ba),(6,.arr Jj dK),(7,.arr Jab dW)],8⟩
def Z8s(t5:List Kb)(b8:Kg×List Km×List Kb)(oO:Int)(t25:Bool)(eQ:Int)(fK:Int)(fL:Int)(gg:Int)(dO:List Kb)(dP:List Int)(cK:List Kb)(cC:List Y_Root)(gh:List Kn):St:=⟨[(1,vP 0 0),(2,vP 1 0),(3,vP 2 0),(32,vV Jn t5),(33,vI (Wg b8.2.2)),(34,vI oO),(35,vB t25)],[(0,.box [.val Ji b8.1.1,.val Ji b8.1.2.1,.val Ja b8.1.2.2,.val Jm b8.2.1,.val Jn b8.2.2]),(1,.box [.val Ja (0:Int),.val Ja (0:Int),.val Ja (0:Int),.nils,.nils,.val Ja (0:Int),.nils,.nils,.nils]),(2,.box [.val Ja eQ,.val Ja fK,.val Ja fL,.own 3,.own 4,.val Ja gg,.own 5,.own 6,.own 7]),(3,.arr Jb dO),(4,.arr Ja dP),(5,.arr Jb cK),(6,.arr Jj cC),(7,.arr Jab gh)],8⟩
theorem Zabd{t5:List Kb}{b8:Kg×List Km×List Kb}{K0:Int->Bool->Int->Int->Int->Int->Kq->Kj->Kq->(List Y_Root)->Kab->Option R}(h0:K0= λoO t25 eQ fK fL gg dO dP cK cC gh=>K (.exit 0) (Z8s t5 b8 oO t25 eQ fK fL gg dO dP cK cC gh))(n:Nat)(t7:Int)(bA:Int)(dz:Int)(ce:Int)(bF:Int)(ca:List Kb)(bX:List Int)(ba:List Kb)(dK:List Y_Root)(dW:List Kn):Zes N t5 b8 K0 n t7 bA dz ce bF ca bX ba dK dW=LM Zq1 N 0 100006 n (Zabc t5 t7 b8 bA dz ce bF ca bX ba dK dW) K:=by
  subst h0
  induction n generalizing t7 bA dz ce bF ca bX ba dK dW with
  |zero=>kernel_rfl
  |succ n ih=>rw[Zes];simp only[ih];kernel_rfl
theorem Zajf(s1:Kg×List Km×List Kb):DN Zq1 N (s1,())=Zoe N s1:=by
  conv=>rhs;rw[Zoe];simp(disch:=exact id (by kernel_rfl)) only[Zabd (R:=Unit×(Y_World×Unit)) N (CF Zq1 N [1,1,1,1,0,1,0])]
  kernel_rfl
def Zajg:Gd:=GF Zq1 func8 (λN d=>Zajf N d.1)
def Zag0:Fn:=⟨f99,Wu,λN=>Sig.of [vt_ (TY_Root)] [vf_ Jp] (λd=>Zsm N d.1),WR⟩
def Zag1:Gd:=GN Zag0 func99
def Z2:Fn:=⟨f161,λ |2=>cn_ [0,1,7,8,9]|3=>cn_ [0,1,5,7,8]|4=>cn_ [0,1,5,7,8,16]|5=>cn_ [1,4]|6=>cn_ [0,1,7,8]|100002=>cn_ [0,1,7,8]|_=>[],λN=>Sig.of [vf_ Jai,.clos 99 0] [vf_ Ja] (λd=>Zt N d.1),CX [Zag1]⟩
def Zg6(s2:List Y_Root)(t4:Int):St:=⟨[(0,vV Jai s2),(1,.s (.one (.clos 99 []))),(7,vI (Wg s2)),(8,vI t4)],[],0⟩
def Zgp(s2:List Y_Root)(t7:Int):St:=⟨[(1,.s (.one (.clos 99 []))),(4,vI t7)],[],0⟩
def Zgq(s2:List Y_Root)(t8:Int)(t9:Bool):St:=⟨[(0,vV Jai s2),(1,.s (.one (.clos 99 []))),(7,vI (Wg s2)),(8,vI t8),(9,vB t9)],[],0⟩
theorem Zg7{s2:List Y_Root}{K0:Int->Option R}{K1:Int->Bool->Option R}(h0:K0= λt7=>K .ret (Zgp s2 t7))(h1:K1= λt8 t9=>K (.exit 0) (Zgq s2 t8 t9))(n:Nat)(t4:Int):Zg N s2 K0 K1 n t4=LM Z2 N 0 100002 n (Zg6 s2 t4) K:=by
  subst h0 h1
  induction n generalizing t4 with
  |zero=>kernel_rfl
  |succ n ih=>rw[Zg];simp only[ih];kernel_rfl
theorem Zib(s1:List Y_Root):DN Z2 N (s1,())=Zt N s1:=by
  conv=>rhs;rw[Zt];simp(disch:=exact id (by kernel_rfl)) only[Zg7 (R:=Unit×Kh) N (CF Z2 N [1,0,1,0])]
  kernel_rfl
def Zic:Gd:=GF Z2 func161 (λN d=>Zib N d.1)
def Zhj:Fn:=⟨f98,Wu,λN=>Sig.of [vf_ Jai,.clos 99 0] [vf_ Jp] (λd=>Zaf N d.1),CX [Zic]⟩
def Zhk:Gd:=GF Zhj func98
def Zajh:Fn:=⟨f51,Wu,λN=>Sig.of [vt_ (TY_World)] [vf_ Jp] (λd=>Zsf N d.1),CX [Zhk]⟩
def Zaji:Gd:=GF Zajh func51
def Zgj:Fn:=⟨f15,λ |5=>cn_ [1,2,4,5,21]|6=>cn_ [1,2,4,5]|7=>cn_ [1,2,4,5,25,26,27]|8=>cn_ [1,2,4,5,25,26,27,28]|9=>cn_ [1,2,4,5,6,7,25,26,27]|10=>cn_ [1,2,4,5,6,7,25,26,27]|11=>cn_ [1,2,4,5,6,25,26,27,38,39]|12=>cn_ [1,2,4,5,6,25,26,27,38,39,40]|13=>cn_ [1,2,4,5,6,8,25,26,27,38,39]|14=>cn_ [1,2,4,5,6,25,26,27,38,39]|15=>cn_ [1,2,4,5,6,25,26,27,38,39]|16=>cn_ [1,2,4,5,25,26,27]|100005=>cn_ [1,2,4,5]|100008=>cn_ [1,2,4,5,25,26,27]|100012=>cn_ [1,2,4,5,6,25,26,27,38,39]|_=>[],λN=>Sig.of [vt_ Jt] [vt_ Jo,vf_ Ja] (λd=>Zkj N d.1),CX [Zs0,Zajg,Zaji,Zsl]⟩
def Z8t(bP:Int)(jl:Int)(jS:List Km)(kn:Int)(t45:Int)(co:Kg×List Km×List Kb)(cT:Int)(dD:Int)(dE:Int)(dF:Int)(dM:Int)(dN:Int)(dc:Int)(ge:Int)(nM:List Kb)(nN:List Int)(nO:List Kb)(nP:List Y_Root)(nQ:List Kn):St:=⟨[(1,vP 0 0),(2,vP 1 0),(4,vP 2 0),(5,vI bP),(6,vI jl),(25,vV Jm jS),(26,vI kn),(27,vI jl),(38,vI (Wg (Xc jS (Xa jl) (([]:List Ka),([]:List Kz))).2)),(39,vI t45)],[(0,.box [.val Ji co.1.1,.val Ji co.1.2.1,.val Ja co.1.2.2,.val Jm co.2.1,.val Jn co.2.2]),(1,.box [.val Ja cT,.val Ja dD,.val Ja dE,.nils,.nils,.val Ja dF,.nils,.nils,.nils]),(2,.box [.val Ja dM,.val Ja dN,.val Ja dc,.own 3,.own 4,.val Ja ge,.own 5,.own 6,.own 7]),(3,.arr Jb nM),(4,.arr Ja nN),(5,.arr Jb nO),(6,.arr Jj nP),(7,.arr Jab nQ)],8⟩
def Z58(bP:Int)(jl:Int)(jS:List Km)(kn:Int)(co:Kg×List Km×List Kb)(cT:Int)(dD:Int)(dE:Int)(dF:Int)(s7:Int)(s9:Bool)(ru:Int)(rx:Int)(ry:Int)(rz:Int)(rD:List Kb)(ek:List Int)(eh:List Kb)(gU:List Y_Root)(rE:List Kn):St:=⟨[(1,vP 0 0),(2,vP 1 0),(4,vP 2 0),(5,vI bP),(6,vI jl),(25,vV Jm jS),(26,vI kn),(27,vI jl),(38,vI (Wg (Xc jS (Xa jl) (([]:List Ka),([]:List Kz))).2)),(39,vI s7),(40,vB s9)],[(0,.box [.val Ji co.1.1,.val Ji co.1.2.1,.val Ja co.1.2.2,.val Jm co.2.1,.val Jn co.2.2]),(1,.box [.val Ja cT,.val Ja dD,.val Ja dE,.nils,.nils,.val Ja dF,.nils,.nils,.nils]),(2,.box [.val Ja ru,.val Ja rx,.val Ja ry,.own 3,.own 4,.val Ja rz,.own 5,.own 6,.own 7]),(3,.arr Jb rD),(4,.arr Ja ek),(5,.arr Jb eh),(6,.arr Jj gU),(7,.arr Jab rE)],8⟩
theorem Z8u{bP:Int}{jl:Int}{jS:List Km}{kn:Int}{co:Kg×List Km×List Kb}{cT:Int}{dD:Int}{dE:Int}{dF:Int}{K0:Int->Bool->Int->Int->Int->Int->Kq->Kj->Kq->(List Y_Root)->Kab->Option R}(h0:K0= λs7 s9 ru rx ry rz rD ek eh gU rE=>K (.exit 4) (Z58 bP jl jS kn co cT dD dE dF s7 s9 ru rx ry rz rD ek eh gU rE))(n:Nat)(t45:Int)(dM:Int)(dN:Int)(dc:Int)(ge:Int)(nM:List Kb)(nN:List Int)(nO:List Kb)(nP:List Y_Root)(nQ:List Kn):Zfy N bP jl jS kn co cT dD dE dF K0 n t45 dM dN dc ge nM nN nO nP nQ=LM Zgj N 2 100012 n (Z8t bP jl jS kn t45 co cT dD dE dF dM dN dc ge nM nN nO nP nQ) K:=by
  subst h0
  induction n generalizing t45 dM dN dc ge nM nN nO nP nQ with
  |zero=>kernel_rfl
  |succ n ih=>rw[Zfy];simp only[ih];kernel_rfl
def Z8v(bB:Int)(it:List Km)(gu:Int)(c8:Kg×List Km×List Kb)(fu:Int)(eQ:Int)(fK:Int)(fL:Int)(gg:Int)(nR:Int)(nS:Int)(nT:Int)(cC:List Kb)(gh:List Int)(nU:List Kb)(nV:List Y_Root)(ko:List Kn):St:=⟨[(1,vP 0 0),(2,vP 1 0),(4,vP 2 0),(5,vI bB),(25,vV Jm it),(26,vI (Wg c8.2.1)),(27,vI gu)],[(0,.box [.val Ji c8.1.1,.val Ji c8.1.2.1,.val Ja c8.1.2.2,.val Jm c8.2.1,.val Jn c8.2.2]),(1,.box [.val Ja fu,.val Ja eQ,.val Ja fK,.nils,.nils,.val Ja fL,.nils,.nils,.nils]),(2,.box [.val Ja gg,.val Ja nR,.val Ja nS,.own 3,.own 4,.val Ja nT,.own 5,.own 6,.own 7]),(3,.arr Jb cC),(4,.arr Ja gh),(5,.arr Jb nU),(6,.arr Jj nV),(7,.arr Jab ko)],8⟩
def Z59(bB:Int)(it:List Km)(c8:Kg×List Km×List Kb)(fu:Int)(eQ:Int)(fK:Int)(fL:Int)(vN:Int)(vQ:Bool)(vR:Int)(pe:Int)(pf:Int)(pg:Int)(pi:List Kb)(pj:List Int)(pk:List Kb)(pm:List Y_Root)(pn:List Kn):St:=⟨[(1,vP 0 0),(2,vP 1 0),(4,vP 2 0),(5,vI bB),(25,vV Jm it),(26,vI (Wg c8.2.1)),(27,vI vN),(28,vB vQ)],[(0,.box [.val Ji c8.1.1,.val Ji c8.1.2.1,.val Ja c8.1.2.2,.val Jm c8.2.1,.val Jn c8.2.2]),(1,.box [.val Ja fu,.val Ja eQ,.val Ja fK,.nils,.nils,.val Ja fL,.nils,.nils,.nils]),(2,.box [.val Ja vR,.val Ja pe,.val Ja pf,.own 3,.own 4,.val Ja pg,.own 5,.own 6,.own 7]),(3,.arr Jb pi),(4,.arr Ja pj),(5,.arr Jb pk),(6,.arr Jj pm),(7,.arr Jab pn)],8⟩
theorem Z8w{bB:Int}{it:List Km}{c8:Kg×List Km×List Kb}{fu:Int}{eQ:Int}{fK:Int}{fL:Int}{K0:Int->Bool->Int->Int->Int->Int->Kq->Kj->Kq->(List Y_Root)->Kab->Option R}(h0:K0= λvN vQ vR pe pf pg pi pj pk pm pn=>K (.exit 2) (Z59 bB it c8 fu eQ fK fL vN vQ vR pe pf pg pi pj pk pm pn))(n:Nat)(gu:Int)(gg:Int)(nR:Int)(nS:Int)(nT:Int)(cC:List Kb)(gh:List Int)(nU:List Kb)(nV:List Y_Root)(ko:List Kn):Zdm N bB it c8 fu eQ fK fL K0 n gu gg nR nS nT cC gh nU nV ko=LM Zgj N 1 100008 n (Z8v bB it gu c8 fu eQ fK fL gg nR nS nT cC gh nU nV ko) K:=by
  subst h0
  induction n generalizing gu gg nR nS nT cC gh nU nV ko with
  |zero=>kernel_rfl
  |succ n ih=>rw[Zdm];simp(disch:=exact id (by kernel_rfl)) only[ih,Z8u N (CL Zgj N 1 100008 [1,1,0,0,1,1,1,0] n K)];kernel_rfl
def Z8x(bD:Int)(b5:Kg×List Km×List Kb)(aP:Int)(bk:Int)(bK:Int)(bA:Int)(bd:List Kb)(aQ:List Int)(bG:List Kb)(ca:List Y_Root)(bX:List Kn):St:=⟨[(1,vP 0 0),(2,vP 1 0),(4,vP 2 0),(5,vI bD)],[(0,.box [.val Ji b5.1.1,.val Ji b5.1.2.1,.val Ja b5.1.2.2,.val Jm b5.2.1,.val Jn b5.2.2]),(1,.box [.val Ja (0:Int),.val Ja (0:Int),.val Ja (0:Int),.nils,.nils,.val Ja (0:Int),.nils,.nils,.nils]),(2,.box [.val Ja aP,.val Ja bk,.val Ja bK,.own 3,.own 4,.val Ja bA,.own 5,.own 6,.own 7]),(3,.arr Jb bd),(4,.arr Ja aQ),(5,.arr Jb bG),(6,.arr Jj ca),(7,.arr Jab bX)],8⟩
def Z6a(b5:Kg×List Km×List Kb)(eR:Int)(po:Bool)(pp:Int)(pq:Int)(pr:Int)(ls:Int)(pt:List Kb)(pu:List Int)(pw:List Kb)(lu:List Y_Root)(lv:List Kn):St:=⟨[(1,vP 0 0),(2,vP 1 0),(4,vP 2 0),(5,vI eR),(21,vB po)],[(0,.box [.val Ji b5.1.1,.val Ji b5.1.2.1,.val Ja b5.1.2.2,.val Jm b5.2.1,.val Jn b5.2.2]),(1,.box [.val Ja (0:Int),.val Ja (0:Int),.val Ja (0:Int),.nils,.nils,.val Ja (0:Int),.nils,.nils,.nils]),(2,.box [.val Ja pp,.val Ja pq,.val Ja pr,.own 3,.own 4,.val Ja ls,.own 5,.own 6,.own 7]),(3,.arr Jb pt),(4,.arr Ja pu),(5,.arr Jb pw),(6,.arr Jj lu),(7,.arr Jab lv)],8⟩
theorem Z8y{b5:Kg×List Km×List Kb}{K0:Int->Bool->Int->Int->Int->Int->Kq->Kj->Kq->(List Y_Root)->Kab->Option R}(h0:K0= λeR po pp pq pr ls pt pu pw lu lv=>K (.exit 0) (Z6a b5 eR po pp pq pr ls pt pu pw lu lv))(n:Nat)(bD:Int)(aP:Int)(bk:Int)(bK:Int)(bA:Int)(bd:List Kb)(aQ:List Int)(bG:List Kb)(ca:List Y_Root)(bX:List Kn):Zdn N b5 K0 n bD aP bk bK bA bd aQ bG ca bX=LM Zgj N 0 100005 n (Z8x bD b5 aP bk bK bA bd aQ bG ca bX) K:=by
  subst h0
  induction n generalizing bD aP bk bK bA bd aQ bG ca bX with
  |zero=>kernel_rfl
  |succ n ih=>rw[Zdn];simp(disch:=exact id (by kernel_rfl)) only[ih,Z8w N (CL Zgj N 0 100005 [1,0,1,1,0] n K)];kernel_rfl
theorem Zaii(s1:Kg×List Km×List Kb):DN Zgj N (s1,())=Zkj N s1:=by
  conv=>rhs;rw[Zkj];simp(disch:=exact id (by kernel_rfl)) only[Z8y (R:=Unit×(Y_World×Kh)) N (CF Zgj N [1,1,1,1,0,0])]
  kernel_rfl
def Zaij:Gd:=GF Zgj func15 (λN d=>Zaii N d.1)
def Zag2:Fn:=⟨f150,Wu,λN=>Sig.of [vt_ Jb,vt_ Jb] [vf_ Jp] (λd=>Zqh N d.1 d.2.1),WR⟩
def Zag3:Gd:=GN Zag2 func150
def Zn2:Fn:=⟨f75,λ |4=>cn_ [0,1,5,14]|5=>cn_ [0,1,5]|6=>cn_ [0,1,5,26]|7=>cn_ [4]|100004=>cn_ [0,1,5]|_=>[],λN=>Sig.of [vf_ Jn,vf_ Jn] [vf_ Jp] (λd=>Zjk N d.1 d.2.1),CX [Zag3]⟩
def Z27(a3:List Kb)(b4:List Kb)(i5:Int):St:=⟨[(0,vV Jn a3),(1,vV Jn b4),(5,vI i5)],[],0⟩
def Zzk(a3:List Kb)(b4:List Kb):St:=⟨[(4,vB false)],[],0⟩
def Zzl(a3:List Kb)(b4:List Kb)(i7:Int)(t8:Bool):St:=⟨[(0,vV Jn a3),(1,vV Jn b4),(5,vI i7),(14,vB t8)],[],0⟩
theorem Z28{a3:List Kb}{b4:List Kb}{K0:Option R}{K1:Int->Bool->Option R}(h0:K0=K .ret (Zzk a3 b4))(h1:K1= λi7 t8=>K (.exit 0) (Zzl a3 b4 i7 t8))(n:Nat)(i5:Int):Zc6 N a3 b4 K0 K1 n i5=LM Zn2 N 0 100004 n (Z27 a3 b4 i5) K:=by
  subst h0 h1
  induction n generalizing i5 with
  |zero=>kernel_rfl
  |succ n ih=>rw[Zc6];simp only[ih];kernel_rfl
theorem Zaef(a1:List Kb)(b2:List Kb):DN Zn2 N (a1,b2,())=Zjk N a1 b2:=by
  conv=>rhs;rw[Zjk];simp(disch:=exact id (by kernel_rfl)) only[Z28 (R:=Unit×Ko) N (CF Zn2 N [1,1,0,1,0])]
  kernel_rfl
def Zaeg:Gd:=GF Zn2 func75 (λN d=>Zaef N d.1 d.2.1)
def Zaik:Fn:=⟨f29,Wu,λN=>Sig.of [vt_ Jaf,vt_ Jaf] [vf_ Jp] (λd=>Zrj N d.1 d.2.1),CX [Zaeg]⟩
def Zail:Gd:=GF Zaik func29
def Zpb:Fn:=⟨f76,λ |4=>cn_ [0,1,5,14]|5=>cn_ [0,1,5]|6=>cn_ [0,1,5,25]|7=>cn_ [4]|100004=>cn_ [0,1,5]|_=>[],λN=>Sig.of [vf_ Ji,vf_ Ji] [vf_ Jp] (λd=>Zaj N d.1 d.2.1),WR⟩
def Z6b(a3:List Int)(b4:List Int)(i5:Int):St:=⟨[(0,vV Ji a3),(1,vV Ji b4),(5,vI i5)],[],0⟩
def Z29(a3:List Int)(b4:List Int):St:=⟨[(4,vB false)],[],0⟩
def Z3a(a3:List Int)(b4:List Int)(i6:Int)(t7:Bool):St:=⟨[(0,vV Ji a3),(1,vV Ji b4),(5,vI i6),(14,vB t7)],[],0⟩
theorem Z6c{a3:List Int}{b4:List Int}{K0:Option R}{K1:Int->Bool->Option R}(h0:K0=K .ret (Z29 a3 b4))(h1:K1= λi6 t7=>K (.exit 0) (Z3a a3 b4 i6 t7))(n:Nat)(i5:Int):Zeh N a3 b4 K0 K1 n i5=LM Zpb N 0 100004 n (Z6b a3 b4 i5) K:=by
  subst h0 h1
  induction n generalizing i5 with
  |zero=>kernel_rfl
  |succ n ih=>rw[Zeh];simp only[ih];kernel_rfl
theorem Zag4(a1:List Int)(b2:List Int):DN Zpb N (a1,b2,())=Zaj N a1 b2:=by
  conv=>rhs;rw[Zaj];simp(disch:=exact id (by kernel_rfl)) only[Z6c (R:=Unit×Ko) N (CF Zpb N [1,1,0,1,0])]
  kernel_rfl
def Zeu:Gd:=GN Zpb func76 (λN d=>Zag4 N d.1 d.2.1)
def Zaeh:Fn:=⟨f30,Wu,λN=>Sig.of [vt_ Jag,vt_ Jag] [vf_ Jp] (λd=>Zpt N d.1 d.2.1),CX [Zeu]⟩
def Zaei:Gd:=GF Zaeh func30
def Zag5:Fn:=⟨f77,Wu,λN=>Sig.of [vt_ Jb,vt_ Jb] [vf_ Jp] (λd=>Zqr N d.1 d.2.1),WR⟩
def Zag6:Gd:=GN Zag5 func77
def Zn3:Fn:=⟨f31,λ |4=>cn_ [0,1,5,14]|5=>cn_ [0,1,5]|6=>cn_ [0,1,5,26]|7=>cn_ [4]|100004=>cn_ [0,1,5]|_=>[],λN=>Sig.of [vf_ Jn,vf_ Jn] [vf_ Jp] (λd=>Zj0 N d.1 d.2.1),CX [Zag6]⟩
def Z3b(a3:List Kb)(b4:List Kb)(i5:Int):St:=⟨[(0,vV Jn a3),(1,vV Jn b4),(5,vI i5)],[],0⟩
def Zzm(a3:List Kb)(b4:List Kb):St:=⟨[(4,vB false)],[],0⟩
def Zzn(a3:List Kb)(b4:List Kb)(i7:Int)(t8:Bool):St:=⟨[(0,vV Jn a3),(1,vV Jn b4),(5,vI i7),(14,vB t8)],[],0⟩
theorem Z3c{a3:List Kb}{b4:List Kb}{K0:Option R}{K1:Int->Bool->Option R}(h0:K0=K .ret (Zzm a3 b4))(h1:K1= λi7 t8=>K (.exit 0) (Zzn a3 b4 i7 t8))(n:Nat)(i5:Int):Zdo N a3 b4 K0 K1 n i5=LM Zn3 N 0 100004 n (Z3b a3 b4 i5) K:=by
  subst h0 h1
  induction n generalizing i5 with
  |zero=>kernel_rfl
  |succ n ih=>rw[Zdo];simp only[ih];kernel_rfl
theorem Zaej(a1:List Kb)(b2:List Kb):DN Zn3 N (a1,b2,())=Zj0 N a1 b2:=by
  conv=>rhs;rw[Zj0];simp(disch:=exact id (by kernel_rfl)) only[Z3c (R:=Unit×Ko) N (CF Zn3 N [1,1,0,1,0])]
  kernel_rfl
def Zaek:Gd:=GF Zn3 func31 (λN d=>Zaej N d.1 d.2.1)
def Zaim:Fn:=⟨f224,Wu,λN=>Sig.of [vt_ Ju,vt_ Ju] [vf_ Jp] (λd=>Zrk N d.1 d.2.1),WR⟩
def Zain:Gd:=GN Zaim func224
def Zpc:Fn:=⟨f151,λ |4=>cn_ [0,1,5,14]|5=>cn_ [0,1,5]|6=>cn_ [0,1,5,26]|7=>cn_ [4]|100004=>cn_ [0,1,5]|_=>[],λN=>Sig.of [vf_ Jd,vf_ Jd] [vf_ Jp] (λd=>Zbq N d.1 d.2.1),CX [Zain]⟩
def Z6d(a3:List Kc)(b4:List Kc)(i5:Int):St:=⟨[(0,vV Jd a3),(1,vV Jd b4),(5,vI i5)],[],0⟩
def Z3d(a3:List Kc)(b4:List Kc):St:=⟨[(4,vB false)],[],0⟩
def Z3e(a3:List Kc)(b4:List Kc)(i7:Int)(t8:Bool):St:=⟨[(0,vV Jd a3),(1,vV Jd b4),(5,vI i7),(14,vB t8)],[],0⟩
theorem Z6e{a3:List Kc}{b4:List Kc}{K0:Option R}{K1:Int->Bool->Option R}(h0:K0=K .ret (Z3d a3 b4))(h1:K1= λi7 t8=>K (.exit 0) (Z3e a3 b4 i7 t8))(n:Nat)(i5:Int):Zei N a3 b4 K0 K1 n i5=LM Zpc N 0 100004 n (Z6d a3 b4 i5) K:=by
  subst h0 h1
  induction n generalizing i5 with
  |zero=>kernel_rfl
  |succ n ih=>rw[Zei];simp only[ih];kernel_rfl
theorem Zag7(a1:List Kc)(b2:List Kc):DN Zpc N (a1,b2,())=Zbq N a1 b2:=by
  conv=>rhs;rw[Zbq];simp(disch:=exact id (by kernel_rfl)) only[Z6e (R:=Unit×Ko) N (CF Zpc N [1,1,0,1,0])]
  kernel_rfl
def Zlu:Gd:=GF Zpc func151 (λN d=>Zag7 N d.1 d.2.1)
def Zag8:Fn:=⟨f225,Wu,λN=>Sig.of [vt_ Js,vt_ Js] [vf_ Jp] (λd=>Zqs N d.1 d.2.1),CX [Zeu]⟩
def Zag9:Gd:=GF Zag8 func225
def Zn4:Fn:=⟨f152,λ |4=>cn_ [0,1,5,14]|5=>cn_ [0,1,5]|6=>cn_ [0,1,5,26]|7=>cn_ [4]|100004=>cn_ [0,1,5]|_=>[],λN=>Sig.of [vf_ Jan,vf_ Jan] [vf_ Jp] (λd=>Zj1 N d.1 d.2.1),CX [Zag9]⟩
def Z3f(a3:List Kf)(b4:List Kf)(i5:Int):St:=⟨[(0,vV Jan a3),(1,vV Jan b4),(5,vI i5)],[],0⟩
def Zzo(a3:List Kf)(b4:List Kf):St:=⟨[(4,vB false)],[],0⟩
def Zzp(a3:List Kf)(b4:List Kf)(i7:Int)(t8:Bool):St:=⟨[(0,vV Jan a3),(1,vV Jan b4),(5,vI i7),(14,vB t8)],[],0⟩
theorem Z3g{a3:List Kf}{b4:List Kf}{K0:Option R}{K1:Int->Bool->Option R}(h0:K0=K .ret (Zzo a3 b4))(h1:K1= λi7 t8=>K (.exit 0) (Zzp a3 b4 i7 t8))(n:Nat)(i5:Int):Zdp N a3 b4 K0 K1 n i5=LM Zn4 N 0 100004 n (Z3f a3 b4 i5) K:=by
  subst h0 h1
  induction n generalizing i5 with
  |zero=>kernel_rfl
  |succ n ih=>rw[Zdp];simp only[ih];kernel_rfl
theorem Zael(a1:List Kf)(b2:List Kf):DN Zn4 N (a1,b2,())=Zj1 N a1 b2:=by
  conv=>rhs;rw[Zj1];simp(disch:=exact id (by kernel_rfl)) only[Z3g (R:=Unit×Ko) N (CF Zn4 N [1,1,0,1,0])]
  kernel_rfl
def Zaem:Gd:=GF Zn4 func152 (λN d=>Zael N d.1 d.2.1)
def Zaha:Fn:=⟨f226,Wu,λN=>Sig.of [vt_ Jb,vt_ Jb] [vf_ Jp] (λd=>Zqt N d.1 d.2.1),WR⟩
def Zahb:Gd:=GN Zaha func226
def Zn5:Fn:=⟨f153,λ |4=>cn_ [0,1,5,14]|5=>cn_ [0,1,5]|6=>cn_ [0,1,5,26]|7=>cn_ [4]|100004=>cn_ [0,1,5]|_=>[],λN=>Sig.of [vf_ Jn,vf_ Jn] [vf_ Jp] (λd=>Zj2 N d.1 d.2.1),CX [Zahb]⟩
def Z3h(a3:List Kb)(b4:List Kb)(i5:Int):St:=⟨[(0,vV Jn a3),(1,vV Jn b4),(5,vI i5)],[],0⟩
def Zzq(a3:List Kb)(b4:List Kb):St:=⟨[(4,vB false)],[],0⟩
def Zzr(a3:List Kb)(b4:List Kb)(i7:Int)(t8:Bool):St:=⟨[(0,vV Jn a3),(1,vV Jn b4),(5,vI i7),(14,vB t8)],[],0⟩
theorem Z3i{a3:List Kb}{b4:List Kb}{K0:Option R}{K1:Int->Bool->Option R}(h0:K0=K .ret (Zzq a3 b4))(h1:K1= λi7 t8=>K (.exit 0) (Zzr a3 b4 i7 t8))(n:Nat)(i5:Int):Zdq N a3 b4 K0 K1 n i5=LM Zn5 N 0 100004 n (Z3h a3 b4 i5) K:=by
  subst h0 h1
  induction n generalizing i5 with
  |zero=>kernel_rfl
  |succ n ih=>rw[Zdq];simp only[ih];kernel_rfl
theorem Zaen(a1:List Kb)(b2:List Kb):DN Zn5 N (a1,b2,())=Zj2 N a1 b2:=by
  conv=>rhs;rw[Zj2];simp(disch:=exact id (by kernel_rfl)) only[Z3i (R:=Unit×Ko) N (CF Zn5 N [1,1,0,1,0])]
  kernel_rfl
def Zaeo:Gd:=GF Zn5 func153 (λN d=>Zaen N d.1 d.2.1)
def Zaep:Fn:=⟨f154,Wu,λN=>Sig.of [vt_ Jq,vt_ Jq] [vf_ Jp] (λd=>Zmu N d.1 d.2.1),WR⟩
def Zts:Gd:=GN Zaep func154
def Zabe:Fn:=⟨f155,Wu,λN=>Sig.of [vt_ Jl,vt_ Jl] [vf_ Jp] (λd=>Zoq N d.1 d.2.1),CX [Zlu,Zeu]⟩
def Zabf:Gd:=GF Zabe func155
def Zaeq:Fn:=⟨f294,Wu,λN=>Sig.of [vt_ Jb,vt_ Jb] [vf_ Jp] (λd=>Zpk N d.1 d.2.1),WR⟩
def Zaer:Gd:=GN Zaeq func294
def Zmk:Fn:=⟨f227,λ |4=>cn_ [0,1,5,14]|5=>cn_ [0,1,5]|6=>cn_ [0,1,5,26]|7=>cn_ [4]|100004=>cn_ [0,1,5]|_=>[],λN=>Sig.of [vf_ Jn,vf_ Jn] [vf_ Jp] (λd=>Zgt N d.1 d.2.1),CX [Zaer]⟩
def Zzs(a3:List Kb)(b4:List Kb)(i5:Int):St:=⟨[(0,vV Jn a3),(1,vV Jn b4),(5,vI i5)],[],0⟩
def Zwj(a3:List Kb)(b4:List Kb):St:=⟨[(4,vB false)],[],0⟩
def Zwk(a3:List Kb)(b4:List Kb)(i7:Int)(t8:Bool):St:=⟨[(0,vV Jn a3),(1,vV Jn b4),(5,vI i7),(14,vB t8)],[],0⟩
theorem Zzt{a3:List Kb}{b4:List Kb}{K0:Option R}{K1:Int->Bool->Option R}(h0:K0=K .ret (Zwj a3 b4))(h1:K1= λi7 t8=>K (.exit 0) (Zwk a3 b4 i7 t8))(n:Nat)(i5:Int):Zct N a3 b4 K0 K1 n i5=LM Zmk N 0 100004 n (Zzs a3 b4 i5) K:=by
  subst h0 h1
  induction n generalizing i5 with
  |zero=>kernel_rfl
  |succ n ih=>rw[Zct];simp only[ih];kernel_rfl
theorem Zabg(a1:List Kb)(b2:List Kb):DN Zmk N (a1,b2,())=Zgt N a1 b2:=by
  conv=>rhs;rw[Zgt];simp(disch:=exact id (by kernel_rfl)) only[Zzt (R:=Unit×Ko) N (CF Zmk N [1,1,0,1,0])]
  kernel_rfl
def Zs5:Gd:=GF Zmk func227 (λN d=>Zabg N d.1 d.2.1)
def Z8z:Fn:=⟨f331,Wu,λN=>Sig.of [vt_ Jaa,vt_ Jaa] [vf_ Jp] (λd=>Zm4 N d.1 d.2.1),CX [Zeu]⟩
def Z80:Gd:=GF Z8z func331
def Zkt:Fn:=⟨f324,λ |4=>cn_ [0,1,5,14]|5=>cn_ [0,1,5]|6=>cn_ [0,1,5,26]|7=>cn_ [4]|100004=>cn_ [0,1,5]|_=>[],λN=>Sig.of [vf_ Jam,vf_ Jam] [vf_ Jp] (λd=>Zg8 N d.1 d.2.1),CX [Z80]⟩
def Zum(a3:List Ki)(b4:List Ki)(i5:Int):St:=⟨[(0,vV Jam a3),(1,vV Jam b4),(5,vI i5)],[],0⟩
def Ztt(a3:List Ki)(b4:List Ki):St:=⟨[(4,vB false)],[],0⟩
def Ztu(a3:List Ki)(b4:List Ki)(i7:Int)(t8:Bool):St:=⟨[(0,vV Jam a3),(1,vV Jam b4),(5,vI i7),(14,vB t8)],[],0⟩
theorem Zun{a3:List Ki}{b4:List Ki}{K0:Option R}{K1:Int->Bool->Option R}(h0:K0=K .ret (Ztt a3 b4))(h1:K1= λi7 t8=>K (.exit 0) (Ztu a3 b4 i7 t8))(n:Nat)(i5:Int):Zbu N a3 b4 K0 K1 n i5=LM Zkt N 0 100004 n (Zum a3 b4 i5) K:=by
  subst h0 h1
  induction n generalizing i5 with
  |zero=>kernel_rfl
  |succ n ih=>rw[Zbu];simp only[ih];kernel_rfl
theorem Z6f(a1:List Ki)(b2:List Ki):DN Zkt N (a1,b2,())=Zg8 N a1 b2:=by
  conv=>rhs;rw[Zg8];simp(disch:=exact id (by kernel_rfl)) only[Zun (R:=Unit×Ko) N (CF Zkt N [1,1,0,1,0])]
  kernel_rfl
def Z6g:Gd:=GF Zkt func324 (λN d=>Z6f N d.1 d.2.1)
def Zabh:Fn:=⟨f295,Wu,λN=>Sig.of [vt_ (TY_KidRun),vt_ (TY_KidRun)] [vf_ Jp] (λd=>Zog N d.1 d.2.1),CX [Zeu,Zs5,Zlu,Z6g,Zts]⟩
def Zabi:Gd:=GF Zabh func295
def Zlv:Fn:=⟨f228,λ |4=>cn_ [0,1,5,14]|5=>cn_ [0,1,5]|6=>cn_ [0,1,5,26]|7=>cn_ [4]|100004=>cn_ [0,1,5]|_=>[],λN=>Sig.of [vf_ Jae,vf_ Jae] [vf_ Jp] (λd=>Zht N d.1 d.2.1),CX [Zabi]⟩
def Zwl(a3:List Y_KidRun)(b4:List Y_KidRun)(i5:Int):St:=⟨[(0,vV Jae a3),(1,vV Jae b4),(5,vI i5)],[],0⟩
def Zuo(a3:List Y_KidRun)(b4:List Y_KidRun):St:=⟨[(4,vB false)],[],0⟩
def Zup(a3:List Y_KidRun)(b4:List Y_KidRun)(i7:Int)(t8:Bool):St:=⟨[(0,vV Jae a3),(1,vV Jae b4),(5,vI i7),(14,vB t8)],[],0⟩
theorem Zwm{a3:List Y_KidRun}{b4:List Y_KidRun}{K0:Option R}{K1:Int->Bool->Option R}(h0:K0=K .ret (Zuo a3 b4))(h1:K1= λi7 t8=>K (.exit 0) (Zup a3 b4 i7 t8))(n:Nat)(i5:Int):Zb7 N a3 b4 K0 K1 n i5=LM Zlv N 0 100004 n (Zwl a3 b4 i5) K:=by
  subst h0 h1
  induction n generalizing i5 with
  |zero=>kernel_rfl
  |succ n ih=>rw[Zb7];simp only[ih];kernel_rfl
theorem Z81(a1:List Y_KidRun)(b2:List Y_KidRun):DN Zlv N (a1,b2,())=Zht N a1 b2:=by
  conv=>rhs;rw[Zht];simp(disch:=exact id (by kernel_rfl)) only[Zwm (R:=Unit×Ko) N (CF Zlv N [1,1,0,1,0])]
  kernel_rfl
def Z82:Gd:=GF Zlv func228 (λN d=>Z81 N d.1 d.2.1)
def Zabj:Fn:=⟨f156,Wu,λN=>Sig.of [vt_ (TY_Family),vt_ (TY_Family)] [vf_ Jp] (λd=>Zoh N d.1 d.2.1),CX [Zeu,Zlu,Zs5,Z82]⟩
def Zabk:Gd:=GF Zabj func156
def Zahc:Fn:=⟨f78,Wu,λN=>Sig.of [vt_ (TY_Root),vt_ (TY_Root)] [vf_ Jp] (λd=>Zqu N d.1 d.2.1),CX [Zeu,Zlu,Zaem,Zaeo,Zts,Zabf,Zabk]⟩
def Zahd:Gd:=GF Zahc func78
def Zn6:Fn:=⟨f32,λ |4=>cn_ [0,1,5,14]|5=>cn_ [0,1,5]|6=>cn_ [0,1,5,26]|7=>cn_ [4]|100004=>cn_ [0,1,5]|_=>[],λN=>Sig.of [vf_ Jai,vf_ Jai] [vf_ Jp] (λd=>Zj3 N d.1 d.2.1),CX [Zahd]⟩
def Z3j(a3:List Y_Root)(b4:List Y_Root)(i5:Int):St:=⟨[(0,vV Jai a3),(1,vV Jai b4),(5,vI i5)],[],0⟩
def Zzu(a3:List Y_Root)(b4:List Y_Root):St:=⟨[(4,vB false)],[],0⟩
def Zzv(a3:List Y_Root)(b4:List Y_Root)(i7:Int)(t8:Bool):St:=⟨[(0,vV Jai a3),(1,vV Jai b4),(5,vI i7),(14,vB t8)],[],0⟩
theorem Z3k{a3:List Y_Root}{b4:List Y_Root}{K0:Option R}{K1:Int->Bool->Option R}(h0:K0=K .ret (Zzu a3 b4))(h1:K1= λi7 t8=>K (.exit 0) (Zzv a3 b4 i7 t8))(n:Nat)(i5:Int):Zdr N a3 b4 K0 K1 n i5=LM Zn6 N 0 100004 n (Z3j a3 b4 i5) K:=by
  subst h0 h1
  induction n generalizing i5 with
  |zero=>kernel_rfl
  |succ n ih=>rw[Zdr];simp only[ih];kernel_rfl
theorem Zaes(a1:List Y_Root)(b2:List Y_Root):DN Zn6 N (a1,b2,())=Zj3 N a1 b2:=by
  conv=>rhs;rw[Zj3];simp(disch:=exact id (by kernel_rfl)) only[Z3k (R:=Unit×Ko) N (CF Zn6 N [1,1,0,1,0])]
  kernel_rfl
def Zaet:Gd:=GF Zn6 func32 (λN d=>Zaes N d.1 d.2.1)
def Zaeu:Fn:=⟨f79,Wu,λN=>Sig.of [vt_ Jv,vt_ Jv] [vf_ Jp] (λd=>Zpu N d.1 d.2.1),CX [Zlu]⟩
def Zaev:Gd:=GF Zaeu func79
def Zml:Fn:=⟨f33,λ |4=>cn_ [0,1,5,14]|5=>cn_ [0,1,5]|6=>cn_ [0,1,5,26]|7=>cn_ [4]|100004=>cn_ [0,1,5]|_=>[],λN=>Sig.of [vf_ Jao,vf_ Jao] [vf_ Jp] (λd=>Ziv N d.1 d.2.1),CX [Zaev]⟩
def Zzw(a3:List Kn)(b4:List Kn)(i5:Int):St:=⟨[(0,vV Jao a3),(1,vV Jao b4),(5,vI i5)],[],0⟩
def Zwn(a3:List Kn)(b4:List Kn):St:=⟨[(4,vB false)],[],0⟩
def Zwo(a3:List Kn)(b4:List Kn)(i7:Int)(t8:Bool):St:=⟨[(0,vV Jao a3),(1,vV Jao b4),(5,vI i7),(14,vB t8)],[],0⟩
theorem Zzx{a3:List Kn}{b4:List Kn}{K0:Option R}{K1:Int->Bool->Option R}(h0:K0=K .ret (Zwn a3 b4))(h1:K1= λi7 t8=>K (.exit 0) (Zwo a3 b4 i7 t8))(n:Nat)(i5:Int):Zc0 N a3 b4 K0 K1 n i5=LM Zml N 0 100004 n (Zzw a3 b4 i5) K:=by
  subst h0 h1
  induction n generalizing i5 with
  |zero=>kernel_rfl
  |succ n ih=>rw[Zc0];simp only[ih];kernel_rfl
theorem Zabl(a1:List Kn)(b2:List Kn):DN Zml N (a1,b2,())=Ziv N a1 b2:=by
  conv=>rhs;rw[Ziv];simp(disch:=exact id (by kernel_rfl)) only[Zzx (R:=Unit×Ko) N (CF Zml N [1,1,0,1,0])]
  kernel_rfl
def Zabm:Gd:=GF Zml func33 (λN d=>Zabl N d.1 d.2.1)
def Zaew:Fn:=⟨f9,Wu,λN=>Sig.of [vt_ (TY_World),vt_ (TY_World)] [vf_ Jp] (λd=>Zj4 N d.1 d.2.1),CX [Zail,Zaei,Zaek,Zaet,Zabm]⟩
def Zaex:Gd:=GF Zaew func9
def Zabn:Fn:=⟨f34,Wu,λN=>Sig.of [vt_ Jal,vt_ Jal] [vf_ Jp] (λd=>Zoo N d.1 d.2.1),CX [Zeu]⟩
def Zabo:Gd:=GF Zabn func34
def Zajj:Fn:=⟨f229,Wu,λN=>Sig.of [vt_ Jq,vt_ Jq] [vf_ Jp] (λd=>Zse N d.1 d.2.1),WR⟩
def Zajk:Gd:=GN Zajj func229
def Zp4:Fn:=⟨f157,λ |4=>cn_ [0,1,5,14]|5=>cn_ [0,1,5]|6=>cn_ [0,1,5,26]|7=>cn_ [4]|100004=>cn_ [0,1,5]|_=>[],λN=>Sig.of [vf_ Jg,vf_ Jg] [vf_ Jp] (λd=>Zkc N d.1 d.2.1),CX [Zajk]⟩
def Z83(a3:List Ka)(b4:List Ka)(i5:Int):St:=⟨[(0,vV Jg a3),(1,vV Jg b4),(5,vI i5)],[],0⟩
def Z6h(a3:List Ka)(b4:List Ka):St:=⟨[(4,vB false)],[],0⟩
def Z6i(a3:List Ka)(b4:List Ka)(i7:Int)(t8:Bool):St:=⟨[(0,vV Jg a3),(1,vV Jg b4),(5,vI i7),(14,vB t8)],[],0⟩
theorem Z84{a3:List Ka}{b4:List Ka}{K0:Option R}{K1:Int->Bool->Option R}(h0:K0=K .ret (Z6h a3 b4))(h1:K1= λi7 t8=>K (.exit 0) (Z6i a3 b4 i7 t8))(n:Nat)(i5:Int):Zfq N a3 b4 K0 K1 n i5=LM Zp4 N 0 100004 n (Z83 a3 b4 i5) K:=by
  subst h0 h1
  induction n generalizing i5 with
  |zero=>kernel_rfl
  |succ n ih=>rw[Zfq];simp only[ih];kernel_rfl
theorem Zaio(a1:List Ka)(b2:List Ka):DN Zp4 N (a1,b2,())=Zkc N a1 b2:=by
  conv=>rhs;rw[Zkc];simp(disch:=exact id (by kernel_rfl)) only[Z84 (R:=Unit×Ko) N (CF Zp4 N [1,1,0,1,0])]
  kernel_rfl
def Zzy:Gd:=GF Zp4 func157 (λN d=>Zaio N d.1 d.2.1)
def Zaip:Fn:=⟨f230,Wu,λN=>Sig.of [vt_ Jg,vt_ Jg] [vf_ Jp] (λd=>Zrl N d.1 d.2.1),CX [Zzy]⟩
def Zaiq:Gd:=GF Zaip func230
def Zpd:Fn:=⟨f158,λ |4=>cn_ [0,1,5,14]|5=>cn_ [0,1,5]|6=>cn_ [0,1,5,26]|7=>cn_ [4]|100004=>cn_ [0,1,5]|_=>[],λN=>Sig.of [vf_ Jad,vf_ Jad] [vf_ Jp] (λd=>Zk4 N d.1 d.2.1),CX [Zaiq]⟩
def Z6j(a3:List Kz)(b4:List Kz)(i5:Int):St:=⟨[(0,vV Jad a3),(1,vV Jad b4),(5,vI i5)],[],0⟩
def Z3l(a3:List Kz)(b4:List Kz):St:=⟨[(4,vB false)],[],0⟩
def Z3m(a3:List Kz)(b4:List Kz)(i7:Int)(t8:Bool):St:=⟨[(0,vV Jad a3),(1,vV Jad b4),(5,vI i7),(14,vB t8)],[],0⟩
theorem Z6k{a3:List Kz}{b4:List Kz}{K0:Option R}{K1:Int->Bool->Option R}(h0:K0=K .ret (Z3l a3 b4))(h1:K1= λi7 t8=>K (.exit 0) (Z3m a3 b4 i7 t8))(n:Nat)(i5:Int):Zej N a3 b4 K0 K1 n i5=LM Zpd N 0 100004 n (Z6j a3 b4 i5) K:=by
  subst h0 h1
  induction n generalizing i5 with
  |zero=>kernel_rfl
  |succ n ih=>rw[Zej];simp only[ih];kernel_rfl
theorem Zahe(a1:List Kz)(b2:List Kz):DN Zpd N (a1,b2,())=Zk4 N a1 b2:=by
  conv=>rhs;rw[Zk4];simp(disch:=exact id (by kernel_rfl)) only[Z6k (R:=Unit×Ko) N (CF Zpd N [1,1,0,1,0])]
  kernel_rfl
def Zahf:Gd:=GF Zpd func158 (λN d=>Zahe N d.1 d.2.1)
def Zahg:Fn:=⟨f80,Wu,λN=>Sig.of [vt_ Jaj,vt_ Jaj] [vf_ Jp] (λd=>Zqq N d.1 d.2.1),CX [Zzy,Zahf]⟩
def Zahh:Gd:=GF Zahg func80
def Zn7:Fn:=⟨f35,λ |4=>cn_ [0,1,5,14]|5=>cn_ [0,1,5]|6=>cn_ [0,1,5,26]|7=>cn_ [4]|100004=>cn_ [0,1,5]|_=>[],λN=>Sig.of [vf_ Jm,vf_ Jm] [vf_ Jp] (λd=>Zjz N d.1 d.2.1),CX [Zahh]⟩
def Z3n(a3:List Km)(b4:List Km)(i5:Int):St:=⟨[(0,vV Jm a3),(1,vV Jm b4),(5,vI i5)],[],0⟩
def Zzz(a3:List Km)(b4:List Km):St:=⟨[(4,vB false)],[],0⟩
def Zz0(a3:List Km)(b4:List Km)(i7:Int)(t8:Bool):St:=⟨[(0,vV Jm a3),(1,vV Jm b4),(5,vI i7),(14,vB t8)],[],0⟩
theorem Z3o{a3:List Km}{b4:List Km}{K0:Option R}{K1:Int->Bool->Option R}(h0:K0=K .ret (Zzz a3 b4))(h1:K1= λi7 t8=>K (.exit 0) (Zz0 a3 b4 i7 t8))(n:Nat)(i5:Int):Zdj N a3 b4 K0 K1 n i5=LM Zn7 N 0 100004 n (Z3n a3 b4 i5) K:=by
  subst h0 h1
  induction n generalizing i5 with
  |zero=>kernel_rfl
  |succ n ih=>rw[Zdj];simp only[ih];kernel_rfl
theorem Zaey(a1:List Km)(b2:List Km):DN Zn7 N (a1,b2,())=Zjz N a1 b2:=by
  conv=>rhs;rw[Zjz];simp(disch:=exact id (by kernel_rfl)) only[Z3o (R:=Unit×Ko) N (CF Zn7 N [1,1,0,1,0])]
  kernel_rfl
def Zaez:Gd:=GF Zn7 func35 (λN d=>Zaey N d.1 d.2.1)
def Zair:Fn:=⟨f81,Wu,λN=>Sig.of [vt_ Jb,vt_ Jb] [vf_ Jp] (λd=>Zro N d.1 d.2.1),WR⟩
def Zais:Gd:=GN Zair func81
def Zpe:Fn:=⟨f36,λ |4=>cn_ [0,1,5,14]|5=>cn_ [0,1,5]|6=>cn_ [0,1,5,26]|7=>cn_ [4]|100004=>cn_ [0,1,5]|_=>[],λN=>Sig.of [vf_ Jn,vf_ Jn] [vf_ Jp] (λd=>Zlb N d.1 d.2.1),CX [Zais]⟩
def Z6l(a3:List Kb)(b4:List Kb)(i5:Int):St:=⟨[(0,vV Jn a3),(1,vV Jn b4),(5,vI i5)],[],0⟩
def Z3p(a3:List Kb)(b4:List Kb):St:=⟨[(4,vB false)],[],0⟩
def Z3q(a3:List Kb)(b4:List Kb)(i7:Int)(t8:Bool):St:=⟨[(0,vV Jn a3),(1,vV Jn b4),(5,vI i7),(14,vB t8)],[],0⟩
theorem Z6m{a3:List Kb}{b4:List Kb}{K0:Option R}{K1:Int->Bool->Option R}(h0:K0=K .ret (Z3p a3 b4))(h1:K1= λi7 t8=>K (.exit 0) (Z3q a3 b4 i7 t8))(n:Nat)(i5:Int):Zeo N a3 b4 K0 K1 n i5=LM Zpe N 0 100004 n (Z6l a3 b4 i5) K:=by
  subst h0 h1
  induction n generalizing i5 with
  |zero=>kernel_rfl
  |succ n ih=>rw[Zeo];simp only[ih];kernel_rfl
theorem Zahi(a1:List Kb)(b2:List Kb):DN Zpe N (a1,b2,())=Zlb N a1 b2:=by
  conv=>rhs;rw[Zlb];simp(disch:=exact id (by kernel_rfl)) only[Z6m (R:=Unit×Ko) N (CF Zpe N [1,1,0,1,0])]
  kernel_rfl
def Zahj:Gd:=GF Zpe func36 (λN d=>Zahi N d.1 d.2.1)
def Zabp:Fn:=⟨f10,Wu,λN=>Sig.of [vt_ Jt,vt_ Jt] [vf_ Jp] (λd=>Zop N d.1 d.2.1),CX [Zabo,Zaez,Zahj]⟩
def Zabq:Gd:=GF Zabp func10
def Zmm:Fn:=⟨f82,λ |2=>cn_ [0,1,5,9]|3=>cn_ [0,1,5]|4=>cn_ [0,1,5]|5=>cn_ [0,1,5]|100002=>cn_ [0,1,5]|_=>[],λN=>Sig.of [.mut Ja,vf_ Ja] [vf_ Ja] (λd=>Z8 N d.1 d.2.1),WR⟩
def Zz1(k3:Int)(i4:Int)(l5:List Int):St:=⟨[(0,vO 0),(1,vI k3),(5,vI i4)],[(0,.arr Ja l5)],1⟩
def Zwp(k6:Int)(i7:Int)(t8:Bool)(l9:List Int):St:=⟨[(0,vO 0),(1,vI k6),(5,vI i7),(9,vB t8)],[(0,.arr Ja l9)],1⟩
theorem Zz2{K0:Int->Int->Bool->Kj->Option R}(h0:K0= λk6 i7 t8 l9=>K (.exit 0) (Zwp k6 i7 t8 l9))(n:Nat)(k3:Int)(i4:Int)(l5:List Int):Zcu N K0 n k3 i4 l5=LM Zmm N 0 100002 n (Zz1 k3 i4 l5) K:=by
  subst h0
  induction n generalizing k3 i4 l5 with
  |zero=>kernel_rfl
  |succ n ih=>rw[Zcu];simp only[ih];kernel_rfl
theorem Zabr(a1:List Int)(k2:Int):DN Zmm N (a1,k2,())=Z8 N a1 k2:=by
  conv=>rhs;rw[Z8];simp(disch:=exact id (by kernel_rfl)) only[Zz2 (R:=Kad×Kh) N (CF Zmm N [1,0,1,0])]
  kernel_rfl
def Zhg:Gd:=GN Zmm func82 (λN d=>Zabr N d.1 d.2.1)
def Z6n:Fn:=⟨f37,Wu,λN=>Sig.of [.kv (.prod Jah Jaq) true,vf_ Ja] [vf_ Ja] (λd=>Zp8 N d.1 d.2.1),CX [Zhg]⟩
def Z6o:Gd:=GF Z6n func37
def Zn8:Fn:=⟨f83,λ |2=>cn_ [0,1,5,9]|3=>cn_ [0,1,5]|4=>cn_ [0,1,5]|5=>cn_ [0,1,5]|6=>cn_ [0,1,5]|7=>cn_ [0,1,5]|8=>cn_ [0,1,5]|9=>cn_ [0,1,5]|10=>cn_ [0,1,5]|11=>cn_ [0,1,5]|100002=>cn_ [0,1,5]|_=>[],λN=>Sig.of [.mut Jq,vf_ Ja] [vf_ Ja] (λd=>Zhu N d.1 d.2.1),WR⟩
def Z3r(k3:Int)(i4:Int)(l5:List Ka):St:=⟨[(0,vO 0),(1,vI k3),(5,vI i4)],[(0,.arr Jq l5)],1⟩
def Zz3(k9:Int)(aV:Int)(aq:Bool)(bJ:List Ka):St:=⟨[(0,vO 0),(1,vI k9),(5,vI aV),(9,vB aq)],[(0,.arr Jq bJ)],1⟩
theorem Z3s{K0:Int->Int->Bool->Kz->Option R}(h0:K0= λk9 aV aq bJ=>K (.exit 0) (Zz3 k9 aV aq bJ))(n:Nat)(k3:Int)(i4:Int)(l5:List Ka):Zc7 N K0 n k3 i4 l5=LM Zn8 N 0 100002 n (Z3r k3 i4 l5) K:=by
  subst h0
  induction n generalizing k3 i4 l5 with
  |zero=>kernel_rfl
  |succ n ih=>rw[Zc7];simp only[ih];kernel_rfl
theorem Zae0(a1:List Ka)(k2:Int):DN Zn8 N (a1,k2,())=Zhu N a1 k2:=by
  conv=>rhs;rw[Zhu];simp(disch:=exact id (by kernel_rfl)) only[Z3s (R:=(Kz×Unit)×Kh) N (CF Zn8 N [1,0,1,0])]
  kernel_rfl
def Ztv:Gd:=GN Zn8 func83 (λN d=>Zae0 N d.1 d.2.1)
def Zmn:Fn:=⟨f84,λ |2=>cn_ [0,1,5,9]|3=>cn_ [0,1,5]|4=>[.opn 14,.refold 14,.canon [0,1,5]]|100002=>cn_ [0,1,5]|_=>[],λN=>Sig.of [.mut (.own Jq),vf_ Ja] [vf_ Ja] (λd=>Ziq N d.1 d.2.1),CX [Ztv]⟩
def Zz4(k3:Int)(i4:Int)(l5:List Kz):St:=⟨[(0,vO 0),(1,vI k3),(5,vI i4)],[(0,.arr (.own Jq) l5)],1⟩
def Zwq(k7:Int)(i8:Int)(t9:Bool)(cn:List Kz):St:=⟨[(0,vO 0),(1,vI k7),(5,vI i8),(9,vB t9)],[(0,.arr (.own Jq) cn)],1⟩
theorem Zz5{K0:Int->Int->Bool->Kw->Option R}(h0:K0= λk7 i8 t9 cn=>K (.exit 0) (Zwq k7 i8 t9 cn))(n:Nat)(k3:Int)(i4:Int)(l5:List Kz):Zcw N K0 n k3 i4 l5=LM Zmn N 0 100002 n (Zz4 k3 i4 l5) K:=by
  subst h0
  induction n generalizing k3 i4 l5 with
  |zero=>kernel_rfl
  |succ n ih=>rw[Zcw];simp only[ih];kernel_rfl
theorem Zabs(a1:List Kz)(k2:Int):DN Zmn N (a1,k2,())=Ziq N a1 k2:=by
  conv=>rhs;rw[Ziq];simp(disch:=exact id (by kernel_rfl)) only[Zz5 (R:=(Kw×Unit)×Kh) N (CF Zmn N [1,0,1,0])]
  kernel_rfl
def Zabt:Gd:=GF Zmn func84 (λN d=>Zabs N d.1 d.2.1)
def Zlw:Fn:=⟨f38,λ |2=>cn_ [0,1,5,9]|3=>cn_ [0,1,5]|4=>[.opn 14,.canon [0,1,5]]|5=>[.refold 21,.canon [0,1,5]]|100002=>cn_ [0,1,5]|_=>[],λN=>Sig.of [.mut Jac,vf_ Ja] [vf_ Ja] (λd=>Zh2 N d.1 d.2.1),CX [Ztv,Zabt]⟩
def Zwr(k3:Int)(i4:Int)(l5:List Km):St:=⟨[(0,vO 0),(1,vI k3),(5,vI i4)],[(0,.arr Jac l5)],1⟩
def Zuq(k8:Int)(i9:Int)(ar:Bool)(aA:List Km):St:=⟨[(0,vO 0),(1,vI k8),(5,vI i9),(9,vB ar)],[(0,.arr Jac aA)],1⟩
theorem Zws{K0:Int->Int->Bool->Kah->Option R}(h0:K0= λk8 i9 ar aA=>K (.exit 0) (Zuq k8 i9 ar aA))(n:Nat)(k3:Int)(i4:Int)(l5:List Km):Zca N K0 n k3 i4 l5=LM Zlw N 0 100002 n (Zwr k3 i4 l5) K:=by
  subst h0
  induction n generalizing k3 i4 l5 with
  |zero=>kernel_rfl
  |succ n ih=>rw[Zca];simp only[ih];kernel_rfl
theorem Z85(a1:List Km)(k2:Int):DN Zlw N (a1,k2,())=Zh2 N a1 k2:=by
  conv=>rhs;rw[Zh2];simp(disch:=exact id (by kernel_rfl)) only[Zws (R:=(Kah×Unit)×Kh) N (CF Zlw N [1,0,1,0])]
  kernel_rfl
def Z86:Gd:=GF Zlw func38 (λN d=>Z85 N d.1 d.2.1)
def Zmo:Fn:=⟨f39,λ |2=>cn_ [0,1,5,9]|3=>cn_ [0,1,5]|4=>cn_ [0,1,5]|5=>cn_ [0,1,5]|6=>cn_ [0,1,5]|7=>cn_ [0,1,5]|8=>cn_ [0,1,5]|9=>cn_ [0,1,5]|100002=>cn_ [0,1,5]|_=>[],λN=>Sig.of [.mut Jb,vf_ Ja] [vf_ Ja] (λd=>Ziu N d.1 d.2.1),WR⟩
def Zz6(k3:Int)(i4:Int)(l5:List Kb):St:=⟨[(0,vO 0),(1,vI k3),(5,vI i4)],[(0,.arr Jb l5)],1⟩
def Zwt(k8:Int)(i9:Int)(ar:Bool)(aA:List Kb):St:=⟨[(0,vO 0),(1,vI k8),(5,vI i9),(9,vB ar)],[(0,.arr Jb aA)],1⟩
theorem Zz7{K0:Int->Int->Bool->Kq->Option R}(h0:K0= λk8 i9 ar aA=>K (.exit 0) (Zwt k8 i9 ar aA))(n:Nat)(k3:Int)(i4:Int)(l5:List Kb):Zcz N K0 n k3 i4 l5=LM Zmo N 0 100002 n (Zz6 k3 i4 l5) K:=by
  subst h0
  induction n generalizing k3 i4 l5 with
  |zero=>kernel_rfl
  |succ n ih=>rw[Zcz];simp only[ih];kernel_rfl
theorem Zabu(a1:List Kb)(k2:Int):DN Zmo N (a1,k2,())=Ziu N a1 k2:=by
  conv=>rhs;rw[Ziu];simp(disch:=exact id (by kernel_rfl)) only[Zz7 (R:=Kaa×Kh) N (CF Zmo N [1,0,1,0])]
  kernel_rfl
def Zabv:Gd:=GN Zmo func39 (λN d=>Zabu N d.1 d.2.1)
def Z6p:Fn:=⟨f11,Wu,λN=>Sig.of [.kv (.prod (.prod Jah Jaq) (.prod (.own Jac) Jak)) true,vf_ Ja] [vf_ Ja] (λd=>Zme N d.1 d.2.1),CX [Z6o,Z86,Zabv]⟩
def Z6q:Gd:=GF Z6p func11
def Zlx:Fn:=⟨f85,λ |2=>cn_ [0,1,5,9]|3=>cn_ [0,1,5]|4=>cn_ [0,1,5]|5=>cn_ [0,1,5]|6=>cn_ [0,1,5]|7=>cn_ [0,1,5]|8=>cn_ [0,1,5]|9=>cn_ [0,1,5]|100002=>cn_ [0,1,5]|_=>[],λN=>Sig.of [.mut Jb,vf_ Ja] [vf_ Ja] (λd=>Zhv N d.1 d.2.1),WR⟩
def Zwu(k3:Int)(i4:Int)(l5:List Kb):St:=⟨[(0,vO 0),(1,vI k3),(5,vI i4)],[(0,.arr Jb l5)],1⟩
def Zur(k8:Int)(i9:Int)(ar:Bool)(aA:List Kb):St:=⟨[(0,vO 0),(1,vI k8),(5,vI i9),(9,vB ar)],[(0,.arr Jb aA)],1⟩
theorem Zwv{K0:Int->Int->Bool->Kq->Option R}(h0:K0= λk8 i9 ar aA=>K (.exit 0) (Zur k8 i9 ar aA))(n:Nat)(k3:Int)(i4:Int)(l5:List Kb):Zb8 N K0 n k3 i4 l5=LM Zlx N 0 100002 n (Zwu k3 i4 l5) K:=by
  subst h0
  induction n generalizing k3 i4 l5 with
  |zero=>kernel_rfl
  |succ n ih=>rw[Zb8];simp only[ih];kernel_rfl
theorem Z87(a1:List Kb)(k2:Int):DN Zlx N (a1,k2,())=Zhv N a1 k2:=by
  conv=>rhs;rw[Zhv];simp(disch:=exact id (by kernel_rfl)) only[Zwv (R:=Kaa×Kh) N (CF Zlx N [1,0,1,0])]
  kernel_rfl
def Z88:Gd:=GN Zlx func85 (λN d=>Z87 N d.1 d.2.1)
def Zae1:Fn:=⟨f40,Wu,λN=>Sig.of [.kv Jz true,vf_ Ja] [vf_ Ja] (λd=>Zr4 N d.1 d.2.1),CX [Z88]⟩
def Zae2:Gd:=GF Zae1 func40
def Z89:Fn:=⟨f41,Wu,λN=>Sig.of [.kv Jaq true,vf_ Ja] [vf_ Ja] (λd=>Zq5 N d.1 d.2.1),CX [Zhg]⟩
def Z9a:Gd:=GF Z89 func41
def Zly:Fn:=⟨f42,λ |2=>cn_ [0,1,5,9]|3=>cn_ [0,1,5]|4=>cn_ [0,1,5]|5=>cn_ [0,1,5]|6=>cn_ [0,1,5]|7=>cn_ [0,1,5]|8=>cn_ [0,1,5]|9=>cn_ [0,1,5]|100002=>cn_ [0,1,5]|_=>[],λN=>Sig.of [.mut Jb,vf_ Ja] [vf_ Ja] (λd=>Zh3 N d.1 d.2.1),WR⟩
def Zww(k3:Int)(i4:Int)(l5:List Kb):St:=⟨[(0,vO 0),(1,vI k3),(5,vI i4)],[(0,.arr Jb l5)],1⟩
def Zus(k8:Int)(i9:Int)(ar:Bool)(aA:List Kb):St:=⟨[(0,vO 0),(1,vI k8),(5,vI i9),(9,vB ar)],[(0,.arr Jb aA)],1⟩
theorem Zwx{K0:Int->Int->Bool->Kq->Option R}(h0:K0= λk8 i9 ar aA=>K (.exit 0) (Zus k8 i9 ar aA))(n:Nat)(k3:Int)(i4:Int)(l5:List Kb):Zcb N K0 n k3 i4 l5=LM Zly N 0 100002 n (Zww k3 i4 l5) K:=by
  subst h0
  induction n generalizing k3 i4 l5 with
  |zero=>kernel_rfl
  |succ n ih=>rw[Zcb];simp only[ih];kernel_rfl
theorem Z9b(a1:List Kb)(k2:Int):DN Zly N (a1,k2,())=Zh3 N a1 k2:=by
  conv=>rhs;rw[Zh3];simp(disch:=exact id (by kernel_rfl)) only[Zwx (R:=Kaa×Kh) N (CF Zly N [1,0,1,0])]
  kernel_rfl
def Z9c:Gd:=GN Zly func42 (λN d=>Z9b N d.1 d.2.1)
def Zmp:Fn:=⟨f86,λ |2=>cn_ [0,1,5,9]|3=>cn_ [0,1,5]|4=>cn_ [0,1,5]|5=>cn_ [0,1,5]|6=>cn_ [0,1,5]|7=>cn_ [0,1,5]|100002=>cn_ [0,1,5]|_=>[],λN=>Sig.of [.mut Ju,vf_ Ja] [vf_ Ja] (λd=>Zas N d.1 d.2.1),WR⟩
def Zz8(k3:Int)(i4:Int)(l5:List Kc):St:=⟨[(0,vO 0),(1,vI k3),(5,vI i4)],[(0,.arr Ju l5)],1⟩
def Zwy(k7:Int)(i8:Int)(t9:Bool)(cn:List Kc):St:=⟨[(0,vO 0),(1,vI k7),(5,vI i8),(9,vB t9)],[(0,.arr Ju cn)],1⟩
theorem Zz9{K0:Int->Int->Bool->Kv->Option R}(h0:K0= λk7 i8 t9 cn=>K (.exit 0) (Zwy k7 i8 t9 cn))(n:Nat)(k3:Int)(i4:Int)(l5:List Kc):Zcv N K0 n k3 i4 l5=LM Zmp N 0 100002 n (Zz8 k3 i4 l5) K:=by
  subst h0
  induction n generalizing k3 i4 l5 with
  |zero=>kernel_rfl
  |succ n ih=>rw[Zcv];simp only[ih];kernel_rfl
theorem Zabw(a1:List Kc)(k2:Int):DN Zmp N (a1,k2,())=Zas N a1 k2:=by
  conv=>rhs;rw[Zas];simp(disch:=exact id (by kernel_rfl)) only[Zz9 (R:=Kae×Kh) N (CF Zmp N [1,0,1,0])]
  kernel_rfl
def Zp9:Gd:=GN Zmp func86 (λN d=>Zabw N d.1 d.2.1)
def Zlz:Fn:=⟨f87,λ |2=>cn_ [0,1,5,9]|3=>cn_ [0,1,5]|4=>[.opn 15,.canon [0,1,5]]|5=>cn_ [0,1,5]|6=>cn_ [0,1,5]|7=>cn_ [0,1,5]|8=>cn_ [0,1,5]|9=>cn_ [0,1,5]|10=>cn_ [0,1,5]|11=>cn_ [0,1,5]|12=>[.refold 42,.canon [0,1,5]]|100002=>cn_ [0,1,5]|_=>[],λN=>Sig.of [.mut Jap,vf_ Ja] [vf_ Ja] (λd=>Zh4 N d.1 d.2.1),CX [Zhg]⟩
def Zwz(k3:Int)(i4:Int)(l5:List Kf):St:=⟨[(0,vO 0),(1,vI k3),(5,vI i4)],[(0,.arr Jap l5)],1⟩
def Zut(k7:Int)(i8:Int)(t9:Bool)(cn:List Kf):St:=⟨[(0,vO 0),(1,vI k7),(5,vI i8),(9,vB t9)],[(0,.arr Jap cn)],1⟩
theorem Zw0{K0:Int->Int->Bool->(List Kf)->Option R}(h0:K0= λk7 i8 t9 cn=>K (.exit 0) (Zut k7 i8 t9 cn))(n:Nat)(k3:Int)(i4:Int)(l5:List Kf):Zcc N K0 n k3 i4 l5=LM Zlz N 0 100002 n (Zwz k3 i4 l5) K:=by
  subst h0
  induction n generalizing k3 i4 l5 with
  |zero=>kernel_rfl
  |succ n ih=>rw[Zcc];simp only[ih];kernel_rfl
theorem Z9d(a1:List Kf)(k2:Int):DN Zlz N (a1,k2,())=Zh4 N a1 k2:=by
  conv=>rhs;rw[Zh4];simp(disch:=exact id (by kernel_rfl)) only[Zw0 (R:=((List Kf)×Unit)×Kh) N (CF Zlz N [1,0,1,0])]
  kernel_rfl
def Z9e:Gd:=GF Zlz func87 (λN d=>Z9d N d.1 d.2.1)
def Zl0:Fn:=⟨f88,λ |2=>cn_ [0,1,5,9]|3=>cn_ [0,1,5]|4=>cn_ [0,1,5]|5=>cn_ [0,1,5]|6=>cn_ [0,1,5]|7=>cn_ [0,1,5]|8=>cn_ [0,1,5]|9=>cn_ [0,1,5]|100002=>cn_ [0,1,5]|_=>[],λN=>Sig.of [.mut Jb,vf_ Ja] [vf_ Ja] (λd=>Zh5 N d.1 d.2.1),WR⟩
def Zw1(k3:Int)(i4:Int)(l5:List Kb):St:=⟨[(0,vO 0),(1,vI k3),(5,vI i4)],[(0,.arr Jb l5)],1⟩
def Zuu(k8:Int)(i9:Int)(ar:Bool)(aA:List Kb):St:=⟨[(0,vO 0),(1,vI k8),(5,vI i9),(9,vB ar)],[(0,.arr Jb aA)],1⟩
theorem Zw2{K0:Int->Int->Bool->Kq->Option R}(h0:K0= λk8 i9 ar aA=>K (.exit 0) (Zuu k8 i9 ar aA))(n:Nat)(k3:Int)(i4:Int)(l5:List Kb):Zcd N K0 n k3 i4 l5=LM Zl0 N 0 100002 n (Zw1 k3 i4 l5) K:=by
  subst h0
  induction n generalizing k3 i4 l5 with
  |zero=>kernel_rfl
  |succ n ih=>rw[Zcd];simp only[ih];kernel_rfl
theorem Z9f(a1:List Kb)(k2:Int):DN Zl0 N (a1,k2,())=Zh5 N a1 k2:=by
  conv=>rhs;rw[Zh5];simp(disch:=exact id (by kernel_rfl)) only[Zw2 (R:=Kaa×Kh) N (CF Zl0 N [1,0,1,0])]
  kernel_rfl
def Z9g:Gd:=GN Zl0 func88 (λN d=>Z9f N d.1 d.2.1)
def Zku:Fn:=⟨f89,λ |2=>cn_ [0,1,5,9]|3=>cn_ [0,1,5]|4=>cn_ [0,1,5]|5=>cn_ [0,1,5]|6=>cn_ [0,1,5]|7=>cn_ [0,1,5]|8=>cn_ [0,1,5]|9=>cn_ [0,1,5]|100002=>cn_ [0,1,5]|_=>[],λN=>Sig.of [.mut Jb,vf_ Ja] [vf_ Ja] (λd=>Zek N d.1 d.2.1),WR⟩
def Zuv(k3:Int)(i4:Int)(l5:List Kb):St:=⟨[(0,vO 0),(1,vI k3),(5,vI i4)],[(0,.arr Jb l5)],1⟩
def Ztw(k8:Int)(i9:Int)(ar:Bool)(aA:List Kb):St:=⟨[(0,vO 0),(1,vI k8),(5,vI i9),(9,vB ar)],[(0,.arr Jb aA)],1⟩
theorem Zuw{K0:Int->Int->Bool->Kq->Option R}(h0:K0= λk8 i9 ar aA=>K (.exit 0) (Ztw k8 i9 ar aA))(n:Nat)(k3:Int)(i4:Int)(l5:List Kb):Zbv N K0 n k3 i4 l5=LM Zku N 0 100002 n (Zuv k3 i4 l5) K:=by
  subst h0
  induction n generalizing k3 i4 l5 with
  |zero=>kernel_rfl
  |succ n ih=>rw[Zbv];simp only[ih];kernel_rfl
theorem Z6r(a1:List Kb)(k2:Int):DN Zku N (a1,k2,())=Zek N a1 k2:=by
  conv=>rhs;rw[Zek];simp(disch:=exact id (by kernel_rfl)) only[Zuw (R:=Kaa×Kh) N (CF Zku N [1,0,1,0])]
  kernel_rfl
def Zr2:Gd:=GN Zku func89 (λN d=>Z6r N d.1 d.2.1)
def Ziy:Fn:=⟨f159,λ |2=>cn_ [0,1,5,9]|3=>cn_ [0,1,5]|4=>[.opn 15,.canon [0,1,5]]|5=>cn_ [0,1,5]|6=>cn_ [0,1,5]|7=>cn_ [0,1,5]|8=>[.refold 28,.canon [0,1,5]]|100002=>cn_ [0,1,5]|_=>[],λN=>Sig.of [.mut Je,vf_ Ja] [vf_ Ja] (λd=>Zey N d.1 d.2.1),CX [Zhg]⟩
def Zta(k3:Int)(i4:Int)(l5:List Ki):St:=⟨[(0,vO 0),(1,vI k3),(5,vI i4)],[(0,.arr Je l5)],1⟩
def Zst(k7:Int)(i8:Int)(t9:Bool)(cn:List Ki):St:=⟨[(0,vO 0),(1,vI k7),(5,vI i8),(9,vB t9)],[(0,.arr Je cn)],1⟩
theorem Ztb{K0:Int->Int->Bool->(List Ki)->Option R}(h0:K0= λk7 i8 t9 cn=>K (.exit 0) (Zst k7 i8 t9 cn))(n:Nat)(k3:Int)(i4:Int)(l5:List Ki):Za2 N K0 n k3 i4 l5=LM Ziy N 0 100002 n (Zta k3 i4 l5) K:=by
  subst h0
  induction n generalizing k3 i4 l5 with
  |zero=>kernel_rfl
  |succ n ih=>rw[Za2];simp only[ih];kernel_rfl
theorem Z0a(a1:List Ki)(k2:Int):DN Ziy N (a1,k2,())=Zey N a1 k2:=by
  conv=>rhs;rw[Zey];simp(disch:=exact id (by kernel_rfl)) only[Ztb (R:=((List Ki)×Unit)×Kh) N (CF Ziy N [1,0,1,0])]
  kernel_rfl
def Z0b:Gd:=GF Ziy func159 (λN d=>Z0a N d.1 d.2.1)
def Zjd:Fn:=⟨f90,λ |2=>cn_ [0,1,5,9]|3=>cn_ [0,1,5]|4=>[.opn 15,.canon [0,1,5]]|5=>cn_ [0,1,5]|6=>cn_ [0,1,5]|7=>cn_ [0,1,5]|8=>cn_ [0,1,5]|9=>cn_ [0,1,5]|10=>cn_ [0,1,5]|11=>cn_ [0,1,5]|12=>cn_ [0,1,5]|13=>cn_ [0,1,5]|14=>cn_ [0,1,5]|15=>cn_ [0,1,5]|16=>cn_ [0,1,5]|17=>cn_ [0,1,5]|18=>cn_ [0,1,5]|19=>cn_ [0,1,5]|20=>cn_ [0,1,5]|21=>cn_ [0,1,5]|22=>cn_ [0,1,5]|23=>cn_ [0,1,5]|24=>cn_ [0,1,5]|25=>cn_ [0,1,5]|26=>cn_ [0,1,5]|27=>cn_ [0,1,5]|28=>[.refold 118,.canon [0,1,5]]|29=>cn_ [0,1,5]|100002=>cn_ [0,1,5]|_=>[],λN=>Sig.of [.mut Jk,vf_ Ja] [vf_ Ja] (λd=>Zf4 N d.1 d.2.1),CX [Zhg,Zr2,Zp9,Z0b]⟩
def Ztx(k3:Int)(i4:Int)(l5:List Y_KidRun):St:=⟨[(0,vO 0),(1,vI k3),(5,vI i4)],[(0,.arr Jk l5)],1⟩
def Ztc(k10:Int)(bp:Int)(ax:Bool)(aG:List Y_KidRun):St:=⟨[(0,vO 0),(1,vI k10),(5,vI bp),(9,vB ax)],[(0,.arr Jk aG)],1⟩
theorem Zty{K0:Int->Int->Bool->(List Y_KidRun)->Option R}(h0:K0= λk10 bp ax aG=>K (.exit 0) (Ztc k10 bp ax aG))(n:Nat)(k3:Int)(i4:Int)(l5:List Y_KidRun):Zbg N K0 n k3 i4 l5=LM Zjd N 0 100002 n (Ztx k3 i4 l5) K:=by
  subst h0
  induction n generalizing k3 i4 l5 with
  |zero=>kernel_rfl
  |succ n ih=>rw[Zbg];simp only[ih];kernel_rfl
theorem Z3t(a1:List Y_KidRun)(k2:Int):DN Zjd N (a1,k2,())=Zf4 N a1 k2:=by
  conv=>rhs;rw[Zf4];simp(disch:=exact id (by kernel_rfl)) only[Zty (R:=((List Y_KidRun)×Unit)×Kh) N (CF Zjd N [1,0,1,0])]
  kernel_rfl
def Z3u:Gd:=GF Zjd func90 (λN d=>Z3t N d.1 d.2.1)
def Zl1:Fn:=⟨f43,λ |2=>cn_ [0,1,5,9]|3=>cn_ [0,1,5]|4=>[.opn 15,.canon [0,1,5]]|5=>cn_ [0,1,5]|6=>cn_ [0,1,5]|7=>cn_ [0,1,5]|8=>cn_ [0,1,5]|9=>cn_ [0,1,5]|10=>cn_ [0,1,5]|11=>cn_ [0,1,5]|12=>cn_ [0,1,5]|13=>cn_ [0,1,5]|14=>cn_ [0,1,5]|15=>cn_ [0,1,5]|16=>cn_ [0,1,5]|17=>cn_ [0,1,5]|18=>cn_ [0,1,5]|19=>cn_ [0,1,5]|20=>cn_ [0,1,5]|21=>cn_ [0,1,5]|22=>cn_ [0,1,5]|23=>cn_ [0,1,5]|24=>cn_ [0,1,5]|25=>cn_ [0,1,5]|26=>cn_ [0,1,5]|27=>cn_ [0,1,5]|28=>cn_ [0,1,5]|29=>cn_ [0,1,5]|30=>cn_ [0,1,5]|31=>cn_ [0,1,5]|32=>cn_ [0,1,5]|33=>cn_ [0,1,5]|34=>cn_ [0,1,5]|35=>cn_ [0,1,5]|36=>cn_ [0,1,5]|37=>cn_ [0,1,5]|38=>cn_ [0,1,5]|39=>cn_ [0,1,5]|40=>cn_ [0,1,5]|41=>cn_ [0,1,5]|42=>cn_ [0,1,5]|43=>cn_ [0,1,5]|44=>cn_ [0,1,5]|45=>cn_ [0,1,5]|46=>cn_ [0,1,5]|47=>cn_ [0,1,5]|48=>cn_ [0,1,5]|49=>cn_ [0,1,5]|50=>cn_ [0,1,5]|51=>cn_ [0,1,5]|52=>cn_ [0,1,5]|53=>cn_ [0,1,5]|54=>cn_ [0,1,5]|55=>cn_ [0,1,5]|56=>cn_ [0,1,5]|57=>cn_ [0,1,5]|58=>cn_ [0,1,5]|59=>cn_ [0,1,5]|60=>cn_ [0,1,5]|61=>cn_ [0,1,5]|62=>cn_ [0,1,5]|63=>cn_ [0,1,5]|64=>cn_ [0,1,5]|65=>cn_ [0,1,5]|66=>cn_ [0,1,5]|67=>cn_ [0,1,5]|68=>cn_ [0,1,5]|69=>[.refold 313,.canon [0,1,5]]|100002=>cn_ [0,1,5]|_=>[],λN=>Sig.of [.mut Jj,vf_ Ja] [vf_ Ja] (λd=>Zh6 N d.1 d.2.1),CX [Zhg,Zp9,Z9e,Z9g,Zr2,Z3u]⟩
def Zw3(k3:Int)(i4:Int)(l5:List Y_Root):St:=⟨[(0,vO 0),(1,vI k3),(5,vI i4)],[(0,.arr Jj l5)],1⟩
def Zux(gv:Int)(jo:Int)(t22:Bool)(fG:List Y_Root):St:=⟨[(0,vO 0),(1,vI gv),(5,vI jo),(9,vB t22)],[(0,.arr Jj fG)],1⟩
theorem Zw4{K0:Int->Int->Bool->(List Y_Root)->Option R}(h0:K0= λgv jo t22 fG=>K (.exit 0) (Zux gv jo t22 fG))(n:Nat)(k3:Int)(i4:Int)(l5:List Y_Root):Zce N K0 n k3 i4 l5=LM Zl1 N 0 100002 n (Zw3 k3 i4 l5) K:=by
  subst h0
  induction n generalizing k3 i4 l5 with
  |zero=>kernel_rfl
  |succ n ih=>rw[Zce];simp only[ih];kernel_rfl
theorem Z9h(a1:List Y_Root)(k2:Int):DN Zl1 N (a1,k2,())=Zh6 N a1 k2:=by
  conv=>rhs;rw[Zh6];simp(disch:=exact id (by kernel_rfl)) only[Zw4 (R:=((List Y_Root)×Unit)×Kh) N (CF Zl1 N [1,0,1,0])]
  kernel_rfl
def Z9i:Gd:=GF Zl1 func43 (λN d=>Z9h N d.1 d.2.1)
def Zkv:Fn:=⟨f44,λ |2=>cn_ [0,1,5,9]|3=>cn_ [0,1,5]|4=>[.opn 15,.canon [0,1,5]]|5=>cn_ [0,1,5]|6=>cn_ [0,1,5]|7=>cn_ [0,1,5]|8=>[.refold 28,.canon [0,1,5]]|100002=>cn_ [0,1,5]|_=>[],λN=>Sig.of [.mut Jab,vf_ Ja] [vf_ Ja] (λd=>Zhb N d.1 d.2.1),CX [Zp9]⟩
def Zuy(k3:Int)(i4:Int)(l5:List Kn):St:=⟨[(0,vO 0),(1,vI k3),(5,vI i4)],[(0,.arr Jab l5)],1⟩
def Ztz(k7:Int)(i8:Int)(t9:Bool)(cn:List Kn):St:=⟨[(0,vO 0),(1,vI k7),(5,vI i8),(9,vB t9)],[(0,.arr Jab cn)],1⟩
theorem Zuz{K0:Int->Int->Bool->Kab->Option R}(h0:K0= λk7 i8 t9 cn=>K (.exit 0) (Ztz k7 i8 t9 cn))(n:Nat)(k3:Int)(i4:Int)(l5:List Kn):Zby N K0 n k3 i4 l5=LM Zkv N 0 100002 n (Zuy k3 i4 l5) K:=by
  subst h0
  induction n generalizing k3 i4 l5 with
  |zero=>kernel_rfl
  |succ n ih=>rw[Zby];simp only[ih];kernel_rfl
theorem Z6s(a1:List Kn)(k2:Int):DN Zkv N (a1,k2,())=Zhb N a1 k2:=by
  conv=>rhs;rw[Zhb];simp(disch:=exact id (by kernel_rfl)) only[Zuz (R:=(Kab×Unit)×Kh) N (CF Zkv N [1,0,1,0])]
  kernel_rfl
def Z6t:Gd:=GF Zkv func44 (λN d=>Z6s N d.1 d.2.1)
def Z9j:Fn:=⟨f12,Wu,λN=>Sig.of [.kv Jo true,vf_ Ja] [vf_ Ja] (λd=>Zm9 N d.1 d.2.1),CX [Zae2,Z9a,Z9c,Z9i,Z6t]⟩
def Z9k:Gd:=GF Z9j func12
def Zl2:Fn:=⟨f91,λ |2=>cn_ [0,1,5,9]|3=>cn_ [0,1,5]|4=>cn_ [0,1,5,18]|5=>cn_ [4]|6=>cn_ [0,1,5]|7=>cn_ [0,1,5,27]|8=>cn_ [4]|9=>cn_ [0,1,5]|10=>cn_ [0,1,5,36]|11=>cn_ [4]|12=>cn_ [0,1,5]|100002=>cn_ [0,1,5]|_=>[],λN=>Sig.of [vf_ Jn,vf_ Ja] [vf_ Ja] (λd=>Zhw N d.1 d.2.1),WR⟩
def Zw5(a3:List Kb)(k4:Int)(i5:Int):St:=⟨[(0,vV Jn a3),(1,vI k4),(5,vI i5)],[],0⟩
def Zu0(a3:List Kb):St:=⟨[(4,vI (-1:Int))],[],0⟩
def Zu1(a3:List Kb)(k6:Int)(i7:Int)(t8:Bool):St:=⟨[(0,vV Jn a3),(1,vI k6),(5,vI i7),(9,vB t8)],[],0⟩
theorem Zw6{a3:List Kb}{K0:Option R}{K1:Int->Int->Bool->Option R}(h0:K0=K .ret (Zu0 a3))(h1:K1= λk6 i7 t8=>K (.exit 0) (Zu1 a3 k6 i7 t8))(n:Nat)(k4:Int)(i5:Int):Zb9 N a3 K0 K1 n k4 i5=LM Zl2 N 0 100002 n (Zw5 a3 k4 i5) K:=by
  subst h0 h1
  induction n generalizing k4 i5 with
  |zero=>kernel_rfl
  |succ n ih=>rw[Zb9];simp only[ih];kernel_rfl
theorem Z9l(a1:List Kb)(k2:Int):DN Zl2 N (a1,k2,())=Zhw N a1 k2:=by
  conv=>rhs;rw[Zhw];simp(disch:=exact id (by kernel_rfl)) only[Zw6 (R:=Unit×Kh) N (CF Zl2 N [1,0,1,0])]
  kernel_rfl
def Z9m:Gd:=GN Zl2 func91 (λN d=>Z9l N d.1 d.2.1)
def Zae3:Fn:=⟨f45,Wu,λN=>Sig.of [vt_ Jaf,vf_ Ja] [vf_ Ja] (λd=>Zr5 N d.1 d.2.1),CX [Z9m]⟩
def Zae4:Gd:=GF Zae3 func45
def Zmq:Fn:=⟨f92,λ |2=>cn_ [0,1,5,9]|3=>cn_ [0,1,5]|4=>cn_ [0,1,5,17]|5=>cn_ [4]|6=>cn_ [0,1,5]|100002=>cn_ [0,1,5]|_=>[],λN=>Sig.of [vf_ Ji,vf_ Ja] [vf_ Ja] (λd=>Zag N d.1 d.2.1),WR⟩
def Z0c(a3:List Int)(k4:Int)(i5:Int):St:=⟨[(0,vV Ji a3),(1,vI k4),(5,vI i5)],[],0⟩
def Zw7(a3:List Int):St:=⟨[(4,vI (-1:Int))],[],0⟩
def Zw8(a3:List Int)(k6:Int)(i7:Int)(t8:Bool):St:=⟨[(0,vV Ji a3),(1,vI k6),(5,vI i7),(9,vB t8)],[],0⟩
theorem Z0d{a3:List Int}{K0:Option R}{K1:Int->Int->Bool->Option R}(h0:K0=K .ret (Zw7 a3))(h1:K1= λk6 i7 t8=>K (.exit 0) (Zw8 a3 k6 i7 t8))(n:Nat)(k4:Int)(i5:Int):Zcx N a3 K0 K1 n k4 i5=LM Zmq N 0 100002 n (Z0c a3 k4 i5) K:=by
  subst h0 h1
  induction n generalizing k4 i5 with
  |zero=>kernel_rfl
  |succ n ih=>rw[Zcx];simp only[ih];kernel_rfl
theorem Zabx(a1:List Int)(k2:Int):DN Zmq N (a1,k2,())=Zag N a1 k2:=by
  conv=>rhs;rw[Zag];simp(disch:=exact id (by kernel_rfl)) only[Z0d (R:=Unit×Kh) N (CF Zmq N [1,0,1,0])]
  kernel_rfl
def Zjb:Gd:=GN Zmq func92 (λN d=>Zabx N d.1 d.2.1)
def Z9n:Fn:=⟨f46,Wu,λN=>Sig.of [vt_ Jag,vf_ Ja] [vf_ Ja] (λd=>Zq6 N d.1 d.2.1),CX [Zjb]⟩
def Z9o:Gd:=GF Z9n func46
def Zl3:Fn:=⟨f47,λ |2=>cn_ [0,1,5,9]|3=>cn_ [0,1,5]|4=>cn_ [0,1,5,18]|5=>cn_ [4]|6=>cn_ [0,1,5]|7=>cn_ [0,1,5,27]|8=>cn_ [4]|9=>cn_ [0,1,5]|10=>cn_ [0,1,5,36]|11=>cn_ [4]|12=>cn_ [0,1,5]|100002=>cn_ [0,1,5]|_=>[],λN=>Sig.of [vf_ Jn,vf_ Ja] [vf_ Ja] (λd=>Zh7 N d.1 d.2.1),WR⟩
def Zw9(a3:List Kb)(k4:Int)(i5:Int):St:=⟨[(0,vV Jn a3),(1,vI k4),(5,vI i5)],[],0⟩
def Zu2(a3:List Kb):St:=⟨[(4,vI (-1:Int))],[],0⟩
def Zu3(a3:List Kb)(k6:Int)(i7:Int)(t8:Bool):St:=⟨[(0,vV Jn a3),(1,vI k6),(5,vI i7),(9,vB t8)],[],0⟩
theorem Zxa{a3:List Kb}{K0:Option R}{K1:Int->Int->Bool->Option R}(h0:K0=K .ret (Zu2 a3))(h1:K1= λk6 i7 t8=>K (.exit 0) (Zu3 a3 k6 i7 t8))(n:Nat)(k4:Int)(i5:Int):Zcf N a3 K0 K1 n k4 i5=LM Zl3 N 0 100002 n (Zw9 a3 k4 i5) K:=by
  subst h0 h1
  induction n generalizing k4 i5 with
  |zero=>kernel_rfl
  |succ n ih=>rw[Zcf];simp only[ih];kernel_rfl
theorem Z9p(a1:List Kb)(k2:Int):DN Zl3 N (a1,k2,())=Zh7 N a1 k2:=by
  conv=>rhs;rw[Zh7];simp(disch:=exact id (by kernel_rfl)) only[Zxa (R:=Unit×Kh) N (CF Zl3 N [1,0,1,0])]
  kernel_rfl
def Z9q:Gd:=GN Zl3 func47 (λN d=>Z9p N d.1 d.2.1)
def Zmr:Fn:=⟨f93,λ |2=>cn_ [0,1,5,9]|3=>cn_ [0,1,5]|4=>cn_ [0,1,5,18]|5=>cn_ [4]|6=>cn_ [0,1,5]|7=>cn_ [0,1,5,27]|8=>cn_ [4]|9=>cn_ [0,1,5]|100002=>cn_ [0,1,5]|_=>[],λN=>Sig.of [vf_ Jd,vf_ Ja] [vf_ Ja] (λd=>Zat N d.1 d.2.1),WR⟩
def Z0e(a3:List Kc)(k4:Int)(i5:Int):St:=⟨[(0,vV Jd a3),(1,vI k4),(5,vI i5)],[],0⟩
def Zxb(a3:List Kc):St:=⟨[(4,vI (-1:Int))],[],0⟩
def Zxc(a3:List Kc)(k6:Int)(i7:Int)(t8:Bool):St:=⟨[(0,vV Jd a3),(1,vI k6),(5,vI i7),(9,vB t8)],[],0⟩
theorem Z0f{a3:List Kc}{K0:Option R}{K1:Int->Int->Bool->Option R}(h0:K0=K .ret (Zxb a3))(h1:K1= λk6 i7 t8=>K (.exit 0) (Zxc a3 k6 i7 t8))(n:Nat)(k4:Int)(i5:Int):Zcy N a3 K0 K1 n k4 i5=LM Zmr N 0 100002 n (Z0e a3 k4 i5) K:=by
  subst h0 h1
  induction n generalizing k4 i5 with
  |zero=>kernel_rfl
  |succ n ih=>rw[Zcy];simp only[ih];kernel_rfl
theorem Zaby(a1:List Kc)(k2:Int):DN Zmr N (a1,k2,())=Zat N a1 k2:=by
  conv=>rhs;rw[Zat];simp(disch:=exact id (by kernel_rfl)) only[Z0f (R:=Unit×Kh) N (CF Zmr N [1,0,1,0])]
  kernel_rfl
def Zqa:Gd:=GN Zmr func93 (λN d=>Zaby N d.1 d.2.1)
def Zl4:Fn:=⟨f94,λ |2=>cn_ [0,1,5,9]|3=>cn_ [0,1,5]|4=>cn_ [0,1,5,18]|5=>cn_ [4]|6=>cn_ [0,1,5]|7=>cn_ [0,1,5,27]|8=>cn_ [4]|9=>cn_ [0,1,5]|10=>cn_ [0,1,5,36]|11=>cn_ [4]|12=>cn_ [0,1,5]|13=>cn_ [0,1,5,45]|14=>cn_ [4]|15=>cn_ [0,1,5]|16=>cn_ [0,1,5]|17=>cn_ [0,1,5,56]|18=>cn_ [4]|100002=>cn_ [0,1,5]|_=>[],λN=>Sig.of [vf_ Jan,vf_ Ja] [vf_ Ja] (λd=>Zh8 N d.1 d.2.1),CX [Zjb]⟩
def Zxd(a3:List Kf)(k4:Int)(i5:Int):St:=⟨[(0,vV Jan a3),(1,vI k4),(5,vI i5)],[],0⟩
def Zu4(a3:List Kf):St:=⟨[(4,vI (-1:Int))],[],0⟩
def Zu5(a3:List Kf)(k7:Int)(i8:Int)(t9:Bool):St:=⟨[(0,vV Jan a3),(1,vI k7),(5,vI i8),(9,vB t9)],[],0⟩
theorem Zxe{a3:List Kf}{K0:Option R}{K1:Int->Int->Bool->Option R}(h0:K0=K .ret (Zu4 a3))(h1:K1= λk7 i8 t9=>K (.exit 0) (Zu5 a3 k7 i8 t9))(n:Nat)(k4:Int)(i5:Int):Zcg N a3 K0 K1 n k4 i5=LM Zl4 N 0 100002 n (Zxd a3 k4 i5) K:=by
  subst h0 h1
  induction n generalizing k4 i5 with
  |zero=>kernel_rfl
  |succ n ih=>rw[Zcg];simp only[ih];kernel_rfl
theorem Z9r(a1:List Kf)(k2:Int):DN Zl4 N (a1,k2,())=Zh8 N a1 k2:=by
  conv=>rhs;rw[Zh8];simp(disch:=exact id (by kernel_rfl)) only[Zxe (R:=Unit×Kh) N (CF Zl4 N [1,0,1,0])]
  kernel_rfl
def Z9s:Gd:=GF Zl4 func94 (λN d=>Z9r N d.1 d.2.1)
def Zl5:Fn:=⟨f95,λ |2=>cn_ [0,1,5,9]|3=>cn_ [0,1,5]|4=>cn_ [0,1,5,18]|5=>cn_ [4]|6=>cn_ [0,1,5]|7=>cn_ [0,1,5,27]|8=>cn_ [4]|9=>cn_ [0,1,5]|10=>cn_ [0,1,5,36]|11=>cn_ [4]|12=>cn_ [0,1,5]|100002=>cn_ [0,1,5]|_=>[],λN=>Sig.of [vf_ Jn,vf_ Ja] [vf_ Ja] (λd=>Zh9 N d.1 d.2.1),WR⟩
def Zxf(a3:List Kb)(k4:Int)(i5:Int):St:=⟨[(0,vV Jn a3),(1,vI k4),(5,vI i5)],[],0⟩
def Zu6(a3:List Kb):St:=⟨[(4,vI (-1:Int))],[],0⟩
def Zu7(a3:List Kb)(k6:Int)(i7:Int)(t8:Bool):St:=⟨[(0,vV Jn a3),(1,vI k6),(5,vI i7),(9,vB t8)],[],0⟩
theorem Zxg{a3:List Kb}{K0:Option R}{K1:Int->Int->Bool->Option R}(h0:K0=K .ret (Zu6 a3))(h1:K1= λk6 i7 t8=>K (.exit 0) (Zu7 a3 k6 i7 t8))(n:Nat)(k4:Int)(i5:Int):Zch N a3 K0 K1 n k4 i5=LM Zl5 N 0 100002 n (Zxf a3 k4 i5) K:=by
  subst h0 h1
  induction n generalizing k4 i5 with
  |zero=>kernel_rfl
  |succ n ih=>rw[Zch];simp only[ih];kernel_rfl
theorem Z9t(a1:List Kb)(k2:Int):DN Zl5 N (a1,k2,())=Zh9 N a1 k2:=by
  conv=>rhs;rw[Zh9];simp(disch:=exact id (by kernel_rfl)) only[Zxg (R:=Unit×Kh) N (CF Zl5 N [1,0,1,0])]
  kernel_rfl
def Z9u:Gd:=GN Zl5 func95 (λN d=>Z9t N d.1 d.2.1)
def Zkw:Fn:=⟨f96,λ |2=>cn_ [0,1,5,9]|3=>cn_ [0,1,5]|4=>cn_ [0,1,5,18]|5=>cn_ [4]|6=>cn_ [0,1,5]|7=>cn_ [0,1,5,27]|8=>cn_ [4]|9=>cn_ [0,1,5]|10=>cn_ [0,1,5,36]|11=>cn_ [4]|12=>cn_ [0,1,5]|100002=>cn_ [0,1,5]|_=>[],λN=>Sig.of [vf_ Jn,vf_ Ja] [vf_ Ja] (λd=>Zel N d.1 d.2.1),WR⟩
def Zu8(a3:List Kb)(k4:Int)(i5:Int):St:=⟨[(0,vV Jn a3),(1,vI k4),(5,vI i5)],[],0⟩
def Zt0(a3:List Kb):St:=⟨[(4,vI (-1:Int))],[],0⟩
def Zt1(a3:List Kb)(k6:Int)(i7:Int)(t8:Bool):St:=⟨[(0,vV Jn a3),(1,vI k6),(5,vI i7),(9,vB t8)],[],0⟩
end
end Go.Sx
