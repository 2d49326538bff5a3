/- Each Go function does what its Lean function says. -/
import Derived.Test.YtpfdembammnpcaaGreatD
open List renaming cons_append→dO,nil_append→df,getD→Xc
open Int renaming toNat→Xa
namespace Go.Sx
noncomputable section
open Go.Proofs
open Tryz
variable(N:Nat){R:Type}(K:Ex->St->Option R)
set_option linter.unusedVariables false
set_option linter.unusedSimpArgs false
theorem Z3r(m1:List Int):DN HW N (m1,())=xi N m1:=by
 conv=>rhs;rw[xi];simp(disch:=exact id (by kernel_rfl)) only[Ztn (R:=Unit×Kad) N (CF HW N [1,1,1,0,1,0])]
 kernel_rfl
def Z3s:Gd:=GF HW func78 (λN d=>Z3r N d.1)
def II:Fn:=⟨f79,λ |5=>cn_ [2,4,12,13,14,15]|6=>cn_ [2,4,6,12,13,14]|7=>cn_ [2,4,12,13,14]|8=>cn_ [2,4,12,13,14]|100005=>[.adoptC 4 1 Jb,.canon [2,4,12,13,14]]|_=>[],λN=>Sig.of [vf_ Ji] [vt_ Jz,vf_ Jr] (λd=>ye N d.1),CX [Ew]⟩
def Z08(a:List Int)(c:Int)(b:List Kb):St:=⟨[(2,vP 0 0),(4,vP 1 0),(12,vV Ji a),(13,vI (Wh a)),(14,vI c)],[(0,.box [.val Ja (0:Int),.nils]),(1,.box [.val Ja (0:Int),.own 2]),(2,.arr Jb b)],3⟩
def Zx7(a:List Int)(d:Int)(b:Bool)(c:List Kb):St:=⟨[(2,vP 0 0),(4,vP 1 0),(12,vV Ji a),(13,vI (Wh a)),(14,vI d),(15,vB b)],[(0,.box [.val Ja (0:Int),.nils]),(1,.box [.val Ja (0:Int),.own 2]),(2,.arr Jb c)],3⟩
theorem Z09{b:List Int}{K0:Int->Bool->Ks->Option R}(f:K0= λg d e=>K (.exit 0) (Zx7 b g d e))(n c a):w5 N b K0 n c a=LM II N 0 100005 n (Z08 b c a) K:=by subst f;induction n generalizing c a;kernel_rfl;rw[w5];simp only[*];kernel_rfl
theorem N6(l1:List Int):DN II N (l1,())=ye N l1:=by
 conv=>rhs;rw[ye];simp(disch:=exact id (by kernel_rfl)) only[Z09 (R:=Unit×(Ku×Kf)) N (CF II N [1,1,1,0,1,0])]
 kernel_rfl
def N7:Gd:=GF II func79 (λN d=>N6 N d.1)
def Z3t:Fn:=⟨f139,Wy,λN=>Sig.of [.box Jk] [] (λd=>mM N d.1),W5⟩
def Ey:Gd:=GN Z3t func139
def HQ:Fn:=⟨f140,λ |3=>cn_ [0,1,4,5,17,18,19,20]|4=>cn_ [0,1,4,5,6,7,17,18,19]|5=>cn_ [0,1,4,5,17,18,19]|6=>cn_ [0,1,4,5,17,18,19]|100003=>cn_ [0,1,4,5,17,18,19]|_=>[],λN=>Sig.of [.box Jn,vf_ Ja] [] (λd=>AR N d.1 d.2.1),W5⟩
def Zsk(h:Int)(i:Nat)(g:Bool)(j k b8 b9 az b:Int)(f:List Y_Root)(d:List Kb)(a:List Int)(e:List Kb)(c:List Ko):St:=⟨[(0,vP 0 0),(1,vI h),(4,.s (.one (.eptr 1 i 0))),(5,vB g),(17,vO 1),(18,vI j),(19,vI k)],[(0,.box [.val Ja b8,.val Ja b9,.val Ja az,.own 2,.own 3,.val Ja b,.own 4,.own 1,.own 5]),(1,.arr Jk f),(2,.arr Jb d),(3,.arr Ja a),(4,.arr Jb e),(5,.arr Jac c)],6⟩
def Zr2(j:Int)(k:Nat)(l b8 b9 az b:Int)(f:List Y_Root)(d:List Kb)(a:List Int)(e:List Kb)(c:List Ko)(i:Bool)(h:Int)(g:Bool):St:=⟨[(0,vP 0 0),(1,vI j),(4,.s (.one (.eptr 1 k 0))),(5,vB i),(17,vO 1),(18,vI l),(19,vI h),(20,vB g)],[(0,.box [.val Ja b8,.val Ja b9,.val Ja az,.own 2,.own 3,.val Ja b,.own 4,.own 1,.own 5]),(1,.arr Jk f),(2,.arr Jb d),(3,.arr Ja a),(4,.arr Jb e),(5,.arr Jac c)],6⟩
theorem Zsl{h:Int}{i:Nat}{j b8 b9 az b:Int}{f:List Y_Root}{d:List Kb}{a:List Int}{e:List Kb}{c:List Ko}{K0}(o:K0= λp m l=>K (.exit 0) (Zr2 h i j b8 b9 az b f d a e c p m l))(n g k):n5 N h i j b8 b9 az b f d a e c K0 n g k=LM HQ N 0 100003 n (Zsk h i g j k b8 b9 az b f d a e c) K:=by subst o;induction n generalizing g k;kernel_rfl;rw[n5];simp only[*];kernel_rfl
theorem Z1a(a:Y_World)(k2:Int):DN HQ N (a,k2,())=AR N a k2:=by
 conv=>rhs;rw[AR];simp(disch:=exact id (by kernel_rfl)) only[Zsl (R:=(Y_World×Unit)×Unit) N (CF HQ N [1,1,0,1,0])]
 kernel_rfl
def Z1b:Gd:=GN HQ func140 (λN d=>Z1a N d.1 d.2.1)
def N8:Fn:=⟨f254,Wy,λN=>Sig.of [vf_ Ja,vf_ Ja,vf_ Ja] [vf_ Jr] (λd=>Cb N d.1 d.2.1 d.2.2.1),CX [Zy]⟩
def Zs0:Gd:=GF N8 func254
def Zu6:Fn:=⟨f255,Wy,λN=>Sig.of [vt_ Jb,vt_ Jb] [vf_ Ja] (λd=>HO N d.1 d.2.1),W5⟩
def Zu7:Gd:=GN Zu6 func255
def Ie:Fn:=⟨f192,λ |2=>cn_ [0,5,6,7,8]|3=>cn_ [0,3,4,5,6,7]|4=>cn_ [0,3,4,5,6,7,33]|5=>cn_ [2]|6=>cn_ [0,5,6,7,60]|7=>cn_ [2]|8=>cn_ [0,5,6,7]|100002=>cn_ [0,5,6,7]|_=>[],λN=>Sig.of [vf_ Jp] [vf_ Jr] (λd=>tt N d.1),CX [Zs0,Zu7]⟩
theorem Zx9{l2:List Kb}{K0 K1}(d:K0=K .ret ⟨[(2,vB false)],[],0⟩)(e:K1= λb c=>K (.exit 0) ⟨[(0,vV Jp l2),(5,vV Jp l2),(6,vI (Wh l2)),(7,vI b),(8,vB c)],[],0⟩)(n a):lJ N l2 K0 K1 n a=LM Ie N 0 100002 n ⟨[(0,vV Jp l2),(5,vV Jp l2),(6,vI (Wh l2)),(7,vI a)],[],0⟩ K:=by subst d e;induction n generalizing a;kernel_rfl;rw[lJ];simp only[*];kernel_rfl
theorem Z8n(l1:List Kb):DN Ie N (l1,())=tt N l1:=by
 conv=>rhs;rw[tt];simp(disch:=exact id (by kernel_rfl)) only[Zx9 (R:=Unit×Kf) N (CF Ie N [1,0,1,0])]
 kernel_rfl
def If:Gd:=GF Ie func192 (λN d=>Z8n N d.1)
def Ig:Fn:=⟨f227,λ |5=>cn_ [1,5,12,13,14,15]|6=>cn_ [1,5,7,12,13,14]|7=>cn_ [1,5,7,12,13,14,21]|8=>cn_ [1,5,12,13,14]|9=>cn_ [1,5,12,13,14]|100005=>cn_ [1,5,12,13,14]|_=>[],λN=>Sig.of [vf_ Jp,vf_ Ja] [vf_ Jd] (λd=>xZ N d.1 d.2.1),CX [If]⟩
def Zya(b:Int)(a:List Kb)(d:Int)(c:List Int):St:=⟨[(1,vI b),(5,vO 0),(12,vV Jp a),(13,vI (Wh a)),(14,vI d)],[(0,.arr Ja c)],1⟩
def Zva(d:Int)(a:List Kb)(e:Int)(b:Bool)(c:List Int):St:=⟨[(1,vI d),(5,vO 0),(12,vV Jp a),(13,vI (Wh a)),(14,vI e),(15,vB b)],[(0,.arr Ja c)],1⟩
theorem Zyb{a:Int}{c:List Kb}{K0:Int->Bool->Kg->Option R}(g:K0= λh e f=>K (.exit 0) (Zva a c h e f))(n d b):sP N a c K0 n d b=LM Ig N 0 100005 n (Zya a c d b) K:=by subst g;induction n generalizing d b;kernel_rfl;rw[sP];simp only[*];kernel_rfl
theorem Z8o(l1:List Kb)(aS:Int):DN Ig N (l1,aS,())=xZ N l1 aS:=by
 conv=>rhs;rw[xZ];simp(disch:=exact id (by kernel_rfl)) only[Zyb (R:=Unit×Kad) N (CF Ig N [1,1,1,0,1,0])]
 kernel_rfl
def Z8p:Gd:=GF Ig func227 (λN d=>Z8o N d.1 d.2.1)
def Z3u:Fn:=⟨f148,λ |0=>[.opn 10]|_=>[],λN=>Sig.of [.box Jn,vf_ Ja] [] (λd=>AX N d.1 d.2.1),W5⟩
def ZR:Gd:=GN Z3u func148
def Z8q:Fn:=⟨f270,Wy,λN=>Sig.of [vf_ Ja] [vf_ Jr] (λd=>tu N d.1),CX [Zy]⟩
def EK:Gd:=GF Z8q func270
def IJ:Fn:=⟨f257,λ |2=>cn_ [0,5,6,7,8]|3=>cn_ [0,4,5,6,7]|4=>cn_ [0,5,6,7,20]|5=>cn_ [2]|6=>cn_ [0,5,6,7]|100002=>cn_ [0,5,6,7]|_=>[],λN=>Sig.of [vf_ Je] [vf_ Jr] (λd=>oF N d.1),CX [oy,mN]⟩
theorem Z1d{l2:List Kc}{K0 K1}(d:K0=K .ret ⟨[(2,vB false)],[],0⟩)(e:K1= λb c=>K (.exit 0) ⟨[(0,vV Je l2),(5,vV Je l2),(6,vI (Wh l2)),(7,vI b),(8,vB c)],[],0⟩)(n a):w4 N l2 K0 K1 n a=LM IJ N 0 100002 n ⟨[(0,vV Je l2),(5,vV Je l2),(6,vI (Wh l2)),(7,vI a)],[],0⟩ K:=by subst d e;induction n generalizing a;kernel_rfl;rw[w4];simp only[*];kernel_rfl
theorem N9(l1:List Kc):DN IJ N (l1,())=oF N l1:=by
 conv=>rhs;rw[oF];simp(disch:=exact id (by kernel_rfl)) only[Z1d (R:=Unit×Kf) N (CF IJ N [1,0,1,0])]
 kernel_rfl
def IK:Gd:=GF IJ func257 (λN d=>N9 N d.1)
def KA:Fn:=⟨f229,λ |4=>cn_ [0,1,6,14]|5=>cn_ [0,1,6]|6=>cn_ [0,1,6,23]|7=>cn_ [4,5]|100004=>cn_ [0,1,6]|_=>[],λN=>Sig.of [vf_ Je,vf_ Ja] [vf_ Ja,vf_ Jr] (λd=>tL N d.1 d.2.1),CX [IK]⟩
theorem Z51{l4:List Kc}{a:Int}{K0 K1}(c:K0= λf=>K .ret ⟨[(4,vI f),(5,vB true)],[],0⟩)(d:K1= λe g=>K (.exit 0) ⟨[(0,vV Je l4),(1,vI a),(6,vI e),(14,vB g)],[],0⟩)(n b):A2 N l4 a K0 K1 n b=LM KA N 0 100004 n ⟨[(0,vV Je l4),(1,vI a),(6,vI b)],[],0⟩ K:=by subst c d;induction n generalizing b;kernel_rfl;rw[A2];simp only[*];kernel_rfl
theorem PX(l1:List Kc)(cy:Int):DN KA N (l1,cy,())=tL N l1 cy:=by
 conv=>rhs;rw[tL];simp(disch:=exact id (by kernel_rfl)) only[Z51 (R:=Unit×Ky) N (CF KA N [1,1,0,1,0])]
 kernel_rfl
def Qz:Gd:=GF KA func229 (λN d=>PX N d.1 d.2.1)
def KG:Fn:=⟨f197,λ |5=>cn_ [0,3,11,12]|6=>cn_ [0,3,4,11]|7=>cn_ [0,3,4,5,6,11]|8=>cn_ [0,3,4,5,11,20]|9=>cn_ [0,3,11]|10=>cn_ [0,3,11]|100005=>cn_ [0,3,11]|_=>[],λN=>Sig.of [vf_ Je] [vf_ Jc] (λd=>oK N d.1),CX [IK,Qz]⟩
def Z8r(l3:List Kc)(b:Int)(a:List Kc):St:=⟨[(0,vV Je l3),(3,vO 0),(11,vI b)],[(0,.arr Jt a)],1⟩
def Z52(l3:List Kc)(b:Int)(c:Bool)(a:List Kc):St:=⟨[(0,vV Je l3),(3,vO 0),(11,vI b),(12,vB c)],[(0,.arr Jt a)],1⟩
theorem Z8s{l3:List Kc}{K0:Int->Bool->Kx->Option R}(c:K0= λe f d=>K (.exit 0) (Z52 l3 e f d))(n b a):xX N l3 K0 n b a=LM KG N 0 100005 n (Z8r l3 b a) K:=by subst c;induction n generalizing b a;kernel_rfl;rw[xX];simp only[*];kernel_rfl
theorem Qe(l1:List Kc):DN KG N (l1,())=oK N l1:=by
 conv=>rhs;rw[oK];simp(disch:=exact id (by kernel_rfl)) only[Z8s (R:=Unit×(Kx×Unit)) N (CF KG N [1,1,1,0,1,0])]
 kernel_rfl
def KH:Gd:=GF KG func197 (λN d=>Qe N d.1)
def Ih:Fn:=⟨f271,λ |3=>cn_ [3,8,9,10,11]|4=>cn_ [3,5,8,9,10]|5=>cn_ [3,8,9,10]|6=>cn_ [3,8,9,10]|100003=>cn_ [3,8,9,10]|_=>[],λN=>Sig.of [vf_ Je] [vf_ Jd] (λd=>BI N d.1),CX [KH]⟩
def Zye(c d:Int)(a:List Int)(b:List Kc):St:=⟨[(3,vO 0),(8,vO 1),(9,vI c),(10,vI d)],[(0,.arr Ja a),(1,.arr Jt b)],2⟩
def Zvb(c:Int)(a:List Kc)(d:Int)(e:Bool)(b:List Int):St:=⟨[(3,vO 0),(8,vO 1),(9,vI c),(10,vI d),(11,vB e)],[(0,.arr Ja b),(1,.arr Jt a)],2⟩
theorem Zyf{c:Int}{b:List Kc}{K0:Int->Bool->Kg->Option R}(e:K0= λg h f=>K (.exit 0) (Zvb c b g h f))(n d a):wP N c b K0 n d a=LM Ih N 0 100003 n (Zye c d a b) K:=by subst e;induction n generalizing d a;kernel_rfl;rw[wP];simp only[*];kernel_rfl
theorem Z8t(l1:List Kc):DN Ih N (l1,())=BI N l1:=by
 conv=>rhs;rw[BI];simp(disch:=exact id (by kernel_rfl)) only[Zyf (R:=Unit×Kad) N (CF Ih N [1,1,0,1,0])]
 kernel_rfl
def Z8u:Gd:=GF Ih func271 (λN d=>Z8t N d.1)
def Z3x:Fn:=⟨f228,Wy,λN=>Sig.of [vf_ Ja,vf_ Ja,vf_ Je,vf_ Je] [vt_ Js,vf_ Jr] (λd=>xj N d.1 d.2.1 d.2.2.1 d.2.2.2.1),CX [EK,Zy,IK,KH,Z8u]⟩
def Z3y:Gd:=GF Z3x func228
def Zyg:Fn:=⟨f178,λ |0=>[.opn 13]|_=>[],λN=>Sig.of [.box Jn,vf_ Ja,vf_ Ja] [] (λd=>Eu N d.1 d.2.1 d.2.2.1),CX [Z8p,ZR,Z3y]⟩
def ZL:Gd:=GF Zyg func178
def Z53:Fn:=⟨f230,Wy,λN=>Sig.of [vf_ Ja] [vt_ Ju,vf_ Jr] (λd=>xO N d.1),CX [oy]⟩
def Zrf:Gd:=GF Z53 func230
def JP:Fn:=⟨f247,λ |2=>cn_ [1,6,7,8,9]|3=>cn_ [1,4,6,7,8]|4=>cn_ [1,6,7,8,29]|5=>cn_ [2]|6=>cn_ [1,6,7,8]|100002=>cn_ [1,6,7,8]|_=>[],λN=>Sig.of [vt_ Jad] [vf_ Jr] (λd=>mR N d.1),CX [mN,Zy]⟩
def Z3z(b:List Kb)(c:Int)(a:Int×List Kb):St:=⟨[(1,vP 0 0),(6,vV Jp b),(7,vI (Wh a.2)),(8,vI c)],[(0,.box [.val Ja a.1,.val Jp a.2])],1⟩
def Z1f(d:List Kb)(a:Int×List Kb)(b:Int)(c:Bool):St:=⟨[(1,vP 0 0),(6,vV Jp d),(7,vI (Wh a.2)),(8,vI b),(9,vB c)],[(0,.box [.val Ja a.1,.val Jp a.2])],1⟩
theorem Z30{b:List Kb}{a:Int×List Kb}{K0 K1}(f:K0=K .ret ⟨[(2,vB false)],[],0⟩)(g:K1= λd e=>K (.exit 0) (Z1f b a d e))(n c):xe N b a K0 K1 n c=LM JP N 0 100002 n (Z3z b c a) K:=by subst f g;induction n generalizing c;kernel_rfl;rw[xe];simp only[*];kernel_rfl
theorem OV(m1:Int×List Kb):DN JP N (m1,())=mR N m1:=by
 conv=>rhs;rw[mR];simp(disch:=exact id (by kernel_rfl)) only[Z30 (R:=Unit×Kf) N (CF JP N [1,0,1,0])]
 kernel_rfl
def B2:Gd:=GF JP func247 (λN d=>OV N d.1)
def Z8v:Fn:=⟨f272,Wy,λN=>Sig.of [vt_ Ju] [vf_ Jr] (λd=>I6 N d.1),CX [oy,Zy,mN]⟩
def Z8w:Gd:=GF Z8v func272
def Z31:Fn:=⟨f231,Wy,λN=>Sig.of [vt_ Jad,vf_ Ja,vt_ Ju] [vt_ Ju] (λd=>xf N d.1 d.2.1 d.2.2.1),CX [B2,Z8w]⟩
def ZS:Gd:=GF Z31 func231
def Zto:Fn:=⟨f232,Wy,λN=>Sig.of [.box Jk] [] (λd=>AL N d.1),CX [Ey]⟩
def ZA:Gd:=GF Zto func232
def Z1g:Fn:=⟨f179,λ |1000000=>[.unfE 1]|_=>[],λN=>Sig.of [.boxal Jn 3,vt_ Ju] [] (λd=>HZ N d.1 d.2.1 d.2.2.1),CX [Qz,Zrf,ZS,ZA]⟩
def Z1h:Gd:=GF Z1g func179
def ZD:Nat->List Ghost:=λ |0=>[.unfC 0 15 none]|_=>[]
def ZE(N:Nat):Sig:=.inline (Inl.of tab ZD Tryz.f143.ntmps (MK Tryz.f143) Tryz.f143.results.toList (by kernel_rfl))
theorem Zvc(N:Nat):GW 143 (ZE N):=⟨Ft Tryz.func143 (by kernel_rfl),Wvd mixedOk tabOk Tryz.func143 (by kernel_rfl) (by kernel_rfl) (by kernel_rfl) (λa=>by unfold ZD;split<;>rfl)⟩
def ZF:Gd:=⟨143,ZE,Zvc⟩
def Z32:Fn:=⟨f239,Wy,λN=>Sig.of [vt_ Jah] [vt_ Jan] (λd=>Ez N d.1),CX [hX]⟩
def ZT:Gd:=GF Z32 func239
def Z8x:Fn:=⟨f240,Wy,λN=>Sig.of [vt_ Jah] [vf_ Jr] (λd=>EW N d.1),CX [EJ,mN]⟩
def ZV:Gd:=GF Z8x func240
def Oa:Fn:=⟨f241,Wy,λN=>Sig.of [vt_ Jb] [vf_ Jr] (λd=>JY N d.1),CX [tG,mN]⟩
def Oc:Gd:=GF Oa func241
def Z54:Fn:=⟨f242,Wy,λN=>Sig.of [vf_ Ji,vf_ Ja] [vf_ Jd,vf_ Ja,vf_ Jr] (λd=>EF N d.1 d.2.1),CX [hX,EJ,tG,Qy,Ib]⟩
def Zrg:Gd:=GF Z54 func242
def Z8y:Fn:=⟨f187,Wy,λN=>Sig.of [vt_ Jah,vt_ Jb] [vt_ Jan,vf_ Jr] (λd=>I7 N d.1 d.2.1),CX [ZT,ZV,Oc,Qv,Zrg]⟩
def Z8z:Gd:=GF Z8y func187
def Z1i:Fn:=⟨f144,λ |1000000=>[.unfE 1]|_=>[],λN=>Sig.of [.boxal Jn 3] [] (λd=>sA N d.1 d.2.1),CX [Z8z]⟩
def ZM:Gd:=GF Z1i func144
def Z55:Fn:=⟨f188,Wy,λN=>Sig.of [vf_ Je] [vf_ Jc] (λd=>mE N d.1),W5⟩
def Et:Gd:=GN Z55 func188
def JQ:Fn:=⟨f233,λ |5=>cn_ [0,5,6,25]|6=>cn_ [0,5,6]|7=>cn_ [0,5,6]|8=>cn_ [0,5,6,36]|9=>cn_ [4]|100005=>cn_ [0,5,6]|_=>[],λN=>Sig.of [vf_ Jh,vf_ Ja] [vf_ Ja] (λd=>yh N d.1 d.2.1),CX [Zy,QH]⟩
theorem Z34{a:List Ka}{K0 K1}(f:K0= λi=>K .ret ⟨[(4,vI i)],[],0⟩)(g:K1= λh b e=>K (.exit 0) ⟨[(0,vV Jh a),(5,vI h),(6,vI b),(25,vB e)],[],0⟩)(n d c):xg N a K0 K1 n d c=LM JQ N 0 100005 n ⟨[(0,vV Jh a),(5,vI d),(6,vI c)],[],0⟩ K:=by subst f g;induction n generalizing d c;kernel_rfl;rw[xg];simp only[*];kernel_rfl
theorem Pz(a:List Ka)(i2:Int):DN JQ N (a,i2,())=yh N a i2:=by
 conv=>rhs;rw[yh];simp(disch:=exact id (by kernel_rfl)) only[Z34 (R:=Unit×Kj) N (CF JQ N [1,1,1,0,1,0])]
 kernel_rfl
def Zvd:Gd:=GF JQ func233 (λN d=>Pz N d.1 d.2.1)
def Zyh:Fn:=⟨f180,λ |0=>[.opn 13]|5=>[.shutD 34 15]|_=>[],λN=>Sig.of [.box Jn,vf_ Ja,vf_ Jh] [] (λd=>HL N d.1 d.2.1 d.2.2.1),CX [ZL,ZF,ZM,hX,Et,Zvd]⟩
def Zyi:Gd:=GF Zyh func180
def AU:Fn:=⟨f181,λ |3=>cn_ [1,3,8,9,19,20,21,22]|4=>cn_ [1,3,8,9,11,19,20,21]|5=>cn_ [1,3,8,9,19,20,21]|6=>cn_ [1,3,8,9,19,20,21]|8=>cn_ [1,8,9,36,37,38]|9=>[.nest 44 Jl,.canon [1,8,9,36,37]]|10=>cn_ [1,8,9,36,37]|100003=>[.adoptC 9 6 Jb,.canon [1,3,8,9,19,20,21]]|100008=>[.adoptC 9 9 Jl,.canon [1,8,9,36,37]]|_=>[],λN=>Sig.of [vf_ Ja,vf_ Ji,vf_ Je,vf_ Ja] [vt_ Jx] (λd=>A3 N d.1 d.2.1 d.2.2.1 d.2.2.2.1),CX [hX,KH]⟩
def Zve(f:List Int)(g h a b:Int)(c:List Kc)(d:List Int)(e:List Kb):St:=⟨[(1,vV Ji f),(3,vI g),(8,vP 0 0),(9,vP 1 0),(19,vO 2),(20,vI h),(21,vI a)],[(0,.box [.val Ja (0:Int),.val Ja (0:Int),.val Ja (0:Int),.val Jr false,.nils,.nils,.nils,.nils,.nils,.nils]),(1,.box [.val Ja b,.val Ja (0:Int),.val Ja (0:Int),.val Jr false,.own 3,.own 2,.own 4,.nils,.nils,.nils]),(2,.arr Jt c),(3,.arr Ja d),(4,.arr Jb e)],5⟩
def Ztp(f:List Int)(g i b:Int)(c:List Kc)(d:List Int)(a:Int)(h:Bool)(e:List Kb):St:=⟨[(1,vV Ji f),(3,vI g),(8,vP 0 0),(9,vP 1 0),(19,vO 2),(20,vI i),(21,vI a),(22,vB h)],[(0,.box [.val Ja (0:Int),.val Ja (0:Int),.val Ja (0:Int),.val Jr false,.nils,.nils,.nils,.nils,.nils,.nils]),(1,.box [.val Ja b,.val Ja (0:Int),.val Ja (0:Int),.val Jr false,.own 3,.own 2,.own 4,.nils,.nils,.nils]),(2,.arr Jt c),(3,.arr Ja d),(4,.arr Jb e)],5⟩
theorem Zvf{f:List Int}{g i b:Int}{c:List Kc}{d:List Int}{K0:Int->Bool->Ks->Option R}(l:K0= λh k j=>K (.exit 0) (Ztp f g i b c d h k j))(n a e):wG N f g i b c d K0 n a e=LM AU N 0 100003 n (Zve f g i a b c d e) K:=by subst l;induction n generalizing a e;kernel_rfl;rw[wG];simp only[*];kernel_rfl
def Zvg(a:List Int)(d f b:Int)(e:List Int)(c:List Kc)(dg:List Kb)(cM:List Y_KidRun):St:=⟨[(1,vV Ji a),(8,vP 0 0),(9,vP 1 0),(36,vI d),(37,vI f)],[(0,.box [.val Ja (0:Int),.val Ja (0:Int),.val Ja (0:Int),.val Jr false,.nils,.nils,.nils,.nils,.nils,.nils]),(1,.box [.val Ja b,.val Ja (0:Int),.val Ja (0:Int),.val Jr false,.own 2,.own 3,.own 4,.nils,.nils,.own 5]),(2,.arr Ja e),(3,.arr Jt c),(4,.arr Jb dg),(5,.arr Jl cM)],6⟩
def Ztq(c:List Int)(f d:Int)(g:List Int)(e:List Kc)(dg:List Kb)(a:Int)(b:Bool)(h:List Y_KidRun):St:=⟨[(1,vV Ji c),(8,vP 0 0),(9,vP 1 0),(36,vI f),(37,vI a),(38,vB b)],[(0,.box [.val Ja (0:Int),.val Ja (0:Int),.val Ja (0:Int),.val Jr false,.nils,.nils,.nils,.nils,.nils,.nils]),(1,.box [.val Ja d,.val Ja (0:Int),.val Ja (0:Int),.val Jr false,.own 2,.own 3,.own 4,.nils,.nils,.own 5]),(2,.arr Ja g),(3,.arr Jt e),(4,.arr Jb dg),(5,.arr Jl h)],6⟩
theorem Zvh{a:List Int}{d b:Int}{e:List Int}{c:List Kc}{dg:List Kb}{K0:Int->Bool->(List Y_KidRun)->Option R}(i:K0= λg h j=>K (.exit 2) (Ztq a d b e c dg g h j))(n f cM):p9 N a d b e c dg K0 n f cM=LM AU N 1 100008 n (Zvg a d f b e c dg cM) K:=by subst i;induction n generalizing f cM;kernel_rfl;rw[p9];simp only[*];kernel_rfl
theorem Z56(c:Int)(a:List Int)(b:List Kc)(dW:Int):DN AU N (c,a,b,dW,())=A3 N c a b dW:=by
 conv=>rhs;rw[A3];simp(disch:=exact id (by kernel_rfl)) only[Zvf (R:=Unit×(Y_Family×Unit)) N (CF AU N [1,1,0,1,0]),Zvh (R:=Unit×(Y_Family×Unit)) N (CF AU N [1,1,1,0,1,0])]
 kernel_rfl
def Z57:Gd:=GF AU func181 (λN d=>Z56 N d.1 d.2.1 d.2.2.1 d.2.2.2.1)
def Z35:Fn:=⟨f234,Wy,λN=>Sig.of [vt_ Ju] [vf_ Ja,vf_ Ja] (λd=>Ii N d.1),CX [E4]⟩
def Z36:Gd:=GF Z35 func234
def Z37:Fn:=⟨f191,Wy,λN=>Sig.of [vf_ Jp] [vf_ Jap] (λd=>xk N d.1),W5⟩
def ZU:Gd:=GN Z37 func191
def IL:Fn:=⟨f273,λ |5=>cn_ [1,2,3,9,21,22,23,24]|6=>cn_ [1,2,3,9,11,21,22,23]|7=>cn_ [1,2,3,9,11,21,22,23,45]|8=>cn_ [1,2,3,9,21,22,23]|9=>cn_ [1,2,3,9,21,22,23]|100005=>cn_ [1,2,3,9,21,22,23]|_=>[],λN=>Sig.of [vf_ Jp,vf_ Ja,vf_ Ja,vf_ Ja] [vf_ Jd] (λd=>Cc N d.1 d.2.1 d.2.2.1 d.2.2.2.1),CX [If,Zy]⟩
def Z1l(f d e:Int)(a:List Kb)(b:Int)(c:List Int):St:=⟨[(1,vI f),(2,vI d),(3,vI e),(9,vO 0),(21,vV Jp a),(22,vI (Wh a)),(23,vI b)],[(0,.arr Ja c)],1⟩
def Zyj(g c f:Int)(a:List Kb)(d:Int)(e:Bool)(b:List Int):St:=⟨[(1,vI g),(2,vI c),(3,vI f),(9,vO 0),(21,vV Jp a),(22,vI (Wh a)),(23,vI d),(24,vB e)],[(0,.arr Ja b)],1⟩
theorem Z1m{f d e:Int}{a:List Kb}{K0:Int->Bool->Kg->Option R}(j:K0= λh i g=>K (.exit 0) (Zyj f d e a h i g))(n b c):mI N f d e a K0 n b c=LM IL N 0 100005 n (Z1l f d e a b c) K:=by subst j;induction n generalizing b c;kernel_rfl;rw[mI];simp only[*];kernel_rfl
theorem Od(l1:List Kb)(a b bh:Int):DN IL N (l1,a,b,bh,())=Cc N l1 a b bh:=by
 conv=>rhs;rw[Cc];simp(disch:=exact id (by kernel_rfl)) only[Z1m (R:=Unit×Kad) N (CF IL N [1,1,1,0,1,0])]
 kernel_rfl
def Oe:Gd:=GF IL func273 (λN d=>Od N d.1 d.2.1 d.2.2.1 d.2.2.2.1)
def YV(N:Nat):Sig:=Sig.of [.mut Jb,.clos 255 0] [] (λd=>Z2 N d.1)
theorem Zgm:Nn Tryz.prog 255 Jb vu cfH:=by
  intro G x y m n w c d k l;obtain⟨_,_,rfl,e,_,_,rfl,f,g⟩:=k;obtain⟨_,_,rfl,h,_,_,rfl,i,j⟩:=l;simp only[Enc]at e f g h i j;subst e f g h i j;simp only[dO,df];unfold vu at c d;simp only[Bool.and_eq_true]at c d
  go_enter Tryz.func255,Tryz.ntmps255
  go_wp2
  rw[Wsx (a:=x.2.1) (b:=y.2.1),Result.andThen_ok];rw[WwO (a:=x.2.1) (b:=y.2.1),Result.andThen_ok];rcases hb:(bne (α:=Int) x.2.1 y.2.1)with _|_
  . go_wp2
    rw[MB (zf c.1) (zf d.1) (WxZ hb)]
    go_wp2
    go_ret
    exact⟨rfl,Mf _ _ _⟩
  . go_wp2
    rw[MB (zf c.2) (zf d.2) (Wx7 hb)]
    go_wp2
    go_ret
    exact⟨rfl,Mf _ _ _⟩
theorem Zgn(N:Nat):GW 274 (YV N):=⟨Ft Tryz.func274 (show vl Tryz.f274=true by kernel_rfl),Sy sortFH (e:=.prod Ja Jt) rfl (by decide) Tryz.isAgg205 Tryz.sizeOf205 (enters_of Tryz.func255 (by kernel_rfl) rfl) WyQ Zgm N⟩
def Zgo:Gd:=⟨274,YV,Zgn⟩
def IM:Fn:=⟨f235,λ |5=>cn_ [1,2,3,10,35,36,37,38]|6=>cn_ [1,2,3,10,11,12,35,36,37]|7=>cn_ [1,2,3,10,11,12,35,36,37,51]|8=>cn_ [10]|9=>cn_ [8,9]|10=>cn_ [1,2,3,10,35,36,37]|100005=>cn_ [1,2,3,10,35,36,37]|_=>[],λN=>Sig.of [vf_ Jp,vf_ Ja,vf_ Ja,vf_ Ja] [vf_ Jap,vf_ Jr] (λd=>BJ N d.1 d.2.1 d.2.2.1 d.2.2.2.1),CX [ZU,If,Zs0,Oe,Zgo]⟩
def Zyk(f d e b c:Int)(a:List Kb):St:=⟨[(1,vI f),(2,vI d),(3,vI e),(10,vO 0),(35,vO 0),(36,vI b),(37,vI c)],[(0,.arr Jb a)],1⟩
def Zvi(f d e c:Int)(b a:List Kb):St:=⟨[(8,vO 0),(9,vB true)],[(0,.arr Jb a)],1⟩
def Zvj(f c d b:Int)(a:List Kb)(g:Int)(e:Bool):St:=⟨[(1,vI f),(2,vI c),(3,vI d),(10,vO 0),(35,vO 0),(36,vI b),(37,vI g),(38,vB e)],[(0,.arr Jb a)],1⟩
theorem Zyl{e c d b:Int}{a:List Kb}{K0:Ks->Option R}{K1}(i:K0= λg=>K .ret (Zvi e c d b a g))(j:K1= λk h=>K (.exit 0) (Zvj e c d b a k h))(n f):sQ N e c d b a K0 K1 n f=LM IM N 0 100005 n (Zyk e c d b f a) K:=by subst i j;induction n generalizing f;kernel_rfl;rw[sQ];simp only[*];kernel_rfl
theorem Z80(l1:List Kb)(a b bh:Int):DN IM N (l1,a,b,bh,())=BJ N l1 a b bh:=by
 conv=>rhs;rw[BJ];simp(disch:=exact id (by kernel_rfl)) only[Zyl (R:=Unit×(Ks×Kf)) N (CF IM N [1,1,1,0,1,0])]
 kernel_rfl
def Z81:Gd:=GF IM func235 (λN d=>Z80 N d.1 d.2.1 d.2.2.1 d.2.2.2.1)
def Og:Fn:=⟨f275,Wy,λN=>Sig.of [vf_ Ja,vf_ Ja] [vt_ Jb] (λd=>E1 N d.1 d.2.1),W5⟩
def Oh:Gd:=GN Og func275
def Z82:Fn:=⟨f236,Wy,λN=>Sig.of [vt_ Jah,vt_ Ju,vf_ Ji] [vt_ Jan,vf_ Jd,vt_ Jb,vf_ Jr] (λd=>I8 N d.1 d.2.1 d.2.2.1),CX [ZT,hX,ZV,Ew,Zrz,Qv,Oh,Ib,Zrg]⟩
def Z83:Gd:=GF Z82 func236
def Zym:Fn:=⟨f182,λ |1=>[.opn 20]|_=>[],λN=>Sig.of [.box Jn,vf_ Ja,vt_ Ju] [] (λd=>Ev N d.1 d.2.1 d.2.2.1),CX [Z36,Z81,ZA,Z83]⟩
def Zyn:Gd:=GF Zym func182
def Zvk:Fn:=⟨f143,Wy,λN=>Sig.of [.rp (TY_Root)] [.vj Ju] (λd=>AJ N d.1),W5⟩
def ZG:Gd:=GN Zvk func143
def PY:Fn:=⟨f183,Wy,λN=>Sig.of [vt_ Ju,vf_ Ji] [vf_ Jd,vf_ Jr] (λd=>E6 N d.1 d.2.1),CX [hX,E4,Ew]⟩
def Zzc:Gd:=GF PY func183
def Z38:Fn:=⟨f141,λ |1=>[.opn 14]|26=>[.nest 170 (.prod Ja (.prod Ja Jaj))]|_=>[],λN=>Sig.of [.box Jn,vf_ Ja,vt_ Jaf] [] (λd=>EA N d.1 d.2.1 d.2.2.1),CX [ZL,Z1h,Zyi,Z57,Zyn,hX,ZG,Zzc]⟩
def Z39:Gd:=GF Z38 func141
def Z4a:Fn:=⟨f238,Wy,λN=>Sig.of [vt_ (TY_KidRun)] [vf_ Jr] (λd=>Qp N d.1),W5⟩
def Z4b:Gd:=GN Z4a func238
def Hv:Fn:=⟨f276,λ |2=>cn_ [0,1,7,8,9]|3=>cn_ [0,1,5,7,8]|4=>cn_ [0,1,5,7,8,16]|5=>cn_ [1,4]|6=>cn_ [0,1,7,8]|100002=>cn_ [0,1,7,8]|_=>[],λN=>Sig.of [vf_ Jal,.clos 238 0] [vf_ Ja] (λd=>Zz N d.1),CX [Z4b]⟩
theorem Zez{a:List Y_KidRun}{K0 K1}(c:K0= λe=>K .ret ⟨[(1,.s (.one (.clos 238 []))),(4,vI e)],[],0⟩)(d:K1= λf g=>K (.exit 0) ⟨[(0,vV Jal a),(1,.s (.one (.clos 238 []))),(7,vI (Wh a)),(8,vI f),(9,vB g)],[],0⟩)(n b):Zg N a K0 K1 n b=LM Hv N 0 100002 n ⟨[(0,vV Jal a),(1,.s (.one (.clos 238 []))),(7,vI (Wh a)),(8,vI b)],[],0⟩ K:=by subst c d;induction n generalizing b;kernel_rfl;rw[Zg];simp only[*];kernel_rfl
theorem Zgj(s1:List Y_KidRun):DN Hv N (s1,())=Zz N s1:=by
 conv=>rhs;rw[Zz];simp(disch:=exact id (by kernel_rfl)) only[Zez (R:=Unit×Kj) N (CF Hv N [1,0,1,0])]
 kernel_rfl
def Zgk:Gd:=GF Hv func276 (λN d=>Zgj N d.1)
def Ze4:Fn:=⟨f237,Wy,λN=>Sig.of [vf_ Jal,.clos 238 0] [vf_ Jr] (λd=>Qf N d.1),CX [Zgk]⟩
def Ze5:Gd:=GF Ze4 func237
def Z84:Fn:=⟨f184,Wy,λN=>Sig.of [vt_ (TY_Family)] [vf_ Jr] (λd=>I9 N d.1),CX [Ze5]⟩
def Z85:Gd:=GF Z84 func184
def IN:Fn:=⟨f185,λ |5=>cn_ [3,20,21,22,23]|6=>cn_ [3,4,5,20,21,22]|7=>cn_ [3,4,5,20,21,22]|8=>cn_ [3,4,5,20,21,22,37]|9=>cn_ [3,20,21,22]|10=>cn_ [3,20,21,22]|100005=>cn_ [3,20,21,22]|_=>[],λN=>Sig.of [vt_ (TY_Family)] [vf_ Jd] (λd=>BT N d.1),CX [Ew,hX]⟩
def Zyo(b:List Y_KidRun)(c d:Int)(a:List Int):St:=⟨[(3,vO 0),(20,vV Jal b),(21,vI c),(22,vI d)],[(0,.arr Ja a)],1⟩
def Zvl(d:List Y_KidRun)(e a:Int)(b:Bool)(c:List Int):St:=⟨[(3,vO 0),(20,vV Jal d),(21,vI e),(22,vI a),(23,vB b)],[(0,.arr Ja c)],1⟩
theorem Zyp{b:List Y_KidRun}{c:Int}{K0:Int->Bool->Kg->Option R}(h:K0= λe f g=>K (.exit 0) (Zvl b c e f g))(n d a):p5 N b c K0 n d a=LM IN N 0 100005 n (Zyo b c d a) K:=by subst h;induction n generalizing d a;kernel_rfl;rw[p5];simp only[*];kernel_rfl
theorem Z86(f1:Y_Family):DN IN N (f1,())=BT N f1:=by
 conv=>rhs;rw[BT];simp(disch:=exact id (by kernel_rfl)) only[Zyp (R:=Unit×Kad) N (CF IN N [1,1,1,0,1,0])]
 kernel_rfl
def Z87:Gd:=GF IN func185 (λN d=>Z86 N d.1)
def IP:Fn:=⟨f186,λ |3=>cn_ [3,8,9,10,11]|4=>cn_ [3,5,8,9,10]|5=>cn_ [3,8,9,10]|6=>cn_ [3,8,9,10]|100003=>cn_ [3,8,9,10]|_=>[],λN=>Sig.of [vt_ (TY_Family)] [vf_ Jc] (λd=>BU N d.1),W5⟩
def Zyq(b:List Kb)(c d:Int)(a:List Kc):St:=⟨[(3,vO 0),(8,vV Jp b),(9,vI c),(10,vI d)],[(0,.arr Jt a)],1⟩
def Zvm(b:List Kb)(c d:Int)(e:Bool)(a:List Kc):St:=⟨[(3,vO 0),(8,vV Jp b),(9,vI c),(10,vI d),(11,vB e)],[(0,.arr Jt a)],1⟩
theorem Zyr{b:List Kb}{c:Int}{K0:Int->Bool->Kx->Option R}(e:K0= λg h f=>K (.exit 0) (Zvm b c g h f))(n d a):wQ N b c K0 n d a=LM IP N 0 100003 n (Zyq b c d a) K:=by subst e;induction n generalizing d a;kernel_rfl;rw[wQ];simp only[*];kernel_rfl
theorem Z88(f1:Y_Family):DN IP N (f1,())=BU N f1:=by
 conv=>rhs;rw[BU];simp(disch:=exact id (by kernel_rfl)) only[Zyr (R:=Unit×(Kx×Unit)) N (CF IP N [1,1,0,1,0])]
 kernel_rfl
def Z89:Gd:=GN IP func186 (λN d=>Z88 N d.1)
def Z4c:Fn:=⟨f142,Wy,λN=>Sig.of [.box Jk] [] (λd=>EB N d.1),CX [Ey,Z85,Z87,Z89,hX]⟩
def Z4d:Gd:=GF Z4c func142
def Zvn:Fn:=⟨f145,λ |2=>[.shut 1 15]|11=>[.shut 1 15]|1000000=>[.unfE 1]|_=>[],λN=>Sig.of [.boxal Jn 3] [] (λd=>Em N d.1 d.2.1),CX [ZF,Ey,Et,hX]⟩
def Zvo:Gd:=GF Zvn func145
def Z1n:Fn:=⟨f243,Wy,λN=>Sig.of [vt_ Jm] [vt_ Js] (λd=>Ep N d.1),CX [Et,hX]⟩
def ZN:Gd:=GF Z1n func243
def Ztr:Fn:=⟨f277,Wy,λN=>Sig.of [vt_ Jm] [vf_ Ja] (λd=>AM N d.1),W5⟩
def ZB:Gd:=GN Ztr func277
def AW:Fn:=⟨f244,λ |4=>cn_ [1,3,38]|5=>cn_ [1,3]|6=>cn_ [1,3,54]|7=>cn_ [2]|9=>cn_ [1,56,57,58,59]|10=>cn_ [1,4,5,56,57,58]|11=>cn_ [1,56,57,58,79]|12=>cn_ [2]|13=>cn_ [1,56,57,58]|100004=>cn_ [1,3]|100009=>cn_ [1,56,57,58]|_=>[],λN=>Sig.of [vt_ Jm] [vf_ Jr] (λd=>xP N d.1),CX [EK,Zy,IK,oy,ZB]⟩
theorem Zvq{b8:Int×Int×Int×Int×Int×List Kc×List Int}{K0 K1}(c:K0=K .ret ⟨[(2,vB false)],[],0⟩)(d:K1= λe b=>K (.exit 0) ⟨[(1,vP 0 0),(3,vI e),(38,vB b)],[(0,.box (split Jm b8))],1⟩)(n a):sJ N b8 K0 K1 n a=LM AW N 0 100004 n ⟨[(1,vP 0 0),(3,vI a)],[(0,.box (split Jm b8))],1⟩ K:=by subst c d;induction n generalizing a;kernel_rfl;rw[sJ];simp only[*];kernel_rfl
theorem Zvs{b:List Int}{a:Int×Int×Int×Int×Int×List Kc×List Int}{K0 K1}(e:K0=K .ret ⟨[(2,vB false)],[],0⟩)(f:K1= λd g=>K (.exit 2) ⟨[(1,vP 0 0),(56,vV Ji b),(57,vI (Wh a.2.2.2.2.2.2)),(58,vI d),(59,vB g)],[(0,.box (split Jm a))],1⟩)(n c):qa N b a K0 K1 n c=LM AW N 1 100009 n ⟨[(1,vP 0 0),(56,vV Ji b),(57,vI (Wh a.2.2.2.2.2.2)),(58,vI c)],[(0,.box (split Jm a))],1⟩ K:=by subst e f;induction n generalizing c;kernel_rfl;rw[qa];simp only[*];kernel_rfl
theorem Z58(c1:Int×Int×Int×Int×Int×List Kc×List Int):DN AW N (c1,())=xP N c1:=by
 conv=>rhs;rw[xP];simp(disch:=exact id (by kernel_rfl)) only[Zvq (R:=Unit×Kf) N (CF AW N [1,1,0,1,0]),Zvs (R:=Unit×Kf) N (CF AW N [1,1,1,0,1,0])]
 kernel_rfl
def Zrh:Gd:=GF AW func244 (λN d=>Z58 N d.1)
def Zr4:Fn:=⟨f245,Wy,λN=>Sig.of [.box Js,vf_ Ja] [] (λd=>ke N d.1 d.2.1),W5⟩
def ZC:Gd:=GN Zr4 func245
def Zys:Fn:=⟨f189,Wy,λN=>Sig.of [vt_ Jm] [vt_ Js,vf_ Jr] (λd=>HM N d.1),CX [ZN,Zrh,ZC]⟩
def Zyt:Gd:=GF Zys func189
def Z9a:Fn:=⟨f246,Wy,λN=>Sig.of [vt_ Jad] [vt_ Jz] (λd=>oe N d.1),W5⟩
def EL:Gd:=GN Z9a func246
def PZ:Fn:=⟨f248,Wy,λN=>Sig.of [vt_ Jad,vf_ Ja,vf_ Ja] [vt_ Jz,vf_ Jr] (λd=>E7 N d.1 d.2.1 d.2.2.1),CX [EL,B2,oy,EK]⟩
def Pp:Gd:=GF PZ func248
def Zsm:Fn:=⟨f251,Wy,λN=>Sig.of [.box Js,vf_ Ja] [] (λd=>El N d.1 d.2.1),W5⟩
def YY:Gd:=GN Zsm func251
def Zyu:Fn:=⟨f249,Wy,λN=>Sig.of [.box Js,vf_ Ja] [] (λd=>p6 N d.1 d.2.1),CX [ZB,YY]⟩
def Zyv:Gd:=GF Zyu func249
def Pq:Fn:=⟨f250,Wy,λN=>Sig.of [vt_ Jad] [vt_ Jz,vf_ Ja] (λd=>KJ N d.1),CX [EL,B2]⟩
def Pr:Gd:=GF Pq func250
def PA:Fn:=⟨f252,Wy,λN=>Sig.of [vt_ Jad,vf_ Ja,vf_ Ja,vf_ Ja] [vt_ Jz,vf_ Jr] (λd=>JT N d.1 d.2.1 d.2.2.1 d.2.2.2.1),CX [EL,B2,oy,EK,mN]⟩
def PC:Gd:=GF PA func252
def OW:Fn:=⟨f253,Wy,λN=>Sig.of [vt_ Jad,vf_ Ja,vf_ Ja,vf_ Ja] [vt_ Jz,vf_ Jr] (λd=>E2 N d.1 d.2.1 d.2.2.1 d.2.2.2.1),CX [EL,B2,oy,EK,Zy]⟩
def OX:Gd:=GF OW func253
def Z1o:Fn:=⟨f190,Wy,λN=>Sig.of [vt_ Jad,vt_ Jm] [vt_ Jz,vt_ Js] (λd=>H0 N d.1 d.2.1),CX [EL,ZN,B2,Zrh,Pp,Zyv,ZC,Pr,YY,PC,OX]⟩
def Z1p:Gd:=GF Z1o func190
def Zvt:Fn:=⟨f146,λ |0=>[.opn 13]|11=>[.nest 85 Jac]|_=>[],λN=>Sig.of [.box Jn,vf_ Ja] [] (λd=>Eo N d.1 d.2.1),CX [Zyt,Ey,Z1p,Et]⟩
def Zvu:Gd:=GF Zvt func146
def Z1q:Fn:=⟨f194,Wy,λN=>Sig.of [vt_ Jb,.box Ja] [vf_ Jr] (λd=>AS N d.1 d.2.1),W5⟩
def ZO:Gd:=GN Z1q func194
def Hy:Fn:=⟨f256,λ |2=>cn_ [0,1,7,8,9]|3=>cn_ [0,1,5,7,8]|4=>cn_ [0,1,5,7,8,16]|5=>cn_ [1,4]|6=>cn_ [0,1,7,8]|100002=>cn_ [0,1,7,8]|_=>[],λN=>Sig.of [vf_ Jp,.clos 194 1,.box Ja] [vf_ Ja] (λd=>Z5 N d.1 d.2.1),CX [ZO]⟩
def Zf2(a:List Kb)(b b6:Int):St:=⟨[(0,vV Jp a),(1,.s (.one (.clos 194 [0]))),(7,vI (Wh a)),(8,vI b)],[(0,.box [.val Ja b6])],1⟩
def Zfd(b:List Kb)(a az:Int):St:=⟨[(1,.s (.one (.clos 194 [0]))),(4,vI a)],[(0,.box [.val Ja az])],1⟩
def Zfe(a:List Kb)(c:Int)(b:Bool)(d:Int):St:=⟨[(0,vV Jp a),(1,.s (.one (.clos 194 [0]))),(7,vI (Wh a)),(8,vI c),(9,vB b)],[(0,.box [.val Ja d])],1⟩
theorem Zf3{a:List Kb}{K0 K1}(g:K0= λi e=>K .ret (Zfd a i e))(h:K1= λd c f=>K (.exit 0) (Zfe a d c f))(n b b6):Zh N a K0 K1 n b b6=LM Hy N 0 100002 n (Zf2 a b b6) K:=by subst g h;induction n generalizing b b6;kernel_rfl;rw[Zh];simp only[*];kernel_rfl
theorem Zg6(a:List Kb)(ee:Int):DN Hy N (a,ee,())=Z5 N a ee:=by
 conv=>rhs;rw[Z5];simp(disch:=exact id (by kernel_rfl)) only[Zf3 (R:=Kj×Kj) N (CF Hy N [1,0,1,0])]
 kernel_rfl
def Zg7:Gd:=GF Hy func256 (λN d=>Zg6 N d.1 d.2.1)
def Hw:Fn:=⟨f193,λ |5=>cn_ [0,1,5,6,19]|6=>cn_ [0,1,5,6]|7=>cn_ [0,1,5,6,7]|8=>cn_ [0,1,5,6,7,29]|9=>cn_ [0,1,5,6]|10=>cn_ [0,1,5,6]|11=>[.view 38]|100005=>cn_ [0,1,5,6]|_=>[],λN=>Sig.of [vf_ Jap,.clos 194 1,.box Ja] [vf_ Jap] (λd=>Zq N d.1 d.2.1),CX [Zg7,ZO]⟩
def Zff(a b:Int)(c:List Kb)(b7:Int):St:=⟨[(0,vO 0),(1,.s (.one (.clos 194 [1]))),(5,vI a),(6,vI b)],[(0,.arr Jb c),(1,.box [.val Ja b7])],2⟩
def Ze6(d e:Int)(a:Bool)(b:List Kb)(c:Int):St:=⟨[(0,vO 0),(1,.s (.one (.clos 194 [1]))),(5,vI d),(6,vI e),(19,vB a)],[(0,.arr Jb b),(1,.box [.val Ja c])],2⟩
theorem Zfg{K0:Int->Int->Bool->Ks->Int->Option R}(g:K0= λh i d e f=>K (.exit 0) (Ze6 h i d e f))(n a b c b7):Zc N K0 n a b c b7=LM Hw N 0 100005 n (Zff a b c b7) K:=by subst g;induction n generalizing a b c b7;kernel_rfl;rw[Zc];simp only[*];kernel_rfl
theorem Zgp(a:List Kb)(ee:Int):DN Hw N (a,ee,())=Zq N a ee:=by
 conv=>rhs;rw[Zq];simp(disch:=exact id (by kernel_rfl)) only[Zfg (R:=Kj×Kag) N (CF Hw N [1,1,1,0,1,0])]
 kernel_rfl
def Zgq:Gd:=GF Hw func193 (λN d=>Zgp N d.1 d.2.1)
def Z59:Fn:=⟨f147,Wy,λN=>Sig.of [vf_ Jp,vf_ Ja] [vf_ Jap] (λd=>IR N d.1 d.2.1),CX [ZU,If,Zgq]⟩
def Z6a:Gd:=GF Z59 func147
def Z1r:Fn:=⟨f108,λ |1=>[.opn 12]|_=>[],λN=>Sig.of [.box Jn,vf_ Ja,vt_ Jaf] [] (λd=>Er N d.1 d.2.1 d.2.2.1),CX [Zy,Ey,Z1b,Z39,Z4d,ZG,ZM,Zvo,Zvu,Z6a,ZR]⟩
def Z1s:Gd:=GF Z1r func108
def Zsn:Fn:=⟨f201,Wy,λN=>Sig.of [vt_ Jb,.box Ja] [vf_ Jr] (λd=>Qj N d.1 d.2.1),W5⟩
def Zso:Gd:=GN Zsn func201
def Z8:Fn:=⟨f200,λ |2=>cn_ [0,1,7,8,9]|3=>cn_ [0,1,5,7,8]|4=>cn_ [0,1,5,7,8,16]|5=>cn_ [1,4]|6=>cn_ [0,1,7,8]|100002=>cn_ [0,1,7,8]|_=>[],λN=>Sig.of [vf_ Jp,.clos 201 1,.box Ja] [vf_ Ja] (λd=>Zn N d.1 d.2.1),CX [Zso]⟩
def Zee(a:List Kb)(b b6:Int):St:=⟨[(0,vV Jp a),(1,.s (.one (.clos 201 [0]))),(7,vI (Wh a)),(8,vI b)],[(0,.box [.val Ja b6])],1⟩
def Zd7(b:List Kb)(a az:Int):St:=⟨[(1,.s (.one (.clos 201 [0]))),(4,vI a)],[(0,.box [.val Ja az])],1⟩
def Zd8(a:List Kb)(c:Int)(b:Bool)(d:Int):St:=⟨[(0,vV Jp a),(1,.s (.one (.clos 201 [0]))),(7,vI (Wh a)),(8,vI c),(9,vB b)],[(0,.box [.val Ja d])],1⟩
theorem Zef{a:List Kb}{K0 K1}(g:K0= λi e=>K .ret (Zd7 a i e))(h:K1= λd c f=>K (.exit 0) (Zd8 a d c f))(n b b6):Zf N a K0 K1 n b b6=LM Z8 N 0 100002 n (Zee a b b6) K:=by subst g h;induction n generalizing b b6;kernel_rfl;rw[Zf];simp only[*];kernel_rfl
theorem Ze7(a:List Kb)(ee:Int):DN Z8 N (a,ee,())=Zn N a ee:=by
 conv=>rhs;rw[Zn];simp(disch:=exact id (by kernel_rfl)) only[Zef (R:=Kj×Kj) N (CF Z8 N [1,0,1,0])]
 kernel_rfl
def Ze8:Gd:=GF Z8 func200 (λN d=>Ze7 N d.1 d.2.1)
def Zvv:Fn:=⟨f151,Wy,λN=>Sig.of [.rp (TY_Family),vf_ Ja] [vf_ Ja] (λd=>wH N d.1 d.2.1),CX [Ze8]⟩
def Qk:Gd:=GF Zvv func151
def Zsp:Fn:=⟨f152,Wy,λN=>Sig.of [.box Jx,vf_ Ja] [] (λd=>sw N d.1 d.2.1),CX [hX]⟩
def YZ:Gd:=GF Zsp func152
def Zyw:Fn:=⟨f195,λ |1=>[.opn 18]|_=>[],λN=>Sig.of [.box Jx,vf_ Ja,vt_ Ju,vt_ Jad] [] (λd=>HJ N d.1 d.2.1 d.2.2.1 d.2.2.2.1),CX [Qz,Qk,YZ,Zrf,ZS]⟩
def Zyx:Gd:=GF Zyw func195
def Zvw:Fn:=⟨f196,λ |5=>[.opn 28]|_=>[],λN=>Sig.of [.box Jl,vf_ Jh] [] (λd=>HN N d.1 d.2.1),CX [hX,Et,Zvd]⟩
def Zvx:Gd:=GF Zvw func196
def Z1t:Fn:=⟨f149,λ |1=>[.opn 16]|18=>[.nest 128 Jaj]|_=>[],λN=>Sig.of [.box Jx,vf_ Ja,vf_ Jh,vt_ Jad] [] (λd=>HX N d.1 d.2.1 d.2.2.1 d.2.2.2.1),CX [Zyx,Zvx,hX,Zzc]⟩
def Z1u:Gd:=GF Z1t func149
def YU(N:Nat):Sig:=Sig.of [.mut Jb,.clos 199 0] [] (λd=>Qg N d.1)
theorem Zfh:Nn Tryz.prog 199 Jb D0 cfE:=by
  intro G x y l m w j k h i;obtain⟨_,_,rfl,a,_,_,rfl,b,d⟩:=h;obtain⟨_,_,rfl,e,_,_,rfl,f,g⟩:=i;simp only[Enc]at a b d e f g;subst a b d e f g;simp only[dO,df]
  go_enter Tryz.func199,Tryz.ntmps199
  go_wp2
  rw[MB (zf j) (zf k) (c:=cfE x y) rfl]
  go_wp2
  go_ret
  exact⟨rfl,Mf _ _ _⟩
theorem Zfi(N:Nat):GW 198 (YU N):=⟨Ft Tryz.func198 (show vl Tryz.f198=true by kernel_rfl),Sy sortFE (e:=.prod Ja Jt) rfl (by decide) Tryz.isAgg154 Tryz.sizeOf154 (enters_of Tryz.func199 (by kernel_rfl) rfl) WyO Zfh N⟩
def Zfj:Gd:=⟨198,YU,Zfi⟩
def AH:Fn:=⟨f150,λ |0=>[.opn 16]|3=>cn_ [0,1,4,28,29,30,31]|4=>cn_ [0,1,4,6,28,29,30]|5=>cn_ [0,1,4,6,7,28,29,30]|6=>cn_ [0,1,4,7,8,28,29,30]|7=>cn_ [0,1,4,7,8,28,29,30,48]|8=>cn_ [0,1,4,28,29,30]|9=>cn_ [0,1,4,28,29,30]|10=>cn_ [0,1,4,28,29,30]|13=>cn_ [0,1,4,75,76,77,78]|14=>cn_ [0,1,4,10,75,76,77]|15=>cn_ [0,1,4,10,75,76,77,83]|16=>cn_ [0,1,4,75,76,77]|17=>cn_ [0,1,4,75,76,77]|100003=>cn_ [0,1,4,28,29,30]|100013=>cn_ [0,1,4,75,76,77]|_=>[],λN=>Sig.of [.box Jx,vf_ Ja] [] (λd=>AI N d.1 d.2.1),CX [KH,Qk,Zfj]⟩
def Zri(v x y b7 b8 b9:Int)(az:Bool)(a c g h b e:Int)(p:Bool)(d r s j:Int)(bT:List Kc)(t:List Int)(l:List Kc)(u:List Kb)(f:List Int)(n:List Kc)(q:List Y_KidRun)(w:Nat)(m:List Int)(o:List Kb)(k:List Kc)(i:List Kk):St:=⟨[(0,vP 0 0),(1,vI v),(4,vP 1 0),(28,vO 2),(29,vI x),(30,vI y)],[(0,.box [.val Ja b7,.val Ja b8,.val Ja b9,.val Jr az,.own 3,.own 4,.own 5,.own 6,.own 7,.own 8]),(1,.box [.val Ja a,.val Ja c,.val Ja g,.val Ja h,.val Ja b,.val Ja e,.own 9,.own 10,.own 11,.own 12,.val Jr p,.val Ja d,.val Ja r,.val Ja s,.val Ja j]),(2,.arr Jt bT),(3,.arr Ja t),(4,.arr Jt l),(5,.arr Jb u),(6,.arr Ja f),(7,.arr Jt n),(8,.hole Jl q w 1),(9,.arr Ja m),(10,.arr Jb o),(11,.arr Jt k),(12,.arr Jaj i)],13⟩
def Zq5(v z b7 b8 b9:Int)(az:Bool)(a c g h b e:Int)(p:Bool)(d s t j:Int)(bT:List Kc)(u:List Int)(l:List Kc)(f:List Int)(n:List Kc)(q:List Y_KidRun)(w:Nat)(m:List Int)(o:List Kb)(k:List Kc)(i:List Kk)(y:Int)(x:Bool)(r:List Kb):St:=⟨[(0,vP 0 0),(1,vI v),(4,vP 1 0),(28,vO 2),(29,vI z),(30,vI y),(31,vB x)],[(0,.box [.val Ja b7,.val Ja b8,.val Ja b9,.val Jr az,.own 3,.own 4,.own 5,.own 6,.own 7,.own 8]),(1,.box [.val Ja a,.val Ja c,.val Ja g,.val Ja h,.val Ja b,.val Ja e,.own 9,.own 10,.own 11,.own 12,.val Jr p,.val Ja d,.val Ja s,.val Ja t,.val Ja j]),(2,.arr Jt bT),(3,.arr Ja u),(4,.arr Jt l),(5,.arr Jb r),(6,.arr Ja f),(7,.arr Jt n),(8,.hole Jl q w 1),(9,.arr Ja m),(10,.arr Jb o),(11,.arr Jt k),(12,.arr Jaj i)],13⟩
theorem Zrj{w y b7 b8 b9:Int}{az:Bool}{a c g h b e:Int}{q:Bool}{d s t j:Int}{bT:List Kc}{u:List Int}{l:List Kc}{f:List Int}{o:List Kc}{r:List Y_KidRun}{x:Nat}{m:List Int}{p:List Kb}{k:List Kc}{i:List Kk}{K0:Int->Bool->Ks->Option R}(B:K0= λD C A=>K (.exit 0) (Zq5 w y b7 b8 b9 az a c g h b e q d s t j bT u l f o r x m p k i D C A))(n z v):p3 N w y b7 b8 b9 az a c g h b e q d s t j bT u l f o r x m p k i K0 n z v=LM AH N 0 100003 n (Zri w y z b7 b8 b9 az a c g h b e q d s t j bT u l v f o r x m p k i) K:=by subst B;induction n generalizing z v;kernel_rfl;rw[p3];simp only[*];kernel_rfl
def Zrk(p w a d c e:Int)(f:Bool)(g h i b j q:Int)(m:Bool)(n o r x:Int)(dX:List Kb)(v:List Int)(s:List Kc)(t:List Kb)(y:List Int)(B:List Kc)(A:List Y_KidRun)(z:Nat)(l:List Int)(k:List Kc)(u:List Kk):St:=⟨[(0,vP 0 0),(1,vI p),(4,vP 1 0),(75,vO 2),(76,vI w),(77,vI a)],[(0,.box [.val Ja d,.val Ja c,.val Ja e,.val Jr f,.own 3,.own 4,.own 5,.own 6,.own 7,.own 8]),(1,.box [.val Ja g,.val Ja h,.val Ja i,.val Ja b,.val Ja j,.val Ja q,.own 9,.own 2,.own 10,.own 11,.val Jr m,.val Ja n,.val Ja o,.val Ja r,.val Ja x]),(2,.arr Jb dX),(3,.arr Ja v),(4,.arr Jt s),(5,.arr Jb t),(6,.arr Ja y),(7,.arr Jt B),(8,.hole Jl A z 1),(9,.arr Ja l),(10,.arr Jt k),(11,.arr Jaj u)],12⟩
def Zq6(o v c b d:Int)(e:Bool)(f g h a i p:Int)(l:Bool)(m n q w:Int)(dX:List Kb)(u:List Int)(r:List Kc)(s:List Kb)(x:List Int)(z:List Y_KidRun)(y:Nat)(k:List Int)(j:List Kc)(t:List Kk)(A:Int)(B:Bool)(C:List Kc):St:=⟨[(0,vP 0 0),(1,vI o),(4,vP 1 0),(75,vO 2),(76,vI v),(77,vI A),(78,vB B)],[(0,.box [.val Ja c,.val Ja b,.val Ja d,.val Jr e,.own 3,.own 4,.own 5,.own 6,.own 7,.own 8]),(1,.box [.val Ja f,.val Ja g,.val Ja h,.val Ja a,.val Ja i,.val Ja p,.own 9,.own 2,.own 10,.own 11,.val Jr l,.val Ja m,.val Ja n,.val Ja q,.val Ja w]),(2,.arr Jb dX),(3,.arr Ja u),(4,.arr Jt r),(5,.arr Jb s),(6,.arr Ja x),(7,.arr Jt C),(8,.hole Jl z y 1),(9,.arr Ja k),(10,.arr Jt j),(11,.arr Jaj t)],12⟩
theorem Zrl{q x d c e:Int}{f:Bool}{g h i b j r:Int}{m:Bool}{o p s y:Int}{dX:List Kb}{w:List Int}{t:List Kc}{u:List Kb}{z:List Int}{B:List Y_KidRun}{A:Nat}{l:List Int}{k:List Kc}{v:List Kk}{K0:Int->Bool->Kx->Option R}(D:K0= λE F G=>K (.exit 2) (Zq6 q x d c e f g h i b j r m o p s y dX w t u z B A l k v E F G))(n a C):sq N q x d c e f g h i b j r m o p s y dX w t u z B A l k v K0 n a C=LM AH N 1 100013 n (Zrk q x a d c e f g h i b j r m o p s y dX w t u z C B A l k v) K:=by subst D;induction n generalizing a C;kernel_rfl;rw[sq];simp only[*];kernel_rfl
theorem Zvy(f1:Y_Family)(k2:Int):DN AH N (f1,k2,())=AI N f1 k2:=by
 conv=>rhs;rw[AI];simp(disch:=exact id (by kernel_rfl)) only[Zrj (R:=(Y_Family×Unit)×Unit) N (CF AH N [1,1,0,1,0]),Zrl (R:=(Y_Family×Unit)×Unit) N (CF AH N [1,1,1,1,0,1,0])]
 kernel_rfl
def Zvz:Gd:=GF AH func150 (λN d=>Zvy N d.1 d.2.1)
def Zyy:Fn:=⟨f109,λ |2=>[.opn 20]|_=>[],λN=>Sig.of [.box Jx,vf_ Ja,vf_ Jh,vt_ Jad] [] (λd=>HK N d.1 d.2.1 d.2.2.1 d.2.2.2.1),CX [Z1u,Zvz,Qk,YZ]⟩
def Zyz:Gd:=GF Zyy func109
def Z4e:Fn:=⟨f80,λ |3=>[.unfE 6]|_=>[],λN=>Sig.of [.box Jn,vt_ Jy,vt_ Jb] [] (λd=>AY N d.1 d.2.1 d.2.2.1),CX [Zy,Z1s,Zyz]⟩
def ZH:Gd:=GF Z4e func80
def KB:Fn:=⟨f50,λ |3=>[.nest 21 Jk]|6=>cn_ [1,2,3,32,33,34,35]|7=>cn_ [1,2,3,5,32,33,34]|8=>cn_ [1,2,3,32,33,34]|9=>cn_ [1,2,3,32,33,34]|100006=>[.adoptC 3 6 Jb,.adoptC 3 8 Jac,.canon [1,2,3,32,33,34]]|_=>[],λN=>Sig.of [vt_ Jy] [vt_ Jn] (λd=>lN N d.1),CX [Es,Z3s,N7,ZH]⟩
def Z6b(j:List Kb)(k:Int)(b8:Ke×List Kn×List Kb)(e g a d:Int)(c:List Kb)(f:List Int)(b:List Kb)(h:List Y_Root)(i:List Ko):St:=⟨[(1,vP 0 0),(2,vP 1 0),(3,vP 2 0),(32,vV Jp j),(33,vI (Wh b8.2.2)),(34,vI k)],[(0,.box [.val Ji b8.1.1,.val Ji b8.1.2.1,.val Ja b8.1.2.2,.val Jo b8.2.1,.val Jp b8.2.2]),(1,.box [.val Ja (0:Int),.val Ja (0:Int),.val Ja (0:Int),.nils,.nils,.val Ja (0:Int),.nils,.nils,.nils]),(2,.box [.val Ja e,.val Ja g,.val Ja a,.own 3,.own 4,.val Ja d,.own 5,.own 6,.own 7]),(3,.arr Jb c),(4,.arr Ja f),(5,.arr Jb b),(6,.arr Jk h),(7,.arr Jac i)],8⟩
def Z4f(l:List Kb)(b8:Ke×List Kn×List Kb)(k:Int)(a:Bool)(i d g j:Int)(e:List Kb)(f:List Int)(c:List Kb)(b:List Y_Root)(h:List Ko):St:=⟨[(1,vP 0 0),(2,vP 1 0),(3,vP 2 0),(32,vV Jp l),(33,vI (Wh b8.2.2)),(34,vI k),(35,vB a)],[(0,.box [.val Ji b8.1.1,.val Ji b8.1.2.1,.val Ja b8.1.2.2,.val Jo b8.2.1,.val Jp b8.2.2]),(1,.box [.val Ja (0:Int),.val Ja (0:Int),.val Ja (0:Int),.nils,.nils,.val Ja (0:Int),.nils,.nils,.nils]),(2,.box [.val Ja i,.val Ja d,.val Ja g,.own 3,.own 4,.val Ja j,.own 5,.own 6,.own 7]),(3,.arr Jb e),(4,.arr Ja f),(5,.arr Jb c),(6,.arr Jk b),(7,.arr Jac h)],8⟩
theorem Z6c{k:List Kb}{b8:Ke×List Kn×List Kb}{K0:Int->Bool->Int->Int->Int->Int->Ks->Kg->Ks->(List Y_Root)->Kac->Option R}(w:K0= λx j u p s v q r o m t=>K (.exit 0) (Z4f k b8 x j u p s v q r o m t))(n l e g a d c f b h i):tn N k b8 K0 n l e g a d c f b h i=LM KB N 0 100006 n (Z6b k l b8 e g a d c f b h i) K:=by subst w;induction n generalizing l e g a d c f b h i;kernel_rfl;rw[tn];simp only[*];kernel_rfl
theorem Ps(s1:Ke×List Kn×List Kb):DN KB N (s1,())=lN N s1:=by
 conv=>rhs;rw[lN];simp(disch:=exact id (by kernel_rfl)) only[Z6c (R:=Unit×(Y_World×Unit)) N (CF KB N [1,1,1,1,0,1,0])]
 kernel_rfl
def QA:Gd:=GF KB func50 (λN d=>Ps N d.1)
def KD:Fn:=⟨f77,λ |3=>cn_ [3,8,9,10,11]|4=>cn_ [3,4,5,8,9,10]|5=>cn_ [3,4,8,9,10,22]|6=>cn_ [3,8,9,10]|7=>cn_ [3,8,9,10]|100003=>cn_ [3,8,9,10]|_=>[],λN=>Sig.of [vt_ (TY_World)] [vf_ Jd] (λd=>CB N d.1),W5⟩
def Z6d(b:List Y_Root)(c d:Int)(a:List Int):St:=⟨[(3,vO 0),(8,vV Jae b),(9,vI c),(10,vI d)],[(0,.arr Ja a)],1⟩
def Z4g(b:List Y_Root)(c d:Int)(e:Bool)(a:List Int):St:=⟨[(3,vO 0),(8,vV Jae b),(9,vI c),(10,vI d),(11,vB e)],[(0,.arr Ja a)],1⟩
theorem Z6e{b:List Y_Root}{c:Int}{K0:Int->Bool->Kg->Option R}(e:K0= λg h f=>K (.exit 0) (Z4g b c g h f))(n d a):mF N b c K0 n d a=LM KD N 0 100003 n (Z6d b c d a) K:=by subst e;induction n generalizing d a;kernel_rfl;rw[mF];simp only[*];kernel_rfl
theorem Pt(w1:Y_World):DN KD N (w1,())=CB N w1:=by
 conv=>rhs;rw[CB];simp(disch:=exact id (by kernel_rfl)) only[Z6e (R:=Unit×Kad) N (CF KD N [1,1,0,1,0])]
 kernel_rfl
def Pu:Gd:=GN KD func77 (λN d=>Pt N d.1)
def AQ:Fn:=⟨f49,λ |3=>cn_ [1,2,3,16,17,18,19]|4=>cn_ [1,2,3,5,16,17,18]|5=>cn_ [1,2,3,5,16,17,18,22]|6=>cn_ [1,2,3,5,16,17,18]|7=>cn_ [1,2,3,5,16,17,18,30]|8=>cn_ [1,2,3,5,16,17,18]|9=>cn_ [1,2,3,5,16,17,18,43]|10=>cn_ [1,2,3,5,16,17,18]|11=>cn_ [1,2,3,5,16,17,18,53]|12=>cn_ [1,2,3,16,17,18]|13=>cn_ [1,2,3,16,17,18]|15=>cn_ [2,3,63,64,65,66]|16=>cn_ [2,3,7,63,64,65]|17=>cn_ [2,3,63,64,65,71]|18=>cn_ [2,3,63,64,65]|19=>cn_ [2,3,63,64,65]|100003=>cn_ [1,2,3,16,17,18]|100015=>cn_ [2,3,63,64,65]|_=>[],λN=>Sig.of [vt_ (TY_World)] [vt_ Jak] (λd=>qh N d.1),CX [Pu,Zy]⟩
def Zy0(f:List Y_Root)(g:Int)(b6:Y_World)(d a c e b:Int):St:=⟨[(1,vP 0 0),(2,vP 1 0),(3,vP 2 0),(16,vV Jae f),(17,vI (Wh b6.2.2.2.2.2.1)),(18,vI g)],[(0,.box (split (TY_World) b6)),(1,.box [.val Ja (0:Int),.val Ja (0:Int),.val Ja (0:Int),.val Ja (0:Int),.val Ja (0:Int),.val Ja (0:Int),.val Ja (0:Int)]),(2,.box [.val Ja d,.val Ja a,.val Ja c,.val Ja e,.val Ja b,.val Ja (0:Int),.val Ja (Wh b6.2.2.2.2.1)])],3⟩
def Zv0(f:List Y_Root)(b6:Y_World)(a e:Int)(h:Bool)(b d g c:Int):St:=⟨[(1,vP 0 0),(2,vP 1 0),(3,vP 2 0),(16,vV Jae f),(17,vI (Wh b6.2.2.2.2.2.1)),(18,vI e),(19,vB h)],[(0,.box (split (TY_World) b6)),(1,.box [.val Ja (0:Int),.val Ja (0:Int),.val Ja (0:Int),.val Ja (0:Int),.val Ja (0:Int),.val Ja (0:Int),.val Ja (0:Int)]),(2,.box [.val Ja b,.val Ja a,.val Ja d,.val Ja g,.val Ja c,.val Ja (0:Int),.val Ja (Wh b6.2.2.2.2.1)])],3⟩
theorem Zy1{f:List Y_Root}{b6:Y_World}{a:Int}{K0}(h:K0= λl o i k m j=>K (.exit 0) (Zv0 f b6 a l o i k m j))(n g d c e b):gA N f b6 a K0 n g d c e b=LM AQ N 0 100003 n (Zy0 f g b6 d a c e b) K:=by subst h;induction n generalizing g d c e b;kernel_rfl;rw[gA];simp only[*];kernel_rfl
def Zy2(b:List Kb)(h a i g j c f d e:Int):St:=⟨[(2,vP 0 0),(3,vP 1 0),(63,vV Jp b),(64,vI h),(65,vI a)],[(0,.box [.val Ja (0:Int),.val Ja (0:Int),.val Ja (0:Int),.val Ja (0:Int),.val Ja (0:Int),.val Ja (0:Int),.val Ja (0:Int)]),(1,.box [.val Ja i,.val Ja g,.val Ja j,.val Ja c,.val Ja f,.val Ja d,.val Ja e])],2⟩
def Zv1(a:List Kb)(f g e h b d c i:Int)(j:Bool)(k:Int):St:=⟨[(2,vP 0 0),(3,vP 1 0),(63,vV Jp a),(64,vI f),(65,vI i),(66,vB j)],[(0,.box [.val Ja (0:Int),.val Ja (0:Int),.val Ja (0:Int),.val Ja (0:Int),.val Ja (0:Int),.val Ja (0:Int),.val Ja (0:Int)]),(1,.box [.val Ja g,.val Ja e,.val Ja h,.val Ja b,.val Ja d,.val Ja k,.val Ja c])],2⟩
theorem Zy3{b:List Kb}{h i g j c f e:Int}{K0}(k:K0= λl m o=>K (.exit 3) (Zv1 b h i g j c f e l m o))(n a d):sZ N b h i g j c f e K0 n a d=LM AQ N 1 100015 n (Zy2 b h a i g j c f d e) K:=by subst k;induction n generalizing a d;kernel_rfl;rw[sZ];simp only[*];kernel_rfl
theorem Z9b(w1:Y_World):DN AQ N (w1,())=qh N w1:=by
 conv=>rhs;rw[qh];simp(disch:=exact id (by kernel_rfl)) only[Zy1 (R:=Unit×(Kl×Unit)) N (CF AQ N [1,1,0,1,0]),Zy3 (R:=Unit×(Kl×Unit)) N (CF AQ N [1,1,1,0,1,0])]
 kernel_rfl
def Z9c:Gd:=GF AQ func49 (λN d=>Z9b N d.1)
def Z4h:Fn:=⟨f48,Wy,λN=>Sig.of [vt_ Jak] [vf_ Jaa] (λd=>xB N d.1),CX [E9]⟩
def Z4i:Gd:=GF Z4h func48
def OY:Fn:=⟨f111,Wy,λN=>Sig.of [vt_ (TY_Root)] [vf_ Jr] (λd=>Qw N d.1),W5⟩
def OZ:Gd:=GN OY func111
def Hz:Fn:=⟨f153,λ |2=>cn_ [0,1,7,8,9]|3=>cn_ [0,1,5,7,8]|4=>cn_ [0,1,5,7,8,16]|5=>cn_ [1,4]|6=>cn_ [0,1,7,8]|100002=>cn_ [0,1,7,8]|_=>[],λN=>Sig.of [vf_ Jae,.clos 111 0] [vf_ Ja] (λd=>Ef N d.1),CX [OZ]⟩
theorem Zg9{a:List Y_Root}{K0 K1}(c:K0= λe=>K .ret ⟨[(1,.s (.one (.clos 111 []))),(4,vI e)],[],0⟩)(d:K1= λf g=>K (.exit 0) ⟨[(0,vV Jae a),(1,.s (.one (.clos 111 []))),(7,vI (Wh a)),(8,vI f),(9,vB g)],[],0⟩)(n b):Zl N a K0 K1 n b=LM Hz N 0 100002 n ⟨[(0,vV Jae a),(1,.s (.one (.clos 111 []))),(7,vI (Wh a)),(8,vI b)],[],0⟩ K:=by subst c d;induction n generalizing b;kernel_rfl;rw[Zl];simp only[*];kernel_rfl
theorem Zh4(s1:List Y_Root):DN Hz N (s1,())=Ef N s1:=by
 conv=>rhs;rw[Ef];simp(disch:=exact id (by kernel_rfl)) only[Zg9 (R:=Unit×Kj) N (CF Hz N [1,0,1,0])]
 kernel_rfl
def Zh5:Gd:=GF Hz func153 (λN d=>Zh4 N d.1)
def Zhh:Fn:=⟨f110,Wy,λN=>Sig.of [vf_ Jae,.clos 111 0] [vf_ Jr] (λd=>N4 N d.1),CX [Zh5]⟩
def Zhi:Gd:=GF Zhh func110
def Pv:Fn:=⟨f81,Wy,λN=>Sig.of [vt_ (TY_World)] [vf_ Jr] (λd=>KK N d.1),CX [Zhi]⟩
def Pw:Gd:=GF Pv func81
def tH:Fn:=⟨f51,λ |5=>cn_ [1,2,4,5,21]|6=>cn_ [1,2,4,5]|7=>cn_ [1,2,4,5,25,26,27]|8=>cn_ [1,2,4,5,25,26,27,28]|9=>cn_ [1,2,4,5,6,7,25,26,27]|10=>cn_ [1,2,4,5,6,7,25,26,27]|11=>cn_ [1,2,4,5,6,25,26,27,38,39]|12=>cn_ [1,2,4,5,6,25,26,27,38,39,40]|13=>cn_ [1,2,4,5,6,8,25,26,27,38,39]|14=>cn_ [1,2,4,5,6,25,26,27,38,39]|15=>cn_ [1,2,4,5,6,25,26,27,38,39]|16=>cn_ [1,2,4,5,25,26,27]|100005=>cn_ [1,2,4,5]|100008=>cn_ [1,2,4,5,25,26,27]|100012=>cn_ [1,2,4,5,6,25,26,27,38,39]|_=>[],λN=>Sig.of [vt_ Jy] [vt_ Jn,vf_ Ja] (λd=>ib N d.1),CX [Es,QA,Pw,ZH]⟩
def Z4j(g b:Int)(d:List Kn)(jW c:Int)(a:Ke×List Kn×List Kb)(f h i j k l e m:Int)(o:List Kb)(p:List Int)(q:List Kb)(r:List Y_Root)(n:List Ko):St:=⟨[(1,vP 0 0),(2,vP 1 0),(4,vP 2 0),(5,vI g),(6,vI b),(25,vV Jo d),(26,vI jW),(27,vI b),(38,vI (Wh (Xc d (Xa b) (([]:List Ka),([]:List Kaa))).2)),(39,vI c)],[(0,.box [.val Ji a.1.1,.val Ji a.1.2.1,.val Ja a.1.2.2,.val Jo a.2.1,.val Jp a.2.2]),(1,.box [.val Ja f,.val Ja h,.val Ja i,.nils,.nils,.val Ja j,.nils,.nils,.nils]),(2,.box [.val Ja k,.val Ja l,.val Ja e,.own 3,.own 4,.val Ja m,.own 5,.own 6,.own 7]),(3,.arr Jb o),(4,.arr Ja p),(5,.arr Jb q),(6,.arr Jk r),(7,.arr Jac n)],8⟩
def Z1v(e b:Int)(c:List Kn)(jW:Int)(a:Ke×List Kn×List Kb)(d f g h r:Int)(s:Bool)(k o l m:Int)(p:List Kb)(j:List Int)(i:List Kb)(n:List Y_Root)(q:List Ko):St:=⟨[(1,vP 0 0),(2,vP 1 0),(4,vP 2 0),(5,vI e),(6,vI b),(25,vV Jo c),(26,vI jW),(27,vI b),(38,vI (Wh (Xc c (Xa b) (([]:List Ka),([]:List Kaa))).2)),(39,vI r),(40,vB s)],[(0,.box [.val Ji a.1.1,.val Ji a.1.2.1,.val Ja a.1.2.2,.val Jo a.2.1,.val Jp a.2.2]),(1,.box [.val Ja d,.val Ja f,.val Ja g,.nils,.nils,.val Ja h,.nils,.nils,.nils]),(2,.box [.val Ja k,.val Ja o,.val Ja l,.own 3,.own 4,.val Ja m,.own 5,.own 6,.own 7]),(3,.arr Jb p),(4,.arr Ja j),(5,.arr Jb i),(6,.arr Jk n),(7,.arr Jac q)],8⟩
theorem Z4k{d m:Int}{l:List Kn}{jW:Int}{e:Ke×List Kn×List Kb}{c f g h:Int}{K0:Int->Bool->Int->Int->Int->Int->Ks->Kg->Ks->(List Y_Root)->Kac->Option R}(v:K0= λD E w A x y B u t z C=>K (.exit 4) (Z1v d m l jW e c f g h D E w A x y B u t z C))(n a i j b k p q r s o):xL N d m l jW e c f g h K0 n a i j b k p q r s o=LM tH N 2 100012 n (Z4j d m l jW a e c f g h i j b k p q r s o) K:=by subst v;induction n generalizing a i j b k p q r s o;kernel_rfl;rw[xL];simp only[*];kernel_rfl
def Z4l(b:Int)(m:List Kn)(k:Int)(a:Ke×List Kn×List Kb)(f l d e n h i o:Int)(c:List Kb)(g:List Int)(p:List Kb)(q:List Y_Root)(j:List Ko):St:=⟨[(1,vP 0 0),(2,vP 1 0),(4,vP 2 0),(5,vI b),(25,vV Jo m),(26,vI (Wh a.2.1)),(27,vI k)],[(0,.box [.val Ji a.1.1,.val Ji a.1.2.1,.val Ja a.1.2.2,.val Jo a.2.1,.val Jp a.2.2]),(1,.box [.val Ja f,.val Ja l,.val Ja d,.nils,.nils,.val Ja e,.nils,.nils,.nils]),(2,.box [.val Ja n,.val Ja h,.val Ja i,.own 3,.own 4,.val Ja o,.own 5,.own 6,.own 7]),(3,.arr Jb c),(4,.arr Ja g),(5,.arr Jb p),(6,.arr Jk q),(7,.arr Jac j)],8⟩
def Z1w(b:Int)(g:List Kn)(a:Ke×List Kn×List Kb)(e f c d p:Int)(q:Bool)(r i j k:Int)(l:List Kb)(m:List Int)(n:List Kb)(o:List Y_Root)(h:List Ko):St:=⟨[(1,vP 0 0),(2,vP 1 0),(4,vP 2 0),(5,vI b),(25,vV Jo g),(26,vI (Wh a.2.1)),(27,vI p),(28,vB q)],[(0,.box [.val Ji a.1.1,.val Ji a.1.2.1,.val Ja a.1.2.2,.val Jo a.2.1,.val Jp a.2.2]),(1,.box [.val Ja e,.val Ja f,.val Ja c,.nils,.nils,.val Ja d,.nils,.nils,.nils]),(2,.box [.val Ja r,.val Ja i,.val Ja j,.own 3,.own 4,.val Ja k,.own 5,.own 6,.own 7]),(3,.arr Jb l),(4,.arr Ja m),(5,.arr Jb n),(6,.arr Jk o),(7,.arr Jac h)],8⟩
theorem Z4m{a:Int}{m:List Kn}{d:Ke×List Kn×List Kb}{f l c e:Int}{K0:Int->Bool->Int->Int->Int->Int->Ks->Kg->Ks->(List Y_Root)->Kac->Option R}(s:K0= λB C D u v w x y z A t=>K (.exit 2) (Z1w a m d f l c e B C D u v w x y z A t))(n k o h i p b g q r j):tj N a m d f l c e K0 n k o h i p b g q r j=LM tH N 1 100008 n (Z4l a m k d f l c e o h i p b g q r j) K:=by subst s;induction n generalizing k o h i p b g q r j with|zero=>kernel_rfl|succ n ih=>rw[tj];simp(disch:=exact id (by kernel_rfl)) only[ih,Z4k N (CL tH N 1 100008 [1,1,0,0,1,1,1,0] n K)];kernel_rfl
def Z4n(h:Int)(a:Ke×List Kn×List Kb)(az c f i:Int)(b:List Kb)(e:List Int)(d:List Kb)(g:List Y_Root)(j:List Ko):St:=⟨[(1,vP 0 0),(2,vP 1 0),(4,vP 2 0),(5,vI h)],[(0,.box [.val Ji a.1.1,.val Ji a.1.2.1,.val Ja a.1.2.2,.val Jo a.2.1,.val Jp a.2.2]),(1,.box [.val Ja (0:Int),.val Ja (0:Int),.val Ja (0:Int),.nils,.nils,.val Ja (0:Int),.nils,.nils,.nils]),(2,.box [.val Ja az,.val Ja c,.val Ja f,.own 3,.own 4,.val Ja i,.own 5,.own 6,.own 7]),(3,.arr Jb b),(4,.arr Ja e),(5,.arr Jb d),(6,.arr Jk g),(7,.arr Jac j)],8⟩
def Z1x(a:Ke×List Kn×List Kb)(b:Int)(i:Bool)(j f k c:Int)(g:List Kb)(h:List Int)(l:List Kb)(d:List Y_Root)(e:List Ko):St:=⟨[(1,vP 0 0),(2,vP 1 0),(4,vP 2 0),(5,vI b),(21,vB i)],[(0,.box [.val Ji a.1.1,.val Ji a.1.2.1,.val Ja a.1.2.2,.val Jo a.2.1,.val Jp a.2.2]),(1,.box [.val Ja (0:Int),.val Ja (0:Int),.val Ja (0:Int),.nils,.nils,.val Ja (0:Int),.nils,.nils,.nils]),(2,.box [.val Ja j,.val Ja f,.val Ja k,.own 3,.own 4,.val Ja c,.own 5,.own 6,.own 7]),(3,.arr Jb g),(4,.arr Ja h),(5,.arr Jb l),(6,.arr Jk d),(7,.arr Jac e)],8⟩
theorem Z4o{e:Ke×List Kn×List Kb}{K0:Int->Bool->Int->Int->Int->Int->Ks->Kg->Ks->(List Y_Root)->Kac->Option R}(l:K0= λk t u q v m r s w o p=>K (.exit 0) (Z1x e k t u q v m r s w o p))(n h az b f i a d c g j):tl N e K0 n h az b f i a d c g j=LM tH N 0 100005 n (Z4n h e az b f i a d c g j) K:=by subst l;induction n generalizing h az b f i a d c g j with|zero=>kernel_rfl|succ n ih=>rw[tl];simp(disch:=exact id (by kernel_rfl)) only[ih,Z4m N (CL tH N 0 100005 [1,0,1,1,0] n K)];kernel_rfl
theorem PD(s1:Ke×List Kn×List Kb):DN tH N (s1,())=ib N s1:=by
 conv=>rhs;rw[ib];simp(disch:=exact id (by kernel_rfl)) only[Z4o (R:=Unit×(Y_World×Kj)) N (CF tH N [1,1,1,1,0,0])]
 kernel_rfl
def Zv2:Gd:=GF tH func51 (λN d=>PD N d.1)
def Z9d:Fn:=⟨f82,Wy,λN=>Sig.of [vt_ (TY_Root)] [vf_ Jr] (λd=>ES N d.1),W5⟩
def ZW:Gd:=GN Z9d func82
def Z9e:Fn:=⟨f113,Wy,λN=>Sig.of [vt_ (TY_Root)] [vf_ Ja] (λd=>EY N d.1),CX [ZW]⟩
def Z9f:Gd:=GF Z9e func113
def Z9g:Fn:=⟨f85,Wy,λN=>Sig.of [vt_ (TY_Root),vt_ (TY_Root)] [vf_ Ja] (λd=>JF N d.1 d.2.1),CX [Z9f]⟩
def Z9h:Gd:=GF Z9g func85
def Z9i:Fn:=⟨f84,Wy,λN=>Sig.of [vf_ Ja,vf_ Ja,.box (TY_World)] [vf_ Ja] (λd=>JG N d.1 d.2.1 d.2.2.1),CX [Z9h]⟩
def Z9j:Gd:=GF Z9i func84
def Z3:Fn:=⟨f154,λ |1=>cn_ [0,1,2,3,8,14]|2=>cn_ [0,1,2,3,8]|3=>cn_ [0,1,2,3,8,9]|4=>cn_ [0,1,2,3,8,9,34]|5=>cn_ [0,1,2,3,8,9]|6=>cn_ [0,1,2,3,8,9]|100001=>cn_ [0,1,2,3,8]|100004=>cn_ [0,1,2,3,8,9]|_=>[],λN=>Sig.of [.mut Ja,vf_ Ja,vf_ Ja,.clos 84 1,.box (TY_World)] [] (λd=>Zu N d.1 d.2.1 d.2.2.1 d.2.2.2.1),CX [Z9j]⟩
def Zij(b c f e:Int)(a:List Int)(d:Y_World):St:=⟨[(0,vO 0),(1,vI b),(2,vI c),(3,.s (.one (.clos 84 [1]))),(8,vI f),(9,vI e)],[(0,.arr Ja a),(1,.box (split (TY_World) d))],2⟩
def Zic(a b f g:Int)(e:Bool)(c:List Int)(d:Y_World):St:=⟨[(0,vO 0),(1,vI a),(2,vI b),(3,.s (.one (.clos 84 [1]))),(8,vI f),(9,vI g),(34,vB e)],[(0,.arr Ja c),(1,.box (split (TY_World) d))],2⟩
theorem Zik{b c f:Int}{K0:Int->Bool->Kg->Y_World->Option R}(j:K0= λk i g h=>K (.exit 2) (Zic b c f k i g h))(n e a d):Z0 N b c f K0 n e a d=LM Z3 N 1 100004 n (Zij b c f e a d) K:=by subst j;induction n generalizing e a d;kernel_rfl;rw[Z0];simp only[*];kernel_rfl
def Zil(a b6 b:Int)(c:List Int)(b9:Y_World):St:=⟨[(0,vO 0),(1,vI a),(2,vI b6),(3,.s (.one (.clos 84 [1]))),(8,vI b)],[(0,.arr Ja c),(1,.box (split (TY_World) b9))],2⟩
def Zid(a b6 e:Int)(d:Bool)(b:List Int)(c:Y_World):St:=⟨[(0,vO 0),(1,vI a),(2,vI b6),(3,.s (.one (.clos 84 [1]))),(8,vI e),(14,vB d)],[(0,.arr Ja b),(1,.box (split (TY_World) c))],2⟩
theorem Zim{a b6:Int}{K0:Int->Bool->Kg->Y_World->Option R}(f:K0= λh g d e=>K (.exit 0) (Zid a b6 h g d e))(n b c b9):Zk N a b6 K0 n b c b9=LM Z3 N 0 100001 n (Zil a b6 b c b9) K:=by subst f;induction n generalizing b c b9 with|zero=>kernel_rfl|succ n ih=>rw[Zk];simp(disch:=exact id (by kernel_rfl)) only[ih,Zik N (CL Z3 N 0 100001 [1,0,0,1,0] n K)];kernel_rfl
theorem Zja(b:List Int)(a b3:Int)(oE:Y_World):DN Z3 N (b,a,b3,oE,())=Zu N b a b3 oE:=by
 conv=>rhs;rw[Zu];simp(disch:=exact id (by kernel_rfl)) only[Zim (R:=(Kg×(Y_World×Unit))×Unit) N (CF Z3 N [1,0])]
 kernel_rfl
def Zjb:Gd:=GF Z3 func154 (λN d=>Zja N d.1 d.2.1 d.2.2.1 d.2.2.2.1)
def Zs:Fn:=⟨f112,λ |2=>cn_ [0,1,2,6,7,8,13]|3=>cn_ [0,1,2,6,8]|4=>cn_ [0,1,2,6,7,8]|5=>cn_ [0,1,2,6,7,8]|7=>cn_ [0,1,2,6,30]|8=>cn_ [0,1,2,6,7,8]|9=>cn_ [0,1,2,6,7,8,35]|10=>cn_ [0,1,2,6,8]|11=>cn_ [0,1,2,6,7,8]|12=>cn_ [0,1,2,6,7,8]|13=>cn_ [0,1,2,6,7,9]|14=>cn_ [0,1,2,6,7,9,54]|15=>cn_ [0,1,2,6]|16=>cn_ [0,1,2,6]|100002=>cn_ [0,1,2,6,7,8]|100007=>cn_ [0,1,2,6]|100009=>cn_ [0,1,2,6,7,8]|_=>[],λN=>Sig.of [.mut Ja,vf_ Ja,.clos 84 1,.box (TY_World)] [] (λd=>Ej N d.1 d.2.1 d.2.2.1),CX [Zjb]⟩
def Zkm(c a b7:Int)(b:List Int)(b9:Y_World):St:=⟨[(0,vO 0),(1,vI c),(2,.s (.one (.clos 84 [1]))),(6,vI 20),(7,vI a),(8,vI b7)],[(0,.arr Ja b),(1,.box (split (TY_World) b9))],2⟩
def Zkf(f b d:Int)(e:Bool)(a:List Int)(c:Y_World):St:=⟨[(0,vO 0),(1,vI f),(2,.s (.one (.clos 84 [1]))),(6,vI 20),(7,vI b),(8,vI d),(13,vB e)],[(0,.arr Ja a),(1,.box (split (TY_World) c))],2⟩
theorem Zkn{c:Int}{K0:Int->Int->Bool->Kg->Y_World->Option R}(i:K0= λe g h d f=>K (.exit 0) (Zkf c e g h d f))(n a b7 b b9):Eh N c K0 n a b7 b b9=LM Zs N 0 100002 n (Zkm c a b7 b b9) K:=by subst i;induction n generalizing a b7 b b9;kernel_rfl;rw[Eh];simp only[*];kernel_rfl
def Zko(d a:Int)(b:List Int)(c:Y_World):St:=⟨[(0,vO 0),(1,vI d),(2,.s (.one (.clos 84 [1]))),(6,vI a),(7,vI 0),(8,vI (ea .i64 (2:Int) a))],[(0,.arr Ja b),(1,.box (split (TY_World) c))],2⟩
def Zkg(b a:Int)(c:List Int)(d:Y_World):St:=⟨[(0,vO 0),(1,vI b),(2,.s (.one (.clos 84 [1]))),(6,vI a),(7,vI 0),(8,vI (ea .i64 (2:Int) a)),(35,vB (decide ((ea .i64 (2:Int) a)<=b)))],[(0,.arr Ja c),(1,.box (split (TY_World) d))],2⟩
theorem Zkp{d a:Int}{b:List Int}{c:Y_World}{K0:Option R}(e:K0=K (.exit 4) (Zkg d a b c))(n:Nat):Qi N d a b c K0 n=LM Zs N 2 100009 n (Zko d a b c) K:=by
  subst e
  induction n with
  |zero=>kernel_rfl
  |succ _ _=>rw[Qi];kernel_rfl
def Zkq(d a:Int)(b:List Int)(c:Y_World):St:=⟨[(0,vO 0),(1,vI d),(2,.s (.one (.clos 84 [1]))),(6,vI a)],[(0,.arr Ja b),(1,.box (split (TY_World) c))],2⟩
def Zkh(d:Int)(b:List Int)(c:Y_World)(a:Int)(e:Bool):St:=⟨[(0,vO 0),(1,vI d),(2,.s (.one (.clos 84 [1]))),(6,vI a),(30,vB e)],[(0,.arr Ja b),(1,.box (split (TY_World) c))],2⟩
theorem Zkr{e:Int}{c:List Int}{d:Y_World}{K0}(f:K0= λb g=>K (.exit 2) (Zkh e c d b g))(n a):Ei N e c d K0 n a=LM Zs N 1 100007 n (Zkq e a c d) K:=by subst f;induction n generalizing a with|zero=>kernel_rfl|succ n ih=>rw[Ei];simp(disch:=exact id (by kernel_rfl)) only[ih,Zkp N (CL Zs N 1 100007 [1,0,1,0,0] n K)];kernel_rfl
theorem Zlk(a:List Int)(b:Int)(oG:Y_World):DN Zs N (a,b,oG,())=Ej N a b oG:=by
 conv=>rhs;rw[Ej];simp(disch:=exact id (by kernel_rfl)) only[Zkn (R:=(Kg×(Y_World×Unit))×Unit) N (CF Zs N [1,1,0,0]),Zkr (R:=(Kg×(Y_World×Unit))×Unit) N (CF Zs N [1,1,1,1,0])]
 kernel_rfl
def Zll:Gd:=GF Zs func112 (λN d=>Zlk N d.1 d.2.1 d.2.2.1)
def Zjc:Fn:=⟨f83,Wy,λN=>Sig.of [.mut Ja,.clos 84 1,.box (TY_World)] [] (λd=>HB N d.1 d.2.1),CX [Zll]⟩
def Zjd:Gd:=GF Zjc func83
def JR:Fn:=⟨f52,λ |3=>cn_ [1,3,8,9,10,11]|4=>cn_ [1,3,4,5,8,9,10]|5=>cn_ [1,3,4,8,9,10,16]|6=>cn_ [1,3,8,9,10]|7=>cn_ [1,3,8,9,10]|100003=>cn_ [1,3,8,9,10]|_=>[],λN=>Sig.of [vt_ (TY_World)] [vf_ Ji] (λd=>qj N d.1),CX [ZW,Zjd]⟩
def Z4p(c:List Y_Root)(d:Int)(a:Y_World)(b:List Int):St:=⟨[(1,vP 0 0),(3,vO 1),(8,vV Jae c),(9,vI (Wh a.2.2.2.2.2.1)),(10,vI d)],[(0,.box (split (TY_World) a)),(1,.arr Ja b)],2⟩
def Z1y(d:List Y_Root)(a:Y_World)(e:Int)(b:Bool)(c:List Int):St:=⟨[(1,vP 0 0),(3,vO 1),(8,vV Jae d),(9,vI (Wh a.2.2.2.2.2.1)),(10,vI e),(11,vB b)],[(0,.box (split (TY_World) a)),(1,.arr Ja c)],2⟩
theorem Z4q{c:List Y_Root}{a:Y_World}{K0:Int->Bool->Kg->Option R}(g:K0= λh e f=>K (.exit 0) (Z1y c a h e f))(n d b):s8 N c a K0 n d b=LM JR N 0 100003 n (Z4p c d a b) K:=by subst g;induction n generalizing d b;kernel_rfl;rw[s8];simp only[*];kernel_rfl
theorem PE(w1:Y_World):DN JR N (w1,())=qj N w1:=by
 conv=>rhs;rw[qj];simp(disch:=exact id (by kernel_rfl)) only[Z4q (R:=Unit×Kad) N (CF JR N [1,1,0,1,0])]
 kernel_rfl
def PF:Gd:=GF JR func52 (λN d=>PE N d.1)
def HG:Fn:=⟨f22,λ |7=>[.nest 40 Jj]|10=>[.opn 62]|12=>[.nest 82 (.own Ju)]|30=>cn_ [0,8,123,124,125,126]|31=>cn_ [0,8,10,123,124,125]|32=>cn_ [0,8,123,124,125]|33=>cn_ [0,8,123,124,125]|100030=>cn_ [0,8,123,124,125]|_=>[],λN=>Sig.of [.box Jq,vf_ Jaa] [vf_ Jaa] (λd=>Zw N d.1 d.2.1),CX [Es,QA,Z9c,Z4i,Zv2,E9,PF]⟩
def Zr6(i:List UInt8)(a:List Int)(e h c:Int)(b f:List Int)(g:List Kn)(d:List Kb):St:=⟨[(0,vP 0 0),(8,vV Jaa i),(123,vV Ji a),(124,vI e),(125,vI h)],[(0,.box [.own 1,.own 2,.val Ja c,.own 3,.own 4]),(1,.arr Ja b),(2,.arr Ja f),(3,.arr Jj g),(4,.arr Jb d)],5⟩
def Zrm(b:List Int)(f d:Int)(c g:List Int)(h:List Kn)(e:List Kb)(j:List UInt8)(a:Int)(i:Bool):St:=⟨[(0,vP 0 0),(8,vV Jaa j),(123,vV Ji b),(124,vI f),(125,vI a),(126,vB i)],[(0,.box [.own 1,.own 2,.val Ja d,.own 3,.own 4]),(1,.arr Ja c),(2,.arr Ja g),(3,.arr Jj h),(4,.arr Jb e)],5⟩
theorem Zr7{a:List Int}{e c:Int}{b f:List Int}{g:List Kn}{d:List Kb}{K0:Kh->Int->Bool->Option R}(l:K0= λm j k=>K (.exit 2) (Zrm a e c b f g d m j k))(n i h):n8 N a e c b f g d K0 n i h=LM HG N 0 100030 n (Zr6 i a e h c b f g d) K:=by subst l;induction n generalizing i h;kernel_rfl;rw[n8];simp only[*];kernel_rfl
theorem Zy4(a:Ke×List Kn×List Kb)(aD:List UInt8):DN HG N (a,aD,())=Zw N a aD:=by
 conv=>rhs;rw[Zw];simp(disch:=exact id (by kernel_rfl)) only[Zr7 (R:=Kak×Kv) N (CF HG N [1,1,1,1,1,1,1,0,1,0])]
 kernel_rfl
def Zy5:Gd:=GF HG func22 (λN d=>Zy4 N d.1 d.2.1)
def Px:Fn:=⟨f59,Wy,λN=>Sig.of [vf_ Jr] [vf_ Jaa] (λd=>ic N d.1),W5⟩
def Zzd:Gd:=GN Px func59
def Z1z:Fn:=⟨f53,Wy,λN=>Sig.of [.box Jq,vt_ Jb] [vf_ Jaa] (λd=>mK N d.1 d.2.1),CX [Es,Zy,Zzd]⟩
def ZP:Gd:=GF Z1z func53
def Z4r:Fn:=⟨f54,Wy,λN=>Sig.of [vf_ Ja] [vf_ Jaa] (λd=>AZ N d.1),CX [Zy]⟩
def Z4s:Gd:=GF Z4r func54
def JS:Fn:=⟨f57,λ |5=>cn_ [0,3,12,13]|6=>cn_ [0,3,4,12]|7=>cn_ [0,3,4,5,12]|8=>cn_ [0,3,5,6,7,12]|9=>cn_ [0,3,5,6,12,21]|10=>cn_ [0,3,5,12]|11=>cn_ [0,3,12]|12=>cn_ [0,3,12]|100005=>cn_ [0,3,12]|_=>[],λN=>Sig.of [vf_ Ji] [vf_ Jd] (λd=>yk N d.1),CX [EJ,Ib]⟩
def Z4t(l3:List Int)(b:Int)(a:List Int):St:=⟨[(0,vV Ji l3),(3,vO 0),(12,vI b)],[(0,.arr Ja a)],1⟩
def Z10(l3:List Int)(b:Int)(c:Bool)(a:List Int):St:=⟨[(0,vV Ji l3),(3,vO 0),(12,vI b),(13,vB c)],[(0,.arr Ja a)],1⟩
theorem Z4u{l3:List Int}{K0:Int->Bool->Kg->Option R}(c:K0= λe f d=>K (.exit 0) (Z10 l3 e f d))(n b a):tg N l3 K0 n b a=LM JS N 0 100005 n (Z4t l3 b a) K:=by subst c;induction n generalizing b a;kernel_rfl;rw[tg];simp only[*];kernel_rfl
theorem PG(l1:List Int):DN JS N (l1,())=yk N l1:=by
 conv=>rhs;rw[yk];simp(disch:=exact id (by kernel_rfl)) only[Z4u (R:=Unit×Kad) N (CF JS N [1,1,1,0,1,0])]
 kernel_rfl
def PH:Gd:=GF JS func57 (λN d=>PG N d.1)
def Z11:Fn:=⟨f23,Wy,λN=>Sig.of [.box Jq,vf_ Jaa,vf_ Ja] [vf_ Jaa] (λd=>Z1 N d.1 d.2.1 d.2.2.1),CX [Es,Zy,ZP,QA,Z4s,Zv2,E9,oy,tG,PH]⟩
def Z12:Gd:=GF Z11 func23
def Z13:Fn:=⟨f24,Wy,λN=>Sig.of [.box Jq,vf_ Jaa,vf_ Ja,vf_ Ja] [vf_ Jaa] (λd=>lI N d.1 d.2.1 d.2.2.1 d.2.2.2.1),CX [oy,mN,Zzd,tG,ZP]⟩
def Z14:Gd:=GF Z13 func24
def HH:Fn:=⟨f9,λ |6=>[.view 26]|7=>cn_ [0,7,8,26,27,28,29]|8=>cn_ [0,7,8,10,26,27,28]|9=>cn_ [0,7,8,11,12,26,27,28]|10=>cn_ [0,7,8,11,26,27,28,38]|11=>cn_ [0,4]|12=>cn_ [0,7,8,26,27,28]|13=>cn_ [0,7,8,26,27,28]|100007=>cn_ [0,7,8,26,27,28]|_=>[],λN=>Sig.of [.box Jq,vf_ Jaa] [vf_ Jaa] (λd=>s7 N d.1 d.2.1),CX [OH,Z3h,QG,Zry,Zy5,Z12,Z14]⟩
def Zr8(g h:Nat)(i j az:Int)(e:List Kh)(f c a:List Int)(d:List Kn)(b:List Kb):St:=⟨[(0,vP 0 0),(7,vO 1),(8,vO 2),(26,.s (.one (.vw 1 g h))),(27,vI i),(28,vI j)],[(0,.box [.own 3,.own 4,.val Ja az,.own 5,.own 6]),(1,.arr Jaa e),(2,.arr Ja f),(3,.arr Ja c),(4,.arr Ja a),(5,.arr Jj d),(6,.arr Jb b)],7⟩
def Zrn(f g:Nat)(h az:Int)(e:List Kh)(c a:List Int)(d:List Kn)(b:List Kb):St:=⟨[(0,vP 0 0),(4,vV Jaa ([119,104,97,116]:List UInt8))],[(0,.box [.own 1,.own 2,.val Ja az,.own 3,.own 4]),(1,.arr Ja c),(2,.arr Ja a),(3,.arr Jj d),(4,.arr Jb b)],5⟩
def Zro(i j:Nat)(k az:Int)(e:List Kh)(c a:List Int)(d:List Kn)(b:List Kb)(h:Int)(g:Bool)(f:List Int):St:=⟨[(0,vP 0 0),(7,vO 1),(8,vO 2),(26,.s (.one (.vw 1 i j))),(27,vI k),(28,vI h),(29,vB g)],[(0,.box [.own 3,.own 4,.val Ja az,.own 5,.own 6]),(1,.arr Jaa e),(2,.arr Ja f),(3,.arr Ja c),(4,.arr Ja a),(5,.arr Jj d),(6,.arr Jb b)],7⟩
theorem Zr9{f g:Nat}{h az:Int}{e:List Kh}{c a:List Int}{d:List Kn}{b:List Kb}{K0}{K1:Int->Bool->Kg->Option R}(o:K0=K .ret (Zrn f g h az e c a d b))(p:K1= λm l k=>K (.exit 0) (Zro f g h az e c a d b m l k))(n j i):wd N f g h az e c a d b K0 K1 n j i=LM HH N 0 100007 n (Zr8 f g h j az e i c a d b) K:=by subst o p;induction n generalizing j i;kernel_rfl;rw[wd];simp only[*];kernel_rfl
theorem Zy6(a:Ke×List Kn×List Kb)(t2:List UInt8):DN HH N (a,t2,())=s7 N a t2:=by
 conv=>rhs;rw[s7];simp(disch:=exact id (by kernel_rfl)) only[Zr9 (R:=Kak×Kv) N (CF HH N [1,1,1,1,0,1,0])]
 kernel_rfl
def Zy7:Gd:=GF HH func9 (λN d=>Zy6 N d.1 d.2.1)
def KE:Fn:=⟨f5,λ |9=>cn_ [4,5,35,36,37,38]|10=>cn_ [4,5,7,35,36,37]|11=>cn_ [4,5,7,35,36,37,42]|12=>cn_ [4,5,35,36,37]|13=>cn_ [4,5,35,36,37]|100009=>[.adoptC 4 3 Jj,.adoptC 4 4 Jb,.canon [4,5,35,36,37]]|_=>[],λN=>Sig.of [vf_ Jaa] [vf_ Jaa] (λd=>CE N d.1),CX [QG,Zy7]⟩
def Z6f(c:List UInt8)(g h b6:Int)(d:List Kh)(e f:List Int)(b:List Kn)(a:List Kb):St:=⟨[(4,vP 0 0),(5,vV Jaa c),(35,vO 1),(36,vI g),(37,vI h)],[(0,.box [.own 2,.own 3,.val Ja b6,.own 4,.own 5]),(1,.arr Jaa d),(2,.arr Ja e),(3,.arr Ja f),(4,.arr Jj b),(5,.arr Jb a)],6⟩
def Z4v(j:Int)(i:List Kh)(h:List UInt8)(e:Int)(g:Bool)(c:Int)(b d:List Int)(a:List Kn)(f:List Kb):St:=⟨[(4,vP 0 0),(5,vV Jaa h),(35,vO 1),(36,vI j),(37,vI e),(38,vB g)],[(0,.box [.own 2,.own 3,.val Ja c,.own 4,.own 5]),(1,.arr Jaa i),(2,.arr Ja b),(3,.arr Ja d),(4,.arr Jj a),(5,.arr Jb f)],6⟩
theorem Z6g{g:Int}{d:List Kh}{K0:Kh->Int->Bool->Int->Kg->Kg->(List Kn)->Ks->Option R}(r:K0= λq m p k j l i o=>K (.exit 0) (Z4v g d q m p k j l i o))(n c h b6 e f b a):mP N g d K0 n c h b6 e f b a=LM KE N 0 100009 n (Z6f c g h b6 d e f b a) K:=by subst r;induction n generalizing c h b6 e f b a;kernel_rfl;rw[mP];simp only[*];kernel_rfl
theorem Py(s1:List UInt8):DN KE N (s1,())=CE N s1:=by
 conv=>rhs;rw[CE];simp(disch:=exact id (by kernel_rfl)) only[Z6g (R:=Unit×Kv) N (CF KE N [1,1,1,1,1,1,0,1,0])]
 kernel_rfl
def Qa:Gd:=GF KE func5 (λN d=>Py N d.1)
def Zy8:Fn:=⟨f3,Wy,λN=>Sig.of [vf_ Jaa] [vf_ Jr] (λd=>Zig N d.1),CX [PU,Qa]⟩
set_option maxRecDepth 100000 in def Zy9:Gd:=GF Zy8 func3
end
end Go.Sx
