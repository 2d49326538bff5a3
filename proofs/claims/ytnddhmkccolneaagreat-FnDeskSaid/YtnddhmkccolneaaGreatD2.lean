/- Each Go function does what its Lean function says. -/
import Derived.Test.YtnddhmkccolneaaGreatD
namespace Go.Sx
noncomputable section
open Go.Proofs
open Tryz
variable(N:Nat){R:Type}(K:Ex->St->Option R)
set_option linter.unusedVariables false
set_option linter.unusedSimpArgs false
def Zw:Fn:=⟨f124,λ |2=>cn_ [0,1,2,6,7,8,13]|3|10=>cn_ [0,1,2,6,8]|4|5|8|11|12|100002|100009=>cn_ [0,1,2,6,7,8]|7=>cn_ [0,1,2,6,30]|9=>cn_ [0,1,2,6,7,8,35]|13=>cn_ [0,1,2,6,7,9]|14=>cn_ [0,1,2,6,7,9,54]|15|16|100007=>cn_ [0,1,2,6]|_=>[],λN=>Sig.of [.mut Ja,vf_ Ja,.clos 98 1,.box (TY_World)] [] (λd=>E3 N d.1 d.2.1 d.2.2.1),CX [Zjx]⟩
def Zey(c a b7:Int)(b:List Int)(b9:Y_World):St:=⟨[(0,vO 0),(1,vI c),(2,.s (.one (.clos 98 [1]))),(6,vI 20),(7,vI a),(8,vI b7)],[(0,.arr Ja b),(1,.box (split (TY_World) b9))],2⟩
theorem Zk5{c K0}(i:K0= λf e h d g=>K (.exit 0) ((Zey c f e d g).B 13 h))(n a b7 b b9):E1 N c K0 n a b7 b b9=LM Zw N 0 100002 n (Zey c a b7 b b9) K:=by subst i;induction n generalizing a b7 b b9;kernel_rfl;rw[E1];simp only[*];kernel_rfl
def Zez(d a:Int)(b:List Int)(c:Y_World):St:=⟨[(0,vO 0),(1,vI d),(2,.s (.one (.clos 98 [1]))),(6,vI a),(7,vI 0),(8,vI (bw .i64 (2:Int) a))],[(0,.arr Ja b),(1,.box (split (TY_World) c))],2⟩
theorem Zk6{b a:Int}{c:List Int}{d:Y_World}{K0:Option R}(e:K0=K (.exit 4) ((Zez b a c d).P 35 (vB (decide ((bw .i64 (2:Int) a)<=b)))))(n:Nat):Rl N b a c d K0 n=LM Zw N 2 100009 n (Zez b a c d) K:=by
  subst e
  induction n with
  |zero=>kernel_rfl
  |succ _ _=>rw[Rl];skip;kernel_rfl
def Ze0(d a:Int)(b:List Int)(c:Y_World):St:=⟨[(0,vO 0),(1,vI d),(2,.s (.one (.clos 98 [1]))),(6,vI a)],[(0,.arr Ja b),(1,.box (split (TY_World) c))],2⟩
theorem Zk7{e c d K0}(f:K0= λb g=>K (.exit 2) ((Ze0 e b c d).B 30 g))(n a):E2 N e c d K0 n a=LM Zw N 1 100007 n (Ze0 e a c d) K:=by subst f;induction n generalizing a with|zero=>kernel_rfl|succ n ih=>rw[E2];simp(disch:=exact id (by kernel_rfl)) only[ih,Zk6 N (CL Zw N 1 100007 [1,0,1,0,0] n K)];kernel_rfl
theorem Zl0(a:List Int)(b:Int)(qe:Y_World):DN Zw N (a,b,qe,())=E3 N a b qe:=by
 conv=>rhs;rw[E3];simp(disch:=exact id (by kernel_rfl)) only[Zk5 (R:=(Ki×(Y_World×Unit))×Unit) N (CF Zw N [1,1,0,0]),Zk7 (R:=(Ki×(Y_World×Unit))×Unit) N (CF Zw N [1,1,1,1,0])]
 kernel_rfl
def Zl1:Gd:=GF Zw func124 (λN d=>Zl0 N d.1 d.2.1 d.2.2.1)
def Zjy:Fn:=⟨f97,Ww,λN=>Sig.of [.mut Ja,.clos 98 1,.box (TY_World)] [] (λd=>Ik N d.1 d.2.1),CX [Zl1]⟩
def Zjz:Gd:=GF Zjy func97
def Lh:Fn:=⟨f61,λ |3=>cn_ [1,3,8,9,10,11]|4=>cn_ [1,3,4,5,8,9,10]|5=>cn_ [1,3,4,8,9,10,16]|6|7|100003=>cn_ [1,3,8,9,10]|_=>[],λN=>Sig.of [vt_ (TY_World)] [vf_ Jl] (λd=>u6 N d.1),CX [Zvv,Zjz]⟩
def Zug(c:List Y_Root)(d:Int)(a:Y_World)(b:List Int):St:=⟨[(1,vP 0 0),(3,vO 1),(8,vV Jal c),(9,vI (Wi a.2.2.2.2.2.1)),(10,vI d)],[(0,.box (split (TY_World) a)),(1,.arr Ja b)],2⟩
theorem Z3d{c a K0}(g:K0= λh e f=>K (.exit 0) ((Zug c h a f).B 11 e))(n d b):t8 N c a K0 n d b=LM Lh N 0 100003 n (Zug c d a b) K:=by subst g;induction n generalizing d b;kernel_rfl;rw[t8];simp only[*];kernel_rfl
theorem Qk(w1:Y_World):DN Lh N (w1,())=u6 N w1:=by
 conv=>rhs;rw[u6];simp(disch:=exact id (by kernel_rfl)) only[Z3d (R:=Unit×Kah) N (CF Lh N [1,1,0,1,0])]
 kernel_rfl
def Ql:Gd:=GF Lh func61 (λN d=>Qk N d.1)
def Iu:Fn:=⟨f32,λ |7=>[.nest 40 Jx]|10=>[.opn 62]|12=>[.nest 82 (.own Jp)]|30=>cn_ [0,8,123,124,125,126]|31=>cn_ [0,8,10,123,124,125]|32|33|100030=>cn_ [0,8,123,124,125]|_=>[],λN=>Sig.of [.box Ji,vf_ Jaa] [vf_ Jaa] (λd=>Zx N d.1 d.2.1),CX [Ff,RL,Z6y,Z29,Zx8,FY,Ql]⟩
def Zo5(i:List UInt8)(a:List Int)(b h d:Int)(c f:List Int)(e:List Kn)(g:List Kb):St:=⟨[(0,vP 0 0),(8,vV Jaa i),(123,vV Jl a),(124,vI b),(125,vI h)],[(0,.box [.own 1,.own 2,.val Ja d,.own 3,.own 4]),(1,.arr Ja c),(2,.arr Ja f),(3,.arr Jx e),(4,.arr Jb g)],5⟩
theorem Zvw{a b d c f e g K0}(l:K0= λm j k=>K (.exit 2) ((Zo5 m a b j d c f e g).B 126 k))(n i h):oh N a b d c f e g K0 n i h=LM Iu N 0 100030 n (Zo5 i a b h d c f e g) K:=by subst l;induction n generalizing i h;kernel_rfl;rw[oh];simp only[*];kernel_rfl
theorem Zzk(a:Kf×List Kn×List Kb)(aI:List UInt8):DN Iu N (a,aI,())=Zx N a aI:=by
 conv=>rhs;rw[Zx];simp(disch:=exact id (by kernel_rfl)) only[Zvw (R:=Kap×Kt) N (CF Iu N [1,1,1,1,1,1,1,0,1,0])]
 kernel_rfl
def Zzl:Gd:=GF Iu func32 (λN d=>Zzk N d.1 d.2.1)
def QO:Fn:=⟨f68,Ww,λN=>Sig.of [vf_ Jag] [vf_ Jaa] (λd=>iU N d.1),W3⟩
def Z0f:Gd:=GN QO func68
def Z1i:Fn:=⟨f62,Ww,λN=>Sig.of [.box Ji,vt_ Jb] [vf_ Jaa] (λd=>oi N d.1 d.2.1),CX [Ff,Zz,Z0f]⟩
def Ztc:Gd:=GF Z1i func62
def Z3e:Fn:=⟨f63,Ww,λN=>Sig.of [vf_ Ja] [vf_ Jaa] (λd=>BD N d.1),CX [Zz]⟩
def Z3f:Gd:=GF Z3e func63
def Li:Fn:=⟨f66,λ |5=>cn_ [0,3,12,13]|6=>cn_ [0,3,4,12]|7=>cn_ [0,3,4,5,12]|8=>cn_ [0,3,5,6,7,12]|9=>cn_ [0,3,5,6,12,21]|10=>cn_ [0,3,5,12]|11|12|100005=>cn_ [0,3,12]|_=>[],λN=>Sig.of [vf_ Jl] [vf_ Jd] (λd=>CM N d.1),CX [Fp,JC]⟩
def Zuh(l3:List Int)(b:Int)(a:List Int):St:=⟨[(0,vV Jl l3),(3,vO 0),(12,vI b)],[(0,.arr Ja a)],1⟩
theorem Z3g{l3 K0}(c:K0= λe f d=>K (.exit 0) ((Zuh l3 e d).B 13 f))(n b a):tC N l3 K0 n b a=LM Li N 0 100005 n (Zuh l3 b a) K:=by subst c;induction n generalizing b a;kernel_rfl;rw[tC];simp only[*];kernel_rfl
theorem Qm(l1:List Int):DN Li N (l1,())=CM N l1:=by
 conv=>rhs;rw[CM];simp(disch:=exact id (by kernel_rfl)) only[Z3g (R:=Unit×Kah) N (CF Li N [1,1,1,0,1,0])]
 kernel_rfl
def Qn:Gd:=GF Li func66 (λN d=>Qm N d.1)
def Z1j:Fn:=⟨f33,Ww,λN=>Sig.of [.box Ji,vf_ Jaa,vf_ Ja] [vf_ Jaa] (λd=>Z3 N d.1 d.2.1 d.2.2.1),CX [Ff,Zz,Ztc,RL,Z3f,Zx8,FY,oD,ux,Qn]⟩
def Z1k:Gd:=GF Z1j func33
def Z1l:Fn:=⟨f34,Ww,λN=>Sig.of [.box Ji,vf_ Jaa,vf_ Ja,vf_ Ja] [vf_ Jaa] (λd=>nB N d.1 d.2.1 d.2.2.1 d.2.2.2.1),CX [oD,nn,Z0f,ux,Ztc]⟩
def Z1m:Gd:=GF Z1l func34
def Iv:Fn:=⟨f20,λ |6=>[.view 26]|7=>cn_ [0,7,8,26,27,28,29]|8=>cn_ [0,7,8,10,26,27,28]|9=>cn_ [0,7,8,11,12,26,27,28]|10=>cn_ [0,7,8,11,26,27,28,38]|11=>cn_ [0,4]|12|13|100007=>cn_ [0,7,8,26,27,28]|_=>[],λN=>Sig.of [.box Ji,vf_ Jaa] [vf_ Jaa] (λd=>ou N d.1 d.2.1),CX [Z89,Z2g,RF,Zvp,Zzl,Z1k,Z1m]⟩
def Zo6(g h:Nat)(i j az:Int)(c:List Kg)(f e a:List Int)(d:List Kn)(b:List Kb):St:=⟨[(0,vP 0 0),(7,vO 1),(8,vO 2),(26,.s (.one (.vw 1 g h))),(27,vI i),(28,vI j)],[(0,.box [.own 3,.own 4,.val Ja az,.own 5,.own 6]),(1,.arr Jaa c),(2,.arr Ja f),(3,.arr Ja e),(4,.arr Ja a),(5,.arr Jx d),(6,.arr Jb b)],7⟩
def Zvj(f g:Nat)(h az:Int)(e:List Kg)(d a:List Int)(c:List Kn)(b:List Kb):St:=⟨[(0,vP 0 0),(4,vV Jaa ([119,104,97,116]:List UInt8))],[(0,.box [.own 1,.own 2,.val Ja az,.own 3,.own 4]),(1,.arr Ja d),(2,.arr Ja a),(3,.arr Jx c),(4,.arr Jb b)],5⟩
theorem Zvx{f g h az c e a d b K0 K1}(l:K0=K .ret (Zvj f g h az c e a d b))(m:K1= λp o k=>K (.exit 0) ((Zo6 f g h p az c k e a d b).B 29 o))(n j i):w6 N f g h az c e a d b K0 K1 n j i=LM Iv N 0 100007 n (Zo6 f g h j az c i e a d b) K:=by subst l m;induction n generalizing j i;kernel_rfl;rw[w6];simp only[*];kernel_rfl
theorem Zzm(a:Kf×List Kn×List Kb)(t2:List UInt8):DN Iv N (a,t2,())=ou N a t2:=by
 conv=>rhs;rw[ou];simp(disch:=exact id (by kernel_rfl)) only[Zvx (R:=Kap×Kt) N (CF Iv N [1,1,1,1,0,1,0])]
 kernel_rfl
def Zzn:Gd:=GF Iv func20 (λN d=>Zzm N d.1 d.2.1)
def Ly:Fn:=⟨f6,λ |9=>cn_ [4,5,35,36,37,38]|10=>cn_ [4,5,7,35,36,37]|11=>cn_ [4,5,7,35,36,37,42]|12|13=>cn_ [4,5,35,36,37]|100009=>[.adoptC 4 3 Jx,.adoptC 4 4 Jb,.canon [4,5,35,36,37]]|_=>[],λN=>Sig.of [vf_ Jaa] [vf_ Jaa] (λd=>q6 N d.1),CX [RF,Zzn]⟩
def Zu8(b:List UInt8)(g h b6:Int)(d:List Kg)(e f:List Int)(c:List Kn)(a:List Kb):St:=⟨[(4,vP 0 0),(5,vV Jaa b),(35,vO 1),(36,vI g),(37,vI h)],[(0,.box [.own 2,.own 3,.val Ja b6,.own 4,.own 5]),(1,.arr Jaa d),(2,.arr Ja e),(3,.arr Ja f),(4,.arr Jx c),(5,.arr Jb a)],6⟩
theorem Z4z{g d K0}(q:K0= λr o m l j i k p=>K (.exit 0) ((Zu8 r g o l d j i k p).B 38 m))(n b h b6 e f c a):qQ N g d K0 n b h b6 e f c a=LM Ly N 0 100009 n (Zu8 b g h b6 d e f c a) K:=by subst q;induction n generalizing b h b6 e f c a;kernel_rfl;rw[qQ];simp only[*];kernel_rfl
theorem QP(s1:List UInt8):DN Ly N (s1,())=q6 N s1:=by
 conv=>rhs;rw[q6];simp(disch:=exact id (by kernel_rfl)) only[Z4z (R:=Unit×Kt) N (CF Ly N [1,1,1,1,1,1,0,1,0])]
 kernel_rfl
def QQ:Gd:=GF Ly func6 (λN d=>QP N d.1)
def JL:Fn:=⟨f21,λ |4=>cn_ [0,1,5,6,7,12]|5|8|100004=>cn_ [0,1,5,6,7]|6=>cn_ [0,1,5,6,7,19]|7=>cn_ [0,1,5,7]|_=>[],λN=>Sig.of [vf_ Jaa,vf_ (.int .u8)] [vf_ (.own Jaa)] (λd=>uw N d.1 d.2.1),W3⟩
def Zsb(e:List UInt8)(c a b:Int)(d:List Kg):St:=⟨[(0,vV Jaa e),(1,vV (.int .u8) c),(5,vO 0),(6,vI a),(7,vI b)],[(0,.arr Jaa d)],1⟩
theorem Zzo{e c K0}(h:K0= λj i f g=>K (.exit 0) ((Zsb e c j i g).B 12 f))(n a b d):x4 N e c K0 n a b d=LM JL N 0 100004 n (Zsb e c a b d) K:=by subst h;induction n generalizing a b d;kernel_rfl;rw[x4];simp only[*];kernel_rfl
theorem Z66(a:List UInt8)(wY:Int):DN JL N (a,wY,())=uw N a wY:=by
 conv=>rhs;rw[uw];simp(disch:=exact id (by kernel_rfl)) only[Zzo (R:=Unit×(Kac×Unit)) N (CF JL N [1,1,1,0,1,0])]
 kernel_rfl
def Ry:Gd:=GN JL func21 (λN d=>Z66 N d.1 d.2.1)
def JM:Fn:=⟨f38,λ |4=>cn_ [0,4,5,6,14]|5|7|8|100004=>cn_ [0,4,5,6]|6=>cn_ [0,4,5,6,26]|_=>[],λN=>Sig.of [vf_ Jaa] [vf_ Ja,vf_ Jag] (λd=>mB N d.1),CX [FX]⟩
def Zsc(d:List UInt8)(c b a:Int):St:=⟨[(0,vV Jaa d),(4,vI c),(5,vI b),(6,vI a)],[],0⟩
theorem Zzp{d K0}(e:K0= λh g f i=>K (.exit 0) ((Zsc d h g f).B 14 i))(n c b a):oq N d K0 n c b a=LM JM N 0 100004 n (Zsc d c b a) K:=by subst e;induction n generalizing c b a;kernel_rfl;rw[oq];simp only[*];kernel_rfl
theorem Z67(s1:List UInt8):DN JM N (s1,())=mB N s1:=by
 conv=>rhs;rw[mB];simp(disch:=exact id (by kernel_rfl)) only[Zzp (R:=Unit×Kz) N (CF JM N [1,1,1,0,1,0])]
 kernel_rfl
def Zvy:Gd:=GF JM func38 (λN d=>Z67 N d.1)
def Ce:Fn:=⟨f35,λ |5=>cn_ [0,2,4,5,6,7,18]|6|8|100005=>cn_ [0,2,4,5,6,7]|7=>cn_ [0,2,4,5,6,7,28]|12=>cn_ [0,2,4,5,8,47]|13|18|20|22|100012=>cn_ [0,2,4,5,8]|14=>cn_ [0,2,4,5,8,9,10]|15=>cn_ [0,2,4,5,8,9,59]|16=>cn_ [2,3]|17=>cn_ [0,2,4,5,8,9,61]|19=>cn_ [0,2,4,5,8,9,61,64]|21=>cn_ [0,2,4,5,8,9,68]|_=>[],λN=>Sig.of [vf_ Jaa] [vt_ Jp,vf_ Jag] (λd=>zi N d.1),CX [Ry,Zvm,Zwl,Zvy,Zwm]⟩
def Ztd(e:List UInt8)(d:Int)(c:List Kg)(a:Int)(b:List Kg):St:=⟨[(0,vV Jaa e),(2,vP 0 0),(4,vO 1),(5,vP 2 0),(6,vO 3),(7,vI d)],[(0,.box [.val Ja (0:Int),.val Ja (0:Int),.val Ja (0:Int),.val Ja (0:Int)]),(1,.arr Jaa c),(2,.box [.val Ja a,.val Ja (0:Int),.val Ja (0:Int),.val Ja (0:Int)]),(3,.arr Jaa b)],4⟩
theorem Z1n{e c b K0}(h:K0= λk16 g f=>K (.exit 0) ((Ztd e k16 c f b).B 18 g))(n d a):ym N e c b K0 n d a=LM Ce N 0 100005 n (Ztd e d c a b) K:=by subst h;induction n generalizing d a;kernel_rfl;rw[ym];simp only[*];kernel_rfl
def Zte(g:List UInt8)(f:Int)(e:List Kg)(c d a b:Int):St:=⟨[(0,vV Jaa g),(2,vP 0 0),(4,vO 1),(5,vP 2 0),(8,vI f)],[(0,.box [.val Ja (0:Int),.val Ja (0:Int),.val Ja (0:Int),.val Ja (0:Int)]),(1,.arr Jaa e),(2,.box [.val Ja c,.val Ja d,.val Ja a,.val Ja b])],3⟩
def Zzq(c:List UInt8)(b:List Kg)(a:Int):St:=⟨[(2,vP 0 0),(3,vB false)],[(0,.box [.val Ja (0:Int),.val Ja (0:Int),.val Ja (0:Int),.val Ja (0:Int)])],1⟩
theorem Z1o{c b a K0 K1}(i:K0=K .ret (Zzq c b a))(j:K1= λo m l h k=>K (.exit 2) ((Zte c o b a l h k).B 47 m))(n g f d e):qJ N c b a K0 K1 n g f d e=LM Ce N 1 100012 n (Zte c g b a f d e) K:=by subst i j;induction n generalizing g f d e;kernel_rfl;rw[qJ];simp only[*];kernel_rfl
theorem Z9s(s1:List UInt8):DN Ce N (s1,())=zi N s1:=by
 conv=>rhs;rw[zi];simp(disch:=exact id (by kernel_rfl)) only[Z1n (R:=Unit×(Ka×Ke)) N (CF Ce N [1,1,1,1,0,1,0]),Z1o (R:=Unit×(Ka×Ke)) N (CF Ce N [1,1,1,1,1,1,0,1,0])]
 kernel_rfl
def Z9t:Gd:=GF Ce func35 (λN d=>Z9s N d.1)
def Qo:Fn:=⟨f36,λ |4=>[.opn 24]|10=>[.opn 62]|_=>[],λN=>Sig.of [vt_ Ji,vt_ Jp] [vt_ Ji,vf_ Jaa] (λd=>LI N d.1 d.2.1),W3⟩
def Qp:Gd:=GN Qo func36
def Z68:Fn:=⟨f37,Ww,λN=>Sig.of [vf_ Jaa] [vf_ Ja] (λd=>y8 N d.1),W3⟩
def Z69:Gd:=GN Z68 func37
def Z9u:Fn:=⟨f73,Ww,λN=>Sig.of [vf_ Ja] [vf_ Jag] (λd=>jY N d.1),CX [d7]⟩
def yN:Gd:=GF Z9u func73
def Z40:Fn:=⟨f39,λ |10=>[.nest 49 Jx]|13=>[.opn 64]|15=>[.nest 81 (.own Jp)]|_=>[],λN=>Sig.of [vt_ Ji,vf_ Jaa,vf_ Jl] [vt_ Ji,vf_ Jag] (λd=>fE N d.1 d.2.1 d.2.2.1),CX [uh,mC,yN]⟩
def Z41:Gd:=GF Z40 func39
def Z9v:Fn:=⟨f40,Ww,λN=>Sig.of [vf_ Jag] [vf_ Jaa] (λd=>Zm N d.1),W3⟩
def Z9w:Gd:=GN Z9v func40
def KL:Fn:=⟨f102,λ |4=>cn_ [0,3,10]|5|100004=>cn_ [0,3]|6=>cn_ [0,3,18]|7=>cn_ [2]|_=>[],λN=>Sig.of [vf_ Jl] [vf_ Jag] (λd=>zc N d.1),CX [mC]⟩
def Ztf(l2:List Int)(a:Int):St:=⟨[(0,vV Jl l2),(3,vI a)],[],0⟩
theorem Z1p{l2 K0 K1}(b:K0=K .ret ⟨[(2,vB false)],[],0⟩)(c:K1= λd e=>K (.exit 0) ((Ztf l2 d).B 10 e))(n a):xf N l2 K0 K1 n a=LM KL N 0 100004 n (Ztf l2 a) K:=by subst b c;induction n generalizing a;kernel_rfl;rw[xf];simp only[*];kernel_rfl
theorem Z9x(l1:List Int):DN KL N (l1,())=zc N l1:=by
 conv=>rhs;rw[zc];simp(disch:=exact id (by kernel_rfl)) only[Z1p (R:=Unit×Ke) N (CF KL N [1,1,0,1,0])]
 kernel_rfl
def Zwq:Gd:=GF KL func102 (λN d=>Z9x N d.1)
def I4:Fn:=⟨f75,λ |4=>cn_ [1,3,24]|5|100004=>cn_ [1,3]|6=>cn_ [1,3,33]|7=>cn_ [2]|_=>[],λN=>Sig.of [vt_ (.prod Jl Jaf)] [vf_ Jag] (λd=>B5 N d.1),CX [Zwq,mC,d7]⟩
def Zri(b:Int)(a:List Int×List Int×Int):St:=⟨[(1,vP 0 0),(3,vI b)],[(0,.box [.val Jl a.1,.val Jl a.2.1,.val Ja a.2.2])],1⟩
theorem Zx9{a K0 K1}(c:K0=K .ret ⟨[(2,vB false)],[],0⟩)(d:K1= λe f=>K (.exit 0) ((Zri e a).B 24 f))(n b):tf N a K0 K1 n b=LM I4 N 0 100004 n (Zri b a) K:=by subst c d;induction n generalizing b;kernel_rfl;rw[tf];simp only[*];kernel_rfl
theorem Z42(s1:List Int×List Int×Int):DN I4 N (s1,())=B5 N s1:=by
 conv=>rhs;rw[B5];simp(disch:=exact id (by kernel_rfl)) only[Zx9 (R:=Unit×Ke) N (CF I4 N [1,1,0,1,0])]
 kernel_rfl
def Z43:Gd:=GF I4 func75 (λN d=>Z42 N d.1)
def I5:Fn:=⟨f42,λ |4=>cn_ [1,3,24]|5|100004=>cn_ [1,3]|6=>cn_ [1,3,33]|7=>cn_ [2]|_=>[],λN=>Sig.of [vt_ Jo] [vf_ Jag] (λd=>Zh N d.1),CX [Z43,Zwk]⟩
def Zrj(a:Int)(b4:Kf×List Kn×List Kb):St:=⟨[(1,vP 0 0),(3,vI a)],[(0,.box [.val Jl b4.1.1,.val Jl b4.1.2.1,.val Ja b4.1.2.2,.val Jai b4.2.1,.val Jv b4.2.2])],1⟩
theorem Zya{b4 K0 K1}(b:K0=K .ret ⟨[(2,vB false)],[],0⟩)(c:K1= λd e=>K (.exit 0) ((Zrj d b4).B 24 e))(n a):sQ N b4 K0 K1 n a=LM I5 N 0 100004 n (Zrj a b4) K:=by subst b c;induction n generalizing a;kernel_rfl;rw[sQ];simp only[*];kernel_rfl
theorem Z44(s1:Kf×List Kn×List Kb):DN I5 N (s1,())=Zh N s1:=by
 conv=>rhs;rw[Zh];simp(disch:=exact id (by kernel_rfl)) only[Zya (R:=Unit×Ke) N (CF I5 N [1,1,0,1,0])]
 kernel_rfl
def Rp:Gd:=GF I5 func42 (λN d=>Z44 N d.1)
def Qq:Fn:=⟨f41,Ww,λN=>Sig.of [vt_ Ji,vf_ Jaa,vf_ Jl] [vt_ Ji,vf_ Jag] (λd=>Z8 N d.1 d.2.1 d.2.2.1),CX [Rp,d7]⟩
def Qr:Gd:=GF Qq func41
def KN:Fn:=⟨f130,λ |5=>cn_ [0,2,4,5,14]|6|7=>cn_ [0,2,4,5]|100005=>[.adoptC 4 1 Jb,.canon [0,2,4,5]]|_=>[],λN=>Sig.of [vf_ Jl] [vt_ Jy,vf_ Jag] (λd=>Ck N d.1),CX [Zwq]⟩
def Ztg(l3:List Int)(a:Int)(b:List Kb):St:=⟨[(0,vV Jl l3),(2,vP 0 0),(4,vP 1 0),(5,vI a)],[(0,.box [.val Ja (0:Int),.nils]),(1,.box [.val Ja (0:Int),.own 2]),(2,.arr Jb b)],3⟩
theorem Z1q{l3 K0}(d:K0= λe f c=>K (.exit 0) ((Ztg l3 e c).B 14 f))(n a b):xi N l3 K0 n a b=LM KN N 0 100005 n (Ztg l3 a b) K:=by subst d;induction n generalizing a b;kernel_rfl;rw[xi];simp only[*];kernel_rfl
theorem Z9y(l1:List Int):DN KN N (l1,())=Ck N l1:=by
 conv=>rhs;rw[Ck];simp(disch:=exact id (by kernel_rfl)) only[Z1q (R:=Unit×(Kx×Ke)) N (CF KN N [1,1,1,0,1,0])]
 kernel_rfl
def Z9z:Gd:=GF KN func130 (λN d=>Z9y N d.1)
def Z7a:Fn:=⟨f161,Ww,λN=>Sig.of [] [vf_ Jd] (λd=>Zxb N),W3⟩
def Z7b:Gd:=GN Z7a func161
def Z7c:Fn:=⟨f203,Ww,λN=>Sig.of [vf_ Jl] [vf_ Jd] (λd=>y6 N d.1),W3⟩
def JN:Gd:=GN Z7c func203
def Z7d:Fn:=⟨f135,Ww,λN=>Sig.of [vf_ Ja] [vf_ Ja,vf_ Ja] (λd=>nE N d.1),W3⟩
def Fs:Gd:=GN Z7d func135
def Z45:Fn:=⟨f136,Ww,λN=>Sig.of [vf_ Ja] [vf_ Ja] (λd=>Fx N d.1),CX [yN]⟩
def Zu9:Gd:=GF Z45 func136
def JO:Fn:=⟨f108,λ |5=>cn_ [0,3,4,14]|6|13|100005=>cn_ [0,3,4]|7=>cn_ [0,3,4,22]|8|12=>cn_ [2]|9=>cn_ [0,3,4,5]|10=>cn_ [0,3,4,5,32]|11=>cn_ [0,3,4,5,43]|_=>[],λN=>Sig.of [vf_ Jl] [vf_ Jag] (λd=>oI N d.1),CX [d7,Fs,Zu9]⟩
def Zsd(l2:List Int)(a:Int)(l4:List Bool):St:=⟨[(0,vV Jl l2),(3,vO 0),(4,vI a)],[(0,.arr Jag l4)],1⟩
theorem Zzs{l2 K0 K1}(c:K0=K .ret ⟨[(2,vB false)],[],0⟩)(d:K1= λe f b=>K (.exit 0) ((Zsd l2 e b).B 14 f))(n a l4):tm N l2 K0 K1 n a l4=LM JO N 0 100005 n (Zsd l2 a l4) K:=by subst c d;induction n generalizing a l4;kernel_rfl;rw[tm];simp only[*];kernel_rfl
theorem Z7e(l1:List Int):DN JO N (l1,())=oI N l1:=by
 conv=>rhs;rw[oI];simp(disch:=exact id (by kernel_rfl)) only[Zzs (R:=Unit×Ke) N (CF JO N [1,1,1,0,1,0])]
 kernel_rfl
def Ft:Gd:=GF JO func108 (λN d=>Z7e N d.1)
def Lj:Fn:=⟨f137,λ |2=>cn_ [0,1,5,11]|3|100002=>cn_ [0,1,5]|4=>cn_ [0,1,5,6]|5=>cn_ [0,1,5,28]|6=>cn_ [4]|_=>[],λN=>Sig.of [vf_ Jl,vf_ Ja] [vf_ Ja] (λd=>qW N d.1 d.2.1),CX [Fs]⟩
def Zui(l3:List Int)(a b:Int):St:=⟨[(0,vV Jl l3),(1,vI a),(5,vI b)],[],0⟩
theorem Z3h{l3 a K0 K1}(c:K0= λf=>K .ret ⟨[(4,vI f)],[],0⟩)(d:K1= λe g=>K (.exit 0) ((Zui l3 a e).B 11 g))(n b):tA N l3 a K0 K1 n b=LM Lj N 0 100002 n (Zui l3 a b) K:=by subst c d;induction n generalizing b;kernel_rfl;rw[tA];simp only[*];kernel_rfl
theorem Qt(l1:List Int)(bf:Int):DN Lj N (l1,bf,())=qW N l1 bf:=by
 conv=>rhs;rw[qW];simp(disch:=exact id (by kernel_rfl)) only[Z3h (R:=Unit×Kk) N (CF Lj N [1,0,1,0])]
 kernel_rfl
def RH:Gd:=GF Lj func137 (λN d=>Qt N d.1 d.2.1)
def JP:Fn:=⟨f162,λ |10=>cn_ [0,1,2,9,13,60]|11|100010=>cn_ [0,1,2,9,13]|12=>cn_ [0,1,2,9,13,67]|13=>cn_ [9]|14=>cn_ [6,7,8]|_=>[],λN=>Sig.of [vf_ Jl,vf_ Ja,vf_ Ja] [vf_ Jd,vf_ Ja,vf_ Jag] (λd=>uu N d.1 d.2.1 d.2.2.1),CX [JN,Ft,yN,mC,RH,Fs,Zu9]⟩
def Zse(a:List Int)(c e d:Int)(b:List Int):St:=⟨[(0,vV Jl a),(1,vI c),(2,vI e),(9,vO 0),(13,vI d)],[(0,.arr Ja b)],1⟩
def Zyc(b:List Int)(d e:Int)(c a:List Int):St:=⟨[(6,vO 0),(7,vI 0),(8,vB true)],[(0,.arr Ja a)],1⟩
theorem Zzt{a c d b K0 K1}(g:K0= λf=>K .ret (Zyc a c d b f))(h:K1= λi j=>K (.exit 0) ((Zse a c d i b).B 60 j))(n e):xX N a c d b K0 K1 n e=LM JP N 0 100010 n (Zse a c d e b) K:=by subst g h;induction n generalizing e;kernel_rfl;rw[xX];simp only[*];kernel_rfl
theorem Z7f(l1:List Int)(a v3:Int):DN JP N (l1,a,v3,())=uu N l1 a v3:=by
 conv=>rhs;rw[uu];simp(disch:=exact id (by kernel_rfl)) only[Zzt (R:=Unit×(Ki×Kz)) N (CF JP N [1,1,1,1,1,0,1,0])]
 kernel_rfl
def Rq:Gd:=GF JP func162 (λN d=>Z7f N d.1 d.2.1 d.2.2.1)
def IS:Fn:=⟨f131,λ |5=>cn_ [0,3,4,16]|6|11|100005=>cn_ [0,3,4]|7=>cn_ [0,3,4,24]|8=>cn_ [2]|9=>cn_ [0,3,4,30]|10=>cn_ [0,4,5]|_=>[],λN=>Sig.of [vf_ Jl] [vf_ Jd] (λd=>yA N d.1),CX [Z7b,d7,Rq]⟩
def Zqb(c:List Int)(a:Int)(b:List Int):St:=⟨[(0,vV Jl c),(3,vO 0),(4,vI a)],[(0,.arr Ja b)],1⟩
def Zwd(a:List Int):St:=⟨[(2,vO 0)],[(0,.arr Ja ([]:List Int))],1⟩
theorem Zw3{a K0 K1}(e:K0=K .ret (Zwd a))(f:K1= λg h d=>K (.exit 0) ((Zqb a g d).B 16 h))(n b c):s8 N a K0 K1 n b c=LM IS N 0 100005 n (Zqb a b c) K:=by subst e f;induction n generalizing b c;kernel_rfl;rw[s8];simp only[*];kernel_rfl
theorem Z3i(m1:List Int):DN IS N (m1,())=yA N m1:=by
 conv=>rhs;rw[yA];simp(disch:=exact id (by kernel_rfl)) only[Zw3 (R:=Unit×Kah) N (CF IS N [1,1,1,0,1,0])]
 kernel_rfl
def Z3j:Gd:=GF IS func131 (λN d=>Z3i N d.1)
def Z90:Fn:=⟨f103,Ww,λN=>Sig.of [vt_ Jo] [vt_ Jg] (λd=>Lo N d.1),CX [Z9z,Z3j]⟩
def Z91:Gd:=GF Z90 func103
def Z7g:Fn:=⟨f163,Ww,λN=>Sig.of [vt_ (TY_Root)] [.v (.prod Ja (.prod Ja (.prod Ja (.prod Ja (.prod Ja (.prod Ja (.prod Ja (.prod Ja (.prod Ja (.prod Ja (.prod Ja (.prod Jag (.prod Jd (.prod Jc (.prod Jc (.prod (.own (.prod Ja (.prod Ja Jaj))) (.prod Jv (.prod Jd (.prod Jag (.prod Jp (.prod Jr Jae))))))))))))))))))))) true] (λd=>mw N d.1),W3⟩
def Fh:Gd:=GN Z7g func163
def Z7h:Fn:=⟨f204,Ww,λN=>Sig.of [vt_ (TY_Root)] [vf_ Jag] (λd=>KY N d.1),W3⟩
def Z7i:Gd:=GN Z7h func204
def JQ:Fn:=⟨f164,λ |7=>cn_ [2,3,4,6,7,8,38]|8|100007=>cn_ [2,3,4,6,7,8]|9=>cn_ [2,3,4,6,7,8,58]|10=>cn_ [6,7]|_=>[],λN=>Sig.of [vt_ Jg,vt_ (TY_Root),vf_ Ja] [vt_ Jg,vt_ (TY_Root)] (λd=>Cr N d.1 d.2.1 d.2.2.1),CX [Z7i]⟩
def Zsf(c a b6 b7 b8 b9:Int)(az:Y_Root)(dU:List Kb)(di:List Int)(dG:List Kb)(b:List Y_Root)(gO:List Ko):St:=⟨[(2,vI c),(3,vP 0 0),(4,vP 1 0),(6,vP 2 0),(7,vP 3 0),(8,vI a)],[(0,.box [.val Ja b6,.val Ja b7,.val Ja b8,.own 4,.own 5,.val Ja b9,.own 6,.own 7,.own 8]),(1,.box (split (TY_Root) az)),(2,.box [.val Ja (0:Int),.val Ja (0:Int),.val Ja (0:Int),.nils,.nils,.val Ja (0:Int),.nils,.nils,.nils]),(3,.box [.val Ja (0:Int),.val Ja (0:Int),.val Ja (0:Int),.val Ja (0:Int),.val Ja (0:Int),.val Ja (0:Int),.val Ja (0:Int),.val Ja (0:Int),.val Ja (0:Int),.val Ja (0:Int),.val Ja (0:Int),.val Jag false,.nils,.nils,.nils,.nils,.nils,.nils,.val Jag false,.val Ja (0:Int),.val Ja (0:Int),.val Ja (0:Int),.val Ja (0:Int),.val Ja (0:Int),.val Ja (0:Int),.val Ja (0:Int),.val Ja (0:Int),.val Ja (0:Int),.nils,.nils,.val Ja (0:Int),.val Ja (0:Int),.val Ja (0:Int),.val Jag false,.nils,.nils,.nils,.nils,.nils,.nils]),(4,.arr Jb dU),(5,.arr Ja di),(6,.arr Jb dG),(7,.arr (TY_Root) b),(8,.arr Jac gO)],9⟩
def Zyd(b b6 b7 b8 b9:Int)(az:Y_Root)(dU:List Kb)(di:List Int)(dG:List Kb)(a:List Y_Root)(gO:List Ko):St:=⟨[(6,vP 0 0),(7,vP 1 0)],[(0,.box [.val Ja b6,.val Ja b7,.val Ja b8,.own 2,.own 3,.val Ja b9,.own 4,.own 5,.own 6]),(1,.box (split (TY_Root) az)),(2,.arr Jb dU),(3,.arr Ja di),(4,.arr Jb dG),(5,.arr (TY_Root) a),(6,.arr Jac gO)],7⟩
theorem Zzu{b b6 b7 b8 b9 az dU di dG a gO K0 K1}(e:K0=K .ret (Zyd b b6 b7 b8 b9 az dU di dG a gO))(f:K1= λd g=>K (.exit 0) ((Zsf b d b6 b7 b8 b9 az dU di dG a gO).B 38 g))(n c):kT N b b6 b7 b8 b9 az dU di dG a gO K0 K1 n c=LM JQ N 0 100007 n (Zsf b c b6 b7 b8 b9 az dU di dG a gO) K:=by subst e f;induction n generalizing c;kernel_rfl;rw[kT];simp only[*];kernel_rfl
theorem Z7j(a:Y_World)(b:Y_Root)(k3:Int):DN JQ N (a,b,k3,())=Cr N a b k3:=by
 conv=>rhs;rw[Cr];simp(disch:=exact id (by kernel_rfl)) only[Zzu (R:=Unit×(Y_World×(Y_Root×Unit))) N (CF JQ N [1,1,1,0,1,0])]
 kernel_rfl
def Z7k:Gd:=GF JQ func164 (λN d=>Z7j N d.1 d.2.1 d.2.2.1)
def JR:Fn:=⟨f280,λ |2=>cn_ [0,3,8]|3|100002=>cn_ [0,3]|4=>cn_ [0,3,4]|5=>cn_ [0,3,4,30]|6|8=>cn_ [2]|7=>cn_ [0,3,79]|_=>[],λN=>Sig.of [vf_ Jv] [vf_ Jag] (λd=>ut N d.1),CX [d7]⟩
def Zsg(l2:List Kb)(a:Int):St:=⟨[(0,vV Jv l2),(3,vI a)],[],0⟩
theorem Zzv{l2 K0 K1}(b:K0=K .ret ⟨[(2,vB false)],[],0⟩)(c:K1= λd e=>K (.exit 0) ((Zsg l2 d).B 8 e))(n a):qN N l2 K0 K1 n a=LM JR N 0 100002 n (Zsg l2 a) K:=by subst b c;induction n generalizing a;kernel_rfl;rw[qN];simp only[*];kernel_rfl
theorem Z7l(l1:List Kb):DN JR N (l1,())=ut N l1:=by
 conv=>rhs;rw[ut];simp(disch:=exact id (by kernel_rfl)) only[Zzv (R:=Unit×Ke) N (CF JR N [1,0,1,0])]
 kernel_rfl
def JS:Gd:=GF JR func280 (λN d=>Z7l N d.1)
def KO:Fn:=⟨f299,λ |4=>cn_ [0,1,2,7,14]|5|100004=>cn_ [0,1,2,7]|6=>cn_ [0,1,2,7,32]|7=>cn_ [6]|_=>[],λN=>Sig.of [vf_ Jv,vf_ Ja,vf_ Ja] [vf_ Ja] (λd=>ze N d.1 d.2.1 d.2.2.1),CX [JS]⟩
def Zth(d:List Kb)(c a b:Int):St:=⟨[(0,vV Jv d),(1,vI c),(2,vI a),(7,vI b)],[],0⟩
theorem Z1s{d c a K0 K1}(g:K0= λi=>K .ret ⟨[(6,vI i)],[],0⟩)(h:K1= λf e=>K (.exit 0) ((Zth d c a f).B 14 e))(n b):tw N d c a K0 K1 n b=LM KO N 0 100004 n (Zth d c a b) K:=by subst g h;induction n generalizing b;kernel_rfl;rw[tw];simp only[*];kernel_rfl
theorem Z92(l1:List Kb)(a aQ:Int):DN KO N (l1,a,aQ,())=ze N l1 a aQ:=by
 conv=>rhs;rw[ze];simp(disch:=exact id (by kernel_rfl)) only[Z1s (R:=Unit×Kk) N (CF KO N [1,1,0,1,0])]
 kernel_rfl
def Zwr:Gd:=GF KO func299 (λN d=>Z92 N d.1 d.2.1 d.2.2.1)
def JT:Fn:=⟨f257,λ |3=>cn_ [0,1,5,6,9]|4|6|100003=>cn_ [0,1,5,6]|5=>cn_ [0,1,5,6,16]|_=>[],λN=>Sig.of [vf_ Jv,vf_ Ja] [vf_ Jd] (λd=>y7 N d.1 d.2.1),CX [Zwr]⟩
def Zsh(l3:List Kb)(a c:Int)(b:List Int):St:=⟨[(0,vV Jv l3),(1,vI a),(5,vO 0),(6,vI c)],[(0,.arr Ja b)],1⟩
theorem Zzx{l3 a K0}(e:K0= λg f d=>K (.exit 0) ((Zsh l3 a g d).B 9 f))(n c b):tt N l3 a K0 n c b=LM JT N 0 100003 n (Zsh l3 a c b) K:=by subst e;induction n generalizing c b;kernel_rfl;rw[tt];simp only[*];kernel_rfl
theorem Z7m(l1:List Kb)(aP:Int):DN JT N (l1,aP,())=y7 N l1 aP:=by
 conv=>rhs;rw[y7];simp(disch:=exact id (by kernel_rfl)) only[Zzx (R:=Unit×Kah) N (CF JT N [1,1,0,1,0])]
 kernel_rfl
def Z7n:Gd:=GF JT func257 (λN d=>Z7m N d.1 d.2.1)
def Z93:Fn:=⟨f219,Ww,λN=>Sig.of [vt_ Jg,vt_ (TY_Root),vf_ Ja] [vt_ Jg,vt_ Ju] (λd=>zf N d.1 d.2.1 d.2.2.1),W3⟩
def Zws:Gd:=GN Z93 func219
def KQ:Fn:=⟨f300,λ |4=>cn_ [0,3,10]|5|100004=>cn_ [0,3]|6=>cn_ [0,3,28]|7=>cn_ [2]|_=>[],λN=>Sig.of [vf_ Jm] [vf_ Jag] (λd=>qV N d.1),CX [uh,mC]⟩
def Zti(l2:List Kc)(a:Int):St:=⟨[(0,vV Jm l2),(3,vI a)],[],0⟩
theorem Z1t{l2 K0 K1}(b:K0=K .ret ⟨[(2,vB false)],[],0⟩)(c:K1= λd e=>K (.exit 0) ((Zti l2 d).B 10 e))(n a):xh N l2 K0 K1 n a=LM KQ N 0 100004 n (Zti l2 a) K:=by subst b c;induction n generalizing a;kernel_rfl;rw[xh];simp only[*];kernel_rfl
theorem Z94(l1:List Kc):DN KQ N (l1,())=qV N l1:=by
 conv=>rhs;rw[qV];simp(disch:=exact id (by kernel_rfl)) only[Z1t (R:=Unit×Ke) N (CF KQ N [1,1,0,1,0])]
 kernel_rfl
def RB:Gd:=GF KQ func300 (λN d=>Z94 N d.1)
def Lz:Fn:=⟨f259,λ |4=>cn_ [0,1,6,14]|5|100004=>cn_ [0,1,6]|6=>cn_ [0,1,6,23]|7=>cn_ [4,5]|_=>[],λN=>Sig.of [vf_ Jm,vf_ Ja] [vf_ Ja,vf_ Jag] (λd=>u9 N d.1 d.2.1),CX [RB]⟩
def Zva(l4:List Kc)(a b:Int):St:=⟨[(0,vV Jm l4),(1,vI a),(6,vI b)],[],0⟩
theorem Z46{l4 a K0 K1}(c:K0= λf=>K .ret ⟨[(4,vI f),(5,vB true)],[],0⟩)(d:K1= λe g=>K (.exit 0) ((Zva l4 a e).B 14 g))(n b):Bw N l4 a K0 K1 n b=LM Lz N 0 100004 n (Zva l4 a b) K:=by subst c d;induction n generalizing b;kernel_rfl;rw[Bw];simp only[*];kernel_rfl
theorem QR(l1:List Kc)(cH:Int):DN Lz N (l1,cH,())=u9 N l1 cH:=by
 conv=>rhs;rw[u9];simp(disch:=exact id (by kernel_rfl)) only[Z46 (R:=Unit×Kz) N (CF Lz N [1,1,0,1,0])]
 kernel_rfl
def RN:Gd:=GF Lz func259 (λN d=>QR N d.1 d.2.1)
def LK:Fn:=⟨f221,λ |3=>cn_ [0,3,4,9]|4|7|100003=>cn_ [0,3,4]|5=>cn_ [0,3,4,5,6]|6=>cn_ [0,3,4,5,18]|_=>[],λN=>Sig.of [vf_ Jm] [vf_ Jc] (λd=>o0 N d.1),CX [RN]⟩
def Zvz(l2:List Kc)(a:Int)(l4:List Kc):St:=⟨[(0,vV Jm l2),(3,vO 0),(4,vI a)],[(0,.arr Jz l4)],1⟩
theorem Z7o{l2 K0}(b:K0= λc e d=>K (.exit 0) ((Zvz l2 c d).B 9 e))(n a l4):yE N l2 K0 n a l4=LM LK N 0 100003 n (Zvz l2 a l4) K:=by subst b;induction n generalizing a l4;kernel_rfl;rw[yE];simp only[*];kernel_rfl
theorem QE(l1:List Kc):DN LK N (l1,())=o0 N l1:=by
 conv=>rhs;rw[o0];simp(disch:=exact id (by kernel_rfl)) only[Z7o (R:=Unit×(Ky×Unit)) N (CF LK N [1,1,0,1,0])]
 kernel_rfl
def LL:Gd:=GF LK func221 (λN d=>QE N d.1)
def JU:Fn:=⟨f301,λ |4=>cn_ [3,4,5,12]|5|6|100004=>cn_ [3,4,5]|_=>[],λN=>Sig.of [vf_ Jm] [vf_ Jd] (λd=>Ct N d.1),CX [LL]⟩
def Zsl(a:Int)(l4:List Int)(b:List Kc):St:=⟨[(3,vO 0),(4,vO 1),(5,vI a)],[(0,.arr Ja l4),(1,.arr Jz b)],2⟩
theorem Zzz{b K0}(c:K0= λd f e=>K (.exit 0) ((Zsl d e b).B 12 f))(n a l4):xY N b K0 n a l4=LM JU N 0 100004 n (Zsl a l4 b) K:=by subst c;induction n generalizing a l4;kernel_rfl;rw[xY];simp only[*];kernel_rfl
theorem Z7p(l1:List Kc):DN JU N (l1,())=Ct N l1:=by
 conv=>rhs;rw[Ct];simp(disch:=exact id (by kernel_rfl)) only[Zzz (R:=Unit×Kah) N (CF JU N [1,1,1,0,1,0])]
 kernel_rfl
def Z7q:Gd:=GF JU func301 (λN d=>Z7p N d.1)
def Z3l:Fn:=⟨f258,Ww,λN=>Sig.of [vf_ Ja,vf_ Ja,vf_ Jm,vf_ Jm] [vt_ Jr,vf_ Jag] (λd=>BE N d.1 d.2.1 d.2.2.1 d.2.2.2.1),CX [d7,RB,LL,Z7q]⟩
def Z3m:Gd:=GF Z3l func258
def Z47:Fn:=⟨f205,Ww,λN=>Sig.of [vt_ Jg,vt_ (TY_Root),vf_ Ja,vf_ Ja] [vt_ Jg,vt_ (TY_Root)] (λd=>Fy N d.1 d.2.1 d.2.2.1 d.2.2.2.1),CX [Z7n,Zws,Z3m]⟩
def Z48:Gd:=GF Z47 func205
def Lk:Fn:=⟨f270,λ |4=>cn_ [1,3,19]|5|100004=>cn_ [1,3]|6=>cn_ [1,3,4]|7=>cn_ [1,3,44]|8=>cn_ [2]|_=>[],λN=>Sig.of [vt_ Jah] [vf_ Jag] (λd=>oZ N d.1),CX [d7,mC]⟩
def Zuj(a:Int)(b4:Int×List Kb):St:=⟨[(1,vP 0 0),(3,vI a)],[(0,.box [.val Ja b4.1,.val Jv b4.2])],1⟩
theorem Z3n{b4 K0 K1}(b:K0=K .ret ⟨[(2,vB false)],[],0⟩)(c:K1= λd e=>K (.exit 0) ((Zuj d b4).B 19 e))(n a):tg N b4 K0 K1 n a=LM Lk N 0 100004 n (Zuj a b4) K:=by subst b c;induction n generalizing a;kernel_rfl;rw[tg];simp only[*];kernel_rfl
theorem Qu(m1:Int×List Kb):DN Lk N (m1,())=oZ N m1:=by
 conv=>rhs;rw[oZ];simp(disch:=exact id (by kernel_rfl)) only[Z3n (R:=Unit×Ke) N (CF Lk N [1,1,0,1,0])]
 kernel_rfl
def FN:Gd:=GF Lk func270 (λN d=>Qu N d.1)
def Z7r:Fn:=⟨f302,Ww,λN=>Sig.of [vt_ Jp] [vf_ Jag] (λd=>J0 N d.1),CX [uh,d7,mC]⟩
def Z7s:Gd:=GF Z7r func302
def Z3o:Fn:=⟨f260,Ww,λN=>Sig.of [vt_ Jah,vf_ Ja,vt_ Jp] [vt_ Jp] (λd=>yb N d.1 d.2.1 d.2.2.1),CX [FN,Z7s]⟩
def Zuk:Gd:=GF Z3o func260
def Zz0:Fn:=⟨f261,Ww,λN=>Sig.of [vt_ (TY_Root)] [vt_ (TY_Root)] (λd=>Bn N d.1),CX [Fh]⟩
def Zsm:Gd:=GF Zz0 func261
def Z7t:Fn:=⟨f207,Ww,λN=>Sig.of [vf_ Jl] [vf_ Jd] (λd=>Zs N d.1),W3⟩
def oz:Gd:=GN Z7t func207
def Zsn:Fn:=⟨f206,Ww,λN=>Sig.of [.kv Jg true,vt_ (TY_Root),vt_ Jp] [vt_ (TY_Root)] (λd=>It N d.1 d.2.1 d.2.2.1),CX [RN,Zuk,Zsm,oz]⟩
def Zso:Gd:=GF Zsn func206
def Z7u:Fn:=⟨f276,Ww,λN=>Sig.of [vt_ Jaf] [vt_ Jan] (λd=>FG N d.1),CX [JN]⟩
def Zv0:Gd:=GF Z7u func276
def Z7v:Fn:=⟨f277,Ww,λN=>Sig.of [vt_ Jaf] [vf_ Jag] (λd=>FF N d.1),CX [Ft,mC]⟩
def Zv1:Gd:=GF Z7v func277
def Z95:Fn:=⟨f278,Ww,λN=>Sig.of [vt_ Jb] [vf_ Jag] (λd=>Lp N d.1),CX [yN,mC]⟩
def Z96:Gd:=GF Z95 func278
def Z49:Fn:=⟨f279,Ww,λN=>Sig.of [vf_ Jl,vf_ Ja] [vf_ Jd,vf_ Ja,vf_ Jag] (λd=>Fz N d.1 d.2.1),CX [JN,Ft,yN,RH,Fs]⟩
def Zvb:Gd:=GF Z49 func279
def Z7w:Fn:=⟨f217,Ww,λN=>Sig.of [vt_ Jaf,vt_ Jb] [vt_ Jan,vf_ Jag] (λd=>K3 N d.1 d.2.1),CX [Zv0,Zv1,Z96,Rq,Zvb]⟩
def Z7x:Gd:=GF Z7w func217
def Zz1:Fn:=⟨f170,Ww,λN=>Sig.of [.v (.prod Ja (.prod Ja (.prod Jy (.prod Jaf (.prod Jao (.prod (.own (TY_Root)) (.own Jac))))))) true,vt_ (TY_Root)] [vt_ Jg,vt_ Ju] (λd=>Bp N d.1 d.2.1),CX [Z7x]⟩
def Ro:Gd:=GF Zz1 func170
def Ll:Fn:=⟨f208,λ |5=>cn_ [0,5,6,27]|6|8|10|100005=>cn_ [0,5,6]|7=>cn_ [0,5,6,35]|9=>cn_ [0,5,6,43]|11=>cn_ [0,5,6,47]|12=>cn_ [4]|_=>[],λN=>Sig.of [vf_ Jh,vf_ Ja] [vf_ Ja] (λd=>zs N d.1 d.2.1),W3⟩
def Zul(a:List Ka)(b c:Int):St:=⟨[(0,vV Jh a),(5,vI b),(6,vI c)],[],0⟩
theorem Z3p{a K0 K1}(e:K0= λh=>K .ret ⟨[(4,vI h)],[],0⟩)(f:K1= λd g i=>K (.exit 0) ((Zul a d g).B 27 i))(n b c):nl N a K0 K1 n b c=LM Ll N 0 100005 n (Zul a b c) K:=by subst e f;induction n generalizing b c;kernel_rfl;rw[nl];simp only[*];kernel_rfl
theorem Qv(a:List Ka)(i2:Int):DN Ll N (a,i2,())=zs N a i2:=by
 conv=>rhs;rw[zs];simp(disch:=exact id (by kernel_rfl)) only[Z3p (R:=Unit×Kk) N (CF Ll N [1,1,1,0,1,0])]
 kernel_rfl
def Zyf:Gd:=GN Ll func208 (λN d=>Qv N d.1 d.2.1)
def Cg:Fn:=⟨f209,λ |4=>cn_ [1,3,8,9,10,11,24]|5|6=>cn_ [1,3,8,9,10,11]|8=>cn_ [1,3,8,9,12,45]|9|10=>cn_ [1,3,8,9,12]|100004=>[.adoptC 9 6 Jb,.canon [1,3,8,9,10,11]]|100008=>[.adoptC 9 9 (TY_KidRun),.canon [1,3,8,9,12]]|_=>[],λN=>Sig.of [vf_ Ja,vf_ Jl,vf_ Jm,vf_ Ja] [vt_ Jae] (λd=>Cz N d.1 d.2.1 d.2.2.1 d.2.2.2.1),CX [oz,LL]⟩
def Ztj(f:List Int)(g c a:Int)(b:List Kc)(e:List Int)(d:List Kc)(cp:List Kb):St:=⟨[(1,vV Jl f),(3,vI g),(8,vP 0 0),(9,vP 1 0),(10,vO 2),(11,vI c)],[(0,.box [.val Ja (0:Int),.val Ja (0:Int),.val Ja (0:Int),.val Jag false,.nils,.nils,.nils,.nils,.nils,.nils]),(1,.box [.val Ja a,.val Ja (0:Int),.val Ja (0:Int),.val Jag false,.own 3,.own 4,.own 5,.nils,.nils,.nils]),(2,.arr Jz b),(3,.arr Ja e),(4,.arr Jz d),(5,.arr Jb cp)],6⟩
theorem Z1w{f g a b e d K0}(i:K0= λh k j=>K (.exit 0) ((Ztj f g h a b e d j).B 24 k))(n c cp):yg N f g a b e d K0 n c cp=LM Cg N 0 100004 n (Ztj f g c a b e d cp) K:=by subst i;induction n generalizing c cp;kernel_rfl;rw[yg];simp only[*];kernel_rfl
def Ztk(b:List Int)(a e d:Int)(c:List Int)(dU:List Kc)(di:List Kb)(dG:List Y_KidRun):St:=⟨[(1,vV Jl b),(3,vI a),(8,vP 0 0),(9,vP 1 0),(12,vI e)],[(0,.box [.val Ja (0:Int),.val Ja (0:Int),.val Ja (0:Int),.val Jag false,.nils,.nils,.nils,.nils,.nils,.nils]),(1,.box [.val Ja d,.val Ja (0:Int),.val Ja (0:Int),.val Jag false,.own 2,.own 3,.own 4,.nils,.nils,.own 5]),(2,.arr Ja c),(3,.arr Jz dU),(4,.arr Jb di),(5,.arr (TY_KidRun) dG)],6⟩
theorem Z1x{b a d c dU di K0}(h:K0= λf g i=>K (.exit 2) ((Ztk b a f d c dU di i).B 45 g))(n e dG):qH N b a d c dU di K0 n e dG=LM Cg N 1 100008 n (Ztk b a e d c dU di dG) K:=by subst h;induction n generalizing e dG;kernel_rfl;rw[qH];simp only[*];kernel_rfl
theorem Z97(c:Int)(a:List Int)(b:List Kc)(eh:Int):DN Cg N (c,a,b,eh,())=Cz N c a b eh:=by
 conv=>rhs;rw[Cz];simp(disch:=exact id (by kernel_rfl)) only[Z1w (R:=Unit×(Y_Family×Unit)) N (CF Cg N [1,1,1,0,1,0]),Z1x (R:=Unit×(Y_Family×Unit)) N (CF Cg N [1,1,1,1,0,1,0])]
 kernel_rfl
def Z98:Gd:=GF Cg func209 (λN d=>Z97 N d.1 d.2.1 d.2.2.1 d.2.2.2.1)
def Z3q:Fn:=⟨f262,Ww,λN=>Sig.of [vt_ Jp] [vf_ Ja,vf_ Ja] (λd=>IW N d.1),CX [Rv]⟩
def Z3r:Gd:=GF Z3q func262
def KR:Fn:=⟨f303,λ |5=>cn_ [0,1,2,3,9,10,24]|6|8|100005=>cn_ [0,1,2,3,9,10]|7=>cn_ [0,1,2,3,9,10,54]|_=>[],λN=>Sig.of [vf_ Jv,vf_ Ja,vf_ Ja,vf_ Ja] [vf_ Jd] (λd=>CH N d.1 d.2.1 d.2.2.1 d.2.2.2.1),CX [JS,d7]⟩
def Ztl(f:List Kb)(e d c b:Int)(a:List Int):St:=⟨[(0,vV Jv f),(1,vI e),(2,vI d),(3,vI c),(9,vO 0),(10,vI b)],[(0,.arr Ja a)],1⟩
theorem Z1y{f e d c K0}(j:K0= λi h g=>K (.exit 0) ((Ztl f e d c i g).B 24 h))(n b a):nA N f e d c K0 n b a=LM KR N 0 100005 n (Ztl f e d c b a) K:=by subst j;induction n generalizing b a;kernel_rfl;rw[nA];simp only[*];kernel_rfl
theorem Z99(l1:List Kb)(a b bg:Int):DN KR N (l1,a,b,bg,())=CH N l1 a b bg:=by
 conv=>rhs;rw[CH];simp(disch:=exact id (by kernel_rfl)) only[Z1y (R:=Unit×Kah) N (CF KR N [1,1,1,0,1,0])]
 kernel_rfl
def Pt:Gd:=GF KR func303 (λN d=>Z99 N d.1 d.2.1 d.2.2.1 d.2.2.2.1)
def JV:Fn:=⟨f263,λ |7=>cn_ [0,1,2,10,11,12,13,58]|8|14|100007=>cn_ [0,1,2,10,11,12,13]|9|12=>cn_ [0,1,2,10,11,12,13,14]|10=>cn_ [0,1,2,10,11,12,13,14,84]|11=>cn_ [0,1,2,10,11,13,14]|13=>cn_ [0,1,2,10,11,12,13,14,98]|_=>[],λN=>Sig.of [vf_ Jv,vf_ Ja,vf_ Ja,vf_ Ja] [vf_ Jao,vf_ Jag] (λd=>Cu N d.1 d.2.1 d.2.2.1 d.2.2.2.1),CX [JS,d7,Pt,Zwr]⟩
def Zsp(c:List Kb)(a b:Int)(d:Bool)(g e:Int)(f:List Kb):St:=⟨[(0,vV Jv c),(1,vI a),(2,vI b),(10,vP 0 0),(11,vO 1),(12,vB d),(13,vI g)],[(0,.box [.val Ja a,.val Ja b,.val Ja e]),(1,.arr Jb f)],2⟩
theorem Zz2{b a c e K0}(i:K0= λk l h j=>K (.exit 0) ((Zsp b a c k l e j).B 58 h))(n d g f):Zt N b a c e K0 n d g f=LM JV N 0 100007 n (Zsp b a c d g e f) K:=by subst i;induction n generalizing d g f;kernel_rfl;rw[Zt];simp only[*];kernel_rfl
theorem Z7y(l1:List Kb)(a b bg:Int):DN JV N (l1,a,b,bg,())=Cu N l1 a b bg:=by
 conv=>rhs;rw[Cu];simp(disch:=exact id (by kernel_rfl)) only[Zz2 (R:=Unit×(Ks×Ke)) N (CF JV N [1,1,1,1,1,0,1,0])]
 kernel_rfl
def Z7z:Gd:=GF JV func263 (λN d=>Z7y N d.1 d.2.1 d.2.2.1 d.2.2.2.1)
def KS:Fn:=⟨f265,λ |4=>cn_ [0,3,10]|5|100004=>cn_ [0,3]|6=>cn_ [0,3,18]|7=>cn_ [2]|_=>[],λN=>Sig.of [vf_ Jl] [vf_ Jag] (λd=>nF N d.1),CX [mC]⟩
def Ztm(l2:List Int)(a:Int):St:=⟨[(0,vV Jl l2),(3,vI a)],[],0⟩
theorem Z1z{l2 K0 K1}(b:K0=K .ret ⟨[(2,vB false)],[],0⟩)(c:K1= λd e=>K (.exit 0) ((Ztm l2 d).B 10 e))(n a):xg N l2 K0 K1 n a=LM KS N 0 100004 n (Ztm l2 a) K:=by subst b c;induction n generalizing a;kernel_rfl;rw[xg];simp only[*];kernel_rfl
theorem Pu(l1:List Int):DN KS N (l1,())=nF N l1:=by
 conv=>rhs;rw[nF];simp(disch:=exact id (by kernel_rfl)) only[Z1z (R:=Unit×Ke) N (CF KS N [1,1,0,1,0])]
 kernel_rfl
def RC:Gd:=GF KS func265 (λN d=>Pu N d.1)
def Z70:Fn:=⟨f304,Ww,λN=>Sig.of [vf_ Ja,vf_ Ja] [vt_ Jb] (λd=>FH N d.1 d.2.1),W3⟩
def Z71:Gd:=GN Z70 func304
def Z72:Fn:=⟨f109,Ww,λN=>Sig.of [vf_ Jl,vf_ Ja] [vf_ Ja,vf_ Jag] (λd=>FE N d.1 d.2.1),CX [Ft,yN,RH,Fs]⟩
def Zv2:Gd:=GF Z72 func109
def Z73:Fn:=⟨f264,Ww,λN=>Sig.of [vt_ Jaf,vt_ Jp,vf_ Jl] [vt_ Jan,vf_ Jd,vt_ Jb,vf_ Jag] (λd=>K4 N d.1 d.2.1 d.2.2.1),CX [Zv0,JN,Zv1,RC,Rv,Rq,Z71,Zvb,Zv2]⟩
def Z74:Gd:=GF Z73 func264
def Z5a:Fn:=⟨f210,Ww,λN=>Sig.of [vt_ Jg,vt_ (TY_Root),vf_ Ja,vt_ Jp] [vt_ Jg,vt_ (TY_Root)] (λd=>J4 N d.1 d.2.1 d.2.2.1 d.2.2.2.1),CX [Z3r,Z7z,Zsm,Z74]⟩
def Z5b:Gd:=GF Z5a func210
def QS:Fn:=⟨f211,Ww,λN=>Sig.of [vt_ Jp,vf_ Jl] [vf_ Jd,vf_ Jag] (λd=>FZ N d.1 d.2.1),CX [Lt,RC]⟩
def Z0g:Gd:=GF QS func211
def Pv:Fn:=⟨f165,Ww,λN=>Sig.of [vt_ Jg,vt_ (TY_Root),vf_ Ja,vt_ Jw] [vt_ Jg,vt_ (TY_Root)] (λd=>Lq N d.1 d.2.1 d.2.2.1 d.2.2.2.1),CX [Z48,Zso,oz,Ro,Zyf,Z98,Z5b,Z0g]⟩
def Pw:Gd:=GF Pv func165
def JW:Fn:=⟨f212,λ |2=>cn_ [1,3,8]|3|100002=>cn_ [1,3]|4=>cn_ [1,3,17]|5=>cn_ [2]|_=>[],λN=>Sig.of [vt_ (TY_Family)] [vf_ Jag] (λd=>Cv N d.1),W3⟩
def Zsr(a:Int)(b3:Y_Family):St:=⟨[(1,vP 0 0),(3,vI a)],[(0,.box (split (TY_Family) b3))],1⟩
theorem Zz4{b3 K0 K1}(b:K0=K .ret ⟨[(2,vB false)],[],0⟩)(c:K1= λd e=>K (.exit 0) ((Zsr d b3).B 8 e))(n a):xZ N b3 K0 K1 n a=LM JW N 0 100002 n (Zsr a b3) K:=by subst b c;induction n generalizing a;kernel_rfl;rw[xZ];simp only[*];kernel_rfl
theorem Z75(f1:Y_Family):DN JW N (f1,())=Cv N f1:=by
 conv=>rhs;rw[Cv];simp(disch:=exact id (by kernel_rfl)) only[Zz4 (R:=Unit×Ke) N (CF JW N [1,0,1,0])]
 kernel_rfl
def Z76:Gd:=GN JW func212 (λN d=>Z75 N d.1)
def JX:Fn:=⟨f213,λ |5=>cn_ [1,3,4,23]|6|7|9|100005=>cn_ [1,3,4]|8=>cn_ [1,3,4,44]|_=>[],λN=>Sig.of [vt_ (TY_Family)] [vf_ Jd] (λd=>Cw N d.1),CX [RC,oz]⟩
def Zss(b:Int)(a:Y_Family)(c:List Int):St:=⟨[(1,vP 0 0),(3,vO 1),(4,vI b)],[(0,.box (split (TY_Family) a)),(1,.arr Ja c)],2⟩
theorem Zz5{a K0}(f:K0= λg d e=>K (.exit 0) ((Zss g a e).B 23 d))(n b c):qP N a K0 n b c=LM JX N 0 100005 n (Zss b a c) K:=by subst f;induction n generalizing b c;kernel_rfl;rw[qP];simp only[*];kernel_rfl
theorem Z77(f1:Y_Family):DN JX N (f1,())=Cw N f1:=by
 conv=>rhs;rw[Cw];simp(disch:=exact id (by kernel_rfl)) only[Zz5 (R:=Unit×Kah) N (CF JX N [1,1,1,0,1,0])]
 kernel_rfl
def Z78:Gd:=GF JX func213 (λN d=>Z77 N d.1)
def JY:Fn:=⟨f214,λ |3=>cn_ [1,3,4,10]|4|5|100003=>cn_ [1,3,4]|_=>[],λN=>Sig.of [vt_ (TY_Family)] [vf_ Jc] (λd=>FI N d.1),W3⟩
def Zst(a:Int)(b3:Y_Family)(l4:List Kc):St:=⟨[(1,vP 0 0),(3,vO 1),(4,vI a)],[(0,.box (split (TY_Family) b3)),(1,.arr Jz l4)],2⟩
theorem Zz6{b3 K0}(b:K0= λc e d=>K (.exit 0) ((Zst c b3 d).B 10 e))(n a l4):x3 N b3 K0 n a l4=LM JY N 0 100003 n (Zst a b3 l4) K:=by subst b;induction n generalizing a l4;kernel_rfl;rw[x3];simp only[*];kernel_rfl
theorem Z79(f1:Y_Family):DN JY N (f1,())=FI N f1:=by
 conv=>rhs;rw[FI];simp(disch:=exact id (by kernel_rfl)) only[Zz6 (R:=Unit×(Ky×Unit)) N (CF JY N [1,1,0,1,0])]
 kernel_rfl
def Z8a:Gd:=GN JY func214 (λN d=>Z79 N d.1)
def Z8b:Fn:=⟨f166,Ww,λN=>Sig.of [vt_ (TY_Root)] [vt_ (TY_Root)] (λd=>K5 N d.1),CX [Fh,Z76,Z78,Z8a,oz]⟩
def Z8c:Gd:=GF Z8b func166
def Z3s:Fn:=⟨f167,Ww,λN=>Sig.of [vt_ Jg,vt_ (TY_Root)] [vt_ Jg,vt_ (TY_Root)] (λd=>IX N d.1 d.2.1),CX [Ro]⟩
def Z3t:Gd:=GF Z3s func167
def Zq1:Fn:=⟨f168,Ww,λN=>Sig.of [.kv Jg true,vt_ (TY_Root)] [vt_ (TY_Root)] (λd=>Is N d.1 d.2.1),CX [Fh,oz]⟩
def Zq2:Gd:=GF Zq1 func168
def Z8d:Fn:=⟨f266,Ww,λN=>Sig.of [vt_ Je] [vt_ Jr] (λd=>FJ N d.1),W3⟩
def Zv3:Gd:=GN Z8d func266
def IT:Fn:=⟨f305,λ |2=>cn_ [0,3,7]|3|100002=>cn_ [0,3]|4=>cn_ [0,3,31]|5=>cn_ [2]|_=>[],λN=>Sig.of [vf_ Jl] [vf_ Jag] (λd=>Fo N d.1),CX [uh]⟩
def Zqc(l2:List Int)(a:Int):St:=⟨[(0,vV Jl l2),(3,vI a)],[],0⟩
theorem Zw4{l2 K0 K1}(b:K0=K .ret ⟨[(2,vB false)],[],0⟩)(c:K1= λd e=>K (.exit 0) ((Zqc l2 d).B 7 e))(n a):tc N l2 K0 K1 n a=LM IT N 0 100002 n (Zqc l2 a) K:=by subst b c;induction n generalizing a;kernel_rfl;rw[tc];simp only[*];kernel_rfl
theorem Z3u(l1:List Int):DN IT N (l1,())=Fo N l1:=by
 conv=>rhs;rw[Fo];simp(disch:=exact id (by kernel_rfl)) only[Zw4 (R:=Unit×Ke) N (CF IT N [1,0,1,0])]
 kernel_rfl
def Z3v:Gd:=GF IT func305 (λN d=>Z3u N d.1)
def Px:Fn:=⟨f306,Ww,λN=>Sig.of [vt_ Je] [vf_ Ja] (λd=>Lr N d.1),W3⟩
def Py:Gd:=GN Px func306
def I6:Fn:=⟨f267,λ |4=>cn_ [1,3,42]|5|100004=>cn_ [1,3]|6=>cn_ [1,3,58]|7=>cn_ [2]|_=>[],λN=>Sig.of [vt_ Je] [vf_ Jag] (λd=>yJ N d.1),CX [d7,RB,Z3v,Py]⟩
def Zrk(a:Int)(b9:Int×Int×Int×Int×Int×List Kc×List Int):St:=⟨[(1,vP 0 0),(3,vI a)],[(0,.box (split Je b9))],1⟩
theorem Zyh{b9 K0 K1}(d:K0=K .ret ⟨[(2,vB false)],[],0⟩)(e:K1= λc b=>K (.exit 0) ((Zrk c b9).B 42 b))(n a):Bj N b9 K0 K1 n a=LM I6 N 0 100004 n (Zrk a b9) K:=by subst d e;induction n generalizing a;kernel_rfl;rw[Bj];simp only[*];kernel_rfl
theorem Z5c(c1:Int×Int×Int×Int×Int×List Kc×List Int):DN I6 N (c1,())=yJ N c1:=by
 conv=>rhs;rw[yJ];simp(disch:=exact id (by kernel_rfl)) only[Zyh (R:=Unit×Ke) N (CF I6 N [1,1,0,1,0])]
 kernel_rfl
def Zvc:Gd:=GF I6 func267 (λN d=>Z5c N d.1)
def Z8e:Fn:=⟨f268,Ww,λN=>Sig.of [vt_ Je,vf_ Ja] [vt_ Je] (λd=>la N d.1 d.2.1),W3⟩
def Zv4:Gd:=GN Z8e func268
def Zz7:Fn:=⟨f215,Ww,λN=>Sig.of [vt_ Je] [vt_ Je,vf_ Jag] (λd=>IP N d.1),CX [Zv3,Zvc,Zv4]⟩
def Zz8:Gd:=GF Zz7 func215
def Pz:Fn:=⟨f269,Ww,λN=>Sig.of [vt_ Jah] [vt_ Jy] (λd=>oN N d.1),W3⟩
def FB:Gd:=GN Pz func269
def QT:Fn:=⟨f271,Ww,λN=>Sig.of [vt_ Jah,vf_ Ja,vf_ Ja] [vt_ Jy,vf_ Jag] (λd=>F2 N d.1 d.2.1 d.2.2.1),CX [FB,FN,uh,d7]⟩
def QU:Gd:=GF QT func271
def Qw:Fn:=⟨f272,Ww,λN=>Sig.of [vt_ Je,vf_ Ja] [vt_ Je] (λd=>nH N d.1 d.2.1),W3⟩
def Qx:Gd:=GN Qw func272
def QV:Fn:=⟨f273,Ww,λN=>Sig.of [vt_ Jah] [vt_ Jy,vf_ Ja] (λd=>LN N d.1),CX [FB,FN]⟩
def QW:Gd:=GF QV func273
def PA:Fn:=⟨f307,Ww,λN=>Sig.of [vt_ Jah,vf_ Ja,vf_ Ja] [vf_ Jag] (λd=>FQ N d.1 d.2.1 d.2.2.1),CX [FN,uh,d7]⟩
def Zwt:Gd:=GF PA func307
def Qy:Fn:=⟨f274,Ww,λN=>Sig.of [vt_ Jah,vf_ Ja,vf_ Ja,vf_ Ja] [vt_ Jy,vf_ Jag] (λd=>FW N d.1 d.2.1 d.2.2.1 d.2.2.2.1),CX [FB,Zwt,mC]⟩
def Qz:Gd:=GF Qy func274
def PC:Fn:=⟨f275,Ww,λN=>Sig.of [vt_ Jah,vf_ Ja,vf_ Ja,vf_ Ja] [vt_ Jy,vf_ Jag] (λd=>zg N d.1 d.2.1 d.2.2.1 d.2.2.2.1),CX [FB,Zwt,d7]⟩
def PD:Gd:=GF PC func275
def Z10:Fn:=⟨f216,Ww,λN=>Sig.of [vt_ Jah,vt_ Je] [vt_ Jy,vt_ Je] (λd=>IG N d.1 d.2.1),CX [FB,Zv3,FN,Zvc,QU,Zv4,Qx,QW,Qz,PD]⟩
def Z11:Gd:=GF Z10 func216
def Z3w:Fn:=⟨f169,Ww,λN=>Sig.of [vt_ Jg,vt_ (TY_Root),vf_ Ja] [vt_ Jg,vt_ (TY_Root)] (λd=>IY N d.1 d.2.1 d.2.2.1),CX [Zz8,Fh,Z11]⟩
def Z3x:Gd:=GF Z3w func169
def I7:Fn:=⟨f218,λ |4=>cn_ [0,1,5,6,7,14]|5|7|100004=>cn_ [0,1,5,6,7]|6=>cn_ [0,1,5,6,7,27]|_=>[],λN=>Sig.of [vf_ Jv,vf_ Ja] [vf_ Jao] (λd=>B6 N d.1 d.2.1),CX [JS]⟩
def Zrl(l4:List Kb)(c:Int)(a:Bool)(b:Int)(d:List Kb):St:=⟨[(0,vV Jv l4),(1,vI c),(5,vO 0),(6,vB a),(7,vI b)],[(0,.arr Jb d)],1⟩
theorem Zyi{l4 c a K0}(g:K0= λh e f=>K (.exit 0) ((Zrl l4 c a h f).B 14 e))(n b d):qG N l4 c a K0 n b d=LM I7 N 0 100004 n (Zrl l4 c a b d) K:=by subst g;induction n generalizing b d;kernel_rfl;rw[qG];simp only[*];kernel_rfl
theorem Z5d(l1:List Kb)(aP:Int):DN I7 N (l1,aP,())=B6 N l1 aP:=by
 conv=>rhs;rw[B6];simp(disch:=exact id (by kernel_rfl)) only[Zyi (R:=Unit×Kak) N (CF I7 N [1,1,1,0,1,0])]
 kernel_rfl
def Z5e:Gd:=GF I7 func218 (λN d=>Z5d N d.1 d.2.1)
def Z8f:Fn:=⟨f171,Ww,λN=>Sig.of [.v (.prod Ja (.prod Ja (.prod Jy (.prod Jan (.prod Jv (.prod (.own (TY_Root)) (.own Jac))))))) true,vt_ (TY_Root),vf_ Ja] [vt_ Jg,vt_ Ju] (λd=>RE N d.1 d.2.1 d.2.2.1),CX [Z5e,Zws]⟩
def Z8g:Gd:=GF Z8f func171
def Z8h:Fn:=⟨f132,Ww,λN=>Sig.of [vt_ Jg,vt_ Jw,vf_ Ja] [vt_ Jg] (λd=>FK N d.1 d.2.1 d.2.2.1),CX [d7,Fh,Z7k,Pw,Z8c,Z3t,Zq2,Z3x,Ro,Z8g]⟩
def Z8i:Gd:=GF Z8h func132
def I8:Fn:=⟨f174,λ |2=>cn_ [1,2,4,5,10]|3|100002=>cn_ [1,2,4,5]|4=>cn_ [1,2,4,5,20]|5=>cn_ [4]|_=>[],λN=>Sig.of [vt_ (TY_Family),vf_ Ja] [vt_ Jb] (λd=>yt N d.1 d.2.1),W3⟩
def Zrm(b c:Int)(a:Y_Family):St:=⟨[(1,vI b),(2,vP 0 0),(4,vP 1 0),(5,vI c)],[(0,.box (split (TY_Family) a)),(1,.box [.val Ja (0:Int),.val Ja (0:Int),.val Ja (0:Int)])],2⟩
def Zw6(b:Int)(a:Y_Family)(b9:Int×Int×Int):St:=⟨[(4,vP 0 0)],[(0,.box [.val Ja b9.1,.val Ja b9.2.1,.val Ja b9.2.2])],1⟩
theorem Zyj{b a K0 K1}(f:K0= λb9=>K .ret (Zw6 b a b9))(g:K1= λe d=>K (.exit 0) ((Zrm b e a).B 10 d))(n c):xd N b a K0 K1 n c=LM I8 N 0 100002 n (Zrm b c a) K:=by subst f g;induction n generalizing c;kernel_rfl;rw[xd];simp only[*];kernel_rfl
theorem Z5f(f1:Y_Family)(cH:Int):DN I8 N (f1,cH,())=yt N f1 cH:=by
 conv=>rhs;rw[yt];simp(disch:=exact id (by kernel_rfl)) only[Zyj (R:=Unit×(Kb×Unit)) N (CF I8 N [1,0,1,0])]
 kernel_rfl
def Zvd:Gd:=GN I8 func174 (λN d=>Z5f N d.1 d.2.1)
def Zwf:Fn:=⟨f175,Ww,λN=>Sig.of [.kv Jq true,vt_ (TY_KidRun)] [.v (.prod Ja (.prod Ja (.prod Ja (.prod Ja (.prod Ja (.prod Ja (.prod Jd (.prod Jao (.prod Jc (.prod (.own Jaj) (.prod Jag Jp))))))))))) true] (λd=>E4 N d.1 d.2.1),CX [oz]⟩
def Zp1:Gd:=GF Zwf func175
def Zw7:Fn:=⟨f220,Ww,λN=>Sig.of [.kv Jy true,vt_ Jq,vt_ (TY_KidRun),vt_ Jp] [vt_ Jq,vt_ (TY_KidRun)] (λd=>Iw N d.1 d.2.1 d.2.2.1 d.2.2.2.1),CX [RN,oz,Zvd,Zp1,Zuk]⟩
def Zw8:Gd:=GF Zw7 func220
def Zz9:Fn:=⟨f172,Ww,λN=>Sig.of [.kv Jy true,vt_ Jq,vt_ (TY_KidRun),vf_ Jh] [vt_ Jq,vt_ (TY_KidRun)] (λd=>IJ N d.1 d.2.1 d.2.2.1 d.2.2.2.1),CX [Zw8,oz,Zyf,Z0g]⟩
def Z0a:Gd:=GF Zz9 func172
def KT:Fn:=⟨f222,λ |4=>cn_ [0,3,5,6,7,12]|5|8|10|100004=>cn_ [0,3,5,6,7]|6=>cn_ [0,3,5,6,7,26]|7=>cn_ [0,3,5,7]|9=>cn_ [0,3,5,6,7,38]|_=>[],λN=>Sig.of [vf_ Jv,vt_ Jb] [vf_ Jao] (λd=>CA N d.1 d.2.1),W3⟩
def Ztn(l3:List Kb)(a:Bool)(b:Int)(b6:Int×Int×Int)(c:List Kb):St:=⟨[(0,vV Jv l3),(3,vP 0 0),(5,vO 1),(6,vB a),(7,vI b)],[(0,.box [.val Ja b6.1,.val Ja b6.2.1,.val Ja b6.2.2]),(1,.arr Jb c)],2⟩
theorem Z12{l3 b6 K0}(f:K0= λh g d e=>K (.exit 0) ((Ztn l3 h g b6 e).B 12 d))(n a b c):hV N l3 b6 K0 n a b c=LM KT N 0 100004 n (Ztn l3 a b b6 c) K:=by subst f;induction n generalizing a b c;kernel_rfl;rw[hV];simp only[*];kernel_rfl
theorem PE(l1:List Kb)(e2:Int×Int×Int):DN KT N (l1,e2,())=CA N l1 e2:=by
 conv=>rhs;rw[CA];simp(disch:=exact id (by kernel_rfl)) only[Z12 (R:=Unit×Kak) N (CF KT N [1,1,1,0,1,0])]
 kernel_rfl
def PF:Gd:=GN KT func222 (λN d=>PE N d.1 d.2.1)
def Bv:Fn:=⟨f173,λ |4=>cn_ [2,3,4,6,7,8,9,21]|5|6=>cn_ [2,3,4,6,7,8,9]|9=>cn_ [2,3,4,6,7,10,50]|10|12|100009=>cn_ [2,3,4,6,7,10]|11=>cn_ [2,3,4,6,7,10,59]|100004=>[.freezeC 3 6,.canon [2,3,4,6,7,8,9]]|_=>[],λN=>Sig.of [vt_ Jq,vt_ (TY_KidRun),vf_ Ja] [.v (.prod Ja (.prod Ja (.prod Ja (.prod Jag (.prod Jl (.prod Jm (.prod Jv (.prod Jd (.prod Jc (.own (TY_KidRun))))))))))) true,.v (.prod Ja (.prod Ja (.prod Ja (.prod Ja (.prod Ja (.prod Ja (.prod Jl (.prod Jv (.prod Jm (.prod (.own Jaj) (.prod Jag Jp))))))))))) true] (λd=>Bx N d.1 d.2.1 d.2.2.1),CX [LL,PF,oz]⟩
def Zrn(j i b7 b8 b9:Int)(az:Bool)(a:List Int)(d:List Kc)(c:List Kb)(e:List Int)(b:List Kc)(f:Y_KidRun)(g:List Kc)(h:List Y_KidRun):St:=⟨[(2,vI j),(3,vP 0 0),(4,vP 1 0),(6,vP 2 0),(7,vP 3 0),(8,vO 4),(9,vI i)],[(0,.box [.val Ja b7,.val Ja b8,.val Ja b9,.val Jag az,.val Jl a,.val Jm d,.val Jv c,.val Jl e,.val Jm b,.own 5]),(1,.box (split (TY_KidRun) f)),(2,.box [.val Ja (0:Int),.val Ja (0:Int),.val Ja (0:Int),.val Jag false,.nils,.nils,.nils,.nils,.nils,.nils]),(3,.box [.val Ja (0:Int),.val Ja (0:Int),.val Ja (0:Int),.val Ja (0:Int),.val Ja (0:Int),.val Ja (0:Int),.nils,.nils,.nils,.nils,.val Jag false,.val Ja (0:Int),.val Ja (0:Int),.val Ja (0:Int),.val Ja (0:Int)]),(4,.arr Jz g),(5,.arr (TY_KidRun) h)],6⟩
theorem Zyk{j b7 b8 b9 az a d e b f g h K0}(k:K0= λo m l=>K (.exit 0) ((Zrn j o b7 b8 b9 az a d l e b f g h).B 21 m))(n i c):xe N j b7 b8 b9 az a d e b f g h K0 n i c=LM Bv N 0 100004 n (Zrn j i b7 b8 b9 az a d c e b f g h) K:=by subst k;induction n generalizing i c;kernel_rfl;rw[xe];simp only[*];kernel_rfl
def Zro(m i d a c:Int)(e:Bool)(f:List Int)(g:List Kc)(j:List Kb)(h:List Int)(b:Y_KidRun)(k:List Kc)(l:List Y_KidRun):St:=⟨[(2,vI m),(3,vP 0 0),(4,vP 1 0),(6,vP 2 0),(7,vP 3 0),(10,vI i)],[(0,.box [.val Ja d,.val Ja a,.val Ja c,.val Jag e,.val Jl f,.val Jm g,.val Jv j,.val Jl h,.own 4,.own 5]),(1,.box (split (TY_KidRun) b)),(2,.box [.val Ja (0:Int),.val Ja (0:Int),.val Ja (0:Int),.val Jag false,.nils,.nils,.nils,.nils,.nils,.nils]),(3,.box [.val Ja (0:Int),.val Ja (0:Int),.val Ja (0:Int),.val Ja (0:Int),.val Ja (0:Int),.val Ja (0:Int),.nils,.nils,.nils,.nils,.val Jag false,.val Ja (0:Int),.val Ja (0:Int),.val Ja (0:Int),.val Ja (0:Int)]),(4,.arr Jz k),(5,.arr (TY_KidRun) l)],6⟩
theorem Zyl{m d a c e f g j h b l K0}(q:K0= λo r p=>K (.exit 2) ((Zro m o d a c e f g j h b p l).B 50 r))(n i k):td N m d a c e f g j h b l K0 n i k=LM Bv N 1 100009 n (Zro m i d a c e f g j h b k l) K:=by subst q;induction n generalizing i k;kernel_rfl;rw[td];simp only[*];kernel_rfl
theorem Z5g(f1:Y_Family)(a:Y_KidRun)(k3:Int):DN Bv N (f1,a,k3,())=Bx N f1 a k3:=by
 conv=>rhs;rw[Bx];simp(disch:=exact id (by kernel_rfl)) only[Zyk (R:=Unit×(Y_Family×(Y_KidRun×Unit))) N (CF Bv N [1,1,1,0,1,0]),Zyl (R:=Unit×(Y_Family×(Y_KidRun×Unit))) N (CF Bv N [1,1,1,1,1,0,1,0])]
 kernel_rfl
def Z5h:Gd:=GF Bv func173 (λN d=>Z5g N d.1 d.2.1 d.2.2.1)
def Zw9:Fn:=⟨f133,Ww,λN=>Sig.of [.kv Jy true,vt_ (TY_Family),vf_ (.slice Jh),vf_ Ja] [vt_ (TY_Family)] (λd=>Be N d.1 d.2.1 d.2.2.1 d.2.2.2.1),CX [Z0a,Z5h,Zvd,Zp1]⟩
def Zxa:Gd:=GF Zw9 func133
def PG:Fn:=⟨f104,Ww,λN=>Sig.of [vt_ Jg,vt_ Jo,vt_ Jb] [vt_ Jg] (λd=>u0 N d.1 d.2.1 d.2.2.1),CX [d7,Z8i,Zxa]⟩
def Zwu:Gd:=GF PG func104
def LA:Fn:=⟨f76,λ |5=>cn_ [1,2,3,4,15]|6|7|100005=>cn_ [1,2,3,4]|_=>[],λN=>Sig.of [vt_ Jo] [vt_ Jg] (λd=>zx N d.1),CX [Rp,Z91,Zwu]⟩
def Zve(j:Int)(a:Kf×List Kn×List Kb)(az c g f:Int)(b:List Kb)(e:List Int)(d:List Kb)(i:List Y_Root)(h:List Ko):St:=⟨[(1,vP 0 0),(2,vP 1 0),(3,vP 2 0),(4,vI j)],[(0,.box [.val Jl a.1.1,.val Jl a.1.2.1,.val Ja a.1.2.2,.val Jai a.2.1,.val Jv a.2.2]),(1,.box [.val Ja (0:Int),.val Ja (0:Int),.val Ja (0:Int),.nils,.nils,.val Ja (0:Int),.nils,.nils,.nils]),(2,.box [.val Ja az,.val Ja c,.val Ja g,.own 3,.own 4,.val Ja f,.own 5,.own 6,.own 7]),(3,.arr Jb b),(4,.arr Ja e),(5,.arr Jb d),(6,.arr (TY_Root) i),(7,.arr Jac h)],8⟩
theorem Z5i{e K0}(q:K0= λw k v o u s l r t m p=>K (.exit 0) ((Zve w e v o u s l r t m p).B 15 k))(n j az b g f a d c i h):yK N e K0 n j az b g f a d c i h=LM LA N 0 100005 n (Zve j e az b g f a d c i h) K:=by subst q;induction n generalizing j az b g f a d c i h;kernel_rfl;rw[yK];simp only[*];kernel_rfl
theorem QX(s1:Kf×List Kn×List Kb):DN LA N (s1,())=zx N s1:=by
 conv=>rhs;rw[zx];simp(disch:=exact id (by kernel_rfl)) only[Z5i (R:=Unit×(Y_World×Unit)) N (CF LA N [1,1,1,0,1,0])]
 kernel_rfl
def Z0h:Gd:=GF LA func76 (λN d=>QX N d.1)
def BJ:Fn:=⟨f78,λ |3=>cn_ [1,2,3,4,15]|4|14|100003=>cn_ [1,2,3,4]|5|6|8|10|12=>cn_ [1,2,3,4,5]|7=>cn_ [1,2,3,4,5,27]|9=>cn_ [1,2,3,4,5,35]|11=>cn_ [1,2,3,4,5,43]|13=>cn_ [1,2,3,4,5,53]|16=>cn_ [1,2,3,6,65]|17|19|100016=>cn_ [1,2,3,6]|18=>cn_ [1,2,3,6,75]|_=>[],λN=>Sig.of [vt_ (TY_World)] [vt_ Jak] (λd=>Cx N d.1),CX [d7]⟩
def Zsu(f:Int)(b3:Y_World)(a d c e b:Int):St:=⟨[(1,vP 0 0),(2,vP 1 0),(3,vP 2 0),(4,vI f)],[(0,.box (split (TY_World) b3)),(1,.box [.val Ja (0:Int),.val Ja (0:Int),.val Ja (0:Int),.val Ja (0:Int),.val Ja (0:Int),.val Ja (0:Int),.val Ja (0:Int)]),(2,.box [.val Ja a,.val Ja d,.val Ja c,.val Ja e,.val Ja b,.val Ja (0:Int),.val Ja (Wi b3.2.2.2.2.1)])],3⟩
theorem Z0b{b3 K0}(h:K0= λo m k l i j g=>K (.exit 0) ((Zsu o b3 k l i j g).B 15 m))(n f a d c e b):iO N b3 K0 n f a d c e b=LM BJ N 0 100003 n (Zsu f b3 a d c e b) K:=by subst h;induction n generalizing f a d c e b;kernel_rfl;rw[iO];simp only[*];kernel_rfl
def Zsv(d:Int)(a:Y_World)(b e h f c g:Int):St:=⟨[(1,vP 0 0),(2,vP 1 0),(3,vP 2 0),(6,vI d)],[(0,.box (split (TY_World) a)),(1,.box [.val Ja (0:Int),.val Ja (0:Int),.val Ja (0:Int),.val Ja (0:Int),.val Ja (0:Int),.val Ja (0:Int),.val Ja (0:Int)]),(2,.box [.val Ja b,.val Ja e,.val Ja h,.val Ja f,.val Ja c,.val Ja g,.val Ja (Wi a.2.2.2.2.1)])],3⟩
theorem Z0c{b a e h f c K0}(k:K0= λi j l=>K (.exit 3) ((Zsv i b a e h f c l).B 65 j))(n d g):nq N b a e h f c K0 n d g=LM BJ N 1 100016 n (Zsv d b a e h f c g) K:=by subst k;induction n generalizing d g;kernel_rfl;rw[nq];simp only[*];kernel_rfl
theorem Z8j(w1:Y_World):DN BJ N (w1,())=Cx N w1:=by
 conv=>rhs;rw[Cx];simp(disch:=exact id (by kernel_rfl)) only[Z0b (R:=Unit×(Km×Unit)) N (CF BJ N [1,1,0,1,0]),Z0c (R:=Unit×(Km×Unit)) N (CF BJ N [1,1,1,0,1,0])]
 kernel_rfl
def Z8k:Gd:=GF BJ func78 (λN d=>Z8j N d.1)
def Z3y:Fn:=⟨f77,Ww,λN=>Sig.of [vt_ Jak] [vf_ Jaa] (λd=>IV N d.1),CX [FX]⟩
def Z3z:Gd:=GF Z3y func77
def Z30:Fn:=⟨f79,Ww,λN=>Sig.of [vf_ Ja] [vf_ Jaa] (λd=>Ru N d.1),CX [d7]⟩
def Z31:Gd:=GF Z30 func79
def LB:Fn:=⟨f105,λ |2=>cn_ [1,3,8]|3|100002=>cn_ [1,3]|4=>cn_ [1,3,17]|5=>cn_ [2]|_=>[],λN=>Sig.of [vt_ (TY_World)] [vf_ Jag] (λd=>CQ N d.1),W3⟩
def Zvf(a:Int)(b3:Y_World):St:=⟨[(1,vP 0 0),(3,vI a)],[(0,.box (split (TY_World) b3))],1⟩
theorem Z5j{b3 K0 K1}(b:K0=K .ret ⟨[(2,vB false)],[],0⟩)(c:K1= λd e=>K (.exit 0) ((Zvf d b3).B 8 e))(n a):yI N b3 K0 K1 n a=LM LB N 0 100002 n (Zvf a b3) K:=by subst b c;induction n generalizing a;kernel_rfl;rw[yI];simp only[*];kernel_rfl
theorem QY(w1:Y_World):DN LB N (w1,())=CQ N w1:=by
 conv=>rhs;rw[CQ];simp(disch:=exact id (by kernel_rfl)) only[Z5j (R:=Unit×Ke) N (CF LB N [1,0,1,0])]
 kernel_rfl
def QZ:Gd:=GN LB func105 (λN d=>QY N d.1)
def uF:Fn:=⟨f80,λ |3=>cn_ [1,2,4,5,16]|4|6|7|100005=>cn_ [1,2,4,5,6]|5=>cn_ [1,2,4,5,6,21]|8|10|11|100009=>cn_ [1,2,4,5,6,7]|9=>cn_ [1,2,4,5,6,7,37]|12|100003=>cn_ [1,2,4,5]|_=>[],λN=>Sig.of [vt_ Jo] [vt_ Jg,vf_ Ja] (λd=>CN N d.1),CX [Z0h,QZ,Zwu]⟩
def Zum(j m k:Int)(a:Kf×List Kn×List Kb)(e f g n l d b c:Int)(o:List Kb)(p:List Int)(q:List Kb)(i:List Y_Root)(h:List Ko):St:=⟨[(1,vP 0 0),(2,vP 1 0),(4,vP 2 0),(5,vI j),(6,vI m),(7,vI k)],[(0,.box [.val Jl a.1.1,.val Jl a.1.2.1,.val Ja a.1.2.2,.val Jai a.2.1,.val Jv a.2.2]),(1,.box [.val Ja e,.val Ja f,.val Ja g,.nils,.nils,.val Ja n,.nils,.nils,.nils]),(2,.box [.val Ja l,.val Ja d,.val Ja b,.own 3,.own 4,.val Ja c,.own 5,.own 6,.own 7]),(3,.arr Jb o),(4,.arr Ja p),(5,.arr Jb q),(6,.arr (TY_Root) i),(7,.arr Jac h)],8⟩
theorem Z33{j m d e f g o K0}(w:K0= λt s x v y A u fy B C z=>K (.exit 4) ((Zum j m t d e f g o x v y A u fy B C z).B 37 s))(n k l c a b p q r i h):yB N j m d e f g o K0 n k l c a b p q r i h=LM uF N 2 100009 n (Zum j m k d e f g o l c a b p q r i h) K:=by subst w;induction n generalizing k l c a b p q r i h;kernel_rfl;rw[yB];simp only[*];kernel_rfl
def Zun(p o:Int)(a:Kf×List Kn×List Kb)(m n e l h f i j:Int)(d:List Kb)(g:List Int)(b:List Kb)(c:List Y_Root)(k:List Ko):St:=⟨[(1,vP 0 0),(2,vP 1 0),(4,vP 2 0),(5,vI p),(6,vI o)],[(0,.box [.val Jl a.1.1,.val Jl a.1.2.1,.val Ja a.1.2.2,.val Jai a.2.1,.val Jv a.2.2]),(1,.box [.val Ja m,.val Ja n,.val Ja e,.nils,.nils,.val Ja l,.nils,.nils,.nils]),(2,.box [.val Ja h,.val Ja f,.val Ja i,.own 3,.own 4,.val Ja j,.own 5,.own 6,.own 7]),(3,.arr Jb d),(4,.arr Ja g),(5,.arr Jb b),(6,.arr (TY_Root) c),(7,.arr Jac k)],8⟩
theorem Z34{q a m o e l K0}(z:K0= λv w x y A B C r s t u=>K (.exit 2) ((Zun q v a m o e l x y A B C r s t u).B 21 w))(n p h f i j d g b c k):tH N q a m o e l K0 n p h f i j d g b c k=LM uF N 1 100005 n (Zun q p a m o e l h f i j d g b c k) K:=by subst z;induction n generalizing p h f i j d g b c k with|zero=>kernel_rfl|succ n ih=>rw[tH];simp(disch:=exact id (by kernel_rfl)) only[ih,Z33 N (CL uF N 1 100005 [1,0,0,1,1,0] n K)];kernel_rfl
def Zuo(h:Int)(b4:Kf×List Kn×List Kb)(b9 az b e:Int)(g:List Kb)(a:List Int)(d:List Kb)(c:List Y_Root)(f:List Ko):St:=⟨[(1,vP 0 0),(2,vP 1 0),(4,vP 2 0),(5,vI h)],[(0,.box [.val Jl b4.1.1,.val Jl b4.1.2.1,.val Ja b4.1.2.2,.val Jai b4.2.1,.val Jv b4.2.2]),(1,.box [.val Ja (0:Int),.val Ja (0:Int),.val Ja (0:Int),.nils,.nils,.val Ja (0:Int),.nils,.nils,.nils]),(2,.box [.val Ja b9,.val Ja az,.val Ja b,.own 3,.own 4,.val Ja e,.own 5,.own 6,.own 7]),(3,.arr Jb g),(4,.arr Ja a),(5,.arr Jb d),(6,.arr (TY_Root) c),(7,.arr Jac f)],8⟩
theorem Z35{b4 K0}(i:K0= λj k l m o p q r s t u=>K (.exit 0) ((Zuo j b4 l m o p q r s t u).B 16 k))(n h b9 az b e g a d c f):tI N b4 K0 n h b9 az b e g a d c f=LM uF N 0 100003 n (Zuo h b4 b9 az b e g a d c f) K:=by subst i;induction n generalizing h b9 az b e g a d c f with|zero=>kernel_rfl|succ n ih=>rw[tI];simp(disch:=exact id (by kernel_rfl)) only[ih,Z34 N (CL uF N 0 100003 [1,0,0,1,0] n K)];kernel_rfl
theorem QA(s1:Kf×List Kn×List Kb):DN uF N (s1,())=CN N s1:=by
 conv=>rhs;rw[CN];simp(disch:=exact id (by kernel_rfl)) only[Z35 (R:=Unit×(Y_World×Kk)) N (CF uF N [1,1,1,0,0])]
 kernel_rfl
def QB:Gd:=GF uF func80 (λN d=>QA N d.1)
def Z8l:Fn:=⟨f106,Ww,λN=>Sig.of [vt_ (TY_Root)] [vf_ Jag] (λd=>FD N d.1),W3⟩
def Zv5:Gd:=GN Z8l func106
def Z8m:Fn:=⟨f134,Ww,λN=>Sig.of [vt_ (TY_Root)] [vf_ Ja] (λd=>oH N d.1),CX [Zv5]⟩
def Z8n:Gd:=GF Z8m func134
def Z5k:Fn:=⟨f107,Ww,λN=>Sig.of [vt_ (TY_World),vf_ Ja,vf_ Ja] [vf_ Jag] (λd=>J3 N d.1 d.2.1 d.2.2.1),CX [Z8n]⟩
def Z5l:Gd:=GF Z5k func107
def ui:Fn:=⟨f81,λ |3=>cn_ [1,3,4,14]|4|6|100003=>cn_ [1,3,4]|5=>cn_ [1,3,4,22]|9=>cn_ [1,3,5,6,33]|10|17|100009=>cn_ [1,3,5,6]|11=>cn_ [1,3,5,6,7]|12|14|16|100013=>cn_ [1,3,5,6,7,8]|13=>cn_ [1,3,5,6,7,8,39]|15=>cn_ [1,3,5,6,7,8,56]|_=>[],λN=>Sig.of [vt_ (TY_World)] [vf_ Jd] (λd=>FV N d.1),CX [Zv5,Z5l]⟩
def Zup(a:Int)(b3:Y_World)(l4:List Int):St:=⟨[(1,vP 0 0),(3,vO 1),(4,vI a)],[(0,.box (split (TY_World) b3)),(1,.arr Ja l4)],2⟩
theorem Z36{b3 K0}(b:K0= λc e d=>K (.exit 0) ((Zup c b3 d).B 14 e))(n a l4):tz N b3 K0 n a l4=LM ui N 0 100003 n (Zup a b3 l4) K:=by subst b;induction n generalizing a l4;kernel_rfl;rw[tz];simp only[*];kernel_rfl
def Zuq(c e d:Int)(b:Y_World)(a cp:List Int):St:=⟨[(1,vP 0 0),(3,vO 1),(5,vO 2),(6,vI c),(7,vI e),(8,vI d)],[(0,.box (split (TY_World) b)),(1,.arr Ja a),(2,.arr Ja cp)],3⟩
theorem Z37{c b a cp K0}(g:K0= λi f h=>K (.exit 4) ((Zuq c i f b a cp).B 39 h))(n e d):qR N c b a cp K0 n e d=LM ui N 2 100013 n (Zuq c e d b a cp) K:=by subst g;induction n generalizing e d;kernel_rfl;rw[qR];simp only[*];kernel_rfl
def Zur(d:Int)(c:Y_World)(b a:List Int):St:=⟨[(1,vP 0 0),(3,vO 1),(5,vO 2),(6,vI d)],[(0,.box (split (TY_World) c)),(1,.arr Ja b),(2,.arr Ja a)],3⟩
theorem Z38{c b K0}(g:K0= λh e f=>K (.exit 2) ((Zur h c b f).B 33 e))(n d a):qT N c b K0 n d a=LM ui N 1 100009 n (Zur d c b a) K:=by subst g;induction n generalizing d a with|zero=>kernel_rfl|succ n ih=>rw[qT];simp(disch:=exact id (by kernel_rfl)) only[ih,Z37 N (CL ui N 1 100009 [1,0,0,1,0,1,0] n K)];kernel_rfl
theorem QC(w1:Y_World):DN ui N (w1,())=FV N w1:=by
 conv=>rhs;rw[FV];simp(disch:=exact id (by kernel_rfl)) only[Z36 (R:=Unit×Kah) N (CF ui N [1,1,0,1,0]),Z38 (R:=Unit×Kah) N (CF ui N [1,1,1,1,0,1,0])]
 kernel_rfl
def QD:Gd:=GF ui func81 (λN d=>QC N d.1)
def Lm:Fn:=⟨f82,λ |5=>cn_ [0,3,4,13]|6|10|100005=>cn_ [0,3,4]|7=>cn_ [0,3,4,5,6]|8=>cn_ [0,3,4,5,22]|9=>cn_ [0,3,4,5]|_=>[],λN=>Sig.of [vf_ Jl] [vf_ Jd] (λd=>CK N d.1),CX [Ft,Zv2]⟩
def Zus(l3:List Int)(a:Int)(b:List Int):St:=⟨[(0,vV Jl l3),(3,vO 0),(4,vI a)],[(0,.arr Ja b)],1⟩
theorem Z39{l3 K0}(c:K0= λd f e=>K (.exit 0) ((Zus l3 d e).B 13 f))(n a b):yz N l3 K0 n a b=LM Lm N 0 100005 n (Zus l3 a b) K:=by subst c;induction n generalizing a b;kernel_rfl;rw[yz];simp only[*];kernel_rfl
theorem PT(l1:List Int):DN Lm N (l1,())=CK N l1:=by
 conv=>rhs;rw[CK];simp(disch:=exact id (by kernel_rfl)) only[Z39 (R:=Unit×Kah) N (CF Lm N [1,1,1,0,1,0])]
 kernel_rfl
def PU:Gd:=GF Lm func82 (λN d=>PT N d.1)
def KU:Fn:=⟨f43,λ |18=>cn_ [10,11,12,63]|19|20|100018=>cn_ [10,11,12]|_=>[],λN=>Sig.of [vt_ Jo,vf_ Jaa,vf_ Jl] [vf_ Jaa] (λd=>Zl N d.1 d.2.1 d.2.2.1),CX [Z0h,Z8k,Z3z,d7,Z31,QB,FX,QD,uh,yN,PU]⟩
def Zto(a:List UInt8)(c:Int)(b:List Int):St:=⟨[(10,vO 0),(11,vV Jaa a),(12,vI c)],[(0,.arr Ja b)],1⟩
theorem Z13{b K0}(f:K0= λe d g=>K (.exit 1) ((Zto e d b).B 63 g))(n a c):yo N b K0 n a c=LM KU N 0 100018 n (Zto a c b) K:=by subst f;induction n generalizing a c;kernel_rfl;rw[yo];simp only[*];kernel_rfl
theorem PH(b:Kf×List Kn×List Kb)(a:List UInt8)(n3:List Int):DN KU N (b,a,n3,())=Zl N b a n3:=by
 conv=>rhs;rw[Zl];simp(disch:=exact id (by kernel_rfl)) only[Z13 (R:=Unit×Kt) N (CF KU N [1,1,1,1,1,0,1,0,1,1,1,1,1,0,1,1,0,1,0])]
 kernel_rfl
def PI:Gd:=GF KU func43 (λN d=>PH N d.1 d.2.1 d.2.2.1)
def JZ:Fn:=⟨f22,λ |10=>cn_ [2,4,8,9,10,11,50]|11|15|100010=>cn_ [2,4,8,9,10,11]|12=>cn_ [2,4,8,9,10,11,12,13]|13=>cn_ [2,4,8,9,10,11,12,62]|14=>cn_ [4,5]|_=>[],λN=>Sig.of [vt_ Ji,vf_ Jaa] [vt_ Ji,vf_ Jaa] (λd=>oM N d.1 d.2.1),CX [Z9t,Qp,Ry,Z69,Zvy,Z41,Z9w,Qr,Rp,PI]⟩
def Zsw(h:List UInt8)(g az:Int)(f:List Kg)(e a c:List Int)(b:List Kn)(d:List Kb):St:=⟨[(2,vP 0 0),(4,vP 1 0),(8,vO 2),(9,vV Jaa h),(10,vO 3),(11,vI g)],[(0,.box [.own 4,.own 5,.val Ja az,.own 6,.own 7]),(1,.box [.nils,.nils,.val Ja (0:Int),.nils,.nils]),(2,.arr Jaa f),(3,.arr Ja e),(4,.arr Ja a),(5,.arr Ja c),(6,.arr Jx b),(7,.arr Jb d)],8⟩
def Zym(f:List UInt8)(az:Int)(e:List Kg)(a c:List Int)(b:List Kn)(d:List Kb):St:=⟨[(4,vP 0 0),(5,vV Jaa ([119,104,97,116]:List UInt8))],[(0,.box [.own 1,.own 2,.val Ja az,.own 3,.own 4]),(1,.arr Ja a),(2,.arr Ja c),(3,.arr Jx b),(4,.arr Jb d)],5⟩
theorem Z0d{f az e a c b d K0 K1}(i:K0=K .ret (Zym f az e a c b d))(j:K1= λl k cp=>K (.exit 0) ((Zsw f l az e cp a c b d).B 50 k))(n h g):x6 N f az e a c b d K0 K1 n h g=LM JZ N 0 100010 n (Zsw f h az e g a c b d) K:=by subst i j;induction n generalizing h g;kernel_rfl;rw[x6];simp only[*];kernel_rfl
theorem Z8o(a:Kf×List Kn×List Kb)(j9:List UInt8):DN JZ N (a,j9,())=oM N a j9:=by
 conv=>rhs;rw[oM];simp(disch:=exact id (by kernel_rfl)) only[Z0d (R:=Unit×(Kad×Kt)) N (CF JZ N [1,1,1,1,1,1,1,0,1,0])]
 kernel_rfl
def Z8p:Gd:=GF JZ func22 (λN d=>Z8o N d.1 d.2.1)
def LC:Fn:=⟨f7,λ |11=>cn_ [3,4,5,6,41]|12|16=>cn_ [3,4,5,6]|13=>cn_ [3,4,5,6,48]|14=>cn_ [3,4,5,6,7,8]|15=>cn_ [3,4,5,6,8]|100011=>[.adoptC 4 3 Jx,.adoptC 4 4 Jb,.canon [3,4,5,6]]|_=>[],λN=>Sig.of [vf_ Jaa] [vf_ Jaa] (λd=>CT N d.1),CX [Ry,Z8p]⟩
def Zvg(a:List UInt8)(c:Int)(d:List Kg)(b6:Int)(e f:List Int)(g:List Kn)(b:List Kb):St:=⟨[(3,vO 0),(4,vP 1 0),(5,vV Jaa a),(6,vI c)],[(0,.arr Jaa d),(1,.box [.own 2,.own 3,.val Ja b6,.own 4,.own 5]),(2,.arr Ja e),(3,.arr Ja f),(4,.arr Jx g),(5,.arr Jb b)],6⟩
theorem Z5m{d K0}(p:K0= λq m l k i h j o=>K (.exit 0) ((Zvg q m d k i h j o).B 41 l))(n a c b6 e f g b):oC N d K0 n a c b6 e f g b=LM LC N 0 100011 n (Zvg a c d b6 e f g b) K:=by subst p;induction n generalizing a c b6 e f g b;kernel_rfl;rw[oC];simp only[*];kernel_rfl
theorem Ra(s1:List UInt8):DN LC N (s1,())=CT N s1:=by
 conv=>rhs;rw[CT];simp(disch:=exact id (by kernel_rfl)) only[Z5m (R:=Unit×Kt) N (CF LC N [1,1,1,1,1,1,1,0,1,0])]
 kernel_rfl
def Rb:Gd:=GF LC func7 (λN d=>Ra N d.1)
def QF:Fn:=⟨f8,Ww,λN=>Sig.of [vf_ Jab,vf_ Ja] [vf_ Ja] (λd=>LQ N d.1 d.2.1),W3⟩
def QG:Gd:=GN QF func8
def PJ:Fn:=⟨f9,Ww,λN=>Sig.of [vf_ Jaa,vf_ Jaa] [vf_ Jag] (λd=>zk N d.1 d.2.1),W3⟩
def PK:Gd:=GN PJ func9
def Ci:Fn:=⟨f3,λ |13=>cn_ [3,4,5,6,7,8,9,10,30]|14|16|19|21|100013=>cn_ [3,4,5,6,7,8,9,10]|15=>cn_ [3,4,5,6,7,8,9,10,53]|17=>cn_ [3,4,5,6,7,8,10,58]|18=>cn_ [3,4,5,6,7,8,10]|20=>cn_ [3,4,5,6,7,8,9,10,71]|26=>cn_ [3,4,5,7,11,12,86]|27|29|100026=>cn_ [3,4,5,7,11,12]|28=>cn_ [3,4,5,7,11,12,92]|_=>[],λN=>Sig.of [vf_ Jab] [vf_ Jag] (λd=>Zjq N d.1),CX [Re,Z4f,QQ,Rb,QG,PK]⟩
def Ztp(h e:List UInt8)(f b a g c d:Int):St:=⟨[(3,vV Jaa h),(4,vV Jaa e),(5,vI f),(6,vI b),(7,vI a),(8,vI g),(9,vI c),(10,vI d)],[],0⟩
theorem Z14{h e g K0}(j:K0= λp k l m i o=>K (.exit 0) ((Ztp h e p k l g m i).B 30 o))(n f b a c d):Zr N h e g K0 n f b a c d=LM Ci N 0 100013 n (Ztp h e f b a g c d) K:=by subst j;induction n generalizing f b a c d;kernel_rfl;rw[Zr];simp only[*];kernel_rfl
def Ztq(e a:List UInt8)(c b f d:Int):St:=⟨[(3,vV Jaa e),(4,vV Jaa a),(5,vI c),(7,vI b),(11,vI f),(12,vI d)],[],0⟩
theorem Z15{e a c b K0}(i:K0= λg h j=>K (.exit 2) ((Ztq e a c b g h).B 86 j))(n f d):ov N e a c b K0 n f d=LM Ci N 1 100026 n (Ztq e a c b f d) K:=by subst i;induction n generalizing f d;kernel_rfl;rw[ov];simp only[*];kernel_rfl
theorem PL(ae:List Int):DN Ci N (ae,())=Zjq N ae:=by
 conv=>rhs;rw[Zjq];simp(disch:=exact id (by kernel_rfl)) only[Z14 (R:=Unit×Ke) N (CF Ci N [1,1,1,1,1,1,1,1,1,1,0,1,0]),Z15 (R:=Unit×Ke) N (CF Ci N [1,1,1,1,1,1,1,1,1,1,1,1,1,0,1,0])]
 kernel_rfl
set_option maxRecDepth 100000 in def Zaas:Gd:=GF Ci func3 (λ N d=>PL N d.1)
end
end Go.Sx
