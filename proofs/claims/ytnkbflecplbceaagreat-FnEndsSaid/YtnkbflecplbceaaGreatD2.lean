/- Each Go function does what its Lean function says. -/
import Derived.Test.YtnkbflecplbceaaGreatD
open List renaming getD→Xd
open Int renaming toNat→Xb
namespace Go.Sx
noncomputable section
open Go.Proofs
set_option linter.unusedVariables false
set_option linter.unusedSimpArgs false
theorem Zx9(N:Nat){R:Type}(K:Ex→St→Option R){t5:List Kb}{b8:Ke×List Kk×List Kb}{K0:Int→Bool→Int→Int→Int→Int→Km→Ki→Km→(List Y_Root)→(List Kl)→Option R}(h0:K0= λt24 t25 b26 b27 b28 b29 l30 l31 l32 l33 l34=>K (.exit 0) (Zxj t5 b8 t24 t25 b26 b27 b28 b29 l30 l31 l32 l33 l34))(n:Nat)(t7:Int)(b13:Int)(b14:Int)(b15:Int)(b16:Int)(l17:List Kb)(l18:List Int)(l19:List Kb)(l20:List Y_Root)(l21:List Kl):Zbm N t5 b8 K0 n t7 b13 b14 b15 b16 l17 l18 l19 l20 l21=LM Zm7 N 0 100006 n (Zx8 t5 t7 b8 b13 b14 b15 b16 l17 l18 l19 l20 l21) K:=by
  subst h0
  induction n generalizing t7 b13 b14 b15 b16 l17 l18 l19 l20 l21 with
  |zero=>kernel_rfl
  |succ n ih=>rw[Zbm];simp only[ih];kernel_rfl
theorem Z1z(N:Nat)(s1:Ke×List Kk×List Kb):DN Zm7 N (s1,())=Zkw N s1:=by
  conv=>rhs;rw[Zkw];simp(disch:=exact id (by kernel_rfl)) only[Zx9 (R:=Unit×(Y_World×Unit)) N (CF Zm7 N [1,1,1,1,0,1,0])]
  kernel_rfl
theorem Z10(N:Nat):GW 18 (Zpb N):=GF Zm7 N Tryz.func18 (GC (Zpe N) (GC (Zwv N) (GC (Z0a N) (GC (Zo3 N) Wa)))) (λd=>Z1z N d.1)
def Zod(N:Nat):Sig:=Sig.of [.v (TY_Root) true] [.v Jq false] (λd=>Zo4 N d.1)
def Z0l:Fn:=⟨Tryz.f38,Ws,Zod,Wde⟩
theorem Z0m(N:Nat):GW 38 (Zod N):=GF Z0l N Tryz.func38 Wa
def Zbb(N:Nat):Sig:=Sig.of [.v Js false,.clos 38 0] [.v Ja false] (λd=>Z5 N d.1)
def Zak:Fn:=⟨Tryz.f75,λ |2=>[.canon [0,1,7,8,9]]|3=>[.canon [0,1,5,7,8]]|4=>[.canon [0,1,5,7,8,16]]|5=>[.canon [1,4]]|6=>[.canon [0,1,7,8]]|100002=>[.canon [0,1,7,8]]|_=>[],Zbb,λN=>[(38,Zod N)]⟩
def Zfo(s2:List Y_Root)(t4:Int):St:=⟨[(0,vV Js s2),(1,.s (.one (.clos 38 []))),(7,vI (ilen s2)),(8,vI t4)],[],0⟩
def Ze8(s2:List Y_Root)(t7:Int):St:=⟨[(1,.s (.one (.clos 38 []))),(4,vI t7)],[],0⟩
def Ze9(s2:List Y_Root)(t8:Int)(t9:Bool):St:=⟨[(0,vV Js s2),(1,.s (.one (.clos 38 []))),(7,vI (ilen s2)),(8,vI t8),(9,vB t9)],[],0⟩
theorem Zfp(N:Nat){R:Type}(K:Ex→St→Option R){s2:List Y_Root}{K0:Int→Option R}{K1:Int→Bool→Option R}(h0:K0= λt7=>K .ret (Ze8 s2 t7))(h1:K1= λt8 t9=>K (.exit 0) (Ze9 s2 t8 t9))(n:Nat)(t4:Int):Zm N s2 K0 K1 n t4=LM Zak N 0 100002 n (Zfo s2 t4) K:=by
  subst h0 h1
  induction n generalizing t4 with
  |zero=>kernel_rfl
  |succ n ih=>rw[Zm];simp only[ih];kernel_rfl
theorem Zgp(N:Nat)(s1:List Y_Root):DN Zak N (s1,())=Z5 N s1:=by
  conv=>rhs;rw[Z5];simp(disch:=exact id (by kernel_rfl)) only[Zfp (R:=Unit×Kh) N (CF Zak N [1,0,1,0])]
  kernel_rfl
theorem Zgq(N:Nat):GW 75 (Zbb N):=GF Zak N Tryz.func75 (GC (Z0m N) Wa) (λd=>Zgp N d.1)
def Za1(N:Nat):Sig:=Sig.of [.v Js false,.clos 38 0] [.v Jq false] (λd=>Za8 N d.1)
def Zf1:Fn:=⟨Tryz.f37,Ws,Za1,λN=>[(75,Zbb N)]⟩
theorem Zf2(N:Nat):GW 37 (Za1 N):=GF Zf1 N Tryz.func37 (GC (Zgq N) Wa)
def Zm8(N:Nat):Sig:=Sig.of [.v (TY_World) true] [.v Jq false] (λd=>Zmx N d.1)
def Z11:Fn:=⟨Tryz.f13,Ws,Zm8,λN=>[(37,Za1 N)]⟩
theorem Zub(N:Nat):GW 13 (Zm8 N):=GF Z11 N Tryz.func13 (GC (Zf2 N) Wa)
def Zmq(N:Nat):Sig:=Sig.of [.v Jag true] [.v (TY_World) true,.v Ja false] (λd=>Zdm N d.1)
def Zcn:Fn:=⟨Tryz.f11,λ |5=>[.canon [1,2,4,5,21]]|6=>[.canon [1,2,4,5]]|7=>[.canon [1,2,4,5,25,26,27]]|8=>[.canon [1,2,4,5,25,26,27,28]]|9=>[.canon [1,2,4,5,6,7,25,26,27]]|10=>[.canon [1,2,4,5,6,7,25,26,27]]|11=>[.canon [1,2,4,5,6,25,26,27,38,39]]|12=>[.canon [1,2,4,5,6,25,26,27,38,39,40]]|13=>[.canon [1,2,4,5,6,8,25,26,27,38,39]]|14=>[.canon [1,2,4,5,6,25,26,27,38,39]]|15=>[.canon [1,2,4,5,6,25,26,27,38,39]]|16=>[.canon [1,2,4,5,25,26,27]]|100005=>[.canon [1,2,4,5]]|100008=>[.canon [1,2,4,5,25,26,27]]|100012=>[.canon [1,2,4,5,6,25,26,27,38,39]]|_=>[],Zmq,λN=>[(35,Zjf N),(18,Zpb N),(13,Zm8 N),(36,Zi8 N)]⟩
def Zr8(rounds39:Int)(k40:Int)(t41:List Kk)(t42:Int)(t45:Int)(b46:Ke×List Kk×List Kb)(b47:Int)(b48:Int)(b49:Int)(b50:Int)(b51:Int)(b52:Int)(b53:Int)(b54:Int)(l55:List Kb)(l56:List Int)(l57:List Kb)(l58:List Y_Root)(l59:List Kl):St:=⟨[(1,vP 0 0),(2,vP 1 0),(4,vP 2 0),(5,vI rounds39),(6,vI k40),(25,vV Jab t41),(26,vI t42),(27,vI k40),(38,vI (ilen (Xd t41 (Xb k40) (([]:List Ka),([]:List Kq))).2)),(39,vI t45)],[(0,.box [.val Jj b46.1.1,.val Jj b46.1.2.1,.val Ja b46.1.2.2,.val Jab b46.2.1,.val Je b46.2.2]),(1,.box [.val Ja b47,.val Ja b48,.val Ja b49,.nils,.nils,.val Ja b50,.nils,.nils,.nils]),(2,.box [.val Ja b51,.val Ja b52,.val Ja b53,.own 3,.own 4,.val Ja b54,.own 5,.own 6,.own 7]),(3,.arr Jl l55),(4,.arr Ja l56),(5,.arr Jl l57),(6,.arr Jac l58),(7,.arr Jg l59)],8⟩
def Zqy(rounds39:Int)(k40:Int)(t41:List Kk)(t42:Int)(b46:Ke×List Kk×List Kb)(b47:Int)(b48:Int)(b49:Int)(b50:Int)(t62:Int)(t63:Bool)(b64:Int)(b65:Int)(b66:Int)(b67:Int)(l68:List Kb)(l69:List Int)(l70:List Kb)(l71:List Y_Root)(l72:List Kl):St:=⟨[(1,vP 0 0),(2,vP 1 0),(4,vP 2 0),(5,vI rounds39),(6,vI k40),(25,vV Jab t41),(26,vI t42),(27,vI k40),(38,vI (ilen (Xd t41 (Xb k40) (([]:List Ka),([]:List Kq))).2)),(39,vI t62),(40,vB t63)],[(0,.box [.val Jj b46.1.1,.val Jj b46.1.2.1,.val Ja b46.1.2.2,.val Jab b46.2.1,.val Je b46.2.2]),(1,.box [.val Ja b47,.val Ja b48,.val Ja b49,.nils,.nils,.val Ja b50,.nils,.nils,.nils]),(2,.box [.val Ja b64,.val Ja b65,.val Ja b66,.own 3,.own 4,.val Ja b67,.own 5,.own 6,.own 7]),(3,.arr Jl l68),(4,.arr Ja l69),(5,.arr Jl l70),(6,.arr Jac l71),(7,.arr Jg l72)],8⟩
theorem Zr9(N:Nat){R:Type}(K:Ex→St→Option R){rounds39:Int}{k40:Int}{t41:List Kk}{t42:Int}{b46:Ke×List Kk×List Kb}{b47:Int}{b48:Int}{b49:Int}{b50:Int}{K0:Int→Bool→Int→Int→Int→Int→Km→Ki→Km→(List Y_Root)→(List Kl)→Option R}(h0:K0= λt62 t63 b64 b65 b66 b67 l68 l69 l70 l71 l72=>K (.exit 4) (Zqy rounds39 k40 t41 t42 b46 b47 b48 b49 b50 t62 t63 b64 b65 b66 b67 l68 l69 l70 l71 l72))(n:Nat)(t45:Int)(b51:Int)(b52:Int)(b53:Int)(b54:Int)(l55:List Kb)(l56:List Int)(l57:List Kb)(l58:List Y_Root)(l59:List Kl):Zcr N rounds39 k40 t41 t42 b46 b47 b48 b49 b50 K0 n t45 b51 b52 b53 b54 l55 l56 l57 l58 l59=LM Zcn N 2 100012 n (Zr8 rounds39 k40 t41 t42 t45 b46 b47 b48 b49 b50 b51 b52 b53 b54 l55 l56 l57 l58 l59) K:=by
  subst h0
  induction n generalizing t45 b51 b52 b53 b54 l55 l56 l57 l58 l59 with
  |zero=>kernel_rfl
  |succ n ih=>rw[Zcr];simp only[ih];kernel_rfl
def Zsa(rounds20:Int)(t21:List Kk)(t23:Int)(b24:Ke×List Kk×List Kb)(b25:Int)(b26:Int)(b27:Int)(b28:Int)(b29:Int)(b30:Int)(b31:Int)(b32:Int)(l33:List Kb)(l34:List Int)(l35:List Kb)(l36:List Y_Root)(l37:List Kl):St:=⟨[(1,vP 0 0),(2,vP 1 0),(4,vP 2 0),(5,vI rounds20),(25,vV Jab t21),(26,vI (ilen b24.2.1)),(27,vI t23)],[(0,.box [.val Jj b24.1.1,.val Jj b24.1.2.1,.val Ja b24.1.2.2,.val Jab b24.2.1,.val Je b24.2.2]),(1,.box [.val Ja b25,.val Ja b26,.val Ja b27,.nils,.nils,.val Ja b28,.nils,.nils,.nils]),(2,.box [.val Ja b29,.val Ja b30,.val Ja b31,.own 3,.own 4,.val Ja b32,.own 5,.own 6,.own 7]),(3,.arr Jl l33),(4,.arr Ja l34),(5,.arr Jl l35),(6,.arr Jac l36),(7,.arr Jg l37)],8⟩
def Zqz(rounds20:Int)(t21:List Kk)(b24:Ke×List Kk×List Kb)(b25:Int)(b26:Int)(b27:Int)(b28:Int)(t97:Int)(t98:Bool)(b99:Int)(b100:Int)(b101:Int)(b102:Int)(l103:List Kb)(l104:List Int)(l105:List Kb)(l106:List Y_Root)(l107:List Kl):St:=⟨[(1,vP 0 0),(2,vP 1 0),(4,vP 2 0),(5,vI rounds20),(25,vV Jab t21),(26,vI (ilen b24.2.1)),(27,vI t97),(28,vB t98)],[(0,.box [.val Jj b24.1.1,.val Jj b24.1.2.1,.val Ja b24.1.2.2,.val Jab b24.2.1,.val Je b24.2.2]),(1,.box [.val Ja b25,.val Ja b26,.val Ja b27,.nils,.nils,.val Ja b28,.nils,.nils,.nils]),(2,.box [.val Ja b99,.val Ja b100,.val Ja b101,.own 3,.own 4,.val Ja b102,.own 5,.own 6,.own 7]),(3,.arr Jl l103),(4,.arr Ja l104),(5,.arr Jl l105),(6,.arr Jac l106),(7,.arr Jg l107)],8⟩
theorem Zsb(N:Nat){R:Type}(K:Ex→St→Option R){rounds20:Int}{t21:List Kk}{b24:Ke×List Kk×List Kb}{b25:Int}{b26:Int}{b27:Int}{b28:Int}{K0:Int→Bool→Int→Int→Int→Int→Km→Ki→Km→(List Y_Root)→(List Kl)→Option R}(h0:K0= λt97 t98 b99 b100 b101 b102 l103 l104 l105 l106 l107=>K (.exit 2) (Zqz rounds20 t21 b24 b25 b26 b27 b28 t97 t98 b99 b100 b101 b102 l103 l104 l105 l106 l107))(n:Nat)(t23:Int)(b29:Int)(b30:Int)(b31:Int)(b32:Int)(l33:List Kb)(l34:List Int)(l35:List Kb)(l36:List Y_Root)(l37:List Kl):Zb4 N rounds20 t21 b24 b25 b26 b27 b28 K0 n t23 b29 b30 b31 b32 l33 l34 l35 l36 l37=LM Zcn N 1 100008 n (Zsa rounds20 t21 t23 b24 b25 b26 b27 b28 b29 b30 b31 b32 l33 l34 l35 l36 l37) K:=by
  subst h0
  induction n generalizing t23 b29 b30 b31 b32 l33 l34 l35 l36 l37 with
  |zero=>kernel_rfl
  |succ n ih=>rw[Zb4];simp(disch:=exact id (by kernel_rfl)) only[ih,Zr9 N (CL Zcn N 1 100008 [1,1,0,0,1,1,1,0] n K)];kernel_rfl
def Zsc(rounds4:Int)(b5:Ke×List Kk×List Kb)(b10:Int)(b11:Int)(b12:Int)(b13:Int)(l14:List Kb)(l15:List Int)(l16:List Kb)(l17:List Y_Root)(l18:List Kl):St:=⟨[(1,vP 0 0),(2,vP 1 0),(4,vP 2 0),(5,vI rounds4)],[(0,.box [.val Jj b5.1.1,.val Jj b5.1.2.1,.val Ja b5.1.2.2,.val Jab b5.2.1,.val Je b5.2.2]),(1,.box [.val Ja (0:Int),.val Ja (0:Int),.val Ja (0:Int),.nils,.nils,.val Ja (0:Int),.nils,.nils,.nils]),(2,.box [.val Ja b10,.val Ja b11,.val Ja b12,.own 3,.own 4,.val Ja b13,.own 5,.own 6,.own 7]),(3,.arr Jl l14),(4,.arr Ja l15),(5,.arr Jl l16),(6,.arr Jac l17),(7,.arr Jg l18)],8⟩
def Zq0(b5:Ke×List Kk×List Kb)(rounds143:Int)(t144:Bool)(b145:Int)(b146:Int)(b147:Int)(b148:Int)(l149:List Kb)(l150:List Int)(l151:List Kb)(l152:List Y_Root)(l153:List Kl):St:=⟨[(1,vP 0 0),(2,vP 1 0),(4,vP 2 0),(5,vI rounds143),(21,vB t144)],[(0,.box [.val Jj b5.1.1,.val Jj b5.1.2.1,.val Ja b5.1.2.2,.val Jab b5.2.1,.val Je b5.2.2]),(1,.box [.val Ja (0:Int),.val Ja (0:Int),.val Ja (0:Int),.nils,.nils,.val Ja (0:Int),.nils,.nils,.nils]),(2,.box [.val Ja b145,.val Ja b146,.val Ja b147,.own 3,.own 4,.val Ja b148,.own 5,.own 6,.own 7]),(3,.arr Jl l149),(4,.arr Ja l150),(5,.arr Jl l151),(6,.arr Jac l152),(7,.arr Jg l153)],8⟩
theorem Zsd(N:Nat){R:Type}(K:Ex→St→Option R){b5:Ke×List Kk×List Kb}{K0:Int→Bool→Int→Int→Int→Int→Km→Ki→Km→(List Y_Root)→(List Kl)→Option R}(h0:K0= λrounds143 t144 b145 b146 b147 b148 l149 l150 l151 l152 l153=>K (.exit 0) (Zq0 b5 rounds143 t144 b145 b146 b147 b148 l149 l150 l151 l152 l153))(n:Nat)(rounds4:Int)(b10:Int)(b11:Int)(b12:Int)(b13:Int)(l14:List Kb)(l15:List Int)(l16:List Kb)(l17:List Y_Root)(l18:List Kl):Zb5 N b5 K0 n rounds4 b10 b11 b12 b13 l14 l15 l16 l17 l18=LM Zcn N 0 100005 n (Zsc rounds4 b5 b10 b11 b12 b13 l14 l15 l16 l17 l18) K:=by
  subst h0
  induction n generalizing rounds4 b10 b11 b12 b13 l14 l15 l16 l17 l18 with
  |zero=>kernel_rfl
  |succ n ih=>rw[Zb5];simp(disch:=exact id (by kernel_rfl)) only[ih,Zsb N (CL Zcn N 0 100005 [1,0,1,1,0] n K)];kernel_rfl
theorem Zya(N:Nat)(s1:Ke×List Kk×List Kb):DN Zcn N (s1,())=Zdm N s1:=by
  conv=>rhs;rw[Zdm];simp(disch:=exact id (by kernel_rfl)) only[Zsd (R:=Unit×(Y_World×Kh)) N (CF Zcn N [1,1,1,1,0,0])]
  kernel_rfl
theorem Zyb(N:Nat):GW 11 (Zmq N):=GF Zcn N Tryz.func11 (GC (Zpe N) (GC (Z10 N) (GC (Zub N) (GC (Zo3 N) Wa)))) (λd=>Zya N d.1)
def Zf4(N:Nat):Sig:=Sig.of [.v Ja false,.v Ja false,.v Ja false] [.v Jq false] (λd=>Zbf N d.1 d.2.1 d.2.2.1)
def Z12:Fn:=⟨Tryz.f60,Ws,Zf4,Wde⟩
theorem Ziq(N:Nat):GW 60 (Zf4 N):=GF Z12 N Tryz.func60 Wa
def Zhu(N:Nat):Sig:=Sig.of [.v Ja false] [.v Jq false] (λd=>Zgx N d.1)
def Z1k:Fn:=⟨Tryz.f59,Ws,Zhu,λN=>[(60,Zf4 N)]⟩
theorem Zmi(N:Nat):GW 59 (Zhu N):=GF Z1k N Tryz.func59 (GC (Ziq N) Wa)
def Zoe(N:Nat):Sig:=Sig.of [.v Jj false] [.v Jq false] (λd=>Zih N d.1)
def Zlm:Fn:=⟨Tryz.f58,λ |4=>[.canon [0,3,10]]|5=>[.canon [0,3]]|6=>[.canon [0,3,18]]|7=>[.canon [2]]|100004=>[.canon [0,3]]|_=>[],Zoe,λN=>[(59,Zhu N)]⟩
def Zvq(l2:List Int)(i3:Int):St:=⟨[(0,vV Jj l2),(3,vI i3)],[],0⟩
def Ztw(l2:List Int):St:=⟨[(2,vB false)],[],0⟩
def Ztx(l2:List Int)(i5:Int)(t6:Bool):St:=⟨[(0,vV Jj l2),(3,vI i5),(10,vB t6)],[],0⟩
theorem Zvr(N:Nat){R:Type}(K:Ex→St→Option R){l2:List Int}{K0:Option R}{K1:Int→Bool→Option R}(h0:K0=K .ret (Ztw l2))(h1:K1= λi5 t6=>K (.exit 0) (Ztx l2 i5 t6))(n:Nat)(i3:Int):Zdd N l2 K0 K1 n i3=LM Zlm N 0 100004 n (Zvq l2 i3) K:=by
  subst h0 h1
  induction n generalizing i3 with
  |zero=>kernel_rfl
  |succ n ih=>rw[Zdd];simp only[ih];kernel_rfl
theorem Z0n(N:Nat)(l1:List Int):DN Zlm N (l1,())=Zih N l1:=by
  conv=>rhs;rw[Zih];simp(disch:=exact id (by kernel_rfl)) only[Zvr (R:=Unit×Kg) N (CF Zlm N [1,1,0,1,0])]
  kernel_rfl
theorem Z0o(N:Nat):GW 58 (Zoe N):=GF Zlm N Tryz.func58 (GC (Zmi N) Wa) (λd=>Z0n N d.1)
def Zmr(N:Nat):Sig:=Sig.of [.v Jt true] [.v Jq false] (λd=>Zg5 N d.1)
def Zjk:Fn:=⟨Tryz.f23,λ |4=>[.canon [1,3,24]]|5=>[.canon [1,3]]|6=>[.canon [1,3,33]]|7=>[.canon [2]]|100004=>[.canon [1,3]]|_=>[],Zmr,λN=>[(58,Zoe N),(59,Zhu N),(60,Zf4 N)]⟩
def Zse(i4:Int)(b5:List Int×List Int×Int):St:=⟨[(1,vP 0 0),(3,vI i4)],[(0,.box [.val Jj b5.1,.val Jj b5.2.1,.val Ja b5.2.2])],1⟩
def Zq1(b5:List Int×List Int×Int):St:=⟨[(2,vB false)],[],0⟩
def Zq2(b5:List Int×List Int×Int)(i7:Int)(t8:Bool):St:=⟨[(1,vP 0 0),(3,vI i7),(24,vB t8)],[(0,.box [.val Jj b5.1,.val Jj b5.2.1,.val Ja b5.2.2])],1⟩
theorem Zsf(N:Nat){R:Type}(K:Ex→St→Option R){b5:List Int×List Int×Int}{K0:Option R}{K1:Int→Bool→Option R}(h0:K0=K .ret (Zq1 b5))(h1:K1= λi7 t8=>K (.exit 0) (Zq2 b5 i7 t8))(n:Nat)(i4:Int):Zb1 N b5 K0 K1 n i4=LM Zjk N 0 100004 n (Zse i4 b5) K:=by
  subst h0 h1
  induction n generalizing i4 with
  |zero=>kernel_rfl
  |succ n ih=>rw[Zb1];simp only[ih];kernel_rfl
theorem Zyc(N:Nat)(s1:List Int×List Int×Int):DN Zjk N (s1,())=Zg5 N s1:=by
  conv=>rhs;rw[Zg5];simp(disch:=exact id (by kernel_rfl)) only[Zsf (R:=Unit×Kg) N (CF Zjk N [1,1,0,1,0])]
  kernel_rfl
theorem Zyd(N:Nat):GW 23 (Zmr N):=GF Zjk N Tryz.func23 (GC (Z0o N) (GC (Zmi N) (GC (Ziq N) Wa))) (λd=>Zyc N d.1)
def Zou(N:Nat):Sig:=Sig.of [.v Ja false] [.v Jq false] (λd=>Zt N d.1)
def Z1l:Fn:=⟨Tryz.f127,Ws,Zou,λN=>[(60,Zf4 N)]⟩
theorem Z1m(N:Nat):GW 127 (Zou N):=GF Z1l N Tryz.func127 (GC (Ziq N) Wa)
def Zof(N:Nat):Sig:=Sig.of [.v Ja false] [.v Jq false] (λd=>Zhb N d.1)
def Z0p:Fn:=⟨Tryz.f128,Ws,Zof,λN=>[(60,Zf4 N)]⟩
theorem Z0q(N:Nat):GW 128 (Zof N):=GF Z0p N Tryz.func128 (GC (Ziq N) Wa)
def Zm9(N:Nat):Sig:=Sig.of [.v Jy true] [.v Jq false] (λd=>Zr N d.1)
def Z13:Fn:=⟨Tryz.f86,Ws,Zm9,λN=>[(127,Zou N),(59,Zhu N),(128,Zof N),(60,Zf4 N)]⟩
theorem Zuc(N:Nat):GW 86 (Zm9 N):=GF Z13 N Tryz.func86 (GC (Z1m N) (GC (Zmi N) (GC (Z0q N) (GC (Ziq N) Wa))))
def Zog(N:Nat):Sig:=Sig.of [.v Jc false,.v Ja false] [.v Jq false] (λd=>Zii N d.1 d.2.1)
def Zln:Fn:=⟨Tryz.f87,λ |6=>[.canon [0,5,6,7,24]]|7=>[.canon [0,5,6,7]]|8=>[.canon [0,5,6,7,32]]|9=>[.canon [0,5,6,7]]|10=>[.canon [0,5,6,7,40]]|11=>[.canon [0,5,6,7]]|12=>[.canon [0,5,6,7,44]]|13=>[.canon [4]]|100006=>[.canon [0,5,6,7]]|_=>[],Zog,Wde⟩
def Zvs(code3:List Ka)(to4:Int)(d5:Int)(k6:Int):St:=⟨[(0,vV Jc code3),(5,vI to4),(6,vI d5),(7,vI k6)],[],0⟩
def Zty(code3:List Ka)(to4:Int):St:=⟨[(4,vB false)],[],0⟩
def Ztz(code3:List Ka)(to4:Int)(d7:Int)(k8:Int)(t9:Bool):St:=⟨[(0,vV Jc code3),(5,vI to4),(6,vI d7),(7,vI k8),(24,vB t9)],[],0⟩
theorem Zvt(N:Nat){R:Type}(K:Ex→St→Option R){code3:List Ka}{to4:Int}{K0:Option R}{K1:Int→Int→Bool→Option R}(h0:K0=K .ret (Zty code3 to4))(h1:K1= λd7 k8 t9=>K (.exit 0) (Ztz code3 to4 d7 k8 t9))(n:Nat)(d5:Int)(k6:Int):Zbi N code3 to4 K0 K1 n d5 k6=LM Zln N 0 100006 n (Zvs code3 to4 d5 k6) K:=by
  subst h0 h1
  induction n generalizing d5 k6 with
  |zero=>kernel_rfl
  |succ n ih=>rw[Zbi];simp only[ih];kernel_rfl
theorem Z0r(N:Nat)(code1:List Ka)(i2:Int):DN Zln N (code1,i2,())=Zii N code1 i2:=by
  conv=>rhs;rw[Zii];simp(disch:=exact id (by kernel_rfl)) only[Zvt (R:=Unit×Kg) N (CF Zln N [1,1,1,1,0,1,0])]
  kernel_rfl
theorem Z0s(N:Nat):GW 87 (Zog N):=GF Zln N Tryz.func87 Wa (λd=>Z0r N d.1 d.2.1)
def Zlo(N:Nat):Sig:=Sig.of [.v Jc false] [.v Jq false] (λd=>Zhc N d.1)
def Zlp:Fn:=⟨Tryz.f55,λ |6=>[.canon [0,3,4,5,12]]|7=>[.canon [0,3,4,5]]|8=>[.canon [0,3,4,5,20]]|9=>[.canon [2]]|10=>[.canon [0,3,4,5,25]]|11=>[.canon [0,3,4,5,25,26]]|12=>[.canon [0,3,4,5]]|13=>[.canon [0,3,4,5,25,30]]|14=>[.canon [0,3,4,5]]|15=>[.canon [0,3,4,5,25,34]]|16=>[.canon [0,3,4,5,39]]|17=>[.canon [2]]|18=>[.canon [0,3,4,5,40]]|19=>[.canon [0,3,4,5]]|20=>[.canon [0,3,4,5,49]]|21=>[.canon [2]]|22=>[.canon [0,3,4,5,51]]|23=>[.canon [2]]|100006=>[.canon [0,3,4,5]]|_=>[],Zlo,λN=>[(86,Zm9 N),(87,Zog N)]⟩
def Zvu(code2:List Ka)(d3:Int)(forks4:Int)(i5:Int):St:=⟨[(0,vV Jc code2),(3,vI d3),(4,vI forks4),(5,vI i5)],[],0⟩
def Zt0(code2:List Ka):St:=⟨[(2,vB false)],[],0⟩
def Zt1(code2:List Ka)(d8:Int)(forks9:Int)(i10:Int)(t11:Bool):St:=⟨[(0,vV Jc code2),(3,vI d8),(4,vI forks9),(5,vI i10),(12,vB t11)],[],0⟩
theorem Zvv(N:Nat){R:Type}(K:Ex→St→Option R){code2:List Ka}{K0:Option R}{K1:Int→Int→Int→Bool→Option R}(h0:K0=K .ret (Zt0 code2))(h1:K1= λd8 forks9 i10 t11=>K (.exit 0) (Zt1 code2 d8 forks9 i10 t11))(n:Nat)(d3:Int)(forks4:Int)(i5:Int):Zbj N code2 K0 K1 n d3 forks4 i5=LM Zlp N 0 100006 n (Zvu code2 d3 forks4 i5) K:=by
  subst h0 h1
  induction n generalizing d3 forks4 i5 with
  |zero=>kernel_rfl
  |succ n ih=>rw[Zbj];simp only[ih];kernel_rfl
theorem Z0t(N:Nat)(code1:List Ka):DN Zlp N (code1,())=Zhc N code1:=by
  conv=>rhs;rw[Zhc];simp(disch:=exact id (by kernel_rfl)) only[Zvv (R:=Unit×Kg) N (CF Zlp N [1,1,1,1,0,1,0])]
  kernel_rfl
theorem Zqh(N:Nat):GW 55 (Zlo N):=GF Zlp N Tryz.func55 (GC (Zuc N) (GC (Z0s N) Wa)) (λd=>Z0t N d.1)
def Zkp(N:Nat):Sig:=Sig.of [.v Jc false] [.v Jq false] (λd=>Zgf N d.1)
def Zkq:Fn:=⟨Tryz.f56,λ |2=>[.canon [0,3,7]]|3=>[.canon [0,3]]|4=>[.canon [0,3,15]]|5=>[.canon [2]]|100002=>[.canon [0,3]]|_=>[],Zkp,Wde⟩
def Zt2(code2:List Ka)(i3:Int):St:=⟨[(0,vV Jc code2),(3,vI i3)],[],0⟩
def Zsg(code2:List Ka):St:=⟨[(2,vB true)],[],0⟩
def Zsh(code2:List Ka)(i4:Int)(t5:Bool):St:=⟨[(0,vV Jc code2),(3,vI i4),(7,vB t5)],[],0⟩
theorem Zt3(N:Nat){R:Type}(K:Ex→St→Option R){code2:List Ka}{K0:Option R}{K1:Int→Bool→Option R}(h0:K0=K .ret (Zsg code2))(h1:K1= λi4 t5=>K (.exit 0) (Zsh code2 i4 t5))(n:Nat)(i3:Int):Zcv N code2 K0 K1 n i3=LM Zkq N 0 100002 n (Zt2 code2 i3) K:=by
  subst h0 h1
  induction n generalizing i3 with
  |zero=>kernel_rfl
  |succ n ih=>rw[Zcv];simp only[ih];kernel_rfl
theorem Zzp(N:Nat)(code1:List Ka):DN Zkq N (code1,())=Zgf N code1:=by
  conv=>rhs;rw[Zgf];simp(disch:=exact id (by kernel_rfl)) only[Zt3 (R:=Unit×Kg) N (CF Zkq N [1,0,1,0])]
  kernel_rfl
theorem Zpw(N:Nat):GW 56 (Zkp N):=GF Zkq N Tryz.func56 Wa (λd=>Zzp N d.1)
def Znt(N:Nat):Sig:=Sig.of [.v Jy true] [.v Ja false] (λd=>Zci N d.1)
def Zzq:Fn:=⟨Tryz.f88,Ws,Znt,λN=>[(86,Zm9 N)]⟩
theorem Zzr(N:Nat):GW 88 (Znt N):=GF Zzq N Tryz.func88 (GC (Zuc N) Wa)
def Zov(N:Nat):Sig:=Sig.of [.v Jc false] [.v Jq false] (λd=>Zhv N d.1)
def Zmj:Fn:=⟨Tryz.f57,λ |4=>[.canon [0,3,14]]|5=>[.canon [0,3]]|6=>[.canon [0,3,22]]|7=>[.canon [2]]|100004=>[.canon [0,3]]|_=>[],Zov,λN=>[(55,Zlo N),(56,Zkp N),(88,Znt N)]⟩
def Zxk(code4:List Ka)(i5:Int):St:=⟨[(0,vV Jc code4),(3,vI i5)],[],0⟩
def Zvw(code4:List Ka):St:=⟨[(2,vB false)],[],0⟩
def Zvx(code4:List Ka)(i7:Int)(t8:Bool):St:=⟨[(0,vV Jc code4),(3,vI i7),(14,vB t8)],[],0⟩
theorem Zxl(N:Nat){R:Type}(K:Ex→St→Option R){code4:List Ka}{K0:Option R}{K1:Int→Bool→Option R}(h0:K0=K .ret (Zvw code4))(h1:K1= λi7 t8=>K (.exit 0) (Zvx code4 i7 t8))(n:Nat)(i5:Int):Zd7 N code4 K0 K1 n i5=LM Zmj N 0 100004 n (Zxk code4 i5) K:=by
  subst h0 h1
  induction n generalizing i5 with
  |zero=>kernel_rfl
  |succ n ih=>rw[Zd7];simp only[ih];kernel_rfl
theorem Z1n(N:Nat)(code1:List Ka):DN Zmj N (code1,())=Zhv N code1:=by
  conv=>rhs;rw[Zhv];simp(disch:=exact id (by kernel_rfl)) only[Zxl (R:=Unit×Kg) N (CF Zmj N [1,1,0,1,0])]
  kernel_rfl
theorem Z1o(N:Nat):GW 57 (Zov N):=GF Zmj N Tryz.func57 (GC (Zqh N) (GC (Zpw N) (GC (Zzr N) Wa))) (λd=>Z1n N d.1)
def Zoh(N:Nat):Sig:=Sig.of [.v Jm true] [.v Jq false] (λd=>Zhf N d.1)
def Zlq:Fn:=⟨Tryz.f22,λ |4=>[.canon [1,3,28]]|5=>[.canon [1,3]]|6=>[.canon [1,3,38]]|7=>[.canon [2]]|100004=>[.canon [1,3]]|_=>[],Zoh,λN=>[(55,Zlo N),(56,Zkp N),(57,Zov N)]⟩
def Zvy(i4:Int)(b5:List Ka×List Kq):St:=⟨[(1,vP 0 0),(3,vI i4)],[(0,.box [.val Jc b5.1,.val (.slice Jc) b5.2])],1⟩
def Zt4(b5:List Ka×List Kq):St:=⟨[(2,vB false)],[],0⟩
def Zt5(b5:List Ka×List Kq)(i7:Int)(t8:Bool):St:=⟨[(1,vP 0 0),(3,vI i7),(28,vB t8)],[(0,.box [.val Jc b5.1,.val (.slice Jc) b5.2])],1⟩
theorem Zvz(N:Nat){R:Type}(K:Ex→St→Option R){b5:List Ka×List Kq}{K0:Option R}{K1:Int→Bool→Option R}(h0:K0=K .ret (Zt4 b5))(h1:K1= λi7 t8=>K (.exit 0) (Zt5 b5 i7 t8))(n:Nat)(i4:Int):Zck N b5 K0 K1 n i4=LM Zlq N 0 100004 n (Zvy i4 b5) K:=by
  subst h0 h1
  induction n generalizing i4 with
  |zero=>kernel_rfl
  |succ n ih=>rw[Zck];simp only[ih];kernel_rfl
theorem Z0u(N:Nat)(p1:List Ka×List Kq):DN Zlq N (p1,())=Zhf N p1:=by
  conv=>rhs;rw[Zhf];simp(disch:=exact id (by kernel_rfl)) only[Zvz (R:=Unit×Kg) N (CF Zlq N [1,1,0,1,0])]
  kernel_rfl
theorem Z0v(N:Nat):GW 22 (Zoh N):=GF Zlq N Tryz.func22 (GC (Zqh N) (GC (Zpw N) (GC (Z1o N) Wa))) (λd=>Z0u N d.1)
def Zms(N:Nat):Sig:=Sig.of [.v Jag true] [.v Jq false] (λd=>Zg6 N d.1)
def Zjl:Fn:=⟨Tryz.f12,λ |4=>[.canon [1,3,24]]|5=>[.canon [1,3]]|6=>[.canon [1,3,33]]|7=>[.canon [2]]|100004=>[.canon [1,3]]|_=>[],Zms,λN=>[(23,Zmr N),(22,Zoh N)]⟩
def Zsi(i3:Int)(b4:Ke×List Kk×List Kb):St:=⟨[(1,vP 0 0),(3,vI i3)],[(0,.box [.val Jj b4.1.1,.val Jj b4.1.2.1,.val Ja b4.1.2.2,.val Jab b4.2.1,.val Je b4.2.2])],1⟩
def Zq3(b4:Ke×List Kk×List Kb):St:=⟨[(2,vB false)],[],0⟩
def Zq4(b4:Ke×List Kk×List Kb)(i6:Int)(t7:Bool):St:=⟨[(1,vP 0 0),(3,vI i6),(24,vB t7)],[(0,.box [.val Jj b4.1.1,.val Jj b4.1.2.1,.val Ja b4.1.2.2,.val Jab b4.2.1,.val Je b4.2.2])],1⟩
theorem Zsj(N:Nat){R:Type}(K:Ex→St→Option R){b4:Ke×List Kk×List Kb}{K0:Option R}{K1:Int→Bool→Option R}(h0:K0=K .ret (Zq3 b4))(h1:K1= λi6 t7=>K (.exit 0) (Zq4 b4 i6 t7))(n:Nat)(i3:Int):Zb2 N b4 K0 K1 n i3=LM Zjl N 0 100004 n (Zsi i3 b4) K:=by
  subst h0 h1
  induction n generalizing i3 with
  |zero=>kernel_rfl
  |succ n ih=>rw[Zb2];simp only[ih];kernel_rfl
theorem Zye(N:Nat)(s1:Ke×List Kk×List Kb):DN Zjl N (s1,())=Zg6 N s1:=by
  conv=>rhs;rw[Zg6];simp(disch:=exact id (by kernel_rfl)) only[Zsj (R:=Unit×Kg) N (CF Zjl N [1,1,0,1,0])]
  kernel_rfl
theorem Zyf(N:Nat):GW 12 (Zms N):=GF Zjl N Tryz.func12 (GC (Zyd N) (GC (Z0v N) Wa)) (λd=>Zye N d.1)
def Zow(N:Nat):Sig:=Sig.of [.v Jv true] [.v Jq false] (λd=>Zjm N d.1)
def Zmk:Fn:=⟨Tryz.f39,λ |4=>[.canon [1,3,19]]|5=>[.canon [1,3]]|6=>[.canon [1,3,4]]|7=>[.canon [1,3,44]]|8=>[.canon [2]]|100004=>[.canon [1,3]]|_=>[],Zow,λN=>[(60,Zf4 N),(59,Zhu N)]⟩
def Zxm(i3:Int)(b4:Int×List Kb):St:=⟨[(1,vP 0 0),(3,vI i3)],[(0,.box [.val Ja b4.1,.val Je b4.2])],1⟩
def Zv0(b4:Int×List Kb):St:=⟨[(2,vB false)],[],0⟩
def Zv1(b4:Int×List Kb)(i8:Int)(t9:Bool):St:=⟨[(1,vP 0 0),(3,vI i8),(19,vB t9)],[(0,.box [.val Ja b4.1,.val Je b4.2])],1⟩
theorem Zxn(N:Nat){R:Type}(K:Ex→St→Option R){b4:Int×List Kb}{K0:Option R}{K1:Int→Bool→Option R}(h0:K0=K .ret (Zv0 b4))(h1:K1= λi8 t9=>K (.exit 0) (Zv1 b4 i8 t9))(n:Nat)(i3:Int):Zcw N b4 K0 K1 n i3=LM Zmk N 0 100004 n (Zxm i3 b4) K:=by
  subst h0 h1
  induction n generalizing i3 with
  |zero=>kernel_rfl
  |succ n ih=>rw[Zcw];simp only[ih];kernel_rfl
theorem Z1p(N:Nat)(m1:Int×List Kb):DN Zmk N (m1,())=Zjm N m1:=by
  conv=>rhs;rw[Zjm];simp(disch:=exact id (by kernel_rfl)) only[Zxn (R:=Unit×Kg) N (CF Zmk N [1,1,0,1,0])]
  kernel_rfl
theorem Z1q(N:Nat):GW 39 (Zow N):=GF Zmk N Tryz.func39 (GC (Ziq N) (GC (Zmi N) Wa)) (λd=>Z1p N d.1)
def Zoi(N:Nat):Sig:=Sig.of [.v (TY_World) true] [.v Jq false] (λd=>Zio N d.1)
def Zha:Fn:=⟨Tryz.f14,λ |4=>[.canon [1,3,25]]|5=>[.canon [1,3]]|6=>[.canon [1,3,35]]|7=>[.canon [2]]|9=>[.canon [1,4,40]]|10=>[.canon [1,4]]|11=>[.canon [1,4,50]]|12=>[.canon [2]]|100004=>[.canon [1,3]]|100009=>[.canon [1,4]]|_=>[],Zoi,λN=>[(39,Zow N)]⟩
def Zv2(i3:Int)(b4:Y_World):St:=⟨[(1,vP 0 0),(3,vI i3)],[(0,.box [.val Ja b4.1,.val Ja b4.2.1,.val Ja b4.2.2.1.1,.val Je b4.2.2.1.2,.val Jj b4.2.2.2.1.1,.val Ja b4.2.2.2.1.2,.val Je b4.2.2.2.2.1,.val Js b4.2.2.2.2.2.1,.val (.slice Jg) b4.2.2.2.2.2.2])],1⟩
def Zt6(b4:Y_World):St:=⟨[(2,vB false)],[],0⟩
def Zt7(b4:Y_World)(i5:Int)(t6:Bool):St:=⟨[(1,vP 0 0),(3,vI i5),(25,vB t6)],[(0,.box [.val Ja b4.1,.val Ja b4.2.1,.val Ja b4.2.2.1.1,.val Je b4.2.2.1.2,.val Jj b4.2.2.2.1.1,.val Ja b4.2.2.2.1.2,.val Je b4.2.2.2.2.1,.val Js b4.2.2.2.2.2.1,.val (.slice Jg) b4.2.2.2.2.2.2])],1⟩
theorem Zv3(N:Nat){R:Type}(K:Ex→St→Option R){b4:Y_World}{K0:Option R}{K1:Int→Bool→Option R}(h0:K0=K .ret (Zt6 b4))(h1:K1= λi5 t6=>K (.exit 0) (Zt7 b4 i5 t6))(n:Nat)(i3:Int):Zcm N b4 K0 K1 n i3=LM Zha N 0 100004 n (Zv2 i3 b4) K:=by
  subst h0 h1
  induction n generalizing i3 with
  |zero=>kernel_rfl
  |succ n ih=>rw[Zcm];simp only[ih];kernel_rfl
def Zv4(i9:Int)(b10:Y_World):St:=⟨[(1,vP 0 0),(4,vI i9)],[(0,.box [.val Ja b10.1,.val Ja b10.2.1,.val Ja b10.2.2.1.1,.val Je b10.2.2.1.2,.val Jj b10.2.2.2.1.1,.val Ja b10.2.2.2.1.2,.val Je b10.2.2.2.2.1,.val Js b10.2.2.2.2.2.1,.val (.slice Jg) b10.2.2.2.2.2.2])],1⟩
def Zt8(b10:Y_World):St:=⟨[(2,vB false)],[],0⟩
def Zt9(b10:Y_World)(i11:Int)(t12:Bool):St:=⟨[(1,vP 0 0),(4,vI i11),(40,vB t12)],[(0,.box [.val Ja b10.1,.val Ja b10.2.1,.val Ja b10.2.2.1.1,.val Je b10.2.2.1.2,.val Jj b10.2.2.2.1.1,.val Ja b10.2.2.2.1.2,.val Je b10.2.2.2.2.1,.val Js b10.2.2.2.2.2.1,.val (.slice Jg) b10.2.2.2.2.2.2])],1⟩
theorem Zv5(N:Nat){R:Type}(K:Ex→St→Option R){b10:Y_World}{K0:Option R}{K1:Int→Bool→Option R}(h0:K0=K .ret (Zt8 b10))(h1:K1= λi11 t12=>K (.exit 2) (Zt9 b10 i11 t12))(n:Nat)(i9:Int):Zb8 N b10 K0 K1 n i9=LM Zha N 1 100009 n (Zv4 i9 b10) K:=by
  subst h0 h1
  induction n generalizing i9 with
  |zero=>kernel_rfl
  |succ n ih=>rw[Zb8];simp only[ih];kernel_rfl
theorem Z0w(N:Nat)(w1:Y_World):DN Zha N (w1,())=Zio N w1:=by
  conv=>rhs;rw[Zio];simp(disch:=exact id (by kernel_rfl)) only[Zv3 (R:=Unit×Kg) N (CF Zha N [1,1,0,1,0]),Zv5 (R:=Unit×Kg) N (CF Zha N [1,1,1,0,1,0])]
  kernel_rfl
theorem Z0x(N:Nat):GW 14 (Zoi N):=GF Zha N Tryz.func14 (GC (Z1q N) Wa) (λd=>Z0w N d.1)
def Zmt(N:Nat):Sig:=Sig.of [.v Jl true] [.v Jq false] (λd=>Znx N d.1)
def Zyg:Fn:=⟨Tryz.f42,Ws,Zmt,Wde⟩
theorem Zyh(N:Nat):GW 42 (Zmt N):=GF Zyg N Tryz.func42 Wa
def Za4(N:Nat):Sig:=Sig.of [.v Je false,.clos 42 0] [.v Ja false] (λd=>Z2 N d.1)
def Zah:Fn:=⟨Tryz.f77,λ |2=>[.canon [0,1,7,8,9]]|3=>[.canon [0,1,5,7,8]]|4=>[.canon [0,1,5,7,8,16]]|5=>[.canon [1,4]]|6=>[.canon [0,1,7,8]]|100002=>[.canon [0,1,7,8]]|_=>[],Za4,λN=>[(42,Zmt N)]⟩
def Ze0(s2:List Kb)(t4:Int):St:=⟨[(0,vV Je s2),(1,.s (.one (.clos 42 []))),(7,vI (ilen s2)),(8,vI t4)],[],0⟩
def Zew(s2:List Kb)(t7:Int):St:=⟨[(1,.s (.one (.clos 42 []))),(4,vI t7)],[],0⟩
def Zex(s2:List Kb)(t8:Int)(t9:Bool):St:=⟨[(0,vV Je s2),(1,.s (.one (.clos 42 []))),(7,vI (ilen s2)),(8,vI t8),(9,vB t9)],[],0⟩
theorem Ze1(N:Nat){R:Type}(K:Ex→St→Option R){s2:List Kb}{K0:Int→Option R}{K1:Int→Bool→Option R}(h0:K0= λt7=>K .ret (Zew s2 t7))(h1:K1= λt8 t9=>K (.exit 0) (Zex s2 t8 t9))(n:Nat)(t4:Int):Zg N s2 K0 K1 n t4=LM Zah N 0 100002 n (Ze0 s2 t4) K:=by
  subst h0 h1
  induction n generalizing t4 with
  |zero=>kernel_rfl
  |succ n ih=>rw[Zg];simp only[ih];kernel_rfl
theorem Zf7(N:Nat)(s1:List Kb):DN Zah N (s1,())=Z2 N s1:=by
  conv=>rhs;rw[Z2];simp(disch:=exact id (by kernel_rfl)) only[Ze1 (R:=Unit×Kh) N (CF Zah N [1,0,1,0])]
  kernel_rfl
theorem Zf8(N:Nat):GW 77 (Za4 N):=GF Zah N Tryz.func77 (GC (Zyh N) Wa) (λd=>Zf7 N d.1)
def Zax(N:Nat):Sig:=Sig.of [.v Je false,.clos 42 0] [.v Jq false] (λd=>Zaf N d.1)
def Zfa:Fn:=⟨Tryz.f41,Ws,Zax,λN=>[(77,Za4 N)]⟩
theorem Zfb(N:Nat):GW 41 (Zax N):=GF Zfa N Tryz.func41 (GC (Zf8 N) Wa)
def Zmu(N:Nat):Sig:=Sig.of [.v (TY_Root) true] [.v Jq false] (λd=>Zny N d.1)
def Zyi:Fn:=⟨Tryz.f43,Ws,Zmu,Wde⟩
theorem Zyj(N:Nat):GW 43 (Zmu N):=GF Zyi N Tryz.func43 Wa
def Za5(N:Nat):Sig:=Sig.of [.v Js false,.clos 43 0] [.v Ja false] (λd=>Z3 N d.1)
def Zai:Fn:=⟨Tryz.f75,λ |2=>[.canon [0,1,7,8,9]]|3=>[.canon [0,1,5,7,8]]|4=>[.canon [0,1,5,7,8,16]]|5=>[.canon [1,4]]|6=>[.canon [0,1,7,8]]|100002=>[.canon [0,1,7,8]]|_=>[],Za5,λN=>[(43,Zmu N)]⟩
def Ze2(s2:List Y_Root)(t4:Int):St:=⟨[(0,vV Js s2),(1,.s (.one (.clos 43 []))),(7,vI (ilen s2)),(8,vI t4)],[],0⟩
def Zey(s2:List Y_Root)(t7:Int):St:=⟨[(1,.s (.one (.clos 43 []))),(4,vI t7)],[],0⟩
def Zez(s2:List Y_Root)(t8:Int)(t9:Bool):St:=⟨[(0,vV Js s2),(1,.s (.one (.clos 43 []))),(7,vI (ilen s2)),(8,vI t8),(9,vB t9)],[],0⟩
theorem Ze3(N:Nat){R:Type}(K:Ex→St→Option R){s2:List Y_Root}{K0:Int→Option R}{K1:Int→Bool→Option R}(h0:K0= λt7=>K .ret (Zey s2 t7))(h1:K1= λt8 t9=>K (.exit 0) (Zez s2 t8 t9))(n:Nat)(t4:Int):Zh N s2 K0 K1 n t4=LM Zai N 0 100002 n (Ze2 s2 t4) K:=by
  subst h0 h1
  induction n generalizing t4 with
  |zero=>kernel_rfl
  |succ n ih=>rw[Zh];simp only[ih];kernel_rfl
theorem Zf9(N:Nat)(s1:List Y_Root):DN Zai N (s1,())=Z3 N s1:=by
  conv=>rhs;rw[Z3];simp(disch:=exact id (by kernel_rfl)) only[Ze3 (R:=Unit×Kh) N (CF Zai N [1,0,1,0])]
  kernel_rfl
theorem Zga(N:Nat):GW 75 (Za5 N):=GF Zai N Tryz.func75 (GC (Zyj N) Wa) (λd=>Zf9 N d.1)
def Zay(N:Nat):Sig:=Sig.of [.v Js false,.clos 43 0] [.v Jq false] (λd=>Zag N d.1)
def Zfc:Fn:=⟨Tryz.f37,Ws,Zay,λN=>[(75,Za5 N)]⟩
theorem Zfd(N:Nat):GW 37 (Zay N):=GF Zfc N Tryz.func37 (GC (Zga N) Wa)
def Zoj(N:Nat):Sig:=Sig.of [.v (TY_World) true] [.v Jq false] (λd=>Zm2 N d.1)
def Z0y:Fn:=⟨Tryz.f15,Ws,Zoj,λN=>[(40,Zda N),(41,Zax N),(37,Zay N)]⟩
theorem Z0z(N:Nat):GW 15 (Zoj N):=GF Z0y N Tryz.func15 (GC (Zgo N) (GC (Zfb N) (GC (Zfd N) Wa)))
def Zpc(N:Nat):Sig:=Sig.of [.v (TY_World) true] [.v Jad false] (λd=>Zkx N d.1)
def Zna:Fn:=⟨Tryz.f16,λ |3=>[.canon [3,8,9,10,11]]|4=>[.canon [3,4,5,8,9,10]]|5=>[.canon [3,4,8,9,10,22]]|6=>[.canon [3,8,9,10]]|7=>[.canon [3,8,9,10]]|100003=>[.canon [3,8,9,10]]|_=>[],Zpc,Wde⟩
def Zyk(t2:List Y_Root)(t3:Int)(t4:Int)(l5:List Int):St:=⟨[(3,vO 0),(8,vV Js t2),(9,vI t3),(10,vI t4)],[(0,.arr Ja l5)],1⟩
def Zxo(t2:List Y_Root)(t3:Int)(t6:Int)(t7:Bool)(l8:List Int):St:=⟨[(3,vO 0),(8,vV Js t2),(9,vI t3),(10,vI t6),(11,vB t7)],[(0,.arr Ja l8)],1⟩
theorem Zyl(N:Nat){R:Type}(K:Ex→St→Option R){t2:List Y_Root}{t3:Int}{K0:Int→Bool→Ki→Option R}(h0:K0= λt6 t7 l8=>K (.exit 0) (Zxo t2 t3 t6 t7 l8))(n:Nat)(t4:Int)(l5:List Int):Zcs N t2 t3 K0 n t4 l5=LM Zna N 0 100003 n (Zyk t2 t3 t4 l5) K:=by
  subst h0
  induction n generalizing t4 l5 with
  |zero=>kernel_rfl
  |succ n ih=>rw[Zcs];simp only[ih];kernel_rfl
theorem Z14(N:Nat)(w1:Y_World):DN Zna N (w1,())=Zkx N w1:=by
  conv=>rhs;rw[Zkx];simp(disch:=exact id (by kernel_rfl)) only[Zyl (R:=Unit×Ko) N (CF Zna N [1,1,0,1,0])]
  kernel_rfl
theorem Z15(N:Nat):GW 16 (Zpc N):=GF Zna N Tryz.func16 Wa (λd=>Z14 N d.1)
def Zqi(N:Nat):Sig:=Sig.of [.v Jp false] [.v Jq false] (λd=>Zkt N d.1)
def Z00:Fn:=⟨Tryz.f3,Ws,Zqi,λN=>[(9,Zpn N),(10,Zlw N),(11,Zmq N),(12,Zms N),(13,Zm8 N),(14,Zoi N),(15,Zoj N),(16,Zpc N)]⟩
theorem Z01(N:Nat):GW 3 (Zqi N):=GF Z00 N Tryz.func3 (GC (Z17 N) (GC (Zwk N) (GC (Zyb N) (GC (Zyf N) (GC (Zub N) (GC (Z0x N) (GC (Z0z N) (GC (Z15 N) Wa))))))))
end
end Go.Sx
