/- Each Go function does what its Lean function says. -/
import Derived.Test.YtkbecidbnjhjcaaGreatT2
import Derived.Test.YtkbecidbnjhjcaaGreatProg
import Derived.Test.YtkbecidbnjhjcaaGreatLay
open Bool renaming and_eq_true→Xi
open List renaming cons_append→Xaz,nil_append→Xbs
namespace Go.Sx
noncomputable section
open Go.Proofs
abbrev Ja:Ty:=.int .i64
abbrev Jb:Ty:=.prod Ja (.prod Ja Ja)
abbrev Jc:Ty:=.slice (.prod Ja Ja)
abbrev Jd:Ty:=.own (.prod Ja Ja)
abbrev Je:Ty:=.slice Ja
abbrev Jf:Ty:=.own Ja
abbrev Jg:Ty:=.prod (.prod Ja Jb) (.prod (.prod Ja (.prod Ja (.prod Ja (.prod Ja (.prod Ja (.prod Jd Jf)))))) (.prod Ja (.prod Ja (.prod Ja (.prod (.bool) (.prod Jf (.prod Jd (.prod (.own Jb) (.prod Jf (.prod Jd (.own (.prod Ja (.prod Ja (.prod Ja (.prod Ja (.prod Ja (.prod Ja (.prod Jf (.prod (.own Jb) (.prod Jd (.prod (.own (.prod Ja (.prod Ja Jf))) (.prod (.bool) (.prod Ja Jb)))))))))))))))))))))))
abbrev Jh:Ty:=.slice (.prod Ja Jb)
abbrev Ji:Ty:=.prod Ja (.prod Ja Jc)
abbrev Jj:Ty:=.prod Ja (.prod Ja (.prod Ja (.prod Ja Je)))
abbrev Jk:Ty:=.slice Jb
abbrev Jl:Ty:=.prod Ja (.prod Ja (.prod Ja (.prod Ja (.prod Ja (.prod Ja (.prod Ja (.prod Ja (.prod Ja (.prod Ja (.prod Ja (.prod (.bool) (.prod Jf (.prod Jd (.prod Jd (.prod (.own Jj) (.prod (.own Jb) (.prod Jf (.prod (.bool) Jg))))))))))))))))))
abbrev Jm:Ty:=.prod Ja (.prod Ja (.prod Ja (.prod Ja (.prod Ja (.prod Ja (.prod Jf (.prod (.own Jb) (.prod Jd (.prod (.own (.prod Ja (.prod Ja Jf))) (.prod (.bool) (.prod Ja Jb)))))))))))
abbrev Jn:Ty:=.prod Ja (.prod Ja (.prod (.prod Ja (.own Jb)) (.prod (.prod Jf Ja) (.prod (.own Jb) (.prod (.own Jl) (.own Ji))))))
abbrev Jo:Ty:=.prod Jh (.slice Jh)
abbrev Jp:Ty:=.prod (.slice (.int .u8)) (.prod Ja Ja)
abbrev Jq:Ty:=.prod Ja (.prod Ja (.prod Ja (.prod (.bool) (.prod Jf (.prod Jd (.prod (.own Jb) (.prod Jf (.prod Jd (.own Jm)))))))))
abbrev Jr:Ty:=.slice (TY_KidRun)
abbrev Js:Ty:=.prod Ja (.prod Ja (.prod Ja (.prod Ja (.prod Ja (.prod Jd Jf)))))
abbrev Jt:Ty:=.slice Ji
abbrev Ju:Ty:=.prod Ja Jb
abbrev Jv:Ty:=.prod Ja (.prod Ja (.prod Ja (.prod Ja (.prod Jc Je))))
abbrev Jw:Ty:=.slice (TY_Root)
abbrev Jx:Ty:=.prod Je (.prod Je Ja)
abbrev Jy:Ty:=.bool
abbrev Jz:Ty:=.slice (.int .u8)
abbrev Jaa:Ty:=.prod Ja Ja
abbrev Jab:Ty:=.slice Jo
abbrev Jac:Ty:=.prod Ja (.own Jb)
abbrev Jad:Ty:=.prod Ja Jk
abbrev Jae:Ty:=.prod Ja (.prod Ja Jf)
abbrev Jaf:Ty:=.prod Jf (.prod Jf Ja)
abbrev Jag:Ty:=.prod Jx (.prod Jab Jk)
set_option linter.unusedVariables false
set_option linter.unusedSimpArgs false
def tab:Tab:=[(3,⟨.int .i64,false,.basic⟩),(4,⟨.bool,false,.basic⟩),(5,⟨.int .u8,false,.basic⟩),(22,⟨.slice (.int .u8),false,.slice 5⟩),(24,⟨.slice Ja,false,.slice 3⟩),(26,⟨.prod Je (.prod Je Ja),true,.struct [(0,24),(1,24),(2,3)]⟩),(27,⟨.slice Jo,false,.slice 76⟩),(28,⟨.slice Jb,false,.slice 69⟩),(30,⟨.prod Jx (.prod Jab Jk),true,.struct [(0,26),(3,27),(4,28)]⟩),(32,⟨.slice Jb,false,.slice 97⟩),(34,⟨.prod Ja Jk,true,.struct [(0,3),(1,32)]⟩),(36,⟨.prod Je Ja,true,.struct [(0,24),(1,3)]⟩),(37,⟨.slice Jb,false,.slice 175⟩),(38,⟨.slice (TY_Root),false,.slice 56⟩),(39,⟨.slice Ji,false,.slice 81⟩),(41,⟨TY_World,true,.struct [(0,3),(1,3),(2,34),(4,36),(6,37),(7,38),(8,39)]⟩),(44,⟨.slice Jaa,false,.slice 59⟩),(45,⟨.slice Jj,false,.slice 131⟩),(46,⟨.slice Jb,false,.slice 166⟩),(48,⟨.prod Ja Jb,true,.struct [(0,3),(1,3),(2,3),(3,3)]⟩),(50,⟨.prod Ja Jv,true,.struct [(0,3),(1,3),(2,3),(3,3),(4,3),(5,44),(6,24)]⟩),(51,⟨.slice Jb,false,.slice 112⟩),(52,⟨.slice (TY_KidRun),false,.slice 110⟩),(54,⟨TY_Family,true,.struct [(0,3),(1,3),(2,3),(3,4),(4,24),(5,44),(6,51),(7,24),(8,44),(9,52)]⟩),(56,⟨TY_Root,true,.struct [(0,3),(1,3),(2,3),(3,3),(4,3),(5,3),(6,3),(7,3),(8,3),(9,3),(10,3),(11,4),(12,24),(13,44),(14,44),(15,45),(16,46),(17,24),(18,4),(19,48),(23,50),(30,54)]⟩),(59,⟨.prod Ja Ja,true,.struct [(0,3),(1,3)]⟩),(69,⟨.prod Ja Jaa,true,.struct [(0,3),(1,3),(2,3)]⟩),(73,⟨.slice Ju,false,.slice 139⟩),(74,⟨.slice Jh,false,.slice 104⟩),(76,⟨.prod Jh (.slice Jh),true,.struct [(0,73),(1,74)]⟩),(81,⟨.prod Ja (.prod Ja Jc),true,.struct [(0,3),(1,3),(2,44)]⟩),(86,⟨.prod Jz Jaa,true,.struct [(0,22),(1,3),(2,3)]⟩),(97,⟨.prod Ja Jaa,true,.struct [(0,3),(1,3),(2,3)]⟩),(104,⟨.slice Ju,true,.struct [(0,73)]⟩),(108,⟨.slice (.prod Ja (.prod Ja Je)),false,.slice 180⟩),(110,⟨TY_KidRun,true,.struct [(0,3),(1,3),(2,3),(3,3),(4,3),(5,3),(6,24),(7,51),(8,44),(9,108),(10,4),(11,48)]⟩),(112,⟨.prod Ja Jaa,true,.struct [(0,3),(1,3),(2,3)]⟩),(131,⟨.prod Ja (.prod Ja (.prod Ja (.prod Ja Je))),true,.struct [(0,3),(1,3),(2,3),(3,3),(4,24)]⟩),(139,⟨.prod Ja Jb,true,.struct [(0,3),(1,3),(2,3),(3,3)]⟩),(152,⟨.bool,true,.arr 8 4⟩),(166,⟨.prod Ja Jaa,true,.struct [(0,3),(1,3),(2,3)]⟩),(175,⟨.prod Ja Jaa,true,.struct [(0,3),(1,3),(2,3)]⟩),(180,⟨.prod Ja (.prod Ja Je),true,.struct [(0,3),(1,3),(2,24)]⟩)]
theorem mixedOk:Tryz.prog.follows .mixedOrders=true:=by kernel_rfl
theorem tabOk:Wag Tryz.prog tab:=WvE (show Wlh Tryz.prog tab tab=true by kernel_rfl)
def LM(x:Fn)(N:Nat){R:Type}(i k n:Nat)(st:St)(K:Ex->St->Option R):Option R:=lpM tab (x.c N) x.a N x.F i k n st K
def CF(x:Fn)(N:Nat)(p:List Nat):Ex->St->Option (Qs (x.s N)):=cxF tab (x.c N) x.a N (x.s N) x.F p
def CL(x:Fn)(N:Nat){R:Type}(i k:Nat)(p:List Nat)(n:Nat)(K:Ex->St->Option R):Ex->St->Option R:=cxL tab (x.c N) x.a N x.F i k p n K
def DN(x:Fn)(N:Nat)(d:We2 (x.s N).ps):Option (Qs (x.s N)):=den (R:=Qs (x.s N)) tab (x.c N) x.a N (x.s N) x.F d some
def GW(k:FuncId)(s:Sig):Prop:=Wf6 Tryz.prog k/\Good Tryz.prog k s
theorem GC{k:FuncId}{s:Sig}{Γ:Ctx}(h:GW k s)(hc:WeZ Tryz.prog Γ):WeZ Tryz.prog ((k,s)::Γ):=Wsx h.2 h.1 hc
theorem GF(x:Fn){k:FuncId}(N:Nat)(hf:Tryz.prog.funcs[k]?=some x.F)(hc:WeZ Tryz.prog (x.c N))(h:∀d,DN x N d=(x.s N).run d:=by intro d;kernel_rfl)(aY:(WnQ x.F&&Wns x.F (x.s N).ps)=true:=by kernel_rfl):GW k (x.s N):=
  ⟨WcL hf (Xi .. ▸aY).1,WrI mixedOk tabOk hc hf (Xi .. ▸aY).2 (λd _ e=>⟨N,(h d).trans e⟩)⟩
def Zqb(N:Nat):Sig:=Sig.of [.v Jz false] [.v Jy false] (λd=>Ztr N d.1)
def Z4t:Fn:=⟨Tryz.f4,WI,Zqb,Wbo⟩
theorem Z4u(N:Nat):GW 4 (Zqb N):=GF Z4t N Tryz.func4 Wg
def Zpd(N:Nat):Sig:=Sig.of [.v Jz false] [.box Jp] (λd=>Zj7 N d.1)
def Zm1:Fn:=⟨Tryz.f11,λ |3=>[.canon [0,3,4,15]]|4=>[.canon [0,3,4]]|5=>[.canon [0,3,4]]|100003=>[.canon [0,3,4]]|_=>[],Zpd,Wbo⟩
def Zyq(aa:List Int)(h3:Int)(i4:Int):St:=⟨[(0,vV Jz aa),(3,vI h3),(4,vI i4)],[],0⟩
def Zwh(aa:List Int)(h5:Int)(i6:Int)(t7:Bool):St:=⟨[(0,vV Jz aa),(3,vI h5),(4,vI i6),(15,vB t7)],[],0⟩
theorem Zyr(N:Nat){R:Type}(K:Ex->St->Option R){aa:List Int}{K0:Int->Int->Bool->Option R}(h0:K0= λh5 i6 t7=>K (.exit 0) (Zwh aa h5 i6 t7))(n:Nat)(h3:Int)(i4:Int):Zcs N aa K0 n h3 i4=LM Zm1 N 0 100003 n (Zyq aa h3 i4) K:=by
  subst h0
  induction n generalizing h3 i4 with
  |zero=>kernel_rfl
  |succ n ih=>rw[Zcs];simp only[ih];kernel_rfl
theorem Z3s(N:Nat)(ad:List Int):DN Zm1 N (ad,())=Zj7 N ad:=by
  conv=>rhs;rw[Zj7];simp(disch:=exact id (by kernel_rfl)) only[Zyr (R:=Unit×Kr) N (CF Zm1 N [1,1,0,1,0])]
  kernel_rfl
theorem Z3t(N:Nat):GW 11 (Zpd N):=GF Zm1 N Tryz.func11 Wg (λd=>Z3s N d.1)
def Zoo(N:Nat):Sig:=Sig.of [.v Jz false,.v Ja false] [.v Ja false] (λd=>Znr N d.1 d.2.1)
def Z2j:Fn:=⟨Tryz.f13,WI,Zoo,Wbo⟩
theorem Z2k(N:Nat):GW 13 (Zoo N):=GF Z2j N Tryz.func13 Wg
def Zop(N:Nat):Sig:=Sig.of [.box Jp] [.v Ja false] (λd=>Zgb N d.1)
def Z2l:Fn:=⟨Tryz.f67,WI,Zop,Wbo⟩
theorem Z2m(N:Nat):GW 67 (Zop N):=GF Z2l N Tryz.func67 Wg
def Z8(N:Nat):Sig:=Sig.of [.box Jp,.v Ja false] [.v Ja false] (λd=>Zb N d.1 d.2.1)
def Z02:Fn:=⟨Tryz.f32,WI,Z8,λN=>[(67,Zop N)]⟩
theorem Zad(N:Nat):GW 32 (Z8 N):=GF Z02 N Tryz.func32 (GC (Z2m N) Wg)
def Zb2(N:Nat):Sig:=Sig.of [.box Jp,.v Ja false] [.v Jy false] (λd=>Zq N d.1 d.2.1)
def Z2n:Fn:=⟨Tryz.f65,WI,Zb2,λN=>[(32,Z8 N)]⟩
theorem Zdz(N:Nat):GW 65 (Zb2 N):=GF Z2n N Tryz.func65 (GC (Zad N) Wg)
def Zg9(N:Nat):Sig:=Sig.of [.box Jp,.v Je false] [.v Ja false] (λd=>Zbp N d.1 d.2.1)
def Zys:Fn:=⟨Tryz.f145,WI,Zg9,λN=>[(32,Z8 N)]⟩
theorem Zmj(N:Nat):GW 145 (Zg9 N):=GF Zys N Tryz.func145 (GC (Zad N) Wg)
def Zjd(N:Nat):Sig:=Sig.of [.box Jp] [.v Ja false] (λd=>Zhm N d.1)
def Z2o:Fn:=⟨Tryz.f101,WI,Zjd,λN=>[(65,Zb2 N),(145,Zg9 N),(32,Z8 N)]⟩
theorem Zoq(N:Nat):GW 101 (Zjd N):=GF Z2o N Tryz.func101 (GC (Zdz N) (GC (Zmj N) (GC (Zad N) Wg)))
def Zlm(N:Nat):Sig:=Sig.of [.box Jp] [.v Jf false] (λd=>Zfy N d.1)
def Zip:Fn:=⟨Tryz.f100,λ |3=>[.canon [0,3,4,7]]|4=>[.canon [0,3,4]]|5=>[.canon [0,3,4]]|100003=>[.canon [0,3,4]]|_=>[],Zlm,λN=>[(101,Zjd N)]⟩
def Zqo(i2:Int)(b3:List Int×Int×Int)(l4:List Int):St:=⟨[(0,vP 0 0),(3,vO 1),(4,vI i2)],[(0,.box [.val Jz b3.1,.val Ja b3.2.1,.val Ja b3.2.2]),(1,.arr Ja l4)],2⟩
def Zqc(i6:Int)(t7:Bool)(b8:List Int×Int×Int)(l9:List Int):St:=⟨[(0,vP 0 0),(3,vO 1),(4,vI i6),(7,vB t7)],[(0,.box [.val Jz b8.1,.val Ja b8.2.1,.val Ja b8.2.2]),(1,.arr Ja l9)],2⟩
theorem Zqp(N:Nat){R:Type}(K:Ex->St->Option R){K0:Int->Bool->Kg->Kh->Option R}(h0:K0= λi6 t7 b8 l9=>K (.exit 0) (Zqc i6 t7 b8 l9))(n:Nat)(i2:Int)(b3:List Int×Int×Int)(l4:List Int):Zco N K0 n i2 b3 l4=LM Zip N 0 100003 n (Zqo i2 b3 l4) K:=by
  subst h0
  induction n generalizing i2 b3 l4 with
  |zero=>kernel_rfl
  |succ n ih=>rw[Zco];simp only[ih];kernel_rfl
theorem Zwi(N:Nat)(c1:List Int×Int×Int):DN Zip N (c1,())=Zfy N c1:=by
  conv=>rhs;rw[Zfy];simp(disch:=exact id (by kernel_rfl)) only[Zqp (R:=Kr×Ky) N (CF Zip N [1,1,0,1,0])]
  kernel_rfl
theorem Zwj(N:Nat):GW 100 (Zlm N):=GF Zip N Tryz.func100 (GC (Zoq N) Wg) (λd=>Zwi N d.1)
def Zju(N:Nat):Sig:=Sig.of [.box Jp] [.v Jaf true] (λd=>Zfj N d.1)
def Zjv:Fn:=⟨Tryz.f63,λ |3=>[.canon [0,2,3,4,12]]|4=>[.canon [0,2,3,4]]|5=>[.canon [0,2,3,4,5]]|6=>[.canon [0,2,3,4,5,16]]|7=>[.canon [0,2,3,4,5]]|8=>[.canon [0,2,3,4]]|100003=>[.adoptC 3 1 Ja,.canon [0,2,3,4]]|_=>[],Zju,λN=>[(100,Zlm N),(101,Zjd N),(65,Zb2 N)]⟩
def Zry(i4:Int)(b5:List Int×Int×Int)(b7:Int)(l8:List Int)(l9:List Int):St:=⟨[(0,vP 0 0),(2,vP 1 0),(3,vP 2 0),(4,vI i4)],[(0,.box [.val Jz b5.1,.val Ja b5.2.1,.val Ja b5.2.2]),(1,.box [.nils,.nils,.val Ja (0:Int)]),(2,.box [.own 3,.own 4,.val Ja b7]),(3,.arr Ja l8),(4,.arr Ja l9)],5⟩
def Zra(b7:Int)(l8:List Int)(eZ:Int)(aX:Bool)(aZ:List Int×Int×Int)(cI:List Int):St:=⟨[(0,vP 0 0),(2,vP 1 0),(3,vP 2 0),(4,vI eZ),(12,vB aX)],[(0,.box [.val Jz aZ.1,.val Ja aZ.2.1,.val Ja aZ.2.2]),(1,.box [.nils,.nils,.val Ja (0:Int)]),(2,.box [.own 3,.own 4,.val Ja b7]),(3,.arr Ja l8),(4,.arr Ja cI)],5⟩
theorem Zrz(N:Nat){R:Type}(K:Ex->St->Option R){b7:Int}{l8:List Int}{K0:Int->Bool->Kg->Kh->Option R}(h0:K0= λeZ aX aZ cI=>K (.exit 0) (Zra b7 l8 eZ aX aZ cI))(n:Nat)(i4:Int)(b5:List Int×Int×Int)(l9:List Int):Zcj N b7 l8 K0 n i4 b5 l9=LM Zjv N 0 100003 n (Zry i4 b5 b7 l8 l9) K:=by
  subst h0
  induction n generalizing i4 b5 l9 with
  |zero=>kernel_rfl
  |succ n ih=>rw[Zcj];simp only[ih];kernel_rfl
theorem Zz8(N:Nat)(c1:List Int×Int×Int):DN Zjv N (c1,())=Zfj N c1:=by
  conv=>rhs;rw[Zfj];simp(disch:=exact id (by kernel_rfl)) only[Zrz (R:=Kr×(Kf×Unit)) N (CF Zjv N [1,1,0,1,0])]
  kernel_rfl
theorem Zpz(N:Nat):GW 63 (Zju N):=GF Zjv N Tryz.func63 (GC (Zwj N) (GC (Zoq N) (GC (Zdz N) Wg))) (λd=>Zz8 N d.1)
def Zmk(N:Nat):Sig:=Sig.of [.box Jp] [.v Ja false] (λd=>Za N d.1)
def Zyt:Fn:=⟨Tryz.f186,WI,Zmk,λN=>[(32,Z8 N)]⟩
theorem Zyu(N:Nat):GW 186 (Zmk N):=GF Zyt N Tryz.func186 (GC (Zad N) Wg)
def Zln(N:Nat):Sig:=Sig.of [.box Jp] [.v Ja false] (λd=>Zby N d.1)
def Zwk:Fn:=⟨Tryz.f187,WI,Zln,λN=>[(65,Zb2 N),(32,Z8 N)]⟩
theorem Zwl(N:Nat):GW 187 (Zln N):=GF Zwk N Tryz.func187 (GC (Zdz N) (GC (Zad N) Wg))
def Zml(N:Nat):Sig:=Sig.of [.box Jp] [.v Ja false] (λd=>Zi N d.1)
def Zyv:Fn:=⟨Tryz.f188,WI,Zml,λN=>[(65,Zb2 N),(32,Z8 N),(145,Zg9 N)]⟩
theorem Zyw(N:Nat):GW 188 (Zml N):=GF Zyv N Tryz.func188 (GC (Zdz N) (GC (Zad N) (GC (Zmj N) Wg)))
def Zkm(N:Nat):Sig:=Sig.of [.box Jp,.v Ja false] [.v Ju true] (λd=>Zh N d.1 d.2.1)
def Z03:Fn:=⟨Tryz.f146,WI,Zkm,λN=>[(186,Zmk N),(101,Zjd N),(187,Zln N),(32,Z8 N),(188,Zml N)]⟩
theorem Zqd(N:Nat):GW 146 (Zkm N):=GF Z03 N Tryz.func146 (GC (Zyu N) (GC (Zoq N) (GC (Zwl N) (GC (Zad N) (GC (Zyw N) Wg)))))
def Zly(N m:Nat):Sig:=Sig.of [.box Jp,.v Ja false,.v Ja false,.v Jy false] [.v (.own Ju) false] (λd=>Ze0 N m d.1 d.2.1 d.2.2.1 d.2.2.2.1)
def Zr0(N:Nat):Sig:=Zly N N
def Zm2(m:Nat):Fn:=⟨Tryz.f102,λ |3=>[.canon [0,1,2,3,9,10,27]]|4=>[.canon [0,1,2,3,9,10]]|5=>[.canon [0,1,2,3,9,10,11]]|6=>[.canon [0,1,2,3,9,10]]|7=>[.canon [0,1,2,3,9,10,11,40]]|8=>[.canon [0,1,2,3,9,10]]|9=>[.canon [0,1,2,3,9,10,11,48]]|10=>[.canon [0,1,2,3,9,10]]|11=>[.canon [0,1,2,3,9,10,11,56]]|12=>[.canon [0,1,2,3,9,10]]|13=>[.canon [0,1,2,3,9,10,11,67]]|14=>[.canon [0,1,2,3,9,10,12]]|15=>[.canon [0,1,2,3,9,10,12]]|16=>[.canon [0,1,2,3,9,10]]|17=>[.canon [0,1,2,3,9,10,100]]|18=>[.canon [0,1,2,3,9,10]]|19=>[.canon [0,1,2,3,9,10]]|20=>[.canon [0,1,2,3,9,10,11,109]]|21=>[.canon [0,1,2,3,9,10,13]]|22=>[.canon [0,1,2,3,9,10,13,14]]|23=>[.canon [0,1,2,3,9,10,13,14]]|24=>[.canon [0,1,2,3,9,10,13]]|25=>[.canon [0,1,2,3,9,10]]|26=>[.canon [0,1,2,3,9,10,134]]|27=>[.canon [0,1,2,3,9,10]]|28=>[.canon [0,1,2,3,9,10,145]]|29=>[.canon [0,1,2,3,9,10]]|100003=>[.canon [0,1,2,3,9,10]]|_=>[],λN=>Zly N (m+1),λN=>[(32,Z8 N),(146,Zkm N),(102,Zly N m),(65,Zb2 N)]⟩
def Zyx(an:Int)(ao:Int)(ax:Bool)(n9:Int)(ba:List Int×Int×Int)(aq:List Ka):St:=⟨[(0,vP 0 0),(1,vI an),(2,vI ao),(3,vB ax),(9,vO 1),(10,vI n9)],[(0,.box [.val Jz ba.1,.val Ja ba.2.1,.val Ja ba.2.2]),(1,.arr Ju aq)],2⟩
def Zwm(an:Int)(ao:Int)(ax:Bool)(tE:Int)(tF:Bool)(qF:List Int×Int×Int)(tG:List Ka):St:=⟨[(0,vP 0 0),(1,vI an),(2,vI ao),(3,vB ax),(9,vO 1),(10,vI tE),(27,vB tF)],[(0,.box [.val Jz qF.1,.val Ja qF.2.1,.val Ja qF.2.2]),(1,.arr Ju tG)],2⟩
theorem Zyy(N m:Nat){R:Type}(K:Ex->St->Option R){an:Int}{ao:Int}{ax:Bool}{K0:Int->Bool->Kg->Kx->Option R}(h0:K0= λtE tF qF tG=>K (.exit 0) (Zwm an ao ax tE tF qF tG))(n:Nat)(n9:Int)(ba:List Int×Int×Int)(aq:List Ka):Zc N (Ze0 N m) an ao ax K0 n n9 ba aq=LM (Zm2 m) N 0 100003 n (Zyx an ao ax n9 ba aq) K:=by
  subst h0
  induction n generalizing n9 ba aq with
  |zero=>kernel_rfl
  |succ n ih=>rw[Zc];simp only[ih];kernel_rfl
theorem Z3u(N m:Nat)(c1:List Int×Int×Int)(bS:Int)(eY:Int)(iM:Bool):DN (Zm2 m) N (c1,bS,eY,iM,())=Ze0 N (m+1) c1 bS eY iM:=by
  conv=>rhs;rw[Ze0];simp(disch:=exact id (by kernel_rfl)) only[Zyy (R:=Kr×(Kx×Unit)) N m (CF (Zm2 m) N [1,1,0,1,0])]
  kernel_rfl
theorem Zq3(N:Nat):∀m,GW 102 (Zly N m)
  |0=>⟨WcL Tryz.func102 (show WnQ Tryz.f102=true by kernel_rfl),λd o h=>nomatch (show none=some o from h)⟩
  |m+1=>GF (Zm2 m) N Tryz.func102 (GC (Zad N) (GC (Zqd N) (GC (Zq3 N m) (GC (Zdz N) Wg)))) (λd=>Z3u N m d.1 d.2.1 d.2.2.1 d.2.2.2.1)
theorem Z3v(N:Nat):GW 102 (Zr0 N):=Zq3 N N
def Zlz(N:Nat):Sig:=Sig.of [.box Jp,.v Jy false] [.v (.prod (.own Ju) (.own Jh)) true] (λd=>Zea N d.1 d.2.1)
def Zl0:Fn:=⟨Tryz.f64,λ |7=>[.canon [0,4,7,8,38]]|8=>[.canon [0,4,7,8]]|9=>[.canon [0,4,7,8]]|100007=>[.adoptC 7 1 Jh,.canon [0,4,7,8]]|_=>[],Zlz,λN=>[(32,Z8 N),(102,Zr0 N)]⟩
def Zwn(io:Int)(aR:List Int×Int×Int)(aK:List Ka)(aJ:List Kx):St:=⟨[(0,vP 0 0),(4,vP 1 0),(7,vP 2 0),(8,vI io)],[(0,.box [.val Jz aR.1,.val Ja aR.2.1,.val Ja aR.2.2]),(1,.box [.nils,.nils]),(2,.box [.own 3,.own 4]),(3,.arr Ju aK),(4,.arr Jh aJ)],5⟩
def Zts(aK:List Ka)(tH:Int)(bV:Bool)(bM:List Int×Int×Int)(cM:List Kx):St:=⟨[(0,vP 0 0),(4,vP 1 0),(7,vP 2 0),(8,vI tH),(38,vB bV)],[(0,.box [.val Jz bM.1,.val Ja bM.2.1,.val Ja bM.2.2]),(1,.box [.nils,.nils]),(2,.box [.own 3,.own 4]),(3,.arr Ju aK),(4,.arr Jh cM)],5⟩
theorem Zwo(N:Nat){R:Type}(K:Ex->St->Option R){aK:List Ka}{K0:Int->Bool->Kg->(List Kx)->Option R}(h0:K0= λtH bV bM cM=>K (.exit 0) (Zts aK tH bV bM cM))(n:Nat)(io:Int)(aR:List Int×Int×Int)(aJ:List Kx):Zfz N aK K0 n io aR aJ=LM Zl0 N 0 100007 n (Zwn io aR aK aJ) K:=by
  subst h0
  induction n generalizing io aR aJ with
  |zero=>kernel_rfl
  |succ n ih=>rw[Zfz];simp only[ih];kernel_rfl
theorem Z2p(N:Nat)(c1:List Int×Int×Int)(fo:Bool):DN Zl0 N (c1,fo,())=Zea N c1 fo:=by
  conv=>rhs;rw[Zea];simp(disch:=exact id (by kernel_rfl)) only[Zwo (R:=Kr×(Km×Unit)) N (CF Zl0 N [1,1,1,1,1,0,1,0])]
  kernel_rfl
theorem Zq4(N:Nat):GW 64 (Zlz N):=GF Zl0 N Tryz.func64 (GC (Zad N) (GC (Z3v N) Wg)) (λd=>Z2p N d.1 d.2.1)
def Zn0(N:Nat):Sig:=Sig.of [.box Jp,.v Ja false,.v Ja false] [.v (.own Jb) false] (λd=>Zgo N d.1 d.2.1 d.2.2.1)
def Zkn:Fn:=⟨Tryz.f66,λ |4=>[.canon [0,1,2,7,8,9,14]]|5=>[.canon [0,1,2,7,8,9]]|6=>[.canon [0,1,2,7,8,9,18]]|7=>[.canon [0,1,2,7,8,9]]|8=>[.canon [0,1,2,7,8,9,10]]|9=>[.canon [0,1,2,7,8,9,10,25]]|10=>[.canon [0,1,2,7,8,9,10]]|11=>[.canon [0,1,2,7,8,9,10]]|12=>[.canon [0,1,2,7,8,9,10,31]]|13=>[.canon [0,1,2,7,8,9,10]]|14=>[.canon [0,1,2,7,8,9,10,35]]|15=>[.canon [0,1,2,7,8,9,10]]|16=>[.canon [0,1,2,7,8,9]]|100004=>[.canon [0,1,2,7,8,9]]|_=>[],Zn0,λN=>[(65,Zb2 N),(32,Z8 N)]⟩
def Ztt(n4:Int)(aN:Int)(bN:Int)(i7:Int)(b8:List Int×Int×Int)(l9:List Kb):St:=⟨[(0,vP 0 0),(1,vI n4),(2,vI aN),(7,vO 1),(8,vI bN),(9,vI i7)],[(0,.box [.val Jz b8.1,.val Ja b8.2.1,.val Ja b8.2.2]),(1,.arr Jb l9)],2⟩
def Zr1(n4:Int)(aN:Int)(kb:Int)(mg:Int)(iZ:Bool)(lz:List Int×Int×Int)(eb:List Kb):St:=⟨[(0,vP 0 0),(1,vI n4),(2,vI aN),(7,vO 1),(8,vI kb),(9,vI mg),(14,vB iZ)],[(0,.box [.val Jz lz.1,.val Ja lz.2.1,.val Ja lz.2.2]),(1,.arr Jb eb)],2⟩
theorem Ztu(N:Nat){R:Type}(K:Ex->St->Option R){n4:Int}{aN:Int}{K0:Int->Int->Bool->Kg->Kt->Option R}(h0:K0= λkb mg iZ lz eb=>K (.exit 0) (Zr1 n4 aN kb mg iZ lz eb))(n:Nat)(bN:Int)(i7:Int)(b8:List Int×Int×Int)(l9:List Kb):Zx N n4 aN K0 n bN i7 b8 l9=LM Zkn N 0 100004 n (Ztt n4 aN bN i7 b8 l9) K:=by
  subst h0
  induction n generalizing bN i7 b8 l9 with
  |zero=>kernel_rfl
  |succ n ih=>rw[Zx];simp only[ih];kernel_rfl
theorem Z04(N:Nat)(c1:List Int×Int×Int)(n2:Int)(cZ:Int):DN Zkn N (c1,n2,cZ,())=Zgo N c1 n2 cZ:=by
  conv=>rhs;rw[Zgo];simp(disch:=exact id (by kernel_rfl)) only[Ztu (R:=Kr×Kaa) N (CF Zkn N [1,1,1,0,1,0])]
  kernel_rfl
theorem Z05(N:Nat):GW 66 (Zn0 N):=GF Zkn N Tryz.func66 (GC (Zdz N) (GC (Zad N) Wg)) (λd=>Z04 N d.1 d.2.1 d.2.2.1)
def Zmm(N:Nat):Sig:=Sig.of [.box Jp,.v Ja false,.v Ja false] [.v (.prod Jaf (.prod (.own Jo) (.own Jb))) true] (λd=>Zgp N d.1 d.2.1 d.2.2.1)
def Zje:Fn:=⟨Tryz.f31,λ |4=>[.canon [0,1,2,6,7,8,9,18]]|5=>[.canon [0,1,2,6,7,8,9]]|6=>[.canon [0,1,2,6,7,8,9]]|100004=>[.adoptC 7 3 Jo,.canon [0,1,2,6,7,8,9]]|_=>[],Zmm,λN=>[(63,Zju N),(32,Z8 N),(64,Zlz N),(65,Zb2 N),(66,Zn0 N)]⟩
def Zrb(dC:Int)(bv:Int)(n8:Int)(i9:Int)(ba:List Int×Int×Int)(aG:Int)(aJ:List Int)(bj:List Int)(aO:List Km):St:=⟨[(0,vP 0 0),(1,vI dC),(2,vI bv),(6,vP 1 0),(7,vP 2 0),(8,vI n8),(9,vI i9)],[(0,.box [.val Jz ba.1,.val Ja ba.2.1,.val Ja ba.2.2]),(1,.box [.nils,.nils,.val Ja (0:Int),.nils,.nils]),(2,.box [.own 3,.own 4,.val Ja aG,.own 5,.nils]),(3,.arr Ja aJ),(4,.arr Ja bj),(5,.arr Jo aO)],6⟩
def Zqq(dC:Int)(bv:Int)(n8:Int)(aG:Int)(aJ:List Int)(bj:List Int)(tI:Int)(t25:Bool)(lA:List Int×Int×Int)(cY:List Km):St:=⟨[(0,vP 0 0),(1,vI dC),(2,vI bv),(6,vP 1 0),(7,vP 2 0),(8,vI n8),(9,vI tI),(18,vB t25)],[(0,.box [.val Jz lA.1,.val Ja lA.2.1,.val Ja lA.2.2]),(1,.box [.nils,.nils,.val Ja (0:Int),.nils,.nils]),(2,.box [.own 3,.own 4,.val Ja aG,.own 5,.nils]),(3,.arr Ja aJ),(4,.arr Ja bj),(5,.arr Jo cY)],6⟩
theorem Zrc(N:Nat){R:Type}(K:Ex->St->Option R){dC:Int}{bv:Int}{n8:Int}{aG:Int}{aJ:List Int}{bj:List Int}{K0:Int->Bool->Kg->(List Km)->Option R}(h0:K0= λtI t25 lA cY=>K (.exit 0) (Zqq dC bv n8 aG aJ bj tI t25 lA cY))(n:Nat)(i9:Int)(ba:List Int×Int×Int)(aO:List Km):Zbi N dC bv n8 aG aJ bj K0 n i9 ba aO=LM Zje N 0 100004 n (Zrb dC bv n8 i9 ba aG aJ bj aO) K:=by
  subst h0
  induction n generalizing i9 ba aO with
  |zero=>kernel_rfl
  |succ n ih=>rw[Zbi];simp only[ih];kernel_rfl
theorem Zyz(N:Nat)(c1:List Int×Int×Int)(lv:Int)(cZ:Int):DN Zje N (c1,lv,cZ,())=Zgp N c1 lv cZ:=by
  conv=>rhs;rw[Zgp];simp(disch:=exact id (by kernel_rfl)) only[Zrc (R:=Kr×(Kz×Unit)) N (CF Zje N [1,1,1,0,1,0])]
  kernel_rfl
theorem Zy0(N:Nat):GW 31 (Zmm N):=GF Zje N Tryz.func31 (GC (Zpz N) (GC (Zad N) (GC (Zq4 N) (GC (Zdz N) (GC (Z05 N) Wg))))) (λd=>Zyz N d.1 d.2.1 d.2.2.1)
def Zko(N:Nat):Sig:=Sig.of [.box Jp] [.v Jaf true] (λd=>Zi7 N d.1)
def Ztv:Fn:=⟨Tryz.f33,WI,Zko,λN=>[(63,Zju N),(32,Z8 N)]⟩
theorem Ztw(N:Nat):GW 33 (Zko N):=GF Ztv N Tryz.func33 (GC (Zpz N) (GC (Zad N) Wg))
def Zpe(N:Nat):Sig:=Sig.of [.box Jp] [.v Ju true] (λd=>Zol N d.1)
def Z3w:Fn:=⟨Tryz.f103,WI,Zpe,λN=>[(32,Z8 N),(146,Zkm N),(145,Zg9 N)]⟩
theorem Z3x(N:Nat):GW 103 (Zpe N):=GF Z3w N Tryz.func103 (GC (Zad N) (GC (Zqd N) (GC (Zmj N) Wg)))
def Zor(N:Nat):Sig:=Sig.of [.box Jp,.v Jh false] [.v (.own Ju) false] (λd=>Zhn N d.1 d.2.1)
def Zl1:Fn:=⟨Tryz.f68,λ |12=>[.view 49,.view 45]|14=>[.canon [0,5,58]]|15=>[.canon [0,5]]|100014=>[.canon [0,5]]|_=>[],Zor,λN=>[(32,Z8 N),(103,Zpe N)]⟩
def Zwp(b6:List Int×Int×Int)(l7:List Ka):St:=⟨[(0,vP 0 0),(5,vO 1)],[(0,.box [.val Jz b6.1,.val Ja b6.2.1,.val Ja b6.2.2]),(1,.arr Ju l7)],2⟩
def Ztx(t9:Bool)(ba:List Int×Int×Int)(aq:List Ka):St:=⟨[(0,vP 0 0),(5,vO 1),(58,vB t9)],[(0,.box [.val Jz ba.1,.val Ja ba.2.1,.val Ja ba.2.2]),(1,.arr Ju aq)],2⟩
theorem Zwq(N:Nat){R:Type}(K:Ex->St->Option R){K0:Bool->Kg->Kx->Option R}(h0:K0= λt9 ba aq=>K (.exit 1) (Ztx t9 ba aq))(n:Nat)(b6:List Int×Int×Int)(l7:List Ka):Zf0 N K0 n b6 l7=LM Zl1 N 0 100014 n (Zwp b6 l7) K:=by
  subst h0
  induction n generalizing b6 l7 with
  |zero=>kernel_rfl
  |succ n ih=>rw[Zf0];simp only[ih];kernel_rfl
theorem Z2q(N:Nat)(c1:List Int×Int×Int)(aa:List Ka):DN Zl1 N (c1,aa,())=Zhn N c1 aa:=by
  conv=>rhs;rw[Zhn];simp(disch:=exact id (by kernel_rfl)) only[Zwq (R:=Kr×(Kx×Unit)) N (CF Zl1 N [1,1,1,1,0,1,0,1,1,1,1,1,1,1,0,0])]
  kernel_rfl
theorem Z2r(N:Nat):GW 68 (Zor N):=GF Zl1 N Tryz.func68 (GC (Zad N) (GC (Z3x N) Wg)) (λd=>Z2q N d.1 d.2.1)
def Zmn(N:Nat):Sig:=Sig.of [.box Jp] [.v (.prod (.own Ju) (.own Jh)) true] (λd=>Zkj N d.1)
def Zy1:Fn:=⟨Tryz.f34,WI,Zmn,λN=>[(65,Zb2 N),(64,Zlz N),(32,Z8 N),(68,Zor N)]⟩
theorem Zy2(N:Nat):GW 34 (Zmn N):=GF Zy1 N Tryz.func34 (GC (Zdz N) (GC (Zq4 N) (GC (Zad N) (GC (Z2r N) Wg))))
def Zos(N:Nat):Sig:=Sig.of [.box Jp,.v Ja false] [.v (.prod Jaf (.prod (.own Jo) (.own Jb))) true] (λd=>Zix N d.1 d.2.1)
def Zhf:Fn:=⟨Tryz.f12,λ |8=>[.canon [0,4,5,28]]|9=>[.canon [0,4,5]]|13=>[.canon [0,4,5,55]]|14=>[.canon [0,4,5]]|100008=>[.canon [0,4,5]]|100013=>[.canon [0,4,5]]|_=>[],Zos,λN=>[(31,Zmm N),(32,Z8 N),(33,Zko N),(34,Zmn N)]⟩
def Zwr(b7:List Int×Int×Int)(b9:Int)(bw:List Int)(aq:List Int)(aK:List Km)(aJ:List Kb):St:=⟨[(0,vP 0 0),(4,vP 1 0),(5,vP 2 0)],[(0,.box [.val Jz b7.1,.val Ja b7.2.1,.val Ja b7.2.2]),(1,.box [.nils,.nils,.val Ja (0:Int),.nils,.nils]),(2,.box [.own 3,.own 4,.val Ja b9,.own 5,.own 6]),(3,.arr Ja bw),(4,.arr Ja aq),(5,.arr Jo aK),(6,.arr Jb aJ)],7⟩
def Zty(b7:List Int×Int×Int)(b9:Int)(bw:List Int)(aq:List Int)(aJ:List Kb)(au:Bool)(aO:List Km):St:=⟨[(0,vP 0 0),(4,vP 1 0),(5,vP 2 0),(28,vB au)],[(0,.box [.val Jz b7.1,.val Ja b7.2.1,.val Ja b7.2.2]),(1,.box [.nils,.nils,.val Ja (0:Int),.nils,.nils]),(2,.box [.own 3,.own 4,.val Ja b9,.own 5,.own 6]),(3,.arr Ja bw),(4,.arr Ja aq),(5,.arr Jo aO),(6,.arr Jb aJ)],7⟩
theorem Zws(N:Nat){R:Type}(K:Ex->St->Option R){b7:List Int×Int×Int}{b9:Int}{bw:List Int}{aq:List Int}{aJ:List Kb}{K0:Bool->(List Km)->Option R}(h0:K0= λau aO=>K (.exit 1) (Zty b7 b9 bw aq aJ au aO))(n:Nat)(aK:List Km):Zf1 N b7 b9 bw aq aJ K0 n aK=LM Zhf N 0 100008 n (Zwr b7 b9 bw aq aK aJ) K:=by
  subst h0
  induction n generalizing aK with
  |zero=>kernel_rfl
  |succ n ih=>rw[Zf1];simp only[ih];kernel_rfl
def Zwt(bM:List Int×Int×Int)(dy:Int)(bz:List Int)(ca:List Int)(cN:List Km)(db:List Kb):St:=⟨[(0,vP 0 0),(4,vP 1 0),(5,vP 2 0)],[(0,.box [.val Jz bM.1,.val Ja bM.2.1,.val Ja bM.2.2]),(1,.box [.nils,.nils,.val Ja (0:Int),.nils,.nils]),(2,.box [.own 3,.own 4,.val Ja dy,.own 5,.own 6]),(3,.arr Ja bz),(4,.arr Ja ca),(5,.arr Jo cN),(6,.arr Jb db)],7⟩
def Ztz(dy:Int)(bz:List Int)(ca:List Int)(cN:List Km)(kC:Bool)(lB:List Int×Int×Int)(qr:List Kb):St:=⟨[(0,vP 0 0),(4,vP 1 0),(5,vP 2 0),(55,vB kC)],[(0,.box [.val Jz lB.1,.val Ja lB.2.1,.val Ja lB.2.2]),(1,.box [.nils,.nils,.val Ja (0:Int),.nils,.nils]),(2,.box [.own 3,.own 4,.val Ja dy,.own 5,.own 6]),(3,.arr Ja bz),(4,.arr Ja ca),(5,.arr Jo cN),(6,.arr Jb qr)],7⟩
theorem Zwu(N:Nat){R:Type}(K:Ex->St->Option R){dy:Int}{bz:List Int}{ca:List Int}{cN:List Km}{K0:Bool->Kg->Kt->Option R}(h0:K0= λkC lB qr=>K (.exit 3) (Ztz dy bz ca cN kC lB qr))(n:Nat)(bM:List Int×Int×Int)(db:List Kb):Zf2 N dy bz ca cN K0 n bM db=LM Zhf N 1 100013 n (Zwt bM dy bz ca cN db) K:=by
  subst h0
  induction n generalizing bM db with
  |zero=>kernel_rfl
  |succ n ih=>rw[Zf2];simp only[ih];kernel_rfl
theorem Z2s(N:Nat)(c1:List Int×Int×Int)(bS:Int):DN Zhf N (c1,bS,())=Zix N c1 bS:=by
  conv=>rhs;rw[Zix];simp(disch:=exact id (by kernel_rfl)) only[Zws (R:=Kr×(Kz×Unit)) N (CF Zhf N [1,1,0,1,0,1,1,1,1,1,0,0]),Zwu (R:=Kr×(Kz×Unit)) N (CF Zhf N [1,1,0,1,0,1,1,1,1,1,1,1,1,1,0,0])]
  kernel_rfl
theorem Z2t(N:Nat):GW 12 (Zos N):=GF Zhf N Tryz.func12 (GC (Zy0 N) (GC (Zad N) (GC (Ztw N) (GC (Zy2 N) Wg)))) (λd=>Z2s N d.1 d.2.1)
def Zng(N:Nat):Sig:=Sig.of [.v Jz false] [.v Jag true] (λd=>Zlv N d.1)
def Zz9:Fn:=⟨Tryz.f5,WI,Zng,λN=>[(11,Zpd N),(13,Zoo N),(12,Zos N)]⟩
theorem Z0a(N:Nat):GW 5 (Zng N):=GF Zz9 N Tryz.func5 (GC (Z3t N) (GC (Z2k N) (GC (Z2t N) Wg)))
def Zw(N:Nat):Sig:=Sig.of [.v Ja false,.v Ja false,.v Ja false] [.v Jy false] (λd=>Zl N d.1 d.2.1 d.2.2.1)
def Z2u:Fn:=⟨Tryz.f42,WI,Zw,Wbo⟩
theorem Z1(N:Nat):GW 42 (Zw N):=GF Z2u N Tryz.func42 Wg
def Za3(N:Nat):Sig:=Sig.of [.v Ja false] [.v Jy false] (λd=>Zav N d.1)
def Z06:Fn:=⟨Tryz.f52,WI,Za3,λN=>[(42,Zw N)]⟩
theorem Zbs(N:Nat):GW 52 (Za3 N):=GF Z06 N Tryz.func52 (GC (Z1 N) Wg)
def Za8(N:Nat):Sig:=Sig.of [.v Je false,.v Ja false] [.v Jy false] (λd=>Z7 N d.1 d.2.1)
def Zjf:Fn:=⟨Tryz.f41,λ |2=>[.canon [0,1,7,8,9,10]]|3=>[.canon [0,1,6,7,8,9]]|4=>[.canon [0,1,7,8,9,15]]|5=>[.canon [4]]|6=>[.canon [0,1,7,8,9]]|100002=>[.canon [0,1,7,8,9]]|_=>[],Za8,λN=>[(52,Za3 N)]⟩
def Zrd(l3:List Int)(n4:Int)(t7:Int):St:=⟨[(0,vV Je l3),(1,vI n4),(7,vV Je l3),(8,vI (Wi l3)),(9,vI t7)],[],0⟩
def Zqr(l3:List Int)(n4:Int):St:=⟨[(4,vB false)],[],0⟩
def Zqs(l3:List Int)(n4:Int)(aw:Int)(ay:Bool):St:=⟨[(0,vV Je l3),(1,vI n4),(7,vV Je l3),(8,vI (Wi l3)),(9,vI aw),(10,vB ay)],[],0⟩
theorem Zre(N:Nat){R:Type}(K:Ex->St->Option R){l3:List Int}{n4:Int}{K0:Option R}{K1:Int->Bool->Option R}(h0:K0=K .ret (Zqr l3 n4))(h1:K1= λaw ay=>K (.exit 0) (Zqs l3 n4 aw ay))(n:Nat)(t7:Int):Zaz N l3 n4 K0 K1 n t7=LM Zjf N 0 100002 n (Zrd l3 n4 t7) K:=by
  subst h0 h1
  induction n generalizing t7 with
  |zero=>kernel_rfl
  |succ n ih=>rw[Zaz];simp only[ih];kernel_rfl
theorem Zy3(N:Nat)(l1:List Int)(n2:Int):DN Zjf N (l1,n2,())=Z7 N l1 n2:=by
  conv=>rhs;rw[Z7];simp(disch:=exact id (by kernel_rfl)) only[Zre (R:=Unit×Ko) N (CF Zjf N [1,0,1,0])]
  kernel_rfl
theorem Zb9(N:Nat):GW 41 (Za8 N):=GF Zjf N Tryz.func41 (GC (Zbs N) Wg) (λd=>Zy3 N d.1 d.2.1)
def Zm3(N:Nat):Sig:=Sig.of [.v Je false] [.v Jy false] (λd=>Zie N d.1)
def Zm4:Fn:=⟨Tryz.f38,λ |2=>[.canon [0,5,6,7,8]]|3=>[.canon [0,4,5,6,7]]|4=>[.canon [0,5,6,7,13]]|5=>[.canon [2]]|6=>[.canon [0,5,6,7]]|100002=>[.canon [0,5,6,7]]|_=>[],Zm3,λN=>[(42,Zw N)]⟩
def Zy4(l2:List Int)(t5:Int):St:=⟨[(0,vV Je l2),(5,vV Je l2),(6,vI (Wi l2)),(7,vI t5)],[],0⟩
def Zwv(l2:List Int):St:=⟨[(2,vB false)],[],0⟩
def Zww(l2:List Int)(t8:Int)(t9:Bool):St:=⟨[(0,vV Je l2),(5,vV Je l2),(6,vI (Wi l2)),(7,vI t8),(8,vB t9)],[],0⟩
theorem Zy5(N:Nat){R:Type}(K:Ex->St->Option R){l2:List Int}{K0:Option R}{K1:Int->Bool->Option R}(h0:K0=K .ret (Zwv l2))(h1:K1= λt8 t9=>K (.exit 0) (Zww l2 t8 t9))(n:Nat)(t5:Int):Zeq N l2 K0 K1 n t5=LM Zm4 N 0 100002 n (Zy4 l2 t5) K:=by
  subst h0 h1
  induction n generalizing t5 with
  |zero=>kernel_rfl
  |succ n ih=>rw[Zeq];simp only[ih];kernel_rfl
theorem Z3y(N:Nat)(l1:List Int):DN Zm4 N (l1,())=Zie N l1:=by
  conv=>rhs;rw[Zie];simp(disch:=exact id (by kernel_rfl)) only[Zy5 (R:=Unit×Ko) N (CF Zm4 N [1,0,1,0])]
  kernel_rfl
theorem Zr2(N:Nat):GW 38 (Zm3 N):=GF Zm4 N Tryz.func38 (GC (Z1 N) Wg) (λd=>Z3y N d.1)
def Zjw(N:Nat):Sig:=Sig.of [.v Jx true] [.v Jy false] (λd=>Zi8 N d.1)
def Z0b:Fn:=⟨Tryz.f26,WI,Zjw,λN=>[(41,Za8 N),(38,Zm3 N),(52,Za3 N)]⟩
theorem Zp0(N:Nat):GW 26 (Zjw N):=GF Z0b N Tryz.func26 (GC (Zb9 N) (GC (Zr2 N) (GC (Zbs N) Wg)))
def Zpf(N:Nat):Sig:=Sig.of [.v Ja false] [.v Jy false] (λd=>Zb0 N d.1)
def Z3z:Fn:=⟨Tryz.f148,WI,Zpf,λN=>[(42,Zw N)]⟩
theorem Z30(N:Nat):GW 148 (Zpf N):=GF Z3z N Tryz.func148 (GC (Z1 N) Wg)
def Zbn(N:Nat):Sig:=Sig.of [.v Ja false] [.v Jy false] (λd=>Zay N d.1)
def Z2v:Fn:=⟨Tryz.f56,WI,Zbn,λN=>[(42,Zw N)]⟩
theorem Zcn(N:Nat):GW 56 (Zbn N):=GF Z2v N Tryz.func56 (GC (Z1 N) Wg)
def Ze5(N:Nat):Sig:=Sig.of [.v Ja false] [.v Jy false] (λd=>Zba N d.1)
def Z31:Fn:=⟨Tryz.f74,WI,Ze5,λN=>[(42,Zw N)]⟩
theorem Zh8(N:Nat):GW 74 (Ze5 N):=GF Z31 N Tryz.func74 (GC (Z1 N) Wg)
def Zi3(N:Nat):Sig:=Sig.of [.v Ju true] [.v Jy false] (λd=>Zhv N d.1)
def Z4j:Fn:=⟨Tryz.f106,WI,Zi3,λN=>[(148,Zpf N),(52,Za3 N),(56,Zbn N),(42,Zw N),(74,Ze5 N)]⟩
theorem Znt(N:Nat):GW 106 (Zi3 N):=GF Z4j N Tryz.func106 (GC (Z30 N) (GC (Zbs N) (GC (Zcn N) (GC (Z1 N) (GC (Zh8 N) Wg)))))
def Zkp(N:Nat):Sig:=Sig.of [.v Ju true] [.v Ja false] (λd=>Zhx N d.1)
def Z07:Fn:=⟨Tryz.f104,WI,Zkp,λN=>[(106,Zi3 N)]⟩
theorem Zqe(N:Nat):GW 104 (Zkp N):=GF Z07 N Tryz.func104 (GC (Znt N) Wg)
def Zkb(N:Nat):Sig:=Sig.of [.v Ju true] [.v Ja false] (λd=>Zj5 N d.1)
def Z32:Fn:=⟨Tryz.f147,WI,Zkb,Wbo⟩
theorem Zpg(N:Nat):GW 147 (Zkb N):=GF Z32 N Tryz.func147 Wg
def Zlo(N:Nat):Sig:=Sig.of [.v Jh false] [.v Jy false] (λd=>Zdk N d.1)
def Ziq:Fn:=⟨Tryz.f105,λ |3=>[.canon [3,6,7,8,9]]|4=>[.canon [3,5,6,7,8]]|5=>[.canon [3,6,7,8]]|6=>[.canon [3,6,7,8,17]]|7=>[.canon [2]]|8=>[.canon [3,6,7,8]]|100003=>[.canon [3,6,7,8]]|_=>[],Zlo,λN=>[(147,Zkb N)]⟩
def Zqt(n2:Int)(t3:List Ka)(t5:Int):St:=⟨[(3,vI n2),(6,vV Jh t3),(7,vI (Wi t3)),(8,vI t5)],[],0⟩
def Zqf(t3:List Ka):St:=⟨[(2,vB false)],[],0⟩
def Zqg(t3:List Ka)(n8:Int)(t9:Int)(aw:Bool):St:=⟨[(3,vI n8),(6,vV Jh t3),(7,vI (Wi t3)),(8,vI t9),(9,vB aw)],[],0⟩
theorem Zqu(N:Nat){R:Type}(K:Ex->St->Option R){t3:List Ka}{K0:Option R}{K1:Int->Int->Bool->Option R}(h0:K0=K .ret (Zqf t3))(h1:K1= λn8 t9 aw=>K (.exit 0) (Zqg t3 n8 t9 aw))(n:Nat)(n2:Int)(t5:Int):Zb1 N t3 K0 K1 n n2 t5=LM Ziq N 0 100003 n (Zqt n2 t3 t5) K:=by
  subst h0 h1
  induction n generalizing n2 t5 with
  |zero=>kernel_rfl
  |succ n ih=>rw[Zb1];simp only[ih];kernel_rfl
theorem Zwx(N:Nat)(ad:List Ka):DN Ziq N (ad,())=Zdk N ad:=by
  conv=>rhs;rw[Zdk];simp(disch:=exact id (by kernel_rfl)) only[Zqu (R:=Unit×Ko) N (CF Ziq N [1,1,0,1,0])]
  kernel_rfl
theorem Zwy(N:Nat):GW 105 (Zlo N):=GF Ziq N Tryz.func105 (GC (Zpg N) Wg) (λd=>Zwx N d.1)
def Zn1(N:Nat):Sig:=Sig.of [.v Jh false,.v Ja false] [.v Ja false] (λd=>Zhy N d.1 d.2.1)
def Zkq:Fn:=⟨Tryz.f107,λ |3=>[.canon [1,5,8,9,10,11]]|4=>[.canon [1,5,6,7,8,9,10]]|5=>[.canon [1,5,7,8,9,10,17]]|6=>[.canon [1,5,8,9,10]]|7=>[.canon [1,5,8,9,10]]|100003=>[.canon [1,5,8,9,10]]|_=>[],Zn1,λN=>[(147,Zkb N)]⟩
def Zt0(i3:Int)(n4:Int)(t5:List Ka)(t7:Int):St:=⟨[(1,vI i3),(5,vI n4),(8,vV Jh t5),(9,vI (Wi t5)),(10,vI t7)],[],0⟩
def Zr3(i3:Int)(t5:List Ka)(io:Int)(ay:Int)(ai:Bool):St:=⟨[(1,vI i3),(5,vI io),(8,vV Jh t5),(9,vI (Wi t5)),(10,vI ay),(11,vB ai)],[],0⟩
theorem Zt1(N:Nat){R:Type}(K:Ex->St->Option R){i3:Int}{t5:List Ka}{K0:Int->Int->Bool->Option R}(h0:K0= λio ay ai=>K (.exit 0) (Zr3 i3 t5 io ay ai))(n:Nat)(n4:Int)(t7:Int):Zb4 N i3 t5 K0 n n4 t7=LM Zkq N 0 100003 n (Zt0 i3 n4 t5 t7) K:=by
  subst h0
  induction n generalizing n4 t7 with
  |zero=>kernel_rfl
  |succ n ih=>rw[Zb4];simp only[ih];kernel_rfl
theorem Z08(N:Nat)(ad:List Ka)(i2:Int):DN Zkq N (ad,i2,())=Zhy N ad i2:=by
  conv=>rhs;rw[Zhy];simp(disch:=exact id (by kernel_rfl)) only[Zt1 (R:=Unit×Ki) N (CF Zkq N [1,1,0,1,0])]
  kernel_rfl
theorem Z09(N:Nat):GW 107 (Zn1 N):=GF Zkq N Tryz.func107 (GC (Zpg N) Wg) (λd=>Z08 N d.1 d.2.1)
def Zl2(N:Nat):Sig:=Sig.of [.v Jh false] [.v Jy false] (λd=>Zc7 N d.1)
def Zl3:Fn:=⟨Tryz.f71,λ |5=>[.canon [0,3,14,15,16,17]]|6=>[.canon [0,3,4,5,14,15,16]]|7=>[.canon [0,3,4,5,14,15,16,23]]|8=>[.canon [2]]|9=>[.canon [0,3,4,5,14,15,16,25]]|10=>[.canon [0,3,4,5,14,15,16,25,26]]|11=>[.canon [0,3,14,15,16,48]]|12=>[.canon [2]]|13=>[.canon [0,3,4,14,15,16,49]]|14=>[.canon [0,3,4,14,15,16]]|15=>[.canon [0,3,14,15,16,60]]|16=>[.canon [2]]|17=>[.canon [0,3,14,15,16]]|100005=>[.canon [0,3,14,15,16]]|_=>[],Zl2,λN=>[(105,Zlo N),(106,Zi3 N),(107,Zn1 N)]⟩
def Zwz(af:List Ka)(aD:Int)(t7:Int):St:=⟨[(0,vV Jh af),(3,vI aD),(14,vV Jh af),(15,vI (Wi af)),(16,vI t7)],[],0⟩
def Zt2(af:List Ka):St:=⟨[(2,vB false)],[],0⟩
def Zt3(af:List Ka)(fu:Int)(aX:Int)(cJ:Bool):St:=⟨[(0,vV Jh af),(3,vI fu),(14,vV Jh af),(15,vI (Wi af)),(16,vI aX),(17,vB cJ)],[],0⟩
theorem Zw0(N:Nat){R:Type}(K:Ex->St->Option R){af:List Ka}{K0:Option R}{K1:Int->Int->Bool->Option R}(h0:K0=K .ret (Zt2 af))(h1:K1= λfu aX cJ=>K (.exit 0) (Zt3 af fu aX cJ))(n:Nat)(aD:Int)(t7:Int):Zbx N af K0 K1 n aD t7=LM Zl3 N 0 100005 n (Zwz af aD t7) K:=by
  subst h0 h1
  induction n generalizing aD t7 with
  |zero=>kernel_rfl
  |succ n ih=>rw[Zbx];simp only[ih];kernel_rfl
theorem Z2w(N:Nat)(ad:List Ka):DN Zl3 N (ad,())=Zc7 N ad:=by
  conv=>rhs;rw[Zc7];simp(disch:=exact id (by kernel_rfl)) only[Zw0 (R:=Unit×Ko) N (CF Zl3 N [1,1,1,0,1,0])]
  kernel_rfl
theorem Zq5(N:Nat):GW 71 (Zl2 N):=GF Zl3 N Tryz.func71 (GC (Zwy N) (GC (Znt N) (GC (Z09 N) Wg))) (λd=>Z2w N d.1)
def Zph(N:Nat):Sig:=Sig.of [.v Jh false] [.v Jy false] (λd=>Zic N d.1)
def Zm5:Fn:=⟨Tryz.f70,λ |2=>[.canon [0,5,6,7,8]]|3=>[.canon [0,4,5,6,7]]|4=>[.canon [0,5,6,7,18]]|5=>[.canon [2]]|6=>[.canon [0,5,6,7]]|100002=>[.canon [0,5,6,7]]|_=>[],Zph,λN=>[(104,Zkp N),(71,Zl2 N)]⟩
def Zy6(aa:List Ka)(t5:Int):St:=⟨[(0,vV Jh aa),(5,vV Jh aa),(6,vI (Wi aa)),(7,vI t5)],[],0⟩
def Zw1(aa:List Ka):St:=⟨[(2,vB false)],[],0⟩
def Zw2(aa:List Ka)(t8:Int)(t9:Bool):St:=⟨[(0,vV Jh aa),(5,vV Jh aa),(6,vI (Wi aa)),(7,vI t8),(8,vB t9)],[],0⟩
theorem Zy7(N:Nat){R:Type}(K:Ex->St->Option R){aa:List Ka}{K0:Option R}{K1:Int->Bool->Option R}(h0:K0=K .ret (Zw1 aa))(h1:K1= λt8 t9=>K (.exit 0) (Zw2 aa t8 t9))(n:Nat)(t5:Int):Zem N aa K0 K1 n t5=LM Zm5 N 0 100002 n (Zy6 aa t5) K:=by
  subst h0 h1
  induction n generalizing t5 with
  |zero=>kernel_rfl
  |succ n ih=>rw[Zem];simp only[ih];kernel_rfl
theorem Z33(N:Nat)(ad:List Ka):DN Zm5 N (ad,())=Zic N ad:=by
  conv=>rhs;rw[Zic];simp(disch:=exact id (by kernel_rfl)) only[Zy7 (R:=Unit×Ko) N (CF Zm5 N [1,0,1,0])]
  kernel_rfl
theorem Z34(N:Nat):GW 70 (Zph N):=GF Zm5 N Tryz.func70 (GC (Zqe N) (GC (Zq5 N) Wg)) (λd=>Z33 N d.1)
def Zmo(N:Nat):Sig:=Sig.of [.v Ju true] [.v Jy false] (λd=>Zny N d.1)
def Zy8:Fn:=⟨Tryz.f109,WI,Zmo,Wbo⟩
theorem Zy9(N:Nat):GW 109 (Zmo N):=GF Zy8 N Tryz.func109 Wg
def Za0(N:Nat):Sig:=Sig.of [.v Jh false,.clos 109 0] [.v Ja false] (λd=>Z0 N d.1)
def Zac:Fn:=⟨Tryz.f149,λ |2=>[.canon [0,1,7,8,9]]|3=>[.canon [0,1,5,7,8]]|4=>[.canon [0,1,5,7,8,16]]|5=>[.canon [1,4]]|6=>[.canon [0,1,7,8]]|100002=>[.canon [0,1,7,8]]|_=>[],Za0,λN=>[(109,Zmo N)]⟩
def Zf9(s2:List Ka)(t4:Int):St:=⟨[(0,vV Jh s2),(1,.s (.one (.clos 109 []))),(7,vI (Wi s2)),(8,vI t4)],[],0⟩
def Zfn(s2:List Ka)(t7:Int):St:=⟨[(1,.s (.one (.clos 109 []))),(4,vI t7)],[],0⟩
def Zfo(s2:List Ka)(t8:Int)(t9:Bool):St:=⟨[(0,vV Jh s2),(1,.s (.one (.clos 109 []))),(7,vI (Wi s2)),(8,vI t8),(9,vB t9)],[],0⟩
theorem Zga(N:Nat){R:Type}(K:Ex->St->Option R){s2:List Ka}{K0:Int->Option R}{K1:Int->Bool->Option R}(h0:K0= λt7=>K .ret (Zfn s2 t7))(h1:K1= λt8 t9=>K (.exit 0) (Zfo s2 t8 t9))(n:Nat)(t4:Int):Zm N s2 K0 K1 n t4=LM Zac N 0 100002 n (Zf9 s2 t4) K:=by
  subst h0 h1
  induction n generalizing t4 with
  |zero=>kernel_rfl
  |succ n ih=>rw[Zm];simp only[ih];kernel_rfl
theorem Zg1(N:Nat)(s1:List Ka):DN Zac N (s1,())=Z0 N s1:=by
  conv=>rhs;rw[Z0];simp(disch:=exact id (by kernel_rfl)) only[Zga (R:=Unit×Ki) N (CF Zac N [1,0,1,0])]
  kernel_rfl
theorem Zg2(N:Nat):GW 149 (Za0 N):=GF Zac N Tryz.func149 (GC (Zy9 N) Wg) (λd=>Zg1 N d.1)
def Zas(N:Nat):Sig:=Sig.of [.v Jh false,.clos 109 0] [.v Jy false] (λd=>Zaw N d.1)
def Zge:Fn:=⟨Tryz.f108,WI,Zas,λN=>[(149,Za0 N)]⟩
theorem Zgf(N:Nat):GW 108 (Zas N):=GF Zge N Tryz.func108 (GC (Zg2 N) Wg)
def Zn2(N:Nat):Sig:=Sig.of [.v Jh false] [.v Jy false] (λd=>Zhz N d.1)
def Z1a:Fn:=⟨Tryz.f72,WI,Zn2,λN=>[(108,Zas N)]⟩
theorem Z1b(N:Nat):GW 72 (Zn2 N):=GF Z1a N Tryz.func72 (GC (Zgf N) Wg)
def Zot(N:Nat):Sig:=Sig.of [.v Jo true] [.v Jy false] (λd=>Ziy N d.1)
def Zl4:Fn:=⟨Tryz.f37,λ |2=>[.canon [1,6,7,8,9]]|3=>[.canon [1,4,6,7,8]]|4=>[.canon [1,6,7,8,15]]|5=>[.canon [2]]|6=>[.canon [1,6,7,8]]|100002=>[.canon [1,6,7,8]]|_=>[],Zot,λN=>[(70,Zph N),(71,Zl2 N),(72,Zn2 N)]⟩
def Zw3(t2:List Kx)(t4:Int)(b5:List Ka×List Kx):St:=⟨[(1,vP 0 0),(6,vV (.slice Jh) t2),(7,vI (Wi b5.2)),(8,vI t4)],[(0,.box [.val Jh b5.1,.val (.slice Jh) b5.2])],1⟩
def Zt4(t2:List Kx)(b5:List Ka×List Kx):St:=⟨[(2,vB false)],[],0⟩
def Zt5(t2:List Kx)(b5:List Ka×List Kx)(t8:Int)(t9:Bool):St:=⟨[(1,vP 0 0),(6,vV (.slice Jh) t2),(7,vI (Wi b5.2)),(8,vI t8),(9,vB t9)],[(0,.box [.val Jh b5.1,.val (.slice Jh) b5.2])],1⟩
theorem Zw4(N:Nat){R:Type}(K:Ex->St->Option R){t2:List Kx}{b5:List Ka×List Kx}{K0:Option R}{K1:Int->Bool->Option R}(h0:K0=K .ret (Zt4 t2 b5))(h1:K1= λt8 t9=>K (.exit 0) (Zt5 t2 b5 t8 t9))(n:Nat)(t4:Int):Zdn N t2 b5 K0 K1 n t4=LM Zl4 N 0 100002 n (Zw3 t2 t4 b5) K:=by
  subst h0 h1
  induction n generalizing t4 with
  |zero=>kernel_rfl
  |succ n ih=>rw[Zdn];simp only[ih];kernel_rfl
theorem Z2x(N:Nat)(p1:List Ka×List Kx):DN Zl4 N (p1,())=Ziy N p1:=by
  conv=>rhs;rw[Ziy];simp(disch:=exact id (by kernel_rfl)) only[Zw4 (R:=Unit×Ko) N (CF Zl4 N [1,0,1,0])]
  kernel_rfl
theorem Z2y(N:Nat):GW 37 (Zot N):=GF Zl4 N Tryz.func37 (GC (Z34 N) (GC (Zq5 N) (GC (Z1b N) Wg))) (λd=>Z2x N d.1)
def Zlp(N:Nat):Sig:=Sig.of [.v Jo true] [.v Jy false] (λd=>Zjr N d.1)
def Zw5:Fn:=⟨Tryz.f36,WI,Zlp,λN=>[(37,Zot N)]⟩
theorem Zw6(N:Nat):GW 36 (Zlp N):=GF Zw5 N Tryz.func36 (GC (Z2y N) Wg)
def Zan(N:Nat):Sig:=Sig.of [.v Jab false,.clos 36 0] [.v Ja false] (λd=>Zt N d.1)
def Z9:Fn:=⟨Tryz.f69,λ |2=>[.canon [0,1,7,8,9]]|3=>[.canon [0,1,5,7,8]]|4=>[.canon [0,1,5,7,8,16]]|5=>[.canon [1,4]]|6=>[.canon [0,1,7,8]]|100002=>[.canon [0,1,7,8]]|_=>[],Zan,λN=>[(36,Zlp N)]⟩
def Zet(s2:List Km)(t4:Int):St:=⟨[(0,vV Jab s2),(1,.s (.one (.clos 36 []))),(7,vI (Wi s2)),(8,vI t4)],[],0⟩
def Zeb(s2:List Km)(t7:Int):St:=⟨[(1,.s (.one (.clos 36 []))),(4,vI t7)],[],0⟩
def Zec(s2:List Km)(t8:Int)(t9:Bool):St:=⟨[(0,vV Jab s2),(1,.s (.one (.clos 36 []))),(7,vI (Wi s2)),(8,vI t8),(9,vB t9)],[],0⟩
theorem Zeu(N:Nat){R:Type}(K:Ex->St->Option R){s2:List Km}{K0:Int->Option R}{K1:Int->Bool->Option R}(h0:K0= λt7=>K .ret (Zeb s2 t7))(h1:K1= λt8 t9=>K (.exit 0) (Zec s2 t8 t9))(n:Nat)(t4:Int):Ze N s2 K0 K1 n t4=LM Z9 N 0 100002 n (Zet s2 t4) K:=by
  subst h0 h1
  induction n generalizing t4 with
  |zero=>kernel_rfl
  |succ n ih=>rw[Ze];simp only[ih];kernel_rfl
theorem Zfp(N:Nat)(s1:List Km):DN Z9 N (s1,())=Zt N s1:=by
  conv=>rhs;rw[Zt];simp(disch:=exact id (by kernel_rfl)) only[Zeu (R:=Unit×Ki) N (CF Z9 N [1,0,1,0])]
  kernel_rfl
theorem Zfq(N:Nat):GW 69 (Zan N):=GF Z9 N Tryz.func69 (GC (Zw6 N) Wg) (λd=>Zfp N d.1)
def Zai(N:Nat):Sig:=Sig.of [.v Jab false,.clos 36 0] [.v Jy false] (λd=>Zal N d.1)
def Ze6:Fn:=⟨Tryz.f35,WI,Zai,λN=>[(69,Zan N)]⟩
theorem Ze7(N:Nat):GW 35 (Zai N):=GF Ze6 N Tryz.func35 (GC (Zfq N) Wg)
def Znh(N:Nat):Sig:=Sig.of [.v Jag true] [.v Jy false] (λd=>Zlw N d.1)
def Z0c:Fn:=⟨Tryz.f14,WI,Znh,λN=>[(26,Zjw N),(35,Zai N)]⟩
theorem Z0d(N:Nat):GW 14 (Znh N):=GF Z0c N Tryz.func14 (GC (Zp0 N) (GC (Ze7 N) Wg))
def Zn3(N:Nat):Sig:=Sig.of [] [.v Jf false] (λd=>Zpc N)
def Z1c:Fn:=⟨Tryz.f39,WI,Zn3,Wbo⟩
theorem Z1d(N:Nat):GW 39 (Zn3 N):=GF Z1c N Tryz.func39 Wg
def Zy(N:Nat):Sig:=Sig.of [.v Je false] [.v Jf false] (λd=>Zp N d.1)
def Z0e:Fn:=⟨Tryz.f60,WI,Zy,Wbo⟩
theorem Z4(N:Nat):GW 60 (Zy N):=GF Z0e N Tryz.func60 Wg
def Zl5(N:Nat):Sig:=Sig.of [.v Ja false,.v Ja false] [.v Ja false] (λd=>Ziz N d.1 d.2.1)
def Z2z:Fn:=⟨Tryz.f77,WI,Zl5,Wbo⟩
theorem Zq6(N:Nat):GW 77 (Zl5 N):=GF Z2z N Tryz.func77 Wg
def Zm6(N:Nat):Sig:=Sig.of [.v Ja false] [.v Ja false] (λd=>Zif N d.1)
def Z35:Fn:=⟨Tryz.f110,WI,Zm6,Wbo⟩
theorem Zr4(N:Nat):GW 110 (Zm6 N):=GF Z35 N Tryz.func110 Wg
def Zjx(N:Nat):Sig:=Sig.of [.v Ja false] [.v Ja false] (λd=>Zi9 N d.1)
def Z0f:Fn:=⟨Tryz.f78,WI,Zjx,λN=>[(74,Ze5 N)]⟩
theorem Zp1(N:Nat):GW 78 (Zjx N):=GF Z0f N Tryz.func78 (GC (Zh8 N) Wg)
def Zgt(N:Nat):Sig:=Sig.of [.v Je false] [.v Jy false] (λd=>Zda N d.1)
def Zkr:Fn:=⟨Tryz.f73,λ |5=>[.canon [3,9,10,11,12]]|6=>[.canon [3,4,5,9,10,11]]|7=>[.canon [3,4,5,9,10,11,17]]|8=>[.canon [3,5,9,10,11,35]]|9=>[.canon [2]]|10=>[.canon [3,9,10,11]]|11=>[.canon [3,9,10,11]]|100005=>[.canon [3,9,10,11]]|_=>[],Zgt,λN=>[(77,Zl5 N),(42,Zw N),(110,Zm6 N),(78,Zjx N)]⟩
def Zt6(t2:List Int)(t4:Int)(l5:List Bool):St:=⟨[(3,.s (.one (.aptr 0))),(9,vV Je t2),(10,vI (Wi t2)),(11,vI t4)],[(0,.arr Jy l5)],1⟩
def Zr5(t2:List Int):St:=⟨[(2,vB false)],[],0⟩
def Zr6(t2:List Int)(eI:Int)(ew:Bool)(dM:List Bool):St:=⟨[(3,.s (.one (.aptr 0))),(9,vV Je t2),(10,vI (Wi t2)),(11,vI eI),(12,vB ew)],[(0,.arr Jy dM)],1⟩
theorem Zt7(N:Nat){R:Type}(K:Ex->St->Option R){t2:List Int}{K0:Option R}{K1:Int->Bool->(List Bool)->Option R}(h0:K0=K .ret (Zr5 t2))(h1:K1= λeI ew dM=>K (.exit 0) (Zr6 t2 eI ew dM))(n:Nat)(t4:Int)(l5:List Bool):Zb5 N t2 K0 K1 n t4 l5=LM Zkr N 0 100005 n (Zt6 t2 t4 l5) K:=by
  subst h0 h1
  induction n generalizing t4 l5 with
  |zero=>kernel_rfl
  |succ n ih=>rw[Zb5];simp only[ih];kernel_rfl
theorem Z1e(N:Nat)(l1:List Int):DN Zkr N (l1,())=Zda N l1:=by
  conv=>rhs;rw[Zda];simp(disch:=exact id (by kernel_rfl)) only[Zt7 (R:=Unit×Ko) N (CF Zkr N [1,1,1,0,1,0])]
  kernel_rfl
theorem Zks(N:Nat):GW 73 (Zgt N):=GF Zkr N Tryz.func73 (GC (Zq6 N) (GC (Z1 N) (GC (Zr4 N) (GC (Zp1 N) Wg)))) (λd=>Z1e N d.1)
def Zlj(N:Nat):Sig:=Sig.of [.v Je false,.v Ja false] [.v Ja false] (λd=>Zg0 N d.1 d.2.1)
def Znu:Fn:=⟨Tryz.f75,λ |2=>[.canon [1,7,8,9,10]]|3=>[.canon [1,5,6,7,8,9]]|4=>[.canon [1,5,7,8,9,21]]|5=>[.canon [4]]|6=>[.canon [1,7,8,9]]|100002=>[.canon [1,7,8,9]]|_=>[],Zlj,λN=>[(110,Zm6 N)]⟩
def Z0g(dD:Int)(t4:List Int)(t6:Int):St:=⟨[(1,vI dD),(7,vV Je t4),(8,vI (Wi t4)),(9,vI t6)],[],0⟩
def Zza(dD:Int)(t4:List Int)(t9:Int):St:=⟨[(4,vI t9)],[],0⟩
def Zzb(dD:Int)(t4:List Int)(aw:Int)(ay:Bool):St:=⟨[(1,vI dD),(7,vV Je t4),(8,vI (Wi t4)),(9,vI aw),(10,vB ay)],[],0⟩
theorem Z0h(N:Nat){R:Type}(K:Ex->St->Option R){dD:Int}{t4:List Int}{K0:Int->Option R}{K1:Int->Bool->Option R}(h0:K0= λt9=>K .ret (Zza dD t4 t9))(h1:K1= λaw ay=>K (.exit 0) (Zzb dD t4 aw ay))(n:Nat)(t6:Int):Zdy N dD t4 K0 K1 n t6=LM Znu N 0 100002 n (Z0g dD t4 t6) K:=by
  subst h0 h1
  induction n generalizing t6 with
  |zero=>kernel_rfl
  |succ n ih=>rw[Zdy];simp only[ih];kernel_rfl
theorem Z4k(N:Nat)(l1:List Int)(bT:Int):DN Znu N (l1,bT,())=Zg0 N l1 bT:=by
  conv=>rhs;rw[Zg0];simp(disch:=exact id (by kernel_rfl)) only[Z0h (R:=Unit×Ki) N (CF Znu N [1,0,1,0])]
  kernel_rfl
theorem Zpt(N:Nat):GW 75 (Zlj N):=GF Znu N Tryz.func75 (GC (Zr4 N) Wg) (λd=>Z4k N d.1 d.2.1)
def Zik(N:Nat):Sig:=Sig.of [.v Je false,.v Ja false] [.v Ja false,.v Jy false] (λd=>Zh0 N d.1 d.2.1)
def Z1f:Fn:=⟨Tryz.f76,WI,Zik,λN=>[(73,Zgt N),(74,Ze5 N),(75,Zlj N)]⟩
theorem Zn4(N:Nat):GW 76 (Zik N):=GF Z1f N Tryz.func76 (GC (Zks N) (GC (Zh8 N) (GC (Zpt N) Wg)))
def Zil(N:Nat):Sig:=Sig.of [.v Je false,.v Ja false,.v Ja false] [.v Jf false,.v Ja false,.v Jy false] (λd=>Ze1 N d.1 d.2.1 d.2.2.1)
def Zkt:Fn:=⟨Tryz.f40,λ |10=>[.canon [1,2,9,13,57]]|11=>[.canon [1,2,9,13]]|100010=>[.canon [1,2,9,13]]|_=>[],Zil,λN=>[(60,Zy N),(73,Zgt N),(74,Ze5 N),(52,Za3 N),(75,Zlj N),(76,Zik N),(77,Zl5 N),(78,Zjx N)]⟩
def Zt8(dr:Int)(lw:Int)(ep:Int)(aO:List Int):St:=⟨[(1,vI dr),(2,vI lw),(9,vO 0),(13,vI ep)],[(0,.arr Ja aO)],1⟩
def Zr7(dr:Int)(lw:Int)(aO:List Int)(nH:Int)(bV:Bool):St:=⟨[(1,vI dr),(2,vI lw),(9,vO 0),(13,vI nH),(57,vB bV)],[(0,.arr Ja aO)],1⟩
theorem Zt9(N:Nat){R:Type}(K:Ex->St->Option R){dr:Int}{lw:Int}{aO:List Int}{K0:Int->Bool->Option R}(h0:K0= λnH bV=>K (.exit 0) (Zr7 dr lw aO nH bV))(n:Nat)(ep:Int):Zct N dr lw aO K0 n ep=LM Zkt N 0 100010 n (Zt8 dr lw ep aO) K:=by
  subst h0
  induction n generalizing ep with
  |zero=>kernel_rfl
  |succ n ih=>rw[Zct];simp only[ih];kernel_rfl
theorem Z1g(N:Nat)(l1:List Int)(bT:Int)(v3:Int):DN Zkt N (l1,bT,v3,())=Ze1 N l1 bT v3:=by
  conv=>rhs;rw[Ze1];simp(disch:=exact id (by kernel_rfl)) only[Zt9 (R:=Unit×(Kh×Kl)) N (CF Zkt N [1,1,1,1,1,0,0])]
  kernel_rfl
theorem Zn5(N:Nat):GW 40 (Zil N):=GF Zkt N Tryz.func40 (GC (Z4 N) (GC (Zks N) (GC (Zh8 N) (GC (Zbs N) (GC (Zpt N) (GC (Zn4 N) (GC (Zq6 N) (GC (Zp1 N) Wg)))))))) (λd=>Z1g N d.1 d.2.1 d.2.2.1)
def Zmp(N:Nat):Sig:=Sig.of [.v Je false] [.v Jf false] (λd=>Zbb N d.1)
def Zjg:Fn:=⟨Tryz.f15,λ |5=>[.canon [3,10,11,12,13]]|6=>[.canon [3,4,5,10,11,12]]|7=>[.canon [3,4,5,10,11,12,18]]|8=>[.canon [3,10,11,12]]|9=>[.canon [3,10,11,12]]|100005=>[.canon [3,10,11,12]]|_=>[],Zmp,λN=>[(38,Zm3 N),(39,Zn3 N),(40,Zil N)]⟩
def Zrf(t4:List Int)(t6:Int)(l7:List Int):St:=⟨[(3,vO 0),(10,vV Je t4),(11,vI (Wi t4)),(12,vI t6)],[(0,.arr Ja l7)],1⟩
def Zqv(t4:List Int)(aw:Int)(ay:Bool)(aK:List Int):St:=⟨[(3,vO 0),(10,vV Je t4),(11,vI (Wi t4)),(12,vI aw),(13,vB ay)],[(0,.arr Ja aK)],1⟩
theorem Zrg(N:Nat){R:Type}(K:Ex->St->Option R){t4:List Int}{K0:Int->Bool->Kh->Option R}(h0:K0= λaw ay aK=>K (.exit 0) (Zqv t4 aw ay aK))(n:Nat)(t6:Int)(l7:List Int):Zbj N t4 K0 n t6 l7=LM Zjg N 0 100005 n (Zrf t4 t6 l7) K:=by
  subst h0
  induction n generalizing t6 l7 with
  |zero=>kernel_rfl
  |succ n ih=>rw[Zbj];simp only[ih];kernel_rfl
theorem Zzc(N:Nat)(m1:List Int):DN Zjg N (m1,())=Zbb N m1:=by
  conv=>rhs;rw[Zbb];simp(disch:=exact id (by kernel_rfl)) only[Zrg (R:=Unit×Ky) N (CF Zjg N [1,1,1,0,1,0])]
  kernel_rfl
theorem Zzd(N:Nat):GW 15 (Zmp N):=GF Zjg N Tryz.func15 (GC (Zr2 N) (GC (Z1d N) (GC (Zn5 N) Wg))) (λd=>Zzc N d.1)
def Zou(N:Nat):Sig:=Sig.of [.v Je false] [.v Jac true,.v Jy false] (λd=>Zcb N d.1)
def Zl6:Fn:=⟨Tryz.f16,λ |5=>[.canon [2,4,12,13,14,15]]|6=>[.canon [2,4,6,12,13,14]]|7=>[.canon [2,4,12,13,14]]|8=>[.canon [2,4,12,13,14]]|100005=>[.adoptC 4 1 Jb,.canon [2,4,12,13,14]]|_=>[],Zou,λN=>[(41,Za8 N)]⟩
def Zw7(t3:List Int)(t5:Int)(l8:List Kb):St:=⟨[(2,vP 0 0),(4,vP 1 0),(12,vV Je t3),(13,vI (Wi t3)),(14,vI t5)],[(0,.box [.val Ja (0:Int),.nils]),(1,.box [.val Ja (0:Int),.own 2]),(2,.arr Jb l8)],3⟩
def Zua(t3:List Int)(t9:Int)(aw:Bool)(aq:List Kb):St:=⟨[(2,vP 0 0),(4,vP 1 0),(12,vV Je t3),(13,vI (Wi t3)),(14,vI t9),(15,vB aw)],[(0,.box [.val Ja (0:Int),.nils]),(1,.box [.val Ja (0:Int),.own 2]),(2,.arr Jb aq)],3⟩
theorem Zw8(N:Nat){R:Type}(K:Ex->St->Option R){t3:List Int}{K0:Int->Bool->Kt->Option R}(h0:K0= λt9 aw aq=>K (.exit 0) (Zua t3 t9 aw aq))(n:Nat)(t5:Int)(l8:List Kb):Zdm N t3 K0 n t5 l8=LM Zl6 N 0 100005 n (Zw7 t3 t5 l8) K:=by
  subst h0
  induction n generalizing t5 l8 with
  |zero=>kernel_rfl
  |succ n ih=>rw[Zdm];simp only[ih];kernel_rfl
theorem Z20(N:Nat)(l1:List Int):DN Zl6 N (l1,())=Zcb N l1:=by
  conv=>rhs;rw[Zcb];simp(disch:=exact id (by kernel_rfl)) only[Zw8 (R:=Unit×(Kv×Ko)) N (CF Zl6 N [1,1,1,0,1,0])]
  kernel_rfl
theorem Z21(N:Nat):GW 16 (Zou N):=GF Zl6 N Tryz.func16 (GC (Zb9 N) Wg) (λd=>Z20 N d.1)
def Zc3(N:Nat):Sig:=Sig.of [.box Jl] [] (λd=>Zbc N d.1)
def Zze:Fn:=⟨Tryz.f79,WI,Zc3,Wbo⟩
theorem Zha(N:Nat):GW 79 (Zc3 N):=GF Zze N Tryz.func79 Wg
def Zlq(N:Nat):Sig:=Sig.of [.box Jn,.v Ja false] [] (λd=>Zf3 N d.1 d.2.1)
def Zir:Fn:=⟨Tryz.f80,λ |3=>[.canon [0,1,4,5,17,18,19,20]]|4=>[.canon [0,1,4,5,6,7,17,18,19]]|5=>[.canon [0,1,4,5,17,18,19]]|6=>[.canon [0,1,4,5,17,18,19]]|100003=>[.canon [0,1,4,5,17,18,19]]|_=>[],Zlq,Wbo⟩
def Zqw(k3:Int)(r4:Nat)(cO:Bool)(t6:Int)(t7:Int)(b8:Int)(b9:Int)(ba:Int)(aR:Int)(aK:List Y_Root)(aJ:List Kb)(bj:List Int)(aO:List Kb)(dg:List Kn):St:=⟨[(0,vP 0 0),(1,vI k3),(4,.s (.one (.eptr 1 r4 0))),(5,vB cO),(17,vO 1),(18,vI t6),(19,vI t7)],[(0,.box [.val Ja b8,.val Ja b9,.val Ja ba,.own 2,.own 3,.val Ja aR,.own 4,.own 1,.own 5]),(1,.arr Jl aK),(2,.arr Jb aJ),(3,.arr Ja bj),(4,.arr Jb aO),(5,.arr Ji dg)],6⟩
def Zqh(k3:Int)(r4:Nat)(t6:Int)(b8:Int)(b9:Int)(ba:Int)(aR:Int)(aK:List Y_Root)(aJ:List Kb)(bj:List Int)(aO:List Kb)(dg:List Kn)(fv:Bool)(eI:Int)(ew:Bool):St:=⟨[(0,vP 0 0),(1,vI k3),(4,.s (.one (.eptr 1 r4 0))),(5,vB fv),(17,vO 1),(18,vI t6),(19,vI eI),(20,vB ew)],[(0,.box [.val Ja b8,.val Ja b9,.val Ja ba,.own 2,.own 3,.val Ja aR,.own 4,.own 1,.own 5]),(1,.arr Jl aK),(2,.arr Jb aJ),(3,.arr Ja bj),(4,.arr Jb aO),(5,.arr Ji dg)],6⟩
theorem Zqx(N:Nat){R:Type}(K:Ex->St->Option R){k3:Int}{r4:Nat}{t6:Int}{b8:Int}{b9:Int}{ba:Int}{aR:Int}{aK:List Y_Root}{aJ:List Kb}{bj:List Int}{aO:List Kb}{dg:List Kn}{K0:Bool->Int->Bool->Option R}(h0:K0= λfv eI ew=>K (.exit 0) (Zqh k3 r4 t6 b8 b9 ba aR aK aJ bj aO dg fv eI ew))(n:Nat)(cO:Bool)(t7:Int):Zat N k3 r4 t6 b8 b9 ba aR aK aJ bj aO dg K0 n cO t7=LM Zir N 0 100003 n (Zqw k3 r4 cO t6 t7 b8 b9 ba aR aK aJ bj aO dg) K:=by
  subst h0
  induction n generalizing cO t7 with
  |zero=>kernel_rfl
  |succ n ih=>rw[Zat];simp only[ih];kernel_rfl
theorem Zw9(N:Nat)(w1:Y_World)(k2:Int):DN Zir N (w1,k2,())=Zf3 N w1 k2:=by
  conv=>rhs;rw[Zf3];simp(disch:=exact id (by kernel_rfl)) only[Zqx (R:=(Y_World×Unit)×Unit) N (CF Zir N [1,1,0,1,0])]
  kernel_rfl
theorem Zxa(N:Nat):GW 80 (Zlq N):=GF Zir N Tryz.func80 Wg (λd=>Zw9 N d.1 d.2.1)
def Zl7(N:Nat):Sig:=Sig.of [.v Ja false,.v Ja false,.v Ja false] [.v Jy false] (λd=>Zi0 N d.1 d.2.1 d.2.2.1)
def Z22:Fn:=⟨Tryz.f177,WI,Zl7,λN=>[(42,Zw N)]⟩
theorem Zq7(N:Nat):GW 177 (Zl7 N):=GF Z22 N Tryz.func177 (GC (Z1 N) Wg)
def Zkc(N:Nat):Sig:=Sig.of [.v Jb true,.v Jb true] [.v Ja false] (λd=>Zio N d.1 d.2.1)
def Zr8:Fn:=⟨Tryz.f178,WI,Zkc,Wbo⟩
theorem Zr9(N:Nat):GW 178 (Zkc N):=GF Zr8 N Tryz.func178 Wg
def Zgu(N:Nat):Sig:=Sig.of [.v Jk false] [.v Jy false] (λd=>Ze2 N d.1)
def Zku:Fn:=⟨Tryz.f124,λ |2=>[.canon [0,5,6,7,8]]|3=>[.canon [0,3,4,5,6,7]]|4=>[.canon [0,3,4,5,6,7,33]]|5=>[.canon [2]]|6=>[.canon [0,5,6,7,60]]|7=>[.canon [2]]|8=>[.canon [0,5,6,7]]|100002=>[.canon [0,5,6,7]]|_=>[],Zgu,λN=>[(177,Zl7 N),(178,Zkc N)]⟩
def Zub(l2:List Kb)(t5:Int):St:=⟨[(0,vV Jk l2),(5,vV Jk l2),(6,vI (Wi l2)),(7,vI t5)],[],0⟩
def Zsa(l2:List Kb):St:=⟨[(2,vB false)],[],0⟩
def Zsb(l2:List Kb)(aw:Int)(ay:Bool):St:=⟨[(0,vV Jk l2),(5,vV Jk l2),(6,vI (Wi l2)),(7,vI aw),(8,vB ay)],[],0⟩
theorem Zuc(N:Nat){R:Type}(K:Ex->St->Option R){l2:List Kb}{K0:Option R}{K1:Int->Bool->Option R}(h0:K0=K .ret (Zsa l2))(h1:K1= λaw ay=>K (.exit 0) (Zsb l2 aw ay))(n:Nat)(t5:Int):Zaq N l2 K0 K1 n t5=LM Zku N 0 100002 n (Zub l2 t5) K:=by
  subst h0 h1
  induction n generalizing t5 with
  |zero=>kernel_rfl
  |succ n ih=>rw[Zaq];simp only[ih];kernel_rfl
theorem Z1h(N:Nat)(l1:List Kb):DN Zku N (l1,())=Ze2 N l1:=by
  conv=>rhs;rw[Ze2];simp(disch:=exact id (by kernel_rfl)) only[Zuc (R:=Unit×Ko) N (CF Zku N [1,0,1,0])]
  kernel_rfl
theorem Zkv(N:Nat):GW 124 (Zgu N):=GF Zku N Tryz.func124 (GC (Zq7 N) (GC (Zr9 N) Wg)) (λd=>Z1h N d.1)
def Zn6(N:Nat):Sig:=Sig.of [.v Jk false,.v Ja false] [.v Jf false] (λd=>Zgq N d.1 d.2.1)
def Zkw:Fn:=⟨Tryz.f150,λ |5=>[.canon [1,5,12,13,14,15]]|6=>[.canon [1,5,7,12,13,14]]|7=>[.canon [1,5,7,12,13,14,21]]|8=>[.canon [1,5,12,13,14]]|9=>[.canon [1,5,12,13,14]]|100005=>[.canon [1,5,12,13,14]]|_=>[],Zn6,λN=>[(124,Zgu N)]⟩
def Zud(ey:Int)(t5:List Kb)(t7:Int)(l8:List Int):St:=⟨[(1,vI ey),(5,vO 0),(12,vV Jk t5),(13,vI (Wi t5)),(14,vI t7)],[(0,.arr Ja l8)],1⟩
def Zsc(ey:Int)(t5:List Kb)(t9:Int)(aw:Bool)(aq:List Int):St:=⟨[(1,vI ey),(5,vO 0),(12,vV Jk t5),(13,vI (Wi t5)),(14,vI t9),(15,vB aw)],[(0,.arr Ja aq)],1⟩
theorem Zue(N:Nat){R:Type}(K:Ex->St->Option R){ey:Int}{t5:List Kb}{K0:Int->Bool->Kh->Option R}(h0:K0= λt9 aw aq=>K (.exit 0) (Zsc ey t5 t9 aw aq))(n:Nat)(t7:Int)(l8:List Int):Zb6 N ey t5 K0 n t7 l8=LM Zkw N 0 100005 n (Zud ey t5 t7 l8) K:=by
  subst h0
  induction n generalizing t7 l8 with
  |zero=>kernel_rfl
  |succ n ih=>rw[Zb6];simp only[ih];kernel_rfl
theorem Z1i(N:Nat)(l1:List Kb)(co:Int):DN Zkw N (l1,co,())=Zgq N l1 co:=by
  conv=>rhs;rw[Zgq];simp(disch:=exact id (by kernel_rfl)) only[Zue (R:=Unit×Ky) N (CF Zkw N [1,1,1,0,1,0])]
  kernel_rfl
theorem Z1j(N:Nat):GW 150 (Zn6 N):=GF Zkw N Tryz.func150 (GC (Zkv N) Wg) (λd=>Z1i N d.1 d.2.1)
def Zjh(N:Nat):Sig:=Sig.of [.box Jn,.v Ja false] [] (λd=>Zgr N d.1 d.2.1)
def Zzf:Fn:=⟨Tryz.f88,λ |0=>[.opn 10]|_=>[],Zjh,Wbo⟩
theorem Zpo(N:Nat):GW 88 (Zjh N):=GF Zzf N Tryz.func88 Wg
def Zc4(N:Nat):Sig:=Sig.of [.v Ja false] [.v Jy false] (λd=>Zdb N d.1)
def Z1k:Fn:=⟨Tryz.f53,WI,Zc4,λN=>[(42,Zw N)]⟩
theorem Zgv(N:Nat):GW 53 (Zc4 N):=GF Z1k N Tryz.func53 (GC (Z1 N) Wg)
def Zb3(N:Nat):Sig:=Sig.of [.v Jc false] [.v Jy false] (λd=>Za2 N d.1)
def Zl8:Fn:=⟨Tryz.f28,λ |2=>[.canon [0,5,6,7,8]]|3=>[.canon [0,4,5,6,7]]|4=>[.canon [0,5,6,7,20]]|5=>[.canon [2]]|6=>[.canon [0,5,6,7]]|100002=>[.canon [0,5,6,7]]|_=>[],Zb3,λN=>[(56,Zbn N),(52,Za3 N)]⟩
def Zxb(l2:List Kc)(t5:Int):St:=⟨[(0,vV Jc l2),(5,vV Jc l2),(6,vI (Wi l2)),(7,vI t5)],[],0⟩
def Zuf(l2:List Kc):St:=⟨[(2,vB false)],[],0⟩
def Zug(l2:List Kc)(aw:Int)(ay:Bool):St:=⟨[(0,vV Jc l2),(5,vV Jc l2),(6,vI (Wi l2)),(7,vI aw),(8,vB ay)],[],0⟩
theorem Zxc(N:Nat){R:Type}(K:Ex->St->Option R){l2:List Kc}{K0:Option R}{K1:Int->Bool->Option R}(h0:K0=K .ret (Zuf l2))(h1:K1= λaw ay=>K (.exit 0) (Zug l2 aw ay))(n:Nat)(t5:Int):Zdl N l2 K0 K1 n t5=LM Zl8 N 0 100002 n (Zxb l2 t5) K:=by
  subst h0 h1
  induction n generalizing t5 with
  |zero=>kernel_rfl
  |succ n ih=>rw[Zdl];simp only[ih];kernel_rfl
theorem Z23(N:Nat)(l1:List Kc):DN Zl8 N (l1,())=Za2 N l1:=by
  conv=>rhs;rw[Za2];simp(disch:=exact id (by kernel_rfl)) only[Zxc (R:=Unit×Ko) N (CF Zl8 N [1,0,1,0])]
  kernel_rfl
theorem Zd0(N:Nat):GW 28 (Zb3 N):=GF Zl8 N Tryz.func28 (GC (Zcn N) (GC (Zbs N) Wg)) (λd=>Z23 N d.1)
def Zlk(N:Nat):Sig:=Sig.of [.v Jc false,.v Ja false] [.v Ja false,.v Jy false] (λd=>Zhw N d.1 d.2.1)
def Znv:Fn:=⟨Tryz.f152,λ |4=>[.canon [0,1,6,14]]|5=>[.canon [0,1,6]]|6=>[.canon [0,1,6,23]]|7=>[.canon [4,5]]|100004=>[.canon [0,1,6]]|_=>[],Zlk,λN=>[(28,Zb3 N)]⟩
def Z0i(l4:List Kc)(cz:Int)(i6:Int):St:=⟨[(0,vV Jc l4),(1,vI cz),(6,vI i6)],[],0⟩
def Zzg(l4:List Kc)(cz:Int)(t7:Int):St:=⟨[(4,vI t7),(5,vB true)],[],0⟩
def Zzh(l4:List Kc)(cz:Int)(i8:Int)(t9:Bool):St:=⟨[(0,vV Jc l4),(1,vI cz),(6,vI i8),(14,vB t9)],[],0⟩
theorem Z0j(N:Nat){R:Type}(K:Ex->St->Option R){l4:List Kc}{cz:Int}{K0:Int->Option R}{K1:Int->Bool->Option R}(h0:K0= λt7=>K .ret (Zzg l4 cz t7))(h1:K1= λi8 t9=>K (.exit 0) (Zzh l4 cz i8 t9))(n:Nat)(i6:Int):Zhb N l4 cz K0 K1 n i6=LM Znv N 0 100004 n (Z0i l4 cz i6) K:=by
  subst h0 h1
  induction n generalizing i6 with
  |zero=>kernel_rfl
  |succ n ih=>rw[Zhb];simp only[ih];kernel_rfl
theorem Z4l(N:Nat)(l1:List Kc)(eV:Int):DN Znv N (l1,eV,())=Zhw N l1 eV:=by
  conv=>rhs;rw[Zhw];simp(disch:=exact id (by kernel_rfl)) only[Z0j (R:=Unit×Kl) N (CF Znv N [1,1,0,1,0])]
  kernel_rfl
theorem Zpu(N:Nat):GW 152 (Zlk N):=GF Znv N Tryz.func152 (GC (Zd0 N) Wg) (λd=>Z4l N d.1 d.2.1)
def Zkd(N:Nat):Sig:=Sig.of [.v Jc false] [.v Jd false] (λd=>Zgz N d.1)
def Zov:Fn:=⟨Tryz.f129,λ |5=>[.canon [0,3,11,12]]|6=>[.canon [0,3,4,11]]|7=>[.canon [0,3,4,5,6,11]]|8=>[.canon [0,3,4,5,11,20]]|9=>[.canon [0,3,11]]|10=>[.canon [0,3,11]]|100005=>[.canon [0,3,11]]|_=>[],Zkd,λN=>[(28,Zb3 N),(152,Zlk N)]⟩
def Z1l(l3:List Kc)(t4:Int)(l5:List Kc):St:=⟨[(0,vV Jc l3),(3,vO 0),(11,vI t4)],[(0,.arr Jaa l5)],1⟩
def Z0k(l3:List Kc)(t7:Int)(t8:Bool)(l9:List Kc):St:=⟨[(0,vV Jc l3),(3,vO 0),(11,vI t7),(12,vB t8)],[(0,.arr Jaa l9)],1⟩
theorem Z1m(N:Nat){R:Type}(K:Ex->St->Option R){l3:List Kc}{K0:Int->Bool->Kw->Option R}(h0:K0= λt7 t8 l9=>K (.exit 0) (Z0k l3 t7 t8 l9))(n:Nat)(t4:Int)(l5:List Kc):Zgn N l3 K0 n t4 l5=LM Zov N 0 100005 n (Z1l l3 t4 l5) K:=by
  subst h0
  induction n generalizing t4 l5 with
  |zero=>kernel_rfl
  |succ n ih=>rw[Zgn];simp only[ih];kernel_rfl
theorem Z4v(N:Nat)(l1:List Kc):DN Zov N (l1,())=Zgz N l1:=by
  conv=>rhs;rw[Zgz];simp(disch:=exact id (by kernel_rfl)) only[Z1m (R:=Unit×(Kw×Unit)) N (CF Zov N [1,1,1,0,1,0])]
  kernel_rfl
theorem Zow(N:Nat):GW 129 (Zkd N):=GF Zov N Tryz.func129 (GC (Zd0 N) (GC (Zpu N) Wg)) (λd=>Z4v N d.1)
def Zn7(N:Nat):Sig:=Sig.of [.v Jc false] [.v Jf false] (λd=>Zh1 N d.1)
def Zkx:Fn:=⟨Tryz.f189,λ |3=>[.canon [3,8,9,10,11]]|4=>[.canon [3,5,8,9,10]]|5=>[.canon [3,8,9,10]]|6=>[.canon [3,8,9,10]]|100003=>[.canon [3,8,9,10]]|_=>[],Zn7,λN=>[(129,Zkd N)]⟩
def Zuh(t3:Int)(t4:Int)(l5:List Int)(l6:List Kc):St:=⟨[(3,vO 0),(8,vO 1),(9,vI t3),(10,vI t4)],[(0,.arr Ja l5),(1,.arr Jaa l6)],2⟩
def Zsd(t3:Int)(l6:List Kc)(t7:Int)(t8:Bool)(l9:List Int):St:=⟨[(3,vO 0),(8,vO 1),(9,vI t3),(10,vI t7),(11,vB t8)],[(0,.arr Ja l9),(1,.arr Jaa l6)],2⟩
theorem Zui(N:Nat){R:Type}(K:Ex->St->Option R){t3:Int}{l6:List Kc}{K0:Int->Bool->Kh->Option R}(h0:K0= λt7 t8 l9=>K (.exit 0) (Zsd t3 l6 t7 t8 l9))(n:Nat)(t4:Int)(l5:List Int):Zcu N t3 l6 K0 n t4 l5=LM Zkx N 0 100003 n (Zuh t3 t4 l5 l6) K:=by
  subst h0
  induction n generalizing t4 l5 with
  |zero=>kernel_rfl
  |succ n ih=>rw[Zcu];simp only[ih];kernel_rfl
theorem Z1n(N:Nat)(l1:List Kc):DN Zkx N (l1,())=Zh1 N l1:=by
  conv=>rhs;rw[Zh1];simp(disch:=exact id (by kernel_rfl)) only[Zui (R:=Unit×Ky) N (CF Zkx N [1,1,0,1,0])]
  kernel_rfl
theorem Z1o(N:Nat):GW 189 (Zn7 N):=GF Zkx N Tryz.func189 (GC (Zow N) Wg) (λd=>Z1n N d.1)
def Zmq(N:Nat):Sig:=Sig.of [.v Ja false,.v Ja false,.v Jc false,.v Jc false] [.v Js true,.v Jy false] (λd=>Zer N d.1 d.2.1 d.2.2.1 d.2.2.2.1)
def Zzi:Fn:=⟨Tryz.f151,WI,Zmq,λN=>[(53,Zc4 N),(42,Zw N),(28,Zb3 N),(129,Zkd N),(189,Zn7 N)]⟩
theorem Zzj(N:Nat):GW 151 (Zmq N):=GF Zzi N Tryz.func151 (GC (Zgv N) (GC (Z1 N) (GC (Zd0 N) (GC (Zow N) (GC (Z1o N) Wg)))))
def Zhu(N:Nat):Sig:=Sig.of [.box Jn,.v Ja false,.v Ja false] [] (λd=>Zg6 N d.1 d.2.1 d.2.2.1)
def Zuj:Fn:=⟨Tryz.f111,λ |0=>[.opn 13]|_=>[],Zhu,λN=>[(150,Zn6 N),(88,Zjh N),(151,Zmq N)]⟩
theorem Zox(N:Nat):GW 111 (Zhu N):=GF Zuj N Tryz.func111 (GC (Z1j N) (GC (Zpo N) (GC (Zzj N) Wg)))
def Zjy(N:Nat):Sig:=Sig.of [.v Ja false] [.v Ju true,.v Jy false] (λd=>Zfi N d.1)
def Z0l:Fn:=⟨Tryz.f153,WI,Zjy,λN=>[(56,Zbn N)]⟩
theorem Zp2(N:Nat):GW 153 (Zjy N):=GF Z0l N Tryz.func153 (GC (Zcn N) Wg)
def Ze8(N:Nat):Sig:=Sig.of [.v Jad true] [.v Jy false] (λd=>Zcr N d.1)
def Zm7:Fn:=⟨Tryz.f170,λ |2=>[.canon [1,6,7,8,9]]|3=>[.canon [1,4,6,7,8]]|4=>[.canon [1,6,7,8,29]]|5=>[.canon [2]]|6=>[.canon [1,6,7,8]]|100002=>[.canon [1,6,7,8]]|_=>[],Ze8,λN=>[(52,Za3 N),(42,Zw N)]⟩
def Zzk(t2:List Kb)(t4:Int)(b5:Int×List Kb):St:=⟨[(1,vP 0 0),(6,vV Jk t2),(7,vI (Wi b5.2)),(8,vI t4)],[(0,.box [.val Ja b5.1,.val Jk b5.2])],1⟩
def Zxd(t2:List Kb)(b5:Int×List Kb):St:=⟨[(2,vB false)],[],0⟩
def Zxe(t2:List Kb)(b5:Int×List Kb)(ai:Int)(aF:Bool):St:=⟨[(1,vP 0 0),(6,vV Jk t2),(7,vI (Wi b5.2)),(8,vI ai),(9,vB aF)],[(0,.box [.val Ja b5.1,.val Jk b5.2])],1⟩
theorem Zzl(N:Nat){R:Type}(K:Ex->St->Option R){t2:List Kb}{b5:Int×List Kb}{K0:Option R}{K1:Int->Bool->Option R}(h0:K0=K .ret (Zxd t2 b5))(h1:K1= λai aF=>K (.exit 0) (Zxe t2 b5 ai aF))(n:Nat)(t4:Int):Zen N t2 b5 K0 K1 n t4=LM Zm7 N 0 100002 n (Zzk t2 t4 b5) K:=by
  subst h0 h1
  induction n generalizing t4 with
  |zero=>kernel_rfl
  |succ n ih=>rw[Zen];simp only[ih];kernel_rfl
theorem Z36(N:Nat)(m1:Int×List Kb):DN Zm7 N (m1,())=Zcr N m1:=by
  conv=>rhs;rw[Zcr];simp(disch:=exact id (by kernel_rfl)) only[Zzl (R:=Unit×Ko) N (CF Zm7 N [1,0,1,0])]
  kernel_rfl
theorem Zh9(N:Nat):GW 170 (Ze8 N):=GF Zm7 N Tryz.func170 (GC (Zbs N) (GC (Z1 N) Wg)) (λd=>Z36 N d.1)
def Zn8(N:Nat):Sig:=Sig.of [.v Ju true] [.v Jy false] (λd=>Zmx N d.1)
def Z1p:Fn:=⟨Tryz.f190,WI,Zn8,λN=>[(56,Zbn N),(42,Zw N),(52,Za3 N)]⟩
theorem Z1q(N:Nat):GW 190 (Zn8 N):=GF Z1p N Tryz.func190 (GC (Zcn N) (GC (Z1 N) (GC (Zbs N) Wg)))
def Zji(N:Nat):Sig:=Sig.of [.v Jad true,.v Ja false,.v Ju true] [.v Ju true] (λd=>Zeo N d.1 d.2.1 d.2.2.1)
def Zzm:Fn:=⟨Tryz.f154,WI,Zji,λN=>[(170,Ze8 N),(190,Zn8 N)]⟩
theorem Zpp(N:Nat):GW 154 (Zji N):=GF Zzm N Tryz.func154 (GC (Zh9 N) (GC (Z1q N) Wg))
def Zg3(N:Nat):Sig:=Sig.of [.box Jl] [] (λd=>Zdc N d.1)
def Zrh:Fn:=⟨Tryz.f155,WI,Zg3,λN=>[(79,Zc3 N)]⟩
theorem Znp(N:Nat):GW 155 (Zg3 N):=GF Zrh N Tryz.func155 (GC (Zha N) Wg)
def Zlr(N:Nat):Sig:=Sig.of [.boxal Jn 3,.v Ju true] [] (λd=>Zjs N d.1 d.2.1 d.2.2.1)
def Zxf:Fn:=⟨Tryz.f112,λ |1000000=>[.unfE 1]|_=>[],Zlr,λN=>[(152,Zlk N),(153,Zjy N),(154,Zji N),(155,Zg3 N)]⟩
theorem Zxg(N:Nat):GW 112 (Zlr N):=GF Zxf N Tryz.func112 (GC (Zpu N) (GC (Zp2 N) (GC (Zpp N) (GC (Znp N) Wg))))
def Zjj(N:Nat):Sig:=Sig.of [.box Jl] [.v Jj true] (λd=>Zig N d.1)
def Zzn:Fn:=⟨Tryz.f83,WI,Zjj,Wbo⟩
theorem Zpq(N:Nat):GW 83 (Zjj N):=GF Zzn N Tryz.func83 Wg
def Zjk(N:Nat):Sig:=Sig.of [.v (.prod Je Ja) true] [.v (.prod Jf Ja) true] (λd=>Zih N d.1)
def Zzo:Fn:=⟨Tryz.f162,WI,Zjk,λN=>[(60,Zy N)]⟩
theorem Zpr(N:Nat):GW 162 (Zjk N):=GF Zzo N Tryz.func162 (GC (Z4 N) Wg)
def Zky(N:Nat):Sig:=Sig.of [.v (.prod Je Ja) true] [.v Jy false] (λd=>Zj9 N d.1)
def Z1r:Fn:=⟨Tryz.f163,WI,Zky,λN=>[(73,Zgt N),(52,Za3 N)]⟩
theorem Zqi(N:Nat):GW 163 (Zky N):=GF Z1r N Tryz.func163 (GC (Zks N) (GC (Zbs N) Wg))
def Zoy(N:Nat):Sig:=Sig.of [.v Jb true] [.v Jy false] (λd=>Zns N d.1)
def Z24:Fn:=⟨Tryz.f164,WI,Zoy,λN=>[(74,Ze5 N),(52,Za3 N)]⟩
theorem Z25(N:Nat):GW 164 (Zoy N):=GF Z24 N Tryz.func164 (GC (Zh8 N) (GC (Zbs N) Wg))
def Zjz(N:Nat):Sig:=Sig.of [.v Je false,.v Ja false] [.v Jf false,.v Ja false,.v Jy false] (λd=>Zja N d.1 d.2.1)
def Z0m:Fn:=⟨Tryz.f165,WI,Zjz,λN=>[(60,Zy N),(73,Zgt N),(74,Ze5 N),(75,Zlj N),(76,Zik N)]⟩
theorem Zp3(N:Nat):GW 165 (Zjz N):=GF Z0m N Tryz.func165 (GC (Z4 N) (GC (Zks N) (GC (Zh8 N) (GC (Zpt N) (GC (Zn4 N) Wg)))))
def Zn9(N:Nat):Sig:=Sig.of [.v (.prod Je Ja) true,.v Jb true] [.v (.prod Jf Ja) true,.v Jy false] (λd=>Zmy N d.1 d.2.1)
def Z1s:Fn:=⟨Tryz.f120,WI,Zn9,λN=>[(162,Zjk N),(163,Zky N),(164,Zoy N),(40,Zil N),(165,Zjz N)]⟩
theorem Z1t(N:Nat):GW 120 (Zn9 N):=GF Z1s N Tryz.func120 (GC (Zpr N) (GC (Zqi N) (GC (Z25 N) (GC (Zn5 N) (GC (Zp3 N) Wg)))))
def Zis(N:Nat):Sig:=Sig.of [.boxal Jn 3] [] (λd=>Zcf N d.1 d.2.1)
def Zxh:Fn:=⟨Tryz.f84,λ |1000000=>[.unfE 1]|_=>[],Zis,λN=>[(120,Zn9 N)]⟩
theorem Zo9(N:Nat):GW 84 (Zis N):=GF Zxh N Tryz.func84 (GC (Z1t N) Wg)
def Zcg(N:Nat):Sig:=Sig.of [.v Jc false] [.v Jd false] (λd=>Za1 N d.1)
def Z0n:Fn:=⟨Tryz.f97,WI,Zcg,Wbo⟩
theorem Zf5(N:Nat):GW 97 (Zcg N):=GF Z0n N Tryz.func97 Wg
def Zm8(N:Nat):Sig:=Sig.of [.v Jh false,.v Ja false] [.v Ja false] (λd=>Zid N d.1 d.2.1)
def Zm9:Fn:=⟨Tryz.f156,λ |5=>[.canon [0,5,6,25]]|6=>[.canon [0,5,6]]|7=>[.canon [0,5,6]]|8=>[.canon [0,5,6,36]]|9=>[.canon [4]]|100005=>[.canon [0,5,6]]|_=>[],Zm8,λN=>[(42,Zw N),(147,Zkb N)]⟩
def Zzp(aM:List Ka)(n5:Int)(k6:Int):St:=⟨[(0,vV Jh aM),(5,vI n5),(6,vI k6)],[],0⟩
def Zxi(aM:List Ka)(t8:Int):St:=⟨[(4,vI t8)],[],0⟩
def Zxj(aM:List Ka)(n9:Int)(k10:Int)(ay:Bool):St:=⟨[(0,vV Jh aM),(5,vI n9),(6,vI k10),(25,vB ay)],[],0⟩
theorem Zzq(N:Nat){R:Type}(K:Ex->St->Option R){aM:List Ka}{K0:Int->Option R}{K1:Int->Int->Bool->Option R}(h0:K0= λt8=>K .ret (Zxi aM t8))(h1:K1= λn9 k10 ay=>K (.exit 0) (Zxj aM n9 k10 ay))(n:Nat)(n5:Int)(k6:Int):Zep N aM K0 K1 n n5 k6=LM Zm9 N 0 100005 n (Zzp aM n5 k6) K:=by
  subst h0 h1
  induction n generalizing n5 k6 with
  |zero=>kernel_rfl
  |succ n ih=>rw[Zep];simp only[ih];kernel_rfl
theorem Z37(N:Nat)(ad:List Ka)(i2:Int):DN Zm9 N (ad,i2,())=Zid N ad i2:=by
  conv=>rhs;rw[Zid];simp(disch:=exact id (by kernel_rfl)) only[Zzq (R:=Unit×Ki) N (CF Zm9 N [1,1,1,0,1,0])]
  kernel_rfl
theorem Zse(N:Nat):GW 156 (Zm8 N):=GF Zm9 N Tryz.func156 (GC (Z1 N) (GC (Zpg N) Wg)) (λd=>Z37 N d.1 d.2.1)
def Zkz(N:Nat):Sig:=Sig.of [.box Jn,.v Ja false,.v Jh false] [] (λd=>Zjb N d.1 d.2.1 d.2.2.1)
def Zuk:Fn:=⟨Tryz.f113,λ |0=>[.opn 13]|_=>[],Zkz,λN=>[(111,Zhu N),(83,Zjj N),(84,Zis N),(60,Zy N),(97,Zcg N),(156,Zm8 N)]⟩
theorem Zul(N:Nat):GW 113 (Zkz N):=GF Zuk N Tryz.func113 (GC (Zox N) (GC (Zpq N) (GC (Zo9 N) (GC (Z4 N) (GC (Zf5 N) (GC (Zse N) Wg))))))
def Zni(N:Nat):Sig:=Sig.of [.v Ja false,.v Je false,.v Jc false,.v Ja false] [.v Jq true] (λd=>Zhc N d.1 d.2.1 d.2.2.1 d.2.2.2.1)
def Zf6:Fn:=⟨Tryz.f114,λ |3=>[.canon [1,3,8,9,19,20,21,22]]|4=>[.canon [1,3,8,9,11,19,20,21]]|5=>[.canon [1,3,8,9,19,20,21]]|6=>[.canon [1,3,8,9,19,20,21]]|8=>[.canon [1,8,9,36,37,38]]|9=>[.nest 44 Jm,.canon [1,8,9,36,37]]|10=>[.canon [1,8,9,36,37]]|100003=>[.adoptC 9 6 Jb,.canon [1,3,8,9,19,20,21]]|100008=>[.adoptC 9 9 Jm,.canon [1,8,9,36,37]]|_=>[],Zni,λN=>[(60,Zy N),(129,Zkd N)]⟩
def Zsf(dp:List Int)(dq:Int)(t9:Int)(aw:Int)(cR:Int)(cM:List Kc)(dM:List Int)(bz:List Kb):St:=⟨[(1,vV Je dp),(3,vI dq),(8,vP 0 0),(9,vP 1 0),(19,vO 2),(20,vI t9),(21,vI aw)],[(0,.box [.val Ja (0:Int),.val Ja (0:Int),.val Ja (0:Int),.val Jy false,.nils,.nils,.nils,.nils,.nils,.nils]),(1,.box [.val Ja cR,.val Ja (0:Int),.val Ja (0:Int),.val Jy false,.own 3,.own 2,.own 4,.nils,.nils,.nils]),(2,.arr Jaa cM),(3,.arr Ja dM),(4,.arr Jb bz)],5⟩
def Zri(dp:List Int)(dq:Int)(t9:Int)(cR:Int)(cM:List Kc)(dM:List Int)(t22:Int)(gr:Bool)(db:List Kb):St:=⟨[(1,vV Je dp),(3,vI dq),(8,vP 0 0),(9,vP 1 0),(19,vO 2),(20,vI t9),(21,vI t22),(22,vB gr)],[(0,.box [.val Ja (0:Int),.val Ja (0:Int),.val Ja (0:Int),.val Jy false,.nils,.nils,.nils,.nils,.nils,.nils]),(1,.box [.val Ja cR,.val Ja (0:Int),.val Ja (0:Int),.val Jy false,.own 3,.own 2,.own 4,.nils,.nils,.nils]),(2,.arr Jaa cM),(3,.arr Ja dM),(4,.arr Jb db)],5⟩
theorem Zsg(N:Nat){R:Type}(K:Ex->St->Option R){dp:List Int}{dq:Int}{t9:Int}{cR:Int}{cM:List Kc}{dM:List Int}{K0:Int->Bool->Kt->Option R}(h0:K0= λt22 gr db=>K (.exit 0) (Zri dp dq t9 cR cM dM t22 gr db))(n:Nat)(aw:Int)(bz:List Kb):Zch N dp dq t9 cR cM dM K0 n aw bz=LM Zf6 N 0 100003 n (Zsf dp dq t9 aw cR cM dM bz) K:=by
  subst h0
  induction n generalizing aw bz with
  |zero=>kernel_rfl
  |succ n ih=>rw[Zch];simp only[ih];kernel_rfl
def Zsh(cj:List Int)(gN:Int)(gO:Int)(lb:Int)(ld:List Int)(lh:List Kc)(jT:List Kb)(fY:List Y_KidRun):St:=⟨[(1,vV Je cj),(8,vP 0 0),(9,vP 1 0),(36,vI gN),(37,vI gO)],[(0,.box [.val Ja (0:Int),.val Ja (0:Int),.val Ja (0:Int),.val Jy false,.nils,.nils,.nils,.nils,.nils,.nils]),(1,.box [.val Ja lb,.val Ja (0:Int),.val Ja (0:Int),.val Jy false,.own 2,.own 3,.own 4,.nils,.nils,.own 5]),(2,.arr Ja ld),(3,.arr Jaa lh),(4,.arr Jb jT),(5,.arr Jm fY)],6⟩
def Zrj(cj:List Int)(gN:Int)(lb:Int)(ld:List Int)(lh:List Kc)(jT:List Kb)(t45:Int)(t46:Bool)(lu:List Y_KidRun):St:=⟨[(1,vV Je cj),(8,vP 0 0),(9,vP 1 0),(36,vI gN),(37,vI t45),(38,vB t46)],[(0,.box [.val Ja (0:Int),.val Ja (0:Int),.val Ja (0:Int),.val Jy false,.nils,.nils,.nils,.nils,.nils,.nils]),(1,.box [.val Ja lb,.val Ja (0:Int),.val Ja (0:Int),.val Jy false,.own 2,.own 3,.own 4,.nils,.nils,.own 5]),(2,.arr Ja ld),(3,.arr Jaa lh),(4,.arr Jb jT),(5,.arr Jm lu)],6⟩
theorem Zsi(N:Nat){R:Type}(K:Ex->St->Option R){cj:List Int}{gN:Int}{lb:Int}{ld:List Int}{lh:List Kc}{jT:List Kb}{K0:Int->Bool->(List Y_KidRun)->Option R}(h0:K0= λt45 t46 lu=>K (.exit 2) (Zrj cj gN lb ld lh jT t45 t46 lu))(n:Nat)(gO:Int)(fY:List Y_KidRun):Zbd N cj gN lb ld lh jT K0 n gO fY=LM Zf6 N 1 100008 n (Zsh cj gN gO lb ld lh jT fY) K:=by
  subst h0
  induction n generalizing gO fY with
  |zero=>kernel_rfl
  |succ n ih=>rw[Zbd];simp only[ih];kernel_rfl
theorem Z0o(N:Nat)(om:Int)(bm:List Int)(dW:List Kc)(fZ:Int):DN Zf6 N (om,bm,dW,fZ,())=Zhc N om bm dW fZ:=by
  conv=>rhs;rw[Zhc];simp(disch:=exact id (by kernel_rfl)) only[Zsg (R:=Unit×(Y_Family×Unit)) N (CF Zf6 N [1,1,0,1,0]),Zsi (R:=Unit×(Y_Family×Unit)) N (CF Zf6 N [1,1,1,0,1,0])]
  kernel_rfl
theorem Z0p(N:Nat):GW 114 (Zni N):=GF Zf6 N Tryz.func114 (GC (Z4 N) (GC (Zow N) Wg)) (λd=>Z0o N d.1 d.2.1 d.2.2.1 d.2.2.2.1)
def Zmr(N:Nat):Sig:=Sig.of [.v Ju true] [.v Ja false,.v Ja false] (λd=>Zkk N d.1)
def Zzr:Fn:=⟨Tryz.f157,WI,Zmr,λN=>[(106,Zi3 N)]⟩
theorem Zzs(N:Nat):GW 157 (Zmr N):=GF Zzr N Tryz.func157 (GC (Znt N) Wg)
def Zjl(N:Nat):Sig:=Sig.of [.v Jk false] [.v (.own Jb) false] (λd=>Zes N d.1)
def Zzt:Fn:=⟨Tryz.f123,WI,Zjl,Wbo⟩
theorem Zps(N:Nat):GW 123 (Zjl N):=GF Zzt N Tryz.func123 Wg
def Zoz(N:Nat):Sig:=Sig.of [.v Jk false,.v Ja false,.v Ja false,.v Ja false] [.v Jf false] (λd=>Zi1 N d.1 d.2.1 d.2.2.1 d.2.2.2.1)
def Zl9:Fn:=⟨Tryz.f191,λ |5=>[.canon [1,2,3,9,21,22,23,24]]|6=>[.canon [1,2,3,9,11,21,22,23]]|7=>[.canon [1,2,3,9,11,21,22,23,45]]|8=>[.canon [1,2,3,9,21,22,23]]|9=>[.canon [1,2,3,9,21,22,23]]|100005=>[.canon [1,2,3,9,21,22,23]]|_=>[],Zoz,λN=>[(124,Zgu N),(42,Zw N)]⟩
def Zxk(dt:Int)(ce:Int)(cg:Int)(aw:List Kb)(ai:Int)(aJ:List Int):St:=⟨[(1,vI dt),(2,vI ce),(3,vI cg),(9,vO 0),(21,vV Jk aw),(22,vI (Wi aw)),(23,vI ai)],[(0,.arr Ja aJ)],1⟩
def Zum(dt:Int)(ce:Int)(cg:Int)(aw:List Kb)(au:Int)(aX:Bool)(dg:List Int):St:=⟨[(1,vI dt),(2,vI ce),(3,vI cg),(9,vO 0),(21,vV Jk aw),(22,vI (Wi aw)),(23,vI au),(24,vB aX)],[(0,.arr Ja dg)],1⟩
theorem Zxl(N:Nat){R:Type}(K:Ex->St->Option R){dt:Int}{ce:Int}{cg:Int}{aw:List Kb}{K0:Int->Bool->Kh->Option R}(h0:K0= λau aX dg=>K (.exit 0) (Zum dt ce cg aw au aX dg))(n:Nat)(ai:Int)(aJ:List Int):Za7 N dt ce cg aw K0 n ai aJ=LM Zl9 N 0 100005 n (Zxk dt ce cg aw ai aJ) K:=by
  subst h0
  induction n generalizing ai aJ with
  |zero=>kernel_rfl
  |succ n ih=>rw[Za7];simp only[ih];kernel_rfl
theorem Z26(N:Nat)(l1:List Kb)(co:Int)(cp:Int)(ch:Int):DN Zl9 N (l1,co,cp,ch,())=Zi1 N l1 co cp ch:=by
  conv=>rhs;rw[Zi1];simp(disch:=exact id (by kernel_rfl)) only[Zxl (R:=Unit×Ky) N (CF Zl9 N [1,1,1,0,1,0])]
  kernel_rfl
theorem Z27(N:Nat):GW 191 (Zoz N):=GF Zl9 N Tryz.func191 (GC (Zkv N) (GC (Z1 N) Wg)) (λd=>Z26 N d.1 d.2.1 d.2.2.1 d.2.2.2.1)
def Zbh(N:Nat):Sig:=Sig.of [.mut Jb,.clos 178 0] [] (λd=>Zs N d.1)
theorem Zfe:CmpOk Tryz.prog 178 Jb WuQ cfH:=by
  intro G x y us vs w hx hy h1 h2;obtain⟨_,_,rfl,a1,_,_,rfl,a2,a3⟩:=h1;obtain⟨_,_,rfl,b1,_,_,rfl,b2,b3⟩:=h2;simp only[Enc]at a1 a2 a3 b1 b2 b3;subst a1 a2 a3 b1 b2 b3;simp only[Xaz,Xbs];unfold WuQ at hx hy;simp only[Xi]at hx hy
  go_enter Tryz.func178,Tryz.ntmps178
  go_wp2
  rw[guard_run (a:=x.2.1) (b:=y.2.1),Result.andThen_ok];rw[neq_run (a:=x.2.1) (b:=y.2.1),Result.andThen_ok];rcases hb:(bne (α:=Int) x.2.1 y.2.1)with _|_
  . go_wp2
    rw[sub_run (Wef hx.1) (Wef hy.1) (Wvt hb)]
    go_wp2
    go_ret
    exact⟨rfl,two_grow _ _ _⟩
  . go_wp2
    rw[sub_run (Wef hx.2) (Wef hy.2) (Wu7 hb)]
    go_wp2
    go_ret
    exact⟨rfl,two_grow _ _ _⟩
theorem Zff(N:Nat):GW 192 (Zbh N):=⟨WcL Tryz.func192 (show WnQ Tryz.f192=true by kernel_rfl),good_sortF sortFH (e:=.prod Ja Jaa) rfl (by decide) Tryz.isAgg175 Tryz.sizeOf175 (enters_of Tryz.func178 (by kernel_rfl) rfl) Wwj Zfe N⟩
def Zoa(N:Nat):Sig:=Sig.of [.v Jk false,.v Ja false,.v Ja false,.v Ja false] [.v (.own Jb) false,.v Jy false] (λd=>Zh2 N d.1 d.2.1 d.2.2.1 d.2.2.2.1)
def Zk0:Fn:=⟨Tryz.f158,λ |5=>[.canon [1,2,3,10,35,36,37,38]]|6=>[.canon [1,2,3,10,11,12,35,36,37]]|7=>[.canon [1,2,3,10,11,12,35,36,37,51]]|8=>[.canon [10]]|9=>[.canon [8,9]]|10=>[.canon [1,2,3,10,35,36,37]]|100005=>[.canon [1,2,3,10,35,36,37]]|_=>[],Zoa,λN=>[(123,Zjl N),(124,Zgu N),(177,Zl7 N),(191,Zoz N),(192,Zbh N)]⟩
def Zun(dE:Int)(bG:Int)(bH:Int)(ai:Int)(aF:Int)(bj:List Kb):St:=⟨[(1,vI dE),(2,vI bG),(3,vI bH),(10,vO 0),(35,vO 0),(36,vI ai),(37,vI aF)],[(0,.arr Jb bj)],1⟩
def Zsj(dE:Int)(bG:Int)(bH:Int)(ai:Int)(bj:List Kb)(aO:List Kb):St:=⟨[(8,vO 0),(9,vB true)],[(0,.arr Jb aO)],1⟩
def Zsk(dE:Int)(bG:Int)(bH:Int)(ai:Int)(bj:List Kb)(cJ:Int)(bV:Bool):St:=⟨[(1,vI dE),(2,vI bG),(3,vI bH),(10,vO 0),(35,vO 0),(36,vI ai),(37,vI cJ),(38,vB bV)],[(0,.arr Jb bj)],1⟩
theorem Zuo(N:Nat){R:Type}(K:Ex->St->Option R){dE:Int}{bG:Int}{bH:Int}{ai:Int}{bj:List Kb}{K0:Kt->Option R}{K1:Int->Bool->Option R}(h0:K0= λaO=>K .ret (Zsj dE bG bH ai bj aO))(h1:K1= λcJ bV=>K (.exit 0) (Zsk dE bG bH ai bj cJ bV))(n:Nat)(aF:Int):Zb7 N dE bG bH ai bj K0 K1 n aF=LM Zk0 N 0 100005 n (Zun dE bG bH ai aF bj) K:=by
  subst h0 h1
  induction n generalizing aF with
  |zero=>kernel_rfl
  |succ n ih=>rw[Zb7];simp only[ih];kernel_rfl
theorem Z1u(N:Nat)(l1:List Kb)(co:Int)(cp:Int)(ch:Int):DN Zk0 N (l1,co,cp,ch,())=Zh2 N l1 co cp ch:=by
  conv=>rhs;rw[Zh2];simp(disch:=exact id (by kernel_rfl)) only[Zuo (R:=Unit×(Kt×Ko)) N (CF Zk0 N [1,1,1,0,1,0])]
  kernel_rfl
theorem Z1v(N:Nat):GW 158 (Zoa N):=GF Zk0 N Tryz.func158 (GC (Zps N) (GC (Zkv N) (GC (Zq7 N) (GC (Z27 N) (GC (Zff N) Wg))))) (λd=>Z1u N d.1 d.2.1 d.2.2.1 d.2.2.2.1)
def Zo0(N:Nat):Sig:=Sig.of [.v Ja false,.v Ja false] [.v Jb true] (λd=>Zlh N d.1 d.2.1)
def Z28:Fn:=⟨Tryz.f193,WI,Zo0,Wbo⟩
theorem Z29(N:Nat):GW 193 (Zo0 N):=GF Z28 N Tryz.func193 Wg
def Zob(N:Nat):Sig:=Sig.of [.v (.prod Je Ja) true,.v Ju true,.v Je false] [.v (.prod Jf Ja) true,.v Jf false,.v Jb true,.v Jy false] (λd=>Zmz N d.1 d.2.1 d.2.2.1)
def Z1w:Fn:=⟨Tryz.f159,WI,Zob,λN=>[(162,Zjk N),(60,Zy N),(163,Zky N),(41,Za8 N),(104,Zkp N),(40,Zil N),(193,Zo0 N),(76,Zik N),(165,Zjz N)]⟩
theorem Z1x(N:Nat):GW 159 (Zob N):=GF Z1w N Tryz.func159 (GC (Zpr N) (GC (Z4 N) (GC (Zqi N) (GC (Zb9 N) (GC (Zqe N) (GC (Zn5 N) (GC (Z29 N) (GC (Zn4 N) (GC (Zp3 N) Wg)))))))))
def Zk1(N:Nat):Sig:=Sig.of [.box Jn,.v Ja false,.v Ju true] [] (λd=>Zg7 N d.1 d.2.1 d.2.2.1)
def Zup:Fn:=⟨Tryz.f115,λ |1=>[.opn 20]|_=>[],Zk1,λN=>[(157,Zmr N),(158,Zoa N),(155,Zg3 N),(159,Zob N)]⟩
theorem Zuq(N:Nat):GW 115 (Zk1 N):=GF Zup N Tryz.func115 (GC (Zzs N) (GC (Z1v N) (GC (Znp N) (GC (Z1x N) Wg))))
def Zhg(N:Nat):Sig:=Sig.of [.rp (TY_Root)] [.vj Ju] (λd=>Zd4 N d.1)
def Zsl:Fn:=⟨Tryz.f83,WI,Zhg,Wbo⟩
theorem Zok(N:Nat):GW 83 (Zhg N):=GF Zsl N Tryz.func83 Wg
def Znw(N:Nat):Sig:=Sig.of [.v Ju true,.v Je false] [.v Jf false,.v Jy false] (λd=>Znn N d.1 d.2.1)
def Z4m:Fn:=⟨Tryz.f116,WI,Znw,λN=>[(60,Zy N),(106,Zi3 N),(41,Za8 N)]⟩
theorem Zwf(N:Nat):GW 116 (Znw N):=GF Z4m N Tryz.func116 (GC (Z4 N) (GC (Znt N) (GC (Zb9 N) Wg)))
def Zms(N:Nat):Sig:=Sig.of [.box Jn,.v Ja false,.v Jo true] [] (λd=>Zii N d.1 d.2.1 d.2.2.1)
def Zzu:Fn:=⟨Tryz.f81,λ |1=>[.opn 14]|_=>[],Zms,λN=>[(111,Zhu N),(112,Zlr N),(113,Zkz N),(114,Zni N),(115,Zk1 N),(60,Zy N),(83,Zhg N),(116,Znw N)]⟩
theorem Zzv(N:Nat):GW 81 (Zms N):=GF Zzu N Tryz.func81 (GC (Zox N) (GC (Zxg N) (GC (Zul N) (GC (Z0p N) (GC (Zuq N) (GC (Z4 N) (GC (Zok N) (GC (Zwf N) Wg))))))))
def Zmt(N:Nat):Sig:=Sig.of [.v (TY_KidRun) true] [.v Jy false] (λd=>Znz N d.1)
def Zzw:Fn:=⟨Tryz.f161,WI,Zmt,Wbo⟩
theorem Zzx(N:Nat):GW 161 (Zmt N):=GF Zzw N Tryz.func161 Wg
def Zaj(N:Nat):Sig:=Sig.of [.v Jr false,.clos 161 0] [.v Ja false] (λd=>Zr N d.1)
def Z2:Fn:=⟨Tryz.f194,λ |2=>[.canon [0,1,7,8,9]]|3=>[.canon [0,1,5,7,8]]|4=>[.canon [0,1,5,7,8,16]]|5=>[.canon [1,4]]|6=>[.canon [0,1,7,8]]|100002=>[.canon [0,1,7,8]]|_=>[],Zaj,λN=>[(161,Zmt N)]⟩
def Zd1(s2:List Y_KidRun)(t4:Int):St:=⟨[(0,vV Jr s2),(1,.s (.one (.clos 161 []))),(7,vI (Wi s2)),(8,vI t4)],[],0⟩
def Zdw(s2:List Y_KidRun)(t7:Int):St:=⟨[(1,.s (.one (.clos 161 []))),(4,vI t7)],[],0⟩
def Zdx(s2:List Y_KidRun)(t8:Int)(t9:Bool):St:=⟨[(0,vV Jr s2),(1,.s (.one (.clos 161 []))),(7,vI (Wi s2)),(8,vI t8),(9,vB t9)],[],0⟩
theorem Zd2(N:Nat){R:Type}(K:Ex->St->Option R){s2:List Y_KidRun}{K0:Int->Option R}{K1:Int->Bool->Option R}(h0:K0= λt7=>K .ret (Zdw s2 t7))(h1:K1= λt8 t9=>K (.exit 0) (Zdx s2 t8 t9))(n:Nat)(t4:Int):Zg N s2 K0 K1 n t4=LM Z2 N 0 100002 n (Zd1 s2 t4) K:=by
  subst h0 h1
  induction n generalizing t4 with
  |zero=>kernel_rfl
  |succ n ih=>rw[Zg];simp only[ih];kernel_rfl
theorem Ze9(N:Nat)(s1:List Y_KidRun):DN Z2 N (s1,())=Zr N s1:=by
  conv=>rhs;rw[Zr];simp(disch:=exact id (by kernel_rfl)) only[Zd2 (R:=Unit×Ki) N (CF Z2 N [1,0,1,0])]
  kernel_rfl
theorem Zfa(N:Nat):GW 194 (Zaj N):=GF Z2 N Tryz.func194 (GC (Zzx N) Wg) (λd=>Ze9 N d.1)
def Zae(N:Nat):Sig:=Sig.of [.v Jr false,.clos 161 0] [.v Jy false] (λd=>Zag N d.1)
def Zd5:Fn:=⟨Tryz.f160,WI,Zae,λN=>[(194,Zaj N)]⟩
theorem Zd6(N:Nat):GW 160 (Zae N):=GF Zd5 N Tryz.func160 (GC (Zfa N) Wg)
def Zoc(N:Nat):Sig:=Sig.of [.v (TY_Family) true] [.v Jy false] (λd=>Zm0 N d.1)
def Z1y:Fn:=⟨Tryz.f117,WI,Zoc,λN=>[(160,Zae N)]⟩
theorem Z1z(N:Nat):GW 117 (Zoc N):=GF Z1y N Tryz.func117 (GC (Zd6 N) Wg)
def Zod(N:Nat):Sig:=Sig.of [.v (TY_Family) true] [.v Jf false] (λd=>Zh3 N d.1)
def Zk2:Fn:=⟨Tryz.f118,λ |5=>[.canon [3,20,21,22,23]]|6=>[.canon [3,4,5,20,21,22]]|7=>[.canon [3,4,5,20,21,22]]|8=>[.canon [3,4,5,20,21,22,37]]|9=>[.canon [3,20,21,22]]|10=>[.canon [3,20,21,22]]|100005=>[.canon [3,20,21,22]]|_=>[],Zod,λN=>[(41,Za8 N),(60,Zy N)]⟩
def Zur(t4:List Y_KidRun)(t5:Int)(t6:Int)(l7:List Int):St:=⟨[(3,vO 0),(20,vV Jr t4),(21,vI t5),(22,vI t6)],[(0,.arr Ja l7)],1⟩
def Zsm(t4:List Y_KidRun)(t5:Int)(aw:Int)(ay:Bool)(aK:List Int):St:=⟨[(3,vO 0),(20,vV Jr t4),(21,vI t5),(22,vI aw),(23,vB ay)],[(0,.arr Ja aK)],1⟩
theorem Zus(N:Nat){R:Type}(K:Ex->St->Option R){t4:List Y_KidRun}{t5:Int}{K0:Int->Bool->Kh->Option R}(h0:K0= λaw ay aK=>K (.exit 0) (Zsm t4 t5 aw ay aK))(n:Nat)(t6:Int)(l7:List Int):Zbk N t4 t5 K0 n t6 l7=LM Zk2 N 0 100005 n (Zur t4 t5 t6 l7) K:=by
  subst h0
  induction n generalizing t6 l7 with
  |zero=>kernel_rfl
  |succ n ih=>rw[Zbk];simp only[ih];kernel_rfl
theorem Z10(N:Nat)(f1:Y_Family):DN Zk2 N (f1,())=Zh3 N f1:=by
  conv=>rhs;rw[Zh3];simp(disch:=exact id (by kernel_rfl)) only[Zus (R:=Unit×Ky) N (CF Zk2 N [1,1,1,0,1,0])]
  kernel_rfl
theorem Z11(N:Nat):GW 118 (Zod N):=GF Zk2 N Tryz.func118 (GC (Zb9 N) (GC (Z4 N) Wg)) (λd=>Z10 N d.1)
def Zoe(N:Nat):Sig:=Sig.of [.v (TY_Family) true] [.v Jd false] (λd=>Zh4 N d.1)
def Zk3:Fn:=⟨Tryz.f119,λ |3=>[.canon [3,8,9,10,11]]|4=>[.canon [3,5,8,9,10]]|5=>[.canon [3,8,9,10]]|6=>[.canon [3,8,9,10]]|100003=>[.canon [3,8,9,10]]|_=>[],Zoe,Wbo⟩
def Zut(t2:List Kb)(t3:Int)(t4:Int)(l5:List Kc):St:=⟨[(3,vO 0),(8,vV Jk t2),(9,vI t3),(10,vI t4)],[(0,.arr Jaa l5)],1⟩
def Zsn(t2:List Kb)(t3:Int)(t6:Int)(t7:Bool)(l8:List Kc):St:=⟨[(3,vO 0),(8,vV Jk t2),(9,vI t3),(10,vI t6),(11,vB t7)],[(0,.arr Jaa l8)],1⟩
theorem Zuu(N:Nat){R:Type}(K:Ex->St->Option R){t2:List Kb}{t3:Int}{K0:Int->Bool->Kw->Option R}(h0:K0= λt6 t7 l8=>K (.exit 0) (Zsn t2 t3 t6 t7 l8))(n:Nat)(t4:Int)(l5:List Kc):Zcv N t2 t3 K0 n t4 l5=LM Zk3 N 0 100003 n (Zut t2 t3 t4 l5) K:=by
  subst h0
  induction n generalizing t4 l5 with
  |zero=>kernel_rfl
  |succ n ih=>rw[Zcv];simp only[ih];kernel_rfl
theorem Z12(N:Nat)(f1:Y_Family):DN Zk3 N (f1,())=Zh4 N f1:=by
  conv=>rhs;rw[Zh4];simp(disch:=exact id (by kernel_rfl)) only[Zuu (R:=Unit×(Kw×Unit)) N (CF Zk3 N [1,1,0,1,0])]
  kernel_rfl
theorem Z13(N:Nat):GW 119 (Zoe N):=GF Zk3 N Tryz.func119 Wg (λd=>Z12 N d.1)
def Zmu(N:Nat):Sig:=Sig.of [.box Jl] [] (λd=>Zij N d.1)
def Zzy:Fn:=⟨Tryz.f82,WI,Zmu,λN=>[(79,Zc3 N),(117,Zoc N),(118,Zod N),(119,Zoe N),(60,Zy N)]⟩
theorem Zzz(N:Nat):GW 82 (Zmu N):=GF Zzy N Tryz.func82 (GC (Zha N) (GC (Z1z N) (GC (Z11 N) (GC (Z13 N) (GC (Z4 N) Wg)))))
def Zke(N:Nat):Sig:=Sig.of [.boxal Jn 3] [] (λd=>Zgk N d.1 d.2.1)
def Zso:Fn:=⟨Tryz.f85,λ |1000000=>[.unfE 1]|_=>[],Zke,λN=>[(83,Zjj N),(79,Zc3 N),(97,Zcg N),(60,Zy N)]⟩
theorem Zsp(N:Nat):GW 85 (Zke N):=GF Zso N Tryz.func85 (GC (Zpq N) (GC (Zha N) (GC (Zf5 N) (GC (Z4 N) Wg))))
def Zit(N:Nat):Sig:=Sig.of [.v (.prod Ja Jv) true] [.v Js true] (λd=>Zhs N d.1)
def Zxm:Fn:=⟨Tryz.f166,WI,Zit,λN=>[(97,Zcg N),(60,Zy N)]⟩
theorem Zpa(N:Nat):GW 166 (Zit N):=GF Zxm N Tryz.func166 (GC (Zf5 N) (GC (Z4 N) Wg))
def Zg4(N:Nat):Sig:=Sig.of [.v (.prod Ja Jv) true] [.v Ja false] (λd=>Zdd N d.1)
def Zrk:Fn:=⟨Tryz.f195,WI,Zg4,Wbo⟩
theorem Znq(N:Nat):GW 195 (Zg4 N):=GF Zrk N Tryz.func195 Wg
def Zj0(N:Nat):Sig:=Sig.of [.v (.prod Ja Jv) true] [.v Jy false] (λd=>Zfl N d.1)
def Zf7:Fn:=⟨Tryz.f167,λ |4=>[.canon [1,3,38]]|5=>[.canon [1,3]]|6=>[.canon [1,3,54]]|7=>[.canon [2]]|9=>[.canon [1,56,57,58,59]]|10=>[.canon [1,4,5,56,57,58]]|11=>[.canon [1,56,57,58,79]]|12=>[.canon [2]]|13=>[.canon [1,56,57,58]]|100004=>[.canon [1,3]]|100009=>[.canon [1,56,57,58]]|_=>[],Zj0,λN=>[(53,Zc4 N),(42,Zw N),(28,Zb3 N),(56,Zbn N),(195,Zg4 N)]⟩
def Zsq(i7:Int)(b8:Int×Int×Int×Int×Int×List Kc×List Int):St:=⟨[(1,vP 0 0),(3,vI i7)],[(0,.box [.val Ja b8.1,.val Ja b8.2.1,.val Ja b8.2.2.1,.val Ja b8.2.2.2.1,.val Ja b8.2.2.2.2.1,.val Jc b8.2.2.2.2.2.1,.val Je b8.2.2.2.2.2.2])],1⟩
def Zrl(b8:Int×Int×Int×Int×Int×List Kc×List Int):St:=⟨[(2,vB false)],[],0⟩
def Zrm(b8:Int×Int×Int×Int×Int×List Kc×List Int)(i9:Int)(aw:Bool):St:=⟨[(1,vP 0 0),(3,vI i9),(38,vB aw)],[(0,.box [.val Ja b8.1,.val Ja b8.2.1,.val Ja b8.2.2.1,.val Ja b8.2.2.2.1,.val Ja b8.2.2.2.2.1,.val Jc b8.2.2.2.2.2.1,.val Je b8.2.2.2.2.2.2])],1⟩
theorem Zsr(N:Nat){R:Type}(K:Ex->St->Option R){b8:Int×Int×Int×Int×Int×List Kc×List Int}{K0:Option R}{K1:Int->Bool->Option R}(h0:K0=K .ret (Zrl b8))(h1:K1= λi9 aw=>K (.exit 0) (Zrm b8 i9 aw))(n:Nat)(i7:Int):Zbw N b8 K0 K1 n i7=LM Zf7 N 0 100004 n (Zsq i7 b8) K:=by
  subst h0 h1
  induction n generalizing i7 with
  |zero=>kernel_rfl
  |succ n ih=>rw[Zbw];simp only[ih];kernel_rfl
def Zss(aF:List Int)(aX:Int)(aZ:Int×Int×Int×Int×Int×List Kc×List Int):St:=⟨[(1,vP 0 0),(56,vV Je aF),(57,vI (Wi aZ.2.2.2.2.2.2)),(58,vI aX)],[(0,.box [.val Ja aZ.1,.val Ja aZ.2.1,.val Ja aZ.2.2.1,.val Ja aZ.2.2.2.1,.val Ja aZ.2.2.2.2.1,.val Jc aZ.2.2.2.2.2.1,.val Je aZ.2.2.2.2.2.2])],1⟩
def Zrn(aF:List Int)(aZ:Int×Int×Int×Int×Int×List Kc×List Int):St:=⟨[(2,vB false)],[],0⟩
def Zro(aF:List Int)(aZ:Int×Int×Int×Int×Int×List Kc×List Int)(ew:Int)(fJ:Bool):St:=⟨[(1,vP 0 0),(56,vV Je aF),(57,vI (Wi aZ.2.2.2.2.2.2)),(58,vI ew),(59,vB fJ)],[(0,.box [.val Ja aZ.1,.val Ja aZ.2.1,.val Ja aZ.2.2.1,.val Ja aZ.2.2.2.1,.val Ja aZ.2.2.2.2.1,.val Jc aZ.2.2.2.2.2.1,.val Je aZ.2.2.2.2.2.2])],1⟩
theorem Zst(N:Nat){R:Type}(K:Ex->St->Option R){aF:List Int}{aZ:Int×Int×Int×Int×Int×List Kc×List Int}{K0:Option R}{K1:Int->Bool->Option R}(h0:K0=K .ret (Zrn aF aZ))(h1:K1= λew fJ=>K (.exit 2) (Zro aF aZ ew fJ))(n:Nat)(aX:Int):Zbe N aF aZ K0 K1 n aX=LM Zf7 N 1 100009 n (Zss aF aX aZ) K:=by
  subst h0 h1
  induction n generalizing aX with
  |zero=>kernel_rfl
  |succ n ih=>rw[Zbe];simp only[ih];kernel_rfl
theorem Z0q(N:Nat)(c1:Int×Int×Int×Int×Int×List Kc×List Int):DN Zf7 N (c1,())=Zfl N c1:=by
  conv=>rhs;rw[Zfl];simp(disch:=exact id (by kernel_rfl)) only[Zsr (R:=Unit×Ko) N (CF Zf7 N [1,1,0,1,0]),Zst (R:=Unit×Ko) N (CF Zf7 N [1,1,1,0,1,0])]
  kernel_rfl
theorem Zp4(N:Nat):GW 167 (Zj0 N):=GF Zf7 N Tryz.func167 (GC (Zgv N) (GC (Z1 N) (GC (Zd0 N) (GC (Zcn N) (GC (Znq N) Wg))))) (λd=>Z0q N d.1)
def Zfr(N:Nat):Sig:=Sig.of [.box Js,.v Ja false] [] (λd=>Z3 N d.1 d.2.1)
def Zqj:Fn:=⟨Tryz.f168,WI,Zfr,Wbo⟩
theorem Zmv(N:Nat):GW 168 (Zfr N):=GF Zqj N Tryz.func168 Wg
def Zk4(N:Nat):Sig:=Sig.of [.v (.prod Ja Jv) true] [.v Js true,.v Jy false] (λd=>Zjc N d.1)
def Zuv:Fn:=⟨Tryz.f121,WI,Zk4,λN=>[(166,Zit N),(167,Zj0 N),(168,Zfr N)]⟩
theorem Zuw(N:Nat):GW 121 (Zk4 N):=GF Zuv N Tryz.func121 (GC (Zpa N) (GC (Zp4 N) (GC (Zmv N) Wg)))
def Zev(N:Nat):Sig:=Sig.of [.v Jad true] [.v Jac true] (λd=>Zcd N d.1)
def Z14:Fn:=⟨Tryz.f169,WI,Zev,Wbo⟩
theorem Zim(N:Nat):GW 169 (Zev N):=GF Z14 N Tryz.func169 Wg
def Zpv(N:Nat):Sig:=Sig.of [.v Jad true,.v Ja false,.v Ja false] [.v Jac true,.v Jy false] (λd=>Zno N d.1 d.2.1 d.2.2.1)
def Z4n:Fn:=⟨Tryz.f171,WI,Zpv,λN=>[(169,Zev N),(170,Ze8 N),(56,Zbn N),(53,Zc4 N)]⟩
theorem Z4o(N:Nat):GW 171 (Zpv N):=GF Z4n N Tryz.func171 (GC (Zim N) (GC (Zh9 N) (GC (Zcn N) (GC (Zgv N) Wg))))
def Zgi(N:Nat):Sig:=Sig.of [.box Js,.v Ja false] [] (λd=>Ze3 N d.1 d.2.1)
def Zqy:Fn:=⟨Tryz.f174,WI,Zgi,Wbo⟩
theorem Zne(N:Nat):GW 174 (Zgi N):=GF Zqy N Tryz.func174 Wg
def Zk5(N:Nat):Sig:=Sig.of [.box Js,.v Ja false] [] (λd=>Zbl N d.1 d.2.1)
def Zux:Fn:=⟨Tryz.f172,WI,Zk5,λN=>[(195,Zg4 N),(174,Zgi N)]⟩
theorem Zuy(N:Nat):GW 172 (Zk5 N):=GF Zux N Tryz.func172 (GC (Znq N) (GC (Zne N) Wg))
def Zpw(N:Nat):Sig:=Sig.of [.v Jad true] [.v Jac true,.v Ja false] (λd=>Zpn N d.1)
def Z4p:Fn:=⟨Tryz.f173,WI,Zpw,λN=>[(169,Zev N),(170,Ze8 N)]⟩
theorem Z4q(N:Nat):GW 173 (Zpw N):=GF Z4p N Tryz.func173 (GC (Zim N) (GC (Zh9 N) Wg))
def Zpi(N:Nat):Sig:=Sig.of [.v Jad true,.v Ja false,.v Ja false,.v Ja false] [.v Jac true,.v Jy false] (λd=>Zom N d.1 d.2.1 d.2.2.1 d.2.2.2.1)
def Z38:Fn:=⟨Tryz.f175,WI,Zpi,λN=>[(169,Zev N),(170,Ze8 N),(56,Zbn N),(53,Zc4 N),(52,Za3 N)]⟩
theorem Z39(N:Nat):GW 175 (Zpi N):=GF Z38 N Tryz.func175 (GC (Zim N) (GC (Zh9 N) (GC (Zcn N) (GC (Zgv N) (GC (Zbs N) Wg)))))
def Zo1(N:Nat):Sig:=Sig.of [.v Jad true,.v Ja false,.v Ja false,.v Ja false] [.v Jac true,.v Jy false] (λd=>Zli N d.1 d.2.1 d.2.2.1 d.2.2.2.1)
def Z3a:Fn:=⟨Tryz.f176,WI,Zo1,λN=>[(169,Zev N),(170,Ze8 N),(56,Zbn N),(53,Zc4 N),(42,Zw N)]⟩
theorem Z3b(N:Nat):GW 176 (Zo1 N):=GF Z3a N Tryz.func176 (GC (Zim N) (GC (Zh9 N) (GC (Zcn N) (GC (Zgv N) (GC (Z1 N) Wg)))))
def Zls(N:Nat):Sig:=Sig.of [.v Jad true,.v (.prod Ja Jv) true] [.v Jac true,.v Js true] (λd=>Zjt N d.1 d.2.1)
def Zxn:Fn:=⟨Tryz.f122,WI,Zls,λN=>[(169,Zev N),(166,Zit N),(170,Ze8 N),(167,Zj0 N),(171,Zpv N),(172,Zk5 N),(168,Zfr N),(173,Zpw N),(174,Zgi N),(175,Zpi N),(176,Zo1 N)]⟩
theorem Zxo(N:Nat):GW 122 (Zls N):=GF Zxn N Tryz.func122 (GC (Zim N) (GC (Zpa N) (GC (Zh9 N) (GC (Zp4 N) (GC (Z4o N) (GC (Zuy N) (GC (Zmv N) (GC (Z4q N) (GC (Zne N) (GC (Z39 N) (GC (Z3b N) Wg)))))))))))
def Zkf(N:Nat):Sig:=Sig.of [.box Jn,.v Ja false] [] (λd=>Zgl N d.1 d.2.1)
def Zsu:Fn:=⟨Tryz.f86,λ |0=>[.opn 13]|_=>[],Zkf,λN=>[(121,Zk4 N),(79,Zc3 N),(122,Zls N),(97,Zcg N)]⟩
theorem Zsv(N:Nat):GW 86 (Zkf N):=GF Zsu N Tryz.func86 (GC (Zuw N) (GC (Zha N) (GC (Zxo N) (GC (Zf5 N) Wg))))
def Ziu(N:Nat):Sig:=Sig.of [.v Jb true,.box Ja] [.v Jy false] (λd=>Zf4 N d.1 d.2.1)
def Zxp:Fn:=⟨Tryz.f126,WI,Ziu,Wbo⟩
theorem Zpb(N:Nat):GW 126 (Ziu N):=GF Zxp N Tryz.func126 Wg
def Zao(N:Nat):Sig:=Sig.of [.v Jk false,.clos 126 1,.box Ja] [.v Ja false] (λd=>Zu N d.1 d.2.1)
def Zaa:Fn:=⟨Tryz.f179,λ |2=>[.canon [0,1,7,8,9]]|3=>[.canon [0,1,5,7,8]]|4=>[.canon [0,1,5,7,8,16]]|5=>[.canon [1,4]]|6=>[.canon [0,1,7,8]]|100002=>[.canon [0,1,7,8]]|_=>[],Zao,λN=>[(126,Ziu N)]⟩
def Zew(s3:List Kb)(t5:Int)(b6:Int):St:=⟨[(0,vV Jk s3),(1,.s (.one (.clos 126 [0]))),(7,vI (Wi s3)),(8,vI t5)],[(0,.box [.val Ja b6])],1⟩
def Zed(s3:List Kb)(t9:Int)(ba:Int):St:=⟨[(1,.s (.one (.clos 126 [0]))),(4,vI t9)],[(0,.box [.val Ja ba])],1⟩
def Zee(s3:List Kb)(ay:Int)(ai:Bool)(ac:Int):St:=⟨[(0,vV Jk s3),(1,.s (.one (.clos 126 [0]))),(7,vI (Wi s3)),(8,vI ay),(9,vB ai)],[(0,.box [.val Ja ac])],1⟩
theorem Zex(N:Nat){R:Type}(K:Ex->St->Option R){s3:List Kb}{K0:Int->Int->Option R}{K1:Int->Bool->Int->Option R}(h0:K0= λt9 ba=>K .ret (Zed s3 t9 ba))(h1:K1= λay ai ac=>K (.exit 0) (Zee s3 ay ai ac))(n:Nat)(t5:Int)(b6:Int):Zj N s3 K0 K1 n t5 b6=LM Zaa N 0 100002 n (Zew s3 t5 b6) K:=by
  subst h0 h1
  induction n generalizing t5 b6 with
  |zero=>kernel_rfl
  |succ n ih=>rw[Zj];simp only[ih];kernel_rfl
theorem Zfs(N:Nat)(s1:List Kb)(ck:Int):DN Zaa N (s1,ck,())=Zu N s1 ck:=by
  conv=>rhs;rw[Zu];simp(disch:=exact id (by kernel_rfl)) only[Zex (R:=Ki×Ki) N (CF Zaa N [1,0,1,0])]
  kernel_rfl
theorem Zft(N:Nat):GW 179 (Zao N):=GF Zaa N Tryz.func179 (GC (Zpb N) Wg) (λd=>Zfs N d.1 d.2.1)
def Zam(N:Nat):Sig:=Sig.of [.v (.own Jb) false,.clos 126 1,.box Ja] [.v (.own Jb) false] (λd=>Zo N d.1 d.2.1)
def Z6:Fn:=⟨Tryz.f125,λ |5=>[.canon [0,1,5,6,19]]|6=>[.canon [0,1,5,6]]|7=>[.canon [0,1,5,6,7]]|8=>[.canon [0,1,5,6,7,29]]|9=>[.canon [0,1,5,6]]|10=>[.canon [0,1,5,6]]|11=>[.view 38]|100005=>[.canon [0,1,5,6]]|_=>[],Zam,λN=>[(179,Zao N),(126,Ziu N)]⟩
def Zef(i4:Int)(j5:Int)(l6:List Kb)(b7:Int):St:=⟨[(0,vO 0),(1,.s (.one (.clos 126 [1]))),(5,vI i4),(6,vI j5)],[(0,.arr Jb l6),(1,.box [.val Ja b7])],2⟩
def Zd7(i9:Int)(tJ:Int)(ay:Bool)(aK:List Kb)(ac:Int):St:=⟨[(0,vO 0),(1,.s (.one (.clos 126 [1]))),(5,vI i9),(6,vI tJ),(19,vB ay)],[(0,.arr Jb aK),(1,.box [.val Ja ac])],2⟩
theorem Zeg(N:Nat){R:Type}(K:Ex->St->Option R){K0:Int->Int->Bool->Kt->Int->Option R}(h0:K0= λi9 tJ ay aK ac=>K (.exit 0) (Zd7 i9 tJ ay aK ac))(n:Nat)(i4:Int)(j5:Int)(l6:List Kb)(b7:Int):Zd N K0 n i4 j5 l6 b7=LM Z6 N 0 100005 n (Zef i4 j5 l6 b7) K:=by
  subst h0
  induction n generalizing i4 j5 l6 b7 with
  |zero=>kernel_rfl
  |succ n ih=>rw[Zd];simp only[ih];kernel_rfl
theorem Zfg(N:Nat)(s1:List Kb)(ck:Int):DN Z6 N (s1,ck,())=Zo N s1 ck:=by
  conv=>rhs;rw[Zo];simp(disch:=exact id (by kernel_rfl)) only[Zeg (R:=Ki×Kaa) N (CF Z6 N [1,1,1,0,1,0])]
  kernel_rfl
theorem Zfh(N:Nat):GW 125 (Zam N):=GF Z6 N Tryz.func125 (GC (Zft N) (GC (Zpb N) Wg)) (λd=>Zfg N d.1 d.2.1)
def Znj(N:Nat):Sig:=Sig.of [.v Jk false,.v Ja false] [.v (.own Jb) false] (λd=>Zlx N d.1 d.2.1)
def Z0r:Fn:=⟨Tryz.f87,WI,Znj,λN=>[(123,Zjl N),(124,Zgu N),(125,Zam N)]⟩
theorem Z0s(N:Nat):GW 87 (Znj N):=GF Z0r N Tryz.func87 (GC (Zps N) (GC (Zkv N) (GC (Zfh N) Wg)))
def Zlt(N:Nat):Sig:=Sig.of [.box Jn,.v Ja false,.v Jo true] [] (λd=>Zht N d.1 d.2.1 d.2.2.1)
def Zxq:Fn:=⟨Tryz.f43,λ |1=>[.opn 12]|_=>[],Zlt,λN=>[(42,Zw N),(79,Zc3 N),(80,Zlq N),(81,Zms N),(82,Zmu N),(83,Zhg N),(84,Zis N),(85,Zke N),(86,Zkf N),(87,Znj N),(88,Zjh N)]⟩
theorem Zxr(N:Nat):GW 43 (Zlt N):=GF Zxq N Tryz.func43 (GC (Z1 N) (GC (Zha N) (GC (Zxa N) (GC (Zzv N) (GC (Zzz N) (GC (Zok N) (GC (Zo9 N) (GC (Zsp N) (GC (Zsv N) (GC (Z0s N) (GC (Zpo N) Wg)))))))))))
def Ziv(N:Nat):Sig:=Sig.of [.v Jb true,.box Ja] [.v Jy false] (λd=>Zj6 N d.1 d.2.1)
def Zqz:Fn:=⟨Tryz.f133,WI,Ziv,Wbo⟩
theorem Zq0(N:Nat):GW 133 (Ziv N):=GF Zqz N Tryz.func133 Wg
def Zaf(N:Nat):Sig:=Sig.of [.v Jk false,.clos 133 1,.box Ja] [.v Ja false] (λd=>Zn N d.1 d.2.1)
def Zz:Fn:=⟨Tryz.f132,λ |2=>[.canon [0,1,7,8,9]]|3=>[.canon [0,1,5,7,8]]|4=>[.canon [0,1,5,7,8,16]]|5=>[.canon [1,4]]|6=>[.canon [0,1,7,8]]|100002=>[.canon [0,1,7,8]]|_=>[],Zaf,λN=>[(133,Ziv N)]⟩
def Zdg(s3:List Kb)(t5:Int)(b6:Int):St:=⟨[(0,vV Jk s3),(1,.s (.one (.clos 133 [0]))),(7,vI (Wi s3)),(8,vI t5)],[(0,.box [.val Ja b6])],1⟩
def Zc8(s3:List Kb)(t9:Int)(ba:Int):St:=⟨[(1,.s (.one (.clos 133 [0]))),(4,vI t9)],[(0,.box [.val Ja ba])],1⟩
def Zc9(s3:List Kb)(ay:Int)(ai:Bool)(ac:Int):St:=⟨[(0,vV Jk s3),(1,.s (.one (.clos 133 [0]))),(7,vI (Wi s3)),(8,vI ay),(9,vB ai)],[(0,.box [.val Ja ac])],1⟩
theorem Zdh(N:Nat){R:Type}(K:Ex->St->Option R){s3:List Kb}{K0:Int->Int->Option R}{K1:Int->Bool->Int->Option R}(h0:K0= λt9 ba=>K .ret (Zc8 s3 t9 ba))(h1:K1= λay ai ac=>K (.exit 0) (Zc9 s3 ay ai ac))(n:Nat)(t5:Int)(b6:Int):Zf N s3 K0 K1 n t5 b6=LM Zz N 0 100002 n (Zdg s3 t5 b6) K:=by
  subst h0 h1
  induction n generalizing t5 b6 with
  |zero=>kernel_rfl
  |succ n ih=>rw[Zf];simp only[ih];kernel_rfl
theorem Zd8(N:Nat)(s1:List Kb)(ck:Int):DN Zz N (s1,ck,())=Zn N s1 ck:=by
  conv=>rhs;rw[Zn];simp(disch:=exact id (by kernel_rfl)) only[Zdh (R:=Ki×Ki) N (CF Zz N [1,0,1,0])]
  kernel_rfl
theorem Zd9(N:Nat):GW 132 (Zaf N):=GF Zz N Tryz.func132 (GC (Zq0 N) Wg) (λd=>Zd8 N d.1 d.2.1)
def Zfb(N:Nat):Sig:=Sig.of [.rp (TY_Family),.v Ja false] [.v Ja false] (λd=>Zci N d.1 d.2.1)
def Zsw:Fn:=⟨Tryz.f91,WI,Zfb,λN=>[(132,Zaf N)]⟩
theorem Zkg(N:Nat):GW 91 (Zfb N):=GF Zsw N Tryz.func91 (GC (Zd9 N) Wg)
def Zgj(N:Nat):Sig:=Sig.of [.box Jq,.v Ja false] [] (λd=>Zbf N d.1 d.2.1)
def Zq1:Fn:=⟨Tryz.f92,WI,Zgj,λN=>[(60,Zy N)]⟩
theorem Znf(N:Nat):GW 92 (Zgj N):=GF Zq1 N Tryz.func92 (GC (Z4 N) Wg)
def Zk6(N:Nat):Sig:=Sig.of [.box Jq,.v Ja false,.v Ju true,.v Jad true] [] (λd=>Zi5 N d.1 d.2.1 d.2.2.1 d.2.2.2.1)
def Zuz:Fn:=⟨Tryz.f127,λ |1=>[.opn 18]|_=>[],Zk6,λN=>[(152,Zlk N),(91,Zfb N),(92,Zgj N),(153,Zjy N),(154,Zji N)]⟩
theorem Zu0(N:Nat):GW 127 (Zk6 N):=GF Zuz N Tryz.func127 (GC (Zpu N) (GC (Zkg N) (GC (Znf N) (GC (Zp2 N) (GC (Zpp N) Wg)))))
def Zkh(N:Nat):Sig:=Sig.of [.box Jm,.v Jh false] [] (λd=>Zin N d.1 d.2.1)
def Zsx:Fn:=⟨Tryz.f128,λ |5=>[.opn 28]|_=>[],Zkh,λN=>[(60,Zy N),(97,Zcg N),(156,Zm8 N)]⟩
theorem Zsy(N:Nat):GW 128 (Zkh N):=GF Zsx N Tryz.func128 (GC (Z4 N) (GC (Zf5 N) (GC (Zse N) Wg)))
def Zlu(N:Nat):Sig:=Sig.of [.box Jq,.v Ja false,.v Jh false,.v Jad true] [] (λd=>Zjq N d.1 d.2.1 d.2.2.1 d.2.2.2.1)
def Zxs:Fn:=⟨Tryz.f89,λ |1=>[.opn 16]|18=>[.nest 128 Jae]|_=>[],Zlu,λN=>[(127,Zk6 N),(128,Zkh N),(60,Zy N),(116,Znw N)]⟩
theorem Zxt(N:Nat):GW 89 (Zlu N):=GF Zxs N Tryz.func89 (GC (Zu0 N) (GC (Zsy N) (GC (Z4 N) (GC (Zwf N) Wg))))
def Za9(N:Nat):Sig:=Sig.of [.mut Jb,.clos 131 0] [] (λd=>Zah N d.1)
theorem Zeh:CmpOk Tryz.prog 131 Jb Wva cfE:=by
  intro G x y us vs w hx hy h1 h2;obtain⟨_,_,rfl,a1,_,_,rfl,a2,a3⟩:=h1;obtain⟨_,_,rfl,b1,_,_,rfl,b2,b3⟩:=h2;simp only[Enc]at a1 a2 a3 b1 b2 b3;subst a1 a2 a3 b1 b2 b3;simp only[Xaz,Xbs]
  go_enter Tryz.func131,Tryz.ntmps131
  go_wp2
  rw[sub_run (Wef hx) (Wef hy) (c:=cfE x y) rfl]
  go_wp2
  go_ret
  exact⟨rfl,two_grow _ _ _⟩
theorem Zei(N:Nat):GW 130 (Za9 N):=⟨WcL Tryz.func130 (show WnQ Tryz.f130=true by kernel_rfl),good_sortF sortFE (e:=.prod Ja Jaa) rfl (by decide) Tryz.isAgg112 Tryz.sizeOf112 (enters_of Tryz.func131 (by kernel_rfl) rfl) Wwm Zeh N⟩
def Zki(N:Nat):Sig:=Sig.of [.box Jq,.v Ja false] [] (λd=>Zd3 N d.1 d.2.1)
def Zcp:Fn:=⟨Tryz.f90,λ |0=>[.opn 16]|3=>[.canon [0,1,4,28,29,30,31]]|4=>[.canon [0,1,4,6,28,29,30]]|5=>[.canon [0,1,4,6,7,28,29,30]]|6=>[.canon [0,1,4,7,8,28,29,30]]|7=>[.canon [0,1,4,7,8,28,29,30,48]]|8=>[.canon [0,1,4,28,29,30]]|9=>[.canon [0,1,4,28,29,30]]|10=>[.canon [0,1,4,28,29,30]]|13=>[.canon [0,1,4,75,76,77,78]]|14=>[.canon [0,1,4,10,75,76,77]]|15=>[.canon [0,1,4,10,75,76,77,83]]|16=>[.canon [0,1,4,75,76,77]]|17=>[.canon [0,1,4,75,76,77]]|100003=>[.canon [0,1,4,28,29,30]]|100013=>[.canon [0,1,4,75,76,77]]|_=>[],Zki,λN=>[(129,Zkd N),(91,Zfb N),(130,Za9 N)]⟩
def Zp7(k4:Int)(t5:Int)(t6:Int)(b7:Int)(b8:Int)(b9:Int)(ba:Bool)(aR:Int)(aG:Int)(ac:Int)(dx:Int)(cR:Int)(aZ:Int)(bZ:Bool)(bM:Int)(bu:Int)(dy:Int)(gP:Int)(ca:List Kc)(cN:List Int)(db:List Kc)(eW:List Kb)(gQ:List Int)(cY:List Kc)(eb:List Y_KidRun)(gR:Nat)(fj:List Int)(eK:List Kb)(fm:List Kc)(ee:List Kk):St:=⟨[(0,vP 0 0),(1,vI k4),(4,vP 1 0),(28,vO 2),(29,vI t5),(30,vI t6)],[(0,.box [.val Ja b7,.val Ja b8,.val Ja b9,.val Jy ba,.own 3,.own 4,.own 5,.own 6,.own 7,.own 8]),(1,.box [.val Ja aR,.val Ja aG,.val Ja ac,.val Ja dx,.val Ja cR,.val Ja aZ,.own 9,.own 10,.own 11,.own 12,.val Jy bZ,.val Ja bM,.val Ja bu,.val Ja dy,.val Ja gP]),(2,.arr Jaa ca),(3,.arr Ja cN),(4,.arr Jaa db),(5,.arr Jb eW),(6,.arr Ja gQ),(7,.arr Jaa cY),(8,.hole Jm eb gR 1),(9,.arr Ja fj),(10,.arr Jb eK),(11,.arr Jaa fm),(12,.arr Jae ee)],13⟩
def Zpx(k4:Int)(t5:Int)(b7:Int)(b8:Int)(b9:Int)(ba:Bool)(aR:Int)(aG:Int)(ac:Int)(dx:Int)(cR:Int)(aZ:Int)(bZ:Bool)(bM:Int)(bu:Int)(dy:Int)(gP:Int)(ca:List Kc)(cN:List Int)(db:List Kc)(gQ:List Int)(cY:List Kc)(eb:List Y_KidRun)(gR:Nat)(fj:List Int)(eK:List Kb)(fm:List Kc)(ee:List Kk)(mh:Int)(nr:Bool)(tK:List Kb):St:=⟨[(0,vP 0 0),(1,vI k4),(4,vP 1 0),(28,vO 2),(29,vI t5),(30,vI mh),(31,vB nr)],[(0,.box [.val Ja b7,.val Ja b8,.val Ja b9,.val Jy ba,.own 3,.own 4,.own 5,.own 6,.own 7,.own 8]),(1,.box [.val Ja aR,.val Ja aG,.val Ja ac,.val Ja dx,.val Ja cR,.val Ja aZ,.own 9,.own 10,.own 11,.own 12,.val Jy bZ,.val Ja bM,.val Ja bu,.val Ja dy,.val Ja gP]),(2,.arr Jaa ca),(3,.arr Ja cN),(4,.arr Jaa db),(5,.arr Jb tK),(6,.arr Ja gQ),(7,.arr Jaa cY),(8,.hole Jm eb gR 1),(9,.arr Ja fj),(10,.arr Jb eK),(11,.arr Jaa fm),(12,.arr Jae ee)],13⟩
theorem Zp8(N:Nat){R:Type}(K:Ex->St->Option R){k4:Int}{t5:Int}{b7:Int}{b8:Int}{b9:Int}{ba:Bool}{aR:Int}{aG:Int}{ac:Int}{dx:Int}{cR:Int}{aZ:Int}{bZ:Bool}{bM:Int}{bu:Int}{dy:Int}{gP:Int}{ca:List Kc}{cN:List Int}{db:List Kc}{gQ:List Int}{cY:List Kc}{eb:List Y_KidRun}{gR:Nat}{fj:List Int}{eK:List Kb}{fm:List Kc}{ee:List Kk}{K0:Int->Bool->Kt->Option R}(h0:K0= λmh nr tK=>K (.exit 0) (Zpx k4 t5 b7 b8 b9 ba aR aG ac dx cR aZ bZ bM bu dy gP ca cN db gQ cY eb gR fj eK fm ee mh nr tK))(n:Nat)(t6:Int)(eW:List Kb):Zau N k4 t5 b7 b8 b9 ba aR aG ac dx cR aZ bZ bM bu dy gP ca cN db gQ cY eb gR fj eK fm ee K0 n t6 eW=LM Zcp N 0 100003 n (Zp7 k4 t5 t6 b7 b8 b9 ba aR aG ac dx cR aZ bZ bM bu dy gP ca cN db eW gQ cY eb gR fj eK fm ee) K:=by
  subst h0
  induction n generalizing t6 eW with
  |zero=>kernel_rfl
  |succ n ih=>rw[Zau];simp only[ih];kernel_rfl
def Zp9(ja:Int)(jb:Int)(t45:Int)(fD:Int)(jc:Int)(jd:Int)(je:Bool)(jf:Int)(jg:Int)(jh:Int)(ji:Int)(jj:Int)(jk:Int)(jl:Bool)(jm:Int)(jn:Int)(jo:Int)(jp:Int)(df:List Kb)(jq:List Int)(jr:List Kc)(jt:List Kb)(ju:List Int)(kz:List Kc)(jv:List Y_KidRun)(jw:Nat)(fE:List Int)(fF:List Kc)(fG:List Kk):St:=⟨[(0,vP 0 0),(1,vI ja),(4,vP 1 0),(75,vO 2),(76,vI jb),(77,vI t45)],[(0,.box [.val Ja fD,.val Ja jc,.val Ja jd,.val Jy je,.own 3,.own 4,.own 5,.own 6,.own 7,.own 8]),(1,.box [.val Ja jf,.val Ja jg,.val Ja jh,.val Ja ji,.val Ja jj,.val Ja jk,.own 9,.own 2,.own 10,.own 11,.val Jy jl,.val Ja jm,.val Ja jn,.val Ja jo,.val Ja jp]),(2,.arr Jb df),(3,.arr Ja jq),(4,.arr Jaa jr),(5,.arr Jb jt),(6,.arr Ja ju),(7,.arr Jaa kz),(8,.hole Jm jv jw 1),(9,.arr Ja fE),(10,.arr Jaa fF),(11,.arr Jae fG)],12⟩
def Zpy(ja:Int)(jb:Int)(fD:Int)(jc:Int)(jd:Int)(je:Bool)(jf:Int)(jg:Int)(jh:Int)(ji:Int)(jj:Int)(jk:Int)(jl:Bool)(jm:Int)(jn:Int)(jo:Int)(jp:Int)(df:List Kb)(jq:List Int)(jr:List Kc)(jt:List Kb)(ju:List Int)(jv:List Y_KidRun)(jw:Nat)(fE:List Int)(fF:List Kc)(fG:List Kk)(tL:Int)(tM:Bool)(tN:List Kc):St:=⟨[(0,vP 0 0),(1,vI ja),(4,vP 1 0),(75,vO 2),(76,vI jb),(77,vI tL),(78,vB tM)],[(0,.box [.val Ja fD,.val Ja jc,.val Ja jd,.val Jy je,.own 3,.own 4,.own 5,.own 6,.own 7,.own 8]),(1,.box [.val Ja jf,.val Ja jg,.val Ja jh,.val Ja ji,.val Ja jj,.val Ja jk,.own 9,.own 2,.own 10,.own 11,.val Jy jl,.val Ja jm,.val Ja jn,.val Ja jo,.val Ja jp]),(2,.arr Jb df),(3,.arr Ja jq),(4,.arr Jaa jr),(5,.arr Jb jt),(6,.arr Ja ju),(7,.arr Jaa tN),(8,.hole Jm jv jw 1),(9,.arr Ja fE),(10,.arr Jaa fF),(11,.arr Jae fG)],12⟩
theorem Zqa(N:Nat){R:Type}(K:Ex->St->Option R){ja:Int}{jb:Int}{fD:Int}{jc:Int}{jd:Int}{je:Bool}{jf:Int}{jg:Int}{jh:Int}{ji:Int}{jj:Int}{jk:Int}{jl:Bool}{jm:Int}{jn:Int}{jo:Int}{jp:Int}{df:List Kb}{jq:List Int}{jr:List Kc}{jt:List Kb}{ju:List Int}{jv:List Y_KidRun}{jw:Nat}{fE:List Int}{fF:List Kc}{fG:List Kk}{K0:Int->Bool->Kw->Option R}(h0:K0= λtL tM tN=>K (.exit 2) (Zpy ja jb fD jc jd je jf jg jh ji jj jk jl jm jn jo jp df jq jr jt ju jv jw fE fF fG tL tM tN))(n:Nat)(t45:Int)(kz:List Kc):Za4 N ja jb fD jc jd je jf jg jh ji jj jk jl jm jn jo jp df jq jr jt ju jv jw fE fF fG K0 n t45 kz=LM Zcp N 1 100013 n (Zp9 ja jb t45 fD jc jd je jf jg jh ji jj jk jl jm jn jo jp df jq jr jt ju kz jv jw fE fF fG) K:=by
  subst h0
  induction n generalizing t45 kz with
  |zero=>kernel_rfl
  |succ n ih=>rw[Za4];simp only[ih];kernel_rfl
theorem Zsz(N:Nat)(f1:Y_Family)(k2:Int):DN Zcp N (f1,k2,())=Zd3 N f1 k2:=by
  conv=>rhs;rw[Zd3];simp(disch:=exact id (by kernel_rfl)) only[Zp8 (R:=(Y_Family×Unit)×Unit) N (CF Zcp N [1,1,0,1,0]),Zqa (R:=(Y_Family×Unit)×Unit) N (CF Zcp N [1,1,1,1,0,1,0])]
  kernel_rfl
theorem Zs0(N:Nat):GW 90 (Zki N):=GF Zcp N Tryz.func90 (GC (Zow N) (GC (Zkg N) (GC (Zei N) Wg))) (λd=>Zsz N d.1 d.2.1)
def Zk7(N:Nat):Sig:=Sig.of [.box Jq,.v Ja false,.v Jh false,.v Jad true] [] (λd=>Zi6 N d.1 d.2.1 d.2.2.1 d.2.2.2.1)
def Zu1:Fn:=⟨Tryz.f44,λ |2=>[.opn 20]|_=>[],Zk7,λN=>[(89,Zlu N),(90,Zki N),(91,Zfb N),(92,Zgj N)]⟩
theorem Zu2(N:Nat):GW 44 (Zk7 N):=GF Zu1 N Tryz.func44 (GC (Zxt N) (GC (Zs0 N) (GC (Zkg N) (GC (Znf N) Wg))))
def Zmw(N:Nat):Sig:=Sig.of [.box Jn,.v Jag true,.v Jb true] [] (λd=>Zkl N d.1 d.2.1 d.2.2.1)
def Zz0:Fn:=⟨Tryz.f17,λ |3=>[.unfE 6]|_=>[],Zmw,λN=>[(42,Zw N),(43,Zlt N),(44,Zk7 N)]⟩
theorem Zz1(N:Nat):GW 17 (Zmw N):=GF Zz0 N Tryz.func17 (GC (Z1 N) (GC (Zxr N) (GC (Zu2 N) Wg)))
def Zof(N:Nat):Sig:=Sig.of [.v Jag true] [.v (TY_World) true] (λd=>Zh5 N d.1)
def Zk8:Fn:=⟨Tryz.f6,λ |3=>[.nest 21 Jl]|6=>[.canon [1,2,3,32,33,34,35]]|7=>[.canon [1,2,3,5,32,33,34]]|8=>[.canon [1,2,3,32,33,34]]|9=>[.canon [1,2,3,32,33,34]]|100006=>[.adoptC 3 6 Jb,.adoptC 3 8 Ji,.canon [1,2,3,32,33,34]]|_=>[],Zof,λN=>[(14,Znh N),(15,Zmp N),(16,Zou N),(17,Zmw N)]⟩
def Zu3(t5:List Kb)(t7:Int)(b8:Kf×List Km×List Kb)(ac:Int)(dx:Int)(cR:Int)(aZ:Int)(cI:List Kb)(bW:List Int)(cM:List Kb)(dM:List Y_Root)(bz:List Kn):St:=⟨[(1,vP 0 0),(2,vP 1 0),(3,vP 2 0),(32,vV Jk t5),(33,vI (Wi b8.2.2)),(34,vI t7)],[(0,.box [.val Je b8.1.1,.val Je b8.1.2.1,.val Ja b8.1.2.2,.val Jab b8.2.1,.val Jk b8.2.2]),(1,.box [.val Ja (0:Int),.val Ja (0:Int),.val Ja (0:Int),.nils,.nils,.val Ja (0:Int),.nils,.nils,.nils]),(2,.box [.val Ja ac,.val Ja dx,.val Ja cR,.own 3,.own 4,.val Ja aZ,.own 5,.own 6,.own 7]),(3,.arr Jb cI),(4,.arr Ja bW),(5,.arr Jb cM),(6,.arr Jl dM),(7,.arr Ji bz)],8⟩
def Zs1(t5:List Kb)(b8:Kf×List Km×List Kb)(nF:Int)(t25:Bool)(lA:Int)(lz:Int)(lB:Int)(tO:Int)(fj:List Kb)(eK:List Int)(fm:List Kb)(ee:List Y_Root)(nG:List Kn):St:=⟨[(1,vP 0 0),(2,vP 1 0),(3,vP 2 0),(32,vV Jk t5),(33,vI (Wi b8.2.2)),(34,vI nF),(35,vB t25)],[(0,.box [.val Je b8.1.1,.val Je b8.1.2.1,.val Ja b8.1.2.2,.val Jab b8.2.1,.val Jk b8.2.2]),(1,.box [.val Ja (0:Int),.val Ja (0:Int),.val Ja (0:Int),.nils,.nils,.val Ja (0:Int),.nils,.nils,.nils]),(2,.box [.val Ja lA,.val Ja lz,.val Ja lB,.own 3,.own 4,.val Ja tO,.own 5,.own 6,.own 7]),(3,.arr Jb fj),(4,.arr Ja eK),(5,.arr Jb fm),(6,.arr Jl ee),(7,.arr Ji nG)],8⟩
theorem Zu4(N:Nat){R:Type}(K:Ex->St->Option R){t5:List Kb}{b8:Kf×List Km×List Kb}{K0:Int->Bool->Int->Int->Int->Int->Kt->Kh->Kt->(List Y_Root)->(List Kn)->Option R}(h0:K0= λnF t25 lA lz lB tO fj eK fm ee nG=>K (.exit 0) (Zs1 t5 b8 nF t25 lA lz lB tO fj eK fm ee nG))(n:Nat)(t7:Int)(ac:Int)(dx:Int)(cR:Int)(aZ:Int)(cI:List Kb)(bW:List Int)(cM:List Kb)(dM:List Y_Root)(bz:List Kn):Zar N t5 b8 K0 n t7 ac dx cR aZ cI bW cM dM bz=LM Zk8 N 0 100006 n (Zu3 t5 t7 b8 ac dx cR aZ cI bW cM dM bz) K:=by
  subst h0
  induction n generalizing t7 ac dx cR aZ cI bW cM dM bz with
  |zero=>kernel_rfl
  |succ n ih=>rw[Zar];simp only[ih];kernel_rfl
theorem Z15(N:Nat)(s1:Kf×List Km×List Kb):DN Zk8 N (s1,())=Zh5 N s1:=by
  conv=>rhs;rw[Zh5];simp(disch:=exact id (by kernel_rfl)) only[Zu4 (R:=Unit×(Y_World×Unit)) N (CF Zk8 N [1,1,1,1,0,1,0])]
  kernel_rfl
theorem Z16(N:Nat):GW 6 (Zof N):=GF Zk8 N Tryz.func6 (GC (Z0d N) (GC (Zzd N) (GC (Z21 N) (GC (Zz1 N) Wg)))) (λd=>Z15 N d.1)
def Zgd(N:Nat):Sig:=Sig.of [.v Ja false,.v Ja false,.v Ja false] [.v Jy false] (λd=>Zbo N d.1 d.2.1 d.2.2.1)
def Z4r:Fn:=⟨Tryz.f46,WI,Zgd,Wbo⟩
theorem Zi4(N:Nat):GW 46 (Zgd N):=GF Z4r N Tryz.func46 Wg
def Zia(N:Nat):Sig:=Sig.of [.v Ja false] [.v Jy false] (λd=>Zg5 N d.1)
def Z4a:Fn:=⟨Tryz.f45,WI,Zia,λN=>[(46,Zgd N)]⟩
end
end Go.Sx
