/- Each Go function does what its Lean function says. -/
import Derived.Test.YtlemhlmemchiaaaGreatT2
import Derived.Test.YtlemhlmemchiaaaGreatProg
import Derived.Test.YtlemhlmemchiaaaGreatLay
open Bool renaming and_eq_true→Xi
open List renaming cons_append→Xbd,nil_append→Xby
namespace Go.Sx
noncomputable section
open Go.Proofs
abbrev Ja:Ty:=.int .i64
abbrev Jb:Ty:=.prod Ja (.prod Ja Ja)
abbrev Jc:Ty:=.slice (.prod Ja Ja)
abbrev Jd:Ty:=.own (.prod Ja Ja)
abbrev Je:Ty:=.slice Ja
abbrev Jf:Ty:=.own Ja
abbrev Jg:Ty:=.prod (.prod Ja Jb) (.prod (.prod Ja (.prod Ja (.prod Ja (.prod Ja (.prod Ja (.prod Jd Jf)))))) (.prod Ja (.prod Ja (.prod Ja (.prod (.bool) (.prod Jf (.prod Jd (.prod (.own Jb) (.prod Jf (.prod Jd (.own (.prod Ja (.prod Ja (.prod Ja (.prod Ja (.prod Ja (.prod Ja (.prod Jf (.prod (.own Jb) (.prod Jd (.prod (.own (.prod Ja (.prod Ja Jf))) (.prod (.bool) (.prod Ja Jb)))))))))))))))))))))))
abbrev Jh:Ty:=.slice (.prod Ja Jb)
abbrev Ji:Ty:=.prod Ja (.prod Ja Jc)
abbrev Jj:Ty:=.prod Ja (.prod Ja (.prod Ja (.prod Ja Je)))
abbrev Jk:Ty:=.slice Jb
abbrev Jl:Ty:=.prod Ja (.prod Ja (.prod Ja (.prod Ja (.prod Ja (.prod Ja (.prod Ja (.prod Ja (.prod Ja (.prod Ja (.prod Ja (.prod (.bool) (.prod Jf (.prod Jd (.prod Jd (.prod (.own Jj) (.prod (.own Jb) (.prod Jf (.prod (.bool) Jg))))))))))))))))))
abbrev Jm:Ty:=.prod Ja (.prod Ja (.prod Ja (.prod Ja (.prod Ja (.prod Ja (.prod Jf (.prod (.own Jb) (.prod Jd (.prod (.own (.prod Ja (.prod Ja Jf))) (.prod (.bool) (.prod Ja Jb)))))))))))
abbrev Jn:Ty:=.prod Ja (.prod Ja (.prod (.prod Ja (.own Jb)) (.prod (.prod Jf Ja) (.prod (.own Jb) (.prod (.own Jl) (.own Ji))))))
abbrev Jo:Ty:=.prod Jh (.slice Jh)
abbrev Jp:Ty:=.prod (.slice (.int .u8)) (.prod Ja Ja)
abbrev Jq:Ty:=.prod Ja (.prod Ja (.prod Ja (.prod (.bool) (.prod Jf (.prod Jd (.prod (.own Jb) (.prod Jf (.prod Jd (.own Jm)))))))))
abbrev Jr:Ty:=.slice (TY_KidRun)
abbrev Js:Ty:=.prod Ja (.prod Ja (.prod Ja (.prod Ja (.prod Ja (.prod Jd Jf)))))
abbrev Jt:Ty:=.slice Ji
abbrev Ju:Ty:=.prod Ja Jb
abbrev Jv:Ty:=.prod Ja (.prod Ja (.prod Ja (.prod Ja (.prod Jc Je))))
abbrev Jw:Ty:=.slice (TY_Root)
abbrev Jx:Ty:=.prod Je (.prod Je Ja)
abbrev Jy:Ty:=.bool
abbrev Jz:Ty:=.slice (.int .u8)
abbrev Jaa:Ty:=.prod Ja Ja
abbrev Jab:Ty:=.slice Jo
abbrev Jac:Ty:=.prod Ja (.own Jb)
abbrev Jad:Ty:=.prod Ja Jk
abbrev Jae:Ty:=.prod Ja (.prod Ja Jf)
abbrev Jaf:Ty:=.prod Jf (.prod Jf Ja)
abbrev Jag:Ty:=.prod Jx (.prod Jab Jk)
set_option linter.unusedVariables false
set_option linter.unusedSimpArgs false
def tab:Tab:=[(3,⟨.int .i64,false,.basic⟩),(4,⟨.bool,false,.basic⟩),(5,⟨.int .u8,false,.basic⟩),(22,⟨.slice (.int .u8),false,.slice 5⟩),(24,⟨.slice Ja,false,.slice 3⟩),(25,⟨.slice Jaa,false,.slice 75⟩),(26,⟨.slice Jh,false,.slice 109⟩),(30,⟨.slice Jb,false,.slice 113⟩),(32,⟨.prod Ja Jk,true,.struct [(0,3),(1,30)]⟩),(33,⟨.slice Jb,false,.slice 121⟩),(34,⟨.slice (TY_KidRun),false,.slice 119⟩),(36,⟨TY_Family,true,.struct [(0,3),(1,3),(2,3),(3,4),(4,24),(5,25),(6,33),(7,24),(8,25),(9,34)]⟩),(50,⟨.prod Je (.prod Je Ja),true,.struct [(0,24),(1,24),(2,3)]⟩),(51,⟨.slice Jo,false,.slice 91⟩),(52,⟨.slice Jb,false,.slice 132⟩),(54,⟨.prod Jx (.prod Jab Jk),true,.struct [(0,50),(3,51),(4,52)]⟩),(57,⟨.prod Je Ja,true,.struct [(0,24),(1,3)]⟩),(58,⟨.slice Jb,false,.slice 284⟩),(59,⟨.slice (TY_Root),false,.slice 72⟩),(60,⟨.slice Ji,false,.slice 84⟩),(62,⟨TY_World,true,.struct [(0,3),(1,3),(2,32),(4,57),(6,58),(7,59),(8,60)]⟩),(65,⟨.slice Jj,false,.slice 237⟩),(66,⟨.slice Jb,false,.slice 275⟩),(68,⟨.prod Ja Jb,true,.struct [(0,3),(1,3),(2,3),(3,3)]⟩),(70,⟨.prod Ja Jv,true,.struct [(0,3),(1,3),(2,3),(3,3),(4,3),(5,25),(6,24)]⟩),(72,⟨TY_Root,true,.struct [(0,3),(1,3),(2,3),(3,3),(4,3),(5,3),(6,3),(7,3),(8,3),(9,3),(10,3),(11,4),(12,24),(13,25),(14,25),(15,65),(16,66),(17,24),(18,4),(19,68),(23,70),(30,36)]⟩),(75,⟨.prod Ja Ja,true,.struct [(0,3),(1,3)]⟩),(84,⟨.prod Ja (.prod Ja Jc),true,.struct [(0,3),(1,3),(2,25)]⟩),(89,⟨.slice Ju,false,.slice 168⟩),(91,⟨.prod Jh (.slice Jh),true,.struct [(0,89),(1,26)]⟩),(109,⟨.slice Ju,true,.struct [(0,89)]⟩),(113,⟨.prod Ja Jaa,true,.struct [(0,3),(1,3),(2,3)]⟩),(117,⟨.slice (.prod Ja (.prod Ja Je)),false,.slice 229⟩),(119,⟨TY_KidRun,true,.struct [(0,3),(1,3),(2,3),(3,3),(4,3),(5,3),(6,24),(7,33),(8,25),(9,117),(10,4),(11,68)]⟩),(121,⟨.prod Ja Jaa,true,.struct [(0,3),(1,3),(2,3)]⟩),(132,⟨.prod Ja Jaa,true,.struct [(0,3),(1,3),(2,3)]⟩),(156,⟨.prod Jz Jaa,true,.struct [(0,22),(1,3),(2,3)]⟩),(168,⟨.prod Ja Jb,true,.struct [(0,3),(1,3),(2,3),(3,3)]⟩),(220,⟨.bool,true,.arr 8 4⟩),(229,⟨.prod Ja (.prod Ja Je),true,.struct [(0,3),(1,3),(2,24)]⟩),(237,⟨.prod Ja (.prod Ja (.prod Ja (.prod Ja Je))),true,.struct [(0,3),(1,3),(2,3),(3,3),(4,24)]⟩),(275,⟨.prod Ja Jaa,true,.struct [(0,3),(1,3),(2,3)]⟩),(284,⟨.prod Ja Jaa,true,.struct [(0,3),(1,3),(2,3)]⟩)]
theorem mixedOk:Tryz.prog.follows .mixedOrders=true:=by kernel_rfl
theorem tabOk:Waf Tryz.prog tab:=Wvq (show WlF Tryz.prog tab tab=true by kernel_rfl)
def LM(x:Fn)(N:Nat){R:Type}(i k n:Nat)(st:St)(K:Ex->St->Option R):Option R:=lpM tab (x.c N) x.a N x.F i k n st K
def CF(x:Fn)(N:Nat)(p:List Nat):Ex->St->Option (Qs (x.s N)):=cxF tab (x.c N) x.a N (x.s N) x.F p
def CL(x:Fn)(N:Nat){R:Type}(i k:Nat)(p:List Nat)(n:Nat)(K:Ex->St->Option R):Ex->St->Option R:=cxL tab (x.c N) x.a N x.F i k p n K
def DN(x:Fn)(N:Nat)(d:WeW (x.s N).ps):Option (Qs (x.s N)):=den (R:=Qs (x.s N)) tab (x.c N) x.a N (x.s N) x.F d some
def GW(k:FuncId)(s:Sig):Prop:=WfI Tryz.prog k/\Good Tryz.prog k s
theorem GC{k:FuncId}{s:Sig}{Γ:Ctx}(h:GW k s)(hc:WeT Tryz.prog Γ):WeT Tryz.prog ((k,s)::Γ):=WsD h.2 h.1 hc
theorem GF(x:Fn){k:FuncId}(N:Nat)(hf:Tryz.prog.funcs[k]?=some x.F)(hc:WeT Tryz.prog (x.c N))(h:∀d,DN x N d=(x.s N).run d:=by intro d;kernel_rfl)(aX:(Wnf x.F&&Wne x.F (x.s N).ps)=true:=by kernel_rfl):GW k (x.s N):=
  ⟨WcL hf (Xi .. ▸aX).1,Wsa mixedOk tabOk hc hf (Xi .. ▸aX).2 (λd _ e=>⟨N,(h d).trans e⟩)⟩
def Zqb(N:Nat):Sig:=Sig.of [.v Jz false] [.v Jy false] (λd=>Ztr N d.1)
def Z4t:Fn:=⟨Tryz.f9,WB,Zqb,Wbg⟩
theorem Z4u(N:Nat):GW 9 (Zqb N):=GF Z4t N Tryz.func9 Wa
def Zpd(N:Nat):Sig:=Sig.of [.v Jz false] [.box Jp] (λd=>Zj8 N d.1)
def Zm1:Fn:=⟨Tryz.f46,λ |3=>[.canon [0,3,4,15]]|4=>[.canon [0,3,4]]|5=>[.canon [0,3,4]]|100003=>[.canon [0,3,4]]|_=>[],Zpd,Wbg⟩
def Zyq(aa:List Int)(h3:Int)(i4:Int):St:=⟨[(0,vV Jz aa),(3,vI h3),(4,vI i4)],[],0⟩
def Zwh(aa:List Int)(h5:Int)(i6:Int)(t7:Bool):St:=⟨[(0,vV Jz aa),(3,vI h5),(4,vI i6),(15,vB t7)],[],0⟩
theorem Zyr(N:Nat){R:Type}(K:Ex->St->Option R){aa:List Int}{K0:Int->Int->Bool->Option R}(h0:K0= λh5 i6 t7=>K (.exit 0) (Zwh aa h5 i6 t7))(n:Nat)(h3:Int)(i4:Int):Zcv N aa K0 n h3 i4=LM Zm1 N 0 100003 n (Zyq aa h3 i4) K:=by
  subst h0
  induction n generalizing h3 i4 with
  |zero=>kernel_rfl
  |succ n ih=>rw[Zcv];simp only[ih];kernel_rfl
theorem Z3s(N:Nat)(ad:List Int):DN Zm1 N (ad,())=Zj8 N ad:=by
  conv=>rhs;rw[Zj8];simp(disch:=exact id (by kernel_rfl)) only[Zyr (R:=Unit×Kr) N (CF Zm1 N [1,1,0,1,0])]
  kernel_rfl
theorem Z3t(N:Nat):GW 46 (Zpd N):=GF Zm1 N Tryz.func46 Wa (λd=>Z3s N d.1)
def Zoo(N:Nat):Sig:=Sig.of [.v Jz false,.v Ja false] [.v Ja false] (λd=>Znr N d.1 d.2.1)
def Z2j:Fn:=⟨Tryz.f72,WB,Zoo,Wbg⟩
theorem Z2k(N:Nat):GW 72 (Zoo N):=GF Z2j N Tryz.func72 Wa
def Zop(N:Nat):Sig:=Sig.of [.box Jp] [.v Ja false] (λd=>Zgd N d.1)
def Z2l:Fn:=⟨Tryz.f181,WB,Zop,Wbg⟩
theorem Z2m(N:Nat):GW 181 (Zop N):=GF Z2l N Tryz.func181 Wa
def Zac(N:Nat):Sig:=Sig.of [.box Jp,.v Ja false] [.v Ja false] (λd=>Zb N d.1 d.2.1)
def Z02:Fn:=⟨Tryz.f111,WB,Zac,λN=>[(181,Zop N)]⟩
theorem Zah(N:Nat):GW 111 (Zac N):=GF Z02 N Tryz.func111 (GC (Z2m N) Wa)
def Zb4(N:Nat):Sig:=Sig.of [.box Jp,.v Ja false] [.v Jy false] (λd=>Zu N d.1 d.2.1)
def Z2n:Fn:=⟨Tryz.f96,WB,Zb4,λN=>[(111,Zac N)]⟩
theorem Zd1(N:Nat):GW 96 (Zb4 N):=GF Z2n N Tryz.func96 (GC (Zah N) Wa)
def Zhb(N:Nat):Sig:=Sig.of [.box Jp,.v Je false] [.v Ja false] (λd=>Zbt N d.1 d.2.1)
def Zys:Fn:=⟨Tryz.f227,WB,Zhb,λN=>[(111,Zac N)]⟩
theorem Zmj(N:Nat):GW 227 (Zhb N):=GF Zys N Tryz.func227 (GC (Zah N) Wa)
def Zje(N:Nat):Sig:=Sig.of [.box Jp] [.v Ja false] (λd=>Zho N d.1)
def Z2o:Fn:=⟨Tryz.f159,WB,Zje,λN=>[(96,Zb4 N),(227,Zhb N),(111,Zac N)]⟩
theorem Zoq(N:Nat):GW 159 (Zje N):=GF Z2o N Tryz.func159 (GC (Zd1 N) (GC (Zmj N) (GC (Zah N) Wa)))
def Zlm(N:Nat):Sig:=Sig.of [.box Jp] [.v Jf false] (λd=>Zf0 N d.1)
def Ziq:Fn:=⟨Tryz.f158,λ |3=>[.canon [0,3,4,7]]|4=>[.canon [0,3,4]]|5=>[.canon [0,3,4]]|100003=>[.canon [0,3,4]]|_=>[],Zlm,λN=>[(159,Zje N)]⟩
def Zqo(i2:Int)(b3:List Int×Int×Int)(l4:List Int):St:=⟨[(0,vP 0 0),(3,vO 1),(4,vI i2)],[(0,.box [.val Jz b3.1,.val Ja b3.2.1,.val Ja b3.2.2]),(1,.arr Ja l4)],2⟩
def Zqc(i6:Int)(t7:Bool)(b8:List Int×Int×Int)(l9:List Int):St:=⟨[(0,vP 0 0),(3,vO 1),(4,vI i6),(7,vB t7)],[(0,.box [.val Jz b8.1,.val Ja b8.2.1,.val Ja b8.2.2]),(1,.arr Ja l9)],2⟩
theorem Zqp(N:Nat){R:Type}(K:Ex->St->Option R){K0:Int->Bool->Kg->Kh->Option R}(h0:K0= λi6 t7 b8 l9=>K (.exit 0) (Zqc i6 t7 b8 l9))(n:Nat)(i2:Int)(b3:List Int×Int×Int)(l4:List Int):Zcr N K0 n i2 b3 l4=LM Ziq N 0 100003 n (Zqo i2 b3 l4) K:=by
  subst h0
  induction n generalizing i2 b3 l4 with
  |zero=>kernel_rfl
  |succ n ih=>rw[Zcr];simp only[ih];kernel_rfl
theorem Zwi(N:Nat)(c1:List Int×Int×Int):DN Ziq N (c1,())=Zf0 N c1:=by
  conv=>rhs;rw[Zf0];simp(disch:=exact id (by kernel_rfl)) only[Zqp (R:=Kr×Ky) N (CF Ziq N [1,1,0,1,0])]
  kernel_rfl
theorem Zwj(N:Nat):GW 158 (Zlm N):=GF Ziq N Tryz.func158 (GC (Zoq N) Wa) (λd=>Zwi N d.1)
def Zjv(N:Nat):Sig:=Sig.of [.box Jp] [.v Jaf true] (λd=>Zfl N d.1)
def Zjw:Fn:=⟨Tryz.f99,λ |3=>[.canon [0,2,3,4,12]]|4=>[.canon [0,2,3,4]]|5=>[.canon [0,2,3,4,5]]|6=>[.canon [0,2,3,4,5,16]]|7=>[.canon [0,2,3,4,5]]|8=>[.canon [0,2,3,4]]|100003=>[.adoptC 3 1 Ja,.canon [0,2,3,4]]|_=>[],Zjv,λN=>[(158,Zlm N),(159,Zje N),(96,Zb4 N)]⟩
def Zry(i4:Int)(b5:List Int×Int×Int)(b7:Int)(l8:List Int)(l9:List Int):St:=⟨[(0,vP 0 0),(2,vP 1 0),(3,vP 2 0),(4,vI i4)],[(0,.box [.val Jz b5.1,.val Ja b5.2.1,.val Ja b5.2.2]),(1,.box [.nils,.nils,.val Ja (0:Int)]),(2,.box [.own 3,.own 4,.val Ja b7]),(3,.arr Ja l8),(4,.arr Ja l9)],5⟩
def Zra(b7:Int)(l8:List Int)(fq:Int)(aY:Bool)(bc:List Int×Int×Int)(cK:List Int):St:=⟨[(0,vP 0 0),(2,vP 1 0),(3,vP 2 0),(4,vI fq),(12,vB aY)],[(0,.box [.val Jz bc.1,.val Ja bc.2.1,.val Ja bc.2.2]),(1,.box [.nils,.nils,.val Ja (0:Int)]),(2,.box [.own 3,.own 4,.val Ja b7]),(3,.arr Ja l8),(4,.arr Ja cK)],5⟩
theorem Zrz(N:Nat){R:Type}(K:Ex->St->Option R){b7:Int}{l8:List Int}{K0:Int->Bool->Kg->Kh->Option R}(h0:K0= λfq aY bc cK=>K (.exit 0) (Zra b7 l8 fq aY bc cK))(n:Nat)(i4:Int)(b5:List Int×Int×Int)(l9:List Int):Zcm N b7 l8 K0 n i4 b5 l9=LM Zjw N 0 100003 n (Zry i4 b5 b7 l8 l9) K:=by
  subst h0
  induction n generalizing i4 b5 l9 with
  |zero=>kernel_rfl
  |succ n ih=>rw[Zcm];simp only[ih];kernel_rfl
theorem Zz8(N:Nat)(c1:List Int×Int×Int):DN Zjw N (c1,())=Zfl N c1:=by
  conv=>rhs;rw[Zfl];simp(disch:=exact id (by kernel_rfl)) only[Zrz (R:=Kr×(Kf×Unit)) N (CF Zjw N [1,1,0,1,0])]
  kernel_rfl
theorem Zpz(N:Nat):GW 99 (Zjv N):=GF Zjw N Tryz.func99 (GC (Zwj N) (GC (Zoq N) (GC (Zd1 N) Wa))) (λd=>Zz8 N d.1)
def Zmk(N:Nat):Sig:=Sig.of [.box Jp] [.v Ja false] (λd=>Za N d.1)
def Zyt:Fn:=⟨Tryz.f270,WB,Zmk,λN=>[(111,Zac N)]⟩
theorem Zyu(N:Nat):GW 270 (Zmk N):=GF Zyt N Tryz.func270 (GC (Zah N) Wa)
def Zln(N:Nat):Sig:=Sig.of [.box Jp] [.v Ja false] (λd=>Zb2 N d.1)
def Zwk:Fn:=⟨Tryz.f180,WB,Zln,λN=>[(96,Zb4 N),(111,Zac N)]⟩
theorem Zwl(N:Nat):GW 180 (Zln N):=GF Zwk N Tryz.func180 (GC (Zd1 N) (GC (Zah N) Wa))
def Zml(N:Nat):Sig:=Sig.of [.box Jp] [.v Ja false] (λd=>Zi N d.1)
def Zyv:Fn:=⟨Tryz.f271,WB,Zml,λN=>[(96,Zb4 N),(111,Zac N),(227,Zhb N)]⟩
theorem Zyw(N:Nat):GW 271 (Zml N):=GF Zyv N Tryz.func271 (GC (Zd1 N) (GC (Zah N) (GC (Zmj N) Wa)))
def Zkn(N:Nat):Sig:=Sig.of [.box Jp,.v Ja false] [.v Ju true] (λd=>Zh N d.1 d.2.1)
def Z03:Fn:=⟨Tryz.f226,WB,Zkn,λN=>[(270,Zmk N),(159,Zje N),(180,Zln N),(111,Zac N),(271,Zml N)]⟩
theorem Zqd(N:Nat):GW 226 (Zkn N):=GF Z03 N Tryz.func226 (GC (Zyu N) (GC (Zoq N) (GC (Zwl N) (GC (Zah N) (GC (Zyw N) Wa)))))
def Zly(N m:Nat):Sig:=Sig.of [.box Jp,.v Ja false,.v Ja false,.v Jy false] [.v (.own Ju) false] (λd=>Ze2 N m d.1 d.2.1 d.2.2.1 d.2.2.2.1)
def Zr0(N:Nat):Sig:=Zly N N
def Zm2(m:Nat):Fn:=⟨Tryz.f157,λ |3=>[.canon [0,1,2,3,9,10,27]]|4=>[.canon [0,1,2,3,9,10]]|5=>[.canon [0,1,2,3,9,10,11]]|6=>[.canon [0,1,2,3,9,10]]|7=>[.canon [0,1,2,3,9,10,11,40]]|8=>[.canon [0,1,2,3,9,10]]|9=>[.canon [0,1,2,3,9,10,11,48]]|10=>[.canon [0,1,2,3,9,10]]|11=>[.canon [0,1,2,3,9,10,11,56]]|12=>[.canon [0,1,2,3,9,10]]|13=>[.canon [0,1,2,3,9,10,11,67]]|14=>[.canon [0,1,2,3,9,10,12]]|15=>[.canon [0,1,2,3,9,10,12]]|16=>[.canon [0,1,2,3,9,10]]|17=>[.canon [0,1,2,3,9,10,100]]|18=>[.canon [0,1,2,3,9,10]]|19=>[.canon [0,1,2,3,9,10]]|20=>[.canon [0,1,2,3,9,10,11,109]]|21=>[.canon [0,1,2,3,9,10,13]]|22=>[.canon [0,1,2,3,9,10,13,14]]|23=>[.canon [0,1,2,3,9,10,13,14]]|24=>[.canon [0,1,2,3,9,10,13]]|25=>[.canon [0,1,2,3,9,10]]|26=>[.canon [0,1,2,3,9,10,134]]|27=>[.canon [0,1,2,3,9,10]]|28=>[.canon [0,1,2,3,9,10,145]]|29=>[.canon [0,1,2,3,9,10]]|100003=>[.canon [0,1,2,3,9,10]]|_=>[],λN=>Zly N (m+1),λN=>[(111,Zac N),(226,Zkn N),(157,Zly N m),(96,Zb4 N)]⟩
def Zyx(an:Int)(ao:Int)(ax:Bool)(n9:Int)(bd:List Int×Int×Int)(ar:List Ka):St:=⟨[(0,vP 0 0),(1,vI an),(2,vI ao),(3,vB ax),(9,vO 1),(10,vI n9)],[(0,.box [.val Jz bd.1,.val Ja bd.2.1,.val Ja bd.2.2]),(1,.arr Ju ar)],2⟩
def Zwm(an:Int)(ao:Int)(ax:Bool)(tC:Int)(tD:Bool)(qS:List Int×Int×Int)(tE:List Ka):St:=⟨[(0,vP 0 0),(1,vI an),(2,vI ao),(3,vB ax),(9,vO 1),(10,vI tC),(27,vB tD)],[(0,.box [.val Jz qS.1,.val Ja qS.2.1,.val Ja qS.2.2]),(1,.arr Ju tE)],2⟩
theorem Zyy(N m:Nat){R:Type}(K:Ex->St->Option R){an:Int}{ao:Int}{ax:Bool}{K0:Int->Bool->Kg->Kx->Option R}(h0:K0= λtC tD qS tE=>K (.exit 0) (Zwm an ao ax tC tD qS tE))(n:Nat)(n9:Int)(bd:List Int×Int×Int)(ar:List Ka):Zc N (Ze2 N m) an ao ax K0 n n9 bd ar=LM (Zm2 m) N 0 100003 n (Zyx an ao ax n9 bd ar) K:=by
  subst h0
  induction n generalizing n9 bd ar with
  |zero=>kernel_rfl
  |succ n ih=>rw[Zc];simp only[ih];kernel_rfl
theorem Z3u(N m:Nat)(c1:List Int×Int×Int)(bW:Int)(fo:Int)(iP:Bool):DN (Zm2 m) N (c1,bW,fo,iP,())=Ze2 N (m+1) c1 bW fo iP:=by
  conv=>rhs;rw[Ze2];simp(disch:=exact id (by kernel_rfl)) only[Zyy (R:=Kr×(Kx×Unit)) N m (CF (Zm2 m) N [1,1,0,1,0])]
  kernel_rfl
theorem Zq3(N:Nat):∀m,GW 157 (Zly N m)
  |0=>⟨WcL Tryz.func157 (show Wnf Tryz.f157=true by kernel_rfl),λd o h=>nomatch (show none=some o from h)⟩
  |m+1=>GF (Zm2 m) N Tryz.func157 (GC (Zah N) (GC (Zqd N) (GC (Zq3 N m) (GC (Zd1 N) Wa)))) (λd=>Z3u N m d.1 d.2.1 d.2.2.1 d.2.2.2.1)
theorem Z3v(N:Nat):GW 157 (Zr0 N):=Zq3 N N
def Zlz(N:Nat):Sig:=Sig.of [.box Jp,.v Jy false] [.v (.prod (.own Ju) (.own Jh)) true] (λd=>Zec N d.1 d.2.1)
def Zl0:Fn:=⟨Tryz.f95,λ |7=>[.canon [0,4,7,8,38]]|8=>[.canon [0,4,7,8]]|9=>[.canon [0,4,7,8]]|100007=>[.adoptC 7 1 Jh,.canon [0,4,7,8]]|_=>[],Zlz,λN=>[(111,Zac N),(157,Zr0 N)]⟩
def Zwn(iv:Int)(aO:List Int×Int×Int)(aK:List Ka)(aJ:List Kx):St:=⟨[(0,vP 0 0),(4,vP 1 0),(7,vP 2 0),(8,vI iv)],[(0,.box [.val Jz aO.1,.val Ja aO.2.1,.val Ja aO.2.2]),(1,.box [.nils,.nils]),(2,.box [.own 3,.own 4]),(3,.arr Ju aK),(4,.arr Jh aJ)],5⟩
def Zts(aK:List Ka)(tF:Int)(cd:Bool)(bO:List Int×Int×Int)(cQ:List Kx):St:=⟨[(0,vP 0 0),(4,vP 1 0),(7,vP 2 0),(8,vI tF),(38,vB cd)],[(0,.box [.val Jz bO.1,.val Ja bO.2.1,.val Ja bO.2.2]),(1,.box [.nils,.nils]),(2,.box [.own 3,.own 4]),(3,.arr Ju aK),(4,.arr Jh cQ)],5⟩
theorem Zwo(N:Nat){R:Type}(K:Ex->St->Option R){aK:List Ka}{K0:Int->Bool->Kg->(List Kx)->Option R}(h0:K0= λtF cd bO cQ=>K (.exit 0) (Zts aK tF cd bO cQ))(n:Nat)(iv:Int)(aO:List Int×Int×Int)(aJ:List Kx):Zf1 N aK K0 n iv aO aJ=LM Zl0 N 0 100007 n (Zwn iv aO aK aJ) K:=by
  subst h0
  induction n generalizing iv aO aJ with
  |zero=>kernel_rfl
  |succ n ih=>rw[Zf1];simp only[ih];kernel_rfl
theorem Z2p(N:Nat)(c1:List Int×Int×Int)(fE:Bool):DN Zl0 N (c1,fE,())=Zec N c1 fE:=by
  conv=>rhs;rw[Zec];simp(disch:=exact id (by kernel_rfl)) only[Zwo (R:=Kr×(Km×Unit)) N (CF Zl0 N [1,1,1,1,1,0,1,0])]
  kernel_rfl
theorem Zq4(N:Nat):GW 95 (Zlz N):=GF Zl0 N Tryz.func95 (GC (Zah N) (GC (Z3v N) Wa)) (λd=>Z2p N d.1 d.2.1)
def Zn0(N:Nat):Sig:=Sig.of [.box Jp,.v Ja false,.v Ja false] [.v (.own Jb) false] (λd=>Zgq N d.1 d.2.1 d.2.2.1)
def Zko:Fn:=⟨Tryz.f191,λ |4=>[.canon [0,1,2,7,8,9,14]]|5=>[.canon [0,1,2,7,8,9]]|6=>[.canon [0,1,2,7,8,9,18]]|7=>[.canon [0,1,2,7,8,9]]|8=>[.canon [0,1,2,7,8,9,10]]|9=>[.canon [0,1,2,7,8,9,10,25]]|10=>[.canon [0,1,2,7,8,9,10]]|11=>[.canon [0,1,2,7,8,9,10]]|12=>[.canon [0,1,2,7,8,9,10,31]]|13=>[.canon [0,1,2,7,8,9,10]]|14=>[.canon [0,1,2,7,8,9,10,35]]|15=>[.canon [0,1,2,7,8,9,10]]|16=>[.canon [0,1,2,7,8,9]]|100004=>[.canon [0,1,2,7,8,9]]|_=>[],Zn0,λN=>[(96,Zb4 N),(111,Zac N)]⟩
def Ztt(n4:Int)(aP:Int)(bP:Int)(i7:Int)(b8:List Int×Int×Int)(l9:List Kb):St:=⟨[(0,vP 0 0),(1,vI n4),(2,vI aP),(7,vO 1),(8,vI bP),(9,vI i7)],[(0,.box [.val Jz b8.1,.val Ja b8.2.1,.val Ja b8.2.2]),(1,.arr Jb l9)],2⟩
def Zr1(n4:Int)(aP:Int)(ke:Int)(mx:Int)(jb:Bool)(lI:List Int×Int×Int)(eB:List Kb):St:=⟨[(0,vP 0 0),(1,vI n4),(2,vI aP),(7,vO 1),(8,vI ke),(9,vI mx),(14,vB jb)],[(0,.box [.val Jz lI.1,.val Ja lI.2.1,.val Ja lI.2.2]),(1,.arr Jb eB)],2⟩
theorem Ztu(N:Nat){R:Type}(K:Ex->St->Option R){n4:Int}{aP:Int}{K0:Int->Int->Bool->Kg->Kt->Option R}(h0:K0= λke mx jb lI eB=>K (.exit 0) (Zr1 n4 aP ke mx jb lI eB))(n:Nat)(bP:Int)(i7:Int)(b8:List Int×Int×Int)(l9:List Kb):Z1 N n4 aP K0 n bP i7 b8 l9=LM Zko N 0 100004 n (Ztt n4 aP bP i7 b8 l9) K:=by
  subst h0
  induction n generalizing bP i7 b8 l9 with
  |zero=>kernel_rfl
  |succ n ih=>rw[Z1];simp only[ih];kernel_rfl
theorem Z04(N:Nat)(c1:List Int×Int×Int)(n2:Int)(da:Int):DN Zko N (c1,n2,da,())=Zgq N c1 n2 da:=by
  conv=>rhs;rw[Zgq];simp(disch:=exact id (by kernel_rfl)) only[Ztu (R:=Kr×Kaa) N (CF Zko N [1,1,1,0,1,0])]
  kernel_rfl
theorem Z05(N:Nat):GW 191 (Zn0 N):=GF Zko N Tryz.func191 (GC (Zd1 N) (GC (Zah N) Wa)) (λd=>Z04 N d.1 d.2.1 d.2.2.1)
def Zmm(N:Nat):Sig:=Sig.of [.box Jp,.v Ja false,.v Ja false] [.v (.prod Jaf (.prod (.own Jo) (.own Jb))) true] (λd=>Zgr N d.1 d.2.1 d.2.2.1)
def Zjf:Fn:=⟨Tryz.f123,λ |4=>[.canon [0,1,2,6,7,8,9,18]]|5=>[.canon [0,1,2,6,7,8,9]]|6=>[.canon [0,1,2,6,7,8,9]]|100004=>[.adoptC 7 3 Jo,.canon [0,1,2,6,7,8,9]]|_=>[],Zmm,λN=>[(99,Zjv N),(111,Zac N),(95,Zlz N),(96,Zb4 N),(191,Zn0 N)]⟩
def Zrb(dJ:Int)(bw:Int)(n8:Int)(i9:Int)(bd:List Int×Int×Int)(aH:Int)(aJ:List Int)(bn:List Int)(aR:List Km):St:=⟨[(0,vP 0 0),(1,vI dJ),(2,vI bw),(6,vP 1 0),(7,vP 2 0),(8,vI n8),(9,vI i9)],[(0,.box [.val Jz bd.1,.val Ja bd.2.1,.val Ja bd.2.2]),(1,.box [.nils,.nils,.val Ja (0:Int),.nils,.nils]),(2,.box [.own 3,.own 4,.val Ja aH,.own 5,.nils]),(3,.arr Ja aJ),(4,.arr Ja bn),(5,.arr Jo aR)],6⟩
def Zqq(dJ:Int)(bw:Int)(n8:Int)(aH:Int)(aJ:List Int)(bn:List Int)(tG:Int)(t25:Bool)(lJ:List Int×Int×Int)(c9:List Km):St:=⟨[(0,vP 0 0),(1,vI dJ),(2,vI bw),(6,vP 1 0),(7,vP 2 0),(8,vI n8),(9,vI tG),(18,vB t25)],[(0,.box [.val Jz lJ.1,.val Ja lJ.2.1,.val Ja lJ.2.2]),(1,.box [.nils,.nils,.val Ja (0:Int),.nils,.nils]),(2,.box [.own 3,.own 4,.val Ja aH,.own 5,.nils]),(3,.arr Ja aJ),(4,.arr Ja bn),(5,.arr Jo c9)],6⟩
theorem Zrc(N:Nat){R:Type}(K:Ex->St->Option R){dJ:Int}{bw:Int}{n8:Int}{aH:Int}{aJ:List Int}{bn:List Int}{K0:Int->Bool->Kg->(List Km)->Option R}(h0:K0= λtG t25 lJ c9=>K (.exit 0) (Zqq dJ bw n8 aH aJ bn tG t25 lJ c9))(n:Nat)(i9:Int)(bd:List Int×Int×Int)(aR:List Km):Zbn N dJ bw n8 aH aJ bn K0 n i9 bd aR=LM Zjf N 0 100004 n (Zrb dJ bw n8 i9 bd aH aJ bn aR) K:=by
  subst h0
  induction n generalizing i9 bd aR with
  |zero=>kernel_rfl
  |succ n ih=>rw[Zbn];simp only[ih];kernel_rfl
theorem Zyz(N:Nat)(c1:List Int×Int×Int)(lF:Int)(da:Int):DN Zjf N (c1,lF,da,())=Zgr N c1 lF da:=by
  conv=>rhs;rw[Zgr];simp(disch:=exact id (by kernel_rfl)) only[Zrc (R:=Kr×(Kz×Unit)) N (CF Zjf N [1,1,1,0,1,0])]
  kernel_rfl
theorem Zy0(N:Nat):GW 123 (Zmm N):=GF Zjf N Tryz.func123 (GC (Zpz N) (GC (Zah N) (GC (Zq4 N) (GC (Zd1 N) (GC (Z05 N) Wa))))) (λd=>Zyz N d.1 d.2.1 d.2.2.1)
def Zkp(N:Nat):Sig:=Sig.of [.box Jp] [.v Jaf true] (λd=>Zi8 N d.1)
def Ztv:Fn:=⟨Tryz.f100,WB,Zkp,λN=>[(99,Zjv N),(111,Zac N)]⟩
theorem Ztw(N:Nat):GW 100 (Zkp N):=GF Ztv N Tryz.func100 (GC (Zpz N) (GC (Zah N) Wa))
def Zpe(N:Nat):Sig:=Sig.of [.box Jp] [.v Ju true] (λd=>Zol N d.1)
def Z3w:Fn:=⟨Tryz.f182,WB,Zpe,λN=>[(111,Zac N),(226,Zkn N),(227,Zhb N)]⟩
theorem Z3x(N:Nat):GW 182 (Zpe N):=GF Z3w N Tryz.func182 (GC (Zah N) (GC (Zqd N) (GC (Zmj N) Wa)))
def Zor(N:Nat):Sig:=Sig.of [.box Jp,.v Jh false] [.v (.own Ju) false] (λd=>Zhp N d.1 d.2.1)
def Zl1:Fn:=⟨Tryz.f112,λ |12=>[.view 49,.view 45]|14=>[.canon [0,5,58]]|15=>[.canon [0,5]]|100014=>[.canon [0,5]]|_=>[],Zor,λN=>[(111,Zac N),(182,Zpe N)]⟩
def Zwp(b6:List Int×Int×Int)(l7:List Ka):St:=⟨[(0,vP 0 0),(5,vO 1)],[(0,.box [.val Jz b6.1,.val Ja b6.2.1,.val Ja b6.2.2]),(1,.arr Ju l7)],2⟩
def Ztx(t9:Bool)(bd:List Int×Int×Int)(ar:List Ka):St:=⟨[(0,vP 0 0),(5,vO 1),(58,vB t9)],[(0,.box [.val Jz bd.1,.val Ja bd.2.1,.val Ja bd.2.2]),(1,.arr Ju ar)],2⟩
theorem Zwq(N:Nat){R:Type}(K:Ex->St->Option R){K0:Bool->Kg->Kx->Option R}(h0:K0= λt9 bd ar=>K (.exit 1) (Ztx t9 bd ar))(n:Nat)(b6:List Int×Int×Int)(l7:List Ka):Zf2 N K0 n b6 l7=LM Zl1 N 0 100014 n (Zwp b6 l7) K:=by
  subst h0
  induction n generalizing b6 l7 with
  |zero=>kernel_rfl
  |succ n ih=>rw[Zf2];simp only[ih];kernel_rfl
theorem Z2q(N:Nat)(c1:List Int×Int×Int)(aa:List Ka):DN Zl1 N (c1,aa,())=Zhp N c1 aa:=by
  conv=>rhs;rw[Zhp];simp(disch:=exact id (by kernel_rfl)) only[Zwq (R:=Kr×(Kx×Unit)) N (CF Zl1 N [1,1,1,1,0,1,0,1,1,1,1,1,1,1,0,0])]
  kernel_rfl
theorem Z2r(N:Nat):GW 112 (Zor N):=GF Zl1 N Tryz.func112 (GC (Zah N) (GC (Z3x N) Wa)) (λd=>Z2q N d.1 d.2.1)
def Zmn(N:Nat):Sig:=Sig.of [.box Jp] [.v (.prod (.own Ju) (.own Jh)) true] (λd=>Zkk N d.1)
def Zy1:Fn:=⟨Tryz.f97,WB,Zmn,λN=>[(96,Zb4 N),(95,Zlz N),(111,Zac N),(112,Zor N)]⟩
theorem Zy2(N:Nat):GW 97 (Zmn N):=GF Zy1 N Tryz.func97 (GC (Zd1 N) (GC (Zq4 N) (GC (Zah N) (GC (Z2r N) Wa))))
def Zos(N:Nat):Sig:=Sig.of [.box Jp,.v Ja false] [.v (.prod Jaf (.prod (.own Jo) (.own Jb))) true] (λd=>Ziy N d.1 d.2.1)
def Zhh:Fn:=⟨Tryz.f71,λ |8=>[.canon [0,4,5,28]]|9=>[.canon [0,4,5]]|13=>[.canon [0,4,5,55]]|14=>[.canon [0,4,5]]|100008=>[.canon [0,4,5]]|100013=>[.canon [0,4,5]]|_=>[],Zos,λN=>[(123,Zmm N),(111,Zac N),(100,Zkp N),(97,Zmn N)]⟩
def Zwr(b7:List Int×Int×Int)(b9:Int)(bz:List Int)(ar:List Int)(aK:List Km)(aJ:List Kb):St:=⟨[(0,vP 0 0),(4,vP 1 0),(5,vP 2 0)],[(0,.box [.val Jz b7.1,.val Ja b7.2.1,.val Ja b7.2.2]),(1,.box [.nils,.nils,.val Ja (0:Int),.nils,.nils]),(2,.box [.own 3,.own 4,.val Ja b9,.own 5,.own 6]),(3,.arr Ja bz),(4,.arr Ja ar),(5,.arr Jo aK),(6,.arr Jb aJ)],7⟩
def Zty(b7:List Int×Int×Int)(b9:Int)(bz:List Int)(ar:List Int)(aJ:List Kb)(au:Bool)(aR:List Km):St:=⟨[(0,vP 0 0),(4,vP 1 0),(5,vP 2 0),(28,vB au)],[(0,.box [.val Jz b7.1,.val Ja b7.2.1,.val Ja b7.2.2]),(1,.box [.nils,.nils,.val Ja (0:Int),.nils,.nils]),(2,.box [.own 3,.own 4,.val Ja b9,.own 5,.own 6]),(3,.arr Ja bz),(4,.arr Ja ar),(5,.arr Jo aR),(6,.arr Jb aJ)],7⟩
theorem Zws(N:Nat){R:Type}(K:Ex->St->Option R){b7:List Int×Int×Int}{b9:Int}{bz:List Int}{ar:List Int}{aJ:List Kb}{K0:Bool->(List Km)->Option R}(h0:K0= λau aR=>K (.exit 1) (Zty b7 b9 bz ar aJ au aR))(n:Nat)(aK:List Km):Zf3 N b7 b9 bz ar aJ K0 n aK=LM Zhh N 0 100008 n (Zwr b7 b9 bz ar aK aJ) K:=by
  subst h0
  induction n generalizing aK with
  |zero=>kernel_rfl
  |succ n ih=>rw[Zf3];simp only[ih];kernel_rfl
def Zwt(bO:List Int×Int×Int)(dH:Int)(bA:List Int)(bV:List Int)(cR:List Km)(dh:List Kb):St:=⟨[(0,vP 0 0),(4,vP 1 0),(5,vP 2 0)],[(0,.box [.val Jz bO.1,.val Ja bO.2.1,.val Ja bO.2.2]),(1,.box [.nils,.nils,.val Ja (0:Int),.nils,.nils]),(2,.box [.own 3,.own 4,.val Ja dH,.own 5,.own 6]),(3,.arr Ja bA),(4,.arr Ja bV),(5,.arr Jo cR),(6,.arr Jb dh)],7⟩
def Ztz(dH:Int)(bA:List Int)(bV:List Int)(cR:List Km)(kI:Bool)(lK:List Int×Int×Int)(qH:List Kb):St:=⟨[(0,vP 0 0),(4,vP 1 0),(5,vP 2 0),(55,vB kI)],[(0,.box [.val Jz lK.1,.val Ja lK.2.1,.val Ja lK.2.2]),(1,.box [.nils,.nils,.val Ja (0:Int),.nils,.nils]),(2,.box [.own 3,.own 4,.val Ja dH,.own 5,.own 6]),(3,.arr Ja bA),(4,.arr Ja bV),(5,.arr Jo cR),(6,.arr Jb qH)],7⟩
theorem Zwu(N:Nat){R:Type}(K:Ex->St->Option R){dH:Int}{bA:List Int}{bV:List Int}{cR:List Km}{K0:Bool->Kg->Kt->Option R}(h0:K0= λkI lK qH=>K (.exit 3) (Ztz dH bA bV cR kI lK qH))(n:Nat)(bO:List Int×Int×Int)(dh:List Kb):Zf4 N dH bA bV cR K0 n bO dh=LM Zhh N 1 100013 n (Zwt bO dH bA bV cR dh) K:=by
  subst h0
  induction n generalizing bO dh with
  |zero=>kernel_rfl
  |succ n ih=>rw[Zf4];simp only[ih];kernel_rfl
theorem Z2s(N:Nat)(c1:List Int×Int×Int)(bW:Int):DN Zhh N (c1,bW,())=Ziy N c1 bW:=by
  conv=>rhs;rw[Ziy];simp(disch:=exact id (by kernel_rfl)) only[Zws (R:=Kr×(Kz×Unit)) N (CF Zhh N [1,1,0,1,0,1,1,1,1,1,0,0]),Zwu (R:=Kr×(Kz×Unit)) N (CF Zhh N [1,1,0,1,0,1,1,1,1,1,1,1,1,1,0,0])]
  kernel_rfl
theorem Z2t(N:Nat):GW 71 (Zos N):=GF Zhh N Tryz.func71 (GC (Zy0 N) (GC (Zah N) (GC (Ztw N) (GC (Zy2 N) Wa)))) (λd=>Z2s N d.1 d.2.1)
def Zng(N:Nat):Sig:=Sig.of [.v Jz false] [.v Jag true] (λd=>Zlv N d.1)
def Zz9:Fn:=⟨Tryz.f22,WB,Zng,λN=>[(46,Zpd N),(72,Zoo N),(71,Zos N)]⟩
theorem Z0a(N:Nat):GW 22 (Zng N):=GF Zz9 N Tryz.func22 (GC (Z3t N) (GC (Z2k N) (GC (Z2t N) Wa)))
def Z0(N:Nat):Sig:=Sig.of [.v Ja false,.v Ja false,.v Ja false] [.v Jy false] (λd=>Zl N d.1 d.2.1 d.2.2.1)
def Z2u:Fn:=⟨Tryz.f51,WB,Z0,Wbg⟩
theorem Z5(N:Nat):GW 51 (Z0 N):=GF Z2u N Tryz.func51 Wa
def Za8(N:Nat):Sig:=Sig.of [.v Ja false] [.v Jy false] (λd=>Za0 N d.1)
def Z06:Fn:=⟨Tryz.f122,WB,Za8,λN=>[(51,Z0 N)]⟩
theorem Zbw(N:Nat):GW 122 (Za8 N):=GF Z06 N Tryz.func122 (GC (Z5 N) Wa)
def Zbe(N:Nat):Sig:=Sig.of [.v Je false,.v Ja false] [.v Jy false] (λd=>Zab N d.1 d.2.1)
def Zjg:Fn:=⟨Tryz.f67,λ |2=>[.canon [0,1,7,8,9,10]]|3=>[.canon [0,1,6,7,8,9]]|4=>[.canon [0,1,7,8,9,15]]|5=>[.canon [4]]|6=>[.canon [0,1,7,8,9]]|100002=>[.canon [0,1,7,8,9]]|_=>[],Zbe,λN=>[(122,Za8 N)]⟩
def Zrd(l3:List Int)(n4:Int)(t7:Int):St:=⟨[(0,vV Je l3),(1,vI n4),(7,vV Je l3),(8,vI (Wb l3)),(9,vI t7)],[],0⟩
def Zqr(l3:List Int)(n4:Int):St:=⟨[(4,vB false)],[],0⟩
def Zqs(l3:List Int)(n4:Int)(aw:Int)(ay:Bool):St:=⟨[(0,vV Je l3),(1,vI n4),(7,vV Je l3),(8,vI (Wb l3)),(9,vI aw),(10,vB ay)],[],0⟩
theorem Zre(N:Nat){R:Type}(K:Ex->St->Option R){l3:List Int}{n4:Int}{K0:Option R}{K1:Int->Bool->Option R}(h0:K0=K .ret (Zqr l3 n4))(h1:K1= λaw ay=>K (.exit 0) (Zqs l3 n4 aw ay))(n:Nat)(t7:Int):Za3 N l3 n4 K0 K1 n t7=LM Zjg N 0 100002 n (Zrd l3 n4 t7) K:=by
  subst h0 h1
  induction n generalizing t7 with
  |zero=>kernel_rfl
  |succ n ih=>rw[Za3];simp only[ih];kernel_rfl
theorem Zy3(N:Nat)(l1:List Int)(n2:Int):DN Zjg N (l1,n2,())=Zab N l1 n2:=by
  conv=>rhs;rw[Zab];simp(disch:=exact id (by kernel_rfl)) only[Zre (R:=Unit×Ko) N (CF Zjg N [1,0,1,0])]
  kernel_rfl
theorem Zcb(N:Nat):GW 67 (Zbe N):=GF Zjg N Tryz.func67 (GC (Zbw N) Wa) (λd=>Zy3 N d.1 d.2.1)
def Zm3(N:Nat):Sig:=Sig.of [.v Je false] [.v Jy false] (λd=>Zif N d.1)
def Zm4:Fn:=⟨Tryz.f126,λ |2=>[.canon [0,5,6,7,8]]|3=>[.canon [0,4,5,6,7]]|4=>[.canon [0,5,6,7,13]]|5=>[.canon [2]]|6=>[.canon [0,5,6,7]]|100002=>[.canon [0,5,6,7]]|_=>[],Zm3,λN=>[(51,Z0 N)]⟩
def Zy4(l2:List Int)(t5:Int):St:=⟨[(0,vV Je l2),(5,vV Je l2),(6,vI (Wb l2)),(7,vI t5)],[],0⟩
def Zwv(l2:List Int):St:=⟨[(2,vB false)],[],0⟩
def Zww(l2:List Int)(t8:Int)(t9:Bool):St:=⟨[(0,vV Je l2),(5,vV Je l2),(6,vI (Wb l2)),(7,vI t8),(8,vB t9)],[],0⟩
theorem Zy5(N:Nat){R:Type}(K:Ex->St->Option R){l2:List Int}{K0:Option R}{K1:Int->Bool->Option R}(h0:K0=K .ret (Zwv l2))(h1:K1= λt8 t9=>K (.exit 0) (Zww l2 t8 t9))(n:Nat)(t5:Int):Zes N l2 K0 K1 n t5=LM Zm4 N 0 100002 n (Zy4 l2 t5) K:=by
  subst h0 h1
  induction n generalizing t5 with
  |zero=>kernel_rfl
  |succ n ih=>rw[Zes];simp only[ih];kernel_rfl
theorem Z3y(N:Nat)(l1:List Int):DN Zm4 N (l1,())=Zif N l1:=by
  conv=>rhs;rw[Zif];simp(disch:=exact id (by kernel_rfl)) only[Zy5 (R:=Unit×Ko) N (CF Zm4 N [1,0,1,0])]
  kernel_rfl
theorem Zr2(N:Nat):GW 126 (Zm3 N):=GF Zm4 N Tryz.func126 (GC (Z5 N) Wa) (λd=>Z3y N d.1)
def Zjx(N:Nat):Sig:=Sig.of [.v Jx true] [.v Jy false] (λd=>Zi9 N d.1)
def Z0b:Fn:=⟨Tryz.f78,WB,Zjx,λN=>[(67,Zbe N),(126,Zm3 N),(122,Za8 N)]⟩
theorem Zp0(N:Nat):GW 78 (Zjx N):=GF Z0b N Tryz.func78 (GC (Zcb N) (GC (Zr2 N) (GC (Zbw N) Wa)))
def Zpf(N:Nat):Sig:=Sig.of [.v Ja false] [.v Jy false] (λd=>Zt N d.1)
def Z3z:Fn:=⟨Tryz.f272,WB,Zpf,λN=>[(51,Z0 N)]⟩
theorem Z30(N:Nat):GW 272 (Zpf N):=GF Z3z N Tryz.func272 (GC (Z5 N) Wa)
def Zbs(N:Nat):Sig:=Sig.of [.v Ja false] [.v Jy false] (λd=>Zau N d.1)
def Z2v:Fn:=⟨Tryz.f61,WB,Zbs,λN=>[(51,Z0 N)]⟩
theorem Zcq(N:Nat):GW 61 (Zbs N):=GF Z2v N Tryz.func61 (GC (Z5 N) Wa)
def Ze7(N:Nat):Sig:=Sig.of [.v Ja false] [.v Jy false] (λd=>Za5 N d.1)
def Z31:Fn:=⟨Tryz.f176,WB,Ze7,λN=>[(51,Z0 N)]⟩
theorem Zh9(N:Nat):GW 176 (Ze7 N):=GF Z31 N Tryz.func176 (GC (Z5 N) Wa)
def Zi4(N:Nat):Sig:=Sig.of [.v Ju true] [.v Jy false] (λd=>Zo N d.1)
def Z4j:Fn:=⟨Tryz.f230,WB,Zi4,λN=>[(272,Zpf N),(122,Za8 N),(61,Zbs N),(51,Z0 N),(176,Ze7 N)]⟩
theorem Znt(N:Nat):GW 230 (Zi4 N):=GF Z4j N Tryz.func230 (GC (Z30 N) (GC (Zbw N) (GC (Zcq N) (GC (Z5 N) (GC (Zh9 N) Wa)))))
def Zkq(N:Nat):Sig:=Sig.of [.v Ju true] [.v Ja false] (λd=>Zhy N d.1)
def Z07:Fn:=⟨Tryz.f183,WB,Zkq,λN=>[(230,Zi4 N)]⟩
theorem Zqe(N:Nat):GW 183 (Zkq N):=GF Z07 N Tryz.func183 (GC (Znt N) Wa)
def Zkc(N:Nat):Sig:=Sig.of [.v Ju true] [.v Ja false] (λd=>Zj6 N d.1)
def Z32:Fn:=⟨Tryz.f235,WB,Zkc,Wbg⟩
theorem Zpg(N:Nat):GW 235 (Zkc N):=GF Z32 N Tryz.func235 Wa
def Zlo(N:Nat):Sig:=Sig.of [.v Jh false] [.v Jy false] (λd=>Zdm N d.1)
def Zir:Fn:=⟨Tryz.f229,λ |3=>[.canon [3,6,7,8,9]]|4=>[.canon [3,5,6,7,8]]|5=>[.canon [3,6,7,8]]|6=>[.canon [3,6,7,8,17]]|7=>[.canon [2]]|8=>[.canon [3,6,7,8]]|100003=>[.canon [3,6,7,8]]|_=>[],Zlo,λN=>[(235,Zkc N)]⟩
def Zqt(n2:Int)(t3:List Ka)(t5:Int):St:=⟨[(3,vI n2),(6,vV Jh t3),(7,vI (Wb t3)),(8,vI t5)],[],0⟩
def Zqf(t3:List Ka):St:=⟨[(2,vB false)],[],0⟩
def Zqg(t3:List Ka)(n8:Int)(t9:Int)(aw:Bool):St:=⟨[(3,vI n8),(6,vV Jh t3),(7,vI (Wb t3)),(8,vI t9),(9,vB aw)],[],0⟩
theorem Zqu(N:Nat){R:Type}(K:Ex->St->Option R){t3:List Ka}{K0:Option R}{K1:Int->Int->Bool->Option R}(h0:K0=K .ret (Zqf t3))(h1:K1= λn8 t9 aw=>K (.exit 0) (Zqg t3 n8 t9 aw))(n:Nat)(n2:Int)(t5:Int):Zb3 N t3 K0 K1 n n2 t5=LM Zir N 0 100003 n (Zqt n2 t3 t5) K:=by
  subst h0 h1
  induction n generalizing n2 t5 with
  |zero=>kernel_rfl
  |succ n ih=>rw[Zb3];simp only[ih];kernel_rfl
theorem Zwx(N:Nat)(ad:List Ka):DN Zir N (ad,())=Zdm N ad:=by
  conv=>rhs;rw[Zdm];simp(disch:=exact id (by kernel_rfl)) only[Zqu (R:=Unit×Ko) N (CF Zir N [1,1,0,1,0])]
  kernel_rfl
theorem Zwy(N:Nat):GW 229 (Zlo N):=GF Zir N Tryz.func229 (GC (Zpg N) Wa) (λd=>Zwx N d.1)
def Zn1(N:Nat):Sig:=Sig.of [.v Jh false,.v Ja false] [.v Ja false] (λd=>Zhz N d.1 d.2.1)
def Zkr:Fn:=⟨Tryz.f231,λ |3=>[.canon [1,5,8,9,10,11]]|4=>[.canon [1,5,6,7,8,9,10]]|5=>[.canon [1,5,7,8,9,10,17]]|6=>[.canon [1,5,8,9,10]]|7=>[.canon [1,5,8,9,10]]|100003=>[.canon [1,5,8,9,10]]|_=>[],Zn1,λN=>[(235,Zkc N)]⟩
def Zt0(i3:Int)(n4:Int)(t5:List Ka)(t7:Int):St:=⟨[(1,vI i3),(5,vI n4),(8,vV Jh t5),(9,vI (Wb t5)),(10,vI t7)],[],0⟩
def Zr3(i3:Int)(t5:List Ka)(iv:Int)(ay:Int)(ai:Bool):St:=⟨[(1,vI i3),(5,vI iv),(8,vV Jh t5),(9,vI (Wb t5)),(10,vI ay),(11,vB ai)],[],0⟩
theorem Zt1(N:Nat){R:Type}(K:Ex->St->Option R){i3:Int}{t5:List Ka}{K0:Int->Int->Bool->Option R}(h0:K0= λiv ay ai=>K (.exit 0) (Zr3 i3 t5 iv ay ai))(n:Nat)(n4:Int)(t7:Int):Zb6 N i3 t5 K0 n n4 t7=LM Zkr N 0 100003 n (Zt0 i3 n4 t5 t7) K:=by
  subst h0
  induction n generalizing n4 t7 with
  |zero=>kernel_rfl
  |succ n ih=>rw[Zb6];simp only[ih];kernel_rfl
theorem Z08(N:Nat)(ad:List Ka)(i2:Int):DN Zkr N (ad,i2,())=Zhz N ad i2:=by
  conv=>rhs;rw[Zhz];simp(disch:=exact id (by kernel_rfl)) only[Zt1 (R:=Unit×Ki) N (CF Zkr N [1,1,0,1,0])]
  kernel_rfl
theorem Z09(N:Nat):GW 231 (Zn1 N):=GF Zkr N Tryz.func231 (GC (Zpg N) Wa) (λd=>Z08 N d.1 d.2.1)
def Zl2(N:Nat):Sig:=Sig.of [.v Jh false] [.v Jy false] (λd=>Zc9 N d.1)
def Zl3:Fn:=⟨Tryz.f162,λ |5=>[.canon [0,3,14,15,16,17]]|6=>[.canon [0,3,4,5,14,15,16]]|7=>[.canon [0,3,4,5,14,15,16,23]]|8=>[.canon [2]]|9=>[.canon [0,3,4,5,14,15,16,25]]|10=>[.canon [0,3,4,5,14,15,16,25,26]]|11=>[.canon [0,3,14,15,16,48]]|12=>[.canon [2]]|13=>[.canon [0,3,4,14,15,16,49]]|14=>[.canon [0,3,4,14,15,16]]|15=>[.canon [0,3,14,15,16,60]]|16=>[.canon [2]]|17=>[.canon [0,3,14,15,16]]|100005=>[.canon [0,3,14,15,16]]|_=>[],Zl2,λN=>[(229,Zlo N),(230,Zi4 N),(231,Zn1 N)]⟩
def Zwz(af:List Ka)(aF:Int)(t7:Int):St:=⟨[(0,vV Jh af),(3,vI aF),(14,vV Jh af),(15,vI (Wb af)),(16,vI t7)],[],0⟩
def Zt2(af:List Ka):St:=⟨[(2,vB false)],[],0⟩
def Zt3(af:List Ka)(fG:Int)(aY:Int)(cL:Bool):St:=⟨[(0,vV Jh af),(3,vI fG),(14,vV Jh af),(15,vI (Wb af)),(16,vI aY),(17,vB cL)],[],0⟩
theorem Zw0(N:Nat){R:Type}(K:Ex->St->Option R){af:List Ka}{K0:Option R}{K1:Int->Int->Bool->Option R}(h0:K0=K .ret (Zt2 af))(h1:K1= λfG aY cL=>K (.exit 0) (Zt3 af fG aY cL))(n:Nat)(aF:Int)(t7:Int):Zb1 N af K0 K1 n aF t7=LM Zl3 N 0 100005 n (Zwz af aF t7) K:=by
  subst h0 h1
  induction n generalizing aF t7 with
  |zero=>kernel_rfl
  |succ n ih=>rw[Zb1];simp only[ih];kernel_rfl
theorem Z2w(N:Nat)(ad:List Ka):DN Zl3 N (ad,())=Zc9 N ad:=by
  conv=>rhs;rw[Zc9];simp(disch:=exact id (by kernel_rfl)) only[Zw0 (R:=Unit×Ko) N (CF Zl3 N [1,1,1,0,1,0])]
  kernel_rfl
theorem Zq5(N:Nat):GW 162 (Zl2 N):=GF Zl3 N Tryz.func162 (GC (Zwy N) (GC (Znt N) (GC (Z09 N) Wa))) (λd=>Z2w N d.1)
def Zph(N:Nat):Sig:=Sig.of [.v Jh false] [.v Jy false] (λd=>Zid N d.1)
def Zm5:Fn:=⟨Tryz.f113,λ |2=>[.canon [0,5,6,7,8]]|3=>[.canon [0,4,5,6,7]]|4=>[.canon [0,5,6,7,18]]|5=>[.canon [2]]|6=>[.canon [0,5,6,7]]|100002=>[.canon [0,5,6,7]]|_=>[],Zph,λN=>[(183,Zkq N),(162,Zl2 N)]⟩
def Zy6(aa:List Ka)(t5:Int):St:=⟨[(0,vV Jh aa),(5,vV Jh aa),(6,vI (Wb aa)),(7,vI t5)],[],0⟩
def Zw1(aa:List Ka):St:=⟨[(2,vB false)],[],0⟩
def Zw2(aa:List Ka)(t8:Int)(t9:Bool):St:=⟨[(0,vV Jh aa),(5,vV Jh aa),(6,vI (Wb aa)),(7,vI t8),(8,vB t9)],[],0⟩
theorem Zy7(N:Nat){R:Type}(K:Ex->St->Option R){aa:List Ka}{K0:Option R}{K1:Int->Bool->Option R}(h0:K0=K .ret (Zw1 aa))(h1:K1= λt8 t9=>K (.exit 0) (Zw2 aa t8 t9))(n:Nat)(t5:Int):Zeo N aa K0 K1 n t5=LM Zm5 N 0 100002 n (Zy6 aa t5) K:=by
  subst h0 h1
  induction n generalizing t5 with
  |zero=>kernel_rfl
  |succ n ih=>rw[Zeo];simp only[ih];kernel_rfl
theorem Z33(N:Nat)(ad:List Ka):DN Zm5 N (ad,())=Zid N ad:=by
  conv=>rhs;rw[Zid];simp(disch:=exact id (by kernel_rfl)) only[Zy7 (R:=Unit×Ko) N (CF Zm5 N [1,0,1,0])]
  kernel_rfl
theorem Z34(N:Nat):GW 113 (Zph N):=GF Zm5 N Tryz.func113 (GC (Zqe N) (GC (Zq5 N) Wa)) (λd=>Z33 N d.1)
def Zmo(N:Nat):Sig:=Sig.of [.v Ju true] [.v Jy false] (λd=>Zny N d.1)
def Zy8:Fn:=⟨Tryz.f233,WB,Zmo,Wbg⟩
theorem Zy9(N:Nat):GW 233 (Zmo N):=GF Zy8 N Tryz.func233 Wa
def Za4(N:Nat):Sig:=Sig.of [.v Jh false,.clos 233 0] [.v Ja false] (λd=>Z4 N d.1)
def Zag:Fn:=⟨Tryz.f273,λ |2=>[.canon [0,1,7,8,9]]|3=>[.canon [0,1,5,7,8]]|4=>[.canon [0,1,5,7,8,16]]|5=>[.canon [1,4]]|6=>[.canon [0,1,7,8]]|100002=>[.canon [0,1,7,8]]|_=>[],Za4,λN=>[(233,Zmo N)]⟩
def Zgb(s2:List Ka)(t4:Int):St:=⟨[(0,vV Jh s2),(1,.s (.one (.clos 233 []))),(7,vI (Wb s2)),(8,vI t4)],[],0⟩
def Zfp(s2:List Ka)(t7:Int):St:=⟨[(1,.s (.one (.clos 233 []))),(4,vI t7)],[],0⟩
def Zfq(s2:List Ka)(t8:Int)(t9:Bool):St:=⟨[(0,vV Jh s2),(1,.s (.one (.clos 233 []))),(7,vI (Wb s2)),(8,vI t8),(9,vB t9)],[],0⟩
theorem Zgc(N:Nat){R:Type}(K:Ex->St->Option R){s2:List Ka}{K0:Int->Option R}{K1:Int->Bool->Option R}(h0:K0= λt7=>K .ret (Zfp s2 t7))(h1:K1= λt8 t9=>K (.exit 0) (Zfq s2 t8 t9))(n:Nat)(t4:Int):Zm N s2 K0 K1 n t4=LM Zag N 0 100002 n (Zgb s2 t4) K:=by
  subst h0 h1
  induction n generalizing t4 with
  |zero=>kernel_rfl
  |succ n ih=>rw[Zm];simp only[ih];kernel_rfl
theorem Zg3(N:Nat)(s1:List Ka):DN Zag N (s1,())=Z4 N s1:=by
  conv=>rhs;rw[Z4];simp(disch:=exact id (by kernel_rfl)) only[Zgc (R:=Unit×Ki) N (CF Zag N [1,0,1,0])]
  kernel_rfl
theorem Zg4(N:Nat):GW 273 (Za4 N):=GF Zag N Tryz.func273 (GC (Zy9 N) Wa) (λd=>Zg3 N d.1)
def Zax(N:Nat):Sig:=Sig.of [.v Jh false,.clos 233 0] [.v Jy false] (λd=>Za1 N d.1)
def Zgg:Fn:=⟨Tryz.f232,WB,Zax,λN=>[(273,Za4 N)]⟩
theorem Zgh(N:Nat):GW 232 (Zax N):=GF Zgg N Tryz.func232 (GC (Zg4 N) Wa)
def Zn2(N:Nat):Sig:=Sig.of [.v Jh false] [.v Jy false] (λd=>Zh0 N d.1)
def Z1a:Fn:=⟨Tryz.f163,WB,Zn2,λN=>[(232,Zax N)]⟩
theorem Z1b(N:Nat):GW 163 (Zn2 N):=GF Z1a N Tryz.func163 (GC (Zgh N) Wa)
def Zot(N:Nat):Sig:=Sig.of [.v Jo true] [.v Jy false] (λd=>Ziz N d.1)
def Zl4:Fn:=⟨Tryz.f104,λ |2=>[.canon [1,6,7,8,9]]|3=>[.canon [1,4,6,7,8]]|4=>[.canon [1,6,7,8,15]]|5=>[.canon [2]]|6=>[.canon [1,6,7,8]]|100002=>[.canon [1,6,7,8]]|_=>[],Zot,λN=>[(113,Zph N),(162,Zl2 N),(163,Zn2 N)]⟩
def Zw3(t2:List Kx)(t4:Int)(b5:List Ka×List Kx):St:=⟨[(1,vP 0 0),(6,vV (.slice Jh) t2),(7,vI (Wb b5.2)),(8,vI t4)],[(0,.box [.val Jh b5.1,.val (.slice Jh) b5.2])],1⟩
def Zt4(t2:List Kx)(b5:List Ka×List Kx):St:=⟨[(2,vB false)],[],0⟩
def Zt5(t2:List Kx)(b5:List Ka×List Kx)(t8:Int)(t9:Bool):St:=⟨[(1,vP 0 0),(6,vV (.slice Jh) t2),(7,vI (Wb b5.2)),(8,vI t8),(9,vB t9)],[(0,.box [.val Jh b5.1,.val (.slice Jh) b5.2])],1⟩
theorem Zw4(N:Nat){R:Type}(K:Ex->St->Option R){t2:List Kx}{b5:List Ka×List Kx}{K0:Option R}{K1:Int->Bool->Option R}(h0:K0=K .ret (Zt4 t2 b5))(h1:K1= λt8 t9=>K (.exit 0) (Zt5 t2 b5 t8 t9))(n:Nat)(t4:Int):Zdp N t2 b5 K0 K1 n t4=LM Zl4 N 0 100002 n (Zw3 t2 t4 b5) K:=by
  subst h0 h1
  induction n generalizing t4 with
  |zero=>kernel_rfl
  |succ n ih=>rw[Zdp];simp only[ih];kernel_rfl
theorem Z2x(N:Nat)(p1:List Ka×List Kx):DN Zl4 N (p1,())=Ziz N p1:=by
  conv=>rhs;rw[Ziz];simp(disch:=exact id (by kernel_rfl)) only[Zw4 (R:=Unit×Ko) N (CF Zl4 N [1,0,1,0])]
  kernel_rfl
theorem Z2y(N:Nat):GW 104 (Zot N):=GF Zl4 N Tryz.func104 (GC (Z34 N) (GC (Zq5 N) (GC (Z1b N) Wa))) (λd=>Z2x N d.1)
def Zlp(N:Nat):Sig:=Sig.of [.v Jo true] [.v Jy false] (λd=>Zjs N d.1)
def Zw5:Fn:=⟨Tryz.f125,WB,Zlp,λN=>[(104,Zot N)]⟩
theorem Zw6(N:Nat):GW 125 (Zlp N):=GF Zw5 N Tryz.func125 (GC (Z2y N) Wa)
def Zar(N:Nat):Sig:=Sig.of [.v Jab false,.clos 125 0] [.v Ja false] (λd=>Zx N d.1)
def Zad:Fn:=⟨Tryz.f192,λ |2=>[.canon [0,1,7,8,9]]|3=>[.canon [0,1,5,7,8]]|4=>[.canon [0,1,5,7,8,16]]|5=>[.canon [1,4]]|6=>[.canon [0,1,7,8]]|100002=>[.canon [0,1,7,8]]|_=>[],Zar,λN=>[(125,Zlp N)]⟩
def Zev(s2:List Km)(t4:Int):St:=⟨[(0,vV Jab s2),(1,.s (.one (.clos 125 []))),(7,vI (Wb s2)),(8,vI t4)],[],0⟩
def Zed(s2:List Km)(t7:Int):St:=⟨[(1,.s (.one (.clos 125 []))),(4,vI t7)],[],0⟩
def Zee(s2:List Km)(t8:Int)(t9:Bool):St:=⟨[(0,vV Jab s2),(1,.s (.one (.clos 125 []))),(7,vI (Wb s2)),(8,vI t8),(9,vB t9)],[],0⟩
theorem Zew(N:Nat){R:Type}(K:Ex->St->Option R){s2:List Km}{K0:Int->Option R}{K1:Int->Bool->Option R}(h0:K0= λt7=>K .ret (Zed s2 t7))(h1:K1= λt8 t9=>K (.exit 0) (Zee s2 t8 t9))(n:Nat)(t4:Int):Ze N s2 K0 K1 n t4=LM Zad N 0 100002 n (Zev s2 t4) K:=by
  subst h0 h1
  induction n generalizing t4 with
  |zero=>kernel_rfl
  |succ n ih=>rw[Ze];simp only[ih];kernel_rfl
theorem Zfr(N:Nat)(s1:List Km):DN Zad N (s1,())=Zx N s1:=by
  conv=>rhs;rw[Zx];simp(disch:=exact id (by kernel_rfl)) only[Zew (R:=Unit×Ki) N (CF Zad N [1,0,1,0])]
  kernel_rfl
theorem Zfs(N:Nat):GW 192 (Zar N):=GF Zad N Tryz.func192 (GC (Zw6 N) Wa) (λd=>Zfr N d.1)
def Zam(N:Nat):Sig:=Sig.of [.v Jab false,.clos 125 0] [.v Jy false] (λd=>Zap N d.1)
def Ze8:Fn:=⟨Tryz.f124,WB,Zam,λN=>[(192,Zar N)]⟩
theorem Ze9(N:Nat):GW 124 (Zam N):=GF Ze8 N Tryz.func124 (GC (Zfs N) Wa)
def Znh(N:Nat):Sig:=Sig.of [.v Jag true] [.v Jy false] (λd=>Zlw N d.1)
def Z0c:Fn:=⟨Tryz.f73,WB,Znh,λN=>[(78,Zjx N),(124,Zam N)]⟩
theorem Z0d(N:Nat):GW 73 (Znh N):=GF Z0c N Tryz.func73 (GC (Zp0 N) (GC (Ze9 N) Wa))
def Zn3(N:Nat):Sig:=Sig.of [] [.v Jf false] (λd=>Zpc N)
def Z1c:Fn:=⟨Tryz.f127,WB,Zn3,Wbg⟩
theorem Z1d(N:Nat):GW 127 (Zn3 N):=GF Z1c N Tryz.func127 Wa
def Z2(N:Nat):Sig:=Sig.of [.v Je false] [.v Jf false] (λd=>Zr N d.1)
def Z0e:Fn:=⟨Tryz.f68,WB,Z2,Wbg⟩
theorem Z8(N:Nat):GW 68 (Z2 N):=GF Z0e N Tryz.func68 Wa
def Zl5(N:Nat):Sig:=Sig.of [.v Ja false,.v Ja false] [.v Ja false] (λd=>Zi0 N d.1 d.2.1)
def Z2z:Fn:=⟨Tryz.f173,WB,Zl5,Wbg⟩
theorem Zq6(N:Nat):GW 173 (Zl5 N):=GF Z2z N Tryz.func173 Wa
def Zm6(N:Nat):Sig:=Sig.of [.v Ja false] [.v Ja false] (λd=>Zig N d.1)
def Z35:Fn:=⟨Tryz.f175,WB,Zm6,Wbg⟩
theorem Zr4(N:Nat):GW 175 (Zm6 N):=GF Z35 N Tryz.func175 Wa
def Zjy(N:Nat):Sig:=Sig.of [.v Ja false] [.v Ja false] (λd=>Zja N d.1)
def Z0f:Fn:=⟨Tryz.f174,WB,Zjy,λN=>[(176,Ze7 N)]⟩
theorem Zp1(N:Nat):GW 174 (Zjy N):=GF Z0f N Tryz.func174 (GC (Zh9 N) Wa)
def Zgv(N:Nat):Sig:=Sig.of [.v Je false] [.v Jy false] (λd=>Zdc N d.1)
def Zks:Fn:=⟨Tryz.f108,λ |5=>[.canon [3,9,10,11,12]]|6=>[.canon [3,4,5,9,10,11]]|7=>[.canon [3,4,5,9,10,11,17]]|8=>[.canon [3,5,9,10,11,35]]|9=>[.canon [2]]|10=>[.canon [3,9,10,11]]|11=>[.canon [3,9,10,11]]|100005=>[.canon [3,9,10,11]]|_=>[],Zgv,λN=>[(173,Zl5 N),(51,Z0 N),(175,Zm6 N),(174,Zjy N)]⟩
def Zt6(t2:List Int)(t4:Int)(l5:List Bool):St:=⟨[(3,.s (.one (.aptr 0))),(9,vV Je t2),(10,vI (Wb t2)),(11,vI t4)],[(0,.arr Jy l5)],1⟩
def Zr5(t2:List Int):St:=⟨[(2,vB false)],[],0⟩
def Zr6(t2:List Int)(eV:Int)(eG:Bool)(dT:List Bool):St:=⟨[(3,.s (.one (.aptr 0))),(9,vV Je t2),(10,vI (Wb t2)),(11,vI eV),(12,vB eG)],[(0,.arr Jy dT)],1⟩
theorem Zt7(N:Nat){R:Type}(K:Ex->St->Option R){t2:List Int}{K0:Option R}{K1:Int->Bool->(List Bool)->Option R}(h0:K0=K .ret (Zr5 t2))(h1:K1= λeV eG dT=>K (.exit 0) (Zr6 t2 eV eG dT))(n:Nat)(t4:Int)(l5:List Bool):Zb7 N t2 K0 K1 n t4 l5=LM Zks N 0 100005 n (Zt6 t2 t4 l5) K:=by
  subst h0 h1
  induction n generalizing t4 l5 with
  |zero=>kernel_rfl
  |succ n ih=>rw[Zb7];simp only[ih];kernel_rfl
theorem Z1e(N:Nat)(l1:List Int):DN Zks N (l1,())=Zdc N l1:=by
  conv=>rhs;rw[Zdc];simp(disch:=exact id (by kernel_rfl)) only[Zt7 (R:=Unit×Ko) N (CF Zks N [1,1,1,0,1,0])]
  kernel_rfl
theorem Zkt(N:Nat):GW 108 (Zgv N):=GF Zks N Tryz.func108 (GC (Zq6 N) (GC (Z5 N) (GC (Zr4 N) (GC (Zp1 N) Wa)))) (λd=>Z1e N d.1)
def Zlk(N:Nat):Sig:=Sig.of [.v Je false,.v Ja false] [.v Ja false] (λd=>Zg2 N d.1 d.2.1)
def Znu:Fn:=⟨Tryz.f177,λ |2=>[.canon [1,7,8,9,10]]|3=>[.canon [1,5,6,7,8,9]]|4=>[.canon [1,5,7,8,9,21]]|5=>[.canon [4]]|6=>[.canon [1,7,8,9]]|100002=>[.canon [1,7,8,9]]|_=>[],Zlk,λN=>[(175,Zm6 N)]⟩
def Z0g(dK:Int)(t4:List Int)(t6:Int):St:=⟨[(1,vI dK),(7,vV Je t4),(8,vI (Wb t4)),(9,vI t6)],[],0⟩
def Zza(dK:Int)(t4:List Int)(t9:Int):St:=⟨[(4,vI t9)],[],0⟩
def Zzb(dK:Int)(t4:List Int)(aw:Int)(ay:Bool):St:=⟨[(1,vI dK),(7,vV Je t4),(8,vI (Wb t4)),(9,vI aw),(10,vB ay)],[],0⟩
theorem Z0h(N:Nat){R:Type}(K:Ex->St->Option R){dK:Int}{t4:List Int}{K0:Int->Option R}{K1:Int->Bool->Option R}(h0:K0= λt9=>K .ret (Zza dK t4 t9))(h1:K1= λaw ay=>K (.exit 0) (Zzb dK t4 aw ay))(n:Nat)(t6:Int):Zd0 N dK t4 K0 K1 n t6=LM Znu N 0 100002 n (Z0g dK t4 t6) K:=by
  subst h0 h1
  induction n generalizing t6 with
  |zero=>kernel_rfl
  |succ n ih=>rw[Zd0];simp only[ih];kernel_rfl
theorem Z4k(N:Nat)(l1:List Int)(bX:Int):DN Znu N (l1,bX,())=Zg2 N l1 bX:=by
  conv=>rhs;rw[Zg2];simp(disch:=exact id (by kernel_rfl)) only[Z0h (R:=Unit×Ki) N (CF Znu N [1,0,1,0])]
  kernel_rfl
theorem Zpt(N:Nat):GW 177 (Zlk N):=GF Znu N Tryz.func177 (GC (Zr4 N) Wa) (λd=>Z4k N d.1 d.2.1)
def Zil(N:Nat):Sig:=Sig.of [.v Je false,.v Ja false] [.v Ja false,.v Jy false] (λd=>Zh1 N d.1 d.2.1)
def Z1f:Fn:=⟨Tryz.f109,WB,Zil,λN=>[(108,Zgv N),(176,Ze7 N),(177,Zlk N)]⟩
theorem Zn4(N:Nat):GW 109 (Zil N):=GF Z1f N Tryz.func109 (GC (Zkt N) (GC (Zh9 N) (GC (Zpt N) Wa)))
def Zim(N:Nat):Sig:=Sig.of [.v Je false,.v Ja false,.v Ja false] [.v Jf false,.v Ja false,.v Jy false] (λd=>Ze3 N d.1 d.2.1 d.2.2.1)
def Zku:Fn:=⟨Tryz.f128,λ |10=>[.canon [1,2,9,13,57]]|11=>[.canon [1,2,9,13]]|100010=>[.canon [1,2,9,13]]|_=>[],Zim,λN=>[(68,Z2 N),(108,Zgv N),(176,Ze7 N),(122,Za8 N),(177,Zlk N),(109,Zil N),(173,Zl5 N),(174,Zjy N)]⟩
def Zt8(dB:Int)(lG:Int)(eF:Int)(aR:List Int):St:=⟨[(1,vI dB),(2,vI lG),(9,vO 0),(13,vI eF)],[(0,.arr Ja aR)],1⟩
def Zr7(dB:Int)(lG:Int)(aR:List Int)(nR:Int)(cd:Bool):St:=⟨[(1,vI dB),(2,vI lG),(9,vO 0),(13,vI nR),(57,vB cd)],[(0,.arr Ja aR)],1⟩
theorem Zt9(N:Nat){R:Type}(K:Ex->St->Option R){dB:Int}{lG:Int}{aR:List Int}{K0:Int->Bool->Option R}(h0:K0= λnR cd=>K (.exit 0) (Zr7 dB lG aR nR cd))(n:Nat)(eF:Int):Zcw N dB lG aR K0 n eF=LM Zku N 0 100010 n (Zt8 dB lG eF aR) K:=by
  subst h0
  induction n generalizing eF with
  |zero=>kernel_rfl
  |succ n ih=>rw[Zcw];simp only[ih];kernel_rfl
theorem Z1g(N:Nat)(l1:List Int)(bX:Int)(v3:Int):DN Zku N (l1,bX,v3,())=Ze3 N l1 bX v3:=by
  conv=>rhs;rw[Ze3];simp(disch:=exact id (by kernel_rfl)) only[Zt9 (R:=Unit×(Kh×Kl)) N (CF Zku N [1,1,1,1,1,0,0])]
  kernel_rfl
theorem Zn5(N:Nat):GW 128 (Zim N):=GF Zku N Tryz.func128 (GC (Z8 N) (GC (Zkt N) (GC (Zh9 N) (GC (Zbw N) (GC (Zpt N) (GC (Zn4 N) (GC (Zq6 N) (GC (Zp1 N) Wa)))))))) (λd=>Z1g N d.1 d.2.1 d.2.2.1)
def Zmp(N:Nat):Sig:=Sig.of [.v Je false] [.v Jf false] (λd=>Zbg N d.1)
def Zjh:Fn:=⟨Tryz.f74,λ |5=>[.canon [3,10,11,12,13]]|6=>[.canon [3,4,5,10,11,12]]|7=>[.canon [3,4,5,10,11,12,18]]|8=>[.canon [3,10,11,12]]|9=>[.canon [3,10,11,12]]|100005=>[.canon [3,10,11,12]]|_=>[],Zmp,λN=>[(126,Zm3 N),(127,Zn3 N),(128,Zim N)]⟩
def Zrf(t4:List Int)(t6:Int)(l7:List Int):St:=⟨[(3,vO 0),(10,vV Je t4),(11,vI (Wb t4)),(12,vI t6)],[(0,.arr Ja l7)],1⟩
def Zqv(t4:List Int)(aw:Int)(ay:Bool)(aK:List Int):St:=⟨[(3,vO 0),(10,vV Je t4),(11,vI (Wb t4)),(12,vI aw),(13,vB ay)],[(0,.arr Ja aK)],1⟩
theorem Zrg(N:Nat){R:Type}(K:Ex->St->Option R){t4:List Int}{K0:Int->Bool->Kh->Option R}(h0:K0= λaw ay aK=>K (.exit 0) (Zqv t4 aw ay aK))(n:Nat)(t6:Int)(l7:List Int):Zbo N t4 K0 n t6 l7=LM Zjh N 0 100005 n (Zrf t4 t6 l7) K:=by
  subst h0
  induction n generalizing t6 l7 with
  |zero=>kernel_rfl
  |succ n ih=>rw[Zbo];simp only[ih];kernel_rfl
theorem Zzc(N:Nat)(m1:List Int):DN Zjh N (m1,())=Zbg N m1:=by
  conv=>rhs;rw[Zbg];simp(disch:=exact id (by kernel_rfl)) only[Zrg (R:=Unit×Ky) N (CF Zjh N [1,1,1,0,1,0])]
  kernel_rfl
theorem Zzd(N:Nat):GW 74 (Zmp N):=GF Zjh N Tryz.func74 (GC (Zr2 N) (GC (Z1d N) (GC (Zn5 N) Wa))) (λd=>Zzc N d.1)
def Zou(N:Nat):Sig:=Sig.of [.v Je false] [.v Jac true,.v Jy false] (λd=>Zce N d.1)
def Zl6:Fn:=⟨Tryz.f49,λ |5=>[.canon [2,4,12,13,14,15]]|6=>[.canon [2,4,6,12,13,14]]|7=>[.canon [2,4,12,13,14]]|8=>[.canon [2,4,12,13,14]]|100005=>[.adoptC 4 1 Jb,.canon [2,4,12,13,14]]|_=>[],Zou,λN=>[(67,Zbe N)]⟩
def Zw7(t3:List Int)(t5:Int)(l8:List Kb):St:=⟨[(2,vP 0 0),(4,vP 1 0),(12,vV Je t3),(13,vI (Wb t3)),(14,vI t5)],[(0,.box [.val Ja (0:Int),.nils]),(1,.box [.val Ja (0:Int),.own 2]),(2,.arr Jb l8)],3⟩
def Zua(t3:List Int)(t9:Int)(aw:Bool)(ar:List Kb):St:=⟨[(2,vP 0 0),(4,vP 1 0),(12,vV Je t3),(13,vI (Wb t3)),(14,vI t9),(15,vB aw)],[(0,.box [.val Ja (0:Int),.nils]),(1,.box [.val Ja (0:Int),.own 2]),(2,.arr Jb ar)],3⟩
theorem Zw8(N:Nat){R:Type}(K:Ex->St->Option R){t3:List Int}{K0:Int->Bool->Kt->Option R}(h0:K0= λt9 aw ar=>K (.exit 0) (Zua t3 t9 aw ar))(n:Nat)(t5:Int)(l8:List Kb):Zdo N t3 K0 n t5 l8=LM Zl6 N 0 100005 n (Zw7 t3 t5 l8) K:=by
  subst h0
  induction n generalizing t5 l8 with
  |zero=>kernel_rfl
  |succ n ih=>rw[Zdo];simp only[ih];kernel_rfl
theorem Z20(N:Nat)(l1:List Int):DN Zl6 N (l1,())=Zce N l1:=by
  conv=>rhs;rw[Zce];simp(disch:=exact id (by kernel_rfl)) only[Zw8 (R:=Unit×(Kv×Ko)) N (CF Zl6 N [1,1,1,0,1,0])]
  kernel_rfl
theorem Z21(N:Nat):GW 49 (Zou N):=GF Zl6 N Tryz.func49 (GC (Zcb N) Wa) (λd=>Z20 N d.1)
def Zc6(N:Nat):Sig:=Sig.of [.box Jl] [] (λd=>Zbh N d.1)
def Zze:Fn:=⟨Tryz.f193,WB,Zc6,Wbg⟩
theorem Zhc(N:Nat):GW 193 (Zc6 N):=GF Zze N Tryz.func193 Wa
def Zlq(N:Nat):Sig:=Sig.of [.box Jn,.v Ja false] [] (λd=>Zf5 N d.1 d.2.1)
def Zis:Fn:=⟨Tryz.f194,λ |3=>[.canon [0,1,4,5,17,18,19,20]]|4=>[.canon [0,1,4,5,6,7,17,18,19]]|5=>[.canon [0,1,4,5,17,18,19]]|6=>[.canon [0,1,4,5,17,18,19]]|100003=>[.canon [0,1,4,5,17,18,19]]|_=>[],Zlq,Wbg⟩
def Zqw(k3:Int)(r4:Nat)(cS:Bool)(t6:Int)(t7:Int)(b8:Int)(b9:Int)(bd:Int)(aO:Int)(aK:List Y_Root)(aJ:List Kb)(bn:List Int)(aR:List Kb)(dq:List Kn):St:=⟨[(0,vP 0 0),(1,vI k3),(4,.s (.one (.eptr 1 r4 0))),(5,vB cS),(17,vO 1),(18,vI t6),(19,vI t7)],[(0,.box [.val Ja b8,.val Ja b9,.val Ja bd,.own 2,.own 3,.val Ja aO,.own 4,.own 1,.own 5]),(1,.arr Jl aK),(2,.arr Jb aJ),(3,.arr Ja bn),(4,.arr Jb aR),(5,.arr Ji dq)],6⟩
def Zqh(k3:Int)(r4:Nat)(t6:Int)(b8:Int)(b9:Int)(bd:Int)(aO:Int)(aK:List Y_Root)(aJ:List Kb)(bn:List Int)(aR:List Kb)(dq:List Kn)(fH:Bool)(eV:Int)(eG:Bool):St:=⟨[(0,vP 0 0),(1,vI k3),(4,.s (.one (.eptr 1 r4 0))),(5,vB fH),(17,vO 1),(18,vI t6),(19,vI eV),(20,vB eG)],[(0,.box [.val Ja b8,.val Ja b9,.val Ja bd,.own 2,.own 3,.val Ja aO,.own 4,.own 1,.own 5]),(1,.arr Jl aK),(2,.arr Jb aJ),(3,.arr Ja bn),(4,.arr Jb aR),(5,.arr Ji dq)],6⟩
theorem Zqx(N:Nat){R:Type}(K:Ex->St->Option R){k3:Int}{r4:Nat}{t6:Int}{b8:Int}{b9:Int}{bd:Int}{aO:Int}{aK:List Y_Root}{aJ:List Kb}{bn:List Int}{aR:List Kb}{dq:List Kn}{K0:Bool->Int->Bool->Option R}(h0:K0= λfH eV eG=>K (.exit 0) (Zqh k3 r4 t6 b8 b9 bd aO aK aJ bn aR dq fH eV eG))(n:Nat)(cS:Bool)(t7:Int):Zay N k3 r4 t6 b8 b9 bd aO aK aJ bn aR dq K0 n cS t7=LM Zis N 0 100003 n (Zqw k3 r4 cS t6 t7 b8 b9 bd aO aK aJ bn aR dq) K:=by
  subst h0
  induction n generalizing cS t7 with
  |zero=>kernel_rfl
  |succ n ih=>rw[Zay];simp only[ih];kernel_rfl
theorem Zw9(N:Nat)(w1:Y_World)(k2:Int):DN Zis N (w1,k2,())=Zf5 N w1 k2:=by
  conv=>rhs;rw[Zf5];simp(disch:=exact id (by kernel_rfl)) only[Zqx (R:=(Y_World×Unit)×Unit) N (CF Zis N [1,1,0,1,0])]
  kernel_rfl
theorem Zxa(N:Nat):GW 194 (Zlq N):=GF Zis N Tryz.func194 Wa (λd=>Zw9 N d.1 d.2.1)
def Zl7(N:Nat):Sig:=Sig.of [.v Ja false,.v Ja false,.v Ja false] [.v Jy false] (λd=>Zi1 N d.1 d.2.1 d.2.2.1)
def Z22:Fn:=⟨Tryz.f301,WB,Zl7,λN=>[(51,Z0 N)]⟩
theorem Zq7(N:Nat):GW 301 (Zl7 N):=GF Z22 N Tryz.func301 (GC (Z5 N) Wa)
def Zkd(N:Nat):Sig:=Sig.of [.v Jb true,.v Jb true] [.v Ja false] (λd=>Zip N d.1 d.2.1)
def Zr8:Fn:=⟨Tryz.f302,WB,Zkd,Wbg⟩
theorem Zr9(N:Nat):GW 302 (Zkd N):=GF Zr8 N Tryz.func302 Wa
def Zgw(N:Nat):Sig:=Sig.of [.v Jk false] [.v Jy false] (λd=>Ze4 N d.1)
def Zkv:Fn:=⟨Tryz.f247,λ |2=>[.canon [0,5,6,7,8]]|3=>[.canon [0,3,4,5,6,7]]|4=>[.canon [0,3,4,5,6,7,33]]|5=>[.canon [2]]|6=>[.canon [0,5,6,7,60]]|7=>[.canon [2]]|8=>[.canon [0,5,6,7]]|100002=>[.canon [0,5,6,7]]|_=>[],Zgw,λN=>[(301,Zl7 N),(302,Zkd N)]⟩
def Zub(l2:List Kb)(t5:Int):St:=⟨[(0,vV Jk l2),(5,vV Jk l2),(6,vI (Wb l2)),(7,vI t5)],[],0⟩
def Zsa(l2:List Kb):St:=⟨[(2,vB false)],[],0⟩
def Zsb(l2:List Kb)(aw:Int)(ay:Bool):St:=⟨[(0,vV Jk l2),(5,vV Jk l2),(6,vI (Wb l2)),(7,vI aw),(8,vB ay)],[],0⟩
theorem Zuc(N:Nat){R:Type}(K:Ex->St->Option R){l2:List Kb}{K0:Option R}{K1:Int->Bool->Option R}(h0:K0=K .ret (Zsa l2))(h1:K1= λaw ay=>K (.exit 0) (Zsb l2 aw ay))(n:Nat)(t5:Int):Zav N l2 K0 K1 n t5=LM Zkv N 0 100002 n (Zub l2 t5) K:=by
  subst h0 h1
  induction n generalizing t5 with
  |zero=>kernel_rfl
  |succ n ih=>rw[Zav];simp only[ih];kernel_rfl
theorem Z1h(N:Nat)(l1:List Kb):DN Zkv N (l1,())=Ze4 N l1:=by
  conv=>rhs;rw[Ze4];simp(disch:=exact id (by kernel_rfl)) only[Zuc (R:=Unit×Ko) N (CF Zkv N [1,0,1,0])]
  kernel_rfl
theorem Zkw(N:Nat):GW 247 (Zgw N):=GF Zkv N Tryz.func247 (GC (Zq7 N) (GC (Zr9 N) Wa)) (λd=>Z1h N d.1)
def Zn6(N:Nat):Sig:=Sig.of [.v Jk false,.v Ja false] [.v Jf false] (λd=>Zgs N d.1 d.2.1)
def Zkx:Fn:=⟨Tryz.f283,λ |5=>[.canon [1,5,12,13,14,15]]|6=>[.canon [1,5,7,12,13,14]]|7=>[.canon [1,5,7,12,13,14,21]]|8=>[.canon [1,5,12,13,14]]|9=>[.canon [1,5,12,13,14]]|100005=>[.canon [1,5,12,13,14]]|_=>[],Zn6,λN=>[(247,Zgw N)]⟩
def Zud(eH:Int)(t5:List Kb)(t7:Int)(l8:List Int):St:=⟨[(1,vI eH),(5,vO 0),(12,vV Jk t5),(13,vI (Wb t5)),(14,vI t7)],[(0,.arr Ja l8)],1⟩
def Zsc(eH:Int)(t5:List Kb)(t9:Int)(aw:Bool)(ar:List Int):St:=⟨[(1,vI eH),(5,vO 0),(12,vV Jk t5),(13,vI (Wb t5)),(14,vI t9),(15,vB aw)],[(0,.arr Ja ar)],1⟩
theorem Zue(N:Nat){R:Type}(K:Ex->St->Option R){eH:Int}{t5:List Kb}{K0:Int->Bool->Kh->Option R}(h0:K0= λt9 aw ar=>K (.exit 0) (Zsc eH t5 t9 aw ar))(n:Nat)(t7:Int)(l8:List Int):Zb8 N eH t5 K0 n t7 l8=LM Zkx N 0 100005 n (Zud eH t5 t7 l8) K:=by
  subst h0
  induction n generalizing t7 l8 with
  |zero=>kernel_rfl
  |succ n ih=>rw[Zb8];simp only[ih];kernel_rfl
theorem Z1i(N:Nat)(l1:List Kb)(ct:Int):DN Zkx N (l1,ct,())=Zgs N l1 ct:=by
  conv=>rhs;rw[Zgs];simp(disch:=exact id (by kernel_rfl)) only[Zue (R:=Unit×Ky) N (CF Zkx N [1,1,1,0,1,0])]
  kernel_rfl
theorem Z1j(N:Nat):GW 283 (Zn6 N):=GF Zkx N Tryz.func283 (GC (Zkw N) Wa) (λd=>Z1i N d.1 d.2.1)
def Zji(N:Nat):Sig:=Sig.of [.box Jn,.v Ja false] [] (λd=>Zgt N d.1 d.2.1)
def Zzf:Fn:=⟨Tryz.f202,λ |0=>[.opn 10]|_=>[],Zji,Wbg⟩
theorem Zpo(N:Nat):GW 202 (Zji N):=GF Zzf N Tryz.func202 Wa
def Zc7(N:Nat):Sig:=Sig.of [.v Ja false] [.v Jy false] (λd=>Zdd N d.1)
def Z1k:Fn:=⟨Tryz.f130,WB,Zc7,λN=>[(51,Z0 N)]⟩
theorem Zgx(N:Nat):GW 130 (Zc7 N):=GF Z1k N Tryz.func130 (GC (Z5 N) Wa)
def Zb5(N:Nat):Sig:=Sig.of [.v Jc false] [.v Jy false] (λd=>Za7 N d.1)
def Zl8:Fn:=⟨Tryz.f69,λ |2=>[.canon [0,5,6,7,8]]|3=>[.canon [0,4,5,6,7]]|4=>[.canon [0,5,6,7,20]]|5=>[.canon [2]]|6=>[.canon [0,5,6,7]]|100002=>[.canon [0,5,6,7]]|_=>[],Zb5,λN=>[(61,Zbs N),(122,Za8 N)]⟩
def Zxb(l2:List Kc)(t5:Int):St:=⟨[(0,vV Jc l2),(5,vV Jc l2),(6,vI (Wb l2)),(7,vI t5)],[],0⟩
def Zuf(l2:List Kc):St:=⟨[(2,vB false)],[],0⟩
def Zug(l2:List Kc)(aw:Int)(ay:Bool):St:=⟨[(0,vV Jc l2),(5,vV Jc l2),(6,vI (Wb l2)),(7,vI aw),(8,vB ay)],[],0⟩
theorem Zxc(N:Nat){R:Type}(K:Ex->St->Option R){l2:List Kc}{K0:Option R}{K1:Int->Bool->Option R}(h0:K0=K .ret (Zuf l2))(h1:K1= λaw ay=>K (.exit 0) (Zug l2 aw ay))(n:Nat)(t5:Int):Zdn N l2 K0 K1 n t5=LM Zl8 N 0 100002 n (Zxb l2 t5) K:=by
  subst h0 h1
  induction n generalizing t5 with
  |zero=>kernel_rfl
  |succ n ih=>rw[Zdn];simp only[ih];kernel_rfl
theorem Z23(N:Nat)(l1:List Kc):DN Zl8 N (l1,())=Za7 N l1:=by
  conv=>rhs;rw[Za7];simp(disch:=exact id (by kernel_rfl)) only[Zxc (R:=Unit×Ko) N (CF Zl8 N [1,0,1,0])]
  kernel_rfl
theorem Zd2(N:Nat):GW 69 (Zb5 N):=GF Zl8 N Tryz.func69 (GC (Zcq N) (GC (Zbw N) Wa)) (λd=>Z23 N d.1)
def Zll(N:Nat):Sig:=Sig.of [.v Jc false,.v Ja false] [.v Ja false,.v Jy false] (λd=>Zhx N d.1 d.2.1)
def Znv:Fn:=⟨Tryz.f184,λ |4=>[.canon [0,1,6,14]]|5=>[.canon [0,1,6]]|6=>[.canon [0,1,6,23]]|7=>[.canon [4,5]]|100004=>[.canon [0,1,6]]|_=>[],Zll,λN=>[(69,Zb5 N)]⟩
def Z0i(l4:List Kc)(cD:Int)(i6:Int):St:=⟨[(0,vV Jc l4),(1,vI cD),(6,vI i6)],[],0⟩
def Zzg(l4:List Kc)(cD:Int)(t7:Int):St:=⟨[(4,vI t7),(5,vB true)],[],0⟩
def Zzh(l4:List Kc)(cD:Int)(i8:Int)(t9:Bool):St:=⟨[(0,vV Jc l4),(1,vI cD),(6,vI i8),(14,vB t9)],[],0⟩
theorem Z0j(N:Nat){R:Type}(K:Ex->St->Option R){l4:List Kc}{cD:Int}{K0:Int->Option R}{K1:Int->Bool->Option R}(h0:K0= λt7=>K .ret (Zzg l4 cD t7))(h1:K1= λi8 t9=>K (.exit 0) (Zzh l4 cD i8 t9))(n:Nat)(i6:Int):Zhd N l4 cD K0 K1 n i6=LM Znv N 0 100004 n (Z0i l4 cD i6) K:=by
  subst h0 h1
  induction n generalizing i6 with
  |zero=>kernel_rfl
  |succ n ih=>rw[Zhd];simp only[ih];kernel_rfl
theorem Z4l(N:Nat)(l1:List Kc)(fi:Int):DN Znv N (l1,fi,())=Zhx N l1 fi:=by
  conv=>rhs;rw[Zhx];simp(disch:=exact id (by kernel_rfl)) only[Z0j (R:=Unit×Kl) N (CF Znv N [1,1,0,1,0])]
  kernel_rfl
theorem Zpu(N:Nat):GW 184 (Zll N):=GF Znv N Tryz.func184 (GC (Zd2 N) Wa) (λd=>Z4l N d.1 d.2.1)
def Zke(N:Nat):Sig:=Sig.of [.v Jc false] [.v Jd false] (λd=>Zg1 N d.1)
def Zov:Fn:=⟨Tryz.f114,λ |5=>[.canon [0,3,11,12]]|6=>[.canon [0,3,4,11]]|7=>[.canon [0,3,4,5,6,11]]|8=>[.canon [0,3,4,5,11,20]]|9=>[.canon [0,3,11]]|10=>[.canon [0,3,11]]|100005=>[.canon [0,3,11]]|_=>[],Zke,λN=>[(69,Zb5 N),(184,Zll N)]⟩
def Z1l(l3:List Kc)(t4:Int)(l5:List Kc):St:=⟨[(0,vV Jc l3),(3,vO 0),(11,vI t4)],[(0,.arr Jaa l5)],1⟩
def Z0k(l3:List Kc)(t7:Int)(t8:Bool)(l9:List Kc):St:=⟨[(0,vV Jc l3),(3,vO 0),(11,vI t7),(12,vB t8)],[(0,.arr Jaa l9)],1⟩
theorem Z1m(N:Nat){R:Type}(K:Ex->St->Option R){l3:List Kc}{K0:Int->Bool->Kw->Option R}(h0:K0= λt7 t8 l9=>K (.exit 0) (Z0k l3 t7 t8 l9))(n:Nat)(t4:Int)(l5:List Kc):Zgp N l3 K0 n t4 l5=LM Zov N 0 100005 n (Z1l l3 t4 l5) K:=by
  subst h0
  induction n generalizing t4 l5 with
  |zero=>kernel_rfl
  |succ n ih=>rw[Zgp];simp only[ih];kernel_rfl
theorem Z4v(N:Nat)(l1:List Kc):DN Zov N (l1,())=Zg1 N l1:=by
  conv=>rhs;rw[Zg1];simp(disch:=exact id (by kernel_rfl)) only[Z1m (R:=Unit×(Kw×Unit)) N (CF Zov N [1,1,1,0,1,0])]
  kernel_rfl
theorem Zow(N:Nat):GW 114 (Zke N):=GF Zov N Tryz.func114 (GC (Zd2 N) (GC (Zpu N) Wa)) (λd=>Z4v N d.1)
def Zn7(N:Nat):Sig:=Sig.of [.v Jc false] [.v Jf false] (λd=>Zh2 N d.1)
def Zky:Fn:=⟨Tryz.f312,λ |3=>[.canon [3,8,9,10,11]]|4=>[.canon [3,5,8,9,10]]|5=>[.canon [3,8,9,10]]|6=>[.canon [3,8,9,10]]|100003=>[.canon [3,8,9,10]]|_=>[],Zn7,λN=>[(114,Zke N)]⟩
def Zuh(t3:Int)(t4:Int)(l5:List Int)(l6:List Kc):St:=⟨[(3,vO 0),(8,vO 1),(9,vI t3),(10,vI t4)],[(0,.arr Ja l5),(1,.arr Jaa l6)],2⟩
def Zsd(t3:Int)(l6:List Kc)(t7:Int)(t8:Bool)(l9:List Int):St:=⟨[(3,vO 0),(8,vO 1),(9,vI t3),(10,vI t7),(11,vB t8)],[(0,.arr Ja l9),(1,.arr Jaa l6)],2⟩
theorem Zui(N:Nat){R:Type}(K:Ex->St->Option R){t3:Int}{l6:List Kc}{K0:Int->Bool->Kh->Option R}(h0:K0= λt7 t8 l9=>K (.exit 0) (Zsd t3 l6 t7 t8 l9))(n:Nat)(t4:Int)(l5:List Int):Zcx N t3 l6 K0 n t4 l5=LM Zky N 0 100003 n (Zuh t3 t4 l5 l6) K:=by
  subst h0
  induction n generalizing t4 l5 with
  |zero=>kernel_rfl
  |succ n ih=>rw[Zcx];simp only[ih];kernel_rfl
theorem Z1n(N:Nat)(l1:List Kc):DN Zky N (l1,())=Zh2 N l1:=by
  conv=>rhs;rw[Zh2];simp(disch:=exact id (by kernel_rfl)) only[Zui (R:=Unit×Ky) N (CF Zky N [1,1,0,1,0])]
  kernel_rfl
theorem Z1o(N:Nat):GW 312 (Zn7 N):=GF Zky N Tryz.func312 (GC (Zow N) Wa) (λd=>Z1n N d.1)
def Zmq(N:Nat):Sig:=Sig.of [.v Ja false,.v Ja false,.v Jc false,.v Jc false] [.v Js true,.v Jy false] (λd=>Zet N d.1 d.2.1 d.2.2.1 d.2.2.2.1)
def Zzi:Fn:=⟨Tryz.f284,WB,Zmq,λN=>[(130,Zc7 N),(51,Z0 N),(69,Zb5 N),(114,Zke N),(312,Zn7 N)]⟩
theorem Zzj(N:Nat):GW 284 (Zmq N):=GF Zzi N Tryz.func284 (GC (Zgx N) (GC (Z5 N) (GC (Zd2 N) (GC (Zow N) (GC (Z1o N) Wa)))))
def Zhw(N:Nat):Sig:=Sig.of [.box Jn,.v Ja false,.v Ja false] [] (λd=>Zg8 N d.1 d.2.1 d.2.2.1)
def Zuj:Fn:=⟨Tryz.f239,λ |0=>[.opn 13]|_=>[],Zhw,λN=>[(283,Zn6 N),(202,Zji N),(284,Zmq N)]⟩
theorem Zox(N:Nat):GW 239 (Zhw N):=GF Zuj N Tryz.func239 (GC (Z1j N) (GC (Zpo N) (GC (Zzj N) Wa)))
def Zjz(N:Nat):Sig:=Sig.of [.v Ja false] [.v Ju true,.v Jy false] (λd=>Zfk N d.1)
def Z0l:Fn:=⟨Tryz.f236,WB,Zjz,λN=>[(61,Zbs N)]⟩
theorem Zp2(N:Nat):GW 236 (Zjz N):=GF Z0l N Tryz.func236 (GC (Zcq N) Wa)
def Zfa(N:Nat):Sig:=Sig.of [.v Jad true] [.v Jy false] (λd=>Zcu N d.1)
def Zm7:Fn:=⟨Tryz.f94,λ |2=>[.canon [1,6,7,8,9]]|3=>[.canon [1,4,6,7,8]]|4=>[.canon [1,6,7,8,29]]|5=>[.canon [2]]|6=>[.canon [1,6,7,8]]|100002=>[.canon [1,6,7,8]]|_=>[],Zfa,λN=>[(122,Za8 N),(51,Z0 N)]⟩
def Zzk(t2:List Kb)(t4:Int)(b5:Int×List Kb):St:=⟨[(1,vP 0 0),(6,vV Jk t2),(7,vI (Wb b5.2)),(8,vI t4)],[(0,.box [.val Ja b5.1,.val Jk b5.2])],1⟩
def Zxd(t2:List Kb)(b5:Int×List Kb):St:=⟨[(2,vB false)],[],0⟩
def Zxe(t2:List Kb)(b5:Int×List Kb)(ai:Int)(aG:Bool):St:=⟨[(1,vP 0 0),(6,vV Jk t2),(7,vI (Wb b5.2)),(8,vI ai),(9,vB aG)],[(0,.box [.val Ja b5.1,.val Jk b5.2])],1⟩
theorem Zzl(N:Nat){R:Type}(K:Ex->St->Option R){t2:List Kb}{b5:Int×List Kb}{K0:Option R}{K1:Int->Bool->Option R}(h0:K0=K .ret (Zxd t2 b5))(h1:K1= λai aG=>K (.exit 0) (Zxe t2 b5 ai aG))(n:Nat)(t4:Int):Zep N t2 b5 K0 K1 n t4=LM Zm7 N 0 100002 n (Zzk t2 t4 b5) K:=by
  subst h0 h1
  induction n generalizing t4 with
  |zero=>kernel_rfl
  |succ n ih=>rw[Zep];simp only[ih];kernel_rfl
theorem Z36(N:Nat)(m1:Int×List Kb):DN Zm7 N (m1,())=Zcu N m1:=by
  conv=>rhs;rw[Zcu];simp(disch:=exact id (by kernel_rfl)) only[Zzl (R:=Unit×Ko) N (CF Zm7 N [1,0,1,0])]
  kernel_rfl
theorem Zia(N:Nat):GW 94 (Zfa N):=GF Zm7 N Tryz.func94 (GC (Zbw N) (GC (Z5 N) Wa)) (λd=>Z36 N d.1)
def Zn8(N:Nat):Sig:=Sig.of [.v Ju true] [.v Jy false] (λd=>Zmx N d.1)
def Z1p:Fn:=⟨Tryz.f274,WB,Zn8,λN=>[(61,Zbs N),(51,Z0 N),(122,Za8 N)]⟩
theorem Z1q(N:Nat):GW 274 (Zn8 N):=GF Z1p N Tryz.func274 (GC (Zcq N) (GC (Z5 N) (GC (Zbw N) Wa)))
def Zjj(N:Nat):Sig:=Sig.of [.v Jad true,.v Ja false,.v Ju true] [.v Ju true] (λd=>Zeq N d.1 d.2.1 d.2.2.1)
def Zzm:Fn:=⟨Tryz.f237,WB,Zjj,λN=>[(94,Zfa N),(274,Zn8 N)]⟩
theorem Zpp(N:Nat):GW 237 (Zjj N):=GF Zzm N Tryz.func237 (GC (Zia N) (GC (Z1q N) Wa))
def Zg5(N:Nat):Sig:=Sig.of [.box Jl] [] (λd=>Zde N d.1)
def Zrh:Fn:=⟨Tryz.f285,WB,Zg5,λN=>[(193,Zc6 N)]⟩
theorem Znp(N:Nat):GW 285 (Zg5 N):=GF Zrh N Tryz.func285 (GC (Zhc N) Wa)
def Zlr(N:Nat):Sig:=Sig.of [.boxal Jn 3,.v Ju true] [] (λd=>Zjt N d.1 d.2.1 d.2.2.1)
def Zxf:Fn:=⟨Tryz.f240,λ |1000000=>[.unfE 1]|_=>[],Zlr,λN=>[(184,Zll N),(236,Zjz N),(237,Zjj N),(285,Zg5 N)]⟩
theorem Zxg(N:Nat):GW 240 (Zlr N):=GF Zxf N Tryz.func240 (GC (Zpu N) (GC (Zp2 N) (GC (Zpp N) (GC (Znp N) Wa))))
def Zjk(N:Nat):Sig:=Sig.of [.box Jl] [.v Jj true] (λd=>Zih N d.1)
def Zzn:Fn:=⟨Tryz.f197,WB,Zjk,Wbg⟩
theorem Zpq(N:Nat):GW 197 (Zjk N):=GF Zzn N Tryz.func197 Wa
def Zjl(N:Nat):Sig:=Sig.of [.v (.prod Je Ja) true] [.v (.prod Jf Ja) true] (λd=>Zii N d.1)
def Zzo:Fn:=⟨Tryz.f289,WB,Zjl,λN=>[(68,Z2 N)]⟩
theorem Zpr(N:Nat):GW 289 (Zjl N):=GF Zzo N Tryz.func289 (GC (Z8 N) Wa)
def Zkz(N:Nat):Sig:=Sig.of [.v (.prod Je Ja) true] [.v Jy false] (λd=>Zka N d.1)
def Z1r:Fn:=⟨Tryz.f290,WB,Zkz,λN=>[(108,Zgv N),(122,Za8 N)]⟩
theorem Zqi(N:Nat):GW 290 (Zkz N):=GF Z1r N Tryz.func290 (GC (Zkt N) (GC (Zbw N) Wa))
def Zoy(N:Nat):Sig:=Sig.of [.v Jb true] [.v Jy false] (λd=>Zns N d.1)
def Z24:Fn:=⟨Tryz.f291,WB,Zoy,λN=>[(176,Ze7 N),(122,Za8 N)]⟩
theorem Z25(N:Nat):GW 291 (Zoy N):=GF Z24 N Tryz.func291 (GC (Zh9 N) (GC (Zbw N) Wa))
def Zj0(N:Nat):Sig:=Sig.of [.v Je false,.v Ja false] [.v Jf false,.v Ja false,.v Jy false] (λd=>Zjb N d.1 d.2.1)
def Z0m:Fn:=⟨Tryz.f292,WB,Zj0,λN=>[(68,Z2 N),(108,Zgv N),(176,Ze7 N),(177,Zlk N),(109,Zil N)]⟩
theorem Zp3(N:Nat):GW 292 (Zj0 N):=GF Z0m N Tryz.func292 (GC (Z8 N) (GC (Zkt N) (GC (Zh9 N) (GC (Zpt N) (GC (Zn4 N) Wa)))))
def Zn9(N:Nat):Sig:=Sig.of [.v (.prod Je Ja) true,.v Jb true] [.v (.prod Jf Ja) true,.v Jy false] (λd=>Zmy N d.1 d.2.1)
def Z1s:Fn:=⟨Tryz.f243,WB,Zn9,λN=>[(289,Zjl N),(290,Zkz N),(291,Zoy N),(128,Zim N),(292,Zj0 N)]⟩
theorem Z1t(N:Nat):GW 243 (Zn9 N):=GF Z1s N Tryz.func243 (GC (Zpr N) (GC (Zqi N) (GC (Z25 N) (GC (Zn5 N) (GC (Zp3 N) Wa)))))
def Zit(N:Nat):Sig:=Sig.of [.boxal Jn 3] [] (λd=>Zci N d.1 d.2.1)
def Zxh:Fn:=⟨Tryz.f198,λ |1000000=>[.unfE 1]|_=>[],Zit,λN=>[(243,Zn9 N)]⟩
theorem Zo9(N:Nat):GW 198 (Zit N):=GF Zxh N Tryz.func198 (GC (Z1t N) Wa)
def Zcj(N:Nat):Sig:=Sig.of [.v Jc false] [.v Jd false] (λd=>Za6 N d.1)
def Z0n:Fn:=⟨Tryz.f204,WB,Zcj,Wbg⟩
theorem Zf7(N:Nat):GW 204 (Zcj N):=GF Z0n N Tryz.func204 Wa
def Zm8(N:Nat):Sig:=Sig.of [.v Jh false,.v Ja false] [.v Ja false] (λd=>Zie N d.1 d.2.1)
def Zm9:Fn:=⟨Tryz.f167,λ |5=>[.canon [0,5,6,25]]|6=>[.canon [0,5,6]]|7=>[.canon [0,5,6]]|8=>[.canon [0,5,6,36]]|9=>[.canon [4]]|100005=>[.canon [0,5,6]]|_=>[],Zm8,λN=>[(51,Z0 N),(235,Zkc N)]⟩
def Zzp(aN:List Ka)(n5:Int)(k6:Int):St:=⟨[(0,vV Jh aN),(5,vI n5),(6,vI k6)],[],0⟩
def Zxi(aN:List Ka)(t8:Int):St:=⟨[(4,vI t8)],[],0⟩
def Zxj(aN:List Ka)(n9:Int)(k10:Int)(ay:Bool):St:=⟨[(0,vV Jh aN),(5,vI n9),(6,vI k10),(25,vB ay)],[],0⟩
theorem Zzq(N:Nat){R:Type}(K:Ex->St->Option R){aN:List Ka}{K0:Int->Option R}{K1:Int->Int->Bool->Option R}(h0:K0= λt8=>K .ret (Zxi aN t8))(h1:K1= λn9 k10 ay=>K (.exit 0) (Zxj aN n9 k10 ay))(n:Nat)(n5:Int)(k6:Int):Zer N aN K0 K1 n n5 k6=LM Zm9 N 0 100005 n (Zzp aN n5 k6) K:=by
  subst h0 h1
  induction n generalizing n5 k6 with
  |zero=>kernel_rfl
  |succ n ih=>rw[Zer];simp only[ih];kernel_rfl
theorem Z37(N:Nat)(ad:List Ka)(i2:Int):DN Zm9 N (ad,i2,())=Zie N ad i2:=by
  conv=>rhs;rw[Zie];simp(disch:=exact id (by kernel_rfl)) only[Zzq (R:=Unit×Ki) N (CF Zm9 N [1,1,1,0,1,0])]
  kernel_rfl
theorem Zse(N:Nat):GW 167 (Zm8 N):=GF Zm9 N Tryz.func167 (GC (Z5 N) (GC (Zpg N) Wa)) (λd=>Z37 N d.1 d.2.1)
def Zk0(N:Nat):Sig:=Sig.of [.box Jn,.v Ja false,.v Jh false] [] (λd=>Zjc N d.1 d.2.1 d.2.2.1)
def Zuk:Fn:=⟨Tryz.f241,λ |0=>[.opn 13]|_=>[],Zk0,λN=>[(239,Zhw N),(197,Zjk N),(198,Zit N),(68,Z2 N),(204,Zcj N),(167,Zm8 N)]⟩
theorem Zul(N:Nat):GW 241 (Zk0 N):=GF Zuk N Tryz.func241 (GC (Zox N) (GC (Zpq N) (GC (Zo9 N) (GC (Z8 N) (GC (Zf7 N) (GC (Zse N) Wa))))))
def Zni(N:Nat):Sig:=Sig.of [.v Ja false,.v Je false,.v Jc false,.v Ja false] [.v Jq true] (λd=>Zhe N d.1 d.2.1 d.2.2.1 d.2.2.2.1)
def Zf8:Fn:=⟨Tryz.f50,λ |3=>[.canon [1,3,8,9,19,20,21,22]]|4=>[.canon [1,3,8,9,11,19,20,21]]|5=>[.canon [1,3,8,9,19,20,21]]|6=>[.canon [1,3,8,9,19,20,21]]|8=>[.canon [1,8,9,36,37,38]]|9=>[.nest 44 Jm,.canon [1,8,9,36,37]]|10=>[.canon [1,8,9,36,37]]|100003=>[.adoptC 9 6 Jb,.canon [1,3,8,9,19,20,21]]|100008=>[.adoptC 9 9 Jm,.canon [1,8,9,36,37]]|_=>[],Zni,λN=>[(68,Z2 N),(114,Zke N)]⟩
def Zsf(dz:List Int)(dA:Int)(t9:Int)(aw:Int)(cW:Int)(cQ:List Kc)(dT:List Int)(bA:List Kb):St:=⟨[(1,vV Je dz),(3,vI dA),(8,vP 0 0),(9,vP 1 0),(19,vO 2),(20,vI t9),(21,vI aw)],[(0,.box [.val Ja (0:Int),.val Ja (0:Int),.val Ja (0:Int),.val Jy false,.nils,.nils,.nils,.nils,.nils,.nils]),(1,.box [.val Ja cW,.val Ja (0:Int),.val Ja (0:Int),.val Jy false,.own 3,.own 2,.own 4,.nils,.nils,.nils]),(2,.arr Jaa cQ),(3,.arr Ja dT),(4,.arr Jb bA)],5⟩
def Zri(dz:List Int)(dA:Int)(t9:Int)(cW:Int)(cQ:List Kc)(dT:List Int)(t22:Int)(gE:Bool)(dh:List Kb):St:=⟨[(1,vV Je dz),(3,vI dA),(8,vP 0 0),(9,vP 1 0),(19,vO 2),(20,vI t9),(21,vI t22),(22,vB gE)],[(0,.box [.val Ja (0:Int),.val Ja (0:Int),.val Ja (0:Int),.val Jy false,.nils,.nils,.nils,.nils,.nils,.nils]),(1,.box [.val Ja cW,.val Ja (0:Int),.val Ja (0:Int),.val Jy false,.own 3,.own 2,.own 4,.nils,.nils,.nils]),(2,.arr Jaa cQ),(3,.arr Ja dT),(4,.arr Jb dh)],5⟩
theorem Zsg(N:Nat){R:Type}(K:Ex->St->Option R){dz:List Int}{dA:Int}{t9:Int}{cW:Int}{cQ:List Kc}{dT:List Int}{K0:Int->Bool->Kt->Option R}(h0:K0= λt22 gE dh=>K (.exit 0) (Zri dz dA t9 cW cQ dT t22 gE dh))(n:Nat)(aw:Int)(bA:List Kb):Zck N dz dA t9 cW cQ dT K0 n aw bA=LM Zf8 N 0 100003 n (Zsf dz dA t9 aw cW cQ dT bA) K:=by
  subst h0
  induction n generalizing aw bA with
  |zero=>kernel_rfl
  |succ n ih=>rw[Zck];simp only[ih];kernel_rfl
def Zsh(co:List Int)(gT:Int)(gU:Int)(lr:Int)(ls:List Int)(lu:List Kc)(jW:List Kb)(gm:List Y_KidRun):St:=⟨[(1,vV Je co),(8,vP 0 0),(9,vP 1 0),(36,vI gT),(37,vI gU)],[(0,.box [.val Ja (0:Int),.val Ja (0:Int),.val Ja (0:Int),.val Jy false,.nils,.nils,.nils,.nils,.nils,.nils]),(1,.box [.val Ja lr,.val Ja (0:Int),.val Ja (0:Int),.val Jy false,.own 2,.own 3,.own 4,.nils,.nils,.own 5]),(2,.arr Ja ls),(3,.arr Jaa lu),(4,.arr Jb jW),(5,.arr Jm gm)],6⟩
def Zrj(co:List Int)(gT:Int)(lr:Int)(ls:List Int)(lu:List Kc)(jW:List Kb)(t45:Int)(t46:Bool)(lE:List Y_KidRun):St:=⟨[(1,vV Je co),(8,vP 0 0),(9,vP 1 0),(36,vI gT),(37,vI t45),(38,vB t46)],[(0,.box [.val Ja (0:Int),.val Ja (0:Int),.val Ja (0:Int),.val Jy false,.nils,.nils,.nils,.nils,.nils,.nils]),(1,.box [.val Ja lr,.val Ja (0:Int),.val Ja (0:Int),.val Jy false,.own 2,.own 3,.own 4,.nils,.nils,.own 5]),(2,.arr Ja ls),(3,.arr Jaa lu),(4,.arr Jb jW),(5,.arr Jm lE)],6⟩
theorem Zsi(N:Nat){R:Type}(K:Ex->St->Option R){co:List Int}{gT:Int}{lr:Int}{ls:List Int}{lu:List Kc}{jW:List Kb}{K0:Int->Bool->(List Y_KidRun)->Option R}(h0:K0= λt45 t46 lE=>K (.exit 2) (Zrj co gT lr ls lu jW t45 t46 lE))(n:Nat)(gU:Int)(gm:List Y_KidRun):Zbi N co gT lr ls lu jW K0 n gU gm=LM Zf8 N 1 100008 n (Zsh co gT gU lr ls lu jW gm) K:=by
  subst h0
  induction n generalizing gU gm with
  |zero=>kernel_rfl
  |succ n ih=>rw[Zbi];simp only[ih];kernel_rfl
theorem Z0o(N:Nat)(oD:Int)(bo:List Int)(ee:List Kc)(gq:Int):DN Zf8 N (oD,bo,ee,gq,())=Zhe N oD bo ee gq:=by
  conv=>rhs;rw[Zhe];simp(disch:=exact id (by kernel_rfl)) only[Zsg (R:=Unit×(Y_Family×Unit)) N (CF Zf8 N [1,1,0,1,0]),Zsi (R:=Unit×(Y_Family×Unit)) N (CF Zf8 N [1,1,1,0,1,0])]
  kernel_rfl
theorem Z0p(N:Nat):GW 50 (Zni N):=GF Zf8 N Tryz.func50 (GC (Z8 N) (GC (Zow N) Wa)) (λd=>Z0o N d.1 d.2.1 d.2.2.1 d.2.2.2.1)
def Zmr(N:Nat):Sig:=Sig.of [.v Ju true] [.v Ja false,.v Ja false] (λd=>Zkl N d.1)
def Zzr:Fn:=⟨Tryz.f286,WB,Zmr,λN=>[(230,Zi4 N)]⟩
theorem Zzs(N:Nat):GW 286 (Zmr N):=GF Zzr N Tryz.func286 (GC (Znt N) Wa)
def Zjm(N:Nat):Sig:=Sig.of [.v Jk false] [.v (.own Jb) false] (λd=>Zeu N d.1)
def Zzt:Fn:=⟨Tryz.f246,WB,Zjm,Wbg⟩
theorem Zps(N:Nat):GW 246 (Zjm N):=GF Zzt N Tryz.func246 Wa
def Zoz(N:Nat):Sig:=Sig.of [.v Jk false,.v Ja false,.v Ja false,.v Ja false] [.v Jf false] (λd=>Zi2 N d.1 d.2.1 d.2.2.1 d.2.2.2.1)
def Zl9:Fn:=⟨Tryz.f313,λ |5=>[.canon [1,2,3,9,21,22,23,24]]|6=>[.canon [1,2,3,9,11,21,22,23]]|7=>[.canon [1,2,3,9,11,21,22,23,45]]|8=>[.canon [1,2,3,9,21,22,23]]|9=>[.canon [1,2,3,9,21,22,23]]|100005=>[.canon [1,2,3,9,21,22,23]]|_=>[],Zoz,λN=>[(247,Zgw N),(51,Z0 N)]⟩
def Zxk(dC:Int)(ch:Int)(ci:Int)(aw:List Kb)(ai:Int)(aJ:List Int):St:=⟨[(1,vI dC),(2,vI ch),(3,vI ci),(9,vO 0),(21,vV Jk aw),(22,vI (Wb aw)),(23,vI ai)],[(0,.arr Ja aJ)],1⟩
def Zum(dC:Int)(ch:Int)(ci:Int)(aw:List Kb)(au:Int)(aY:Bool)(dq:List Int):St:=⟨[(1,vI dC),(2,vI ch),(3,vI ci),(9,vO 0),(21,vV Jk aw),(22,vI (Wb aw)),(23,vI au),(24,vB aY)],[(0,.arr Ja dq)],1⟩
theorem Zxl(N:Nat){R:Type}(K:Ex->St->Option R){dC:Int}{ch:Int}{ci:Int}{aw:List Kb}{K0:Int->Bool->Kh->Option R}(h0:K0= λau aY dq=>K (.exit 0) (Zum dC ch ci aw au aY dq))(n:Nat)(ai:Int)(aJ:List Int):Zbc N dC ch ci aw K0 n ai aJ=LM Zl9 N 0 100005 n (Zxk dC ch ci aw ai aJ) K:=by
  subst h0
  induction n generalizing ai aJ with
  |zero=>kernel_rfl
  |succ n ih=>rw[Zbc];simp only[ih];kernel_rfl
theorem Z26(N:Nat)(l1:List Kb)(ct:Int)(cu:Int)(cj:Int):DN Zl9 N (l1,ct,cu,cj,())=Zi2 N l1 ct cu cj:=by
  conv=>rhs;rw[Zi2];simp(disch:=exact id (by kernel_rfl)) only[Zxl (R:=Unit×Ky) N (CF Zl9 N [1,1,1,0,1,0])]
  kernel_rfl
theorem Z27(N:Nat):GW 313 (Zoz N):=GF Zl9 N Tryz.func313 (GC (Zkw N) (GC (Z5 N) Wa)) (λd=>Z26 N d.1 d.2.1 d.2.2.1 d.2.2.2.1)
def Zbm(N:Nat):Sig:=Sig.of [.mut Jb,.clos 302 0] [] (λd=>Zw N d.1)
theorem Zfg:CmpOk Tryz.prog 302 Jb Wug cfH:=by
  intro G x y us vs w hx hy h1 h2;obtain⟨_,_,rfl,a1,_,_,rfl,a2,a3⟩:=h1;obtain⟨_,_,rfl,b1,_,_,rfl,b2,b3⟩:=h2;simp only[Enc]at a1 a2 a3 b1 b2 b3;subst a1 a2 a3 b1 b2 b3;simp only[Xbd,Xby];unfold Wug at hx hy;simp only[Xi]at hx hy
  go_enter Tryz.func302,Tryz.ntmps302
  go_wp2
  rw[guard_run (a:=x.2.1) (b:=y.2.1),Result.andThen_ok];rw[neq_run (a:=x.2.1) (b:=y.2.1),Result.andThen_ok];rcases hb:(bne (α:=Int) x.2.1 y.2.1)with _|_
  . go_wp2
    rw[sub_run (Wd4 hx.1) (Wd4 hy.1) (WvK hb)]
    go_wp2
    go_ret
    exact⟨rfl,two_grow _ _ _⟩
  . go_wp2
    rw[sub_run (Wd4 hx.2) (Wd4 hy.2) (WvO hb)]
    go_wp2
    go_ret
    exact⟨rfl,two_grow _ _ _⟩
theorem Zfh(N:Nat):GW 314 (Zbm N):=⟨WcL Tryz.func314 (show Wnf Tryz.f314=true by kernel_rfl),good_sortF sortFH (e:=.prod Ja Jaa) rfl (by decide) Tryz.isAgg284 Tryz.sizeOf284 (enters_of Tryz.func302 (by kernel_rfl) rfl) WwF Zfg N⟩
def Zoa(N:Nat):Sig:=Sig.of [.v Jk false,.v Ja false,.v Ja false,.v Ja false] [.v (.own Jb) false,.v Jy false] (λd=>Zh3 N d.1 d.2.1 d.2.2.1 d.2.2.2.1)
def Zk1:Fn:=⟨Tryz.f287,λ |5=>[.canon [1,2,3,10,35,36,37,38]]|6=>[.canon [1,2,3,10,11,12,35,36,37]]|7=>[.canon [1,2,3,10,11,12,35,36,37,51]]|8=>[.canon [10]]|9=>[.canon [8,9]]|10=>[.canon [1,2,3,10,35,36,37]]|100005=>[.canon [1,2,3,10,35,36,37]]|_=>[],Zoa,λN=>[(246,Zjm N),(247,Zgw N),(301,Zl7 N),(313,Zoz N),(314,Zbm N)]⟩
def Zun(dL:Int)(bH:Int)(bI:Int)(ai:Int)(aG:Int)(bn:List Kb):St:=⟨[(1,vI dL),(2,vI bH),(3,vI bI),(10,vO 0),(35,vO 0),(36,vI ai),(37,vI aG)],[(0,.arr Jb bn)],1⟩
def Zsj(dL:Int)(bH:Int)(bI:Int)(ai:Int)(bn:List Kb)(aR:List Kb):St:=⟨[(8,vO 0),(9,vB true)],[(0,.arr Jb aR)],1⟩
def Zsk(dL:Int)(bH:Int)(bI:Int)(ai:Int)(bn:List Kb)(cL:Int)(cd:Bool):St:=⟨[(1,vI dL),(2,vI bH),(3,vI bI),(10,vO 0),(35,vO 0),(36,vI ai),(37,vI cL),(38,vB cd)],[(0,.arr Jb bn)],1⟩
theorem Zuo(N:Nat){R:Type}(K:Ex->St->Option R){dL:Int}{bH:Int}{bI:Int}{ai:Int}{bn:List Kb}{K0:Kt->Option R}{K1:Int->Bool->Option R}(h0:K0= λaR=>K .ret (Zsj dL bH bI ai bn aR))(h1:K1= λcL cd=>K (.exit 0) (Zsk dL bH bI ai bn cL cd))(n:Nat)(aG:Int):Zb9 N dL bH bI ai bn K0 K1 n aG=LM Zk1 N 0 100005 n (Zun dL bH bI ai aG bn) K:=by
  subst h0 h1
  induction n generalizing aG with
  |zero=>kernel_rfl
  |succ n ih=>rw[Zb9];simp only[ih];kernel_rfl
theorem Z1u(N:Nat)(l1:List Kb)(ct:Int)(cu:Int)(cj:Int):DN Zk1 N (l1,ct,cu,cj,())=Zh3 N l1 ct cu cj:=by
  conv=>rhs;rw[Zh3];simp(disch:=exact id (by kernel_rfl)) only[Zuo (R:=Unit×(Kt×Ko)) N (CF Zk1 N [1,1,1,0,1,0])]
  kernel_rfl
theorem Z1v(N:Nat):GW 287 (Zoa N):=GF Zk1 N Tryz.func287 (GC (Zps N) (GC (Zkw N) (GC (Zq7 N) (GC (Z27 N) (GC (Zfh N) Wa))))) (λd=>Z1u N d.1 d.2.1 d.2.2.1 d.2.2.2.1)
def Zo0(N:Nat):Sig:=Sig.of [.v Ja false,.v Ja false] [.v Jb true] (λd=>Zli N d.1 d.2.1)
def Z28:Fn:=⟨Tryz.f315,WB,Zo0,Wbg⟩
theorem Z29(N:Nat):GW 315 (Zo0 N):=GF Z28 N Tryz.func315 Wa
def Zob(N:Nat):Sig:=Sig.of [.v (.prod Je Ja) true,.v Ju true,.v Je false] [.v (.prod Jf Ja) true,.v Jf false,.v Jb true,.v Jy false] (λd=>Zmz N d.1 d.2.1 d.2.2.1)
def Z1w:Fn:=⟨Tryz.f288,WB,Zob,λN=>[(289,Zjl N),(68,Z2 N),(290,Zkz N),(67,Zbe N),(183,Zkq N),(128,Zim N),(315,Zo0 N),(109,Zil N),(292,Zj0 N)]⟩
theorem Z1x(N:Nat):GW 288 (Zob N):=GF Z1w N Tryz.func288 (GC (Zpr N) (GC (Z8 N) (GC (Zqi N) (GC (Zcb N) (GC (Zqe N) (GC (Zn5 N) (GC (Z29 N) (GC (Zn4 N) (GC (Zp3 N) Wa)))))))))
def Zk2(N:Nat):Sig:=Sig.of [.box Jn,.v Ja false,.v Ju true] [] (λd=>Zg9 N d.1 d.2.1 d.2.2.1)
def Zup:Fn:=⟨Tryz.f242,λ |1=>[.opn 20]|_=>[],Zk2,λN=>[(286,Zmr N),(287,Zoa N),(285,Zg5 N),(288,Zob N)]⟩
theorem Zuq(N:Nat):GW 242 (Zk2 N):=GF Zup N Tryz.func242 (GC (Zzs N) (GC (Z1v N) (GC (Znp N) (GC (Z1x N) Wa))))
def Zhi(N:Nat):Sig:=Sig.of [.rp (TY_Root)] [.vj Ju] (λd=>Zd6 N d.1)
def Zsl:Fn:=⟨Tryz.f197,WB,Zhi,Wbg⟩
theorem Zok(N:Nat):GW 197 (Zhi N):=GF Zsl N Tryz.func197 Wa
def Znw(N:Nat):Sig:=Sig.of [.v Ju true,.v Je false] [.v Jf false,.v Jy false] (λd=>Znn N d.1 d.2.1)
def Z4m:Fn:=⟨Tryz.f166,WB,Znw,λN=>[(68,Z2 N),(230,Zi4 N),(67,Zbe N)]⟩
theorem Zwf(N:Nat):GW 166 (Znw N):=GF Z4m N Tryz.func166 (GC (Z8 N) (GC (Znt N) (GC (Zcb N) Wa)))
def Zms(N:Nat):Sig:=Sig.of [.box Jn,.v Ja false,.v Jo true] [] (λd=>Zij N d.1 d.2.1 d.2.2.1)
def Zzu:Fn:=⟨Tryz.f195,λ |1=>[.opn 14]|_=>[],Zms,λN=>[(239,Zhw N),(240,Zlr N),(241,Zk0 N),(50,Zni N),(242,Zk2 N),(68,Z2 N),(197,Zhi N),(166,Znw N)]⟩
theorem Zzv(N:Nat):GW 195 (Zms N):=GF Zzu N Tryz.func195 (GC (Zox N) (GC (Zxg N) (GC (Zul N) (GC (Z0p N) (GC (Zuq N) (GC (Z8 N) (GC (Zok N) (GC (Zwf N) Wa))))))))
def Zmt(N:Nat):Sig:=Sig.of [.v (TY_KidRun) true] [.v Jy false] (λd=>Znz N d.1)
def Zzw:Fn:=⟨Tryz.f63,WB,Zmt,Wbg⟩
theorem Zzx(N:Nat):GW 63 (Zmt N):=GF Zzw N Tryz.func63 Wa
def Zan(N:Nat):Sig:=Sig.of [.v Jr false,.clos 63 0] [.v Ja false] (λd=>Zv N d.1)
def Z6:Fn:=⟨Tryz.f121,λ |2=>[.canon [0,1,7,8,9]]|3=>[.canon [0,1,5,7,8]]|4=>[.canon [0,1,5,7,8,16]]|5=>[.canon [1,4]]|6=>[.canon [0,1,7,8]]|100002=>[.canon [0,1,7,8]]|_=>[],Zan,λN=>[(63,Zmt N)]⟩
def Zd3(s2:List Y_KidRun)(t4:Int):St:=⟨[(0,vV Jr s2),(1,.s (.one (.clos 63 []))),(7,vI (Wb s2)),(8,vI t4)],[],0⟩
def Zdy(s2:List Y_KidRun)(t7:Int):St:=⟨[(1,.s (.one (.clos 63 []))),(4,vI t7)],[],0⟩
def Zdz(s2:List Y_KidRun)(t8:Int)(t9:Bool):St:=⟨[(0,vV Jr s2),(1,.s (.one (.clos 63 []))),(7,vI (Wb s2)),(8,vI t8),(9,vB t9)],[],0⟩
theorem Zd4(N:Nat){R:Type}(K:Ex->St->Option R){s2:List Y_KidRun}{K0:Int->Option R}{K1:Int->Bool->Option R}(h0:K0= λt7=>K .ret (Zdy s2 t7))(h1:K1= λt8 t9=>K (.exit 0) (Zdz s2 t8 t9))(n:Nat)(t4:Int):Zg N s2 K0 K1 n t4=LM Z6 N 0 100002 n (Zd3 s2 t4) K:=by
  subst h0 h1
  induction n generalizing t4 with
  |zero=>kernel_rfl
  |succ n ih=>rw[Zg];simp only[ih];kernel_rfl
theorem Zfb(N:Nat)(s1:List Y_KidRun):DN Z6 N (s1,())=Zv N s1:=by
  conv=>rhs;rw[Zv];simp(disch:=exact id (by kernel_rfl)) only[Zd4 (R:=Unit×Ki) N (CF Z6 N [1,0,1,0])]
  kernel_rfl
theorem Zfc(N:Nat):GW 121 (Zan N):=GF Z6 N Tryz.func121 (GC (Zzx N) Wa) (λd=>Zfb N d.1)
def Zai(N:Nat):Sig:=Sig.of [.v Jr false,.clos 63 0] [.v Jy false] (λd=>Zak N d.1)
def Zd7:Fn:=⟨Tryz.f62,WB,Zai,λN=>[(121,Zan N)]⟩
theorem Zd8(N:Nat):GW 62 (Zai N):=GF Zd7 N Tryz.func62 (GC (Zfc N) Wa)
def Zoc(N:Nat):Sig:=Sig.of [.v (TY_Family) true] [.v Jy false] (λd=>Zm0 N d.1)
def Z1y:Fn:=⟨Tryz.f15,WB,Zoc,λN=>[(62,Zai N)]⟩
theorem Z1z(N:Nat):GW 15 (Zoc N):=GF Z1y N Tryz.func15 (GC (Zd8 N) Wa)
def Zod(N:Nat):Sig:=Sig.of [.v (TY_Family) true] [.v Jf false] (λd=>Zh4 N d.1)
def Zk3:Fn:=⟨Tryz.f18,λ |5=>[.canon [3,20,21,22,23]]|6=>[.canon [3,4,5,20,21,22]]|7=>[.canon [3,4,5,20,21,22]]|8=>[.canon [3,4,5,20,21,22,37]]|9=>[.canon [3,20,21,22]]|10=>[.canon [3,20,21,22]]|100005=>[.canon [3,20,21,22]]|_=>[],Zod,λN=>[(67,Zbe N),(68,Z2 N)]⟩
def Zur(t4:List Y_KidRun)(t5:Int)(t6:Int)(l7:List Int):St:=⟨[(3,vO 0),(20,vV Jr t4),(21,vI t5),(22,vI t6)],[(0,.arr Ja l7)],1⟩
def Zsm(t4:List Y_KidRun)(t5:Int)(aw:Int)(ay:Bool)(aK:List Int):St:=⟨[(3,vO 0),(20,vV Jr t4),(21,vI t5),(22,vI aw),(23,vB ay)],[(0,.arr Ja aK)],1⟩
theorem Zus(N:Nat){R:Type}(K:Ex->St->Option R){t4:List Y_KidRun}{t5:Int}{K0:Int->Bool->Kh->Option R}(h0:K0= λaw ay aK=>K (.exit 0) (Zsm t4 t5 aw ay aK))(n:Nat)(t6:Int)(l7:List Int):Zbp N t4 t5 K0 n t6 l7=LM Zk3 N 0 100005 n (Zur t4 t5 t6 l7) K:=by
  subst h0
  induction n generalizing t6 l7 with
  |zero=>kernel_rfl
  |succ n ih=>rw[Zbp];simp only[ih];kernel_rfl
theorem Z10(N:Nat)(f1:Y_Family):DN Zk3 N (f1,())=Zh4 N f1:=by
  conv=>rhs;rw[Zh4];simp(disch:=exact id (by kernel_rfl)) only[Zus (R:=Unit×Ky) N (CF Zk3 N [1,1,1,0,1,0])]
  kernel_rfl
theorem Z11(N:Nat):GW 18 (Zod N):=GF Zk3 N Tryz.func18 (GC (Zcb N) (GC (Z8 N) Wa)) (λd=>Z10 N d.1)
def Zoe(N:Nat):Sig:=Sig.of [.v (TY_Family) true] [.v Jd false] (λd=>Zh5 N d.1)
def Zk4:Fn:=⟨Tryz.f20,λ |3=>[.canon [3,8,9,10,11]]|4=>[.canon [3,5,8,9,10]]|5=>[.canon [3,8,9,10]]|6=>[.canon [3,8,9,10]]|100003=>[.canon [3,8,9,10]]|_=>[],Zoe,Wbg⟩
def Zut(t2:List Kb)(t3:Int)(t4:Int)(l5:List Kc):St:=⟨[(3,vO 0),(8,vV Jk t2),(9,vI t3),(10,vI t4)],[(0,.arr Jaa l5)],1⟩
def Zsn(t2:List Kb)(t3:Int)(t6:Int)(t7:Bool)(l8:List Kc):St:=⟨[(3,vO 0),(8,vV Jk t2),(9,vI t3),(10,vI t6),(11,vB t7)],[(0,.arr Jaa l8)],1⟩
theorem Zuu(N:Nat){R:Type}(K:Ex->St->Option R){t2:List Kb}{t3:Int}{K0:Int->Bool->Kw->Option R}(h0:K0= λt6 t7 l8=>K (.exit 0) (Zsn t2 t3 t6 t7 l8))(n:Nat)(t4:Int)(l5:List Kc):Zcy N t2 t3 K0 n t4 l5=LM Zk4 N 0 100003 n (Zut t2 t3 t4 l5) K:=by
  subst h0
  induction n generalizing t4 l5 with
  |zero=>kernel_rfl
  |succ n ih=>rw[Zcy];simp only[ih];kernel_rfl
theorem Z12(N:Nat)(f1:Y_Family):DN Zk4 N (f1,())=Zh5 N f1:=by
  conv=>rhs;rw[Zh5];simp(disch:=exact id (by kernel_rfl)) only[Zuu (R:=Unit×(Kw×Unit)) N (CF Zk4 N [1,1,0,1,0])]
  kernel_rfl
theorem Z13(N:Nat):GW 20 (Zoe N):=GF Zk4 N Tryz.func20 Wa (λd=>Z12 N d.1)
def Zmu(N:Nat):Sig:=Sig.of [.box Jl] [] (λd=>Zik N d.1)
def Zzy:Fn:=⟨Tryz.f196,WB,Zmu,λN=>[(193,Zc6 N),(15,Zoc N),(18,Zod N),(20,Zoe N),(68,Z2 N)]⟩
theorem Zzz(N:Nat):GW 196 (Zmu N):=GF Zzy N Tryz.func196 (GC (Zhc N) (GC (Z1z N) (GC (Z11 N) (GC (Z13 N) (GC (Z8 N) Wa)))))
def Zkf(N:Nat):Sig:=Sig.of [.boxal Jn 3] [] (λd=>Zgm N d.1 d.2.1)
def Zso:Fn:=⟨Tryz.f199,λ |1000000=>[.unfE 1]|_=>[],Zkf,λN=>[(197,Zjk N),(193,Zc6 N),(204,Zcj N),(68,Z2 N)]⟩
theorem Zsp(N:Nat):GW 199 (Zkf N):=GF Zso N Tryz.func199 (GC (Zpq N) (GC (Zhc N) (GC (Zf7 N) (GC (Z8 N) Wa))))
def Ziu(N:Nat):Sig:=Sig.of [.v (.prod Ja Jv) true] [.v Js true] (λd=>Zhu N d.1)
def Zxm:Fn:=⟨Tryz.f293,WB,Ziu,λN=>[(204,Zcj N),(68,Z2 N)]⟩
theorem Zpa(N:Nat):GW 293 (Ziu N):=GF Zxm N Tryz.func293 (GC (Zf7 N) (GC (Z8 N) Wa))
def Zg6(N:Nat):Sig:=Sig.of [.v (.prod Ja Jv) true] [.v Ja false] (λd=>Zdf N d.1)
def Zrk:Fn:=⟨Tryz.f316,WB,Zg6,Wbg⟩
theorem Znq(N:Nat):GW 316 (Zg6 N):=GF Zrk N Tryz.func316 Wa
def Zj1(N:Nat):Sig:=Sig.of [.v (.prod Ja Jv) true] [.v Jy false] (λd=>Zfn N d.1)
def Zf9:Fn:=⟨Tryz.f294,λ |4=>[.canon [1,3,38]]|5=>[.canon [1,3]]|6=>[.canon [1,3,54]]|7=>[.canon [2]]|9=>[.canon [1,56,57,58,59]]|10=>[.canon [1,4,5,56,57,58]]|11=>[.canon [1,56,57,58,79]]|12=>[.canon [2]]|13=>[.canon [1,56,57,58]]|100004=>[.canon [1,3]]|100009=>[.canon [1,56,57,58]]|_=>[],Zj1,λN=>[(130,Zc7 N),(51,Z0 N),(69,Zb5 N),(61,Zbs N),(316,Zg6 N)]⟩
def Zsq(i7:Int)(b8:Int×Int×Int×Int×Int×List Kc×List Int):St:=⟨[(1,vP 0 0),(3,vI i7)],[(0,.box [.val Ja b8.1,.val Ja b8.2.1,.val Ja b8.2.2.1,.val Ja b8.2.2.2.1,.val Ja b8.2.2.2.2.1,.val Jc b8.2.2.2.2.2.1,.val Je b8.2.2.2.2.2.2])],1⟩
def Zrl(b8:Int×Int×Int×Int×Int×List Kc×List Int):St:=⟨[(2,vB false)],[],0⟩
def Zrm(b8:Int×Int×Int×Int×Int×List Kc×List Int)(i9:Int)(aw:Bool):St:=⟨[(1,vP 0 0),(3,vI i9),(38,vB aw)],[(0,.box [.val Ja b8.1,.val Ja b8.2.1,.val Ja b8.2.2.1,.val Ja b8.2.2.2.1,.val Ja b8.2.2.2.2.1,.val Jc b8.2.2.2.2.2.1,.val Je b8.2.2.2.2.2.2])],1⟩
theorem Zsr(N:Nat){R:Type}(K:Ex->St->Option R){b8:Int×Int×Int×Int×Int×List Kc×List Int}{K0:Option R}{K1:Int->Bool->Option R}(h0:K0=K .ret (Zrl b8))(h1:K1= λi9 aw=>K (.exit 0) (Zrm b8 i9 aw))(n:Nat)(i7:Int):Zb0 N b8 K0 K1 n i7=LM Zf9 N 0 100004 n (Zsq i7 b8) K:=by
  subst h0 h1
  induction n generalizing i7 with
  |zero=>kernel_rfl
  |succ n ih=>rw[Zb0];simp only[ih];kernel_rfl
def Zss(aG:List Int)(aY:Int)(bc:Int×Int×Int×Int×Int×List Kc×List Int):St:=⟨[(1,vP 0 0),(56,vV Je aG),(57,vI (Wb bc.2.2.2.2.2.2)),(58,vI aY)],[(0,.box [.val Ja bc.1,.val Ja bc.2.1,.val Ja bc.2.2.1,.val Ja bc.2.2.2.1,.val Ja bc.2.2.2.2.1,.val Jc bc.2.2.2.2.2.1,.val Je bc.2.2.2.2.2.2])],1⟩
def Zrn(aG:List Int)(bc:Int×Int×Int×Int×Int×List Kc×List Int):St:=⟨[(2,vB false)],[],0⟩
def Zro(aG:List Int)(bc:Int×Int×Int×Int×Int×List Kc×List Int)(eG:Int)(fY:Bool):St:=⟨[(1,vP 0 0),(56,vV Je aG),(57,vI (Wb bc.2.2.2.2.2.2)),(58,vI eG),(59,vB fY)],[(0,.box [.val Ja bc.1,.val Ja bc.2.1,.val Ja bc.2.2.1,.val Ja bc.2.2.2.1,.val Ja bc.2.2.2.2.1,.val Jc bc.2.2.2.2.2.1,.val Je bc.2.2.2.2.2.2])],1⟩
theorem Zst(N:Nat){R:Type}(K:Ex->St->Option R){aG:List Int}{bc:Int×Int×Int×Int×Int×List Kc×List Int}{K0:Option R}{K1:Int->Bool->Option R}(h0:K0=K .ret (Zrn aG bc))(h1:K1= λeG fY=>K (.exit 2) (Zro aG bc eG fY))(n:Nat)(aY:Int):Zbj N aG bc K0 K1 n aY=LM Zf9 N 1 100009 n (Zss aG aY bc) K:=by
  subst h0 h1
  induction n generalizing aY with
  |zero=>kernel_rfl
  |succ n ih=>rw[Zbj];simp only[ih];kernel_rfl
theorem Z0q(N:Nat)(c1:Int×Int×Int×Int×Int×List Kc×List Int):DN Zf9 N (c1,())=Zfn N c1:=by
  conv=>rhs;rw[Zfn];simp(disch:=exact id (by kernel_rfl)) only[Zsr (R:=Unit×Ko) N (CF Zf9 N [1,1,0,1,0]),Zst (R:=Unit×Ko) N (CF Zf9 N [1,1,1,0,1,0])]
  kernel_rfl
theorem Zp4(N:Nat):GW 294 (Zj1 N):=GF Zf9 N Tryz.func294 (GC (Zgx N) (GC (Z5 N) (GC (Zd2 N) (GC (Zcq N) (GC (Znq N) Wa))))) (λd=>Z0q N d.1)
def Zft(N:Nat):Sig:=Sig.of [.box Js,.v Ja false] [] (λd=>Z7 N d.1 d.2.1)
def Zqj:Fn:=⟨Tryz.f295,WB,Zft,Wbg⟩
theorem Zmv(N:Nat):GW 295 (Zft N):=GF Zqj N Tryz.func295 Wa
def Zk5(N:Nat):Sig:=Sig.of [.v (.prod Ja Jv) true] [.v Js true,.v Jy false] (λd=>Zjd N d.1)
def Zuv:Fn:=⟨Tryz.f244,WB,Zk5,λN=>[(293,Ziu N),(294,Zj1 N),(295,Zft N)]⟩
theorem Zuw(N:Nat):GW 244 (Zk5 N):=GF Zuv N Tryz.func244 (GC (Zpa N) (GC (Zp4 N) (GC (Zmv N) Wa)))
def Zex(N:Nat):Sig:=Sig.of [.v Jad true] [.v Jac true] (λd=>Zcg N d.1)
def Z14:Fn:=⟨Tryz.f119,WB,Zex,Wbg⟩
theorem Zin(N:Nat):GW 119 (Zex N):=GF Z14 N Tryz.func119 Wa
def Zpv(N:Nat):Sig:=Sig.of [.v Jad true,.v Ja false,.v Ja false] [.v Jac true,.v Jy false] (λd=>Zno N d.1 d.2.1 d.2.2.1)
def Z4n:Fn:=⟨Tryz.f296,WB,Zpv,λN=>[(119,Zex N),(94,Zfa N),(61,Zbs N),(130,Zc7 N)]⟩
theorem Z4o(N:Nat):GW 296 (Zpv N):=GF Z4n N Tryz.func296 (GC (Zin N) (GC (Zia N) (GC (Zcq N) (GC (Zgx N) Wa))))
def Zgk(N:Nat):Sig:=Sig.of [.box Js,.v Ja false] [] (λd=>Ze5 N d.1 d.2.1)
def Zqy:Fn:=⟨Tryz.f298,WB,Zgk,Wbg⟩
theorem Zne(N:Nat):GW 298 (Zgk N):=GF Zqy N Tryz.func298 Wa
def Zk6(N:Nat):Sig:=Sig.of [.box Js,.v Ja false] [] (λd=>Zbq N d.1 d.2.1)
def Zux:Fn:=⟨Tryz.f297,WB,Zk6,λN=>[(316,Zg6 N),(298,Zgk N)]⟩
theorem Zuy(N:Nat):GW 297 (Zk6 N):=GF Zux N Tryz.func297 (GC (Znq N) (GC (Zne N) Wa))
def Zpw(N:Nat):Sig:=Sig.of [.v Jad true] [.v Jac true,.v Ja false] (λd=>Zpn N d.1)
def Z4p:Fn:=⟨Tryz.f53,WB,Zpw,λN=>[(119,Zex N),(94,Zfa N)]⟩
theorem Z4q(N:Nat):GW 53 (Zpw N):=GF Z4p N Tryz.func53 (GC (Zin N) (GC (Zia N) Wa))
def Zpi(N:Nat):Sig:=Sig.of [.v Jad true,.v Ja false,.v Ja false,.v Ja false] [.v Jac true,.v Jy false] (λd=>Zom N d.1 d.2.1 d.2.2.1 d.2.2.2.1)
def Z38:Fn:=⟨Tryz.f299,WB,Zpi,λN=>[(119,Zex N),(94,Zfa N),(61,Zbs N),(130,Zc7 N),(122,Za8 N)]⟩
theorem Z39(N:Nat):GW 299 (Zpi N):=GF Z38 N Tryz.func299 (GC (Zin N) (GC (Zia N) (GC (Zcq N) (GC (Zgx N) (GC (Zbw N) Wa)))))
def Zo1(N:Nat):Sig:=Sig.of [.v Jad true,.v Ja false,.v Ja false,.v Ja false] [.v Jac true,.v Jy false] (λd=>Zlj N d.1 d.2.1 d.2.2.1 d.2.2.2.1)
def Z3a:Fn:=⟨Tryz.f300,WB,Zo1,λN=>[(119,Zex N),(94,Zfa N),(61,Zbs N),(130,Zc7 N),(51,Z0 N)]⟩
theorem Z3b(N:Nat):GW 300 (Zo1 N):=GF Z3a N Tryz.func300 (GC (Zin N) (GC (Zia N) (GC (Zcq N) (GC (Zgx N) (GC (Z5 N) Wa)))))
def Zls(N:Nat):Sig:=Sig.of [.v Jad true,.v (.prod Ja Jv) true] [.v Jac true,.v Js true] (λd=>Zju N d.1 d.2.1)
def Zxn:Fn:=⟨Tryz.f245,WB,Zls,λN=>[(119,Zex N),(293,Ziu N),(94,Zfa N),(294,Zj1 N),(296,Zpv N),(297,Zk6 N),(295,Zft N),(53,Zpw N),(298,Zgk N),(299,Zpi N),(300,Zo1 N)]⟩
theorem Zxo(N:Nat):GW 245 (Zls N):=GF Zxn N Tryz.func245 (GC (Zin N) (GC (Zpa N) (GC (Zia N) (GC (Zp4 N) (GC (Z4o N) (GC (Zuy N) (GC (Zmv N) (GC (Z4q N) (GC (Zne N) (GC (Z39 N) (GC (Z3b N) Wa)))))))))))
def Zkg(N:Nat):Sig:=Sig.of [.box Jn,.v Ja false] [] (λd=>Zgn N d.1 d.2.1)
def Zsu:Fn:=⟨Tryz.f200,λ |0=>[.opn 13]|_=>[],Zkg,λN=>[(244,Zk5 N),(193,Zc6 N),(245,Zls N),(204,Zcj N)]⟩
theorem Zsv(N:Nat):GW 200 (Zkg N):=GF Zsu N Tryz.func200 (GC (Zuw N) (GC (Zhc N) (GC (Zxo N) (GC (Zf7 N) Wa))))
def Ziv(N:Nat):Sig:=Sig.of [.v Jb true,.box Ja] [.v Jy false] (λd=>Zf6 N d.1 d.2.1)
def Zxp:Fn:=⟨Tryz.f249,WB,Ziv,Wbg⟩
theorem Zpb(N:Nat):GW 249 (Ziv N):=GF Zxp N Tryz.func249 Wa
def Zas(N:Nat):Sig:=Sig.of [.v Jk false,.clos 249 1,.box Ja] [.v Ja false] (λd=>Zy N d.1 d.2.1)
def Zae:Fn:=⟨Tryz.f303,λ |2=>[.canon [0,1,7,8,9]]|3=>[.canon [0,1,5,7,8]]|4=>[.canon [0,1,5,7,8,16]]|5=>[.canon [1,4]]|6=>[.canon [0,1,7,8]]|100002=>[.canon [0,1,7,8]]|_=>[],Zas,λN=>[(249,Ziv N)]⟩
def Zey(s3:List Kb)(t5:Int)(b6:Int):St:=⟨[(0,vV Jk s3),(1,.s (.one (.clos 249 [0]))),(7,vI (Wb s3)),(8,vI t5)],[(0,.box [.val Ja b6])],1⟩
def Zef(s3:List Kb)(t9:Int)(bd:Int):St:=⟨[(1,.s (.one (.clos 249 [0]))),(4,vI t9)],[(0,.box [.val Ja bd])],1⟩
def Zeg(s3:List Kb)(ay:Int)(ai:Bool)(ac:Int):St:=⟨[(0,vV Jk s3),(1,.s (.one (.clos 249 [0]))),(7,vI (Wb s3)),(8,vI ay),(9,vB ai)],[(0,.box [.val Ja ac])],1⟩
theorem Zez(N:Nat){R:Type}(K:Ex->St->Option R){s3:List Kb}{K0:Int->Int->Option R}{K1:Int->Bool->Int->Option R}(h0:K0= λt9 bd=>K .ret (Zef s3 t9 bd))(h1:K1= λay ai ac=>K (.exit 0) (Zeg s3 ay ai ac))(n:Nat)(t5:Int)(b6:Int):Zj N s3 K0 K1 n t5 b6=LM Zae N 0 100002 n (Zey s3 t5 b6) K:=by
  subst h0 h1
  induction n generalizing t5 b6 with
  |zero=>kernel_rfl
  |succ n ih=>rw[Zj];simp only[ih];kernel_rfl
theorem Zfu(N:Nat)(s1:List Kb)(cp:Int):DN Zae N (s1,cp,())=Zy N s1 cp:=by
  conv=>rhs;rw[Zy];simp(disch:=exact id (by kernel_rfl)) only[Zez (R:=Ki×Ki) N (CF Zae N [1,0,1,0])]
  kernel_rfl
theorem Zfv(N:Nat):GW 303 (Zas N):=GF Zae N Tryz.func303 (GC (Zpb N) Wa) (λd=>Zfu N d.1 d.2.1)
def Zaq(N:Nat):Sig:=Sig.of [.v (.own Jb) false,.clos 249 1,.box Ja] [.v (.own Jb) false] (λd=>Zq N d.1 d.2.1)
def Zaa:Fn:=⟨Tryz.f248,λ |5=>[.canon [0,1,5,6,19]]|6=>[.canon [0,1,5,6]]|7=>[.canon [0,1,5,6,7]]|8=>[.canon [0,1,5,6,7,29]]|9=>[.canon [0,1,5,6]]|10=>[.canon [0,1,5,6]]|11=>[.view 38]|100005=>[.canon [0,1,5,6]]|_=>[],Zaq,λN=>[(303,Zas N),(249,Ziv N)]⟩
def Zeh(i4:Int)(j5:Int)(l6:List Kb)(b7:Int):St:=⟨[(0,vO 0),(1,.s (.one (.clos 249 [1]))),(5,vI i4),(6,vI j5)],[(0,.arr Jb l6),(1,.box [.val Ja b7])],2⟩
def Zd9(i9:Int)(tH:Int)(ay:Bool)(aK:List Kb)(ac:Int):St:=⟨[(0,vO 0),(1,.s (.one (.clos 249 [1]))),(5,vI i9),(6,vI tH),(19,vB ay)],[(0,.arr Jb aK),(1,.box [.val Ja ac])],2⟩
theorem Zei(N:Nat){R:Type}(K:Ex->St->Option R){K0:Int->Int->Bool->Kt->Int->Option R}(h0:K0= λi9 tH ay aK ac=>K (.exit 0) (Zd9 i9 tH ay aK ac))(n:Nat)(i4:Int)(j5:Int)(l6:List Kb)(b7:Int):Zd N K0 n i4 j5 l6 b7=LM Zaa N 0 100005 n (Zeh i4 j5 l6 b7) K:=by
  subst h0
  induction n generalizing i4 j5 l6 b7 with
  |zero=>kernel_rfl
  |succ n ih=>rw[Zd];simp only[ih];kernel_rfl
theorem Zfi(N:Nat)(s1:List Kb)(cp:Int):DN Zaa N (s1,cp,())=Zq N s1 cp:=by
  conv=>rhs;rw[Zq];simp(disch:=exact id (by kernel_rfl)) only[Zei (R:=Ki×Kaa) N (CF Zaa N [1,1,1,0,1,0])]
  kernel_rfl
theorem Zfj(N:Nat):GW 248 (Zaq N):=GF Zaa N Tryz.func248 (GC (Zfv N) (GC (Zpb N) Wa)) (λd=>Zfi N d.1 d.2.1)
def Znj(N:Nat):Sig:=Sig.of [.v Jk false,.v Ja false] [.v (.own Jb) false] (λd=>Zlx N d.1 d.2.1)
def Z0r:Fn:=⟨Tryz.f201,WB,Znj,λN=>[(246,Zjm N),(247,Zgw N),(248,Zaq N)]⟩
theorem Z0s(N:Nat):GW 201 (Znj N):=GF Z0r N Tryz.func201 (GC (Zps N) (GC (Zkw N) (GC (Zfj N) Wa)))
def Zlt(N:Nat):Sig:=Sig.of [.box Jn,.v Ja false,.v Jo true] [] (λd=>Zhv N d.1 d.2.1 d.2.2.1)
def Zxq:Fn:=⟨Tryz.f129,λ |1=>[.opn 12]|_=>[],Zlt,λN=>[(51,Z0 N),(193,Zc6 N),(194,Zlq N),(195,Zms N),(196,Zmu N),(197,Zhi N),(198,Zit N),(199,Zkf N),(200,Zkg N),(201,Znj N),(202,Zji N)]⟩
theorem Zxr(N:Nat):GW 129 (Zlt N):=GF Zxq N Tryz.func129 (GC (Z5 N) (GC (Zhc N) (GC (Zxa N) (GC (Zzv N) (GC (Zzz N) (GC (Zok N) (GC (Zo9 N) (GC (Zsp N) (GC (Zsv N) (GC (Z0s N) (GC (Zpo N) Wa)))))))))))
def Ziw(N:Nat):Sig:=Sig.of [.v Jb true,.box Ja] [.v Jy false] (λd=>Zj7 N d.1 d.2.1)
def Zqz:Fn:=⟨Tryz.f190,WB,Ziw,Wbg⟩
theorem Zq0(N:Nat):GW 190 (Ziw N):=GF Zqz N Tryz.func190 Wa
def Zaj(N:Nat):Sig:=Sig.of [.v Jk false,.clos 190 1,.box Ja] [.v Ja false] (λd=>Zn N d.1 d.2.1)
def Z3:Fn:=⟨Tryz.f189,λ |2=>[.canon [0,1,7,8,9]]|3=>[.canon [0,1,5,7,8]]|4=>[.canon [0,1,5,7,8,16]]|5=>[.canon [1,4]]|6=>[.canon [0,1,7,8]]|100002=>[.canon [0,1,7,8]]|_=>[],Zaj,λN=>[(190,Ziw N)]⟩
def Zdi(s3:List Kb)(t5:Int)(b6:Int):St:=⟨[(0,vV Jk s3),(1,.s (.one (.clos 190 [0]))),(7,vI (Wb s3)),(8,vI t5)],[(0,.box [.val Ja b6])],1⟩
def Zda(s3:List Kb)(t9:Int)(bd:Int):St:=⟨[(1,.s (.one (.clos 190 [0]))),(4,vI t9)],[(0,.box [.val Ja bd])],1⟩
def Zdb(s3:List Kb)(ay:Int)(ai:Bool)(ac:Int):St:=⟨[(0,vV Jk s3),(1,.s (.one (.clos 190 [0]))),(7,vI (Wb s3)),(8,vI ay),(9,vB ai)],[(0,.box [.val Ja ac])],1⟩
theorem Zdj(N:Nat){R:Type}(K:Ex->St->Option R){s3:List Kb}{K0:Int->Int->Option R}{K1:Int->Bool->Int->Option R}(h0:K0= λt9 bd=>K .ret (Zda s3 t9 bd))(h1:K1= λay ai ac=>K (.exit 0) (Zdb s3 ay ai ac))(n:Nat)(t5:Int)(b6:Int):Zf N s3 K0 K1 n t5 b6=LM Z3 N 0 100002 n (Zdi s3 t5 b6) K:=by
  subst h0 h1
  induction n generalizing t5 b6 with
  |zero=>kernel_rfl
  |succ n ih=>rw[Zf];simp only[ih];kernel_rfl
theorem Zea(N:Nat)(s1:List Kb)(cp:Int):DN Z3 N (s1,cp,())=Zn N s1 cp:=by
  conv=>rhs;rw[Zn];simp(disch:=exact id (by kernel_rfl)) only[Zdj (R:=Ki×Ki) N (CF Z3 N [1,0,1,0])]
  kernel_rfl
theorem Zeb(N:Nat):GW 189 (Zaj N):=GF Z3 N Tryz.func189 (GC (Zq0 N) Wa) (λd=>Zea N d.1 d.2.1)
def Zfd(N:Nat):Sig:=Sig.of [.rp (TY_Family),.v Ja false] [.v Ja false] (λd=>Zcl N d.1 d.2.1)
def Zsw:Fn:=⟨Tryz.f117,WB,Zfd,λN=>[(189,Zaj N)]⟩
theorem Zkh(N:Nat):GW 117 (Zfd N):=GF Zsw N Tryz.func117 (GC (Zeb N) Wa)
def Zgl(N:Nat):Sig:=Sig.of [.box Jq,.v Ja false] [] (λd=>Zbk N d.1 d.2.1)
def Zq1:Fn:=⟨Tryz.f118,WB,Zgl,λN=>[(68,Z2 N)]⟩
theorem Znf(N:Nat):GW 118 (Zgl N):=GF Zq1 N Tryz.func118 (GC (Z8 N) Wa)
def Zk7(N:Nat):Sig:=Sig.of [.box Jq,.v Ja false,.v Ju true,.v Jad true] [] (λd=>Zi6 N d.1 d.2.1 d.2.2.1 d.2.2.2.1)
def Zuz:Fn:=⟨Tryz.f185,λ |1=>[.opn 18]|_=>[],Zk7,λN=>[(184,Zll N),(117,Zfd N),(118,Zgl N),(236,Zjz N),(237,Zjj N)]⟩
theorem Zu0(N:Nat):GW 185 (Zk7 N):=GF Zuz N Tryz.func185 (GC (Zpu N) (GC (Zkh N) (GC (Znf N) (GC (Zp2 N) (GC (Zpp N) Wa)))))
def Zki(N:Nat):Sig:=Sig.of [.box Jm,.v Jh false] [] (λd=>Zio N d.1 d.2.1)
def Zsx:Fn:=⟨Tryz.f186,λ |5=>[.opn 28]|_=>[],Zki,λN=>[(68,Z2 N),(204,Zcj N),(167,Zm8 N)]⟩
theorem Zsy(N:Nat):GW 186 (Zki N):=GF Zsx N Tryz.func186 (GC (Z8 N) (GC (Zf7 N) (GC (Zse N) Wa)))
def Zlu(N:Nat):Sig:=Sig.of [.box Jq,.v Ja false,.v Jh false,.v Jad true] [] (λd=>Zjr N d.1 d.2.1 d.2.2.1 d.2.2.2.1)
def Zxs:Fn:=⟨Tryz.f115,λ |1=>[.opn 16]|18=>[.nest 128 Jae]|_=>[],Zlu,λN=>[(185,Zk7 N),(186,Zki N),(68,Z2 N),(166,Znw N)]⟩
theorem Zxt(N:Nat):GW 115 (Zlu N):=GF Zxs N Tryz.func115 (GC (Zu0 N) (GC (Zsy N) (GC (Z8 N) (GC (Zwf N) Wa))))
def Zbf(N:Nat):Sig:=Sig.of [.mut Jb,.clos 188 0] [] (λd=>Zal N d.1)
theorem Zej:CmpOk Tryz.prog 188 Jb Wvw cfE:=by
  intro G x y us vs w hx hy h1 h2;obtain⟨_,_,rfl,a1,_,_,rfl,a2,a3⟩:=h1;obtain⟨_,_,rfl,b1,_,_,rfl,b2,b3⟩:=h2;simp only[Enc]at a1 a2 a3 b1 b2 b3;subst a1 a2 a3 b1 b2 b3;simp only[Xbd,Xby]
  go_enter Tryz.func188,Tryz.ntmps188
  go_wp2
  rw[sub_run (Wd4 hx) (Wd4 hy) (c:=cfE x y) rfl]
  go_wp2
  go_ret
  exact⟨rfl,two_grow _ _ _⟩
theorem Zek(N:Nat):GW 187 (Zbf N):=⟨WcL Tryz.func187 (show Wnf Tryz.f187=true by kernel_rfl),good_sortF sortFE (e:=.prod Ja Jaa) rfl (by decide) Tryz.isAgg121 Tryz.sizeOf121 (enters_of Tryz.func188 (by kernel_rfl) rfl) WwC Zej N⟩
def Zkj(N:Nat):Sig:=Sig.of [.box Jq,.v Ja false] [] (λd=>Zd5 N d.1 d.2.1)
def Zcs:Fn:=⟨Tryz.f116,λ |0=>[.opn 16]|3=>[.canon [0,1,4,28,29,30,31]]|4=>[.canon [0,1,4,6,28,29,30]]|5=>[.canon [0,1,4,6,7,28,29,30]]|6=>[.canon [0,1,4,7,8,28,29,30]]|7=>[.canon [0,1,4,7,8,28,29,30,48]]|8=>[.canon [0,1,4,28,29,30]]|9=>[.canon [0,1,4,28,29,30]]|10=>[.canon [0,1,4,28,29,30]]|13=>[.canon [0,1,4,75,76,77,78]]|14=>[.canon [0,1,4,10,75,76,77]]|15=>[.canon [0,1,4,10,75,76,77,83]]|16=>[.canon [0,1,4,75,76,77]]|17=>[.canon [0,1,4,75,76,77]]|100003=>[.canon [0,1,4,28,29,30]]|100013=>[.canon [0,1,4,75,76,77]]|_=>[],Zkj,λN=>[(114,Zke N),(117,Zfd N),(187,Zbf N)]⟩
def Zp7(k4:Int)(t5:Int)(t6:Int)(b7:Int)(b8:Int)(b9:Int)(bd:Bool)(aO:Int)(aH:Int)(ac:Int)(dG:Int)(cW:Int)(bc:Int)(cg:Bool)(bO:Int)(bv:Int)(dH:Int)(gV:Int)(bV:List Kc)(cR:List Int)(dh:List Kc)(fj:List Kb)(gW:List Int)(c9:List Kc)(eB:List Y_KidRun)(gX:Nat)(fC:List Int)(eX:List Kb)(fD:List Kc)(eC:List Kk):St:=⟨[(0,vP 0 0),(1,vI k4),(4,vP 1 0),(28,vO 2),(29,vI t5),(30,vI t6)],[(0,.box [.val Ja b7,.val Ja b8,.val Ja b9,.val Jy bd,.own 3,.own 4,.own 5,.own 6,.own 7,.own 8]),(1,.box [.val Ja aO,.val Ja aH,.val Ja ac,.val Ja dG,.val Ja cW,.val Ja bc,.own 9,.own 10,.own 11,.own 12,.val Jy cg,.val Ja bO,.val Ja bv,.val Ja dH,.val Ja gV]),(2,.arr Jaa bV),(3,.arr Ja cR),(4,.arr Jaa dh),(5,.arr Jb fj),(6,.arr Ja gW),(7,.arr Jaa c9),(8,.hole Jm eB gX 1),(9,.arr Ja fC),(10,.arr Jb eX),(11,.arr Jaa fD),(12,.arr Jae eC)],13⟩
def Zpx(k4:Int)(t5:Int)(b7:Int)(b8:Int)(b9:Int)(bd:Bool)(aO:Int)(aH:Int)(ac:Int)(dG:Int)(cW:Int)(bc:Int)(cg:Bool)(bO:Int)(bv:Int)(dH:Int)(gV:Int)(bV:List Kc)(cR:List Int)(dh:List Kc)(gW:List Int)(c9:List Kc)(eB:List Y_KidRun)(gX:Nat)(fC:List Int)(eX:List Kb)(fD:List Kc)(eC:List Kk)(my:Int)(nF:Bool)(tI:List Kb):St:=⟨[(0,vP 0 0),(1,vI k4),(4,vP 1 0),(28,vO 2),(29,vI t5),(30,vI my),(31,vB nF)],[(0,.box [.val Ja b7,.val Ja b8,.val Ja b9,.val Jy bd,.own 3,.own 4,.own 5,.own 6,.own 7,.own 8]),(1,.box [.val Ja aO,.val Ja aH,.val Ja ac,.val Ja dG,.val Ja cW,.val Ja bc,.own 9,.own 10,.own 11,.own 12,.val Jy cg,.val Ja bO,.val Ja bv,.val Ja dH,.val Ja gV]),(2,.arr Jaa bV),(3,.arr Ja cR),(4,.arr Jaa dh),(5,.arr Jb tI),(6,.arr Ja gW),(7,.arr Jaa c9),(8,.hole Jm eB gX 1),(9,.arr Ja fC),(10,.arr Jb eX),(11,.arr Jaa fD),(12,.arr Jae eC)],13⟩
theorem Zp8(N:Nat){R:Type}(K:Ex->St->Option R){k4:Int}{t5:Int}{b7:Int}{b8:Int}{b9:Int}{bd:Bool}{aO:Int}{aH:Int}{ac:Int}{dG:Int}{cW:Int}{bc:Int}{cg:Bool}{bO:Int}{bv:Int}{dH:Int}{gV:Int}{bV:List Kc}{cR:List Int}{dh:List Kc}{gW:List Int}{c9:List Kc}{eB:List Y_KidRun}{gX:Nat}{fC:List Int}{eX:List Kb}{fD:List Kc}{eC:List Kk}{K0:Int->Bool->Kt->Option R}(h0:K0= λmy nF tI=>K (.exit 0) (Zpx k4 t5 b7 b8 b9 bd aO aH ac dG cW bc cg bO bv dH gV bV cR dh gW c9 eB gX fC eX fD eC my nF tI))(n:Nat)(t6:Int)(fj:List Kb):Zaz N k4 t5 b7 b8 b9 bd aO aH ac dG cW bc cg bO bv dH gV bV cR dh gW c9 eB gX fC eX fD eC K0 n t6 fj=LM Zcs N 0 100003 n (Zp7 k4 t5 t6 b7 b8 b9 bd aO aH ac dG cW bc cg bO bv dH gV bV cR dh fj gW c9 eB gX fC eX fD eC) K:=by
  subst h0
  induction n generalizing t6 fj with
  |zero=>kernel_rfl
  |succ n ih=>rw[Zaz];simp only[ih];kernel_rfl
def Zp9(jc:Int)(jd:Int)(t45:Int)(fS:Int)(je:Int)(jf:Int)(jg:Bool)(jh:Int)(ji:Int)(jj:Int)(jk:Int)(jl:Int)(jm:Int)(jn:Bool)(jo:Int)(jp:Int)(jq:Int)(jr:Int)(di:List Kb)(jt:List Int)(ju:List Kc)(jv:List Kb)(jw:List Int)(kF:List Kc)(jx:List Y_KidRun)(jy:Nat)(fT:List Int)(fU:List Kc)(fV:List Kk):St:=⟨[(0,vP 0 0),(1,vI jc),(4,vP 1 0),(75,vO 2),(76,vI jd),(77,vI t45)],[(0,.box [.val Ja fS,.val Ja je,.val Ja jf,.val Jy jg,.own 3,.own 4,.own 5,.own 6,.own 7,.own 8]),(1,.box [.val Ja jh,.val Ja ji,.val Ja jj,.val Ja jk,.val Ja jl,.val Ja jm,.own 9,.own 2,.own 10,.own 11,.val Jy jn,.val Ja jo,.val Ja jp,.val Ja jq,.val Ja jr]),(2,.arr Jb di),(3,.arr Ja jt),(4,.arr Jaa ju),(5,.arr Jb jv),(6,.arr Ja jw),(7,.arr Jaa kF),(8,.hole Jm jx jy 1),(9,.arr Ja fT),(10,.arr Jaa fU),(11,.arr Jae fV)],12⟩
def Zpy(jc:Int)(jd:Int)(fS:Int)(je:Int)(jf:Int)(jg:Bool)(jh:Int)(ji:Int)(jj:Int)(jk:Int)(jl:Int)(jm:Int)(jn:Bool)(jo:Int)(jp:Int)(jq:Int)(jr:Int)(di:List Kb)(jt:List Int)(ju:List Kc)(jv:List Kb)(jw:List Int)(jx:List Y_KidRun)(jy:Nat)(fT:List Int)(fU:List Kc)(fV:List Kk)(tJ:Int)(tK:Bool)(tL:List Kc):St:=⟨[(0,vP 0 0),(1,vI jc),(4,vP 1 0),(75,vO 2),(76,vI jd),(77,vI tJ),(78,vB tK)],[(0,.box [.val Ja fS,.val Ja je,.val Ja jf,.val Jy jg,.own 3,.own 4,.own 5,.own 6,.own 7,.own 8]),(1,.box [.val Ja jh,.val Ja ji,.val Ja jj,.val Ja jk,.val Ja jl,.val Ja jm,.own 9,.own 2,.own 10,.own 11,.val Jy jn,.val Ja jo,.val Ja jp,.val Ja jq,.val Ja jr]),(2,.arr Jb di),(3,.arr Ja jt),(4,.arr Jaa ju),(5,.arr Jb jv),(6,.arr Ja jw),(7,.arr Jaa tL),(8,.hole Jm jx jy 1),(9,.arr Ja fT),(10,.arr Jaa fU),(11,.arr Jae fV)],12⟩
theorem Zqa(N:Nat){R:Type}(K:Ex->St->Option R){jc:Int}{jd:Int}{fS:Int}{je:Int}{jf:Int}{jg:Bool}{jh:Int}{ji:Int}{jj:Int}{jk:Int}{jl:Int}{jm:Int}{jn:Bool}{jo:Int}{jp:Int}{jq:Int}{jr:Int}{di:List Kb}{jt:List Int}{ju:List Kc}{jv:List Kb}{jw:List Int}{jx:List Y_KidRun}{jy:Nat}{fT:List Int}{fU:List Kc}{fV:List Kk}{K0:Int->Bool->Kw->Option R}(h0:K0= λtJ tK tL=>K (.exit 2) (Zpy jc jd fS je jf jg jh ji jj jk jl jm jn jo jp jq jr di jt ju jv jw jx jy fT fU fV tJ tK tL))(n:Nat)(t45:Int)(kF:List Kc):Za9 N jc jd fS je jf jg jh ji jj jk jl jm jn jo jp jq jr di jt ju jv jw jx jy fT fU fV K0 n t45 kF=LM Zcs N 1 100013 n (Zp9 jc jd t45 fS je jf jg jh ji jj jk jl jm jn jo jp jq jr di jt ju jv jw kF jx jy fT fU fV) K:=by
  subst h0
  induction n generalizing t45 kF with
  |zero=>kernel_rfl
  |succ n ih=>rw[Za9];simp only[ih];kernel_rfl
theorem Zsz(N:Nat)(f1:Y_Family)(k2:Int):DN Zcs N (f1,k2,())=Zd5 N f1 k2:=by
  conv=>rhs;rw[Zd5];simp(disch:=exact id (by kernel_rfl)) only[Zp8 (R:=(Y_Family×Unit)×Unit) N (CF Zcs N [1,1,0,1,0]),Zqa (R:=(Y_Family×Unit)×Unit) N (CF Zcs N [1,1,1,1,0,1,0])]
  kernel_rfl
theorem Zs0(N:Nat):GW 116 (Zkj N):=GF Zcs N Tryz.func116 (GC (Zow N) (GC (Zkh N) (GC (Zek N) Wa))) (λd=>Zsz N d.1 d.2.1)
def Zk8(N:Nat):Sig:=Sig.of [.box Jq,.v Ja false,.v Jh false,.v Jad true] [] (λd=>Zi7 N d.1 d.2.1 d.2.2.1 d.2.2.2.1)
def Zu1:Fn:=⟨Tryz.f52,λ |2=>[.opn 20]|_=>[],Zk8,λN=>[(115,Zlu N),(116,Zkj N),(117,Zfd N),(118,Zgl N)]⟩
theorem Zu2(N:Nat):GW 52 (Zk8 N):=GF Zu1 N Tryz.func52 (GC (Zxt N) (GC (Zs0 N) (GC (Zkh N) (GC (Znf N) Wa))))
def Zmw(N:Nat):Sig:=Sig.of [.box Jn,.v Jag true,.v Jb true] [] (λd=>Zkm N d.1 d.2.1 d.2.2.1)
def Zz0:Fn:=⟨Tryz.f75,λ |3=>[.unfE 6]|_=>[],Zmw,λN=>[(51,Z0 N),(129,Zlt N),(52,Zk8 N)]⟩
theorem Zz1(N:Nat):GW 75 (Zmw N):=GF Zz0 N Tryz.func75 (GC (Z5 N) (GC (Zxr N) (GC (Zu2 N) Wa)))
def Zof(N:Nat):Sig:=Sig.of [.v Jag true] [.v (TY_World) true] (λd=>Zh6 N d.1)
def Zk9:Fn:=⟨Tryz.f23,λ |3=>[.nest 21 Jl]|6=>[.canon [1,2,3,32,33,34,35]]|7=>[.canon [1,2,3,5,32,33,34]]|8=>[.canon [1,2,3,32,33,34]]|9=>[.canon [1,2,3,32,33,34]]|100006=>[.adoptC 3 6 Jb,.adoptC 3 8 Ji,.canon [1,2,3,32,33,34]]|_=>[],Zof,λN=>[(73,Znh N),(74,Zmp N),(49,Zou N),(75,Zmw N)]⟩
def Zu3(t5:List Kb)(t7:Int)(b8:Kf×List Km×List Kb)(ac:Int)(dG:Int)(cW:Int)(bc:Int)(cK:List Kb)(ce:List Int)(cQ:List Kb)(dT:List Y_Root)(bA:List Kn):St:=⟨[(1,vP 0 0),(2,vP 1 0),(3,vP 2 0),(32,vV Jk t5),(33,vI (Wb b8.2.2)),(34,vI t7)],[(0,.box [.val Je b8.1.1,.val Je b8.1.2.1,.val Ja b8.1.2.2,.val Jab b8.2.1,.val Jk b8.2.2]),(1,.box [.val Ja (0:Int),.val Ja (0:Int),.val Ja (0:Int),.nils,.nils,.val Ja (0:Int),.nils,.nils,.nils]),(2,.box [.val Ja ac,.val Ja dG,.val Ja cW,.own 3,.own 4,.val Ja bc,.own 5,.own 6,.own 7]),(3,.arr Jb cK),(4,.arr Ja ce),(5,.arr Jb cQ),(6,.arr Jl dT),(7,.arr Ji bA)],8⟩
def Zs1(t5:List Kb)(b8:Kf×List Km×List Kb)(nP:Int)(t25:Bool)(lJ:Int)(lI:Int)(lK:Int)(tM:Int)(fC:List Kb)(eX:List Int)(fD:List Kb)(eC:List Y_Root)(nQ:List Kn):St:=⟨[(1,vP 0 0),(2,vP 1 0),(3,vP 2 0),(32,vV Jk t5),(33,vI (Wb b8.2.2)),(34,vI nP),(35,vB t25)],[(0,.box [.val Je b8.1.1,.val Je b8.1.2.1,.val Ja b8.1.2.2,.val Jab b8.2.1,.val Jk b8.2.2]),(1,.box [.val Ja (0:Int),.val Ja (0:Int),.val Ja (0:Int),.nils,.nils,.val Ja (0:Int),.nils,.nils,.nils]),(2,.box [.val Ja lJ,.val Ja lI,.val Ja lK,.own 3,.own 4,.val Ja tM,.own 5,.own 6,.own 7]),(3,.arr Jb fC),(4,.arr Ja eX),(5,.arr Jb fD),(6,.arr Jl eC),(7,.arr Ji nQ)],8⟩
theorem Zu4(N:Nat){R:Type}(K:Ex->St->Option R){t5:List Kb}{b8:Kf×List Km×List Kb}{K0:Int->Bool->Int->Int->Int->Int->Kt->Kh->Kt->(List Y_Root)->(List Kn)->Option R}(h0:K0= λnP t25 lJ lI lK tM fC eX fD eC nQ=>K (.exit 0) (Zs1 t5 b8 nP t25 lJ lI lK tM fC eX fD eC nQ))(n:Nat)(t7:Int)(ac:Int)(dG:Int)(cW:Int)(bc:Int)(cK:List Kb)(ce:List Int)(cQ:List Kb)(dT:List Y_Root)(bA:List Kn):Zaw N t5 b8 K0 n t7 ac dG cW bc cK ce cQ dT bA=LM Zk9 N 0 100006 n (Zu3 t5 t7 b8 ac dG cW bc cK ce cQ dT bA) K:=by
  subst h0
  induction n generalizing t7 ac dG cW bc cK ce cQ dT bA with
  |zero=>kernel_rfl
  |succ n ih=>rw[Zaw];simp only[ih];kernel_rfl
theorem Z15(N:Nat)(s1:Kf×List Km×List Kb):DN Zk9 N (s1,())=Zh6 N s1:=by
  conv=>rhs;rw[Zh6];simp(disch:=exact id (by kernel_rfl)) only[Zu4 (R:=Unit×(Y_World×Unit)) N (CF Zk9 N [1,1,1,1,0,1,0])]
  kernel_rfl
theorem Z16(N:Nat):GW 23 (Zof N):=GF Zk9 N Tryz.func23 (GC (Z0d N) (GC (Zzd N) (GC (Z21 N) (GC (Zz1 N) Wa)))) (λd=>Z15 N d.1)
def Zgf(N:Nat):Sig:=Sig.of [.v Ja false,.v Ja false,.v Ja false] [.v Jy false] (λd=>Zbd N d.1 d.2.1 d.2.2.1)
def Z4r:Fn:=⟨Tryz.f57,WB,Zgf,Wbg⟩
theorem Zi5(N:Nat):GW 57 (Zgf N):=GF Z4r N Tryz.func57 Wa
end
end Go.Sx
