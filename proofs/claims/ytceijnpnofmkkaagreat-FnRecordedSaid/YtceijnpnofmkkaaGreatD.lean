/- Each Go function does what its Lean function says. -/
import Derived.Test.YtceijnpnofmkkaaGreatT2
import Derived.Test.YtceijnpnofmkkaaGreatProg
import Derived.Test.YtceijnpnofmkkaaGreatLay
open Bool renaming and_eq_true→Xi
open List renaming cons_append→Xba,nil_append→Xbn
namespace Go.Sx
noncomputable section
open Go.Proofs
abbrev Ja:Ty:=.int .i64
abbrev Jb:Ty:=.prod (.own Ja) (.prod (.own (.prod Ja Ja)) (.prod (.own (.prod Ja (.prod Ja Ja))) (.prod (.own Ja) (.prod (.own (.prod Ja Ja)) (.own (.prod Ja (.prod Ja (.prod Ja (.prod Ja (.prod Ja (.prod Ja (.prod (.own Ja) (.prod (.own (.prod Ja (.prod Ja Ja))) (.prod (.own (.prod Ja Ja)) (.prod (.own (.prod Ja (.prod Ja (.own Ja)))) (.prod (.bool) (.prod Ja (.prod Ja (.prod Ja Ja)))))))))))))))))))
abbrev Jc:Ty:=.slice (.prod Ja (.prod Ja (.prod Ja Ja)))
abbrev Jd:Ty:=.prod Ja (.prod Ja (.prod Ja (.prod Ja (.prod Ja (.prod (.own (.prod Ja Ja)) (.own Ja))))))
abbrev Je:Ty:=.prod Ja (.prod Ja (.slice (.prod Ja Ja)))
abbrev Jf:Ty:=.slice (.prod Ja (.prod Ja Ja))
abbrev Jg:Ty:=.own (.prod Ja (.prod Ja (.prod Ja (.prod Ja (.slice Ja)))))
abbrev Jh:Ty:=.prod Ja (.prod Ja (.prod Ja (.prod Ja (.prod Ja (.prod Ja (.prod Ja (.prod Ja (.prod Ja (.prod Ja (.prod (.bool) (.prod (.own Ja) (.prod (.own (.prod Ja Ja)) (.prod (.own (.prod Ja Ja)) (.prod Jg (.prod (.own (.prod Ja (.prod Ja Ja))) (.prod (.own Ja) (.prod (.bool) (.prod (.prod Ja (.prod Ja (.prod Ja Ja))) (.prod Jd (.prod Ja (.prod Ja (.prod Ja (.prod (.bool) Jb)))))))))))))))))))))))
abbrev Ji:Ty:=.prod Ja (.prod Ja (.prod Ja (.prod Ja (.prod Ja (.prod Ja (.prod (.own Ja) (.prod (.own (.prod Ja (.prod Ja Ja))) (.prod (.own (.prod Ja Ja)) (.prod (.own (.prod Ja (.prod Ja (.own Ja)))) (.prod (.bool) (.prod Ja (.prod Ja (.prod Ja Ja)))))))))))))
abbrev Jj:Ty:=.slice Ja
abbrev Jk:Ty:=.prod Jc (.slice Jc)
abbrev Jl:Ty:=.prod Ja (.prod Ja Ja)
abbrev Jm:Ty:=.prod (.slice (.int .u8)) (.prod Ja Ja)
abbrev Jn:Ty:=.slice (.prod Ja Ja)
abbrev Jo:Ty:=.prod (.own (.prod Ja Jh)) (.own Je)
abbrev Jp:Ty:=.bool
abbrev Jq:Ty:=.prod (.own Ja) Ja
abbrev Jr:Ty:=.prod (.prod Jj (.prod Jj Ja)) (.prod (.slice Jk) Jf)
abbrev Js:Ty:=.slice Je
abbrev Jt:Ty:=.prod Ja (.prod Ja (.own Ja))
abbrev Ju:Ty:=.prod Ja Jf
abbrev Jv:Ty:=.slice (TY_Root)
abbrev Jw:Ty:=.prod Ja (.prod Ja (.prod (.prod Ja (.own Jl)) (.prod Jq (.prod (.own Jl) Jo))))
abbrev Jx:Ty:=.prod Ja Ja
abbrev Jy:Ty:=.slice (.int .u8)
abbrev Jz:Ty:=.prod Ja Jl
abbrev Jaa:Ty:=.prod Ja (.prod Ja (.prod Ja (.prod Ja (.prod Jn Jj))))
abbrev Jab:Ty:=.prod Ja (.prod Ja (.prod Ja (.prod Jp Jb)))
abbrev Jac:Ty:=.slice Jk
abbrev Jad:Ty:=.prod Ja Jh
abbrev Jae:Ty:=.own Ja
abbrev Jaf:Ty:=.str
abbrev Jag:Ty:=.slice (TY_KidRun)
abbrev Jah:Ty:=.prod Jj Ja
abbrev Jai:Ty:=.prod Ja (.prod Ja (.prod Ja Jj))
abbrev Jaj:Ty:=.prod Ja (.own Jl)
set_option linter.unusedVariables false
set_option linter.unusedSimpArgs false
def tab:Tab:=[(3,⟨.int .i64,false,.basic⟩),(4,⟨.bool,false,.basic⟩),(5,⟨.int .u8,false,.basic⟩),(9,⟨.str,false,.basic⟩),(22,⟨.slice (.int .u8),false,.slice 5⟩),(24,⟨.slice Ja,false,.slice 3⟩),(26,⟨.prod Jj Jah,true,.struct [(0,24),(1,24),(2,3)]⟩),(27,⟨.slice Jk,false,.slice 57⟩),(28,⟨.slice Jl,false,.slice 91⟩),(30,⟨.prod (.prod Jj Jah) (.prod Jac Jf),true,.struct [(0,26),(3,27),(4,28)]⟩),(33,⟨.slice Jl,false,.slice 102⟩),(35,⟨.prod Ja Jf,true,.struct [(0,3),(1,33)]⟩),(37,⟨.prod Jj Ja,true,.struct [(0,24),(1,3)]⟩),(38,⟨.slice Jl,false,.slice 230⟩),(39,⟨.slice (TY_Root),false,.slice 76⟩),(40,⟨.slice Je,false,.slice 48⟩),(42,⟨TY_World,true,.struct [(0,3),(1,3),(2,35),(4,37),(6,38),(7,39),(8,40)]⟩),(46,⟨.slice Jx,false,.slice 138⟩),(48,⟨.prod Ja (.prod Ja Jn),true,.struct [(0,3),(1,3),(2,46)]⟩),(54,⟨.slice Jz,false,.slice 79⟩),(55,⟨.slice Jc,false,.slice 82⟩),(57,⟨.prod Jc (.slice Jc),true,.struct [(0,54),(1,55)]⟩),(65,⟨.slice (.prod Ja Jai),false,.slice 177⟩),(66,⟨.slice Jl,false,.slice 220⟩),(68,⟨.prod Ja Jl,true,.struct [(0,3),(1,3),(2,3),(3,3)]⟩),(70,⟨.prod Ja Jaa,true,.struct [(0,3),(1,3),(2,3),(3,3),(4,3),(5,46),(6,24)]⟩),(71,⟨.slice Jl,false,.slice 187⟩),(72,⟨.slice (TY_KidRun),false,.slice 185⟩),(74,⟨TY_Family,true,.struct [(0,3),(1,3),(2,3),(3,4),(4,24),(5,46),(6,71),(7,24),(8,46),(9,72)]⟩),(76,⟨TY_Root,true,.struct [(0,3),(1,3),(2,3),(3,3),(4,3),(5,3),(6,3),(7,3),(8,3),(9,3),(10,3),(11,4),(12,24),(13,46),(14,46),(15,65),(16,66),(17,24),(18,4),(19,68),(23,70),(30,74)]⟩),(79,⟨.prod Ja Jl,true,.struct [(0,3),(1,3),(2,3),(3,3)]⟩),(82,⟨.slice Jz,true,.struct [(0,54)]⟩),(91,⟨.prod Ja Jx,true,.struct [(0,3),(1,3),(2,3)]⟩),(102,⟨.prod Ja Jx,true,.struct [(0,3),(1,3),(2,3)]⟩),(118,⟨.prod Jy Jx,true,.struct [(0,22),(1,3),(2,3)]⟩),(138,⟨.prod Ja Ja,true,.struct [(0,3),(1,3)]⟩),(165,⟨.bool,true,.arr 8 4⟩),(177,⟨.prod Ja Jai,true,.struct [(0,3),(1,3),(2,3),(3,3),(4,24)]⟩),(183,⟨.slice (.prod Ja (.prod Ja Jj)),false,.slice 235⟩),(185,⟨TY_KidRun,true,.struct [(0,3),(1,3),(2,3),(3,3),(4,3),(5,3),(6,24),(7,71),(8,46),(9,183),(10,4),(11,68)]⟩),(187,⟨.prod Ja Jx,true,.struct [(0,3),(1,3),(2,3)]⟩),(220,⟨.prod Ja Jx,true,.struct [(0,3),(1,3),(2,3)]⟩),(230,⟨.prod Ja Jx,true,.struct [(0,3),(1,3),(2,3)]⟩),(235,⟨.prod Ja (.prod Ja Jj),true,.struct [(0,3),(1,3),(2,24)]⟩)]
theorem mixedOk:Tryz.prog.follows .mixedOrders=true:=by kernel_rfl
theorem tabOk:Wap Tryz.prog tab:=Wxv (show WnL Tryz.prog tab tab=true by kernel_rfl)
def LM(x:Fn)(N:Nat){R:Type}(i k n:Nat)(st:St)(K:Ex->St->Option R):Option R:=lpM tab (x.c N) x.a N x.F i k n st K
def CF(x:Fn)(N:Nat)(p:List Nat):Ex->St->Option (Qs (x.s N)):=cxF tab (x.c N) x.a N (x.s N) x.F p
def CL(x:Fn)(N:Nat){R:Type}(i k:Nat)(p:List Nat)(n:Nat)(K:Ex->St->Option R):Ex->St->Option R:=cxL tab (x.c N) x.a N x.F i k p n K
def DN(x:Fn)(N:Nat)(d:WfC (x.s N).ps):Option (Qs (x.s N)):=den (R:=Qs (x.s N)) tab (x.c N) x.a N (x.s N) x.F d some
def GW(k:FuncId)(s:Sig):Prop:=WgC Tryz.prog k/\Good Tryz.prog k s
theorem GC{k:FuncId}{s:Sig}{Γ:Ctx}(h:GW k s)(hc:Wfw Tryz.prog Γ):Wfw Tryz.prog ((k,s)::Γ):=Wu4 h.2 h.1 hc
theorem GF(x:Fn){k:FuncId}(N:Nat)(hf:Tryz.prog.funcs[k]?=some x.F)(hc:Wfw Tryz.prog (x.c N))(h:∀d,DN x N d=(x.s N).run d:=by intro d;kernel_rfl)(aG:(Woh x.F&&Wog x.F (x.s N).ps)=true:=by kernel_rfl):GW k (x.s N):=
  ⟨WcY hf (Xi .. ▸aG).1,Wsd mixedOk tabOk hc hf (Xi .. ▸aG).2 (λd _ e=>⟨N,(h d).trans e⟩)⟩
def Zqz(N:Nat):Sig:=Sig.of [.v Jy false] [.v Jp false] (λd=>Zuo N d.1)
def Z45:Fn:=⟨Tryz.f6,WG,Zqz,Wbk⟩
theorem Z46(N:Nat):GW 6 (Zqz N):=GF Z45 N Tryz.func6 Wg
def Zpp(N:Nat):Sig:=Sig.of [.v Jy false] [.box Jm] (λd=>Zj7 N d.1)
def Zm7:Fn:=⟨Tryz.f24,λ |3=>[.canon [0,3,4,15]]|4=>[.canon [0,3,4]]|5=>[.canon [0,3,4]]|100003=>[.canon [0,3,4]]|_=>[],Zpp,Wbk⟩
def Zyl(aa:List Int)(h3:Int)(i4:Int):St:=⟨[(0,vV Jy aa),(3,vI h3),(4,vI i4)],[],0⟩
def Zwl(aa:List Int)(h5:Int)(i6:Int)(t7:Bool):St:=⟨[(0,vV Jy aa),(3,vI h5),(4,vI i6),(15,vB t7)],[],0⟩
theorem Zym(N:Nat){R:Type}(K:Ex->St->Option R){aa:List Int}{K0:Int->Int->Bool->Option R}(h0:K0= λh5 i6 t7=>K (.exit 0) (Zwl aa h5 i6 t7))(n:Nat)(h3:Int)(i4:Int):Zcz N aa K0 n h3 i4=LM Zm7 N 0 100003 n (Zyl aa h3 i4) K:=by
  subst h0
  induction n generalizing h3 i4 with
  |zero=>kernel_rfl
  |succ n ih=>rw[Zcz];simp only[ih];kernel_rfl
theorem Z3x(N:Nat)(ac:List Int):DN Zm7 N (ac,())=Zj7 N ac:=by
  conv=>rhs;rw[Zj7];simp(disch:=exact id (by kernel_rfl)) only[Zym (R:=Unit×Kt) N (CF Zm7 N [1,1,0,1,0])]
  kernel_rfl
theorem Z3y(N:Nat):GW 24 (Zpp N):=GF Zm7 N Tryz.func24 Wg (λd=>Z3x N d.1)
def Zow(N:Nat):Sig:=Sig.of [.v Jy false,.v Ja false] [.v Ja false] (λd=>Zny N d.1 d.2.1)
def Z2n:Fn:=⟨Tryz.f26,WG,Zow,Wbk⟩
theorem Z2o(N:Nat):GW 26 (Zow N):=GF Z2n N Tryz.func26 Wg
def Zox(N:Nat):Sig:=Sig.of [.box Jm] [.v Ja false] (λd=>Zge N d.1)
def Z2p:Fn:=⟨Tryz.f110,WG,Zox,Wbk⟩
theorem Z2q(N:Nat):GW 110 (Zox N):=GF Z2p N Tryz.func110 Wg
def Z9(N:Nat):Sig:=Sig.of [.box Jm,.v Ja false] [.v Ja false] (λd=>Zb N d.1 d.2.1)
def Z06:Fn:=⟨Tryz.f61,WG,Z9,λN=>[(110,Zox N)]⟩
theorem Zag(N:Nat):GW 61 (Z9 N):=GF Z06 N Tryz.func61 (GC (Z2q N) Wg)
def Zb7(N:Nat):Sig:=Sig.of [.box Jm,.v Ja false] [.v Jp false] (λd=>Zr N d.1 d.2.1)
def Z2r:Fn:=⟨Tryz.f41,WG,Zb7,λN=>[(61,Z9 N)]⟩
theorem Zdx(N:Nat):GW 41 (Zb7 N):=GF Z2r N Tryz.func41 (GC (Zag N) Wg)
def Zha(N:Nat):Sig:=Sig.of [.box Jm,.v Jj false] [.v Ja false] (λd=>Zbt N d.1 d.2.1)
def Zyn:Fn:=⟨Tryz.f146,WG,Zha,λN=>[(61,Z9 N)]⟩
theorem Zml(N:Nat):GW 146 (Zha N):=GF Zyn N Tryz.func146 (GC (Zag N) Wg)
def Zjd(N:Nat):Sig:=Sig.of [.box Jm] [.v Ja false] (λd=>Zhl N d.1)
def Z2s:Fn:=⟨Tryz.f87,WG,Zjd,λN=>[(41,Zb7 N),(146,Zha N),(61,Z9 N)]⟩
theorem Zoy(N:Nat):GW 87 (Zjd N):=GF Z2s N Tryz.func87 (GC (Zdx N) (GC (Zml N) (GC (Zag N) Wg)))
def Zlp(N:Nat):Sig:=Sig.of [.box Jm] [.v Jae false] (λd=>Zf1 N d.1)
def Zin:Fn:=⟨Tryz.f86,λ |3=>[.canon [0,3,4,7]]|4=>[.canon [0,3,4]]|5=>[.canon [0,3,4]]|100003=>[.canon [0,3,4]]|_=>[],Zlp,λN=>[(87,Zjd N)]⟩
def Zri(i2:Int)(b3:List Int×Int×Int)(l4:List Int):St:=⟨[(0,vP 0 0),(3,vO 1),(4,vI i2)],[(0,.box [.val Jy b3.1,.val Ja b3.2.1,.val Ja b3.2.2]),(1,.arr Ja l4)],2⟩
def Zq0(i6:Int)(t7:Bool)(b8:List Int×Int×Int)(l9:List Int):St:=⟨[(0,vP 0 0),(3,vO 1),(4,vI i6),(7,vB t7)],[(0,.box [.val Jy b8.1,.val Ja b8.2.1,.val Ja b8.2.2]),(1,.arr Ja l9)],2⟩
theorem Zrj(N:Nat){R:Type}(K:Ex->St->Option R){K0:Int->Bool->Kg->Ki->Option R}(h0:K0= λi6 t7 b8 l9=>K (.exit 0) (Zq0 i6 t7 b8 l9))(n:Nat)(i2:Int)(b3:List Int×Int×Int)(l4:List Int):Zcw N K0 n i2 b3 l4=LM Zin N 0 100003 n (Zri i2 b3 l4) K:=by
  subst h0
  induction n generalizing i2 b3 l4 with
  |zero=>kernel_rfl
  |succ n ih=>rw[Zcw];simp only[ih];kernel_rfl
theorem Zwm(N:Nat)(c1:List Int×Int×Int):DN Zin N (c1,())=Zf1 N c1:=by
  conv=>rhs;rw[Zf1];simp(disch:=exact id (by kernel_rfl)) only[Zrj (R:=Kt×Ku) N (CF Zin N [1,1,0,1,0])]
  kernel_rfl
theorem Zwn(N:Nat):GW 86 (Zlp N):=GF Zin N Tryz.func86 (GC (Zoy N) Wg) (λd=>Zwm N d.1)
def Zjv(N:Nat):Sig:=Sig.of [.box Jm] [.v (.prod Jae Jq) true] (λd=>Zfm N d.1)
def Zjw:Fn:=⟨Tryz.f44,λ |3=>[.canon [0,2,3,4,12]]|4=>[.canon [0,2,3,4]]|5=>[.canon [0,2,3,4,5]]|6=>[.canon [0,2,3,4,5,16]]|7=>[.canon [0,2,3,4,5]]|8=>[.canon [0,2,3,4]]|100003=>[.adoptC 3 1 Ja,.canon [0,2,3,4]]|_=>[],Zjv,λN=>[(86,Zlp N),(87,Zjd N),(41,Zb7 N)]⟩
def Zs1(i4:Int)(b5:List Int×Int×Int)(b7:Int)(l8:List Int)(l9:List Int):St:=⟨[(0,vP 0 0),(2,vP 1 0),(3,vP 2 0),(4,vI i4)],[(0,.box [.val Jy b5.1,.val Ja b5.2.1,.val Ja b5.2.2]),(1,.box [.nils,.nils,.val Ja (0:Int)]),(2,.box [.own 3,.own 4,.val Ja b7]),(3,.arr Ja l8),(4,.arr Ja l9)],5⟩
def Zr9(b7:Int)(l8:List Int)(vY:Int)(bf:Bool)(ax:List Int×Int×Int)(bN:List Int):St:=⟨[(0,vP 0 0),(2,vP 1 0),(3,vP 2 0),(4,vI vY),(12,vB bf)],[(0,.box [.val Jy ax.1,.val Ja ax.2.1,.val Ja ax.2.2]),(1,.box [.nils,.nils,.val Ja (0:Int)]),(2,.box [.own 3,.own 4,.val Ja b7]),(3,.arr Ja l8),(4,.arr Ja bN)],5⟩
theorem Zs2(N:Nat){R:Type}(K:Ex->St->Option R){b7:Int}{l8:List Int}{K0:Int->Bool->Kg->Ki->Option R}(h0:K0= λvY bf ax bN=>K (.exit 0) (Zr9 b7 l8 vY bf ax bN))(n:Nat)(i4:Int)(b5:List Int×Int×Int)(l9:List Int):Zcr N b7 l8 K0 n i4 b5 l9=LM Zjw N 0 100003 n (Zs1 i4 b5 b7 l8 l9) K:=by
  subst h0
  induction n generalizing i4 b5 l9 with
  |zero=>kernel_rfl
  |succ n ih=>rw[Zcr];simp only[ih];kernel_rfl
theorem Zz8(N:Nat)(c1:List Int×Int×Int):DN Zjw N (c1,())=Zfm N c1:=by
  conv=>rhs;rw[Zfm];simp(disch:=exact id (by kernel_rfl)) only[Zs2 (R:=Kt×(Kf×Unit)) N (CF Zjw N [1,1,0,1,0])]
  kernel_rfl
theorem Zql(N:Nat):GW 44 (Zjv N):=GF Zjw N Tryz.func44 (GC (Zwn N) (GC (Zoy N) (GC (Zdx N) Wg))) (λd=>Zz8 N d.1)
def Zmm(N:Nat):Sig:=Sig.of [.box Jm] [.v Ja false] (λd=>Za N d.1)
def Zyo:Fn:=⟨Tryz.f187,WG,Zmm,λN=>[(61,Z9 N)]⟩
theorem Zyp(N:Nat):GW 187 (Zmm N):=GF Zyo N Tryz.func187 (GC (Zag N) Wg)
def Zlq(N:Nat):Sig:=Sig.of [.box Jm] [.v Ja false] (λd=>Zb2 N d.1)
def Zwo:Fn:=⟨Tryz.f188,WG,Zlq,λN=>[(41,Zb7 N),(61,Z9 N)]⟩
theorem Zwp(N:Nat):GW 188 (Zlq N):=GF Zwo N Tryz.func188 (GC (Zdx N) (GC (Zag N) Wg))
def Zmn(N:Nat):Sig:=Sig.of [.box Jm] [.v Ja false] (λd=>Zj N d.1)
def Zyq:Fn:=⟨Tryz.f189,WG,Zmn,λN=>[(41,Zb7 N),(61,Z9 N),(146,Zha N)]⟩
theorem Zyr(N:Nat):GW 189 (Zmn N):=GF Zyq N Tryz.func189 (GC (Zdx N) (GC (Zag N) (GC (Zml N) Wg)))
def Zkq(N:Nat):Sig:=Sig.of [.box Jm,.v Ja false] [.v Jz true] (λd=>Zh N d.1 d.2.1)
def Z07:Fn:=⟨Tryz.f144,WG,Zkq,λN=>[(187,Zmm N),(87,Zjd N),(188,Zlq N),(61,Z9 N),(189,Zmn N)]⟩
theorem Zq1(N:Nat):GW 144 (Zkq N):=GF Z07 N Tryz.func144 (GC (Zyp N) (GC (Zoy N) (GC (Zwp N) (GC (Zag N) (GC (Zyr N) Wg)))))
def Zl1(N m:Nat):Sig:=Sig.of [.box Jm,.v Ja false,.v Ja false,.v Jp false] [.v (.own Jz) false] (λd=>Ze1 N m d.1 d.2.1 d.2.2.1 d.2.2.2.1)
def Zs3(N:Nat):Sig:=Zl1 N N
def Zm8(m:Nat):Fn:=⟨Tryz.f84,λ |3=>[.canon [0,1,2,3,9,10,27]]|4=>[.canon [0,1,2,3,9,10]]|5=>[.canon [0,1,2,3,9,10,11]]|6=>[.canon [0,1,2,3,9,10]]|7=>[.canon [0,1,2,3,9,10,11,40]]|8=>[.canon [0,1,2,3,9,10]]|9=>[.canon [0,1,2,3,9,10,11,48]]|10=>[.canon [0,1,2,3,9,10]]|11=>[.canon [0,1,2,3,9,10,11,56]]|12=>[.canon [0,1,2,3,9,10]]|13=>[.canon [0,1,2,3,9,10,11,67]]|14=>[.canon [0,1,2,3,9,10,12]]|15=>[.canon [0,1,2,3,9,10,12]]|16=>[.canon [0,1,2,3,9,10]]|17=>[.canon [0,1,2,3,9,10,100]]|18=>[.canon [0,1,2,3,9,10]]|19=>[.canon [0,1,2,3,9,10]]|20=>[.canon [0,1,2,3,9,10,11,109]]|21=>[.canon [0,1,2,3,9,10,13]]|22=>[.canon [0,1,2,3,9,10,13,14]]|23=>[.canon [0,1,2,3,9,10,13,14]]|24=>[.canon [0,1,2,3,9,10,13]]|25=>[.canon [0,1,2,3,9,10]]|26=>[.canon [0,1,2,3,9,10,134]]|27=>[.canon [0,1,2,3,9,10]]|28=>[.canon [0,1,2,3,9,10,145]]|29=>[.canon [0,1,2,3,9,10]]|100003=>[.canon [0,1,2,3,9,10]]|_=>[],λN=>Zl1 N (m+1),λN=>[(61,Z9 N),(144,Zkq N),(84,Zl1 N m),(41,Zb7 N)]⟩
def Zys(aj:Int)(ak:Int)(an:Bool)(n9:Int)(au:List Int×Int×Int)(am:List Ka):St:=⟨[(0,vP 0 0),(1,vI aj),(2,vI ak),(3,vB an),(9,vO 1),(10,vI n9)],[(0,.box [.val Jy au.1,.val Ja au.2.1,.val Ja au.2.2]),(1,.arr Jz am)],2⟩
def Zwq(aj:Int)(ak:Int)(an:Bool)(vZ:Int)(v6:Bool)(th:List Int×Int×Int)(v7:List Ka):St:=⟨[(0,vP 0 0),(1,vI aj),(2,vI ak),(3,vB an),(9,vO 1),(10,vI vZ),(27,vB v6)],[(0,.box [.val Jy th.1,.val Ja th.2.1,.val Ja th.2.2]),(1,.arr Jz v7)],2⟩
theorem Zyt(N m:Nat){R:Type}(K:Ex->St->Option R){aj:Int}{ak:Int}{an:Bool}{K0:Int->Bool->Kg->Kz->Option R}(h0:K0= λvZ v6 th v7=>K (.exit 0) (Zwq aj ak an vZ v6 th v7))(n:Nat)(n9:Int)(au:List Int×Int×Int)(am:List Ka):Zc N (Ze1 N m) aj ak an K0 n n9 au am=LM (Zm8 m) N 0 100003 n (Zys aj ak an n9 au am) K:=by
  subst h0
  induction n generalizing n9 au am with
  |zero=>kernel_rfl
  |succ n ih=>rw[Zc];simp only[ih];kernel_rfl
theorem Z3z(N m:Nat)(c1:List Int×Int×Int)(bR:Int)(fv:Int)(jh:Bool):DN (Zm8 m) N (c1,bR,fv,jh,())=Ze1 N (m+1) c1 bR fv jh:=by
  conv=>rhs;rw[Ze1];simp(disch:=exact id (by kernel_rfl)) only[Zyt (R:=Kt×(Kz×Unit)) N m (CF (Zm8 m) N [1,1,0,1,0])]
  kernel_rfl
theorem Zr3(N:Nat):∀m,GW 84 (Zl1 N m)
  |0=>⟨WcY Tryz.func84 (show Woh Tryz.f84=true by kernel_rfl),λd o h=>nomatch (show none=some o from h)⟩
  |m+1=>GF (Zm8 m) N Tryz.func84 (GC (Zag N) (GC (Zq1 N) (GC (Zr3 N m) (GC (Zdx N) Wg)))) (λd=>Z3z N m d.1 d.2.1 d.2.2.1 d.2.2.2.1)
theorem Z30(N:Nat):GW 84 (Zs3 N):=Zr3 N N
def Zl2(N:Nat):Sig:=Sig.of [.box Jm,.v Jp false] [.v (.prod (.own Jz) (.own Jc)) true] (λd=>Zea N d.1 d.2.1)
def Zl3:Fn:=⟨Tryz.f40,λ |7=>[.canon [0,4,7,8,38]]|8=>[.canon [0,4,7,8]]|9=>[.canon [0,4,7,8]]|100007=>[.adoptC 7 1 Jc,.canon [0,4,7,8]]|_=>[],Zl2,λN=>[(61,Z9 N),(84,Zs3 N)]⟩
def Zwr(iH:Int)(aX:List Int×Int×Int)(aY:List Ka)(aL:List Kz):St:=⟨[(0,vP 0 0),(4,vP 1 0),(7,vP 2 0),(8,vI iH)],[(0,.box [.val Jy aX.1,.val Ja aX.2.1,.val Ja aX.2.2]),(1,.box [.nils,.nils]),(2,.box [.own 3,.own 4]),(3,.arr Jz aY),(4,.arr Jc aL)],5⟩
def Zup(aY:List Ka)(tf:Int)(cR:Bool)(db:List Int×Int×Int)(c8:List Kz):St:=⟨[(0,vP 0 0),(4,vP 1 0),(7,vP 2 0),(8,vI tf),(38,vB cR)],[(0,.box [.val Jy db.1,.val Ja db.2.1,.val Ja db.2.2]),(1,.box [.nils,.nils]),(2,.box [.own 3,.own 4]),(3,.arr Jz aY),(4,.arr Jc c8)],5⟩
theorem Zws(N:Nat){R:Type}(K:Ex->St->Option R){aY:List Ka}{K0:Int->Bool->Kg->(List Kz)->Option R}(h0:K0= λtf cR db c8=>K (.exit 0) (Zup aY tf cR db c8))(n:Nat)(iH:Int)(aX:List Int×Int×Int)(aL:List Kz):Zf2 N aY K0 n iH aX aL=LM Zl3 N 0 100007 n (Zwr iH aX aY aL) K:=by
  subst h0
  induction n generalizing iH aX aL with
  |zero=>kernel_rfl
  |succ n ih=>rw[Zf2];simp only[ih];kernel_rfl
theorem Z2t(N:Nat)(c1:List Int×Int×Int)(fK:Bool):DN Zl3 N (c1,fK,())=Zea N c1 fK:=by
  conv=>rhs;rw[Zea];simp(disch:=exact id (by kernel_rfl)) only[Zws (R:=Kt×(Kn×Unit)) N (CF Zl3 N [1,1,1,1,1,0,1,0])]
  kernel_rfl
theorem Zr4(N:Nat):GW 40 (Zl2 N):=GF Zl3 N Tryz.func40 (GC (Zag N) (GC (Z30 N) Wg)) (λd=>Z2t N d.1 d.2.1)
def Zn9(N:Nat):Sig:=Sig.of [.box Jm,.v Ja false,.v Ja false] [.v (.own Jl) false] (λd=>Zgn N d.1 d.2.1 d.2.2.1)
def Zkr:Fn:=⟨Tryz.f109,λ |4=>[.canon [0,1,2,7,8,9,14]]|5=>[.canon [0,1,2,7,8,9]]|6=>[.canon [0,1,2,7,8,9,18]]|7=>[.canon [0,1,2,7,8,9]]|8=>[.canon [0,1,2,7,8,9,10]]|9=>[.canon [0,1,2,7,8,9,10,25]]|10=>[.canon [0,1,2,7,8,9,10]]|11=>[.canon [0,1,2,7,8,9,10]]|12=>[.canon [0,1,2,7,8,9,10,31]]|13=>[.canon [0,1,2,7,8,9,10]]|14=>[.canon [0,1,2,7,8,9,10,35]]|15=>[.canon [0,1,2,7,8,9,10]]|16=>[.canon [0,1,2,7,8,9]]|100004=>[.canon [0,1,2,7,8,9]]|_=>[],Zn9,λN=>[(41,Zb7 N),(61,Z9 N)]⟩
def Zuq(n4:Int)(aF:Int)(bM:Int)(i7:Int)(b8:List Int×Int×Int)(l9:List Kb):St:=⟨[(0,vP 0 0),(1,vI n4),(2,vI aF),(7,vO 1),(8,vI bM),(9,vI i7)],[(0,.box [.val Jy b8.1,.val Ja b8.2.1,.val Ja b8.2.2]),(1,.arr Jl l9)],2⟩
def Zs4(n4:Int)(aF:Int)(kF:Int)(v8:Int)(oc:Bool)(fw:List Int×Int×Int)(fH:List Kb):St:=⟨[(0,vP 0 0),(1,vI n4),(2,vI aF),(7,vO 1),(8,vI kF),(9,vI v8),(14,vB oc)],[(0,.box [.val Jy fw.1,.val Ja fw.2.1,.val Ja fw.2.2]),(1,.arr Jl fH)],2⟩
theorem Zur(N:Nat){R:Type}(K:Ex->St->Option R){n4:Int}{aF:Int}{K0:Int->Int->Bool->Kg->Ks->Option R}(h0:K0= λkF v8 oc fw fH=>K (.exit 0) (Zs4 n4 aF kF v8 oc fw fH))(n:Nat)(bM:Int)(i7:Int)(b8:List Int×Int×Int)(l9:List Kb):Zz N n4 aF K0 n bM i7 b8 l9=LM Zkr N 0 100004 n (Zuq n4 aF bM i7 b8 l9) K:=by
  subst h0
  induction n generalizing bM i7 b8 l9 with
  |zero=>kernel_rfl
  |succ n ih=>rw[Zz];simp only[ih];kernel_rfl
theorem Z08(N:Nat)(c1:List Int×Int×Int)(n2:Int)(cW:Int):DN Zkr N (c1,n2,cW,())=Zgn N c1 n2 cW:=by
  conv=>rhs;rw[Zgn];simp(disch:=exact id (by kernel_rfl)) only[Zur (R:=Kt×Kad) N (CF Zkr N [1,1,1,0,1,0])]
  kernel_rfl
theorem Z09(N:Nat):GW 109 (Zn9 N):=GF Zkr N Tryz.func109 (GC (Zdx N) (GC (Zag N) Wg)) (λd=>Z08 N d.1 d.2.1 d.2.2.1)
def Zmo(N:Nat):Sig:=Sig.of [.box Jm,.v Ja false,.v Ja false] [.v (.prod (.prod Jae Jq) (.prod (.own Jk) (.own Jl))) true] (λd=>Zgo N d.1 d.2.1 d.2.2.1)
def Zje:Fn:=⟨Tryz.f60,λ |4=>[.canon [0,1,2,6,7,8,9,18]]|5=>[.canon [0,1,2,6,7,8,9]]|6=>[.canon [0,1,2,6,7,8,9]]|100004=>[.adoptC 7 3 Jk,.canon [0,1,2,6,7,8,9]]|_=>[],Zmo,λN=>[(44,Zjv N),(61,Z9 N),(40,Zl2 N),(41,Zb7 N),(109,Zn9 N)]⟩
def Zsa(dF:Int)(bt:Int)(n8:Int)(i9:Int)(au:List Int×Int×Int)(bw:Int)(aL:List Int)(aR:List Int)(bg:List Kn):St:=⟨[(0,vP 0 0),(1,vI dF),(2,vI bt),(6,vP 1 0),(7,vP 2 0),(8,vI n8),(9,vI i9)],[(0,.box [.val Jy au.1,.val Ja au.2.1,.val Ja au.2.2]),(1,.box [.nils,.nils,.val Ja (0:Int),.nils,.nils]),(2,.box [.own 3,.own 4,.val Ja bw,.own 5,.nils]),(3,.arr Ja aL),(4,.arr Ja aR),(5,.arr Jk bg)],6⟩
def Zrk(dF:Int)(bt:Int)(n8:Int)(bw:Int)(aL:List Int)(aR:List Int)(wa:Int)(t25:Bool)(eT:List Int×Int×Int)(cA:List Kn):St:=⟨[(0,vP 0 0),(1,vI dF),(2,vI bt),(6,vP 1 0),(7,vP 2 0),(8,vI n8),(9,vI wa),(18,vB t25)],[(0,.box [.val Jy eT.1,.val Ja eT.2.1,.val Ja eT.2.2]),(1,.box [.nils,.nils,.val Ja (0:Int),.nils,.nils]),(2,.box [.own 3,.own 4,.val Ja bw,.own 5,.nils]),(3,.arr Ja aL),(4,.arr Ja aR),(5,.arr Jk cA)],6⟩
theorem Zsb(N:Nat){R:Type}(K:Ex->St->Option R){dF:Int}{bt:Int}{n8:Int}{bw:Int}{aL:List Int}{aR:List Int}{K0:Int->Bool->Kg->(List Kn)->Option R}(h0:K0= λwa t25 eT cA=>K (.exit 0) (Zrk dF bt n8 bw aL aR wa t25 eT cA))(n:Nat)(i9:Int)(au:List Int×Int×Int)(bg:List Kn):Zbo N dF bt n8 bw aL aR K0 n i9 au bg=LM Zje N 0 100004 n (Zsa dF bt n8 i9 au bw aL aR bg) K:=by
  subst h0
  induction n generalizing i9 au bg with
  |zero=>kernel_rfl
  |succ n ih=>rw[Zbo];simp only[ih];kernel_rfl
theorem Zyu(N:Nat)(c1:List Int×Int×Int)(mb:Int)(cW:Int):DN Zje N (c1,mb,cW,())=Zgo N c1 mb cW:=by
  conv=>rhs;rw[Zgo];simp(disch:=exact id (by kernel_rfl)) only[Zsb (R:=Kt×(Kaa×Unit)) N (CF Zje N [1,1,1,0,1,0])]
  kernel_rfl
theorem Zyv(N:Nat):GW 60 (Zmo N):=GF Zje N Tryz.func60 (GC (Zql N) (GC (Zag N) (GC (Zr4 N) (GC (Zdx N) (GC (Z09 N) Wg))))) (λd=>Zyu N d.1 d.2.1 d.2.2.1)
def Zks(N:Nat):Sig:=Sig.of [.box Jm] [.v (.prod Jae Jq) true] (λd=>Zi7 N d.1)
def Zus:Fn:=⟨Tryz.f45,WG,Zks,λN=>[(44,Zjv N),(61,Z9 N)]⟩
theorem Zut(N:Nat):GW 45 (Zks N):=GF Zus N Tryz.func45 (GC (Zql N) (GC (Zag N) Wg))
def Zpq(N:Nat):Sig:=Sig.of [.box Jm] [.v Jz true] (λd=>Zot N d.1)
def Z31:Fn:=⟨Tryz.f145,WG,Zpq,λN=>[(61,Z9 N),(144,Zkq N),(146,Zha N)]⟩
theorem Z32(N:Nat):GW 145 (Zpq N):=GF Z31 N Tryz.func145 (GC (Zag N) (GC (Zq1 N) (GC (Zml N) Wg)))
def Zoz(N:Nat):Sig:=Sig.of [.box Jm,.v Jc false] [.v (.own Jz) false] (λd=>Zhm N d.1 d.2.1)
def Zl4:Fn:=⟨Tryz.f85,λ |12=>[.view 49,.view 45]|14=>[.canon [0,5,58]]|15=>[.canon [0,5]]|100014=>[.canon [0,5]]|_=>[],Zoz,λN=>[(61,Z9 N),(145,Zpq N)]⟩
def Zwt(b6:List Int×Int×Int)(l7:List Ka):St:=⟨[(0,vP 0 0),(5,vO 1)],[(0,.box [.val Jy b6.1,.val Ja b6.2.1,.val Ja b6.2.2]),(1,.arr Jz l7)],2⟩
def Zuu(t9:Bool)(au:List Int×Int×Int)(am:List Ka):St:=⟨[(0,vP 0 0),(5,vO 1),(58,vB t9)],[(0,.box [.val Jy au.1,.val Ja au.2.1,.val Ja au.2.2]),(1,.arr Jz am)],2⟩
theorem Zwu(N:Nat){R:Type}(K:Ex->St->Option R){K0:Bool->Kg->Kz->Option R}(h0:K0= λt9 au am=>K (.exit 1) (Zuu t9 au am))(n:Nat)(b6:List Int×Int×Int)(l7:List Ka):Zf3 N K0 n b6 l7=LM Zl4 N 0 100014 n (Zwt b6 l7) K:=by
  subst h0
  induction n generalizing b6 l7 with
  |zero=>kernel_rfl
  |succ n ih=>rw[Zf3];simp only[ih];kernel_rfl
theorem Z2u(N:Nat)(c1:List Int×Int×Int)(aa:List Ka):DN Zl4 N (c1,aa,())=Zhm N c1 aa:=by
  conv=>rhs;rw[Zhm];simp(disch:=exact id (by kernel_rfl)) only[Zwu (R:=Kt×(Kz×Unit)) N (CF Zl4 N [1,1,1,1,0,1,0,1,1,1,1,1,1,1,0,0])]
  kernel_rfl
theorem Z2v(N:Nat):GW 85 (Zoz N):=GF Zl4 N Tryz.func85 (GC (Zag N) (GC (Z32 N) Wg)) (λd=>Z2u N d.1 d.2.1)
def Zmp(N:Nat):Sig:=Sig.of [.box Jm] [.v (.prod (.own Jz) (.own Jc)) true] (λd=>Zkn N d.1)
def Zyw:Fn:=⟨Tryz.f42,WG,Zmp,λN=>[(41,Zb7 N),(40,Zl2 N),(61,Z9 N),(85,Zoz N)]⟩
theorem Zyx(N:Nat):GW 42 (Zmp N):=GF Zyw N Tryz.func42 (GC (Zdx N) (GC (Zr4 N) (GC (Zag N) (GC (Z2v N) Wg))))
def Zo0(N:Nat):Sig:=Sig.of [.box Jm,.v Ja false] [.v (.prod (.prod Jae Jq) (.prod (.own Jk) (.own Jl))) true] (λd=>Zix N d.1 d.2.1)
def Zhh:Fn:=⟨Tryz.f25,λ |8=>[.canon [0,4,5,28]]|9=>[.canon [0,4,5]]|13=>[.canon [0,4,5,55]]|14=>[.canon [0,4,5]]|100008=>[.canon [0,4,5]]|100013=>[.canon [0,4,5]]|_=>[],Zo0,λN=>[(60,Zmo N),(61,Z9 N),(45,Zks N),(42,Zmp N)]⟩
def Zwv(b7:List Int×Int×Int)(b9:Int)(eB:List Int)(am:List Int)(aY:List Kn)(aL:List Kb):St:=⟨[(0,vP 0 0),(4,vP 1 0),(5,vP 2 0)],[(0,.box [.val Jy b7.1,.val Ja b7.2.1,.val Ja b7.2.2]),(1,.box [.nils,.nils,.val Ja (0:Int),.nils,.nils]),(2,.box [.own 3,.own 4,.val Ja b9,.own 5,.own 6]),(3,.arr Ja eB),(4,.arr Ja am),(5,.arr Jk aY),(6,.arr Jl aL)],7⟩
def Zuv(b7:List Int×Int×Int)(b9:Int)(eB:List Int)(am:List Int)(aL:List Kb)(dE:Bool)(bg:List Kn):St:=⟨[(0,vP 0 0),(4,vP 1 0),(5,vP 2 0),(28,vB dE)],[(0,.box [.val Jy b7.1,.val Ja b7.2.1,.val Ja b7.2.2]),(1,.box [.nils,.nils,.val Ja (0:Int),.nils,.nils]),(2,.box [.own 3,.own 4,.val Ja b9,.own 5,.own 6]),(3,.arr Ja eB),(4,.arr Ja am),(5,.arr Jk bg),(6,.arr Jl aL)],7⟩
theorem Zww(N:Nat){R:Type}(K:Ex->St->Option R){b7:List Int×Int×Int}{b9:Int}{eB:List Int}{am:List Int}{aL:List Kb}{K0:Bool->(List Kn)->Option R}(h0:K0= λdE bg=>K (.exit 1) (Zuv b7 b9 eB am aL dE bg))(n:Nat)(aY:List Kn):Zf4 N b7 b9 eB am aL K0 n aY=LM Zhh N 0 100008 n (Zwv b7 b9 eB am aY aL) K:=by
  subst h0
  induction n generalizing aY with
  |zero=>kernel_rfl
  |succ n ih=>rw[Zf4];simp only[ih];kernel_rfl
def Zwx(db:List Int×Int×Int)(dz:Int)(cG:List Int)(bY:List Int)(cJ:List Kn)(cK:List Kb):St:=⟨[(0,vP 0 0),(4,vP 1 0),(5,vP 2 0)],[(0,.box [.val Jy db.1,.val Ja db.2.1,.val Ja db.2.2]),(1,.box [.nils,.nils,.val Ja (0:Int),.nils,.nils]),(2,.box [.own 3,.own 4,.val Ja dz,.own 5,.own 6]),(3,.arr Ja cG),(4,.arr Ja bY),(5,.arr Jk cJ),(6,.arr Jl cK)],7⟩
def Zuw(dz:Int)(cG:List Int)(bY:List Int)(cJ:List Kn)(sX:Bool)(fy:List Int×Int×Int)(sZ:List Kb):St:=⟨[(0,vP 0 0),(4,vP 1 0),(5,vP 2 0),(55,vB sX)],[(0,.box [.val Jy fy.1,.val Ja fy.2.1,.val Ja fy.2.2]),(1,.box [.nils,.nils,.val Ja (0:Int),.nils,.nils]),(2,.box [.own 3,.own 4,.val Ja dz,.own 5,.own 6]),(3,.arr Ja cG),(4,.arr Ja bY),(5,.arr Jk cJ),(6,.arr Jl sZ)],7⟩
theorem Zwy(N:Nat){R:Type}(K:Ex->St->Option R){dz:Int}{cG:List Int}{bY:List Int}{cJ:List Kn}{K0:Bool->Kg->Ks->Option R}(h0:K0= λsX fy sZ=>K (.exit 3) (Zuw dz cG bY cJ sX fy sZ))(n:Nat)(db:List Int×Int×Int)(cK:List Kb):Zf5 N dz cG bY cJ K0 n db cK=LM Zhh N 1 100013 n (Zwx db dz cG bY cJ cK) K:=by
  subst h0
  induction n generalizing db cK with
  |zero=>kernel_rfl
  |succ n ih=>rw[Zf5];simp only[ih];kernel_rfl
theorem Z2w(N:Nat)(c1:List Int×Int×Int)(bR:Int):DN Zhh N (c1,bR,())=Zix N c1 bR:=by
  conv=>rhs;rw[Zix];simp(disch:=exact id (by kernel_rfl)) only[Zww (R:=Kt×(Kaa×Unit)) N (CF Zhh N [1,1,0,1,0,1,1,1,1,1,0,0]),Zwy (R:=Kt×(Kaa×Unit)) N (CF Zhh N [1,1,0,1,0,1,1,1,1,1,1,1,1,1,0,0])]
  kernel_rfl
theorem Z2x(N:Nat):GW 25 (Zo0 N):=GF Zhh N Tryz.func25 (GC (Zyv N) (GC (Zag N) (GC (Zut N) (GC (Zyx N) Wg)))) (λd=>Z2w N d.1 d.2.1)
def Zmq(N:Nat):Sig:=Sig.of [.v Jy false] [.v Jr true] (λd=>Zkp N d.1)
def Zyy:Fn:=⟨Tryz.f7,WG,Zmq,λN=>[(24,Zpp N),(26,Zow N),(25,Zo0 N)]⟩
theorem Zyz(N:Nat):GW 7 (Zmq N):=GF Zyy N Tryz.func7 (GC (Z3y N) (GC (Z2o N) (GC (Z2x N) Wg)))
def Zhp(N:Nat):Sig:=Sig.of [.v Ja false,.v Ja false,.v Ja false] [.v Jp false] (λd=>Zcj N d.1 d.2.1 d.2.2.1)
def Z4r:Fn:=⟨Tryz.f51,WG,Zhp,Wbk⟩
theorem Zlj(N:Nat):GW 51 (Zhp N):=GF Z4r N Tryz.func51 Wg
def Zkc(N:Nat):Sig:=Sig.of [.v Ja false] [.v Jp false] (λd=>Zh8 N d.1)
def Z33:Fn:=⟨Tryz.f50,WG,Zkc,λN=>[(51,Zhp N)]⟩
theorem Zpr(N:Nat):GW 50 (Zkc N):=GF Z33 N Tryz.func50 (GC (Zlj N) Wg)
def Zo1(N:Nat):Sig:=Sig.of [.v Jj false] [.v Jp false] (λd=>Ziu N d.1)
def Zl5:Fn:=⟨Tryz.f49,λ |4=>[.canon [0,3,10]]|5=>[.canon [0,3]]|6=>[.canon [0,3,18]]|7=>[.canon [2]]|100004=>[.canon [0,3]]|_=>[],Zo1,λN=>[(50,Zkc N)]⟩
def Zwz(l2:List Int)(i3:Int):St:=⟨[(0,vV Jj l2),(3,vI i3)],[],0⟩
def Zux(l2:List Int):St:=⟨[(2,vB false)],[],0⟩
def Zuy(l2:List Int)(i5:Int)(t6:Bool):St:=⟨[(0,vV Jj l2),(3,vI i5),(10,vB t6)],[],0⟩
theorem Zw0(N:Nat){R:Type}(K:Ex->St->Option R){l2:List Int}{K0:Option R}{K1:Int->Bool->Option R}(h0:K0=K .ret (Zux l2))(h1:K1= λi5 t6=>K (.exit 0) (Zuy l2 i5 t6))(n:Nat)(i3:Int):Zdk N l2 K0 K1 n i3=LM Zl5 N 0 100004 n (Zwz l2 i3) K:=by
  subst h0 h1
  induction n generalizing i3 with
  |zero=>kernel_rfl
  |succ n ih=>rw[Zdk];simp only[ih];kernel_rfl
theorem Z2y(N:Nat)(l1:List Int):DN Zl5 N (l1,())=Ziu N l1:=by
  conv=>rhs;rw[Ziu];simp(disch:=exact id (by kernel_rfl)) only[Zw0 (R:=Unit×Kq) N (CF Zl5 N [1,1,0,1,0])]
  kernel_rfl
theorem Z2z(N:Nat):GW 49 (Zo1 N):=GF Zl5 N Tryz.func49 (GC (Zpr N) Wg) (λd=>Z2y N d.1)
def Znm(N:Nat):Sig:=Sig.of [.v (.prod Jj Jah) true] [.v Jp false] (λd=>Zhe N d.1)
def Zjx:Fn:=⟨Tryz.f17,λ |4=>[.canon [1,3,24]]|5=>[.canon [1,3]]|6=>[.canon [1,3,33]]|7=>[.canon [2]]|100004=>[.canon [1,3]]|_=>[],Znm,λN=>[(49,Zo1 N),(50,Zkc N),(51,Zhp N)]⟩
def Zs5(i4:Int)(b5:List Int×List Int×Int):St:=⟨[(1,vP 0 0),(3,vI i4)],[(0,.box [.val Jj b5.1,.val Jj b5.2.1,.val Ja b5.2.2])],1⟩
def Zsc(b5:List Int×List Int×Int):St:=⟨[(2,vB false)],[],0⟩
def Zsd(b5:List Int×List Int×Int)(i7:Int)(t8:Bool):St:=⟨[(1,vP 0 0),(3,vI i7),(24,vB t8)],[(0,.box [.val Jj b5.1,.val Jj b5.2.1,.val Ja b5.2.2])],1⟩
theorem Zs6(N:Nat){R:Type}(K:Ex->St->Option R){b5:List Int×List Int×Int}{K0:Option R}{K1:Int->Bool->Option R}(h0:K0=K .ret (Zsc b5))(h1:K1= λi7 t8=>K (.exit 0) (Zsd b5 i7 t8))(n:Nat)(i4:Int):Zbw N b5 K0 K1 n i4=LM Zjx N 0 100004 n (Zs5 i4 b5) K:=by
  subst h0 h1
  induction n generalizing i4 with
  |zero=>kernel_rfl
  |succ n ih=>rw[Zbw];simp only[ih];kernel_rfl
theorem Zz9(N:Nat)(s1:List Int×List Int×Int):DN Zjx N (s1,())=Zhe N s1:=by
  conv=>rhs;rw[Zhe];simp(disch:=exact id (by kernel_rfl)) only[Zs6 (R:=Unit×Kq) N (CF Zjx N [1,1,0,1,0])]
  kernel_rfl
theorem Z0a(N:Nat):GW 17 (Znm N):=GF Zjx N Tryz.func17 (GC (Z2z N) (GC (Zpr N) (GC (Zlj N) Wg))) (λd=>Zz9 N d.1)
def Zps(N:Nat):Sig:=Sig.of [.v Ja false] [.v Jp false] (λd=>Zb3 N d.1)
def Z34:Fn:=⟨Tryz.f147,WG,Zps,λN=>[(51,Zhp N)]⟩
theorem Z35(N:Nat):GW 147 (Zps N):=GF Z34 N Tryz.func147 (GC (Zlj N) Wg)
def Zo2(N:Nat):Sig:=Sig.of [.v Ja false] [.v Jp false] (λd=>Ziv N d.1)
def Z20:Fn:=⟨Tryz.f148,WG,Zo2,λN=>[(51,Zhp N)]⟩
theorem Z21(N:Nat):GW 148 (Zo2 N):=GF Z20 N Tryz.func148 (GC (Zlj N) Wg)
def Zn0(N:Nat):Sig:=Sig.of [.v Jz true] [.v Jp false] (λd=>Zln N d.1)
def Z4s:Fn:=⟨Tryz.f88,WG,Zn0,λN=>[(147,Zps N),(50,Zkc N),(148,Zo2 N),(51,Zhp N)]⟩
theorem Zwj(N:Nat):GW 88 (Zn0 N):=GF Z4s N Tryz.func88 (GC (Z35 N) (GC (Zpr N) (GC (Z21 N) (GC (Zlj N) Wg))))
def Zo3(N:Nat):Sig:=Sig.of [.v Jc false,.v Ja false] [.v Jp false] (λd=>Ziw N d.1 d.2.1)
def Zl6:Fn:=⟨Tryz.f89,λ |6=>[.canon [0,5,6,7,24]]|7=>[.canon [0,5,6,7]]|8=>[.canon [0,5,6,7,32]]|9=>[.canon [0,5,6,7]]|10=>[.canon [0,5,6,7,40]]|11=>[.canon [0,5,6,7]]|12=>[.canon [0,5,6,7,44]]|13=>[.canon [4]]|100006=>[.canon [0,5,6,7]]|_=>[],Zo3,Wbk⟩
def Zw1(ad:List Ka)(gB:Int)(d5:Int)(k6:Int):St:=⟨[(0,vV Jc ad),(5,vI gB),(6,vI d5),(7,vI k6)],[],0⟩
def Zuz(ad:List Ka)(gB:Int):St:=⟨[(4,vB false)],[],0⟩
def Zu0(ad:List Ka)(gB:Int)(d7:Int)(k8:Int)(t9:Bool):St:=⟨[(0,vV Jc ad),(5,vI gB),(6,vI d7),(7,vI k8),(24,vB t9)],[],0⟩
theorem Zw2(N:Nat){R:Type}(K:Ex->St->Option R){ad:List Ka}{gB:Int}{K0:Option R}{K1:Int->Int->Bool->Option R}(h0:K0=K .ret (Zuz ad gB))(h1:K1= λd7 k8 t9=>K (.exit 0) (Zu0 ad gB d7 k8 t9))(n:Nat)(d5:Int)(k6:Int):Za6 N ad gB K0 K1 n d5 k6=LM Zl6 N 0 100006 n (Zw1 ad gB d5 k6) K:=by
  subst h0 h1
  induction n generalizing d5 k6 with
  |zero=>kernel_rfl
  |succ n ih=>rw[Za6];simp only[ih];kernel_rfl
theorem Z22(N:Nat)(ac:List Ka)(i2:Int):DN Zl6 N (ac,i2,())=Ziw N ac i2:=by
  conv=>rhs;rw[Ziw];simp(disch:=exact id (by kernel_rfl)) only[Zw2 (R:=Unit×Kq) N (CF Zl6 N [1,1,1,1,0,1,0])]
  kernel_rfl
theorem Z23(N:Nat):GW 89 (Zo3 N):=GF Zl6 N Tryz.func89 Wg (λd=>Z22 N d.1 d.2.1)
def Zl7(N:Nat):Sig:=Sig.of [.v Jc false] [.v Jp false] (λd=>Zhk N d.1)
def Zl8:Fn:=⟨Tryz.f46,λ |6=>[.canon [0,3,4,5,12]]|7=>[.canon [0,3,4,5]]|8=>[.canon [0,3,4,5,20]]|9=>[.canon [2]]|10=>[.canon [0,3,4,5,25]]|11=>[.canon [0,3,4,5,25,26]]|12=>[.canon [0,3,4,5]]|13=>[.canon [0,3,4,5,25,30]]|14=>[.canon [0,3,4,5]]|15=>[.canon [0,3,4,5,25,34]]|16=>[.canon [0,3,4,5,39]]|17=>[.canon [2]]|18=>[.canon [0,3,4,5,40]]|19=>[.canon [0,3,4,5]]|20=>[.canon [0,3,4,5,49]]|21=>[.canon [2]]|22=>[.canon [0,3,4,5,51]]|23=>[.canon [2]]|100006=>[.canon [0,3,4,5]]|_=>[],Zl7,λN=>[(88,Zn0 N),(89,Zo3 N)]⟩
def Zw3(aa:List Ka)(d3:Int)(aA:Int)(i5:Int):St:=⟨[(0,vV Jc aa),(3,vI d3),(4,vI aA),(5,vI i5)],[],0⟩
def Zu1(aa:List Ka):St:=⟨[(2,vB false)],[],0⟩
def Zu2(aa:List Ka)(d8:Int)(ii:Int)(iF:Int)(aq:Bool):St:=⟨[(0,vV Jc aa),(3,vI d8),(4,vI ii),(5,vI iF),(12,vB aq)],[],0⟩
theorem Zw4(N:Nat){R:Type}(K:Ex->St->Option R){aa:List Ka}{K0:Option R}{K1:Int->Int->Int->Bool->Option R}(h0:K0=K .ret (Zu1 aa))(h1:K1= λd8 ii iF aq=>K (.exit 0) (Zu2 aa d8 ii iF aq))(n:Nat)(d3:Int)(aA:Int)(i5:Int):Za7 N aa K0 K1 n d3 aA i5=LM Zl8 N 0 100006 n (Zw3 aa d3 aA i5) K:=by
  subst h0 h1
  induction n generalizing d3 aA i5 with
  |zero=>kernel_rfl
  |succ n ih=>rw[Za7];simp only[ih];kernel_rfl
theorem Z24(N:Nat)(ac:List Ka):DN Zl8 N (ac,())=Zhk N ac:=by
  conv=>rhs;rw[Zhk];simp(disch:=exact id (by kernel_rfl)) only[Zw4 (R:=Unit×Kq) N (CF Zl8 N [1,1,1,1,0,1,0])]
  kernel_rfl
theorem Zr5(N:Nat):GW 46 (Zl7 N):=GF Zl8 N Tryz.func46 (GC (Zwj N) (GC (Z23 N) Wg)) (λd=>Z24 N d.1)
def Zkt(N:Nat):Sig:=Sig.of [.v Jc false] [.v Jp false] (λd=>Zgl N d.1)
def Zku:Fn:=⟨Tryz.f47,λ |2=>[.canon [0,3,7]]|3=>[.canon [0,3]]|4=>[.canon [0,3,15]]|5=>[.canon [2]]|100002=>[.canon [0,3]]|_=>[],Zkt,Wbk⟩
def Zu3(aa:List Ka)(i3:Int):St:=⟨[(0,vV Jc aa),(3,vI i3)],[],0⟩
def Zs7(aa:List Ka):St:=⟨[(2,vB true)],[],0⟩
def Zs8(aa:List Ka)(i4:Int)(t5:Bool):St:=⟨[(0,vV Jc aa),(3,vI i4),(7,vB t5)],[],0⟩
theorem Zu4(N:Nat){R:Type}(K:Ex->St->Option R){aa:List Ka}{K0:Option R}{K1:Int->Bool->Option R}(h0:K0=K .ret (Zs7 aa))(h1:K1= λi4 t5=>K (.exit 0) (Zs8 aa i4 t5))(n:Nat)(i3:Int):Zcy N aa K0 K1 n i3=LM Zku N 0 100002 n (Zu3 aa i3) K:=by
  subst h0 h1
  induction n generalizing i3 with
  |zero=>kernel_rfl
  |succ n ih=>rw[Zcy];simp only[ih];kernel_rfl
theorem Z1a(N:Nat)(ac:List Ka):DN Zku N (ac,())=Zgl N ac:=by
  conv=>rhs;rw[Zgl];simp(disch:=exact id (by kernel_rfl)) only[Zu4 (R:=Unit×Kq) N (CF Zku N [1,0,1,0])]
  kernel_rfl
theorem Zq2(N:Nat):GW 47 (Zkt N):=GF Zku N Tryz.func47 Wg (λd=>Z1a N d.1)
def Zoa(N:Nat):Sig:=Sig.of [.v Jz true] [.v Ja false] (λd=>Zck N d.1)
def Z1b:Fn:=⟨Tryz.f90,WG,Zoa,λN=>[(88,Zn0 N)]⟩
theorem Z1c(N:Nat):GW 90 (Zoa N):=GF Z1b N Tryz.func90 (GC (Zwj N) Wg)
def Zpt(N:Nat):Sig:=Sig.of [.v Jc false] [.v Jp false] (λd=>Zh9 N d.1)
def Zm9:Fn:=⟨Tryz.f48,λ |4=>[.canon [0,3,14]]|5=>[.canon [0,3]]|6=>[.canon [0,3,22]]|7=>[.canon [2]]|100004=>[.canon [0,3]]|_=>[],Zpt,λN=>[(46,Zl7 N),(47,Zkt N),(90,Zoa N)]⟩
def Zy0(aD:List Ka)(i5:Int):St:=⟨[(0,vV Jc aD),(3,vI i5)],[],0⟩
def Zw5(aD:List Ka):St:=⟨[(2,vB false)],[],0⟩
def Zw6(aD:List Ka)(i7:Int)(t8:Bool):St:=⟨[(0,vV Jc aD),(3,vI i7),(14,vB t8)],[],0⟩
theorem Zy1(N:Nat){R:Type}(K:Ex->St->Option R){aD:List Ka}{K0:Option R}{K1:Int->Bool->Option R}(h0:K0=K .ret (Zw5 aD))(h1:K1= λi7 t8=>K (.exit 0) (Zw6 aD i7 t8))(n:Nat)(i5:Int):Zel N aD K0 K1 n i5=LM Zm9 N 0 100004 n (Zy0 aD i5) K:=by
  subst h0 h1
  induction n generalizing i5 with
  |zero=>kernel_rfl
  |succ n ih=>rw[Zel];simp only[ih];kernel_rfl
theorem Z36(N:Nat)(ac:List Ka):DN Zm9 N (ac,())=Zh9 N ac:=by
  conv=>rhs;rw[Zh9];simp(disch:=exact id (by kernel_rfl)) only[Zy1 (R:=Unit×Kq) N (CF Zm9 N [1,1,0,1,0])]
  kernel_rfl
theorem Z37(N:Nat):GW 48 (Zpt N):=GF Zm9 N Tryz.func48 (GC (Zr5 N) (GC (Zq2 N) (GC (Z1c N) Wg))) (λd=>Z36 N d.1)
def Zo4(N:Nat):Sig:=Sig.of [.v Jk true] [.v Jp false] (λd=>Zhn N d.1)
def Zl9:Fn:=⟨Tryz.f16,λ |4=>[.canon [1,3,28]]|5=>[.canon [1,3]]|6=>[.canon [1,3,38]]|7=>[.canon [2]]|100004=>[.canon [1,3]]|_=>[],Zo4,λN=>[(46,Zl7 N),(47,Zkt N),(48,Zpt N)]⟩
def Zw7(i4:Int)(b5:List Ka×List Kz):St:=⟨[(1,vP 0 0),(3,vI i4)],[(0,.box [.val Jc b5.1,.val (.slice Jc) b5.2])],1⟩
def Zu5(b5:List Ka×List Kz):St:=⟨[(2,vB false)],[],0⟩
def Zu6(b5:List Ka×List Kz)(i7:Int)(t8:Bool):St:=⟨[(1,vP 0 0),(3,vI i7),(28,vB t8)],[(0,.box [.val Jc b5.1,.val (.slice Jc) b5.2])],1⟩
theorem Zw8(N:Nat){R:Type}(K:Ex->St->Option R){b5:List Ka×List Kz}{K0:Option R}{K1:Int->Bool->Option R}(h0:K0=K .ret (Zu5 b5))(h1:K1= λi7 t8=>K (.exit 0) (Zu6 b5 i7 t8))(n:Nat)(i4:Int):Zcm N b5 K0 K1 n i4=LM Zl9 N 0 100004 n (Zw7 i4 b5) K:=by
  subst h0 h1
  induction n generalizing i4 with
  |zero=>kernel_rfl
  |succ n ih=>rw[Zcm];simp only[ih];kernel_rfl
theorem Z25(N:Nat)(p1:List Ka×List Kz):DN Zl9 N (p1,())=Zhn N p1:=by
  conv=>rhs;rw[Zhn];simp(disch:=exact id (by kernel_rfl)) only[Zw8 (R:=Unit×Kq) N (CF Zl9 N [1,1,0,1,0])]
  kernel_rfl
theorem Z26(N:Nat):GW 16 (Zo4 N):=GF Zl9 N Tryz.func16 (GC (Zr5 N) (GC (Zq2 N) (GC (Z37 N) Wg))) (λd=>Z25 N d.1)
def Znn(N:Nat):Sig:=Sig.of [.v Jr true] [.v Jp false] (λd=>Zhf N d.1)
def Zjy:Fn:=⟨Tryz.f8,λ |4=>[.canon [1,3,24]]|5=>[.canon [1,3]]|6=>[.canon [1,3,33]]|7=>[.canon [2]]|100004=>[.canon [1,3]]|_=>[],Znn,λN=>[(17,Znm N),(16,Zo4 N)]⟩
def Zs9(i3:Int)(b4:Kf×List Kn×List Kb):St:=⟨[(1,vP 0 0),(3,vI i3)],[(0,.box [.val Jj b4.1.1,.val Jj b4.1.2.1,.val Ja b4.1.2.2,.val Jac b4.2.1,.val Jf b4.2.2])],1⟩
def Zse(b4:Kf×List Kn×List Kb):St:=⟨[(2,vB false)],[],0⟩
def Zsf(b4:Kf×List Kn×List Kb)(i6:Int)(t7:Bool):St:=⟨[(1,vP 0 0),(3,vI i6),(24,vB t7)],[(0,.box [.val Jj b4.1.1,.val Jj b4.1.2.1,.val Ja b4.1.2.2,.val Jac b4.2.1,.val Jf b4.2.2])],1⟩
theorem Zta(N:Nat){R:Type}(K:Ex->St->Option R){b4:Kf×List Kn×List Kb}{K0:Option R}{K1:Int->Bool->Option R}(h0:K0=K .ret (Zse b4))(h1:K1= λi6 t7=>K (.exit 0) (Zsf b4 i6 t7))(n:Nat)(i3:Int):Zbx N b4 K0 K1 n i3=LM Zjy N 0 100004 n (Zs9 i3 b4) K:=by
  subst h0 h1
  induction n generalizing i3 with
  |zero=>kernel_rfl
  |succ n ih=>rw[Zbx];simp only[ih];kernel_rfl
theorem Z0b(N:Nat)(s1:Kf×List Kn×List Kb):DN Zjy N (s1,())=Zhf N s1:=by
  conv=>rhs;rw[Zhf];simp(disch:=exact id (by kernel_rfl)) only[Zta (R:=Unit×Kq) N (CF Zjy N [1,1,0,1,0])]
  kernel_rfl
theorem Z0c(N:Nat):GW 8 (Znn N):=GF Zjy N Tryz.func8 (GC (Z0a N) (GC (Z26 N) Wg)) (λd=>Z0b N d.1)
def Zs(N:Nat):Sig:=Sig.of [.v Ja false,.v Ja false,.v Ja false] [.v Jp false] (λd=>Zi N d.1 d.2.1 d.2.2.1)
def Z27:Fn:=⟨Tryz.f68,WG,Zs,Wbk⟩
theorem Zy(N:Nat):GW 68 (Zs N):=GF Z27 N Tryz.func68 Wg
def Za4(N:Nat):Sig:=Sig.of [.v Ja false] [.v Jp false] (λd=>Zaz N d.1)
def Z1d:Fn:=⟨Tryz.f83,WG,Za4,λN=>[(68,Zs N)]⟩
theorem Zbv(N:Nat):GW 83 (Za4 N):=GF Z1d N Tryz.func83 (GC (Zy N) Wg)
def Zbs(N:Nat):Sig:=Sig.of [.v Jj false,.v Ja false] [.v Jp false] (λd=>Zad N d.1 d.2.1)
def Zjf:Fn:=⟨Tryz.f36,λ |2=>[.canon [0,1,7,8,9,10]]|3=>[.canon [0,1,6,7,8,9]]|4=>[.canon [0,1,7,8,9,15]]|5=>[.canon [4]]|6=>[.canon [0,1,7,8,9]]|100002=>[.canon [0,1,7,8,9]]|_=>[],Zbs,λN=>[(83,Za4 N)]⟩
def Zsg(l3:List Int)(n4:Int)(t7:Int):St:=⟨[(0,vV Jj l3),(1,vI n4),(7,vV Jj l3),(8,vI (Wj l3)),(9,vI t7)],[],0⟩
def Zrl(l3:List Int)(n4:Int):St:=⟨[(4,vB false)],[],0⟩
def Zrm(l3:List Int)(n4:Int)(ao:Int)(aq:Bool):St:=⟨[(0,vV Jj l3),(1,vI n4),(7,vV Jj l3),(8,vI (Wj l3)),(9,vI ao),(10,vB aq)],[],0⟩
theorem Zsh(N:Nat){R:Type}(K:Ex->St->Option R){l3:List Int}{n4:Int}{K0:Option R}{K1:Int->Bool->Option R}(h0:K0=K .ret (Zrl l3 n4))(h1:K1= λao aq=>K (.exit 0) (Zrm l3 n4 ao aq))(n:Nat)(t7:Int):Za2 N l3 n4 K0 K1 n t7=LM Zjf N 0 100002 n (Zsg l3 n4 t7) K:=by
  subst h0 h1
  induction n generalizing t7 with
  |zero=>kernel_rfl
  |succ n ih=>rw[Za2];simp only[ih];kernel_rfl
theorem Zy2(N:Nat)(l1:List Int)(n2:Int):DN Zjf N (l1,n2,())=Zad N l1 n2:=by
  conv=>rhs;rw[Zad];simp(disch:=exact id (by kernel_rfl)) only[Zsh (R:=Unit×Kq) N (CF Zjf N [1,0,1,0])]
  kernel_rfl
theorem Zc7(N:Nat):GW 36 (Zbs N):=GF Zjf N Tryz.func36 (GC (Zbv N) Wg) (λd=>Zy2 N d.1 d.2.1)
def Zna(N:Nat):Sig:=Sig.of [.v Jj false] [.v Jp false] (λd=>Zic N d.1)
def Znb:Fn:=⟨Tryz.f95,λ |2=>[.canon [0,5,6,7,8]]|3=>[.canon [0,4,5,6,7]]|4=>[.canon [0,5,6,7,13]]|5=>[.canon [2]]|6=>[.canon [0,5,6,7]]|100002=>[.canon [0,5,6,7]]|_=>[],Zna,λN=>[(68,Zs N)]⟩
def Zy3(l2:List Int)(t5:Int):St:=⟨[(0,vV Jj l2),(5,vV Jj l2),(6,vI (Wj l2)),(7,vI t5)],[],0⟩
def Zw9(l2:List Int):St:=⟨[(2,vB false)],[],0⟩
def Zxa(l2:List Int)(t8:Int)(t9:Bool):St:=⟨[(0,vV Jj l2),(5,vV Jj l2),(6,vI (Wj l2)),(7,vI t8),(8,vB t9)],[],0⟩
theorem Zy4(N:Nat){R:Type}(K:Ex->St->Option R){l2:List Int}{K0:Option R}{K1:Int->Bool->Option R}(h0:K0=K .ret (Zw9 l2))(h1:K1= λt8 t9=>K (.exit 0) (Zxa l2 t8 t9))(n:Nat)(t5:Int):Zeq N l2 K0 K1 n t5=LM Znb N 0 100002 n (Zy3 l2 t5) K:=by
  subst h0 h1
  induction n generalizing t5 with
  |zero=>kernel_rfl
  |succ n ih=>rw[Zeq];simp only[ih];kernel_rfl
theorem Z38(N:Nat)(l1:List Int):DN Znb N (l1,())=Zic N l1:=by
  conv=>rhs;rw[Zic];simp(disch:=exact id (by kernel_rfl)) only[Zy4 (R:=Unit×Kq) N (CF Znb N [1,0,1,0])]
  kernel_rfl
theorem Ztb(N:Nat):GW 95 (Zna N):=GF Znb N Tryz.func95 (GC (Zy N) Wg) (λd=>Z38 N d.1)
def Zno(N:Nat):Sig:=Sig.of [.v (.prod Jj Jah) true] [.v Jp false] (λd=>Zlz N d.1)
def Z0d:Fn:=⟨Tryz.f54,WG,Zno,λN=>[(36,Zbs N),(95,Zna N),(83,Za4 N)]⟩
theorem Z0e(N:Nat):GW 54 (Zno N):=GF Z0d N Tryz.func54 (GC (Zc7 N) (GC (Ztb N) (GC (Zbv N) Wg)))
def Zpu(N:Nat):Sig:=Sig.of [.v Ja false] [.v Jp false] (λd=>Zb4 N d.1)
def Z39:Fn:=⟨Tryz.f190,WG,Zpu,λN=>[(68,Zs N)]⟩
theorem Z4a(N:Nat):GW 190 (Zpu N):=GF Z39 N Tryz.func190 (GC (Zy N) Wg)
def Zb8(N:Nat):Sig:=Sig.of [.v Ja false] [.v Jp false] (λd=>Zbm N d.1)
def Z28:Fn:=⟨Tryz.f129,WG,Zb8,λN=>[(68,Zs N)]⟩
theorem Zdy(N:Nat):GW 129 (Zb8 N):=GF Z28 N Tryz.func129 (GC (Zy N) Wg)
def Ze7(N:Nat):Sig:=Sig.of [.v Ja false] [.v Jp false] (λd=>Zbc N d.1)
def Z4b:Fn:=⟨Tryz.f107,WG,Ze7,λN=>[(68,Zs N)]⟩
theorem Zh7(N:Nat):GW 107 (Ze7 N):=GF Z4b N Tryz.func107 (GC (Zy N) Wg)
def Zi4(N:Nat):Sig:=Sig.of [.v Jz true] [.v Jp false] (λd=>Zhw N d.1)
def Z4t:Fn:=⟨Tryz.f151,WG,Zi4,λN=>[(190,Zpu N),(83,Za4 N),(129,Zb8 N),(68,Zs N),(107,Ze7 N)]⟩
theorem Zn1(N:Nat):GW 151 (Zi4 N):=GF Z4t N Tryz.func151 (GC (Z4a N) (GC (Zbv N) (GC (Zdy N) (GC (Zy N) (GC (Zh7 N) Wg)))))
def Zkv(N:Nat):Sig:=Sig.of [.v Jz true] [.v Ja false] (λd=>Zhy N d.1)
def Z1e:Fn:=⟨Tryz.f149,WG,Zkv,λN=>[(151,Zi4 N)]⟩
theorem Zq3(N:Nat):GW 149 (Zkv N):=GF Z1e N Tryz.func149 (GC (Zn1 N) Wg)
def Zkd(N:Nat):Sig:=Sig.of [.v Jz true] [.v Ja false] (λd=>Zj5 N d.1)
def Z4c:Fn:=⟨Tryz.f156,WG,Zkd,Wbk⟩
theorem Zpv(N:Nat):GW 156 (Zkd N):=GF Z4c N Tryz.func156 Wg
def Zlr(N:Nat):Sig:=Sig.of [.v Jc false] [.v Jp false] (λd=>Zdl N d.1)
def Zio:Fn:=⟨Tryz.f150,λ |3=>[.canon [3,6,7,8,9]]|4=>[.canon [3,5,6,7,8]]|5=>[.canon [3,6,7,8]]|6=>[.canon [3,6,7,8,17]]|7=>[.canon [2]]|8=>[.canon [3,6,7,8]]|100003=>[.canon [3,6,7,8]]|_=>[],Zlr,λN=>[(156,Zkd N)]⟩
def Zrn(n2:Int)(t3:List Ka)(t5:Int):St:=⟨[(3,vI n2),(6,vV Jc t3),(7,vI (Wj t3)),(8,vI t5)],[],0⟩
def Zq4(t3:List Ka):St:=⟨[(2,vB false)],[],0⟩
def Zq5(t3:List Ka)(n8:Int)(t9:Int)(ao:Bool):St:=⟨[(3,vI n8),(6,vV Jc t3),(7,vI (Wj t3)),(8,vI t9),(9,vB ao)],[],0⟩
theorem Zro(N:Nat){R:Type}(K:Ex->St->Option R){t3:List Ka}{K0:Option R}{K1:Int->Int->Bool->Option R}(h0:K0=K .ret (Zq4 t3))(h1:K1= λn8 t9 ao=>K (.exit 0) (Zq5 t3 n8 t9 ao))(n:Nat)(n2:Int)(t5:Int):Zb5 N t3 K0 K1 n n2 t5=LM Zio N 0 100003 n (Zrn n2 t3 t5) K:=by
  subst h0 h1
  induction n generalizing n2 t5 with
  |zero=>kernel_rfl
  |succ n ih=>rw[Zb5];simp only[ih];kernel_rfl
theorem Zxb(N:Nat)(ac:List Ka):DN Zio N (ac,())=Zdl N ac:=by
  conv=>rhs;rw[Zdl];simp(disch:=exact id (by kernel_rfl)) only[Zro (R:=Unit×Kq) N (CF Zio N [1,1,0,1,0])]
  kernel_rfl
theorem Zxc(N:Nat):GW 150 (Zlr N):=GF Zio N Tryz.func150 (GC (Zpv N) Wg) (λd=>Zxb N d.1)
def Zob(N:Nat):Sig:=Sig.of [.v Jc false,.v Ja false] [.v Ja false] (λd=>Zhz N d.1 d.2.1)
def Zkw:Fn:=⟨Tryz.f152,λ |3=>[.canon [1,5,8,9,10,11]]|4=>[.canon [1,5,6,7,8,9,10]]|5=>[.canon [1,5,7,8,9,10,17]]|6=>[.canon [1,5,8,9,10]]|7=>[.canon [1,5,8,9,10]]|100003=>[.canon [1,5,8,9,10]]|_=>[],Zob,λN=>[(156,Zkd N)]⟩
def Zu7(i3:Int)(n4:Int)(t5:List Ka)(t7:Int):St:=⟨[(1,vI i3),(5,vI n4),(8,vV Jc t5),(9,vI (Wj t5)),(10,vI t7)],[],0⟩
def Ztc(i3:Int)(t5:List Ka)(iH:Int)(aq:Int)(aH:Bool):St:=⟨[(1,vI i3),(5,vI iH),(8,vV Jc t5),(9,vI (Wj t5)),(10,vI aq),(11,vB aH)],[],0⟩
theorem Zu8(N:Nat){R:Type}(K:Ex->St->Option R){i3:Int}{t5:List Ka}{K0:Int->Int->Bool->Option R}(h0:K0= λiH aq aH=>K (.exit 0) (Ztc i3 t5 iH aq aH))(n:Nat)(n4:Int)(t7:Int):Zb9 N i3 t5 K0 n n4 t7=LM Zkw N 0 100003 n (Zu7 i3 n4 t5 t7) K:=by
  subst h0
  induction n generalizing n4 t7 with
  |zero=>kernel_rfl
  |succ n ih=>rw[Zb9];simp only[ih];kernel_rfl
theorem Z1f(N:Nat)(ac:List Ka)(i2:Int):DN Zkw N (ac,i2,())=Zhz N ac i2:=by
  conv=>rhs;rw[Zhz];simp(disch:=exact id (by kernel_rfl)) only[Zu8 (R:=Unit×Kh) N (CF Zkw N [1,1,0,1,0])]
  kernel_rfl
theorem Z1g(N:Nat):GW 152 (Zob N):=GF Zkw N Tryz.func152 (GC (Zpv N) Wg) (λd=>Z1f N d.1 d.2.1)
def Zma(N:Nat):Sig:=Sig.of [.v Jc false] [.v Jp false] (λd=>Zc9 N d.1)
def Zmb:Fn:=⟨Tryz.f92,λ |5=>[.canon [0,3,14,15,16,17]]|6=>[.canon [0,3,4,5,14,15,16]]|7=>[.canon [0,3,4,5,14,15,16,23]]|8=>[.canon [2]]|9=>[.canon [0,3,4,5,14,15,16,25]]|10=>[.canon [0,3,4,5,14,15,16,25,26]]|11=>[.canon [0,3,14,15,16,48]]|12=>[.canon [2]]|13=>[.canon [0,3,4,14,15,16,49]]|14=>[.canon [0,3,4,14,15,16]]|15=>[.canon [0,3,14,15,16,60]]|16=>[.canon [2]]|17=>[.canon [0,3,14,15,16]]|100005=>[.canon [0,3,14,15,16]]|_=>[],Zma,λN=>[(150,Zlr N),(151,Zi4 N),(152,Zob N)]⟩
def Zxd(ad:List Ka)(aA:Int)(t7:Int):St:=⟨[(0,vV Jc ad),(3,vI aA),(14,vV Jc ad),(15,vI (Wj ad)),(16,vI t7)],[],0⟩
def Zu9(ad:List Ka):St:=⟨[(2,vB false)],[],0⟩
def Zva(ad:List Ka)(fM:Int)(bf:Int)(eY:Bool):St:=⟨[(0,vV Jc ad),(3,vI fM),(14,vV Jc ad),(15,vI (Wj ad)),(16,vI bf),(17,vB eY)],[],0⟩
theorem Zxe(N:Nat){R:Type}(K:Ex->St->Option R){ad:List Ka}{K0:Option R}{K1:Int->Int->Bool->Option R}(h0:K0=K .ret (Zu9 ad))(h1:K1= λfM bf eY=>K (.exit 0) (Zva ad fM bf eY))(n:Nat)(aA:Int)(t7:Int):Zb1 N ad K0 K1 n aA t7=LM Zmb N 0 100005 n (Zxd ad aA t7) K:=by
  subst h0 h1
  induction n generalizing aA t7 with
  |zero=>kernel_rfl
  |succ n ih=>rw[Zb1];simp only[ih];kernel_rfl
theorem Z29(N:Nat)(ac:List Ka):DN Zmb N (ac,())=Zc9 N ac:=by
  conv=>rhs;rw[Zc9];simp(disch:=exact id (by kernel_rfl)) only[Zxe (R:=Unit×Kq) N (CF Zmb N [1,1,1,0,1,0])]
  kernel_rfl
theorem Zr6(N:Nat):GW 92 (Zma N):=GF Zmb N Tryz.func92 (GC (Zxc N) (GC (Zn1 N) (GC (Z1g N) Wg))) (λd=>Z29 N d.1)
def Zpw(N:Nat):Sig:=Sig.of [.v Jc false] [.v Jp false] (λd=>Zia N d.1)
def Znc:Fn:=⟨Tryz.f91,λ |2=>[.canon [0,5,6,7,8]]|3=>[.canon [0,4,5,6,7]]|4=>[.canon [0,5,6,7,18]]|5=>[.canon [2]]|6=>[.canon [0,5,6,7]]|100002=>[.canon [0,5,6,7]]|_=>[],Zpw,λN=>[(149,Zkv N),(92,Zma N)]⟩
def Zy5(aa:List Ka)(t5:Int):St:=⟨[(0,vV Jc aa),(5,vV Jc aa),(6,vI (Wj aa)),(7,vI t5)],[],0⟩
def Zxf(aa:List Ka):St:=⟨[(2,vB false)],[],0⟩
def Zxg(aa:List Ka)(t8:Int)(t9:Bool):St:=⟨[(0,vV Jc aa),(5,vV Jc aa),(6,vI (Wj aa)),(7,vI t8),(8,vB t9)],[],0⟩
theorem Zy6(N:Nat){R:Type}(K:Ex->St->Option R){aa:List Ka}{K0:Option R}{K1:Int->Bool->Option R}(h0:K0=K .ret (Zxf aa))(h1:K1= λt8 t9=>K (.exit 0) (Zxg aa t8 t9))(n:Nat)(t5:Int):Zem N aa K0 K1 n t5=LM Znc N 0 100002 n (Zy5 aa t5) K:=by
  subst h0 h1
  induction n generalizing t5 with
  |zero=>kernel_rfl
  |succ n ih=>rw[Zem];simp only[ih];kernel_rfl
theorem Z4d(N:Nat)(ac:List Ka):DN Znc N (ac,())=Zia N ac:=by
  conv=>rhs;rw[Zia];simp(disch:=exact id (by kernel_rfl)) only[Zy6 (R:=Unit×Kq) N (CF Znc N [1,0,1,0])]
  kernel_rfl
theorem Z4e(N:Nat):GW 91 (Zpw N):=GF Znc N Tryz.func91 (GC (Zq3 N) (GC (Zr6 N) Wg)) (λd=>Z4d N d.1)
def Zmr(N:Nat):Sig:=Sig.of [.v Jz true] [.v Jp false] (λd=>Zn7 N d.1)
def Zy7:Fn:=⟨Tryz.f154,WG,Zmr,Wbk⟩
theorem Zy8(N:Nat):GW 154 (Zmr N):=GF Zy7 N Tryz.func154 Wg
def Za3(N:Nat):Sig:=Sig.of [.v Jc false,.clos 154 0] [.v Ja false] (λd=>Z3 N d.1)
def Zaf:Fn:=⟨Tryz.f191,λ |2=>[.canon [0,1,7,8,9]]|3=>[.canon [0,1,5,7,8]]|4=>[.canon [0,1,5,7,8,16]]|5=>[.canon [1,4]]|6=>[.canon [0,1,7,8]]|100002=>[.canon [0,1,7,8]]|_=>[],Za3,λN=>[(154,Zmr N)]⟩
def Zga(s2:List Ka)(t4:Int):St:=⟨[(0,vV Jc s2),(1,.s (.one (.clos 154 []))),(7,vI (Wj s2)),(8,vI t4)],[],0⟩
def Zfp(s2:List Ka)(t7:Int):St:=⟨[(1,.s (.one (.clos 154 []))),(4,vI t7)],[],0⟩
def Zfq(s2:List Ka)(t8:Int)(t9:Bool):St:=⟨[(0,vV Jc s2),(1,.s (.one (.clos 154 []))),(7,vI (Wj s2)),(8,vI t8),(9,vB t9)],[],0⟩
theorem Zgb(N:Nat){R:Type}(K:Ex->St->Option R){s2:List Ka}{K0:Int->Option R}{K1:Int->Bool->Option R}(h0:K0= λt7=>K .ret (Zfp s2 t7))(h1:K1= λt8 t9=>K (.exit 0) (Zfq s2 t8 t9))(n:Nat)(t4:Int):Zn N s2 K0 K1 n t4=LM Zaf N 0 100002 n (Zga s2 t4) K:=by
  subst h0 h1
  induction n generalizing t4 with
  |zero=>kernel_rfl
  |succ n ih=>rw[Zn];simp only[ih];kernel_rfl
theorem Zg3(N:Nat)(s1:List Ka):DN Zaf N (s1,())=Z3 N s1:=by
  conv=>rhs;rw[Z3];simp(disch:=exact id (by kernel_rfl)) only[Zgb (R:=Unit×Kh) N (CF Zaf N [1,0,1,0])]
  kernel_rfl
theorem Zg4(N:Nat):GW 191 (Za3 N):=GF Zaf N Tryz.func191 (GC (Zy8 N) Wg) (λd=>Zg3 N d.1)
def Zav(N:Nat):Sig:=Sig.of [.v Jc false,.clos 154 0] [.v Jp false] (λd=>Za0 N d.1)
def Zgf:Fn:=⟨Tryz.f153,WG,Zav,λN=>[(191,Za3 N)]⟩
theorem Zgg(N:Nat):GW 153 (Zav N):=GF Zgf N Tryz.func153 (GC (Zg4 N) Wg)
def Zoc(N:Nat):Sig:=Sig.of [.v Jc false] [.v Jp false] (λd=>Zh0 N d.1)
def Z1h:Fn:=⟨Tryz.f93,WG,Zoc,λN=>[(153,Zav N)]⟩
theorem Z1i(N:Nat):GW 93 (Zoc N):=GF Z1h N Tryz.func93 (GC (Zgg N) Wg)
def Zo5(N:Nat):Sig:=Sig.of [.v Jk true] [.v Jp false] (λd=>Ziy N d.1)
def Zmc:Fn:=⟨Tryz.f52,λ |2=>[.canon [1,6,7,8,9]]|3=>[.canon [1,4,6,7,8]]|4=>[.canon [1,6,7,8,15]]|5=>[.canon [2]]|6=>[.canon [1,6,7,8]]|100002=>[.canon [1,6,7,8]]|_=>[],Zo5,λN=>[(91,Zpw N),(92,Zma N),(93,Zoc N)]⟩
def Zxh(t2:List Kz)(t4:Int)(b5:List Ka×List Kz):St:=⟨[(1,vP 0 0),(6,vV (.slice Jc) t2),(7,vI (Wj b5.2)),(8,vI t4)],[(0,.box [.val Jc b5.1,.val (.slice Jc) b5.2])],1⟩
def Zvb(t2:List Kz)(b5:List Ka×List Kz):St:=⟨[(2,vB false)],[],0⟩
def Zvc(t2:List Kz)(b5:List Ka×List Kz)(t8:Int)(t9:Bool):St:=⟨[(1,vP 0 0),(6,vV (.slice Jc) t2),(7,vI (Wj b5.2)),(8,vI t8),(9,vB t9)],[(0,.box [.val Jc b5.1,.val (.slice Jc) b5.2])],1⟩
theorem Zxi(N:Nat){R:Type}(K:Ex->St->Option R){t2:List Kz}{b5:List Ka×List Kz}{K0:Option R}{K1:Int->Bool->Option R}(h0:K0=K .ret (Zvb t2 b5))(h1:K1= λt8 t9=>K (.exit 0) (Zvc t2 b5 t8 t9))(n:Nat)(t4:Int):Zdo N t2 b5 K0 K1 n t4=LM Zmc N 0 100002 n (Zxh t2 t4 b5) K:=by
  subst h0 h1
  induction n generalizing t4 with
  |zero=>kernel_rfl
  |succ n ih=>rw[Zdo];simp only[ih];kernel_rfl
theorem Z3a(N:Nat)(p1:List Ka×List Kz):DN Zmc N (p1,())=Ziy N p1:=by
  conv=>rhs;rw[Ziy];simp(disch:=exact id (by kernel_rfl)) only[Zxi (R:=Unit×Kq) N (CF Zmc N [1,0,1,0])]
  kernel_rfl
theorem Z3b(N:Nat):GW 52 (Zo5 N):=GF Zmc N Tryz.func52 (GC (Z4e N) (GC (Zr6 N) (GC (Z1i N) Wg))) (λd=>Z3a N d.1)
def Zls(N:Nat):Sig:=Sig.of [.v Jk true] [.v Jp false] (λd=>Zjr N d.1)
def Zxj:Fn:=⟨Tryz.f63,WG,Zls,λN=>[(52,Zo5 N)]⟩
theorem Zxk(N:Nat):GW 63 (Zls N):=GF Zxj N Tryz.func63 (GC (Z3b N) Wg)
def Zaq(N:Nat):Sig:=Sig.of [.v Jac false,.clos 63 0] [.v Ja false] (λd=>Zv N d.1)
def Zaa:Fn:=⟨Tryz.f111,λ |2=>[.canon [0,1,7,8,9]]|3=>[.canon [0,1,5,7,8]]|4=>[.canon [0,1,5,7,8,16]]|5=>[.canon [1,4]]|6=>[.canon [0,1,7,8]]|100002=>[.canon [0,1,7,8]]|_=>[],Zaq,λN=>[(63,Zls N)]⟩
def Zet(s2:List Kn)(t4:Int):St:=⟨[(0,vV Jac s2),(1,.s (.one (.clos 63 []))),(7,vI (Wj s2)),(8,vI t4)],[],0⟩
def Zeb(s2:List Kn)(t7:Int):St:=⟨[(1,.s (.one (.clos 63 []))),(4,vI t7)],[],0⟩
def Zec(s2:List Kn)(t8:Int)(t9:Bool):St:=⟨[(0,vV Jac s2),(1,.s (.one (.clos 63 []))),(7,vI (Wj s2)),(8,vI t8),(9,vB t9)],[],0⟩
theorem Zeu(N:Nat){R:Type}(K:Ex->St->Option R){s2:List Kn}{K0:Int->Option R}{K1:Int->Bool->Option R}(h0:K0= λt7=>K .ret (Zeb s2 t7))(h1:K1= λt8 t9=>K (.exit 0) (Zec s2 t8 t9))(n:Nat)(t4:Int):Ze N s2 K0 K1 n t4=LM Zaa N 0 100002 n (Zet s2 t4) K:=by
  subst h0 h1
  induction n generalizing t4 with
  |zero=>kernel_rfl
  |succ n ih=>rw[Ze];simp only[ih];kernel_rfl
theorem Zfr(N:Nat)(s1:List Kn):DN Zaa N (s1,())=Zv N s1:=by
  conv=>rhs;rw[Zv];simp(disch:=exact id (by kernel_rfl)) only[Zeu (R:=Unit×Kh) N (CF Zaa N [1,0,1,0])]
  kernel_rfl
theorem Zfs(N:Nat):GW 111 (Zaq N):=GF Zaa N Tryz.func111 (GC (Zxk N) Wg) (λd=>Zfr N d.1)
def Zal(N:Nat):Sig:=Sig.of [.v Jac false,.clos 63 0] [.v Jp false] (λd=>Zao N d.1)
def Ze8:Fn:=⟨Tryz.f62,WG,Zal,λN=>[(111,Zaq N)]⟩
theorem Ze9(N:Nat):GW 62 (Zal N):=GF Ze8 N Tryz.func62 (GC (Zfs N) Wg)
def Zjz(N:Nat):Sig:=Sig.of [.v Jr true] [.v Jp false] (λd=>Zi8 N d.1)
def Z0f:Fn:=⟨Tryz.f27,WG,Zjz,λN=>[(54,Zno N),(62,Zal N)]⟩
theorem Zqm(N:Nat):GW 27 (Zjz N):=GF Z0f N Tryz.func27 (GC (Z0e N) (GC (Ze9 N) Wg))
def Zod(N:Nat):Sig:=Sig.of [] [.v Jae false] (λd=>Zpo N)
def Z1j:Fn:=⟨Tryz.f112,WG,Zod,Wbk⟩
theorem Z1k(N:Nat):GW 112 (Zod N):=GF Z1j N Tryz.func112 Wg
def Z0(N:Nat):Sig:=Sig.of [.v Jj false] [.v Jae false] (λd=>Zq N d.1)
def Z0g:Fn:=⟨Tryz.f37,WG,Z0,Wbk⟩
theorem Z6(N:Nat):GW 37 (Z0 N):=GF Z0g N Tryz.func37 Wg
def Zmd(N:Nat):Sig:=Sig.of [.v Ja false,.v Ja false] [.v Ja false] (λd=>Ziz N d.1 d.2.1)
def Z3c:Fn:=⟨Tryz.f104,WG,Zmd,Wbk⟩
theorem Zr7(N:Nat):GW 104 (Zmd N):=GF Z3c N Tryz.func104 Wg
def Znd(N:Nat):Sig:=Sig.of [.v Ja false] [.v Ja false] (λd=>Zid N d.1)
def Z4f:Fn:=⟨Tryz.f106,WG,Znd,Wbk⟩
theorem Ztd(N:Nat):GW 106 (Znd N):=GF Z4f N Tryz.func106 Wg
def Zj0(N:Nat):Sig:=Sig.of [.v Ja false] [.v Ja false] (λd=>Zi9 N d.1)
def Z0h:Fn:=⟨Tryz.f105,WG,Zj0,λN=>[(107,Ze7 N)]⟩
theorem Zqn(N:Nat):GW 105 (Zj0 N):=GF Z0h N Tryz.func105 (GC (Zh7 N) Wg)
def Zgw(N:Nat):Sig:=Sig.of [.v Jj false] [.v Jp false] (λd=>Zdc N d.1)
def Zkx:Fn:=⟨Tryz.f58,λ |5=>[.canon [3,9,10,11,12]]|6=>[.canon [3,4,5,9,10,11]]|7=>[.canon [3,4,5,9,10,11,17]]|8=>[.canon [3,5,9,10,11,35]]|9=>[.canon [2]]|10=>[.canon [3,9,10,11]]|11=>[.canon [3,9,10,11]]|100005=>[.canon [3,9,10,11]]|_=>[],Zgw,λN=>[(104,Zmd N),(68,Zs N),(106,Znd N),(105,Zj0 N)]⟩
def Zvd(t2:List Int)(t4:Int)(l5:List Bool):St:=⟨[(3,.s (.one (.aptr 0))),(9,vV Jj t2),(10,vI (Wj t2)),(11,vI t4)],[(0,.arr Jp l5)],1⟩
def Zte(t2:List Int):St:=⟨[(2,vB false)],[],0⟩
def Ztf(t2:List Int)(fG:Int)(eR:Bool)(eI:List Bool):St:=⟨[(3,.s (.one (.aptr 0))),(9,vV Jj t2),(10,vI (Wj t2)),(11,vI fG),(12,vB eR)],[(0,.arr Jp eI)],1⟩
theorem Zve(N:Nat){R:Type}(K:Ex->St->Option R){t2:List Int}{K0:Option R}{K1:Int->Bool->(List Bool)->Option R}(h0:K0=K .ret (Zte t2))(h1:K1= λfG eR eI=>K (.exit 0) (Ztf t2 fG eR eI))(n:Nat)(t4:Int)(l5:List Bool):Zca N t2 K0 K1 n t4 l5=LM Zkx N 0 100005 n (Zvd t2 t4 l5) K:=by
  subst h0 h1
  induction n generalizing t4 l5 with
  |zero=>kernel_rfl
  |succ n ih=>rw[Zca];simp only[ih];kernel_rfl
theorem Z1l(N:Nat)(l1:List Int):DN Zkx N (l1,())=Zdc N l1:=by
  conv=>rhs;rw[Zdc];simp(disch:=exact id (by kernel_rfl)) only[Zve (R:=Unit×Kq) N (CF Zkx N [1,1,1,0,1,0])]
  kernel_rfl
theorem Zky(N:Nat):GW 58 (Zgw N):=GF Zkx N Tryz.func58 (GC (Zr7 N) (GC (Zy N) (GC (Ztd N) (GC (Zqn N) Wg)))) (λd=>Z1l N d.1)
def Zlk(N:Nat):Sig:=Sig.of [.v Jj false,.v Ja false] [.v Ja false] (λd=>Zg2 N d.1 d.2.1)
def Zn2:Fn:=⟨Tryz.f108,λ |2=>[.canon [1,7,8,9,10]]|3=>[.canon [1,5,6,7,8,9]]|4=>[.canon [1,5,7,8,9,21]]|5=>[.canon [4]]|6=>[.canon [1,7,8,9]]|100002=>[.canon [1,7,8,9]]|_=>[],Zlk,λN=>[(106,Znd N)]⟩
def Z0i(dG:Int)(t4:List Int)(t6:Int):St:=⟨[(1,vI dG),(7,vV Jj t4),(8,vI (Wj t4)),(9,vI t6)],[],0⟩
def Zy9(dG:Int)(t4:List Int)(t9:Int):St:=⟨[(4,vI t9)],[],0⟩
def Zza(dG:Int)(t4:List Int)(ao:Int)(aq:Bool):St:=⟨[(1,vI dG),(7,vV Jj t4),(8,vI (Wj t4)),(9,vI ao),(10,vB aq)],[],0⟩
theorem Z0j(N:Nat){R:Type}(K:Ex->St->Option R){dG:Int}{t4:List Int}{K0:Int->Option R}{K1:Int->Bool->Option R}(h0:K0= λt9=>K .ret (Zy9 dG t4 t9))(h1:K1= λao aq=>K (.exit 0) (Zza dG t4 ao aq))(n:Nat)(t6:Int):Zdw N dG t4 K0 K1 n t6=LM Zn2 N 0 100002 n (Z0i dG t4 t6) K:=by
  subst h0 h1
  induction n generalizing t6 with
  |zero=>kernel_rfl
  |succ n ih=>rw[Zdw];simp only[ih];kernel_rfl
theorem Z4u(N:Nat)(l1:List Int)(bS:Int):DN Zn2 N (l1,bS,())=Zg2 N l1 bS:=by
  conv=>rhs;rw[Zg2];simp(disch:=exact id (by kernel_rfl)) only[Z0j (R:=Unit×Kh) N (CF Zn2 N [1,0,1,0])]
  kernel_rfl
theorem Zqb(N:Nat):GW 108 (Zlk N):=GF Zn2 N Tryz.func108 (GC (Ztd N) Wg) (λd=>Z4u N d.1 d.2.1)
def Zii(N:Nat):Sig:=Sig.of [.v Jj false,.v Ja false] [.v Ja false,.v Jp false] (λd=>Zh1 N d.1 d.2.1)
def Z1m:Fn:=⟨Tryz.f59,WG,Zii,λN=>[(58,Zgw N),(107,Ze7 N),(108,Zlk N)]⟩
theorem Zoe(N:Nat):GW 59 (Zii N):=GF Z1m N Tryz.func59 (GC (Zky N) (GC (Zh7 N) (GC (Zqb N) Wg)))
def Zij(N:Nat):Sig:=Sig.of [.v Jj false,.v Ja false,.v Ja false] [.v Jae false,.v Ja false,.v Jp false] (λd=>Ze2 N d.1 d.2.1 d.2.2.1)
def Zkz:Fn:=⟨Tryz.f113,λ |10=>[.canon [1,2,9,13,57]]|11=>[.canon [1,2,9,13]]|100010=>[.canon [1,2,9,13]]|_=>[],Zij,λN=>[(37,Z0 N),(58,Zgw N),(107,Ze7 N),(83,Za4 N),(108,Zlk N),(59,Zii N),(104,Zmd N),(105,Zj0 N)]⟩
def Zvf(dq:Int)(mc:Int)(eC:Int)(bg:List Int):St:=⟨[(1,vI dq),(2,vI mc),(9,vO 0),(13,vI eC)],[(0,.arr Ja bg)],1⟩
def Ztg(dq:Int)(mc:Int)(bg:List Int)(pJ:Int)(cR:Bool):St:=⟨[(1,vI dq),(2,vI mc),(9,vO 0),(13,vI pJ),(57,vB cR)],[(0,.arr Ja bg)],1⟩
theorem Zvg(N:Nat){R:Type}(K:Ex->St->Option R){dq:Int}{mc:Int}{bg:List Int}{K0:Int->Bool->Option R}(h0:K0= λpJ cR=>K (.exit 0) (Ztg dq mc bg pJ cR))(n:Nat)(eC:Int):Zc0 N dq mc bg K0 n eC=LM Zkz N 0 100010 n (Zvf dq mc eC bg) K:=by
  subst h0
  induction n generalizing eC with
  |zero=>kernel_rfl
  |succ n ih=>rw[Zc0];simp only[ih];kernel_rfl
theorem Z1n(N:Nat)(l1:List Int)(bS:Int)(v3:Int):DN Zkz N (l1,bS,v3,())=Ze2 N l1 bS v3:=by
  conv=>rhs;rw[Ze2];simp(disch:=exact id (by kernel_rfl)) only[Zvg (R:=Unit×(Ki×Km)) N (CF Zkz N [1,1,1,1,1,0,0])]
  kernel_rfl
theorem Zof(N:Nat):GW 113 (Zij N):=GF Zkz N Tryz.func113 (GC (Z6 N) (GC (Zky N) (GC (Zh7 N) (GC (Zbv N) (GC (Zqb N) (GC (Zoe N) (GC (Zr7 N) (GC (Zqn N) Wg)))))))) (λd=>Z1n N d.1 d.2.1 d.2.2.1)
def Zms(N:Nat):Sig:=Sig.of [.v Jj false] [.v Jae false] (λd=>Zbd N d.1)
def Zjg:Fn:=⟨Tryz.f64,λ |5=>[.canon [3,10,11,12,13]]|6=>[.canon [3,4,5,10,11,12]]|7=>[.canon [3,4,5,10,11,12,18]]|8=>[.canon [3,10,11,12]]|9=>[.canon [3,10,11,12]]|100005=>[.canon [3,10,11,12]]|_=>[],Zms,λN=>[(95,Zna N),(112,Zod N),(113,Zij N)]⟩
def Zsi(t4:List Int)(t6:Int)(l7:List Int):St:=⟨[(3,vO 0),(10,vV Jj t4),(11,vI (Wj t4)),(12,vI t6)],[(0,.arr Ja l7)],1⟩
def Zrp(t4:List Int)(ao:Int)(aq:Bool)(aY:List Int):St:=⟨[(3,vO 0),(10,vV Jj t4),(11,vI (Wj t4)),(12,vI ao),(13,vB aq)],[(0,.arr Ja aY)],1⟩
theorem Zsj(N:Nat){R:Type}(K:Ex->St->Option R){t4:List Int}{K0:Int->Bool->Ki->Option R}(h0:K0= λao aq aY=>K (.exit 0) (Zrp t4 ao aq aY))(n:Nat)(t6:Int)(l7:List Int):Zbp N t4 K0 n t6 l7=LM Zjg N 0 100005 n (Zsi t4 t6 l7) K:=by
  subst h0
  induction n generalizing t6 l7 with
  |zero=>kernel_rfl
  |succ n ih=>rw[Zbp];simp only[ih];kernel_rfl
theorem Zzb(N:Nat)(m1:List Int):DN Zjg N (m1,())=Zbd N m1:=by
  conv=>rhs;rw[Zbd];simp(disch:=exact id (by kernel_rfl)) only[Zsj (R:=Unit×Ku) N (CF Zjg N [1,1,1,0,1,0])]
  kernel_rfl
theorem Zzc(N:Nat):GW 64 (Zms N):=GF Zjg N Tryz.func64 (GC (Ztb N) (GC (Z1k N) (GC (Zof N) Wg))) (λd=>Zzb N d.1)
def Zo6(N:Nat):Sig:=Sig.of [.v Jj false] [.v Jaj true,.v Jp false] (λd=>Zch N d.1)
def Zme:Fn:=⟨Tryz.f65,λ |5=>[.canon [2,4,12,13,14,15]]|6=>[.canon [2,4,6,12,13,14]]|7=>[.canon [2,4,12,13,14]]|8=>[.canon [2,4,12,13,14]]|100005=>[.adoptC 4 1 Jl,.canon [2,4,12,13,14]]|_=>[],Zo6,λN=>[(36,Zbs N)]⟩
def Zxl(t3:List Int)(t5:Int)(l8:List Kb):St:=⟨[(2,vP 0 0),(4,vP 1 0),(12,vV Jj t3),(13,vI (Wj t3)),(14,vI t5)],[(0,.box [.val Ja (0:Int),.nils]),(1,.box [.val Ja (0:Int),.own 2]),(2,.arr Jl l8)],3⟩
def Zvh(t3:List Int)(t9:Int)(ao:Bool)(am:List Kb):St:=⟨[(2,vP 0 0),(4,vP 1 0),(12,vV Jj t3),(13,vI (Wj t3)),(14,vI t9),(15,vB ao)],[(0,.box [.val Ja (0:Int),.nils]),(1,.box [.val Ja (0:Int),.own 2]),(2,.arr Jl am)],3⟩
theorem Zxm(N:Nat){R:Type}(K:Ex->St->Option R){t3:List Int}{K0:Int->Bool->Ks->Option R}(h0:K0= λt9 ao am=>K (.exit 0) (Zvh t3 t9 ao am))(n:Nat)(t5:Int)(l8:List Kb):Zdn N t3 K0 n t5 l8=LM Zme N 0 100005 n (Zxl t3 t5 l8) K:=by
  subst h0
  induction n generalizing t5 l8 with
  |zero=>kernel_rfl
  |succ n ih=>rw[Zdn];simp only[ih];kernel_rfl
theorem Z3d(N:Nat)(l1:List Int):DN Zme N (l1,())=Zch N l1:=by
  conv=>rhs;rw[Zch];simp(disch:=exact id (by kernel_rfl)) only[Zxm (R:=Unit×(Kx×Kq)) N (CF Zme N [1,1,1,0,1,0])]
  kernel_rfl
theorem Z3e(N:Nat):GW 65 (Zo6 N):=GF Zme N Tryz.func65 (GC (Zc7 N) Wg) (λd=>Z3d N d.1)
def Zc8(N:Nat):Sig:=Sig.of [.box Jad] [] (λd=>Zbe N d.1)
def Zzd:Fn:=⟨Tryz.f115,WG,Zc8,Wbk⟩
theorem Zhb(N:Nat):GW 115 (Zc8 N):=GF Zzd N Tryz.func115 Wg
def Zlt(N:Nat):Sig:=Sig.of [.box Jw,.v Ja false] [] (λd=>Zf6 N d.1 d.2.1)
def Zip:Fn:=⟨Tryz.f116,λ |3=>[.canon [0,1,4,5,17,18,19,20]]|4=>[.canon [0,1,4,5,6,7,17,18,19]]|5=>[.canon [0,1,4,5,17,18,19]]|6=>[.canon [0,1,4,5,17,18,19]]|100003=>[.canon [0,1,4,5,17,18,19]]|_=>[],Zlt,Wbk⟩
def Zrq(k3:Int)(r4:Nat)(cL:Bool)(t6:Int)(t7:Int)(b8:Int)(b9:Int)(au:Int)(aX:Int)(aY:List Y_Root)(aL:List Kb)(aR:List Int)(bg:List Kb)(de:List Ko):St:=⟨[(0,vP 0 0),(1,vI k3),(4,.s (.one (.eptr 1 r4 0))),(5,vB cL),(17,vO 1),(18,vI t6),(19,vI t7)],[(0,.box [.val Ja b8,.val Ja b9,.val Ja au,.own 2,.own 3,.val Ja aX,.own 4,.own 1,.own 5]),(1,.arr Jad aY),(2,.arr Jl aL),(3,.arr Ja aR),(4,.arr Jl bg),(5,.arr Je de)],6⟩
def Zq6(k3:Int)(r4:Nat)(t6:Int)(b8:Int)(b9:Int)(au:Int)(aX:Int)(aY:List Y_Root)(aL:List Kb)(aR:List Int)(bg:List Kb)(de:List Ko)(fN:Bool)(fG:Int)(eR:Bool):St:=⟨[(0,vP 0 0),(1,vI k3),(4,.s (.one (.eptr 1 r4 0))),(5,vB fN),(17,vO 1),(18,vI t6),(19,vI fG),(20,vB eR)],[(0,.box [.val Ja b8,.val Ja b9,.val Ja au,.own 2,.own 3,.val Ja aX,.own 4,.own 1,.own 5]),(1,.arr Jad aY),(2,.arr Jl aL),(3,.arr Ja aR),(4,.arr Jl bg),(5,.arr Je de)],6⟩
theorem Zrr(N:Nat){R:Type}(K:Ex->St->Option R){k3:Int}{r4:Nat}{t6:Int}{b8:Int}{b9:Int}{au:Int}{aX:Int}{aY:List Y_Root}{aL:List Kb}{aR:List Int}{bg:List Kb}{de:List Ko}{K0:Bool->Int->Bool->Option R}(h0:K0= λfN fG eR=>K (.exit 0) (Zq6 k3 r4 t6 b8 b9 au aX aY aL aR bg de fN fG eR))(n:Nat)(cL:Bool)(t7:Int):Zaw N k3 r4 t6 b8 b9 au aX aY aL aR bg de K0 n cL t7=LM Zip N 0 100003 n (Zrq k3 r4 cL t6 t7 b8 b9 au aX aY aL aR bg de) K:=by
  subst h0
  induction n generalizing cL t7 with
  |zero=>kernel_rfl
  |succ n ih=>rw[Zaw];simp only[ih];kernel_rfl
theorem Zxn(N:Nat)(w1:Y_World)(k2:Int):DN Zip N (w1,k2,())=Zf6 N w1 k2:=by
  conv=>rhs;rw[Zf6];simp(disch:=exact id (by kernel_rfl)) only[Zrr (R:=(Y_World×Unit)×Unit) N (CF Zip N [1,1,0,1,0])]
  kernel_rfl
theorem Zxo(N:Nat):GW 116 (Zlt N):=GF Zip N Tryz.func116 Wg (λd=>Zxn N d.1 d.2.1)
def Zmf(N:Nat):Sig:=Sig.of [.v Ja false,.v Ja false,.v Ja false] [.v Jp false] (λd=>Zi0 N d.1 d.2.1 d.2.2.1)
def Z3f:Fn:=⟨Tryz.f217,WG,Zmf,λN=>[(68,Zs N)]⟩
theorem Zr8(N:Nat):GW 217 (Zmf N):=GF Z3f N Tryz.func217 (GC (Zy N) Wg)
def Zke(N:Nat):Sig:=Sig.of [.v Jl true,.v Jl true] [.v Ja false] (λd=>Zim N d.1 d.2.1)
def Zth:Fn:=⟨Tryz.f218,WG,Zke,Wbk⟩
theorem Zti(N:Nat):GW 218 (Zke N):=GF Zth N Tryz.func218 Wg
def Zgx(N:Nat):Sig:=Sig.of [.v Jf false] [.v Jp false] (λd=>Ze3 N d.1)
def Zk0:Fn:=⟨Tryz.f171,λ |2=>[.canon [0,5,6,7,8]]|3=>[.canon [0,3,4,5,6,7]]|4=>[.canon [0,3,4,5,6,7,33]]|5=>[.canon [2]]|6=>[.canon [0,5,6,7,60]]|7=>[.canon [2]]|8=>[.canon [0,5,6,7]]|100002=>[.canon [0,5,6,7]]|_=>[],Zgx,λN=>[(217,Zmf N),(218,Zke N)]⟩
def Zvi(l2:List Kb)(t5:Int):St:=⟨[(0,vV Jf l2),(5,vV Jf l2),(6,vI (Wj l2)),(7,vI t5)],[],0⟩
def Ztj(l2:List Kb):St:=⟨[(2,vB false)],[],0⟩
def Ztk(l2:List Kb)(ao:Int)(aq:Bool):St:=⟨[(0,vV Jf l2),(5,vV Jf l2),(6,vI (Wj l2)),(7,vI ao),(8,vB aq)],[],0⟩
theorem Zvj(N:Nat){R:Type}(K:Ex->St->Option R){l2:List Kb}{K0:Option R}{K1:Int->Bool->Option R}(h0:K0=K .ret (Ztj l2))(h1:K1= λao aq=>K (.exit 0) (Ztk l2 ao aq))(n:Nat)(t5:Int):Zau N l2 K0 K1 n t5=LM Zk0 N 0 100002 n (Zvi l2 t5) K:=by
  subst h0 h1
  induction n generalizing t5 with
  |zero=>kernel_rfl
  |succ n ih=>rw[Zau];simp only[ih];kernel_rfl
theorem Z1o(N:Nat)(l1:List Kb):DN Zk0 N (l1,())=Ze3 N l1:=by
  conv=>rhs;rw[Ze3];simp(disch:=exact id (by kernel_rfl)) only[Zvj (R:=Unit×Kq) N (CF Zk0 N [1,0,1,0])]
  kernel_rfl
theorem Zk1(N:Nat):GW 171 (Zgx N):=GF Zk0 N Tryz.func171 (GC (Zr8 N) (GC (Zti N) Wg)) (λd=>Z1o N d.1)
def Zog(N:Nat):Sig:=Sig.of [.v Jf false,.v Ja false] [.v Jae false] (λd=>Zgp N d.1 d.2.1)
def Zk2:Fn:=⟨Tryz.f192,λ |5=>[.canon [1,5,12,13,14,15]]|6=>[.canon [1,5,7,12,13,14]]|7=>[.canon [1,5,7,12,13,14,21]]|8=>[.canon [1,5,12,13,14]]|9=>[.canon [1,5,12,13,14]]|100005=>[.canon [1,5,12,13,14]]|_=>[],Zog,λN=>[(171,Zgx N)]⟩
def Zvk(eD:Int)(t5:List Kb)(t7:Int)(l8:List Int):St:=⟨[(1,vI eD),(5,vO 0),(12,vV Jf t5),(13,vI (Wj t5)),(14,vI t7)],[(0,.arr Ja l8)],1⟩
def Ztl(eD:Int)(t5:List Kb)(t9:Int)(ao:Bool)(am:List Int):St:=⟨[(1,vI eD),(5,vO 0),(12,vV Jf t5),(13,vI (Wj t5)),(14,vI t9),(15,vB ao)],[(0,.arr Ja am)],1⟩
theorem Zvl(N:Nat){R:Type}(K:Ex->St->Option R){eD:Int}{t5:List Kb}{K0:Int->Bool->Ki->Option R}(h0:K0= λt9 ao am=>K (.exit 0) (Ztl eD t5 t9 ao am))(n:Nat)(t7:Int)(l8:List Int):Zcb N eD t5 K0 n t7 l8=LM Zk2 N 0 100005 n (Zvk eD t5 t7 l8) K:=by
  subst h0
  induction n generalizing t7 l8 with
  |zero=>kernel_rfl
  |succ n ih=>rw[Zcb];simp only[ih];kernel_rfl
theorem Z1p(N:Nat)(l1:List Kb)(co:Int):DN Zk2 N (l1,co,())=Zgp N l1 co:=by
  conv=>rhs;rw[Zgp];simp(disch:=exact id (by kernel_rfl)) only[Zvl (R:=Unit×Ku) N (CF Zk2 N [1,1,1,0,1,0])]
  kernel_rfl
theorem Z1q(N:Nat):GW 192 (Zog N):=GF Zk2 N Tryz.func192 (GC (Zk1 N) Wg) (λd=>Z1p N d.1 d.2.1)
def Zjh(N:Nat):Sig:=Sig.of [.box Jw,.v Ja false] [] (λd=>Zgq N d.1 d.2.1)
def Zze:Fn:=⟨Tryz.f124,λ |0=>[.opn 10]|_=>[],Zjh,Wbk⟩
theorem Zp3(N:Nat):GW 124 (Zjh N):=GF Zze N Tryz.func124 Wg
def Zcg(N:Nat):Sig:=Sig.of [.v Ja false] [.v Jp false] (λd=>Zb6 N d.1)
def Z1r:Fn:=⟨Tryz.f71,WG,Zcg,λN=>[(68,Zs N)]⟩
theorem Zev(N:Nat):GW 71 (Zcg N):=GF Z1r N Tryz.func71 (GC (Zy N) Wg)
def Zcv(N:Nat):Sig:=Sig.of [.v Jn false] [.v Jp false] (λd=>Za9 N d.1)
def Zmg:Fn:=⟨Tryz.f72,λ |2=>[.canon [0,5,6,7,8]]|3=>[.canon [0,4,5,6,7]]|4=>[.canon [0,5,6,7,20]]|5=>[.canon [2]]|6=>[.canon [0,5,6,7]]|100002=>[.canon [0,5,6,7]]|_=>[],Zcv,λN=>[(129,Zb8 N),(83,Za4 N)]⟩
def Zxp(l2:List Kc)(t5:Int):St:=⟨[(0,vV Jn l2),(5,vV Jn l2),(6,vI (Wj l2)),(7,vI t5)],[],0⟩
def Zvm(l2:List Kc):St:=⟨[(2,vB false)],[],0⟩
def Zvn(l2:List Kc)(ao:Int)(aq:Bool):St:=⟨[(0,vV Jn l2),(5,vV Jn l2),(6,vI (Wj l2)),(7,vI ao),(8,vB aq)],[],0⟩
theorem Zxq(N:Nat){R:Type}(K:Ex->St->Option R){l2:List Kc}{K0:Option R}{K1:Int->Bool->Option R}(h0:K0=K .ret (Zvm l2))(h1:K1= λao aq=>K (.exit 0) (Zvn l2 ao aq))(n:Nat)(t5:Int):Zdm N l2 K0 K1 n t5=LM Zmg N 0 100002 n (Zxp l2 t5) K:=by
  subst h0 h1
  induction n generalizing t5 with
  |zero=>kernel_rfl
  |succ n ih=>rw[Zdm];simp only[ih];kernel_rfl
theorem Z3g(N:Nat)(l1:List Kc):DN Zmg N (l1,())=Za9 N l1:=by
  conv=>rhs;rw[Za9];simp(disch:=exact id (by kernel_rfl)) only[Zxq (R:=Unit×Kq) N (CF Zmg N [1,0,1,0])]
  kernel_rfl
theorem Zft(N:Nat):GW 72 (Zcv N):=GF Zmg N Tryz.func72 (GC (Zdy N) (GC (Zbv N) Wg)) (λd=>Z3g N d.1)
def Zll(N:Nat):Sig:=Sig.of [.v Jn false,.v Ja false] [.v Ja false,.v Jp false] (λd=>Zhx N d.1 d.2.1)
def Zn3:Fn:=⟨Tryz.f194,λ |4=>[.canon [0,1,6,14]]|5=>[.canon [0,1,6]]|6=>[.canon [0,1,6,23]]|7=>[.canon [4,5]]|100004=>[.canon [0,1,6]]|_=>[],Zll,λN=>[(72,Zcv N)]⟩
def Z0k(l4:List Kc)(cz:Int)(i6:Int):St:=⟨[(0,vV Jn l4),(1,vI cz),(6,vI i6)],[],0⟩
def Zzf(l4:List Kc)(cz:Int)(t7:Int):St:=⟨[(4,vI t7),(5,vB true)],[],0⟩
def Zzg(l4:List Kc)(cz:Int)(i8:Int)(t9:Bool):St:=⟨[(0,vV Jn l4),(1,vI cz),(6,vI i8),(14,vB t9)],[],0⟩
theorem Z0l(N:Nat){R:Type}(K:Ex->St->Option R){l4:List Kc}{cz:Int}{K0:Int->Option R}{K1:Int->Bool->Option R}(h0:K0= λt7=>K .ret (Zzf l4 cz t7))(h1:K1= λi8 t9=>K (.exit 0) (Zzg l4 cz i8 t9))(n:Nat)(i6:Int):Zhc N l4 cz K0 K1 n i6=LM Zn3 N 0 100004 n (Z0k l4 cz i6) K:=by
  subst h0 h1
  induction n generalizing i6 with
  |zero=>kernel_rfl
  |succ n ih=>rw[Zhc];simp only[ih];kernel_rfl
theorem Z4v(N:Nat)(l1:List Kc)(fq:Int):DN Zn3 N (l1,fq,())=Zhx N l1 fq:=by
  conv=>rhs;rw[Zhx];simp(disch:=exact id (by kernel_rfl)) only[Z0l (R:=Unit×Km) N (CF Zn3 N [1,1,0,1,0])]
  kernel_rfl
theorem Zqc(N:Nat):GW 194 (Zll N):=GF Zn3 N Tryz.func194 (GC (Zft N) Wg) (λd=>Z4v N d.1 d.2.1)
def Zkf(N:Nat):Sig:=Sig.of [.v Jn false] [.v (.own Jx) false] (λd=>Zg1 N d.1)
def Zo7:Fn:=⟨Tryz.f176,λ |5=>[.canon [0,3,11,12]]|6=>[.canon [0,3,4,11]]|7=>[.canon [0,3,4,5,6,11]]|8=>[.canon [0,3,4,5,11,20]]|9=>[.canon [0,3,11]]|10=>[.canon [0,3,11]]|100005=>[.canon [0,3,11]]|_=>[],Zkf,λN=>[(72,Zcv N),(194,Zll N)]⟩
def Z1s(l3:List Kc)(t4:Int)(l5:List Kc):St:=⟨[(0,vV Jn l3),(3,vO 0),(11,vI t4)],[(0,.arr Jx l5)],1⟩
def Z0m(l3:List Kc)(t7:Int)(t8:Bool)(l9:List Kc):St:=⟨[(0,vV Jn l3),(3,vO 0),(11,vI t7),(12,vB t8)],[(0,.arr Jx l9)],1⟩
theorem Z1t(N:Nat){R:Type}(K:Ex->St->Option R){l3:List Kc}{K0:Int->Bool->Kw->Option R}(h0:K0= λt7 t8 l9=>K (.exit 0) (Z0m l3 t7 t8 l9))(n:Nat)(t4:Int)(l5:List Kc):Zgm N l3 K0 n t4 l5=LM Zo7 N 0 100005 n (Z1s l3 t4 l5) K:=by
  subst h0
  induction n generalizing t4 l5 with
  |zero=>kernel_rfl
  |succ n ih=>rw[Zgm];simp only[ih];kernel_rfl
theorem Z47(N:Nat)(l1:List Kc):DN Zo7 N (l1,())=Zg1 N l1:=by
  conv=>rhs;rw[Zg1];simp(disch:=exact id (by kernel_rfl)) only[Z1t (R:=Unit×(Kw×Unit)) N (CF Zo7 N [1,1,1,0,1,0])]
  kernel_rfl
theorem Zo8(N:Nat):GW 176 (Zkf N):=GF Zo7 N Tryz.func176 (GC (Zft N) (GC (Zqc N) Wg)) (λd=>Z47 N d.1)
def Zoh(N:Nat):Sig:=Sig.of [.v Jn false] [.v Jae false] (λd=>Zh2 N d.1)
def Zk3:Fn:=⟨Tryz.f222,λ |3=>[.canon [3,8,9,10,11]]|4=>[.canon [3,5,8,9,10]]|5=>[.canon [3,8,9,10]]|6=>[.canon [3,8,9,10]]|100003=>[.canon [3,8,9,10]]|_=>[],Zoh,λN=>[(176,Zkf N)]⟩
def Zvo(t3:Int)(t4:Int)(l5:List Int)(l6:List Kc):St:=⟨[(3,vO 0),(8,vO 1),(9,vI t3),(10,vI t4)],[(0,.arr Ja l5),(1,.arr Jx l6)],2⟩
def Ztm(t3:Int)(l6:List Kc)(t7:Int)(t8:Bool)(l9:List Int):St:=⟨[(3,vO 0),(8,vO 1),(9,vI t3),(10,vI t7),(11,vB t8)],[(0,.arr Ja l9),(1,.arr Jx l6)],2⟩
theorem Zvp(N:Nat){R:Type}(K:Ex->St->Option R){t3:Int}{l6:List Kc}{K0:Int->Bool->Ki->Option R}(h0:K0= λt7 t8 l9=>K (.exit 0) (Ztm t3 l6 t7 t8 l9))(n:Nat)(t4:Int)(l5:List Int):Zc1 N t3 l6 K0 n t4 l5=LM Zk3 N 0 100003 n (Zvo t3 t4 l5 l6) K:=by
  subst h0
  induction n generalizing t4 l5 with
  |zero=>kernel_rfl
  |succ n ih=>rw[Zc1];simp only[ih];kernel_rfl
theorem Z1u(N:Nat)(l1:List Kc):DN Zk3 N (l1,())=Zh2 N l1:=by
  conv=>rhs;rw[Zh2];simp(disch:=exact id (by kernel_rfl)) only[Zvp (R:=Unit×Ku) N (CF Zk3 N [1,1,0,1,0])]
  kernel_rfl
theorem Z1v(N:Nat):GW 222 (Zoh N):=GF Zk3 N Tryz.func222 (GC (Zo8 N) Wg) (λd=>Z1u N d.1)
def Zmt(N:Nat):Sig:=Sig.of [.v Ja false,.v Ja false,.v Jn false,.v Jn false] [.v Jd true,.v Jp false] (λd=>Zer N d.1 d.2.1 d.2.2.1 d.2.2.2.1)
def Zzh:Fn:=⟨Tryz.f193,WG,Zmt,λN=>[(71,Zcg N),(68,Zs N),(72,Zcv N),(176,Zkf N),(222,Zoh N)]⟩
theorem Zzi(N:Nat):GW 193 (Zmt N):=GF Zzh N Tryz.func193 (GC (Zev N) (GC (Zy N) (GC (Zft N) (GC (Zo8 N) (GC (Z1v N) Wg)))))
def Zht(N:Nat):Sig:=Sig.of [.box Jw,.v Ja false,.v Ja false] [] (λd=>Zg7 N d.1 d.2.1 d.2.2.1)
def Zvq:Fn:=⟨Tryz.f158,λ |0=>[.opn 13]|_=>[],Zht,λN=>[(192,Zog N),(124,Zjh N),(193,Zmt N)]⟩
theorem Zo9(N:Nat):GW 158 (Zht N):=GF Zvq N Tryz.func158 (GC (Z1q N) (GC (Zp3 N) (GC (Zzi N) Wg)))
def Zj1(N:Nat):Sig:=Sig.of [.v Ja false] [.v Jz true,.v Jp false] (λd=>Zfl N d.1)
def Z0n:Fn:=⟨Tryz.f195,WG,Zj1,λN=>[(129,Zb8 N)]⟩
theorem Zqo(N:Nat):GW 195 (Zj1 N):=GF Z0n N Tryz.func195 (GC (Zdy N) Wg)
def Zdh(N:Nat):Sig:=Sig.of [.v Ju true] [.v Jp false] (λd=>Zci N d.1)
def Zne:Fn:=⟨Tryz.f39,λ |2=>[.canon [1,6,7,8,9]]|3=>[.canon [1,4,6,7,8]]|4=>[.canon [1,6,7,8,29]]|5=>[.canon [2]]|6=>[.canon [1,6,7,8]]|100002=>[.canon [1,6,7,8]]|_=>[],Zdh,λN=>[(83,Za4 N),(68,Zs N)]⟩
def Zzj(t2:List Kb)(t4:Int)(b5:Int×List Kb):St:=⟨[(1,vP 0 0),(6,vV Jf t2),(7,vI (Wj b5.2)),(8,vI t4)],[(0,.box [.val Ja b5.1,.val Jf b5.2])],1⟩
def Zxr(t2:List Kb)(b5:Int×List Kb):St:=⟨[(2,vB false)],[],0⟩
def Zxs(t2:List Kb)(b5:Int×List Kb)(aH:Int)(ba:Bool):St:=⟨[(1,vP 0 0),(6,vV Jf t2),(7,vI (Wj b5.2)),(8,vI aH),(9,vB ba)],[(0,.box [.val Ja b5.1,.val Jf b5.2])],1⟩
theorem Zzk(N:Nat){R:Type}(K:Ex->St->Option R){t2:List Kb}{b5:Int×List Kb}{K0:Option R}{K1:Int->Bool->Option R}(h0:K0=K .ret (Zxr t2 b5))(h1:K1= λaH ba=>K (.exit 0) (Zxs t2 b5 aH ba))(n:Nat)(t4:Int):Zen N t2 b5 K0 K1 n t4=LM Zne N 0 100002 n (Zzj t2 t4 b5) K:=by
  subst h0 h1
  induction n generalizing t4 with
  |zero=>kernel_rfl
  |succ n ih=>rw[Zen];simp only[ih];kernel_rfl
theorem Z4g(N:Nat)(m1:Int×List Kb):DN Zne N (m1,())=Zci N m1:=by
  conv=>rhs;rw[Zci];simp(disch:=exact id (by kernel_rfl)) only[Zzk (R:=Unit×Kq) N (CF Zne N [1,0,1,0])]
  kernel_rfl
theorem Zgy(N:Nat):GW 39 (Zdh N):=GF Zne N Tryz.func39 (GC (Zbv N) (GC (Zy N) Wg)) (λd=>Z4g N d.1)
def Zoi(N:Nat):Sig:=Sig.of [.v Jz true] [.v Jp false] (λd=>Zm1 N d.1)
def Z1w:Fn:=⟨Tryz.f223,WG,Zoi,λN=>[(129,Zb8 N),(68,Zs N),(83,Za4 N)]⟩
theorem Z1x(N:Nat):GW 223 (Zoi N):=GF Z1w N Tryz.func223 (GC (Zdy N) (GC (Zy N) (GC (Zbv N) Wg)))
def Zji(N:Nat):Sig:=Sig.of [.v Ju true,.v Ja false,.v Jz true] [.v Jz true] (λd=>Zeo N d.1 d.2.1 d.2.2.1)
def Zzl:Fn:=⟨Tryz.f196,WG,Zji,λN=>[(39,Zdh N),(223,Zoi N)]⟩
theorem Zp4(N:Nat):GW 196 (Zji N):=GF Zzl N Tryz.func196 (GC (Zgy N) (GC (Z1x N) Wg))
def Zg5(N:Nat):Sig:=Sig.of [.box Jad] [] (λd=>Zdd N d.1)
def Zsk:Fn:=⟨Tryz.f197,WG,Zg5,λN=>[(115,Zc8 N)]⟩
theorem Znw(N:Nat):GW 197 (Zg5 N):=GF Zsk N Tryz.func197 (GC (Zhb N) Wg)
def Zlu(N:Nat):Sig:=Sig.of [.boxal Jw 3,.v Jz true] [] (λd=>Zjs N d.1 d.2.1 d.2.2.1)
def Zxt:Fn:=⟨Tryz.f159,λ |1000000=>[.unfE 1]|_=>[],Zlu,λN=>[(194,Zll N),(195,Zj1 N),(196,Zji N),(197,Zg5 N)]⟩
theorem Zxu(N:Nat):GW 159 (Zlu N):=GF Zxt N Tryz.func159 (GC (Zqc N) (GC (Zqo N) (GC (Zp4 N) (GC (Znw N) Wg))))
def Zjj(N:Nat):Sig:=Sig.of [.box Jad] [.v (.prod Ja Jai) true] (λd=>Zie N d.1)
def Zzm:Fn:=⟨Tryz.f119,WG,Zjj,Wbk⟩
theorem Zp5(N:Nat):GW 119 (Zjj N):=GF Zzm N Tryz.func119 Wg
def Zjk(N:Nat):Sig:=Sig.of [.v Jah true] [.v Jq true] (λd=>Zif N d.1)
def Zzn:Fn:=⟨Tryz.f203,WG,Zjk,λN=>[(37,Z0 N)]⟩
theorem Zp6(N:Nat):GW 203 (Zjk N):=GF Zzn N Tryz.func203 (GC (Z6 N) Wg)
def Zk4(N:Nat):Sig:=Sig.of [.v Jah true] [.v Jp false] (λd=>Zj9 N d.1)
def Z1y:Fn:=⟨Tryz.f204,WG,Zk4,λN=>[(58,Zgw N),(83,Za4 N)]⟩
theorem Zq7(N:Nat):GW 204 (Zk4 N):=GF Z1y N Tryz.func204 (GC (Zky N) (GC (Zbv N) Wg))
def Zpa(N:Nat):Sig:=Sig.of [.v Jl true] [.v Jp false] (λd=>Znz N d.1)
def Z3h:Fn:=⟨Tryz.f205,WG,Zpa,λN=>[(107,Ze7 N),(83,Za4 N)]⟩
theorem Z3i(N:Nat):GW 205 (Zpa N):=GF Z3h N Tryz.func205 (GC (Zh7 N) (GC (Zbv N) Wg))
def Zj2(N:Nat):Sig:=Sig.of [.v Jj false,.v Ja false] [.v Jae false,.v Ja false,.v Jp false] (λd=>Zja N d.1 d.2.1)
def Z0o:Fn:=⟨Tryz.f206,WG,Zj2,λN=>[(37,Z0 N),(58,Zgw N),(107,Ze7 N),(108,Zlk N),(59,Zii N)]⟩
theorem Zqp(N:Nat):GW 206 (Zj2 N):=GF Z0o N Tryz.func206 (GC (Z6 N) (GC (Zky N) (GC (Zh7 N) (GC (Zqb N) (GC (Zoe N) Wg)))))
def Zoj(N:Nat):Sig:=Sig.of [.v Jah true,.v Jl true] [.v Jq true,.v Jp false] (λd=>Zm2 N d.1 d.2.1)
def Z1z:Fn:=⟨Tryz.f166,WG,Zoj,λN=>[(203,Zjk N),(204,Zk4 N),(205,Zpa N),(113,Zij N),(206,Zj2 N)]⟩
theorem Z10(N:Nat):GW 166 (Zoj N):=GF Z1z N Tryz.func166 (GC (Zp6 N) (GC (Zq7 N) (GC (Z3i N) (GC (Zof N) (GC (Zqp N) Wg)))))
def Ziq(N:Nat):Sig:=Sig.of [.boxal Jw 3] [] (λd=>Zcn N d.1 d.2.1)
def Zxv:Fn:=⟨Tryz.f120,λ |1000000=>[.unfE 1]|_=>[],Ziq,λN=>[(166,Zoj N)]⟩
theorem Zpk(N:Nat):GW 120 (Ziq N):=GF Zxv N Tryz.func120 (GC (Z10 N) Wg)
def Zdt(N:Nat):Sig:=Sig.of [.v Jn false] [.v (.own Jx) false] (λd=>Zbn N d.1)
def Z0p:Fn:=⟨Tryz.f167,WG,Zdt,Wbk⟩
theorem Zhs(N:Nat):GW 167 (Zdt N):=GF Z0p N Tryz.func167 Wg
def Znf(N:Nat):Sig:=Sig.of [.v Jc false,.v Ja false] [.v Ja false] (λd=>Zib N d.1 d.2.1)
def Zng:Fn:=⟨Tryz.f98,λ |5=>[.canon [0,5,6,25]]|6=>[.canon [0,5,6]]|7=>[.canon [0,5,6]]|8=>[.canon [0,5,6,36]]|9=>[.canon [4]]|100005=>[.canon [0,5,6]]|_=>[],Znf,λN=>[(68,Zs N),(156,Zkd N)]⟩
def Zzo(aD:List Ka)(n5:Int)(k6:Int):St:=⟨[(0,vV Jc aD),(5,vI n5),(6,vI k6)],[],0⟩
def Zxw(aD:List Ka)(t8:Int):St:=⟨[(4,vI t8)],[],0⟩
def Zxx(aD:List Ka)(n9:Int)(k10:Int)(aq:Bool):St:=⟨[(0,vV Jc aD),(5,vI n9),(6,vI k10),(25,vB aq)],[],0⟩
theorem Zzp(N:Nat){R:Type}(K:Ex->St->Option R){aD:List Ka}{K0:Int->Option R}{K1:Int->Int->Bool->Option R}(h0:K0= λt8=>K .ret (Zxw aD t8))(h1:K1= λn9 k10 aq=>K (.exit 0) (Zxx aD n9 k10 aq))(n:Nat)(n5:Int)(k6:Int):Zep N aD K0 K1 n n5 k6=LM Zng N 0 100005 n (Zzo aD n5 k6) K:=by
  subst h0 h1
  induction n generalizing n5 k6 with
  |zero=>kernel_rfl
  |succ n ih=>rw[Zep];simp only[ih];kernel_rfl
theorem Z4h(N:Nat)(ac:List Ka)(i2:Int):DN Zng N (ac,i2,())=Zib N ac i2:=by
  conv=>rhs;rw[Zib];simp(disch:=exact id (by kernel_rfl)) only[Zzp (R:=Unit×Kh) N (CF Zng N [1,1,1,0,1,0])]
  kernel_rfl
theorem Ztn(N:Nat):GW 98 (Znf N):=GF Zng N Tryz.func98 (GC (Zy N) (GC (Zpv N) Wg)) (λd=>Z4h N d.1 d.2.1)
def Zk5(N:Nat):Sig:=Sig.of [.box Jw,.v Ja false,.v Jc false] [] (λd=>Zjb N d.1 d.2.1 d.2.2.1)
def Zvr:Fn:=⟨Tryz.f160,λ |0=>[.opn 13]|_=>[],Zk5,λN=>[(158,Zht N),(119,Zjj N),(120,Ziq N),(37,Z0 N),(167,Zdt N),(98,Znf N)]⟩
theorem Zvs(N:Nat):GW 160 (Zk5 N):=GF Zvr N Tryz.func160 (GC (Zo9 N) (GC (Zp5 N) (GC (Zpk N) (GC (Z6 N) (GC (Zhs N) (GC (Ztn N) Wg))))))
def Znp(N:Nat):Sig:=Sig.of [.v Ja false,.v Jj false,.v Jn false,.v Ja false] [.v Jab true] (λd=>Zhd N d.1 d.2.1 d.2.2.1 d.2.2.2.1)
def Zf8:Fn:=⟨Tryz.f161,λ |3=>[.canon [1,3,8,9,19,20,21,22]]|4=>[.canon [1,3,8,9,11,19,20,21]]|5=>[.canon [1,3,8,9,19,20,21]]|6=>[.canon [1,3,8,9,19,20,21]]|8=>[.canon [1,8,9,36,37,38]]|9=>[.nest 44 Ji,.canon [1,8,9,36,37]]|10=>[.canon [1,8,9,36,37]]|100003=>[.adoptC 9 6 Jl,.canon [1,3,8,9,19,20,21]]|100008=>[.adoptC 9 9 Ji,.canon [1,8,9,36,37]]|_=>[],Znp,λN=>[(37,Z0 N),(176,Zkf N)]⟩
def Zto(dn:List Int)(dp:Int)(t9:Int)(ao:Int)(bD:Int)(c8:List Kc)(eI:List Int)(cG:List Kb):St:=⟨[(1,vV Jj dn),(3,vI dp),(8,vP 0 0),(9,vP 1 0),(19,vO 2),(20,vI t9),(21,vI ao)],[(0,.box [.val Ja (0:Int),.val Ja (0:Int),.val Ja (0:Int),.val Jp false,.nils,.nils,.nils,.nils,.nils,.nils]),(1,.box [.val Ja bD,.val Ja (0:Int),.val Ja (0:Int),.val Jp false,.own 3,.own 2,.own 4,.nils,.nils,.nils]),(2,.arr Jx c8),(3,.arr Ja eI),(4,.arr Jl cG)],5⟩
def Zsl(dn:List Int)(dp:Int)(t9:Int)(bD:Int)(c8:List Kc)(eI:List Int)(t22:Int)(t23:Bool)(cK:List Kb):St:=⟨[(1,vV Jj dn),(3,vI dp),(8,vP 0 0),(9,vP 1 0),(19,vO 2),(20,vI t9),(21,vI t22),(22,vB t23)],[(0,.box [.val Ja (0:Int),.val Ja (0:Int),.val Ja (0:Int),.val Jp false,.nils,.nils,.nils,.nils,.nils,.nils]),(1,.box [.val Ja bD,.val Ja (0:Int),.val Ja (0:Int),.val Jp false,.own 3,.own 2,.own 4,.nils,.nils,.nils]),(2,.arr Jx c8),(3,.arr Ja eI),(4,.arr Jl cK)],5⟩
theorem Ztp(N:Nat){R:Type}(K:Ex->St->Option R){dn:List Int}{dp:Int}{t9:Int}{bD:Int}{c8:List Kc}{eI:List Int}{K0:Int->Bool->Ks->Option R}(h0:K0= λt22 t23 cK=>K (.exit 0) (Zsl dn dp t9 bD c8 eI t22 t23 cK))(n:Nat)(ao:Int)(cG:List Kb):Zcp N dn dp t9 bD c8 eI K0 n ao cG=LM Zf8 N 0 100003 n (Zto dn dp t9 ao bD c8 eI cG) K:=by
  subst h0
  induction n generalizing ao cG with
  |zero=>kernel_rfl
  |succ n ih=>rw[Zcp];simp only[ih];kernel_rfl
def Ztq(ci:List Int)(ko:Int)(jx:Int)(lQ:Int)(lR:List Int)(lS:List Kc)(kp:List Kb)(gl:List Y_KidRun):St:=⟨[(1,vV Jj ci),(8,vP 0 0),(9,vP 1 0),(36,vI ko),(37,vI jx)],[(0,.box [.val Ja (0:Int),.val Ja (0:Int),.val Ja (0:Int),.val Jp false,.nils,.nils,.nils,.nils,.nils,.nils]),(1,.box [.val Ja lQ,.val Ja (0:Int),.val Ja (0:Int),.val Jp false,.own 2,.own 3,.own 4,.nils,.nils,.own 5]),(2,.arr Ja lR),(3,.arr Jx lS),(4,.arr Jl kp),(5,.arr Ji gl)],6⟩
def Zsm(ci:List Int)(ko:Int)(lQ:Int)(lR:List Int)(lS:List Kc)(kp:List Kb)(t45:Int)(t46:Bool)(ma:List Y_KidRun):St:=⟨[(1,vV Jj ci),(8,vP 0 0),(9,vP 1 0),(36,vI ko),(37,vI t45),(38,vB t46)],[(0,.box [.val Ja (0:Int),.val Ja (0:Int),.val Ja (0:Int),.val Jp false,.nils,.nils,.nils,.nils,.nils,.nils]),(1,.box [.val Ja lQ,.val Ja (0:Int),.val Ja (0:Int),.val Jp false,.own 2,.own 3,.own 4,.nils,.nils,.own 5]),(2,.arr Ja lR),(3,.arr Jx lS),(4,.arr Jl kp),(5,.arr Ji ma)],6⟩
theorem Ztr(N:Nat){R:Type}(K:Ex->St->Option R){ci:List Int}{ko:Int}{lQ:Int}{lR:List Int}{lS:List Kc}{kp:List Kb}{K0:Int->Bool->(List Y_KidRun)->Option R}(h0:K0= λt45 t46 ma=>K (.exit 2) (Zsm ci ko lQ lR lS kp t45 t46 ma))(n:Nat)(jx:Int)(gl:List Y_KidRun):Zbf N ci ko lQ lR lS kp K0 n jx gl=LM Zf8 N 1 100008 n (Ztq ci ko jx lQ lR lS kp gl) K:=by
  subst h0
  induction n generalizing jx gl with
  |zero=>kernel_rfl
  |succ n ih=>rw[Zbf];simp only[ih];kernel_rfl
theorem Z0q(N:Nat)(qJ:Int)(bh:List Int)(d9:List Kc)(gm:Int):DN Zf8 N (qJ,bh,d9,gm,())=Zhd N qJ bh d9 gm:=by
  conv=>rhs;rw[Zhd];simp(disch:=exact id (by kernel_rfl)) only[Ztp (R:=Unit×(Y_Family×Unit)) N (CF Zf8 N [1,1,0,1,0]),Ztr (R:=Unit×(Y_Family×Unit)) N (CF Zf8 N [1,1,1,0,1,0])]
  kernel_rfl
theorem Z0r(N:Nat):GW 161 (Znp N):=GF Zf8 N Tryz.func161 (GC (Z6 N) (GC (Zo8 N) Wg)) (λd=>Z0q N d.1 d.2.1 d.2.2.1 d.2.2.2.1)
def Zmu(N:Nat):Sig:=Sig.of [.v Jz true] [.v Ja false,.v Ja false] (λd=>Zko N d.1)
def Zzq:Fn:=⟨Tryz.f198,WG,Zmu,λN=>[(151,Zi4 N)]⟩
theorem Zzr(N:Nat):GW 198 (Zmu N):=GF Zzq N Tryz.func198 (GC (Zn1 N) Wg)
def Zjl(N:Nat):Sig:=Sig.of [.v Jf false] [.v (.own Jl) false] (λd=>Zes N d.1)
def Zzs:Fn:=⟨Tryz.f170,WG,Zjl,Wbk⟩
theorem Zp7(N:Nat):GW 170 (Zjl N):=GF Zzs N Tryz.func170 Wg
def Zpb(N:Nat):Sig:=Sig.of [.v Jf false,.v Ja false,.v Ja false,.v Ja false] [.v Jae false] (λd=>Zi1 N d.1 d.2.1 d.2.2.1 d.2.2.2.1)
def Zmh:Fn:=⟨Tryz.f224,λ |5=>[.canon [1,2,3,9,21,22,23,24]]|6=>[.canon [1,2,3,9,11,21,22,23]]|7=>[.canon [1,2,3,9,11,21,22,23,45]]|8=>[.canon [1,2,3,9,21,22,23]]|9=>[.canon [1,2,3,9,21,22,23]]|100005=>[.canon [1,2,3,9,21,22,23]]|_=>[],Zpb,λN=>[(171,Zgx N),(68,Zs N)]⟩
def Zxy(dr:Int)(ca:Int)(cb:Int)(ao:List Kb)(aH:Int)(aL:List Int):St:=⟨[(1,vI dr),(2,vI ca),(3,vI cb),(9,vO 0),(21,vV Jf ao),(22,vI (Wj ao)),(23,vI aH)],[(0,.arr Ja aL)],1⟩
def Zvt(dr:Int)(ca:Int)(cb:Int)(ao:List Kb)(dE:Int)(bf:Bool)(de:List Int):St:=⟨[(1,vI dr),(2,vI ca),(3,vI cb),(9,vO 0),(21,vV Jf ao),(22,vI (Wj ao)),(23,vI dE),(24,vB bf)],[(0,.arr Ja de)],1⟩
theorem Zxz(N:Nat){R:Type}(K:Ex->St->Option R){dr:Int}{ca:Int}{cb:Int}{ao:List Kb}{K0:Int->Bool->Ki->Option R}(h0:K0= λdE bf de=>K (.exit 0) (Zvt dr ca cb ao dE bf de))(n:Nat)(aH:Int)(aL:List Int):Za8 N dr ca cb ao K0 n aH aL=LM Zmh N 0 100005 n (Zxy dr ca cb ao aH aL) K:=by
  subst h0
  induction n generalizing aH aL with
  |zero=>kernel_rfl
  |succ n ih=>rw[Za8];simp only[ih];kernel_rfl
theorem Z3j(N:Nat)(l1:List Kb)(co:Int)(cp:Int)(cd:Int):DN Zmh N (l1,co,cp,cd,())=Zi1 N l1 co cp cd:=by
  conv=>rhs;rw[Zi1];simp(disch:=exact id (by kernel_rfl)) only[Zxz (R:=Unit×Ku) N (CF Zmh N [1,1,1,0,1,0])]
  kernel_rfl
theorem Z3k(N:Nat):GW 224 (Zpb N):=GF Zmh N Tryz.func224 (GC (Zk1 N) (GC (Zy N) Wg)) (λd=>Z3j N d.1 d.2.1 d.2.2.1 d.2.2.2.1)
def Zbl(N:Nat):Sig:=Sig.of [.mut Jl,.clos 218 0] [] (λd=>Zu N d.1)
theorem Zff:CmpOk Tryz.prog 218 Jl Wwp cfH:=by
  intro G x y us vs w hx hy h1 h2;obtain⟨_,_,rfl,a1,_,_,rfl,a2,a3⟩:=h1;obtain⟨_,_,rfl,b1,_,_,rfl,b2,b3⟩:=h2;simp only[Enc]at a1 a2 a3 b1 b2 b3;subst a1 a2 a3 b1 b2 b3;simp only[Xba,Xbn];unfold Wwp at hx hy;simp only[Xi]at hx hy
  go_enter Tryz.func218,Tryz.ntmps218
  go_wp2
  rw[guard_run (a:=x.2.1) (b:=y.2.1),Result.andThen_ok];rw[neq_run (a:=x.2.1) (b:=y.2.1),Result.andThen_ok];rcases hb:(bne (α:=Int) x.2.1 y.2.1)with _|_
  . go_wp2
    rw[sub_run (Whe hx.1) (Whe hy.1) (Wyh hb)]
    go_wp2
    go_ret
    exact⟨rfl,two_grow _ _ _⟩
  . go_wp2
    rw[sub_run (Whe hx.2) (Whe hy.2) (Wx2 hb)]
    go_wp2
    go_ret
    exact⟨rfl,two_grow _ _ _⟩
theorem Zfg(N:Nat):GW 225 (Zbl N):=⟨WcY Tryz.func225 (show Woh Tryz.f225=true by kernel_rfl),good_sortF sortFH (e:=.prod Ja Jx) rfl (by decide) Tryz.isAgg230 Tryz.sizeOf230 (enters_of Tryz.func218 (by kernel_rfl) rfl) Wy5 Zff N⟩
def Zok(N:Nat):Sig:=Sig.of [.v Jf false,.v Ja false,.v Ja false,.v Ja false] [.v (.own Jl) false,.v Jp false] (λd=>Zh3 N d.1 d.2.1 d.2.2.1 d.2.2.2.1)
def Zk6:Fn:=⟨Tryz.f199,λ |5=>[.canon [1,2,3,10,35,36,37,38]]|6=>[.canon [1,2,3,10,11,12,35,36,37]]|7=>[.canon [1,2,3,10,11,12,35,36,37,51]]|8=>[.canon [10]]|9=>[.canon [8,9]]|10=>[.canon [1,2,3,10,35,36,37]]|100005=>[.canon [1,2,3,10,35,36,37]]|_=>[],Zok,λN=>[(170,Zjl N),(171,Zgx N),(217,Zmf N),(224,Zpb N),(225,Zbl N)]⟩
def Zvu(dH:Int)(bE:Int)(bF:Int)(aH:Int)(ba:Int)(aR:List Kb):St:=⟨[(1,vI dH),(2,vI bE),(3,vI bF),(10,vO 0),(35,vO 0),(36,vI aH),(37,vI ba)],[(0,.arr Jl aR)],1⟩
def Zts(dH:Int)(bE:Int)(bF:Int)(aH:Int)(aR:List Kb)(bg:List Kb):St:=⟨[(8,vO 0),(9,vB true)],[(0,.arr Jl bg)],1⟩
def Ztt(dH:Int)(bE:Int)(bF:Int)(aH:Int)(aR:List Kb)(eY:Int)(cR:Bool):St:=⟨[(1,vI dH),(2,vI bE),(3,vI bF),(10,vO 0),(35,vO 0),(36,vI aH),(37,vI eY),(38,vB cR)],[(0,.arr Jl aR)],1⟩
theorem Zvv(N:Nat){R:Type}(K:Ex->St->Option R){dH:Int}{bE:Int}{bF:Int}{aH:Int}{aR:List Kb}{K0:Ks->Option R}{K1:Int->Bool->Option R}(h0:K0= λbg=>K .ret (Zts dH bE bF aH aR bg))(h1:K1= λeY cR=>K (.exit 0) (Ztt dH bE bF aH aR eY cR))(n:Nat)(ba:Int):Zcc N dH bE bF aH aR K0 K1 n ba=LM Zk6 N 0 100005 n (Zvu dH bE bF aH ba aR) K:=by
  subst h0 h1
  induction n generalizing ba with
  |zero=>kernel_rfl
  |succ n ih=>rw[Zcc];simp only[ih];kernel_rfl
theorem Z11(N:Nat)(l1:List Kb)(co:Int)(cp:Int)(cd:Int):DN Zk6 N (l1,co,cp,cd,())=Zh3 N l1 co cp cd:=by
  conv=>rhs;rw[Zh3];simp(disch:=exact id (by kernel_rfl)) only[Zvv (R:=Unit×(Ks×Kq)) N (CF Zk6 N [1,1,1,0,1,0])]
  kernel_rfl
theorem Z12(N:Nat):GW 199 (Zok N):=GF Zk6 N Tryz.func199 (GC (Zp7 N) (GC (Zk1 N) (GC (Zr8 N) (GC (Z3k N) (GC (Zfg N) Wg))))) (λd=>Z11 N d.1 d.2.1 d.2.2.1 d.2.2.2.1)
def Zpc(N:Nat):Sig:=Sig.of [.v Ja false,.v Ja false] [.v Jl true] (λd=>Zlh N d.1 d.2.1)
def Z3l:Fn:=⟨Tryz.f226,WG,Zpc,Wbk⟩
theorem Z3m(N:Nat):GW 226 (Zpc N):=GF Z3l N Tryz.func226 Wg
def Zol(N:Nat):Sig:=Sig.of [.v Jah true,.v Jz true,.v Jj false] [.v Jq true,.v Jae false,.v Jl true,.v Jp false] (λd=>Zm3 N d.1 d.2.1 d.2.2.1)
def Z13:Fn:=⟨Tryz.f200,WG,Zol,λN=>[(203,Zjk N),(37,Z0 N),(204,Zk4 N),(36,Zbs N),(149,Zkv N),(113,Zij N),(226,Zpc N),(59,Zii N),(206,Zj2 N)]⟩
theorem Z14(N:Nat):GW 200 (Zol N):=GF Z13 N Tryz.func200 (GC (Zp6 N) (GC (Z6 N) (GC (Zq7 N) (GC (Zc7 N) (GC (Zq3 N) (GC (Zof N) (GC (Z3m N) (GC (Zoe N) (GC (Zqp N) Wg)))))))))
def Zk7(N:Nat):Sig:=Sig.of [.box Jw,.v Ja false,.v Jz true] [] (λd=>Zg8 N d.1 d.2.1 d.2.2.1)
def Zvw:Fn:=⟨Tryz.f162,λ |1=>[.opn 20]|_=>[],Zk7,λN=>[(198,Zmu N),(199,Zok N),(197,Zg5 N),(200,Zol N)]⟩
theorem Zvx(N:Nat):GW 162 (Zk7 N):=GF Zvw N Tryz.func162 (GC (Zzr N) (GC (Z12 N) (GC (Znw N) (GC (Z14 N) Wg))))
def Zhi(N:Nat):Sig:=Sig.of [.rp (TY_Root)] [.vj Jz] (λd=>Zd2 N d.1)
def Ztu:Fn:=⟨Tryz.f119,WG,Zhi,Wbk⟩
theorem Zos(N:Nat):GW 119 (Zhi N):=GF Ztu N Tryz.func119 Wg
def Zn4(N:Nat):Sig:=Sig.of [.v Jz true,.v Jj false] [.v Jae false,.v Jp false] (λd=>Znu N d.1 d.2.1)
def Z4w:Fn:=⟨Tryz.f97,WG,Zn4,λN=>[(37,Z0 N),(151,Zi4 N),(36,Zbs N)]⟩
theorem Zwk(N:Nat):GW 97 (Zn4 N):=GF Z4w N Tryz.func97 (GC (Z6 N) (GC (Zn1 N) (GC (Zc7 N) Wg)))
def Zmv(N:Nat):Sig:=Sig.of [.box Jw,.v Ja false,.v Jk true] [] (λd=>Zig N d.1 d.2.1 d.2.2.1)
def Zzt:Fn:=⟨Tryz.f117,λ |1=>[.opn 14]|_=>[],Zmv,λN=>[(158,Zht N),(159,Zlu N),(160,Zk5 N),(161,Znp N),(162,Zk7 N),(37,Z0 N),(119,Zhi N),(97,Zn4 N)]⟩
theorem Zzu(N:Nat):GW 117 (Zmv N):=GF Zzt N Tryz.func117 (GC (Zo9 N) (GC (Zxu N) (GC (Zvs N) (GC (Z0r N) (GC (Zvx N) (GC (Z6 N) (GC (Zos N) (GC (Zwk N) Wg))))))))
def Zmw(N:Nat):Sig:=Sig.of [.v (TY_KidRun) true] [.v Jp false] (λd=>Zn8 N d.1)
def Zzv:Fn:=⟨Tryz.f202,WG,Zmw,Wbk⟩
theorem Zzw(N:Nat):GW 202 (Zmw N):=GF Zzv N Tryz.func202 Wg
def Zam(N:Nat):Sig:=Sig.of [.v Jag false,.clos 202 0] [.v Ja false] (λd=>Zt N d.1)
def Z4:Fn:=⟨Tryz.f227,λ |2=>[.canon [0,1,7,8,9]]|3=>[.canon [0,1,5,7,8]]|4=>[.canon [0,1,5,7,8,16]]|5=>[.canon [1,4]]|6=>[.canon [0,1,7,8]]|100002=>[.canon [0,1,7,8]]|_=>[],Zam,λN=>[(202,Zmw N)]⟩
def Zdz(s2:List Y_KidRun)(t4:Int):St:=⟨[(0,vV Jag s2),(1,.s (.one (.clos 202 []))),(7,vI (Wj s2)),(8,vI t4)],[],0⟩
def Zdu(s2:List Y_KidRun)(t7:Int):St:=⟨[(1,.s (.one (.clos 202 []))),(4,vI t7)],[],0⟩
def Zdv(s2:List Y_KidRun)(t8:Int)(t9:Bool):St:=⟨[(0,vV Jag s2),(1,.s (.one (.clos 202 []))),(7,vI (Wj s2)),(8,vI t8),(9,vB t9)],[],0⟩
theorem Zd0(N:Nat){R:Type}(K:Ex->St->Option R){s2:List Y_KidRun}{K0:Int->Option R}{K1:Int->Bool->Option R}(h0:K0= λt7=>K .ret (Zdu s2 t7))(h1:K1= λt8 t9=>K (.exit 0) (Zdv s2 t8 t9))(n:Nat)(t4:Int):Zg N s2 K0 K1 n t4=LM Z4 N 0 100002 n (Zdz s2 t4) K:=by
  subst h0 h1
  induction n generalizing t4 with
  |zero=>kernel_rfl
  |succ n ih=>rw[Zg];simp only[ih];kernel_rfl
theorem Zfa(N:Nat)(s1:List Y_KidRun):DN Z4 N (s1,())=Zt N s1:=by
  conv=>rhs;rw[Zt];simp(disch:=exact id (by kernel_rfl)) only[Zd0 (R:=Unit×Kh) N (CF Z4 N [1,0,1,0])]
  kernel_rfl
theorem Zfb(N:Nat):GW 227 (Zam N):=GF Z4 N Tryz.func227 (GC (Zzw N) Wg) (λd=>Zfa N d.1)
def Zah(N:Nat):Sig:=Sig.of [.v Jag false,.clos 202 0] [.v Jp false] (λd=>Zaj N d.1)
def Zd5:Fn:=⟨Tryz.f201,WG,Zah,λN=>[(227,Zam N)]⟩
theorem Zd6(N:Nat):GW 201 (Zah N):=GF Zd5 N Tryz.func201 (GC (Zfb N) Wg)
def Zom(N:Nat):Sig:=Sig.of [.v (TY_Family) true] [.v Jp false] (λd=>Zm4 N d.1)
def Z15:Fn:=⟨Tryz.f163,WG,Zom,λN=>[(201,Zah N)]⟩
theorem Z16(N:Nat):GW 163 (Zom N):=GF Z15 N Tryz.func163 (GC (Zd6 N) Wg)
def Zon(N:Nat):Sig:=Sig.of [.v (TY_Family) true] [.v Jae false] (λd=>Zh4 N d.1)
def Zk8:Fn:=⟨Tryz.f164,λ |5=>[.canon [3,20,21,22,23]]|6=>[.canon [3,4,5,20,21,22]]|7=>[.canon [3,4,5,20,21,22]]|8=>[.canon [3,4,5,20,21,22,37]]|9=>[.canon [3,20,21,22]]|10=>[.canon [3,20,21,22]]|100005=>[.canon [3,20,21,22]]|_=>[],Zon,λN=>[(36,Zbs N),(37,Z0 N)]⟩
def Zvy(t4:List Y_KidRun)(t5:Int)(t6:Int)(l7:List Int):St:=⟨[(3,vO 0),(20,vV Jag t4),(21,vI t5),(22,vI t6)],[(0,.arr Ja l7)],1⟩
def Ztv(t4:List Y_KidRun)(t5:Int)(ao:Int)(aq:Bool)(aY:List Int):St:=⟨[(3,vO 0),(20,vV Jag t4),(21,vI t5),(22,vI ao),(23,vB aq)],[(0,.arr Ja aY)],1⟩
theorem Zvz(N:Nat){R:Type}(K:Ex->St->Option R){t4:List Y_KidRun}{t5:Int}{K0:Int->Bool->Ki->Option R}(h0:K0= λao aq aY=>K (.exit 0) (Ztv t4 t5 ao aq aY))(n:Nat)(t6:Int)(l7:List Int):Zbq N t4 t5 K0 n t6 l7=LM Zk8 N 0 100005 n (Zvy t4 t5 t6 l7) K:=by
  subst h0
  induction n generalizing t6 l7 with
  |zero=>kernel_rfl
  |succ n ih=>rw[Zbq];simp only[ih];kernel_rfl
theorem Z17(N:Nat)(f1:Y_Family):DN Zk8 N (f1,())=Zh4 N f1:=by
  conv=>rhs;rw[Zh4];simp(disch:=exact id (by kernel_rfl)) only[Zvz (R:=Unit×Ku) N (CF Zk8 N [1,1,1,0,1,0])]
  kernel_rfl
theorem Z18(N:Nat):GW 164 (Zon N):=GF Zk8 N Tryz.func164 (GC (Zc7 N) (GC (Z6 N) Wg)) (λd=>Z17 N d.1)
def Zoo(N:Nat):Sig:=Sig.of [.v (TY_Family) true] [.v (.own Jx) false] (λd=>Zh5 N d.1)
def Zk9:Fn:=⟨Tryz.f165,λ |3=>[.canon [3,8,9,10,11]]|4=>[.canon [3,5,8,9,10]]|5=>[.canon [3,8,9,10]]|6=>[.canon [3,8,9,10]]|100003=>[.canon [3,8,9,10]]|_=>[],Zoo,Wbk⟩
def Zv0(t2:List Kb)(t3:Int)(t4:Int)(l5:List Kc):St:=⟨[(3,vO 0),(8,vV Jf t2),(9,vI t3),(10,vI t4)],[(0,.arr Jx l5)],1⟩
def Ztw(t2:List Kb)(t3:Int)(t6:Int)(t7:Bool)(l8:List Kc):St:=⟨[(3,vO 0),(8,vV Jf t2),(9,vI t3),(10,vI t6),(11,vB t7)],[(0,.arr Jx l8)],1⟩
theorem Zv1(N:Nat){R:Type}(K:Ex->St->Option R){t2:List Kb}{t3:Int}{K0:Int->Bool->Kw->Option R}(h0:K0= λt6 t7 l8=>K (.exit 0) (Ztw t2 t3 t6 t7 l8))(n:Nat)(t4:Int)(l5:List Kc):Zc2 N t2 t3 K0 n t4 l5=LM Zk9 N 0 100003 n (Zv0 t2 t3 t4 l5) K:=by
  subst h0
  induction n generalizing t4 l5 with
  |zero=>kernel_rfl
  |succ n ih=>rw[Zc2];simp only[ih];kernel_rfl
theorem Z19(N:Nat)(f1:Y_Family):DN Zk9 N (f1,())=Zh5 N f1:=by
  conv=>rhs;rw[Zh5];simp(disch:=exact id (by kernel_rfl)) only[Zv1 (R:=Unit×(Kw×Unit)) N (CF Zk9 N [1,1,0,1,0])]
  kernel_rfl
theorem Z2a(N:Nat):GW 165 (Zoo N):=GF Zk9 N Tryz.func165 Wg (λd=>Z19 N d.1)
def Zmx(N:Nat):Sig:=Sig.of [.box Jad] [] (λd=>Zih N d.1)
def Zzx:Fn:=⟨Tryz.f118,WG,Zmx,λN=>[(115,Zc8 N),(163,Zom N),(164,Zon N),(165,Zoo N),(37,Z0 N)]⟩
theorem Zzy(N:Nat):GW 118 (Zmx N):=GF Zzx N Tryz.func118 (GC (Zhb N) (GC (Z16 N) (GC (Z18 N) (GC (Z2a N) (GC (Z6 N) Wg)))))
def Zkg(N:Nat):Sig:=Sig.of [.boxal Jw 3] [] (λd=>Zgj N d.1 d.2.1)
def Ztx:Fn:=⟨Tryz.f121,λ |1000000=>[.unfE 1]|_=>[],Zkg,λN=>[(119,Zjj N),(115,Zc8 N),(167,Zdt N),(37,Z0 N)]⟩
theorem Zty(N:Nat):GW 121 (Zkg N):=GF Ztx N Tryz.func121 (GC (Zp5 N) (GC (Zhb N) (GC (Zhs N) (GC (Z6 N) Wg))))
def Zir(N:Nat):Sig:=Sig.of [.v (.prod Ja Jaa) true] [.v Jd true] (λd=>Zhq N d.1)
def Zx0:Fn:=⟨Tryz.f207,WG,Zir,λN=>[(167,Zdt N),(37,Z0 N)]⟩
theorem Zpl(N:Nat):GW 207 (Zir N):=GF Zx0 N Tryz.func207 (GC (Zhs N) (GC (Z6 N) Wg))
def Zg6(N:Nat):Sig:=Sig.of [.v (.prod Ja Jaa) true] [.v Ja false] (λd=>Zde N d.1)
def Zsn:Fn:=⟨Tryz.f228,WG,Zg6,Wbk⟩
theorem Znx(N:Nat):GW 228 (Zg6 N):=GF Zsn N Tryz.func228 Wg
def Zj3(N:Nat):Sig:=Sig.of [.v (.prod Ja Jaa) true] [.v Jp false] (λd=>Zfn N d.1)
def Zf9:Fn:=⟨Tryz.f208,λ |4=>[.canon [1,3,38]]|5=>[.canon [1,3]]|6=>[.canon [1,3,54]]|7=>[.canon [2]]|9=>[.canon [1,56,57,58,59]]|10=>[.canon [1,4,5,56,57,58]]|11=>[.canon [1,56,57,58,79]]|12=>[.canon [2]]|13=>[.canon [1,56,57,58]]|100004=>[.canon [1,3]]|100009=>[.canon [1,56,57,58]]|_=>[],Zj3,λN=>[(71,Zcg N),(68,Zs N),(72,Zcv N),(129,Zb8 N),(228,Zg6 N)]⟩
def Ztz(i7:Int)(b8:Int×Int×Int×Int×Int×List Kc×List Int):St:=⟨[(1,vP 0 0),(3,vI i7)],[(0,.box [.val Ja b8.1,.val Ja b8.2.1,.val Ja b8.2.2.1,.val Ja b8.2.2.2.1,.val Ja b8.2.2.2.2.1,.val Jn b8.2.2.2.2.2.1,.val Jj b8.2.2.2.2.2.2])],1⟩
def Zso(b8:Int×Int×Int×Int×Int×List Kc×List Int):St:=⟨[(2,vB false)],[],0⟩
def Zsp(b8:Int×Int×Int×Int×Int×List Kc×List Int)(i9:Int)(ao:Bool):St:=⟨[(1,vP 0 0),(3,vI i9),(38,vB ao)],[(0,.box [.val Ja b8.1,.val Ja b8.2.1,.val Ja b8.2.2.1,.val Ja b8.2.2.2.1,.val Ja b8.2.2.2.2.1,.val Jn b8.2.2.2.2.2.1,.val Jj b8.2.2.2.2.2.2])],1⟩
theorem Zt0(N:Nat){R:Type}(K:Ex->St->Option R){b8:Int×Int×Int×Int×Int×List Kc×List Int}{K0:Option R}{K1:Int->Bool->Option R}(h0:K0=K .ret (Zso b8))(h1:K1= λi9 ao=>K (.exit 0) (Zsp b8 i9 ao))(n:Nat)(i7:Int):Zby N b8 K0 K1 n i7=LM Zf9 N 0 100004 n (Ztz i7 b8) K:=by
  subst h0 h1
  induction n generalizing i7 with
  |zero=>kernel_rfl
  |succ n ih=>rw[Zby];simp only[ih];kernel_rfl
def Zt1(ba:List Int)(bf:Int)(ax:Int×Int×Int×Int×Int×List Kc×List Int):St:=⟨[(1,vP 0 0),(56,vV Jj ba),(57,vI (Wj ax.2.2.2.2.2.2)),(58,vI bf)],[(0,.box [.val Ja ax.1,.val Ja ax.2.1,.val Ja ax.2.2.1,.val Ja ax.2.2.2.1,.val Ja ax.2.2.2.2.1,.val Jn ax.2.2.2.2.2.1,.val Jj ax.2.2.2.2.2.2])],1⟩
def Zsq(ba:List Int)(ax:Int×Int×Int×Int×Int×List Kc×List Int):St:=⟨[(2,vB false)],[],0⟩
def Zsr(ba:List Int)(ax:Int×Int×Int×Int×Int×List Kc×List Int)(eR:Int)(gH:Bool):St:=⟨[(1,vP 0 0),(56,vV Jj ba),(57,vI (Wj ax.2.2.2.2.2.2)),(58,vI eR),(59,vB gH)],[(0,.box [.val Ja ax.1,.val Ja ax.2.1,.val Ja ax.2.2.1,.val Ja ax.2.2.2.1,.val Ja ax.2.2.2.2.1,.val Jn ax.2.2.2.2.2.1,.val Jj ax.2.2.2.2.2.2])],1⟩
theorem Zt2(N:Nat){R:Type}(K:Ex->St->Option R){ba:List Int}{ax:Int×Int×Int×Int×Int×List Kc×List Int}{K0:Option R}{K1:Int->Bool->Option R}(h0:K0=K .ret (Zsq ba ax))(h1:K1= λeR gH=>K (.exit 2) (Zsr ba ax eR gH))(n:Nat)(bf:Int):Zbg N ba ax K0 K1 n bf=LM Zf9 N 1 100009 n (Zt1 ba bf ax) K:=by
  subst h0 h1
  induction n generalizing bf with
  |zero=>kernel_rfl
  |succ n ih=>rw[Zbg];simp only[ih];kernel_rfl
theorem Z0s(N:Nat)(c1:Int×Int×Int×Int×Int×List Kc×List Int):DN Zf9 N (c1,())=Zfn N c1:=by
  conv=>rhs;rw[Zfn];simp(disch:=exact id (by kernel_rfl)) only[Zt0 (R:=Unit×Kq) N (CF Zf9 N [1,1,0,1,0]),Zt2 (R:=Unit×Kq) N (CF Zf9 N [1,1,1,0,1,0])]
  kernel_rfl
theorem Zqq(N:Nat):GW 208 (Zj3 N):=GF Zf9 N Tryz.func208 (GC (Zev N) (GC (Zy N) (GC (Zft N) (GC (Zdy N) (GC (Znx N) Wg))))) (λd=>Z0s N d.1)
def Zfu(N:Nat):Sig:=Sig.of [.box Jd,.v Ja false] [] (λd=>Z5 N d.1 d.2.1)
def Zq8:Fn:=⟨Tryz.f209,WG,Zfu,Wbk⟩
theorem Zmy(N:Nat):GW 209 (Zfu N):=GF Zq8 N Tryz.func209 Wg
def Zla(N:Nat):Sig:=Sig.of [.v (.prod Ja Jaa) true] [.v Jd true,.v Jp false] (λd=>Zjc N d.1)
def Zv2:Fn:=⟨Tryz.f168,WG,Zla,λN=>[(207,Zir N),(208,Zj3 N),(209,Zfu N)]⟩
theorem Zv3(N:Nat):GW 168 (Zla N):=GF Zv2 N Tryz.func168 (GC (Zpl N) (GC (Zqq N) (GC (Zmy N) Wg)))
def Zew(N:Nat):Sig:=Sig.of [.v Ju true] [.v Jaj true] (λd=>Zcl N d.1)
def Z2b:Fn:=⟨Tryz.f210,WG,Zew,Wbk⟩
theorem Zik(N:Nat):GW 210 (Zew N):=GF Z2b N Tryz.func210 Wg
def Zqd(N:Nat):Sig:=Sig.of [.v Ju true,.v Ja false,.v Ja false] [.v Jaj true,.v Jp false] (λd=>Znv N d.1 d.2.1 d.2.2.1)
def Z4x:Fn:=⟨Tryz.f211,WG,Zqd,λN=>[(210,Zew N),(39,Zdh N),(129,Zb8 N),(71,Zcg N)]⟩
theorem Z4y(N:Nat):GW 211 (Zqd N):=GF Z4x N Tryz.func211 (GC (Zik N) (GC (Zgy N) (GC (Zdy N) (GC (Zev N) Wg))))
def Zgh(N:Nat):Sig:=Sig.of [.box Jd,.v Ja false] [] (λd=>Ze4 N d.1 d.2.1)
def Zrs:Fn:=⟨Tryz.f214,WG,Zgh,Wbk⟩
theorem Znk(N:Nat):GW 214 (Zgh N):=GF Zrs N Tryz.func214 Wg
def Zlb(N:Nat):Sig:=Sig.of [.box Jd,.v Ja false] [] (λd=>Zbr N d.1 d.2.1)
def Zv4:Fn:=⟨Tryz.f212,WG,Zlb,λN=>[(228,Zg6 N),(214,Zgh N)]⟩
theorem Zv5(N:Nat):GW 212 (Zlb N):=GF Zv4 N Tryz.func212 (GC (Znx N) (GC (Znk N) Wg))
def Zqe(N:Nat):Sig:=Sig.of [.v Ju true] [.v Jaj true,.v Ja false] (λd=>Zp1 N d.1)
def Z4z:Fn:=⟨Tryz.f213,WG,Zqe,λN=>[(210,Zew N),(39,Zdh N)]⟩
theorem Z40(N:Nat):GW 213 (Zqe N):=GF Z4z N Tryz.func213 (GC (Zik N) (GC (Zgy N) Wg))
def Zpx(N:Nat):Sig:=Sig.of [.v Ju true,.v Ja false,.v Ja false,.v Ja false] [.v Jaj true,.v Jp false] (λd=>Zou N d.1 d.2.1 d.2.2.1 d.2.2.2.1)
def Z4i:Fn:=⟨Tryz.f215,WG,Zpx,λN=>[(210,Zew N),(39,Zdh N),(129,Zb8 N),(71,Zcg N),(83,Za4 N)]⟩
theorem Z4j(N:Nat):GW 215 (Zpx N):=GF Z4i N Tryz.func215 (GC (Zik N) (GC (Zgy N) (GC (Zdy N) (GC (Zev N) (GC (Zbv N) Wg)))))
def Zpd(N:Nat):Sig:=Sig.of [.v Ju true,.v Ja false,.v Ja false,.v Ja false] [.v Jaj true,.v Jp false] (λd=>Zli N d.1 d.2.1 d.2.2.1 d.2.2.2.1)
def Z3n:Fn:=⟨Tryz.f216,WG,Zpd,λN=>[(210,Zew N),(39,Zdh N),(129,Zb8 N),(71,Zcg N),(68,Zs N)]⟩
theorem Z3o(N:Nat):GW 216 (Zpd N):=GF Z3n N Tryz.func216 (GC (Zik N) (GC (Zgy N) (GC (Zdy N) (GC (Zev N) (GC (Zy N) Wg)))))
def Zlv(N:Nat):Sig:=Sig.of [.v Ju true,.v (.prod Ja Jaa) true] [.v Jaj true,.v Jd true] (λd=>Zjt N d.1 d.2.1)
def Zx1:Fn:=⟨Tryz.f169,WG,Zlv,λN=>[(210,Zew N),(207,Zir N),(39,Zdh N),(208,Zj3 N),(211,Zqd N),(212,Zlb N),(209,Zfu N),(213,Zqe N),(214,Zgh N),(215,Zpx N),(216,Zpd N)]⟩
theorem Zx2(N:Nat):GW 169 (Zlv N):=GF Zx1 N Tryz.func169 (GC (Zik N) (GC (Zpl N) (GC (Zgy N) (GC (Zqq N) (GC (Z4y N) (GC (Zv5 N) (GC (Zmy N) (GC (Z40 N) (GC (Znk N) (GC (Z4j N) (GC (Z3o N) Wg)))))))))))
def Zkh(N:Nat):Sig:=Sig.of [.box Jw,.v Ja false] [] (λd=>Zgk N d.1 d.2.1)
def Zt3:Fn:=⟨Tryz.f122,λ |0=>[.opn 13]|_=>[],Zkh,λN=>[(168,Zla N),(115,Zc8 N),(169,Zlv N),(167,Zdt N)]⟩
theorem Zt4(N:Nat):GW 122 (Zkh N):=GF Zt3 N Tryz.func122 (GC (Zv3 N) (GC (Zhb N) (GC (Zx2 N) (GC (Zhs N) Wg))))
def Zis(N:Nat):Sig:=Sig.of [.v Jl true,.box Ja] [.v Jp false] (λd=>Zf7 N d.1 d.2.1)
def Zx3:Fn:=⟨Tryz.f173,WG,Zis,Wbk⟩
theorem Zpm(N:Nat):GW 173 (Zis N):=GF Zx3 N Tryz.func173 Wg
def Zar(N:Nat):Sig:=Sig.of [.v Jf false,.clos 173 1,.box Ja] [.v Ja false] (λd=>Zw N d.1 d.2.1)
def Zab:Fn:=⟨Tryz.f219,λ |2=>[.canon [0,1,7,8,9]]|3=>[.canon [0,1,5,7,8]]|4=>[.canon [0,1,5,7,8,16]]|5=>[.canon [1,4]]|6=>[.canon [0,1,7,8]]|100002=>[.canon [0,1,7,8]]|_=>[],Zar,λN=>[(173,Zis N)]⟩
def Zex(s3:List Kb)(t5:Int)(b6:Int):St:=⟨[(0,vV Jf s3),(1,.s (.one (.clos 173 [0]))),(7,vI (Wj s3)),(8,vI t5)],[(0,.box [.val Ja b6])],1⟩
def Zed(s3:List Kb)(t9:Int)(au:Int):St:=⟨[(1,.s (.one (.clos 173 [0]))),(4,vI t9)],[(0,.box [.val Ja au])],1⟩
def Zee(s3:List Kb)(aq:Int)(aH:Bool)(bp:Int):St:=⟨[(0,vV Jf s3),(1,.s (.one (.clos 173 [0]))),(7,vI (Wj s3)),(8,vI aq),(9,vB aH)],[(0,.box [.val Ja bp])],1⟩
theorem Zey(N:Nat){R:Type}(K:Ex->St->Option R){s3:List Kb}{K0:Int->Int->Option R}{K1:Int->Bool->Int->Option R}(h0:K0= λt9 au=>K .ret (Zed s3 t9 au))(h1:K1= λaq aH bp=>K (.exit 0) (Zee s3 aq aH bp))(n:Nat)(t5:Int)(b6:Int):Zk N s3 K0 K1 n t5 b6=LM Zab N 0 100002 n (Zex s3 t5 b6) K:=by
  subst h0 h1
  induction n generalizing t5 b6 with
  |zero=>kernel_rfl
  |succ n ih=>rw[Zk];simp only[ih];kernel_rfl
theorem Zfv(N:Nat)(s1:List Kb)(cj:Int):DN Zab N (s1,cj,())=Zw N s1 cj:=by
  conv=>rhs;rw[Zw];simp(disch:=exact id (by kernel_rfl)) only[Zey (R:=Kh×Kh) N (CF Zab N [1,0,1,0])]
  kernel_rfl
theorem Zfw(N:Nat):GW 219 (Zar N):=GF Zab N Tryz.func219 (GC (Zpm N) Wg) (λd=>Zfv N d.1 d.2.1)
def Zap(N:Nat):Sig:=Sig.of [.v (.own Jl) false,.clos 173 1,.box Ja] [.v (.own Jl) false] (λd=>Zp N d.1 d.2.1)
def Z8:Fn:=⟨Tryz.f172,λ |5=>[.canon [0,1,5,6,19]]|6=>[.canon [0,1,5,6]]|7=>[.canon [0,1,5,6,7]]|8=>[.canon [0,1,5,6,7,29]]|9=>[.canon [0,1,5,6]]|10=>[.canon [0,1,5,6]]|11=>[.view 38]|100005=>[.canon [0,1,5,6]]|_=>[],Zap,λN=>[(219,Zar N),(173,Zis N)]⟩
def Zef(i4:Int)(j5:Int)(l6:List Kb)(b7:Int):St:=⟨[(0,vO 0),(1,.s (.one (.clos 173 [1]))),(5,vI i4),(6,vI j5)],[(0,.arr Jl l6),(1,.box [.val Ja b7])],2⟩
def Zd7(i9:Int)(wc:Int)(aq:Bool)(aY:List Kb)(bp:Int):St:=⟨[(0,vO 0),(1,.s (.one (.clos 173 [1]))),(5,vI i9),(6,vI wc),(19,vB aq)],[(0,.arr Jl aY),(1,.box [.val Ja bp])],2⟩
theorem Zeg(N:Nat){R:Type}(K:Ex->St->Option R){K0:Int->Int->Bool->Ks->Int->Option R}(h0:K0= λi9 wc aq aY bp=>K (.exit 0) (Zd7 i9 wc aq aY bp))(n:Nat)(i4:Int)(j5:Int)(l6:List Kb)(b7:Int):Zd N K0 n i4 j5 l6 b7=LM Z8 N 0 100005 n (Zef i4 j5 l6 b7) K:=by
  subst h0
  induction n generalizing i4 j5 l6 b7 with
  |zero=>kernel_rfl
  |succ n ih=>rw[Zd];simp only[ih];kernel_rfl
theorem Zfh(N:Nat)(s1:List Kb)(cj:Int):DN Z8 N (s1,cj,())=Zp N s1 cj:=by
  conv=>rhs;rw[Zp];simp(disch:=exact id (by kernel_rfl)) only[Zeg (R:=Kh×Kad) N (CF Z8 N [1,1,1,0,1,0])]
  kernel_rfl
theorem Zfi(N:Nat):GW 172 (Zap N):=GF Z8 N Tryz.func172 (GC (Zfw N) (GC (Zpm N) Wg)) (λd=>Zfh N d.1 d.2.1)
def Znq(N:Nat):Sig:=Sig.of [.v Jf false,.v Ja false] [.v (.own Jl) false] (λd=>Zl0 N d.1 d.2.1)
def Z0t:Fn:=⟨Tryz.f123,WG,Znq,λN=>[(170,Zjl N),(171,Zgx N),(172,Zap N)]⟩
theorem Z0u(N:Nat):GW 123 (Znq N):=GF Z0t N Tryz.func123 (GC (Zp7 N) (GC (Zk1 N) (GC (Zfi N) Wg)))
def Zlw(N:Nat):Sig:=Sig.of [.box Jw,.v Ja false,.v Jk true] [] (λd=>Zhr N d.1 d.2.1 d.2.2.1)
def Zx4:Fn:=⟨Tryz.f69,λ |1=>[.opn 12]|_=>[],Zlw,λN=>[(68,Zs N),(115,Zc8 N),(116,Zlt N),(117,Zmv N),(118,Zmx N),(119,Zhi N),(120,Ziq N),(121,Zkg N),(122,Zkh N),(123,Znq N),(124,Zjh N)]⟩
theorem Zx5(N:Nat):GW 69 (Zlw N):=GF Zx4 N Tryz.func69 (GC (Zy N) (GC (Zhb N) (GC (Zxo N) (GC (Zzu N) (GC (Zzy N) (GC (Zos N) (GC (Zpk N) (GC (Zty N) (GC (Zt4 N) (GC (Z0u N) (GC (Zp3 N) Wg)))))))))))
def Zit(N:Nat):Sig:=Sig.of [.v Jl true,.box Ja] [.v Jp false] (λd=>Zj6 N d.1 d.2.1)
def Zrt:Fn:=⟨Tryz.f180,WG,Zit,Wbk⟩
theorem Zru(N:Nat):GW 180 (Zit N):=GF Zrt N Tryz.func180 Wg
def Zai(N:Nat):Sig:=Sig.of [.v Jf false,.clos 180 1,.box Ja] [.v Ja false] (λd=>Zo N d.1 d.2.1)
def Z1:Fn:=⟨Tryz.f179,λ |2=>[.canon [0,1,7,8,9]]|3=>[.canon [0,1,5,7,8]]|4=>[.canon [0,1,5,7,8,16]]|5=>[.canon [1,4]]|6=>[.canon [0,1,7,8]]|100002=>[.canon [0,1,7,8]]|_=>[],Zai,λN=>[(180,Zit N)]⟩
def Zdi(s3:List Kb)(t5:Int)(b6:Int):St:=⟨[(0,vV Jf s3),(1,.s (.one (.clos 180 [0]))),(7,vI (Wj s3)),(8,vI t5)],[(0,.box [.val Ja b6])],1⟩
def Zda(s3:List Kb)(t9:Int)(au:Int):St:=⟨[(1,.s (.one (.clos 180 [0]))),(4,vI t9)],[(0,.box [.val Ja au])],1⟩
def Zdb(s3:List Kb)(aq:Int)(aH:Bool)(bp:Int):St:=⟨[(0,vV Jf s3),(1,.s (.one (.clos 180 [0]))),(7,vI (Wj s3)),(8,vI aq),(9,vB aH)],[(0,.box [.val Ja bp])],1⟩
theorem Zdj(N:Nat){R:Type}(K:Ex->St->Option R){s3:List Kb}{K0:Int->Int->Option R}{K1:Int->Bool->Int->Option R}(h0:K0= λt9 au=>K .ret (Zda s3 t9 au))(h1:K1= λaq aH bp=>K (.exit 0) (Zdb s3 aq aH bp))(n:Nat)(t5:Int)(b6:Int):Zf N s3 K0 K1 n t5 b6=LM Z1 N 0 100002 n (Zdi s3 t5 b6) K:=by
  subst h0 h1
  induction n generalizing t5 b6 with
  |zero=>kernel_rfl
  |succ n ih=>rw[Zf];simp only[ih];kernel_rfl
theorem Zd8(N:Nat)(s1:List Kb)(cj:Int):DN Z1 N (s1,cj,())=Zo N s1 cj:=by
  conv=>rhs;rw[Zo];simp(disch:=exact id (by kernel_rfl)) only[Zdj (R:=Kh×Kh) N (CF Z1 N [1,0,1,0])]
  kernel_rfl
theorem Zd9(N:Nat):GW 179 (Zai N):=GF Z1 N Tryz.func179 (GC (Zru N) Wg) (λd=>Zd8 N d.1 d.2.1)
def Zfc(N:Nat):Sig:=Sig.of [.rp (TY_Family),.v Ja false] [.v Ja false] (λd=>Zcq N d.1 d.2.1)
def Zt5:Fn:=⟨Tryz.f127,WG,Zfc,λN=>[(179,Zai N)]⟩
theorem Zki(N:Nat):GW 127 (Zfc N):=GF Zt5 N Tryz.func127 (GC (Zd9 N) Wg)
def Zgi(N:Nat):Sig:=Sig.of [.box Jab,.v Ja false] [] (λd=>Zbh N d.1 d.2.1)
def Zrv:Fn:=⟨Tryz.f128,WG,Zgi,λN=>[(37,Z0 N)]⟩
theorem Znl(N:Nat):GW 128 (Zgi N):=GF Zrv N Tryz.func128 (GC (Z6 N) Wg)
def Zlc(N:Nat):Sig:=Sig.of [.box Jab,.v Ja false,.v Jz true,.v Ju true] [] (λd=>Zi5 N d.1 d.2.1 d.2.2.1 d.2.2.2.1)
def Zv6:Fn:=⟨Tryz.f174,λ |1=>[.opn 18]|_=>[],Zlc,λN=>[(194,Zll N),(127,Zfc N),(128,Zgi N),(195,Zj1 N),(196,Zji N)]⟩
theorem Zv7(N:Nat):GW 174 (Zlc N):=GF Zv6 N Tryz.func174 (GC (Zqc N) (GC (Zki N) (GC (Znl N) (GC (Zqo N) (GC (Zp4 N) Wg)))))
def Zkj(N:Nat):Sig:=Sig.of [.box Ji,.v Jc false] [] (λd=>Zil N d.1 d.2.1)
def Zt6:Fn:=⟨Tryz.f175,λ |5=>[.opn 28]|_=>[],Zkj,λN=>[(37,Z0 N),(167,Zdt N),(98,Znf N)]⟩
theorem Zt7(N:Nat):GW 175 (Zkj N):=GF Zt6 N Tryz.func175 (GC (Z6 N) (GC (Zhs N) (GC (Ztn N) Wg)))
def Zlx(N:Nat):Sig:=Sig.of [.box Jab,.v Ja false,.v Jc false,.v Ju true] [] (λd=>Zjq N d.1 d.2.1 d.2.2.1 d.2.2.2.1)
def Zx6:Fn:=⟨Tryz.f125,λ |1=>[.opn 16]|18=>[.nest 128 Jt]|_=>[],Zlx,λN=>[(174,Zlc N),(175,Zkj N),(37,Z0 N),(97,Zn4 N)]⟩
theorem Zx7(N:Nat):GW 125 (Zlx N):=GF Zx6 N Tryz.func125 (GC (Zv7 N) (GC (Zt7 N) (GC (Z6 N) (GC (Zwk N) Wg))))
def Zbb(N:Nat):Sig:=Sig.of [.mut Jl,.clos 178 0] [] (λd=>Zak N d.1)
theorem Zeh:CmpOk Tryz.prog 178 Jl WxP cfE:=by
  intro G x y us vs w hx hy h1 h2;obtain⟨_,_,rfl,a1,_,_,rfl,a2,a3⟩:=h1;obtain⟨_,_,rfl,b1,_,_,rfl,b2,b3⟩:=h2;simp only[Enc]at a1 a2 a3 b1 b2 b3;subst a1 a2 a3 b1 b2 b3;simp only[Xba,Xbn]
  go_enter Tryz.func178,Tryz.ntmps178
  go_wp2
  rw[sub_run (Whe hx) (Whe hy) (c:=cfE x y) rfl]
  go_wp2
  go_ret
  exact⟨rfl,two_grow _ _ _⟩
theorem Zei(N:Nat):GW 177 (Zbb N):=⟨WcY Tryz.func177 (show Woh Tryz.f177=true by kernel_rfl),good_sortF sortFE (e:=.prod Ja Jx) rfl (by decide) Tryz.isAgg187 Tryz.sizeOf187 (enters_of Tryz.func178 (by kernel_rfl) rfl) Wy9 Zeh N⟩
def Zkk(N:Nat):Sig:=Sig.of [.box Jab,.v Ja false] [] (λd=>Zd1 N d.1 d.2.1)
def Zcx:Fn:=⟨Tryz.f126,λ |0=>[.opn 16]|3=>[.canon [0,1,4,28,29,30,31]]|4=>[.canon [0,1,4,6,28,29,30]]|5=>[.canon [0,1,4,6,7,28,29,30]]|6=>[.canon [0,1,4,7,8,28,29,30]]|7=>[.canon [0,1,4,7,8,28,29,30,48]]|8=>[.canon [0,1,4,28,29,30]]|9=>[.canon [0,1,4,28,29,30]]|10=>[.canon [0,1,4,28,29,30]]|13=>[.canon [0,1,4,75,76,77,78]]|14=>[.canon [0,1,4,10,75,76,77]]|15=>[.canon [0,1,4,10,75,76,77,83]]|16=>[.canon [0,1,4,75,76,77]]|17=>[.canon [0,1,4,75,76,77]]|100003=>[.canon [0,1,4,28,29,30]]|100013=>[.canon [0,1,4,75,76,77]]|_=>[],Zkk,λN=>[(176,Zkf N),(127,Zfc N),(177,Zbb N)]⟩
def Zqr(k4:Int)(t5:Int)(t6:Int)(b7:Int)(b8:Int)(b9:Int)(au:Bool)(aX:Int)(bw:Int)(bp:Int)(dy:Int)(bD:Int)(ax:Int)(hQ:Bool)(db:Int)(da:Int)(dz:Int)(hY:Int)(bY:List Kc)(cJ:List Int)(cK:List Kc)(gE:List Kb)(hZ:List Int)(cA:List Kc)(fH:List Y_KidRun)(ia:Nat)(fI:List Int)(ew:List Kb)(fJ:List Kc)(cV:List Kk):St:=⟨[(0,vP 0 0),(1,vI k4),(4,vP 1 0),(28,vO 2),(29,vI t5),(30,vI t6)],[(0,.box [.val Ja b7,.val Ja b8,.val Ja b9,.val Jp au,.own 3,.own 4,.own 5,.own 6,.own 7,.own 8]),(1,.box [.val Ja aX,.val Ja bw,.val Ja bp,.val Ja dy,.val Ja bD,.val Ja ax,.own 9,.own 10,.own 11,.own 12,.val Jp hQ,.val Ja db,.val Ja da,.val Ja dz,.val Ja hY]),(2,.arr Jx bY),(3,.arr Ja cJ),(4,.arr Jx cK),(5,.arr Jl gE),(6,.arr Ja hZ),(7,.arr Jx cA),(8,.hole Ji fH ia 1),(9,.arr Ja fI),(10,.arr Jl ew),(11,.arr Jx fJ),(12,.arr Jt cV)],13⟩
def Zqf(k4:Int)(t5:Int)(b7:Int)(b8:Int)(b9:Int)(au:Bool)(aX:Int)(bw:Int)(bp:Int)(dy:Int)(bD:Int)(ax:Int)(hQ:Bool)(db:Int)(da:Int)(dz:Int)(hY:Int)(bY:List Kc)(cJ:List Int)(cK:List Kc)(hZ:List Int)(cA:List Kc)(fH:List Y_KidRun)(ia:Nat)(fI:List Int)(ew:List Kb)(fJ:List Kc)(cV:List Kk)(t35:Int)(t36:Bool)(jR:List Kb):St:=⟨[(0,vP 0 0),(1,vI k4),(4,vP 1 0),(28,vO 2),(29,vI t5),(30,vI t35),(31,vB t36)],[(0,.box [.val Ja b7,.val Ja b8,.val Ja b9,.val Jp au,.own 3,.own 4,.own 5,.own 6,.own 7,.own 8]),(1,.box [.val Ja aX,.val Ja bw,.val Ja bp,.val Ja dy,.val Ja bD,.val Ja ax,.own 9,.own 10,.own 11,.own 12,.val Jp hQ,.val Ja db,.val Ja da,.val Ja dz,.val Ja hY]),(2,.arr Jx bY),(3,.arr Ja cJ),(4,.arr Jx cK),(5,.arr Jl jR),(6,.arr Ja hZ),(7,.arr Jx cA),(8,.hole Ji fH ia 1),(9,.arr Ja fI),(10,.arr Jl ew),(11,.arr Jx fJ),(12,.arr Jt cV)],13⟩
end
end Go.Sx
