/- Each Go function does what its Lean function says. -/
import Derived.Test.YtaohbbihecfgcaaGreatT2
import Derived.Test.YtaohbbihecfgcaaGreatProg
import Derived.Test.YtaohbbihecfgcaaGreatLay
open Bool renaming and_eq_true→Xi
namespace Go.Sx
noncomputable section
open Go.Proofs
abbrev Ja:Ty:=.int .i64
abbrev Jb:Ty:=.prod Ja (.prod Ja Ja)
abbrev Jc:Ty:=.own (.prod Ja Ja)
abbrev Jd:Ty:=.slice (.prod Ja Ja)
abbrev Je:Ty:=.slice Ja
abbrev Jf:Ty:=.prod Ja (.prod Ja (.prod Ja (.prod (.bool) (.prod (.own Ja) (.prod Jc (.prod (.own Jb) (.prod (.own Ja) (.prod Jc (.own (.prod Ja (.prod Ja (.prod Ja (.prod Ja (.prod Ja (.prod Ja (.prod (.own Ja) (.prod (.own Jb) (.prod Jc (.prod (.own (.prod Ja (.prod Ja (.own Ja)))) (.prod (.bool) (.prod Ja Jb)))))))))))))))))))))
abbrev Jg:Ty:=.slice (.prod Ja Jb)
abbrev Jh:Ty:=.prod Ja (.prod Ja (.prod (.prod Ja (.own Jb)) (.prod (.prod (.own Ja) Ja) (.prod (.own Jb) (.prod (.own (TY_Root)) (.own (.prod Ja (.prod Ja Jd))))))))
abbrev Ji:Ty:=.prod Ja (.prod Ja (.prod Ja (.prod Ja (.prod Ja (.prod Jc (.own Ja))))))
abbrev Jj:Ty:=.prod Ja (.prod Ja (.prod Ja (.prod Ja Je)))
abbrev Jk:Ty:=.prod Ja (.prod Ja (.prod Ja (.prod Ja (.prod Ja (.prod Ja (.prod Ja (.prod Ja (.prod Ja (.prod Ja (.prod Ja (.prod (.bool) (.prod (.own Ja) (.prod Jc (.prod Jc (.prod (.own Jj) (.prod (.own Jb) (.prod (.own Ja) (.prod (.bool) (.prod (.prod Ja Jb) (.prod Ji Jf))))))))))))))))))))
abbrev Jl:Ty:=.prod Ja (.prod Ja (.prod Ja (.prod Ja (.prod Ja (.prod Ja (.prod (.own Ja) (.prod (.own Jb) (.prod Jc (.prod (.own (.prod Ja (.prod Ja (.own Ja)))) (.prod (.bool) (.prod Ja Jb)))))))))))
abbrev Jm:Ty:=.slice (.prod Jg (.slice Jg))
abbrev Jn:Ty:=.prod Ja (.prod Ja (.prod Ja (.prod Ja (.prod Ja (.prod Jd Je)))))
abbrev Jo:Ty:=.slice Jb
abbrev Jp:Ty:=.prod Ja (.prod Ja (.prod (.prod Ja (.own Jb)) (.prod (.prod (.own Ja) Ja) (.prod (.own Jb) (.prod (.own Jk) (.own (.prod Ja (.prod Ja Jd))))))))
abbrev Jq:Ty:=.prod Ja Jb
abbrev Jr:Ty:=.bool
abbrev Js:Ty:=.prod (.prod Je (.prod Je Ja)) (.prod Jm Jo)
abbrev Jt:Ty:=.prod Ja Ja
abbrev Ju:Ty:=.prod Je (.prod Jd (.prod Jo (.prod Je (.prod Jd (.own (TY_KidRun))))))
abbrev Jv:Ty:=.prod Ja (.prod Ja (.prod Ja (.prod Ja (.prod Ja (.prod Ja (.prod Ja (.prod Ja (.prod Ja (.prod Ja (.prod Ja (.prod Jr (.prod Je (.prod Jd (.prod Jd (.prod (.slice Jj) (.prod (.own Jb) (.prod Je (.prod Jr (.prod Jq (.prod Jn (TY_Family)))))))))))))))))))))
abbrev Jw:Ty:=.prod Ja (.prod Ja Jd)
abbrev Jx:Ty:=.own Ja
abbrev Jy:Ty:=.prod Ja (.own Jb)
abbrev Jz:Ty:=.prod (.own Jq) (.own (.own Jq))
abbrev Jaa:Ty:=.slice (TY_KidRun)
abbrev Jab:Ty:=.slice Jg
abbrev Jac:Ty:=.prod Ja (.prod Ja (.prod Ja (.prod Jr Ju)))
abbrev Jad:Ty:=.prod Ja Jo
abbrev Jae:Ty:=.prod Je Ja
abbrev Jaf:Ty:=.prod Ja (.prod Ja Je)
abbrev Jag:Ty:=.prod Jg Jab
abbrev Jah:Ty:=.prod Ja (.prod Ja (.prod Ja (.prod Jr (.prod Jx (.prod Jc (.prod (.own Jb) (.prod Jx (.prod Jc (.own (TY_KidRun))))))))))
abbrev Jai:Ty:=.prod Jx Ja
abbrev Jaj:Ty:=.prod Ja (.prod Ja Jx)
abbrev Jak:Ty:=.prod Je Jae
abbrev Jal:Ty:=.own Jq
abbrev Jam:Ty:=.own Jb
set_option linter.unusedVariables false
set_option linter.unusedSimpArgs false
def tab:Tab:=[(3,⟨.int .i64,false,.basic⟩),(4,⟨.bool,false,.basic⟩),(22,⟨.slice Ja,false,.slice 3⟩),(24,⟨.prod Je Jae,true,.struct [(0,22),(1,22),(2,3)]⟩),(25,⟨.slice Jag,false,.slice 93⟩),(26,⟨.slice Jb,false,.slice 107⟩),(28,⟨.prod Jak (.prod Jm Jo),true,.struct [(0,24),(3,25),(4,26)]⟩),(30,⟨.slice Jq,false,.slice 75⟩),(32,⟨.prod Je Jae,true,.struct [(0,22),(1,22),(2,3)]⟩),(33,⟨.slice Jag,false,.slice 99⟩),(34,⟨.slice Jb,false,.slice 73⟩),(36,⟨.prod Jak (.prod Jm Jo),true,.struct [(0,32),(3,33),(4,34)]⟩),(47,⟨.slice Jb,false,.slice 126⟩),(49,⟨.prod Ja Jo,true,.struct [(0,3),(1,47)]⟩),(51,⟨.prod Je Ja,true,.struct [(0,22),(1,3)]⟩),(52,⟨.slice Jb,false,.slice 213⟩),(53,⟨.slice (TY_Root),false,.slice 70⟩),(54,⟨.slice Jw,false,.slice 188⟩),(56,⟨TY_World,true,.struct [(0,3),(1,3),(2,49),(4,51),(6,52),(7,53),(8,54)]⟩),(58,⟨.slice Jt,false,.slice 175⟩),(59,⟨.slice Jj,false,.slice 152⟩),(60,⟨.slice Jb,false,.slice 192⟩),(62,⟨.prod Ja Jb,true,.struct [(0,3),(1,3),(2,3),(3,3)]⟩),(64,⟨.prod Ja (.prod Ja (.prod Ja (.prod Ja (.prod Ja (.prod Jd Je))))),true,.struct [(0,3),(1,3),(2,3),(3,3),(4,3),(5,58),(6,22)]⟩),(65,⟨.slice Jb,false,.slice 143⟩),(66,⟨.slice (TY_KidRun),false,.slice 138⟩),(68,⟨TY_Family,true,.struct [(0,3),(1,3),(2,3),(3,4),(4,22),(5,58),(6,65),(7,22),(8,58),(9,66)]⟩),(70,⟨TY_Root,true,.struct [(0,3),(1,3),(2,3),(3,3),(4,3),(5,3),(6,3),(7,3),(8,3),(9,3),(10,3),(11,4),(12,22),(13,58),(14,58),(15,59),(16,60),(17,22),(18,4),(19,62),(23,64),(30,68)]⟩),(73,⟨.prod Ja Jt,true,.struct [(0,3),(1,3),(2,3)]⟩),(75,⟨.prod Ja Jb,true,.struct [(0,3),(1,3),(2,3),(3,3)]⟩),(90,⟨.slice Jq,false,.slice 199⟩),(91,⟨.slice Jg,false,.slice 165⟩),(93,⟨.prod Jg Jab,true,.struct [(0,90),(1,91)]⟩),(96,⟨.slice Jq,false,.slice 162⟩),(97,⟨.slice Jg,false,.slice 114⟩),(99,⟨.prod Jg Jab,true,.struct [(0,96),(1,97)]⟩),(107,⟨.prod Ja Jt,true,.struct [(0,3),(1,3),(2,3)]⟩),(114,⟨.slice Jq,true,.struct [(0,96)]⟩),(126,⟨.prod Ja Jt,true,.struct [(0,3),(1,3),(2,3)]⟩),(136,⟨.slice Jaf,false,.slice 195⟩),(138,⟨TY_KidRun,true,.struct [(0,3),(1,3),(2,3),(3,3),(4,3),(5,3),(6,22),(7,65),(8,58),(9,136),(10,4),(11,62)]⟩),(143,⟨.prod Ja Jt,true,.struct [(0,3),(1,3),(2,3)]⟩),(152,⟨.prod Ja (.prod Ja Jaf),true,.struct [(0,3),(1,3),(2,3),(3,3),(4,22)]⟩),(162,⟨.prod Ja Jb,true,.struct [(0,3),(1,3),(2,3),(3,3)]⟩),(165,⟨.slice Jq,true,.struct [(0,90)]⟩),(175,⟨.prod Ja Ja,true,.struct [(0,3),(1,3)]⟩),(188,⟨.prod Ja (.prod Ja Jd),true,.struct [(0,3),(1,3),(2,58)]⟩),(192,⟨.prod Ja Jt,true,.struct [(0,3),(1,3),(2,3)]⟩),(195,⟨.prod Ja (.prod Ja Je),true,.struct [(0,3),(1,3),(2,22)]⟩),(199,⟨.prod Ja Jb,true,.struct [(0,3),(1,3),(2,3),(3,3)]⟩),(213,⟨.prod Ja Jt,true,.struct [(0,3),(1,3),(2,3)]⟩),(223,⟨.slice Jr,false,.slice 4⟩),(247,⟨.bool,true,.arr 8 4⟩)]
theorem mixedOk:Tryz.prog.follows .mixedOrders=true:=by kernel_rfl
theorem tabOk:Waf Tryz.prog tab:=Wul (show Wmz Tryz.prog tab tab=true by kernel_rfl)
def LM(x:Fn)(N:Nat){R:Type}(i k n:Nat)(st:St)(K:Ex->St->Option R):Option R:=lpM tab (x.c N) x.a N x.F i k n st K
def CF(x:Fn)(N:Nat)(p:List Nat):Ex->St->Option (Qs (x.s N)):=cxF tab (x.c N) x.a N (x.s N) x.F p
def CL(x:Fn)(N:Nat){R:Type}(i k:Nat)(p:List Nat)(n:Nat)(K:Ex->St->Option R):Ex->St->Option R:=cxL tab (x.c N) x.a N x.F i k p n K
def DN(x:Fn)(N:Nat)(d:We1 (x.s N).ps):Option (Qs (x.s N)):=den (R:=Qs (x.s N)) tab (x.c N) x.a N (x.s N) x.F d some
def GW(k:FuncId)(s:Sig):Prop:=Wgc Tryz.prog k/\Good Tryz.prog k s
theorem GC{k:FuncId}{s:Sig}{Γ:Ctx}(h:GW k s)(hc:WeY Tryz.prog Γ):WeY Tryz.prog ((k,s)::Γ):=Wsj h.2 h.1 hc
theorem GF(x:Fn){k:FuncId}(N:Nat)(hf:Tryz.prog.funcs[k]?=some x.F)(hc:WeY Tryz.prog (x.c N))(h:∀d,DN x N d=(x.s N).run d:=by intro d;kernel_rfl)(ci:(Wqj x.F&&Wnh x.F (x.s N).ps)=true:=by kernel_rfl):GW k (x.s N):=
  ⟨Wfr hf (Xi .. ▸ci).1,WqK mixedOk tabOk hc hf (Xi .. ▸ci).2 (λd _ e=>⟨N,(h d).trans e⟩)⟩
def Ztn(N:Nat):Sig:=Sig.of [.v Je false,.v Ja false] [.v Ja false] (λd=>Zn1 N d.1 d.2.1)
def Zac1:Fn:=⟨Tryz.f33,Wx,Ztn,W0⟩
theorem Zac2(N:Nat):GW 33 (Ztn N):=GF Zac1 N Tryz.func33 Wg
def Zq3(N:Nat):Sig:=Sig.of [.v Jak true,.v Ja false] [.v Ja false] (λd=>Zon N d.1 d.2.1)
def Z8r:Fn:=⟨Tryz.f13,Wx,Zq3,λN=>[(33,Ztn N)]⟩
theorem Z8s(N:Nat):GW 13 (Zq3 N):=GF Z8r N Tryz.func13 (GC (Zac2 N) Wg)
def Zqh(N:Nat):Sig:=Sig.of [.v Jg false,.v Ja false] [.v Ja false] (λd=>Zpo N d.1 d.2.1)
def Zae7:Fn:=⟨Tryz.f59,Wx,Zqh,W0⟩
theorem Zyo(N:Nat):GW 59 (Zqh N):=GF Zae7 N Tryz.func59 Wg
def Zuy(N:Nat):Sig:=Sig.of [.v Jg true,.v Ja false] [.v Ja false] (λd=>Zth N d.1 d.2.1)
def Zae8:Fn:=⟨Tryz.f108,Wx,Zuy,λN=>[(59,Zqh N)]⟩
theorem Zae9(N:Nat):GW 108 (Zuy N):=GF Zae8 N Tryz.func108 (GC (Zyo N) Wg)
def Zto(N:Nat):Sig:=Sig.of [.v Jab false,.v Ja false] [.v Ja false] (λd=>Zj2 N d.1 d.2.1)
def Zot:Fn:=⟨Tryz.f60,λ |5=>[.canon [0,1,5,15]]|6=>[.canon [0,1,5]]|7=>[.canon [0,1,5]]|8=>[.canon [0,1,5,25]]|9=>[.canon [4]]|100005=>[.canon [0,1,5]]|_=>[],Zto,λN=>[(108,Zuy N)]⟩
def Z4d(a3:List Kaa)(bK:Int)(i5:Int):St:=⟨[(0,vV Jab a3),(1,vI bK),(5,vI i5)],[],0⟩
def Z04(a3:List Kaa):St:=⟨[(4,vI (-1:Int))],[],0⟩
def Z05(a3:List Kaa)(eZ:Int)(i8:Int)(t9:Bool):St:=⟨[(0,vV Jab a3),(1,vI eZ),(5,vI i8),(15,vB t9)],[],0⟩
theorem Z4e(N:Nat){R:Type}(K:Ex->St->Option R){a3:List Kaa}{K0:Option R}{K1:Int->Int->Bool->Option R}(h0:K0=K .ret (Z04 a3))(h1:K1= λeZ i8 t9=>K (.exit 0) (Z05 a3 eZ i8 t9))(n:Nat)(bK:Int)(i5:Int):Zdr N a3 K0 K1 n bK i5=LM Zot N 0 100005 n (Z4d a3 bK i5) K:=by
  subst h0 h1
  induction n generalizing bK i5 with
  |zero=>kernel_rfl
  |succ n ih=>rw[Zdr];simp only[ih];kernel_rfl
theorem Zac3(N:Nat)(a1:List Kaa)(aO:Int):DN Zot N (a1,aO,())=Zj2 N a1 aO:=by
  conv=>rhs;rw[Zj2];simp(disch:=exact id (by kernel_rfl)) only[Z4e (R:=Unit×Kh) N (CF Zot N [1,1,1,0,1,0])]
  kernel_rfl
theorem Zac4(N:Nat):GW 60 (Zto N):=GF Zot N Tryz.func60 (GC (Zae9 N) Wg) (λd=>Zac3 N d.1 d.2.1)
def Ztp(N:Nat):Sig:=Sig.of [.v Jag true,.v Ja false] [.v Ja false] (λd=>Zrs N d.1 d.2.1)
def Zac5:Fn:=⟨Tryz.f34,Wx,Ztp,λN=>[(59,Zqh N),(60,Zto N)]⟩
theorem Zac6(N:Nat):GW 34 (Ztp N):=GF Zac5 N Tryz.func34 (GC (Zyo N) (GC (Zac4 N) Wg))
def Zsb(N:Nat):Sig:=Sig.of [.v Jm false,.v Ja false] [.v Ja false] (λd=>Zix N d.1 d.2.1)
def Zmp:Fn:=⟨Tryz.f14,λ |5=>[.canon [0,1,5,15]]|6=>[.canon [0,1,5]]|7=>[.canon [0,1,5]]|8=>[.canon [0,1,5,25]]|9=>[.canon [4]]|100005=>[.canon [0,1,5]]|_=>[],Zsb,λN=>[(34,Ztp N)]⟩
def Z06(a3:List Km)(bK:Int)(i5:Int):St:=⟨[(0,vV Jm a3),(1,vI bK),(5,vI i5)],[],0⟩
def Zyp(a3:List Km):St:=⟨[(4,vI (-1:Int))],[],0⟩
def Zyq(a3:List Km)(eZ:Int)(i8:Int)(t9:Bool):St:=⟨[(0,vV Jm a3),(1,vI eZ),(5,vI i8),(15,vB t9)],[],0⟩
theorem Z07(N:Nat){R:Type}(K:Ex->St->Option R){a3:List Km}{K0:Option R}{K1:Int->Int->Bool->Option R}(h0:K0=K .ret (Zyp a3))(h1:K1= λeZ i8 t9=>K (.exit 0) (Zyq a3 eZ i8 t9))(n:Nat)(bK:Int)(i5:Int):Zc0 N a3 K0 K1 n bK i5=LM Zmp N 0 100005 n (Z06 a3 bK i5) K:=by
  subst h0 h1
  induction n generalizing bK i5 with
  |zero=>kernel_rfl
  |succ n ih=>rw[Zc0];simp only[ih];kernel_rfl
theorem Zaac(N:Nat)(a1:List Km)(aO:Int):DN Zmp N (a1,aO,())=Zix N a1 aO:=by
  conv=>rhs;rw[Zix];simp(disch:=exact id (by kernel_rfl)) only[Z07 (R:=Unit×Kh) N (CF Zmp N [1,1,1,0,1,0])]
  kernel_rfl
theorem Zaad(N:Nat):GW 14 (Zsb N):=GF Zmp N Tryz.func14 (GC (Zac6 N) Wg) (λd=>Zaac N d.1 d.2.1)
def Ztq(N:Nat):Sig:=Sig.of [.v Jo false,.v Ja false] [.v Ja false] (λd=>Zrt N d.1 d.2.1)
def Zac7:Fn:=⟨Tryz.f15,Wx,Ztq,W0⟩
theorem Zac8(N:Nat):GW 15 (Ztq N):=GF Zac7 N Tryz.func15 Wg
def Zq4(N:Nat):Sig:=Sig.of [.v Js true,.v Ja false] [.v Ja false] (λd=>Zoo N d.1 d.2.1)
def Z8t:Fn:=⟨Tryz.f4,Wx,Zq4,λN=>[(13,Zq3 N),(14,Zsb N),(15,Ztq N)]⟩
theorem Z8u(N:Nat):GW 4 (Zq4 N):=GF Z8t N Tryz.func4 (GC (Z8s N) (GC (Zaad N) (GC (Zac8 N) Wg)))
def Ztr(N:Nat):Sig:=Sig.of [.v Je false] [.v Jx false] (λd=>Zh8 N d.1)
def Zou:Fn:=⟨Tryz.f42,λ |3=>[.canon [0,3,4,11]]|4=>[.canon [0,3,4]]|5=>[.canon [0,3,4]]|100003=>[.canon [0,3,4]]|_=>[],Ztr,W0⟩
def Z4f(a2:List Int)(i3:Int)(l4:List Int):St:=⟨[(0,vV Je a2),(3,vO 0),(4,vI i3)],[(0,.arr Ja l4)],1⟩
def Z08(a2:List Int)(i5:Int)(t6:Bool)(l7:List Int):St:=⟨[(0,vV Je a2),(3,vO 0),(4,vI i5),(11,vB t6)],[(0,.arr Ja l7)],1⟩
theorem Z4g(N:Nat){R:Type}(K:Ex->St->Option R){a2:List Int}{K0:Int->Bool->Ki->Option R}(h0:K0= λi5 t6 l7=>K (.exit 0) (Z08 a2 i5 t6 l7))(n:Nat)(i3:Int)(l4:List Int):Zds N a2 K0 n i3 l4=LM Zou N 0 100003 n (Z4f a2 i3 l4) K:=by
  subst h0
  induction n generalizing i3 l4 with
  |zero=>kernel_rfl
  |succ n ih=>rw[Zds];simp only[ih];kernel_rfl
theorem Zac9(N:Nat)(a1:List Int):DN Zou N (a1,())=Zh8 N a1:=by
  conv=>rhs;rw[Zh8];simp(disch:=exact id (by kernel_rfl)) only[Z4g (R:=Unit×Kad) N (CF Zou N [1,1,0,1,0])]
  kernel_rfl
theorem Zada(N:Nat):GW 42 (Ztr N):=GF Zou N Tryz.func42 Wg (λd=>Zac9 N d.1)
def Zq5(N:Nat):Sig:=Sig.of [.v Jak true] [.v (.prod Jx Jai) true] (λd=>Zop N d.1)
def Z8v:Fn:=⟨Tryz.f19,Wx,Zq5,λN=>[(42,Ztr N)]⟩
theorem Z8w(N:Nat):GW 19 (Zq5 N):=GF Z8v N Tryz.func19 (GC (Zada N) Wg)
def Zvn(N:Nat):Sig:=Sig.of [.v Jq true] [.v Jq true] (λd=>Zvc N d.1)
def Zaf8:Fn:=⟨Tryz.f137,Wx,Zvn,W0⟩
theorem Zaf9(N:Nat):GW 137 (Zvn N):=GF Zaf8 N Tryz.func137 Wg
def Zqi(N:Nat):Sig:=Sig.of [.v Jg false] [.v Jal false] (λd=>Zi9 N d.1)
def Zqj:Fn:=⟨Tryz.f81,λ |3=>[.canon [0,3,4,11]]|4=>[.canon [0,3,4]]|5=>[.canon [0,3,4]]|100003=>[.canon [0,3,4]]|_=>[],Zqi,λN=>[(137,Zvn N)]⟩
def Z6v(a2:List Ka)(i3:Int)(l4:List Ka):St:=⟨[(0,vV Jg a2),(3,vO 0),(4,vI i3)],[(0,.arr Jq l4)],1⟩
def Z4h(a2:List Ka)(i6:Int)(t7:Bool)(l8:List Ka):St:=⟨[(0,vV Jg a2),(3,vO 0),(4,vI i6),(11,vB t7)],[(0,.arr Jq l8)],1⟩
theorem Z6w(N:Nat){R:Type}(K:Ex->St->Option R){a2:List Ka}{K0:Int->Bool->Kaa->Option R}(h0:K0= λi6 t7 l8=>K (.exit 0) (Z4h a2 i6 t7 l8))(n:Nat)(i3:Int)(l4:List Ka):Zex N a2 K0 n i3 l4=LM Zqj N 0 100003 n (Z6v a2 i3 l4) K:=by
  subst h0
  induction n generalizing i3 l4 with
  |zero=>kernel_rfl
  |succ n ih=>rw[Zex];simp only[ih];kernel_rfl
theorem Zafa(N:Nat)(a1:List Ka):DN Zqj N (a1,())=Zi9 N a1:=by
  conv=>rhs;rw[Zi9];simp(disch:=exact id (by kernel_rfl)) only[Z6w (R:=Unit×Kai) N (CF Zqj N [1,1,0,1,0])]
  kernel_rfl
theorem Zyr(N:Nat):GW 81 (Zqi N):=GF Zqj N Tryz.func81 (GC (Zaf9 N) Wg) (λd=>Zafa N d.1)
def Zuz(N:Nat):Sig:=Sig.of [.v Jg true] [.v Jal true] (λd=>Zti N d.1)
def Zafb:Fn:=⟨Tryz.f138,Wx,Zuz,λN=>[(81,Zqi N)]⟩
theorem Zafc(N:Nat):GW 138 (Zuz N):=GF Zafb N Tryz.func138 (GC (Zyr N) Wg)
def Zts(N:Nat):Sig:=Sig.of [.v Jab false] [.v (.own Jal) false] (λd=>Zj3 N d.1)
def Zov:Fn:=⟨Tryz.f82,λ |1=>[.nest 7 Jal]|3=>[.canon [0,3,4,11]]|4=>[.canon [0,3,4]]|5=>[.canon [0,3,4]]|100003=>[.canon [0,3,4]]|_=>[],Zts,λN=>[(138,Zuz N)]⟩
def Z4i(a2:List Kaa)(i3:Int)(l4:List Kaa):St:=⟨[(0,vV Jab a2),(3,vO 0),(4,vI i3)],[(0,.arr Jal l4)],1⟩
def Z09(a2:List Kaa)(i6:Int)(t7:Bool)(l8:List Kaa):St:=⟨[(0,vV Jab a2),(3,vO 0),(4,vI i6),(11,vB t7)],[(0,.arr Jal l8)],1⟩
theorem Z4j(N:Nat){R:Type}(K:Ex->St->Option R){a2:List Kaa}{K0:Int->Bool->Kw->Option R}(h0:K0= λi6 t7 l8=>K (.exit 0) (Z09 a2 i6 t7 l8))(n:Nat)(i3:Int)(l4:List Kaa):Zdt N a2 K0 n i3 l4=LM Zov N 0 100003 n (Z4i a2 i3 l4) K:=by
  subst h0
  induction n generalizing i3 l4 with
  |zero=>kernel_rfl
  |succ n ih=>rw[Zdt];simp only[ih];kernel_rfl
theorem Zadb(N:Nat)(a1:List Kaa):DN Zov N (a1,())=Zj3 N a1:=by
  conv=>rhs;rw[Zj3];simp(disch:=exact id (by kernel_rfl)) only[Z4j (R:=Unit×(Kw×Unit)) N (CF Zov N [1,1,0,1,0])]
  kernel_rfl
theorem Zadc(N:Nat):GW 82 (Zts N):=GF Zov N Tryz.func82 (GC (Zafc N) Wg) (λd=>Zadb N d.1)
def Ztt(N:Nat):Sig:=Sig.of [.v Jag true] [.v Jz true] (λd=>Zru N d.1)
def Zadd:Fn:=⟨Tryz.f43,Wx,Ztt,λN=>[(81,Zqi N),(82,Zts N)]⟩
theorem Zade(N:Nat):GW 43 (Ztt N):=GF Zadd N Tryz.func43 (GC (Zyr N) (GC (Zadc N) Wg))
def Zsc(N:Nat):Sig:=Sig.of [.v Jm false] [.v (.own Jz) false] (λd=>Ziy N d.1)
def Zmq:Fn:=⟨Tryz.f20,λ |1=>[.nest 7 Jz]|3=>[.canon [0,3,4,11]]|4=>[.canon [0,3,4]]|5=>[.canon [0,3,4]]|100003=>[.canon [0,3,4]]|_=>[],Zsc,λN=>[(43,Ztt N)]⟩
def Z1a(a2:List Km)(i3:Int)(l4:List Km):St:=⟨[(0,vV Jm a2),(3,vO 0),(4,vI i3)],[(0,.arr Jz l4)],1⟩
def Zys(a2:List Km)(i6:Int)(t7:Bool)(l8:List Km):St:=⟨[(0,vV Jm a2),(3,vO 0),(4,vI i6),(11,vB t7)],[(0,.arr Jz l8)],1⟩
theorem Z1b(N:Nat){R:Type}(K:Ex->St->Option R){a2:List Km}{K0:Int->Bool->Kah->Option R}(h0:K0= λi6 t7 l8=>K (.exit 0) (Zys a2 i6 t7 l8))(n:Nat)(i3:Int)(l4:List Km):Zc1 N a2 K0 n i3 l4=LM Zmq N 0 100003 n (Z1a a2 i3 l4) K:=by
  subst h0
  induction n generalizing i3 l4 with
  |zero=>kernel_rfl
  |succ n ih=>rw[Zc1];simp only[ih];kernel_rfl
theorem Zaae(N:Nat)(a1:List Km):DN Zmq N (a1,())=Ziy N a1:=by
  conv=>rhs;rw[Ziy];simp(disch:=exact id (by kernel_rfl)) only[Z1b (R:=Unit×(Kah×Unit)) N (CF Zmq N [1,1,0,1,0])]
  kernel_rfl
theorem Zaaf(N:Nat):GW 20 (Zsc N):=GF Zmq N Tryz.func20 (GC (Zade N) Wg) (λd=>Zaae N d.1)
def Zu0(N:Nat):Sig:=Sig.of [.v Jb true] [.v Jb true] (λd=>Ztl N d.1)
def Zafd:Fn:=⟨Tryz.f44,Wx,Zu0,W0⟩
theorem Zafe(N:Nat):GW 44 (Zu0 N):=GF Zafd N Tryz.func44 Wg
def Ztu(N:Nat):Sig:=Sig.of [.v Jo false] [.v Jam false] (λd=>Zkd N d.1)
def Zow:Fn:=⟨Tryz.f21,λ |3=>[.canon [0,3,4,11]]|4=>[.canon [0,3,4]]|5=>[.canon [0,3,4]]|100003=>[.canon [0,3,4]]|_=>[],Ztu,λN=>[(44,Zu0 N)]⟩
def Z4k(a2:List Kb)(i3:Int)(l4:List Kb):St:=⟨[(0,vV Jo a2),(3,vO 0),(4,vI i3)],[(0,.arr Jb l4)],1⟩
def Z1c(a2:List Kb)(i6:Int)(t7:Bool)(l8:List Kb):St:=⟨[(0,vV Jo a2),(3,vO 0),(4,vI i6),(11,vB t7)],[(0,.arr Jb l8)],1⟩
theorem Z4l(N:Nat){R:Type}(K:Ex->St->Option R){a2:List Kb}{K0:Int->Bool->Kr->Option R}(h0:K0= λi6 t7 l8=>K (.exit 0) (Z1c a2 i6 t7 l8))(n:Nat)(i3:Int)(l4:List Kb):Zd5 N a2 K0 n i3 l4=LM Zow N 0 100003 n (Z4k a2 i3 l4) K:=by
  subst h0
  induction n generalizing i3 l4 with
  |zero=>kernel_rfl
  |succ n ih=>rw[Zd5];simp only[ih];kernel_rfl
theorem Zadf(N:Nat)(a1:List Kb):DN Zow N (a1,())=Zkd N a1:=by
  conv=>rhs;rw[Zkd];simp(disch:=exact id (by kernel_rfl)) only[Z4l (R:=Unit×Kac) N (CF Zow N [1,1,0,1,0])]
  kernel_rfl
theorem Zadg(N:Nat):GW 21 (Ztu N):=GF Zow N Tryz.func21 (GC (Zafe N) Wg) (λd=>Zadf N d.1)
def Zq6(N:Nat):Sig:=Sig.of [.v Js true] [.v (.prod (.prod Jx Jai) (.prod (.own Jz) Jam)) true] (λd=>Zgc N d.1)
def Z8x:Fn:=⟨Tryz.f6,Wx,Zq6,λN=>[(19,Zq5 N),(20,Zsc N),(21,Ztu N)]⟩
theorem Z8y(N:Nat):GW 6 (Zq6 N):=GF Z8x N Tryz.func6 (GC (Z8w N) (GC (Zaaf N) (GC (Zadg N) Wg)))
def Z1(N:Nat):Sig:=Sig.of [.v Ja false,.v Ja false,.v Ja false] [.v Jr false] (λd=>Zf N d.1 d.2.1 d.2.2.1)
def Zaga:Fn:=⟨Tryz.f39,Wx,Z1,W0⟩
theorem Z4(N:Nat):GW 39 (Z1 N):=GF Zaga N Tryz.func39 Wg
def Za0(N:Nat):Sig:=Sig.of [.v Ja false] [.v Jr false] (λd=>Zau N d.1)
def Zaff:Fn:=⟨Tryz.f62,Wx,Za0,λN=>[(39,Z1 N)]⟩
theorem Zbz(N:Nat):GW 62 (Za0 N):=GF Zaff N Tryz.func62 (GC (Z4 N) Wg)
def Zox(N:Nat):Sig:=Sig.of [.v Je false] [.v Jr false] (λd=>Zh9 N d.1)
def Zoy:Fn:=⟨Tryz.f61,λ |4=>[.canon [0,3,10]]|5=>[.canon [0,3]]|6=>[.canon [0,3,18]]|7=>[.canon [2]]|100004=>[.canon [0,3]]|_=>[],Zox,λN=>[(62,Za0 N)]⟩
def Z4m(l2:List Int)(i3:Int):St:=⟨[(0,vV Je l2),(3,vI i3)],[],0⟩
def Z1d(l2:List Int):St:=⟨[(2,vB false)],[],0⟩
def Z1e(l2:List Int)(i5:Int)(t6:Bool):St:=⟨[(0,vV Je l2),(3,vI i5),(10,vB t6)],[],0⟩
theorem Z4n(N:Nat){R:Type}(K:Ex->St->Option R){l2:List Int}{K0:Option R}{K1:Int->Bool->Option R}(h0:K0=K .ret (Z1d l2))(h1:K1= λi5 t6=>K (.exit 0) (Z1e l2 i5 t6))(n:Nat)(i3:Int):Zdu N l2 K0 K1 n i3=LM Zoy N 0 100004 n (Z4m l2 i3) K:=by
  subst h0 h1
  induction n generalizing i3 with
  |zero=>kernel_rfl
  |succ n ih=>rw[Zdu];simp only[ih];kernel_rfl
theorem Zadh(N:Nat)(l1:List Int):DN Zoy N (l1,())=Zh9 N l1:=by
  conv=>rhs;rw[Zh9];simp(disch:=exact id (by kernel_rfl)) only[Z4n (R:=Unit×Kq) N (CF Zoy N [1,1,0,1,0])]
  kernel_rfl
theorem Zxc(N:Nat):GW 61 (Zox N):=GF Zoy N Tryz.func61 (GC (Zbz N) Wg) (λd=>Zadh N d.1)
def Zq7(N:Nat):Sig:=Sig.of [.v Jak true] [.v Jr false] (λd=>Zh0 N d.1)
def Zll:Fn:=⟨Tryz.f35,λ |4=>[.canon [1,3,24]]|5=>[.canon [1,3]]|6=>[.canon [1,3,33]]|7=>[.canon [2]]|100004=>[.canon [1,3]]|_=>[],Zq7,λN=>[(61,Zox N),(62,Za0 N),(39,Z1 N)]⟩
def Zyt(i4:Int)(b5:List Int×List Int×Int):St:=⟨[(1,vP 0 0),(3,vI i4)],[(0,.box [.val Je b5.1,.val Je b5.2.1,.val Ja b5.2.2])],1⟩
def Zxk(b5:List Int×List Int×Int):St:=⟨[(2,vB false)],[],0⟩
def Zxl(b5:List Int×List Int×Int)(i7:Int)(t8:Bool):St:=⟨[(1,vP 0 0),(3,vI i7),(24,vB t8)],[(0,.box [.val Je b5.1,.val Je b5.2.1,.val Ja b5.2.2])],1⟩
theorem Zyu(N:Nat){R:Type}(K:Ex->St->Option R){b5:List Int×List Int×Int}{K0:Option R}{K1:Int->Bool->Option R}(h0:K0=K .ret (Zxk b5))(h1:K1= λi7 t8=>K (.exit 0) (Zxl b5 i7 t8))(n:Nat)(i4:Int):Zbq N b5 K0 K1 n i4=LM Zll N 0 100004 n (Zyt i4 b5) K:=by
  subst h0 h1
  induction n generalizing i4 with
  |zero=>kernel_rfl
  |succ n ih=>rw[Zbq];simp only[ih];kernel_rfl
theorem Z8z(N:Nat)(s1:List Int×List Int×Int):DN Zll N (s1,())=Zh0 N s1:=by
  conv=>rhs;rw[Zh0];simp(disch:=exact id (by kernel_rfl)) only[Zyu (R:=Unit×Kq) N (CF Zll N [1,1,0,1,0])]
  kernel_rfl
theorem Z80(N:Nat):GW 35 (Zq7 N):=GF Zll N Tryz.func35 (GC (Zxc N) (GC (Zbz N) (GC (Z4 N) Wg))) (λd=>Z8z N d.1)
def Zu1(N:Nat):Sig:=Sig.of [.v Ja false] [.v Jr false] (λd=>Zbv N d.1)
def Zafg:Fn:=⟨Tryz.f178,Wx,Zu1,λN=>[(39,Z1 N)]⟩
theorem Zafh(N:Nat):GW 178 (Zu1 N):=GF Zafg N Tryz.func178 (GC (Z4 N) Wg)
def Zeb(N:Nat):Sig:=Sig.of [.v Ja false] [.v Jr false] (λd=>Zcd N d.1)
def Zadi:Fn:=⟨Tryz.f179,Wx,Zeb,λN=>[(39,Z1 N)]⟩
theorem Zh4(N:Nat):GW 179 (Zeb N):=GF Zadi N Tryz.func179 (GC (Z4 N) Wg)
def Zn6(N:Nat):Sig:=Sig.of [.v Jq true] [.v Jr false] (λd=>Zlb N d.1)
def Zagb:Fn:=⟨Tryz.f109,Wx,Zn6,λN=>[(178,Zu1 N),(62,Za0 N),(179,Zeb N),(39,Z1 N)]⟩
theorem Zvo(N:Nat):GW 109 (Zn6 N):=GF Zagb N Tryz.func109 (GC (Zafh N) (GC (Zbz N) (GC (Zh4 N) (GC (Z4 N) Wg))))
def Ztv(N:Nat):Sig:=Sig.of [.v Jg false,.v Ja false] [.v Jr false] (λd=>Zj4 N d.1 d.2.1)
def Zoz:Fn:=⟨Tryz.f110,λ |6=>[.canon [0,5,6,7,24]]|7=>[.canon [0,5,6,7]]|8=>[.canon [0,5,6,7,32]]|9=>[.canon [0,5,6,7]]|10=>[.canon [0,5,6,7,40]]|11=>[.canon [0,5,6,7]]|12=>[.canon [0,5,6,7,44]]|13=>[.canon [4]]|100006=>[.canon [0,5,6,7]]|_=>[],Ztv,W0⟩
def Z4o(ab:List Ka)(gw:Int)(d5:Int)(k6:Int):St:=⟨[(0,vV Jg ab),(5,vI gw),(6,vI d5),(7,vI k6)],[],0⟩
def Z1f(ab:List Ka)(gw:Int):St:=⟨[(4,vB false)],[],0⟩
def Z1g(ab:List Ka)(gw:Int)(d7:Int)(k8:Int)(t9:Bool):St:=⟨[(0,vV Jg ab),(5,vI gw),(6,vI d7),(7,vI k8),(24,vB t9)],[],0⟩
theorem Z4p(N:Nat){R:Type}(K:Ex->St->Option R){ab:List Ka}{gw:Int}{K0:Option R}{K1:Int->Int->Bool->Option R}(h0:K0=K .ret (Z1f ab gw))(h1:K1= λd7 k8 t9=>K (.exit 0) (Z1g ab gw d7 k8 t9))(n:Nat)(d5:Int)(k6:Int):Zav N ab gw K0 K1 n d5 k6=LM Zoz N 0 100006 n (Z4o ab gw d5 k6) K:=by
  subst h0 h1
  induction n generalizing d5 k6 with
  |zero=>kernel_rfl
  |succ n ih=>rw[Zav];simp only[ih];kernel_rfl
theorem Zadj(N:Nat)(ad:List Ka)(i2:Int):DN Zoz N (ad,i2,())=Zj4 N ad i2:=by
  conv=>rhs;rw[Zj4];simp(disch:=exact id (by kernel_rfl)) only[Z4p (R:=Unit×Kq) N (CF Zoz N [1,1,1,1,0,1,0])]
  kernel_rfl
theorem Zadk(N:Nat):GW 110 (Ztv N):=GF Zoz N Tryz.func110 Wg (λd=>Zadj N d.1 d.2.1)
def Zo0(N:Nat):Sig:=Sig.of [.v Jg false] [.v Jr false] (λd=>Zia N d.1)
def Zo1:Fn:=⟨Tryz.f63,λ |6=>[.canon [0,3,4,5,12]]|7=>[.canon [0,3,4,5]]|8=>[.canon [0,3,4,5,20]]|9=>[.canon [2]]|10=>[.canon [0,3,4,5,25]]|11=>[.canon [0,3,4,5,25,26]]|12=>[.canon [0,3,4,5]]|13=>[.canon [0,3,4,5,25,30]]|14=>[.canon [0,3,4,5]]|15=>[.canon [0,3,4,5,25,34]]|16=>[.canon [0,3,4,5,39]]|17=>[.canon [2]]|18=>[.canon [0,3,4,5,40]]|19=>[.canon [0,3,4,5]]|20=>[.canon [0,3,4,5,49]]|21=>[.canon [2]]|22=>[.canon [0,3,4,5,51]]|23=>[.canon [2]]|100006=>[.canon [0,3,4,5]]|_=>[],Zo0,λN=>[(109,Zn6 N),(110,Ztv N)]⟩
def Z4q(ae:List Ka)(d3:Int)(aA:Int)(i5:Int):St:=⟨[(0,vV Jg ae),(3,vI d3),(4,vI aA),(5,vI i5)],[],0⟩
def Z1h(ae:List Ka):St:=⟨[(2,vB false)],[],0⟩
def Z1i(ae:List Ka)(d8:Int)(hI:Int)(bo:Int)(aw:Bool):St:=⟨[(0,vV Jg ae),(3,vI d8),(4,vI hI),(5,vI bo),(12,vB aw)],[],0⟩
theorem Z4r(N:Nat){R:Type}(K:Ex->St->Option R){ae:List Ka}{K0:Option R}{K1:Int->Int->Int->Bool->Option R}(h0:K0=K .ret (Z1h ae))(h1:K1= λd8 hI bo aw=>K (.exit 0) (Z1i ae d8 hI bo aw))(n:Nat)(d3:Int)(aA:Int)(i5:Int):Zaw N ae K0 K1 n d3 aA i5=LM Zo1 N 0 100006 n (Z4q ae d3 aA i5) K:=by
  subst h0 h1
  induction n generalizing d3 aA i5 with
  |zero=>kernel_rfl
  |succ n ih=>rw[Zaw];simp only[ih];kernel_rfl
theorem Zadl(N:Nat)(ad:List Ka):DN Zo1 N (ad,())=Zia N ad:=by
  conv=>rhs;rw[Zia];simp(disch:=exact id (by kernel_rfl)) only[Z4r (R:=Unit×Kq) N (CF Zo1 N [1,1,1,1,0,1,0])]
  kernel_rfl
theorem Zxd(N:Nat):GW 63 (Zo0 N):=GF Zo1 N Tryz.func63 (GC (Zvo N) (GC (Zadk N) Wg)) (λd=>Zadl N d.1)
def Zmr(N:Nat):Sig:=Sig.of [.v Jg false] [.v Jr false] (λd=>Zg3 N d.1)
def Zms:Fn:=⟨Tryz.f64,λ |2=>[.canon [0,3,7]]|3=>[.canon [0,3]]|4=>[.canon [0,3,15]]|5=>[.canon [2]]|100002=>[.canon [0,3]]|_=>[],Zmr,W0⟩
def Z1j(ae:List Ka)(i3:Int):St:=⟨[(0,vV Jg ae),(3,vI i3)],[],0⟩
def Zyv(ae:List Ka):St:=⟨[(2,vB true)],[],0⟩
def Zyw(ae:List Ka)(i4:Int)(t5:Bool):St:=⟨[(0,vV Jg ae),(3,vI i4),(7,vB t5)],[],0⟩
theorem Z1k(N:Nat){R:Type}(K:Ex->St->Option R){ae:List Ka}{K0:Option R}{K1:Int->Bool->Option R}(h0:K0=K .ret (Zyv ae))(h1:K1= λi4 t5=>K (.exit 0) (Zyw ae i4 t5))(n:Nat)(i3:Int):Zcs N ae K0 K1 n i3=LM Zms N 0 100002 n (Z1j ae i3) K:=by
  subst h0 h1
  induction n generalizing i3 with
  |zero=>kernel_rfl
  |succ n ih=>rw[Zcs];simp only[ih];kernel_rfl
theorem Zaag(N:Nat)(ad:List Ka):DN Zms N (ad,())=Zg3 N ad:=by
  conv=>rhs;rw[Zg3];simp(disch:=exact id (by kernel_rfl)) only[Z1k (R:=Unit×Kq) N (CF Zms N [1,0,1,0])]
  kernel_rfl
theorem Zwd(N:Nat):GW 64 (Zmr N):=GF Zms N Tryz.func64 Wg (λd=>Zaag N d.1)
def Zjm(N:Nat):Sig:=Sig.of [.v Jq true] [.v Ja false] (λd=>Zbc N d.1)
def Zaah:Fn:=⟨Tryz.f111,Wx,Zjm,λN=>[(109,Zn6 N)]⟩
theorem Zsd(N:Nat):GW 111 (Zjm N):=GF Zaah N Tryz.func111 (GC (Zvo N) Wg)
def Zu2(N:Nat):Sig:=Sig.of [.v Jg false] [.v Jr false] (λd=>Zja N d.1)
def Zqk:Fn:=⟨Tryz.f65,λ |4=>[.canon [0,3,14]]|5=>[.canon [0,3]]|6=>[.canon [0,3,22]]|7=>[.canon [2]]|100004=>[.canon [0,3]]|_=>[],Zu2,λN=>[(63,Zo0 N),(64,Zmr N),(111,Zjm N)]⟩
def Z6x(au:List Ka)(i5:Int):St:=⟨[(0,vV Jg au),(3,vI i5)],[],0⟩
def Z4s(au:List Ka):St:=⟨[(2,vB false)],[],0⟩
def Z4t(au:List Ka)(i7:Int)(t8:Bool):St:=⟨[(0,vV Jg au),(3,vI i7),(14,vB t8)],[],0⟩
theorem Z6y(N:Nat){R:Type}(K:Ex->St->Option R){au:List Ka}{K0:Option R}{K1:Int->Bool->Option R}(h0:K0=K .ret (Z4s au))(h1:K1= λi7 t8=>K (.exit 0) (Z4t au i7 t8))(n:Nat)(i5:Int):Zey N au K0 K1 n i5=LM Zqk N 0 100004 n (Z6x au i5) K:=by
  subst h0 h1
  induction n generalizing i5 with
  |zero=>kernel_rfl
  |succ n ih=>rw[Zey];simp only[ih];kernel_rfl
theorem Zafi(N:Nat)(ad:List Ka):DN Zqk N (ad,())=Zja N ad:=by
  conv=>rhs;rw[Zja];simp(disch:=exact id (by kernel_rfl)) only[Z6y (R:=Unit×Kq) N (CF Zqk N [1,1,0,1,0])]
  kernel_rfl
theorem Zafj(N:Nat):GW 65 (Zu2 N):=GF Zqk N Tryz.func65 (GC (Zxd N) (GC (Zwd N) (GC (Zsd N) Wg))) (λd=>Zafi N d.1)
def Ztw(N:Nat):Sig:=Sig.of [.v Jag true] [.v Jr false] (λd=>Zic N d.1)
def Zo2:Fn:=⟨Tryz.f36,λ |4=>[.canon [1,3,28]]|5=>[.canon [1,3]]|6=>[.canon [1,3,38]]|7=>[.canon [2]]|100004=>[.canon [1,3]]|_=>[],Ztw,λN=>[(63,Zo0 N),(64,Zmr N),(65,Zu2 N)]⟩
def Z4u(i4:Int)(b5:List Ka×List Kaa):St:=⟨[(1,vP 0 0),(3,vI i4)],[(0,.box [.val Jg b5.1,.val Jab b5.2])],1⟩
def Z1l(b5:List Ka×List Kaa):St:=⟨[(2,vB false)],[],0⟩
def Z1m(b5:List Ka×List Kaa)(i7:Int)(t8:Bool):St:=⟨[(1,vP 0 0),(3,vI i7),(28,vB t8)],[(0,.box [.val Jg b5.1,.val Jab b5.2])],1⟩
theorem Z4v(N:Nat){R:Type}(K:Ex->St->Option R){b5:List Ka×List Kaa}{K0:Option R}{K1:Int->Bool->Option R}(h0:K0=K .ret (Z1l b5))(h1:K1= λi7 t8=>K (.exit 0) (Z1m b5 i7 t8))(n:Nat)(i4:Int):Zcg N b5 K0 K1 n i4=LM Zo2 N 0 100004 n (Z4u i4 b5) K:=by
  subst h0 h1
  induction n generalizing i4 with
  |zero=>kernel_rfl
  |succ n ih=>rw[Zcg];simp only[ih];kernel_rfl
theorem Zadm(N:Nat)(p1:List Ka×List Kaa):DN Zo2 N (p1,())=Zic N p1:=by
  conv=>rhs;rw[Zic];simp(disch:=exact id (by kernel_rfl)) only[Z4v (R:=Unit×Kq) N (CF Zo2 N [1,1,0,1,0])]
  kernel_rfl
theorem Zadn(N:Nat):GW 36 (Ztw N):=GF Zo2 N Tryz.func36 (GC (Zxd N) (GC (Zwd N) (GC (Zafj N) Wg))) (λd=>Zadm N d.1)
def Zq8(N:Nat):Sig:=Sig.of [.v Js true] [.v Jr false] (λd=>Zh1 N d.1)
def Zlm:Fn:=⟨Tryz.f16,λ |4=>[.canon [1,3,24]]|5=>[.canon [1,3]]|6=>[.canon [1,3,33]]|7=>[.canon [2]]|100004=>[.canon [1,3]]|_=>[],Zq8,λN=>[(35,Zq7 N),(36,Ztw N)]⟩
def Zyx(i3:Int)(b4:Kf×List Km×List Kb):St:=⟨[(1,vP 0 0),(3,vI i3)],[(0,.box [.val Je b4.1.1,.val Je b4.1.2.1,.val Ja b4.1.2.2,.val Jm b4.2.1,.val Jo b4.2.2])],1⟩
def Zxm(b4:Kf×List Km×List Kb):St:=⟨[(2,vB false)],[],0⟩
def Zxn(b4:Kf×List Km×List Kb)(i6:Int)(t7:Bool):St:=⟨[(1,vP 0 0),(3,vI i6),(24,vB t7)],[(0,.box [.val Je b4.1.1,.val Je b4.1.2.1,.val Ja b4.1.2.2,.val Jm b4.2.1,.val Jo b4.2.2])],1⟩
theorem Zyy(N:Nat){R:Type}(K:Ex->St->Option R){b4:Kf×List Km×List Kb}{K0:Option R}{K1:Int->Bool->Option R}(h0:K0=K .ret (Zxm b4))(h1:K1= λi6 t7=>K (.exit 0) (Zxn b4 i6 t7))(n:Nat)(i3:Int):Zbr N b4 K0 K1 n i3=LM Zlm N 0 100004 n (Zyx i3 b4) K:=by
  subst h0 h1
  induction n generalizing i3 with
  |zero=>kernel_rfl
  |succ n ih=>rw[Zbr];simp only[ih];kernel_rfl
theorem Z81(N:Nat)(s1:Kf×List Km×List Kb):DN Zlm N (s1,())=Zh1 N s1:=by
  conv=>rhs;rw[Zh1];simp(disch:=exact id (by kernel_rfl)) only[Zyy (R:=Unit×Kq) N (CF Zlm N [1,1,0,1,0])]
  kernel_rfl
theorem Z82(N:Nat):GW 16 (Zq8 N):=GF Zlm N Tryz.func16 (GC (Z80 N) (GC (Zadn N) Wg)) (λd=>Z81 N d.1)
def Ztx(N:Nat):Sig:=Sig.of [.v Je false] [.v Jy true,.v Jr false] (λd=>Zj5 N d.1)
def Zo3:Fn:=⟨Tryz.f37,λ |5=>[.canon [0,2,4,5,14]]|6=>[.canon [0,2,4,5]]|7=>[.canon [0,2,4,5]]|100005=>[.adoptC 4 1 Jb,.canon [0,2,4,5]]|_=>[],Ztx,λN=>[(61,Zox N)]⟩
def Z4w(l3:List Int)(i4:Int)(l7:List Kb):St:=⟨[(0,vV Je l3),(2,vP 0 0),(4,vP 1 0),(5,vI i4)],[(0,.box [.val Ja (0:Int),.nils]),(1,.box [.val Ja (0:Int),.own 2]),(2,.arr Jb l7)],3⟩
def Z1n(l3:List Int)(i8:Int)(t9:Bool)(cP:List Kb):St:=⟨[(0,vV Je l3),(2,vP 0 0),(4,vP 1 0),(5,vI i8),(14,vB t9)],[(0,.box [.val Ja (0:Int),.nils]),(1,.box [.val Ja (0:Int),.own 2]),(2,.arr Jb cP)],3⟩
theorem Z4x(N:Nat){R:Type}(K:Ex->St->Option R){l3:List Int}{K0:Int->Bool->Kr->Option R}(h0:K0= λi8 t9 cP=>K (.exit 0) (Z1n l3 i8 t9 cP))(n:Nat)(i4:Int)(l7:List Kb):Zdx N l3 K0 n i4 l7=LM Zo3 N 0 100005 n (Z4w l3 i4 l7) K:=by
  subst h0
  induction n generalizing i4 l7 with
  |zero=>kernel_rfl
  |succ n ih=>rw[Zdx];simp only[ih];kernel_rfl
theorem Zado(N:Nat)(l1:List Int):DN Zo3 N (l1,())=Zj5 N l1:=by
  conv=>rhs;rw[Zj5];simp(disch:=exact id (by kernel_rfl)) only[Z4x (R:=Unit×(Ks×Kq)) N (CF Zo3 N [1,1,1,0,1,0])]
  kernel_rfl
theorem Zadp(N:Nat):GW 37 (Ztx N):=GF Zo3 N Tryz.func37 (GC (Zxc N) Wg) (λd=>Zado N d.1)
def Zse(N:Nat):Sig:=Sig.of [] [.v Jx false] (λd=>Zuw N)
def Zaai:Fn:=⟨Tryz.f66,Wx,Zse,W0⟩
theorem Zaaj(N:Nat):GW 66 (Zse N):=GF Zaai N Tryz.func66 Wg
def Zhe(N:Nat):Sig:=Sig.of [.v Je false] [.v Jx false] (λd=>Zha N d.1)
def Zaak:Fn:=⟨Tryz.f112,Wx,Zhe,W0⟩
theorem Zmt(N:Nat):GW 112 (Zhe N):=GF Zaak N Tryz.func112 Wg
def Zfc(N:Nat):Sig:=Sig.of [.v Ja false] [.v Ja false,.v Ja false] (λd=>Zby N d.1)
def Zaal:Fn:=⟨Tryz.f116,Wx,Zfc,W0⟩
theorem Zjn(N:Nat):GW 116 (Zfc N):=GF Zaal N Tryz.func116 Wg
def Zge(N:Nat):Sig:=Sig.of [.v Ja false] [.v Jr false] (λd=>Zdg N d.1)
def Zadq:Fn:=⟨Tryz.f114,Wx,Zge,λN=>[(39,Z1 N)]⟩
theorem Zkt(N:Nat):GW 114 (Zge N):=GF Zadq N Tryz.func114 (GC (Z4 N) Wg)
def Zln(N:Nat):Sig:=Sig.of [.v Ja false] [.v Ja false] (λd=>Zkp N d.1)
def Z83:Fn:=⟨Tryz.f117,Wx,Zln,λN=>[(114,Zge N)]⟩
theorem Zv0(N:Nat):GW 117 (Zln N):=GF Z83 N Tryz.func117 (GC (Zkt N) Wg)
def Zhf(N:Nat):Sig:=Sig.of [.v Je false] [.v Jr false] (λd=>Zdn N d.1)
def Zmu:Fn:=⟨Tryz.f113,λ |5=>[.canon [0,3,4,14]]|6=>[.canon [0,3,4]]|7=>[.canon [0,3,4,22]]|8=>[.canon [2]]|9=>[.canon [0,3,4,5]]|10=>[.canon [0,3,4,5,32]]|11=>[.canon [0,3,4,5,43]]|12=>[.canon [2]]|13=>[.canon [0,3,4]]|100005=>[.canon [0,3,4]]|_=>[],Zhf,λN=>[(39,Z1 N),(116,Zfc N),(117,Zln N)]⟩
def Z1o(l2:List Int)(i3:Int)(l4:List Bool):St:=⟨[(0,vV Je l2),(3,vO 0),(4,vI i3)],[(0,.arr Jr l4)],1⟩
def Zyz(l2:List Int):St:=⟨[(2,vB false)],[],0⟩
def Zy0(l2:List Int)(i8:Int)(t9:Bool)(cP:List Bool):St:=⟨[(0,vV Je l2),(3,vO 0),(4,vI i8),(14,vB t9)],[(0,.arr Jr cP)],1⟩
theorem Z1p(N:Nat){R:Type}(K:Ex->St->Option R){l2:List Int}{K0:Option R}{K1:Int->Bool->(List Bool)->Option R}(h0:K0=K .ret (Zyz l2))(h1:K1= λi8 t9 cP=>K (.exit 0) (Zy0 l2 i8 t9 cP))(n:Nat)(i3:Int)(l4:List Bool):Zb5 N l2 K0 K1 n i3 l4=LM Zmu N 0 100005 n (Z1o l2 i3 l4) K:=by
  subst h0 h1
  induction n generalizing i3 l4 with
  |zero=>kernel_rfl
  |succ n ih=>rw[Zb5];simp only[ih];kernel_rfl
theorem Zaam(N:Nat)(l1:List Int):DN Zmu N (l1,())=Zdn N l1:=by
  conv=>rhs;rw[Zdn];simp(disch:=exact id (by kernel_rfl)) only[Z1p (R:=Unit×Kq) N (CF Zmu N [1,1,1,0,1,0])]
  kernel_rfl
theorem Zmv(N:Nat):GW 113 (Zhf N):=GF Zmu N Tryz.func113 (GC (Z4 N) (GC (Zjn N) (GC (Zv0 N) Wg))) (λd=>Zaam N d.1)
def Zma(N:Nat):Sig:=Sig.of [.v Je false,.v Ja false] [.v Ja false] (λd=>Zgb N d.1 d.2.1)
def Zql:Fn:=⟨Tryz.f115,λ |2=>[.canon [0,1,5,11]]|3=>[.canon [0,1,5]]|4=>[.canon [0,1,5,6]]|5=>[.canon [0,1,5,28]]|6=>[.canon [4]]|100002=>[.canon [0,1,5]]|_=>[],Zma,λN=>[(116,Zfc N)]⟩
def Z6z(l3:List Int)(dA:Int)(i5:Int):St:=⟨[(0,vV Je l3),(1,vI dA),(5,vI i5)],[],0⟩
def Z4y(l3:List Int)(dA:Int)(t7:Int):St:=⟨[(4,vI t7)],[],0⟩
def Z4z(l3:List Int)(dA:Int)(i8:Int)(t9:Bool):St:=⟨[(0,vV Je l3),(1,vI dA),(5,vI i8),(11,vB t9)],[],0⟩
theorem Z60(N:Nat){R:Type}(K:Ex->St->Option R){l3:List Int}{dA:Int}{K0:Int->Option R}{K1:Int->Bool->Option R}(h0:K0= λt7=>K .ret (Z4y l3 dA t7))(h1:K1= λi8 t9=>K (.exit 0) (Z4z l3 dA i8 t9))(n:Nat)(i5:Int):Zcz N l3 dA K0 K1 n i5=LM Zql N 0 100002 n (Z6z l3 dA i5) K:=by
  subst h0 h1
  induction n generalizing i5 with
  |zero=>kernel_rfl
  |succ n ih=>rw[Zcz];simp only[ih];kernel_rfl
theorem Zafk(N:Nat)(l1:List Int)(aL:Int):DN Zql N (l1,aL,())=Zgb N l1 aL:=by
  conv=>rhs;rw[Zgb];simp(disch:=exact id (by kernel_rfl)) only[Z60 (R:=Unit×Kh) N (CF Zql N [1,0,1,0])]
  kernel_rfl
theorem Zu3(N:Nat):GW 115 (Zma N):=GF Zql N Tryz.func115 (GC (Zjn N) Wg) (λd=>Zafk N d.1 d.2.1)
def Zjo(N:Nat):Sig:=Sig.of [.v Je false,.v Ja false,.v Ja false] [.v Jx false,.v Ja false,.v Jr false] (λd=>Zfr N d.1 d.2.1 d.2.2.1)
def Zmw:Fn:=⟨Tryz.f67,λ |10=>[.canon [0,1,2,9,13,60]]|11=>[.canon [0,1,2,9,13]]|12=>[.canon [0,1,2,9,13,67]]|13=>[.canon [9]]|14=>[.canon [6,7,8]]|100010=>[.canon [0,1,2,9,13]]|_=>[],Zjo,λN=>[(112,Zhe N),(113,Zhf N),(114,Zge N),(62,Za0 N),(115,Zma N),(116,Zfc N),(117,Zln N)]⟩
def Z1q(an:List Int)(bd:Int)(fm:Int)(fW:Int)(bh:List Int):St:=⟨[(0,vV Je an),(1,vI bd),(2,vI fm),(9,vO 0),(13,vI fW)],[(0,.arr Ja bh)],1⟩
def Zy1(an:List Int)(bd:Int)(fm:Int)(bh:List Int)(cC:List Int):St:=⟨[(6,vO 0),(7,vI 0),(8,vB true)],[(0,.arr Ja cC)],1⟩
def Zy2(an:List Int)(bd:Int)(fm:Int)(bh:List Int)(nD:Int)(fv:Bool):St:=⟨[(0,vV Je an),(1,vI bd),(2,vI fm),(9,vO 0),(13,vI nD),(60,vB fv)],[(0,.arr Ja bh)],1⟩
theorem Z1r(N:Nat){R:Type}(K:Ex->St->Option R){an:List Int}{bd:Int}{fm:Int}{bh:List Int}{K0:Ki->Option R}{K1:Int->Bool->Option R}(h0:K0= λcC=>K .ret (Zy1 an bd fm bh cC))(h1:K1= λnD fv=>K (.exit 0) (Zy2 an bd fm bh nD fv))(n:Nat)(fW:Int):Zc2 N an bd fm bh K0 K1 n fW=LM Zmw N 0 100010 n (Z1q an bd fm fW bh) K:=by
  subst h0 h1
  induction n generalizing fW with
  |zero=>kernel_rfl
  |succ n ih=>rw[Zc2];simp only[ih];kernel_rfl
theorem Zaan(N:Nat)(l1:List Int)(aL:Int)(v3:Int):DN Zmw N (l1,aL,v3,())=Zfr N l1 aL v3:=by
  conv=>rhs;rw[Zfr];simp(disch:=exact id (by kernel_rfl)) only[Z1r (R:=Unit×(Ki×Kk)) N (CF Zmw N [1,1,1,1,1,0,1,0])]
  kernel_rfl
theorem Zsf(N:Nat):GW 67 (Zjo N):=GF Zmw N Tryz.func67 (GC (Zmt N) (GC (Zmv N) (GC (Zkt N) (GC (Zbz N) (GC (Zu3 N) (GC (Zjn N) (GC (Zv0 N) Wg))))))) (λd=>Zaan N d.1 d.2.1 d.2.2.1)
def Zpq(N:Nat):Sig:=Sig.of [.v Je false] [.v Jx false] (λd=>Ze9 N d.1)
def Zku:Fn:=⟨Tryz.f38,λ |5=>[.canon [0,3,4,16]]|6=>[.canon [0,3,4]]|7=>[.canon [0,3,4,24]]|8=>[.canon [2]]|9=>[.canon [0,3,4,30]]|10=>[.canon [0,4,5]]|11=>[.canon [0,3,4]]|100005=>[.canon [0,3,4]]|_=>[],Zpq,λN=>[(66,Zse N),(39,Z1 N),(67,Zjo N)]⟩
def Zxo(m3:List Int)(k4:Int)(l5:List Int):St:=⟨[(0,vV Je m3),(3,vO 0),(4,vI k4)],[(0,.arr Ja l5)],1⟩
def Zwp(m3:List Int):St:=⟨[(2,vO 0)],[(0,.arr Ja ([]:List Int))],1⟩
def Zwq(m3:List Int)(k8:Int)(t9:Bool)(cP:List Int):St:=⟨[(0,vV Je m3),(3,vO 0),(4,vI k8),(16,vB t9)],[(0,.arr Ja cP)],1⟩
theorem Zxp(N:Nat){R:Type}(K:Ex->St->Option R){m3:List Int}{K0:Option R}{K1:Int->Bool->Ki->Option R}(h0:K0=K .ret (Zwp m3))(h1:K1= λk8 t9 cP=>K (.exit 0) (Zwq m3 k8 t9 cP))(n:Nat)(k4:Int)(l5:List Int):Zbk N m3 K0 K1 n k4 l5=LM Zku N 0 100005 n (Zxo m3 k4 l5) K:=by
  subst h0 h1
  induction n generalizing k4 l5 with
  |zero=>kernel_rfl
  |succ n ih=>rw[Zbk];simp only[ih];kernel_rfl
theorem Z61(N:Nat)(m1:List Int):DN Zku N (m1,())=Ze9 N m1:=by
  conv=>rhs;rw[Ze9];simp(disch:=exact id (by kernel_rfl)) only[Zxp (R:=Unit×Kad) N (CF Zku N [1,1,1,0,1,0])]
  kernel_rfl
theorem Z62(N:Nat):GW 38 (Zpq N):=GF Zku N Tryz.func38 (GC (Zaaj N) (GC (Z4 N) (GC (Zsf N) Wg))) (λd=>Z61 N d.1)
def Zty(N:Nat):Sig:=Sig.of [.v Js true] [.v Jh true] (λd=>Zrv N d.1)
def Zadr:Fn:=⟨Tryz.f17,Wx,Zty,λN=>[(37,Ztx N),(38,Zpq N)]⟩
theorem Zads(N:Nat):GW 17 (Zty N):=GF Zadr N Tryz.func17 (GC (Zadp N) (GC (Z62 N) Wg))
def Zfd(N:Nat):Sig:=Sig.of [.v (TY_Root) true] [.v (.prod Ja (.prod Ja (.prod Ja (.prod Ja (.prod Ja (.prod Ja (.prod Ja (.prod Ja (.prod Ja (.prod Ja (.prod Ja (.prod Jr (.prod Jx (.prod Jc (.prod Jc (.prod (.own Jj) (.prod Jo (.prod Jx (.prod Jr (.prod Jq (.prod Ji Jah))))))))))))))))))))) true] (λd=>Zbe N d.1)
def Zaao:Fn:=⟨Tryz.f68,Wx,Zfd,W0⟩
theorem Zjp(N:Nat):GW 68 (Zfd N):=GF Zaao N Tryz.func68 Wg
def Zsg(N:Nat):Sig:=Sig.of [.v (TY_Root) true] [.v Jr false] (λd=>Zqd N d.1)
def Zaap:Fn:=⟨Tryz.f118,Wx,Zsg,W0⟩
theorem Zaaq(N:Nat):GW 118 (Zsg N):=GF Zaap N Tryz.func118 Wg
def Zsh(N:Nat):Sig:=Sig.of [.v Jh true,.v (TY_Root) true,.v Ja false] [.v Jh true,.v (TY_Root) true] (λd=>Ziz N d.1 d.2.1 d.2.2.1)
def Zmx:Fn:=⟨Tryz.f69,λ |7=>[.canon [2,3,4,6,7,8,38]]|8=>[.canon [2,3,4,6,7,8]]|9=>[.canon [2,3,4,6,7,8,58]]|10=>[.canon [6,7]]|100007=>[.canon [2,3,4,6,7,8]]|_=>[],Zsh,λN=>[(118,Zsg N)]⟩
def Z1s(k4:Int)(i5:Int)(b6:Int)(b7:Int)(b8:Int)(b9:Int)(ac:Y_Root)(bW:List Kb)(bX:List Int)(cM:List Kb)(d9:List Y_Root)(ct:List Kn):St:=⟨[(2,vI k4),(3,vP 0 0),(4,vP 1 0),(6,vP 2 0),(7,vP 3 0),(8,vI i5)],[(0,.box [.val Ja b6,.val Ja b7,.val Ja b8,.own 4,.own 5,.val Ja b9,.own 6,.own 7,.own 8]),(1,.box [.val Ja ac.1,.val Ja ac.2.1,.val Ja ac.2.2.1,.val Ja ac.2.2.2.1,.val Ja ac.2.2.2.2.1,.val Ja ac.2.2.2.2.2.1,.val Ja ac.2.2.2.2.2.2.1,.val Ja ac.2.2.2.2.2.2.2.1,.val Ja ac.2.2.2.2.2.2.2.2.1,.val Ja ac.2.2.2.2.2.2.2.2.2.1,.val Ja ac.2.2.2.2.2.2.2.2.2.2.1,.val Jr ac.2.2.2.2.2.2.2.2.2.2.2.1,.val Je ac.2.2.2.2.2.2.2.2.2.2.2.2.1,.val Jd ac.2.2.2.2.2.2.2.2.2.2.2.2.2.1,.val Jd ac.2.2.2.2.2.2.2.2.2.2.2.2.2.2.1,.val (.slice Jj) ac.2.2.2.2.2.2.2.2.2.2.2.2.2.2.2.1,.val Jo ac.2.2.2.2.2.2.2.2.2.2.2.2.2.2.2.2.1,.val Je ac.2.2.2.2.2.2.2.2.2.2.2.2.2.2.2.2.2.1,.val Jr ac.2.2.2.2.2.2.2.2.2.2.2.2.2.2.2.2.2.2.1,.val Ja ac.2.2.2.2.2.2.2.2.2.2.2.2.2.2.2.2.2.2.2.1.1,.val Ja ac.2.2.2.2.2.2.2.2.2.2.2.2.2.2.2.2.2.2.2.1.2.1,.val Ja ac.2.2.2.2.2.2.2.2.2.2.2.2.2.2.2.2.2.2.2.1.2.2.1,.val Ja ac.2.2.2.2.2.2.2.2.2.2.2.2.2.2.2.2.2.2.2.1.2.2.2,.val Ja ac.2.2.2.2.2.2.2.2.2.2.2.2.2.2.2.2.2.2.2.2.1.1,.val Ja ac.2.2.2.2.2.2.2.2.2.2.2.2.2.2.2.2.2.2.2.2.1.2.1,.val Ja ac.2.2.2.2.2.2.2.2.2.2.2.2.2.2.2.2.2.2.2.2.1.2.2.1,.val Ja ac.2.2.2.2.2.2.2.2.2.2.2.2.2.2.2.2.2.2.2.2.1.2.2.2.1,.val Ja ac.2.2.2.2.2.2.2.2.2.2.2.2.2.2.2.2.2.2.2.2.1.2.2.2.2.1,.val Jd ac.2.2.2.2.2.2.2.2.2.2.2.2.2.2.2.2.2.2.2.2.1.2.2.2.2.2.1,.val Je ac.2.2.2.2.2.2.2.2.2.2.2.2.2.2.2.2.2.2.2.2.1.2.2.2.2.2.2,.val Ja ac.2.2.2.2.2.2.2.2.2.2.2.2.2.2.2.2.2.2.2.2.2.1,.val Ja ac.2.2.2.2.2.2.2.2.2.2.2.2.2.2.2.2.2.2.2.2.2.2.1,.val Ja ac.2.2.2.2.2.2.2.2.2.2.2.2.2.2.2.2.2.2.2.2.2.2.2.1,.val Jr ac.2.2.2.2.2.2.2.2.2.2.2.2.2.2.2.2.2.2.2.2.2.2.2.2.1,.val Je ac.2.2.2.2.2.2.2.2.2.2.2.2.2.2.2.2.2.2.2.2.2.2.2.2.2.1,.val Jd ac.2.2.2.2.2.2.2.2.2.2.2.2.2.2.2.2.2.2.2.2.2.2.2.2.2.2.1,.val Jo ac.2.2.2.2.2.2.2.2.2.2.2.2.2.2.2.2.2.2.2.2.2.2.2.2.2.2.2.1,.val Je ac.2.2.2.2.2.2.2.2.2.2.2.2.2.2.2.2.2.2.2.2.2.2.2.2.2.2.2.2.1,.val Jd ac.2.2.2.2.2.2.2.2.2.2.2.2.2.2.2.2.2.2.2.2.2.2.2.2.2.2.2.2.2.1,.val Jaa ac.2.2.2.2.2.2.2.2.2.2.2.2.2.2.2.2.2.2.2.2.2.2.2.2.2.2.2.2.2.2]),(2,.box [.val Ja (0:Int),.val Ja (0:Int),.val Ja (0:Int),.nils,.nils,.val Ja (0:Int),.nils,.nils,.nils]),(3,.box [.val Ja (0:Int),.val Ja (0:Int),.val Ja (0:Int),.val Ja (0:Int),.val Ja (0:Int),.val Ja (0:Int),.val Ja (0:Int),.val Ja (0:Int),.val Ja (0:Int),.val Ja (0:Int),.val Ja (0:Int),.val Jr false,.nils,.nils,.nils,.nils,.nils,.nils,.val Jr false,.val Ja (0:Int),.val Ja (0:Int),.val Ja (0:Int),.val Ja (0:Int),.val Ja (0:Int),.val Ja (0:Int),.val Ja (0:Int),.val Ja (0:Int),.val Ja (0:Int),.nils,.nils,.val Ja (0:Int),.val Ja (0:Int),.val Ja (0:Int),.val Jr false,.nils,.nils,.nils,.nils,.nils,.nils]),(4,.arr Jb bW),(5,.arr Ja bX),(6,.arr Jb cM),(7,.arr (TY_Root) d9),(8,.arr Jw ct)],9⟩
def Zy3(k4:Int)(b6:Int)(b7:Int)(b8:Int)(b9:Int)(ac:Y_Root)(bW:List Kb)(bX:List Int)(cM:List Kb)(d9:List Y_Root)(ct:List Kn):St:=⟨[(6,vP 0 0),(7,vP 1 0)],[(0,.box [.val Ja b6,.val Ja b7,.val Ja b8,.own 2,.own 3,.val Ja b9,.own 4,.own 5,.own 6]),(1,.box [.val Ja ac.1,.val Ja ac.2.1,.val Ja ac.2.2.1,.val Ja ac.2.2.2.1,.val Ja ac.2.2.2.2.1,.val Ja ac.2.2.2.2.2.1,.val Ja ac.2.2.2.2.2.2.1,.val Ja ac.2.2.2.2.2.2.2.1,.val Ja ac.2.2.2.2.2.2.2.2.1,.val Ja ac.2.2.2.2.2.2.2.2.2.1,.val Ja ac.2.2.2.2.2.2.2.2.2.2.1,.val Jr ac.2.2.2.2.2.2.2.2.2.2.2.1,.val Je ac.2.2.2.2.2.2.2.2.2.2.2.2.1,.val Jd ac.2.2.2.2.2.2.2.2.2.2.2.2.2.1,.val Jd ac.2.2.2.2.2.2.2.2.2.2.2.2.2.2.1,.val (.slice Jj) ac.2.2.2.2.2.2.2.2.2.2.2.2.2.2.2.1,.val Jo ac.2.2.2.2.2.2.2.2.2.2.2.2.2.2.2.2.1,.val Je ac.2.2.2.2.2.2.2.2.2.2.2.2.2.2.2.2.2.1,.val Jr ac.2.2.2.2.2.2.2.2.2.2.2.2.2.2.2.2.2.2.1,.val Ja ac.2.2.2.2.2.2.2.2.2.2.2.2.2.2.2.2.2.2.2.1.1,.val Ja ac.2.2.2.2.2.2.2.2.2.2.2.2.2.2.2.2.2.2.2.1.2.1,.val Ja ac.2.2.2.2.2.2.2.2.2.2.2.2.2.2.2.2.2.2.2.1.2.2.1,.val Ja ac.2.2.2.2.2.2.2.2.2.2.2.2.2.2.2.2.2.2.2.1.2.2.2,.val Ja ac.2.2.2.2.2.2.2.2.2.2.2.2.2.2.2.2.2.2.2.2.1.1,.val Ja ac.2.2.2.2.2.2.2.2.2.2.2.2.2.2.2.2.2.2.2.2.1.2.1,.val Ja ac.2.2.2.2.2.2.2.2.2.2.2.2.2.2.2.2.2.2.2.2.1.2.2.1,.val Ja ac.2.2.2.2.2.2.2.2.2.2.2.2.2.2.2.2.2.2.2.2.1.2.2.2.1,.val Ja ac.2.2.2.2.2.2.2.2.2.2.2.2.2.2.2.2.2.2.2.2.1.2.2.2.2.1,.val Jd ac.2.2.2.2.2.2.2.2.2.2.2.2.2.2.2.2.2.2.2.2.1.2.2.2.2.2.1,.val Je ac.2.2.2.2.2.2.2.2.2.2.2.2.2.2.2.2.2.2.2.2.1.2.2.2.2.2.2,.val Ja ac.2.2.2.2.2.2.2.2.2.2.2.2.2.2.2.2.2.2.2.2.2.1,.val Ja ac.2.2.2.2.2.2.2.2.2.2.2.2.2.2.2.2.2.2.2.2.2.2.1,.val Ja ac.2.2.2.2.2.2.2.2.2.2.2.2.2.2.2.2.2.2.2.2.2.2.2.1,.val Jr ac.2.2.2.2.2.2.2.2.2.2.2.2.2.2.2.2.2.2.2.2.2.2.2.2.1,.val Je ac.2.2.2.2.2.2.2.2.2.2.2.2.2.2.2.2.2.2.2.2.2.2.2.2.2.1,.val Jd ac.2.2.2.2.2.2.2.2.2.2.2.2.2.2.2.2.2.2.2.2.2.2.2.2.2.2.1,.val Jo ac.2.2.2.2.2.2.2.2.2.2.2.2.2.2.2.2.2.2.2.2.2.2.2.2.2.2.2.1,.val Je ac.2.2.2.2.2.2.2.2.2.2.2.2.2.2.2.2.2.2.2.2.2.2.2.2.2.2.2.2.1,.val Jd ac.2.2.2.2.2.2.2.2.2.2.2.2.2.2.2.2.2.2.2.2.2.2.2.2.2.2.2.2.2.1,.val Jaa ac.2.2.2.2.2.2.2.2.2.2.2.2.2.2.2.2.2.2.2.2.2.2.2.2.2.2.2.2.2.2]),(2,.arr Jb bW),(3,.arr Ja bX),(4,.arr Jb cM),(5,.arr (TY_Root) d9),(6,.arr Jw ct)],7⟩
def Zy4(k4:Int)(b6:Int)(b7:Int)(b8:Int)(b9:Int)(ac:Y_Root)(bW:List Kb)(bX:List Int)(cM:List Kb)(d9:List Y_Root)(ct:List Kn)(qk:Int)(lK:Bool):St:=⟨[(2,vI k4),(3,vP 0 0),(4,vP 1 0),(6,vP 2 0),(7,vP 3 0),(8,vI qk),(38,vB lK)],[(0,.box [.val Ja b6,.val Ja b7,.val Ja b8,.own 4,.own 5,.val Ja b9,.own 6,.own 7,.own 8]),(1,.box [.val Ja ac.1,.val Ja ac.2.1,.val Ja ac.2.2.1,.val Ja ac.2.2.2.1,.val Ja ac.2.2.2.2.1,.val Ja ac.2.2.2.2.2.1,.val Ja ac.2.2.2.2.2.2.1,.val Ja ac.2.2.2.2.2.2.2.1,.val Ja ac.2.2.2.2.2.2.2.2.1,.val Ja ac.2.2.2.2.2.2.2.2.2.1,.val Ja ac.2.2.2.2.2.2.2.2.2.2.1,.val Jr ac.2.2.2.2.2.2.2.2.2.2.2.1,.val Je ac.2.2.2.2.2.2.2.2.2.2.2.2.1,.val Jd ac.2.2.2.2.2.2.2.2.2.2.2.2.2.1,.val Jd ac.2.2.2.2.2.2.2.2.2.2.2.2.2.2.1,.val (.slice Jj) ac.2.2.2.2.2.2.2.2.2.2.2.2.2.2.2.1,.val Jo ac.2.2.2.2.2.2.2.2.2.2.2.2.2.2.2.2.1,.val Je ac.2.2.2.2.2.2.2.2.2.2.2.2.2.2.2.2.2.1,.val Jr ac.2.2.2.2.2.2.2.2.2.2.2.2.2.2.2.2.2.2.1,.val Ja ac.2.2.2.2.2.2.2.2.2.2.2.2.2.2.2.2.2.2.2.1.1,.val Ja ac.2.2.2.2.2.2.2.2.2.2.2.2.2.2.2.2.2.2.2.1.2.1,.val Ja ac.2.2.2.2.2.2.2.2.2.2.2.2.2.2.2.2.2.2.2.1.2.2.1,.val Ja ac.2.2.2.2.2.2.2.2.2.2.2.2.2.2.2.2.2.2.2.1.2.2.2,.val Ja ac.2.2.2.2.2.2.2.2.2.2.2.2.2.2.2.2.2.2.2.2.1.1,.val Ja ac.2.2.2.2.2.2.2.2.2.2.2.2.2.2.2.2.2.2.2.2.1.2.1,.val Ja ac.2.2.2.2.2.2.2.2.2.2.2.2.2.2.2.2.2.2.2.2.1.2.2.1,.val Ja ac.2.2.2.2.2.2.2.2.2.2.2.2.2.2.2.2.2.2.2.2.1.2.2.2.1,.val Ja ac.2.2.2.2.2.2.2.2.2.2.2.2.2.2.2.2.2.2.2.2.1.2.2.2.2.1,.val Jd ac.2.2.2.2.2.2.2.2.2.2.2.2.2.2.2.2.2.2.2.2.1.2.2.2.2.2.1,.val Je ac.2.2.2.2.2.2.2.2.2.2.2.2.2.2.2.2.2.2.2.2.1.2.2.2.2.2.2,.val Ja ac.2.2.2.2.2.2.2.2.2.2.2.2.2.2.2.2.2.2.2.2.2.1,.val Ja ac.2.2.2.2.2.2.2.2.2.2.2.2.2.2.2.2.2.2.2.2.2.2.1,.val Ja ac.2.2.2.2.2.2.2.2.2.2.2.2.2.2.2.2.2.2.2.2.2.2.2.1,.val Jr ac.2.2.2.2.2.2.2.2.2.2.2.2.2.2.2.2.2.2.2.2.2.2.2.2.1,.val Je ac.2.2.2.2.2.2.2.2.2.2.2.2.2.2.2.2.2.2.2.2.2.2.2.2.2.1,.val Jd ac.2.2.2.2.2.2.2.2.2.2.2.2.2.2.2.2.2.2.2.2.2.2.2.2.2.2.1,.val Jo ac.2.2.2.2.2.2.2.2.2.2.2.2.2.2.2.2.2.2.2.2.2.2.2.2.2.2.2.1,.val Je ac.2.2.2.2.2.2.2.2.2.2.2.2.2.2.2.2.2.2.2.2.2.2.2.2.2.2.2.2.1,.val Jd ac.2.2.2.2.2.2.2.2.2.2.2.2.2.2.2.2.2.2.2.2.2.2.2.2.2.2.2.2.2.1,.val Jaa ac.2.2.2.2.2.2.2.2.2.2.2.2.2.2.2.2.2.2.2.2.2.2.2.2.2.2.2.2.2.2]),(2,.box [.val Ja (0:Int),.val Ja (0:Int),.val Ja (0:Int),.nils,.nils,.val Ja (0:Int),.nils,.nils,.nils]),(3,.box [.val Ja (0:Int),.val Ja (0:Int),.val Ja (0:Int),.val Ja (0:Int),.val Ja (0:Int),.val Ja (0:Int),.val Ja (0:Int),.val Ja (0:Int),.val Ja (0:Int),.val Ja (0:Int),.val Ja (0:Int),.val Jr false,.nils,.nils,.nils,.nils,.nils,.nils,.val Jr false,.val Ja (0:Int),.val Ja (0:Int),.val Ja (0:Int),.val Ja (0:Int),.val Ja (0:Int),.val Ja (0:Int),.val Ja (0:Int),.val Ja (0:Int),.val Ja (0:Int),.nils,.nils,.val Ja (0:Int),.val Ja (0:Int),.val Ja (0:Int),.val Jr false,.nils,.nils,.nils,.nils,.nils,.nils]),(4,.arr Jb bW),(5,.arr Ja bX),(6,.arr Jb cM),(7,.arr (TY_Root) d9),(8,.arr Jw ct)],9⟩
theorem Z1t(N:Nat){R:Type}(K:Ex->St->Option R){k4:Int}{b6:Int}{b7:Int}{b8:Int}{b9:Int}{ac:Y_Root}{bW:List Kb}{bX:List Int}{cM:List Kb}{d9:List Y_Root}{ct:List Kn}{K0:Option R}{K1:Int->Bool->Option R}(h0:K0=K .ret (Zy3 k4 b6 b7 b8 b9 ac bW bX cM d9 ct))(h1:K1= λqk lK=>K (.exit 0) (Zy4 k4 b6 b7 b8 b9 ac bW bX cM d9 ct qk lK))(n:Nat)(i5:Int):Zac N k4 b6 b7 b8 b9 ac bW bX cM d9 ct K0 K1 n i5=LM Zmx N 0 100007 n (Z1s k4 i5 b6 b7 b8 b9 ac bW bX cM d9 ct) K:=by
  subst h0 h1
  induction n generalizing i5 with
  |zero=>kernel_rfl
  |succ n ih=>rw[Zac];simp only[ih];kernel_rfl
theorem Zaar(N:Nat)(w1:Y_World)(x2:Y_Root)(k3:Int):DN Zmx N (w1,x2,k3,())=Ziz N w1 x2 k3:=by
  conv=>rhs;rw[Ziz];simp(disch:=exact id (by kernel_rfl)) only[Z1t (R:=Unit×(Y_World×(Y_Root×Unit))) N (CF Zmx N [1,1,1,0,1,0])]
  kernel_rfl
theorem Zaas(N:Nat):GW 69 (Zsh N):=GF Zmx N Tryz.func69 (GC (Zaaq N) Wg) (λd=>Zaar N d.1 d.2.1 d.2.2.1)
def Zhg(N:Nat):Sig:=Sig.of [.v Jo false] [.v Jr false] (λd=>Zfq N d.1)
def Zmy:Fn:=⟨Tryz.f203,λ |2=>[.canon [0,3,8]]|3=>[.canon [0,3]]|4=>[.canon [0,3,4]]|5=>[.canon [0,3,4,30]]|6=>[.canon [2]]|7=>[.canon [0,3,79]]|8=>[.canon [2]]|100002=>[.canon [0,3]]|_=>[],Zhg,λN=>[(39,Z1 N)]⟩
def Z1u(l2:List Kb)(i3:Int):St:=⟨[(0,vV Jo l2),(3,vI i3)],[],0⟩
def Zy5(l2:List Kb):St:=⟨[(2,vB false)],[],0⟩
def Zy6(l2:List Kb)(i7:Int)(t8:Bool):St:=⟨[(0,vV Jo l2),(3,vI i7),(8,vB t8)],[],0⟩
theorem Z1v(N:Nat){R:Type}(K:Ex->St->Option R){l2:List Kb}{K0:Option R}{K1:Int->Bool->Option R}(h0:K0=K .ret (Zy5 l2))(h1:K1= λi7 t8=>K (.exit 0) (Zy6 l2 i7 t8))(n:Nat)(i3:Int):Zbj N l2 K0 K1 n i3=LM Zmy N 0 100002 n (Z1u l2 i3) K:=by
  subst h0 h1
  induction n generalizing i3 with
  |zero=>kernel_rfl
  |succ n ih=>rw[Zbj];simp only[ih];kernel_rfl
theorem Zaat(N:Nat)(l1:List Kb):DN Zmy N (l1,())=Zfq N l1:=by
  conv=>rhs;rw[Zfq];simp(disch:=exact id (by kernel_rfl)) only[Z1v (R:=Unit×Kq) N (CF Zmy N [1,0,1,0])]
  kernel_rfl
theorem Zmz(N:Nat):GW 203 (Zhg N):=GF Zmy N Tryz.func203 (GC (Z4 N) Wg) (λd=>Zaat N d.1)
def Zo4(N:Nat):Sig:=Sig.of [.v Jo false,.v Ja false,.v Ja false] [.v Ja false] (λd=>Zid N d.1 d.2.1 d.2.2.1)
def Zo5:Fn:=⟨Tryz.f242,λ |4=>[.canon [0,1,2,7,14]]|5=>[.canon [0,1,2,7]]|6=>[.canon [0,1,2,7,32]]|7=>[.canon [6]]|100004=>[.canon [0,1,2,7]]|_=>[],Zo4,λN=>[(203,Zhg N)]⟩
def Z40(l5:List Kb)(dP:Int)(cz:Int)(i8:Int):St:=⟨[(0,vV Jo l5),(1,vI dP),(2,vI cz),(7,vI i8)],[],0⟩
def Z1w(l5:List Kb)(dP:Int)(cz:Int)(t9:Int):St:=⟨[(6,vI t9)],[],0⟩
def Z1x(l5:List Kb)(dP:Int)(cz:Int)(bo:Int)(aw:Bool):St:=⟨[(0,vV Jo l5),(1,vI dP),(2,vI cz),(7,vI bo),(14,vB aw)],[],0⟩
theorem Z41(N:Nat){R:Type}(K:Ex->St->Option R){l5:List Kb}{dP:Int}{cz:Int}{K0:Int->Option R}{K1:Int->Bool->Option R}(h0:K0= λt9=>K .ret (Z1w l5 dP cz t9))(h1:K1= λbo aw=>K (.exit 0) (Z1x l5 dP cz bo aw))(n:Nat)(i8:Int):Zci N l5 dP cz K0 K1 n i8=LM Zo5 N 0 100004 n (Z40 l5 dP cz i8) K:=by
  subst h0 h1
  induction n generalizing i8 with
  |zero=>kernel_rfl
  |succ n ih=>rw[Zci];simp only[ih];kernel_rfl
theorem Zadt(N:Nat)(l1:List Kb)(aD:Int)(aF:Int):DN Zo5 N (l1,aD,aF,())=Zid N l1 aD aF:=by
  conv=>rhs;rw[Zid];simp(disch:=exact id (by kernel_rfl)) only[Z41 (R:=Unit×Kh) N (CF Zo5 N [1,1,0,1,0])]
  kernel_rfl
theorem Zxe(N:Nat):GW 242 (Zo4 N):=GF Zo5 N Tryz.func242 (GC (Zmz N) Wg) (λd=>Zadt N d.1 d.2.1 d.2.2.1)
def Zsi(N:Nat):Sig:=Sig.of [.v Jo false,.v Ja false] [.v Jx false] (λd=>Zhb N d.1 d.2.1)
def Zm0:Fn:=⟨Tryz.f180,λ |3=>[.canon [0,1,5,6,9]]|4=>[.canon [0,1,5,6]]|5=>[.canon [0,1,5,6,16]]|6=>[.canon [0,1,5,6]]|100003=>[.canon [0,1,5,6]]|_=>[],Zsi,λN=>[(242,Zo4 N)]⟩
def Z1y(l3:List Kb)(bY:Int)(w5:Int)(l6:List Int):St:=⟨[(0,vV Jo l3),(1,vI bY),(5,vO 0),(6,vI w5)],[(0,.arr Ja l6)],1⟩
def Zy7(l3:List Kb)(bY:Int)(w8:Int)(t9:Bool)(cP:List Int):St:=⟨[(0,vV Jo l3),(1,vI bY),(5,vO 0),(6,vI w8),(9,vB t9)],[(0,.arr Ja cP)],1⟩
theorem Z1z(N:Nat){R:Type}(K:Ex->St->Option R){l3:List Kb}{bY:Int}{K0:Int->Bool->Ki->Option R}(h0:K0= λw8 t9 cP=>K (.exit 0) (Zy7 l3 bY w8 t9 cP))(n:Nat)(w5:Int)(l6:List Int):Zb6 N l3 bY K0 n w5 l6=LM Zm0 N 0 100003 n (Z1y l3 bY w5 l6) K:=by
  subst h0
  induction n generalizing w5 l6 with
  |zero=>kernel_rfl
  |succ n ih=>rw[Zb6];simp only[ih];kernel_rfl
theorem Zaau(N:Nat)(l1:List Kb)(aD:Int):DN Zm0 N (l1,aD,())=Zhb N l1 aD:=by
  conv=>rhs;rw[Zhb];simp(disch:=exact id (by kernel_rfl)) only[Z1z (R:=Unit×Kad) N (CF Zm0 N [1,1,0,1,0])]
  kernel_rfl
theorem Zaav(N:Nat):GW 180 (Zsi N):=GF Zm0 N Tryz.func180 (GC (Zxe N) Wg) (λd=>Zaau N d.1 d.2.1)
def Zo6(N:Nat):Sig:=Sig.of [.v Jh true,.v (TY_Root) true,.v Ja false] [.v Jh true,.v Jv true] (λd=>Zie N d.1 d.2.1 d.2.2.1)
def Zadu:Fn:=⟨Tryz.f133,Wx,Zo6,W0⟩
theorem Zxf(N:Nat):GW 133 (Zo6 N):=GF Zadu N Tryz.func133 Wg
def Zkv(N:Nat):Sig:=Sig.of [.v Jd false] [.v Jr false] (λd=>Zeo N d.1)
def Zo7:Fn:=⟨Tryz.f243,λ |4=>[.canon [0,3,10]]|5=>[.canon [0,3]]|6=>[.canon [0,3,28]]|7=>[.canon [2]]|100004=>[.canon [0,3]]|_=>[],Zkv,λN=>[(179,Zeb N),(62,Za0 N)]⟩
def Z42(l2:List Kc)(i3:Int):St:=⟨[(0,vV Jd l2),(3,vI i3)],[],0⟩
def Z10(l2:List Kc):St:=⟨[(2,vB false)],[],0⟩
def Z11(l2:List Kc)(i6:Int)(t7:Bool):St:=⟨[(0,vV Jd l2),(3,vI i6),(10,vB t7)],[],0⟩
theorem Z43(N:Nat){R:Type}(K:Ex->St->Option R){l2:List Kc}{K0:Option R}{K1:Int->Bool->Option R}(h0:K0=K .ret (Z10 l2))(h1:K1= λi6 t7=>K (.exit 0) (Z11 l2 i6 t7))(n:Nat)(i3:Int):Zdw N l2 K0 K1 n i3=LM Zo7 N 0 100004 n (Z42 l2 i3) K:=by
  subst h0 h1
  induction n generalizing i3 with
  |zero=>kernel_rfl
  |succ n ih=>rw[Zdw];simp only[ih];kernel_rfl
theorem Zadv(N:Nat)(l1:List Kc):DN Zo7 N (l1,())=Zeo N l1:=by
  conv=>rhs;rw[Zeo];simp(disch:=exact id (by kernel_rfl)) only[Z43 (R:=Unit×Kq) N (CF Zo7 N [1,1,0,1,0])]
  kernel_rfl
theorem Ztz(N:Nat):GW 243 (Zkv N):=GF Zo7 N Tryz.func243 (GC (Zh4 N) (GC (Zbz N) Wg)) (λd=>Zadv N d.1)
def Zn7(N:Nat):Sig:=Sig.of [.v Jd false,.v Ja false] [.v Ja false,.v Jr false] (λd=>Zim N d.1 d.2.1)
def Zr1:Fn:=⟨Tryz.f182,λ |4=>[.canon [0,1,6,14]]|5=>[.canon [0,1,6]]|6=>[.canon [0,1,6,23]]|7=>[.canon [4,5]]|100004=>[.canon [0,1,6]]|_=>[],Zn7,λN=>[(243,Zkv N)]⟩
def Z84(l4:List Kc)(aT:Int)(i6:Int):St:=⟨[(0,vV Jd l4),(1,vI aT),(6,vI i6)],[],0⟩
def Z63(l4:List Kc)(aT:Int)(t7:Int):St:=⟨[(4,vI t7),(5,vB true)],[],0⟩
def Z64(l4:List Kc)(aT:Int)(i8:Int)(t9:Bool):St:=⟨[(0,vV Jd l4),(1,vI aT),(6,vI i8),(14,vB t9)],[],0⟩
theorem Z85(N:Nat){R:Type}(K:Ex->St->Option R){l4:List Kc}{aT:Int}{K0:Int->Option R}{K1:Int->Bool->Option R}(h0:K0= λt7=>K .ret (Z63 l4 aT t7))(h1:K1= λi8 t9=>K (.exit 0) (Z64 l4 aT i8 t9))(n:Nat)(i6:Int):Zhv N l4 aT K0 K1 n i6=LM Zr1 N 0 100004 n (Z84 l4 aT i6) K:=by
  subst h0 h1
  induction n generalizing i6 with
  |zero=>kernel_rfl
  |succ n ih=>rw[Zhv];simp only[ih];kernel_rfl
theorem Zagc(N:Nat)(l1:List Kc)(bM:Int):DN Zr1 N (l1,bM,())=Zim N l1 bM:=by
  conv=>rhs;rw[Zim];simp(disch:=exact id (by kernel_rfl)) only[Z85 (R:=Unit×Kk) N (CF Zr1 N [1,1,0,1,0])]
  kernel_rfl
theorem Zvp(N:Nat):GW 182 (Zn7 N):=GF Zr1 N Tryz.func182 (GC (Ztz N) Wg) (λd=>Zagc N d.1 d.2.1)
def Zmb(N:Nat):Sig:=Sig.of [.v Jd false] [.v Jc false] (λd=>Zhk N d.1)
def Zt0:Fn:=⟨Tryz.f135,λ |3=>[.canon [0,3,4,9]]|4=>[.canon [0,3,4]]|5=>[.canon [0,3,4,5,6]]|6=>[.canon [0,3,4,5,18]]|7=>[.canon [0,3,4]]|100003=>[.canon [0,3,4]]|_=>[],Zmb,λN=>[(182,Zn7 N)]⟩
def Zaaw(l2:List Kc)(i3:Int)(l4:List Kc):St:=⟨[(0,vV Jd l2),(3,vO 0),(4,vI i3)],[(0,.arr Jt l4)],1⟩
def Z86(l2:List Kc)(i6:Int)(t7:Bool)(l8:List Kc):St:=⟨[(0,vV Jd l2),(3,vO 0),(4,vI i6),(9,vB t7)],[(0,.arr Jt l8)],1⟩
theorem Zaax(N:Nat){R:Type}(K:Ex->St->Option R){l2:List Kc}{K0:Int->Bool->Kv->Option R}(h0:K0= λi6 t7 l8=>K (.exit 0) (Z86 l2 i6 t7 l8))(n:Nat)(i3:Int)(l4:List Kc):Zg4 N l2 K0 n i3 l4=LM Zt0 N 0 100003 n (Zaaw l2 i3 l4) K:=by
  subst h0
  induction n generalizing i3 l4 with
  |zero=>kernel_rfl
  |succ n ih=>rw[Zg4];simp only[ih];kernel_rfl
theorem Zagu(N:Nat)(l1:List Kc):DN Zt0 N (l1,())=Zhk N l1:=by
  conv=>rhs;rw[Zhk];simp(disch:=exact id (by kernel_rfl)) only[Zaax (R:=Unit×(Kv×Unit)) N (CF Zt0 N [1,1,0,1,0])]
  kernel_rfl
theorem Zt1(N:Nat):GW 135 (Zmb N):=GF Zt0 N Tryz.func135 (GC (Zvp N) Wg) (λd=>Zagu N d.1)
def Zsj(N:Nat):Sig:=Sig.of [.v Jd false] [.v Jx false] (λd=>Zi0 N d.1)
def Zm1:Fn:=⟨Tryz.f244,λ |4=>[.canon [3,4,5,12]]|5=>[.canon [3,4,5]]|6=>[.canon [3,4,5]]|100004=>[.canon [3,4,5]]|_=>[],Zsj,λN=>[(135,Zmb N)]⟩
def Z12(i3:Int)(l4:List Int)(l5:List Kc):St:=⟨[(3,vO 0),(4,vO 1),(5,vI i3)],[(0,.arr Ja l4),(1,.arr Jt l5)],2⟩
def Zy8(l5:List Kc)(i6:Int)(t7:Bool)(l8:List Int):St:=⟨[(3,vO 0),(4,vO 1),(5,vI i6),(12,vB t7)],[(0,.arr Ja l8),(1,.arr Jt l5)],2⟩
theorem Z13(N:Nat){R:Type}(K:Ex->St->Option R){l5:List Kc}{K0:Int->Bool->Ki->Option R}(h0:K0= λi6 t7 l8=>K (.exit 0) (Zy8 l5 i6 t7 l8))(n:Nat)(i3:Int)(l4:List Int):Zc3 N l5 K0 n i3 l4=LM Zm1 N 0 100004 n (Z12 i3 l4 l5) K:=by
  subst h0
  induction n generalizing i3 l4 with
  |zero=>kernel_rfl
  |succ n ih=>rw[Zc3];simp only[ih];kernel_rfl
theorem Zaay(N:Nat)(l1:List Kc):DN Zm1 N (l1,())=Zi0 N l1:=by
  conv=>rhs;rw[Zi0];simp(disch:=exact id (by kernel_rfl)) only[Z13 (R:=Unit×Kad) N (CF Zm1 N [1,1,1,0,1,0])]
  kernel_rfl
theorem Zaaz(N:Nat):GW 244 (Zsj N):=GF Zm1 N Tryz.func244 (GC (Zt1 N) Wg) (λd=>Zaay N d.1)
def Zpr(N:Nat):Sig:=Sig.of [.v Ja false,.v Ja false,.v Jd false,.v Jd false] [.v Ji true,.v Jr false] (λd=>Zfa N d.1 d.2.1 d.2.2.1 d.2.2.2.1)
def Z65:Fn:=⟨Tryz.f181,Wx,Zpr,λN=>[(39,Z1 N),(243,Zkv N),(135,Zmb N),(244,Zsj N)]⟩
theorem Z66(N:Nat):GW 181 (Zpr N):=GF Z65 N Tryz.func181 (GC (Z4 N) (GC (Ztz N) (GC (Zt1 N) (GC (Zaaz N) Wg))))
def Zq9(N:Nat):Sig:=Sig.of [.v Jh true,.v (TY_Root) true,.v Ja false,.v Ja false] [.v Jh true,.v (TY_Root) true] (λd=>Zkq N d.1 d.2.1 d.2.2.1 d.2.2.2.1)
def Z87:Fn:=⟨Tryz.f119,Wx,Zq9,λN=>[(180,Zsi N),(133,Zo6 N),(181,Zpr N)]⟩
theorem Z88(N:Nat):GW 119 (Zq9 N):=GF Z87 N Tryz.func119 (GC (Zaav N) (GC (Zxf N) (GC (Z66 N) Wg)))
def Zhh(N:Nat):Sig:=Sig.of [.v Jad true] [.v Jr false] (λd=>Zei N d.1)
def Zqm:Fn:=⟨Tryz.f193,λ |4=>[.canon [1,3,19]]|5=>[.canon [1,3]]|6=>[.canon [1,3,4]]|7=>[.canon [1,3,44]]|8=>[.canon [2]]|100004=>[.canon [1,3]]|_=>[],Zhh,λN=>[(39,Z1 N),(62,Za0 N)]⟩
def Z67(i3:Int)(b4:Int×List Kb):St:=⟨[(1,vP 0 0),(3,vI i3)],[(0,.box [.val Ja b4.1,.val Jo b4.2])],1⟩
def Z44(b4:Int×List Kb):St:=⟨[(2,vB false)],[],0⟩
def Z45(b4:Int×List Kb)(i8:Int)(t9:Bool):St:=⟨[(1,vP 0 0),(3,vI i8),(19,vB t9)],[(0,.box [.val Ja b4.1,.val Jo b4.2])],1⟩
theorem Z68(N:Nat){R:Type}(K:Ex->St->Option R){b4:Int×List Kb}{K0:Option R}{K1:Int->Bool->Option R}(h0:K0=K .ret (Z44 b4))(h1:K1= λi8 t9=>K (.exit 0) (Z45 b4 i8 t9))(n:Nat)(i3:Int):Zct N b4 K0 K1 n i3=LM Zqm N 0 100004 n (Z67 i3 b4) K:=by
  subst h0 h1
  induction n generalizing i3 with
  |zero=>kernel_rfl
  |succ n ih=>rw[Zct];simp only[ih];kernel_rfl
theorem Zafl(N:Nat)(m1:Int×List Kb):DN Zqm N (m1,())=Zei N m1:=by
  conv=>rhs;rw[Zei];simp(disch:=exact id (by kernel_rfl)) only[Z68 (R:=Unit×Kq) N (CF Zqm N [1,1,0,1,0])]
  kernel_rfl
theorem Zmc(N:Nat):GW 193 (Zhh N):=GF Zqm N Tryz.func193 (GC (Z4 N) (GC (Zbz N) Wg)) (λd=>Zafl N d.1)
def Zsk(N:Nat):Sig:=Sig.of [.v Jq true] [.v Jr false] (λd=>Zp7 N d.1)
def Zaa0:Fn:=⟨Tryz.f245,Wx,Zsk,λN=>[(179,Zeb N),(39,Z1 N),(62,Za0 N)]⟩
theorem Zaa1(N:Nat):GW 245 (Zsk N):=GF Zaa0 N Tryz.func245 (GC (Zh4 N) (GC (Z4 N) (GC (Zbz N) Wg)))
def Zkw(N:Nat):Sig:=Sig.of [.v Jad true,.v Ja false,.v Jq true] [.v Jq true] (λd=>Zez N d.1 d.2.1 d.2.2.1)
def Z69:Fn:=⟨Tryz.f183,Wx,Zkw,λN=>[(193,Zhh N),(245,Zsk N)]⟩
theorem Zvg(N:Nat):GW 183 (Zkw N):=GF Z69 N Tryz.func183 (GC (Zmc N) (GC (Zaa1 N) Wg))
def Zik(N:Nat):Sig:=Sig.of [.v (TY_Root) true] [.v (TY_Root) true] (λd=>Zfs N d.1)
def Z14:Fn:=⟨Tryz.f184,Wx,Zik,λN=>[(68,Zfd N)]⟩
theorem Zt2(N:Nat):GW 184 (Zik N):=GF Z14 N Tryz.func184 (GC (Zjp N) Wg)
def Zar(N:Nat):Sig:=Sig.of [.v Je false] [.v Jx false] (λd=>Zj N d.1)
def Zaa2:Fn:=⟨Tryz.f121,Wx,Zar,W0⟩
theorem Zbn(N:Nat):GW 121 (Zar N):=GF Zaa2 N Tryz.func121 Wg
def Zgf(N:Nat):Sig:=Sig.of [.kv Jh true,.v (TY_Root) true,.v Jq true] [.v (TY_Root) true] (λd=>Zdo N d.1 d.2.1 d.2.2.1)
def Zt3:Fn:=⟨Tryz.f120,Wx,Zgf,λN=>[(182,Zn7 N),(183,Zkw N),(184,Zik N),(121,Zar N)]⟩
theorem Zt4(N:Nat):GW 120 (Zgf N):=GF Zt3 N Tryz.func120 (GC (Zvp N) (GC (Zvg N) (GC (Zt2 N) (GC (Zbn N) Wg))))
def Zm2(N:Nat):Sig:=Sig.of [.v Jae true] [.v Jai true] (λd=>Zl6 N d.1)
def Zaa3:Fn:=⟨Tryz.f199,Wx,Zm2,λN=>[(112,Zhe N)]⟩
theorem Zwe(N:Nat):GW 199 (Zm2 N):=GF Zaa3 N Tryz.func199 (GC (Zmt N) Wg)
def Zm3(N:Nat):Sig:=Sig.of [.v Jae true] [.v Jr false] (λd=>Zl5 N d.1)
def Zaa4:Fn:=⟨Tryz.f200,Wx,Zm3,λN=>[(113,Zhf N),(62,Za0 N)]⟩
theorem Zwf(N:Nat):GW 200 (Zm3 N):=GF Zaa4 N Tryz.func200 (GC (Zmv N) (GC (Zbz N) Wg))
def Zt5(N:Nat):Sig:=Sig.of [.v Jb true] [.v Jr false] (λd=>Zrw N d.1)
def Zadw:Fn:=⟨Tryz.f201,Wx,Zt5,λN=>[(114,Zge N),(62,Za0 N)]⟩
theorem Zadx(N:Nat):GW 201 (Zt5 N):=GF Zadw N Tryz.func201 (GC (Zkt N) (GC (Zbz N) Wg))
def Zlo(N:Nat):Sig:=Sig.of [.v Je false,.v Ja false] [.v Jx false,.v Ja false,.v Jr false] (λd=>Zkr N d.1 d.2.1)
def Z89:Fn:=⟨Tryz.f202,Wx,Zlo,λN=>[(112,Zhe N),(113,Zhf N),(114,Zge N),(115,Zma N),(116,Zfc N)]⟩
theorem Zv1(N:Nat):GW 202 (Zlo N):=GF Z89 N Tryz.func202 (GC (Zmt N) (GC (Zmv N) (GC (Zkt N) (GC (Zu3 N) (GC (Zjn N) Wg)))))
def Zsl(N:Nat):Sig:=Sig.of [.v Jae true,.v Jb true] [.v Jai true,.v Jr false] (λd=>Zqe N d.1 d.2.1)
def Zaa5:Fn:=⟨Tryz.f131,Wx,Zsl,λN=>[(199,Zm2 N),(200,Zm3 N),(201,Zt5 N),(67,Zjo N),(202,Zlo N)]⟩
theorem Zaa6(N:Nat):GW 131 (Zsl N):=GF Zaa5 N Tryz.func131 (GC (Zwe N) (GC (Zwf N) (GC (Zadx N) (GC (Zsf N) (GC (Zv1 N) Wg)))))
def Zgg(N:Nat):Sig:=Sig.of [.v (.prod Ja (.prod Ja (.prod Jy (.prod Jae (.prod Jam (.prod (.own (TY_Root)) (.own Jw))))))) true,.v (TY_Root) true] [.v Jh true,.v Jv true] (λd=>Zft N d.1 d.2.1)
def Z15:Fn:=⟨Tryz.f75,Wx,Zgg,λN=>[(131,Zsl N)]⟩
theorem Zm4(N:Nat):GW 75 (Zgg N):=GF Z15 N Tryz.func75 (GC (Zaa6 N) Wg)
def Zqn(N:Nat):Sig:=Sig.of [.v Jg false,.v Ja false] [.v Ja false] (λd=>Zjb N d.1 d.2.1)
def Zqo:Fn:=⟨Tryz.f122,λ |5=>[.canon [0,5,6,27]]|6=>[.canon [0,5,6]]|7=>[.canon [0,5,6,35]]|8=>[.canon [0,5,6]]|9=>[.canon [0,5,6,43]]|10=>[.canon [0,5,6]]|11=>[.canon [0,5,6,47]]|12=>[.canon [4]]|100005=>[.canon [0,5,6]]|_=>[],Zqn,W0⟩
def Z7a(ab:List Ka)(d4:Int)(k5:Int):St:=⟨[(0,vV Jg ab),(5,vI d4),(6,vI k5)],[],0⟩
def Z46(ab:List Ka)(t6:Int):St:=⟨[(4,vI t6)],[],0⟩
def Z47(ab:List Ka)(d7:Int)(k8:Int)(t9:Bool):St:=⟨[(0,vV Jg ab),(5,vI d7),(6,vI k8),(27,vB t9)],[],0⟩
theorem Z7b(N:Nat){R:Type}(K:Ex->St->Option R){ab:List Ka}{K0:Int->Option R}{K1:Int->Int->Bool->Option R}(h0:K0= λt6=>K .ret (Z46 ab t6))(h1:K1= λd7 k8 t9=>K (.exit 0) (Z47 ab d7 k8 t9))(n:Nat)(d4:Int)(k5:Int):Za3 N ab K0 K1 n d4 k5=LM Zqo N 0 100005 n (Z7a ab d4 k5) K:=by
  subst h0 h1
  induction n generalizing d4 k5 with
  |zero=>kernel_rfl
  |succ n ih=>rw[Za3];simp only[ih];kernel_rfl
theorem Zafm(N:Nat)(ad:List Ka)(i2:Int):DN Zqo N (ad,i2,())=Zjb N ad i2:=by
  conv=>rhs;rw[Zjb];simp(disch:=exact id (by kernel_rfl)) only[Z7b (R:=Unit×Kh) N (CF Zqo N [1,1,1,0,1,0])]
  kernel_rfl
theorem Zy9(N:Nat):GW 122 (Zqn N):=GF Zqo N Tryz.func122 Wg (λd=>Zafm N d.1 d.2.1)
def Zt6(N:Nat):Sig:=Sig.of [.v Ja false,.v Je false,.v Jd false,.v Ja false] [.v Jah true] (λd=>Zj6 N d.1 d.2.1 d.2.2.1 d.2.2.2.1)
def Zh5:Fn:=⟨Tryz.f123,λ |4=>[.canon [1,3,8,9,10,11,24]]|5=>[.canon [1,3,8,9,10,11]]|6=>[.canon [1,3,8,9,10,11]]|8=>[.canon [1,3,8,9,12,45]]|9=>[.canon [1,3,8,9,12]]|10=>[.canon [1,3,8,9,12]]|100004=>[.adoptC 9 6 Jb,.canon [1,3,8,9,10,11]]|100008=>[.adoptC 9 9 (TY_KidRun),.canon [1,3,8,9,12]]|_=>[],Zt6,λN=>[(121,Zar N),(135,Zmb N)]⟩
def Z48(dm:List Int)(dp:Int)(bo:Int)(bk:Int)(ax:List Kc)(cw:List Int)(dG:List Kc)(cy:List Kb):St:=⟨[(1,vV Je dm),(3,vI dp),(8,vP 0 0),(9,vP 1 0),(10,vO 2),(11,vI bo)],[(0,.box [.val Ja (0:Int),.val Ja (0:Int),.val Ja (0:Int),.val Jr false,.nils,.nils,.nils,.nils,.nils,.nils]),(1,.box [.val Ja bk,.val Ja (0:Int),.val Ja (0:Int),.val Jr false,.own 3,.own 4,.own 5,.nils,.nils,.nils]),(2,.arr Jt ax),(3,.arr Ja cw),(4,.arr Jt dG),(5,.arr Jb cy)],6⟩
def Z16(dm:List Int)(dp:Int)(bk:Int)(ax:List Kc)(cw:List Int)(dG:List Kc)(ql:Int)(jH:Bool)(dy:List Kb):St:=⟨[(1,vV Je dm),(3,vI dp),(8,vP 0 0),(9,vP 1 0),(10,vO 2),(11,vI ql),(24,vB jH)],[(0,.box [.val Ja (0:Int),.val Ja (0:Int),.val Ja (0:Int),.val Jr false,.nils,.nils,.nils,.nils,.nils,.nils]),(1,.box [.val Ja bk,.val Ja (0:Int),.val Ja (0:Int),.val Jr false,.own 3,.own 4,.own 5,.nils,.nils,.nils]),(2,.arr Jt ax),(3,.arr Ja cw),(4,.arr Jt dG),(5,.arr Jb dy)],6⟩
theorem Z49(N:Nat){R:Type}(K:Ex->St->Option R){dm:List Int}{dp:Int}{bk:Int}{ax:List Kc}{cw:List Int}{dG:List Kc}{K0:Int->Bool->Kr->Option R}(h0:K0= λql jH dy=>K (.exit 0) (Z16 dm dp bk ax cw dG ql jH dy))(n:Nat)(bo:Int)(cy:List Kb):Zdy N dm dp bk ax cw dG K0 n bo cy=LM Zh5 N 0 100004 n (Z48 dm dp bo bk ax cw dG cy) K:=by
  subst h0
  induction n generalizing bo cy with
  |zero=>kernel_rfl
  |succ n ih=>rw[Zdy];simp only[ih];kernel_rfl
def Z5a(cp:List Int)(bV:Int)(jY:Int)(kw:Int)(df:List Int)(bW:List Kc)(bX:List Kb)(cM:List Y_KidRun):St:=⟨[(1,vV Je cp),(3,vI bV),(8,vP 0 0),(9,vP 1 0),(12,vI jY)],[(0,.box [.val Ja (0:Int),.val Ja (0:Int),.val Ja (0:Int),.val Jr false,.nils,.nils,.nils,.nils,.nils,.nils]),(1,.box [.val Ja kw,.val Ja (0:Int),.val Ja (0:Int),.val Jr false,.own 2,.own 3,.own 4,.nils,.nils,.own 5]),(2,.arr Ja df),(3,.arr Jt bW),(4,.arr Jb bX),(5,.arr (TY_KidRun) cM)],6⟩
def Z17(cp:List Int)(bV:Int)(kw:Int)(df:List Int)(bW:List Kc)(bX:List Kb)(qm:Int)(qn:Bool)(fF:List Y_KidRun):St:=⟨[(1,vV Je cp),(3,vI bV),(8,vP 0 0),(9,vP 1 0),(12,vI qm),(45,vB qn)],[(0,.box [.val Ja (0:Int),.val Ja (0:Int),.val Ja (0:Int),.val Jr false,.nils,.nils,.nils,.nils,.nils,.nils]),(1,.box [.val Ja kw,.val Ja (0:Int),.val Ja (0:Int),.val Jr false,.own 2,.own 3,.own 4,.nils,.nils,.own 5]),(2,.arr Ja df),(3,.arr Jt bW),(4,.arr Jb bX),(5,.arr (TY_KidRun) fF)],6⟩
theorem Z5b(N:Nat){R:Type}(K:Ex->St->Option R){cp:List Int}{bV:Int}{kw:Int}{df:List Int}{bW:List Kc}{bX:List Kb}{K0:Int->Bool->(List Y_KidRun)->Option R}(h0:K0= λqm qn fF=>K (.exit 2) (Z17 cp bV kw df bW bX qm qn fF))(n:Nat)(jY:Int)(cM:List Y_KidRun):Zbt N cp bV kw df bW bX K0 n jY cM=LM Zh5 N 1 100008 n (Z5a cp bV jY kw df bW bX cM) K:=by
  subst h0
  induction n generalizing jY cM with
  |zero=>kernel_rfl
  |succ n ih=>rw[Zbt];simp only[ih];kernel_rfl
theorem Zady(N:Nat)(iG:Int)(am:List Int)(bH:List Kc)(cQ:Int):DN Zh5 N (iG,am,bH,cQ,())=Zj6 N iG am bH cQ:=by
  conv=>rhs;rw[Zj6];simp(disch:=exact id (by kernel_rfl)) only[Z49 (R:=Unit×(Y_Family×Unit)) N (CF Zh5 N [1,1,1,0,1,0]),Z5b (R:=Unit×(Y_Family×Unit)) N (CF Zh5 N [1,1,1,1,0,1,0])]
  kernel_rfl
theorem Zadz(N:Nat):GW 123 (Zt6 N):=GF Zh5 N Tryz.func123 (GC (Zbn N) (GC (Zt1 N) Wg)) (λd=>Zady N d.1 d.2.1 d.2.2.1 d.2.2.2.1)
def Zps(N:Nat):Sig:=Sig.of [.v Jq true] [.v Ja false,.v Ja false] (λd=>Zmm N d.1)
def Z7c:Fn:=⟨Tryz.f185,Wx,Zps,λN=>[(111,Zjm N)]⟩
theorem Z7d(N:Nat):GW 185 (Zps N):=GF Z7c N Tryz.func185 (GC (Zsd N) Wg)
def Zt7(N:Nat):Sig:=Sig.of [.v Jo false,.v Ja false,.v Ja false,.v Ja false] [.v Jx false] (λd=>Zke N d.1 d.2.1 d.2.2.1 d.2.2.2.1)
def Zo8:Fn:=⟨Tryz.f246,λ |5=>[.canon [0,1,2,3,9,10,24]]|6=>[.canon [0,1,2,3,9,10]]|7=>[.canon [0,1,2,3,9,10,54]]|8=>[.canon [0,1,2,3,9,10]]|100005=>[.canon [0,1,2,3,9,10]]|_=>[],Zt7,λN=>[(203,Zhg N),(39,Z1 N)]⟩
def Z5c(l7:List Kb)(dB:Int)(cn:Int)(bt:Int)(bZ:Int)(aV:List Int):St:=⟨[(0,vV Jo l7),(1,vI dB),(2,vI cn),(3,vI bt),(9,vO 0),(10,vI bZ)],[(0,.arr Ja aV)],1⟩
def Z18(l7:List Kb)(dB:Int)(cn:Int)(bt:Int)(iT:Int)(dH:Bool)(bh:List Int):St:=⟨[(0,vV Jo l7),(1,vI dB),(2,vI cn),(3,vI bt),(9,vO 0),(10,vI iT),(24,vB dH)],[(0,.arr Ja bh)],1⟩
theorem Z5d(N:Nat){R:Type}(K:Ex->St->Option R){l7:List Kb}{dB:Int}{cn:Int}{bt:Int}{K0:Int->Bool->Ki->Option R}(h0:K0= λiT dH bh=>K (.exit 0) (Z18 l7 dB cn bt iT dH bh))(n:Nat)(bZ:Int)(aV:List Int):Zay N l7 dB cn bt K0 n bZ aV=LM Zo8 N 0 100005 n (Z5c l7 dB cn bt bZ aV) K:=by
  subst h0
  induction n generalizing bZ aV with
  |zero=>kernel_rfl
  |succ n ih=>rw[Zay];simp only[ih];kernel_rfl
theorem Zad0(N:Nat)(l1:List Kb)(aD:Int)(aF:Int)(aM:Int):DN Zo8 N (l1,aD,aF,aM,())=Zke N l1 aD aF aM:=by
  conv=>rhs;rw[Zke];simp(disch:=exact id (by kernel_rfl)) only[Z5d (R:=Unit×Kad) N (CF Zo8 N [1,1,1,0,1,0])]
  kernel_rfl
theorem Zad1(N:Nat):GW 246 (Zt7 N):=GF Zo8 N Tryz.func246 (GC (Zmz N) (GC (Z4 N) Wg)) (λd=>Zad0 N d.1 d.2.1 d.2.2.1 d.2.2.2.1)
def Zsm(N:Nat):Sig:=Sig.of [.v Jo false,.v Ja false,.v Ja false,.v Ja false] [.v Jam false,.v Jr false] (λd=>Zi1 N d.1 d.2.1 d.2.2.1 d.2.2.2.1)
def Zm5:Fn:=⟨Tryz.f186,λ |7=>[.canon [0,1,2,10,11,12,13,58]]|8=>[.canon [0,1,2,10,11,12,13]]|9=>[.canon [0,1,2,10,11,12,13,14]]|10=>[.canon [0,1,2,10,11,12,13,14,84]]|11=>[.canon [0,1,2,10,11,13,14]]|12=>[.canon [0,1,2,10,11,12,13,14]]|13=>[.canon [0,1,2,10,11,12,13,14,98]]|14=>[.canon [0,1,2,10,11,12,13]]|100007=>[.canon [0,1,2,10,11,12,13]]|_=>[],Zsm,λN=>[(203,Zhg N),(39,Z1 N),(246,Zt7 N),(242,Zo4 N)]⟩
def Z19(an:List Kb)(aq:Int)(ai:Int)(ba:Bool)(aR:Int)(bb:Int)(ax:List Kb):St:=⟨[(0,vV Jo an),(1,vI aq),(2,vI ai),(10,vP 0 0),(11,vO 1),(12,vB ba),(13,vI aR)],[(0,.box [.val Ja aq,.val Ja ai,.val Ja bb]),(1,.arr Jb ax)],2⟩
def Zza(an:List Kb)(aq:Int)(ai:Int)(bb:Int)(hJ:Bool)(qo:Int)(t22:Bool)(fO:List Kb):St:=⟨[(0,vV Jo an),(1,vI aq),(2,vI ai),(10,vP 0 0),(11,vO 1),(12,vB hJ),(13,vI qo),(58,vB t22)],[(0,.box [.val Ja aq,.val Ja ai,.val Ja bb]),(1,.arr Jb fO)],2⟩
theorem Z2a(N:Nat){R:Type}(K:Ex->St->Option R){an:List Kb}{aq:Int}{ai:Int}{bb:Int}{K0:Bool->Int->Bool->Kr->Option R}(h0:K0= λhJ qo t22 fO=>K (.exit 0) (Zza an aq ai bb hJ qo t22 fO))(n:Nat)(ba:Bool)(aR:Int)(ax:List Kb):Zk N an aq ai bb K0 n ba aR ax=LM Zm5 N 0 100007 n (Z19 an aq ai ba aR bb ax) K:=by
  subst h0
  induction n generalizing ba aR ax with
  |zero=>kernel_rfl
  |succ n ih=>rw[Zk];simp only[ih];kernel_rfl
theorem Zaa7(N:Nat)(l1:List Kb)(aD:Int)(aF:Int)(aM:Int):DN Zm5 N (l1,aD,aF,aM,())=Zi1 N l1 aD aF aM:=by
  conv=>rhs;rw[Zi1];simp(disch:=exact id (by kernel_rfl)) only[Z2a (R:=Unit×(Kr×Kq)) N (CF Zm5 N [1,1,1,1,1,0,1,0])]
  kernel_rfl
theorem Zaa8(N:Nat):GW 186 (Zsm N):=GF Zm5 N Tryz.func186 (GC (Zmz N) (GC (Z4 N) (GC (Zad1 N) (GC (Zxe N) Wg)))) (λd=>Zaa7 N d.1 d.2.1 d.2.2.1 d.2.2.2.1)
def Zkx(N:Nat):Sig:=Sig.of [.v Je false] [.v Jr false] (λd=>Zcc N d.1)
def Zo9:Fn:=⟨Tryz.f188,λ |4=>[.canon [0,3,10]]|5=>[.canon [0,3]]|6=>[.canon [0,3,18]]|7=>[.canon [2]]|100004=>[.canon [0,3]]|_=>[],Zkx,λN=>[(62,Za0 N)]⟩
def Z5e(l2:List Int)(i3:Int):St:=⟨[(0,vV Je l2),(3,vI i3)],[],0⟩
def Z2b(l2:List Int):St:=⟨[(2,vB false)],[],0⟩
def Z2c(l2:List Int)(i5:Int)(t6:Bool):St:=⟨[(0,vV Je l2),(3,vI i5),(10,vB t6)],[],0⟩
theorem Z5f(N:Nat){R:Type}(K:Ex->St->Option R){l2:List Int}{K0:Option R}{K1:Int->Bool->Option R}(h0:K0=K .ret (Z2b l2))(h1:K1= λi5 t6=>K (.exit 0) (Z2c l2 i5 t6))(n:Nat)(i3:Int):Zdv N l2 K0 K1 n i3=LM Zo9 N 0 100004 n (Z5e l2 i3) K:=by
  subst h0 h1
  induction n generalizing i3 with
  |zero=>kernel_rfl
  |succ n ih=>rw[Zdv];simp only[ih];kernel_rfl
theorem Zad2(N:Nat)(l1:List Int):DN Zo9 N (l1,())=Zcc N l1:=by
  conv=>rhs;rw[Zcc];simp(disch:=exact id (by kernel_rfl)) only[Z5f (R:=Unit×Kq) N (CF Zo9 N [1,1,0,1,0])]
  kernel_rfl
theorem Zt8(N:Nat):GW 188 (Zkx N):=GF Zo9 N Tryz.func188 (GC (Zbz N) Wg) (λd=>Zad2 N d.1)
def Zsn(N:Nat):Sig:=Sig.of [.v Ja false,.v Ja false] [.v Jb true] (λd=>Zl7 N d.1 d.2.1)
def Zaa9:Fn:=⟨Tryz.f247,Wx,Zsn,W0⟩
theorem Zaba(N:Nat):GW 247 (Zsn N):=GF Zaa9 N Tryz.func247 Wg
def Zso(N:Nat):Sig:=Sig.of [.v Je false,.v Ja false] [.v Ja false,.v Jr false] (λd=>Zqc N d.1 d.2.1)
def Zabb:Fn:=⟨Tryz.f248,Wx,Zso,λN=>[(113,Zhf N),(114,Zge N),(115,Zma N),(116,Zfc N)]⟩
theorem Zabc(N:Nat):GW 248 (Zso N):=GF Zabb N Tryz.func248 (GC (Zmv N) (GC (Zkt N) (GC (Zu3 N) (GC (Zjn N) Wg))))
def Zsp(N:Nat):Sig:=Sig.of [.v Jae true,.v Jq true,.v Je false] [.v Jai true,.v Jx false,.v Jb true,.v Jr false] (λd=>Zqf N d.1 d.2.1 d.2.2.1)
def Zabd:Fn:=⟨Tryz.f187,Wx,Zsp,λN=>[(199,Zm2 N),(112,Zhe N),(200,Zm3 N),(188,Zkx N),(111,Zjm N),(67,Zjo N),(247,Zsn N),(202,Zlo N),(248,Zso N)]⟩
theorem Zabe(N:Nat):GW 187 (Zsp N):=GF Zabd N Tryz.func187 (GC (Zwe N) (GC (Zmt N) (GC (Zwf N) (GC (Zt8 N) (GC (Zsd N) (GC (Zsf N) (GC (Zaba N) (GC (Zv1 N) (GC (Zabc N) Wg)))))))))
def Zra(N:Nat):Sig:=Sig.of [.v Jh true,.v (TY_Root) true,.v Ja false,.v Jq true] [.v Jh true,.v (TY_Root) true] (λd=>Zoq N d.1 d.2.1 d.2.2.1 d.2.2.2.1)
def Z9a:Fn:=⟨Tryz.f124,Wx,Zra,λN=>[(185,Zps N),(186,Zsm N),(184,Zik N),(187,Zsp N)]⟩
theorem Z9b(N:Nat):GW 124 (Zra N):=GF Z9a N Tryz.func124 (GC (Z7d N) (GC (Zaa8 N) (GC (Zt2 N) (GC (Zabe N) Wg))))
def Zr2(N:Nat):Sig:=Sig.of [.v Jq true,.v Je false] [.v Jx false,.v Jr false] (λd=>Zrl N d.1 d.2.1)
def Zagd:Fn:=⟨Tryz.f125,Wx,Zr2,λN=>[(109,Zn6 N),(188,Zkx N)]⟩
theorem Z4b(N:Nat):GW 125 (Zr2 N):=GF Zagd N Tryz.func125 (GC (Zvo N) (GC (Zt8 N) Wg))
def Zt9(N:Nat):Sig:=Sig.of [.v Jh true,.v (TY_Root) true,.v Ja false,.v Jag true] [.v Jh true,.v (TY_Root) true] (λd=>Zrx N d.1 d.2.1 d.2.2.1 d.2.2.2.1)
def Zad3:Fn:=⟨Tryz.f70,Wx,Zt9,λN=>[(119,Zq9 N),(120,Zgf N),(121,Zar N),(75,Zgg N),(122,Zqn N),(123,Zt6 N),(124,Zra N),(125,Zr2 N)]⟩
theorem Zad4(N:Nat):GW 70 (Zt9 N):=GF Zad3 N Tryz.func70 (GC (Z88 N) (GC (Zt4 N) (GC (Zbn N) (GC (Zm4 N) (GC (Zy9 N) (GC (Zadz N) (GC (Z9b N) (GC (Z4b N) Wg))))))))
def Zsq(N:Nat):Sig:=Sig.of [.v (TY_Family) true] [.v Jr false] (λd=>Zi2 N d.1)
def Zm6:Fn:=⟨Tryz.f126,λ |2=>[.canon [1,3,8]]|3=>[.canon [1,3]]|4=>[.canon [1,3,17]]|5=>[.canon [2]]|100002=>[.canon [1,3]]|_=>[],Zsq,W0⟩
def Z2d(i2:Int)(b3:Y_Family):St:=⟨[(1,vP 0 0),(3,vI i2)],[(0,.box [.val Ja b3.1,.val Ja b3.2.1,.val Ja b3.2.2.1,.val Jr b3.2.2.2.1,.val Je b3.2.2.2.2.1,.val Jd b3.2.2.2.2.2.1,.val Jo b3.2.2.2.2.2.2.1,.val Je b3.2.2.2.2.2.2.2.1,.val Jd b3.2.2.2.2.2.2.2.2.1,.val Jaa b3.2.2.2.2.2.2.2.2.2])],1⟩
def Zzb(b3:Y_Family):St:=⟨[(2,vB false)],[],0⟩
def Zzc(b3:Y_Family)(i4:Int)(t5:Bool):St:=⟨[(1,vP 0 0),(3,vI i4),(8,vB t5)],[(0,.box [.val Ja b3.1,.val Ja b3.2.1,.val Ja b3.2.2.1,.val Jr b3.2.2.2.1,.val Je b3.2.2.2.2.1,.val Jd b3.2.2.2.2.2.1,.val Jo b3.2.2.2.2.2.2.1,.val Je b3.2.2.2.2.2.2.2.1,.val Jd b3.2.2.2.2.2.2.2.2.1,.val Jaa b3.2.2.2.2.2.2.2.2.2])],1⟩
theorem Z2e(N:Nat){R:Type}(K:Ex->St->Option R){b3:Y_Family}{K0:Option R}{K1:Int->Bool->Option R}(h0:K0=K .ret (Zzb b3))(h1:K1= λi4 t5=>K (.exit 0) (Zzc b3 i4 t5))(n:Nat)(i2:Int):Zc4 N b3 K0 K1 n i2=LM Zm6 N 0 100002 n (Z2d i2 b3) K:=by
  subst h0 h1
  induction n generalizing i2 with
  |zero=>kernel_rfl
  |succ n ih=>rw[Zc4];simp only[ih];kernel_rfl
theorem Zabf(N:Nat)(f1:Y_Family):DN Zm6 N (f1,())=Zi2 N f1:=by
  conv=>rhs;rw[Zi2];simp(disch:=exact id (by kernel_rfl)) only[Z2e (R:=Unit×Kq) N (CF Zm6 N [1,0,1,0])]
  kernel_rfl
theorem Zabg(N:Nat):GW 126 (Zsq N):=GF Zm6 N Tryz.func126 Wg (λd=>Zabf N d.1)
def Zsr(N:Nat):Sig:=Sig.of [.v (TY_Family) true] [.v Jx false] (λd=>Zi3 N d.1)
def Zm7:Fn:=⟨Tryz.f127,λ |5=>[.canon [1,3,4,23]]|6=>[.canon [1,3,4]]|7=>[.canon [1,3,4]]|8=>[.canon [1,3,4,44]]|9=>[.canon [1,3,4]]|100005=>[.canon [1,3,4]]|_=>[],Zsr,λN=>[(188,Zkx N),(121,Zar N)]⟩
def Z2f(i4:Int)(b5:Y_Family)(l6:List Int):St:=⟨[(1,vP 0 0),(3,vO 1),(4,vI i4)],[(0,.box [.val Ja b5.1,.val Ja b5.2.1,.val Ja b5.2.2.1,.val Jr b5.2.2.2.1,.val Je b5.2.2.2.2.1,.val Jd b5.2.2.2.2.2.1,.val Jo b5.2.2.2.2.2.2.1,.val Je b5.2.2.2.2.2.2.2.1,.val Jd b5.2.2.2.2.2.2.2.2.1,.val Jaa b5.2.2.2.2.2.2.2.2.2]),(1,.arr Ja l6)],2⟩
def Zzd(b5:Y_Family)(i9:Int)(ar:Bool)(an:List Int):St:=⟨[(1,vP 0 0),(3,vO 1),(4,vI i9),(23,vB ar)],[(0,.box [.val Ja b5.1,.val Ja b5.2.1,.val Ja b5.2.2.1,.val Jr b5.2.2.2.1,.val Je b5.2.2.2.2.1,.val Jd b5.2.2.2.2.2.1,.val Jo b5.2.2.2.2.2.2.1,.val Je b5.2.2.2.2.2.2.2.1,.val Jd b5.2.2.2.2.2.2.2.2.1,.val Jaa b5.2.2.2.2.2.2.2.2.2]),(1,.arr Ja an)],2⟩
theorem Z2g(N:Nat){R:Type}(K:Ex->St->Option R){b5:Y_Family}{K0:Int->Bool->Ki->Option R}(h0:K0= λi9 ar an=>K (.exit 0) (Zzd b5 i9 ar an))(n:Nat)(i4:Int)(l6:List Int):Zbl N b5 K0 n i4 l6=LM Zm7 N 0 100005 n (Z2f i4 b5 l6) K:=by
  subst h0
  induction n generalizing i4 l6 with
  |zero=>kernel_rfl
  |succ n ih=>rw[Zbl];simp only[ih];kernel_rfl
theorem Zabh(N:Nat)(f1:Y_Family):DN Zm7 N (f1,())=Zi3 N f1:=by
  conv=>rhs;rw[Zi3];simp(disch:=exact id (by kernel_rfl)) only[Z2g (R:=Unit×Kad) N (CF Zm7 N [1,1,1,0,1,0])]
  kernel_rfl
theorem Zabi(N:Nat):GW 127 (Zsr N):=GF Zm7 N Tryz.func127 (GC (Zt8 N) (GC (Zbn N) Wg)) (λd=>Zabh N d.1)
def Zss(N:Nat):Sig:=Sig.of [.v (TY_Family) true] [.v Jc false] (λd=>Zi4 N d.1)
def Zm8:Fn:=⟨Tryz.f128,λ |3=>[.canon [1,3,4,10]]|4=>[.canon [1,3,4]]|5=>[.canon [1,3,4]]|100003=>[.canon [1,3,4]]|_=>[],Zss,W0⟩
def Z2h(i2:Int)(b3:Y_Family)(l4:List Kc):St:=⟨[(1,vP 0 0),(3,vO 1),(4,vI i2)],[(0,.box [.val Ja b3.1,.val Ja b3.2.1,.val Ja b3.2.2.1,.val Jr b3.2.2.2.1,.val Je b3.2.2.2.2.1,.val Jd b3.2.2.2.2.2.1,.val Jo b3.2.2.2.2.2.2.1,.val Je b3.2.2.2.2.2.2.2.1,.val Jd b3.2.2.2.2.2.2.2.2.1,.val Jaa b3.2.2.2.2.2.2.2.2.2]),(1,.arr Jt l4)],2⟩
def Zze(b3:Y_Family)(i5:Int)(t6:Bool)(l7:List Kc):St:=⟨[(1,vP 0 0),(3,vO 1),(4,vI i5),(10,vB t6)],[(0,.box [.val Ja b3.1,.val Ja b3.2.1,.val Ja b3.2.2.1,.val Jr b3.2.2.2.1,.val Je b3.2.2.2.2.1,.val Jd b3.2.2.2.2.2.1,.val Jo b3.2.2.2.2.2.2.1,.val Je b3.2.2.2.2.2.2.2.1,.val Jd b3.2.2.2.2.2.2.2.2.1,.val Jaa b3.2.2.2.2.2.2.2.2.2]),(1,.arr Jt l7)],2⟩
theorem Z2i(N:Nat){R:Type}(K:Ex->St->Option R){b3:Y_Family}{K0:Int->Bool->Kv->Option R}(h0:K0= λi5 t6 l7=>K (.exit 0) (Zze b3 i5 t6 l7))(n:Nat)(i2:Int)(l4:List Kc):Zc5 N b3 K0 n i2 l4=LM Zm8 N 0 100003 n (Z2h i2 b3 l4) K:=by
  subst h0
  induction n generalizing i2 l4 with
  |zero=>kernel_rfl
  |succ n ih=>rw[Zc5];simp only[ih];kernel_rfl
theorem Zabj(N:Nat)(f1:Y_Family):DN Zm8 N (f1,())=Zi4 N f1:=by
  conv=>rhs;rw[Zi4];simp(disch:=exact id (by kernel_rfl)) only[Z2i (R:=Unit×(Kv×Unit)) N (CF Zm8 N [1,1,0,1,0])]
  kernel_rfl
theorem Zabk(N:Nat):GW 128 (Zss N):=GF Zm8 N Tryz.func128 Wg (λd=>Zabj N d.1)
def Zst(N:Nat):Sig:=Sig.of [.v (TY_Root) true] [.v (TY_Root) true] (λd=>Zqg N d.1)
def Zabl:Fn:=⟨Tryz.f71,Wx,Zst,λN=>[(68,Zfd N),(126,Zsq N),(127,Zsr N),(128,Zss N),(121,Zar N)]⟩
theorem Zabm(N:Nat):GW 71 (Zst N):=GF Zabl N Tryz.func71 (GC (Zjp N) (GC (Zabg N) (GC (Zabi N) (GC (Zabk N) (GC (Zbn N) Wg)))))
def Zpt(N:Nat):Sig:=Sig.of [.v Jh true,.v (TY_Root) true] [.v Jh true,.v (TY_Root) true] (λd=>Zmn N d.1 d.2.1)
def Z7e:Fn:=⟨Tryz.f72,Wx,Zpt,λN=>[(75,Zgg N)]⟩
theorem Z7f(N:Nat):GW 72 (Zpt N):=GF Z7e N Tryz.func72 (GC (Zm4 N) Wg)
def Zfe(N:Nat):Sig:=Sig.of [.kv Jh true,.v (TY_Root) true] [.v (TY_Root) true] (λd=>Zcq N d.1 d.2.1)
def Zsu:Fn:=⟨Tryz.f73,Wx,Zfe,λN=>[(68,Zfd N),(121,Zar N)]⟩
theorem Zsv(N:Nat):GW 73 (Zfe N):=GF Zsu N Tryz.func73 (GC (Zjp N) (GC (Zbn N) Wg))
def Zm9(N:Nat):Sig:=Sig.of [.v Jn true] [.v Ji true] (λd=>Zl8 N d.1)
def Zabn:Fn:=⟨Tryz.f189,Wx,Zm9,W0⟩
theorem Zwg(N:Nat):GW 189 (Zm9 N):=GF Zabn N Tryz.func189 Wg
def Zpu(N:Nat):Sig:=Sig.of [.v Je false] [.v Jr false] (λd=>Zjl N d.1)
def Zky:Fn:=⟨Tryz.f249,λ |2=>[.canon [0,3,7]]|3=>[.canon [0,3]]|4=>[.canon [0,3,31]]|5=>[.canon [2]]|100002=>[.canon [0,3]]|_=>[],Zpu,λN=>[(179,Zeb N)]⟩
def Zxq(l2:List Int)(i3:Int):St:=⟨[(0,vV Je l2),(3,vI i3)],[],0⟩
def Zwr(l2:List Int):St:=⟨[(2,vB false)],[],0⟩
def Zws(l2:List Int)(i5:Int)(t6:Bool):St:=⟨[(0,vV Je l2),(3,vI i5),(7,vB t6)],[],0⟩
theorem Zxr(N:Nat){R:Type}(K:Ex->St->Option R){l2:List Int}{K0:Option R}{K1:Int->Bool->Option R}(h0:K0=K .ret (Zwr l2))(h1:K1= λi5 t6=>K (.exit 0) (Zws l2 i5 t6))(n:Nat)(i3:Int):Zbm N l2 K0 K1 n i3=LM Zky N 0 100002 n (Zxq l2 i3) K:=by
  subst h0 h1
  induction n generalizing i3 with
  |zero=>kernel_rfl
  |succ n ih=>rw[Zbm];simp only[ih];kernel_rfl
theorem Z7g(N:Nat)(l1:List Int):DN Zky N (l1,())=Zjl N l1:=by
  conv=>rhs;rw[Zjl];simp(disch:=exact id (by kernel_rfl)) only[Zxr (R:=Unit×Kq) N (CF Zky N [1,0,1,0])]
  kernel_rfl
theorem Z7h(N:Nat):GW 249 (Zpu N):=GF Zky N Tryz.func249 (GC (Zh4 N) Wg) (λd=>Z7g N d.1)
def Zua(N:Nat):Sig:=Sig.of [.v Jn true] [.v Ja false] (λd=>Zry N d.1)
def Zad5:Fn:=⟨Tryz.f250,Wx,Zua,W0⟩
theorem Zad6(N:Nat):GW 250 (Zua N):=GF Zad5 N Tryz.func250 Wg
def Zlp(N:Nat):Sig:=Sig.of [.v Jn true] [.v Jr false] (λd=>Zgd N d.1)
def Zlq:Fn:=⟨Tryz.f190,λ |4=>[.canon [1,3,42]]|5=>[.canon [1,3]]|6=>[.canon [1,3,58]]|7=>[.canon [2]]|100004=>[.canon [1,3]]|_=>[],Zlp,λN=>[(39,Z1 N),(243,Zkv N),(249,Zpu N),(250,Zua N)]⟩
def Zzf(i8:Int)(b9:Int×Int×Int×Int×Int×List Kc×List Int):St:=⟨[(1,vP 0 0),(3,vI i8)],[(0,.box [.val Ja b9.1,.val Ja b9.2.1,.val Ja b9.2.2.1,.val Ja b9.2.2.2.1,.val Ja b9.2.2.2.2.1,.val Jd b9.2.2.2.2.2.1,.val Je b9.2.2.2.2.2.2])],1⟩
def Zxs(b9:Int×Int×Int×Int×Int×List Kc×List Int):St:=⟨[(2,vB false)],[],0⟩
def Zxt(b9:Int×Int×Int×Int×Int×List Kc×List Int)(bo:Int)(aw:Bool):St:=⟨[(1,vP 0 0),(3,vI bo),(42,vB aw)],[(0,.box [.val Ja b9.1,.val Ja b9.2.1,.val Ja b9.2.2.1,.val Ja b9.2.2.2.1,.val Ja b9.2.2.2.2.1,.val Jd b9.2.2.2.2.2.1,.val Je b9.2.2.2.2.2.2])],1⟩
theorem Zzg(N:Nat){R:Type}(K:Ex->St->Option R){b9:Int×Int×Int×Int×Int×List Kc×List Int}{K0:Option R}{K1:Int->Bool->Option R}(h0:K0=K .ret (Zxs b9))(h1:K1= λbo aw=>K (.exit 0) (Zxt b9 bo aw))(n:Nat)(i8:Int):Zeh N b9 K0 K1 n i8=LM Zlq N 0 100004 n (Zzf i8 b9) K:=by
  subst h0 h1
  induction n generalizing i8 with
  |zero=>kernel_rfl
  |succ n ih=>rw[Zeh];simp only[ih];kernel_rfl
theorem Z9c(N:Nat)(c1:Int×Int×Int×Int×Int×List Kc×List Int):DN Zlq N (c1,())=Zgd N c1:=by
  conv=>rhs;rw[Zgd];simp(disch:=exact id (by kernel_rfl)) only[Zzg (R:=Unit×Kq) N (CF Zlq N [1,1,0,1,0])]
  kernel_rfl
theorem Zv2(N:Nat):GW 190 (Zlp N):=GF Zlq N Tryz.func190 (GC (Z4 N) (GC (Ztz N) (GC (Z7h N) (GC (Zad6 N) Wg)))) (λd=>Z9c N d.1)
def Zna(N:Nat):Sig:=Sig.of [.v Jn true,.v Ja false] [.v Jn true] (λd=>Zaz N d.1 d.2.1)
def Zabo:Fn:=⟨Tryz.f191,Wx,Zna,W0⟩
theorem Zwh(N:Nat):GW 191 (Zna N):=GF Zabo N Tryz.func191 Wg
def Znb(N:Nat):Sig:=Sig.of [.v Jn true] [.v Jn true,.v Jr false] (λd=>Zks N d.1)
def Z2j:Fn:=⟨Tryz.f129,Wx,Znb,λN=>[(189,Zm9 N),(190,Zlp N),(191,Zna N)]⟩
theorem Z2k(N:Nat):GW 129 (Znb N):=GF Z2j N Tryz.func129 (GC (Zwg N) (GC (Zv2 N) (GC (Zwh N) Wg)))
def Zgh(N:Nat):Sig:=Sig.of [.v Jad true] [.v Jy true] (λd=>Zdd N d.1)
def Zad7:Fn:=⟨Tryz.f192,Wx,Zgh,W0⟩
theorem Zkz(N:Nat):GW 192 (Zgh N):=GF Zad7 N Tryz.func192 Wg
def Zvq(N:Nat):Sig:=Sig.of [.v Jad true,.v Ja false,.v Ja false] [.v Jy true,.v Jr false] (λd=>Zro N d.1 d.2.1 d.2.2.1)
def Zage:Fn:=⟨Tryz.f194,Wx,Zvq,λN=>[(192,Zgh N),(193,Zhh N),(179,Zeb N),(39,Z1 N)]⟩
theorem Zagf(N:Nat):GW 194 (Zvq N):=GF Zage N Tryz.func194 (GC (Zkz N) (GC (Zmc N) (GC (Zh4 N) (GC (Z4 N) Wg))))
def Zu4(N:Nat):Sig:=Sig.of [.v Jn true,.v Ja false] [.v Jn true] (λd=>Zc6 N d.1 d.2.1)
def Zafn:Fn:=⟨Tryz.f195,Wx,Zu4,W0⟩
theorem Zafo(N:Nat):GW 195 (Zu4 N):=GF Zafn N Tryz.func195 Wg
def Zvr(N:Nat):Sig:=Sig.of [.v Jad true] [.v Jy true,.v Ja false] (λd=>Zvd N d.1)
def Zagg:Fn:=⟨Tryz.f196,Wx,Zvr,λN=>[(192,Zgh N),(193,Zhh N)]⟩
theorem Zagh(N:Nat):GW 196 (Zvr N):=GF Zagg N Tryz.func196 (GC (Zkz N) (GC (Zmc N) Wg))
def Zpa(N:Nat):Sig:=Sig.of [.v Jad true,.v Ja false,.v Ja false] [.v Jr false] (λd=>Zn4 N d.1 d.2.1 d.2.2.1)
def Zad8:Fn:=⟨Tryz.f251,Wx,Zpa,λN=>[(193,Zhh N),(179,Zeb N),(39,Z1 N)]⟩
theorem Zxg(N:Nat):GW 251 (Zpa N):=GF Zad8 N Tryz.func251 (GC (Zmc N) (GC (Zh4 N) (GC (Z4 N) Wg)))
def Zu5(N:Nat):Sig:=Sig.of [.v Jad true,.v Ja false,.v Ja false,.v Ja false] [.v Jy true,.v Jr false] (λd=>Zpp N d.1 d.2.1 d.2.2.1 d.2.2.2.1)
def Zafp:Fn:=⟨Tryz.f197,Wx,Zu5,λN=>[(192,Zgh N),(251,Zpa N),(62,Za0 N)]⟩
theorem Zafq(N:Nat):GW 197 (Zu5 N):=GF Zafp N Tryz.func197 (GC (Zkz N) (GC (Zxg N) (GC (Zbz N) Wg)))
def Zub(N:Nat):Sig:=Sig.of [.v Jad true,.v Ja false,.v Ja false,.v Ja false] [.v Jy true,.v Jr false] (λd=>Zif N d.1 d.2.1 d.2.2.1 d.2.2.2.1)
def Zad9:Fn:=⟨Tryz.f198,Wx,Zub,λN=>[(192,Zgh N),(251,Zpa N),(39,Z1 N)]⟩
theorem Zaea(N:Nat):GW 198 (Zub N):=GF Zad9 N Tryz.func198 (GC (Zkz N) (GC (Zxg N) (GC (Z4 N) Wg)))
def Zob(N:Nat):Sig:=Sig.of [.v Jad true,.v Jn true] [.v Jy true,.v Jn true] (λd=>Zlj N d.1 d.2.1)
def Z5g:Fn:=⟨Tryz.f130,Wx,Zob,λN=>[(192,Zgh N),(189,Zm9 N),(193,Zhh N),(190,Zlp N),(194,Zvq N),(191,Zna N),(195,Zu4 N),(196,Zvr N),(197,Zu5 N),(198,Zub N)]⟩
theorem Z5h(N:Nat):GW 130 (Zob N):=GF Z5g N Tryz.func130 (GC (Zkz N) (GC (Zwg N) (GC (Zmc N) (GC (Zv2 N) (GC (Zagf N) (GC (Zwh N) (GC (Zafo N) (GC (Zagh N) (GC (Zafq N) (GC (Zaea N) Wg))))))))))
def Zpv(N:Nat):Sig:=Sig.of [.v Jh true,.v (TY_Root) true,.v Ja false] [.v Jh true,.v (TY_Root) true] (λd=>Zmo N d.1 d.2.1 d.2.2.1)
def Z7i:Fn:=⟨Tryz.f74,Wx,Zpv,λN=>[(129,Znb N),(68,Zfd N),(130,Zob N)]⟩
theorem Z7j(N:Nat):GW 74 (Zpv N):=GF Z7i N Tryz.func74 (GC (Z2k N) (GC (Zjp N) (GC (Z5h N) Wg)))
def Zrb(N:Nat):Sig:=Sig.of [.v Jo false,.v Ja false] [.v Jam false] (λd=>Zh2 N d.1 d.2.1)
def Zlr:Fn:=⟨Tryz.f132,λ |4=>[.canon [0,1,5,6,7,14]]|5=>[.canon [0,1,5,6,7]]|6=>[.canon [0,1,5,6,7,27]]|7=>[.canon [0,1,5,6,7]]|100004=>[.canon [0,1,5,6,7]]|_=>[],Zrb,λN=>[(203,Zhg N)]⟩
def Zzh(l4:List Kb)(ey:Int)(cH:Bool)(i7:Int)(l8:List Kb):St:=⟨[(0,vV Jo l4),(1,vI ey),(5,vO 0),(6,vB cH),(7,vI i7)],[(0,.arr Jb l8)],1⟩
def Zxu(l4:List Kb)(ey:Int)(cH:Bool)(i9:Int)(ar:Bool)(an:List Kb):St:=⟨[(0,vV Jo l4),(1,vI ey),(5,vO 0),(6,vB cH),(7,vI i9),(14,vB ar)],[(0,.arr Jb an)],1⟩
theorem Zzi(N:Nat){R:Type}(K:Ex->St->Option R){l4:List Kb}{ey:Int}{cH:Bool}{K0:Int->Bool->Kr->Option R}(h0:K0= λi9 ar an=>K (.exit 0) (Zxu l4 ey cH i9 ar an))(n:Nat)(i7:Int)(l8:List Kb):Za9 N l4 ey cH K0 n i7 l8=LM Zlr N 0 100004 n (Zzh l4 ey cH i7 l8) K:=by
  subst h0
  induction n generalizing i7 l8 with
  |zero=>kernel_rfl
  |succ n ih=>rw[Za9];simp only[ih];kernel_rfl
theorem Z9d(N:Nat)(l1:List Kb)(aD:Int):DN Zlr N (l1,aD,())=Zh2 N l1 aD:=by
  conv=>rhs;rw[Zh2];simp(disch:=exact id (by kernel_rfl)) only[Zzi (R:=Unit×Kac) N (CF Zlr N [1,1,1,0,1,0])]
  kernel_rfl
theorem Z9e(N:Nat):GW 132 (Zrb N):=GF Zlr N Tryz.func132 (GC (Zmz N) Wg) (λd=>Z9d N d.1 d.2.1)
def Zsw(N:Nat):Sig:=Sig.of [.v (.prod Ja (.prod Ja (.prod Jy (.prod Jai (.prod Jo (.prod (.own (TY_Root)) (.own Jw))))))) true,.v (TY_Root) true,.v Ja false] [.v Jh true,.v Jv true] (λd=>Zux N d.1 d.2.1 d.2.2.1)
def Zabp:Fn:=⟨Tryz.f76,Wx,Zsw,λN=>[(132,Zrb N),(133,Zo6 N)]⟩
theorem Zabq(N:Nat):GW 76 (Zsw N):=GF Zabp N Tryz.func76 (GC (Z9e N) (GC (Zxf N) Wg))
def Zsx(N:Nat):Sig:=Sig.of [.v Jh true,.v Jag true,.v Ja false] [.v Jh true] (λd=>Zl9 N d.1 d.2.1 d.2.2.1)
def Zabr:Fn:=⟨Tryz.f40,Wx,Zsx,λN=>[(39,Z1 N),(68,Zfd N),(69,Zsh N),(70,Zt9 N),(71,Zst N),(72,Zpt N),(73,Zfe N),(74,Zpv N),(75,Zgg N),(76,Zsw N)]⟩
theorem Zabs(N:Nat):GW 40 (Zsx N):=GF Zabr N Tryz.func40 (GC (Z4 N) (GC (Zjp N) (GC (Zaas N) (GC (Zad4 N) (GC (Zabm N) (GC (Z7f N) (GC (Zsv N) (GC (Z7j N) (GC (Zm4 N) (GC (Zabq N) Wg))))))))))
def Zls(N:Nat):Sig:=Sig.of [.v (TY_Family) true,.v Ja false] [.v Jb true] (λd=>Zf7 N d.1 d.2.1)
def Zlt:Fn:=⟨Tryz.f79,λ |2=>[.canon [1,2,4,5,10]]|3=>[.canon [1,2,4,5]]|4=>[.canon [1,2,4,5,20]]|5=>[.canon [4]]|100002=>[.canon [1,2,4,5]]|_=>[],Zls,W0⟩
def Zzj(cF:Int)(i4:Int)(b5:Y_Family):St:=⟨[(1,vI cF),(2,vP 0 0),(4,vP 1 0),(5,vI i4)],[(0,.box [.val Ja b5.1,.val Ja b5.2.1,.val Ja b5.2.2.1,.val Jr b5.2.2.2.1,.val Je b5.2.2.2.2.1,.val Jd b5.2.2.2.2.2.1,.val Jo b5.2.2.2.2.2.2.1,.val Je b5.2.2.2.2.2.2.2.1,.val Jd b5.2.2.2.2.2.2.2.2.1,.val Jaa b5.2.2.2.2.2.2.2.2.2]),(1,.box [.val Ja (0:Int),.val Ja (0:Int),.val Ja (0:Int)])],2⟩
def Zxv(cF:Int)(b5:Y_Family)(b9:Int×Int×Int):St:=⟨[(4,vP 0 0)],[(0,.box [.val Ja b9.1,.val Ja b9.2.1,.val Ja b9.2.2])],1⟩
def Zxw(cF:Int)(b5:Y_Family)(bo:Int)(aw:Bool):St:=⟨[(1,vI cF),(2,vP 0 0),(4,vP 1 0),(5,vI bo),(10,vB aw)],[(0,.box [.val Ja b5.1,.val Ja b5.2.1,.val Ja b5.2.2.1,.val Jr b5.2.2.2.1,.val Je b5.2.2.2.2.1,.val Jd b5.2.2.2.2.2.1,.val Jo b5.2.2.2.2.2.2.1,.val Je b5.2.2.2.2.2.2.2.1,.val Jd b5.2.2.2.2.2.2.2.2.1,.val Jaa b5.2.2.2.2.2.2.2.2.2]),(1,.box [.val Ja (0:Int),.val Ja (0:Int),.val Ja (0:Int)])],2⟩
theorem Zzk(N:Nat){R:Type}(K:Ex->St->Option R){cF:Int}{b5:Y_Family}{K0:Kb->Option R}{K1:Int->Bool->Option R}(h0:K0= λb9=>K .ret (Zxv cF b5 b9))(h1:K1= λbo aw=>K (.exit 0) (Zxw cF b5 bo aw))(n:Nat)(i4:Int):Zcj N cF b5 K0 K1 n i4=LM Zlt N 0 100002 n (Zzj cF i4 b5) K:=by
  subst h0 h1
  induction n generalizing i4 with
  |zero=>kernel_rfl
  |succ n ih=>rw[Zcj];simp only[ih];kernel_rfl
theorem Z9f(N:Nat)(f1:Y_Family)(bM:Int):DN Zlt N (f1,bM,())=Zf7 N f1 bM:=by
  conv=>rhs;rw[Zf7];simp(disch:=exact id (by kernel_rfl)) only[Zzk (R:=Unit×(Kb×Unit)) N (CF Zlt N [1,0,1,0])]
  kernel_rfl
theorem Zv3(N:Nat):GW 79 (Zls N):=GF Zlt N Tryz.func79 Wg (λd=>Z9f N d.1 d.2.1)
def Zgy(N:Nat):Sig:=Sig.of [.kv Jac true,.v (TY_KidRun) true] [.v (.prod Ja (.prod Ja (.prod Ja (.prod Ja (.prod Ja (.prod Ja (.prod Jx (.prod Jam (.prod Jc (.prod (.own Jaf) (.prod Jr Jq))))))))))) true] (λd=>Zfl N d.1 d.2.1)
def Zwt:Fn:=⟨Tryz.f80,Wx,Zgy,λN=>[(121,Zar N)]⟩
theorem Zqy(N:Nat):GW 80 (Zgy N):=GF Zwt N Tryz.func80 (GC (Zbn N) Wg)
def Zlc(N:Nat):Sig:=Sig.of [.kv Jy true,.v Jac true,.v (TY_KidRun) true,.v Jq true] [.v Jac true,.v (TY_KidRun) true] (λd=>Zij N d.1 d.2.1 d.2.2.1 d.2.2.2.1)
def Zxx:Fn:=⟨Tryz.f134,Wx,Zlc,λN=>[(182,Zn7 N),(121,Zar N),(79,Zls N),(80,Zgy N),(183,Zkw N)]⟩
theorem Zxy(N:Nat):GW 134 (Zlc N):=GF Zxx N Tryz.func134 (GC (Zvp N) (GC (Zbn N) (GC (Zv3 N) (GC (Zqy N) (GC (Zvg N) Wg)))))
def Znc(N:Nat):Sig:=Sig.of [.kv Jy true,.v Jac true,.v (TY_KidRun) true,.v Jg false] [.v Jac true,.v (TY_KidRun) true] (λd=>Zkh N d.1 d.2.1 d.2.2.1 d.2.2.2.1)
def Z2l:Fn:=⟨Tryz.f77,Wx,Znc,λN=>[(134,Zlc N),(121,Zar N),(122,Zqn N),(125,Zr2 N)]⟩
theorem Z2m(N:Nat):GW 77 (Znc N):=GF Z2l N Tryz.func77 (GC (Zxy N) (GC (Zbn N) (GC (Zy9 N) (GC (Z4b N) Wg))))
def Zuc(N:Nat):Sig:=Sig.of [.v Jo false,.v Jb true] [.v Jam false] (λd=>Zj7 N d.1 d.2.1)
def Zpb:Fn:=⟨Tryz.f136,λ |4=>[.canon [0,3,5,6,7,12]]|5=>[.canon [0,3,5,6,7]]|6=>[.canon [0,3,5,6,7,26]]|7=>[.canon [0,3,5,7]]|8=>[.canon [0,3,5,6,7]]|9=>[.canon [0,3,5,6,7,38]]|10=>[.canon [0,3,5,6,7]]|100004=>[.canon [0,3,5,6,7]]|_=>[],Zuc,W0⟩
def Z5i(l3:List Kb)(cG:Bool)(i5:Int)(b6:Int×Int×Int)(l7:List Kb):St:=⟨[(0,vV Jo l3),(3,vP 0 0),(5,vO 1),(6,vB cG),(7,vI i5)],[(0,.box [.val Ja b6.1,.val Ja b6.2.1,.val Ja b6.2.2]),(1,.arr Jb l7)],2⟩
def Z2n(l3:List Kb)(b6:Int×Int×Int)(jI:Bool)(i9:Int)(ar:Bool)(an:List Kb):St:=⟨[(0,vV Jo l3),(3,vP 0 0),(5,vO 1),(6,vB jI),(7,vI i9),(12,vB ar)],[(0,.box [.val Ja b6.1,.val Ja b6.2.1,.val Ja b6.2.2]),(1,.arr Jb an)],2⟩
theorem Z5j(N:Nat){R:Type}(K:Ex->St->Option R){l3:List Kb}{b6:Int×Int×Int}{K0:Bool->Int->Bool->Kr->Option R}(h0:K0= λjI i9 ar an=>K (.exit 0) (Z2n l3 b6 jI i9 ar an))(n:Nat)(cG:Bool)(i5:Int)(l7:List Kb):Z2 N l3 b6 K0 n cG i5 l7=LM Zpb N 0 100004 n (Z5i l3 cG i5 b6 l7) K:=by
  subst h0
  induction n generalizing cG i5 l7 with
  |zero=>kernel_rfl
  |succ n ih=>rw[Z2];simp only[ih];kernel_rfl
theorem Zaeb(N:Nat)(l1:List Kb)(e2:Int×Int×Int):DN Zpb N (l1,e2,())=Zj7 N l1 e2:=by
  conv=>rhs;rw[Zj7];simp(disch:=exact id (by kernel_rfl)) only[Z5j (R:=Unit×Kac) N (CF Zpb N [1,1,1,0,1,0])]
  kernel_rfl
theorem Zaec(N:Nat):GW 136 (Zuc N):=GF Zpb N Tryz.func136 Wg (λd=>Zaeb N d.1 d.2.1)
def Zrc(N:Nat):Sig:=Sig.of [.v Jac true,.v (TY_KidRun) true,.v Ja false] [.v (.prod Ja (.prod Ja (.prod Ja (.prod Jr (.prod Je (.prod Jd (.prod Jo (.prod Jx (.prod Jc (.own (TY_KidRun))))))))))) true,.v (.prod Ja (.prod Ja (.prod Ja (.prod Ja (.prod Ja (.prod Ja (.prod Je (.prod Jo (.prod Jd (.prod (.own Jaf) (.prod Jr Jq))))))))))) true] (λd=>Zhw N d.1 d.2.1 d.2.2.1)
def Zgr:Fn:=⟨Tryz.f78,λ |4=>[.canon [2,3,4,6,7,8,9,21]]|5=>[.canon [2,3,4,6,7,8,9]]|6=>[.canon [2,3,4,6,7,8,9]]|9=>[.canon [2,3,4,6,7,10,50]]|10=>[.canon [2,3,4,6,7,10]]|11=>[.canon [2,3,4,6,7,10,59]]|12=>[.canon [2,3,4,6,7,10]]|100004=>[.freezeC 3 6,.canon [2,3,4,6,7,8,9]]|100009=>[.canon [2,3,4,6,7,10]]|_=>[],Zrc,λN=>[(135,Zmb N),(136,Zuc N),(121,Zar N)]⟩
def Zzl(k5:Int)(i6:Int)(b7:Int)(b8:Int)(b9:Int)(ac:Bool)(ca:List Int)(cE:List Kc)(bE:List Kb)(cj:List Int)(bk:List Kc)(aC:Y_KidRun)(cq:List Kc)(cV:List Y_KidRun):St:=⟨[(2,vI k5),(3,vP 0 0),(4,vP 1 0),(6,vP 2 0),(7,vP 3 0),(8,vO 4),(9,vI i6)],[(0,.box [.val Ja b7,.val Ja b8,.val Ja b9,.val Jr ac,.val Je ca,.val Jd cE,.val Jo bE,.val Je cj,.val Jd bk,.own 5]),(1,.box [.val Ja aC.1,.val Ja aC.2.1,.val Ja aC.2.2.1,.val Ja aC.2.2.2.1,.val Ja aC.2.2.2.2.1,.val Ja aC.2.2.2.2.2.1,.val Je aC.2.2.2.2.2.2.1,.val Jo aC.2.2.2.2.2.2.2.1,.val Jd aC.2.2.2.2.2.2.2.2.1,.val (.slice Jaf) aC.2.2.2.2.2.2.2.2.2.1,.val Jr aC.2.2.2.2.2.2.2.2.2.2.1,.val Ja aC.2.2.2.2.2.2.2.2.2.2.2.1,.val Ja aC.2.2.2.2.2.2.2.2.2.2.2.2.1,.val Ja aC.2.2.2.2.2.2.2.2.2.2.2.2.2.1,.val Ja aC.2.2.2.2.2.2.2.2.2.2.2.2.2.2]),(2,.box [.val Ja (0:Int),.val Ja (0:Int),.val Ja (0:Int),.val Jr false,.nils,.nils,.nils,.nils,.nils,.nils]),(3,.box [.val Ja (0:Int),.val Ja (0:Int),.val Ja (0:Int),.val Ja (0:Int),.val Ja (0:Int),.val Ja (0:Int),.nils,.nils,.nils,.nils,.val Jr false,.val Ja (0:Int),.val Ja (0:Int),.val Ja (0:Int),.val Ja (0:Int)]),(4,.arr Jt cq),(5,.arr (TY_KidRun) cV)],6⟩
def Zxz(k5:Int)(b7:Int)(b8:Int)(b9:Int)(ac:Bool)(ca:List Int)(cE:List Kc)(cj:List Int)(bk:List Kc)(aC:Y_KidRun)(cq:List Kc)(cV:List Y_KidRun)(qp:Int)(lP:Bool)(jG:List Kb):St:=⟨[(2,vI k5),(3,vP 0 0),(4,vP 1 0),(6,vP 2 0),(7,vP 3 0),(8,vO 4),(9,vI qp),(21,vB lP)],[(0,.box [.val Ja b7,.val Ja b8,.val Ja b9,.val Jr ac,.val Je ca,.val Jd cE,.val Jo jG,.val Je cj,.val Jd bk,.own 5]),(1,.box [.val Ja aC.1,.val Ja aC.2.1,.val Ja aC.2.2.1,.val Ja aC.2.2.2.1,.val Ja aC.2.2.2.2.1,.val Ja aC.2.2.2.2.2.1,.val Je aC.2.2.2.2.2.2.1,.val Jo aC.2.2.2.2.2.2.2.1,.val Jd aC.2.2.2.2.2.2.2.2.1,.val (.slice Jaf) aC.2.2.2.2.2.2.2.2.2.1,.val Jr aC.2.2.2.2.2.2.2.2.2.2.1,.val Ja aC.2.2.2.2.2.2.2.2.2.2.2.1,.val Ja aC.2.2.2.2.2.2.2.2.2.2.2.2.1,.val Ja aC.2.2.2.2.2.2.2.2.2.2.2.2.2.1,.val Ja aC.2.2.2.2.2.2.2.2.2.2.2.2.2.2]),(2,.box [.val Ja (0:Int),.val Ja (0:Int),.val Ja (0:Int),.val Jr false,.nils,.nils,.nils,.nils,.nils,.nils]),(3,.box [.val Ja (0:Int),.val Ja (0:Int),.val Ja (0:Int),.val Ja (0:Int),.val Ja (0:Int),.val Ja (0:Int),.nils,.nils,.nils,.nils,.val Jr false,.val Ja (0:Int),.val Ja (0:Int),.val Ja (0:Int),.val Ja (0:Int)]),(4,.arr Jt cq),(5,.arr (TY_KidRun) cV)],6⟩
theorem Zzm(N:Nat){R:Type}(K:Ex->St->Option R){k5:Int}{b7:Int}{b8:Int}{b9:Int}{ac:Bool}{ca:List Int}{cE:List Kc}{cj:List Int}{bk:List Kc}{aC:Y_KidRun}{cq:List Kc}{cV:List Y_KidRun}{K0:Int->Bool->Kr->Option R}(h0:K0= λqp lP jG=>K (.exit 0) (Zxz k5 b7 b8 b9 ac ca cE cj bk aC cq cV qp lP jG))(n:Nat)(i6:Int)(bE:List Kb):Zck N k5 b7 b8 b9 ac ca cE cj bk aC cq cV K0 n i6 bE=LM Zgr N 0 100004 n (Zzl k5 i6 b7 b8 b9 ac ca cE bE cj bk aC cq cV) K:=by
  subst h0
  induction n generalizing i6 bE with
  |zero=>kernel_rfl
  |succ n ih=>rw[Zck];simp only[ih];kernel_rfl
def Zzn(eM:Int)(gX:Int)(iH:Int)(eN:Int)(eO:Int)(eP:Bool)(eQ:List Int)(eR:List Kc)(eS:List Kb)(eT:List Int)(bw:Y_KidRun)(dr:List Kc)(dq:List Y_KidRun):St:=⟨[(2,vI eM),(3,vP 0 0),(4,vP 1 0),(6,vP 2 0),(7,vP 3 0),(10,vI gX)],[(0,.box [.val Ja iH,.val Ja eN,.val Ja eO,.val Jr eP,.val Je eQ,.val Jd eR,.val Jo eS,.val Je eT,.own 4,.own 5]),(1,.box [.val Ja bw.1,.val Ja bw.2.1,.val Ja bw.2.2.1,.val Ja bw.2.2.2.1,.val Ja bw.2.2.2.2.1,.val Ja bw.2.2.2.2.2.1,.val Je bw.2.2.2.2.2.2.1,.val Jo bw.2.2.2.2.2.2.2.1,.val Jd bw.2.2.2.2.2.2.2.2.1,.val (.slice Jaf) bw.2.2.2.2.2.2.2.2.2.1,.val Jr bw.2.2.2.2.2.2.2.2.2.2.1,.val Ja bw.2.2.2.2.2.2.2.2.2.2.2.1,.val Ja bw.2.2.2.2.2.2.2.2.2.2.2.2.1,.val Ja bw.2.2.2.2.2.2.2.2.2.2.2.2.2.1,.val Ja bw.2.2.2.2.2.2.2.2.2.2.2.2.2.2]),(2,.box [.val Ja (0:Int),.val Ja (0:Int),.val Ja (0:Int),.val Jr false,.nils,.nils,.nils,.nils,.nils,.nils]),(3,.box [.val Ja (0:Int),.val Ja (0:Int),.val Ja (0:Int),.val Ja (0:Int),.val Ja (0:Int),.val Ja (0:Int),.nils,.nils,.nils,.nils,.val Jr false,.val Ja (0:Int),.val Ja (0:Int),.val Ja (0:Int),.val Ja (0:Int)]),(4,.arr Jt dr),(5,.arr (TY_KidRun) dq)],6⟩
def Zx0(eM:Int)(iH:Int)(eN:Int)(eO:Int)(eP:Bool)(eQ:List Int)(eR:List Kc)(eS:List Kb)(eT:List Int)(bw:Y_KidRun)(dq:List Y_KidRun)(qq:Int)(lR:Bool)(qr:List Kc):St:=⟨[(2,vI eM),(3,vP 0 0),(4,vP 1 0),(6,vP 2 0),(7,vP 3 0),(10,vI qq),(50,vB lR)],[(0,.box [.val Ja iH,.val Ja eN,.val Ja eO,.val Jr eP,.val Je eQ,.val Jd eR,.val Jo eS,.val Je eT,.own 4,.own 5]),(1,.box [.val Ja bw.1,.val Ja bw.2.1,.val Ja bw.2.2.1,.val Ja bw.2.2.2.1,.val Ja bw.2.2.2.2.1,.val Ja bw.2.2.2.2.2.1,.val Je bw.2.2.2.2.2.2.1,.val Jo bw.2.2.2.2.2.2.2.1,.val Jd bw.2.2.2.2.2.2.2.2.1,.val (.slice Jaf) bw.2.2.2.2.2.2.2.2.2.1,.val Jr bw.2.2.2.2.2.2.2.2.2.2.1,.val Ja bw.2.2.2.2.2.2.2.2.2.2.2.1,.val Ja bw.2.2.2.2.2.2.2.2.2.2.2.2.1,.val Ja bw.2.2.2.2.2.2.2.2.2.2.2.2.2.1,.val Ja bw.2.2.2.2.2.2.2.2.2.2.2.2.2.2]),(2,.box [.val Ja (0:Int),.val Ja (0:Int),.val Ja (0:Int),.val Jr false,.nils,.nils,.nils,.nils,.nils,.nils]),(3,.box [.val Ja (0:Int),.val Ja (0:Int),.val Ja (0:Int),.val Ja (0:Int),.val Ja (0:Int),.val Ja (0:Int),.nils,.nils,.nils,.nils,.val Jr false,.val Ja (0:Int),.val Ja (0:Int),.val Ja (0:Int),.val Ja (0:Int)]),(4,.arr Jt qr),(5,.arr (TY_KidRun) dq)],6⟩
theorem Zzo(N:Nat){R:Type}(K:Ex->St->Option R){eM:Int}{iH:Int}{eN:Int}{eO:Int}{eP:Bool}{eQ:List Int}{eR:List Kc}{eS:List Kb}{eT:List Int}{bw:Y_KidRun}{dq:List Y_KidRun}{K0:Int->Bool->Kv->Option R}(h0:K0= λqq lR qr=>K (.exit 2) (Zx0 eM iH eN eO eP eQ eR eS eT bw dq qq lR qr))(n:Nat)(gX:Int)(dr:List Kc):Zbp N eM iH eN eO eP eQ eR eS eT bw dq K0 n gX dr=LM Zgr N 1 100009 n (Zzn eM gX iH eN eO eP eQ eR eS eT bw dr dq) K:=by
  subst h0
  induction n generalizing gX dr with
  |zero=>kernel_rfl
  |succ n ih=>rw[Zbp];simp only[ih];kernel_rfl
theorem Z9g(N:Nat)(f1:Y_Family)(x2:Y_KidRun)(k3:Int):DN Zgr N (f1,x2,k3,())=Zhw N f1 x2 k3:=by
  conv=>rhs;rw[Zhw];simp(disch:=exact id (by kernel_rfl)) only[Zzm (R:=Unit×(Y_Family×(Y_KidRun×Unit))) N (CF Zgr N [1,1,1,0,1,0]),Zzo (R:=Unit×(Y_Family×(Y_KidRun×Unit))) N (CF Zgr N [1,1,1,1,1,0,1,0])]
  kernel_rfl
theorem Z9h(N:Nat):GW 78 (Zrc N):=GF Zgr N Tryz.func78 (GC (Zt1 N) (GC (Zaec N) (GC (Zbn N) Wg))) (λd=>Z9g N d.1 d.2.1 d.2.2.1)
def Zld(N:Nat):Sig:=Sig.of [.kv Jy true,.v (TY_Family) true,.v Jab false,.v Ja false] [.v (TY_Family) true] (λd=>Zdj N d.1 d.2.1 d.2.2.1 d.2.2.2.1)
def Zx1:Fn:=⟨Tryz.f41,Wx,Zld,λN=>[(77,Znc N),(78,Zrc N),(79,Zls N),(80,Zgy N)]⟩
theorem Zx2(N:Nat):GW 41 (Zld N):=GF Zx1 N Tryz.func41 (GC (Z2m N) (GC (Z9h N) (GC (Zv3 N) (GC (Zqy N) Wg))))
def Zud(N:Nat):Sig:=Sig.of [.v Jh true,.v Js true,.v Jb true] [.v Jh true] (λd=>Zn5 N d.1 d.2.1 d.2.2.1)
def Zaed:Fn:=⟨Tryz.f18,Wx,Zud,λN=>[(39,Z1 N),(40,Zsx N),(41,Zld N)]⟩
theorem Zaee(N:Nat):GW 18 (Zud N):=GF Zaed N Tryz.func18 (GC (Z4 N) (GC (Zabs N) (GC (Zx2 N) Wg)))
def Zsy(N:Nat):Sig:=Sig.of [.v Js true] [.v Jal false] (λd=>Zi5 N d.1)
def Zda:Fn:=⟨Tryz.f5,λ |6=>[.canon [1,3,4,5,20]]|7=>[.canon [1,3,4,5]]|8=>[.canon [1,3,4,5,6]]|9=>[.canon [1,3,4,5,6,7]]|10=>[.canon [1,3,4,5,6,7,31]]|11=>[.canon [1,3,4,5,6,7]]|12=>[.canon [1,3,4,5,6,7]]|13=>[.canon [1,3,4,5,6]]|14=>[.canon [1,3,4,5,6,8]]|15=>[.canon [1,3,4,5,6,8,55]]|16=>[.canon [1,3,4,5,6,8]]|17=>[.canon [1,3,4,5,6,8,68]]|18=>[.canon [1,3,4,5,6,8]]|100006=>[.canon [1,3,4,5]]|100010=>[.canon [1,3,4,5,6,7]]|100015=>[.canon [1,3,4,5,6,8]]|_=>[],Zsy,λN=>[(16,Zq8 N),(17,Zty N),(18,Zud N)]⟩
def Z2o(gy:Int)(iq:Int)(bb:Kf×List Km×List Kb)(ax:List Ka)(dI:Int)(dJ:Int)(jf:Int)(jg:Int)(dx:List Int)(dy:List Kb)(c7:List Int)(cg:List Kb)(cR:List Y_Root)(ip:List Kn):St:=⟨[(1,vP 0 0),(3,vO 1),(4,vP 2 0),(5,vI gy),(6,vO 3),(7,vI iq)],[(0,.box [.val Je bb.1.1,.val Je bb.1.2.1,.val Ja bb.1.2.2,.val Jm bb.2.1,.val Jo bb.2.2]),(1,.arr Jq ax),(2,.box [.val Ja dI,.val Ja dJ,.val Ja jf,.own 4,.own 5,.val Ja jg,.own 6,.own 7,.own 8]),(3,.arr Ja dx),(4,.arr Jb dy),(5,.arr Ja c7),(6,.arr Jb cg),(7,.arr (TY_Root) cR),(8,.arr Jw ip)],9⟩
def Zzp(gy:Int)(bb:Kf×List Km×List Kb)(ax:List Ka)(dI:Int)(dJ:Int)(jf:Int)(jg:Int)(dy:List Kb)(c7:List Int)(cg:List Kb)(cR:List Y_Root)(ip:List Kn)(qs:Int)(qu:Bool)(cq:List Int):St:=⟨[(1,vP 0 0),(3,vO 1),(4,vP 2 0),(5,vI gy),(6,vO 3),(7,vI qs),(31,vB qu)],[(0,.box [.val Je bb.1.1,.val Je bb.1.2.1,.val Ja bb.1.2.2,.val Jm bb.2.1,.val Jo bb.2.2]),(1,.arr Jq ax),(2,.box [.val Ja dI,.val Ja dJ,.val Ja jf,.own 4,.own 5,.val Ja jg,.own 6,.own 7,.own 8]),(3,.arr Ja cq),(4,.arr Jb dy),(5,.arr Ja c7),(6,.arr Jb cg),(7,.arr (TY_Root) cR),(8,.arr Jw ip)],9⟩
theorem Z2p(N:Nat){R:Type}(K:Ex->St->Option R){gy:Int}{bb:Kf×List Km×List Kb}{ax:List Ka}{dI:Int}{dJ:Int}{jf:Int}{jg:Int}{dy:List Kb}{c7:List Int}{cg:List Kb}{cR:List Y_Root}{ip:List Kn}{K0:Int->Bool->Ki->Option R}(h0:K0= λqs qu cq=>K (.exit 2) (Zzp gy bb ax dI dJ jf jg dy c7 cg cR ip qs qu cq))(n:Nat)(iq:Int)(dx:List Int):Zb7 N gy bb ax dI dJ jf jg dy c7 cg cR ip K0 n iq dx=LM Zda N 1 100010 n (Z2o gy iq bb ax dI dJ jf jg dx dy c7 cg cR ip) K:=by
  subst h0
  induction n generalizing iq dx with
  |zero=>kernel_rfl
  |succ n ih=>rw[Zb7];simp only[ih];kernel_rfl
def Z2q(jh:Int)(eY:Int)(d6:Kf×List Km×List Kb)(df:List Ka)(fx:Int)(fN:Int)(gG:Int)(gH:Int)(ct:List Int)(eG:List Kb)(fE:List Int)(fF:List Kb)(fG:List Y_Root)(gI:List Kn):St:=⟨[(1,vP 0 0),(3,vO 1),(4,vP 2 0),(5,vI jh),(6,vO 3),(8,vI eY)],[(0,.box [.val Je d6.1.1,.val Je d6.1.2.1,.val Ja d6.1.2.2,.val Jm d6.2.1,.val Jo d6.2.2]),(1,.arr Jq df),(2,.box [.val Ja fx,.val Ja fN,.val Ja gG,.own 4,.own 5,.val Ja gH,.own 6,.own 7,.own 8]),(3,.arr Ja ct),(4,.arr Jb eG),(5,.arr Ja fE),(6,.arr Jb fF),(7,.arr (TY_Root) fG),(8,.arr Jw gI)],9⟩
def Zzq(jh:Int)(d6:Kf×List Km×List Kb)(fx:Int)(fN:Int)(gG:Int)(gH:Int)(ct:List Int)(eG:List Kb)(fE:List Int)(fF:List Kb)(fG:List Y_Root)(gI:List Kn)(qv:Int)(oO:Bool)(qw:List Ka):St:=⟨[(1,vP 0 0),(3,vO 1),(4,vP 2 0),(5,vI jh),(6,vO 3),(8,vI qv),(55,vB oO)],[(0,.box [.val Je d6.1.1,.val Je d6.1.2.1,.val Ja d6.1.2.2,.val Jm d6.2.1,.val Jo d6.2.2]),(1,.arr Jq qw),(2,.box [.val Ja fx,.val Ja fN,.val Ja gG,.own 4,.own 5,.val Ja gH,.own 6,.own 7,.own 8]),(3,.arr Ja ct),(4,.arr Jb eG),(5,.arr Ja fE),(6,.arr Jb fF),(7,.arr (TY_Root) fG),(8,.arr Jw gI)],9⟩
theorem Z2r(N:Nat){R:Type}(K:Ex->St->Option R){jh:Int}{d6:Kf×List Km×List Kb}{fx:Int}{fN:Int}{gG:Int}{gH:Int}{ct:List Int}{eG:List Kb}{fE:List Int}{fF:List Kb}{fG:List Y_Root}{gI:List Kn}{K0:Int->Bool->Kaa->Option R}(h0:K0= λqv oO qw=>K (.exit 4) (Zzq jh d6 fx fN gG gH ct eG fE fF fG gI qv oO qw))(n:Nat)(eY:Int)(df:List Ka):Zb8 N jh d6 fx fN gG gH ct eG fE fF fG gI K0 n eY df=LM Zda N 2 100015 n (Z2q jh eY d6 df fx fN gG gH ct eG fE fF fG gI) K:=by
  subst h0
  induction n generalizing eY df with
  |zero=>kernel_rfl
  |succ n ih=>rw[Zb8];simp only[ih];kernel_rfl
def Z2s(i4:Int)(b5:Kf×List Km×List Kb)(l6:List Ka)(b7:Int)(b8:Int)(b9:Int)(ac:Int)(an:List Kb)(aV:List Int)(aY:List Kb)(bi:List Y_Root)(bh:List Kn):St:=⟨[(1,vP 0 0),(3,vO 1),(4,vP 2 0),(5,vI i4)],[(0,.box [.val Je b5.1.1,.val Je b5.1.2.1,.val Ja b5.1.2.2,.val Jm b5.2.1,.val Jo b5.2.2]),(1,.arr Jq l6),(2,.box [.val Ja b7,.val Ja b8,.val Ja b9,.own 3,.own 4,.val Ja ac,.own 5,.own 6,.own 7]),(3,.arr Jb an),(4,.arr Ja aV),(5,.arr Jb aY),(6,.arr (TY_Root) bi),(7,.arr Jw bh)],8⟩
def Zzr(b5:Kf×List Km×List Kb)(oP:Int)(oQ:Bool)(qx:List Ka)(gB:Int)(qy:Int)(qz:Int)(qC:Int)(gD:List Kb)(gE:List Int)(im:List Kb)(gF:List Y_Root)(kD:List Kn):St:=⟨[(1,vP 0 0),(3,vO 1),(4,vP 2 0),(5,vI oP),(20,vB oQ)],[(0,.box [.val Je b5.1.1,.val Je b5.1.2.1,.val Ja b5.1.2.2,.val Jm b5.2.1,.val Jo b5.2.2]),(1,.arr Jq qx),(2,.box [.val Ja gB,.val Ja qy,.val Ja qz,.own 3,.own 4,.val Ja qC,.own 5,.own 6,.own 7]),(3,.arr Jb gD),(4,.arr Ja gE),(5,.arr Jb im),(6,.arr (TY_Root) gF),(7,.arr Jw kD)],8⟩
theorem Z2t(N:Nat){R:Type}(K:Ex->St->Option R){b5:Kf×List Km×List Kb}{K0:Int->Bool->Kaa->Int->Int->Int->Int->Kr->Ki->Kr->(List Y_Root)->(List Kn)->Option R}(h0:K0= λoP oQ qx gB qy qz qC gD gE im gF kD=>K (.exit 0) (Zzr b5 oP oQ qx gB qy qz qC gD gE im gF kD))(n:Nat)(i4:Int)(l6:List Ka)(b7:Int)(b8:Int)(b9:Int)(ac:Int)(an:List Kb)(aV:List Int)(aY:List Kb)(bi:List Y_Root)(bh:List Kn):Zc7 N b5 K0 n i4 l6 b7 b8 b9 ac an aV aY bi bh=LM Zda N 0 100006 n (Z2s i4 b5 l6 b7 b8 b9 ac an aV aY bi bh) K:=by
  subst h0
  induction n generalizing i4 l6 b7 b8 b9 ac an aV aY bi bh with
  |zero=>kernel_rfl
  |succ n ih=>rw[Zc7];simp(disch:=exact id (by kernel_rfl)) only[ih,Z2p N (CL Zda N 0 100006 [1,0,0,1,0,1,0] n K),Z2r N (CL Zda N 0 100006 [1,0,0,1,1,1,1,0] n K)];kernel_rfl
theorem Zabt(N:Nat)(s1:Kf×List Km×List Kb):DN Zda N (s1,())=Zi5 N s1:=by
  conv=>rhs;rw[Zi5];simp(disch:=exact id (by kernel_rfl)) only[Z2t (R:=Unit×Kai) N (CF Zda N [1,1,1,1,0,1,0])]
  kernel_rfl
theorem Zabu(N:Nat):GW 5 (Zsy N):=GF Zda N Tryz.func5 (GC (Z82 N) (GC (Zads N) (GC (Zaee N) Wg))) (λd=>Zabt N d.1)
def Zr(N:Nat):Sig:=Sig.of [.v Ja false,.v Ja false,.v Ja false] [.v Jr false] (λd=>Zg N d.1 d.2.1 d.2.2.1)
def Zaef:Fn:=⟨Tryz.f24,Wx,Zr,W0⟩
theorem Zy(N:Nat):GW 24 (Zr N):=GF Zaef N Tryz.func24 Wg
def Zas(N:Nat):Sig:=Sig.of [.v Ja false] [.v Jr false] (λd=>Zan N d.1)
def Zabv:Fn:=⟨Tryz.f85,Wx,Zas,λN=>[(24,Zr N)]⟩
theorem Zbo(N:Nat):GW 85 (Zas N):=GF Zabv N Tryz.func85 (GC (Zy N) Wg)
def Zdb(N:Nat):Sig:=Sig.of [.v Je false,.v Ja false] [.v Jr false] (λd=>Z8 N d.1 d.2.1)
def Zk0:Fn:=⟨Tryz.f83,λ |2=>[.canon [0,1,7,8,9,10]]|3=>[.canon [0,1,6,7,8,9]]|4=>[.canon [0,1,7,8,9,15]]|5=>[.canon [4]]|6=>[.canon [0,1,7,8,9]]|100002=>[.canon [0,1,7,8,9]]|_=>[],Zdb,λN=>[(85,Zas N)]⟩
def Zx3(l3:List Int)(n4:Int)(t7:Int):St:=⟨[(0,vV Je l3),(1,vI n4),(7,vV Je l3),(8,vI (Wh l3)),(9,vI t7)],[],0⟩
def Zwu(l3:List Int)(n4:Int):St:=⟨[(4,vB false)],[],0⟩
def Zwv(l3:List Int)(n4:Int)(ar:Int)(aw:Bool):St:=⟨[(0,vV Je l3),(1,vI n4),(7,vV Je l3),(8,vI (Wh l3)),(9,vI ar),(10,vB aw)],[],0⟩
theorem Zx4(N:Nat){R:Type}(K:Ex->St->Option R){l3:List Int}{n4:Int}{K0:Option R}{K1:Int->Bool->Option R}(h0:K0=K .ret (Zwu l3 n4))(h1:K1= λar aw=>K (.exit 0) (Zwv l3 n4 ar aw))(n:Nat)(t7:Int):Zap N l3 n4 K0 K1 n t7=LM Zk0 N 0 100002 n (Zx3 l3 n4 t7) K:=by
  subst h0 h1
  induction n generalizing t7 with
  |zero=>kernel_rfl
  |succ n ih=>rw[Zap];simp only[ih];kernel_rfl
theorem Z7k(N:Nat)(l1:List Int)(n2:Int):DN Zk0 N (l1,n2,())=Z8 N l1 n2:=by
  conv=>rhs;rw[Z8];simp(disch:=exact id (by kernel_rfl)) only[Zx4 (R:=Unit×Kq) N (CF Zk0 N [1,0,1,0])]
  kernel_rfl
theorem Zht(N:Nat):GW 83 (Zdb N):=GF Zk0 N Tryz.func83 (GC (Zbo N) Wg) (λd=>Z7k N d.1 d.2.1)
def Zqp(N:Nat):Sig:=Sig.of [.v Je false] [.v Jr false] (λd=>Zjf N d.1)
def Zqq:Fn:=⟨Tryz.f84,λ |2=>[.canon [0,5,6,7,8]]|3=>[.canon [0,4,5,6,7]]|4=>[.canon [0,5,6,7,13]]|5=>[.canon [2]]|6=>[.canon [0,5,6,7]]|100002=>[.canon [0,5,6,7]]|_=>[],Zqp,λN=>[(24,Zr N)]⟩
def Z7l(l2:List Int)(t5:Int):St:=⟨[(0,vV Je l2),(5,vV Je l2),(6,vI (Wh l2)),(7,vI t5)],[],0⟩
def Z5k(l2:List Int):St:=⟨[(2,vB false)],[],0⟩
def Z5l(l2:List Int)(t8:Int)(t9:Bool):St:=⟨[(0,vV Je l2),(5,vV Je l2),(6,vI (Wh l2)),(7,vI t8),(8,vB t9)],[],0⟩
theorem Z7m(N:Nat){R:Type}(K:Ex->St->Option R){l2:List Int}{K0:Option R}{K1:Int->Bool->Option R}(h0:K0=K .ret (Z5k l2))(h1:K1= λt8 t9=>K (.exit 0) (Z5l l2 t8 t9))(n:Nat)(t5:Int):Ze5 N l2 K0 K1 n t5=LM Zqq N 0 100002 n (Z7l l2 t5) K:=by
  subst h0 h1
  induction n generalizing t5 with
  |zero=>kernel_rfl
  |succ n ih=>rw[Ze5];simp only[ih];kernel_rfl
theorem Zafr(N:Nat)(l1:List Int):DN Zqq N (l1,())=Zjf N l1:=by
  conv=>rhs;rw[Zjf];simp(disch:=exact id (by kernel_rfl)) only[Z7m (R:=Unit×Kq) N (CF Zqq N [1,0,1,0])]
  kernel_rfl
theorem Zzs(N:Nat):GW 84 (Zqp N):=GF Zqq N Tryz.func84 (GC (Zy N) Wg) (λd=>Zafr N d.1)
def Zrd(N:Nat):Sig:=Sig.of [.v Jak true] [.v Jr false] (λd=>Zol N d.1)
def Z9i:Fn:=⟨Tryz.f45,Wx,Zrd,λN=>[(83,Zdb N),(84,Zqp N),(85,Zas N)]⟩
theorem Z9j(N:Nat):GW 45 (Zrd N):=GF Z9i N Tryz.func45 (GC (Zht N) (GC (Zzs N) (GC (Zbo N) Wg)))
def Zu6(N:Nat):Sig:=Sig.of [.v Ja false] [.v Jr false] (λd=>Zbw N d.1)
def Zafs:Fn:=⟨Tryz.f205,Wx,Zu6,λN=>[(24,Zr N)]⟩
theorem Zaft(N:Nat):GW 205 (Zu6 N):=GF Zafs N Tryz.func205 (GC (Zy N) Wg)
def Zb0(N:Nat):Sig:=Sig.of [.v Ja false] [.v Jr false] (λd=>Zbd N d.1)
def Zaeg:Fn:=⟨Tryz.f206,Wx,Zb0,λN=>[(24,Zr N)]⟩
theorem Zec(N:Nat):GW 206 (Zb0 N):=GF Zaeg N Tryz.func206 (GC (Zy N) Wg)
def Zfw(N:Nat):Sig:=Sig.of [.v Ja false] [.v Jr false] (λd=>Za4 N d.1)
def Zafu:Fn:=⟨Tryz.f147,Wx,Zfw,λN=>[(24,Zr N)]⟩
theorem Zi7(N:Nat):GW 147 (Zfw N):=GF Zafu N Tryz.func147 (GC (Zy N) Wg)
def Zkg(N:Nat):Sig:=Sig.of [.v Jq true] [.v Jr false] (λd=>Zin N d.1)
def Zagi:Fn:=⟨Tryz.f141,Wx,Zkg,λN=>[(205,Zu6 N),(85,Zas N),(206,Zb0 N),(24,Zr N),(147,Zfw N)]⟩
theorem Zr3(N:Nat):GW 141 (Zkg N):=GF Zagi N Tryz.func141 (GC (Zaft N) (GC (Zbo N) (GC (Zec N) (GC (Zy N) (GC (Zi7 N) Wg)))))
def Znd(N:Nat):Sig:=Sig.of [.v Jq true] [.v Ja false] (λd=>Zip N d.1)
def Zabw:Fn:=⟨Tryz.f139,Wx,Znd,λN=>[(141,Zkg N)]⟩
theorem Zwi(N:Nat):GW 139 (Znd N):=GF Zabw N Tryz.func139 (GC (Zr3 N) Wg)
def Zmd(N:Nat):Sig:=Sig.of [.v Jq true] [.v Ja false] (λd=>Zl2 N d.1)
def Zafv:Fn:=⟨Tryz.f204,Wx,Zmd,W0⟩
theorem Zu7(N:Nat):GW 204 (Zmd N):=GF Zafv N Tryz.func204 Wg
def Zoc(N:Nat):Sig:=Sig.of [.v Jg false] [.v Jr false] (λd=>Zdz N d.1)
def Zjw:Fn:=⟨Tryz.f140,λ |3=>[.canon [3,6,7,8,9]]|4=>[.canon [3,5,6,7,8]]|5=>[.canon [3,6,7,8]]|6=>[.canon [3,6,7,8,17]]|7=>[.canon [2]]|8=>[.canon [3,6,7,8]]|100003=>[.canon [3,6,7,8]]|_=>[],Zoc,λN=>[(204,Zmd N)]⟩
def Zww(n2:Int)(t3:List Ka)(t5:Int):St:=⟨[(3,vI n2),(6,vV Jg t3),(7,vI (Wh t3)),(8,vI t5)],[],0⟩
def Zwj(t3:List Ka):St:=⟨[(2,vB false)],[],0⟩
def Zwk(t3:List Ka)(n8:Int)(t9:Int)(ar:Bool):St:=⟨[(3,vI n8),(6,vV Jg t3),(7,vI (Wh t3)),(8,vI t9),(9,vB ar)],[],0⟩
theorem Zwx(N:Nat){R:Type}(K:Ex->St->Option R){t3:List Ka}{K0:Option R}{K1:Int->Int->Bool->Option R}(h0:K0=K .ret (Zwj t3))(h1:K1= λn8 t9 ar=>K (.exit 0) (Zwk t3 n8 t9 ar))(n:Nat)(n2:Int)(t5:Int):Zbx N t3 K0 K1 n n2 t5=LM Zjw N 0 100003 n (Zww n2 t3 t5) K:=by
  subst h0 h1
  induction n generalizing n2 t5 with
  |zero=>kernel_rfl
  |succ n ih=>rw[Zbx];simp only[ih];kernel_rfl
theorem Z5m(N:Nat)(ad:List Ka):DN Zjw N (ad,())=Zdz N ad:=by
  conv=>rhs;rw[Zdz];simp(disch:=exact id (by kernel_rfl)) only[Zwx (R:=Unit×Kq) N (CF Zjw N [1,1,0,1,0])]
  kernel_rfl
theorem Z5n(N:Nat):GW 140 (Zoc N):=GF Zjw N Tryz.func140 (GC (Zu7 N) Wg) (λd=>Z5m N d.1)
def Zsz(N:Nat):Sig:=Sig.of [.v Jg false,.v Ja false] [.v Ja false] (λd=>Ziq N d.1 d.2.1)
def Zne:Fn:=⟨Tryz.f142,λ |3=>[.canon [1,5,8,9,10,11]]|4=>[.canon [1,5,6,7,8,9,10]]|5=>[.canon [1,5,7,8,9,10,17]]|6=>[.canon [1,5,8,9,10]]|7=>[.canon [1,5,8,9,10]]|100003=>[.canon [1,5,8,9,10]]|_=>[],Zsz,λN=>[(204,Zmd N)]⟩
def Z2u(i3:Int)(n4:Int)(t5:List Ka)(t7:Int):St:=⟨[(1,vI i3),(5,vI n4),(8,vV Jg t5),(9,vI (Wh t5)),(10,vI t7)],[],0⟩
def Zzt(i3:Int)(t5:List Ka)(my:Int)(aw:Int)(aB:Bool):St:=⟨[(1,vI i3),(5,vI my),(8,vV Jg t5),(9,vI (Wh t5)),(10,vI aw),(11,vB aB)],[],0⟩
theorem Z2v(N:Nat){R:Type}(K:Ex->St->Option R){i3:Int}{t5:List Ka}{K0:Int->Int->Bool->Option R}(h0:K0= λmy aw aB=>K (.exit 0) (Zzt i3 t5 my aw aB))(n:Nat)(n4:Int)(t7:Int):Zb1 N i3 t5 K0 n n4 t7=LM Zne N 0 100003 n (Z2u i3 n4 t5 t7) K:=by
  subst h0
  induction n generalizing n4 t7 with
  |zero=>kernel_rfl
  |succ n ih=>rw[Zb1];simp only[ih];kernel_rfl
theorem Zabx(N:Nat)(ad:List Ka)(i2:Int):DN Zne N (ad,i2,())=Ziq N ad i2:=by
  conv=>rhs;rw[Ziq];simp(disch:=exact id (by kernel_rfl)) only[Z2v (R:=Unit×Kh) N (CF Zne N [1,1,0,1,0])]
  kernel_rfl
theorem Zaby(N:Nat):GW 142 (Zsz N):=GF Zne N Tryz.func142 (GC (Zu7 N) Wg) (λd=>Zabx N d.1 d.2.1)
def Zpc(N:Nat):Sig:=Sig.of [.v Jg false] [.v Jr false] (λd=>Zde N d.1)
def Zpd:Fn:=⟨Tryz.f88,λ |5=>[.canon [0,3,14,15,16,17]]|6=>[.canon [0,3,4,5,14,15,16]]|7=>[.canon [0,3,4,5,14,15,16,23]]|8=>[.canon [2]]|9=>[.canon [0,3,4,5,14,15,16,25]]|10=>[.canon [0,3,4,5,14,15,16,25,26]]|11=>[.canon [0,3,14,15,16,48]]|12=>[.canon [2]]|13=>[.canon [0,3,4,14,15,16,49]]|14=>[.canon [0,3,4,14,15,16]]|15=>[.canon [0,3,14,15,16,60]]|16=>[.canon [2]]|17=>[.canon [0,3,14,15,16]]|100005=>[.canon [0,3,14,15,16]]|_=>[],Zpc,λN=>[(140,Zoc N),(141,Zkg N),(142,Zsz N)]⟩
def Z5o(ab:List Ka)(aA:Int)(t7:Int):St:=⟨[(0,vV Jg ab),(3,vI aA),(14,vV Jg ab),(15,vI (Wh ab)),(16,vI t7)],[],0⟩
def Z2w(ab:List Ka):St:=⟨[(2,vB false)],[],0⟩
def Z2x(ab:List Ka)(fR:Int)(bR:Int)(gz:Bool):St:=⟨[(0,vV Jg ab),(3,vI fR),(14,vV Jg ab),(15,vI (Wh ab)),(16,vI bR),(17,vB gz)],[],0⟩
theorem Z5p(N:Nat){R:Type}(K:Ex->St->Option R){ab:List Ka}{K0:Option R}{K1:Int->Int->Bool->Option R}(h0:K0=K .ret (Z2w ab))(h1:K1= λfR bR gz=>K (.exit 0) (Z2x ab fR bR gz))(n:Nat)(aA:Int)(t7:Int):Zbu N ab K0 K1 n aA t7=LM Zpd N 0 100005 n (Z5o ab aA t7) K:=by
  subst h0 h1
  induction n generalizing aA t7 with
  |zero=>kernel_rfl
  |succ n ih=>rw[Zbu];simp only[ih];kernel_rfl
theorem Zaeh(N:Nat)(ad:List Ka):DN Zpd N (ad,())=Zde N ad:=by
  conv=>rhs;rw[Zde];simp(disch:=exact id (by kernel_rfl)) only[Z5p (R:=Unit×Kq) N (CF Zpd N [1,1,1,0,1,0])]
  kernel_rfl
theorem Zxh(N:Nat):GW 88 (Zpc N):=GF Zpd N Tryz.func88 (GC (Z5n N) (GC (Zr3 N) (GC (Zaby N) Wg))) (λd=>Zaeh N d.1)
def Zu8(N:Nat):Sig:=Sig.of [.v Jg false] [.v Jr false] (λd=>Zjc N d.1)
def Zqr:Fn:=⟨Tryz.f87,λ |2=>[.canon [0,5,6,7,8]]|3=>[.canon [0,4,5,6,7]]|4=>[.canon [0,5,6,7,18]]|5=>[.canon [2]]|6=>[.canon [0,5,6,7]]|100002=>[.canon [0,5,6,7]]|_=>[],Zu8,λN=>[(139,Znd N),(88,Zpc N)]⟩
def Z7n(ae:List Ka)(t5:Int):St:=⟨[(0,vV Jg ae),(5,vV Jg ae),(6,vI (Wh ae)),(7,vI t5)],[],0⟩
def Z5q(ae:List Ka):St:=⟨[(2,vB false)],[],0⟩
def Z5r(ae:List Ka)(t8:Int)(t9:Bool):St:=⟨[(0,vV Jg ae),(5,vV Jg ae),(6,vI (Wh ae)),(7,vI t8),(8,vB t9)],[],0⟩
theorem Z7o(N:Nat){R:Type}(K:Ex->St->Option R){ae:List Ka}{K0:Option R}{K1:Int->Bool->Option R}(h0:K0=K .ret (Z5q ae))(h1:K1= λt8 t9=>K (.exit 0) (Z5r ae t8 t9))(n:Nat)(t5:Int):Ze0 N ae K0 K1 n t5=LM Zqr N 0 100002 n (Z7n ae t5) K:=by
  subst h0 h1
  induction n generalizing t5 with
  |zero=>kernel_rfl
  |succ n ih=>rw[Ze0];simp only[ih];kernel_rfl
theorem Zafw(N:Nat)(ad:List Ka):DN Zqr N (ad,())=Zjc N ad:=by
  conv=>rhs;rw[Zjc];simp(disch:=exact id (by kernel_rfl)) only[Z7o (R:=Unit×Kq) N (CF Zqr N [1,0,1,0])]
  kernel_rfl
theorem Zafx(N:Nat):GW 87 (Zu8 N):=GF Zqr N Tryz.func87 (GC (Zwi N) (GC (Zxh N) Wg)) (λd=>Zafw N d.1)
def Zpw(N:Nat):Sig:=Sig.of [.v Jq true] [.v Jr false] (λd=>Zr9 N d.1)
def Z7p:Fn:=⟨Tryz.f144,Wx,Zpw,W0⟩
theorem Z7q(N:Nat):GW 144 (Zpw N):=GF Z7p N Tryz.func144 Wg
def Zaq(N:Nat):Sig:=Sig.of [.v Jg false,.clos 144 0] [.v Ja false] (λd=>Zt N d.1)
def Z3:Fn:=⟨Tryz.f207,λ |2=>[.canon [0,1,7,8,9]]|3=>[.canon [0,1,5,7,8]]|4=>[.canon [0,1,5,7,8,16]]|5=>[.canon [1,4]]|6=>[.canon [0,1,7,8]]|100002=>[.canon [0,1,7,8]]|_=>[],Zaq,λN=>[(144,Zpw N)]⟩
def Zgu(s2:List Ka)(t4:Int):St:=⟨[(0,vV Jg s2),(1,.s (.one (.clos 144 []))),(7,vI (Wh s2)),(8,vI t4)],[],0⟩
def Zgi(s2:List Ka)(t7:Int):St:=⟨[(1,.s (.one (.clos 144 []))),(4,vI t7)],[],0⟩
def Zgj(s2:List Ka)(t8:Int)(t9:Bool):St:=⟨[(0,vV Jg s2),(1,.s (.one (.clos 144 []))),(7,vI (Wh s2)),(8,vI t8),(9,vB t9)],[],0⟩
theorem Zgv(N:Nat){R:Type}(K:Ex->St->Option R){s2:List Ka}{K0:Int->Option R}{K1:Int->Bool->Option R}(h0:K0= λt7=>K .ret (Zgi s2 t7))(h1:K1= λt8 t9=>K (.exit 0) (Zgj s2 t8 t9))(n:Nat)(t4:Int):Zh N s2 K0 K1 n t4=LM Z3 N 0 100002 n (Zgu s2 t4) K:=by
  subst h0 h1
  induction n generalizing t4 with
  |zero=>kernel_rfl
  |succ n ih=>rw[Zh];simp only[ih];kernel_rfl
theorem Zhn(N:Nat)(s1:List Ka):DN Z3 N (s1,())=Zt N s1:=by
  conv=>rhs;rw[Zt];simp(disch:=exact id (by kernel_rfl)) only[Zgv (R:=Unit×Kh) N (CF Z3 N [1,0,1,0])]
  kernel_rfl
theorem Zho(N:Nat):GW 207 (Zaq N):=GF Z3 N Tryz.func207 (GC (Z7q N) Wg) (λd=>Zhn N d.1)
def Zak(N:Nat):Sig:=Sig.of [.v Jg false,.clos 144 0] [.v Jr false] (λd=>Zao N d.1)
def Zgw:Fn:=⟨Tryz.f143,Wx,Zak,λN=>[(207,Zaq N)]⟩
theorem Zgx(N:Nat):GW 143 (Zak N):=GF Zgw N Tryz.func143 (GC (Zho N) Wg)
def Zs0(N:Nat):Sig:=Sig.of [.v Jg false] [.v Jr false] (λd=>Zir N d.1)
def Zabz:Fn:=⟨Tryz.f89,Wx,Zs0,λN=>[(143,Zak N)]⟩
theorem Zab0(N:Nat):GW 89 (Zs0 N):=GF Zabz N Tryz.func89 (GC (Zgx N) Wg)
def Zue(N:Nat):Sig:=Sig.of [.v Jag true] [.v Jr false] (λd=>Zj9 N d.1)
def Zpe:Fn:=⟨Tryz.f48,λ |2=>[.canon [1,6,7,8,9]]|3=>[.canon [1,4,6,7,8]]|4=>[.canon [1,6,7,8,15]]|5=>[.canon [2]]|6=>[.canon [1,6,7,8]]|100002=>[.canon [1,6,7,8]]|_=>[],Zue,λN=>[(87,Zu8 N),(88,Zpc N),(89,Zs0 N)]⟩
def Z5s(t2:List Kaa)(t4:Int)(b5:List Ka×List Kaa):St:=⟨[(1,vP 0 0),(6,vV Jab t2),(7,vI (Wh b5.2)),(8,vI t4)],[(0,.box [.val Jg b5.1,.val Jab b5.2])],1⟩
def Z2y(t2:List Kaa)(b5:List Ka×List Kaa):St:=⟨[(2,vB false)],[],0⟩
def Z2z(t2:List Kaa)(b5:List Ka×List Kaa)(t8:Int)(t9:Bool):St:=⟨[(1,vP 0 0),(6,vV Jab t2),(7,vI (Wh b5.2)),(8,vI t8),(9,vB t9)],[(0,.box [.val Jg b5.1,.val Jab b5.2])],1⟩
theorem Z5t(N:Nat){R:Type}(K:Ex->St->Option R){t2:List Kaa}{b5:List Ka×List Kaa}{K0:Option R}{K1:Int->Bool->Option R}(h0:K0=K .ret (Z2y t2 b5))(h1:K1= λt8 t9=>K (.exit 0) (Z2z t2 b5 t8 t9))(n:Nat)(t4:Int):Zd4 N t2 b5 K0 K1 n t4=LM Zpe N 0 100002 n (Z5s t2 t4 b5) K:=by
  subst h0 h1
  induction n generalizing t4 with
  |zero=>kernel_rfl
  |succ n ih=>rw[Zd4];simp only[ih];kernel_rfl
theorem Zaei(N:Nat)(p1:List Ka×List Kaa):DN Zpe N (p1,())=Zj9 N p1:=by
  conv=>rhs;rw[Zj9];simp(disch:=exact id (by kernel_rfl)) only[Z5t (R:=Unit×Kq) N (CF Zpe N [1,0,1,0])]
  kernel_rfl
theorem Zaej(N:Nat):GW 48 (Zue N):=GF Zpe N Tryz.func48 (GC (Zafx N) (GC (Zxh N) (GC (Zab0 N) Wg))) (λd=>Zaei N d.1)
def Zod(N:Nat):Sig:=Sig.of [.v Jag true] [.v Jr false] (λd=>Zlg N d.1)
def Z5u:Fn:=⟨Tryz.f47,Wx,Zod,λN=>[(48,Zue N)]⟩
theorem Z5v(N:Nat):GW 47 (Zod N):=GF Z5u N Tryz.func47 (GC (Zaej N) Wg)
def Zah(N:Nat):Sig:=Sig.of [.v Jm false,.clos 47 0] [.v Ja false] (λd=>Zp N d.1)
def Zz:Fn:=⟨Tryz.f86,λ |2=>[.canon [0,1,7,8,9]]|3=>[.canon [0,1,5,7,8]]|4=>[.canon [0,1,5,7,8,16]]|5=>[.canon [1,4]]|6=>[.canon [0,1,7,8]]|100002=>[.canon [0,1,7,8]]|_=>[],Zah,λN=>[(47,Zod N)]⟩
def Zff(s2:List Km)(t4:Int):St:=⟨[(0,vV Jm s2),(1,.s (.one (.clos 47 []))),(7,vI (Wh s2)),(8,vI t4)],[],0⟩
def Zep(s2:List Km)(t7:Int):St:=⟨[(1,.s (.one (.clos 47 []))),(4,vI t7)],[],0⟩
def Zeq(s2:List Km)(t8:Int)(t9:Bool):St:=⟨[(0,vV Jm s2),(1,.s (.one (.clos 47 []))),(7,vI (Wh s2)),(8,vI t8),(9,vB t9)],[],0⟩
theorem Zfg(N:Nat){R:Type}(K:Ex->St->Option R){s2:List Km}{K0:Int->Option R}{K1:Int->Bool->Option R}(h0:K0= λt7=>K .ret (Zep s2 t7))(h1:K1= λt8 t9=>K (.exit 0) (Zeq s2 t8 t9))(n:Nat)(t4:Int):Zb N s2 K0 K1 n t4=LM Zz N 0 100002 n (Zff s2 t4) K:=by
  subst h0 h1
  induction n generalizing t4 with
  |zero=>kernel_rfl
  |succ n ih=>rw[Zb];simp only[ih];kernel_rfl
theorem Zgk(N:Nat)(s1:List Km):DN Zz N (s1,())=Zp N s1:=by
  conv=>rhs;rw[Zp];simp(disch:=exact id (by kernel_rfl)) only[Zfg (R:=Unit×Kh) N (CF Zz N [1,0,1,0])]
  kernel_rfl
theorem Zgl(N:Nat):GW 86 (Zah N):=GF Zz N Tryz.func86 (GC (Z5v N) Wg) (λd=>Zgk N d.1)
def Zad(N:Nat):Sig:=Sig.of [.v Jm false,.clos 47 0] [.v Jr false] (λd=>Zaf N d.1)
def Zfx:Fn:=⟨Tryz.f46,Wx,Zad,λN=>[(86,Zah N)]⟩
theorem Zfy(N:Nat):GW 46 (Zad N):=GF Zfx N Tryz.func46 (GC (Zgl N) Wg)
def Zlu(N:Nat):Sig:=Sig.of [.v Js true] [.v Jr false] (λd=>Zkk N d.1)
def Z9k:Fn:=⟨Tryz.f22,Wx,Zlu,λN=>[(45,Zrd N),(46,Zad N)]⟩
theorem Zv4(N:Nat):GW 22 (Zlu N):=GF Z9k N Tryz.func22 (GC (Z9j N) (GC (Zfy N) Wg))
def Zs1(N:Nat):Sig:=Sig.of [] [.v Jx false] (λd=>Zuv N)
def Zab1:Fn:=⟨Tryz.f90,Wx,Zs1,W0⟩
theorem Zab2(N:Nat):GW 90 (Zs1 N):=GF Zab1 N Tryz.func90 Wg
def Zw(N:Nat):Sig:=Sig.of [.v Je false] [.v Jx false] (λd=>Zm N d.1)
def Z9l:Fn:=⟨Tryz.f145,Wx,Zw,W0⟩
theorem Z5(N:Nat):GW 145 (Zw N):=GF Z9l N Tryz.func145 Wg
def Zpf(N:Nat):Sig:=Sig.of [.v Ja false,.v Ja false] [.v Ja false] (λd=>Zka N d.1 d.2.1)
def Zaek:Fn:=⟨Tryz.f150,Wx,Zpf,W0⟩
theorem Zxi(N:Nat):GW 150 (Zpf N):=GF Zaek N Tryz.func150 Wg
def Zqs(N:Nat):Sig:=Sig.of [.v Ja false] [.v Ja false] (λd=>Zjg N d.1)
def Zafy:Fn:=⟨Tryz.f208,Wx,Zqs,W0⟩
theorem Zzu(N:Nat):GW 208 (Zqs N):=GF Zafy N Tryz.func208 Wg
def Zlv(N:Nat):Sig:=Sig.of [.v Ja false] [.v Ja false] (λd=>Zkl N d.1)
def Z9m:Fn:=⟨Tryz.f151,Wx,Zlv,λN=>[(147,Zfw N)]⟩
theorem Zv5(N:Nat):GW 151 (Zlv N):=GF Z9m N Tryz.func151 (GC (Zi7 N) Wg)
def Zhi(N:Nat):Sig:=Sig.of [.v Je false] [.v Jr false] (λd=>Zdk N d.1)
def Znf:Fn:=⟨Tryz.f146,λ |5=>[.canon [3,9,10,11,12]]|6=>[.canon [3,4,5,9,10,11]]|7=>[.canon [3,4,5,9,10,11,17]]|8=>[.canon [3,5,9,10,11,35]]|9=>[.canon [2]]|10=>[.canon [3,9,10,11]]|11=>[.canon [3,9,10,11]]|100005=>[.canon [3,9,10,11]]|_=>[],Zhi,λN=>[(150,Zpf N),(24,Zr N),(208,Zqs N),(151,Zlv N)]⟩
def Z20(t2:List Int)(t4:Int)(l5:List Bool):St:=⟨[(3,.s (.one (.aptr 0))),(9,vV Je t2),(10,vI (Wh t2)),(11,vI t4)],[(0,.arr Jr l5)],1⟩
def Zzv(t2:List Int):St:=⟨[(2,vB false)],[],0⟩
def Zzw(t2:List Int)(fv:Int)(hC:Bool)(cw:List Bool):St:=⟨[(3,.s (.one (.aptr 0))),(9,vV Je t2),(10,vI (Wh t2)),(11,vI fv),(12,vB hC)],[(0,.arr Jr cw)],1⟩
theorem Z21(N:Nat){R:Type}(K:Ex->St->Option R){t2:List Int}{K0:Option R}{K1:Int->Bool->(List Bool)->Option R}(h0:K0=K .ret (Zzv t2))(h1:K1= λfv hC cw=>K (.exit 0) (Zzw t2 fv hC cw))(n:Nat)(t4:Int)(l5:List Bool):Zb2 N t2 K0 K1 n t4 l5=LM Znf N 0 100005 n (Z20 t2 t4 l5) K:=by
  subst h0 h1
  induction n generalizing t4 l5 with
  |zero=>kernel_rfl
  |succ n ih=>rw[Zb2];simp only[ih];kernel_rfl
theorem Zab3(N:Nat)(l1:List Int):DN Znf N (l1,())=Zdk N l1:=by
  conv=>rhs;rw[Zdk];simp(disch:=exact id (by kernel_rfl)) only[Z21 (R:=Unit×Kq) N (CF Znf N [1,1,1,0,1,0])]
  kernel_rfl
theorem Zng(N:Nat):GW 146 (Zhi N):=GF Znf N Tryz.func146 (GC (Zxi N) (GC (Zy N) (GC (Zzu N) (GC (Zv5 N) Wg)))) (λd=>Zab3 N d.1)
def Zn8(N:Nat):Sig:=Sig.of [.v Je false,.v Ja false] [.v Ja false] (λd=>Zhm N d.1 d.2.1)
def Zr4:Fn:=⟨Tryz.f148,λ |2=>[.canon [1,7,8,9,10]]|3=>[.canon [1,5,6,7,8,9]]|4=>[.canon [1,5,7,8,9,21]]|5=>[.canon [4]]|6=>[.canon [1,7,8,9]]|100002=>[.canon [1,7,8,9]]|_=>[],Zn8,λN=>[(208,Zqs N)]⟩
def Z9n(dN:Int)(t4:List Int)(t6:Int):St:=⟨[(1,vI dN),(7,vV Je t4),(8,vI (Wh t4)),(9,vI t6)],[],0⟩
def Z7r(dN:Int)(t4:List Int)(t9:Int):St:=⟨[(4,vI t9)],[],0⟩
def Z7s(dN:Int)(t4:List Int)(ar:Int)(aw:Bool):St:=⟨[(1,vI dN),(7,vV Je t4),(8,vI (Wh t4)),(9,vI ar),(10,vB aw)],[],0⟩
theorem Z9o(N:Nat){R:Type}(K:Ex->St->Option R){dN:Int}{t4:List Int}{K0:Int->Option R}{K1:Int->Bool->Option R}(h0:K0= λt9=>K .ret (Z7r dN t4 t9))(h1:K1= λar aw=>K (.exit 0) (Z7s dN t4 ar aw))(n:Nat)(t6:Int):Zea N dN t4 K0 K1 n t6=LM Zr4 N 0 100002 n (Z9n dN t4 t6) K:=by
  subst h0 h1
  induction n generalizing t6 with
  |zero=>kernel_rfl
  |succ n ih=>rw[Zea];simp only[ih];kernel_rfl
theorem Zagj(N:Nat)(l1:List Int)(aL:Int):DN Zr4 N (l1,aL,())=Zhm N l1 aL:=by
  conv=>rhs;rw[Zhm];simp(disch:=exact id (by kernel_rfl)) only[Z9o (R:=Unit×Kh) N (CF Zr4 N [1,0,1,0])]
  kernel_rfl
theorem Zvs(N:Nat):GW 148 (Zn8 N):=GF Zr4 N Tryz.func148 (GC (Zzu N) Wg) (λd=>Zagj N d.1 d.2.1)
def Zjq(N:Nat):Sig:=Sig.of [.v Je false,.v Ja false] [.v Ja false,.v Jr false] (λd=>Zis N d.1 d.2.1)
def Zab4:Fn:=⟨Tryz.f149,Wx,Zjq,λN=>[(146,Zhi N),(147,Zfw N),(148,Zn8 N)]⟩
theorem Zs2(N:Nat):GW 149 (Zjq N):=GF Zab4 N Tryz.func149 (GC (Zng N) (GC (Zi7 N) (GC (Zvs N) Wg)))
def Zjr(N:Nat):Sig:=Sig.of [.v Je false,.v Ja false,.v Ja false] [.v Jx false,.v Ja false,.v Jr false] (λd=>Zfm N d.1 d.2.1 d.2.2.1)
def Znh:Fn:=⟨Tryz.f91,λ |10=>[.canon [1,2,9,13,57]]|11=>[.canon [1,2,9,13]]|100010=>[.canon [1,2,9,13]]|_=>[],Zjr,λN=>[(145,Zw N),(146,Zhi N),(147,Zfw N),(85,Zas N),(148,Zn8 N),(149,Zjq N),(150,Zpf N),(151,Zlv N)]⟩
def Z22(bd:Int)(fm:Int)(eV:Int)(bh:List Int):St:=⟨[(1,vI bd),(2,vI fm),(9,vO 0),(13,vI eV)],[(0,.arr Ja bh)],1⟩
def Zzx(bd:Int)(fm:Int)(bh:List Int)(lS:Int)(fu:Bool):St:=⟨[(1,vI bd),(2,vI fm),(9,vO 0),(13,vI lS),(57,vB fu)],[(0,.arr Ja bh)],1⟩
theorem Z23(N:Nat){R:Type}(K:Ex->St->Option R){bd:Int}{fm:Int}{bh:List Int}{K0:Int->Bool->Option R}(h0:K0= λlS fu=>K (.exit 0) (Zzx bd fm bh lS fu))(n:Nat)(eV:Int):Zcw N bd fm bh K0 n eV=LM Znh N 0 100010 n (Z22 bd fm eV bh) K:=by
  subst h0
  induction n generalizing eV with
  |zero=>kernel_rfl
  |succ n ih=>rw[Zcw];simp only[ih];kernel_rfl
theorem Zab5(N:Nat)(l1:List Int)(aL:Int)(v3:Int):DN Znh N (l1,aL,v3,())=Zfm N l1 aL v3:=by
  conv=>rhs;rw[Zfm];simp(disch:=exact id (by kernel_rfl)) only[Z23 (R:=Unit×(Ki×Kk)) N (CF Znh N [1,1,1,1,1,0,0])]
  kernel_rfl
theorem Zs3(N:Nat):GW 91 (Zjr N):=GF Znh N Tryz.func91 (GC (Z5 N) (GC (Zng N) (GC (Zi7 N) (GC (Zbo N) (GC (Zvs N) (GC (Zs2 N) (GC (Zxi N) (GC (Zv5 N) Wg)))))))) (λd=>Zab5 N d.1 d.2.1 d.2.2.1)
def Zpx(N:Nat):Sig:=Sig.of [.v Je false] [.v Jx false] (λd=>Za5 N d.1)
def Zk1:Fn:=⟨Tryz.f49,λ |5=>[.canon [3,10,11,12,13]]|6=>[.canon [3,4,5,10,11,12]]|7=>[.canon [3,4,5,10,11,12,18]]|8=>[.canon [3,10,11,12]]|9=>[.canon [3,10,11,12]]|100005=>[.canon [3,10,11,12]]|_=>[],Zpx,λN=>[(84,Zqp N),(90,Zs1 N),(91,Zjr N)]⟩
def Zx5(t4:List Int)(t6:Int)(l7:List Int):St:=⟨[(3,vO 0),(10,vV Je t4),(11,vI (Wh t4)),(12,vI t6)],[(0,.arr Ja l7)],1⟩
end
end Go.Sx
