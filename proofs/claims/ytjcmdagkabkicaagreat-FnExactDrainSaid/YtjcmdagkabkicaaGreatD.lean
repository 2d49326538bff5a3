/- Each Go function does what its Lean function says. -/
import Derived.Test.YtjcmdagkabkicaaGreatT2
import Derived.Test.YtjcmdagkabkicaaGreatProg
import Derived.Test.YtjcmdagkabkicaaGreatLay
open Bool renaming and_eq_true→Xi
namespace Go.Sx
noncomputable section
open Go.Proofs
open Tryz
abbrev Ja:Ty:=.int .i64
abbrev Jb:Ty:=.prod Ja (.prod Ja Ja)
abbrev Jc:Ty:=.own (.prod Ja Ja)
abbrev Jd:Ty:=.slice (.prod Ja Ja)
abbrev Je:Ty:=.prod Ja (.prod Ja (.own Ja))
abbrev Jf:Ty:=.prod (.prod Ja Jb) (.prod (.prod Ja (.prod Ja (.prod Ja (.prod Ja (.prod Ja (.prod Jc (.own Ja))))))) (.prod Ja (.prod Ja (.prod Ja (.prod (.bool) (.prod (.own Ja) (.prod Jc (.prod (.own Jb) (.prod (.own Ja) (.prod Jc (.own (.prod Ja (.prod Ja (.prod Ja (.prod Ja (.prod Ja (.prod Ja (.prod (.own Ja) (.prod (.own Jb) (.prod Jc (.prod (.own Je) (.prod (.bool) (.prod Ja Jb)))))))))))))))))))))))
abbrev Jg:Ty:=.slice (.prod Ja Jb)
abbrev Jh:Ty:=.prod Ja (.prod Ja (.prod (.prod Ja (.own Jb)) (.prod (.prod (.own Ja) Ja) (.prod (.own Jb) (.prod (.own (TY_Root)) (.own (.prod Ja (.prod Ja Jd))))))))
abbrev Ji:Ty:=.slice Ja
abbrev Jj:Ty:=.prod Ja (.prod Ja (.prod Ja (.prod Ja (.prod Ja (.prod Ja (.prod Ja (.prod Ja (.prod Ja (.prod Ja (.prod Ja (.prod (.bool) (.prod (.own Ja) (.prod Jc (.prod Jc (.prod (.own (.prod Ja (.prod Ja Je))) (.prod (.own Jb) (.prod (.own Ja) (.prod (.bool) Jf))))))))))))))))))
abbrev Jk:Ty:=.prod Ja (.prod Ja (.prod Ja (.prod Ja (.prod Ja (.prod Ja (.prod (.own Ja) (.prod (.own Jb) (.prod Jc (.prod (.own Je) (.prod (.bool) (.prod Ja Jb)))))))))))
abbrev Jl:Ty:=.prod Ja (.prod Ja (.prod Ja (.prod Ja (.prod Ja (.prod Jd Ji)))))
abbrev Jm:Ty:=.slice (.prod Jg (.slice Jg))
abbrev Jn:Ty:=.slice Jb
abbrev Jo:Ty:=.prod Ja (.prod Ja (.prod (.prod Ja (.own Jb)) (.prod (.prod (.own Ja) Ja) (.prod (.own Jb) (.prod (.own Jj) (.own (.prod Ja (.prod Ja Jc))))))))
abbrev Jp:Ty:=.bool
abbrev Jq:Ty:=.prod Ja Jb
abbrev Jr:Ty:=.prod Ja (.prod Ja (.prod Ja (.prod Ja (.prod Ja (.prod Jc (.own Ja))))))
abbrev Js:Ty:=.prod Ja (.prod Ja (.prod Ja (.prod Ja Ji)))
abbrev Jt:Ty:=.prod (.prod Ji (.prod Ji Ja)) (.prod Jm Jn)
abbrev Ju:Ty:=.prod Ja Ja
abbrev Jv:Ty:=.prod Ja (.prod Ja Jd)
abbrev Jw:Ty:=.prod Ja (.prod Ja (.prod Ja (.prod Jp (.prod (.own Ja) (.prod Jc (.prod (.own Jb) (.prod (.own Ja) (.prod Jc (.own Jk)))))))))
abbrev Jx:Ty:=.prod Ja (.prod Ja (.prod Ja (.prod Jp (.prod Ji (.prod Jd (.prod Jn (.prod Ji (.prod Jd (.own (TY_KidRun))))))))))
abbrev Jy:Ty:=.prod Ja (.prod Ja (.prod Ja (.prod Ja (.prod Ja (.prod Ja (.prod Ja (.prod Ja (.prod Ja (.prod Ja (.prod Ja (.prod Jp (.prod Ji (.prod Jd (.prod Jd (.prod (.slice Js) (.prod (.own Jb) (.prod Ji (.prod Jp (.prod Jq (.prod Jl (TY_Family)))))))))))))))))))))
abbrev Jz:Ty:=.prod Ja (.own Jb)
abbrev Jaa:Ty:=.prod Ja (.prod Ja Ji)
abbrev Jab:Ty:=.prod Ja (.prod Ja Jc)
abbrev Jac:Ty:=.prod (.own Jq) (.own (.own Jq))
abbrev Jad:Ty:=.slice Jg
abbrev Jae:Ty:=.slice (TY_KidRun)
abbrev Jaf:Ty:=.prod Ja Jn
abbrev Jag:Ty:=.prod Ji Ja
abbrev Jah:Ty:=.own Ja
abbrev Jai:Ty:=.slice (TY_Root)
abbrev Jaj:Ty:=.prod Jg Jad
abbrev Jak:Ty:=.own Jb
abbrev Jal:Ty:=.prod Ji Jag
abbrev Jam:Ty:=.slice Jaa
abbrev Jan:Ty:=.slice Js
abbrev Jao:Ty:=.slice Jv
abbrev Jap:Ty:=.prod Ja (.prod Ja Je)
abbrev Jaq:Ty:=.prod Jah Ja
abbrev Jar:Ty:=.prod Ja (.prod Ja (.prod Ja (.prod Jp (.prod Jah (.prod Jc (.prod Jak (.prod Jah (.prod Jc (.own (TY_KidRun))))))))))
set_option linter.unusedVariables false
set_option linter.unusedSimpArgs false
def tab:Tab:=[(3,⟨.int .i64,false,.basic⟩),(4,⟨.bool,false,.basic⟩),(22,⟨.slice Ja,false,.slice 3⟩),(24,⟨.prod Ji Jag,true,.struct [(0,22),(1,22),(2,3)]⟩),(25,⟨.slice Jaj,false,.slice 94⟩),(26,⟨.slice Jb,false,.slice 115⟩),(28,⟨.prod Jal (.prod Jm Jn),true,.struct [(0,24),(3,25),(4,26)]⟩),(30,⟨.slice Jb,false,.slice 123⟩),(32,⟨.prod Ja Jn,true,.struct [(0,3),(1,30)]⟩),(34,⟨.prod Ji Ja,true,.struct [(0,22),(1,3)]⟩),(35,⟨.slice Jb,false,.slice 134⟩),(36,⟨.slice (TY_Root),false,.slice 110⟩),(37,⟨.slice Jv,false,.slice 138⟩),(39,⟨TY_World,true,.struct [(0,3),(1,3),(2,32),(4,34),(6,35),(7,36),(8,37)]⟩),(41,⟨.prod Ji Jag,true,.struct [(0,22),(1,22),(2,3)]⟩),(42,⟨.slice Jaj,false,.slice 88⟩),(43,⟨.slice Jb,false,.slice 60⟩),(45,⟨.prod Jal (.prod Jm Jn),true,.struct [(0,41),(3,42),(4,43)]⟩),(60,⟨.prod Ja Ju,true,.struct [(0,3),(1,3),(2,3)]⟩),(85,⟨.slice Jq,false,.slice 196⟩),(86,⟨.slice Jg,false,.slice 129⟩),(88,⟨.prod Jg Jad,true,.struct [(0,85),(1,86)]⟩),(91,⟨.slice Jq,false,.slice 232⟩),(92,⟨.slice Jg,false,.slice 205⟩),(94,⟨.prod Jg Jad,true,.struct [(0,91),(1,92)]⟩),(98,⟨.slice Ju,false,.slice 198⟩),(99,⟨.slice Js,false,.slice 180⟩),(100,⟨.slice Jb,false,.slice 200⟩),(102,⟨.prod Ja Jb,true,.struct [(0,3),(1,3),(2,3),(3,3)]⟩),(104,⟨.prod Ja (.prod Ja (.prod Ja (.prod Ja (.prod Ja (.prod Jd Ji))))),true,.struct [(0,3),(1,3),(2,3),(3,3),(4,3),(5,98),(6,22)]⟩),(105,⟨.slice Jb,false,.slice 168⟩),(106,⟨.slice (TY_KidRun),false,.slice 163⟩),(108,⟨TY_Family,true,.struct [(0,3),(1,3),(2,3),(3,4),(4,22),(5,98),(6,105),(7,22),(8,98),(9,106)]⟩),(110,⟨TY_Root,true,.struct [(0,3),(1,3),(2,3),(3,3),(4,3),(5,3),(6,3),(7,3),(8,3),(9,3),(10,3),(11,4),(12,22),(13,98),(14,98),(15,99),(16,100),(17,22),(18,4),(19,102),(23,104),(30,108)]⟩),(115,⟨.prod Ja Ju,true,.struct [(0,3),(1,3),(2,3)]⟩),(123,⟨.prod Ja Ju,true,.struct [(0,3),(1,3),(2,3)]⟩),(129,⟨.slice Jq,true,.struct [(0,85)]⟩),(134,⟨.prod Ja Ju,true,.struct [(0,3),(1,3),(2,3)]⟩),(138,⟨.prod Ja (.prod Ja Jd),true,.struct [(0,3),(1,3),(2,98)]⟩),(161,⟨.slice Jaa,false,.slice 228⟩),(163,⟨TY_KidRun,true,.struct [(0,3),(1,3),(2,3),(3,3),(4,3),(5,3),(6,22),(7,105),(8,98),(9,161),(10,4),(11,102)]⟩),(168,⟨.prod Ja Ju,true,.struct [(0,3),(1,3),(2,3)]⟩),(180,⟨.prod Ja (.prod Ja Jaa),true,.struct [(0,3),(1,3),(2,3),(3,3),(4,22)]⟩),(196,⟨.prod Ja Jb,true,.struct [(0,3),(1,3),(2,3),(3,3)]⟩),(198,⟨.prod Ja Ja,true,.struct [(0,3),(1,3)]⟩),(200,⟨.prod Ja Ju,true,.struct [(0,3),(1,3),(2,3)]⟩),(205,⟨.slice Jq,true,.struct [(0,91)]⟩),(228,⟨.prod Ja (.prod Ja Ji),true,.struct [(0,3),(1,3),(2,22)]⟩),(232,⟨.prod Ja Jb,true,.struct [(0,3),(1,3),(2,3),(3,3)]⟩),(235,⟨.bool,true,.arr 8 4⟩),(257,⟨.slice Jp,false,.slice 4⟩)]
theorem mixedOk:Tryz.prog.follows .mixedOrders=true:=by kernel_rfl
theorem tabOk:Waj Tryz.prog tab:=WwS (show Wm8 Tryz.prog tab tab=true by kernel_rfl)
def LM(x:Fn)(N:Nat){R:Type}(i k n:Nat)(st:St)(K:Ex->St->Option R):Option R:=lpM tab (x.c N) x.a N x.F i k n st K
def CF(x:Fn)(N:Nat)(p:List Nat):Ex->St->Option (Qs (x.s N)):=cxF tab (x.c N) x.a N (x.s N) x.F p
def CL(x:Fn)(N:Nat){R:Type}(i k:Nat)(p:List Nat)(n:Nat)(K:Ex->St->Option R):Ex->St->Option R:=cxL tab (x.c N) x.a N x.F i k p n K
def DN(x:Fn)(N:Nat)(d:WfJ (x.s N).ps):Option (Qs (x.s N)):=den (R:=Qs (x.s N)) tab (x.c N) x.a N (x.s N) x.F d some
def GW(k:FuncId)(s:Sig):Prop:=Wg1 Tryz.prog k/\WoE Tryz.prog k s
theorem GC{k:FuncId}{s:Sig}{Γ:Ctx}(h:GW k s)(hc:WdT Tryz.prog Γ):WdT Tryz.prog ((k,s)::Γ):=Wux h.2 h.1 hc
structure Gd where
  k:FuncId
  s:Nat->Sig
  h:∀N,GW k (s N)
def CX(l:List Gd)(N:Nat):Ctx:=l.map λg=>(g.k,g.s N)
theorem CO(N:Nat):∀(l:List Gd),WdT Tryz.prog (CX l N)
  | []=>WoL
  |g::l=>GC (g.h N) (CO N l)
theorem GR(x:Fn){k:FuncId}(N:Nat)(hf:Tryz.prog.funcs[k]?=some x.F)(hc:WdT Tryz.prog (x.c N))(h:∀d,DN x N d=(x.s N).run d:=by intro d;kernel_rfl)(bI:(WoI x.F&&Wi7 x.F (x.s N).ps)=true:=by kernel_rfl)(hi:(x.s N).inl=none:=by rfl):GW k (x.s N):=
  ⟨Wee hf (Xi .. ▸bI).1,WxB hi (Ws5 mixedOk tabOk hc hf (Xi .. ▸bI).2 (λd _ e=>⟨N,(h d).trans e⟩))⟩
def GF(x:Fn){k:FuncId}(hf:Tryz.prog.funcs[k]?=some x.F)(h:∀N d,DN x N d=(x.s N).run d:=by intro N d;kernel_rfl)(hc:∀N,WdT Tryz.prog (x.c N):=by exactλN=>CO N _)(bI:∀N,(WoI x.F&&Wi7 x.F (x.s N).ps)=true:=by intro N;kernel_rfl)(hi:∀N,(x.s N).inl=none:=by intro N;rfl):Gd:=
  ⟨k,x.s,λN=>GR x N hf (hc N) (h N) (bI N) (hi N)⟩
def GN(x:Fn){k:FuncId}(hf:Tryz.prog.funcs[k]?=some x.F)(h:∀N d,DN x N d=(x.s N).run d:=by intro N d;kernel_rfl)(hc:∀N,WdT Tryz.prog (x.c N):=by exactλN=>WoL)(bI:∀N,(WoI x.F&&Wi7 x.F (x.s N).ps)=true:=by intro N;kernel_rfl)(hi:∀N,(x.s N).inl=none:=by intro N;rfl):Gd:=GF x hf h hc bI hi
abbrev cn_(l:List Nat):List Ghost:=[.canon l]
abbrev vf_(t:Ty):PTy:=.v t false
abbrev vt_(t:Ty):PTy:=.v t true
variable(N:Nat){R:Type}(K:Ex->St->Option R)
def Zae5:Fn:=⟨f52,Wu,λN=>Sig.of [vf_ Ji,vf_ Ja] [vf_ Ja] (λd=>Zn9 N d.1 d.2.1),WR⟩
def Zae6:Gd:=GN Zae5 func52
def Z9z:Fn:=⟨f16,Wu,λN=>Sig.of [vt_ Jal,vf_ Ja] [vf_ Ja] (λd=>Zok N d.1 d.2.1),CX [Zae6]⟩
def Z90:Gd:=GF Z9z func16
def Zahk:Fn:=⟨f100,Wu,λN=>Sig.of [vf_ Jg,vf_ Ja] [vf_ Ja] (λd=>Zpf N d.1 d.2.1),WR⟩
def Zxj:Gd:=GN Zahk func100
def Zahl:Fn:=⟨f162,Wu,λN=>Sig.of [vt_ Jg,vf_ Ja] [vf_ Ja] (λd=>Zrh N d.1 d.2.1),CX [Zxj]⟩
def Zahm:Gd:=GF Zahl func162
def Zor:Fn:=⟨f101,λ |5=>cn_ [0,1,5,15]|6=>cn_ [0,1,5]|7=>cn_ [0,1,5]|8=>cn_ [0,1,5,25]|9=>cn_ [4]|100005=>cn_ [0,1,5]|_=>[],λN=>Sig.of [vf_ Jad,vf_ Ja] [vf_ Ja] (λd=>Zky N d.1 d.2.1),CX [Zahm]⟩
def Z3z(a3:List Kz)(ci:Int)(i5:Int):St:=⟨[(0,vV Jad a3),(1,vI ci),(5,vI i5)],[],0⟩
def Z0k(a3:List Kz):St:=⟨[(4,vI (-1:Int))],[],0⟩
def Z0l(a3:List Kz)(fM:Int)(i8:Int)(t9:Bool):St:=⟨[(0,vV Jad a3),(1,vI fM),(5,vI i8),(15,vB t9)],[],0⟩
theorem Z30{a3:List Kz}{K0:Option R}{K1:Int->Int->Bool->Option R}(h0:K0=K .ret (Z0k a3))(h1:K1= λfM i8 t9=>K (.exit 0) (Z0l a3 fM i8 t9))(n:Nat)(ci:Int)(i5:Int):Zd6 N a3 K0 K1 n ci i5=LM Zor N 0 100005 n (Z3z a3 ci i5) K:=by
  subst h0 h1
  induction n generalizing ci i5 with
  |zero=>kernel_rfl
  |succ n ih=>rw[Zd6];simp only[ih];kernel_rfl
theorem Zae7(a1:List Kz)(aZ:Int):DN Zor N (a1,aZ,())=Zky N a1 aZ:=by
  conv=>rhs;rw[Zky];simp(disch:=exact id (by kernel_rfl)) only[Z30 (R:=Unit×Kh) N (CF Zor N [1,1,1,0,1,0])]
  kernel_rfl
def Zae8:Gd:=GF Zor func101 (λN d=>Zae7 N d.1 d.2.1)
def Zae9:Fn:=⟨f53,Wu,λN=>Sig.of [vt_ Jaj,vf_ Ja] [vf_ Ja] (λd=>Zqj N d.1 d.2.1),CX [Zxj,Zae8]⟩
def Zafa:Gd:=GF Zae9 func53
def Zna:Fn:=⟨f17,λ |5=>cn_ [0,1,5,15]|6=>cn_ [0,1,5]|7=>cn_ [0,1,5]|8=>cn_ [0,1,5,25]|9=>cn_ [4]|100005=>cn_ [0,1,5]|_=>[],λN=>Sig.of [vf_ Jm,vf_ Ja] [vf_ Ja] (λd=>Zjr N d.1 d.2.1),CX [Zafa]⟩
def Z0m(a3:List Km)(ci:Int)(i5:Int):St:=⟨[(0,vV Jm a3),(1,vI ci),(5,vI i5)],[],0⟩
def Zxk(a3:List Km):St:=⟨[(4,vI (-1:Int))],[],0⟩
def Zxl(a3:List Km)(fM:Int)(i8:Int)(t9:Bool):St:=⟨[(0,vV Jm a3),(1,vI fM),(5,vI i8),(15,vB t9)],[],0⟩
theorem Z0n{a3:List Km}{K0:Option R}{K1:Int->Int->Bool->Option R}(h0:K0=K .ret (Zxk a3))(h1:K1= λfM i8 t9=>K (.exit 0) (Zxl a3 fM i8 t9))(n:Nat)(ci:Int)(i5:Int):Zdc N a3 K0 K1 n ci i5=LM Zna N 0 100005 n (Z0m a3 ci i5) K:=by
  subst h0 h1
  induction n generalizing ci i5 with
  |zero=>kernel_rfl
  |succ n ih=>rw[Zdc];simp only[ih];kernel_rfl
theorem Zabz(a1:List Km)(aZ:Int):DN Zna N (a1,aZ,())=Zjr N a1 aZ:=by
  conv=>rhs;rw[Zjr];simp(disch:=exact id (by kernel_rfl)) only[Z0n (R:=Unit×Kh) N (CF Zna N [1,1,1,0,1,0])]
  kernel_rfl
def Zab0:Gd:=GF Zna func17 (λN d=>Zabz N d.1 d.2.1)
def Zafb:Fn:=⟨f18,Wu,λN=>Sig.of [vf_ Jn,vf_ Ja] [vf_ Ja] (λd=>Zqk N d.1 d.2.1),WR⟩
def Zafc:Gd:=GN Zafb func18
def Z91:Fn:=⟨f5,Wu,λN=>Sig.of [vt_ Jt,vf_ Ja] [vf_ Ja] (λd=>Zol N d.1 d.2.1),CX [Z90,Zab0,Zafc]⟩
def Z92:Gd:=GF Z91 func5
def Zos:Fn:=⟨f61,λ |3=>cn_ [0,3,4,11]|4=>cn_ [0,3,4]|5=>cn_ [0,3,4]|100003=>cn_ [0,3,4]|_=>[],λN=>Sig.of [vf_ Ji] [vf_ Jah] (λd=>Zi0 N d.1),WR⟩
def Z31(a2:List Int)(i3:Int)(l4:List Int):St:=⟨[(0,vV Ji a2),(3,vO 0),(4,vI i3)],[(0,.arr Ja l4)],1⟩
def Z0o(a2:List Int)(i5:Int)(t6:Bool)(l7:List Int):St:=⟨[(0,vV Ji a2),(3,vO 0),(4,vI i5),(11,vB t6)],[(0,.arr Ja l7)],1⟩
theorem Z32{a2:List Int}{K0:Int->Bool->Kj->Option R}(h0:K0= λi5 t6 l7=>K (.exit 0) (Z0o a2 i5 t6 l7))(n:Nat)(i3:Int)(l4:List Int):Zd7 N a2 K0 n i3 l4=LM Zos N 0 100003 n (Z31 a2 i3 l4) K:=by
  subst h0
  induction n generalizing i3 l4 with
  |zero=>kernel_rfl
  |succ n ih=>rw[Zd7];simp only[ih];kernel_rfl
theorem Zafd(a1:List Int):DN Zos N (a1,())=Zi0 N a1:=by
  conv=>rhs;rw[Zi0];simp(disch:=exact id (by kernel_rfl)) only[Z32 (R:=Unit×Kad) N (CF Zos N [1,1,0,1,0])]
  kernel_rfl
def Zafe:Gd:=GN Zos func61 (λN d=>Zafd N d.1)
def Z93:Fn:=⟨f22,Wu,λN=>Sig.of [vt_ Jal] [vt_ (.prod Jah Jaq)] (λd=>Zom N d.1),CX [Zafe]⟩
def Z94:Gd:=GF Z93 func22
def Zait:Fn:=⟨f191,Wu,λN=>Sig.of [vt_ Jq] [vt_ Jq] (λd=>Zsb N d.1),WR⟩
def Zaiu:Gd:=GN Zait func191
def Zpv:Fn:=⟨f122,λ |3=>cn_ [0,3,4,11]|4=>cn_ [0,3,4]|5=>cn_ [0,3,4]|100003=>cn_ [0,3,4]|_=>[],λN=>Sig.of [vf_ Jg] [vf_ (.own Jq)] (λd=>Zj7 N d.1),CX [Zaiu]⟩
def Z6x(a2:List Ka)(i3:Int)(l4:List Ka):St:=⟨[(0,vV Jg a2),(3,vO 0),(4,vI i3)],[(0,.arr Jq l4)],1⟩
def Z33(a2:List Ka)(i6:Int)(t7:Bool)(l8:List Ka):St:=⟨[(0,vV Jg a2),(3,vO 0),(4,vI i6),(11,vB t7)],[(0,.arr Jq l8)],1⟩
theorem Z6y{a2:List Ka}{K0:Int->Bool->Kz->Option R}(h0:K0= λi6 t7 l8=>K (.exit 0) (Z33 a2 i6 t7 l8))(n:Nat)(i3:Int)(l4:List Ka):Zfj N a2 K0 n i3 l4=LM Zpv N 0 100003 n (Z6x a2 i3 l4) K:=by
  subst h0
  induction n generalizing i3 l4 with
  |zero=>kernel_rfl
  |succ n ih=>rw[Zfj];simp only[ih];kernel_rfl
theorem Zahn(a1:List Ka):DN Zpv N (a1,())=Zj7 N a1:=by
  conv=>rhs;rw[Zj7];simp(disch:=exact id (by kernel_rfl)) only[Z6y (R:=Unit×(Kz×Unit)) N (CF Zpv N [1,1,0,1,0])]
  kernel_rfl
def Zxm:Gd:=GF Zpv func122 (λN d=>Zahn N d.1)
def Zaho:Fn:=⟨f192,Wu,λN=>Sig.of [vt_ Jg] [vt_ (.own Jq)] (λd=>Zri N d.1),CX [Zxm]⟩
def Zahp:Gd:=GF Zaho func192
def Zot:Fn:=⟨f123,λ |1=>[.nest 7 (.own Jq)]|3=>cn_ [0,3,4,11]|4=>cn_ [0,3,4]|5=>cn_ [0,3,4]|100003=>cn_ [0,3,4]|_=>[],λN=>Sig.of [vf_ Jad] [.v (.own (.own Jq)) false] (λd=>Zkz N d.1),CX [Zahp]⟩
def Z34(a2:List Kz)(i3:Int)(l4:List Kz):St:=⟨[(0,vV Jad a2),(3,vO 0),(4,vI i3)],[(0,.arr (.own Jq) l4)],1⟩
def Z0p(a2:List Kz)(i6:Int)(t7:Bool)(l8:List Kz):St:=⟨[(0,vV Jad a2),(3,vO 0),(4,vI i6),(11,vB t7)],[(0,.arr (.own Jq) l8)],1⟩
theorem Z35{a2:List Kz}{K0:Int->Bool->Kw->Option R}(h0:K0= λi6 t7 l8=>K (.exit 0) (Z0p a2 i6 t7 l8))(n:Nat)(i3:Int)(l4:List Kz):Zd8 N a2 K0 n i3 l4=LM Zot N 0 100003 n (Z34 a2 i3 l4) K:=by
  subst h0
  induction n generalizing i3 l4 with
  |zero=>kernel_rfl
  |succ n ih=>rw[Zd8];simp only[ih];kernel_rfl
theorem Zaff(a1:List Kz):DN Zot N (a1,())=Zkz N a1:=by
  conv=>rhs;rw[Zkz];simp(disch:=exact id (by kernel_rfl)) only[Z35 (R:=Unit×(Kw×Unit)) N (CF Zot N [1,1,0,1,0])]
  kernel_rfl
def Zafg:Gd:=GF Zot func123 (λN d=>Zaff N d.1)
def Zafh:Fn:=⟨f62,Wu,λN=>Sig.of [vt_ Jaj] [vt_ Jac] (λd=>Zql N d.1),CX [Zxm,Zafg]⟩
def Zafi:Gd:=GF Zafh func62
def Znb:Fn:=⟨f23,λ |1=>[.nest 7 Jac]|3=>cn_ [0,3,4,11]|4=>cn_ [0,3,4]|5=>cn_ [0,3,4]|100003=>cn_ [0,3,4]|_=>[],λN=>Sig.of [vf_ Jm] [vf_ (.own Jac)] (λd=>Zjs N d.1),CX [Zafi]⟩
def Z0q(a2:List Km)(i3:Int)(l4:List Km):St:=⟨[(0,vV Jm a2),(3,vO 0),(4,vI i3)],[(0,.arr Jac l4)],1⟩
def Zxn(a2:List Km)(i6:Int)(t7:Bool)(l8:List Km):St:=⟨[(0,vV Jm a2),(3,vO 0),(4,vI i6),(11,vB t7)],[(0,.arr Jac l8)],1⟩
theorem Z0r{a2:List Km}{K0:Int->Bool->Kah->Option R}(h0:K0= λi6 t7 l8=>K (.exit 0) (Zxn a2 i6 t7 l8))(n:Nat)(i3:Int)(l4:List Km):Zdd N a2 K0 n i3 l4=LM Znb N 0 100003 n (Z0q a2 i3 l4) K:=by
  subst h0
  induction n generalizing i3 l4 with
  |zero=>kernel_rfl
  |succ n ih=>rw[Zdd];simp only[ih];kernel_rfl
theorem Zab1(a1:List Km):DN Znb N (a1,())=Zjs N a1:=by
  conv=>rhs;rw[Zjs];simp(disch:=exact id (by kernel_rfl)) only[Z0r (R:=Unit×(Kah×Unit)) N (CF Znb N [1,1,0,1,0])]
  kernel_rfl
def Zab2:Gd:=GF Znb func23 (λN d=>Zab1 N d.1)
def Zahq:Fn:=⟨f63,Wu,λN=>Sig.of [vt_ Jb] [vt_ Jb] (λd=>Zrn N d.1),WR⟩
def Zahr:Gd:=GN Zahq func63
def Zou:Fn:=⟨f24,λ |3=>cn_ [0,3,4,11]|4=>cn_ [0,3,4]|5=>cn_ [0,3,4]|100003=>cn_ [0,3,4]|_=>[],λN=>Sig.of [vf_ Jn] [vf_ Jak] (λd=>Zk9 N d.1),CX [Zahr]⟩
def Z36(a2:List Kb)(i3:Int)(l4:List Kb):St:=⟨[(0,vV Jn a2),(3,vO 0),(4,vI i3)],[(0,.arr Jb l4)],1⟩
def Z0s(a2:List Kb)(i6:Int)(t7:Bool)(l8:List Kb):St:=⟨[(0,vV Jn a2),(3,vO 0),(4,vI i6),(11,vB t7)],[(0,.arr Jb l8)],1⟩
theorem Z37{a2:List Kb}{K0:Int->Bool->Kq->Option R}(h0:K0= λi6 t7 l8=>K (.exit 0) (Z0s a2 i6 t7 l8))(n:Nat)(i3:Int)(l4:List Kb):Zen N a2 K0 n i3 l4=LM Zou N 0 100003 n (Z36 a2 i3 l4) K:=by
  subst h0
  induction n generalizing i3 l4 with
  |zero=>kernel_rfl
  |succ n ih=>rw[Zen];simp only[ih];kernel_rfl
theorem Zafj(a1:List Kb):DN Zou N (a1,())=Zk9 N a1:=by
  conv=>rhs;rw[Zk9];simp(disch:=exact id (by kernel_rfl)) only[Z37 (R:=Unit×Kaa) N (CF Zou N [1,1,0,1,0])]
  kernel_rfl
def Zafk:Gd:=GF Zou func24 (λN d=>Zafj N d.1)
def Z95:Fn:=⟨f7,Wu,λN=>Sig.of [vt_ Jt] [.v (.prod (.prod Jah Jaq) (.prod (.own Jac) Jak)) true] (λd=>Zgx N d.1),CX [Z94,Zab2,Zafk]⟩
def Z96:Gd:=GF Z95 func7
def Zaiv:Fn:=⟨f58,Wu,λN=>Sig.of [vf_ Ja,vf_ Ja,vf_ Ja] [vf_ Jp] (λd=>Zf N d.1 d.2.1 d.2.2.1),WR⟩
def Z4:Gd:=GN Zaiv func58
def Zahs:Fn:=⟨f103,Wu,λN=>Sig.of [vf_ Ja] [vf_ Jp] (λd=>Zam N d.1),CX [Z4]⟩
def Zb0:Gd:=GF Zahs func103
def Zov:Fn:=⟨f102,λ |4=>cn_ [0,3,10]|5=>cn_ [0,3]|6=>cn_ [0,3,18]|7=>cn_ [2]|100004=>cn_ [0,3]|_=>[],λN=>Sig.of [vf_ Ji] [vf_ Jp] (λd=>Zi1 N d.1),CX [Zb0]⟩
def Z38(l2:List Int)(i3:Int):St:=⟨[(0,vV Ji l2),(3,vI i3)],[],0⟩
def Z0t(l2:List Int):St:=⟨[(2,vB false)],[],0⟩
def Z0u(l2:List Int)(i5:Int)(t6:Bool):St:=⟨[(0,vV Ji l2),(3,vI i5),(10,vB t6)],[],0⟩
theorem Z39{l2:List Int}{K0:Option R}{K1:Int->Bool->Option R}(h0:K0=K .ret (Z0t l2))(h1:K1= λi5 t6=>K (.exit 0) (Z0u l2 i5 t6))(n:Nat)(i3:Int):Zd9 N l2 K0 K1 n i3=LM Zov N 0 100004 n (Z38 l2 i3) K:=by
  subst h0 h1
  induction n generalizing i3 with
  |zero=>kernel_rfl
  |succ n ih=>rw[Zd9];simp only[ih];kernel_rfl
theorem Zafl(l1:List Int):DN Zov N (l1,())=Zi1 N l1:=by
  conv=>rhs;rw[Zi1];simp(disch:=exact id (by kernel_rfl)) only[Z39 (R:=Unit×Ko) N (CF Zov N [1,1,0,1,0])]
  kernel_rfl
def Zvf:Gd:=GF Zov func102 (λN d=>Zafl N d.1)
def Zmf:Fn:=⟨f54,λ |4=>cn_ [1,3,24]|5=>cn_ [1,3]|6=>cn_ [1,3,33]|7=>cn_ [2]|100004=>cn_ [1,3]|_=>[],λN=>Sig.of [vt_ Jal] [vf_ Jp] (λd=>Zir N d.1),CX [Zvf,Zb0,Z4]⟩
def Zxo(i4:Int)(b5:List Int×List Int×Int):St:=⟨[(1,vP 0 0),(3,vI i4)],[(0,.box [.val Ji b5.1,.val Ji b5.2.1,.val Ja b5.2.2])],1⟩
def Zvo(b5:List Int×List Int×Int):St:=⟨[(2,vB false)],[],0⟩
def Zvp(b5:List Int×List Int×Int)(i7:Int)(t8:Bool):St:=⟨[(1,vP 0 0),(3,vI i7),(24,vB t8)],[(0,.box [.val Ji b5.1,.val Ji b5.2.1,.val Ja b5.2.2])],1⟩
theorem Zxp{b5:List Int×List Int×Int}{K0:Option R}{K1:Int->Bool->Option R}(h0:K0=K .ret (Zvo b5))(h1:K1= λi7 t8=>K (.exit 0) (Zvp b5 i7 t8))(n:Nat)(i4:Int):Zbl N b5 K0 K1 n i4=LM Zmf N 0 100004 n (Zxo i4 b5) K:=by
  subst h0 h1
  induction n generalizing i4 with
  |zero=>kernel_rfl
  |succ n ih=>rw[Zbl];simp only[ih];kernel_rfl
theorem Z97(s1:List Int×List Int×Int):DN Zmf N (s1,())=Zir N s1:=by
  conv=>rhs;rw[Zir];simp(disch:=exact id (by kernel_rfl)) only[Zxp (R:=Unit×Ko) N (CF Zmf N [1,1,0,1,0])]
  kernel_rfl
def Z98:Gd:=GF Zmf func54 (λN d=>Z97 N d.1)
def Zaht:Fn:=⟨f231,Wu,λN=>Sig.of [vf_ Ja] [vf_ Jp] (λd=>Zbr N d.1),CX [Z4]⟩
def Zahu:Gd:=GF Zaht func231
def Zafm:Fn:=⟨f232,Wu,λN=>Sig.of [vf_ Ja] [vf_ Jp] (λd=>Zck N d.1),CX [Z4]⟩
def Ziw:Gd:=GF Zafm func232
def Zaiw:Fn:=⟨f163,Wu,λN=>Sig.of [vt_ Jq] [vf_ Jp] (λd=>Zl7 N d.1),CX [Zahu,Zb0,Ziw,Z4]⟩
def Zsn:Gd:=GF Zaiw func163
def Zow:Fn:=⟨f164,λ |6=>cn_ [0,5,6,7,24]|7=>cn_ [0,5,6,7]|8=>cn_ [0,5,6,7,32]|9=>cn_ [0,5,6,7]|10=>cn_ [0,5,6,7,40]|11=>cn_ [0,5,6,7]|12=>cn_ [0,5,6,7,44]|13=>cn_ [4]|100006=>cn_ [0,5,6,7]|_=>[],λN=>Sig.of [vf_ Jg,vf_ Ja] [vf_ Jp] (λd=>Zk0 N d.1 d.2.1),WR⟩
def Z4a(ae:List Ka)(ip:Int)(d5:Int)(k6:Int):St:=⟨[(0,vV Jg ae),(5,vI ip),(6,vI d5),(7,vI k6)],[],0⟩
def Z0v(ae:List Ka)(ip:Int):St:=⟨[(4,vB false)],[],0⟩
def Z0w(ae:List Ka)(ip:Int)(d7:Int)(k8:Int)(t9:Bool):St:=⟨[(0,vV Jg ae),(5,vI ip),(6,vI d7),(7,vI k8),(24,vB t9)],[],0⟩
theorem Z4b{ae:List Ka}{ip:Int}{K0:Option R}{K1:Int->Int->Bool->Option R}(h0:K0=K .ret (Z0v ae ip))(h1:K1= λd7 k8 t9=>K (.exit 0) (Z0w ae ip d7 k8 t9))(n:Nat)(d5:Int)(k6:Int):Zan N ae ip K0 K1 n d5 k6=LM Zow N 0 100006 n (Z4a ae ip d5 k6) K:=by
  subst h0 h1
  induction n generalizing d5 k6 with
  |zero=>kernel_rfl
  |succ n ih=>rw[Zan];simp only[ih];kernel_rfl
theorem Zafn(ai:List Ka)(i2:Int):DN Zow N (ai,i2,())=Zk0 N ai i2:=by
  conv=>rhs;rw[Zk0];simp(disch:=exact id (by kernel_rfl)) only[Z4b (R:=Unit×Ko) N (CF Zow N [1,1,1,1,0,1,0])]
  kernel_rfl
def Zafo:Gd:=GN Zow func164 (λN d=>Zafn N d.1 d.2.1)
def Zox:Fn:=⟨f104,λ |6=>cn_ [0,3,4,5,12]|7=>cn_ [0,3,4,5]|8=>cn_ [0,3,4,5,20]|9=>cn_ [2]|10=>cn_ [0,3,4,5,25]|11=>cn_ [0,3,4,5,25,26]|12=>cn_ [0,3,4,5]|13=>cn_ [0,3,4,5,25,30]|14=>cn_ [0,3,4,5]|15=>cn_ [0,3,4,5,25,34]|16=>cn_ [0,3,4,5,39]|17=>cn_ [2]|18=>cn_ [0,3,4,5,40]|19=>cn_ [0,3,4,5]|20=>cn_ [0,3,4,5,49]|21=>cn_ [2]|22=>cn_ [0,3,4,5,51]|23=>cn_ [2]|100006=>cn_ [0,3,4,5]|_=>[],λN=>Sig.of [vf_ Jg] [vf_ Jp] (λd=>Zi2 N d.1),CX [Zsn,Zafo]⟩
def Z4c(aj:List Ka)(d3:Int)(aJ:Int)(i5:Int):St:=⟨[(0,vV Jg aj),(3,vI d3),(4,vI aJ),(5,vI i5)],[],0⟩
def Z0x(aj:List Ka):St:=⟨[(2,vB false)],[],0⟩
def Z0y(aj:List Ka)(d8:Int)(jm:Int)(aV:Int)(aq:Bool):St:=⟨[(0,vV Jg aj),(3,vI d8),(4,vI jm),(5,vI aV),(12,vB aq)],[],0⟩
theorem Z4d{aj:List Ka}{K0:Option R}{K1:Int->Int->Int->Bool->Option R}(h0:K0=K .ret (Z0x aj))(h1:K1= λd8 jm aV aq=>K (.exit 0) (Z0y aj d8 jm aV aq))(n:Nat)(d3:Int)(aJ:Int)(i5:Int):Zao N aj K0 K1 n d3 aJ i5=LM Zox N 0 100006 n (Z4c aj d3 aJ i5) K:=by
  subst h0 h1
  induction n generalizing d3 aJ i5 with
  |zero=>kernel_rfl
  |succ n ih=>rw[Zao];simp only[ih];kernel_rfl
theorem Zafp(ai:List Ka):DN Zox N (ai,())=Zi2 N ai:=by
  conv=>rhs;rw[Zi2];simp(disch:=exact id (by kernel_rfl)) only[Z4d (R:=Unit×Ko) N (CF Zox N [1,1,1,1,0,1,0])]
  kernel_rfl
def Zvg:Gd:=GF Zox func104 (λN d=>Zafp N d.1)
def Znc:Fn:=⟨f105,λ |2=>cn_ [0,3,7]|3=>cn_ [0,3]|4=>cn_ [0,3,15]|5=>cn_ [2]|100002=>cn_ [0,3]|_=>[],λN=>Sig.of [vf_ Jg] [vf_ Jp] (λd=>Zhq N d.1),WR⟩
def Z0z(aj:List Ka)(i3:Int):St:=⟨[(0,vV Jg aj),(3,vI i3)],[],0⟩
def Zxq(aj:List Ka):St:=⟨[(2,vB true)],[],0⟩
def Zxr(aj:List Ka)(i4:Int)(t5:Bool):St:=⟨[(0,vV Jg aj),(3,vI i4),(7,vB t5)],[],0⟩
theorem Z00{aj:List Ka}{K0:Option R}{K1:Int->Bool->Option R}(h0:K0=K .ret (Zxq aj))(h1:K1= λi4 t5=>K (.exit 0) (Zxr aj i4 t5))(n:Nat)(i3:Int):Zc3 N aj K0 K1 n i3=LM Znc N 0 100002 n (Z0z aj i3) K:=by
  subst h0 h1
  induction n generalizing i3 with
  |zero=>kernel_rfl
  |succ n ih=>rw[Zc3];simp only[ih];kernel_rfl
theorem Zab3(ai:List Ka):DN Znc N (ai,())=Zhq N ai:=by
  conv=>rhs;rw[Zhq];simp(disch:=exact id (by kernel_rfl)) only[Z00 (R:=Unit×Ko) N (CF Znc N [1,0,1,0])]
  kernel_rfl
def Zth:Gd:=GN Znc func105 (λN d=>Zab3 N d.1)
def Zab4:Fn:=⟨f165,Wu,λN=>Sig.of [vt_ Jq] [vf_ Ja] (λd=>Za5 N d.1),CX [Zsn]⟩
def Zq7:Gd:=GF Zab4 func165
def Zpw:Fn:=⟨f106,λ |4=>cn_ [0,3,14]|5=>cn_ [0,3]|6=>cn_ [0,3,22]|7=>cn_ [2]|100004=>cn_ [0,3]|_=>[],λN=>Sig.of [vf_ Jg] [vf_ Jp] (λd=>Zj8 N d.1),CX [Zvg,Zth,Zq7]⟩
def Z6z(aB:List Ka)(i5:Int):St:=⟨[(0,vV Jg aB),(3,vI i5)],[],0⟩
def Z4e(aB:List Ka):St:=⟨[(2,vB false)],[],0⟩
def Z4f(aB:List Ka)(i7:Int)(t8:Bool):St:=⟨[(0,vV Jg aB),(3,vI i7),(14,vB t8)],[],0⟩
theorem Z60{aB:List Ka}{K0:Option R}{K1:Int->Bool->Option R}(h0:K0=K .ret (Z4e aB))(h1:K1= λi7 t8=>K (.exit 0) (Z4f aB i7 t8))(n:Nat)(i5:Int):Zfk N aB K0 K1 n i5=LM Zpw N 0 100004 n (Z6z aB i5) K:=by
  subst h0 h1
  induction n generalizing i5 with
  |zero=>kernel_rfl
  |succ n ih=>rw[Zfk];simp only[ih];kernel_rfl
theorem Zahv(ai:List Ka):DN Zpw N (ai,())=Zj8 N ai:=by
  conv=>rhs;rw[Zj8];simp(disch:=exact id (by kernel_rfl)) only[Z60 (R:=Unit×Ko) N (CF Zpw N [1,1,0,1,0])]
  kernel_rfl
def Zahw:Gd:=GF Zpw func106 (λN d=>Zahv N d.1)
def Zoy:Fn:=⟨f55,λ |4=>cn_ [1,3,28]|5=>cn_ [1,3]|6=>cn_ [1,3,38]|7=>cn_ [2]|100004=>cn_ [1,3]|_=>[],λN=>Sig.of [vt_ Jaj] [vf_ Jp] (λd=>Zi4 N d.1),CX [Zvg,Zth,Zahw]⟩
def Z4g(i4:Int)(b5:List Ka×List Kz):St:=⟨[(1,vP 0 0),(3,vI i4)],[(0,.box [.val Jg b5.1,.val Jad b5.2])],1⟩
def Z01(b5:List Ka×List Kz):St:=⟨[(2,vB false)],[],0⟩
def Z02(b5:List Ka×List Kz)(i7:Int)(t8:Bool):St:=⟨[(1,vP 0 0),(3,vI i7),(28,vB t8)],[(0,.box [.val Jg b5.1,.val Jad b5.2])],1⟩
theorem Z4h{b5:List Ka×List Kz}{K0:Option R}{K1:Int->Bool->Option R}(h0:K0=K .ret (Z01 b5))(h1:K1= λi7 t8=>K (.exit 0) (Z02 b5 i7 t8))(n:Nat)(i4:Int):Zcm N b5 K0 K1 n i4=LM Zoy N 0 100004 n (Z4g i4 b5) K:=by
  subst h0 h1
  induction n generalizing i4 with
  |zero=>kernel_rfl
  |succ n ih=>rw[Zcm];simp only[ih];kernel_rfl
theorem Zafq(p1:List Ka×List Kz):DN Zoy N (p1,())=Zi4 N p1:=by
  conv=>rhs;rw[Zi4];simp(disch:=exact id (by kernel_rfl)) only[Z4h (R:=Unit×Ko) N (CF Zoy N [1,1,0,1,0])]
  kernel_rfl
def Zafr:Gd:=GF Zoy func55 (λN d=>Zafq N d.1)
def Zmg:Fn:=⟨f19,λ |4=>cn_ [1,3,24]|5=>cn_ [1,3]|6=>cn_ [1,3,33]|7=>cn_ [2]|100004=>cn_ [1,3]|_=>[],λN=>Sig.of [vt_ Jt] [vf_ Jp] (λd=>Zis N d.1),CX [Z98,Zafr]⟩
def Zxs(i3:Int)(b4:Kg×List Km×List Kb):St:=⟨[(1,vP 0 0),(3,vI i3)],[(0,.box [.val Ji b4.1.1,.val Ji b4.1.2.1,.val Ja b4.1.2.2,.val Jm b4.2.1,.val Jn b4.2.2])],1⟩
def Zvq(b4:Kg×List Km×List Kb):St:=⟨[(2,vB false)],[],0⟩
def Zvr(b4:Kg×List Km×List Kb)(i6:Int)(t7:Bool):St:=⟨[(1,vP 0 0),(3,vI i6),(24,vB t7)],[(0,.box [.val Ji b4.1.1,.val Ji b4.1.2.1,.val Ja b4.1.2.2,.val Jm b4.2.1,.val Jn b4.2.2])],1⟩
theorem Zxt{b4:Kg×List Km×List Kb}{K0:Option R}{K1:Int->Bool->Option R}(h0:K0=K .ret (Zvq b4))(h1:K1= λi6 t7=>K (.exit 0) (Zvr b4 i6 t7))(n:Nat)(i3:Int):Zbm N b4 K0 K1 n i3=LM Zmg N 0 100004 n (Zxs i3 b4) K:=by
  subst h0 h1
  induction n generalizing i3 with
  |zero=>kernel_rfl
  |succ n ih=>rw[Zbm];simp only[ih];kernel_rfl
theorem Z99(s1:Kg×List Km×List Kb):DN Zmg N (s1,())=Zis N s1:=by
  conv=>rhs;rw[Zis];simp(disch:=exact id (by kernel_rfl)) only[Zxt (R:=Unit×Ko) N (CF Zmg N [1,1,0,1,0])]
  kernel_rfl
def Zaaa:Gd:=GF Zmg func19 (λN d=>Z99 N d.1)
def Zoz:Fn:=⟨f56,λ |5=>cn_ [0,2,4,5,14]|6=>cn_ [0,2,4,5]|7=>cn_ [0,2,4,5]|100005=>[.adoptC 4 1 Jb,.canon [0,2,4,5]]|_=>[],λN=>Sig.of [vf_ Ji] [vt_ Jz,vf_ Jp] (λd=>Zk1 N d.1),CX [Zvf]⟩
def Z4i(l3:List Int)(i4:Int)(l7:List Kb):St:=⟨[(0,vV Ji l3),(2,vP 0 0),(4,vP 1 0),(5,vI i4)],[(0,.box [.val Ja (0:Int),.nils]),(1,.box [.val Ja (0:Int),.own 2]),(2,.arr Jb l7)],3⟩
def Z03(l3:List Int)(i8:Int)(t9:Bool)(cn:List Kb):St:=⟨[(0,vV Ji l3),(2,vP 0 0),(4,vP 1 0),(5,vI i8),(14,vB t9)],[(0,.box [.val Ja (0:Int),.nils]),(1,.box [.val Ja (0:Int),.own 2]),(2,.arr Jb cn)],3⟩
theorem Z4j{l3:List Int}{K0:Int->Bool->Kq->Option R}(h0:K0= λi8 t9 cn=>K (.exit 0) (Z03 l3 i8 t9 cn))(n:Nat)(i4:Int)(l7:List Kb):Zec N l3 K0 n i4 l7=LM Zoz N 0 100005 n (Z4i l3 i4 l7) K:=by
  subst h0
  induction n generalizing i4 l7 with
  |zero=>kernel_rfl
  |succ n ih=>rw[Zec];simp only[ih];kernel_rfl
theorem Zafs(l1:List Int):DN Zoz N (l1,())=Zk1 N l1:=by
  conv=>rhs;rw[Zk1];simp(disch:=exact id (by kernel_rfl)) only[Z4j (R:=Unit×(Kt×Ko)) N (CF Zoz N [1,1,1,0,1,0])]
  kernel_rfl
def Zaft:Gd:=GF Zoz func56 (λN d=>Zafs N d.1)
def Zab5:Fn:=⟨f107,Wu,λN=>Sig.of [] [vf_ Jah] (λd=>Zr7 N),WR⟩
def Zab6:Gd:=GN Zab5 func107
def Zab7:Fn:=⟨f166,Wu,λN=>Sig.of [vf_ Ji] [vf_ Jah] (λd=>Zh0 N d.1),WR⟩
def Znd:Gd:=GN Zab7 func166
def Zab8:Fn:=⟨f170,Wu,λN=>Sig.of [vf_ Ja] [vf_ Ja,vf_ Ja] (λd=>Zbx N d.1),WR⟩
def Zkl:Gd:=GN Zab8 func170
def Zafu:Fn:=⟨f168,Wu,λN=>Sig.of [vf_ Ja] [vf_ Jp] (λd=>Zdv N d.1),CX [Z4]⟩
def Zlo:Gd:=GF Zafu func168
def Zaab:Fn:=⟨f171,Wu,λN=>Sig.of [vf_ Ja] [vf_ Ja] (λd=>Zlk N d.1),CX [Zlo]⟩
def Zsw:Gd:=GF Zaab func171
def Zne:Fn:=⟨f167,λ |5=>cn_ [0,3,4,14]|6=>cn_ [0,3,4]|7=>cn_ [0,3,4,22]|8=>cn_ [2]|9=>cn_ [0,3,4,5]|10=>cn_ [0,3,4,5,32]|11=>cn_ [0,3,4,5,43]|12=>cn_ [2]|13=>cn_ [0,3,4]|100005=>cn_ [0,3,4]|_=>[],λN=>Sig.of [vf_ Ji] [vf_ Jp] (λd=>Zd2 N d.1),CX [Z4,Zkl,Zsw]⟩
def Z04(l2:List Int)(i3:Int)(l4:List Bool):St:=⟨[(0,vV Ji l2),(3,vO 0),(4,vI i3)],[(0,.arr Jp l4)],1⟩
def Zxu(l2:List Int):St:=⟨[(2,vB false)],[],0⟩
def Zxv(l2:List Int)(i8:Int)(t9:Bool)(cn:List Bool):St:=⟨[(0,vV Ji l2),(3,vO 0),(4,vI i8),(14,vB t9)],[(0,.arr Jp cn)],1⟩
theorem Z05{l2:List Int}{K0:Option R}{K1:Int->Bool->(List Bool)->Option R}(h0:K0=K .ret (Zxu l2))(h1:K1= λi8 t9 cn=>K (.exit 0) (Zxv l2 i8 t9 cn))(n:Nat)(i3:Int)(l4:List Bool):Zb5 N l2 K0 K1 n i3 l4=LM Zne N 0 100005 n (Z04 l2 i3 l4) K:=by
  subst h0 h1
  induction n generalizing i3 l4 with
  |zero=>kernel_rfl
  |succ n ih=>rw[Zb5];simp only[ih];kernel_rfl
theorem Zab9(l1:List Int):DN Zne N (l1,())=Zd2 N l1:=by
  conv=>rhs;rw[Zd2];simp(disch:=exact id (by kernel_rfl)) only[Z05 (R:=Unit×Ko) N (CF Zne N [1,1,1,0,1,0])]
  kernel_rfl
def Znf:Gd:=GF Zne func167 (λN d=>Zab9 N d.1)
def Zpx:Fn:=⟨f169,λ |2=>cn_ [0,1,5,11]|3=>cn_ [0,1,5]|4=>cn_ [0,1,5,6]|5=>cn_ [0,1,5,28]|6=>cn_ [4]|100002=>cn_ [0,1,5]|_=>[],λN=>Sig.of [vf_ Ji,vf_ Ja] [vf_ Ja] (λd=>Zgw N d.1 d.2.1),CX [Zkl]⟩
def Z61(l3:List Int)(eD:Int)(i5:Int):St:=⟨[(0,vV Ji l3),(1,vI eD),(5,vI i5)],[],0⟩
def Z4k(l3:List Int)(eD:Int)(t7:Int):St:=⟨[(4,vI t7)],[],0⟩
def Z4l(l3:List Int)(eD:Int)(i8:Int)(t9:Bool):St:=⟨[(0,vV Ji l3),(1,vI eD),(5,vI i8),(11,vB t9)],[],0⟩
theorem Z62{l3:List Int}{eD:Int}{K0:Int->Option R}{K1:Int->Bool->Option R}(h0:K0= λt7=>K .ret (Z4k l3 eD t7))(h1:K1= λi8 t9=>K (.exit 0) (Z4l l3 eD i8 t9))(n:Nat)(i5:Int):Zdb N l3 eD K0 K1 n i5=LM Zpx N 0 100002 n (Z61 l3 eD i5) K:=by
  subst h0 h1
  induction n generalizing i5 with
  |zero=>kernel_rfl
  |succ n ih=>rw[Zdb];simp only[ih];kernel_rfl
theorem Zahx(l1:List Int)(aX:Int):DN Zpx N (l1,aX,())=Zgw N l1 aX:=by
  conv=>rhs;rw[Zgw];simp(disch:=exact id (by kernel_rfl)) only[Z62 (R:=Unit×Kh) N (CF Zpx N [1,0,1,0])]
  kernel_rfl
def Zr9:Gd:=GF Zpx func169 (λN d=>Zahx N d.1 d.2.1)
def Zng:Fn:=⟨f108,λ |10=>cn_ [0,1,2,9,13,60]|11=>cn_ [0,1,2,9,13]|12=>cn_ [0,1,2,9,13,67]|13=>cn_ [9]|14=>cn_ [6,7,8]|100010=>cn_ [0,1,2,9,13]|_=>[],λN=>Sig.of [vf_ Ji,vf_ Ja,vf_ Ja] [vf_ Jah,vf_ Ja,vf_ Jp] (λd=>Zgb N d.1 d.2.1 d.2.2.1),CX [Znd,Znf,Zlo,Zb0,Zr9,Zkl,Zsw]⟩
def Z06(aA:List Int)(bu:Int)(fX:Int)(gV:Int)(aQ:List Int):St:=⟨[(0,vV Ji aA),(1,vI bu),(2,vI fX),(9,vO 0),(13,vI gV)],[(0,.arr Ja aQ)],1⟩
def Zxw(aA:List Int)(bu:Int)(fX:Int)(aQ:List Int)(bG:List Int):St:=⟨[(6,vO 0),(7,vI 0),(8,vB true)],[(0,.arr Ja bG)],1⟩
def Zxx(aA:List Int)(bu:Int)(fX:Int)(aQ:List Int)(s0:Int)(gt:Bool):St:=⟨[(0,vV Ji aA),(1,vI bu),(2,vI fX),(9,vO 0),(13,vI s0),(60,vB gt)],[(0,.arr Ja aQ)],1⟩
theorem Z07{aA:List Int}{bu:Int}{fX:Int}{aQ:List Int}{K0:Kj->Option R}{K1:Int->Bool->Option R}(h0:K0= λbG=>K .ret (Zxw aA bu fX aQ bG))(h1:K1= λs0 gt=>K (.exit 0) (Zxx aA bu fX aQ s0 gt))(n:Nat)(gV:Int):Zde N aA bu fX aQ K0 K1 n gV=LM Zng N 0 100010 n (Z06 aA bu fX gV aQ) K:=by
  subst h0 h1
  induction n generalizing gV with
  |zero=>kernel_rfl
  |succ n ih=>rw[Zde];simp only[ih];kernel_rfl
theorem Zaca(l1:List Int)(aX:Int)(v3:Int):DN Zng N (l1,aX,v3,())=Zgb N l1 aX v3:=by
  conv=>rhs;rw[Zgb];simp(disch:=exact id (by kernel_rfl)) only[Z07 (R:=Unit×(Kj×Kk)) N (CF Zng N [1,1,1,1,1,0,1,0])]
  kernel_rfl
def Zq8:Gd:=GF Zng func108 (λN d=>Zaca N d.1 d.2.1 d.2.2.1)
def Zlp:Fn:=⟨f57,λ |5=>cn_ [0,3,4,16]|6=>cn_ [0,3,4]|7=>cn_ [0,3,4,24]|8=>cn_ [2]|9=>cn_ [0,3,4,30]|10=>cn_ [0,4,5]|11=>cn_ [0,3,4]|100005=>cn_ [0,3,4]|_=>[],λN=>Sig.of [vf_ Ji] [vf_ Jah] (λd=>Zfv N d.1),CX [Zab6,Z4,Zq8]⟩
def Zvs(m3:List Int)(k4:Int)(l5:List Int):St:=⟨[(0,vV Ji m3),(3,vO 0),(4,vI k4)],[(0,.arr Ja l5)],1⟩
def Zt6(m3:List Int):St:=⟨[(2,vO 0)],[(0,.arr Ja ([]:List Int))],1⟩
def Zt7(m3:List Int)(k8:Int)(t9:Bool)(cn:List Int):St:=⟨[(0,vV Ji m3),(3,vO 0),(4,vI k8),(16,vB t9)],[(0,.arr Ja cn)],1⟩
theorem Zvt{m3:List Int}{K0:Option R}{K1:Int->Bool->Kj->Option R}(h0:K0=K .ret (Zt6 m3))(h1:K1= λk8 t9 cn=>K (.exit 0) (Zt7 m3 k8 t9 cn))(n:Nat)(k4:Int)(l5:List Int):Zbd N m3 K0 K1 n k4 l5=LM Zlp N 0 100005 n (Zvs m3 k4 l5) K:=by
  subst h0 h1
  induction n generalizing k4 l5 with
  |zero=>kernel_rfl
  |succ n ih=>rw[Zbd];simp only[ih];kernel_rfl
theorem Z63(m1:List Int):DN Zlp N (m1,())=Zfv N m1:=by
  conv=>rhs;rw[Zfv];simp(disch:=exact id (by kernel_rfl)) only[Zvt (R:=Unit×Kad) N (CF Zlp N [1,1,1,0,1,0])]
  kernel_rfl
def Z64:Gd:=GF Zlp func57 (λN d=>Z63 N d.1)
def Zafv:Fn:=⟨f20,Wu,λN=>Sig.of [vt_ Jt] [vt_ Jh] (λd=>Zqm N d.1),CX [Zaft,Z64]⟩
def Zafw:Gd:=GF Zafv func20
def Zacb:Fn:=⟨f109,Wu,λN=>Sig.of [vt_ (TY_Root)] [.v (.prod Ja (.prod Ja (.prod Ja (.prod Ja (.prod Ja (.prod Ja (.prod Ja (.prod Ja (.prod Ja (.prod Ja (.prod Ja (.prod Jp (.prod Jah (.prod Jc (.prod Jc (.prod (.own Js) (.prod Jn (.prod Jah (.prod Jp (.prod Jq (.prod Jr Jar))))))))))))))))))))) true] (λd=>Za7 N d.1),WR⟩
def Zkm:Gd:=GN Zacb func109
def Zacc:Fn:=⟨f172,Wu,λN=>Sig.of [vt_ (TY_Root)] [vf_ Jp] (λd=>Zpp N d.1),WR⟩
def Zacd:Gd:=GN Zacc func172
def Znh:Fn:=⟨f110,λ |7=>cn_ [2,3,4,6,7,8,38]|8=>cn_ [2,3,4,6,7,8]|9=>cn_ [2,3,4,6,7,8,58]|10=>cn_ [6,7]|100007=>cn_ [2,3,4,6,7,8]|_=>[],λN=>Sig.of [vt_ Jh,vt_ (TY_Root),vf_ Ja] [vt_ Jh,vt_ (TY_Root)] (λd=>Zjt N d.1 d.2.1 d.2.2.1),CX [Zacd]⟩
def Z08(k4:Int)(i5:Int)(b6:Int)(b7:Int)(b8:Int)(b9:Int)(aP:Y_Root)(cH:List Kb)(cA:List Int)(dj:List Kb)(fB:List Y_Root)(fo:List Kn):St:=⟨[(2,vI k4),(3,vP 0 0),(4,vP 1 0),(6,vP 2 0),(7,vP 3 0),(8,vI i5)],[(0,.box [.val Ja b6,.val Ja b7,.val Ja b8,.own 4,.own 5,.val Ja b9,.own 6,.own 7,.own 8]),(1,.box (split (TY_Root) aP)),(2,.box [.val Ja (0:Int),.val Ja (0:Int),.val Ja (0:Int),.nils,.nils,.val Ja (0:Int),.nils,.nils,.nils]),(3,.box [.val Ja (0:Int),.val Ja (0:Int),.val Ja (0:Int),.val Ja (0:Int),.val Ja (0:Int),.val Ja (0:Int),.val Ja (0:Int),.val Ja (0:Int),.val Ja (0:Int),.val Ja (0:Int),.val Ja (0:Int),.val Jp false,.nils,.nils,.nils,.nils,.nils,.nils,.val Jp false,.val Ja (0:Int),.val Ja (0:Int),.val Ja (0:Int),.val Ja (0:Int),.val Ja (0:Int),.val Ja (0:Int),.val Ja (0:Int),.val Ja (0:Int),.val Ja (0:Int),.nils,.nils,.val Ja (0:Int),.val Ja (0:Int),.val Ja (0:Int),.val Jp false,.nils,.nils,.nils,.nils,.nils,.nils]),(4,.arr Jb cH),(5,.arr Ja cA),(6,.arr Jb dj),(7,.arr (TY_Root) fB),(8,.arr Jv fo)],9⟩
def Zxy(k4:Int)(b6:Int)(b7:Int)(b8:Int)(b9:Int)(aP:Y_Root)(cH:List Kb)(cA:List Int)(dj:List Kb)(fB:List Y_Root)(fo:List Kn):St:=⟨[(6,vP 0 0),(7,vP 1 0)],[(0,.box [.val Ja b6,.val Ja b7,.val Ja b8,.own 2,.own 3,.val Ja b9,.own 4,.own 5,.own 6]),(1,.box (split (TY_Root) aP)),(2,.arr Jb cH),(3,.arr Ja cA),(4,.arr Jb dj),(5,.arr (TY_Root) fB),(6,.arr Jv fo)],7⟩
def Zxz(k4:Int)(b6:Int)(b7:Int)(b8:Int)(b9:Int)(aP:Y_Root)(cH:List Kb)(cA:List Int)(dj:List Kb)(fB:List Y_Root)(fo:List Kn)(vi:Int)(oJ:Bool):St:=⟨[(2,vI k4),(3,vP 0 0),(4,vP 1 0),(6,vP 2 0),(7,vP 3 0),(8,vI vi),(38,vB oJ)],[(0,.box [.val Ja b6,.val Ja b7,.val Ja b8,.own 4,.own 5,.val Ja b9,.own 6,.own 7,.own 8]),(1,.box (split (TY_Root) aP)),(2,.box [.val Ja (0:Int),.val Ja (0:Int),.val Ja (0:Int),.nils,.nils,.val Ja (0:Int),.nils,.nils,.nils]),(3,.box [.val Ja (0:Int),.val Ja (0:Int),.val Ja (0:Int),.val Ja (0:Int),.val Ja (0:Int),.val Ja (0:Int),.val Ja (0:Int),.val Ja (0:Int),.val Ja (0:Int),.val Ja (0:Int),.val Ja (0:Int),.val Jp false,.nils,.nils,.nils,.nils,.nils,.nils,.val Jp false,.val Ja (0:Int),.val Ja (0:Int),.val Ja (0:Int),.val Ja (0:Int),.val Ja (0:Int),.val Ja (0:Int),.val Ja (0:Int),.val Ja (0:Int),.val Ja (0:Int),.nils,.nils,.val Ja (0:Int),.val Ja (0:Int),.val Ja (0:Int),.val Jp false,.nils,.nils,.nils,.nils,.nils,.nils]),(4,.arr Jb cH),(5,.arr Ja cA),(6,.arr Jb dj),(7,.arr (TY_Root) fB),(8,.arr Jv fo)],9⟩
theorem Z09{k4:Int}{b6:Int}{b7:Int}{b8:Int}{b9:Int}{aP:Y_Root}{cH:List Kb}{cA:List Int}{dj:List Kb}{fB:List Y_Root}{fo:List Kn}{K0:Option R}{K1:Int->Bool->Option R}(h0:K0=K .ret (Zxy k4 b6 b7 b8 b9 aP cH cA dj fB fo))(h1:K1= λvi oJ=>K (.exit 0) (Zxz k4 b6 b7 b8 b9 aP cH cA dj fB fo vi oJ))(n:Nat)(i5:Int):Zaa N k4 b6 b7 b8 b9 aP cH cA dj fB fo K0 K1 n i5=LM Znh N 0 100007 n (Z08 k4 i5 b6 b7 b8 b9 aP cH cA dj fB fo) K:=by
  subst h0 h1
  induction n generalizing i5 with
  |zero=>kernel_rfl
  |succ n ih=>rw[Zaa];simp only[ih];kernel_rfl
theorem Zace(w1:Y_World)(x2:Y_Root)(k3:Int):DN Znh N (w1,x2,k3,())=Zjt N w1 x2 k3:=by
  conv=>rhs;rw[Zjt];simp(disch:=exact id (by kernel_rfl)) only[Z09 (R:=Unit×(Y_World×(Y_Root×Unit))) N (CF Znh N [1,1,1,0,1,0])]
  kernel_rfl
def Zacf:Gd:=GF Znh func110 (λN d=>Zace N d.1 d.2.1 d.2.2.1)
def Zni:Fn:=⟨f256,λ |2=>cn_ [0,3,8]|3=>cn_ [0,3]|4=>cn_ [0,3,4]|5=>cn_ [0,3,4,30]|6=>cn_ [2]|7=>cn_ [0,3,79]|8=>cn_ [2]|100002=>cn_ [0,3]|_=>[],λN=>Sig.of [vf_ Jn] [vf_ Jp] (λd=>Zga N d.1),CX [Z4]⟩
def Z1a(l2:List Kb)(i3:Int):St:=⟨[(0,vV Jn l2),(3,vI i3)],[],0⟩
def Zx0(l2:List Kb):St:=⟨[(2,vB false)],[],0⟩
def Zx1(l2:List Kb)(i7:Int)(t8:Bool):St:=⟨[(0,vV Jn l2),(3,vI i7),(8,vB t8)],[],0⟩
theorem Z1b{l2:List Kb}{K0:Option R}{K1:Int->Bool->Option R}(h0:K0=K .ret (Zx0 l2))(h1:K1= λi7 t8=>K (.exit 0) (Zx1 l2 i7 t8))(n:Nat)(i3:Int):Zbc N l2 K0 K1 n i3=LM Zni N 0 100002 n (Z1a l2 i3) K:=by
  subst h0 h1
  induction n generalizing i3 with
  |zero=>kernel_rfl
  |succ n ih=>rw[Zbc];simp only[ih];kernel_rfl
theorem Zacg(l1:List Kb):DN Zni N (l1,())=Zga N l1:=by
  conv=>rhs;rw[Zga];simp(disch:=exact id (by kernel_rfl)) only[Z1b (R:=Unit×Ko) N (CF Zni N [1,0,1,0])]
  kernel_rfl
def Znj:Gd:=GF Zni func256 (λN d=>Zacg N d.1)
def Zo0:Fn:=⟨f296,λ |4=>cn_ [0,1,2,7,14]|5=>cn_ [0,1,2,7]|6=>cn_ [0,1,2,7,32]|7=>cn_ [6]|100004=>cn_ [0,1,2,7]|_=>[],λN=>Sig.of [vf_ Jn,vf_ Ja,vf_ Ja] [vf_ Ja] (λd=>Zi5 N d.1 d.2.1 d.2.2.1),CX [Znj]⟩
def Z4m(l5:List Kb)(eP:Int)(cW:Int)(i8:Int):St:=⟨[(0,vV Jn l5),(1,vI eP),(2,vI cW),(7,vI i8)],[],0⟩
def Z1c(l5:List Kb)(eP:Int)(cW:Int)(t9:Int):St:=⟨[(6,vI t9)],[],0⟩
def Z1d(l5:List Kb)(eP:Int)(cW:Int)(aV:Int)(aq:Bool):St:=⟨[(0,vV Jn l5),(1,vI eP),(2,vI cW),(7,vI aV),(14,vB aq)],[],0⟩
theorem Z4n{l5:List Kb}{eP:Int}{cW:Int}{K0:Int->Option R}{K1:Int->Bool->Option R}(h0:K0= λt9=>K .ret (Z1c l5 eP cW t9))(h1:K1= λaV aq=>K (.exit 0) (Z1d l5 eP cW aV aq))(n:Nat)(i8:Int):Zco N l5 eP cW K0 K1 n i8=LM Zo0 N 0 100004 n (Z4m l5 eP cW i8) K:=by
  subst h0 h1
  induction n generalizing i8 with
  |zero=>kernel_rfl
  |succ n ih=>rw[Zco];simp only[ih];kernel_rfl
theorem Zafx(l1:List Kb)(aK:Int)(aL:Int):DN Zo0 N (l1,aK,aL,())=Zi5 N l1 aK aL:=by
  conv=>rhs;rw[Zi5];simp(disch:=exact id (by kernel_rfl)) only[Z4n (R:=Unit×Kh) N (CF Zo0 N [1,1,0,1,0])]
  kernel_rfl
def Zvh:Gd:=GF Zo0 func296 (λN d=>Zafx N d.1 d.2.1 d.2.2.1)
def Znk:Fn:=⟨f233,λ |3=>cn_ [0,1,5,6,9]|4=>cn_ [0,1,5,6]|5=>cn_ [0,1,5,6,16]|6=>cn_ [0,1,5,6]|100003=>cn_ [0,1,5,6]|_=>[],λN=>Sig.of [vf_ Jn,vf_ Ja] [vf_ Jah] (λd=>Zh1 N d.1 d.2.1),CX [Zvh]⟩
def Z1e(l3:List Kb)(cD:Int)(w5:Int)(l6:List Int):St:=⟨[(0,vV Jn l3),(1,vI cD),(5,vO 0),(6,vI w5)],[(0,.arr Ja l6)],1⟩
def Zx2(l3:List Kb)(cD:Int)(w8:Int)(t9:Bool)(cn:List Int):St:=⟨[(0,vV Jn l3),(1,vI cD),(5,vO 0),(6,vI w8),(9,vB t9)],[(0,.arr Ja cn)],1⟩
theorem Z1f{l3:List Kb}{cD:Int}{K0:Int->Bool->Kj->Option R}(h0:K0= λw8 t9 cn=>K (.exit 0) (Zx2 l3 cD w8 t9 cn))(n:Nat)(w5:Int)(l6:List Int):Zb6 N l3 cD K0 n w5 l6=LM Znk N 0 100003 n (Z1e l3 cD w5 l6) K:=by
  subst h0
  induction n generalizing w5 l6 with
  |zero=>kernel_rfl
  |succ n ih=>rw[Zb6];simp only[ih];kernel_rfl
theorem Zach(l1:List Kb)(aK:Int):DN Znk N (l1,aK,())=Zh1 N l1 aK:=by
  conv=>rhs;rw[Zh1];simp(disch:=exact id (by kernel_rfl)) only[Z1f (R:=Unit×Kad) N (CF Znk N [1,1,0,1,0])]
  kernel_rfl
def Zaci:Gd:=GF Znk func233 (λN d=>Zach N d.1 d.2.1)
def Zafy:Fn:=⟨f187,Wu,λN=>Sig.of [vt_ Jh,vt_ (TY_Root),vf_ Ja] [vt_ Jh,vt_ Jy] (λd=>Zi6 N d.1 d.2.1 d.2.2.1),WR⟩
def Zvi:Gd:=GN Zafy func187
def Zo1:Fn:=⟨f297,λ |4=>cn_ [0,3,10]|5=>cn_ [0,3]|6=>cn_ [0,3,28]|7=>cn_ [2]|100004=>cn_ [0,3]|_=>[],λN=>Sig.of [vf_ Jd] [vf_ Jp] (λd=>Ze8 N d.1),CX [Ziw,Zb0]⟩
def Z4o(l2:List Kc)(i3:Int):St:=⟨[(0,vV Jd l2),(3,vI i3)],[],0⟩
def Z1g(l2:List Kc):St:=⟨[(2,vB false)],[],0⟩
def Z1h(l2:List Kc)(i6:Int)(t7:Bool):St:=⟨[(0,vV Jd l2),(3,vI i6),(10,vB t7)],[],0⟩
theorem Z4p{l2:List Kc}{K0:Option R}{K1:Int->Bool->Option R}(h0:K0=K .ret (Z1g l2))(h1:K1= λi6 t7=>K (.exit 0) (Z1h l2 i6 t7))(n:Nat)(i3:Int):Zeb N l2 K0 K1 n i3=LM Zo1 N 0 100004 n (Z4o l2 i3) K:=by
  subst h0 h1
  induction n generalizing i3 with
  |zero=>kernel_rfl
  |succ n ih=>rw[Zeb];simp only[ih];kernel_rfl
theorem Zafz(l1:List Kc):DN Zo1 N (l1,())=Ze8 N l1:=by
  conv=>rhs;rw[Ze8];simp(disch:=exact id (by kernel_rfl)) only[Z4p (R:=Unit×Ko) N (CF Zo1 N [1,1,0,1,0])]
  kernel_rfl
def Zrp:Gd:=GF Zo1 func297 (λN d=>Zafz N d.1)
def Zqv:Fn:=⟨f235,λ |4=>cn_ [0,1,6,14]|5=>cn_ [0,1,6]|6=>cn_ [0,1,6,23]|7=>cn_ [4,5]|100004=>cn_ [0,1,6]|_=>[],λN=>Sig.of [vf_ Jd,vf_ Ja] [vf_ Ja,vf_ Jp] (λd=>Zjf N d.1 d.2.1),CX [Zrp]⟩
def Zaac(l4:List Kc)(bj:Int)(i6:Int):St:=⟨[(0,vV Jd l4),(1,vI bj),(6,vI i6)],[],0⟩
def Z65(l4:List Kc)(bj:Int)(t7:Int):St:=⟨[(4,vI t7),(5,vB true)],[],0⟩
def Z66(l4:List Kc)(bj:Int)(i8:Int)(t9:Bool):St:=⟨[(0,vV Jd l4),(1,vI bj),(6,vI i8),(14,vB t9)],[],0⟩
theorem Zaad{l4:List Kc}{bj:Int}{K0:Int->Option R}{K1:Int->Bool->Option R}(h0:K0= λt7=>K .ret (Z65 l4 bj t7))(h1:K1= λi8 t9=>K (.exit 0) (Z66 l4 bj i8 t9))(n:Nat)(i6:Int):Zim N l4 bj K0 K1 n i6=LM Zqv N 0 100004 n (Zaac l4 bj i6) K:=by
  subst h0 h1
  induction n generalizing i6 with
  |zero=>kernel_rfl
  |succ n ih=>rw[Zim];simp only[ih];kernel_rfl
theorem Zaix(l1:List Kc)(ck:Int):DN Zqv N (l1,ck,())=Zjf N l1 ck:=by
  conv=>rhs;rw[Zjf];simp(disch:=exact id (by kernel_rfl)) only[Zaad (R:=Unit×Kk) N (CF Zqv N [1,1,0,1,0])]
  kernel_rfl
def Zso:Gd:=GF Zqv func235 (λN d=>Zaix N d.1 d.2.1)
def Zrq:Fn:=⟨f189,λ |3=>cn_ [0,3,4,9]|4=>cn_ [0,3,4]|5=>cn_ [0,3,4,5,6]|6=>cn_ [0,3,4,5,18]|7=>cn_ [0,3,4]|100003=>cn_ [0,3,4]|_=>[],λN=>Sig.of [vf_ Jd] [vf_ Jc] (λd=>Zid N d.1),CX [Zso]⟩
def Zacj(l2:List Kc)(i3:Int)(l4:List Kc):St:=⟨[(0,vV Jd l2),(3,vO 0),(4,vI i3)],[(0,.arr Ju l4)],1⟩
def Zaae(l2:List Kc)(i6:Int)(t7:Bool)(l8:List Kc):St:=⟨[(0,vV Jd l2),(3,vO 0),(4,vI i6),(9,vB t7)],[(0,.arr Ju l8)],1⟩
theorem Zack{l2:List Kc}{K0:Int->Bool->Kv->Option R}(h0:K0= λi6 t7 l8=>K (.exit 0) (Zaae l2 i6 t7 l8))(n:Nat)(i3:Int)(l4:List Kc):Zhr N l2 K0 n i3 l4=LM Zrq N 0 100003 n (Zacj l2 i3 l4) K:=by
  subst h0
  induction n generalizing i3 l4 with
  |zero=>kernel_rfl
  |succ n ih=>rw[Zhr];simp only[ih];kernel_rfl
theorem Zajl(l1:List Kc):DN Zrq N (l1,())=Zid N l1:=by
  conv=>rhs;rw[Zid];simp(disch:=exact id (by kernel_rfl)) only[Zack (R:=Unit×Kae) N (CF Zrq N [1,1,0,1,0])]
  kernel_rfl
def Zrr:Gd:=GF Zrq func189 (λN d=>Zajl N d.1)
def Znl:Fn:=⟨f298,λ |4=>cn_ [3,4,5,12]|5=>cn_ [3,4,5]|6=>cn_ [3,4,5]|100004=>cn_ [3,4,5]|_=>[],λN=>Sig.of [vf_ Jd] [vf_ Jah] (λd=>Zju N d.1),CX [Zrr]⟩
def Z1i(i3:Int)(l4:List Int)(l5:List Kc):St:=⟨[(3,vO 0),(4,vO 1),(5,vI i3)],[(0,.arr Ja l4),(1,.arr Ju l5)],2⟩
def Zx3(l5:List Kc)(i6:Int)(t7:Bool)(l8:List Int):St:=⟨[(3,vO 0),(4,vO 1),(5,vI i6),(12,vB t7)],[(0,.arr Ja l8),(1,.arr Ju l5)],2⟩
theorem Z1j{l5:List Kc}{K0:Int->Bool->Kj->Option R}(h0:K0= λi6 t7 l8=>K (.exit 0) (Zx3 l5 i6 t7 l8))(n:Nat)(i3:Int)(l4:List Int):Zdf N l5 K0 n i3 l4=LM Znl N 0 100004 n (Z1i i3 l4 l5) K:=by
  subst h0
  induction n generalizing i3 l4 with
  |zero=>kernel_rfl
  |succ n ih=>rw[Zdf];simp only[ih];kernel_rfl
theorem Zacl(l1:List Kc):DN Znl N (l1,())=Zju N l1:=by
  conv=>rhs;rw[Zju];simp(disch:=exact id (by kernel_rfl)) only[Z1j (R:=Unit×Kad) N (CF Znl N [1,1,1,0,1,0])]
  kernel_rfl
def Zacm:Gd:=GF Znl func298 (λN d=>Zacl N d.1)
def Z67:Fn:=⟨f234,Wu,λN=>Sig.of [vf_ Ja,vf_ Ja,vf_ Jd,vf_ Jd] [vt_ Jr,vf_ Jp] (λd=>Zfw N d.1 d.2.1 d.2.2.1 d.2.2.2.1),CX [Z4,Zrp,Zrr,Zacm]⟩
def Z68:Gd:=GF Z67 func234
def Zaaf:Fn:=⟨f173,Wu,λN=>Sig.of [vt_ Jh,vt_ (TY_Root),vf_ Ja,vf_ Ja] [vt_ Jh,vt_ (TY_Root)] (λd=>Zll N d.1 d.2.1 d.2.2.1 d.2.2.2.1),CX [Zaci,Zvi,Z68]⟩
def Zaag:Gd:=GF Zaaf func173
def Zpy:Fn:=⟨f246,λ |4=>cn_ [1,3,19]|5=>cn_ [1,3]|6=>cn_ [1,3,4]|7=>cn_ [1,3,44]|8=>cn_ [2]|100004=>cn_ [1,3]|_=>[],λN=>Sig.of [vt_ Jaf] [vf_ Jp] (λd=>Ze2 N d.1),CX [Z4,Zb0]⟩
def Z69(i3:Int)(b4:Int×List Kb):St:=⟨[(1,vP 0 0),(3,vI i3)],[(0,.box [.val Ja b4.1,.val Jn b4.2])],1⟩
def Z4q(b4:Int×List Kb):St:=⟨[(2,vB false)],[],0⟩
def Z4r(b4:Int×List Kb)(i8:Int)(t9:Bool):St:=⟨[(1,vP 0 0),(3,vI i8),(19,vB t9)],[(0,.box [.val Ja b4.1,.val Jn b4.2])],1⟩
theorem Z7a{b4:Int×List Kb}{K0:Option R}{K1:Int->Bool->Option R}(h0:K0=K .ret (Z4q b4))(h1:K1= λi8 t9=>K (.exit 0) (Z4r b4 i8 t9))(n:Nat)(i3:Int):Zc4 N b4 K0 K1 n i3=LM Zpy N 0 100004 n (Z69 i3 b4) K:=by
  subst h0 h1
  induction n generalizing i3 with
  |zero=>kernel_rfl
  |succ n ih=>rw[Zc4];simp only[ih];kernel_rfl
theorem Zahy(m1:Int×List Kb):DN Zpy N (m1,())=Ze2 N m1:=by
  conv=>rhs;rw[Ze2];simp(disch:=exact id (by kernel_rfl)) only[Z7a (R:=Unit×Ko) N (CF Zpy N [1,1,0,1,0])]
  kernel_rfl
def Zm2:Gd:=GF Zpy func246 (λN d=>Zahy N d.1)
def Zacn:Fn:=⟨f299,Wu,λN=>Sig.of [vt_ Jq] [vf_ Jp] (λd=>Zpi N d.1),CX [Ziw,Z4,Zb0]⟩
def Zaco:Gd:=GF Zacn func299
def Z7b:Fn:=⟨f236,Wu,λN=>Sig.of [vt_ Jaf,vf_ Ja,vt_ Jq] [vt_ Jq] (λd=>Zfl N d.1 d.2.1 d.2.2.1),CX [Zm2,Zaco]⟩
def Zsg:Gd:=GF Z7b func236
def Z1k:Fn:=⟨f237,Wu,λN=>Sig.of [vt_ (TY_Root)] [vt_ (TY_Root)] (λd=>Zgc N d.1),CX [Zkm]⟩
def Zrs:Gd:=GF Z1k func237
def Zacp:Fn:=⟨f175,Wu,λN=>Sig.of [vf_ Ji] [vf_ Jah] (λd=>Zk N d.1),WR⟩
def Zbi:Gd:=GN Zacp func175
def Zrt:Fn:=⟨f174,Wu,λN=>Sig.of [.kv Jh true,vt_ (TY_Root),vt_ Jq] [vt_ (TY_Root)] (λd=>Zd3 N d.1 d.2.1 d.2.2.1),CX [Zso,Zsg,Zrs,Zbi]⟩
def Zru:Gd:=GF Zrt func174
def Zacq:Fn:=⟨f252,Wu,λN=>Sig.of [vt_ Jag] [vt_ Jaq] (λd=>Zmx N d.1),CX [Znd]⟩
def Zti:Gd:=GF Zacq func252
def Zacr:Fn:=⟨f253,Wu,λN=>Sig.of [vt_ Jag] [vf_ Jp] (λd=>Zmw N d.1),CX [Znf,Zb0]⟩
def Ztj:Gd:=GF Zacr func253
def Zaf0:Fn:=⟨f254,Wu,λN=>Sig.of [vt_ Jb] [vf_ Jp] (λd=>Zqn N d.1),CX [Zlo,Zb0]⟩
def Zaf1:Gd:=GF Zaf0 func254
def Zaah:Fn:=⟨f255,Wu,λN=>Sig.of [vf_ Ji,vf_ Ja] [vf_ Jah,vf_ Ja,vf_ Jp] (λd=>Zlm N d.1 d.2.1),CX [Znd,Znf,Zlo,Zr9,Zkl]⟩
def Zsx:Gd:=GF Zaah func255
def Zacs:Fn:=⟨f185,Wu,λN=>Sig.of [vt_ Jag,vt_ Jb] [vt_ Jaq,vf_ Jp] (λd=>Zpq N d.1 d.2.1),CX [Zti,Ztj,Zaf1,Zq8,Zsx]⟩
def Zact:Gd:=GF Zacs func185
def Z1l:Fn:=⟨f116,Wu,λN=>Sig.of [.v (.prod Ja (.prod Ja (.prod Jz (.prod Jag (.prod Jak (.prod (.own (TY_Root)) (.own Jv))))))) true,vt_ (TY_Root)] [vt_ Jh,vt_ Jy] (λd=>Zgd N d.1 d.2.1),CX [Zact]⟩
def Znm:Gd:=GF Z1l func116
def Zpz:Fn:=⟨f176,λ |5=>cn_ [0,5,6,27]|6=>cn_ [0,5,6]|7=>cn_ [0,5,6,35]|8=>cn_ [0,5,6]|9=>cn_ [0,5,6,43]|10=>cn_ [0,5,6]|11=>cn_ [0,5,6,47]|12=>cn_ [4]|100005=>cn_ [0,5,6]|_=>[],λN=>Sig.of [vf_ Jg,vf_ Ja] [vf_ Ja] (λd=>Zj9 N d.1 d.2.1),WR⟩
def Z7c(ae:List Ka)(d4:Int)(k5:Int):St:=⟨[(0,vV Jg ae),(5,vI d4),(6,vI k5)],[],0⟩
def Z4s(ae:List Ka)(t6:Int):St:=⟨[(4,vI t6)],[],0⟩
def Z4t(ae:List Ka)(d7:Int)(k8:Int)(t9:Bool):St:=⟨[(0,vV Jg ae),(5,vI d7),(6,vI k8),(27,vB t9)],[],0⟩
theorem Z7d{ae:List Ka}{K0:Int->Option R}{K1:Int->Int->Bool->Option R}(h0:K0= λt6=>K .ret (Z4s ae t6))(h1:K1= λd7 k8 t9=>K (.exit 0) (Z4t ae d7 k8 t9))(n:Nat)(d4:Int)(k5:Int):Zav N ae K0 K1 n d4 k5=LM Zpz N 0 100005 n (Z7c ae d4 k5) K:=by
  subst h0 h1
  induction n generalizing d4 k5 with
  |zero=>kernel_rfl
  |succ n ih=>rw[Zav];simp only[ih];kernel_rfl
theorem Zahz(ai:List Ka)(i2:Int):DN Zpz N (ai,i2,())=Zj9 N ai i2:=by
  conv=>rhs;rw[Zj9];simp(disch:=exact id (by kernel_rfl)) only[Z7d (R:=Unit×Kh) N (CF Zpz N [1,1,1,0,1,0])]
  kernel_rfl
def Zx4:Gd:=GN Zpz func176 (λN d=>Zahz N d.1 d.2.1)
def Zix:Fn:=⟨f177,λ |4=>cn_ [1,3,8,9,10,11,24]|5=>cn_ [1,3,8,9,10,11]|6=>cn_ [1,3,8,9,10,11]|8=>cn_ [1,3,8,9,12,45]|9=>cn_ [1,3,8,9,12]|10=>cn_ [1,3,8,9,12]|100004=>[.adoptC 9 6 Jb,.canon [1,3,8,9,10,11]]|100008=>[.adoptC 9 9 (TY_KidRun),.canon [1,3,8,9,12]]|_=>[],λN=>Sig.of [vf_ Ja,vf_ Ji,vf_ Jd,vf_ Ja] [vt_ Jar] (λd=>Zk2 N d.1 d.2.1 d.2.2.1 d.2.2.2.1),CX [Zbi,Zrr]⟩
def Z4u(eb:List Int)(ee:Int)(aV:Int)(ce:Int)(ba:List Kc)(dK:List Int)(dW:List Kc)(cU:List Kb):St:=⟨[(1,vV Ji eb),(3,vI ee),(8,vP 0 0),(9,vP 1 0),(10,vO 2),(11,vI aV)],[(0,.box [.val Ja (0:Int),.val Ja (0:Int),.val Ja (0:Int),.val Jp false,.nils,.nils,.nils,.nils,.nils,.nils]),(1,.box [.val Ja ce,.val Ja (0:Int),.val Ja (0:Int),.val Jp false,.own 3,.own 4,.own 5,.nils,.nils,.nils]),(2,.arr Ju ba),(3,.arr Ja dK),(4,.arr Ju dW),(5,.arr Jb cU)],6⟩
def Z1m(eb:List Int)(ee:Int)(ce:Int)(ba:List Kc)(dK:List Int)(dW:List Kc)(vk:Int)(oO:Bool)(iv:List Kb):St:=⟨[(1,vV Ji eb),(3,vI ee),(8,vP 0 0),(9,vP 1 0),(10,vO 2),(11,vI vk),(24,vB oO)],[(0,.box [.val Ja (0:Int),.val Ja (0:Int),.val Ja (0:Int),.val Jp false,.nils,.nils,.nils,.nils,.nils,.nils]),(1,.box [.val Ja ce,.val Ja (0:Int),.val Ja (0:Int),.val Jp false,.own 3,.own 4,.own 5,.nils,.nils,.nils]),(2,.arr Ju ba),(3,.arr Ja dK),(4,.arr Ju dW),(5,.arr Jb iv)],6⟩
theorem Z4v{eb:List Int}{ee:Int}{ce:Int}{ba:List Kc}{dK:List Int}{dW:List Kc}{K0:Int->Bool->Kq->Option R}(h0:K0= λvk oO iv=>K (.exit 0) (Z1m eb ee ce ba dK dW vk oO iv))(n:Nat)(aV:Int)(cU:List Kb):Zed N eb ee ce ba dK dW K0 n aV cU=LM Zix N 0 100004 n (Z4u eb ee aV ce ba dK dW cU) K:=by
  subst h0
  induction n generalizing aV cU with
  |zero=>kernel_rfl
  |succ n ih=>rw[Zed];simp only[ih];kernel_rfl
def Z4w(cP:List Int)(cz:Int)(mA:Int)(kX:Int)(gd:List Int)(cH:List Kc)(cA:List Kb)(dj:List Y_KidRun):St:=⟨[(1,vV Ji cP),(3,vI cz),(8,vP 0 0),(9,vP 1 0),(12,vI mA)],[(0,.box [.val Ja (0:Int),.val Ja (0:Int),.val Ja (0:Int),.val Jp false,.nils,.nils,.nils,.nils,.nils,.nils]),(1,.box [.val Ja kX,.val Ja (0:Int),.val Ja (0:Int),.val Jp false,.own 2,.own 3,.own 4,.nils,.nils,.own 5]),(2,.arr Ja gd),(3,.arr Ju cH),(4,.arr Jb cA),(5,.arr (TY_KidRun) dj)],6⟩
def Z1n(cP:List Int)(cz:Int)(kX:Int)(gd:List Int)(cH:List Kc)(cA:List Kb)(vm:Int)(vn:Bool)(km:List Y_KidRun):St:=⟨[(1,vV Ji cP),(3,vI cz),(8,vP 0 0),(9,vP 1 0),(12,vI vm),(45,vB vn)],[(0,.box [.val Ja (0:Int),.val Ja (0:Int),.val Ja (0:Int),.val Jp false,.nils,.nils,.nils,.nils,.nils,.nils]),(1,.box [.val Ja kX,.val Ja (0:Int),.val Ja (0:Int),.val Jp false,.own 2,.own 3,.own 4,.nils,.nils,.own 5]),(2,.arr Ja gd),(3,.arr Ju cH),(4,.arr Jb cA),(5,.arr (TY_KidRun) km)],6⟩
theorem Z4x{cP:List Int}{cz:Int}{kX:Int}{gd:List Int}{cH:List Kc}{cA:List Kb}{K0:Int->Bool->(List Y_KidRun)->Option R}(h0:K0= λvm vn km=>K (.exit 2) (Z1n cP cz kX gd cH cA vm vn km))(n:Nat)(mA:Int)(dj:List Y_KidRun):Zbo N cP cz kX gd cH cA K0 n mA dj=LM Zix N 1 100008 n (Z4w cP cz mA kX gd cH cA dj) K:=by
  subst h0
  induction n generalizing mA dj with
  |zero=>kernel_rfl
  |succ n ih=>rw[Zbo];simp only[ih];kernel_rfl
theorem Zaf2(jR:Int)(ao:List Int)(cg:List Kc)(dw:Int):DN Zix N (jR,ao,cg,dw,())=Zk2 N jR ao cg dw:=by
  conv=>rhs;rw[Zk2];simp(disch:=exact id (by kernel_rfl)) only[Z4v (R:=Unit×(Y_Family×Unit)) N (CF Zix N [1,1,1,0,1,0]),Z4x (R:=Unit×(Y_Family×Unit)) N (CF Zix N [1,1,1,1,0,1,0])]
  kernel_rfl
def Zaf3:Gd:=GF Zix func177 (λN d=>Zaf2 N d.1 d.2.1 d.2.2.1 d.2.2.2.1)
def Z7e:Fn:=⟨f238,Wu,λN=>Sig.of [vt_ Jq] [vf_ Ja,vf_ Ja] (λd=>Zm6 N d.1),CX [Zq7]⟩
def Z7f:Gd:=GF Z7e func238
def Zo2:Fn:=⟨f300,λ |5=>cn_ [0,1,2,3,9,10,24]|6=>cn_ [0,1,2,3,9,10]|7=>cn_ [0,1,2,3,9,10,54]|8=>cn_ [0,1,2,3,9,10]|100005=>cn_ [0,1,2,3,9,10]|_=>[],λN=>Sig.of [vf_ Jn,vf_ Ja,vf_ Ja,vf_ Ja] [vf_ Jah] (λd=>Zla N d.1 d.2.1 d.2.2.1 d.2.2.2.1),CX [Znj,Z4]⟩
def Z4y(l7:List Kb)(eE:Int)(cN:Int)(bO:Int)(bp:Int)(bJ:List Int):St:=⟨[(0,vV Jn l7),(1,vI eE),(2,vI cN),(3,vI bO),(9,vO 0),(10,vI bp)],[(0,.arr Ja bJ)],1⟩
def Z1o(l7:List Kb)(eE:Int)(cN:Int)(bO:Int)(ir:Int)(dL:Bool)(aQ:List Int):St:=⟨[(0,vV Jn l7),(1,vI eE),(2,vI cN),(3,vI bO),(9,vO 0),(10,vI ir),(24,vB dL)],[(0,.arr Ja aQ)],1⟩
theorem Z4z{l7:List Kb}{eE:Int}{cN:Int}{bO:Int}{K0:Int->Bool->Kj->Option R}(h0:K0= λir dL aQ=>K (.exit 0) (Z1o l7 eE cN bO ir dL aQ))(n:Nat)(bp:Int)(bJ:List Int):Zaq N l7 eE cN bO K0 n bp bJ=LM Zo2 N 0 100005 n (Z4y l7 eE cN bO bp bJ) K:=by
  subst h0
  induction n generalizing bp bJ with
  |zero=>kernel_rfl
  |succ n ih=>rw[Zaq];simp only[ih];kernel_rfl
theorem Zaf4(l1:List Kb)(aK:Int)(aL:Int)(aY:Int):DN Zo2 N (l1,aK,aL,aY,())=Zla N l1 aK aL aY:=by
  conv=>rhs;rw[Zla];simp(disch:=exact id (by kernel_rfl)) only[Z4z (R:=Unit×Kad) N (CF Zo2 N [1,1,1,0,1,0])]
  kernel_rfl
def Zaf5:Gd:=GF Zo2 func300 (λN d=>Zaf4 N d.1 d.2.1 d.2.2.1 d.2.2.2.1)
def Znn:Fn:=⟨f239,λ |7=>cn_ [0,1,2,10,11,12,13,58]|8=>cn_ [0,1,2,10,11,12,13]|9=>cn_ [0,1,2,10,11,12,13,14]|10=>cn_ [0,1,2,10,11,12,13,14,84]|11=>cn_ [0,1,2,10,11,13,14]|12=>cn_ [0,1,2,10,11,12,13,14]|13=>cn_ [0,1,2,10,11,12,13,14,98]|14=>cn_ [0,1,2,10,11,12,13]|100007=>cn_ [0,1,2,10,11,12,13]|_=>[],λN=>Sig.of [vf_ Jn,vf_ Ja,vf_ Ja,vf_ Ja] [vf_ Jak,vf_ Jp] (λd=>Zjv N d.1 d.2.1 d.2.2.1 d.2.2.2.1),CX [Znj,Z4,Zaf5,Zvh]⟩
def Z1p(aA:List Kb)(aw:Int)(ak:Int)(bs:Bool)(bc:Int)(cp:Int)(ba:List Kb):St:=⟨[(0,vV Jn aA),(1,vI aw),(2,vI ak),(10,vP 0 0),(11,vO 1),(12,vB bs),(13,vI bc)],[(0,.box [.val Ja aw,.val Ja ak,.val Ja cp]),(1,.arr Jb ba)],2⟩
def Zx5(aA:List Kb)(aw:Int)(ak:Int)(cp:Int)(jn:Bool)(jo:Int)(t22:Bool)(fG:List Kb):St:=⟨[(0,vV Jn aA),(1,vI aw),(2,vI ak),(10,vP 0 0),(11,vO 1),(12,vB jn),(13,vI jo),(58,vB t22)],[(0,.box [.val Ja aw,.val Ja ak,.val Ja cp]),(1,.arr Jb fG)],2⟩
theorem Z1q{aA:List Kb}{aw:Int}{ak:Int}{cp:Int}{K0:Bool->Int->Bool->Kq->Option R}(h0:K0= λjn jo t22 fG=>K (.exit 0) (Zx5 aA aw ak cp jn jo t22 fG))(n:Nat)(bs:Bool)(bc:Int)(ba:List Kb):Zl N aA aw ak cp K0 n bs bc ba=LM Znn N 0 100007 n (Z1p aA aw ak bs bc cp ba) K:=by
  subst h0
  induction n generalizing bs bc ba with
  |zero=>kernel_rfl
  |succ n ih=>rw[Zl];simp only[ih];kernel_rfl
theorem Zacu(l1:List Kb)(aK:Int)(aL:Int)(aY:Int):DN Znn N (l1,aK,aL,aY,())=Zjv N l1 aK aL aY:=by
  conv=>rhs;rw[Zjv];simp(disch:=exact id (by kernel_rfl)) only[Z1q (R:=Unit×(Kq×Ko)) N (CF Znn N [1,1,1,1,1,0,1,0])]
  kernel_rfl
def Zacv:Gd:=GF Znn func239 (λN d=>Zacu N d.1 d.2.1 d.2.2.1 d.2.2.2.1)
def Zo3:Fn:=⟨f241,λ |4=>cn_ [0,3,10]|5=>cn_ [0,3]|6=>cn_ [0,3,18]|7=>cn_ [2]|100004=>cn_ [0,3]|_=>[],λN=>Sig.of [vf_ Ji] [vf_ Jp] (λd=>Zcj N d.1),CX [Zb0]⟩
def Z40(l2:List Int)(i3:Int):St:=⟨[(0,vV Ji l2),(3,vI i3)],[],0⟩
def Z1r(l2:List Int):St:=⟨[(2,vB false)],[],0⟩
def Z1s(l2:List Int)(i5:Int)(t6:Bool):St:=⟨[(0,vV Ji l2),(3,vI i5),(10,vB t6)],[],0⟩
theorem Z41{l2:List Int}{K0:Option R}{K1:Int->Bool->Option R}(h0:K0=K .ret (Z1r l2))(h1:K1= λi5 t6=>K (.exit 0) (Z1s l2 i5 t6))(n:Nat)(i3:Int):Zea N l2 K0 K1 n i3=LM Zo3 N 0 100004 n (Z40 l2 i3) K:=by
  subst h0 h1
  induction n generalizing i3 with
  |zero=>kernel_rfl
  |succ n ih=>rw[Zea];simp only[ih];kernel_rfl
theorem Zaf6(l1:List Int):DN Zo3 N (l1,())=Zcj N l1:=by
  conv=>rhs;rw[Zcj];simp(disch:=exact id (by kernel_rfl)) only[Z41 (R:=Unit×Ko) N (CF Zo3 N [1,1,0,1,0])]
  kernel_rfl
def Zrv:Gd:=GF Zo3 func241 (λN d=>Zaf6 N d.1)
def Zacw:Fn:=⟨f301,Wu,λN=>Sig.of [vf_ Ja,vf_ Ja] [vt_ Jb] (λd=>Zmy N d.1 d.2.1),WR⟩
def Zacx:Gd:=GN Zacw func301
def Zacy:Fn:=⟨f302,Wu,λN=>Sig.of [vf_ Ji,vf_ Ja] [vf_ Ja,vf_ Jp] (λd=>Zpo N d.1 d.2.1),CX [Znf,Zlo,Zr9,Zkl]⟩
def Zacz:Gd:=GF Zacy func302
def Zac0:Fn:=⟨f240,Wu,λN=>Sig.of [vt_ Jag,vt_ Jq,vf_ Ji] [vt_ Jaq,vf_ Jah,vt_ Jb,vf_ Jp] (λd=>Zpr N d.1 d.2.1 d.2.2.1),CX [Zti,Znd,Ztj,Zrv,Zq7,Zq8,Zacx,Zsx,Zacz]⟩
def Zac1:Gd:=GF Zac0 func240
def Zaai:Fn:=⟨f178,Wu,λN=>Sig.of [vt_ Jh,vt_ (TY_Root),vf_ Ja,vt_ Jq] [vt_ Jh,vt_ (TY_Root)] (λd=>Zon N d.1 d.2.1 d.2.2.1 d.2.2.2.1),CX [Z7f,Zacv,Zrs,Zac1]⟩
def Zaaj:Gd:=GF Zaai func178
def Zaiy:Fn:=⟨f179,Wu,λN=>Sig.of [vt_ Jq,vf_ Ji] [vf_ Jah,vf_ Jp] (λd=>Zqb N d.1 d.2.1),CX [Zsn,Zrv]⟩
def Z3x:Gd:=GF Zaiy func179
def Zaf7:Fn:=⟨f111,Wu,λN=>Sig.of [vt_ Jh,vt_ (TY_Root),vf_ Ja,vt_ Jaj] [vt_ Jh,vt_ (TY_Root)] (λd=>Zqo N d.1 d.2.1 d.2.2.1 d.2.2.2.1),CX [Zaag,Zru,Zbi,Znm,Zx4,Zaf3,Zaaj,Z3x]⟩
def Zaf8:Gd:=GF Zaf7 func111
def Zno:Fn:=⟨f180,λ |2=>cn_ [1,3,8]|3=>cn_ [1,3]|4=>cn_ [1,3,17]|5=>cn_ [2]|100002=>cn_ [1,3]|_=>[],λN=>Sig.of [vt_ (TY_Family)] [vf_ Jp] (λd=>Zjw N d.1),WR⟩
def Z1t(i2:Int)(b3:Y_Family):St:=⟨[(1,vP 0 0),(3,vI i2)],[(0,.box (split (TY_Family) b3))],1⟩
def Zx6(b3:Y_Family):St:=⟨[(2,vB false)],[],0⟩
def Zx7(b3:Y_Family)(i4:Int)(t5:Bool):St:=⟨[(1,vP 0 0),(3,vI i4),(8,vB t5)],[(0,.box (split (TY_Family) b3))],1⟩
theorem Z1u{b3:Y_Family}{K0:Option R}{K1:Int->Bool->Option R}(h0:K0=K .ret (Zx6 b3))(h1:K1= λi4 t5=>K (.exit 0) (Zx7 b3 i4 t5))(n:Nat)(i2:Int):Zdg N b3 K0 K1 n i2=LM Zno N 0 100002 n (Z1t i2 b3) K:=by
  subst h0 h1
  induction n generalizing i2 with
  |zero=>kernel_rfl
  |succ n ih=>rw[Zdg];simp only[ih];kernel_rfl
theorem Zac2(f1:Y_Family):DN Zno N (f1,())=Zjw N f1:=by
  conv=>rhs;rw[Zjw];simp(disch:=exact id (by kernel_rfl)) only[Z1u (R:=Unit×Ko) N (CF Zno N [1,0,1,0])]
  kernel_rfl
def Zac3:Gd:=GN Zno func180 (λN d=>Zac2 N d.1)
def Znp:Fn:=⟨f181,λ |5=>cn_ [1,3,4,23]|6=>cn_ [1,3,4]|7=>cn_ [1,3,4]|8=>cn_ [1,3,4,44]|9=>cn_ [1,3,4]|100005=>cn_ [1,3,4]|_=>[],λN=>Sig.of [vt_ (TY_Family)] [vf_ Jah] (λd=>Zjx N d.1),CX [Zrv,Zbi]⟩
def Z1v(i4:Int)(b5:Y_Family)(l6:List Int):St:=⟨[(1,vP 0 0),(3,vO 1),(4,vI i4)],[(0,.box (split (TY_Family) b5)),(1,.arr Ja l6)],2⟩
def Zx8(b5:Y_Family)(i9:Int)(ar:Bool)(aA:List Int):St:=⟨[(1,vP 0 0),(3,vO 1),(4,vI i9),(23,vB ar)],[(0,.box (split (TY_Family) b5)),(1,.arr Ja aA)],2⟩
theorem Z1w{b5:Y_Family}{K0:Int->Bool->Kj->Option R}(h0:K0= λi9 ar aA=>K (.exit 0) (Zx8 b5 i9 ar aA))(n:Nat)(i4:Int)(l6:List Int):Zbe N b5 K0 n i4 l6=LM Znp N 0 100005 n (Z1v i4 b5 l6) K:=by
  subst h0
  induction n generalizing i4 l6 with
  |zero=>kernel_rfl
  |succ n ih=>rw[Zbe];simp only[ih];kernel_rfl
theorem Zac4(f1:Y_Family):DN Znp N (f1,())=Zjx N f1:=by
  conv=>rhs;rw[Zjx];simp(disch:=exact id (by kernel_rfl)) only[Z1w (R:=Unit×Kad) N (CF Znp N [1,1,1,0,1,0])]
  kernel_rfl
def Zac5:Gd:=GF Znp func181 (λN d=>Zac4 N d.1)
def Znq:Fn:=⟨f182,λ |3=>cn_ [1,3,4,10]|4=>cn_ [1,3,4]|5=>cn_ [1,3,4]|100003=>cn_ [1,3,4]|_=>[],λN=>Sig.of [vt_ (TY_Family)] [vf_ Jc] (λd=>Zjy N d.1),WR⟩
def Z1x(i2:Int)(b3:Y_Family)(l4:List Kc):St:=⟨[(1,vP 0 0),(3,vO 1),(4,vI i2)],[(0,.box (split (TY_Family) b3)),(1,.arr Ju l4)],2⟩
def Zx9(b3:Y_Family)(i5:Int)(t6:Bool)(l7:List Kc):St:=⟨[(1,vP 0 0),(3,vO 1),(4,vI i5),(10,vB t6)],[(0,.box (split (TY_Family) b3)),(1,.arr Ju l7)],2⟩
theorem Z1y{b3:Y_Family}{K0:Int->Bool->Kv->Option R}(h0:K0= λi5 t6 l7=>K (.exit 0) (Zx9 b3 i5 t6 l7))(n:Nat)(i2:Int)(l4:List Kc):Zdh N b3 K0 n i2 l4=LM Znq N 0 100003 n (Z1x i2 b3 l4) K:=by
  subst h0
  induction n generalizing i2 l4 with
  |zero=>kernel_rfl
  |succ n ih=>rw[Zdh];simp only[ih];kernel_rfl
theorem Zac6(f1:Y_Family):DN Znq N (f1,())=Zjy N f1:=by
  conv=>rhs;rw[Zjy];simp(disch:=exact id (by kernel_rfl)) only[Z1y (R:=Unit×Kae) N (CF Znq N [1,1,0,1,0])]
  kernel_rfl
def Zac7:Gd:=GN Znq func182 (λN d=>Zac6 N d.1)
def Zac8:Fn:=⟨f112,Wu,λN=>Sig.of [vt_ (TY_Root)] [vt_ (TY_Root)] (λd=>Zps N d.1),CX [Zkm,Zac3,Zac5,Zac7,Zbi]⟩
def Zac9:Gd:=GF Zac8 func112
def Z7g:Fn:=⟨f113,Wu,λN=>Sig.of [vt_ Jh,vt_ (TY_Root)] [vt_ Jh,vt_ (TY_Root)] (λd=>Zm7 N d.1 d.2.1),CX [Znm]⟩
def Z7h:Gd:=GF Z7g func113
def Zq9:Fn:=⟨f114,Wu,λN=>Sig.of [.kv Jh true,vt_ (TY_Root)] [vt_ (TY_Root)] (λd=>Zc1 N d.1 d.2.1),CX [Zkm,Zbi]⟩
def Zra:Gd:=GF Zq9 func114
def Zada:Fn:=⟨f242,Wu,λN=>Sig.of [vt_ Jl] [vt_ Jr] (λd=>Zmz N d.1),WR⟩
def Ztk:Gd:=GN Zada func242
def Zlq:Fn:=⟨f303,λ |2=>cn_ [0,3,7]|3=>cn_ [0,3]|4=>cn_ [0,3,31]|5=>cn_ [2]|100002=>cn_ [0,3]|_=>[],λN=>Sig.of [vf_ Ji] [vf_ Jp] (λd=>Zki N d.1),CX [Ziw]⟩
def Zvu(l2:List Int)(i3:Int):St:=⟨[(0,vV Ji l2),(3,vI i3)],[],0⟩
def Zt8(l2:List Int):St:=⟨[(2,vB false)],[],0⟩
def Zt9(l2:List Int)(i5:Int)(t6:Bool):St:=⟨[(0,vV Ji l2),(3,vI i5),(7,vB t6)],[],0⟩
theorem Zvv{l2:List Int}{K0:Option R}{K1:Int->Bool->Option R}(h0:K0=K .ret (Zt8 l2))(h1:K1= λi5 t6=>K (.exit 0) (Zt9 l2 i5 t6))(n:Nat)(i3:Int):Zbf N l2 K0 K1 n i3=LM Zlq N 0 100002 n (Zvu l2 i3) K:=by
  subst h0 h1
  induction n generalizing i3 with
  |zero=>kernel_rfl
  |succ n ih=>rw[Zbf];simp only[ih];kernel_rfl
theorem Z7i(l1:List Int):DN Zlq N (l1,())=Zki N l1:=by
  conv=>rhs;rw[Zki];simp(disch:=exact id (by kernel_rfl)) only[Zvv (R:=Unit×Ko) N (CF Zlq N [1,0,1,0])]
  kernel_rfl
def Z7j:Gd:=GF Zlq func303 (λN d=>Z7i N d.1)
def Zaf9:Fn:=⟨f304,Wu,λN=>Sig.of [vt_ Jl] [vf_ Ja] (λd=>Zqp N d.1),WR⟩
def Zaga:Gd:=GN Zaf9 func304
def Zmh:Fn:=⟨f243,λ |4=>cn_ [1,3,42]|5=>cn_ [1,3]|6=>cn_ [1,3,58]|7=>cn_ [2]|100004=>cn_ [1,3]|_=>[],λN=>Sig.of [vt_ Jl] [vf_ Jp] (λd=>Zgy N d.1),CX [Z4,Zrp,Z7j,Zaga]⟩
def Zya(i8:Int)(b9:Int×Int×Int×Int×Int×List Kc×List Int):St:=⟨[(1,vP 0 0),(3,vI i8)],[(0,.box (split Jl b9))],1⟩
def Zvw(b9:Int×Int×Int×Int×Int×List Kc×List Int):St:=⟨[(2,vB false)],[],0⟩
def Zvx(b9:Int×Int×Int×Int×Int×List Kc×List Int)(aV:Int)(aq:Bool):St:=⟨[(1,vP 0 0),(3,vI aV),(42,vB aq)],[(0,.box (split Jl b9))],1⟩
theorem Zyb{b9:Int×Int×Int×Int×Int×List Kc×List Int}{K0:Option R}{K1:Int->Bool->Option R}(h0:K0=K .ret (Zvw b9))(h1:K1= λaV aq=>K (.exit 0) (Zvx b9 aV aq))(n:Nat)(i8:Int):Ze1 N b9 K0 K1 n i8=LM Zmh N 0 100004 n (Zya i8 b9) K:=by
  subst h0 h1
  induction n generalizing i8 with
  |zero=>kernel_rfl
  |succ n ih=>rw[Ze1];simp only[ih];kernel_rfl
theorem Zaak(c1:Int×Int×Int×Int×Int×List Kc×List Int):DN Zmh N (c1,())=Zgy N c1:=by
  conv=>rhs;rw[Zgy];simp(disch:=exact id (by kernel_rfl)) only[Zyb (R:=Unit×Ko) N (CF Zmh N [1,1,0,1,0])]
  kernel_rfl
def Zsy:Gd:=GF Zmh func243 (λN d=>Zaak N d.1)
def Zadb:Fn:=⟨f244,Wu,λN=>Sig.of [vt_ Jl,vf_ Ja] [vt_ Jl] (λd=>Zar N d.1 d.2.1),WR⟩
def Ztl:Gd:=GN Zadb func244
def Z1z:Fn:=⟨f183,Wu,λN=>Sig.of [vt_ Jl] [vt_ Jl,vf_ Jp] (λd=>Zln N d.1),CX [Ztk,Zsy,Ztl]⟩
def Z10:Gd:=GF Z1z func183
def Zagb:Fn:=⟨f245,Wu,λN=>Sig.of [vt_ Jaf] [vt_ Jz] (λd=>Zds N d.1),WR⟩
def Zlr:Gd:=GN Zagb func245
def Zaiz:Fn:=⟨f247,Wu,λN=>Sig.of [vt_ Jaf,vf_ Ja,vf_ Ja] [vt_ Jz,vf_ Jp] (λd=>Zqe N d.1 d.2.1 d.2.2.1),CX [Zlr,Zm2,Ziw,Z4]⟩
def Zai0:Gd:=GF Zaiz func247
def Zah0:Fn:=⟨f248,Wu,λN=>Sig.of [vt_ Jl,vf_ Ja] [vt_ Jl] (λd=>Zdi N d.1 d.2.1),WR⟩
def Zah1:Gd:=GN Zah0 func248
def Zai1:Fn:=⟨f249,Wu,λN=>Sig.of [vt_ Jaf] [vt_ Jz,vf_ Ja] (λd=>Zsc N d.1),CX [Zlr,Zm2]⟩
def Zai2:Gd:=GF Zai1 func249
def Zagc:Fn:=⟨f305,Wu,λN=>Sig.of [vt_ Jaf,vf_ Ja,vf_ Ja] [vf_ Jp] (λd=>Zoc N d.1 d.2.1 d.2.2.1),CX [Zm2,Ziw,Z4]⟩
def Zvj:Gd:=GF Zagc func305
def Zah2:Fn:=⟨f250,Wu,λN=>Sig.of [vt_ Jaf,vf_ Ja,vf_ Ja,vf_ Ja] [vt_ Jz,vf_ Jp] (λd=>Zpg N d.1 d.2.1 d.2.2.1 d.2.2.2.1),CX [Zlr,Zvj,Zb0]⟩
def Zah3:Gd:=GF Zah2 func250
def Zagd:Fn:=⟨f251,Wu,λN=>Sig.of [vt_ Jaf,vf_ Ja,vf_ Ja,vf_ Ja] [vt_ Jz,vf_ Jp] (λd=>Zi7 N d.1 d.2.1 d.2.2.1 d.2.2.2.1),CX [Zlr,Zvj,Z4]⟩
def Zage:Gd:=GF Zagd func251
def Z42:Fn:=⟨f184,Wu,λN=>Sig.of [vt_ Jaf,vt_ Jl] [vt_ Jz,vt_ Jl] (λd=>Zmd N d.1 d.2.1),CX [Zlr,Ztk,Zm2,Zsy,Zai0,Ztl,Zah1,Zai2,Zah3,Zage]⟩
def Z43:Gd:=GF Z42 func184
def Z7k:Fn:=⟨f115,Wu,λN=>Sig.of [vt_ Jh,vt_ (TY_Root),vf_ Ja] [vt_ Jh,vt_ (TY_Root)] (λd=>Zm8 N d.1 d.2.1 d.2.2.1),CX [Z10,Zkm,Z43]⟩
def Z7l:Gd:=GF Z7k func115
def Zmi:Fn:=⟨f186,λ |4=>cn_ [0,1,5,6,7,14]|5=>cn_ [0,1,5,6,7]|6=>cn_ [0,1,5,6,7,27]|7=>cn_ [0,1,5,6,7]|100004=>cn_ [0,1,5,6,7]|_=>[],λN=>Sig.of [vf_ Jn,vf_ Ja] [vf_ Jak] (λd=>Zit N d.1 d.2.1),CX [Znj]⟩
def Zyc(l4:List Kb)(fq:Int)(de:Bool)(i7:Int)(l8:List Kb):St:=⟨[(0,vV Jn l4),(1,vI fq),(5,vO 0),(6,vB de),(7,vI i7)],[(0,.arr Jb l8)],1⟩
def Zvy(l4:List Kb)(fq:Int)(de:Bool)(i9:Int)(ar:Bool)(aA:List Kb):St:=⟨[(0,vV Jn l4),(1,vI fq),(5,vO 0),(6,vB de),(7,vI i9),(14,vB ar)],[(0,.arr Jb aA)],1⟩
theorem Zyd{l4:List Kb}{fq:Int}{de:Bool}{K0:Int->Bool->Kq->Option R}(h0:K0= λi9 ar aA=>K (.exit 0) (Zvy l4 fq de i9 ar aA))(n:Nat)(i7:Int)(l8:List Kb):Za0 N l4 fq de K0 n i7 l8=LM Zmi N 0 100004 n (Zyc l4 fq de i7 l8) K:=by
  subst h0
  induction n generalizing i7 l8 with
  |zero=>kernel_rfl
  |succ n ih=>rw[Za0];simp only[ih];kernel_rfl
theorem Zaal(l1:List Kb)(aK:Int):DN Zmi N (l1,aK,())=Zit N l1 aK:=by
  conv=>rhs;rw[Zit];simp(disch:=exact id (by kernel_rfl)) only[Zyd (R:=Unit×Kaa) N (CF Zmi N [1,1,1,0,1,0])]
  kernel_rfl
def Zaam:Gd:=GF Zmi func186 (λN d=>Zaal N d.1 d.2.1)
def Zadc:Fn:=⟨f117,Wu,λN=>Sig.of [.v (.prod Ja (.prod Ja (.prod Jz (.prod Jaq (.prod Jn (.prod (.own (TY_Root)) (.own Jv))))))) true,vt_ (TY_Root),vf_ Ja] [vt_ Jh,vt_ Jy] (λd=>Zr8 N d.1 d.2.1 d.2.2.1),CX [Zaam,Zvi]⟩
def Zadd:Gd:=GF Zadc func117
def Zade:Fn:=⟨f59,Wu,λN=>Sig.of [vt_ Jh,vt_ Jaj,vf_ Ja] [vt_ Jh] (λd=>Zm0 N d.1 d.2.1 d.2.2.1),CX [Z4,Zkm,Zacf,Zaf8,Zac9,Z7h,Zra,Z7l,Znm,Zadd]⟩
def Zadf:Gd:=GF Zade func59
def Zmj:Fn:=⟨f120,λ |2=>cn_ [1,2,4,5,10]|3=>cn_ [1,2,4,5]|4=>cn_ [1,2,4,5,20]|5=>cn_ [4]|100002=>cn_ [1,2,4,5]|_=>[],λN=>Sig.of [vt_ (TY_Family),vf_ Ja] [vt_ Jb] (λd=>Zgr N d.1 d.2.1),WR⟩
def Zye(da:Int)(i4:Int)(b5:Y_Family):St:=⟨[(1,vI da),(2,vP 0 0),(4,vP 1 0),(5,vI i4)],[(0,.box (split (TY_Family) b5)),(1,.box [.val Ja (0:Int),.val Ja (0:Int),.val Ja (0:Int)])],2⟩
def Zvz(da:Int)(b5:Y_Family)(b9:Int×Int×Int):St:=⟨[(4,vP 0 0)],[(0,.box [.val Ja b9.1,.val Ja b9.2.1,.val Ja b9.2.2])],1⟩
def Zv0(da:Int)(b5:Y_Family)(aV:Int)(aq:Bool):St:=⟨[(1,vI da),(2,vP 0 0),(4,vP 1 0),(5,vI aV),(10,vB aq)],[(0,.box (split (TY_Family) b5)),(1,.box [.val Ja (0:Int),.val Ja (0:Int),.val Ja (0:Int)])],2⟩
theorem Zyf{da:Int}{b5:Y_Family}{K0:Kb->Option R}{K1:Int->Bool->Option R}(h0:K0= λb9=>K .ret (Zvz da b5 b9))(h1:K1= λaV aq=>K (.exit 0) (Zv0 da b5 aV aq))(n:Nat)(i4:Int):Zcp N da b5 K0 K1 n i4=LM Zmj N 0 100002 n (Zye da i4 b5) K:=by
  subst h0 h1
  induction n generalizing i4 with
  |zero=>kernel_rfl
  |succ n ih=>rw[Zcp];simp only[ih];kernel_rfl
theorem Zaan(f1:Y_Family)(ck:Int):DN Zmj N (f1,ck,())=Zgr N f1 ck:=by
  conv=>rhs;rw[Zgr];simp(disch:=exact id (by kernel_rfl)) only[Zyf (R:=Unit×(Kb×Unit)) N (CF Zmj N [1,0,1,0])]
  kernel_rfl
def Zsz:Gd:=GN Zmj func120 (λN d=>Zaan N d.1 d.2.1)
def Zua:Fn:=⟨f121,Wu,λN=>Sig.of [.kv Jx true,vt_ (TY_KidRun)] [.v (.prod Ja (.prod Ja (.prod Ja (.prod Ja (.prod Ja (.prod Ja (.prod Jah (.prod Jak (.prod Jc (.prod (.own Jaa) (.prod Jp Jq))))))))))) true] (λd=>Zf3 N d.1 d.2.1),CX [Zbi]⟩
def Zp5:Gd:=GF Zua func121
def Zv1:Fn:=⟨f188,Wu,λN=>Sig.of [.kv Jz true,vt_ Jx,vt_ (TY_KidRun),vt_ Jq] [vt_ Jx,vt_ (TY_KidRun)] (λd=>Zjc N d.1 d.2.1 d.2.2.1 d.2.2.2.1),CX [Zso,Zbi,Zsz,Zp5,Zsg]⟩
def Zv2:Gd:=GF Zv1 func188
def Z11:Fn:=⟨f118,Wu,λN=>Sig.of [.kv Jz true,vt_ Jx,vt_ (TY_KidRun),vf_ Jg] [vt_ Jx,vt_ (TY_KidRun)] (λd=>Zlc N d.1 d.2.1 d.2.2.1 d.2.2.2.1),CX [Zv2,Zbi,Zx4,Z3x]⟩
def Z12:Gd:=GF Z11 func118
def Zo4:Fn:=⟨f190,λ |4=>cn_ [0,3,5,6,7,12]|5=>cn_ [0,3,5,6,7]|6=>cn_ [0,3,5,6,7,26]|7=>cn_ [0,3,5,7]|8=>cn_ [0,3,5,6,7]|9=>cn_ [0,3,5,6,7,38]|10=>cn_ [0,3,5,6,7]|100004=>cn_ [0,3,5,6,7]|_=>[],λN=>Sig.of [vf_ Jn,vt_ Jb] [vf_ Jak] (λd=>Zk3 N d.1 d.2.1),WR⟩
def Z44(l3:List Kb)(db:Bool)(i5:Int)(b6:Int×Int×Int)(l7:List Kb):St:=⟨[(0,vV Jn l3),(3,vP 0 0),(5,vO 1),(6,vB db),(7,vI i5)],[(0,.box [.val Ja b6.1,.val Ja b6.2.1,.val Ja b6.2.2]),(1,.arr Jb l7)],2⟩
def Z13(l3:List Kb)(b6:Int×Int×Int)(mb:Bool)(i9:Int)(ar:Bool)(aA:List Kb):St:=⟨[(0,vV Jn l3),(3,vP 0 0),(5,vO 1),(6,vB mb),(7,vI i9),(12,vB ar)],[(0,.box [.val Ja b6.1,.val Ja b6.2.1,.val Ja b6.2.2]),(1,.arr Jb aA)],2⟩
theorem Z45{l3:List Kb}{b6:Int×Int×Int}{K0:Bool->Int->Bool->Kq->Option R}(h0:K0= λmb i9 ar aA=>K (.exit 0) (Z13 l3 b6 mb i9 ar aA))(n:Nat)(db:Bool)(i5:Int)(l7:List Kb):Z0 N l3 b6 K0 n db i5 l7=LM Zo4 N 0 100004 n (Z44 l3 db i5 b6 l7) K:=by
  subst h0
  induction n generalizing db i5 l7 with
  |zero=>kernel_rfl
  |succ n ih=>rw[Z0];simp only[ih];kernel_rfl
theorem Zagf(l1:List Kb)(e2:Int×Int×Int):DN Zo4 N (l1,e2,())=Zk3 N l1 e2:=by
  conv=>rhs;rw[Zk3];simp(disch:=exact id (by kernel_rfl)) only[Z45 (R:=Unit×Kaa) N (CF Zo4 N [1,1,1,0,1,0])]
  kernel_rfl
def Zagg:Gd:=GN Zo4 func190 (λN d=>Zagf N d.1 d.2.1)
def Zhd:Fn:=⟨f119,λ |4=>cn_ [2,3,4,6,7,8,9,21]|5=>cn_ [2,3,4,6,7,8,9]|6=>cn_ [2,3,4,6,7,8,9]|9=>cn_ [2,3,4,6,7,10,50]|10=>cn_ [2,3,4,6,7,10]|11=>cn_ [2,3,4,6,7,10,59]|12=>cn_ [2,3,4,6,7,10]|100004=>[.freezeC 3 6,.canon [2,3,4,6,7,8,9]]|100009=>cn_ [2,3,4,6,7,10]|_=>[],λN=>Sig.of [vt_ Jx,vt_ (TY_KidRun),vf_ Ja] [.v (.prod Ja (.prod Ja (.prod Ja (.prod Jp (.prod Ji (.prod Jd (.prod Jn (.prod Jah (.prod Jc (.own (TY_KidRun))))))))))) true,.v (.prod Ja (.prod Ja (.prod Ja (.prod Ja (.prod Ja (.prod Ja (.prod Ji (.prod Jn (.prod Jd (.prod (.own Jaa) (.prod Jp Jq))))))))))) true] (λd=>Zin N d.1 d.2.1 d.2.2.1),CX [Zrr,Zagg,Zbi]⟩
def Zyg(k5:Int)(i6:Int)(b7:Int)(b8:Int)(b9:Int)(aP:Bool)(bk:List Int)(bK:List Kc)(bA:List Kb)(dz:List Int)(ce:List Kc)(bF:Y_KidRun)(cK:List Kc)(cC:List Y_KidRun):St:=⟨[(2,vI k5),(3,vP 0 0),(4,vP 1 0),(6,vP 2 0),(7,vP 3 0),(8,vO 4),(9,vI i6)],[(0,.box [.val Ja b7,.val Ja b8,.val Ja b9,.val Jp aP,.val Ji bk,.val Jd bK,.val Jn bA,.val Ji dz,.val Jd ce,.own 5]),(1,.box (split (TY_KidRun) bF)),(2,.box [.val Ja (0:Int),.val Ja (0:Int),.val Ja (0:Int),.val Jp false,.nils,.nils,.nils,.nils,.nils,.nils]),(3,.box [.val Ja (0:Int),.val Ja (0:Int),.val Ja (0:Int),.val Ja (0:Int),.val Ja (0:Int),.val Ja (0:Int),.nils,.nils,.nils,.nils,.val Jp false,.val Ja (0:Int),.val Ja (0:Int),.val Ja (0:Int),.val Ja (0:Int)]),(4,.arr Ju cK),(5,.arr (TY_KidRun) cC)],6⟩
def Zv3(k5:Int)(b7:Int)(b8:Int)(b9:Int)(aP:Bool)(bk:List Int)(bK:List Kc)(dz:List Int)(ce:List Kc)(bF:Y_KidRun)(cK:List Kc)(cC:List Y_KidRun)(vo:Int)(qb:Bool)(ll:List Kb):St:=⟨[(2,vI k5),(3,vP 0 0),(4,vP 1 0),(6,vP 2 0),(7,vP 3 0),(8,vO 4),(9,vI vo),(21,vB qb)],[(0,.box [.val Ja b7,.val Ja b8,.val Ja b9,.val Jp aP,.val Ji bk,.val Jd bK,.val Jn ll,.val Ji dz,.val Jd ce,.own 5]),(1,.box (split (TY_KidRun) bF)),(2,.box [.val Ja (0:Int),.val Ja (0:Int),.val Ja (0:Int),.val Jp false,.nils,.nils,.nils,.nils,.nils,.nils]),(3,.box [.val Ja (0:Int),.val Ja (0:Int),.val Ja (0:Int),.val Ja (0:Int),.val Ja (0:Int),.val Ja (0:Int),.nils,.nils,.nils,.nils,.val Jp false,.val Ja (0:Int),.val Ja (0:Int),.val Ja (0:Int),.val Ja (0:Int)]),(4,.arr Ju cK),(5,.arr (TY_KidRun) cC)],6⟩
theorem Zyh{k5:Int}{b7:Int}{b8:Int}{b9:Int}{aP:Bool}{bk:List Int}{bK:List Kc}{dz:List Int}{ce:List Kc}{bF:Y_KidRun}{cK:List Kc}{cC:List Y_KidRun}{K0:Int->Bool->Kq->Option R}(h0:K0= λvo qb ll=>K (.exit 0) (Zv3 k5 b7 b8 b9 aP bk bK dz ce bF cK cC vo qb ll))(n:Nat)(i6:Int)(bA:List Kb):Zcq N k5 b7 b8 b9 aP bk bK dz ce bF cK cC K0 n i6 bA=LM Zhd N 0 100004 n (Zyg k5 i6 b7 b8 b9 aP bk bK bA dz ce bF cK cC) K:=by
  subst h0
  induction n generalizing i6 bA with
  |zero=>kernel_rfl
  |succ n ih=>rw[Zcq];simp only[ih];kernel_rfl
def Zyi(fF:Int)(jc:Int)(gK:Int)(co:Int)(cT:Int)(dD:Bool)(dE:List Int)(dF:List Kc)(dM:List Kb)(dN:List Int)(dc:Y_KidRun)(ek:List Kc)(eh:List Y_KidRun):St:=⟨[(2,vI fF),(3,vP 0 0),(4,vP 1 0),(6,vP 2 0),(7,vP 3 0),(10,vI jc)],[(0,.box [.val Ja gK,.val Ja co,.val Ja cT,.val Jp dD,.val Ji dE,.val Jd dF,.val Jn dM,.val Ji dN,.own 4,.own 5]),(1,.box (split (TY_KidRun) dc)),(2,.box [.val Ja (0:Int),.val Ja (0:Int),.val Ja (0:Int),.val Jp false,.nils,.nils,.nils,.nils,.nils,.nils]),(3,.box [.val Ja (0:Int),.val Ja (0:Int),.val Ja (0:Int),.val Ja (0:Int),.val Ja (0:Int),.val Ja (0:Int),.nils,.nils,.nils,.nils,.val Jp false,.val Ja (0:Int),.val Ja (0:Int),.val Ja (0:Int),.val Ja (0:Int)]),(4,.arr Ju ek),(5,.arr (TY_KidRun) eh)],6⟩
def Zv4(fF:Int)(gK:Int)(co:Int)(cT:Int)(dD:Bool)(dE:List Int)(dF:List Kc)(dM:List Kb)(dN:List Int)(dc:Y_KidRun)(eh:List Y_KidRun)(vp:Int)(oP:Bool)(vq:List Kc):St:=⟨[(2,vI fF),(3,vP 0 0),(4,vP 1 0),(6,vP 2 0),(7,vP 3 0),(10,vI vp),(50,vB oP)],[(0,.box [.val Ja gK,.val Ja co,.val Ja cT,.val Jp dD,.val Ji dE,.val Jd dF,.val Jn dM,.val Ji dN,.own 4,.own 5]),(1,.box (split (TY_KidRun) dc)),(2,.box [.val Ja (0:Int),.val Ja (0:Int),.val Ja (0:Int),.val Jp false,.nils,.nils,.nils,.nils,.nils,.nils]),(3,.box [.val Ja (0:Int),.val Ja (0:Int),.val Ja (0:Int),.val Ja (0:Int),.val Ja (0:Int),.val Ja (0:Int),.nils,.nils,.nils,.nils,.val Jp false,.val Ja (0:Int),.val Ja (0:Int),.val Ja (0:Int),.val Ja (0:Int)]),(4,.arr Ju vq),(5,.arr (TY_KidRun) eh)],6⟩
theorem Zyj{fF:Int}{gK:Int}{co:Int}{cT:Int}{dD:Bool}{dE:List Int}{dF:List Kc}{dM:List Kb}{dN:List Int}{dc:Y_KidRun}{eh:List Y_KidRun}{K0:Int->Bool->Kv->Option R}(h0:K0= λvp oP vq=>K (.exit 2) (Zv4 fF gK co cT dD dE dF dM dN dc eh vp oP vq))(n:Nat)(jc:Int)(ek:List Kc):Zbk N fF gK co cT dD dE dF dM dN dc eh K0 n jc ek=LM Zhd N 1 100009 n (Zyi fF jc gK co cT dD dE dF dM dN dc ek eh) K:=by
  subst h0
  induction n generalizing jc ek with
  |zero=>kernel_rfl
  |succ n ih=>rw[Zbk];simp only[ih];kernel_rfl
theorem Zaao(f1:Y_Family)(x2:Y_KidRun)(k3:Int):DN Zhd N (f1,x2,k3,())=Zin N f1 x2 k3:=by
  conv=>rhs;rw[Zin];simp(disch:=exact id (by kernel_rfl)) only[Zyh (R:=Unit×(Y_Family×(Y_KidRun×Unit))) N (CF Zhd N [1,1,1,0,1,0]),Zyj (R:=Unit×(Y_Family×(Y_KidRun×Unit))) N (CF Zhd N [1,1,1,1,1,0,1,0])]
  kernel_rfl
def Zaap:Gd:=GF Zhd func119 (λN d=>Zaao N d.1 d.2.1 d.2.2.1)
def Zv5:Fn:=⟨f60,Wu,λN=>Sig.of [.kv Jz true,vt_ (TY_Family),vf_ Jad,vf_ Ja] [vt_ (TY_Family)] (λd=>Zdy N d.1 d.2.1 d.2.2.1 d.2.2.2.1),CX [Z12,Zaap,Zsz,Zp5]⟩
def Zv6:Gd:=GF Zv5 func60
def Zagh:Fn:=⟨f21,Wu,λN=>Sig.of [vt_ Jh,vt_ Jt,vt_ Jb] [vt_ Jh] (λd=>Ze9 N d.1 d.2.1 d.2.2.1),CX [Z4,Zadf,Zv6]⟩
def Zvk:Gd:=GF Zagh func21
def Zqw:Fn:=⟨f6,λ |5=>cn_ [1,2,3,4,15]|6=>cn_ [1,2,3,4]|7=>cn_ [1,2,3,4]|100005=>cn_ [1,2,3,4]|_=>[],λN=>Sig.of [vt_ Jt] [vt_ Jh] (λd=>Zof N d.1),CX [Zaaa,Zafw,Zvk]⟩
def Zaaq(i4:Int)(b5:Kg×List Km×List Kb)(aP:Int)(bk:Int)(bK:Int)(bA:Int)(bd:List Kb)(aQ:List Int)(bG:List Kb)(ca:List Y_Root)(bX:List Kn):St:=⟨[(1,vP 0 0),(2,vP 1 0),(3,vP 2 0),(4,vI i4)],[(0,.box [.val Ji b5.1.1,.val Ji b5.1.2.1,.val Ja b5.1.2.2,.val Jm b5.2.1,.val Jn b5.2.2]),(1,.box [.val Ja (0:Int),.val Ja (0:Int),.val Ja (0:Int),.nils,.nils,.val Ja (0:Int),.nils,.nils,.nils]),(2,.box [.val Ja aP,.val Ja bk,.val Ja bK,.own 3,.own 4,.val Ja bA,.own 5,.own 6,.own 7]),(3,.arr Jb bd),(4,.arr Ja aQ),(5,.arr Jb bG),(6,.arr (TY_Root) ca),(7,.arr Jv bX)],8⟩
def Z7m(b5:Kg×List Km×List Kb)(jo:Int)(t22:Bool)(jD:Int)(c8:Int)(fu:Int)(eQ:Int)(dt:List Kb)(fj:List Int)(rk:List Kb)(dO:List Y_Root)(dP:List Kn):St:=⟨[(1,vP 0 0),(2,vP 1 0),(3,vP 2 0),(4,vI jo),(15,vB t22)],[(0,.box [.val Ji b5.1.1,.val Ji b5.1.2.1,.val Ja b5.1.2.2,.val Jm b5.2.1,.val Jn b5.2.2]),(1,.box [.val Ja (0:Int),.val Ja (0:Int),.val Ja (0:Int),.nils,.nils,.val Ja (0:Int),.nils,.nils,.nils]),(2,.box [.val Ja jD,.val Ja c8,.val Ja fu,.own 3,.own 4,.val Ja eQ,.own 5,.own 6,.own 7]),(3,.arr Jb dt),(4,.arr Ja fj),(5,.arr Jb rk),(6,.arr (TY_Root) dO),(7,.arr Jv dP)],8⟩
theorem Zaar{b5:Kg×List Km×List Kb}{K0:Int->Bool->Int->Int->Int->Int->Kq->Kj->Kq->(List Y_Root)->Kab->Option R}(h0:K0= λjo t22 jD c8 fu eQ dt fj rk dO dP=>K (.exit 0) (Z7m b5 jo t22 jD c8 fu eQ dt fj rk dO dP))(n:Nat)(i4:Int)(aP:Int)(bk:Int)(bK:Int)(bA:Int)(bd:List Kb)(aQ:List Int)(bG:List Kb)(ca:List Y_Root)(bX:List Kn):Zgz N b5 K0 n i4 aP bk bK bA bd aQ bG ca bX=LM Zqw N 0 100005 n (Zaaq i4 b5 aP bk bK bA bd aQ bG ca bX) K:=by
  subst h0
  induction n generalizing i4 aP bk bK bA bd aQ bG ca bX with
  |zero=>kernel_rfl
  |succ n ih=>rw[Zgz];simp only[ih];kernel_rfl
theorem Zai3(s1:Kg×List Km×List Kb):DN Zqw N (s1,())=Zof N s1:=by
  conv=>rhs;rw[Zof];simp(disch:=exact id (by kernel_rfl)) only[Zaar (R:=Unit×(Y_World×Unit)) N (CF Zqw N [1,1,1,0,1,0])]
  kernel_rfl
def Zai4:Gd:=GF Zqw func6 (λN d=>Zai3 N d.1)
def Zqx:Fn:=⟨f50,λ |2=>cn_ [1,3,8]|3=>cn_ [1,3]|4=>cn_ [1,3,17]|5=>cn_ [2]|100002=>cn_ [1,3]|_=>[],λN=>Sig.of [vt_ (TY_World)] [vf_ Jp] (λd=>Zod N d.1),WR⟩
def Zaas(i2:Int)(b3:Y_World):St:=⟨[(1,vP 0 0),(3,vI i2)],[(0,.box (split (TY_World) b3))],1⟩
def Z7n(b3:Y_World):St:=⟨[(2,vB false)],[],0⟩
def Z7o(b3:Y_World)(i4:Int)(t5:Bool):St:=⟨[(1,vP 0 0),(3,vI i4),(8,vB t5)],[(0,.box (split (TY_World) b3))],1⟩
theorem Zaat{b3:Y_World}{K0:Option R}{K1:Int->Bool->Option R}(h0:K0=K .ret (Z7n b3))(h1:K1= λi4 t5=>K (.exit 0) (Z7o b3 i4 t5))(n:Nat)(i2:Int):Zgv N b3 K0 K1 n i2=LM Zqx N 0 100002 n (Zaas i2 b3) K:=by
  subst h0 h1
  induction n generalizing i2 with
  |zero=>kernel_rfl
  |succ n ih=>rw[Zgv];simp only[ih];kernel_rfl
theorem Zai5(w1:Y_World):DN Zqx N (w1,())=Zod N w1:=by
  conv=>rhs;rw[Zod];simp(disch:=exact id (by kernel_rfl)) only[Zaat (R:=Unit×Ko) N (CF Zqx N [1,0,1,0])]
  kernel_rfl
def Zai6:Gd:=GN Zqx func50 (λN d=>Zai5 N d.1)
def Zge:Fn:=⟨f14,λ |3=>cn_ [1,2,4,5,16]|4=>cn_ [1,2,4,5,6]|5=>cn_ [1,2,4,5,6,21]|6=>cn_ [1,2,4,5,6]|7=>cn_ [1,2,4,5,6]|8=>cn_ [1,2,4,5,6,7]|9=>cn_ [1,2,4,5,6,7,37]|10=>cn_ [1,2,4,5,6,7]|11=>cn_ [1,2,4,5,6,7]|12=>cn_ [1,2,4,5]|100003=>cn_ [1,2,4,5]|100005=>cn_ [1,2,4,5,6]|100009=>cn_ [1,2,4,5,6,7]|_=>[],λN=>Sig.of [vt_ Jt] [vt_ Jh,vf_ Ja] (λd=>Zm1 N d.1),CX [Zai4,Zai6,Zvk]⟩
def Z7p(na:Int)(jC:Int)(lq:Int)(eZ:Kg×List Km×List Kb)(ji:Int)(jj:Int)(ka:Int)(nb:Int)(nJ:Int)(gK:Int)(co:Int)(cT:Int)(km:List Kb)(nK:List Int)(nL:List Kb)(iu:List Y_Root)(iq:List Kn):St:=⟨[(1,vP 0 0),(2,vP 1 0),(4,vP 2 0),(5,vI na),(6,vI jC),(7,vI lq)],[(0,.box [.val Ji eZ.1.1,.val Ji eZ.1.2.1,.val Ja eZ.1.2.2,.val Jm eZ.2.1,.val Jn eZ.2.2]),(1,.box [.val Ja ji,.val Ja jj,.val Ja ka,.nils,.nils,.val Ja nb,.nils,.nils,.nils]),(2,.box [.val Ja nJ,.val Ja gK,.val Ja co,.own 3,.own 4,.val Ja cT,.own 5,.own 6,.own 7]),(3,.arr Jb km),(4,.arr Ja nK),(5,.arr Jb nL),(6,.arr (TY_Root) iu),(7,.arr Jv iq)],8⟩
def Z46(na:Int)(jC:Int)(eZ:Kg×List Km×List Kb)(ji:Int)(jj:Int)(ka:Int)(nb:Int)(vr:Int)(t55:Bool)(iw:Int)(iy:Int)(iz:Int)(iA:Int)(vt:List Kb)(dA:List Int)(iB:List Kb)(iD:List Y_Root)(iE:List Kn):St:=⟨[(1,vP 0 0),(2,vP 1 0),(4,vP 2 0),(5,vI na),(6,vI jC),(7,vI vr),(37,vB t55)],[(0,.box [.val Ji eZ.1.1,.val Ji eZ.1.2.1,.val Ja eZ.1.2.2,.val Jm eZ.2.1,.val Jn eZ.2.2]),(1,.box [.val Ja ji,.val Ja jj,.val Ja ka,.nils,.nils,.val Ja nb,.nils,.nils,.nils]),(2,.box [.val Ja iw,.val Ja iy,.val Ja iz,.own 3,.own 4,.val Ja iA,.own 5,.own 6,.own 7]),(3,.arr Jb vt),(4,.arr Ja dA),(5,.arr Jb iB),(6,.arr (TY_Root) iD),(7,.arr Jv iE)],8⟩
theorem Z7q{na:Int}{jC:Int}{eZ:Kg×List Km×List Kb}{ji:Int}{jj:Int}{ka:Int}{nb:Int}{K0:Int->Bool->Int->Int->Int->Int->Kq->Kj->Kq->(List Y_Root)->Kab->Option R}(h0:K0= λvr t55 iw iy iz iA vt dA iB iD iE=>K (.exit 4) (Z46 na jC eZ ji jj ka nb vr t55 iw iy iz iA vt dA iB iD iE))(n:Nat)(lq:Int)(nJ:Int)(gK:Int)(co:Int)(cT:Int)(km:List Kb)(nK:List Int)(nL:List Kb)(iu:List Y_Root)(iq:List Kn):Zfx N na jC eZ ji jj ka nb K0 n lq nJ gK co cT km nK nL iu iq=LM Zge N 2 100009 n (Z7p na jC lq eZ ji jj ka nb nJ gK co cT km nK nL iu iq) K:=by
  subst h0
  induction n generalizing lq nJ gK co cT km nK nL iu iq with
  |zero=>kernel_rfl
  |succ n ih=>rw[Zfx];simp only[ih];kernel_rfl
def Z7r(lr:Int)(gv:Int)(dm:Kg×List Km×List Kb)(mE:Int)(jD:Int)(c8:Int)(fu:Int)(eQ:Int)(fK:Int)(fL:Int)(gg:Int)(dO:List Kb)(dP:List Int)(cK:List Kb)(cC:List Y_Root)(gh:List Kn):St:=⟨[(1,vP 0 0),(2,vP 1 0),(4,vP 2 0),(5,vI lr),(6,vI gv)],[(0,.box [.val Ji dm.1.1,.val Ji dm.1.2.1,.val Ja dm.1.2.2,.val Jm dm.2.1,.val Jn dm.2.2]),(1,.box [.val Ja mE,.val Ja jD,.val Ja c8,.nils,.nils,.val Ja fu,.nils,.nils,.nils]),(2,.box [.val Ja eQ,.val Ja fK,.val Ja fL,.own 3,.own 4,.val Ja gg,.own 5,.own 6,.own 7]),(3,.arr Jb dO),(4,.arr Ja dP),(5,.arr Jb cK),(6,.arr (TY_Root) cC),(7,.arr Jv gh)],8⟩
def Z47(lr:Int)(dm:Kg×List Km×List Kb)(mE:Int)(jD:Int)(c8:Int)(fu:Int)(vu:Int)(vv:Bool)(vx:Int)(vy:Int)(vz:Int)(vA:Int)(vC:List Kb)(vD:List Int)(vE:List Kb)(vF:List Y_Root)(vG:List Kn):St:=⟨[(1,vP 0 0),(2,vP 1 0),(4,vP 2 0),(5,vI lr),(6,vI vu),(21,vB vv)],[(0,.box [.val Ji dm.1.1,.val Ji dm.1.2.1,.val Ja dm.1.2.2,.val Jm dm.2.1,.val Jn dm.2.2]),(1,.box [.val Ja mE,.val Ja jD,.val Ja c8,.nils,.nils,.val Ja fu,.nils,.nils,.nils]),(2,.box [.val Ja vx,.val Ja vy,.val Ja vz,.own 3,.own 4,.val Ja vA,.own 5,.own 6,.own 7]),(3,.arr Jb vC),(4,.arr Ja vD),(5,.arr Jb vE),(6,.arr (TY_Root) vF),(7,.arr Jv vG)],8⟩
theorem Z7s{lr:Int}{dm:Kg×List Km×List Kb}{mE:Int}{jD:Int}{c8:Int}{fu:Int}{K0:Int->Bool->Int->Int->Int->Int->Kq->Kj->Kq->(List Y_Root)->Kab->Option R}(h0:K0= λvu vv vx vy vz vA vC vD vE vF vG=>K (.exit 2) (Z47 lr dm mE jD c8 fu vu vv vx vy vz vA vC vD vE vF vG))(n:Nat)(gv:Int)(eQ:Int)(fK:Int)(fL:Int)(gg:Int)(dO:List Kb)(dP:List Int)(cK:List Kb)(cC:List Y_Root)(gh:List Kn):Zdk N lr dm mE jD c8 fu K0 n gv eQ fK fL gg dO dP cK cC gh=LM Zge N 1 100005 n (Z7r lr gv dm mE jD c8 fu eQ fK fL gg dO dP cK cC gh) K:=by
  subst h0
  induction n generalizing gv eQ fK fL gg dO dP cK cC gh with
  |zero=>kernel_rfl
  |succ n ih=>rw[Zdk];simp(disch:=exact id (by kernel_rfl)) only[ih,Z7q N (CL Zge N 1 100005 [1,0,0,1,1,0] n K)];kernel_rfl
def Z7t(n3:Int)(b4:Kg×List Km×List Kb)(b9:Int)(aP:Int)(bk:Int)(bK:Int)(aG:List Kb)(bd:List Int)(aQ:List Kb)(bG:List Y_Root)(ca:List Kn):St:=⟨[(1,vP 0 0),(2,vP 1 0),(4,vP 2 0),(5,vI n3)],[(0,.box [.val Ji b4.1.1,.val Ji b4.1.2.1,.val Ja b4.1.2.2,.val Jm b4.2.1,.val Jn b4.2.2]),(1,.box [.val Ja (0:Int),.val Ja (0:Int),.val Ja (0:Int),.nils,.nils,.val Ja (0:Int),.nils,.nils,.nils]),(2,.box [.val Ja b9,.val Ja aP,.val Ja bk,.own 3,.own 4,.val Ja bK,.own 5,.own 6,.own 7]),(3,.arr Jb aG),(4,.arr Ja bd),(5,.arr Jb aQ),(6,.arr (TY_Root) bG),(7,.arr Jv ca)],8⟩
def Z48(b4:Kg×List Km×List Kb)(oQ:Int)(oR:Bool)(oS:Int)(oT:Int)(oU:Int)(oV:Int)(oW:List Kb)(oX:List Int)(oY:List Kb)(oZ:List Y_Root)(o0:List Kn):St:=⟨[(1,vP 0 0),(2,vP 1 0),(4,vP 2 0),(5,vI oQ),(16,vB oR)],[(0,.box [.val Ji b4.1.1,.val Ji b4.1.2.1,.val Ja b4.1.2.2,.val Jm b4.2.1,.val Jn b4.2.2]),(1,.box [.val Ja (0:Int),.val Ja (0:Int),.val Ja (0:Int),.nils,.nils,.val Ja (0:Int),.nils,.nils,.nils]),(2,.box [.val Ja oS,.val Ja oT,.val Ja oU,.own 3,.own 4,.val Ja oV,.own 5,.own 6,.own 7]),(3,.arr Jb oW),(4,.arr Ja oX),(5,.arr Jb oY),(6,.arr (TY_Root) oZ),(7,.arr Jv o0)],8⟩
theorem Z7u{b4:Kg×List Km×List Kb}{K0:Int->Bool->Int->Int->Int->Int->Kq->Kj->Kq->(List Y_Root)->Kab->Option R}(h0:K0= λoQ oR oS oT oU oV oW oX oY oZ o0=>K (.exit 0) (Z48 b4 oQ oR oS oT oU oV oW oX oY oZ o0))(n:Nat)(n3:Int)(b9:Int)(aP:Int)(bk:Int)(bK:Int)(aG:List Kb)(bd:List Int)(aQ:List Kb)(bG:List Y_Root)(ca:List Kn):Zdl N b4 K0 n n3 b9 aP bk bK aG bd aQ bG ca=LM Zge N 0 100003 n (Z7t n3 b4 b9 aP bk bK aG bd aQ bG ca) K:=by
  subst h0
  induction n generalizing n3 b9 aP bk bK aG bd aQ bG ca with
  |zero=>kernel_rfl
  |succ n ih=>rw[Zdl];simp(disch:=exact id (by kernel_rfl)) only[ih,Z7s N (CL Zge N 0 100003 [1,0,0,1,0] n K)];kernel_rfl
theorem Zah4(s1:Kg×List Km×List Kb):DN Zge N (s1,())=Zm1 N s1:=by
  conv=>rhs;rw[Zm1];simp(disch:=exact id (by kernel_rfl)) only[Z7u (R:=Unit×(Y_World×Kh)) N (CF Zge N [1,1,1,0,0])]
  kernel_rfl
def Zah5:Gd:=GF Zge func14 (λN d=>Zah4 N d.1)
def Zagi:Fn:=⟨f72,Wu,λN=>Sig.of [vf_ Ja,vf_ Ja,vf_ Ja] [vf_ Jp] (λd=>Zi N d.1 d.2.1 d.2.2.1),WR⟩
def Z1:Gd:=GN Zagi func72
def Zadg:Fn:=⟨f124,Wu,λN=>Sig.of [vf_ Ja] [vf_ Jp] (λd=>Zah N d.1),CX [Z1]⟩
def Zbj:Gd:=GF Zadg func124
def Zls:Fn:=⟨f71,λ |2=>cn_ [0,1,7,8,9,10]|3=>cn_ [0,1,6,7,8,9]|4=>cn_ [0,1,7,8,9,15]|5=>cn_ [4]|6=>cn_ [0,1,7,8,9]|100002=>cn_ [0,1,7,8,9]|_=>[],λN=>Sig.of [vf_ Ji,vf_ Ja] [vf_ Jp] (λd=>Z6 N d.1 d.2.1),CX [Zbj]⟩
def Zv7(l3:List Int)(n4:Int)(t7:Int):St:=⟨[(0,vV Ji l3),(1,vI n4),(7,vV Ji l3),(8,vI (Wg l3)),(9,vI t7)],[],0⟩
def Zub(l3:List Int)(n4:Int):St:=⟨[(4,vB false)],[],0⟩
def Zuc(l3:List Int)(n4:Int)(ar:Int)(aq:Bool):St:=⟨[(0,vV Ji l3),(1,vI n4),(7,vV Ji l3),(8,vI (Wg l3)),(9,vI ar),(10,vB aq)],[],0⟩
theorem Zv8{l3:List Int}{n4:Int}{K0:Option R}{K1:Int->Bool->Option R}(h0:K0=K .ret (Zub l3 n4))(h1:K1= λar aq=>K (.exit 0) (Zuc l3 n4 ar aq))(n:Nat)(t7:Int):Zak N l3 n4 K0 K1 n t7=LM Zls N 0 100002 n (Zv7 l3 n4 t7) K:=by
  subst h0 h1
  induction n generalizing t7 with
  |zero=>kernel_rfl
  |succ n ih=>rw[Zak];simp only[ih];kernel_rfl
theorem Z7v(l1:List Int)(n2:Int):DN Zls N (l1,n2,())=Z6 N l1 n2:=by
  conv=>rhs;rw[Z6];simp(disch:=exact id (by kernel_rfl)) only[Zv8 (R:=Unit×Ko) N (CF Zls N [1,0,1,0])]
  kernel_rfl
def Zik:Gd:=GF Zls func71 (λN d=>Z7v N d.1 d.2.1)
def Zp0:Fn:=⟨f68,λ |2=>cn_ [0,5,6,7,8]|3=>cn_ [0,4,5,6,7]|4=>cn_ [0,5,6,7,13]|5=>cn_ [2]|6=>cn_ [0,5,6,7]|100002=>cn_ [0,5,6,7]|_=>[],λN=>Sig.of [vf_ Ji] [vf_ Jp] (λd=>Zkd N d.1),CX [Z1]⟩
def Z7w(l2:List Int)(t5:Int):St:=⟨[(0,vV Ji l2),(5,vV Ji l2),(6,vI (Wg l2)),(7,vI t5)],[],0⟩
def Z49(l2:List Int):St:=⟨[(2,vB false)],[],0⟩
def Z5a(l2:List Int)(t8:Int)(t9:Bool):St:=⟨[(0,vV Ji l2),(5,vV Ji l2),(6,vI (Wg l2)),(7,vI t8),(8,vB t9)],[],0⟩
theorem Z7x{l2:List Int}{K0:Option R}{K1:Int->Bool->Option R}(h0:K0=K .ret (Z49 l2))(h1:K1= λt8 t9=>K (.exit 0) (Z5a l2 t8 t9))(n:Nat)(t5:Int):Zfr N l2 K0 K1 n t5=LM Zp0 N 0 100002 n (Z7w l2 t5) K:=by
  subst h0 h1
  induction n generalizing t5 with
  |zero=>kernel_rfl
  |succ n ih=>rw[Zfr];simp only[ih];kernel_rfl
theorem Zah6(l1:List Int):DN Zp0 N (l1,())=Zkd N l1:=by
  conv=>rhs;rw[Zkd];simp(disch:=exact id (by kernel_rfl)) only[Z7x (R:=Unit×Ko) N (CF Zp0 N [1,0,1,0])]
  kernel_rfl
def Zyk:Gd:=GF Zp0 func68 (λN d=>Zah6 N d.1)
def Zaau:Fn:=⟨f64,Wu,λN=>Sig.of [vt_ Jal] [vf_ Jp] (λd=>Zoi N d.1),CX [Zik,Zyk,Zbj]⟩
def Zaav:Gd:=GF Zaau func64
def Zah7:Fn:=⟨f258,Wu,λN=>Sig.of [vf_ Ja] [vf_ Jp] (λd=>Zbs N d.1),CX [Z1]⟩
def Zah8:Gd:=GF Zah7 func258
def Zagj:Fn:=⟨f259,Wu,λN=>Sig.of [vf_ Ja] [vf_ Jp] (λd=>Za6 N d.1),CX [Z1]⟩
def Zet:Gd:=GF Zagj func259
def Zah9:Fn:=⟨f131,Wu,λN=>Sig.of [vf_ Ja] [vf_ Jp] (λd=>Zaw N d.1),CX [Z1]⟩
def Zj5:Gd:=GF Zah9 func131
def Zai7:Fn:=⟨f195,Wu,λN=>Sig.of [vt_ Jq] [vf_ Jp] (λd=>Zjg N d.1),CX [Zah8,Zbj,Zet,Z1,Zj5]⟩
def Zqy:Gd:=GF Zai7 func195
def Zadh:Fn:=⟨f193,Wu,λN=>Sig.of [vt_ Jq] [vf_ Ja] (λd=>Zji N d.1),CX [Zqy]⟩
def Ztm:Gd:=GF Zadh func193
def Zaia:Fn:=⟨f257,Wu,λN=>Sig.of [vt_ Jq] [vf_ Ja] (λd=>Zms N d.1),WR⟩
def Zsa:Gd:=GN Zaia func257
def Zkr:Fn:=⟨f194,λ |3=>cn_ [3,6,7,8,9]|4=>cn_ [3,5,6,7,8]|5=>cn_ [3,6,7,8]|6=>cn_ [3,6,7,8,17]|7=>cn_ [2]|8=>cn_ [3,6,7,8]|100003=>cn_ [3,6,7,8]|_=>[],λN=>Sig.of [vf_ Jg] [vf_ Jp] (λd=>Zee N d.1),CX [Zsa]⟩
def Zud(n2:Int)(t3:List Ka)(t5:Int):St:=⟨[(3,vI n2),(6,vV Jg t3),(7,vI (Wg t3)),(8,vI t5)],[],0⟩
def Ztn(t3:List Ka):St:=⟨[(2,vB false)],[],0⟩
def Zto(t3:List Ka)(n8:Int)(t9:Int)(ar:Bool):St:=⟨[(3,vI n8),(6,vV Jg t3),(7,vI (Wg t3)),(8,vI t9),(9,vB ar)],[],0⟩
theorem Zue{t3:List Ka}{K0:Option R}{K1:Int->Int->Bool->Option R}(h0:K0=K .ret (Ztn t3))(h1:K1= λn8 t9 ar=>K (.exit 0) (Zto t3 n8 t9 ar))(n:Nat)(n2:Int)(t5:Int):Zbt N t3 K0 K1 n n2 t5=LM Zkr N 0 100003 n (Zud n2 t3 t5) K:=by
  subst h0 h1
  induction n generalizing n2 t5 with
  |zero=>kernel_rfl
  |succ n ih=>rw[Zbt];simp only[ih];kernel_rfl
theorem Z5b(ai:List Ka):DN Zkr N (ai,())=Zee N ai:=by
  conv=>rhs;rw[Zee];simp(disch:=exact id (by kernel_rfl)) only[Zue (R:=Unit×Ko) N (CF Zkr N [1,1,0,1,0])]
  kernel_rfl
def Z5c:Gd:=GF Zkr func194 (λN d=>Z5b N d.1)
def Znr:Fn:=⟨f196,λ |3=>cn_ [1,5,8,9,10,11]|4=>cn_ [1,5,6,7,8,9,10]|5=>cn_ [1,5,7,8,9,10,17]|6=>cn_ [1,5,8,9,10]|7=>cn_ [1,5,8,9,10]|100003=>cn_ [1,5,8,9,10]|_=>[],λN=>Sig.of [vf_ Jg,vf_ Ja] [vf_ Ja] (λd=>Zjj N d.1 d.2.1),CX [Zsa]⟩
def Z14(i3:Int)(n4:Int)(t5:List Ka)(t7:Int):St:=⟨[(1,vI i3),(5,vI n4),(8,vV Jg t5),(9,vI (Wg t5)),(10,vI t7)],[],0⟩
def Zyl(i3:Int)(t5:List Ka)(qd:Int)(aq:Int)(ax:Bool):St:=⟨[(1,vI i3),(5,vI qd),(8,vV Jg t5),(9,vI (Wg t5)),(10,vI aq),(11,vB ax)],[],0⟩
theorem Z15{i3:Int}{t5:List Ka}{K0:Int->Int->Bool->Option R}(h0:K0= λqd aq ax=>K (.exit 0) (Zyl i3 t5 qd aq ax))(n:Nat)(n4:Int)(t7:Int):Zb1 N i3 t5 K0 n n4 t7=LM Znr N 0 100003 n (Z14 i3 n4 t5 t7) K:=by
  subst h0
  induction n generalizing n4 t7 with
  |zero=>kernel_rfl
  |succ n ih=>rw[Zb1];simp only[ih];kernel_rfl
theorem Zadi(ai:List Ka)(i2:Int):DN Znr N (ai,i2,())=Zjj N ai i2:=by
  conv=>rhs;rw[Zjj];simp(disch:=exact id (by kernel_rfl)) only[Z15 (R:=Unit×Kh) N (CF Znr N [1,1,0,1,0])]
  kernel_rfl
def Zadj:Gd:=GF Znr func196 (λN d=>Zadi N d.1 d.2.1)
def Zo5:Fn:=⟨f127,λ |5=>cn_ [0,3,14,15,16,17]|6=>cn_ [0,3,4,5,14,15,16]|7=>cn_ [0,3,4,5,14,15,16,23]|8=>cn_ [2]|9=>cn_ [0,3,4,5,14,15,16,25]|10=>cn_ [0,3,4,5,14,15,16,25,26]|11=>cn_ [0,3,14,15,16,48]|12=>cn_ [2]|13=>cn_ [0,3,4,14,15,16,49]|14=>cn_ [0,3,4,14,15,16]|15=>cn_ [0,3,14,15,16,60]|16=>cn_ [2]|17=>cn_ [0,3,14,15,16]|100005=>cn_ [0,3,14,15,16]|_=>[],λN=>Sig.of [vf_ Jg] [vf_ Jp] (λd=>Zdt N d.1),CX [Z5c,Zqy,Zadj]⟩
def Z5d(ae:List Ka)(aJ:Int)(t7:Int):St:=⟨[(0,vV Jg ae),(3,vI aJ),(14,vV Jg ae),(15,vI (Wg ae)),(16,vI t7)],[],0⟩
def Z16(ae:List Ka):St:=⟨[(2,vB false)],[],0⟩
def Z17(ae:List Ka)(gO:Int)(cw:Int)(gr:Bool):St:=⟨[(0,vV Jg ae),(3,vI gO),(14,vV Jg ae),(15,vI (Wg ae)),(16,vI cw),(17,vB gr)],[],0⟩
theorem Z5e{ae:List Ka}{K0:Option R}{K1:Int->Int->Bool->Option R}(h0:K0=K .ret (Z16 ae))(h1:K1= λgO cw gr=>K (.exit 0) (Z17 ae gO cw gr))(n:Nat)(aJ:Int)(t7:Int):Zbp N ae K0 K1 n aJ t7=LM Zo5 N 0 100005 n (Z5d ae aJ t7) K:=by
  subst h0 h1
  induction n generalizing aJ t7 with
  |zero=>kernel_rfl
  |succ n ih=>rw[Zbp];simp only[ih];kernel_rfl
theorem Zagk(ai:List Ka):DN Zo5 N (ai,())=Zdt N ai:=by
  conv=>rhs;rw[Zdt];simp(disch:=exact id (by kernel_rfl)) only[Z5e (R:=Unit×Ko) N (CF Zo5 N [1,1,1,0,1,0])]
  kernel_rfl
def Zvl:Gd:=GF Zo5 func127 (λN d=>Zagk N d.1)
def Zp1:Fn:=⟨f126,λ |2=>cn_ [0,5,6,7,8]|3=>cn_ [0,4,5,6,7]|4=>cn_ [0,5,6,7,18]|5=>cn_ [2]|6=>cn_ [0,5,6,7]|100002=>cn_ [0,5,6,7]|_=>[],λN=>Sig.of [vf_ Jg] [vf_ Jp] (λd=>Zka N d.1),CX [Ztm,Zvl]⟩
def Z7y(aj:List Ka)(t5:Int):St:=⟨[(0,vV Jg aj),(5,vV Jg aj),(6,vI (Wg aj)),(7,vI t5)],[],0⟩
def Z5f(aj:List Ka):St:=⟨[(2,vB false)],[],0⟩
def Z5g(aj:List Ka)(t8:Int)(t9:Bool):St:=⟨[(0,vV Jg aj),(5,vV Jg aj),(6,vI (Wg aj)),(7,vI t8),(8,vB t9)],[],0⟩
theorem Z7z{aj:List Ka}{K0:Option R}{K1:Int->Bool->Option R}(h0:K0=K .ret (Z5f aj))(h1:K1= λt8 t9=>K (.exit 0) (Z5g aj t8 t9))(n:Nat)(t5:Int):Zfm N aj K0 K1 n t5=LM Zp1 N 0 100002 n (Z7y aj t5) K:=by
  subst h0 h1
  induction n generalizing t5 with
  |zero=>kernel_rfl
  |succ n ih=>rw[Zfm];simp only[ih];kernel_rfl
theorem Zaib(ai:List Ka):DN Zp1 N (ai,())=Zka N ai:=by
  conv=>rhs;rw[Zka];simp(disch:=exact id (by kernel_rfl)) only[Z7z (R:=Unit×Ko) N (CF Zp1 N [1,0,1,0])]
  kernel_rfl
def Zaic:Gd:=GF Zp1 func126 (λN d=>Zaib N d.1)
def Z70:Fn:=⟨f198,Wu,λN=>Sig.of [vt_ Jq] [vf_ Jp] (λd=>Zq3 N d.1),WR⟩
def Z71:Gd:=GN Z70 func198
def Z3:Fn:=⟨f260,λ |2=>cn_ [0,1,7,8,9]|3=>cn_ [0,1,5,7,8]|4=>cn_ [0,1,5,7,8,16]|5=>cn_ [1,4]|6=>cn_ [0,1,7,8]|100002=>cn_ [0,1,7,8]|_=>[],λN=>Sig.of [vf_ Jg,.clos 198 0] [vf_ Ja] (λd=>Zu N d.1),CX [Z71]⟩
def Zhh(s2:List Ka)(t4:Int):St:=⟨[(0,vV Jg s2),(1,.s (.one (.clos 198 []))),(7,vI (Wg s2)),(8,vI t4)],[],0⟩
def Zg0(s2:List Ka)(t7:Int):St:=⟨[(1,.s (.one (.clos 198 []))),(4,vI t7)],[],0⟩
def Zg1(s2:List Ka)(t8:Int)(t9:Bool):St:=⟨[(0,vV Jg s2),(1,.s (.one (.clos 198 []))),(7,vI (Wg s2)),(8,vI t8),(9,vB t9)],[],0⟩
theorem Zhi{s2:List Ka}{K0:Int->Option R}{K1:Int->Bool->Option R}(h0:K0= λt7=>K .ret (Zg0 s2 t7))(h1:K1= λt8 t9=>K (.exit 0) (Zg1 s2 t8 t9))(n:Nat)(t4:Int):Zh N s2 K0 K1 n t4=LM Z3 N 0 100002 n (Zhh s2 t4) K:=by
  subst h0 h1
  induction n generalizing t4 with
  |zero=>kernel_rfl
  |succ n ih=>rw[Zh];simp only[ih];kernel_rfl
theorem Zig(s1:List Ka):DN Z3 N (s1,())=Zu N s1:=by
  conv=>rhs;rw[Zu];simp(disch:=exact id (by kernel_rfl)) only[Zhi (R:=Unit×Kh) N (CF Z3 N [1,0,1,0])]
  kernel_rfl
def Zih:Gd:=GF Z3 func260 (λN d=>Zig N d.1)
def Zhl:Fn:=⟨f197,Wu,λN=>Sig.of [vf_ Jg,.clos 198 0] [vf_ Jp] (λd=>Zai N d.1),CX [Zih]⟩
def Zhm:Gd:=GF Zhl func197
def Zadk:Fn:=⟨f128,Wu,λN=>Sig.of [vf_ Jg] [vf_ Jp] (λd=>Zjl N d.1),CX [Zhm]⟩
def Zadl:Gd:=GF Zadk func128
def Zo6:Fn:=⟨f67,λ |2=>cn_ [1,6,7,8,9]|3=>cn_ [1,4,6,7,8]|4=>cn_ [1,6,7,8,15]|5=>cn_ [2]|6=>cn_ [1,6,7,8]|100002=>cn_ [1,6,7,8]|_=>[],λN=>Sig.of [vt_ Jaj] [vf_ Jp] (λd=>Zk5 N d.1),CX [Zaic,Zvl,Zadl]⟩
def Z5h(t2:List Kz)(t4:Int)(b5:List Ka×List Kz):St:=⟨[(1,vP 0 0),(6,vV Jad t2),(7,vI (Wg b5.2)),(8,vI t4)],[(0,.box [.val Jg b5.1,.val Jad b5.2])],1⟩
def Z18(t2:List Kz)(b5:List Ka×List Kz):St:=⟨[(2,vB false)],[],0⟩
def Z19(t2:List Kz)(b5:List Ka×List Kz)(t8:Int)(t9:Bool):St:=⟨[(1,vP 0 0),(6,vV Jad t2),(7,vI (Wg b5.2)),(8,vI t8),(9,vB t9)],[(0,.box [.val Jg b5.1,.val Jad b5.2])],1⟩
theorem Z5i{t2:List Kz}{b5:List Ka×List Kz}{K0:Option R}{K1:Int->Bool->Option R}(h0:K0=K .ret (Z18 t2 b5))(h1:K1= λt8 t9=>K (.exit 0) (Z19 t2 b5 t8 t9))(n:Nat)(t4:Int):Zem N t2 b5 K0 K1 n t4=LM Zo6 N 0 100002 n (Z5h t2 t4 b5) K:=by
  subst h0 h1
  induction n generalizing t4 with
  |zero=>kernel_rfl
  |succ n ih=>rw[Zem];simp only[ih];kernel_rfl
theorem Zagl(p1:List Ka×List Kz):DN Zo6 N (p1,())=Zk5 N p1:=by
  conv=>rhs;rw[Zk5];simp(disch:=exact id (by kernel_rfl)) only[Z5i (R:=Unit×Ko) N (CF Zo6 N [1,0,1,0])]
  kernel_rfl
def Zagm:Gd:=GF Zo6 func67 (λN d=>Zagl N d.1)
def Z5j:Fn:=⟨f66,Wu,λN=>Sig.of [vt_ Jaj] [vf_ Jp] (λd=>Zma N d.1),CX [Zagm]⟩
def Z5k:Gd:=GF Z5j func66
def Zy:Fn:=⟨f125,λ |2=>cn_ [0,1,7,8,9]|3=>cn_ [0,1,5,7,8]|4=>cn_ [0,1,5,7,8,16]|5=>cn_ [1,4]|6=>cn_ [0,1,7,8]|100002=>cn_ [0,1,7,8]|_=>[],λN=>Sig.of [vf_ Jm,.clos 66 0] [vf_ Ja] (λd=>Zq N d.1),CX [Z5k]⟩
def Zfz(s2:List Km)(t4:Int):St:=⟨[(0,vV Jm s2),(1,.s (.one (.clos 66 []))),(7,vI (Wg s2)),(8,vI t4)],[],0⟩
def Zfa(s2:List Km)(t7:Int):St:=⟨[(1,.s (.one (.clos 66 []))),(4,vI t7)],[],0⟩
def Zfb(s2:List Km)(t8:Int)(t9:Bool):St:=⟨[(0,vV Jm s2),(1,.s (.one (.clos 66 []))),(7,vI (Wg s2)),(8,vI t8),(9,vB t9)],[],0⟩
theorem Zf0{s2:List Km}{K0:Int->Option R}{K1:Int->Bool->Option R}(h0:K0= λt7=>K .ret (Zfa s2 t7))(h1:K1= λt8 t9=>K (.exit 0) (Zfb s2 t8 t9))(n:Nat)(t4:Int):Zb N s2 K0 K1 n t4=LM Zy N 0 100002 n (Zfz s2 t4) K:=by
  subst h0 h1
  induction n generalizing t4 with
  |zero=>kernel_rfl
  |succ n ih=>rw[Zb];simp only[ih];kernel_rfl
theorem Zg2(s1:List Km):DN Zy N (s1,())=Zq N s1:=by
  conv=>rhs;rw[Zq];simp(disch:=exact id (by kernel_rfl)) only[Zf0 (R:=Unit×Kh) N (CF Zy N [1,0,1,0])]
  kernel_rfl
def Zg3:Gd:=GF Zy func125 (λN d=>Zg2 N d.1)
def Zgf:Fn:=⟨f65,Wu,λN=>Sig.of [vf_ Jm,.clos 66 0] [vf_ Jp] (λd=>Zab N d.1),CX [Zg3]⟩
def Zgg:Gd:=GF Zgf func65
def Zaaw:Fn:=⟨f25,Wu,λN=>Sig.of [vt_ Jt] [vf_ Jp] (λd=>Zlf N d.1),CX [Zaav,Zgg]⟩
def Zs0:Gd:=GF Zaaw func25
def Zadm:Fn:=⟨f69,Wu,λN=>Sig.of [] [vf_ Jah] (λd=>Zr6 N),WR⟩
def Zadn:Gd:=GN Zadm func69
def Zaax:Fn:=⟨f129,Wu,λN=>Sig.of [vf_ Ji] [vf_ Jah] (λd=>Zn N d.1),WR⟩
def Z5:Gd:=GN Zaax func129
def Zagn:Fn:=⟨f134,Wu,λN=>Sig.of [vf_ Ja,vf_ Ja] [vf_ Ja] (λd=>Zk6 N d.1 d.2.1),WR⟩
def Zvm:Gd:=GN Zagn func134
def Zaid:Fn:=⟨f199,Wu,λN=>Sig.of [vf_ Ja] [vf_ Ja] (λd=>Zke N d.1),WR⟩
def Zym:Gd:=GN Zaid func199
def Zaay:Fn:=⟨f135,Wu,λN=>Sig.of [vf_ Ja] [vf_ Ja] (λd=>Zlg N d.1),CX [Zj5]⟩
def Zs1:Gd:=GF Zaay func135
def Zns:Fn:=⟨f130,λ |5=>cn_ [3,9,10,11,12]|6=>cn_ [3,4,5,9,10,11]|7=>cn_ [3,4,5,9,10,11,17]|8=>cn_ [3,5,9,10,11,35]|9=>cn_ [2]|10=>cn_ [3,9,10,11]|11=>cn_ [3,9,10,11]|100005=>cn_ [3,9,10,11]|_=>[],λN=>Sig.of [vf_ Ji] [vf_ Jp] (λd=>Zdz N d.1),CX [Zvm,Z1,Zym,Zs1]⟩
def Z2a(t2:List Int)(t4:Int)(l5:List Bool):St:=⟨[(3,.s (.one (.aptr 0))),(9,vV Ji t2),(10,vI (Wg t2)),(11,vI t4)],[(0,.arr Jp l5)],1⟩
def Zyn(t2:List Int):St:=⟨[(2,vB false)],[],0⟩
def Zyo(t2:List Int)(gt:Int)(iH:Bool)(dK:List Bool):St:=⟨[(3,.s (.one (.aptr 0))),(9,vV Ji t2),(10,vI (Wg t2)),(11,vI gt),(12,vB iH)],[(0,.arr Jp dK)],1⟩
theorem Z2b{t2:List Int}{K0:Option R}{K1:Int->Bool->(List Bool)->Option R}(h0:K0=K .ret (Zyn t2))(h1:K1= λgt iH dK=>K (.exit 0) (Zyo t2 gt iH dK))(n:Nat)(t4:Int)(l5:List Bool):Zb2 N t2 K0 K1 n t4 l5=LM Zns N 0 100005 n (Z2a t2 t4 l5) K:=by
  subst h0 h1
  induction n generalizing t4 l5 with
  |zero=>kernel_rfl
  |succ n ih=>rw[Zb2];simp only[ih];kernel_rfl
theorem Zado(l1:List Int):DN Zns N (l1,())=Zdz N l1:=by
  conv=>rhs;rw[Zdz];simp(disch:=exact id (by kernel_rfl)) only[Z2b (R:=Unit×Ko) N (CF Zns N [1,1,1,0,1,0])]
  kernel_rfl
def Znt:Gd:=GF Zns func130 (λN d=>Zado N d.1)
def Zqz:Fn:=⟨f132,λ |2=>cn_ [1,7,8,9,10]|3=>cn_ [1,5,6,7,8,9]|4=>cn_ [1,5,7,8,9,21]|5=>cn_ [4]|6=>cn_ [1,7,8,9]|100002=>cn_ [1,7,8,9]|_=>[],λN=>Sig.of [vf_ Ji,vf_ Ja] [vf_ Ja] (λd=>Zif N d.1 d.2.1),CX [Zym]⟩
def Zaaz(eN:Int)(t4:List Int)(t6:Int):St:=⟨[(1,vI eN),(7,vV Ji t4),(8,vI (Wg t4)),(9,vI t6)],[],0⟩
def Z72(eN:Int)(t4:List Int)(t9:Int):St:=⟨[(4,vI t9)],[],0⟩
def Z73(eN:Int)(t4:List Int)(ar:Int)(aq:Bool):St:=⟨[(1,vI eN),(7,vV Ji t4),(8,vI (Wg t4)),(9,vI ar),(10,vB aq)],[],0⟩
theorem Zaa0{eN:Int}{t4:List Int}{K0:Int->Option R}{K1:Int->Bool->Option R}(h0:K0= λt9=>K .ret (Z72 eN t4 t9))(h1:K1= λar aq=>K (.exit 0) (Z73 eN t4 ar aq))(n:Nat)(t6:Int):Zer N eN t4 K0 K1 n t6=LM Zqz N 0 100002 n (Zaaz eN t4 t6) K:=by
  subst h0 h1
  induction n generalizing t6 with
  |zero=>kernel_rfl
  |succ n ih=>rw[Zer];simp only[ih];kernel_rfl
theorem Zai8(l1:List Int)(aX:Int):DN Zqz N (l1,aX,())=Zif N l1 aX:=by
  conv=>rhs;rw[Zif];simp(disch:=exact id (by kernel_rfl)) only[Zaa0 (R:=Unit×Kh) N (CF Zqz N [1,0,1,0])]
  kernel_rfl
def Zsp:Gd:=GF Zqz func132 (λN d=>Zai8 N d.1 d.2.1)
def Zadp:Fn:=⟨f133,Wu,λN=>Sig.of [vf_ Ji,vf_ Ja] [vf_ Ja,vf_ Jp] (λd=>Zjm N d.1 d.2.1),CX [Znt,Zj5,Zsp]⟩
def Zrb:Gd:=GF Zadp func133
def Znu:Fn:=⟨f70,λ |10=>cn_ [1,2,9,13,57]|11=>cn_ [1,2,9,13]|100010=>cn_ [1,2,9,13]|_=>[],λN=>Sig.of [vf_ Ji,vf_ Ja,vf_ Ja] [vf_ Jah,vf_ Ja,vf_ Jp] (λd=>Zf6 N d.1 d.2.1 d.2.2.1),CX [Z5,Znt,Zj5,Zbj,Zsp,Zrb,Zvm,Zs1]⟩
def Z2c(bu:Int)(fX:Int)(fH:Int)(aQ:List Int):St:=⟨[(1,vI bu),(2,vI fX),(9,vO 0),(13,vI fH)],[(0,.arr Ja aQ)],1⟩
def Zyp(bu:Int)(fX:Int)(aQ:List Int)(pd:Int)(ga:Bool):St:=⟨[(1,vI bu),(2,vI fX),(9,vO 0),(13,vI pd),(57,vB ga)],[(0,.arr Ja aQ)],1⟩
theorem Z2d{bu:Int}{fX:Int}{aQ:List Int}{K0:Int->Bool->Option R}(h0:K0= λpd ga=>K (.exit 0) (Zyp bu fX aQ pd ga))(n:Nat)(fH:Int):Zc8 N bu fX aQ K0 n fH=LM Znu N 0 100010 n (Z2c bu fX fH aQ) K:=by
  subst h0
  induction n generalizing fH with
  |zero=>kernel_rfl
  |succ n ih=>rw[Zc8];simp only[ih];kernel_rfl
theorem Zadq(l1:List Int)(aX:Int)(v3:Int):DN Znu N (l1,aX,v3,())=Zf6 N l1 aX v3:=by
  conv=>rhs;rw[Zf6];simp(disch:=exact id (by kernel_rfl)) only[Z2d (R:=Unit×(Kj×Kk)) N (CF Znu N [1,1,1,1,1,0,0])]
  kernel_rfl
def Zrc:Gd:=GF Znu func70 (λN d=>Zadq N d.1 d.2.1 d.2.2.1)
def Zlt:Fn:=⟨f26,λ |5=>cn_ [3,10,11,12,13]|6=>cn_ [3,4,5,10,11,12]|7=>cn_ [3,4,5,10,11,12,18]|8=>cn_ [3,10,11,12]|9=>cn_ [3,10,11,12]|100005=>cn_ [3,10,11,12]|_=>[],λN=>Sig.of [vf_ Ji] [vf_ Jah] (λd=>Zfs N d.1),CX [Zyk,Zadn,Zrc]⟩
def Zv9(t4:List Int)(t6:Int)(l7:List Int):St:=⟨[(3,vO 0),(10,vV Ji t4),(11,vI (Wg t4)),(12,vI t6)],[(0,.arr Ja l7)],1⟩
def Zuf(t4:List Int)(ar:Int)(aq:Bool)(bJ:List Int):St:=⟨[(3,vO 0),(10,vV Ji t4),(11,vI (Wg t4)),(12,vI ar),(13,vB aq)],[(0,.arr Ja bJ)],1⟩
theorem Zwa{t4:List Int}{K0:Int->Bool->Kj->Option R}(h0:K0= λar aq bJ=>K (.exit 0) (Zuf t4 ar aq bJ))(n:Nat)(t6:Int)(l7:List Int):Za9 N t4 K0 n t6 l7=LM Zlt N 0 100005 n (Zv9 t4 t6 l7) K:=by
  subst h0
  induction n generalizing t6 l7 with
  |zero=>kernel_rfl
  |succ n ih=>rw[Za9];simp only[ih];kernel_rfl
theorem Z74(m1:List Int):DN Zlt N (m1,())=Zfs N m1:=by
  conv=>rhs;rw[Zfs];simp(disch:=exact id (by kernel_rfl)) only[Zwa (R:=Unit×Kad) N (CF Zlt N [1,1,1,0,1,0])]
  kernel_rfl
def Z75:Gd:=GF Zlt func26 (λN d=>Z74 N d.1)
def Zo7:Fn:=⟨f27,λ |5=>cn_ [2,4,12,13,14,15]|6=>cn_ [2,4,6,12,13,14]|7=>cn_ [2,4,12,13,14]|8=>cn_ [2,4,12,13,14]|100005=>[.adoptC 4 1 Jb,.canon [2,4,12,13,14]]|_=>[],λN=>Sig.of [vf_ Ji] [vt_ Jz,vf_ Jp] (λd=>Zi3 N d.1),CX [Zik]⟩
def Z5l(t3:List Int)(t5:Int)(l8:List Kb):St:=⟨[(2,vP 0 0),(4,vP 1 0),(12,vV Ji t3),(13,vI (Wg t3)),(14,vI t5)],[(0,.box [.val Ja (0:Int),.nils]),(1,.box [.val Ja (0:Int),.own 2]),(2,.arr Jb l8)],3⟩
def Z2e(t3:List Int)(t9:Int)(ar:Bool)(aA:List Kb):St:=⟨[(2,vP 0 0),(4,vP 1 0),(12,vV Ji t3),(13,vI (Wg t3)),(14,vI t9),(15,vB ar)],[(0,.box [.val Ja (0:Int),.nils]),(1,.box [.val Ja (0:Int),.own 2]),(2,.arr Jb aA)],3⟩
theorem Z5m{t3:List Int}{K0:Int->Bool->Kq->Option R}(h0:K0= λt9 ar aA=>K (.exit 0) (Z2e t3 t9 ar aA))(n:Nat)(t5:Int)(l8:List Kb):Zeg N t3 K0 n t5 l8=LM Zo7 N 0 100005 n (Z5l t3 t5 l8) K:=by
  subst h0
  induction n generalizing t5 l8 with
  |zero=>kernel_rfl
  |succ n ih=>rw[Zeg];simp only[ih];kernel_rfl
theorem Zago(l1:List Int):DN Zo7 N (l1,())=Zi3 N l1:=by
  conv=>rhs;rw[Zi3];simp(disch:=exact id (by kernel_rfl)) only[Z5m (R:=Unit×(Kt×Ko)) N (CF Zo7 N [1,1,1,0,1,0])]
  kernel_rfl
def Zagp:Gd:=GF Zo7 func27 (λN d=>Zago N d.1)
def Z76:Fn:=⟨f136,Wu,λN=>Sig.of [.box Jj] [] (λd=>Zax N d.1),WR⟩
def Zil:Gd:=GN Z76 func136
def Zks:Fn:=⟨f137,λ |3=>cn_ [0,1,4,5,17,18,19,20]|4=>cn_ [0,1,4,5,6,7,17,18,19]|5=>cn_ [0,1,4,5,17,18,19]|6=>cn_ [0,1,4,5,17,18,19]|100003=>cn_ [0,1,4,5,17,18,19]|_=>[],λN=>Sig.of [.box Jo,vf_ Ja] [] (λd=>Zg9 N d.1 d.2.1),WR⟩
def Zug(k3:Int)(r4:Nat)(dy:Bool)(t6:Int)(t7:Int)(b8:Int)(b9:Int)(aP:Int)(bk:Int)(bJ:List Y_Root)(aG:List Kb)(bd:List Int)(aQ:List Kb)(bG:List Kn):St:=⟨[(0,vP 0 0),(1,vI k3),(4,.s (.one (.eptr 1 r4 0))),(5,vB dy),(17,vO 1),(18,vI t6),(19,vI t7)],[(0,.box [.val Ja b8,.val Ja b9,.val Ja aP,.own 2,.own 3,.val Ja bk,.own 4,.own 1,.own 5]),(1,.arr Jj bJ),(2,.arr Jb aG),(3,.arr Ja bd),(4,.arr Jb aQ),(5,.arr Jab bG)],6⟩
def Ztp(k3:Int)(r4:Nat)(t6:Int)(b8:Int)(b9:Int)(aP:Int)(bk:Int)(bJ:List Y_Root)(aG:List Kb)(bd:List Int)(aQ:List Kb)(bG:List Kn)(gP:Bool)(gt:Int)(iH:Bool):St:=⟨[(0,vP 0 0),(1,vI k3),(4,.s (.one (.eptr 1 r4 0))),(5,vB gP),(17,vO 1),(18,vI t6),(19,vI gt),(20,vB iH)],[(0,.box [.val Ja b8,.val Ja b9,.val Ja aP,.own 2,.own 3,.val Ja bk,.own 4,.own 1,.own 5]),(1,.arr Jj bJ),(2,.arr Jb aG),(3,.arr Ja bd),(4,.arr Jb aQ),(5,.arr Jab bG)],6⟩
theorem Zuh{k3:Int}{r4:Nat}{t6:Int}{b8:Int}{b9:Int}{aP:Int}{bk:Int}{bJ:List Y_Root}{aG:List Kb}{bd:List Int}{aQ:List Kb}{bG:List Kn}{K0:Bool->Int->Bool->Option R}(h0:K0= λgP gt iH=>K (.exit 0) (Ztp k3 r4 t6 b8 b9 aP bk bJ aG bd aQ bG gP gt iH))(n:Nat)(dy:Bool)(t7:Int):Zad N k3 r4 t6 b8 b9 aP bk bJ aG bd aQ bG K0 n dy t7=LM Zks N 0 100003 n (Zug k3 r4 dy t6 t7 b8 b9 aP bk bJ aG bd aQ bG) K:=by
  subst h0
  induction n generalizing dy t7 with
  |zero=>kernel_rfl
  |succ n ih=>rw[Zad];simp only[ih];kernel_rfl
theorem Z5n(w1:Y_World)(k2:Int):DN Zks N (w1,k2,())=Zg9 N w1 k2:=by
  conv=>rhs;rw[Zg9];simp(disch:=exact id (by kernel_rfl)) only[Zuh (R:=(Y_World×Unit)×Unit) N (CF Zks N [1,1,0,1,0])]
  kernel_rfl
def Z5o:Gd:=GN Zks func137 (λN d=>Z5n N d.1 d.2.1)
def Zagq:Fn:=⟨f288,Wu,λN=>Sig.of [vf_ Ja,vf_ Ja,vf_ Ja] [vf_ Jp] (λd=>Zk7 N d.1 d.2.1 d.2.2.1),CX [Z1]⟩
def Zvn:Gd:=GF Zagq func288
def Zyq:Fn:=⟨f289,Wu,λN=>Sig.of [vt_ Jb,vt_ Jb] [vf_ Ja] (λd=>Zkq N d.1 d.2.1),WR⟩
def Zyr:Gd:=GN Zyq func289
def Znv:Fn:=⟨f214,λ |2=>cn_ [0,5,6,7,8]|3=>cn_ [0,3,4,5,6,7]|4=>cn_ [0,3,4,5,6,7,33]|5=>cn_ [2]|6=>cn_ [0,5,6,7,60]|7=>cn_ [2]|8=>cn_ [0,5,6,7]|100002=>cn_ [0,5,6,7]|_=>[],λN=>Sig.of [vf_ Jn] [vf_ Jp] (λd=>Zf7 N d.1),CX [Zvn,Zyr]⟩
def Z2f(l2:List Kb)(t5:Int):St:=⟨[(0,vV Jn l2),(5,vV Jn l2),(6,vI (Wg l2)),(7,vI t5)],[],0⟩
def Zys(l2:List Kb):St:=⟨[(2,vB false)],[],0⟩
def Zyt(l2:List Kb)(ar:Int)(aq:Bool):St:=⟨[(0,vV Jn l2),(5,vV Jn l2),(6,vI (Wg l2)),(7,vI ar),(8,vB aq)],[],0⟩
theorem Z2g{l2:List Kb}{K0:Option R}{K1:Int->Bool->Option R}(h0:K0=K .ret (Zys l2))(h1:K1= λar aq=>K (.exit 0) (Zyt l2 ar aq))(n:Nat)(t5:Int):Zac N l2 K0 K1 n t5=LM Znv N 0 100002 n (Z2f l2 t5) K:=by
  subst h0 h1
  induction n generalizing t5 with
  |zero=>kernel_rfl
  |succ n ih=>rw[Zac];simp only[ih];kernel_rfl
theorem Zadr(l1:List Kb):DN Znv N (l1,())=Zf7 N l1:=by
  conv=>rhs;rw[Zf7];simp(disch:=exact id (by kernel_rfl)) only[Z2g (R:=Unit×Ko) N (CF Znv N [1,0,1,0])]
  kernel_rfl
def Znw:Gd:=GF Znv func214 (λN d=>Zadr N d.1)
def Znx:Fn:=⟨f261,λ |5=>cn_ [1,5,12,13,14,15]|6=>cn_ [1,5,7,12,13,14]|7=>cn_ [1,5,7,12,13,14,21]|8=>cn_ [1,5,12,13,14]|9=>cn_ [1,5,12,13,14]|100005=>cn_ [1,5,12,13,14]|_=>[],λN=>Sig.of [vf_ Jn,vf_ Ja] [vf_ Jah] (λd=>Zhx N d.1 d.2.1),CX [Znw]⟩
def Z2h(cD:Int)(t5:List Kb)(t7:Int)(l8:List Int):St:=⟨[(1,vI cD),(5,vO 0),(12,vV Jn t5),(13,vI (Wg t5)),(14,vI t7)],[(0,.arr Ja l8)],1⟩
def Zyu(cD:Int)(t5:List Kb)(t9:Int)(ar:Bool)(aA:List Int):St:=⟨[(1,vI cD),(5,vO 0),(12,vV Jn t5),(13,vI (Wg t5)),(14,vI t9),(15,vB ar)],[(0,.arr Ja aA)],1⟩
theorem Z2i{cD:Int}{t5:List Kb}{K0:Int->Bool->Kj->Option R}(h0:K0= λt9 ar aA=>K (.exit 0) (Zyu cD t5 t9 ar aA))(n:Nat)(t7:Int)(l8:List Int):Zb3 N cD t5 K0 n t7 l8=LM Znx N 0 100005 n (Z2h cD t5 t7 l8) K:=by
  subst h0
  induction n generalizing t7 l8 with
  |zero=>kernel_rfl
  |succ n ih=>rw[Zb3];simp only[ih];kernel_rfl
theorem Zads(l1:List Kb)(aK:Int):DN Znx N (l1,aK,())=Zhx N l1 aK:=by
  conv=>rhs;rw[Zhx];simp(disch:=exact id (by kernel_rfl)) only[Z2i (R:=Unit×Kad) N (CF Znx N [1,1,1,0,1,0])]
  kernel_rfl
def Zadt:Gd:=GF Znx func261 (λN d=>Zads N d.1 d.2.1)
def Z77:Fn:=⟨f145,λ |0=>[.opn 10]|_=>[],λN=>Sig.of [.box Jo,vf_ Ja] [] (λd=>Zhy N d.1 d.2.1),WR⟩
def Zsh:Gd:=GN Z77 func145
def Zadu:Fn:=⟨f306,Wu,λN=>Sig.of [vf_ Ja] [vf_ Jp] (λd=>Zf8 N d.1),CX [Z1]⟩
def Zkn:Gd:=GF Zadu func306
def Zo8:Fn:=⟨f291,λ |2=>cn_ [0,5,6,7,8]|3=>cn_ [0,4,5,6,7]|4=>cn_ [0,5,6,7,20]|5=>cn_ [2]|6=>cn_ [0,5,6,7]|100002=>cn_ [0,5,6,7]|_=>[],λN=>Sig.of [vf_ Jd] [vf_ Jp] (λd=>Zdu N d.1),CX [Zet,Zbj]⟩
def Z5p(l2:List Kc)(t5:Int):St:=⟨[(0,vV Jd l2),(5,vV Jd l2),(6,vI (Wg l2)),(7,vI t5)],[],0⟩
def Z2j(l2:List Kc):St:=⟨[(2,vB false)],[],0⟩
def Z2k(l2:List Kc)(ar:Int)(aq:Bool):St:=⟨[(0,vV Jd l2),(5,vV Jd l2),(6,vI (Wg l2)),(7,vI ar),(8,vB aq)],[],0⟩
theorem Z5q{l2:List Kc}{K0:Option R}{K1:Int->Bool->Option R}(h0:K0=K .ret (Z2j l2))(h1:K1= λar aq=>K (.exit 0) (Z2k l2 ar aq))(n:Nat)(t5:Int):Zef N l2 K0 K1 n t5=LM Zo8 N 0 100002 n (Z5p l2 t5) K:=by
  subst h0 h1
  induction n generalizing t5 with
  |zero=>kernel_rfl
  |succ n ih=>rw[Zef];simp only[ih];kernel_rfl
theorem Zagr(l1:List Kc):DN Zo8 N (l1,())=Zdu N l1:=by
  conv=>rhs;rw[Zdu];simp(disch:=exact id (by kernel_rfl)) only[Z5q (R:=Unit×Ko) N (CF Zo8 N [1,0,1,0])]
  kernel_rfl
def Zo9:Gd:=GF Zo8 func291 (λN d=>Zagr N d.1)
def Zq0:Fn:=⟨f263,λ |4=>cn_ [0,1,6,14]|5=>cn_ [0,1,6]|6=>cn_ [0,1,6,23]|7=>cn_ [4,5]|100004=>cn_ [0,1,6]|_=>[],λN=>Sig.of [vf_ Jd,vf_ Ja] [vf_ Ja,vf_ Jp] (λd=>Zjh N d.1 d.2.1),CX [Zo9]⟩
def Zaa1(l4:List Kc)(bj:Int)(i6:Int):St:=⟨[(0,vV Jd l4),(1,vI bj),(6,vI i6)],[],0⟩
def Z78(l4:List Kc)(bj:Int)(t7:Int):St:=⟨[(4,vI t7),(5,vB true)],[],0⟩
def Z79(l4:List Kc)(bj:Int)(i8:Int)(t9:Bool):St:=⟨[(0,vV Jd l4),(1,vI bj),(6,vI i8),(14,vB t9)],[],0⟩
theorem Zaa2{l4:List Kc}{bj:Int}{K0:Int->Option R}{K1:Int->Bool->Option R}(h0:K0= λt7=>K .ret (Z78 l4 bj t7))(h1:K1= λi8 t9=>K (.exit 0) (Z79 l4 bj i8 t9))(n:Nat)(i6:Int):Zio N l4 bj K0 K1 n i6=LM Zq0 N 0 100004 n (Zaa1 l4 bj i6) K:=by
  subst h0 h1
  induction n generalizing i6 with
  |zero=>kernel_rfl
  |succ n ih=>rw[Zio];simp only[ih];kernel_rfl
theorem Zai9(l1:List Kc)(ck:Int):DN Zq0 N (l1,ck,())=Zjh N l1 ck:=by
  conv=>rhs;rw[Zjh];simp(disch:=exact id (by kernel_rfl)) only[Zaa2 (R:=Unit×Kk) N (CF Zq0 N [1,1,0,1,0])]
  kernel_rfl
def Zsq:Gd:=GF Zq0 func263 (λN d=>Zai9 N d.1 d.2.1)
def Zrw:Fn:=⟨f219,λ |5=>cn_ [0,3,11,12]|6=>cn_ [0,3,4,11]|7=>cn_ [0,3,4,5,6,11]|8=>cn_ [0,3,4,5,11,20]|9=>cn_ [0,3,11]|10=>cn_ [0,3,11]|100005=>cn_ [0,3,11]|_=>[],λN=>Sig.of [vf_ Jd] [vf_ Jc] (λd=>Zie N d.1),CX [Zo9,Zsq]⟩
def Zadv(l3:List Kc)(t4:Int)(l5:List Kc):St:=⟨[(0,vV Jd l3),(3,vO 0),(11,vI t4)],[(0,.arr Ju l5)],1⟩
def Zaa3(l3:List Kc)(t7:Int)(t8:Bool)(l9:List Kc):St:=⟨[(0,vV Jd l3),(3,vO 0),(11,vI t7),(12,vB t8)],[(0,.arr Ju l9)],1⟩
theorem Zadw{l3:List Kc}{K0:Int->Bool->Kv->Option R}(h0:K0= λt7 t8 l9=>K (.exit 0) (Zaa3 l3 t7 t8 l9))(n:Nat)(t4:Int)(l5:List Kc):Zhs N l3 K0 n t4 l5=LM Zrw N 0 100005 n (Zadv l3 t4 l5) K:=by
  subst h0
  induction n generalizing t4 l5 with
  |zero=>kernel_rfl
  |succ n ih=>rw[Zhs];simp only[ih];kernel_rfl
theorem Zajm(l1:List Kc):DN Zrw N (l1,())=Zie N l1:=by
  conv=>rhs;rw[Zie];simp(disch:=exact id (by kernel_rfl)) only[Zadw (R:=Unit×Kae) N (CF Zrw N [1,1,1,0,1,0])]
  kernel_rfl
def Zrx:Gd:=GF Zrw func219 (λN d=>Zajm N d.1)
def Zny:Fn:=⟨f307,λ |3=>cn_ [3,8,9,10,11]|4=>cn_ [3,5,8,9,10]|5=>cn_ [3,8,9,10]|6=>cn_ [3,8,9,10]|100003=>cn_ [3,8,9,10]|_=>[],λN=>Sig.of [vf_ Jd] [vf_ Jah] (λd=>Zjn N d.1),CX [Zrx]⟩
def Z2l(t3:Int)(t4:Int)(l5:List Int)(l6:List Kc):St:=⟨[(3,vO 0),(8,vO 1),(9,vI t3),(10,vI t4)],[(0,.arr Ja l5),(1,.arr Ju l6)],2⟩
def Zyv(t3:Int)(l6:List Kc)(t7:Int)(t8:Bool)(l9:List Int):St:=⟨[(3,vO 0),(8,vO 1),(9,vI t3),(10,vI t7),(11,vB t8)],[(0,.arr Ja l9),(1,.arr Ju l6)],2⟩
theorem Z2m{t3:Int}{l6:List Kc}{K0:Int->Bool->Kj->Option R}(h0:K0= λt7 t8 l9=>K (.exit 0) (Zyv t3 l6 t7 t8 l9))(n:Nat)(t4:Int)(l5:List Int):Zc9 N t3 l6 K0 n t4 l5=LM Zny N 0 100003 n (Z2l t3 t4 l5 l6) K:=by
  subst h0
  induction n generalizing t4 l5 with
  |zero=>kernel_rfl
  |succ n ih=>rw[Zc9];simp only[ih];kernel_rfl
theorem Zadx(l1:List Kc):DN Zny N (l1,())=Zjn N l1:=by
  conv=>rhs;rw[Zjn];simp(disch:=exact id (by kernel_rfl)) only[Z2m (R:=Unit×Kad) N (CF Zny N [1,1,0,1,0])]
  kernel_rfl
def Zady:Gd:=GF Zny func307 (λN d=>Zadx N d.1)
def Z8a:Fn:=⟨f262,Wu,λN=>Sig.of [vf_ Ja,vf_ Ja,vf_ Jd,vf_ Jd] [vt_ Jr,vf_ Jp] (λd=>Zft N d.1 d.2.1 d.2.2.1 d.2.2.2.1),CX [Zkn,Z1,Zo9,Zrx,Zady]⟩
def Z8b:Gd:=GF Z8a func262
end
end Go.Sx
