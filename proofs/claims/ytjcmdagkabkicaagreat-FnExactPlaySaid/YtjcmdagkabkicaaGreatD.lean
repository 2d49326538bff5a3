/- Each Go function does what its Lean function says. -/
import Derived.Test.YtjcmdagkabkicaaGreatT2
import Derived.Test.YtjcmdagkabkicaaGreatProg
import Derived.Test.YtjcmdagkabkicaaGreatLay
open Bool renaming and_eq_true→Xi
namespace Go.Sx
noncomputable section
open Go.Proofs
abbrev Ja:Ty:=.int .i64
abbrev Jb:Ty:=.prod Ja (.prod Ja Ja)
abbrev Jc:Ty:=.own (.prod Ja Ja)
abbrev Jd:Ty:=.slice (.prod Ja Ja)
abbrev Je:Ty:=.prod Ja (.prod Ja (.own Ja))
abbrev Jf:Ty:=.prod (.prod Ja Jb) (.prod (.prod Ja (.prod Ja (.prod Ja (.prod Ja (.prod Ja (.prod Jc (.own Ja))))))) (.prod Ja (.prod Ja (.prod Ja (.prod (.bool) (.prod (.own Ja) (.prod Jc (.prod (.own Jb) (.prod (.own Ja) (.prod Jc (.own (.prod Ja (.prod Ja (.prod Ja (.prod Ja (.prod Ja (.prod Ja (.prod (.own Ja) (.prod (.own Jb) (.prod Jc (.prod (.own Je) (.prod (.bool) (.prod Ja Jb)))))))))))))))))))))))
abbrev Jg:Ty:=.slice (.prod Ja Jb)
abbrev Jh:Ty:=.prod Ja (.prod Ja (.prod (.prod Ja (.own Jb)) (.prod (.prod (.own Ja) Ja) (.prod (.own Jb) (.prod (.own (TY_Root)) (.own (.prod Ja (.prod Ja Jd))))))))
abbrev Ji:Ty:=.slice Ja
abbrev Jj:Ty:=.prod Ja (.prod Ja (.prod Ja (.prod Ja (.prod Ja (.prod Ja (.prod Ja (.prod Ja (.prod Ja (.prod Ja (.prod Ja (.prod (.bool) (.prod (.own Ja) (.prod Jc (.prod Jc (.prod (.own (.prod Ja (.prod Ja Je))) (.prod (.own Jb) (.prod (.own Ja) (.prod (.bool) Jf))))))))))))))))))
abbrev Jk:Ty:=.prod Ja (.prod Ja (.prod Ja (.prod Ja (.prod Ja (.prod Ja (.prod (.own Ja) (.prod (.own Jb) (.prod Jc (.prod (.own Je) (.prod (.bool) (.prod Ja Jb)))))))))))
abbrev Jl:Ty:=.prod Ja (.prod Ja (.prod Ja (.prod Ja (.prod Ja (.prod Jd Ji)))))
abbrev Jm:Ty:=.slice Jb
abbrev Jn:Ty:=.prod Ja (.prod Ja (.prod (.prod Ja (.own Jb)) (.prod (.prod (.own Ja) Ja) (.prod (.own Jb) (.prod (.own Jj) (.own (.prod Ja (.prod Ja Jc))))))))
abbrev Jo:Ty:=.slice (.prod Jg (.slice Jg))
abbrev Jp:Ty:=.bool
abbrev Jq:Ty:=.prod Ja Jb
abbrev Jr:Ty:=.prod Ja (.prod Ja (.prod Ja (.prod Ja (.prod Ja (.prod Jc (.own Ja))))))
abbrev Js:Ty:=.prod Ja (.prod Ja (.prod Ja (.prod Ja Ji)))
abbrev Jt:Ty:=.prod Ja Ja
abbrev Ju:Ty:=.prod Ja (.prod Ja (.prod Ja (.prod Jp (.prod (.own Ja) (.prod Jc (.prod (.own Jb) (.prod (.own Ja) (.prod Jc (.own Jk)))))))))
abbrev Jv:Ty:=.prod Ja (.prod Ja (.prod Ja (.prod Jp (.prod Ji (.prod Jd (.prod Jm (.prod Ji (.prod Jd (.own (TY_KidRun))))))))))
abbrev Jw:Ty:=.prod Ja (.prod Ja (.prod Ja (.prod Ja (.prod Ja (.prod Ja (.prod Ja (.prod Ja (.prod Ja (.prod Ja (.prod Ja (.prod Jp (.prod Ji (.prod Jd (.prod Jd (.prod (.slice Js) (.prod (.own Jb) (.prod Ji (.prod Jp (.prod Jq (.prod Jl (TY_Family)))))))))))))))))))))
abbrev Jx:Ty:=.prod (.prod Ji (.prod Ji Ja)) (.prod Jo Jm)
abbrev Jy:Ty:=.prod Ja (.prod Ja Jd)
abbrev Jz:Ty:=.prod Ja (.own Jb)
abbrev Jaa:Ty:=.prod Ja (.prod Ja Ji)
abbrev Jab:Ty:=.prod (.own Jq) (.own (.own Jq))
abbrev Jac:Ty:=.slice Jg
abbrev Jad:Ty:=.slice (TY_KidRun)
abbrev Jae:Ty:=.own Ja
abbrev Jaf:Ty:=.prod Ja Jm
abbrev Jag:Ty:=.prod Ji Ja
abbrev Jah:Ty:=.prod Ja (.prod Ja Jc)
abbrev Jai:Ty:=.prod Jg Jac
abbrev Jaj:Ty:=.slice (TY_Root)
abbrev Jak:Ty:=.own Jb
abbrev Jal:Ty:=.slice Jaa
abbrev Jam:Ty:=.slice Js
abbrev Jan:Ty:=.slice Jy
abbrev Jao:Ty:=.prod Ja (.prod Ja Je)
abbrev Jap:Ty:=.prod Jae Ja
abbrev Jaq:Ty:=.prod Ja (.prod Ja (.prod Ja (.prod Jp (.prod Jae (.prod Jc (.prod Jak (.prod Jae (.prod Jc (.own (TY_KidRun))))))))))
abbrev Jar:Ty:=.prod Ji Jag
set_option linter.unusedVariables false
set_option linter.unusedSimpArgs false
def tab:Tab:=[(3,⟨.int .i64,false,.basic⟩),(4,⟨.bool,false,.basic⟩),(22,⟨.slice Ja,false,.slice 3⟩),(24,⟨.prod Ji Jag,true,.struct [(0,22),(1,22),(2,3)]⟩),(25,⟨.slice Jai,false,.slice 94⟩),(26,⟨.slice Jb,false,.slice 115⟩),(28,⟨.prod Jar (.prod Jo Jm),true,.struct [(0,24),(3,25),(4,26)]⟩),(30,⟨.slice Jb,false,.slice 123⟩),(32,⟨.prod Ja Jm,true,.struct [(0,3),(1,30)]⟩),(34,⟨.prod Ji Ja,true,.struct [(0,22),(1,3)]⟩),(35,⟨.slice Jb,false,.slice 134⟩),(36,⟨.slice (TY_Root),false,.slice 110⟩),(37,⟨.slice Jy,false,.slice 138⟩),(39,⟨TY_World,true,.struct [(0,3),(1,3),(2,32),(4,34),(6,35),(7,36),(8,37)]⟩),(41,⟨.prod Ji Jag,true,.struct [(0,22),(1,22),(2,3)]⟩),(42,⟨.slice Jai,false,.slice 88⟩),(43,⟨.slice Jb,false,.slice 60⟩),(45,⟨.prod Jar (.prod Jo Jm),true,.struct [(0,41),(3,42),(4,43)]⟩),(60,⟨.prod Ja Jt,true,.struct [(0,3),(1,3),(2,3)]⟩),(85,⟨.slice Jq,false,.slice 196⟩),(86,⟨.slice Jg,false,.slice 129⟩),(88,⟨.prod Jg Jac,true,.struct [(0,85),(1,86)]⟩),(91,⟨.slice Jq,false,.slice 232⟩),(92,⟨.slice Jg,false,.slice 205⟩),(94,⟨.prod Jg Jac,true,.struct [(0,91),(1,92)]⟩),(98,⟨.slice Jt,false,.slice 198⟩),(99,⟨.slice Js,false,.slice 180⟩),(100,⟨.slice Jb,false,.slice 200⟩),(102,⟨.prod Ja Jb,true,.struct [(0,3),(1,3),(2,3),(3,3)]⟩),(104,⟨.prod Ja (.prod Ja (.prod Ja (.prod Ja (.prod Ja (.prod Jd Ji))))),true,.struct [(0,3),(1,3),(2,3),(3,3),(4,3),(5,98),(6,22)]⟩),(105,⟨.slice Jb,false,.slice 168⟩),(106,⟨.slice (TY_KidRun),false,.slice 163⟩),(108,⟨TY_Family,true,.struct [(0,3),(1,3),(2,3),(3,4),(4,22),(5,98),(6,105),(7,22),(8,98),(9,106)]⟩),(110,⟨TY_Root,true,.struct [(0,3),(1,3),(2,3),(3,3),(4,3),(5,3),(6,3),(7,3),(8,3),(9,3),(10,3),(11,4),(12,22),(13,98),(14,98),(15,99),(16,100),(17,22),(18,4),(19,102),(23,104),(30,108)]⟩),(115,⟨.prod Ja Jt,true,.struct [(0,3),(1,3),(2,3)]⟩),(123,⟨.prod Ja Jt,true,.struct [(0,3),(1,3),(2,3)]⟩),(129,⟨.slice Jq,true,.struct [(0,85)]⟩),(134,⟨.prod Ja Jt,true,.struct [(0,3),(1,3),(2,3)]⟩),(138,⟨.prod Ja (.prod Ja Jd),true,.struct [(0,3),(1,3),(2,98)]⟩),(161,⟨.slice Jaa,false,.slice 228⟩),(163,⟨TY_KidRun,true,.struct [(0,3),(1,3),(2,3),(3,3),(4,3),(5,3),(6,22),(7,105),(8,98),(9,161),(10,4),(11,102)]⟩),(168,⟨.prod Ja Jt,true,.struct [(0,3),(1,3),(2,3)]⟩),(180,⟨.prod Ja (.prod Ja Jaa),true,.struct [(0,3),(1,3),(2,3),(3,3),(4,22)]⟩),(196,⟨.prod Ja Jb,true,.struct [(0,3),(1,3),(2,3),(3,3)]⟩),(198,⟨.prod Ja Ja,true,.struct [(0,3),(1,3)]⟩),(200,⟨.prod Ja Jt,true,.struct [(0,3),(1,3),(2,3)]⟩),(205,⟨.slice Jq,true,.struct [(0,91)]⟩),(228,⟨.prod Ja (.prod Ja Ji),true,.struct [(0,3),(1,3),(2,22)]⟩),(232,⟨.prod Ja Jb,true,.struct [(0,3),(1,3),(2,3),(3,3)]⟩),(235,⟨.bool,true,.arr 8 4⟩),(257,⟨.slice Jp,false,.slice 4⟩)]
theorem mixedOk:Tryz.prog.follows .mixedOrders=true:=by kernel_rfl
theorem tabOk:Wai Tryz.prog tab:=Wwy (show WmV Tryz.prog tab tab=true by kernel_rfl)
def LM(x:Fn)(N:Nat){R:Type}(i k n:Nat)(st:St)(K:Ex->St->Option R):Option R:=lpM tab (x.c N) x.a N x.F i k n st K
def CF(x:Fn)(N:Nat)(p:List Nat):Ex->St->Option (Qs (x.s N)):=cxF tab (x.c N) x.a N (x.s N) x.F p
def CL(x:Fn)(N:Nat){R:Type}(i k:Nat)(p:List Nat)(n:Nat)(K:Ex->St->Option R):Ex->St->Option R:=cxL tab (x.c N) x.a N x.F i k p n K
def DN(x:Fn)(N:Nat)(d:WfE (x.s N).ps):Option (Qs (x.s N)):=den (R:=Qs (x.s N)) tab (x.c N) x.a N (x.s N) x.F d some
def GW(k:FuncId)(s:Sig):Prop:=WgS Tryz.prog k/\WoJ Tryz.prog k s
theorem GC{k:FuncId}{s:Sig}{Γ:Ctx}(h:GW k s)(hc:WdJ Tryz.prog Γ):WdJ Tryz.prog ((k,s)::Γ):=WtM h.2 h.1 hc
structure Gd where
  k:FuncId
  s:Nat->Sig
  h:∀N,GW k (s N)
def CX(l:List Gd)(N:Nat):Ctx:=l.map λg=>(g.k,g.s N)
theorem CO(N:Nat):∀(l:List Gd),WdJ Tryz.prog (CX l N)
  | []=>Wpn
  |g::l=>GC (g.h N) (CO N l)
theorem GR(x:Fn){k:FuncId}(N:Nat)(hf:Tryz.prog.funcs[k]?=some x.F)(hc:WdJ Tryz.prog (x.c N))(h:∀d,DN x N d=(x.s N).run d:=by intro d;kernel_rfl)(ci:(Wo4 x.F&&WjE x.F (x.s N).ps)=true:=by kernel_rfl)(hi:(x.s N).inl=none:=by rfl):GW k (x.s N):=
  ⟨Wd2 hf (Xi .. ▸ci).1,Wxi hi (Wse mixedOk tabOk hc hf (Xi .. ▸ci).2 (λd _ e=>⟨N,(h d).trans e⟩))⟩
def GF(x:Fn){k:FuncId}(hf:Tryz.prog.funcs[k]?=some x.F)(h:∀N d,DN x N d=(x.s N).run d:=by intro N d;kernel_rfl)(hc:∀N,WdJ Tryz.prog (x.c N):=by exactλN=>CO N _)(ci:∀N,(Wo4 x.F&&WjE x.F (x.s N).ps)=true:=by intro N;kernel_rfl)(hi:∀N,(x.s N).inl=none:=by intro N;rfl):Gd:=
  ⟨k,x.s,λN=>GR x N hf (hc N) (h N) (ci N) (hi N)⟩
def GN(x:Fn){k:FuncId}(hf:Tryz.prog.funcs[k]?=some x.F)(h:∀N d,DN x N d=(x.s N).run d:=by intro N d;kernel_rfl)(hc:∀N,WdJ Tryz.prog (x.c N):=by exactλN=>Wpn)(ci:∀N,(Wo4 x.F&&WjE x.F (x.s N).ps)=true:=by intro N;kernel_rfl)(hi:∀N,(x.s N).inl=none:=by intro N;rfl):Gd:=GF x hf h hc ci hi
def Zadr:Fn:=⟨Tryz.f52,Wv,λN=>Sig.of [.v Ji false,.v Ja false] [.v Ja false] (λd=>Znl N d.1 d.2.1),WR⟩
def Zads:Gd:=GN Zadr Tryz.func52
def Z8m:Fn:=⟨Tryz.f16,Wv,λN=>Sig.of [.v Jar true,.v Ja false] [.v Ja false] (λd=>Znw N d.1 d.2.1),CX [Zads]⟩
def Z8n:Gd:=GF Z8m Tryz.func16
def Zaf5:Fn:=⟨Tryz.f100,Wv,λN=>Sig.of [.v Jg false,.v Ja false] [.v Ja false] (λd=>Zor N d.1 d.2.1),WR⟩
def Zwp:Gd:=GN Zaf5 Tryz.func100
def Zaf6:Fn:=⟨Tryz.f162,Wv,λN=>Sig.of [.v Jg true,.v Ja false] [.v Ja false] (λd=>Zqs N d.1 d.2.1),CX [Zwp]⟩
def Zaf7:Gd:=GF Zaf6 Tryz.func162
def Zn3:Fn:=⟨Tryz.f101,λ |5=>[.canon [0,1,5,15]]|6=>[.canon [0,1,5]]|7=>[.canon [0,1,5]]|8=>[.canon [0,1,5,25]]|9=>[.canon [4]]|100005=>[.canon [0,1,5]]|_=>[],λN=>Sig.of [.v Jac false,.v Ja false] [.v Ja false] (λd=>Zka N d.1 d.2.1),CX [Zaf7]⟩
def Z25(a3:List Kz)(bY:Int)(i5:Int):St:=⟨[(0,vV Jac a3),(1,vI bY),(5,vI i5)],[],0⟩
def Zzo(a3:List Kz):St:=⟨[(4,vI (-1:Int))],[],0⟩
def Zzp(a3:List Kz)(fy:Int)(i8:Int)(t9:Bool):St:=⟨[(0,vV Jac a3),(1,vI fy),(5,vI i8),(15,vB t9)],[],0⟩
theorem Z26(N:Nat){R:Type}(K:Ex->St->Option R){a3:List Kz}{K0:Option R}{K1:Int->Int->Bool->Option R}(h0:K0=K .ret (Zzo a3))(h1:K1= λfy i8 t9=>K (.exit 0) (Zzp a3 fy i8 t9))(n:Nat)(bY:Int)(i5:Int):Zdy N a3 K0 K1 n bY i5=LM Zn3 N 0 100005 n (Z25 a3 bY i5) K:=by
  subst h0 h1
  induction n generalizing bY i5 with
  |zero=>kernel_rfl
  |succ n ih=>rw[Zdy];simp only[ih];kernel_rfl
theorem Zadt(N:Nat)(a1:List Kz)(aX:Int):DN Zn3 N (a1,aX,())=Zka N a1 aX:=by
  conv=>rhs;rw[Zka];simp(disch:=exact id (by kernel_rfl)) only[Z26 (R:=Unit×Kh) N (CF Zn3 N [1,1,1,0,1,0])]
  kernel_rfl
def Zadu:Gd:=GF Zn3 Tryz.func101 (λN d=>Zadt N d.1 d.2.1)
def Zadv:Fn:=⟨Tryz.f53,Wv,λN=>Sig.of [.v Jai true,.v Ja false] [.v Ja false] (λd=>Zpv N d.1 d.2.1),CX [Zwp,Zadu]⟩
def Zadw:Gd:=GF Zadv Tryz.func53
def Zmm:Fn:=⟨Tryz.f17,λ |5=>[.canon [0,1,5,15]]|6=>[.canon [0,1,5]]|7=>[.canon [0,1,5]]|8=>[.canon [0,1,5,25]]|9=>[.canon [4]]|100005=>[.canon [0,1,5]]|_=>[],λN=>Sig.of [.v Jo false,.v Ja false] [.v Ja false] (λd=>Zi4 N d.1 d.2.1),CX [Zadw]⟩
def Zzq(a3:List Km)(bY:Int)(i5:Int):St:=⟨[(0,vV Jo a3),(1,vI bY),(5,vI i5)],[],0⟩
def Zwq(a3:List Km):St:=⟨[(4,vI (-1:Int))],[],0⟩
def Zwr(a3:List Km)(fy:Int)(i8:Int)(t9:Bool):St:=⟨[(0,vV Jo a3),(1,vI fy),(5,vI i8),(15,vB t9)],[],0⟩
theorem Zzr(N:Nat){R:Type}(K:Ex->St->Option R){a3:List Km}{K0:Option R}{K1:Int->Int->Bool->Option R}(h0:K0=K .ret (Zwq a3))(h1:K1= λfy i8 t9=>K (.exit 0) (Zwr a3 fy i8 t9))(n:Nat)(bY:Int)(i5:Int):Zc8 N a3 K0 K1 n bY i5=LM Zmm N 0 100005 n (Zzq a3 bY i5) K:=by
  subst h0 h1
  induction n generalizing bY i5 with
  |zero=>kernel_rfl
  |succ n ih=>rw[Zc8];simp only[ih];kernel_rfl
theorem Zaal(N:Nat)(a1:List Km)(aX:Int):DN Zmm N (a1,aX,())=Zi4 N a1 aX:=by
  conv=>rhs;rw[Zi4];simp(disch:=exact id (by kernel_rfl)) only[Zzr (R:=Unit×Kh) N (CF Zmm N [1,1,1,0,1,0])]
  kernel_rfl
def Zaam:Gd:=GF Zmm Tryz.func17 (λN d=>Zaal N d.1 d.2.1)
def Zadx:Fn:=⟨Tryz.f18,Wv,λN=>Sig.of [.v Jm false,.v Ja false] [.v Ja false] (λd=>Zpw N d.1 d.2.1),WR⟩
def Zady:Gd:=GN Zadx Tryz.func18
def Z8o:Fn:=⟨Tryz.f5,Wv,λN=>Sig.of [.v Jx true,.v Ja false] [.v Ja false] (λd=>Znx N d.1 d.2.1),CX [Z8n,Zaam,Zady]⟩
def Z8p:Gd:=GF Z8o Tryz.func5
def Zn4:Fn:=⟨Tryz.f61,λ |3=>[.canon [0,3,4,11]]|4=>[.canon [0,3,4]]|5=>[.canon [0,3,4]]|100003=>[.canon [0,3,4]]|_=>[],λN=>Sig.of [.v Ji false] [.v Jae false] (λd=>Zid N d.1),WR⟩
def Z27(a2:List Int)(i3:Int)(l4:List Int):St:=⟨[(0,vV Ji a2),(3,vO 0),(4,vI i3)],[(0,.arr Ja l4)],1⟩
def Zzs(a2:List Int)(i5:Int)(t6:Bool)(l7:List Int):St:=⟨[(0,vV Ji a2),(3,vO 0),(4,vI i5),(11,vB t6)],[(0,.arr Ja l7)],1⟩
theorem Z28(N:Nat){R:Type}(K:Ex->St->Option R){a2:List Int}{K0:Int->Bool->Kj->Option R}(h0:K0= λi5 t6 l7=>K (.exit 0) (Zzs a2 i5 t6 l7))(n:Nat)(i3:Int)(l4:List Int):Zdz N a2 K0 n i3 l4=LM Zn4 N 0 100003 n (Z27 a2 i3 l4) K:=by
  subst h0
  induction n generalizing i3 l4 with
  |zero=>kernel_rfl
  |succ n ih=>rw[Zdz];simp only[ih];kernel_rfl
theorem Zadz(N:Nat)(a1:List Int):DN Zn4 N (a1,())=Zid N a1:=by
  conv=>rhs;rw[Zid];simp(disch:=exact id (by kernel_rfl)) only[Z28 (R:=Unit×Kac) N (CF Zn4 N [1,1,0,1,0])]
  kernel_rfl
def Zad0:Gd:=GN Zn4 Tryz.func61 (λN d=>Zadz N d.1)
def Z8q:Fn:=⟨Tryz.f22,Wv,λN=>Sig.of [.v Jar true] [.v (.prod Jae Jap) true] (λd=>Zny N d.1),CX [Zad0]⟩
def Z8r:Gd:=GF Z8q Tryz.func22
def Zaha:Fn:=⟨Tryz.f191,Wv,λN=>Sig.of [.v Jq true] [.v Jq true] (λd=>Zrm N d.1),WR⟩
def Zahb:Gd:=GN Zaha Tryz.func191
def Zo7:Fn:=⟨Tryz.f122,λ |3=>[.canon [0,3,4,11]]|4=>[.canon [0,3,4]]|5=>[.canon [0,3,4]]|100003=>[.canon [0,3,4]]|_=>[],λN=>Sig.of [.v Jg false] [.v (.own Jq) false] (λd=>Zjk N d.1),CX [Zahb]⟩
def Z5x(a2:List Ka)(i3:Int)(l4:List Ka):St:=⟨[(0,vV Jg a2),(3,vO 0),(4,vI i3)],[(0,.arr Jq l4)],1⟩
def Z29(a2:List Ka)(i6:Int)(t7:Bool)(l8:List Ka):St:=⟨[(0,vV Jg a2),(3,vO 0),(4,vI i6),(11,vB t7)],[(0,.arr Jq l8)],1⟩
theorem Z5y(N:Nat){R:Type}(K:Ex->St->Option R){a2:List Ka}{K0:Int->Bool->Kz->Option R}(h0:K0= λi6 t7 l8=>K (.exit 0) (Z29 a2 i6 t7 l8))(n:Nat)(i3:Int)(l4:List Ka):Zfa N a2 K0 n i3 l4=LM Zo7 N 0 100003 n (Z5x a2 i3 l4) K:=by
  subst h0
  induction n generalizing i3 l4 with
  |zero=>kernel_rfl
  |succ n ih=>rw[Zfa];simp only[ih];kernel_rfl
theorem Zaf8(N:Nat)(a1:List Ka):DN Zo7 N (a1,())=Zjk N a1:=by
  conv=>rhs;rw[Zjk];simp(disch:=exact id (by kernel_rfl)) only[Z5y (R:=Unit×(Kz×Unit)) N (CF Zo7 N [1,1,0,1,0])]
  kernel_rfl
def Zws:Gd:=GF Zo7 Tryz.func122 (λN d=>Zaf8 N d.1)
def Zaf9:Fn:=⟨Tryz.f192,Wv,λN=>Sig.of [.v Jg true] [.v (.own Jq) true] (λd=>Zqt N d.1),CX [Zws]⟩
def Zaga:Gd:=GF Zaf9 Tryz.func192
def Zn5:Fn:=⟨Tryz.f123,λ |1=>[.nest 7 (.own Jq)]|3=>[.canon [0,3,4,11]]|4=>[.canon [0,3,4]]|5=>[.canon [0,3,4]]|100003=>[.canon [0,3,4]]|_=>[],λN=>Sig.of [.v Jac false] [.v (.own (.own Jq)) false] (λd=>Zkb N d.1),CX [Zaga]⟩
def Z3a(a2:List Kz)(i3:Int)(l4:List Kz):St:=⟨[(0,vV Jac a2),(3,vO 0),(4,vI i3)],[(0,.arr (.own Jq) l4)],1⟩
def Zzt(a2:List Kz)(i6:Int)(t7:Bool)(l8:List Kz):St:=⟨[(0,vV Jac a2),(3,vO 0),(4,vI i6),(11,vB t7)],[(0,.arr (.own Jq) l8)],1⟩
theorem Z3b(N:Nat){R:Type}(K:Ex->St->Option R){a2:List Kz}{K0:Int->Bool->Kw->Option R}(h0:K0= λi6 t7 l8=>K (.exit 0) (Zzt a2 i6 t7 l8))(n:Nat)(i3:Int)(l4:List Kz):Zd0 N a2 K0 n i3 l4=LM Zn5 N 0 100003 n (Z3a a2 i3 l4) K:=by
  subst h0
  induction n generalizing i3 l4 with
  |zero=>kernel_rfl
  |succ n ih=>rw[Zd0];simp only[ih];kernel_rfl
theorem Zad1(N:Nat)(a1:List Kz):DN Zn5 N (a1,())=Zkb N a1:=by
  conv=>rhs;rw[Zkb];simp(disch:=exact id (by kernel_rfl)) only[Z3b (R:=Unit×(Kw×Unit)) N (CF Zn5 N [1,1,0,1,0])]
  kernel_rfl
def Zad2:Gd:=GF Zn5 Tryz.func123 (λN d=>Zad1 N d.1)
def Zad3:Fn:=⟨Tryz.f62,Wv,λN=>Sig.of [.v Jai true] [.v Jab true] (λd=>Zpx N d.1),CX [Zws,Zad2]⟩
def Zad4:Gd:=GF Zad3 Tryz.func62
def Zmn:Fn:=⟨Tryz.f23,λ |1=>[.nest 7 Jab]|3=>[.canon [0,3,4,11]]|4=>[.canon [0,3,4]]|5=>[.canon [0,3,4]]|100003=>[.canon [0,3,4]]|_=>[],λN=>Sig.of [.v Jo false] [.v (.own Jab) false] (λd=>Zi5 N d.1),CX [Zad4]⟩
def Zzu(a2:List Km)(i3:Int)(l4:List Km):St:=⟨[(0,vV Jo a2),(3,vO 0),(4,vI i3)],[(0,.arr Jab l4)],1⟩
def Zwt(a2:List Km)(i6:Int)(t7:Bool)(l8:List Km):St:=⟨[(0,vV Jo a2),(3,vO 0),(4,vI i6),(11,vB t7)],[(0,.arr Jab l8)],1⟩
theorem Zzv(N:Nat){R:Type}(K:Ex->St->Option R){a2:List Km}{K0:Int->Bool->Kah->Option R}(h0:K0= λi6 t7 l8=>K (.exit 0) (Zwt a2 i6 t7 l8))(n:Nat)(i3:Int)(l4:List Km):Zc9 N a2 K0 n i3 l4=LM Zmn N 0 100003 n (Zzu a2 i3 l4) K:=by
  subst h0
  induction n generalizing i3 l4 with
  |zero=>kernel_rfl
  |succ n ih=>rw[Zc9];simp only[ih];kernel_rfl
theorem Zaan(N:Nat)(a1:List Km):DN Zmn N (a1,())=Zi5 N a1:=by
  conv=>rhs;rw[Zi5];simp(disch:=exact id (by kernel_rfl)) only[Zzv (R:=Unit×(Kah×Unit)) N (CF Zmn N [1,1,0,1,0])]
  kernel_rfl
def Zaao:Gd:=GF Zmn Tryz.func23 (λN d=>Zaan N d.1)
def Zagb:Fn:=⟨Tryz.f63,Wv,λN=>Sig.of [.v Jb true] [.v Jb true] (λd=>Zqy N d.1),WR⟩
def Zagc:Gd:=GN Zagb Tryz.func63
def Zn6:Fn:=⟨Tryz.f24,λ |3=>[.canon [0,3,4,11]]|4=>[.canon [0,3,4]]|5=>[.canon [0,3,4]]|100003=>[.canon [0,3,4]]|_=>[],λN=>Sig.of [.v Jm false] [.v Jak false] (λd=>Zkl N d.1),CX [Zagc]⟩
def Z3c(a2:List Kb)(i3:Int)(l4:List Kb):St:=⟨[(0,vV Jm a2),(3,vO 0),(4,vI i3)],[(0,.arr Jb l4)],1⟩
def Zzw(a2:List Kb)(i6:Int)(t7:Bool)(l8:List Kb):St:=⟨[(0,vV Jm a2),(3,vO 0),(4,vI i6),(11,vB t7)],[(0,.arr Jb l8)],1⟩
theorem Z3d(N:Nat){R:Type}(K:Ex->St->Option R){a2:List Kb}{K0:Int->Bool->Kr->Option R}(h0:K0= λi6 t7 l8=>K (.exit 0) (Zzw a2 i6 t7 l8))(n:Nat)(i3:Int)(l4:List Kb):Zef N a2 K0 n i3 l4=LM Zn6 N 0 100003 n (Z3c a2 i3 l4) K:=by
  subst h0
  induction n generalizing i3 l4 with
  |zero=>kernel_rfl
  |succ n ih=>rw[Zef];simp only[ih];kernel_rfl
theorem Zad5(N:Nat)(a1:List Kb):DN Zn6 N (a1,())=Zkl N a1:=by
  conv=>rhs;rw[Zkl];simp(disch:=exact id (by kernel_rfl)) only[Z3d (R:=Unit×Kaa) N (CF Zn6 N [1,1,0,1,0])]
  kernel_rfl
def Zad6:Gd:=GF Zn6 Tryz.func24 (λN d=>Zad5 N d.1)
def Z8s:Fn:=⟨Tryz.f7,Wv,λN=>Sig.of [.v Jx true] [.v (.prod (.prod Jae Jap) (.prod (.own Jab) Jak)) true] (λd=>Zgh N d.1),CX [Z8r,Zaao,Zad6]⟩
def Z8t:Gd:=GF Z8s Tryz.func7
def Zahc:Fn:=⟨Tryz.f58,Wv,λN=>Sig.of [.v Ja false,.v Ja false,.v Ja false] [.v Jp false] (λd=>Zf N d.1 d.2.1 d.2.2.1),WR⟩
def Z1:Gd:=GN Zahc Tryz.func58
def Zagd:Fn:=⟨Tryz.f103,Wv,λN=>Sig.of [.v Ja false] [.v Jp false] (λd=>Zai N d.1),CX [Z1]⟩
def Zbw:Gd:=GF Zagd Tryz.func103
def Zn7:Fn:=⟨Tryz.f102,λ |4=>[.canon [0,3,10]]|5=>[.canon [0,3]]|6=>[.canon [0,3,18]]|7=>[.canon [2]]|100004=>[.canon [0,3]]|_=>[],λN=>Sig.of [.v Ji false] [.v Jp false] (λd=>Zie N d.1),CX [Zbw]⟩
def Z3e(l2:List Int)(i3:Int):St:=⟨[(0,vV Ji l2),(3,vI i3)],[],0⟩
def Zzx(l2:List Int):St:=⟨[(2,vB false)],[],0⟩
def Zzy(l2:List Int)(i5:Int)(t6:Bool):St:=⟨[(0,vV Ji l2),(3,vI i5),(10,vB t6)],[],0⟩
theorem Z3f(N:Nat){R:Type}(K:Ex->St->Option R){l2:List Int}{K0:Option R}{K1:Int->Bool->Option R}(h0:K0=K .ret (Zzx l2))(h1:K1= λi5 t6=>K (.exit 0) (Zzy l2 i5 t6))(n:Nat)(i3:Int):Zd1 N l2 K0 K1 n i3=LM Zn7 N 0 100004 n (Z3e l2 i3) K:=by
  subst h0 h1
  induction n generalizing i3 with
  |zero=>kernel_rfl
  |succ n ih=>rw[Zd1];simp only[ih];kernel_rfl
theorem Zad7(N:Nat)(l1:List Int):DN Zn7 N (l1,())=Zie N l1:=by
  conv=>rhs;rw[Zie];simp(disch:=exact id (by kernel_rfl)) only[Z3f (R:=Unit×Ko) N (CF Zn7 N [1,1,0,1,0])]
  kernel_rfl
def Zum:Gd:=GF Zn7 Tryz.func102 (λN d=>Zad7 N d.1)
def Zlr:Fn:=⟨Tryz.f54,λ |4=>[.canon [1,3,24]]|5=>[.canon [1,3]]|6=>[.canon [1,3,33]]|7=>[.canon [2]]|100004=>[.canon [1,3]]|_=>[],λN=>Sig.of [.v Jar true] [.v Jp false] (λd=>Zh4 N d.1),CX [Zum,Zbw,Z1]⟩
def Zwu(i4:Int)(b5:List Int×List Int×Int):St:=⟨[(1,vP 0 0),(3,vI i4)],[(0,.box [.val Ji b5.1,.val Ji b5.2.1,.val Ja b5.2.2])],1⟩
def Zuu(b5:List Int×List Int×Int):St:=⟨[(2,vB false)],[],0⟩
def Zuv(b5:List Int×List Int×Int)(i7:Int)(t8:Bool):St:=⟨[(1,vP 0 0),(3,vI i7),(24,vB t8)],[(0,.box [.val Ji b5.1,.val Ji b5.2.1,.val Ja b5.2.2])],1⟩
theorem Zwv(N:Nat){R:Type}(K:Ex->St->Option R){b5:List Int×List Int×Int}{K0:Option R}{K1:Int->Bool->Option R}(h0:K0=K .ret (Zuu b5))(h1:K1= λi7 t8=>K (.exit 0) (Zuv b5 i7 t8))(n:Nat)(i4:Int):Zbh N b5 K0 K1 n i4=LM Zlr N 0 100004 n (Zwu i4 b5) K:=by
  subst h0 h1
  induction n generalizing i4 with
  |zero=>kernel_rfl
  |succ n ih=>rw[Zbh];simp only[ih];kernel_rfl
theorem Z8u(N:Nat)(s1:List Int×List Int×Int):DN Zlr N (s1,())=Zh4 N s1:=by
  conv=>rhs;rw[Zh4];simp(disch:=exact id (by kernel_rfl)) only[Zwv (R:=Unit×Ko) N (CF Zlr N [1,1,0,1,0])]
  kernel_rfl
def Z8v:Gd:=GF Zlr Tryz.func54 (λN d=>Z8u N d.1)
def Zage:Fn:=⟨Tryz.f231,Wv,λN=>Sig.of [.v Ja false] [.v Jp false] (λd=>Zbn N d.1),CX [Z1]⟩
def Zagf:Gd:=GF Zage Tryz.func231
def Zad8:Fn:=⟨Tryz.f232,Wv,λN=>Sig.of [.v Ja false] [.v Jp false] (λd=>Zcg N d.1),CX [Z1]⟩
def Zh9:Gd:=GF Zad8 Tryz.func232
def Zahd:Fn:=⟨Tryz.f163,Wv,λN=>Sig.of [.v Jq true] [.v Jp false] (λd=>Zli N d.1),CX [Zagf,Zbw,Zh9,Z1]⟩
def Zrv:Gd:=GF Zahd Tryz.func163
def Zn8:Fn:=⟨Tryz.f164,λ |6=>[.canon [0,5,6,7,24]]|7=>[.canon [0,5,6,7]]|8=>[.canon [0,5,6,7,32]]|9=>[.canon [0,5,6,7]]|10=>[.canon [0,5,6,7,40]]|11=>[.canon [0,5,6,7]]|12=>[.canon [0,5,6,7,44]]|13=>[.canon [4]]|100006=>[.canon [0,5,6,7]]|_=>[],λN=>Sig.of [.v Jg false,.v Ja false] [.v Jp false] (λd=>Zkc N d.1 d.2.1),WR⟩
def Z3g(ae:List Ka)(gW:Int)(d5:Int)(k6:Int):St:=⟨[(0,vV Jg ae),(5,vI gW),(6,vI d5),(7,vI k6)],[],0⟩
def Zzz(ae:List Ka)(gW:Int):St:=⟨[(4,vB false)],[],0⟩
def Zz0(ae:List Ka)(gW:Int)(d7:Int)(k8:Int)(t9:Bool):St:=⟨[(0,vV Jg ae),(5,vI gW),(6,vI d7),(7,vI k8),(24,vB t9)],[],0⟩
theorem Z3h(N:Nat){R:Type}(K:Ex->St->Option R){ae:List Ka}{gW:Int}{K0:Option R}{K1:Int->Int->Bool->Option R}(h0:K0=K .ret (Zzz ae gW))(h1:K1= λd7 k8 t9=>K (.exit 0) (Zz0 ae gW d7 k8 t9))(n:Nat)(d5:Int)(k6:Int):Zaj N ae gW K0 K1 n d5 k6=LM Zn8 N 0 100006 n (Z3g ae gW d5 k6) K:=by
  subst h0 h1
  induction n generalizing d5 k6 with
  |zero=>kernel_rfl
  |succ n ih=>rw[Zaj];simp only[ih];kernel_rfl
theorem Zad9(N:Nat)(ai:List Ka)(i2:Int):DN Zn8 N (ai,i2,())=Zkc N ai i2:=by
  conv=>rhs;rw[Zkc];simp(disch:=exact id (by kernel_rfl)) only[Z3h (R:=Unit×Ko) N (CF Zn8 N [1,1,1,1,0,1,0])]
  kernel_rfl
def Zaea:Gd:=GN Zn8 Tryz.func164 (λN d=>Zad9 N d.1 d.2.1)
def Zn9:Fn:=⟨Tryz.f104,λ |6=>[.canon [0,3,4,5,12]]|7=>[.canon [0,3,4,5]]|8=>[.canon [0,3,4,5,20]]|9=>[.canon [2]]|10=>[.canon [0,3,4,5,25]]|11=>[.canon [0,3,4,5,25,26]]|12=>[.canon [0,3,4,5]]|13=>[.canon [0,3,4,5,25,30]]|14=>[.canon [0,3,4,5]]|15=>[.canon [0,3,4,5,25,34]]|16=>[.canon [0,3,4,5,39]]|17=>[.canon [2]]|18=>[.canon [0,3,4,5,40]]|19=>[.canon [0,3,4,5]]|20=>[.canon [0,3,4,5,49]]|21=>[.canon [2]]|22=>[.canon [0,3,4,5,51]]|23=>[.canon [2]]|100006=>[.canon [0,3,4,5]]|_=>[],λN=>Sig.of [.v Jg false] [.v Jp false] (λd=>Zif N d.1),CX [Zrv,Zaea]⟩
def Z3i(aj:List Ka)(d3:Int)(aI:Int)(i5:Int):St:=⟨[(0,vV Jg aj),(3,vI d3),(4,vI aI),(5,vI i5)],[],0⟩
def Zz1(aj:List Ka):St:=⟨[(2,vB false)],[],0⟩
def Zz2(aj:List Ka)(d8:Int)(iy:Int)(aT:Int)(aq:Bool):St:=⟨[(0,vV Jg aj),(3,vI d8),(4,vI iy),(5,vI aT),(12,vB aq)],[],0⟩
theorem Z3j(N:Nat){R:Type}(K:Ex->St->Option R){aj:List Ka}{K0:Option R}{K1:Int->Int->Int->Bool->Option R}(h0:K0=K .ret (Zz1 aj))(h1:K1= λd8 iy aT aq=>K (.exit 0) (Zz2 aj d8 iy aT aq))(n:Nat)(d3:Int)(aI:Int)(i5:Int):Zak N aj K0 K1 n d3 aI i5=LM Zn9 N 0 100006 n (Z3i aj d3 aI i5) K:=by
  subst h0 h1
  induction n generalizing d3 aI i5 with
  |zero=>kernel_rfl
  |succ n ih=>rw[Zak];simp only[ih];kernel_rfl
theorem Zaeb(N:Nat)(ai:List Ka):DN Zn9 N (ai,())=Zif N ai:=by
  conv=>rhs;rw[Zif];simp(disch:=exact id (by kernel_rfl)) only[Z3j (R:=Unit×Ko) N (CF Zn9 N [1,1,1,1,0,1,0])]
  kernel_rfl
def Zun:Gd:=GF Zn9 Tryz.func104 (λN d=>Zaeb N d.1)
def Zmo:Fn:=⟨Tryz.f105,λ |2=>[.canon [0,3,7]]|3=>[.canon [0,3]]|4=>[.canon [0,3,15]]|5=>[.canon [2]]|100002=>[.canon [0,3]]|_=>[],λN=>Sig.of [.v Jg false] [.v Jp false] (λd=>Zg5 N d.1),WR⟩
def Zz3(aj:List Ka)(i3:Int):St:=⟨[(0,vV Jg aj),(3,vI i3)],[],0⟩
def Zww(aj:List Ka):St:=⟨[(2,vB true)],[],0⟩
def Zwx(aj:List Ka)(i4:Int)(t5:Bool):St:=⟨[(0,vV Jg aj),(3,vI i4),(7,vB t5)],[],0⟩
theorem Zz4(N:Nat){R:Type}(K:Ex->St->Option R){aj:List Ka}{K0:Option R}{K1:Int->Bool->Option R}(h0:K0=K .ret (Zww aj))(h1:K1= λi4 t5=>K (.exit 0) (Zwx aj i4 t5))(n:Nat)(i3:Int):Zcz N aj K0 K1 n i3=LM Zmo N 0 100002 n (Zz3 aj i3) K:=by
  subst h0 h1
  induction n generalizing i3 with
  |zero=>kernel_rfl
  |succ n ih=>rw[Zcz];simp only[ih];kernel_rfl
theorem Zaap(N:Nat)(ai:List Ka):DN Zmo N (ai,())=Zg5 N ai:=by
  conv=>rhs;rw[Zg5];simp(disch:=exact id (by kernel_rfl)) only[Zz4 (R:=Unit×Ko) N (CF Zmo N [1,0,1,0])]
  kernel_rfl
def Zso:Gd:=GN Zmo Tryz.func105 (λN d=>Zaap N d.1)
def Zaaq:Fn:=⟨Tryz.f165,Wv,λN=>Sig.of [.v Jq true] [.v Ja false] (λd=>Za1 N d.1),CX [Zrv]⟩
def Zqi:Gd:=GF Zaaq Tryz.func165
def Zo8:Fn:=⟨Tryz.f106,λ |4=>[.canon [0,3,14]]|5=>[.canon [0,3]]|6=>[.canon [0,3,22]]|7=>[.canon [2]]|100004=>[.canon [0,3]]|_=>[],λN=>Sig.of [.v Jg false] [.v Jp false] (λd=>Zjl N d.1),CX [Zun,Zso,Zqi]⟩
def Z5z(aB:List Ka)(i5:Int):St:=⟨[(0,vV Jg aB),(3,vI i5)],[],0⟩
def Z3k(aB:List Ka):St:=⟨[(2,vB false)],[],0⟩
def Z3l(aB:List Ka)(i7:Int)(t8:Bool):St:=⟨[(0,vV Jg aB),(3,vI i7),(14,vB t8)],[],0⟩
theorem Z50(N:Nat){R:Type}(K:Ex->St->Option R){aB:List Ka}{K0:Option R}{K1:Int->Bool->Option R}(h0:K0=K .ret (Z3k aB))(h1:K1= λi7 t8=>K (.exit 0) (Z3l aB i7 t8))(n:Nat)(i5:Int):Zfb N aB K0 K1 n i5=LM Zo8 N 0 100004 n (Z5z aB i5) K:=by
  subst h0 h1
  induction n generalizing i5 with
  |zero=>kernel_rfl
  |succ n ih=>rw[Zfb];simp only[ih];kernel_rfl
theorem Zagg(N:Nat)(ai:List Ka):DN Zo8 N (ai,())=Zjl N ai:=by
  conv=>rhs;rw[Zjl];simp(disch:=exact id (by kernel_rfl)) only[Z50 (R:=Unit×Ko) N (CF Zo8 N [1,1,0,1,0])]
  kernel_rfl
def Zagh:Gd:=GF Zo8 Tryz.func106 (λN d=>Zagg N d.1)
def Zoa:Fn:=⟨Tryz.f55,λ |4=>[.canon [1,3,28]]|5=>[.canon [1,3]]|6=>[.canon [1,3,38]]|7=>[.canon [2]]|100004=>[.canon [1,3]]|_=>[],λN=>Sig.of [.v Jai true] [.v Jp false] (λd=>Zih N d.1),CX [Zun,Zso,Zagh]⟩
def Z3m(i4:Int)(b5:List Ka×List Kz):St:=⟨[(1,vP 0 0),(3,vI i4)],[(0,.box [.val Jg b5.1,.val Jac b5.2])],1⟩
def Zz5(b5:List Ka×List Kz):St:=⟨[(2,vB false)],[],0⟩
def Zz6(b5:List Ka×List Kz)(i7:Int)(t8:Bool):St:=⟨[(1,vP 0 0),(3,vI i7),(28,vB t8)],[(0,.box [.val Jg b5.1,.val Jac b5.2])],1⟩
theorem Z3n(N:Nat){R:Type}(K:Ex->St->Option R){b5:List Ka×List Kz}{K0:Option R}{K1:Int->Bool->Option R}(h0:K0=K .ret (Zz5 b5))(h1:K1= λi7 t8=>K (.exit 0) (Zz6 b5 i7 t8))(n:Nat)(i4:Int):Zci N b5 K0 K1 n i4=LM Zoa N 0 100004 n (Z3m i4 b5) K:=by
  subst h0 h1
  induction n generalizing i4 with
  |zero=>kernel_rfl
  |succ n ih=>rw[Zci];simp only[ih];kernel_rfl
theorem Zaec(N:Nat)(p1:List Ka×List Kz):DN Zoa N (p1,())=Zih N p1:=by
  conv=>rhs;rw[Zih];simp(disch:=exact id (by kernel_rfl)) only[Z3n (R:=Unit×Ko) N (CF Zoa N [1,1,0,1,0])]
  kernel_rfl
def Zaed:Gd:=GF Zoa Tryz.func55 (λN d=>Zaec N d.1)
def Zls:Fn:=⟨Tryz.f19,λ |4=>[.canon [1,3,24]]|5=>[.canon [1,3]]|6=>[.canon [1,3,33]]|7=>[.canon [2]]|100004=>[.canon [1,3]]|_=>[],λN=>Sig.of [.v Jx true] [.v Jp false] (λd=>Zh5 N d.1),CX [Z8v,Zaed]⟩
def Zwy(i3:Int)(b4:Ki×List Km×List Kb):St:=⟨[(1,vP 0 0),(3,vI i3)],[(0,.box [.val Ji b4.1.1,.val Ji b4.1.2.1,.val Ja b4.1.2.2,.val Jo b4.2.1,.val Jm b4.2.2])],1⟩
def Zuw(b4:Ki×List Km×List Kb):St:=⟨[(2,vB false)],[],0⟩
def Zux(b4:Ki×List Km×List Kb)(i6:Int)(t7:Bool):St:=⟨[(1,vP 0 0),(3,vI i6),(24,vB t7)],[(0,.box [.val Ji b4.1.1,.val Ji b4.1.2.1,.val Ja b4.1.2.2,.val Jo b4.2.1,.val Jm b4.2.2])],1⟩
theorem Zwz(N:Nat){R:Type}(K:Ex->St->Option R){b4:Ki×List Km×List Kb}{K0:Option R}{K1:Int->Bool->Option R}(h0:K0=K .ret (Zuw b4))(h1:K1= λi6 t7=>K (.exit 0) (Zux b4 i6 t7))(n:Nat)(i3:Int):Zbi N b4 K0 K1 n i3=LM Zls N 0 100004 n (Zwy i3 b4) K:=by
  subst h0 h1
  induction n generalizing i3 with
  |zero=>kernel_rfl
  |succ n ih=>rw[Zbi];simp only[ih];kernel_rfl
theorem Z8w(N:Nat)(s1:Ki×List Km×List Kb):DN Zls N (s1,())=Zh5 N s1:=by
  conv=>rhs;rw[Zh5];simp(disch:=exact id (by kernel_rfl)) only[Zwz (R:=Unit×Ko) N (CF Zls N [1,1,0,1,0])]
  kernel_rfl
def Z8x:Gd:=GF Zls Tryz.func19 (λN d=>Z8w N d.1)
def Zob:Fn:=⟨Tryz.f56,λ |5=>[.canon [0,2,4,5,14]]|6=>[.canon [0,2,4,5]]|7=>[.canon [0,2,4,5]]|100005=>[.adoptC 4 1 Jb,.canon [0,2,4,5]]|_=>[],λN=>Sig.of [.v Ji false] [.v Jz true,.v Jp false] (λd=>Zkd N d.1),CX [Zum]⟩
def Z3o(l3:List Int)(i4:Int)(l7:List Kb):St:=⟨[(0,vV Ji l3),(2,vP 0 0),(4,vP 1 0),(5,vI i4)],[(0,.box [.val Ja (0:Int),.nils]),(1,.box [.val Ja (0:Int),.own 2]),(2,.arr Jb l7)],3⟩
def Zz7(l3:List Int)(i8:Int)(t9:Bool)(cd:List Kb):St:=⟨[(0,vV Ji l3),(2,vP 0 0),(4,vP 1 0),(5,vI i8),(14,vB t9)],[(0,.box [.val Ja (0:Int),.nils]),(1,.box [.val Ja (0:Int),.own 2]),(2,.arr Jb cd)],3⟩
theorem Z3p(N:Nat){R:Type}(K:Ex->St->Option R){l3:List Int}{K0:Int->Bool->Kr->Option R}(h0:K0= λi8 t9 cd=>K (.exit 0) (Zz7 l3 i8 t9 cd))(n:Nat)(i4:Int)(l7:List Kb):Zd4 N l3 K0 n i4 l7=LM Zob N 0 100005 n (Z3o l3 i4 l7) K:=by
  subst h0
  induction n generalizing i4 l7 with
  |zero=>kernel_rfl
  |succ n ih=>rw[Zd4];simp only[ih];kernel_rfl
theorem Zaee(N:Nat)(l1:List Int):DN Zob N (l1,())=Zkd N l1:=by
  conv=>rhs;rw[Zkd];simp(disch:=exact id (by kernel_rfl)) only[Z3p (R:=Unit×(Kt×Ko)) N (CF Zob N [1,1,1,0,1,0])]
  kernel_rfl
def Zaef:Gd:=GF Zob Tryz.func56 (λN d=>Zaee N d.1)
def Zaar:Fn:=⟨Tryz.f107,Wv,λN=>Sig.of [] [.v Jae false] (λd=>Zri N),WR⟩
def Zaas:Gd:=GN Zaar Tryz.func107
def Zaat:Fn:=⟨Tryz.f166,Wv,λN=>Sig.of [.v Ji false] [.v Jae false] (λd=>Zhe N d.1),WR⟩
def Zmp:Gd:=GN Zaat Tryz.func166
def Zaau:Fn:=⟨Tryz.f170,Wv,λN=>Sig.of [.v Ja false] [.v Ja false,.v Ja false] (λd=>Zbt N d.1),WR⟩
def Zjx:Gd:=GN Zaau Tryz.func170
def Zaeg:Fn:=⟨Tryz.f168,Wv,λN=>Sig.of [.v Ja false] [.v Jp false] (λd=>Zdn N d.1),CX [Z1]⟩
def Zkz:Gd:=GF Zaeg Tryz.func168
def Z8y:Fn:=⟨Tryz.f171,Wv,λN=>Sig.of [.v Ja false] [.v Ja false] (λd=>Zkv N d.1),CX [Zkz]⟩
def Zr4:Gd:=GF Z8y Tryz.func171
def Zmq:Fn:=⟨Tryz.f167,λ |5=>[.canon [0,3,4,14]]|6=>[.canon [0,3,4]]|7=>[.canon [0,3,4,22]]|8=>[.canon [2]]|9=>[.canon [0,3,4,5]]|10=>[.canon [0,3,4,5,32]]|11=>[.canon [0,3,4,5,43]]|12=>[.canon [2]]|13=>[.canon [0,3,4]]|100005=>[.canon [0,3,4]]|_=>[],λN=>Sig.of [.v Ji false] [.v Jp false] (λd=>Zdu N d.1),CX [Z1,Zjx,Zr4]⟩
def Zz8(l2:List Int)(i3:Int)(l4:List Bool):St:=⟨[(0,vV Ji l2),(3,vO 0),(4,vI i3)],[(0,.arr Jp l4)],1⟩
def Zw0(l2:List Int):St:=⟨[(2,vB false)],[],0⟩
def Zw1(l2:List Int)(i8:Int)(t9:Bool)(cd:List Bool):St:=⟨[(0,vV Ji l2),(3,vO 0),(4,vI i8),(14,vB t9)],[(0,.arr Jp cd)],1⟩
theorem Zz9(N:Nat){R:Type}(K:Ex->St->Option R){l2:List Int}{K0:Option R}{K1:Int->Bool->(List Bool)->Option R}(h0:K0=K .ret (Zw0 l2))(h1:K1= λi8 t9 cd=>K (.exit 0) (Zw1 l2 i8 t9 cd))(n:Nat)(i3:Int)(l4:List Bool):Zb1 N l2 K0 K1 n i3 l4=LM Zmq N 0 100005 n (Zz8 l2 i3 l4) K:=by
  subst h0 h1
  induction n generalizing i3 l4 with
  |zero=>kernel_rfl
  |succ n ih=>rw[Zb1];simp only[ih];kernel_rfl
theorem Zaav(N:Nat)(l1:List Int):DN Zmq N (l1,())=Zdu N l1:=by
  conv=>rhs;rw[Zdu];simp(disch:=exact id (by kernel_rfl)) only[Zz9 (R:=Unit×Ko) N (CF Zmq N [1,1,1,0,1,0])]
  kernel_rfl
def Zmr:Gd:=GF Zmq Tryz.func167 (λN d=>Zaav N d.1)
def Zo9:Fn:=⟨Tryz.f169,λ |2=>[.canon [0,1,5,11]]|3=>[.canon [0,1,5]]|4=>[.canon [0,1,5,6]]|5=>[.canon [0,1,5,28]]|6=>[.canon [4]]|100002=>[.canon [0,1,5]]|_=>[],λN=>Sig.of [.v Ji false,.v Ja false] [.v Ja false] (λd=>Zgg N d.1 d.2.1),CX [Zjx]⟩
def Z51(l3:List Int)(dT:Int)(i5:Int):St:=⟨[(0,vV Ji l3),(1,vI dT),(5,vI i5)],[],0⟩
def Z3q(l3:List Int)(dT:Int)(t7:Int):St:=⟨[(4,vI t7)],[],0⟩
def Z3r(l3:List Int)(dT:Int)(i8:Int)(t9:Bool):St:=⟨[(0,vV Ji l3),(1,vI dT),(5,vI i8),(11,vB t9)],[],0⟩
theorem Z52(N:Nat){R:Type}(K:Ex->St->Option R){l3:List Int}{dT:Int}{K0:Int->Option R}{K1:Int->Bool->Option R}(h0:K0= λt7=>K .ret (Z3q l3 dT t7))(h1:K1= λi8 t9=>K (.exit 0) (Z3r l3 dT i8 t9))(n:Nat)(i5:Int):Zc7 N l3 dT K0 K1 n i5=LM Zo9 N 0 100002 n (Z51 l3 dT i5) K:=by
  subst h0 h1
  induction n generalizing i5 with
  |zero=>kernel_rfl
  |succ n ih=>rw[Zc7];simp only[ih];kernel_rfl
theorem Zagi(N:Nat)(l1:List Int)(aV:Int):DN Zo9 N (l1,aV,())=Zgg N l1 aV:=by
  conv=>rhs;rw[Zgg];simp(disch:=exact id (by kernel_rfl)) only[Z52 (R:=Unit×Kh) N (CF Zo9 N [1,0,1,0])]
  kernel_rfl
def Zrk:Gd:=GF Zo9 Tryz.func169 (λN d=>Zagi N d.1 d.2.1)
def Zms:Fn:=⟨Tryz.f108,λ |10=>[.canon [0,1,2,9,13,60]]|11=>[.canon [0,1,2,9,13]]|12=>[.canon [0,1,2,9,13,67]]|13=>[.canon [9]]|14=>[.canon [6,7,8]]|100010=>[.canon [0,1,2,9,13]]|_=>[],λN=>Sig.of [.v Ji false,.v Ja false,.v Ja false] [.v Jae false,.v Ja false,.v Jp false] (λd=>Zf0 N d.1 d.2.1 d.2.2.1),CX [Zmp,Zmr,Zkz,Zbw,Zrk,Zjx,Zr4]⟩
def Z0a(aA:List Int)(bs:Int)(fJ:Int)(gw:Int)(bj:List Int):St:=⟨[(0,vV Ji aA),(1,vI bs),(2,vI fJ),(9,vO 0),(13,vI gw)],[(0,.arr Ja bj)],1⟩
def Zw2(aA:List Int)(bs:Int)(fJ:Int)(bj:List Int)(cQ:List Int):St:=⟨[(6,vO 0),(7,vI 0),(8,vB true)],[(0,.arr Ja cQ)],1⟩
def Zw3(aA:List Int)(bs:Int)(fJ:Int)(bj:List Int)(qy:Int)(fV:Bool):St:=⟨[(0,vV Ji aA),(1,vI bs),(2,vI fJ),(9,vO 0),(13,vI qy),(60,vB fV)],[(0,.arr Ja bj)],1⟩
theorem Z0b(N:Nat){R:Type}(K:Ex->St->Option R){aA:List Int}{bs:Int}{fJ:Int}{bj:List Int}{K0:Kj->Option R}{K1:Int->Bool->Option R}(h0:K0= λcQ=>K .ret (Zw2 aA bs fJ bj cQ))(h1:K1= λqy fV=>K (.exit 0) (Zw3 aA bs fJ bj qy fV))(n:Nat)(gw:Int):Zda N aA bs fJ bj K0 K1 n gw=LM Zms N 0 100010 n (Z0a aA bs fJ gw bj) K:=by
  subst h0 h1
  induction n generalizing gw with
  |zero=>kernel_rfl
  |succ n ih=>rw[Zda];simp only[ih];kernel_rfl
theorem Zaaw(N:Nat)(l1:List Int)(aV:Int)(v3:Int):DN Zms N (l1,aV,v3,())=Zf0 N l1 aV v3:=by
  conv=>rhs;rw[Zf0];simp(disch:=exact id (by kernel_rfl)) only[Z0b (R:=Unit×(Kj×Kk)) N (CF Zms N [1,1,1,1,1,0,1,0])]
  kernel_rfl
def Zqj:Gd:=GF Zms Tryz.func108 (λN d=>Zaaw N d.1 d.2.1 d.2.2.1)
def Zk0:Fn:=⟨Tryz.f57,λ |5=>[.canon [0,3,4,16]]|6=>[.canon [0,3,4]]|7=>[.canon [0,3,4,24]]|8=>[.canon [2]]|9=>[.canon [0,3,4,30]]|10=>[.canon [0,4,5]]|11=>[.canon [0,3,4]]|100005=>[.canon [0,3,4]]|_=>[],λN=>Sig.of [.v Ji false] [.v Jae false] (λd=>Zfm N d.1),CX [Zaas,Z1,Zqj]⟩
def Zuy(m3:List Int)(k4:Int)(l5:List Int):St:=⟨[(0,vV Ji m3),(3,vO 0),(4,vI k4)],[(0,.arr Ja l5)],1⟩
def Ztd(m3:List Int):St:=⟨[(2,vO 0)],[(0,.arr Ja ([]:List Int))],1⟩
def Zte(m3:List Int)(k8:Int)(t9:Bool)(cd:List Int):St:=⟨[(0,vV Ji m3),(3,vO 0),(4,vI k8),(16,vB t9)],[(0,.arr Ja cd)],1⟩
theorem Zuz(N:Nat){R:Type}(K:Ex->St->Option R){m3:List Int}{K0:Option R}{K1:Int->Bool->Kj->Option R}(h0:K0=K .ret (Ztd m3))(h1:K1= λk8 t9 cd=>K (.exit 0) (Zte m3 k8 t9 cd))(n:Nat)(k4:Int)(l5:List Int):Za9 N m3 K0 K1 n k4 l5=LM Zk0 N 0 100005 n (Zuy m3 k4 l5) K:=by
  subst h0 h1
  induction n generalizing k4 l5 with
  |zero=>kernel_rfl
  |succ n ih=>rw[Za9];simp only[ih];kernel_rfl
theorem Z53(N:Nat)(m1:List Int):DN Zk0 N (m1,())=Zfm N m1:=by
  conv=>rhs;rw[Zfm];simp(disch:=exact id (by kernel_rfl)) only[Zuz (R:=Unit×Kac) N (CF Zk0 N [1,1,1,0,1,0])]
  kernel_rfl
def Z54:Gd:=GF Zk0 Tryz.func57 (λN d=>Z53 N d.1)
def Zaeh:Fn:=⟨Tryz.f20,Wv,λN=>Sig.of [.v Jx true] [.v Jh true] (λd=>Zpy N d.1),CX [Zaef,Z54]⟩
def Zaei:Gd:=GF Zaeh Tryz.func20
def Zaax:Fn:=⟨Tryz.f109,Wv,λN=>Sig.of [.v (TY_Root) true] [.v (.prod Ja (.prod Ja (.prod Ja (.prod Ja (.prod Ja (.prod Ja (.prod Ja (.prod Ja (.prod Ja (.prod Ja (.prod Ja (.prod Jp (.prod Jae (.prod Jc (.prod Jc (.prod (.own Js) (.prod Jm (.prod Jae (.prod Jp (.prod Jq (.prod Jr Jaq))))))))))))))))))))) true] (λd=>Za3 N d.1),WR⟩
def Zjy:Gd:=GN Zaax Tryz.func109
def Zaay:Fn:=⟨Tryz.f172,Wv,λN=>Sig.of [.v (TY_Root) true] [.v Jp false] (λd=>Zo1 N d.1),WR⟩
def Zaaz:Gd:=GN Zaay Tryz.func172
def Zmt:Fn:=⟨Tryz.f110,λ |7=>[.canon [2,3,4,6,7,8,38]]|8=>[.canon [2,3,4,6,7,8]]|9=>[.canon [2,3,4,6,7,8,58]]|10=>[.canon [6,7]]|100007=>[.canon [2,3,4,6,7,8]]|_=>[],λN=>Sig.of [.v Jh true,.v (TY_Root) true,.v Ja false] [.v Jh true,.v (TY_Root) true] (λd=>Zi6 N d.1 d.2.1 d.2.2.1),CX [Zaaz]⟩
def Z0c(k4:Int)(i5:Int)(b6:Int)(b7:Int)(b8:Int)(b9:Int)(bi:Y_Root)(cx:List Kb)(cq:List Int)(c7:List Kb)(eX:List Y_Root)(eP:List Kn):St:=⟨[(2,vI k4),(3,vP 0 0),(4,vP 1 0),(6,vP 2 0),(7,vP 3 0),(8,vI i5)],[(0,.box [.val Ja b6,.val Ja b7,.val Ja b8,.own 4,.own 5,.val Ja b9,.own 6,.own 7,.own 8]),(1,.box (split (TY_Root) bi)),(2,.box [.val Ja (0:Int),.val Ja (0:Int),.val Ja (0:Int),.nils,.nils,.val Ja (0:Int),.nils,.nils,.nils]),(3,.box [.val Ja (0:Int),.val Ja (0:Int),.val Ja (0:Int),.val Ja (0:Int),.val Ja (0:Int),.val Ja (0:Int),.val Ja (0:Int),.val Ja (0:Int),.val Ja (0:Int),.val Ja (0:Int),.val Ja (0:Int),.val Jp false,.nils,.nils,.nils,.nils,.nils,.nils,.val Jp false,.val Ja (0:Int),.val Ja (0:Int),.val Ja (0:Int),.val Ja (0:Int),.val Ja (0:Int),.val Ja (0:Int),.val Ja (0:Int),.val Ja (0:Int),.val Ja (0:Int),.nils,.nils,.val Ja (0:Int),.val Ja (0:Int),.val Ja (0:Int),.val Jp false,.nils,.nils,.nils,.nils,.nils,.nils]),(4,.arr Jb cx),(5,.arr Ja cq),(6,.arr Jb c7),(7,.arr (TY_Root) eX),(8,.arr Jy eP)],9⟩
def Zw4(k4:Int)(b6:Int)(b7:Int)(b8:Int)(b9:Int)(bi:Y_Root)(cx:List Kb)(cq:List Int)(c7:List Kb)(eX:List Y_Root)(eP:List Kn):St:=⟨[(6,vP 0 0),(7,vP 1 0)],[(0,.box [.val Ja b6,.val Ja b7,.val Ja b8,.own 2,.own 3,.val Ja b9,.own 4,.own 5,.own 6]),(1,.box (split (TY_Root) bi)),(2,.arr Jb cx),(3,.arr Ja cq),(4,.arr Jb c7),(5,.arr (TY_Root) eX),(6,.arr Jy eP)],7⟩
def Zw5(k4:Int)(b6:Int)(b7:Int)(b8:Int)(b9:Int)(bi:Y_Root)(cx:List Kb)(cq:List Int)(c7:List Kb)(eX:List Y_Root)(eP:List Kn)(su:Int)(mW:Bool):St:=⟨[(2,vI k4),(3,vP 0 0),(4,vP 1 0),(6,vP 2 0),(7,vP 3 0),(8,vI su),(38,vB mW)],[(0,.box [.val Ja b6,.val Ja b7,.val Ja b8,.own 4,.own 5,.val Ja b9,.own 6,.own 7,.own 8]),(1,.box (split (TY_Root) bi)),(2,.box [.val Ja (0:Int),.val Ja (0:Int),.val Ja (0:Int),.nils,.nils,.val Ja (0:Int),.nils,.nils,.nils]),(3,.box [.val Ja (0:Int),.val Ja (0:Int),.val Ja (0:Int),.val Ja (0:Int),.val Ja (0:Int),.val Ja (0:Int),.val Ja (0:Int),.val Ja (0:Int),.val Ja (0:Int),.val Ja (0:Int),.val Ja (0:Int),.val Jp false,.nils,.nils,.nils,.nils,.nils,.nils,.val Jp false,.val Ja (0:Int),.val Ja (0:Int),.val Ja (0:Int),.val Ja (0:Int),.val Ja (0:Int),.val Ja (0:Int),.val Ja (0:Int),.val Ja (0:Int),.val Ja (0:Int),.nils,.nils,.val Ja (0:Int),.val Ja (0:Int),.val Ja (0:Int),.val Jp false,.nils,.nils,.nils,.nils,.nils,.nils]),(4,.arr Jb cx),(5,.arr Ja cq),(6,.arr Jb c7),(7,.arr (TY_Root) eX),(8,.arr Jy eP)],9⟩
theorem Z0d(N:Nat){R:Type}(K:Ex->St->Option R){k4:Int}{b6:Int}{b7:Int}{b8:Int}{b9:Int}{bi:Y_Root}{cx:List Kb}{cq:List Int}{c7:List Kb}{eX:List Y_Root}{eP:List Kn}{K0:Option R}{K1:Int->Bool->Option R}(h0:K0=K .ret (Zw4 k4 b6 b7 b8 b9 bi cx cq c7 eX eP))(h1:K1= λsu mW=>K (.exit 0) (Zw5 k4 b6 b7 b8 b9 bi cx cq c7 eX eP su mW))(n:Nat)(i5:Int):Z7 N k4 b6 b7 b8 b9 bi cx cq c7 eX eP K0 K1 n i5=LM Zmt N 0 100007 n (Z0c k4 i5 b6 b7 b8 b9 bi cx cq c7 eX eP) K:=by
  subst h0 h1
  induction n generalizing i5 with
  |zero=>kernel_rfl
  |succ n ih=>rw[Z7];simp only[ih];kernel_rfl
theorem Zaa0(N:Nat)(w1:Y_World)(x2:Y_Root)(k3:Int):DN Zmt N (w1,x2,k3,())=Zi6 N w1 x2 k3:=by
  conv=>rhs;rw[Zi6];simp(disch:=exact id (by kernel_rfl)) only[Z0d (R:=Unit×(Y_World×(Y_Root×Unit))) N (CF Zmt N [1,1,1,0,1,0])]
  kernel_rfl
def Zaa1:Gd:=GF Zmt Tryz.func110 (λN d=>Zaa0 N d.1 d.2.1 d.2.2.1)
def Zmu:Fn:=⟨Tryz.f256,λ |2=>[.canon [0,3,8]]|3=>[.canon [0,3]]|4=>[.canon [0,3,4]]|5=>[.canon [0,3,4,30]]|6=>[.canon [2]]|7=>[.canon [0,3,79]]|8=>[.canon [2]]|100002=>[.canon [0,3]]|_=>[],λN=>Sig.of [.v Jm false] [.v Jp false] (λd=>Zfz N d.1),CX [Z1]⟩
def Z0e(l2:List Kb)(i3:Int):St:=⟨[(0,vV Jm l2),(3,vI i3)],[],0⟩
def Zw6(l2:List Kb):St:=⟨[(2,vB false)],[],0⟩
def Zw7(l2:List Kb)(i7:Int)(t8:Bool):St:=⟨[(0,vV Jm l2),(3,vI i7),(8,vB t8)],[],0⟩
theorem Z0f(N:Nat){R:Type}(K:Ex->St->Option R){l2:List Kb}{K0:Option R}{K1:Int->Bool->Option R}(h0:K0=K .ret (Zw6 l2))(h1:K1= λi7 t8=>K (.exit 0) (Zw7 l2 i7 t8))(n:Nat)(i3:Int):Za8 N l2 K0 K1 n i3=LM Zmu N 0 100002 n (Z0e l2 i3) K:=by
  subst h0 h1
  induction n generalizing i3 with
  |zero=>kernel_rfl
  |succ n ih=>rw[Za8];simp only[ih];kernel_rfl
theorem Zaa2(N:Nat)(l1:List Kb):DN Zmu N (l1,())=Zfz N l1:=by
  conv=>rhs;rw[Zfz];simp(disch:=exact id (by kernel_rfl)) only[Z0f (R:=Unit×Ko) N (CF Zmu N [1,0,1,0])]
  kernel_rfl
def Zmv:Gd:=GF Zmu Tryz.func256 (λN d=>Zaa2 N d.1)
def Zoc:Fn:=⟨Tryz.f296,λ |4=>[.canon [0,1,2,7,14]]|5=>[.canon [0,1,2,7]]|6=>[.canon [0,1,2,7,32]]|7=>[.canon [6]]|100004=>[.canon [0,1,2,7]]|_=>[],λN=>Sig.of [.v Jm false,.v Ja false,.v Ja false] [.v Ja false] (λd=>Zii N d.1 d.2.1 d.2.2.1),CX [Zmv]⟩
def Z3s(l5:List Kb)(eh:Int)(cM:Int)(i8:Int):St:=⟨[(0,vV Jm l5),(1,vI eh),(2,vI cM),(7,vI i8)],[],0⟩
def Z0g(l5:List Kb)(eh:Int)(cM:Int)(t9:Int):St:=⟨[(6,vI t9)],[],0⟩
def Z0h(l5:List Kb)(eh:Int)(cM:Int)(aT:Int)(aq:Bool):St:=⟨[(0,vV Jm l5),(1,vI eh),(2,vI cM),(7,vI aT),(14,vB aq)],[],0⟩
theorem Z3t(N:Nat){R:Type}(K:Ex->St->Option R){l5:List Kb}{eh:Int}{cM:Int}{K0:Int->Option R}{K1:Int->Bool->Option R}(h0:K0= λt9=>K .ret (Z0g l5 eh cM t9))(h1:K1= λaT aq=>K (.exit 0) (Z0h l5 eh cM aT aq))(n:Nat)(i8:Int):Zck N l5 eh cM K0 K1 n i8=LM Zoc N 0 100004 n (Z3s l5 eh cM i8) K:=by
  subst h0 h1
  induction n generalizing i8 with
  |zero=>kernel_rfl
  |succ n ih=>rw[Zck];simp only[ih];kernel_rfl
theorem Zaej(N:Nat)(l1:List Kb)(aK:Int)(aL:Int):DN Zoc N (l1,aK,aL,())=Zii N l1 aK aL:=by
  conv=>rhs;rw[Zii];simp(disch:=exact id (by kernel_rfl)) only[Z3t (R:=Unit×Kh) N (CF Zoc N [1,1,0,1,0])]
  kernel_rfl
def Zuo:Gd:=GF Zoc Tryz.func296 (λN d=>Zaej N d.1 d.2.1 d.2.2.1)
def Zmw:Fn:=⟨Tryz.f233,λ |3=>[.canon [0,1,5,6,9]]|4=>[.canon [0,1,5,6]]|5=>[.canon [0,1,5,6,16]]|6=>[.canon [0,1,5,6]]|100003=>[.canon [0,1,5,6]]|_=>[],λN=>Sig.of [.v Jm false,.v Ja false] [.v Jae false] (λd=>Zhf N d.1 d.2.1),CX [Zuo]⟩
def Z0i(l3:List Kb)(cr:Int)(w5:Int)(l6:List Int):St:=⟨[(0,vV Jm l3),(1,vI cr),(5,vO 0),(6,vI w5)],[(0,.arr Ja l6)],1⟩
def Zw8(l3:List Kb)(cr:Int)(w8:Int)(t9:Bool)(cd:List Int):St:=⟨[(0,vV Jm l3),(1,vI cr),(5,vO 0),(6,vI w8),(9,vB t9)],[(0,.arr Ja cd)],1⟩
theorem Z0j(N:Nat){R:Type}(K:Ex->St->Option R){l3:List Kb}{cr:Int}{K0:Int->Bool->Kj->Option R}(h0:K0= λw8 t9 cd=>K (.exit 0) (Zw8 l3 cr w8 t9 cd))(n:Nat)(w5:Int)(l6:List Int):Zb2 N l3 cr K0 n w5 l6=LM Zmw N 0 100003 n (Z0i l3 cr w5 l6) K:=by
  subst h0
  induction n generalizing w5 l6 with
  |zero=>kernel_rfl
  |succ n ih=>rw[Zb2];simp only[ih];kernel_rfl
theorem Zaa3(N:Nat)(l1:List Kb)(aK:Int):DN Zmw N (l1,aK,())=Zhf N l1 aK:=by
  conv=>rhs;rw[Zhf];simp(disch:=exact id (by kernel_rfl)) only[Z0j (R:=Unit×Kac) N (CF Zmw N [1,1,0,1,0])]
  kernel_rfl
def Zaa4:Gd:=GF Zmw Tryz.func233 (λN d=>Zaa3 N d.1 d.2.1)
def Zaek:Fn:=⟨Tryz.f187,Wv,λN=>Sig.of [.v Jh true,.v (TY_Root) true,.v Ja false] [.v Jh true,.v Jw true] (λd=>Zij N d.1 d.2.1 d.2.2.1),WR⟩
def Zup:Gd:=GN Zaek Tryz.func187
def Zod:Fn:=⟨Tryz.f297,λ |4=>[.canon [0,3,10]]|5=>[.canon [0,3]]|6=>[.canon [0,3,28]]|7=>[.canon [2]]|100004=>[.canon [0,3]]|_=>[],λN=>Sig.of [.v Jd false] [.v Jp false] (λd=>Ze0 N d.1),CX [Zh9,Zbw]⟩
def Z3u(l2:List Kc)(i3:Int):St:=⟨[(0,vV Jd l2),(3,vI i3)],[],0⟩
def Z0k(l2:List Kc):St:=⟨[(2,vB false)],[],0⟩
def Z0l(l2:List Kc)(i6:Int)(t7:Bool):St:=⟨[(0,vV Jd l2),(3,vI i6),(10,vB t7)],[],0⟩
theorem Z3v(N:Nat){R:Type}(K:Ex->St->Option R){l2:List Kc}{K0:Option R}{K1:Int->Bool->Option R}(h0:K0=K .ret (Z0k l2))(h1:K1= λi6 t7=>K (.exit 0) (Z0l l2 i6 t7))(n:Nat)(i3:Int):Zd3 N l2 K0 K1 n i3=LM Zod N 0 100004 n (Z3u l2 i3) K:=by
  subst h0 h1
  induction n generalizing i3 with
  |zero=>kernel_rfl
  |succ n ih=>rw[Zd3];simp only[ih];kernel_rfl
theorem Zael(N:Nat)(l1:List Kc):DN Zod N (l1,())=Ze0 N l1:=by
  conv=>rhs;rw[Ze0];simp(disch:=exact id (by kernel_rfl)) only[Z3v (R:=Unit×Ko) N (CF Zod N [1,1,0,1,0])]
  kernel_rfl
def Zq0:Gd:=GF Zod Tryz.func297 (λN d=>Zael N d.1)
def Zp7:Fn:=⟨Tryz.f235,λ |4=>[.canon [0,1,6,14]]|5=>[.canon [0,1,6]]|6=>[.canon [0,1,6,23]]|7=>[.canon [4,5]]|100004=>[.canon [0,1,6]]|_=>[],λN=>Sig.of [.v Jd false,.v Ja false] [.v Ja false,.v Jp false] (λd=>Zis N d.1 d.2.1),CX [Zq0]⟩
def Z8z(l4:List Kc)(bg:Int)(i6:Int):St:=⟨[(0,vV Jd l4),(1,vI bg),(6,vI i6)],[],0⟩
def Z55(l4:List Kc)(bg:Int)(t7:Int):St:=⟨[(4,vI t7),(5,vB true)],[],0⟩
def Z56(l4:List Kc)(bg:Int)(i8:Int)(t9:Bool):St:=⟨[(0,vV Jd l4),(1,vI bg),(6,vI i8),(14,vB t9)],[],0⟩
theorem Z80(N:Nat){R:Type}(K:Ex->St->Option R){l4:List Kc}{bg:Int}{K0:Int->Option R}{K1:Int->Bool->Option R}(h0:K0= λt7=>K .ret (Z55 l4 bg t7))(h1:K1= λi8 t9=>K (.exit 0) (Z56 l4 bg i8 t9))(n:Nat)(i6:Int):Zhz N l4 bg K0 K1 n i6=LM Zp7 N 0 100004 n (Z8z l4 bg i6) K:=by
  subst h0 h1
  induction n generalizing i6 with
  |zero=>kernel_rfl
  |succ n ih=>rw[Zhz];simp only[ih];kernel_rfl
theorem Zahe(N:Nat)(l1:List Kc)(ca:Int):DN Zp7 N (l1,ca,())=Zis N l1 ca:=by
  conv=>rhs;rw[Zis];simp(disch:=exact id (by kernel_rfl)) only[Z80 (R:=Unit×Kk) N (CF Zp7 N [1,1,0,1,0])]
  kernel_rfl
def Zrw:Gd:=GF Zp7 Tryz.func235 (λN d=>Zahe N d.1 d.2.1)
def Zq1:Fn:=⟨Tryz.f189,λ |3=>[.canon [0,3,4,9]]|4=>[.canon [0,3,4]]|5=>[.canon [0,3,4,5,6]]|6=>[.canon [0,3,4,5,18]]|7=>[.canon [0,3,4]]|100003=>[.canon [0,3,4]]|_=>[],λN=>Sig.of [.v Jd false] [.v Jc false] (λd=>Zhp N d.1),CX [Zrw]⟩
def Zaa5(l2:List Kc)(i3:Int)(l4:List Kc):St:=⟨[(0,vV Jd l2),(3,vO 0),(4,vI i3)],[(0,.arr Jt l4)],1⟩
def Z81(l2:List Kc)(i6:Int)(t7:Bool)(l8:List Kc):St:=⟨[(0,vV Jd l2),(3,vO 0),(4,vI i6),(9,vB t7)],[(0,.arr Jt l8)],1⟩
theorem Zaa6(N:Nat){R:Type}(K:Ex->St->Option R){l2:List Kc}{K0:Int->Bool->Kv->Option R}(h0:K0= λi6 t7 l8=>K (.exit 0) (Z81 l2 i6 t7 l8))(n:Nat)(i3:Int)(l4:List Kc):Zg6 N l2 K0 n i3 l4=LM Zq1 N 0 100003 n (Zaa5 l2 i3 l4) K:=by
  subst h0
  induction n generalizing i3 l4 with
  |zero=>kernel_rfl
  |succ n ih=>rw[Zg6];simp only[ih];kernel_rfl
theorem Zahy(N:Nat)(l1:List Kc):DN Zq1 N (l1,())=Zhp N l1:=by
  conv=>rhs;rw[Zhp];simp(disch:=exact id (by kernel_rfl)) only[Zaa6 (R:=Unit×Kad) N (CF Zq1 N [1,1,0,1,0])]
  kernel_rfl
def Zq2:Gd:=GF Zq1 Tryz.func189 (λN d=>Zahy N d.1)
def Zmx:Fn:=⟨Tryz.f298,λ |4=>[.canon [3,4,5,12]]|5=>[.canon [3,4,5]]|6=>[.canon [3,4,5]]|100004=>[.canon [3,4,5]]|_=>[],λN=>Sig.of [.v Jd false] [.v Jae false] (λd=>Zi7 N d.1),CX [Zq2]⟩
def Z0m(i3:Int)(l4:List Int)(l5:List Kc):St:=⟨[(3,vO 0),(4,vO 1),(5,vI i3)],[(0,.arr Ja l4),(1,.arr Jt l5)],2⟩
def Zw9(l5:List Kc)(i6:Int)(t7:Bool)(l8:List Int):St:=⟨[(3,vO 0),(4,vO 1),(5,vI i6),(12,vB t7)],[(0,.arr Ja l8),(1,.arr Jt l5)],2⟩
theorem Z0n(N:Nat){R:Type}(K:Ex->St->Option R){l5:List Kc}{K0:Int->Bool->Kj->Option R}(h0:K0= λi6 t7 l8=>K (.exit 0) (Zw9 l5 i6 t7 l8))(n:Nat)(i3:Int)(l4:List Int):Zdb N l5 K0 n i3 l4=LM Zmx N 0 100004 n (Z0m i3 l4 l5) K:=by
  subst h0
  induction n generalizing i3 l4 with
  |zero=>kernel_rfl
  |succ n ih=>rw[Zdb];simp only[ih];kernel_rfl
theorem Zaa7(N:Nat)(l1:List Kc):DN Zmx N (l1,())=Zi7 N l1:=by
  conv=>rhs;rw[Zi7];simp(disch:=exact id (by kernel_rfl)) only[Z0n (R:=Unit×Kac) N (CF Zmx N [1,1,1,0,1,0])]
  kernel_rfl
def Zaa8:Gd:=GF Zmx Tryz.func298 (λN d=>Zaa7 N d.1)
def Z57:Fn:=⟨Tryz.f234,Wv,λN=>Sig.of [.v Ja false,.v Ja false,.v Jd false,.v Jd false] [.v Jr true,.v Jp false] (λd=>Zfn N d.1 d.2.1 d.2.2.1 d.2.2.2.1),CX [Z1,Zq0,Zq2,Zaa8]⟩
def Z58:Gd:=GF Z57 Tryz.func234
def Z82:Fn:=⟨Tryz.f173,Wv,λN=>Sig.of [.v Jh true,.v (TY_Root) true,.v Ja false,.v Ja false] [.v Jh true,.v (TY_Root) true] (λd=>Zkw N d.1 d.2.1 d.2.2.1 d.2.2.2.1),CX [Zaa4,Zup,Z58]⟩
def Z83:Gd:=GF Z82 Tryz.func173
def Zpa:Fn:=⟨Tryz.f246,λ |4=>[.canon [1,3,19]]|5=>[.canon [1,3]]|6=>[.canon [1,3,4]]|7=>[.canon [1,3,44]]|8=>[.canon [2]]|100004=>[.canon [1,3]]|_=>[],λN=>Sig.of [.v Jaf true] [.v Jp false] (λd=>Zeu N d.1),CX [Z1,Zbw]⟩
def Z59(i3:Int)(b4:Int×List Kb):St:=⟨[(1,vP 0 0),(3,vI i3)],[(0,.box [.val Ja b4.1,.val Jm b4.2])],1⟩
def Z3w(b4:Int×List Kb):St:=⟨[(2,vB false)],[],0⟩
def Z3x(b4:Int×List Kb)(i8:Int)(t9:Bool):St:=⟨[(1,vP 0 0),(3,vI i8),(19,vB t9)],[(0,.box [.val Ja b4.1,.val Jm b4.2])],1⟩
theorem Z6a(N:Nat){R:Type}(K:Ex->St->Option R){b4:Int×List Kb}{K0:Option R}{K1:Int->Bool->Option R}(h0:K0=K .ret (Z3w b4))(h1:K1= λi8 t9=>K (.exit 0) (Z3x b4 i8 t9))(n:Nat)(i3:Int):Zc0 N b4 K0 K1 n i3=LM Zpa N 0 100004 n (Z59 i3 b4) K:=by
  subst h0 h1
  induction n generalizing i3 with
  |zero=>kernel_rfl
  |succ n ih=>rw[Zc0];simp only[ih];kernel_rfl
theorem Zagj(N:Nat)(m1:Int×List Kb):DN Zpa N (m1,())=Zeu N m1:=by
  conv=>rhs;rw[Zeu];simp(disch:=exact id (by kernel_rfl)) only[Z6a (R:=Unit×Ko) N (CF Zpa N [1,1,0,1,0])]
  kernel_rfl
def Zmd:Gd:=GF Zpa Tryz.func246 (λN d=>Zagj N d.1)
def Zaa9:Fn:=⟨Tryz.f299,Wv,λN=>Sig.of [.v Jq true] [.v Jp false] (λd=>Zou N d.1),CX [Zh9,Z1,Zbw]⟩
def Zaba:Gd:=GF Zaa9 Tryz.func299
def Z6b:Fn:=⟨Tryz.f236,Wv,λN=>Sig.of [.v Jaf true,.v Ja false,.v Jq true] [.v Jq true] (λd=>Zfc N d.1 d.2.1 d.2.2.1),CX [Zmd,Zaba]⟩
def Zrq:Gd:=GF Z6b Tryz.func236
def Z0o:Fn:=⟨Tryz.f237,Wv,λN=>Sig.of [.v (TY_Root) true] [.v (TY_Root) true] (λd=>Zf1 N d.1),CX [Zjy]⟩
def Zq3:Gd:=GF Z0o Tryz.func237
def Zabb:Fn:=⟨Tryz.f175,Wv,λN=>Sig.of [.v Ji false] [.v Jae false] (λd=>Zj N d.1),WR⟩
def Zbe:Gd:=GN Zabb Tryz.func175
def Zq4:Fn:=⟨Tryz.f174,Wv,λN=>Sig.of [.kv Jh true,.v (TY_Root) true,.v Jq true] [.v (TY_Root) true] (λd=>Zdv N d.1 d.2.1 d.2.2.1),CX [Zrw,Zrq,Zq3,Zbe]⟩
def Zq5:Gd:=GF Zq4 Tryz.func174
def Zabc:Fn:=⟨Tryz.f252,Wv,λN=>Sig.of [.v Jag true] [.v Jap true] (λd=>Zl9 N d.1),CX [Zmp]⟩
def Zsp:Gd:=GF Zabc Tryz.func252
def Zabd:Fn:=⟨Tryz.f253,Wv,λN=>Sig.of [.v Jag true] [.v Jp false] (λd=>Zl8 N d.1),CX [Zmr,Zbw]⟩
def Zsq:Gd:=GF Zabd Tryz.func253
def Zaem:Fn:=⟨Tryz.f254,Wv,λN=>Sig.of [.v Jb true] [.v Jp false] (λd=>Zpz N d.1),CX [Zkz,Zbw]⟩
def Zaen:Gd:=GF Zaem Tryz.func254
def Z84:Fn:=⟨Tryz.f255,Wv,λN=>Sig.of [.v Ji false,.v Ja false] [.v Jae false,.v Ja false,.v Jp false] (λd=>Zkx N d.1 d.2.1),CX [Zmp,Zmr,Zkz,Zrk,Zjx]⟩
def Zr5:Gd:=GF Z84 Tryz.func255
def Zabe:Fn:=⟨Tryz.f185,Wv,λN=>Sig.of [.v Jag true,.v Jb true] [.v Jap true,.v Jp false] (λd=>Zo2 N d.1 d.2.1),CX [Zsp,Zsq,Zaen,Zqj,Zr5]⟩
def Zabf:Gd:=GF Zabe Tryz.func185
def Z0p:Fn:=⟨Tryz.f116,Wv,λN=>Sig.of [.v (.prod Ja (.prod Ja (.prod Jz (.prod Jag (.prod Jak (.prod (.own (TY_Root)) (.own Jy))))))) true,.v (TY_Root) true] [.v Jh true,.v Jw true] (λd=>Zf2 N d.1 d.2.1),CX [Zabf]⟩
def Zmy:Gd:=GF Z0p Tryz.func116
def Zpb:Fn:=⟨Tryz.f176,λ |5=>[.canon [0,5,6,27]]|6=>[.canon [0,5,6]]|7=>[.canon [0,5,6,35]]|8=>[.canon [0,5,6]]|9=>[.canon [0,5,6,43]]|10=>[.canon [0,5,6]]|11=>[.canon [0,5,6,47]]|12=>[.canon [4]]|100005=>[.canon [0,5,6]]|_=>[],λN=>Sig.of [.v Jg false,.v Ja false] [.v Ja false] (λd=>Zjm N d.1 d.2.1),WR⟩
def Z6c(ae:List Ka)(d4:Int)(k5:Int):St:=⟨[(0,vV Jg ae),(5,vI d4),(6,vI k5)],[],0⟩
def Z3y(ae:List Ka)(t6:Int):St:=⟨[(4,vI t6)],[],0⟩
def Z3z(ae:List Ka)(d7:Int)(k8:Int)(t9:Bool):St:=⟨[(0,vV Jg ae),(5,vI d7),(6,vI k8),(27,vB t9)],[],0⟩
theorem Z6d(N:Nat){R:Type}(K:Ex->St->Option R){ae:List Ka}{K0:Int->Option R}{K1:Int->Int->Bool->Option R}(h0:K0= λt6=>K .ret (Z3y ae t6))(h1:K1= λd7 k8 t9=>K (.exit 0) (Z3z ae d7 k8 t9))(n:Nat)(d4:Int)(k5:Int):Zar N ae K0 K1 n d4 k5=LM Zpb N 0 100005 n (Z6c ae d4 k5) K:=by
  subst h0 h1
  induction n generalizing d4 k5 with
  |zero=>kernel_rfl
  |succ n ih=>rw[Zar];simp only[ih];kernel_rfl
theorem Zagk(N:Nat)(ai:List Ka)(i2:Int):DN Zpb N (ai,i2,())=Zjm N ai i2:=by
  conv=>rhs;rw[Zjm];simp(disch:=exact id (by kernel_rfl)) only[Z6d (R:=Unit×Kh) N (CF Zpb N [1,1,1,0,1,0])]
  kernel_rfl
def Zxa:Gd:=GN Zpb Tryz.func176 (λN d=>Zagk N d.1 d.2.1)
def Zia:Fn:=⟨Tryz.f177,λ |4=>[.canon [1,3,8,9,10,11,24]]|5=>[.canon [1,3,8,9,10,11]]|6=>[.canon [1,3,8,9,10,11]]|8=>[.canon [1,3,8,9,12,45]]|9=>[.canon [1,3,8,9,12]]|10=>[.canon [1,3,8,9,12]]|100004=>[.adoptC 9 6 Jb,.canon [1,3,8,9,10,11]]|100008=>[.adoptC 9 9 (TY_KidRun),.canon [1,3,8,9,12]]|_=>[],λN=>Sig.of [.v Ja false,.v Ji false,.v Jd false,.v Ja false] [.v Jaq true] (λd=>Zke N d.1 d.2.1 d.2.2.1 d.2.2.2.1),CX [Zbe,Zq2]⟩
def Z30(dK:List Int)(dL:Int)(aT:Int)(bU:Int)(aY:List Kc)(dv:List Int)(dD:List Kc)(cK:List Kb):St:=⟨[(1,vV Ji dK),(3,vI dL),(8,vP 0 0),(9,vP 1 0),(10,vO 2),(11,vI aT)],[(0,.box [.val Ja (0:Int),.val Ja (0:Int),.val Ja (0:Int),.val Jp false,.nils,.nils,.nils,.nils,.nils,.nils]),(1,.box [.val Ja bU,.val Ja (0:Int),.val Ja (0:Int),.val Jp false,.own 3,.own 4,.own 5,.nils,.nils,.nils]),(2,.arr Jt aY),(3,.arr Ja dv),(4,.arr Jt dD),(5,.arr Jb cK)],6⟩
def Z0q(dK:List Int)(dL:Int)(bU:Int)(aY:List Kc)(dv:List Int)(dD:List Kc)(sw:Int)(m7:Bool)(gY:List Kb):St:=⟨[(1,vV Ji dK),(3,vI dL),(8,vP 0 0),(9,vP 1 0),(10,vO 2),(11,vI sw),(24,vB m7)],[(0,.box [.val Ja (0:Int),.val Ja (0:Int),.val Ja (0:Int),.val Jp false,.nils,.nils,.nils,.nils,.nils,.nils]),(1,.box [.val Ja bU,.val Ja (0:Int),.val Ja (0:Int),.val Jp false,.own 3,.own 4,.own 5,.nils,.nils,.nils]),(2,.arr Jt aY),(3,.arr Ja dv),(4,.arr Jt dD),(5,.arr Jb gY)],6⟩
theorem Z31(N:Nat){R:Type}(K:Ex->St->Option R){dK:List Int}{dL:Int}{bU:Int}{aY:List Kc}{dv:List Int}{dD:List Kc}{K0:Int->Bool->Kr->Option R}(h0:K0= λsw m7 gY=>K (.exit 0) (Z0q dK dL bU aY dv dD sw m7 gY))(n:Nat)(aT:Int)(cK:List Kb):Zd5 N dK dL bU aY dv dD K0 n aT cK=LM Zia N 0 100004 n (Z30 dK dL aT bU aY dv dD cK) K:=by
  subst h0
  induction n generalizing aT cK with
  |zero=>kernel_rfl
  |succ n ih=>rw[Zd5];simp only[ih];kernel_rfl
def Z32(cG:List Int)(cp:Int)(la:Int)(km:Int)(fN:List Int)(cx:List Kc)(cq:List Kb)(c7:List Y_KidRun):St:=⟨[(1,vV Ji cG),(3,vI cp),(8,vP 0 0),(9,vP 1 0),(12,vI la)],[(0,.box [.val Ja (0:Int),.val Ja (0:Int),.val Ja (0:Int),.val Jp false,.nils,.nils,.nils,.nils,.nils,.nils]),(1,.box [.val Ja km,.val Ja (0:Int),.val Ja (0:Int),.val Jp false,.own 2,.own 3,.own 4,.nils,.nils,.own 5]),(2,.arr Ja fN),(3,.arr Jt cx),(4,.arr Jb cq),(5,.arr (TY_KidRun) c7)],6⟩
def Z0r(cG:List Int)(cp:Int)(km:Int)(fN:List Int)(cx:List Kc)(cq:List Kb)(sy:Int)(sA:Bool)(sB:List Y_KidRun):St:=⟨[(1,vV Ji cG),(3,vI cp),(8,vP 0 0),(9,vP 1 0),(12,vI sy),(45,vB sA)],[(0,.box [.val Ja (0:Int),.val Ja (0:Int),.val Ja (0:Int),.val Jp false,.nils,.nils,.nils,.nils,.nils,.nils]),(1,.box [.val Ja km,.val Ja (0:Int),.val Ja (0:Int),.val Jp false,.own 2,.own 3,.own 4,.nils,.nils,.own 5]),(2,.arr Ja fN),(3,.arr Jt cx),(4,.arr Jb cq),(5,.arr (TY_KidRun) sB)],6⟩
theorem Z33(N:Nat){R:Type}(K:Ex->St->Option R){cG:List Int}{cp:Int}{km:Int}{fN:List Int}{cx:List Kc}{cq:List Kb}{K0:Int->Bool->(List Y_KidRun)->Option R}(h0:K0= λsy sA sB=>K (.exit 2) (Z0r cG cp km fN cx cq sy sA sB))(n:Nat)(la:Int)(c7:List Y_KidRun):Zbk N cG cp km fN cx cq K0 n la c7=LM Zia N 1 100008 n (Z32 cG cp la km fN cx cq c7) K:=by
  subst h0
  induction n generalizing la c7 with
  |zero=>kernel_rfl
  |succ n ih=>rw[Zbk];simp only[ih];kernel_rfl
theorem Zaeo(N:Nat)(jg:Int)(ao:List Int)(bV:List Kc)(de:Int):DN Zia N (jg,ao,bV,de,())=Zke N jg ao bV de:=by
  conv=>rhs;rw[Zke];simp(disch:=exact id (by kernel_rfl)) only[Z31 (R:=Unit×(Y_Family×Unit)) N (CF Zia N [1,1,1,0,1,0]),Z33 (R:=Unit×(Y_Family×Unit)) N (CF Zia N [1,1,1,1,0,1,0])]
  kernel_rfl
def Zaep:Gd:=GF Zia Tryz.func177 (λN d=>Zaeo N d.1 d.2.1 d.2.2.1 d.2.2.2.1)
def Z6e:Fn:=⟨Tryz.f238,Wv,λN=>Sig.of [.v Jq true] [.v Ja false,.v Ja false] (λd=>Zmi N d.1),CX [Zqi]⟩
def Z6f:Gd:=GF Z6e Tryz.func238
def Zoe:Fn:=⟨Tryz.f300,λ |5=>[.canon [0,1,2,3,9,10,24]]|6=>[.canon [0,1,2,3,9,10]]|7=>[.canon [0,1,2,3,9,10,54]]|8=>[.canon [0,1,2,3,9,10]]|100005=>[.canon [0,1,2,3,9,10]]|_=>[],λN=>Sig.of [.v Jm false,.v Ja false,.v Ja false,.v Ja false] [.v Jae false] (λd=>Zkm N d.1 d.2.1 d.2.2.1 d.2.2.2.1),CX [Zmv,Z1]⟩
def Z34(l7:List Kb)(dU:Int)(cE:Int)(bH:Int)(bm:Int)(bC:List Int):St:=⟨[(0,vV Jm l7),(1,vI dU),(2,vI cE),(3,vI bH),(9,vO 0),(10,vI bm)],[(0,.arr Ja bC)],1⟩
def Z0s(l7:List Kb)(dU:Int)(cE:Int)(bH:Int)(gX:Int)(dw:Bool)(bj:List Int):St:=⟨[(0,vV Jm l7),(1,vI dU),(2,vI cE),(3,vI bH),(9,vO 0),(10,vI gX),(24,vB dw)],[(0,.arr Ja bj)],1⟩
theorem Z35(N:Nat){R:Type}(K:Ex->St->Option R){l7:List Kb}{dU:Int}{cE:Int}{bH:Int}{K0:Int->Bool->Kj->Option R}(h0:K0= λgX dw bj=>K (.exit 0) (Z0s l7 dU cE bH gX dw bj))(n:Nat)(bm:Int)(bC:List Int):Zam N l7 dU cE bH K0 n bm bC=LM Zoe N 0 100005 n (Z34 l7 dU cE bH bm bC) K:=by
  subst h0
  induction n generalizing bm bC with
  |zero=>kernel_rfl
  |succ n ih=>rw[Zam];simp only[ih];kernel_rfl
theorem Zaeq(N:Nat)(l1:List Kb)(aK:Int)(aL:Int)(aW:Int):DN Zoe N (l1,aK,aL,aW,())=Zkm N l1 aK aL aW:=by
  conv=>rhs;rw[Zkm];simp(disch:=exact id (by kernel_rfl)) only[Z35 (R:=Unit×Kac) N (CF Zoe N [1,1,1,0,1,0])]
  kernel_rfl
def Zaer:Gd:=GF Zoe Tryz.func300 (λN d=>Zaeq N d.1 d.2.1 d.2.2.1 d.2.2.2.1)
def Zmz:Fn:=⟨Tryz.f239,λ |7=>[.canon [0,1,2,10,11,12,13,58]]|8=>[.canon [0,1,2,10,11,12,13]]|9=>[.canon [0,1,2,10,11,12,13,14]]|10=>[.canon [0,1,2,10,11,12,13,14,84]]|11=>[.canon [0,1,2,10,11,13,14]]|12=>[.canon [0,1,2,10,11,12,13,14]]|13=>[.canon [0,1,2,10,11,12,13,14,98]]|14=>[.canon [0,1,2,10,11,12,13]]|100007=>[.canon [0,1,2,10,11,12,13]]|_=>[],λN=>Sig.of [.v Jm false,.v Ja false,.v Ja false,.v Ja false] [.v Jak false,.v Jp false] (λd=>Zi8 N d.1 d.2.1 d.2.2.1 d.2.2.2.1),CX [Zmv,Z1,Zaer,Zuo]⟩
def Z0t(aA:List Kb)(aw:Int)(ak:Int)(bq:Bool)(ba:Int)(ce:Int)(aY:List Kb):St:=⟨[(0,vV Jm aA),(1,vI aw),(2,vI ak),(10,vP 0 0),(11,vO 1),(12,vB bq),(13,vI ba)],[(0,.box [.val Ja aw,.val Ja ak,.val Ja ce]),(1,.arr Jb aY)],2⟩
def Zxb(aA:List Kb)(aw:Int)(ak:Int)(ce:Int)(iz:Bool)(iA:Int)(t22:Bool)(fo:List Kb):St:=⟨[(0,vV Jm aA),(1,vI aw),(2,vI ak),(10,vP 0 0),(11,vO 1),(12,vB iz),(13,vI iA),(58,vB t22)],[(0,.box [.val Ja aw,.val Ja ak,.val Ja ce]),(1,.arr Jb fo)],2⟩
theorem Z0u(N:Nat){R:Type}(K:Ex->St->Option R){aA:List Kb}{aw:Int}{ak:Int}{ce:Int}{K0:Bool->Int->Bool->Kr->Option R}(h0:K0= λiz iA t22 fo=>K (.exit 0) (Zxb aA aw ak ce iz iA t22 fo))(n:Nat)(bq:Bool)(ba:Int)(aY:List Kb):Zk N aA aw ak ce K0 n bq ba aY=LM Zmz N 0 100007 n (Z0t aA aw ak bq ba ce aY) K:=by
  subst h0
  induction n generalizing bq ba aY with
  |zero=>kernel_rfl
  |succ n ih=>rw[Zk];simp only[ih];kernel_rfl
theorem Zabg(N:Nat)(l1:List Kb)(aK:Int)(aL:Int)(aW:Int):DN Zmz N (l1,aK,aL,aW,())=Zi8 N l1 aK aL aW:=by
  conv=>rhs;rw[Zi8];simp(disch:=exact id (by kernel_rfl)) only[Z0u (R:=Unit×(Kr×Ko)) N (CF Zmz N [1,1,1,1,1,0,1,0])]
  kernel_rfl
def Zabh:Gd:=GF Zmz Tryz.func239 (λN d=>Zabg N d.1 d.2.1 d.2.2.1 d.2.2.2.1)
def Zof:Fn:=⟨Tryz.f241,λ |4=>[.canon [0,3,10]]|5=>[.canon [0,3]]|6=>[.canon [0,3,18]]|7=>[.canon [2]]|100004=>[.canon [0,3]]|_=>[],λN=>Sig.of [.v Ji false] [.v Jp false] (λd=>Zcf N d.1),CX [Zbw]⟩
def Z36(l2:List Int)(i3:Int):St:=⟨[(0,vV Ji l2),(3,vI i3)],[],0⟩
def Z0v(l2:List Int):St:=⟨[(2,vB false)],[],0⟩
def Z0w(l2:List Int)(i5:Int)(t6:Bool):St:=⟨[(0,vV Ji l2),(3,vI i5),(10,vB t6)],[],0⟩
theorem Z37(N:Nat){R:Type}(K:Ex->St->Option R){l2:List Int}{K0:Option R}{K1:Int->Bool->Option R}(h0:K0=K .ret (Z0v l2))(h1:K1= λi5 t6=>K (.exit 0) (Z0w l2 i5 t6))(n:Nat)(i3:Int):Zd2 N l2 K0 K1 n i3=LM Zof N 0 100004 n (Z36 l2 i3) K:=by
  subst h0 h1
  induction n generalizing i3 with
  |zero=>kernel_rfl
  |succ n ih=>rw[Zd2];simp only[ih];kernel_rfl
theorem Zaes(N:Nat)(l1:List Int):DN Zof N (l1,())=Zcf N l1:=by
  conv=>rhs;rw[Zcf];simp(disch:=exact id (by kernel_rfl)) only[Z37 (R:=Unit×Ko) N (CF Zof N [1,1,0,1,0])]
  kernel_rfl
def Zq6:Gd:=GF Zof Tryz.func241 (λN d=>Zaes N d.1)
def Zabi:Fn:=⟨Tryz.f301,Wv,λN=>Sig.of [.v Ja false,.v Ja false] [.v Jb true] (λd=>Zma N d.1 d.2.1),WR⟩
def Zabj:Gd:=GN Zabi Tryz.func301
def Zabk:Fn:=⟨Tryz.f302,Wv,λN=>Sig.of [.v Ji false,.v Ja false] [.v Ja false,.v Jp false] (λd=>Zo0 N d.1 d.2.1),CX [Zmr,Zkz,Zrk,Zjx]⟩
def Zabl:Gd:=GF Zabk Tryz.func302
def Zabm:Fn:=⟨Tryz.f240,Wv,λN=>Sig.of [.v Jag true,.v Jq true,.v Ji false] [.v Jap true,.v Jae false,.v Jb true,.v Jp false] (λd=>Zo3 N d.1 d.2.1 d.2.2.1),CX [Zsp,Zmp,Zsq,Zq6,Zqi,Zqj,Zabj,Zr5,Zabl]⟩
def Zabn:Gd:=GF Zabm Tryz.func240
def Z85:Fn:=⟨Tryz.f178,Wv,λN=>Sig.of [.v Jh true,.v (TY_Root) true,.v Ja false,.v Jq true] [.v Jh true,.v (TY_Root) true] (λd=>Znz N d.1 d.2.1 d.2.2.1 d.2.2.2.1),CX [Z6f,Zabh,Zq3,Zabn]⟩
def Z86:Gd:=GF Z85 Tryz.func178
def Zahf:Fn:=⟨Tryz.f179,Wv,λN=>Sig.of [.v Jq true,.v Ji false] [.v Jae false,.v Jp false] (λd=>Zpn N d.1 d.2.1),CX [Zrv,Zq6]⟩
def Z23:Gd:=GF Zahf Tryz.func179
def Zaet:Fn:=⟨Tryz.f111,Wv,λN=>Sig.of [.v Jh true,.v (TY_Root) true,.v Ja false,.v Jai true] [.v Jh true,.v (TY_Root) true] (λd=>Zp0 N d.1 d.2.1 d.2.2.1 d.2.2.2.1),CX [Z83,Zq5,Zbe,Zmy,Zxa,Zaep,Z86,Z23]⟩
def Zaeu:Gd:=GF Zaet Tryz.func111
def Zm0:Fn:=⟨Tryz.f180,λ |2=>[.canon [1,3,8]]|3=>[.canon [1,3]]|4=>[.canon [1,3,17]]|5=>[.canon [2]]|100002=>[.canon [1,3]]|_=>[],λN=>Sig.of [.v (TY_Family) true] [.v Jp false] (λd=>Zi9 N d.1),WR⟩
def Z0x(i2:Int)(b3:Y_Family):St:=⟨[(1,vP 0 0),(3,vI i2)],[(0,.box (split (TY_Family) b3))],1⟩
def Zxc(b3:Y_Family):St:=⟨[(2,vB false)],[],0⟩
def Zxd(b3:Y_Family)(i4:Int)(t5:Bool):St:=⟨[(1,vP 0 0),(3,vI i4),(8,vB t5)],[(0,.box (split (TY_Family) b3))],1⟩
theorem Z0y(N:Nat){R:Type}(K:Ex->St->Option R){b3:Y_Family}{K0:Option R}{K1:Int->Bool->Option R}(h0:K0=K .ret (Zxc b3))(h1:K1= λi4 t5=>K (.exit 0) (Zxd b3 i4 t5))(n:Nat)(i2:Int):Zdc N b3 K0 K1 n i2=LM Zm0 N 0 100002 n (Z0x i2 b3) K:=by
  subst h0 h1
  induction n generalizing i2 with
  |zero=>kernel_rfl
  |succ n ih=>rw[Zdc];simp only[ih];kernel_rfl
theorem Zabo(N:Nat)(f1:Y_Family):DN Zm0 N (f1,())=Zi9 N f1:=by
  conv=>rhs;rw[Zi9];simp(disch:=exact id (by kernel_rfl)) only[Z0y (R:=Unit×Ko) N (CF Zm0 N [1,0,1,0])]
  kernel_rfl
def Zabp:Gd:=GN Zm0 Tryz.func180 (λN d=>Zabo N d.1)
def Zm1:Fn:=⟨Tryz.f181,λ |5=>[.canon [1,3,4,23]]|6=>[.canon [1,3,4]]|7=>[.canon [1,3,4]]|8=>[.canon [1,3,4,44]]|9=>[.canon [1,3,4]]|100005=>[.canon [1,3,4]]|_=>[],λN=>Sig.of [.v (TY_Family) true] [.v Jae false] (λd=>Zja N d.1),CX [Zq6,Zbe]⟩
def Z0z(i4:Int)(b5:Y_Family)(l6:List Int):St:=⟨[(1,vP 0 0),(3,vO 1),(4,vI i4)],[(0,.box (split (TY_Family) b5)),(1,.arr Ja l6)],2⟩
def Zxe(b5:Y_Family)(i9:Int)(ar:Bool)(aA:List Int):St:=⟨[(1,vP 0 0),(3,vO 1),(4,vI i9),(23,vB ar)],[(0,.box (split (TY_Family) b5)),(1,.arr Ja aA)],2⟩
theorem Z00(N:Nat){R:Type}(K:Ex->St->Option R){b5:Y_Family}{K0:Int->Bool->Kj->Option R}(h0:K0= λi9 ar aA=>K (.exit 0) (Zxe b5 i9 ar aA))(n:Nat)(i4:Int)(l6:List Int):Zba N b5 K0 n i4 l6=LM Zm1 N 0 100005 n (Z0z i4 b5 l6) K:=by
  subst h0
  induction n generalizing i4 l6 with
  |zero=>kernel_rfl
  |succ n ih=>rw[Zba];simp only[ih];kernel_rfl
theorem Zabq(N:Nat)(f1:Y_Family):DN Zm1 N (f1,())=Zja N f1:=by
  conv=>rhs;rw[Zja];simp(disch:=exact id (by kernel_rfl)) only[Z00 (R:=Unit×Kac) N (CF Zm1 N [1,1,1,0,1,0])]
  kernel_rfl
def Zabr:Gd:=GF Zm1 Tryz.func181 (λN d=>Zabq N d.1)
def Zm2:Fn:=⟨Tryz.f182,λ |3=>[.canon [1,3,4,10]]|4=>[.canon [1,3,4]]|5=>[.canon [1,3,4]]|100003=>[.canon [1,3,4]]|_=>[],λN=>Sig.of [.v (TY_Family) true] [.v Jc false] (λd=>Zjb N d.1),WR⟩
def Z01(i2:Int)(b3:Y_Family)(l4:List Kc):St:=⟨[(1,vP 0 0),(3,vO 1),(4,vI i2)],[(0,.box (split (TY_Family) b3)),(1,.arr Jt l4)],2⟩
def Zxf(b3:Y_Family)(i5:Int)(t6:Bool)(l7:List Kc):St:=⟨[(1,vP 0 0),(3,vO 1),(4,vI i5),(10,vB t6)],[(0,.box (split (TY_Family) b3)),(1,.arr Jt l7)],2⟩
theorem Z02(N:Nat){R:Type}(K:Ex->St->Option R){b3:Y_Family}{K0:Int->Bool->Kv->Option R}(h0:K0= λi5 t6 l7=>K (.exit 0) (Zxf b3 i5 t6 l7))(n:Nat)(i2:Int)(l4:List Kc):Zdd N b3 K0 n i2 l4=LM Zm2 N 0 100003 n (Z01 i2 b3 l4) K:=by
  subst h0
  induction n generalizing i2 l4 with
  |zero=>kernel_rfl
  |succ n ih=>rw[Zdd];simp only[ih];kernel_rfl
theorem Zabs(N:Nat)(f1:Y_Family):DN Zm2 N (f1,())=Zjb N f1:=by
  conv=>rhs;rw[Zjb];simp(disch:=exact id (by kernel_rfl)) only[Z02 (R:=Unit×Kad) N (CF Zm2 N [1,1,0,1,0])]
  kernel_rfl
def Zabt:Gd:=GN Zm2 Tryz.func182 (λN d=>Zabs N d.1)
def Zabu:Fn:=⟨Tryz.f112,Wv,λN=>Sig.of [.v (TY_Root) true] [.v (TY_Root) true] (λd=>Zo4 N d.1),CX [Zjy,Zabp,Zabr,Zabt,Zbe]⟩
def Zabv:Gd:=GF Zabu Tryz.func112
def Z6g:Fn:=⟨Tryz.f113,Wv,λN=>Sig.of [.v Jh true,.v (TY_Root) true] [.v Jh true,.v (TY_Root) true] (λd=>Zmj N d.1 d.2.1),CX [Zmy]⟩
def Z6h:Gd:=GF Z6g Tryz.func113
def Zqk:Fn:=⟨Tryz.f114,Wv,λN=>Sig.of [.kv Jh true,.v (TY_Root) true] [.v (TY_Root) true] (λd=>Zcx N d.1 d.2.1),CX [Zjy,Zbe]⟩
def Zql:Gd:=GF Zqk Tryz.func114
def Zabw:Fn:=⟨Tryz.f242,Wv,λN=>Sig.of [.v Jl true] [.v Jr true] (λd=>Zmb N d.1),WR⟩
def Zsr:Gd:=GN Zabw Tryz.func242
def Zk1:Fn:=⟨Tryz.f303,λ |2=>[.canon [0,3,7]]|3=>[.canon [0,3]]|4=>[.canon [0,3,31]]|5=>[.canon [2]]|100002=>[.canon [0,3]]|_=>[],λN=>Sig.of [.v Ji false] [.v Jp false] (λd=>Zjv N d.1),CX [Zh9]⟩
def Zu0(l2:List Int)(i3:Int):St:=⟨[(0,vV Ji l2),(3,vI i3)],[],0⟩
def Ztf(l2:List Int):St:=⟨[(2,vB false)],[],0⟩
def Ztg(l2:List Int)(i5:Int)(t6:Bool):St:=⟨[(0,vV Ji l2),(3,vI i5),(7,vB t6)],[],0⟩
theorem Zu1(N:Nat){R:Type}(K:Ex->St->Option R){l2:List Int}{K0:Option R}{K1:Int->Bool->Option R}(h0:K0=K .ret (Ztf l2))(h1:K1= λi5 t6=>K (.exit 0) (Ztg l2 i5 t6))(n:Nat)(i3:Int):Zbb N l2 K0 K1 n i3=LM Zk1 N 0 100002 n (Zu0 l2 i3) K:=by
  subst h0 h1
  induction n generalizing i3 with
  |zero=>kernel_rfl
  |succ n ih=>rw[Zbb];simp only[ih];kernel_rfl
theorem Z6i(N:Nat)(l1:List Int):DN Zk1 N (l1,())=Zjv N l1:=by
  conv=>rhs;rw[Zjv];simp(disch:=exact id (by kernel_rfl)) only[Zu1 (R:=Unit×Ko) N (CF Zk1 N [1,0,1,0])]
  kernel_rfl
def Z6j:Gd:=GF Zk1 Tryz.func303 (λN d=>Z6i N d.1)
def Zaev:Fn:=⟨Tryz.f304,Wv,λN=>Sig.of [.v Jl true] [.v Ja false] (λd=>Zp1 N d.1),WR⟩
def Zaew:Gd:=GN Zaev Tryz.func304
def Zlt:Fn:=⟨Tryz.f243,λ |4=>[.canon [1,3,42]]|5=>[.canon [1,3]]|6=>[.canon [1,3,58]]|7=>[.canon [2]]|100004=>[.canon [1,3]]|_=>[],λN=>Sig.of [.v Jl true] [.v Jp false] (λd=>Zgi N d.1),CX [Z1,Zq0,Z6j,Zaew]⟩
def Zxg(i8:Int)(b9:Int×Int×Int×Int×Int×List Kc×List Int):St:=⟨[(1,vP 0 0),(3,vI i8)],[(0,.box (split Jl b9))],1⟩
def Zu2(b9:Int×Int×Int×Int×Int×List Kc×List Int):St:=⟨[(2,vB false)],[],0⟩
def Zu3(b9:Int×Int×Int×Int×Int×List Kc×List Int)(aT:Int)(aq:Bool):St:=⟨[(1,vP 0 0),(3,vI aT),(42,vB aq)],[(0,.box (split Jl b9))],1⟩
theorem Zxh(N:Nat){R:Type}(K:Ex->St->Option R){b9:Int×Int×Int×Int×Int×List Kc×List Int}{K0:Option R}{K1:Int->Bool->Option R}(h0:K0=K .ret (Zu2 b9))(h1:K1= λaT aq=>K (.exit 0) (Zu3 b9 aT aq))(n:Nat)(i8:Int):Zet N b9 K0 K1 n i8=LM Zlt N 0 100004 n (Zxg i8 b9) K:=by
  subst h0 h1
  induction n generalizing i8 with
  |zero=>kernel_rfl
  |succ n ih=>rw[Zet];simp only[ih];kernel_rfl
theorem Z87(N:Nat)(c1:Int×Int×Int×Int×Int×List Kc×List Int):DN Zlt N (c1,())=Zgi N c1:=by
  conv=>rhs;rw[Zgi];simp(disch:=exact id (by kernel_rfl)) only[Zxh (R:=Unit×Ko) N (CF Zlt N [1,1,0,1,0])]
  kernel_rfl
def Zr6:Gd:=GF Zlt Tryz.func243 (λN d=>Z87 N d.1)
def Zabx:Fn:=⟨Tryz.f244,Wv,λN=>Sig.of [.v Jl true,.v Ja false] [.v Jl true] (λd=>Zan N d.1 d.2.1),WR⟩
def Zss:Gd:=GN Zabx Tryz.func244
def Z03:Fn:=⟨Tryz.f183,Wv,λN=>Sig.of [.v Jl true] [.v Jl true,.v Jp false] (λd=>Zky N d.1),CX [Zsr,Zr6,Zss]⟩
def Z04:Gd:=GF Z03 Tryz.func183
def Zaex:Fn:=⟨Tryz.f245,Wv,λN=>Sig.of [.v Jaf true] [.v Jz true] (λd=>Zdk N d.1),WR⟩
def Zk2:Gd:=GN Zaex Tryz.func245
def Zahg:Fn:=⟨Tryz.f247,Wv,λN=>Sig.of [.v Jaf true,.v Ja false,.v Ja false] [.v Jz true,.v Jp false] (λd=>Zpq N d.1 d.2.1 d.2.2.1),CX [Zk2,Zmd,Zh9,Z1]⟩
def Zahh:Gd:=GF Zahg Tryz.func247
def Zagl:Fn:=⟨Tryz.f248,Wv,λN=>Sig.of [.v Jl true,.v Ja false] [.v Jl true] (λd=>Zde N d.1 d.2.1),WR⟩
def Zagm:Gd:=GN Zagl Tryz.func248
def Zahi:Fn:=⟨Tryz.f249,Wv,λN=>Sig.of [.v Jaf true] [.v Jz true,.v Ja false] (λd=>Zrn N d.1),CX [Zk2,Zmd]⟩
def Zahj:Gd:=GF Zahi Tryz.func249
def Zaey:Fn:=⟨Tryz.f305,Wv,λN=>Sig.of [.v Jaf true,.v Ja false,.v Ja false] [.v Jp false] (λd=>Zno N d.1 d.2.1 d.2.2.1),CX [Zmd,Zh9,Z1]⟩
def Zuq:Gd:=GF Zaey Tryz.func305
def Zagn:Fn:=⟨Tryz.f250,Wv,λN=>Sig.of [.v Jaf true,.v Ja false,.v Ja false,.v Ja false] [.v Jz true,.v Jp false] (λd=>Zos N d.1 d.2.1 d.2.2.1 d.2.2.2.1),CX [Zk2,Zuq,Zbw]⟩
def Zago:Gd:=GF Zagn Tryz.func250
def Zaez:Fn:=⟨Tryz.f251,Wv,λN=>Sig.of [.v Jaf true,.v Ja false,.v Ja false,.v Ja false] [.v Jz true,.v Jp false] (λd=>Zik N d.1 d.2.1 d.2.2.1 d.2.2.2.1),CX [Zk2,Zuq,Z1]⟩
def Zae0:Gd:=GF Zaez Tryz.func251
def Z38:Fn:=⟨Tryz.f184,Wv,λN=>Sig.of [.v Jaf true,.v Jl true] [.v Jz true,.v Jl true] (λd=>Zlp N d.1 d.2.1),CX [Zk2,Zsr,Zmd,Zr6,Zahh,Zss,Zagm,Zahj,Zago,Zae0]⟩
def Z39:Gd:=GF Z38 Tryz.func184
def Z6k:Fn:=⟨Tryz.f115,Wv,λN=>Sig.of [.v Jh true,.v (TY_Root) true,.v Ja false] [.v Jh true,.v (TY_Root) true] (λd=>Zmk N d.1 d.2.1 d.2.2.1),CX [Z04,Zjy,Z39]⟩
def Z6l:Gd:=GF Z6k Tryz.func115
def Zlu:Fn:=⟨Tryz.f186,λ |4=>[.canon [0,1,5,6,7,14]]|5=>[.canon [0,1,5,6,7]]|6=>[.canon [0,1,5,6,7,27]]|7=>[.canon [0,1,5,6,7]]|100004=>[.canon [0,1,5,6,7]]|_=>[],λN=>Sig.of [.v Jm false,.v Ja false] [.v Jak false] (λd=>Zh6 N d.1 d.2.1),CX [Zmv]⟩
def Zxi(l4:List Kb)(eQ:Int)(cV:Bool)(i7:Int)(l8:List Kb):St:=⟨[(0,vV Jm l4),(1,vI eQ),(5,vO 0),(6,vB cV),(7,vI i7)],[(0,.arr Jb l8)],1⟩
def Zu4(l4:List Kb)(eQ:Int)(cV:Bool)(i9:Int)(ar:Bool)(aA:List Kb):St:=⟨[(0,vV Jm l4),(1,vI eQ),(5,vO 0),(6,vB cV),(7,vI i9),(14,vB ar)],[(0,.arr Jb aA)],1⟩
theorem Zxj(N:Nat){R:Type}(K:Ex->St->Option R){l4:List Kb}{eQ:Int}{cV:Bool}{K0:Int->Bool->Kr->Option R}(h0:K0= λi9 ar aA=>K (.exit 0) (Zu4 l4 eQ cV i9 ar aA))(n:Nat)(i7:Int)(l8:List Kb):Zaw N l4 eQ cV K0 n i7 l8=LM Zlu N 0 100004 n (Zxi l4 eQ cV i7 l8) K:=by
  subst h0
  induction n generalizing i7 l8 with
  |zero=>kernel_rfl
  |succ n ih=>rw[Zaw];simp only[ih];kernel_rfl
theorem Z88(N:Nat)(l1:List Kb)(aK:Int):DN Zlu N (l1,aK,())=Zh6 N l1 aK:=by
  conv=>rhs;rw[Zh6];simp(disch:=exact id (by kernel_rfl)) only[Zxj (R:=Unit×Kaa) N (CF Zlu N [1,1,1,0,1,0])]
  kernel_rfl
def Z89:Gd:=GF Zlu Tryz.func186 (λN d=>Z88 N d.1 d.2.1)
def Zaby:Fn:=⟨Tryz.f117,Wv,λN=>Sig.of [.v (.prod Ja (.prod Ja (.prod Jz (.prod Jap (.prod Jm (.prod (.own (TY_Root)) (.own Jy))))))) true,.v (TY_Root) true,.v Ja false] [.v Jh true,.v Jw true] (λd=>Zrj N d.1 d.2.1 d.2.2.1),CX [Z89,Zup]⟩
def Zabz:Gd:=GF Zaby Tryz.func117
def Zab0:Fn:=⟨Tryz.f59,Wv,λN=>Sig.of [.v Jh true,.v Jai true,.v Ja false] [.v Jh true] (λd=>Zmc N d.1 d.2.1 d.2.2.1),CX [Z1,Zjy,Zaa1,Zaeu,Zabv,Z6h,Zql,Z6l,Zmy,Zabz]⟩
def Zab1:Gd:=GF Zab0 Tryz.func59
def Zlv:Fn:=⟨Tryz.f120,λ |2=>[.canon [1,2,4,5,10]]|3=>[.canon [1,2,4,5]]|4=>[.canon [1,2,4,5,20]]|5=>[.canon [4]]|100002=>[.canon [1,2,4,5]]|_=>[],λN=>Sig.of [.v (TY_Family) true,.v Ja false] [.v Jb true] (λd=>Zgc N d.1 d.2.1),WR⟩
def Zxk(cS:Int)(i4:Int)(b5:Y_Family):St:=⟨[(1,vI cS),(2,vP 0 0),(4,vP 1 0),(5,vI i4)],[(0,.box (split (TY_Family) b5)),(1,.box [.val Ja (0:Int),.val Ja (0:Int),.val Ja (0:Int)])],2⟩
def Zu5(cS:Int)(b5:Y_Family)(b9:Int×Int×Int):St:=⟨[(4,vP 0 0)],[(0,.box [.val Ja b9.1,.val Ja b9.2.1,.val Ja b9.2.2])],1⟩
def Zu6(cS:Int)(b5:Y_Family)(aT:Int)(aq:Bool):St:=⟨[(1,vI cS),(2,vP 0 0),(4,vP 1 0),(5,vI aT),(10,vB aq)],[(0,.box (split (TY_Family) b5)),(1,.box [.val Ja (0:Int),.val Ja (0:Int),.val Ja (0:Int)])],2⟩
theorem Zxl(N:Nat){R:Type}(K:Ex->St->Option R){cS:Int}{b5:Y_Family}{K0:Kb->Option R}{K1:Int->Bool->Option R}(h0:K0= λb9=>K .ret (Zu5 cS b5 b9))(h1:K1= λaT aq=>K (.exit 0) (Zu6 cS b5 aT aq))(n:Nat)(i4:Int):Zcl N cS b5 K0 K1 n i4=LM Zlv N 0 100002 n (Zxk cS i4 b5) K:=by
  subst h0 h1
  induction n generalizing i4 with
  |zero=>kernel_rfl
  |succ n ih=>rw[Zcl];simp only[ih];kernel_rfl
theorem Z9a(N:Nat)(f1:Y_Family)(ca:Int):DN Zlv N (f1,ca,())=Zgc N f1 ca:=by
  conv=>rhs;rw[Zgc];simp(disch:=exact id (by kernel_rfl)) only[Zxl (R:=Unit×(Kb×Unit)) N (CF Zlv N [1,0,1,0])]
  kernel_rfl
def Zr7:Gd:=GN Zlv Tryz.func120 (λN d=>Z9a N d.1 d.2.1)
def Zth:Fn:=⟨Tryz.f121,Wv,λN=>Sig.of [.kv Jv true,.v (TY_KidRun) true] [.v (.prod Ja (.prod Ja (.prod Ja (.prod Ja (.prod Ja (.prod Ja (.prod Jae (.prod Jak (.prod Jc (.prod (.own Jaa) (.prod Jp Jq))))))))))) true] (λd=>Zfs N d.1 d.2.1),CX [Zbe]⟩
def Zph:Gd:=GF Zth Tryz.func121
def Zu7:Fn:=⟨Tryz.f188,Wv,λN=>Sig.of [.kv Jz true,.v Jv true,.v (TY_KidRun) true,.v Jq true] [.v Jv true,.v (TY_KidRun) true] (λd=>Zip N d.1 d.2.1 d.2.2.1 d.2.2.2.1),CX [Zrw,Zbe,Zr7,Zph,Zrq]⟩
def Zu8:Gd:=GF Zu7 Tryz.func188
def Z05:Fn:=⟨Tryz.f118,Wv,λN=>Sig.of [.kv Jz true,.v Jv true,.v (TY_KidRun) true,.v Jg false] [.v Jv true,.v (TY_KidRun) true] (λd=>Zko N d.1 d.2.1 d.2.2.1 d.2.2.2.1),CX [Zu8,Zbe,Zxa,Z23]⟩
def Z06:Gd:=GF Z05 Tryz.func118
def Zog:Fn:=⟨Tryz.f190,λ |4=>[.canon [0,3,5,6,7,12]]|5=>[.canon [0,3,5,6,7]]|6=>[.canon [0,3,5,6,7,26]]|7=>[.canon [0,3,5,7]]|8=>[.canon [0,3,5,6,7]]|9=>[.canon [0,3,5,6,7,38]]|10=>[.canon [0,3,5,6,7]]|100004=>[.canon [0,3,5,6,7]]|_=>[],λN=>Sig.of [.v Jm false,.v Jb true] [.v Jak false] (λd=>Zkf N d.1 d.2.1),WR⟩
def Z4a(l3:List Kb)(cU:Bool)(i5:Int)(b6:Int×Int×Int)(l7:List Kb):St:=⟨[(0,vV Jm l3),(3,vP 0 0),(5,vO 1),(6,vB cU),(7,vI i5)],[(0,.box [.val Ja b6.1,.val Ja b6.2.1,.val Ja b6.2.2]),(1,.arr Jb l7)],2⟩
def Z07(l3:List Kb)(b6:Int×Int×Int)(kI:Bool)(i9:Int)(ar:Bool)(aA:List Kb):St:=⟨[(0,vV Jm l3),(3,vP 0 0),(5,vO 1),(6,vB kI),(7,vI i9),(12,vB ar)],[(0,.box [.val Ja b6.1,.val Ja b6.2.1,.val Ja b6.2.2]),(1,.arr Jb aA)],2⟩
theorem Z4b(N:Nat){R:Type}(K:Ex->St->Option R){l3:List Kb}{b6:Int×Int×Int}{K0:Bool->Int->Bool->Kr->Option R}(h0:K0= λkI i9 ar aA=>K (.exit 0) (Z07 l3 b6 kI i9 ar aA))(n:Nat)(cU:Bool)(i5:Int)(l7:List Kb):Zy N l3 b6 K0 n cU i5 l7=LM Zog N 0 100004 n (Z4a l3 cU i5 b6 l7) K:=by
  subst h0
  induction n generalizing cU i5 l7 with
  |zero=>kernel_rfl
  |succ n ih=>rw[Zy];simp only[ih];kernel_rfl
theorem Zae1(N:Nat)(l1:List Kb)(e2:Int×Int×Int):DN Zog N (l1,e2,())=Zkf N l1 e2:=by
  conv=>rhs;rw[Zkf];simp(disch:=exact id (by kernel_rfl)) only[Z4b (R:=Unit×Kaa) N (CF Zog N [1,1,1,0,1,0])]
  kernel_rfl
def Zae2:Gd:=GN Zog Tryz.func190 (λN d=>Zae1 N d.1 d.2.1)
def Zgv:Fn:=⟨Tryz.f119,λ |4=>[.canon [2,3,4,6,7,8,9,21]]|5=>[.canon [2,3,4,6,7,8,9]]|6=>[.canon [2,3,4,6,7,8,9]]|9=>[.canon [2,3,4,6,7,10,50]]|10=>[.canon [2,3,4,6,7,10]]|11=>[.canon [2,3,4,6,7,10,59]]|12=>[.canon [2,3,4,6,7,10]]|100004=>[.freezeC 3 6,.canon [2,3,4,6,7,8,9]]|100009=>[.canon [2,3,4,6,7,10]]|_=>[],λN=>Sig.of [.v Jv true,.v (TY_KidRun) true,.v Ja false] [.v (.prod Ja (.prod Ja (.prod Ja (.prod Jp (.prod Ji (.prod Jd (.prod Jm (.prod Jae (.prod Jc (.own (TY_KidRun))))))))))) true,.v (.prod Ja (.prod Ja (.prod Ja (.prod Ja (.prod Ja (.prod Ja (.prod Ji (.prod Jm (.prod Jd (.prod (.own Jaa) (.prod Jp Jq))))))))))) true] (λd=>Zh0 N d.1 d.2.1 d.2.2.1),CX [Zq2,Zae2,Zbe]⟩
def Zxm(k5:Int)(i6:Int)(b7:Int)(b8:Int)(b9:Int)(bi:Bool)(bR:List Int)(cT:List Kc)(bW:List Kb)(di:List Int)(bU:List Kc)(bA:Y_KidRun)(dg:List Kc)(dM:List Y_KidRun):St:=⟨[(2,vI k5),(3,vP 0 0),(4,vP 1 0),(6,vP 2 0),(7,vP 3 0),(8,vO 4),(9,vI i6)],[(0,.box [.val Ja b7,.val Ja b8,.val Ja b9,.val Jp bi,.val Ji bR,.val Jd cT,.val Jm bW,.val Ji di,.val Jd bU,.own 5]),(1,.box (split (TY_KidRun) bA)),(2,.box [.val Ja (0:Int),.val Ja (0:Int),.val Ja (0:Int),.val Jp false,.nils,.nils,.nils,.nils,.nils,.nils]),(3,.box [.val Ja (0:Int),.val Ja (0:Int),.val Ja (0:Int),.val Ja (0:Int),.val Ja (0:Int),.val Ja (0:Int),.nils,.nils,.nils,.nils,.val Jp false,.val Ja (0:Int),.val Ja (0:Int),.val Ja (0:Int),.val Ja (0:Int)]),(4,.arr Jt dg),(5,.arr (TY_KidRun) dM)],6⟩
def Zu9(k5:Int)(b7:Int)(b8:Int)(b9:Int)(bi:Bool)(bR:List Int)(cT:List Kc)(di:List Int)(bU:List Kc)(bA:Y_KidRun)(dg:List Kc)(dM:List Y_KidRun)(sD:Int)(nP:Bool)(kA:List Kb):St:=⟨[(2,vI k5),(3,vP 0 0),(4,vP 1 0),(6,vP 2 0),(7,vP 3 0),(8,vO 4),(9,vI sD),(21,vB nP)],[(0,.box [.val Ja b7,.val Ja b8,.val Ja b9,.val Jp bi,.val Ji bR,.val Jd cT,.val Jm kA,.val Ji di,.val Jd bU,.own 5]),(1,.box (split (TY_KidRun) bA)),(2,.box [.val Ja (0:Int),.val Ja (0:Int),.val Ja (0:Int),.val Jp false,.nils,.nils,.nils,.nils,.nils,.nils]),(3,.box [.val Ja (0:Int),.val Ja (0:Int),.val Ja (0:Int),.val Ja (0:Int),.val Ja (0:Int),.val Ja (0:Int),.nils,.nils,.nils,.nils,.val Jp false,.val Ja (0:Int),.val Ja (0:Int),.val Ja (0:Int),.val Ja (0:Int)]),(4,.arr Jt dg),(5,.arr (TY_KidRun) dM)],6⟩
theorem Zxn(N:Nat){R:Type}(K:Ex->St->Option R){k5:Int}{b7:Int}{b8:Int}{b9:Int}{bi:Bool}{bR:List Int}{cT:List Kc}{di:List Int}{bU:List Kc}{bA:Y_KidRun}{dg:List Kc}{dM:List Y_KidRun}{K0:Int->Bool->Kr->Option R}(h0:K0= λsD nP kA=>K (.exit 0) (Zu9 k5 b7 b8 b9 bi bR cT di bU bA dg dM sD nP kA))(n:Nat)(i6:Int)(bW:List Kb):Zcm N k5 b7 b8 b9 bi bR cT di bU bA dg dM K0 n i6 bW=LM Zgv N 0 100004 n (Zxm k5 i6 b7 b8 b9 bi bR cT bW di bU bA dg dM) K:=by
  subst h0
  induction n generalizing i6 bW with
  |zero=>kernel_rfl
  |succ n ih=>rw[Zcm];simp only[ih];kernel_rfl
def Zxo(fa:Int)(io:Int)(lb:Int)(fb:Int)(fe:Int)(ff:Bool)(fg:List Int)(fh:List Kc)(fi:List Kb)(fj:List Int)(dN:Y_KidRun)(eO:List Kc)(eN:List Y_KidRun):St:=⟨[(2,vI fa),(3,vP 0 0),(4,vP 1 0),(6,vP 2 0),(7,vP 3 0),(10,vI io)],[(0,.box [.val Ja lb,.val Ja fb,.val Ja fe,.val Jp ff,.val Ji fg,.val Jd fh,.val Jm fi,.val Ji fj,.own 4,.own 5]),(1,.box (split (TY_KidRun) dN)),(2,.box [.val Ja (0:Int),.val Ja (0:Int),.val Ja (0:Int),.val Jp false,.nils,.nils,.nils,.nils,.nils,.nils]),(3,.box [.val Ja (0:Int),.val Ja (0:Int),.val Ja (0:Int),.val Ja (0:Int),.val Ja (0:Int),.val Ja (0:Int),.nils,.nils,.nils,.nils,.val Jp false,.val Ja (0:Int),.val Ja (0:Int),.val Ja (0:Int),.val Ja (0:Int)]),(4,.arr Jt eO),(5,.arr (TY_KidRun) eN)],6⟩
def Zva(fa:Int)(lb:Int)(fb:Int)(fe:Int)(ff:Bool)(fg:List Int)(fh:List Kc)(fi:List Kb)(fj:List Int)(dN:Y_KidRun)(eN:List Y_KidRun)(sE:Int)(m8:Bool)(sF:List Kc):St:=⟨[(2,vI fa),(3,vP 0 0),(4,vP 1 0),(6,vP 2 0),(7,vP 3 0),(10,vI sE),(50,vB m8)],[(0,.box [.val Ja lb,.val Ja fb,.val Ja fe,.val Jp ff,.val Ji fg,.val Jd fh,.val Jm fi,.val Ji fj,.own 4,.own 5]),(1,.box (split (TY_KidRun) dN)),(2,.box [.val Ja (0:Int),.val Ja (0:Int),.val Ja (0:Int),.val Jp false,.nils,.nils,.nils,.nils,.nils,.nils]),(3,.box [.val Ja (0:Int),.val Ja (0:Int),.val Ja (0:Int),.val Ja (0:Int),.val Ja (0:Int),.val Ja (0:Int),.nils,.nils,.nils,.nils,.val Jp false,.val Ja (0:Int),.val Ja (0:Int),.val Ja (0:Int),.val Ja (0:Int)]),(4,.arr Jt sF),(5,.arr (TY_KidRun) eN)],6⟩
theorem Zxp(N:Nat){R:Type}(K:Ex->St->Option R){fa:Int}{lb:Int}{fb:Int}{fe:Int}{ff:Bool}{fg:List Int}{fh:List Kc}{fi:List Kb}{fj:List Int}{dN:Y_KidRun}{eN:List Y_KidRun}{K0:Int->Bool->Kv->Option R}(h0:K0= λsE m8 sF=>K (.exit 2) (Zva fa lb fb fe ff fg fh fi fj dN eN sE m8 sF))(n:Nat)(io:Int)(eO:List Kc):Zbg N fa lb fb fe ff fg fh fi fj dN eN K0 n io eO=LM Zgv N 1 100009 n (Zxo fa io lb fb fe ff fg fh fi fj dN eO eN) K:=by
  subst h0
  induction n generalizing io eO with
  |zero=>kernel_rfl
  |succ n ih=>rw[Zbg];simp only[ih];kernel_rfl
theorem Z9b(N:Nat)(f1:Y_Family)(x2:Y_KidRun)(k3:Int):DN Zgv N (f1,x2,k3,())=Zh0 N f1 x2 k3:=by
  conv=>rhs;rw[Zh0];simp(disch:=exact id (by kernel_rfl)) only[Zxn (R:=Unit×(Y_Family×(Y_KidRun×Unit))) N (CF Zgv N [1,1,1,0,1,0]),Zxp (R:=Unit×(Y_Family×(Y_KidRun×Unit))) N (CF Zgv N [1,1,1,1,1,0,1,0])]
  kernel_rfl
def Z9c:Gd:=GF Zgv Tryz.func119 (λN d=>Z9b N d.1 d.2.1 d.2.2.1)
def Zvb:Fn:=⟨Tryz.f60,Wv,λN=>Sig.of [.kv Jz true,.v (TY_Family) true,.v Jac false,.v Ja false] [.v (TY_Family) true] (λd=>Zdq N d.1 d.2.1 d.2.2.1 d.2.2.2.1),CX [Z06,Z9c,Zr7,Zph]⟩
def Zvc:Gd:=GF Zvb Tryz.func60
def Zae3:Fn:=⟨Tryz.f21,Wv,λN=>Sig.of [.v Jh true,.v Jx true,.v Jb true] [.v Jh true] (λd=>Znp N d.1 d.2.1 d.2.2.1),CX [Z1,Zab1,Zvc]⟩
def Zae4:Gd:=GF Zae3 Tryz.func21
def Zp8:Fn:=⟨Tryz.f6,λ |5=>[.canon [1,2,3,4,15]]|6=>[.canon [1,2,3,4]]|7=>[.canon [1,2,3,4]]|100005=>[.canon [1,2,3,4]]|_=>[],λN=>Sig.of [.v Jx true] [.v Jh true] (λd=>Znq N d.1),CX [Z8x,Zaei,Zae4]⟩
def Z9d(i4:Int)(b5:Ki×List Km×List Kb)(bi:Int)(bR:Int)(cT:Int)(bW:Int)(bD:List Kb)(bj:List Int)(cQ:List Kb)(dp:List Y_Root)(cy:List Kn):St:=⟨[(1,vP 0 0),(2,vP 1 0),(3,vP 2 0),(4,vI i4)],[(0,.box [.val Ji b5.1.1,.val Ji b5.1.2.1,.val Ja b5.1.2.2,.val Jo b5.2.1,.val Jm b5.2.2]),(1,.box [.val Ja (0:Int),.val Ja (0:Int),.val Ja (0:Int),.nils,.nils,.val Ja (0:Int),.nils,.nils,.nils]),(2,.box [.val Ja bi,.val Ja bR,.val Ja cT,.own 3,.own 4,.val Ja bW,.own 5,.own 6,.own 7]),(3,.arr Jb bD),(4,.arr Ja bj),(5,.arr Jb cQ),(6,.arr (TY_Root) dp),(7,.arr Jy cy)],8⟩
def Z6m(b5:Ki×List Km×List Kb)(iA:Int)(t22:Bool)(sG:Int)(sH:Int)(sJ:Int)(m9:Int)(da:List Kb)(eM:List Int)(pk:List Kb)(fq:List Y_Root)(fu:List Kn):St:=⟨[(1,vP 0 0),(2,vP 1 0),(3,vP 2 0),(4,vI iA),(15,vB t22)],[(0,.box [.val Ji b5.1.1,.val Ji b5.1.2.1,.val Ja b5.1.2.2,.val Jo b5.2.1,.val Jm b5.2.2]),(1,.box [.val Ja (0:Int),.val Ja (0:Int),.val Ja (0:Int),.nils,.nils,.val Ja (0:Int),.nils,.nils,.nils]),(2,.box [.val Ja sG,.val Ja sH,.val Ja sJ,.own 3,.own 4,.val Ja m9,.own 5,.own 6,.own 7]),(3,.arr Jb da),(4,.arr Ja eM),(5,.arr Jb pk),(6,.arr (TY_Root) fq),(7,.arr Jy fu)],8⟩
theorem Z9e(N:Nat){R:Type}(K:Ex->St->Option R){b5:Ki×List Km×List Kb}{K0:Int->Bool->Int->Int->Int->Int->Kr->Kj->Kr->(List Y_Root)->Kag->Option R}(h0:K0= λiA t22 sG sH sJ m9 da eM pk fq fu=>K (.exit 0) (Z6m b5 iA t22 sG sH sJ m9 da eM pk fq fu))(n:Nat)(i4:Int)(bi:Int)(bR:Int)(cT:Int)(bW:Int)(bD:List Kb)(bj:List Int)(cQ:List Kb)(dp:List Y_Root)(cy:List Kn):Zgj N b5 K0 n i4 bi bR cT bW bD bj cQ dp cy=LM Zp8 N 0 100005 n (Z9d i4 b5 bi bR cT bW bD bj cQ dp cy) K:=by
  subst h0
  induction n generalizing i4 bi bR cT bW bD bj cQ dp cy with
  |zero=>kernel_rfl
  |succ n ih=>rw[Zgj];simp only[ih];kernel_rfl
theorem Zahk(N:Nat)(s1:Ki×List Km×List Kb):DN Zp8 N (s1,())=Znq N s1:=by
  conv=>rhs;rw[Znq];simp(disch:=exact id (by kernel_rfl)) only[Z9e (R:=Unit×(Y_World×Unit)) N (CF Zp8 N [1,1,1,0,1,0])]
  kernel_rfl
def Zahl:Gd:=GF Zp8 Tryz.func6 (λN d=>Zahk N d.1)
def Zae5:Fn:=⟨Tryz.f72,Wv,λN=>Sig.of [.v Ja false,.v Ja false,.v Ja false] [.v Jp false] (λd=>Zh N d.1 d.2.1 d.2.2.1),WR⟩
def Zz:Gd:=GN Zae5 Tryz.func72
def Zab2:Fn:=⟨Tryz.f124,Wv,λN=>Sig.of [.v Ja false] [.v Jp false] (λd=>Zad N d.1),CX [Zz]⟩
def Zbf:Gd:=GF Zab2 Tryz.func124
def Zk3:Fn:=⟨Tryz.f71,λ |2=>[.canon [0,1,7,8,9,10]]|3=>[.canon [0,1,6,7,8,9]]|4=>[.canon [0,1,7,8,9,15]]|5=>[.canon [4]]|6=>[.canon [0,1,7,8,9]]|100002=>[.canon [0,1,7,8,9]]|_=>[],λN=>Sig.of [.v Ji false,.v Ja false] [.v Jp false] (λd=>Z3 N d.1 d.2.1),CX [Zbf]⟩
def Zvd(l3:List Int)(n4:Int)(t7:Int):St:=⟨[(0,vV Ji l3),(1,vI n4),(7,vV Ji l3),(8,vI (Wg l3)),(9,vI t7)],[],0⟩
def Zti(l3:List Int)(n4:Int):St:=⟨[(4,vB false)],[],0⟩
def Ztj(l3:List Int)(n4:Int)(ar:Int)(aq:Bool):St:=⟨[(0,vV Ji l3),(1,vI n4),(7,vV Ji l3),(8,vI (Wg l3)),(9,vI ar),(10,vB aq)],[],0⟩
theorem Zve(N:Nat){R:Type}(K:Ex->St->Option R){l3:List Int}{n4:Int}{K0:Option R}{K1:Int->Bool->Option R}(h0:K0=K .ret (Zti l3 n4))(h1:K1= λar aq=>K (.exit 0) (Ztj l3 n4 ar aq))(n:Nat)(t7:Int):Zag N l3 n4 K0 K1 n t7=LM Zk3 N 0 100002 n (Zvd l3 n4 t7) K:=by
  subst h0 h1
  induction n generalizing t7 with
  |zero=>kernel_rfl
  |succ n ih=>rw[Zag];simp only[ih];kernel_rfl
theorem Z6n(N:Nat)(l1:List Int)(n2:Int):DN Zk3 N (l1,n2,())=Z3 N l1 n2:=by
  conv=>rhs;rw[Z3];simp(disch:=exact id (by kernel_rfl)) only[Zve (R:=Unit×Ko) N (CF Zk3 N [1,0,1,0])]
  kernel_rfl
def Zhx:Gd:=GF Zk3 Tryz.func71 (λN d=>Z6n N d.1 d.2.1)
def Zpc:Fn:=⟨Tryz.f68,λ |2=>[.canon [0,5,6,7,8]]|3=>[.canon [0,4,5,6,7]]|4=>[.canon [0,5,6,7,13]]|5=>[.canon [2]]|6=>[.canon [0,5,6,7]]|100002=>[.canon [0,5,6,7]]|_=>[],λN=>Sig.of [.v Ji false] [.v Jp false] (λd=>Zjq N d.1),CX [Zz]⟩
def Z6o(l2:List Int)(t5:Int):St:=⟨[(0,vV Ji l2),(5,vV Ji l2),(6,vI (Wg l2)),(7,vI t5)],[],0⟩
def Z4c(l2:List Int):St:=⟨[(2,vB false)],[],0⟩
def Z4d(l2:List Int)(t8:Int)(t9:Bool):St:=⟨[(0,vV Ji l2),(5,vV Ji l2),(6,vI (Wg l2)),(7,vI t8),(8,vB t9)],[],0⟩
theorem Z6p(N:Nat){R:Type}(K:Ex->St->Option R){l2:List Int}{K0:Option R}{K1:Int->Bool->Option R}(h0:K0=K .ret (Z4c l2))(h1:K1= λt8 t9=>K (.exit 0) (Z4d l2 t8 t9))(n:Nat)(t5:Int):Zfi N l2 K0 K1 n t5=LM Zpc N 0 100002 n (Z6o l2 t5) K:=by
  subst h0 h1
  induction n generalizing t5 with
  |zero=>kernel_rfl
  |succ n ih=>rw[Zfi];simp only[ih];kernel_rfl
theorem Zagp(N:Nat)(l1:List Int):DN Zpc N (l1,())=Zjq N l1:=by
  conv=>rhs;rw[Zjq];simp(disch:=exact id (by kernel_rfl)) only[Z6p (R:=Unit×Ko) N (CF Zpc N [1,0,1,0])]
  kernel_rfl
def Zxq:Gd:=GF Zpc Tryz.func68 (λN d=>Zagp N d.1)
def Z9f:Fn:=⟨Tryz.f64,Wv,λN=>Sig.of [.v Jar true] [.v Jp false] (λd=>Znt N d.1),CX [Zhx,Zxq,Zbf]⟩
def Z9g:Gd:=GF Z9f Tryz.func64
def Zagq:Fn:=⟨Tryz.f258,Wv,λN=>Sig.of [.v Ja false] [.v Jp false] (λd=>Zbo N d.1),CX [Zz]⟩
def Zagr:Gd:=GF Zagq Tryz.func258
def Zae6:Fn:=⟨Tryz.f259,Wv,λN=>Sig.of [.v Ja false] [.v Jp false] (λd=>Za2 N d.1),CX [Zz]⟩
def Zel:Gd:=GF Zae6 Tryz.func259
def Zags:Fn:=⟨Tryz.f131,Wv,λN=>Sig.of [.v Ja false] [.v Jp false] (λd=>Zas N d.1),CX [Zz]⟩
def Zji:Gd:=GF Zags Tryz.func131
def Zahm:Fn:=⟨Tryz.f195,Wv,λN=>Sig.of [.v Jq true] [.v Jp false] (λd=>Zit N d.1),CX [Zagr,Zbf,Zel,Zz,Zji]⟩
def Zp9:Gd:=GF Zahm Tryz.func195
def Zab3:Fn:=⟨Tryz.f193,Wv,λN=>Sig.of [.v Jq true] [.v Ja false] (λd=>Ziv N d.1),CX [Zp9]⟩
def Zst:Gd:=GF Zab3 Tryz.func193
def Zagt:Fn:=⟨Tryz.f257,Wv,λN=>Sig.of [.v Jq true] [.v Ja false] (λd=>Zl4 N d.1),WR⟩
def Zrl:Gd:=GN Zagt Tryz.func257
def Zj3:Fn:=⟨Tryz.f194,λ |3=>[.canon [3,6,7,8,9]]|4=>[.canon [3,5,6,7,8]]|5=>[.canon [3,6,7,8]]|6=>[.canon [3,6,7,8,17]]|7=>[.canon [2]]|8=>[.canon [3,6,7,8]]|100003=>[.canon [3,6,7,8]]|_=>[],λN=>Sig.of [.v Jg false] [.v Jp false] (λd=>Zd6 N d.1),CX [Zrl]⟩
def Ztk(n2:Int)(t3:List Ka)(t5:Int):St:=⟨[(3,vI n2),(6,vV Jg t3),(7,vI (Wg t3)),(8,vI t5)],[],0⟩
def Zsu(t3:List Ka):St:=⟨[(2,vB false)],[],0⟩
def Zsv(t3:List Ka)(n8:Int)(t9:Int)(ar:Bool):St:=⟨[(3,vI n8),(6,vV Jg t3),(7,vI (Wg t3)),(8,vI t9),(9,vB ar)],[],0⟩
theorem Ztl(N:Nat){R:Type}(K:Ex->St->Option R){t3:List Ka}{K0:Option R}{K1:Int->Int->Bool->Option R}(h0:K0=K .ret (Zsu t3))(h1:K1= λn8 t9 ar=>K (.exit 0) (Zsv t3 n8 t9 ar))(n:Nat)(n2:Int)(t5:Int):Zbp N t3 K0 K1 n n2 t5=LM Zj3 N 0 100003 n (Ztk n2 t3 t5) K:=by
  subst h0 h1
  induction n generalizing n2 t5 with
  |zero=>kernel_rfl
  |succ n ih=>rw[Zbp];simp only[ih];kernel_rfl
theorem Z4e(N:Nat)(ai:List Ka):DN Zj3 N (ai,())=Zd6 N ai:=by
  conv=>rhs;rw[Zd6];simp(disch:=exact id (by kernel_rfl)) only[Ztl (R:=Unit×Ko) N (CF Zj3 N [1,1,0,1,0])]
  kernel_rfl
def Z4f:Gd:=GF Zj3 Tryz.func194 (λN d=>Z4e N d.1)
def Zm3:Fn:=⟨Tryz.f196,λ |3=>[.canon [1,5,8,9,10,11]]|4=>[.canon [1,5,6,7,8,9,10]]|5=>[.canon [1,5,7,8,9,10,17]]|6=>[.canon [1,5,8,9,10]]|7=>[.canon [1,5,8,9,10]]|100003=>[.canon [1,5,8,9,10]]|_=>[],λN=>Sig.of [.v Jg false,.v Ja false] [.v Ja false] (λd=>Ziw N d.1 d.2.1),CX [Zrl]⟩
def Z08(i3:Int)(n4:Int)(t5:List Ka)(t7:Int):St:=⟨[(1,vI i3),(5,vI n4),(8,vV Jg t5),(9,vI (Wg t5)),(10,vI t7)],[],0⟩
def Zxr(i3:Int)(t5:List Ka)(nR:Int)(aq:Int)(az:Bool):St:=⟨[(1,vI i3),(5,vI nR),(8,vV Jg t5),(9,vI (Wg t5)),(10,vI aq),(11,vB az)],[],0⟩
theorem Z09(N:Nat){R:Type}(K:Ex->St->Option R){i3:Int}{t5:List Ka}{K0:Int->Int->Bool->Option R}(h0:K0= λnR aq az=>K (.exit 0) (Zxr i3 t5 nR aq az))(n:Nat)(n4:Int)(t7:Int):Zbx N i3 t5 K0 n n4 t7=LM Zm3 N 0 100003 n (Z08 i3 n4 t5 t7) K:=by
  subst h0
  induction n generalizing n4 t7 with
  |zero=>kernel_rfl
  |succ n ih=>rw[Zbx];simp only[ih];kernel_rfl
theorem Zab4(N:Nat)(ai:List Ka)(i2:Int):DN Zm3 N (ai,i2,())=Ziw N ai i2:=by
  conv=>rhs;rw[Ziw];simp(disch:=exact id (by kernel_rfl)) only[Z09 (R:=Unit×Kh) N (CF Zm3 N [1,1,0,1,0])]
  kernel_rfl
def Zab5:Gd:=GF Zm3 Tryz.func196 (λN d=>Zab4 N d.1 d.2.1)
def Zoh:Fn:=⟨Tryz.f127,λ |5=>[.canon [0,3,14,15,16,17]]|6=>[.canon [0,3,4,5,14,15,16]]|7=>[.canon [0,3,4,5,14,15,16,23]]|8=>[.canon [2]]|9=>[.canon [0,3,4,5,14,15,16,25]]|10=>[.canon [0,3,4,5,14,15,16,25,26]]|11=>[.canon [0,3,14,15,16,48]]|12=>[.canon [2]]|13=>[.canon [0,3,4,14,15,16,49]]|14=>[.canon [0,3,4,14,15,16]]|15=>[.canon [0,3,14,15,16,60]]|16=>[.canon [2]]|17=>[.canon [0,3,14,15,16]]|100005=>[.canon [0,3,14,15,16]]|_=>[],λN=>Sig.of [.v Jg false] [.v Jp false] (λd=>Zdl N d.1),CX [Z4f,Zp9,Zab5]⟩
def Z4g(ae:List Ka)(aI:Int)(t7:Int):St:=⟨[(0,vV Jg ae),(3,vI aI),(14,vV Jg ae),(15,vI (Wg ae)),(16,vI t7)],[],0⟩
def Z1a(ae:List Ka):St:=⟨[(2,vB false)],[],0⟩
def Z1b(ae:List Ka)(gl:Int)(cl:Int)(fU:Bool):St:=⟨[(0,vV Jg ae),(3,vI gl),(14,vV Jg ae),(15,vI (Wg ae)),(16,vI cl),(17,vB fU)],[],0⟩
theorem Z4h(N:Nat){R:Type}(K:Ex->St->Option R){ae:List Ka}{K0:Option R}{K1:Int->Int->Bool->Option R}(h0:K0=K .ret (Z1a ae))(h1:K1= λgl cl fU=>K (.exit 0) (Z1b ae gl cl fU))(n:Nat)(aI:Int)(t7:Int):Zbl N ae K0 K1 n aI t7=LM Zoh N 0 100005 n (Z4g ae aI t7) K:=by
  subst h0 h1
  induction n generalizing aI t7 with
  |zero=>kernel_rfl
  |succ n ih=>rw[Zbl];simp only[ih];kernel_rfl
theorem Zae7(N:Nat)(ai:List Ka):DN Zoh N (ai,())=Zdl N ai:=by
  conv=>rhs;rw[Zdl];simp(disch:=exact id (by kernel_rfl)) only[Z4h (R:=Unit×Ko) N (CF Zoh N [1,1,1,0,1,0])]
  kernel_rfl
def Zur:Gd:=GF Zoh Tryz.func127 (λN d=>Zae7 N d.1)
def Zpd:Fn:=⟨Tryz.f126,λ |2=>[.canon [0,5,6,7,8]]|3=>[.canon [0,4,5,6,7]]|4=>[.canon [0,5,6,7,18]]|5=>[.canon [2]]|6=>[.canon [0,5,6,7]]|100002=>[.canon [0,5,6,7]]|_=>[],λN=>Sig.of [.v Jg false] [.v Jp false] (λd=>Zjn N d.1),CX [Zst,Zur]⟩
def Z6q(aj:List Ka)(t5:Int):St:=⟨[(0,vV Jg aj),(5,vV Jg aj),(6,vI (Wg aj)),(7,vI t5)],[],0⟩
def Z4i(aj:List Ka):St:=⟨[(2,vB false)],[],0⟩
def Z4j(aj:List Ka)(t8:Int)(t9:Bool):St:=⟨[(0,vV Jg aj),(5,vV Jg aj),(6,vI (Wg aj)),(7,vI t8),(8,vB t9)],[],0⟩
theorem Z6r(N:Nat){R:Type}(K:Ex->St->Option R){aj:List Ka}{K0:Option R}{K1:Int->Bool->Option R}(h0:K0=K .ret (Z4i aj))(h1:K1= λt8 t9=>K (.exit 0) (Z4j aj t8 t9))(n:Nat)(t5:Int):Zfd N aj K0 K1 n t5=LM Zpd N 0 100002 n (Z6q aj t5) K:=by
  subst h0 h1
  induction n generalizing t5 with
  |zero=>kernel_rfl
  |succ n ih=>rw[Zfd];simp only[ih];kernel_rfl
theorem Zagu(N:Nat)(ai:List Ka):DN Zpd N (ai,())=Zjn N ai:=by
  conv=>rhs;rw[Zjn];simp(disch:=exact id (by kernel_rfl)) only[Z6r (R:=Unit×Ko) N (CF Zpd N [1,0,1,0])]
  kernel_rfl
def Zagv:Gd:=GF Zpd Tryz.func126 (λN d=>Zagu N d.1)
def Z6s:Fn:=⟨Tryz.f198,Wv,λN=>Sig.of [.v Jq true] [.v Jp false] (λd=>Zqe N d.1),WR⟩
def Z6t:Gd:=GN Z6s Tryz.func198
def Z0:Fn:=⟨Tryz.f260,λ |2=>[.canon [0,1,7,8,9]]|3=>[.canon [0,1,5,7,8]]|4=>[.canon [0,1,5,7,8,16]]|5=>[.canon [1,4]]|6=>[.canon [0,1,7,8]]|100002=>[.canon [0,1,7,8]]|_=>[],λN=>Sig.of [.v Jg false,.clos 198 0] [.v Ja false] (λd=>Zs N d.1),CX [Z6t]⟩
def Zgz(s2:List Ka)(t4:Int):St:=⟨[(0,vV Jg s2),(1,.s (.one (.clos 198 []))),(7,vI (Wg s2)),(8,vI t4)],[],0⟩
def Zgk(s2:List Ka)(t7:Int):St:=⟨[(1,.s (.one (.clos 198 []))),(4,vI t7)],[],0⟩
def Zgl(s2:List Ka)(t8:Int)(t9:Bool):St:=⟨[(0,vV Jg s2),(1,.s (.one (.clos 198 []))),(7,vI (Wg s2)),(8,vI t8),(9,vB t9)],[],0⟩
theorem Zg0(N:Nat){R:Type}(K:Ex->St->Option R){s2:List Ka}{K0:Int->Option R}{K1:Int->Bool->Option R}(h0:K0= λt7=>K .ret (Zgk s2 t7))(h1:K1= λt8 t9=>K (.exit 0) (Zgl s2 t8 t9))(n:Nat)(t4:Int):Zg N s2 K0 K1 n t4=LM Z0 N 0 100002 n (Zgz s2 t4) K:=by
  subst h0 h1
  induction n generalizing t4 with
  |zero=>kernel_rfl
  |succ n ih=>rw[Zg];simp only[ih];kernel_rfl
theorem Zhs(N:Nat)(s1:List Ka):DN Z0 N (s1,())=Zs N s1:=by
  conv=>rhs;rw[Zs];simp(disch:=exact id (by kernel_rfl)) only[Zg0 (R:=Unit×Kh) N (CF Z0 N [1,0,1,0])]
  kernel_rfl
def Zht:Gd:=GF Z0 Tryz.func260 (λN d=>Zhs N d.1)
def Zg1:Fn:=⟨Tryz.f197,Wv,λN=>Sig.of [.v Jg false,.clos 198 0] [.v Jp false] (λd=>Zae N d.1),CX [Zht]⟩
def Zg2:Gd:=GF Zg1 Tryz.func197
def Zab6:Fn:=⟨Tryz.f128,Wv,λN=>Sig.of [.v Jg false] [.v Jp false] (λd=>Ziy N d.1),CX [Zg2]⟩
def Zab7:Gd:=GF Zab6 Tryz.func128
def Zoi:Fn:=⟨Tryz.f67,λ |2=>[.canon [1,6,7,8,9]]|3=>[.canon [1,4,6,7,8]]|4=>[.canon [1,6,7,8,15]]|5=>[.canon [2]]|6=>[.canon [1,6,7,8]]|100002=>[.canon [1,6,7,8]]|_=>[],λN=>Sig.of [.v Jai true] [.v Jp false] (λd=>Zkh N d.1),CX [Zagv,Zur,Zab7]⟩
def Z4k(t2:List Kz)(t4:Int)(b5:List Ka×List Kz):St:=⟨[(1,vP 0 0),(6,vV Jac t2),(7,vI (Wg b5.2)),(8,vI t4)],[(0,.box [.val Jg b5.1,.val Jac b5.2])],1⟩
def Z1c(t2:List Kz)(b5:List Ka×List Kz):St:=⟨[(2,vB false)],[],0⟩
def Z1d(t2:List Kz)(b5:List Ka×List Kz)(t8:Int)(t9:Bool):St:=⟨[(1,vP 0 0),(6,vV Jac t2),(7,vI (Wg b5.2)),(8,vI t8),(9,vB t9)],[(0,.box [.val Jg b5.1,.val Jac b5.2])],1⟩
theorem Z4l(N:Nat){R:Type}(K:Ex->St->Option R){t2:List Kz}{b5:List Ka×List Kz}{K0:Option R}{K1:Int->Bool->Option R}(h0:K0=K .ret (Z1c t2 b5))(h1:K1= λt8 t9=>K (.exit 0) (Z1d t2 b5 t8 t9))(n:Nat)(t4:Int):Zee N t2 b5 K0 K1 n t4=LM Zoi N 0 100002 n (Z4k t2 t4 b5) K:=by
  subst h0 h1
  induction n generalizing t4 with
  |zero=>kernel_rfl
  |succ n ih=>rw[Zee];simp only[ih];kernel_rfl
theorem Zae8(N:Nat)(p1:List Ka×List Kz):DN Zoi N (p1,())=Zkh N p1:=by
  conv=>rhs;rw[Zkh];simp(disch:=exact id (by kernel_rfl)) only[Z4l (R:=Unit×Ko) N (CF Zoi N [1,0,1,0])]
  kernel_rfl
def Zae9:Gd:=GF Zoi Tryz.func67 (λN d=>Zae8 N d.1)
def Z4m:Fn:=⟨Tryz.f66,Wv,λN=>Sig.of [.v Jai true] [.v Jp false] (λd=>Zlm N d.1),CX [Zae9]⟩
def Z4n:Gd:=GF Z4m Tryz.func66
def Zw:Fn:=⟨Tryz.f125,λ |2=>[.canon [0,1,7,8,9]]|3=>[.canon [0,1,5,7,8]]|4=>[.canon [0,1,5,7,8,16]]|5=>[.canon [1,4]]|6=>[.canon [0,1,7,8]]|100002=>[.canon [0,1,7,8]]|_=>[],λN=>Sig.of [.v Jo false,.clos 66 0] [.v Ja false] (λd=>Zp N d.1),CX [Z4n]⟩
def Zfo(s2:List Km)(t4:Int):St:=⟨[(0,vV Jo s2),(1,.s (.one (.clos 66 []))),(7,vI (Wg s2)),(8,vI t4)],[],0⟩
def Ze1(s2:List Km)(t7:Int):St:=⟨[(1,.s (.one (.clos 66 []))),(4,vI t7)],[],0⟩
def Ze2(s2:List Km)(t8:Int)(t9:Bool):St:=⟨[(0,vV Jo s2),(1,.s (.one (.clos 66 []))),(7,vI (Wg s2)),(8,vI t8),(9,vB t9)],[],0⟩
theorem Zfp(N:Nat){R:Type}(K:Ex->St->Option R){s2:List Km}{K0:Int->Option R}{K1:Int->Bool->Option R}(h0:K0= λt7=>K .ret (Ze1 s2 t7))(h1:K1= λt8 t9=>K (.exit 0) (Ze2 s2 t8 t9))(n:Nat)(t4:Int):Zb N s2 K0 K1 n t4=LM Zw N 0 100002 n (Zfo s2 t4) K:=by
  subst h0 h1
  induction n generalizing t4 with
  |zero=>kernel_rfl
  |succ n ih=>rw[Zb];simp only[ih];kernel_rfl
theorem Zgm(N:Nat)(s1:List Km):DN Zw N (s1,())=Zp N s1:=by
  conv=>rhs;rw[Zp];simp(disch:=exact id (by kernel_rfl)) only[Zfp (R:=Unit×Kh) N (CF Zw N [1,0,1,0])]
  kernel_rfl
def Zgn:Gd:=GF Zw Tryz.func125 (λN d=>Zgm N d.1)
def Zf3:Fn:=⟨Tryz.f65,Wv,λN=>Sig.of [.v Jo false,.clos 66 0] [.v Jp false] (λd=>Z8 N d.1),CX [Zgn]⟩
def Zf4:Gd:=GF Zf3 Tryz.func65
def Z9h:Fn:=⟨Tryz.f25,Wv,λN=>Sig.of [.v Jx true] [.v Jp false] (λd=>Znu N d.1),CX [Z9g,Zf4]⟩
def Z9i:Gd:=GF Z9h Tryz.func25
def Zab8:Fn:=⟨Tryz.f69,Wv,λN=>Sig.of [] [.v Jae false] (λd=>Zrh N),WR⟩
def Zab9:Gd:=GN Zab8 Tryz.func69
def Z9j:Fn:=⟨Tryz.f129,Wv,λN=>Sig.of [.v Ji false] [.v Jae false] (λd=>Zm N d.1),WR⟩
def Z2:Gd:=GN Z9j Tryz.func129
def Zafa:Fn:=⟨Tryz.f134,Wv,λN=>Sig.of [.v Ja false,.v Ja false] [.v Ja false] (λd=>Zki N d.1 d.2.1),WR⟩
def Zus:Gd:=GN Zafa Tryz.func134
def Zagw:Fn:=⟨Tryz.f199,Wv,λN=>Sig.of [.v Ja false] [.v Ja false] (λd=>Zjr N d.1),WR⟩
def Zxs:Gd:=GN Zagw Tryz.func199
def Z9k:Fn:=⟨Tryz.f135,Wv,λN=>Sig.of [.v Ja false] [.v Ja false] (λd=>Zkr N d.1),CX [Zji]⟩
def Zr8:Gd:=GF Z9k Tryz.func135
def Zm4:Fn:=⟨Tryz.f130,λ |5=>[.canon [3,9,10,11,12]]|6=>[.canon [3,4,5,9,10,11]]|7=>[.canon [3,4,5,9,10,11,17]]|8=>[.canon [3,5,9,10,11,35]]|9=>[.canon [2]]|10=>[.canon [3,9,10,11]]|11=>[.canon [3,9,10,11]]|100005=>[.canon [3,9,10,11]]|_=>[],λN=>Sig.of [.v Ji false] [.v Jp false] (λd=>Zdr N d.1),CX [Zus,Zz,Zxs,Zr8]⟩
def Z1e(t2:List Int)(t4:Int)(l5:List Bool):St:=⟨[(3,.s (.one (.aptr 0))),(9,vV Ji t2),(10,vI (Wg t2)),(11,vI t4)],[(0,.arr Jp l5)],1⟩
def Zxt(t2:List Int):St:=⟨[(2,vB false)],[],0⟩
def Zxu(t2:List Int)(fV:Int)(hC:Bool)(dv:List Bool):St:=⟨[(3,.s (.one (.aptr 0))),(9,vV Ji t2),(10,vI (Wg t2)),(11,vI fV),(12,vB hC)],[(0,.arr Jp dv)],1⟩
theorem Z1f(N:Nat){R:Type}(K:Ex->St->Option R){t2:List Int}{K0:Option R}{K1:Int->Bool->(List Bool)->Option R}(h0:K0=K .ret (Zxt t2))(h1:K1= λfV hC dv=>K (.exit 0) (Zxu t2 fV hC dv))(n:Nat)(t4:Int)(l5:List Bool):Zby N t2 K0 K1 n t4 l5=LM Zm4 N 0 100005 n (Z1e t2 t4 l5) K:=by
  subst h0 h1
  induction n generalizing t4 l5 with
  |zero=>kernel_rfl
  |succ n ih=>rw[Zby];simp only[ih];kernel_rfl
theorem Zaca(N:Nat)(l1:List Int):DN Zm4 N (l1,())=Zdr N l1:=by
  conv=>rhs;rw[Zdr];simp(disch:=exact id (by kernel_rfl)) only[Z1f (R:=Unit×Ko) N (CF Zm4 N [1,1,1,0,1,0])]
  kernel_rfl
def Zm5:Gd:=GF Zm4 Tryz.func130 (λN d=>Zaca N d.1)
def Zqa:Fn:=⟨Tryz.f132,λ |2=>[.canon [1,7,8,9,10]]|3=>[.canon [1,5,6,7,8,9]]|4=>[.canon [1,5,7,8,9,21]]|5=>[.canon [4]]|6=>[.canon [1,7,8,9]]|100002=>[.canon [1,7,8,9]]|_=>[],λN=>Sig.of [.v Ji false,.v Ja false] [.v Ja false] (λd=>Zhr N d.1 d.2.1),CX [Zxs]⟩
def Z9l(eb:Int)(t4:List Int)(t6:Int):St:=⟨[(1,vI eb),(7,vV Ji t4),(8,vI (Wg t4)),(9,vI t6)],[],0⟩
def Z6u(eb:Int)(t4:List Int)(t9:Int):St:=⟨[(4,vI t9)],[],0⟩
def Z6v(eb:Int)(t4:List Int)(ar:Int)(aq:Bool):St:=⟨[(1,vI eb),(7,vV Ji t4),(8,vI (Wg t4)),(9,vI ar),(10,vB aq)],[],0⟩
theorem Z9m(N:Nat){R:Type}(K:Ex->St->Option R){eb:Int}{t4:List Int}{K0:Int->Option R}{K1:Int->Bool->Option R}(h0:K0= λt9=>K .ret (Z6u eb t4 t9))(h1:K1= λar aq=>K (.exit 0) (Z6v eb t4 ar aq))(n:Nat)(t6:Int):Zej N eb t4 K0 K1 n t6=LM Zqa N 0 100002 n (Z9l eb t4 t6) K:=by
  subst h0 h1
  induction n generalizing t6 with
  |zero=>kernel_rfl
  |succ n ih=>rw[Zej];simp only[ih];kernel_rfl
theorem Zahn(N:Nat)(l1:List Int)(aV:Int):DN Zqa N (l1,aV,())=Zhr N l1 aV:=by
  conv=>rhs;rw[Zhr];simp(disch:=exact id (by kernel_rfl)) only[Z9m (R:=Unit×Kh) N (CF Zqa N [1,0,1,0])]
  kernel_rfl
def Zrx:Gd:=GF Zqa Tryz.func132 (λN d=>Zahn N d.1 d.2.1)
def Zacb:Fn:=⟨Tryz.f133,Wv,λN=>Sig.of [.v Ji false,.v Ja false] [.v Ja false,.v Jp false] (λd=>Ziz N d.1 d.2.1),CX [Zm5,Zji,Zrx]⟩
def Zqm:Gd:=GF Zacb Tryz.func133
def Zm6:Fn:=⟨Tryz.f70,λ |10=>[.canon [1,2,9,13,57]]|11=>[.canon [1,2,9,13]]|100010=>[.canon [1,2,9,13]]|_=>[],λN=>Sig.of [.v Ji false,.v Ja false,.v Ja false] [.v Jae false,.v Ja false,.v Jp false] (λd=>Zfv N d.1 d.2.1 d.2.2.1),CX [Z2,Zm5,Zji,Zbf,Zrx,Zqm,Zus,Zr8]⟩
def Z1g(bs:Int)(fJ:Int)(fv:Int)(bj:List Int):St:=⟨[(1,vI bs),(2,vI fJ),(9,vO 0),(13,vI fv)],[(0,.arr Ja bj)],1⟩
def Zxv(bs:Int)(fJ:Int)(bj:List Int)(na:Int)(fM:Bool):St:=⟨[(1,vI bs),(2,vI fJ),(9,vO 0),(13,vI na),(57,vB fM)],[(0,.arr Ja bj)],1⟩
theorem Z1h(N:Nat){R:Type}(K:Ex->St->Option R){bs:Int}{fJ:Int}{bj:List Int}{K0:Int->Bool->Option R}(h0:K0= λna fM=>K (.exit 0) (Zxv bs fJ bj na fM))(n:Nat)(fv:Int):Zc4 N bs fJ bj K0 n fv=LM Zm6 N 0 100010 n (Z1g bs fJ fv bj) K:=by
  subst h0
  induction n generalizing fv with
  |zero=>kernel_rfl
  |succ n ih=>rw[Zc4];simp only[ih];kernel_rfl
theorem Zacc(N:Nat)(l1:List Int)(aV:Int)(v3:Int):DN Zm6 N (l1,aV,v3,())=Zfv N l1 aV v3:=by
  conv=>rhs;rw[Zfv];simp(disch:=exact id (by kernel_rfl)) only[Z1h (R:=Unit×(Kj×Kk)) N (CF Zm6 N [1,1,1,1,1,0,0])]
  kernel_rfl
def Zqn:Gd:=GF Zm6 Tryz.func70 (λN d=>Zacc N d.1 d.2.1 d.2.2.1)
def Zk4:Fn:=⟨Tryz.f26,λ |5=>[.canon [3,10,11,12,13]]|6=>[.canon [3,4,5,10,11,12]]|7=>[.canon [3,4,5,10,11,12,18]]|8=>[.canon [3,10,11,12]]|9=>[.canon [3,10,11,12]]|100005=>[.canon [3,10,11,12]]|_=>[],λN=>Sig.of [.v Ji false] [.v Jae false] (λd=>Zfj N d.1),CX [Zxq,Zab9,Zqn]⟩
def Zvf(t4:List Int)(t6:Int)(l7:List Int):St:=⟨[(3,vO 0),(10,vV Ji t4),(11,vI (Wg t4)),(12,vI t6)],[(0,.arr Ja l7)],1⟩
def Ztm(t4:List Int)(ar:Int)(aq:Bool)(bC:List Int):St:=⟨[(3,vO 0),(10,vV Ji t4),(11,vI (Wg t4)),(12,vI ar),(13,vB aq)],[(0,.arr Ja bC)],1⟩
theorem Zvg(N:Nat){R:Type}(K:Ex->St->Option R){t4:List Int}{K0:Int->Bool->Kj->Option R}(h0:K0= λar aq bC=>K (.exit 0) (Ztm t4 ar aq bC))(n:Nat)(t6:Int)(l7:List Int):Za5 N t4 K0 n t6 l7=LM Zk4 N 0 100005 n (Zvf t4 t6 l7) K:=by
  subst h0
  induction n generalizing t6 l7 with
  |zero=>kernel_rfl
  |succ n ih=>rw[Za5];simp only[ih];kernel_rfl
theorem Z6w(N:Nat)(m1:List Int):DN Zk4 N (m1,())=Zfj N m1:=by
  conv=>rhs;rw[Zfj];simp(disch:=exact id (by kernel_rfl)) only[Zvg (R:=Unit×Kac) N (CF Zk4 N [1,1,1,0,1,0])]
  kernel_rfl
def Z6x:Gd:=GF Zk4 Tryz.func26 (λN d=>Z6w N d.1)
def Zoj:Fn:=⟨Tryz.f27,λ |5=>[.canon [2,4,12,13,14,15]]|6=>[.canon [2,4,6,12,13,14]]|7=>[.canon [2,4,12,13,14]]|8=>[.canon [2,4,12,13,14]]|100005=>[.adoptC 4 1 Jb,.canon [2,4,12,13,14]]|_=>[],λN=>Sig.of [.v Ji false] [.v Jz true,.v Jp false] (λd=>Zig N d.1),CX [Zhx]⟩
def Z4o(t3:List Int)(t5:Int)(l8:List Kb):St:=⟨[(2,vP 0 0),(4,vP 1 0),(12,vV Ji t3),(13,vI (Wg t3)),(14,vI t5)],[(0,.box [.val Ja (0:Int),.nils]),(1,.box [.val Ja (0:Int),.own 2]),(2,.arr Jb l8)],3⟩
def Z1i(t3:List Int)(t9:Int)(ar:Bool)(aA:List Kb):St:=⟨[(2,vP 0 0),(4,vP 1 0),(12,vV Ji t3),(13,vI (Wg t3)),(14,vI t9),(15,vB ar)],[(0,.box [.val Ja (0:Int),.nils]),(1,.box [.val Ja (0:Int),.own 2]),(2,.arr Jb aA)],3⟩
theorem Z4p(N:Nat){R:Type}(K:Ex->St->Option R){t3:List Int}{K0:Int->Bool->Kr->Option R}(h0:K0= λt9 ar aA=>K (.exit 0) (Z1i t3 t9 ar aA))(n:Nat)(t5:Int)(l8:List Kb):Zd8 N t3 K0 n t5 l8=LM Zoj N 0 100005 n (Z4o t3 t5 l8) K:=by
  subst h0
  induction n generalizing t5 l8 with
  |zero=>kernel_rfl
  |succ n ih=>rw[Zd8];simp only[ih];kernel_rfl
theorem Zafb(N:Nat)(l1:List Int):DN Zoj N (l1,())=Zig N l1:=by
  conv=>rhs;rw[Zig];simp(disch:=exact id (by kernel_rfl)) only[Z4p (R:=Unit×(Kt×Ko)) N (CF Zoj N [1,1,1,0,1,0])]
  kernel_rfl
def Zafc:Gd:=GF Zoj Tryz.func27 (λN d=>Zafb N d.1)
def Z6y:Fn:=⟨Tryz.f136,Wv,λN=>Sig.of [.box Jj] [] (λd=>Zat N d.1),WR⟩
def Zhy:Gd:=GN Z6y Tryz.func136
def Zj4:Fn:=⟨Tryz.f137,λ |3=>[.canon [0,1,4,5,17,18,19,20]]|4=>[.canon [0,1,4,5,6,7,17,18,19]]|5=>[.canon [0,1,4,5,17,18,19]]|6=>[.canon [0,1,4,5,17,18,19]]|100003=>[.canon [0,1,4,5,17,18,19]]|_=>[],λN=>Sig.of [.box Jn,.v Ja false] [] (λd=>Zgr N d.1 d.2.1),WR⟩
def Ztn(k3:Int)(r4:Nat)(dh:Bool)(t6:Int)(t7:Int)(b8:Int)(b9:Int)(bi:Int)(bR:Int)(bC:List Y_Root)(aJ:List Kb)(bD:List Int)(bj:List Kb)(cQ:List Kn):St:=⟨[(0,vP 0 0),(1,vI k3),(4,.s (.one (.eptr 1 r4 0))),(5,vB dh),(17,vO 1),(18,vI t6),(19,vI t7)],[(0,.box [.val Ja b8,.val Ja b9,.val Ja bi,.own 2,.own 3,.val Ja bR,.own 4,.own 1,.own 5]),(1,.arr Jj bC),(2,.arr Jb aJ),(3,.arr Ja bD),(4,.arr Jb bj),(5,.arr Jah cQ)],6⟩
def Zsw(k3:Int)(r4:Nat)(t6:Int)(b8:Int)(b9:Int)(bi:Int)(bR:Int)(bC:List Y_Root)(aJ:List Kb)(bD:List Int)(bj:List Kb)(cQ:List Kn)(gm:Bool)(fV:Int)(hC:Bool):St:=⟨[(0,vP 0 0),(1,vI k3),(4,.s (.one (.eptr 1 r4 0))),(5,vB gm),(17,vO 1),(18,vI t6),(19,vI fV),(20,vB hC)],[(0,.box [.val Ja b8,.val Ja b9,.val Ja bi,.own 2,.own 3,.val Ja bR,.own 4,.own 1,.own 5]),(1,.arr Jj bC),(2,.arr Jb aJ),(3,.arr Ja bD),(4,.arr Jb bj),(5,.arr Jah cQ)],6⟩
theorem Zto(N:Nat){R:Type}(K:Ex->St->Option R){k3:Int}{r4:Nat}{t6:Int}{b8:Int}{b9:Int}{bi:Int}{bR:Int}{bC:List Y_Root}{aJ:List Kb}{bD:List Int}{bj:List Kb}{cQ:List Kn}{K0:Bool->Int->Bool->Option R}(h0:K0= λgm fV hC=>K (.exit 0) (Zsw k3 r4 t6 b8 b9 bi bR bC aJ bD bj cQ gm fV hC))(n:Nat)(dh:Bool)(t7:Int):Zaa N k3 r4 t6 b8 b9 bi bR bC aJ bD bj cQ K0 n dh t7=LM Zj4 N 0 100003 n (Ztn k3 r4 dh t6 t7 b8 b9 bi bR bC aJ bD bj cQ) K:=by
  subst h0
  induction n generalizing dh t7 with
  |zero=>kernel_rfl
  |succ n ih=>rw[Zaa];simp only[ih];kernel_rfl
theorem Z4q(N:Nat)(w1:Y_World)(k2:Int):DN Zj4 N (w1,k2,())=Zgr N w1 k2:=by
  conv=>rhs;rw[Zgr];simp(disch:=exact id (by kernel_rfl)) only[Zto (R:=(Y_World×Unit)×Unit) N (CF Zj4 N [1,1,0,1,0])]
  kernel_rfl
def Z4r:Gd:=GN Zj4 Tryz.func137 (λN d=>Z4q N d.1 d.2.1)
def Zafd:Fn:=⟨Tryz.f288,Wv,λN=>Sig.of [.v Ja false,.v Ja false,.v Ja false] [.v Jp false] (λd=>Zkj N d.1 d.2.1 d.2.2.1),CX [Zz]⟩
def Zut:Gd:=GF Zafd Tryz.func288
def Zxw:Fn:=⟨Tryz.f289,Wv,λN=>Sig.of [.v Jb true,.v Jb true] [.v Ja false] (λd=>Zj2 N d.1 d.2.1),WR⟩
def Zxx:Gd:=GN Zxw Tryz.func289
def Zm7:Fn:=⟨Tryz.f214,λ |2=>[.canon [0,5,6,7,8]]|3=>[.canon [0,3,4,5,6,7]]|4=>[.canon [0,3,4,5,6,7,33]]|5=>[.canon [2]]|6=>[.canon [0,5,6,7,60]]|7=>[.canon [2]]|8=>[.canon [0,5,6,7]]|100002=>[.canon [0,5,6,7]]|_=>[],λN=>Sig.of [.v Jm false] [.v Jp false] (λd=>Zfw N d.1),CX [Zut,Zxx]⟩
def Z1j(l2:List Kb)(t5:Int):St:=⟨[(0,vV Jm l2),(5,vV Jm l2),(6,vI (Wg l2)),(7,vI t5)],[],0⟩
def Zxy(l2:List Kb):St:=⟨[(2,vB false)],[],0⟩
def Zxz(l2:List Kb)(ar:Int)(aq:Bool):St:=⟨[(0,vV Jm l2),(5,vV Jm l2),(6,vI (Wg l2)),(7,vI ar),(8,vB aq)],[],0⟩
theorem Z1k(N:Nat){R:Type}(K:Ex->St->Option R){l2:List Kb}{K0:Option R}{K1:Int->Bool->Option R}(h0:K0=K .ret (Zxy l2))(h1:K1= λar aq=>K (.exit 0) (Zxz l2 ar aq))(n:Nat)(t5:Int):Z9 N l2 K0 K1 n t5=LM Zm7 N 0 100002 n (Z1j l2 t5) K:=by
  subst h0 h1
  induction n generalizing t5 with
  |zero=>kernel_rfl
  |succ n ih=>rw[Z9];simp only[ih];kernel_rfl
theorem Zacd(N:Nat)(l1:List Kb):DN Zm7 N (l1,())=Zfw N l1:=by
  conv=>rhs;rw[Zfw];simp(disch:=exact id (by kernel_rfl)) only[Z1k (R:=Unit×Ko) N (CF Zm7 N [1,0,1,0])]
  kernel_rfl
def Zm8:Gd:=GF Zm7 Tryz.func214 (λN d=>Zacd N d.1)
def Zm9:Fn:=⟨Tryz.f261,λ |5=>[.canon [1,5,12,13,14,15]]|6=>[.canon [1,5,7,12,13,14]]|7=>[.canon [1,5,7,12,13,14,21]]|8=>[.canon [1,5,12,13,14]]|9=>[.canon [1,5,12,13,14]]|100005=>[.canon [1,5,12,13,14]]|_=>[],λN=>Sig.of [.v Jm false,.v Ja false] [.v Jae false] (λd=>Zhc N d.1 d.2.1),CX [Zm8]⟩
def Z1l(cr:Int)(t5:List Kb)(t7:Int)(l8:List Int):St:=⟨[(1,vI cr),(5,vO 0),(12,vV Jm t5),(13,vI (Wg t5)),(14,vI t7)],[(0,.arr Ja l8)],1⟩
def Zx0(cr:Int)(t5:List Kb)(t9:Int)(ar:Bool)(aA:List Int):St:=⟨[(1,vI cr),(5,vO 0),(12,vV Jm t5),(13,vI (Wg t5)),(14,vI t9),(15,vB ar)],[(0,.arr Ja aA)],1⟩
theorem Z1m(N:Nat){R:Type}(K:Ex->St->Option R){cr:Int}{t5:List Kb}{K0:Int->Bool->Kj->Option R}(h0:K0= λt9 ar aA=>K (.exit 0) (Zx0 cr t5 t9 ar aA))(n:Nat)(t7:Int)(l8:List Int):Zbz N cr t5 K0 n t7 l8=LM Zm9 N 0 100005 n (Z1l cr t5 t7 l8) K:=by
  subst h0
  induction n generalizing t7 l8 with
  |zero=>kernel_rfl
  |succ n ih=>rw[Zbz];simp only[ih];kernel_rfl
theorem Zace(N:Nat)(l1:List Kb)(aK:Int):DN Zm9 N (l1,aK,())=Zhc N l1 aK:=by
  conv=>rhs;rw[Zhc];simp(disch:=exact id (by kernel_rfl)) only[Z1m (R:=Unit×Kac) N (CF Zm9 N [1,1,1,0,1,0])]
  kernel_rfl
def Zacf:Gd:=GF Zm9 Tryz.func261 (λN d=>Zace N d.1 d.2.1)
def Z6z:Fn:=⟨Tryz.f145,λ |0=>[.opn 10]|_=>[],λN=>Sig.of [.box Jn,.v Ja false] [] (λd=>Zhd N d.1 d.2.1),WR⟩
def Zrr:Gd:=GN Z6z Tryz.func145
def Zacg:Fn:=⟨Tryz.f306,Wv,λN=>Sig.of [.v Ja false] [.v Jp false] (λd=>Zfx N d.1),CX [Zz]⟩
def Zjz:Gd:=GF Zacg Tryz.func306
def Zok:Fn:=⟨Tryz.f291,λ |2=>[.canon [0,5,6,7,8]]|3=>[.canon [0,4,5,6,7]]|4=>[.canon [0,5,6,7,20]]|5=>[.canon [2]]|6=>[.canon [0,5,6,7]]|100002=>[.canon [0,5,6,7]]|_=>[],λN=>Sig.of [.v Jd false] [.v Jp false] (λd=>Zdm N d.1),CX [Zel,Zbf]⟩
def Z4s(l2:List Kc)(t5:Int):St:=⟨[(0,vV Jd l2),(5,vV Jd l2),(6,vI (Wg l2)),(7,vI t5)],[],0⟩
def Z1n(l2:List Kc):St:=⟨[(2,vB false)],[],0⟩
def Z1o(l2:List Kc)(ar:Int)(aq:Bool):St:=⟨[(0,vV Jd l2),(5,vV Jd l2),(6,vI (Wg l2)),(7,vI ar),(8,vB aq)],[],0⟩
theorem Z4t(N:Nat){R:Type}(K:Ex->St->Option R){l2:List Kc}{K0:Option R}{K1:Int->Bool->Option R}(h0:K0=K .ret (Z1n l2))(h1:K1= λar aq=>K (.exit 0) (Z1o l2 ar aq))(n:Nat)(t5:Int):Zd7 N l2 K0 K1 n t5=LM Zok N 0 100002 n (Z4s l2 t5) K:=by
  subst h0 h1
  induction n generalizing t5 with
  |zero=>kernel_rfl
  |succ n ih=>rw[Zd7];simp only[ih];kernel_rfl
theorem Zafe(N:Nat)(l1:List Kc):DN Zok N (l1,())=Zdm N l1:=by
  conv=>rhs;rw[Zdm];simp(disch:=exact id (by kernel_rfl)) only[Z4t (R:=Unit×Ko) N (CF Zok N [1,0,1,0])]
  kernel_rfl
def Zol:Gd:=GF Zok Tryz.func291 (λN d=>Zafe N d.1)
def Zqb:Fn:=⟨Tryz.f263,λ |4=>[.canon [0,1,6,14]]|5=>[.canon [0,1,6]]|6=>[.canon [0,1,6,23]]|7=>[.canon [4,5]]|100004=>[.canon [0,1,6]]|_=>[],λN=>Sig.of [.v Jd false,.v Ja false] [.v Ja false,.v Jp false] (λd=>Ziu N d.1 d.2.1),CX [Zol]⟩
def Z9n(l4:List Kc)(bg:Int)(i6:Int):St:=⟨[(0,vV Jd l4),(1,vI bg),(6,vI i6)],[],0⟩
def Z60(l4:List Kc)(bg:Int)(t7:Int):St:=⟨[(4,vI t7),(5,vB true)],[],0⟩
def Z61(l4:List Kc)(bg:Int)(i8:Int)(t9:Bool):St:=⟨[(0,vV Jd l4),(1,vI bg),(6,vI i8),(14,vB t9)],[],0⟩
theorem Z9o(N:Nat){R:Type}(K:Ex->St->Option R){l4:List Kc}{bg:Int}{K0:Int->Option R}{K1:Int->Bool->Option R}(h0:K0= λt7=>K .ret (Z60 l4 bg t7))(h1:K1= λi8 t9=>K (.exit 0) (Z61 l4 bg i8 t9))(n:Nat)(i6:Int):Zh1 N l4 bg K0 K1 n i6=LM Zqb N 0 100004 n (Z9n l4 bg i6) K:=by
  subst h0 h1
  induction n generalizing i6 with
  |zero=>kernel_rfl
  |succ n ih=>rw[Zh1];simp only[ih];kernel_rfl
theorem Zaho(N:Nat)(l1:List Kc)(ca:Int):DN Zqb N (l1,ca,())=Ziu N l1 ca:=by
  conv=>rhs;rw[Ziu];simp(disch:=exact id (by kernel_rfl)) only[Z9o (R:=Unit×Kk) N (CF Zqb N [1,1,0,1,0])]
  kernel_rfl
def Zry:Gd:=GF Zqb Tryz.func263 (λN d=>Zaho N d.1 d.2.1)
def Zq7:Fn:=⟨Tryz.f219,λ |5=>[.canon [0,3,11,12]]|6=>[.canon [0,3,4,11]]|7=>[.canon [0,3,4,5,6,11]]|8=>[.canon [0,3,4,5,11,20]]|9=>[.canon [0,3,11]]|10=>[.canon [0,3,11]]|100005=>[.canon [0,3,11]]|_=>[],λN=>Sig.of [.v Jd false] [.v Jc false] (λd=>Zhq N d.1),CX [Zol,Zry]⟩
def Zach(l3:List Kc)(t4:Int)(l5:List Kc):St:=⟨[(0,vV Jd l3),(3,vO 0),(11,vI t4)],[(0,.arr Jt l5)],1⟩
def Z9p(l3:List Kc)(t7:Int)(t8:Bool)(l9:List Kc):St:=⟨[(0,vV Jd l3),(3,vO 0),(11,vI t7),(12,vB t8)],[(0,.arr Jt l9)],1⟩
theorem Zaci(N:Nat){R:Type}(K:Ex->St->Option R){l3:List Kc}{K0:Int->Bool->Kv->Option R}(h0:K0= λt7 t8 l9=>K (.exit 0) (Z9p l3 t7 t8 l9))(n:Nat)(t4:Int)(l5:List Kc):Zg7 N l3 K0 n t4 l5=LM Zq7 N 0 100005 n (Zach l3 t4 l5) K:=by
  subst h0
  induction n generalizing t4 l5 with
  |zero=>kernel_rfl
  |succ n ih=>rw[Zg7];simp only[ih];kernel_rfl
theorem Zahz(N:Nat)(l1:List Kc):DN Zq7 N (l1,())=Zhq N l1:=by
  conv=>rhs;rw[Zhq];simp(disch:=exact id (by kernel_rfl)) only[Zaci (R:=Unit×Kad) N (CF Zq7 N [1,1,1,0,1,0])]
  kernel_rfl
def Zq8:Gd:=GF Zq7 Tryz.func219 (λN d=>Zahz N d.1)
def Zna:Fn:=⟨Tryz.f307,λ |3=>[.canon [3,8,9,10,11]]|4=>[.canon [3,5,8,9,10]]|5=>[.canon [3,8,9,10]]|6=>[.canon [3,8,9,10]]|100003=>[.canon [3,8,9,10]]|_=>[],λN=>Sig.of [.v Jd false] [.v Jae false] (λd=>Zi0 N d.1),CX [Zq8]⟩
def Z1p(t3:Int)(t4:Int)(l5:List Int)(l6:List Kc):St:=⟨[(3,vO 0),(8,vO 1),(9,vI t3),(10,vI t4)],[(0,.arr Ja l5),(1,.arr Jt l6)],2⟩
def Zx1(t3:Int)(l6:List Kc)(t7:Int)(t8:Bool)(l9:List Int):St:=⟨[(3,vO 0),(8,vO 1),(9,vI t3),(10,vI t7),(11,vB t8)],[(0,.arr Ja l9),(1,.arr Jt l6)],2⟩
theorem Z1q(N:Nat){R:Type}(K:Ex->St->Option R){t3:Int}{l6:List Kc}{K0:Int->Bool->Kj->Option R}(h0:K0= λt7 t8 l9=>K (.exit 0) (Zx1 t3 l6 t7 t8 l9))(n:Nat)(t4:Int)(l5:List Int):Zc5 N t3 l6 K0 n t4 l5=LM Zna N 0 100003 n (Z1p t3 t4 l5 l6) K:=by
  subst h0
  induction n generalizing t4 l5 with
  |zero=>kernel_rfl
  |succ n ih=>rw[Zc5];simp only[ih];kernel_rfl
theorem Zacj(N:Nat)(l1:List Kc):DN Zna N (l1,())=Zi0 N l1:=by
  conv=>rhs;rw[Zi0];simp(disch:=exact id (by kernel_rfl)) only[Z1q (R:=Unit×Kac) N (CF Zna N [1,1,0,1,0])]
  kernel_rfl
def Zack:Gd:=GF Zna Tryz.func307 (λN d=>Zacj N d.1)
def Z62:Fn:=⟨Tryz.f262,Wv,λN=>Sig.of [.v Ja false,.v Ja false,.v Jd false,.v Jd false] [.v Jr true,.v Jp false] (λd=>Zfk N d.1 d.2.1 d.2.2.1 d.2.2.2.1),CX [Zjz,Zz,Zol,Zq8,Zack]⟩
def Z63:Gd:=GF Z62 Tryz.func262
def Z1r:Fn:=⟨Tryz.f200,λ |0=>[.opn 13]|_=>[],λN=>Sig.of [.box Jn,.v Ja false,.v Ja false] [] (λd=>Zhu N d.1 d.2.1 d.2.2.1),CX [Zacf,Zrr,Z63]⟩
def Zq9:Gd:=GF Z1r Tryz.func200
def Z9q:Fn:=⟨Tryz.f264,Wv,λN=>Sig.of [.v Ja false] [.v Jq true,.v Jp false] (λd=>Zgd N d.1),CX [Zel]⟩
def Zr9:Gd:=GF Z9q Tryz.func264
def Zpe:Fn:=⟨Tryz.f281,λ |2=>[.canon [1,6,7,8,9]]|3=>[.canon [1,4,6,7,8]]|4=>[.canon [1,6,7,8,29]]|5=>[.canon [2]]|6=>[.canon [1,6,7,8]]|100002=>[.canon [1,6,7,8]]|_=>[],λN=>Sig.of [.v Jaf true] [.v Jp false] (λd=>Zc1 N d.1),CX [Zbf,Zz]⟩
def Z64(t2:List Kb)(t4:Int)(b5:Int×List Kb):St:=⟨[(1,vP 0 0),(6,vV Jm t2),(7,vI (Wg b5.2)),(8,vI t4)],[(0,.box [.val Ja b5.1,.val Jm b5.2])],1⟩
def Z4u(t2:List Kb)(b5:Int×List Kb):St:=⟨[(2,vB false)],[],0⟩
def Z4v(t2:List Kb)(b5:Int×List Kb)(az:Int)(bc:Bool):St:=⟨[(1,vP 0 0),(6,vV Jm t2),(7,vI (Wg b5.2)),(8,vI az),(9,vB bc)],[(0,.box [.val Ja b5.1,.val Jm b5.2])],1⟩
theorem Z65(N:Nat){R:Type}(K:Ex->St->Option R){t2:List Kb}{b5:Int×List Kb}{K0:Option R}{K1:Int->Bool->Option R}(h0:K0=K .ret (Z4u t2 b5))(h1:K1= λaz bc=>K (.exit 0) (Z4v t2 b5 az bc))(n:Nat)(t4:Int):Zfe N t2 b5 K0 K1 n t4=LM Zpe N 0 100002 n (Z64 t2 t4 b5) K:=by
  subst h0 h1
  induction n generalizing t4 with
  |zero=>kernel_rfl
  |succ n ih=>rw[Zfe];simp only[ih];kernel_rfl
theorem Zagx(N:Nat)(m1:Int×List Kb):DN Zpe N (m1,())=Zc1 N m1:=by
  conv=>rhs;rw[Zc1];simp(disch:=exact id (by kernel_rfl)) only[Z65 (R:=Unit×Ko) N (CF Zpe N [1,0,1,0])]
  kernel_rfl
def Zjj:Gd:=GF Zpe Tryz.func281 (λN d=>Zagx N d.1)
def Zacl:Fn:=⟨Tryz.f308,Wv,λN=>Sig.of [.v Jq true] [.v Jp false] (λd=>Zov N d.1),CX [Zel,Zz,Zbf]⟩
def Zacm:Gd:=GF Zacl Tryz.func308
def Z66:Fn:=⟨Tryz.f265,Wv,λN=>Sig.of [.v Jaf true,.v Ja false,.v Jq true] [.v Jq true] (λd=>Zff N d.1 d.2.1 d.2.2.1),CX [Zjj,Zacm]⟩
def Zrs:Gd:=GF Z66 Tryz.func265
def Zvh:Fn:=⟨Tryz.f266,Wv,λN=>Sig.of [.box Jj] [] (λd=>Zds N d.1),CX [Zhy]⟩
def Zpr:Gd:=GF Zvh Tryz.func266
def Z4w:Fn:=⟨Tryz.f201,λ |1000000=>[.unfE 1]|_=>[],λN=>Sig.of [.boxal Jn 3,.v Jq true] [] (λd=>Zln N d.1 d.2.1 d.2.2.1),CX [Zry,Zr9,Zrs,Zpr]⟩
def Z4x:Gd:=GF Z4w Tryz.func201
def Zqo:Nat->List Ghost:=λ |0=>[.unfC 0 15 none]|_=>[]
def Zqp(N:Nat):Sig:=.inline (Inl.of tab Zqo Tryz.f140.ntmps (Wop Tryz.f140) Tryz.f140.results.toList (by kernel_rfl))
theorem Zx2(N:Nat):GW 140 (Zqp N):=⟨Wd2 Tryz.func140 (by kernel_rfl),WtX mixedOk tabOk Tryz.func140 (by kernel_rfl) (by kernel_rfl) (by kernel_rfl) (λid=>by unfold Zqo;split<;>rfl)⟩
def Zqq:Gd:=⟨140,Zqp,Zx2⟩
def Z67:Fn:=⟨Tryz.f273,Wv,λN=>Sig.of [.v Jag true] [.v Jap true] (λd=>Zjs N d.1),CX [Z2]⟩
def Zrt:Gd:=GF Z67 Tryz.func273
def Zacn:Fn:=⟨Tryz.f274,Wv,λN=>Sig.of [.v Jag true] [.v Jp false] (λd=>Zl7 N d.1),CX [Zm5,Zbf]⟩
def Zsx:Gd:=GF Zacn Tryz.func274
def Zaff:Fn:=⟨Tryz.f275,Wv,λN=>Sig.of [.v Jb true] [.v Jp false] (λd=>Zpu N d.1),CX [Zji,Zbf]⟩
def Zafg:Gd:=GF Zaff Tryz.func275
def Z9r:Fn:=⟨Tryz.f276,Wv,λN=>Sig.of [.v Ji false,.v Ja false] [.v Jae false,.v Ja false,.v Jp false] (λd=>Zks N d.1 d.2.1),CX [Z2,Zm5,Zji,Zrx,Zqm]⟩
def Zsa:Gd:=GF Z9r Tryz.func276
def Zaco:Fn:=⟨Tryz.f209,Wv,λN=>Sig.of [.v Jag true,.v Jb true] [.v Jap true,.v Jp false] (λd=>Zox N d.1 d.2.1),CX [Zrt,Zsx,Zafg,Zqn,Zsa]⟩
def Zacp:Gd:=GF Zaco Tryz.func209
def Z4y:Fn:=⟨Tryz.f141,λ |1000000=>[.unfE 1]|_=>[],λN=>Sig.of [.boxal Jn 3] [] (λd=>Zcj N d.1 d.2.1),CX [Zacp]⟩
def Zra:Gd:=GF Z4y Tryz.func141
def Z9s:Fn:=⟨Tryz.f210,Wv,λN=>Sig.of [.v Jd false] [.v Jc false] (λd=>Za4 N d.1),WR⟩
def Zin:Gd:=GN Z9s Tryz.func210
def Zpf:Fn:=⟨Tryz.f267,λ |5=>[.canon [0,5,6,25]]|6=>[.canon [0,5,6]]|7=>[.canon [0,5,6]]|8=>[.canon [0,5,6,36]]|9=>[.canon [4]]|100005=>[.canon [0,5,6]]|_=>[],λN=>Sig.of [.v Jg false,.v Ja false] [.v Ja false] (λd=>Zjo N d.1 d.2.1),CX [Zz,Zrl]⟩
def Z68(aB:List Ka)(n5:Int)(k6:Int):St:=⟨[(0,vV Jg aB),(5,vI n5),(6,vI k6)],[],0⟩
def Z4z(aB:List Ka)(t8:Int):St:=⟨[(4,vI t8)],[],0⟩
def Z40(aB:List Ka)(n9:Int)(k10:Int)(aq:Bool):St:=⟨[(0,vV Jg aB),(5,vI n9),(6,vI k10),(25,vB aq)],[],0⟩
theorem Z69(N:Nat){R:Type}(K:Ex->St->Option R){aB:List Ka}{K0:Int->Option R}{K1:Int->Int->Bool->Option R}(h0:K0= λt8=>K .ret (Z4z aB t8))(h1:K1= λn9 k10 aq=>K (.exit 0) (Z40 aB n9 k10 aq))(n:Nat)(n5:Int)(k6:Int):Zfg N aB K0 K1 n n5 k6=LM Zpf N 0 100005 n (Z68 aB n5 k6) K:=by
  subst h0 h1
  induction n generalizing n5 k6 with
  |zero=>kernel_rfl
  |succ n ih=>rw[Zfg];simp only[ih];kernel_rfl
theorem Zagy(N:Nat)(ai:List Ka)(i2:Int):DN Zpf N (ai,i2,())=Zjo N ai i2:=by
  conv=>rhs;rw[Zjo];simp(disch:=exact id (by kernel_rfl)) only[Z69 (R:=Unit×Kh) N (CF Zpf N [1,1,1,0,1,0])]
  kernel_rfl
def Zx3:Gd:=GF Zpf Tryz.func267 (λN d=>Zagy N d.1 d.2.1)
end
end Go.Sx
