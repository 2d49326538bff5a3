/- Each Go function does what its Lean function says. -/
import Derived.Test.YtokgfiajefpfoaaGreatT2
import Derived.Test.YtokgfiajefpfoaaGreatProg
import Derived.Test.YtokgfiajefpfoaaGreatLay
open Bool renaming and_eq_true→Xj
open List renaming cons_append→fG,nil_append→mx
namespace Go.Sx
noncomputable section
open Go.Proofs
open Tryz
abbrev Ja:Ty:=.int .i64
abbrev Jb:Ty:=.prod Ja (.prod Ja Ja)
abbrev Jc:Ty:=.own (.prod Ja Ja)
abbrev Jd:Ty:=.slice Ja
abbrev Je:Ty:=.own Ja
abbrev Jf:Ty:=.slice (.prod Ja Ja)
abbrev Jg:Ty:=.prod (.prod Ja Jb) (.prod (.prod Ja (.prod Ja (.prod Ja (.prod Ja (.prod Ja (.prod Jc Je)))))) (.prod Ja (.prod Ja (.prod Ja (.prod (.bool) (.prod Je (.prod Jc (.prod (.own Jb) (.prod Je (.prod Jc (.own (.prod Ja (.prod Ja (.prod Ja (.prod Ja (.prod Ja (.prod Ja (.prod Je (.prod (.own Jb) (.prod Jc (.prod (.own (.prod Ja (.prod Ja Je))) (.prod (.bool) (.prod Ja Jb)))))))))))))))))))))))
abbrev Jh:Ty:=.slice (.prod Ja Jb)
abbrev Ji:Ty:=.prod Ja (.prod Ja (.prod Ja (.prod Ja Jd)))
abbrev Jj:Ty:=.prod Ja (.prod Ja (.prod Ja (.prod Ja (.prod Ja (.prod Ja (.prod Ja (.prod Ja (.prod Ja (.prod Ja (.prod Ja (.prod (.bool) (.prod Je (.prod Jc (.prod Jc (.prod (.own Ji) (.prod (.own Jb) (.prod Je (.prod (.bool) Jg))))))))))))))))))
abbrev Jk:Ty:=.prod Ja (.prod Ja (.prod Ja (.prod Ja (.prod Ja (.prod Ja (.prod Je (.prod (.own Jb) (.prod Jc (.prod (.own (.prod Ja (.prod Ja Je))) (.prod (.bool) (.prod Ja Jb)))))))))))
abbrev Jl:Ty:=.prod Ja (.prod Ja (.prod (.prod Ja (.own Jb)) (.prod (.prod Je Ja) (.prod (.own Jb) (.prod (.own Jj) (.own (.prod Ja (.prod Ja Jf))))))))
abbrev Jm:Ty:=.prod Jh (.slice Jh)
abbrev Jn:Ty:=.prod (.slice (.int .u8)) (.prod Ja Ja)
abbrev Jo:Ty:=.prod Jd (.prod Jd Ja)
abbrev Jp:Ty:=.prod Ja (.prod Ja (.prod Ja (.prod (.bool) (.prod Je (.prod Jc (.prod (.own Jb) (.prod Je (.prod Jc (.own Jk)))))))))
abbrev Jq:Ty:=.slice Jb
abbrev Jr:Ty:=.prod Ja (.prod Ja (.prod Ja (.prod Ja (.prod Ja (.prod Jf Jd)))))
abbrev Js:Ty:=.slice (.prod Ja (.prod Ja Jf))
abbrev Jt:Ty:=.prod Ja (.prod Ja (.prod Ja (.prod Ja (.prod Ja (.prod Jc Je)))))
abbrev Ju:Ty:=.prod Ja Jb
abbrev Jv:Ty:=.bool
abbrev Jw:Ty:=.slice (.int .u8)
abbrev Jx:Ty:=.prod Ja Ja
abbrev Jy:Ty:=.prod Ja (.prod Jd Jo)
abbrev Jz:Ty:=.prod Jo (.prod (.slice Jm) Jq)
abbrev Jaa:Ty:=.prod Je (.prod Je Ja)
abbrev Jab:Ty:=.prod Ja Jq
abbrev Jac:Ty:=.slice (TY_KidRun)
abbrev Jad:Ty:=.prod Ja (.prod Ja Jf)
abbrev Jae:Ty:=.slice Jh
abbrev Jaf:Ty:=.prod Ja (.own Jb)
abbrev Jag:Ty:=.prod Ja (.prod Ja Je)
abbrev Jah:Ty:=.slice Jm
set_option linter.unusedVariables false
set_option linter.unusedSimpArgs false
def tab:Tab:=[(3,⟨.int .i64,false,.basic⟩),(4,⟨.bool,false,.basic⟩),(5,⟨.int .u8,false,.basic⟩),(22,⟨.slice (.int .u8),false,.slice 5⟩),(24,⟨.slice Ja,false,.slice 3⟩),(26,⟨.prod Jd (.prod Jd Ja),true,.struct [(0,24),(1,24),(2,3)]⟩),(27,⟨.slice Jm,false,.slice 54⟩),(28,⟨.slice Jb,false,.slice 59⟩),(30,⟨.prod Jo (.prod Jah Jq),true,.struct [(0,26),(3,27),(4,28)]⟩),(33,⟨.slice Jb,false,.slice 80⟩),(35,⟨.prod Ja Jq,true,.struct [(0,3),(1,33)]⟩),(37,⟨.prod Jd Ja,true,.struct [(0,24),(1,3)]⟩),(38,⟨.slice Jb,false,.slice 184⟩),(39,⟨.slice (TY_Root),false,.slice 95⟩),(40,⟨.slice Jad,false,.slice 143⟩),(42,⟨TY_World,true,.struct [(0,3),(1,3),(2,35),(4,37),(6,38),(7,39),(8,40)]⟩),(51,⟨.slice Ju,false,.slice 120⟩),(52,⟨.slice Jh,false,.slice 73⟩),(54,⟨.prod Jh Jae,true,.struct [(0,51),(1,52)]⟩),(59,⟨.prod Ja Jx,true,.struct [(0,3),(1,3),(2,3)]⟩),(63,⟨.prod Jw Jx,true,.struct [(0,22),(1,3),(2,3)]⟩),(73,⟨.slice Ju,true,.struct [(0,51)]⟩),(80,⟨.prod Ja Jx,true,.struct [(0,3),(1,3),(2,3)]⟩),(83,⟨.slice Jx,false,.slice 102⟩),(84,⟨.slice Ji,false,.slice 131⟩),(85,⟨.slice Jb,false,.slice 174⟩),(87,⟨.prod Ja Jb,true,.struct [(0,3),(1,3),(2,3),(3,3)]⟩),(89,⟨.prod Ja (.prod Ja (.prod Ja (.prod Ja (.prod Ja (.prod Jf Jd))))),true,.struct [(0,3),(1,3),(2,3),(3,3),(4,3),(5,83),(6,24)]⟩),(90,⟨.slice Jb,false,.slice 141⟩),(91,⟨.slice (TY_KidRun),false,.slice 139⟩),(93,⟨TY_Family,true,.struct [(0,3),(1,3),(2,3),(3,4),(4,24),(5,83),(6,90),(7,24),(8,83),(9,91)]⟩),(95,⟨TY_Root,true,.struct [(0,3),(1,3),(2,3),(3,3),(4,3),(5,3),(6,3),(7,3),(8,3),(9,3),(10,3),(11,4),(12,24),(13,83),(14,83),(15,84),(16,85),(17,24),(18,4),(19,87),(23,89),(30,93)]⟩),(102,⟨.prod Ja Ja,true,.struct [(0,3),(1,3)]⟩),(105,⟨.slice Jy,false,.slice 109⟩),(109,⟨.prod Ja (.prod Jd Jo),true,.struct [(0,3),(1,24),(2,26)]⟩),(120,⟨.prod Ja Jb,true,.struct [(0,3),(1,3),(2,3),(3,3)]⟩),(131,⟨.prod Ja (.prod Ja (.prod Ja (.prod Ja Jd))),true,.struct [(0,3),(1,3),(2,3),(3,3),(4,24)]⟩),(137,⟨.slice (.prod Ja (.prod Ja Jd)),false,.slice 189⟩),(139,⟨TY_KidRun,true,.struct [(0,3),(1,3),(2,3),(3,3),(4,3),(5,3),(6,24),(7,90),(8,83),(9,137),(10,4),(11,87)]⟩),(141,⟨.prod Ja Jx,true,.struct [(0,3),(1,3),(2,3)]⟩),(143,⟨.prod Ja (.prod Ja Jf),true,.struct [(0,3),(1,3),(2,83)]⟩),(149,⟨.slice Jd,false,.slice 151⟩),(151,⟨.slice Ja,true,.struct [(0,24)]⟩),(160,⟨.bool,true,.arr 8 4⟩),(174,⟨.prod Ja Jx,true,.struct [(0,3),(1,3),(2,3)]⟩),(184,⟨.prod Ja Jx,true,.struct [(0,3),(1,3),(2,3)]⟩),(189,⟨.prod Ja (.prod Ja Jd),true,.struct [(0,3),(1,3),(2,24)]⟩),(197,⟨.slice Jv,false,.slice 4⟩),(252,⟨.slice Jy,false,.slice 254⟩),(254,⟨.prod Ja (.prod Jd Jo),true,.struct [(0,3),(1,24),(2,26)]⟩)]
theorem mixedOk:Tryz.prog.follows .mixedOrders=true:=by kernel_rfl
theorem tabOk:aO Tryz.prog tab:=WzF (show EG Tryz.prog tab tab=true by kernel_rfl)
def LM(x:Fn)(N:Nat){R:Type}(i k n:Nat)(st:St)(K:Ex->St->Option R):Option R:=lpM tab (x.c N) x.a N x.F i k n st K
def CF(x:Fn)(N:Nat)(p:List Nat):Ex->St->Option (Qs (x.s N)):=cxF tab (x.c N) x.a N (x.s N) x.F p
def CL(x:Fn)(N:Nat){R:Type}(i k:Nat)(p:List Nat)(n:Nat)(K:Ex->St->Option R):Ex->St->Option R:=cxL tab (x.c N) x.a N x.F i k p n K
def DN(x:Fn)(N:Nat)(d:c6 (x.s N).ps):Option (Qs (x.s N)):=den (R:=Qs (x.s N)) tab (x.c N) x.a N (x.s N) x.F d some
def GW(k:FuncId)(s:Sig):Prop:=Ea Tryz.prog k/\xK Tryz.prog k s
theorem GC{k:FuncId}{s:Sig}{Γ:Ctx}(h:GW k s)(a:gi Tryz.prog Γ):gi Tryz.prog ((k,s)::Γ):=Wwh h.2 h.1 a
structure Gd where
  k:FuncId
  s:Nat->Sig
  h:∀N,GW k (s N)
def CX(l:List Gd)(N:Nat):Ctx:=l.map λg=>(g.k,g.s N)
theorem CO(N:Nat):∀(l:List Gd),gi Tryz.prog (CX l N)
  | []=>Uw
  |g::l=>GC (g.h N) (CO N l)
theorem GR(x:Fn){k:FuncId}(N:Nat)(b:Tryz.prog.funcs[k]?=some x.F)(f:gi Tryz.prog (x.c N))(h:∀d,DN x N d=(x.s N).run d:=by intro d;kernel_rfl)(a:(qq x.F&&Ew x.F (x.s N).ps)=true:=by kernel_rfl):GW k (x.s N):=
  ⟨DR b (Xj .. ▸a).1,(Wsm mixedOk tabOk f b (Xj .. ▸a).2 (λd _ e=>⟨N,(h d).trans e⟩))⟩
def GF(x:Fn){k:FuncId}(e:Tryz.prog.funcs[k]?=some x.F)(h:∀N d,DN x N d=(x.s N).run d:=by intro N d;kernel_rfl)(b:∀N,gi Tryz.prog (x.c N):=by exactλN=>CO N _)(a:∀N,(qq x.F&&Ew x.F (x.s N).ps)=true:=by intro N;kernel_rfl):Gd:=
  ⟨k,x.s,λN=>GR x N e (b N) (h N) (a N)⟩
def GN(x:Fn){k:FuncId}(e:Tryz.prog.funcs[k]?=some x.F)(h:∀N d,DN x N d=(x.s N).run d:=by intro N d;kernel_rfl)(b:∀N,gi Tryz.prog (x.c N):=by exactλN=>Uw)(a:∀N,(qq x.F&&Ew x.F (x.s N).ps)=true:=by intro N;kernel_rfl):Gd:=GF x e h b a
abbrev cn_(l:List Nat):List Ghost:=[.canon l]
abbrev vf_(t:Ty):PTy:=.v t false
abbrev vt_(t:Ty):PTy:=.v t true
variable(N:Nat){R:Type}(K:Ex->St->Option R)
def Z24:Fn:=⟨f4,WL,λN=>Sig.of [vf_ Jw] [vf_ Jv] (λd=>OP N d.1),cd⟩
def Z25:Gd:=GN Z24 func4
def J9:Fn:=⟨f10,λ |3=>cn_ [0,3,4,15]|4=>cn_ [0,3,4]|5=>cn_ [0,3,4]|100003=>cn_ [0,3,4]|_=>[],λN=>Sig.of [vf_ Jw] [.box Jn] (λd=>Dz N d.1),cd⟩
theorem Zvp{a:List Int}{K0}(d:K0= λe f g=>K (.exit 0) ⟨[(0,vV Jw a),(3,vI e),(4,vI f),(15,vB g)],[],0⟩)(n b c):uS N a K0 n b c=LM J9 N 0 100003 n ⟨[(0,vV Jw a),(3,vI b),(4,vI c)],[],0⟩ K:=by subst d;induction n generalizing b c;kernel_rfl;rw[uS];simp only[*];kernel_rfl
theorem Z1p(ae:List Int):DN J9 N (ae,())=Dz N ae:=by
 conv=>rhs;rw[Dz];simp(disch:=exact id (by kernel_rfl)) only[Zvp (R:=Unit×Ku) N (CF J9 N [1,1,0,1,0])]
 kernel_rfl
def Z1q:Gd:=GN J9 func10 (λN d=>Z1p N d.1)
def Zz6:Fn:=⟨f12,WL,λN=>Sig.of [vf_ Jw,vf_ Ja] [vf_ Ja] (λd=>JV N d.1 d.2.1),cd⟩
def Zz7:Gd:=GN Zz6 func12
def Zz8:Fn:=⟨f58,WL,λN=>Sig.of [.box Jn] [vf_ Ja] (λd=>vh N d.1),cd⟩
def Zz9:Gd:=GN Zz8 func58
def Zyk:Fn:=⟨f23,WL,λN=>Sig.of [.box Jn,vf_ Ja] [vf_ Ja] (λd=>Zb N d.1 d.2.1),CX [Zz9]⟩
def Z6:Gd:=GF Zyk func23
def Z0a:Fn:=⟨f56,WL,λN=>Sig.of [.box Jn,vf_ Ja] [vf_ Jv] (λd=>Zq N d.1 d.2.1),CX [Z6]⟩
def u1:Gd:=GF Z0a func56
def Zvq:Fn:=⟨f142,WL,λN=>Sig.of [.box Jn,vf_ Jd] [vf_ Ja] (λd=>o6 N d.1 d.2.1),CX [Z6]⟩
def Ow:Gd:=GF Zvq func142
def Z0b:Fn:=⟨f100,WL,λN=>Sig.of [.box Jn] [vf_ Ja] (λd=>zY N d.1),CX [u1,Ow,Z6]⟩
def OJ:Gd:=GF Z0b func100
def Iy:Fn:=⟨f99,λ |3=>cn_ [0,3,4,7]|4=>cn_ [0,3,4]|5=>cn_ [0,3,4]|100003=>cn_ [0,3,4]|_=>[],λN=>Sig.of [.box Jn] [vf_ Je] (λd=>Ce N d.1),CX [OJ]⟩
def Zmu(b:Int)(a:List Int×Int×Int)(c:List Int):St:=⟨[(0,vP 0 0),(3,vO 1),(4,vI b)],[(0,.box [.val Jw a.1,.val Ja a.2.1,.val Ja a.2.2]),(1,.arr Ja c)],2⟩
def Zmf(b:Int)(d:Bool)(a:List Int×Int×Int)(c:List Int):St:=⟨[(0,vP 0 0),(3,vO 1),(4,vI b),(7,vB d)],[(0,.box [.val Jw a.1,.val Ja a.2.1,.val Ja a.2.2]),(1,.arr Ja c)],2⟩
theorem Zmv{K0:Int->Bool->Ki->Kj->Option R}(e:K0= λf h d g=>K (.exit 0) (Zmf f h d g))(n b a c):B8 N K0 n b a c=LM Iy N 0 100003 n (Zmu b a c) K:=by subst e;induction n generalizing b a c;kernel_rfl;rw[B8];simp only[*];kernel_rfl
theorem Zsv(c1:List Int×Int×Int):DN Iy N (c1,())=Ce N c1:=by
 conv=>rhs;rw[Ce];simp(disch:=exact id (by kernel_rfl)) only[Zmv (R:=Ku×Kv) N (CF Iy N [1,1,0,1,0])]
 kernel_rfl
def Zsw:Gd:=GF Iy func99 (λN d=>Zsv N d.1)
def IU:Fn:=⟨f54,λ |3=>cn_ [0,2,3,4,12]|4=>cn_ [0,2,3,4]|5=>cn_ [0,2,3,4,5]|6=>cn_ [0,2,3,4,5,16]|7=>cn_ [0,2,3,4,5]|8=>cn_ [0,2,3,4]|100003=>[.adoptC 3 1 Ja,.canon [0,2,3,4]]|_=>[],λN=>Sig.of [.box Jn] [vt_ Jaa] (λd=>yU N d.1),CX [Zsw,OJ,u1]⟩
def Zod(c:Int)(a:List Int×Int×Int)(b:Int)(d e:List Int):St:=⟨[(0,vP 0 0),(2,vP 1 0),(3,vP 2 0),(4,vI c)],[(0,.box [.val Jw a.1,.val Ja a.2.1,.val Ja a.2.2]),(1,.box [.nils,.nils,.val Ja (0:Int)]),(2,.box [.own 3,.own 4,.val Ja b]),(3,.arr Ja d),(4,.arr Ja e)],5⟩
def Zno(a:Int)(e:List Int)(d:Int)(b:Bool)(az:List Int×Int×Int)(c:List Int):St:=⟨[(0,vP 0 0),(2,vP 1 0),(3,vP 2 0),(4,vI d),(12,vB b)],[(0,.box [.val Jw az.1,.val Ja az.2.1,.val Ja az.2.2]),(1,.box [.nils,.nils,.val Ja (0:Int)]),(2,.box [.own 3,.own 4,.val Ja a]),(3,.arr Ja e),(4,.arr Ja c)],5⟩
theorem Zoe{b:Int}{d:List Int}{K0:Int->Bool->Ki->Kj->Option R}(j:K0= λi g f h=>K (.exit 0) (Zno b d i g f h))(n c a e):x5 N b d K0 n c a e=LM IU N 0 100003 n (Zod c a b d e) K:=by subst j;induction n generalizing c a e;kernel_rfl;rw[x5];simp only[*];kernel_rfl
theorem Zxm(c1:List Int×Int×Int):DN IU N (c1,())=yU N c1:=by
 conv=>rhs;rw[yU];simp(disch:=exact id (by kernel_rfl)) only[Zoe (R:=Ku×Kac) N (CF IU N [1,1,0,1,0])]
 kernel_rfl
def Yb:Gd:=GF IU func54 (λN d=>Zxm N d.1)
def Zvr:Fn:=⟨f183,WL,λN=>Sig.of [.box Jn] [vf_ Ja] (λd=>Za N d.1),CX [Z6]⟩
def Zvs:Gd:=GF Zvr func183
def Zsx:Fn:=⟨f184,WL,λN=>Sig.of [.box Jn] [vf_ Ja] (λd=>qP N d.1),CX [u1,Z6]⟩
def Zsy:Gd:=GF Zsx func184
def Zvt:Fn:=⟨f185,WL,λN=>Sig.of [.box Jn] [vf_ Ja] (λd=>Zk N d.1),CX [u1,Z6,Ow]⟩
def Zvu:Gd:=GF Zvt func185
def Zyl:Fn:=⟨f143,WL,λN=>Sig.of [.box Jn,vf_ Ja] [vt_ Ju] (λd=>Zi N d.1 d.2.1),CX [Zvs,OJ,Zsy,Z6,Zvu]⟩
def Yp:Gd:=GF Zyl func143
def JQ(N m:Nat):Sig:=Sig.of [.box Jn,vf_ Ja,vf_ Ja,vf_ Jv] [vf_ (.own Ju)] (λd=>u6 N m d.1 d.2.1 d.2.2.1 d.2.2.2.1)
def Z1r(N:Nat):Sig:=JQ N N
def KA(m:Nat):Fn:=⟨f101,λ |3=>cn_ [0,1,2,3,9,10,27]|4=>cn_ [0,1,2,3,9,10]|5=>cn_ [0,1,2,3,9,10,11]|6=>cn_ [0,1,2,3,9,10]|7=>cn_ [0,1,2,3,9,10,11,40]|8=>cn_ [0,1,2,3,9,10]|9=>cn_ [0,1,2,3,9,10,11,48]|10=>cn_ [0,1,2,3,9,10]|11=>cn_ [0,1,2,3,9,10,11,56]|12=>cn_ [0,1,2,3,9,10]|13=>cn_ [0,1,2,3,9,10,11,67]|14=>cn_ [0,1,2,3,9,10,12]|15=>cn_ [0,1,2,3,9,10,12]|16=>cn_ [0,1,2,3,9,10]|17=>cn_ [0,1,2,3,9,10,100]|18=>cn_ [0,1,2,3,9,10]|19=>cn_ [0,1,2,3,9,10]|20=>cn_ [0,1,2,3,9,10,11,109]|21=>cn_ [0,1,2,3,9,10,13]|22=>cn_ [0,1,2,3,9,10,13,14]|23=>cn_ [0,1,2,3,9,10,13,14]|24=>cn_ [0,1,2,3,9,10,13]|25=>cn_ [0,1,2,3,9,10]|26=>cn_ [0,1,2,3,9,10,134]|27=>cn_ [0,1,2,3,9,10]|28=>cn_ [0,1,2,3,9,10,145]|29=>cn_ [0,1,2,3,9,10]|100003=>cn_ [0,1,2,3,9,10]|_=>[],λN=>JQ N (m+1),λN=>(101,JQ N m)::CX [Z6,Yp,u1] N⟩
def Zvv(d e:Int)(b:Bool)(f:Int)(a:List Int×Int×Int)(c:List Ka):St:=⟨[(0,vP 0 0),(1,vI d),(2,vI e),(3,vB b),(9,vO 1),(10,vI f)],[(0,.box [.val Jw a.1,.val Ja a.2.1,.val Ja a.2.2]),(1,.arr Ju c)],2⟩
def Zsz(c d:Int)(b:Bool)(e:Int)(f:Bool)(a:List Int×Int×Int)(g:List Ka):St:=⟨[(0,vP 0 0),(1,vI c),(2,vI d),(3,vB b),(9,vO 1),(10,vI e),(27,vB f)],[(0,.box [.val Jw a.1,.val Ja a.2.1,.val Ja a.2.2]),(1,.arr Ju g)],2⟩
theorem Zvw(N m:Nat){R:Type}(K:Ex->St->Option R){c d:Int}{a:Bool}{K0:Int->Bool->Ki->Kae->Option R}(g:K0= λi j h k=>K (.exit 0) (Zsz c d a i j h k))(n f e b):Zc N (u6 N m) c d a K0 n f e b=LM (KA m) N 0 100003 n (Zvv c d a f e b) K:=by subst g;induction n generalizing f e b;kernel_rfl;rw[Zc];simp only[*];kernel_rfl
theorem Z1s(N m:Nat)(a:List Int×Int×Int)(b c:Int)(kU:Bool):DN (KA m) N (a,b,c,kU,())=u6 N (m+1) a b c kU:=by
 conv=>rhs;rw[u6];simp(disch:=exact id (by kernel_rfl)) only[Zvw (R:=Ku×(Kae×Unit)) N m (CF (KA m) N [1,1,0,1,0])]
 kernel_rfl
theorem Yx(N:Nat):∀m,GW 101 (JQ N m)
  |0=>⟨DR Tryz.func101 (show qq Tryz.f101=true by kernel_rfl),λd o h=>nomatch (show none=some o from h)⟩
  |m+1=>GR (KA m) N Tryz.func101 (GC (Yx N m) (CO N _)) (λd=>Z1s N m d.1 d.2.1 d.2.2.1 d.2.2.2.1)
def Z1t:Gd:=⟨101,Z1r,λN=>Yx N N⟩
def JR:Fn:=⟨f55,λ |7=>cn_ [0,4,7,8,38]|8=>cn_ [0,4,7,8]|9=>cn_ [0,4,7,8]|100007=>[.adoptC 7 1 Jh,.canon [0,4,7,8]]|_=>[],λN=>Sig.of [.box Jn,vf_ Jv] [.v (.prod (.own Ju) (.own Jh)) true] (λd=>qW N d.1 d.2.1),CX [Z6,Z1t]⟩
def Zs0(d:Int)(a:List Int×Int×Int)(c:List Ka)(b:List Kae):St:=⟨[(0,vP 0 0),(4,vP 1 0),(7,vP 2 0),(8,vI d)],[(0,.box [.val Jw a.1,.val Ja a.2.1,.val Ja a.2.2]),(1,.box [.nils,.nils]),(2,.box [.own 3,.own 4]),(3,.arr Ju c),(4,.arr Jh b)],5⟩
def Zp3(b:List Ka)(e:Int)(d:Bool)(a:List Int×Int×Int)(c:List Kae):St:=⟨[(0,vP 0 0),(4,vP 1 0),(7,vP 2 0),(8,vI e),(38,vB d)],[(0,.box [.val Jw a.1,.val Ja a.2.1,.val Ja a.2.2]),(1,.box [.nils,.nils]),(2,.box [.own 3,.own 4]),(3,.arr Ju b),(4,.arr Jh c)],5⟩
theorem Zs1{b:List Ka}{K0:Int->Bool->Ki->Kab->Option R}(h:K0= λi f g e=>K (.exit 0) (Zp3 b i f g e))(n d c a):Cf N b K0 n d c a=LM JR N 0 100007 n (Zs0 d c b a) K:=by subst h;induction n generalizing d c a;kernel_rfl;rw[Cf];simp only[*];kernel_rfl
theorem Z0c(a:List Int×Int×Int)(ii:Bool):DN JR N (a,ii,())=qW N a ii:=by
 conv=>rhs;rw[qW];simp(disch:=exact id (by kernel_rfl)) only[Zs1 (R:=Ku×(Kq×Unit)) N (CF JR N [1,1,1,1,1,0,1,0])]
 kernel_rfl
def Yy:Gd:=GF JR func55 (λN d=>Z0c N d.1 d.2.1)
def IF:Fn:=⟨f57,λ |4=>cn_ [0,1,2,7,8,9,14]|5=>cn_ [0,1,2,7,8,9]|6=>cn_ [0,1,2,7,8,9,18]|7=>cn_ [0,1,2,7,8,9]|8=>cn_ [0,1,2,7,8,9,10]|9=>cn_ [0,1,2,7,8,9,10,25]|10=>cn_ [0,1,2,7,8,9,10]|11=>cn_ [0,1,2,7,8,9,10]|12=>cn_ [0,1,2,7,8,9,10,31]|13=>cn_ [0,1,2,7,8,9,10]|14=>cn_ [0,1,2,7,8,9,10,35]|15=>cn_ [0,1,2,7,8,9,10]|16=>cn_ [0,1,2,7,8,9]|100004=>cn_ [0,1,2,7,8,9]|_=>[],λN=>Sig.of [.box Jn,vf_ Ja,vf_ Ja] [vf_ (.own Jb)] (λd=>zb N d.1 d.2.1 d.2.2.1),CX [u1,Z6]⟩
def Zp4(e ba b c:Int)(a:List Int×Int×Int)(d:List Kb):St:=⟨[(0,vP 0 0),(1,vI e),(2,vI ba),(7,vO 1),(8,vI b),(9,vI c)],[(0,.box [.val Jw a.1,.val Ja a.2.1,.val Ja a.2.2]),(1,.arr Jb d)],2⟩
def Zof(e ba d f:Int)(c:Bool)(a:List Int×Int×Int)(b:List Kb):St:=⟨[(0,vP 0 0),(1,vI e),(2,vI ba),(7,vO 1),(8,vI d),(9,vI f),(14,vB c)],[(0,.box [.val Jw a.1,.val Ja a.2.1,.val Ja a.2.2]),(1,.arr Jb b)],2⟩
theorem Zp5{e ba:Int}{K0:Int->Int->Bool->Ki->Kw->Option R}(g:K0= λi k h j f=>K (.exit 0) (Zof e ba i k h j f))(n b c a d):Zw N e ba K0 n b c a d=LM IF N 0 100004 n (Zp4 e ba b c a d) K:=by subst g;induction n generalizing b c a d;kernel_rfl;rw[Zw];simp only[*];kernel_rfl
theorem Zym(a:List Int×Int×Int)(b d6:Int):DN IF N (a,b,d6,())=zb N a b d6:=by
 conv=>rhs;rw[zb];simp(disch:=exact id (by kernel_rfl)) only[Zp5 (R:=Ku×Kah) N (CF IF N [1,1,1,0,1,0])]
 kernel_rfl
def Zyn:Gd:=GF IF func57 (λN d=>Zym N d.1 d.2.1 d.2.2.1)
def IK:Fn:=⟨f22,λ |4=>cn_ [0,1,2,6,7,8,9,18]|5=>cn_ [0,1,2,6,7,8,9]|6=>cn_ [0,1,2,6,7,8,9]|100004=>[.adoptC 7 3 Jm,.canon [0,1,2,6,7,8,9]]|_=>[],λN=>Sig.of [.box Jn,vf_ Ja,vf_ Ja] [.v (.prod Jaa (.prod (.own Jm) (.own Jb))) true] (λd=>Cy N d.1 d.2.1 d.2.2.1),CX [Yb,Z6,Yy,u1,Zyn]⟩
def Znp(g e i h:Int)(a:List Int×Int×Int)(d:Int)(b c:List Int)(f:List Kq):St:=⟨[(0,vP 0 0),(1,vI g),(2,vI e),(6,vP 1 0),(7,vP 2 0),(8,vI i),(9,vI h)],[(0,.box [.val Jw a.1,.val Ja a.2.1,.val Ja a.2.2]),(1,.box [.nils,.nils,.val Ja (0:Int),.nils,.nils]),(2,.box [.own 3,.own 4,.val Ja d,.own 5,.nils]),(3,.arr Ja b),(4,.arr Ja c),(5,.arr Jm f)],6⟩
def Zmw(h f i e:Int)(c d:List Int)(j:Int)(b:Bool)(a:List Int×Int×Int)(g:List Kq):St:=⟨[(0,vP 0 0),(1,vI h),(2,vI f),(6,vP 1 0),(7,vP 2 0),(8,vI i),(9,vI j),(18,vB b)],[(0,.box [.val Jw a.1,.val Ja a.2.1,.val Ja a.2.2]),(1,.box [.nils,.nils,.val Ja (0:Int),.nils,.nils]),(2,.box [.own 3,.own 4,.val Ja e,.own 5,.nils]),(3,.arr Ja c),(4,.arr Ja d),(5,.arr Jm g)],6⟩
theorem Znq{g d i c:Int}{a b:List Int}{K0:Int->Bool->Ki->(List Kq)->Option R}(l:K0= λo j m k=>K (.exit 0) (Zmw g d i c a b o j m k))(n h f e):uw N g d i c a b K0 n h f e=LM IK N 0 100004 n (Znp g d i h f c a b e) K:=by subst l;induction n generalizing h f e;kernel_rfl;rw[uw];simp only[*];kernel_rfl
theorem Zvx(a:List Int×Int×Int)(b d6:Int):DN IK N (a,b,d6,())=Cy N a b d6:=by
 conv=>rhs;rw[Cy];simp(disch:=exact id (by kernel_rfl)) only[Znq (R:=Ku×(Kag×Unit)) N (CF IK N [1,1,1,0,1,0])]
 kernel_rfl
def Zvy:Gd:=GF IK func22 (λN d=>Zvx N d.1 d.2.1 d.2.2.1)
def Zp6:Fn:=⟨f24,WL,λN=>Sig.of [.box Jn] [vt_ Jaa] (λd=>Is N d.1),CX [Yb,Z6]⟩
def Zp7:Gd:=GF Zp6 func24
def Z1u:Fn:=⟨f102,WL,λN=>Sig.of [.box Jn] [vt_ Ju] (λd=>KO N d.1),CX [Z6,Yp,Ow]⟩
def Z1v:Gd:=GF Z1u func102
def JS:Fn:=⟨f59,λ |12=>[.view 49,.view 45]|14=>cn_ [0,5,58]|15=>cn_ [0,5]|100014=>cn_ [0,5]|_=>[],λN=>Sig.of [.box Jn,vf_ Jh] [vf_ (.own Ju)] (λd=>zZ N d.1 d.2.1),CX [Z6,Z1v]⟩
def Zs2(a:List Int×Int×Int)(b:List Ka):St:=⟨[(0,vP 0 0),(5,vO 1)],[(0,.box [.val Jw a.1,.val Ja a.2.1,.val Ja a.2.2]),(1,.arr Ju b)],2⟩
def Zp8(c:Bool)(a:List Int×Int×Int)(b:List Ka):St:=⟨[(0,vP 0 0),(5,vO 1),(58,vB c)],[(0,.box [.val Jw a.1,.val Ja a.2.1,.val Ja a.2.2]),(1,.arr Ju b)],2⟩
theorem Zs3{K0:Bool->Ki->Kae->Option R}(e:K0= λf d c=>K (.exit 1) (Zp8 f d c))(n a b):Cg N K0 n a b=LM JS N 0 100014 n (Zs2 a b) K:=by subst e;induction n generalizing a b;kernel_rfl;rw[Cg];simp only[*];kernel_rfl
theorem Z0d(a:List Int×Int×Int)(ac:List Ka):DN JS N (a,ac,())=zZ N a ac:=by
 conv=>rhs;rw[zZ];simp(disch:=exact id (by kernel_rfl)) only[Zs3 (R:=Ku×(Kae×Unit)) N (CF JS N [1,1,1,1,0,1,0,1,1,1,1,1,1,1,0,0])]
 kernel_rfl
def Z0e:Gd:=GF JS func59 (λN d=>Z0d N d.1 d.2.1)
def Zvz:Fn:=⟨f25,WL,λN=>Sig.of [.box Jn] [.v (.prod (.own Ju) (.own Jh)) true] (λd=>IC N d.1),CX [u1,Yy,Z6,Z0e]⟩
def Zv0:Gd:=GF Zvz func25
def CQ:Fn:=⟨f11,λ |8=>cn_ [0,4,5,28]|9=>cn_ [0,4,5]|13=>cn_ [0,4,5,55]|14=>cn_ [0,4,5]|100008=>cn_ [0,4,5]|100013=>cn_ [0,4,5]|_=>[],λN=>Sig.of [.box Jn,vf_ Ja] [.v (.prod Jaa (.prod (.own Jm) (.own Jb))) true] (λd=>Dm N d.1 d.2.1),CX [Zvy,Z6,Zp7,Zv0]⟩
def Zs4(a:List Int×Int×Int)(e:Int)(f c:List Int)(d:List Kq)(b:List Kb):St:=⟨[(0,vP 0 0),(4,vP 1 0),(5,vP 2 0)],[(0,.box [.val Jw a.1,.val Ja a.2.1,.val Ja a.2.2]),(1,.box [.nils,.nils,.val Ja (0:Int),.nils,.nils]),(2,.box [.own 3,.own 4,.val Ja e,.own 5,.own 6]),(3,.arr Ja f),(4,.arr Ja c),(5,.arr Jm d),(6,.arr Jb b)],7⟩
def Zp9(a:List Int×Int×Int)(d:Int)(f c:List Int)(b:List Kb)(g:Bool)(e:List Kq):St:=⟨[(0,vP 0 0),(4,vP 1 0),(5,vP 2 0),(28,vB g)],[(0,.box [.val Jw a.1,.val Ja a.2.1,.val Ja a.2.2]),(1,.box [.nils,.nils,.val Ja (0:Int),.nils,.nils]),(2,.box [.own 3,.own 4,.val Ja d,.own 5,.own 6]),(3,.arr Ja f),(4,.arr Ja c),(5,.arr Jm e),(6,.arr Jb b)],7⟩
theorem Zs5{d:List Int×Int×Int}{e:Int}{f b:List Int}{a:List Kb}{K0:Bool->(List Kq)->Option R}(i:K0= λh g=>K (.exit 1) (Zp9 d e f b a h g))(n c):Cn N d e f b a K0 n c=LM CQ N 0 100008 n (Zs4 d e f b c a) K:=by subst i;induction n generalizing c;kernel_rfl;rw[Cn];simp only[*];kernel_rfl
def Zs6(a:List Int×Int×Int)(c:Int)(aA bz:List Int)(cL:List Kq)(b:List Kb):St:=⟨[(0,vP 0 0),(4,vP 1 0),(5,vP 2 0)],[(0,.box [.val Jw a.1,.val Ja a.2.1,.val Ja a.2.2]),(1,.box [.nils,.nils,.val Ja (0:Int),.nils,.nils]),(2,.box [.own 3,.own 4,.val Ja c,.own 5,.own 6]),(3,.arr Ja aA),(4,.arr Ja bz),(5,.arr Jm cL),(6,.arr Jb b)],7⟩
def Zqa(b:Int)(aA bz:List Int)(cL:List Kq)(c:Bool)(a:List Int×Int×Int)(d:List Kb):St:=⟨[(0,vP 0 0),(4,vP 1 0),(5,vP 2 0),(55,vB c)],[(0,.box [.val Jw a.1,.val Ja a.2.1,.val Ja a.2.2]),(1,.box [.nils,.nils,.val Ja (0:Int),.nils,.nils]),(2,.box [.own 3,.own 4,.val Ja b,.own 5,.own 6]),(3,.arr Ja aA),(4,.arr Ja bz),(5,.arr Jm cL),(6,.arr Jb d)],7⟩
theorem Zs7{b:Int}{aA bz:List Int}{cL:List Kq}{K0:Bool->Ki->Kw->Option R}(d:K0= λe f g=>K (.exit 3) (Zqa b aA bz cL e f g))(n c a):Co N b aA bz cL K0 n c a=LM CQ N 1 100013 n (Zs6 c b aA bz cL a) K:=by subst d;induction n generalizing c a;kernel_rfl;rw[Co];simp only[*];kernel_rfl
theorem Z0f(a:List Int×Int×Int)(cO:Int):DN CQ N (a,cO,())=Dm N a cO:=by
 conv=>rhs;rw[Dm];simp(disch:=exact id (by kernel_rfl)) only[Zs5 (R:=Ku×(Kag×Unit)) N (CF CQ N [1,1,0,1,0,1,1,1,1,1,0,0]),Zs7 (R:=Ku×(Kag×Unit)) N (CF CQ N [1,1,0,1,0,1,1,1,1,1,1,1,1,1,0,0])]
 kernel_rfl
def Z0g:Gd:=GF CQ func11 (λN d=>Z0f N d.1 d.2.1)
def Zxn:Fn:=⟨f5,WL,λN=>Sig.of [vf_ Jw] [vt_ Jz] (λd=>JK N d.1),CX [Z1q,Zz7,Z0g]⟩
def Zxo:Gd:=GF Zxn func5
def Z2q:Fn:=⟨f28,WL,λN=>Sig.of [vf_ Ja,vf_ Ja,vf_ Ja] [vf_ Jv] (λd=>fH N d.1 d.2.1 d.2.2.1),cd⟩
def pu:Gd:=GN Z2q func28
def Z1w:Fn:=⟨f27,WL,λN=>Sig.of [vf_ Ja] [vf_ Jv] (λd=>pw N d.1),CX [pu]⟩
def CI:Gd:=GF Z1w func27
def JT:Fn:=⟨f26,λ |4=>cn_ [0,3,10]|5=>cn_ [0,3]|6=>cn_ [0,3,18]|7=>cn_ [2]|100004=>cn_ [0,3]|_=>[],λN=>Sig.of [vf_ Jd] [vf_ Jv] (λd=>po N d.1),CX [CI]⟩
theorem Zs9{b:List Int}{K0 K1}(c:K0=K .ret ⟨[(2,vB false)],[],0⟩)(d:K1= λe f=>K (.exit 0) ⟨[(0,vV Jd b),(3,vI e),(10,vB f)],[],0⟩)(n a):yv N b K0 K1 n a=LM JT N 0 100004 n ⟨[(0,vV Jd b),(3,vI a)],[],0⟩ K:=by subst c d;induction n generalizing a;kernel_rfl;rw[yv];simp only[*];kernel_rfl
theorem Z0h(l1:List Int):DN JT N (l1,())=po N l1:=by
 conv=>rhs;rw[po];simp(disch:=exact id (by kernel_rfl)) only[Zs9 (R:=Unit×Ks) N (CF JT N [1,1,0,1,0])]
 kernel_rfl
def FH:Gd:=GF JT func26 (λN d=>Z0h N d.1)
def IV:Fn:=⟨f13,λ |4=>cn_ [1,3,24]|5=>cn_ [1,3]|6=>cn_ [1,3,33]|7=>cn_ [2]|100004=>cn_ [1,3]|_=>[],λN=>Sig.of [vt_ Jo] [vf_ Jv] (λd=>qN N d.1),CX [FH,CI,pu]⟩
def Zog(b:Int)(a:List Int×List Int×Int):St:=⟨[(1,vP 0 0),(3,vI b)],[(0,.box [.val Jd a.1,.val Jd a.2.1,.val Ja a.2.2])],1⟩
def Zns(a:List Int×List Int×Int)(b:Int)(c:Bool):St:=⟨[(1,vP 0 0),(3,vI b),(24,vB c)],[(0,.box [.val Jd a.1,.val Jd a.2.1,.val Ja a.2.2])],1⟩
theorem Zoh{a:List Int×List Int×Int}{K0 K1}(c:K0=K .ret ⟨[(2,vB false)],[],0⟩)(d:K1= λe f=>K (.exit 0) (Zns a e f))(n b):uC N a K0 K1 n b=LM IV N 0 100004 n (Zog b a) K:=by subst c d;induction n generalizing b;kernel_rfl;rw[uC];simp only[*];kernel_rfl
theorem Zxp(s1:List Int×List Int×Int):DN IV N (s1,())=qN N s1:=by
 conv=>rhs;rw[qN];simp(disch:=exact id (by kernel_rfl)) only[Zoh (R:=Unit×Ks) N (CF IV N [1,1,0,1,0])]
 kernel_rfl
def IW:Gd:=GF IV func13 (λN d=>Zxp N d.1)
def Z1x:Fn:=⟨f103,WL,λN=>Sig.of [vf_ Ja] [vf_ Jv] (λd=>lE N d.1),CX [pu]⟩
def Z1y:Gd:=GF Z1x func103
def Z0i:Fn:=⟨f89,WL,λN=>Sig.of [vf_ Ja] [vf_ Jv] (λd=>pp N d.1),CX [pu]⟩
def OK:Gd:=GF Z0i func89
def Z2r:Fn:=⟨f60,WL,λN=>Sig.of [vt_ Ju] [vf_ Jv] (λd=>Af N d.1),CX [Z1y,CI,OK,pu]⟩
def Oy:Gd:=GF Z2r func60
def JU:Fn:=⟨f61,λ |6=>cn_ [0,5,6,7,24]|7=>cn_ [0,5,6,7]|8=>cn_ [0,5,6,7,32]|9=>cn_ [0,5,6,7]|10=>cn_ [0,5,6,7,40]|11=>cn_ [0,5,6,7]|12=>cn_ [0,5,6,7,44]|13=>cn_ [4]|100006=>cn_ [0,5,6,7]|_=>[],λN=>Sig.of [vf_ Jh,vf_ Ja] [vf_ Jv] (λd=>Dl N d.1 d.2.1),cd⟩
theorem Ztb{a:List Ka}{c:Int}{K0 K1}(f:K0=K .ret ⟨[(4,vB false)],[],0⟩)(g:K1= λe h i=>K (.exit 0) ⟨[(0,vV Jh a),(5,vI c),(6,vI e),(7,vI h),(24,vB i)],[],0⟩)(n b d):ny N a c K0 K1 n b d=LM JU N 0 100006 n ⟨[(0,vV Jh a),(5,vI c),(6,vI b),(7,vI d)],[],0⟩ K:=by subst f g;induction n generalizing b d;kernel_rfl;rw[ny];simp only[*];kernel_rfl
theorem Z0j(a:List Ka)(i2:Int):DN JU N (a,i2,())=Dl N a i2:=by
 conv=>rhs;rw[Dl];simp(disch:=exact id (by kernel_rfl)) only[Ztb (R:=Unit×Ks) N (CF JU N [1,1,1,1,0,1,0])]
 kernel_rfl
def Z0k:Gd:=GN JU func61 (λN d=>Z0j N d.1 d.2.1)
def IY:Fn:=⟨f29,λ |6=>cn_ [0,3,4,5,12]|7=>cn_ [0,3,4,5]|8=>cn_ [0,3,4,5,20]|9=>cn_ [2]|10=>cn_ [0,3,4,5,25]|11=>cn_ [0,3,4,5,25,26]|12=>cn_ [0,3,4,5]|13=>cn_ [0,3,4,5,25,30]|14=>cn_ [0,3,4,5]|15=>cn_ [0,3,4,5,25,34]|16=>cn_ [0,3,4,5,39]|17=>cn_ [2]|18=>cn_ [0,3,4,5,40]|19=>cn_ [0,3,4,5]|20=>cn_ [0,3,4,5,49]|21=>cn_ [2]|22=>cn_ [0,3,4,5,51]|23=>cn_ [2]|100006=>cn_ [0,3,4,5]|_=>[],λN=>Sig.of [vf_ Jh] [vf_ Jv] (λd=>zz N d.1),CX [Oy,Z0k]⟩
theorem Ztd{b:List Ka}{K0 K1}(h:K0=K .ret ⟨[(2,vB false)],[],0⟩)(i:K1= λg j e f=>K (.exit 0) ⟨[(0,vV Jh b),(3,vI g),(4,vI j),(5,vI e),(12,vB f)],[],0⟩)(n c a d):nz N b K0 K1 n c a d=LM IY N 0 100006 n ⟨[(0,vV Jh b),(3,vI c),(4,vI a),(5,vI d)],[],0⟩ K:=by subst h i;induction n generalizing c a d;kernel_rfl;rw[nz];simp only[*];kernel_rfl
theorem Z0l(ae:List Ka):DN IY N (ae,())=zz N ae:=by
 conv=>rhs;rw[zz];simp(disch:=exact id (by kernel_rfl)) only[Ztd (R:=Unit×Ks) N (CF IY N [1,1,1,1,0,1,0])]
 kernel_rfl
def Yz:Gd:=GF IY func29 (λN d=>Z0l N d.1)
def IG:Fn:=⟨f30,λ |2=>cn_ [0,3,7]|3=>cn_ [0,3]|4=>cn_ [0,3,15]|5=>cn_ [2]|100002=>cn_ [0,3]|_=>[],λN=>Sig.of [vf_ Jh] [vf_ Jv] (λd=>y6 N d.1),cd⟩
theorem Zqi{a:List Ka}{K0 K1}(c:K0=K .ret ⟨[(2,vB true)],[],0⟩)(d:K1= λe f=>K (.exit 0) ⟨[(0,vV Jh a),(3,vI e),(7,vB f)],[],0⟩)(n b):x7 N a K0 K1 n b=LM IG N 0 100002 n ⟨[(0,vV Jh a),(3,vI b)],[],0⟩ K:=by subst c d;induction n generalizing b;kernel_rfl;rw[x7];simp only[*];kernel_rfl
theorem Zyo(ae:List Ka):DN IG N (ae,())=y6 N ae:=by
 conv=>rhs;rw[y6];simp(disch:=exact id (by kernel_rfl)) only[Zqi (R:=Unit×Ks) N (CF IG N [1,0,1,0])]
 kernel_rfl
def Yq:Gd:=GN IG func30 (λN d=>Zyo N d.1)
def Zyp:Fn:=⟨f62,WL,λN=>Sig.of [vt_ Ju] [vf_ Ja] (λd=>nI N d.1),CX [Oy]⟩
def Zyq:Gd:=GF Zyp func62
def KB:Fn:=⟨f31,λ |4=>cn_ [0,3,14]|5=>cn_ [0,3]|6=>cn_ [0,3,22]|7=>cn_ [2]|100004=>cn_ [0,3]|_=>[],λN=>Sig.of [vf_ Jh] [vf_ Jv] (λd=>zh N d.1),CX [Yz,Yq,Zyq]⟩
theorem Zv2{a:List Ka}{K0 K1}(c:K0=K .ret ⟨[(2,vB false)],[],0⟩)(d:K1= λe f=>K (.exit 0) ⟨[(0,vV Jh a),(3,vI e),(14,vB f)],[],0⟩)(n b):yx N a K0 K1 n b=LM KB N 0 100004 n ⟨[(0,vV Jh a),(3,vI b)],[],0⟩ K:=by subst c d;induction n generalizing b;kernel_rfl;rw[yx];simp only[*];kernel_rfl
theorem Z1z(ae:List Ka):DN KB N (ae,())=zh N ae:=by
 conv=>rhs;rw[zh];simp(disch:=exact id (by kernel_rfl)) only[Zv2 (R:=Unit×Ks) N (CF KB N [1,1,0,1,0])]
 kernel_rfl
def Z10:Gd:=GF KB func31 (λN d=>Z1z N d.1)
def IZ:Fn:=⟨f14,λ |4=>cn_ [1,3,28]|5=>cn_ [1,3]|6=>cn_ [1,3,38]|7=>cn_ [2]|100004=>cn_ [1,3]|_=>[],λN=>Sig.of [vt_ Jm] [vf_ Jv] (λd=>vi N d.1),CX [Yz,Yq,Z10]⟩
def Ztg(b:Int)(a:List Ka×List Kae):St:=⟨[(1,vP 0 0),(3,vI b)],[(0,.box [.val Jh a.1,.val Jae a.2])],1⟩
def Zqk(a:List Ka×List Kae)(b:Int)(c:Bool):St:=⟨[(1,vP 0 0),(3,vI b),(28,vB c)],[(0,.box [.val Jh a.1,.val Jae a.2])],1⟩
theorem Zth{a:List Ka×List Kae}{K0 K1}(c:K0=K .ret ⟨[(2,vB false)],[],0⟩)(d:K1= λe f=>K (.exit 0) (Zqk a e f))(n b):uP N a K0 K1 n b=LM IZ N 0 100004 n (Ztg b a) K:=by subst c d;induction n generalizing b;kernel_rfl;rw[uP];simp only[*];kernel_rfl
theorem Z0m(p1:List Ka×List Kae):DN IZ N (p1,())=vi N p1:=by
 conv=>rhs;rw[vi];simp(disch:=exact id (by kernel_rfl)) only[Zth (R:=Unit×Ks) N (CF IZ N [1,1,0,1,0])]
 kernel_rfl
def YA:Gd:=GF IZ func14 (λN d=>Z0m N d.1)
def IX:Fn:=⟨f6,λ |4=>cn_ [1,3,24]|5=>cn_ [1,3]|6=>cn_ [1,3,33]|7=>cn_ [2]|100004=>cn_ [1,3]|_=>[],λN=>Sig.of [vt_ Jz] [vf_ Jv] (λd=>uY N d.1),CX [IW,YA]⟩
def Zok(b:Int)(a:Kh×List Kq×List Kb):St:=⟨[(1,vP 0 0),(3,vI b)],[(0,.box [.val Jd a.1.1,.val Jd a.1.2.1,.val Ja a.1.2.2,.val Jah a.2.1,.val Jq a.2.2])],1⟩
def Znu(a:Kh×List Kq×List Kb)(b:Int)(c:Bool):St:=⟨[(1,vP 0 0),(3,vI b),(24,vB c)],[(0,.box [.val Jd a.1.1,.val Jd a.1.2.1,.val Ja a.1.2.2,.val Jah a.2.1,.val Jq a.2.2])],1⟩
theorem Zol{a:Kh×List Kq×List Kb}{K0 K1}(c:K0=K .ret ⟨[(2,vB false)],[],0⟩)(d:K1= λe f=>K (.exit 0) (Znu a e f))(n b):uD N a K0 K1 n b=LM IX N 0 100004 n (Zok b a) K:=by subst c d;induction n generalizing b;kernel_rfl;rw[uD];simp only[*];kernel_rfl
theorem Zxq(s1:Kh×List Kq×List Kb):DN IX N (s1,())=uY N s1:=by
 conv=>rhs;rw[uY];simp(disch:=exact id (by kernel_rfl)) only[Zol (R:=Unit×Ks) N (CF IX N [1,1,0,1,0])]
 kernel_rfl
def Ox:Gd:=GF IX func6 (λN d=>Zxq N d.1)
def Z0n:Fn:=⟨f40,WL,λN=>Sig.of [vf_ Ja,vf_ Ja,vf_ Ja] [vf_ Jv] (λd=>Zn N d.1 d.2.1 d.2.2.1),cd⟩
def Z4:Gd:=GN Z0n func40
def Zyr:Fn:=⟨f63,WL,λN=>Sig.of [vf_ Ja] [vf_ Jv] (λd=>jS N d.1),CX [Z4]⟩
def o9:Gd:=GF Zyr func63
def IL:Fn:=⟨f39,λ |2=>cn_ [0,1,7,8,9,10]|3=>cn_ [0,1,6,7,8,9]|4=>cn_ [0,1,7,8,9,15]|5=>cn_ [4]|6=>cn_ [0,1,7,8,9]|100002=>cn_ [0,1,7,8,9]|_=>[],λN=>Sig.of [vf_ Jd,vf_ Ja] [vf_ Jv] (λd=>Z8 N d.1 d.2.1),CX [o9]⟩
theorem Znw{a:List Int}{b:Int}{K0 K1}(f:K0=K .ret ⟨[(4,vB false)],[],0⟩)(g:K1= λe d=>K (.exit 0) ⟨[(0,vV Jd a),(1,vI b),(7,vV Jd a),(8,vI (Wh a)),(9,vI e),(10,vB d)],[],0⟩)(n c):pi N a b K0 K1 n c=LM IL N 0 100002 n ⟨[(0,vV Jd a),(1,vI b),(7,vV Jd a),(8,vI (Wh a)),(9,vI c)],[],0⟩ K:=by subst f g;induction n generalizing c;kernel_rfl;rw[pi];simp only[*];kernel_rfl
theorem Zv3(a:List Int)(n2:Int):DN IL N (a,n2,())=Z8 N a n2:=by
 conv=>rhs;rw[Z8];simp(disch:=exact id (by kernel_rfl)) only[Znw (R:=Unit×Ks) N (CF IL N [1,0,1,0])]
 kernel_rfl
def Fs:Gd:=GF IL func39 (λN d=>Zv3 N d.1 d.2.1)
def KD:Fn:=⟨f36,λ |2=>cn_ [0,5,6,7,8]|3=>cn_ [0,4,5,6,7]|4=>cn_ [0,5,6,7,13]|5=>cn_ [2]|6=>cn_ [0,5,6,7]|100002=>cn_ [0,5,6,7]|_=>[],λN=>Sig.of [vf_ Jd] [vf_ Jv] (λd=>z7 N d.1),CX [Z4]⟩
theorem Zv5{a:List Int}{K0 K1}(c:K0=K .ret ⟨[(2,vB false)],[],0⟩)(d:K1= λe f=>K (.exit 0) ⟨[(0,vV Jd a),(5,vV Jd a),(6,vI (Wh a)),(7,vI e),(8,vB f)],[],0⟩)(n b):yN N a K0 K1 n b=LM KD N 0 100002 n ⟨[(0,vV Jd a),(5,vV Jd a),(6,vI (Wh a)),(7,vI b)],[],0⟩ K:=by subst c d;induction n generalizing b;kernel_rfl;rw[yN];simp only[*];kernel_rfl
theorem Z11(l1:List Int):DN KD N (l1,())=z7 N l1:=by
 conv=>rhs;rw[z7];simp(disch:=exact id (by kernel_rfl)) only[Zv5 (R:=Unit×Ks) N (CF KD N [1,0,1,0])]
 kernel_rfl
def YH:Gd:=GF KD func36 (λN d=>Z11 N d.1)
def Zxr:Fn:=⟨f32,WL,λN=>Sig.of [vt_ Jo] [vf_ Jv] (λd=>JL N d.1),CX [Fs,YH,o9]⟩
def Zxs:Gd:=GF Zxr func32
def Z12:Fn:=⟨f145,WL,λN=>Sig.of [vf_ Ja] [vf_ Jv] (λd=>lF N d.1),CX [Z4]⟩
def Z13:Gd:=GF Z12 func145
def Z0o:Fn:=⟨f146,WL,λN=>Sig.of [vf_ Ja] [vf_ Jv] (λd=>lD N d.1),CX [Z4]⟩
def u2:Gd:=GF Z0o func146
def Z14:Fn:=⟨f70,WL,λN=>Sig.of [vf_ Ja] [vf_ Jv] (λd=>jT N d.1),CX [Z4]⟩
def CJ:Gd:=GF Z14 func70
def Z2s:Fn:=⟨f106,WL,λN=>Sig.of [vt_ Ju] [vf_ Jv] (λd=>vE N d.1),CX [Z13,o9,u2,Z4,CJ]⟩
def JX:Gd:=GF Z2s func106
def Zys:Fn:=⟨f104,WL,λN=>Sig.of [vt_ Ju] [vf_ Ja] (λd=>CV N d.1),CX [JX]⟩
def Yr:Gd:=GF Zys func104
def Z15:Fn:=⟨f144,WL,λN=>Sig.of [vt_ Ju] [vf_ Ja] (λd=>Dy N d.1),cd⟩
def ON:Gd:=GN Z15 func144
def Iz:Fn:=⟨f105,λ |3=>cn_ [3,6,7,8,9]|4=>cn_ [3,5,6,7,8]|5=>cn_ [3,6,7,8]|6=>cn_ [3,6,7,8,17]|7=>cn_ [2]|8=>cn_ [3,6,7,8]|100003=>cn_ [3,6,7,8]|_=>[],λN=>Sig.of [vf_ Jh] [vf_ Jv] (λd=>yd N d.1),CX [ON]⟩
theorem Zm0{a:List Ka}{K0 K1}(e:K0=K .ret ⟨[(2,vB false)],[],0⟩)(f:K1= λg h d=>K (.exit 0) ⟨[(3,vI g),(6,vV Jh a),(7,vI (Wh a)),(8,vI h),(9,vB d)],[],0⟩)(n b c):x8 N a K0 K1 n b c=LM Iz N 0 100003 n ⟨[(3,vI b),(6,vV Jh a),(7,vI (Wh a)),(8,vI c)],[],0⟩ K:=by subst e f;induction n generalizing b c;kernel_rfl;rw[x8];simp only[*];kernel_rfl
theorem Ztk(ae:List Ka):DN Iz N (ae,())=yd N ae:=by
 conv=>rhs;rw[yd];simp(disch:=exact id (by kernel_rfl)) only[Zm0 (R:=Unit×Ks) N (CF Iz N [1,1,0,1,0])]
 kernel_rfl
def Ztl:Gd:=GF Iz func105 (λN d=>Ztk N d.1)
def IH:Fn:=⟨f107,λ |3=>cn_ [1,5,8,9,10,11]|4=>cn_ [1,5,6,7,8,9,10]|5=>cn_ [1,5,7,8,9,10,17]|6=>cn_ [1,5,8,9,10]|7=>cn_ [1,5,8,9,10]|100003=>cn_ [1,5,8,9,10]|_=>[],λN=>Sig.of [vf_ Jh,vf_ Ja] [vf_ Ja] (λd=>De N d.1 d.2.1),CX [ON]⟩
theorem Zqm{b:Int}{a:List Ka}{K0}(g:K0= λh e f=>K (.exit 0) ⟨[(1,vI b),(5,vI h),(8,vV Jh a),(9,vI (Wh a)),(10,vI e),(11,vB f)],[],0⟩)(n c d):uI N b a K0 n c d=LM IH N 0 100003 n ⟨[(1,vI b),(5,vI c),(8,vV Jh a),(9,vI (Wh a)),(10,vI d)],[],0⟩ K:=by subst g;induction n generalizing c d;kernel_rfl;rw[uI];simp only[*];kernel_rfl
theorem Zyt(a:List Ka)(i2:Int):DN IH N (a,i2,())=De N a i2:=by
 conv=>rhs;rw[De];simp(disch:=exact id (by kernel_rfl)) only[Zqm (R:=Unit×Kk) N (CF IH N [1,1,0,1,0])]
 kernel_rfl
def Zyu:Gd:=GF IH func107 (λN d=>Zyt N d.1 d.2.1)
def I0:Fn:=⟨f66,λ |5=>cn_ [0,3,14,15,16,17]|6=>cn_ [0,3,4,5,14,15,16]|7=>cn_ [0,3,4,5,14,15,16,23]|8=>cn_ [2]|9=>cn_ [0,3,4,5,14,15,16,25]|10=>cn_ [0,3,4,5,14,15,16,25,26]|11=>cn_ [0,3,14,15,16,48]|12=>cn_ [2]|13=>cn_ [0,3,4,14,15,16,49]|14=>cn_ [0,3,4,14,15,16]|15=>cn_ [0,3,14,15,16,60]|16=>cn_ [2]|17=>cn_ [0,3,14,15,16]|100005=>cn_ [0,3,14,15,16]|_=>[],λN=>Sig.of [vf_ Jh] [vf_ Jv] (λd=>pq N d.1),CX [Ztl,JX,Zyu]⟩
theorem Ztn{a:List Ka}{K0 K1}(f:K0=K .ret ⟨[(2,vB false)],[],0⟩)(g:K1= λh d e=>K (.exit 0) ⟨[(0,vV Jh a),(3,vI h),(14,vV Jh a),(15,vI (Wh a)),(16,vI d),(17,vB e)],[],0⟩)(n b c):qO N a K0 K1 n b c=LM I0 N 0 100005 n ⟨[(0,vV Jh a),(3,vI b),(14,vV Jh a),(15,vI (Wh a)),(16,vI c)],[],0⟩ K:=by subst f g;induction n generalizing b c;kernel_rfl;rw[qO];simp only[*];kernel_rfl
theorem Z0p(ae:List Ka):DN I0 N (ae,())=pq N ae:=by
 conv=>rhs;rw[pq];simp(disch:=exact id (by kernel_rfl)) only[Ztn (R:=Unit×Ks) N (CF I0 N [1,1,1,0,1,0])]
 kernel_rfl
def YB:Gd:=GF I0 func66 (λN d=>Z0p N d.1)
def KE:Fn:=⟨f65,λ |2=>cn_ [0,5,6,7,8]|3=>cn_ [0,4,5,6,7]|4=>cn_ [0,5,6,7,18]|5=>cn_ [2]|6=>cn_ [0,5,6,7]|100002=>cn_ [0,5,6,7]|_=>[],λN=>Sig.of [vf_ Jh] [vf_ Jv] (λd=>zi N d.1),CX [Yr,YB]⟩
theorem Zv7{a:List Ka}{K0 K1}(c:K0=K .ret ⟨[(2,vB false)],[],0⟩)(d:K1= λe f=>K (.exit 0) ⟨[(0,vV Jh a),(5,vV Jh a),(6,vI (Wh a)),(7,vI e),(8,vB f)],[],0⟩)(n b):yy N a K0 K1 n b=LM KE N 0 100002 n ⟨[(0,vV Jh a),(5,vV Jh a),(6,vI (Wh a)),(7,vI b)],[],0⟩ K:=by subst c d;induction n generalizing b;kernel_rfl;rw[yy];simp only[*];kernel_rfl
theorem Z16(ae:List Ka):DN KE N (ae,())=zi N ae:=by
 conv=>rhs;rw[zi];simp(disch:=exact id (by kernel_rfl)) only[Zv7 (R:=Unit×Ks) N (CF KE N [1,0,1,0])]
 kernel_rfl
def Z17:Gd:=GF KE func65 (λN d=>Z16 N d.1)
def Zv8:Fn:=⟨f109,WL,λN=>Sig.of [vt_ Ju] [vf_ Jv] (λd=>OC N d.1),cd⟩
def Zv9:Gd:=GN Zv8 func109
def Z5:Fn:=⟨f147,λ |2=>cn_ [0,1,7,8,9]|3=>cn_ [0,1,5,7,8]|4=>cn_ [0,1,5,7,8,16]|5=>cn_ [1,4]|6=>cn_ [0,1,7,8]|100002=>cn_ [0,1,7,8]|_=>[],λN=>Sig.of [vf_ Jh,.clos 109 0] [vf_ Ja] (λd=>Zy N d.1),CX [Zv9]⟩
theorem Zfj{a:List Ka}{K0 K1}(c:K0= λe=>K .ret ⟨[(1,.s (.one (.clos 109 []))),(4,vI e)],[],0⟩)(d:K1= λf g=>K (.exit 0) ⟨[(0,vV Jh a),(1,.s (.one (.clos 109 []))),(7,vI (Wh a)),(8,vI f),(9,vB g)],[],0⟩)(n b):Zm N a K0 K1 n b=LM Z5 N 0 100002 n ⟨[(0,vV Jh a),(1,.s (.one (.clos 109 []))),(7,vI (Wh a)),(8,vI b)],[],0⟩ K:=by subst c d;induction n generalizing b;kernel_rfl;rw[Zm];simp only[*];kernel_rfl
theorem Zf7(s1:List Ka):DN Z5 N (s1,())=Zy N s1:=by
 conv=>rhs;rw[Zy];simp(disch:=exact id (by kernel_rfl)) only[Zfj (R:=Unit×Kk) N (CF Z5 N [1,0,1,0])]
 kernel_rfl
def Zf8:Gd:=GF Z5 func147 (λN d=>Zf7 N d.1)
def Zfo:Fn:=⟨f108,WL,λN=>Sig.of [vf_ Jh,.clos 109 0] [vf_ Jv] (λd=>Ot N d.1),CX [Zf8]⟩
def Zfp:Gd:=GF Zfo func108
def Zyv:Fn:=⟨f67,WL,λN=>Sig.of [vf_ Jh] [vf_ Jv] (λd=>Df N d.1),CX [Zfp]⟩
def Zyw:Gd:=GF Zyv func67
def I1:Fn:=⟨f35,λ |2=>cn_ [1,6,7,8,9]|3=>cn_ [1,4,6,7,8]|4=>cn_ [1,6,7,8,15]|5=>cn_ [2]|6=>cn_ [1,6,7,8]|100002=>cn_ [1,6,7,8]|_=>[],λN=>Sig.of [vt_ Jm] [vf_ Jv] (λd=>Dn N d.1),CX [Z17,YB,Zyw]⟩
def Ztq(b:List Kae)(c:Int)(a:List Ka×List Kae):St:=⟨[(1,vP 0 0),(6,vV Jae b),(7,vI (Wh a.2)),(8,vI c)],[(0,.box [.val Jh a.1,.val Jae a.2])],1⟩
def Zqq(b:List Kae)(a:List Ka×List Kae)(c:Int)(d:Bool):St:=⟨[(1,vP 0 0),(6,vV Jae b),(7,vI (Wh a.2)),(8,vI c),(9,vB d)],[(0,.box [.val Jh a.1,.val Jae a.2])],1⟩
theorem Ztr{b:List Kae}{a:List Ka×List Kae}{K0 K1}(d:K0=K .ret ⟨[(2,vB false)],[],0⟩)(e:K1= λf g=>K (.exit 0) (Zqq b a f g))(n c):yh N b a K0 K1 n c=LM I1 N 0 100002 n (Ztq b c a) K:=by subst d e;induction n generalizing c;kernel_rfl;rw[yh];simp only[*];kernel_rfl
theorem Z0q(p1:List Ka×List Kae):DN I1 N (p1,())=Dn N p1:=by
 conv=>rhs;rw[Dn];simp(disch:=exact id (by kernel_rfl)) only[Ztr (R:=Unit×Ks) N (CF I1 N [1,0,1,0])]
 kernel_rfl
def Z0r:Gd:=GF I1 func35 (λN d=>Z0q N d.1)
def Zts:Fn:=⟨f34,WL,λN=>Sig.of [vt_ Jm] [vf_ Jv] (λd=>IQ N d.1),CX [Z0r]⟩
def Ztt:Gd:=GF Zts func34
def Z2:Fn:=⟨f64,λ |2=>cn_ [0,1,7,8,9]|3=>cn_ [0,1,5,7,8]|4=>cn_ [0,1,5,7,8,16]|5=>cn_ [1,4]|6=>cn_ [0,1,7,8]|100002=>cn_ [0,1,7,8]|_=>[],λN=>Sig.of [vf_ Jah,.clos 34 0] [vf_ Ja] (λd=>Zu N d.1),CX [Ztt]⟩
theorem Zef{a:List Kq}{K0 K1}(c:K0= λe=>K .ret ⟨[(1,.s (.one (.clos 34 []))),(4,vI e)],[],0⟩)(d:K1= λf g=>K (.exit 0) ⟨[(0,vV Jah a),(1,.s (.one (.clos 34 []))),(7,vI (Wh a)),(8,vI f),(9,vB g)],[],0⟩)(n b):Zf N a K0 K1 n b=LM Z2 N 0 100002 n ⟨[(0,vV Jah a),(1,.s (.one (.clos 34 []))),(7,vI (Wh a)),(8,vI b)],[],0⟩ K:=by subst c d;induction n generalizing b;kernel_rfl;rw[Zf];simp only[*];kernel_rfl
theorem Ze3(s1:List Kq):DN Z2 N (s1,())=Zu N s1:=by
 conv=>rhs;rw[Zu];simp(disch:=exact id (by kernel_rfl)) only[Zef (R:=Unit×Kk) N (CF Z2 N [1,0,1,0])]
 kernel_rfl
def Ze4:Gd:=GF Z2 func64 (λN d=>Ze3 N d.1)
def Zen:Fn:=⟨f33,WL,λN=>Sig.of [vf_ Jah,.clos 34 0] [vf_ Jv] (λd=>Oq N d.1),CX [Ze4]⟩
def Zeo:Gd:=GF Zen func33
def Zxt:Fn:=⟨f15,WL,λN=>Sig.of [vt_ Jz] [vf_ Jv] (λd=>JM N d.1),CX [Zxs,Zeo]⟩
def Zxu:Gd:=GF Zxt func15
def Zyx:Fn:=⟨f37,WL,λN=>Sig.of [] [vf_ Je] (λd=>OM N),cd⟩
def Zyy:Gd:=GN Zyx func37
def Zxv:Fn:=⟨f68,WL,λN=>Sig.of [vf_ Jd] [vf_ Je] (λd=>Zr N d.1),cd⟩
def Z7:Gd:=GN Zxv func68
def Z0s:Fn:=⟨f73,WL,λN=>Sig.of [vf_ Ja,vf_ Ja] [vf_ Ja] (λd=>Do N d.1 d.2.1),cd⟩
def YC:Gd:=GN Z0s func73
def Z18:Fn:=⟨f110,WL,λN=>Sig.of [vf_ Ja] [vf_ Ja] (λd=>z8 N d.1),cd⟩
def YI:Gd:=GN Z18 func110
def Zxw:Fn:=⟨f74,WL,λN=>Sig.of [vf_ Ja] [vf_ Ja] (λd=>Fx N d.1),CX [CJ]⟩
def Yc:Gd:=GF Zxw func74
def II:Fn:=⟨f69,λ |5=>cn_ [3,9,10,11,12]|6=>cn_ [3,4,5,9,10,11]|7=>cn_ [3,4,5,9,10,11,17]|8=>cn_ [3,5,9,10,11,35]|9=>cn_ [2]|10=>cn_ [3,9,10,11]|11=>cn_ [3,9,10,11]|100005=>cn_ [3,9,10,11]|_=>[],λN=>Sig.of [vf_ Jd] [vf_ Jv] (λd=>qS N d.1),CX [YC,Z4,YI,Yc]⟩
def Zqr(a:List Int)(c:Int)(b:List Bool):St:=⟨[(3,.s (.one (.aptr 0))),(9,vV Jd a),(10,vI (Wh a)),(11,vI c)],[(0,.arr Jv b)],1⟩
def Zoq(a:List Int)(b:Int)(c:Bool)(aP:List Bool):St:=⟨[(3,.s (.one (.aptr 0))),(9,vV Jd a),(10,vI (Wh a)),(11,vI b),(12,vB c)],[(0,.arr Jv aP)],1⟩
theorem Zqs{b:List Int}{K0}{K1:Int->Bool->Ko->Option R}(f:K0=K .ret ⟨[(2,vB false)],[],0⟩)(g:K1= λe h d=>K (.exit 0) (Zoq b e h d))(n c a):uJ N b K0 K1 n c a=LM II N 0 100005 n (Zqr b c a) K:=by subst f g;induction n generalizing c a;kernel_rfl;rw[uJ];simp only[*];kernel_rfl
theorem Zyz(l1:List Int):DN II N (l1,())=qS N l1:=by
 conv=>rhs;rw[qS];simp(disch:=exact id (by kernel_rfl)) only[Zqs (R:=Unit×Ks) N (CF II N [1,1,1,0,1,0])]
 kernel_rfl
def IJ:Gd:=GF II func69 (λN d=>Zyz N d.1)
def JY:Fn:=⟨f71,λ |2=>cn_ [1,7,8,9,10]|3=>cn_ [1,5,6,7,8,9]|4=>cn_ [1,5,7,8,9,21]|5=>cn_ [4]|6=>cn_ [1,7,8,9]|100002=>cn_ [1,7,8,9]|_=>[],λN=>Sig.of [vf_ Jd,vf_ Ja] [vf_ Ja] (λd=>qX N d.1 d.2.1),CX [YI]⟩
theorem Zxy{b:Int}{a:List Int}{K0 K1}(f:K0= λh=>K .ret ⟨[(4,vI h)],[],0⟩)(g:K1= λe d=>K (.exit 0) ⟨[(1,vI b),(7,vV Jd a),(8,vI (Wh a)),(9,vI e),(10,vB d)],[],0⟩)(n c):uZ N b a K0 K1 n c=LM JY N 0 100002 n ⟨[(1,vI b),(7,vV Jd a),(8,vI (Wh a)),(9,vI c)],[],0⟩ K:=by subst f g;induction n generalizing c;kernel_rfl;rw[uZ];simp only[*];kernel_rfl
theorem Z2t(a:List Int)(bM:Int):DN JY N (a,bM,())=qX N a bM:=by
 conv=>rhs;rw[qX];simp(disch:=exact id (by kernel_rfl)) only[Zxy (R:=Unit×Kk) N (CF JY N [1,0,1,0])]
 kernel_rfl
def Oz:Gd:=GF JY func71 (λN d=>Z2t N d.1 d.2.1)
def Zy0:Fn:=⟨f72,WL,λN=>Sig.of [vf_ Jd,vf_ Ja] [vf_ Ja,vf_ Jv] (λd=>Dg N d.1 d.2.1),CX [IJ,CJ,Oz]⟩
def OG:Gd:=GF Zy0 func72
def I8:Fn:=⟨f38,λ |10=>cn_ [1,2,9,13,57]|11=>cn_ [1,2,9,13]|100010=>cn_ [1,2,9,13]|_=>[],λN=>Sig.of [vf_ Jd,vf_ Ja,vf_ Ja] [vf_ Je,vf_ Ja,vf_ Jv] (λd=>u9 N d.1 d.2.1 d.2.2.1),CX [Z7,IJ,CJ,o9,Oz,OG,YC,Yc]⟩
def Zqt(b d c:Int)(a:List Int):St:=⟨[(1,vI b),(2,vI d),(9,vO 0),(13,vI c)],[(0,.arr Ja a)],1⟩
def Zor(c d:Int)(a:List Int)(e:Int)(b:Bool):St:=⟨[(1,vI c),(2,vI d),(9,vO 0),(13,vI e),(57,vB b)],[(0,.arr Ja a)],1⟩
theorem Zqu{b d:Int}{a:List Int}{K0}(f:K0= λg e=>K (.exit 0) (Zor b d a g e))(n c):ym N b d a K0 n c=LM I8 N 0 100010 n (Zqt b d c a) K:=by subst f;induction n generalizing c;kernel_rfl;rw[ym];simp only[*];kernel_rfl
theorem Zy1(b:List Int)(a v3:Int):DN I8 N (b,a,v3,())=u9 N b a v3:=by
 conv=>rhs;rw[u9];simp(disch:=exact id (by kernel_rfl)) only[Zqu (R:=Unit×(Kj×Kn)) N (CF I8 N [1,1,1,1,1,0,0])]
 kernel_rfl
def OH:Gd:=GF I8 func38 (λN d=>Zy1 N d.1 d.2.1 d.2.2.1)
def IM:Fn:=⟨f16,λ |5=>cn_ [3,10,11,12,13]|6=>cn_ [3,4,5,10,11,12]|7=>cn_ [3,4,5,10,11,12,18]|8=>cn_ [3,10,11,12]|9=>cn_ [3,10,11,12]|100005=>cn_ [3,10,11,12]|_=>[],λN=>Sig.of [vf_ Jd] [vf_ Je] (λd=>nC N d.1),CX [YH,Zyy,OH]⟩
def Znx(a:List Int)(c:Int)(b:List Int):St:=⟨[(3,vO 0),(10,vV Jd a),(11,vI (Wh a)),(12,vI c)],[(0,.arr Ja b)],1⟩
def Zm1(a:List Int)(c:Int)(b:Bool)(d:List Int):St:=⟨[(3,vO 0),(10,vV Jd a),(11,vI (Wh a)),(12,vI c),(13,vB b)],[(0,.arr Ja d)],1⟩
theorem Zny{b:List Int}{K0:Int->Bool->Kj->Option R}(g:K0= λe d f=>K (.exit 0) (Zm1 b e d f))(n c a):ux N b K0 n c a=LM IM N 0 100005 n (Znx b c a) K:=by subst g;induction n generalizing c a;kernel_rfl;rw[ux];simp only[*];kernel_rfl
theorem Zwc(m1:List Int):DN IM N (m1,())=nC N m1:=by
 conv=>rhs;rw[nC];simp(disch:=exact id (by kernel_rfl)) only[Zny (R:=Unit×Kv) N (CF IM N [1,1,1,0,1,0])]
 kernel_rfl
def Zwd:Gd:=GF IM func16 (λN d=>Zwc N d.1)
def I2:Fn:=⟨f17,λ |5=>cn_ [2,4,12,13,14,15]|6=>cn_ [2,4,6,12,13,14]|7=>cn_ [2,4,12,13,14]|8=>cn_ [2,4,12,13,14]|100005=>[.adoptC 4 1 Jb,.canon [2,4,12,13,14]]|_=>[],λN=>Sig.of [vf_ Jd] [vt_ Jaf,vf_ Jv] (λd=>nT N d.1),CX [Fs]⟩
def Ztu(a:List Int)(c:Int)(b:List Kb):St:=⟨[(2,vP 0 0),(4,vP 1 0),(12,vV Jd a),(13,vI (Wh a)),(14,vI c)],[(0,.box [.val Ja (0:Int),.nils]),(1,.box [.val Ja (0:Int),.own 2]),(2,.arr Jb b)],3⟩
def Zqv(a:List Int)(d:Int)(b:Bool)(c:List Kb):St:=⟨[(2,vP 0 0),(4,vP 1 0),(12,vV Jd a),(13,vI (Wh a)),(14,vI d),(15,vB b)],[(0,.box [.val Ja (0:Int),.nils]),(1,.box [.val Ja (0:Int),.own 2]),(2,.arr Jb c)],3⟩
theorem Ztv{b:List Int}{K0:Int->Bool->Kw->Option R}(f:K0= λg d e=>K (.exit 0) (Zqv b g d e))(n c a):yf N b K0 n c a=LM I2 N 0 100005 n (Ztu b c a) K:=by subst f;induction n generalizing c a;kernel_rfl;rw[yf];simp only[*];kernel_rfl
theorem Z0t(l1:List Int):DN I2 N (l1,())=nT N l1:=by
 conv=>rhs;rw[nT];simp(disch:=exact id (by kernel_rfl)) only[Ztv (R:=Unit×(Ky×Ks)) N (CF I2 N [1,1,1,0,1,0])]
 kernel_rfl
def Z0u:Gd:=GF I2 func17 (λN d=>Z0t N d.1)
def Zwe:Fn:=⟨f75,WL,λN=>Sig.of [.box Jj] [] (λd=>nD N d.1),cd⟩
def Ft:Gd:=GN Zwe func75
def IA:Fn:=⟨f76,λ |3=>cn_ [0,1,4,5,17,18,19,20]|4=>cn_ [0,1,4,5,6,7,17,18,19]|5=>cn_ [0,1,4,5,17,18,19]|6=>cn_ [0,1,4,5,17,18,19]|100003=>cn_ [0,1,4,5,17,18,19]|_=>[],λN=>Sig.of [.box Jl,vf_ Ja] [] (λd=>Cp N d.1 d.2.1),cd⟩
def Zm2(k:Int)(l:Nat)(j:Bool)(m n c d g i:Int)(b:List Y_Root)(a:List Kb)(e:List Int)(f:List Kb)(h:List Kr):St:=⟨[(0,vP 0 0),(1,vI k),(4,.s (.one (.eptr 1 l 0))),(5,vB j),(17,vO 1),(18,vI m),(19,vI n)],[(0,.box [.val Ja c,.val Ja d,.val Ja g,.own 2,.own 3,.val Ja i,.own 4,.own 1,.own 5]),(1,.arr Jj b),(2,.arr Jb a),(3,.arr Ja e),(4,.arr Jb f),(5,.arr Jad h)],6⟩
def Zml(m:Int)(n:Nat)(o c d g i:Int)(b:List Y_Root)(a:List Kb)(e:List Int)(f:List Kb)(h:List Kr)(l:Bool)(j:Int)(k:Bool):St:=⟨[(0,vP 0 0),(1,vI m),(4,.s (.one (.eptr 1 n 0))),(5,vB l),(17,vO 1),(18,vI o),(19,vI j),(20,vB k)],[(0,.box [.val Ja c,.val Ja d,.val Ja g,.own 2,.own 3,.val Ja i,.own 4,.own 1,.own 5]),(1,.arr Jj b),(2,.arr Jb a),(3,.arr Ja e),(4,.arr Jb f),(5,.arr Jad h)],6⟩
theorem Zm3{k:Int}{l:Nat}{m c d g i:Int}{b:List Y_Root}{a:List Kb}{e:List Int}{f:List Kb}{h:List Kr}{K0}(q:K0= λs p r=>K (.exit 0) (Zml k l m c d g i b a e f h s p r))(n j o):pe N k l m c d g i b a e f h K0 n j o=LM IA N 0 100003 n (Zm2 k l j m o c d g i b a e f h) K:=by subst q;induction n generalizing j o;kernel_rfl;rw[pe];simp only[*];kernel_rfl
theorem Ztw(a:Y_World)(k2:Int):DN IA N (a,k2,())=Cp N a k2:=by
 conv=>rhs;rw[Cp];simp(disch:=exact id (by kernel_rfl)) only[Zm3 (R:=(Y_World×Unit)×Unit) N (CF IA N [1,1,0,1,0])]
 kernel_rfl
def Ztx:Gd:=GN IA func76 (λN d=>Ztw N d.1 d.2.1)
def Z0v:Fn:=⟨f175,WL,λN=>Sig.of [vf_ Ja,vf_ Ja,vf_ Ja] [vf_ Jv] (λd=>Dp N d.1 d.2.1 d.2.2.1),CX [Z4]⟩
def YD:Gd:=GF Z0v func175
def Zos:Fn:=⟨f176,WL,λN=>Sig.of [vt_ Jb,vt_ Jb] [vf_ Ja] (λd=>Ix N d.1 d.2.1),cd⟩
def Zot:Gd:=GN Zos func176
def I9:Fn:=⟨f125,λ |2=>cn_ [0,5,6,7,8]|3=>cn_ [0,3,4,5,6,7]|4=>cn_ [0,3,4,5,6,7,33]|5=>cn_ [2]|6=>cn_ [0,5,6,7,60]|7=>cn_ [2]|8=>cn_ [0,5,6,7]|100002=>cn_ [0,5,6,7]|_=>[],λN=>Sig.of [vf_ Jq] [vf_ Jv] (λd=>va N d.1),CX [YD,Zot]⟩
theorem Zqx{a:List Kb}{K0 K1}(e:K0=K .ret ⟨[(2,vB false)],[],0⟩)(f:K1= λd c=>K (.exit 0) ⟨[(0,vV Jq a),(5,vV Jq a),(6,vI (Wh a)),(7,vI d),(8,vB c)],[],0⟩)(n b):mB N a K0 K1 n b=LM I9 N 0 100002 n ⟨[(0,vV Jq a),(5,vV Jq a),(6,vI (Wh a)),(7,vI b)],[],0⟩ K:=by subst e f;induction n generalizing b;kernel_rfl;rw[mB];simp only[*];kernel_rfl
theorem Zy2(l1:List Kb):DN I9 N (l1,())=va N l1:=by
 conv=>rhs;rw[va];simp(disch:=exact id (by kernel_rfl)) only[Zqx (R:=Unit×Ks) N (CF I9 N [1,0,1,0])]
 kernel_rfl
def JA:Gd:=GF I9 func125 (λN d=>Zy2 N d.1)
def JB:Fn:=⟨f148,λ |5=>cn_ [1,5,12,13,14,15]|6=>cn_ [1,5,7,12,13,14]|7=>cn_ [1,5,7,12,13,14,21]|8=>cn_ [1,5,12,13,14]|9=>cn_ [1,5,12,13,14]|100005=>cn_ [1,5,12,13,14]|_=>[],λN=>Sig.of [vf_ Jq,vf_ Ja] [vf_ Je] (λd=>zc N d.1 d.2.1),CX [JA]⟩
def Zqy(b:Int)(a:List Kb)(d:Int)(c:List Int):St:=⟨[(1,vI b),(5,vO 0),(12,vV Jq a),(13,vI (Wh a)),(14,vI d)],[(0,.arr Ja c)],1⟩
def Zow(d:Int)(a:List Kb)(e:Int)(b:Bool)(c:List Int):St:=⟨[(1,vI d),(5,vO 0),(12,vV Jq a),(13,vI (Wh a)),(14,vI e),(15,vB b)],[(0,.arr Ja c)],1⟩
theorem Zqz{a:Int}{c:List Kb}{K0:Int->Bool->Kj->Option R}(g:K0= λh e f=>K (.exit 0) (Zow a c h e f))(n d b):uM N a c K0 n d b=LM JB N 0 100005 n (Zqy a c d b) K:=by subst g;induction n generalizing d b;kernel_rfl;rw[uM];simp only[*];kernel_rfl
theorem Zy3(a:List Kb)(dh:Int):DN JB N (a,dh,())=zc N a dh:=by
 conv=>rhs;rw[zc];simp(disch:=exact id (by kernel_rfl)) only[Zqz (R:=Unit×Kv) N (CF JB N [1,1,1,0,1,0])]
 kernel_rfl
def Zy4:Gd:=GF JB func148 (λN d=>Zy3 N d.1 d.2.1)
def Zwf:Fn:=⟨f84,λ |0=>[.opn 10]|_=>[],λN=>Sig.of [.box Jl,vf_ Ja] [] (λd=>CA N d.1 d.2.1),cd⟩
def Yk:Gd:=GN Zwf func84
def Zy5:Fn:=⟨f186,WL,λN=>Sig.of [vf_ Ja] [vf_ Jv] (λd=>vc N d.1),CX [Z4]⟩
def FF:Gd:=GF Zy5 func186
def I3:Fn:=⟨f178,λ |2=>cn_ [0,5,6,7,8]|3=>cn_ [0,4,5,6,7]|4=>cn_ [0,5,6,7,20]|5=>cn_ [2]|6=>cn_ [0,5,6,7]|100002=>cn_ [0,5,6,7]|_=>[],λN=>Sig.of [vf_ Jf] [vf_ Jv] (λd=>pr N d.1),CX [u2,o9]⟩
theorem Ztz{a:List Ke}{K0 K1}(e:K0=K .ret ⟨[(2,vB false)],[],0⟩)(f:K1= λd c=>K (.exit 0) ⟨[(0,vV Jf a),(5,vV Jf a),(6,vI (Wh a)),(7,vI d),(8,vB c)],[],0⟩)(n b):ye N a K0 K1 n b=LM I3 N 0 100002 n ⟨[(0,vV Jf a),(5,vV Jf a),(6,vI (Wh a)),(7,vI b)],[],0⟩ K:=by subst e f;induction n generalizing b;kernel_rfl;rw[ye];simp only[*];kernel_rfl
theorem Z0w(l1:List Ke):DN I3 N (l1,())=pr N l1:=by
 conv=>rhs;rw[pr];simp(disch:=exact id (by kernel_rfl)) only[Ztz (R:=Unit×Ks) N (CF I3 N [1,0,1,0])]
 kernel_rfl
def I4:Gd:=GF I3 func178 (λN d=>Z0w N d.1)
def JZ:Fn:=⟨f150,λ |4=>cn_ [0,1,6,14]|5=>cn_ [0,1,6]|6=>cn_ [0,1,6,23]|7=>cn_ [4,5]|100004=>cn_ [0,1,6]|_=>[],λN=>Sig.of [vf_ Jf,vf_ Ja] [vf_ Ja,vf_ Jv] (λd=>vH N d.1 d.2.1),CX [I4]⟩
theorem Zx0{c:List Ke}{a:Int}{K0 K1}(d:K0= λg=>K .ret ⟨[(4,vI g),(5,vB true)],[],0⟩)(e:K1= λf h=>K (.exit 0) ⟨[(0,vV Jf c),(1,vI a),(6,vI f),(14,vB h)],[],0⟩)(n b):CM N c a K0 K1 n b=LM JZ N 0 100004 n ⟨[(0,vV Jf c),(1,vI a),(6,vI b)],[],0⟩ K:=by subst d e;induction n generalizing b;kernel_rfl;rw[CM];simp only[*];kernel_rfl
theorem Z2u(a:List Ke)(gN:Int):DN JZ N (a,gN,())=vH N a gN:=by
 conv=>rhs;rw[vH];simp(disch:=exact id (by kernel_rfl)) only[Zx0 (R:=Unit×Kn) N (CF JZ N [1,1,0,1,0])]
 kernel_rfl
def OB:Gd:=GF JZ func150 (λN d=>Z2u N d.1 d.2.1)
def KQ:Fn:=⟨f130,λ |5=>cn_ [0,3,11,12]|6=>cn_ [0,3,4,11]|7=>cn_ [0,3,4,5,6,11]|8=>cn_ [0,3,4,5,11,20]|9=>cn_ [0,3,11]|10=>cn_ [0,3,11]|100005=>cn_ [0,3,11]|_=>[],λN=>Sig.of [vf_ Jf] [vf_ Jc] (λd=>px N d.1),CX [I4,OB]⟩
def Zy6(a:List Ke)(c:Int)(b:List Ke):St:=⟨[(0,vV Jf a),(3,vO 0),(11,vI c)],[(0,.arr Jx b)],1⟩
def Zx1(a:List Ke)(c:Int)(d:Bool)(b:List Ke):St:=⟨[(0,vV Jf a),(3,vO 0),(11,vI c),(12,vB d)],[(0,.arr Jx b)],1⟩
theorem Zy7{a:List Ke}{K0:Int->Bool->Kaa->Option R}(d:K0= λf g e=>K (.exit 0) (Zx1 a f g e))(n c b):za N a K0 n c b=LM KQ N 0 100005 n (Zy6 a c b) K:=by subst d;induction n generalizing c b;kernel_rfl;rw[za];simp only[*];kernel_rfl
theorem Z26(l1:List Ke):DN KQ N (l1,())=px N l1:=by
 conv=>rhs;rw[px];simp(disch:=exact id (by kernel_rfl)) only[Zy7 (R:=Unit×(Kaa×Unit)) N (CF KQ N [1,1,1,0,1,0])]
 kernel_rfl
def KR:Gd:=GF KQ func130 (λN d=>Z26 N d.1)
def JC:Fn:=⟨f187,λ |3=>cn_ [3,8,9,10,11]|4=>cn_ [3,5,8,9,10]|5=>cn_ [3,8,9,10]|6=>cn_ [3,8,9,10]|100003=>cn_ [3,8,9,10]|_=>[],λN=>Sig.of [vf_ Jf] [vf_ Je] (λd=>Dh N d.1),CX [KR]⟩
def Zq2(c d:Int)(a:List Int)(b:List Ke):St:=⟨[(3,vO 0),(8,vO 1),(9,vI c),(10,vI d)],[(0,.arr Ja a),(1,.arr Jx b)],2⟩
def Zox(c:Int)(a:List Ke)(d:Int)(e:Bool)(b:List Int):St:=⟨[(3,vO 0),(8,vO 1),(9,vI c),(10,vI d),(11,vB e)],[(0,.arr Ja b),(1,.arr Jx a)],2⟩
theorem Zq3{c:Int}{b:List Ke}{K0:Int->Bool->Kj->Option R}(e:K0= λg h f=>K (.exit 0) (Zox c b g h f))(n d a):yn N c b K0 n d a=LM JC N 0 100003 n (Zq2 c d a b) K:=by subst e;induction n generalizing d a;kernel_rfl;rw[yn];simp only[*];kernel_rfl
theorem Zy8(l1:List Ke):DN JC N (l1,())=Dh N l1:=by
 conv=>rhs;rw[Dh];simp(disch:=exact id (by kernel_rfl)) only[Zq3 (R:=Unit×Kv) N (CF JC N [1,1,0,1,0])]
 kernel_rfl
def Zy9:Gd:=GF JC func187 (λN d=>Zy8 N d.1)
def Zwi:Fn:=⟨f149,WL,λN=>Sig.of [vf_ Ja,vf_ Ja,vf_ Jf,vf_ Jf] [vt_ Jt,vf_ Jv] (λd=>yO N d.1 d.2.1 d.2.2.1 d.2.2.2.1),CX [FF,Z4,I4,KR,Zy9]⟩
def Zwj:Gd:=GF Zwi func149
def Zq4:Fn:=⟨f111,λ |0=>[.opn 13]|_=>[],λN=>Sig.of [.box Jl,vf_ Ja,vf_ Ja] [] (λd=>Fl N d.1 d.2.1 d.2.2.1),CX [Zy4,Yk,Zwj]⟩
def Yg:Gd:=GF Zq4 func111
def Zx2:Fn:=⟨f151,WL,λN=>Sig.of [vf_ Ja] [vt_ Ju,vf_ Jv] (λd=>yR N d.1),CX [u2]⟩
def Yd:Gd:=GF Zx2 func151
def KF:Fn:=⟨f168,λ |2=>cn_ [1,6,7,8,9]|3=>cn_ [1,4,6,7,8]|4=>cn_ [1,6,7,8,29]|5=>cn_ [2]|6=>cn_ [1,6,7,8]|100002=>cn_ [1,6,7,8]|_=>[],λN=>Sig.of [vt_ Jab] [vf_ Jv] (λd=>nG N d.1),CX [o9,Z4]⟩
def Zwk(b:List Kb)(c:Int)(a:Int×List Kb):St:=⟨[(1,vP 0 0),(6,vV Jq b),(7,vI (Wh a.2)),(8,vI c)],[(0,.box [.val Ja a.1,.val Jq a.2])],1⟩
def Zt1(d:List Kb)(a:Int×List Kb)(b:Int)(c:Bool):St:=⟨[(1,vP 0 0),(6,vV Jq d),(7,vI (Wh a.2)),(8,vI b),(9,vB c)],[(0,.box [.val Ja a.1,.val Jq a.2])],1⟩
theorem Zwl{b:List Kb}{a:Int×List Kb}{K0 K1}(f:K0=K .ret ⟨[(2,vB false)],[],0⟩)(g:K1= λd e=>K (.exit 0) (Zt1 b a d e))(n c):yz N b a K0 K1 n c=LM KF N 0 100002 n (Zwk b c a) K:=by subst f g;induction n generalizing c;kernel_rfl;rw[yz];simp only[*];kernel_rfl
theorem Z19(m1:Int×List Kb):DN KF N (m1,())=nG N m1:=by
 conv=>rhs;rw[nG];simp(disch:=exact id (by kernel_rfl)) only[Zwl (R:=Unit×Ks) N (CF KF N [1,0,1,0])]
 kernel_rfl
def CK:Gd:=GF KF func168 (λN d=>Z19 N d.1)
def Zza:Fn:=⟨f188,WL,λN=>Sig.of [vt_ Ju] [vf_ Jv] (λd=>J4 N d.1),CX [u2,Z4,o9]⟩
def Zzb:Gd:=GF Zza func188
def Zwm:Fn:=⟨f152,WL,λN=>Sig.of [vt_ Jab,vf_ Ja,vt_ Ju] [vt_ Ju] (λd=>yD N d.1 d.2.1 d.2.2.1),CX [CK,Zzb]⟩
def Yl:Gd:=GF Zwm func152
def Znz:Fn:=⟨f153,WL,λN=>Sig.of [.box Jj] [] (λd=>Ca N d.1),CX [Ft]⟩
def X5:Gd:=GF Znz func153
def Zt2:Fn:=⟨f112,λ |1000000=>[.unfE 1]|_=>[],λN=>Sig.of [.boxal Jl 3,vt_ Ju] [] (λd=>IR N d.1 d.2.1 d.2.2.1),CX [OB,Yd,Yl,X5]⟩
def Zt3:Gd:=GF Zt2 func112
def Zwn:Fn:=⟨f79,WL,λN=>Sig.of [.box Jj] [vt_ Ji] (λd=>Fz N d.1),cd⟩
def Ym:Gd:=GN Zwn func79
def Zwo:Fn:=⟨f160,WL,λN=>Sig.of [vt_ (.prod Jd Ja)] [vt_ (.prod Je Ja)] (λd=>FC N d.1),CX [Z7]⟩
def Yn:Gd:=GF Zwo func160
def Zzc:Fn:=⟨f161,WL,λN=>Sig.of [vt_ (.prod Jd Ja)] [vf_ Jv] (λd=>FJ N d.1),CX [IJ,o9]⟩
def Ys:Gd:=GF Zzc func161
def Z0x:Fn:=⟨f162,WL,λN=>Sig.of [vt_ Jb] [vf_ Jv] (λd=>JW N d.1),CX [CJ,o9]⟩
def Z0y:Gd:=GF Z0x func162
def Zx3:Fn:=⟨f163,WL,λN=>Sig.of [vf_ Jd,vf_ Ja] [vf_ Je,vf_ Ja,vf_ Jv] (λd=>Fy N d.1 d.2.1),CX [Z7,IJ,CJ,Oz,OG]⟩
def Ye:Gd:=GF Zx3 func163
def Zzd:Fn:=⟨f120,WL,λN=>Sig.of [vt_ (.prod Jd Ja),vt_ Jb] [vt_ (.prod Je Ja),vf_ Jv] (λd=>J5 N d.1 d.2.1),CX [Yn,Ys,Z0y,OH,Ye]⟩
def Zze:Gd:=GF Zzd func120
def Zt4:Fn:=⟨f80,λ |1000000=>[.unfE 1]|_=>[],λN=>Sig.of [.boxal Jl 3] [] (λd=>uQ N d.1 d.2.1),CX [Zze]⟩
def Yh:Gd:=GF Zt4 func80
def Zx4:Fn:=⟨f121,WL,λN=>Sig.of [vf_ Jf] [vf_ Jc] (λd=>nw N d.1),cd⟩
def Fw:Gd:=GN Zx4 func121
def KG:Fn:=⟨f154,λ |5=>cn_ [0,5,6,25]|6=>cn_ [0,5,6]|7=>cn_ [0,5,6]|8=>cn_ [0,5,6,36]|9=>cn_ [4]|100005=>cn_ [0,5,6]|_=>[],λN=>Sig.of [vf_ Jh,vf_ Ja] [vf_ Ja] (λd=>zs N d.1 d.2.1),CX [Z4,ON]⟩
theorem Zwq{a:List Ka}{K0 K1}(f:K0= λi=>K .ret ⟨[(4,vI i)],[],0⟩)(g:K1= λh b e=>K (.exit 0) ⟨[(0,vV Jh a),(5,vI h),(6,vI b),(25,vB e)],[],0⟩)(n d c):yF N a K0 K1 n d c=LM KG N 0 100005 n ⟨[(0,vV Jh a),(5,vI d),(6,vI c)],[],0⟩ K:=by subst f g;induction n generalizing d c;kernel_rfl;rw[yF];simp only[*];kernel_rfl
theorem Z2a(a:List Ka)(i2:Int):DN KG N (a,i2,())=zs N a i2:=by
 conv=>rhs;rw[zs];simp(disch:=exact id (by kernel_rfl)) only[Zwq (R:=Unit×Kk) N (CF KG N [1,1,1,0,1,0])]
 kernel_rfl
def YJ:Gd:=GF KG func154 (λN d=>Z2a N d.1 d.2.1)
def Zq5:Fn:=⟨f113,λ |0=>[.opn 13]|_=>[],λN=>Sig.of [.box Jl,vf_ Ja,vf_ Jh] [] (λd=>It N d.1 d.2.1 d.2.2.1),CX [Yg,Ym,Yh,Z7,Fw,YJ]⟩
def Zq6:Gd:=GF Zq5 func113
def Ct:Fn:=⟨f114,λ |3=>cn_ [1,3,8,9,19,20,21,22]|4=>cn_ [1,3,8,9,11,19,20,21]|5=>cn_ [1,3,8,9,19,20,21]|6=>cn_ [1,3,8,9,19,20,21]|8=>cn_ [1,8,9,36,37,38]|9=>[.nest 44 Jk,.canon [1,8,9,36,37]]|10=>cn_ [1,8,9,36,37]|100003=>[.adoptC 9 6 Jb,.canon [1,3,8,9,19,20,21]]|100008=>[.adoptC 9 9 Jk,.canon [1,8,9,36,37]]|_=>[],λN=>Sig.of [vf_ Ja,vf_ Jd,vf_ Jf,vf_ Ja] [vt_ Jp] (λd=>CN N d.1 d.2.1 d.2.2.1 d.2.2.2.1),CX [Z7,KR]⟩
def Zoz(d:List Int)(e f a c:Int)(b:List Ke)(aP:List Int)(aA:List Kb):St:=⟨[(1,vV Jd d),(3,vI e),(8,vP 0 0),(9,vP 1 0),(19,vO 2),(20,vI f),(21,vI a)],[(0,.box [.val Ja (0:Int),.val Ja (0:Int),.val Ja (0:Int),.val Jv false,.nils,.nils,.nils,.nils,.nils,.nils]),(1,.box [.val Ja c,.val Ja (0:Int),.val Ja (0:Int),.val Jv false,.own 3,.own 2,.own 4,.nils,.nils,.nils]),(2,.arr Jx b),(3,.arr Ja aP),(4,.arr Jb aA)],5⟩
def Zn0(e:List Int)(f h d:Int)(b:List Ke)(aP:List Int)(a:Int)(g:Bool)(c:List Kb):St:=⟨[(1,vV Jd e),(3,vI f),(8,vP 0 0),(9,vP 1 0),(19,vO 2),(20,vI h),(21,vI a),(22,vB g)],[(0,.box [.val Ja (0:Int),.val Ja (0:Int),.val Ja (0:Int),.val Jv false,.nils,.nils,.nils,.nils,.nils,.nils]),(1,.box [.val Ja d,.val Ja (0:Int),.val Ja (0:Int),.val Jv false,.own 3,.own 2,.own 4,.nils,.nils,.nils]),(2,.arr Jx b),(3,.arr Ja aP),(4,.arr Jb c)],5⟩
theorem Zo0{d:List Int}{e g c:Int}{b:List Ke}{aP:List Int}{K0:Int->Bool->Kw->Option R}(i:K0= λf j h=>K (.exit 0) (Zn0 d e g c b aP f j h))(n a aA):xY N d e g c b aP K0 n a aA=LM Ct N 0 100003 n (Zoz d e g a c b aP aA) K:=by subst i;induction n generalizing a aA;kernel_rfl;rw[xY];simp only[*];kernel_rfl
def Zo1(a:List Int)(c f d:Int)(eh:List Int)(eZ:List Ke)(e:List Kb)(b:List Y_KidRun):St:=⟨[(1,vV Jd a),(8,vP 0 0),(9,vP 1 0),(36,vI c),(37,vI f)],[(0,.box [.val Ja (0:Int),.val Ja (0:Int),.val Ja (0:Int),.val Jv false,.nils,.nils,.nils,.nils,.nils,.nils]),(1,.box [.val Ja d,.val Ja (0:Int),.val Ja (0:Int),.val Jv false,.own 2,.own 3,.own 4,.nils,.nils,.own 5]),(2,.arr Ja eh),(3,.arr Jx eZ),(4,.arr Jb e),(5,.arr Jk b)],6⟩
def Zn1(c:List Int)(e f:Int)(eh:List Int)(eZ:List Ke)(g:List Kb)(a:Int)(b:Bool)(d:List Y_KidRun):St:=⟨[(1,vV Jd c),(8,vP 0 0),(9,vP 1 0),(36,vI e),(37,vI a),(38,vB b)],[(0,.box [.val Ja (0:Int),.val Ja (0:Int),.val Ja (0:Int),.val Jv false,.nils,.nils,.nils,.nils,.nils,.nils]),(1,.box [.val Ja f,.val Ja (0:Int),.val Ja (0:Int),.val Jv false,.own 2,.own 3,.own 4,.nils,.nils,.own 5]),(2,.arr Ja eh),(3,.arr Jx eZ),(4,.arr Jb g),(5,.arr Jk d)],6⟩
theorem Zo2{a:List Int}{c d:Int}{eh:List Int}{eZ:List Ke}{e:List Kb}{K0:Int->Bool->(List Y_KidRun)->Option R}(i:K0= λg h j=>K (.exit 2) (Zn1 a c d eh eZ e g h j))(n f b):qL N a c d eh eZ e K0 n f b=LM Ct N 1 100008 n (Zo1 a c f d eh eZ e b) K:=by subst i;induction n generalizing f b;kernel_rfl;rw[qL];simp only[*];kernel_rfl
theorem Zx5(c:Int)(a:List Int)(b:List Ke)(iP:Int):DN Ct N (c,a,b,iP,())=CN N c a b iP:=by
 conv=>rhs;rw[CN];simp(disch:=exact id (by kernel_rfl)) only[Zo0 (R:=Unit×(Y_Family×Unit)) N (CF Ct N [1,1,0,1,0]),Zo2 (R:=Unit×(Y_Family×Unit)) N (CF Ct N [1,1,1,0,1,0])]
 kernel_rfl
def Zx6:Gd:=GF Ct func114 (λN d=>Zx5 N d.1 d.2.1 d.2.2.1 d.2.2.2.1)
def Zwr:Fn:=⟨f155,WL,λN=>Sig.of [vt_ Ju] [vf_ Ja,vf_ Ja] (λd=>ID N d.1),CX [JX]⟩
def Zws:Gd:=GF Zwr func155
def Zwt:Fn:=⟨f124,WL,λN=>Sig.of [vf_ Jq] [vf_ (.own Jb)] (λd=>yP N d.1),cd⟩
def Ya:Gd:=GN Zwt func124
def I5:Fn:=⟨f189,λ |5=>cn_ [1,2,3,9,21,22,23,24]|6=>cn_ [1,2,3,9,11,21,22,23]|7=>cn_ [1,2,3,9,11,21,22,23,45]|8=>cn_ [1,2,3,9,21,22,23]|9=>cn_ [1,2,3,9,21,22,23]|100005=>cn_ [1,2,3,9,21,22,23]|_=>[],λN=>Sig.of [vf_ Jq,vf_ Ja,vf_ Ja,vf_ Ja] [vf_ Je] (λd=>Dq N d.1 d.2.1 d.2.2.1 d.2.2.2.1),CX [JA,Z4]⟩
def Zt7(f d e:Int)(a:List Kb)(c:Int)(b:List Int):St:=⟨[(1,vI f),(2,vI d),(3,vI e),(9,vO 0),(21,vV Jq a),(22,vI (Wh a)),(23,vI c)],[(0,.arr Ja b)],1⟩
def Zq7(f d e:Int)(a:List Kb)(g:Int)(b:Bool)(c:List Int):St:=⟨[(1,vI f),(2,vI d),(3,vI e),(9,vO 0),(21,vV Jq a),(22,vI (Wh a)),(23,vI g),(24,vB b)],[(0,.arr Ja c)],1⟩
theorem Zt8{f d e:Int}{b:List Kb}{K0:Int->Bool->Kj->Option R}(j:K0= λi g h=>K (.exit 0) (Zq7 f d e b i g h))(n c a):nA N f d e b K0 n c a=LM I5 N 0 100005 n (Zt7 f d e b c a) K:=by subst j;induction n generalizing c a;kernel_rfl;rw[nA];simp only[*];kernel_rfl
theorem Z0z(c:List Kb)(a b cW:Int):DN I5 N (c,a,b,cW,())=Dq N c a b cW:=by
 conv=>rhs;rw[Dq];simp(disch:=exact id (by kernel_rfl)) only[Zt8 (R:=Unit×Kv) N (CF I5 N [1,1,1,0,1,0])]
 kernel_rfl
def Z00:Gd:=GF I5 func189 (λN d=>Z0z N d.1 d.2.1 d.2.2.1 d.2.2.2.1)
def X4(N:Nat):Sig:=Sig.of [.mut Jb,.clos 176 0] [] (λd=>Zt N d.1)
theorem Zes:N0 Tryz.prog 176 Jb xJ cfH:=by
  intro G x y m n w c d k l;obtain⟨_,_,rfl,e,_,_,rfl,f,g⟩:=k;obtain⟨_,_,rfl,h,_,_,rfl,i,j⟩:=l;simp only[Enc]at e f g h i j;subst e f g h i j;simp only[fG,mx];unfold xJ at c d;simp only[Xj]at c d
  go_enter Tryz.func176,Tryz.ntmps176
  go_wp2
  rw[WsW (a:=x.2.1) (b:=y.2.1),Result.andThen_ok];rw[Wya (a:=x.2.1) (b:=y.2.1),Result.andThen_ok];rcases hb:(bne (α:=Int) x.2.1 y.2.1)with _|_
  . go_wp2
    rw[M4 (Bw c.1) (Bw d.1) (WzB hb)]
    go_wp2
    go_ret
    exact⟨rfl,MU _ _ _⟩
  . go_wp2
    rw[M4 (Bw c.2) (Bw d.2) (WzM hb)]
    go_wp2
    go_ret
    exact⟨rfl,MU _ _ _⟩
theorem Zet(N:Nat):GW 190 (X4 N):=⟨DR Tryz.func190 (show qq Tryz.f190=true by kernel_rfl),Qx sortFH (e:=.prod Ja Jx) rfl (by decide) Tryz.isAgg184 Tryz.sizeOf184 (enters_of Tryz.func176 (by kernel_rfl) rfl) YX Zes N⟩
def Zeu:Gd:=⟨190,X4,Zet⟩
def JD:Fn:=⟨f156,λ |5=>cn_ [1,2,3,10,35,36,37,38]|6=>cn_ [1,2,3,10,11,12,35,36,37]|7=>cn_ [1,2,3,10,11,12,35,36,37,51]|8=>cn_ [10]|9=>cn_ [8,9]|10=>cn_ [1,2,3,10,35,36,37]|100005=>cn_ [1,2,3,10,35,36,37]|_=>[],λN=>Sig.of [vf_ Jq,vf_ Ja,vf_ Ja,vf_ Ja] [vf_ (.own Jb),vf_ Jv] (λd=>CB N d.1 d.2.1 d.2.2.1 d.2.2.2.1),CX [Ya,JA,YD,Z00,Zeu]⟩
def Zq8(f d e b c:Int)(a:List Kb):St:=⟨[(1,vI f),(2,vI d),(3,vI e),(10,vO 0),(35,vO 0),(36,vI b),(37,vI c)],[(0,.arr Jb a)],1⟩
def Zo3(f d e c:Int)(b a:List Kb):St:=⟨[(8,vO 0),(9,vB true)],[(0,.arr Jb a)],1⟩
def Zo4(f c d b:Int)(a:List Kb)(g:Int)(e:Bool):St:=⟨[(1,vI f),(2,vI c),(3,vI d),(10,vO 0),(35,vO 0),(36,vI b),(37,vI g),(38,vB e)],[(0,.arr Jb a)],1⟩
theorem Zq9{e c d b:Int}{a:List Kb}{K0:Kw->Option R}{K1}(j:K0= λg=>K .ret (Zo3 e c d b a g))(k:K1= λi h=>K (.exit 0) (Zo4 e c d b a i h))(n f):uN N e c d b a K0 K1 n f=LM JD N 0 100005 n (Zq8 e c d b f a) K:=by subst j k;induction n generalizing f;kernel_rfl;rw[uN];simp only[*];kernel_rfl
theorem Zzf(c:List Kb)(a b cW:Int):DN JD N (c,a,b,cW,())=CB N c a b cW:=by
 conv=>rhs;rw[CB];simp(disch:=exact id (by kernel_rfl)) only[Zq9 (R:=Unit×(Kw×Ks)) N (CF JD N [1,1,1,0,1,0])]
 kernel_rfl
def Zzg:Gd:=GF JD func156 (λN d=>Zzf N d.1 d.2.1 d.2.2.1 d.2.2.2.1)
def Z01:Fn:=⟨f191,WL,λN=>Sig.of [vf_ Ja,vf_ Ja] [vt_ Jb] (λd=>FL N d.1 d.2.1),cd⟩
def Z02:Gd:=GN Z01 func191
def Zzh:Fn:=⟨f157,WL,λN=>Sig.of [vt_ (.prod Jd Ja),vt_ Ju,vf_ Jd] [vt_ (.prod Je Ja),vf_ Je,vt_ Jb,vf_ Jv] (λd=>J6 N d.1 d.2.1 d.2.2.1),CX [Yn,Z7,Ys,Fs,Yr,OH,Z02,OG,Ye]⟩
def Zzi:Gd:=GF Zzh func157
def Zra:Fn:=⟨f115,λ |1=>[.opn 20]|_=>[],λN=>Sig.of [.box Jl,vf_ Ja,vt_ Ju] [] (λd=>Fq N d.1 d.2.1 d.2.2.1),CX [Zws,Zzg,X5,Zzi]⟩
def Zrb:Gd:=GF Zra func115
def Zo5:Fn:=⟨f79,WL,λN=>Sig.of [.rp (TY_Root)] [.vj Ju] (λd=>Cd N d.1),cd⟩
def Yf:Gd:=GN Zo5 func79
def Z2v:Fn:=⟨f116,WL,λN=>Sig.of [vt_ Ju,vf_ Jd] [vf_ Je,vf_ Jv] (λd=>FO N d.1 d.2.1),CX [Z7,JX,Fs]⟩
def YL:Gd:=GF Z2v func116
def Zwu:Fn:=⟨f77,λ |1=>[.opn 14]|_=>[],λN=>Sig.of [.box Jl,vf_ Ja,vt_ Jm] [] (λd=>FD N d.1 d.2.1 d.2.2.1),CX [Yg,Zt3,Zq6,Zx6,Zrb,Z7,Yf,YL]⟩
def Zwv:Gd:=GF Zwu func77
def Zww:Fn:=⟨f159,WL,λN=>Sig.of [vt_ (TY_KidRun)] [vf_ Jv] (λd=>OD N d.1),cd⟩
def Zwx:Gd:=GN Zww func159
def Zz:Fn:=⟨f192,λ |2=>cn_ [0,1,7,8,9]|3=>cn_ [0,1,5,7,8]|4=>cn_ [0,1,5,7,8,16]|5=>cn_ [1,4]|6=>cn_ [0,1,7,8]|100002=>cn_ [0,1,7,8]|_=>[],λN=>Sig.of [vf_ Jac,.clos 159 0] [vf_ Ja] (λd=>Zs N d.1),CX [Zwx]⟩
theorem Zdm{a:List Y_KidRun}{K0 K1}(c:K0= λe=>K .ret ⟨[(1,.s (.one (.clos 159 []))),(4,vI e)],[],0⟩)(d:K1= λf g=>K (.exit 0) ⟨[(0,vV Jac a),(1,.s (.one (.clos 159 []))),(7,vI (Wh a)),(8,vI f),(9,vB g)],[],0⟩)(n b):Zh N a K0 K1 n b=LM Zz N 0 100002 n ⟨[(0,vV Jac a),(1,.s (.one (.clos 159 []))),(7,vI (Wh a)),(8,vI b)],[],0⟩ K:=by subst c d;induction n generalizing b;kernel_rfl;rw[Zh];simp only[*];kernel_rfl
theorem Zep(s1:List Y_KidRun):DN Zz N (s1,())=Zs N s1:=by
 conv=>rhs;rw[Zs];simp(disch:=exact id (by kernel_rfl)) only[Zdm (R:=Unit×Kk) N (CF Zz N [1,0,1,0])]
 kernel_rfl
def Zeq:Gd:=GF Zz func192 (λN d=>Zep N d.1)
def Zdq:Fn:=⟨f158,WL,λN=>Sig.of [vf_ Jac,.clos 159 0] [vf_ Jv] (λd=>Z9 N d.1),CX [Zeq]⟩
def Zdr:Gd:=GF Zdq func158
def Zzj:Fn:=⟨f117,WL,λN=>Sig.of [vt_ (TY_Family)] [vf_ Jv] (λd=>J7 N d.1),CX [Zdr]⟩
def Zzk:Gd:=GF Zzj func117
def JE:Fn:=⟨f118,λ |5=>cn_ [3,20,21,22,23]|6=>cn_ [3,4,5,20,21,22]|7=>cn_ [3,4,5,20,21,22]|8=>cn_ [3,4,5,20,21,22,37]|9=>cn_ [3,20,21,22]|10=>cn_ [3,20,21,22]|100005=>cn_ [3,20,21,22]|_=>[],λN=>Sig.of [vt_ (TY_Family)] [vf_ Je] (λd=>CD N d.1),CX [Fs,Z7]⟩
def Zrc(b:List Y_KidRun)(c d:Int)(a:List Int):St:=⟨[(3,vO 0),(20,vV Jac b),(21,vI c),(22,vI d)],[(0,.arr Ja a)],1⟩
def Zo6(d:List Y_KidRun)(e b:Int)(a:Bool)(c:List Int):St:=⟨[(3,vO 0),(20,vV Jac d),(21,vI e),(22,vI b),(23,vB a)],[(0,.arr Ja c)],1⟩
theorem Zrd{b:List Y_KidRun}{c:Int}{K0:Int->Bool->Kj->Option R}(h:K0= λf e g=>K (.exit 0) (Zo6 b c f e g))(n d a):qH N b c K0 n d a=LM JE N 0 100005 n (Zrc b c d a) K:=by subst h;induction n generalizing d a;kernel_rfl;rw[qH];simp only[*];kernel_rfl
theorem Zzl(f1:Y_Family):DN JE N (f1,())=CD N f1:=by
 conv=>rhs;rw[CD];simp(disch:=exact id (by kernel_rfl)) only[Zrd (R:=Unit×Kv) N (CF JE N [1,1,1,0,1,0])]
 kernel_rfl
def Zzm:Gd:=GF JE func118 (λN d=>Zzl N d.1)
def JF:Fn:=⟨f119,λ |3=>cn_ [3,8,9,10,11]|4=>cn_ [3,5,8,9,10]|5=>cn_ [3,8,9,10]|6=>cn_ [3,8,9,10]|100003=>cn_ [3,8,9,10]|_=>[],λN=>Sig.of [vt_ (TY_Family)] [vf_ Jc] (λd=>CE N d.1),cd⟩
def Zre(b:List Kb)(c d:Int)(a:List Ke):St:=⟨[(3,vO 0),(8,vV Jq b),(9,vI c),(10,vI d)],[(0,.arr Jx a)],1⟩
def Zo7(b:List Kb)(c d:Int)(e:Bool)(a:List Ke):St:=⟨[(3,vO 0),(8,vV Jq b),(9,vI c),(10,vI d),(11,vB e)],[(0,.arr Jx a)],1⟩
theorem Zrf{b:List Kb}{c:Int}{K0:Int->Bool->Kaa->Option R}(e:K0= λg h f=>K (.exit 0) (Zo7 b c g h f))(n d a):yp N b c K0 n d a=LM JF N 0 100003 n (Zre b c d a) K:=by subst e;induction n generalizing d a;kernel_rfl;rw[yp];simp only[*];kernel_rfl
theorem Zzn(f1:Y_Family):DN JF N (f1,())=CE N f1:=by
 conv=>rhs;rw[CE];simp(disch:=exact id (by kernel_rfl)) only[Zrf (R:=Unit×(Kaa×Unit)) N (CF JF N [1,1,0,1,0])]
 kernel_rfl
def Zzo:Gd:=GN JF func119 (λN d=>Zzn N d.1)
def Zwy:Fn:=⟨f78,WL,λN=>Sig.of [.box Jj] [] (λd=>FE N d.1),CX [Ft,Zzk,Zzm,Zzo,Z7]⟩
def Zwz:Gd:=GF Zwy func78
def Zo8:Fn:=⟨f81,λ |1000000=>[.unfE 1]|_=>[],λN=>Sig.of [.boxal Jl 3] [] (λd=>Fo N d.1 d.2.1),CX [Ym,Ft,Fw,Z7]⟩
def Zo9:Gd:=GF Zo8 func81
def Zt9:Fn:=⟨f164,WL,λN=>Sig.of [vt_ Jr] [vt_ Jt] (λd=>Fu N d.1),CX [Fw,Z7]⟩
def Yi:Gd:=GF Zt9 func164
def Zn2:Fn:=⟨f193,WL,λN=>Sig.of [vt_ Jr] [vf_ Ja] (λd=>Cb N d.1),cd⟩
def X6:Gd:=GN Zn2 func193
def Cv:Fn:=⟨f165,λ |4=>cn_ [1,3,38]|5=>cn_ [1,3]|6=>cn_ [1,3,54]|7=>cn_ [2]|9=>cn_ [1,56,57,58,59]|10=>cn_ [1,4,5,56,57,58]|11=>cn_ [1,56,57,58,79]|12=>cn_ [2]|13=>cn_ [1,56,57,58]|100004=>cn_ [1,3]|100009=>cn_ [1,56,57,58]|_=>[],λN=>Sig.of [vt_ Jr] [vf_ Jv] (λd=>yX N d.1),CX [FF,Z4,I4,u2,X6]⟩
theorem Zpb{a:Int×Int×Int×Int×Int×List Ke×List Int}{K0 K1}(d:K0=K .ret ⟨[(2,vB false)],[],0⟩)(e:K1= λf c=>K (.exit 0) ⟨[(1,vP 0 0),(3,vI f),(38,vB c)],[(0,.box (split Jr a))],1⟩)(n b):uE N a K0 K1 n b=LM Cv N 0 100004 n ⟨[(1,vP 0 0),(3,vI b)],[(0,.box (split Jr a))],1⟩ K:=by subst d e;induction n generalizing b;kernel_rfl;rw[uE];simp only[*];kernel_rfl
theorem Zpd{b:List Int}{az:Int×Int×Int×Int×Int×List Ke×List Int}{K0 K1}(c:K0=K .ret ⟨[(2,vB false)],[],0⟩)(d:K1= λe f=>K (.exit 2) ⟨[(1,vP 0 0),(56,vV Jd b),(57,vI (Wh az.2.2.2.2.2.2)),(58,vI e),(59,vB f)],[(0,.box (split Jr az))],1⟩)(n a):qM N b az K0 K1 n a=LM Cv N 1 100009 n ⟨[(1,vP 0 0),(56,vV Jd b),(57,vI (Wh az.2.2.2.2.2.2)),(58,vI a)],[(0,.box (split Jr az))],1⟩ K:=by subst c d;induction n generalizing a;kernel_rfl;rw[qM];simp only[*];kernel_rfl
theorem Zx7(c1:Int×Int×Int×Int×Int×List Ke×List Int):DN Cv N (c1,())=yX N c1:=by
 conv=>rhs;rw[yX];simp(disch:=exact id (by kernel_rfl)) only[Zpb (R:=Unit×Ks) N (CF Cv N [1,1,0,1,0]),Zpd (R:=Unit×Ks) N (CF Cv N [1,1,1,0,1,0])]
 kernel_rfl
def Yo:Gd:=GF Cv func165 (λN d=>Zx7 N d.1)
def Zmn:Fn:=⟨f166,WL,λN=>Sig.of [.box Jt,vf_ Ja] [] (λd=>Z0 N d.1 d.2.1),cd⟩
def X7:Gd:=GN Zmn func166
def Zrg:Fn:=⟨f122,WL,λN=>Sig.of [vt_ Jr] [vt_ Jt,vf_ Jv] (λd=>Iu N d.1),CX [Yi,Yo,X7]⟩
def Zrh:Gd:=GF Zrg func122
def Zzp:Fn:=⟨f167,WL,λN=>Sig.of [vt_ Jab] [vt_ Jaf] (λd=>pm N d.1),cd⟩
def FG:Gd:=GN Zzp func167
def Z2w:Fn:=⟨f169,WL,λN=>Sig.of [vt_ Jab,vf_ Ja,vf_ Ja] [vt_ Jaf,vf_ Jv] (λd=>FN N d.1 d.2.1 d.2.2.1),CX [FG,CK,u2,FF]⟩
def Z2x:Gd:=GF Z2w func169
def Zm4:Fn:=⟨f172,WL,λN=>Sig.of [.box Jt,vf_ Ja] [] (λd=>Fk N d.1 d.2.1),cd⟩
def X8:Gd:=GN Zm4 func172
def Zri:Fn:=⟨f170,WL,λN=>Sig.of [.box Jt,vf_ Ja] [] (λd=>qI N d.1 d.2.1),CX [X6,X8]⟩
def Zrj:Gd:=GF Zri func170
def Z2y:Fn:=⟨f171,WL,λN=>Sig.of [vt_ Jab] [vt_ Jaf,vf_ Ja] (λd=>KU N d.1),CX [FG,CK]⟩
def Z2z:Gd:=GF Z2y func171
def Z2b:Fn:=⟨f173,WL,λN=>Sig.of [vt_ Jab,vf_ Ja,vf_ Ja,vf_ Ja] [vt_ Jaf,vf_ Jv] (λd=>KP N d.1 d.2.1 d.2.2.1 d.2.2.2.1),CX [FG,CK,u2,FF,o9]⟩
def Z2c:Gd:=GF Z2b func173
def Z03:Fn:=⟨f174,WL,λN=>Sig.of [vt_ Jab,vf_ Ja,vf_ Ja,vf_ Ja] [vt_ Jaf,vf_ Jv] (λd=>FM N d.1 d.2.1 d.2.2.1 d.2.2.2.1),CX [FG,CK,u2,FF,Z4]⟩
def Z04:Gd:=GF Z03 func174
def Zua:Fn:=⟨f123,WL,λN=>Sig.of [vt_ Jab,vt_ Jr] [vt_ Jaf,vt_ Jt] (λd=>IS N d.1 d.2.1),CX [FG,Yi,CK,Yo,Z2x,Zrj,X7,Z2z,X8,Z2c,Z04]⟩
def Zub:Gd:=GF Zua func123
def Zpe:Fn:=⟨f82,λ |0=>[.opn 13]|_=>[],λN=>Sig.of [.box Jl,vf_ Ja] [] (λd=>Fp N d.1 d.2.1),CX [Zrh,Ft,Zub,Fw]⟩
def Zpf:Gd:=GF Zpe func82
def Zuc:Fn:=⟨f127,WL,λN=>Sig.of [vt_ Jb,.box Ja] [vf_ Jv] (λd=>Cr N d.1 d.2.1),cd⟩
def Yj:Gd:=GN Zuc func127
def Z3:Fn:=⟨f177,λ |2=>cn_ [0,1,7,8,9]|3=>cn_ [0,1,5,7,8]|4=>cn_ [0,1,5,7,8,16]|5=>cn_ [1,4]|6=>cn_ [0,1,7,8]|100002=>cn_ [0,1,7,8]|_=>[],λN=>Sig.of [vf_ Jq,.clos 127 1,.box Ja] [vf_ Ja] (λd=>Zv N d.1 d.2.1),CX [Yj]⟩
def Zeg(a:List Kb)(c b:Int):St:=⟨[(0,vV Jq a),(1,.s (.one (.clos 127 [0]))),(7,vI (Wh a)),(8,vI c)],[(0,.box [.val Ja b])],1⟩
def Zdy(c:List Kb)(b a:Int):St:=⟨[(1,.s (.one (.clos 127 [0]))),(4,vI b)],[(0,.box [.val Ja a])],1⟩
def Zdz(a:List Kb)(b:Int)(d:Bool)(c:Int):St:=⟨[(0,vV Jq a),(1,.s (.one (.clos 127 [0]))),(7,vI (Wh a)),(8,vI b),(9,vB d)],[(0,.box [.val Ja c])],1⟩
theorem Zeh{a:List Kb}{K0 K1}(h:K0= λj f=>K .ret (Zdy a j f))(i:K1= λd g e=>K (.exit 0) (Zdz a d g e))(n c b):Zl N a K0 K1 n c b=LM Z3 N 0 100002 n (Zeg a c b) K:=by subst h i;induction n generalizing c b;kernel_rfl;rw[Zl];simp only[*];kernel_rfl
theorem Ze5(a:List Kb)(eJ:Int):DN Z3 N (a,eJ,())=Zv N a eJ:=by
 conv=>rhs;rw[Zv];simp(disch:=exact id (by kernel_rfl)) only[Zeh (R:=Kk×Kk) N (CF Z3 N [1,0,1,0])]
 kernel_rfl
def Ze6:Gd:=GF Z3 func177 (λN d=>Ze5 N d.1 d.2.1)
def Z1:Fn:=⟨f126,λ |5=>cn_ [0,1,5,6,19]|6=>cn_ [0,1,5,6]|7=>cn_ [0,1,5,6,7]|8=>cn_ [0,1,5,6,7,29]|9=>cn_ [0,1,5,6]|10=>cn_ [0,1,5,6]|11=>[.view 38]|100005=>cn_ [0,1,5,6]|_=>[],λN=>Sig.of [vf_ (.own Jb),.clos 127 1,.box Ja] [vf_ (.own Jb)] (λd=>Zp N d.1 d.2.1),CX [Ze6,Yj]⟩
def Zd0(b c:Int)(d:List Kb)(a:Int):St:=⟨[(0,vO 0),(1,.s (.one (.clos 127 [1]))),(5,vI b),(6,vI c)],[(0,.arr Jb d),(1,.box [.val Ja a])],2⟩
def Zds(d e:Int)(a:Bool)(c:List Kb)(b:Int):St:=⟨[(0,vO 0),(1,.s (.one (.clos 127 [1]))),(5,vI d),(6,vI e),(19,vB a)],[(0,.arr Jb c),(1,.box [.val Ja b])],2⟩
theorem Zd1{K0:Int->Int->Bool->Kw->Int->Option R}(h:K0= λi j e g f=>K (.exit 0) (Zds i j e g f))(n b c d a):Ze N K0 n b c d a=LM Z1 N 0 100005 n (Zd0 b c d a) K:=by subst h;induction n generalizing b c d a;kernel_rfl;rw[Ze];simp only[*];kernel_rfl
theorem Zev(a:List Kb)(eJ:Int):DN Z1 N (a,eJ,())=Zp N a eJ:=by
 conv=>rhs;rw[Zp];simp(disch:=exact id (by kernel_rfl)) only[Zd1 (R:=Kk×Kah) N (CF Z1 N [1,1,1,0,1,0])]
 kernel_rfl
def Zew:Gd:=GF Z1 func126 (λN d=>Zev N d.1 d.2.1)
def Zx8:Fn:=⟨f83,WL,λN=>Sig.of [vf_ Jq,vf_ Ja] [vf_ (.own Jb)] (λd=>JN N d.1 d.2.1),CX [Ya,JA,Zew]⟩
def Zx9:Gd:=GF Zx8 func83
def Zud:Fn:=⟨f41,λ |1=>[.opn 12]|_=>[],λN=>Sig.of [.box Jl,vf_ Ja,vt_ Jm] [] (λd=>Fv N d.1 d.2.1 d.2.2.1),CX [Z4,Ft,Ztx,Zwv,Zwz,Yf,Yh,Zo9,Zpf,Zx9,Yk]⟩
def Zue:Gd:=GF Zud func41
def Zm5:Fn:=⟨f134,WL,λN=>Sig.of [vt_ Jb,.box Ja] [vf_ Jv] (λd=>Ov N d.1 d.2.1),cd⟩
def Zm6:Gd:=GN Zm5 func134
def Zx:Fn:=⟨f133,λ |2=>cn_ [0,1,7,8,9]|3=>cn_ [0,1,5,7,8]|4=>cn_ [0,1,5,7,8,16]|5=>cn_ [1,4]|6=>cn_ [0,1,7,8]|100002=>cn_ [0,1,7,8]|_=>[],λN=>Sig.of [vf_ Jq,.clos 134 1,.box Ja] [vf_ Ja] (λd=>Zo N d.1 d.2.1),CX [Zm6]⟩
def Zcx(a:List Kb)(c b:Int):St:=⟨[(0,vV Jq a),(1,.s (.one (.clos 134 [0]))),(7,vI (Wh a)),(8,vI c)],[(0,.box [.val Ja b])],1⟩
def Zcq(c:List Kb)(b a:Int):St:=⟨[(1,.s (.one (.clos 134 [0]))),(4,vI b)],[(0,.box [.val Ja a])],1⟩
def Zcr(a:List Kb)(b:Int)(d:Bool)(c:Int):St:=⟨[(0,vV Jq a),(1,.s (.one (.clos 134 [0]))),(7,vI (Wh a)),(8,vI b),(9,vB d)],[(0,.box [.val Ja c])],1⟩
theorem Zcy{a:List Kb}{K0 K1}(h:K0= λj f=>K .ret (Zcq a j f))(i:K1= λd g e=>K (.exit 0) (Zcr a d g e))(n c b):Zg N a K0 K1 n c b=LM Zx N 0 100002 n (Zcx a c b) K:=by subst h i;induction n generalizing c b;kernel_rfl;rw[Zg];simp only[*];kernel_rfl
theorem Zdt(a:List Kb)(eJ:Int):DN Zx N (a,eJ,())=Zo N a eJ:=by
 conv=>rhs;rw[Zo];simp(disch:=exact id (by kernel_rfl)) only[Zcy (R:=Kk×Kk) N (CF Zx N [1,0,1,0])]
 kernel_rfl
def Zdu:Gd:=GF Zx func133 (λN d=>Zdt N d.1 d.2.1)
def Zpg:Fn:=⟨f87,WL,λN=>Sig.of [.rp (TY_Family),vf_ Ja] [vf_ Ja] (λd=>xZ N d.1 d.2.1),CX [Zdu]⟩
def Ou:Gd:=GF Zpg func87
def Zm7:Fn:=⟨f88,WL,λN=>Sig.of [.box Jp,vf_ Ja] [] (λd=>uA N d.1 d.2.1),CX [Z7]⟩
def X9:Gd:=GF Zm7 func88
def Zrk:Fn:=⟨f128,λ |1=>[.opn 18]|_=>[],λN=>Sig.of [.box Jp,vf_ Ja,vt_ Ju,vt_ Jab] [] (λd=>Iq N d.1 d.2.1 d.2.2.1 d.2.2.2.1),CX [OB,Ou,X9,Yd,Yl]⟩
def Zrl:Gd:=GF Zrk func128
def Zph:Fn:=⟨f129,λ |5=>[.opn 28]|_=>[],λN=>Sig.of [.box Jk,vf_ Jh] [] (λd=>Iw N d.1 d.2.1),CX [Z7,Fw,YJ]⟩
def Zpi:Gd:=GF Zph func129
def Zuf:Fn:=⟨f85,λ |1=>[.opn 16]|18=>[.nest 128 Jag]|_=>[],λN=>Sig.of [.box Jp,vf_ Ja,vf_ Jh,vt_ Jab] [] (λd=>IP N d.1 d.2.1 d.2.2.1 d.2.2.2.1),CX [Zrl,Zpi,Z7,YL]⟩
def Zug:Gd:=GF Zuf func85
def X3(N:Nat):Sig:=Sig.of [.mut Jb,.clos 132 0] [] (λd=>Oo N d.1)
theorem Zd2:N0 Tryz.prog 132 Jb E0 cfE:=by
  intro G x y l m w j k h i;obtain⟨_,_,rfl,a,_,_,rfl,b,d⟩:=h;obtain⟨_,_,rfl,e,_,_,rfl,f,g⟩:=i;simp only[Enc]at a b d e f g;subst a b d e f g;simp only[fG,mx]
  go_enter Tryz.func132,Tryz.ntmps132
  go_wp2
  rw[M4 (Bw j) (Bw k) (c:=cfE x y) rfl]
  go_wp2
  go_ret
  exact⟨rfl,MU _ _ _⟩
theorem Zd3(N:Nat):GW 131 (X3 N):=⟨DR Tryz.func131 (show qq Tryz.f131=true by kernel_rfl),Qx sortFE (e:=.prod Ja Jx) rfl (by decide) Tryz.isAgg141 Tryz.sizeOf141 (enters_of Tryz.func132 (by kernel_rfl) rfl) YS Zd2 N⟩
def Zd4:Gd:=⟨131,X3,Zd3⟩
def B9:Fn:=⟨f86,λ |0=>[.opn 16]|3=>cn_ [0,1,4,28,29,30,31]|4=>cn_ [0,1,4,6,28,29,30]|5=>cn_ [0,1,4,6,7,28,29,30]|6=>cn_ [0,1,4,7,8,28,29,30]|7=>cn_ [0,1,4,7,8,28,29,30,48]|8=>cn_ [0,1,4,28,29,30]|9=>cn_ [0,1,4,28,29,30]|10=>cn_ [0,1,4,28,29,30]|13=>cn_ [0,1,4,75,76,77,78]|14=>cn_ [0,1,4,10,75,76,77]|15=>cn_ [0,1,4,10,75,76,77,83]|16=>cn_ [0,1,4,75,76,77]|17=>cn_ [0,1,4,75,76,77]|100003=>cn_ [0,1,4,28,29,30]|100013=>cn_ [0,1,4,75,76,77]|_=>[],λN=>Sig.of [.box Jp,vf_ Ja] [] (λd=>Cc N d.1 d.2.1),CX [KR,Ou,Zd4]⟩
def Zmb(y z A b c d:Int)(f:Bool)(g e a n i az:Int)(w:Bool)(o r l x:Int)(bz:List Ke)(cL:List Int)(h:List Ke)(t:List Kb)(p:List Int)(k:List Ke)(q:List Y_KidRun)(m:Nat)(j:List Int)(u:List Kb)(v:List Ke)(s:List Km):St:=⟨[(0,vP 0 0),(1,vI y),(4,vP 1 0),(28,vO 2),(29,vI z),(30,vI A)],[(0,.box [.val Ja b,.val Ja c,.val Ja d,.val Jv f,.own 3,.own 4,.own 5,.own 6,.own 7,.own 8]),(1,.box [.val Ja g,.val Ja e,.val Ja a,.val Ja n,.val Ja i,.val Ja az,.own 9,.own 10,.own 11,.own 12,.val Jv w,.val Ja o,.val Ja r,.val Ja l,.val Ja x]),(2,.arr Jx bz),(3,.arr Ja cL),(4,.arr Jx h),(5,.arr Jb t),(6,.arr Ja p),(7,.arr Jx k),(8,.hole Jk q m 1),(9,.arr Ja j),(10,.arr Jb u),(11,.arr Jx v),(12,.arr Jag s)],13⟩
def Zl4(y A b c d:Int)(f:Bool)(g e a n i az:Int)(v:Bool)(o r l w:Int)(bz:List Ke)(cL:List Int)(h:List Ke)(p:List Int)(k:List Ke)(q:List Y_KidRun)(m:Nat)(j:List Int)(t:List Kb)(u:List Ke)(s:List Km)(B:Int)(z:Bool)(x:List Kb):St:=⟨[(0,vP 0 0),(1,vI y),(4,vP 1 0),(28,vO 2),(29,vI A),(30,vI B),(31,vB z)],[(0,.box [.val Ja b,.val Ja c,.val Ja d,.val Jv f,.own 3,.own 4,.own 5,.own 6,.own 7,.own 8]),(1,.box [.val Ja g,.val Ja e,.val Ja a,.val Ja n,.val Ja i,.val Ja az,.own 9,.own 10,.own 11,.own 12,.val Jv v,.val Ja o,.val Ja r,.val Ja l,.val Ja w]),(2,.arr Jx bz),(3,.arr Ja cL),(4,.arr Jx h),(5,.arr Jb x),(6,.arr Ja p),(7,.arr Jx k),(8,.hole Jk q m 1),(9,.arr Ja j),(10,.arr Jb t),(11,.arr Jx u),(12,.arr Jag s)],13⟩
theorem Zmc{z A b c d:Int}{f:Bool}{g e a o i az:Int}{x:Bool}{p s l y:Int}{bz:List Ke}{cL:List Int}{h:List Ke}{q:List Int}{k:List Ke}{r:List Y_KidRun}{m:Nat}{j:List Int}{v:List Kb}{w:List Ke}{t:List Km}{K0:Int->Bool->Kw->Option R}(C:K0= λF E D=>K (.exit 0) (Zl4 z A b c d f g e a o i az x p s l y bz cL h q k r m j v w t F E D))(n B u):qK N z A b c d f g e a o i az x p s l y bz cL h q k r m j v w t K0 n B u=LM B9 N 0 100003 n (Zmb z A B b c d f g e a o i az x p s l y bz cL h u q k r m j v w t) K:=by subst C;induction n generalizing B u;kernel_rfl;rw[qK];simp only[*];kernel_rfl
def Zmd(z h a g A i:Int)(j:Bool)(k l m n o p:Int)(q:Bool)(r s t u:Int)(eE:List Kb)(e:List Int)(v:List Ke)(w:List Kb)(x:List Int)(B:List Ke)(f:List Y_KidRun)(y:Nat)(b:List Int)(c:List Ke)(d:List Km):St:=⟨[(0,vP 0 0),(1,vI z),(4,vP 1 0),(75,vO 2),(76,vI h),(77,vI a)],[(0,.box [.val Ja g,.val Ja A,.val Ja i,.val Jv j,.own 3,.own 4,.own 5,.own 6,.own 7,.own 8]),(1,.box [.val Ja k,.val Ja l,.val Ja m,.val Ja n,.val Ja o,.val Ja p,.own 9,.own 2,.own 10,.own 11,.val Jv q,.val Ja r,.val Ja s,.val Ja t,.val Ja u]),(2,.arr Jb eE),(3,.arr Ja e),(4,.arr Jx v),(5,.arr Jb w),(6,.arr Ja x),(7,.arr Jx B),(8,.hole Jk f y 1),(9,.arr Ja b),(10,.arr Jx c),(11,.arr Jag d)],12⟩
def Zl5(y g f z h:Int)(i:Bool)(j k l m n o:Int)(p:Bool)(q r s t:Int)(eE:List Kb)(d:List Int)(u:List Ke)(v:List Kb)(w:List Int)(e:List Y_KidRun)(x:Nat)(a:List Int)(b:List Ke)(c:List Km)(A:Int)(B:Bool)(C:List Ke):St:=⟨[(0,vP 0 0),(1,vI y),(4,vP 1 0),(75,vO 2),(76,vI g),(77,vI A),(78,vB B)],[(0,.box [.val Ja f,.val Ja z,.val Ja h,.val Jv i,.own 3,.own 4,.own 5,.own 6,.own 7,.own 8]),(1,.box [.val Ja j,.val Ja k,.val Ja l,.val Ja m,.val Ja n,.val Ja o,.own 9,.own 2,.own 10,.own 11,.val Jv p,.val Ja q,.val Ja r,.val Ja s,.val Ja t]),(2,.arr Jb eE),(3,.arr Ja d),(4,.arr Jx u),(5,.arr Jb v),(6,.arr Ja w),(7,.arr Jx C),(8,.hole Jk e x 1),(9,.arr Ja a),(10,.arr Jx b),(11,.arr Jag c)],12⟩
theorem Zme{A h g B i:Int}{j:Bool}{k l m o p q:Int}{r:Bool}{s t u v:Int}{eE:List Kb}{e:List Int}{w:List Ke}{x:List Kb}{y:List Int}{f:List Y_KidRun}{z:Nat}{b:List Int}{c:List Ke}{d:List Km}{K0:Int->Bool->Kaa->Option R}(D:K0= λE F G=>K (.exit 2) (Zl5 A h g B i j k l m o p q r s t u v eE e w x y f z b c d E F G))(n a C):uz N A h g B i j k l m o p q r s t u v eE e w x y f z b c d K0 n a C=LM B9 N 1 100013 n (Zmd A h a g B i j k l m o p q r s t u v eE e w x y C f z b c d) K:=by subst D;induction n generalizing a C;kernel_rfl;rw[uz];simp only[*];kernel_rfl
theorem Zpj(f1:Y_Family)(k2:Int):DN B9 N (f1,k2,())=Cc N f1 k2:=by
 conv=>rhs;rw[Cc];simp(disch:=exact id (by kernel_rfl)) only[Zmc (R:=(Y_Family×Unit)×Unit) N (CF B9 N [1,1,0,1,0]),Zme (R:=(Y_Family×Unit)×Unit) N (CF B9 N [1,1,1,1,0,1,0])]
 kernel_rfl
def Zpk:Gd:=GF B9 func86 (λN d=>Zpj N d.1 d.2.1)
def Zrm:Fn:=⟨f42,λ |2=>[.opn 20]|_=>[],λN=>Sig.of [.box Jp,vf_ Ja,vf_ Jh,vt_ Jab] [] (λd=>Ir N d.1 d.2.1 d.2.2.1 d.2.2.2.1),CX [Zug,Zpk,Ou,X9]⟩
def Zrn:Gd:=GF Zrm func42
def Zw0:Fn:=⟨f18,λ |3=>[.unfE 6]|_=>[],λN=>Sig.of [.box Jl,vt_ Jz,vt_ Jb] [] (λd=>IE N d.1 d.2.1 d.2.2.1),CX [Z4,Zue,Zrn]⟩
def Zw1:Gd:=GF Zw0 func18
def JG:Fn:=⟨f7,λ |3=>[.nest 21 Jj]|6=>cn_ [1,2,3,32,33,34,35]|7=>cn_ [1,2,3,5,32,33,34]|8=>cn_ [1,2,3,32,33,34]|9=>cn_ [1,2,3,32,33,34]|100006=>[.adoptC 3 6 Jb,.adoptC 3 8 Jad,.canon [1,2,3,32,33,34]]|_=>[],λN=>Sig.of [vt_ Jz] [vt_ (TY_World)] (λd=>nN N d.1),CX [Zxu,Zwd,Z0u,Zw1]⟩
def Zro(h:List Kb)(i:Int)(a:Kh×List Kq×List Kb)(b g f az:Int)(e:List Kb)(d:List Int)(c:List Kb)(aP:List Y_Root)(aA:List Kr):St:=⟨[(1,vP 0 0),(2,vP 1 0),(3,vP 2 0),(32,vV Jq h),(33,vI (Wh a.2.2)),(34,vI i)],[(0,.box [.val Jd a.1.1,.val Jd a.1.2.1,.val Ja a.1.2.2,.val Jah a.2.1,.val Jq a.2.2]),(1,.box [.val Ja (0:Int),.val Ja (0:Int),.val Ja (0:Int),.nils,.nils,.val Ja (0:Int),.nils,.nils,.nils]),(2,.box [.val Ja b,.val Ja g,.val Ja f,.own 3,.own 4,.val Ja az,.own 5,.own 6,.own 7]),(3,.arr Jb e),(4,.arr Ja d),(5,.arr Jb c),(6,.arr Jj aP),(7,.arr Jad aA)],8⟩
def Zpl(l:List Kb)(a:Kh×List Kq×List Kb)(k:Int)(b:Bool)(h g i m:Int)(c:List Kb)(e:List Int)(f:List Kb)(d:List Y_Root)(j:List Kr):St:=⟨[(1,vP 0 0),(2,vP 1 0),(3,vP 2 0),(32,vV Jq l),(33,vI (Wh a.2.2)),(34,vI k),(35,vB b)],[(0,.box [.val Jd a.1.1,.val Jd a.1.2.1,.val Ja a.1.2.2,.val Jah a.2.1,.val Jq a.2.2]),(1,.box [.val Ja (0:Int),.val Ja (0:Int),.val Ja (0:Int),.nils,.nils,.val Ja (0:Int),.nils,.nils,.nils]),(2,.box [.val Ja h,.val Ja g,.val Ja i,.own 3,.own 4,.val Ja m,.own 5,.own 6,.own 7]),(3,.arr Jb c),(4,.arr Ja e),(5,.arr Jb f),(6,.arr Jj d),(7,.arr Jad j)],8⟩
theorem Zrp{i:List Kb}{b:Kh×List Kq×List Kb}{K0:Int->Bool->Int->Int->Int->Int->Kw->Kj->Kw->(List Y_Root)->(List Kr)->Option R}(o:K0= λu h r q s v k m p l t=>K (.exit 0) (Zpl i b u h r q s v k m p l t))(n j a g f az e d c aP aA):mD N i b K0 n j a g f az e d c aP aA=LM JG N 0 100006 n (Zro i j b a g f az e d c aP aA) K:=by subst o;induction n generalizing j a g f az e d c aP aA;kernel_rfl;rw[mD];simp only[*];kernel_rfl
theorem Zzq(s1:Kh×List Kq×List Kb):DN JG N (s1,())=nN N s1:=by
 conv=>rhs;rw[nN];simp(disch:=exact id (by kernel_rfl)) only[Zrp (R:=Unit×(Y_World×Unit)) N (CF JG N [1,1,1,1,0,1,0])]
 kernel_rfl
def Zzr:Gd:=GF JG func7 (λN d=>Zzq N d.1)
def Z27:Fn:=⟨f8,WL,λN=>Sig.of [vf_ Jw,vf_ Ja] [vf_ Ja] (λd=>KW N d.1 d.2.1),cd⟩
def Z28:Gd:=GN Z27 func8
def I6:Fn:=⟨f44,λ |4=>cn_ [0,3,10]|5=>cn_ [0,3]|6=>cn_ [0,3,28]|7=>cn_ [2]|100004=>cn_ [0,3]|_=>[],λN=>Sig.of [vf_ Jf] [vf_ Jv] (λd=>nS N d.1),CX [OK,CI]⟩
theorem Zui{b:List Ke}{K0 K1}(c:K0=K .ret ⟨[(2,vB false)],[],0⟩)(d:K1= λe f=>K (.exit 0) ⟨[(0,vV Jf b),(3,vI e),(10,vB f)],[],0⟩)(n a):yc N b K0 K1 n a=LM I6 N 0 100004 n ⟨[(0,vV Jf b),(3,vI a)],[],0⟩ K:=by subst c d;induction n generalizing a;kernel_rfl;rw[yc];simp only[*];kernel_rfl
theorem Z05(l1:List Ke):DN I6 N (l1,())=nS N l1:=by
 conv=>rhs;rw[nS];simp(disch:=exact id (by kernel_rfl)) only[Zui (R:=Unit×Ks) N (CF I6 N [1,1,0,1,0])]
 kernel_rfl
def FI:Gd:=GF I6 func44 (λN d=>Z05 N d.1)
def CR:Fn:=⟨f43,λ |4=>cn_ [0,3,11]|5=>cn_ [0,3]|6=>cn_ [0,3,38]|7=>cn_ [2]|8=>cn_ [0,3,4]|9=>cn_ [0,3,4,41]|10=>cn_ [0,3,4]|11=>cn_ [0,3,4,54]|12=>cn_ [2]|100004=>cn_ [0,3]|100009=>cn_ [0,3,4]|_=>[],λN=>Sig.of [vf_ Js] [vf_ Jv] (λd=>vk N d.1),CX [pu,FI]⟩
theorem Zuk{d:List Kr}{a:Int}{K0 K1}(f:K0=K .ret ⟨[(2,vB false)],[],0⟩)(g:K1= λb e=>K (.exit 2) ⟨[(0,vV Js d),(3,vI a),(4,vI b),(41,vB e)],[],0⟩)(n c):yi N d a K0 K1 n c=LM CR N 1 100009 n ⟨[(0,vV Js d),(3,vI a),(4,vI c)],[],0⟩ K:=by subst f g;induction n generalizing c;kernel_rfl;rw[yi];simp only[*];kernel_rfl
theorem Zum{b:List Kr}{K0 K1}(e:K0=K .ret ⟨[(2,vB false)],[],0⟩)(f:K1= λd c=>K (.exit 0) ⟨[(0,vV Js b),(3,vI d),(11,vB c)],[],0⟩)(n a):yj N b K0 K1 n a=LM CR N 0 100004 n ⟨[(0,vV Js b),(3,vI a)],[],0⟩ K:=by subst e f;induction n generalizing a with|zero=>kernel_rfl|succ n ih=>rw[yj];simp(disch:=exact id (by kernel_rfl)) only[ih,Zuk N (CL CR N 0 100004 [1,0,0,1,1,0] n K)];kernel_rfl
end
end Go.Sx
