/- Each Go function does what its Lean function says. -/
import Derived.Test.YthfplagpoopmcaaGreatT
import Derived.Test.YthfplagpoopmcaaGreatProg
import Derived.Test.YthfplagpoopmcaaGreatLay
open Bool renaming and_eq_true→Xg
open List renaming cons_append→Xaq,nil_append→Xbn,getD→Xc
open Int renaming toNat→Xa
namespace Go.Sx
noncomputable section
open Go.Proofs
open Tryz
abbrev Ja:Ty:=.int .i64
abbrev Jb:Ty:=.prod (.own Ja) (.prod (.own (.prod Ja Ja)) (.prod (.own (.prod Ja (.prod Ja Ja))) (.prod (.own Ja) (.prod (.own (.prod Ja Ja)) (.own (.prod Ja (.prod Ja (.prod Ja (.prod Ja (.prod Ja (.prod Ja (.prod (.own Ja) (.prod (.own (.prod Ja (.prod Ja Ja))) (.prod (.own (.prod Ja Ja)) (.prod (.own (.prod Ja (.prod Ja (.own Ja)))) (.prod (.bool) (.prod Ja (.prod Ja (.prod Ja Ja)))))))))))))))))))
abbrev Jc:Ty:=.slice (.prod Ja (.prod Ja (.prod Ja Ja)))
abbrev Jd:Ty:=.prod Ja (.prod Ja (.prod Ja (.prod Ja (.prod Ja (.prod (.own (.prod Ja Ja)) (.own Ja))))))
abbrev Je:Ty:=.slice (.prod Ja (.prod Ja Ja))
abbrev Jf:Ty:=.own (.prod Ja (.prod Ja (.prod Ja (.prod Ja (.own Ja)))))
abbrev Jg:Ty:=.prod (.own (.prod Ja (.prod Ja (.prod Ja Ja)))) (.own (.own (.prod Ja (.prod Ja (.prod Ja Ja)))))
abbrev Jh:Ty:=.prod Ja (.prod Ja (.prod Ja (.prod Ja (.prod Ja (.prod Ja (.prod Ja (.prod Ja (.prod Ja (.prod Ja (.prod (.bool) (.prod (.own Ja) (.prod (.own (.prod Ja Ja)) (.prod (.own (.prod Ja Ja)) (.prod Jf (.prod (.own (.prod Ja (.prod Ja Ja))) (.prod (.own Ja) (.prod (.bool) (.prod (.prod Ja (.prod Ja (.prod Ja Ja))) (.prod Jd (.prod Ja (.prod Ja (.prod Ja (.prod (.bool) Jb)))))))))))))))))))))))
abbrev Ji:Ty:=.prod Ja (.prod Ja (.prod Ja (.prod Ja (.prod Ja (.prod Ja (.prod (.own Ja) (.prod (.own (.prod Ja (.prod Ja Ja))) (.prod (.own (.prod Ja Ja)) (.prod (.own (.prod Ja (.prod Ja (.own Ja)))) (.prod (.bool) (.prod Ja (.prod Ja (.prod Ja Ja)))))))))))))
abbrev Jj:Ty:=.prod Ja (.prod Ja (.own (.prod Ja Ja)))
abbrev Jk:Ty:=.prod Ja (.own (.prod Ja (.prod Ja Ja)))
abbrev Jl:Ty:=.prod Ja (.prod Ja Ja)
abbrev Jm:Ty:=.prod Ja (.prod Ja (.prod Ja (.prod Ja (.prod Ja (.prod (.slice (.prod Ja Ja)) (.slice Ja))))))
abbrev Jn:Ty:=.slice (.prod Jc (.slice Jc))
abbrev Jo:Ty:=.prod (.own (.prod Ja Jh)) (.own Jj)
abbrev Jp:Ty:=.prod (.own Ja) Ja
abbrev Jq:Ty:=.bool
abbrev Jr:Ty:=.prod (.slice Ja) (.prod (.slice Ja) Ja)
abbrev Js:Ty:=.str
abbrev Jt:Ty:=.prod Ja (.prod Ja (.own Ja))
abbrev Ju:Ty:=.slice (TY_Root)
abbrev Jv:Ty:=.prod Ja (.prod Ja (.prod Jk (.prod Jp (.prod (.own Jl) Jo))))
abbrev Jw:Ty:=.prod Ja Ja
abbrev Jx:Ty:=.slice Ja
abbrev Jy:Ty:=.prod (.prod (.own Ja) Jp) (.prod (.own Jg) (.own Jl))
abbrev Jz:Ty:=.prod Ja Jl
abbrev Jaa:Ty:=.prod Ja (.prod Ja (.prod Ja (.prod Jq Jb)))
abbrev Jab:Ty:=.prod Ja Jh
abbrev Jac:Ty:=.prod Ja Je
abbrev Jad:Ty:=.slice (TY_KidRun)
abbrev Jae:Ty:=.prod Jc (.slice Jc)
abbrev Jaf:Ty:=.int .u8
abbrev Jag:Ty:=.prod Jr (.prod Jn Je)
abbrev Jah:Ty:=.slice Jw
abbrev Jai:Ty:=.own Ja
set_option linter.unusedVariables false
set_option linter.unusedSimpArgs false
def tab:Tab:=[(3,⟨.int .i64,false,.basic⟩),(4,⟨.bool,false,.basic⟩),(5,⟨.int .u8,false,.basic⟩),(9,⟨.str,false,.basic⟩),(22,⟨.slice Jaf,false,.slice 5⟩),(28,⟨.slice Js,false,.slice 9⟩),(31,⟨.slice Ja,false,.slice 3⟩),(33,⟨.prod Jx (.prod Jx Ja),true,.struct [(0,31),(1,31),(2,3)]⟩),(34,⟨.slice Jae,false,.slice 53⟩),(35,⟨.slice Jl,false,.slice 78⟩),(37,⟨.prod Jr (.prod Jn Je),true,.struct [(0,33),(3,34),(4,35)]⟩),(39,⟨.prod Ja Jl,true,.struct [(0,3),(1,3),(2,3),(3,3)]⟩),(48,⟨.int .i64,true,.arr 3 3⟩),(50,⟨.slice Jz,false,.slice 39⟩),(51,⟨.slice Jc,false,.slice 55⟩),(53,⟨.prod Jc (.slice Jc),true,.struct [(0,50),(1,51)]⟩),(55,⟨.slice Jz,true,.struct [(0,50)]⟩),(60,⟨.prod Ja (.prod Ja (.prod Ja Jz)),true,.struct [(0,3),(1,3),(2,3),(3,3),(4,3),(5,3),(6,3)]⟩),(62,⟨.slice Jl,false,.slice 94⟩),(64,⟨.prod Ja Je,true,.struct [(0,3),(1,62)]⟩),(66,⟨.prod Jx Ja,true,.struct [(0,31),(1,3)]⟩),(67,⟨.slice Jl,false,.slice 173⟩),(68,⟨.slice (TY_Root),false,.slice 91⟩),(69,⟨.slice (.prod Ja (.prod Ja Jah)),false,.slice 168⟩),(71,⟨TY_World,true,.struct [(0,3),(1,3),(2,64),(4,66),(6,67),(7,68),(8,69)]⟩),(78,⟨.prod Ja Jw,true,.struct [(0,3),(1,3),(2,3)]⟩),(79,⟨.slice Jw,false,.slice 152⟩),(80,⟨.slice (.prod Ja (.prod Ja (.prod Ja (.prod Ja Jx)))),false,.slice 131⟩),(81,⟨.slice Jl,false,.slice 161⟩),(83,⟨.prod Ja Jl,true,.struct [(0,3),(1,3),(2,3),(3,3)]⟩),(85,⟨.prod Ja (.prod Ja (.prod Ja (.prod Ja (.prod Ja (.prod Jah Jx))))),true,.struct [(0,3),(1,3),(2,3),(3,3),(4,3),(5,79),(6,31)]⟩),(86,⟨.slice Jl,false,.slice 141⟩),(87,⟨.slice (TY_KidRun),false,.slice 139⟩),(89,⟨TY_Family,true,.struct [(0,3),(1,3),(2,3),(3,4),(4,31),(5,79),(6,86),(7,31),(8,79),(9,87)]⟩),(91,⟨TY_Root,true,.struct [(0,3),(1,3),(2,3),(3,3),(4,3),(5,3),(6,3),(7,3),(8,3),(9,3),(10,3),(11,4),(12,31),(13,79),(14,79),(15,80),(16,81),(17,31),(18,4),(19,83),(23,85),(30,89)]⟩),(94,⟨.prod Ja Jw,true,.struct [(0,3),(1,3),(2,3)]⟩),(124,⟨.bool,true,.arr 8 4⟩),(131,⟨.prod Ja (.prod Ja (.prod Ja (.prod Ja Jx))),true,.struct [(0,3),(1,3),(2,3),(3,3),(4,31)]⟩),(137,⟨.slice (.prod Ja (.prod Ja Jx)),false,.slice 178⟩),(139,⟨TY_KidRun,true,.struct [(0,3),(1,3),(2,3),(3,3),(4,3),(5,3),(6,31),(7,86),(8,79),(9,137),(10,4),(11,83)]⟩),(141,⟨.prod Ja Jw,true,.struct [(0,3),(1,3),(2,3)]⟩),(152,⟨.prod Ja Ja,true,.struct [(0,3),(1,3)]⟩),(161,⟨.prod Ja Jw,true,.struct [(0,3),(1,3),(2,3)]⟩),(168,⟨.prod Ja (.prod Ja Jah),true,.struct [(0,3),(1,3),(2,79)]⟩),(173,⟨.prod Ja Jw,true,.struct [(0,3),(1,3),(2,3)]⟩),(178,⟨.prod Ja (.prod Ja Jx),true,.struct [(0,3),(1,3),(2,31)]⟩)]
theorem mixedOk:Tryz.prog.follows .mixedOrders=true:=by kernel_rfl
theorem tabOk:W5 Tryz.prog tab:=WsO (show WjX Tryz.prog tab tab=true by kernel_rfl)
def LM(x:Fn)(N:Nat){R:Type}(i k n:Nat)(st:St)(K:Ex->St->Option R):Option R:=lpM tab (x.c N) x.a N x.F i k n st K
def CF(x:Fn)(N:Nat)(p:List Nat):Ex->St->Option (Qs (x.s N)):=cxF tab (x.c N) x.a N (x.s N) x.F p
def CL(x:Fn)(N:Nat){R:Type}(i k:Nat)(p:List Nat)(n:Nat)(K:Ex->St->Option R):Ex->St->Option R:=cxL tab (x.c N) x.a N x.F i k p n K
def DN(x:Fn)(N:Nat)(d:Wea (x.s N).ps):Option (Qs (x.s N)):=den (R:=Qs (x.s N)) tab (x.c N) x.a N (x.s N) x.F d some
def GW(k:FuncId)(s:Sig):Prop:=Wfe Tryz.prog k/\Wmk Tryz.prog k s
theorem GC{k:FuncId}{s:Sig}{Γ:Ctx}(h:GW k s)(hc:Wcy Tryz.prog Γ):Wcy Tryz.prog ((k,s)::Γ):=Wqq h.2 h.1 hc
structure Gd where
  k:FuncId
  s:Nat->Sig
  h:∀N,GW k (s N)
def CX(l:List Gd)(N:Nat):Ctx:=l.map λg=>(g.k,g.s N)
theorem CO(N:Nat):∀(l:List Gd),Wcy Tryz.prog (CX l N)
  | []=>Wlo
  |g::l=>GC (g.h N) (CO N l)
theorem GR(x:Fn){k:FuncId}(N:Nat)(hf:Tryz.prog.funcs[k]?=some x.F)(hc:Wcy Tryz.prog (x.c N))(h:∀d,DN x N d=(x.s N).run d:=by intro d;kernel_rfl)(bv:(WlL x.F&&WgT x.F (x.s N).ps)=true:=by kernel_rfl)(hi:(x.s N).inl=none:=by rfl):GW k (x.s N):=
  ⟨WcY hf (Xg .. ▸bv).1,Wte hi (WpZ mixedOk tabOk hc hf (Xg .. ▸bv).2 (λd _ e=>⟨N,(h d).trans e⟩))⟩
def GF(x:Fn){k:FuncId}(hf:Tryz.prog.funcs[k]?=some x.F)(h:∀N d,DN x N d=(x.s N).run d:=by intro N d;kernel_rfl)(hc:∀N,Wcy Tryz.prog (x.c N):=by exactλN=>CO N _)(bv:∀N,(WlL x.F&&WgT x.F (x.s N).ps)=true:=by intro N;kernel_rfl)(hi:∀N,(x.s N).inl=none:=by intro N;rfl):Gd:=
  ⟨k,x.s,λN=>GR x N hf (hc N) (h N) (bv N) (hi N)⟩
def GN(x:Fn){k:FuncId}(hf:Tryz.prog.funcs[k]?=some x.F)(h:∀N d,DN x N d=(x.s N).run d:=by intro N d;kernel_rfl)(hc:∀N,Wcy Tryz.prog (x.c N):=by exactλN=>Wlo)(bv:∀N,(WlL x.F&&WgT x.F (x.s N).ps)=true:=by intro N;kernel_rfl)(hi:∀N,(x.s N).inl=none:=by intro N;rfl):Gd:=GF x hf h hc bv hi
abbrev cn_(l:List Nat):List Ghost:=[.canon l]
abbrev vf_(t:Ty):PTy:=.v t false
abbrev vt_(t:Ty):PTy:=.v t true
variable(N:Nat){R:Type}(K:Ex->St->Option R)
def Ztt:Fn:=⟨f4,WG,λN=>Sig.of [vf_ (.slice Jaf)] [vf_ Jq] (λd=>Zlq N d.1),WaN⟩
def Ztu:Gd:=GN Ztt func4
def Ztz:Fn:=⟨f6,WG,λN=>Sig.of [vf_ (.slice Jaf),vf_ Ja] [vf_ Ja] (λd=>Zf2 N d.1 d.2.1),WaN⟩
def Zt0:Gd:=GN Ztz func6
def Zij:Fn:=⟨f5,λ |5=>cn_ [0,3,4,11]|6=>cn_ [0,3,4,5]|7=>cn_ [0,3,4,5,15]|8=>cn_ [0,3,4,5]|9=>cn_ [0,3,4]|10=>cn_ [0,3,4]|100005=>cn_ [0,3,4]|_=>[],λN=>Sig.of [vf_ Ja] [vf_ Js] (λd=>Zf3 N d.1),WaN⟩
def Zqz(n2:Int)(bi:List UInt8)(eb:Bool):St:=⟨[(0,vI n2),(3,vV Js bi),(4,vB eb)],[],0⟩
def Zp6(eb:Bool)(n5:Int)(mA:List UInt8)(t7:Bool):St:=⟨[(0,vI n5),(3,vV Js mA),(4,vB eb),(11,vB t7)],[],0⟩
theorem Zq0{eb:Bool}{K0:Int->Kh->Bool->Option R}(h0:K0= λn5 mA t7=>K (.exit 0) (Zp6 eb n5 mA t7))(n:Nat)(n2:Int)(bi:List UInt8):Zgj N eb K0 n n2 bi=LM Zij N 0 100005 n (Zqz n2 bi eb) K:=by
  subst h0
  induction n generalizing n2 bi with
  |zero=>kernel_rfl
  |succ n ih=>rw[Zgj];simp only[ih];kernel_rfl
theorem Ztv(n1:Int):DN Zij N (n1,())=Zf3 N n1:=by
  conv=>rhs;rw[Zf3];simp(disch:=exact id (by kernel_rfl)) only[Zq0 (R:=Unit×Kt) N (CF Zij N [1,1,1,1,0,0])]
  kernel_rfl
def Ztw:Gd:=GN Zij func5 (λN d=>Ztv N d.1)
def Zhk:Fn:=⟨f9,λ |4=>cn_ [0,1,5,6,7,12]|5=>cn_ [0,1,5,6,7]|6=>cn_ [0,1,5,6,7,19]|7=>cn_ [0,1,5,7]|8=>cn_ [0,1,5,6,7]|100004=>cn_ [0,1,5,6,7]|_=>[],λN=>Sig.of [vf_ Js,vf_ Jaf] [vf_ (.own Js)] (λd=>Zdm N d.1 d.2.1),WaN⟩
def Zoq(s3:List UInt8)(jm:Int)(co:Int)(i6:Int)(l7:List Kh):St:=⟨[(0,vV Js s3),(1,vV Jaf jm),(5,vO 0),(6,vI co),(7,vI i6)],[(0,.arr Js l7)],1⟩
def Znb(s3:List UInt8)(jm:Int)(jq:Int)(i9:Int)(aw:Bool)(ci:List Kh):St:=⟨[(0,vV Js s3),(1,vV Jaf jm),(5,vO 0),(6,vI jq),(7,vI i9),(12,vB aw)],[(0,.arr Js ci)],1⟩
theorem Zor{s3:List UInt8}{jm:Int}{K0:Int->Int->Bool->(List Kh)->Option R}(h0:K0= λjq i9 aw ci=>K (.exit 0) (Znb s3 jm jq i9 aw ci))(n:Nat)(co:Int)(i6:Int)(l7:List Kh):Zbm N s3 jm K0 n co i6 l7=LM Zhk N 0 100004 n (Zoq s3 jm co i6 l7) K:=by
  subst h0
  induction n generalizing co i6 l7 with
  |zero=>kernel_rfl
  |succ n ih=>rw[Zbm];simp only[ih];kernel_rfl
theorem Zsx(s1:List UInt8)(pJ:Int):DN Zhk N (s1,pJ,())=Zdm N s1 pJ:=by
  conv=>rhs;rw[Zdm];simp(disch:=exact id (by kernel_rfl)) only[Zor (R:=Unit×((List Kh)×Unit)) N (CF Zhk N [1,1,1,0,1,0])]
  kernel_rfl
def Zis:Gd:=GN Zhk func9 (λN d=>Zsx N d.1 d.2.1)
def Zr7:Fn:=⟨f20,WG,λN=>Sig.of [vf_ Ja,vf_ Ja,vf_ Ja] [vf_ Jq] (λd=>Zc N d.1 d.2.1 d.2.2.1),WaN⟩
def Zm:Gd:=GN Zr7 func20
def Zp7:Fn:=⟨f17,WG,λN=>Sig.of [vf_ Ja] [vf_ Js] (λd=>Zih N d.1),CX [Zm]⟩
def Zi9:Gd:=GF Zp7 func17
def Zp8:Fn:=⟨f18,WG,λN=>Sig.of [vf_ Ja] [vf_ Ja] (λd=>Zii N d.1),WaN⟩
def Zja:Gd:=GN Zp8 func18
def Zgl:Fn:=⟨f21,λ |5=>cn_ [0,3,4,13]|6=>cn_ [0,3,4]|7=>cn_ [0,3,4,5]|8=>cn_ [0,3,4,5,19]|9=>cn_ [0,3,4,5]|10=>cn_ [0,3,4]|14=>cn_ [3,6,7,38]|15=>cn_ [3,6,7]|16=>cn_ [3,6,7]|100005=>cn_ [0,3,4]|100014=>cn_ [3,6,7]|_=>[],λN=>Sig.of [vf_ Ja] [vf_ Js] (λd=>Zr N d.1),WaN⟩
def Zq1(n2:Int)(m3:Int)(l4:List Int):St:=⟨[(0,vI n2),(3,vO 0),(4,vI m3)],[(0,.arr Jaf l4)],1⟩
def Zp9(n2:Int)(m5:Int)(t6:Bool)(l7:List Int):St:=⟨[(0,vI n2),(3,vO 0),(4,vI m5),(13,vB t6)],[(0,.arr Jaf l7)],1⟩
theorem Zq2{n2:Int}{K0:Int->Bool->Kg->Option R}(h0:K0= λm5 t6 l7=>K (.exit 0) (Zp9 n2 m5 t6 l7))(n:Nat)(m3:Int)(l4:List Int):Zgh N n2 K0 n m3 l4=LM Zgl N 0 100005 n (Zq1 n2 m3 l4) K:=by
  subst h0
  induction n generalizing m3 l4 with
  |zero=>kernel_rfl
  |succ n ih=>rw[Zgh];simp only[ih];kernel_rfl
def Zq3(eB:Int)(gm:Int)(bb:List Int):St:=⟨[(3,vO 0),(6,vI eB),(7,vI gm)],[(0,.arr Jaf bb)],1⟩
def Zqa(dS:Int)(oK:Int)(dH:Bool)(bC:List Int):St:=⟨[(3,vO 0),(6,vI dS),(7,vI oK),(38,vB dH)],[(0,.arr Jaf bC)],1⟩
theorem Zq4{K0:Int->Int->Bool->Kg->Option R}(h0:K0= λdS oK dH bC=>K (.exit 2) (Zqa dS oK dH bC))(n:Nat)(eB:Int)(gm:Int)(bb:List Int):Zgi N K0 n eB gm bb=LM Zgl N 1 100014 n (Zq3 eB gm bb) K:=by
  subst h0
  induction n generalizing eB gm bb with
  |zero=>kernel_rfl
  |succ n ih=>rw[Zgi];simp only[ih];kernel_rfl
theorem Ztx(n1:Int):DN Zgl N (n1,())=Zr N n1:=by
  conv=>rhs;rw[Zr];simp(disch:=exact id (by kernel_rfl)) only[Zq2 (R:=Unit×Kt) N (CF Zgl N [1,1,1,0,1,0]),Zq4 (R:=Unit×Kt) N (CF Zgl N [1,1,1,1,1,0,1,0])]
  kernel_rfl
def Zhe:Gd:=GN Zgl func21 (λN d=>Ztx N d.1)
def Zgo:Fn:=⟨f13,λ |8=>cn_ [0,4,5,6,25]|9=>cn_ [0,4,5,6]|10=>cn_ [0,4,5,6,37]|11=>cn_ [2,3]|12=>cn_ [0,4,5,6]|100008=>cn_ [0,4,5,6]|_=>[],λN=>Sig.of [vf_ Js] [vf_ Ja,vf_ Jq] (λd=>Zgk N d.1),CX [Zm,Zhe]⟩
def Zlr(s3:List UInt8)(jo:Int)(n5:Int)(i6:Int):St:=⟨[(0,vV Js s3),(4,vI jo),(5,vI n5),(6,vI i6)],[],0⟩
def Zkl(s3:List UInt8)(jo:Int):St:=⟨[(2,vI 0),(3,vB false)],[],0⟩
def Zkm(s3:List UInt8)(jo:Int)(n7:Int)(i8:Int)(t9:Bool):St:=⟨[(0,vV Js s3),(4,vI jo),(5,vI n7),(6,vI i8),(25,vB t9)],[],0⟩
theorem Zls{s3:List UInt8}{jo:Int}{K0:Option R}{K1:Int->Int->Bool->Option R}(h0:K0=K .ret (Zkl s3 jo))(h1:K1= λn7 i8 t9=>K (.exit 0) (Zkm s3 jo n7 i8 t9))(n:Nat)(n5:Int)(i6:Int):Zc6 N s3 jo K0 K1 n n5 i6=LM Zgo N 0 100008 n (Zlr s3 jo n5 i6) K:=by
  subst h0 h1
  induction n generalizing n5 i6 with
  |zero=>kernel_rfl
  |succ n ih=>rw[Zc6];simp only[ih];kernel_rfl
theorem Zq5(s1:List UInt8):DN Zgo N (s1,())=Zgk N s1:=by
  conv=>rhs;rw[Zgk];simp(disch:=exact id (by kernel_rfl)) only[Zls (R:=Unit×Kl) N (CF Zgo N [1,1,1,1,1,0,1,0])]
  kernel_rfl
def Zjl:Gd:=GF Zgo func13 (λN d=>Zq5 N d.1)
def Zsy:Fn:=⟨f51,WG,λN=>Sig.of [vf_ Ja] [vf_ Jq] (λd=>Za1 N d.1),CX [Zm]⟩
def Zsz:Gd:=GF Zsy func51
def Zq6:Fn:=⟨f33,WG,λN=>Sig.of [vf_ Ja] [vf_ Jq] (λd=>Z7 N d.1),CX [Zm]⟩
def Zao:Gd:=GF Zq6 func33
def Zr8:Fn:=⟨f30,WG,λN=>Sig.of [vf_ Ja] [vf_ Jq] (λd=>Zaa N d.1),CX [Zm]⟩
def Za4:Gd:=GF Zr8 func30
def Zs0:Fn:=⟨f31,WG,λN=>Sig.of [vf_ Ja] [vf_ Jq] (λd=>Zaf N d.1),CX [Zm]⟩
def Zc7:Gd:=GF Zs0 func31
def Ztd:Fn:=⟨f35,WG,λN=>Sig.of [vt_ Jz] [vf_ Jq] (λd=>Zeg N d.1),CX [Zsz,Zao,Za4,Zm,Zc7]⟩
def Zg3:Gd:=GF Ztd func35
def Zg6:Fn:=⟨f19,λ |6=>cn_ [3,24,25,26,27]|7=>cn_ [3,6,24,25,26]|8=>cn_ [3,24,25,26]|9=>cn_ [3,24,25,26]|100006=>cn_ [3,24,25,26]|_=>[],λN=>Sig.of [vt_ Jz] [vf_ Js] (λd=>Zhy N d.1),CX [Zg3,Zi9,Zja,Zhe]⟩
def Znc(s5:List UInt8)(t6:Int)(t7:Int)(l8:List Int):St:=⟨[(3,vV Js s5),(24,vO 0),(25,vI t6),(26,vI t7)],[(0,.arr Ja l8)],1⟩
def Zlt(t6:Int)(l8:List Int)(lS:List UInt8)(aL:Int)(aC:Bool):St:=⟨[(3,vV Js lS),(24,vO 0),(25,vI t6),(26,vI aL),(27,vB aC)],[(0,.arr Ja l8)],1⟩
theorem Znd{t6:Int}{l8:List Int}{K0:Kh->Int->Bool->Option R}(h0:K0= λlS aL aC=>K (.exit 0) (Zlt t6 l8 lS aL aC))(n:Nat)(s5:List UInt8)(t7:Int):Zgc N t6 l8 K0 n s5 t7=LM Zg6 N 0 100006 n (Znc s5 t6 t7 l8) K:=by
  subst h0
  induction n generalizing s5 t7 with
  |zero=>kernel_rfl
  |succ n ih=>rw[Zgc];simp only[ih];kernel_rfl
theorem Zr9(o1:Int×Int×Int×Int):DN Zg6 N (o1,())=Zhy N o1:=by
  conv=>rhs;rw[Zhy];simp(disch:=exact id (by kernel_rfl)) only[Znd (R:=Unit×Kt) N (CF Zg6 N [1,1,1,1,0,1,0])]
  kernel_rfl
def Zsa:Gd:=GF Zg6 func19 (λN d=>Zr9 N d.1)
def Zeu:Fn:=⟨f11,λ |4=>cn_ [0,2,4,5,6,16]|5=>cn_ [0,2,4,5,6]|6=>cn_ [0,2,4,5,6,24]|7=>cn_ [0,2,4,5,6]|11=>[.view 41]|12=>cn_ [0,2,5,7,41,42,43,44]|13=>cn_ [0,2,5,7,8,9,41,42,43]|14=>cn_ [0,2,5,7,8,10,41,42,43]|15=>cn_ [0,2,5,7,41,42,43]|16=>cn_ [0,2,5,7,41,42,43]|100004=>cn_ [0,2,4,5,6]|100012=>cn_ [0,2,5,7,41,42,43]|_=>[],λN=>Sig.of [vf_ Js] [vt_ Jz,vf_ Jq] (λd=>Zfv N d.1),CX [Zis,Zi9,Zja,Zjl,Zsa]⟩
def Zne(s3:List UInt8)(ce:Int)(l9:List Kh)(aQ:Int):St:=⟨[(0,vV Js s3),(2,vP 0 0),(4,vO 1),(5,vP 2 0),(6,vI ce)],[(0,.box [.val Ja (0:Int),.val Ja (0:Int),.val Ja (0:Int),.val Ja (0:Int)]),(1,.arr Js l9),(2,.box [.val Ja aQ,.val Ja (0:Int),.val Ja (0:Int),.val Ja (0:Int)])],3⟩
def Zlu(s3:List UInt8)(l9:List Kh)(gt:Int)(dH:Bool)(cA:Int):St:=⟨[(0,vV Js s3),(2,vP 0 0),(4,vO 1),(5,vP 2 0),(6,vI gt),(16,vB dH)],[(0,.box [.val Ja (0:Int),.val Ja (0:Int),.val Ja (0:Int),.val Ja (0:Int)]),(1,.arr Js l9),(2,.box [.val Ja cA,.val Ja (0:Int),.val Ja (0:Int),.val Ja (0:Int)])],3⟩
theorem Znf{s3:List UInt8}{l9:List Kh}{K0:Int->Bool->Int->Option R}(h0:K0= λgt dH cA=>K (.exit 0) (Zlu s3 l9 gt dH cA))(n:Nat)(ce:Int)(aQ:Int):Zey N s3 l9 K0 n ce aQ=LM Zeu N 0 100004 n (Zne s3 ce l9 aQ) K:=by
  subst h0
  induction n generalizing ce aQ with
  |zero=>kernel_rfl
  |succ n ih=>rw[Zey];simp only[ih];kernel_rfl
def Zng(kw:List UInt8)(t25:Nat)(hI:Nat)(hQ:Int)(fE:Int)(jR:Int)(dU:List Int)(jS:List Kh):St:=⟨[(0,vV Js kw),(2,vP 0 0),(5,vP 1 0),(7,.s (.one (.aptr 2))),(41,.s (.one (.vw 3 t25 hI))),(42,vI hQ),(43,vI fE)],[(0,.box [.val Ja (0:Int),.val Ja (0:Int),.val Ja (0:Int),.val Ja (0:Int)]),(1,.box [.val Ja jR,.val Ja (0:Int),.val Ja (0:Int),.val Ja (0:Int)]),(2,.arr Ja dU),(3,.arr Js jS)],4⟩
def Zlv(kw:List UInt8)(t25:Nat)(hI:Nat)(hQ:Int)(jR:Int)(jS:List Kh)(fI:Int)(fJ:Bool)(kW:List Int):St:=⟨[(0,vV Js kw),(2,vP 0 0),(5,vP 1 0),(7,.s (.one (.aptr 2))),(41,.s (.one (.vw 3 t25 hI))),(42,vI hQ),(43,vI fI),(44,vB fJ)],[(0,.box [.val Ja (0:Int),.val Ja (0:Int),.val Ja (0:Int),.val Ja (0:Int)]),(1,.box [.val Ja jR,.val Ja (0:Int),.val Ja (0:Int),.val Ja (0:Int)]),(2,.arr Ja kW),(3,.arr Js jS)],4⟩
theorem Znh{kw:List UInt8}{t25:Nat}{hI:Nat}{hQ:Int}{jR:Int}{jS:List Kh}{K0:Int->Bool->Kg->Option R}(h0:K0= λfI fJ kW=>K (.exit 2) (Zlv kw t25 hI hQ jR jS fI fJ kW))(n:Nat)(fE:Int)(dU:List Int):Zgd N kw t25 hI hQ jR jS K0 n fE dU=LM Zeu N 1 100012 n (Zng kw t25 hI hQ fE jR dU jS) K:=by
  subst h0
  induction n generalizing fE dU with
  |zero=>kernel_rfl
  |succ n ih=>rw[Zgd];simp only[ih];kernel_rfl
theorem Zsb(s1:List UInt8):DN Zeu N (s1,())=Zfv N s1:=by
  conv=>rhs;rw[Zfv];simp(disch:=exact id (by kernel_rfl)) only[Znf (R:=Unit×(Ka×Kr)) N (CF Zeu N [1,1,1,0,1,0]),Znh (R:=Unit×(Ka×Kr)) N (CF Zeu N [1,1,1,1,1,1,0,1,0])]
  kernel_rfl
def Zsc:Gd:=GF Zeu func11 (λN d=>Zsb N d.1)
def Zos:Fn:=⟨f12,λ |4=>[.opn 29]|7=>[.opn 52]|_=>[],λN=>Sig.of [.box Jy,vt_ Jz] [vf_ Js] (λd=>Zh9 N d.1 d.2.1),WaN⟩
def Zot:Gd:=GN Zos func12
def Zf5:Fn:=⟨f52,λ |2=>cn_ [0,1,7,8,9,10]|3=>cn_ [0,1,6,7,8,9]|4=>cn_ [0,1,7,8,9,15]|5=>cn_ [4]|6=>cn_ [0,1,7,8,9]|100002=>cn_ [0,1,7,8,9]|_=>[],λN=>Sig.of [vf_ Jx,vf_ Ja] [vf_ Jq] (λd=>Z5 N d.1 d.2.1),CX [Zao]⟩
def Zj9(l3:List Int)(n4:Int)(t7:Int):St:=⟨[(0,vV Jx l3),(1,vI n4),(7,vV Jx l3),(8,vI (Wh l3)),(9,vI t7)],[],0⟩
def Zju(l3:List Int)(n4:Int):St:=⟨[(4,vB false)],[],0⟩
def Zjv(l3:List Int)(n4:Int)(aw:Int)(aL:Bool):St:=⟨[(0,vV Jx l3),(1,vI n4),(7,vV Jx l3),(8,vI (Wh l3)),(9,vI aw),(10,vB aL)],[],0⟩
theorem Zka{l3:List Int}{n4:Int}{K0:Option R}{K1:Int->Bool->Option R}(h0:K0=K .ret (Zju l3 n4))(h1:K1= λaw aL=>K (.exit 0) (Zjv l3 n4 aw aL))(n:Nat)(t7:Int):Zai N l3 n4 K0 K1 n t7=LM Zf5 N 0 100002 n (Zj9 l3 n4 t7) K:=by
  subst h0 h1
  induction n generalizing t7 with
  |zero=>kernel_rfl
  |succ n ih=>rw[Zai];simp only[ih];kernel_rfl
theorem Zou(l1:List Int)(n2:Int):DN Zf5 N (l1,n2,())=Z5 N l1 n2:=by
  conv=>rhs;rw[Z5];simp(disch:=exact id (by kernel_rfl)) only[Zka (R:=Unit×Kr) N (CF Zf5 N [1,0,1,0])]
  kernel_rfl
def Zep:Gd:=GF Zf5 func52 (λN d=>Zou N d.1 d.2.1)
def Zhl:Fn:=⟨f53,λ |2=>cn_ [0,5,6,7,8]|3=>cn_ [0,4,5,6,7]|4=>cn_ [0,5,6,7,13]|5=>cn_ [2]|6=>cn_ [0,5,6,7]|100002=>cn_ [0,5,6,7]|_=>[],λN=>Sig.of [vf_ Jx] [vf_ Jq] (λd=>Zfd N d.1),CX [Zm]⟩
def Zov(l2:List Int)(t5:Int):St:=⟨[(0,vV Jx l2),(5,vV Jx l2),(6,vI (Wh l2)),(7,vI t5)],[],0⟩
def Zni(l2:List Int):St:=⟨[(2,vB false)],[],0⟩
def Znj(l2:List Int)(t8:Int)(t9:Bool):St:=⟨[(0,vV Jx l2),(5,vV Jx l2),(6,vI (Wh l2)),(7,vI t8),(8,vB t9)],[],0⟩
theorem Zow{l2:List Int}{K0:Option R}{K1:Int->Bool->Option R}(h0:K0=K .ret (Zni l2))(h1:K1= λt8 t9=>K (.exit 0) (Znj l2 t8 t9))(n:Nat)(t5:Int):Zcr N l2 K0 K1 n t5=LM Zhl N 0 100002 n (Zov l2 t5) K:=by
  subst h0 h1
  induction n generalizing t5 with
  |zero=>kernel_rfl
  |succ n ih=>rw[Zcr];simp only[ih];kernel_rfl
theorem Zs1(l1:List Int):DN Zhl N (l1,())=Zfd N l1:=by
  conv=>rhs;rw[Zfd];simp(disch:=exact id (by kernel_rfl)) only[Zow (R:=Unit×Kr) N (CF Zhl N [1,0,1,0])]
  kernel_rfl
def Zkn:Gd:=GF Zhl func53 (λN d=>Zs1 N d.1)
def Zqb:Fn:=⟨f36,WG,λN=>Sig.of [vt_ Jr] [vf_ Jq] (λd=>Zg4 N d.1),CX [Zep,Zkn,Zao]⟩
def Zqc:Gd:=GF Zqb func36
def Zq7:Fn:=⟨f70,WG,λN=>Sig.of [vt_ Jz] [vf_ Ja] (λd=>Ze3 N d.1),CX [Zg3]⟩
def Zjm:Gd:=GF Zq7 func70
def Zs2:Fn:=⟨f93,WG,λN=>Sig.of [vt_ Jz] [vf_ Ja] (λd=>Zge N d.1),WaN⟩
def Zit:Gd:=GN Zs2 func93
def Zfp:Fn:=⟨f71,λ |3=>cn_ [3,6,7,8,9]|4=>cn_ [3,5,6,7,8]|5=>cn_ [3,6,7,8]|6=>cn_ [3,6,7,8,17]|7=>cn_ [2]|8=>cn_ [3,6,7,8]|100003=>cn_ [3,6,7,8]|_=>[],λN=>Sig.of [vf_ Jc] [vf_ Jq] (λd=>Zbw N d.1),CX [Zit]⟩
def Zjw(n2:Int)(t3:List Ka)(t5:Int):St:=⟨[(3,vI n2),(6,vV Jc t3),(7,vI (Wh t3)),(8,vI t5)],[],0⟩
def Zjn(t3:List Ka):St:=⟨[(2,vB false)],[],0⟩
def Zjo(t3:List Ka)(n8:Int)(t9:Int)(aw:Bool):St:=⟨[(3,vI n8),(6,vV Jc t3),(7,vI (Wh t3)),(8,vI t9),(9,vB aw)],[],0⟩
theorem Zjx{t3:List Ka}{K0:Option R}{K1:Int->Int->Bool->Option R}(h0:K0=K .ret (Zjn t3))(h1:K1= λn8 t9 aw=>K (.exit 0) (Zjo t3 n8 t9 aw))(n:Nat)(n2:Int)(t5:Int):Za2 N t3 K0 K1 n n2 t5=LM Zfp N 0 100003 n (Zjw n2 t3 t5) K:=by
  subst h0 h1
  induction n generalizing n2 t5 with
  |zero=>kernel_rfl
  |succ n ih=>rw[Za2];simp only[ih];kernel_rfl
theorem Znk(ai:List Ka):DN Zfp N (ai,())=Zbw N ai:=by
  conv=>rhs;rw[Zbw];simp(disch:=exact id (by kernel_rfl)) only[Zjx (R:=Unit×Kr) N (CF Zfp N [1,1,0,1,0])]
  kernel_rfl
def Znl:Gd:=GF Zfp func71 (λN d=>Znk N d.1)
def Zgp:Fn:=⟨f72,λ |3=>cn_ [1,5,8,9,10,11]|4=>cn_ [1,5,6,7,8,9,10]|5=>cn_ [1,5,7,8,9,10,17]|6=>cn_ [1,5,8,9,10]|7=>cn_ [1,5,8,9,10]|100003=>cn_ [1,5,8,9,10]|_=>[],λN=>Sig.of [vf_ Jc,vf_ Ja] [vf_ Ja] (λd=>Ze4 N d.1 d.2.1),CX [Zit]⟩
def Zlw(i3:Int)(n4:Int)(t5:List Ka)(t7:Int):St:=⟨[(1,vI i3),(5,vI n4),(8,vV Jc t5),(9,vI (Wh t5)),(10,vI t7)],[],0⟩
def Zko(i3:Int)(t5:List Ka)(ll:Int)(aL:Int)(aC:Bool):St:=⟨[(1,vI i3),(5,vI ll),(8,vV Jc t5),(9,vI (Wh t5)),(10,vI aL),(11,vB aC)],[],0⟩
theorem Zlx{i3:Int}{t5:List Ka}{K0:Int->Int->Bool->Option R}(h0:K0= λll aL aC=>K (.exit 0) (Zko i3 t5 ll aL aC))(n:Nat)(n4:Int)(t7:Int):Za5 N i3 t5 K0 n n4 t7=LM Zgp N 0 100003 n (Zlw i3 n4 t5 t7) K:=by
  subst h0
  induction n generalizing n4 t7 with
  |zero=>kernel_rfl
  |succ n ih=>rw[Za5];simp only[ih];kernel_rfl
theorem Zq8(ai:List Ka)(i2:Int):DN Zgp N (ai,i2,())=Ze4 N ai i2:=by
  conv=>rhs;rw[Ze4];simp(disch:=exact id (by kernel_rfl)) only[Zlx (R:=Unit×Ki) N (CF Zgp N [1,1,0,1,0])]
  kernel_rfl
def Zq9:Gd:=GF Zgp func72 (λN d=>Zq8 N d.1 d.2.1)
def Zg7:Fn:=⟨f56,λ |5=>cn_ [0,3,14,15,16,17]|6=>cn_ [0,3,4,5,14,15,16]|7=>cn_ [0,3,4,5,14,15,16,23]|8=>cn_ [2]|9=>cn_ [0,3,4,5,14,15,16,25]|10=>cn_ [0,3,4,5,14,15,16,25,26]|11=>cn_ [0,3,14,15,16,48]|12=>cn_ [2]|13=>cn_ [0,3,4,14,15,16,49]|14=>cn_ [0,3,4,14,15,16]|15=>cn_ [0,3,14,15,16,60]|16=>cn_ [2]|17=>cn_ [0,3,14,15,16]|100005=>cn_ [0,3,14,15,16]|_=>[],λN=>Sig.of [vf_ Jc] [vf_ Jq] (λd=>Zbn N d.1),CX [Znl,Zg3,Zq9]⟩
def Znm(ah:List Ka)(bI:Int)(t7:Int):St:=⟨[(0,vV Jc ah),(3,vI bI),(14,vV Jc ah),(15,vI (Wh ah)),(16,vI t7)],[],0⟩
def Zly(ah:List Ka):St:=⟨[(2,vB false)],[],0⟩
def Zlz(ah:List Ka)(eQ:Int)(bD:Int)(gL:Bool):St:=⟨[(0,vV Jc ah),(3,vI eQ),(14,vV Jc ah),(15,vI (Wh ah)),(16,vI bD),(17,vB gL)],[],0⟩
theorem Znn{ah:List Ka}{K0:Option R}{K1:Int->Int->Bool->Option R}(h0:K0=K .ret (Zly ah))(h1:K1= λeQ bD gL=>K (.exit 0) (Zlz ah eQ bD gL))(n:Nat)(bI:Int)(t7:Int):Za0 N ah K0 K1 n bI t7=LM Zg7 N 0 100005 n (Znm ah bI t7) K:=by
  subst h0 h1
  induction n generalizing bI t7 with
  |zero=>kernel_rfl
  |succ n ih=>rw[Za0];simp only[ih];kernel_rfl
theorem Zsd(ai:List Ka):DN Zg7 N (ai,())=Zbn N ai:=by
  conv=>rhs;rw[Zbn];simp(disch:=exact id (by kernel_rfl)) only[Znn (R:=Unit×Kr) N (CF Zg7 N [1,1,1,0,1,0])]
  kernel_rfl
def Zj6:Gd:=GF Zg7 func56 (λN d=>Zsd N d.1)
def Zhm:Fn:=⟨f55,λ |2=>cn_ [0,5,6,7,8]|3=>cn_ [0,4,5,6,7]|4=>cn_ [0,5,6,7,18]|5=>cn_ [2]|6=>cn_ [0,5,6,7]|100002=>cn_ [0,5,6,7]|_=>[],λN=>Sig.of [vf_ Jc] [vf_ Jq] (λd=>Zfb N d.1),CX [Zjm,Zj6]⟩
def Zox(aK:List Ka)(t5:Int):St:=⟨[(0,vV Jc aK),(5,vV Jc aK),(6,vI (Wh aK)),(7,vI t5)],[],0⟩
def Zno(aK:List Ka):St:=⟨[(2,vB false)],[],0⟩
def Znp(aK:List Ka)(t8:Int)(t9:Bool):St:=⟨[(0,vV Jc aK),(5,vV Jc aK),(6,vI (Wh aK)),(7,vI t8),(8,vB t9)],[],0⟩
theorem Zoy{aK:List Ka}{K0:Option R}{K1:Int->Bool->Option R}(h0:K0=K .ret (Zno aK))(h1:K1= λt8 t9=>K (.exit 0) (Znp aK t8 t9))(n:Nat)(t5:Int):Zcn N aK K0 K1 n t5=LM Zhm N 0 100002 n (Zox aK t5) K:=by
  subst h0 h1
  induction n generalizing t5 with
  |zero=>kernel_rfl
  |succ n ih=>rw[Zcn];simp only[ih];kernel_rfl
theorem Zs3(ai:List Ka):DN Zhm N (ai,())=Zfb N ai:=by
  conv=>rhs;rw[Zfb];simp(disch:=exact id (by kernel_rfl)) only[Zoy (R:=Unit×Kr) N (CF Zhm N [1,0,1,0])]
  kernel_rfl
def Zs4:Gd:=GF Zhm func55 (λN d=>Zs3 N d.1)
def Zoz:Fn:=⟨f74,WG,λN=>Sig.of [vt_ Jz] [vf_ Jq] (λd=>Zh6 N d.1),WaN⟩
def Zo0:Gd:=GN Zoz func74
def Z3:Fn:=⟨f94,λ |2=>cn_ [0,1,7,8,9]|3=>cn_ [0,1,5,7,8]|4=>cn_ [0,1,5,7,8,16]|5=>cn_ [1,4]|6=>cn_ [0,1,7,8]|100002=>cn_ [0,1,7,8]|_=>[],λN=>Sig.of [vf_ Jc,.clos 74 0] [vf_ Ja] (λd=>Zw N d.1),CX [Zo0]⟩
def Zdz(s2:List Ka)(t4:Int):St:=⟨[(0,vV Jc s2),(1,.s (.one (.clos 74 []))),(7,vI (Wh s2)),(8,vI t4)],[],0⟩
def Zdn(s2:List Ka)(t7:Int):St:=⟨[(1,.s (.one (.clos 74 []))),(4,vI t7)],[],0⟩
def Zdo(s2:List Ka)(t8:Int)(t9:Bool):St:=⟨[(0,vV Jc s2),(1,.s (.one (.clos 74 []))),(7,vI (Wh s2)),(8,vI t8),(9,vB t9)],[],0⟩
theorem Zd0{s2:List Ka}{K0:Int->Option R}{K1:Int->Bool->Option R}(h0:K0= λt7=>K .ret (Zdn s2 t7))(h1:K1= λt8 t9=>K (.exit 0) (Zdo s2 t8 t9))(n:Nat)(t4:Int):Zi N s2 K0 K1 n t4=LM Z3 N 0 100002 n (Zdz s2 t4) K:=by
  subst h0 h1
  induction n generalizing t4 with
  |zero=>kernel_rfl
  |succ n ih=>rw[Zi];simp only[ih];kernel_rfl
theorem Zek(s1:List Ka):DN Z3 N (s1,())=Zw N s1:=by
  conv=>rhs;rw[Zw];simp(disch:=exact id (by kernel_rfl)) only[Zd0 (R:=Unit×Ki) N (CF Z3 N [1,0,1,0])]
  kernel_rfl
def Zel:Gd:=GF Z3 func94 (λN d=>Zek N d.1)
def Zd3:Fn:=⟨f73,WG,λN=>Sig.of [vf_ Jc,.clos 74 0] [vf_ Jq] (λd=>Zah N d.1),CX [Zel]⟩
def Zd4:Gd:=GF Zd3 func73
def Zra:Fn:=⟨f57,WG,λN=>Sig.of [vf_ Jc] [vf_ Jq] (λd=>Ze5 N d.1),CX [Zd4]⟩
def Zrb:Gd:=GF Zra func57
def Zg8:Fn:=⟨f39,λ |2=>cn_ [1,6,7,8,9]|3=>cn_ [1,4,6,7,8]|4=>cn_ [1,6,7,8,15]|5=>cn_ [2]|6=>cn_ [1,6,7,8]|100002=>cn_ [1,6,7,8]|_=>[],λN=>Sig.of [vt_ Jae] [vf_ Jq] (λd=>Zfr N d.1),CX [Zs4,Zj6,Zrb]⟩
def Znq(t2:List Ky)(t4:Int)(b5:List Ka×List Ky):St:=⟨[(1,vP 0 0),(6,vV (.slice Jc) t2),(7,vI (Wh b5.2)),(8,vI t4)],[(0,.box [.val Jc b5.1,.val (.slice Jc) b5.2])],1⟩
def Zl0(t2:List Ky)(b5:List Ka×List Ky):St:=⟨[(2,vB false)],[],0⟩
def Zl1(t2:List Ky)(b5:List Ka×List Ky)(t8:Int)(t9:Bool):St:=⟨[(1,vP 0 0),(6,vV (.slice Jc) t2),(7,vI (Wh b5.2)),(8,vI t8),(9,vB t9)],[(0,.box [.val Jc b5.1,.val (.slice Jc) b5.2])],1⟩
theorem Znr{t2:List Ky}{b5:List Ka×List Ky}{K0:Option R}{K1:Int->Bool->Option R}(h0:K0=K .ret (Zl0 t2 b5))(h1:K1= λt8 t9=>K (.exit 0) (Zl1 t2 b5 t8 t9))(n:Nat)(t4:Int):Zbz N t2 b5 K0 K1 n t4=LM Zg8 N 0 100002 n (Znq t2 t4 b5) K:=by
  subst h0 h1
  induction n generalizing t4 with
  |zero=>kernel_rfl
  |succ n ih=>rw[Zbz];simp only[ih];kernel_rfl
theorem Zse(p1:List Ka×List Ky):DN Zg8 N (p1,())=Zfr N p1:=by
  conv=>rhs;rw[Zfr];simp(disch:=exact id (by kernel_rfl)) only[Znr (R:=Unit×Kr) N (CF Zg8 N [1,0,1,0])]
  kernel_rfl
def Zsf:Gd:=GF Zg8 func39 (λN d=>Zse N d.1)
def Zns:Fn:=⟨f38,WG,λN=>Sig.of [vt_ Jae] [vf_ Jq] (λd=>Zf9 N d.1),CX [Zsf]⟩
def Znt:Gd:=GF Zns func38
def Z0:Fn:=⟨f54,λ |2=>cn_ [0,1,7,8,9]|3=>cn_ [0,1,5,7,8]|4=>cn_ [0,1,5,7,8,16]|5=>cn_ [1,4]|6=>cn_ [0,1,7,8]|100002=>cn_ [0,1,7,8]|_=>[],λN=>Sig.of [vf_ Jn,.clos 38 0] [vf_ Ja] (λd=>Zp N d.1),CX [Znt]⟩
def Zcw(s2:List Kn)(t4:Int):St:=⟨[(0,vV Jn s2),(1,.s (.one (.clos 38 []))),(7,vI (Wh s2)),(8,vI t4)],[],0⟩
def Zce(s2:List Kn)(t7:Int):St:=⟨[(1,.s (.one (.clos 38 []))),(4,vI t7)],[],0⟩
def Zcf(s2:List Kn)(t8:Int)(t9:Bool):St:=⟨[(0,vV Jn s2),(1,.s (.one (.clos 38 []))),(7,vI (Wh s2)),(8,vI t8),(9,vB t9)],[],0⟩
theorem Zcx{s2:List Kn}{K0:Int->Option R}{K1:Int->Bool->Option R}(h0:K0= λt7=>K .ret (Zce s2 t7))(h1:K1= λt8 t9=>K (.exit 0) (Zcf s2 t8 t9))(n:Nat)(t4:Int):Zd N s2 K0 K1 n t4=LM Z0 N 0 100002 n (Zcw s2 t4) K:=by
  subst h0 h1
  induction n generalizing t4 with
  |zero=>kernel_rfl
  |succ n ih=>rw[Zd];simp only[ih];kernel_rfl
theorem Zdp(s1:List Kn):DN Z0 N (s1,())=Zp N s1:=by
  conv=>rhs;rw[Zp];simp(disch:=exact id (by kernel_rfl)) only[Zcx (R:=Unit×Ki) N (CF Z0 N [1,0,1,0])]
  kernel_rfl
def Zdq:Gd:=GF Z0 func54 (λN d=>Zdp N d.1)
def Zc8:Fn:=⟨f37,WG,λN=>Sig.of [vf_ Jn,.clos 38 0] [vf_ Jq] (λd=>Z9 N d.1),CX [Zdq]⟩
def Zc9:Gd:=GF Zc8 func37
def Zqd:Fn:=⟨f22,WG,λN=>Sig.of [vt_ Jag] [vf_ Jq] (λd=>Zs N d.1),CX [Zqc,Zc9]⟩
def Zez:Gd:=GF Zqd func22
def Zrc:Fn:=⟨f58,WG,λN=>Sig.of [] [vf_ Jai] (λd=>Zir N),WaN⟩
def Zrd:Gd:=GN Zrc func58
def Zqe:Fn:=⟨f75,WG,λN=>Sig.of [vf_ Jx] [vf_ Jai] (λd=>Zl N d.1),WaN⟩
def Z4:Gd:=GN Zqe func75
def Zsg:Fn:=⟨f66,WG,λN=>Sig.of [vf_ Ja,vf_ Ja] [vf_ Ja] (λd=>Zfs N d.1 d.2.1),WaN⟩
def Zj7:Gd:=GN Zsg func66
def Zs5:Fn:=⟨f68,WG,λN=>Sig.of [vf_ Ja] [vf_ Ja] (λd=>Zfe N d.1),WaN⟩
def Zkp:Gd:=GN Zs5 func68
def Zqf:Fn:=⟨f67,WG,λN=>Sig.of [vf_ Ja] [vf_ Ja] (λd=>Zfy N d.1),CX [Zc7]⟩
def Zjb:Gd:=GF Zqf func67
def Zgq:Fn:=⟨f49,λ |5=>cn_ [3,9,10,11,12]|6=>cn_ [3,4,5,9,10,11]|7=>cn_ [3,4,5,9,10,11,17]|8=>cn_ [3,5,9,10,11,35]|9=>cn_ [2]|10=>cn_ [3,9,10,11]|11=>cn_ [3,9,10,11]|100005=>cn_ [3,9,10,11]|_=>[],λN=>Sig.of [vf_ Jx] [vf_ Jq] (λd=>Zbb N d.1),CX [Zj7,Zm,Zkp,Zjb]⟩
def Zl2(t2:List Int)(t4:Int)(l5:List Bool):St:=⟨[(3,.s (.one (.aptr 0))),(9,vV Jx t2),(10,vI (Wh t2)),(11,vI t4)],[(0,.arr Jq l5)],1⟩
def Zkq(t2:List Int):St:=⟨[(2,vB false)],[],0⟩
def Zkr(t2:List Int)(eC:Int)(eO:Bool)(cR:List Bool):St:=⟨[(3,.s (.one (.aptr 0))),(9,vV Jx t2),(10,vI (Wh t2)),(11,vI eC),(12,vB eO)],[(0,.arr Jq cR)],1⟩
theorem Zl3{t2:List Int}{K0:Option R}{K1:Int->Bool->(List Bool)->Option R}(h0:K0=K .ret (Zkq t2))(h1:K1= λeC eO cR=>K (.exit 0) (Zkr t2 eC eO cR))(n:Nat)(t4:Int)(l5:List Bool):Za6 N t2 K0 K1 n t4 l5=LM Zgq N 0 100005 n (Zl2 t2 t4 l5) K:=by
  subst h0 h1
  induction n generalizing t4 l5 with
  |zero=>kernel_rfl
  |succ n ih=>rw[Za6];simp only[ih];kernel_rfl
theorem Zre(l1:List Int):DN Zgq N (l1,())=Zbb N l1:=by
  conv=>rhs;rw[Zbb];simp(disch:=exact id (by kernel_rfl)) only[Zl3 (R:=Unit×Kr) N (CF Zgq N [1,1,1,0,1,0])]
  kernel_rfl
def Zfk:Gd:=GF Zgq func49 (λN d=>Zre N d.1)
def Zh0:Fn:=⟨f69,λ |2=>cn_ [1,7,8,9,10]|3=>cn_ [1,5,6,7,8,9]|4=>cn_ [1,5,7,8,9,21]|5=>cn_ [4]|6=>cn_ [1,7,8,9]|100002=>cn_ [1,7,8,9]|_=>[],λN=>Sig.of [vf_ Jx,vf_ Ja] [vf_ Ja] (λd=>Zei N d.1 d.2.1),CX [Zkp]⟩
def Zqg(dn:Int)(t4:List Int)(t6:Int):St:=⟨[(1,vI dn),(7,vV Jx t4),(8,vI (Wh t4)),(9,vI t6)],[],0⟩
def Zo1(dn:Int)(t4:List Int)(t9:Int):St:=⟨[(4,vI t9)],[],0⟩
def Zo2(dn:Int)(t4:List Int)(aw:Int)(aL:Bool):St:=⟨[(1,vI dn),(7,vV Jx t4),(8,vI (Wh t4)),(9,vI aw),(10,vB aL)],[],0⟩
theorem Zqh{dn:Int}{t4:List Int}{K0:Int->Option R}{K1:Int->Bool->Option R}(h0:K0= λt9=>K .ret (Zo1 dn t4 t9))(h1:K1= λaw aL=>K (.exit 0) (Zo2 dn t4 aw aL))(n:Nat)(t6:Int):Zb2 N dn t4 K0 K1 n t6=LM Zh0 N 0 100002 n (Zqg dn t4 t6) K:=by
  subst h0 h1
  induction n generalizing t6 with
  |zero=>kernel_rfl
  |succ n ih=>rw[Zb2];simp only[ih];kernel_rfl
theorem Zte(l1:List Int)(bL:Int):DN Zh0 N (l1,bL,())=Zei N l1 bL:=by
  conv=>rhs;rw[Zei];simp(disch:=exact id (by kernel_rfl)) only[Zqh (R:=Unit×Ki) N (CF Zh0 N [1,0,1,0])]
  kernel_rfl
def Zi3:Gd:=GF Zh0 func69 (λN d=>Zte N d.1 d.2.1)
def Zrf:Fn:=⟨f50,WG,λN=>Sig.of [vf_ Jx,vf_ Ja] [vf_ Ja,vf_ Jq] (λd=>Zd8 N d.1 d.2.1),CX [Zfk,Zc7,Zi3]⟩
def Zgr:Gd:=GF Zrf func50
def Zgs:Fn:=⟨f59,λ |10=>cn_ [1,2,9,13,57]|11=>cn_ [1,2,9,13]|100010=>cn_ [1,2,9,13]|_=>[],λN=>Sig.of [vf_ Jx,vf_ Ja,vf_ Ja] [vf_ Jai,vf_ Ja,vf_ Jq] (λd=>Zc1 N d.1 d.2.1 d.2.2.1),CX [Z4,Zfk,Zc7,Zao,Zi3,Zgr,Zj7,Zjb]⟩
def Zl4(c8:Int)(kq:Int)(dP:Int)(bf:List Int):St:=⟨[(1,vI c8),(2,vI kq),(9,vO 0),(13,vI dP)],[(0,.arr Ja bf)],1⟩
def Zks(c8:Int)(kq:Int)(bf:List Int)(mB:Int)(dH:Bool):St:=⟨[(1,vI c8),(2,vI kq),(9,vO 0),(13,vI mB),(57,vB dH)],[(0,.arr Ja bf)],1⟩
theorem Zl5{c8:Int}{kq:Int}{bf:List Int}{K0:Int->Bool->Option R}(h0:K0= λmB dH=>K (.exit 0) (Zks c8 kq bf mB dH))(n:Nat)(dP:Int):Zbh N c8 kq bf K0 n dP=LM Zgs N 0 100010 n (Zl4 c8 kq dP bf) K:=by
  subst h0
  induction n generalizing dP with
  |zero=>kernel_rfl
  |succ n ih=>rw[Zbh];simp only[ih];kernel_rfl
theorem Zrg(l1:List Int)(bL:Int)(v3:Int):DN Zgs N (l1,bL,v3,())=Zc1 N l1 bL v3:=by
  conv=>rhs;rw[Zc1];simp(disch:=exact id (by kernel_rfl)) only[Zl5 (R:=Unit×(Kg×Kl)) N (CF Zgs N [1,1,1,1,1,0,0])]
  kernel_rfl
def Zia:Gd:=GF Zgs func59 (λN d=>Zrg N d.1 d.2.1 d.2.2.1)
def Zf6:Fn:=⟨f41,λ |5=>cn_ [3,10,11,12,13]|6=>cn_ [3,4,5,10,11,12]|7=>cn_ [3,4,5,10,11,12,18]|8=>cn_ [3,10,11,12]|9=>cn_ [3,10,11,12]|100005=>cn_ [3,10,11,12]|_=>[],λN=>Sig.of [vf_ Jx] [vf_ Jai] (λd=>Zcs N d.1),CX [Zkn,Zrd,Zia]⟩
def Zkb(t4:List Int)(t6:Int)(l7:List Int):St:=⟨[(3,vO 0),(10,vV Jx t4),(11,vI (Wh t4)),(12,vI t6)],[(0,.arr Ja l7)],1⟩
def Zjy(t4:List Int)(aw:Int)(aL:Bool)(ca:List Int):St:=⟨[(3,vO 0),(10,vV Jx t4),(11,vI (Wh t4)),(12,vI aw),(13,vB aL)],[(0,.arr Ja ca)],1⟩
theorem Zkc{t4:List Int}{K0:Int->Bool->Kg->Option R}(h0:K0= λaw aL ca=>K (.exit 0) (Zjy t4 aw aL ca))(n:Nat)(t6:Int)(l7:List Int):Zav N t4 K0 n t6 l7=LM Zf6 N 0 100005 n (Zkb t4 t6 l7) K:=by
  subst h0
  induction n generalizing t6 l7 with
  |zero=>kernel_rfl
  |succ n ih=>rw[Zav];simp only[ih];kernel_rfl
theorem Zo3(m1:List Int):DN Zf6 N (m1,())=Zcs N m1:=by
  conv=>rhs;rw[Zcs];simp(disch:=exact id (by kernel_rfl)) only[Zkc (R:=Unit×Kac) N (CF Zf6 N [1,1,1,0,1,0])]
  kernel_rfl
def Zo4:Gd:=GF Zf6 func41 (λN d=>Zo3 N d.1)
def Zg9:Fn:=⟨f42,λ |5=>cn_ [2,4,12,13,14,15]|6=>cn_ [2,4,6,12,13,14]|7=>cn_ [2,4,12,13,14]|8=>cn_ [2,4,12,13,14]|100005=>[.adoptC 4 1 Jl,.canon [2,4,12,13,14]]|_=>[],λN=>Sig.of [vf_ Jx] [vt_ Jk,vf_ Jq] (λd=>Zev N d.1),CX [Zep]⟩
def Znu(t3:List Int)(t5:Int)(l8:List Kb):St:=⟨[(2,vP 0 0),(4,vP 1 0),(12,vV Jx t3),(13,vI (Wh t3)),(14,vI t5)],[(0,.box [.val Ja (0:Int),.nils]),(1,.box [.val Ja (0:Int),.own 2]),(2,.arr Jl l8)],3⟩
def Zl6(t3:List Int)(t9:Int)(aw:Bool)(ci:List Kb):St:=⟨[(2,vP 0 0),(4,vP 1 0),(12,vV Jx t3),(13,vI (Wh t3)),(14,vI t9),(15,vB aw)],[(0,.box [.val Ja (0:Int),.nils]),(1,.box [.val Ja (0:Int),.own 2]),(2,.arr Jl ci)],3⟩
theorem Znv{t3:List Int}{K0:Int->Bool->Ks->Option R}(h0:K0= λt9 aw ci=>K (.exit 0) (Zl6 t3 t9 aw ci))(n:Nat)(t5:Int)(l8:List Kb):Zby N t3 K0 n t5 l8=LM Zg9 N 0 100005 n (Znu t3 t5 l8) K:=by
  subst h0
  induction n generalizing t5 l8 with
  |zero=>kernel_rfl
  |succ n ih=>rw[Zby];simp only[ih];kernel_rfl
theorem Zsh(l1:List Int):DN Zg9 N (l1,())=Zev N l1:=by
  conv=>rhs;rw[Zev];simp(disch:=exact id (by kernel_rfl)) only[Znv (R:=Unit×(Kw×Kr)) N (CF Zg9 N [1,1,1,0,1,0])]
  kernel_rfl
def Zsi:Gd:=GF Zg9 func42 (λN d=>Zsh N d.1)
def Zo5:Fn:=⟨f76,WG,λN=>Sig.of [.box Jab] [] (λd=>Zan N d.1),WaN⟩
def Zeq:Gd:=GN Zo5 func76
def Zfq:Fn:=⟨f77,λ |3=>cn_ [0,1,4,5,17,18,19,20]|4=>cn_ [0,1,4,5,6,7,17,18,19]|5=>cn_ [0,1,4,5,17,18,19]|6=>cn_ [0,1,4,5,17,18,19]|100003=>cn_ [0,1,4,5,17,18,19]|_=>[],λN=>Sig.of [.box Jv,vf_ Ja] [] (λd=>Zdv N d.1 d.2.1),WaN⟩
def Zjz(k3:Int)(r4:Nat)(cC:Bool)(t6:Int)(t7:Int)(b8:Int)(b9:Int)(aQ:Int)(bP:Int)(ca:List Y_Root)(bb:List Kb)(aU:List Int)(bf:List Kb)(bR:List Ko):St:=⟨[(0,vP 0 0),(1,vI k3),(4,.s (.one (.eptr 1 r4 0))),(5,vB cC),(17,vO 1),(18,vI t6),(19,vI t7)],[(0,.box [.val Ja b8,.val Ja b9,.val Ja aQ,.own 2,.own 3,.val Ja bP,.own 4,.own 1,.own 5]),(1,.arr Jab ca),(2,.arr Jl bb),(3,.arr Ja aU),(4,.arr Jl bf),(5,.arr Jj bR)],6⟩
def Zjp(k3:Int)(r4:Nat)(t6:Int)(b8:Int)(b9:Int)(aQ:Int)(bP:Int)(ca:List Y_Root)(bb:List Kb)(aU:List Int)(bf:List Kb)(bR:List Ko)(eR:Bool)(eC:Int)(eO:Bool):St:=⟨[(0,vP 0 0),(1,vI k3),(4,.s (.one (.eptr 1 r4 0))),(5,vB eR),(17,vO 1),(18,vI t6),(19,vI eC),(20,vB eO)],[(0,.box [.val Ja b8,.val Ja b9,.val Ja aQ,.own 2,.own 3,.val Ja bP,.own 4,.own 1,.own 5]),(1,.arr Jab ca),(2,.arr Jl bb),(3,.arr Ja aU),(4,.arr Jl bf),(5,.arr Jj bR)],6⟩
theorem Zj0{k3:Int}{r4:Nat}{t6:Int}{b8:Int}{b9:Int}{aQ:Int}{bP:Int}{ca:List Y_Root}{bb:List Kb}{aU:List Int}{bf:List Kb}{bR:List Ko}{K0:Bool->Int->Bool->Option R}(h0:K0= λeR eC eO=>K (.exit 0) (Zjp k3 r4 t6 b8 b9 aQ bP ca bb aU bf bR eR eC eO))(n:Nat)(cC:Bool)(t7:Int):Zad N k3 r4 t6 b8 b9 aQ bP ca bb aU bf bR K0 n cC t7=LM Zfq N 0 100003 n (Zjz k3 r4 cC t6 t7 b8 b9 aQ bP ca bb aU bf bR) K:=by
  subst h0
  induction n generalizing cC t7 with
  |zero=>kernel_rfl
  |succ n ih=>rw[Zad];simp only[ih];kernel_rfl
theorem Znw(w1:Y_World)(k2:Int):DN Zfq N (w1,k2,())=Zdv N w1 k2:=by
  conv=>rhs;rw[Zdv];simp(disch:=exact id (by kernel_rfl)) only[Zj0 (R:=(Y_World×Unit)×Unit) N (CF Zfq N [1,1,0,1,0])]
  kernel_rfl
def Znx:Gd:=GN Zfq func77 (λN d=>Znw N d.1 d.2.1)
def Zsj:Fn:=⟨f147,WG,λN=>Sig.of [vf_ Ja,vf_ Ja,vf_ Ja] [vf_ Jq] (λd=>Zft N d.1 d.2.1 d.2.2.1),CX [Zm]⟩
def Zj8:Gd:=GF Zsj func147
def Zkt:Fn:=⟨f148,WG,λN=>Sig.of [vt_ Jl,vt_ Jl] [vf_ Ja] (λd=>Zfo N d.1 d.2.1),WaN⟩
def Zku:Gd:=GN Zkt func148
def Zgt:Fn:=⟨f109,λ |2=>cn_ [0,5,6,7,8]|3=>cn_ [0,3,4,5,6,7]|4=>cn_ [0,3,4,5,6,7,33]|5=>cn_ [2]|6=>cn_ [0,5,6,7,60]|7=>cn_ [2]|8=>cn_ [0,5,6,7]|100002=>cn_ [0,5,6,7]|_=>[],λN=>Sig.of [vf_ Je] [vf_ Jq] (λd=>Zc2 N d.1),CX [Zj8,Zku]⟩
def Zl7(l2:List Kb)(t5:Int):St:=⟨[(0,vV Je l2),(5,vV Je l2),(6,vI (Wh l2)),(7,vI t5)],[],0⟩
def Zkv(l2:List Kb):St:=⟨[(2,vB false)],[],0⟩
def Zkw(l2:List Kb)(aw:Int)(aL:Bool):St:=⟨[(0,vV Je l2),(5,vV Je l2),(6,vI (Wh l2)),(7,vI aw),(8,vB aL)],[],0⟩
theorem Zl8{l2:List Kb}{K0:Option R}{K1:Int->Bool->Option R}(h0:K0=K .ret (Zkv l2))(h1:K1= λaw aL=>K (.exit 0) (Zkw l2 aw aL))(n:Nat)(t5:Int):Zab N l2 K0 K1 n t5=LM Zgt N 0 100002 n (Zl7 l2 t5) K:=by
  subst h0 h1
  induction n generalizing t5 with
  |zero=>kernel_rfl
  |succ n ih=>rw[Zab];simp only[ih];kernel_rfl
theorem Zrh(l1:List Kb):DN Zgt N (l1,())=Zc2 N l1:=by
  conv=>rhs;rw[Zc2];simp(disch:=exact id (by kernel_rfl)) only[Zl8 (R:=Unit×Kr) N (CF Zgt N [1,0,1,0])]
  kernel_rfl
def Zgu:Gd:=GF Zgt func109 (λN d=>Zrh N d.1)
def Zgv:Fn:=⟨f120,λ |5=>cn_ [1,5,12,13,14,15]|6=>cn_ [1,5,7,12,13,14]|7=>cn_ [1,5,7,12,13,14,21]|8=>cn_ [1,5,12,13,14]|9=>cn_ [1,5,12,13,14]|100005=>cn_ [1,5,12,13,14]|_=>[],λN=>Sig.of [vf_ Je,vf_ Ja] [vf_ Jai] (λd=>Zd9 N d.1 d.2.1),CX [Zgu]⟩
def Zl9(dQ:Int)(t5:List Kb)(t7:Int)(l8:List Int):St:=⟨[(1,vI dQ),(5,vO 0),(12,vV Je t5),(13,vI (Wh t5)),(14,vI t7)],[(0,.arr Ja l8)],1⟩
def Zkx(dQ:Int)(t5:List Kb)(t9:Int)(aw:Bool)(ci:List Int):St:=⟨[(1,vI dQ),(5,vO 0),(12,vV Je t5),(13,vI (Wh t5)),(14,vI t9),(15,vB aw)],[(0,.arr Ja ci)],1⟩
theorem Zma{dQ:Int}{t5:List Kb}{K0:Int->Bool->Kg->Option R}(h0:K0= λt9 aw ci=>K (.exit 0) (Zkx dQ t5 t9 aw ci))(n:Nat)(t7:Int)(l8:List Int):Za7 N dQ t5 K0 n t7 l8=LM Zgv N 0 100005 n (Zl9 dQ t5 t7 l8) K:=by
  subst h0
  induction n generalizing t7 l8 with
  |zero=>kernel_rfl
  |succ n ih=>rw[Za7];simp only[ih];kernel_rfl
theorem Zri(l1:List Kb)(cb:Int):DN Zgv N (l1,cb,())=Zd9 N l1 cb:=by
  conv=>rhs;rw[Zd9];simp(disch:=exact id (by kernel_rfl)) only[Zma (R:=Unit×Kac) N (CF Zgv N [1,1,1,0,1,0])]
  kernel_rfl
def Zrj:Gd:=GF Zgv func120 (λN d=>Zri N d.1 d.2.1)
def Zo6:Fn:=⟨f85,λ |0=>[.opn 10]|_=>[],λN=>Sig.of [.box Jv,vf_ Ja] [] (λd=>Zea N d.1 d.2.1),WaN⟩
def Zix:Gd:=GN Zo6 func85
def Zrk:Fn:=⟨f154,WG,λN=>Sig.of [vf_ Ja] [vf_ Jq] (λd=>Zc3 N d.1),CX [Zm]⟩
def Zfl:Gd:=GF Zrk func154
def Zha:Fn:=⟨f150,λ |2=>cn_ [0,5,6,7,8]|3=>cn_ [0,4,5,6,7]|4=>cn_ [0,5,6,7,20]|5=>cn_ [2]|6=>cn_ [0,5,6,7]|100002=>cn_ [0,5,6,7]|_=>[],λN=>Sig.of [vf_ Jah] [vf_ Jq] (λd=>Zbo N d.1),CX [Za4,Zao]⟩
def Zny(l2:List Kc)(t5:Int):St:=⟨[(0,vV Jah l2),(5,vV Jah l2),(6,vI (Wh l2)),(7,vI t5)],[],0⟩
def Zmb(l2:List Kc):St:=⟨[(2,vB false)],[],0⟩
def Zmc(l2:List Kc)(aw:Int)(aL:Bool):St:=⟨[(0,vV Jah l2),(5,vV Jah l2),(6,vI (Wh l2)),(7,vI aw),(8,vB aL)],[],0⟩
theorem Znz{l2:List Kc}{K0:Option R}{K1:Int->Bool->Option R}(h0:K0=K .ret (Zmb l2))(h1:K1= λaw aL=>K (.exit 0) (Zmc l2 aw aL))(n:Nat)(t5:Int):Zbx N l2 K0 K1 n t5=LM Zha N 0 100002 n (Zny l2 t5) K:=by
  subst h0 h1
  induction n generalizing t5 with
  |zero=>kernel_rfl
  |succ n ih=>rw[Zbx];simp only[ih];kernel_rfl
theorem Zsk(l1:List Kc):DN Zha N (l1,())=Zbo N l1:=by
  conv=>rhs;rw[Zbo];simp(disch:=exact id (by kernel_rfl)) only[Znz (R:=Unit×Kr) N (CF Zha N [1,0,1,0])]
  kernel_rfl
def Zhb:Gd:=GF Zha func150 (λN d=>Zsk N d.1)
def Zh1:Fn:=⟨f122,λ |4=>cn_ [0,1,6,14]|5=>cn_ [0,1,6]|6=>cn_ [0,1,6,23]|7=>cn_ [4,5]|100004=>cn_ [0,1,6]|_=>[],λN=>Sig.of [vf_ Jah,vf_ Ja] [vf_ Ja,vf_ Jq] (λd=>Ze2 N d.1 d.2.1),CX [Zhb]⟩
def Zqi(l4:List Kc)(cn:Int)(i6:Int):St:=⟨[(0,vV Jah l4),(1,vI cn),(6,vI i6)],[],0⟩
def Zo7(l4:List Kc)(cn:Int)(t7:Int):St:=⟨[(4,vI t7),(5,vB true)],[],0⟩
def Zo8(l4:List Kc)(cn:Int)(i8:Int)(t9:Bool):St:=⟨[(0,vV Jah l4),(1,vI cn),(6,vI i8),(14,vB t9)],[],0⟩
theorem Zqj{l4:List Kc}{cn:Int}{K0:Int->Option R}{K1:Int->Bool->Option R}(h0:K0= λt7=>K .ret (Zo7 l4 cn t7))(h1:K1= λi8 t9=>K (.exit 0) (Zo8 l4 cn i8 t9))(n:Nat)(i6:Int):Zer N l4 cn K0 K1 n i6=LM Zh1 N 0 100004 n (Zqi l4 cn i6) K:=by
  subst h0 h1
  induction n generalizing i6 with
  |zero=>kernel_rfl
  |succ n ih=>rw[Zer];simp only[ih];kernel_rfl
theorem Ztf(l1:List Kc)(eA:Int):DN Zh1 N (l1,eA,())=Ze2 N l1 eA:=by
  conv=>rhs;rw[Ze2];simp(disch:=exact id (by kernel_rfl)) only[Zqj (R:=Unit×Kl) N (CF Zh1 N [1,1,0,1,0])]
  kernel_rfl
def Zi4:Gd:=GF Zh1 func122 (λN d=>Ztf N d.1 d.2.1)
def Zik:Fn:=⟨f114,λ |5=>cn_ [0,3,11,12]|6=>cn_ [0,3,4,11]|7=>cn_ [0,3,4,5,6,11]|8=>cn_ [0,3,4,5,11,20]|9=>cn_ [0,3,11]|10=>cn_ [0,3,11]|100005=>cn_ [0,3,11]|_=>[],λN=>Sig.of [vf_ Jah] [vf_ (.own Jw)] (λd=>Zeh N d.1),CX [Zhb,Zi4]⟩
def Zrl(l3:List Kc)(t4:Int)(l5:List Kc):St:=⟨[(0,vV Jah l3),(3,vO 0),(11,vI t4)],[(0,.arr Jw l5)],1⟩
def Zqk(l3:List Kc)(t7:Int)(t8:Bool)(l9:List Kc):St:=⟨[(0,vV Jah l3),(3,vO 0),(11,vI t7),(12,vB t8)],[(0,.arr Jw l9)],1⟩
theorem Zrm{l3:List Kc}{K0:Int->Bool->Kx->Option R}(h0:K0= λt7 t8 l9=>K (.exit 0) (Zqk l3 t7 t8 l9))(n:Nat)(t4:Int)(l5:List Kc):Zd7 N l3 K0 n t4 l5=LM Zik N 0 100005 n (Zrl l3 t4 l5) K:=by
  subst h0
  induction n generalizing t4 l5 with
  |zero=>kernel_rfl
  |succ n ih=>rw[Zd7];simp only[ih];kernel_rfl
theorem Zty(l1:List Kc):DN Zik N (l1,())=Zeh N l1:=by
  conv=>rhs;rw[Zeh];simp(disch:=exact id (by kernel_rfl)) only[Zrm (R:=Unit×(Kx×Unit)) N (CF Zik N [1,1,1,0,1,0])]
  kernel_rfl
def Zil:Gd:=GF Zik func114 (λN d=>Zty N d.1)
def Zgw:Fn:=⟨f155,λ |3=>cn_ [3,8,9,10,11]|4=>cn_ [3,5,8,9,10]|5=>cn_ [3,8,9,10]|6=>cn_ [3,8,9,10]|100003=>cn_ [3,8,9,10]|_=>[],λN=>Sig.of [vf_ Jah] [vf_ Jai] (λd=>Ze6 N d.1),CX [Zil]⟩
def Zmd(t3:Int)(t4:Int)(l5:List Int)(l6:List Kc):St:=⟨[(3,vO 0),(8,vO 1),(9,vI t3),(10,vI t4)],[(0,.arr Ja l5),(1,.arr Jw l6)],2⟩
def Zky(t3:Int)(l6:List Kc)(t7:Int)(t8:Bool)(l9:List Int):St:=⟨[(3,vO 0),(8,vO 1),(9,vI t3),(10,vI t7),(11,vB t8)],[(0,.arr Ja l9),(1,.arr Jw l6)],2⟩
theorem Zme{t3:Int}{l6:List Kc}{K0:Int->Bool->Kg->Option R}(h0:K0= λt7 t8 l9=>K (.exit 0) (Zky t3 l6 t7 t8 l9))(n:Nat)(t4:Int)(l5:List Int):Zbi N t3 l6 K0 n t4 l5=LM Zgw N 0 100003 n (Zmd t3 t4 l5 l6) K:=by
  subst h0
  induction n generalizing t4 l5 with
  |zero=>kernel_rfl
  |succ n ih=>rw[Zbi];simp only[ih];kernel_rfl
theorem Zrn(l1:List Kc):DN Zgw N (l1,())=Ze6 N l1:=by
  conv=>rhs;rw[Ze6];simp(disch:=exact id (by kernel_rfl)) only[Zme (R:=Unit×Kac) N (CF Zgw N [1,1,0,1,0])]
  kernel_rfl
def Zro:Gd:=GF Zgw func155 (λN d=>Zrn N d.1)
def Zo9:Fn:=⟨f121,WG,λN=>Sig.of [vf_ Ja,vf_ Ja,vf_ Jah,vf_ Jah] [vt_ Jd,vf_ Jq] (λd=>Zct N d.1 d.2.1 d.2.2.1 d.2.2.2.1),CX [Zfl,Zm,Zhb,Zil,Zro]⟩
def Zpa:Gd:=GF Zo9 func121
def Zmf:Fn:=⟨f95,λ |0=>[.opn 13]|_=>[],λN=>Sig.of [.box Jv,vf_ Ja,vf_ Ja] [] (λd=>Zem N d.1 d.2.1 d.2.2.1),CX [Zrj,Zix,Zpa]⟩
def Zim:Gd:=GF Zmf func95
def Zql:Fn:=⟨f123,WG,λN=>Sig.of [vf_ Ja] [vt_ Jz,vf_ Jq] (λd=>Zdk N d.1),CX [Za4]⟩
def Zjc:Gd:=GF Zql func123
def Zhn:Fn:=⟨f140,λ |2=>cn_ [1,6,7,8,9]|3=>cn_ [1,4,6,7,8]|4=>cn_ [1,6,7,8,29]|5=>cn_ [2]|6=>cn_ [1,6,7,8]|100002=>cn_ [1,6,7,8]|_=>[],λN=>Sig.of [vt_ Jac] [vf_ Jq] (λd=>Zbg N d.1),CX [Zao,Zm]⟩
def Zpb(t2:List Kb)(t4:Int)(b5:Int×List Kb):St:=⟨[(1,vP 0 0),(6,vV Je t2),(7,vI (Wh b5.2)),(8,vI t4)],[(0,.box [.val Ja b5.1,.val Je b5.2])],1⟩
def Zn0(t2:List Kb)(b5:Int×List Kb):St:=⟨[(2,vB false)],[],0⟩
def Zn1(t2:List Kb)(b5:Int×List Kb)(aC:Int)(aZ:Bool):St:=⟨[(1,vP 0 0),(6,vV Je t2),(7,vI (Wh b5.2)),(8,vI aC),(9,vB aZ)],[(0,.box [.val Ja b5.1,.val Je b5.2])],1⟩
theorem Zpc{t2:List Kb}{b5:Int×List Kb}{K0:Option R}{K1:Int->Bool->Option R}(h0:K0=K .ret (Zn0 t2 b5))(h1:K1= λaC aZ=>K (.exit 0) (Zn1 t2 b5 aC aZ))(n:Nat)(t4:Int):Zco N t2 b5 K0 K1 n t4=LM Zhn N 0 100002 n (Zpb t2 t4 b5) K:=by
  subst h0 h1
  induction n generalizing t4 with
  |zero=>kernel_rfl
  |succ n ih=>rw[Zco];simp only[ih];kernel_rfl
theorem Zs6(m1:Int×List Kb):DN Zhn N (m1,())=Zbg N m1:=by
  conv=>rhs;rw[Zbg];simp(disch:=exact id (by kernel_rfl)) only[Zpc (R:=Unit×Kr) N (CF Zhn N [1,0,1,0])]
  kernel_rfl
def Zfa:Gd:=GF Zhn func140 (λN d=>Zs6 N d.1)
def Zrp:Fn:=⟨f156,WG,λN=>Sig.of [vt_ Jz] [vf_ Jq] (λd=>Zhg N d.1),CX [Za4,Zm,Zao]⟩
def Zrq:Gd:=GF Zrp func156
def Zpd:Fn:=⟨f124,WG,λN=>Sig.of [vt_ Jac,vf_ Ja,vt_ Jz] [vt_ Jz] (λd=>Zcp N d.1 d.2.1 d.2.2.1),CX [Zfa,Zrq]⟩
def Ziy:Gd:=GF Zpd func124
def Zkd:Fn:=⟨f125,WG,λN=>Sig.of [.box Jab] [] (λd=>Zbs N d.1),CX [Zeq]⟩
def Zhv:Gd:=GF Zkd func125
def Zn2:Fn:=⟨f96,λ |1000000=>[.unfE 1]|_=>[],λN=>Sig.of [.boxal Jv 3,vt_ Jz] [] (λd=>Zga N d.1 d.2.1 d.2.2.1),CX [Zi4,Zjc,Ziy,Zhv]⟩
def Zn3:Gd:=GF Zn2 func96
def Zib:Nat->List Ghost:=λ |0=>[.unfC 0 15 none]|_=>[]
def Zic(N:Nat):Sig:=.inline (Inl.of tab Zib Tryz.f80.ntmps (Wln Tryz.f80) Tryz.f80.results.toList (by kernel_rfl))
theorem Zkz(N:Nat):GW 80 (Zic N):=⟨WcY Tryz.func80 (by kernel_rfl),Wq1 mixedOk tabOk Tryz.func80 (by kernel_rfl) (by kernel_rfl) (by kernel_rfl) (λid=>by unfold Zib;split<;>rfl)⟩
def Zid:Gd:=⟨80,Zic,Zkz⟩
def Zpe:Fn:=⟨f132,WG,λN=>Sig.of [vt_ (.prod Jx Ja)] [vt_ Jp] (λd=>Zff N d.1),CX [Z4]⟩
def Ziz:Gd:=GF Zpe func132
def Zrr:Fn:=⟨f133,WG,λN=>Sig.of [vt_ (.prod Jx Ja)] [vf_ Jq] (λd=>Zgg N d.1),CX [Zfk,Zao]⟩
def Zjq:Gd:=GF Zrr func133
def Zsl:Fn:=⟨f134,WG,λN=>Sig.of [vt_ Jl] [vf_ Jq] (λd=>Zhx N d.1),CX [Zc7,Zao]⟩
def Zsm:Gd:=GF Zsl func134
def Zqm:Fn:=⟨f135,WG,λN=>Sig.of [vf_ Jx,vf_ Ja] [vf_ Jai,vf_ Ja,vf_ Jq] (λd=>Zfz N d.1 d.2.1),CX [Z4,Zfk,Zc7,Zi3,Zgr]⟩
def Zjd:Gd:=GF Zqm func135
def Zrs:Fn:=⟨f104,WG,λN=>Sig.of [vt_ (.prod Jx Ja),vt_ Jl] [vt_ Jp,vf_ Jq] (λd=>Zhh N d.1 d.2.1),CX [Ziz,Zjq,Zsm,Zia,Zjd]⟩
def Zrt:Gd:=GF Zrs func104
def Zn4:Fn:=⟨f81,λ |1000000=>[.unfE 1]|_=>[],λN=>Sig.of [.boxal Jv 3] [] (λd=>Zbc N d.1 d.2.1),CX [Zrt]⟩
def Zin:Gd:=GF Zn4 func81
def Zqn:Fn:=⟨f105,WG,λN=>Sig.of [vf_ Jah] [vf_ (.own Jw)] (λd=>Zau N d.1),WaN⟩
def Ze0:Gd:=GN Zqn func105
def Zho:Fn:=⟨f126,λ |5=>cn_ [0,5,6,25]|6=>cn_ [0,5,6]|7=>cn_ [0,5,6]|8=>cn_ [0,5,6,36]|9=>cn_ [4]|100005=>cn_ [0,5,6]|_=>[],λN=>Sig.of [vf_ Jc,vf_ Ja] [vf_ Ja] (λd=>Zfc N d.1 d.2.1),CX [Zm,Zit]⟩
def Zpf(bJ:List Ka)(n5:Int)(k6:Int):St:=⟨[(0,vV Jc bJ),(5,vI n5),(6,vI k6)],[],0⟩
def Zn5(bJ:List Ka)(t8:Int):St:=⟨[(4,vI t8)],[],0⟩
def Zn6(bJ:List Ka)(n9:Int)(k10:Int)(aL:Bool):St:=⟨[(0,vV Jc bJ),(5,vI n9),(6,vI k10),(25,vB aL)],[],0⟩
theorem Zpg{bJ:List Ka}{K0:Int->Option R}{K1:Int->Int->Bool->Option R}(h0:K0= λt8=>K .ret (Zn5 bJ t8))(h1:K1= λn9 k10 aL=>K (.exit 0) (Zn6 bJ n9 k10 aL))(n:Nat)(n5:Int)(k6:Int):Zcq N bJ K0 K1 n n5 k6=LM Zho N 0 100005 n (Zpf bJ n5 k6) K:=by
  subst h0 h1
  induction n generalizing n5 k6 with
  |zero=>kernel_rfl
  |succ n ih=>rw[Zcq];simp only[ih];kernel_rfl
theorem Zs7(ai:List Ka)(i2:Int):DN Zho N (ai,i2,())=Zfc N ai i2:=by
  conv=>rhs;rw[Zfc];simp(disch:=exact id (by kernel_rfl)) only[Zpg (R:=Unit×Ki) N (CF Zho N [1,1,1,0,1,0])]
  kernel_rfl
def Zk0:Gd:=GF Zho func126 (λN d=>Zs7 N d.1 d.2.1)
def Zmg:Fn:=⟨f97,λ |0=>[.opn 13]|5=>[.shutD 34 15]|_=>[],λN=>Sig.of [.box Jv,vf_ Ja,vf_ Jc] [] (λd=>Zf0 N d.1 d.2.1 d.2.2.1),CX [Zim,Zid,Zin,Z4,Ze0,Zk0]⟩
def Zmh:Gd:=GF Zmg func97
def Zdx:Fn:=⟨f98,λ |3=>cn_ [1,3,8,9,19,20,21,22]|4=>cn_ [1,3,8,9,11,19,20,21]|5=>cn_ [1,3,8,9,19,20,21]|6=>cn_ [1,3,8,9,19,20,21]|8=>cn_ [1,8,9,36,37,38]|9=>[.nest 44 Ji,.canon [1,8,9,36,37]]|10=>cn_ [1,8,9,36,37]|100003=>[.adoptC 9 6 Jl,.canon [1,3,8,9,19,20,21]]|100008=>[.adoptC 9 9 Ji,.canon [1,8,9,36,37]]|_=>[],λN=>Sig.of [vf_ Ja,vf_ Jx,vf_ Jah,vf_ Ja] [vt_ Jaa] (λd=>Zes N d.1 d.2.1 d.2.2.1 d.2.2.2.1),CX [Z4,Zil]⟩
def Zk1(cW:List Int)(cX:Int)(t9:Int)(aw:Int)(bB:Int)(cM:List Kc)(cR:List Int)(eW:List Kb):St:=⟨[(1,vV Jx cW),(3,vI cX),(8,vP 0 0),(9,vP 1 0),(19,vO 2),(20,vI t9),(21,vI aw)],[(0,.box [.val Ja (0:Int),.val Ja (0:Int),.val Ja (0:Int),.val Jq false,.nils,.nils,.nils,.nils,.nils,.nils]),(1,.box [.val Ja bB,.val Ja (0:Int),.val Ja (0:Int),.val Jq false,.own 3,.own 2,.own 4,.nils,.nils,.nils]),(2,.arr Jw cM),(3,.arr Ja cR),(4,.arr Jl eW)],5⟩
def Zke(cW:List Int)(cX:Int)(t9:Int)(bB:Int)(cM:List Kc)(cR:List Int)(t22:Int)(dR:Bool)(cZ:List Kb):St:=⟨[(1,vV Jx cW),(3,vI cX),(8,vP 0 0),(9,vP 1 0),(19,vO 2),(20,vI t9),(21,vI t22),(22,vB dR)],[(0,.box [.val Ja (0:Int),.val Ja (0:Int),.val Ja (0:Int),.val Jq false,.nils,.nils,.nils,.nils,.nils,.nils]),(1,.box [.val Ja bB,.val Ja (0:Int),.val Ja (0:Int),.val Jq false,.own 3,.own 2,.own 4,.nils,.nils,.nils]),(2,.arr Jw cM),(3,.arr Ja cR),(4,.arr Jl cZ)],5⟩
theorem Zk2{cW:List Int}{cX:Int}{t9:Int}{bB:Int}{cM:List Kc}{cR:List Int}{K0:Int->Bool->Ks->Option R}(h0:K0= λt22 dR cZ=>K (.exit 0) (Zke cW cX t9 bB cM cR t22 dR cZ))(n:Nat)(aw:Int)(eW:List Kb):Zbd N cW cX t9 bB cM cR K0 n aw eW=LM Zdx N 0 100003 n (Zk1 cW cX t9 aw bB cM cR eW) K:=by
  subst h0
  induction n generalizing aw eW with
  |zero=>kernel_rfl
  |succ n ih=>rw[Zbd];simp only[ih];kernel_rfl
def Zk3(bX:List Int)(jf:Int)(jL:Int)(hD:Int)(kn:List Int)(ko:List Kc)(jg:List Kb)(gM:List Y_KidRun):St:=⟨[(1,vV Jx bX),(8,vP 0 0),(9,vP 1 0),(36,vI jf),(37,vI jL)],[(0,.box [.val Ja (0:Int),.val Ja (0:Int),.val Ja (0:Int),.val Jq false,.nils,.nils,.nils,.nils,.nils,.nils]),(1,.box [.val Ja hD,.val Ja (0:Int),.val Ja (0:Int),.val Jq false,.own 2,.own 3,.own 4,.nils,.nils,.own 5]),(2,.arr Ja kn),(3,.arr Jw ko),(4,.arr Jl jg),(5,.arr Ji gM)],6⟩
def Zkf(bX:List Int)(jf:Int)(hD:Int)(kn:List Int)(ko:List Kc)(jg:List Kb)(t45:Int)(t46:Bool)(hZ:List Y_KidRun):St:=⟨[(1,vV Jx bX),(8,vP 0 0),(9,vP 1 0),(36,vI jf),(37,vI t45),(38,vB t46)],[(0,.box [.val Ja (0:Int),.val Ja (0:Int),.val Ja (0:Int),.val Jq false,.nils,.nils,.nils,.nils,.nils,.nils]),(1,.box [.val Ja hD,.val Ja (0:Int),.val Ja (0:Int),.val Jq false,.own 2,.own 3,.own 4,.nils,.nils,.own 5]),(2,.arr Ja kn),(3,.arr Jw ko),(4,.arr Jl jg),(5,.arr Ji hZ)],6⟩
theorem Zk4{bX:List Int}{jf:Int}{hD:Int}{kn:List Int}{ko:List Kc}{jg:List Kb}{K0:Int->Bool->(List Y_KidRun)->Option R}(h0:K0= λt45 t46 hZ=>K (.exit 2) (Zkf bX jf hD kn ko jg t45 t46 hZ))(n:Nat)(jL:Int)(gM:List Y_KidRun):Zap N bX jf hD kn ko jg K0 n jL gM=LM Zdx N 1 100008 n (Zk3 bX jf jL hD kn ko jg gM) K:=by
  subst h0
  induction n generalizing jL gM with
  |zero=>kernel_rfl
  |succ n ih=>rw[Zap];simp only[ih];kernel_rfl
theorem Zqo(nl:Int)(aV:List Int)(dK:List Kc)(fq:Int):DN Zdx N (nl,aV,dK,fq,())=Zes N nl aV dK fq:=by
  conv=>rhs;rw[Zes];simp(disch:=exact id (by kernel_rfl)) only[Zk2 (R:=Unit×(Y_Family×Unit)) N (CF Zdx N [1,1,0,1,0]),Zk4 (R:=Unit×(Y_Family×Unit)) N (CF Zdx N [1,1,1,0,1,0])]
  kernel_rfl
def Zqp:Gd:=GF Zdx func98 (λN d=>Zqo N d.1 d.2.1 d.2.2.1 d.2.2.2.1)
def Zph:Fn:=⟨f127,WG,λN=>Sig.of [vt_ Jz] [vf_ Ja,vf_ Ja] (λd=>Zgn N d.1),CX [Zg3]⟩
def Zpi:Gd:=GF Zph func127
def Zpj:Fn:=⟨f108,WG,λN=>Sig.of [vf_ Je] [vf_ (.own Jl)] (λd=>Zcu N d.1),WaN⟩
def Zi0:Gd:=GN Zpj func108
def Zhc:Fn:=⟨f157,λ |5=>cn_ [1,2,3,9,21,22,23,24]|6=>cn_ [1,2,3,9,11,21,22,23]|7=>cn_ [1,2,3,9,11,21,22,23,45]|8=>cn_ [1,2,3,9,21,22,23]|9=>cn_ [1,2,3,9,21,22,23]|100005=>cn_ [1,2,3,9,21,22,23]|_=>[],λN=>Sig.of [vf_ Je,vf_ Ja,vf_ Ja,vf_ Ja] [vf_ Jai] (λd=>Zfu N d.1 d.2.1 d.2.2.1 d.2.2.2.1),CX [Zgu,Zm]⟩
def Zn7(c9:Int)(bS:Int)(bT:Int)(aw:List Kb)(aC:Int)(bb:List Int):St:=⟨[(1,vI c9),(2,vI bS),(3,vI bT),(9,vO 0),(21,vV Je aw),(22,vI (Wh aw)),(23,vI aC)],[(0,.arr Ja bb)],1⟩
def Zmi(c9:Int)(bS:Int)(bT:Int)(aw:List Kb)(eJ:Int)(bD:Bool)(bR:List Int):St:=⟨[(1,vI c9),(2,vI bS),(3,vI bT),(9,vO 0),(21,vV Je aw),(22,vI (Wh aw)),(23,vI eJ),(24,vB bD)],[(0,.arr Ja bR)],1⟩
theorem Zn8{c9:Int}{bS:Int}{bT:Int}{aw:List Kb}{K0:Int->Bool->Kg->Option R}(h0:K0= λeJ bD bR=>K (.exit 0) (Zmi c9 bS bT aw eJ bD bR))(n:Nat)(aC:Int)(bb:List Int):Zak N c9 bS bT aw K0 n aC bb=LM Zhc N 0 100005 n (Zn7 c9 bS bT aw aC bb) K:=by
  subst h0
  induction n generalizing aC bb with
  |zero=>kernel_rfl
  |succ n ih=>rw[Zak];simp only[ih];kernel_rfl
theorem Zsn(l1:List Kb)(cb:Int)(cd:Int)(bU:Int):DN Zhc N (l1,cb,cd,bU,())=Zfu N l1 cb cd bU:=by
  conv=>rhs;rw[Zfu];simp(disch:=exact id (by kernel_rfl)) only[Zn8 (R:=Unit×Kac) N (CF Zhc N [1,1,1,0,1,0])]
  kernel_rfl
def Zso:Gd:=GF Zhc func157 (λN d=>Zsn N d.1 d.2.1 d.2.2.1 d.2.2.2.1)
def Zat(N:Nat):Sig:=Sig.of [.mut Jl,.clos 148 0] [] (λd=>Zo N d.1)
theorem Zdd:WrC Tryz.prog 148 Jl Wr2 cfH:=by
  intro G x y us vs w hx hy h1 h2;obtain⟨_,_,rfl,a1,_,_,rfl,a2,a3⟩:=h1;obtain⟨_,_,rfl,b1,_,_,rfl,b2,b3⟩:=h2;simp only[Enc]at a1 a2 a3 b1 b2 b3;subst a1 a2 a3 b1 b2 b3;simp only[Xaq,Xbn];unfold Wr2 at hx hy;simp only[Xg]at hx hy
  go_enter Tryz.func148,Tryz.ntmps148
  go_wp2
  rw[Wpm (a:=x.2.1) (b:=y.2.1),Result.andThen_ok];rw[WrK (a:=x.2.1) (b:=y.2.1),Result.andThen_ok];rcases hb:(bne (α:=Int) x.2.1 y.2.1)with _|_
  . go_wp2
    rw[Wlv (Wfo hx.1) (Wfo hy.1) (WsK hb)]
    go_wp2
    go_ret
    exact⟨rfl,WiY _ _ _⟩
  . go_wp2
    rw[Wlv (Wfo hx.2) (Wfo hy.2) (Wsq hb)]
    go_wp2
    go_ret
    exact⟨rfl,WiY _ _ _⟩
theorem Zde(N:Nat):GW 158 (Zat N):=⟨WcY Tryz.func158 (show WlL Tryz.f158=true by kernel_rfl),WhR sortFH (e:=.prod Ja Jw) rfl (by decide) Tryz.isAgg173 Tryz.sizeOf173 (enters_of Tryz.func148 (by kernel_rfl) rfl) Wtr Zdd N⟩
def Zdf:Gd:=⟨158,Zat,Zde⟩
def Zgx:Fn:=⟨f128,λ |5=>cn_ [1,2,3,10,35,36,37,38]|6=>cn_ [1,2,3,10,11,12,35,36,37]|7=>cn_ [1,2,3,10,11,12,35,36,37,51]|8=>cn_ [10]|9=>cn_ [8,9]|10=>cn_ [1,2,3,10,35,36,37]|100005=>cn_ [1,2,3,10,35,36,37]|_=>[],λN=>Sig.of [vf_ Je,vf_ Ja,vf_ Ja,vf_ Ja] [vf_ (.own Jl),vf_ Jq] (λd=>Ze7 N d.1 d.2.1 d.2.2.1 d.2.2.2.1),CX [Zi0,Zgu,Zj8,Zso,Zdf]⟩
def Zmj(dp:Int)(bq:Int)(br:Int)(aC:Int)(aZ:Int)(aU:List Kb):St:=⟨[(1,vI dp),(2,vI bq),(3,vI br),(10,vO 0),(35,vO 0),(36,vI aC),(37,vI aZ)],[(0,.arr Jl aU)],1⟩
def Zk5(dp:Int)(bq:Int)(br:Int)(aC:Int)(aU:List Kb)(bf:List Kb):St:=⟨[(8,vO 0),(9,vB true)],[(0,.arr Jl bf)],1⟩
def Zk6(dp:Int)(bq:Int)(br:Int)(aC:Int)(aU:List Kb)(gL:Int)(dH:Bool):St:=⟨[(1,vI dp),(2,vI bq),(3,vI br),(10,vO 0),(35,vO 0),(36,vI aC),(37,vI gL),(38,vB dH)],[(0,.arr Jl aU)],1⟩
theorem Zmk{dp:Int}{bq:Int}{br:Int}{aC:Int}{aU:List Kb}{K0:Ks->Option R}{K1:Int->Bool->Option R}(h0:K0= λbf=>K .ret (Zk5 dp bq br aC aU bf))(h1:K1= λgL dH=>K (.exit 0) (Zk6 dp bq br aC aU gL dH))(n:Nat)(aZ:Int):Za8 N dp bq br aC aU K0 K1 n aZ=LM Zgx N 0 100005 n (Zmj dp bq br aC aZ aU) K:=by
  subst h0 h1
  induction n generalizing aZ with
  |zero=>kernel_rfl
  |succ n ih=>rw[Za8];simp only[ih];kernel_rfl
theorem Zru(l1:List Kb)(cb:Int)(cd:Int)(bU:Int):DN Zgx N (l1,cb,cd,bU,())=Ze7 N l1 cb cd bU:=by
  conv=>rhs;rw[Ze7];simp(disch:=exact id (by kernel_rfl)) only[Zmk (R:=Unit×(Ks×Kr)) N (CF Zgx N [1,1,1,0,1,0])]
  kernel_rfl
def Zrv:Gd:=GF Zgx func128 (λN d=>Zru N d.1 d.2.1 d.2.2.1 d.2.2.2.1)
def Zsp:Fn:=⟨f159,WG,λN=>Sig.of [vf_ Ja,vf_ Ja] [vt_ Jl] (λd=>Zg1 N d.1 d.2.1),WaN⟩
def Zsq:Gd:=GN Zsp func159
def Zrw:Fn:=⟨f129,WG,λN=>Sig.of [vt_ (.prod Jx Ja),vt_ Jz,vf_ Jx] [vt_ Jp,vf_ Jai,vt_ Jl,vf_ Jq] (λd=>Zhi N d.1 d.2.1 d.2.2.1),CX [Ziz,Z4,Zjq,Zep,Zjm,Zia,Zsq,Zgr,Zjd]⟩
def Zrx:Gd:=GF Zrw func129
def Zml:Fn:=⟨f99,λ |1=>[.opn 20]|_=>[],λN=>Sig.of [.box Jv,vf_ Ja,vt_ Jz] [] (λd=>Zen N d.1 d.2.1 d.2.2.1),CX [Zpi,Zrv,Zhv,Zrx]⟩
def Zmm:Gd:=GF Zml func99
def Zk7:Fn:=⟨f80,WG,λN=>Sig.of [.rp (TY_Root)] [.vj Jz] (λd=>Zb7 N d.1),WaN⟩
def Zie:Gd:=GN Zk7 func80
def Ztg:Fn:=⟨f100,WG,λN=>Sig.of [vt_ Jz,vf_ Jx] [vf_ Jai,vf_ Jq] (λd=>Zhs N d.1 d.2.1),CX [Z4,Zg3,Zep]⟩
def Zm9:Gd:=GF Ztg func100
def Zpk:Fn:=⟨f78,λ |1=>[.opn 14]|26=>[.nest 170 (.prod Ja (.prod Ja Jt))]|_=>[],λN=>Sig.of [.box Jv,vf_ Ja,vt_ Jae] [] (λd=>Zfg N d.1 d.2.1 d.2.2.1),CX [Zim,Zn3,Zmh,Zqp,Zmm,Z4,Zie,Zm9]⟩
def Zpl:Gd:=GF Zpk func78
def Zpm:Fn:=⟨f131,WG,λN=>Sig.of [vt_ (TY_KidRun)] [vf_ Jq] (λd=>Zh7 N d.1),WaN⟩
def Zpn:Gd:=GN Zpm func131
def Zx:Fn:=⟨f160,λ |2=>cn_ [0,1,7,8,9]|3=>cn_ [0,1,5,7,8]|4=>cn_ [0,1,5,7,8,16]|5=>cn_ [1,4]|6=>cn_ [0,1,7,8]|100002=>cn_ [0,1,7,8]|_=>[],λN=>Sig.of [vf_ Jad,.clos 131 0] [vf_ Ja] (λd=>Zn N d.1),CX [Zpn]⟩
def Zb4(s2:List Y_KidRun)(t4:Int):St:=⟨[(0,vV Jad s2),(1,.s (.one (.clos 131 []))),(7,vI (Wh s2)),(8,vI t4)],[],0⟩
def Zb0(s2:List Y_KidRun)(t7:Int):St:=⟨[(1,.s (.one (.clos 131 []))),(4,vI t7)],[],0⟩
def Zb1(s2:List Y_KidRun)(t8:Int)(t9:Bool):St:=⟨[(0,vV Jad s2),(1,.s (.one (.clos 131 []))),(7,vI (Wh s2)),(8,vI t8),(9,vB t9)],[],0⟩
theorem Zb5{s2:List Y_KidRun}{K0:Int->Option R}{K1:Int->Bool->Option R}(h0:K0= λt7=>K .ret (Zb0 s2 t7))(h1:K1= λt8 t9=>K (.exit 0) (Zb1 s2 t8 t9))(n:Nat)(t4:Int):Zf N s2 K0 K1 n t4=LM Zx N 0 100002 n (Zb4 s2 t4) K:=by
  subst h0 h1
  induction n generalizing t4 with
  |zero=>kernel_rfl
  |succ n ih=>rw[Zf];simp only[ih];kernel_rfl
theorem Zda(s1:List Y_KidRun):DN Zx N (s1,())=Zn N s1:=by
  conv=>rhs;rw[Zn];simp(disch:=exact id (by kernel_rfl)) only[Zb5 (R:=Unit×Ki) N (CF Zx N [1,0,1,0])]
  kernel_rfl
def Zdb:Gd:=GF Zx func160 (λN d=>Zda N d.1)
def Zb9:Fn:=⟨f130,WG,λN=>Sig.of [vf_ Jad,.clos 131 0] [vf_ Jq] (λd=>Z6 N d.1),CX [Zdb]⟩
def Zca:Gd:=GF Zb9 func130
def Zry:Fn:=⟨f101,WG,λN=>Sig.of [vt_ (TY_Family)] [vf_ Jq] (λd=>Zhj N d.1),CX [Zca]⟩
def Zrz:Gd:=GF Zry func101
def Zgy:Fn:=⟨f102,λ |5=>cn_ [3,20,21,22,23]|6=>cn_ [3,4,5,20,21,22]|7=>cn_ [3,4,5,20,21,22]|8=>cn_ [3,4,5,20,21,22,37]|9=>cn_ [3,20,21,22]|10=>cn_ [3,20,21,22]|100005=>cn_ [3,20,21,22]|_=>[],λN=>Sig.of [vt_ (TY_Family)] [vf_ Jai] (λd=>Ze8 N d.1),CX [Zep,Z4]⟩
def Zmn(t4:List Y_KidRun)(t5:Int)(t6:Int)(l7:List Int):St:=⟨[(3,vO 0),(20,vV Jad t4),(21,vI t5),(22,vI t6)],[(0,.arr Ja l7)],1⟩
def Zk8(t4:List Y_KidRun)(t5:Int)(aw:Int)(aL:Bool)(ca:List Int):St:=⟨[(3,vO 0),(20,vV Jad t4),(21,vI t5),(22,vI aw),(23,vB aL)],[(0,.arr Ja ca)],1⟩
theorem Zmo{t4:List Y_KidRun}{t5:Int}{K0:Int->Bool->Kg->Option R}(h0:K0= λaw aL ca=>K (.exit 0) (Zk8 t4 t5 aw aL ca))(n:Nat)(t6:Int)(l7:List Int):Zaw N t4 t5 K0 n t6 l7=LM Zgy N 0 100005 n (Zmn t4 t5 t6 l7) K:=by
  subst h0
  induction n generalizing t6 l7 with
  |zero=>kernel_rfl
  |succ n ih=>rw[Zaw];simp only[ih];kernel_rfl
theorem Zr0(f1:Y_Family):DN Zgy N (f1,())=Ze8 N f1:=by
  conv=>rhs;rw[Ze8];simp(disch:=exact id (by kernel_rfl)) only[Zmo (R:=Unit×Kac) N (CF Zgy N [1,1,1,0,1,0])]
  kernel_rfl
def Zr1:Gd:=GF Zgy func102 (λN d=>Zr0 N d.1)
def Zgz:Fn:=⟨f103,λ |3=>cn_ [3,8,9,10,11]|4=>cn_ [3,5,8,9,10]|5=>cn_ [3,8,9,10]|6=>cn_ [3,8,9,10]|100003=>cn_ [3,8,9,10]|_=>[],λN=>Sig.of [vt_ (TY_Family)] [vf_ (.own Jw)] (λd=>Ze9 N d.1),WaN⟩
def Zmp(t2:List Kb)(t3:Int)(t4:Int)(l5:List Kc):St:=⟨[(3,vO 0),(8,vV Je t2),(9,vI t3),(10,vI t4)],[(0,.arr Jw l5)],1⟩
def Zk9(t2:List Kb)(t3:Int)(t6:Int)(t7:Bool)(l8:List Kc):St:=⟨[(3,vO 0),(8,vV Je t2),(9,vI t3),(10,vI t6),(11,vB t7)],[(0,.arr Jw l8)],1⟩
theorem Zmq{t2:List Kb}{t3:Int}{K0:Int->Bool->Kx->Option R}(h0:K0= λt6 t7 l8=>K (.exit 0) (Zk9 t2 t3 t6 t7 l8))(n:Nat)(t4:Int)(l5:List Kc):Zbj N t2 t3 K0 n t4 l5=LM Zgz N 0 100003 n (Zmp t2 t3 t4 l5) K:=by
  subst h0
  induction n generalizing t4 l5 with
  |zero=>kernel_rfl
  |succ n ih=>rw[Zbj];simp only[ih];kernel_rfl
theorem Zr2(f1:Y_Family):DN Zgz N (f1,())=Ze9 N f1:=by
  conv=>rhs;rw[Ze9];simp(disch:=exact id (by kernel_rfl)) only[Zmq (R:=Unit×(Kx×Unit)) N (CF Zgz N [1,1,0,1,0])]
  kernel_rfl
def Zr3:Gd:=GN Zgz func103 (λN d=>Zr2 N d.1)
def Zpo:Fn:=⟨f79,WG,λN=>Sig.of [.box Jab] [] (λd=>Zfh N d.1),CX [Zeq,Zrz,Zr1,Zr3,Z4]⟩
def Zpp:Gd:=GF Zpo func79
def Zla:Fn:=⟨f82,λ |2=>[.shut 1 15]|11=>[.shut 1 15]|1000000=>[.unfE 1]|_=>[],λN=>Sig.of [.boxal Jv 3] [] (λd=>Zd5 N d.1 d.2.1),CX [Zid,Zeq,Ze0,Z4]⟩
def Zlb:Gd:=GF Zla func82
def Zn9:Fn:=⟨f136,WG,λN=>Sig.of [vt_ Jm] [vt_ Jd] (λd=>Zew N d.1),CX [Ze0,Z4]⟩
def Zio:Gd:=GF Zn9 func136
def Zkg:Fn:=⟨f161,WG,λN=>Sig.of [vt_ Jm] [vf_ Ja] (λd=>Zbt N d.1),WaN⟩
def Zhw:Gd:=GN Zkg func161
def Zdy:Fn:=⟨f137,λ |4=>cn_ [1,3,38]|5=>cn_ [1,3]|6=>cn_ [1,3,54]|7=>cn_ [2]|9=>cn_ [1,56,57,58,59]|10=>cn_ [1,4,5,56,57,58]|11=>cn_ [1,56,57,58,79]|12=>cn_ [2]|13=>cn_ [1,56,57,58]|100004=>cn_ [1,3]|100009=>cn_ [1,56,57,58]|_=>[],λN=>Sig.of [vt_ Jm] [vf_ Jq] (λd=>Zdl N d.1),CX [Zfl,Zm,Zhb,Za4,Zhw]⟩
def Zlc(i7:Int)(b8:Int×Int×Int×Int×Int×List Kc×List Int):St:=⟨[(1,vP 0 0),(3,vI i7)],[(0,.box (split Jm b8))],1⟩
def Zkh(b8:Int×Int×Int×Int×Int×List Kc×List Int):St:=⟨[(2,vB false)],[],0⟩
def Zki(b8:Int×Int×Int×Int×Int×List Kc×List Int)(i9:Int)(aw:Bool):St:=⟨[(1,vP 0 0),(3,vI i9),(38,vB aw)],[(0,.box (split Jm b8))],1⟩
theorem Zld{b8:Int×Int×Int×Int×Int×List Kc×List Int}{K0:Option R}{K1:Int->Bool->Option R}(h0:K0=K .ret (Zkh b8))(h1:K1= λi9 aw=>K (.exit 0) (Zki b8 i9 aw))(n:Nat)(i7:Int):Zaz N b8 K0 K1 n i7=LM Zdy N 0 100004 n (Zlc i7 b8) K:=by
  subst h0 h1
  induction n generalizing i7 with
  |zero=>kernel_rfl
  |succ n ih=>rw[Zaz];simp only[ih];kernel_rfl
def Zle(aZ:List Int)(bD:Int)(aP:Int×Int×Int×Int×Int×List Kc×List Int):St:=⟨[(1,vP 0 0),(56,vV Jx aZ),(57,vI (Wh aP.2.2.2.2.2.2)),(58,vI bD)],[(0,.box (split Jm aP))],1⟩
def Zkj(aZ:List Int)(aP:Int×Int×Int×Int×Int×List Kc×List Int):St:=⟨[(2,vB false)],[],0⟩
def Zkk(aZ:List Int)(aP:Int×Int×Int×Int×Int×List Kc×List Int)(eO:Int)(oH:Bool):St:=⟨[(1,vP 0 0),(56,vV Jx aZ),(57,vI (Wh aP.2.2.2.2.2.2)),(58,vI eO),(59,vB oH)],[(0,.box (split Jm aP))],1⟩
theorem Zlf{aZ:List Int}{aP:Int×Int×Int×Int×Int×List Kc×List Int}{K0:Option R}{K1:Int->Bool->Option R}(h0:K0=K .ret (Zkj aZ aP))(h1:K1= λeO oH=>K (.exit 2) (Zkk aZ aP eO oH))(n:Nat)(bD:Int):Zaq N aZ aP K0 K1 n bD=LM Zdy N 1 100009 n (Zle aZ bD aP) K:=by
  subst h0 h1
  induction n generalizing bD with
  |zero=>kernel_rfl
  |succ n ih=>rw[Zaq];simp only[ih];kernel_rfl
theorem Zqq(c1:Int×Int×Int×Int×Int×List Kc×List Int):DN Zdy N (c1,())=Zdl N c1:=by
  conv=>rhs;rw[Zdl];simp(disch:=exact id (by kernel_rfl)) only[Zld (R:=Unit×Kr) N (CF Zdy N [1,1,0,1,0]),Zlf (R:=Unit×Kr) N (CF Zdy N [1,1,1,0,1,0])]
  kernel_rfl
def Zje:Gd:=GF Zdy func137 (λN d=>Zqq N d.1)
def Zjr:Fn:=⟨f138,WG,λN=>Sig.of [.box Jd,vf_ Ja] [] (λd=>Zy N d.1 d.2.1),WaN⟩
def Zhf:Gd:=GN Zjr func138
def Zmr:Fn:=⟨f106,WG,λN=>Sig.of [vt_ Jm] [vt_ Jd,vf_ Jq] (λd=>Zf1 N d.1),CX [Zio,Zje,Zhf]⟩
def Zms:Gd:=GF Zmr func106
def Zr4:Fn:=⟨f139,WG,λN=>Sig.of [vt_ Jac] [vt_ Jk] (λd=>Zba N d.1),WaN⟩
def Zfm:Gd:=GN Zr4 func139
def Zth:Fn:=⟨f141,WG,λN=>Sig.of [vt_ Jac,vf_ Ja,vf_ Ja] [vt_ Jk,vf_ Jq] (λd=>Zht N d.1 d.2.1 d.2.2.1),CX [Zfm,Zfa,Za4,Zfl]⟩
def Zti:Gd:=GF Zth func141
def Zj1:Fn:=⟨f144,WG,λN=>Sig.of [.box Jd,vf_ Ja] [] (λd=>Zc4 N d.1 d.2.1),WaN⟩
def Zhq:Gd:=GN Zj1 func144
def Zmt:Fn:=⟨f142,WG,λN=>Sig.of [.box Jd,vf_ Ja] [] (λd=>Zax N d.1 d.2.1),CX [Zhw,Zhq]⟩
def Zmu:Gd:=GF Zmt func142
def Ztj:Fn:=⟨f143,WG,λN=>Sig.of [vt_ Jac] [vt_ Jk,vf_ Ja] (λd=>Ziv N d.1),CX [Zfm,Zfa]⟩
def Ztk:Gd:=GF Ztj func143
def Zs8:Fn:=⟨f145,WG,λN=>Sig.of [vt_ Jac,vf_ Ja,vf_ Ja,vf_ Ja] [vt_ Jk,vf_ Jq] (λd=>Zig N d.1 d.2.1 d.2.2.1 d.2.2.2.1),CX [Zfm,Zfa,Za4,Zfl,Zao]⟩
def Zs9:Gd:=GF Zs8 func145
def Zsr:Fn:=⟨f146,WG,λN=>Sig.of [vt_ Jac,vf_ Ja,vf_ Ja,vf_ Ja] [vt_ Jk,vf_ Jq] (λd=>Zg2 N d.1 d.2.1 d.2.2.1 d.2.2.2.1),CX [Zfm,Zfa,Za4,Zfl,Zm]⟩
def Zss:Gd:=GF Zsr func146
def Zoa:Fn:=⟨f107,WG,λN=>Sig.of [vt_ Jac,vt_ Jm] [vt_ Jk,vt_ Jd] (λd=>Zgb N d.1 d.2.1),CX [Zfm,Zio,Zfa,Zje,Zti,Zmu,Zhf,Ztk,Zhq,Zs9,Zss]⟩
def Zob:Gd:=GF Zoa func107
def Zlg:Fn:=⟨f83,λ |0=>[.opn 13]|11=>[.nest 85 Jj]|_=>[],λN=>Sig.of [.box Jv,vf_ Ja] [] (λd=>Zd6 N d.1 d.2.1),CX [Zms,Zeq,Zob,Ze0]⟩
def Zlh:Gd:=GF Zlg func83
def Zoc:Fn:=⟨f111,WG,λN=>Sig.of [vt_ Jl,.box Ja] [vf_ Jq] (λd=>Zdw N d.1 d.2.1),WaN⟩
def Zip:Gd:=GN Zoc func111
def Z1:Fn:=⟨f149,λ |2=>cn_ [0,1,7,8,9]|3=>cn_ [0,1,5,7,8]|4=>cn_ [0,1,5,7,8,16]|5=>cn_ [1,4]|6=>cn_ [0,1,7,8]|100002=>cn_ [0,1,7,8]|_=>[],λN=>Sig.of [vf_ Je,.clos 111 1,.box Ja] [vf_ Ja] (λd=>Zq N d.1 d.2.1),CX [Zip]⟩
def Zcy(s3:List Kb)(t5:Int)(b6:Int):St:=⟨[(0,vV Je s3),(1,.s (.one (.clos 111 [0]))),(7,vI (Wh s3)),(8,vI t5)],[(0,.box [.val Ja b6])],1⟩
def Zcg(s3:List Kb)(t9:Int)(aQ:Int):St:=⟨[(1,.s (.one (.clos 111 [0]))),(4,vI t9)],[(0,.box [.val Ja aQ])],1⟩
def Zch(s3:List Kb)(aL:Int)(aC:Bool)(bK:Int):St:=⟨[(0,vV Je s3),(1,.s (.one (.clos 111 [0]))),(7,vI (Wh s3)),(8,vI aL),(9,vB aC)],[(0,.box [.val Ja bK])],1⟩
theorem Zcz{s3:List Kb}{K0:Int->Int->Option R}{K1:Int->Bool->Int->Option R}(h0:K0= λt9 aQ=>K .ret (Zcg s3 t9 aQ))(h1:K1= λaL aC bK=>K (.exit 0) (Zch s3 aL aC bK))(n:Nat)(t5:Int)(b6:Int):Zg N s3 K0 K1 n t5 b6=LM Z1 N 0 100002 n (Zcy s3 t5 b6) K:=by
  subst h0 h1
  induction n generalizing t5 b6 with
  |zero=>kernel_rfl
  |succ n ih=>rw[Zg];simp only[ih];kernel_rfl
theorem Zdr(s1:List Kb)(cY:Int):DN Z1 N (s1,cY,())=Zq N s1 cY:=by
  conv=>rhs;rw[Zq];simp(disch:=exact id (by kernel_rfl)) only[Zcz (R:=Ki×Ki) N (CF Z1 N [1,0,1,0])]
  kernel_rfl
def Zds:Gd:=GF Z1 func149 (λN d=>Zdr N d.1 d.2.1)
def Zz:Fn:=⟨f110,λ |5=>cn_ [0,1,5,6,19]|6=>cn_ [0,1,5,6]|7=>cn_ [0,1,5,6,7]|8=>cn_ [0,1,5,6,7,29]|9=>cn_ [0,1,5,6]|10=>cn_ [0,1,5,6]|11=>[.view 38]|100005=>cn_ [0,1,5,6]|_=>[],λN=>Sig.of [vf_ (.own Jl),.clos 111 1,.box Ja] [vf_ (.own Jl)] (λd=>Zk N d.1 d.2.1),CX [Zds,Zip]⟩
def Zci(i4:Int)(j5:Int)(l6:List Kb)(b7:Int):St:=⟨[(0,vO 0),(1,.s (.one (.clos 111 [1]))),(5,vI i4),(6,vI j5)],[(0,.arr Jl l6),(1,.box [.val Ja b7])],2⟩
def Zcb(i9:Int)(ru:Int)(aL:Bool)(ca:List Kb)(bK:Int):St:=⟨[(0,vO 0),(1,.s (.one (.clos 111 [1]))),(5,vI i9),(6,vI ru),(19,vB aL)],[(0,.arr Jl ca),(1,.box [.val Ja bK])],2⟩
theorem Zcj{K0:Int->Int->Bool->Ks->Int->Option R}(h0:K0= λi9 ru aL ca bK=>K (.exit 0) (Zcb i9 ru aL ca bK))(n:Nat)(i4:Int)(j5:Int)(l6:List Kb)(b7:Int):Zb N K0 n i4 j5 l6 b7=LM Zz N 0 100005 n (Zci i4 j5 l6 b7) K:=by
  subst h0
  induction n generalizing i4 j5 l6 b7 with
  |zero=>kernel_rfl
  |succ n ih=>rw[Zb];simp only[ih];kernel_rfl
theorem Zdg(s1:List Kb)(cY:Int):DN Zz N (s1,cY,())=Zk N s1 cY:=by
  conv=>rhs;rw[Zk];simp(disch:=exact id (by kernel_rfl)) only[Zcj (R:=Ki×(Ks×Unit)) N (CF Zz N [1,1,1,0,1,0])]
  kernel_rfl
def Zdh:Gd:=GF Zz func110 (λN d=>Zdg N d.1 d.2.1)
def Zqr:Fn:=⟨f84,WG,λN=>Sig.of [vf_ Je,vf_ Ja] [vf_ (.own Jl)] (λd=>Zg5 N d.1 d.2.1),CX [Zi0,Zgu,Zdh]⟩
def Zqs:Gd:=GF Zqr func84
def Zod:Fn:=⟨f60,λ |1=>[.opn 12]|_=>[],λN=>Sig.of [.box Jv,vf_ Ja,vt_ Jae] [] (λd=>Zex N d.1 d.2.1 d.2.2.1),CX [Zm,Zeq,Znx,Zpl,Zpp,Zie,Zin,Zlb,Zlh,Zqs,Zix]⟩
def Zoe:Gd:=GF Zod func60
def Zj2:Fn:=⟨f118,WG,λN=>Sig.of [vt_ Jl,.box Ja] [vf_ Jq] (λd=>Zgf N d.1 d.2.1),WaN⟩
def Zj3:Gd:=GN Zj2 func118
def Zt:Fn:=⟨f117,λ |2=>cn_ [0,1,7,8,9]|3=>cn_ [0,1,5,7,8]|4=>cn_ [0,1,5,7,8,16]|5=>cn_ [1,4]|6=>cn_ [0,1,7,8]|100002=>cn_ [0,1,7,8]|_=>[],λN=>Sig.of [vf_ Je,.clos 118 1,.box Ja] [vf_ Ja] (λd=>Zj N d.1 d.2.1),CX [Zj3]⟩
def Zbu(s3:List Kb)(t5:Int)(b6:Int):St:=⟨[(0,vV Je s3),(1,.s (.one (.clos 118 [0]))),(7,vI (Wh s3)),(8,vI t5)],[(0,.box [.val Ja b6])],1⟩
def Zbq(s3:List Kb)(t9:Int)(aQ:Int):St:=⟨[(1,.s (.one (.clos 118 [0]))),(4,vI t9)],[(0,.box [.val Ja aQ])],1⟩
def Zbr(s3:List Kb)(aL:Int)(aC:Bool)(bK:Int):St:=⟨[(0,vV Je s3),(1,.s (.one (.clos 118 [0]))),(7,vI (Wh s3)),(8,vI aL),(9,vB aC)],[(0,.box [.val Ja bK])],1⟩
theorem Zbv{s3:List Kb}{K0:Int->Int->Option R}{K1:Int->Bool->Int->Option R}(h0:K0= λt9 aQ=>K .ret (Zbq s3 t9 aQ))(h1:K1= λaL aC bK=>K (.exit 0) (Zbr s3 aL aC bK))(n:Nat)(t5:Int)(b6:Int):Ze N s3 K0 K1 n t5 b6=LM Zt N 0 100002 n (Zbu s3 t5 b6) K:=by
  subst h0 h1
  induction n generalizing t5 b6 with
  |zero=>kernel_rfl
  |succ n ih=>rw[Ze];simp only[ih];kernel_rfl
theorem Zcc(s1:List Kb)(cY:Int):DN Zt N (s1,cY,())=Zj N s1 cY:=by
  conv=>rhs;rw[Zj];simp(disch:=exact id (by kernel_rfl)) only[Zbv (R:=Ki×Ki) N (CF Zt N [1,0,1,0])]
  kernel_rfl
def Zcd:Gd:=GF Zt func117 (λN d=>Zcc N d.1 d.2.1)
def Zli:Fn:=⟨f88,WG,λN=>Sig.of [.rp (TY_Family),vf_ Ja] [vf_ Ja] (λd=>Zbe N d.1 d.2.1),CX [Zcd]⟩
def Zgm:Gd:=GF Zli func88
def Zj4:Fn:=⟨f89,WG,λN=>Sig.of [.box Jaa,vf_ Ja] [] (λd=>Zar N d.1 d.2.1),CX [Z4]⟩
def Zhr:Gd:=GF Zj4 func89
def Zmv:Fn:=⟨f112,λ |1=>[.opn 18]|_=>[],λN=>Sig.of [.box Jaa,vf_ Ja,vt_ Jz,vt_ Jac] [] (λd=>Zfw N d.1 d.2.1 d.2.2.1 d.2.2.2.1),CX [Zi4,Zgm,Zhr,Zjc,Ziy]⟩
def Zmw:Gd:=GF Zmv func112
def Zlj:Fn:=⟨f113,λ |5=>[.opn 28]|_=>[],λN=>Sig.of [.box Ji,vf_ Jc] [] (λd=>Zfn N d.1 d.2.1),CX [Z4,Ze0,Zk0]⟩
def Zlk:Gd:=GF Zlj func113
def Zof:Fn:=⟨f86,λ |1=>[.opn 16]|18=>[.nest 128 Jt]|_=>[],λN=>Sig.of [.box Jaa,vf_ Ja,vf_ Jc,vt_ Jac] [] (λd=>Zf8 N d.1 d.2.1 d.2.2.1 d.2.2.2.1),CX [Zmw,Zlk,Z4,Zm9]⟩
def Zog:Gd:=GF Zof func86
def Zam(N:Nat):Sig:=Sig.of [.mut Jl,.clos 116 0] [] (λd=>Z8 N d.1)
theorem Zck:WrC Tryz.prog 116 Jl WsL cfE:=by
  intro G x y us vs w hx hy h1 h2;obtain⟨_,_,rfl,a1,_,_,rfl,a2,a3⟩:=h1;obtain⟨_,_,rfl,b1,_,_,rfl,b2,b3⟩:=h2;simp only[Enc]at a1 a2 a3 b1 b2 b3;subst a1 a2 a3 b1 b2 b3;simp only[Xaq,Xbn]
  go_enter Tryz.func116,Tryz.ntmps116
  go_wp2
  rw[Wlv (Wfo hx) (Wfo hy) (c:=cfE x y) rfl]
  go_wp2
  go_ret
  exact⟨rfl,WiY _ _ _⟩
theorem Zcl(N:Nat):GW 115 (Zam N):=⟨WcY Tryz.func115 (show WlL Tryz.f115=true by kernel_rfl),WhR sortFE (e:=.prod Ja Jw) rfl (by decide) Tryz.isAgg141 Tryz.sizeOf141 (enters_of Tryz.func116 (by kernel_rfl) rfl) Wtp Zck N⟩
def Zcm:Gd:=⟨115,Zam,Zcl⟩
def Zbf:Fn:=⟨f87,λ |0=>[.opn 16]|3=>cn_ [0,1,4,28,29,30,31]|4=>cn_ [0,1,4,6,28,29,30]|5=>cn_ [0,1,4,6,7,28,29,30]|6=>cn_ [0,1,4,7,8,28,29,30]|7=>cn_ [0,1,4,7,8,28,29,30,48]|8=>cn_ [0,1,4,28,29,30]|9=>cn_ [0,1,4,28,29,30]|10=>cn_ [0,1,4,28,29,30]|13=>cn_ [0,1,4,75,76,77,78]|14=>cn_ [0,1,4,10,75,76,77]|15=>cn_ [0,1,4,10,75,76,77,83]|16=>cn_ [0,1,4,75,76,77]|17=>cn_ [0,1,4,75,76,77]|100003=>cn_ [0,1,4,28,29,30]|100013=>cn_ [0,1,4,75,76,77]|_=>[],λN=>Sig.of [.box Jaa,vf_ Ja] [] (λd=>Zb6 N d.1 d.2.1),CX [Zil,Zgm,Zcm]⟩
def Zjf(k4:Int)(t5:Int)(t6:Int)(b7:Int)(b8:Int)(b9:Int)(aQ:Bool)(bP:Int)(dA:Int)(bK:Int)(ch:Int)(bB:Int)(aP:Int)(cN:Bool)(cA:Int)(dm:Int)(ge:Int)(gg:Int)(cO:List Kc)(fu:List Int)(cZ:List Kc)(il:List Kb)(fv:List Int)(db:List Kc)(fw:List Y_KidRun)(gh:Nat)(eK:List Int)(eM:List Kb)(eN:List Kc)(dc:List Kk):St:=⟨[(0,vP 0 0),(1,vI k4),(4,vP 1 0),(28,vO 2),(29,vI t5),(30,vI t6)],[(0,.box [.val Ja b7,.val Ja b8,.val Ja b9,.val Jq aQ,.own 3,.own 4,.own 5,.own 6,.own 7,.own 8]),(1,.box [.val Ja bP,.val Ja dA,.val Ja bK,.val Ja ch,.val Ja bB,.val Ja aP,.own 9,.own 10,.own 11,.own 12,.val Jq cN,.val Ja cA,.val Ja dm,.val Ja ge,.val Ja gg]),(2,.arr Jw cO),(3,.arr Ja fu),(4,.arr Jw cZ),(5,.arr Jl il),(6,.arr Ja fv),(7,.arr Jw db),(8,.hole Ji fw gh 1),(9,.arr Ja eK),(10,.arr Jl eM),(11,.arr Jw eN),(12,.arr Jt dc)],13⟩
def Zi5(k4:Int)(t5:Int)(b7:Int)(b8:Int)(b9:Int)(aQ:Bool)(bP:Int)(dA:Int)(bK:Int)(ch:Int)(bB:Int)(aP:Int)(cN:Bool)(cA:Int)(dm:Int)(ge:Int)(gg:Int)(cO:List Kc)(fu:List Int)(cZ:List Kc)(fv:List Int)(db:List Kc)(fw:List Y_KidRun)(gh:Nat)(eK:List Int)(eM:List Kb)(eN:List Kc)(dc:List Kk)(rx:Int)(oL:Bool)(dU:List Kb):St:=⟨[(0,vP 0 0),(1,vI k4),(4,vP 1 0),(28,vO 2),(29,vI t5),(30,vI rx),(31,vB oL)],[(0,.box [.val Ja b7,.val Ja b8,.val Ja b9,.val Jq aQ,.own 3,.own 4,.own 5,.own 6,.own 7,.own 8]),(1,.box [.val Ja bP,.val Ja dA,.val Ja bK,.val Ja ch,.val Ja bB,.val Ja aP,.own 9,.own 10,.own 11,.own 12,.val Jq cN,.val Ja cA,.val Ja dm,.val Ja ge,.val Ja gg]),(2,.arr Jw cO),(3,.arr Ja fu),(4,.arr Jw cZ),(5,.arr Jl dU),(6,.arr Ja fv),(7,.arr Jw db),(8,.hole Ji fw gh 1),(9,.arr Ja eK),(10,.arr Jl eM),(11,.arr Jw eN),(12,.arr Jt dc)],13⟩
theorem Zjg{k4:Int}{t5:Int}{b7:Int}{b8:Int}{b9:Int}{aQ:Bool}{bP:Int}{dA:Int}{bK:Int}{ch:Int}{bB:Int}{aP:Int}{cN:Bool}{cA:Int}{dm:Int}{ge:Int}{gg:Int}{cO:List Kc}{fu:List Int}{cZ:List Kc}{fv:List Int}{db:List Kc}{fw:List Y_KidRun}{gh:Nat}{eK:List Int}{eM:List Kb}{eN:List Kc}{dc:List Kk}{K0:Int->Bool->Ks->Option R}(h0:K0= λrx oL dU=>K (.exit 0) (Zi5 k4 t5 b7 b8 b9 aQ bP dA bK ch bB aP cN cA dm ge gg cO fu cZ fv db fw gh eK eM eN dc rx oL dU))(n:Nat)(t6:Int)(il:List Kb):Zae N k4 t5 b7 b8 b9 aQ bP dA bK ch bB aP cN cA dm ge gg cO fu cZ fv db fw gh eK eM eN dc K0 n t6 il=LM Zbf N 0 100003 n (Zjf k4 t5 t6 b7 b8 b9 aQ bP dA bK ch bB aP cN cA dm ge gg cO fu cZ il fv db fw gh eK eM eN dc) K:=by
  subst h0
  induction n generalizing t6 il with
  |zero=>kernel_rfl
  |succ n ih=>rw[Zae];simp only[ih];kernel_rfl
def Zjh(im:Int)(io:Int)(t45:Int)(cP:Int)(de:Int)(df:Int)(c7:Bool)(dg:Int)(d6:Int)(d7:Int)(d8:Int)(d9:Int)(ip:Int)(iq:Bool)(ir:Int)(it:Int)(iu:Int)(iv:Int)(cS:List Kb)(iw:List Int)(iy:List Kc)(iz:List Kb)(iA:List Int)(jM:List Kc)(iB:List Y_KidRun)(iD:Nat)(eX:List Int)(eY:List Kc)(eZ:List Kk):St:=⟨[(0,vP 0 0),(1,vI im),(4,vP 1 0),(75,vO 2),(76,vI io),(77,vI t45)],[(0,.box [.val Ja cP,.val Ja de,.val Ja df,.val Jq c7,.own 3,.own 4,.own 5,.own 6,.own 7,.own 8]),(1,.box [.val Ja dg,.val Ja d6,.val Ja d7,.val Ja d8,.val Ja d9,.val Ja ip,.own 9,.own 2,.own 10,.own 11,.val Jq iq,.val Ja ir,.val Ja it,.val Ja iu,.val Ja iv]),(2,.arr Jl cS),(3,.arr Ja iw),(4,.arr Jw iy),(5,.arr Jl iz),(6,.arr Ja iA),(7,.arr Jw jM),(8,.hole Ji iB iD 1),(9,.arr Ja eX),(10,.arr Jw eY),(11,.arr Jt eZ)],12⟩
def Zi6(im:Int)(io:Int)(cP:Int)(de:Int)(df:Int)(c7:Bool)(dg:Int)(d6:Int)(d7:Int)(d8:Int)(d9:Int)(ip:Int)(iq:Bool)(ir:Int)(it:Int)(iu:Int)(iv:Int)(cS:List Kb)(iw:List Int)(iy:List Kc)(iz:List Kb)(iA:List Int)(iB:List Y_KidRun)(iD:Nat)(eX:List Int)(eY:List Kc)(eZ:List Kk)(oO:Int)(ry:Bool)(rz:List Kc):St:=⟨[(0,vP 0 0),(1,vI im),(4,vP 1 0),(75,vO 2),(76,vI io),(77,vI oO),(78,vB ry)],[(0,.box [.val Ja cP,.val Ja de,.val Ja df,.val Jq c7,.own 3,.own 4,.own 5,.own 6,.own 7,.own 8]),(1,.box [.val Ja dg,.val Ja d6,.val Ja d7,.val Ja d8,.val Ja d9,.val Ja ip,.own 9,.own 2,.own 10,.own 11,.val Jq iq,.val Ja ir,.val Ja it,.val Ja iu,.val Ja iv]),(2,.arr Jl cS),(3,.arr Ja iw),(4,.arr Jw iy),(5,.arr Jl iz),(6,.arr Ja iA),(7,.arr Jw rz),(8,.hole Ji iB iD 1),(9,.arr Ja eX),(10,.arr Jw eY),(11,.arr Jt eZ)],12⟩
theorem Zji{im:Int}{io:Int}{cP:Int}{de:Int}{df:Int}{c7:Bool}{dg:Int}{d6:Int}{d7:Int}{d8:Int}{d9:Int}{ip:Int}{iq:Bool}{ir:Int}{it:Int}{iu:Int}{iv:Int}{cS:List Kb}{iw:List Int}{iy:List Kc}{iz:List Kb}{iA:List Int}{iB:List Y_KidRun}{iD:Nat}{eX:List Int}{eY:List Kc}{eZ:List Kk}{K0:Int->Bool->Kx->Option R}(h0:K0= λoO ry rz=>K (.exit 2) (Zi6 im io cP de df c7 dg d6 d7 d8 d9 ip iq ir it iu iv cS iw iy iz iA iB iD eX eY eZ oO ry rz))(n:Nat)(t45:Int)(jM:List Kc):Zaj N im io cP de df c7 dg d6 d7 d8 d9 ip iq ir it iu iv cS iw iy iz iA iB iD eX eY eZ K0 n t45 jM=LM Zbf N 1 100013 n (Zjh im io t45 cP de df c7 dg d6 d7 d8 d9 ip iq ir it iu iv cS iw iy iz iA jM iB iD eX eY eZ) K:=by
  subst h0
  induction n generalizing t45 jM with
  |zero=>kernel_rfl
  |succ n ih=>rw[Zaj];simp only[ih];kernel_rfl
theorem Zll(f1:Y_Family)(k2:Int):DN Zbf N (f1,k2,())=Zb6 N f1 k2:=by
  conv=>rhs;rw[Zb6];simp(disch:=exact id (by kernel_rfl)) only[Zjg (R:=(Y_Family×Unit)×Unit) N (CF Zbf N [1,1,0,1,0]),Zji (R:=(Y_Family×Unit)×Unit) N (CF Zbf N [1,1,1,1,0,1,0])]
  kernel_rfl
def Zlm:Gd:=GF Zbf func87 (λN d=>Zll N d.1 d.2.1)
def Zmx:Fn:=⟨f61,λ |2=>[.opn 20]|_=>[],λN=>Sig.of [.box Jaa,vf_ Ja,vf_ Jc,vt_ Jac] [] (λd=>Zfx N d.1 d.2.1 d.2.2.1 d.2.2.2.1),CX [Zog,Zlm,Zgm,Zhr]⟩
def Zmy:Gd:=GF Zmx func61
def Zpq:Fn:=⟨f43,λ |3=>[.unfE 6]|_=>[],λN=>Sig.of [.box Jv,vt_ Jag,vt_ Jl] [] (λd=>Zeb N d.1 d.2.1 d.2.2.1),CX [Zm,Zoe,Zmy]⟩
def Zi1:Gd:=GF Zpq func43
def Zh2:Fn:=⟨f25,λ |3=>[.nest 21 Jab]|6=>cn_ [1,2,3,32,33,34,35]|7=>cn_ [1,2,3,5,32,33,34]|8=>cn_ [1,2,3,32,33,34]|9=>cn_ [1,2,3,32,33,34]|100006=>[.adoptC 3 6 Jl,.adoptC 3 8 Jj,.canon [1,2,3,32,33,34]]|_=>[],λN=>Sig.of [vt_ Jag] [vt_ Jv] (λd=>Zbp N d.1),CX [Zez,Zo4,Zsi,Zi1]⟩
def Zqt(t5:List Kb)(t7:Int)(b8:Kf×List Kn×List Kb)(bK:Int)(ch:Int)(bB:Int)(aP:Int)(dq:List Kb)(bC:List Int)(cM:List Kb)(cR:List Y_Root)(eW:List Ko):St:=⟨[(1,vP 0 0),(2,vP 1 0),(3,vP 2 0),(32,vV Je t5),(33,vI (Wh b8.2.2)),(34,vI t7)],[(0,.box [.val Jx b8.1.1,.val Jx b8.1.2.1,.val Ja b8.1.2.2,.val Jn b8.2.1,.val Je b8.2.2]),(1,.box [.val Ja (0:Int),.val Ja (0:Int),.val Ja (0:Int),.nils,.nils,.val Ja (0:Int),.nils,.nils,.nils]),(2,.box [.val Ja bK,.val Ja ch,.val Ja bB,.own 3,.own 4,.val Ja aP,.own 5,.own 6,.own 7]),(3,.arr Jl dq),(4,.arr Ja bC),(5,.arr Jl cM),(6,.arr Jab cR),(7,.arr Jj eW)],8⟩
def Zpr(t5:List Kb)(b8:Kf×List Kn×List Kb)(nm:Int)(t25:Bool)(gO:Int)(gP:Int)(gQ:Int)(iH:Int)(eK:List Kb)(eM:List Int)(eN:List Kb)(dc:List Y_Root)(hY:List Ko):St:=⟨[(1,vP 0 0),(2,vP 1 0),(3,vP 2 0),(32,vV Je t5),(33,vI (Wh b8.2.2)),(34,vI nm),(35,vB t25)],[(0,.box [.val Jx b8.1.1,.val Jx b8.1.2.1,.val Ja b8.1.2.2,.val Jn b8.2.1,.val Je b8.2.2]),(1,.box [.val Ja (0:Int),.val Ja (0:Int),.val Ja (0:Int),.nils,.nils,.val Ja (0:Int),.nils,.nils,.nils]),(2,.box [.val Ja gO,.val Ja gP,.val Ja gQ,.own 3,.own 4,.val Ja iH,.own 5,.own 6,.own 7]),(3,.arr Jl eK),(4,.arr Ja eM),(5,.arr Jl eN),(6,.arr Jab dc),(7,.arr Jj hY)],8⟩
theorem Zqu{t5:List Kb}{b8:Kf×List Kn×List Kb}{K0:Int->Bool->Int->Int->Int->Int->Ks->Kg->Ks->(List Y_Root)->Kaa->Option R}(h0:K0= λnm t25 gO gP gQ iH eK eM eN dc hY=>K (.exit 0) (Zpr t5 b8 nm t25 gO gP gQ iH eK eM eN dc hY))(n:Nat)(t7:Int)(bK:Int)(ch:Int)(bB:Int)(aP:Int)(dq:List Kb)(bC:List Int)(cM:List Kb)(cR:List Y_Root)(eW:List Ko):Zb3 N t5 b8 K0 n t7 bK ch bB aP dq bC cM cR eW=LM Zh2 N 0 100006 n (Zqt t5 t7 b8 bK ch bB aP dq bC cM cR eW) K:=by
  subst h0
  induction n generalizing t7 bK ch bB aP dq bC cM cR eW with
  |zero=>kernel_rfl
  |succ n ih=>rw[Zb3];simp only[ih];kernel_rfl
theorem Ztl(s1:Kf×List Kn×List Kb):DN Zh2 N (s1,())=Zbp N s1:=by
  conv=>rhs;rw[Zbp];simp(disch:=exact id (by kernel_rfl)) only[Zqu (R:=Unit×(Y_World×Unit)) N (CF Zh2 N [1,1,1,1,0,1,0])]
  kernel_rfl
def Zi7:Gd:=GF Zh2 func25 (λN d=>Ztl N d.1)
def Zh3:Fn:=⟨f40,λ |3=>cn_ [3,8,9,10,11]|4=>cn_ [3,4,5,8,9,10]|5=>cn_ [3,4,8,9,10,22]|6=>cn_ [3,8,9,10]|7=>cn_ [3,8,9,10]|100003=>cn_ [3,8,9,10]|_=>[],λN=>Sig.of [vt_ (TY_World)] [vf_ Jai] (λd=>Zhu N d.1),WaN⟩
def Zqv(t2:List Y_Root)(t3:Int)(t4:Int)(l5:List Int):St:=⟨[(3,vO 0),(8,vV Ju t2),(9,vI t3),(10,vI t4)],[(0,.arr Ja l5)],1⟩
def Zps(t2:List Y_Root)(t3:Int)(t6:Int)(t7:Bool)(l8:List Int):St:=⟨[(3,vO 0),(8,vV Ju t2),(9,vI t3),(10,vI t6),(11,vB t7)],[(0,.arr Ja l8)],1⟩
theorem Zqw{t2:List Y_Root}{t3:Int}{K0:Int->Bool->Kg->Option R}(h0:K0= λt6 t7 l8=>K (.exit 0) (Zps t2 t3 t6 t7 l8))(n:Nat)(t4:Int)(l5:List Int):Zet N t2 t3 K0 n t4 l5=LM Zh3 N 0 100003 n (Zqv t2 t3 t4 l5) K:=by
  subst h0
  induction n generalizing t4 l5 with
  |zero=>kernel_rfl
  |succ n ih=>rw[Zet];simp only[ih];kernel_rfl
theorem Ztm(w1:Y_World):DN Zh3 N (w1,())=Zhu N w1:=by
  conv=>rhs;rw[Zhu];simp(disch:=exact id (by kernel_rfl)) only[Zqw (R:=Unit×Kac) N (CF Zh3 N [1,1,0,1,0])]
  kernel_rfl
def Ztn:Gd:=GN Zh3 func40 (λN d=>Ztm N d.1)
def Zed:Fn:=⟨f24,λ |3=>cn_ [1,2,3,16,17,18,19]|4=>cn_ [1,2,3,5,16,17,18]|5=>cn_ [1,2,3,5,16,17,18,22]|6=>cn_ [1,2,3,5,16,17,18]|7=>cn_ [1,2,3,5,16,17,18,30]|8=>cn_ [1,2,3,5,16,17,18]|9=>cn_ [1,2,3,5,16,17,18,43]|10=>cn_ [1,2,3,5,16,17,18]|11=>cn_ [1,2,3,5,16,17,18,53]|12=>cn_ [1,2,3,16,17,18]|13=>cn_ [1,2,3,16,17,18]|15=>cn_ [2,3,63,64,65,66]|16=>cn_ [2,3,7,63,64,65]|17=>cn_ [2,3,63,64,65,71]|18=>cn_ [2,3,63,64,65]|19=>cn_ [2,3,63,64,65]|100003=>cn_ [1,2,3,16,17,18]|100015=>cn_ [2,3,63,64,65]|_=>[],λN=>Sig.of [vt_ (TY_World)] [.v (.prod Ja (.prod Ja (.prod Ja Jz))) true] (λd=>Zec N d.1),CX [Ztn,Zm]⟩
def Zmz(t3:List Y_Root)(t5:Int)(b6:Y_World)(ch:Int)(bB:Int)(aP:Int)(cN:Int)(cA:Int):St:=⟨[(1,vP 0 0),(2,vP 1 0),(3,vP 2 0),(16,vV Ju t3),(17,vI (Wh b6.2.2.2.2.2.1)),(18,vI t5)],[(0,.box (split (TY_World) b6)),(1,.box [.val Ja (0:Int),.val Ja (0:Int),.val Ja (0:Int),.val Ja (0:Int),.val Ja (0:Int),.val Ja (0:Int),.val Ja (0:Int)]),(2,.box [.val Ja ch,.val Ja bB,.val Ja aP,.val Ja cN,.val Ja cA,.val Ja (0:Int),.val Ja (Wh b6.2.2.2.2.1)])],3⟩
def Zln(t3:List Y_Root)(b6:Y_World)(bB:Int)(rD:Int)(rE:Bool)(hD:Int)(rF:Int)(rG:Int)(lT:Int):St:=⟨[(1,vP 0 0),(2,vP 1 0),(3,vP 2 0),(16,vV Ju t3),(17,vI (Wh b6.2.2.2.2.2.1)),(18,vI rD),(19,vB rE)],[(0,.box (split (TY_World) b6)),(1,.box [.val Ja (0:Int),.val Ja (0:Int),.val Ja (0:Int),.val Ja (0:Int),.val Ja (0:Int),.val Ja (0:Int),.val Ja (0:Int)]),(2,.box [.val Ja hD,.val Ja bB,.val Ja rF,.val Ja rG,.val Ja lT,.val Ja (0:Int),.val Ja (Wh b6.2.2.2.2.1)])],3⟩
theorem Zm0{t3:List Y_Root}{b6:Y_World}{bB:Int}{K0:Int->Bool->Int->Int->Int->Int->Option R}(h0:K0= λrD rE hD rF rG lT=>K (.exit 0) (Zln t3 b6 bB rD rE hD rF rG lT))(n:Nat)(t5:Int)(ch:Int)(aP:Int)(cN:Int)(cA:Int):Zac N t3 b6 bB K0 n t5 ch aP cN cA=LM Zed N 0 100003 n (Zmz t3 t5 b6 ch bB aP cN cA) K:=by
  subst h0
  induction n generalizing t5 ch aP cN cA with
  |zero=>kernel_rfl
  |succ n ih=>rw[Zac];simp only[ih];kernel_rfl
def Zm1(iE:List Kb)(iF:Int)(t53:Int)(jO:Int)(jP:Int)(jQ:Int)(fF:Int)(fG:Int)(gk:Int)(fH:Int):St:=⟨[(2,vP 0 0),(3,vP 1 0),(63,vV Je iE),(64,vI iF),(65,vI t53)],[(0,.box [.val Ja (0:Int),.val Ja (0:Int),.val Ja (0:Int),.val Ja (0:Int),.val Ja (0:Int),.val Ja (0:Int),.val Ja (0:Int)]),(1,.box [.val Ja jO,.val Ja jP,.val Ja jQ,.val Ja fF,.val Ja fG,.val Ja gk,.val Ja fH])],2⟩
def Zlo(iE:List Kb)(iF:Int)(jO:Int)(jP:Int)(jQ:Int)(fF:Int)(fG:Int)(fH:Int)(rH:Int)(rI:Bool)(rJ:Int):St:=⟨[(2,vP 0 0),(3,vP 1 0),(63,vV Je iE),(64,vI iF),(65,vI rH),(66,vB rI)],[(0,.box [.val Ja (0:Int),.val Ja (0:Int),.val Ja (0:Int),.val Ja (0:Int),.val Ja (0:Int),.val Ja (0:Int),.val Ja (0:Int)]),(1,.box [.val Ja jO,.val Ja jP,.val Ja jQ,.val Ja fF,.val Ja fG,.val Ja rJ,.val Ja fH])],2⟩
theorem Zm2{iE:List Kb}{iF:Int}{jO:Int}{jP:Int}{jQ:Int}{fF:Int}{fG:Int}{fH:Int}{K0:Int->Bool->Int->Option R}(h0:K0= λrH rI rJ=>K (.exit 3) (Zlo iE iF jO jP jQ fF fG fH rH rI rJ))(n:Nat)(t53:Int)(gk:Int):Zc5 N iE iF jO jP jQ fF fG fH K0 n t53 gk=LM Zed N 1 100015 n (Zm1 iE iF t53 jO jP jQ fF fG gk fH) K:=by
  subst h0
  induction n generalizing t53 gk with
  |zero=>kernel_rfl
  |succ n ih=>rw[Zc5];simp only[ih];kernel_rfl
theorem Zr5(w1:Y_World):DN Zed N (w1,())=Zec N w1:=by
  conv=>rhs;rw[Zec];simp(disch:=exact id (by kernel_rfl)) only[Zm0 (R:=Unit×(Km×Unit)) N (CF Zed N [1,1,0,1,0]),Zm2 (R:=Unit×(Km×Unit)) N (CF Zed N [1,1,1,0,1,0])]
  kernel_rfl
def Zr6:Gd:=GF Zed func24 (λN d=>Zr5 N d.1)
def Zpt:Fn:=⟨f23,WG,λN=>Sig.of [.v (.prod Ja (.prod Ja (.prod Ja Jz))) true] [vf_ Js] (λd=>Zfj N d.1),CX [Zhe]⟩
def Zpu:Gd:=GF Zpt func23
def Zst:Fn:=⟨f63,WG,λN=>Sig.of [vt_ (TY_Root)] [vf_ Jq] (λd=>Zi2 N d.1),WaN⟩
def Zsu:Gd:=GN Zst func63
def Z2:Fn:=⟨f90,λ |2=>cn_ [0,1,7,8,9]|3=>cn_ [0,1,5,7,8]|4=>cn_ [0,1,5,7,8,16]|5=>cn_ [1,4]|6=>cn_ [0,1,7,8]|100002=>cn_ [0,1,7,8]|_=>[],λN=>Sig.of [vf_ Ju,.clos 63 0] [vf_ Ja] (λd=>Zu N d.1),CX [Zsu]⟩
def Zdt(s2:List Y_Root)(t4:Int):St:=⟨[(0,vV Ju s2),(1,.s (.one (.clos 63 []))),(7,vI (Wh s2)),(8,vI t4)],[],0⟩
def Zdi(s2:List Y_Root)(t7:Int):St:=⟨[(1,.s (.one (.clos 63 []))),(4,vI t7)],[],0⟩
def Zdj(s2:List Y_Root)(t8:Int)(t9:Bool):St:=⟨[(0,vV Ju s2),(1,.s (.one (.clos 63 []))),(7,vI (Wh s2)),(8,vI t8),(9,vB t9)],[],0⟩
theorem Zdu{s2:List Y_Root}{K0:Int->Option R}{K1:Int->Bool->Option R}(h0:K0= λt7=>K .ret (Zdi s2 t7))(h1:K1= λt8 t9=>K (.exit 0) (Zdj s2 t8 t9))(n:Nat)(t4:Int):Zh N s2 K0 K1 n t4=LM Z2 N 0 100002 n (Zdt s2 t4) K:=by
  subst h0 h1
  induction n generalizing t4 with
  |zero=>kernel_rfl
  |succ n ih=>rw[Zh];simp only[ih];kernel_rfl
theorem Zee(s1:List Y_Root):DN Z2 N (s1,())=Zu N s1:=by
  conv=>rhs;rw[Zu];simp(disch:=exact id (by kernel_rfl)) only[Zdu (R:=Unit×Ki) N (CF Z2 N [1,0,1,0])]
  kernel_rfl
def Zef:Gd:=GF Z2 func90 (λN d=>Zee N d.1)
def Zd1:Fn:=⟨f62,WG,λN=>Sig.of [vf_ Ju,.clos 63 0] [vf_ Jq] (λd=>Zag N d.1),CX [Zef]⟩
def Zd2:Gd:=GF Zd1 func62
def Zto:Fn:=⟨f44,WG,λN=>Sig.of [vt_ (TY_World)] [vf_ Jq] (λd=>Ziw N d.1),CX [Zd2]⟩
def Ztp:Gd:=GF Zto func44
def Zdc:Fn:=⟨f26,λ |5=>cn_ [1,2,4,5,21]|6=>cn_ [1,2,4,5]|7=>cn_ [1,2,4,5,25,26,27]|8=>cn_ [1,2,4,5,25,26,27,28]|9=>cn_ [1,2,4,5,6,7,25,26,27]|10=>cn_ [1,2,4,5,6,7,25,26,27]|11=>cn_ [1,2,4,5,6,25,26,27,38,39]|12=>cn_ [1,2,4,5,6,25,26,27,38,39,40]|13=>cn_ [1,2,4,5,6,8,25,26,27,38,39]|14=>cn_ [1,2,4,5,6,25,26,27,38,39]|15=>cn_ [1,2,4,5,6,25,26,27,38,39]|16=>cn_ [1,2,4,5,25,26,27]|100005=>cn_ [1,2,4,5]|100008=>cn_ [1,2,4,5,25,26,27]|100012=>cn_ [1,2,4,5,6,25,26,27,38,39]|_=>[],λN=>Sig.of [vt_ Jag] [vt_ Jv,vf_ Ja] (λd=>Zal N d.1),CX [Zez,Zi7,Ztp,Zi1]⟩
def Zpv(bg:Int)(gr:Int)(fI:List Kn)(fJ:Int)(t45:Int)(cP:Kf×List Kn×List Kb)(de:Int)(df:Int)(c7:Int)(dg:Int)(d6:Int)(d7:Int)(d8:Int)(d9:Int)(kX:List Kb)(kY:List Int)(kZ:List Kb)(ld:List Y_Root)(lg:List Ko):St:=⟨[(1,vP 0 0),(2,vP 1 0),(4,vP 2 0),(5,vI bg),(6,vI gr),(25,vV Jn fI),(26,vI fJ),(27,vI gr),(38,vI (Wh (Xc fI (Xa gr) (([]:List Ka),([]:List Ky))).2)),(39,vI t45)],[(0,.box [.val Jx cP.1.1,.val Jx cP.1.2.1,.val Ja cP.1.2.2,.val Jn cP.2.1,.val Je cP.2.2]),(1,.box [.val Ja de,.val Ja df,.val Ja c7,.nils,.nils,.val Ja dg,.nils,.nils,.nils]),(2,.box [.val Ja d6,.val Ja d7,.val Ja d8,.own 3,.own 4,.val Ja d9,.own 5,.own 6,.own 7]),(3,.arr Jl kX),(4,.arr Ja kY),(5,.arr Jl kZ),(6,.arr Jab ld),(7,.arr Jj lg)],8⟩
def Zoh(bg:Int)(gr:Int)(fI:List Kn)(fJ:Int)(cP:Kf×List Kn×List Kb)(de:Int)(df:Int)(c7:Int)(dg:Int)(pH:Int)(pI:Bool)(fF:Int)(fG:Int)(gk:Int)(fH:Int)(oM:List Kb)(eX:List Int)(eY:List Kb)(eZ:List Y_Root)(oN:List Ko):St:=⟨[(1,vP 0 0),(2,vP 1 0),(4,vP 2 0),(5,vI bg),(6,vI gr),(25,vV Jn fI),(26,vI fJ),(27,vI gr),(38,vI (Wh (Xc fI (Xa gr) (([]:List Ka),([]:List Ky))).2)),(39,vI pH),(40,vB pI)],[(0,.box [.val Jx cP.1.1,.val Jx cP.1.2.1,.val Ja cP.1.2.2,.val Jn cP.2.1,.val Je cP.2.2]),(1,.box [.val Ja de,.val Ja df,.val Ja c7,.nils,.nils,.val Ja dg,.nils,.nils,.nils]),(2,.box [.val Ja fF,.val Ja fG,.val Ja gk,.own 3,.own 4,.val Ja fH,.own 5,.own 6,.own 7]),(3,.arr Jl oM),(4,.arr Ja eX),(5,.arr Jl eY),(6,.arr Jab eZ),(7,.arr Jj oN)],8⟩
theorem Zpw{bg:Int}{gr:Int}{fI:List Kn}{fJ:Int}{cP:Kf×List Kn×List Kb}{de:Int}{df:Int}{c7:Int}{dg:Int}{K0:Int->Bool->Int->Int->Int->Int->Ks->Kg->Ks->(List Y_Root)->Kaa->Option R}(h0:K0= λpH pI fF fG gk fH oM eX eY eZ oN=>K (.exit 4) (Zoh bg gr fI fJ cP de df c7 dg pH pI fF fG gk fH oM eX eY eZ oN))(n:Nat)(t45:Int)(d6:Int)(d7:Int)(d8:Int)(d9:Int)(kX:List Kb)(kY:List Int)(kZ:List Kb)(ld:List Y_Root)(lg:List Ko):Zcv N bg gr fI fJ cP de df c7 dg K0 n t45 d6 d7 d8 d9 kX kY kZ ld lg=LM Zdc N 2 100012 n (Zpv bg gr fI fJ t45 cP de df c7 dg d6 d7 d8 d9 kX kY kZ ld lg) K:=by
  subst h0
  induction n generalizing t45 d6 d7 d8 d9 kX kY kZ ld lg with
  |zero=>kernel_rfl
  |succ n ih=>rw[Zcv];simp only[ih];kernel_rfl
def Zpx(aW:Int)(gd:List Kn)(dR:Int)(dM:Kf×List Kn×List Kb)(iG:Int)(gO:Int)(gP:Int)(gQ:Int)(iH:Int)(lh:Int)(li:Int)(lj:Int)(dc:List Kb)(hY:List Int)(kt:List Kb)(ku:List Y_Root)(dU:List Ko):St:=⟨[(1,vP 0 0),(2,vP 1 0),(4,vP 2 0),(5,vI aW),(25,vV Jn gd),(26,vI (Wh dM.2.1)),(27,vI dR)],[(0,.box [.val Jx dM.1.1,.val Jx dM.1.2.1,.val Ja dM.1.2.2,.val Jn dM.2.1,.val Je dM.2.2]),(1,.box [.val Ja iG,.val Ja gO,.val Ja gP,.nils,.nils,.val Ja gQ,.nils,.nils,.nils]),(2,.box [.val Ja iH,.val Ja lh,.val Ja li,.own 3,.own 4,.val Ja lj,.own 5,.own 6,.own 7]),(3,.arr Jl dc),(4,.arr Ja hY),(5,.arr Jl kt),(6,.arr Jab ku),(7,.arr Jj dU)],8⟩
def Zoi(aW:Int)(gd:List Kn)(dM:Kf×List Kn×List Kb)(iG:Int)(gO:Int)(gP:Int)(gQ:Int)(rK:Int)(rL:Bool)(rM:Int)(mC:Int)(mD:Int)(mE:Int)(mF:List Kb)(mG:List Int)(mH:List Kb)(mI:List Y_Root)(mJ:List Ko):St:=⟨[(1,vP 0 0),(2,vP 1 0),(4,vP 2 0),(5,vI aW),(25,vV Jn gd),(26,vI (Wh dM.2.1)),(27,vI rK),(28,vB rL)],[(0,.box [.val Jx dM.1.1,.val Jx dM.1.2.1,.val Ja dM.1.2.2,.val Jn dM.2.1,.val Je dM.2.2]),(1,.box [.val Ja iG,.val Ja gO,.val Ja gP,.nils,.nils,.val Ja gQ,.nils,.nils,.nils]),(2,.box [.val Ja rM,.val Ja mC,.val Ja mD,.own 3,.own 4,.val Ja mE,.own 5,.own 6,.own 7]),(3,.arr Jl mF),(4,.arr Ja mG),(5,.arr Jl mH),(6,.arr Jab mI),(7,.arr Jj mJ)],8⟩
theorem Zpy{aW:Int}{gd:List Kn}{dM:Kf×List Kn×List Kb}{iG:Int}{gO:Int}{gP:Int}{gQ:Int}{K0:Int->Bool->Int->Int->Int->Int->Ks->Kg->Ks->(List Y_Root)->Kaa->Option R}(h0:K0= λrK rL rM mC mD mE mF mG mH mI mJ=>K (.exit 2) (Zoi aW gd dM iG gO gP gQ rK rL rM mC mD mE mF mG mH mI mJ))(n:Nat)(dR:Int)(iH:Int)(lh:Int)(li:Int)(lj:Int)(dc:List Kb)(hY:List Int)(kt:List Kb)(ku:List Y_Root)(dU:List Ko):Zbk N aW gd dM iG gO gP gQ K0 n dR iH lh li lj dc hY kt ku dU=LM Zdc N 1 100008 n (Zpx aW gd dR dM iG gO gP gQ iH lh li lj dc hY kt ku dU) K:=by
  subst h0
  induction n generalizing dR iH lh li lj dc hY kt ku dU with
  |zero=>kernel_rfl
  |succ n ih=>rw[Zbk];simp(disch:=exact id (by kernel_rfl)) only[ih,Zpw N (CL Zdc N 1 100008 [1,1,0,0,1,1,1,0] n K)];kernel_rfl
def Zpz(aY:Int)(b5:Kf×List Kn×List Kb)(aQ:Int)(bP:Int)(dA:Int)(bK:Int)(aU:List Kb)(bf:List Int)(bR:List Kb)(dq:List Y_Root)(bC:List Ko):St:=⟨[(1,vP 0 0),(2,vP 1 0),(4,vP 2 0),(5,vI aY)],[(0,.box [.val Jx b5.1.1,.val Jx b5.1.2.1,.val Ja b5.1.2.2,.val Jn b5.2.1,.val Je b5.2.2]),(1,.box [.val Ja (0:Int),.val Ja (0:Int),.val Ja (0:Int),.nils,.nils,.val Ja (0:Int),.nils,.nils,.nils]),(2,.box [.val Ja aQ,.val Ja bP,.val Ja dA,.own 3,.own 4,.val Ja bK,.own 5,.own 6,.own 7]),(3,.arr Jl aU),(4,.arr Ja bf),(5,.arr Jl bR),(6,.arr Jab dq),(7,.arr Jj bC)],8⟩
def Zoj(b5:Kf×List Kn×List Kb)(du:Int)(mK:Bool)(mL:Int)(mM:Int)(mN:Int)(mO:Int)(mP:List Kb)(mQ:List Int)(mR:List Kb)(mS:List Y_Root)(mT:List Ko):St:=⟨[(1,vP 0 0),(2,vP 1 0),(4,vP 2 0),(5,vI du),(21,vB mK)],[(0,.box [.val Jx b5.1.1,.val Jx b5.1.2.1,.val Ja b5.1.2.2,.val Jn b5.2.1,.val Je b5.2.2]),(1,.box [.val Ja (0:Int),.val Ja (0:Int),.val Ja (0:Int),.nils,.nils,.val Ja (0:Int),.nils,.nils,.nils]),(2,.box [.val Ja mL,.val Ja mM,.val Ja mN,.own 3,.own 4,.val Ja mO,.own 5,.own 6,.own 7]),(3,.arr Jl mP),(4,.arr Ja mQ),(5,.arr Jl mR),(6,.arr Jab mS),(7,.arr Jj mT)],8⟩
theorem Zp0{b5:Kf×List Kn×List Kb}{K0:Int->Bool->Int->Int->Int->Int->Ks->Kg->Ks->(List Y_Root)->Kaa->Option R}(h0:K0= λdu mK mL mM mN mO mP mQ mR mS mT=>K (.exit 0) (Zoj b5 du mK mL mM mN mO mP mQ mR mS mT))(n:Nat)(aY:Int)(aQ:Int)(bP:Int)(dA:Int)(bK:Int)(aU:List Kb)(bf:List Int)(bR:List Kb)(dq:List Y_Root)(bC:List Ko):Zbl N b5 K0 n aY aQ bP dA bK aU bf bR dq bC=LM Zdc N 0 100005 n (Zpz aY b5 aQ bP dA bK aU bf bR dq bC) K:=by
  subst h0
  induction n generalizing aY aQ bP dA bK aU bf bR dq bC with
  |zero=>kernel_rfl
  |succ n ih=>rw[Zbl];simp(disch:=exact id (by kernel_rfl)) only[ih,Zpy N (CL Zdc N 0 100005 [1,0,1,1,0] n K)];kernel_rfl
theorem Zta(s1:Kf×List Kn×List Kb):DN Zdc N (s1,())=Zal N s1:=by
  conv=>rhs;rw[Zal];simp(disch:=exact id (by kernel_rfl)) only[Zp0 (R:=Unit×(Y_World×Ki)) N (CF Zdc N [1,1,1,1,0,0])]
  kernel_rfl
def Zlp:Gd:=GF Zdc func26 (λN d=>Zta N d.1)
def Zm3:Fn:=⟨f14,λ |7=>[.nest 40 Jg]|10=>[.opn 62]|12=>[.nest 82 (.own Jz)]|30=>cn_ [0,8,123,124,125,126]|31=>cn_ [0,8,10,123,124,125]|32=>cn_ [0,8,123,124,125]|33=>cn_ [0,8,123,124,125]|_=>[],λN=>Sig.of [.box Jy,vf_ Js] [vf_ Js] (λd=>Zf4 N d.1 d.2.1),CX [Zez,Zi7,Zr6,Zpu,Zlp,Zhe]⟩
def Zm4:Gd:=GF Zm3 func14
def Ztq:Fn:=⟨f34,WG,λN=>Sig.of [vf_ Jq] [vf_ Js] (λd=>Za3 N d.1),WaN⟩
def Zna:Gd:=GN Ztq func34
def Zok:Fn:=⟨f28,WG,λN=>Sig.of [.box Jy,vt_ Jl] [vf_ Js] (λd=>Zas N d.1 d.2.1),CX [Zez,Zm,Zna]⟩
def Ziq:Gd:=GF Zok func28
def Zp1:Fn:=⟨f29,WG,λN=>Sig.of [vf_ Ja] [vf_ Js] (λd=>Zh8 N d.1),CX [Zm]⟩
def Zp2:Gd:=GF Zp1 func29
def Zhp:Fn:=⟨f32,λ |5=>cn_ [0,3,12,13]|6=>cn_ [0,3,4,12]|7=>cn_ [0,3,4,5,12]|8=>cn_ [0,3,5,6,7,12]|9=>cn_ [0,3,5,6,12,21]|10=>cn_ [0,3,5,12]|11=>cn_ [0,3,12]|12=>cn_ [0,3,12]|100005=>cn_ [0,3,12]|_=>[],λN=>Sig.of [vf_ Jx] [vf_ Jai] (λd=>Zhd N d.1),CX [Zfk,Zgr]⟩
def Zp3(l3:List Int)(t4:Int)(l5:List Int):St:=⟨[(0,vV Jx l3),(3,vO 0),(12,vI t4)],[(0,.arr Ja l5)],1⟩
def Zol(l3:List Int)(t7:Int)(t8:Bool)(l9:List Int):St:=⟨[(0,vV Jx l3),(3,vO 0),(12,vI t7),(13,vB t8)],[(0,.arr Ja l9)],1⟩
theorem Zp4{l3:List Int}{K0:Int->Bool->Kg->Option R}(h0:K0= λt7 t8 l9=>K (.exit 0) (Zol l3 t7 t8 l9))(n:Nat)(t4:Int)(l5:List Int):Zfi N l3 K0 n t4 l5=LM Zhp N 0 100005 n (Zp3 l3 t4 l5) K:=by
  subst h0
  induction n generalizing t4 l5 with
  |zero=>kernel_rfl
  |succ n ih=>rw[Zfi];simp only[ih];kernel_rfl
theorem Ztb(l1:List Int):DN Zhp N (l1,())=Zhd N l1:=by
  conv=>rhs;rw[Zhd];simp(disch:=exact id (by kernel_rfl)) only[Zp4 (R:=Unit×Kac) N (CF Zhp N [1,1,1,0,1,0])]
  kernel_rfl
def Ztc:Gd:=GF Zhp func32 (λN d=>Ztb N d.1)
end
end Go.Sx
