/- Each Go function does what its Lean function says. -/
import Derived.Test.YtnddhmkccolneaaGreatT2
import Derived.Test.YtnddhmkccolneaaGreatProg
import Derived.Test.YtnddhmkccolneaaGreatLay
open Bool renaming and_eq_true→Xh
open List renaming cons_append→dM,nil_append→dn
namespace Go.Sx
noncomputable section
open Go.Proofs
open Tryz
abbrev Ja:Ty:=.int .i64
abbrev Jb:Ty:=.prod Ja (.prod Ja Ja)
abbrev Jc:Ty:=.own (.prod Ja Ja)
abbrev Jd:Ty:=.own Ja
abbrev Je:Ty:=.prod Ja (.prod Ja (.prod Ja (.prod Ja (.prod Ja (.prod (.slice (.prod Ja Ja)) (.slice Ja))))))
abbrev Jf:Ty:=.prod (.prod Ja Jb) (.prod (.prod Ja (.prod Ja (.prod Ja (.prod Ja (.prod Ja (.prod Jc Jd)))))) (.prod Ja (.prod Ja (.prod Ja (.prod (.bool) (.prod Jd (.prod Jc (.prod (.own Jb) (.prod Jd (.prod Jc (.own (.prod Ja (.prod Ja (.prod Ja (.prod Ja (.prod Ja (.prod Ja (.prod Jd (.prod (.own Jb) (.prod Jc (.prod (.own (.prod Ja (.prod Ja Jd))) (.prod (.bool) (.prod Ja Jb)))))))))))))))))))))))
abbrev Jg:Ty:=.prod Ja (.prod Ja (.prod (.prod Ja (.own Jb)) (.prod (.prod Jd Ja) (.prod (.own Jb) (.prod (.own (TY_Root)) (.own (.prod Ja (.prod Ja (.slice (.prod Ja Ja))))))))))
abbrev Jh:Ty:=.slice (.prod Ja Jb)
abbrev Ji:Ty:=.prod (.prod Jd (.prod Jd Ja)) (.prod (.own (.prod (.own (.prod Ja Jb)) (.own (.own (.prod Ja Jb))))) (.own Jb))
abbrev Jj:Ty:=.prod Ja (.prod Ja (.prod Ja (.prod Ja (.prod Ja (.prod Ja (.prod Ja (.prod Ja (.prod Ja (.prod Ja (.prod Ja (.prod (.bool) (.prod Jd (.prod Jc (.prod Jc (.prod (.own (.prod Ja (.prod Ja (.prod Ja (.prod Ja Jd))))) (.prod (.own Jb) (.prod Jd (.prod (.bool) Jf))))))))))))))))))
abbrev Jk:Ty:=.prod Ja (.prod Ja (.prod Ja (.prod Ja (.prod Ja (.prod Ja (.prod Jd (.prod (.own Jb) (.prod Jc (.prod (.own (.prod Ja (.prod Ja Jd))) (.prod (.bool) (.prod Ja Jb)))))))))))
abbrev Jl:Ty:=.slice Ja
abbrev Jm:Ty:=.slice (.prod Ja Ja)
abbrev Jn:Ty:=.prod Ja (.prod Ja (.prod (.prod Ja (.own Jb)) (.prod (.prod Jd Ja) (.prod (.own Jb) (.prod (.own Jj) (.own (.prod Ja (.prod Ja Jc))))))))
abbrev Jo:Ty:=.prod (.prod Jl (.prod Jl Ja)) (.prod (.slice (.prod Jh (.slice Jh))) (.slice Jb))
abbrev Jp:Ty:=.prod Ja Jb
abbrev Jq:Ty:=.prod Ja (.prod Ja (.prod Ja (.prod (.bool) (.prod Jl (.prod Jm (.prod (.slice Jb) (.prod Jl (.prod Jm (.own (TY_KidRun))))))))))
abbrev Jr:Ty:=.prod Ja (.prod Ja (.prod Ja (.prod Ja (.prod Ja (.prod Jc Jd)))))
abbrev Js:Ty:=.prod Ja (.prod Ja (.prod Ja (.prod (.bool) (.prod Jd (.prod Jc (.prod (.own Jb) (.prod Jd (.prod Jc (.own Jk)))))))))
abbrev Jt:Ty:=.prod (.slice (.int .u8)) (.prod Ja Ja)
abbrev Ju:Ty:=.prod Ja (.prod Ja (.prod Ja (.prod Ja (.prod Ja (.prod Ja (.prod Ja (.prod Ja (.prod Ja (.prod Ja (.prod Ja (.prod (.bool) (.prod Jl (.prod Jm (.prod Jm (.prod (.slice (.prod Ja (.prod Ja (.prod Ja (.prod Ja Jl))))) (.prod (.own Jb) (.prod Jl (.prod (.bool) (.prod Jp (.prod Je (TY_Family)))))))))))))))))))))
abbrev Jv:Ty:=.slice Jb
abbrev Jw:Ty:=.prod Jh (.slice Jh)
abbrev Jx:Ty:=.prod (.own Jp) (.own (.own Jp))
abbrev Jy:Ty:=.prod Ja (.own Jb)
abbrev Jz:Ty:=.prod Ja Ja
abbrev Jaa:Ty:=.str
abbrev Jab:Ty:=.slice (.int .u8)
abbrev Jac:Ty:=.prod Ja (.prod Ja Jm)
abbrev Jad:Ty:=.prod Ja (.prod Ja Jc)
abbrev Jae:Ty:=.prod Ja (.prod Ja (.prod Ja (.prod (.bool) (.prod Jd (.prod Jc (.prod (.own Jb) (.prod Jd (.prod Jc (.own (TY_KidRun))))))))))
abbrev Jaf:Ty:=.prod Jl Ja
abbrev Jag:Ty:=.bool
abbrev Jah:Ty:=.prod Ja Jv
abbrev Jai:Ty:=.slice Jw
abbrev Jaj:Ty:=.prod Ja (.prod Ja Jl)
abbrev Jak:Ty:=.prod Ja (.prod Ja (.prod Ja Jp))
abbrev Jal:Ty:=.slice (TY_Root)
abbrev Jam:Ty:=.prod Ja (.prod Ja Jd)
abbrev Jan:Ty:=.prod Jd Ja
abbrev Jao:Ty:=.own Jb
set_option linter.unusedVariables false
set_option linter.unusedSimpArgs false
def tab:Tab:=[(3,⟨.int .i64,false,.basic⟩),(4,⟨.bool,false,.basic⟩),(5,⟨.int .u8,false,.basic⟩),(9,⟨.str,false,.basic⟩),(22,⟨.slice (.int .u8),false,.slice 5⟩),(34,⟨.slice Jp,false,.slice 40⟩),(36,⟨.slice Jh,false,.slice 42⟩),(38,⟨.prod Jh (.slice Jh),true,.struct [(0,34),(1,36)]⟩),(40,⟨.prod Ja Jb,true,.struct [(0,3),(1,3),(2,3),(3,3)]⟩),(42,⟨.slice Jp,true,.struct [(0,34)]⟩),(45,⟨.slice Jaa,false,.slice 9⟩),(49,⟨.slice Ja,false,.slice 3⟩),(51,⟨.prod Jl Jaf,true,.struct [(0,49),(1,49),(2,3)]⟩),(52,⟨.slice Jw,false,.slice 38⟩),(53,⟨.slice Jb,false,.slice 105⟩),(55,⟨.prod (.prod Jl Jaf) (.prod Jai Jv),true,.struct [(0,51),(3,52),(4,53)]⟩),(59,⟨.prod Jab Jz,true,.struct [(0,22),(1,3),(2,3)]⟩),(82,⟨.int .i64,true,.arr 3 3⟩),(87,⟨.prod Ja (.prod Ja (.prod Ja Jp)),true,.struct [(0,3),(1,3),(2,3),(3,3),(4,3),(5,3),(6,3)]⟩),(89,⟨.slice Jb,false,.slice 121⟩),(91,⟨.prod Ja Jv,true,.struct [(0,3),(1,89)]⟩),(93,⟨.prod Jl Ja,true,.struct [(0,49),(1,3)]⟩),(94,⟨.slice Jb,false,.slice 217⟩),(95,⟨.slice (TY_Root),false,.slice 118⟩),(96,⟨.slice Jac,false,.slice 212⟩),(98,⟨TY_World,true,.struct [(0,3),(1,3),(2,91),(4,93),(6,94),(7,95),(8,96)]⟩),(105,⟨.prod Ja Jz,true,.struct [(0,3),(1,3),(2,3)]⟩),(106,⟨.slice Jz,false,.slice 196⟩),(107,⟨.slice (.prod Ja (.prod Ja Jaj)),false,.slice 164⟩),(108,⟨.slice Jb,false,.slice 205⟩),(110,⟨.prod Ja Jb,true,.struct [(0,3),(1,3),(2,3),(3,3)]⟩),(112,⟨.prod Ja (.prod Ja (.prod Ja (.prod Ja (.prod Ja (.prod Jm Jl))))),true,.struct [(0,3),(1,3),(2,3),(3,3),(4,3),(5,106),(6,49)]⟩),(113,⟨.slice Jb,false,.slice 174⟩),(114,⟨.slice (TY_KidRun),false,.slice 172⟩),(116,⟨TY_Family,true,.struct [(0,3),(1,3),(2,3),(3,4),(4,49),(5,106),(6,113),(7,49),(8,106),(9,114)]⟩),(118,⟨TY_Root,true,.struct [(0,3),(1,3),(2,3),(3,3),(4,3),(5,3),(6,3),(7,3),(8,3),(9,3),(10,3),(11,4),(12,49),(13,106),(14,106),(15,107),(16,108),(17,49),(18,4),(19,110),(23,112),(30,116)]⟩),(121,⟨.prod Ja Jz,true,.struct [(0,3),(1,3),(2,3)]⟩),(153,⟨.bool,true,.arr 8 4⟩),(157,⟨.slice Jag,false,.slice 4⟩),(164,⟨.prod Ja (.prod Ja Jaj),true,.struct [(0,3),(1,3),(2,3),(3,3),(4,49)]⟩),(170,⟨.slice Jaj,false,.slice 222⟩),(172,⟨TY_KidRun,true,.struct [(0,3),(1,3),(2,3),(3,3),(4,3),(5,3),(6,49),(7,113),(8,106),(9,170),(10,4),(11,110)]⟩),(174,⟨.prod Ja Jz,true,.struct [(0,3),(1,3),(2,3)]⟩),(196,⟨.prod Ja Ja,true,.struct [(0,3),(1,3)]⟩),(205,⟨.prod Ja Jz,true,.struct [(0,3),(1,3),(2,3)]⟩),(212,⟨.prod Ja (.prod Ja Jm),true,.struct [(0,3),(1,3),(2,106)]⟩),(217,⟨.prod Ja Jz,true,.struct [(0,3),(1,3),(2,3)]⟩),(222,⟨.prod Ja (.prod Ja Jl),true,.struct [(0,3),(1,3),(2,49)]⟩)]
theorem mixedOk:Tryz.prog.follows .mixedOrders=true:=by kernel_rfl
theorem tabOk:au Tryz.prog tab:=WyL (show D6 Tryz.prog tab tab=true by kernel_rfl)
def St.ins(k:Nat)(v:AVal):List (Nat×AVal)->List (Nat×AVal)
  | []=>[(k,v)]
  |x::l=>bif Nat.blt k x.1 then(k,v)::x::l else x::St.ins k v l
def St.P(s:St)(k:Nat)(v:AVal):St:=⟨St.ins k v s.env,s.objs,s.nx⟩
def St.B(s:St)(k:Nat)(b:Bool):St:=s.P k (vB b)
def LM(x:Fn)(N:Nat){R:Type}(i k n:Nat)(st:St)(K:Ex->St->Option R):Option R:=lpM tab (x.c N) x.a N x.F i k n st K
def CF(x:Fn)(N:Nat)(p:List Nat):Ex->St->Option (Qs (x.s N)):=cxF tab (x.c N) x.a N (x.s N) x.F p
def CL(x:Fn)(N:Nat){R:Type}(i k:Nat)(p:List Nat)(n:Nat)(K:Ex->St->Option R):Ex->St->Option R:=cxL tab (x.c N) x.a N x.F i k p n K
def DN(x:Fn)(N:Nat)(d:dA (x.s N).ps):Option (Qs (x.s N)):=den (R:=Qs (x.s N)) tab (x.c N) x.a N (x.s N) x.F d some
def GW(k:FuncId)(s:Sig):Prop:=DG Tryz.prog k/\wg Tryz.prog k s
theorem GC{k:FuncId}{s:Sig}{Γ:Ctx}(h:GW k s)(a:eC Tryz.prog Γ):eC Tryz.prog ((k,s)::Γ):=WvD h.2 h.1 a
structure Gd where
  k:FuncId
  s:Nat->Sig
  h:∀N,GW k (s N)
def CX(l:List Gd)(N:Nat):Ctx:=l.map λg=>(g.k,g.s N)
theorem CO(N:Nat):∀(l:List Gd),eC Tryz.prog (CX l N)
  | []=>NX
  |g::l=>GC (g.h N) (CO N l)
theorem GR(x:Fn){k:FuncId}(N:Nat)(b:Tryz.prog.funcs[k]?=some x.F)(f:eC Tryz.prog (x.c N))(h:∀d,DN x N d=(x.s N).run d:=by intro d;kernel_rfl)(a:(sh x.F&&DQ x.F (x.s N).ps)=true:=by kernel_rfl)(hi:(x.s N).inl=none:=by rfl):GW k (x.s N):=
  ⟨C5 b (Xh .. ▸a).1,Wy4 hi (Wso mixedOk tabOk f b (Xh .. ▸a).2 (λd _ e=>⟨N,(h d).trans e⟩))⟩
def GF(x:Fn){k:FuncId}(e:Tryz.prog.funcs[k]?=some x.F)(h:∀N d,DN x N d=(x.s N).run d:=by intro N d;kernel_rfl)(b:∀N,eC Tryz.prog (x.c N):=by exactλN=>CO N _)(a:∀N,(sh x.F&&DQ x.F (x.s N).ps)=true:=by intro N;kernel_rfl)(hi:∀N,(x.s N).inl=none:=by intro N;rfl):Gd:=
  ⟨k,x.s,λN=>GR x N e (b N) (h N) (a N) (hi N)⟩
def GN(x:Fn){k:FuncId}(e:Tryz.prog.funcs[k]?=some x.F)(h:∀N d,DN x N d=(x.s N).run d:=by intro N d;kernel_rfl)(b:∀N,eC Tryz.prog (x.c N):=by exactλN=>NX)(a:∀N,(sh x.F&&DQ x.F (x.s N).ps)=true:=by intro N;kernel_rfl)(hi:∀N,(x.s N).inl=none:=by intro N;rfl):Gd:=GF x e h b a hi
abbrev cn_(l:List Nat):List Ghost:=[.canon l]
abbrev vf_(t:Ty):PTy:=.v t false
abbrev vt_(t:Ty):PTy:=.v t true
variable(N:Nat){R:Type}(K:Ex->St->Option R)
def Rd:Fn:=⟨f4,Ww,λN=>Sig.of [vf_ Jab] [vf_ Jag] (λd=>RP N d.1),W3⟩
def Re:Gd:=GN Rd func4
def K9:Fn:=⟨f10,λ |3=>cn_ [0,3,4,15]|4|5|100003=>cn_ [0,3,4]|_=>[],λN=>Sig.of [vf_ Jab] [.box Jt] (λd=>CJ N d.1),W3⟩
def Ztz(a:List Int)(b c:Int):St:=⟨[(0,vV Jab a),(3,vI b),(4,vI c)],[],0⟩
theorem Z16{a K0}(d:K0= λe f g=>K (.exit 0) ((Ztz a e f).B 15 g))(n b c):tx N a K0 n b c=LM K9 N 0 100003 n (Ztz a b c) K:=by subst d;induction n generalizing b c;kernel_rfl;rw[tx];simp only[*];kernel_rfl
theorem PM(ae:List Int):DN K9 N (ae,())=CJ N ae:=by
 conv=>rhs;rw[CJ];simp(disch:=exact id (by kernel_rfl)) only[Z16 (R:=Unit×Kw) N (CF K9 N [1,1,0,1,0])]
 kernel_rfl
def PN:Gd:=GN K9 func10 (λN d=>PM N d.1)
def Z8q:Fn:=⟨f23,Ww,λN=>Sig.of [.box Jt] [vf_ Ja] (λd=>iT N d.1),W3⟩
def Rz:Gd:=GN Z8q func23
def Z5n:Fn:=⟨f11,Ww,λN=>Sig.of [.box Jt,vf_ Ja] [vf_ Ja] (λd=>Za N d.1 d.2.1),CX [Rz]⟩
def mq:Gd:=GF Z5n func11
def LJ:Fn:=⟨f12,λ |5=>cn_ [0,3,4,11]|6|8=>cn_ [0,3,4,5]|7=>cn_ [0,3,4,5,15]|9|10|100005=>cn_ [0,3,4]|_=>[],λN=>Sig.of [vf_ Ja] [vf_ Jaa] (λd=>Zv N d.1),W3⟩
def Zvk(c:Int)(a:List UInt8)(b:Bool):St:=⟨[(0,vI c),(3,vV Jaa a),(4,vB b)],[],0⟩
theorem Z5o{b K0}(d:K0= λe g f=>K (.exit 0) ((Zvk e g b).B 11 f))(n c a):y5 N b K0 n c a=LM LJ N 0 100005 n (Zvk c a b) K:=by subst d;induction n generalizing c a;kernel_rfl;rw[y5];simp only[*];kernel_rfl
theorem Rf(n1:Int):DN LJ N (n1,())=Zv N n1:=by
 conv=>rhs;rw[Zv];simp(disch:=exact id (by kernel_rfl)) only[Z5o (R:=Unit×Kt) N (CF LJ N [1,1,1,1,0,0])]
 kernel_rfl
def FX:Gd:=GN LJ func12 (λN d=>Rf N d.1)
def Z8r:Fn:=⟨f14,Ww,λN=>Sig.of [.box Jt,vf_ Ja] [vf_ Jag] (λd=>gB N d.1 d.2.1),CX [mq]⟩
def FA:Gd:=GF Z8r func14
def Z17:Fn:=⟨f24,Ww,λN=>Sig.of [.box Jt,vf_ Jl] [vf_ Ja] (λd=>Bq N d.1 d.2.1),CX [mq]⟩
def Zt0:Gd:=GF Z17 func24
def Z8s:Fn:=⟨f13,Ww,λN=>Sig.of [.box Jt] [vf_ Ja] (λd=>FU N d.1),CX [FA,Zt0,mq]⟩
def Zwi:Gd:=GF Z8s func13
def Z18:Fn:=⟨f44,Ww,λN=>Sig.of [.box Jt] [vf_ Ja] (λd=>jX N d.1),CX [mq]⟩
def Z19:Gd:=GF Z18 func44
def Z0i:Fn:=⟨f45,Ww,λN=>Sig.of [.box Jt] [vf_ Ja] (λd=>IC N d.1),CX [FA,mq]⟩
def Z0j:Gd:=GF Z0i func45
def Z2a:Fn:=⟨f46,Ww,λN=>Sig.of [.box Jt] [vf_ Ja] (λd=>Fi N d.1),CX [FA,mq,Zt0]⟩
def Z2b:Gd:=GF Z2a func46
def Z5p:Fn:=⟨f25,Ww,λN=>Sig.of [.box Jt,vf_ Ja] [vt_ Jp] (λd=>Zj N d.1 d.2.1),CX [Z19,Zwi,Z0j,mq,Z2b]⟩
def Z5q:Gd:=GF Z5p func25
def J7(N m:Nat):Sig:=Sig.of [.box Jt,vf_ Ja,vf_ Ja,vf_ Jag] [vf_ (.own Jp)] (λd=>yG N m d.1 d.2.1 d.2.2.1 d.2.2.2.1)
def PO(N:Nat):Sig:=J7 N N
def La(m:Nat):Fn:=⟨f15,λ |3=>cn_ [0,1,2,3,9,10,27]|4|6|8|10|12|16|18|19|25|27|29|100003=>cn_ [0,1,2,3,9,10]|5=>cn_ [0,1,2,3,9,10,11]|7=>cn_ [0,1,2,3,9,10,11,40]|9=>cn_ [0,1,2,3,9,10,11,48]|11=>cn_ [0,1,2,3,9,10,11,56]|13=>cn_ [0,1,2,3,9,10,11,67]|14|15=>cn_ [0,1,2,3,9,10,12]|17=>cn_ [0,1,2,3,9,10,100]|20=>cn_ [0,1,2,3,9,10,11,109]|21|24=>cn_ [0,1,2,3,9,10,13]|22|23=>cn_ [0,1,2,3,9,10,13,14]|26=>cn_ [0,1,2,3,9,10,134]|28=>cn_ [0,1,2,3,9,10,145]|_=>[],λN=>J7 N (m+1),λN=>(15,J7 N m)::CX [mq,Z5q,FA] N⟩
def Zt1(c d:Int)(a:Bool)(e:Int)(az:List Int×Int×Int)(b:List Ka):St:=⟨[(0,vP 0 0),(1,vI c),(2,vI d),(3,vB a),(9,vO 1),(10,vI e)],[(0,.box [.val Jab az.1,.val Ja az.2.1,.val Ja az.2.2]),(1,.arr Jp b)],2⟩
theorem Z2c(N m:Nat){R:Type}(K:Ex->St->Option R){c d a K0}(g:K0= λh f i j=>K (.exit 0) ((Zt1 c d a h i j).B 27 f))(n e az b):Zb N (yG N m) c d a K0 n e az b=LM (La m) N 0 100003 n (Zt1 c d a e az b) K:=by subst g;induction n generalizing e az b;kernel_rfl;rw[Zb];simp only[*];kernel_rfl
theorem PP(N m:Nat)(a:List Int×Int×Int)(b c:Int)(lZ:Bool):DN (La m) N (a,b,c,lZ,())=yG N (m+1) a b c lZ:=by
 conv=>rhs;rw[yG];simp(disch:=exact id (by kernel_rfl)) only[Z2c (R:=Kw×(Kae×Unit)) N m (CF (La m) N [1,1,0,1,0])]
 kernel_rfl
theorem Zwj(N:Nat):∀m,GW 15 (J7 N m)
  |0=>⟨C5 Tryz.func15 (show sh Tryz.f15=true by kernel_rfl),λd o h=>nomatch (show none=some o from h)⟩
  |m+1=>GR (La m) N Tryz.func15 (GC (Zwj N m) (CO N _)) (λd=>PP N m d.1 d.2.1 d.2.2.1 d.2.2.2.1)
def PQ:Gd:=⟨15,PO,λN=>Zwj N N⟩
def PV:Fn:=⟨f74,Ww,λN=>Sig.of [vf_ Ja,vf_ Ja,vf_ Ja] [vf_ Jag] (λd=>Zc N d.1 d.2.1 d.2.2.1),W3⟩
def d7:Gd:=GN PV func74
def PR:Fn:=⟨f110,Ww,λN=>Sig.of [vf_ Ja] [vf_ Jag] (λd=>lg N d.1),CX [d7]⟩
def PS:Gd:=GF PR func110
def Pj:Fn:=⟨f72,Ww,λN=>Sig.of [vf_ Ja] [vf_ Jag] (λd=>fY N d.1),CX [d7]⟩
def mC:Gd:=GF Pj func72
def Z8t:Fn:=⟨f71,Ww,λN=>Sig.of [vf_ Ja] [vf_ Jag] (λd=>li N d.1),CX [d7]⟩
def uh:Gd:=GF Z8t func71
def PW:Fn:=⟨f83,Ww,λN=>Sig.of [vt_ Jp] [vf_ Jag] (λd=>u7 N d.1),CX [PS,mC,uh,d7]⟩
def Lt:Gd:=GF PW func83
def J8:Fn:=⟨f84,λ |6=>cn_ [0,5,6,7,24]|7|9|11|100006=>cn_ [0,5,6,7]|8=>cn_ [0,5,6,7,32]|10=>cn_ [0,5,6,7,40]|12=>cn_ [0,5,6,7,44]|13=>cn_ [4]|_=>[],λN=>Sig.of [vf_ Jh,vf_ Ja] [vf_ Jag] (λd=>Cj N d.1 d.2.1),W3⟩
def Zsx(a:List Ka)(d b c:Int):St:=⟨[(0,vV Jh a),(5,vI d),(6,vI b),(7,vI c)],[],0⟩
theorem Z0k{a d K0 K1}(f:K0=K .ret ⟨[(4,vB false)],[],0⟩)(g:K1= λe h i=>K (.exit 0) ((Zsx a d e h).B 24 i))(n b c):nr N a d K0 K1 n b c=LM J8 N 0 100006 n (Zsx a d b c) K:=by subst f g;induction n generalizing b c;kernel_rfl;rw[nr];simp only[*];kernel_rfl
theorem Z8u(a:List Ka)(i2:Int):DN J8 N (a,i2,())=Cj N a i2:=by
 conv=>rhs;rw[Cj];simp(disch:=exact id (by kernel_rfl)) only[Z0k (R:=Unit×Ke) N (CF J8 N [1,1,1,1,0,1,0])]
 kernel_rfl
def Z8v:Gd:=GN J8 func84 (λN d=>Z8u N d.1 d.2.1)
def J9:Fn:=⟨f47,λ |6=>cn_ [0,3,4,5,12]|7|12|14|19|100006=>cn_ [0,3,4,5]|8=>cn_ [0,3,4,5,20]|9|17|21|23=>cn_ [2]|10=>cn_ [0,3,4,5,25]|11=>cn_ [0,3,4,5,25,26]|13=>cn_ [0,3,4,5,25,30]|15=>cn_ [0,3,4,5,25,34]|16=>cn_ [0,3,4,5,39]|18=>cn_ [0,3,4,5,40]|20=>cn_ [0,3,4,5,49]|22=>cn_ [0,3,4,5,51]|_=>[],λN=>Sig.of [vf_ Jh] [vf_ Jag] (λd=>uG N d.1),CX [Lt,Z8v]⟩
def Zsy(b:List Ka)(c a d:Int):St:=⟨[(0,vV Jh b),(3,vI c),(4,vI a),(5,vI d)],[],0⟩
theorem Z0l{b K0 K1}(h:K0=K .ret ⟨[(2,vB false)],[],0⟩)(i:K1= λf j g e=>K (.exit 0) ((Zsy b f j g).B 12 e))(n c a d):nv N b K0 K1 n c a d=LM J9 N 0 100006 n (Zsy b c a d) K:=by subst h i;induction n generalizing c a d;kernel_rfl;rw[nv];simp only[*];kernel_rfl
theorem Z8w(ae:List Ka):DN J9 N (ae,())=uG N ae:=by
 conv=>rhs;rw[uG];simp(disch:=exact id (by kernel_rfl)) only[Z0l (R:=Unit×Ke) N (CF J9 N [1,1,1,1,0,1,0])]
 kernel_rfl
def RA:Gd:=GF J9 func47 (λN d=>Z8w N d.1)
def I0:Fn:=⟨f48,λ |2=>cn_ [0,3,7]|3|100002=>cn_ [0,3]|4=>cn_ [0,3,15]|5=>cn_ [2]|_=>[],λN=>Sig.of [vf_ Jh] [vf_ Jag] (λd=>yD N d.1),W3⟩
def Zrv(a:List Ka)(b:Int):St:=⟨[(0,vV Jh a),(3,vI b)],[],0⟩
theorem Zyq{a K0 K1}(c:K0=K .ret ⟨[(2,vB true)],[],0⟩)(d:K1= λe f=>K (.exit 0) ((Zrv a e).B 7 f))(n b):xc N a K0 K1 n b=LM I0 N 0 100002 n (Zrv a b) K:=by subst c d;induction n generalizing b;kernel_rfl;rw[xc];simp only[*];kernel_rfl
theorem Z5r(ae:List Ka):DN I0 N (ae,())=yD N ae:=by
 conv=>rhs;rw[yD];simp(disch:=exact id (by kernel_rfl)) only[Zyq (R:=Unit×Ke) N (CF I0 N [1,0,1,0])]
 kernel_rfl
def Zvl:Gd:=GN I0 func48 (λN d=>Z5r N d.1)
def Z5s:Fn:=⟨f85,Ww,λN=>Sig.of [vt_ Jp] [vf_ Ja] (λd=>mu N d.1),CX [Lt]⟩
def Rv:Gd:=GF Z5s func85
def Lb:Fn:=⟨f49,λ |4=>cn_ [0,3,14]|5|100004=>cn_ [0,3]|6=>cn_ [0,3,22]|7=>cn_ [2]|_=>[],λN=>Sig.of [vf_ Jh] [vf_ Jag] (λd=>zl N d.1),CX [RA,Zvl,Rv]⟩
def Zt2(a:List Ka)(b:Int):St:=⟨[(0,vV Jh a),(3,vI b)],[],0⟩
theorem Z2d{a K0 K1}(c:K0=K .ret ⟨[(2,vB false)],[],0⟩)(d:K1= λe f=>K (.exit 0) ((Zt2 a e).B 14 f))(n b):x8 N a K0 K1 n b=LM Lb N 0 100004 n (Zt2 a b) K:=by subst c d;induction n generalizing b;kernel_rfl;rw[x8];simp only[*];kernel_rfl
theorem Pk(ae:List Ka):DN Lb N (ae,())=zl N ae:=by
 conv=>rhs;rw[zl];simp(disch:=exact id (by kernel_rfl)) only[Z2d (R:=Unit×Ke) N (CF Lb N [1,1,0,1,0])]
 kernel_rfl
def Pl:Gd:=GF Lb func49 (λN d=>Pk N d.1)
def KA:Fn:=⟨f26,λ |4=>cn_ [1,3,28]|5|100004=>cn_ [1,3]|6=>cn_ [1,3,38]|7=>cn_ [2]|_=>[],λN=>Sig.of [vt_ Jw] [vf_ Jag] (λd=>uZ N d.1),CX [RA,Zvl,Pl]⟩
def Zsz(b:Int)(a:List Ka×List Kae):St:=⟨[(1,vP 0 0),(3,vI b)],[(0,.box [.val Jh a.1,.val (.slice Jh) a.2])],1⟩
theorem Z0n{a K0 K1}(c:K0=K .ret ⟨[(2,vB false)],[],0⟩)(d:K1= λe f=>K (.exit 0) ((Zsz e a).B 28 f))(n b):tu N a K0 K1 n b=LM KA N 0 100004 n (Zsz b a) K:=by subst c d;induction n generalizing b;kernel_rfl;rw[tu];simp only[*];kernel_rfl
theorem Z8x(p1:List Ka×List Kae):DN KA N (p1,())=uZ N p1:=by
 conv=>rhs;rw[uZ];simp(disch:=exact id (by kernel_rfl)) only[Z0n (R:=Unit×Ke) N (CF KA N [1,1,0,1,0])]
 kernel_rfl
def Zwk:Gd:=GF KA func26 (λN d=>Z8x N d.1)
def Z5t:Fn:=⟨f69,Ww,λN=>Sig.of [] [vf_ (.own Jaa)] (λd=>K6 N),W3⟩
def Zvm:Gd:=GN Z5t func69
def Z8y:Fn:=⟨f70,Ww,λN=>Sig.of [vf_ Ja] [vf_ Ja] (λd=>Ls N d.1),W3⟩
def Zwl:Gd:=GN Z8y func70
def Z8z:Fn:=⟨f50,Ww,λN=>Sig.of [vt_ Jp] [vf_ Jaa] (λd=>zh N d.1),CX [Lt,Zvm,Zwl,FX]⟩
def Zwm:Gd:=GF Z8z func50
def IH:Fn:=⟨f27,λ |5=>cn_ [0,3,4,11]|6|7|100005=>cn_ [0,3,4]|_=>[],λN=>Sig.of [vf_ Jh] [vf_ Jaa] (λd=>yL N d.1),CX [RA,Zwm]⟩
def Zq3(a:List Ka)(c:List UInt8)(b:Int):St:=⟨[(0,vV Jh a),(3,vV Jaa c),(4,vI b)],[],0⟩
theorem Zxd{a K0}(d:K0= λf e g=>K (.exit 0) ((Zq3 a f e).B 11 g))(n c b):w9 N a K0 n c b=LM IH N 0 100005 n (Zq3 a c b) K:=by subst d;induction n generalizing c b;kernel_rfl;rw[w9];simp only[*];kernel_rfl
theorem Z4a(ae:List Ka):DN IH N (ae,())=yL N ae:=by
 conv=>rhs;rw[yL];simp(disch:=exact id (by kernel_rfl)) only[Zxd (R:=Unit×Kt) N (CF IH N [1,1,1,0,1,0])]
 kernel_rfl
def Z4b:Gd:=GF IH func27 (λN d=>Z4a N d.1)
def II:Fn:=⟨f16,λ |5=>cn_ [1,3,4,15]|6|7|100005=>cn_ [1,3,4]|_=>[],λN=>Sig.of [vt_ Jw] [vf_ Jaa] (λd=>yM N d.1),CX [Zwk,Z4b]⟩
def Zq4(b:List UInt8)(a:Int)(b6:List Ka×List Kae):St:=⟨[(1,vP 0 0),(3,vV Jaa b),(4,vI a)],[(0,.box [.val Jh b6.1,.val (.slice Jh) b6.2])],1⟩
theorem Zxe{b6 K0}(d:K0= λf e c=>K (.exit 0) ((Zq4 f e b6).B 15 c))(n b a):xa N b6 K0 n b a=LM II N 0 100005 n (Zq4 b a b6) K:=by subst d;induction n generalizing b a;kernel_rfl;rw[xa];simp only[*];kernel_rfl
theorem Z4c(p1:List Ka×List Kae):DN II N (p1,())=yM N p1:=by
 conv=>rhs;rw[yM];simp(disch:=exact id (by kernel_rfl)) only[Zxe (R:=Unit×Kt) N (CF II N [1,1,1,0,1,0])]
 kernel_rfl
def Z4d:Gd:=GF II func16 (λN d=>Z4c N d.1)
def Z80:Fn:=⟨f17,Ww,λN=>Sig.of [.box Jt,vf_ (.slice Jaa)] [vf_ Jaa] (λd=>u5 N d.1 d.2.1),CX [mq]⟩
def Z81:Gd:=GF Z80 func17
def KB:Fn:=⟨f28,λ |4=>cn_ [0,5,6,7,17]|5|11|100004=>cn_ [0,5,6,7]|6|8|10=>cn_ [0,5,6,7,8]|7=>cn_ [0,5,6,7,8,23]|9=>cn_ [0,5,6,7,8,27]|_=>[],λN=>Sig.of [.box Jt,vf_ Ja] [vf_ Jaa] (λd=>FR N d.1 d.2.1),CX [mq,Rz]⟩
def Zs0(a c:Int)(b7:List Int×Int×Int)(b:List Int):St:=⟨[(0,vP 0 0),(5,vO 1),(6,vI a),(7,vI c)],[(0,.box [.val Jab b7.1,.val Ja b7.2.1,.val Ja b7.2.2]),(1,.arr (.int .u8) b)],2⟩
theorem Z0o{a K0}(h:K0= λg f d e=>K (.exit 0) ((Zs0 a g d e).B 17 f))(n c b7 b):qK N a K0 n c b7 b=LM KB N 0 100004 n (Zs0 a c b7 b) K:=by subst h;induction n generalizing c b7 b;kernel_rfl;rw[qK];simp only[*];kernel_rfl
theorem Z82(a:List Int×Int×Int)(dK:Int):DN KB N (a,dK,())=FR N a dK:=by
 conv=>rhs;rw[FR];simp(disch:=exact id (by kernel_rfl)) only[Z0o (R:=Kw×Kt) N (CF KB N [1,1,1,0,1,0])]
 kernel_rfl
def Z83:Gd:=GF KB func28 (λN d=>Z82 N d.1 d.2.1)
def Z5u:Fn:=⟨f18,Ww,λN=>Sig.of [.box Jt,vf_ Jaa] [vf_ Jaa] (λd=>y9 N d.1 d.2.1),CX [Z83,mq,Rz]⟩
def Z5v:Gd:=GF Z5u func18
def mp:Fn:=⟨f5,λ |5=>cn_ [3,4,5,6,19]|6|7|100005=>cn_ [3,4,5,6]|11=>cn_ [3,4,5,7,50]|12|17|100011=>cn_ [3,4,5,7]|13|15|16=>cn_ [3,4,5,7,8]|14=>cn_ [3,4,5,7,8,57]|19=>cn_ [3,4,5,9,80]|20|23|25|27|100019=>cn_ [3,4,5,9]|21=>cn_ [3,4,5,9,10]|22=>cn_ [3,4,5,9,10,88]|24=>cn_ [3,4,5,9,10,88,94]|26=>cn_ [3,4,5,9,10,106]|29=>cn_ [3,4,11,117]|30|31|100029=>cn_ [3,4,11]|39=>cn_ [4,12,143]|40|41|100039=>cn_ [4,12]|_=>[],λN=>Sig.of [vf_ Jab] [vf_ Jaa] (λd=>B7 N d.1),CX [PN,mq,FX,Zwi,FA,PQ,Z4d,Z81,Z5v]⟩
def Zq5(c:List UInt8)(a b:Int)(b7:List Int×Int×Int):St:=⟨[(3,vP 0 0),(4,vV Jaa c),(5,vI a),(6,vI b)],[(0,.box [.val Jab b7.1,.val Ja b7.2.1,.val Ja b7.2.2])],1⟩
theorem Zxf{a K0}(g:K0= λh f e d=>K (.exit 0) ((Zq5 h a f d).B 19 e))(n c b b7):xb N a K0 n c b b7=LM mp N 0 100005 n (Zq5 c a b b7) K:=by subst g;induction n generalizing c b b7;kernel_rfl;rw[xb];simp only[*];kernel_rfl
def Zq6(c:List UInt8)(b d:Int)(a:List Int×Int×Int):St:=⟨[(3,vP 0 0),(4,vV Jaa c),(5,vI b),(7,vI d)],[(0,.box [.val Jab a.1,.val Ja a.2.1,.val Ja a.2.2])],1⟩
theorem Zxg{a K0}(g:K0= λf e i h=>K (.exit 2) ((Zq6 f a e h).B 50 i))(n c d b):ol N a K0 n c d b=LM mp N 1 100011 n (Zq6 c a d b) K:=by subst g;induction n generalizing c d b;kernel_rfl;rw[ol];simp only[*];kernel_rfl
def Zq7(c:List UInt8)(b d:Int)(a:List Int×Int×Int):St:=⟨[(3,vP 0 0),(4,vV Jaa c),(5,vI b),(9,vI d)],[(0,.box [.val Jab a.1,.val Ja a.2.1,.val Ja a.2.2])],1⟩
theorem Zxh{a K0}(h:K0= λf g e i=>K (.exit 4) ((Zq7 f a g i).B 80 e))(n c d b):om N a K0 n c d b=LM mp N 2 100019 n (Zq7 c a d b) K:=by subst h;induction n generalizing c d b;kernel_rfl;rw[om];simp only[*];kernel_rfl
def Zq8(c:List UInt8)(b:Int)(a:List Int×Int×Int):St:=⟨[(3,vP 0 0),(4,vV Jaa c),(11,vI b)],[(0,.box [.val Jab a.1,.val Ja a.2.1,.val Ja a.2.2])],1⟩
theorem Zxi{K0}(h:K0= λd e f g=>K (.exit 7) ((Zq8 d e g).B 117 f))(n c a b):sU N K0 n c a b=LM mp N 3 100029 n (Zq8 c a b) K:=by subst h;induction n generalizing c a b;kernel_rfl;rw[sU];simp only[*];kernel_rfl
def Zq9(b:List UInt8)(a:Int):St:=⟨[(4,vV Jaa b),(12,vI a)],[],0⟩
theorem Zxj{K0}(f:K0= λd e c=>K (.exit 10) ((Zq9 d e).B 143 c))(n b a):oo N K0 n b a=LM mp N 4 100039 n (Zq9 b a) K:=by subst f;induction n generalizing b a;kernel_rfl;rw[oo];simp only[*];kernel_rfl
theorem Z4e(ae:List Int):DN mp N (ae,())=B7 N ae:=by
 conv=>rhs;rw[B7];simp(disch:=exact id (by kernel_rfl)) only[Zxf (R:=Unit×Kt) N (CF mp N [1,1,1,1,0,1,0]),Zxg (R:=Unit×Kt) N (CF mp N [1,1,1,1,1,1,0,1,0]),Zxh (R:=Unit×Kt) N (CF mp N [1,1,1,1,1,1,1,0,1,0]),Zxi (R:=Unit×Kt) N (CF mp N [1,1,1,1,1,1,1,1,0,1,0]),Zxj (R:=Unit×Kt) N (CF mp N [1,1,1,1,1,1,1,1,1,0,1,0,1,1,1,1,1,0,1,0])]
 kernel_rfl
def Z4f:Gd:=GF mp func5 (λN d=>Z4e N d.1)
def Lc:Fn:=⟨f19,λ |4=>cn_ [0,1,5,6,7,12]|5|8|100004=>cn_ [0,1,5,6,7]|6=>cn_ [0,1,5,6,7,19]|7=>cn_ [0,1,5,7]|_=>[],λN=>Sig.of [vf_ Jaa,vf_ (.int .u8)] [vf_ (.own Jaa)] (λd=>jZ N d.1 d.2.1),W3⟩
def Zt3(e:List UInt8)(d a b:Int)(c:List Kg):St:=⟨[(0,vV Jaa e),(1,vV (.int .u8) d),(5,vO 0),(6,vI a),(7,vI b)],[(0,.arr Jaa c)],1⟩
theorem Z2e{e d K0}(h:K0= λj i f g=>K (.exit 0) ((Zt3 e d j i g).B 12 f))(n a b c):ow N e d K0 n a b c=LM Lc N 0 100004 n (Zt3 e d a b c) K:=by subst h;induction n generalizing a b c;kernel_rfl;rw[ow];simp only[*];kernel_rfl
theorem Pm(a:List UInt8)(w4:Int):DN Lc N (a,w4,())=jZ N a w4:=by
 conv=>rhs;rw[jZ];simp(disch:=exact id (by kernel_rfl)) only[Z2e (R:=Unit×(Kac×Unit)) N (CF Lc N [1,1,1,0,1,0])]
 kernel_rfl
def RF:Gd:=GN Lc func19 (λN d=>Pm N d.1 d.2.1)
def Z84:Fn:=⟨f54,Ww,λN=>Sig.of [vf_ Ja,vf_ Ja,vf_ Ja] [vf_ Jag] (λd=>Zd N d.1 d.2.1 d.2.2.1),W3⟩
def Zz:Gd:=GN Z84 func54
def Z4g:Fn:=⟨f51,Ww,λN=>Sig.of [vf_ Ja] [vf_ Jaa] (λd=>J5 N d.1),CX [Zz]⟩
def Zuy:Gd:=GF Z4g func51
def Z4h:Fn:=⟨f52,Ww,λN=>Sig.of [vf_ Ja] [vf_ Ja] (λd=>J6 N d.1),W3⟩
def Zuz:Gd:=GN Z4h func52
def CP:Fn:=⟨f55,λ |5=>cn_ [0,3,4,13]|6|10|100005=>cn_ [0,3,4]|7|9=>cn_ [0,3,4,5]|8=>cn_ [0,3,4,5,19]|14=>cn_ [3,6,7,38]|15|16|100014=>cn_ [3,6,7]|_=>[],λN=>Sig.of [vf_ Ja] [vf_ Jaa] (λd=>Z2 N d.1),W3⟩
def Zvn(b a:Int)(l4:List Int):St:=⟨[(0,vI b),(3,vO 0),(4,vI a)],[(0,.arr (.int .u8) l4)],1⟩
theorem Z5w{b K0}(c:K0= λe f d=>K (.exit 0) ((Zvn b e d).B 13 f))(n a l4):y0 N b K0 n a l4=LM CP N 0 100005 n (Zvn b a l4) K:=by subst c;induction n generalizing a l4;kernel_rfl;rw[y0];simp only[*];kernel_rfl
def Zvo(b c:Int)(a:List Int):St:=⟨[(3,vO 0),(6,vI b),(7,vI c)],[(0,.arr (.int .u8) a)],1⟩
theorem Z5x{K0}(g:K0= λe h f d=>K (.exit 2) ((Zvo e h d).B 38 f))(n b c a):y1 N K0 n b c a=LM CP N 1 100014 n (Zvo b c a) K:=by subst g;induction n generalizing b c a;kernel_rfl;rw[y1];simp only[*];kernel_rfl
theorem Rg(n1:Int):DN CP N (n1,())=Z2 N n1:=by
 conv=>rhs;rw[Z2];simp(disch:=exact id (by kernel_rfl)) only[Z5w (R:=Unit×Kt) N (CF CP N [1,1,1,0,1,0]),Z5x (R:=Unit×Kt) N (CF CP N [1,1,1,1,1,0,1,0])]
 kernel_rfl
def FY:Gd:=GN CP func55 (λN d=>Rg N d.1)
def I1:Fn:=⟨f31,λ |8=>cn_ [0,4,5,6,25]|9|12|100008=>cn_ [0,4,5,6]|10=>cn_ [0,4,5,6,37]|11=>cn_ [2,3]|_=>[],λN=>Sig.of [vf_ Jaa] [vf_ Ja,vf_ Jag] (λd=>lb N d.1),CX [Zz,FY]⟩
def Zrw(d:List UInt8)(b c a:Int):St:=⟨[(0,vV Jaa d),(4,vI b),(5,vI c),(6,vI a)],[],0⟩
theorem Zys{d b K0 K1}(e:K0=K .ret ⟨[(2,vI 0),(3,vB false)],[],0⟩)(f:K1= λh g i=>K (.exit 0) ((Zrw d b h g).B 25 i))(n c a):ot N d b K0 K1 n c a=LM I1 N 0 100008 n (Zrw d b c a) K:=by subst e f;induction n generalizing c a;kernel_rfl;rw[ot];simp only[*];kernel_rfl
theorem Z5y(s1:List UInt8):DN I1 N (s1,())=lb N s1:=by
 conv=>rhs;rw[lb];simp(disch:=exact id (by kernel_rfl)) only[Zys (R:=Unit×Kz) N (CF I1 N [1,1,1,1,1,0,1,0])]
 kernel_rfl
def Zvp:Gd:=GF I1 func31 (λN d=>Z5y N d.1)
def Pn:Fn:=⟨f111,Ww,λN=>Sig.of [vf_ Ja] [vf_ Jag] (λd=>lh N d.1),CX [Zz]⟩
def Po:Gd:=GF Pn func111
def Z5z:Fn:=⟨f67,Ww,λN=>Sig.of [vf_ Ja] [vf_ Jag] (λd=>gC N d.1),CX [Zz]⟩
def nn:Gd:=GF Z5z func67
def Z85:Fn:=⟨f64,Ww,λN=>Sig.of [vf_ Ja] [vf_ Jag] (λd=>iS N d.1),CX [Zz]⟩
def oD:Gd:=GF Z85 func64
def Pp:Fn:=⟨f65,Ww,λN=>Sig.of [vf_ Ja] [vf_ Jag] (λd=>gD N d.1),CX [Zz]⟩
def ux:Gd:=GF Pp func65
def PX:Fn:=⟨f86,Ww,λN=>Sig.of [vt_ Jp] [vf_ Jag] (λd=>qX N d.1),CX [Po,nn,oD,Zz,ux]⟩
def FT:Gd:=GF PX func86
def KE:Fn:=⟨f53,λ |6=>cn_ [3,24,25,26,27]|7=>cn_ [3,6,24,25,26]|8|9|100006=>cn_ [3,24,25,26]|_=>[],λN=>Sig.of [vt_ Jp] [vf_ Jaa] (λd=>u4 N d.1),CX [FT,Zuy,Zuz,FY]⟩
def Zs1(b:List UInt8)(c d:Int)(a:List Int):St:=⟨[(3,vV Jaa b),(24,vO 0),(25,vI c),(26,vI d)],[(0,.arr Ja a)],1⟩
theorem Z0p{c a K0}(g:K0= λh f e=>K (.exit 0) ((Zs1 h c f a).B 27 e))(n b d):yp N c a K0 n b d=LM KE N 0 100006 n (Zs1 b c d a) K:=by subst g;induction n generalizing b d;kernel_rfl;rw[yp];simp only[*];kernel_rfl
theorem Z86(o1:Int×Int×Int×Int):DN KE N (o1,())=u4 N o1:=by
 conv=>rhs;rw[u4];simp(disch:=exact id (by kernel_rfl)) only[Z0p (R:=Unit×Kt) N (CF KE N [1,1,1,1,0,1,0])]
 kernel_rfl
def Z87:Gd:=GF KE func53 (λN d=>Z86 N d.1)
def B8:Fn:=⟨f29,λ |4=>cn_ [0,2,4,5,6,16]|5|7|100004=>cn_ [0,2,4,5,6]|6=>cn_ [0,2,4,5,6,24]|11=>[.view 41]|12=>cn_ [0,2,5,7,41,42,43,44]|13=>cn_ [0,2,5,7,8,9,41,42,43]|14=>cn_ [0,2,5,7,8,10,41,42,43]|15|16|100012=>cn_ [0,2,5,7,41,42,43]|_=>[],λN=>Sig.of [vf_ Jaa] [vt_ Jp,vf_ Jag] (λd=>zj N d.1),CX [RF,Zuy,Zuz,Zvp,Z87]⟩
def Zs2(c:List UInt8)(a:Int)(b:List Kg)(az:Int):St:=⟨[(0,vV Jaa c),(2,vP 0 0),(4,vO 1),(5,vP 2 0),(6,vI a)],[(0,.box [.val Ja (0:Int),.val Ja (0:Int),.val Ja (0:Int),.val Ja (0:Int)]),(1,.arr Jaa b),(2,.box [.val Ja az,.val Ja (0:Int),.val Ja (0:Int),.val Ja (0:Int)])],3⟩
theorem Z0q{c b K0}(f:K0= λg e d=>K (.exit 0) ((Zs2 c g b d).B 16 e))(n a az):yq N c b K0 n a az=LM B8 N 0 100004 n (Zs2 c a b az) K:=by subst f;induction n generalizing a az;kernel_rfl;rw[yq];simp only[*];kernel_rfl
def Zs3(h:List UInt8)(a d:Nat)(e f b:Int)(c:List Int)(g:List Kg):St:=⟨[(0,vV Jaa h),(2,vP 0 0),(5,vP 1 0),(7,.s (.one (.aptr 2))),(41,.s (.one (.vw 3 a d))),(42,vI e),(43,vI f)],[(0,.box [.val Ja (0:Int),.val Ja (0:Int),.val Ja (0:Int),.val Ja (0:Int)]),(1,.box [.val Ja b,.val Ja (0:Int),.val Ja (0:Int),.val Ja (0:Int)]),(2,.arr Ja c),(3,.arr Jaa g)],4⟩
theorem Z0r{h a d e b g K0}(i:K0= λj mF dG=>K (.exit 2) ((Zs3 h a d e j b dG g).B 44 mF))(n f c):yr N h a d e b g K0 n f c=LM B8 N 1 100012 n (Zs3 h a d e f b c g) K:=by subst i;induction n generalizing f c;kernel_rfl;rw[yr];simp only[*];kernel_rfl
theorem Z88(s1:List UInt8):DN B8 N (s1,())=zj N s1:=by
 conv=>rhs;rw[zj];simp(disch:=exact id (by kernel_rfl)) only[Z0q (R:=Unit×(Ka×Ke)) N (CF B8 N [1,1,1,0,1,0]),Z0r (R:=Unit×(Ka×Ke)) N (CF B8 N [1,1,1,1,1,1,0,1,0])]
 kernel_rfl
def Z89:Gd:=GF B8 func29 (λN d=>Z88 N d.1)
def Z2f:Fn:=⟨f30,λ |4=>[.opn 29]|7=>[.opn 52]|_=>[],λN=>Sig.of [.box Ji,vt_ Jp] [vf_ Jaa] (λd=>IZ N d.1 d.2.1),W3⟩
def Z2g:Gd:=GN Z2f func30
def IQ:Fn:=⟨f112,λ |2=>cn_ [0,1,7,8,9,10]|3=>cn_ [0,1,6,7,8,9]|4=>cn_ [0,1,7,8,9,15]|5=>cn_ [4]|6|100002=>cn_ [0,1,7,8,9]|_=>[],λN=>Sig.of [vf_ Jl,vf_ Ja] [vf_ Jag] (λd=>iQ N d.1 d.2.1),CX [nn]⟩
def Zp7(l3:List Int)(a b:Int):St:=⟨[(0,vV Jl l3),(1,vI a),(7,vV Jl l3),(8,vI (Wi l3)),(9,vI b)],[],0⟩
theorem Zwv{l3 a K0 K1}(e:K0=K .ret ⟨[(4,vB false)],[],0⟩)(f:K1= λc d=>K (.exit 0) ((Zp7 l3 a c).B 10 d))(n b):oj N l3 a K0 K1 n b=LM IQ N 0 100002 n (Zp7 l3 a b) K:=by subst e f;induction n generalizing b;kernel_rfl;rw[oj];simp only[*];kernel_rfl
theorem Z2h(l1:List Int)(n2:Int):DN IQ N (l1,n2,())=iQ N l1 n2:=by
 conv=>rhs;rw[iQ];simp(disch:=exact id (by kernel_rfl)) only[Zwv (R:=Unit×Ke) N (CF IQ N [1,0,1,0])]
 kernel_rfl
def E9:Gd:=GF IQ func112 (λN d=>Z2h N d.1 d.2.1)
def Ld:Fn:=⟨f113,λ |2=>cn_ [0,5,6,7,8]|3=>cn_ [0,4,5,6,7]|4=>cn_ [0,5,6,7,13]|5=>cn_ [2]|6|100002=>cn_ [0,5,6,7]|_=>[],λN=>Sig.of [vf_ Jl] [vf_ Jag] (λd=>zv N d.1),CX [Zz]⟩
def Zt4(l2:List Int)(a:Int):St:=⟨[(0,vV Jl l2),(5,vV Jl l2),(6,vI (Wi l2)),(7,vI a)],[],0⟩
theorem Z2i{l2 K0 K1}(b:K0=K .ret ⟨[(2,vB false)],[],0⟩)(c:K1= λd e=>K (.exit 0) ((Zt4 l2 d).B 8 e))(n a):yw N l2 K0 K1 n a=LM Ld N 0 100002 n (Zt4 l2 a) K:=by subst b c;induction n generalizing a;kernel_rfl;rw[yw];simp only[*];kernel_rfl
theorem Pq(l1:List Int):DN Ld N (l1,())=zv N l1:=by
 conv=>rhs;rw[zv];simp(disch:=exact id (by kernel_rfl)) only[Z2i (R:=Unit×Ke) N (CF Ld N [1,0,1,0])]
 kernel_rfl
def Zxl:Gd:=GF Ld func113 (λN d=>Pq N d.1)
def Z4i:Fn:=⟨f87,Ww,λN=>Sig.of [vt_ (.prod Jl Jaf)] [vf_ Jag] (λd=>JA N d.1),CX [E9,Zxl,nn]⟩
def Z4j:Gd:=GF Z4i func87
def Z50:Fn:=⟨f138,Ww,λN=>Sig.of [vt_ Jp] [vf_ Ja] (λd=>BS N d.1),CX [FT]⟩
def Zvq:Gd:=GF Z50 func138
def Pr:Fn:=⟨f176,Ww,λN=>Sig.of [vt_ Jp] [vf_ Ja] (λd=>CI N d.1),W3⟩
def RG:Gd:=GN Pr func176
def Iz:Fn:=⟨f139,λ |3=>cn_ [3,6,7,8,9]|4=>cn_ [3,5,6,7,8]|5|8|100003=>cn_ [3,6,7,8]|6=>cn_ [3,6,7,8,17]|7=>cn_ [2]|_=>[],λN=>Sig.of [vf_ Jh] [vf_ Jag] (λd=>yh N d.1),CX [RG]⟩
def Zpx(b:Int)(a:List Ka)(c:Int):St:=⟨[(3,vI b),(6,vV Jh a),(7,vI (Wi a)),(8,vI c)],[],0⟩
theorem Zv7{b K0 K1}(e:K0=K .ret ⟨[(2,vB false)],[],0⟩)(f:K1= λg h d=>K (.exit 0) ((Zpx g b h).B 9 d))(n a c):w5 N b K0 K1 n a c=LM Iz N 0 100003 n (Zpx a b c) K:=by subst e f;induction n generalizing a c;kernel_rfl;rw[w5];simp only[*];kernel_rfl
theorem Z0t(ae:List Ka):DN Iz N (ae,())=yh N ae:=by
 conv=>rhs;rw[yh];simp(disch:=exact id (by kernel_rfl)) only[Zv7 (R:=Unit×Ke) N (CF Iz N [1,1,0,1,0])]
 kernel_rfl
def Z0u:Gd:=GF Iz func139 (λN d=>Z0t N d.1)
def I2:Fn:=⟨f140,λ |3=>cn_ [1,5,8,9,10,11]|4=>cn_ [1,5,6,7,8,9,10]|5=>cn_ [1,5,7,8,9,10,17]|6|7|100003=>cn_ [1,5,8,9,10]|_=>[],λN=>Sig.of [vf_ Jh,vf_ Ja] [vf_ Ja] (λd=>BZ N d.1 d.2.1),CX [RG]⟩
def Zrx(b c:Int)(a:List Ka)(d:Int):St:=⟨[(1,vI b),(5,vI c),(8,vV Jh a),(9,vI (Wi a)),(10,vI d)],[],0⟩
theorem Zyt{a c K0}(h:K0= λg f e=>K (.exit 0) ((Zrx a g c f).B 11 e))(n b d):th N a c K0 n b d=LM I2 N 0 100003 n (Zrx a b c d) K:=by subst h;induction n generalizing b d;kernel_rfl;rw[th];simp only[*];kernel_rfl
theorem Z51(a:List Ka)(i2:Int):DN I2 N (a,i2,())=BZ N a i2:=by
 conv=>rhs;rw[BZ];simp(disch:=exact id (by kernel_rfl)) only[Zyt (R:=Unit×Kk) N (CF I2 N [1,1,0,1,0])]
 kernel_rfl
def Z52:Gd:=GF I2 func140 (λN d=>Z51 N d.1 d.2.1)
def KF:Fn:=⟨f116,λ |5=>cn_ [0,3,14,15,16,17]|6=>cn_ [0,3,4,5,14,15,16]|7=>cn_ [0,3,4,5,14,15,16,23]|8|12|16=>cn_ [2]|9=>cn_ [0,3,4,5,14,15,16,25]|10=>cn_ [0,3,4,5,14,15,16,25,26]|11=>cn_ [0,3,14,15,16,48]|13=>cn_ [0,3,4,14,15,16,49]|14=>cn_ [0,3,4,14,15,16]|15=>cn_ [0,3,14,15,16,60]|17|100005=>cn_ [0,3,14,15,16]|_=>[],λN=>Sig.of [vf_ Jh] [vf_ Jag] (λd=>oU N d.1),CX [Z0u,FT,Z52]⟩
def Zs4(a:List Ka)(b c:Int):St:=⟨[(0,vV Jh a),(3,vI b),(14,vV Jh a),(15,vI (Wi a)),(16,vI c)],[],0⟩
theorem Z0v{b K0 K1}(e:K0=K .ret ⟨[(2,vB false)],[],0⟩)(f:K1= λh d g=>K (.exit 0) ((Zs4 b h d).B 17 g))(n a c):qI N b K0 K1 n a c=LM KF N 0 100005 n (Zs4 b a c) K:=by subst e f;induction n generalizing a c;kernel_rfl;rw[qI];simp only[*];kernel_rfl
theorem Z9a(ae:List Ka):DN KF N (ae,())=oU N ae:=by
 conv=>rhs;rw[oU];simp(disch:=exact id (by kernel_rfl)) only[Z0v (R:=Unit×Ke) N (CF KF N [1,1,1,0,1,0])]
 kernel_rfl
def Zwn:Gd:=GF KF func116 (λN d=>Z9a N d.1)
def Le:Fn:=⟨f115,λ |2=>cn_ [0,5,6,7,8]|3=>cn_ [0,4,5,6,7]|4=>cn_ [0,5,6,7,18]|5=>cn_ [2]|6|100002=>cn_ [0,5,6,7]|_=>[],λN=>Sig.of [vf_ Jh] [vf_ Jag] (λd=>zt N d.1),CX [Zvq,Zwn]⟩
def Zt5(a:List Ka)(b:Int):St:=⟨[(0,vV Jh a),(5,vV Jh a),(6,vI (Wi a)),(7,vI b)],[],0⟩
theorem Z2j{a K0 K1}(c:K0=K .ret ⟨[(2,vB false)],[],0⟩)(d:K1= λe f=>K (.exit 0) ((Zt5 a e).B 8 f))(n b):yc N a K0 K1 n b=LM Le N 0 100002 n (Zt5 a b) K:=by subst c d;induction n generalizing b;kernel_rfl;rw[yc];simp only[*];kernel_rfl
theorem Ps(ae:List Ka):DN Le N (ae,())=zt N ae:=by
 conv=>rhs;rw[zt];simp(disch:=exact id (by kernel_rfl)) only[Z2j (R:=Unit×Ke) N (CF Le N [1,0,1,0])]
 kernel_rfl
def Qd:Gd:=GF Le func115 (λN d=>Ps N d.1)
def Z2k:Fn:=⟨f142,Ww,λN=>Sig.of [vt_ Jp] [vf_ Jag] (λd=>Rr N d.1),W3⟩
def Z2l:Gd:=GN Z2k func142
def Ir:Fn:=⟨f177,λ |2=>cn_ [0,1,7,8,9]|3=>cn_ [0,1,5,7,8]|4=>cn_ [0,1,5,7,8,16]|5=>cn_ [1,4]|6|100002=>cn_ [0,1,7,8]|_=>[],λN=>Sig.of [vf_ Jh,.clos 142 0] [vf_ Ja] (λd=>E0 N d.1),CX [Z2l]⟩
def Zct(a:List Ka)(b:Int):St:=⟨[(0,vV Jh a),(1,.s (.one (.clos 142 []))),(7,vI (Wi a)),(8,vI b)],[],0⟩
theorem Zhs{a K0 K1}(c:K0= λe=>K .ret ⟨[(1,.s (.one (.clos 142 []))),(4,vI e)],[],0⟩)(d:K1= λf g=>K (.exit 0) ((Zct a f).B 9 g))(n b):Zp N a K0 K1 n b=LM Ir N 0 100002 n (Zct a b) K:=by subst c d;induction n generalizing b;kernel_rfl;rw[Zp];simp only[*];kernel_rfl
theorem Zix(s1:List Ka):DN Ir N (s1,())=E0 N s1:=by
 conv=>rhs;rw[E0];simp(disch:=exact id (by kernel_rfl)) only[Zhs (R:=Unit×Kk) N (CF Ir N [1,0,1,0])]
 kernel_rfl
def Ziy:Gd:=GF Ir func177 (λN d=>Zix N d.1)
def Zh0:Fn:=⟨f141,Ww,λN=>Sig.of [vf_ Jh,.clos 142 0] [vf_ Jag] (λd=>Pi N d.1),CX [Ziy]⟩
def Zh1:Gd:=GF Zh0 func141
def Z53:Fn:=⟨f117,Ww,λN=>Sig.of [vf_ Jh] [vf_ Jag] (λd=>B0 N d.1),CX [Zh1]⟩
def Z54:Gd:=GF Z53 func117
def KG:Fn:=⟨f90,λ |2=>cn_ [1,6,7,8,9]|3=>cn_ [1,4,6,7,8]|4=>cn_ [1,6,7,8,15]|5=>cn_ [2]|6|100002=>cn_ [1,6,7,8]|_=>[],λN=>Sig.of [vt_ Jw] [vf_ Jag] (λd=>CB N d.1),CX [Qd,Zwn,Z54]⟩
def Zs5(b:List Kae)(c:Int)(a:List Ka×List Kae):St:=⟨[(1,vP 0 0),(6,vV (.slice Jh) b),(7,vI (Wi a.2)),(8,vI c)],[(0,.box [.val Jh a.1,.val (.slice Jh) a.2])],1⟩
theorem Z0x{b a K0 K1}(d:K0=K .ret ⟨[(2,vB false)],[],0⟩)(e:K1= λf g=>K (.exit 0) ((Zs5 b f a).B 9 g))(n c):yl N b a K0 K1 n c=LM KG N 0 100002 n (Zs5 b c a) K:=by subst d e;induction n generalizing c;kernel_rfl;rw[yl];simp only[*];kernel_rfl
theorem Z9b(p1:List Ka×List Kae):DN KG N (p1,())=CB N p1:=by
 conv=>rhs;rw[CB];simp(disch:=exact id (by kernel_rfl)) only[Z0x (R:=Unit×Ke) N (CF KG N [1,0,1,0])]
 kernel_rfl
def Z9c:Gd:=GF KG func90 (λN d=>Z9b N d.1)
def Z0y:Fn:=⟨f89,Ww,λN=>Sig.of [vt_ Jw] [vf_ Jag] (λd=>ID N d.1),CX [Z9c]⟩
def Z0z:Gd:=GF Z0y func89
def Io:Fn:=⟨f114,λ |2=>cn_ [0,1,7,8,9]|3=>cn_ [0,1,5,7,8]|4=>cn_ [0,1,5,7,8,16]|5=>cn_ [1,4]|6|100002=>cn_ [0,1,7,8]|_=>[],λN=>Sig.of [vf_ Jai,.clos 89 0] [vf_ Ja] (λd=>Z6 N d.1),CX [Z0z]⟩
def Zb3(a:List Kn)(b:Int):St:=⟨[(0,vV Jai a),(1,.s (.one (.clos 89 []))),(7,vI (Wi a)),(8,vI b)],[],0⟩
theorem Zgh{a K0 K1}(c:K0= λe=>K .ret ⟨[(1,.s (.one (.clos 89 []))),(4,vI e)],[],0⟩)(d:K1= λf g=>K (.exit 0) ((Zb3 a f).B 9 g))(n b):Zf N a K0 K1 n b=LM Io N 0 100002 n (Zb3 a b) K:=by subst c d;induction n generalizing b;kernel_rfl;rw[Zf];simp only[*];kernel_rfl
theorem Zhh(s1:List Kn):DN Io N (s1,())=Z6 N s1:=by
 conv=>rhs;rw[Z6];simp(disch:=exact id (by kernel_rfl)) only[Zgh (R:=Unit×Kk) N (CF Io N [1,0,1,0])]
 kernel_rfl
def Zhi:Gd:=GF Io func114 (λN d=>Zhh N d.1)
def Zgu:Fn:=⟨f88,Ww,λN=>Sig.of [vf_ Jai,.clos 89 0] [vf_ Jag] (λd=>Rk N d.1),CX [Zhi]⟩
def Zgv:Gd:=GF Zgu func88
def Z4k:Fn:=⟨f56,Ww,λN=>Sig.of [vt_ Jo] [vf_ Jag] (λd=>kV N d.1),CX [Z4j,Zgv]⟩
def Ff:Gd:=GF Z4k func56
def Z55:Fn:=⟨f118,Ww,λN=>Sig.of [] [vf_ Jd] (λd=>RD N),W3⟩
def Z56:Gd:=GN Z55 func118
def Z4l:Fn:=⟨f143,Ww,λN=>Sig.of [vf_ Jl] [vf_ Jd] (λd=>Zy N d.1),W3⟩
def iP:Gd:=GN Z4l func143
def Z9d:Fn:=⟨f126,Ww,λN=>Sig.of [vf_ Ja,vf_ Ja] [vf_ Ja] (λd=>CD N d.1 d.2.1),W3⟩
def Zwo:Gd:=GN Z9d func126
def Qe:Fn:=⟨f128,Ww,λN=>Sig.of [vf_ Ja] [vf_ Ja] (λd=>zw N d.1),W3⟩
def Zxm:Gd:=GN Qe func128
def Z4m:Fn:=⟨f127,Ww,λN=>Sig.of [vf_ Ja] [vf_ Ja] (λd=>Fu N d.1),CX [ux]⟩
def Zu0:Gd:=GF Z4m func127
def I3:Fn:=⟨f100,λ |5=>cn_ [3,9,10,11,12]|6=>cn_ [3,4,5,9,10,11]|7=>cn_ [3,4,5,9,10,11,17]|8=>cn_ [3,5,9,10,11,35]|9=>cn_ [2]|10|11|100005=>cn_ [3,9,10,11]|_=>[],λN=>Sig.of [vf_ Jl] [vf_ Jag] (λd=>oF N d.1),CX [Zwo,Zz,Zxm,Zu0]⟩
def Zry(a:List Int)(c:Int)(b:List Bool):St:=⟨[(3,.s (.one (.aptr 0))),(9,vV Jl a),(10,vI (Wi a)),(11,vI c)],[(0,.arr Jag b)],1⟩
theorem Zyw{b K0 K1}(e:K0=K .ret ⟨[(2,vB false)],[],0⟩)(f:K1= λh g d=>K (.exit 0) ((Zry b h d).B 12 g))(n c a):ti N b K0 K1 n c a=LM I3 N 0 100005 n (Zry b c a) K:=by subst e f;induction n generalizing c a;kernel_rfl;rw[ti];simp only[*];kernel_rfl
theorem Z57(l1:List Int):DN I3 N (l1,())=oF N l1:=by
 conv=>rhs;rw[oF];simp(disch:=exact id (by kernel_rfl)) only[Zyw (R:=Unit×Ke) N (CF I3 N [1,1,1,0,1,0])]
 kernel_rfl
def Fp:Gd:=GF I3 func100 (λN d=>Z57 N d.1)
def Lu:Fn:=⟨f129,λ |2=>cn_ [1,7,8,9,10]|3=>cn_ [1,5,6,7,8,9]|4=>cn_ [1,5,7,8,9,21]|5=>cn_ [4]|6|100002=>cn_ [1,7,8,9]|_=>[],λN=>Sig.of [vf_ Jl,vf_ Ja] [vf_ Ja] (λd=>q0 N d.1 d.2.1),CX [Zxm]⟩
def Zu1(b:Int)(a:List Int)(c:Int):St:=⟨[(1,vI b),(7,vV Jl a),(8,vI (Wi a)),(9,vI c)],[],0⟩
theorem Z4n{a b K0 K1}(f:K0= λh=>K .ret ⟨[(4,vI h)],[],0⟩)(g:K1= λd e=>K (.exit 0) ((Zu1 a b d).B 10 e))(n c):ub N a b K0 K1 n c=LM Lu N 0 100002 n (Zu1 a b c) K:=by subst f g;induction n generalizing c;kernel_rfl;rw[ub];simp only[*];kernel_rfl
theorem PY(l1:List Int)(bf:Int):DN Lu N (l1,bf,())=q0 N l1 bf:=by
 conv=>rhs;rw[q0];simp(disch:=exact id (by kernel_rfl)) only[Z4n (R:=Unit×Kk) N (CF Lu N [1,0,1,0])]
 kernel_rfl
def RJ:Gd:=GF Lu func129 (λN d=>PY N d.1 d.2.1)
def Z58:Fn:=⟨f101,Ww,λN=>Sig.of [vf_ Jl,vf_ Ja] [vf_ Ja,vf_ Jag] (λd=>yH N d.1 d.2.1),CX [Fp,ux,RJ]⟩
def JC:Gd:=GF Z58 func101
def JD:Fn:=⟨f119,λ |10=>cn_ [1,2,9,13,57]|11|100010=>cn_ [1,2,9,13]|_=>[],λN=>Sig.of [vf_ Jl,vf_ Ja,vf_ Ja] [vf_ Jd,vf_ Ja,vf_ Jag] (λd=>uj N d.1 d.2.1 d.2.2.1),CX [iP,Fp,ux,nn,RJ,JC,Zwo,Zu0]⟩
def Zrz(b d c:Int)(a:List Int):St:=⟨[(1,vI b),(2,vI d),(9,vO 0),(13,vI c)],[(0,.arr Ja a)],1⟩
theorem Zyx{b d a K0}(f:K0= λg e=>K (.exit 0) ((Zrz b d g a).B 57 e))(n c):xj N b d a K0 n c=LM JD N 0 100010 n (Zrz b d c a) K:=by subst f;induction n generalizing c;kernel_rfl;rw[xj];simp only[*];kernel_rfl
theorem Z59(l1:List Int)(a v3:Int):DN JD N (l1,a,v3,())=uj N l1 a v3:=by
 conv=>rhs;rw[uj];simp(disch:=exact id (by kernel_rfl)) only[Zyx (R:=Unit×(Ki×Kz)) N (CF JD N [1,1,1,1,1,0,0])]
 kernel_rfl
def Rx:Gd:=GF JD func119 (λN d=>Z59 N d.1 d.2.1 d.2.2.1)
def IR:Fn:=⟨f92,λ |5=>cn_ [3,10,11,12,13]|6=>cn_ [3,4,5,10,11,12]|7=>cn_ [3,4,5,10,11,12,18]|8|9|100005=>cn_ [3,10,11,12]|_=>[],λN=>Sig.of [vf_ Jl] [vf_ Jd] (λd=>yx N d.1),CX [Zxl,Z56,Rx]⟩
def Zp8(a:List Int)(c:Int)(b:List Int):St:=⟨[(3,vO 0),(10,vV Jl a),(11,vI (Wi a)),(12,vI c)],[(0,.arr Ja b)],1⟩
theorem Zww{b K0}(g:K0= λd e f=>K (.exit 0) ((Zp8 b d f).B 13 e))(n c a):s7 N b K0 n c a=LM IR N 0 100005 n (Zp8 b c a) K:=by subst g;induction n generalizing c a;kernel_rfl;rw[s7];simp only[*];kernel_rfl
theorem Z2n(m1:List Int):DN IR N (m1,())=yx N m1:=by
 conv=>rhs;rw[yx];simp(disch:=exact id (by kernel_rfl)) only[Zww (R:=Unit×Kah) N (CF IR N [1,1,1,0,1,0])]
 kernel_rfl
def Z2o:Gd:=GF IR func92 (λN d=>Z2n N d.1)
def KH:Fn:=⟨f93,λ |5=>cn_ [2,4,12,13,14,15]|6=>cn_ [2,4,6,12,13,14]|7|8=>cn_ [2,4,12,13,14]|100005=>[.adoptC 4 1 Jb,.canon [2,4,12,13,14]]|_=>[],λN=>Sig.of [vf_ Jl] [vt_ Jy,vf_ Jag] (λd=>zd N d.1),CX [E9]⟩
def Zs6(a:List Int)(c:Int)(b:List Kb):St:=⟨[(2,vP 0 0),(4,vP 1 0),(12,vV Jl a),(13,vI (Wi a)),(14,vI c)],[(0,.box [.val Ja (0:Int),.nils]),(1,.box [.val Ja (0:Int),.own 2]),(2,.arr Jb b)],3⟩
theorem Z00{b K0}(f:K0= λg d e=>K (.exit 0) ((Zs6 b g e).B 15 d))(n c a):yj N b K0 n c a=LM KH N 0 100005 n (Zs6 b c a) K:=by subst f;induction n generalizing c a;kernel_rfl;rw[yj];simp only[*];kernel_rfl
theorem Z9e(l1:List Int):DN KH N (l1,())=zd N l1:=by
 conv=>rhs;rw[zd];simp(disch:=exact id (by kernel_rfl)) only[Z00 (R:=Unit×(Kx×Ke)) N (CF KH N [1,1,1,0,1,0])]
 kernel_rfl
def Z9f:Gd:=GF KH func93 (λN d=>Z9e N d.1)
def Z2p:Fn:=⟨f144,Ww,λN=>Sig.of [.box Jj] [] (λd=>nm N d.1),W3⟩
def Fa:Gd:=GN Z2p func144
def IA:Fn:=⟨f145,λ |3=>cn_ [0,1,4,5,17,18,19,20]|4=>cn_ [0,1,4,5,6,7,17,18,19]|5|6|100003=>cn_ [0,1,4,5,17,18,19]|_=>[],λN=>Sig.of [.box Jn,vf_ Ja] [] (λd=>Br N d.1 d.2.1),W3⟩
def Zpy(h:Int)(i:Nat)(g:Bool)(j k b8 b9 az b:Int)(f:List Y_Root)(e:List Kb)(a:List Int)(d:List Kb)(c:List Ko):St:=⟨[(0,vP 0 0),(1,vI h),(4,.s (.one (.eptr 1 i 0))),(5,vB g),(17,vO 1),(18,vI j),(19,vI k)],[(0,.box [.val Ja b8,.val Ja b9,.val Ja az,.own 2,.own 3,.val Ja b,.own 4,.own 1,.own 5]),(1,.arr Jj f),(2,.arr Jb e),(3,.arr Ja a),(4,.arr Jb d),(5,.arr Jad c)],6⟩
theorem Zv8{h i j b8 b9 az b f e a d c K0}(l:K0= λp o m=>K (.exit 0) ((Zpy h i p j o b8 b9 az b f e a d c).B 20 m))(n g k):og N h i j b8 b9 az b f e a d c K0 n g k=LM IA N 0 100003 n (Zpy h i g j k b8 b9 az b f e a d c) K:=by subst l;induction n generalizing g k;kernel_rfl;rw[og];simp only[*];kernel_rfl
theorem Z01(a:Y_World)(k2:Int):DN IA N (a,k2,())=Br N a k2:=by
 conv=>rhs;rw[Br];simp(disch:=exact id (by kernel_rfl)) only[Zv8 (R:=(Y_World×Unit)×Unit) N (CF IA N [1,1,0,1,0])]
 kernel_rfl
def Z02:Gd:=GN IA func145 (λN d=>Z01 N d.1 d.2.1)
def Z9g:Fn:=⟨f250,Ww,λN=>Sig.of [vf_ Ja,vf_ Ja,vf_ Ja] [vf_ Jag] (λd=>CE N d.1 d.2.1 d.2.2.1),CX [Zz]⟩
def Zwp:Gd:=GF Z9g func250
def Zxo:Fn:=⟨f251,Ww,λN=>Sig.of [vt_ Jb,vt_ Jb] [vf_ Ja] (λd=>Iy N d.1 d.2.1),W3⟩
def Zxp:Gd:=GN Zxo func251
def JE:Fn:=⟨f192,λ |2=>cn_ [0,5,6,7,8]|3=>cn_ [0,3,4,5,6,7]|4=>cn_ [0,3,4,5,6,7,33]|5|7=>cn_ [2]|6=>cn_ [0,5,6,7,60]|8|100002=>cn_ [0,5,6,7]|_=>[],λN=>Sig.of [vf_ Jv] [vf_ Jag] (λd=>uk N d.1),CX [Zwp,Zxp]⟩
def Zr0(l2:List Kb)(a:Int):St:=⟨[(0,vV Jv l2),(5,vV Jv l2),(6,vI (Wi l2)),(7,vI a)],[],0⟩
theorem Zyy{l2 K0 K1}(d:K0=K .ret ⟨[(2,vB false)],[],0⟩)(e:K1= λb c=>K (.exit 0) ((Zr0 l2 b).B 8 c))(n a):mh N l2 K0 K1 n a=LM JE N 0 100002 n (Zr0 l2 a) K:=by subst d e;induction n generalizing a;kernel_rfl;rw[mh];simp only[*];kernel_rfl
theorem Z6a(l1:List Kb):DN JE N (l1,())=uk N l1:=by
 conv=>rhs;rw[uk];simp(disch:=exact id (by kernel_rfl)) only[Zyy (R:=Unit×Ke) N (CF JE N [1,0,1,0])]
 kernel_rfl
def JF:Gd:=GF JE func192 (λN d=>Z6a N d.1)
def JG:Fn:=⟨f223,λ |5=>cn_ [1,5,12,13,14,15]|6=>cn_ [1,5,7,12,13,14]|7=>cn_ [1,5,7,12,13,14,21]|8|9|100005=>cn_ [1,5,12,13,14]|_=>[],λN=>Sig.of [vf_ Jv,vf_ Ja] [vf_ Jd] (λd=>yO N d.1 d.2.1),CX [JF]⟩
def Zr1(b:Int)(a:List Kb)(d:Int)(c:List Int):St:=⟨[(1,vI b),(5,vO 0),(12,vV Jv a),(13,vI (Wi a)),(14,vI d)],[(0,.arr Ja c)],1⟩
theorem Zyz{a c K0}(g:K0= λh e f=>K (.exit 0) ((Zr1 a c h f).B 15 e))(n d b):tj N a c K0 n d b=LM JG N 0 100005 n (Zr1 a c d b) K:=by subst g;induction n generalizing d b;kernel_rfl;rw[tj];simp only[*];kernel_rfl
theorem Z6b(l1:List Kb)(aP:Int):DN JG N (l1,aP,())=yO N l1 aP:=by
 conv=>rhs;rw[yO];simp(disch:=exact id (by kernel_rfl)) only[Zyz (R:=Unit×Kah) N (CF JG N [1,1,1,0,1,0])]
 kernel_rfl
def Z6c:Gd:=GF JG func223 (λN d=>Z6b N d.1 d.2.1)
def Z2q:Fn:=⟨f153,λ |0=>[.opn 10]|_=>[],λN=>Sig.of [.box Jn,vf_ Ja] [] (λd=>BA N d.1 d.2.1),W3⟩
def Zt6:Gd:=GN Z2q func153
def Z6d:Fn:=⟨f281,Ww,λN=>Sig.of [vf_ Ja] [vf_ Jag] (λd=>um N d.1),CX [Zz]⟩
def Fq:Gd:=GF Z6d func281
def KI:Fn:=⟨f253,λ |2=>cn_ [0,5,6,7,8]|3=>cn_ [0,4,5,6,7]|4=>cn_ [0,5,6,7,20]|5=>cn_ [2]|6|100002=>cn_ [0,5,6,7]|_=>[],λN=>Sig.of [vf_ Jm] [vf_ Jag] (λd=>oY N d.1),CX [oD,nn]⟩
def Zs7(l2:List Kc)(a:Int):St:=⟨[(0,vV Jm l2),(5,vV Jm l2),(6,vI (Wi l2)),(7,vI a)],[],0⟩
theorem Z03{l2 K0 K1}(d:K0=K .ret ⟨[(2,vB false)],[],0⟩)(e:K1= λb c=>K (.exit 0) ((Zs7 l2 b).B 8 c))(n a):yi N l2 K0 K1 n a=LM KI N 0 100002 n (Zs7 l2 a) K:=by subst d e;induction n generalizing a;kernel_rfl;rw[yi];simp only[*];kernel_rfl
theorem Z9h(l1:List Kc):DN KI N (l1,())=oY N l1:=by
 conv=>rhs;rw[oY];simp(disch:=exact id (by kernel_rfl)) only[Z03 (R:=Unit×Ke) N (CF KI N [1,0,1,0])]
 kernel_rfl
def KJ:Gd:=GF KI func253 (λN d=>Z9h N d.1)
def Lv:Fn:=⟨f225,λ |4=>cn_ [0,1,6,14]|5|100004=>cn_ [0,1,6]|6=>cn_ [0,1,6,23]|7=>cn_ [4,5]|_=>[],λN=>Sig.of [vf_ Jm,vf_ Ja] [vf_ Ja,vf_ Jag] (λd=>va N d.1 d.2.1),CX [KJ]⟩
def Zu2(l4:List Kc)(a b:Int):St:=⟨[(0,vV Jm l4),(1,vI a),(6,vI b)],[],0⟩
theorem Z4o{l4 a K0 K1}(c:K0= λf=>K .ret ⟨[(4,vI f),(5,vB true)],[],0⟩)(d:K1= λe g=>K (.exit 0) ((Zu2 l4 a e).B 14 g))(n b):By N l4 a K0 K1 n b=LM Lv N 0 100004 n (Zu2 l4 a b) K:=by subst c d;induction n generalizing b;kernel_rfl;rw[By];simp only[*];kernel_rfl
theorem PZ(l1:List Kc)(cH:Int):DN Lv N (l1,cH,())=va N l1 cH:=by
 conv=>rhs;rw[va];simp(disch:=exact id (by kernel_rfl)) only[Z4o (R:=Unit×Kz) N (CF Lv N [1,1,0,1,0])]
 kernel_rfl
def RK:Gd:=GF Lv func225 (λN d=>PZ N d.1 d.2.1)
def LD:Fn:=⟨f197,λ |5=>cn_ [0,3,11,12]|6=>cn_ [0,3,4,11]|7=>cn_ [0,3,4,5,6,11]|8=>cn_ [0,3,4,5,11,20]|9|10|100005=>cn_ [0,3,11]|_=>[],λN=>Sig.of [vf_ Jm] [vf_ Jc] (λd=>o4 N d.1),CX [KJ,RK]⟩
def Zvs(l3:List Kc)(b:Int)(a:List Kc):St:=⟨[(0,vV Jm l3),(3,vO 0),(11,vI b)],[(0,.arr Jz a)],1⟩
theorem Z6e{l3 K0}(c:K0= λe f d=>K (.exit 0) ((Zvs l3 e d).B 12 f))(n b a):yF N l3 K0 n b a=LM LD N 0 100005 n (Zvs l3 b a) K:=by subst c;induction n generalizing b a;kernel_rfl;rw[yF];simp only[*];kernel_rfl
theorem Rh(l1:List Kc):DN LD N (l1,())=o4 N l1:=by
 conv=>rhs;rw[o4];simp(disch:=exact id (by kernel_rfl)) only[Z6e (R:=Unit×(Ky×Unit)) N (CF LD N [1,1,1,0,1,0])]
 kernel_rfl
def LF:Gd:=GF LD func197 (λN d=>Rh N d.1)
def JH:Fn:=⟨f282,λ |3=>cn_ [3,8,9,10,11]|4=>cn_ [3,5,8,9,10]|5|6|100003=>cn_ [3,8,9,10]|_=>[],λN=>Sig.of [vf_ Jm] [vf_ Jd] (λd=>B3 N d.1),CX [LF]⟩
def Zr4(c d:Int)(a:List Int)(b:List Kc):St:=⟨[(3,vO 0),(8,vO 1),(9,vI c),(10,vI d)],[(0,.arr Ja a),(1,.arr Jz b)],2⟩
theorem Zy1{c b K0}(e:K0= λg h f=>K (.exit 0) ((Zr4 c g f b).B 11 h))(n d a):xQ N c b K0 n d a=LM JH N 0 100003 n (Zr4 c d a b) K:=by subst e;induction n generalizing d a;kernel_rfl;rw[xQ];simp only[*];kernel_rfl
theorem Z6f(l1:List Kc):DN JH N (l1,())=B3 N l1:=by
 conv=>rhs;rw[B3];simp(disch:=exact id (by kernel_rfl)) only[Zy1 (R:=Unit×Kah) N (CF JH N [1,1,0,1,0])]
 kernel_rfl
def Z6g:Gd:=GF JH func282 (λN d=>Z6f N d.1)
def Z2s:Fn:=⟨f224,Ww,λN=>Sig.of [vf_ Ja,vf_ Ja,vf_ Jm,vf_ Jm] [vt_ Jr,vf_ Jag] (λd=>BB N d.1 d.2.1 d.2.2.1 d.2.2.2.1),CX [Fq,Zz,KJ,LF,Z6g]⟩
def Z2t:Gd:=GF Z2s func224
def Zy2:Fn:=⟨f178,λ |0=>[.opn 13]|_=>[],λN=>Sig.of [.box Jn,vf_ Ja,vf_ Ja] [] (λd=>Fb N d.1 d.2.1 d.2.2.1),CX [Z6c,Zt6,Z2t]⟩
def Zr5:Gd:=GF Zy2 func178
def Z4p:Fn:=⟨f226,Ww,λN=>Sig.of [vf_ Ja] [vt_ Jp,vf_ Jag] (λd=>yu N d.1),CX [oD]⟩
def Zu3:Gd:=GF Z4p func226
def Lf:Fn:=⟨f243,λ |2=>cn_ [1,6,7,8,9]|3=>cn_ [1,4,6,7,8]|4=>cn_ [1,6,7,8,29]|5=>cn_ [2]|6|100002=>cn_ [1,6,7,8]|_=>[],λN=>Sig.of [vt_ Jah] [vf_ Jag] (λd=>nG N d.1),CX [nn,Zz]⟩
def Zt7(b:List Kb)(c:Int)(a:Int×List Kb):St:=⟨[(1,vP 0 0),(6,vV Jv b),(7,vI (Wi a.2)),(8,vI c)],[(0,.box [.val Ja a.1,.val Jv a.2])],1⟩
theorem Z2u{b a K0 K1}(f:K0=K .ret ⟨[(2,vB false)],[],0⟩)(g:K1= λd e=>K (.exit 0) ((Zt7 b d a).B 9 e))(n c):yd N b a K0 K1 n c=LM Lf N 0 100002 n (Zt7 b c a) K:=by subst f g;induction n generalizing c;kernel_rfl;rw[yd];simp only[*];kernel_rfl
theorem Qf(m1:Int×List Kb):DN Lf N (m1,())=nG N m1:=by
 conv=>rhs;rw[nG];simp(disch:=exact id (by kernel_rfl)) only[Z2u (R:=Unit×Ke) N (CF Lf N [1,0,1,0])]
 kernel_rfl
def Cy:Gd:=GF Lf func243 (λN d=>Qf N d.1)
def Z6h:Fn:=⟨f283,Ww,λN=>Sig.of [vt_ Jp] [vf_ Jag] (λd=>J1 N d.1),CX [oD,Zz,nn]⟩
def Z6i:Gd:=GF Z6h func283
def Z2v:Fn:=⟨f227,Ww,λN=>Sig.of [vt_ Jah,vf_ Ja,vt_ Jp] [vt_ Jp] (λd=>ye N d.1 d.2.1 d.2.2.1),CX [Cy,Z6i]⟩
def Zt8:Gd:=GF Z2v func227
def Zwx:Fn:=⟨f228,Ww,λN=>Sig.of [.box Jj] [] (λd=>Bf N d.1),CX [Fa]⟩
def Zp9:Gd:=GF Zwx func228
def Z05:Fn:=⟨f179,λ |1000000=>[.unfE 1]|_=>[],λN=>Sig.of [.boxal Jn 3,vt_ Jp] [] (λd=>IE N d.1 d.2.1 d.2.2.1),CX [RK,Zu3,Zt8,Zp9]⟩
def Z06:Gd:=GF Z05 func179
def Zra:Nat->List Ghost:=λ |0=>[.unfC 0 15 none]|_=>[]
def Zrb(N:Nat):Sig:=.inline (Inl.of tab Zra Tryz.f148.ntmps (NM Tryz.f148) Tryz.f148.results.toList (by kernel_rfl))
theorem Zxr(N:Nat):GW 148 (Zrb N):=⟨C5 Tryz.func148 (by kernel_rfl),WvI mixedOk tabOk Tryz.func148 (by kernel_rfl) (by kernel_rfl) (by kernel_rfl) (λa=>by unfold Zra;split<;>rfl)⟩
def Zrc:Gd:=⟨148,Zrb,Zxr⟩
def Z2w:Fn:=⟨f235,Ww,λN=>Sig.of [vt_ Jaf] [vt_ Jan] (λd=>Fj N d.1),CX [iP]⟩
def Zt9:Gd:=GF Z2w func235
def Z6j:Fn:=⟨f236,Ww,λN=>Sig.of [vt_ Jaf] [vf_ Jag] (λd=>FC N d.1),CX [Fp,nn]⟩
def Zvt:Gd:=GF Z6j func236
def Z9i:Fn:=⟨f237,Ww,λN=>Sig.of [vt_ Jb] [vf_ Jag] (λd=>Ln N d.1),CX [ux,nn]⟩
def Z9j:Gd:=GF Z9i func237
def Z4q:Fn:=⟨f238,Ww,λN=>Sig.of [vf_ Jl,vf_ Ja] [vf_ Jd,vf_ Ja,vf_ Jag] (λd=>Fv N d.1 d.2.1),CX [iP,Fp,ux,RJ,JC]⟩
def Zu4:Gd:=GF Z4q func238
def Z6k:Fn:=⟨f187,Ww,λN=>Sig.of [vt_ Jaf,vt_ Jb] [vt_ Jan,vf_ Jag] (λd=>J2 N d.1 d.2.1),CX [Zt9,Zvt,Z9j,Rx,Zu4]⟩
def Z6l:Gd:=GF Z6k func187
def Z07:Fn:=⟨f149,λ |1000000=>[.unfE 1]|_=>[],λN=>Sig.of [.boxal Jn 3] [] (λd=>tv N d.1 d.2.1),CX [Z6l]⟩
def Zs8:Gd:=GF Z07 func149
def Z4r:Fn:=⟨f188,Ww,λN=>Sig.of [vf_ Jm] [vf_ Jc] (λd=>nC N d.1),W3⟩
def Fg:Gd:=GN Z4r func188
def Lg:Fn:=⟨f229,λ |5=>cn_ [0,5,6,25]|6|7|100005=>cn_ [0,5,6]|8=>cn_ [0,5,6,36]|9=>cn_ [4]|_=>[],λN=>Sig.of [vf_ Jh,vf_ Ja] [vf_ Ja] (λd=>zu N d.1 d.2.1),CX [Zz,RG]⟩
def Zua(a:List Ka)(c b:Int):St:=⟨[(0,vV Jh a),(5,vI c),(6,vI b)],[],0⟩
theorem Z2x{a K0 K1}(f:K0= λi=>K .ret ⟨[(4,vI i)],[],0⟩)(g:K1= λh b e=>K (.exit 0) ((Zua a h b).B 25 e))(n d c):yf N a K0 K1 n d c=LM Lg N 0 100005 n (Zua a d c) K:=by subst f g;induction n generalizing d c;kernel_rfl;rw[yf];simp only[*];kernel_rfl
theorem Qg(a:List Ka)(i2:Int):DN Lg N (a,i2,())=zu N a i2:=by
 conv=>rhs;rw[zu];simp(disch:=exact id (by kernel_rfl)) only[Z2x (R:=Unit×Kk) N (CF Lg N [1,1,1,0,1,0])]
 kernel_rfl
def Zxs:Gd:=GF Lg func229 (λN d=>Qg N d.1 d.2.1)
def Zy3:Fn:=⟨f180,λ |0=>[.opn 13]|5=>[.shutD 34 15]|_=>[],λN=>Sig.of [.box Jn,vf_ Ja,vf_ Jh] [] (λd=>IM N d.1 d.2.1 d.2.2.1),CX [Zr5,Zrc,Zs8,iP,Fg,Zxs]⟩
def Zy4:Gd:=GF Zy3 func180
def Bt:Fn:=⟨f181,λ |3=>cn_ [1,3,8,9,19,20,21,22]|4=>cn_ [1,3,8,9,11,19,20,21]|5|6=>cn_ [1,3,8,9,19,20,21]|8=>cn_ [1,8,9,36,37,38]|9=>[.nest 44 Jk,.canon [1,8,9,36,37]]|10=>cn_ [1,8,9,36,37]|100003=>[.adoptC 9 6 Jb,.canon [1,3,8,9,19,20,21]]|100008=>[.adoptC 9 9 Jk,.canon [1,8,9,36,37]]|_=>[],λN=>Sig.of [vf_ Ja,vf_ Jl,vf_ Jm,vf_ Ja] [vt_ Js] (λd=>Bz N d.1 d.2.1 d.2.2.1 d.2.2.2.1),CX [iP,LF]⟩
def Zrd(f:List Int)(g h b a:Int)(c:List Kc)(e:List Int)(d:List Kb):St:=⟨[(1,vV Jl f),(3,vI g),(8,vP 0 0),(9,vP 1 0),(19,vO 2),(20,vI h),(21,vI b)],[(0,.box [.val Ja (0:Int),.val Ja (0:Int),.val Ja (0:Int),.val Jag false,.nils,.nils,.nils,.nils,.nils,.nils]),(1,.box [.val Ja a,.val Ja (0:Int),.val Ja (0:Int),.val Jag false,.own 3,.own 2,.own 4,.nils,.nils,.nils]),(2,.arr Jz c),(3,.arr Ja e),(4,.arr Jb d)],5⟩
theorem Zxt{f g i a c e K0}(l:K0= λh k j=>K (.exit 0) ((Zrd f g i h a c e j).B 22 k))(n b d):w7 N f g i a c e K0 n b d=LM Bt N 0 100003 n (Zrd f g i b a c e d) K:=by subst l;induction n generalizing b d;kernel_rfl;rw[w7];simp only[*];kernel_rfl
def Zre(a:List Int)(e f c:Int)(d:List Int)(b:List Kc)(dU:List Kb)(di:List Y_KidRun):St:=⟨[(1,vV Jl a),(8,vP 0 0),(9,vP 1 0),(36,vI e),(37,vI f)],[(0,.box [.val Ja (0:Int),.val Ja (0:Int),.val Ja (0:Int),.val Jag false,.nils,.nils,.nils,.nils,.nils,.nils]),(1,.box [.val Ja c,.val Ja (0:Int),.val Ja (0:Int),.val Jag false,.own 2,.own 3,.own 4,.nils,.nils,.own 5]),(2,.arr Ja d),(3,.arr Jz b),(4,.arr Jb dU),(5,.arr Jk di)],6⟩
theorem Zxu{a e c d b dU K0}(i:K0= λg h j=>K (.exit 2) ((Zre a e g c d b dU j).B 38 h))(n f di):qE N a e c d b dU K0 n f di=LM Bt N 1 100008 n (Zre a e f c d b dU di) K:=by subst i;induction n generalizing f di;kernel_rfl;rw[qE];simp only[*];kernel_rfl
theorem Z4s(c:Int)(a:List Int)(b:List Kc)(eh:Int):DN Bt N (c,a,b,eh,())=Bz N c a b eh:=by
 conv=>rhs;rw[Bz];simp(disch:=exact id (by kernel_rfl)) only[Zxt (R:=Unit×(Y_Family×Unit)) N (CF Bt N [1,1,0,1,0]),Zxu (R:=Unit×(Y_Family×Unit)) N (CF Bt N [1,1,1,0,1,0])]
 kernel_rfl
def Z4t:Gd:=GF Bt func181 (λN d=>Z4s N d.1 d.2.1 d.2.2.1 d.2.2.2.1)
def Z2y:Fn:=⟨f230,Ww,λN=>Sig.of [vt_ Jp] [vf_ Ja,vf_ Ja] (λd=>I9 N d.1),CX [FT]⟩
def Z2z:Gd:=GF Z2y func230
def Z20:Fn:=⟨f191,Ww,λN=>Sig.of [vf_ Jv] [vf_ Jao] (λd=>yy N d.1),W3⟩
def Zub:Gd:=GN Z20 func191
def KK:Fn:=⟨f284,λ |5=>cn_ [1,2,3,9,21,22,23,24]|6=>cn_ [1,2,3,9,11,21,22,23]|7=>cn_ [1,2,3,9,11,21,22,23,45]|8|9|100005=>cn_ [1,2,3,9,21,22,23]|_=>[],λN=>Sig.of [vf_ Jv,vf_ Ja,vf_ Ja,vf_ Ja] [vf_ Jd] (λd=>CG N d.1 d.2.1 d.2.2.1 d.2.2.2.1),CX [JF,Zz]⟩
def Zs9(f d e:Int)(a:List Kb)(b:Int)(c:List Int):St:=⟨[(1,vI f),(2,vI d),(3,vI e),(9,vO 0),(21,vV Jv a),(22,vI (Wi a)),(23,vI b)],[(0,.arr Ja c)],1⟩
theorem Z09{f d e b K0}(j:K0= λi h g=>K (.exit 0) ((Zs9 f d e b i g).B 24 h))(n a c):ny N f d e b K0 n a c=LM KK N 0 100005 n (Zs9 f d e b a c) K:=by subst j;induction n generalizing a c;kernel_rfl;rw[ny];simp only[*];kernel_rfl
theorem Z9k(l1:List Kb)(a b bg:Int):DN KK N (l1,a,b,bg,())=CG N l1 a b bg:=by
 conv=>rhs;rw[CG];simp(disch:=exact id (by kernel_rfl)) only[Z09 (R:=Unit×Kah) N (CF KK N [1,1,1,0,1,0])]
 kernel_rfl
def Z9l:Gd:=GF KK func284 (λN d=>Z9k N d.1 d.2.1 d.2.2.1 d.2.2.2.1)
def Zcb(N:Nat):Sig:=Sig.of [.mut Jb,.clos 251 0] [] (λd=>Z4 N d.1)
theorem Zg1:OD Tryz.prog 251 Jb wo cfH:=by
  intro G x y m n w c d k l;obtain⟨_,_,rfl,e,_,_,rfl,f,g⟩:=k;obtain⟨_,_,rfl,h,_,_,rfl,i,j⟩:=l;simp only[Enc]at e f g h i j;subst e f g h i j;simp only[dM,dn];unfold wo at c d;simp only[Xh]at c d
  go_enter Tryz.func251,Tryz.ntmps251
  go_wp2
  rw[WsU (a:=x.2.1) (b:=y.2.1),Result.andThen_ok];rw[Wxk (a:=x.2.1) (b:=y.2.1),Result.andThen_ok];rcases hb:(bne (α:=Int) x.2.1 y.2.1)with _|_
  . go_wp2
    rw[NB (Aa c.1) (Aa d.1) (WyH hb)]
    go_wp2
    go_ret
    exact⟨rfl,Nb _ _ _⟩
  . go_wp2
    rw[NB (Aa c.2) (Aa d.2) (WyP hb)]
    go_wp2
    go_ret
    exact⟨rfl,Nb _ _ _⟩
theorem Zg2(N:Nat):GW 285 (Zcb N):=⟨C5 Tryz.func285 (show sh Tryz.f285=true by kernel_rfl),TG sortFH (e:=.prod Ja Jz) rfl (by decide) Tryz.isAgg217 Tryz.sizeOf217 (enters_of Tryz.func251 (by kernel_rfl) rfl) WzC Zg1 N⟩
def Zg3:Gd:=⟨285,Zcb,Zg2⟩
def JI:Fn:=⟨f231,λ |5=>cn_ [1,2,3,10,35,36,37,38]|6=>cn_ [1,2,3,10,11,12,35,36,37]|7=>cn_ [1,2,3,10,11,12,35,36,37,51]|8=>cn_ [10]|9=>cn_ [8,9]|10|100005=>cn_ [1,2,3,10,35,36,37]|_=>[],λN=>Sig.of [vf_ Jv,vf_ Ja,vf_ Ja,vf_ Ja] [vf_ Jao,vf_ Jag] (λd=>B4 N d.1 d.2.1 d.2.2.1 d.2.2.2.1),CX [Zub,JF,Zwp,Z9l,Zg3]⟩
def Zr6(f d e b c:Int)(a:List Kb):St:=⟨[(1,vI f),(2,vI d),(3,vI e),(10,vO 0),(35,vO 0),(36,vI b),(37,vI c)],[(0,.arr Jb a)],1⟩
def Zxv(f d e c:Int)(b a:List Kb):St:=⟨[(8,vO 0),(9,vB true)],[(0,.arr Jb a)],1⟩
theorem Zy5{e c d b a K0 K1}(i:K0= λg=>K .ret (Zxv e c d b a g))(j:K1= λk h=>K (.exit 0) ((Zr6 e c d b k a).B 38 h))(n f):tl N e c d b a K0 K1 n f=LM JI N 0 100005 n (Zr6 e c d b f a) K:=by subst i j;induction n generalizing f;kernel_rfl;rw[tl];simp only[*];kernel_rfl
theorem Z6m(l1:List Kb)(a b bg:Int):DN JI N (l1,a,b,bg,())=B4 N l1 a b bg:=by
 conv=>rhs;rw[B4];simp(disch:=exact id (by kernel_rfl)) only[Zy5 (R:=Unit×(Ks×Ke)) N (CF JI N [1,1,1,0,1,0])]
 kernel_rfl
def Z6n:Gd:=GF JI func231 (λN d=>Z6m N d.1 d.2.1 d.2.2.1 d.2.2.2.1)
def Z9m:Fn:=⟨f286,Ww,λN=>Sig.of [vf_ Ja,vf_ Ja] [vt_ Jb] (λd=>FO N d.1 d.2.1),W3⟩
def Z9n:Gd:=GN Z9m func286
def Z6o:Fn:=⟨f232,Ww,λN=>Sig.of [vt_ Jaf,vt_ Jp,vf_ Jl] [vt_ Jan,vf_ Jd,vt_ Jb,vf_ Jag] (λd=>KW N d.1 d.2.1 d.2.2.1),CX [Zt9,iP,Zvt,E9,Zvq,Rx,Z9n,JC,Zu4]⟩
def Z6p:Gd:=GF Z6o func232
def Zy6:Fn:=⟨f182,λ |1=>[.opn 20]|_=>[],λN=>Sig.of [.box Jn,vf_ Ja,vt_ Jp] [] (λd=>E8 N d.1 d.2.1 d.2.2.1),CX [Z2z,Z6n,Zp9,Z6p]⟩
def Zy7:Gd:=GF Zy6 func182
def Zxw:Fn:=⟨f148,Ww,λN=>Sig.of [.rp (TY_Root)] [.vj Jp] (λd=>Bi N d.1),W3⟩
def Zrf:Gd:=GN Zxw func148
def Qa:Fn:=⟨f183,Ww,λN=>Sig.of [vt_ Jp,vf_ Jl] [vf_ Jd,vf_ Jag] (λd=>F0 N d.1 d.2.1),CX [iP,FT,E9]⟩
def Z0e:Gd:=GF Qa func183
def Z21:Fn:=⟨f146,λ |1=>[.opn 14]|26=>[.nest 170 (.prod Ja (.prod Ja Jam))]|_=>[],λN=>Sig.of [.box Jn,vf_ Ja,vt_ Jw] [] (λd=>Fk N d.1 d.2.1 d.2.2.1),CX [Zr5,Z06,Zy4,Z4t,Zy7,iP,Zrf,Z0e]⟩
def Z22:Gd:=GF Z21 func146
def Z23:Fn:=⟨f234,Ww,λN=>Sig.of [vt_ (TY_KidRun)] [vf_ Jag] (λd=>Rs N d.1),W3⟩
def Z24:Gd:=GN Z23 func234
def Im:Fn:=⟨f287,λ |2=>cn_ [0,1,7,8,9]|3=>cn_ [0,1,5,7,8]|4=>cn_ [0,1,5,7,8,16]|5=>cn_ [1,4]|6|100002=>cn_ [0,1,7,8]|_=>[],λN=>Sig.of [.v (.slice (TY_KidRun)) false,.clos 234 0] [vf_ Ja] (λd=>Z0 N d.1),CX [Z24]⟩
def Zbr(a:List Y_KidRun)(b:Int):St:=⟨[(0,vV (.slice (TY_KidRun)) a),(1,.s (.one (.clos 234 []))),(7,vI (Wi a)),(8,vI b)],[],0⟩
theorem Zfo{a K0 K1}(c:K0= λe=>K .ret ⟨[(1,.s (.one (.clos 234 []))),(4,vI e)],[],0⟩)(d:K1= λf g=>K (.exit 0) ((Zbr a f).B 9 g))(n b):Zi N a K0 K1 n b=LM Im N 0 100002 n (Zbr a b) K:=by subst c d;induction n generalizing b;kernel_rfl;rw[Zi];simp only[*];kernel_rfl
theorem Zgw(s1:List Y_KidRun):DN Im N (s1,())=Z0 N s1:=by
 conv=>rhs;rw[Z0];simp(disch:=exact id (by kernel_rfl)) only[Zfo (R:=Unit×Kk) N (CF Im N [1,0,1,0])]
 kernel_rfl
def Zgx:Gd:=GF Im func287 (λN d=>Zgw N d.1)
def Zft:Fn:=⟨f233,Ww,λN=>Sig.of [.v (.slice (TY_KidRun)) false,.clos 234 0] [vf_ Jag] (λd=>Ri N d.1),CX [Zgx]⟩
def Zfu:Gd:=GF Zft func233
def Z6q:Fn:=⟨f184,Ww,λN=>Sig.of [vt_ (TY_Family)] [vf_ Jag] (λd=>KX N d.1),CX [Zfu]⟩
def Z6r:Gd:=GF Z6q func184
def JJ:Fn:=⟨f185,λ |5=>cn_ [3,20,21,22,23]|6|7=>cn_ [3,4,5,20,21,22]|8=>cn_ [3,4,5,20,21,22,37]|9|10|100005=>cn_ [3,20,21,22]|_=>[],λN=>Sig.of [vt_ (TY_Family)] [vf_ Jd] (λd=>Cl N d.1),CX [E9,iP]⟩
def Zr7(b:List Y_KidRun)(c d:Int)(a:List Int):St:=⟨[(3,vO 0),(20,vV (.slice (TY_KidRun)) b),(21,vI c),(22,vI d)],[(0,.arr Ja a)],1⟩
theorem Zy8{b c K0}(h:K0= λe f g=>K (.exit 0) ((Zr7 b c e g).B 23 f))(n d a):qL N b c K0 n d a=LM JJ N 0 100005 n (Zr7 b c d a) K:=by subst h;induction n generalizing d a;kernel_rfl;rw[qL];simp only[*];kernel_rfl
theorem Z6s(f1:Y_Family):DN JJ N (f1,())=Cl N f1:=by
 conv=>rhs;rw[Cl];simp(disch:=exact id (by kernel_rfl)) only[Zy8 (R:=Unit×Kah) N (CF JJ N [1,1,1,0,1,0])]
 kernel_rfl
def Z6t:Gd:=GF JJ func185 (λN d=>Z6s N d.1)
def JK:Fn:=⟨f186,λ |3=>cn_ [3,8,9,10,11]|4=>cn_ [3,5,8,9,10]|5|6|100003=>cn_ [3,8,9,10]|_=>[],λN=>Sig.of [vt_ (TY_Family)] [vf_ Jc] (λd=>Cn N d.1),W3⟩
def Zr8(b:List Kb)(c d:Int)(a:List Kc):St:=⟨[(3,vO 0),(8,vV Jv b),(9,vI c),(10,vI d)],[(0,.arr Jz a)],1⟩
theorem Zy9{b c K0}(e:K0= λg h f=>K (.exit 0) ((Zr8 b c g f).B 11 h))(n d a):xS N b c K0 n d a=LM JK N 0 100003 n (Zr8 b c d a) K:=by subst e;induction n generalizing d a;kernel_rfl;rw[xS];simp only[*];kernel_rfl
theorem Z6u(f1:Y_Family):DN JK N (f1,())=Cn N f1:=by
 conv=>rhs;rw[Cn];simp(disch:=exact id (by kernel_rfl)) only[Zy9 (R:=Unit×(Ky×Unit)) N (CF JK N [1,1,0,1,0])]
 kernel_rfl
def Z6v:Gd:=GN JK func186 (λN d=>Z6u N d.1)
def Z25:Fn:=⟨f147,Ww,λN=>Sig.of [.box Jj] [] (λd=>Fl N d.1),CX [Fa,Z6r,Z6t,Z6v,iP]⟩
def Z26:Gd:=GF Z25 func147
def Zxx:Fn:=⟨f150,λ |2|11=>[.shut 1 15]|1000000=>[.unfE 1]|_=>[],λN=>Sig.of [.boxal Jn 3] [] (λd=>E6 N d.1 d.2.1),CX [Zrc,Fa,Fg,iP]⟩
def Zxy:Gd:=GF Zxx func150
def Z1a:Fn:=⟨f239,Ww,λN=>Sig.of [vt_ Je] [vt_ Jr] (λd=>Fc N d.1),CX [Fg,iP]⟩
def Zta:Gd:=GF Z1a func239
def Zwy:Fn:=⟨f288,Ww,λN=>Sig.of [vt_ Je] [vf_ Ja] (λd=>Bg N d.1),W3⟩
def Zqa:Gd:=GN Zwy func288
def Bu:Fn:=⟨f240,λ |4=>cn_ [1,3,38]|5|100004=>cn_ [1,3]|6=>cn_ [1,3,54]|7|12=>cn_ [2]|9=>cn_ [1,56,57,58,59]|10=>cn_ [1,4,5,56,57,58]|11=>cn_ [1,56,57,58,79]|13|100009=>cn_ [1,56,57,58]|_=>[],λN=>Sig.of [vt_ Je] [vf_ Jag] (λd=>yv N d.1),CX [Fq,Zz,KJ,oD,Zqa]⟩
def Zrg(a:Int)(b8:Int×Int×Int×Int×Int×List Kc×List Int):St:=⟨[(1,vP 0 0),(3,vI a)],[(0,.box (split Je b8))],1⟩
theorem Zxz{b8 K0 K1}(c:K0=K .ret ⟨[(2,vB false)],[],0⟩)(d:K1= λe b=>K (.exit 0) ((Zrg e b8).B 38 b))(n a):sS N b8 K0 K1 n a=LM Bu N 0 100004 n (Zrg a b8) K:=by subst c d;induction n generalizing a;kernel_rfl;rw[sS];simp only[*];kernel_rfl
def Zrh(b:List Int)(c:Int)(a:Int×Int×Int×Int×Int×List Kc×List Int):St:=⟨[(1,vP 0 0),(56,vV Jl b),(57,vI (Wi a.2.2.2.2.2.2)),(58,vI c)],[(0,.box (split Je a))],1⟩
theorem Zx0{a b K0 K1}(d:K0=K .ret ⟨[(2,vB false)],[],0⟩)(e:K1= λf g=>K (.exit 2) ((Zrh a f b).B 59 g))(n c):qF N a b K0 K1 n c=LM Bu N 1 100009 n (Zrh a c b) K:=by subst d e;induction n generalizing c;kernel_rfl;rw[qF];simp only[*];kernel_rfl
theorem Z4u(c1:Int×Int×Int×Int×Int×List Kc×List Int):DN Bu N (c1,())=yv N c1:=by
 conv=>rhs;rw[yv];simp(disch:=exact id (by kernel_rfl)) only[Zxz (R:=Unit×Ke) N (CF Bu N [1,1,0,1,0]),Zx0 (R:=Unit×Ke) N (CF Bu N [1,1,1,0,1,0])]
 kernel_rfl
def Zu5:Gd:=GF Bu func240 (λN d=>Z4u N d.1)
def Zvu:Fn:=⟨f241,Ww,λN=>Sig.of [.box Jr,vf_ Ja] [] (λd=>kS N d.1 d.2.1),W3⟩
def Zo4:Gd:=GN Zvu func241
def Zza:Fn:=⟨f189,Ww,λN=>Sig.of [vt_ Je] [vt_ Jr,vf_ Jag] (λd=>IN N d.1),CX [Zta,Zu5,Zo4]⟩
def Zzb:Gd:=GF Zza func189
def Z6w:Fn:=⟨f242,Ww,λN=>Sig.of [vt_ Jah] [vt_ Jy] (λd=>oE N d.1),W3⟩
def Fr:Gd:=GN Z6w func242
def Qb:Fn:=⟨f244,Ww,λN=>Sig.of [vt_ Jah,vf_ Ja,vf_ Ja] [vt_ Jy,vf_ Jag] (λd=>F1 N d.1 d.2.1 d.2.2.1),CX [Fr,Cy,oD,Fq]⟩
def Qc:Gd:=GF Qb func244
def Zv9:Fn:=⟨f247,Ww,λN=>Sig.of [.box Jr,vf_ Ja] [] (λd=>E5 N d.1 d.2.1),W3⟩
def Zpz:Gd:=GN Zv9 func247
def Zzc:Fn:=⟨f245,Ww,λN=>Sig.of [.box Jr,vf_ Ja] [] (λd=>qM N d.1 d.2.1),CX [Zqa,Zpz]⟩
def Zzd:Gd:=GF Zzc func245
def QH:Fn:=⟨f246,Ww,λN=>Sig.of [vt_ Jah] [vt_ Jy,vf_ Ja] (λd=>LO N d.1),CX [Fr,Cy]⟩
def QI:Gd:=GF QH func246
def Qh:Fn:=⟨f248,Ww,λN=>Sig.of [vt_ Jah,vf_ Ja,vf_ Ja,vf_ Ja] [vt_ Jy,vf_ Jag] (λd=>LH N d.1 d.2.1 d.2.2.1 d.2.2.2.1),CX [Fr,Cy,oD,Fq,nn]⟩
def Qi:Gd:=GF Qh func248
def Z9o:Fn:=⟨f249,Ww,λN=>Sig.of [vt_ Jah,vf_ Ja,vf_ Ja,vf_ Ja] [vt_ Jy,vf_ Jag] (λd=>FP N d.1 d.2.1 d.2.2.1 d.2.2.2.1),CX [Fr,Cy,oD,Fq,Zz]⟩
def Z9p:Gd:=GF Z9o func249
def Z1b:Fn:=⟨f190,Ww,λN=>Sig.of [vt_ Jah,vt_ Je] [vt_ Jy,vt_ Jr] (λd=>IF N d.1 d.2.1),CX [Fr,Zta,Cy,Zu5,Qc,Zzd,Zo4,QI,Zpz,Qi,Z9p]⟩
def Z1c:Gd:=GF Z1b func190
def Zx1:Fn:=⟨f151,λ |0=>[.opn 13]|11=>[.nest 85 Jad]|_=>[],λN=>Sig.of [.box Jn,vf_ Ja] [] (λd=>E7 N d.1 d.2.1),CX [Zzb,Fa,Z1c,Fg]⟩
def Zx2:Gd:=GF Zx1 func151
def Z1d:Fn:=⟨f194,Ww,λN=>Sig.of [vt_ Jb,.box Ja] [vf_ Jag] (λd=>Bs N d.1 d.2.1),W3⟩
def Ztb:Gd:=GN Z1d func194
def Ip:Fn:=⟨f252,λ |2=>cn_ [0,1,7,8,9]|3=>cn_ [0,1,5,7,8]|4=>cn_ [0,1,5,7,8,16]|5=>cn_ [1,4]|6|100002=>cn_ [0,1,7,8]|_=>[],λN=>Sig.of [vf_ Jv,.clos 194 1,.box Ja] [vf_ Ja] (λd=>Z7 N d.1 d.2.1),CX [Ztb]⟩
def Zb4(a:List Kb)(b b6:Int):St:=⟨[(0,vV Jv a),(1,.s (.one (.clos 194 [0]))),(7,vI (Wi a)),(8,vI b)],[(0,.box [.val Ja b6])],1⟩
def Zfz(b:List Kb)(a az:Int):St:=⟨[(1,.s (.one (.clos 194 [0]))),(4,vI a)],[(0,.box [.val Ja az])],1⟩
theorem Zgi{a K0 K1}(f:K0= λh az=>K .ret (Zfz a h az))(g:K1= λe c d=>K (.exit 0) ((Zb4 a e d).B 9 c))(n b b6):Zk N a K0 K1 n b b6=LM Ip N 0 100002 n (Zb4 a b b6) K:=by subst f g;induction n generalizing b b6;kernel_rfl;rw[Zk];simp only[*];kernel_rfl
theorem Zhj(a:List Kb)(eP:Int):DN Ip N (a,eP,())=Z7 N a eP:=by
 conv=>rhs;rw[Z7];simp(disch:=exact id (by kernel_rfl)) only[Zgi (R:=Kk×Kk) N (CF Ip N [1,0,1,0])]
 kernel_rfl
def Zhk:Gd:=GF Ip func252 (λN d=>Zhj N d.1 d.2.1)
def In:Fn:=⟨f193,λ |5=>cn_ [0,1,5,6,19]|6|9|10|100005=>cn_ [0,1,5,6]|7=>cn_ [0,1,5,6,7]|8=>cn_ [0,1,5,6,7,29]|11=>[.view 38]|_=>[],λN=>Sig.of [vf_ Jao,.clos 194 1,.box Ja] [vf_ Jao] (λd=>Zu N d.1 d.2.1),CX [Zhk,Ztb]⟩
def Zby(a b:Int)(c:List Kb)(b7:Int):St:=⟨[(0,vO 0),(1,.s (.one (.clos 194 [1]))),(5,vI a),(6,vI b)],[(0,.arr Jb c),(1,.box [.val Ja b7])],2⟩
theorem Zf0{K0}(h:K0= λi d f g e=>K (.exit 0) ((Zby i d g e).B 19 f))(n a b c b7):Ze N K0 n a b c b7=LM In N 0 100005 n (Zby a b c b7) K:=by subst h;induction n generalizing a b c b7;kernel_rfl;rw[Ze];simp only[*];kernel_rfl
theorem Zg4(a:List Kb)(eP:Int):DN In N (a,eP,())=Zu N a eP:=by
 conv=>rhs;rw[Zu];simp(disch:=exact id (by kernel_rfl)) only[Zf0 (R:=Kk×Kak) N (CF In N [1,1,1,0,1,0])]
 kernel_rfl
def Zg5:Gd:=GF In func193 (λN d=>Zg4 N d.1 d.2.1)
def Z4v:Fn:=⟨f152,Ww,λN=>Sig.of [vf_ Jv,vf_ Ja] [vf_ Jao] (λd=>JB N d.1 d.2.1),CX [Zub,JF,Zg5]⟩
def Z4w:Gd:=GF Z4v func152
def Z1e:Fn:=⟨f120,λ |1=>[.opn 12]|_=>[],λN=>Sig.of [.box Jn,vf_ Ja,vt_ Jw] [] (λd=>Fe N d.1 d.2.1 d.2.2.1),CX [Zz,Fa,Z02,Z22,Z26,Zrf,Zs8,Zxy,Zx2,Z4w,Zt6]⟩
def Z1f:Gd:=GF Z1e func120
def Zwa:Fn:=⟨f201,Ww,λN=>Sig.of [vt_ Jb,.box Ja] [vf_ Jag] (λd=>Rm N d.1 d.2.1),W3⟩
def Zwb:Gd:=GN Zwa func201
def Il:Fn:=⟨f200,λ |2=>cn_ [0,1,7,8,9]|3=>cn_ [0,1,5,7,8]|4=>cn_ [0,1,5,7,8,16]|5=>cn_ [1,4]|6|100002=>cn_ [0,1,7,8]|_=>[],λN=>Sig.of [vf_ Jv,.clos 201 1,.box Ja] [vf_ Ja] (λd=>Zq N d.1 d.2.1),CX [Zwb]⟩
def Zbe(a:List Kb)(b b6:Int):St:=⟨[(0,vV Jv a),(1,.s (.one (.clos 201 [0]))),(7,vI (Wi a)),(8,vI b)],[(0,.box [.val Ja b6])],1⟩
def Zex(b:List Kb)(a az:Int):St:=⟨[(1,.s (.one (.clos 201 [0]))),(4,vI a)],[(0,.box [.val Ja az])],1⟩
theorem Ze5{a K0 K1}(f:K0= λh az=>K .ret (Zex a h az))(g:K1= λe c d=>K (.exit 0) ((Zbe a e d).B 9 c))(n b b6):Zg N a K0 K1 n b b6=LM Il N 0 100002 n (Zbe a b b6) K:=by subst f g;induction n generalizing b b6;kernel_rfl;rw[Zg];simp only[*];kernel_rfl
theorem Zfv(a:List Kb)(eP:Int):DN Il N (a,eP,())=Zq N a eP:=by
 conv=>rhs;rw[Zq];simp(disch:=exact id (by kernel_rfl)) only[Ze5 (R:=Kk×Kk) N (CF Il N [1,0,1,0])]
 kernel_rfl
def Zfw:Gd:=GF Il func200 (λN d=>Zfv N d.1 d.2.1)
def Zx3:Fn:=⟨f156,Ww,λN=>Sig.of [.rp (TY_Family),vf_ Ja] [vf_ Ja] (λd=>w8 N d.1 d.2.1),CX [Zfw]⟩
def Rn:Gd:=GF Zx3 func156
def Zwc:Fn:=⟨f157,Ww,λN=>Sig.of [.box Js,vf_ Ja] [] (λd=>sM N d.1 d.2.1),CX [iP]⟩
def Zp0:Gd:=GF Zwc func157
def Zze:Fn:=⟨f195,λ |1=>[.opn 18]|_=>[],λN=>Sig.of [.box Js,vf_ Ja,vt_ Jp,vt_ Jah] [] (λd=>IK N d.1 d.2.1 d.2.2.1 d.2.2.2.1),CX [RK,Rn,Zp0,Zu3,Zt8]⟩
def Zzf:Gd:=GF Zze func195
def Zx4:Fn:=⟨f196,λ |5=>[.opn 28]|_=>[],λN=>Sig.of [.box Jk,vf_ Jh] [] (λd=>Ix N d.1 d.2.1),CX [iP,Fg,Zxs]⟩
def Zx5:Gd:=GF Zx4 func196
def Z1g:Fn:=⟨f154,λ |1=>[.opn 16]|18=>[.nest 128 Jam]|_=>[],λN=>Sig.of [.box Js,vf_ Ja,vf_ Jh,vt_ Jah] [] (λd=>IB N d.1 d.2.1 d.2.2.1 d.2.2.2.1),CX [Zzf,Zx5,iP,Z0e]⟩
def Z1h:Gd:=GF Z1g func154
def Zbz(N:Nat):Sig:=Sig.of [.mut Jb,.clos 199 0] [] (λd=>Rj N d.1)
theorem Zf1:OD Tryz.prog 199 Jb Ek cfE:=by
  intro G x y l m w j k h i;obtain⟨_,_,rfl,a,_,_,rfl,b,d⟩:=h;obtain⟨_,_,rfl,e,_,_,rfl,f,g⟩:=i;simp only[Enc]at a b d e f g;subst a b d e f g;simp only[dM,dn]
  go_enter Tryz.func199,Tryz.ntmps199
  go_wp2
  rw[NB (Aa j) (Aa k) (c:=cfE x y) rfl]
  go_wp2
  go_ret
  exact⟨rfl,Nb _ _ _⟩
theorem Zf2(N:Nat):GW 198 (Zbz N):=⟨C5 Tryz.func198 (show sh Tryz.f198=true by kernel_rfl),TG sortFE (e:=.prod Ja Jz) rfl (by decide) Tryz.isAgg174 Tryz.sizeOf174 (enters_of Tryz.func199 (by kernel_rfl) rfl) WzA Zf1 N⟩
def Zf3:Gd:=⟨198,Zbz,Zf2⟩
def Bd:Fn:=⟨f155,λ |0=>[.opn 16]|3=>cn_ [0,1,4,28,29,30,31]|4=>cn_ [0,1,4,6,28,29,30]|5=>cn_ [0,1,4,6,7,28,29,30]|6=>cn_ [0,1,4,7,8,28,29,30]|7=>cn_ [0,1,4,7,8,28,29,30,48]|8|9|10|100003=>cn_ [0,1,4,28,29,30]|13=>cn_ [0,1,4,75,76,77,78]|14=>cn_ [0,1,4,10,75,76,77]|15=>cn_ [0,1,4,10,75,76,77,83]|16|17|100013=>cn_ [0,1,4,75,76,77]|_=>[],λN=>Sig.of [.box Js,vf_ Ja] [] (λd=>Bh N d.1 d.2.1),CX [LF,Rn,Zf3]⟩
def Zoq(u x y b7 b8 b9:Int)(az:Bool)(a d c e b h:Int)(m:Bool)(f q p i:Int)(cp:List Kc)(t:List Int)(n:List Kc)(w:List Kb)(g:List Int)(j:List Kc)(s:List Y_KidRun)(v:Nat)(o:List Int)(r:List Kb)(k:List Kc)(l:List Kl):St:=⟨[(0,vP 0 0),(1,vI u),(4,vP 1 0),(28,vO 2),(29,vI x),(30,vI y)],[(0,.box [.val Ja b7,.val Ja b8,.val Ja b9,.val Jag az,.own 3,.own 4,.own 5,.own 6,.own 7,.own 8]),(1,.box [.val Ja a,.val Ja d,.val Ja c,.val Ja e,.val Ja b,.val Ja h,.own 9,.own 10,.own 11,.own 12,.val Jag m,.val Ja f,.val Ja q,.val Ja p,.val Ja i]),(2,.arr Jz cp),(3,.arr Ja t),(4,.arr Jz n),(5,.arr Jb w),(6,.arr Ja g),(7,.arr Jz j),(8,.hole Jk s v 1),(9,.arr Ja o),(10,.arr Jb r),(11,.arr Jz k),(12,.arr Jam l)],13⟩
theorem Zvh{v y b7 b8 b9 az a d c e b h m f r q i cp u o g j t w p s k l K0}(A:K0= λD C B=>K (.exit 0) ((Zoq v y D b7 b8 b9 az a d c e b h m f r q i cp u o B g j t w p s k l).B 31 C))(n z x):qD N v y b7 b8 b9 az a d c e b h m f r q i cp u o g j t w p s k l K0 n z x=LM Bd N 0 100003 n (Zoq v y z b7 b8 b9 az a d c e b h m f r q i cp u o x g j t w p s k l) K:=by subst A;induction n generalizing z x;kernel_rfl;rw[qD];simp only[*];kernel_rfl
def Zor(p w a b d e:Int)(f:Bool)(g j h c k q:Int)(n:Bool)(i o t x:Int)(fy:List Kb)(u:List Int)(v:List Kc)(s:List Kb)(y:List Int)(B:List Kc)(z:List Y_KidRun)(A:Nat)(l:List Int)(m:List Kc)(r:List Kl):St:=⟨[(0,vP 0 0),(1,vI p),(4,vP 1 0),(75,vO 2),(76,vI w),(77,vI a)],[(0,.box [.val Ja b,.val Ja d,.val Ja e,.val Jag f,.own 3,.own 4,.own 5,.own 6,.own 7,.own 8]),(1,.box [.val Ja g,.val Ja j,.val Ja h,.val Ja c,.val Ja k,.val Ja q,.own 9,.own 2,.own 10,.own 11,.val Jag n,.val Ja i,.val Ja o,.val Ja t,.val Ja x]),(2,.arr Jb fy),(3,.arr Ja u),(4,.arr Jz v),(5,.arr Jb s),(6,.arr Ja y),(7,.arr Jz B),(8,.hole Jk z A 1),(9,.arr Ja l),(10,.arr Jz m),(11,.arr Jam r)],12⟩
theorem Zvi{q x b d e f g j h c k r o i p u y fy v w t z A B l m s K0}(F:K0= λG D E=>K (.exit 2) ((Zor q x G b d e f g j h c k r o i p u y fy v w t z E A B l m s).B 78 D))(n a C):sN N q x b d e f g j h c k r o i p u y fy v w t z A B l m s K0 n a C=LM Bd N 1 100013 n (Zor q x a b d e f g j h c k r o i p u y fy v w t z C A B l m s) K:=by subst F;induction n generalizing a C;kernel_rfl;rw[sN];simp only[*];kernel_rfl
theorem Zx6(f1:Y_Family)(k2:Int):DN Bd N (f1,k2,())=Bh N f1 k2:=by
 conv=>rhs;rw[Bh];simp(disch:=exact id (by kernel_rfl)) only[Zvh (R:=(Y_Family×Unit)×Unit) N (CF Bd N [1,1,0,1,0]),Zvi (R:=(Y_Family×Unit)×Unit) N (CF Bd N [1,1,1,1,0,1,0])]
 kernel_rfl
def Zx7:Gd:=GF Bd func155 (λN d=>Zx6 N d.1 d.2.1)
def Zzg:Fn:=⟨f121,λ |2=>[.opn 20]|_=>[],λN=>Sig.of [.box Js,vf_ Ja,vf_ Jh,vt_ Jah] [] (λd=>IL N d.1 d.2.1 d.2.2.1 d.2.2.2.1),CX [Z1h,Zx7,Rn,Zp0]⟩
def Zzh:Gd:=GF Zzg func121
def Z27:Fn:=⟨f94,λ |3=>[.unfE 6]|_=>[],λN=>Sig.of [.box Jn,vt_ Jo,vt_ Jb] [] (λd=>BC N d.1 d.2.1 d.2.2.1),CX [Zz,Z1f,Zzh]⟩
def Zuc:Gd:=GF Z27 func94
def Lw:Fn:=⟨f59,λ |3=>[.nest 21 Jj]|6=>cn_ [1,2,3,32,33,34,35]|7=>cn_ [1,2,3,5,32,33,34]|8|9=>cn_ [1,2,3,32,33,34]|100006=>[.adoptC 3 6 Jb,.adoptC 3 8 Jad,.canon [1,2,3,32,33,34]]|_=>[],λN=>Sig.of [vt_ Jo] [vt_ Jn] (λd=>q5 N d.1),CX [Ff,Z2o,Z9f,Zuc]⟩
def Zu6(j:List Kb)(k:Int)(b8:Kf×List Kn×List Kb)(b d a g:Int)(e:List Kb)(c:List Int)(f:List Kb)(i:List Y_Root)(h:List Ko):St:=⟨[(1,vP 0 0),(2,vP 1 0),(3,vP 2 0),(32,vV Jv j),(33,vI (Wi b8.2.2)),(34,vI k)],[(0,.box [.val Jl b8.1.1,.val Jl b8.1.2.1,.val Ja b8.1.2.2,.val Jai b8.2.1,.val Jv b8.2.2]),(1,.box [.val Ja (0:Int),.val Ja (0:Int),.val Ja (0:Int),.nils,.nils,.val Ja (0:Int),.nils,.nils,.nils]),(2,.box [.val Ja b,.val Ja d,.val Ja a,.own 3,.own 4,.val Ja g,.own 5,.own 6,.own 7]),(3,.arr Jb e),(4,.arr Ja c),(5,.arr Jb f),(6,.arr Jj i),(7,.arr Jad h)],8⟩
theorem Z4x{k b8 K0}(s:K0= λx j t q u v p r m o w=>K (.exit 0) ((Zu6 k x b8 t q u v p r m o w).B 35 j))(n l b d a g e c f i h):ug N k b8 K0 n l b d a g e c f i h=LM Lw N 0 100006 n (Zu6 k l b8 b d a g e c f i h) K:=by subst s;induction n generalizing l b d a g e c f i h;kernel_rfl;rw[ug];simp only[*];kernel_rfl
theorem QJ(s1:Kf×List Kn×List Kb):DN Lw N (s1,())=q5 N s1:=by
 conv=>rhs;rw[q5];simp(disch:=exact id (by kernel_rfl)) only[Z4x (R:=Unit×(Y_World×Unit)) N (CF Lw N [1,1,1,1,0,1,0])]
 kernel_rfl
def RL:Gd:=GF Lw func59 (λN d=>QJ N d.1)
def Lx:Fn:=⟨f91,λ |3=>cn_ [3,8,9,10,11]|4=>cn_ [3,4,5,8,9,10]|5=>cn_ [3,4,8,9,10,22]|6|7|100003=>cn_ [3,8,9,10]|_=>[],λN=>Sig.of [vt_ (TY_World)] [vf_ Jd] (λd=>CR N d.1),W3⟩
def Zu7(b:List Y_Root)(c d:Int)(a:List Int):St:=⟨[(3,vO 0),(8,vV Jal b),(9,vI c),(10,vI d)],[(0,.arr Ja a)],1⟩
theorem Z4y{b c K0}(e:K0= λg h f=>K (.exit 0) ((Zu7 b c g f).B 11 h))(n d a):nD N b c K0 n d a=LM Lx N 0 100003 n (Zu7 b c d a) K:=by subst e;induction n generalizing d a;kernel_rfl;rw[nD];simp only[*];kernel_rfl
theorem QK(w1:Y_World):DN Lx N (w1,())=CR N w1:=by
 conv=>rhs;rw[CR];simp(disch:=exact id (by kernel_rfl)) only[Z4y (R:=Unit×Kah) N (CF Lx N [1,1,0,1,0])]
 kernel_rfl
def QL:Gd:=GN Lx func91 (λN d=>QK N d.1)
def BF:Fn:=⟨f58,λ |3=>cn_ [1,2,3,16,17,18,19]|4|6|8|10=>cn_ [1,2,3,5,16,17,18]|5=>cn_ [1,2,3,5,16,17,18,22]|7=>cn_ [1,2,3,5,16,17,18,30]|9=>cn_ [1,2,3,5,16,17,18,43]|11=>cn_ [1,2,3,5,16,17,18,53]|12|13|100003=>cn_ [1,2,3,16,17,18]|15=>cn_ [2,3,63,64,65,66]|16=>cn_ [2,3,7,63,64,65]|17=>cn_ [2,3,63,64,65,71]|18|19|100015=>cn_ [2,3,63,64,65]|_=>[],λN=>Sig.of [vt_ (TY_World)] [vt_ Jak] (λd=>Co N d.1),CX [QL,Zz]⟩
def Zr9(f:List Y_Root)(g:Int)(b6:Y_World)(b a d e c:Int):St:=⟨[(1,vP 0 0),(2,vP 1 0),(3,vP 2 0),(16,vV Jal f),(17,vI (Wi b6.2.2.2.2.2.1)),(18,vI g)],[(0,.box (split (TY_World) b6)),(1,.box [.val Ja (0:Int),.val Ja (0:Int),.val Ja (0:Int),.val Ja (0:Int),.val Ja (0:Int),.val Ja (0:Int),.val Ja (0:Int)]),(2,.box [.val Ja b,.val Ja a,.val Ja d,.val Ja e,.val Ja c,.val Ja (0:Int),.val Ja (Wi b6.2.2.2.2.1)])],3⟩
theorem Zzi{f b6 a K0}(i:K0= λm h j k o l=>K (.exit 0) ((Zr9 f m b6 j a k o l).B 19 h))(n g b d e c):hU N f b6 a K0 n g b d e c=LM BF N 0 100003 n (Zr9 f g b6 b a d e c) K:=by subst i;induction n generalizing g b d e c;kernel_rfl;rw[hU];simp only[*];kernel_rfl
def Zsa(b:List Kb)(g a i h j e c f d:Int):St:=⟨[(2,vP 0 0),(3,vP 1 0),(63,vV Jv b),(64,vI g),(65,vI a)],[(0,.box [.val Ja (0:Int),.val Ja (0:Int),.val Ja (0:Int),.val Ja (0:Int),.val Ja (0:Int),.val Ja (0:Int),.val Ja (0:Int)]),(1,.box [.val Ja i,.val Ja h,.val Ja j,.val Ja e,.val Ja c,.val Ja f,.val Ja d])],2⟩
theorem Zzj{b g i h j e c d K0}(o:K0= λk l m=>K (.exit 3) ((Zsa b g k i h j e c m d).B 66 l))(n a f):tq N b g i h j e c d K0 n a f=LM BF N 1 100015 n (Zsa b g a i h j e c f d) K:=by subst o;induction n generalizing a f;kernel_rfl;rw[tq];simp only[*];kernel_rfl
theorem Z6x(w1:Y_World):DN BF N (w1,())=Co N w1:=by
 conv=>rhs;rw[Co];simp(disch:=exact id (by kernel_rfl)) only[Zzi (R:=Unit×(Km×Unit)) N (CF BF N [1,1,0,1,0]),Zzj (R:=Unit×(Km×Unit)) N (CF BF N [1,1,1,0,1,0])]
 kernel_rfl
def Z6y:Gd:=GF BF func58 (λN d=>Z6x N d.1)
def Z28:Fn:=⟨f57,Ww,λN=>Sig.of [vt_ Jak] [vf_ Jaa] (λd=>IU N d.1),CX [FY]⟩
def Z29:Gd:=GF Z28 func57
def Z9q:Fn:=⟨f123,Ww,λN=>Sig.of [vt_ (TY_Root)] [vf_ Jag] (λd=>RI N d.1),W3⟩
def Z9r:Gd:=GN Z9q func123
def Iq:Fn:=⟨f158,λ |2=>cn_ [0,1,7,8,9]|3=>cn_ [0,1,5,7,8]|4=>cn_ [0,1,5,7,8,16]|5=>cn_ [1,4]|6|100002=>cn_ [0,1,7,8]|_=>[],λN=>Sig.of [vf_ Jal,.clos 123 0] [vf_ Ja] (λd=>EZ N d.1),CX [Z9r]⟩
def Zcs(a:List Y_Root)(b:Int):St:=⟨[(0,vV Jal a),(1,.s (.one (.clos 123 []))),(7,vI (Wi a)),(8,vI b)],[],0⟩
theorem Zhl{a K0 K1}(c:K0= λe=>K .ret ⟨[(1,.s (.one (.clos 123 []))),(4,vI e)],[],0⟩)(d:K1= λf g=>K (.exit 0) ((Zcs a f).B 9 g))(n b):Zo N a K0 K1 n b=LM Iq N 0 100002 n (Zcs a b) K:=by subst c d;induction n generalizing b;kernel_rfl;rw[Zo];simp only[*];kernel_rfl
theorem Zio(s1:List Y_Root):DN Iq N (s1,())=EZ N s1:=by
 conv=>rhs;rw[EZ];simp(disch:=exact id (by kernel_rfl)) only[Zhl (R:=Unit×Kk) N (CF Iq N [1,0,1,0])]
 kernel_rfl
def Zip:Gd:=GF Iq func158 (λN d=>Zio N d.1)
def Zht:Fn:=⟨f122,Ww,λN=>Sig.of [vf_ Jal,.clos 123 0] [vf_ Jag] (λd=>Ph N d.1),CX [Zip]⟩
def Zhu:Gd:=GF Zht func122
def QM:Fn:=⟨f95,Ww,λN=>Sig.of [vt_ (TY_World)] [vf_ Jag] (λd=>LP N d.1),CX [Zhu]⟩
def QN:Gd:=GF QM func95
def uB:Fn:=⟨f60,λ |5=>cn_ [1,2,4,5,21]|6|100005=>cn_ [1,2,4,5]|7|16|100008=>cn_ [1,2,4,5,25,26,27]|8=>cn_ [1,2,4,5,25,26,27,28]|9|10=>cn_ [1,2,4,5,6,7,25,26,27]|11|14|15|100012=>cn_ [1,2,4,5,6,25,26,27,38,39]|12=>cn_ [1,2,4,5,6,25,26,27,38,39,40]|13=>cn_ [1,2,4,5,6,8,25,26,27,38,39]|_=>[],λN=>Sig.of [vt_ Jo] [vt_ Jn,vf_ Ja] (λd=>lj N d.1),CX [Ff,RL,QN,Zuc]⟩
def Zud(e b:Int)(d:List Kn)(mF c:Int)(a:Kf×List Kn×List Kb)(g h i j l k f m:Int)(n:List Kb)(o:List Int)(p:List Kb)(q:List Y_Root)(r:List Ko):St:=⟨[(1,vP 0 0),(2,vP 1 0),(4,vP 2 0),(5,vI e),(6,vI b),(25,vV Jai d),(26,vI mF),(27,vI b),(38,vI (Wi (List.getD d (Int.toNat b) (([]:List Ka),([]:List Kae))).2)),(39,vI c)],[(0,.box [.val Jl a.1.1,.val Jl a.1.2.1,.val Ja a.1.2.2,.val Jai a.2.1,.val Jv a.2.2]),(1,.box [.val Ja g,.val Ja h,.val Ja i,.nils,.nils,.val Ja j,.nils,.nils,.nils]),(2,.box [.val Ja l,.val Ja k,.val Ja f,.own 3,.own 4,.val Ja m,.own 5,.own 6,.own 7]),(3,.arr Jb n),(4,.arr Ja o),(5,.arr Jb p),(6,.arr Jj q),(7,.arr Jad r)],8⟩
theorem Z3a{b m l mF c e f g h K0}(w:K0= λt u B z C A D v x y E=>K (.exit 4) ((Zud b m l mF t c e f g h B z C A D v x y E).B 40 u))(n a j i d k o p q r s):yC N b m l mF c e f g h K0 n a j i d k o p q r s=LM uB N 2 100012 n (Zud b m l mF a c e f g h j i d k o p q r s) K:=by subst w;induction n generalizing a j i d k o p q r s;kernel_rfl;rw[yC];simp only[*];kernel_rfl
def Zue(b:Int)(k:List Kn)(f:Int)(a:Kf×List Kn×List Kb)(o g d l m h i e:Int)(c:List Kb)(n:List Int)(p:List Kb)(q:List Y_Root)(j:List Ko):St:=⟨[(1,vP 0 0),(2,vP 1 0),(4,vP 2 0),(5,vI b),(25,vV Jai k),(26,vI (Wi a.2.1)),(27,vI f)],[(0,.box [.val Jl a.1.1,.val Jl a.1.2.1,.val Ja a.1.2.2,.val Jai a.2.1,.val Jv a.2.2]),(1,.box [.val Ja o,.val Ja g,.val Ja d,.nils,.nils,.val Ja l,.nils,.nils,.nils]),(2,.box [.val Ja m,.val Ja h,.val Ja i,.own 3,.own 4,.val Ja e,.own 5,.own 6,.own 7]),(3,.arr Jb c),(4,.arr Ja n),(5,.arr Jb p),(6,.arr Jj q),(7,.arr Jad j)],8⟩
theorem Z3b{a k c p g d l K0}(v:K0= λs t u C D w x y z A B=>K (.exit 2) ((Zue a k s c p g d l u C D w x y z A B).B 28 t))(n f m h i e b o q r j):tJ N a k c p g d l K0 n f m h i e b o q r j=LM uB N 1 100008 n (Zue a k f c p g d l m h i e b o q r j) K:=by subst v;induction n generalizing f m h i e b o q r j with|zero=>kernel_rfl|succ n ih=>rw[tJ];simp(disch:=exact id (by kernel_rfl)) only[ih,Z3a N (CL uB N 1 100008 [1,1,0,0,1,1,1,0] n K)];kernel_rfl
def Zuf(j:Int)(a:Kf×List Kn×List Kb)(az c g f:Int)(b:List Kb)(e:List Int)(d:List Kb)(i:List Y_Root)(h:List Ko):St:=⟨[(1,vP 0 0),(2,vP 1 0),(4,vP 2 0),(5,vI j)],[(0,.box [.val Jl a.1.1,.val Jl a.1.2.1,.val Ja a.1.2.2,.val Jai a.2.1,.val Jv a.2.2]),(1,.box [.val Ja (0:Int),.val Ja (0:Int),.val Ja (0:Int),.nils,.nils,.val Ja (0:Int),.nils,.nils,.nils]),(2,.box [.val Ja az,.val Ja c,.val Ja g,.own 3,.own 4,.val Ja f,.own 5,.own 6,.own 7]),(3,.arr Jb b),(4,.arr Ja e),(5,.arr Jb d),(6,.arr Jj i),(7,.arr Jad h)],8⟩
theorem Z3c{e K0}(k:K0= λl q r s t m u v w o p=>K (.exit 0) ((Zuf l e r s t m u v w o p).B 21 q))(n j az b g f a d c i h):tQ N e K0 n j az b g f a d c i h=LM uB N 0 100005 n (Zuf j e az b g f a d c i h) K:=by subst k;induction n generalizing j az b g f a d c i h with|zero=>kernel_rfl|succ n ih=>rw[tQ];simp(disch:=exact id (by kernel_rfl)) only[ih,Z3b N (CL uB N 0 100005 [1,0,1,1,0] n K)];kernel_rfl
theorem Qj(s1:Kf×List Kn×List Kb):DN uB N (s1,())=lj N s1:=by
 conv=>rhs;rw[lj];simp(disch:=exact id (by kernel_rfl)) only[Z3c (R:=Unit×(Y_World×Kk)) N (CF uB N [1,1,1,1,0,0])]
 kernel_rfl
def Zx8:Gd:=GF uB func60 (λN d=>Qj N d.1)
def Z6z:Fn:=⟨f96,Ww,λN=>Sig.of [vt_ (TY_Root)] [vf_ Jag] (λd=>FL N d.1),W3⟩
def Zvv:Gd:=GN Z6z func96
def Z60:Fn:=⟨f125,Ww,λN=>Sig.of [vt_ (TY_Root)] [vf_ Ja] (λd=>FM N d.1),CX [Zvv]⟩
def Z61:Gd:=GF Z60 func125
def Z62:Fn:=⟨f99,Ww,λN=>Sig.of [vt_ (TY_Root),vt_ (TY_Root)] [vf_ Ja] (λd=>K7 N d.1 d.2.1),CX [Z61]⟩
def Z63:Gd:=GF Z62 func99
def Z64:Fn:=⟨f98,Ww,λN=>Sig.of [vf_ Ja,vf_ Ja,.box (TY_World)] [vf_ Ja] (λd=>K8 N d.1 d.2.1 d.2.2.1),CX [Z63]⟩
def Z65:Gd:=GF Z64 func98
def Z5:Fn:=⟨f159,λ |1=>cn_ [0,1,2,3,8,14]|2|100001=>cn_ [0,1,2,3,8]|3|5|6|100004=>cn_ [0,1,2,3,8,9]|4=>cn_ [0,1,2,3,8,9,34]|_=>[],λN=>Sig.of [.mut Ja,vf_ Ja,vf_ Ja,.clos 98 1,.box (TY_World)] [] (λd=>Z9 N d.1 d.2.1 d.2.2.1 d.2.2.2.1),CX [Z65]⟩
def Zdl(b c e f:Int)(a:List Int)(d:Y_World):St:=⟨[(0,vO 0),(1,vI b),(2,vI c),(3,.s (.one (.clos 98 [1]))),(8,vI e),(9,vI f)],[(0,.arr Ja a),(1,.box (split (TY_World) d))],2⟩
theorem Zi4{b c e K0}(j:K0= λg k i h=>K (.exit 2) ((Zdl b c e g i h).B 34 k))(n f a d):Z1 N b c e K0 n f a d=LM Z5 N 1 100004 n (Zdl b c e f a d) K:=by subst j;induction n generalizing f a d;kernel_rfl;rw[Z1];simp only[*];kernel_rfl
def Zdm(a b6 b:Int)(c:List Int)(b9:Y_World):St:=⟨[(0,vO 0),(1,vI a),(2,vI b6),(3,.s (.one (.clos 98 [1]))),(8,vI b)],[(0,.arr Ja c),(1,.box (split (TY_World) b9))],2⟩
theorem Zi5{a b6 K0}(f:K0= λd h e g=>K (.exit 0) ((Zdm a b6 d e g).B 14 h))(n b c b9):Zn N a b6 K0 n b c b9=LM Z5 N 0 100001 n (Zdm a b6 b c b9) K:=by subst f;induction n generalizing b c b9 with|zero=>kernel_rfl|succ n ih=>rw[Zn];simp(disch:=exact id (by kernel_rfl)) only[ih,Zi4 N (CL Z5 N 0 100001 [1,0,0,1,0] n K)];kernel_rfl
theorem Zjw(b:List Int)(a b3:Int)(qd:Y_World):DN Z5 N (b,a,b3,qd,())=Z9 N b a b3 qd:=by
 conv=>rhs;rw[Z9];simp(disch:=exact id (by kernel_rfl)) only[Zi5 (R:=(Ki×(Y_World×Unit))×Unit) N (CF Z5 N [1,0])]
 kernel_rfl
def Zjx:Gd:=GF Z5 func159 (λN d=>Zjw N d.1 d.2.1 d.2.2.1 d.2.2.2.1)
end
end Go.Sx
