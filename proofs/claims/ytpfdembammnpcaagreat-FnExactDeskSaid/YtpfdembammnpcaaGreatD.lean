/- Each Go function does what its Lean function says. -/
import Derived.Test.YtpfdembammnpcaaGreatT2
import Derived.Test.YtpfdembammnpcaaGreatProg
import Derived.Test.YtpfdembammnpcaaGreatLay
open Bool renaming and_eq_true→Xh
namespace Go.Sx
noncomputable section
open Go.Proofs
open Tryz
abbrev Ja:Ty:=.int .i64
abbrev Jb:Ty:=.prod Ja (.prod Ja Ja)
abbrev Jc:Ty:=.own (.prod Ja Ja)
abbrev Jd:Ty:=.own Ja
abbrev Je:Ty:=.slice (.prod Ja Ja)
abbrev Jf:Ty:=.prod (.prod Ja Jb) (.prod (.prod Ja (.prod Ja (.prod Ja (.prod Ja (.prod Ja (.prod Jc Jd)))))) (.prod Ja (.prod Ja (.prod Ja (.prod (.bool) (.prod Jd (.prod Jc (.prod (.own Jb) (.prod Jd (.prod Jc (.own (.prod Ja (.prod Ja (.prod Ja (.prod Ja (.prod Ja (.prod Ja (.prod Jd (.prod (.own Jb) (.prod Jc (.prod (.own (.prod Ja (.prod Ja Jd))) (.prod (.bool) (.prod Ja Jb)))))))))))))))))))))))
abbrev Jg:Ty:=.prod Ja (.prod Ja (.prod (.prod Ja (.own Jb)) (.prod (.prod Jd Ja) (.prod (.own Jb) (.prod (.own (TY_Root)) (.own (.prod Ja (.prod Ja Je))))))))
abbrev Jh:Ty:=.slice (.prod Ja Jb)
abbrev Ji:Ty:=.slice Ja
abbrev Jj:Ty:=.prod (.own (.prod Ja Jb)) (.own (.own (.prod Ja Jb)))
abbrev Jk:Ty:=.prod Ja (.prod Ja (.prod Ja (.prod Ja (.prod Ja (.prod Ja (.prod Ja (.prod Ja (.prod Ja (.prod Ja (.prod Ja (.prod (.bool) (.prod Jd (.prod Jc (.prod Jc (.prod (.own (.prod Ja (.prod Ja (.prod Ja (.prod Ja Jd))))) (.prod (.own Jb) (.prod Jd (.prod (.bool) Jf))))))))))))))))))
abbrev Jl:Ty:=.prod Ja (.prod Ja (.prod Ja (.prod Ja (.prod Ja (.prod Ja (.prod Jd (.prod (.own Jb) (.prod Jc (.prod (.own (.prod Ja (.prod Ja Jd))) (.prod (.bool) (.prod Ja Jb)))))))))))
abbrev Jm:Ty:=.prod Ja (.prod Ja (.prod Ja (.prod Ja (.prod Ja (.prod Je Ji)))))
abbrev Jn:Ty:=.prod Ja (.prod Ja (.prod (.prod Ja (.own Jb)) (.prod (.prod Jd Ja) (.prod (.own Jb) (.prod (.own Jk) (.own (.prod Ja (.prod Ja Jc))))))))
abbrev Jo:Ty:=.slice (.prod Jh (.slice Jh))
abbrev Jp:Ty:=.slice Jb
abbrev Jq:Ty:=.prod (.prod Jd (.prod Jd Ja)) (.prod (.own Jj) (.own Jb))
abbrev Jr:Ty:=.bool
abbrev Js:Ty:=.prod Ja (.prod Ja (.prod Ja (.prod Ja (.prod Ja (.prod Jc Jd)))))
abbrev Jt:Ty:=.prod Ja Ja
abbrev Ju:Ty:=.prod Ja Jb
abbrev Jv:Ty:=.prod Ja (.prod Ja (.prod Ja (.prod Ja (.prod Ja (.prod Ja (.prod Ja (.prod Ja (.prod Ja (.prod Ja (.prod Ja (.prod Jr (.prod Ji (.prod Je (.prod Je (.prod (.slice (.prod Ja (.prod Ja (.prod Ja (.prod Ja Ji))))) (.prod (.own Jb) (.prod Ji (.prod Jr (.prod Ju (.prod Jm (TY_Family)))))))))))))))))))))
abbrev Jw:Ty:=.prod Ja (.prod Ja (.prod Ja (.prod Jr (.prod Ji (.prod Je (.prod Jp (.prod Ji (.prod Je (.own (TY_KidRun))))))))))
abbrev Jx:Ty:=.prod Ja (.prod Ja (.prod Ja (.prod Jr (.prod Jd (.prod Jc (.prod (.own Jb) (.prod Jd (.prod Jc (.own Jl)))))))))
abbrev Jy:Ty:=.prod (.prod Ji (.prod Ji Ja)) (.prod Jo Jp)
abbrev Jz:Ty:=.prod Ja (.own Jb)
abbrev Jaa:Ty:=.str
abbrev Jab:Ty:=.prod Ja (.prod Ja Je)
abbrev Jac:Ty:=.prod Ja (.prod Ja Jc)
abbrev Jad:Ty:=.prod Ja Jp
abbrev Jae:Ty:=.slice (TY_Root)
abbrev Jaf:Ty:=.prod Jh (.slice Jh)
abbrev Jag:Ty:=.prod Ja (.prod Ja (.prod Ja (.prod Jr (.prod Jd (.prod Jc (.prod (.own Jb) (.prod Jd (.prod Jc (.own (TY_KidRun))))))))))
abbrev Jah:Ty:=.prod Ji Ja
abbrev Jai:Ty:=.prod Ja (.prod Ja Ji)
abbrev Jaj:Ty:=.prod Ja (.prod Ja Jd)
abbrev Jak:Ty:=.prod Ja (.prod Ja (.prod Ja Ju))
abbrev Jal:Ty:=.slice (TY_KidRun)
abbrev Jam:Ty:=.int .u8
abbrev Jan:Ty:=.prod Jd Ja
abbrev Jao:Ty:=.slice Jh
abbrev Jap:Ty:=.own Jb
set_option linter.unusedVariables false
set_option linter.unusedSimpArgs false
def tab:Tab:=[(3,⟨.int .i64,false,.basic⟩),(4,⟨.bool,false,.basic⟩),(5,⟨.int .u8,false,.basic⟩),(9,⟨.str,false,.basic⟩),(24,⟨.slice Jaa,false,.slice 9⟩),(26,⟨.slice Ja,false,.slice 3⟩),(28,⟨.prod Ji Jah,true,.struct [(0,26),(1,26),(2,3)]⟩),(29,⟨.slice Jaf,false,.slice 57⟩),(30,⟨.slice Jb,false,.slice 63⟩),(32,⟨.prod (.prod Ji Jah) (.prod Jo Jp),true,.struct [(0,28),(3,29),(4,30)]⟩),(37,⟨.prod Ja Jb,true,.struct [(0,3),(1,3),(2,3),(3,3)]⟩),(54,⟨.slice Ju,false,.slice 37⟩),(55,⟨.slice Jh,false,.slice 59⟩),(57,⟨.prod Jh Jao,true,.struct [(0,54),(1,55)]⟩),(59,⟨.slice Ju,true,.struct [(0,54)]⟩),(63,⟨.prod Ja Jt,true,.struct [(0,3),(1,3),(2,3)]⟩),(67,⟨.slice Jb,false,.slice 99⟩),(69,⟨.prod Ja Jp,true,.struct [(0,3),(1,67)]⟩),(71,⟨.prod Ji Ja,true,.struct [(0,26),(1,3)]⟩),(72,⟨.slice Jb,false,.slice 205⟩),(73,⟨.slice (TY_Root),false,.slice 94⟩),(74,⟨.slice Jab,false,.slice 186⟩),(76,⟨TY_World,true,.struct [(0,3),(1,3),(2,69),(4,71),(6,72),(7,73),(8,74)]⟩),(80,⟨.prod Ja (.prod Ja (.prod Ja Ju)),true,.struct [(0,3),(1,3),(2,3),(3,3),(4,3),(5,3),(6,3)]⟩),(82,⟨.slice Jt,false,.slice 173⟩),(83,⟨.slice (.prod Ja (.prod Ja Jai)),false,.slice 161⟩),(84,⟨.slice Jb,false,.slice 190⟩),(86,⟨.prod Ja Jb,true,.struct [(0,3),(1,3),(2,3),(3,3)]⟩),(88,⟨.prod Ja (.prod Ja (.prod Ja (.prod Ja (.prod Ja (.prod Je Ji))))),true,.struct [(0,3),(1,3),(2,3),(3,3),(4,3),(5,82),(6,26)]⟩),(89,⟨.slice Jb,false,.slice 154⟩),(90,⟨.slice (TY_KidRun),false,.slice 149⟩),(92,⟨TY_Family,true,.struct [(0,3),(1,3),(2,3),(3,4),(4,26),(5,82),(6,89),(7,26),(8,82),(9,90)]⟩),(94,⟨TY_Root,true,.struct [(0,3),(1,3),(2,3),(3,3),(4,3),(5,3),(6,3),(7,3),(8,3),(9,3),(10,3),(11,4),(12,26),(13,82),(14,82),(15,83),(16,84),(17,26),(18,4),(19,86),(23,88),(30,92)]⟩),(99,⟨.prod Ja Jt,true,.struct [(0,3),(1,3),(2,3)]⟩),(101,⟨.int .i64,true,.arr 3 3⟩),(105,⟨.slice Jam,false,.slice 5⟩),(125,⟨.slice Jr,false,.slice 4⟩),(140,⟨.bool,true,.arr 8 4⟩),(147,⟨.slice Jai,false,.slice 193⟩),(149,⟨TY_KidRun,true,.struct [(0,3),(1,3),(2,3),(3,3),(4,3),(5,3),(6,26),(7,89),(8,82),(9,147),(10,4),(11,86)]⟩),(154,⟨.prod Ja Jt,true,.struct [(0,3),(1,3),(2,3)]⟩),(161,⟨.prod Ja (.prod Ja Jai),true,.struct [(0,3),(1,3),(2,3),(3,3),(4,26)]⟩),(173,⟨.prod Ja Ja,true,.struct [(0,3),(1,3)]⟩),(186,⟨.prod Ja (.prod Ja Je),true,.struct [(0,3),(1,3),(2,82)]⟩),(190,⟨.prod Ja Jt,true,.struct [(0,3),(1,3),(2,3)]⟩),(193,⟨.prod Ja (.prod Ja Ji),true,.struct [(0,3),(1,3),(2,26)]⟩),(205,⟨.prod Ja Jt,true,.struct [(0,3),(1,3),(2,3)]⟩)]
theorem mixedOk:Tryz.prog.follows .mixedOrders=true:=by kernel_rfl
theorem tabOk:ao Tryz.prog tab:=Wx3 (show DJ Tryz.prog tab tab=true by kernel_rfl)
def LM(x:Fn)(N:Nat){R:Type}(i k n:Nat)(st:St)(K:Ex->St->Option R):Option R:=lpM tab (x.c N) x.a N x.F i k n st K
def CF(x:Fn)(N:Nat)(p:List Nat):Ex->St->Option (Qs (x.s N)):=cxF tab (x.c N) x.a N (x.s N) x.F p
def CL(x:Fn)(N:Nat){R:Type}(i k:Nat)(p:List Nat)(n:Nat)(K:Ex->St->Option R):Ex->St->Option R:=cxL tab (x.c N) x.a N x.F i k p n K
def DN(x:Fn)(N:Nat)(d:cu (x.s N).ps):Option (Qs (x.s N)):=den (R:=Qs (x.s N)) tab (x.c N) x.a N (x.s N) x.F d some
def GW(k:FuncId)(s:Sig):Prop:=Dl Tryz.prog k/\vr Tryz.prog k s
theorem GC{k:FuncId}{s:Sig}{Γ:Ctx}(h:GW k s)(a:ez Tryz.prog Γ):ez Tryz.prog ((k,s)::Γ):=Wu8 h.2 h.1 a
structure Gd where
  k:FuncId
  s:Nat->Sig
  h:∀N,GW k (s N)
def CX(l:List Gd)(N:Nat):Ctx:=l.map λg=>(g.k,g.s N)
theorem CO(N:Nat):∀(l:List Gd),ez Tryz.prog (CX l N)
  | []=>MR
  |g::l=>GC (g.h N) (CO N l)
theorem GR(x:Fn){k:FuncId}(N:Nat)(b:Tryz.prog.funcs[k]?=some x.F)(f:ez Tryz.prog (x.c N))(h:∀d,DN x N d=(x.s N).run d:=by intro d;kernel_rfl)(a:(vl x.F&&Dt x.F (x.s N).ps)=true:=by kernel_rfl)(hi:(x.s N).inl=none:=by rfl):GW k (x.s N):=
  ⟨Ft b (Xh .. ▸a).1,Wym hi (Wr5 mixedOk tabOk f b (Xh .. ▸a).2 (λd _ e=>⟨N,(h d).trans e⟩))⟩
def GF(x:Fn){k:FuncId}(e:Tryz.prog.funcs[k]?=some x.F)(h:∀N d,DN x N d=(x.s N).run d:=by intro N d;kernel_rfl)(b:∀N,ez Tryz.prog (x.c N):=by exactλN=>CO N _)(a:∀N,(vl x.F&&Dt x.F (x.s N).ps)=true:=by intro N;kernel_rfl)(hi:∀N,(x.s N).inl=none:=by intro N;rfl):Gd:=
  ⟨k,x.s,λN=>GR x N e (b N) (h N) (a N) (hi N)⟩
def GN(x:Fn){k:FuncId}(e:Tryz.prog.funcs[k]?=some x.F)(h:∀N d,DN x N d=(x.s N).run d:=by intro N d;kernel_rfl)(b:∀N,ez Tryz.prog (x.c N):=by exactλN=>MR)(a:∀N,(vl x.F&&Dt x.F (x.s N).ps)=true:=by intro N;kernel_rfl)(hi:∀N,(x.s N).inl=none:=by intro N;rfl):Gd:=GF x e h b a hi
abbrev cn_(l:List Nat):List Ghost:=[.canon l]
abbrev vf_(t:Ty):PTy:=.v t false
abbrev vt_(t:Ty):PTy:=.v t true
variable(N:Nat){R:Type}(K:Ex->St->Option R)
def Io:Fn:=⟨f6,λ |4=>cn_ [0,1,5,6,7,12]|5=>cn_ [0,1,5,6,7]|6=>cn_ [0,1,5,6,7,19]|7=>cn_ [0,1,5,7]|8=>cn_ [0,1,5,6,7]|100004=>cn_ [0,1,5,6,7]|_=>[],λN=>Sig.of [vf_ Jaa,vf_ Jam] [vf_ (.own Jaa)] (λd=>tD N d.1 d.2.1),W5⟩
def Zv3(e:List UInt8)(b a c:Int)(d:List Kh):St:=⟨[(0,vV Jaa e),(1,vV Jam b),(5,vO 0),(6,vI a),(7,vI c)],[(0,.arr Jaa d)],1⟩
def Ztw(f:List UInt8)(c d e:Int)(a:Bool)(b:List Kh):St:=⟨[(0,vV Jaa f),(1,vV Jam c),(5,vO 0),(6,vI d),(7,vI e),(12,vB a)],[(0,.arr Jaa b)],1⟩
theorem Zv4{e:List UInt8}{b:Int}{K0:Int->Int->Bool->Kz->Option R}(i:K0= λh j f g=>K (.exit 0) (Ztw e b h j f g))(n a c d):ww N e b K0 n a c d=LM Io N 0 100004 n (Zv3 e b a c d) K:=by subst i;induction n generalizing a c d;kernel_rfl;rw[ww];simp only[*];kernel_rfl
theorem Z6h(a:List UInt8)(vc:Int):DN Io N (a,vc,())=tD N a vc:=by
 conv=>rhs;rw[tD];simp(disch:=exact id (by kernel_rfl)) only[Zv4 (R:=Unit×(Kz×Unit)) N (CF Io N [1,1,1,0,1,0])]
 kernel_rfl
def Qr:Gd:=GN Io func6 (λN d=>Z6h N d.1 d.2.1)
def Z6i:Fn:=⟨f25,Wy,λN=>Sig.of [] [vf_ (.own Jaa)] (λd=>JE N),W5⟩
def Zrp:Gd:=GN Z6i func25
def Z9k:Fn:=⟨f26,Wy,λN=>Sig.of [vf_ Ja] [vf_ Ja] (λd=>J3 N d.1),W5⟩
def Zsr:Gd:=GN Z9k func26
def JV:Fn:=⟨f28,λ |5=>cn_ [0,3,4,11]|6=>cn_ [0,3,4,5]|7=>cn_ [0,3,4,5,15]|8=>cn_ [0,3,4,5]|9=>cn_ [0,3,4]|10=>cn_ [0,3,4]|100005=>cn_ [0,3,4]|_=>[],λN=>Sig.of [vf_ Ja] [vf_ Jaa] (λd=>Z6 N d.1),W5⟩
theorem Z6k{b:Bool}{K0:Int->Kh->Bool->Option R}(d:K0= λe f g=>K (.exit 0) ⟨[(0,vI e),(3,vV Jaa f),(4,vB b),(11,vB g)],[],0⟩)(n c a):x5 N b K0 n c a=LM JV N 0 100005 n ⟨[(0,vI c),(3,vV Jaa a),(4,vB b)],[],0⟩ K:=by subst d;induction n generalizing c a;kernel_rfl;refine (x5.eq_2 ..).trans ?_;simp only[*];kernel_rfl
theorem Qb(n1:Int):DN JV N (n1,())=Z6 N n1:=by
 conv=>rhs;rw[Z6];simp(disch:=exact id (by kernel_rfl)) only[Z6k (R:=Unit×Kv) N (CF JV N [1,1,1,1,0,0])]
 kernel_rfl
def JW:Gd:=GN JV func28 (λN d=>Qb N d.1)
def Ip:Fn:=⟨f13,λ |4=>cn_ [0,4,5,6,14]|5=>cn_ [0,4,5,6]|6=>cn_ [0,4,5,6,26]|7=>cn_ [0,4,5,6]|8=>cn_ [0,4,5,6]|100004=>cn_ [0,4,5,6]|_=>[],λN=>Sig.of [vf_ Jaa] [vf_ Ja,vf_ Jr] (λd=>kj N d.1),CX [JW]⟩
theorem Zv6{d:List UInt8}{K0}(e:K0= λh g f i=>K (.exit 0) ⟨[(0,vV Jaa d),(4,vI h),(5,vI g),(6,vI f),(14,vB i)],[],0⟩)(n c b a):n9 N d K0 n c b a=LM Ip N 0 100004 n ⟨[(0,vV Jaa d),(4,vI c),(5,vI b),(6,vI a)],[],0⟩ K:=by subst e;induction n generalizing c b a;kernel_rfl;rw[n9];simp only[*];kernel_rfl
theorem Z6l(s1:List UInt8):DN Ip N (s1,())=kj N s1:=by
 conv=>rhs;rw[kj];simp(disch:=exact id (by kernel_rfl)) only[Zv6 (R:=Unit×Ky) N (CF Ip N [1,1,1,0,1,0])]
 kernel_rfl
def Zrq:Gd:=GF Ip func13 (λN d=>Z6l N d.1)
def PI:Fn:=⟨f32,Wy,λN=>Sig.of [vf_ Ja,vf_ Ja,vf_ Ja] [vf_ Jr] (λd=>Za N d.1 d.2.1 d.2.2.1),W5⟩
def Z9:Gd:=GN PI func32
def O0:Fn:=⟨f88,Wy,λN=>Sig.of [vf_ Ja] [vf_ Jr] (λd=>kn N d.1),CX [Z9]⟩
def O1:Gd:=GF O0 func88
def O2:Fn:=⟨f30,Wy,λN=>Sig.of [vf_ Ja] [vf_ Jr] (λd=>fu N d.1),CX [Z9]⟩
def lK:Gd:=GF O2 func30
def Z9l:Fn:=⟨f29,Wy,λN=>Sig.of [vf_ Ja] [vf_ Jr] (λd=>km N d.1),CX [Z9]⟩
def tp:Gd:=GF Z9l func29
def PJ:Fn:=⟨f60,Wy,λN=>Sig.of [vt_ Ju] [vf_ Jr] (λd=>tJ N d.1),CX [O1,lK,tp,Z9]⟩
def J4:Gd:=GF PJ func60
def Z9m:Fn:=⟨f27,Wy,λN=>Sig.of [vt_ Ju] [vf_ Jaa] (λd=>B4 N d.1),CX [J4,Zrp,Zsr,JW]⟩
def Z9n:Gd:=GF Z9m func27
def A6:Fn:=⟨f10,λ |5=>cn_ [0,2,4,5,6,7,18]|6=>cn_ [0,2,4,5,6,7]|7=>cn_ [0,2,4,5,6,7,28]|8=>cn_ [0,2,4,5,6,7]|12=>cn_ [0,2,4,5,8,47]|13=>cn_ [0,2,4,5,8]|14=>cn_ [0,2,4,5,8,9,10]|15=>cn_ [0,2,4,5,8,9,59]|16=>cn_ [2,3]|17=>cn_ [0,2,4,5,8,9,61]|18=>cn_ [0,2,4,5,8]|19=>cn_ [0,2,4,5,8,9,61,64]|20=>cn_ [0,2,4,5,8]|21=>cn_ [0,2,4,5,8,9,68]|22=>cn_ [0,2,4,5,8]|100005=>cn_ [0,2,4,5,6,7]|100012=>cn_ [0,2,4,5,8]|_=>[],λN=>Sig.of [vf_ Jaa] [vt_ Ju,vf_ Jr] (λd=>ya N d.1),CX [Qr,Zrp,Zsr,Zrq,Z9n]⟩
def Zze(e:List UInt8)(d:Int)(c:List Kh)(a:Int)(b:List Kh):St:=⟨[(0,vV Jaa e),(2,vP 0 0),(4,vO 1),(5,vP 2 0),(6,vO 3),(7,vI d)],[(0,.box [.val Ja (0:Int),.val Ja (0:Int),.val Ja (0:Int),.val Ja (0:Int)]),(1,.arr Jaa c),(2,.box [.val Ja a,.val Ja (0:Int),.val Ja (0:Int),.val Ja (0:Int)]),(3,.arr Jaa b)],4⟩
def Zv7(e:List UInt8)(c a:List Kh)(k16:Int)(d:Bool)(b:Int):St:=⟨[(0,vV Jaa e),(2,vP 0 0),(4,vO 1),(5,vP 2 0),(6,vO 3),(7,vI k16),(18,vB d)],[(0,.box [.val Ja (0:Int),.val Ja (0:Int),.val Ja (0:Int),.val Ja (0:Int)]),(1,.arr Jaa c),(2,.box [.val Ja b,.val Ja (0:Int),.val Ja (0:Int),.val Ja (0:Int)]),(3,.arr Jaa a)],4⟩
theorem Zzf{e:List UInt8}{c b:List Kh}{K0}(h:K0= λk16 g f=>K (.exit 0) (Zv7 e c b k16 g f))(n d a):w7 N e c b K0 n d a=LM A6 N 0 100005 n (Zze e d c a b) K:=by subst h;induction n generalizing d a;kernel_rfl;rw[w7];simp only[*];kernel_rfl
def Zzg(g:List UInt8)(f:Int)(d:List Kh)(a b e c:Int):St:=⟨[(0,vV Jaa g),(2,vP 0 0),(4,vO 1),(5,vP 2 0),(8,vI f)],[(0,.box [.val Ja (0:Int),.val Ja (0:Int),.val Ja (0:Int),.val Ja (0:Int)]),(1,.arr Jaa d),(2,.box [.val Ja a,.val Ja b,.val Ja e,.val Ja c])],3⟩
def Zv8(c:List UInt8)(b:List Kh)(a:Int):St:=⟨[(2,vP 0 0),(3,vB false)],[(0,.box [.val Ja (0:Int),.val Ja (0:Int),.val Ja (0:Int),.val Ja (0:Int)])],1⟩
def Zv9(g:List UInt8)(c:List Kh)(b h:Int)(f:Bool)(e a d:Int):St:=⟨[(0,vV Jaa g),(2,vP 0 0),(4,vO 1),(5,vP 2 0),(8,vI h),(47,vB f)],[(0,.box [.val Ja (0:Int),.val Ja (0:Int),.val Ja (0:Int),.val Ja (0:Int)]),(1,.arr Jaa c),(2,.box [.val Ja b,.val Ja e,.val Ja a,.val Ja d])],3⟩
theorem Zzh{c:List UInt8}{b:List Kh}{a:Int}{K0 K1}(i:K0=K .ret (Zv8 c b a))(j:K1= λo m l h k=>K (.exit 2) (Zv9 c b a o m l h k))(n g d f e):od N c b a K0 K1 n g d f e=LM A6 N 1 100012 n (Zzg c g b a d f e) K:=by subst i j;induction n generalizing g d f e;kernel_rfl;rw[od];simp only[*];kernel_rfl
theorem Z9o(s1:List UInt8):DN A6 N (s1,())=ya N s1:=by
 conv=>rhs;rw[ya];simp(disch:=exact id (by kernel_rfl)) only[Zzf (R:=Unit×(Ka×Kf)) N (CF A6 N [1,1,1,1,0,1,0]),Zzh (R:=Unit×(Ka×Kf)) N (CF A6 N [1,1,1,1,1,1,0,1,0])]
 kernel_rfl
def Z9p:Gd:=GF A6 func10 (λN d=>Z9o N d.1)
def O3:Fn:=⟨f11,λ |4=>[.opn 24]|10=>[.opn 62]|_=>[],λN=>Sig.of [vt_ Jq,vt_ Ju] [vt_ Jq,vf_ Jaa] (λd=>JU N d.1 d.2.1),W5⟩
def O4:Gd:=GN O3 func11
def Z6m:Fn:=⟨f12,Wy,λN=>Sig.of [vf_ Jaa] [vf_ Ja] (λd=>xU N d.1),W5⟩
def Z6n:Gd:=GN Z6m func12
def Z9q:Fn:=⟨f31,Wy,λN=>Sig.of [vf_ Ja] [vf_ Jr] (λd=>jl N d.1),CX [Z9]⟩
def xM:Gd:=GF Z9q func31
def Z4x:Fn:=⟨f14,λ |10=>[.nest 49 Jj]|13=>[.opn 64]|15=>[.nest 81 (.own Ju)]|_=>[],λN=>Sig.of [vt_ Jq,vf_ Jaa,vf_ Ji] [vt_ Jq,vf_ Jr] (λd=>Z7 N d.1 d.2.1 d.2.2.1),CX [tp,lK,xM]⟩
def Z4y:Gd:=GF Z4x func14
def Z9r:Fn:=⟨f15,Wy,λN=>Sig.of [vf_ Jr] [vf_ Jaa] (λd=>Zj N d.1),W5⟩
def Z9s:Gd:=GN Z9r func15
def IW:Fn:=⟨f61,λ |4=>cn_ [0,3,10]|5=>cn_ [0,3]|6=>cn_ [0,3,18]|7=>cn_ [2]|100004=>cn_ [0,3]|_=>[],λN=>Sig.of [vf_ Ji] [vf_ Jr] (λd=>yc N d.1),CX [lK]⟩
theorem Zzj{l2:List Int}{K0 K1}(b:K0=K .ret ⟨[(2,vB false)],[],0⟩)(c:K1= λd e=>K (.exit 0) ⟨[(0,vV Ji l2),(3,vI d),(10,vB e)],[],0⟩)(n a):wW N l2 K0 K1 n a=LM IW N 0 100004 n ⟨[(0,vV Ji l2),(3,vI a)],[],0⟩ K:=by subst b c;induction n generalizing a;kernel_rfl;rw[wW];simp only[*];kernel_rfl
theorem Z9t(l1:List Int):DN IW N (l1,())=yc N l1:=by
 conv=>rhs;rw[yc];simp(disch:=exact id (by kernel_rfl)) only[Zzj (R:=Unit×Kf) N (CF IW N [1,1,0,1,0])]
 kernel_rfl
def Zss:Gd:=GF IW func61 (λN d=>Z9t N d.1)
def H2:Fn:=⟨f33,λ |4=>cn_ [1,3,24]|5=>cn_ [1,3]|6=>cn_ [1,3,33]|7=>cn_ [2]|100004=>cn_ [1,3]|_=>[],λN=>Sig.of [vt_ (.prod Ji Jah)] [vf_ Jr] (λd=>A4 N d.1),CX [Zss,lK,Z9]⟩
def Zty(b:Int)(a:List Int×List Int×Int):St:=⟨[(1,vP 0 0),(3,vI b)],[(0,.box [.val Ji a.1,.val Ji a.2.1,.val Ja a.2.2])],1⟩
def Zs2(a:List Int×List Int×Int)(b:Int)(c:Bool):St:=⟨[(1,vP 0 0),(3,vI b),(24,vB c)],[(0,.box [.val Ji a.1,.val Ji a.2.1,.val Ja a.2.2])],1⟩
theorem Ztz{a:List Int×List Int×Int}{K0 K1}(c:K0=K .ret ⟨[(2,vB false)],[],0⟩)(d:K1= λe f=>K (.exit 0) (Zs2 a e f))(n b):sD N a K0 K1 n b=LM H2 N 0 100004 n (Zty b a) K:=by subst c d;induction n generalizing b;kernel_rfl;rw[sD];simp only[*];kernel_rfl
theorem Z4z(s1:List Int×List Int×Int):DN H2 N (s1,())=A4 N s1:=by
 conv=>rhs;rw[A4];simp(disch:=exact id (by kernel_rfl)) only[Ztz (R:=Unit×Kf) N (CF H2 N [1,1,0,1,0])]
 kernel_rfl
def Z40:Gd:=GF H2 func33 (λN d=>Z4z N d.1)
def IX:Fn:=⟨f89,λ |6=>cn_ [0,5,6,7,24]|7=>cn_ [0,5,6,7]|8=>cn_ [0,5,6,7,32]|9=>cn_ [0,5,6,7]|10=>cn_ [0,5,6,7,40]|11=>cn_ [0,5,6,7]|12=>cn_ [0,5,6,7,44]|13=>cn_ [4]|100006=>cn_ [0,5,6,7]|_=>[],λN=>Sig.of [vf_ Jh,vf_ Ja] [vf_ Jr] (λd=>B5 N d.1 d.2.1),W5⟩
theorem Zzl{a:List Ka}{c:Int}{K0 K1}(f:K0=K .ret ⟨[(4,vB false)],[],0⟩)(g:K1= λe h i=>K (.exit 0) ⟨[(0,vV Jh a),(5,vI c),(6,vI e),(7,vI h),(24,vB i)],[],0⟩)(n b d):mG N a c K0 K1 n b d=LM IX N 0 100006 n ⟨[(0,vV Jh a),(5,vI c),(6,vI b),(7,vI d)],[],0⟩ K:=by subst f g;induction n generalizing b d;kernel_rfl;rw[mG];simp only[*];kernel_rfl
theorem Z9u(a:List Ka)(i2:Int):DN IX N (a,i2,())=B5 N a i2:=by
 conv=>rhs;rw[B5];simp(disch:=exact id (by kernel_rfl)) only[Zzl (R:=Unit×Kf) N (CF IX N [1,1,1,1,0,1,0])]
 kernel_rfl
def Z9v:Gd:=GN IX func89 (λN d=>Z9u N d.1 d.2.1)
def IY:Fn:=⟨f62,λ |6=>cn_ [0,3,4,5,12]|7=>cn_ [0,3,4,5]|8=>cn_ [0,3,4,5,20]|9=>cn_ [2]|10=>cn_ [0,3,4,5,25]|11=>cn_ [0,3,4,5,25,26]|12=>cn_ [0,3,4,5]|13=>cn_ [0,3,4,5,25,30]|14=>cn_ [0,3,4,5]|15=>cn_ [0,3,4,5,25,34]|16=>cn_ [0,3,4,5,39]|17=>cn_ [2]|18=>cn_ [0,3,4,5,40]|19=>cn_ [0,3,4,5]|20=>cn_ [0,3,4,5,49]|21=>cn_ [2]|22=>cn_ [0,3,4,5,51]|23=>cn_ [2]|100006=>cn_ [0,3,4,5]|_=>[],λN=>Sig.of [vf_ Jh] [vf_ Jr] (λd=>yd N d.1),CX [J4,Z9v]⟩
theorem Zzn{b:List Ka}{K0 K1}(h:K0=K .ret ⟨[(2,vB false)],[],0⟩)(i:K1= λf j g e=>K (.exit 0) ⟨[(0,vV Jh b),(3,vI f),(4,vI j),(5,vI g),(12,vB e)],[],0⟩)(n c a d):mH N b K0 K1 n c a d=LM IY N 0 100006 n ⟨[(0,vV Jh b),(3,vI c),(4,vI a),(5,vI d)],[],0⟩ K:=by subst h i;induction n generalizing c a d;kernel_rfl;rw[mH];simp only[*];kernel_rfl
theorem Z9w(ak:List Ka):DN IY N (ak,())=yd N ak:=by
 conv=>rhs;rw[yd];simp(disch:=exact id (by kernel_rfl)) only[Zzn (R:=Unit×Kf) N (CF IY N [1,1,1,1,0,1,0])]
 kernel_rfl
def Zst:Gd:=GF IY func62 (λN d=>Z9w N d.1)
def Iq:Fn:=⟨f63,λ |2=>cn_ [0,3,7]|3=>cn_ [0,3]|4=>cn_ [0,3,15]|5=>cn_ [2]|100002=>cn_ [0,3]|_=>[],λN=>Sig.of [vf_ Jh] [vf_ Jr] (λd=>xV N d.1),W5⟩
theorem Zwh{a:List Ka}{K0 K1}(c:K0=K .ret ⟨[(2,vB true)],[],0⟩)(d:K1= λe f=>K (.exit 0) ⟨[(0,vV Jh a),(3,vI e),(7,vB f)],[],0⟩)(n b):wJ N a K0 K1 n b=LM Iq N 0 100002 n ⟨[(0,vV Jh a),(3,vI b)],[],0⟩ K:=by subst c d;induction n generalizing b;kernel_rfl;rw[wJ];simp only[*];kernel_rfl
theorem Z6o(ak:List Ka):DN Iq N (ak,())=xV N ak:=by
 conv=>rhs;rw[xV];simp(disch:=exact id (by kernel_rfl)) only[Zwh (R:=Unit×Kf) N (CF Iq N [1,0,1,0])]
 kernel_rfl
def Zrr:Gd:=GN Iq func63 (λN d=>Z6o N d.1)
def Z6p:Fn:=⟨f90,Wy,λN=>Sig.of [vt_ Ju] [vf_ Ja] (λd=>lL N d.1),CX [J4]⟩
def Qt:Gd:=GF Z6p func90
def JH:Fn:=⟨f64,λ |4=>cn_ [0,3,14]|5=>cn_ [0,3]|6=>cn_ [0,3,22]|7=>cn_ [2]|100004=>cn_ [0,3]|_=>[],λN=>Sig.of [vf_ Jh] [vf_ Jr] (λd=>yl N d.1),CX [Zst,Zrr,Qt]⟩
theorem Z16{a:List Ka}{K0 K1}(c:K0=K .ret ⟨[(2,vB false)],[],0⟩)(d:K1= λe f=>K (.exit 0) ⟨[(0,vV Jh a),(3,vI e),(14,vB f)],[],0⟩)(n b):xb N a K0 K1 n b=LM JH N 0 100004 n ⟨[(0,vV Jh a),(3,vI b)],[],0⟩ K:=by subst c d;induction n generalizing b;kernel_rfl;rw[xb];simp only[*];kernel_rfl
theorem O5(ak:List Ka):DN JH N (ak,())=yl N ak:=by
 conv=>rhs;rw[yl];simp(disch:=exact id (by kernel_rfl)) only[Z16 (R:=Unit×Kf) N (CF JH N [1,1,0,1,0])]
 kernel_rfl
def O6:Gd:=GF JH func64 (λN d=>O5 N d.1)
def IZ:Fn:=⟨f34,λ |4=>cn_ [1,3,28]|5=>cn_ [1,3]|6=>cn_ [1,3,38]|7=>cn_ [2]|100004=>cn_ [1,3]|_=>[],λN=>Sig.of [vt_ Jaf] [vf_ Jr] (λd=>yf N d.1),CX [Zst,Zrr,O6]⟩
def Zzq(b:Int)(a:List Ka×List Kaa):St:=⟨[(1,vP 0 0),(3,vI b)],[(0,.box [.val Jh a.1,.val Jao a.2])],1⟩
def Zwj(a:List Ka×List Kaa)(b:Int)(c:Bool):St:=⟨[(1,vP 0 0),(3,vI b),(28,vB c)],[(0,.box [.val Jh a.1,.val Jao a.2])],1⟩
theorem Zzr{a:List Ka×List Kaa}{K0 K1}(c:K0=K .ret ⟨[(2,vB false)],[],0⟩)(d:K1= λe f=>K (.exit 0) (Zwj a e f))(n b):sy N a K0 K1 n b=LM IZ N 0 100004 n (Zzq b a) K:=by subst c d;induction n generalizing b;kernel_rfl;rw[sy];simp only[*];kernel_rfl
theorem Z9x(p1:List Ka×List Kaa):DN IZ N (p1,())=yf N p1:=by
 conv=>rhs;rw[yf];simp(disch:=exact id (by kernel_rfl)) only[Zzr (R:=Unit×Kf) N (CF IZ N [1,1,0,1,0])]
 kernel_rfl
def Z9y:Gd:=GF IZ func34 (λN d=>Z9x N d.1)
def H3:Fn:=⟨f17,λ |4=>cn_ [1,3,24]|5=>cn_ [1,3]|6=>cn_ [1,3,33]|7=>cn_ [2]|100004=>cn_ [1,3]|_=>[],λN=>Sig.of [vt_ Jy] [vf_ Jr] (λd=>Ze N d.1),CX [Z40,Z9y]⟩
def Zt2(a:Int)(b4:Ke×List Kn×List Kb):St:=⟨[(1,vP 0 0),(3,vI a)],[(0,.box [.val Ji b4.1.1,.val Ji b4.1.2.1,.val Ja b4.1.2.2,.val Jo b4.2.1,.val Jp b4.2.2])],1⟩
def Zs4(b4:Ke×List Kn×List Kb)(a:Int)(b:Bool):St:=⟨[(1,vP 0 0),(3,vI a),(24,vB b)],[(0,.box [.val Ji b4.1.1,.val Ji b4.1.2.1,.val Ja b4.1.2.2,.val Jo b4.2.1,.val Jp b4.2.2])],1⟩
theorem Zt3{b4:Ke×List Kn×List Kb}{K0 K1}(b:K0=K .ret ⟨[(2,vB false)],[],0⟩)(c:K1= λd e=>K (.exit 0) (Zs4 b4 d e))(n a):sE N b4 K0 K1 n a=LM H3 N 0 100004 n (Zt2 a b4) K:=by subst b c;induction n generalizing a;kernel_rfl;rw[sE];simp only[*];kernel_rfl
theorem Z41(s1:Ke×List Kn×List Kb):DN H3 N (s1,())=Ze N s1:=by
 conv=>rhs;rw[Ze];simp(disch:=exact id (by kernel_rfl)) only[Zt3 (R:=Unit×Kf) N (CF H3 N [1,1,0,1,0])]
 kernel_rfl
def Qm:Gd:=GF H3 func17 (λN d=>Z41 N d.1)
def O7:Fn:=⟨f16,Wy,λN=>Sig.of [vt_ Jq,vf_ Jaa,vf_ Ji] [vt_ Jq,vf_ Jr] (λd=>Zt N d.1 d.2.1 d.2.2.1),CX [Qm,Z9]⟩
def O8:Gd:=GF O7 func16
def I0:Fn:=⟨f91,λ |5=>cn_ [0,2,4,5,14]|6=>cn_ [0,2,4,5]|7=>cn_ [0,2,4,5]|100005=>[.adoptC 4 1 Jb,.canon [0,2,4,5]]|_=>[],λN=>Sig.of [vf_ Ji] [vt_ Jz,vf_ Jr] (λd=>B6 N d.1),CX [Zss]⟩
def Zzs(l3:List Int)(a:Int)(b:List Kb):St:=⟨[(0,vV Ji l3),(2,vP 0 0),(4,vP 1 0),(5,vI a)],[(0,.box [.val Ja (0:Int),.nils]),(1,.box [.val Ja (0:Int),.own 2]),(2,.arr Jb b)],3⟩
def Zwk(l3:List Int)(b:Int)(c:Bool)(a:List Kb):St:=⟨[(0,vV Ji l3),(2,vP 0 0),(4,vP 1 0),(5,vI b),(14,vB c)],[(0,.box [.val Ja (0:Int),.nils]),(1,.box [.val Ja (0:Int),.own 2]),(2,.arr Jb a)],3⟩
theorem Zzt{l3:List Int}{K0:Int->Bool->Ks->Option R}(d:K0= λe f c=>K (.exit 0) (Zwk l3 e f c))(n a b):wZ N l3 K0 n a b=LM I0 N 0 100005 n (Zzs l3 a b) K:=by subst d;induction n generalizing a b;kernel_rfl;rw[wZ];simp only[*];kernel_rfl
theorem Z9z(l1:List Int):DN I0 N (l1,())=B6 N l1:=by
 conv=>rhs;rw[B6];simp(disch:=exact id (by kernel_rfl)) only[Zzt (R:=Unit×(Ku×Kf)) N (CF I0 N [1,1,1,0,1,0])]
 kernel_rfl
def Z90:Gd:=GF I0 func91 (λN d=>Z9z N d.1)
def Z6q:Fn:=⟨f118,Wy,λN=>Sig.of [] [vf_ Jd] (λd=>QD N),W5⟩
def Z6r:Gd:=GN Z6q func118
def Z6s:Fn:=⟨f156,Wy,λN=>Sig.of [vf_ Ji] [vf_ Jd] (λd=>x6 N d.1),W5⟩
def Ir:Gd:=GN Z6s func156
def Z6t:Fn:=⟨f96,Wy,λN=>Sig.of [vf_ Ja] [vf_ Ja,vf_ Ja] (λd=>mQ N d.1),W5⟩
def ED:Gd:=GN Z6t func96
def Z42:Fn:=⟨f97,Wy,λN=>Sig.of [vf_ Ja] [vf_ Ja] (λd=>EG N d.1),CX [xM]⟩
def ZI:Gd:=GF Z42 func97
def Is:Fn:=⟨f70,λ |5=>cn_ [0,3,4,14]|6=>cn_ [0,3,4]|7=>cn_ [0,3,4,22]|8=>cn_ [2]|9=>cn_ [0,3,4,5]|10=>cn_ [0,3,4,5,32]|11=>cn_ [0,3,4,5,43]|12=>cn_ [2]|13=>cn_ [0,3,4]|100005=>cn_ [0,3,4]|_=>[],λN=>Sig.of [vf_ Ji] [vf_ Jr] (λd=>oj N d.1),CX [Z9,ED,ZI]⟩
def Zwl(l2:List Int)(a:Int)(l4:List Bool):St:=⟨[(0,vV Ji l2),(3,vO 0),(4,vI a)],[(0,.arr Jr l4)],1⟩
def Zt5(l2:List Int)(b:Int)(c:Bool)(a:List Bool):St:=⟨[(0,vV Ji l2),(3,vO 0),(4,vI b),(14,vB c)],[(0,.arr Jr a)],1⟩
theorem Zwm{l2:List Int}{K0}{K1:Int->Bool->(List Bool)->Option R}(c:K0=K .ret ⟨[(2,vB false)],[],0⟩)(d:K1= λe f b=>K (.exit 0) (Zt5 l2 e f b))(n a l4):sU N l2 K0 K1 n a l4=LM Is N 0 100005 n (Zwl l2 a l4) K:=by subst c d;induction n generalizing a l4;kernel_rfl;rw[sU];simp only[*];kernel_rfl
theorem Z6u(l1:List Int):DN Is N (l1,())=oj N l1:=by
 conv=>rhs;rw[oj];simp(disch:=exact id (by kernel_rfl)) only[Zwm (R:=Unit×Kf) N (CF Is N [1,1,1,0,1,0])]
 kernel_rfl
def EH:Gd:=GF Is func70 (λN d=>Z6u N d.1)
def JI:Fn:=⟨f98,λ |2=>cn_ [0,1,5,11]|3=>cn_ [0,1,5]|4=>cn_ [0,1,5,6]|5=>cn_ [0,1,5,28]|6=>cn_ [4]|100002=>cn_ [0,1,5]|_=>[],λN=>Sig.of [vf_ Ji,vf_ Ja] [vf_ Ja] (λd=>qk N d.1 d.2.1),CX [ED]⟩
theorem Z18{l3:List Int}{a:Int}{K0 K1}(c:K0= λf=>K .ret ⟨[(4,vI f)],[],0⟩)(d:K1= λe g=>K (.exit 0) ⟨[(0,vV Ji l3),(1,vI a),(5,vI e),(11,vB g)],[],0⟩)(n b):tf N l3 a K0 K1 n b=LM JI N 0 100002 n ⟨[(0,vV Ji l3),(1,vI a),(5,vI b)],[],0⟩ K:=by subst c d;induction n generalizing b;kernel_rfl;rw[tf];simp only[*];kernel_rfl
theorem O9(l1:List Int)(bg:Int):DN JI N (l1,bg,())=qk N l1 bg:=by
 conv=>rhs;rw[qk];simp(disch:=exact id (by kernel_rfl)) only[Z18 (R:=Unit×Kj) N (CF JI N [1,0,1,0])]
 kernel_rfl
def QF:Gd:=GF JI func98 (λN d=>O9 N d.1 d.2.1)
def It:Fn:=⟨f119,λ |10=>cn_ [0,1,2,9,13,60]|11=>cn_ [0,1,2,9,13]|12=>cn_ [0,1,2,9,13,67]|13=>cn_ [9]|14=>cn_ [6,7,8]|100010=>cn_ [0,1,2,9,13]|_=>[],λN=>Sig.of [vf_ Ji,vf_ Ja,vf_ Ja] [vf_ Jd,vf_ Ja,vf_ Jr] (λd=>tC N d.1 d.2.1 d.2.2.1),CX [Ir,EH,xM,lK,QF,ED,ZI]⟩
def Zwn(b:List Int)(c e d:Int)(a:List Int):St:=⟨[(0,vV Ji b),(1,vI c),(2,vI e),(9,vO 0),(13,vI d)],[(0,.arr Ja a)],1⟩
def Zt6(c:List Int)(d e:Int)(b a:List Int):St:=⟨[(6,vO 0),(7,vI 0),(8,vB true)],[(0,.arr Ja a)],1⟩
def Zt7(b:List Int)(c e:Int)(a:List Int)(f:Int)(d:Bool):St:=⟨[(0,vV Ji b),(1,vI c),(2,vI e),(9,vO 0),(13,vI f),(60,vB d)],[(0,.arr Ja a)],1⟩
theorem Zwo{b:List Int}{c d:Int}{a:List Int}{K0:Kg->Option R}{K1}(h:K0= λf=>K .ret (Zt6 b c d a f))(i:K1= λj g=>K (.exit 0) (Zt7 b c d a j g))(n e):wR N b c d a K0 K1 n e=LM It N 0 100010 n (Zwn b c d e a) K:=by subst h i;induction n generalizing e;kernel_rfl;rw[wR];simp only[*];kernel_rfl
theorem Z6v(l1:List Int)(a v3:Int):DN It N (l1,a,v3,())=tC N l1 a v3:=by
 conv=>rhs;rw[tC];simp(disch:=exact id (by kernel_rfl)) only[Zwo (R:=Unit×(Kg×Ky)) N (CF It N [1,1,1,1,1,0,1,0])]
 kernel_rfl
def Qu:Gd:=GF It func119 (λN d=>Z6v N d.1 d.2.1 d.2.2.1)
def HT:Fn:=⟨f92,λ |5=>cn_ [0,3,4,16]|6=>cn_ [0,3,4]|7=>cn_ [0,3,4,24]|8=>cn_ [2]|9=>cn_ [0,3,4,30]|10=>cn_ [0,4,5]|11=>cn_ [0,3,4]|100005=>cn_ [0,3,4]|_=>[],λN=>Sig.of [vf_ Ji] [vf_ Jd] (λd=>xC N d.1),CX [Z6r,Z9,Qu]⟩
def Zs5(c:List Int)(a:Int)(b:List Int):St:=⟨[(0,vV Ji c),(3,vO 0),(4,vI a)],[(0,.arr Ja b)],1⟩
def Zsa(a:List Int):St:=⟨[(2,vO 0)],[(0,.arr Ja ([]:List Int))],1⟩
def Zsb(c:List Int)(b:Int)(d:Bool)(a:List Int):St:=⟨[(0,vV Ji c),(3,vO 0),(4,vI b),(16,vB d)],[(0,.arr Ja a)],1⟩
theorem Zs6{a:List Int}{K0}{K1:Int->Bool->Kg->Option R}(e:K0=K .ret (Zsa a))(f:K1= λg h d=>K (.exit 0) (Zsb a g h d))(n b c):r9 N a K0 K1 n b c=LM HT N 0 100005 n (Zs5 a b c) K:=by subst e f;induction n generalizing b c;kernel_rfl;rw[r9];simp only[*];kernel_rfl
theorem Z19(m1:List Int):DN HT N (m1,())=xC N m1:=by
 conv=>rhs;rw[xC];simp(disch:=exact id (by kernel_rfl)) only[Zs6 (R:=Unit×Kad) N (CF HT N [1,1,1,0,1,0])]
 kernel_rfl
def Z2a:Gd:=GF HT func92 (λN d=>Z19 N d.1)
def Z91:Fn:=⟨f65,Wy,λN=>Sig.of [vt_ Jy] [vt_ Jg] (λd=>JZ N d.1),CX [Z90,Z2a]⟩
def Z92:Gd:=GF Z91 func65
def Z6w:Fn:=⟨f120,Wy,λN=>Sig.of [vt_ (TY_Root)] [.v (.prod Ja (.prod Ja (.prod Ja (.prod Ja (.prod Ja (.prod Ja (.prod Ja (.prod Ja (.prod Ja (.prod Ja (.prod Ja (.prod Jr (.prod Jd (.prod Jc (.prod Jc (.prod (.own (.prod Ja (.prod Ja Jai))) (.prod Jp (.prod Jd (.prod Jr (.prod Ju (.prod Js Jag))))))))))))))))))))) true] (λd=>lM N d.1),W5⟩
def EI:Gd:=GN Z6w func120
def Z6x:Fn:=⟨f157,Wy,λN=>Sig.of [vt_ (TY_Root)] [vf_ Jr] (λd=>JA N d.1),W5⟩
def Z6y:Gd:=GN Z6x func157
def Iu:Fn:=⟨f121,λ |7=>cn_ [2,3,4,6,7,8,38]|8=>cn_ [2,3,4,6,7,8]|9=>cn_ [2,3,4,6,7,8,58]|10=>cn_ [6,7]|100007=>cn_ [2,3,4,6,7,8]|_=>[],λN=>Sig.of [vt_ Jg,vt_ (TY_Root),vf_ Ja] [vt_ Jg,vt_ (TY_Root)] (λd=>BV N d.1 d.2.1 d.2.2.1),CX [Z6y]⟩
def Zwp(c b b6 b7 b8 b9:Int)(az:Y_Root)(dg:List Kb)(cM:List Int)(dh:List Kb)(a:List Y_Root)(fK:List Ko):St:=⟨[(2,vI c),(3,vP 0 0),(4,vP 1 0),(6,vP 2 0),(7,vP 3 0),(8,vI b)],[(0,.box [.val Ja b6,.val Ja b7,.val Ja b8,.own 4,.own 5,.val Ja b9,.own 6,.own 7,.own 8]),(1,.box (split (TY_Root) az)),(2,.box [.val Ja (0:Int),.val Ja (0:Int),.val Ja (0:Int),.nils,.nils,.val Ja (0:Int),.nils,.nils,.nils]),(3,.box [.val Ja (0:Int),.val Ja (0:Int),.val Ja (0:Int),.val Ja (0:Int),.val Ja (0:Int),.val Ja (0:Int),.val Ja (0:Int),.val Ja (0:Int),.val Ja (0:Int),.val Ja (0:Int),.val Ja (0:Int),.val Jr false,.nils,.nils,.nils,.nils,.nils,.nils,.val Jr false,.val Ja (0:Int),.val Ja (0:Int),.val Ja (0:Int),.val Ja (0:Int),.val Ja (0:Int),.val Ja (0:Int),.val Ja (0:Int),.val Ja (0:Int),.val Ja (0:Int),.nils,.nils,.val Ja (0:Int),.val Ja (0:Int),.val Ja (0:Int),.val Jr false,.nils,.nils,.nils,.nils,.nils,.nils]),(4,.arr Jb dg),(5,.arr Ja cM),(6,.arr Jb dh),(7,.arr (TY_Root) a),(8,.arr Jab fK)],9⟩
def Zt8(b b6 b7 b8 b9:Int)(az:Y_Root)(dg:List Kb)(cM:List Int)(dh:List Kb)(a:List Y_Root)(fK:List Ko):St:=⟨[(6,vP 0 0),(7,vP 1 0)],[(0,.box [.val Ja b6,.val Ja b7,.val Ja b8,.own 2,.own 3,.val Ja b9,.own 4,.own 5,.own 6]),(1,.box (split (TY_Root) az)),(2,.arr Jb dg),(3,.arr Ja cM),(4,.arr Jb dh),(5,.arr (TY_Root) a),(6,.arr Jab fK)],7⟩
def Zt9(b b6 b7 b8 b9:Int)(az:Y_Root)(dg:List Kb)(cM:List Int)(dh:List Kb)(a:List Y_Root)(fK:List Ko)(d:Int)(c:Bool):St:=⟨[(2,vI b),(3,vP 0 0),(4,vP 1 0),(6,vP 2 0),(7,vP 3 0),(8,vI d),(38,vB c)],[(0,.box [.val Ja b6,.val Ja b7,.val Ja b8,.own 4,.own 5,.val Ja b9,.own 6,.own 7,.own 8]),(1,.box (split (TY_Root) az)),(2,.box [.val Ja (0:Int),.val Ja (0:Int),.val Ja (0:Int),.nils,.nils,.val Ja (0:Int),.nils,.nils,.nils]),(3,.box [.val Ja (0:Int),.val Ja (0:Int),.val Ja (0:Int),.val Ja (0:Int),.val Ja (0:Int),.val Ja (0:Int),.val Ja (0:Int),.val Ja (0:Int),.val Ja (0:Int),.val Ja (0:Int),.val Ja (0:Int),.val Jr false,.nils,.nils,.nils,.nils,.nils,.nils,.val Jr false,.val Ja (0:Int),.val Ja (0:Int),.val Ja (0:Int),.val Ja (0:Int),.val Ja (0:Int),.val Ja (0:Int),.val Ja (0:Int),.val Ja (0:Int),.val Ja (0:Int),.nils,.nils,.val Ja (0:Int),.val Ja (0:Int),.val Ja (0:Int),.val Jr false,.nils,.nils,.nils,.nils,.nils,.nils]),(4,.arr Jb dg),(5,.arr Ja cM),(6,.arr Jb dh),(7,.arr (TY_Root) a),(8,.arr Jab fK)],9⟩
theorem Zwq{b b6 b7 b8 b9:Int}{az:Y_Root}{dg:List Kb}{cM:List Int}{dh:List Kb}{a:List Y_Root}{fK:List Ko}{K0 K1}(d:K0=K .ret (Zt8 b b6 b7 b8 b9 az dg cM dh a fK))(e:K1= λg f=>K (.exit 0) (Zt9 b b6 b7 b8 b9 az dg cM dh a fK g f))(n c):kh N b b6 b7 b8 b9 az dg cM dh a fK K0 K1 n c=LM Iu N 0 100007 n (Zwp b c b6 b7 b8 b9 az dg cM dh a fK) K:=by subst d e;induction n generalizing c;kernel_rfl;rw[kh];simp only[*];kernel_rfl
theorem Z6z(a:Y_World)(b:Y_Root)(k3:Int):DN Iu N (a,b,k3,())=BV N a b k3:=by
 conv=>rhs;rw[BV];simp(disch:=exact id (by kernel_rfl)) only[Zwq (R:=Unit×(Y_World×(Y_Root×Unit))) N (CF Iu N [1,1,1,0,1,0])]
 kernel_rfl
def Z60:Gd:=GF Iu func121 (λN d=>Z6z N d.1 d.2.1 d.2.2.1)
def Iv:Fn:=⟨f226,λ |2=>cn_ [0,3,8]|3=>cn_ [0,3]|4=>cn_ [0,3,4]|5=>cn_ [0,3,4,30]|6=>cn_ [2]|7=>cn_ [0,3,79]|8=>cn_ [2]|100002=>cn_ [0,3]|_=>[],λN=>Sig.of [vf_ Jp] [vf_ Jr] (λd=>tB N d.1),CX [Z9]⟩
theorem Zws{l2:List Kb}{K0 K1}(b:K0=K .ret ⟨[(2,vB false)],[],0⟩)(c:K1= λd e=>K (.exit 0) ⟨[(0,vV Jp l2),(3,vI d),(8,vB e)],[],0⟩)(n a):p7 N l2 K0 K1 n a=LM Iv N 0 100002 n ⟨[(0,vV Jp l2),(3,vI a)],[],0⟩ K:=by subst b c;induction n generalizing a;kernel_rfl;rw[p7];simp only[*];kernel_rfl
theorem Z61(l1:List Kb):DN Iv N (l1,())=tB N l1:=by
 conv=>rhs;rw[tB];simp(disch:=exact id (by kernel_rfl)) only[Zws (R:=Unit×Kf) N (CF Iv N [1,0,1,0])]
 kernel_rfl
def Iw:Gd:=GF Iv func226 (λN d=>Z61 N d.1)
def I1:Fn:=⟨f261,λ |4=>cn_ [0,1,2,7,14]|5=>cn_ [0,1,2,7]|6=>cn_ [0,1,2,7,32]|7=>cn_ [6]|100004=>cn_ [0,1,2,7]|_=>[],λN=>Sig.of [vf_ Jp,vf_ Ja,vf_ Ja] [vf_ Ja] (λd=>x7 N d.1 d.2.1 d.2.2.1),CX [Iw]⟩
theorem Zzx{d:List Kb}{b a:Int}{K0 K1}(g:K0= λi=>K .ret ⟨[(6,vI i)],[],0⟩)(h:K1= λf e=>K (.exit 0) ⟨[(0,vV Jp d),(1,vI b),(2,vI a),(7,vI f),(14,vB e)],[],0⟩)(n c):s9 N d b a K0 K1 n c=LM I1 N 0 100004 n ⟨[(0,vV Jp d),(1,vI b),(2,vI a),(7,vI c)],[],0⟩ K:=by subst g h;induction n generalizing c;kernel_rfl;rw[s9];simp only[*];kernel_rfl
theorem Z93(l1:List Kb)(a aT:Int):DN I1 N (l1,a,aT,())=x7 N l1 a aT:=by
 conv=>rhs;rw[x7];simp(disch:=exact id (by kernel_rfl)) only[Zzx (R:=Unit×Kj) N (CF I1 N [1,1,0,1,0])]
 kernel_rfl
def Zsu:Gd:=GF I1 func261 (λN d=>Z93 N d.1 d.2.1 d.2.2.1)
def Ix:Fn:=⟨f203,λ |3=>cn_ [0,1,5,6,9]|4=>cn_ [0,1,5,6]|5=>cn_ [0,1,5,6,16]|6=>cn_ [0,1,5,6]|100003=>cn_ [0,1,5,6]|_=>[],λN=>Sig.of [vf_ Jp,vf_ Ja] [vf_ Jd] (λd=>xT N d.1 d.2.1),CX [Zsu]⟩
def Zwv(l3:List Kb)(a c:Int)(b:List Int):St:=⟨[(0,vV Jp l3),(1,vI a),(5,vO 0),(6,vI c)],[(0,.arr Ja b)],1⟩
def Zuc(l3:List Kb)(b d:Int)(c:Bool)(a:List Int):St:=⟨[(0,vV Jp l3),(1,vI b),(5,vO 0),(6,vI d),(9,vB c)],[(0,.arr Ja a)],1⟩
theorem Zww{l3:List Kb}{a:Int}{K0:Int->Bool->Kg->Option R}(e:K0= λg f d=>K (.exit 0) (Zuc l3 a g f d))(n c b):s0 N l3 a K0 n c b=LM Ix N 0 100003 n (Zwv l3 a c b) K:=by subst e;induction n generalizing c b;kernel_rfl;rw[s0];simp only[*];kernel_rfl
theorem Z62(l1:List Kb)(aS:Int):DN Ix N (l1,aS,())=xT N l1 aS:=by
 conv=>rhs;rw[xT];simp(disch:=exact id (by kernel_rfl)) only[Zww (R:=Unit×Kad) N (CF Ix N [1,1,0,1,0])]
 kernel_rfl
def Z63:Gd:=GF Ix func203 (λN d=>Z62 N d.1 d.2.1)
def Z94:Fn:=⟨f172,Wy,λN=>Sig.of [vt_ Jg,vt_ (TY_Root),vf_ Ja] [vt_ Jg,vt_ Jv] (λd=>x8 N d.1 d.2.1 d.2.2.1),W5⟩
def Zsv:Gd:=GN Z94 func172
def I2:Fn:=⟨f262,λ |4=>cn_ [0,3,10]|5=>cn_ [0,3]|6=>cn_ [0,3,28]|7=>cn_ [2]|100004=>cn_ [0,3]|_=>[],λN=>Sig.of [vf_ Je] [vf_ Jr] (λd=>qg N d.1),CX [tp,lK]⟩
theorem Zzz{l2:List Kc}{K0 K1}(b:K0=K .ret ⟨[(2,vB false)],[],0⟩)(c:K1= λd e=>K (.exit 0) ⟨[(0,vV Je l2),(3,vI d),(10,vB e)],[],0⟩)(n a):wY N l2 K0 K1 n a=LM I2 N 0 100004 n ⟨[(0,vV Je l2),(3,vI a)],[],0⟩ K:=by subst b c;induction n generalizing a;kernel_rfl;rw[wY];simp only[*];kernel_rfl
theorem Z95(l1:List Kc):DN I2 N (l1,())=qg N l1:=by
 conv=>rhs;rw[qg];simp(disch:=exact id (by kernel_rfl)) only[Zzz (R:=Unit×Kf) N (CF I2 N [1,1,0,1,0])]
 kernel_rfl
def Qn:Gd:=GF I2 func262 (λN d=>Z95 N d.1)
def J5:Fn:=⟨f205,λ |4=>cn_ [0,1,6,14]|5=>cn_ [0,1,6]|6=>cn_ [0,1,6,23]|7=>cn_ [4,5]|100004=>cn_ [0,1,6]|_=>[],λN=>Sig.of [vf_ Je,vf_ Ja] [vf_ Ja,vf_ Jr] (λd=>tK N d.1 d.2.1),CX [Qn]⟩
theorem Z44{l4:List Kc}{a:Int}{K0 K1}(c:K0= λf=>K .ret ⟨[(4,vI f),(5,vB true)],[],0⟩)(d:K1= λe g=>K (.exit 0) ⟨[(0,vV Je l4),(1,vI a),(6,vI e),(14,vB g)],[],0⟩)(n b):A0 N l4 a K0 K1 n b=LM J5 N 0 100004 n ⟨[(0,vV Je l4),(1,vI a),(6,vI b)],[],0⟩ K:=by subst c d;induction n generalizing b;kernel_rfl;rw[A0];simp only[*];kernel_rfl
theorem PK(l1:List Kc)(cy:Int):DN J5 N (l1,cy,())=tK N l1 cy:=by
 conv=>rhs;rw[tK];simp(disch:=exact id (by kernel_rfl)) only[Z44 (R:=Unit×Ky) N (CF J5 N [1,1,0,1,0])]
 kernel_rfl
def Qx:Gd:=GF J5 func205 (λN d=>PK N d.1 d.2.1)
def JX:Fn:=⟨f174,λ |3=>cn_ [0,3,4,9]|4=>cn_ [0,3,4]|5=>cn_ [0,3,4,5,6]|6=>cn_ [0,3,4,5,18]|7=>cn_ [0,3,4]|100003=>cn_ [0,3,4]|_=>[],λN=>Sig.of [vf_ Je] [vf_ Jc] (λd=>oJ N d.1),CX [Qx]⟩
def Z64(l2:List Kc)(a:Int)(l4:List Kc):St:=⟨[(0,vV Je l2),(3,vO 0),(4,vI a)],[(0,.arr Jt l4)],1⟩
def Z45(l2:List Kc)(a:Int)(c:Bool)(b:List Kc):St:=⟨[(0,vV Je l2),(3,vO 0),(4,vI a),(9,vB c)],[(0,.arr Jt b)],1⟩
theorem Z65{l2:List Kc}{K0:Int->Bool->Kx->Option R}(b:K0= λc e d=>K (.exit 0) (Z45 l2 c e d))(n a l4):xW N l2 K0 n a l4=LM JX N 0 100003 n (Z64 l2 a l4) K:=by subst b;induction n generalizing a l4;kernel_rfl;rw[xW];simp only[*];kernel_rfl
theorem Qc(l1:List Kc):DN JX N (l1,())=oJ N l1:=by
 conv=>rhs;rw[oJ];simp(disch:=exact id (by kernel_rfl)) only[Z65 (R:=Unit×(Kx×Unit)) N (CF JX N [1,1,0,1,0])]
 kernel_rfl
def KF:Gd:=GF JX func174 (λN d=>Qc N d.1)
def Iy:Fn:=⟨f263,λ |4=>cn_ [3,4,5,12]|5=>cn_ [3,4,5]|6=>cn_ [3,4,5]|100004=>cn_ [3,4,5]|_=>[],λN=>Sig.of [vf_ Je] [vf_ Jd] (λd=>BW N d.1),CX [KF]⟩
def Zwz(a:Int)(l4:List Int)(b:List Kc):St:=⟨[(3,vO 0),(4,vO 1),(5,vI a)],[(0,.arr Ja l4),(1,.arr Jt b)],2⟩
def Zud(b:List Kc)(a:Int)(d:Bool)(c:List Int):St:=⟨[(3,vO 0),(4,vO 1),(5,vI a),(12,vB d)],[(0,.arr Ja c),(1,.arr Jt b)],2⟩
theorem Zw0{b:List Kc}{K0:Int->Bool->Kg->Option R}(c:K0= λd f e=>K (.exit 0) (Zud b d f e))(n a l4):wS N b K0 n a l4=LM Iy N 0 100004 n (Zwz a l4 b) K:=by subst c;induction n generalizing a l4;kernel_rfl;rw[wS];simp only[*];kernel_rfl
theorem Z66(l1:List Kc):DN Iy N (l1,())=BW N l1:=by
 conv=>rhs;rw[BW];simp(disch:=exact id (by kernel_rfl)) only[Zw0 (R:=Unit×Kad) N (CF Iy N [1,1,1,0,1,0])]
 kernel_rfl
def Z67:Gd:=GF Iy func263 (λN d=>Z66 N d.1)
def Z2d:Fn:=⟨f204,Wy,λN=>Sig.of [vf_ Ja,vf_ Ja,vf_ Je,vf_ Je] [vt_ Js,vf_ Jr] (λd=>xJ N d.1 d.2.1 d.2.2.1 d.2.2.2.1),CX [Z9,Qn,KF,Z67]⟩
def Z2e:Gd:=GF Z2d func204
def Z46:Fn:=⟨f158,Wy,λN=>Sig.of [vt_ Jg,vt_ (TY_Root),vf_ Ja,vf_ Ja] [vt_ Jg,vt_ (TY_Root)] (λd=>ET N d.1 d.2.1 d.2.2.1 d.2.2.2.1),CX [Z63,Zsv,Z2e]⟩
def Z47:Gd:=GF Z46 func158
def JJ:Fn:=⟨f216,λ |4=>cn_ [1,3,19]|5=>cn_ [1,3]|6=>cn_ [1,3,4]|7=>cn_ [1,3,44]|8=>cn_ [2]|100004=>cn_ [1,3]|_=>[],λN=>Sig.of [vt_ Jad] [vf_ Jr] (λd=>oH N d.1),CX [Z9,lK]⟩
def Z2f(a:Int)(b4:Int×List Kb):St:=⟨[(1,vP 0 0),(3,vI a)],[(0,.box [.val Ja b4.1,.val Jp b4.2])],1⟩
def Zz1(b4:Int×List Kb)(a:Int)(b:Bool):St:=⟨[(1,vP 0 0),(3,vI a),(19,vB b)],[(0,.box [.val Ja b4.1,.val Jp b4.2])],1⟩
theorem Z2g{b4:Int×List Kb}{K0 K1}(b:K0=K .ret ⟨[(2,vB false)],[],0⟩)(c:K1= λd e=>K (.exit 0) (Zz1 b4 d e))(n a):tc N b4 K0 K1 n a=LM JJ N 0 100004 n (Z2f a b4) K:=by subst b c;induction n generalizing a;kernel_rfl;rw[tc];simp only[*];kernel_rfl
theorem Pa(m1:Int×List Kb):DN JJ N (m1,())=oH N m1:=by
 conv=>rhs;rw[oH];simp(disch:=exact id (by kernel_rfl)) only[Z2g (R:=Unit×Kf) N (CF JJ N [1,1,0,1,0])]
 kernel_rfl
def EZ:Gd:=GF JJ func216 (λN d=>Pa N d.1)
def Z68:Fn:=⟨f264,Wy,λN=>Sig.of [vt_ Ju] [vf_ Jr] (λd=>I5 N d.1),CX [tp,Z9,lK]⟩
def Z69:Gd:=GF Z68 func264
def Z2h:Fn:=⟨f206,Wy,λN=>Sig.of [vt_ Jad,vf_ Ja,vt_ Ju] [vt_ Ju] (λd=>xc N d.1 d.2.1 d.2.2.1),CX [EZ,Z69]⟩
def ZQ:Gd:=GF Z2h func206
def Zw1:Fn:=⟨f207,Wy,λN=>Sig.of [vt_ (TY_Root)] [vt_ (TY_Root)] (λd=>AN N d.1),CX [EI]⟩
def ZK:Gd:=GF Zw1 func207
def Z7a:Fn:=⟨f160,Wy,λN=>Sig.of [vf_ Ji] [vf_ Jd] (λd=>Zo N d.1),W5⟩
def ox:Gd:=GN Z7a func160
def Zqc:Fn:=⟨f159,Wy,λN=>Sig.of [.kv Jg true,vt_ (TY_Root),vt_ Ju] [vt_ (TY_Root)] (λd=>HD N d.1 d.2.1 d.2.2.1),CX [Qx,ZQ,ZK,ox]⟩
def Zqd:Gd:=GF Zqc func159
def Z7b:Fn:=⟨f222,Wy,λN=>Sig.of [vt_ Jah] [vt_ Jan] (λd=>EO N d.1),CX [Ir]⟩
def Zrs:Gd:=GF Z7b func222
def Z7c:Fn:=⟨f223,Wy,λN=>Sig.of [vt_ Jah] [vf_ Jr] (λd=>EN N d.1),CX [EH,lK]⟩
def Zrt:Gd:=GF Z7c func223
def Z96:Fn:=⟨f224,Wy,λN=>Sig.of [vt_ Jb] [vf_ Jr] (λd=>J0 N d.1),CX [xM,lK]⟩
def Z97:Gd:=GF Z96 func224
def Z48:Fn:=⟨f225,Wy,λN=>Sig.of [vf_ Ji,vf_ Ja] [vf_ Jd,vf_ Ja,vf_ Jr] (λd=>EU N d.1 d.2.1),CX [Ir,EH,xM,QF,ED]⟩
def ZJ:Gd:=GF Z48 func225
def Z7d:Fn:=⟨f170,Wy,λN=>Sig.of [vt_ Jah,vt_ Jb] [vt_ Jan,vf_ Jr] (λd=>JB N d.1 d.2.1),CX [Zrs,Zrt,Z97,Qu,ZJ]⟩
def Z7e:Gd:=GF Z7d func170
def Zw2:Fn:=⟨f127,Wy,λN=>Sig.of [.v (.prod Ja (.prod Ja (.prod Jz (.prod Jah (.prod Jap (.prod (.own (TY_Root)) (.own Jab))))))) true,vt_ (TY_Root)] [vt_ Jg,vt_ Jv] (λd=>AO N d.1 d.2.1),CX [Z7e]⟩
def Ql:Gd:=GF Zw2 func127
def JK:Fn:=⟨f161,λ |5=>cn_ [0,5,6,27]|6=>cn_ [0,5,6]|7=>cn_ [0,5,6,35]|8=>cn_ [0,5,6]|9=>cn_ [0,5,6,43]|10=>cn_ [0,5,6]|11=>cn_ [0,5,6,47]|12=>cn_ [4]|100005=>cn_ [0,5,6]|_=>[],λN=>Sig.of [vf_ Jh,vf_ Ja] [vf_ Ja] (λd=>ym N d.1 d.2.1),W5⟩
theorem Z2j{a:List Ka}{K0 K1}(e:K0= λh=>K .ret ⟨[(4,vI h)],[],0⟩)(f:K1= λd g i=>K (.exit 0) ⟨[(0,vV Jh a),(5,vI d),(6,vI g),(27,vB i)],[],0⟩)(n b c):mL N a K0 K1 n b c=LM JK N 0 100005 n ⟨[(0,vV Jh a),(5,vI b),(6,vI c)],[],0⟩ K:=by subst e f;induction n generalizing b c;kernel_rfl;rw[mL];simp only[*];kernel_rfl
theorem Pd(a:List Ka)(i2:Int):DN JK N (a,i2,())=ym N a i2:=by
 conv=>rhs;rw[ym];simp(disch:=exact id (by kernel_rfl)) only[Z2j (R:=Unit×Kj) N (CF JK N [1,1,1,0,1,0])]
 kernel_rfl
def Zue:Gd:=GN JK func161 (λN d=>Pd N d.1 d.2.1)
def A7:Fn:=⟨f162,λ |4=>cn_ [1,3,8,9,10,11,24]|5=>cn_ [1,3,8,9,10,11]|6=>cn_ [1,3,8,9,10,11]|8=>cn_ [1,3,8,9,12,45]|9=>cn_ [1,3,8,9,12]|10=>cn_ [1,3,8,9,12]|100004=>[.adoptC 9 6 Jb,.canon [1,3,8,9,10,11]]|100008=>[.adoptC 9 9 (TY_KidRun),.canon [1,3,8,9,12]]|_=>[],λN=>Sig.of [vf_ Ja,vf_ Ji,vf_ Je,vf_ Ja] [vt_ Jag] (λd=>B7 N d.1 d.2.1 d.2.2.1 d.2.2.2.1),CX [ox,KF]⟩
def Zz4(f:List Int)(g e a:Int)(b:List Kc)(c:List Int)(d:List Kc)(bT:List Kb):St:=⟨[(1,vV Ji f),(3,vI g),(8,vP 0 0),(9,vP 1 0),(10,vO 2),(11,vI e)],[(0,.box [.val Ja (0:Int),.val Ja (0:Int),.val Ja (0:Int),.val Jr false,.nils,.nils,.nils,.nils,.nils,.nils]),(1,.box [.val Ja a,.val Ja (0:Int),.val Ja (0:Int),.val Jr false,.own 3,.own 4,.own 5,.nils,.nils,.nils]),(2,.arr Jt b),(3,.arr Ja c),(4,.arr Jt d),(5,.arr Jb bT)],6⟩
def Zw3(e:List Int)(f a:Int)(b:List Kc)(c:List Int)(d:List Kc)(i:Int)(h:Bool)(g:List Kb):St:=⟨[(1,vV Ji e),(3,vI f),(8,vP 0 0),(9,vP 1 0),(10,vO 2),(11,vI i),(24,vB h)],[(0,.box [.val Ja (0:Int),.val Ja (0:Int),.val Ja (0:Int),.val Jr false,.nils,.nils,.nils,.nils,.nils,.nils]),(1,.box [.val Ja a,.val Ja (0:Int),.val Ja (0:Int),.val Jr false,.own 3,.own 4,.own 5,.nils,.nils,.nils]),(2,.arr Jt b),(3,.arr Ja c),(4,.arr Jt d),(5,.arr Jb g)],6⟩
theorem Zz5{f:List Int}{g a:Int}{b:List Kc}{c:List Int}{d:List Kc}{K0:Int->Bool->Ks->Option R}(h:K0= λk j i=>K (.exit 0) (Zw3 f g a b c d k j i))(n e bT):w2 N f g a b c d K0 n e bT=LM A7 N 0 100004 n (Zz4 f g e a b c d bT) K:=by subst h;induction n generalizing e bT;kernel_rfl;rw[w2];simp only[*];kernel_rfl
def Zz6(b:List Int)(a e d:Int)(c:List Int)(dg:List Kc)(cM:List Kb)(dh:List Y_KidRun):St:=⟨[(1,vV Ji b),(3,vI a),(8,vP 0 0),(9,vP 1 0),(12,vI e)],[(0,.box [.val Ja (0:Int),.val Ja (0:Int),.val Ja (0:Int),.val Jr false,.nils,.nils,.nils,.nils,.nils,.nils]),(1,.box [.val Ja d,.val Ja (0:Int),.val Ja (0:Int),.val Jr false,.own 2,.own 3,.own 4,.nils,.nils,.own 5]),(2,.arr Ja c),(3,.arr Jt dg),(4,.arr Jb cM),(5,.arr (TY_KidRun) dh)],6⟩
def Zw4(b:List Int)(a d:Int)(c:List Int)(dg:List Kc)(cM:List Kb)(g:Int)(f:Bool)(e:List Y_KidRun):St:=⟨[(1,vV Ji b),(3,vI a),(8,vP 0 0),(9,vP 1 0),(12,vI g),(45,vB f)],[(0,.box [.val Ja (0:Int),.val Ja (0:Int),.val Ja (0:Int),.val Jr false,.nils,.nils,.nils,.nils,.nils,.nils]),(1,.box [.val Ja d,.val Ja (0:Int),.val Ja (0:Int),.val Jr false,.own 2,.own 3,.own 4,.nils,.nils,.own 5]),(2,.arr Ja c),(3,.arr Jt dg),(4,.arr Jb cM),(5,.arr (TY_KidRun) e)],6⟩
theorem Zz7{b:List Int}{a d:Int}{c:List Int}{dg:List Kc}{cM:List Kb}{K0:Int->Bool->(List Y_KidRun)->Option R}(f:K0= λi h g=>K (.exit 2) (Zw4 b a d c dg cM i h g))(n e dh):qe N b a d c dg cM K0 n e dh=LM A7 N 1 100008 n (Zz6 b a e d c dg cM dh) K:=by subst f;induction n generalizing e dh;kernel_rfl;rw[qe];simp only[*];kernel_rfl
theorem Z98(c:Int)(a:List Int)(b:List Kc)(dW:Int):DN A7 N (c,a,b,dW,())=B7 N c a b dW:=by
 conv=>rhs;rw[B7];simp(disch:=exact id (by kernel_rfl)) only[Zz5 (R:=Unit×(Y_Family×Unit)) N (CF A7 N [1,1,1,0,1,0]),Zz7 (R:=Unit×(Y_Family×Unit)) N (CF A7 N [1,1,1,1,0,1,0])]
 kernel_rfl
def Z99:Gd:=GF A7 func162 (λN d=>Z98 N d.1 d.2.1 d.2.2.1 d.2.2.2.1)
def Z2k:Fn:=⟨f208,Wy,λN=>Sig.of [vt_ Ju] [vf_ Ja,vf_ Ja] (λd=>Ik N d.1),CX [Qt]⟩
def Z2l:Gd:=GF Z2k func208
def I3:Fn:=⟨f265,λ |5=>cn_ [0,1,2,3,9,10,24]|6=>cn_ [0,1,2,3,9,10]|7=>cn_ [0,1,2,3,9,10,54]|8=>cn_ [0,1,2,3,9,10]|100005=>cn_ [0,1,2,3,9,10]|_=>[],λN=>Sig.of [vf_ Jp,vf_ Ja,vf_ Ja,vf_ Ja] [vf_ Jd] (λd=>B3 N d.1 d.2.1 d.2.2.1 d.2.2.2.1),CX [Iw,Z9]⟩
def Zz8(f:List Kb)(e d c b:Int)(a:List Int):St:=⟨[(0,vV Jp f),(1,vI e),(2,vI d),(3,vI c),(9,vO 0),(10,vI b)],[(0,.arr Ja a)],1⟩
def Zw5(g:List Kb)(e d c f:Int)(b:Bool)(a:List Int):St:=⟨[(0,vV Jp g),(1,vI e),(2,vI d),(3,vI c),(9,vO 0),(10,vI f),(24,vB b)],[(0,.arr Ja a)],1⟩
theorem Zz9{f:List Kb}{e d c:Int}{K0:Int->Bool->Kg->Option R}(j:K0= λi h g=>K (.exit 0) (Zw5 f e d c i h g))(n b a):mJ N f e d c K0 n b a=LM I3 N 0 100005 n (Zz8 f e d c b a) K:=by subst j;induction n generalizing b a;kernel_rfl;rw[mJ];simp only[*];kernel_rfl
theorem Oi(l1:List Kb)(a b bh:Int):DN I3 N (l1,a,b,bh,())=B3 N l1 a b bh:=by
 conv=>rhs;rw[B3];simp(disch:=exact id (by kernel_rfl)) only[Zz9 (R:=Unit×Kad) N (CF I3 N [1,1,1,0,1,0])]
 kernel_rfl
def Oj:Gd:=GF I3 func265 (λN d=>Oi N d.1 d.2.1 d.2.2.1 d.2.2.2.1)
def Iz:Fn:=⟨f209,λ |7=>cn_ [0,1,2,10,11,12,13,58]|8=>cn_ [0,1,2,10,11,12,13]|9=>cn_ [0,1,2,10,11,12,13,14]|10=>cn_ [0,1,2,10,11,12,13,14,84]|11=>cn_ [0,1,2,10,11,13,14]|12=>cn_ [0,1,2,10,11,12,13,14]|13=>cn_ [0,1,2,10,11,12,13,14,98]|14=>cn_ [0,1,2,10,11,12,13]|100007=>cn_ [0,1,2,10,11,12,13]|_=>[],λN=>Sig.of [vf_ Jp,vf_ Ja,vf_ Ja,vf_ Ja] [vf_ Jap,vf_ Jr] (λd=>BX N d.1 d.2.1 d.2.2.1 d.2.2.2.1),CX [Iw,Z9,Oj,Zsu]⟩
def Zw6(d:List Kb)(a b:Int)(f:Bool)(g e:Int)(c:List Kb):St:=⟨[(0,vV Jp d),(1,vI a),(2,vI b),(10,vP 0 0),(11,vO 1),(12,vB f),(13,vI g)],[(0,.box [.val Ja a,.val Ja b,.val Ja e]),(1,.arr Jb c)],2⟩
def Zuf(d:List Kb)(b c e:Int)(g:Bool)(h:Int)(a:Bool)(f:List Kb):St:=⟨[(0,vV Jp d),(1,vI b),(2,vI c),(10,vP 0 0),(11,vO 1),(12,vB g),(13,vI h),(58,vB a)],[(0,.box [.val Ja b,.val Ja c,.val Ja e]),(1,.arr Jb f)],2⟩
theorem Zw7{d:List Kb}{a c e:Int}{K0:Bool->Int->Bool->Ks->Option R}(i:K0= λk l h j=>K (.exit 0) (Zuf d a c e k l h j))(n f g b):Zp N d a c e K0 n f g b=LM Iz N 0 100007 n (Zw6 d a c f g e b) K:=by subst i;induction n generalizing f g b;kernel_rfl;rw[Zp];simp only[*];kernel_rfl
theorem Z7f(l1:List Kb)(a b bh:Int):DN Iz N (l1,a,b,bh,())=BX N l1 a b bh:=by
 conv=>rhs;rw[BX];simp(disch:=exact id (by kernel_rfl)) only[Zw7 (R:=Unit×(Ks×Kf)) N (CF Iz N [1,1,1,1,1,0,1,0])]
 kernel_rfl
def Z7g:Gd:=GF Iz func209 (λN d=>Z7f N d.1 d.2.1 d.2.2.1 d.2.2.2.1)
def I4:Fn:=⟨f211,λ |4=>cn_ [0,3,10]|5=>cn_ [0,3]|6=>cn_ [0,3,18]|7=>cn_ [2]|100004=>cn_ [0,3]|_=>[],λN=>Sig.of [vf_ Ji] [vf_ Jr] (λd=>mO N d.1),CX [lK]⟩
theorem Z0b{l2:List Int}{K0 K1}(b:K0=K .ret ⟨[(2,vB false)],[],0⟩)(c:K1= λd e=>K (.exit 0) ⟨[(0,vV Ji l2),(3,vI d),(10,vB e)],[],0⟩)(n a):wX N l2 K0 K1 n a=LM I4 N 0 100004 n ⟨[(0,vV Ji l2),(3,vI a)],[],0⟩ K:=by subst b c;induction n generalizing a;kernel_rfl;rw[wX];simp only[*];kernel_rfl
theorem Ol(l1:List Int):DN I4 N (l1,())=mO N l1:=by
 conv=>rhs;rw[mO];simp(disch:=exact id (by kernel_rfl)) only[Z0b (R:=Unit×Kf) N (CF I4 N [1,1,0,1,0])]
 kernel_rfl
def QB:Gd:=GF I4 func211 (λN d=>Ol N d.1)
def Z7h:Fn:=⟨f266,Wy,λN=>Sig.of [vf_ Ja,vf_ Ja] [vt_ Jb] (λd=>EP N d.1 d.2.1),W5⟩
def Z7i:Gd:=GN Z7h func266
def Z7j:Fn:=⟨f71,Wy,λN=>Sig.of [vf_ Ji,vf_ Ja] [vf_ Ja,vf_ Jr] (λd=>EM N d.1 d.2.1),CX [EH,xM,QF,ED]⟩
def Zru:Gd:=GF Z7j func71
def Z7k:Fn:=⟨f210,Wy,λN=>Sig.of [vt_ Jah,vt_ Ju,vf_ Ji] [vt_ Jan,vf_ Jd,vt_ Jb,vf_ Jr] (λd=>JC N d.1 d.2.1 d.2.2.1),CX [Zrs,Ir,Zrt,QB,Qt,Qu,Z7i,ZJ,Zru]⟩
def Z7l:Gd:=GF Z7k func210
def Z49:Fn:=⟨f163,Wy,λN=>Sig.of [vt_ Jg,vt_ (TY_Root),vf_ Ja,vt_ Ju] [vt_ Jg,vt_ (TY_Root)] (λd=>IT N d.1 d.2.1 d.2.2.1 d.2.2.2.1),CX [Z2l,Z7g,ZK,Z7l]⟩
def Z5a:Gd:=GF Z49 func163
def PL:Fn:=⟨f164,Wy,λN=>Sig.of [vt_ Ju,vf_ Ji] [vf_ Jd,vf_ Jr] (λd=>E5 N d.1 d.2.1),CX [J4,QB]⟩
def Zza:Gd:=GF PL func164
def Om:Fn:=⟨f122,Wy,λN=>Sig.of [vt_ Jg,vt_ (TY_Root),vf_ Ja,vt_ Jaf] [vt_ Jg,vt_ (TY_Root)] (λd=>J1 N d.1 d.2.1 d.2.2.1 d.2.2.2.1),CX [Z47,Zqd,ox,Ql,Zue,Z99,Z5a,Zza]⟩
def On:Gd:=GF Om func122
def IA:Fn:=⟨f165,λ |2=>cn_ [1,3,8]|3=>cn_ [1,3]|4=>cn_ [1,3,17]|5=>cn_ [2]|100002=>cn_ [1,3]|_=>[],λN=>Sig.of [vt_ (TY_Family)] [vf_ Jr] (λd=>BY N d.1),W5⟩
theorem Zxb{b3:Y_Family}{K0 K1}(b:K0=K .ret ⟨[(2,vB false)],[],0⟩)(c:K1= λd e=>K (.exit 0) ⟨[(1,vP 0 0),(3,vI d),(8,vB e)],[(0,.box (split (TY_Family) b3))],1⟩)(n a):wU N b3 K0 K1 n a=LM IA N 0 100002 n ⟨[(1,vP 0 0),(3,vI a)],[(0,.box (split (TY_Family) b3))],1⟩ K:=by subst b c;induction n generalizing a;kernel_rfl;rw[wU];simp only[*];kernel_rfl
theorem Z7m(f1:Y_Family):DN IA N (f1,())=BY N f1:=by
 conv=>rhs;rw[BY];simp(disch:=exact id (by kernel_rfl)) only[Zxb (R:=Unit×Kf) N (CF IA N [1,0,1,0])]
 kernel_rfl
def Z7n:Gd:=GN IA func165 (λN d=>Z7m N d.1)
def IB:Fn:=⟨f166,λ |5=>cn_ [1,3,4,23]|6=>cn_ [1,3,4]|7=>cn_ [1,3,4]|8=>cn_ [1,3,4,44]|9=>cn_ [1,3,4]|100005=>cn_ [1,3,4]|_=>[],λN=>Sig.of [vt_ (TY_Family)] [vf_ Jd] (λd=>BZ N d.1),CX [QB,ox]⟩
def Zxc(b:Int)(a:Y_Family)(c:List Int):St:=⟨[(1,vP 0 0),(3,vO 1),(4,vI b)],[(0,.box (split (TY_Family) a)),(1,.arr Ja c)],2⟩
def Zui(c:Y_Family)(d:Int)(a:Bool)(b:List Int):St:=⟨[(1,vP 0 0),(3,vO 1),(4,vI d),(23,vB a)],[(0,.box (split (TY_Family) c)),(1,.arr Ja b)],2⟩
theorem Zxd{a:Y_Family}{K0:Int->Bool->Kg->Option R}(f:K0= λg d e=>K (.exit 0) (Zui a g d e))(n b c):p8 N a K0 n b c=LM IB N 0 100005 n (Zxc b a c) K:=by subst f;induction n generalizing b c;kernel_rfl;rw[p8];simp only[*];kernel_rfl
theorem Z7o(f1:Y_Family):DN IB N (f1,())=BZ N f1:=by
 conv=>rhs;rw[BZ];simp(disch:=exact id (by kernel_rfl)) only[Zxd (R:=Unit×Kad) N (CF IB N [1,1,1,0,1,0])]
 kernel_rfl
def Z7p:Gd:=GF IB func166 (λN d=>Z7o N d.1)
def IC:Fn:=⟨f167,λ |3=>cn_ [1,3,4,10]|4=>cn_ [1,3,4]|5=>cn_ [1,3,4]|100003=>cn_ [1,3,4]|_=>[],λN=>Sig.of [vt_ (TY_Family)] [vf_ Jc] (λd=>B0 N d.1),W5⟩
def Zxe(a:Int)(b3:Y_Family)(l4:List Kc):St:=⟨[(1,vP 0 0),(3,vO 1),(4,vI a)],[(0,.box (split (TY_Family) b3)),(1,.arr Jt l4)],2⟩
def Zuj(b3:Y_Family)(a:Int)(c:Bool)(b:List Kc):St:=⟨[(1,vP 0 0),(3,vO 1),(4,vI a),(10,vB c)],[(0,.box (split (TY_Family) b3)),(1,.arr Jt b)],2⟩
theorem Zxf{b3:Y_Family}{K0:Int->Bool->Kx->Option R}(b:K0= λc e d=>K (.exit 0) (Zuj b3 c e d))(n a l4):wV N b3 K0 n a l4=LM IC N 0 100003 n (Zxe a b3 l4) K:=by subst b;induction n generalizing a l4;kernel_rfl;rw[wV];simp only[*];kernel_rfl
theorem Z7q(f1:Y_Family):DN IC N (f1,())=B0 N f1:=by
 conv=>rhs;rw[B0];simp(disch:=exact id (by kernel_rfl)) only[Zxf (R:=Unit×(Kx×Unit)) N (CF IC N [1,1,0,1,0])]
 kernel_rfl
def Z7r:Gd:=GN IC func167 (λN d=>Z7q N d.1)
def Z7s:Fn:=⟨f123,Wy,λN=>Sig.of [vt_ (TY_Root)] [vt_ (TY_Root)] (λd=>JD N d.1),CX [EI,Z7n,Z7p,Z7r,ox]⟩
def Z7t:Gd:=GF Z7s func123
def Z2m:Fn:=⟨f124,Wy,λN=>Sig.of [vt_ Jg,vt_ (TY_Root)] [vt_ Jg,vt_ (TY_Root)] (λd=>Il N d.1 d.2.1),CX [Ql]⟩
def Z2n:Gd:=GF Z2m func124
def Zpx:Fn:=⟨f125,Wy,λN=>Sig.of [.kv Jg true,vt_ (TY_Root)] [vt_ (TY_Root)] (λd=>HC N d.1 d.2.1),CX [EI,ox]⟩
def Zpy:Gd:=GF Zpx func125
def Z7u:Fn:=⟨f212,Wy,λN=>Sig.of [vt_ Jm] [vt_ Js] (λd=>EQ N d.1),W5⟩
def Zrv:Gd:=GN Z7u func212
def HU:Fn:=⟨f267,λ |2=>cn_ [0,3,7]|3=>cn_ [0,3]|4=>cn_ [0,3,31]|5=>cn_ [2]|100002=>cn_ [0,3]|_=>[],λN=>Sig.of [vf_ Ji] [vf_ Jr] (λd=>EC N d.1),CX [tp]⟩
theorem Zs8{l2:List Int}{K0 K1}(b:K0=K .ret ⟨[(2,vB false)],[],0⟩)(c:K1= λd e=>K (.exit 0) ⟨[(0,vV Ji l2),(3,vI d),(7,vB e)],[],0⟩)(n a):sf N l2 K0 K1 n a=LM HU N 0 100002 n ⟨[(0,vV Ji l2),(3,vI a)],[],0⟩ K:=by subst b c;induction n generalizing a;kernel_rfl;rw[sf];simp only[*];kernel_rfl
theorem Z2o(l1:List Int):DN HU N (l1,())=EC N l1:=by
 conv=>rhs;rw[EC];simp(disch:=exact id (by kernel_rfl)) only[Zs8 (R:=Unit×Kf) N (CF HU N [1,0,1,0])]
 kernel_rfl
def Z2p:Gd:=GF HU func267 (λN d=>Z2o N d.1)
def Oo:Fn:=⟨f268,Wy,λN=>Sig.of [vt_ Jm] [vf_ Ja] (λd=>J2 N d.1),W5⟩
def Oq:Gd:=GN Oo func268
def H4:Fn:=⟨f213,λ |4=>cn_ [1,3,42]|5=>cn_ [1,3]|6=>cn_ [1,3,58]|7=>cn_ [2]|100004=>cn_ [1,3]|_=>[],λN=>Sig.of [vt_ Jm] [vf_ Jr] (λd=>xR N d.1),CX [Z9,Qn,Z2p,Oq]⟩
theorem Zul{b9:Int×Int×Int×Int×Int×List Kc×List Int}{K0 K1}(d:K0=K .ret ⟨[(2,vB false)],[],0⟩)(e:K1= λc b=>K (.exit 0) ⟨[(1,vP 0 0),(3,vI c),(42,vB b)],[(0,.box (split Jm b9))],1⟩)(n a):AK N b9 K0 K1 n a=LM H4 N 0 100004 n ⟨[(1,vP 0 0),(3,vI a)],[(0,.box (split Jm b9))],1⟩ K:=by subst d e;induction n generalizing a;kernel_rfl;rw[AK];simp only[*];kernel_rfl
theorem Z5b(c1:Int×Int×Int×Int×Int×List Kc×List Int):DN H4 N (c1,())=xR N c1:=by
 conv=>rhs;rw[xR];simp(disch:=exact id (by kernel_rfl)) only[Zul (R:=Unit×Kf) N (CF H4 N [1,1,0,1,0])]
 kernel_rfl
def ZX:Gd:=GF H4 func213 (λN d=>Z5b N d.1)
def Z7v:Fn:=⟨f214,Wy,λN=>Sig.of [vt_ Jm,vf_ Ja] [vt_ Jm] (λd=>ki N d.1 d.2.1),W5⟩
def Zrw:Gd:=GN Z7v func214
def Zxg:Fn:=⟨f168,Wy,λN=>Sig.of [vt_ Jm] [vt_ Jm,vf_ Jr] (λd=>HS N d.1),CX [Zrv,ZX,Zrw]⟩
def Zxh:Gd:=GF Zxg func168
def Ot:Fn:=⟨f215,Wy,λN=>Sig.of [vt_ Jad] [vt_ Jz] (λd=>oC N d.1),W5⟩
def EV:Gd:=GN Ot func215
def PM:Fn:=⟨f217,Wy,λN=>Sig.of [vt_ Jad,vf_ Ja,vf_ Ja] [vt_ Jz,vf_ Jr] (λd=>E8 N d.1 d.2.1 d.2.2.1),CX [EV,EZ,tp,Z9]⟩
def PN:Gd:=GF PM func217
def Pe:Fn:=⟨f218,Wy,λN=>Sig.of [vt_ Jm,vf_ Ja] [vt_ Jm] (λd=>mS N d.1 d.2.1),W5⟩
def Pf:Gd:=GN Pe func218
def PO:Fn:=⟨f219,Wy,λN=>Sig.of [vt_ Jad] [vt_ Jz,vf_ Ja] (λd=>KI N d.1),CX [EV,EZ]⟩
def PP:Gd:=GF PO func219
def Ou:Fn:=⟨f269,Wy,λN=>Sig.of [vt_ Jad,vf_ Ja,vf_ Ja] [vf_ Jr] (λd=>E3 N d.1 d.2.1 d.2.2.1),CX [EZ,tp,Z9]⟩
def Zsw:Gd:=GF Ou func269
def Ph:Fn:=⟨f220,Wy,λN=>Sig.of [vt_ Jad,vf_ Ja,vf_ Ja,vf_ Ja] [vt_ Jz,vf_ Jr] (λd=>E0 N d.1 d.2.1 d.2.2.1 d.2.2.2.1),CX [EV,Zsw,lK]⟩
def Pi:Gd:=GF Ph func220
def Ov:Fn:=⟨f221,Wy,λN=>Sig.of [vt_ Jad,vf_ Ja,vf_ Ja,vf_ Ja] [vt_ Jz,vf_ Jr] (λd=>x9 N d.1 d.2.1 d.2.2.1 d.2.2.2.1),CX [EV,Zsw,Z9]⟩
def Ow:Gd:=GF Ov func221
def Z0c:Fn:=⟨f169,Wy,λN=>Sig.of [vt_ Jad,vt_ Jm] [vt_ Jz,vt_ Jm] (λd=>H1 N d.1 d.2.1),CX [EV,Zrv,EZ,ZX,PN,Zrw,Pf,PP,Pi,Ow]⟩
def Z0d:Gd:=GF Z0c func169
def Z2q:Fn:=⟨f126,Wy,λN=>Sig.of [vt_ Jg,vt_ (TY_Root),vf_ Ja] [vt_ Jg,vt_ (TY_Root)] (λd=>Im N d.1 d.2.1 d.2.2.1),CX [Zxh,EI,Z0d]⟩
def Z2r:Gd:=GF Z2q func126
def H5:Fn:=⟨f171,λ |4=>cn_ [0,1,5,6,7,14]|5=>cn_ [0,1,5,6,7]|6=>cn_ [0,1,5,6,7,27]|7=>cn_ [0,1,5,6,7]|100004=>cn_ [0,1,5,6,7]|_=>[],λN=>Sig.of [vf_ Jp,vf_ Ja] [vf_ Jap] (λd=>A5 N d.1 d.2.1),CX [Iw]⟩
def Zum(l4:List Kb)(b:Int)(a:Bool)(c:Int)(d:List Kb):St:=⟨[(0,vV Jp l4),(1,vI b),(5,vO 0),(6,vB a),(7,vI c)],[(0,.arr Jb d)],1⟩
def Ztb(l4:List Kb)(d:Int)(c:Bool)(e:Int)(a:Bool)(b:List Kb):St:=⟨[(0,vV Jp l4),(1,vI d),(5,vO 0),(6,vB c),(7,vI e),(14,vB a)],[(0,.arr Jb b)],1⟩
theorem Zun{l4:List Kb}{b:Int}{a:Bool}{K0:Int->Bool->Ks->Option R}(g:K0= λh e f=>K (.exit 0) (Ztb l4 b a h e f))(n c d):qb N l4 b a K0 n c d=LM H5 N 0 100004 n (Zum l4 b a c d) K:=by subst g;induction n generalizing c d;kernel_rfl;rw[qb];simp only[*];kernel_rfl
theorem Z5c(l1:List Kb)(aS:Int):DN H5 N (l1,aS,())=A5 N l1 aS:=by
 conv=>rhs;rw[A5];simp(disch:=exact id (by kernel_rfl)) only[Zun (R:=Unit×Kag) N (CF H5 N [1,1,1,0,1,0])]
 kernel_rfl
def Z5d:Gd:=GF H5 func171 (λN d=>Z5c N d.1 d.2.1)
def Z7w:Fn:=⟨f128,Wy,λN=>Sig.of [.v (.prod Ja (.prod Ja (.prod Jz (.prod Jan (.prod Jp (.prod (.own (TY_Root)) (.own Jab))))))) true,vt_ (TY_Root),vf_ Ja] [vt_ Jg,vt_ Jv] (λd=>QE N d.1 d.2.1 d.2.2.1),CX [Z5d,Zsv]⟩
def Z7x:Gd:=GF Z7w func128
def Z7y:Fn:=⟨f93,Wy,λN=>Sig.of [vt_ Jg,vt_ Jaf,vf_ Ja] [vt_ Jg] (λd=>ER N d.1 d.2.1 d.2.2.1),CX [Z9,EI,Z60,On,Z7t,Z2n,Zpy,Z2r,Ql,Z7x]⟩
def Z7z:Gd:=GF Z7y func93
def H6:Fn:=⟨f131,λ |2=>cn_ [1,2,4,5,10]|3=>cn_ [1,2,4,5]|4=>cn_ [1,2,4,5,20]|5=>cn_ [4]|100002=>cn_ [1,2,4,5]|_=>[],λN=>Sig.of [vt_ (TY_Family),vf_ Ja] [vt_ Jb] (λd=>xN N d.1 d.2.1),W5⟩
def Zuo(b c:Int)(a:Y_Family):St:=⟨[(1,vI b),(2,vP 0 0),(4,vP 1 0),(5,vI c)],[(0,.box (split (TY_Family) a)),(1,.box [.val Ja (0:Int),.val Ja (0:Int),.val Ja (0:Int)])],2⟩
def Ztc(b:Int)(a:Y_Family)(b9:Int×Int×Int):St:=⟨[(4,vP 0 0)],[(0,.box [.val Ja b9.1,.val Ja b9.2.1,.val Ja b9.2.2])],1⟩
def Ztd(c:Int)(b:Y_Family)(d:Int)(a:Bool):St:=⟨[(1,vI c),(2,vP 0 0),(4,vP 1 0),(5,vI d),(10,vB a)],[(0,.box (split (TY_Family) b)),(1,.box [.val Ja (0:Int),.val Ja (0:Int),.val Ja (0:Int)])],2⟩
theorem Zup{b:Int}{a:Y_Family}{K0:Kb->Option R}{K1}(g:K0= λe=>K .ret (Ztc b a e))(h:K1= λf d=>K (.exit 0) (Ztd b a f d))(n c):wE N b a K0 K1 n c=LM H6 N 0 100002 n (Zuo b c a) K:=by subst g h;induction n generalizing c;kernel_rfl;rw[wE];simp only[*];kernel_rfl
theorem Z5e(f1:Y_Family)(cy:Int):DN H6 N (f1,cy,())=xN N f1 cy:=by
 conv=>rhs;rw[xN];simp(disch:=exact id (by kernel_rfl)) only[Zup (R:=Unit×(Kb×Unit)) N (CF H6 N [1,0,1,0])]
 kernel_rfl
def ZY:Gd:=GN H6 func131 (λN d=>Z5e N d.1 d.2.1)
def Zse:Fn:=⟨f132,Wy,λN=>Sig.of [.kv Jw true,vt_ (TY_KidRun)] [.v (.prod Ja (.prod Ja (.prod Ja (.prod Ja (.prod Ja (.prod Ja (.prod Jd (.prod Jap (.prod Jc (.prod (.own Jai) (.prod Jr Ju))))))))))) true] (λd=>Ek N d.1 d.2.1),CX [ox]⟩
def YX:Gd:=GF Zse func132
def Zte:Fn:=⟨f173,Wy,λN=>Sig.of [.kv Jz true,vt_ Jw,vt_ (TY_KidRun),vt_ Ju] [vt_ Jw,vt_ (TY_KidRun)] (λd=>HF N d.1 d.2.1 d.2.2.1 d.2.2.2.1),CX [Qx,ox,ZY,YX,ZQ]⟩
def Ztf:Gd:=GF Zte func173
def Zxi:Fn:=⟨f129,Wy,λN=>Sig.of [.kv Jz true,vt_ Jw,vt_ (TY_KidRun),vf_ Jh] [vt_ Jw,vt_ (TY_KidRun)] (λd=>HI N d.1 d.2.1 d.2.2.1 d.2.2.2.1),CX [Ztf,ox,Zue,Zza]⟩
def Zxj:Gd:=GF Zxi func129
def ID:Fn:=⟨f175,λ |4=>cn_ [0,3,5,6,7,12]|5=>cn_ [0,3,5,6,7]|6=>cn_ [0,3,5,6,7,26]|7=>cn_ [0,3,5,7]|8=>cn_ [0,3,5,6,7]|9=>cn_ [0,3,5,6,7,38]|10=>cn_ [0,3,5,6,7]|100004=>cn_ [0,3,5,6,7]|_=>[],λN=>Sig.of [vf_ Jp,vt_ Jb] [vf_ Jap] (λd=>B8 N d.1 d.2.1),W5⟩
def Z0e(l3:List Kb)(a:Bool)(b:Int)(b6:Int×Int×Int)(c:List Kb):St:=⟨[(0,vV Jp l3),(3,vP 0 0),(5,vO 1),(6,vB a),(7,vI b)],[(0,.box [.val Ja b6.1,.val Ja b6.2.1,.val Ja b6.2.2]),(1,.arr Jb c)],2⟩
def Zxk(l3:List Kb)(b6:Int×Int×Int)(d:Bool)(c:Int)(a:Bool)(b:List Kb):St:=⟨[(0,vV Jp l3),(3,vP 0 0),(5,vO 1),(6,vB d),(7,vI c),(12,vB a)],[(0,.box [.val Ja b6.1,.val Ja b6.2.1,.val Ja b6.2.2]),(1,.arr Jb b)],2⟩
theorem Z0f{l3:List Kb}{b6:Int×Int×Int}{K0:Bool->Int->Bool->Ks->Option R}(f:K0= λh g d e=>K (.exit 0) (Zxk l3 b6 h g d e))(n a b c):gC N l3 b6 K0 n a b c=LM ID N 0 100004 n (Z0e l3 a b b6 c) K:=by subst f;induction n generalizing a b c;kernel_rfl;rw[gC];simp only[*];kernel_rfl
theorem Ox(l1:List Kb)(e2:Int×Int×Int):DN ID N (l1,e2,())=B8 N l1 e2:=by
 conv=>rhs;rw[B8];simp(disch:=exact id (by kernel_rfl)) only[Z0f (R:=Unit×Kag) N (CF ID N [1,1,1,0,1,0])]
 kernel_rfl
def Oy:Gd:=GN ID func175 (λN d=>Ox N d.1 d.2.1)
def AT:Fn:=⟨f130,λ |4=>cn_ [2,3,4,6,7,8,9,21]|5=>cn_ [2,3,4,6,7,8,9]|6=>cn_ [2,3,4,6,7,8,9]|9=>cn_ [2,3,4,6,7,10,50]|10=>cn_ [2,3,4,6,7,10]|11=>cn_ [2,3,4,6,7,10,59]|12=>cn_ [2,3,4,6,7,10]|100004=>[.freezeC 3 6,.canon [2,3,4,6,7,8,9]]|100009=>cn_ [2,3,4,6,7,10]|_=>[],λN=>Sig.of [vt_ Jw,vt_ (TY_KidRun),vf_ Ja] [.v (.prod Ja (.prod Ja (.prod Ja (.prod Jr (.prod Ji (.prod Je (.prod Jp (.prod Jd (.prod Jc (.own (TY_KidRun))))))))))) true,.v (.prod Ja (.prod Ja (.prod Ja (.prod Ja (.prod Ja (.prod Ja (.prod Ji (.prod Jp (.prod Je (.prod (.own Jai) (.prod Jr Ju))))))))))) true] (λd=>A1 N d.1 d.2.1 d.2.2.1),CX [KF,Oy,ox]⟩
def Zuq(j i b7 b8 b9:Int)(az:Bool)(a:List Int)(c:List Kc)(e:List Kb)(f:List Int)(b:List Kc)(d:Y_KidRun)(h:List Kc)(g:List Y_KidRun):St:=⟨[(2,vI j),(3,vP 0 0),(4,vP 1 0),(6,vP 2 0),(7,vP 3 0),(8,vO 4),(9,vI i)],[(0,.box [.val Ja b7,.val Ja b8,.val Ja b9,.val Jr az,.val Ji a,.val Je c,.val Jp e,.val Ji f,.val Je b,.own 5]),(1,.box (split (TY_KidRun) d)),(2,.box [.val Ja (0:Int),.val Ja (0:Int),.val Ja (0:Int),.val Jr false,.nils,.nils,.nils,.nils,.nils,.nils]),(3,.box [.val Ja (0:Int),.val Ja (0:Int),.val Ja (0:Int),.val Ja (0:Int),.val Ja (0:Int),.val Ja (0:Int),.nils,.nils,.nils,.nils,.val Jr false,.val Ja (0:Int),.val Ja (0:Int),.val Ja (0:Int),.val Ja (0:Int)]),(4,.arr Jt h),(5,.arr (TY_KidRun) g)],6⟩
def Ztg(i b7 b8 b9:Int)(az:Bool)(a:List Int)(c:List Kc)(e:List Int)(b:List Kc)(d:Y_KidRun)(g:List Kc)(f:List Y_KidRun)(k:Int)(j:Bool)(h:List Kb):St:=⟨[(2,vI i),(3,vP 0 0),(4,vP 1 0),(6,vP 2 0),(7,vP 3 0),(8,vO 4),(9,vI k),(21,vB j)],[(0,.box [.val Ja b7,.val Ja b8,.val Ja b9,.val Jr az,.val Ji a,.val Je c,.val Jp h,.val Ji e,.val Je b,.own 5]),(1,.box (split (TY_KidRun) d)),(2,.box [.val Ja (0:Int),.val Ja (0:Int),.val Ja (0:Int),.val Jr false,.nils,.nils,.nils,.nils,.nils,.nils]),(3,.box [.val Ja (0:Int),.val Ja (0:Int),.val Ja (0:Int),.val Ja (0:Int),.val Ja (0:Int),.val Ja (0:Int),.nils,.nils,.nils,.nils,.val Jr false,.val Ja (0:Int),.val Ja (0:Int),.val Ja (0:Int),.val Ja (0:Int)]),(4,.arr Jt g),(5,.arr (TY_KidRun) f)],6⟩
theorem Zur{j b7 b8 b9:Int}{az:Bool}{a:List Int}{c:List Kc}{f:List Int}{b:List Kc}{d:Y_KidRun}{h:List Kc}{g:List Y_KidRun}{K0:Int->Bool->Ks->Option R}(k:K0= λo m l=>K (.exit 0) (Ztg j b7 b8 b9 az a c f b d h g o m l))(n i e):wF N j b7 b8 b9 az a c f b d h g K0 n i e=LM AT N 0 100004 n (Zuq j i b7 b8 b9 az a c e f b d h g) K:=by subst k;induction n generalizing i e;kernel_rfl;rw[wF];simp only[*];kernel_rfl
def Zus(m l d c b:Int)(e:Bool)(f:List Int)(g:List Kc)(h:List Kb)(i:List Int)(a:Y_KidRun)(k:List Kc)(j:List Y_KidRun):St:=⟨[(2,vI m),(3,vP 0 0),(4,vP 1 0),(6,vP 2 0),(7,vP 3 0),(10,vI l)],[(0,.box [.val Ja d,.val Ja c,.val Ja b,.val Jr e,.val Ji f,.val Je g,.val Jp h,.val Ji i,.own 4,.own 5]),(1,.box (split (TY_KidRun) a)),(2,.box [.val Ja (0:Int),.val Ja (0:Int),.val Ja (0:Int),.val Jr false,.nils,.nils,.nils,.nils,.nils,.nils]),(3,.box [.val Ja (0:Int),.val Ja (0:Int),.val Ja (0:Int),.val Ja (0:Int),.val Ja (0:Int),.val Ja (0:Int),.nils,.nils,.nils,.nils,.val Jr false,.val Ja (0:Int),.val Ja (0:Int),.val Ja (0:Int),.val Ja (0:Int)]),(4,.arr Jt k),(5,.arr (TY_KidRun) j)],6⟩
def Zth(k d c b:Int)(e:Bool)(f:List Int)(g:List Kc)(h:List Kb)(i:List Int)(a:Y_KidRun)(j:List Y_KidRun)(m:Int)(l:Bool)(n:List Kc):St:=⟨[(2,vI k),(3,vP 0 0),(4,vP 1 0),(6,vP 2 0),(7,vP 3 0),(10,vI m),(50,vB l)],[(0,.box [.val Ja d,.val Ja c,.val Ja b,.val Jr e,.val Ji f,.val Je g,.val Jp h,.val Ji i,.own 4,.own 5]),(1,.box (split (TY_KidRun) a)),(2,.box [.val Ja (0:Int),.val Ja (0:Int),.val Ja (0:Int),.val Jr false,.nils,.nils,.nils,.nils,.nils,.nils]),(3,.box [.val Ja (0:Int),.val Ja (0:Int),.val Ja (0:Int),.val Ja (0:Int),.val Ja (0:Int),.val Ja (0:Int),.nils,.nils,.nils,.nils,.val Jr false,.val Ja (0:Int),.val Ja (0:Int),.val Ja (0:Int),.val Ja (0:Int)]),(4,.arr Jt n),(5,.arr (TY_KidRun) j)],6⟩
theorem Zut{m d c b:Int}{e:Bool}{f:List Int}{g:List Kc}{h:List Kb}{i:List Int}{a:Y_KidRun}{j:List Y_KidRun}{K0:Int->Bool->Kx->Option R}(o:K0= λq p r=>K (.exit 2) (Zth m d c b e f g h i a j q p r))(n l k):sB N m d c b e f g h i a j K0 n l k=LM AT N 1 100009 n (Zus m l d c b e f g h i a k j) K:=by subst o;induction n generalizing l k;kernel_rfl;rw[sB];simp only[*];kernel_rfl
theorem Z5f(f1:Y_Family)(a:Y_KidRun)(k3:Int):DN AT N (f1,a,k3,())=A1 N f1 a k3:=by
 conv=>rhs;rw[A1];simp(disch:=exact id (by kernel_rfl)) only[Zur (R:=Unit×(Y_Family×(Y_KidRun×Unit))) N (CF AT N [1,1,1,0,1,0]),Zut (R:=Unit×(Y_Family×(Y_KidRun×Unit))) N (CF AT N [1,1,1,1,1,0,1,0])]
 kernel_rfl
def Z5g:Gd:=GF AT func130 (λN d=>Z5f N d.1 d.2.1 d.2.2.1)
def Zti:Fn:=⟨f94,Wy,λN=>Sig.of [.kv Jz true,vt_ (TY_Family),vf_ Jao,vf_ Ja] [vt_ (TY_Family)] (λd=>AG N d.1 d.2.1 d.2.2.1 d.2.2.2.1),CX [Zxj,Z5g,ZY,YX]⟩
def Ztj:Gd:=GF Zti func94
def Oz:Fn:=⟨f66,Wy,λN=>Sig.of [vt_ Jg,vt_ Jy,vt_ Jb] [vt_ Jg] (λd=>qi N d.1 d.2.1 d.2.2.1),CX [Z9,Z7z,Ztj]⟩
def Zsx:Gd:=GF Oz func66
def J6:Fn:=⟨f35,λ |5=>cn_ [1,2,3,4,15]|6=>cn_ [1,2,3,4]|7=>cn_ [1,2,3,4]|100005=>cn_ [1,2,3,4]|_=>[],λN=>Sig.of [vt_ Jy] [vt_ Jg] (λd=>yo N d.1),CX [Qm,Z92,Zsx]⟩
def Z5h(j:Int)(a:Ke×List Kn×List Kb)(az c f h:Int)(b:List Kb)(e:List Int)(d:List Kb)(g:List Y_Root)(i:List Ko):St:=⟨[(1,vP 0 0),(2,vP 1 0),(3,vP 2 0),(4,vI j)],[(0,.box [.val Ji a.1.1,.val Ji a.1.2.1,.val Ja a.1.2.2,.val Jo a.2.1,.val Jp a.2.2]),(1,.box [.val Ja (0:Int),.val Ja (0:Int),.val Ja (0:Int),.nils,.nils,.val Ja (0:Int),.nils,.nils,.nils]),(2,.box [.val Ja az,.val Ja c,.val Ja f,.own 3,.own 4,.val Ja h,.own 5,.own 6,.own 7]),(3,.arr Jb b),(4,.arr Ja e),(5,.arr Jb d),(6,.arr (TY_Root) g),(7,.arr Jab i)],8⟩
def Z2s(a:Ke×List Kn×List Kb)(l:Int)(b:Bool)(k c h i:Int)(e:List Kb)(g:List Int)(j:List Kb)(d:List Y_Root)(f:List Ko):St:=⟨[(1,vP 0 0),(2,vP 1 0),(3,vP 2 0),(4,vI l),(15,vB b)],[(0,.box [.val Ji a.1.1,.val Ji a.1.2.1,.val Ja a.1.2.2,.val Jo a.2.1,.val Jp a.2.2]),(1,.box [.val Ja (0:Int),.val Ja (0:Int),.val Ja (0:Int),.nils,.nils,.val Ja (0:Int),.nils,.nils,.nils]),(2,.box [.val Ja k,.val Ja c,.val Ja h,.own 3,.own 4,.val Ja i,.own 5,.own 6,.own 7]),(3,.arr Jb e),(4,.arr Ja g),(5,.arr Jb j),(6,.arr (TY_Root) d),(7,.arr Jab f)],8⟩
theorem Z5i{e:Ke×List Kn×List Kb}{K0:Int->Bool->Int->Int->Int->Int->Ks->Kg->Ks->(List Y_Root)->Kac->Option R}(u:K0= λw k v l r s o q t m p=>K (.exit 0) (Z2s e w k v l r s o q t m p))(n j az b f h a d c g i):xS N e K0 n j az b f h a d c g i=LM J6 N 0 100005 n (Z5h j e az b f h a d c g i) K:=by subst u;induction n generalizing j az b f h a d c g i;kernel_rfl;rw[xS];simp only[*];kernel_rfl
theorem PQ(s1:Ke×List Kn×List Kb):DN J6 N (s1,())=yo N s1:=by
 conv=>rhs;rw[yo];simp(disch:=exact id (by kernel_rfl)) only[Z5i (R:=Unit×(Y_World×Unit)) N (CF J6 N [1,1,1,0,1,0])]
 kernel_rfl
def Zzb:Gd:=GF J6 func35 (λN d=>PQ N d.1)
def AP:Fn:=⟨f37,λ |3=>cn_ [1,2,3,4,15]|4=>cn_ [1,2,3,4]|5=>cn_ [1,2,3,4,5]|6=>cn_ [1,2,3,4,5]|7=>cn_ [1,2,3,4,5,27]|8=>cn_ [1,2,3,4,5]|9=>cn_ [1,2,3,4,5,35]|10=>cn_ [1,2,3,4,5]|11=>cn_ [1,2,3,4,5,43]|12=>cn_ [1,2,3,4,5]|13=>cn_ [1,2,3,4,5,53]|14=>cn_ [1,2,3,4]|16=>cn_ [1,2,3,6,65]|17=>cn_ [1,2,3,6]|18=>cn_ [1,2,3,6,75]|19=>cn_ [1,2,3,6]|100003=>cn_ [1,2,3,4]|100016=>cn_ [1,2,3,6]|_=>[],λN=>Sig.of [vt_ (TY_World)] [vt_ Jak] (λd=>B1 N d.1),CX [Z9]⟩
def Zxl(f:Int)(b3:Y_World)(a c d e b:Int):St:=⟨[(1,vP 0 0),(2,vP 1 0),(3,vP 2 0),(4,vI f)],[(0,.box (split (TY_World) b3)),(1,.box [.val Ja (0:Int),.val Ja (0:Int),.val Ja (0:Int),.val Ja (0:Int),.val Ja (0:Int),.val Ja (0:Int),.val Ja (0:Int)]),(2,.box [.val Ja a,.val Ja c,.val Ja d,.val Ja e,.val Ja b,.val Ja (0:Int),.val Ja (Wh b3.2.2.2.2.1)])],3⟩
def Zuu(b3:Y_World)(g:Int)(f:Bool)(a d b c e:Int):St:=⟨[(1,vP 0 0),(2,vP 1 0),(3,vP 2 0),(4,vI g),(15,vB f)],[(0,.box (split (TY_World) b3)),(1,.box [.val Ja (0:Int),.val Ja (0:Int),.val Ja (0:Int),.val Ja (0:Int),.val Ja (0:Int),.val Ja (0:Int),.val Ja (0:Int)]),(2,.box [.val Ja a,.val Ja d,.val Ja b,.val Ja c,.val Ja e,.val Ja (0:Int),.val Ja (Wh b3.2.2.2.2.1)])],3⟩
theorem Zxm{b3:Y_World}{K0}(k:K0= λo m g j h i l=>K (.exit 0) (Zuu b3 o m g j h i l))(n f a c d e b):hV N b3 K0 n f a c d e b=LM AP N 0 100003 n (Zxl f b3 a c d e b) K:=by subst k;induction n generalizing f a c d e b;kernel_rfl;rw[hV];simp only[*];kernel_rfl
def Zxn(d:Int)(a:Y_World)(b c h e f g:Int):St:=⟨[(1,vP 0 0),(2,vP 1 0),(3,vP 2 0),(6,vI d)],[(0,.box (split (TY_World) a)),(1,.box [.val Ja (0:Int),.val Ja (0:Int),.val Ja (0:Int),.val Ja (0:Int),.val Ja (0:Int),.val Ja (0:Int),.val Ja (0:Int)]),(2,.box [.val Ja b,.val Ja c,.val Ja h,.val Ja e,.val Ja f,.val Ja g,.val Ja (Wh a.2.2.2.2.1)])],3⟩
def Zuv(a:Y_World)(b c f d e h:Int)(i:Bool)(g:Int):St:=⟨[(1,vP 0 0),(2,vP 1 0),(3,vP 2 0),(6,vI h),(65,vB i)],[(0,.box (split (TY_World) a)),(1,.box [.val Ja (0:Int),.val Ja (0:Int),.val Ja (0:Int),.val Ja (0:Int),.val Ja (0:Int),.val Ja (0:Int),.val Ja (0:Int)]),(2,.box [.val Ja b,.val Ja c,.val Ja f,.val Ja d,.val Ja e,.val Ja g,.val Ja (Wh a.2.2.2.2.1)])],3⟩
theorem Zxo{b:Y_World}{a c h e f:Int}{K0}(i:K0= λk l j=>K (.exit 3) (Zuv b a c h e f k l j))(n d g):mD N b a c h e f K0 n d g=LM AP N 1 100016 n (Zxn d b a c h e f g) K:=by subst i;induction n generalizing d g;kernel_rfl;rw[mD];simp only[*];kernel_rfl
theorem Z70(w1:Y_World):DN AP N (w1,())=B1 N w1:=by
 conv=>rhs;rw[B1];simp(disch:=exact id (by kernel_rfl)) only[Zxm (R:=Unit×(Kl×Unit)) N (CF AP N [1,1,0,1,0]),Zxo (R:=Unit×(Kl×Unit)) N (CF AP N [1,1,1,0,1,0])]
 kernel_rfl
def Z71:Gd:=GF AP func37 (λN d=>Z70 N d.1)
def Z2t:Fn:=⟨f36,Wy,λN=>Sig.of [vt_ Jak] [vf_ Jaa] (λd=>Ij N d.1),CX [JW]⟩
def Z2u:Gd:=GF Z2t func36
def Z2v:Fn:=⟨f38,Wy,λN=>Sig.of [vf_ Ja] [vf_ Jaa] (λd=>Qq N d.1),CX [Z9]⟩
def Z2w:Gd:=GF Z2v func38
def J7:Fn:=⟨f67,λ |2=>cn_ [1,3,8]|3=>cn_ [1,3]|4=>cn_ [1,3,17]|5=>cn_ [2]|100002=>cn_ [1,3]|_=>[],λN=>Sig.of [vt_ (TY_World)] [vf_ Jr] (λd=>CA N d.1),W5⟩
theorem Z5k{b3:Y_World}{K0 K1}(b:K0=K .ret ⟨[(2,vB false)],[],0⟩)(c:K1= λd e=>K (.exit 0) ⟨[(1,vP 0 0),(3,vI d),(8,vB e)],[(0,.box (split (TY_World) b3))],1⟩)(n a):xQ N b3 K0 K1 n a=LM J7 N 0 100002 n ⟨[(1,vP 0 0),(3,vI a)],[(0,.box (split (TY_World) b3))],1⟩ K:=by subst b c;induction n generalizing a;kernel_rfl;rw[xQ];simp only[*];kernel_rfl
theorem PR(w1:Y_World):DN J7 N (w1,())=CA N w1:=by
 conv=>rhs;rw[CA];simp(disch:=exact id (by kernel_rfl)) only[Z5k (R:=Unit×Kf) N (CF J7 N [1,0,1,0])]
 kernel_rfl
def PS:Gd:=GN J7 func67 (λN d=>PR N d.1)
def tE:Fn:=⟨f39,λ |3=>cn_ [1,2,4,5,16]|4=>cn_ [1,2,4,5,6]|5=>cn_ [1,2,4,5,6,21]|6=>cn_ [1,2,4,5,6]|7=>cn_ [1,2,4,5,6]|8=>cn_ [1,2,4,5,6,7]|9=>cn_ [1,2,4,5,6,7,37]|10=>cn_ [1,2,4,5,6,7]|11=>cn_ [1,2,4,5,6,7]|12=>cn_ [1,2,4,5]|100003=>cn_ [1,2,4,5]|100005=>cn_ [1,2,4,5,6]|100009=>cn_ [1,2,4,5,6,7]|_=>[],λN=>Sig.of [vt_ Jy] [vt_ Jg,vf_ Ja] (λd=>Cg N d.1),CX [Zzb,PS,Zsx]⟩
def Z2z(o j m:Int)(a:Ke×List Kn×List Kb)(e f h k n d c b:Int)(l:List Kb)(q:List Int)(p:List Kb)(i:List Y_Root)(g:List Ko):St:=⟨[(1,vP 0 0),(2,vP 1 0),(4,vP 2 0),(5,vI o),(6,vI j),(7,vI m)],[(0,.box [.val Ji a.1.1,.val Ji a.1.2.1,.val Ja a.1.2.2,.val Jo a.2.1,.val Jp a.2.2]),(1,.box [.val Ja e,.val Ja f,.val Ja h,.nils,.nils,.val Ja k,.nils,.nils,.nils]),(2,.box [.val Ja n,.val Ja d,.val Ja c,.own 3,.own 4,.val Ja b,.own 5,.own 6,.own 7]),(3,.arr Jb l),(4,.arr Ja q),(5,.arr Jb p),(6,.arr (TY_Root) i),(7,.arr Jab g)],8⟩
def Z0g(o m:Int)(a:Ke×List Kn×List Kb)(f g h n q:Int)(b:Bool)(c d e i:Int)(p:List Kb)(dX:List Int)(l:List Kb)(j:List Y_Root)(k:List Ko):St:=⟨[(1,vP 0 0),(2,vP 1 0),(4,vP 2 0),(5,vI o),(6,vI m),(7,vI q),(37,vB b)],[(0,.box [.val Ji a.1.1,.val Ji a.1.2.1,.val Ja a.1.2.2,.val Jo a.2.1,.val Jp a.2.2]),(1,.box [.val Ja f,.val Ja g,.val Ja h,.nils,.nils,.val Ja n,.nils,.nils,.nils]),(2,.box [.val Ja c,.val Ja d,.val Ja e,.own 3,.own 4,.val Ja i,.own 5,.own 6,.own 7]),(3,.arr Jb p),(4,.arr Ja dX),(5,.arr Jb l),(6,.arr (TY_Root) j),(7,.arr Jab k)],8⟩
theorem Z20{p j:Int}{d:Ke×List Kn×List Kb}{e f h k:Int}{K0:Int->Bool->Int->Int->Int->Int->Ks->Kg->Ks->(List Y_Root)->Kac->Option R}(x:K0= λD s u v w y C t B z A=>K (.exit 4) (Z0g p j d e f h k D s u v w y C t B z A))(n m o c b a l r q i g):xK N p j d e f h k K0 n m o c b a l r q i g=LM tE N 2 100009 n (Z2z p j m d e f h k o c b a l r q i g) K:=by subst x;induction n generalizing m o c b a l r q i g;kernel_rfl;rw[xK];simp only[*];kernel_rfl
def Z21(p o:Int)(a:Ke×List Kn×List Kb)(m n e i k d h l:Int)(f:List Kb)(g:List Int)(c:List Kb)(b:List Y_Root)(j:List Ko):St:=⟨[(1,vP 0 0),(2,vP 1 0),(4,vP 2 0),(5,vI p),(6,vI o)],[(0,.box [.val Ji a.1.1,.val Ji a.1.2.1,.val Ja a.1.2.2,.val Jo a.2.1,.val Jp a.2.2]),(1,.box [.val Ja m,.val Ja n,.val Ja e,.nils,.nils,.val Ja i,.nils,.nils,.nils]),(2,.box [.val Ja k,.val Ja d,.val Ja h,.own 3,.own 4,.val Ja l,.own 5,.own 6,.own 7]),(3,.arr Jb f),(4,.arr Ja g),(5,.arr Jb c),(6,.arr (TY_Root) b),(7,.arr Jab j)],8⟩
def Z0h(f:Int)(a:Ke×List Kn×List Kb)(d e b c l:Int)(m:Bool)(n o p g:Int)(h:List Kb)(i:List Int)(j:List Kb)(k:List Y_Root)(q:List Ko):St:=⟨[(1,vP 0 0),(2,vP 1 0),(4,vP 2 0),(5,vI f),(6,vI l),(21,vB m)],[(0,.box [.val Ji a.1.1,.val Ji a.1.2.1,.val Ja a.1.2.2,.val Jo a.2.1,.val Jp a.2.2]),(1,.box [.val Ja d,.val Ja e,.val Ja b,.nils,.nils,.val Ja c,.nils,.nils,.nils]),(2,.box [.val Ja n,.val Ja o,.val Ja p,.own 3,.own 4,.val Ja g,.own 5,.own 6,.own 7]),(3,.arr Jb h),(4,.arr Ja i),(5,.arr Jb j),(6,.arr (TY_Root) k),(7,.arr Jab q)],8⟩
theorem Z22{q:Int}{b:Ke×List Kn×List Kb}{m o e i:Int}{K0:Int->Bool->Int->Int->Int->Int->Ks->Kg->Ks->(List Y_Root)->Kac->Option R}(r:K0= λx y z A B s t u v w C=>K (.exit 2) (Z0h q b m o e i x y z A B s t u v w C))(n p k d h l f g c a j):th N q b m o e i K0 n p k d h l f g c a j=LM tE N 1 100005 n (Z21 q p b m o e i k d h l f g c a j) K:=by subst r;induction n generalizing p k d h l f g c a j with|zero=>kernel_rfl|succ n ih=>rw[th];simp(disch:=exact id (by kernel_rfl)) only[ih,Z20 N (CL tE N 1 100005 [1,0,0,1,1,0] n K)];kernel_rfl
def Z23(h:Int)(b4:Ke×List Kn×List Kb)(b9 az b f:Int)(d:List Kb)(a:List Int)(e:List Kb)(c:List Y_Root)(g:List Ko):St:=⟨[(1,vP 0 0),(2,vP 1 0),(4,vP 2 0),(5,vI h)],[(0,.box [.val Ji b4.1.1,.val Ji b4.1.2.1,.val Ja b4.1.2.2,.val Jo b4.2.1,.val Jp b4.2.2]),(1,.box [.val Ja (0:Int),.val Ja (0:Int),.val Ja (0:Int),.nils,.nils,.val Ja (0:Int),.nils,.nils,.nils]),(2,.box [.val Ja b9,.val Ja az,.val Ja b,.own 3,.own 4,.val Ja f,.own 5,.own 6,.own 7]),(3,.arr Jb d),(4,.arr Ja a),(5,.arr Jb e),(6,.arr (TY_Root) c),(7,.arr Jab g)],8⟩
def Z0i(b4:Ke×List Kn×List Kb)(d:Int)(e:Bool)(f g h i:Int)(j:List Kb)(k:List Int)(a:List Kb)(b:List Y_Root)(c:List Ko):St:=⟨[(1,vP 0 0),(2,vP 1 0),(4,vP 2 0),(5,vI d),(16,vB e)],[(0,.box [.val Ji b4.1.1,.val Ji b4.1.2.1,.val Ja b4.1.2.2,.val Jo b4.2.1,.val Jp b4.2.2]),(1,.box [.val Ja (0:Int),.val Ja (0:Int),.val Ja (0:Int),.nils,.nils,.val Ja (0:Int),.nils,.nils,.nils]),(2,.box [.val Ja f,.val Ja g,.val Ja h,.own 3,.own 4,.val Ja i,.own 5,.own 6,.own 7]),(3,.arr Jb j),(4,.arr Ja k),(5,.arr Jb a),(6,.arr (TY_Root) b),(7,.arr Jab c)],8⟩
theorem Z24{b4:Ke×List Kn×List Kb}{K0:Int->Bool->Int->Int->Int->Int->Ks->Kg->Ks->(List Y_Root)->Kac->Option R}(i:K0= λm o p q r s t u j k l=>K (.exit 0) (Z0i b4 m o p q r s t u j k l))(n h b9 az b f d a e c g):ti N b4 K0 n h b9 az b f d a e c g=LM tE N 0 100003 n (Z23 h b4 b9 az b f d a e c g) K:=by subst i;induction n generalizing h b9 az b f d a e c g with|zero=>kernel_rfl|succ n ih=>rw[ti];simp(disch:=exact id (by kernel_rfl)) only[ih,Z22 N (CL tE N 0 100003 [1,0,0,1,0] n K)];kernel_rfl
theorem Pj(s1:Ke×List Kn×List Kb):DN tE N (s1,())=Cg N s1:=by
 conv=>rhs;rw[Cg];simp(disch:=exact id (by kernel_rfl)) only[Z24 (R:=Unit×(Y_World×Kj)) N (CF tE N [1,1,1,0,0])]
 kernel_rfl
def Pk:Gd:=GF tE func39 (λN d=>Pj N d.1)
def Z72:Fn:=⟨f68,Wy,λN=>Sig.of [vt_ (TY_Root)] [vf_ Jr] (λd=>EX N d.1),W5⟩
def Zrx:Gd:=GN Z72 func68
def Z73:Fn:=⟨f95,Wy,λN=>Sig.of [vt_ (TY_Root)] [vf_ Ja] (λd=>oh N d.1),CX [Zrx]⟩
def Z74:Gd:=GF Z73 func95
def Z5l:Fn:=⟨f69,Wy,λN=>Sig.of [vt_ (TY_World),vf_ Ja,vf_ Ja] [vf_ Jr] (λd=>IS N d.1 d.2.1 d.2.2.1),CX [Z74]⟩
def Z5m:Gd:=GF Z5l func69
def tF:Fn:=⟨f40,λ |3=>cn_ [1,3,4,14]|4=>cn_ [1,3,4]|5=>cn_ [1,3,4,22]|6=>cn_ [1,3,4]|9=>cn_ [1,3,5,6,33]|10=>cn_ [1,3,5,6]|11=>cn_ [1,3,5,6,7]|12=>cn_ [1,3,5,6,7,8]|13=>cn_ [1,3,5,6,7,8,39]|14=>cn_ [1,3,5,6,7,8]|15=>cn_ [1,3,5,6,7,8,56]|16=>cn_ [1,3,5,6,7,8]|17=>cn_ [1,3,5,6]|100003=>cn_ [1,3,4]|100009=>cn_ [1,3,5,6]|100013=>cn_ [1,3,5,6,7,8]|_=>[],λN=>Sig.of [vt_ (TY_World)] [vf_ Jd] (λd=>Cd N d.1),CX [Zrx,Z5m]⟩
def Z25(a:Int)(b3:Y_World)(l4:List Int):St:=⟨[(1,vP 0 0),(3,vO 1),(4,vI a)],[(0,.box (split (TY_World) b3)),(1,.arr Ja l4)],2⟩
def Z0j(b3:Y_World)(a:Int)(c:Bool)(b:List Int):St:=⟨[(1,vP 0 0),(3,vO 1),(4,vI a),(14,vB c)],[(0,.box (split (TY_World) b3)),(1,.arr Ja b)],2⟩
theorem Z26{b3:Y_World}{K0:Int->Bool->Kg->Option R}(b:K0= λc e d=>K (.exit 0) (Z0j b3 c e d))(n a l4):td N b3 K0 n a l4=LM tF N 0 100003 n (Z25 a b3 l4) K:=by subst b;induction n generalizing a l4;kernel_rfl;rw[td];simp only[*];kernel_rfl
def Z27(c e d:Int)(b:Y_World)(a bT:List Int):St:=⟨[(1,vP 0 0),(3,vO 1),(5,vO 2),(6,vI c),(7,vI e),(8,vI d)],[(0,.box (split (TY_World) b)),(1,.arr Ja a),(2,.arr Ja bT)],3⟩
def Z0k(c:Int)(b:Y_World)(a bT:List Int)(e f:Int)(d:Bool):St:=⟨[(1,vP 0 0),(3,vO 1),(5,vO 2),(6,vI c),(7,vI e),(8,vI f),(39,vB d)],[(0,.box (split (TY_World) b)),(1,.arr Ja a),(2,.arr Ja bT)],3⟩
theorem Z28{c:Int}{b:Y_World}{a bT:List Int}{K0}(f:K0= λh i g=>K (.exit 4) (Z0k c b a bT h i g))(n e d):qc N c b a bT K0 n e d=LM tF N 2 100013 n (Z27 c e d b a bT) K:=by subst f;induction n generalizing e d;kernel_rfl;rw[qc];simp only[*];kernel_rfl
def Z29(d:Int)(c:Y_World)(b a:List Int):St:=⟨[(1,vP 0 0),(3,vO 1),(5,vO 2),(6,vI d)],[(0,.box (split (TY_World) c)),(1,.arr Ja b),(2,.arr Ja a)],3⟩
def Z0l(b:Y_World)(a:List Int)(e:Int)(d:Bool)(c:List Int):St:=⟨[(1,vP 0 0),(3,vO 1),(5,vO 2),(6,vI e),(33,vB d)],[(0,.box (split (TY_World) b)),(1,.arr Ja a),(2,.arr Ja c)],3⟩
theorem Z3a{c:Y_World}{b:List Int}{K0:Int->Bool->Kg->Option R}(f:K0= λh g e=>K (.exit 2) (Z0l c b h g e))(n d a):qd N c b K0 n d a=LM tF N 1 100009 n (Z29 d c b a) K:=by subst f;induction n generalizing d a with|zero=>kernel_rfl|succ n ih=>rw[qd];simp(disch:=exact id (by kernel_rfl)) only[ih,Z28 N (CL tF N 1 100009 [1,0,0,1,0,1,0] n K)];kernel_rfl
theorem Pl(w1:Y_World):DN tF N (w1,())=Cd N w1:=by
 conv=>rhs;rw[Cd];simp(disch:=exact id (by kernel_rfl)) only[Z26 (R:=Unit×Kad) N (CF tF N [1,1,0,1,0]),Z3a (R:=Unit×Kad) N (CF tF N [1,1,1,1,0,1,0])]
 kernel_rfl
def Pm:Gd:=GF tF func40 (λN d=>Pl N d.1)
def JL:Fn:=⟨f41,λ |5=>cn_ [0,3,4,13]|6=>cn_ [0,3,4]|7=>cn_ [0,3,4,5,6]|8=>cn_ [0,3,4,5,22]|9=>cn_ [0,3,4,5]|10=>cn_ [0,3,4]|100005=>cn_ [0,3,4]|_=>[],λN=>Sig.of [vf_ Ji] [vf_ Jd] (λd=>Cf N d.1),CX [EH,Zru]⟩
def Z3b(l3:List Int)(a:Int)(b:List Int):St:=⟨[(0,vV Ji l3),(3,vO 0),(4,vI a)],[(0,.arr Ja b)],1⟩
def Z0m(l3:List Int)(a:Int)(c:Bool)(b:List Int):St:=⟨[(0,vV Ji l3),(3,vO 0),(4,vI a),(13,vB c)],[(0,.arr Ja b)],1⟩
theorem Z3c{l3:List Int}{K0:Int->Bool->Kg->Option R}(c:K0= λd f e=>K (.exit 0) (Z0m l3 d f e))(n a b):xA N l3 K0 n a b=LM JL N 0 100005 n (Z3b l3 a b) K:=by subst c;induction n generalizing a b;kernel_rfl;rw[xA];simp only[*];kernel_rfl
theorem Pn(l1:List Int):DN JL N (l1,())=Cf N l1:=by
 conv=>rhs;rw[Cf];simp(disch:=exact id (by kernel_rfl)) only[Z3c (R:=Unit×Kad) N (CF JL N [1,1,1,0,1,0])]
 kernel_rfl
def Po:Gd:=GF JL func41 (λN d=>Pn N d.1)
def IE:Fn:=⟨f18,λ |18=>cn_ [10,11,12,63]|19=>cn_ [10,11,12]|20=>cn_ [10,11,12]|100018=>cn_ [10,11,12]|_=>[],λN=>Sig.of [vt_ Jy,vf_ Jaa,vf_ Ji] [vf_ Jaa] (λd=>Zi N d.1 d.2.1 d.2.2.1),CX [Zzb,Z71,Z2u,Z9,Z2w,Pk,JW,Pm,tp,xM,Po]⟩
def Z0n(a:List UInt8)(c:Int)(b:List Int):St:=⟨[(10,vO 0),(11,vV Jaa a),(12,vI c)],[(0,.arr Ja b)],1⟩
def Zxp(a:List Int)(b:List UInt8)(d:Int)(c:Bool):St:=⟨[(10,vO 0),(11,vV Jaa b),(12,vI d),(63,vB c)],[(0,.arr Ja a)],1⟩
theorem Z0o{b:List Int}{K0:Kh->Int->Bool->Option R}(f:K0= λd g e=>K (.exit 1) (Zxp b d g e))(n a c):w8 N b K0 n a c=LM IE N 0 100018 n (Z0n a c b) K:=by subst f;induction n generalizing a c;kernel_rfl;rw[w8];simp only[*];kernel_rfl
theorem OA(b:Ke×List Kn×List Kb)(a:List UInt8)(n3:List Int):DN IE N (b,a,n3,())=Zi N b a n3:=by
 conv=>rhs;rw[Zi];simp(disch:=exact id (by kernel_rfl)) only[Z0o (R:=Unit×Kv) N (CF IE N [1,1,1,1,1,0,1,0,1,1,1,1,1,0,1,1,0,1,0])]
 kernel_rfl
def OB:Gd:=GF IE func18 (λN d=>OA N d.1 d.2.1 d.2.2.1)
def H7:Fn:=⟨f7,λ |10=>cn_ [2,4,8,9,10,11,50]|11=>cn_ [2,4,8,9,10,11]|12=>cn_ [2,4,8,9,10,11,12,13]|13=>cn_ [2,4,8,9,10,11,12,62]|14=>cn_ [4,5]|15=>cn_ [2,4,8,9,10,11]|100010=>cn_ [2,4,8,9,10,11]|_=>[],λN=>Sig.of [vt_ Jq,vf_ Jaa] [vt_ Jq,vf_ Jaa] (λd=>ol N d.1 d.2.1),CX [Z9p,O4,Qr,Z6n,Zrq,Z4y,Z9s,O8,Qm,OB]⟩
def Zxq(g:List UInt8)(h az:Int)(f:List Kh)(c a d:List Int)(b:List Kn)(e:List Kb):St:=⟨[(2,vP 0 0),(4,vP 1 0),(8,vO 2),(9,vV Jaa g),(10,vO 3),(11,vI h)],[(0,.box [.own 4,.own 5,.val Ja az,.own 6,.own 7]),(1,.box [.nils,.nils,.val Ja (0:Int),.nils,.nils]),(2,.arr Jaa f),(3,.arr Ja c),(4,.arr Ja a),(5,.arr Ja d),(6,.arr Jj b),(7,.arr Jb e)],8⟩
def Zuw(f:List UInt8)(az:Int)(e:List Kh)(a c:List Int)(b:List Kn)(d:List Kb):St:=⟨[(4,vP 0 0),(5,vV Jaa ([119,104,97,116]:List UInt8))],[(0,.box [.own 1,.own 2,.val Ja az,.own 3,.own 4]),(1,.arr Ja a),(2,.arr Ja c),(3,.arr Jj b),(4,.arr Jb d)],5⟩
def Zux(f:List UInt8)(az:Int)(e:List Kh)(a c:List Int)(b:List Kn)(d:List Kb)(h:Int)(g:Bool)(bT:List Int):St:=⟨[(2,vP 0 0),(4,vP 1 0),(8,vO 2),(9,vV Jaa f),(10,vO 3),(11,vI h),(50,vB g)],[(0,.box [.own 4,.own 5,.val Ja az,.own 6,.own 7]),(1,.box [.nils,.nils,.val Ja (0:Int),.nils,.nils]),(2,.arr Jaa e),(3,.arr Ja bT),(4,.arr Ja a),(5,.arr Ja c),(6,.arr Jj b),(7,.arr Jb d)],8⟩
theorem Zxr{f:List UInt8}{az:Int}{e:List Kh}{a c:List Int}{b:List Kn}{d:List Kb}{K0}{K1:Int->Bool->Kg->Option R}(k:K0=K .ret (Zuw f az e a c b d))(l:K1= λm j i=>K (.exit 0) (Zux f az e a c b d m j i))(n h g):wy N f az e a c b d K0 K1 n h g=LM H7 N 0 100010 n (Zxq f h az e g a c b d) K:=by subst k l;induction n generalizing h g;kernel_rfl;rw[wy];simp only[*];kernel_rfl
theorem Z75(a:Ke×List Kn×List Kb)(jA:List UInt8):DN H7 N (a,jA,())=ol N a jA:=by
 conv=>rhs;rw[ol];simp(disch:=exact id (by kernel_rfl)) only[Zxr (R:=Unit×(Kab×Kv)) N (CF H7 N [1,1,1,1,1,1,1,0,1,0])]
 kernel_rfl
def Z76:Gd:=GF H7 func7 (λN d=>Z75 N d.1 d.2.1)
def J8:Fn:=⟨f4,λ |11=>cn_ [3,4,5,6,41]|12=>cn_ [3,4,5,6]|13=>cn_ [3,4,5,6,48]|14=>cn_ [3,4,5,6,7,8]|15=>cn_ [3,4,5,6,8]|16=>cn_ [3,4,5,6]|100011=>[.adoptC 4 3 Jj,.adoptC 4 4 Jb,.canon [3,4,5,6]]|_=>[],λN=>Sig.of [vf_ Jaa] [vf_ Jaa] (λd=>CD N d.1),CX [Qr,Z76]⟩
def Z5n(b:List UInt8)(c:Int)(d:List Kh)(b6:Int)(e f:List Int)(g:List Kn)(a:List Kb):St:=⟨[(3,vO 0),(4,vP 1 0),(5,vV Jaa b),(6,vI c)],[(0,.arr Jaa d),(1,.box [.own 2,.own 3,.val Ja b6,.own 4,.own 5]),(2,.arr Ja e),(3,.arr Ja f),(4,.arr Jj g),(5,.arr Jb a)],6⟩
def Z3d(i:List Kh)(h:List UInt8)(g:Int)(f:Bool)(c:Int)(b d:List Int)(a:List Kn)(e:List Kb):St:=⟨[(3,vO 0),(4,vP 1 0),(5,vV Jaa h),(6,vI g),(41,vB f)],[(0,.arr Jaa i),(1,.box [.own 2,.own 3,.val Ja c,.own 4,.own 5]),(2,.arr Ja b),(3,.arr Ja d),(4,.arr Jj a),(5,.arr Jb e)],6⟩
theorem Z5o{d:List Kh}{K0:Kh->Int->Bool->Int->Kg->Kg->(List Kn)->Ks->Option R}(q:K0= λp o m j i k h l=>K (.exit 0) (Z3d d p o m j i k h l))(n b c b6 e f g a):Zr N d K0 n b c b6 e f g a=LM J8 N 0 100011 n (Z5n b c d b6 e f g a) K:=by subst q;induction n generalizing b c b6 e f g a;kernel_rfl;rw[Zr];simp only[*];kernel_rfl
theorem PT(s1:List UInt8):DN J8 N (s1,())=CD N s1:=by
 conv=>rhs;rw[CD];simp(disch:=exact id (by kernel_rfl)) only[Z5o (R:=Unit×Kv) N (CF J8 N [1,1,1,1,1,1,1,0,1,0])]
 kernel_rfl
def PU:Gd:=GF J8 func4 (λN d=>PT N d.1)
def JM:Fn:=⟨f8,λ |4=>cn_ [0,1,5,6,7,12]|5=>cn_ [0,1,5,6,7]|6=>cn_ [0,1,5,6,7,19]|7=>cn_ [0,1,5,7]|8=>cn_ [0,1,5,6,7]|100004=>cn_ [0,1,5,6,7]|_=>[],λN=>Sig.of [vf_ Jaa,vf_ Jam] [vf_ (.own Jaa)] (λd=>jr N d.1 d.2.1),W5⟩
def Z3e(e:List UInt8)(d a b:Int)(c:List Kh):St:=⟨[(0,vV Jaa e),(1,vV Jam d),(5,vO 0),(6,vI a),(7,vI b)],[(0,.arr Jaa c)],1⟩
def Z0p(f:List UInt8)(e c d:Int)(a:Bool)(b:List Kh):St:=⟨[(0,vV Jaa f),(1,vV Jam e),(5,vO 0),(6,vI c),(7,vI d),(12,vB a)],[(0,.arr Jaa b)],1⟩
theorem Z3f{e:List UInt8}{d:Int}{K0:Int->Int->Bool->Kz->Option R}(i:K0= λh j f g=>K (.exit 0) (Z0p e d h j f g))(n a b c):om N e d K0 n a b c=LM JM N 0 100004 n (Z3e e d a b c) K:=by subst i;induction n generalizing a b c;kernel_rfl;rw[om];simp only[*];kernel_rfl
theorem OM(a:List UInt8)(vp:Int):DN JM N (a,vp,())=jr N a vp:=by
 conv=>rhs;rw[jr];simp(disch:=exact id (by kernel_rfl)) only[Z3f (R:=Unit×(Kz×Unit)) N (CF JM N [1,1,1,0,1,0])]
 kernel_rfl
def QG:Gd:=GN JM func8 (λN d=>OM N d.1 d.2.1)
def OC:Fn:=⟨f45,Wy,λN=>Sig.of [vf_ Ja,vf_ Ja,vf_ Ja] [vf_ Jr] (λd=>Zb N d.1 d.2.1 d.2.2.1),W5⟩
def Zy:Gd:=GN OC func45
def Z5p:Fn:=⟨f42,Wy,λN=>Sig.of [vf_ Ja] [vf_ Jaa] (λd=>IU N d.1),CX [Zy]⟩
def ZZ:Gd:=GF Z5p func42
def Z5q:Fn:=⟨f43,Wy,λN=>Sig.of [vf_ Ja] [vf_ Ja] (λd=>IV N d.1),W5⟩
def Zrd:Gd:=GN Z5q func43
def Ci:Fn:=⟨f46,λ |5=>cn_ [0,3,4,13]|6=>cn_ [0,3,4]|7=>cn_ [0,3,4,5]|8=>cn_ [0,3,4,5,19]|9=>cn_ [0,3,4,5]|10=>cn_ [0,3,4]|14=>cn_ [3,6,7,38]|15=>cn_ [3,6,7]|16=>cn_ [3,6,7]|100005=>cn_ [0,3,4]|100014=>cn_ [3,6,7]|_=>[],λN=>Sig.of [vf_ Ja] [vf_ Jaa] (λd=>Zv N d.1),W5⟩
def Z77(b a:Int)(l4:List Int):St:=⟨[(0,vI b),(3,vO 0),(4,vI a)],[(0,.arr Jam l4)],1⟩
def Z5r(c b:Int)(d:Bool)(a:List Int):St:=⟨[(0,vI c),(3,vO 0),(4,vI b),(13,vB d)],[(0,.arr Jam a)],1⟩
theorem Z78{b:Int}{K0:Int->Bool->Kg->Option R}(c:K0= λe f d=>K (.exit 0) (Z5r b e f d))(n a l4):x3 N b K0 n a l4=LM Ci N 0 100005 n (Z77 b a l4) K:=by subst c;induction n generalizing a l4;kernel_rfl;rw[x3];simp only[*];kernel_rfl
def Z79(b c:Int)(a:List Int):St:=⟨[(3,vO 0),(6,vI b),(7,vI c)],[(0,.arr Jam a)],1⟩
def Z5s(a d:Int)(c:Bool)(b:List Int):St:=⟨[(3,vO 0),(6,vI a),(7,vI d),(38,vB c)],[(0,.arr Jam b)],1⟩
theorem Z8a{K0:Int->Int->Bool->Kg->Option R}(g:K0= λd h f e=>K (.exit 2) (Z5s d h f e))(n b c a):x4 N K0 n b c a=LM Ci N 1 100014 n (Z79 b c a) K:=by subst g;induction n generalizing b c a;kernel_rfl;rw[x4];simp only[*];kernel_rfl
theorem Qd(n1:Int):DN Ci N (n1,())=Zv N n1:=by
 conv=>rhs;rw[Zv];simp(disch:=exact id (by kernel_rfl)) only[Z78 (R:=Unit×Kv) N (CF Ci N [1,1,1,0,1,0]),Z8a (R:=Unit×Kv) N (CF Ci N [1,1,1,1,1,0,1,0])]
 kernel_rfl
def E9:Gd:=GN Ci func46 (λN d=>Qd N d.1)
def H8:Fn:=⟨f21,λ |8=>cn_ [0,4,5,6,25]|9=>cn_ [0,4,5,6]|10=>cn_ [0,4,5,6,37]|11=>cn_ [2,3]|12=>cn_ [0,4,5,6]|100008=>cn_ [0,4,5,6]|_=>[],λN=>Sig.of [vf_ Jaa] [vf_ Ja,vf_ Jr] (λd=>kk N d.1),CX [Zy,E9]⟩
theorem Zxt{d:List UInt8}{a:Int}{K0 K1}(e:K0=K .ret ⟨[(2,vI 0),(3,vB false)],[],0⟩)(f:K1= λh g i=>K (.exit 0) ⟨[(0,vV Jaa d),(4,vI a),(5,vI h),(6,vI g),(25,vB i)],[],0⟩)(n c b):oa N d a K0 K1 n c b=LM H8 N 0 100008 n ⟨[(0,vV Jaa d),(4,vI a),(5,vI c),(6,vI b)],[],0⟩ K:=by subst e f;induction n generalizing c b;kernel_rfl;rw[oa];simp only[*];kernel_rfl
theorem Z8b(s1:List UInt8):DN H8 N (s1,())=kk N s1:=by
 conv=>rhs;rw[kk];simp(disch:=exact id (by kernel_rfl)) only[Zxt (R:=Unit×Ky) N (CF H8 N [1,1,1,1,1,0,1,0])]
 kernel_rfl
def Zry:Gd:=GF H8 func21 (λN d=>Z8b N d.1)
def ON:Fn:=⟨f99,Wy,λN=>Sig.of [vf_ Ja] [vf_ Jr] (λd=>ko N d.1),CX [Zy]⟩
def OO:Gd:=GF ON func99
def Z8c:Fn:=⟨f58,Wy,λN=>Sig.of [vf_ Ja] [vf_ Jr] (λd=>fQ N d.1),CX [Zy]⟩
def mN:Gd:=GF Z8c func58
def OD:Fn:=⟨f55,Wy,λN=>Sig.of [vf_ Ja] [vf_ Jr] (λd=>gz N d.1),CX [Zy]⟩
def oy:Gd:=GF OD func55
def OP:Fn:=⟨f56,Wy,λN=>Sig.of [vf_ Ja] [vf_ Jr] (λd=>fv N d.1),CX [Zy]⟩
def tG:Gd:=GF OP func56
def PV:Fn:=⟨f72,Wy,λN=>Sig.of [vt_ Ju] [vf_ Jr] (λd=>ql N d.1),CX [OO,mN,oy,Zy,tG]⟩
def E4:Gd:=GF PV func72
def IF:Fn:=⟨f44,λ |6=>cn_ [3,24,25,26,27]|7=>cn_ [3,6,24,25,26]|8=>cn_ [3,24,25,26]|9=>cn_ [3,24,25,26]|100006=>cn_ [3,24,25,26]|_=>[],λN=>Sig.of [vt_ Ju] [vf_ Jaa] (λd=>tI N d.1),CX [E4,ZZ,Zrd,E9]⟩
def Z0q(b:List UInt8)(c d:Int)(a:List Int):St:=⟨[(3,vV Jaa b),(24,vO 0),(25,vI c),(26,vI d)],[(0,.arr Ja a)],1⟩
def Zxu(e:Int)(c:List Int)(d:List UInt8)(b:Int)(a:Bool):St:=⟨[(3,vV Jaa d),(24,vO 0),(25,vI e),(26,vI b),(27,vB a)],[(0,.arr Ja c)],1⟩
theorem Z0r{c:Int}{a:List Int}{K0:Kh->Int->Bool->Option R}(g:K0= λh f e=>K (.exit 0) (Zxu c a h f e))(n b d):w9 N c a K0 n b d=LM IF N 0 100006 n (Z0q b c d a) K:=by subst g;induction n generalizing b d;kernel_rfl;rw[w9];simp only[*];kernel_rfl
theorem OE(o1:Int×Int×Int×Int):DN IF N (o1,())=tI N o1:=by
 conv=>rhs;rw[tI];simp(disch:=exact id (by kernel_rfl)) only[Z0r (R:=Unit×Kv) N (CF IF N [1,1,1,1,0,1,0])]
 kernel_rfl
def OF:Gd:=GF IF func44 (λN d=>OE N d.1)
def A8:Fn:=⟨f19,λ |4=>cn_ [0,2,4,5,6,16]|5=>cn_ [0,2,4,5,6]|6=>cn_ [0,2,4,5,6,24]|7=>cn_ [0,2,4,5,6]|11=>[.view 41]|12=>cn_ [0,2,5,7,41,42,43,44]|13=>cn_ [0,2,5,7,8,9,41,42,43]|14=>cn_ [0,2,5,7,8,10,41,42,43]|15=>cn_ [0,2,5,7,41,42,43]|16=>cn_ [0,2,5,7,41,42,43]|100004=>cn_ [0,2,4,5,6]|100012=>cn_ [0,2,5,7,41,42,43]|_=>[],λN=>Sig.of [vf_ Jaa] [vt_ Ju,vf_ Jr] (λd=>yb N d.1),CX [QG,ZZ,Zrd,Zry,OF]⟩
def Z0s(c:List UInt8)(a:Int)(b:List Kh)(az:Int):St:=⟨[(0,vV Jaa c),(2,vP 0 0),(4,vO 1),(5,vP 2 0),(6,vI a)],[(0,.box [.val Ja (0:Int),.val Ja (0:Int),.val Ja (0:Int),.val Ja (0:Int)]),(1,.arr Jaa b),(2,.box [.val Ja az,.val Ja (0:Int),.val Ja (0:Int),.val Ja (0:Int)])],3⟩
def Zxv(e:List UInt8)(d:List Kh)(c:Int)(b:Bool)(a:Int):St:=⟨[(0,vV Jaa e),(2,vP 0 0),(4,vO 1),(5,vP 2 0),(6,vI c),(16,vB b)],[(0,.box [.val Ja (0:Int),.val Ja (0:Int),.val Ja (0:Int),.val Ja (0:Int)]),(1,.arr Jaa d),(2,.box [.val Ja a,.val Ja (0:Int),.val Ja (0:Int),.val Ja (0:Int)])],3⟩
theorem Z0t{c:List UInt8}{b:List Kh}{K0}(f:K0= λg e d=>K (.exit 0) (Zxv c b g e d))(n a az):xa N c b K0 n a az=LM A8 N 0 100004 n (Z0s c a b az) K:=by subst f;induction n generalizing a az;kernel_rfl;rw[xa];simp only[*];kernel_rfl
def Z0u(h:List UInt8)(a e:Nat)(d g c:Int)(b:List Int)(f:List Kh):St:=⟨[(0,vV Jaa h),(2,vP 0 0),(5,vP 1 0),(7,.s (.one (.aptr 2))),(41,.s (.one (.vw 3 a e))),(42,vI d),(43,vI g)],[(0,.box [.val Ja (0:Int),.val Ja (0:Int),.val Ja (0:Int),.val Ja (0:Int)]),(1,.box [.val Ja c,.val Ja (0:Int),.val Ja (0:Int),.val Ja (0:Int)]),(2,.arr Ja b),(3,.arr Jaa f)],4⟩
def Zxw(g:List UInt8)(a e:Nat)(d b:Int)(f:List Kh)(c:Int)(jW:Bool)(dh:List Int):St:=⟨[(0,vV Jaa g),(2,vP 0 0),(5,vP 1 0),(7,.s (.one (.aptr 2))),(41,.s (.one (.vw 3 a e))),(42,vI d),(43,vI c),(44,vB jW)],[(0,.box [.val Ja (0:Int),.val Ja (0:Int),.val Ja (0:Int),.val Ja (0:Int)]),(1,.box [.val Ja b,.val Ja (0:Int),.val Ja (0:Int),.val Ja (0:Int)]),(2,.arr Ja dh),(3,.arr Jaa f)],4⟩
theorem Z0v{h:List UInt8}{a e:Nat}{d c:Int}{f:List Kh}{K0:Int->Bool->Kg->Option R}(j:K0= λk l i=>K (.exit 2) (Zxw h a e d c f k l i))(n g b):ta N h a e d c f K0 n g b=LM A8 N 1 100012 n (Z0u h a e d g c b f) K:=by subst j;induction n generalizing g b;kernel_rfl;rw[ta];simp only[*];kernel_rfl
theorem OG(s1:List UInt8):DN A8 N (s1,())=yb N s1:=by
 conv=>rhs;rw[yb];simp(disch:=exact id (by kernel_rfl)) only[Z0t (R:=Unit×(Ka×Kf)) N (CF A8 N [1,1,1,0,1,0]),Z0v (R:=Unit×(Ka×Kf)) N (CF A8 N [1,1,1,1,1,1,0,1,0])]
 kernel_rfl
def OH:Gd:=GF A8 func19 (λN d=>OG N d.1)
def Z3g:Fn:=⟨f20,λ |4=>[.opn 29]|7=>[.opn 52]|_=>[],λN=>Sig.of [.box Jq,vt_ Ju] [vf_ Jaa] (λd=>In N d.1 d.2.1),W5⟩
def Z3h:Gd:=GN Z3g func20
def HV:Fn:=⟨f100,λ |2=>cn_ [0,1,7,8,9,10]|3=>cn_ [0,1,6,7,8,9]|4=>cn_ [0,1,7,8,9,15]|5=>cn_ [4]|6=>cn_ [0,1,7,8,9]|100002=>cn_ [0,1,7,8,9]|_=>[],λN=>Sig.of [vf_ Ji,vf_ Ja] [vf_ Jr] (λd=>hY N d.1 d.2.1),CX [mN]⟩
theorem Ztl{l3:List Int}{a:Int}{K0 K1}(e:K0=K .ret ⟨[(4,vB false)],[],0⟩)(f:K1= λc d=>K (.exit 0) ⟨[(0,vV Ji l3),(1,vI a),(7,vV Ji l3),(8,vI (Wh l3)),(9,vI c),(10,vB d)],[],0⟩)(n b):n7 N l3 a K0 K1 n b=LM HV N 0 100002 n ⟨[(0,vV Ji l3),(1,vI a),(7,vV Ji l3),(8,vI (Wh l3)),(9,vI b)],[],0⟩ K:=by subst e f;induction n generalizing b;kernel_rfl;rw[n7];simp only[*];kernel_rfl
theorem Z3i(l1:List Int)(n2:Int):DN HV N (l1,n2,())=hY N l1 n2:=by
 conv=>rhs;rw[hY];simp(disch:=exact id (by kernel_rfl)) only[Ztl (R:=Unit×Kf) N (CF HV N [1,0,1,0])]
 kernel_rfl
def Ew:Gd:=GF HV func100 (λN d=>Z3i N d.1 d.2.1)
def JN:Fn:=⟨f101,λ |2=>cn_ [0,5,6,7,8]|3=>cn_ [0,4,5,6,7]|4=>cn_ [0,5,6,7,13]|5=>cn_ [2]|6=>cn_ [0,5,6,7]|100002=>cn_ [0,5,6,7]|_=>[],λN=>Sig.of [vf_ Ji] [vf_ Jr] (λd=>yi N d.1),CX [Zy]⟩
theorem Z3k{l2:List Int}{K0 K1}(b:K0=K .ret ⟨[(2,vB false)],[],0⟩)(c:K1= λd e=>K (.exit 0) ⟨[(0,vV Ji l2),(5,vV Ji l2),(6,vI (Wh l2)),(7,vI d),(8,vB e)],[],0⟩)(n a):xh N l2 K0 K1 n a=LM JN N 0 100002 n ⟨[(0,vV Ji l2),(5,vV Ji l2),(6,vI (Wh l2)),(7,vI a)],[],0⟩ K:=by subst b c;induction n generalizing a;kernel_rfl;rw[xh];simp only[*];kernel_rfl
theorem OQ(l1:List Int):DN JN N (l1,())=yi N l1:=by
 conv=>rhs;rw[yi];simp(disch:=exact id (by kernel_rfl)) only[Z3k (R:=Unit×Kf) N (CF JN N [1,0,1,0])]
 kernel_rfl
def Zu0:Gd:=GF JN func101 (λN d=>OQ N d.1)
def Z5t:Fn:=⟨f73,Wy,λN=>Sig.of [vt_ (.prod Ji Jah)] [vf_ Jr] (λd=>IQ N d.1),CX [Ew,Zu0,mN]⟩
def Z5u:Gd:=GF Z5t func73
def Z8d:Fn:=⟨f133,Wy,λN=>Sig.of [vt_ Ju] [vf_ Ja] (λd=>A9 N d.1),CX [E4]⟩
def Zrz:Gd:=GF Z8d func133
def OR:Fn:=⟨f176,Wy,λN=>Sig.of [vt_ Ju] [vf_ Ja] (λd=>Ch N d.1),W5⟩
def QH:Gd:=GN OR func176
def HP:Fn:=⟨f134,λ |3=>cn_ [3,6,7,8,9]|4=>cn_ [3,5,6,7,8]|5=>cn_ [3,6,7,8]|6=>cn_ [3,6,7,8,17]|7=>cn_ [2]|8=>cn_ [3,6,7,8]|100003=>cn_ [3,6,7,8]|_=>[],λN=>Sig.of [vf_ Jh] [vf_ Jr] (λd=>w3 N d.1),CX [QH]⟩
theorem Zsi{a:List Ka}{K0 K1}(e:K0=K .ret ⟨[(2,vB false)],[],0⟩)(f:K1= λg h d=>K (.exit 0) ⟨[(3,vI g),(6,vV Jh a),(7,vI (Wh a)),(8,vI h),(9,vB d)],[],0⟩)(n b c):wu N a K0 K1 n b c=LM HP N 0 100003 n ⟨[(3,vI b),(6,vV Jh a),(7,vI (Wh a)),(8,vI c)],[],0⟩ K:=by subst e f;induction n generalizing b c;kernel_rfl;rw[wu];simp only[*];kernel_rfl
theorem Z0y(ak:List Ka):DN HP N (ak,())=w3 N ak:=by
 conv=>rhs;rw[w3];simp(disch:=exact id (by kernel_rfl)) only[Zsi (R:=Unit×Kf) N (CF HP N [1,1,0,1,0])]
 kernel_rfl
def Z0z:Gd:=GF HP func134 (λN d=>Z0y N d.1)
def H9:Fn:=⟨f135,λ |3=>cn_ [1,5,8,9,10,11]|4=>cn_ [1,5,6,7,8,9,10]|5=>cn_ [1,5,7,8,9,10,17]|6=>cn_ [1,5,8,9,10]|7=>cn_ [1,5,8,9,10]|100003=>cn_ [1,5,8,9,10]|_=>[],λN=>Sig.of [vf_ Jh,vf_ Ja] [vf_ Ja] (λd=>BG N d.1 d.2.1),CX [QH]⟩
theorem Zxy{b:Int}{a:List Ka}{K0}(h:K0= λg f e=>K (.exit 0) ⟨[(1,vI b),(5,vI g),(8,vV Jh a),(9,vI (Wh a)),(10,vI f),(11,vB e)],[],0⟩)(n c d):sL N b a K0 n c d=LM H9 N 0 100003 n ⟨[(1,vI b),(5,vI c),(8,vV Jh a),(9,vI (Wh a)),(10,vI d)],[],0⟩ K:=by subst h;induction n generalizing c d;kernel_rfl;rw[sL];simp only[*];kernel_rfl
theorem Z8e(a:List Ka)(i2:Int):DN H9 N (a,i2,())=BG N a i2:=by
 conv=>rhs;rw[BG];simp(disch:=exact id (by kernel_rfl)) only[Zxy (R:=Unit×Kj) N (CF H9 N [1,1,0,1,0])]
 kernel_rfl
def Z8f:Gd:=GF H9 func135 (λN d=>Z8e N d.1 d.2.1)
def IG:Fn:=⟨f104,λ |5=>cn_ [0,3,14,15,16,17]|6=>cn_ [0,3,4,5,14,15,16]|7=>cn_ [0,3,4,5,14,15,16,23]|8=>cn_ [2]|9=>cn_ [0,3,4,5,14,15,16,25]|10=>cn_ [0,3,4,5,14,15,16,25,26]|11=>cn_ [0,3,14,15,16,48]|12=>cn_ [2]|13=>cn_ [0,3,4,14,15,16,49]|14=>cn_ [0,3,4,14,15,16]|15=>cn_ [0,3,14,15,16,60]|16=>cn_ [2]|17=>cn_ [0,3,14,15,16]|100005=>cn_ [0,3,14,15,16]|_=>[],λN=>Sig.of [vf_ Jh] [vf_ Jr] (λd=>oD N d.1),CX [Z0z,E4,Z8f]⟩
theorem Z01{a:List Ka}{K0 K1}(e:K0=K .ret ⟨[(2,vB false)],[],0⟩)(f:K1= λg d h=>K (.exit 0) ⟨[(0,vV Jh a),(3,vI g),(14,vV Jh a),(15,vI (Wh a)),(16,vI d),(17,vB h)],[],0⟩)(n b c):qf N a K0 K1 n b c=LM IG N 0 100005 n ⟨[(0,vV Jh a),(3,vI b),(14,vV Jh a),(15,vI (Wh a)),(16,vI c)],[],0⟩ K:=by subst e f;induction n generalizing b c;kernel_rfl;rw[qf];simp only[*];kernel_rfl
theorem OI(ak:List Ka):DN IG N (ak,())=oD N ak:=by
 conv=>rhs;rw[oD];simp(disch:=exact id (by kernel_rfl)) only[Z01 (R:=Unit×Kf) N (CF IG N [1,1,1,0,1,0])]
 kernel_rfl
def Zsy:Gd:=GF IG func104 (λN d=>OI N d.1)
def JO:Fn:=⟨f103,λ |2=>cn_ [0,5,6,7,8]|3=>cn_ [0,4,5,6,7]|4=>cn_ [0,5,6,7,18]|5=>cn_ [2]|6=>cn_ [0,5,6,7]|100002=>cn_ [0,5,6,7]|_=>[],λN=>Sig.of [vf_ Jh] [vf_ Jr] (λd=>yg N d.1),CX [Zrz,Zsy]⟩
theorem Z3m{a:List Ka}{K0 K1}(c:K0=K .ret ⟨[(2,vB false)],[],0⟩)(d:K1= λe f=>K (.exit 0) ⟨[(0,vV Jh a),(5,vV Jh a),(6,vI (Wh a)),(7,vI e),(8,vB f)],[],0⟩)(n b):xd N a K0 K1 n b=LM JO N 0 100002 n ⟨[(0,vV Jh a),(5,vV Jh a),(6,vI (Wh a)),(7,vI b)],[],0⟩ K:=by subst c d;induction n generalizing b;kernel_rfl;rw[xd];simp only[*];kernel_rfl
theorem OS(ak:List Ka):DN JO N (ak,())=yg N ak:=by
 conv=>rhs;rw[yg];simp(disch:=exact id (by kernel_rfl)) only[Z3m (R:=Unit×Kf) N (CF JO N [1,0,1,0])]
 kernel_rfl
def OT:Gd:=GF JO func103 (λN d=>OS N d.1)
def Z3n:Fn:=⟨f137,Wy,λN=>Sig.of [vt_ Ju] [vf_ Jr] (λd=>Qo N d.1),W5⟩
def Z3o:Gd:=GN Z3n func137
def HA:Fn:=⟨f177,λ |2=>cn_ [0,1,7,8,9]|3=>cn_ [0,1,5,7,8]|4=>cn_ [0,1,5,7,8,16]|5=>cn_ [1,4]|6=>cn_ [0,1,7,8]|100002=>cn_ [0,1,7,8]|_=>[],λN=>Sig.of [vf_ Jh,.clos 137 0] [vf_ Ja] (λd=>Eg N d.1),CX [Z3o]⟩
theorem Zhg{a:List Ka}{K0 K1}(c:K0= λe=>K .ret ⟨[(1,.s (.one (.clos 137 []))),(4,vI e)],[],0⟩)(d:K1= λf g=>K (.exit 0) ⟨[(0,vV Jh a),(1,.s (.one (.clos 137 []))),(7,vI (Wh a)),(8,vI f),(9,vB g)],[],0⟩)(n b):Zm N a K0 K1 n b=LM HA N 0 100002 n ⟨[(0,vV Jh a),(1,.s (.one (.clos 137 []))),(7,vI (Wh a)),(8,vI b)],[],0⟩ K:=by subst c d;induction n generalizing b;kernel_rfl;rw[Zm];simp only[*];kernel_rfl
theorem Zia(s1:List Ka):DN HA N (s1,())=Eg N s1:=by
 conv=>rhs;rw[Eg];simp(disch:=exact id (by kernel_rfl)) only[Zhg (R:=Unit×Kj) N (CF HA N [1,0,1,0])]
 kernel_rfl
def Zib:Gd:=GF HA func177 (λN d=>Zia N d.1)
def Zhk:Fn:=⟨f136,Wy,λN=>Sig.of [vf_ Jh,.clos 137 0] [vf_ Jr] (λd=>N5 N d.1),CX [Zib]⟩
def Zhl:Gd:=GF Zhk func136
def Z8g:Fn:=⟨f105,Wy,λN=>Sig.of [vf_ Jh] [vf_ Jr] (λd=>BH N d.1),CX [Zhl]⟩
def Z8h:Gd:=GF Z8g func105
def IH:Fn:=⟨f76,λ |2=>cn_ [1,6,7,8,9]|3=>cn_ [1,4,6,7,8]|4=>cn_ [1,6,7,8,15]|5=>cn_ [2]|6=>cn_ [1,6,7,8]|100002=>cn_ [1,6,7,8]|_=>[],λN=>Sig.of [vt_ Jaf] [vf_ Jr] (λd=>B9 N d.1),CX [OT,Zsy,Z8h]⟩
def Z04(b:List Kaa)(c:Int)(a:List Ka×List Kaa):St:=⟨[(1,vP 0 0),(6,vV Jao b),(7,vI (Wh a.2)),(8,vI c)],[(0,.box [.val Jh a.1,.val Jao a.2])],1⟩
def Zx2(b:List Kaa)(a:List Ka×List Kaa)(c:Int)(d:Bool):St:=⟨[(1,vP 0 0),(6,vV Jao b),(7,vI (Wh a.2)),(8,vI c),(9,vB d)],[(0,.box [.val Jh a.1,.val Jao a.2])],1⟩
theorem Z05{b:List Kaa}{a:List Ka×List Kaa}{K0 K1}(d:K0=K .ret ⟨[(2,vB false)],[],0⟩)(e:K1= λf g=>K (.exit 0) (Zx2 b a f g))(n c):w6 N b a K0 K1 n c=LM IH N 0 100002 n (Z04 b c a) K:=by subst d e;induction n generalizing c;kernel_rfl;rw[w6];simp only[*];kernel_rfl
theorem OJ(p1:List Ka×List Kaa):DN IH N (p1,())=B9 N p1:=by
 conv=>rhs;rw[B9];simp(disch:=exact id (by kernel_rfl)) only[Z05 (R:=Unit×Kf) N (CF IH N [1,0,1,0])]
 kernel_rfl
def OK:Gd:=GF IH func76 (λN d=>OJ N d.1)
def Z06:Fn:=⟨f75,Wy,λN=>Sig.of [vt_ Jaf] [vf_ Jr] (λd=>HY N d.1),CX [OK]⟩
def Z07:Gd:=GF Z06 func75
def Hx:Fn:=⟨f102,λ |2=>cn_ [0,1,7,8,9]|3=>cn_ [0,1,5,7,8]|4=>cn_ [0,1,5,7,8,16]|5=>cn_ [1,4]|6=>cn_ [0,1,7,8]|100002=>cn_ [0,1,7,8]|_=>[],λN=>Sig.of [vf_ Jo,.clos 75 0] [vf_ Ja] (λd=>Z4 N d.1),CX [Z07]⟩
theorem Zf1{a:List Kn}{K0 K1}(c:K0= λe=>K .ret ⟨[(1,.s (.one (.clos 75 []))),(4,vI e)],[],0⟩)(d:K1= λf g=>K (.exit 0) ⟨[(0,vV Jo a),(1,.s (.one (.clos 75 []))),(7,vI (Wh a)),(8,vI f),(9,vB g)],[],0⟩)(n b):Zd N a K0 K1 n b=LM Hx N 0 100002 n ⟨[(0,vV Jo a),(1,.s (.one (.clos 75 []))),(7,vI (Wh a)),(8,vI b)],[],0⟩ K:=by subst c d;induction n generalizing b;kernel_rfl;rw[Zd];simp only[*];kernel_rfl
theorem Zg4(s1:List Kn):DN Hx N (s1,())=Z4 N s1:=by
 conv=>rhs;rw[Z4];simp(disch:=exact id (by kernel_rfl)) only[Zf1 (R:=Unit×Kj) N (CF Hx N [1,0,1,0])]
 kernel_rfl
def Zg5:Gd:=GF Hx func102 (λN d=>Zg4 N d.1)
def Zgh:Fn:=⟨f74,Wy,λN=>Sig.of [vf_ Jo,.clos 75 0] [vf_ Jr] (λd=>Qh N d.1),CX [Zg5]⟩
def Zgi:Gd:=GF Zgh func74
def Z5v:Fn:=⟨f47,Wy,λN=>Sig.of [vt_ Jy] [vf_ Jr] (λd=>ia N d.1),CX [Z5u,Zgi]⟩
def Es:Gd:=GF Z5v func47
def Z8i:Fn:=⟨f106,Wy,λN=>Sig.of [] [vf_ Jd] (λd=>QC N),W5⟩
def Z8j:Gd:=GN Z8i func106
def Z5w:Fn:=⟨f138,Wy,λN=>Sig.of [vf_ Ji] [vf_ Jd] (λd=>Zx N d.1),W5⟩
def hX:Gd:=GN Z5w func138
def OL:Fn:=⟨f114,Wy,λN=>Sig.of [vf_ Ja,vf_ Ja] [vf_ Ja] (λd=>Ca N d.1 d.2.1),W5⟩
def Zsz:Gd:=GN OL func114
def OU:Fn:=⟨f116,Wy,λN=>Sig.of [vf_ Ja] [vf_ Ja] (λd=>yj N d.1),W5⟩
def Zu2:Gd:=GN OU func116
def Z5x:Fn:=⟨f115,Wy,λN=>Sig.of [vf_ Ja] [vf_ Ja] (λd=>EE N d.1),CX [tG]⟩
def Zre:Gd:=GF Z5x func115
def Ia:Fn:=⟨f86,λ |5=>cn_ [3,9,10,11,12]|6=>cn_ [3,4,5,9,10,11]|7=>cn_ [3,4,5,9,10,11,17]|8=>cn_ [3,5,9,10,11,35]|9=>cn_ [2]|10=>cn_ [3,9,10,11]|11=>cn_ [3,9,10,11]|100005=>cn_ [3,9,10,11]|_=>[],λN=>Sig.of [vf_ Ji] [vf_ Jr] (λd=>og N d.1),CX [Zsz,Zy,Zu2,Zre]⟩
def Zx3(a:List Int)(c:Int)(b:List Bool):St:=⟨[(3,.s (.one (.aptr 0))),(9,vV Ji a),(10,vI (Wh a)),(11,vI c)],[(0,.arr Jr b)],1⟩
def Zu4(a:List Int)(d:Int)(c:Bool)(b:List Bool):St:=⟨[(3,.s (.one (.aptr 0))),(9,vV Ji a),(10,vI (Wh a)),(11,vI d),(12,vB c)],[(0,.arr Jr b)],1⟩
theorem Zx4{b:List Int}{K0}{K1:Int->Bool->(List Bool)->Option R}(g:K0=K .ret ⟨[(2,vB false)],[],0⟩)(h:K1= λf e d=>K (.exit 0) (Zu4 b f e d))(n c a):sN N b K0 K1 n c a=LM Ia N 0 100005 n (Zx3 b c a) K:=by subst g h;induction n generalizing c a;kernel_rfl;rw[sN];simp only[*];kernel_rfl
theorem Z8k(l1:List Int):DN Ia N (l1,())=og N l1:=by
 conv=>rhs;rw[og];simp(disch:=exact id (by kernel_rfl)) only[Zx4 (R:=Unit×Kf) N (CF Ia N [1,1,1,0,1,0])]
 kernel_rfl
def EJ:Gd:=GF Ia func86 (λN d=>Z8k N d.1)
def J9:Fn:=⟨f117,λ |2=>cn_ [1,7,8,9,10]|3=>cn_ [1,5,6,7,8,9]|4=>cn_ [1,5,7,8,9,21]|5=>cn_ [4]|6=>cn_ [1,7,8,9]|100002=>cn_ [1,7,8,9]|_=>[],λN=>Sig.of [vf_ Ji,vf_ Ja] [vf_ Ja] (λd=>qn N d.1 d.2.1),CX [Zu2]⟩
theorem Z5z{b:Int}{a:List Int}{K0 K1}(f:K0= λh=>K .ret ⟨[(4,vI h)],[],0⟩)(g:K1= λd e=>K (.exit 0) ⟨[(1,vI b),(7,vV Ji a),(8,vI (Wh a)),(9,vI d),(10,vB e)],[],0⟩)(n c):tm N b a K0 K1 n c=LM J9 N 0 100002 n ⟨[(1,vI b),(7,vV Ji a),(8,vI (Wh a)),(9,vI c)],[],0⟩ K:=by subst f g;induction n generalizing c;kernel_rfl;rw[tm];simp only[*];kernel_rfl
theorem PW(l1:List Int)(bg:Int):DN J9 N (l1,bg,())=qn N l1 bg:=by
 conv=>rhs;rw[qn];simp(disch:=exact id (by kernel_rfl)) only[Z5z (R:=Unit×Kj) N (CF J9 N [1,0,1,0])]
 kernel_rfl
def Qy:Gd:=GF J9 func117 (λN d=>PW N d.1 d.2.1)
def Z8l:Fn:=⟨f87,Wy,λN=>Sig.of [vf_ Ji,vf_ Ja] [vf_ Ja,vf_ Jr] (λd=>xY N d.1 d.2.1),CX [EJ,tG,Qy]⟩
def Ib:Gd:=GF Z8l func87
def Ic:Fn:=⟨f107,λ |10=>cn_ [1,2,9,13,57]|11=>cn_ [1,2,9,13]|100010=>cn_ [1,2,9,13]|_=>[],λN=>Sig.of [vf_ Ji,vf_ Ja,vf_ Ja] [vf_ Jd,vf_ Ja,vf_ Jr] (λd=>tq N d.1 d.2.1 d.2.2.1),CX [hX,EJ,tG,mN,Qy,Ib,Zsz,Zre]⟩
def Zx5(b d c:Int)(a:List Int):St:=⟨[(1,vI b),(2,vI d),(9,vO 0),(13,vI c)],[(0,.arr Ja a)],1⟩
def Zu5(b d:Int)(a:List Int)(e:Int)(c:Bool):St:=⟨[(1,vI b),(2,vI d),(9,vO 0),(13,vI e),(57,vB c)],[(0,.arr Ja a)],1⟩
theorem Zx6{b d:Int}{a:List Int}{K0}(f:K0= λg e=>K (.exit 0) (Zu5 b d a g e))(n c):wL N b d a K0 n c=LM Ic N 0 100010 n (Zx5 b d c a) K:=by subst f;induction n generalizing c;kernel_rfl;rw[wL];simp only[*];kernel_rfl
theorem Z8m(l1:List Int)(a v3:Int):DN Ic N (l1,a,v3,())=tq N l1 a v3:=by
 conv=>rhs;rw[tq];simp(disch:=exact id (by kernel_rfl)) only[Zx6 (R:=Unit×(Kg×Ky)) N (CF Ic N [1,1,1,1,1,0,0])]
 kernel_rfl
def Qv:Gd:=GF Ic func107 (λN d=>Z8m N d.1 d.2.1 d.2.2.1)
def HW:Fn:=⟨f78,λ |5=>cn_ [3,10,11,12,13]|6=>cn_ [3,4,5,10,11,12]|7=>cn_ [3,4,5,10,11,12,18]|8=>cn_ [3,10,11,12]|9=>cn_ [3,10,11,12]|100005=>cn_ [3,10,11,12]|_=>[],λN=>Sig.of [vf_ Ji] [vf_ Jd] (λd=>xi N d.1),CX [Zu0,Z8j,Qv]⟩
def Ztm(a:List Int)(c:Int)(b:List Int):St:=⟨[(3,vO 0),(10,vV Ji a),(11,vI (Wh a)),(12,vI c)],[(0,.arr Ja b)],1⟩
def Zsj(a:List Int)(b:Int)(c:Bool)(d:List Int):St:=⟨[(3,vO 0),(10,vV Ji a),(11,vI (Wh a)),(12,vI b),(13,vB c)],[(0,.arr Ja d)],1⟩
theorem Ztn{b:List Int}{K0:Int->Bool->Kg->Option R}(g:K0= λd e f=>K (.exit 0) (Zsj b d e f))(n c a):rS N b K0 n c a=LM HW N 0 100005 n (Ztm b c a) K:=by subst g;induction n generalizing c a;kernel_rfl;rw[rS];simp only[*];kernel_rfl
end
end Go.Sx
