/- Each Go function does what its Lean function says. -/
import Derived.Test.YtokgfiajefpfoaaGreatD
open List renaming getD→Xc
open Int renaming toNat→Xa
namespace Go.Sx
noncomputable section
open Go.Proofs
open Tryz
variable(N:Nat){R:Type}(K:Ex->St->Option R)
set_option linter.unusedVariables false
set_option linter.unusedSimpArgs false
theorem Z06(l1:List Kr):DN CR N (l1,())=vk N l1:=by
 conv=>rhs;rw[vk];simp(disch:=exact id (by kernel_rfl)) only[Zum (R:=Unit×Ks) N (CF CR N [1,1,0,1,0])]
 kernel_rfl
def OL:Gd:=GF CR func43 (λN d=>Z06 N d.1)
def CT:Fn:=⟨f90,λ |5=>cn_ [0,3,4,16]|6=>cn_ [0,3,4,5]|7=>cn_ [0,3,4,5,6]|8=>cn_ [0,3,4,5,6,20]|9=>cn_ [0,3,4,5,6]|10=>cn_ [0,3,4,5,6,38]|11=>cn_ [0,3,4,5,6]|12=>cn_ [0,3,5]|13=>cn_ [0,3,4]|100005=>cn_ [0,3,4]|100008=>cn_ [0,3,4,5,6]|_=>[],λN=>Sig.of [vf_ Js] [vf_ Je] (λd=>Dr N d.1),CX [OL]⟩
def Zun(e:List Kr)(c b d:Int)(a:List Int):St:=⟨[(0,vV Js e),(3,vO 0),(4,vI c),(5,vI b),(6,vI d)],[(0,.arr Ja a)],1⟩
def Zrw(e:List Kr)(c:Int)(a:List Int)(d f:Int)(b:Bool):St:=⟨[(0,vV Js e),(3,vO 0),(4,vI c),(5,vI d),(6,vI f),(20,vB b)],[(0,.arr Ja a)],1⟩
theorem Zuo{e:List Kr}{c:Int}{a:List Int}{K0}(g:K0= λh i f=>K (.exit 2) (Zrw e c a h i f))(n b d):pj N e c a K0 n b d=LM CT N 1 100008 n (Zun e c b d a) K:=by subst g;induction n generalizing b d;kernel_rfl;rw[pj];simp only[*];kernel_rfl
def Zup(b:List Kr)(a:Int)(c:List Int):St:=⟨[(0,vV Js b),(3,vO 0),(4,vI a)],[(0,.arr Ja c)],1⟩
def Zrx(d:List Kr)(c:Int)(b:Bool)(a:List Int):St:=⟨[(0,vV Js d),(3,vO 0),(4,vI c),(16,vB b)],[(0,.arr Ja a)],1⟩
theorem Zuq{b:List Kr}{K0:Int->Bool->Kj->Option R}(f:K0= λg e d=>K (.exit 0) (Zrx b g e d))(n a c):yk N b K0 n a c=LM CT N 0 100005 n (Zup b a c) K:=by subst f;induction n generalizing a c with|zero=>kernel_rfl|succ n ih=>rw[yk];simp(disch:=exact id (by kernel_rfl)) only[ih,Zuo N (CL CT N 0 100005 [1,0,1,0,1,0] n K)];kernel_rfl
theorem Z07(l1:List Kr):DN CT N (l1,())=Dr N l1:=by
 conv=>rhs;rw[Dr];simp(disch:=exact id (by kernel_rfl)) only[Zuq (R:=Unit×Kv) N (CF CT N [1,1,1,1,0,0])]
 kernel_rfl
def Z08:Gd:=GF CT func90 (λN d=>Z07 N d.1)
def JH:Fn:=⟨f91,λ |5=>cn_ [1,5,6,22]|6=>cn_ [1,5,6]|7=>cn_ [1,5,6]|100005=>cn_ [1,5,6]|_=>[],λN=>Sig.of [vf_ Jd,vf_ Jf] [vf_ Je] (λd=>qT N d.1 d.2.1),CX [FH,FI]⟩
def Zry(b:List Ke)(a:Int)(c:List Int):St:=⟨[(1,vV Jf b),(5,vO 0),(6,vI a)],[(0,.arr Ja c)],1⟩
def Zpm(c:List Ke)(b:Int)(d:Bool)(a:List Int):St:=⟨[(1,vV Jf c),(5,vO 0),(6,vI b),(22,vB d)],[(0,.arr Ja a)],1⟩
theorem Zrz{b:List Ke}{K0:Int->Bool->Kj->Option R}(e:K0= λf g d=>K (.exit 0) (Zpm b f g d))(n a c):yq N b K0 n a c=LM JH N 0 100005 n (Zry b a c) K:=by subst e;induction n generalizing a c;kernel_rfl;rw[yq];simp only[*];kernel_rfl
theorem Zzs(a:List Int)(l2:List Ke):DN JH N (a,l2,())=qT N a l2:=by
 conv=>rhs;rw[qT];simp(disch:=exact id (by kernel_rfl)) only[Zrz (R:=Unit×Kv) N (CF JH N [1,1,1,0,1,0])]
 kernel_rfl
def Yt:Gd:=GF JH func91 (λN d=>Zzs N d.1 d.2.1)
def Cj:Fn:=⟨f45,λ |6=>cn_ [1,2,7,8,9,36]|7=>cn_ [1,2,7,8,9]|8=>cn_ [1,2,7,8,9,10]|9=>cn_ [1,2,7,8,9,10,42]|10=>cn_ [1,2,7,8,9,10]|11=>cn_ [1,2,7,8,9,10,54]|12=>cn_ [1,2,7,8,9,10]|100006=>cn_ [1,2,7,8,9]|100009=>cn_ [1,2,7,8,9,10]|_=>[],λN=>Sig.of [vf_ Jd,vf_ Js,vf_ Ja] [vf_ Je] (λd=>zd N d.1 d.2.1 d.2.2.1),CX [FH,OL,Z08,Yt]⟩
def Zr0(a:List Kr)(f d e:Int)(c b:List Int):St:=⟨[(1,vV Js a),(2,vI f),(7,vO 0),(8,vO 1),(9,vI d),(10,vI e)],[(0,.arr Ja c),(1,.arr Ja b)],2⟩
def Zpn(a:List Kr)(f c:Int)(b:List Int)(d:Int)(e:Bool)(aA:List Int):St:=⟨[(1,vV Js a),(2,vI f),(7,vO 0),(8,vO 1),(9,vI c),(10,vI d),(42,vB e)],[(0,.arr Ja aA),(1,.arr Ja b)],2⟩
theorem Zr1{a:List Kr}{f d:Int}{b:List Int}{K0:Int->Bool->Kj->Option R}(i:K0= λh j g=>K (.exit 2) (Zpn a f d b h j g))(n e c):qJ N a f d b K0 n e c=LM Cj N 1 100009 n (Zr0 a f d e c b) K:=by subst i;induction n generalizing e c;kernel_rfl;rw[qJ];simp only[*];kernel_rfl
def Zr2(d:List Kr)(e c:Int)(b a:List Int):St:=⟨[(1,vV Js d),(2,vI e),(7,vO 0),(8,vO 1),(9,vI c)],[(0,.arr Ja b),(1,.arr Ja a)],2⟩
def Zpo(c:List Kr)(d:Int)(a:List Int)(f:Int)(e:Bool)(b:List Int):St:=⟨[(1,vV Js c),(2,vI d),(7,vO 0),(8,vO 1),(9,vI f),(36,vB e)],[(0,.arr Ja b),(1,.arr Ja a)],2⟩
theorem Zr3{d:List Kr}{e:Int}{a:List Int}{K0:Int->Bool->Kj->Option R}(g:K0= λi h f=>K (.exit 0) (Zpo d e a i h f))(n c b):yr N d e a K0 n c b=LM Cj N 0 100006 n (Zr2 d e c b a) K:=by subst g;induction n generalizing c b with|zero=>kernel_rfl|succ n ih=>rw[yr];simp(disch:=exact id (by kernel_rfl)) only[ih,Zr1 N (CL Cj N 0 100006 [1,0,0,1,0] n K)];kernel_rfl
theorem Zzt(a:List Int)(b:List Kr)(n3:Int):DN Cj N (a,b,n3,())=zd N a b n3:=by
 conv=>rhs;rw[zd];simp(disch:=exact id (by kernel_rfl)) only[Zr3 (R:=Unit×Kv) N (CF Cj N [1,1,1,1,0,1,0])]
 kernel_rfl
def Zzu:Gd:=GF Cj func45 (λN d=>Zzt N d.1 d.2.1 d.2.2.1)
def KH:Fn:=⟨f92,λ |5=>cn_ [2,4,7,8,33]|6=>cn_ [2,4,7,8]|7=>cn_ [2,4,7,8,9]|8=>cn_ [2,4,7,8,9,58]|9=>cn_ [2,4,7,8]|100005=>cn_ [2,4,7,8]|_=>[],λN=>Sig.of [vf_ Jd,vt_ (TY_Family),vf_ Ja] [vf_ Je] (λd=>DB N d.1 d.2.1 d.2.2.1),CX [FH,FI,Yt]⟩
def Zw2(d c:Int)(a:Y_Family)(b:List Int):St:=⟨[(2,vI d),(4,vP 0 0),(7,vO 1),(8,vI c)],[(0,.box (split (TY_Family) a)),(1,.arr Ja b)],2⟩
def Zur(e:Int)(a:Y_Family)(d:Int)(c:Bool)(b:List Int):St:=⟨[(2,vI e),(4,vP 0 0),(7,vO 1),(8,vI d),(33,vB c)],[(0,.box (split (TY_Family) a)),(1,.arr Ja b)],2⟩
theorem Zw3{d:Int}{a:Y_Family}{K0:Int->Bool->Kj->Option R}(h:K0= λg f e=>K (.exit 0) (Zur d a g f e))(n c b):o8 N d a K0 n c b=LM KH N 0 100005 n (Zw2 d c a b) K:=by subst h;induction n generalizing c b;kernel_rfl;rw[o8];simp only[*];kernel_rfl
theorem Z2d(a:List Int)(f2:Y_Family)(n3:Int):DN KH N (a,f2,n3,())=DB N a f2 n3:=by
 conv=>rhs;rw[DB];simp(disch:=exact id (by kernel_rfl)) only[Zw3 (R:=Unit×Kv) N (CF KH N [1,1,1,0,1,0])]
 kernel_rfl
def Z2e:Gd:=GF KH func92 (λN d=>Z2d N d.1 d.2.1 d.2.2.1)
def Ck:Fn:=⟨f46,λ |4=>cn_ [0,3,5,22]|5=>cn_ [0,3,5]|6=>cn_ [0,3,5,6]|7=>cn_ [0,3,5,6,7]|8=>cn_ [0,3,5,6,7,42]|9=>cn_ [0,3,5,6,7]|10=>cn_ [0,3,5,6,7,8]|11=>cn_ [0,3,5,6,7,67]|12=>cn_ [4]|100004=>cn_ [0,3,5]|100008=>cn_ [0,3,5,6,7]|_=>[],λN=>Sig.of [vf_ Jd,vt_ (TY_Family)] [vf_ Jv] (λd=>CH N d.1 d.2.1),CX [FH,FI,Z2e,OK]⟩
def Zr4(e:List Int)(a d:Int)(c:Y_Family)(b:List Int):St:=⟨[(0,vV Jd e),(3,vP 0 0),(5,vI a),(6,vO 1),(7,vI d)],[(0,.box (split (TY_Family) c)),(1,.arr Ja b)],2⟩
def Zpq(d:List Int)(a:Int)(c:Y_Family)(b:List Int)(e:Int)(f:Bool):St:=⟨[(0,vV Jd d),(3,vP 0 0),(5,vI a),(6,vO 1),(7,vI e),(42,vB f)],[(0,.box (split (TY_Family) c)),(1,.arr Ja b)],2⟩
theorem Zr5{e:List Int}{a:Int}{c:Y_Family}{b:List Int}{K0 K1}(h:K0=K .ret ⟨[(4,vB false)],[],0⟩)(i:K1= λf g=>K (.exit 2) (Zpq e a c b f g))(n d):yt N e a c b K0 K1 n d=LM Ck N 1 100008 n (Zr4 e a d c b) K:=by subst h i;induction n generalizing d;kernel_rfl;rw[yt];simp only[*];kernel_rfl
theorem Zr7{b:List Int}{a:Y_Family}{K0 K1}(d:K0=K .ret ⟨[(4,vB false)],[],0⟩)(e:K1= λg f=>K (.exit 0) ⟨[(0,vV Jd b),(3,vP 0 0),(5,vI g),(22,vB f)],[(0,.box (split (TY_Family) a))],1⟩)(n c):yu N b a K0 K1 n c=LM Ck N 0 100004 n ⟨[(0,vV Jd b),(3,vP 0 0),(5,vI c)],[(0,.box (split (TY_Family) a))],1⟩ K:=by subst d e;induction n generalizing c with|zero=>kernel_rfl|succ n ih=>rw[yu];simp(disch:=exact id (by kernel_rfl)) only[ih,Zr5 N (CL Ck N 0 100004 [1,0,0,1,1,0] n K)];kernel_rfl
theorem Zzv(a:List Int)(f2:Y_Family):DN Ck N (a,f2,())=CH N a f2:=by
 conv=>rhs;rw[CH];simp(disch:=exact id (by kernel_rfl)) only[Zr7 (R:=Unit×Ks) N (CF Ck N [1,1,0,1,0])]
 kernel_rfl
def Zzw:Gd:=GF Ck func46 (λN d=>Zzv N d.1 d.2.1)
def CU:Fn:=⟨f19,λ |4=>cn_ [2,3,5,23]|5=>cn_ [2,3,5]|6=>cn_ [2,3,5,6]|7=>cn_ [2,3,5,6,34]|8=>cn_ [4]|9=>cn_ [2,3,5,6,7]|10=>cn_ [2,3,5,6,7,8]|11=>cn_ [2,3,5,6,7,8,47]|12=>cn_ [2,3,5,6,7,8]|13=>cn_ [2,3,5,6,7,8,65]|14=>cn_ [4]|15=>cn_ [2,3,5,78]|16=>cn_ [4]|100004=>cn_ [2,3,5]|100011=>cn_ [2,3,5,6,7,8]|_=>[],λN=>Sig.of [vt_ Jz,vt_ (TY_World)] [vf_ Jv] (λd=>Ds N d.1 d.2.1),CX [IW,OL,FI,Zzu,Zzw]⟩
def Zus(a e:Int)(c:Kh×List Kq×List Kb)(b:Y_World)(d:List Int):St:=⟨[(2,vP 0 0),(3,vP 1 0),(5,vI a),(6,vP 2 0),(7,vO 3),(8,vI e)],[(0,.box [.val Jd c.1.1,.val Jd c.1.2.1,.val Ja c.1.2.2,.val Jah c.2.1,.val Jq c.2.2]),(1,.box (split (TY_World) b)),(2,.box [.val Ja (Xc b.2.2.2.2.2.1 (Xa a) d_Root).1,.val Ja (Xc b.2.2.2.2.2.1 (Xa a) d_Root).2.1,.val Ja (Xc b.2.2.2.2.2.1 (Xa a) d_Root).2.2.1,.val Ja (Xc b.2.2.2.2.2.1 (Xa a) d_Root).2.2.2.1,.val Ja (Xc b.2.2.2.2.2.1 (Xa a) d_Root).2.2.2.2.1,.val Ja (Xc b.2.2.2.2.2.1 (Xa a) d_Root).2.2.2.2.2.1,.val Ja (Xc b.2.2.2.2.2.1 (Xa a) d_Root).2.2.2.2.2.2.1,.val Ja (Xc b.2.2.2.2.2.1 (Xa a) d_Root).2.2.2.2.2.2.2.1,.val Ja (Xc b.2.2.2.2.2.1 (Xa a) d_Root).2.2.2.2.2.2.2.2.1,.val Ja (Xc b.2.2.2.2.2.1 (Xa a) d_Root).2.2.2.2.2.2.2.2.2.1,.val Ja (Xc b.2.2.2.2.2.1 (Xa a) d_Root).2.2.2.2.2.2.2.2.2.2.1,.val Jv (Xc b.2.2.2.2.2.1 (Xa a) d_Root).2.2.2.2.2.2.2.2.2.2.2.1,.val Jd (Xc b.2.2.2.2.2.1 (Xa a) d_Root).2.2.2.2.2.2.2.2.2.2.2.2.1,.val Jf (Xc b.2.2.2.2.2.1 (Xa a) d_Root).2.2.2.2.2.2.2.2.2.2.2.2.2.1,.val Jf (Xc b.2.2.2.2.2.1 (Xa a) d_Root).2.2.2.2.2.2.2.2.2.2.2.2.2.2.1,.val (.slice Ji) (Xc b.2.2.2.2.2.1 (Xa a) d_Root).2.2.2.2.2.2.2.2.2.2.2.2.2.2.2.1,.val Jq (Xc b.2.2.2.2.2.1 (Xa a) d_Root).2.2.2.2.2.2.2.2.2.2.2.2.2.2.2.2.1,.val Jd (Xc b.2.2.2.2.2.1 (Xa a) d_Root).2.2.2.2.2.2.2.2.2.2.2.2.2.2.2.2.2.1,.val Jv (Xc b.2.2.2.2.2.1 (Xa a) d_Root).2.2.2.2.2.2.2.2.2.2.2.2.2.2.2.2.2.2.1,.val Ja (Xc b.2.2.2.2.2.1 (Xa a) d_Root).2.2.2.2.2.2.2.2.2.2.2.2.2.2.2.2.2.2.2.1.1,.val Ja (Xc b.2.2.2.2.2.1 (Xa a) d_Root).2.2.2.2.2.2.2.2.2.2.2.2.2.2.2.2.2.2.2.1.2.1,.val Ja (Xc b.2.2.2.2.2.1 (Xa a) d_Root).2.2.2.2.2.2.2.2.2.2.2.2.2.2.2.2.2.2.2.1.2.2.1,.val Ja (Xc b.2.2.2.2.2.1 (Xa a) d_Root).2.2.2.2.2.2.2.2.2.2.2.2.2.2.2.2.2.2.2.1.2.2.2,.val Ja (Xc b.2.2.2.2.2.1 (Xa a) d_Root).2.2.2.2.2.2.2.2.2.2.2.2.2.2.2.2.2.2.2.2.1.1,.val Ja (Xc b.2.2.2.2.2.1 (Xa a) d_Root).2.2.2.2.2.2.2.2.2.2.2.2.2.2.2.2.2.2.2.2.1.2.1,.val Ja (Xc b.2.2.2.2.2.1 (Xa a) d_Root).2.2.2.2.2.2.2.2.2.2.2.2.2.2.2.2.2.2.2.2.1.2.2.1,.val Ja (Xc b.2.2.2.2.2.1 (Xa a) d_Root).2.2.2.2.2.2.2.2.2.2.2.2.2.2.2.2.2.2.2.2.1.2.2.2.1,.val Ja (Xc b.2.2.2.2.2.1 (Xa a) d_Root).2.2.2.2.2.2.2.2.2.2.2.2.2.2.2.2.2.2.2.2.1.2.2.2.2.1,.val Jf (Xc b.2.2.2.2.2.1 (Xa a) d_Root).2.2.2.2.2.2.2.2.2.2.2.2.2.2.2.2.2.2.2.2.1.2.2.2.2.2.1,.val Jd (Xc b.2.2.2.2.2.1 (Xa a) d_Root).2.2.2.2.2.2.2.2.2.2.2.2.2.2.2.2.2.2.2.2.1.2.2.2.2.2.2,.val Ja (Xc b.2.2.2.2.2.1 (Xa a) d_Root).2.2.2.2.2.2.2.2.2.2.2.2.2.2.2.2.2.2.2.2.2.1,.val Ja (Xc b.2.2.2.2.2.1 (Xa a) d_Root).2.2.2.2.2.2.2.2.2.2.2.2.2.2.2.2.2.2.2.2.2.2.1,.val Ja (Xc b.2.2.2.2.2.1 (Xa a) d_Root).2.2.2.2.2.2.2.2.2.2.2.2.2.2.2.2.2.2.2.2.2.2.2.1,.val Jv (Xc b.2.2.2.2.2.1 (Xa a) d_Root).2.2.2.2.2.2.2.2.2.2.2.2.2.2.2.2.2.2.2.2.2.2.2.2.1,.val Jd (Xc b.2.2.2.2.2.1 (Xa a) d_Root).2.2.2.2.2.2.2.2.2.2.2.2.2.2.2.2.2.2.2.2.2.2.2.2.2.1,.val Jf (Xc b.2.2.2.2.2.1 (Xa a) d_Root).2.2.2.2.2.2.2.2.2.2.2.2.2.2.2.2.2.2.2.2.2.2.2.2.2.2.1,.val Jq (Xc b.2.2.2.2.2.1 (Xa a) d_Root).2.2.2.2.2.2.2.2.2.2.2.2.2.2.2.2.2.2.2.2.2.2.2.2.2.2.2.1,.val Jd (Xc b.2.2.2.2.2.1 (Xa a) d_Root).2.2.2.2.2.2.2.2.2.2.2.2.2.2.2.2.2.2.2.2.2.2.2.2.2.2.2.2.1,.val Jf (Xc b.2.2.2.2.2.1 (Xa a) d_Root).2.2.2.2.2.2.2.2.2.2.2.2.2.2.2.2.2.2.2.2.2.2.2.2.2.2.2.2.2.1,.val Jac (Xc b.2.2.2.2.2.1 (Xa a) d_Root).2.2.2.2.2.2.2.2.2.2.2.2.2.2.2.2.2.2.2.2.2.2.2.2.2.2.2.2.2.2]),(3,.arr Ja d)],4⟩
def Zr9(a:Int)(c:Kh×List Kq×List Kb)(b:Y_World)(d:List Int)(f:Int)(e:Bool):St:=⟨[(2,vP 0 0),(3,vP 1 0),(5,vI a),(6,vP 2 0),(7,vO 3),(8,vI f),(47,vB e)],[(0,.box [.val Jd c.1.1,.val Jd c.1.2.1,.val Ja c.1.2.2,.val Jah c.2.1,.val Jq c.2.2]),(1,.box (split (TY_World) b)),(2,.box [.val Ja (Xc b.2.2.2.2.2.1 (Xa a) d_Root).1,.val Ja (Xc b.2.2.2.2.2.1 (Xa a) d_Root).2.1,.val Ja (Xc b.2.2.2.2.2.1 (Xa a) d_Root).2.2.1,.val Ja (Xc b.2.2.2.2.2.1 (Xa a) d_Root).2.2.2.1,.val Ja (Xc b.2.2.2.2.2.1 (Xa a) d_Root).2.2.2.2.1,.val Ja (Xc b.2.2.2.2.2.1 (Xa a) d_Root).2.2.2.2.2.1,.val Ja (Xc b.2.2.2.2.2.1 (Xa a) d_Root).2.2.2.2.2.2.1,.val Ja (Xc b.2.2.2.2.2.1 (Xa a) d_Root).2.2.2.2.2.2.2.1,.val Ja (Xc b.2.2.2.2.2.1 (Xa a) d_Root).2.2.2.2.2.2.2.2.1,.val Ja (Xc b.2.2.2.2.2.1 (Xa a) d_Root).2.2.2.2.2.2.2.2.2.1,.val Ja (Xc b.2.2.2.2.2.1 (Xa a) d_Root).2.2.2.2.2.2.2.2.2.2.1,.val Jv (Xc b.2.2.2.2.2.1 (Xa a) d_Root).2.2.2.2.2.2.2.2.2.2.2.1,.val Jd (Xc b.2.2.2.2.2.1 (Xa a) d_Root).2.2.2.2.2.2.2.2.2.2.2.2.1,.val Jf (Xc b.2.2.2.2.2.1 (Xa a) d_Root).2.2.2.2.2.2.2.2.2.2.2.2.2.1,.val Jf (Xc b.2.2.2.2.2.1 (Xa a) d_Root).2.2.2.2.2.2.2.2.2.2.2.2.2.2.1,.val (.slice Ji) (Xc b.2.2.2.2.2.1 (Xa a) d_Root).2.2.2.2.2.2.2.2.2.2.2.2.2.2.2.1,.val Jq (Xc b.2.2.2.2.2.1 (Xa a) d_Root).2.2.2.2.2.2.2.2.2.2.2.2.2.2.2.2.1,.val Jd (Xc b.2.2.2.2.2.1 (Xa a) d_Root).2.2.2.2.2.2.2.2.2.2.2.2.2.2.2.2.2.1,.val Jv (Xc b.2.2.2.2.2.1 (Xa a) d_Root).2.2.2.2.2.2.2.2.2.2.2.2.2.2.2.2.2.2.1,.val Ja (Xc b.2.2.2.2.2.1 (Xa a) d_Root).2.2.2.2.2.2.2.2.2.2.2.2.2.2.2.2.2.2.2.1.1,.val Ja (Xc b.2.2.2.2.2.1 (Xa a) d_Root).2.2.2.2.2.2.2.2.2.2.2.2.2.2.2.2.2.2.2.1.2.1,.val Ja (Xc b.2.2.2.2.2.1 (Xa a) d_Root).2.2.2.2.2.2.2.2.2.2.2.2.2.2.2.2.2.2.2.1.2.2.1,.val Ja (Xc b.2.2.2.2.2.1 (Xa a) d_Root).2.2.2.2.2.2.2.2.2.2.2.2.2.2.2.2.2.2.2.1.2.2.2,.val Ja (Xc b.2.2.2.2.2.1 (Xa a) d_Root).2.2.2.2.2.2.2.2.2.2.2.2.2.2.2.2.2.2.2.2.1.1,.val Ja (Xc b.2.2.2.2.2.1 (Xa a) d_Root).2.2.2.2.2.2.2.2.2.2.2.2.2.2.2.2.2.2.2.2.1.2.1,.val Ja (Xc b.2.2.2.2.2.1 (Xa a) d_Root).2.2.2.2.2.2.2.2.2.2.2.2.2.2.2.2.2.2.2.2.1.2.2.1,.val Ja (Xc b.2.2.2.2.2.1 (Xa a) d_Root).2.2.2.2.2.2.2.2.2.2.2.2.2.2.2.2.2.2.2.2.1.2.2.2.1,.val Ja (Xc b.2.2.2.2.2.1 (Xa a) d_Root).2.2.2.2.2.2.2.2.2.2.2.2.2.2.2.2.2.2.2.2.1.2.2.2.2.1,.val Jf (Xc b.2.2.2.2.2.1 (Xa a) d_Root).2.2.2.2.2.2.2.2.2.2.2.2.2.2.2.2.2.2.2.2.1.2.2.2.2.2.1,.val Jd (Xc b.2.2.2.2.2.1 (Xa a) d_Root).2.2.2.2.2.2.2.2.2.2.2.2.2.2.2.2.2.2.2.2.1.2.2.2.2.2.2,.val Ja (Xc b.2.2.2.2.2.1 (Xa a) d_Root).2.2.2.2.2.2.2.2.2.2.2.2.2.2.2.2.2.2.2.2.2.1,.val Ja (Xc b.2.2.2.2.2.1 (Xa a) d_Root).2.2.2.2.2.2.2.2.2.2.2.2.2.2.2.2.2.2.2.2.2.2.1,.val Ja (Xc b.2.2.2.2.2.1 (Xa a) d_Root).2.2.2.2.2.2.2.2.2.2.2.2.2.2.2.2.2.2.2.2.2.2.2.1,.val Jv (Xc b.2.2.2.2.2.1 (Xa a) d_Root).2.2.2.2.2.2.2.2.2.2.2.2.2.2.2.2.2.2.2.2.2.2.2.2.1,.val Jd (Xc b.2.2.2.2.2.1 (Xa a) d_Root).2.2.2.2.2.2.2.2.2.2.2.2.2.2.2.2.2.2.2.2.2.2.2.2.2.1,.val Jf (Xc b.2.2.2.2.2.1 (Xa a) d_Root).2.2.2.2.2.2.2.2.2.2.2.2.2.2.2.2.2.2.2.2.2.2.2.2.2.2.1,.val Jq (Xc b.2.2.2.2.2.1 (Xa a) d_Root).2.2.2.2.2.2.2.2.2.2.2.2.2.2.2.2.2.2.2.2.2.2.2.2.2.2.2.1,.val Jd (Xc b.2.2.2.2.2.1 (Xa a) d_Root).2.2.2.2.2.2.2.2.2.2.2.2.2.2.2.2.2.2.2.2.2.2.2.2.2.2.2.2.1,.val Jf (Xc b.2.2.2.2.2.1 (Xa a) d_Root).2.2.2.2.2.2.2.2.2.2.2.2.2.2.2.2.2.2.2.2.2.2.2.2.2.2.2.2.2.1,.val Jac (Xc b.2.2.2.2.2.1 (Xa a) d_Root).2.2.2.2.2.2.2.2.2.2.2.2.2.2.2.2.2.2.2.2.2.2.2.2.2.2.2.2.2.2]),(3,.arr Ja d)],4⟩
theorem Zut{a:Int}{c:Kh×List Kq×List Kb}{b:Y_World}{d:List Int}{K0 K1}(g:K0=K .ret ⟨[(4,vB false)],[],0⟩)(h:K1= λi f=>K (.exit 2) (Zr9 a c b d i f))(n e):yl N a c b d K0 K1 n e=LM CU N 1 100011 n (Zus a e c b d) K:=by subst g h;induction n generalizing e;kernel_rfl;rw[yl];simp only[*];kernel_rfl
def Zuu(c:Int)(a:Kh×List Kq×List Kb)(b:Y_World):St:=⟨[(2,vP 0 0),(3,vP 1 0),(5,vI c)],[(0,.box [.val Jd a.1.1,.val Jd a.1.2.1,.val Ja a.1.2.2,.val Jah a.2.1,.val Jq a.2.2]),(1,.box (split (TY_World) b))],2⟩
def Zsb(a:Kh×List Kq×List Kb)(b:Y_World)(d:Int)(c:Bool):St:=⟨[(2,vP 0 0),(3,vP 1 0),(5,vI d),(23,vB c)],[(0,.box [.val Jd a.1.1,.val Jd a.1.2.1,.val Ja a.1.2.2,.val Jah a.2.1,.val Jq a.2.2]),(1,.box (split (TY_World) b))],2⟩
theorem Zuv{a:Kh×List Kq×List Kb}{b:Y_World}{K0 K1}(d:K0=K .ret ⟨[(4,vB false)],[],0⟩)(e:K1= λg f=>K (.exit 0) (Zsb a b g f))(n c):yH N a b K0 K1 n c=LM CU N 0 100004 n (Zuu c a b) K:=by subst d e;induction n generalizing c with|zero=>kernel_rfl|succ n ih=>rw[yH];simp(disch:=exact id (by kernel_rfl)) only[ih,Zut N (CL CU N 0 100004 [1,0,0,1,1,1,0,1,0] n K)];kernel_rfl
theorem Z09(a:Kh×List Kq×List Kb)(w2:Y_World):DN CU N (a,w2,())=Ds N a w2:=by
 conv=>rhs;rw[Ds];simp(disch:=exact id (by kernel_rfl)) only[Zuv (R:=Unit×Ks) N (CF CU N [1,1,0,1,0])]
 kernel_rfl
def Z1a:Gd:=GF CU func19 (λN d=>Z09 N d.1 d.2.1)
def Zzx:Fn:=⟨f93,WL,λN=>Sig.of [vt_ (TY_Root)] [vf_ Jv] (λd=>FK N d.1),cd⟩
def Yu:Gd:=GN Zzx func93
def Zzy:Fn:=⟨f135,WL,λN=>Sig.of [vt_ (TY_Root)] [vf_ Ja] (λd=>pn N d.1),CX [Yu]⟩
def Zzz:Gd:=GF Zzy func135
def Zya:Fn:=⟨f94,WL,λN=>Sig.of [vt_ (TY_World),vf_ Ja,vf_ Ja] [vf_ Jv] (λd=>JO N d.1 d.2.1 d.2.2.1),CX [Zzz]⟩
def Zyb:Gd:=GF Zya func94
def vd:Fn:=⟨f47,λ |3=>cn_ [1,3,4,14]|4=>cn_ [1,3,4]|5=>cn_ [1,3,4,22]|6=>cn_ [1,3,4]|9=>cn_ [1,3,5,6,33]|10=>cn_ [1,3,5,6]|11=>cn_ [1,3,5,6,7]|12=>cn_ [1,3,5,6,7,8]|13=>cn_ [1,3,5,6,7,8,39]|14=>cn_ [1,3,5,6,7,8]|15=>cn_ [1,3,5,6,7,8,56]|16=>cn_ [1,3,5,6,7,8]|17=>cn_ [1,3,5,6]|100003=>cn_ [1,3,4]|100009=>cn_ [1,3,5,6]|100013=>cn_ [1,3,5,6,7,8]|_=>[],λN=>Sig.of [vt_ (TY_World)] [vf_ Je] (λd=>vt N d.1),CX [Yu,Zyb]⟩
def Zw4(b:Int)(a:Y_World)(c:List Int):St:=⟨[(1,vP 0 0),(3,vO 1),(4,vI b)],[(0,.box (split (TY_World) a)),(1,.arr Ja c)],2⟩
def Zuw(a:Y_World)(b:Int)(d:Bool)(c:List Int):St:=⟨[(1,vP 0 0),(3,vO 1),(4,vI b),(14,vB d)],[(0,.box (split (TY_World) a)),(1,.arr Ja c)],2⟩
theorem Zw5{a:Y_World}{K0:Int->Bool->Kj->Option R}(d:K0= λe g f=>K (.exit 0) (Zuw a e g f))(n b c):uT N a K0 n b c=LM vd N 0 100003 n (Zw4 b a c) K:=by subst d;induction n generalizing b c;kernel_rfl;rw[uT];simp only[*];kernel_rfl
def Zw6(c d b:Int)(a:Y_World)(aA bz:List Int):St:=⟨[(1,vP 0 0),(3,vO 1),(5,vO 2),(6,vI c),(7,vI d),(8,vI b)],[(0,.box (split (TY_World) a)),(1,.arr Ja aA),(2,.arr Ja bz)],3⟩
def Zux(b:Int)(a:Y_World)(aA bz:List Int)(d e:Int)(c:Bool):St:=⟨[(1,vP 0 0),(3,vO 1),(5,vO 2),(6,vI b),(7,vI d),(8,vI e),(39,vB c)],[(0,.box (split (TY_World) a)),(1,.arr Ja aA),(2,.arr Ja bz)],3⟩
theorem Zw7{c:Int}{a:Y_World}{aA bz:List Int}{K0}(e:K0= λg h f=>K (.exit 4) (Zux c a aA bz g h f))(n d b):qQ N c a aA bz K0 n d b=LM vd N 2 100013 n (Zw6 c d b a aA bz) K:=by subst e;induction n generalizing d b;kernel_rfl;rw[qQ];simp only[*];kernel_rfl
def Zw8(d:Int)(c:Y_World)(a b:List Int):St:=⟨[(1,vP 0 0),(3,vO 1),(5,vO 2),(6,vI d)],[(0,.box (split (TY_World) c)),(1,.arr Ja a),(2,.arr Ja b)],3⟩
def Zuy(b:Y_World)(a:List Int)(d:Int)(e:Bool)(c:List Int):St:=⟨[(1,vP 0 0),(3,vO 1),(5,vO 2),(6,vI d),(33,vB e)],[(0,.box (split (TY_World) b)),(1,.arr Ja a),(2,.arr Ja c)],3⟩
theorem Zw9{c:Y_World}{a:List Int}{K0:Int->Bool->Kj->Option R}(f:K0= λg h e=>K (.exit 2) (Zuy c a g h e))(n d b):qR N c a K0 n d b=LM vd N 1 100009 n (Zw8 d c a b) K:=by subst f;induction n generalizing d b with|zero=>kernel_rfl|succ n ih=>rw[qR];simp(disch:=exact id (by kernel_rfl)) only[ih,Zw7 N (CL vd N 1 100009 [1,0,0,1,0,1,0] n K)];kernel_rfl
theorem Z2f(w1:Y_World):DN vd N (w1,())=vt N w1:=by
 conv=>rhs;rw[vt];simp(disch:=exact id (by kernel_rfl)) only[Zw5 (R:=Unit×Kv) N (CF vd N [1,1,0,1,0]),Zw9 (R:=Unit×Kv) N (CF vd N [1,1,1,1,0,1,0])]
 kernel_rfl
def OO:Gd:=GF vd func47 (λN d=>Z2f N d.1)
def Z1b:Fn:=⟨f136,WL,λN=>Sig.of [vt_ Jo] [vt_ Jaa] (λd=>pt N d.1),cd⟩
def YE:Gd:=GN Z1b func136
def Cl:Fn:=⟨f181,λ |4=>cn_ [0,1,6,7,8,16]|5=>cn_ [0,1,6,7,8]|6=>cn_ [0,1,6,7,8,9]|7=>cn_ [0,1,6,7,8,9,33]|8=>cn_ [4,5]|9=>cn_ [0,1,6,7,8,9]|10=>cn_ [0,1,6,7,8]|12=>cn_ [1,6,7,10,44]|13=>cn_ [1,6,7,10]|14=>cn_ [1,6,7,10,51]|15=>cn_ [1,6,7,10]|100004=>cn_ [0,1,6,7,8]|100012=>cn_ [1,6,7,10]|_=>[],λN=>Sig.of [vf_ Jd,vf_ Ja] [vf_ Je,vf_ Jv] (λd=>zf N d.1 d.2.1),CX [pu]⟩
def Zsc(a:List Int)(e b:Int)(c:List Int)(d:List Bool):St:=⟨[(0,vV Jd a),(1,vI e),(6,vO 0),(7,vO 1),(8,vI b)],[(0,.arr Ja c),(1,.arr Jv d)],2⟩
def Zpt(b:List Int)(c:Int)(a:List Int):St:=⟨[(4,vO 0),(5,vB false)],[(0,.arr Ja a)],1⟩
def Zpu(b:List Int)(f a:Int)(d:Bool)(e:List Int)(c:List Bool):St:=⟨[(0,vV Jd b),(1,vI f),(6,vO 0),(7,vO 1),(8,vI a),(16,vB d)],[(0,.arr Ja e),(1,.arr Jv c)],2⟩
theorem Zsd{a:List Int}{b:Int}{K0:Kj->Option R}{K1:Int->Bool->Kj->Ko->Option R}(j:K0= λl=>K .ret (Zpt a b l))(k:K1= λf h i g=>K (.exit 0) (Zpu a b f h i g))(n c d e):Iv N a b K0 K1 n c d e=LM Cl N 0 100004 n (Zsc a b c d e) K:=by subst j k;induction n generalizing c d e;kernel_rfl;rw[Iv];simp only[*];kernel_rfl
def Zse(b a:Int)(bz:List Int)(cL:List Bool):St:=⟨[(1,vI b),(6,vO 0),(7,vO 1),(10,vI a)],[(0,.arr Ja bz),(1,.arr Jv cL)],2⟩
def Zpv(c:Int)(cL:List Bool)(d:Int)(a:Bool)(b:List Int):St:=⟨[(1,vI c),(6,vO 0),(7,vO 1),(10,vI d),(44,vB a)],[(0,.arr Ja b),(1,.arr Jv cL)],2⟩
theorem Zsf{b:Int}{cL:List Bool}{K0:Int->Bool->Kj->Option R}(e:K0= λf c d=>K (.exit 2) (Zpv b cL f c d))(n a bz):Fr N b cL K0 n a bz=LM Cl N 1 100012 n (Zse b a bz cL) K:=by subst e;induction n generalizing a bz;kernel_rfl;rw[Fr];simp only[*];kernel_rfl
theorem Zz0(a:List Int)(n2:Int):DN Cl N (a,n2,())=zf N a n2:=by
 conv=>rhs;rw[zf];simp(disch:=exact id (by kernel_rfl)) only[Zsd (R:=Unit×(Kj×Ks)) N (CF Cl N [1,1,1,0,1,0]),Zsf (R:=Unit×(Kj×Ks)) N (CF Cl N [1,1,1,1,0,1,0])]
 kernel_rfl
def Zz1:Gd:=GF Cl func181 (λN d=>Zz0 N d.1 d.2.1)
def KJ:Fn:=⟨f204,λ |5=>cn_ [0,5,6,27]|6=>cn_ [0,5,6]|7=>cn_ [0,5,6,35]|8=>cn_ [0,5,6]|9=>cn_ [0,5,6,43]|10=>cn_ [0,5,6]|11=>cn_ [0,5,6,47]|12=>cn_ [4]|100005=>cn_ [0,5,6]|_=>[],λN=>Sig.of [vf_ Jh,vf_ Ja] [vf_ Ja] (λd=>Dx N d.1 d.2.1),cd⟩
theorem Zxb{a:List Ka}{K0 K1}(e:K0= λh=>K .ret ⟨[(4,vI h)],[],0⟩)(f:K1= λd g i=>K (.exit 0) ⟨[(0,vV Jh a),(5,vI d),(6,vI g),(27,vB i)],[],0⟩)(n b c):nB N a K0 K1 n b c=LM KJ N 0 100005 n ⟨[(0,vV Jh a),(5,vI b),(6,vI c)],[],0⟩ K:=by subst e f;induction n generalizing b c;kernel_rfl;rw[nB];simp only[*];kernel_rfl
theorem Z2g(a:List Ka)(i2:Int):DN KJ N (a,i2,())=Dx N a i2:=by
 conv=>rhs;rw[Dx];simp(disch:=exact id (by kernel_rfl)) only[Zxb (R:=Unit×Kk) N (CF KJ N [1,1,1,0,1,0])]
 kernel_rfl
def Z2h:Gd:=GN KJ func204 (λN d=>Z2g N d.1 d.2.1)
def I7:Fn:=⟨f212,λ |4=>cn_ [0,3,10]|5=>cn_ [0,3]|6=>cn_ [0,3,18]|7=>cn_ [2]|100004=>cn_ [0,3]|_=>[],λN=>Sig.of [vf_ Jd] [vf_ Jv] (λd=>Dk N d.1),CX [CI]⟩
theorem Zu2{b:List Int}{K0 K1}(c:K0=K .ret ⟨[(2,vB false)],[],0⟩)(d:K1= λe f=>K (.exit 0) ⟨[(0,vV Jd b),(3,vI e),(10,vB f)],[],0⟩)(n a):ya N b K0 K1 n a=LM I7 N 0 100004 n ⟨[(0,vV Jd b),(3,vI a)],[],0⟩ K:=by subst c d;induction n generalizing a;kernel_rfl;rw[ya];simp only[*];kernel_rfl
theorem Z1c(l1:List Int):DN I7 N (l1,())=Dk N l1:=by
 conv=>rhs;rw[Dk];simp(disch:=exact id (by kernel_rfl)) only[Zu2 (R:=Unit×Ks) N (CF I7 N [1,1,0,1,0])]
 kernel_rfl
def Z1d:Gd:=GF I7 func212 (λN d=>Z1c N d.1)
def Z20:Fn:=⟨f205,WL,λN=>Sig.of [vt_ Ju,vf_ Jd] [vf_ Je,vf_ Jv] (λd=>KT N d.1 d.2.1),CX [Oy,Z1d]⟩
def Z21:Gd:=GF Z20 func205
def JI(N m:Nat):Sig:=Sig.of [vf_ Jh,vf_ Jae,vf_ Jd,vf_ Jd,vt_ Jo] [.v (.prod Ja (.prod Je Jaa)) true] (λd=>Zj N m d.1 d.2.1 d.2.2.1 d.2.2.2.1 d.2.2.2.2.1)
def Z1e(N:Nat):Sig:=JI N N
def u3(m:Nat):Fn:=⟨f182,λ |6=>cn_ [0,1,2,3,9,10,11,12,13,37]|7=>cn_ [0,1,2,3,9,10,11,12,13,14]|8=>cn_ [0,1,2,3,9,10,11,12,13,14,15]|9=>cn_ [0,1,2,3,9,10,11,12,13,14,15,45]|10=>cn_ [0,1,2,9,10,11,12,15,24]|11=>cn_ [0,1,2,3,9,10,11,12,15]|12=>cn_ [0,1,2,3,9,10,11,12,13,14,15,45,53]|13=>cn_ [0,1,2,3,9,10,11,12,15]|14=>cn_ [0,1,2,3,9,10,11,12,13,14,15,45,65]|15=>cn_ [0,1,2,3,9,10,11,12,15]|16=>cn_ [0,1,2,3,9,10,11,12,13,14,15,45,77]|17=>cn_ [0,1,2,3,9,10,11,12,14,15,84]|18=>cn_ [0,1,2,3,9,10,11,12,15]|19=>cn_ [0,1,2,3,9,10,11,12,13,14,15,45,89]|20=>cn_ [0,1,2,3,9,10,11,12,15]|21=>cn_ [0,1,2,3,9,10,11,12,14,15,45,101]|22=>cn_ [0,1,2,3,9,10,11,12,15,16]|23=>cn_ [0,1,2,3,9,10,11,12,15,16]|24=>cn_ [0,1,2,3,9,10,11,12,15]|25=>cn_ [0,1,2,3,9,10,11,12,14,15,45,122]|26=>cn_ [0,1,2,3,9,10,11,12,126]|27=>cn_ [10]|28=>cn_ [0,1,2,9,10,11,12,17]|29=>cn_ [0,1,2,9,10,11,12,17]|30=>cn_ [0,1,2,3,9,10,11,12,17]|31=>cn_ [0,1,2,3,9,10,11,12,17]|32=>cn_ [0,1,2,3,9,10,11,12,17]|33=>cn_ [0,1,2,3,9,10,11,12,15]|34=>cn_ [0,1,2,3,9,10,11,12,14,15,45,161]|35=>cn_ [0,1,2,3,9,10,11,12,15,18]|36=>cn_ [0,1,2,3,9,10,11,12,15,18,19]|37=>cn_ [0,1,2,3,9,10,11,12,15,18,19,169]|38=>cn_ [0,1,2,3,9,10,11,12,15,18,19]|39=>cn_ [0,1,2,3,9,10,11,12,15,18,19,20]|40=>cn_ [0,1,2,3,9,10,11,12,15,18,19,20]|41=>cn_ [0,1,2,3,9,10,11,12,15,18,19,20,187]|42=>cn_ [0,1,2,3,9,10,11,12,15,18,19]|43=>cn_ [0,1,2,3,9,10,11,12,15,18,21]|44=>cn_ [0,1,2,3,9,10,11,12,15,18,21,201]|45=>cn_ [0,1,2,3,9,10,11,12,15,18,21]|46=>cn_ [0,1,2,3,9,10,11,12,15,18,21]|47=>cn_ [0,1,2,3,9,10,11,12,14,15,45,211]|48=>cn_ [0,1,2,3,9,10,11,12,14,15,22]|49=>cn_ [0,1,2,3,9,10,11,12,14,15,22]|50=>cn_ [0,1,2,3,9,10,11,12,15]|51=>cn_ [0,1,2,3,9,10,11,12,14,15,45,236]|52=>cn_ [0,1,2,3,9,10,11,12,15]|53=>cn_ [0,1,2,3,9,10,11,12,14,15,45,249]|54=>cn_ [0,1,2,3,9,10,11,12,14,15,23]|55=>cn_ [0,1,2,3,9,10,11,12,14,15,23]|56=>cn_ [0,1,2,3,9,10,11,12,15]|57=>cn_ [0,1,2,3,9,10,11,12,14,15,45,268]|58=>cn_ [0,1,2,3,9,10,11,12,15]|59=>cn_ [0,1,2,3,9,10,11,12,14,15,280]|60=>cn_ [0,1,2,3,9,10,11,12,15]|61=>cn_ [0,1,2,3,9,10,11,12,13]|100006=>cn_ [0,1,2,3,9,10,11,12,13]|100037=>cn_ [0,1,2,3,9,10,11,12,15,18,19]|100044=>cn_ [0,1,2,3,9,10,11,12,15,18,21]|_=>[],λN=>JI N (m+1),λN=>(182,JI N m)::CX [YE,Z2h,Z21] N⟩
def Zu3(c:List Ka)(b:List Kae)(a:List Int)(d f:Int)(e:List Int)(i gw iT gu:Int)(gv:List Kf)(g h j eh eZ:List Int):St:=⟨[(0,vV Jh c),(1,vV Jae b),(2,vV Jd a),(3,vO 0),(9,vP 1 0),(10,vP 2 0),(11,vP 3 0),(12,vO 4),(15,vI d),(18,vO 5),(19,vI f)],[(0,.arr Ja e),(1,.box [.own 6,.own 7,.val Ja i]),(2,.box [.val Ja gw,.nils,.nils,.nils,.val Ja iT]),(3,.box [.own 8,.own 9,.val Ja gu]),(4,.arr Jy gv),(5,.arr Ja g),(6,.arr Ja h),(7,.arr Ja j),(8,.arr Ja eh),(9,.arr Ja eZ)],10⟩
def Zsi(c:List Ka)(b:List Kae)(a:List Int)(d:Int)(e:List Int)(gw iT gu:Int)(gv:List Kf)(eh eZ:List Int)(i:Int)(f:Bool)(j:Int)(h g k:List Int):St:=⟨[(0,vV Jh c),(1,vV Jae b),(2,vV Jd a),(3,vO 0),(9,vP 1 0),(10,vP 2 0),(11,vP 3 0),(12,vO 4),(15,vI d),(18,vO 5),(19,vI i),(169,vB f)],[(0,.arr Ja e),(1,.box [.own 6,.own 7,.val Ja j]),(2,.box [.val Ja gw,.nils,.nils,.nils,.val Ja iT]),(3,.box [.own 8,.own 9,.val Ja gu]),(4,.arr Jy gv),(5,.arr Ja h),(6,.arr Ja g),(7,.arr Ja k),(8,.arr Ja eh),(9,.arr Ja eZ)],10⟩
theorem Zu4(N m:Nat){R:Type}(K:Ex->St->Option R){c:List Ka}{b:List Kae}{a:List Int}{d:Int}{e:List Int}{gw iT gu:Int}{gv:List Kf}{eh eZ:List Int}{K0:Int->Bool->Int->Kj->Kj->Kj->Option R}(k:K0= λq l r p o s=>K (.exit 3) (Zsi c b a d e gw iT gu gv eh eZ q l r p o s))(n f i g h j):pl N (Zj N m) c b a d e gw iT gu gv eh eZ K0 n f i g h j=LM (u3 m) N 1 100037 n (Zu3 c b a d f e i gw iT gu gv g h j eh eZ) K:=by subst k;induction n generalizing f i g h j;kernel_rfl;rw[pl];simp only[*];kernel_rfl
def Zu5(b:List Ka)(c:List Kae)(a:List Int)(d o:Int)(h:List Int)(p k l m:Int)(i:List Kf)(j e f g n:List Int):St:=⟨[(0,vV Jh b),(1,vV Jae c),(2,vV Jd a),(3,vO 0),(9,vP 1 0),(10,vP 2 0),(11,vP 3 0),(12,vO 4),(15,vI d),(18,vO 5),(21,vI o)],[(0,.arr Ja h),(1,.box [.own 6,.own 7,.val Ja p]),(2,.box [.val Ja k,.nils,.nils,.nils,.val Ja l]),(3,.box [.own 8,.own 9,.val Ja m]),(4,.arr Jy i),(5,.arr Ja j),(6,.arr Ja e),(7,.arr Ja f),(8,.arr Ja g),(9,.arr Ja n)],10⟩
def Zsj(b:List Ka)(c:List Kae)(a:List Int)(d n j k l:Int)(h:List Kf)(i e f g m:List Int)(o:Int)(p:Bool)(q:List Int):St:=⟨[(0,vV Jh b),(1,vV Jae c),(2,vV Jd a),(3,vO 0),(9,vP 1 0),(10,vP 2 0),(11,vP 3 0),(12,vO 4),(15,vI d),(18,vO 5),(21,vI o),(201,vB p)],[(0,.arr Ja q),(1,.box [.own 6,.own 7,.val Ja n]),(2,.box [.val Ja j,.nils,.nils,.nils,.val Ja k]),(3,.box [.own 8,.own 9,.val Ja l]),(4,.arr Jy h),(5,.arr Ja i),(6,.arr Ja e),(7,.arr Ja f),(8,.arr Ja g),(9,.arr Ja m)],10⟩
theorem Zu6(N m:Nat){R:Type}(K:Ex->St->Option R){b:List Ka}{c:List Kae}{a:List Int}{d r k l o:Int}{i:List Kf}{j e f g p:List Int}{K0:Int->Bool->Kj->Option R}(s:K0= λt u v=>K (.exit 5) (Zsj b c a d r k l o i j e f g p t u v))(n q h):uR N (Zj N m) b c a d r k l o i j e f g p K0 n q h=LM (u3 m) N 2 100044 n (Zu5 b c a d q h r k l o i j e f g p) K:=by subst s;induction n generalizing q h;kernel_rfl;rw[uR];simp only[*];kernel_rfl
def Zu7(b:List Ka)(h:List Kae)(a:List Int)(e:Int)(d:List Int)(c az:Int)(i:List Kf)(g f aP aA:List Int):St:=⟨[(0,vV Jh b),(1,vV Jae h),(2,vV Jd a),(3,vO 0),(9,vP 1 0),(10,vP 2 0),(11,vP 3 0),(12,vO 4),(13,vI e)],[(0,.arr Ja d),(1,.box [.own 5,.own 6,.val Ja c]),(2,.box [.val Ja (0:Int),.nils,.nils,.nils,.val Ja (0:Int)]),(3,.box [.own 7,.own 8,.val Ja az]),(4,.arr Jy i),(5,.arr Ja g),(6,.arr Ja f),(7,.arr Ja aP),(8,.arr Ja aA)],9⟩
def Zsk(c:List Ka)(d:List Kae)(b:List Int)(az:Int)(aP aA a:List Int):St:=⟨[(10,vP 0 0)],[(0,.box [.val Ja (2:Int),.own 1,.own 2,.own 3,.val Ja az]),(1,.arr Ja a),(2,.arr Ja aP),(3,.arr Ja aA)],4⟩
def Zsl(b:List Ka)(c:List Kae)(a:List Int)(az:Int)(aP aA:List Int)(d:Int)(i:Bool)(j:List Int)(f:Int)(g:List Kf)(h e:List Int):St:=⟨[(0,vV Jh b),(1,vV Jae c),(2,vV Jd a),(3,vO 0),(9,vP 1 0),(10,vP 2 0),(11,vP 3 0),(12,vO 4),(13,vI d),(37,vB i)],[(0,.arr Ja j),(1,.box [.own 5,.own 6,.val Ja f]),(2,.box [.val Ja (0:Int),.nils,.nils,.nils,.val Ja (0:Int)]),(3,.box [.own 7,.own 8,.val Ja az]),(4,.arr Jy g),(5,.arr Ja h),(6,.arr Ja e),(7,.arr Ja aP),(8,.arr Ja aA)],9⟩
theorem Zu8(N m:Nat){R:Type}(K:Ex->St->Option R){b:List Ka}{c:List Kae}{a:List Int}{az:Int}{aP aA:List Int}{K0:Kj->Option R}{K1:Int->Bool->Kj->Int->Kad->Kj->Kj->Option R}(j:K0= λs=>K .ret (Zsk b c a az aP aA s))(k:K1= λl t u p q r o=>K (.exit 0) (Zsl b c a az aP aA l t u p q r o))(n f e d i h g):Zd N (Zj N m) b c a az aP aA K0 K1 n f e d i h g=LM (u3 m) N 0 100006 n (Zu7 b c a f e d az i h g aP aA) K:=by subst j k;induction n generalizing f e d i h g with|zero=>kernel_rfl|succ n ih=>rw[Zd];simp(disch:=exact id (by kernel_rfl)) only[ih,Zu4 N m (CL (u3 m) N 0 100006 [1,0,1,1,0,1,0,1,1,1,1,1,1,1,1,1,1,1,1,1,0,1,0,1,0] n K),Zu6 N m (CL (u3 m) N 0 100006 [1,0,1,1,0,1,0,1,1,1,1,1,1,1,1,1,1,1,1,1,0,1,1,1,0] n K)];kernel_rfl
theorem Z1f(N m:Nat)(b:List Ka)(c:List Kae)(a ql:List Int)(s5:List Int×List Int×Int):DN (u3 m) N (b,c,a,ql,s5,())=Zj N (m+1) b c a ql s5:=by
 conv=>rhs;rw[Zj];simp(disch:=exact id (by kernel_rfl)) only[Zu8 (R:=Unit×(Kf×Unit)) N m (CF (u3 m) N [1,1,1,1,1,1,0,0])]
 kernel_rfl
theorem Yv(N:Nat):∀m,GW 182 (JI N m)
  |0=>⟨DR Tryz.func182 (show qq Tryz.f182=true by kernel_rfl),λd o h=>nomatch (show none=some o from h)⟩
  |m+1=>GR (u3 m) N Tryz.func182 (GC (Yv N m) (CO N _)) (λd=>Z1f N m d.1 d.2.1 d.2.2.1 d.2.2.2.1 d.2.2.2.2.1)
def Z1g:Gd:=⟨182,Z1e,λN=>Yv N N⟩
def Z1h:Fn:=⟨f137,WL,λN=>Sig.of [vt_ Jm,vf_ Jd,vt_ Jo] [.v (.prod Ja (.prod Je Jaa)) true] (λd=>Dt N d.1 d.2.1 d.2.2.1),CX [YA,IW,Zz1,Z1g]⟩
def Z1i:Gd:=GF Z1h func137
def IN:Fn:=⟨f95,λ |6=>cn_ [0,1,7,8,9,10,30]|7=>cn_ [0,1,7,8,9,10]|8=>cn_ [0,1,7,8,9,10,11]|9=>cn_ [0,1,7,8,9,10,11,46]|10=>cn_ [6,7]|11=>cn_ [0,1,7,8,9,10,11]|12=>cn_ [0,1,7,8,9,10]|100006=>cn_ [0,1,7,8,9,10]|_=>[],λN=>Sig.of [vf_ Jah,vf_ (.slice Jd),vt_ Jo] [vf_ (.own Jy),vt_ Jaa] (λd=>Ch N d.1 d.2.1 d.2.2.1),CX [IW,YE,Z1i]⟩
def Zn7(g:List Kq)(c:List Kj)(f:Int)(d:List Kf)(e:Int)(b a:List Int):St:=⟨[(0,vV Jah g),(1,vV (.slice Jd) c),(7,vP 0 0),(8,vO 1),(9,vP 2 0),(10,vI f)],[(0,.box [.nils,.nils,.val Ja (0:Int)]),(1,.arr Jy d),(2,.box [.own 3,.own 4,.val Ja e]),(3,.arr Ja b),(4,.arr Ja a)],5⟩
def Zm8(b:List Kq)(a:List Kj):St:=⟨[(6,vO 0),(7,vP 1 0)],[(0,.arr Jy ([]:List Kf)),(1,.box [.nils,.nils,.val Ja (0:Int)])],2⟩
def Zm9(f:List Kq)(a:List Kj)(g:Int)(e:Bool)(b:List Kf)(h:Int)(d c:List Int):St:=⟨[(0,vV Jah f),(1,vV (.slice Jd) a),(7,vP 0 0),(8,vO 1),(9,vP 2 0),(10,vI g),(30,vB e)],[(0,.box [.nils,.nils,.val Ja (0:Int)]),(1,.arr Jy b),(2,.box [.own 3,.own 4,.val Ja h]),(3,.arr Ja d),(4,.arr Ja c)],5⟩
theorem Zn8{b:List Kq}{a:List Kj}{K0}{K1:Int->Bool->Kad->Int->Kj->Kj->Option R}(k:K0=K .ret (Zm8 b a))(l:K1= λo m h p j i=>K (.exit 0) (Zm9 b a o m h p j i))(n g e f d c):uy N b a K0 K1 n g e f d c=LM IN N 0 100006 n (Zn7 b a g e f d c) K:=by subst k l;induction n generalizing g e f d c;kernel_rfl;rw[uy];simp only[*];kernel_rfl
theorem Zxc(b:List Kq)(a:List Kj)(s3:List Int×List Int×Int):DN IN N (b,a,s3,())=Ch N b a s3:=by
 conv=>rhs;rw[Ch];simp(disch:=exact id (by kernel_rfl)) only[Zn8 (R:=Unit×(Kad×Kac)) N (CF IN N [1,1,1,1,0,1,0])]
 kernel_rfl
def Zxd:Gd:=GF IN func95 (λN d=>Zxc N d.1 d.2.1 d.2.2.1)
def J1:Fn:=⟨f48,λ |7=>cn_ [2,3,5,6,7,8,9,31]|8=>cn_ [2,3,5,6,7,8,9]|9=>cn_ [2,3,5,6,7,8,9]|10=>cn_ [2,3,5,6,7,8,9]|100007=>cn_ [2,3,5,6,7,8,9]|_=>[],λN=>Sig.of [vt_ Jz,vt_ (TY_World)] [vf_ (.own Jy),vt_ Jaa] (λd=>Du N d.1 d.2.1),CX [Ox,OO,Zxd]⟩
def Zu9(e:Int)(a:Kh×List Kq×List Kb)(c:Y_World)(f:List Int)(d:List Kq)(b:List Kj):St:=⟨[(2,vP 0 0),(3,vP 1 0),(5,vP 2 0),(6,vO 3),(7,vO 4),(8,vO 5),(9,vI e)],[(0,.box [.val Jd a.1.1,.val Jd a.1.2.1,.val Ja a.1.2.2,.val Jah a.2.1,.val Jq a.2.2]),(1,.box (split (TY_World) c)),(2,.box [.nils,.nils,.val Ja (0:Int)]),(3,.arr Ja f),(4,.arr Jm d),(5,.arr Jd b)],6⟩
def Zsm(a:Kh×List Kq×List Kb)(b:Y_World)(f:List Int)(g:Int)(e:Bool)(c:List Kq)(d:List Kj):St:=⟨[(2,vP 0 0),(3,vP 1 0),(5,vP 2 0),(6,vO 3),(7,vO 4),(8,vO 5),(9,vI g),(31,vB e)],[(0,.box [.val Jd a.1.1,.val Jd a.1.2.1,.val Ja a.1.2.2,.val Jah a.2.1,.val Jq a.2.2]),(1,.box (split (TY_World) b)),(2,.box [.nils,.nils,.val Ja (0:Int)]),(3,.arr Ja f),(4,.arr Jm c),(5,.arr Jd d)],6⟩
theorem Zva{b:Kh×List Kq×List Kb}{c:Y_World}{f:List Int}{K0:Int->Bool->(List Kq)->(List Kj)->Option R}(j:K0= λk i g h=>K (.exit 0) (Zsm b c f k i g h))(n e d a):yJ N b c f K0 n e d a=LM J1 N 0 100007 n (Zu9 e b c f d a) K:=by subst j;induction n generalizing e d a;kernel_rfl;rw[yJ];simp only[*];kernel_rfl
theorem Z1j(a:Kh×List Kq×List Kb)(w2:Y_World):DN J1 N (a,w2,())=Du N a w2:=by
 conv=>rhs;rw[Du];simp(disch:=exact id (by kernel_rfl)) only[Zva (R:=Unit×(Kad×Kac)) N (CF J1 N [1,1,1,1,1,0,1,0])]
 kernel_rfl
def Z1k:Gd:=GF J1 func48 (λN d=>Z1j N d.1 d.2.1)
def J2:Fn:=⟨f49,λ |4=>cn_ [0,1,5,14]|5=>cn_ [0,1,5]|6=>cn_ [0,1,5,25]|7=>cn_ [4]|100004=>cn_ [0,1,5]|_=>[],λN=>Sig.of [vf_ Jd,vf_ Jd] [vf_ Jv] (λd=>vl N d.1 d.2.1),cd⟩
theorem Zvc{a b:List Int}{K0 K1}(d:K0=K .ret ⟨[(4,vB false)],[],0⟩)(e:K1= λf g=>K (.exit 0) ⟨[(0,vV Jd a),(1,vV Jd b),(5,vI f),(14,vB g)],[],0⟩)(n c):yK N a b K0 K1 n c=LM J2 N 0 100004 n ⟨[(0,vV Jd a),(1,vV Jd b),(5,vI c)],[],0⟩ K:=by subst d e;induction n generalizing c;kernel_rfl;rw[yK];simp only[*];kernel_rfl
theorem Z1l(a b2:List Int):DN J2 N (a,b2,())=vl N a b2:=by
 conv=>rhs;rw[vl];simp(disch:=exact id (by kernel_rfl)) only[Zvc (R:=Unit×Ks) N (CF J2 N [1,1,0,1,0])]
 kernel_rfl
def YF:Gd:=GN J2 func49 (λN d=>Z1l N d.1 d.2.1)
def J0:Fn:=⟨f50,λ |2=>cn_ [1,3,8]|3=>cn_ [1,3]|4=>cn_ [1,3,17]|5=>cn_ [2]|100002=>cn_ [1,3]|_=>[],λN=>Sig.of [vt_ (TY_World)] [vf_ Jv] (λd=>DC N d.1),cd⟩
theorem Zyd{a:Y_World}{K0 K1}(c:K0=K .ret ⟨[(2,vB false)],[],0⟩)(d:K1= λe f=>K (.exit 0) ⟨[(1,vP 0 0),(3,vI e),(8,vB f)],[(0,.box (split (TY_World) a))],1⟩)(n b):yM N a K0 K1 n b=LM J0 N 0 100002 n ⟨[(1,vP 0 0),(3,vI b)],[(0,.box (split (TY_World) a))],1⟩ K:=by subst c d;induction n generalizing b;kernel_rfl;rw[yM];simp only[*];kernel_rfl
theorem Z22(w1:Y_World):DN J0 N (w1,())=DC N w1:=by
 conv=>rhs;rw[DC];simp(disch:=exact id (by kernel_rfl)) only[Zyd (R:=Unit×Ks) N (CF J0 N [1,0,1,0])]
 kernel_rfl
def Z23:Gd:=GN J0 func50 (λN d=>Z22 N d.1)
def KK:Fn:=⟨f96,λ |4=>cn_ [1,3,19]|5=>cn_ [1,3]|6=>cn_ [1,3,4]|7=>cn_ [1,3,44]|8=>cn_ [2]|100004=>cn_ [1,3]|_=>[],λN=>Sig.of [vt_ Jab] [vf_ Jv] (λd=>Dw N d.1),CX [pu,CI]⟩
def Zxg(b:Int)(a:Int×List Kb):St:=⟨[(1,vP 0 0),(3,vI b)],[(0,.box [.val Ja a.1,.val Jq a.2])],1⟩
def Zve(a:Int×List Kb)(b:Int)(c:Bool):St:=⟨[(1,vP 0 0),(3,vI b),(19,vB c)],[(0,.box [.val Ja a.1,.val Jq a.2])],1⟩
theorem Zxh{a:Int×List Kb}{K0 K1}(c:K0=K .ret ⟨[(2,vB false)],[],0⟩)(d:K1= λe f=>K (.exit 0) (Zve a e f))(n b):uB N a K0 K1 n b=LM KK N 0 100004 n (Zxg b a) K:=by subst c d;induction n generalizing b;kernel_rfl;rw[uB];simp only[*];kernel_rfl
theorem Z2i(m1:Int×List Kb):DN KK N (m1,())=Dw N m1:=by
 conv=>rhs;rw[Dw];simp(disch:=exact id (by kernel_rfl)) only[Zxh (R:=Unit×Ks) N (CF KK N [1,1,0,1,0])]
 kernel_rfl
def Z2j:Gd:=GF KK func96 (λN d=>Z2i N d.1)
def J3:Fn:=⟨f52,λ |5=>cn_ [1,3,4,14]|6=>cn_ [1,3,4]|7=>cn_ [1,3,4]|100005=>cn_ [1,3,4]|_=>[],λN=>Sig.of [vt_ Jab] [vf_ Je] (λd=>Di N d.1),CX [Z2j]⟩
def Zvf(b:Int)(a:Int×List Kb)(c:List Int):St:=⟨[(1,vP 0 0),(3,vO 1),(4,vI b)],[(0,.box [.val Ja a.1,.val Jq a.2]),(1,.arr Ja c)],2⟩
def Zsp(a:Int×List Kb)(b:Int)(d:Bool)(c:List Int):St:=⟨[(1,vP 0 0),(3,vO 1),(4,vI b),(14,vB d)],[(0,.box [.val Ja a.1,.val Jq a.2]),(1,.arr Ja c)],2⟩
theorem Zvg{a:Int×List Kb}{K0:Int->Bool->Kj->Option R}(d:K0= λe g f=>K (.exit 0) (Zsp a e g f))(n b c):yL N a K0 n b c=LM J3 N 0 100005 n (Zvf b a c) K:=by subst d;induction n generalizing b c;kernel_rfl;rw[yL];simp only[*];kernel_rfl
theorem Z1m(m1:Int×List Kb):DN J3 N (m1,())=Di N m1:=by
 conv=>rhs;rw[Di];simp(disch:=exact id (by kernel_rfl)) only[Zvg (R:=Unit×Kv) N (CF J3 N [1,1,1,0,1,0])]
 kernel_rfl
def Z1n:Gd:=GF J3 func52 (λN d=>Z1m N d.1)
def Zz2:Fn:=⟨f138,WL,λN=>Sig.of [vf_ Ja] [vf_ Ja,vf_ Ja] (λd=>qV N d.1),cd⟩
def OI:Gd:=GN Zz2 func138
def Z1o:Fn:=⟨f140,WL,λN=>Sig.of [vf_ Ja] [vf_ Jv] (λd=>Dj N d.1),CX [pu]⟩
def YG:Gd:=GF Z1o func140
def Zye:Fn:=⟨f139,WL,λN=>Sig.of [vf_ Ja] [vf_ Ja] (λd=>JP N d.1),CX [YG]⟩
def Zyf:Gd:=GF Zye func139
def JJ:Fn:=⟨f97,λ |5=>cn_ [0,3,4,14]|6=>cn_ [0,3,4]|7=>cn_ [0,3,4,22]|8=>cn_ [2]|9=>cn_ [0,3,4,5]|10=>cn_ [0,3,4,5,32]|11=>cn_ [0,3,4,5,43]|12=>cn_ [2]|13=>cn_ [0,3,4]|100005=>cn_ [0,3,4]|_=>[],λN=>Sig.of [vf_ Jd] [vf_ Jv] (λd=>yZ N d.1),CX [pu,OI,Zyf]⟩
def Zsq(b:List Int)(a:Int)(c:List Bool):St:=⟨[(0,vV Jd b),(3,vO 0),(4,vI a)],[(0,.arr Jv c)],1⟩
def Zpx(c:List Int)(b:Int)(d:Bool)(a:List Bool):St:=⟨[(0,vV Jd c),(3,vO 0),(4,vI b),(14,vB d)],[(0,.arr Jv a)],1⟩
theorem Zsr{b:List Int}{K0}{K1:Int->Bool->Ko->Option R}(e:K0=K .ret ⟨[(2,vB false)],[],0⟩)(f:K1= λg h d=>K (.exit 0) (Zpx b g h d))(n a c):uO N b K0 K1 n a c=LM JJ N 0 100005 n (Zsq b a c) K:=by subst e f;induction n generalizing a c;kernel_rfl;rw[uO];simp only[*];kernel_rfl
theorem Zz3(l1:List Int):DN JJ N (l1,())=yZ N l1:=by
 conv=>rhs;rw[yZ];simp(disch:=exact id (by kernel_rfl)) only[Zsr (R:=Unit×Ks) N (CF JJ N [1,1,1,0,1,0])]
 kernel_rfl
def Yw:Gd:=GF JJ func97 (λN d=>Zz3 N d.1)
def KL:Fn:=⟨f141,λ |2=>cn_ [0,1,5,11]|3=>cn_ [0,1,5]|4=>cn_ [0,1,5,6]|5=>cn_ [0,1,5,28]|6=>cn_ [4]|100002=>cn_ [0,1,5]|_=>[],λN=>Sig.of [vf_ Jd,vf_ Ja] [vf_ Ja] (λd=>Aa N d.1 d.2.1),CX [OI]⟩
theorem Zxj{c:List Int}{a:Int}{K0 K1}(d:K0= λg=>K .ret ⟨[(4,vI g)],[],0⟩)(e:K1= λf h=>K (.exit 0) ⟨[(0,vV Jd c),(1,vI a),(5,vI f),(11,vB h)],[],0⟩)(n b):uX N c a K0 K1 n b=LM KL N 0 100002 n ⟨[(0,vV Jd c),(1,vI a),(5,vI b)],[],0⟩ K:=by subst d e;induction n generalizing b;kernel_rfl;rw[uX];simp only[*];kernel_rfl
theorem Z2k(a:List Int)(bM:Int):DN KL N (a,bM,())=Aa N a bM:=by
 conv=>rhs;rw[Aa];simp(disch:=exact id (by kernel_rfl)) only[Zxj (R:=Unit×Kk) N (CF KL N [1,0,1,0])]
 kernel_rfl
def Z2l:Gd:=GF KL func141 (λN d=>Z2k N d.1 d.2.1)
def Zz4:Fn:=⟨f98,WL,λN=>Sig.of [vf_ Jd,vf_ Ja] [vf_ Ja,vf_ Jv] (λd=>J8 N d.1 d.2.1),CX [Yw,YG,Z2l,OI]⟩
def Zz5:Gd:=GF Zz4 func98
def KN:Fn:=⟨f53,λ |5=>cn_ [0,3,4,13]|6=>cn_ [0,3,4]|7=>cn_ [0,3,4,5,6]|8=>cn_ [0,3,4,5,22]|9=>cn_ [0,3,4,5]|10=>cn_ [0,3,4]|100005=>cn_ [0,3,4]|_=>[],λN=>Sig.of [vf_ Jd] [vf_ Je] (λd=>Dv N d.1),CX [Yw,Zz5]⟩
def Zxk(b:List Int)(a:Int)(c:List Int):St:=⟨[(0,vV Jd b),(3,vO 0),(4,vI a)],[(0,.arr Ja c)],1⟩
def Zvj(b:List Int)(a:Int)(d:Bool)(c:List Int):St:=⟨[(0,vV Jd b),(3,vO 0),(4,vI a),(13,vB d)],[(0,.arr Ja c)],1⟩
theorem Zxl{b:List Int}{K0:Int->Bool->Kj->Option R}(d:K0= λe g f=>K (.exit 0) (Zvj b e g f))(n a c):yQ N b K0 n a c=LM KN N 0 100005 n (Zxk b a c) K:=by subst d;induction n generalizing a c;kernel_rfl;rw[yQ];simp only[*];kernel_rfl
theorem Z2m(l1:List Int):DN KN N (l1,())=Dv N l1:=by
 conv=>rhs;rw[Dv];simp(disch:=exact id (by kernel_rfl)) only[Zxl (R:=Unit×Kv) N (CF KN N [1,1,1,0,1,0])]
 kernel_rfl
def Z2n:Gd:=GF KN func53 (λN d=>Z2m N d.1)
def Zvk:Fn:=⟨f51,WL,λN=>Sig.of [vt_ Jo,vt_ Jo] [vf_ Jv] (λd=>IT N d.1 d.2.1),CX [YF]⟩
def Zvl:Gd:=GF Zvk func51
def IB:Fn:=⟨f20,λ |8=>cn_ [3,5,6,7,8,38]|9=>cn_ [3,5,6,7,8]|10=>cn_ [3,5,6,7,8,9]|11=>cn_ [3,5,6,7,8,67]|12=>cn_ [4]|100008=>cn_ [3,5,6,7,8]|_=>[],λN=>Sig.of [vt_ Jz,vt_ (TY_World)] [vf_ Jv] (λd=>Cs N d.1 d.2.1),CX [Ox,OO,Z1k,YF,Z23,Z1n,Z2n,Zvl]⟩
def Zna(e:Int)(c:Y_World)(f:List Int)(g:List Kf)(d:Int)(a b:List Int):St:=⟨[(3,vP 0 0),(5,vO 1),(6,vO 2),(7,vP 3 0),(8,vI e)],[(0,.box (split (TY_World) c)),(1,.arr Ja f),(2,.arr Jy g),(3,.box [.own 4,.own 5,.val Ja d]),(4,.arr Ja a),(5,.arr Ja b)],6⟩
def Zmt(c:Y_World)(g:List Int)(h:List Kf)(e:Int)(a b:List Int)(f:Int)(d:Bool):St:=⟨[(3,vP 0 0),(5,vO 1),(6,vO 2),(7,vP 3 0),(8,vI f),(38,vB d)],[(0,.box (split (TY_World) c)),(1,.arr Ja g),(2,.arr Jy h),(3,.box [.own 4,.own 5,.val Ja e]),(4,.arr Ja a),(5,.arr Ja b)],6⟩
theorem Znb{c:Y_World}{f:List Int}{g:List Kf}{d:Int}{a b:List Int}{K0 K1}(j:K0=K .ret ⟨[(4,vB false)],[],0⟩)(k:K1= λi h=>K (.exit 0) (Zmt c f g d a b i h))(n e):x9 N c f g d a b K0 K1 n e=LM IB N 0 100008 n (Zna e c f g d a b) K:=by subst j k;induction n generalizing e;kernel_rfl;rw[x9];simp only[*];kernel_rfl
theorem Zvm(a:Kh×List Kq×List Kb)(w2:Y_World):DN IB N (a,w2,())=Cs N a w2:=by
 conv=>rhs;rw[Cs];simp(disch:=exact id (by kernel_rfl)) only[Znb (R:=Unit×Ks) N (CF IB N [1,1,1,1,1,0,1,0])]
 kernel_rfl
def Zvn:Gd:=GF IB func20 (λN d=>Zvm N d.1 d.2.1)
def Cw:Fn:=⟨f21,λ |3=>cn_ [1,3,4,13]|4=>cn_ [1,3,4]|5=>cn_ [1,3,4,5]|6=>cn_ [1,3,4,5,18]|7=>cn_ [1,3,4,5]|8=>cn_ [1,3,4,5,6]|9=>cn_ [1,3,4,5,6,7]|10=>cn_ [1,3,4,5,46]|11=>cn_ [2]|100003=>cn_ [1,3,4]|100006=>cn_ [1,3,4,5]|_=>[],λN=>Sig.of [vt_ (TY_World)] [vf_ Jv] (λd=>CP N d.1),CX [OO]⟩
def Zpy(b c:Int)(a:Y_World)(d:List Int):St:=⟨[(1,vP 0 0),(3,vO 1),(4,vI b),(5,vI c)],[(0,.box (split (TY_World) a)),(1,.arr Ja d)],2⟩
def Zoa(d:Int)(c:Y_World)(e:List Int)(a:Int)(b:Bool):St:=⟨[(1,vP 0 0),(3,vO 1),(4,vI d),(5,vI a),(18,vB b)],[(0,.box (split (TY_World) c)),(1,.arr Ja e)],2⟩
theorem Zpz{b:Int}{a:Y_World}{e:List Int}{K0 K1}(g:K0=K .ret ⟨[(2,vB false)],[],0⟩)(h:K1= λc f=>K (.exit 2) (Zoa b a e c f))(n d):uG N b a e K0 K1 n d=LM Cw N 1 100006 n (Zpy b d a e) K:=by subst g h;induction n generalizing d;kernel_rfl;rw[uG];simp only[*];kernel_rfl
def Zp0(b:Int)(a:Y_World)(c:List Int):St:=⟨[(1,vP 0 0),(3,vO 1),(4,vI b)],[(0,.box (split (TY_World) a)),(1,.arr Ja c)],2⟩
def Zoc(a:Y_World)(d:List Int)(c:Int)(b:Bool):St:=⟨[(1,vP 0 0),(3,vO 1),(4,vI c),(13,vB b)],[(0,.box (split (TY_World) a)),(1,.arr Ja d)],2⟩
theorem Zp1{a:Y_World}{c:List Int}{K0 K1}(f:K0=K .ret ⟨[(2,vB false)],[],0⟩)(g:K1= λe d=>K (.exit 0) (Zoc a c e d))(n b):x6 N a c K0 K1 n b=LM Cw N 0 100003 n (Zp0 b a c) K:=by subst f g;induction n generalizing b with|zero=>kernel_rfl|succ n ih=>rw[x6];simp(disch:=exact id (by kernel_rfl)) only[ih,Zpz N (CL Cw N 0 100003 [1,0,0,1,0] n K)];kernel_rfl
theorem Zyg(w1:Y_World):DN Cw N (w1,())=CP N w1:=by
 conv=>rhs;rw[CP];simp(disch:=exact id (by kernel_rfl)) only[Zp1 (R:=Unit×Ks) N (CF Cw N [1,1,0,1,0])]
 kernel_rfl
def Zyh:Gd:=GF Cw func21 (λN d=>Zyg N d.1)
def Z2o:Fn:=⟨f9,WL,λN=>Sig.of [vt_ Jz,vt_ (TY_World)] [vf_ Jv] (λd=>vD N d.1 d.2.1),CX [Z1a,Zvn,Zyh]⟩
def Z2p:Gd:=GF Z2o func9
def Zyi:Fn:=⟨f3,WL,λN=>Sig.of [vf_ Jw] [vf_ Jv] (λd=>Zia N d.1),CX [Z25,Zxo,Ox,Zzr,Z28,Z2p]⟩
set_option maxRecDepth 100000 in def Zyj:Gd:=GF Zyi func3
end
end Go.Sx
