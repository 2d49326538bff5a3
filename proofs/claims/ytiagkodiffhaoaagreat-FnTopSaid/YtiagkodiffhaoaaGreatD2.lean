/- Each Go function does what its Lean function says. -/
import Derived.Test.YtiagkodiffhaoaaGreatD
open List renaming getD->Xc
open Int renaming toNat->Xb
namespace Go.Sx
set_option linter.defProp false
noncomputable section
open Go.Proofs
open Tryz
variable(N:Nat){R:Type}(K:Ex->St->Option R)
set_option linter.unusedVariables false
set_option linter.unusedSimpArgs false
def Zvm{d e j a}(g:a= λf i h=>K (.exit 0) ((Zpg d e f h j).B 36 i))(n c b):Bp N d e j a n c b=LM Fa N 0 100006 n (Zpg d e c b j) K:=by subst g;induction n generalizing c b with|zero=>kernel_rfl|succ n ih=>rw[Bp];simp(disch:=exact Ξ) only[ih,Zvl N (CL Fa N 0 100006 [1,0,0,1,0] n K)];kernel_rfl
def Z1m(a:List Int)(b:List Kr)(n3:Int):DN Fa N (a,b,n3,())=Cb N a b n3:=by
 conv=>rhs;rw[Cb];simp(disch:=exact Ξ) only[Zvm (R:=Unit×Ku) N (CF Fa N [1,1,1,1,0,1,0])]
 kernel_rfl
def Z1n:Gd:=GF Fa func56 (λN d=>Z1m N d.1 d.2.1 d.2.2.1)
def Nr:Fn:=⟨f108,λ |5=>cn_ [2,4,7,8,33]|6|9|100005=>cn_ [2,4,7,8]|7=>cn_ [2,4,7,8,9]|8=>cn_ [2,4,7,8,9,58]|_=>[],so [vf_ Je,vt_ (TY_Family),vf_ Ja] [vf_ Jx] (v3 FR),CX [IG,IH,Zr6]⟩
def Zq6(d c:Int)(a:Y_Family)(b:List Int):St:=⟨[(2,vI d),(4,vP 0 0),(7,vO 1),(8,vI c)],[(0,.box (split (TY_Family) a)),(1,.arr Ja b)],2⟩
def Zy6{d i a}(g:a= λh f e=>K (.exit 0) ((Zq6 d h i e).B 33 f))(n c b):tf N d i a n c b=LM Nr N 0 100005 n (Zq6 d c i b) K:=by subst g;induction n generalizing c b;kernel_rfl;rw[tf];simp only[*];kernel_rfl
def Z4p(a:List Int)(f2:Y_Family)(n3:Int):DN Nr N (a,f2,n3,())=FR N a f2 n3:=by
 conv=>rhs;rw[FR];simp(disch:=exact Ξ) only[Zy6 (R:=Unit×Ku) N (CF Nr N [1,1,1,0,1,0])]
 kernel_rfl
def Z4q:Gd:=GF Nr func108 (λN d=>Z4p N d.1 d.2.1 d.2.2.1)
def Fb:Fn:=⟨f57,λ |4=>cn_ [0,3,5,22]|5|100004=>cn_ [0,3,5]|6=>cn_ [0,3,5,6]|7|9|100008=>cn_ [0,3,5,6,7]|8=>cn_ [0,3,5,6,7,42]|10=>cn_ [0,3,5,6,7,8]|11=>cn_ [0,3,5,6,7,67]|12=>cn_ [4]|_=>[],so [vf_ Je,vt_ (TY_Family)] [vf_ Jq] (v2 Fw),CX [IG,IH,Z4q,Tf]⟩
def Zph(e:List Int)(c d:Int)(b:Y_Family)(a:List Int):St:=⟨[(0,vV Je e),(3,vP 0 0),(5,vI c),(6,vO 1),(7,vI d)],[(0,.box (split (TY_Family) b)),(1,.arr Ja a)],2⟩
def Zvn{e c b j k a}(g:k=K .ret ⟨[(4,vB false)],[],0⟩)(h:a= λf i=>K (.exit 2) ((Zph e c f b j).B 42 i))(n d):Br N e c b j k a n d=LM Fb N 1 100008 n (Zph e c d b j) K:=by subst g h;induction n generalizing d;kernel_rfl;rw[Br];simp only[*];kernel_rfl
def Zpi(b:List Int)(c:Int)(a:Y_Family):St:=⟨[(0,vV Je b),(3,vP 0 0),(5,vI c)],[(0,.box (split (TY_Family) a))],1⟩
def Zvo{b h i a}(d:i=K .ret ⟨[(4,vB false)],[],0⟩)(e:a= λg f=>K (.exit 0) ((Zpi b g h).B 22 f))(n c):Bu N b h i a n c=LM Fb N 0 100004 n (Zpi b c h) K:=by subst d e;induction n generalizing c with|zero=>kernel_rfl|succ n ih=>rw[Bu];simp(disch:=exact Ξ) only[ih,Zvn N (CL Fb N 0 100004 [1,0,0,1,1,0] n K)];kernel_rfl
def Z1o(a:List Int)(f2:Y_Family):DN Fb N (a,f2,())=Fw N a f2:=by
 conv=>rhs;rw[Fw];simp(disch:=exact Ξ) only[Zvo (R:=Unit×Ks) N (CF Fb N [1,1,0,1,0])]
 kernel_rfl
def Z1p:Gd:=GF Fb func57 (λN d=>Z1o N d.1 d.2.1)
def E8:Fn:=⟨f22,λ |4=>cn_ [2,3,5,23]|5|100004=>cn_ [2,3,5]|6=>cn_ [2,3,5,6]|7=>cn_ [2,3,5,6,34]|8|14|16=>cn_ [4]|9=>cn_ [2,3,5,6,7]|10|12|100011=>cn_ [2,3,5,6,7,8]|11=>cn_ [2,3,5,6,7,8,47]|13=>cn_ [2,3,5,6,7,8,65]|15=>cn_ [2,3,5,78]|_=>[],so [vt_ Jr,vt_ (TY_World)] [vf_ Jq] (v2 FL),CX [ML,Th,IH,Z1n,Z1p]⟩
def Zp9(b d:Int)(e:Kg×List Kq×List Kb)(a:Y_World)(c:List Int):St:=⟨[(2,vP 0 0),(3,vP 1 0),(5,vI b),(6,vP 2 0),(7,vO 3),(8,vI d)],[(0,.box [.val Je e.1.1,.val Je e.1.2.1,.val Ja e.1.2.2,.val Jz e.2.1,.val Jf e.2.2]),(1,.box (split (TY_World) a)),(2,.box (split (TY_Root) (Xc a.2.2.2.2.2.1 (Xb b) d_Root))),(3,.arr Ja c)],4⟩
def Zxb{c b a i j k}(g:j=K .ret ⟨[(4,vB false)],[],0⟩)(h:k= λe f=>K (.exit 2) ((Zp9 c e b a i).B 47 f))(n d):BP N c b a i j k n d=LM E8 N 1 100011 n (Zp9 c d b a i) K:=by subst g h;induction n generalizing d;kernel_rfl;rw[BP];simp only[*];kernel_rfl
def Zqa(c:Int)(a:Kg×List Kq×List Kb)(b:Y_World):St:=⟨[(2,vP 0 0),(3,vP 1 0),(5,vI c)],[(0,.box [.val Je a.1.1,.val Je a.1.2.1,.val Ja a.1.2.2,.val Jz a.2.1,.val Jf a.2.2]),(1,.box (split (TY_World) b))],2⟩
def Zxc{h b i a}(e:i=K .ret ⟨[(4,vB false)],[],0⟩)(f:a= λg d=>K (.exit 0) ((Zqa g h b).B 23 d))(n c):BV N h b i a n c=LM E8 N 0 100004 n (Zqa c h b) K:=by subst e f;induction n generalizing c with|zero=>kernel_rfl|succ n ih=>rw[BV];simp(disch:=exact Ξ) only[ih,Zxb N (CL E8 N 0 100004 [1,0,0,1,1,1,0,1,0] n K)];kernel_rfl
def Z3c(a:Kg×List Kq×List Kb)(w2:Y_World):DN E8 N (a,w2,())=FL N a w2:=by
 conv=>rhs;rw[FL];simp(disch:=exact Ξ) only[Zxc (R:=Unit×Ks) N (CF E8 N [1,1,0,1,0])]
 kernel_rfl
def Z3d:Gd:=GF E8 func22 (λN d=>Z3c N d.1 d.2.1)
def Z1q:Fn:=⟨f25,WG,so [vt_ (TY_Root)] [vf_ Jq] (v1 ID),cg⟩
def Zr7:Gd:=GN Z1q func25
def Z1r:Fn:=⟨f63,WG,so [vt_ (TY_Root)] [vf_ Ja] (v1 tn),CX [Zr7]⟩
def Z1s:Gd:=GF Z1r func63
def Zz7:Fn:=⟨f26,WG,so [vt_ (TY_World),vf_ Ja,vf_ Ja] [vf_ Jq] (v3 MN),CX [Z1s]⟩
def Zz8:Gd:=GF Zz7 func26
def y7:Fn:=⟨f10,λ |3=>cn_ [1,3,4,14]|4|6|100003=>cn_ [1,3,4]|5=>cn_ [1,3,4,22]|9=>cn_ [1,3,5,6,33]|10|17|100009=>cn_ [1,3,5,6]|11=>cn_ [1,3,5,6,7]|12|14|16|100013=>cn_ [1,3,5,6,7,8]|13=>cn_ [1,3,5,6,7,8,39]|15=>cn_ [1,3,5,6,7,8,56]|_=>[],so [vt_ (TY_World)] [vf_ Jx] (v1 wc),CX [Zr7,Zz8]⟩
def Zq7(c:Int)(a:Y_World)(b:List Int):St:=⟨[(1,vP 0 0),(3,vO 1),(4,vI c)],[(0,.box (split (TY_World) a)),(1,.arr Ja b)],2⟩
def Zy7{a h}(c:h= λd f e=>K (.exit 0) ((Zq7 d a e).B 14 f))(n g b):yN N a h n g b=LM y7 N 0 100003 n (Zq7 g a b) K:=by subst c;induction n generalizing g b;kernel_rfl;rw[yN];simp only[*];kernel_rfl
def Zq8(c d b:Int)(e:Y_World)(f a:List Int):St:=⟨[(1,vP 0 0),(3,vO 1),(5,vO 2),(6,vI c),(7,vI d),(8,vI b)],[(0,.box (split (TY_World) e)),(1,.arr Ja f),(2,.arr Ja a)],3⟩
def Zy8{c i k a j}(f:j= λg e h=>K (.exit 4) ((Zq8 c g e i k a).B 39 h))(n d b):vM N c i k a j n d b=LM y7 N 2 100013 n (Zq8 c d b i k a) K:=by subst f;induction n generalizing d b;kernel_rfl;rw[vM];simp only[*];kernel_rfl
def Zq9(d:Int)(c:Y_World)(a b:List Int):St:=⟨[(1,vP 0 0),(3,vO 1),(5,vO 2),(6,vI d)],[(0,.box (split (TY_World) c)),(1,.arr Ja a),(2,.arr Ja b)],3⟩
def Zy9{c i a}(g:a= λe h f=>K (.exit 2) ((Zq9 e c i f).B 33 h))(n d b):vS N c i a n d b=LM y7 N 1 100009 n (Zq9 d c i b) K:=by subst g;induction n generalizing d b with|zero=>kernel_rfl|succ n ih=>rw[vS];simp(disch:=exact Ξ) only[ih,Zy8 N (CL y7 N 1 100009 [1,0,0,1,0,1,0] n K)];kernel_rfl
def Z4r(w1:Y_World):DN y7 N (w1,())=wc N w1:=by
 conv=>rhs;rw[wc];simp(disch:=exact Ξ) only[Zy7 (R:=Unit×Ku) N (CF y7 N [1,1,0,1,0]),Zy9 (R:=Unit×Ku) N (CF y7 N [1,1,1,1,0,1,0])]
 kernel_rfl
def Ns:Gd:=GF y7 func10 (λN d=>Z4r N d.1)
def Z3e:Fn:=⟨f158,WG,so [vt_ Jj] [vt_ Jo] (v1 rE),cg⟩
def Zsz:Gd:=GN Z3e func158
def Fc:Fn:=⟨f206,λ |4=>cn_ [0,1,6,7,8,16]|5|10|100004=>cn_ [0,1,6,7,8]|6|9=>cn_ [0,1,6,7,8,9]|7=>cn_ [0,1,6,7,8,9,33]|8=>cn_ [4,5]|12=>cn_ [1,6,7,10,44]|13|15|100012=>cn_ [1,6,7,10]|14=>cn_ [1,6,7,10,51]|_=>[],so [vf_ Je,vf_ Ja] [vf_ Jx,vf_ Jq] (v2 vW),CX [tD]⟩
def Zpj(a:List Int)(e b:Int)(c:List Int)(d:List Bool):St:=⟨[(0,vV Je a),(1,vI e),(6,vO 0),(7,vO 1),(8,vI b)],[(0,.arr Ja c),(1,.arr Jq d)],2⟩
def Zuc(b:List Int)(c:Int)(a:List Int):St:=⟨[(4,vO 0),(5,vB false)],[(0,.arr Ja a)],1⟩
def Zvr{m b o a}(j:o= λl=>K .ret (Zuc m b l))(k:a= λi g h f=>K (.exit 0) ((Zpj m b i h f).B 16 g))(n c d e):Mj N m b o a n c d e=LM Fc N 0 100004 n (Zpj m b c d e) K:=by subst j k;induction n generalizing c d e;kernel_rfl;rw[Mj];simp only[*];kernel_rfl
def Zpk(b c:Int)(d:List Int)(a:List Bool):St:=⟨[(1,vI b),(6,vO 0),(7,vO 1),(10,vI c)],[(0,.arr Ja d),(1,.arr Jq a)],2⟩
def Zvs{b a h}(f:h= λd c e=>K (.exit 2) ((Zpk b d e a).B 44 c))(n g i):Ik N b a h n g i=LM Fc N 1 100012 n (Zpk b g i a) K:=by subst f;induction n generalizing g i;kernel_rfl;rw[Ik];simp only[*];kernel_rfl
def Z1t(a:List Int)(n2:Int):DN Fc N (a,n2,())=vW N a n2:=by
 conv=>rhs;rw[vW];simp(disch:=exact Ξ) only[Zvr (R:=Unit×(Ki×Ks)) N (CF Fc N [1,1,1,0,1,0]),Zvs (R:=Unit×(Ki×Ks)) N (CF Fc N [1,1,1,1,0,1,0])]
 kernel_rfl
def Z1u:Gd:=GF Fc func206 (λN d=>Z1t N d.1 d.2.1)
def Nt:Fn:=⟨f233,λ |5=>cn_ [0,5,6,27]|6|8|10|100005=>cn_ [0,5,6]|7=>cn_ [0,5,6,35]|9=>cn_ [0,5,6,43]|11=>cn_ [0,5,6,47]|12=>cn_ [4]|_=>[],so [vf_ Jc,vf_ Ja] [vf_ Ja] (v2 zb),cg⟩
def Zra(a:List Ka)(b c:Int):St:=⟨[(0,vV Jc a),(5,vI b),(6,vI c)],[],0⟩
def Zza{j k a}(e:k= λh=>K .ret ⟨[(4,vI h)],[],0⟩)(f:a= λd g i=>K (.exit 0) ((Zra j d g).B 27 i))(n b c):o6 N j k a n b c=LM Nt N 0 100005 n (Zra j b c) K:=by subst e f;induction n generalizing b c;kernel_rfl;rw[o6];simp only[*];kernel_rfl
def Z4s(a:List Ka)(i2:Int):DN Nt N (a,i2,())=zb N a i2:=by
 conv=>rhs;rw[zb];simp(disch:=exact Ξ) only[Zza (R:=Unit×Kk) N (CF Nt N [1,1,1,0,1,0])]
 kernel_rfl
def Z4t:Gd:=GN Nt func233 (λN d=>Z4s N d.1 d.2.1)
def NB:Fn:=⟨f243,λ |4=>cn_ [0,3,10]|5|100004=>cn_ [0,3]|6=>cn_ [0,3,18]|7=>cn_ [2]|_=>[],so [vf_ Je] [vf_ Jq] (v1 FE),CX [Fz]⟩
def Zqb(b:List Int)(a:Int):St:=⟨[(0,vV Je b),(3,vI a)],[],0⟩
def Zxe{b h a}(c:h=K .ret ⟨[(2,vB false)],[],0⟩)(d:a= λe f=>K (.exit 0) ((Zqb b e).B 10 f))(n g):A7 N b h a n g=LM NB N 0 100004 n (Zqb b g) K:=by subst c d;induction n generalizing g;kernel_rfl;rw[A7];simp only[*];kernel_rfl
def Z3f(l1:List Int):DN NB N (l1,())=FE N l1:=by
 conv=>rhs;rw[FE];simp(disch:=exact Ξ) only[Zxe (R:=Unit×Ks) N (CF NB N [1,1,0,1,0])]
 kernel_rfl
def Z3g:Gd:=GF NB func243 (λN d=>Z3f N d.1)
def Z5m:Fn:=⟨f234,WG,so [vt_ Jm,vf_ Je] [vf_ Jx,vf_ Jq] (v2 F0),CX [Tr,Z3g]⟩
def Z5n:Gd:=GF Z5m func234
def Nf(N m:Nat):Sig:=Sig.of [vf_ Jc,vf_ Jab,vf_ Je,vf_ Je,vt_ Jj] [vt_ Jag] (λd=>Ze N m d.1 d.2.1 d.2.2.1 d.2.2.2.1 d.2.2.2.2.1)
def Z3h(N:Nat):Sig:=Nf N N
def yX(m:Nat):Fn:=⟨f207,λ |6=>cn_ [0,1,2,3,9,10,11,12,13,37]|7=>cn_ [0,1,2,3,9,10,11,12,13,14]|8=>cn_ [0,1,2,3,9,10,11,12,13,14,15]|9=>cn_ [0,1,2,3,9,10,11,12,13,14,15,45]|10=>cn_ [0,1,2,9,10,11,12,15,24]|11|13|15|18|20|24|33|50|52|56|58|60=>cn_ [0,1,2,3,9,10,11,12,15]|12=>cn_ [0,1,2,3,9,10,11,12,13,14,15,45,53]|14=>cn_ [0,1,2,3,9,10,11,12,13,14,15,45,65]|16=>cn_ [0,1,2,3,9,10,11,12,13,14,15,45,77]|17=>cn_ [0,1,2,3,9,10,11,12,14,15,84]|19=>cn_ [0,1,2,3,9,10,11,12,13,14,15,45,89]|21=>cn_ [0,1,2,3,9,10,11,12,14,15,45,101]|22|23=>cn_ [0,1,2,3,9,10,11,12,15,16]|25=>cn_ [0,1,2,3,9,10,11,12,14,15,45,122]|26=>cn_ [0,1,2,3,9,10,11,12,126]|27=>cn_ [10]|28|29=>cn_ [0,1,2,9,10,11,12,17]|30|31|32=>cn_ [0,1,2,3,9,10,11,12,17]|34=>cn_ [0,1,2,3,9,10,11,12,14,15,45,161]|35=>cn_ [0,1,2,3,9,10,11,12,15,18]|36|38|42|100037=>cn_ [0,1,2,3,9,10,11,12,15,18,19]|37=>cn_ [0,1,2,3,9,10,11,12,15,18,19,169]|39|40=>cn_ [0,1,2,3,9,10,11,12,15,18,19,20]|41=>cn_ [0,1,2,3,9,10,11,12,15,18,19,20,187]|43|45|46|100044=>cn_ [0,1,2,3,9,10,11,12,15,18,21]|44=>cn_ [0,1,2,3,9,10,11,12,15,18,21,201]|47=>cn_ [0,1,2,3,9,10,11,12,14,15,45,211]|48|49=>cn_ [0,1,2,3,9,10,11,12,14,15,22]|51=>cn_ [0,1,2,3,9,10,11,12,14,15,45,236]|53=>cn_ [0,1,2,3,9,10,11,12,14,15,45,249]|54|55=>cn_ [0,1,2,3,9,10,11,12,14,15,23]|57=>cn_ [0,1,2,3,9,10,11,12,14,15,45,268]|59=>cn_ [0,1,2,3,9,10,11,12,14,15,280]|61|100006=>cn_ [0,1,2,3,9,10,11,12,13]|_=>[],λN=>Nf N (m+1),λN=>(207,Nf N m)::CX [Zsz,Z4t,Z5n] N⟩
def Zqc(c:List Ka)(b:List Kaf)(j:List Int)(d f:Int)(e:List Int)(i p o m:Int)(a:List Ke)(g h n k l:List Int):St:=⟨[(0,vV Jc c),(1,vV Jab b),(2,vV Je j),(3,vO 0),(9,vP 1 0),(10,vP 2 0),(11,vP 3 0),(12,vO 4),(15,vI d),(18,vO 5),(19,vI f)],[(0,.arr Ja e),(1,.box [.own 6,.own 7,.val Ja i]),(2,.box [.val Ja p,.nils,.nils,.nils,.val Ja o]),(3,.box [.own 8,.own 9,.val Ja m]),(4,.arr Js a),(5,.arr Ja g),(6,.arr Ja h),(7,.arr Ja n),(8,.arr Ja k),(9,.arr Ja l)],10⟩
def Zxf(N m:Nat){R:Type}(K:Ex->St->Option R){c b s d e z y w a u v t}(o:t= λj p k r q l=>K (.exit 3) ((Zqc c b s d j e k z y w a r q l u v).B 169 p))(n f i g h x):rm N (Ze N m) c b s d e z y w a u v t n f i g h x=LM (yX m) N 1 100037 n (Zqc c b s d f e i z y w a g h x u v) K:=by subst o;induction n generalizing f i g h x;kernel_rfl;rw[rm];simp only[*];kernel_rfl
def Zqd(b:List Ka)(c:List Kaf)(a:List Int)(d k:Int)(h:List Int)(p l m n:Int)(i:List Ke)(j e f g o:List Int):St:=⟨[(0,vV Jc b),(1,vV Jab c),(2,vV Je a),(3,vO 0),(9,vP 1 0),(10,vP 2 0),(11,vP 3 0),(12,vO 4),(15,vI d),(18,vO 5),(21,vI k)],[(0,.arr Ja h),(1,.box [.own 6,.own 7,.val Ja p]),(2,.box [.val Ja l,.nils,.nils,.nils,.val Ja m]),(3,.box [.own 8,.own 9,.val Ja n]),(4,.arr Js i),(5,.arr Ja j),(6,.arr Ja e),(7,.arr Ja f),(8,.arr Ja g),(9,.arr Ja o)],10⟩
def Zxg(N m:Nat){R:Type}(K:Ex->St->Option R){b c w d r l o p i j e f g q a}(v:a= λs t u=>K (.exit 5) ((Zqd b c w d s u r l o p i j e f g q).B 201 t))(n k h):p8 N (Ze N m) b c w d r l o p i j e f g q a n k h=LM (yX m) N 2 100044 n (Zqd b c w d k h r l o p i j e f g q) K:=by subst v;induction n generalizing k h;kernel_rfl;rw[p8];simp only[*];kernel_rfl
def Zqe(d:List Ka)(e:List Kaf)(b:List Int)(h:Int)(c:List Int)(a k:Int)(i:List Ke)(f g l j:List Int):St:=⟨[(0,vV Jc d),(1,vV Jab e),(2,vV Je b),(3,vO 0),(9,vP 1 0),(10,vP 2 0),(11,vP 3 0),(12,vO 4),(13,vI h)],[(0,.arr Ja c),(1,.box [.own 5,.own 6,.val Ja a]),(2,.box [.val Ja (0:Int),.nils,.nils,.nils,.val Ja (0:Int)]),(3,.box [.own 7,.own 8,.val Ja k]),(4,.arr Js i),(5,.arr Ja f),(6,.arr Ja g),(7,.arr Ja l),(8,.arr Ja j)],9⟩
def Zvu(c:List Ka)(d:List Kaf)(b:List Int)(g:Int)(a f e:List Int):St:=⟨[(10,vP 0 0)],[(0,.box [.val Ja (2:Int),.own 1,.own 2,.own 3,.val Ja g]),(1,.arr Ja e),(2,.arr Ja a),(3,.arr Ja f)],4⟩
def Zxh(N m:Nat){R:Type}(K:Ex->St->Option R){b c u y z x v w}(p:v= λr=>K .ret (Zvu b c u y z x r))(q:w= λs i j k l o t=>K (.exit 0) ((Zqe b c u s j k y l o t z x).B 37 i))(n h e a d f g):Za N (Ze N m) b c u y z x v w n h e a d f g=LM (yX m) N 0 100006 n (Zqe b c u h e a y d f g z x) K:=by subst p q;induction n generalizing h e a d f g with|zero=>kernel_rfl|succ n ih=>rw[Za];simp(disch:=exact Ξ) only[ih,Zxf N m (CL (yX m) N 0 100006 [1,0,1,1,0,1,0,1,1,1,1,1,1,1,1,1,1,1,1,1,0,1,0,1,0] n K),Zxg N m (CL (yX m) N 0 100006 [1,0,1,1,0,1,0,1,1,1,1,1,1,1,1,1,1,1,1,1,0,1,1,1,0] n K)];kernel_rfl
def Z3i(N m:Nat)(a:List Ka)(c:List Kaf)(b lE:List Int)(s5:List Int×List Int×Int):DN (yX m) N (a,c,b,lE,s5,())=Ze N (m+1) a c b lE s5:=by
 conv=>rhs;rw[Ze];simp(disch:=exact Ξ) only[Zxh (R:=Unit×(Ke×Unit)) N m (CF (yX m) N [1,1,1,1,1,1,0,0])]
 kernel_rfl
def Zr8(N:Nat):∀m,GW 207 (Nf N m)
  |0=>⟨CQ Tryz.func207 (show sj Tryz.f207=true by kernel_rfl),λd o h=>nomatch (show none=some o from h)⟩
  |m+1=>GR (yX m) N Tryz.func207 (GC (Zr8 N m) (CO N _)) (λd=>Z3i N m d.1 d.2.1 d.2.2.1 d.2.2.2.1 d.2.2.2.2.1)
def Z3j:Gd:=⟨207,Z3h,λN=>Zr8 N N⟩
def Z3k:Fn:=⟨f159,WG,so [vt_ Jk,vf_ Je,vt_ Jj] [vt_ Jag] (v3 Ck),CX [Zsy,ML,Z1u,Z3j]⟩
def Z3l:Gd:=GF Z3k func159
def Mx:Fn:=⟨f109,λ |6=>cn_ [0,1,7,8,9,10,30]|7|12|100006=>cn_ [0,1,7,8,9,10]|8|11=>cn_ [0,1,7,8,9,10,11]|9=>cn_ [0,1,7,8,9,10,11,46]|10=>cn_ [6,7]|_=>[],so [vf_ Jz,vf_ (.slice Je),vt_ Jj] [vf_ (.own Js),vt_ Jo] (v3 ET),CX [ML,Zsz,Z3l]⟩
def Znu(g:List Kq)(e:List Ki)(f:Int)(c:List Ke)(d:Int)(b a:List Int):St:=⟨[(0,vV Jz g),(1,vV (.slice Je) e),(7,vP 0 0),(8,vO 1),(9,vP 2 0),(10,vI f)],[(0,.box [.nils,.nils,.val Ja (0:Int)]),(1,.arr Js c),(2,.box [.own 3,.own 4,.val Ja d]),(3,.arr Ja b),(4,.arr Ja a)],5⟩
def Zsm(b:List Kq)(a:List Ki):St:=⟨[(6,vO 0),(7,vP 1 0)],[(0,.arr Js ([]:List Ke)),(1,.box [.nils,.nils,.val Ja (0:Int)])],2⟩
def Ztb{b q r a}(l:r=K .ret (Zsm b q))(m:a= λp h i o k j=>K (.exit 0) ((Znu b q p i o k j).B 30 h))(n g e f d c):AY N b q r a n g e f d c=LM Mx N 0 100006 n (Znu b q g e f d c) K:=by subst l m;induction n generalizing g e f d c;kernel_rfl;rw[AY];simp only[*];kernel_rfl
def Zzb(b:List Kq)(a:List Ki)(s3:List Int×List Int×Int):DN Mx N (b,a,s3,())=ET N b a s3:=by
 conv=>rhs;rw[ET];simp(disch:=exact Ξ) only[Ztb (R:=Unit×Kal) N (CF Mx N [1,1,1,1,0,1,0])]
 kernel_rfl
def Zzc:Gd:=GF Mx func109 (λN d=>Zzb N d.1 d.2.1 d.2.2.1)
def NC:Fn:=⟨f58,λ |7=>cn_ [2,3,5,6,7,8,9,31]|8|9|10|100007=>cn_ [2,3,5,6,7,8,9]|_=>[],so [vt_ Jr,vt_ (TY_World)] [vf_ (.own Js),vt_ Jo] (v2 FM),CX [Tc,Ns,Zzc]⟩
def Zqf(e:Int)(a:Kg×List Kq×List Kb)(c:Y_World)(f:List Int)(d:List Kq)(b:List Ki):St:=⟨[(2,vP 0 0),(3,vP 1 0),(5,vP 2 0),(6,vO 3),(7,vO 4),(8,vO 5),(9,vI e)],[(0,.box [.val Je a.1.1,.val Je a.1.2.1,.val Ja a.1.2.2,.val Jz a.2.1,.val Jf a.2.2]),(1,.box (split (TY_World) c)),(2,.box [.nils,.nils,.val Ja (0:Int)]),(3,.arr Ja f),(4,.arr Jk d),(5,.arr Je b)],6⟩
def Zxi{b c f a}(j:a= λk i g h=>K (.exit 0) ((Zqf k b c f g h).B 31 i))(n e d l):vz N b c f a n e d l=LM NC N 0 100007 n (Zqf e b c f d l) K:=by subst j;induction n generalizing e d l;kernel_rfl;rw[vz];simp only[*];kernel_rfl
def Z3m(a:Kg×List Kq×List Kb)(w2:Y_World):DN NC N (a,w2,())=FM N a w2:=by
 conv=>rhs;rw[FM];simp(disch:=exact Ξ) only[Zxi (R:=Unit×Kal) N (CF NC N [1,1,1,1,1,0,1,0])]
 kernel_rfl
def Z3n:Gd:=GF NC func58 (λN d=>Z3m N d.1 d.2.1)
def ND:Fn:=⟨f59,λ |4=>cn_ [0,1,5,14]|5|100004=>cn_ [0,1,5]|6=>cn_ [0,1,5,25]|7=>cn_ [4]|_=>[],so [vf_ Je,vf_ Je] [vf_ Jq] (v2 tA),cg⟩
def Zqg(c a:List Int)(b:Int):St:=⟨[(0,vV Je c),(1,vV Je a),(5,vI b)],[],0⟩
def Zxj{g a h i}(c:h=K .ret ⟨[(4,vB false)],[],0⟩)(d:i= λe f=>K (.exit 0) ((Zqg g a e).B 14 f))(n b):vA N g a h i n b=LM ND N 0 100004 n (Zqg g a b) K:=by subst c d;induction n generalizing b;kernel_rfl;rw[vA];simp only[*];kernel_rfl
def Z3o(b a:List Int):DN ND N (b,a,())=tA N b a:=by
 conv=>rhs;rw[tA];simp(disch:=exact Ξ) only[Zxj (R:=Unit×Ks) N (CF ND N [1,1,0,1,0])]
 kernel_rfl
def Zs0:Gd:=GN ND func59 (λN d=>Z3o N d.1 d.2.1)
def NT:Fn:=⟨f9,λ |2=>cn_ [1,3,8]|3|100002=>cn_ [1,3]|4=>cn_ [1,3,17]|5=>cn_ [2]|_=>[],so [vt_ (TY_World)] [vf_ Jq] (v1 Cz),cg⟩
def Zrw(b:Int)(a:Y_World):St:=⟨[(1,vP 0 0),(3,vI b)],[(0,.box (split (TY_World) a))],1⟩
def Zz9{a g h}(b:g=K .ret ⟨[(2,vB false)],[],0⟩)(c:h= λd e=>K (.exit 0) ((Zrw d a).B 8 e))(n f):BZ N a g h n f=LM NT N 0 100002 n (Zrw f a) K:=by subst b c;induction n generalizing f;kernel_rfl;rw[BZ];simp only[*];kernel_rfl
def Z5o(w1:Y_World):DN NT N (w1,())=Cz N w1:=by
 conv=>rhs;rw[Cz];simp(disch:=exact Ξ) only[Zz9 (R:=Unit×Ks) N (CF NT N [1,0,1,0])]
 kernel_rfl
def Zv2:Gd:=GN NT func9 (λN d=>Z5o N d.1)
def NU:Fn:=⟨f110,λ |4=>cn_ [1,3,19]|5|100004=>cn_ [1,3]|6=>cn_ [1,3,4]|7=>cn_ [1,3,44]|8=>cn_ [2]|_=>[],so [vt_ Jaa] [vf_ Jq] (v1 FY),CX [tD,Fz]⟩
def Zrb(b:Int)(a:Int×List Kb):St:=⟨[(1,vP 0 0),(3,vI b)],[(0,.box [.val Ja a.1,.val Jf a.2])],1⟩
def Zze{a g h}(b:g=K .ret ⟨[(2,vB false)],[],0⟩)(c:h= λd e=>K (.exit 0) ((Zrb d a).B 19 e))(n f):yw N a g h n f=LM NU N 0 100004 n (Zrb f a) K:=by subst b c;induction n generalizing f;kernel_rfl;rw[yw];simp only[*];kernel_rfl
def Z4u(m1:Int×List Kb):DN NU N (m1,())=FY N m1:=by
 conv=>rhs;rw[FY];simp(disch:=exact Ξ) only[Zze (R:=Unit×Ks) N (CF NU N [1,1,0,1,0])]
 kernel_rfl
def Z4v:Gd:=GF NU func110 (λN d=>Z4u N d.1)
def NE:Fn:=⟨f61,λ |5=>cn_ [1,3,4,14]|6|7|100005=>cn_ [1,3,4]|_=>[],so [vt_ Jaa] [vf_ Jx] (v1 FN),CX [Z4v]⟩
def Zqh(c:Int)(a:Int×List Kb)(b:List Int):St:=⟨[(1,vP 0 0),(3,vO 1),(4,vI c)],[(0,.box [.val Ja a.1,.val Jf a.2]),(1,.arr Ja b)],2⟩
def Zxl{a h}(c:h= λd f e=>K (.exit 0) ((Zqh d a e).B 14 f))(n g b):BW N a h n g b=LM NE N 0 100005 n (Zqh g a b) K:=by subst c;induction n generalizing g b;kernel_rfl;rw[BW];simp only[*];kernel_rfl
def Z3p(m1:Int×List Kb):DN NE N (m1,())=FN N m1:=by
 conv=>rhs;rw[FN];simp(disch:=exact Ξ) only[Zxl (R:=Unit×Ku) N (CF NE N [1,1,1,0,1,0])]
 kernel_rfl
def Z3q:Gd:=GF NE func61 (λN d=>Z3p N d.1)
def Z1v:Fn:=⟨f160,WG,so [vf_ Ja] [vf_ Ja,vf_ Ja] (v1 vX),cg⟩
def Td:Gd:=GN Z1v func160
def Z3r:Fn:=⟨f162,WG,so [vf_ Ja] [vf_ Jq] (v1 FO),CX [tD]⟩
def Zs1:Gd:=GF Z3r func162
def Z0a:Fn:=⟨f161,WG,so [vf_ Ja] [vf_ Ja] (v1 MO),CX [Zs1]⟩
def Z0b:Gd:=GF Z0a func161
def Ng:Fn:=⟨f111,λ |5=>cn_ [0,3,4,14]|6|13|100005=>cn_ [0,3,4]|7=>cn_ [0,3,4,22]|8|12=>cn_ [2]|9=>cn_ [0,3,4,5]|10=>cn_ [0,3,4,5,32]|11=>cn_ [0,3,4,5,43]|_=>[],so [vf_ Je] [vf_ Jq] (v1 Cc),CX [tD,Td,Z0b]⟩
def Zpl(b:List Int)(a:Int)(c:List Bool):St:=⟨[(0,vV Je b),(3,vO 0),(4,vI a)],[(0,.arr Jq c)],1⟩
def Zvw{b j a}(e:j=K .ret ⟨[(2,vB false)],[],0⟩)(f:a= λg h d=>K (.exit 0) ((Zpl b g d).B 14 h))(n i c):yC N b j a n i c=LM Ng N 0 100005 n (Zpl b i c) K:=by subst e f;induction n generalizing i c;kernel_rfl;rw[yC];simp only[*];kernel_rfl
def Z1w(l1:List Int):DN Ng N (l1,())=Cc N l1:=by
 conv=>rhs;rw[Cc];simp(disch:=exact Ξ) only[Zvw (R:=Unit×Ks) N (CF Ng N [1,1,1,0,1,0])]
 kernel_rfl
def Zr9:Gd:=GF Ng func111 (λN d=>Z1w N d.1)
def NV:Fn:=⟨f163,λ |2=>cn_ [0,1,5,11]|3|100002=>cn_ [0,1,5]|4=>cn_ [0,1,5,6]|5=>cn_ [0,1,5,28]|6=>cn_ [4]|_=>[],so [vf_ Je,vf_ Ja] [vf_ Ja] (v2 Ct),CX [Td]⟩
def Zrc(c:List Int)(a b:Int):St:=⟨[(0,vV Je c),(1,vI a),(5,vI b)],[],0⟩
def Zzf{c i j a}(d:j= λg=>K .ret ⟨[(4,vI g)],[],0⟩)(e:a= λf h=>K (.exit 0) ((Zrc c i f).B 11 h))(n b):yO N c i j a n b=LM NV N 0 100002 n (Zrc c i b) K:=by subst d e;induction n generalizing b;kernel_rfl;rw[yO];simp only[*];kernel_rfl
def Z4w(a:List Int)(bO:Int):DN NV N (a,bO,())=Ct N a bO:=by
 conv=>rhs;rw[Ct];simp(disch:=exact Ξ) only[Zzf (R:=Unit×Kk) N (CF NV N [1,0,1,0])]
 kernel_rfl
def Z4x:Gd:=GF NV func163 (λN d=>Z4w N d.1 d.2.1)
def Z1x:Fn:=⟨f112,WG,so [vf_ Je,vf_ Ja] [vf_ Ja,vf_ Jq] (v2 NL),CX [Zr9,Zs1,Z4x,Td]⟩
def Z1y:Gd:=GF Z1x func112
def NW:Fn:=⟨f62,λ |5=>cn_ [0,3,4,13]|6|10|100005=>cn_ [0,3,4]|7=>cn_ [0,3,4,5,6]|8=>cn_ [0,3,4,5,22]|9=>cn_ [0,3,4,5]|_=>[],so [vf_ Je] [vf_ Jx] (v1 FU),CX [Zr9,Z1y]⟩
def Zrd(b:List Int)(a:Int)(c:List Int):St:=⟨[(0,vV Je b),(3,vO 0),(4,vI a)],[(0,.arr Ja c)],1⟩
def Zzg{b a}(d:a= λe g f=>K (.exit 0) ((Zrd b e f).B 13 g))(n h c):B5 N b a n h c=LM NW N 0 100005 n (Zrd b h c) K:=by subst d;induction n generalizing h c;kernel_rfl;rw[B5];simp only[*];kernel_rfl
def Z4y(l1:List Int):DN NW N (l1,())=FU N l1:=by
 conv=>rhs;rw[FU];simp(disch:=exact Ξ) only[Zzg (R:=Unit×Ku) N (CF NW N [1,1,1,0,1,0])]
 kernel_rfl
def Z4z:Gd:=GF NW func62 (λN d=>Z4y N d.1)
def Zxn:Fn:=⟨f60,WG,so [vt_ Jj,vt_ Jj] [vf_ Jq] (v2 EZ),CX [Zs0]⟩
def Zxo:Gd:=GF Zxn func60
def Ms:Fn:=⟨f23,λ |8=>cn_ [3,5,6,7,8,38]|9|100008=>cn_ [3,5,6,7,8]|10=>cn_ [3,5,6,7,8,9]|11=>cn_ [3,5,6,7,8,67]|12=>cn_ [4]|_=>[],so [vt_ Jr,vt_ (TY_World)] [vf_ Jq] (v2 E0),CX [Tc,Ns,Z3n,Zs0,Zv2,Z3q,Z4z,Zxo]⟩
def Znk(e:Int)(d:Y_World)(f:List Int)(g:List Ke)(b:Int)(a c:List Int):St:=⟨[(3,vP 0 0),(5,vO 1),(6,vO 2),(7,vP 3 0),(8,vI e)],[(0,.box (split (TY_World) d)),(1,.arr Ja f),(2,.arr Js g),(3,.box [.own 4,.own 5,.val Ja b]),(4,.arr Ja a),(5,.arr Ja c)],6⟩
def Zsn{d f g b l c m a}(i:m=K .ret ⟨[(4,vB false)],[],0⟩)(j:a= λk h=>K (.exit 0) ((Znk k d f g b l c).B 38 h))(n e):vx N d f g b l c m a n e=LM Ms N 0 100008 n (Znk e d f g b l c) K:=by subst i j;induction n generalizing e;kernel_rfl;rw[vx];simp only[*];kernel_rfl
def Zxp(a:Kg×List Kq×List Kb)(w2:Y_World):DN Ms N (a,w2,())=E0 N a w2:=by
 conv=>rhs;rw[E0];simp(disch:=exact Ξ) only[Zsn (R:=Unit×Ks) N (CF Ms N [1,1,1,1,1,0,1,0])]
 kernel_rfl
def Zxq:Gd:=GF Ms func23 (λN d=>Zxp N d.1 d.2.1)
def E5:Fn:=⟨f24,λ |3=>cn_ [1,3,4,13]|4|100003=>cn_ [1,3,4]|5|7|100006=>cn_ [1,3,4,5]|6=>cn_ [1,3,4,5,18]|8=>cn_ [1,3,4,5,6]|9=>cn_ [1,3,4,5,6,7]|10=>cn_ [1,3,4,5,46]|11=>cn_ [2]|_=>[],so [vt_ (TY_World)] [vf_ Jq] (v1 Fi),CX [Ns]⟩
def Zoo(b c:Int)(a:Y_World)(d:List Int):St:=⟨[(1,vP 0 0),(3,vO 1),(4,vI b),(5,vI c)],[(0,.box (split (TY_World) a)),(1,.arr Ja d)],2⟩
def Zue{b i e j a}(g:j=K .ret ⟨[(2,vB false)],[],0⟩)(h:a= λc f=>K (.exit 2) ((Zoo b c i e).B 18 f))(n d):sP N b i e j a n d=LM E5 N 1 100006 n (Zoo b d i e) K:=by subst g h;induction n generalizing d;kernel_rfl;rw[sP];simp only[*];kernel_rfl
def Zop(c:Int)(a:Y_World)(b:List Int):St:=⟨[(1,vP 0 0),(3,vO 1),(4,vI c)],[(0,.box (split (TY_World) a)),(1,.arr Ja b)],2⟩
def Zuf{a b h i}(d:h=K .ret ⟨[(2,vB false)],[],0⟩)(e:i= λf c=>K (.exit 0) ((Zop f a b).B 13 c))(n g):A3 N a b h i n g=LM E5 N 0 100003 n (Zop g a b) K:=by subst d e;induction n generalizing g with|zero=>kernel_rfl|succ n ih=>rw[A3];simp(disch:=exact Ξ) only[ih,Zue N (CL E5 N 0 100003 [1,0,0,1,0] n K)];kernel_rfl
def Z0c(w1:Y_World):DN E5 N (w1,())=Fi N w1:=by
 conv=>rhs;rw[Fi];simp(disch:=exact Ξ) only[Zuf (R:=Unit×Ks) N (CF E5 N [1,1,0,1,0])]
 kernel_rfl
def Z0d:Gd:=GF E5 func24 (λN d=>Z0c N d.1)
def Z40:Fn:=⟨f8,WG,so [vt_ Jr,vt_ (TY_World)] [vf_ Jq] (v2 N6),CX [Z3d,Zxq,Z0d]⟩
def Z41:Gd:=GF Z40 func8
def Z1z:Fn:=⟨f64,WG,so [vt_ (TY_Root)] [vf_ Jq] (v1 IE),cg⟩
def Zsb:Gd:=GN Z1z func64
def Z10:Fn:=⟨f114,WG,so [vt_ (TY_Root)] [vf_ Ja] (v1 IF),CX [Zsb]⟩
def Z11:Gd:=GF Z10 func114
def Z12:Fn:=⟨f67,WG,so [vt_ (TY_Root),vt_ (TY_Root)] [vf_ Ja] (v2 NM),CX [Z11]⟩
def Z13:Gd:=GF Z12 func67
def Z14:Fn:=⟨f66,WG,so [vf_ Ja,vf_ Ja,.box (TY_World)] [vf_ Ja] (v3 NN),CX [Z13]⟩
def Z15:Gd:=GF Z14 func66
def Zt:Fn:=⟨f164,λ |1=>cn_ [0,1,2,3,8,14]|2|100001=>cn_ [0,1,2,3,8]|3|5|6|100004=>cn_ [0,1,2,3,8,9]|4=>cn_ [0,1,2,3,8,9,34]|_=>[],so [.mut Ja,vf_ Ja,vf_ Ja,.clos 66 1,.box (TY_World)] [] (v4 Zx),CX [Z15]⟩
def Zcf(a c f e:Int)(b:List Int)(d:Y_World):St:=⟨[(0,vO 0),(1,vI a),(2,vI c),(3,.s (.one (.clos 66 [1]))),(8,vI f),(9,vI e)],[(0,.arr Ja b),(1,.box (split (TY_World) d))],2⟩
def Zhq{k c f l}(h:l= λg i a j=>K (.exit 2) ((Zcf k c f g a j).B 34 i))(n e b d):Zr N k c f l n e b d=LM Zt N 1 100004 n (Zcf k c f e b d) K:=by subst h;induction n generalizing e b d;kernel_rfl;rw[Zr];simp only[*];kernel_rfl
def Zcg(a b d:Int)(e:List Int)(c:Y_World):St:=⟨[(0,vO 0),(1,vI a),(2,vI b),(3,.s (.one (.clos 66 [1]))),(8,vI d)],[(0,.arr Ja e),(1,.box (split (TY_World) c))],2⟩
def Zhr{k b a}(h:a= λf j g i=>K (.exit 0) ((Zcg k b f g i).B 14 j))(n d e c):Zk N k b a n d e c=LM Zt N 0 100001 n (Zcg k b d e c) K:=by subst h;induction n generalizing d e c with|zero=>kernel_rfl|succ n ih=>rw[Zk];simp(disch:=exact Ξ) only[ih,Zhq N (CL Zt N 0 100001 [1,0,0,1,0] n K)];kernel_rfl
def Zie(b:List Int)(c a:Int)(pr:Y_World):DN Zt N (b,c,a,pr,())=Zx N b c a pr:=by
 conv=>rhs;rw[Zx];simp(disch:=exact Ξ) only[Zhr (R:=(Ki×(Y_World×Unit))×Unit) N (CF Zt N [1,0])]
 kernel_rfl
def Zif:Gd:=GF Zt func164 (λN d=>Zie N d.1 d.2.1 d.2.2.1 d.2.2.2.1)
def Zp:Fn:=⟨f113,λ |2=>cn_ [0,1,2,6,7,8,13]|3|10=>cn_ [0,1,2,6,8]|4|5|8|11|12|100002|100009=>cn_ [0,1,2,6,7,8]|7=>cn_ [0,1,2,6,30]|9=>cn_ [0,1,2,6,7,8,35]|13=>cn_ [0,1,2,6,7,9]|14=>cn_ [0,1,2,6,7,9,54]|15|16|100007=>cn_ [0,1,2,6]|_=>[],so [.mut Ja,vf_ Ja,.clos 66 1,.box (TY_World)] [] (v3 H9),CX [Zif]⟩
def Zds(e a b:Int)(d:List Int)(c:Y_World):St:=⟨[(0,vO 0),(1,vI e),(2,.s (.one (.clos 66 [1]))),(6,vI 20),(7,vI a),(8,vI b)],[(0,.arr Ja d),(1,.box (split (TY_World) c))],2⟩
def Zjk{e k}(i:k= λg a h f l=>K (.exit 0) ((Zds e g a f l).B 13 h))(n j b d c):H7 N e k n j b d c=LM Zp N 0 100002 n (Zds e j b d c) K:=by subst i;induction n generalizing j b d c;kernel_rfl;rw[H7];simp only[*];kernel_rfl
def Zdt(c d:Int)(b:List Int)(a:Y_World):St:=⟨[(0,vO 0),(1,vI c),(2,.s (.one (.clos 66 [1]))),(6,vI d),(7,vI 0),(8,vI (fg .i64 (2:Int) d))],[(0,.arr Ja b),(1,.box (split (TY_World) a))],2⟩
def Zjl{b e:Int}{c:List Int}{a:Y_World}{f:Option R}(d:f=K (.exit 4) ((Zdt b e c a).P 35 (vB (decide ((fg .i64 (2:Int) e)<=b)))))(n:Nat):SL N b e c a f n=LM Zp N 2 100009 n (Zdt b e c a) K:=by
  subst d
  induction n with
  |zero=>kernel_rfl
  |succ _ _=>rw[SL];skip;kernel_rfl
def Zdu(d a:Int)(b:List Int)(c:Y_World):St:=⟨[(0,vO 0),(1,vI d),(2,.s (.one (.clos 66 [1]))),(6,vI a)],[(0,.arr Ja b),(1,.box (split (TY_World) c))],2⟩
def Zjm{e c d a}(f:a= λb g=>K (.exit 2) ((Zdu e b c d).B 30 g))(n h):H8 N e c d a n h=LM Zp N 1 100007 n (Zdu e h c d) K:=by subst f;induction n generalizing h with|zero=>kernel_rfl|succ n ih=>rw[H8];simp(disch:=exact Ξ) only[ih,Zjl N (CL Zp N 1 100007 [1,0,1,0,0] n K)];kernel_rfl
def Zkl(a:List Int)(b:Int)(pt:Y_World):DN Zp N (a,b,pt,())=H9 N a b pt:=by
 conv=>rhs;rw[H9];simp(disch:=exact Ξ) only[Zjk (R:=(Ki×(Y_World×Unit))×Unit) N (CF Zp N [1,1,0,0]),Zjm (R:=(Ki×(Y_World×Unit))×Unit) N (CF Zp N [1,1,1,1,0])]
 kernel_rfl
def Zkm:Gd:=GF Zp func113 (λN d=>Zkl N d.1 d.2.1 d.2.2.1)
def Zig:Fn:=⟨f65,WG,so [.mut Ja,.clos 66 1,.box (TY_World)] [] (v2 Ma),CX [Zkm]⟩
def Zih:Gd:=GF Zig func65
def NX:Fn:=⟨f27,λ |3=>cn_ [1,3,8,9,10,11]|4=>cn_ [1,3,4,5,8,9,10]|5=>cn_ [1,3,4,8,9,10,16]|6|7|100003=>cn_ [1,3,8,9,10]|_=>[],so [vt_ (TY_World)] [vf_ Je] (v1 Cu),CX [Zsb,Zih]⟩
def Zre(c:List Y_Root)(d:Int)(a:Y_World)(b:List Int):St:=⟨[(1,vP 0 0),(3,vO 1),(8,vV (.slice (TY_Root)) c),(9,vI (Wi a.2.2.2.2.2.1)),(10,vI d)],[(0,.box (split (TY_World) a)),(1,.arr Ja b)],2⟩
def Zzh{c i a}(g:a= λh f e=>K (.exit 0) ((Zre c h i e).B 11 f))(n d b):yQ N c i a n d b=LM NX N 0 100003 n (Zre c d i b) K:=by subst g;induction n generalizing d b;kernel_rfl;rw[yQ];simp only[*];kernel_rfl
def Z42(w1:Y_World):DN NX N (w1,())=Cu N w1:=by
 conv=>rhs;rw[Cu];simp(disch:=exact Ξ) only[Zzh (R:=Unit×Ku) N (CF NX N [1,1,0,1,0])]
 kernel_rfl
def Tm:Gd:=GF NX func27 (λN d=>Z42 N d.1)
def Zxr:Fn:=⟨f115,WG,so [vt_ Jj] [vt_ Jo] (v1 vC),CX [Z2]⟩
def Zqi:Gd:=GF Zxr func115
def Mc:Fn:=⟨f236,λ |2=>cn_ [0,1,7,8,9]|3=>cn_ [0,1,5,7,8]|4=>cn_ [0,1,5,7,8,16]|5=>cn_ [4]|6|100002=>cn_ [0,1,7,8]|_=>[],so [vf_ Je,vf_ Ja] [vf_ Ja] (v2 Me),cg⟩
def Zjn(a:List Int)(c b:Int):St:=⟨[(0,vV Je a),(1,vI c),(7,vI (Wi a)),(8,vI b)],[],0⟩
def Zos{i c j a}(d:j= λf=>K .ret ⟨[(4,vI f)],[],0⟩)(e:a= λg h=>K (.exit 0) ((Zjn i c g).B 9 h))(n b):Mb N i c j a n b=LM Mc N 0 100002 n (Zjn i c b) K:=by subst d e;induction n generalizing b;kernel_rfl;rw[Mb];simp only[*];kernel_rfl
def Zrf(a:List Int)(v2:Int):DN Mc N (a,v2,())=Me N a v2:=by
 conv=>rhs;rw[Me];simp(disch:=exact Ξ) only[Zos (R:=Unit×Kk) N (CF Mc N [1,0,1,0])]
 kernel_rfl
def Zrg:Gd:=GN Mc func236 (λN d=>Zrf N d.1 d.2.1)
def Zpm:Fn:=⟨f209,WG,so [vf_ Je,vf_ Ja] [vf_ Jq] (v2 SM),CX [Zrg]⟩
def Zkg:Gd:=GF Zpm func209
def Nh:Fn:=⟨f166,λ |2=>cn_ [0,1,7,8,9,10]|3=>cn_ [0,1,5,6,7,8,9]|4=>cn_ [0,1,7,8,9,25]|5=>cn_ [4]|6|100002=>cn_ [0,1,7,8,9]|_=>[],so [vf_ Je,vf_ Ja] [vf_ Jq] (v2 Fx),CX [Z6,Zkg]⟩
def Zpn(a:List Int)(b c:Int):St:=⟨[(0,vV Je a),(1,vI b),(7,vV Je a),(8,vI (Wi a)),(9,vI c)],[],0⟩
def Zvx{h b i a}(f:i=K .ret ⟨[(4,vB false)],[],0⟩)(g:a= λe d=>K (.exit 0) ((Zpn h b e).B 10 d))(n c):Ml N h b i a n c=LM Nh N 0 100002 n (Zpn h b c) K:=by subst f g;induction n generalizing c;kernel_rfl;rw[Ml];simp only[*];kernel_rfl
def Z16(a:List Int)(bD:Int):DN Nh N (a,bD,())=Fx N a bD:=by
 conv=>rhs;rw[Fx];simp(disch:=exact Ξ) only[Zvx (R:=Unit×Ks) N (CF Nh N [1,0,1,0])]
 kernel_rfl
def Z17:Gd:=GF Nh func166 (λN d=>Z16 N d.1 d.2.1)
def My:Fn:=⟨f210,λ |3=>cn_ [0,5,9,10,11]|4=>cn_ [0,5,6,9,10]|5=>cn_ [0,5,6,9,10,16]|6|7|100003=>cn_ [0,5,9,10]|_=>[],so [vf_ Je,vf_ Ja] [vf_ Jx] (v2 B6),CX [Z2,Zkg]⟩
def Znv(a:List Int)(c d:Int)(b:List Int):St:=⟨[(0,vV Je a),(5,vO 0),(9,vI c),(10,vI d)],[(0,.arr Ja b)],1⟩
def Zte{i c a}(g:a= λh f e=>K (.exit 0) ((Znv i c h e).B 11 f))(n d b):Ia N i c a n d b=LM My N 0 100003 n (Znv i c d b) K:=by subst g;induction n generalizing d b;kernel_rfl;rw[Ia];simp only[*];kernel_rfl
def Zzi(a:List Int)(bD:Int):DN My N (a,bD,())=B6 N a bD:=by
 conv=>rhs;rw[B6];simp(disch:=exact Ξ) only[Zte (R:=Unit×Ku) N (CF My N [1,1,0,1,0])]
 kernel_rfl
def Zzj:Gd:=GF My func210 (λN d=>Zzi N d.1 d.2.1)
def Z43:Fn:=⟨f211,WG,so [vt_ Jm,.mut Ja,.box Jo] [] (v3 wd),cg⟩
def Z44:Gd:=GN Z43 func211
def Ni(N m:Nat):Sig:=Sig.of [vf_ Jc,vf_ Jab,vf_ Je,vf_ Je,vt_ Jj] [vt_ Jag] (λd=>rz N m d.1 d.2.1 d.2.2.1 d.2.2.2.1 d.2.2.2.2.1)
def Z3s(N:Nat):Sig:=Ni N N
def E9(m:Nat):Fn:=⟨f167,λ |3=>[.empt 25 Jag]|5=>cn_ [0,1,2,3,9,10,11,12,13,29]|6|9|14|17|23|31|100005=>cn_ [0,1,2,3,9,10,11,12,13]|7=>cn_ [0,1,2,3,9,10,11,12,13,14]|8=>cn_ [0,1,2,3,9,10,11,12,13,14,37]|10|11|12|13=>cn_ [0,1,2,3,9,10,11,12,13,14,37,41]|15=>cn_ [0,1,2,3,9,10,11,12,13,14,37,52]|16=>cn_ [0,1,2,3,9,10,11,12,13,14,59]|18=>cn_ [0,1,2,3,9,10,11,12,13,14,37,64]|19=>[.nest 73 Jag,.canon [0,1,2,3,9,10,11,12,13]]|20=>cn_ [0,1,2,3,9,10,11,12,13,14,37,75]|21=>[.opn 81,.canon [0,1,2,3,9,10,11,12,13,15]]|22=>cn_ [0,1,2,3,9,10,11,12,13,15]|24=>cn_ [0,1,2,3,9,10,11,12,13,14,37,96]|25=>cn_ [0,1,2,3,9,10,11,12,100]|26=>cn_ [10]|27=>[.opn 109,.canon [0,1,2,9,10,11,12,16]]|28=>cn_ [0,1,2,9,10,11,12,16]|29|30=>cn_ [0,1,2,3,9,10,11,12,16]|32=>cn_ [0,1,2,3,9,10,11,12,13,14,132]|33=>cn_ [0,1,2,3,9,10,11,12,13,17]|34|41|42|100035=>cn_ [0,1,2,3,9,10,11,12,13,17,139,140,141]|35=>cn_ [0,1,2,3,9,10,11,12,13,17,139,140,141,142]|36=>cn_ [0,1,2,3,9,10,11,12,13,17,19,139,140,141]|37|38|39=>cn_ [0,1,2,3,9,10,11,12,13,17,19,20,139,140,141]|40=>cn_ [0,1,2,3,9,10,11,12,13,17,19,20,139,140,141,165]|_=>[],λN=>Ni N (m+1),λN=>(167,Ni N m)::CX [Z2,Zqi,Tq,Tl,Zzj,Z44] N⟩
def Zqj(c:List Ka)(k:List Kaf)(b:List Int)(a g h:Int)(d:List Int)(n:List Int×List Int×Int)(e j i:Int)(p:List Ke)(l m f o:List Int):St:=⟨[(0,vV Jc c),(1,vV Jab k),(2,vV Je b),(3,vO 0),(9,vP 1 0),(10,vP 2 0),(11,vP 3 0),(12,vO 4),(13,vI a),(17,vO 5),(139,vO 6),(140,vI g),(141,vI h)],[(0,.arr Ja d),(1,.box [.val Je n.1,.val Je n.2.1,.val Ja n.2.2]),(2,.box [.val Ja e,.nils,.nils,.nils,.val Ja j]),(3,.box [.own 7,.own 8,.val Ja i]),(4,.arr Jag p),(5,.arr Ja l),(6,.arr Ja m),(7,.arr Ja f),(8,.arr Ja o)],9⟩
def Zxs(N m:Nat){R:Type}(K:Ex->St->Option R){c r b a g v e j i x t u w s}(o:s= λq k p l=>K (.exit 3) ((Zqj c r b a g q p v e j i x t u l w).B 142 k))(n h d f):p9 N (rz N m) c r b a g v e j i x t u w s n h d f=LM (E9 m) N 1 100035 n (Zqj c r b a g h d v e j i x t u f w) K:=by subst o;induction n generalizing h d f;kernel_rfl;rw[p9];simp only[*];kernel_rfl
def Zqk(d:List Ka)(e:List Kaf)(b:List Int)(h:Int)(c:List Int)(a:List Int×List Int×Int)(j:Int)(i:List Ke)(f g:List Int):St:=⟨[(0,vV Jc d),(1,vV Jab e),(2,vV Je b),(3,vO 0),(9,vP 1 0),(10,vP 2 0),(11,vP 3 0),(12,vO 4),(13,vI h)],[(0,.arr Ja c),(1,.box [.val Je a.1,.val Je a.2.1,.val Ja a.2.2]),(2,.box [.val Ja (0:Int),.nils,.nils,.nils,.val Ja (0:Int)]),(3,.box [.own 5,.own 6,.val Ja j]),(4,.arr Jag i),(5,.arr Ja f),(6,.arr Ja g)],7⟩
def Zvy(f:List Ka)(g:List Kaf)(e:List Int)(a:List Int×List Int×Int)(h:Int)(b c d:List Int):St:=⟨[(10,vP 0 0)],[(0,.box [.val Ja (2:Int),.own 1,.own 2,.own 3,.val Ja h]),(1,.arr Ja b),(2,.arr Ja c),(3,.arr Ja d)],4⟩
def Zxt(N m:Nat){R:Type}(K:Ex->St->Option R){b c x a y z}(i:y= λl o p q=>K .ret (Zvy b c x a l o p q))(j:z= λr k s t u v w=>K (.exit 0) ((Zqk b c x r s a t u v w).B 29 k))(n h e A d f g):nv N (rz N m) b c x a y z n h e A d f g=LM (E9 m) N 0 100005 n (Zqk b c x h e a A d f g) K:=by subst i j;induction n generalizing h e A d f g with|zero=>kernel_rfl|succ n ih=>rw[nv];simp only[Wm];simp(disch:=exact Ξ) only[ih,Zxs N m (CL (E9 m) N 0 100005 [1,0,0,1,1,0,1,1,1,1,1,1,1,1,1,1,1,0,1,1,0] n K)];kernel_rfl
def Z3t(N m:Nat)(a:List Ka)(c:List Kaf)(b lE:List Int)(eS:List Int×List Int×Int):DN (E9 m) N (a,c,b,lE,eS,())=rz N (m+1) a c b lE eS:=by
 conv=>rhs;rw[rz];simp(disch:=exact Ξ) only[Zxt (R:=Unit×(Ke×Unit)) N m (CF (E9 m) N [1,1,1,1,0,1,0])]
 kernel_rfl
def Zsc(N:Nat):∀m,GW 167 (Ni N m)
  |0=>⟨CQ Tryz.func167 (show sj Tryz.f167=true by kernel_rfl),λd o h=>nomatch (show none=some o from h)⟩
  |m+1=>GR (E9 m) N Tryz.func167 (GC (Zsc N m) (CO N _)) (λd=>Z3t N m d.1 d.2.1 d.2.2.1 d.2.2.2.1 d.2.2.2.2.1)
def Z3u:Gd:=⟨167,Z3s,λN=>Zsc N N⟩
def Z3v:Fn:=⟨f116,WG,so [vt_ Jk,vf_ Je,vt_ Jj] [vt_ Jag] (v3 N1),CX [Zsu,Z17,Tb,Z3u]⟩
def Z3w:Gd:=GF Z3v func116
def Mz:Fn:=⟨f68,λ |6=>cn_ [1,5,7,8,26,27,28,29]|7=>cn_ [1,5,7,8,9,10,26,27,28]|8|11=>cn_ [1,5,7,8,11,26,27,28]|9=>[.freezeC 11 1,.freezeC 11 2,.freezeC 11 3,.canon [1,5,7,8,11,26,27,28,43]]|10=>cn_ [6,7]|12|13|100006=>cn_ [1,5,7,8,26,27,28]|_=>[],so [vf_ Jz,vf_ (.slice Je),vt_ Jj] [vf_ (.own Js),vt_ Jo] (v3 EU),CX [Tb,Zqi,Z3w]⟩
def Znw(f:List Ki)(a:List Kq)(g d:Int)(e:List Ke)(b c:List Int):St:=⟨[(1,vV (.slice Je) f),(5,vP 0 0),(7,vP 1 0),(8,vO 2),(26,vV Jz a),(27,vI (Wi a)),(28,vI g)],[(0,.box [.own 3,.own 4,.val Ja d]),(1,.box [.nils,.nils,.val Ja (0:Int)]),(2,.arr Js e),(3,.arr Ja b),(4,.arr Ja c)],5⟩
def Zso(a:List Ki)(b:List Kq):St:=⟨[(6,.s (.one (.nils))),(7,vP 0 0)],[(0,.box [.nils,.nils,.val Ja (0:Int)])],1⟩
def Ztf{q b r a}(k:r=K .ret (Zso q b))(l:a= λh p o j i m=>K (.exit 0) ((Znw q b h o j i m).B 29 p))(n g e f c d):A0 N q b r a n g e f c d=LM Mz N 0 100006 n (Znw q b g e f c d) K:=by subst k l;induction n generalizing g e f c d;kernel_rfl;rw[A0];simp only[*];kernel_rfl
def Zzk(b:List Kq)(a:List Ki)(s3:List Int×List Int×Int):DN Mz N (b,a,s3,())=EU N b a s3:=by
 conv=>rhs;rw[EU];simp(disch:=exact Ξ) only[Ztf (R:=Unit×Kal) N (CF Mz N [1,1,1,1,0,1,0])]
 kernel_rfl
def Zzl:Gd:=GF Mz func68 (λN d=>Zzk N d.1 d.2.1 d.2.2.1)
def NF:Fn:=⟨f28,λ |5=>cn_ [2,3,5,6,7,26,27,28,29]|6|7=>cn_ [2,3,5,6,7,9,26,27,28]|8|9|100005=>cn_ [2,3,5,6,7,26,27,28]|_=>[],so [vt_ Jr,vt_ (TY_World)] [vf_ (.own Js),vt_ Jo] (v2 FD),CX [MJ,Tm,Zzl]⟩
def Zql(e:List Int)(f g:Int)(a:Kg×List Kq×List Kb)(d:Y_World)(b:List Kq)(c:List Ki):St:=⟨[(2,vP 0 0),(3,vP 1 0),(5,vP 2 0),(6,vO 3),(7,vO 4),(26,vV Je e),(27,vI f),(28,vI g)],[(0,.box [.val Je a.1.1,.val Je a.1.2.1,.val Ja a.1.2.2,.val Jz a.2.1,.val Jf a.2.2]),(1,.box (split (TY_World) d)),(2,.box [.nils,.nils,.val Ja (0:Int)]),(3,.arr Jk b),(4,.arr Je c)],5⟩
def Zxu{e f c d a}(l:a= λi k h j=>K (.exit 0) ((Zql e f i c d h j).B 29 k))(n g m b):E1 N e f c d a n g m b=LM NF N 0 100005 n (Zql e f g c d m b) K:=by subst l;induction n generalizing g m b;kernel_rfl;rw[E1];simp only[*];kernel_rfl
def Z3x(a:Kg×List Kq×List Kb)(w2:Y_World):DN NF N (a,w2,())=FD N a w2:=by
 conv=>rhs;rw[FD];simp(disch:=exact Ξ) only[Zxu (R:=Unit×Kal) N (CF NF N [1,1,1,0,1,0])]
 kernel_rfl
def Z3y:Gd:=GF NF func28 (λN d=>Z3x N d.1 d.2.1)
def Md:Fn:=⟨f29,λ |4=>cn_ [0,1,12,13,14]|5=>cn_ [0,1,5,12,13]|6=>cn_ [0,1,12,13,24]|7=>cn_ [4]|8|100004=>cn_ [0,1,12,13]|_=>[],so [vf_ Je,vf_ Je] [vf_ Jq] (v2 yn),cg⟩
def Zjo(a b:List Int)(c:Int):St:=⟨[(0,vV Je a),(1,vV Je b),(12,vI (Wi a)),(13,vI c)],[],0⟩
def Zot{h b i a}(d:i=K .ret ⟨[(4,vB false)],[],0⟩)(e:a= λf g=>K (.exit 0) ((Zjo h b f).B 14 g))(n c):EH N h b i a n c=LM Md N 0 100004 n (Zjo h b c) K:=by subst d e;induction n generalizing c;kernel_rfl;rw[EH];simp only[*];kernel_rfl
def Zrh(a s2:List Int):DN Md N (a,s2,())=yn N a s2:=by
 conv=>rhs;rw[yn];simp(disch:=exact Ξ) only[Zot (R:=Unit×Ks) N (CF Md N [1,1,0,1,0])]
 kernel_rfl
def Zk9:Gd:=GN Md func29 (λN d=>Zrh N d.1 d.2.1)
def NG:Fn:=⟨f31,λ |5=>cn_ [3,11,12,13,14]|6=>cn_ [3,5,11,12,13]|7|8|100005=>cn_ [3,11,12,13]|_=>[],so [vt_ Jaa] [vf_ Jx] (v1 FC),CX [Cl]⟩
def Zqm(b:List Kb)(c d:Int)(a:List Int):St:=⟨[(3,vO 0),(11,vV Jf b),(12,vI c),(13,vI d)],[(0,.arr Ja a)],1⟩
def Zxv{b c a}(e:a= λg h f=>K (.exit 0) ((Zqm b c g f).B 14 h))(n d i):BX N b c a n d i=LM NG N 0 100005 n (Zqm b c d i) K:=by subst e;induction n generalizing d i;kernel_rfl;rw[BX];simp only[*];kernel_rfl
def Z3z(m1:Int×List Kb):DN NG N (m1,())=FC N m1:=by
 conv=>rhs;rw[FC];simp(disch:=exact Ξ) only[Zxv (R:=Unit×Ku) N (CF NG N [1,1,1,0,1,0])]
 kernel_rfl
def Z30:Gd:=GF NG func31 (λN d=>Z3z N d.1)
def NY:Fn:=⟨f32,λ |5=>cn_ [0,3,12,13]|6=>cn_ [0,3,4,12]|7=>cn_ [0,3,4,5,12]|8=>cn_ [0,3,5,6,7,12]|9=>cn_ [0,3,5,6,12,21]|10=>cn_ [0,3,5,12]|11|12|100005=>cn_ [0,3,12]|_=>[],so [vf_ Je] [vf_ Jx] (v1 FW),CX [Iz,M2]⟩
def Zri(a:List Int)(c:Int)(b:List Int):St:=⟨[(0,vV Je a),(3,vO 0),(12,vI c)],[(0,.arr Ja b)],1⟩
def Zzm{h a}(d:a= λf g e=>K (.exit 0) ((Zri h f e).B 13 g))(n c b):yP N h a n c b=LM NY N 0 100005 n (Zri h c b) K:=by subst d;induction n generalizing c b;kernel_rfl;rw[yP];simp only[*];kernel_rfl
def Z45(l1:List Int):DN NY N (l1,())=FW N l1:=by
 conv=>rhs;rw[FW];simp(disch:=exact Ξ) only[Zzm (R:=Unit×Ku) N (CF NY N [1,1,1,0,1,0])]
 kernel_rfl
def Z46:Gd:=GF NY func32 (λN d=>Z45 N d.1)
def Zxw:Fn:=⟨f30,WG,so [vt_ Jj,vt_ Jj] [vf_ Jq] (v2 MG),CX [Zk9]⟩
def Zxx:Gd:=GF Zxw func30
def Mt:Fn:=⟨f11,λ |8=>cn_ [3,6,7,35,36,37,38]|9=>cn_ [3,6,7,8,9,35,36,37]|10=>cn_ [3,6,7,35,36,37,68]|11=>cn_ [4]|12|100008=>cn_ [3,6,7,35,36,37]|_=>[],so [vt_ Jr,vt_ (TY_World)] [vf_ Jq] (v2 E2),CX [MJ,Tm,Z3y,Zk9,Zv1,Z30,Z46,Zxx]⟩
def Znl(f:List Int)(g h:Int)(c:Y_World)(d:List Ke)(e:Int)(b a:List Int):St:=⟨[(3,vP 0 0),(6,vO 1),(7,vP 2 0),(35,vV Je f),(36,vI g),(37,vI h)],[(0,.box (split (TY_World) c)),(1,.arr Js d),(2,.box [.own 3,.own 4,.val Ja e]),(3,.arr Ja b),(4,.arr Ja a)],5⟩
def Zsp{f g c d e b m o a}(j:o=K .ret ⟨[(4,vB false)],[],0⟩)(k:a= λi l=>K (.exit 0) ((Znl f g i c d e b m).B 38 l))(n h):EI N f g c d e b m o a n h=LM Mt N 0 100008 n (Znl f g h c d e b m) K:=by subst j k;induction n generalizing h;kernel_rfl;rw[EI];simp only[*];kernel_rfl
def Zxy(a:Kg×List Kq×List Kb)(w2:Y_World):DN Mt N (a,w2,())=E2 N a w2:=by
 conv=>rhs;rw[E2];simp(disch:=exact Ξ) only[Zsp (R:=Unit×Ks) N (CF Mt N [1,1,1,1,1,0,1,0])]
 kernel_rfl
def Zxz:Gd:=GF Mt func11 (λN d=>Zxy N d.1 d.2.1)
def E6:Fn:=⟨f12,λ |3=>cn_ [1,3,11,12,13,14]|4=>cn_ [1,3,4,5,11,12,13]|5=>cn_ [1,3,4,6,11,12,13]|6|11|100007=>cn_ [1,3,6,11,12,13,25,26,27]|7=>cn_ [1,3,6,11,12,13,25,26,27,28]|8=>cn_ [1,3,6,8,11,12,13,25,26,27]|9=>cn_ [1,3,6,11,12,13,25,26,27,44]|10=>cn_ [2]|12|100003=>cn_ [1,3,11,12,13]|_=>[],so [vt_ (TY_World)] [vf_ Jq] (v1 Fj),CX [Tm]⟩
def Zoq(b d:List Int)(e a f:Int)(c:Y_World):St:=⟨[(1,vP 0 0),(3,vV Je b),(6,vP 1 0),(11,vV Je d),(12,vI e),(13,vI a),(25,vV Je (List.take (Xb a) b)),(26,vI (Wi (List.take (Xb a) b))),(27,vI f)],[(0,.box (split (TY_World) c)),(1,.box (split (TY_Root) (Xc c.2.2.2.2.2.1 (Xb (Xc d (Xb a) (0:Int))) d_Root)))],2⟩
def Zuh{d f b k c l a}(h:l=K .ret ⟨[(2,vB false)],[],0⟩)(i:a= λg j=>K (.exit 2) ((Zoq d f b k g c).B 28 j))(n e):AP N d f b k c l a n e=LM E6 N 1 100007 n (Zoq d f b k e c) K:=by subst h i;induction n generalizing e;kernel_rfl;rw[AP];simp only[*];kernel_rfl
def Zor(a:List Int)(c d:Int)(b:Y_World):St:=⟨[(1,vP 0 0),(3,vV Je a),(11,vV Je a),(12,vI c),(13,vI d)],[(0,.box (split (TY_World) b))],1⟩
def Zui{b c i j a}(f:j=K .ret ⟨[(2,vB false)],[],0⟩)(g:a= λe h=>K (.exit 0) ((Zor b c e i).B 14 h))(n d):AS N b c i j a n d=LM E6 N 0 100003 n (Zor b c d i) K:=by subst f g;induction n generalizing d with|zero=>kernel_rfl|succ n ih=>rw[AS];simp(disch:=exact Ξ) only[ih,Zuh N (CL E6 N 0 100003 [1,1,0,0,1,1,1,0] n K)];kernel_rfl
def Z0e(w1:Y_World):DN E6 N (w1,())=Fj N w1:=by
 conv=>rhs;rw[Fj];simp(disch:=exact Ξ) only[Zui (R:=Unit×Ks) N (CF E6 N [1,1,0,1,0])]
 kernel_rfl
def Z0f:Gd:=GF E6 func12 (λN d=>Z0e N d.1)
def Z47:Fn:=⟨f3,WG,so [vf_ Jw] [vf_ Jq] (v1 Zmq),CX [Z5q,Zyc,Zz4,Tc,Z41,Zv2,Ns,Zxz,Z0f]⟩
set_option maxRecDepth 100000 in def Z48:Gd:=GF Z47 func3
end
end Go.Sx
