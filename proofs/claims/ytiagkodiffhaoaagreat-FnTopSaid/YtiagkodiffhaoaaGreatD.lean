/- Each Go function does what its Lean function says. -/
import Derived.Test.YtiagkodiffhaoaaGreatT2
import Derived.Test.YtiagkodiffhaoaaGreatProg
import Derived.Test.YtiagkodiffhaoaaGreatLay
open Bool renaming and_eq_true->Xl
open List renaming cons_append->hZ,nil_append->p4
namespace Go.Sx
set_option linter.defProp false
noncomputable section
open Go.Proofs
open Tryz
abbrev Ja:Ty:=.int .i64
abbrev Jb:Ty:=.prod (.own Ja) (.prod (.own (.prod Ja Ja)) (.prod (.own (.prod Ja (.prod Ja Ja))) (.prod (.own Ja) (.prod (.own (.prod Ja Ja)) (.own (.prod Ja (.prod Ja (.prod Ja (.prod Ja (.prod Ja (.prod Ja (.prod (.own Ja) (.prod (.own (.prod Ja (.prod Ja Ja))) (.prod (.own (.prod Ja Ja)) (.prod (.own (.prod Ja (.prod Ja (.own Ja)))) (.prod (.bool) (.prod Ja (.prod Ja (.prod Ja Ja)))))))))))))))))))
abbrev Jc:Ty:=.slice (.prod Ja (.prod Ja (.prod Ja Ja)))
abbrev Jd:Ty:=.prod Ja (.prod Ja (.prod Ja (.prod Ja (.prod Ja (.prod (.own (.prod Ja Ja)) (.own Ja))))))
abbrev Je:Ty:=.slice Ja
abbrev Jf:Ty:=.slice (.prod Ja (.prod Ja Ja))
abbrev Jg:Ty:=.prod Ja (.prod Ja (.prod Ja (.prod Ja (.prod Ja (.prod Ja (.prod (.bool) (.prod (.own Ja) (.prod (.own (.prod Ja Ja)) (.prod (.own (.prod Ja Ja)) (.prod (.own (.prod Ja (.prod Ja (.prod Ja (.prod Ja Je))))) (.prod (.own (.prod Ja (.prod Ja Ja))) (.prod (.own Ja) (.prod (.bool) (.prod (.prod Ja (.prod Ja (.prod Ja Ja))) (.prod Jd (.prod Ja (.prod Ja (.prod Ja (.prod (.bool) Jb)))))))))))))))))))
abbrev Jh:Ty:=.prod Ja (.prod Ja (.prod Ja (.prod Ja (.prod Ja (.prod Ja (.prod (.own Ja) (.prod (.own (.prod Ja (.prod Ja Ja))) (.prod (.own (.prod Ja Ja)) (.prod (.own (.prod Ja (.prod Ja (.own Ja)))) (.prod (.bool) (.prod Ja (.prod Ja (.prod Ja Ja)))))))))))))
abbrev Ji:Ty:=.prod Ja (.prod Ja (.slice (.prod Ja Ja)))
abbrev Jj:Ty:=.prod Je (.prod Je Ja)
abbrev Jk:Ty:=.prod Jc (.slice Jc)
abbrev Jl:Ty:=.prod Ja (.prod Ja (.prod (.prod Ja (.own (.prod Ja (.prod Ja Ja)))) (.prod (.prod (.own Ja) Ja) (.prod (.own (.prod Ja (.prod Ja Ja))) (.prod (.own (.prod Ja (.prod Ja (.prod Ja (.prod Ja (.prod Ja Jg)))))) (.own Ji))))))
abbrev Jm:Ty:=.prod Ja (.prod Ja (.prod Ja Ja))
abbrev Jn:Ty:=.prod (.slice (.int .u8)) (.prod Ja Ja)
abbrev Jo:Ty:=.prod (.own Ja) (.prod (.own Ja) Ja)
abbrev Jp:Ty:=.prod Ja (.prod Ja (.prod Ja (.prod Ja (.prod (.slice (.prod Ja Ja)) Je))))
abbrev Jq:Ty:=.bool
abbrev Jr:Ty:=.prod Jj (.prod (.slice Jk) Jf)
abbrev Js:Ty:=.prod Ja (.prod Je Jj)
abbrev Jt:Ty:=.prod Ja (.prod Ja Ja)
abbrev Ju:Ty:=.prod Ja (.prod Ja (.prod Ja (.prod Ja (.prod Ja Jg))))
abbrev Jv:Ty:=.slice (.prod Ja Ja)
abbrev Jw:Ty:=.slice (.int .u8)
abbrev Jx:Ty:=.own Ja
abbrev Jy:Ty:=.prod Ja (.prod Ja (.prod Ja (.prod Jq Jb)))
abbrev Jz:Ty:=.slice Jk
abbrev Jaa:Ty:=.prod Ja Jf
abbrev Jab:Ty:=.slice Jc
abbrev Jac:Ty:=.prod Ja (.prod Ja (.prod Ja Je))
abbrev Jad:Ty:=.slice Ji
abbrev Jae:Ty:=.prod Ja Jp
abbrev Jaf:Ty:=.prod Ja Ja
abbrev Jag:Ty:=.prod Ja (.prod Jx Jo)
abbrev Jah:Ty:=.prod Ja (.own Jt)
set_option linter.unusedVariables false
set_option linter.unusedSimpArgs false
def tab:Tab:=[(3,⟨.int .i64,false,.basic⟩),(4,⟨.bool,false,.basic⟩),(5,⟨.int .u8,false,.basic⟩),(22,⟨.slice (.int .u8),false,.slice 5⟩),(24,⟨.slice Ja,false,.slice 3⟩),(26,⟨.prod Je (.prod Je Ja),true,.struct [(0,24),(1,24),(2,3)]⟩),(27,⟨.slice Jk,false,.slice 56⟩),(28,⟨.slice Jt,false,.slice 59⟩),(30,⟨.prod Jj (.prod Jz Jf),true,.struct [(0,26),(3,27),(4,28)]⟩),(32,⟨.slice Jt,false,.slice 122⟩),(34,⟨.prod Ja Jf,true,.struct [(0,3),(1,32)]⟩),(36,⟨.prod Je Ja,true,.struct [(0,24),(1,3)]⟩),(37,⟨.slice Jt,false,.slice 194⟩),(38,⟨.slice (TY_Root),false,.slice 74⟩),(39,⟨.slice Ji,false,.slice 156⟩),(41,⟨TY_World,true,.struct [(0,3),(1,3),(2,34),(4,36),(6,37),(7,38),(8,39)]⟩),(53,⟨.slice Jm,false,.slice 152⟩),(54,⟨.slice Jc,false,.slice 102⟩),(56,⟨.prod Jc Jab,true,.struct [(0,53),(1,54)]⟩),(59,⟨.prod Ja Jaf,true,.struct [(0,3),(1,3),(2,3)]⟩),(62,⟨.slice Jaf,false,.slice 110⟩),(63,⟨.slice (.prod Ja Jac),false,.slice 138⟩),(64,⟨.slice Jt,false,.slice 184⟩),(66,⟨.prod Ja Jt,true,.struct [(0,3),(1,3),(2,3),(3,3)]⟩),(68,⟨.prod Ja Jp,true,.struct [(0,3),(1,3),(2,3),(3,3),(4,3),(5,62),(6,24)]⟩),(69,⟨.slice Jt,false,.slice 149⟩),(70,⟨.slice (TY_KidRun),false,.slice 146⟩),(72,⟨TY_Family,true,.struct [(0,3),(1,3),(2,3),(3,4),(4,24),(5,62),(6,69),(7,24),(8,62),(9,70)]⟩),(74,⟨TY_Root,true,.struct [(0,3),(1,3),(2,3),(3,3),(4,3),(5,3),(6,3),(7,3),(8,3),(9,3),(10,3),(11,4),(12,24),(13,62),(14,62),(15,63),(16,64),(17,24),(18,4),(19,66),(23,68),(30,72)]⟩),(77,⟨.slice Js,false,.slice 81⟩),(81,⟨.prod Ja (.prod Je Jj),true,.struct [(0,3),(1,24),(2,26)]⟩),(87,⟨.prod Jw Jaf,true,.struct [(0,22),(1,3),(2,3)]⟩),(102,⟨.slice Jm,true,.struct [(0,53)]⟩),(110,⟨.prod Ja Ja,true,.struct [(0,3),(1,3)]⟩),(116,⟨.slice Je,false,.slice 118⟩),(118,⟨.slice Ja,true,.struct [(0,24)]⟩),(122,⟨.prod Ja Jaf,true,.struct [(0,3),(1,3),(2,3)]⟩),(138,⟨.prod Ja Jac,true,.struct [(0,3),(1,3),(2,3),(3,3),(4,24)]⟩),(144,⟨.slice (.prod Ja (.prod Ja Je)),false,.slice 199⟩),(146,⟨TY_KidRun,true,.struct [(0,3),(1,3),(2,3),(3,3),(4,3),(5,3),(6,24),(7,69),(8,62),(9,144),(10,4),(11,66)]⟩),(149,⟨.prod Ja Jaf,true,.struct [(0,3),(1,3),(2,3)]⟩),(152,⟨.prod Ja Jt,true,.struct [(0,3),(1,3),(2,3),(3,3)]⟩),(156,⟨.prod Ja (.prod Ja Jv),true,.struct [(0,3),(1,3),(2,62)]⟩),(163,⟨.bool,true,.arr 8 4⟩),(184,⟨.prod Ja Jaf,true,.struct [(0,3),(1,3),(2,3)]⟩),(194,⟨.prod Ja Jaf,true,.struct [(0,3),(1,3),(2,3)]⟩),(199,⟨.prod Ja (.prod Ja Je),true,.struct [(0,3),(1,3),(2,24)]⟩),(204,⟨.slice Jq,false,.slice 4⟩),(242,⟨.slice Js,false,.slice 244⟩),(244,⟨.prod Ja (.prod Je Jj),true,.struct [(0,3),(1,24),(2,26)]⟩),(267,⟨.slice Js,false,.slice 269⟩),(269,⟨.prod Ja (.prod Je Jj),true,.struct [(0,3),(1,24),(2,26)]⟩)]
def mixedOk:Tryz.prog.follows .mixedOrders=true:=by kernel_rfl
def tabOk:bv Tryz.prog tab:=WCm (show Hz Tryz.prog tab tab=true by kernel_rfl)
theorem Ξ{p:Prop}(h:p:=by kernel_rfl):p:=h
def St.ins(k:Nat)(v:AVal):List (Nat×AVal)->List (Nat×AVal)
  | []=>[(k,v)]
  |x::l=>bif Nat.blt k x.1 then(k,v)::x::l else x::St.ins k v l
def St.P(s:St)(k:Nat)(v:AVal):St:=⟨St.ins k v s.env,s.objs,s.nx⟩
def St.B(s:St)(k:Nat)(b:Bool):St:=s.P k (vB b)
def LM(x:Fn)(N:Nat){R:Type}(i k n:Nat)(a:St)(K:Ex->St->Option R):Option R:=lpM tab (x.c N) x.a N x.F i k n a K
def CF(x:Fn)(N:Nat)(p:List Nat):Ex->St->Option (Qs (x.s N)):=cxF tab (x.c N) x.a N (x.s N) x.F p
def CL(x:Fn)(N:Nat){R:Type}(i k:Nat)(p:List Nat)(n:Nat)(K:Ex->St->Option R):Ex->St->Option R:=cxL tab (x.c N) x.a N x.F i k p n K
def DN(x:Fn)(N:Nat)(d:gR (x.s N).ps):Option (Qs (x.s N)):=den (R:=Qs (x.s N)) tab (x.c N) x.a N (x.s N) x.F d some
def GW(k:FuncId)(s:Sig):Prop:=G5 Tryz.prog k/\zl Tryz.prog k s
def GC{k:FuncId}{s:Sig}{a:Ctx}(h:GW k s)(b:ji Tryz.prog a):ji Tryz.prog ((k,s)::a):=WyE h.2 h.1 b
structure Gd where
  k:FuncId
  s:Nat->Sig
  h:∀N,GW k (s N)
def CX(l:List Gd)(N:Nat):Ctx:=l.map λg=>(g.k,g.s N)
def CO(N:Nat):∀(l:List Gd),ji Tryz.prog (CX l N)
  | []=>Wwb
  |g::l=>GC (g.h N) (CO N l)
def GR(x:Fn){k:FuncId}(N:Nat)(b:Tryz.prog.funcs[k]?=some x.F)(f:ji Tryz.prog (x.c N))(h:∀d,DN x N d=(x.s N).run d:=by intro d;kernel_rfl)(a:(sj x.F&&Ho x.F (x.s N).ps)=true:=by kernel_rfl):GW k (x.s N):=
  ⟨CQ b (Xl .. ▸a).1,(Wt5 mixedOk tabOk f b (Xl .. ▸a).2 (λd _ e=>⟨N,(h d).trans e⟩))⟩
def GF(x:Fn){k:FuncId}(e:Tryz.prog.funcs[k]?=some x.F)(h:∀N d,DN x N d=(x.s N).run d:=by intro N d;kernel_rfl)(b:∀N,ji Tryz.prog (x.c N):=by exactλN=>CO N _)(a:∀N,(sj x.F&&Ho x.F (x.s N).ps)=true:=by intro N;kernel_rfl):Gd:=
  ⟨k,x.s,λN=>GR x N e (b N) (h N) (a N)⟩
def GN(x:Fn){k:FuncId}(e:Tryz.prog.funcs[k]?=some x.F)(h:∀N d,DN x N d=(x.s N).run d:=by intro N d;kernel_rfl)(b:∀N,ji Tryz.prog (x.c N):=by exactλN=>Wwb)(a:∀N,(sj x.F&&Ho x.F (x.s N).ps)=true:=by intro N;kernel_rfl):Gd:=GF x e h b a
abbrev cn_(l:List Nat):List Ghost:=[.canon l]
abbrev vf_(t:Ty):PTy:=.v t false
abbrev vt_(t:Ty):PTy:=.v t true
variable(N:Nat){R:Type}(K:Ex->St->Option R)
abbrev so(p r:List PTy)(f:Nat->gR p->Option (hQ p×iO r))(N:Nat):Sig:=Sig.of p r (f N)
abbrev v1{Aa_ B_:Type}(f:Nat->Aa_->B_)(N:Nat)(d:Aa_×Unit):=f N d.1
abbrev v2{Aa_ Ab_ B_:Type}(f:Nat->Aa_->Ab_->B_)(N:Nat)(d:Aa_×Ab_×Unit):=f N d.1 d.2.1
abbrev v3{Aa_ Ab_ Ac_ B_:Type}(f:Nat->Aa_->Ab_->Ac_->B_)(N:Nat)(d:Aa_×Ab_×Ac_×Unit):=f N d.1 d.2.1 d.2.2.1
abbrev v4{Aa_ Ab_ Ac_ Ad_ B_:Type}(f:Nat->Aa_->Ab_->Ac_->Ad_->B_)(N:Nat)(d:Aa_×Ab_×Ac_×Ad_×Unit):=f N d.1 d.2.1 d.2.2.1 d.2.2.2.1
def Z5p:Fn:=⟨f4,WG,so [vf_ Jw] [vf_ Jq] (v1 Ts),cg⟩
def Z5q:Gd:=GN Z5p func4
def Nk:Fn:=⟨f13,λ |3=>cn_ [0,3,4,15]|4|5|100003=>cn_ [0,3,4]|_=>[],so [vf_ Jw] [.box Jn] (v1 FQ),cg⟩
def Zqt(a:List Int)(b c:Int):St:=⟨[(0,vV Jw a),(3,vI b),(4,vI c)],[],0⟩
def Zx0{h a}(d:a= λe f g=>K (.exit 0) ((Zqt h e f).B 15 g))(n b c):yx N h a n b c=LM Nk N 0 100003 n (Zqt h b c) K:=by subst d;induction n generalizing b c;kernel_rfl;rw[yx];simp only[*];kernel_rfl
def Z31(ad:List Int):DN Nk N (ad,())=FQ N ad:=by
 conv=>rhs;rw[FQ];simp(disch:=exact Ξ) only[Zx0 (R:=Unit×Kv) N (CF Nk N [1,1,0,1,0])]
 kernel_rfl
def Z32:Gd:=GN Nk func13 (λN d=>Z31 N d.1)
def Z18:Fn:=⟨f15,WG,so [vf_ Jw,vf_ Ja] [vf_ Ja] (v2 NZ),cg⟩
def Z19:Gd:=GN Z18 func15
def Z2a:Fn:=⟨f76,WG,so [.box Jn] [vf_ Ja] (v1 y8),cg⟩
def Z2b:Gd:=GN Z2a func76
def Z0g:Fn:=⟨f34,WG,so [.box Jn,vf_ Ja] [vf_ Ja] (v2 Zc),CX [Z2b]⟩
def lO:Gd:=GF Z0g func34
def Z2c:Fn:=⟨f74,WG,so [.box Jn,vf_ Ja] [vf_ Jq] (v2 Zz),CX [lO]⟩
def yV:Gd:=GF Z2c func74
def Zx1:Fn:=⟨f168,WG,so [.box Jn,vf_ Je] [vf_ Ja] (v2 td),CX [lO]⟩
def SW:Gd:=GF Zx1 func168
def Z2d:Fn:=⟨f123,WG,so [.box Jn] [vf_ Ja] (v1 FG),CX [yV,SW,lO]⟩
def Te:Gd:=GF Z2d func123
def Mp:Fn:=⟨f122,λ |3=>cn_ [0,3,4,7]|4|5|100003=>cn_ [0,3,4]|_=>[],so [.box Jn] [vf_ Jx] (v1 Ig),CX [Te]⟩
def Znf(c:Int)(a:List Int×Int×Int)(b:List Int):St:=⟨[(0,vP 0 0),(3,vO 1),(4,vI c)],[(0,.box [.val Jw a.1,.val Ja a.2.1,.val Ja a.2.2]),(1,.arr Ja b)],2⟩
def Zse{i}(d:i= λe g c f=>K (.exit 0) ((Znf e c f).B 7 g))(n h a b):Ib N i n h a b=LM Mp N 0 100003 n (Znf h a b) K:=by subst d;induction n generalizing h a b;kernel_rfl;rw[Ib];simp only[*];kernel_rfl
def Zv3(c1:List Int×Int×Int):DN Mp N (c1,())=Ig N c1:=by
 conv=>rhs;rw[Ig];simp(disch:=exact Ξ) only[Zse (R:=Kv×Ku) N (CF Mp N [1,1,0,1,0])]
 kernel_rfl
def Zv4:Gd:=GF Mp func122 (λN d=>Zv3 N d.1)
def MH:Fn:=⟨f72,λ |3=>cn_ [0,2,3,4,12]|4|8=>cn_ [0,2,3,4]|5|7=>cn_ [0,2,3,4,5]|6=>cn_ [0,2,3,4,5,16]|100003=>[.adoptC 3 1 Ja,.canon [0,2,3,4]]|_=>[],so [.box Jn] [vt_ Jo] (v1 Fg),CX [Zv4,Te,yV]⟩
def Zod(c:Int)(a:List Int×Int×Int)(b:Int)(d e:List Int):St:=⟨[(0,vP 0 0),(2,vP 1 0),(3,vP 2 0),(4,vI c)],[(0,.box [.val Jw a.1,.val Ja a.2.1,.val Ja a.2.2]),(1,.box [.nils,.nils,.val Ja (0:Int)]),(2,.box [.own 3,.own 4,.val Ja b]),(3,.arr Ja d),(4,.arr Ja e)],5⟩
def Zti{b d k}(h:k= λi g a f=>K (.exit 0) ((Zod i a b d f).B 12 g))(n c j e):EO N b d k n c j e=LM MH N 0 100003 n (Zod c j b d e) K:=by subst h;induction n generalizing c j e;kernel_rfl;rw[EO];simp only[*];kernel_rfl
def Zzn(c1:List Int×Int×Int):DN MH N (c1,())=Fg N c1:=by
 conv=>rhs;rw[Fg];simp(disch:=exact Ξ) only[Zti (R:=Kv×Kaa) N (CF MH N [1,1,0,1,0])]
 kernel_rfl
def Zro:Gd:=GF MH func72 (λN d=>Zzn N d.1)
def Zx2:Fn:=⟨f212,WG,so [.box Jn] [vf_ Ja] (v1 ny),CX [lO]⟩
def Zx3:Gd:=GF Zx2 func212
def Zv5:Fn:=⟨f213,WG,so [.box Jn] [vf_ Ja] (v1 MB),CX [yV,lO]⟩
def Zv6:Gd:=GF Zv5 func213
def Zx4:Fn:=⟨f214,WG,so [.box Jn] [vf_ Ja] (v1 In),CX [yV,lO,SW]⟩
def Zx5:Gd:=GF Zx4 func214
def Z0h:Fn:=⟨f169,WG,so [.box Jn,vf_ Ja] [vt_ Jm] (v2 nA),CX [Zx3,Te,Zv6,lO,Zx5]⟩
def Zrz:Gd:=GF Z0h func169
def MP(N m:Nat):Sig:=Sig.of [.box Jn,vf_ Ja,vf_ Ja,vf_ Jq] [vf_ (.own Jm)] (λd=>Cf N m d.1 d.2.1 d.2.2.1 d.2.2.2.1)
def Z33(N:Nat):Sig:=MP N N
def Nl(m:Nat):Fn:=⟨f124,λ |3=>cn_ [0,1,2,3,9,10,27]|4|6|8|10|12|16|18|19|25|27|29|100003=>cn_ [0,1,2,3,9,10]|5=>cn_ [0,1,2,3,9,10,11]|7=>cn_ [0,1,2,3,9,10,11,40]|9=>cn_ [0,1,2,3,9,10,11,48]|11=>cn_ [0,1,2,3,9,10,11,56]|13=>cn_ [0,1,2,3,9,10,11,67]|14|15=>cn_ [0,1,2,3,9,10,12]|17=>cn_ [0,1,2,3,9,10,100]|20=>cn_ [0,1,2,3,9,10,11,109]|21|24=>cn_ [0,1,2,3,9,10,13]|22|23=>cn_ [0,1,2,3,9,10,13,14]|26=>cn_ [0,1,2,3,9,10,134]|28=>cn_ [0,1,2,3,9,10,145]|_=>[],λN=>MP N (m+1),λN=>(124,MP N m)::CX [lO,Zrz,yV] N⟩
def Zqu(c d:Int)(e:Bool)(f:Int)(a:List Int×Int×Int)(b:List Ka):St:=⟨[(0,vP 0 0),(1,vI c),(2,vI d),(3,vB e),(9,vO 1),(10,vI f)],[(0,.box [.val Jw a.1,.val Ja a.2.1,.val Ja a.2.2]),(1,.arr Jm b)],2⟩
def Zx6(N m:Nat){R:Type}(K:Ex->St->Option R){c d e a}(k:a= λg h i j=>K (.exit 0) ((Zqu c d e g i j).B 27 h))(n f b l):Zw N (Cf N m) c d e a n f b l=LM (Nl m) N 0 100003 n (Zqu c d e f b l) K:=by subst k;induction n generalizing f b l;kernel_rfl;rw[Zw];simp only[*];kernel_rfl
def Z34(N m:Nat)(a:List Int×Int×Int)(b c:Int)(lU:Bool):DN (Nl m) N (a,b,c,lU,())=Cf N (m+1) a b c lU:=by
 conv=>rhs;rw[Cf];simp(disch:=exact Ξ) only[Zx6 (R:=Kv×(Kaf×Unit)) N m (CF (Nl m) N [1,1,0,1,0])]
 kernel_rfl
def Zsr(N:Nat):∀m,GW 124 (MP N m)
  |0=>⟨CQ Tryz.func124 (show sj Tryz.f124=true by kernel_rfl),λd o h=>nomatch (show none=some o from h)⟩
  |m+1=>GR (Nl m) N Tryz.func124 (GC (Zsr N m) (CO N _)) (λd=>Z34 N m d.1 d.2.1 d.2.2.1 d.2.2.2.1)
def Z35:Gd:=⟨124,Z33,λN=>Zsr N N⟩
def MQ:Fn:=⟨f73,λ |7=>cn_ [0,4,7,8,38]|8|9=>cn_ [0,4,7,8]|100007=>[.adoptC 7 1 Jc,.canon [0,4,7,8]]|_=>[],so [.box Jn,vf_ Jq] [.v (.prod (.own Jm) (.own Jc)) true] (v2 vZ),CX [lO,Z35]⟩
def Zpo(d:Int)(a:List Int×Int×Int)(c:List Ka)(b:List Kaf):St:=⟨[(0,vP 0 0),(4,vP 1 0),(7,vP 2 0),(8,vI d)],[(0,.box [.val Jw a.1,.val Ja a.2.1,.val Ja a.2.2]),(1,.box [.nils,.nils]),(2,.box [.own 3,.own 4]),(3,.arr Jm c),(4,.arr Jc b)],5⟩
def Zv7{b a}(i:a= λe g h f=>K (.exit 0) ((Zpo e h b f).B 38 g))(n d c j):EV N b a n d c j=LM MQ N 0 100007 n (Zpo d c b j) K:=by subst i;induction n generalizing d c j;kernel_rfl;rw[EV];simp only[*];kernel_rfl
def Z2e(a:List Int×Int×Int)(je:Bool):DN MQ N (a,je,())=vZ N a je:=by
 conv=>rhs;rw[vZ];simp(disch:=exact Ξ) only[Zv7 (R:=Kv×(Kq×Unit)) N (CF MQ N [1,1,1,1,1,0,1,0])]
 kernel_rfl
def Zss:Gd:=GF MQ func73 (λN d=>Z2e N d.1 d.2.1)
def MZ:Fn:=⟨f75,λ |4=>cn_ [0,1,2,7,8,9,14]|5|7|16|100004=>cn_ [0,1,2,7,8,9]|6=>cn_ [0,1,2,7,8,9,18]|8|10|11|13|15=>cn_ [0,1,2,7,8,9,10]|9=>cn_ [0,1,2,7,8,9,10,25]|12=>cn_ [0,1,2,7,8,9,10,31]|14=>cn_ [0,1,2,7,8,9,10,35]|_=>[],so [.box Jn,vf_ Ja,vf_ Ja] [vf_ (.own Jt)] (v3 Fq),CX [yV,lO]⟩
def Zoy(e a b c:Int)(f:List Int×Int×Int)(d:List Kb):St:=⟨[(0,vP 0 0),(1,vI e),(2,vI a),(7,vO 1),(8,vI b),(9,vI c)],[(0,.box [.val Jw f.1,.val Ja f.2.1,.val Ja f.2.2]),(1,.arr Jt d)],2⟩
def Zuk{e a m}(f:m= λj k i h g=>K (.exit 0) ((Zoy e a j k h g).B 14 i))(n b c l d):Z0 N e a m n b c l d=LM MZ N 0 100004 n (Zoy e a b c l d) K:=by subst f;induction n generalizing b c l d;kernel_rfl;rw[Z0];simp only[*];kernel_rfl
def Z0i(a:List Int×Int×Int)(b eJ:Int):DN MZ N (a,b,eJ,())=Fq N a b eJ:=by
 conv=>rhs;rw[Fq];simp(disch:=exact Ξ) only[Zuk (R:=Kv×Kak) N (CF MZ N [1,1,1,0,1,0])]
 kernel_rfl
def Z0j:Gd:=GF MZ func75 (λN d=>Z0i N d.1 d.2.1 d.2.2.1)
def Mu:Fn:=⟨f33,λ |4=>cn_ [0,1,2,6,7,8,9,18]|5|6=>cn_ [0,1,2,6,7,8,9]|100004=>[.adoptC 7 3 Jk,.canon [0,1,2,6,7,8,9]]|_=>[],so [.box Jn,vf_ Ja,vf_ Ja] [.v (.prod Jo (.prod (.own Jk) (.own Jt))) true] (v3 Io),CX [Zro,lO,Zss,yV,Z0j]⟩
def Znp(g f i h:Int)(a:List Int×Int×Int)(e:Int)(b c:List Int)(d:List Kq):St:=⟨[(0,vP 0 0),(1,vI g),(2,vI f),(6,vP 1 0),(7,vP 2 0),(8,vI i),(9,vI h)],[(0,.box [.val Jw a.1,.val Ja a.2.1,.val Ja a.2.2]),(1,.box [.nils,.nils,.val Ja (0:Int),.nils,.nils]),(2,.box [.own 3,.own 4,.val Ja e,.own 5,.nils]),(3,.arr Ja b),(4,.arr Ja c),(5,.arr Jk d)],6⟩
def Zs2{g f i e p b a}(m:a= λk j o l=>K (.exit 0) ((Znp g f i k o e p b l).B 18 j))(n h d c):AX N g f i e p b a n h d c=LM Mu N 0 100004 n (Znp g f i h d e p b c) K:=by subst m;induction n generalizing h d c;kernel_rfl;rw[AX];simp only[*];kernel_rfl
def Zx7(a:List Int×Int×Int)(b eJ:Int):DN Mu N (a,b,eJ,())=Io N a b eJ:=by
 conv=>rhs;rw[Io];simp(disch:=exact Ξ) only[Zs2 (R:=Kv×(Kah×Unit)) N (CF Mu N [1,1,1,0,1,0])]
 kernel_rfl
def Zx8:Gd:=GF Mu func33 (λN d=>Zx7 N d.1 d.2.1 d.2.2.1)
def Zul:Fn:=⟨f35,WG,so [.box Jn] [vt_ Jo] (v1 SU),CX [Zro,lO]⟩
def Zum:Gd:=GF Zul func35
def Z36:Fn:=⟨f125,WG,so [.box Jn] [vt_ Jm] (v1 N4),CX [lO,Zrz,SW]⟩
def Z37:Gd:=GF Z36 func125
def MR:Fn:=⟨f77,λ |12=>[.view 49,.view 45]|14=>cn_ [0,5,58]|15|100014=>cn_ [0,5]|_=>[],so [.box Jn,vf_ Jc] [vf_ (.own Jm)] (v2 Ci),CX [lO,Z37]⟩
def Zpp(a:List Int×Int×Int)(b:List Ka):St:=⟨[(0,vP 0 0),(5,vO 1)],[(0,.box [.val Jw a.1,.val Ja a.2.1,.val Ja a.2.2]),(1,.arr Jm b)],2⟩
def Zv8{a}(e:a= λf d c=>K (.exit 1) ((Zpp d c).B 58 f))(n g b):EW N a n g b=LM MR N 0 100014 n (Zpp g b) K:=by subst e;induction n generalizing g b;kernel_rfl;rw[EW];simp only[*];kernel_rfl
def Z2f(a:List Int×Int×Int)(af:List Ka):DN MR N (a,af,())=Ci N a af:=by
 conv=>rhs;rw[Ci];simp(disch:=exact Ξ) only[Zv8 (R:=Kv×(Kaf×Unit)) N (CF MR N [1,1,1,1,0,1,0,1,1,1,1,1,1,1,0,0])]
 kernel_rfl
def Z2g:Gd:=GF MR func77 (λN d=>Z2f N d.1 d.2.1)
def Zx9:Fn:=⟨f36,WG,so [.box Jn] [.v (.prod (.own Jm) (.own Jc)) true] (v1 SX),CX [yV,Zss,lO,Z2g]⟩
def Zya:Gd:=GF Zx9 func36
def Fk:Fn:=⟨f14,λ |8=>cn_ [0,4,5,28]|9|14|100008|100013=>cn_ [0,4,5]|13=>cn_ [0,4,5,55]|_=>[],so [.box Jn,vf_ Ja] [.v (.prod Jo (.prod (.own Jk) (.own Jt))) true] (v2 II),CX [Zx8,lO,Zum,Zya]⟩
def Zpq(a:List Int×Int×Int)(e:Int)(f c:List Int)(d:List Kq)(b:List Kb):St:=⟨[(0,vP 0 0),(4,vP 1 0),(5,vP 2 0)],[(0,.box [.val Jw a.1,.val Ja a.2.1,.val Ja a.2.2]),(1,.box [.nils,.nils,.val Ja (0:Int),.nils,.nils]),(2,.box [.own 3,.own 4,.val Ja e,.own 5,.own 6]),(3,.arr Ja f),(4,.arr Ja c),(5,.arr Jk d),(6,.arr Jt b)],7⟩
def Zv9{d e f b j a}(i:a= λh g=>K (.exit 1) ((Zpq d e f b g j).B 28 h))(n c):Ih N d e f b j a n c=LM Fk N 0 100008 n (Zpq d e f b c j) K:=by subst i;induction n generalizing c;kernel_rfl;rw[Ih];simp only[*];kernel_rfl
def Zpr(d:List Int×Int×Int)(b:Int)(e f:List Int)(a:List Kq)(c:List Kb):St:=⟨[(0,vP 0 0),(4,vP 1 0),(5,vP 2 0)],[(0,.box [.val Jw d.1,.val Ja d.2.1,.val Ja d.2.2]),(1,.box [.nils,.nils,.val Ja (0:Int),.nils,.nils]),(2,.box [.own 3,.own 4,.val Ja b,.own 5,.own 6]),(3,.arr Ja e),(4,.arr Ja f),(5,.arr Jk a),(6,.arr Jt c)],7⟩
def Zwa{h j k a i}(d:i= λf e g=>K (.exit 3) ((Zpr e h j k a g).B 55 f))(n c b):It N h j k a i n c b=LM Fk N 1 100013 n (Zpr c h j k a b) K:=by subst d;induction n generalizing c b;kernel_rfl;rw[It];simp only[*];kernel_rfl
def Z2h(a:List Int×Int×Int)(cW:Int):DN Fk N (a,cW,())=II N a cW:=by
 conv=>rhs;rw[II];simp(disch:=exact Ξ) only[Zv9 (R:=Kv×(Kah×Unit)) N (CF Fk N [1,1,0,1,0,1,1,1,1,1,0,0]),Zwa (R:=Kv×(Kah×Unit)) N (CF Fk N [1,1,0,1,0,1,1,1,1,1,1,1,1,1,0,0])]
 kernel_rfl
def Z2i:Gd:=GF Fk func14 (λN d=>Z2h N d.1 d.2.1)
def Zyb:Fn:=⟨f5,WG,so [vf_ Jw] [vt_ Jr] (v1 MY),CX [Z32,Z19,Z2i]⟩
def Zyc:Gd:=GF Zyb func5
def Z2j:Fn:=⟨f45,WG,so [vf_ Ja,vf_ Ja,vf_ Ja] [vf_ Jq] (v3 Zj),cg⟩
def Z6:Gd:=GN Z2j func45
def Z0k:Fn:=⟨f80,WG,so [vf_ Ja] [vf_ Jq] (v1 mJ),CX [Z6]⟩
def tg:Gd:=GF Z0k func80
def Mv:Fn:=⟨f78,λ |2=>cn_ [0,1,7,8,9,10]|3=>cn_ [0,1,6,7,8,9]|4=>cn_ [0,1,7,8,9,15]|5=>cn_ [4]|6|100002=>cn_ [0,1,7,8,9]|_=>[],so [vf_ Je,vf_ Ja] [vf_ Jq] (v2 mC),CX [tg]⟩
def Znq(a:List Int)(b c:Int):St:=⟨[(0,vV Je a),(1,vI b),(7,vV Je a),(8,vI (Wi a)),(9,vI c)],[],0⟩
def Zs3{h b i a}(f:i=K .ret ⟨[(4,vB false)],[],0⟩)(g:a= λe d=>K (.exit 0) ((Znq h b e).B 10 d))(n c):sS N h b i a n c=LM Mv N 0 100002 n (Znq h b c) K:=by subst f g;induction n generalizing c;kernel_rfl;rw[sS];simp only[*];kernel_rfl
def Zyd(a:List Int)(n2:Int):DN Mv N (a,n2,())=mC N a n2:=by
 conv=>rhs;rw[mC];simp(disch:=exact Ξ) only[Zs3 (R:=Unit×Ks) N (CF Mv N [1,0,1,0])]
 kernel_rfl
def Il:Gd:=GF Mv func78 (λN d=>Zyd N d.1 d.2.1)
def Nm:Fn:=⟨f79,λ |2=>cn_ [0,5,6,7,8]|3=>cn_ [0,4,5,6,7]|4=>cn_ [0,5,6,7,13]|5=>cn_ [2]|6|100002=>cn_ [0,5,6,7]|_=>[],so [vf_ Je] [vf_ Jq] (v1 Cn),CX [Z6]⟩
def Zqv(a:List Int)(b:Int):St:=⟨[(0,vV Je a),(5,vV Je a),(6,vI (Wi a)),(7,vI b)],[],0⟩
def Zye{g h a}(c:h=K .ret ⟨[(2,vB false)],[],0⟩)(d:a= λe f=>K (.exit 0) ((Zqv g e).B 8 f))(n b):B0 N g h a n b=LM Nm N 0 100002 n (Zqv g b) K:=by subst c d;induction n generalizing b;kernel_rfl;rw[B0];simp only[*];kernel_rfl
def Z38(l1:List Int):DN Nm N (l1,())=Cn N l1:=by
 conv=>rhs;rw[Cn];simp(disch:=exact Ξ) only[Zye (R:=Unit×Ks) N (CF Nm N [1,0,1,0])]
 kernel_rfl
def Ztj:Gd:=GF Nm func79 (λN d=>Z38 N d.1)
def Zzo:Fn:=⟨f37,WG,so [vt_ Jj] [vf_ Jq] (v1 Fh),CX [Il,Ztj,tg]⟩
def Tb:Gd:=GF Zzo func37
def Z39:Fn:=⟨f171,WG,so [vf_ Ja] [vf_ Jq] (v1 o9),CX [Z6]⟩
def Z4a:Gd:=GF Z39 func171
def Z2k:Fn:=⟨f172,WG,so [vf_ Ja] [vf_ Jq] (v1 pd),CX [Z6]⟩
def yW:Gd:=GF Z2k func172
def Z4b:Fn:=⟨f120,WG,so [vf_ Ja] [vf_ Jq] (v1 mX),CX [Z6]⟩
def Fy:Gd:=GF Z4b func120
def Z49:Fn:=⟨f128,WG,so [vt_ Jm] [vf_ Jq] (v1 zc),CX [Z4a,tg,yW,Z6,Fy]⟩
def NP:Gd:=GF Z49 func128
def Z0l:Fn:=⟨f126,WG,so [vt_ Jm] [vf_ Ja] (v1 Fo),CX [NP]⟩
def Zr0:Gd:=GF Z0l func126
def Z4c:Fn:=⟨f170,WG,so [vt_ Jm] [vf_ Ja] (v1 Cw),cg⟩
def Tj:Gd:=GN Z4c func170
def Mq:Fn:=⟨f127,λ |3=>cn_ [3,6,7,8,9]|4=>cn_ [3,5,6,7,8]|5|8|100003=>cn_ [3,6,7,8]|6=>cn_ [3,6,7,8,17]|7=>cn_ [2]|_=>[],so [vf_ Jc] [vf_ Jq] (v1 Ba),CX [Tj]⟩
def Zng(b:Int)(a:List Ka)(c:Int):St:=⟨[(3,vI b),(6,vV Jc a),(7,vI (Wi a)),(8,vI c)],[],0⟩
def Zsg{b j a}(e:j=K .ret ⟨[(2,vB false)],[],0⟩)(f:a= λg h d=>K (.exit 0) ((Zng g b h).B 9 d))(n i c):AO N b j a n i c=LM Mq N 0 100003 n (Zng i b c) K:=by subst e f;induction n generalizing i c;kernel_rfl;rw[AO];simp only[*];kernel_rfl
def Zwc(ad:List Ka):DN Mq N (ad,())=Ba N ad:=by
 conv=>rhs;rw[Ba];simp(disch:=exact Ξ) only[Zsg (R:=Unit×Ks) N (CF Mq N [1,1,0,1,0])]
 kernel_rfl
def Zwd:Gd:=GF Mq func127 (λN d=>Zwc N d.1)
def M0:Fn:=⟨f129,λ |3=>cn_ [1,5,8,9,10,11]|4=>cn_ [1,5,6,7,8,9,10]|5=>cn_ [1,5,7,8,9,10,17]|6|7|100003=>cn_ [1,5,8,9,10]|_=>[],so [vf_ Jc,vf_ Ja] [vf_ Ja] (v2 Fp),CX [Tj]⟩
def Zoz(b c:Int)(a:List Ka)(d:Int):St:=⟨[(1,vI b),(5,vI c),(8,vV Jc a),(9,vI (Wi a)),(10,vI d)],[],0⟩
def Zun{i c a}(g:a= λh e f=>K (.exit 0) ((Zoz i h c e).B 11 f))(n b d):yy N i c a n b d=LM M0 N 0 100003 n (Zoz i b c d) K:=by subst g;induction n generalizing b d;kernel_rfl;rw[yy];simp only[*];kernel_rfl
def Z0m(a:List Ka)(i2:Int):DN M0 N (a,i2,())=Fp N a i2:=by
 conv=>rhs;rw[Fp];simp(disch:=exact Ξ) only[Zun (R:=Unit×Kk) N (CF M0 N [1,1,0,1,0])]
 kernel_rfl
def Z0n:Gd:=GF M0 func129 (λN d=>Z0m N d.1 d.2.1)
def MS:Fn:=⟨f83,λ |5=>cn_ [0,3,14,15,16,17]|6=>cn_ [0,3,4,5,14,15,16]|7=>cn_ [0,3,4,5,14,15,16,23]|8|12|16=>cn_ [2]|9=>cn_ [0,3,4,5,14,15,16,25]|10=>cn_ [0,3,4,5,14,15,16,25,26]|11=>cn_ [0,3,14,15,16,48]|13=>cn_ [0,3,4,14,15,16,49]|14=>cn_ [0,3,4,14,15,16]|15=>cn_ [0,3,14,15,16,60]|17|100005=>cn_ [0,3,14,15,16]|_=>[],so [vf_ Jc] [vf_ Jq] (v1 tw),CX [Zwd,NP,Z0n]⟩
def Zps(a:List Ka)(b c:Int):St:=⟨[(0,vV Jc a),(3,vI b),(14,vV Jc a),(15,vI (Wi a)),(16,vI c)],[],0⟩
def Zwe{b j a}(e:j=K .ret ⟨[(2,vB false)],[],0⟩)(f:a= λh d g=>K (.exit 0) ((Zps b h d).B 17 g))(n i c):vy N b j a n i c=LM MS N 0 100005 n (Zps b i c) K:=by subst e f;induction n generalizing i c;kernel_rfl;rw[vy];simp only[*];kernel_rfl
def Z2l(ad:List Ka):DN MS N (ad,())=tw N ad:=by
 conv=>rhs;rw[tw];simp(disch:=exact Ξ) only[Zwe (R:=Unit×Ks) N (CF MS N [1,1,1,0,1,0])]
 kernel_rfl
def Zst:Gd:=GF MS func83 (λN d=>Z2l N d.1)
def Nn:Fn:=⟨f82,λ |2=>cn_ [0,5,6,7,8]|3=>cn_ [0,4,5,6,7]|4=>cn_ [0,5,6,7,18]|5=>cn_ [2]|6|100002=>cn_ [0,5,6,7]|_=>[],so [vf_ Jc] [vf_ Jq] (v1 Cx),CX [Zr0,Zst]⟩
def Zqw(a:List Ka)(b:Int):St:=⟨[(0,vV Jc a),(5,vV Jc a),(6,vI (Wi a)),(7,vI b)],[],0⟩
def Zyf{g h a}(c:h=K .ret ⟨[(2,vB false)],[],0⟩)(d:a= λe f=>K (.exit 0) ((Zqw g e).B 8 f))(n b):BG N g h a n b=LM Nn N 0 100002 n (Zqw g b) K:=by subst c d;induction n generalizing b;kernel_rfl;rw[BG];simp only[*];kernel_rfl
def Z4d(ad:List Ka):DN Nn N (ad,())=Cx N ad:=by
 conv=>rhs;rw[Cx];simp(disch:=exact Ξ) only[Zyf (R:=Unit×Ks) N (CF Nn N [1,0,1,0])]
 kernel_rfl
def Z4e:Gd:=GF Nn func82 (λN d=>Z4d N d.1)
def Zyg:Fn:=⟨f131,WG,so [vt_ Jm] [vf_ Jq] (v1 SY),cg⟩
def Zyh:Gd:=GN Zyg func131
def L9:Fn:=⟨f173,λ |2=>cn_ [0,1,7,8,9]|3=>cn_ [0,1,5,7,8]|4=>cn_ [0,1,5,7,8,16]|5=>cn_ [1,4]|6|100002=>cn_ [0,1,7,8]|_=>[],so [vf_ Jc,.clos 131 0] [vf_ Ja] (v1 Z3),CX [Zyh]⟩
def Zbt(a:List Ka)(b:Int):St:=⟨[(0,vV Jc a),(1,.s (.one (.clos 131 []))),(7,vI (Wi a)),(8,vI b)],[],0⟩
def Zgn{h i a}(c:i= λe=>K .ret ⟨[(1,.s (.one (.clos 131 []))),(4,vI e)],[],0⟩)(d:a= λf g=>K (.exit 0) ((Zbt h f).B 9 g))(n b):Zm N h i a n b=LM L9 N 0 100002 n (Zbt h b) K:=by subst c d;induction n generalizing b;kernel_rfl;rw[Zm];simp only[*];kernel_rfl
def Zhi(a:List Ka):DN L9 N (a,())=Z3 N a:=by
 conv=>rhs;rw[Z3];simp(disch:=exact Ξ) only[Zgn (R:=Unit×Kk) N (CF L9 N [1,0,1,0])]
 kernel_rfl
def Zhj:Gd:=GF L9 func173 (λN d=>Zhi N d.1)
def Zgt:Fn:=⟨f130,WG,so [vf_ Jc,.clos 131 0] [vf_ Jq] (v1 SJ),CX [Zhj]⟩
def Zgu:Gd:=GF Zgt func130
def Z0o:Fn:=⟨f84,WG,so [vf_ Jc] [vf_ Jq] (v1 Fr),CX [Zgu]⟩
def Z0p:Gd:=GF Z0o func84
def MT:Fn:=⟨f40,λ |2=>cn_ [1,6,7,8,9]|3=>cn_ [1,4,6,7,8]|4=>cn_ [1,6,7,8,15]|5=>cn_ [2]|6|100002=>cn_ [1,6,7,8]|_=>[],so [vt_ Jk] [vf_ Jq] (v1 Cj),CX [Z4e,Zst,Z0p]⟩
def Zpt(b:List Kaf)(c:Int)(a:List Ka×List Kaf):St:=⟨[(1,vP 0 0),(6,vV Jab b),(7,vI (Wi a.2)),(8,vI c)],[(0,.box [.val Jc a.1,.val Jab a.2])],1⟩
def Zwg{b h i a}(d:i=K .ret ⟨[(2,vB false)],[],0⟩)(e:a= λf g=>K (.exit 0) ((Zpt b f h).B 9 g))(n c):Bf N b h i a n c=LM MT N 0 100002 n (Zpt b c h) K:=by subst d e;induction n generalizing c;kernel_rfl;rw[Bf];simp only[*];kernel_rfl
def Z2m(p1:List Ka×List Kaf):DN MT N (p1,())=Cj N p1:=by
 conv=>rhs;rw[Cj];simp(disch:=exact Ξ) only[Zwg (R:=Unit×Ks) N (CF MT N [1,0,1,0])]
 kernel_rfl
def Zsu:Gd:=GF MT func40 (λN d=>Z2m N d.1)
def Zwh:Fn:=⟨f39,WG,so [vt_ Jk] [vf_ Jq] (v1 MC),CX [Zsu]⟩
def Zwi:Gd:=GF Zwh func39
def Z7:Fn:=⟨f81,λ |2=>cn_ [0,1,7,8,9]|3=>cn_ [0,1,5,7,8]|4=>cn_ [0,1,5,7,8,16]|5=>cn_ [1,4]|6|100002=>cn_ [0,1,7,8]|_=>[],so [vf_ Jz,.clos 39 0] [vf_ Ja] (v1 Zu),CX [Zwi]⟩
def Zbc(a:List Kq)(b:Int):St:=⟨[(0,vV Jz a),(1,.s (.one (.clos 39 []))),(7,vI (Wi a)),(8,vI b)],[],0⟩
def Zff{h i a}(c:i= λe=>K .ret ⟨[(1,.s (.one (.clos 39 []))),(4,vI e)],[],0⟩)(d:a= λf g=>K (.exit 0) ((Zbc h f).B 9 g))(n b):Zd N h i a n b=LM Z7 N 0 100002 n (Zbc h b) K:=by subst c d;induction n generalizing b;kernel_rfl;rw[Zd];simp only[*];kernel_rfl
def Zf6(a:List Kq):DN Z7 N (a,())=Zu N a:=by
 conv=>rhs;rw[Zu];simp(disch:=exact Ξ) only[Zff (R:=Unit×Kk) N (CF Z7 N [1,0,1,0])]
 kernel_rfl
def Zf7:Gd:=GF Z7 func81 (λN d=>Zf6 N d.1)
def Zfm:Fn:=⟨f38,WG,so [vf_ Jz,.clos 39 0] [vf_ Jq] (v1 SH),CX [Zf7]⟩
def Zfn:Gd:=GF Zfm func38
def Zzp:Fn:=⟨f16,WG,so [vt_ Jr] [vf_ Jq] (v1 B8),CX [Tb,Zfn]⟩
def MJ:Gd:=GF Zzp func16
def Z0q:Fn:=⟨f85,WG,λN=>Sig.of [] [vf_ Jx] (λd=>Ti N),cg⟩
def Z0r:Gd:=GN Z0q func85
def Zzq:Fn:=⟨f132,WG,so [vf_ Je] [vf_ Jx] (v1 Zg),cg⟩
def Z2:Gd:=GN Zzq func132
def Z2n:Fn:=⟨f117,WG,so [vf_ Ja,vf_ Ja] [vf_ Ja] (v2 FH),cg⟩
def Zsv:Gd:=GN Z2n func117
def Z4f:Fn:=⟨f119,WG,so [vf_ Ja] [vf_ Ja] (v1 Cs),cg⟩
def Ztk:Gd:=GN Z4f func119
def Zzr:Fn:=⟨f118,WG,so [vf_ Ja] [vf_ Ja] (v1 Ix),CX [Fy]⟩
def Zrp:Gd:=GF Zzr func118
def M1:Fn:=⟨f70,λ |5=>cn_ [3,9,10,11,12]|6=>cn_ [3,4,5,9,10,11]|7=>cn_ [3,4,5,9,10,11,17]|8=>cn_ [3,5,9,10,11,35]|9=>cn_ [2]|10|11|100005=>cn_ [3,9,10,11]|_=>[],so [vf_ Je] [vf_ Jq] (v1 tl),CX [Zsv,Z6,Ztk,Zrp]⟩
def Zo0(a:List Int)(c:Int)(b:List Bool):St:=⟨[(3,.s (.one (.aptr 0))),(9,vV Je a),(10,vI (Wi a)),(11,vI c)],[(0,.arr Jq b)],1⟩
def Zuq{b i j}(d:i=K .ret ⟨[(2,vB false)],[],0⟩)(e:j= λg f a=>K (.exit 0) ((Zo0 b g a).B 12 f))(n c h):yz N b i j n c h=LM M1 N 0 100005 n (Zo0 b c h) K:=by subst d e;induction n generalizing c h;kernel_rfl;rw[yz];simp only[*];kernel_rfl
def Z0s(l1:List Int):DN M1 N (l1,())=tl N l1:=by
 conv=>rhs;rw[tl];simp(disch:=exact Ξ) only[Zuq (R:=Unit×Ks) N (CF M1 N [1,1,1,0,1,0])]
 kernel_rfl
def Iz:Gd:=GF M1 func70 (λN d=>Z0s N d.1)
def NQ:Fn:=⟨f121,λ |2=>cn_ [1,7,8,9,10]|3=>cn_ [1,5,6,7,8,9]|4=>cn_ [1,5,7,8,9,21]|5=>cn_ [4]|6|100002=>cn_ [1,7,8,9]|_=>[],so [vf_ Je,vf_ Ja] [vf_ Ja] (v2 wh),CX [Ztk]⟩
def Zrq(b:Int)(a:List Int)(c:Int):St:=⟨[(1,vI b),(7,vV Je a),(8,vI (Wi a)),(9,vI c)],[],0⟩
def Zzs{i b j a}(f:j= λh=>K .ret ⟨[(4,vI h)],[],0⟩)(g:a= λe d=>K (.exit 0) ((Zrq i b e).B 10 d))(n c):yS N i b j a n c=LM NQ N 0 100002 n (Zrq i b c) K:=by subst f g;induction n generalizing c;kernel_rfl;rw[yS];simp only[*];kernel_rfl
def Z5a(a:List Int)(bO:Int):DN NQ N (a,bO,())=wh N a bO:=by
 conv=>rhs;rw[wh];simp(disch:=exact Ξ) only[Zzs (R:=Unit×Kk) N (CF NQ N [1,0,1,0])]
 kernel_rfl
def To:Gd:=GF NQ func121 (λN d=>Z5a N d.1 d.2.1)
def Z0t:Fn:=⟨f71,WG,so [vf_ Je,vf_ Ja] [vf_ Ja,vf_ Jq] (v2 B9),CX [Iz,Fy,To]⟩
def M2:Gd:=GF Z0t func71
def M3:Fn:=⟨f86,λ |10=>cn_ [1,2,9,13,57]|11|100010=>cn_ [1,2,9,13]|_=>[],so [vf_ Je,vf_ Ja,vf_ Ja] [vf_ Jx,vf_ Ja,vf_ Jq] (v3 yY),CX [Z2,Iz,Fy,tg,To,M2,Zsv,Zrp]⟩
def Zo1(b d c:Int)(a:List Int):St:=⟨[(1,vI b),(2,vI d),(9,vO 0),(13,vI c)],[(0,.arr Ja a)],1⟩
def Zur{b d h a}(f:a= λg e=>K (.exit 0) ((Zo1 b d g h).B 57 e))(n c):AU N b d h a n c=LM M3 N 0 100010 n (Zo1 b d c h) K:=by subst f;induction n generalizing c;kernel_rfl;rw[AU];simp only[*];kernel_rfl
def Z0u(b:List Int)(a v3:Int):DN M3 N (b,a,v3,())=yY N b a v3:=by
 conv=>rhs;rw[yY];simp(disch:=exact Ξ) only[Zur (R:=Unit×(Ki×Kn)) N (CF M3 N [1,1,1,1,1,0,0])]
 kernel_rfl
def Ta:Gd:=GF M3 func86 (λN d=>Z0u N d.1 d.2.1 d.2.2.1)
def Mw:Fn:=⟨f41,λ |5=>cn_ [3,10,11,12,13]|6=>cn_ [3,4,5,10,11,12]|7=>cn_ [3,4,5,10,11,12,18]|8|9|100005=>cn_ [3,10,11,12]|_=>[],so [vf_ Je] [vf_ Jx] (v1 B3),CX [Ztj,Z0r,Ta]⟩
def Znr(a:List Int)(c:Int)(b:List Int):St:=⟨[(3,vO 0),(10,vV Je a),(11,vI (Wi a)),(12,vI c)],[(0,.arr Ja b)],1⟩
def Zs4{b a}(g:a= λf d e=>K (.exit 0) ((Znr b f e).B 13 d))(n c h):yr N b a n c h=LM Mw N 0 100005 n (Znr b c h) K:=by subst g;induction n generalizing c h;kernel_rfl;rw[yr];simp only[*];kernel_rfl
def Zyj(m1:List Int):DN Mw N (m1,())=B3 N m1:=by
 conv=>rhs;rw[B3];simp(disch:=exact Ξ) only[Zs4 (R:=Unit×Ku) N (CF Mw N [1,1,1,0,1,0])]
 kernel_rfl
def Zyk:Gd:=GF Mw func41 (λN d=>Zyj N d.1)
def MU:Fn:=⟨f42,λ |5=>cn_ [2,4,12,13,14,15]|6=>cn_ [2,4,6,12,13,14]|7|8=>cn_ [2,4,12,13,14]|100005=>[.adoptC 4 1 Jt,.canon [2,4,12,13,14]]|_=>[],so [vf_ Je] [vt_ Jah,vf_ Jq] (v1 Ch),CX [Il]⟩
def Zpu(a:List Int)(c:Int)(b:List Kb):St:=⟨[(2,vP 0 0),(4,vP 1 0),(12,vV Je a),(13,vI (Wi a)),(14,vI c)],[(0,.box [.val Ja (0:Int),.nils]),(1,.box [.val Ja (0:Int),.own 2]),(2,.arr Jt b)],3⟩
def Zwj{b a}(f:a= λg e d=>K (.exit 0) ((Zpu b g d).B 15 e))(n c h):Be N b a n c h=LM MU N 0 100005 n (Zpu b c h) K:=by subst f;induction n generalizing c h;kernel_rfl;rw[Be];simp only[*];kernel_rfl
def Z2o(l1:List Int):DN MU N (l1,())=Ch N l1:=by
 conv=>rhs;rw[Ch];simp(disch:=exact Ξ) only[Zwj (R:=Unit×(Kz×Ks)) N (CF MU N [1,1,1,0,1,0])]
 kernel_rfl
def Z2p:Gd:=GF MU func42 (λN d=>Z2o N d.1)
def Zyl:Fn:=⟨f88,WG,so [.box Ju] [] (v1 ru),cg⟩
def Im:Gd:=GN Zyl func88
def Mr:Fn:=⟨f89,λ |3=>cn_ [0,1,4,5,17,18,19,20]|4=>cn_ [0,1,4,5,6,7,17,18,19]|5|6|100003=>cn_ [0,1,4,5,17,18,19]|_=>[],so [.box Jl,vf_ Ja] [] (v2 EX),cg⟩
def Znh(k:Int)(l:Nat)(j:Bool)(m n f g d h:Int)(e:List Y_Root)(a:List Kb)(b:List Int)(c:List Kb)(i:List Kr):St:=⟨[(0,vP 0 0),(1,vI k),(4,.s (.one (.eptr 1 l 0))),(5,vB j),(17,vO 1),(18,vI m),(19,vI n)],[(0,.box [.val Ja f,.val Ja g,.val Ja d,.own 2,.own 3,.val Ja h,.own 4,.own 1,.own 5]),(1,.arr Ju e),(2,.arr Jt a),(3,.arr Ja b),(4,.arr Jt c),(5,.arr Ji i)],6⟩
def Zsh{k l m f g d h e t b c i a}(p:a= λs r q=>K (.exit 0) ((Znh k l s m r f g d h e t b c i).B 20 q))(n j o):sQ N k l m f g d h e t b c i a n j o=LM Mr N 0 100003 n (Znh k l j m o f g d h e t b c i) K:=by subst p;induction n generalizing j o;kernel_rfl;rw[sQ];simp only[*];kernel_rfl
def Zwk(a:Y_World)(k2:Int):DN Mr N (a,k2,())=EX N a k2:=by
 conv=>rhs;rw[EX];simp(disch:=exact Ξ) only[Zsh (R:=(Y_World×Unit)×Unit) N (CF Mr N [1,1,0,1,0])]
 kernel_rfl
def Zwl:Gd:=GN Mr func89 (λN d=>Zwk N d.1 d.2.1)
def Z2q:Fn:=⟨f200,WG,so [vf_ Ja,vf_ Ja,vf_ Ja] [vf_ Jq] (v3 FI),CX [Z6]⟩
def Zsw:Gd:=GF Z2q func200
def Ztm:Fn:=⟨f201,WG,so [vt_ Jt,vt_ Jt] [vf_ Ja] (v2 Mo),cg⟩
def Ztn:Gd:=GN Ztm func201
def M4:Fn:=⟨f147,λ |2=>cn_ [0,5,6,7,8]|3=>cn_ [0,3,4,5,6,7]|4=>cn_ [0,3,4,5,6,7,33]|5|7=>cn_ [2]|6=>cn_ [0,5,6,7,60]|8|100002=>cn_ [0,5,6,7]|_=>[],so [vf_ Jf] [vf_ Jq] (v1 yZ),CX [Zsw,Ztn]⟩
def Zo2(a:List Kb)(b:Int):St:=⟨[(0,vV Jf a),(5,vV Jf a),(6,vI (Wi a)),(7,vI b)],[],0⟩
def Zus{g h a}(e:h=K .ret ⟨[(2,vB false)],[],0⟩)(f:a= λd c=>K (.exit 0) ((Zo2 g d).B 8 c))(n b):vF N g h a n b=LM M4 N 0 100002 n (Zo2 g b) K:=by subst e f;induction n generalizing b;kernel_rfl;rw[vF];simp only[*];kernel_rfl
def Z0v(l1:List Kb):DN M4 N (l1,())=yZ N l1:=by
 conv=>rhs;rw[yZ];simp(disch:=exact Ξ) only[Zus (R:=Unit×Ks) N (CF M4 N [1,0,1,0])]
 kernel_rfl
def M5:Gd:=GF M4 func147 (λN d=>Z0v N d.1)
def M6:Fn:=⟨f174,λ |5=>cn_ [1,5,12,13,14,15]|6=>cn_ [1,5,7,12,13,14]|7=>cn_ [1,5,7,12,13,14,21]|8|9|100005=>cn_ [1,5,12,13,14]|_=>[],so [vf_ Jf,vf_ Ja] [vf_ Jx] (v2 Ca),CX [M5]⟩
def Zo3(b:Int)(a:List Kb)(d:Int)(c:List Int):St:=⟨[(1,vI b),(5,vO 0),(12,vV Jf a),(13,vI (Wi a)),(14,vI d)],[(0,.arr Ja c)],1⟩
def Zut{i c a}(g:a= λh f e=>K (.exit 0) ((Zo3 i c h e).B 15 f))(n d b):yA N i c a n d b=LM M6 N 0 100005 n (Zo3 i c d b) K:=by subst g;induction n generalizing d b;kernel_rfl;rw[yA];simp only[*];kernel_rfl
def Z0w(a:List Kb)(dz:Int):DN M6 N (a,dz,())=Ca N a dz:=by
 conv=>rhs;rw[Ca];simp(disch:=exact Ξ) only[Zut (R:=Unit×Ku) N (CF M6 N [1,1,1,0,1,0])]
 kernel_rfl
def Z0x:Gd:=GF M6 func174 (λN d=>Z0w N d.1 d.2.1)
def Zym:Fn:=⟨f97,λ |0=>[.opn 10]|_=>[],so [.box Jl,vf_ Ja] [] (v2 EQ),cg⟩
def Zqx:Gd:=GN Zym func97
def Z0y:Fn:=⟨f215,WG,so [vf_ Ja] [vf_ Jq] (v1 y6),CX [Z6]⟩
def IA:Gd:=GF Z0y func215
def MV:Fn:=⟨f203,λ |2=>cn_ [0,5,6,7,8]|3=>cn_ [0,4,5,6,7]|4=>cn_ [0,5,6,7,20]|5=>cn_ [2]|6|100002=>cn_ [0,5,6,7]|_=>[],so [vf_ Jv] [vf_ Jq] (v1 tz),CX [yW,tg]⟩
def Zpv(a:List Kf)(b:Int):St:=⟨[(0,vV Jv a),(5,vV Jv a),(6,vI (Wi a)),(7,vI b)],[],0⟩
def Zwm{g h a}(e:h=K .ret ⟨[(2,vB false)],[],0⟩)(f:a= λd c=>K (.exit 0) ((Zpv g d).B 8 c))(n b):Bc N g h a n b=LM MV N 0 100002 n (Zpv g b) K:=by subst e f;induction n generalizing b;kernel_rfl;rw[Bc];simp only[*];kernel_rfl
def Z2r(l1:List Kf):DN MV N (l1,())=tz N l1:=by
 conv=>rhs;rw[tz];simp(disch:=exact Ξ) only[Zwm (R:=Unit×Ks) N (CF MV N [1,0,1,0])]
 kernel_rfl
def MW:Gd:=GF MV func203 (λN d=>Z2r N d.1)
def NR:Fn:=⟨f176,λ |4=>cn_ [0,1,6,14]|5|100004=>cn_ [0,1,6]|6=>cn_ [0,1,6,23]|7=>cn_ [4,5]|_=>[],so [vf_ Jv,vf_ Ja] [vf_ Ja,vf_ Jq] (v2 zd),CX [MW]⟩
def Zrr(c:List Kf)(a b:Int):St:=⟨[(0,vV Jv c),(1,vI a),(6,vI b)],[],0⟩
def Zzt{c i j a}(d:j= λg=>K .ret ⟨[(4,vI g),(5,vB true)],[],0⟩)(e:a= λf h=>K (.exit 0) ((Zrr c i f).B 14 h))(n b):Fe N c i j a n b=LM NR N 0 100004 n (Zrr c i b) K:=by subst d e;induction n generalizing b;kernel_rfl;rw[Fe];simp only[*];kernel_rfl
def Z5b(a:List Kf)(iB:Int):DN NR N (a,iB,())=zd N a iB:=by
 conv=>rhs;rw[zd];simp(disch:=exact Ξ) only[Zzt (R:=Unit×Kn) N (CF NR N [1,1,0,1,0])]
 kernel_rfl
def Tp:Gd:=GF NR func176 (λN d=>Z5b N d.1 d.2.1)
def N2:Fn:=⟨f152,λ |5=>cn_ [0,3,11,12]|6=>cn_ [0,3,4,11]|7=>cn_ [0,3,4,5,6,11]|8=>cn_ [0,3,4,5,11,20]|9|10|100005=>cn_ [0,3,11]|_=>[],so [vf_ Jv] [vf_ (.own Jaf)] (v1 tM),CX [MW,Tp]⟩
def Zr2(a:List Kf)(c:Int)(b:List Kf):St:=⟨[(0,vV Jv a),(3,vO 0),(11,vI c)],[(0,.arr Jaf b)],1⟩
def Z0z{h a}(d:a= λf g e=>K (.exit 0) ((Zr2 h f e).B 12 g))(n c b):Ce N h a n c b=LM N2 N 0 100005 n (Zr2 h c b) K:=by subst d;induction n generalizing c b;kernel_rfl;rw[Ce];simp only[*];kernel_rfl
def Z5r(l1:List Kf):DN N2 N (l1,())=tM N l1:=by
 conv=>rhs;rw[tM];simp(disch:=exact Ξ) only[Z0z (R:=Unit×(Kad×Unit)) N (CF N2 N [1,1,1,0,1,0])]
 kernel_rfl
def N3:Gd:=GF N2 func152 (λN d=>Z5r N d.1)
def M8:Fn:=⟨f216,λ |3=>cn_ [3,8,9,10,11]|4=>cn_ [3,5,8,9,10]|5|6|100003=>cn_ [3,8,9,10]|_=>[],so [vf_ Jv] [vf_ Jx] (v1 Fs),CX [N3]⟩
def Zo6(c d:Int)(a:List Int)(b:List Kf):St:=⟨[(3,vO 0),(8,vO 1),(9,vI c),(10,vI d)],[(0,.arr Ja a),(1,.arr Jaf b)],2⟩
def Zuv{c b a}(e:a= λg h f=>K (.exit 0) ((Zo6 c g f b).B 11 h))(n d i):Bj N c b a n d i=LM M8 N 0 100003 n (Zo6 c d i b) K:=by subst e;induction n generalizing d i;kernel_rfl;rw[Bj];simp only[*];kernel_rfl
def Z00(l1:List Kf):DN M8 N (l1,())=Fs N l1:=by
 conv=>rhs;rw[Fs];simp(disch:=exact Ξ) only[Zuv (R:=Unit×Ku) N (CF M8 N [1,1,0,1,0])]
 kernel_rfl
def Z01:Gd:=GF M8 func216 (λN d=>Z00 N d.1)
def Zyo:Fn:=⟨f175,WG,so [vf_ Ja,vf_ Ja,vf_ Jv,vf_ Jv] [vt_ Jd,vf_ Jq] (v4 ER),CX [IA,Z6,MW,N3,Z01]⟩
def Zyp:Gd:=GF Zyo func175
def Zuw:Fn:=⟨f133,λ |0=>[.opn 13]|_=>[],so [.box Jl,vf_ Ja,vf_ Ja] [] (v3 Ii),CX [Z0x,Zqx,Zyp]⟩
def Zo7:Gd:=GF Zuw func133
def Zzu:Fn:=⟨f177,WG,so [vf_ Ja] [vt_ Jm,vf_ Jq] (v1 B7),CX [yW]⟩
def Zrs:Gd:=GF Zzu func177
def No:Fn:=⟨f69,λ |2=>cn_ [1,6,7,8,9]|3=>cn_ [1,4,6,7,8]|4=>cn_ [1,6,7,8,29]|5=>cn_ [2]|6|100002=>cn_ [1,6,7,8]|_=>[],so [vt_ Jaa] [vf_ Jq] (v1 qa),CX [tg,Z6]⟩
def Zqy(b:List Kb)(c:Int)(a:Int×List Kb):St:=⟨[(1,vP 0 0),(6,vV Jf b),(7,vI (Wi a.2)),(8,vI c)],[(0,.box [.val Ja a.1,.val Jf a.2])],1⟩
def Zyq{b h i a}(f:i=K .ret ⟨[(2,vB false)],[],0⟩)(g:a= λe d=>K (.exit 0) ((Zqy b e h).B 9 d))(n c):BM N b h i a n c=LM No N 0 100002 n (Zqy b c h) K:=by subst f g;induction n generalizing c;kernel_rfl;rw[BM];simp only[*];kernel_rfl
def Z4g(m1:Int×List Kb):DN No N (m1,())=qa N m1:=by
 conv=>rhs;rw[qa];simp(disch:=exact Ξ) only[Zyq (R:=Unit×Ks) N (CF No N [1,0,1,0])]
 kernel_rfl
def Cl:Gd:=GF No func69 (λN d=>Z4g N d.1)
def Z02:Fn:=⟨f217,WG,so [vt_ Jm] [vf_ Jq] (v1 NH),CX [yW,Z6,tg]⟩
def Z03:Gd:=GF Z02 func217
def Zyr:Fn:=⟨f178,WG,so [vt_ Jaa,vf_ Ja,vt_ Jm] [vt_ Jm] (v3 BN),CX [Cl,Z03]⟩
def Zqz:Gd:=GF Zyr func178
def Zs5:Fn:=⟨f179,WG,so [.box Ju] [] (v1 EK),CX [Im]⟩
def Zns:Gd:=GF Zs5 func179
def Zwo:Fn:=⟨f134,λ |1000000=>[.unfE 1]|_=>[],so [.boxal Jl 3,vt_ Jm] [] (v3 MD),CX [Tp,Zrs,Zqz,Zns]⟩
def Zwp:Gd:=GF Zwo func134
def Zys:Fn:=⟨f92,WG,so [.box Ju] [vt_ (.prod Ja Jac)] (v1 Ip),cg⟩
def Zq0:Gd:=GN Zys func92
def Zyt:Fn:=⟨f186,WG,so [vt_ (.prod Je Ja)] [vt_ (.prod Jx Ja)] (v1 Iq),CX [Z2]⟩
def Zq1:Gd:=GF Zyt func186
def Z04:Fn:=⟨f187,WG,so [vt_ (.prod Je Ja)] [vf_ Jq] (v1 IC),CX [Iz,tg]⟩
def Zr3:Gd:=GF Z04 func187
def Z2s:Fn:=⟨f188,WG,so [vt_ Jt] [vf_ Jq] (v1 N0),CX [Fy,tg]⟩
def Z2t:Gd:=GF Z2s func188
def Zzv:Fn:=⟨f189,WG,so [vf_ Je,vf_ Ja] [vf_ Jx,vf_ Ja,vf_ Jq] (v2 Iy),CX [Z2,Iz,Fy,To,M2]⟩
def Zrt:Gd:=GF Zzv func189
def Z05:Fn:=⟨f142,WG,so [vt_ (.prod Je Ja),vt_ Jt] [vt_ (.prod Jx Ja),vf_ Jq] (v2 NI),CX [Zq1,Zr3,Z2t,Ta,Zrt]⟩
def Z06:Gd:=GF Z05 func142
def Zwq:Fn:=⟨f93,λ |1000000=>[.unfE 1]|_=>[],so [.boxal Jl 3] [] (v2 yL),CX [Z06]⟩
def Zpw:Gd:=GF Zwq func93
def Zzw:Fn:=⟨f143,WG,so [vf_ Jv] [vf_ (.own Jaf)] (v1 ry),cg⟩
def Iw:Gd:=GN Zzw func143
def Np:Fn:=⟨f180,λ |5=>cn_ [0,5,6,25]|6|7|100005=>cn_ [0,5,6]|8=>cn_ [0,5,6,36]|9=>cn_ [4]|_=>[],so [vf_ Jc,vf_ Ja] [vf_ Ja] (v2 tL),CX [Z6,Tj]⟩
def Zq2(a:List Ka)(c b:Int):St:=⟨[(0,vV Jc a),(5,vI c),(6,vI b)],[],0⟩
def Zyu{j k a}(f:k= λi=>K .ret ⟨[(4,vI i)],[],0⟩)(g:a= λh b e=>K (.exit 0) ((Zq2 j h b).B 25 e))(n d c):vL N j k a n d c=LM Np N 0 100005 n (Zq2 j d c) K:=by subst f g;induction n generalizing d c;kernel_rfl;rw[vL];simp only[*];kernel_rfl
def Z4h(a:List Ka)(i2:Int):DN Np N (a,i2,())=tL N a i2:=by
 conv=>rhs;rw[tL];simp(disch:=exact Ξ) only[Zyu (R:=Unit×Kk) N (CF Np N [1,1,1,0,1,0])]
 kernel_rfl
def Tl:Gd:=GF Np func180 (λN d=>Z4h N d.1 d.2.1)
def Zux:Fn:=⟨f135,λ |0=>[.opn 13]|_=>[],so [.box Jl,vf_ Ja,vf_ Jc] [] (v3 Mh),CX [Zo7,Zq0,Zpw,Z2,Iw,Tl]⟩
def Zuy:Gd:=GF Zux func135
def E3:Fn:=⟨f136,λ |3=>cn_ [1,3,8,9,19,20,21,22]|4=>cn_ [1,3,8,9,11,19,20,21]|5|6=>cn_ [1,3,8,9,19,20,21]|8=>cn_ [1,8,9,36,37,38]|9=>[.nest 44 Jh,.canon [1,8,9,36,37]]|10=>cn_ [1,8,9,36,37]|100003=>[.adoptC 9 6 Jt,.canon [1,3,8,9,19,20,21]]|100008=>[.adoptC 9 9 Jh,.canon [1,8,9,36,37]]|_=>[],so [vf_ Ja,vf_ Je,vf_ Jv,vf_ Ja] [vt_ Jy] (v4 Ff),CX [Z2,N3]⟩
def Zoe(d:List Int)(e f g c:Int)(b:List Kf)(a:List Int)(h:List Kb):St:=⟨[(1,vV Je d),(3,vI e),(8,vP 0 0),(9,vP 1 0),(19,vO 2),(20,vI f),(21,vI g)],[(0,.box [.val Ja (0:Int),.val Ja (0:Int),.val Ja (0:Int),.val Jq false,.nils,.nils,.nils,.nils,.nils,.nils]),(1,.box [.val Ja c,.val Ja (0:Int),.val Ja (0:Int),.val Jq false,.own 3,.own 2,.own 4,.nils,.nils,.nils]),(2,.arr Jaf b),(3,.arr Ja a),(4,.arr Jt h)],5⟩
def Ztp{d e g c b a l}(j:l= λf h i=>K (.exit 0) ((Zoe d e g f c b a i).B 22 h))(n k m):A1 N d e g c b a l n k m=LM E3 N 0 100003 n (Zoe d e g k c b a m) K:=by subst j;induction n generalizing k m;kernel_rfl;rw[A1];simp only[*];kernel_rfl
def Zof(f:List Int)(d e b:Int)(g:List Int)(h:List Kf)(c:List Kb)(a:List Y_KidRun):St:=⟨[(1,vV Je f),(8,vP 0 0),(9,vP 1 0),(36,vI d),(37,vI e)],[(0,.box [.val Ja (0:Int),.val Ja (0:Int),.val Ja (0:Int),.val Jq false,.nils,.nils,.nils,.nils,.nils,.nils]),(1,.box [.val Ja b,.val Ja (0:Int),.val Ja (0:Int),.val Jq false,.own 2,.own 3,.own 4,.nils,.nils,.own 5]),(2,.arr Ja g),(3,.arr Jaf h),(4,.arr Jt c),(5,.arr Jh a)],6⟩
def Ztq{j d b l m c k}(h:k= λf g i=>K (.exit 2) ((Zof j d f b l m c i).B 38 g))(n e a):vD N j d b l m c k n e a=LM E3 N 1 100008 n (Zof j d e b l m c a) K:=by subst h;induction n generalizing e a;kernel_rfl;rw[vD];simp only[*];kernel_rfl
def Zzx(c:Int)(a:List Int)(b:List Kf)(cQ:Int):DN E3 N (c,a,b,cQ,())=Ff N c a b cQ:=by
 conv=>rhs;rw[Ff];simp(disch:=exact Ξ) only[Ztp (R:=Unit×(Y_Family×Unit)) N (CF E3 N [1,1,0,1,0]),Ztq (R:=Unit×(Y_Family×Unit)) N (CF E3 N [1,1,1,0,1,0])]
 kernel_rfl
def Zzy:Gd:=GF E3 func136 (λN d=>Zzx N d.1 d.2.1 d.2.2.1 d.2.2.2.1)
def Zyv:Fn:=⟨f181,WG,so [vt_ Jm] [vf_ Ja,vf_ Ja] (v1 MX),CX [NP]⟩
def Zyw:Gd:=GF Zyv func181
def Zyx:Fn:=⟨f146,WG,so [vf_ Jf] [vf_ (.own Jt)] (v1 B4),cg⟩
def Zq3:Gd:=GN Zyx func146
def Nv:Fn:=⟨f218,λ |5=>cn_ [1,2,3,9,21,22,23,24]|6=>cn_ [1,2,3,9,11,21,22,23]|7=>cn_ [1,2,3,9,11,21,22,23,45]|8|9|100005=>cn_ [1,2,3,9,21,22,23]|_=>[],so [vf_ Jf,vf_ Ja,vf_ Ja,vf_ Ja] [vf_ Jx] (v4 FJ),CX [M5,Z6]⟩
def Zpx(f d e:Int)(a:List Kb)(c:Int)(b:List Int):St:=⟨[(1,vI f),(2,vI d),(3,vI e),(9,vO 0),(21,vV Jf a),(22,vI (Wi a)),(23,vI c)],[(0,.arr Ja b)],1⟩
def Zws{f d e b a}(j:a= λi g h=>K (.exit 0) ((Zpx f d e b i h).B 24 g))(n c k):sW N f d e b a n c k=LM Nv N 0 100005 n (Zpx f d e b c k) K:=by subst j;induction n generalizing c k;kernel_rfl;rw[sW];simp only[*];kernel_rfl
def Z2u(c:List Kb)(b a di:Int):DN Nv N (c,b,a,di,())=FJ N c b a di:=by
 conv=>rhs;rw[FJ];simp(disch:=exact Ξ) only[Zws (R:=Unit×Ku) N (CF Nv N [1,1,1,0,1,0])]
 kernel_rfl
def Z2v:Gd:=GF Nv func218 (λN d=>Z2u N d.1 d.2.1 d.2.2.1 d.2.2.2.1)
def Zbj(N:Nat):Sig:=Sig.of [.mut Jt,.clos 201 0] [] (λd=>Zs N d.1)
def Zfs:Od Tryz.prog 201 Jt zj cfH:=by
  intro G x y m n w c d k l;obtain⟨_,_,rfl,e,_,_,rfl,f,g⟩:=k;obtain⟨_,_,rfl,h,_,_,rfl,i,j⟩:=l;simp only[Enc]at e f g h i j;subst e f g h i j;simp only[hZ,p4];unfold zj at c d;simp only[Xl]at c d
  go_enter Tryz.func201,Tryz.ntmps201
  go_wp2
  rw[WuI (a:=x.2.1) (b:=y.2.1),Result.andThen_ok];rw[WAI (a:=x.2.1) (b:=y.2.1),Result.andThen_ok];rcases hb:(bne (α:=Int) x.2.1 y.2.1)with _|_
  . go_wp2
    rw[Rx (DF c.1) (DF d.1) (WCi hb)]
    go_wp2
    go_ret
    exact⟨rfl,QC _ _ _⟩
  . go_wp2
    rw[Rx (DF c.2) (DF d.2) (WCr hb)]
    go_wp2
    go_ret
    exact⟨rfl,QC _ _ _⟩
def Zft(N:Nat):GW 219 (Zbj N):=⟨CQ Tryz.func219 (show sj Tryz.f219=true by kernel_rfl),Vy sortFH (e:=.prod Ja Jaf) rfl (by decide) Tryz.isAgg194 Tryz.sizeOf194 (enters_of Tryz.func201 (by kernel_rfl) rfl) WDK Zfs N⟩
def Zfu:Gd:=⟨219,Zbj,Zft⟩
def M9:Fn:=⟨f182,λ |5=>cn_ [1,2,3,10,35,36,37,38]|6=>cn_ [1,2,3,10,11,12,35,36,37]|7=>cn_ [1,2,3,10,11,12,35,36,37,51]|8=>cn_ [10]|9=>cn_ [8,9]|10|100005=>cn_ [1,2,3,10,35,36,37]|_=>[],so [vf_ Jf,vf_ Ja,vf_ Ja,vf_ Ja] [vf_ (.own Jt),vf_ Jq] (v4 Ft),CX [Zq3,M5,Zsw,Z2v,Zfu]⟩
def Zo8(f d e c b:Int)(a:List Kb):St:=⟨[(1,vI f),(2,vI d),(3,vI e),(10,vO 0),(35,vO 0),(36,vI c),(37,vI b)],[(0,.arr Jt a)],1⟩
def Ztr(f d e c:Int)(b a:List Kb):St:=⟨[(8,vO 0),(9,vB true)],[(0,.arr Jt a)],1⟩
def Zuz{e c d b l m a}(i:m= λg=>K .ret (Ztr e c d b l g))(j:a= λk h=>K (.exit 0) ((Zo8 e c d b k l).B 38 h))(n f):yB N e c d b l m a n f=LM M9 N 0 100005 n (Zo8 e c d b f l) K:=by subst i j;induction n generalizing f;kernel_rfl;rw[yB];simp only[*];kernel_rfl
def Z07(c:List Kb)(b a di:Int):DN M9 N (c,b,a,di,())=Ft N c b a di:=by
 conv=>rhs;rw[Ft];simp(disch:=exact Ξ) only[Zuz (R:=Unit×(Kw×Ks)) N (CF M9 N [1,1,1,0,1,0])]
 kernel_rfl
def Z08:Gd:=GF M9 func182 (λN d=>Z07 N d.1 d.2.1 d.2.2.1 d.2.2.2.1)
def Z2w:Fn:=⟨f220,WG,so [vf_ Ja,vf_ Ja] [vt_ Jt] (v2 IJ),cg⟩
def Z2x:Gd:=GN Z2w func220
def Z09:Fn:=⟨f183,WG,so [vt_ (.prod Je Ja),vt_ Jm,vf_ Je] [vt_ (.prod Jx Ja),vf_ Jx,vt_ Jt,vf_ Jq] (v3 NJ),CX [Zq1,Z2,Zr3,Il,Zr0,Ta,Z2x,M2,Zrt]⟩
def Z1a:Gd:=GF Z09 func183
def Zu0:Fn:=⟨f137,λ |1=>[.opn 20]|_=>[],so [.box Jl,vf_ Ja,vt_ Jm] [] (v3 Ij),CX [Zyw,Z08,Zns,Z1a]⟩
def Zu1:Gd:=GF Zu0 func137
def Zts:Fn:=⟨f92,WG,so [.rp (TY_Root)] [.vj Jm] (v1 EP),cg⟩
def Zog:Gd:=GN Zts func92
def Z5c:Fn:=⟨f138,WG,so [vt_ Jm,vf_ Je] [vf_ Jx,vf_ Jq] (v2 ze),CX [Z2,NP,Il]⟩
def Tq:Gd:=GF Z5c func138
def Zyy:Fn:=⟨f90,λ |1=>[.opn 14]|_=>[],so [.box Jl,vf_ Ja,vt_ Jk] [] (v3 Ir),CX [Zo7,Zwp,Zuy,Zzy,Zu1,Z2,Zog,Tq]⟩
def Zyz:Gd:=GF Zyy func90
def Zy0:Fn:=⟨f185,WG,so [vt_ (TY_KidRun)] [vf_ Jq] (v1 SZ),cg⟩
def Zy1:Gd:=GN Zy0 func185
def Z4:Fn:=⟨f221,λ |2=>cn_ [0,1,7,8,9]|3=>cn_ [0,1,5,7,8]|4=>cn_ [0,1,5,7,8,16]|5=>cn_ [1,4]|6|100002=>cn_ [0,1,7,8]|_=>[],so [.v (.slice (TY_KidRun)) false,.clos 185 0] [vf_ Ja] (v1 Zq),CX [Zy1]⟩
def Za7(a:List Y_KidRun)(b:Int):St:=⟨[(0,vV (.slice (TY_KidRun)) a),(1,.s (.one (.clos 185 []))),(7,vI (Wi a)),(8,vI b)],[],0⟩
def Zep{h i a}(c:i= λe=>K .ret ⟨[(1,.s (.one (.clos 185 []))),(4,vI e)],[],0⟩)(d:a= λf g=>K (.exit 0) ((Za7 h f).B 9 g))(n b):Zh N h i a n b=LM Z4 N 0 100002 n (Za7 h b) K:=by subst c d;induction n generalizing b;kernel_rfl;rw[Zh];simp only[*];kernel_rfl
def Zfo(a:List Y_KidRun):DN Z4 N (a,())=Zq N a:=by
 conv=>rhs;rw[Zq];simp(disch:=exact Ξ) only[Zep (R:=Unit×Kk) N (CF Z4 N [1,0,1,0])]
 kernel_rfl
def Zfp:Gd:=GF Z4 func221 (λN d=>Zfo N d.1)
def Zev:Fn:=⟨f184,WG,so [.v (.slice (TY_KidRun)) false,.clos 185 0] [vf_ Jq] (v1 SF),CX [Zfp]⟩
def Zew:Gd:=GF Zev func184
def Z1b:Fn:=⟨f139,WG,so [vt_ (TY_Family)] [vf_ Jq] (v1 NK),CX [Zew]⟩
def Z1c:Gd:=GF Z1b func139
def Na:Fn:=⟨f140,λ |5=>cn_ [3,20,21,22,23]|6|7=>cn_ [3,4,5,20,21,22]|8=>cn_ [3,4,5,20,21,22,37]|9|10|100005=>cn_ [3,20,21,22]|_=>[],so [vt_ (TY_Family)] [vf_ Jx] (v1 Fu),CX [Il,Z2]⟩
def Zo9(b:List Y_KidRun)(c d:Int)(a:List Int):St:=⟨[(3,vO 0),(20,vV (.slice (TY_KidRun)) b),(21,vI c),(22,vI d)],[(0,.arr Ja a)],1⟩
def Zu2{b c a}(h:a= λg e f=>K (.exit 0) ((Zo9 b c g f).B 23 e))(n d i):vG N b c a n d i=LM Na N 0 100005 n (Zo9 b c d i) K:=by subst h;induction n generalizing d i;kernel_rfl;rw[vG];simp only[*];kernel_rfl
def Z1d(f1:Y_Family):DN Na N (f1,())=Fu N f1:=by
 conv=>rhs;rw[Fu];simp(disch:=exact Ξ) only[Zu2 (R:=Unit×Ku) N (CF Na N [1,1,1,0,1,0])]
 kernel_rfl
def Z1e:Gd:=GF Na func140 (λN d=>Z1d N d.1)
def Nb:Fn:=⟨f141,λ |3=>cn_ [3,8,9,10,11]|4=>cn_ [3,5,8,9,10]|5|6|100003=>cn_ [3,8,9,10]|_=>[],so [vt_ (TY_Family)] [vf_ (.own Jaf)] (v1 Fv),cg⟩
def Zpa(b:List Kb)(c d:Int)(a:List Kf):St:=⟨[(3,vO 0),(8,vV Jf b),(9,vI c),(10,vI d)],[(0,.arr Jaf a)],1⟩
def Zu3{b c a}(e:a= λg h f=>K (.exit 0) ((Zpa b c g f).B 11 h))(n d i):Bk N b c a n d i=LM Nb N 0 100003 n (Zpa b c d i) K:=by subst e;induction n generalizing d i;kernel_rfl;rw[Bk];simp only[*];kernel_rfl
def Z1f(f1:Y_Family):DN Nb N (f1,())=Fv N f1:=by
 conv=>rhs;rw[Fv];simp(disch:=exact Ξ) only[Zu3 (R:=Unit×(Kad×Unit)) N (CF Nb N [1,1,0,1,0])]
 kernel_rfl
def Z1g:Gd:=GN Nb func141 (λN d=>Z1f N d.1)
def Zy2:Fn:=⟨f91,WG,so [.box Ju] [] (v1 Is),CX [Im,Z1c,Z1e,Z1g,Z2]⟩
def Zy3:Gd:=GF Zy2 func91
def Ztt:Fn:=⟨f94,λ |1000000=>[.unfE 1]|_=>[],so [.boxal Jl 3] [] (v2 Ie),CX [Zq0,Im,Iw,Z2]⟩
def Ztu:Gd:=GF Ztt func94
def Zwt:Fn:=⟨f190,WG,so [vt_ Jae] [vt_ Jd] (v1 Iu),CX [Iw,Z2]⟩
def Zpy:Gd:=GF Zwt func190
def Zs6:Fn:=⟨f222,WG,so [vt_ Jae] [vf_ Ja] (v1 EL),cg⟩
def Znt:Gd:=GN Zs6 func222
def E4:Fn:=⟨f191,λ |4=>cn_ [1,3,38]|5|100004=>cn_ [1,3]|6=>cn_ [1,3,54]|7|12=>cn_ [2]|9=>cn_ [1,56,57,58,59]|10=>cn_ [1,4,5,56,57,58]|11=>cn_ [1,56,57,58,79]|13|100009=>cn_ [1,56,57,58]|_=>[],so [vt_ Jae] [vf_ Jq] (v1 BY),CX [IA,Z6,MW,yW,Znt]⟩
def Zoh(b:Int)(a:Int×Int×Int×Int×Int×List Kf×List Int):St:=⟨[(1,vP 0 0),(3,vI b)],[(0,.box (split Jae a))],1⟩
def Ztv{g h a}(d:h=K .ret ⟨[(2,vB false)],[],0⟩)(e:a= λf c=>K (.exit 0) ((Zoh f g).B 38 c))(n b):yv N g h a n b=LM E4 N 0 100004 n (Zoh b g) K:=by subst d e;induction n generalizing b;kernel_rfl;rw[yv];simp only[*];kernel_rfl
def Zoi(c:List Int)(b:Int)(a:Int×Int×Int×Int×Int×List Kf×List Int):St:=⟨[(1,vP 0 0),(56,vV Je c),(57,vI (Wi a.2.2.2.2.2.2)),(58,vI b)],[(0,.box (split Jae a))],1⟩
def Ztw{g a h i}(c:h=K .ret ⟨[(2,vB false)],[],0⟩)(d:i= λe f=>K (.exit 2) ((Zoi g e a).B 59 f))(n b):vE N g a h i n b=LM E4 N 1 100009 n (Zoi g b a) K:=by subst c d;induction n generalizing b;kernel_rfl;rw[vE];simp only[*];kernel_rfl
def Zzz(c1:Int×Int×Int×Int×Int×List Kf×List Int):DN E4 N (c1,())=BY N c1:=by
 conv=>rhs;rw[BY];simp(disch:=exact Ξ) only[Ztv (R:=Unit×Ks) N (CF E4 N [1,1,0,1,0]),Ztw (R:=Unit×Ks) N (CF E4 N [1,1,1,0,1,0])]
 kernel_rfl
def Zru:Gd:=GF E4 func191 (λN d=>Zzz N d.1)
def Zr4:Fn:=⟨f192,WG,so [.box Jd,vf_ Ja] [] (v2 rq),cg⟩
def Zms:Gd:=GN Zr4 func192
def Zu4:Fn:=⟨f144,WG,so [vt_ Jae] [vt_ Jd,vf_ Jq] (v1 Mi),CX [Zpy,Zru,Zms]⟩
def Zu5:Gd:=GF Zu4 func144
def Z1h:Fn:=⟨f193,WG,so [vt_ Jaa] [vt_ Jah] (v1 ti),cg⟩
def IB:Gd:=GN Z1h func193
def Z5d:Fn:=⟨f194,WG,so [vt_ Jaa,vf_ Ja,vf_ Ja] [vt_ Jah,vf_ Jq] (v3 N8),CX [IB,Cl,yW,IA]⟩
def Z5e:Gd:=GF Z5d func194
def Zsi:Fn:=⟨f197,WG,so [.box Jd,vf_ Ja] [] (v2 Ic),cg⟩
def Zni:Gd:=GN Zsi func197
def Zu6:Fn:=⟨f195,WG,so [.box Jd,vf_ Ja] [] (v2 Bl),CX [Znt,Zni]⟩
def Zu7:Gd:=GF Zu6 func195
def Z5f:Fn:=⟨f196,WG,so [vt_ Jaa] [vt_ Jah,vf_ Ja] (v1 N7),CX [IB,Cl]⟩
def Z5g:Gd:=GF Z5f func196
def Z4i:Fn:=⟨f198,WG,so [vt_ Jaa,vf_ Ja,vf_ Ja,vf_ Ja] [vt_ Jah,vf_ Jq] (v4 N5),CX [IB,Cl,yW,IA,tg]⟩
def Z4j:Gd:=GF Z4i func198
def Z2y:Fn:=⟨f199,WG,so [vt_ Jaa,vf_ Ja,vf_ Ja,vf_ Ja] [vt_ Jah,vf_ Jq] (v4 IK),CX [IB,Cl,yW,IA,Z6]⟩
def Z2z:Gd:=GF Z2y func199
def Zwu:Fn:=⟨f145,WG,so [vt_ Jaa,vt_ Jae] [vt_ Jah,vt_ Jd] (v2 ME),CX [IB,Zpy,Cl,Zru,Z5e,Zu7,Zms,Z5g,Zni,Z4j,Z2z]⟩
def Zwv:Gd:=GF Zwu func145
def Ztx:Fn:=⟨f95,λ |0=>[.opn 13]|_=>[],so [.box Jl,vf_ Ja] [] (v2 If),CX [Zu5,Im,Zwv,Iw]⟩
def Zty:Gd:=GF Ztx func95
def Zww:Fn:=⟨f149,WG,so [vt_ Jt,.box Ja] [vf_ Jq] (v2 EY),cg⟩
def Zpz:Gd:=GN Zww func149
def Z8:Fn:=⟨f202,λ |2=>cn_ [0,1,7,8,9]|3=>cn_ [0,1,5,7,8]|4=>cn_ [0,1,5,7,8,16]|5=>cn_ [1,4]|6|100002=>cn_ [0,1,7,8]|_=>[],so [vf_ Jf,.clos 149 1,.box Ja] [vf_ Ja] (v2 Zv),CX [Zpz]⟩
def Zbd(a:List Kb)(c b:Int):St:=⟨[(0,vV Jf a),(1,.s (.one (.clos 149 [0]))),(7,vI (Wi a)),(8,vI c)],[(0,.box [.val Ja b])],1⟩
def Ze1(c:List Kb)(b a:Int):St:=⟨[(1,.s (.one (.clos 149 [0]))),(4,vI b)],[(0,.box [.val Ja a])],1⟩
def Zfg{j k l}(g:k= λi e=>K .ret (Ze1 j i e))(h:l= λd f a=>K (.exit 0) ((Zbd j d a).B 9 f))(n c b):Zi N j k l n c b=LM Z8 N 0 100002 n (Zbd j c b) K:=by subst g h;induction n generalizing c b;kernel_rfl;rw[Zi];simp only[*];kernel_rfl
def Zf8(a:List Kb)(eF:Int):DN Z8 N (a,eF,())=Zv N a eF:=by
 conv=>rhs;rw[Zv];simp(disch:=exact Ξ) only[Zfg (R:=Kk×Kk) N (CF Z8 N [1,0,1,0])]
 kernel_rfl
def Zf9:Gd:=GF Z8 func202 (λN d=>Zf8 N d.1 d.2.1)
def Z5:Fn:=⟨f148,λ |5=>cn_ [0,1,5,6,19]|6|9|10|100005=>cn_ [0,1,5,6]|7=>cn_ [0,1,5,6,7]|8=>cn_ [0,1,5,6,7,29]|11=>[.view 38]|_=>[],so [vf_ (.own Jt),.clos 149 1,.box Ja] [vf_ (.own Jt)] (v2 Zo),CX [Zf9,Zpz]⟩
def Za8(b c:Int)(d:List Kb)(a:Int):St:=⟨[(0,vO 0),(1,.s (.one (.clos 149 [1]))),(5,vI b),(6,vI c)],[(0,.arr Jt d),(1,.box [.val Ja a])],2⟩
def Ze2{k}(h:k= λi e f g a=>K (.exit 0) ((Za8 i e g a).B 19 f))(n b c d j):Zb N k n b c d j=LM Z5 N 0 100005 n (Za8 b c d j) K:=by subst h;induction n generalizing b c d j;kernel_rfl;rw[Zb];simp only[*];kernel_rfl
def Zfv(a:List Kb)(eF:Int):DN Z5 N (a,eF,())=Zo N a eF:=by
 conv=>rhs;rw[Zo];simp(disch:=exact Ξ) only[Ze2 (R:=Kk×Kak) N (CF Z5 N [1,1,1,0,1,0])]
 kernel_rfl
def Zfw:Gd:=GF Z5 func148 (λN d=>Zfv N d.1 d.2.1)
def Zz0:Fn:=⟨f96,WG,so [vf_ Jf,vf_ Ja] [vf_ (.own Jt)] (v2 Nj),CX [Zq3,M5,Zfw]⟩
def Zz1:Gd:=GF Zz0 func96
def Zwx:Fn:=⟨f46,λ |1=>[.opn 12]|_=>[],so [.box Jl,vf_ Ja,vt_ Jk] [] (v3 Iv),CX [Z6,Im,Zwl,Zyz,Zy3,Zog,Zpw,Ztu,Zty,Zz1,Zqx]⟩
def Zwy:Gd:=GF Zwx func46
def Zsj:Fn:=⟨f156,WG,so [vt_ Jt,.box Ja] [vf_ Jq] (v2 SS),cg⟩
def Zsk:Gd:=GN Zsj func156
def Zy:Fn:=⟨f155,λ |2=>cn_ [0,1,7,8,9]|3=>cn_ [0,1,5,7,8]|4=>cn_ [0,1,5,7,8,16]|5=>cn_ [1,4]|6|100002=>cn_ [0,1,7,8]|_=>[],so [vf_ Jf,.clos 156 1,.box Ja] [vf_ Ja] (v2 Zn),CX [Zsk]⟩
def Za0(a:List Kb)(c b:Int):St:=⟨[(0,vV Jf a),(1,.s (.one (.clos 156 [0]))),(7,vI (Wi a)),(8,vI c)],[(0,.box [.val Ja b])],1⟩
def Zdr(c:List Kb)(b a:Int):St:=⟨[(1,.s (.one (.clos 156 [0]))),(4,vI b)],[(0,.box [.val Ja a])],1⟩
def Zd0{j k l}(g:k= λi e=>K .ret (Zdr j i e))(h:l= λd f a=>K (.exit 0) ((Za0 j d a).B 9 f))(n c b):Zf N j k l n c b=LM Zy N 0 100002 n (Za0 j c b) K:=by subst g h;induction n generalizing c b;kernel_rfl;rw[Zf];simp only[*];kernel_rfl
def Zex(a:List Kb)(eF:Int):DN Zy N (a,eF,())=Zn N a eF:=by
 conv=>rhs;rw[Zn];simp(disch:=exact Ξ) only[Zd0 (R:=Kk×Kk) N (CF Zy N [1,0,1,0])]
 kernel_rfl
def Zey:Gd:=GF Zy func155 (λN d=>Zex N d.1 d.2.1)
def Ztz:Fn:=⟨f100,WG,so [.rp (TY_Family),vf_ Ja] [vf_ Ja] (v2 A2),CX [Zey]⟩
def SQ:Gd:=GF Ztz func100
def Zsl:Fn:=⟨f101,WG,so [.box Jy,vf_ Ja] [] (v2 yq),CX [Z2]⟩
def Znj:Gd:=GF Zsl func101
def Zu8:Fn:=⟨f150,λ |1=>[.opn 18]|_=>[],so [.box Jy,vf_ Ja,vt_ Jm,vt_ Jaa] [] (v4 Mf),CX [Tp,SQ,Znj,Zrs,Zqz]⟩
def Zu9:Gd:=GF Zu8 func150
def Zt0:Fn:=⟨f151,λ |5=>[.opn 28]|_=>[],so [.box Jh,vf_ Jc] [] (v2 Mn),CX [Z2,Iw,Tl]⟩
def Zt1:Gd:=GF Zt0 func151
def Zwz:Fn:=⟨f98,λ |1=>[.opn 16]|18=>[.nest 128 (.prod Ja (.prod Ja Jx))]|_=>[],so [.box Jy,vf_ Ja,vf_ Jc,vt_ Jaa] [] (v4 MA),CX [Zu9,Zt1,Z2,Tq]⟩
def Zw0:Gd:=GF Zwz func98
def Za9(N:Nat):Sig:=Sig.of [.mut Jt,.clos 154 0] [] (λd=>SG N d.1)
def Ze3:Od Tryz.prog 154 Jt F5 cfE:=by
  intro G x y l m w j k h i;obtain⟨_,_,rfl,a,_,_,rfl,b,d⟩:=h;obtain⟨_,_,rfl,e,_,_,rfl,f,g⟩:=i;simp only[Enc]at a b d e f g;subst a b d e f g;simp only[hZ,p4]
  go_enter Tryz.func154,Tryz.ntmps154
  go_wp2
  rw[Rx (DF j) (DF k) (c:=cfE x y) rfl]
  go_wp2
  go_ret
  exact⟨rfl,QC _ _ _⟩
def Ze4(N:Nat):GW 153 (Za9 N):=⟨CQ Tryz.func153 (show sj Tryz.f153=true by kernel_rfl),Vy sortFE (e:=.prod Ja Jaf) rfl (by decide) Tryz.isAgg149 Tryz.sizeOf149 (enters_of Tryz.func154 (by kernel_rfl) rfl) WDD Ze3 N⟩
def Ze5:Gd:=⟨153,Za9,Ze4⟩
def EJ:Fn:=⟨f99,λ |0=>[.opn 16]|3=>cn_ [0,1,4,28,29,30,31]|4=>cn_ [0,1,4,6,28,29,30]|5=>cn_ [0,1,4,6,7,28,29,30]|6=>cn_ [0,1,4,7,8,28,29,30]|7=>cn_ [0,1,4,7,8,28,29,30,48]|8|9|10|100003=>cn_ [0,1,4,28,29,30]|13=>cn_ [0,1,4,75,76,77,78]|14=>cn_ [0,1,4,10,75,76,77]|15=>cn_ [0,1,4,10,75,76,77,83]|16|17|100013=>cn_ [0,1,4,75,76,77]|_=>[],so [.box Jy,vf_ Ja] [] (v2 EN),CX [N3,SQ,Ze5]⟩
def Zmb(v y z b c d:Int)(A:Bool)(f e C j g B:Int)(x:Bool)(r l h w:Int)(D:List Kf)(a:List Int)(m:List Kf)(s:List Kb)(o:List Int)(n:List Kf)(t:List Y_KidRun)(p:Nat)(k:List Int)(u:List Kb)(q:List Kf)(i:List Km):St:=⟨[(0,vP 0 0),(1,vI v),(4,vP 1 0),(28,vO 2),(29,vI y),(30,vI z)],[(0,.box [.val Ja b,.val Ja c,.val Ja d,.val Jq A,.own 3,.own 4,.own 5,.own 6,.own 7,.own 8]),(1,.box [.val Ja f,.val Ja e,.val Ja C,.val Ja j,.val Ja g,.val Ja B,.own 9,.own 10,.own 11,.own 12,.val Jq x,.val Ja r,.val Ja l,.val Ja h,.val Ja w]),(2,.arr Jaf D),(3,.arr Ja a),(4,.arr Jaf m),(5,.arr Jt s),(6,.arr Ja o),(7,.arr Jaf n),(8,.hole Jh t p 1),(9,.arr Ja k),(10,.arr Jt u),(11,.arr Jaf q),(12,.arr (.prod Ja (.prod Ja Jx)) i)],13⟩
def Zrx{w z b c d F f e I j g H y s l h x J a m p o u q k v r i G}(C:G= λE D B=>K (.exit 0) ((Zmb w z E b c d F f e I j g H y s l h x J a m B p o u q k v r i).B 31 D))(n A t):vv N w z b c d F f e I j g H y s l h x J a m p o u q k v r i G n A t=LM EJ N 0 100003 n (Zmb w z A b c d F f e I j g H y s l h x J a m t p o u q k v r i) K:=by subst C;induction n generalizing A t;kernel_rfl;rw[vv];simp only[*];kernel_rfl
def Zmc(q p C b l m:Int)(n:Bool)(o h i j k r:Int)(s:Bool)(t u v w:Int)(a:List Kb)(f:List Int)(x:List Kf)(y:List Kb)(z:List Int)(B:List Kf)(g:List Y_KidRun)(A:Nat)(c:List Int)(d:List Kf)(e:List Km):St:=⟨[(0,vP 0 0),(1,vI q),(4,vP 1 0),(75,vO 2),(76,vI p),(77,vI C)],[(0,.box [.val Ja b,.val Ja l,.val Ja m,.val Jq n,.own 3,.own 4,.own 5,.own 6,.own 7,.own 8]),(1,.box [.val Ja o,.val Ja h,.val Ja i,.val Ja j,.val Ja k,.val Ja r,.own 9,.own 2,.own 10,.own 11,.val Jq s,.val Ja t,.val Ja u,.val Ja v,.val Ja w]),(2,.arr Jt a),(3,.arr Ja f),(4,.arr Jaf x),(5,.arr Jt y),(6,.arr Ja z),(7,.arr Jaf B),(8,.hole Jh g A 1),(9,.arr Ja c),(10,.arr Jaf d),(11,.arr (.prod Ja (.prod Ja Jx)) e)],12⟩
def Zry{r q b l m o p h i j k s t u v w x a f y z A g B c d e I}(G:I= λF D E=>K (.exit 2) ((Zmc r q F b l m o p h i j k s t u v w x a f y z A E g B c d e).B 78 D))(n H C):ym N r q b l m o p h i j k s t u v w x a f y z A g B c d e I n H C=LM EJ N 1 100013 n (Zmc r q H b l m o p h i j k s t u v w x a f y z A C g B c d e) K:=by subst G;induction n generalizing H C;kernel_rfl;rw[ym];simp only[*];kernel_rfl
def Zt2(f1:Y_Family)(k2:Int):DN EJ N (f1,k2,())=EN N f1 k2:=by
 conv=>rhs;rw[EN];simp(disch:=exact Ξ) only[Zrx (R:=(Y_Family×Unit)×Unit) N (CF EJ N [1,1,0,1,0]),Zry (R:=(Y_Family×Unit)×Unit) N (CF EJ N [1,1,1,1,0,1,0])]
 kernel_rfl
def Zt3:Gd:=GF EJ func99 (λN d=>Zt2 N d.1 d.2.1)
def Zva:Fn:=⟨f47,λ |2=>[.opn 20]|_=>[],so [.box Jy,vf_ Ja,vf_ Jc,vt_ Jaa] [] (v4 Mg),CX [Zw0,Zt3,SQ,Znj]⟩
def Zvb:Gd:=GF Zva func47
def Zy4:Fn:=⟨f19,λ |3=>[.unfE 6]|_=>[],so [.box Jl,vt_ Jr,vt_ Jt] [] (v3 ES),CX [Z6,Zwy,Zvb]⟩
def Zq4:Gd:=GF Zy4 func19
def NS:Fn:=⟨f17,λ |3=>[.nest 21 Ju]|6=>cn_ [1,2,3,32,33,34,35]|7=>cn_ [1,2,3,5,32,33,34]|8|9=>cn_ [1,2,3,32,33,34]|100006=>[.adoptC 3 6 Jt,.adoptC 3 8 Ji,.canon [1,2,3,32,33,34]]|_=>[],so [vt_ Jr] [vt_ Jl] (v1 F2),CX [MJ,Zyk,Z2p,Zq4]⟩
def Zrv(g:List Kb)(h:Int)(i:Kg×List Kq×List Kb)(a f e k:Int)(b:List Kb)(c:List Int)(d:List Kb)(l:List Y_Root)(j:List Kr):St:=⟨[(1,vP 0 0),(2,vP 1 0),(3,vP 2 0),(32,vV Jf g),(33,vI (Wi i.2.2)),(34,vI h)],[(0,.box [.val Je i.1.1,.val Je i.1.2.1,.val Ja i.1.2.2,.val Jz i.2.1,.val Jf i.2.2]),(1,.box [.val Ja (0:Int),.val Ja (0:Int),.val Ja (0:Int),.nils,.nils,.val Ja (0:Int),.nils,.nils,.nils]),(2,.box [.val Ja a,.val Ja f,.val Ja e,.own 3,.own 4,.val Ja k,.own 5,.own 6,.own 7]),(3,.arr Jt b),(4,.arr Ja c),(5,.arr Jt d),(6,.arr Ju l),(7,.arr Ji j)],8⟩
def Zz2{h b w}(m:w= λu g r p s t k q l j o=>K (.exit 0) ((Zrv h u b r p s t k q l j o).B 35 g))(n i a f e y v c d z x):yT N h b w n i a f e y v c d z x=LM NS N 0 100006 n (Zrv h i b a f e y v c d z x) K:=by subst m;induction n generalizing i a f e y v c d z x;kernel_rfl;rw[yT];simp only[*];kernel_rfl
def Z5h(a:Kg×List Kq×List Kb):DN NS N (a,())=F2 N a:=by
 conv=>rhs;rw[F2];simp(disch:=exact Ξ) only[Zz2 (R:=Unit×(Y_World×Unit)) N (CF NS N [1,1,1,1,0,1,0])]
 kernel_rfl
def Z5i:Gd:=GF NS func17 (λN d=>Z5h N d.1)
def Z20:Fn:=⟨f44,WG,so [vt_ (TY_Root)] [vf_ Jq] (v1 Tn),cg⟩
def Z21:Gd:=GN Z20 func44
def Z9:Fn:=⟨f87,λ |2=>cn_ [0,1,7,8,9]|3=>cn_ [0,1,5,7,8]|4=>cn_ [0,1,5,7,8,16]|5=>cn_ [1,4]|6|100002=>cn_ [0,1,7,8]|_=>[],so [.v (.slice (TY_Root)) false,.clos 44 0] [vf_ Ja] (v1 Z1),CX [Z21]⟩
def Zbs(a:List Y_Root)(b:Int):St:=⟨[(0,vV (.slice (TY_Root)) a),(1,.s (.one (.clos 44 []))),(7,vI (Wi a)),(8,vI b)],[],0⟩
def Zga{h i a}(c:i= λe=>K .ret ⟨[(1,.s (.one (.clos 44 []))),(4,vI e)],[],0⟩)(d:a= λf g=>K (.exit 0) ((Zbs h f).B 9 g))(n b):Zl N h i a n b=LM Z9 N 0 100002 n (Zbs h b) K:=by subst c d;induction n generalizing b;kernel_rfl;rw[Zl];simp only[*];kernel_rfl
def Zhb(a:List Y_Root):DN Z9 N (a,())=Z1 N a:=by
 conv=>rhs;rw[Z1];simp(disch:=exact Ξ) only[Zga (R:=Unit×Kk) N (CF Z9 N [1,0,1,0])]
 kernel_rfl
def Zhc:Gd:=GF Z9 func87 (λN d=>Zhb N d.1)
def Zgo:Fn:=⟨f43,WG,so [.v (.slice (TY_Root)) false,.clos 44 0] [vf_ Jq] (v1 SI),CX [Zhc]⟩
def Zgp:Gd:=GF Zgo func43
def Z5j:Fn:=⟨f18,WG,so [vt_ (TY_World)] [vf_ Jq] (v1 IM),CX [Zgp]⟩
def Zv1:Gd:=GF Z5j func18
def yM:Fn:=⟨f6,λ |5=>cn_ [1,2,4,5,21]|6|100005=>cn_ [1,2,4,5]|7|16|100008=>cn_ [1,2,4,5,25,26,27]|8=>cn_ [1,2,4,5,25,26,27,28]|9|10=>cn_ [1,2,4,5,6,7,25,26,27]|11|14|15|100012=>cn_ [1,2,4,5,6,25,26,27,38,39]|12=>cn_ [1,2,4,5,6,25,26,27,38,39,40]|13=>cn_ [1,2,4,5,6,8,25,26,27,38,39]|_=>[],so [vt_ Jr] [vt_ (TY_World),vf_ Ja] (v1 yU),CX [MJ,Z5i,Zv1,Zq4]⟩
def Zoj(e b:Int)(d:List Kq)(oE c:Int)(a:Kg×List Kq×List Kb)(j k l m f g h i:Int)(n:List Kb)(o:List Int)(p:List Kb)(q:List Y_Root)(r:List Kr):St:=⟨[(1,vP 0 0),(2,vP 1 0),(4,vP 2 0),(5,vI e),(6,vI b),(25,vV Jz d),(26,vI oE),(27,vI b),(38,vI (Wi (List.getD d (Int.toNat b) (([]:List Ka),([]:List Kaf))).2)),(39,vI c)],[(0,.box [.val Je a.1.1,.val Je a.1.2.1,.val Ja a.1.2.2,.val Jz a.2.1,.val Jf a.2.2]),(1,.box [.val Ja j,.val Ja k,.val Ja l,.nils,.nils,.val Ja m,.nils,.nils,.nils]),(2,.box [.val Ja f,.val Ja g,.val Ja h,.own 3,.own 4,.val Ja i,.own 5,.own 6,.own 7]),(3,.arr Jt n),(4,.arr Ja o),(5,.arr Jt p),(6,.arr Ju q),(7,.arr Ji r)],8⟩
def Zt4{b l m oE c h i j k a}(y:a= λt u A B C E z v w x D=>K (.exit 4) ((Zoj b l m oE t c h i j k A B C E z v w x D).B 40 u))(n F d e f g o p q r s):A5 N b l m oE c h i j k a n F d e f g o p q r s=LM yM N 2 100012 n (Zoj b l m oE F c h i j k d e f g o p q r s) K:=by subst y;induction n generalizing F d e f g o p q r s;kernel_rfl;rw[A5];simp only[*];kernel_rfl
def Zok(b:Int)(i:List Kq)(d:Int)(p:Kg×List Kq×List Kb)(k l h m n o j q:Int)(c:List Kb)(g:List Int)(a:List Kb)(e:List Y_Root)(f:List Kr):St:=⟨[(1,vP 0 0),(2,vP 1 0),(4,vP 2 0),(5,vI b),(25,vV Jz i),(26,vI (Wi p.2.1)),(27,vI d)],[(0,.box [.val Je p.1.1,.val Je p.1.2.1,.val Ja p.1.2.2,.val Jz p.2.1,.val Jf p.2.2]),(1,.box [.val Ja k,.val Ja l,.val Ja h,.nils,.nils,.val Ja m,.nils,.nils,.nils]),(2,.box [.val Ja n,.val Ja o,.val Ja j,.own 3,.own 4,.val Ja q,.own 5,.own 6,.own 7]),(3,.arr Jt c),(4,.arr Ja g),(5,.arr Jt a),(6,.arr Ju e),(7,.arr Ji f)],8⟩
def Zt5{C i g k l h m D}(t:D= λq r s v w x y z A B u=>K (.exit 2) ((Zok C i q g k l h m s v w x y z A B u).B 28 r))(n c o p j E b f a d e):yo N C i g k l h m D n c o p j E b f a d e=LM yM N 1 100008 n (Zok C i c g k l h m o p j E b f a d e) K:=by subst t;induction n generalizing c o p j E b f a d e with|zero=>kernel_rfl|succ n ih=>rw[yo];simp(disch:=exact Ξ) only[ih,Zt4 N (CL yM N 1 100008 [1,1,0,0,1,1,1,0] n K)];kernel_rfl
def Zol(g:Int)(k:Kg×List Kq×List Kb)(e i f a:Int)(b:List Kb)(d:List Int)(j:List Kb)(c:List Y_Root)(h:List Kr):St:=⟨[(1,vP 0 0),(2,vP 1 0),(4,vP 2 0),(5,vI g)],[(0,.box [.val Je k.1.1,.val Je k.1.2.1,.val Ja k.1.2.2,.val Jz k.2.1,.val Jf k.2.2]),(1,.box [.val Ja (0:Int),.val Ja (0:Int),.val Ja (0:Int),.nils,.nils,.val Ja (0:Int),.nils,.nils,.nils]),(2,.box [.val Ja e,.val Ja i,.val Ja f,.own 3,.own 4,.val Ja a,.own 5,.own 6,.own 7]),(3,.arr Jt b),(4,.arr Ja d),(5,.arr Jt j),(6,.arr Ju c),(7,.arr Ji h)],8⟩
def Zt6{e y}(k:y= λl r s t u m o p q v w=>K (.exit 0) ((Zol l e s t u m o p q v w).B 21 r))(n g d i f a x c j b h):yp N e y n g d i f a x c j b h=LM yM N 0 100005 n (Zol g e d i f a x c j b h) K:=by subst k;induction n generalizing g d i f a x c j b h with|zero=>kernel_rfl|succ n ih=>rw[yp];simp(disch:=exact Ξ) only[ih,Zt5 N (CL yM N 0 100005 [1,0,1,1,0] n K)];kernel_rfl
def Zz3(a:Kg×List Kq×List Kb):DN yM N (a,())=yU N a:=by
 conv=>rhs;rw[yU];simp(disch:=exact Ξ) only[Zt6 (R:=Unit×(Y_World×Kk)) N (CF yM N [1,1,1,1,0,0])]
 kernel_rfl
def Zz4:Gd:=GF yM func6 (λN d=>Zz3 N d.1)
def Z5k:Fn:=⟨f50,WG,so [vf_ Ja,vf_ Ja,vf_ Ja] [vf_ Jq] (v3 ir),cg⟩
def tD:Gd:=GN Z5k func50
def Z4k:Fn:=⟨f49,WG,so [vf_ Ja] [vf_ Jq] (v1 tE),CX [tD]⟩
def Fz:Gd:=GF Z4k func49
def Nw:Fn:=⟨f48,λ |4=>cn_ [0,3,10]|5|100004=>cn_ [0,3]|6=>cn_ [0,3,18]|7=>cn_ [2]|_=>[],so [vf_ Je] [vf_ Jq] (v1 tq),CX [Fz]⟩
def Zp0(b:List Int)(a:Int):St:=⟨[(0,vV Je b),(3,vI a)],[],0⟩
def Zw1{b h a}(c:h=K .ret ⟨[(2,vB false)],[],0⟩)(d:a= λe f=>K (.exit 0) ((Zp0 b e).B 10 f))(n g):A6 N b h a n g=LM Nw N 0 100004 n (Zp0 b g) K:=by subst c d;induction n generalizing g;kernel_rfl;rw[A6];simp only[*];kernel_rfl
def Z22(l1:List Int):DN Nw N (l1,())=tq N l1:=by
 conv=>rhs;rw[tq];simp(disch:=exact Ξ) only[Zw1 (R:=Unit×Ks) N (CF Nw N [1,1,0,1,0])]
 kernel_rfl
def IG:Gd:=GF Nw func48 (λN d=>Z22 N d.1)
def MK:Fn:=⟨f20,λ |4=>cn_ [1,3,24]|5|100004=>cn_ [1,3]|6=>cn_ [1,3,33]|7=>cn_ [2]|_=>[],so [vt_ Jj] [vf_ Jq] (v1 vJ),CX [IG,Fz,tD]⟩
def Zom(b:Int)(a:List Int×List Int×Int):St:=⟨[(1,vP 0 0),(3,vI b)],[(0,.box [.val Je a.1,.val Je a.2.1,.val Ja a.2.2])],1⟩
def Zt7{g h a}(c:h=K .ret ⟨[(2,vB false)],[],0⟩)(d:a= λe f=>K (.exit 0) ((Zom e g).B 24 f))(n b):yt N g h a n b=LM MK N 0 100004 n (Zom b g) K:=by subst c d;induction n generalizing b;kernel_rfl;rw[yt];simp only[*];kernel_rfl
def Zz5(a:List Int×List Int×Int):DN MK N (a,())=vJ N a:=by
 conv=>rhs;rw[vJ];simp(disch:=exact Ξ) only[Zt7 (R:=Unit×Ks) N (CF MK N [1,1,0,1,0])]
 kernel_rfl
def ML:Gd:=GF MK func20 (λN d=>Zz5 N d.1)
def Z4l:Fn:=⟨f157,WG,so [vf_ Ja] [vf_ Jq] (v1 o8),CX [tD]⟩
def Z4m:Gd:=GF Z4l func157
def Z23:Fn:=⟨f105,WG,so [vf_ Ja] [vf_ Jq] (v1 tv),CX [tD]⟩
def Tf:Gd:=GF Z23 func105
def Z5l:Fn:=⟨f102,WG,so [vt_ Jm] [vf_ Jq] (v1 Cy),CX [Z4m,Fz,Tf,tD]⟩
def Tr:Gd:=GF Z5l func102
def Nx:Fn:=⟨f103,λ |6=>cn_ [0,5,6,7,24]|7|9|11|100006=>cn_ [0,5,6,7]|8=>cn_ [0,5,6,7,32]|10=>cn_ [0,5,6,7,40]|12=>cn_ [0,5,6,7,44]|13=>cn_ [4]|_=>[],so [vf_ Jc,vf_ Ja] [vf_ Jq] (v2 FF),cg⟩
def Zp1(a:List Ka)(d b c:Int):St:=⟨[(0,vV Jc a),(5,vI d),(6,vI b),(7,vI c)],[],0⟩
def Zw2{j d k a}(f:k=K .ret ⟨[(4,vB false)],[],0⟩)(g:a= λe h i=>K (.exit 0) ((Zp1 j d e h).B 24 i))(n b c):rc N j d k a n b c=LM Nx N 0 100006 n (Zp1 j d b c) K:=by subst f g;induction n generalizing b c;kernel_rfl;rw[rc];simp only[*];kernel_rfl
def Z24(a:List Ka)(i2:Int):DN Nx N (a,i2,())=FF N a i2:=by
 conv=>rhs;rw[FF];simp(disch:=exact Ξ) only[Zw2 (R:=Unit×Ks) N (CF Nx N [1,1,1,1,0,1,0])]
 kernel_rfl
def Z25:Gd:=GN Nx func103 (λN d=>Z24 N d.1 d.2.1)
def Ny:Fn:=⟨f51,λ |6=>cn_ [0,3,4,5,12]|7|12|14|19|100006=>cn_ [0,3,4,5]|8=>cn_ [0,3,4,5,20]|9|17|21|23=>cn_ [2]|10=>cn_ [0,3,4,5,25]|11=>cn_ [0,3,4,5,25,26]|13=>cn_ [0,3,4,5,25,30]|15=>cn_ [0,3,4,5,25,34]|16=>cn_ [0,3,4,5,39]|18=>cn_ [0,3,4,5,40]|20=>cn_ [0,3,4,5,49]|22=>cn_ [0,3,4,5,51]|_=>[],so [vf_ Jc] [vf_ Jq] (v1 Cg),CX [Tr,Z25]⟩
def Zp2(b:List Ka)(c a d:Int):St:=⟨[(0,vV Jc b),(3,vI c),(4,vI a),(5,vI d)],[],0⟩
def Zw3{b l a}(h:l=K .ret ⟨[(2,vB false)],[],0⟩)(i:a= λf j g e=>K (.exit 0) ((Zp2 b f j g).B 12 e))(n c k d):rj N b l a n c k d=LM Ny N 0 100006 n (Zp2 b c k d) K:=by subst h i;induction n generalizing c k d;kernel_rfl;rw[rj];simp only[*];kernel_rfl
def Z26(ad:List Ka):DN Ny N (ad,())=Cg N ad:=by
 conv=>rhs;rw[Cg];simp(disch:=exact Ξ) only[Zw3 (R:=Unit×Ks) N (CF Ny N [1,1,1,1,0,1,0])]
 kernel_rfl
def Zsx:Gd:=GF Ny func51 (λN d=>Z26 N d.1)
def Nc:Fn:=⟨f52,λ |2=>cn_ [0,3,7]|3|100002=>cn_ [0,3]|4=>cn_ [0,3,15]|5=>cn_ [2]|_=>[],so [vf_ Jc] [vf_ Jq] (v1 Cd),cg⟩
def Zpc(a:List Ka)(b:Int):St:=⟨[(0,vV Jc a),(3,vI b)],[],0⟩
def Zvf{g h a}(c:h=K .ret ⟨[(2,vB true)],[],0⟩)(d:a= λe f=>K (.exit 0) ((Zpc g e).B 7 f))(n b):AT N g h a n b=LM Nc N 0 100002 n (Zpc g b) K:=by subst c d;induction n generalizing b;kernel_rfl;rw[AT];simp only[*];kernel_rfl
def Z1i(ad:List Ka):DN Nc N (ad,())=Cd N ad:=by
 conv=>rhs;rw[Cd];simp(disch:=exact Ξ) only[Zvf (R:=Unit×Ks) N (CF Nc N [1,0,1,0])]
 kernel_rfl
def Zr5:Gd:=GN Nc func52 (λN d=>Z1i N d.1)
def Z1j:Fn:=⟨f104,WG,so [vt_ Jm] [vf_ Ja] (v1 rr),CX [Tr]⟩
def Z1k:Gd:=GF Z1j func104
def Nq:Fn:=⟨f53,λ |4=>cn_ [0,3,14]|5|100004=>cn_ [0,3]|6=>cn_ [0,3,22]|7=>cn_ [2]|_=>[],so [vf_ Jc] [vf_ Jq] (v1 Cv),CX [Zsx,Zr5,Z1k]⟩
def Zq5(a:List Ka)(b:Int):St:=⟨[(0,vV Jc a),(3,vI b)],[],0⟩
def Zy5{g h a}(c:h=K .ret ⟨[(2,vB false)],[],0⟩)(d:a= λe f=>K (.exit 0) ((Zq5 g e).B 14 f))(n b):Bv N g h a n b=LM Nq N 0 100004 n (Zq5 g b) K:=by subst c d;induction n generalizing b;kernel_rfl;rw[Bv];simp only[*];kernel_rfl
def Z4n(ad:List Ka):DN Nq N (ad,())=Cv N ad:=by
 conv=>rhs;rw[Cv];simp(disch:=exact Ξ) only[Zy5 (R:=Unit×Ks) N (CF Nq N [1,1,0,1,0])]
 kernel_rfl
def Z4o:Gd:=GF Nq func53 (λN d=>Z4n N d.1)
def Nz:Fn:=⟨f21,λ |4=>cn_ [1,3,28]|5|100004=>cn_ [1,3]|6=>cn_ [1,3,38]|7=>cn_ [2]|_=>[],so [vt_ Jk] [vf_ Jq] (v1 y9),CX [Zsx,Zr5,Z4o]⟩
def Zp3(b:Int)(a:List Ka×List Kaf):St:=⟨[(1,vP 0 0),(3,vI b)],[(0,.box [.val Jc a.1,.val Jab a.2])],1⟩
def Zw5{g h a}(c:h=K .ret ⟨[(2,vB false)],[],0⟩)(d:a= λe f=>K (.exit 0) ((Zp3 e g).B 28 f))(n b):yK N g h a n b=LM Nz N 0 100004 n (Zp3 b g) K:=by subst c d;induction n generalizing b;kernel_rfl;rw[yK];simp only[*];kernel_rfl
def Z27(p1:List Ka×List Kaf):DN Nz N (p1,())=y9 N p1:=by
 conv=>rhs;rw[y9];simp(disch:=exact Ξ) only[Zw5 (R:=Unit×Ks) N (CF Nz N [1,1,0,1,0])]
 kernel_rfl
def Zsy:Gd:=GF Nz func21 (λN d=>Z27 N d.1)
def MM:Fn:=⟨f7,λ |4=>cn_ [1,3,24]|5|100004=>cn_ [1,3]|6=>cn_ [1,3,33]|7=>cn_ [2]|_=>[],so [vt_ Jr] [vf_ Jq] (v1 yR),CX [ML,Zsy]⟩
def Zon(b:Int)(a:Kg×List Kq×List Kb):St:=⟨[(1,vP 0 0),(3,vI b)],[(0,.box [.val Je a.1.1,.val Je a.1.2.1,.val Ja a.1.2.2,.val Jz a.2.1,.val Jf a.2.2])],1⟩
def Zt9{a g h}(b:g=K .ret ⟨[(2,vB false)],[],0⟩)(c:h= λd e=>K (.exit 0) ((Zon d a).B 24 e))(n f):yu N a g h n f=LM MM N 0 100004 n (Zon f a) K:=by subst b c;induction n generalizing f;kernel_rfl;rw[yu];simp only[*];kernel_rfl
def Zz6(a:Kg×List Kq×List Kb):DN MM N (a,())=yR N a:=by
 conv=>rhs;rw[yR];simp(disch:=exact Ξ) only[Zt9 (R:=Unit×Ks) N (CF MM N [1,1,0,1,0])]
 kernel_rfl
def Tc:Gd:=GF MM func7 (λN d=>Zz6 N d.1)
def NA:Fn:=⟨f55,λ |4=>cn_ [0,3,10]|5|100004=>cn_ [0,3]|6=>cn_ [0,3,28]|7=>cn_ [2]|_=>[],so [vf_ Jv] [vf_ Jq] (v1 rD),CX [Tf,Fz]⟩
def Zp4(b:List Kf)(a:Int):St:=⟨[(0,vV Jv b),(3,vI a)],[],0⟩
def Zw6{b h a}(c:h=K .ret ⟨[(2,vB false)],[],0⟩)(d:a= λe f=>K (.exit 0) ((Zp4 b e).B 10 f))(n g):A9 N b h a n g=LM NA N 0 100004 n (Zp4 b g) K:=by subst c d;induction n generalizing g;kernel_rfl;rw[A9];simp only[*];kernel_rfl
def Z28(l1:List Kf):DN NA N (l1,())=rD N l1:=by
 conv=>rhs;rw[rD];simp(disch:=exact Ξ) only[Zw6 (R:=Unit×Ks) N (CF NA N [1,1,0,1,0])]
 kernel_rfl
def IH:Gd:=GF NA func55 (λN d=>Z28 N d.1)
def Fl:Fn:=⟨f54,λ |4=>cn_ [0,3,11]|5|100004=>cn_ [0,3]|6=>cn_ [0,3,38]|7|12=>cn_ [2]|8|10|100009=>cn_ [0,3,4]|9=>cn_ [0,3,4,41]|11=>cn_ [0,3,4,54]|_=>[],so [vf_ Jad] [vf_ Jq] (v1 za),CX [tD,IH]⟩
def Zp5(c:List Kr)(a b:Int):St:=⟨[(0,vV Jad c),(3,vI a),(4,vI b)],[],0⟩
def Zw7{d h i a}(f:i=K .ret ⟨[(2,vB false)],[],0⟩)(g:a= λb e=>K (.exit 2) ((Zp5 d h b).B 41 e))(n c):Bh N d h i a n c=LM Fl N 1 100009 n (Zp5 d h c) K:=by subst f g;induction n generalizing c;kernel_rfl;rw[Bh];simp only[*];kernel_rfl
def Zp6(b:List Kr)(a:Int):St:=⟨[(0,vV Jad b),(3,vI a)],[],0⟩
def Zw8{b h a}(d:h=K .ret ⟨[(2,vB false)],[],0⟩)(e:a= λf c=>K (.exit 0) ((Zp6 b f).B 11 c))(n g):Bi N b h a n g=LM Fl N 0 100004 n (Zp6 b g) K:=by subst d e;induction n generalizing g with|zero=>kernel_rfl|succ n ih=>rw[Bi];simp(disch:=exact Ξ) only[ih,Zw7 N (CL Fl N 0 100004 [1,0,0,1,1,0] n K)];kernel_rfl
def Z29(l1:List Kr):DN Fl N (l1,())=za N l1:=by
 conv=>rhs;rw[za];simp(disch:=exact Ξ) only[Zw8 (R:=Unit×Ks) N (CF Fl N [1,1,0,1,0])]
 kernel_rfl
def Th:Gd:=GF Fl func54 (λN d=>Z29 N d.1)
def E7:Fn:=⟨f106,λ |5=>cn_ [0,3,4,16]|6=>cn_ [0,3,4,5]|7|9|11|100008=>cn_ [0,3,4,5,6]|8=>cn_ [0,3,4,5,6,20]|10=>cn_ [0,3,4,5,6,38]|12=>cn_ [0,3,5]|13|100005=>cn_ [0,3,4]|_=>[],so [vf_ Jad] [vf_ Jx] (v1 FK),CX [Th]⟩
def Zp7(e:List Kr)(b c d:Int)(a:List Int):St:=⟨[(0,vV Jad e),(3,vO 0),(4,vI b),(5,vI c),(6,vI d)],[(0,.arr Ja a)],1⟩
def Zw9{e b j a}(g:a= λi h f=>K (.exit 2) ((Zp7 e b i h j).B 20 f))(n c d):sX N e b j a n c d=LM E7 N 1 100008 n (Zp7 e b c d j) K:=by subst g;induction n generalizing c d;kernel_rfl;rw[sX];simp only[*];kernel_rfl
def Zp8(b:List Kr)(a:Int)(c:List Int):St:=⟨[(0,vV Jad b),(3,vO 0),(4,vI a)],[(0,.arr Ja c)],1⟩
def Zxa{b a}(e:a= λg f d=>K (.exit 0) ((Zp8 b g d).B 16 f))(n h c):BO N b a n h c=LM E7 N 0 100005 n (Zp8 b h c) K:=by subst e;induction n generalizing h c with|zero=>kernel_rfl|succ n ih=>rw[BO];simp(disch:=exact Ξ) only[ih,Zw9 N (CL E7 N 0 100005 [1,0,1,0,1,0] n K)];kernel_rfl
def Z3a(l1:List Kr):DN E7 N (l1,())=FK N l1:=by
 conv=>rhs;rw[FK];simp(disch:=exact Ξ) only[Zxa (R:=Unit×Ku) N (CF E7 N [1,1,1,1,0,0])]
 kernel_rfl
def Z3b:Gd:=GF E7 func106 (λN d=>Z3a N d.1)
def Nd:Fn:=⟨f107,λ |5=>cn_ [1,5,6,22]|6|7|100005=>cn_ [1,5,6]|_=>[],so [vf_ Je,vf_ Jv] [vf_ Jx] (v2 vU),CX [IG,IH]⟩
def Zpe(b:List Kf)(a:Int)(c:List Int):St:=⟨[(1,vV Jv b),(5,vO 0),(6,vI a)],[(0,.arr Ja c)],1⟩
def Zvk{b a}(e:a= λf g d=>K (.exit 0) ((Zpe b f d).B 22 g))(n h c):Bn N b a n h c=LM Nd N 0 100005 n (Zpe b h c) K:=by subst e;induction n generalizing h c;kernel_rfl;rw[Bn];simp only[*];kernel_rfl
def Z1l(a:List Int)(l2:List Kf):DN Nd N (a,l2,())=vU N a l2:=by
 conv=>rhs;rw[vU];simp(disch:=exact Ξ) only[Zvk (R:=Unit×Ku) N (CF Nd N [1,1,1,0,1,0])]
 kernel_rfl
def Zr6:Gd:=GF Nd func107 (λN d=>Z1l N d.1 d.2.1)
def Fa:Fn:=⟨f56,λ |6=>cn_ [1,2,7,8,9,36]|7|100006=>cn_ [1,2,7,8,9]|8|10|12|100009=>cn_ [1,2,7,8,9,10]|9=>cn_ [1,2,7,8,9,10,42]|11=>cn_ [1,2,7,8,9,10,54]|_=>[],so [vf_ Je,vf_ Jad,vf_ Ja] [vf_ Jx] (v3 Cb),CX [IG,Th,Z3b,Zr6]⟩
def Zpf(b:List Kr)(f e d:Int)(c a:List Int):St:=⟨[(1,vV Jad b),(2,vI f),(7,vO 0),(8,vO 1),(9,vI e),(10,vI d)],[(0,.arr Ja c),(1,.arr Ja a)],2⟩
def Zvl{b f e j k}(g:k= λh i a=>K (.exit 2) ((Zpf b f e h a j).B 42 i))(n d c):vH N b f e j k n d c=LM Fa N 1 100009 n (Zpf b f e d c j) K:=by subst g;induction n generalizing d c;kernel_rfl;rw[vH];simp only[*];kernel_rfl
def Zpg(d:List Kr)(e c:Int)(b a:List Int):St:=⟨[(1,vV Jad d),(2,vI e),(7,vO 0),(8,vO 1),(9,vI c)],[(0,.arr Ja b),(1,.arr Ja a)],2⟩
end
end Go.Sx
