/- Each Go function does what its Lean function says. -/
import Derived.Test.YtceijnpnofmkkaaGreatT2
import Derived.Test.YtceijnpnofmkkaaGreatProg
import Derived.Test.YtceijnpnofmkkaaGreatLay
open Bool renaming and_eq_true→Xj
open List renaming cons_append→Xax,nil_append→Xbu
namespace Go.Sx
noncomputable section
open Go.Proofs
abbrev Ja:Ty:=.int .i64
abbrev Jb:Ty:=.prod (.own Ja) (.prod (.own (.prod Ja Ja)) (.prod (.own (.prod Ja (.prod Ja Ja))) (.prod (.own Ja) (.prod (.own (.prod Ja Ja)) (.own (.prod Ja (.prod Ja (.prod Ja (.prod Ja (.prod Ja (.prod Ja (.prod (.own Ja) (.prod (.own (.prod Ja (.prod Ja Ja))) (.prod (.own (.prod Ja Ja)) (.prod (.own (.prod Ja (.prod Ja (.own Ja)))) (.prod (.bool) (.prod Ja (.prod Ja (.prod Ja Ja)))))))))))))))))))
abbrev Jc:Ty:=.slice (.prod Ja (.prod Ja (.prod Ja Ja)))
abbrev Jd:Ty:=.prod Ja (.prod Ja (.prod Ja (.prod Ja (.prod Ja (.prod (.own (.prod Ja Ja)) (.own Ja))))))
abbrev Je:Ty:=.slice Ja
abbrev Jf:Ty:=.slice (.prod Ja (.prod Ja Ja))
abbrev Jg:Ty:=.prod Ja (.prod Ja (.prod Ja (.prod Ja (.prod Ja (.prod Ja (.prod (.bool) (.prod (.own Ja) (.prod (.own (.prod Ja Ja)) (.prod (.own (.prod Ja Ja)) (.prod (.own (.prod Ja (.prod Ja (.prod Ja (.prod Ja Je))))) (.prod (.own (.prod Ja (.prod Ja Ja))) (.prod (.own Ja) (.prod (.bool) (.prod (.prod Ja (.prod Ja (.prod Ja Ja))) (.prod Jd (.prod Ja (.prod Ja (.prod Ja (.prod (.bool) Jb)))))))))))))))))))
abbrev Jh:Ty:=.prod Ja (.prod Ja (.prod Ja (.prod Ja (.prod Ja (.prod Ja (.prod (.own Ja) (.prod (.own (.prod Ja (.prod Ja Ja))) (.prod (.own (.prod Ja Ja)) (.prod (.own (.prod Ja (.prod Ja (.own Ja)))) (.prod (.bool) (.prod Ja (.prod Ja (.prod Ja Ja)))))))))))))
abbrev Ji:Ty:=.prod Ja (.prod Ja (.slice (.prod Ja Ja)))
abbrev Jj:Ty:=.prod Ja (.prod Ja Ja)
abbrev Jk:Ty:=.prod Ja (.prod Ja (.prod Ja (.prod Ja (.prod Ja Jg))))
abbrev Jl:Ty:=.prod (.slice (.int .u8)) (.prod Ja Ja)
abbrev Jm:Ty:=.prod Ja (.prod (.own Ja) (.prod (.own Ja) (.prod (.own Ja) Ja)))
abbrev Jn:Ty:=.slice (.prod Jc (.slice Jc))
abbrev Jo:Ty:=.prod Je (.prod Je Ja)
abbrev Jp:Ty:=.slice (.prod Ja Ja)
abbrev Jq:Ty:=.bool
abbrev Jr:Ty:=.prod Ja (.prod Ja (.prod (.prod Ja (.own Jj)) (.prod (.prod (.own Ja) Ja) (.prod (.own Jj) (.prod (.own Jk) (.own Ji))))))
abbrev Js:Ty:=.prod Ja Ja
abbrev Jt:Ty:=.prod Ja Jj
abbrev Ju:Ty:=.slice (.int .u8)
abbrev Jv:Ty:=.prod Ja (.prod Ja (.prod Ja (.prod Ja (.prod Jp Je))))
abbrev Jw:Ty:=.slice Jc
abbrev Jx:Ty:=.prod Ja (.prod Ja (.prod Ja (.prod Jq Jb)))
abbrev Jy:Ty:=.prod Ja (.prod Je Jo)
abbrev Jz:Ty:=.prod (.own Ja) (.prod (.own Ja) Ja)
abbrev Jaa:Ty:=.prod Ja (.prod Ja (.own Ja))
abbrev Jab:Ty:=.prod Ja Jf
abbrev Jac:Ty:=.slice (TY_KidRun)
abbrev Jad:Ty:=.prod Ja (.prod Ja (.prod Ja Je))
abbrev Jae:Ty:=.prod Jo (.prod Jn Jf)
abbrev Jaf:Ty:=.own Ja
abbrev Jag:Ty:=.prod Ja (.own Jj)
abbrev Jah:Ty:=.prod Jc Jw
set_option linter.unusedVariables false
set_option linter.unusedSimpArgs false
def tab:Tab:=[(3,⟨.int .i64,false,.basic⟩),(4,⟨.bool,false,.basic⟩),(5,⟨.int .u8,false,.basic⟩),(22,⟨.slice (.int .u8),false,.slice 5⟩),(24,⟨.slice Ja,false,.slice 3⟩),(26,⟨.prod Je (.prod Je Ja),true,.struct [(0,24),(1,24),(2,3)]⟩),(27,⟨.slice Jah,false,.slice 57⟩),(28,⟨.slice Jj,false,.slice 91⟩),(30,⟨.prod Jo (.prod Jn Jf),true,.struct [(0,26),(3,27),(4,28)]⟩),(33,⟨.slice Jj,false,.slice 102⟩),(35,⟨.prod Ja Jf,true,.struct [(0,3),(1,33)]⟩),(37,⟨.prod Je Ja,true,.struct [(0,24),(1,3)]⟩),(38,⟨.slice Jj,false,.slice 230⟩),(39,⟨.slice (TY_Root),false,.slice 76⟩),(40,⟨.slice Ji,false,.slice 48⟩),(42,⟨TY_World,true,.struct [(0,3),(1,3),(2,35),(4,37),(6,38),(7,39),(8,40)]⟩),(46,⟨.slice Js,false,.slice 138⟩),(48,⟨.prod Ja (.prod Ja Jp),true,.struct [(0,3),(1,3),(2,46)]⟩),(54,⟨.slice Jt,false,.slice 79⟩),(55,⟨.slice Jc,false,.slice 82⟩),(57,⟨.prod Jc Jw,true,.struct [(0,54),(1,55)]⟩),(63,⟨.prod Ja (.prod Je Jo),true,.struct [(0,3),(1,24),(2,26)]⟩),(65,⟨.slice (.prod Ja Jad),false,.slice 177⟩),(66,⟨.slice Jj,false,.slice 220⟩),(68,⟨.prod Ja Jj,true,.struct [(0,3),(1,3),(2,3),(3,3)]⟩),(70,⟨.prod Ja Jv,true,.struct [(0,3),(1,3),(2,3),(3,3),(4,3),(5,46),(6,24)]⟩),(71,⟨.slice Jj,false,.slice 187⟩),(72,⟨.slice (TY_KidRun),false,.slice 185⟩),(74,⟨TY_Family,true,.struct [(0,3),(1,3),(2,3),(3,4),(4,24),(5,46),(6,71),(7,24),(8,46),(9,72)]⟩),(76,⟨TY_Root,true,.struct [(0,3),(1,3),(2,3),(3,3),(4,3),(5,3),(6,3),(7,3),(8,3),(9,3),(10,3),(11,4),(12,24),(13,46),(14,46),(15,65),(16,66),(17,24),(18,4),(19,68),(23,70),(30,74)]⟩),(79,⟨.prod Ja Jj,true,.struct [(0,3),(1,3),(2,3),(3,3)]⟩),(82,⟨.slice Jt,true,.struct [(0,54)]⟩),(91,⟨.prod Ja Js,true,.struct [(0,3),(1,3),(2,3)]⟩),(102,⟨.prod Ja Js,true,.struct [(0,3),(1,3),(2,3)]⟩),(118,⟨.prod Ju Js,true,.struct [(0,22),(1,3),(2,3)]⟩),(138,⟨.prod Ja Ja,true,.struct [(0,3),(1,3)]⟩),(153,⟨.slice Jy,false,.slice 156⟩),(156,⟨.prod Ja (.prod Je Jo),true,.struct [(0,3),(1,24),(2,26)]⟩),(161,⟨.slice Jq,false,.slice 4⟩),(162,⟨.slice Jy,false,.slice 164⟩),(164,⟨.prod Ja (.prod Je Jo),true,.struct [(0,3),(1,24),(2,26)]⟩),(165,⟨.bool,true,.arr 8 4⟩),(177,⟨.prod Ja Jad,true,.struct [(0,3),(1,3),(2,3),(3,3),(4,24)]⟩),(183,⟨.slice (.prod Ja (.prod Ja Je)),false,.slice 235⟩),(185,⟨TY_KidRun,true,.struct [(0,3),(1,3),(2,3),(3,3),(4,3),(5,3),(6,24),(7,71),(8,46),(9,183),(10,4),(11,68)]⟩),(187,⟨.prod Ja Js,true,.struct [(0,3),(1,3),(2,3)]⟩),(220,⟨.prod Ja Js,true,.struct [(0,3),(1,3),(2,3)]⟩),(230,⟨.prod Ja Js,true,.struct [(0,3),(1,3),(2,3)]⟩),(235,⟨.prod Ja (.prod Ja Je),true,.struct [(0,3),(1,3),(2,24)]⟩)]
theorem mixedOk:Tryz.prog.follows .mixedOrders=true:=by kernel_rfl
theorem tabOk:War Tryz.prog tab:=WwP (show Wmj Tryz.prog tab tab=true by kernel_rfl)
def LM(x:Fn)(N:Nat){R:Type}(i k n:Nat)(st:St)(K:Ex->St->Option R):Option R:=lpM tab (x.c N) x.a N x.F i k n st K
def CF(x:Fn)(N:Nat)(p:List Nat):Ex->St->Option (Qs (x.s N)):=cxF tab (x.c N) x.a N (x.s N) x.F p
def CL(x:Fn)(N:Nat){R:Type}(i k:Nat)(p:List Nat)(n:Nat)(K:Ex->St->Option R):Ex->St->Option R:=cxL tab (x.c N) x.a N x.F i k p n K
def DN(x:Fn)(N:Nat)(d:WfL (x.s N).ps):Option (Qs (x.s N)):=den (R:=Qs (x.s N)) tab (x.c N) x.a N (x.s N) x.F d some
def GW(k:FuncId)(s:Sig):Prop:=Wg1 Tryz.prog k/\Good Tryz.prog k s
theorem GC{k:FuncId}{s:Sig}{Γ:Ctx}(h:GW k s)(hc:Wfx Tryz.prog Γ):Wfx Tryz.prog ((k,s)::Γ):=Wux h.2 h.1 hc
theorem GF(x:Fn){k:FuncId}(N:Nat)(hf:Tryz.prog.funcs[k]?=some x.F)(hc:Wfx Tryz.prog (x.c N))(h:∀d,DN x N d=(x.s N).run d:=by intro d;kernel_rfl)(aV:(Wmk x.F&&Woy x.F (x.s N).ps)=true:=by kernel_rfl):GW k (x.s N):=
  ⟨Wcu hf (Xj .. ▸aV).1,Wsf mixedOk tabOk hc hf (Xj .. ▸aV).2 (λd _ e=>⟨N,(h d).trans e⟩)⟩
def Zp0(N:Nat):Sig:=Sig.of [.v Ju false] [.v Jq false] (λd=>Zs9 N d.1)
def Z3h:Fn:=⟨Tryz.f6,WG,Zp0,Wbo⟩
theorem Z3i(N:Nat):GW 6 (Zp0 N):=GF Z3h N Tryz.func6 Wg
def Zop(N:Nat):Sig:=Sig.of [.v Ju false] [.box Jl] (λd=>Zjo N d.1)
def Zmk:Fn:=⟨Tryz.f24,λ |3=>[.canon [0,3,4,15]]|4=>[.canon [0,3,4]]|5=>[.canon [0,3,4]]|100003=>[.canon [0,3,4]]|_=>[],Zop,Wbo⟩
def Zxe(ac:List Int)(h3:Int)(i4:Int):St:=⟨[(0,vV Ju ac),(3,vI h3),(4,vI i4)],[],0⟩
def Zu8(ac:List Int)(h5:Int)(i6:Int)(t7:Bool):St:=⟨[(0,vV Ju ac),(3,vI h5),(4,vI i6),(15,vB t7)],[],0⟩
theorem Zxf(N:Nat){R:Type}(K:Ex->St->Option R){ac:List Int}{K0:Int->Int->Bool->Option R}(h0:K0= λh5 i6 t7=>K (.exit 0) (Zu8 ac h5 i6 t7))(n:Nat)(h3:Int)(i4:Int):Zct N ac K0 n h3 i4=LM Zmk N 0 100003 n (Zxe ac h3 i4) K:=by
  subst h0
  induction n generalizing h3 i4 with
  |zero=>kernel_rfl
  |succ n ih=>rw[Zct];simp only[ih];kernel_rfl
theorem Z17(N:Nat)(af:List Int):DN Zmk N (af,())=Zjo N af:=by
  conv=>rhs;rw[Zjo];simp(disch:=exact id (by kernel_rfl)) only[Zxf (R:=Unit×Kt) N (CF Zmk N [1,1,0,1,0])]
  kernel_rfl
theorem Z18(N:Nat):GW 24 (Zop N):=GF Zmk N Tryz.func24 Wg (λd=>Z17 N d.1)
def Zn0(N:Nat):Sig:=Sig.of [.box Jl] [.v Ja false] (λd=>Zft N d.1)
def Z0v:Fn:=⟨Tryz.f110,WG,Zn0,Wbo⟩
theorem Z0w(N:Nat):GW 110 (Zn0 N):=GF Z0v N Tryz.func110 Wg
def Zad(N:Nat):Sig:=Sig.of [.box Jl,.v Ja false] [.v Ja false] (λd=>Zb N d.1 d.2.1)
def Zzl:Fn:=⟨Tryz.f61,WG,Zad,λN=>[(110,Zn0 N)]⟩
theorem Zan(N:Nat):GW 61 (Zad N):=GF Zzl N Tryz.func61 (GC (Z0w N) Wg)
def Zb2(N:Nat):Sig:=Sig.of [.box Jl,.v Ja false] [.v Jq false] (λd=>Zz N d.1 d.2.1)
def Z0x:Fn:=⟨Tryz.f41,WG,Zb2,λN=>[(61,Zad N)]⟩
theorem Zdk(N:Nat):GW 41 (Zb2 N):=GF Z0x N Tryz.func41 (GC (Zan N) Wg)
def Zl3(N:Nat):Sig:=Sig.of [.box Jl] [.v Ja false] (λd=>Za N d.1)
def Zxg:Fn:=⟨Tryz.f187,WG,Zl3,λN=>[(61,Zad N)]⟩
theorem Zxh(N:Nat):GW 187 (Zl3 N):=GF Zxg N Tryz.func187 (GC (Zan N) Wg)
def Zgq(N:Nat):Sig:=Sig.of [.box Jl,.v Je false] [.v Ja false] (λd=>Zbp N d.1 d.2.1)
def Zxi:Fn:=⟨Tryz.f146,WG,Zgq,λN=>[(61,Zad N)]⟩
theorem Zl4(N:Nat):GW 146 (Zgq N):=GF Zxi N Tryz.func146 (GC (Zan N) Wg)
def Zit(N:Nat):Sig:=Sig.of [.box Jl] [.v Ja false] (λd=>Zg1 N d.1)
def Z0y:Fn:=⟨Tryz.f87,WG,Zit,λN=>[(41,Zb2 N),(146,Zgq N),(61,Zad N)]⟩
theorem Zn1(N:Nat):GW 87 (Zit N):=GF Z0y N Tryz.func87 (GC (Zdk N) (GC (Zl4 N) (GC (Zan N) Wg)))
def Zk3(N:Nat):Sig:=Sig.of [.box Jl] [.v Ja false] (λd=>Zbw N d.1)
def Zu9:Fn:=⟨Tryz.f188,WG,Zk3,λN=>[(41,Zb2 N),(61,Zad N)]⟩
theorem Zva(N:Nat):GW 188 (Zk3 N):=GF Zu9 N Tryz.func188 (GC (Zdk N) (GC (Zan N) Wg))
def Zl5(N:Nat):Sig:=Sig.of [.box Jl] [.v Ja false] (λd=>Zm N d.1)
def Zxj:Fn:=⟨Tryz.f189,WG,Zl5,λN=>[(41,Zb2 N),(61,Zad N),(146,Zgq N)]⟩
theorem Zxk(N:Nat):GW 189 (Zl5 N):=GF Zxj N Tryz.func189 (GC (Zdk N) (GC (Zan N) (GC (Zl4 N) Wg)))
def Zj4(N:Nat):Sig:=Sig.of [.box Jl,.v Ja false] [.v Jt true] (λd=>Zl N d.1 d.2.1)
def Zzm:Fn:=⟨Tryz.f144,WG,Zj4,λN=>[(187,Zl3 N),(87,Zit N),(188,Zk3 N),(61,Zad N),(189,Zl5 N)]⟩
theorem Zp1(N:Nat):GW 144 (Zj4 N):=GF Zzm N Tryz.func144 (GC (Zxh N) (GC (Zn1 N) (GC (Zva N) (GC (Zan N) (GC (Zxk N) Wg)))))
def Zlg(N m:Nat):Sig:=Sig.of [.box Jl,.v Ja false,.v Ja false,.v Jq false] [.v (.own Jt) false] (λd=>Zel N m d.1 d.2.1 d.2.2.1 d.2.2.2.1)
def Zrr(N:Nat):Sig:=Zlg N N
def Zml(m:Nat):Fn:=⟨Tryz.f84,λ |3=>[.canon [0,1,2,3,9,10,27]]|4=>[.canon [0,1,2,3,9,10]]|5=>[.canon [0,1,2,3,9,10,11]]|6=>[.canon [0,1,2,3,9,10]]|7=>[.canon [0,1,2,3,9,10,11,40]]|8=>[.canon [0,1,2,3,9,10]]|9=>[.canon [0,1,2,3,9,10,11,48]]|10=>[.canon [0,1,2,3,9,10]]|11=>[.canon [0,1,2,3,9,10,11,56]]|12=>[.canon [0,1,2,3,9,10]]|13=>[.canon [0,1,2,3,9,10,11,67]]|14=>[.canon [0,1,2,3,9,10,12]]|15=>[.canon [0,1,2,3,9,10,12]]|16=>[.canon [0,1,2,3,9,10]]|17=>[.canon [0,1,2,3,9,10,100]]|18=>[.canon [0,1,2,3,9,10]]|19=>[.canon [0,1,2,3,9,10]]|20=>[.canon [0,1,2,3,9,10,11,109]]|21=>[.canon [0,1,2,3,9,10,13]]|22=>[.canon [0,1,2,3,9,10,13,14]]|23=>[.canon [0,1,2,3,9,10,13,14]]|24=>[.canon [0,1,2,3,9,10,13]]|25=>[.canon [0,1,2,3,9,10]]|26=>[.canon [0,1,2,3,9,10,134]]|27=>[.canon [0,1,2,3,9,10]]|28=>[.canon [0,1,2,3,9,10,145]]|29=>[.canon [0,1,2,3,9,10]]|100003=>[.canon [0,1,2,3,9,10]]|_=>[],λN=>Zlg N (m+1),λN=>[(61,Zad N),(144,Zj4 N),(84,Zlg N m),(41,Zb2 N)]⟩
def Zxl(au:Int)(az:Int)(aD:Bool)(n9:Int)(bj:List Int×Int×Int)(aF:List Ka):St:=⟨[(0,vP 0 0),(1,vI au),(2,vI az),(3,vB aD),(9,vO 1),(10,vI n9)],[(0,.box [.val Ju bj.1,.val Ja bj.2.1,.val Ja bj.2.2]),(1,.arr Jt aF)],2⟩
def Zvb(au:Int)(az:Int)(aD:Bool)(xc:Int)(xd:Bool)(tS:List Int×Int×Int)(xe:List Ka):St:=⟨[(0,vP 0 0),(1,vI au),(2,vI az),(3,vB aD),(9,vO 1),(10,vI xc),(27,vB xd)],[(0,.box [.val Ju tS.1,.val Ja tS.2.1,.val Ja tS.2.2]),(1,.arr Jt xe)],2⟩
theorem Zxm(N m:Nat){R:Type}(K:Ex->St->Option R){au:Int}{az:Int}{aD:Bool}{K0:Int->Bool->Kh->Kab->Option R}(h0:K0= λxc xd tS xe=>K (.exit 0) (Zvb au az aD xc xd tS xe))(n:Nat)(n9:Int)(bj:List Int×Int×Int)(aF:List Ka):Zc N (Zel N m) au az aD K0 n n9 bj aF=LM (Zml m) N 0 100003 n (Zxl au az aD n9 bj aF) K:=by
  subst h0
  induction n generalizing n9 bj aF with
  |zero=>kernel_rfl
  |succ n ih=>rw[Zc];simp only[ih];kernel_rfl
theorem Z19(N m:Nat)(c1:List Int×Int×Int)(fq:Int)(gv:Int)(kn:Bool):DN (Zml m) N (c1,fq,gv,kn,())=Zel N (m+1) c1 fq gv kn:=by
  conv=>rhs;rw[Zel];simp(disch:=exact id (by kernel_rfl)) only[Zxm (R:=Kt×(Kab×Unit)) N m (CF (Zml m) N [1,1,0,1,0])]
  kernel_rfl
theorem Zqv(N:Nat):∀m,GW 84 (Zlg N m)
  |0=>⟨Wcu Tryz.func84 (show Wmk Tryz.f84=true by kernel_rfl),λd o h=>nomatch (show none=some o from h)⟩
  |m+1=>GF (Zml m) N Tryz.func84 (GC (Zan N) (GC (Zp1 N) (GC (Zqv N m) (GC (Zdk N) Wg)))) (λd=>Z19 N m d.1 d.2.1 d.2.2.1 d.2.2.2.1)
theorem Z2a(N:Nat):GW 84 (Zrr N):=Zqv N N
def Zlh(N:Nat):Sig:=Sig.of [.box Jl,.v Jq false] [.v (.prod (.own Jt) (.own Jc)) true] (λd=>Zg2 N d.1 d.2.1)
def Zli:Fn:=⟨Tryz.f40,λ |7=>[.canon [0,4,7,8,38]]|8=>[.canon [0,4,7,8]]|9=>[.canon [0,4,7,8]]|100007=>[.adoptC 7 1 Jc,.canon [0,4,7,8]]|_=>[],Zlh,λN=>[(61,Zad N),(84,Zrr N)]⟩
def Zvc(iE:Int)(bN:List Int×Int×Int)(aw:List Ka)(cj:List Kab):St:=⟨[(0,vP 0 0),(4,vP 1 0),(7,vP 2 0),(8,vI iE)],[(0,.box [.val Ju bN.1,.val Ja bN.2.1,.val Ja bN.2.2]),(1,.box [.nils,.nils]),(2,.box [.own 3,.own 4]),(3,.arr Jt aw),(4,.arr Jc cj)],5⟩
def Zta(aw:List Ka)(xf:Int)(eU:Bool)(fW:List Int×Int×Int)(aM:List Kab):St:=⟨[(0,vP 0 0),(4,vP 1 0),(7,vP 2 0),(8,vI xf),(38,vB eU)],[(0,.box [.val Ju fW.1,.val Ja fW.2.1,.val Ja fW.2.2]),(1,.box [.nils,.nils]),(2,.box [.own 3,.own 4]),(3,.arr Jt aw),(4,.arr Jc aM)],5⟩
theorem Zvd(N:Nat){R:Type}(K:Ex->St->Option R){aw:List Ka}{K0:Int->Bool->Kh->Kx->Option R}(h0:K0= λxf eU fW aM=>K (.exit 0) (Zta aw xf eU fW aM))(n:Nat)(iE:Int)(bN:List Int×Int×Int)(cj:List Kab):Zfj N aw K0 n iE bN cj=LM Zli N 0 100007 n (Zvc iE bN aw cj) K:=by
  subst h0
  induction n generalizing iE bN cj with
  |zero=>kernel_rfl
  |succ n ih=>rw[Zfj];simp only[ih];kernel_rfl
theorem Z0z(N:Nat)(c1:List Int×Int×Int)(gJ:Bool):DN Zli N (c1,gJ,())=Zg2 N c1 gJ:=by
  conv=>rhs;rw[Zg2];simp(disch:=exact id (by kernel_rfl)) only[Zvd (R:=Kt×(Kn×Unit)) N (CF Zli N [1,1,1,1,1,0,1,0])]
  kernel_rfl
theorem Zqw(N:Nat):GW 40 (Zlh N):=GF Zli N Tryz.func40 (GC (Zan N) (GC (Z2a N) Wg)) (λd=>Z0z N d.1 d.2.1)
def Zoq(N:Nat):Sig:=Sig.of [.box Jl] [.v Jt true] (λd=>Zny N d.1)
def Z2b:Fn:=⟨Tryz.f145,WG,Zoq,λN=>[(61,Zad N),(144,Zj4 N),(146,Zgq N)]⟩
theorem Z2c(N:Nat):GW 145 (Zoq N):=GF Z2b N Tryz.func145 (GC (Zan N) (GC (Zp1 N) (GC (Zl4 N) Wg)))
def Zn2(N:Nat):Sig:=Sig.of [.box Jl,.v Jc false] [.v (.own Jt) false] (λd=>Zg3 N d.1 d.2.1)
def Zlj:Fn:=⟨Tryz.f85,λ |12=>[.view 49,.view 45]|14=>[.canon [0,5,58]]|15=>[.canon [0,5]]|100014=>[.canon [0,5]]|_=>[],Zn2,λN=>[(61,Zad N),(145,Zoq N)]⟩
def Zve(b6:List Int×Int×Int)(l7:List Ka):St:=⟨[(0,vP 0 0),(5,vO 1)],[(0,.box [.val Ju b6.1,.val Ja b6.2.1,.val Ja b6.2.2]),(1,.arr Jt l7)],2⟩
def Ztb(t9:Bool)(bj:List Int×Int×Int)(aF:List Ka):St:=⟨[(0,vP 0 0),(5,vO 1),(58,vB t9)],[(0,.box [.val Ju bj.1,.val Ja bj.2.1,.val Ja bj.2.2]),(1,.arr Jt aF)],2⟩
theorem Zvf(N:Nat){R:Type}(K:Ex->St->Option R){K0:Bool->Kh->Kab->Option R}(h0:K0= λt9 bj aF=>K (.exit 1) (Ztb t9 bj aF))(n:Nat)(b6:List Int×Int×Int)(l7:List Ka):Zfk N K0 n b6 l7=LM Zlj N 0 100014 n (Zve b6 l7) K:=by
  subst h0
  induction n generalizing b6 l7 with
  |zero=>kernel_rfl
  |succ n ih=>rw[Zfk];simp only[ih];kernel_rfl
theorem Z00(N:Nat)(c1:List Int×Int×Int)(ac:List Ka):DN Zlj N (c1,ac,())=Zg3 N c1 ac:=by
  conv=>rhs;rw[Zg3];simp(disch:=exact id (by kernel_rfl)) only[Zvf (R:=Kt×(Kab×Unit)) N (CF Zlj N [1,1,1,1,0,1,0,1,1,1,1,1,1,1,0,0])]
  kernel_rfl
theorem Z01(N:Nat):GW 85 (Zn2 N):=GF Zlj N Tryz.func85 (GC (Zan N) (GC (Z2c N) Wg)) (λd=>Z00 N d.1 d.2.1)
def Zl6(N:Nat):Sig:=Sig.of [.box Jl] [.v (.prod (.own Jt) (.own Jc)) true] (λd=>Zj2 N d.1)
def Zxn:Fn:=⟨Tryz.f42,WG,Zl6,λN=>[(41,Zb2 N),(40,Zlh N),(61,Zad N),(85,Zn2 N)]⟩
theorem Zxo(N:Nat):GW 42 (Zl6 N):=GF Zxn N Tryz.func42 (GC (Zdk N) (GC (Zqw N) (GC (Zan N) (GC (Z01 N) Wg))))
def Zk4(N:Nat):Sig:=Sig.of [.box Jl,.v Ja false] [.v Jaf false] (λd=>Zcf N d.1 d.2.1)
def Zh2:Fn:=⟨Tryz.f43,λ |3=>[.canon [0,1,5,6,11]]|4=>[.canon [0,1,5,6]]|5=>[.canon [0,1,5,6,7]]|6=>[.canon [0,1,5,6,7,18]]|7=>[.canon [0,1,5,6,7]]|8=>[.canon [0,1,5,6,7,36]]|9=>[.canon [0,1,5,6]]|100003=>[.canon [0,1,5,6]]|_=>[],Zk4,λN=>[(61,Zad N),(41,Zb2 N)]⟩
def Zqe(n3:Int)(i4:Int)(b5:List Int×Int×Int)(l6:List Int):St:=⟨[(0,vP 0 0),(1,vI n3),(5,vO 1),(6,vI i4)],[(0,.box [.val Ju b5.1,.val Ja b5.2.1,.val Ja b5.2.2]),(1,.arr Ja l6)],2⟩
def Zp2(n3:Int)(aL:Int)(aT:Bool)(aB:List Int×Int×Int)(bH:List Int):St:=⟨[(0,vP 0 0),(1,vI n3),(5,vO 1),(6,vI aL),(11,vB aT)],[(0,.box [.val Ju aB.1,.val Ja aB.2.1,.val Ja aB.2.2]),(1,.arr Ja bH)],2⟩
theorem Zqf(N:Nat){R:Type}(K:Ex->St->Option R){n3:Int}{K0:Int->Bool->Kh->Kg->Option R}(h0:K0= λaL aT aB bH=>K (.exit 0) (Zp2 n3 aL aT aB bH))(n:Nat)(i4:Int)(b5:List Int×Int×Int)(l6:List Int):Zt N n3 K0 n i4 b5 l6=LM Zh2 N 0 100003 n (Zqe n3 i4 b5 l6) K:=by
  subst h0
  induction n generalizing i4 b5 l6 with
  |zero=>kernel_rfl
  |succ n ih=>rw[Zt];simp only[ih];kernel_rfl
theorem Zvg(N:Nat)(c1:List Int×Int×Int)(n2:Int):DN Zh2 N (c1,n2,())=Zcf N c1 n2:=by
  conv=>rhs;rw[Zcf];simp(disch:=exact id (by kernel_rfl)) only[Zqf (R:=Kt×Kv) N (CF Zh2 N [1,1,0,1,0])]
  kernel_rfl
theorem Zvh(N:Nat):GW 43 (Zk4 N):=GF Zh2 N Tryz.func43 (GC (Zan N) (GC (Zdk N) Wg)) (λd=>Zvg N d.1 d.2.1)
def Zk5(N:Nat):Sig:=Sig.of [.box Jl] [.v Jaf false] (λd=>Zfi N d.1)
def Zh3:Fn:=⟨Tryz.f86,λ |3=>[.canon [0,3,4,7]]|4=>[.canon [0,3,4]]|5=>[.canon [0,3,4]]|100003=>[.canon [0,3,4]]|_=>[],Zk5,λN=>[(87,Zit N)]⟩
def Zqg(i2:Int)(b3:List Int×Int×Int)(l4:List Int):St:=⟨[(0,vP 0 0),(3,vO 1),(4,vI i2)],[(0,.box [.val Ju b3.1,.val Ja b3.2.1,.val Ja b3.2.2]),(1,.arr Ja l4)],2⟩
def Zp3(i6:Int)(t7:Bool)(b8:List Int×Int×Int)(l9:List Int):St:=⟨[(0,vP 0 0),(3,vO 1),(4,vI i6),(7,vB t7)],[(0,.box [.val Ju b8.1,.val Ja b8.2.1,.val Ja b8.2.2]),(1,.arr Ja l9)],2⟩
theorem Zqh(N:Nat){R:Type}(K:Ex->St->Option R){K0:Int->Bool->Kh->Kg->Option R}(h0:K0= λi6 t7 b8 l9=>K (.exit 0) (Zp3 i6 t7 b8 l9))(n:Nat)(i2:Int)(b3:List Int×Int×Int)(l4:List Int):Zco N K0 n i2 b3 l4=LM Zh3 N 0 100003 n (Zqg i2 b3 l4) K:=by
  subst h0
  induction n generalizing i2 b3 l4 with
  |zero=>kernel_rfl
  |succ n ih=>rw[Zco];simp only[ih];kernel_rfl
theorem Zvi(N:Nat)(c1:List Int×Int×Int):DN Zh3 N (c1,())=Zfi N c1:=by
  conv=>rhs;rw[Zfi];simp(disch:=exact id (by kernel_rfl)) only[Zqh (R:=Kt×Kv) N (CF Zh3 N [1,1,0,1,0])]
  kernel_rfl
theorem Zvj(N:Nat):GW 86 (Zk5 N):=GF Zh3 N Tryz.func86 (GC (Zn1 N) Wg) (λd=>Zvi N d.1)
def Zja(N:Nat):Sig:=Sig.of [.box Jl] [.v Jz true] (λd=>Zcm N d.1)
def Zjb:Fn:=⟨Tryz.f44,λ |3=>[.canon [0,2,3,4,12]]|4=>[.canon [0,2,3,4]]|5=>[.canon [0,2,3,4,5]]|6=>[.canon [0,2,3,4,5,16]]|7=>[.canon [0,2,3,4,5]]|8=>[.canon [0,2,3,4]]|100003=>[.adoptC 3 1 Ja,.canon [0,2,3,4]]|_=>[],Zja,λN=>[(86,Zk5 N),(87,Zit N),(41,Zb2 N)]⟩
def Zrs(i4:Int)(b5:List Int×Int×Int)(b7:Int)(l8:List Int)(l9:List Int):St:=⟨[(0,vP 0 0),(2,vP 1 0),(3,vP 2 0),(4,vI i4)],[(0,.box [.val Ju b5.1,.val Ja b5.2.1,.val Ja b5.2.2]),(1,.box [.nils,.nils,.val Ja (0:Int)]),(2,.box [.own 3,.own 4,.val Ja b7]),(3,.arr Ja l8),(4,.arr Ja l9)],5⟩
def Zq5(b7:Int)(l8:List Int)(xg:Int)(cn:Bool)(ak:List Int×Int×Int)(ae:List Int):St:=⟨[(0,vP 0 0),(2,vP 1 0),(3,vP 2 0),(4,vI xg),(12,vB cn)],[(0,.box [.val Ju ak.1,.val Ja ak.2.1,.val Ja ak.2.2]),(1,.box [.nils,.nils,.val Ja (0:Int)]),(2,.box [.own 3,.own 4,.val Ja b7]),(3,.arr Ja l8),(4,.arr Ja ae)],5⟩
theorem Zrt(N:Nat){R:Type}(K:Ex->St->Option R){b7:Int}{l8:List Int}{K0:Int->Bool->Kh->Kg->Option R}(h0:K0= λxg cn ak ae=>K (.exit 0) (Zq5 b7 l8 xg cn ak ae))(n:Nat)(i4:Int)(b5:List Int×Int×Int)(l9:List Int):Zcj N b7 l8 K0 n i4 b5 l9=LM Zjb N 0 100003 n (Zrs i4 b5 b7 l8 l9) K:=by
  subst h0
  induction n generalizing i4 b5 l9 with
  |zero=>kernel_rfl
  |succ n ih=>rw[Zcj];simp only[ih];kernel_rfl
theorem Zyw(N:Nat)(c1:List Int×Int×Int):DN Zjb N (c1,())=Zcm N c1:=by
  conv=>rhs;rw[Zcm];simp(disch:=exact id (by kernel_rfl)) only[Zrt (R:=Kt×Kaa) N (CF Zjb N [1,1,0,1,0])]
  kernel_rfl
theorem Zpo(N:Nat):GW 44 (Zja N):=GF Zjb N Tryz.func44 (GC (Zvj N) (GC (Zn1 N) (GC (Zdk N) Wg))) (λd=>Zyw N d.1)
def Zj5(N:Nat):Sig:=Sig.of [.box Jl] [.v Jz true] (λd=>Zem N d.1)
def Ztc:Fn:=⟨Tryz.f45,WG,Zj5,λN=>[(44,Zja N),(61,Zad N)]⟩
theorem Ztd(N:Nat):GW 45 (Zj5 N):=GF Ztc N Tryz.func45 (GC (Zpo N) (GC (Zan N) Wg))
def Zk6(N:Nat):Sig:=Sig.of [.v Ju false] [.v Jah true,.v Je false,.v Jo true] (λd=>Zi9 N d.1)
def Zvk:Fn:=⟨Tryz.f15,WG,Zk6,λN=>[(24,Zop N),(41,Zb2 N),(40,Zlh N),(42,Zl6 N),(43,Zk4 N),(44,Zja N),(45,Zj5 N)]⟩
theorem Zvl(N:Nat):GW 15 (Zk6 N):=GF Zvk N Tryz.func15 (GC (Z18 N) (GC (Zdk N) (GC (Zqw N) (GC (Zxo N) (GC (Zvh N) (GC (Zpo N) (GC (Ztd N) Wg)))))))
def Zfu(N:Nat):Sig:=Sig.of [.v Ja false,.v Ja false,.v Ja false] [.v Jq false] (λd=>Zb1 N d.1 d.2.1 d.2.2.1)
def Z21:Fn:=⟨Tryz.f51,WG,Zfu,Wbo⟩
theorem Zih(N:Nat):GW 51 (Zfu N):=GF Z21 N Tryz.func51 Wg
def Zor(N:Nat):Sig:=Sig.of [.v Ja false] [.v Jq false] (λd=>Zbx N d.1)
def Z2d:Fn:=⟨Tryz.f147,WG,Zor,λN=>[(51,Zfu N)]⟩
theorem Z2e(N:Nat):GW 147 (Zor N):=GF Z2d N Tryz.func147 (GC (Zih N) Wg)
def Zhl(N:Nat):Sig:=Sig.of [.v Ja false] [.v Jq false] (λd=>Zgm N d.1)
def Z2f:Fn:=⟨Tryz.f50,WG,Zhl,λN=>[(51,Zfu N)]⟩
theorem Zmm(N:Nat):GW 50 (Zhl N):=GF Z2f N Tryz.func50 (GC (Zih N) Wg)
def Zn3(N:Nat):Sig:=Sig.of [.v Ja false] [.v Jq false] (λd=>Zic N d.1)
def Z02:Fn:=⟨Tryz.f148,WG,Zn3,λN=>[(51,Zfu N)]⟩
theorem Z03(N:Nat):GW 148 (Zn3 N):=GF Z02 N Tryz.func148 (GC (Zih N) Wg)
def Zky(N:Nat):Sig:=Sig.of [.v Jt true] [.v Jq false] (λd=>Zi4 N d.1)
def Z22:Fn:=⟨Tryz.f88,WG,Zky,λN=>[(147,Zor N),(50,Zhl N),(148,Zn3 N),(51,Zfu N)]⟩
theorem Zpd(N:Nat):GW 88 (Zky N):=GF Z22 N Tryz.func88 (GC (Z2e N) (GC (Zmm N) (GC (Z03 N) (GC (Zih N) Wg))))
def Zn4(N:Nat):Sig:=Sig.of [.v Jc false,.v Ja false] [.v Jq false] (λd=>Zid N d.1 d.2.1)
def Zlk:Fn:=⟨Tryz.f89,λ |6=>[.canon [0,5,6,7,24]]|7=>[.canon [0,5,6,7]]|8=>[.canon [0,5,6,7,32]]|9=>[.canon [0,5,6,7]]|10=>[.canon [0,5,6,7,40]]|11=>[.canon [0,5,6,7]]|12=>[.canon [0,5,6,7,44]]|13=>[.canon [4]]|100006=>[.canon [0,5,6,7]]|_=>[],Zn4,Wbo⟩
def Zvm(ah:List Ka)(iz:Int)(d5:Int)(k6:Int):St:=⟨[(0,vV Jc ah),(5,vI iz),(6,vI d5),(7,vI k6)],[],0⟩
def Zte(ah:List Ka)(iz:Int):St:=⟨[(4,vB false)],[],0⟩
def Ztf(ah:List Ka)(iz:Int)(d7:Int)(k8:Int)(t9:Bool):St:=⟨[(0,vV Jc ah),(5,vI iz),(6,vI d7),(7,vI k8),(24,vB t9)],[],0⟩
theorem Zvn(N:Nat){R:Type}(K:Ex->St->Option R){ah:List Ka}{iz:Int}{K0:Option R}{K1:Int->Int->Bool->Option R}(h0:K0=K .ret (Zte ah iz))(h1:K1= λd7 k8 t9=>K (.exit 0) (Ztf ah iz d7 k8 t9))(n:Nat)(d5:Int)(k6:Int):Za4 N ah iz K0 K1 n d5 k6=LM Zlk N 0 100006 n (Zvm ah iz d5 k6) K:=by
  subst h0 h1
  induction n generalizing d5 k6 with
  |zero=>kernel_rfl
  |succ n ih=>rw[Za4];simp only[ih];kernel_rfl
theorem Z04(N:Nat)(af:List Ka)(i2:Int):DN Zlk N (af,i2,())=Zid N af i2:=by
  conv=>rhs;rw[Zid];simp(disch:=exact id (by kernel_rfl)) only[Zvn (R:=Unit×Kq) N (CF Zlk N [1,1,1,1,0,1,0])]
  kernel_rfl
theorem Z05(N:Nat):GW 89 (Zn4 N):=GF Zlk N Tryz.func89 Wg (λd=>Z04 N d.1 d.2.1)
def Zll(N:Nat):Sig:=Sig.of [.v Jc false] [.v Jq false] (λd=>Zg0 N d.1)
def Zlm:Fn:=⟨Tryz.f46,λ |6=>[.canon [0,3,4,5,12]]|7=>[.canon [0,3,4,5]]|8=>[.canon [0,3,4,5,20]]|9=>[.canon [2]]|10=>[.canon [0,3,4,5,25]]|11=>[.canon [0,3,4,5,25,26]]|12=>[.canon [0,3,4,5]]|13=>[.canon [0,3,4,5,25,30]]|14=>[.canon [0,3,4,5]]|15=>[.canon [0,3,4,5,25,34]]|16=>[.canon [0,3,4,5,39]]|17=>[.canon [2]]|18=>[.canon [0,3,4,5,40]]|19=>[.canon [0,3,4,5]]|20=>[.canon [0,3,4,5,49]]|21=>[.canon [2]]|22=>[.canon [0,3,4,5,51]]|23=>[.canon [2]]|100006=>[.canon [0,3,4,5]]|_=>[],Zll,λN=>[(88,Zky N),(89,Zn4 N)]⟩
def Zvo(ac:List Ka)(d3:Int)(aO:Int)(i5:Int):St:=⟨[(0,vV Jc ac),(3,vI d3),(4,vI aO),(5,vI i5)],[],0⟩
def Ztg(ac:List Ka):St:=⟨[(2,vB false)],[],0⟩
def Zth(ac:List Ka)(d8:Int)(jp:Int)(jK:Int)(aX:Bool):St:=⟨[(0,vV Jc ac),(3,vI d8),(4,vI jp),(5,vI jK),(12,vB aX)],[],0⟩
theorem Zvp(N:Nat){R:Type}(K:Ex->St->Option R){ac:List Ka}{K0:Option R}{K1:Int->Int->Int->Bool->Option R}(h0:K0=K .ret (Ztg ac))(h1:K1= λd8 jp jK aX=>K (.exit 0) (Zth ac d8 jp jK aX))(n:Nat)(d3:Int)(aO:Int)(i5:Int):Za5 N ac K0 K1 n d3 aO i5=LM Zlm N 0 100006 n (Zvo ac d3 aO i5) K:=by
  subst h0 h1
  induction n generalizing d3 aO i5 with
  |zero=>kernel_rfl
  |succ n ih=>rw[Za5];simp only[ih];kernel_rfl
theorem Z06(N:Nat)(af:List Ka):DN Zlm N (af,())=Zg0 N af:=by
  conv=>rhs;rw[Zg0];simp(disch:=exact id (by kernel_rfl)) only[Zvp (R:=Unit×Kq) N (CF Zlm N [1,1,1,1,0,1,0])]
  kernel_rfl
theorem Zqx(N:Nat):GW 46 (Zll N):=GF Zlm N Tryz.func46 (GC (Zpd N) (GC (Z05 N) Wg)) (λd=>Z06 N d.1)
def Zj6(N:Nat):Sig:=Sig.of [.v Jc false] [.v Jq false] (λd=>Zf1 N d.1)
def Zj7:Fn:=⟨Tryz.f47,λ |2=>[.canon [0,3,7]]|3=>[.canon [0,3]]|4=>[.canon [0,3,15]]|5=>[.canon [2]]|100002=>[.canon [0,3]]|_=>[],Zj6,Wbo⟩
def Zti(ac:List Ka)(i3:Int):St:=⟨[(0,vV Jc ac),(3,vI i3)],[],0⟩
def Zru(ac:List Ka):St:=⟨[(2,vB true)],[],0⟩
def Zrv(ac:List Ka)(i4:Int)(t5:Bool):St:=⟨[(0,vV Jc ac),(3,vI i4),(7,vB t5)],[],0⟩
theorem Ztj(N:Nat){R:Type}(K:Ex->St->Option R){ac:List Ka}{K0:Option R}{K1:Int->Bool->Option R}(h0:K0=K .ret (Zru ac))(h1:K1= λi4 t5=>K (.exit 0) (Zrv ac i4 t5))(n:Nat)(i3:Int):Zcr N ac K0 K1 n i3=LM Zj7 N 0 100002 n (Zti ac i3) K:=by
  subst h0 h1
  induction n generalizing i3 with
  |zero=>kernel_rfl
  |succ n ih=>rw[Zcr];simp only[ih];kernel_rfl
theorem Zzn(N:Nat)(af:List Ka):DN Zj7 N (af,())=Zf1 N af:=by
  conv=>rhs;rw[Zf1];simp(disch:=exact id (by kernel_rfl)) only[Ztj (R:=Unit×Kq) N (CF Zj7 N [1,0,1,0])]
  kernel_rfl
theorem Zp4(N:Nat):GW 47 (Zj6 N):=GF Zj7 N Tryz.func47 Wg (λd=>Zzn N d.1)
def Znd(N:Nat):Sig:=Sig.of [.v Jt true] [.v Ja false] (λd=>Zby N d.1)
def Zzo:Fn:=⟨Tryz.f90,WG,Znd,λN=>[(88,Zky N)]⟩
theorem Zzp(N:Nat):GW 90 (Znd N):=GF Zzo N Tryz.func90 (GC (Zpd N) Wg)
def Zos(N:Nat):Sig:=Sig.of [.v Jc false] [.v Jq false] (λd=>Zhn N d.1)
def Zmn:Fn:=⟨Tryz.f48,λ |4=>[.canon [0,3,14]]|5=>[.canon [0,3]]|6=>[.canon [0,3,22]]|7=>[.canon [2]]|100004=>[.canon [0,3]]|_=>[],Zos,λN=>[(46,Zll N),(47,Zj6 N),(90,Znd N)]⟩
def Zxp(aS:List Ka)(i5:Int):St:=⟨[(0,vV Jc aS),(3,vI i5)],[],0⟩
def Zvq(aS:List Ka):St:=⟨[(2,vB false)],[],0⟩
def Zvr(aS:List Ka)(i7:Int)(t8:Bool):St:=⟨[(0,vV Jc aS),(3,vI i7),(14,vB t8)],[],0⟩
theorem Zxq(N:Nat){R:Type}(K:Ex->St->Option R){aS:List Ka}{K0:Option R}{K1:Int->Bool->Option R}(h0:K0=K .ret (Zvq aS))(h1:K1= λi7 t8=>K (.exit 0) (Zvr aS i7 t8))(n:Nat)(i5:Int):Zd5 N aS K0 K1 n i5=LM Zmn N 0 100004 n (Zxp aS i5) K:=by
  subst h0 h1
  induction n generalizing i5 with
  |zero=>kernel_rfl
  |succ n ih=>rw[Zd5];simp only[ih];kernel_rfl
theorem Z2g(N:Nat)(af:List Ka):DN Zmn N (af,())=Zhn N af:=by
  conv=>rhs;rw[Zhn];simp(disch:=exact id (by kernel_rfl)) only[Zxq (R:=Unit×Kq) N (CF Zmn N [1,1,0,1,0])]
  kernel_rfl
theorem Z2h(N:Nat):GW 48 (Zos N):=GF Zmn N Tryz.func48 (GC (Zqx N) (GC (Zp4 N) (GC (Zzp N) Wg))) (λd=>Z2g N d.1)
def Zln(N:Nat):Sig:=Sig.of [.v Jah true] [.v Jq false] (λd=>Zg4 N d.1)
def Zlo:Fn:=⟨Tryz.f16,λ |4=>[.canon [1,3,28]]|5=>[.canon [1,3]]|6=>[.canon [1,3,38]]|7=>[.canon [2]]|100004=>[.canon [1,3]]|_=>[],Zln,λN=>[(46,Zll N),(47,Zj6 N),(48,Zos N)]⟩
def Zvs(i4:Int)(b5:List Ka×List Kab):St:=⟨[(1,vP 0 0),(3,vI i4)],[(0,.box [.val Jc b5.1,.val Jw b5.2])],1⟩
def Ztk(b5:List Ka×List Kab):St:=⟨[(2,vB false)],[],0⟩
def Ztl(b5:List Ka×List Kab)(i7:Int)(t8:Bool):St:=⟨[(1,vP 0 0),(3,vI i7),(28,vB t8)],[(0,.box [.val Jc b5.1,.val Jw b5.2])],1⟩
theorem Zvt(N:Nat){R:Type}(K:Ex->St->Option R){b5:List Ka×List Kab}{K0:Option R}{K1:Int->Bool->Option R}(h0:K0=K .ret (Ztk b5))(h1:K1= λi7 t8=>K (.exit 0) (Ztl b5 i7 t8))(n:Nat)(i4:Int):Zcc N b5 K0 K1 n i4=LM Zlo N 0 100004 n (Zvs i4 b5) K:=by
  subst h0 h1
  induction n generalizing i4 with
  |zero=>kernel_rfl
  |succ n ih=>rw[Zcc];simp only[ih];kernel_rfl
theorem Z07(N:Nat)(p1:List Ka×List Kab):DN Zlo N (p1,())=Zg4 N p1:=by
  conv=>rhs;rw[Zg4];simp(disch:=exact id (by kernel_rfl)) only[Zvt (R:=Unit×Kq) N (CF Zlo N [1,1,0,1,0])]
  kernel_rfl
theorem Zqy(N:Nat):GW 16 (Zln N):=GF Zlo N Tryz.func16 (GC (Zqx N) (GC (Zp4 N) (GC (Z2h N) Wg))) (λd=>Z07 N d.1)
def Z0(N:Nat):Sig:=Sig.of [.v Ja false,.v Ja false,.v Ja false] [.v Jq false] (λd=>Zo N d.1 d.2.1 d.2.2.1)
def Z08:Fn:=⟨Tryz.f68,WG,Z0,Wbo⟩
theorem Z8(N:Nat):GW 68 (Z0 N):=GF Z08 N Tryz.func68 Wg
def Zot(N:Nat):Sig:=Sig.of [.v Ja false] [.v Jq false] (λd=>Zbz N d.1)
def Z2i:Fn:=⟨Tryz.f190,WG,Zot,λN=>[(68,Z0 N)]⟩
theorem Z2j(N:Nat):GW 190 (Zot N):=GF Z2i N Tryz.func190 (GC (Z8 N) Wg)
def Za2(N:Nat):Sig:=Sig.of [.v Ja false] [.v Jq false] (λd=>Zaw N d.1)
def Zzq:Fn:=⟨Tryz.f83,WG,Za2,λN=>[(68,Z0 N)]⟩
theorem Zbq(N:Nat):GW 83 (Za2 N):=GF Zzq N Tryz.func83 (GC (Z8 N) Wg)
def Zb3(N:Nat):Sig:=Sig.of [.v Ja false] [.v Jq false] (λd=>Zbj N d.1)
def Z09:Fn:=⟨Tryz.f129,WG,Zb3,λN=>[(68,Z0 N)]⟩
theorem Zdl(N:Nat):GW 129 (Zb3 N):=GF Z09 N Tryz.func129 (GC (Z8 N) Wg)
def Zer(N:Nat):Sig:=Sig.of [.v Ja false] [.v Jq false] (λd=>Zba N d.1)
def Z2k:Fn:=⟨Tryz.f107,WG,Zer,λN=>[(68,Z0 N)]⟩
theorem Zhm(N:Nat):GW 107 (Zer N):=GF Z2k N Tryz.func107 (GC (Z8 N) Wg)
def Zii(N:Nat):Sig:=Sig.of [.v Jt true] [.v Jq false] (λd=>Zhc N d.1)
def Z23:Fn:=⟨Tryz.f151,WG,Zii,λN=>[(190,Zot N),(83,Za2 N),(129,Zb3 N),(68,Z0 N),(107,Zer N)]⟩
theorem Zm6(N:Nat):GW 151 (Zii N):=GF Z23 N Tryz.func151 (GC (Z2j N) (GC (Zbq N) (GC (Zdl N) (GC (Z8 N) (GC (Zhm N) Wg)))))
def Zj8(N:Nat):Sig:=Sig.of [.v Jt true] [.v Ja false] (λd=>Zhe N d.1)
def Zzr:Fn:=⟨Tryz.f149,WG,Zj8,λN=>[(151,Zii N)]⟩
theorem Zp5(N:Nat):GW 149 (Zj8 N):=GF Zzr N Tryz.func149 (GC (Zm6 N) Wg)
def Zjt(N:Nat):Sig:=Sig.of [.v Jt true] [.v Ja false] (λd=>Zjm N d.1)
def Z2l:Fn:=⟨Tryz.f156,WG,Zjt,Wbo⟩
theorem Zou(N:Nat):GW 156 (Zjt N):=GF Z2l N Tryz.func156 Wg
def Zk7(N:Nat):Sig:=Sig.of [.v Jc false] [.v Jq false] (λd=>Zdb N d.1)
def Zh4:Fn:=⟨Tryz.f150,λ |3=>[.canon [3,6,7,8,9]]|4=>[.canon [3,5,6,7,8]]|5=>[.canon [3,6,7,8]]|6=>[.canon [3,6,7,8,17]]|7=>[.canon [2]]|8=>[.canon [3,6,7,8]]|100003=>[.canon [3,6,7,8]]|_=>[],Zk7,λN=>[(156,Zjt N)]⟩
def Zqi(n2:Int)(t3:List Ka)(t5:Int):St:=⟨[(3,vI n2),(6,vV Jc t3),(7,vI (Wi t3)),(8,vI t5)],[],0⟩
def Zp6(t3:List Ka):St:=⟨[(2,vB false)],[],0⟩
def Zp7(t3:List Ka)(n8:Int)(t9:Int)(aP:Bool):St:=⟨[(3,vI n8),(6,vV Jc t3),(7,vI (Wi t3)),(8,vI t9),(9,vB aP)],[],0⟩
theorem Zqj(N:Nat){R:Type}(K:Ex->St->Option R){t3:List Ka}{K0:Option R}{K1:Int->Int->Bool->Option R}(h0:K0=K .ret (Zp6 t3))(h1:K1= λn8 t9 aP=>K (.exit 0) (Zp7 t3 n8 t9 aP))(n:Nat)(n2:Int)(t5:Int):Zb0 N t3 K0 K1 n n2 t5=LM Zh4 N 0 100003 n (Zqi n2 t3 t5) K:=by
  subst h0 h1
  induction n generalizing n2 t5 with
  |zero=>kernel_rfl
  |succ n ih=>rw[Zb0];simp only[ih];kernel_rfl
theorem Zvu(N:Nat)(af:List Ka):DN Zh4 N (af,())=Zdb N af:=by
  conv=>rhs;rw[Zdb];simp(disch:=exact id (by kernel_rfl)) only[Zqj (R:=Unit×Kq) N (CF Zh4 N [1,1,0,1,0])]
  kernel_rfl
theorem Zvv(N:Nat):GW 150 (Zk7 N):=GF Zh4 N Tryz.func150 (GC (Zou N) Wg) (λd=>Zvu N d.1)
def Zne(N:Nat):Sig:=Sig.of [.v Jc false,.v Ja false] [.v Ja false] (λd=>Zhf N d.1 d.2.1)
def Zj9:Fn:=⟨Tryz.f152,λ |3=>[.canon [1,5,8,9,10,11]]|4=>[.canon [1,5,6,7,8,9,10]]|5=>[.canon [1,5,7,8,9,10,17]]|6=>[.canon [1,5,8,9,10]]|7=>[.canon [1,5,8,9,10]]|100003=>[.canon [1,5,8,9,10]]|_=>[],Zne,λN=>[(156,Zjt N)]⟩
def Ztm(i3:Int)(n4:Int)(t5:List Ka)(t7:Int):St:=⟨[(1,vI i3),(5,vI n4),(8,vV Jc t5),(9,vI (Wi t5)),(10,vI t7)],[],0⟩
def Zrw(i3:Int)(t5:List Ka)(iE:Int)(aX:Int)(aT:Bool):St:=⟨[(1,vI i3),(5,vI iE),(8,vV Jc t5),(9,vI (Wi t5)),(10,vI aX),(11,vB aT)],[],0⟩
theorem Ztn(N:Nat){R:Type}(K:Ex->St->Option R){i3:Int}{t5:List Ka}{K0:Int->Int->Bool->Option R}(h0:K0= λiE aX aT=>K (.exit 0) (Zrw i3 t5 iE aX aT))(n:Nat)(n4:Int)(t7:Int):Zb4 N i3 t5 K0 n n4 t7=LM Zj9 N 0 100003 n (Ztm i3 n4 t5 t7) K:=by
  subst h0
  induction n generalizing n4 t7 with
  |zero=>kernel_rfl
  |succ n ih=>rw[Zb4];simp only[ih];kernel_rfl
theorem Zzs(N:Nat)(af:List Ka)(i2:Int):DN Zj9 N (af,i2,())=Zhf N af i2:=by
  conv=>rhs;rw[Zhf];simp(disch:=exact id (by kernel_rfl)) only[Ztn (R:=Unit×Kj) N (CF Zj9 N [1,1,0,1,0])]
  kernel_rfl
theorem Zzt(N:Nat):GW 152 (Zne N):=GF Zj9 N Tryz.func152 (GC (Zou N) Wg) (λd=>Zzs N d.1 d.2.1)
def Zlp(N:Nat):Sig:=Sig.of [.v Jc false] [.v Jq false] (λd=>Zc0 N d.1)
def Zlq:Fn:=⟨Tryz.f92,λ |5=>[.canon [0,3,14,15,16,17]]|6=>[.canon [0,3,4,5,14,15,16]]|7=>[.canon [0,3,4,5,14,15,16,23]]|8=>[.canon [2]]|9=>[.canon [0,3,4,5,14,15,16,25]]|10=>[.canon [0,3,4,5,14,15,16,25,26]]|11=>[.canon [0,3,14,15,16,48]]|12=>[.canon [2]]|13=>[.canon [0,3,4,14,15,16,49]]|14=>[.canon [0,3,4,14,15,16]]|15=>[.canon [0,3,14,15,16,60]]|16=>[.canon [2]]|17=>[.canon [0,3,14,15,16]]|100005=>[.canon [0,3,14,15,16]]|_=>[],Zlp,λN=>[(150,Zk7 N),(151,Zii N),(152,Zne N)]⟩
def Zvw(ah:List Ka)(aO:Int)(t7:Int):St:=⟨[(0,vV Jc ah),(3,vI aO),(14,vV Jc ah),(15,vI (Wi ah)),(16,vI t7)],[],0⟩
def Zto(ah:List Ka):St:=⟨[(2,vB false)],[],0⟩
def Ztp(ah:List Ka)(gQ:Int)(cn:Int)(jd:Bool):St:=⟨[(0,vV Jc ah),(3,vI gQ),(14,vV Jc ah),(15,vI (Wi ah)),(16,vI cn),(17,vB jd)],[],0⟩
theorem Zvx(N:Nat){R:Type}(K:Ex->St->Option R){ah:List Ka}{K0:Option R}{K1:Int->Int->Bool->Option R}(h0:K0=K .ret (Zto ah))(h1:K1= λgQ cn jd=>K (.exit 0) (Ztp ah gQ cn jd))(n:Nat)(aO:Int)(t7:Int):Zbv N ah K0 K1 n aO t7=LM Zlq N 0 100005 n (Zvw ah aO t7) K:=by
  subst h0 h1
  induction n generalizing aO t7 with
  |zero=>kernel_rfl
  |succ n ih=>rw[Zbv];simp only[ih];kernel_rfl
theorem Z1a(N:Nat)(af:List Ka):DN Zlq N (af,())=Zc0 N af:=by
  conv=>rhs;rw[Zc0];simp(disch:=exact id (by kernel_rfl)) only[Zvx (R:=Unit×Kq) N (CF Zlq N [1,1,1,0,1,0])]
  kernel_rfl
theorem Zqz(N:Nat):GW 92 (Zlp N):=GF Zlq N Tryz.func92 (GC (Zvv N) (GC (Zm6 N) (GC (Zzt N) Wg))) (λd=>Z1a N d.1)
def Zov(N:Nat):Sig:=Sig.of [.v Jc false] [.v Jq false] (λd=>Zho N d.1)
def Zmo:Fn:=⟨Tryz.f91,λ |2=>[.canon [0,5,6,7,8]]|3=>[.canon [0,4,5,6,7]]|4=>[.canon [0,5,6,7,18]]|5=>[.canon [2]]|6=>[.canon [0,5,6,7]]|100002=>[.canon [0,5,6,7]]|_=>[],Zov,λN=>[(149,Zj8 N),(92,Zlp N)]⟩
def Zxr(ac:List Ka)(t5:Int):St:=⟨[(0,vV Jc ac),(5,vV Jc ac),(6,vI (Wi ac)),(7,vI t5)],[],0⟩
def Zvy(ac:List Ka):St:=⟨[(2,vB false)],[],0⟩
def Zvz(ac:List Ka)(t8:Int)(t9:Bool):St:=⟨[(0,vV Jc ac),(5,vV Jc ac),(6,vI (Wi ac)),(7,vI t8),(8,vB t9)],[],0⟩
theorem Zxs(N:Nat){R:Type}(K:Ex->St->Option R){ac:List Ka}{K0:Option R}{K1:Int->Bool->Option R}(h0:K0=K .ret (Zvy ac))(h1:K1= λt8 t9=>K (.exit 0) (Zvz ac t8 t9))(n:Nat)(t5:Int):Zd6 N ac K0 K1 n t5=LM Zmo N 0 100002 n (Zxr ac t5) K:=by
  subst h0 h1
  induction n generalizing t5 with
  |zero=>kernel_rfl
  |succ n ih=>rw[Zd6];simp only[ih];kernel_rfl
theorem Z2m(N:Nat)(af:List Ka):DN Zmo N (af,())=Zho N af:=by
  conv=>rhs;rw[Zho];simp(disch:=exact id (by kernel_rfl)) only[Zxs (R:=Unit×Kq) N (CF Zmo N [1,0,1,0])]
  kernel_rfl
theorem Z2n(N:Nat):GW 91 (Zov N):=GF Zmo N Tryz.func91 (GC (Zp5 N) (GC (Zqz N) Wg)) (λd=>Z2m N d.1)
def Zl7(N:Nat):Sig:=Sig.of [.v Jt true] [.v Jq false] (λd=>Znb N d.1)
def Zxt:Fn:=⟨Tryz.f154,WG,Zl7,Wbo⟩
theorem Zxu(N:Nat):GW 154 (Zl7 N):=GF Zxt N Tryz.func154 Wg
def Za1(N:Nat):Sig:=Sig.of [.v Jc false,.clos 154 0] [.v Ja false] (λd=>Z4 N d.1)
def Zac:Fn:=⟨Tryz.f191,λ |2=>[.canon [0,1,7,8,9]]|3=>[.canon [0,1,5,7,8]]|4=>[.canon [0,1,5,7,8,16]]|5=>[.canon [1,4]]|6=>[.canon [0,1,7,8]]|100002=>[.canon [0,1,7,8]]|_=>[],Za1,λN=>[(154,Zl7 N)]⟩
def Zfp(s2:List Ka)(t4:Int):St:=⟨[(0,vV Jc s2),(1,.s (.one (.clos 154 []))),(7,vI (Wi s2)),(8,vI t4)],[],0⟩
def Ze9(s2:List Ka)(t7:Int):St:=⟨[(1,.s (.one (.clos 154 []))),(4,vI t7)],[],0⟩
def Zfa(s2:List Ka)(t8:Int)(t9:Bool):St:=⟨[(0,vV Jc s2),(1,.s (.one (.clos 154 []))),(7,vI (Wi s2)),(8,vI t8),(9,vB t9)],[],0⟩
theorem Zfq(N:Nat){R:Type}(K:Ex->St->Option R){s2:List Ka}{K0:Int->Option R}{K1:Int->Bool->Option R}(h0:K0= λt7=>K .ret (Ze9 s2 t7))(h1:K1= λt8 t9=>K (.exit 0) (Zfa s2 t8 t9))(n:Nat)(t4:Int):Zq N s2 K0 K1 n t4=LM Zac N 0 100002 n (Zfp s2 t4) K:=by
  subst h0 h1
  induction n generalizing t4 with
  |zero=>kernel_rfl
  |succ n ih=>rw[Zq];simp only[ih];kernel_rfl
theorem Zgi(N:Nat)(s1:List Ka):DN Zac N (s1,())=Z4 N s1:=by
  conv=>rhs;rw[Z4];simp(disch:=exact id (by kernel_rfl)) only[Zfq (R:=Unit×Kj) N (CF Zac N [1,0,1,0])]
  kernel_rfl
theorem Zgj(N:Nat):GW 191 (Za1 N):=GF Zac N Tryz.func191 (GC (Zxu N) Wg) (λd=>Zgi N d.1)
def Zas(N:Nat):Sig:=Sig.of [.v Jc false,.clos 154 0] [.v Jq false] (λd=>Zax N d.1)
def Zfv:Fn:=⟨Tryz.f153,WG,Zas,λN=>[(191,Za1 N)]⟩
theorem Zfw(N:Nat):GW 153 (Zas N):=GF Zfv N Tryz.func153 (GC (Zgj N) Wg)
def Znf(N:Nat):Sig:=Sig.of [.v Jc false] [.v Jq false] (λd=>Zhg N d.1)
def Zzu:Fn:=⟨Tryz.f93,WG,Znf,λN=>[(153,Zas N)]⟩
theorem Zzv(N:Nat):GW 93 (Znf N):=GF Zzu N Tryz.func93 (GC (Zfw N) Wg)
def Zlr(N:Nat):Sig:=Sig.of [.v Jah true] [.v Jq false] (λd=>Zg5 N d.1)
def Zls:Fn:=⟨Tryz.f52,λ |2=>[.canon [1,6,7,8,9]]|3=>[.canon [1,4,6,7,8]]|4=>[.canon [1,6,7,8,15]]|5=>[.canon [2]]|6=>[.canon [1,6,7,8]]|100002=>[.canon [1,6,7,8]]|_=>[],Zlr,λN=>[(91,Zov N),(92,Zlp N),(93,Znf N)]⟩
def Zv0(t2:List Kab)(t4:Int)(b5:List Ka×List Kab):St:=⟨[(1,vP 0 0),(6,vV Jw t2),(7,vI (Wi b5.2)),(8,vI t4)],[(0,.box [.val Jc b5.1,.val Jw b5.2])],1⟩
def Ztq(t2:List Kab)(b5:List Ka×List Kab):St:=⟨[(2,vB false)],[],0⟩
def Ztr(t2:List Kab)(b5:List Ka×List Kab)(t8:Int)(t9:Bool):St:=⟨[(1,vP 0 0),(6,vV Jw t2),(7,vI (Wi b5.2)),(8,vI t8),(9,vB t9)],[(0,.box [.val Jc b5.1,.val Jw b5.2])],1⟩
theorem Zv1(N:Nat){R:Type}(K:Ex->St->Option R){t2:List Kab}{b5:List Ka×List Kab}{K0:Option R}{K1:Int->Bool->Option R}(h0:K0=K .ret (Ztq t2 b5))(h1:K1= λt8 t9=>K (.exit 0) (Ztr t2 b5 t8 t9))(n:Nat)(t4:Int):Zde N t2 b5 K0 K1 n t4=LM Zls N 0 100002 n (Zv0 t2 t4 b5) K:=by
  subst h0 h1
  induction n generalizing t4 with
  |zero=>kernel_rfl
  |succ n ih=>rw[Zde];simp only[ih];kernel_rfl
theorem Z1b(N:Nat)(p1:List Ka×List Kab):DN Zls N (p1,())=Zg5 N p1:=by
  conv=>rhs;rw[Zg5];simp(disch:=exact id (by kernel_rfl)) only[Zv1 (R:=Unit×Kq) N (CF Zls N [1,0,1,0])]
  kernel_rfl
theorem Zq0(N:Nat):GW 52 (Zlr N):=GF Zls N Tryz.func52 (GC (Z2n N) (GC (Zqz N) (GC (Zzv N) Wg))) (λd=>Z1b N d.1)
def Zgr(N:Nat):Sig:=Sig.of [.v Je false,.v Ja false] [.v Ja false] (λd=>Zex N d.1 d.2.1)
def Zdm:Fn:=⟨Tryz.f155,λ |2=>[.canon [0,1,7,8,9]]|3=>[.canon [0,1,5,7,8]]|4=>[.canon [0,1,5,7,8,16]]|5=>[.canon [4]]|6=>[.canon [0,1,7,8]]|100002=>[.canon [0,1,7,8]]|_=>[],Zgr,Wbo⟩
def Znw(s3:List Int)(v4:Int)(t6:Int):St:=⟨[(0,vV Je s3),(1,vI v4),(7,vI (Wi s3)),(8,vI t6)],[],0⟩
def Zng(s3:List Int)(v4:Int)(t7:Int):St:=⟨[(4,vI t7)],[],0⟩
def Znh(s3:List Int)(v4:Int)(t8:Int)(t9:Bool):St:=⟨[(0,vV Je s3),(1,vI v4),(7,vI (Wi s3)),(8,vI t8),(9,vB t9)],[],0⟩
theorem Znx(N:Nat){R:Type}(K:Ex->St->Option R){s3:List Int}{v4:Int}{K0:Int->Option R}{K1:Int->Bool->Option R}(h0:K0= λt7=>K .ret (Zng s3 v4 t7))(h1:K1= λt8 t9=>K (.exit 0) (Znh s3 v4 t8 t9))(n:Nat)(t6:Int):Zcq N s3 v4 K0 K1 n t6=LM Zdm N 0 100002 n (Znw s3 v4 t6) K:=by
  subst h0 h1
  induction n generalizing t6 with
  |zero=>kernel_rfl
  |succ n ih=>rw[Zcq];simp only[ih];kernel_rfl
theorem Zo4(N:Nat)(s1:List Int)(v2:Int):DN Zdm N (s1,v2,())=Zex N s1 v2:=by
  conv=>rhs;rw[Zex];simp(disch:=exact id (by kernel_rfl)) only[Znx (R:=Unit×Kj) N (CF Zdm N [1,0,1,0])]
  kernel_rfl
theorem Zo5(N:Nat):GW 155 (Zgr N):=GF Zdm N Tryz.func155 Wg (λd=>Zo4 N d.1 d.2.1)
def Zcn(N:Nat):Sig:=Sig.of [.v Je false,.v Ja false] [.v Jq false] (λd=>Zf8 N d.1 d.2.1)
def Zn5:Fn:=⟨Tryz.f94,WG,Zcn,λN=>[(155,Zgr N)]⟩
theorem Ziu(N:Nat):GW 94 (Zcn N):=GF Zn5 N Tryz.func94 (GC (Zo5 N) Wg)
def Zni(N:Nat):Sig:=Sig.of [.v Je false,.v Ja false] [.v Jq false] (λd=>Zjr N d.1 d.2.1)
def Zka:Fn:=⟨Tryz.f53,λ |2=>[.canon [0,1,7,8,9,10]]|3=>[.canon [0,1,5,6,7,8,9]]|4=>[.canon [0,1,7,8,9,25]]|5=>[.canon [4]]|6=>[.canon [0,1,7,8,9]]|100002=>[.canon [0,1,7,8,9]]|_=>[],Zni,λN=>[(68,Z0 N),(94,Zcn N)]⟩
def Zts(aj:List Int)(bR:Int)(t7:Int):St:=⟨[(0,vV Je aj),(1,vI bR),(7,vV Je aj),(8,vI (Wi aj)),(9,vI t7)],[],0⟩
def Zrx(aj:List Int)(bR:Int):St:=⟨[(4,vB false)],[],0⟩
def Zry(aj:List Int)(bR:Int)(aT:Int)(bi:Bool):St:=⟨[(0,vV Je aj),(1,vI bR),(7,vV Je aj),(8,vI (Wi aj)),(9,vI aT),(10,vB bi)],[],0⟩
theorem Ztt(N:Nat){R:Type}(K:Ex->St->Option R){aj:List Int}{bR:Int}{K0:Option R}{K1:Int->Bool->Option R}(h0:K0=K .ret (Zrx aj bR))(h1:K1= λaT bi=>K (.exit 0) (Zry aj bR aT bi))(n:Nat)(t7:Int):Zis N aj bR K0 K1 n t7=LM Zka N 0 100002 n (Zts aj bR t7) K:=by
  subst h0 h1
  induction n generalizing t7 with
  |zero=>kernel_rfl
  |succ n ih=>rw[Zis];simp only[ih];kernel_rfl
theorem Zzw(N:Nat)(bE:List Int)(bp:Int):DN Zka N (bE,bp,())=Zjr N bE bp:=by
  conv=>rhs;rw[Zjr];simp(disch:=exact id (by kernel_rfl)) only[Ztt (R:=Unit×Kq) N (CF Zka N [1,0,1,0])]
  kernel_rfl
theorem Zzx(N:Nat):GW 53 (Zni N):=GF Zka N Tryz.func53 (GC (Z8 N) (GC (Ziu N) Wg)) (λd=>Zzw N d.1 d.2.1)
def Zcy(N:Nat):Sig:=Sig.of [.v Je false,.v Ja false] [.v Jq false] (λd=>Zag N d.1 d.2.1)
def Ziv:Fn:=⟨Tryz.f36,λ |2=>[.canon [0,1,7,8,9,10]]|3=>[.canon [0,1,6,7,8,9]]|4=>[.canon [0,1,7,8,9,15]]|5=>[.canon [4]]|6=>[.canon [0,1,7,8,9]]|100002=>[.canon [0,1,7,8,9]]|_=>[],Zcy,λN=>[(83,Za2 N)]⟩
def Zq6(l3:List Int)(n4:Int)(t7:Int):St:=⟨[(0,vV Je l3),(1,vI n4),(7,vV Je l3),(8,vI (Wi l3)),(9,vI t7)],[],0⟩
def Zqk(l3:List Int)(n4:Int):St:=⟨[(4,vB false)],[],0⟩
def Zql(l3:List Int)(n4:Int)(aP:Int)(aX:Bool):St:=⟨[(0,vV Je l3),(1,vI n4),(7,vV Je l3),(8,vI (Wi l3)),(9,vI aP),(10,vB aX)],[],0⟩
theorem Zq7(N:Nat){R:Type}(K:Ex->St->Option R){l3:List Int}{n4:Int}{K0:Option R}{K1:Int->Bool->Option R}(h0:K0=K .ret (Zqk l3 n4))(h1:K1= λaP aX=>K (.exit 0) (Zql l3 n4 aP aX))(n:Nat)(t7:Int):Za0 N l3 n4 K0 K1 n t7=LM Ziv N 0 100002 n (Zq6 l3 n4 t7) K:=by
  subst h0 h1
  induction n generalizing t7 with
  |zero=>kernel_rfl
  |succ n ih=>rw[Za0];simp only[ih];kernel_rfl
theorem Zxv(N:Nat)(l1:List Int)(n2:Int):DN Ziv N (l1,n2,())=Zag N l1 n2:=by
  conv=>rhs;rw[Zag];simp(disch:=exact id (by kernel_rfl)) only[Zq7 (R:=Unit×Kq) N (CF Ziv N [1,0,1,0])]
  kernel_rfl
theorem Zgs(N:Nat):GW 36 (Zcy N):=GF Ziv N Tryz.func36 (GC (Zbq N) Wg) (λd=>Zxv N d.1 d.2.1)
def Zmp(N:Nat):Sig:=Sig.of [.v Je false] [.v Jq false] (λd=>Zhp N d.1)
def Zmq:Fn:=⟨Tryz.f95,λ |2=>[.canon [0,5,6,7,8]]|3=>[.canon [0,4,5,6,7]]|4=>[.canon [0,5,6,7,13]]|5=>[.canon [2]]|6=>[.canon [0,5,6,7]]|100002=>[.canon [0,5,6,7]]|_=>[],Zmp,λN=>[(68,Z0 N)]⟩
def Zxw(l2:List Int)(t5:Int):St:=⟨[(0,vV Je l2),(5,vV Je l2),(6,vI (Wi l2)),(7,vI t5)],[],0⟩
def Zv2(l2:List Int):St:=⟨[(2,vB false)],[],0⟩
def Zv3(l2:List Int)(t8:Int)(t9:Bool):St:=⟨[(0,vV Je l2),(5,vV Je l2),(6,vI (Wi l2)),(7,vI t8),(8,vB t9)],[],0⟩
theorem Zxx(N:Nat){R:Type}(K:Ex->St->Option R){l2:List Int}{K0:Option R}{K1:Int->Bool->Option R}(h0:K0=K .ret (Zv2 l2))(h1:K1= λt8 t9=>K (.exit 0) (Zv3 l2 t8 t9))(n:Nat)(t5:Int):Zea N l2 K0 K1 n t5=LM Zmq N 0 100002 n (Zxw l2 t5) K:=by
  subst h0 h1
  induction n generalizing t5 with
  |zero=>kernel_rfl
  |succ n ih=>rw[Zea];simp only[ih];kernel_rfl
theorem Z2o(N:Nat)(l1:List Int):DN Zmq N (l1,())=Zhp N l1:=by
  conv=>rhs;rw[Zhp];simp(disch:=exact id (by kernel_rfl)) only[Zxx (R:=Unit×Kq) N (CF Zmq N [1,0,1,0])]
  kernel_rfl
theorem Zrz(N:Nat):GW 95 (Zmp N):=GF Zmq N Tryz.func95 (GC (Z8 N) Wg) (λd=>Z2o N d.1)
def Zjc(N:Nat):Sig:=Sig.of [.v Jo true] [.v Jq false] (λd=>Zil N d.1)
def Zyx:Fn:=⟨Tryz.f54,WG,Zjc,λN=>[(36,Zcy N),(95,Zmp N),(83,Za2 N)]⟩
theorem Zpp(N:Nat):GW 54 (Zjc N):=GF Zyx N Tryz.func54 (GC (Zgs N) (GC (Zrz N) (GC (Zbq N) Wg)))
def Zv(N:Nat):Sig:=Sig.of [.v Je false] [.v Jaf false] (λd=>Zh N d.1)
def Zyy:Fn:=⟨Tryz.f37,WG,Zv,Wbo⟩
theorem Z3(N:Nat):GW 37 (Zv N):=GF Zyy N Tryz.func37 Wg
def Zk8(N:Nat):Sig:=Sig.of [.v Jo true] [.v Jz true] (λd=>Zbh N d.1)
def Zv4:Fn:=⟨Tryz.f96,WG,Zk8,λN=>[(37,Zv N)]⟩
theorem Zv5(N:Nat):GW 96 (Zk8 N):=GF Zv4 N Tryz.func96 (GC (Z3 N) Wg)
def Zkz(N:Nat):Sig:=Sig.of [.v Jt true,.v Je false] [.v Jaf false,.v Jq false] (λd=>Zgg N d.1 d.2.1)
def Z24:Fn:=⟨Tryz.f97,WG,Zkz,λN=>[(37,Zv N),(151,Zii N),(36,Zcy N)]⟩
theorem Zpe(N:Nat):GW 97 (Zkz N):=GF Z24 N Tryz.func97 (GC (Z3 N) (GC (Zm6 N) (GC (Zgs N) Wg)))
def Zju(N:Nat):Sig:=Sig.of [.v Jc false,.v Ja false] [.v Ja false] (λd=>Zcs N d.1 d.2.1)
def Zmr:Fn:=⟨Tryz.f98,λ |5=>[.canon [0,5,6,25]]|6=>[.canon [0,5,6]]|7=>[.canon [0,5,6]]|8=>[.canon [0,5,6,36]]|9=>[.canon [4]]|100005=>[.canon [0,5,6]]|_=>[],Zju,λN=>[(68,Z0 N),(156,Zjt N)]⟩
def Zxy(aS:List Ka)(n5:Int)(k6:Int):St:=⟨[(0,vV Jc aS),(5,vI n5),(6,vI k6)],[],0⟩
def Zv6(aS:List Ka)(t8:Int):St:=⟨[(4,vI t8)],[],0⟩
def Zv7(aS:List Ka)(n9:Int)(k10:Int)(aX:Bool):St:=⟨[(0,vV Jc aS),(5,vI n9),(6,vI k10),(25,vB aX)],[],0⟩
theorem Zxz(N:Nat){R:Type}(K:Ex->St->Option R){aS:List Ka}{K0:Int->Option R}{K1:Int->Int->Bool->Option R}(h0:K0= λt8=>K .ret (Zv6 aS t8))(h1:K1= λn9 k10 aX=>K (.exit 0) (Zv7 aS n9 k10 aX))(n:Nat)(n5:Int)(k6:Int):Zd9 N aS K0 K1 n n5 k6=LM Zmr N 0 100005 n (Zxy aS n5 k6) K:=by
  subst h0 h1
  induction n generalizing n5 k6 with
  |zero=>kernel_rfl
  |succ n ih=>rw[Zd9];simp only[ih];kernel_rfl
theorem Z2p(N:Nat)(af:List Ka)(i2:Int):DN Zmr N (af,i2,())=Zcs N af i2:=by
  conv=>rhs;rw[Zcs];simp(disch:=exact id (by kernel_rfl)) only[Zxz (R:=Unit×Kj) N (CF Zmr N [1,1,1,0,1,0])]
  kernel_rfl
theorem Zow(N:Nat):GW 98 (Zju N):=GF Zmr N Tryz.func98 (GC (Z8 N) (GC (Zou N) Wg)) (λd=>Z2p N d.1 d.2.1)
def Zl8(N:Nat):Sig:=Sig.of [.v Je false,.v Ja false] [.v Jaf false] (λd=>Zed N d.1 d.2.1)
def Ziw:Fn:=⟨Tryz.f99,λ |3=>[.canon [0,5,9,10,11]]|4=>[.canon [0,5,6,9,10]]|5=>[.canon [0,5,6,9,10,16]]|6=>[.canon [0,5,9,10]]|7=>[.canon [0,5,9,10]]|100003=>[.canon [0,5,9,10]]|_=>[],Zl8,λN=>[(37,Zv N),(94,Zcn N)]⟩
def Zq8(cw:List Int)(t5:Int)(t6:Int)(l7:List Int):St:=⟨[(0,vV Je cw),(5,vO 0),(9,vI t5),(10,vI t6)],[(0,.arr Ja l7)],1⟩
def Zqm(cw:List Int)(t5:Int)(t9:Int)(aP:Bool)(aF:List Int):St:=⟨[(0,vV Je cw),(5,vO 0),(9,vI t5),(10,vI t9),(11,vB aP)],[(0,.arr Ja aF)],1⟩
theorem Zq9(N:Nat){R:Type}(K:Ex->St->Option R){cw:List Int}{t5:Int}{K0:Int->Bool->Kg->Option R}(h0:K0= λt9 aP aF=>K (.exit 0) (Zqm cw t5 t9 aP aF))(n:Nat)(t6:Int)(l7:List Int):Ze7 N cw t5 K0 n t6 l7=LM Ziw N 0 100003 n (Zq8 cw t5 t6 l7) K:=by
  subst h0
  induction n generalizing t6 l7 with
  |zero=>kernel_rfl
  |succ n ih=>rw[Ze7];simp only[ih];kernel_rfl
theorem Zx0(N:Nat)(bE:List Int)(bp:Int):DN Ziw N (bE,bp,())=Zed N bE bp:=by
  conv=>rhs;rw[Zed];simp(disch:=exact id (by kernel_rfl)) only[Zq9 (R:=Unit×Kv) N (CF Ziw N [1,1,0,1,0])]
  kernel_rfl
theorem Zx1(N:Nat):GW 99 (Zl8 N):=GF Ziw N Tryz.func99 (GC (Z3 N) (GC (Ziu N) Wg)) (λd=>Zx0 N d.1 d.2.1)
def Zox(N:Nat):Sig:=Sig.of [.v Jt true,.mut Ja,.box Jz] [] (λd=>Zl2 N d.1 d.2.1 d.2.2.1)
def Z2q:Fn:=⟨Tryz.f100,WG,Zox,Wbo⟩
theorem Z2r(N:Nat):GW 100 (Zox N):=GF Z2q N Tryz.func100 Wg
def Zkb(N m:Nat):Sig:=Sig.of [.v Jc false,.v Jw false,.v Je false,.v Je false,.v Jo true] [.v Jm true] (λd=>Ze8 N m d.1 d.2.1 d.2.2.1 d.2.2.2.1 d.2.2.2.2.1)
def Zq1(N:Nat):Sig:=Zkb N N
def Zgx(m:Nat):Fn:=⟨Tryz.f55,λ |3=>[.empt 25 Jm]|5=>[.canon [0,1,2,3,9,10,11,12,13,29]]|6=>[.canon [0,1,2,3,9,10,11,12,13]]|7=>[.canon [0,1,2,3,9,10,11,12,13,14]]|8=>[.canon [0,1,2,3,9,10,11,12,13,14,37]]|9=>[.canon [0,1,2,3,9,10,11,12,13]]|10=>[.canon [0,1,2,3,9,10,11,12,13,14,37,41]]|11=>[.canon [0,1,2,3,9,10,11,12,13,14,37,41]]|12=>[.canon [0,1,2,3,9,10,11,12,13,14,37,41]]|13=>[.canon [0,1,2,3,9,10,11,12,13,14,37,41]]|14=>[.canon [0,1,2,3,9,10,11,12,13]]|15=>[.canon [0,1,2,3,9,10,11,12,13,14,37,52]]|16=>[.canon [0,1,2,3,9,10,11,12,13,14,59]]|17=>[.canon [0,1,2,3,9,10,11,12,13]]|18=>[.canon [0,1,2,3,9,10,11,12,13,14,37,64]]|19=>[.nest 73 Jm,.canon [0,1,2,3,9,10,11,12,13]]|20=>[.canon [0,1,2,3,9,10,11,12,13,14,37,75]]|21=>[.opn 81,.canon [0,1,2,3,9,10,11,12,13,15]]|22=>[.canon [0,1,2,3,9,10,11,12,13,15]]|23=>[.canon [0,1,2,3,9,10,11,12,13]]|24=>[.canon [0,1,2,3,9,10,11,12,13,14,37,96]]|25=>[.canon [0,1,2,3,9,10,11,12,100]]|26=>[.canon [10]]|27=>[.opn 109,.canon [0,1,2,9,10,11,12,16]]|28=>[.canon [0,1,2,9,10,11,12,16]]|29=>[.canon [0,1,2,3,9,10,11,12,16]]|30=>[.canon [0,1,2,3,9,10,11,12,16]]|31=>[.canon [0,1,2,3,9,10,11,12,13]]|32=>[.canon [0,1,2,3,9,10,11,12,13,14,132]]|33=>[.canon [0,1,2,3,9,10,11,12,13,17]]|34=>[.canon [0,1,2,3,9,10,11,12,13,17,139,140,141]]|35=>[.canon [0,1,2,3,9,10,11,12,13,17,139,140,141,142]]|36=>[.canon [0,1,2,3,9,10,11,12,13,17,19,139,140,141]]|37=>[.canon [0,1,2,3,9,10,11,12,13,17,19,20,139,140,141]]|38=>[.canon [0,1,2,3,9,10,11,12,13,17,19,20,139,140,141]]|39=>[.canon [0,1,2,3,9,10,11,12,13,17,19,20,139,140,141]]|40=>[.canon [0,1,2,3,9,10,11,12,13,17,19,20,139,140,141,165]]|41=>[.canon [0,1,2,3,9,10,11,12,13,17,139,140,141]]|42=>[.canon [0,1,2,3,9,10,11,12,13,17,139,140,141]]|100005=>[.canon [0,1,2,3,9,10,11,12,13]]|100035=>[.canon [0,1,2,3,9,10,11,12,13,17,139,140,141]]|_=>[],λN=>Zkb N (m+1),λN=>[(37,Zv N),(96,Zk8 N),(97,Zkz N),(98,Zju N),(99,Zl8 N),(55,Zkb N m),(100,Zox N)]⟩
def Zv8(bM:List Ka)(bc:List Kab)(bh:List Int)(jR:Int)(iF:Int)(cT:Int)(co:List Int)(df:List Int×List Int×Int)(fb:Int)(jS:Int)(jT:Int)(fh:List Ke)(cz:List Int)(bw:List Int)(fE:List Int)(dx:List Int):St:=⟨[(0,vV Jc bM),(1,vV Jw bc),(2,vV Je bh),(3,vO 0),(9,vP 1 0),(10,vP 2 0),(11,vP 3 0),(12,vO 4),(13,vI jR),(17,vO 5),(139,vO 6),(140,vI iF),(141,vI cT)],[(0,.arr Ja co),(1,.box [.val Je df.1,.val Je df.2.1,.val Ja df.2.2]),(2,.box [.val Ja fb,.nils,.nils,.nils,.val Ja jS]),(3,.box [.own 7,.own 8,.val Ja jT]),(4,.arr Jm fh),(5,.arr Ja cz),(6,.arr Ja bw),(7,.arr Ja fE),(8,.arr Ja dx)],9⟩
def Ztu(bM:List Ka)(bc:List Kab)(bh:List Int)(jR:Int)(iF:Int)(df:List Int×List Int×Int)(fb:Int)(jS:Int)(jT:Int)(fh:List Ke)(cz:List Int)(bw:List Int)(dx:List Int)(oN:Int)(t50:Bool)(lB:List Int)(xh:List Int):St:=⟨[(0,vV Jc bM),(1,vV Jw bc),(2,vV Je bh),(3,vO 0),(9,vP 1 0),(10,vP 2 0),(11,vP 3 0),(12,vO 4),(13,vI jR),(17,vO 5),(139,vO 6),(140,vI iF),(141,vI oN),(142,vB t50)],[(0,.arr Ja lB),(1,.box [.val Je df.1,.val Je df.2.1,.val Ja df.2.2]),(2,.box [.val Ja fb,.nils,.nils,.nils,.val Ja jS]),(3,.box [.own 7,.own 8,.val Ja jT]),(4,.arr Jm fh),(5,.arr Ja cz),(6,.arr Ja bw),(7,.arr Ja xh),(8,.arr Ja dx)],9⟩
theorem Zv9(N m:Nat){R:Type}(K:Ex->St->Option R){bM:List Ka}{bc:List Kab}{bh:List Int}{jR:Int}{iF:Int}{df:List Int×List Int×Int}{fb:Int}{jS:Int}{jT:Int}{fh:List Ke}{cz:List Int}{bw:List Int}{dx:List Int}{K0:Int->Bool->Kg->Kg->Option R}(h0:K0= λoN t50 lB xh=>K (.exit 3) (Ztu bM bc bh jR iF df fb jS jT fh cz bw dx oN t50 lB xh))(n:Nat)(cT:Int)(co:List Int)(fE:List Int):Zaz N (Ze8 N m) bM bc bh jR iF df fb jS jT fh cz bw dx K0 n cT co fE=LM (Zgx m) N 1 100035 n (Zv8 bM bc bh jR iF cT co df fb jS jT fh cz bw fE dx) K:=by
  subst h0
  induction n generalizing cT co fE with
  |zero=>kernel_rfl
  |succ n ih=>rw[Zaz];simp only[ih];kernel_rfl
def Zwa(aa:List Ka)(ai:List Kab)(ab:List Int)(aL:Int)(aw:List Int)(aB:List Int×List Int×Int)(ak:Int)(ae:List Ke)(aI:List Int)(aM:List Int):St:=⟨[(0,vV Jc aa),(1,vV Jw ai),(2,vV Je ab),(3,vO 0),(9,vP 1 0),(10,vP 2 0),(11,vP 3 0),(12,vO 4),(13,vI aL)],[(0,.arr Ja aw),(1,.box [.val Je aB.1,.val Je aB.2.1,.val Ja aB.2.2]),(2,.box [.val Ja (0:Int),.nils,.nils,.nils,.val Ja (0:Int)]),(3,.box [.own 5,.own 6,.val Ja ak]),(4,.arr Jm ae),(5,.arr Ja aI),(6,.arr Ja aM)],7⟩
def Ztv(aa:List Ka)(ai:List Kab)(ab:List Int)(aB:List Int×List Int×Int)(jq:Int)(jr:List Int)(jt:List Int)(ju:List Int):St:=⟨[(10,vP 0 0)],[(0,.box [.val Ja (2:Int),.own 1,.own 2,.own 3,.val Ja jq]),(1,.arr Ja jr),(2,.arr Ja jt),(3,.arr Ja ju)],4⟩
def Ztw(aa:List Ka)(ai:List Kab)(ab:List Int)(aB:List Int×List Int×Int)(qg:Int)(gI:Bool)(qh:List Int)(qi:Int)(qj:List Ke)(qk:List Int)(ql:List Int):St:=⟨[(0,vV Jc aa),(1,vV Jw ai),(2,vV Je ab),(3,vO 0),(9,vP 1 0),(10,vP 2 0),(11,vP 3 0),(12,vO 4),(13,vI qg),(29,vB gI)],[(0,.arr Ja qh),(1,.box [.val Je aB.1,.val Je aB.2.1,.val Ja aB.2.2]),(2,.box [.val Ja (0:Int),.nils,.nils,.nils,.val Ja (0:Int)]),(3,.box [.own 5,.own 6,.val Ja qi]),(4,.arr Jm qj),(5,.arr Ja qk),(6,.arr Ja ql)],7⟩
theorem Zwb(N m:Nat){R:Type}(K:Ex->St->Option R){aa:List Ka}{ai:List Kab}{ab:List Int}{aB:List Int×List Int×Int}{K0:Int->Kg->Kg->Kg->Option R}{K1:Int->Bool->Kg->Int->(List Ke)->Kg->Kg->Option R}(h0:K0= λjq jr jt ju=>K .ret (Ztv aa ai ab aB jq jr jt ju))(h1:K1= λqg gI qh qi qj qk ql=>K (.exit 0) (Ztw aa ai ab aB qg gI qh qi qj qk ql))(n:Nat)(aL:Int)(aw:List Int)(ak:Int)(ae:List Ke)(aI:List Int)(aM:List Int):Zf N (Ze8 N m) aa ai ab aB K0 K1 n aL aw ak ae aI aM=LM (Zgx m) N 0 100005 n (Zwa aa ai ab aL aw aB ak ae aI aM) K:=by
  subst h0 h1
  induction n generalizing aL aw ak ae aI aM with
  |zero=>kernel_rfl
  |succ n ih=>rw[Zf];simp(disch:=exact id (by kernel_rfl)) only[ih,Zv9 N m (CL (Zgx m) N 0 100005 [1,0,0,1,1,0,1,1,1,1,1,1,1,1,1,1,1,0,1,1,0] n K)];kernel_rfl
theorem Z1c(N m:Nat)(af:List Ka)(bp:List Kab)(aj:List Int)(cF:List Int)(dG:List Int×List Int×Int):DN (Zgx m) N (af,bp,aj,cF,dG,())=Ze8 N (m+1) af bp aj cF dG:=by
  conv=>rhs;rw[Ze8];simp(disch:=exact id (by kernel_rfl)) only[Zwb (R:=Unit×(Ke×Unit)) N m (CF (Zgx m) N [1,1,1,1,0,1,0])]
  kernel_rfl
theorem Zp8(N:Nat):∀m,GW 55 (Zkb N m)
  |0=>⟨Wcu Tryz.func55 (show Wmk Tryz.f55=true by kernel_rfl),λd o h=>nomatch (show none=some o from h)⟩
  |m+1=>GF (Zgx m) N Tryz.func55 (GC (Z3 N) (GC (Zv5 N) (GC (Zpe N) (GC (Zow N) (GC (Zx1 N) (GC (Zp8 N m) (GC (Z2r N) Wg))))))) (λd=>Z1c N m d.1 d.2.1 d.2.2.1 d.2.2.2.1 d.2.2.2.2.1)
theorem Z1d(N:Nat):GW 55 (Zq1 N):=Zp8 N N
def Zn6(N:Nat):Sig:=Sig.of [.v Jah true,.v Je false,.v Jo true] [.v Jm true] (λd=>Zkx N d.1 d.2.1 d.2.2.1)
def Z1e:Fn:=⟨Tryz.f18,WG,Zn6,λN=>[(52,Zlr N),(53,Zni N),(54,Zjc N),(55,Zq1 N)]⟩
theorem Z1f(N:Nat):GW 18 (Zn6 N):=GF Z1e N Tryz.func18 (GC (Zq0 N) (GC (Zzx N) (GC (Zpp N) (GC (Z1d N) Wg))))
def Zn7(N:Nat):Sig:=Sig.of [.v Je false] [.v Jq false] (λd=>Zia N d.1)
def Zlt:Fn:=⟨Tryz.f49,λ |4=>[.canon [0,3,10]]|5=>[.canon [0,3]]|6=>[.canon [0,3,18]]|7=>[.canon [2]]|100004=>[.canon [0,3]]|_=>[],Zn7,λN=>[(50,Zhl N)]⟩
def Zwc(l2:List Int)(i3:Int):St:=⟨[(0,vV Je l2),(3,vI i3)],[],0⟩
def Ztx(l2:List Int):St:=⟨[(2,vB false)],[],0⟩
def Zty(l2:List Int)(i5:Int)(t6:Bool):St:=⟨[(0,vV Je l2),(3,vI i5),(10,vB t6)],[],0⟩
theorem Zwd(N:Nat){R:Type}(K:Ex->St->Option R){l2:List Int}{K0:Option R}{K1:Int->Bool->Option R}(h0:K0=K .ret (Ztx l2))(h1:K1= λi5 t6=>K (.exit 0) (Zty l2 i5 t6))(n:Nat)(i3:Int):Zc9 N l2 K0 K1 n i3=LM Zlt N 0 100004 n (Zwc l2 i3) K:=by
  subst h0 h1
  induction n generalizing i3 with
  |zero=>kernel_rfl
  |succ n ih=>rw[Zc9];simp only[ih];kernel_rfl
theorem Z1g(N:Nat)(l1:List Int):DN Zlt N (l1,())=Zia N l1:=by
  conv=>rhs;rw[Zia];simp(disch:=exact id (by kernel_rfl)) only[Zwd (R:=Unit×Kq) N (CF Zlt N [1,1,0,1,0])]
  kernel_rfl
theorem Z1h(N:Nat):GW 49 (Zn7 N):=GF Zlt N Tryz.func49 (GC (Zmm N) Wg) (λd=>Z1g N d.1)
def Zjd(N:Nat):Sig:=Sig.of [.v Jo true] [.v Jq false] (λd=>Ze5 N d.1)
def Zje:Fn:=⟨Tryz.f17,λ |4=>[.canon [1,3,24]]|5=>[.canon [1,3]]|6=>[.canon [1,3,33]]|7=>[.canon [2]]|100004=>[.canon [1,3]]|_=>[],Zjd,λN=>[(49,Zn7 N),(50,Zhl N),(51,Zfu N)]⟩
def Zr0(i4:Int)(b5:List Int×List Int×Int):St:=⟨[(1,vP 0 0),(3,vI i4)],[(0,.box [.val Je b5.1,.val Je b5.2.1,.val Ja b5.2.2])],1⟩
def Zra(b5:List Int×List Int×Int):St:=⟨[(2,vB false)],[],0⟩
def Zrb(b5:List Int×List Int×Int)(i7:Int)(t8:Bool):St:=⟨[(1,vP 0 0),(3,vI i7),(24,vB t8)],[(0,.box [.val Je b5.1,.val Je b5.2.1,.val Ja b5.2.2])],1⟩
theorem Zr1(N:Nat){R:Type}(K:Ex->St->Option R){b5:List Int×List Int×Int}{K0:Option R}{K1:Int->Bool->Option R}(h0:K0=K .ret (Zra b5))(h1:K1= λi7 t8=>K (.exit 0) (Zrb b5 i7 t8))(n:Nat)(i4:Int):Zbr N b5 K0 K1 n i4=LM Zje N 0 100004 n (Zr0 i4 b5) K:=by
  subst h0 h1
  induction n generalizing i4 with
  |zero=>kernel_rfl
  |succ n ih=>rw[Zbr];simp only[ih];kernel_rfl
theorem Zyz(N:Nat)(s1:List Int×List Int×Int):DN Zje N (s1,())=Ze5 N s1:=by
  conv=>rhs;rw[Ze5];simp(disch:=exact id (by kernel_rfl)) only[Zr1 (R:=Unit×Kq) N (CF Zje N [1,1,0,1,0])]
  kernel_rfl
theorem Zpq(N:Nat):GW 17 (Zjd N):=GF Zje N Tryz.func17 (GC (Z1h N) (GC (Zmm N) (GC (Zih N) Wg))) (λd=>Zyz N d.1)
def Zk9(N:Nat):Sig:=Sig.of [.v Jah true] [.v Jq false] (λd=>Zi6 N d.1)
def Zwe:Fn:=⟨Tryz.f63,WG,Zk9,λN=>[(52,Zlr N)]⟩
theorem Zwf(N:Nat):GW 63 (Zk9 N):=GF Zwe N Tryz.func63 (GC (Zq0 N) Wg)
def Zao(N:Nat):Sig:=Sig.of [.v Jn false,.clos 63 0] [.v Ja false] (λd=>Zx N d.1)
def Z9:Fn:=⟨Tryz.f111,λ |2=>[.canon [0,1,7,8,9]]|3=>[.canon [0,1,5,7,8]]|4=>[.canon [0,1,5,7,8,16]]|5=>[.canon [1,4]]|6=>[.canon [0,1,7,8]]|100002=>[.canon [0,1,7,8]]|_=>[],Zao,λN=>[(63,Zk9 N)]⟩
def Zee(s2:List Kn)(t4:Int):St:=⟨[(0,vV Jn s2),(1,.s (.one (.clos 63 []))),(7,vI (Wi s2)),(8,vI t4)],[],0⟩
def Zdx(s2:List Kn)(t7:Int):St:=⟨[(1,.s (.one (.clos 63 []))),(4,vI t7)],[],0⟩
def Zdy(s2:List Kn)(t8:Int)(t9:Bool):St:=⟨[(0,vV Jn s2),(1,.s (.one (.clos 63 []))),(7,vI (Wi s2)),(8,vI t8),(9,vB t9)],[],0⟩
theorem Zef(N:Nat){R:Type}(K:Ex->St->Option R){s2:List Kn}{K0:Int->Option R}{K1:Int->Bool->Option R}(h0:K0= λt7=>K .ret (Zdx s2 t7))(h1:K1= λt8 t9=>K (.exit 0) (Zdy s2 t8 t9))(n:Nat)(t4:Int):Zg N s2 K0 K1 n t4=LM Z9 N 0 100002 n (Zee s2 t4) K:=by
  subst h0 h1
  induction n generalizing t4 with
  |zero=>kernel_rfl
  |succ n ih=>rw[Zg];simp only[ih];kernel_rfl
theorem Zfb(N:Nat)(s1:List Kn):DN Z9 N (s1,())=Zx N s1:=by
  conv=>rhs;rw[Zx];simp(disch:=exact id (by kernel_rfl)) only[Zef (R:=Unit×Kj) N (CF Z9 N [1,0,1,0])]
  kernel_rfl
theorem Zfc(N:Nat):GW 111 (Zao N):=GF Z9 N Tryz.func111 (GC (Zwf N) Wg) (λd=>Zfb N d.1)
def Zaj(N:Nat):Sig:=Sig.of [.v Jn false,.clos 63 0] [.v Jq false] (λd=>Zal N d.1)
def Zes:Fn:=⟨Tryz.f62,WG,Zaj,λN=>[(111,Zao N)]⟩
theorem Zet(N:Nat):GW 62 (Zaj N):=GF Zes N Tryz.func62 (GC (Zfc N) Wg)
def Zjf(N:Nat):Sig:=Sig.of [.v Jae true] [.v Jq false] (λd=>Zim N d.1)
def Zy0:Fn:=⟨Tryz.f27,WG,Zjf,λN=>[(54,Zjc N),(62,Zaj N)]⟩
theorem Zpr(N:Nat):GW 27 (Zjf N):=GF Zy0 N Tryz.func27 (GC (Zpp N) (GC (Zet N) Wg))
def Znj(N:Nat):Sig:=Sig.of [] [.v Jaf false] (λd=>Zoo N)
def Zzy:Fn:=⟨Tryz.f112,WG,Znj,Wbo⟩
theorem Zzz(N:Nat):GW 112 (Znj N):=GF Zzy N Tryz.func112 Wg
def Zlu(N:Nat):Sig:=Sig.of [.v Ja false,.v Ja false] [.v Ja false] (λd=>Zie N d.1 d.2.1)
def Z1i:Fn:=⟨Tryz.f104,WG,Zlu,Wbo⟩
theorem Zq2(N:Nat):GW 104 (Zlu N):=GF Z1i N Tryz.func104 Wg
def Zms(N:Nat):Sig:=Sig.of [.v Ja false] [.v Ja false] (λd=>Zhq N d.1)
def Z2s:Fn:=⟨Tryz.f106,WG,Zms,Wbo⟩
theorem Zr2(N:Nat):GW 106 (Zms N):=GF Z2s N Tryz.func106 Wg
def Zjg(N:Nat):Sig:=Sig.of [.v Ja false] [.v Ja false] (λd=>Zin N d.1)
def Zy1:Fn:=⟨Tryz.f105,WG,Zjg,λN=>[(107,Zer N)]⟩
theorem Zps(N:Nat):GW 105 (Zjg N):=GF Zy1 N Tryz.func105 (GC (Zhm N) Wg)
def Zeg(N:Nat):Sig:=Sig.of [.v Je false] [.v Jq false] (λd=>Zcb N d.1)
def Zkc:Fn:=⟨Tryz.f58,λ |5=>[.canon [3,9,10,11,12]]|6=>[.canon [3,4,5,9,10,11]]|7=>[.canon [3,4,5,9,10,11,17]]|8=>[.canon [3,5,9,10,11,35]]|9=>[.canon [2]]|10=>[.canon [3,9,10,11]]|11=>[.canon [3,9,10,11]]|100005=>[.canon [3,9,10,11]]|_=>[],Zeg,λN=>[(104,Zlu N),(68,Z0 N),(106,Zms N),(105,Zjg N)]⟩
def Ztz(t2:List Int)(t4:Int)(l5:List Bool):St:=⟨[(3,.s (.one (.aptr 0))),(9,vV Je t2),(10,vI (Wi t2)),(11,vI t4)],[(0,.arr Jq l5)],1⟩
def Zr3(t2:List Int):St:=⟨[(2,vB false)],[],0⟩
def Zr4(t2:List Int)(je:Int)(jj:Bool)(aG:List Bool):St:=⟨[(3,.s (.one (.aptr 0))),(9,vV Je t2),(10,vI (Wi t2)),(11,vI je),(12,vB jj)],[(0,.arr Jq aG)],1⟩
theorem Zt0(N:Nat){R:Type}(K:Ex->St->Option R){t2:List Int}{K0:Option R}{K1:Int->Bool->(List Bool)->Option R}(h0:K0=K .ret (Zr3 t2))(h1:K1= λje jj aG=>K (.exit 0) (Zr4 t2 je jj aG))(n:Nat)(t4:Int)(l5:List Bool):Zb5 N t2 K0 K1 n t4 l5=LM Zkc N 0 100005 n (Ztz t2 t4 l5) K:=by
  subst h0 h1
  induction n generalizing t4 l5 with
  |zero=>kernel_rfl
  |succ n ih=>rw[Zb5];simp only[ih];kernel_rfl
theorem Zz0(N:Nat)(l1:List Int):DN Zkc N (l1,())=Zcb N l1:=by
  conv=>rhs;rw[Zcb];simp(disch:=exact id (by kernel_rfl)) only[Zt0 (R:=Unit×Kq) N (CF Zkc N [1,1,1,0,1,0])]
  kernel_rfl
theorem Zhw(N:Nat):GW 58 (Zeg N):=GF Zkc N Tryz.func58 (GC (Zq2 N) (GC (Z8 N) (GC (Zr2 N) (GC (Zps N) Wg)))) (λd=>Zz0 N d.1)
def Zk0(N:Nat):Sig:=Sig.of [.v Je false,.v Ja false] [.v Ja false] (λd=>Zgh N d.1 d.2.1)
def Zm7:Fn:=⟨Tryz.f108,λ |2=>[.canon [1,7,8,9,10]]|3=>[.canon [1,5,6,7,8,9]]|4=>[.canon [1,5,7,8,9,21]]|5=>[.canon [4]]|6=>[.canon [1,7,8,9]]|100002=>[.canon [1,7,8,9]]|_=>[],Zk0,λN=>[(106,Zms N)]⟩
def Zy2(ew:Int)(t4:List Int)(t6:Int):St:=⟨[(1,vI ew),(7,vV Je t4),(8,vI (Wi t4)),(9,vI t6)],[],0⟩
def Zx2(ew:Int)(t4:List Int)(t9:Int):St:=⟨[(4,vI t9)],[],0⟩
def Zx3(ew:Int)(t4:List Int)(aP:Int)(aX:Bool):St:=⟨[(1,vI ew),(7,vV Je t4),(8,vI (Wi t4)),(9,vI aP),(10,vB aX)],[],0⟩
theorem Zy3(N:Nat){R:Type}(K:Ex->St->Option R){ew:Int}{t4:List Int}{K0:Int->Option R}{K1:Int->Bool->Option R}(h0:K0= λt9=>K .ret (Zx2 ew t4 t9))(h1:K1= λaP aX=>K (.exit 0) (Zx3 ew t4 aP aX))(n:Nat)(t6:Int):Zdj N ew t4 K0 K1 n t6=LM Zm7 N 0 100002 n (Zy2 ew t4 t6) K:=by
  subst h0 h1
  induction n generalizing t6 with
  |zero=>kernel_rfl
  |succ n ih=>rw[Zdj];simp only[ih];kernel_rfl
theorem Z25(N:Nat)(l1:List Int)(cu:Int):DN Zm7 N (l1,cu,())=Zgh N l1 cu:=by
  conv=>rhs;rw[Zgh];simp(disch:=exact id (by kernel_rfl)) only[Zy3 (R:=Unit×Kj) N (CF Zm7 N [1,0,1,0])]
  kernel_rfl
theorem Zpf(N:Nat):GW 108 (Zk0 N):=GF Zm7 N Tryz.func108 (GC (Zr2 N) Wg) (λd=>Z25 N d.1 d.2.1)
def Zf9(N:Nat):Sig:=Sig.of [.v Je false,.v Ja false] [.v Ja false,.v Jq false] (λd=>Zf3 N d.1 d.2.1)
def Zz1:Fn:=⟨Tryz.f59,WG,Zf9,λN=>[(58,Zeg N),(107,Zer N),(108,Zk0 N)]⟩
theorem Zkd(N:Nat):GW 59 (Zf9 N):=GF Zz1 N Tryz.func59 (GC (Zhw N) (GC (Zhm N) (GC (Zpf N) Wg)))
def Zhx(N:Nat):Sig:=Sig.of [.v Je false,.v Ja false,.v Ja false] [.v Jaf false,.v Ja false,.v Jq false] (λd=>Zen N d.1 d.2.1 d.2.2.1)
def Zke:Fn:=⟨Tryz.f113,λ |10=>[.canon [1,2,9,13,57]]|11=>[.canon [1,2,9,13]]|100010=>[.canon [1,2,9,13]]|_=>[],Zhx,λN=>[(37,Zv N),(58,Zeg N),(107,Zer N),(83,Za2 N),(108,Zk0 N),(59,Zf9 N),(104,Zlu N),(105,Zjg N)]⟩
def Zt1(dT:Int)(mR:Int)(fx:Int)(cq:List Int):St:=⟨[(1,vI dT),(2,vI mR),(9,vO 0),(13,vI fx)],[(0,.arr Ja cq)],1⟩
def Zr5(dT:Int)(mR:Int)(cq:List Int)(qm:Int)(eU:Bool):St:=⟨[(1,vI dT),(2,vI mR),(9,vO 0),(13,vI qm),(57,vB eU)],[(0,.arr Ja cq)],1⟩
theorem Zt2(N:Nat){R:Type}(K:Ex->St->Option R){dT:Int}{mR:Int}{cq:List Int}{K0:Int->Bool->Option R}(h0:K0= λqm eU=>K (.exit 0) (Zr5 dT mR cq qm eU))(n:Nat)(fx:Int):Zcu N dT mR cq K0 n fx=LM Zke N 0 100010 n (Zt1 dT mR fx cq) K:=by
  subst h0
  induction n generalizing fx with
  |zero=>kernel_rfl
  |succ n ih=>rw[Zcu];simp only[ih];kernel_rfl
theorem Zz2(N:Nat)(l1:List Int)(cu:Int)(v3:Int):DN Zke N (l1,cu,v3,())=Zen N l1 cu v3:=by
  conv=>rhs;rw[Zen];simp(disch:=exact id (by kernel_rfl)) only[Zt2 (R:=Unit×(Kg×Km)) N (CF Zke N [1,1,1,1,1,0,0])]
  kernel_rfl
theorem Znk(N:Nat):GW 113 (Zhx N):=GF Zke N Tryz.func113 (GC (Z3 N) (GC (Zhw N) (GC (Zhm N) (GC (Zbq N) (GC (Zpf N) (GC (Zkd N) (GC (Zq2 N) (GC (Zps N) Wg)))))))) (λd=>Zz2 N d.1 d.2.1 d.2.2.1)
def Zl9(N:Nat):Sig:=Sig.of [.v Je false] [.v Jaf false] (λd=>Zbb N d.1)
def Zix:Fn:=⟨Tryz.f64,λ |5=>[.canon [3,10,11,12,13]]|6=>[.canon [3,4,5,10,11,12]]|7=>[.canon [3,4,5,10,11,12,18]]|8=>[.canon [3,10,11,12]]|9=>[.canon [3,10,11,12]]|100005=>[.canon [3,10,11,12]]|_=>[],Zl9,λN=>[(95,Zmp N),(112,Znj N),(113,Zhx N)]⟩
def Zrc(t4:List Int)(t6:Int)(l7:List Int):St:=⟨[(3,vO 0),(10,vV Je t4),(11,vI (Wi t4)),(12,vI t6)],[(0,.arr Ja l7)],1⟩
def Zqn(t4:List Int)(aP:Int)(aX:Bool)(aw:List Int):St:=⟨[(3,vO 0),(10,vV Je t4),(11,vI (Wi t4)),(12,vI aP),(13,vB aX)],[(0,.arr Ja aw)],1⟩
theorem Zrd(N:Nat){R:Type}(K:Ex->St->Option R){t4:List Int}{K0:Int->Bool->Kg->Option R}(h0:K0= λaP aX aw=>K (.exit 0) (Zqn t4 aP aX aw))(n:Nat)(t6:Int)(l7:List Int):Zbl N t4 K0 n t6 l7=LM Zix N 0 100005 n (Zrc t4 t6 l7) K:=by
  subst h0
  induction n generalizing t6 l7 with
  |zero=>kernel_rfl
  |succ n ih=>rw[Zbl];simp only[ih];kernel_rfl
theorem Zx4(N:Nat)(m1:List Int):DN Zix N (m1,())=Zbb N m1:=by
  conv=>rhs;rw[Zbb];simp(disch:=exact id (by kernel_rfl)) only[Zrd (R:=Unit×Kv) N (CF Zix N [1,1,1,0,1,0])]
  kernel_rfl
theorem Zx5(N:Nat):GW 64 (Zl9 N):=GF Zix N Tryz.func64 (GC (Zrz N) (GC (Zzz N) (GC (Znk N) Wg))) (λd=>Zx4 N d.1)
def Zn8(N:Nat):Sig:=Sig.of [.v Je false] [.v Jag true,.v Jq false] (λd=>Zb8 N d.1)
def Zlv:Fn:=⟨Tryz.f65,λ |5=>[.canon [2,4,12,13,14,15]]|6=>[.canon [2,4,6,12,13,14]]|7=>[.canon [2,4,12,13,14]]|8=>[.canon [2,4,12,13,14]]|100005=>[.adoptC 4 1 Jj,.canon [2,4,12,13,14]]|_=>[],Zn8,λN=>[(36,Zcy N)]⟩
def Zwg(t3:List Int)(t5:Int)(l8:List Kb):St:=⟨[(2,vP 0 0),(4,vP 1 0),(12,vV Je t3),(13,vI (Wi t3)),(14,vI t5)],[(0,.box [.val Ja (0:Int),.nils]),(1,.box [.val Ja (0:Int),.own 2]),(2,.arr Jj l8)],3⟩
def Zt3(t3:List Int)(t9:Int)(aP:Bool)(aF:List Kb):St:=⟨[(2,vP 0 0),(4,vP 1 0),(12,vV Je t3),(13,vI (Wi t3)),(14,vI t9),(15,vB aP)],[(0,.box [.val Ja (0:Int),.nils]),(1,.box [.val Ja (0:Int),.own 2]),(2,.arr Jj aF)],3⟩
theorem Zwh(N:Nat){R:Type}(K:Ex->St->Option R){t3:List Int}{K0:Int->Bool->Ks->Option R}(h0:K0= λt9 aP aF=>K (.exit 0) (Zt3 t3 t9 aP aF))(n:Nat)(t5:Int)(l8:List Kb):Zdd N t3 K0 n t5 l8=LM Zlv N 0 100005 n (Zwg t3 t5 l8) K:=by
  subst h0
  induction n generalizing t5 l8 with
  |zero=>kernel_rfl
  |succ n ih=>rw[Zdd];simp only[ih];kernel_rfl
theorem Z1j(N:Nat)(l1:List Int):DN Zlv N (l1,())=Zb8 N l1:=by
  conv=>rhs;rw[Zb8];simp(disch:=exact id (by kernel_rfl)) only[Zwh (R:=Unit×(Ky×Kq)) N (CF Zlv N [1,1,1,0,1,0])]
  kernel_rfl
theorem Z1k(N:Nat):GW 65 (Zn8 N):=GF Zlv N Tryz.func65 (GC (Zgs N) Wg) (λd=>Z1j N d.1)
def Zcz(N:Nat):Sig:=Sig.of [.box Jk] [] (λd=>Zbc N d.1)
def Zx6:Fn:=⟨Tryz.f115,WG,Zcz,Wbo⟩
theorem Zgt(N:Nat):GW 115 (Zcz N):=GF Zx6 N Tryz.func115 Wg
def Zla(N:Nat):Sig:=Sig.of [.box Jr,.v Ja false] [] (λd=>Zfl N d.1 d.2.1)
def Zh5:Fn:=⟨Tryz.f116,λ |3=>[.canon [0,1,4,5,17,18,19,20]]|4=>[.canon [0,1,4,5,6,7,17,18,19]]|5=>[.canon [0,1,4,5,17,18,19]]|6=>[.canon [0,1,4,5,17,18,19]]|100003=>[.canon [0,1,4,5,17,18,19]]|_=>[],Zla,Wbo⟩
def Zqo(k3:Int)(r4:Nat)(di:Bool)(t6:Int)(t7:Int)(b8:Int)(b9:Int)(bj:Int)(bN:Int)(aw:List Y_Root)(cj:List Kb)(bH:List Int)(cq:List Kb)(dF:List Ko):St:=⟨[(0,vP 0 0),(1,vI k3),(4,.s (.one (.eptr 1 r4 0))),(5,vB di),(17,vO 1),(18,vI t6),(19,vI t7)],[(0,.box [.val Ja b8,.val Ja b9,.val Ja bj,.own 2,.own 3,.val Ja bN,.own 4,.own 1,.own 5]),(1,.arr Jk aw),(2,.arr Jj cj),(3,.arr Ja bH),(4,.arr Jj cq),(5,.arr Ji dF)],6⟩
def Zp9(k3:Int)(r4:Nat)(t6:Int)(b8:Int)(b9:Int)(bj:Int)(bN:Int)(aw:List Y_Root)(cj:List Kb)(bH:List Int)(cq:List Kb)(dF:List Ko)(gR:Bool)(je:Int)(jj:Bool):St:=⟨[(0,vP 0 0),(1,vI k3),(4,.s (.one (.eptr 1 r4 0))),(5,vB gR),(17,vO 1),(18,vI t6),(19,vI je),(20,vB jj)],[(0,.box [.val Ja b8,.val Ja b9,.val Ja bj,.own 2,.own 3,.val Ja bN,.own 4,.own 1,.own 5]),(1,.arr Jk aw),(2,.arr Jj cj),(3,.arr Ja bH),(4,.arr Jj cq),(5,.arr Ji dF)],6⟩
theorem Zqp(N:Nat){R:Type}(K:Ex->St->Option R){k3:Int}{r4:Nat}{t6:Int}{b8:Int}{b9:Int}{bj:Int}{bN:Int}{aw:List Y_Root}{cj:List Kb}{bH:List Int}{cq:List Kb}{dF:List Ko}{K0:Bool->Int->Bool->Option R}(h0:K0= λgR je jj=>K (.exit 0) (Zp9 k3 r4 t6 b8 b9 bj bN aw cj bH cq dF gR je jj))(n:Nat)(di:Bool)(t7:Int):Zat N k3 r4 t6 b8 b9 bj bN aw cj bH cq dF K0 n di t7=LM Zh5 N 0 100003 n (Zqo k3 r4 di t6 t7 b8 b9 bj bN aw cj bH cq dF) K:=by
  subst h0
  induction n generalizing di t7 with
  |zero=>kernel_rfl
  |succ n ih=>rw[Zat];simp only[ih];kernel_rfl
theorem Zwi(N:Nat)(w1:Y_World)(k2:Int):DN Zh5 N (w1,k2,())=Zfl N w1 k2:=by
  conv=>rhs;rw[Zfl];simp(disch:=exact id (by kernel_rfl)) only[Zqp (R:=(Y_World×Unit)×Unit) N (CF Zh5 N [1,1,0,1,0])]
  kernel_rfl
theorem Zwj(N:Nat):GW 116 (Zla N):=GF Zh5 N Tryz.func116 Wg (λd=>Zwi N d.1 d.2.1)
def Zlw(N:Nat):Sig:=Sig.of [.v Ja false,.v Ja false,.v Ja false] [.v Jq false] (λd=>Zif N d.1 d.2.1 d.2.2.1)
def Z1l:Fn:=⟨Tryz.f217,WG,Zlw,λN=>[(68,Z0 N)]⟩
theorem Zq3(N:Nat):GW 217 (Zlw N):=GF Z1l N Tryz.func217 (GC (Z8 N) Wg)
def Zjv(N:Nat):Sig:=Sig.of [.v Jj true,.v Jj true] [.v Ja false] (λd=>Zh1 N d.1 d.2.1)
def Zr6:Fn:=⟨Tryz.f218,WG,Zjv,Wbo⟩
theorem Zr7(N:Nat):GW 218 (Zjv N):=GF Zr6 N Tryz.func218 Wg
def Zga(N:Nat):Sig:=Sig.of [.v Jf false] [.v Jq false] (λd=>Zeo N d.1)
def Zkf:Fn:=⟨Tryz.f171,λ |2=>[.canon [0,5,6,7,8]]|3=>[.canon [0,3,4,5,6,7]]|4=>[.canon [0,3,4,5,6,7,33]]|5=>[.canon [2]]|6=>[.canon [0,5,6,7,60]]|7=>[.canon [2]]|8=>[.canon [0,5,6,7]]|100002=>[.canon [0,5,6,7]]|_=>[],Zga,λN=>[(217,Zlw N),(218,Zjv N)]⟩
def Zt4(l2:List Kb)(t5:Int):St:=⟨[(0,vV Jf l2),(5,vV Jf l2),(6,vI (Wi l2)),(7,vI t5)],[],0⟩
def Zr8(l2:List Kb):St:=⟨[(2,vB false)],[],0⟩
def Zr9(l2:List Kb)(aP:Int)(aX:Bool):St:=⟨[(0,vV Jf l2),(5,vV Jf l2),(6,vI (Wi l2)),(7,vI aP),(8,vB aX)],[],0⟩
theorem Zt5(N:Nat){R:Type}(K:Ex->St->Option R){l2:List Kb}{K0:Option R}{K1:Int->Bool->Option R}(h0:K0=K .ret (Zr8 l2))(h1:K1= λaP aX=>K (.exit 0) (Zr9 l2 aP aX))(n:Nat)(t5:Int):Zar N l2 K0 K1 n t5=LM Zkf N 0 100002 n (Zt4 l2 t5) K:=by
  subst h0 h1
  induction n generalizing t5 with
  |zero=>kernel_rfl
  |succ n ih=>rw[Zar];simp only[ih];kernel_rfl
theorem Zz3(N:Nat)(l1:List Kb):DN Zkf N (l1,())=Zeo N l1:=by
  conv=>rhs;rw[Zeo];simp(disch:=exact id (by kernel_rfl)) only[Zt5 (R:=Unit×Kq) N (CF Zkf N [1,0,1,0])]
  kernel_rfl
theorem Zkg(N:Nat):GW 171 (Zga N):=GF Zkf N Tryz.func171 (GC (Zq3 N) (GC (Zr7 N) Wg)) (λd=>Zz3 N d.1)
def Znl(N:Nat):Sig:=Sig.of [.v Jf false,.v Ja false] [.v Jaf false] (λd=>Zf4 N d.1 d.2.1)
def Zkh:Fn:=⟨Tryz.f192,λ |5=>[.canon [1,5,12,13,14,15]]|6=>[.canon [1,5,7,12,13,14]]|7=>[.canon [1,5,7,12,13,14,21]]|8=>[.canon [1,5,12,13,14]]|9=>[.canon [1,5,12,13,14]]|100005=>[.canon [1,5,12,13,14]]|_=>[],Znl,λN=>[(171,Zga N)]⟩
def Zt6(fy:Int)(t5:List Kb)(t7:Int)(l8:List Int):St:=⟨[(1,vI fy),(5,vO 0),(12,vV Jf t5),(13,vI (Wi t5)),(14,vI t7)],[(0,.arr Ja l8)],1⟩
def Zsa(fy:Int)(t5:List Kb)(t9:Int)(aP:Bool)(aF:List Int):St:=⟨[(1,vI fy),(5,vO 0),(12,vV Jf t5),(13,vI (Wi t5)),(14,vI t9),(15,vB aP)],[(0,.arr Ja aF)],1⟩
theorem Zt7(N:Nat){R:Type}(K:Ex->St->Option R){fy:Int}{t5:List Kb}{K0:Int->Bool->Kg->Option R}(h0:K0= λt9 aP aF=>K (.exit 0) (Zsa fy t5 t9 aP aF))(n:Nat)(t7:Int)(l8:List Int):Zb6 N fy t5 K0 n t7 l8=LM Zkh N 0 100005 n (Zt6 fy t5 t7 l8) K:=by
  subst h0
  induction n generalizing t7 l8 with
  |zero=>kernel_rfl
  |succ n ih=>rw[Zb6];simp only[ih];kernel_rfl
theorem Zz4(N:Nat)(l1:List Kb)(cP:Int):DN Zkh N (l1,cP,())=Zf4 N l1 cP:=by
  conv=>rhs;rw[Zf4];simp(disch:=exact id (by kernel_rfl)) only[Zt7 (R:=Unit×Kv) N (CF Zkh N [1,1,1,0,1,0])]
  kernel_rfl
theorem Zz5(N:Nat):GW 192 (Znl N):=GF Zkh N Tryz.func192 (GC (Zkg N) Wg) (λd=>Zz4 N d.1 d.2.1)
def Ziy(N:Nat):Sig:=Sig.of [.box Jr,.v Ja false] [] (λd=>Zf5 N d.1 d.2.1)
def Zx7:Fn:=⟨Tryz.f124,λ |0=>[.opn 10]|_=>[],Ziy,Wbo⟩
theorem Zo6(N:Nat):GW 124 (Ziy N):=GF Zx7 N Tryz.func124 Wg
def Zeh(N:Nat):Sig:=Sig.of [.v Ja false] [.v Jq false] (λd=>Zep N d.1)
def Zz6:Fn:=⟨Tryz.f71,WG,Zeh,λN=>[(68,Z0 N)]⟩
theorem Zhy(N:Nat):GW 71 (Zeh N):=GF Zz6 N Tryz.func71 (GC (Z8 N) Wg)
def Zgy(N:Nat):Sig:=Sig.of [.v Jp false] [.v Jq false] (λd=>Zc1 N d.1)
def Zlx:Fn:=⟨Tryz.f72,λ |2=>[.canon [0,5,6,7,8]]|3=>[.canon [0,4,5,6,7]]|4=>[.canon [0,5,6,7,20]]|5=>[.canon [2]]|6=>[.canon [0,5,6,7]]|100002=>[.canon [0,5,6,7]]|_=>[],Zgy,λN=>[(129,Zb3 N),(83,Za2 N)]⟩
def Zwk(l2:List Kc)(t5:Int):St:=⟨[(0,vV Jp l2),(5,vV Jp l2),(6,vI (Wi l2)),(7,vI t5)],[],0⟩
def Zt8(l2:List Kc):St:=⟨[(2,vB false)],[],0⟩
def Zt9(l2:List Kc)(aP:Int)(aX:Bool):St:=⟨[(0,vV Jp l2),(5,vV Jp l2),(6,vI (Wi l2)),(7,vI aP),(8,vB aX)],[],0⟩
theorem Zwl(N:Nat){R:Type}(K:Ex->St->Option R){l2:List Kc}{K0:Option R}{K1:Int->Bool->Option R}(h0:K0=K .ret (Zt8 l2))(h1:K1= λaP aX=>K (.exit 0) (Zt9 l2 aP aX))(n:Nat)(t5:Int):Zdc N l2 K0 K1 n t5=LM Zlx N 0 100002 n (Zwk l2 t5) K:=by
  subst h0 h1
  induction n generalizing t5 with
  |zero=>kernel_rfl
  |succ n ih=>rw[Zdc];simp only[ih];kernel_rfl
theorem Z1m(N:Nat)(l1:List Kc):DN Zlx N (l1,())=Zc1 N l1:=by
  conv=>rhs;rw[Zc1];simp(disch:=exact id (by kernel_rfl)) only[Zwl (R:=Unit×Kq) N (CF Zlx N [1,0,1,0])]
  kernel_rfl
theorem Zly(N:Nat):GW 72 (Zgy N):=GF Zlx N Tryz.func72 (GC (Zdl N) (GC (Zbq N) Wg)) (λd=>Z1m N d.1)
def Zk1(N:Nat):Sig:=Sig.of [.v Jp false,.v Ja false] [.v Ja false,.v Jq false] (λd=>Zhd N d.1 d.2.1)
def Zm8:Fn:=⟨Tryz.f194,λ |4=>[.canon [0,1,6,14]]|5=>[.canon [0,1,6]]|6=>[.canon [0,1,6,23]]|7=>[.canon [4,5]]|100004=>[.canon [0,1,6]]|_=>[],Zk1,λN=>[(72,Zgy N)]⟩
def Zy4(l4:List Kc)(cY:Int)(i6:Int):St:=⟨[(0,vV Jp l4),(1,vI cY),(6,vI i6)],[],0⟩
def Zx8(l4:List Kc)(cY:Int)(t7:Int):St:=⟨[(4,vI t7),(5,vB true)],[],0⟩
def Zx9(l4:List Kc)(cY:Int)(i8:Int)(t9:Bool):St:=⟨[(0,vV Jp l4),(1,vI cY),(6,vI i8),(14,vB t9)],[],0⟩
theorem Zy5(N:Nat){R:Type}(K:Ex->St->Option R){l4:List Kc}{cY:Int}{K0:Int->Option R}{K1:Int->Bool->Option R}(h0:K0= λt7=>K .ret (Zx8 l4 cY t7))(h1:K1= λi8 t9=>K (.exit 0) (Zx9 l4 cY i8 t9))(n:Nat)(i6:Int):Zgu N l4 cY K0 K1 n i6=LM Zm8 N 0 100004 n (Zy4 l4 cY i6) K:=by
  subst h0 h1
  induction n generalizing i6 with
  |zero=>kernel_rfl
  |succ n ih=>rw[Zgu];simp only[ih];kernel_rfl
theorem Z26(N:Nat)(l1:List Kc)(gt:Int):DN Zm8 N (l1,gt,())=Zhd N l1 gt:=by
  conv=>rhs;rw[Zhd];simp(disch:=exact id (by kernel_rfl)) only[Zy5 (R:=Unit×Km) N (CF Zm8 N [1,1,0,1,0])]
  kernel_rfl
theorem Zpg(N:Nat):GW 194 (Zk1 N):=GF Zm8 N Tryz.func194 (GC (Zly N) Wg) (λd=>Z26 N d.1 d.2.1)
def Zjw(N:Nat):Sig:=Sig.of [.v Jp false] [.v (.own Js) false] (λd=>Zgf N d.1)
def Zn9:Fn:=⟨Tryz.f176,λ |5=>[.canon [0,3,11,12]]|6=>[.canon [0,3,4,11]]|7=>[.canon [0,3,4,5,6,11]]|8=>[.canon [0,3,4,5,11,20]]|9=>[.canon [0,3,11]]|10=>[.canon [0,3,11]]|100005=>[.canon [0,3,11]]|_=>[],Zjw,λN=>[(72,Zgy N),(194,Zk1 N)]⟩
def Zz7(l3:List Kc)(t4:Int)(l5:List Kc):St:=⟨[(0,vV Jp l3),(3,vO 0),(11,vI t4)],[(0,.arr Js l5)],1⟩
def Zy6(l3:List Kc)(t7:Int)(t8:Bool)(l9:List Kc):St:=⟨[(0,vV Jp l3),(3,vO 0),(11,vI t7),(12,vB t8)],[(0,.arr Js l9)],1⟩
theorem Zz8(N:Nat){R:Type}(K:Ex->St->Option R){l3:List Kc}{K0:Int->Bool->Kz->Option R}(h0:K0= λt7 t8 l9=>K (.exit 0) (Zy6 l3 t7 t8 l9))(n:Nat)(t4:Int)(l5:List Kc):Zf2 N l3 K0 n t4 l5=LM Zn9 N 0 100005 n (Zz7 l3 t4 l5) K:=by
  subst h0
  induction n generalizing t4 l5 with
  |zero=>kernel_rfl
  |succ n ih=>rw[Zf2];simp only[ih];kernel_rfl
theorem Z3j(N:Nat)(l1:List Kc):DN Zn9 N (l1,())=Zgf N l1:=by
  conv=>rhs;rw[Zgf];simp(disch:=exact id (by kernel_rfl)) only[Zz8 (R:=Unit×(Kz×Unit)) N (CF Zn9 N [1,1,1,0,1,0])]
  kernel_rfl
theorem Zoa(N:Nat):GW 176 (Zjw N):=GF Zn9 N Tryz.func176 (GC (Zly N) (GC (Zpg N) Wg)) (λd=>Z3j N d.1)
def Znm(N:Nat):Sig:=Sig.of [.v Jp false] [.v Jaf false] (λd=>Zhh N d.1)
def Zki:Fn:=⟨Tryz.f222,λ |3=>[.canon [3,8,9,10,11]]|4=>[.canon [3,5,8,9,10]]|5=>[.canon [3,8,9,10]]|6=>[.canon [3,8,9,10]]|100003=>[.canon [3,8,9,10]]|_=>[],Znm,λN=>[(176,Zjw N)]⟩
def Zua(t3:Int)(t4:Int)(l5:List Int)(l6:List Kc):St:=⟨[(3,vO 0),(8,vO 1),(9,vI t3),(10,vI t4)],[(0,.arr Ja l5),(1,.arr Js l6)],2⟩
def Zsb(t3:Int)(l6:List Kc)(t7:Int)(t8:Bool)(l9:List Int):St:=⟨[(3,vO 0),(8,vO 1),(9,vI t3),(10,vI t7),(11,vB t8)],[(0,.arr Ja l9),(1,.arr Js l6)],2⟩
theorem Zub(N:Nat){R:Type}(K:Ex->St->Option R){t3:Int}{l6:List Kc}{K0:Int->Bool->Kg->Option R}(h0:K0= λt7 t8 l9=>K (.exit 0) (Zsb t3 l6 t7 t8 l9))(n:Nat)(t4:Int)(l5:List Int):Zcv N t3 l6 K0 n t4 l5=LM Zki N 0 100003 n (Zua t3 t4 l5 l6) K:=by
  subst h0
  induction n generalizing t4 l5 with
  |zero=>kernel_rfl
  |succ n ih=>rw[Zcv];simp only[ih];kernel_rfl
theorem Zz9(N:Nat)(l1:List Kc):DN Zki N (l1,())=Zhh N l1:=by
  conv=>rhs;rw[Zhh];simp(disch:=exact id (by kernel_rfl)) only[Zub (R:=Unit×Kv) N (CF Zki N [1,1,0,1,0])]
  kernel_rfl
theorem Z0a(N:Nat):GW 222 (Znm N):=GF Zki N Tryz.func222 (GC (Zoa N) Wg) (λd=>Zz9 N d.1)
def Zma(N:Nat):Sig:=Sig.of [.v Ja false,.v Ja false,.v Jp false,.v Jp false] [.v Jd true,.v Jq false] (λd=>Zeb N d.1 d.2.1 d.2.2.1 d.2.2.2.1)
def Zya:Fn:=⟨Tryz.f193,WG,Zma,λN=>[(71,Zeh N),(68,Z0 N),(72,Zgy N),(176,Zjw N),(222,Znm N)]⟩
theorem Zyb(N:Nat):GW 193 (Zma N):=GF Zya N Tryz.func193 (GC (Zhy N) (GC (Z8 N) (GC (Zly N) (GC (Zoa N) (GC (Z0a N) Wg)))))
def Zhb(N:Nat):Sig:=Sig.of [.box Jr,.v Ja false,.v Ja false] [] (λd=>Zgn N d.1 d.2.1 d.2.2.1)
def Zuc:Fn:=⟨Tryz.f158,λ |0=>[.opn 13]|_=>[],Zhb,λN=>[(192,Znl N),(124,Ziy N),(193,Zma N)]⟩
theorem Zob(N:Nat):GW 158 (Zhb N):=GF Zuc N Tryz.func158 (GC (Zz5 N) (GC (Zo6 N) (GC (Zyb N) Wg)))
def Zjh(N:Nat):Sig:=Sig.of [.v Ja false] [.v Jt true,.v Jq false] (λd=>Ze4 N d.1)
def Zy7:Fn:=⟨Tryz.f195,WG,Zjh,λN=>[(129,Zb3 N)]⟩
theorem Zpt(N:Nat):GW 195 (Zjh N):=GF Zy7 N Tryz.func195 (GC (Zdl N) Wg)
def Zc6(N:Nat):Sig:=Sig.of [.v Jab true] [.v Jq false] (λd=>Zb9 N d.1)
def Zmt:Fn:=⟨Tryz.f39,λ |2=>[.canon [1,6,7,8,9]]|3=>[.canon [1,4,6,7,8]]|4=>[.canon [1,6,7,8,29]]|5=>[.canon [2]]|6=>[.canon [1,6,7,8]]|100002=>[.canon [1,6,7,8]]|_=>[],Zc6,λN=>[(83,Za2 N),(68,Z0 N)]⟩
def Zyc(t2:List Kb)(t4:Int)(b5:Int×List Kb):St:=⟨[(1,vP 0 0),(6,vV Jf t2),(7,vI (Wi b5.2)),(8,vI t4)],[(0,.box [.val Ja b5.1,.val Jf b5.2])],1⟩
def Zwm(t2:List Kb)(b5:Int×List Kb):St:=⟨[(2,vB false)],[],0⟩
def Zwn(t2:List Kb)(b5:Int×List Kb)(aT:Int)(bi:Bool):St:=⟨[(1,vP 0 0),(6,vV Jf t2),(7,vI (Wi b5.2)),(8,vI aT),(9,vB bi)],[(0,.box [.val Ja b5.1,.val Jf b5.2])],1⟩
theorem Zyd(N:Nat){R:Type}(K:Ex->St->Option R){t2:List Kb}{b5:Int×List Kb}{K0:Option R}{K1:Int->Bool->Option R}(h0:K0=K .ret (Zwm t2 b5))(h1:K1= λaT bi=>K (.exit 0) (Zwn t2 b5 aT bi))(n:Nat)(t4:Int):Zd7 N t2 b5 K0 K1 n t4=LM Zmt N 0 100002 n (Zyc t2 t4 b5) K:=by
  subst h0 h1
  induction n generalizing t4 with
  |zero=>kernel_rfl
  |succ n ih=>rw[Zd7];simp only[ih];kernel_rfl
theorem Z2t(N:Nat)(m1:Int×List Kb):DN Zmt N (m1,())=Zb9 N m1:=by
  conv=>rhs;rw[Zb9];simp(disch:=exact id (by kernel_rfl)) only[Zyd (R:=Unit×Kq) N (CF Zmt N [1,0,1,0])]
  kernel_rfl
theorem Zgb(N:Nat):GW 39 (Zc6 N):=GF Zmt N Tryz.func39 (GC (Zbq N) (GC (Z8 N) Wg)) (λd=>Z2t N d.1)
def Znn(N:Nat):Sig:=Sig.of [.v Jt true] [.v Jq false] (λd=>Zmg N d.1)
def Z0b:Fn:=⟨Tryz.f223,WG,Znn,λN=>[(129,Zb3 N),(68,Z0 N),(83,Za2 N)]⟩
theorem Z0c(N:Nat):GW 223 (Znn N):=GF Z0b N Tryz.func223 (GC (Zdl N) (GC (Z8 N) (GC (Zbq N) Wg)))
def Ziz(N:Nat):Sig:=Sig.of [.v Jab true,.v Ja false,.v Jt true] [.v Jt true] (λd=>Zd8 N d.1 d.2.1 d.2.2.1)
def Zye:Fn:=⟨Tryz.f196,WG,Ziz,λN=>[(39,Zc6 N),(223,Znn N)]⟩
theorem Zo7(N:Nat):GW 196 (Ziz N):=GF Zye N Tryz.func196 (GC (Zgb N) (GC (Z0c N) Wg))
def Zgk(N:Nat):Sig:=Sig.of [.box Jk] [] (λd=>Zc4 N d.1)
def Zre:Fn:=⟨Tryz.f197,WG,Zgk,λN=>[(115,Zcz N)]⟩
theorem Zm3(N:Nat):GW 197 (Zgk N):=GF Zre N Tryz.func197 (GC (Zgt N) Wg)
def Zlb(N:Nat):Sig:=Sig.of [.boxal Jr 3,.v Jt true] [] (λd=>Zi7 N d.1 d.2.1 d.2.2.1)
def Zwo:Fn:=⟨Tryz.f159,λ |1000000=>[.unfE 1]|_=>[],Zlb,λN=>[(194,Zk1 N),(195,Zjh N),(196,Ziz N),(197,Zgk N)]⟩
theorem Zwp(N:Nat):GW 159 (Zlb N):=GF Zwo N Tryz.func159 (GC (Zpg N) (GC (Zpt N) (GC (Zo7 N) (GC (Zm3 N) Wg))))
def Zi0(N:Nat):Sig:=Sig.of [.box Jk] [.v (.prod Ja Jad) true] (λd=>Zhr N d.1)
def Zyf:Fn:=⟨Tryz.f119,WG,Zi0,Wbo⟩
theorem Zo8(N:Nat):GW 119 (Zi0 N):=GF Zyf N Tryz.func119 Wg
def Zi1(N:Nat):Sig:=Sig.of [.v (.prod Je Ja) true] [.v (.prod Jaf Ja) true] (λd=>Zhs N d.1)
def Zyg:Fn:=⟨Tryz.f203,WG,Zi1,λN=>[(37,Zv N)]⟩
theorem Zo9(N:Nat):GW 203 (Zi1 N):=GF Zyg N Tryz.func203 (GC (Z3 N) Wg)
def Zkj(N:Nat):Sig:=Sig.of [.v (.prod Je Ja) true] [.v Jq false] (λd=>Zjq N d.1)
def Z0d:Fn:=⟨Tryz.f204,WG,Zkj,λN=>[(58,Zeg N),(83,Za2 N)]⟩
theorem Zqa(N:Nat):GW 204 (Zkj N):=GF Z0d N Tryz.func204 (GC (Zhw N) (GC (Zbq N) Wg))
def Zoc(N:Nat):Sig:=Sig.of [.v Jj true] [.v Jq false] (λd=>Zm5 N d.1)
def Z1n:Fn:=⟨Tryz.f205,WG,Zoc,λN=>[(107,Zer N),(83,Za2 N)]⟩
theorem Z1o(N:Nat):GW 205 (Zoc N):=GF Z1n N Tryz.func205 (GC (Zhm N) (GC (Zbq N) Wg))
def Zji(N:Nat):Sig:=Sig.of [.v Je false,.v Ja false] [.v Jaf false,.v Ja false,.v Jq false] (λd=>Zio N d.1 d.2.1)
def Zy8:Fn:=⟨Tryz.f206,WG,Zji,λN=>[(37,Zv N),(58,Zeg N),(107,Zer N),(108,Zk0 N),(59,Zf9 N)]⟩
theorem Zpu(N:Nat):GW 206 (Zji N):=GF Zy8 N Tryz.func206 (GC (Z3 N) (GC (Zhw N) (GC (Zhm N) (GC (Zpf N) (GC (Zkd N) Wg)))))
def Zno(N:Nat):Sig:=Sig.of [.v (.prod Je Ja) true,.v Jj true] [.v (.prod Jaf Ja) true,.v Jq false] (λd=>Zmh N d.1 d.2.1)
def Z0e:Fn:=⟨Tryz.f166,WG,Zno,λN=>[(203,Zi1 N),(204,Zkj N),(205,Zoc N),(113,Zhx N),(206,Zji N)]⟩
theorem Z0f(N:Nat):GW 166 (Zno N):=GF Z0e N Tryz.func166 (GC (Zo9 N) (GC (Zqa N) (GC (Z1o N) (GC (Znk N) (GC (Zpu N) Wg)))))
def Zh6(N:Nat):Sig:=Sig.of [.boxal Jr 3] [] (λd=>Zcd N d.1 d.2.1)
def Zwq:Fn:=⟨Tryz.f120,λ |1000000=>[.unfE 1]|_=>[],Zh6,λN=>[(166,Zno N)]⟩
theorem Zol(N:Nat):GW 120 (Zh6 N):=GF Zwq N Tryz.func120 (GC (Z0f N) Wg)
def Zdg(N:Nat):Sig:=Sig.of [.v Jp false] [.v (.own Js) false] (λd=>Zbk N d.1)
def Zy9:Fn:=⟨Tryz.f167,WG,Zdg,Wbo⟩
theorem Zha(N:Nat):GW 167 (Zdg N):=GF Zy9 N Tryz.func167 Wg
def Zkk(N:Nat):Sig:=Sig.of [.box Jr,.v Ja false,.v Jc false] [] (λd=>Zip N d.1 d.2.1 d.2.2.1)
def Zud:Fn:=⟨Tryz.f160,λ |0=>[.opn 13]|_=>[],Zkk,λN=>[(158,Zhb N),(119,Zi0 N),(120,Zh6 N),(37,Zv N),(167,Zdg N),(98,Zju N)]⟩
theorem Zue(N:Nat):GW 160 (Zkk N):=GF Zud N Tryz.func160 (GC (Zob N) (GC (Zo8 N) (GC (Zol N) (GC (Z3 N) (GC (Zha N) (GC (Zow N) Wg))))))
def Zmy(N:Nat):Sig:=Sig.of [.v Ja false,.v Je false,.v Jp false,.v Ja false] [.v Jx true] (λd=>Zgv N d.1 d.2.1 d.2.2.1 d.2.2.2.1)
def Zfn:Fn:=⟨Tryz.f161,λ |3=>[.canon [1,3,8,9,19,20,21,22]]|4=>[.canon [1,3,8,9,11,19,20,21]]|5=>[.canon [1,3,8,9,19,20,21]]|6=>[.canon [1,3,8,9,19,20,21]]|8=>[.canon [1,8,9,36,37,38]]|9=>[.nest 44 Jh,.canon [1,8,9,36,37]]|10=>[.canon [1,8,9,36,37]]|100003=>[.adoptC 9 6 Jj,.canon [1,3,8,9,19,20,21]]|100008=>[.adoptC 9 9 Jh,.canon [1,8,9,36,37]]|_=>[],Zmy,λN=>[(37,Zv N),(176,Zjw N)]⟩
def Zsc(dP:List Int)(dQ:Int)(t9:Int)(aP:Int)(dp:Int)(aM:List Kc)(aG:List Int)(aJ:List Kb):St:=⟨[(1,vV Je dP),(3,vI dQ),(8,vP 0 0),(9,vP 1 0),(19,vO 2),(20,vI t9),(21,vI aP)],[(0,.box [.val Ja (0:Int),.val Ja (0:Int),.val Ja (0:Int),.val Jq false,.nils,.nils,.nils,.nils,.nils,.nils]),(1,.box [.val Ja dp,.val Ja (0:Int),.val Ja (0:Int),.val Jq false,.own 3,.own 2,.own 4,.nils,.nils,.nils]),(2,.arr Js aM),(3,.arr Ja aG),(4,.arr Jj aJ)],5⟩
def Zrf(dP:List Int)(dQ:Int)(t9:Int)(dp:Int)(aM:List Kc)(aG:List Int)(t22:Int)(fL:Bool)(gD:List Kb):St:=⟨[(1,vV Je dP),(3,vI dQ),(8,vP 0 0),(9,vP 1 0),(19,vO 2),(20,vI t9),(21,vI t22),(22,vB fL)],[(0,.box [.val Ja (0:Int),.val Ja (0:Int),.val Ja (0:Int),.val Jq false,.nils,.nils,.nils,.nils,.nils,.nils]),(1,.box [.val Ja dp,.val Ja (0:Int),.val Ja (0:Int),.val Jq false,.own 3,.own 2,.own 4,.nils,.nils,.nils]),(2,.arr Js aM),(3,.arr Ja aG),(4,.arr Jj gD)],5⟩
theorem Zsd(N:Nat){R:Type}(K:Ex->St->Option R){dP:List Int}{dQ:Int}{t9:Int}{dp:Int}{aM:List Kc}{aG:List Int}{K0:Int->Bool->Ks->Option R}(h0:K0= λt22 fL gD=>K (.exit 0) (Zrf dP dQ t9 dp aM aG t22 fL gD))(n:Nat)(aP:Int)(aJ:List Kb):Zch N dP dQ t9 dp aM aG K0 n aP aJ=LM Zfn N 0 100003 n (Zsc dP dQ t9 aP dp aM aG aJ) K:=by
  subst h0
  induction n generalizing aP aJ with
  |zero=>kernel_rfl
  |succ n ih=>rw[Zch];simp only[ih];kernel_rfl
def Zse(cK:List Int)(lA:Int)(mg:Int)(fb:Int)(cz:List Int)(bw:List Kc)(fE:List Kb)(dx:List Y_KidRun):St:=⟨[(1,vV Je cK),(8,vP 0 0),(9,vP 1 0),(36,vI lA),(37,vI mg)],[(0,.box [.val Ja (0:Int),.val Ja (0:Int),.val Ja (0:Int),.val Jq false,.nils,.nils,.nils,.nils,.nils,.nils]),(1,.box [.val Ja fb,.val Ja (0:Int),.val Ja (0:Int),.val Jq false,.own 2,.own 3,.own 4,.nils,.nils,.own 5]),(2,.arr Ja cz),(3,.arr Js bw),(4,.arr Jj fE),(5,.arr Jh dx)],6⟩
def Zrg(cK:List Int)(lA:Int)(fb:Int)(cz:List Int)(bw:List Kc)(fE:List Kb)(t45:Int)(t46:Bool)(qn:List Y_KidRun):St:=⟨[(1,vV Je cK),(8,vP 0 0),(9,vP 1 0),(36,vI lA),(37,vI t45),(38,vB t46)],[(0,.box [.val Ja (0:Int),.val Ja (0:Int),.val Ja (0:Int),.val Jq false,.nils,.nils,.nils,.nils,.nils,.nils]),(1,.box [.val Ja fb,.val Ja (0:Int),.val Ja (0:Int),.val Jq false,.own 2,.own 3,.own 4,.nils,.nils,.own 5]),(2,.arr Ja cz),(3,.arr Js bw),(4,.arr Jj fE),(5,.arr Jh qn)],6⟩
theorem Zsf(N:Nat){R:Type}(K:Ex->St->Option R){cK:List Int}{lA:Int}{fb:Int}{cz:List Int}{bw:List Kc}{fE:List Kb}{K0:Int->Bool->(List Y_KidRun)->Option R}(h0:K0= λt45 t46 qn=>K (.exit 2) (Zrg cK lA fb cz bw fE t45 t46 qn))(n:Nat)(mg:Int)(dx:List Y_KidRun):Zbd N cK lA fb cz bw fE K0 n mg dx=LM Zfn N 1 100008 n (Zse cK lA mg fb cz bw fE dx) K:=by
  subst h0
  induction n generalizing mg dx with
  |zero=>kernel_rfl
  |succ n ih=>rw[Zbd];simp only[ih];kernel_rfl
theorem Zza(N:Nat)(rj:Int)(an:List Int)(fe:List Kc)(bR:Int):DN Zfn N (rj,an,fe,bR,())=Zgv N rj an fe bR:=by
  conv=>rhs;rw[Zgv];simp(disch:=exact id (by kernel_rfl)) only[Zsd (R:=Unit×(Y_Family×Unit)) N (CF Zfn N [1,1,0,1,0]),Zsf (R:=Unit×(Y_Family×Unit)) N (CF Zfn N [1,1,1,0,1,0])]
  kernel_rfl
theorem Zzb(N:Nat):GW 161 (Zmy N):=GF Zfn N Tryz.func161 (GC (Z3 N) (GC (Zoa N) Wg)) (λd=>Zza N d.1 d.2.1 d.2.2.1 d.2.2.2.1)
def Zmb(N:Nat):Sig:=Sig.of [.v Jt true] [.v Ja false,.v Ja false] (λd=>Zj3 N d.1)
def Zyh:Fn:=⟨Tryz.f198,WG,Zmb,λN=>[(151,Zii N)]⟩
theorem Zyi(N:Nat):GW 198 (Zmb N):=GF Zyh N Tryz.func198 (GC (Zm6 N) Wg)
def Zi2(N:Nat):Sig:=Sig.of [.v Jf false] [.v (.own Jj) false] (λd=>Zec N d.1)
def Zyj:Fn:=⟨Tryz.f170,WG,Zi2,Wbo⟩
theorem Zpa(N:Nat):GW 170 (Zi2 N):=GF Zyj N Tryz.func170 Wg
def Zod(N:Nat):Sig:=Sig.of [.v Jf false,.v Ja false,.v Ja false,.v Ja false] [.v Jaf false] (λd=>Zig N d.1 d.2.1 d.2.2.1 d.2.2.2.1)
def Zlz:Fn:=⟨Tryz.f224,λ |5=>[.canon [1,2,3,9,21,22,23,24]]|6=>[.canon [1,2,3,9,11,21,22,23]]|7=>[.canon [1,2,3,9,11,21,22,23,45]]|8=>[.canon [1,2,3,9,21,22,23]]|9=>[.canon [1,2,3,9,21,22,23]]|100005=>[.canon [1,2,3,9,21,22,23]]|_=>[],Zod,λN=>[(171,Zga N),(68,Z0 N)]⟩
def Zwr(dU:Int)(cC:Int)(cD:Int)(aP:List Kb)(aT:Int)(cj:List Int):St:=⟨[(1,vI dU),(2,vI cC),(3,vI cD),(9,vO 0),(21,vV Jf aP),(22,vI (Wi aP)),(23,vI aT)],[(0,.arr Ja cj)],1⟩
def Zuf(dU:Int)(cC:Int)(cD:Int)(aP:List Kb)(jL:Int)(cn:Bool)(dF:List Int):St:=⟨[(1,vI dU),(2,vI cC),(3,vI cD),(9,vO 0),(21,vV Jf aP),(22,vI (Wi aP)),(23,vI jL),(24,vB cn)],[(0,.arr Ja dF)],1⟩
theorem Zws(N:Nat){R:Type}(K:Ex->St->Option R){dU:Int}{cC:Int}{cD:Int}{aP:List Kb}{K0:Int->Bool->Kg->Option R}(h0:K0= λjL cn dF=>K (.exit 0) (Zuf dU cC cD aP jL cn dF))(n:Nat)(aT:Int)(cj:List Int):Za6 N dU cC cD aP K0 n aT cj=LM Zlz N 0 100005 n (Zwr dU cC cD aP aT cj) K:=by
  subst h0
  induction n generalizing aT cj with
  |zero=>kernel_rfl
  |succ n ih=>rw[Za6];simp only[ih];kernel_rfl
theorem Z1p(N:Nat)(l1:List Kb)(cP:Int)(cQ:Int)(cE:Int):DN Zlz N (l1,cP,cQ,cE,())=Zig N l1 cP cQ cE:=by
  conv=>rhs;rw[Zig];simp(disch:=exact id (by kernel_rfl)) only[Zws (R:=Unit×Kv) N (CF Zlz N [1,1,1,0,1,0])]
  kernel_rfl
theorem Z1q(N:Nat):GW 224 (Zod N):=GF Zlz N Tryz.func224 (GC (Zkg N) (GC (Z8 N) Wg)) (λd=>Z1p N d.1 d.2.1 d.2.2.1 d.2.2.2.1)
def Zbi(N:Nat):Sig:=Sig.of [.mut Jj,.clos 218 0] [] (λd=>Zw N d.1)
theorem Zey:CmpOk Tryz.prog 218 Jj WvJ cfH:=by
  intro G x y us vs w hx hy h1 h2;obtain⟨_,_,rfl,a1,_,_,rfl,a2,a3⟩:=h1;obtain⟨_,_,rfl,b1,_,_,rfl,b2,b3⟩:=h2;simp only[Enc]at a1 a2 a3 b1 b2 b3;subst a1 a2 a3 b1 b2 b3;simp only[Xax,Xbu];unfold WvJ at hx hy;simp only[Xj]at hx hy
  go_enter Tryz.func218,Tryz.ntmps218
  go_wp2
  rw[guard_run (a:=x.2.1) (b:=y.2.1),Result.andThen_ok];rw[neq_run (a:=x.2.1) (b:=y.2.1),Result.andThen_ok];rcases hb:(bne (α:=Int) x.2.1 y.2.1)with _|_
  . go_wp2
    rw[sub_run (Why hx.1) (Why hy.1) (WwJ hb)]
    go_wp2
    go_ret
    exact⟨rfl,two_grow _ _ _⟩
  . go_wp2
    rw[sub_run (Why hx.2) (Why hy.2) (WwY hb)]
    go_wp2
    go_ret
    exact⟨rfl,two_grow _ _ _⟩
theorem Zez(N:Nat):GW 225 (Zbi N):=⟨Wcu Tryz.func225 (show Wmk Tryz.f225=true by kernel_rfl),good_sortF sortFH (e:=.prod Ja Js) rfl (by decide) Tryz.isAgg230 Tryz.sizeOf230 (enters_of Tryz.func218 (by kernel_rfl) rfl) Wx6 Zey N⟩
def Znp(N:Nat):Sig:=Sig.of [.v Jf false,.v Ja false,.v Ja false,.v Ja false] [.v (.own Jj) false,.v Jq false] (λd=>Zhi N d.1 d.2.1 d.2.2.1 d.2.2.2.1)
def Zkl:Fn:=⟨Tryz.f199,λ |5=>[.canon [1,2,3,10,35,36,37,38]]|6=>[.canon [1,2,3,10,11,12,35,36,37]]|7=>[.canon [1,2,3,10,11,12,35,36,37,51]]|8=>[.canon [10]]|9=>[.canon [8,9]]|10=>[.canon [1,2,3,10,35,36,37]]|100005=>[.canon [1,2,3,10,35,36,37]]|_=>[],Znp,λN=>[(170,Zi2 N),(171,Zga N),(217,Zlw N),(224,Zod N),(225,Zbi N)]⟩
def Zug(ey:Int)(bV:Int)(bW:Int)(aT:Int)(bi:Int)(bH:List Kb):St:=⟨[(1,vI ey),(2,vI bV),(3,vI bW),(10,vO 0),(35,vO 0),(36,vI aT),(37,vI bi)],[(0,.arr Jj bH)],1⟩
def Zsg(ey:Int)(bV:Int)(bW:Int)(aT:Int)(bH:List Kb)(cq:List Kb):St:=⟨[(8,vO 0),(9,vB true)],[(0,.arr Jj cq)],1⟩
def Zsh(ey:Int)(bV:Int)(bW:Int)(aT:Int)(bH:List Kb)(jd:Int)(eU:Bool):St:=⟨[(1,vI ey),(2,vI bV),(3,vI bW),(10,vO 0),(35,vO 0),(36,vI aT),(37,vI jd),(38,vB eU)],[(0,.arr Jj bH)],1⟩
theorem Zuh(N:Nat){R:Type}(K:Ex->St->Option R){ey:Int}{bV:Int}{bW:Int}{aT:Int}{bH:List Kb}{K0:Ks->Option R}{K1:Int->Bool->Option R}(h0:K0= λcq=>K .ret (Zsg ey bV bW aT bH cq))(h1:K1= λjd eU=>K (.exit 0) (Zsh ey bV bW aT bH jd eU))(n:Nat)(bi:Int):Zb7 N ey bV bW aT bH K0 K1 n bi=LM Zkl N 0 100005 n (Zug ey bV bW aT bi bH) K:=by
  subst h0 h1
  induction n generalizing bi with
  |zero=>kernel_rfl
  |succ n ih=>rw[Zb7];simp only[ih];kernel_rfl
theorem Z0g(N:Nat)(l1:List Kb)(cP:Int)(cQ:Int)(cE:Int):DN Zkl N (l1,cP,cQ,cE,())=Zhi N l1 cP cQ cE:=by
  conv=>rhs;rw[Zhi];simp(disch:=exact id (by kernel_rfl)) only[Zuh (R:=Unit×(Ks×Kq)) N (CF Zkl N [1,1,1,0,1,0])]
  kernel_rfl
theorem Z0h(N:Nat):GW 199 (Znp N):=GF Zkl N Tryz.func199 (GC (Zpa N) (GC (Zkg N) (GC (Zq3 N) (GC (Z1q N) (GC (Zez N) Wg))))) (λd=>Z0g N d.1 d.2.1 d.2.2.1 d.2.2.2.1)
def Zoe(N:Nat):Sig:=Sig.of [.v Ja false,.v Ja false] [.v Jj true] (λd=>Zku N d.1 d.2.1)
def Z1r:Fn:=⟨Tryz.f226,WG,Zoe,Wbo⟩
theorem Z1s(N:Nat):GW 226 (Zoe N):=GF Z1r N Tryz.func226 Wg
def Znq(N:Nat):Sig:=Sig.of [.v (.prod Je Ja) true,.v Jt true,.v Je false] [.v (.prod Jaf Ja) true,.v Jaf false,.v Jj true,.v Jq false] (λd=>Zmi N d.1 d.2.1 d.2.2.1)
def Z0i:Fn:=⟨Tryz.f200,WG,Znq,λN=>[(203,Zi1 N),(37,Zv N),(204,Zkj N),(36,Zcy N),(149,Zj8 N),(113,Zhx N),(226,Zoe N),(59,Zf9 N),(206,Zji N)]⟩
theorem Z0j(N:Nat):GW 200 (Znq N):=GF Z0i N Tryz.func200 (GC (Zo9 N) (GC (Z3 N) (GC (Zqa N) (GC (Zgs N) (GC (Zp5 N) (GC (Znk N) (GC (Z1s N) (GC (Zkd N) (GC (Zpu N) Wg)))))))))
def Zkm(N:Nat):Sig:=Sig.of [.box Jr,.v Ja false,.v Jt true] [] (λd=>Zgo N d.1 d.2.1 d.2.2.1)
def Zui:Fn:=⟨Tryz.f162,λ |1=>[.opn 20]|_=>[],Zkm,λN=>[(198,Zmb N),(199,Znp N),(197,Zgk N),(200,Znq N)]⟩
theorem Zuj(N:Nat):GW 162 (Zkm N):=GF Zui N Tryz.func162 (GC (Zyi N) (GC (Z0h N) (GC (Zm3 N) (GC (Z0j N) Wg))))
def Zgz(N:Nat):Sig:=Sig.of [.rp (TY_Root)] [.vj Jt] (λd=>Zdr N d.1)
def Zsi:Fn:=⟨Tryz.f119,WG,Zgz,Wbo⟩
theorem Znv(N:Nat):GW 119 (Zgz N):=GF Zsi N Tryz.func119 Wg
def Zmc(N:Nat):Sig:=Sig.of [.box Jr,.v Ja false,.v Jah true] [] (λd=>Zht N d.1 d.2.1 d.2.2.1)
def Zyk:Fn:=⟨Tryz.f117,λ |1=>[.opn 14]|_=>[],Zmc,λN=>[(158,Zhb N),(159,Zlb N),(160,Zkk N),(161,Zmy N),(162,Zkm N),(37,Zv N),(119,Zgz N),(97,Zkz N)]⟩
theorem Zyl(N:Nat):GW 117 (Zmc N):=GF Zyk N Tryz.func117 (GC (Zob N) (GC (Zwp N) (GC (Zue N) (GC (Zzb N) (GC (Zuj N) (GC (Z3 N) (GC (Znv N) (GC (Zpe N) Wg))))))))
def Zmd(N:Nat):Sig:=Sig.of [.v (TY_KidRun) true] [.v Jq false] (λd=>Znc N d.1)
def Zym:Fn:=⟨Tryz.f202,WG,Zmd,Wbo⟩
theorem Zyn(N:Nat):GW 202 (Zmd N):=GF Zym N Tryz.func202 Wg
def Zak(N:Nat):Sig:=Sig.of [.v Jac false,.clos 202 0] [.v Ja false] (λd=>Zu N d.1)
def Z5:Fn:=⟨Tryz.f227,λ |2=>[.canon [0,1,7,8,9]]|3=>[.canon [0,1,5,7,8]]|4=>[.canon [0,1,5,7,8,16]]|5=>[.canon [1,4]]|6=>[.canon [0,1,7,8]]|100002=>[.canon [0,1,7,8]]|_=>[],Zak,λN=>[(202,Zmd N)]⟩
def Zdo(s2:List Y_KidRun)(t4:Int):St:=⟨[(0,vV Jac s2),(1,.s (.one (.clos 202 []))),(7,vI (Wi s2)),(8,vI t4)],[],0⟩
def Zdh(s2:List Y_KidRun)(t7:Int):St:=⟨[(1,.s (.one (.clos 202 []))),(4,vI t7)],[],0⟩
def Zdi(s2:List Y_KidRun)(t8:Int)(t9:Bool):St:=⟨[(0,vV Jac s2),(1,.s (.one (.clos 202 []))),(7,vI (Wi s2)),(8,vI t8),(9,vB t9)],[],0⟩
theorem Zdp(N:Nat){R:Type}(K:Ex->St->Option R){s2:List Y_KidRun}{K0:Int->Option R}{K1:Int->Bool->Option R}(h0:K0= λt7=>K .ret (Zdh s2 t7))(h1:K1= λt8 t9=>K (.exit 0) (Zdi s2 t8 t9))(n:Nat)(t4:Int):Zk N s2 K0 K1 n t4=LM Z5 N 0 100002 n (Zdo s2 t4) K:=by
  subst h0 h1
  induction n generalizing t4 with
  |zero=>kernel_rfl
  |succ n ih=>rw[Zk];simp only[ih];kernel_rfl
theorem Zeu(N:Nat)(s1:List Y_KidRun):DN Z5 N (s1,())=Zu N s1:=by
  conv=>rhs;rw[Zu];simp(disch:=exact id (by kernel_rfl)) only[Zdp (R:=Unit×Kj) N (CF Z5 N [1,0,1,0])]
  kernel_rfl
theorem Zev(N:Nat):GW 227 (Zak N):=GF Z5 N Tryz.func227 (GC (Zyn N) Wg) (λd=>Zeu N d.1)
def Zae(N:Nat):Sig:=Sig.of [.v Jac false,.clos 202 0] [.v Jq false] (λd=>Zah N d.1)
def Zds:Fn:=⟨Tryz.f201,WG,Zae,λN=>[(227,Zak N)]⟩
theorem Zdt(N:Nat):GW 201 (Zae N):=GF Zds N Tryz.func201 (GC (Zev N) Wg)
def Znr(N:Nat):Sig:=Sig.of [.v (TY_Family) true] [.v Jq false] (λd=>Zmj N d.1)
def Z0k:Fn:=⟨Tryz.f163,WG,Znr,λN=>[(201,Zae N)]⟩
theorem Z0l(N:Nat):GW 163 (Znr N):=GF Z0k N Tryz.func163 (GC (Zdt N) Wg)
def Zns(N:Nat):Sig:=Sig.of [.v (TY_Family) true] [.v Jaf false] (λd=>Zhj N d.1)
def Zkn:Fn:=⟨Tryz.f164,λ |5=>[.canon [3,20,21,22,23]]|6=>[.canon [3,4,5,20,21,22]]|7=>[.canon [3,4,5,20,21,22]]|8=>[.canon [3,4,5,20,21,22,37]]|9=>[.canon [3,20,21,22]]|10=>[.canon [3,20,21,22]]|100005=>[.canon [3,20,21,22]]|_=>[],Zns,λN=>[(36,Zcy N),(37,Zv N)]⟩
def Zuk(t4:List Y_KidRun)(t5:Int)(t6:Int)(l7:List Int):St:=⟨[(3,vO 0),(20,vV Jac t4),(21,vI t5),(22,vI t6)],[(0,.arr Ja l7)],1⟩
def Zsj(t4:List Y_KidRun)(t5:Int)(aP:Int)(aX:Bool)(aw:List Int):St:=⟨[(3,vO 0),(20,vV Jac t4),(21,vI t5),(22,vI aP),(23,vB aX)],[(0,.arr Ja aw)],1⟩
theorem Zul(N:Nat){R:Type}(K:Ex->St->Option R){t4:List Y_KidRun}{t5:Int}{K0:Int->Bool->Kg->Option R}(h0:K0= λaP aX aw=>K (.exit 0) (Zsj t4 t5 aP aX aw))(n:Nat)(t6:Int)(l7:List Int):Zbm N t4 t5 K0 n t6 l7=LM Zkn N 0 100005 n (Zuk t4 t5 t6 l7) K:=by
  subst h0
  induction n generalizing t6 l7 with
  |zero=>kernel_rfl
  |succ n ih=>rw[Zbm];simp only[ih];kernel_rfl
theorem Z0m(N:Nat)(f1:Y_Family):DN Zkn N (f1,())=Zhj N f1:=by
  conv=>rhs;rw[Zhj];simp(disch:=exact id (by kernel_rfl)) only[Zul (R:=Unit×Kv) N (CF Zkn N [1,1,1,0,1,0])]
  kernel_rfl
theorem Z0n(N:Nat):GW 164 (Zns N):=GF Zkn N Tryz.func164 (GC (Zgs N) (GC (Z3 N) Wg)) (λd=>Z0m N d.1)
def Znt(N:Nat):Sig:=Sig.of [.v (TY_Family) true] [.v (.own Js) false] (λd=>Zhk N d.1)
def Zko:Fn:=⟨Tryz.f165,λ |3=>[.canon [3,8,9,10,11]]|4=>[.canon [3,5,8,9,10]]|5=>[.canon [3,8,9,10]]|6=>[.canon [3,8,9,10]]|100003=>[.canon [3,8,9,10]]|_=>[],Znt,Wbo⟩
def Zum(t2:List Kb)(t3:Int)(t4:Int)(l5:List Kc):St:=⟨[(3,vO 0),(8,vV Jf t2),(9,vI t3),(10,vI t4)],[(0,.arr Js l5)],1⟩
def Zsk(t2:List Kb)(t3:Int)(t6:Int)(t7:Bool)(l8:List Kc):St:=⟨[(3,vO 0),(8,vV Jf t2),(9,vI t3),(10,vI t6),(11,vB t7)],[(0,.arr Js l8)],1⟩
theorem Zun(N:Nat){R:Type}(K:Ex->St->Option R){t2:List Kb}{t3:Int}{K0:Int->Bool->Kz->Option R}(h0:K0= λt6 t7 l8=>K (.exit 0) (Zsk t2 t3 t6 t7 l8))(n:Nat)(t4:Int)(l5:List Kc):Zcw N t2 t3 K0 n t4 l5=LM Zko N 0 100003 n (Zum t2 t3 t4 l5) K:=by
  subst h0
  induction n generalizing t4 l5 with
  |zero=>kernel_rfl
  |succ n ih=>rw[Zcw];simp only[ih];kernel_rfl
theorem Z0o(N:Nat)(f1:Y_Family):DN Zko N (f1,())=Zhk N f1:=by
  conv=>rhs;rw[Zhk];simp(disch:=exact id (by kernel_rfl)) only[Zun (R:=Unit×(Kz×Unit)) N (CF Zko N [1,1,0,1,0])]
  kernel_rfl
theorem Z0p(N:Nat):GW 165 (Znt N):=GF Zko N Tryz.func165 Wg (λd=>Z0o N d.1)
def Zme(N:Nat):Sig:=Sig.of [.box Jk] [] (λd=>Zhu N d.1)
def Zyo:Fn:=⟨Tryz.f118,WG,Zme,λN=>[(115,Zcz N),(163,Znr N),(164,Zns N),(165,Znt N),(37,Zv N)]⟩
theorem Zyp(N:Nat):GW 118 (Zme N):=GF Zyo N Tryz.func118 (GC (Zgt N) (GC (Z0l N) (GC (Z0n N) (GC (Z0p N) (GC (Z3 N) Wg)))))
def Zjx(N:Nat):Sig:=Sig.of [.boxal Jr 3] [] (λd=>Zfz N d.1 d.2.1)
def Zsl:Fn:=⟨Tryz.f121,λ |1000000=>[.unfE 1]|_=>[],Zjx,λN=>[(119,Zi0 N),(115,Zcz N),(167,Zdg N),(37,Zv N)]⟩
theorem Zsm(N:Nat):GW 121 (Zjx N):=GF Zsl N Tryz.func121 (GC (Zo8 N) (GC (Zgt N) (GC (Zha N) (GC (Z3 N) Wg))))
def Zh7(N:Nat):Sig:=Sig.of [.v (.prod Ja Jv) true] [.v Jd true] (λd=>Zg8 N d.1)
def Zwt:Fn:=⟨Tryz.f207,WG,Zh7,λN=>[(167,Zdg N),(37,Zv N)]⟩
theorem Zom(N:Nat):GW 207 (Zh7 N):=GF Zwt N Tryz.func207 (GC (Zha N) (GC (Z3 N) Wg))
def Zgl(N:Nat):Sig:=Sig.of [.v (.prod Ja Jv) true] [.v Ja false] (λd=>Zc5 N d.1)
def Zrh:Fn:=⟨Tryz.f228,WG,Zgl,Wbo⟩
theorem Zm4(N:Nat):GW 228 (Zgl N):=GF Zrh N Tryz.func228 Wg
def Zjj(N:Nat):Sig:=Sig.of [.v (.prod Ja Jv) true] [.v Jq false] (λd=>Ze6 N d.1)
def Zfo:Fn:=⟨Tryz.f208,λ |4=>[.canon [1,3,38]]|5=>[.canon [1,3]]|6=>[.canon [1,3,54]]|7=>[.canon [2]]|9=>[.canon [1,56,57,58,59]]|10=>[.canon [1,4,5,56,57,58]]|11=>[.canon [1,56,57,58,79]]|12=>[.canon [2]]|13=>[.canon [1,56,57,58]]|100004=>[.canon [1,3]]|100009=>[.canon [1,56,57,58]]|_=>[],Zjj,λN=>[(71,Zeh N),(68,Z0 N),(72,Zgy N),(129,Zb3 N),(228,Zgl N)]⟩
def Zsn(i7:Int)(b8:Int×Int×Int×Int×Int×List Kc×List Int):St:=⟨[(1,vP 0 0),(3,vI i7)],[(0,.box [.val Ja b8.1,.val Ja b8.2.1,.val Ja b8.2.2.1,.val Ja b8.2.2.2.1,.val Ja b8.2.2.2.2.1,.val Jp b8.2.2.2.2.2.1,.val Je b8.2.2.2.2.2.2])],1⟩
def Zri(b8:Int×Int×Int×Int×Int×List Kc×List Int):St:=⟨[(2,vB false)],[],0⟩
def Zrj(b8:Int×Int×Int×Int×Int×List Kc×List Int)(i9:Int)(aP:Bool):St:=⟨[(1,vP 0 0),(3,vI i9),(38,vB aP)],[(0,.box [.val Ja b8.1,.val Ja b8.2.1,.val Ja b8.2.2.1,.val Ja b8.2.2.2.1,.val Ja b8.2.2.2.2.1,.val Jp b8.2.2.2.2.2.1,.val Je b8.2.2.2.2.2.2])],1⟩
theorem Zso(N:Nat){R:Type}(K:Ex->St->Option R){b8:Int×Int×Int×Int×Int×List Kc×List Int}{K0:Option R}{K1:Int->Bool->Option R}(h0:K0=K .ret (Zri b8))(h1:K1= λi9 aP=>K (.exit 0) (Zrj b8 i9 aP))(n:Nat)(i7:Int):Zbs N b8 K0 K1 n i7=LM Zfo N 0 100004 n (Zsn i7 b8) K:=by
  subst h0 h1
  induction n generalizing i7 with
  |zero=>kernel_rfl
  |succ n ih=>rw[Zbs];simp only[ih];kernel_rfl
def Zsp(bi:List Int)(cn:Int)(ak:Int×Int×Int×Int×Int×List Kc×List Int):St:=⟨[(1,vP 0 0),(56,vV Je bi),(57,vI (Wi ak.2.2.2.2.2.2)),(58,vI cn)],[(0,.box [.val Ja ak.1,.val Ja ak.2.1,.val Ja ak.2.2.1,.val Ja ak.2.2.2.1,.val Ja ak.2.2.2.2.1,.val Jp ak.2.2.2.2.2.1,.val Je ak.2.2.2.2.2.2])],1⟩
def Zrk(bi:List Int)(ak:Int×Int×Int×Int×Int×List Kc×List Int):St:=⟨[(2,vB false)],[],0⟩
def Zrl(bi:List Int)(ak:Int×Int×Int×Int×Int×List Kc×List Int)(jj:Int)(kR:Bool):St:=⟨[(1,vP 0 0),(56,vV Je bi),(57,vI (Wi ak.2.2.2.2.2.2)),(58,vI jj),(59,vB kR)],[(0,.box [.val Ja ak.1,.val Ja ak.2.1,.val Ja ak.2.2.1,.val Ja ak.2.2.2.1,.val Ja ak.2.2.2.2.1,.val Jp ak.2.2.2.2.2.1,.val Je ak.2.2.2.2.2.2])],1⟩
theorem Zsq(N:Nat){R:Type}(K:Ex->St->Option R){bi:List Int}{ak:Int×Int×Int×Int×Int×List Kc×List Int}{K0:Option R}{K1:Int->Bool->Option R}(h0:K0=K .ret (Zrk bi ak))(h1:K1= λjj kR=>K (.exit 2) (Zrl bi ak jj kR))(n:Nat)(cn:Int):Zbe N bi ak K0 K1 n cn=LM Zfo N 1 100009 n (Zsp bi cn ak) K:=by
  subst h0 h1
  induction n generalizing cn with
  |zero=>kernel_rfl
  |succ n ih=>rw[Zbe];simp only[ih];kernel_rfl
theorem Zzc(N:Nat)(c1:Int×Int×Int×Int×Int×List Kc×List Int):DN Zfo N (c1,())=Ze6 N c1:=by
  conv=>rhs;rw[Ze6];simp(disch:=exact id (by kernel_rfl)) only[Zso (R:=Unit×Kq) N (CF Zfo N [1,1,0,1,0]),Zsq (R:=Unit×Kq) N (CF Zfo N [1,1,1,0,1,0])]
  kernel_rfl
theorem Zpv(N:Nat):GW 208 (Zjj N):=GF Zfo N Tryz.func208 (GC (Zhy N) (GC (Z8 N) (GC (Zly N) (GC (Zdl N) (GC (Zm4 N) Wg))))) (λd=>Zzc N d.1)
def Zfd(N:Nat):Sig:=Sig.of [.box Jd,.v Ja false] [] (λd=>Z6 N d.1 d.2.1)
def Zqb:Fn:=⟨Tryz.f209,WG,Zfd,Wbo⟩
theorem Zmf(N:Nat):GW 209 (Zfd N):=GF Zqb N Tryz.func209 Wg
def Zkp(N:Nat):Sig:=Sig.of [.v (.prod Ja Jv) true] [.v Jd true,.v Jq false] (λd=>Ziq N d.1)
def Zuo:Fn:=⟨Tryz.f168,WG,Zkp,λN=>[(207,Zh7 N),(208,Zjj N),(209,Zfd N)]⟩
theorem Zup(N:Nat):GW 168 (Zkp N):=GF Zuo N Tryz.func168 (GC (Zom N) (GC (Zpv N) (GC (Zmf N) Wg)))
def Zei(N:Nat):Sig:=Sig.of [.v Jab true] [.v Jag true] (λd=>Zca N d.1)
def Z0q:Fn:=⟨Tryz.f210,WG,Zei,Wbo⟩
theorem Zhz(N:Nat):GW 210 (Zei N):=GF Z0q N Tryz.func210 Wg
def Zph(N:Nat):Sig:=Sig.of [.v Jab true,.v Ja false,.v Ja false] [.v Jag true,.v Jq false] (λd=>Zm2 N d.1 d.2.1 d.2.2.1)
def Z27:Fn:=⟨Tryz.f211,WG,Zph,λN=>[(210,Zei N),(39,Zc6 N),(129,Zb3 N),(71,Zeh N)]⟩
theorem Z28(N:Nat):GW 211 (Zph N):=GF Z27 N Tryz.func211 (GC (Zhz N) (GC (Zgb N) (GC (Zdl N) (GC (Zhy N) Wg))))
def Zfx(N:Nat):Sig:=Sig.of [.box Jd,.v Ja false] [] (λd=>Zeq N d.1 d.2.1)
def Zqq:Fn:=⟨Tryz.f214,WG,Zfx,Wbo⟩
theorem Zmw(N:Nat):GW 214 (Zfx N):=GF Zqq N Tryz.func214 Wg
def Zkq(N:Nat):Sig:=Sig.of [.box Jd,.v Ja false] [] (λd=>Zbn N d.1 d.2.1)
def Zuq:Fn:=⟨Tryz.f212,WG,Zkq,λN=>[(228,Zgl N),(214,Zfx N)]⟩
theorem Zur(N:Nat):GW 212 (Zkq N):=GF Zuq N Tryz.func212 (GC (Zm4 N) (GC (Zmw N) Wg))
def Zpi(N:Nat):Sig:=Sig.of [.v Jab true] [.v Jag true,.v Ja false] (λd=>Zo2 N d.1)
def Z29:Fn:=⟨Tryz.f213,WG,Zpi,λN=>[(210,Zei N),(39,Zc6 N)]⟩
theorem Z3a(N:Nat):GW 213 (Zpi N):=GF Z29 N Tryz.func213 (GC (Zhz N) (GC (Zgb N) Wg))
def Zoy(N:Nat):Sig:=Sig.of [.v Jab true,.v Ja false,.v Ja false,.v Ja false] [.v Jag true,.v Jq false] (λd=>Znz N d.1 d.2.1 d.2.2.1 d.2.2.2.1)
def Z2u:Fn:=⟨Tryz.f215,WG,Zoy,λN=>[(210,Zei N),(39,Zc6 N),(129,Zb3 N),(71,Zeh N),(83,Za2 N)]⟩
theorem Z2v(N:Nat):GW 215 (Zoy N):=GF Z2u N Tryz.func215 (GC (Zhz N) (GC (Zgb N) (GC (Zdl N) (GC (Zhy N) (GC (Zbq N) Wg)))))
def Zof(N:Nat):Sig:=Sig.of [.v Jab true,.v Ja false,.v Ja false,.v Ja false] [.v Jag true,.v Jq false] (λd=>Zkv N d.1 d.2.1 d.2.2.1 d.2.2.2.1)
def Z1t:Fn:=⟨Tryz.f216,WG,Zof,λN=>[(210,Zei N),(39,Zc6 N),(129,Zb3 N),(71,Zeh N),(68,Z0 N)]⟩
theorem Z1u(N:Nat):GW 216 (Zof N):=GF Z1t N Tryz.func216 (GC (Zhz N) (GC (Zgb N) (GC (Zdl N) (GC (Zhy N) (GC (Z8 N) Wg)))))
def Zlc(N:Nat):Sig:=Sig.of [.v Jab true,.v (.prod Ja Jv) true] [.v Jag true,.v Jd true] (λd=>Zi8 N d.1 d.2.1)
def Zwu:Fn:=⟨Tryz.f169,WG,Zlc,λN=>[(210,Zei N),(207,Zh7 N),(39,Zc6 N),(208,Zjj N),(211,Zph N),(212,Zkq N),(209,Zfd N),(213,Zpi N),(214,Zfx N),(215,Zoy N),(216,Zof N)]⟩
theorem Zwv(N:Nat):GW 169 (Zlc N):=GF Zwu N Tryz.func169 (GC (Zhz N) (GC (Zom N) (GC (Zgb N) (GC (Zpv N) (GC (Z28 N) (GC (Zur N) (GC (Zmf N) (GC (Z3a N) (GC (Zmw N) (GC (Z2v N) (GC (Z1u N) Wg)))))))))))
def Zjy(N:Nat):Sig:=Sig.of [.box Jr,.v Ja false] [] (λd=>Zf0 N d.1 d.2.1)
def Zsr:Fn:=⟨Tryz.f122,λ |0=>[.opn 13]|_=>[],Zjy,λN=>[(168,Zkp N),(115,Zcz N),(169,Zlc N),(167,Zdg N)]⟩
theorem Zss(N:Nat):GW 122 (Zjy N):=GF Zsr N Tryz.func122 (GC (Zup N) (GC (Zgt N) (GC (Zwv N) (GC (Zha N) Wg))))
def Zh8(N:Nat):Sig:=Sig.of [.v Jj true,.box Ja] [.v Jq false] (λd=>Zfm N d.1 d.2.1)
def Zww:Fn:=⟨Tryz.f173,WG,Zh8,Wbo⟩
theorem Zon(N:Nat):GW 173 (Zh8 N):=GF Zww N Tryz.func173 Wg
def Zap(N:Nat):Sig:=Sig.of [.v Jf false,.clos 173 1,.box Ja] [.v Ja false] (λd=>Zy N d.1 d.2.1)
def Zaa:Fn:=⟨Tryz.f219,λ |2=>[.canon [0,1,7,8,9]]|3=>[.canon [0,1,5,7,8]]|4=>[.canon [0,1,5,7,8,16]]|5=>[.canon [1,4]]|6=>[.canon [0,1,7,8]]|100002=>[.canon [0,1,7,8]]|_=>[],Zap,λN=>[(173,Zh8 N)]⟩
def Zej(s3:List Kb)(t5:Int)(b6:Int):St:=⟨[(0,vV Jf s3),(1,.s (.one (.clos 173 [0]))),(7,vI (Wi s3)),(8,vI t5)],[(0,.box [.val Ja b6])],1⟩
def Zdz(s3:List Kb)(t9:Int)(bj:Int):St:=⟨[(1,.s (.one (.clos 173 [0]))),(4,vI t9)],[(0,.box [.val Ja bj])],1⟩
def Zd0(s3:List Kb)(aX:Int)(aT:Bool)(aB:Int):St:=⟨[(0,vV Jf s3),(1,.s (.one (.clos 173 [0]))),(7,vI (Wi s3)),(8,vI aX),(9,vB aT)],[(0,.box [.val Ja aB])],1⟩
theorem Zek(N:Nat){R:Type}(K:Ex->St->Option R){s3:List Kb}{K0:Int->Int->Option R}{K1:Int->Bool->Int->Option R}(h0:K0= λt9 bj=>K .ret (Zdz s3 t9 bj))(h1:K1= λaX aT aB=>K (.exit 0) (Zd0 s3 aX aT aB))(n:Nat)(t5:Int)(b6:Int):Zn N s3 K0 K1 n t5 b6=LM Zaa N 0 100002 n (Zej s3 t5 b6) K:=by
  subst h0 h1
  induction n generalizing t5 b6 with
  |zero=>kernel_rfl
  |succ n ih=>rw[Zn];simp only[ih];kernel_rfl
theorem Zfe(N:Nat)(s1:List Kb)(dR:Int):DN Zaa N (s1,dR,())=Zy N s1 dR:=by
  conv=>rhs;rw[Zy];simp(disch:=exact id (by kernel_rfl)) only[Zek (R:=Kj×Kj) N (CF Zaa N [1,0,1,0])]
  kernel_rfl
theorem Zff(N:Nat):GW 219 (Zap N):=GF Zaa N Tryz.func219 (GC (Zon N) Wg) (λd=>Zfe N d.1 d.2.1)
def Zam(N:Nat):Sig:=Sig.of [.v (.own Jj) false,.clos 173 1,.box Ja] [.v (.own Jj) false] (λd=>Zs N d.1 d.2.1)
def Z7:Fn:=⟨Tryz.f172,λ |5=>[.canon [0,1,5,6,19]]|6=>[.canon [0,1,5,6]]|7=>[.canon [0,1,5,6,7]]|8=>[.canon [0,1,5,6,7,29]]|9=>[.canon [0,1,5,6]]|10=>[.canon [0,1,5,6]]|11=>[.view 38]|100005=>[.canon [0,1,5,6]]|_=>[],Zam,λN=>[(219,Zap N),(173,Zh8 N)]⟩
def Zd1(i4:Int)(j5:Int)(l6:List Kb)(b7:Int):St:=⟨[(0,vO 0),(1,.s (.one (.clos 173 [1]))),(5,vI i4),(6,vI j5)],[(0,.arr Jj l6),(1,.box [.val Ja b7])],2⟩
def Zdu(i9:Int)(xi:Int)(aX:Bool)(aw:List Kb)(aB:Int):St:=⟨[(0,vO 0),(1,.s (.one (.clos 173 [1]))),(5,vI i9),(6,vI xi),(19,vB aX)],[(0,.arr Jj aw),(1,.box [.val Ja aB])],2⟩
theorem Zd2(N:Nat){R:Type}(K:Ex->St->Option R){K0:Int->Int->Bool->Ks->Int->Option R}(h0:K0= λi9 xi aX aw aB=>K (.exit 0) (Zdu i9 xi aX aw aB))(n:Nat)(i4:Int)(j5:Int)(l6:List Kb)(b7:Int):Ze N K0 n i4 j5 l6 b7=LM Z7 N 0 100005 n (Zd1 i4 j5 l6 b7) K:=by
  subst h0
  induction n generalizing i4 j5 l6 b7 with
  |zero=>kernel_rfl
  |succ n ih=>rw[Ze];simp only[ih];kernel_rfl
theorem Ze0(N:Nat)(s1:List Kb)(dR:Int):DN Z7 N (s1,dR,())=Zs N s1 dR:=by
  conv=>rhs;rw[Zs];simp(disch:=exact id (by kernel_rfl)) only[Zd2 (R:=Kj×(Ks×Unit)) N (CF Z7 N [1,1,1,0,1,0])]
  kernel_rfl
theorem Ze1(N:Nat):GW 172 (Zam N):=GF Z7 N Tryz.func172 (GC (Zff N) (GC (Zon N) Wg)) (λd=>Ze0 N d.1 d.2.1)
def Zmz(N:Nat):Sig:=Sig.of [.v Jf false,.v Ja false] [.v (.own Jj) false] (λd=>Zlf N d.1 d.2.1)
def Zzd:Fn:=⟨Tryz.f123,WG,Zmz,λN=>[(170,Zi2 N),(171,Zga N),(172,Zam N)]⟩
theorem Zze(N:Nat):GW 123 (Zmz N):=GF Zzd N Tryz.func123 (GC (Zpa N) (GC (Zkg N) (GC (Ze1 N) Wg)))
def Zld(N:Nat):Sig:=Sig.of [.box Jr,.v Ja false,.v Jah true] [] (λd=>Zg9 N d.1 d.2.1 d.2.2.1)
def Zwx:Fn:=⟨Tryz.f69,λ |1=>[.opn 12]|_=>[],Zld,λN=>[(68,Z0 N),(115,Zcz N),(116,Zla N),(117,Zmc N),(118,Zme N),(119,Zgz N),(120,Zh6 N),(121,Zjx N),(122,Zjy N),(123,Zmz N),(124,Ziy N)]⟩
theorem Zwy(N:Nat):GW 69 (Zld N):=GF Zwx N Tryz.func69 (GC (Z8 N) (GC (Zgt N) (GC (Zwj N) (GC (Zyl N) (GC (Zyp N) (GC (Znv N) (GC (Zol N) (GC (Zsm N) (GC (Zss N) (GC (Zze N) (GC (Zo6 N) Wg)))))))))))
def Zh9(N:Nat):Sig:=Sig.of [.v Jj true,.box Ja] [.v Jq false] (λd=>Zjn N d.1 d.2.1)
def Zqr:Fn:=⟨Tryz.f180,WG,Zh9,Wbo⟩
theorem Zqs(N:Nat):GW 180 (Zh9 N):=GF Zqr N Tryz.func180 Wg
def Zaf(N:Nat):Sig:=Sig.of [.v Jf false,.clos 180 1,.box Ja] [.v Ja false] (λd=>Zr N d.1 d.2.1)
def Z1:Fn:=⟨Tryz.f179,λ |2=>[.canon [0,1,7,8,9]]|3=>[.canon [0,1,5,7,8]]|4=>[.canon [0,1,5,7,8,16]]|5=>[.canon [1,4]]|6=>[.canon [0,1,7,8]]|100002=>[.canon [0,1,7,8]]|_=>[],Zaf,λN=>[(180,Zh9 N)]⟩
def Zc7(s3:List Kb)(t5:Int)(b6:Int):St:=⟨[(0,vV Jf s3),(1,.s (.one (.clos 180 [0]))),(7,vI (Wi s3)),(8,vI t5)],[(0,.box [.val Ja b6])],1⟩
def Zc2(s3:List Kb)(t9:Int)(bj:Int):St:=⟨[(1,.s (.one (.clos 180 [0]))),(4,vI t9)],[(0,.box [.val Ja bj])],1⟩
def Zc3(s3:List Kb)(aX:Int)(aT:Bool)(aB:Int):St:=⟨[(0,vV Jf s3),(1,.s (.one (.clos 180 [0]))),(7,vI (Wi s3)),(8,vI aX),(9,vB aT)],[(0,.box [.val Ja aB])],1⟩
theorem Zc8(N:Nat){R:Type}(K:Ex->St->Option R){s3:List Kb}{K0:Int->Int->Option R}{K1:Int->Bool->Int->Option R}(h0:K0= λt9 bj=>K .ret (Zc2 s3 t9 bj))(h1:K1= λaX aT aB=>K (.exit 0) (Zc3 s3 aX aT aB))(n:Nat)(t5:Int)(b6:Int):Zi N s3 K0 K1 n t5 b6=LM Z1 N 0 100002 n (Zc7 s3 t5 b6) K:=by
  subst h0 h1
  induction n generalizing t5 b6 with
  |zero=>kernel_rfl
  |succ n ih=>rw[Zi];simp only[ih];kernel_rfl
theorem Zdv(N:Nat)(s1:List Kb)(dR:Int):DN Z1 N (s1,dR,())=Zr N s1 dR:=by
  conv=>rhs;rw[Zr];simp(disch:=exact id (by kernel_rfl)) only[Zc8 (R:=Kj×Kj) N (CF Z1 N [1,0,1,0])]
  kernel_rfl
theorem Zdw(N:Nat):GW 179 (Zaf N):=GF Z1 N Tryz.func179 (GC (Zqs N) Wg) (λd=>Zdv N d.1 d.2.1)
def Zew(N:Nat):Sig:=Sig.of [.rp (TY_Family),.v Ja false] [.v Ja false] (λd=>Zci N d.1 d.2.1)
def Zst:Fn:=⟨Tryz.f127,WG,Zew,λN=>[(179,Zaf N)]⟩
theorem Zjz(N:Nat):GW 127 (Zew N):=GF Zst N Tryz.func127 (GC (Zdw N) Wg)
def Zfy(N:Nat):Sig:=Sig.of [.box Jx,.v Ja false] [] (λd=>Zbf N d.1 d.2.1)
def Zqt:Fn:=⟨Tryz.f128,WG,Zfy,λN=>[(37,Zv N)]⟩
theorem Zmx(N:Nat):GW 128 (Zfy N):=GF Zqt N Tryz.func128 (GC (Z3 N) Wg)
def Zkr(N:Nat):Sig:=Sig.of [.box Jx,.v Ja false,.v Jt true,.v Jab true] [] (λd=>Zij N d.1 d.2.1 d.2.2.1 d.2.2.2.1)
def Zus:Fn:=⟨Tryz.f174,λ |1=>[.opn 18]|_=>[],Zkr,λN=>[(194,Zk1 N),(127,Zew N),(128,Zfy N),(195,Zjh N),(196,Ziz N)]⟩
theorem Zut(N:Nat):GW 174 (Zkr N):=GF Zus N Tryz.func174 (GC (Zpg N) (GC (Zjz N) (GC (Zmx N) (GC (Zpt N) (GC (Zo7 N) Wg)))))
def Zj0(N:Nat):Sig:=Sig.of [.box Jh,.v Jc false] [] (λd=>Zh0 N d.1 d.2.1)
def Zsu:Fn:=⟨Tryz.f175,λ |5=>[.opn 28]|_=>[],Zj0,λN=>[(37,Zv N),(167,Zdg N),(98,Zju N)]⟩
theorem Zsv(N:Nat):GW 175 (Zj0 N):=GF Zsu N Tryz.func175 (GC (Z3 N) (GC (Zha N) (GC (Zow N) Wg)))
def Zle(N:Nat):Sig:=Sig.of [.box Jx,.v Ja false,.v Jc false,.v Jab true] [] (λd=>Zi5 N d.1 d.2.1 d.2.2.1 d.2.2.2.1)
def Zwz:Fn:=⟨Tryz.f125,λ |1=>[.opn 16]|18=>[.nest 128 Jaa]|_=>[],Zle,λN=>[(174,Zkr N),(175,Zj0 N),(37,Zv N),(97,Zkz N)]⟩
theorem Zw0(N:Nat):GW 125 (Zle N):=GF Zwz N Tryz.func125 (GC (Zut N) (GC (Zsv N) (GC (Z3 N) (GC (Zpe N) Wg))))
def Za8(N:Nat):Sig:=Sig.of [.mut Jj,.clos 178 0] [] (λd=>Zai N d.1)
theorem Zd3:CmpOk Tryz.prog 178 Jj WwO cfE:=by
  intro G x y us vs w hx hy h1 h2;obtain⟨_,_,rfl,a1,_,_,rfl,a2,a3⟩:=h1;obtain⟨_,_,rfl,b1,_,_,rfl,b2,b3⟩:=h2;simp only[Enc]at a1 a2 a3 b1 b2 b3;subst a1 a2 a3 b1 b2 b3;simp only[Xax,Xbu]
  go_enter Tryz.func178,Tryz.ntmps178
  go_wp2
  rw[sub_run (Why hx) (Why hy) (c:=cfE x y) rfl]
  go_wp2
  go_ret
  exact⟨rfl,two_grow _ _ _⟩
theorem Zd4(N:Nat):GW 177 (Za8 N):=⟨Wcu Tryz.func177 (show Wmk Tryz.f177=true by kernel_rfl),good_sortF sortFE (e:=.prod Ja Js) rfl (by decide) Tryz.isAgg187 Tryz.sizeOf187 (enters_of Tryz.func178 (by kernel_rfl) rfl) WxY Zd3 N⟩
end
end Go.Sx
