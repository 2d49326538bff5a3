/- Each Go function does what its Lean function says. -/
import Derived.Test.YtceijnpnofmkkaaGreatT2
import Derived.Test.YtceijnpnofmkkaaGreatProg
import Derived.Test.YtceijnpnofmkkaaGreatLay
open Bool renaming and_eq_true→Xi
open List renaming cons_append→Xbd,nil_append→Xby
namespace Go.Sx
noncomputable section
open Go.Proofs
abbrev Ja:Ty:=.int .i64
abbrev Jb:Ty:=.prod (.own Ja) (.prod (.own (.prod Ja Ja)) (.prod (.own (.prod Ja (.prod Ja Ja))) (.prod (.own Ja) (.prod (.own (.prod Ja Ja)) (.own (.prod Ja (.prod Ja (.prod Ja (.prod Ja (.prod Ja (.prod Ja (.prod (.own Ja) (.prod (.own (.prod Ja (.prod Ja Ja))) (.prod (.own (.prod Ja Ja)) (.prod (.own (.prod Ja (.prod Ja (.own Ja)))) (.prod (.bool) (.prod Ja (.prod Ja (.prod Ja Ja)))))))))))))))))))
abbrev Jc:Ty:=.slice (.prod Ja (.prod Ja (.prod Ja Ja)))
abbrev Jd:Ty:=.prod Ja (.prod Ja (.prod Ja (.prod Ja (.prod Ja (.prod (.own (.prod Ja Ja)) (.own Ja))))))
abbrev Je:Ty:=.slice (.prod Ja (.prod Ja Ja))
abbrev Jf:Ty:=.own (.prod Ja (.prod Ja (.prod Ja (.prod Ja (.slice Ja)))))
abbrev Jg:Ty:=.prod Ja (.prod Ja (.prod Ja (.prod Ja (.prod Ja (.prod Ja (.prod Ja (.prod Ja (.prod Ja (.prod Ja (.prod (.bool) (.prod (.own Ja) (.prod (.own (.prod Ja Ja)) (.prod (.own (.prod Ja Ja)) (.prod Jf (.prod (.own (.prod Ja (.prod Ja Ja))) (.prod (.own Ja) (.prod (.bool) (.prod (.prod Ja (.prod Ja (.prod Ja Ja))) (.prod Jd (.prod Ja (.prod Ja (.prod Ja (.prod (.bool) Jb)))))))))))))))))))))))
abbrev Jh:Ty:=.prod Ja (.prod Ja (.prod Ja (.prod Ja (.prod Ja (.prod Ja (.prod (.own Ja) (.prod (.own (.prod Ja (.prod Ja Ja))) (.prod (.own (.prod Ja Ja)) (.prod (.own (.prod Ja (.prod Ja (.own Ja)))) (.prod (.bool) (.prod Ja (.prod Ja (.prod Ja Ja)))))))))))))
abbrev Ji:Ty:=.prod Ja (.prod Ja (.slice (.prod Ja Ja)))
abbrev Jj:Ty:=.slice Ja
abbrev Jk:Ty:=.prod Ja (.prod Ja Ja)
abbrev Jl:Ty:=.slice (.int .u8)
abbrev Jm:Ty:=.prod Jc (.slice Jc)
abbrev Jn:Ty:=.slice (.prod Ja Ja)
abbrev Jo:Ty:=.prod (.own (.prod Ja Jg)) (.own Ji)
abbrev Jp:Ty:=.bool
abbrev Jq:Ty:=.prod (.own Ja) Ja
abbrev Jr:Ty:=.prod Jj (.prod Jj Ja)
abbrev Js:Ty:=.prod Ja (.prod Ja (.own Ja))
abbrev Jt:Ty:=.prod Ja Je
abbrev Ju:Ty:=.prod Ja (.prod Ja (.prod (.prod Ja (.own Jk)) (.prod Jq (.prod (.own Jk) Jo))))
abbrev Jv:Ty:=.prod Ja Ja
abbrev Jw:Ty:=.prod Ja Jk
abbrev Jx:Ty:=.prod Ja (.prod Ja (.prod Ja (.prod Ja (.prod Jn Jj))))
abbrev Jy:Ty:=.prod Ja (.prod Ja (.prod Ja (.prod Jp Jb)))
abbrev Jz:Ty:=.slice Jm
abbrev Jaa:Ty:=.prod Ja Jg
abbrev Jab:Ty:=.own Ja
abbrev Jac:Ty:=.slice (TY_KidRun)
abbrev Jad:Ty:=.prod Ja (.prod Ja (.prod Ja Jj))
abbrev Jae:Ty:=.prod Jl Jv
abbrev Jaf:Ty:=.prod Jr (.prod Jz Je)
abbrev Jag:Ty:=.prod Ja (.own Jk)
set_option linter.unusedVariables false
set_option linter.unusedSimpArgs false
def tab:Tab:=[(3,⟨.int .i64,false,.basic⟩),(4,⟨.bool,false,.basic⟩),(5,⟨.int .u8,false,.basic⟩),(22,⟨.slice (.int .u8),false,.slice 5⟩),(24,⟨.slice Ja,false,.slice 3⟩),(26,⟨.prod Jj (.prod Jj Ja),true,.struct [(0,24),(1,24),(2,3)]⟩),(27,⟨.slice Jm,false,.slice 57⟩),(28,⟨.slice Jk,false,.slice 91⟩),(30,⟨.prod Jr (.prod Jz Je),true,.struct [(0,26),(3,27),(4,28)]⟩),(33,⟨.slice Jk,false,.slice 102⟩),(35,⟨.prod Ja Je,true,.struct [(0,3),(1,33)]⟩),(37,⟨.prod Jj Ja,true,.struct [(0,24),(1,3)]⟩),(38,⟨.slice Jk,false,.slice 230⟩),(39,⟨.slice (TY_Root),false,.slice 76⟩),(40,⟨.slice Ji,false,.slice 48⟩),(42,⟨TY_World,true,.struct [(0,3),(1,3),(2,35),(4,37),(6,38),(7,39),(8,40)]⟩),(46,⟨.slice Jv,false,.slice 138⟩),(48,⟨.prod Ja (.prod Ja Jn),true,.struct [(0,3),(1,3),(2,46)]⟩),(54,⟨.slice Jw,false,.slice 79⟩),(55,⟨.slice Jc,false,.slice 82⟩),(57,⟨.prod Jc (.slice Jc),true,.struct [(0,54),(1,55)]⟩),(65,⟨.slice (.prod Ja Jad),false,.slice 177⟩),(66,⟨.slice Jk,false,.slice 220⟩),(68,⟨.prod Ja Jk,true,.struct [(0,3),(1,3),(2,3),(3,3)]⟩),(70,⟨.prod Ja Jx,true,.struct [(0,3),(1,3),(2,3),(3,3),(4,3),(5,46),(6,24)]⟩),(71,⟨.slice Jk,false,.slice 187⟩),(72,⟨.slice (TY_KidRun),false,.slice 185⟩),(74,⟨TY_Family,true,.struct [(0,3),(1,3),(2,3),(3,4),(4,24),(5,46),(6,71),(7,24),(8,46),(9,72)]⟩),(76,⟨TY_Root,true,.struct [(0,3),(1,3),(2,3),(3,3),(4,3),(5,3),(6,3),(7,3),(8,3),(9,3),(10,3),(11,4),(12,24),(13,46),(14,46),(15,65),(16,66),(17,24),(18,4),(19,68),(23,70),(30,74)]⟩),(79,⟨.prod Ja Jk,true,.struct [(0,3),(1,3),(2,3),(3,3)]⟩),(82,⟨.slice Jw,true,.struct [(0,54)]⟩),(91,⟨.prod Ja Jv,true,.struct [(0,3),(1,3),(2,3)]⟩),(102,⟨.prod Ja Jv,true,.struct [(0,3),(1,3),(2,3)]⟩),(118,⟨.prod Jl Jv,true,.struct [(0,22),(1,3),(2,3)]⟩),(138,⟨.prod Ja Ja,true,.struct [(0,3),(1,3)]⟩),(165,⟨.bool,true,.arr 8 4⟩),(177,⟨.prod Ja Jad,true,.struct [(0,3),(1,3),(2,3),(3,3),(4,24)]⟩),(183,⟨.slice (.prod Ja (.prod Ja Jj)),false,.slice 235⟩),(185,⟨TY_KidRun,true,.struct [(0,3),(1,3),(2,3),(3,3),(4,3),(5,3),(6,24),(7,71),(8,46),(9,183),(10,4),(11,68)]⟩),(187,⟨.prod Ja Jv,true,.struct [(0,3),(1,3),(2,3)]⟩),(220,⟨.prod Ja Jv,true,.struct [(0,3),(1,3),(2,3)]⟩),(230,⟨.prod Ja Jv,true,.struct [(0,3),(1,3),(2,3)]⟩),(235,⟨.prod Ja (.prod Ja Jj),true,.struct [(0,3),(1,3),(2,24)]⟩)]
theorem mixedOk:Tryz.prog.follows .mixedOrders=true:=by kernel_rfl
theorem tabOk:Wao Tryz.prog tab:=WwZ (show WlV Tryz.prog tab tab=true by kernel_rfl)
def LM(x:Fn)(N:Nat){R:Type}(i k n:Nat)(st:St)(K:Ex->St->Option R):Option R:=lpM tab (x.c N) x.a N x.F i k n st K
def CF(x:Fn)(N:Nat)(p:List Nat):Ex->St->Option (Qs (x.s N)):=cxF tab (x.c N) x.a N (x.s N) x.F p
def CL(x:Fn)(N:Nat){R:Type}(i k:Nat)(p:List Nat)(n:Nat)(K:Ex->St->Option R):Ex->St->Option R:=cxL tab (x.c N) x.a N x.F i k p n K
def DN(x:Fn)(N:Nat)(d:WfA (x.s N).ps):Option (Qs (x.s N)):=den (R:=Qs (x.s N)) tab (x.c N) x.a N (x.s N) x.F d some
def GW(k:FuncId)(s:Sig):Prop:=Wgz Tryz.prog k/\Good Tryz.prog k s
theorem GC{k:FuncId}{s:Sig}{Γ:Ctx}(h:GW k s)(hc:Wft Tryz.prog Γ):Wft Tryz.prog ((k,s)::Γ):=WtH h.2 h.1 hc
theorem GF(x:Fn){k:FuncId}(N:Nat)(hf:Tryz.prog.funcs[k]?=some x.F)(hc:Wft Tryz.prog (x.c N))(h:∀d,DN x N d=(x.s N).run d:=by intro d;kernel_rfl)(aJ:(Wp7 x.F&&WnK x.F (x.s N).ps)=true:=by kernel_rfl):GW k (x.s N):=
  ⟨WdX hf (Xi .. ▸aJ).1,Wsh mixedOk tabOk hc hf (Xi .. ▸aJ).2 (λd _ e=>⟨N,(h d).trans e⟩)⟩
def Zop(N:Nat):Sig:=Sig.of [.v Jl false] [.v Jp false] (λd=>Zro N d.1)
def Z0o:Fn:=⟨Tryz.f6,WM,Zop,Wbq⟩
theorem Z0p(N:Nat):GW 6 (Zop N):=GF Z0o N Tryz.func6 Wi
def Znl(N:Nat):Sig:=Sig.of [.v Jl false] [.box Jae] (λd=>Zit N d.1)
def Zle:Fn:=⟨Tryz.f24,λ |3=>[.canon [0,3,4,15]]|4=>[.canon [0,3,4]]|5=>[.canon [0,3,4]]|100003=>[.canon [0,3,4]]|_=>[],Znl,Wbq⟩
def Zu2(aa:List Int)(h3:Int)(i4:Int):St:=⟨[(0,vV Jl aa),(3,vI h3),(4,vI i4)],[],0⟩
def Ztd(aa:List Int)(h5:Int)(i6:Int)(t7:Bool):St:=⟨[(0,vV Jl aa),(3,vI h5),(4,vI i6),(15,vB t7)],[],0⟩
theorem Zu3(N:Nat){R:Type}(K:Ex->St->Option R){aa:List Int}{K0:Int->Int->Bool->Option R}(h0:K0= λh5 i6 t7=>K (.exit 0) (Ztd aa h5 i6 t7))(n:Nat)(h3:Int)(i4:Int):Zci N aa K0 n h3 i4=LM Zle N 0 100003 n (Zu2 aa h3 i4) K:=by
  subst h0
  induction n generalizing h3 i4 with
  |zero=>kernel_rfl
  |succ n ih=>rw[Zci];simp only[ih];kernel_rfl
theorem Zzn(N:Nat)(ac:List Int):DN Zle N (ac,())=Zit N ac:=by
  conv=>rhs;rw[Zit];simp(disch:=exact id (by kernel_rfl)) only[Zu3 (R:=Unit×Ks) N (CF Zle N [1,1,0,1,0])]
  kernel_rfl
theorem Zzo(N:Nat):GW 24 (Znl N):=GF Zle N Tryz.func24 Wi (λd=>Zzn N d.1)
def Zmx(N:Nat):Sig:=Sig.of [.v Jl false,.v Ja false] [.v Ja false] (λd=>Zl2 N d.1 d.2.1)
def Zyh:Fn:=⟨Tryz.f26,WM,Zmx,Wbq⟩
theorem Zyi(N:Nat):GW 26 (Zmx N):=GF Zyh N Tryz.func26 Wi
def Zmy(N:Nat):Sig:=Sig.of [.box Jae] [.v Ja false] (λd=>Zfd N d.1)
def Zyj:Fn:=⟨Tryz.f110,WM,Zmy,Wbq⟩
theorem Zyk(N:Nat):GW 110 (Zmy N):=GF Zyj N Tryz.func110 Wi
def Z4(N:Nat):Sig:=Sig.of [.box Jae,.v Ja false] [.v Ja false] (λd=>Zb N d.1 d.2.1)
def Zxb:Fn:=⟨Tryz.f61,WM,Z4,λN=>[(110,Zmy N)]⟩
theorem Zaa(N:Nat):GW 61 (Z4 N):=GF Zxb N Tryz.func61 (GC (Zyk N) Wi)
def Zbw(N:Nat):Sig:=Sig.of [.box Jae,.v Ja false] [.v Jp false] (λd=>Zp N d.1 d.2.1)
def Zyl:Fn:=⟨Tryz.f41,WM,Zbw,λN=>[(61,Z4 N)]⟩
theorem Zc8(N:Nat):GW 41 (Zbw N):=GF Zyl N Tryz.func41 (GC (Zaa N) Wi)
def Zf4(N:Nat):Sig:=Sig.of [.box Jae,.v Jj false] [.v Ja false] (λd=>Zbj N d.1 d.2.1)
def Zu4:Fn:=⟨Tryz.f146,WM,Zf4,λN=>[(61,Z4 N)]⟩
theorem Zkx(N:Nat):GW 146 (Zf4 N):=GF Zu4 N Tryz.func146 (GC (Zaa N) Wi)
def Zh4(N:Nat):Sig:=Sig.of [.box Jae] [.v Ja false] (λd=>Zgh N d.1)
def Zym:Fn:=⟨Tryz.f87,WM,Zh4,λN=>[(41,Zbw N),(146,Zf4 N),(61,Z4 N)]⟩
theorem Zmz(N:Nat):GW 87 (Zh4 N):=GF Zym N Tryz.func87 (GC (Zc8 N) (GC (Zkx N) (GC (Zaa N) Wi)))
def Zj2(N:Nat):Sig:=Sig.of [.box Jae] [.v Jab false] (λd=>Ze0 N d.1)
def Zhg:Fn:=⟨Tryz.f86,λ |3=>[.canon [0,3,4,7]]|4=>[.canon [0,3,4]]|5=>[.canon [0,3,4]]|100003=>[.canon [0,3,4]]|_=>[],Zj2,λN=>[(87,Zh4 N)]⟩
def Zoz(i2:Int)(b3:List Int×Int×Int)(l4:List Int):St:=⟨[(0,vP 0 0),(3,vO 1),(4,vI i2)],[(0,.box [.val Jl b3.1,.val Ja b3.2.1,.val Ja b3.2.2]),(1,.arr Ja l4)],2⟩
def Zoq(i6:Int)(t7:Bool)(b8:List Int×Int×Int)(l9:List Int):St:=⟨[(0,vP 0 0),(3,vO 1),(4,vI i6),(7,vB t7)],[(0,.box [.val Jl b8.1,.val Ja b8.2.1,.val Ja b8.2.2]),(1,.arr Ja l9)],2⟩
theorem Zo0(N:Nat){R:Type}(K:Ex->St->Option R){K0:Int->Bool->Kf->Kj->Option R}(h0:K0= λi6 t7 b8 l9=>K (.exit 0) (Zoq i6 t7 b8 l9))(n:Nat)(i2:Int)(b3:List Int×Int×Int)(l4:List Int):Zcf N K0 n i2 b3 l4=LM Zhg N 0 100003 n (Zoz i2 b3 l4) K:=by
  subst h0
  induction n generalizing i2 b3 l4 with
  |zero=>kernel_rfl
  |succ n ih=>rw[Zcf];simp only[ih];kernel_rfl
theorem Zte(N:Nat)(c1:List Int×Int×Int):DN Zhg N (c1,())=Ze0 N c1:=by
  conv=>rhs;rw[Ze0];simp(disch:=exact id (by kernel_rfl)) only[Zo0 (R:=Ks×Ku) N (CF Zhg N [1,1,0,1,0])]
  kernel_rfl
theorem Ztf(N:Nat):GW 86 (Zj2 N):=GF Zhg N Tryz.func86 (GC (Zmz N) Wi) (λd=>Zte N d.1)
def Zii(N:Nat):Sig:=Sig.of [.box Jae] [.v (.prod Jab Jq) true] (λd=>Zep N d.1)
def Zij:Fn:=⟨Tryz.f44,λ |3=>[.canon [0,2,3,4,12]]|4=>[.canon [0,2,3,4]]|5=>[.canon [0,2,3,4,5]]|6=>[.canon [0,2,3,4,5,16]]|7=>[.canon [0,2,3,4,5]]|8=>[.canon [0,2,3,4]]|100003=>[.adoptC 3 1 Ja,.canon [0,2,3,4]]|_=>[],Zii,λN=>[(86,Zj2 N),(87,Zh4 N),(41,Zbw N)]⟩
def Zp7(i4:Int)(b5:List Int×Int×Int)(b7:Int)(l8:List Int)(l9:List Int):St:=⟨[(0,vP 0 0),(2,vP 1 0),(3,vP 2 0),(4,vI i4)],[(0,.box [.val Jl b5.1,.val Ja b5.2.1,.val Ja b5.2.2]),(1,.box [.nils,.nils,.val Ja (0:Int)]),(2,.box [.own 3,.own 4,.val Ja b7]),(3,.arr Ja l8),(4,.arr Ja l9)],5⟩
def Zpk(b7:Int)(l8:List Int)(pX:Int)(bM:Bool)(aY:List Int×Int×Int)(dc:List Int):St:=⟨[(0,vP 0 0),(2,vP 1 0),(3,vP 2 0),(4,vI pX),(12,vB bM)],[(0,.box [.val Jl aY.1,.val Ja aY.2.1,.val Ja aY.2.2]),(1,.box [.nils,.nils,.val Ja (0:Int)]),(2,.box [.own 3,.own 4,.val Ja b7]),(3,.arr Ja l8),(4,.arr Ja dc)],5⟩
theorem Zp8(N:Nat){R:Type}(K:Ex->St->Option R){b7:Int}{l8:List Int}{K0:Int->Bool->Kf->Kj->Option R}(h0:K0= λpX bM aY dc=>K (.exit 0) (Zpk b7 l8 pX bM aY dc))(n:Nat)(i4:Int)(b5:List Int×Int×Int)(l9:List Int):Zcb N b7 l8 K0 n i4 b5 l9=LM Zij N 0 100003 n (Zp7 i4 b5 b7 l8 l9) K:=by
  subst h0
  induction n generalizing i4 b5 l9 with
  |zero=>kernel_rfl
  |succ n ih=>rw[Zcb];simp only[ih];kernel_rfl
theorem Zwg(N:Nat)(c1:List Int×Int×Int):DN Zij N (c1,())=Zep N c1:=by
  conv=>rhs;rw[Zep];simp(disch:=exact id (by kernel_rfl)) only[Zp8 (R:=Ks×(Kg×Unit)) N (CF Zij N [1,1,0,1,0])]
  kernel_rfl
theorem Zod(N:Nat):GW 44 (Zii N):=GF Zij N Tryz.func44 (GC (Ztf N) (GC (Zmz N) (GC (Zc8 N) Wi))) (λd=>Zwg N d.1)
def Zky(N:Nat):Sig:=Sig.of [.box Jae] [.v Ja false] (λd=>Za N d.1)
def Zu5:Fn:=⟨Tryz.f187,WM,Zky,λN=>[(61,Z4 N)]⟩
theorem Zu6(N:Nat):GW 187 (Zky N):=GF Zu5 N Tryz.func187 (GC (Zaa N) Wi)
def Zj3(N:Nat):Sig:=Sig.of [.box Jae] [.v Ja false] (λd=>Zbr N d.1)
def Ztg:Fn:=⟨Tryz.f188,WM,Zj3,λN=>[(41,Zbw N),(61,Z4 N)]⟩
theorem Zth(N:Nat):GW 188 (Zj3 N):=GF Ztg N Tryz.func188 (GC (Zc8 N) (GC (Zaa N) Wi))
def Zkz(N:Nat):Sig:=Sig.of [.box Jae] [.v Ja false] (λd=>Zi N d.1)
def Zu7:Fn:=⟨Tryz.f189,WM,Zkz,λN=>[(41,Zbw N),(61,Z4 N),(146,Zf4 N)]⟩
theorem Zu8(N:Nat):GW 189 (Zkz N):=GF Zu7 N Tryz.func189 (GC (Zc8 N) (GC (Zaa N) (GC (Zkx N) Wi)))
def Zi7(N:Nat):Sig:=Sig.of [.box Jae,.v Ja false] [.v Jw true] (λd=>Zh N d.1 d.2.1)
def Zxc:Fn:=⟨Tryz.f144,WM,Zi7,λN=>[(187,Zky N),(87,Zh4 N),(188,Zj3 N),(61,Z4 N),(189,Zkz N)]⟩
theorem Zor(N:Nat):GW 144 (Zi7 N):=GF Zxc N Tryz.func144 (GC (Zu6 N) (GC (Zmz N) (GC (Zth N) (GC (Zaa N) (GC (Zu8 N) Wi)))))
def Zke(N m:Nat):Sig:=Sig.of [.box Jae,.v Ja false,.v Ja false,.v Jp false] [.v (.own Jw) false] (λd=>Zd7 N m d.1 d.2.1 d.2.2.1 d.2.2.2.1)
def Zp9(N:Nat):Sig:=Zke N N
def Zlf(m:Nat):Fn:=⟨Tryz.f84,λ |3=>[.canon [0,1,2,3,9,10,27]]|4=>[.canon [0,1,2,3,9,10]]|5=>[.canon [0,1,2,3,9,10,11]]|6=>[.canon [0,1,2,3,9,10]]|7=>[.canon [0,1,2,3,9,10,11,40]]|8=>[.canon [0,1,2,3,9,10]]|9=>[.canon [0,1,2,3,9,10,11,48]]|10=>[.canon [0,1,2,3,9,10]]|11=>[.canon [0,1,2,3,9,10,11,56]]|12=>[.canon [0,1,2,3,9,10]]|13=>[.canon [0,1,2,3,9,10,11,67]]|14=>[.canon [0,1,2,3,9,10,12]]|15=>[.canon [0,1,2,3,9,10,12]]|16=>[.canon [0,1,2,3,9,10]]|17=>[.canon [0,1,2,3,9,10,100]]|18=>[.canon [0,1,2,3,9,10]]|19=>[.canon [0,1,2,3,9,10]]|20=>[.canon [0,1,2,3,9,10,11,109]]|21=>[.canon [0,1,2,3,9,10,13]]|22=>[.canon [0,1,2,3,9,10,13,14]]|23=>[.canon [0,1,2,3,9,10,13,14]]|24=>[.canon [0,1,2,3,9,10,13]]|25=>[.canon [0,1,2,3,9,10]]|26=>[.canon [0,1,2,3,9,10,134]]|27=>[.canon [0,1,2,3,9,10]]|28=>[.canon [0,1,2,3,9,10,145]]|29=>[.canon [0,1,2,3,9,10]]|100003=>[.canon [0,1,2,3,9,10]]|_=>[],λN=>Zke N (m+1),λN=>[(61,Z4 N),(144,Zi7 N),(84,Zke N m),(41,Zbw N)]⟩
def Zu9(ak:Int)(am:Int)(aq:Bool)(n9:Int)(aN:List Int×Int×Int)(ao:List Ka):St:=⟨[(0,vP 0 0),(1,vI ak),(2,vI am),(3,vB aq),(9,vO 1),(10,vI n9)],[(0,.box [.val Jl aN.1,.val Ja aN.2.1,.val Ja aN.2.2]),(1,.arr Jw ao)],2⟩
def Zti(ak:Int)(am:Int)(aq:Bool)(wo:Int)(wq:Bool)(tA:List Int×Int×Int)(ws:List Ka):St:=⟨[(0,vP 0 0),(1,vI ak),(2,vI am),(3,vB aq),(9,vO 1),(10,vI wo),(27,vB wq)],[(0,.box [.val Jl tA.1,.val Ja tA.2.1,.val Ja tA.2.2]),(1,.arr Jw ws)],2⟩
theorem Zva(N m:Nat){R:Type}(K:Ex->St->Option R){ak:Int}{am:Int}{aq:Bool}{K0:Int->Bool->Kf->Ky->Option R}(h0:K0= λwo wq tA ws=>K (.exit 0) (Zti ak am aq wo wq tA ws))(n:Nat)(n9:Int)(aN:List Int×Int×Int)(ao:List Ka):Zc N (Zd7 N m) ak am aq K0 n n9 aN ao=LM (Zlf m) N 0 100003 n (Zu9 ak am aq n9 aN ao) K:=by
  subst h0
  induction n generalizing n9 aN ao with
  |zero=>kernel_rfl
  |succ n ih=>rw[Zc];simp only[ih];kernel_rfl
theorem Zzp(N m:Nat)(c1:List Int×Int×Int)(bU:Int)(fE:Int)(jB:Bool):DN (Zlf m) N (c1,bU,fE,jB,())=Zd7 N (m+1) c1 bU fE jB:=by
  conv=>rhs;rw[Zd7];simp(disch:=exact id (by kernel_rfl)) only[Zva (R:=Ks×(Ky×Unit)) N m (CF (Zlf m) N [1,1,0,1,0])]
  kernel_rfl
theorem Zpe(N:Nat):∀m,GW 84 (Zke N m)
  |0=>⟨WdX Tryz.func84 (show Wp7 Tryz.f84=true by kernel_rfl),λd o h=>nomatch (show none=some o from h)⟩
  |m+1=>GF (Zlf m) N Tryz.func84 (GC (Zaa N) (GC (Zor N) (GC (Zpe N m) (GC (Zc8 N) Wi)))) (λd=>Zzp N m d.1 d.2.1 d.2.2.1 d.2.2.2.1)
theorem Zzq(N:Nat):GW 84 (Zp9 N):=Zpe N N
def Zkf(N:Nat):Sig:=Sig.of [.box Jae,.v Jp false] [.v (.prod (.own Jw) (.own Jc)) true] (λd=>Zdj N d.1 d.2.1)
def Zkg:Fn:=⟨Tryz.f40,λ |7=>[.canon [0,4,7,8,38]]|8=>[.canon [0,4,7,8]]|9=>[.canon [0,4,7,8]]|100007=>[.adoptC 7 1 Jc,.canon [0,4,7,8]]|_=>[],Zkf,λN=>[(61,Z4 N),(84,Zp9 N)]⟩
def Ztj(jf:Int)(bA:List Int×Int×Int)(bn:List Ka)(aW:List Ky):St:=⟨[(0,vP 0 0),(4,vP 1 0),(7,vP 2 0),(8,vI jf)],[(0,.box [.val Jl bA.1,.val Ja bA.2.1,.val Ja bA.2.2]),(1,.box [.nils,.nils]),(2,.box [.own 3,.own 4]),(3,.arr Jw bn),(4,.arr Jc aW)],5⟩
def Zrp(bn:List Ka)(wu:Int)(eE:Bool)(da:List Int×Int×Int)(c9:List Ky):St:=⟨[(0,vP 0 0),(4,vP 1 0),(7,vP 2 0),(8,vI wu),(38,vB eE)],[(0,.box [.val Jl da.1,.val Ja da.2.1,.val Ja da.2.2]),(1,.box [.nils,.nils]),(2,.box [.own 3,.own 4]),(3,.arr Jw bn),(4,.arr Jc c9)],5⟩
theorem Ztk(N:Nat){R:Type}(K:Ex->St->Option R){bn:List Ka}{K0:Int->Bool->Kf->Kx->Option R}(h0:K0= λwu eE da c9=>K (.exit 0) (Zrp bn wu eE da c9))(n:Nat)(jf:Int)(bA:List Int×Int×Int)(aW:List Ky):Ze1 N bn K0 n jf bA aW=LM Zkg N 0 100007 n (Ztj jf bA bn aW) K:=by
  subst h0
  induction n generalizing jf bA aW with
  |zero=>kernel_rfl
  |succ n ih=>rw[Ze1];simp only[ih];kernel_rfl
theorem Zyn(N:Nat)(c1:List Int×Int×Int)(fV:Bool):DN Zkg N (c1,fV,())=Zdj N c1 fV:=by
  conv=>rhs;rw[Zdj];simp(disch:=exact id (by kernel_rfl)) only[Ztk (R:=Ks×(Km×Unit)) N (CF Zkg N [1,1,1,1,1,0,1,0])]
  kernel_rfl
theorem Zpf(N:Nat):GW 40 (Zkf N):=GF Zkg N Tryz.func40 (GC (Zaa N) (GC (Zzq N) Wi)) (λd=>Zyn N d.1 d.2.1)
def Zmd(N:Nat):Sig:=Sig.of [.box Jae,.v Ja false,.v Ja false] [.v (.own Jk) false] (λd=>Zfm N d.1 d.2.1 d.2.2.1)
def Zi8:Fn:=⟨Tryz.f109,λ |4=>[.canon [0,1,2,7,8,9,14]]|5=>[.canon [0,1,2,7,8,9]]|6=>[.canon [0,1,2,7,8,9,18]]|7=>[.canon [0,1,2,7,8,9]]|8=>[.canon [0,1,2,7,8,9,10]]|9=>[.canon [0,1,2,7,8,9,10,25]]|10=>[.canon [0,1,2,7,8,9,10]]|11=>[.canon [0,1,2,7,8,9,10]]|12=>[.canon [0,1,2,7,8,9,10,31]]|13=>[.canon [0,1,2,7,8,9,10]]|14=>[.canon [0,1,2,7,8,9,10,35]]|15=>[.canon [0,1,2,7,8,9,10]]|16=>[.canon [0,1,2,7,8,9]]|100004=>[.canon [0,1,2,7,8,9]]|_=>[],Zmd,λN=>[(41,Zbw N),(61,Z4 N)]⟩
def Zrq(n4:Int)(aC:Int)(bP:Int)(i7:Int)(b8:List Int×Int×Int)(l9:List Kb):St:=⟨[(0,vP 0 0),(1,vI n4),(2,vI aC),(7,vO 1),(8,vI bP),(9,vI i7)],[(0,.box [.val Jl b8.1,.val Ja b8.2.1,.val Ja b8.2.2]),(1,.arr Jk l9)],2⟩
def Zqa(n4:Int)(aC:Int)(kY:Int)(ww:Int)(sM:Bool)(fG:List Int×Int×Int)(fR:List Kb):St:=⟨[(0,vP 0 0),(1,vI n4),(2,vI aC),(7,vO 1),(8,vI kY),(9,vI ww),(14,vB sM)],[(0,.box [.val Jl fG.1,.val Ja fG.2.1,.val Ja fG.2.2]),(1,.arr Jk fR)],2⟩
theorem Zrr(N:Nat){R:Type}(K:Ex->St->Option R){n4:Int}{aC:Int}{K0:Int->Int->Bool->Kf->Kr->Option R}(h0:K0= λkY ww sM fG fR=>K (.exit 0) (Zqa n4 aC kY ww sM fG fR))(n:Nat)(bP:Int)(i7:Int)(b8:List Int×Int×Int)(l9:List Kb):Zv N n4 aC K0 n bP i7 b8 l9=LM Zi8 N 0 100004 n (Zrq n4 aC bP i7 b8 l9) K:=by
  subst h0
  induction n generalizing bP i7 b8 l9 with
  |zero=>kernel_rfl
  |succ n ih=>rw[Zv];simp only[ih];kernel_rfl
theorem Zxd(N:Nat)(c1:List Int×Int×Int)(n2:Int)(cX:Int):DN Zi8 N (c1,n2,cX,())=Zfm N c1 n2 cX:=by
  conv=>rhs;rw[Zfm];simp(disch:=exact id (by kernel_rfl)) only[Zrr (R:=Ks×Kac) N (CF Zi8 N [1,1,1,0,1,0])]
  kernel_rfl
theorem Zxe(N:Nat):GW 109 (Zmd N):=GF Zi8 N Tryz.func109 (GC (Zc8 N) (GC (Zaa N) Wi)) (λd=>Zxd N d.1 d.2.1 d.2.2.1)
def Zk0(N:Nat):Sig:=Sig.of [.box Jae,.v Ja false,.v Ja false] [.v (.prod (.prod Jab Jq) (.prod (.own Jm) (.own Jk))) true] (λd=>Zfn N d.1 d.2.1 d.2.2.1)
def Zh5:Fn:=⟨Tryz.f60,λ |4=>[.canon [0,1,2,6,7,8,9,18]]|5=>[.canon [0,1,2,6,7,8,9]]|6=>[.canon [0,1,2,6,7,8,9]]|100004=>[.adoptC 7 3 Jm,.canon [0,1,2,6,7,8,9]]|_=>[],Zk0,λN=>[(44,Zii N),(61,Z4 N),(40,Zkf N),(41,Zbw N),(109,Zmd N)]⟩
def Zpl(dF:Int)(bu:Int)(n8:Int)(i9:Int)(aN:List Int×Int×Int)(cn:Int)(aW:List Int)(aU:List Int)(bm:List Km):St:=⟨[(0,vP 0 0),(1,vI dF),(2,vI bu),(6,vP 1 0),(7,vP 2 0),(8,vI n8),(9,vI i9)],[(0,.box [.val Jl aN.1,.val Ja aN.2.1,.val Ja aN.2.2]),(1,.box [.nils,.nils,.val Ja (0:Int),.nils,.nils]),(2,.box [.own 3,.own 4,.val Ja cn,.own 5,.nils]),(3,.arr Ja aW),(4,.arr Ja aU),(5,.arr Jm bm)],6⟩
def Zo1(dF:Int)(bu:Int)(n8:Int)(cn:Int)(aW:List Int)(aU:List Int)(wy:Int)(t25:Bool)(fF:List Int×Int×Int)(dx:List Km):St:=⟨[(0,vP 0 0),(1,vI dF),(2,vI bu),(6,vP 1 0),(7,vP 2 0),(8,vI n8),(9,vI wy),(18,vB t25)],[(0,.box [.val Jl fF.1,.val Ja fF.2.1,.val Ja fF.2.2]),(1,.box [.nils,.nils,.val Ja (0:Int),.nils,.nils]),(2,.box [.own 3,.own 4,.val Ja cn,.own 5,.nils]),(3,.arr Ja aW),(4,.arr Ja aU),(5,.arr Jm dx)],6⟩
theorem Zpm(N:Nat){R:Type}(K:Ex->St->Option R){dF:Int}{bu:Int}{n8:Int}{cn:Int}{aW:List Int}{aU:List Int}{K0:Int->Bool->Kf->(List Km)->Option R}(h0:K0= λwy t25 fF dx=>K (.exit 0) (Zo1 dF bu n8 cn aW aU wy t25 fF dx))(n:Nat)(i9:Int)(aN:List Int×Int×Int)(bm:List Km):Zbf N dF bu n8 cn aW aU K0 n i9 aN bm=LM Zh5 N 0 100004 n (Zpl dF bu n8 i9 aN cn aW aU bm) K:=by
  subst h0
  induction n generalizing i9 aN bm with
  |zero=>kernel_rfl
  |succ n ih=>rw[Zbf];simp only[ih];kernel_rfl
theorem Zvb(N:Nat)(c1:List Int×Int×Int)(mJ:Int)(cX:Int):DN Zh5 N (c1,mJ,cX,())=Zfn N c1 mJ cX:=by
  conv=>rhs;rw[Zfn];simp(disch:=exact id (by kernel_rfl)) only[Zpm (R:=Ks×(Kz×Unit)) N (CF Zh5 N [1,1,1,0,1,0])]
  kernel_rfl
theorem Zvc(N:Nat):GW 60 (Zk0 N):=GF Zh5 N Tryz.func60 (GC (Zod N) (GC (Zaa N) (GC (Zpf N) (GC (Zc8 N) (GC (Zxe N) Wi))))) (λd=>Zvb N d.1 d.2.1 d.2.2.1)
def Zi9(N:Nat):Sig:=Sig.of [.box Jae] [.v (.prod Jab Jq) true] (λd=>Zhy N d.1)
def Zrs:Fn:=⟨Tryz.f45,WM,Zi9,λN=>[(44,Zii N),(61,Z4 N)]⟩
theorem Zrt(N:Nat):GW 45 (Zi9 N):=GF Zrs N Tryz.func45 (GC (Zod N) (GC (Zaa N) Wi))
def Znm(N:Nat):Sig:=Sig.of [.box Jae] [.v Jw true] (λd=>Zmv N d.1)
def Zzr:Fn:=⟨Tryz.f145,WM,Znm,λN=>[(61,Z4 N),(144,Zi7 N),(146,Zf4 N)]⟩
theorem Zzs(N:Nat):GW 145 (Znm N):=GF Zzr N Tryz.func145 (GC (Zaa N) (GC (Zor N) (GC (Zkx N) Wi)))
def Zm0(N:Nat):Sig:=Sig.of [.box Jae,.v Jc false] [.v (.own Jw) false] (λd=>Zgi N d.1 d.2.1)
def Zkh:Fn:=⟨Tryz.f85,λ |12=>[.view 49,.view 45]|14=>[.canon [0,5,58]]|15=>[.canon [0,5]]|100014=>[.canon [0,5]]|_=>[],Zm0,λN=>[(61,Z4 N),(145,Znm N)]⟩
def Ztl(b6:List Int×Int×Int)(l7:List Ka):St:=⟨[(0,vP 0 0),(5,vO 1)],[(0,.box [.val Jl b6.1,.val Ja b6.2.1,.val Ja b6.2.2]),(1,.arr Jw l7)],2⟩
def Zru(t9:Bool)(aN:List Int×Int×Int)(ao:List Ka):St:=⟨[(0,vP 0 0),(5,vO 1),(58,vB t9)],[(0,.box [.val Jl aN.1,.val Ja aN.2.1,.val Ja aN.2.2]),(1,.arr Jw ao)],2⟩
theorem Ztm(N:Nat){R:Type}(K:Ex->St->Option R){K0:Bool->Kf->Ky->Option R}(h0:K0= λt9 aN ao=>K (.exit 1) (Zru t9 aN ao))(n:Nat)(b6:List Int×Int×Int)(l7:List Ka):Ze2 N K0 n b6 l7=LM Zkh N 0 100014 n (Ztl b6 l7) K:=by
  subst h0
  induction n generalizing b6 l7 with
  |zero=>kernel_rfl
  |succ n ih=>rw[Ze2];simp only[ih];kernel_rfl
theorem Zyo(N:Nat)(c1:List Int×Int×Int)(aa:List Ka):DN Zkh N (c1,aa,())=Zgi N c1 aa:=by
  conv=>rhs;rw[Zgi];simp(disch:=exact id (by kernel_rfl)) only[Ztm (R:=Ks×(Ky×Unit)) N (CF Zkh N [1,1,1,1,0,1,0,1,1,1,1,1,1,1,0,0])]
  kernel_rfl
theorem Zyp(N:Nat):GW 85 (Zm0 N):=GF Zkh N Tryz.func85 (GC (Zaa N) (GC (Zzs N) Wi)) (λd=>Zyo N d.1 d.2.1)
def Zk1(N:Nat):Sig:=Sig.of [.box Jae] [.v (.prod (.own Jw) (.own Jc)) true] (λd=>Zi5 N d.1)
def Zvd:Fn:=⟨Tryz.f42,WM,Zk1,λN=>[(41,Zbw N),(40,Zkf N),(61,Z4 N),(85,Zm0 N)]⟩
theorem Zve(N:Nat):GW 42 (Zk1 N):=GF Zvd N Tryz.func42 (GC (Zc8 N) (GC (Zpf N) (GC (Zaa N) (GC (Zyp N) Wi))))
def Zm1(N:Nat):Sig:=Sig.of [.box Jae,.v Ja false] [.v (.prod (.prod Jab Jq) (.prod (.own Jm) (.own Jk))) true] (λd=>Zhq N d.1 d.2.1)
def Zgc:Fn:=⟨Tryz.f25,λ |8=>[.canon [0,4,5,28]]|9=>[.canon [0,4,5]]|13=>[.canon [0,4,5,55]]|14=>[.canon [0,4,5]]|100008=>[.canon [0,4,5]]|100013=>[.canon [0,4,5]]|_=>[],Zm1,λN=>[(60,Zk0 N),(61,Z4 N),(45,Zi9 N),(42,Zk1 N)]⟩
def Ztn(b7:List Int×Int×Int)(b9:Int)(eI:List Int)(ao:List Int)(bn:List Km)(aW:List Kb):St:=⟨[(0,vP 0 0),(4,vP 1 0),(5,vP 2 0)],[(0,.box [.val Jl b7.1,.val Ja b7.2.1,.val Ja b7.2.2]),(1,.box [.nils,.nils,.val Ja (0:Int),.nils,.nils]),(2,.box [.own 3,.own 4,.val Ja b9,.own 5,.own 6]),(3,.arr Ja eI),(4,.arr Ja ao),(5,.arr Jm bn),(6,.arr Jk aW)],7⟩
def Zrv(b7:List Int×Int×Int)(b9:Int)(eI:List Int)(ao:List Int)(aW:List Kb)(gK:Bool)(bm:List Km):St:=⟨[(0,vP 0 0),(4,vP 1 0),(5,vP 2 0),(28,vB gK)],[(0,.box [.val Jl b7.1,.val Ja b7.2.1,.val Ja b7.2.2]),(1,.box [.nils,.nils,.val Ja (0:Int),.nils,.nils]),(2,.box [.own 3,.own 4,.val Ja b9,.own 5,.own 6]),(3,.arr Ja eI),(4,.arr Ja ao),(5,.arr Jm bm),(6,.arr Jk aW)],7⟩
theorem Zto(N:Nat){R:Type}(K:Ex->St->Option R){b7:List Int×Int×Int}{b9:Int}{eI:List Int}{ao:List Int}{aW:List Kb}{K0:Bool->(List Km)->Option R}(h0:K0= λgK bm=>K (.exit 1) (Zrv b7 b9 eI ao aW gK bm))(n:Nat)(bn:List Km):Ze3 N b7 b9 eI ao aW K0 n bn=LM Zgc N 0 100008 n (Ztn b7 b9 eI ao bn aW) K:=by
  subst h0
  induction n generalizing bn with
  |zero=>kernel_rfl
  |succ n ih=>rw[Ze3];simp only[ih];kernel_rfl
def Ztp(da:List Int×Int×Int)(dz:Int)(cG:List Int)(bY:List Int)(cK:List Km)(db:List Kb):St:=⟨[(0,vP 0 0),(4,vP 1 0),(5,vP 2 0)],[(0,.box [.val Jl da.1,.val Ja da.2.1,.val Ja da.2.2]),(1,.box [.nils,.nils,.val Ja (0:Int),.nils,.nils]),(2,.box [.own 3,.own 4,.val Ja dz,.own 5,.own 6]),(3,.arr Ja cG),(4,.arr Ja bY),(5,.arr Jm cK),(6,.arr Jk db)],7⟩
def Zrw(dz:Int)(cG:List Int)(bY:List Int)(cK:List Km)(tq:Bool)(fH:List Int×Int×Int)(tt:List Kb):St:=⟨[(0,vP 0 0),(4,vP 1 0),(5,vP 2 0),(55,vB tq)],[(0,.box [.val Jl fH.1,.val Ja fH.2.1,.val Ja fH.2.2]),(1,.box [.nils,.nils,.val Ja (0:Int),.nils,.nils]),(2,.box [.own 3,.own 4,.val Ja dz,.own 5,.own 6]),(3,.arr Ja cG),(4,.arr Ja bY),(5,.arr Jm cK),(6,.arr Jk tt)],7⟩
theorem Ztq(N:Nat){R:Type}(K:Ex->St->Option R){dz:Int}{cG:List Int}{bY:List Int}{cK:List Km}{K0:Bool->Kf->Kr->Option R}(h0:K0= λtq fH tt=>K (.exit 3) (Zrw dz cG bY cK tq fH tt))(n:Nat)(da:List Int×Int×Int)(db:List Kb):Ze4 N dz cG bY cK K0 n da db=LM Zgc N 1 100013 n (Ztp da dz cG bY cK db) K:=by
  subst h0
  induction n generalizing da db with
  |zero=>kernel_rfl
  |succ n ih=>rw[Ze4];simp only[ih];kernel_rfl
theorem Zyq(N:Nat)(c1:List Int×Int×Int)(bU:Int):DN Zgc N (c1,bU,())=Zhq N c1 bU:=by
  conv=>rhs;rw[Zhq];simp(disch:=exact id (by kernel_rfl)) only[Zto (R:=Ks×(Kz×Unit)) N (CF Zgc N [1,1,0,1,0,1,1,1,1,1,0,0]),Ztq (R:=Ks×(Kz×Unit)) N (CF Zgc N [1,1,0,1,0,1,1,1,1,1,1,1,1,1,0,0])]
  kernel_rfl
theorem Zyr(N:Nat):GW 25 (Zm1 N):=GF Zgc N Tryz.func25 (GC (Zvc N) (GC (Zaa N) (GC (Zrt N) (GC (Zve N) Wi)))) (λd=>Zyq N d.1 d.2.1)
def Zlq(N:Nat):Sig:=Sig.of [.v Jl false] [.v Jaf true] (λd=>Zkb N d.1)
def Zwh:Fn:=⟨Tryz.f21,WM,Zlq,λN=>[(24,Znl N),(26,Zmx N),(25,Zm1 N)]⟩
theorem Zwi(N:Nat):GW 21 (Zlq N):=GF Zwh N Tryz.func21 (GC (Zzo N) (GC (Zyi N) (GC (Zyr N) Wi)))
def Zgk(N:Nat):Sig:=Sig.of [.v Ja false,.v Ja false,.v Ja false] [.v Jp false] (λd=>Zb4 N d.1 d.2.1 d.2.2.1)
def Z0a:Fn:=⟨Tryz.f51,WM,Zgk,Wbq⟩
theorem Zjx(N:Nat):GW 51 (Zgk N):=GF Z0a N Tryz.func51 Wi
def Ziw(N:Nat):Sig:=Sig.of [.v Ja false] [.v Jp false] (λd=>Zg0 N d.1)
def Zzt:Fn:=⟨Tryz.f50,WM,Ziw,λN=>[(51,Zgk N)]⟩
theorem Znn(N:Nat):GW 50 (Ziw N):=GF Zzt N Tryz.func50 (GC (Zjx N) Wi)
def Zm2(N:Nat):Sig:=Sig.of [.v Jj false] [.v Jp false] (λd=>Zhn N d.1)
def Zki:Fn:=⟨Tryz.f49,λ |4=>[.canon [0,3,10]]|5=>[.canon [0,3]]|6=>[.canon [0,3,18]]|7=>[.canon [2]]|100004=>[.canon [0,3]]|_=>[],Zm2,λN=>[(50,Ziw N)]⟩
def Ztr(l2:List Int)(i3:Int):St:=⟨[(0,vV Jj l2),(3,vI i3)],[],0⟩
def Zrx(l2:List Int):St:=⟨[(2,vB false)],[],0⟩
def Zry(l2:List Int)(i5:Int)(t6:Bool):St:=⟨[(0,vV Jj l2),(3,vI i5),(10,vB t6)],[],0⟩
theorem Zts(N:Nat){R:Type}(K:Ex->St->Option R){l2:List Int}{K0:Option R}{K1:Int->Bool->Option R}(h0:K0=K .ret (Zrx l2))(h1:K1= λi5 t6=>K (.exit 0) (Zry l2 i5 t6))(n:Nat)(i3:Int):Zcy N l2 K0 K1 n i3=LM Zki N 0 100004 n (Ztr l2 i3) K:=by
  subst h0 h1
  induction n generalizing i3 with
  |zero=>kernel_rfl
  |succ n ih=>rw[Zcy];simp only[ih];kernel_rfl
theorem Zys(N:Nat)(l1:List Int):DN Zki N (l1,())=Zhn N l1:=by
  conv=>rhs;rw[Zhn];simp(disch:=exact id (by kernel_rfl)) only[Zts (R:=Unit×Ko) N (CF Zki N [1,1,0,1,0])]
  kernel_rfl
theorem Zyt(N:Nat):GW 49 (Zm2 N):=GF Zki N Tryz.func49 (GC (Znn N) Wi) (λd=>Zys N d.1)
def Zlr(N:Nat):Sig:=Sig.of [.v Jr true] [.v Jp false] (λd=>Zf9 N d.1)
def Zik:Fn:=⟨Tryz.f17,λ |4=>[.canon [1,3,24]]|5=>[.canon [1,3]]|6=>[.canon [1,3,33]]|7=>[.canon [2]]|100004=>[.canon [1,3]]|_=>[],Zlr,λN=>[(49,Zm2 N),(50,Ziw N),(51,Zgk N)]⟩
def Zqb(i4:Int)(b5:List Int×List Int×Int):St:=⟨[(1,vP 0 0),(3,vI i4)],[(0,.box [.val Jj b5.1,.val Jj b5.2.1,.val Ja b5.2.2])],1⟩
def Zpn(b5:List Int×List Int×Int):St:=⟨[(2,vB false)],[],0⟩
def Zpo(b5:List Int×List Int×Int)(i7:Int)(t8:Bool):St:=⟨[(1,vP 0 0),(3,vI i7),(24,vB t8)],[(0,.box [.val Jj b5.1,.val Jj b5.2.1,.val Ja b5.2.2])],1⟩
theorem Zqc(N:Nat){R:Type}(K:Ex->St->Option R){b5:List Int×List Int×Int}{K0:Option R}{K1:Int->Bool->Option R}(h0:K0=K .ret (Zpn b5))(h1:K1= λi7 t8=>K (.exit 0) (Zpo b5 i7 t8))(n:Nat)(i4:Int):Zbl N b5 K0 K1 n i4=LM Zik N 0 100004 n (Zqb i4 b5) K:=by
  subst h0 h1
  induction n generalizing i4 with
  |zero=>kernel_rfl
  |succ n ih=>rw[Zbl];simp only[ih];kernel_rfl
theorem Zwj(N:Nat)(s1:List Int×List Int×Int):DN Zik N (s1,())=Zf9 N s1:=by
  conv=>rhs;rw[Zf9];simp(disch:=exact id (by kernel_rfl)) only[Zqc (R:=Unit×Ko) N (CF Zik N [1,1,0,1,0])]
  kernel_rfl
theorem Zwk(N:Nat):GW 17 (Zlr N):=GF Zik N Tryz.func17 (GC (Zyt N) (GC (Znn N) (GC (Zjx N) Wi))) (λd=>Zwj N d.1)
def Zno(N:Nat):Sig:=Sig.of [.v Ja false] [.v Jp false] (λd=>Zbs N d.1)
def Zzu:Fn:=⟨Tryz.f147,WM,Zno,λN=>[(51,Zgk N)]⟩
theorem Zzv(N:Nat):GW 147 (Zno N):=GF Zzu N Tryz.func147 (GC (Zjx N) Wi)
def Zm3(N:Nat):Sig:=Sig.of [.v Ja false] [.v Jp false] (λd=>Zho N d.1)
def Zyu:Fn:=⟨Tryz.f148,WM,Zm3,λN=>[(51,Zgk N)]⟩
theorem Zyv(N:Nat):GW 148 (Zm3 N):=GF Zyu N Tryz.func148 (GC (Zjx N) Wi)
def Zl4(N:Nat):Sig:=Sig.of [.v Jw true] [.v Jp false] (λd=>Zj0 N d.1)
def Z0b:Fn:=⟨Tryz.f88,WM,Zl4,λN=>[(147,Zno N),(50,Ziw N),(148,Zm3 N),(51,Zgk N)]⟩
theorem Ztb(N:Nat):GW 88 (Zl4 N):=GF Z0b N Tryz.func88 (GC (Zzv N) (GC (Znn N) (GC (Zyv N) (GC (Zjx N) Wi))))
def Zm4(N:Nat):Sig:=Sig.of [.v Jc false,.v Ja false] [.v Jp false] (λd=>Zhp N d.1 d.2.1)
def Zkj:Fn:=⟨Tryz.f89,λ |6=>[.canon [0,5,6,7,24]]|7=>[.canon [0,5,6,7]]|8=>[.canon [0,5,6,7,32]]|9=>[.canon [0,5,6,7]]|10=>[.canon [0,5,6,7,40]]|11=>[.canon [0,5,6,7]]|12=>[.canon [0,5,6,7,44]]|13=>[.canon [4]]|100006=>[.canon [0,5,6,7]]|_=>[],Zm4,Wbq⟩
def Ztt(ae:List Ka)(gT:Int)(d5:Int)(k6:Int):St:=⟨[(0,vV Jc ae),(5,vI gT),(6,vI d5),(7,vI k6)],[],0⟩
def Zrz(ae:List Ka)(gT:Int):St:=⟨[(4,vB false)],[],0⟩
def Zr0(ae:List Ka)(gT:Int)(d7:Int)(k8:Int)(t9:Bool):St:=⟨[(0,vV Jc ae),(5,vI gT),(6,vI d7),(7,vI k8),(24,vB t9)],[],0⟩
theorem Ztu(N:Nat){R:Type}(K:Ex->St->Option R){ae:List Ka}{gT:Int}{K0:Option R}{K1:Int->Int->Bool->Option R}(h0:K0=K .ret (Zrz ae gT))(h1:K1= λd7 k8 t9=>K (.exit 0) (Zr0 ae gT d7 k8 t9))(n:Nat)(d5:Int)(k6:Int):Za1 N ae gT K0 K1 n d5 k6=LM Zkj N 0 100006 n (Ztt ae gT d5 k6) K:=by
  subst h0 h1
  induction n generalizing d5 k6 with
  |zero=>kernel_rfl
  |succ n ih=>rw[Za1];simp only[ih];kernel_rfl
theorem Zyw(N:Nat)(ac:List Ka)(i2:Int):DN Zkj N (ac,i2,())=Zhp N ac i2:=by
  conv=>rhs;rw[Zhp];simp(disch:=exact id (by kernel_rfl)) only[Ztu (R:=Unit×Ko) N (CF Zkj N [1,1,1,1,0,1,0])]
  kernel_rfl
theorem Zyx(N:Nat):GW 89 (Zm4 N):=GF Zkj N Tryz.func89 Wi (λd=>Zyw N d.1 d.2.1)
def Zkk(N:Nat):Sig:=Sig.of [.v Jc false] [.v Jp false] (λd=>Zgg N d.1)
def Zkl:Fn:=⟨Tryz.f46,λ |6=>[.canon [0,3,4,5,12]]|7=>[.canon [0,3,4,5]]|8=>[.canon [0,3,4,5,20]]|9=>[.canon [2]]|10=>[.canon [0,3,4,5,25]]|11=>[.canon [0,3,4,5,25,26]]|12=>[.canon [0,3,4,5]]|13=>[.canon [0,3,4,5,25,30]]|14=>[.canon [0,3,4,5]]|15=>[.canon [0,3,4,5,25,34]]|16=>[.canon [0,3,4,5,39]]|17=>[.canon [2]]|18=>[.canon [0,3,4,5,40]]|19=>[.canon [0,3,4,5]]|20=>[.canon [0,3,4,5,49]]|21=>[.canon [2]]|22=>[.canon [0,3,4,5,51]]|23=>[.canon [2]]|100006=>[.canon [0,3,4,5]]|_=>[],Zkk,λN=>[(88,Zl4 N),(89,Zm4 N)]⟩
def Ztv(aa:List Ka)(d3:Int)(ax:Int)(i5:Int):St:=⟨[(0,vV Jc aa),(3,vI d3),(4,vI ax),(5,vI i5)],[],0⟩
def Zr1(aa:List Ka):St:=⟨[(2,vB false)],[],0⟩
def Zr2(aa:List Ka)(d8:Int)(iH:Int)(lJ:Int)(aI:Bool):St:=⟨[(0,vV Jc aa),(3,vI d8),(4,vI iH),(5,vI lJ),(12,vB aI)],[],0⟩
theorem Ztw(N:Nat){R:Type}(K:Ex->St->Option R){aa:List Ka}{K0:Option R}{K1:Int->Int->Int->Bool->Option R}(h0:K0=K .ret (Zr1 aa))(h1:K1= λd8 iH lJ aI=>K (.exit 0) (Zr2 aa d8 iH lJ aI))(n:Nat)(d3:Int)(ax:Int)(i5:Int):Za2 N aa K0 K1 n d3 ax i5=LM Zkl N 0 100006 n (Ztv aa d3 ax i5) K:=by
  subst h0 h1
  induction n generalizing d3 ax i5 with
  |zero=>kernel_rfl
  |succ n ih=>rw[Za2];simp only[ih];kernel_rfl
theorem Zyy(N:Nat)(ac:List Ka):DN Zkl N (ac,())=Zgg N ac:=by
  conv=>rhs;rw[Zgg];simp(disch:=exact id (by kernel_rfl)) only[Ztw (R:=Unit×Ko) N (CF Zkl N [1,1,1,1,0,1,0])]
  kernel_rfl
theorem Zpg(N:Nat):GW 46 (Zkk N):=GF Zkl N Tryz.func46 (GC (Ztb N) (GC (Zyx N) Wi)) (λd=>Zyy N d.1)
def Zja(N:Nat):Sig:=Sig.of [.v Jc false] [.v Jp false] (λd=>Zfk N d.1)
def Zjb:Fn:=⟨Tryz.f47,λ |2=>[.canon [0,3,7]]|3=>[.canon [0,3]]|4=>[.canon [0,3,15]]|5=>[.canon [2]]|100002=>[.canon [0,3]]|_=>[],Zja,Wbq⟩
def Zr3(aa:List Ka)(i3:Int):St:=⟨[(0,vV Jc aa),(3,vI i3)],[],0⟩
def Zqd(aa:List Ka):St:=⟨[(2,vB true)],[],0⟩
def Zqe(aa:List Ka)(i4:Int)(t5:Bool):St:=⟨[(0,vV Jc aa),(3,vI i4),(7,vB t5)],[],0⟩
theorem Zr4(N:Nat){R:Type}(K:Ex->St->Option R){aa:List Ka}{K0:Option R}{K1:Int->Bool->Option R}(h0:K0=K .ret (Zqd aa))(h1:K1= λi4 t5=>K (.exit 0) (Zqe aa i4 t5))(n:Nat)(i3:Int):Zch N aa K0 K1 n i3=LM Zjb N 0 100002 n (Zr3 aa i3) K:=by
  subst h0 h1
  induction n generalizing i3 with
  |zero=>kernel_rfl
  |succ n ih=>rw[Zch];simp only[ih];kernel_rfl
theorem Zxf(N:Nat)(ac:List Ka):DN Zjb N (ac,())=Zfk N ac:=by
  conv=>rhs;rw[Zfk];simp(disch:=exact id (by kernel_rfl)) only[Zr4 (R:=Unit×Ko) N (CF Zjb N [1,0,1,0])]
  kernel_rfl
theorem Zos(N:Nat):GW 47 (Zja N):=GF Zjb N Tryz.func47 Wi (λd=>Zxf N d.1)
def Zme(N:Nat):Sig:=Sig.of [.v Jw true] [.v Ja false] (λd=>Zbt N d.1)
def Zxg:Fn:=⟨Tryz.f90,WM,Zme,λN=>[(88,Zl4 N)]⟩
theorem Zxh(N:Nat):GW 90 (Zme N):=GF Zxg N Tryz.func90 (GC (Ztb N) Wi)
def Znp(N:Nat):Sig:=Sig.of [.v Jc false] [.v Jp false] (λd=>Zg1 N d.1)
def Zlg:Fn:=⟨Tryz.f48,λ |4=>[.canon [0,3,14]]|5=>[.canon [0,3]]|6=>[.canon [0,3,22]]|7=>[.canon [2]]|100004=>[.canon [0,3]]|_=>[],Znp,λN=>[(46,Zkk N),(47,Zja N),(90,Zme N)]⟩
def Zvf(aA:List Ka)(i5:Int):St:=⟨[(0,vV Jc aA),(3,vI i5)],[],0⟩
def Ztx(aA:List Ka):St:=⟨[(2,vB false)],[],0⟩
def Zty(aA:List Ka)(i7:Int)(t8:Bool):St:=⟨[(0,vV Jc aA),(3,vI i7),(14,vB t8)],[],0⟩
theorem Zvg(N:Nat){R:Type}(K:Ex->St->Option R){aA:List Ka}{K0:Option R}{K1:Int->Bool->Option R}(h0:K0=K .ret (Ztx aA))(h1:K1= λi7 t8=>K (.exit 0) (Zty aA i7 t8))(n:Nat)(i5:Int):Zdt N aA K0 K1 n i5=LM Zlg N 0 100004 n (Zvf aA i5) K:=by
  subst h0 h1
  induction n generalizing i5 with
  |zero=>kernel_rfl
  |succ n ih=>rw[Zdt];simp only[ih];kernel_rfl
theorem Zzw(N:Nat)(ac:List Ka):DN Zlg N (ac,())=Zg1 N ac:=by
  conv=>rhs;rw[Zg1];simp(disch:=exact id (by kernel_rfl)) only[Zvg (R:=Unit×Ko) N (CF Zlg N [1,1,0,1,0])]
  kernel_rfl
theorem Zzx(N:Nat):GW 48 (Znp N):=GF Zlg N Tryz.func48 (GC (Zpg N) (GC (Zos N) (GC (Zxh N) Wi))) (λd=>Zzw N d.1)
def Zm5(N:Nat):Sig:=Sig.of [.v Jm true] [.v Jp false] (λd=>Zgj N d.1)
def Zkm:Fn:=⟨Tryz.f16,λ |4=>[.canon [1,3,28]]|5=>[.canon [1,3]]|6=>[.canon [1,3,38]]|7=>[.canon [2]]|100004=>[.canon [1,3]]|_=>[],Zm5,λN=>[(46,Zkk N),(47,Zja N),(48,Znp N)]⟩
def Ztz(i4:Int)(b5:List Ka×List Ky):St:=⟨[(1,vP 0 0),(3,vI i4)],[(0,.box [.val Jc b5.1,.val (.slice Jc) b5.2])],1⟩
def Zr5(b5:List Ka×List Ky):St:=⟨[(2,vB false)],[],0⟩
def Zr6(b5:List Ka×List Ky)(i7:Int)(t8:Bool):St:=⟨[(1,vP 0 0),(3,vI i7),(28,vB t8)],[(0,.box [.val Jc b5.1,.val (.slice Jc) b5.2])],1⟩
theorem Zt0(N:Nat){R:Type}(K:Ex->St->Option R){b5:List Ka×List Ky}{K0:Option R}{K1:Int->Bool->Option R}(h0:K0=K .ret (Zr5 b5))(h1:K1= λi7 t8=>K (.exit 0) (Zr6 b5 i7 t8))(n:Nat)(i4:Int):Zb6 N b5 K0 K1 n i4=LM Zkm N 0 100004 n (Ztz i4 b5) K:=by
  subst h0 h1
  induction n generalizing i4 with
  |zero=>kernel_rfl
  |succ n ih=>rw[Zb6];simp only[ih];kernel_rfl
theorem Zyz(N:Nat)(p1:List Ka×List Ky):DN Zkm N (p1,())=Zgj N p1:=by
  conv=>rhs;rw[Zgj];simp(disch:=exact id (by kernel_rfl)) only[Zt0 (R:=Unit×Ko) N (CF Zkm N [1,1,0,1,0])]
  kernel_rfl
theorem Zy0(N:Nat):GW 16 (Zm5 N):=GF Zkm N Tryz.func16 (GC (Zpg N) (GC (Zos N) (GC (Zzx N) Wi))) (λd=>Zyz N d.1)
def Zls(N:Nat):Sig:=Sig.of [.v Jaf true] [.v Jp false] (λd=>Zga N d.1)
def Zil:Fn:=⟨Tryz.f8,λ |4=>[.canon [1,3,24]]|5=>[.canon [1,3]]|6=>[.canon [1,3,33]]|7=>[.canon [2]]|100004=>[.canon [1,3]]|_=>[],Zls,λN=>[(17,Zlr N),(16,Zm5 N)]⟩
def Zqf(i3:Int)(b4:Kg×List Km×List Kb):St:=⟨[(1,vP 0 0),(3,vI i3)],[(0,.box [.val Jj b4.1.1,.val Jj b4.1.2.1,.val Ja b4.1.2.2,.val Jz b4.2.1,.val Je b4.2.2])],1⟩
def Zpp(b4:Kg×List Km×List Kb):St:=⟨[(2,vB false)],[],0⟩
def Zpq(b4:Kg×List Km×List Kb)(i6:Int)(t7:Bool):St:=⟨[(1,vP 0 0),(3,vI i6),(24,vB t7)],[(0,.box [.val Jj b4.1.1,.val Jj b4.1.2.1,.val Ja b4.1.2.2,.val Jz b4.2.1,.val Je b4.2.2])],1⟩
theorem Zqg(N:Nat){R:Type}(K:Ex->St->Option R){b4:Kg×List Km×List Kb}{K0:Option R}{K1:Int->Bool->Option R}(h0:K0=K .ret (Zpp b4))(h1:K1= λi6 t7=>K (.exit 0) (Zpq b4 i6 t7))(n:Nat)(i3:Int):Zbm N b4 K0 K1 n i3=LM Zil N 0 100004 n (Zqf i3 b4) K:=by
  subst h0 h1
  induction n generalizing i3 with
  |zero=>kernel_rfl
  |succ n ih=>rw[Zbm];simp only[ih];kernel_rfl
theorem Zwl(N:Nat)(s1:Kg×List Km×List Kb):DN Zil N (s1,())=Zga N s1:=by
  conv=>rhs;rw[Zga];simp(disch:=exact id (by kernel_rfl)) only[Zqg (R:=Unit×Ko) N (CF Zil N [1,1,0,1,0])]
  kernel_rfl
theorem Zwm(N:Nat):GW 8 (Zls N):=GF Zil N Tryz.func8 (GC (Zwk N) (GC (Zy0 N) Wi)) (λd=>Zwl N d.1)
def Zpr(N:Nat):Sig:=Sig.of [.v Jl false,.v Ja false] [.v Ja false] (λd=>Znw N d.1 d.2.1)
def Z0r:Fn:=⟨Tryz.f22,WM,Zpr,Wbq⟩
theorem Z0s(N:Nat):GW 22 (Zpr N):=GF Z0r N Tryz.func22 Wi
def Zlt(N:Nat):Sig:=Sig.of [.v Ja false] [.v (.prod (.own Jw) (.own (.own Jw))) true] (λd=>Zgb N d.1)
def Zwn:Fn:=⟨Tryz.f23,WM,Zlt,Wbq⟩
theorem Zwo(N:Nat):GW 23 (Zlt N):=GF Zwn N Tryz.func23 Wi
def Zz(N:Nat):Sig:=Sig.of [.v Ja false,.v Ja false,.v Ja false] [.v Jp false] (λd=>Zm N d.1 d.2.1 d.2.2.1)
def Zy1:Fn:=⟨Tryz.f68,WM,Zz,Wbq⟩
theorem Z7(N:Nat):GW 68 (Zz N):=GF Zy1 N Tryz.func68 Wi
def Zaz(N:Nat):Sig:=Sig.of [.v Ja false] [.v Jp false] (λd=>Zau N d.1)
def Zxi:Fn:=⟨Tryz.f83,WM,Zaz,λN=>[(68,Zz N)]⟩
theorem Zbk(N:Nat):GW 83 (Zaz N):=GF Zxi N Tryz.func83 (GC (Z7 N) Wi)
def Zcm(N:Nat):Sig:=Sig.of [.v Jj false,.v Ja false] [.v Jp false] (λd=>Zae N d.1 d.2.1)
def Zh6:Fn:=⟨Tryz.f36,λ |2=>[.canon [0,1,7,8,9,10]]|3=>[.canon [0,1,6,7,8,9]]|4=>[.canon [0,1,7,8,9,15]]|5=>[.canon [4]]|6=>[.canon [0,1,7,8,9]]|100002=>[.canon [0,1,7,8,9]]|_=>[],Zcm,λN=>[(83,Zaz N)]⟩
def Zps(l3:List Int)(n4:Int)(t7:Int):St:=⟨[(0,vV Jj l3),(1,vI n4),(7,vV Jj l3),(8,vI (Wj l3)),(9,vI t7)],[],0⟩
def Zo2(l3:List Int)(n4:Int):St:=⟨[(4,vB false)],[],0⟩
def Zo3(l3:List Int)(n4:Int)(aB:Int)(aI:Bool):St:=⟨[(0,vV Jj l3),(1,vI n4),(7,vV Jj l3),(8,vI (Wj l3)),(9,vI aB),(10,vB aI)],[],0⟩
theorem Zpt(N:Nat){R:Type}(K:Ex->St->Option R){l3:List Int}{n4:Int}{K0:Option R}{K1:Int->Bool->Option R}(h0:K0=K .ret (Zo2 l3 n4))(h1:K1= λaB aI=>K (.exit 0) (Zo3 l3 n4 aB aI))(n:Nat)(t7:Int):Zax N l3 n4 K0 K1 n t7=LM Zh6 N 0 100002 n (Zps l3 n4 t7) K:=by
  subst h0 h1
  induction n generalizing t7 with
  |zero=>kernel_rfl
  |succ n ih=>rw[Zax];simp only[ih];kernel_rfl
theorem Zvh(N:Nat)(l1:List Int)(n2:Int):DN Zh6 N (l1,n2,())=Zae N l1 n2:=by
  conv=>rhs;rw[Zae];simp(disch:=exact id (by kernel_rfl)) only[Zpt (R:=Unit×Ko) N (CF Zh6 N [1,0,1,0])]
  kernel_rfl
theorem Zf5(N:Nat):GW 36 (Zcm N):=GF Zh6 N Tryz.func36 (GC (Zbk N) Wi) (λd=>Zvh N d.1 d.2.1)
def Zlh(N:Nat):Sig:=Sig.of [.v Jj false] [.v Jp false] (λd=>Zg4 N d.1)
def Zli:Fn:=⟨Tryz.f95,λ |2=>[.canon [0,5,6,7,8]]|3=>[.canon [0,4,5,6,7]]|4=>[.canon [0,5,6,7,13]]|5=>[.canon [2]]|6=>[.canon [0,5,6,7]]|100002=>[.canon [0,5,6,7]]|_=>[],Zlh,λN=>[(68,Zz N)]⟩
def Zvi(l2:List Int)(t5:Int):St:=⟨[(0,vV Jj l2),(5,vV Jj l2),(6,vI (Wj l2)),(7,vI t5)],[],0⟩
def Zt1(l2:List Int):St:=⟨[(2,vB false)],[],0⟩
def Zt2(l2:List Int)(t8:Int)(t9:Bool):St:=⟨[(0,vV Jj l2),(5,vV Jj l2),(6,vI (Wj l2)),(7,vI t8),(8,vB t9)],[],0⟩
theorem Zvj(N:Nat){R:Type}(K:Ex->St->Option R){l2:List Int}{K0:Option R}{K1:Int->Bool->Option R}(h0:K0=K .ret (Zt1 l2))(h1:K1= λt8 t9=>K (.exit 0) (Zt2 l2 t8 t9))(n:Nat)(t5:Int):Zdy N l2 K0 K1 n t5=LM Zli N 0 100002 n (Zvi l2 t5) K:=by
  subst h0 h1
  induction n generalizing t5 with
  |zero=>kernel_rfl
  |succ n ih=>rw[Zdy];simp only[ih];kernel_rfl
theorem Zzy(N:Nat)(l1:List Int):DN Zli N (l1,())=Zg4 N l1:=by
  conv=>rhs;rw[Zg4];simp(disch:=exact id (by kernel_rfl)) only[Zvj (R:=Unit×Ko) N (CF Zli N [1,0,1,0])]
  kernel_rfl
theorem Zqh(N:Nat):GW 95 (Zlh N):=GF Zli N Tryz.func95 (GC (Z7 N) Wi) (λd=>Zzy N d.1)
def Zlu(N:Nat):Sig:=Sig.of [.v Jr true] [.v Jp false] (λd=>Zkc N d.1)
def Zwp:Fn:=⟨Tryz.f54,WM,Zlu,λN=>[(36,Zcm N),(95,Zlh N),(83,Zaz N)]⟩
theorem Zwq(N:Nat):GW 54 (Zlu N):=GF Zwp N Tryz.func54 (GC (Zf5 N) (GC (Zqh N) (GC (Zbk N) Wi)))
def Znq(N:Nat):Sig:=Sig.of [.v Ja false] [.v Jp false] (λd=>Zbu N d.1)
def Zzz:Fn:=⟨Tryz.f190,WM,Znq,λN=>[(68,Zz N)]⟩
theorem Zz0(N:Nat):GW 190 (Znq N):=GF Zzz N Tryz.func190 (GC (Z7 N) Wi)
def Zbx(N:Nat):Sig:=Sig.of [.v Ja false] [.v Jp false] (λd=>Zbd N d.1)
def Zy2:Fn:=⟨Tryz.f129,WM,Zbx,λN=>[(68,Zz N)]⟩
theorem Zc9(N:Nat):GW 129 (Zbx N):=GF Zy2 N Tryz.func129 (GC (Z7 N) Wi)
def Zec(N:Nat):Sig:=Sig.of [.v Ja false] [.v Jp false] (λd=>Za6 N d.1)
def Zz1:Fn:=⟨Tryz.f107,WM,Zec,λN=>[(68,Zz N)]⟩
theorem Zgz(N:Nat):GW 107 (Zec N):=GF Zz1 N Tryz.func107 (GC (Z7 N) Wi)
def Zhv(N:Nat):Sig:=Sig.of [.v Jw true] [.v Jp false] (λd=>Zgp N d.1)
def Z0c:Fn:=⟨Tryz.f151,WM,Zhv,λN=>[(190,Znq N),(83,Zaz N),(129,Zbx N),(68,Zz N),(107,Zec N)]⟩
theorem Zl5(N:Nat):GW 151 (Zhv N):=GF Z0c N Tryz.func151 (GC (Zz0 N) (GC (Zbk N) (GC (Zc9 N) (GC (Z7 N) (GC (Zgz N) Wi)))))
def Zjc(N:Nat):Sig:=Sig.of [.v Jw true] [.v Ja false] (λd=>Zgr N d.1)
def Zxj:Fn:=⟨Tryz.f149,WM,Zjc,λN=>[(151,Zhv N)]⟩
theorem Zot(N:Nat):GW 149 (Zjc N):=GF Zxj N Tryz.func149 (GC (Zl5 N) Wi)
def Zix(N:Nat):Sig:=Sig.of [.v Jw true] [.v Ja false] (λd=>Zir N d.1)
def Zz2:Fn:=⟨Tryz.f156,WM,Zix,Wbq⟩
theorem Znr(N:Nat):GW 156 (Zix N):=GF Zz2 N Tryz.func156 Wi
def Zj4(N:Nat):Sig:=Sig.of [.v Jc false] [.v Jp false] (λd=>Zcz N d.1)
def Zhh:Fn:=⟨Tryz.f150,λ |3=>[.canon [3,6,7,8,9]]|4=>[.canon [3,5,6,7,8]]|5=>[.canon [3,6,7,8]]|6=>[.canon [3,6,7,8,17]]|7=>[.canon [2]]|8=>[.canon [3,6,7,8]]|100003=>[.canon [3,6,7,8]]|_=>[],Zj4,λN=>[(156,Zix N)]⟩
def Zo4(n2:Int)(t3:List Ka)(t5:Int):St:=⟨[(3,vI n2),(6,vV Jc t3),(7,vI (Wj t3)),(8,vI t5)],[],0⟩
def Zou(t3:List Ka):St:=⟨[(2,vB false)],[],0⟩
def Zov(t3:List Ka)(n8:Int)(t9:Int)(aB:Bool):St:=⟨[(3,vI n8),(6,vV Jc t3),(7,vI (Wj t3)),(8,vI t9),(9,vB aB)],[],0⟩
theorem Zo5(N:Nat){R:Type}(K:Ex->St->Option R){t3:List Ka}{K0:Option R}{K1:Int->Int->Bool->Option R}(h0:K0=K .ret (Zou t3))(h1:K1= λn8 t9 aB=>K (.exit 0) (Zov t3 n8 t9 aB))(n:Nat)(n2:Int)(t5:Int):Zbv N t3 K0 K1 n n2 t5=LM Zhh N 0 100003 n (Zo4 n2 t3 t5) K:=by
  subst h0 h1
  induction n generalizing n2 t5 with
  |zero=>kernel_rfl
  |succ n ih=>rw[Zbv];simp only[ih];kernel_rfl
theorem Zt3(N:Nat)(ac:List Ka):DN Zhh N (ac,())=Zcz N ac:=by
  conv=>rhs;rw[Zcz];simp(disch:=exact id (by kernel_rfl)) only[Zo5 (R:=Unit×Ko) N (CF Zhh N [1,1,0,1,0])]
  kernel_rfl
theorem Zt4(N:Nat):GW 150 (Zj4 N):=GF Zhh N Tryz.func150 (GC (Znr N) Wi) (λd=>Zt3 N d.1)
def Zmf(N:Nat):Sig:=Sig.of [.v Jc false,.v Ja false] [.v Ja false] (λd=>Zgs N d.1 d.2.1)
def Zjd:Fn:=⟨Tryz.f152,λ |3=>[.canon [1,5,8,9,10,11]]|4=>[.canon [1,5,6,7,8,9,10]]|5=>[.canon [1,5,7,8,9,10,17]]|6=>[.canon [1,5,8,9,10]]|7=>[.canon [1,5,8,9,10]]|100003=>[.canon [1,5,8,9,10]]|_=>[],Zmf,λN=>[(156,Zix N)]⟩
def Zr7(i3:Int)(n4:Int)(t5:List Ka)(t7:Int):St:=⟨[(1,vI i3),(5,vI n4),(8,vV Jc t5),(9,vI (Wj t5)),(10,vI t7)],[],0⟩
def Zqi(i3:Int)(t5:List Ka)(jf:Int)(aI:Int)(aK:Bool):St:=⟨[(1,vI i3),(5,vI jf),(8,vV Jc t5),(9,vI (Wj t5)),(10,vI aI),(11,vB aK)],[],0⟩
theorem Zr8(N:Nat){R:Type}(K:Ex->St->Option R){i3:Int}{t5:List Ka}{K0:Int->Int->Bool->Option R}(h0:K0= λjf aI aK=>K (.exit 0) (Zqi i3 t5 jf aI aK))(n:Nat)(n4:Int)(t7:Int):Zby N i3 t5 K0 n n4 t7=LM Zjd N 0 100003 n (Zr7 i3 n4 t5 t7) K:=by
  subst h0
  induction n generalizing n4 t7 with
  |zero=>kernel_rfl
  |succ n ih=>rw[Zby];simp only[ih];kernel_rfl
theorem Zxk(N:Nat)(ac:List Ka)(i2:Int):DN Zjd N (ac,i2,())=Zgs N ac i2:=by
  conv=>rhs;rw[Zgs];simp(disch:=exact id (by kernel_rfl)) only[Zr8 (R:=Unit×Kh) N (CF Zjd N [1,1,0,1,0])]
  kernel_rfl
theorem Zxl(N:Nat):GW 152 (Zmf N):=GF Zjd N Tryz.func152 (GC (Znr N) Wi) (λd=>Zxk N d.1 d.2.1)
def Zkn(N:Nat):Sig:=Sig.of [.v Jc false] [.v Jp false] (λd=>Zco N d.1)
def Zko:Fn:=⟨Tryz.f92,λ |5=>[.canon [0,3,14,15,16,17]]|6=>[.canon [0,3,4,5,14,15,16]]|7=>[.canon [0,3,4,5,14,15,16,23]]|8=>[.canon [2]]|9=>[.canon [0,3,4,5,14,15,16,25]]|10=>[.canon [0,3,4,5,14,15,16,25,26]]|11=>[.canon [0,3,14,15,16,48]]|12=>[.canon [2]]|13=>[.canon [0,3,4,14,15,16,49]]|14=>[.canon [0,3,4,14,15,16]]|15=>[.canon [0,3,14,15,16,60]]|16=>[.canon [2]]|17=>[.canon [0,3,14,15,16]]|100005=>[.canon [0,3,14,15,16]]|_=>[],Zkn,λN=>[(150,Zj4 N),(151,Zhv N),(152,Zmf N)]⟩
def Zt5(ae:List Ka)(ax:Int)(t7:Int):St:=⟨[(0,vV Jc ae),(3,vI ax),(14,vV Jc ae),(15,vI (Wj ae)),(16,vI t7)],[],0⟩
def Zr9(ae:List Ka):St:=⟨[(2,vB false)],[],0⟩
def Zsa(ae:List Ka)(fX:Int)(bM:Int)(iu:Bool):St:=⟨[(0,vV Jc ae),(3,vI fX),(14,vV Jc ae),(15,vI (Wj ae)),(16,vI bM),(17,vB iu)],[],0⟩
theorem Zt6(N:Nat){R:Type}(K:Ex->St->Option R){ae:List Ka}{K0:Option R}{K1:Int->Int->Bool->Option R}(h0:K0=K .ret (Zr9 ae))(h1:K1= λfX bM iu=>K (.exit 0) (Zsa ae fX bM iu))(n:Nat)(ax:Int)(t7:Int):Zbq N ae K0 K1 n ax t7=LM Zko N 0 100005 n (Zt5 ae ax t7) K:=by
  subst h0 h1
  induction n generalizing ax t7 with
  |zero=>kernel_rfl
  |succ n ih=>rw[Zbq];simp only[ih];kernel_rfl
theorem Zy3(N:Nat)(ac:List Ka):DN Zko N (ac,())=Zco N ac:=by
  conv=>rhs;rw[Zco];simp(disch:=exact id (by kernel_rfl)) only[Zt6 (R:=Unit×Ko) N (CF Zko N [1,1,1,0,1,0])]
  kernel_rfl
theorem Zph(N:Nat):GW 92 (Zkn N):=GF Zko N Tryz.func92 (GC (Zt4 N) (GC (Zl5 N) (GC (Zxl N) Wi))) (λd=>Zy3 N d.1)
def Zns(N:Nat):Sig:=Sig.of [.v Jc false] [.v Jp false] (λd=>Zg2 N d.1)
def Zlj:Fn:=⟨Tryz.f91,λ |2=>[.canon [0,5,6,7,8]]|3=>[.canon [0,4,5,6,7]]|4=>[.canon [0,5,6,7,18]]|5=>[.canon [2]]|6=>[.canon [0,5,6,7]]|100002=>[.canon [0,5,6,7]]|_=>[],Zns,λN=>[(149,Zjc N),(92,Zkn N)]⟩
def Zvk(aa:List Ka)(t5:Int):St:=⟨[(0,vV Jc aa),(5,vV Jc aa),(6,vI (Wj aa)),(7,vI t5)],[],0⟩
def Zt7(aa:List Ka):St:=⟨[(2,vB false)],[],0⟩
def Zt8(aa:List Ka)(t8:Int)(t9:Bool):St:=⟨[(0,vV Jc aa),(5,vV Jc aa),(6,vI (Wj aa)),(7,vI t8),(8,vB t9)],[],0⟩
theorem Zvl(N:Nat){R:Type}(K:Ex->St->Option R){aa:List Ka}{K0:Option R}{K1:Int->Bool->Option R}(h0:K0=K .ret (Zt7 aa))(h1:K1= λt8 t9=>K (.exit 0) (Zt8 aa t8 t9))(n:Nat)(t5:Int):Zdu N aa K0 K1 n t5=LM Zlj N 0 100002 n (Zvk aa t5) K:=by
  subst h0 h1
  induction n generalizing t5 with
  |zero=>kernel_rfl
  |succ n ih=>rw[Zdu];simp only[ih];kernel_rfl
theorem Zz3(N:Nat)(ac:List Ka):DN Zlj N (ac,())=Zg2 N ac:=by
  conv=>rhs;rw[Zg2];simp(disch:=exact id (by kernel_rfl)) only[Zvl (R:=Unit×Ko) N (CF Zlj N [1,0,1,0])]
  kernel_rfl
theorem Zz4(N:Nat):GW 91 (Zns N):=GF Zlj N Tryz.func91 (GC (Zot N) (GC (Zph N) Wi)) (λd=>Zz3 N d.1)
def Zk2(N:Nat):Sig:=Sig.of [.v Jw true] [.v Jp false] (λd=>Zmb N d.1)
def Zvm:Fn:=⟨Tryz.f154,WM,Zk2,Wbq⟩
theorem Zvn(N:Nat):GW 154 (Zk2 N):=GF Zvm N Tryz.func154 Wi
def Zay(N:Nat):Sig:=Sig.of [.v Jc false,.clos 154 0] [.v Ja false] (λd=>Zy N d.1)
def Z9:Fn:=⟨Tryz.f191,λ |2=>[.canon [0,1,7,8,9]]|3=>[.canon [0,1,5,7,8]]|4=>[.canon [0,1,5,7,8,16]]|5=>[.canon [1,4]]|6=>[.canon [0,1,7,8]]|100002=>[.canon [0,1,7,8]]|_=>[],Zay,λN=>[(154,Zk2 N)]⟩
def Ze9(s2:List Ka)(t4:Int):St:=⟨[(0,vV Jc s2),(1,.s (.one (.clos 154 []))),(7,vI (Wj s2)),(8,vI t4)],[],0⟩
def Zer(s2:List Ka)(t7:Int):St:=⟨[(1,.s (.one (.clos 154 []))),(4,vI t7)],[],0⟩
def Zes(s2:List Ka)(t8:Int)(t9:Bool):St:=⟨[(0,vV Jc s2),(1,.s (.one (.clos 154 []))),(7,vI (Wj s2)),(8,vI t8),(9,vB t9)],[],0⟩
theorem Zfa(N:Nat){R:Type}(K:Ex->St->Option R){s2:List Ka}{K0:Int->Option R}{K1:Int->Bool->Option R}(h0:K0= λt7=>K .ret (Zer s2 t7))(h1:K1= λt8 t9=>K (.exit 0) (Zes s2 t8 t9))(n:Nat)(t4:Int):Zl N s2 K0 K1 n t4=LM Z9 N 0 100002 n (Ze9 s2 t4) K:=by
  subst h0 h1
  induction n generalizing t4 with
  |zero=>kernel_rfl
  |succ n ih=>rw[Zl];simp only[ih];kernel_rfl
theorem Zfy(N:Nat)(s1:List Ka):DN Z9 N (s1,())=Zy N s1:=by
  conv=>rhs;rw[Zy];simp(disch:=exact id (by kernel_rfl)) only[Zfa (R:=Unit×Kh) N (CF Z9 N [1,0,1,0])]
  kernel_rfl
theorem Zfz(N:Nat):GW 191 (Zay N):=GF Z9 N Tryz.func191 (GC (Zvn N) Wi) (λd=>Zfy N d.1)
def Zap(N:Nat):Sig:=Sig.of [.v Jc false,.clos 154 0] [.v Jp false] (λd=>Zav N d.1)
def Zfe:Fn:=⟨Tryz.f153,WM,Zap,λN=>[(191,Zay N)]⟩
theorem Zff(N:Nat):GW 153 (Zap N):=GF Zfe N Tryz.func153 (GC (Zfz N) Wi)
def Zmg(N:Nat):Sig:=Sig.of [.v Jc false] [.v Jp false] (λd=>Zgt N d.1)
def Zxm:Fn:=⟨Tryz.f93,WM,Zmg,λN=>[(153,Zap N)]⟩
theorem Zxn(N:Nat):GW 93 (Zmg N):=GF Zxm N Tryz.func93 (GC (Zff N) Wi)
def Zm6(N:Nat):Sig:=Sig.of [.v Jm true] [.v Jp false] (λd=>Zhr N d.1)
def Zkp:Fn:=⟨Tryz.f52,λ |2=>[.canon [1,6,7,8,9]]|3=>[.canon [1,4,6,7,8]]|4=>[.canon [1,6,7,8,15]]|5=>[.canon [2]]|6=>[.canon [1,6,7,8]]|100002=>[.canon [1,6,7,8]]|_=>[],Zm6,λN=>[(91,Zns N),(92,Zkn N),(93,Zmg N)]⟩
def Zt9(t2:List Ky)(t4:Int)(b5:List Ka×List Ky):St:=⟨[(1,vP 0 0),(6,vV (.slice Jc) t2),(7,vI (Wj b5.2)),(8,vI t4)],[(0,.box [.val Jc b5.1,.val (.slice Jc) b5.2])],1⟩
def Zsb(t2:List Ky)(b5:List Ka×List Ky):St:=⟨[(2,vB false)],[],0⟩
def Zsc(t2:List Ky)(b5:List Ka×List Ky)(t8:Int)(t9:Bool):St:=⟨[(1,vP 0 0),(6,vV (.slice Jc) t2),(7,vI (Wj b5.2)),(8,vI t8),(9,vB t9)],[(0,.box [.val Jc b5.1,.val (.slice Jc) b5.2])],1⟩
theorem Zua(N:Nat){R:Type}(K:Ex->St->Option R){t2:List Ky}{b5:List Ka×List Ky}{K0:Option R}{K1:Int->Bool->Option R}(h0:K0=K .ret (Zsb t2 b5))(h1:K1= λt8 t9=>K (.exit 0) (Zsc t2 b5 t8 t9))(n:Nat)(t4:Int):Zc2 N t2 b5 K0 K1 n t4=LM Zkp N 0 100002 n (Zt9 t2 t4 b5) K:=by
  subst h0 h1
  induction n generalizing t4 with
  |zero=>kernel_rfl
  |succ n ih=>rw[Zc2];simp only[ih];kernel_rfl
theorem Zy4(N:Nat)(p1:List Ka×List Ky):DN Zkp N (p1,())=Zhr N p1:=by
  conv=>rhs;rw[Zhr];simp(disch:=exact id (by kernel_rfl)) only[Zua (R:=Unit×Ko) N (CF Zkp N [1,0,1,0])]
  kernel_rfl
theorem Zy5(N:Nat):GW 52 (Zm6 N):=GF Zkp N Tryz.func52 (GC (Zz4 N) (GC (Zph N) (GC (Zxn N) Wi))) (λd=>Zy4 N d.1)
def Zj5(N:Nat):Sig:=Sig.of [.v Jm true] [.v Jp false] (λd=>Zif N d.1)
def Zub:Fn:=⟨Tryz.f63,WM,Zj5,λN=>[(52,Zm6 N)]⟩
theorem Zuc(N:Nat):GW 63 (Zj5 N):=GF Zub N Tryz.func63 (GC (Zy5 N) Wi)
def Zal(N:Nat):Sig:=Sig.of [.v Jz false,.clos 63 0] [.v Ja false] (λd=>Zt N d.1)
def Z5:Fn:=⟨Tryz.f111,λ |2=>[.canon [0,1,7,8,9]]|3=>[.canon [0,1,5,7,8]]|4=>[.canon [0,1,5,7,8,16]]|5=>[.canon [1,4]]|6=>[.canon [0,1,7,8]]|100002=>[.canon [0,1,7,8]]|_=>[],Zal,λN=>[(63,Zj5 N)]⟩
def Zd1(s2:List Km)(t4:Int):St:=⟨[(0,vV Jz s2),(1,.s (.one (.clos 63 []))),(7,vI (Wj s2)),(8,vI t4)],[],0⟩
def Zdl(s2:List Km)(t7:Int):St:=⟨[(1,.s (.one (.clos 63 []))),(4,vI t7)],[],0⟩
def Zdm(s2:List Km)(t8:Int)(t9:Bool):St:=⟨[(0,vV Jz s2),(1,.s (.one (.clos 63 []))),(7,vI (Wj s2)),(8,vI t8),(9,vB t9)],[],0⟩
theorem Zd2(N:Nat){R:Type}(K:Ex->St->Option R){s2:List Km}{K0:Int->Option R}{K1:Int->Bool->Option R}(h0:K0= λt7=>K .ret (Zdl s2 t7))(h1:K1= λt8 t9=>K (.exit 0) (Zdm s2 t8 t9))(n:Nat)(t4:Int):Ze N s2 K0 K1 n t4=LM Z5 N 0 100002 n (Zd1 s2 t4) K:=by
  subst h0 h1
  induction n generalizing t4 with
  |zero=>kernel_rfl
  |succ n ih=>rw[Ze];simp only[ih];kernel_rfl
theorem Zet(N:Nat)(s1:List Km):DN Z5 N (s1,())=Zt N s1:=by
  conv=>rhs;rw[Zt];simp(disch:=exact id (by kernel_rfl)) only[Zd2 (R:=Unit×Kh) N (CF Z5 N [1,0,1,0])]
  kernel_rfl
theorem Zeu(N:Nat):GW 111 (Zal N):=GF Z5 N Tryz.func111 (GC (Zuc N) Wi) (λd=>Zet N d.1)
def Zah(N:Nat):Sig:=Sig.of [.v Jz false,.clos 63 0] [.v Jp false] (λd=>Zaj N d.1)
def Zed:Fn:=⟨Tryz.f62,WM,Zah,λN=>[(111,Zal N)]⟩
theorem Zee(N:Nat):GW 62 (Zah N):=GF Zed N Tryz.func62 (GC (Zeu N) Wi)
def Zim(N:Nat):Sig:=Sig.of [.v Jaf true] [.v Jp false] (λd=>Zhz N d.1)
def Zwr:Fn:=⟨Tryz.f27,WM,Zim,λN=>[(54,Zlu N),(62,Zah N)]⟩
theorem Zoe(N:Nat):GW 27 (Zim N):=GF Zwr N Tryz.func27 (GC (Zwq N) (GC (Zee N) Wi))
def Zmh(N:Nat):Sig:=Sig.of [] [.v Jab false] (λd=>Znk N)
def Zxo:Fn:=⟨Tryz.f112,WM,Zmh,Wbq⟩
theorem Zxp(N:Nat):GW 112 (Zmh N):=GF Zxo N Tryz.func112 Wi
def Z2(N:Nat):Sig:=Sig.of [.v Jj false] [.v Jab false] (λd=>Zq N d.1)
def Zws:Fn:=⟨Tryz.f37,WM,Z2,Wbq⟩
theorem Zab(N:Nat):GW 37 (Z2 N):=GF Zws N Tryz.func37 Wi
def Zkq(N:Nat):Sig:=Sig.of [.v Ja false,.v Ja false] [.v Ja false] (λd=>Zhs N d.1 d.2.1)
def Zy6:Fn:=⟨Tryz.f104,WM,Zkq,Wbq⟩
theorem Zpi(N:Nat):GW 104 (Zkq N):=GF Zy6 N Tryz.func104 Wi
def Zlk(N:Nat):Sig:=Sig.of [.v Ja false] [.v Ja false] (λd=>Zg5 N d.1)
def Zz5:Fn:=⟨Tryz.f106,WM,Zlk,Wbq⟩
theorem Zqj(N:Nat):GW 106 (Zlk N):=GF Zz5 N Tryz.func106 Wi
def Zin(N:Nat):Sig:=Sig.of [.v Ja false] [.v Ja false] (λd=>Zh0 N d.1)
def Zwt:Fn:=⟨Tryz.f105,WM,Zin,λN=>[(107,Zec N)]⟩
theorem Zof(N:Nat):GW 105 (Zin N):=GF Zwt N Tryz.func105 (GC (Zgz N) Wi)
def Zfr(N:Nat):Sig:=Sig.of [.v Jj false] [.v Jp false] (λd=>Zcs N d.1)
def Zje:Fn:=⟨Tryz.f58,λ |5=>[.canon [3,9,10,11,12]]|6=>[.canon [3,4,5,9,10,11]]|7=>[.canon [3,4,5,9,10,11,17]]|8=>[.canon [3,5,9,10,11,35]]|9=>[.canon [2]]|10=>[.canon [3,9,10,11]]|11=>[.canon [3,9,10,11]]|100005=>[.canon [3,9,10,11]]|_=>[],Zfr,λN=>[(104,Zkq N),(68,Zz N),(106,Zlk N),(105,Zin N)]⟩
def Zsd(t2:List Int)(t4:Int)(l5:List Bool):St:=⟨[(3,.s (.one (.aptr 0))),(9,vV Jj t2),(10,vI (Wj t2)),(11,vI t4)],[(0,.arr Jp l5)],1⟩
def Zqk(t2:List Int):St:=⟨[(2,vB false)],[],0⟩
def Zql(t2:List Int)(iv:Int)(iE:Bool)(eQ:List Bool):St:=⟨[(3,.s (.one (.aptr 0))),(9,vV Jj t2),(10,vI (Wj t2)),(11,vI iv),(12,vB iE)],[(0,.arr Jp eQ)],1⟩
theorem Zse(N:Nat){R:Type}(K:Ex->St->Option R){t2:List Int}{K0:Option R}{K1:Int->Bool->(List Bool)->Option R}(h0:K0=K .ret (Zqk t2))(h1:K1= λiv iE eQ=>K (.exit 0) (Zql t2 iv iE eQ))(n:Nat)(t4:Int)(l5:List Bool):Zbz N t2 K0 K1 n t4 l5=LM Zje N 0 100005 n (Zsd t2 t4 l5) K:=by
  subst h0 h1
  induction n generalizing t4 l5 with
  |zero=>kernel_rfl
  |succ n ih=>rw[Zbz];simp only[ih];kernel_rfl
theorem Zxq(N:Nat)(l1:List Int):DN Zje N (l1,())=Zcs N l1:=by
  conv=>rhs;rw[Zcs];simp(disch:=exact id (by kernel_rfl)) only[Zse (R:=Unit×Ko) N (CF Zje N [1,1,1,0,1,0])]
  kernel_rfl
theorem Zjf(N:Nat):GW 58 (Zfr N):=GF Zje N Tryz.func58 (GC (Zpi N) (GC (Z7 N) (GC (Zqj N) (GC (Zof N) Wi)))) (λd=>Zxq N d.1)
def Zjy(N:Nat):Sig:=Sig.of [.v Jj false,.v Ja false] [.v Ja false] (λd=>Zfx N d.1 d.2.1)
def Zl6:Fn:=⟨Tryz.f108,λ |2=>[.canon [1,7,8,9,10]]|3=>[.canon [1,5,6,7,8,9]]|4=>[.canon [1,5,7,8,9,21]]|5=>[.canon [4]]|6=>[.canon [1,7,8,9]]|100002=>[.canon [1,7,8,9]]|_=>[],Zjy,λN=>[(106,Zlk N)]⟩
def Zwu(dG:Int)(t4:List Int)(t6:Int):St:=⟨[(1,vI dG),(7,vV Jj t4),(8,vI (Wj t4)),(9,vI t6)],[],0⟩
def Zvo(dG:Int)(t4:List Int)(t9:Int):St:=⟨[(4,vI t9)],[],0⟩
def Zvp(dG:Int)(t4:List Int)(aB:Int)(aI:Bool):St:=⟨[(1,vI dG),(7,vV Jj t4),(8,vI (Wj t4)),(9,vI aB),(10,vB aI)],[],0⟩
theorem Zwv(N:Nat){R:Type}(K:Ex->St->Option R){dG:Int}{t4:List Int}{K0:Int->Option R}{K1:Int->Bool->Option R}(h0:K0= λt9=>K .ret (Zvo dG t4 t9))(h1:K1= λaB aI=>K (.exit 0) (Zvp dG t4 aB aI))(n:Nat)(t6:Int):Zc7 N dG t4 K0 K1 n t6=LM Zl6 N 0 100002 n (Zwu dG t4 t6) K:=by
  subst h0 h1
  induction n generalizing t6 with
  |zero=>kernel_rfl
  |succ n ih=>rw[Zc7];simp only[ih];kernel_rfl
theorem Z0d(N:Nat)(l1:List Int)(bV:Int):DN Zl6 N (l1,bV,())=Zfx N l1 bV:=by
  conv=>rhs;rw[Zfx];simp(disch:=exact id (by kernel_rfl)) only[Zwv (R:=Unit×Kh) N (CF Zl6 N [1,0,1,0])]
  kernel_rfl
theorem Zn4(N:Nat):GW 108 (Zjy N):=GF Zl6 N Tryz.func108 (GC (Zqj N) Wi) (λd=>Z0d N d.1 d.2.1)
def Zha(N:Nat):Sig:=Sig.of [.v Jj false,.v Ja false] [.v Ja false,.v Jp false] (λd=>Zgu N d.1 d.2.1)
def Zxr:Fn:=⟨Tryz.f59,WM,Zha,λN=>[(58,Zfr N),(107,Zec N),(108,Zjy N)]⟩
theorem Zmi(N:Nat):GW 59 (Zha N):=GF Zxr N Tryz.func59 (GC (Zjf N) (GC (Zgz N) (GC (Zn4 N) Wi)))
def Zhb(N:Nat):Sig:=Sig.of [.v Jj false,.v Ja false,.v Ja false] [.v Jab false,.v Ja false,.v Jp false] (λd=>Zd8 N d.1 d.2.1 d.2.2.1)
def Zjg:Fn:=⟨Tryz.f113,λ |10=>[.canon [1,2,9,13,57]]|11=>[.canon [1,2,9,13]]|100010=>[.canon [1,2,9,13]]|_=>[],Zhb,λN=>[(37,Z2 N),(58,Zfr N),(107,Zec N),(83,Zaz N),(108,Zjy N),(59,Zha N),(104,Zkq N),(105,Zin N)]⟩
def Zsf(dq:Int)(mK:Int)(eJ:Int)(bm:List Int):St:=⟨[(1,vI dq),(2,vI mK),(9,vO 0),(13,vI eJ)],[(0,.arr Ja bm)],1⟩
def Zqm(dq:Int)(mK:Int)(bm:List Int)(pY:Int)(eE:Bool):St:=⟨[(1,vI dq),(2,vI mK),(9,vO 0),(13,vI pY),(57,vB eE)],[(0,.arr Ja bm)],1⟩
theorem Zsg(N:Nat){R:Type}(K:Ex->St->Option R){dq:Int}{mK:Int}{bm:List Int}{K0:Int->Bool->Option R}(h0:K0= λpY eE=>K (.exit 0) (Zqm dq mK bm pY eE))(n:Nat)(eJ:Int):Zcj N dq mK bm K0 n eJ=LM Zjg N 0 100010 n (Zsf dq mK eJ bm) K:=by
  subst h0
  induction n generalizing eJ with
  |zero=>kernel_rfl
  |succ n ih=>rw[Zcj];simp only[ih];kernel_rfl
theorem Zxs(N:Nat)(l1:List Int)(bV:Int)(v3:Int):DN Zjg N (l1,bV,v3,())=Zd8 N l1 bV v3:=by
  conv=>rhs;rw[Zd8];simp(disch:=exact id (by kernel_rfl)) only[Zsg (R:=Unit×(Kj×Kl)) N (CF Zjg N [1,1,1,1,1,0,0])]
  kernel_rfl
theorem Zmj(N:Nat):GW 113 (Zhb N):=GF Zjg N Tryz.func113 (GC (Zab N) (GC (Zjf N) (GC (Zgz N) (GC (Zbk N) (GC (Zn4 N) (GC (Zmi N) (GC (Zpi N) (GC (Zof N) Wi)))))))) (λd=>Zxs N d.1 d.2.1 d.2.2.1)
def Zk3(N:Nat):Sig:=Sig.of [.v Jj false] [.v Jab false] (λd=>Za7 N d.1)
def Zh7:Fn:=⟨Tryz.f64,λ |5=>[.canon [3,10,11,12,13]]|6=>[.canon [3,4,5,10,11,12]]|7=>[.canon [3,4,5,10,11,12,18]]|8=>[.canon [3,10,11,12]]|9=>[.canon [3,10,11,12]]|100005=>[.canon [3,10,11,12]]|_=>[],Zk3,λN=>[(95,Zlh N),(112,Zmh N),(113,Zhb N)]⟩
def Zpu(t4:List Int)(t6:Int)(l7:List Int):St:=⟨[(3,vO 0),(10,vV Jj t4),(11,vI (Wj t4)),(12,vI t6)],[(0,.arr Ja l7)],1⟩
def Zo6(t4:List Int)(aB:Int)(aI:Bool)(bn:List Int):St:=⟨[(3,vO 0),(10,vV Jj t4),(11,vI (Wj t4)),(12,vI aB),(13,vB aI)],[(0,.arr Ja bn)],1⟩
theorem Zpv(N:Nat){R:Type}(K:Ex->St->Option R){t4:List Int}{K0:Int->Bool->Kj->Option R}(h0:K0= λaB aI bn=>K (.exit 0) (Zo6 t4 aB aI bn))(n:Nat)(t6:Int)(l7:List Int):Zbg N t4 K0 n t6 l7=LM Zh7 N 0 100005 n (Zpu t4 t6 l7) K:=by
  subst h0
  induction n generalizing t6 l7 with
  |zero=>kernel_rfl
  |succ n ih=>rw[Zbg];simp only[ih];kernel_rfl
theorem Zvq(N:Nat)(m1:List Int):DN Zh7 N (m1,())=Za7 N m1:=by
  conv=>rhs;rw[Za7];simp(disch:=exact id (by kernel_rfl)) only[Zpv (R:=Unit×Ku) N (CF Zh7 N [1,1,1,0,1,0])]
  kernel_rfl
theorem Zvr(N:Nat):GW 64 (Zk3 N):=GF Zh7 N Tryz.func64 (GC (Zqh N) (GC (Zxp N) (GC (Zmj N) Wi))) (λd=>Zvq N d.1)
def Zm7(N:Nat):Sig:=Sig.of [.v Jj false] [.v Jag true,.v Jp false] (λd=>Zb2 N d.1)
def Zkr:Fn:=⟨Tryz.f65,λ |5=>[.canon [2,4,12,13,14,15]]|6=>[.canon [2,4,6,12,13,14]]|7=>[.canon [2,4,12,13,14]]|8=>[.canon [2,4,12,13,14]]|100005=>[.adoptC 4 1 Jk,.canon [2,4,12,13,14]]|_=>[],Zm7,λN=>[(36,Zcm N)]⟩
def Zud(t3:List Int)(t5:Int)(l8:List Kb):St:=⟨[(2,vP 0 0),(4,vP 1 0),(12,vV Jj t3),(13,vI (Wj t3)),(14,vI t5)],[(0,.box [.val Ja (0:Int),.nils]),(1,.box [.val Ja (0:Int),.own 2]),(2,.arr Jk l8)],3⟩
def Zsh(t3:List Int)(t9:Int)(aB:Bool)(ao:List Kb):St:=⟨[(2,vP 0 0),(4,vP 1 0),(12,vV Jj t3),(13,vI (Wj t3)),(14,vI t9),(15,vB aB)],[(0,.box [.val Ja (0:Int),.nils]),(1,.box [.val Ja (0:Int),.own 2]),(2,.arr Jk ao)],3⟩
theorem Zue(N:Nat){R:Type}(K:Ex->St->Option R){t3:List Int}{K0:Int->Bool->Kr->Option R}(h0:K0= λt9 aB ao=>K (.exit 0) (Zsh t3 t9 aB ao))(n:Nat)(t5:Int)(l8:List Kb):Zc1 N t3 K0 n t5 l8=LM Zkr N 0 100005 n (Zud t3 t5 l8) K:=by
  subst h0
  induction n generalizing t5 l8 with
  |zero=>kernel_rfl
  |succ n ih=>rw[Zc1];simp only[ih];kernel_rfl
theorem Zy7(N:Nat)(l1:List Int):DN Zkr N (l1,())=Zb2 N l1:=by
  conv=>rhs;rw[Zb2];simp(disch:=exact id (by kernel_rfl)) only[Zue (R:=Unit×(Kv×Ko)) N (CF Zkr N [1,1,1,0,1,0])]
  kernel_rfl
theorem Zy8(N:Nat):GW 65 (Zm7 N):=GF Zkr N Tryz.func65 (GC (Zf5 N) Wi) (λd=>Zy7 N d.1)
def Zcn(N:Nat):Sig:=Sig.of [.box Jaa] [] (λd=>Za8 N d.1)
def Zvs:Fn:=⟨Tryz.f115,WM,Zcn,Wbq⟩
theorem Zf6(N:Nat):GW 115 (Zcn N):=GF Zvs N Tryz.func115 Wi
def Zj6(N:Nat):Sig:=Sig.of [.box Ju,.v Ja false] [] (λd=>Ze5 N d.1 d.2.1)
def Zhi:Fn:=⟨Tryz.f116,λ |3=>[.canon [0,1,4,5,17,18,19,20]]|4=>[.canon [0,1,4,5,6,7,17,18,19]]|5=>[.canon [0,1,4,5,17,18,19]]|6=>[.canon [0,1,4,5,17,18,19]]|100003=>[.canon [0,1,4,5,17,18,19]]|_=>[],Zj6,Wbq⟩
def Zo7(k3:Int)(r4:Nat)(cN:Bool)(t6:Int)(t7:Int)(b8:Int)(b9:Int)(aN:Int)(bA:Int)(bn:List Y_Root)(aW:List Kb)(aU:List Int)(bm:List Kb)(cM:List Kn):St:=⟨[(0,vP 0 0),(1,vI k3),(4,.s (.one (.eptr 1 r4 0))),(5,vB cN),(17,vO 1),(18,vI t6),(19,vI t7)],[(0,.box [.val Ja b8,.val Ja b9,.val Ja aN,.own 2,.own 3,.val Ja bA,.own 4,.own 1,.own 5]),(1,.arr Jaa bn),(2,.arr Jk aW),(3,.arr Ja aU),(4,.arr Jk bm),(5,.arr Ji cM)],6⟩
def Zow(k3:Int)(r4:Nat)(t6:Int)(b8:Int)(b9:Int)(aN:Int)(bA:Int)(bn:List Y_Root)(aW:List Kb)(aU:List Int)(bm:List Kb)(cM:List Kn)(fY:Bool)(iv:Int)(iE:Bool):St:=⟨[(0,vP 0 0),(1,vI k3),(4,.s (.one (.eptr 1 r4 0))),(5,vB fY),(17,vO 1),(18,vI t6),(19,vI iv),(20,vB iE)],[(0,.box [.val Ja b8,.val Ja b9,.val Ja aN,.own 2,.own 3,.val Ja bA,.own 4,.own 1,.own 5]),(1,.arr Jaa bn),(2,.arr Jk aW),(3,.arr Ja aU),(4,.arr Jk bm),(5,.arr Ji cM)],6⟩
theorem Zo8(N:Nat){R:Type}(K:Ex->St->Option R){k3:Int}{r4:Nat}{t6:Int}{b8:Int}{b9:Int}{aN:Int}{bA:Int}{bn:List Y_Root}{aW:List Kb}{aU:List Int}{bm:List Kb}{cM:List Kn}{K0:Bool->Int->Bool->Option R}(h0:K0= λfY iv iE=>K (.exit 0) (Zow k3 r4 t6 b8 b9 aN bA bn aW aU bm cM fY iv iE))(n:Nat)(cN:Bool)(t7:Int):Zaq N k3 r4 t6 b8 b9 aN bA bn aW aU bm cM K0 n cN t7=LM Zhi N 0 100003 n (Zo7 k3 r4 cN t6 t7 b8 b9 aN bA bn aW aU bm cM) K:=by
  subst h0
  induction n generalizing cN t7 with
  |zero=>kernel_rfl
  |succ n ih=>rw[Zaq];simp only[ih];kernel_rfl
theorem Zuf(N:Nat)(w1:Y_World)(k2:Int):DN Zhi N (w1,k2,())=Ze5 N w1 k2:=by
  conv=>rhs;rw[Ze5];simp(disch:=exact id (by kernel_rfl)) only[Zo8 (R:=(Y_World×Unit)×Unit) N (CF Zhi N [1,1,0,1,0])]
  kernel_rfl
theorem Zug(N:Nat):GW 116 (Zj6 N):=GF Zhi N Tryz.func116 Wi (λd=>Zuf N d.1 d.2.1)
def Zks(N:Nat):Sig:=Sig.of [.v Ja false,.v Ja false,.v Ja false] [.v Jp false] (λd=>Zht N d.1 d.2.1 d.2.2.1)
def Zy9:Fn:=⟨Tryz.f217,WM,Zks,λN=>[(68,Zz N)]⟩
theorem Zpj(N:Nat):GW 217 (Zks N):=GF Zy9 N Tryz.func217 (GC (Z7 N) Wi)
def Ziy(N:Nat):Sig:=Sig.of [.v Jk true,.v Jk true] [.v Ja false] (λd=>Zhf N d.1 d.2.1)
def Zqn:Fn:=⟨Tryz.f218,WM,Ziy,Wbq⟩
theorem Zqo(N:Nat):GW 218 (Ziy N):=GF Zqn N Tryz.func218 Wi
def Zfs(N:Nat):Sig:=Sig.of [.v Je false] [.v Jp false] (λd=>Zd9 N d.1)
def Zjh:Fn:=⟨Tryz.f171,λ |2=>[.canon [0,5,6,7,8]]|3=>[.canon [0,3,4,5,6,7]]|4=>[.canon [0,3,4,5,6,7,33]]|5=>[.canon [2]]|6=>[.canon [0,5,6,7,60]]|7=>[.canon [2]]|8=>[.canon [0,5,6,7]]|100002=>[.canon [0,5,6,7]]|_=>[],Zfs,λN=>[(217,Zks N),(218,Ziy N)]⟩
def Zsi(l2:List Kb)(t5:Int):St:=⟨[(0,vV Je l2),(5,vV Je l2),(6,vI (Wj l2)),(7,vI t5)],[],0⟩
def Zqp(l2:List Kb):St:=⟨[(2,vB false)],[],0⟩
def Zqq(l2:List Kb)(aB:Int)(aI:Bool):St:=⟨[(0,vV Je l2),(5,vV Je l2),(6,vI (Wj l2)),(7,vI aB),(8,vB aI)],[],0⟩
theorem Zsj(N:Nat){R:Type}(K:Ex->St->Option R){l2:List Kb}{K0:Option R}{K1:Int->Bool->Option R}(h0:K0=K .ret (Zqp l2))(h1:K1= λaB aI=>K (.exit 0) (Zqq l2 aB aI))(n:Nat)(t5:Int):Zao N l2 K0 K1 n t5=LM Zjh N 0 100002 n (Zsi l2 t5) K:=by
  subst h0 h1
  induction n generalizing t5 with
  |zero=>kernel_rfl
  |succ n ih=>rw[Zao];simp only[ih];kernel_rfl
theorem Zxt(N:Nat)(l1:List Kb):DN Zjh N (l1,())=Zd9 N l1:=by
  conv=>rhs;rw[Zd9];simp(disch:=exact id (by kernel_rfl)) only[Zsj (R:=Unit×Ko) N (CF Zjh N [1,0,1,0])]
  kernel_rfl
theorem Zji(N:Nat):GW 171 (Zfs N):=GF Zjh N Tryz.func171 (GC (Zpj N) (GC (Zqo N) Wi)) (λd=>Zxt N d.1)
def Zmk(N:Nat):Sig:=Sig.of [.v Je false,.v Ja false] [.v Jab false] (λd=>Zfo N d.1 d.2.1)
def Zjj:Fn:=⟨Tryz.f192,λ |5=>[.canon [1,5,12,13,14,15]]|6=>[.canon [1,5,7,12,13,14]]|7=>[.canon [1,5,7,12,13,14,21]]|8=>[.canon [1,5,12,13,14]]|9=>[.canon [1,5,12,13,14]]|100005=>[.canon [1,5,12,13,14]]|_=>[],Zmk,λN=>[(171,Zfs N)]⟩
def Zsk(eK:Int)(t5:List Kb)(t7:Int)(l8:List Int):St:=⟨[(1,vI eK),(5,vO 0),(12,vV Je t5),(13,vI (Wj t5)),(14,vI t7)],[(0,.arr Ja l8)],1⟩
def Zqr(eK:Int)(t5:List Kb)(t9:Int)(aB:Bool)(ao:List Int):St:=⟨[(1,vI eK),(5,vO 0),(12,vV Je t5),(13,vI (Wj t5)),(14,vI t9),(15,vB aB)],[(0,.arr Ja ao)],1⟩
theorem Zsl(N:Nat){R:Type}(K:Ex->St->Option R){eK:Int}{t5:List Kb}{K0:Int->Bool->Kj->Option R}(h0:K0= λt9 aB ao=>K (.exit 0) (Zqr eK t5 t9 aB ao))(n:Nat)(t7:Int)(l8:List Int):Zb0 N eK t5 K0 n t7 l8=LM Zjj N 0 100005 n (Zsk eK t5 t7 l8) K:=by
  subst h0
  induction n generalizing t7 l8 with
  |zero=>kernel_rfl
  |succ n ih=>rw[Zb0];simp only[ih];kernel_rfl
theorem Zxu(N:Nat)(l1:List Kb)(Wit:Int):DN Zjj N (l1,Wit,())=Zfo N l1 Wit:=by
  conv=>rhs;rw[Zfo];simp(disch:=exact id (by kernel_rfl)) only[Zsl (R:=Unit×Ku) N (CF Zjj N [1,1,1,0,1,0])]
  kernel_rfl
theorem Zxv(N:Nat):GW 192 (Zmk N):=GF Zjj N Tryz.func192 (GC (Zji N) Wi) (λd=>Zxu N d.1 d.2.1)
def Zh8(N:Nat):Sig:=Sig.of [.box Ju,.v Ja false] [] (λd=>Zfp N d.1 d.2.1)
def Zvt:Fn:=⟨Tryz.f124,λ |0=>[.opn 10]|_=>[],Zh8,Wbq⟩
theorem Znx(N:Nat):GW 124 (Zh8 N):=GF Zvt N Tryz.func124 Wi
def Zd3(N:Nat):Sig:=Sig.of [.v Ja false] [.v Jp false] (λd=>Zea N d.1)
def Zxw:Fn:=⟨Tryz.f71,WM,Zd3,λN=>[(68,Zz N)]⟩
theorem Zhc(N:Nat):GW 71 (Zd3 N):=GF Zxw N Tryz.func71 (GC (Z7 N) Wi)
def Zgd(N:Nat):Sig:=Sig.of [.v Jn false] [.v Jp false] (λd=>Zcp N d.1)
def Zkt:Fn:=⟨Tryz.f72,λ |2=>[.canon [0,5,6,7,8]]|3=>[.canon [0,4,5,6,7]]|4=>[.canon [0,5,6,7,20]]|5=>[.canon [2]]|6=>[.canon [0,5,6,7]]|100002=>[.canon [0,5,6,7]]|_=>[],Zgd,λN=>[(129,Zbx N),(83,Zaz N)]⟩
def Zuh(l2:List Kc)(t5:Int):St:=⟨[(0,vV Jn l2),(5,vV Jn l2),(6,vI (Wj l2)),(7,vI t5)],[],0⟩
def Zsm(l2:List Kc):St:=⟨[(2,vB false)],[],0⟩
def Zsn(l2:List Kc)(aB:Int)(aI:Bool):St:=⟨[(0,vV Jn l2),(5,vV Jn l2),(6,vI (Wj l2)),(7,vI aB),(8,vB aI)],[],0⟩
theorem Zui(N:Nat){R:Type}(K:Ex->St->Option R){l2:List Kc}{K0:Option R}{K1:Int->Bool->Option R}(h0:K0=K .ret (Zsm l2))(h1:K1= λaB aI=>K (.exit 0) (Zsn l2 aB aI))(n:Nat)(t5:Int):Zc0 N l2 K0 K1 n t5=LM Zkt N 0 100002 n (Zuh l2 t5) K:=by
  subst h0 h1
  induction n generalizing t5 with
  |zero=>kernel_rfl
  |succ n ih=>rw[Zc0];simp only[ih];kernel_rfl
theorem Zza(N:Nat)(l1:List Kc):DN Zkt N (l1,())=Zcp N l1:=by
  conv=>rhs;rw[Zcp];simp(disch:=exact id (by kernel_rfl)) only[Zui (R:=Unit×Ko) N (CF Zkt N [1,0,1,0])]
  kernel_rfl
theorem Zku(N:Nat):GW 72 (Zgd N):=GF Zkt N Tryz.func72 (GC (Zc9 N) (GC (Zbk N) Wi)) (λd=>Zza N d.1)
def Zjz(N:Nat):Sig:=Sig.of [.v Jn false,.v Ja false] [.v Ja false,.v Jp false] (λd=>Zgq N d.1 d.2.1)
def Zl7:Fn:=⟨Tryz.f194,λ |4=>[.canon [0,1,6,14]]|5=>[.canon [0,1,6]]|6=>[.canon [0,1,6,23]]|7=>[.canon [4,5]]|100004=>[.canon [0,1,6]]|_=>[],Zjz,λN=>[(72,Zgd N)]⟩
def Zww(l4:List Kc)(cz:Int)(i6:Int):St:=⟨[(0,vV Jn l4),(1,vI cz),(6,vI i6)],[],0⟩
def Zvu(l4:List Kc)(cz:Int)(t7:Int):St:=⟨[(4,vI t7),(5,vB true)],[],0⟩
def Zvv(l4:List Kc)(cz:Int)(i8:Int)(t9:Bool):St:=⟨[(0,vV Jn l4),(1,vI cz),(6,vI i8),(14,vB t9)],[],0⟩
theorem Zwx(N:Nat){R:Type}(K:Ex->St->Option R){l4:List Kc}{cz:Int}{K0:Int->Option R}{K1:Int->Bool->Option R}(h0:K0= λt7=>K .ret (Zvu l4 cz t7))(h1:K1= λi8 t9=>K (.exit 0) (Zvv l4 cz i8 t9))(n:Nat)(i6:Int):Zf7 N l4 cz K0 K1 n i6=LM Zl7 N 0 100004 n (Zww l4 cz i6) K:=by
  subst h0 h1
  induction n generalizing i6 with
  |zero=>kernel_rfl
  |succ n ih=>rw[Zf7];simp only[ih];kernel_rfl
theorem Z0e(N:Nat)(l1:List Kc)(fC:Int):DN Zl7 N (l1,fC,())=Zgq N l1 fC:=by
  conv=>rhs;rw[Zgq];simp(disch:=exact id (by kernel_rfl)) only[Zwx (R:=Unit×Kl) N (CF Zl7 N [1,1,0,1,0])]
  kernel_rfl
theorem Zn5(N:Nat):GW 194 (Zjz N):=GF Zl7 N Tryz.func194 (GC (Zku N) Wi) (λd=>Z0e N d.1 d.2.1)
def Ziz(N:Nat):Sig:=Sig.of [.v Jn false] [.v (.own Jv) false] (λd=>Zfw N d.1)
def Zm8:Fn:=⟨Tryz.f176,λ |5=>[.canon [0,3,11,12]]|6=>[.canon [0,3,4,11]]|7=>[.canon [0,3,4,5,6,11]]|8=>[.canon [0,3,4,5,11,20]]|9=>[.canon [0,3,11]]|10=>[.canon [0,3,11]]|100005=>[.canon [0,3,11]]|_=>[],Ziz,λN=>[(72,Zgd N),(194,Zjz N)]⟩
def Zxx(l3:List Kc)(t4:Int)(l5:List Kc):St:=⟨[(0,vV Jn l3),(3,vO 0),(11,vI t4)],[(0,.arr Jv l5)],1⟩
def Zwy(l3:List Kc)(t7:Int)(t8:Bool)(l9:List Kc):St:=⟨[(0,vV Jn l3),(3,vO 0),(11,vI t7),(12,vB t8)],[(0,.arr Jv l9)],1⟩
theorem Zxy(N:Nat){R:Type}(K:Ex->St->Option R){l3:List Kc}{K0:Int->Bool->Kw->Option R}(h0:K0= λt7 t8 l9=>K (.exit 0) (Zwy l3 t7 t8 l9))(n:Nat)(t4:Int)(l5:List Kc):Zfl N l3 K0 n t4 l5=LM Zm8 N 0 100005 n (Zxx l3 t4 l5) K:=by
  subst h0
  induction n generalizing t4 l5 with
  |zero=>kernel_rfl
  |succ n ih=>rw[Zfl];simp only[ih];kernel_rfl
theorem Z0q(N:Nat)(l1:List Kc):DN Zm8 N (l1,())=Zfw N l1:=by
  conv=>rhs;rw[Zfw];simp(disch:=exact id (by kernel_rfl)) only[Zxy (R:=Unit×(Kw×Unit)) N (CF Zm8 N [1,1,1,0,1,0])]
  kernel_rfl
theorem Zm9(N:Nat):GW 176 (Ziz N):=GF Zm8 N Tryz.func176 (GC (Zku N) (GC (Zn5 N) Wi)) (λd=>Z0q N d.1)
def Zml(N:Nat):Sig:=Sig.of [.v Jn false] [.v Jab false] (λd=>Zgv N d.1)
def Zjk:Fn:=⟨Tryz.f222,λ |3=>[.canon [3,8,9,10,11]]|4=>[.canon [3,5,8,9,10]]|5=>[.canon [3,8,9,10]]|6=>[.canon [3,8,9,10]]|100003=>[.canon [3,8,9,10]]|_=>[],Zml,λN=>[(176,Ziz N)]⟩
def Zso(t3:Int)(t4:Int)(l5:List Int)(l6:List Kc):St:=⟨[(3,vO 0),(8,vO 1),(9,vI t3),(10,vI t4)],[(0,.arr Ja l5),(1,.arr Jv l6)],2⟩
def Zqs(t3:Int)(l6:List Kc)(t7:Int)(t8:Bool)(l9:List Int):St:=⟨[(3,vO 0),(8,vO 1),(9,vI t3),(10,vI t7),(11,vB t8)],[(0,.arr Ja l9),(1,.arr Jv l6)],2⟩
theorem Zsp(N:Nat){R:Type}(K:Ex->St->Option R){t3:Int}{l6:List Kc}{K0:Int->Bool->Kj->Option R}(h0:K0= λt7 t8 l9=>K (.exit 0) (Zqs t3 l6 t7 t8 l9))(n:Nat)(t4:Int)(l5:List Int):Zck N t3 l6 K0 n t4 l5=LM Zjk N 0 100003 n (Zso t3 t4 l5 l6) K:=by
  subst h0
  induction n generalizing t4 l5 with
  |zero=>kernel_rfl
  |succ n ih=>rw[Zck];simp only[ih];kernel_rfl
theorem Zxz(N:Nat)(l1:List Kc):DN Zjk N (l1,())=Zgv N l1:=by
  conv=>rhs;rw[Zgv];simp(disch:=exact id (by kernel_rfl)) only[Zsp (R:=Unit×Ku) N (CF Zjk N [1,1,0,1,0])]
  kernel_rfl
theorem Zx0(N:Nat):GW 222 (Zml N):=GF Zjk N Tryz.func222 (GC (Zm9 N) Wi) (λd=>Zxz N d.1)
def Zk4(N:Nat):Sig:=Sig.of [.v Ja false,.v Ja false,.v Jn false,.v Jn false] [.v Jd true,.v Jp false] (λd=>Zdz N d.1 d.2.1 d.2.2.1 d.2.2.2.1)
def Zvw:Fn:=⟨Tryz.f193,WM,Zk4,λN=>[(71,Zd3 N),(68,Zz N),(72,Zgd N),(176,Ziz N),(222,Zml N)]⟩
theorem Zvx(N:Nat):GW 193 (Zk4 N):=GF Zvw N Tryz.func193 (GC (Zhc N) (GC (Z7 N) (GC (Zku N) (GC (Zm9 N) (GC (Zx0 N) Wi)))))
def Zgo(N:Nat):Sig:=Sig.of [.box Ju,.v Ja false,.v Ja false] [] (λd=>Zf2 N d.1 d.2.1 d.2.2.1)
def Zsq:Fn:=⟨Tryz.f158,λ |0=>[.opn 13]|_=>[],Zgo,λN=>[(192,Zmk N),(124,Zh8 N),(193,Zk4 N)]⟩
theorem Zna(N:Nat):GW 158 (Zgo N):=GF Zsq N Tryz.func158 (GC (Zxv N) (GC (Znx N) (GC (Zvx N) Wi)))
def Zio(N:Nat):Sig:=Sig.of [.v Ja false] [.v Jw true,.v Jp false] (λd=>Zeo N d.1)
def Zwz:Fn:=⟨Tryz.f195,WM,Zio,λN=>[(129,Zbx N)]⟩
theorem Zog(N:Nat):GW 195 (Zio N):=GF Zwz N Tryz.func195 (GC (Zc9 N) Wi)
def Zcv(N:Nat):Sig:=Sig.of [.v Jt true] [.v Jp false] (λd=>Zb3 N d.1)
def Zll:Fn:=⟨Tryz.f39,λ |2=>[.canon [1,6,7,8,9]]|3=>[.canon [1,4,6,7,8]]|4=>[.canon [1,6,7,8,29]]|5=>[.canon [2]]|6=>[.canon [1,6,7,8]]|100002=>[.canon [1,6,7,8]]|_=>[],Zcv,λN=>[(83,Zaz N),(68,Zz N)]⟩
def Zvy(t2:List Kb)(t4:Int)(b5:Int×List Kb):St:=⟨[(1,vP 0 0),(6,vV Je t2),(7,vI (Wj b5.2)),(8,vI t4)],[(0,.box [.val Ja b5.1,.val Je b5.2])],1⟩
def Zuj(t2:List Kb)(b5:Int×List Kb):St:=⟨[(2,vB false)],[],0⟩
def Zuk(t2:List Kb)(b5:Int×List Kb)(aK:Int)(bd:Bool):St:=⟨[(1,vP 0 0),(6,vV Je t2),(7,vI (Wj b5.2)),(8,vI aK),(9,vB bd)],[(0,.box [.val Ja b5.1,.val Je b5.2])],1⟩
theorem Zvz(N:Nat){R:Type}(K:Ex->St->Option R){t2:List Kb}{b5:Int×List Kb}{K0:Option R}{K1:Int->Bool->Option R}(h0:K0=K .ret (Zuj t2 b5))(h1:K1= λaK bd=>K (.exit 0) (Zuk t2 b5 aK bd))(n:Nat)(t4:Int):Zdv N t2 b5 K0 K1 n t4=LM Zll N 0 100002 n (Zvy t2 t4 b5) K:=by
  subst h0 h1
  induction n generalizing t4 with
  |zero=>kernel_rfl
  |succ n ih=>rw[Zdv];simp only[ih];kernel_rfl
theorem Zz6(N:Nat)(m1:Int×List Kb):DN Zll N (m1,())=Zb3 N m1:=by
  conv=>rhs;rw[Zb3];simp(disch:=exact id (by kernel_rfl)) only[Zvz (R:=Unit×Ko) N (CF Zll N [1,0,1,0])]
  kernel_rfl
theorem Zft(N:Nat):GW 39 (Zcv N):=GF Zll N Tryz.func39 (GC (Zbk N) (GC (Z7 N) Wi)) (λd=>Zz6 N d.1)
def Zmm(N:Nat):Sig:=Sig.of [.v Jw true] [.v Jp false] (λd=>Zla N d.1)
def Zx1:Fn:=⟨Tryz.f223,WM,Zmm,λN=>[(129,Zbx N),(68,Zz N),(83,Zaz N)]⟩
theorem Zx2(N:Nat):GW 223 (Zmm N):=GF Zx1 N Tryz.func223 (GC (Zc9 N) (GC (Z7 N) (GC (Zbk N) Wi)))
def Zh9(N:Nat):Sig:=Sig.of [.v Jt true,.v Ja false,.v Jw true] [.v Jw true] (λd=>Zdw N d.1 d.2.1 d.2.2.1)
def Zv0:Fn:=⟨Tryz.f196,WM,Zh9,λN=>[(39,Zcv N),(223,Zmm N)]⟩
theorem Zny(N:Nat):GW 196 (Zh9 N):=GF Zv0 N Tryz.func196 (GC (Zft N) (GC (Zx2 N) Wi))
def Zf0(N:Nat):Sig:=Sig.of [.box Jaa] [] (λd=>Zct N d.1)
def Zpw:Fn:=⟨Tryz.f197,WM,Zf0,λN=>[(115,Zcn N)]⟩
theorem Zl0(N:Nat):GW 197 (Zf0 N):=GF Zpw N Tryz.func197 (GC (Zf6 N) Wi)
def Zj7(N:Nat):Sig:=Sig.of [.boxal Ju 3,.v Jw true] [] (λd=>Zig N d.1 d.2.1 d.2.2.1)
def Zul:Fn:=⟨Tryz.f159,λ |1000000=>[.unfE 1]|_=>[],Zj7,λN=>[(194,Zjz N),(195,Zio N),(196,Zh9 N),(197,Zf0 N)]⟩
theorem Zum(N:Nat):GW 159 (Zj7 N):=GF Zul N Tryz.func159 (GC (Zn5 N) (GC (Zog N) (GC (Zny N) (GC (Zl0 N) Wi))))
def Zia(N:Nat):Sig:=Sig.of [.box Jaa] [.v (.prod Ja Jad) true] (λd=>Zg6 N d.1)
def Zv1:Fn:=⟨Tryz.f119,WM,Zia,Wbq⟩
theorem Znz(N:Nat):GW 119 (Zia N):=GF Zv1 N Tryz.func119 Wi
def Zib(N:Nat):Sig:=Sig.of [.v (.prod Jj Ja) true] [.v Jq true] (λd=>Zg7 N d.1)
def Zv2:Fn:=⟨Tryz.f203,WM,Zib,λN=>[(37,Z2 N)]⟩
theorem Zn0(N:Nat):GW 203 (Zib N):=GF Zv2 N Tryz.func203 (GC (Zab N) Wi)
def Zjl(N:Nat):Sig:=Sig.of [.v (.prod Jj Ja) true] [.v Jp false] (λd=>Ziv N d.1)
def Zx3:Fn:=⟨Tryz.f204,WM,Zjl,λN=>[(58,Zfr N),(83,Zaz N)]⟩
theorem Zox(N:Nat):GW 204 (Zjl N):=GF Zx3 N Tryz.func204 (GC (Zjf N) (GC (Zbk N) Wi))
def Znb(N:Nat):Sig:=Sig.of [.v Jk true] [.v Jp false] (λd=>Zl3 N d.1)
def Zzb:Fn:=⟨Tryz.f205,WM,Znb,λN=>[(107,Zec N),(83,Zaz N)]⟩
theorem Zzc(N:Nat):GW 205 (Znb N):=GF Zzb N Tryz.func205 (GC (Zgz N) (GC (Zbk N) Wi))
def Zip(N:Nat):Sig:=Sig.of [.v Jj false,.v Ja false] [.v Jab false,.v Ja false,.v Jp false] (λd=>Zh1 N d.1 d.2.1)
def Zw0:Fn:=⟨Tryz.f206,WM,Zip,λN=>[(37,Z2 N),(58,Zfr N),(107,Zec N),(108,Zjy N),(59,Zha N)]⟩
theorem Zoh(N:Nat):GW 206 (Zip N):=GF Zw0 N Tryz.func206 (GC (Zab N) (GC (Zjf N) (GC (Zgz N) (GC (Zn4 N) (GC (Zmi N) Wi)))))
def Zmn(N:Nat):Sig:=Sig.of [.v (.prod Jj Ja) true,.v Jk true] [.v Jq true,.v Jp false] (λd=>Zlb N d.1 d.2.1)
def Zx4:Fn:=⟨Tryz.f166,WM,Zmn,λN=>[(203,Zib N),(204,Zjl N),(205,Znb N),(113,Zhb N),(206,Zip N)]⟩
theorem Zx5(N:Nat):GW 166 (Zmn N):=GF Zx4 N Tryz.func166 (GC (Zn0 N) (GC (Zox N) (GC (Zzc N) (GC (Zmj N) (GC (Zoh N) Wi)))))
def Zhj(N:Nat):Sig:=Sig.of [.boxal Ju 3] [] (λd=>Zb7 N d.1 d.2.1)
def Zun:Fn:=⟨Tryz.f120,λ |1000000=>[.unfE 1]|_=>[],Zhj,λN=>[(166,Zmn N)]⟩
theorem Znh(N:Nat):GW 120 (Zhj N):=GF Zun N Tryz.func120 (GC (Zx5 N) Wi)
def Zc4(N:Nat):Sig:=Sig.of [.v Jn false] [.v (.own Jv) false] (λd=>Zbe N d.1)
def Zw1:Fn:=⟨Tryz.f167,WM,Zc4,Wbq⟩
theorem Zgn(N:Nat):GW 167 (Zc4 N):=GF Zw1 N Tryz.func167 Wi
def Zlm(N:Nat):Sig:=Sig.of [.v Jc false,.v Ja false] [.v Ja false] (λd=>Zg3 N d.1 d.2.1)
def Zln:Fn:=⟨Tryz.f98,λ |5=>[.canon [0,5,6,25]]|6=>[.canon [0,5,6]]|7=>[.canon [0,5,6]]|8=>[.canon [0,5,6,36]]|9=>[.canon [4]]|100005=>[.canon [0,5,6]]|_=>[],Zlm,λN=>[(68,Zz N),(156,Zix N)]⟩
def Zv3(aA:List Ka)(n5:Int)(k6:Int):St:=⟨[(0,vV Jc aA),(5,vI n5),(6,vI k6)],[],0⟩
def Zuo(aA:List Ka)(t8:Int):St:=⟨[(4,vI t8)],[],0⟩
def Zup(aA:List Ka)(n9:Int)(k10:Int)(aI:Bool):St:=⟨[(0,vV Jc aA),(5,vI n9),(6,vI k10),(25,vB aI)],[],0⟩
theorem Zv4(N:Nat){R:Type}(K:Ex->St->Option R){aA:List Ka}{K0:Int->Option R}{K1:Int->Int->Bool->Option R}(h0:K0= λt8=>K .ret (Zuo aA t8))(h1:K1= λn9 k10 aI=>K (.exit 0) (Zup aA n9 k10 aI))(n:Nat)(n5:Int)(k6:Int):Zdx N aA K0 K1 n n5 k6=LM Zln N 0 100005 n (Zv3 aA n5 k6) K:=by
  subst h0 h1
  induction n generalizing n5 k6 with
  |zero=>kernel_rfl
  |succ n ih=>rw[Zdx];simp only[ih];kernel_rfl
theorem Zz7(N:Nat)(ac:List Ka)(i2:Int):DN Zln N (ac,i2,())=Zg3 N ac i2:=by
  conv=>rhs;rw[Zg3];simp(disch:=exact id (by kernel_rfl)) only[Zv4 (R:=Unit×Kh) N (CF Zln N [1,1,1,0,1,0])]
  kernel_rfl
theorem Zqt(N:Nat):GW 98 (Zlm N):=GF Zln N Tryz.func98 (GC (Z7 N) (GC (Znr N) Wi)) (λd=>Zz7 N d.1 d.2.1)
def Zjm(N:Nat):Sig:=Sig.of [.box Ju,.v Ja false,.v Jc false] [] (λd=>Zh2 N d.1 d.2.1 d.2.2.1)
def Zsr:Fn:=⟨Tryz.f160,λ |0=>[.opn 13]|_=>[],Zjm,λN=>[(158,Zgo N),(119,Zia N),(120,Zhj N),(37,Z2 N),(167,Zc4 N),(98,Zlm N)]⟩
theorem Zss(N:Nat):GW 160 (Zjm N):=GF Zsr N Tryz.func160 (GC (Zna N) (GC (Znz N) (GC (Znh N) (GC (Zab N) (GC (Zgn N) (GC (Zqt N) Wi))))))
def Zlv(N:Nat):Sig:=Sig.of [.v Ja false,.v Jj false,.v Jn false,.v Ja false] [.v Jy true] (λd=>Zf8 N d.1 d.2.1 d.2.2.1 d.2.2.2.1)
def Ze7:Fn:=⟨Tryz.f161,λ |3=>[.canon [1,3,8,9,19,20,21,22]]|4=>[.canon [1,3,8,9,11,19,20,21]]|5=>[.canon [1,3,8,9,19,20,21]]|6=>[.canon [1,3,8,9,19,20,21]]|8=>[.canon [1,8,9,36,37,38]]|9=>[.nest 44 Jh,.canon [1,8,9,36,37]]|10=>[.canon [1,8,9,36,37]]|100003=>[.adoptC 9 6 Jk,.canon [1,3,8,9,19,20,21]]|100008=>[.adoptC 9 9 Jh,.canon [1,8,9,36,37]]|_=>[],Zlv,λN=>[(37,Z2 N),(176,Ziz N)]⟩
def Zqu(dj:List Int)(dn:Int)(t9:Int)(aB:Int)(cS:Int)(c9:List Kc)(eQ:List Int)(cG:List Kb):St:=⟨[(1,vV Jj dj),(3,vI dn),(8,vP 0 0),(9,vP 1 0),(19,vO 2),(20,vI t9),(21,vI aB)],[(0,.box [.val Ja (0:Int),.val Ja (0:Int),.val Ja (0:Int),.val Jp false,.nils,.nils,.nils,.nils,.nils,.nils]),(1,.box [.val Ja cS,.val Ja (0:Int),.val Ja (0:Int),.val Jp false,.own 3,.own 2,.own 4,.nils,.nils,.nils]),(2,.arr Jv c9),(3,.arr Ja eQ),(4,.arr Jk cG)],5⟩
def Zpx(dj:List Int)(dn:Int)(t9:Int)(cS:Int)(c9:List Kc)(eQ:List Int)(t22:Int)(eZ:Bool)(db:List Kb):St:=⟨[(1,vV Jj dj),(3,vI dn),(8,vP 0 0),(9,vP 1 0),(19,vO 2),(20,vI t9),(21,vI t22),(22,vB eZ)],[(0,.box [.val Ja (0:Int),.val Ja (0:Int),.val Ja (0:Int),.val Jp false,.nils,.nils,.nils,.nils,.nils,.nils]),(1,.box [.val Ja cS,.val Ja (0:Int),.val Ja (0:Int),.val Jp false,.own 3,.own 2,.own 4,.nils,.nils,.nils]),(2,.arr Jv c9),(3,.arr Ja eQ),(4,.arr Jk db)],5⟩
theorem Zqv(N:Nat){R:Type}(K:Ex->St->Option R){dj:List Int}{dn:Int}{t9:Int}{cS:Int}{c9:List Kc}{eQ:List Int}{K0:Int->Bool->Kr->Option R}(h0:K0= λt22 eZ db=>K (.exit 0) (Zpx dj dn t9 cS c9 eQ t22 eZ db))(n:Nat)(aB:Int)(cG:List Kb):Zb9 N dj dn t9 cS c9 eQ K0 n aB cG=LM Ze7 N 0 100003 n (Zqu dj dn t9 aB cS c9 eQ cG) K:=by
  subst h0
  induction n generalizing aB cG with
  |zero=>kernel_rfl
  |succ n ih=>rw[Zb9];simp only[ih];kernel_rfl
def Zqw(cj:List Int)(kN:Int)(lM:Int)(my:Int)(mz:List Int)(mA:List Kc)(kO:List Kb)(gL:List Y_KidRun):St:=⟨[(1,vV Jj cj),(8,vP 0 0),(9,vP 1 0),(36,vI kN),(37,vI lM)],[(0,.box [.val Ja (0:Int),.val Ja (0:Int),.val Ja (0:Int),.val Jp false,.nils,.nils,.nils,.nils,.nils,.nils]),(1,.box [.val Ja my,.val Ja (0:Int),.val Ja (0:Int),.val Jp false,.own 2,.own 3,.own 4,.nils,.nils,.own 5]),(2,.arr Ja mz),(3,.arr Jv mA),(4,.arr Jk kO),(5,.arr Jh gL)],6⟩
def Zpy(cj:List Int)(kN:Int)(my:Int)(mz:List Int)(mA:List Kc)(kO:List Kb)(t45:Int)(t46:Bool)(mI:List Y_KidRun):St:=⟨[(1,vV Jj cj),(8,vP 0 0),(9,vP 1 0),(36,vI kN),(37,vI t45),(38,vB t46)],[(0,.box [.val Ja (0:Int),.val Ja (0:Int),.val Ja (0:Int),.val Jp false,.nils,.nils,.nils,.nils,.nils,.nils]),(1,.box [.val Ja my,.val Ja (0:Int),.val Ja (0:Int),.val Jp false,.own 2,.own 3,.own 4,.nils,.nils,.own 5]),(2,.arr Ja mz),(3,.arr Jv mA),(4,.arr Jk kO),(5,.arr Jh mI)],6⟩
theorem Zqx(N:Nat){R:Type}(K:Ex->St->Option R){cj:List Int}{kN:Int}{my:Int}{mz:List Int}{mA:List Kc}{kO:List Kb}{K0:Int->Bool->(List Y_KidRun)->Option R}(h0:K0= λt45 t46 mI=>K (.exit 2) (Zpy cj kN my mz mA kO t45 t46 mI))(n:Nat)(lM:Int)(gL:List Y_KidRun):Za9 N cj kN my mz mA kO K0 n lM gL=LM Ze7 N 1 100008 n (Zqw cj kN lM my mz mA kO gL) K:=by
  subst h0
  induction n generalizing lM gL with
  |zero=>kernel_rfl
  |succ n ih=>rw[Za9];simp only[ih];kernel_rfl
theorem Zw2(N:Nat)(qV:Int)(be:List Int)(d9:List Kc)(gM:Int):DN Ze7 N (qV,be,d9,gM,())=Zf8 N qV be d9 gM:=by
  conv=>rhs;rw[Zf8];simp(disch:=exact id (by kernel_rfl)) only[Zqv (R:=Unit×(Y_Family×Unit)) N (CF Ze7 N [1,1,0,1,0]),Zqx (R:=Unit×(Y_Family×Unit)) N (CF Ze7 N [1,1,1,0,1,0])]
  kernel_rfl
theorem Zw3(N:Nat):GW 161 (Zlv N):=GF Ze7 N Tryz.func161 (GC (Zab N) (GC (Zm9 N) Wi)) (λd=>Zw2 N d.1 d.2.1 d.2.2.1 d.2.2.2.1)
def Zk5(N:Nat):Sig:=Sig.of [.v Jw true] [.v Ja false,.v Ja false] (λd=>Zi6 N d.1)
def Zv5:Fn:=⟨Tryz.f198,WM,Zk5,λN=>[(151,Zhv N)]⟩
theorem Zv6(N:Nat):GW 198 (Zk5 N):=GF Zv5 N Tryz.func198 (GC (Zl5 N) Wi)
def Zic(N:Nat):Sig:=Sig.of [.v Je false] [.v (.own Jk) false] (λd=>Zd0 N d.1)
def Zv7:Fn:=⟨Tryz.f170,WM,Zic,Wbq⟩
theorem Zn1(N:Nat):GW 170 (Zic N):=GF Zv7 N Tryz.func170 Wi
def Znc(N:Nat):Sig:=Sig.of [.v Je false,.v Ja false,.v Ja false,.v Ja false] [.v Jab false] (λd=>Zhu N d.1 d.2.1 d.2.2.1 d.2.2.2.1)
def Zkv:Fn:=⟨Tryz.f224,λ |5=>[.canon [1,2,3,9,21,22,23,24]]|6=>[.canon [1,2,3,9,11,21,22,23]]|7=>[.canon [1,2,3,9,11,21,22,23,45]]|8=>[.canon [1,2,3,9,21,22,23]]|9=>[.canon [1,2,3,9,21,22,23]]|100005=>[.canon [1,2,3,9,21,22,23]]|_=>[],Znc,λN=>[(171,Zfs N),(68,Zz N)]⟩
def Zuq(dr:Int)(cb:Int)(cd:Int)(aB:List Kb)(aK:Int)(aW:List Int):St:=⟨[(1,vI dr),(2,vI cb),(3,vI cd),(9,vO 0),(21,vV Je aB),(22,vI (Wj aB)),(23,vI aK)],[(0,.arr Ja aW)],1⟩
def Zst(dr:Int)(cb:Int)(cd:Int)(aB:List Kb)(gK:Int)(bM:Bool)(cM:List Int):St:=⟨[(1,vI dr),(2,vI cb),(3,vI cd),(9,vO 0),(21,vV Je aB),(22,vI (Wj aB)),(23,vI gK),(24,vB bM)],[(0,.arr Ja cM)],1⟩
theorem Zur(N:Nat){R:Type}(K:Ex->St->Option R){dr:Int}{cb:Int}{cd:Int}{aB:List Kb}{K0:Int->Bool->Kj->Option R}(h0:K0= λgK bM cM=>K (.exit 0) (Zst dr cb cd aB gK bM cM))(n:Nat)(aK:Int)(aW:List Int):Za3 N dr cb cd aB K0 n aK aW=LM Zkv N 0 100005 n (Zuq dr cb cd aB aK aW) K:=by
  subst h0
  induction n generalizing aK aW with
  |zero=>kernel_rfl
  |succ n ih=>rw[Za3];simp only[ih];kernel_rfl
theorem Zzd(N:Nat)(l1:List Kb)(Wit:Int)(cp:Int)(ce:Int):DN Zkv N (l1,Wit,cp,ce,())=Zhu N l1 Wit cp ce:=by
  conv=>rhs;rw[Zhu];simp(disch:=exact id (by kernel_rfl)) only[Zur (R:=Unit×Ku) N (CF Zkv N [1,1,1,0,1,0])]
  kernel_rfl
theorem Zze(N:Nat):GW 224 (Znc N):=GF Zkv N Tryz.func224 (GC (Zji N) (GC (Z7 N) Wi)) (λd=>Zzd N d.1 d.2.1 d.2.2.1 d.2.2.2.1)
def Zbc(N:Nat):Sig:=Sig.of [.mut Jk,.clos 218 0] [] (λd=>Zs N d.1)
theorem Zei:CmpOk Tryz.prog 218 Jk Wvk cfH:=by
  intro G x y us vs w hx hy h1 h2;obtain⟨_,_,rfl,a1,_,_,rfl,a2,a3⟩:=h1;obtain⟨_,_,rfl,b1,_,_,rfl,b2,b3⟩:=h2;simp only[Enc]at a1 a2 a3 b1 b2 b3;subst a1 a2 a3 b1 b2 b3;simp only[Xbd,Xby];unfold Wvk at hx hy;simp only[Xi]at hx hy
  go_enter Tryz.func218,Tryz.ntmps218
  go_wp2
  rw[guard_run (a:=x.2.1) (b:=y.2.1),Result.andThen_ok];rw[neq_run (a:=x.2.1) (b:=y.2.1),Result.andThen_ok];rcases hb:(bne (α:=Int) x.2.1 y.2.1)with _|_
  . go_wp2
    rw[sub_run (Wg1 hx.1) (Wg1 hy.1) (WwF hb)]
    go_wp2
    go_ret
    exact⟨rfl,two_grow _ _ _⟩
  . go_wp2
    rw[sub_run (Wg1 hx.2) (Wg1 hy.2) (Www hb)]
    go_wp2
    go_ret
    exact⟨rfl,two_grow _ _ _⟩
theorem Zej(N:Nat):GW 225 (Zbc N):=⟨WdX Tryz.func225 (show Wp7 Tryz.f225=true by kernel_rfl),good_sortF sortFH (e:=.prod Ja Jv) rfl (by decide) Tryz.isAgg230 Tryz.sizeOf230 (enters_of Tryz.func218 (by kernel_rfl) rfl) WxJ Zei N⟩
def Zmo(N:Nat):Sig:=Sig.of [.v Je false,.v Ja false,.v Ja false,.v Ja false] [.v (.own Jk) false,.v Jp false] (λd=>Zgw N d.1 d.2.1 d.2.2.1 d.2.2.2.1)
def Zjn:Fn:=⟨Tryz.f199,λ |5=>[.canon [1,2,3,10,35,36,37,38]]|6=>[.canon [1,2,3,10,11,12,35,36,37]]|7=>[.canon [1,2,3,10,11,12,35,36,37,51]]|8=>[.canon [10]]|9=>[.canon [8,9]]|10=>[.canon [1,2,3,10,35,36,37]]|100005=>[.canon [1,2,3,10,35,36,37]]|_=>[],Zmo,λN=>[(170,Zic N),(171,Zfs N),(217,Zks N),(224,Znc N),(225,Zbc N)]⟩
def Zsu(dH:Int)(bF:Int)(bG:Int)(aK:Int)(bd:Int)(aU:List Kb):St:=⟨[(1,vI dH),(2,vI bF),(3,vI bG),(10,vO 0),(35,vO 0),(36,vI aK),(37,vI bd)],[(0,.arr Jk aU)],1⟩
def Zqy(dH:Int)(bF:Int)(bG:Int)(aK:Int)(aU:List Kb)(bm:List Kb):St:=⟨[(8,vO 0),(9,vB true)],[(0,.arr Jk bm)],1⟩
def Zqz(dH:Int)(bF:Int)(bG:Int)(aK:Int)(aU:List Kb)(iu:Int)(eE:Bool):St:=⟨[(1,vI dH),(2,vI bF),(3,vI bG),(10,vO 0),(35,vO 0),(36,vI aK),(37,vI iu),(38,vB eE)],[(0,.arr Jk aU)],1⟩
theorem Zsv(N:Nat){R:Type}(K:Ex->St->Option R){dH:Int}{bF:Int}{bG:Int}{aK:Int}{aU:List Kb}{K0:Kr->Option R}{K1:Int->Bool->Option R}(h0:K0= λbm=>K .ret (Zqy dH bF bG aK aU bm))(h1:K1= λiu eE=>K (.exit 0) (Zqz dH bF bG aK aU iu eE))(n:Nat)(bd:Int):Zb1 N dH bF bG aK aU K0 K1 n bd=LM Zjn N 0 100005 n (Zsu dH bF bG aK bd aU) K:=by
  subst h0 h1
  induction n generalizing bd with
  |zero=>kernel_rfl
  |succ n ih=>rw[Zb1];simp only[ih];kernel_rfl
theorem Zx6(N:Nat)(l1:List Kb)(Wit:Int)(cp:Int)(ce:Int):DN Zjn N (l1,Wit,cp,ce,())=Zgw N l1 Wit cp ce:=by
  conv=>rhs;rw[Zgw];simp(disch:=exact id (by kernel_rfl)) only[Zsv (R:=Unit×(Kr×Ko)) N (CF Zjn N [1,1,1,0,1,0])]
  kernel_rfl
theorem Zx7(N:Nat):GW 199 (Zmo N):=GF Zjn N Tryz.func199 (GC (Zn1 N) (GC (Zji N) (GC (Zpj N) (GC (Zze N) (GC (Zej N) Wi))))) (λd=>Zx6 N d.1 d.2.1 d.2.2.1 d.2.2.2.1)
def Znd(N:Nat):Sig:=Sig.of [.v Ja false,.v Ja false] [.v Jk true] (λd=>Zjv N d.1 d.2.1)
def Zzf:Fn:=⟨Tryz.f226,WM,Znd,Wbq⟩
theorem Zzg(N:Nat):GW 226 (Znd N):=GF Zzf N Tryz.func226 Wi
def Zmp(N:Nat):Sig:=Sig.of [.v (.prod Jj Ja) true,.v Jw true,.v Jj false] [.v Jq true,.v Jab false,.v Jk true,.v Jp false] (λd=>Zlc N d.1 d.2.1 d.2.2.1)
def Zx8:Fn:=⟨Tryz.f200,WM,Zmp,λN=>[(203,Zib N),(37,Z2 N),(204,Zjl N),(36,Zcm N),(149,Zjc N),(113,Zhb N),(226,Znd N),(59,Zha N),(206,Zip N)]⟩
theorem Zx9(N:Nat):GW 200 (Zmp N):=GF Zx8 N Tryz.func200 (GC (Zn0 N) (GC (Zab N) (GC (Zox N) (GC (Zf5 N) (GC (Zot N) (GC (Zmj N) (GC (Zzg N) (GC (Zmi N) (GC (Zoh N) Wi)))))))))
def Zjo(N:Nat):Sig:=Sig.of [.box Ju,.v Ja false,.v Jw true] [] (λd=>Zf3 N d.1 d.2.1 d.2.2.1)
def Zsw:Fn:=⟨Tryz.f162,λ |1=>[.opn 20]|_=>[],Zjo,λN=>[(198,Zk5 N),(199,Zmo N),(197,Zf0 N),(200,Zmp N)]⟩
theorem Zsx(N:Nat):GW 162 (Zjo N):=GF Zsw N Tryz.func162 (GC (Zv6 N) (GC (Zx7 N) (GC (Zl0 N) (GC (Zx9 N) Wi))))
def Zge(N:Nat):Sig:=Sig.of [.rp (TY_Root)] [.vj Jw] (λd=>Zdd N d.1)
def Zq0:Fn:=⟨Tryz.f119,WM,Zge,Wbq⟩
theorem Zmt(N:Nat):GW 119 (Zge N):=GF Zq0 N Tryz.func119 Wi
def Zl8(N:Nat):Sig:=Sig.of [.v Jw true,.v Jj false] [.v Jab false,.v Jp false] (λd=>Zly N d.1 d.2.1)
def Z0f:Fn:=⟨Tryz.f97,WM,Zl8,λN=>[(37,Z2 N),(151,Zhv N),(36,Zcm N)]⟩
theorem Ztc(N:Nat):GW 97 (Zl8 N):=GF Z0f N Tryz.func97 (GC (Zab N) (GC (Zl5 N) (GC (Zf5 N) Wi)))
def Zk6(N:Nat):Sig:=Sig.of [.box Ju,.v Ja false,.v Jm true] [] (λd=>Zg8 N d.1 d.2.1 d.2.2.1)
def Zv8:Fn:=⟨Tryz.f117,λ |1=>[.opn 14]|_=>[],Zk6,λN=>[(158,Zgo N),(159,Zj7 N),(160,Zjm N),(161,Zlv N),(162,Zjo N),(37,Z2 N),(119,Zge N),(97,Zl8 N)]⟩
theorem Zv9(N:Nat):GW 117 (Zk6 N):=GF Zv8 N Tryz.func117 (GC (Zna N) (GC (Zum N) (GC (Zss N) (GC (Zw3 N) (GC (Zsx N) (GC (Zab N) (GC (Zmt N) (GC (Ztc N) Wi))))))))
def Zk7(N:Nat):Sig:=Sig.of [.v (TY_KidRun) true] [.v Jp false] (λd=>Zmc N d.1)
def Zwa:Fn:=⟨Tryz.f202,WM,Zk7,Wbq⟩
theorem Zwb(N:Nat):GW 202 (Zk7 N):=GF Zwa N Tryz.func202 Wi
def Zai(N:Nat):Sig:=Sig.of [.v Jac false,.clos 202 0] [.v Ja false] (λd=>Zr N d.1)
def Z0:Fn:=⟨Tryz.f227,λ |2=>[.canon [0,1,7,8,9]]|3=>[.canon [0,1,5,7,8]]|4=>[.canon [0,1,5,7,8,16]]|5=>[.canon [1,4]]|6=>[.canon [0,1,7,8]]|100002=>[.canon [0,1,7,8]]|_=>[],Zai,λN=>[(202,Zk7 N)]⟩
def Zda(s2:List Y_KidRun)(t4:Int):St:=⟨[(0,vV Jac s2),(1,.s (.one (.clos 202 []))),(7,vI (Wj s2)),(8,vI t4)],[],0⟩
def Zc5(s2:List Y_KidRun)(t7:Int):St:=⟨[(1,.s (.one (.clos 202 []))),(4,vI t7)],[],0⟩
def Zc6(s2:List Y_KidRun)(t8:Int)(t9:Bool):St:=⟨[(0,vV Jac s2),(1,.s (.one (.clos 202 []))),(7,vI (Wj s2)),(8,vI t8),(9,vB t9)],[],0⟩
theorem Zdb(N:Nat){R:Type}(K:Ex->St->Option R){s2:List Y_KidRun}{K0:Int->Option R}{K1:Int->Bool->Option R}(h0:K0= λt7=>K .ret (Zc5 s2 t7))(h1:K1= λt8 t9=>K (.exit 0) (Zc6 s2 t8 t9))(n:Nat)(t4:Int):Zg N s2 K0 K1 n t4=LM Z0 N 0 100002 n (Zda s2 t4) K:=by
  subst h0 h1
  induction n generalizing t4 with
  |zero=>kernel_rfl
  |succ n ih=>rw[Zg];simp only[ih];kernel_rfl
theorem Zef(N:Nat)(s1:List Y_KidRun):DN Z0 N (s1,())=Zr N s1:=by
  conv=>rhs;rw[Zr];simp(disch:=exact id (by kernel_rfl)) only[Zdb (R:=Unit×Kh) N (CF Z0 N [1,0,1,0])]
  kernel_rfl
theorem Zeg(N:Nat):GW 227 (Zai N):=GF Z0 N Tryz.func227 (GC (Zwb N) Wi) (λd=>Zef N d.1)
def Zac(N:Nat):Sig:=Sig.of [.v Jac false,.clos 202 0] [.v Jp false] (λd=>Zaf N d.1)
def Zde:Fn:=⟨Tryz.f201,WM,Zac,λN=>[(227,Zai N)]⟩
theorem Zdf(N:Nat):GW 201 (Zac N):=GF Zde N Tryz.func201 (GC (Zeg N) Wi)
def Zmq(N:Nat):Sig:=Sig.of [.v (TY_Family) true] [.v Jp false] (λd=>Zld N d.1)
def Zya:Fn:=⟨Tryz.f163,WM,Zmq,λN=>[(201,Zac N)]⟩
theorem Zyb(N:Nat):GW 163 (Zmq N):=GF Zya N Tryz.func163 (GC (Zdf N) Wi)
def Zmr(N:Nat):Sig:=Sig.of [.v (TY_Family) true] [.v Jab false] (λd=>Zgx N d.1)
def Zjp:Fn:=⟨Tryz.f164,λ |5=>[.canon [3,20,21,22,23]]|6=>[.canon [3,4,5,20,21,22]]|7=>[.canon [3,4,5,20,21,22]]|8=>[.canon [3,4,5,20,21,22,37]]|9=>[.canon [3,20,21,22]]|10=>[.canon [3,20,21,22]]|100005=>[.canon [3,20,21,22]]|_=>[],Zmr,λN=>[(36,Zcm N),(37,Z2 N)]⟩
def Zsy(t4:List Y_KidRun)(t5:Int)(t6:Int)(l7:List Int):St:=⟨[(3,vO 0),(20,vV Jac t4),(21,vI t5),(22,vI t6)],[(0,.arr Ja l7)],1⟩
def Zq1(t4:List Y_KidRun)(t5:Int)(aB:Int)(aI:Bool)(bn:List Int):St:=⟨[(3,vO 0),(20,vV Jac t4),(21,vI t5),(22,vI aB),(23,vB aI)],[(0,.arr Ja bn)],1⟩
theorem Zsz(N:Nat){R:Type}(K:Ex->St->Option R){t4:List Y_KidRun}{t5:Int}{K0:Int->Bool->Kj->Option R}(h0:K0= λaB aI bn=>K (.exit 0) (Zq1 t4 t5 aB aI bn))(n:Nat)(t6:Int)(l7:List Int):Zbh N t4 t5 K0 n t6 l7=LM Zjp N 0 100005 n (Zsy t4 t5 t6 l7) K:=by
  subst h0
  induction n generalizing t6 l7 with
  |zero=>kernel_rfl
  |succ n ih=>rw[Zbh];simp only[ih];kernel_rfl
theorem Zyc(N:Nat)(f1:Y_Family):DN Zjp N (f1,())=Zgx N f1:=by
  conv=>rhs;rw[Zgx];simp(disch:=exact id (by kernel_rfl)) only[Zsz (R:=Unit×Ku) N (CF Zjp N [1,1,1,0,1,0])]
  kernel_rfl
theorem Zyd(N:Nat):GW 164 (Zmr N):=GF Zjp N Tryz.func164 (GC (Zf5 N) (GC (Zab N) Wi)) (λd=>Zyc N d.1)
def Zms(N:Nat):Sig:=Sig.of [.v (TY_Family) true] [.v (.own Jv) false] (λd=>Zgy N d.1)
def Zjq:Fn:=⟨Tryz.f165,λ |3=>[.canon [3,8,9,10,11]]|4=>[.canon [3,5,8,9,10]]|5=>[.canon [3,8,9,10]]|6=>[.canon [3,8,9,10]]|100003=>[.canon [3,8,9,10]]|_=>[],Zms,Wbq⟩
def Zs0(t2:List Kb)(t3:Int)(t4:Int)(l5:List Kc):St:=⟨[(3,vO 0),(8,vV Je t2),(9,vI t3),(10,vI t4)],[(0,.arr Jv l5)],1⟩
def Zq2(t2:List Kb)(t3:Int)(t6:Int)(t7:Bool)(l8:List Kc):St:=⟨[(3,vO 0),(8,vV Je t2),(9,vI t3),(10,vI t6),(11,vB t7)],[(0,.arr Jv l8)],1⟩
theorem Zs1(N:Nat){R:Type}(K:Ex->St->Option R){t2:List Kb}{t3:Int}{K0:Int->Bool->Kw->Option R}(h0:K0= λt6 t7 l8=>K (.exit 0) (Zq2 t2 t3 t6 t7 l8))(n:Nat)(t4:Int)(l5:List Kc):Zcl N t2 t3 K0 n t4 l5=LM Zjq N 0 100003 n (Zs0 t2 t3 t4 l5) K:=by
  subst h0
  induction n generalizing t4 l5 with
  |zero=>kernel_rfl
  |succ n ih=>rw[Zcl];simp only[ih];kernel_rfl
theorem Zye(N:Nat)(f1:Y_Family):DN Zjq N (f1,())=Zgy N f1:=by
  conv=>rhs;rw[Zgy];simp(disch:=exact id (by kernel_rfl)) only[Zs1 (R:=Unit×(Kw×Unit)) N (CF Zjq N [1,1,0,1,0])]
  kernel_rfl
theorem Zyf(N:Nat):GW 165 (Zms N):=GF Zjq N Tryz.func165 Wi (λd=>Zye N d.1)
def Zk8(N:Nat):Sig:=Sig.of [.box Jaa] [] (λd=>Zg9 N d.1)
def Zwc:Fn:=⟨Tryz.f118,WM,Zk8,λN=>[(115,Zcn N),(163,Zmq N),(164,Zmr N),(165,Zms N),(37,Z2 N)]⟩
theorem Zwd(N:Nat):GW 118 (Zk8 N):=GF Zwc N Tryz.func118 (GC (Zf6 N) (GC (Zyb N) (GC (Zyd N) (GC (Zyf N) (GC (Zab N) Wi)))))
def Zi0(N:Nat):Sig:=Sig.of [.boxal Ju 3] [] (λd=>Zfi N d.1 d.2.1)
def Zq3:Fn:=⟨Tryz.f121,λ |1000000=>[.unfE 1]|_=>[],Zi0,λN=>[(119,Zia N),(115,Zcn N),(167,Zc4 N),(37,Z2 N)]⟩
theorem Zq4(N:Nat):GW 121 (Zi0 N):=GF Zq3 N Tryz.func121 (GC (Znz N) (GC (Zf6 N) (GC (Zgn N) (GC (Zab N) Wi))))
def Zhk(N:Nat):Sig:=Sig.of [.v (.prod Ja Jx) true] [.v Jd true] (λd=>Zgl N d.1)
def Zus:Fn:=⟨Tryz.f207,WM,Zhk,λN=>[(167,Zc4 N),(37,Z2 N)]⟩
theorem Zni(N:Nat):GW 207 (Zhk N):=GF Zus N Tryz.func207 (GC (Zgn N) (GC (Zab N) Wi))
def Zf1(N:Nat):Sig:=Sig.of [.v (.prod Ja Jx) true] [.v Ja false] (λd=>Zcu N d.1)
def Zpz:Fn:=⟨Tryz.f228,WM,Zf1,Wbq⟩
theorem Zl1(N:Nat):GW 228 (Zf1 N):=GF Zpz N Tryz.func228 Wi
def Ziq(N:Nat):Sig:=Sig.of [.v (.prod Ja Jx) true] [.v Jp false] (λd=>Zeq N d.1)
def Ze8:Fn:=⟨Tryz.f208,λ |4=>[.canon [1,3,38]]|5=>[.canon [1,3]]|6=>[.canon [1,3,54]]|7=>[.canon [2]]|9=>[.canon [1,56,57,58,59]]|10=>[.canon [1,4,5,56,57,58]]|11=>[.canon [1,56,57,58,79]]|12=>[.canon [2]]|13=>[.canon [1,56,57,58]]|100004=>[.canon [1,3]]|100009=>[.canon [1,56,57,58]]|_=>[],Ziq,λN=>[(71,Zd3 N),(68,Zz N),(72,Zgd N),(129,Zbx N),(228,Zf1 N)]⟩
def Zq5(i7:Int)(b8:Int×Int×Int×Int×Int×List Kc×List Int):St:=⟨[(1,vP 0 0),(3,vI i7)],[(0,.box [.val Ja b8.1,.val Ja b8.2.1,.val Ja b8.2.2.1,.val Ja b8.2.2.2.1,.val Ja b8.2.2.2.2.1,.val Jn b8.2.2.2.2.2.1,.val Jj b8.2.2.2.2.2.2])],1⟩
def Zp0(b8:Int×Int×Int×Int×Int×List Kc×List Int):St:=⟨[(2,vB false)],[],0⟩
def Zp1(b8:Int×Int×Int×Int×Int×List Kc×List Int)(i9:Int)(aB:Bool):St:=⟨[(1,vP 0 0),(3,vI i9),(38,vB aB)],[(0,.box [.val Ja b8.1,.val Ja b8.2.1,.val Ja b8.2.2.1,.val Ja b8.2.2.2.1,.val Ja b8.2.2.2.2.1,.val Jn b8.2.2.2.2.2.1,.val Jj b8.2.2.2.2.2.2])],1⟩
theorem Zq6(N:Nat){R:Type}(K:Ex->St->Option R){b8:Int×Int×Int×Int×Int×List Kc×List Int}{K0:Option R}{K1:Int->Bool->Option R}(h0:K0=K .ret (Zp0 b8))(h1:K1= λi9 aB=>K (.exit 0) (Zp1 b8 i9 aB))(n:Nat)(i7:Int):Zbn N b8 K0 K1 n i7=LM Ze8 N 0 100004 n (Zq5 i7 b8) K:=by
  subst h0 h1
  induction n generalizing i7 with
  |zero=>kernel_rfl
  |succ n ih=>rw[Zbn];simp only[ih];kernel_rfl
def Zq7(bd:List Int)(bM:Int)(aY:Int×Int×Int×Int×Int×List Kc×List Int):St:=⟨[(1,vP 0 0),(56,vV Jj bd),(57,vI (Wj aY.2.2.2.2.2.2)),(58,vI bM)],[(0,.box [.val Ja aY.1,.val Ja aY.2.1,.val Ja aY.2.2.1,.val Ja aY.2.2.2.1,.val Ja aY.2.2.2.2.1,.val Jn aY.2.2.2.2.2.1,.val Jj aY.2.2.2.2.2.2])],1⟩
def Zp2(bd:List Int)(aY:Int×Int×Int×Int×Int×List Kc×List Int):St:=⟨[(2,vB false)],[],0⟩
def Zp3(bd:List Int)(aY:Int×Int×Int×Int×Int×List Kc×List Int)(iE:Int)(ri:Bool):St:=⟨[(1,vP 0 0),(56,vV Jj bd),(57,vI (Wj aY.2.2.2.2.2.2)),(58,vI iE),(59,vB ri)],[(0,.box [.val Ja aY.1,.val Ja aY.2.1,.val Ja aY.2.2.1,.val Ja aY.2.2.2.1,.val Ja aY.2.2.2.2.1,.val Jn aY.2.2.2.2.2.1,.val Jj aY.2.2.2.2.2.2])],1⟩
theorem Zq8(N:Nat){R:Type}(K:Ex->St->Option R){bd:List Int}{aY:Int×Int×Int×Int×Int×List Kc×List Int}{K0:Option R}{K1:Int->Bool->Option R}(h0:K0=K .ret (Zp2 bd aY))(h1:K1= λiE ri=>K (.exit 2) (Zp3 bd aY iE ri))(n:Nat)(bM:Int):Zba N bd aY K0 K1 n bM=LM Ze8 N 1 100009 n (Zq7 bd bM aY) K:=by
  subst h0 h1
  induction n generalizing bM with
  |zero=>kernel_rfl
  |succ n ih=>rw[Zba];simp only[ih];kernel_rfl
theorem Zw4(N:Nat)(c1:Int×Int×Int×Int×Int×List Kc×List Int):DN Ze8 N (c1,())=Zeq N c1:=by
  conv=>rhs;rw[Zeq];simp(disch:=exact id (by kernel_rfl)) only[Zq6 (R:=Unit×Ko) N (CF Ze8 N [1,1,0,1,0]),Zq8 (R:=Unit×Ko) N (CF Ze8 N [1,1,1,0,1,0])]
  kernel_rfl
theorem Zoi(N:Nat):GW 208 (Ziq N):=GF Ze8 N Tryz.func208 (GC (Zhc N) (GC (Z7 N) (GC (Zku N) (GC (Zc9 N) (GC (Zl1 N) Wi))))) (λd=>Zw4 N d.1)
def Zev(N:Nat):Sig:=Sig.of [.box Jd,.v Ja false] [] (λd=>Z1 N d.1 d.2.1)
def Zoy:Fn:=⟨Tryz.f209,WM,Zev,Wbq⟩
theorem Zk9(N:Nat):GW 209 (Zev N):=GF Zoy N Tryz.func209 Wi
def Zjr(N:Nat):Sig:=Sig.of [.v (.prod Ja Jx) true] [.v Jd true,.v Jp false] (λd=>Zh3 N d.1)
def Zs2:Fn:=⟨Tryz.f168,WM,Zjr,λN=>[(207,Zhk N),(208,Ziq N),(209,Zev N)]⟩
theorem Zs3(N:Nat):GW 168 (Zjr N):=GF Zs2 N Tryz.func168 (GC (Zni N) (GC (Zoi N) (GC (Zk9 N) Wi)))
def Zd4(N:Nat):Sig:=Sig.of [.v Jt true] [.v Jag true] (λd=>Zb5 N d.1)
def Zyg:Fn:=⟨Tryz.f210,WM,Zd4,Wbq⟩
theorem Zhd(N:Nat):GW 210 (Zd4 N):=GF Zyg N Tryz.func210 Wi
def Zn6(N:Nat):Sig:=Sig.of [.v Jt true,.v Ja false,.v Ja false] [.v Jag true,.v Jp false] (λd=>Zlz N d.1 d.2.1 d.2.2.1)
def Z0g:Fn:=⟨Tryz.f211,WM,Zn6,λN=>[(210,Zd4 N),(39,Zcv N),(129,Zbx N),(71,Zd3 N)]⟩
theorem Z0h(N:Nat):GW 211 (Zn6 N):=GF Z0g N Tryz.func211 (GC (Zhd N) (GC (Zft N) (GC (Zc9 N) (GC (Zhc N) Wi))))
def Zfg(N:Nat):Sig:=Sig.of [.box Jd,.v Ja false] [] (λd=>Zeb N d.1 d.2.1)
def Zo9:Fn:=⟨Tryz.f214,WM,Zfg,Wbq⟩
theorem Zlo(N:Nat):GW 214 (Zfg N):=GF Zo9 N Tryz.func214 Wi
def Zjs(N:Nat):Sig:=Sig.of [.box Jd,.v Ja false] [] (λd=>Zbi N d.1 d.2.1)
def Zs4:Fn:=⟨Tryz.f212,WM,Zjs,λN=>[(228,Zf1 N),(214,Zfg N)]⟩
theorem Zs5(N:Nat):GW 212 (Zjs N):=GF Zs4 N Tryz.func212 (GC (Zl1 N) (GC (Zlo N) Wi))
def Zn7(N:Nat):Sig:=Sig.of [.v Jt true] [.v Jag true,.v Ja false] (λd=>Znu N d.1)
def Z0i:Fn:=⟨Tryz.f213,WM,Zn7,λN=>[(210,Zd4 N),(39,Zcv N)]⟩
theorem Z0j(N:Nat):GW 213 (Zn7 N):=GF Z0i N Tryz.func213 (GC (Zhd N) (GC (Zft N) Wi))
def Znt(N:Nat):Sig:=Sig.of [.v Jt true,.v Ja false,.v Ja false,.v Ja false] [.v Jag true,.v Jp false] (λd=>Zmw N d.1 d.2.1 d.2.2.1 d.2.2.2.1)
def Zz8:Fn:=⟨Tryz.f215,WM,Znt,λN=>[(210,Zd4 N),(39,Zcv N),(129,Zbx N),(71,Zd3 N),(83,Zaz N)]⟩
theorem Zz9(N:Nat):GW 215 (Znt N):=GF Zz8 N Tryz.func215 (GC (Zhd N) (GC (Zft N) (GC (Zc9 N) (GC (Zhc N) (GC (Zbk N) Wi)))))
def Zne(N:Nat):Sig:=Sig.of [.v Jt true,.v Ja false,.v Ja false,.v Ja false] [.v Jag true,.v Jp false] (λd=>Zjw N d.1 d.2.1 d.2.2.1 d.2.2.2.1)
def Zzh:Fn:=⟨Tryz.f216,WM,Zne,λN=>[(210,Zd4 N),(39,Zcv N),(129,Zbx N),(71,Zd3 N),(68,Zz N)]⟩
theorem Zzi(N:Nat):GW 216 (Zne N):=GF Zzh N Tryz.func216 (GC (Zhd N) (GC (Zft N) (GC (Zc9 N) (GC (Zhc N) (GC (Z7 N) Wi)))))
def Zj8(N:Nat):Sig:=Sig.of [.v Jt true,.v (.prod Ja Jx) true] [.v Jag true,.v Jd true] (λd=>Zih N d.1 d.2.1)
def Zut:Fn:=⟨Tryz.f169,WM,Zj8,λN=>[(210,Zd4 N),(207,Zhk N),(39,Zcv N),(208,Ziq N),(211,Zn6 N),(212,Zjs N),(209,Zev N),(213,Zn7 N),(214,Zfg N),(215,Znt N),(216,Zne N)]⟩
theorem Zuu(N:Nat):GW 169 (Zj8 N):=GF Zut N Tryz.func169 (GC (Zhd N) (GC (Zni N) (GC (Zft N) (GC (Zoi N) (GC (Z0h N) (GC (Zs5 N) (GC (Zk9 N) (GC (Z0j N) (GC (Zlo N) (GC (Zz9 N) (GC (Zzi N) Wi)))))))))))
def Zi1(N:Nat):Sig:=Sig.of [.box Ju,.v Ja false] [] (λd=>Zfj N d.1 d.2.1)
def Zq9:Fn:=⟨Tryz.f122,λ |0=>[.opn 13]|_=>[],Zi1,λN=>[(168,Zjr N),(115,Zcn N),(169,Zj8 N),(167,Zc4 N)]⟩
theorem Zra(N:Nat):GW 122 (Zi1 N):=GF Zq9 N Tryz.func122 (GC (Zs3 N) (GC (Zf6 N) (GC (Zuu N) (GC (Zgn N) Wi))))
def Zhl(N:Nat):Sig:=Sig.of [.v Jk true,.box Ja] [.v Jp false] (λd=>Ze6 N d.1 d.2.1)
def Zuv:Fn:=⟨Tryz.f173,WM,Zhl,Wbq⟩
theorem Znj(N:Nat):GW 173 (Zhl N):=GF Zuv N Tryz.func173 Wi
def Zam(N:Nat):Sig:=Sig.of [.v Je false,.clos 173 1,.box Ja] [.v Ja false] (λd=>Zu N d.1 d.2.1)
def Z6:Fn:=⟨Tryz.f219,λ |2=>[.canon [0,1,7,8,9]]|3=>[.canon [0,1,5,7,8]]|4=>[.canon [0,1,5,7,8,16]]|5=>[.canon [1,4]]|6=>[.canon [0,1,7,8]]|100002=>[.canon [0,1,7,8]]|_=>[],Zam,λN=>[(173,Zhl N)]⟩
def Zd5(s3:List Kb)(t5:Int)(b6:Int):St:=⟨[(0,vV Je s3),(1,.s (.one (.clos 173 [0]))),(7,vI (Wj s3)),(8,vI t5)],[(0,.box [.val Ja b6])],1⟩
def Zdn(s3:List Kb)(t9:Int)(aN:Int):St:=⟨[(1,.s (.one (.clos 173 [0]))),(4,vI t9)],[(0,.box [.val Ja aN])],1⟩
def Zdo(s3:List Kb)(aI:Int)(aK:Bool)(bO:Int):St:=⟨[(0,vV Je s3),(1,.s (.one (.clos 173 [0]))),(7,vI (Wj s3)),(8,vI aI),(9,vB aK)],[(0,.box [.val Ja bO])],1⟩
theorem Zd6(N:Nat){R:Type}(K:Ex->St->Option R){s3:List Kb}{K0:Int->Int->Option R}{K1:Int->Bool->Int->Option R}(h0:K0= λt9 aN=>K .ret (Zdn s3 t9 aN))(h1:K1= λaI aK bO=>K (.exit 0) (Zdo s3 aI aK bO))(n:Nat)(t5:Int)(b6:Int):Zj N s3 K0 K1 n t5 b6=LM Z6 N 0 100002 n (Zd5 s3 t5 b6) K:=by
  subst h0 h1
  induction n generalizing t5 b6 with
  |zero=>kernel_rfl
  |succ n ih=>rw[Zj];simp only[ih];kernel_rfl
theorem Zew(N:Nat)(s1:List Kb)(dp:Int):DN Z6 N (s1,dp,())=Zu N s1 dp:=by
  conv=>rhs;rw[Zu];simp(disch:=exact id (by kernel_rfl)) only[Zd6 (R:=Kh×Kh) N (CF Z6 N [1,0,1,0])]
  kernel_rfl
theorem Zex(N:Nat):GW 219 (Zam N):=GF Z6 N Tryz.func219 (GC (Znj N) Wi) (λd=>Zew N d.1 d.2.1)
def Zak(N:Nat):Sig:=Sig.of [.v (.own Jk) false,.clos 173 1,.box Ja] [.v (.own Jk) false] (λd=>Zo N d.1 d.2.1)
def Z3:Fn:=⟨Tryz.f172,λ |5=>[.canon [0,1,5,6,19]]|6=>[.canon [0,1,5,6]]|7=>[.canon [0,1,5,6,7]]|8=>[.canon [0,1,5,6,7,29]]|9=>[.canon [0,1,5,6]]|10=>[.canon [0,1,5,6]]|11=>[.view 38]|100005=>[.canon [0,1,5,6]]|_=>[],Zak,λN=>[(219,Zam N),(173,Zhl N)]⟩
def Zdp(i4:Int)(j5:Int)(l6:List Kb)(b7:Int):St:=⟨[(0,vO 0),(1,.s (.one (.clos 173 [1]))),(5,vI i4),(6,vI j5)],[(0,.arr Jk l6),(1,.box [.val Ja b7])],2⟩
def Zdg(i9:Int)(wz:Int)(aI:Bool)(bn:List Kb)(bO:Int):St:=⟨[(0,vO 0),(1,.s (.one (.clos 173 [1]))),(5,vI i9),(6,vI wz),(19,vB aI)],[(0,.arr Jk bn),(1,.box [.val Ja bO])],2⟩
theorem Zdq(N:Nat){R:Type}(K:Ex->St->Option R){K0:Int->Int->Bool->Kr->Int->Option R}(h0:K0= λi9 wz aI bn bO=>K (.exit 0) (Zdg i9 wz aI bn bO))(n:Nat)(i4:Int)(j5:Int)(l6:List Kb)(b7:Int):Zd N K0 n i4 j5 l6 b7=LM Z3 N 0 100005 n (Zdp i4 j5 l6 b7) K:=by
  subst h0
  induction n generalizing i4 j5 l6 b7 with
  |zero=>kernel_rfl
  |succ n ih=>rw[Zd];simp only[ih];kernel_rfl
theorem Zek(N:Nat)(s1:List Kb)(dp:Int):DN Z3 N (s1,dp,())=Zo N s1 dp:=by
  conv=>rhs;rw[Zo];simp(disch:=exact id (by kernel_rfl)) only[Zdq (R:=Kh×Kac) N (CF Z3 N [1,1,1,0,1,0])]
  kernel_rfl
theorem Zel(N:Nat):GW 172 (Zak N):=GF Z3 N Tryz.func172 (GC (Zex N) (GC (Znj N) Wi)) (λd=>Zek N d.1 d.2.1)
def Zlw(N:Nat):Sig:=Sig.of [.v Je false,.v Ja false] [.v (.own Jk) false] (λd=>Zkd N d.1 d.2.1)
def Zw5:Fn:=⟨Tryz.f123,WM,Zlw,λN=>[(170,Zic N),(171,Zfs N),(172,Zak N)]⟩
theorem Zw6(N:Nat):GW 123 (Zlw N):=GF Zw5 N Tryz.func123 (GC (Zn1 N) (GC (Zji N) (GC (Zel N) Wi)))
def Zj9(N:Nat):Sig:=Sig.of [.box Ju,.v Ja false,.v Jm true] [] (λd=>Zgm N d.1 d.2.1 d.2.2.1)
def Zuw:Fn:=⟨Tryz.f69,λ |1=>[.opn 12]|_=>[],Zj9,λN=>[(68,Zz N),(115,Zcn N),(116,Zj6 N),(117,Zk6 N),(118,Zk8 N),(119,Zge N),(120,Zhj N),(121,Zi0 N),(122,Zi1 N),(123,Zlw N),(124,Zh8 N)]⟩
theorem Zux(N:Nat):GW 69 (Zj9 N):=GF Zuw N Tryz.func69 (GC (Z7 N) (GC (Zf6 N) (GC (Zug N) (GC (Zv9 N) (GC (Zwd N) (GC (Zmt N) (GC (Znh N) (GC (Zq4 N) (GC (Zra N) (GC (Zw6 N) (GC (Znx N) Wi)))))))))))
def Zhm(N:Nat):Sig:=Sig.of [.v Jk true,.box Ja] [.v Jp false] (λd=>Zis N d.1 d.2.1)
def Zpa:Fn:=⟨Tryz.f180,WM,Zhm,Wbq⟩
theorem Zpb(N:Nat):GW 180 (Zhm N):=GF Zpa N Tryz.func180 Wi
def Zad(N:Nat):Sig:=Sig.of [.v Je false,.clos 180 1,.box Ja] [.v Ja false] (λd=>Zn N d.1 d.2.1)
def Zw:Fn:=⟨Tryz.f179,λ |2=>[.canon [0,1,7,8,9]]|3=>[.canon [0,1,5,7,8]]|4=>[.canon [0,1,5,7,8,16]]|5=>[.canon [1,4]]|6=>[.canon [0,1,7,8]]|100002=>[.canon [0,1,7,8]]|_=>[],Zad,λN=>[(180,Zhm N)]⟩
def Zcw(s3:List Kb)(t5:Int)(b6:Int):St:=⟨[(0,vV Je s3),(1,.s (.one (.clos 180 [0]))),(7,vI (Wj s3)),(8,vI t5)],[(0,.box [.val Ja b6])],1⟩
def Zcq(s3:List Kb)(t9:Int)(aN:Int):St:=⟨[(1,.s (.one (.clos 180 [0]))),(4,vI t9)],[(0,.box [.val Ja aN])],1⟩
def Zcr(s3:List Kb)(aI:Int)(aK:Bool)(bO:Int):St:=⟨[(0,vV Je s3),(1,.s (.one (.clos 180 [0]))),(7,vI (Wj s3)),(8,vI aI),(9,vB aK)],[(0,.box [.val Ja bO])],1⟩
theorem Zcx(N:Nat){R:Type}(K:Ex->St->Option R){s3:List Kb}{K0:Int->Int->Option R}{K1:Int->Bool->Int->Option R}(h0:K0= λt9 aN=>K .ret (Zcq s3 t9 aN))(h1:K1= λaI aK bO=>K (.exit 0) (Zcr s3 aI aK bO))(n:Nat)(t5:Int)(b6:Int):Zf N s3 K0 K1 n t5 b6=LM Zw N 0 100002 n (Zcw s3 t5 b6) K:=by
  subst h0 h1
  induction n generalizing t5 b6 with
  |zero=>kernel_rfl
  |succ n ih=>rw[Zf];simp only[ih];kernel_rfl
theorem Zdh(N:Nat)(s1:List Kb)(dp:Int):DN Zw N (s1,dp,())=Zn N s1 dp:=by
  conv=>rhs;rw[Zn];simp(disch:=exact id (by kernel_rfl)) only[Zcx (R:=Kh×Kh) N (CF Zw N [1,0,1,0])]
  kernel_rfl
theorem Zdi(N:Nat):GW 179 (Zad N):=GF Zw N Tryz.func179 (GC (Zpb N) Wi) (λd=>Zdh N d.1 d.2.1)
def Zeh(N:Nat):Sig:=Sig.of [.rp (TY_Family),.v Ja false] [.v Ja false] (λd=>Zca N d.1 d.2.1)
def Zrb:Fn:=⟨Tryz.f127,WM,Zeh,λN=>[(179,Zad N)]⟩
theorem Zi2(N:Nat):GW 127 (Zeh N):=GF Zrb N Tryz.func127 (GC (Zdi N) Wi)
def Zfh(N:Nat):Sig:=Sig.of [.box Jy,.v Ja false] [] (λd=>Zbb N d.1 d.2.1)
def Zpc:Fn:=⟨Tryz.f128,WM,Zfh,λN=>[(37,Z2 N)]⟩
theorem Zlp(N:Nat):GW 128 (Zfh N):=GF Zpc N Tryz.func128 (GC (Zab N) Wi)
def Zjt(N:Nat):Sig:=Sig.of [.box Jy,.v Ja false,.v Jw true,.v Jt true] [] (λd=>Zhw N d.1 d.2.1 d.2.2.1 d.2.2.2.1)
def Zs6:Fn:=⟨Tryz.f174,λ |1=>[.opn 18]|_=>[],Zjt,λN=>[(194,Zjz N),(127,Zeh N),(128,Zfh N),(195,Zio N),(196,Zh9 N)]⟩
theorem Zs7(N:Nat):GW 174 (Zjt N):=GF Zs6 N Tryz.func174 (GC (Zn5 N) (GC (Zi2 N) (GC (Zlp N) (GC (Zog N) (GC (Zny N) Wi)))))
def Zi3(N:Nat):Sig:=Sig.of [.box Jh,.v Jc false] [] (λd=>Zhe N d.1 d.2.1)
def Zrc:Fn:=⟨Tryz.f175,λ |5=>[.opn 28]|_=>[],Zi3,λN=>[(37,Z2 N),(167,Zc4 N),(98,Zlm N)]⟩
theorem Zrd(N:Nat):GW 175 (Zi3 N):=GF Zrc N Tryz.func175 (GC (Zab N) (GC (Zgn N) (GC (Zqt N) Wi)))
def Zka(N:Nat):Sig:=Sig.of [.box Jy,.v Ja false,.v Jc false,.v Jt true] [] (λd=>Zie N d.1 d.2.1 d.2.2.1 d.2.2.2.1)
def Zuy:Fn:=⟨Tryz.f125,λ |1=>[.opn 16]|18=>[.nest 128 Js]|_=>[],Zka,λN=>[(174,Zjt N),(175,Zi3 N),(37,Z2 N),(97,Zl8 N)]⟩
theorem Zuz(N:Nat):GW 125 (Zka N):=GF Zuy N Tryz.func125 (GC (Zs7 N) (GC (Zrd N) (GC (Zab N) (GC (Ztc N) Wi))))
def Za5(N:Nat):Sig:=Sig.of [.mut Jk,.clos 178 0] [] (λd=>Zag N d.1)
theorem Zdr:CmpOk Tryz.prog 178 Jk WwA cfE:=by
  intro G x y us vs w hx hy h1 h2;obtain⟨_,_,rfl,a1,_,_,rfl,a2,a3⟩:=h1;obtain⟨_,_,rfl,b1,_,_,rfl,b2,b3⟩:=h2;simp only[Enc]at a1 a2 a3 b1 b2 b3;subst a1 a2 a3 b1 b2 b3;simp only[Xbd,Xby]
  go_enter Tryz.func178,Tryz.ntmps178
  go_wp2
  rw[sub_run (Wg1 hx) (Wg1 hy) (c:=cfE x y) rfl]
  go_wp2
  go_ret
  exact⟨rfl,two_grow _ _ _⟩
theorem Zds(N:Nat):GW 177 (Za5 N):=⟨WdX Tryz.func177 (show Wp7 Tryz.f177=true by kernel_rfl),good_sortF sortFE (e:=.prod Ja Jv) rfl (by decide) Tryz.isAgg187 Tryz.sizeOf187 (enters_of Tryz.func178 (by kernel_rfl) rfl) WxK Zdr N⟩
def Zi4(N:Nat):Sig:=Sig.of [.box Jy,.v Ja false] [] (λd=>Zdc N d.1 d.2.1)
def Zcg:Fn:=⟨Tryz.f126,λ |0=>[.opn 16]|3=>[.canon [0,1,4,28,29,30,31]]|4=>[.canon [0,1,4,6,28,29,30]]|5=>[.canon [0,1,4,6,7,28,29,30]]|6=>[.canon [0,1,4,7,8,28,29,30]]|7=>[.canon [0,1,4,7,8,28,29,30,48]]|8=>[.canon [0,1,4,28,29,30]]|9=>[.canon [0,1,4,28,29,30]]|10=>[.canon [0,1,4,28,29,30]]|13=>[.canon [0,1,4,75,76,77,78]]|14=>[.canon [0,1,4,10,75,76,77]]|15=>[.canon [0,1,4,10,75,76,77,83]]|16=>[.canon [0,1,4,75,76,77]]|17=>[.canon [0,1,4,75,76,77]]|100003=>[.canon [0,1,4,28,29,30]]|100013=>[.canon [0,1,4,75,76,77]]|_=>[],Zi4,λN=>[(176,Ziz N),(127,Zeh N),(177,Za5 N)]⟩
def Zoj(k4:Int)(t5:Int)(t6:Int)(b7:Int)(b8:Int)(b9:Int)(aN:Bool)(bA:Int)(cn:Int)(bO:Int)(dy:Int)(cS:Int)(aY:Int)(iw:Bool)(da:Int)(dD:Int)(dz:Int)(iy:Int)(bY:List Kc)(cK:List Int)(db:List Kc)(gW:List Kb)(iz:List Int)(dx:List Kc)(fR:List Y_KidRun)(iA:Nat)(fS:List Int)(fT:List Kb)(fU:List Kc)(cW:List Kk):St:=⟨[(0,vP 0 0),(1,vI k4),(4,vP 1 0),(28,vO 2),(29,vI t5),(30,vI t6)],[(0,.box [.val Ja b7,.val Ja b8,.val Ja b9,.val Jp aN,.own 3,.own 4,.own 5,.own 6,.own 7,.own 8]),(1,.box [.val Ja bA,.val Ja cn,.val Ja bO,.val Ja dy,.val Ja cS,.val Ja aY,.own 9,.own 10,.own 11,.own 12,.val Jp iw,.val Ja da,.val Ja dD,.val Ja dz,.val Ja iy]),(2,.arr Jv bY),(3,.arr Ja cK),(4,.arr Jv db),(5,.arr Jk gW),(6,.arr Ja iz),(7,.arr Jv dx),(8,.hole Jh fR iA 1),(9,.arr Ja fS),(10,.arr Jk fT),(11,.arr Jv fU),(12,.arr Js cW)],13⟩
def Zn8(k4:Int)(t5:Int)(b7:Int)(b8:Int)(b9:Int)(aN:Bool)(bA:Int)(cn:Int)(bO:Int)(dy:Int)(cS:Int)(aY:Int)(iw:Bool)(da:Int)(dD:Int)(dz:Int)(iy:Int)(bY:List Kc)(cK:List Int)(db:List Kc)(iz:List Int)(dx:List Kc)(fR:List Y_KidRun)(iA:Nat)(fS:List Int)(fT:List Kb)(fU:List Kc)(cW:List Kk)(wA:Int)(pe:Bool)(ko:List Kb):St:=⟨[(0,vP 0 0),(1,vI k4),(4,vP 1 0),(28,vO 2),(29,vI t5),(30,vI wA),(31,vB pe)],[(0,.box [.val Ja b7,.val Ja b8,.val Ja b9,.val Jp aN,.own 3,.own 4,.own 5,.own 6,.own 7,.own 8]),(1,.box [.val Ja bA,.val Ja cn,.val Ja bO,.val Ja dy,.val Ja cS,.val Ja aY,.own 9,.own 10,.own 11,.own 12,.val Jp iw,.val Ja da,.val Ja dD,.val Ja dz,.val Ja iy]),(2,.arr Jv bY),(3,.arr Ja cK),(4,.arr Jv db),(5,.arr Jk ko),(6,.arr Ja iz),(7,.arr Jv dx),(8,.hole Jh fR iA 1),(9,.arr Ja fS),(10,.arr Jk fT),(11,.arr Jv fU),(12,.arr Js cW)],13⟩
end
end Go.Sx
