/- Each Go function does what its Lean function says. -/
import Derived.Test.YtnkbflecplbceaaGreatT2
import Derived.Test.YtnkbflecplbceaaGreatProg
import Derived.Test.YtnkbflecplbceaaGreatLay
open Bool renaming and_eq_true→Xh
open List renaming cons_append→Xbj,nil_append→Xcb
namespace Go.Sx
noncomputable section
open Go.Proofs
abbrev Ja:Ty:=.int .i64
abbrev Jb:Ty:=.prod (.own Ja) (.prod (.own (.prod Ja Ja)) (.prod (.own (.prod Ja (.prod Ja Ja))) (.prod (.own Ja) (.prod (.own (.prod Ja Ja)) (.own (.prod Ja (.prod Ja (.prod Ja (.prod Ja (.prod Ja (.prod Ja (.prod (.own Ja) (.prod (.own (.prod Ja (.prod Ja Ja))) (.prod (.own (.prod Ja Ja)) (.prod (.own (.prod Ja (.prod Ja (.own Ja)))) (.prod (.bool) (.prod Ja (.prod Ja (.prod Ja Ja)))))))))))))))))))
abbrev Jc:Ty:=.slice (.prod Ja (.prod Ja (.prod Ja Ja)))
abbrev Jd:Ty:=.prod Ja (.prod Ja (.prod Ja (.prod Ja (.prod Ja (.prod (.own (.prod Ja Ja)) (.own Ja))))))
abbrev Je:Ty:=.slice (.prod Ja (.prod Ja Ja))
abbrev Jf:Ty:=.own (.prod Ja (.prod Ja (.prod Ja (.prod Ja (.slice Ja)))))
abbrev Jg:Ty:=.prod Ja (.prod Ja (.prod Ja (.prod Ja (.prod Ja (.prod Ja (.prod Ja (.prod Ja (.prod Ja (.prod Ja (.prod (.bool) (.prod (.own Ja) (.prod (.own (.prod Ja Ja)) (.prod (.own (.prod Ja Ja)) (.prod Jf (.prod (.own (.prod Ja (.prod Ja Ja))) (.prod (.own Ja) (.prod (.bool) (.prod (.prod Ja (.prod Ja (.prod Ja Ja))) (.prod Jd (.prod Ja (.prod Ja (.prod Ja (.prod (.bool) Jb)))))))))))))))))))))))
abbrev Jh:Ty:=.prod Ja (.prod Ja (.prod Ja (.prod Ja (.prod Ja (.prod Ja (.prod (.own Ja) (.prod (.own (.prod Ja (.prod Ja Ja))) (.prod (.own (.prod Ja Ja)) (.prod (.own (.prod Ja (.prod Ja (.own Ja)))) (.prod (.bool) (.prod Ja (.prod Ja (.prod Ja Ja)))))))))))))
abbrev Ji:Ty:=.prod Ja (.prod Ja (.slice (.prod Ja Ja)))
abbrev Jj:Ty:=.prod Ja (.prod Ja Ja)
abbrev Jk:Ty:=.slice Ja
abbrev Jl:Ty:=.prod Jc (.slice Jc)
abbrev Jm:Ty:=.prod (.slice (.int .u8)) (.prod Ja Ja)
abbrev Jn:Ty:=.slice (.prod Ja Ja)
abbrev Jo:Ty:=.prod (.own (.prod Ja Jg)) (.own Ji)
abbrev Jp:Ty:=.bool
abbrev Jq:Ty:=.prod (.own Ja) Ja
abbrev Jr:Ty:=.slice (TY_Root)
abbrev Js:Ty:=.prod Ja (.prod Ja (.prod (.prod Ja (.own Jj)) (.prod Jq (.prod (.own Jj) Jo))))
abbrev Jt:Ty:=.slice (.int .u8)
abbrev Ju:Ty:=.prod Ja Ja
abbrev Jv:Ty:=.prod Ja Jj
abbrev Jw:Ty:=.prod (.prod Jk (.prod Jk Ja)) (.prod (.slice Jl) Je)
abbrev Jx:Ty:=.prod Ja (.prod Ja (.prod Ja (.prod Ja (.prod Jn Jk))))
abbrev Jy:Ty:=.prod Ja (.prod Ja (.prod Ja (.prod Jp Jb)))
abbrev Jz:Ty:=.prod Ja Jg
abbrev Jaa:Ty:=.own Ja
abbrev Jab:Ty:=.prod Ja Je
abbrev Jac:Ty:=.slice (TY_KidRun)
abbrev Jad:Ty:=.prod Ja (.prod Ja (.prod Ja Jk))
abbrev Jae:Ty:=.slice Jl
abbrev Jaf:Ty:=.prod Ja (.own Jj)
abbrev Jag:Ty:=.prod Ja (.prod Ja Jaa)
abbrev Jah:Ty:=.prod Jk Ja
abbrev Jai:Ty:=.prod Ja (.prod Ja (.prod Ja Jv))
set_option linter.unusedVariables false
set_option linter.unusedSimpArgs false
def tab:Tab:=[(3,⟨.int .i64,false,.basic⟩),(4,⟨.bool,false,.basic⟩),(5,⟨.int .u8,false,.basic⟩),(9,⟨.str,false,.basic⟩),(22,⟨.slice (.int .u8),false,.slice 5⟩),(24,⟨.slice Ja,false,.slice 3⟩),(26,⟨.prod Jk Jah,true,.struct [(0,24),(1,24),(2,3)]⟩),(27,⟨.slice Jl,false,.slice 55⟩),(28,⟨.slice Jj,false,.slice 90⟩),(30,⟨.prod (.prod Jk Jah) (.prod Jae Je),true,.struct [(0,26),(3,27),(4,28)]⟩),(32,⟨.slice Jj,false,.slice 95⟩),(34,⟨.prod Ja Je,true,.struct [(0,3),(1,32)]⟩),(36,⟨.prod Jk Ja,true,.struct [(0,24),(1,3)]⟩),(37,⟨.slice Jj,false,.slice 199⟩),(38,⟨.slice (TY_Root),false,.slice 75⟩),(39,⟨.slice Ji,false,.slice 194⟩),(41,⟨TY_World,true,.struct [(0,3),(1,3),(2,34),(4,36),(6,37),(7,38),(8,39)]⟩),(48,⟨.prod Ja (.prod Ja (.prod Ja Jv)),true,.struct [(0,3),(1,3),(2,3),(3,3),(4,3),(5,3),(6,3)]⟩),(52,⟨.slice Jv,false,.slice 81⟩),(53,⟨.slice Jc,false,.slice 84⟩),(55,⟨.prod Jc (.slice Jc),true,.struct [(0,52),(1,53)]⟩),(63,⟨.slice Ju,false,.slice 180⟩),(64,⟨.slice (.prod Ja Jad),false,.slice 158⟩),(65,⟨.slice Jj,false,.slice 187⟩),(67,⟨.prod Ja Jj,true,.struct [(0,3),(1,3),(2,3),(3,3)]⟩),(69,⟨.prod Ja Jx,true,.struct [(0,3),(1,3),(2,3),(3,3),(4,3),(5,63),(6,24)]⟩),(70,⟨.slice Jj,false,.slice 168⟩),(71,⟨.slice (TY_KidRun),false,.slice 166⟩),(73,⟨TY_Family,true,.struct [(0,3),(1,3),(2,3),(3,4),(4,24),(5,63),(6,70),(7,24),(8,63),(9,71)]⟩),(75,⟨TY_Root,true,.struct [(0,3),(1,3),(2,3),(3,3),(4,3),(5,3),(6,3),(7,3),(8,3),(9,3),(10,3),(11,4),(12,24),(13,63),(14,63),(15,64),(16,65),(17,24),(18,4),(19,67),(23,69),(30,73)]⟩),(81,⟨.prod Ja Jj,true,.struct [(0,3),(1,3),(2,3),(3,3)]⟩),(84,⟨.slice Jv,true,.struct [(0,52)]⟩),(90,⟨.prod Ja Ju,true,.struct [(0,3),(1,3),(2,3)]⟩),(95,⟨.prod Ja Ju,true,.struct [(0,3),(1,3),(2,3)]⟩),(117,⟨.prod Jt Ju,true,.struct [(0,22),(1,3),(2,3)]⟩),(150,⟨.bool,true,.arr 8 4⟩),(158,⟨.prod Ja Jad,true,.struct [(0,3),(1,3),(2,3),(3,3),(4,24)]⟩),(164,⟨.slice (.prod Ja (.prod Ja Jk)),false,.slice 204⟩),(166,⟨TY_KidRun,true,.struct [(0,3),(1,3),(2,3),(3,3),(4,3),(5,3),(6,24),(7,70),(8,63),(9,164),(10,4),(11,67)]⟩),(168,⟨.prod Ja Ju,true,.struct [(0,3),(1,3),(2,3)]⟩),(180,⟨.prod Ja Ja,true,.struct [(0,3),(1,3)]⟩),(187,⟨.prod Ja Ju,true,.struct [(0,3),(1,3),(2,3)]⟩),(194,⟨.prod Ja (.prod Ja Jn),true,.struct [(0,3),(1,3),(2,63)]⟩),(199,⟨.prod Ja Ju,true,.struct [(0,3),(1,3),(2,3)]⟩),(204,⟨.prod Ja (.prod Ja Jk),true,.struct [(0,3),(1,3),(2,24)]⟩)]
theorem mixedOk:Tryz.prog.follows .mixedOrders=true:=by kernel_rfl
theorem tabOk:Wai Tryz.prog tab:=WwG (show Wmj Tryz.prog tab tab=true by kernel_rfl)
def LM(x:Fn)(N:Nat){R:Type}(i k n:Nat)(st:St)(K:Ex->St->Option R):Option R:=lpM tab (x.c N) x.a N x.F i k n st K
def CF(x:Fn)(N:Nat)(p:List Nat):Ex->St->Option (Qs (x.s N)):=cxF tab (x.c N) x.a N (x.s N) x.F p
def CL(x:Fn)(N:Nat){R:Type}(i k:Nat)(p:List Nat)(n:Nat)(K:Ex->St->Option R):Ex->St->Option R:=cxL tab (x.c N) x.a N x.F i k p n K
def DN(x:Fn)(N:Nat)(d:Wfp (x.s N).ps):Option (Qs (x.s N)):=den (R:=Qs (x.s N)) tab (x.c N) x.a N (x.s N) x.F d some
def GW(k:FuncId)(s:Sig):Prop:=Wga Tryz.prog k/\Good Tryz.prog k s
theorem GC{k:FuncId}{s:Sig}{Γ:Ctx}(h:GW k s)(hc:Wfe Tryz.prog Γ):Wfe Tryz.prog ((k,s)::Γ):=Wtk h.2 h.1 hc
theorem GF(x:Fn){k:FuncId}(N:Nat)(hf:Tryz.prog.funcs[k]?=some x.F)(hc:Wfe Tryz.prog (x.c N))(h:∀d,DN x N d=(x.s N).run d:=by intro d;kernel_rfl)(aM:(Wp7 x.F&&WnU x.F (x.s N).ps)=true:=by kernel_rfl):GW k (x.s N):=
  ⟨Wdz hf (Xh .. ▸aM).1,Wr6 mixedOk tabOk hc hf (Xh .. ▸aM).2 (λd _ e=>⟨N,(h d).trans e⟩)⟩
def Zo1(N:Nat):Sig:=Sig.of [.v Jt false] [.v Jp false] (λd=>Zr4 N d.1)
def Z1p:Fn:=⟨Tryz.f9,Wz,Zo1,Wa5⟩
theorem Z1q(N:Nat):GW 9 (Zo1 N):=GF Z1p N Tryz.func9 Wa
def Zn1(N:Nat):Sig:=Sig.of [.v Jt false] [.box Jm] (λd=>Zi2 N d.1)
def Zlu:Fn:=⟨Tryz.f32,λ |3=>[.canon [0,3,4,15]]|4=>[.canon [0,3,4]]|5=>[.canon [0,3,4]]|100003=>[.canon [0,3,4]]|_=>[],Zn1,Wa5⟩
def Zvl(aa:List Int)(h3:Int)(i4:Int):St:=⟨[(0,vV Jt aa),(3,vI h3),(4,vI i4)],[],0⟩
def Zty(aa:List Int)(h5:Int)(i6:Int)(t7:Bool):St:=⟨[(0,vV Jt aa),(3,vI h5),(4,vI i6),(15,vB t7)],[],0⟩
theorem Zvm(N:Nat){R:Type}(K:Ex->St->Option R){aa:List Int}{K0:Int->Int->Bool->Option R}(h0:K0= λh5 i6 t7=>K (.exit 0) (Zty aa h5 i6 t7))(n:Nat)(h3:Int)(i4:Int):Zcl N aa K0 n h3 i4=LM Zlu N 0 100003 n (Zvl aa h3 i4) K:=by
  subst h0
  induction n generalizing h3 i4 with
  |zero=>kernel_rfl
  |succ n ih=>rw[Zcl];simp only[ih];kernel_rfl
theorem Z0m(N:Nat)(ac:List Int):DN Zlu N (ac,())=Zi2 N ac:=by
  conv=>rhs;rw[Zi2];simp(disch:=exact id (by kernel_rfl)) only[Zvm (R:=Unit×Ku) N (CF Zlu N [1,1,0,1,0])]
  kernel_rfl
theorem Z0n(N:Nat):GW 32 (Zn1 N):=GF Zlu N Tryz.func32 Wa (λd=>Z0m N d.1)
def Zne(N:Nat):Sig:=Sig.of [.v Jt false,.v Ja false] [.v Ja false] (λd=>Zmh N d.1 d.2.1)
def Zzj:Fn:=⟨Tryz.f34,Wz,Zne,Wa5⟩
theorem Zzk(N:Nat):GW 34 (Zne N):=GF Zzj N Tryz.func34 Wa
def Znf(N:Nat):Sig:=Sig.of [.box Jm] [.v Ja false] (λd=>Zfh N d.1)
def Zzl:Fn:=⟨Tryz.f108,Wz,Znf,Wa5⟩
theorem Zzm(N:Nat):GW 108 (Znf N):=GF Zzl N Tryz.func108 Wa
def Z9(N:Nat):Sig:=Sig.of [.box Jm,.v Ja false] [.v Ja false] (λd=>Zb N d.1 d.2.1)
def Zx1:Fn:=⟨Tryz.f70,Wz,Z9,λN=>[(108,Znf N)]⟩
theorem Zag(N:Nat):GW 70 (Z9 N):=GF Zx1 N Tryz.func70 (GC (Zzm N) Wa)
def Zb2(N:Nat):Sig:=Sig.of [.box Jm,.v Ja false] [.v Jp false] (λd=>Zt N d.1 d.2.1)
def Zzn:Fn:=⟨Tryz.f50,Wz,Zb2,λN=>[(70,Z9 N)]⟩
theorem Zc9(N:Nat):GW 50 (Zb2 N):=GF Zzn N Tryz.func50 (GC (Zag N) Wa)
def Zgb(N:Nat):Sig:=Sig.of [.box Jm,.v Jk false] [.v Ja false] (λd=>Zbs N d.1 d.2.1)
def Zvn:Fn:=⟨Tryz.f126,Wz,Zgb,λN=>[(70,Z9 N)]⟩
theorem Zla(N:Nat):GW 126 (Zgb N):=GF Zvn N Tryz.func126 (GC (Zag N) Wa)
def Zid(N:Nat):Sig:=Sig.of [.box Jm] [.v Ja false] (λd=>Zgq N d.1)
def Zzo:Fn:=⟨Tryz.f85,Wz,Zid,λN=>[(50,Zb2 N),(126,Zgb N),(70,Z9 N)]⟩
theorem Zng(N:Nat):GW 85 (Zid N):=GF Zzo N Tryz.func85 (GC (Zc9 N) (GC (Zla N) (GC (Zag N) Wa)))
def Zkg(N:Nat):Sig:=Sig.of [.box Jm] [.v Jaa false] (λd=>Ze4 N d.1)
def Zhr:Fn:=⟨Tryz.f84,λ |3=>[.canon [0,3,4,7]]|4=>[.canon [0,3,4]]|5=>[.canon [0,3,4]]|100003=>[.canon [0,3,4]]|_=>[],Zkg,λN=>[(85,Zid N)]⟩
def Zpe(i2:Int)(b3:List Int×Int×Int)(l4:List Int):St:=⟨[(0,vP 0 0),(3,vO 1),(4,vI i2)],[(0,.box [.val Jt b3.1,.val Ja b3.2.1,.val Ja b3.2.2]),(1,.arr Ja l4)],2⟩
def Zo2(i6:Int)(t7:Bool)(b8:List Int×Int×Int)(l9:List Int):St:=⟨[(0,vP 0 0),(3,vO 1),(4,vI i6),(7,vB t7)],[(0,.box [.val Jt b8.1,.val Ja b8.2.1,.val Ja b8.2.2]),(1,.arr Ja l9)],2⟩
theorem Zpf(N:Nat){R:Type}(K:Ex->St->Option R){K0:Int->Bool->Kf->Ki->Option R}(h0:K0= λi6 t7 b8 l9=>K (.exit 0) (Zo2 i6 t7 b8 l9))(n:Nat)(i2:Int)(b3:List Int×Int×Int)(l4:List Int):Zch N K0 n i2 b3 l4=LM Zhr N 0 100003 n (Zpe i2 b3 l4) K:=by
  subst h0
  induction n generalizing i2 b3 l4 with
  |zero=>kernel_rfl
  |succ n ih=>rw[Zch];simp only[ih];kernel_rfl
theorem Ztz(N:Nat)(c1:List Int×Int×Int):DN Zhr N (c1,())=Ze4 N c1:=by
  conv=>rhs;rw[Ze4];simp(disch:=exact id (by kernel_rfl)) only[Zpf (R:=Ku×Kw) N (CF Zhr N [1,1,0,1,0])]
  kernel_rfl
theorem Zt0(N:Nat):GW 84 (Zkg N):=GF Zhr N Tryz.func84 (GC (Zng N) Wa) (λd=>Ztz N d.1)
def Zis(N:Nat):Sig:=Sig.of [.box Jm] [.v (.prod Jaa Jq) true] (λd=>Zet N d.1)
def Zit:Fn:=⟨Tryz.f53,λ |3=>[.canon [0,2,3,4,12]]|4=>[.canon [0,2,3,4]]|5=>[.canon [0,2,3,4,5]]|6=>[.canon [0,2,3,4,5,16]]|7=>[.canon [0,2,3,4,5]]|8=>[.canon [0,2,3,4]]|100003=>[.adoptC 3 1 Ja,.canon [0,2,3,4]]|_=>[],Zis,λN=>[(84,Zkg N),(85,Zid N),(50,Zb2 N)]⟩
def Zqm(i4:Int)(b5:List Int×Int×Int)(b7:Int)(l8:List Int)(l9:List Int):St:=⟨[(0,vP 0 0),(2,vP 1 0),(3,vP 2 0),(4,vI i4)],[(0,.box [.val Jt b5.1,.val Ja b5.2.1,.val Ja b5.2.2]),(1,.box [.nils,.nils,.val Ja (0:Int)]),(2,.box [.own 3,.own 4,.val Ja b7]),(3,.arr Ja l8),(4,.arr Ja l9)],5⟩
def Zp0(b7:Int)(l8:List Int)(uX:Int)(bP:Bool)(aC:List Int×Int×Int)(cr:List Int):St:=⟨[(0,vP 0 0),(2,vP 1 0),(3,vP 2 0),(4,vI uX),(12,vB bP)],[(0,.box [.val Jt aC.1,.val Ja aC.2.1,.val Ja aC.2.2]),(1,.box [.nils,.nils,.val Ja (0:Int)]),(2,.box [.own 3,.own 4,.val Ja b7]),(3,.arr Ja l8),(4,.arr Ja cr)],5⟩
theorem Zqn(N:Nat){R:Type}(K:Ex->St->Option R){b7:Int}{l8:List Int}{K0:Int->Bool->Kf->Ki->Option R}(h0:K0= λuX bP aC cr=>K (.exit 0) (Zp0 b7 l8 uX bP aC cr))(n:Nat)(i4:Int)(b5:List Int×Int×Int)(l9:List Int):Zcf N b7 l8 K0 n i4 b5 l9=LM Zit N 0 100003 n (Zqm i4 b5 b7 l8 l9) K:=by
  subst h0
  induction n generalizing i4 b5 l9 with
  |zero=>kernel_rfl
  |succ n ih=>rw[Zcf];simp only[ih];kernel_rfl
theorem Zw5(N:Nat)(c1:List Int×Int×Int):DN Zit N (c1,())=Zet N c1:=by
  conv=>rhs;rw[Zet];simp(disch:=exact id (by kernel_rfl)) only[Zqn (R:=Ku×(Kg×Unit)) N (CF Zit N [1,1,0,1,0])]
  kernel_rfl
theorem Zos(N:Nat):GW 53 (Zis N):=GF Zit N Tryz.func53 (GC (Zt0 N) (GC (Zng N) (GC (Zc9 N) Wa))) (λd=>Zw5 N d.1)
def Zlb(N:Nat):Sig:=Sig.of [.box Jm] [.v Ja false] (λd=>Za N d.1)
def Zvo:Fn:=⟨Tryz.f161,Wz,Zlb,λN=>[(70,Z9 N)]⟩
theorem Zvp(N:Nat):GW 161 (Zlb N):=GF Zvo N Tryz.func161 (GC (Zag N) Wa)
def Zkh(N:Nat):Sig:=Sig.of [.box Jm] [.v Ja false] (λd=>Zb0 N d.1)
def Zt1:Fn:=⟨Tryz.f162,Wz,Zkh,λN=>[(50,Zb2 N),(70,Z9 N)]⟩
theorem Zt2(N:Nat):GW 162 (Zkh N):=GF Zt1 N Tryz.func162 (GC (Zc9 N) (GC (Zag N) Wa))
def Zlc(N:Nat):Sig:=Sig.of [.box Jm] [.v Ja false] (λd=>Zj N d.1)
def Zvq:Fn:=⟨Tryz.f163,Wz,Zlc,λN=>[(50,Zb2 N),(70,Z9 N),(126,Zgb N)]⟩
theorem Zvr(N:Nat):GW 163 (Zlc N):=GF Zvq N Tryz.func163 (GC (Zc9 N) (GC (Zag N) (GC (Zla N) Wa)))
def Zjl(N:Nat):Sig:=Sig.of [.box Jm,.v Ja false] [.v Jv true] (λd=>Zh N d.1 d.2.1)
def Zx2:Fn:=⟨Tryz.f124,Wz,Zjl,λN=>[(161,Zlb N),(85,Zid N),(162,Zkh N),(70,Z9 N),(163,Zlc N)]⟩
theorem Zo3(N:Nat):GW 124 (Zjl N):=GF Zx2 N Tryz.func124 (GC (Zvp N) (GC (Zng N) (GC (Zt2 N) (GC (Zag N) (GC (Zvr N) Wa)))))
def Zkr(N m:Nat):Sig:=Sig.of [.box Jm,.v Ja false,.v Ja false,.v Jp false] [.v (.own Jv) false] (λd=>Zea N m d.1 d.2.1 d.2.2.1 d.2.2.2.1)
def Zqo(N:Nat):Sig:=Zkr N N
def Zlv(m:Nat):Fn:=⟨Tryz.f82,λ |3=>[.canon [0,1,2,3,9,10,27]]|4=>[.canon [0,1,2,3,9,10]]|5=>[.canon [0,1,2,3,9,10,11]]|6=>[.canon [0,1,2,3,9,10]]|7=>[.canon [0,1,2,3,9,10,11,40]]|8=>[.canon [0,1,2,3,9,10]]|9=>[.canon [0,1,2,3,9,10,11,48]]|10=>[.canon [0,1,2,3,9,10]]|11=>[.canon [0,1,2,3,9,10,11,56]]|12=>[.canon [0,1,2,3,9,10]]|13=>[.canon [0,1,2,3,9,10,11,67]]|14=>[.canon [0,1,2,3,9,10,12]]|15=>[.canon [0,1,2,3,9,10,12]]|16=>[.canon [0,1,2,3,9,10]]|17=>[.canon [0,1,2,3,9,10,100]]|18=>[.canon [0,1,2,3,9,10]]|19=>[.canon [0,1,2,3,9,10]]|20=>[.canon [0,1,2,3,9,10,11,109]]|21=>[.canon [0,1,2,3,9,10,13]]|22=>[.canon [0,1,2,3,9,10,13,14]]|23=>[.canon [0,1,2,3,9,10,13,14]]|24=>[.canon [0,1,2,3,9,10,13]]|25=>[.canon [0,1,2,3,9,10]]|26=>[.canon [0,1,2,3,9,10,134]]|27=>[.canon [0,1,2,3,9,10]]|28=>[.canon [0,1,2,3,9,10,145]]|29=>[.canon [0,1,2,3,9,10]]|100003=>[.canon [0,1,2,3,9,10]]|_=>[],λN=>Zkr N (m+1),λN=>[(70,Z9 N),(124,Zjl N),(82,Zkr N m),(50,Zb2 N)]⟩
def Zvs(ai:Int)(ak:Int)(an:Bool)(n9:Int)(aS:List Int×Int×Int)(am:List Ka):St:=⟨[(0,vP 0 0),(1,vI ai),(2,vI ak),(3,vB an),(9,vO 1),(10,vI n9)],[(0,.box [.val Jt aS.1,.val Ja aS.2.1,.val Ja aS.2.2]),(1,.arr Jv am)],2⟩
def Zt3(ai:Int)(ak:Int)(an:Bool)(uY:Int)(uZ:Bool)(su:List Int×Int×Int)(u0:List Ka):St:=⟨[(0,vP 0 0),(1,vI ai),(2,vI ak),(3,vB an),(9,vO 1),(10,vI uY),(27,vB uZ)],[(0,.box [.val Jt su.1,.val Ja su.2.1,.val Ja su.2.2]),(1,.arr Jv u0)],2⟩
theorem Zvt(N m:Nat){R:Type}(K:Ex->St->Option R){ai:Int}{ak:Int}{an:Bool}{K0:Int->Bool->Kf->Kz->Option R}(h0:K0= λuY uZ su u0=>K (.exit 0) (Zt3 ai ak an uY uZ su u0))(n:Nat)(n9:Int)(aS:List Int×Int×Int)(am:List Ka):Zc N (Zea N m) ai ak an K0 n n9 aS am=LM (Zlv m) N 0 100003 n (Zvs ai ak an n9 aS am) K:=by
  subst h0
  induction n generalizing n9 aS am with
  |zero=>kernel_rfl
  |succ n ih=>rw[Zc];simp only[ih];kernel_rfl
theorem Z0o(N m:Nat)(c1:List Int×Int×Int)(bT:Int)(fy:Int)(jg:Bool):DN (Zlv m) N (c1,bT,fy,jg,())=Zea N (m+1) c1 bT fy jg:=by
  conv=>rhs;rw[Zea];simp(disch:=exact id (by kernel_rfl)) only[Zvt (R:=Ku×(Kz×Unit)) N m (CF (Zlv m) N [1,1,0,1,0])]
  kernel_rfl
theorem Zpt(N:Nat):∀m,GW 82 (Zkr N m)
  |0=>⟨Wdz Tryz.func82 (show Wp7 Tryz.f82=true by kernel_rfl),λd o h=>nomatch (show none=some o from h)⟩
  |m+1=>GF (Zlv m) N Tryz.func82 (GC (Zag N) (GC (Zo3 N) (GC (Zpt N m) (GC (Zc9 N) Wa)))) (λd=>Z0o N m d.1 d.2.1 d.2.2.1 d.2.2.2.1)
theorem Z0p(N:Nat):GW 82 (Zqo N):=Zpt N N
def Zks(N:Nat):Sig:=Sig.of [.box Jm,.v Jp false] [.v (.prod (.own Jv) (.own Jc)) true] (λd=>Zdk N d.1 d.2.1)
def Zkt:Fn:=⟨Tryz.f49,λ |7=>[.canon [0,4,7,8,38]]|8=>[.canon [0,4,7,8]]|9=>[.canon [0,4,7,8]]|100007=>[.adoptC 7 1 Jc,.canon [0,4,7,8]]|_=>[],Zks,λN=>[(70,Z9 N),(82,Zqo N)]⟩
def Zt4(iK:Int)(bc:List Int×Int×Int)(bA:List Ka)(aH:List Kz):St:=⟨[(0,vP 0 0),(4,vP 1 0),(7,vP 2 0),(8,vI iK)],[(0,.box [.val Jt bc.1,.val Ja bc.2.1,.val Ja bc.2.2]),(1,.box [.nils,.nils]),(2,.box [.own 3,.own 4]),(3,.arr Jv bA),(4,.arr Jc aH)],5⟩
def Zr5(bA:List Ka)(u3:Int)(dE:Bool)(bR:List Int×Int×Int)(cq:List Kz):St:=⟨[(0,vP 0 0),(4,vP 1 0),(7,vP 2 0),(8,vI u3),(38,vB dE)],[(0,.box [.val Jt bR.1,.val Ja bR.2.1,.val Ja bR.2.2]),(1,.box [.nils,.nils]),(2,.box [.own 3,.own 4]),(3,.arr Jv bA),(4,.arr Jc cq)],5⟩
theorem Zt5(N:Nat){R:Type}(K:Ex->St->Option R){bA:List Ka}{K0:Int->Bool->Kf->(List Kz)->Option R}(h0:K0= λu3 dE bR cq=>K (.exit 0) (Zr5 bA u3 dE bR cq))(n:Nat)(iK:Int)(bc:List Int×Int×Int)(aH:List Kz):Ze5 N bA K0 n iK bc aH=LM Zkt N 0 100007 n (Zt4 iK bc bA aH) K:=by
  subst h0
  induction n generalizing iK bc aH with
  |zero=>kernel_rfl
  |succ n ih=>rw[Ze5];simp only[ih];kernel_rfl
theorem Zzp(N:Nat)(c1:List Int×Int×Int)(fG:Bool):DN Zkt N (c1,fG,())=Zdk N c1 fG:=by
  conv=>rhs;rw[Zdk];simp(disch:=exact id (by kernel_rfl)) only[Zt5 (R:=Ku×(Ko×Unit)) N (CF Zkt N [1,1,1,1,1,0,1,0])]
  kernel_rfl
theorem Zpu(N:Nat):GW 49 (Zks N):=GF Zkt N Tryz.func49 (GC (Zag N) (GC (Z0p N) Wa)) (λd=>Zzp N d.1 d.2.1)
def Zmt(N:Nat):Sig:=Sig.of [.box Jm,.v Ja false,.v Ja false] [.v (.own Jj) false] (λd=>Zfq N d.1 d.2.1 d.2.2.1)
def Zjm:Fn:=⟨Tryz.f107,λ |4=>[.canon [0,1,2,7,8,9,14]]|5=>[.canon [0,1,2,7,8,9]]|6=>[.canon [0,1,2,7,8,9,18]]|7=>[.canon [0,1,2,7,8,9]]|8=>[.canon [0,1,2,7,8,9,10]]|9=>[.canon [0,1,2,7,8,9,10,25]]|10=>[.canon [0,1,2,7,8,9,10]]|11=>[.canon [0,1,2,7,8,9,10]]|12=>[.canon [0,1,2,7,8,9,10,31]]|13=>[.canon [0,1,2,7,8,9,10]]|14=>[.canon [0,1,2,7,8,9,10,35]]|15=>[.canon [0,1,2,7,8,9,10]]|16=>[.canon [0,1,2,7,8,9]]|100004=>[.canon [0,1,2,7,8,9]]|_=>[],Zmt,λN=>[(50,Zb2 N),(70,Z9 N)]⟩
def Zr6(n4:Int)(aA:Int)(bK:Int)(i7:Int)(b8:List Int×Int×Int)(l9:List Kb):St:=⟨[(0,vP 0 0),(1,vI n4),(2,vI aA),(7,vO 1),(8,vI bK),(9,vI i7)],[(0,.box [.val Jt b8.1,.val Ja b8.2.1,.val Ja b8.2.2]),(1,.arr Jj l9)],2⟩
def Zqp(n4:Int)(aA:Int)(kw:Int)(u4:Int)(pW:Bool)(eB:List Int×Int×Int)(fF:List Kb):St:=⟨[(0,vP 0 0),(1,vI n4),(2,vI aA),(7,vO 1),(8,vI kw),(9,vI u4),(14,vB pW)],[(0,.box [.val Jt eB.1,.val Ja eB.2.1,.val Ja eB.2.2]),(1,.arr Jj fF)],2⟩
theorem Zr7(N:Nat){R:Type}(K:Ex->St->Option R){n4:Int}{aA:Int}{K0:Int->Int->Bool->Kf->Kt->Option R}(h0:K0= λkw u4 pW eB fF=>K (.exit 0) (Zqp n4 aA kw u4 pW eB fF))(n:Nat)(bK:Int)(i7:Int)(b8:List Int×Int×Int)(l9:List Kb):Zz N n4 aA K0 n bK i7 b8 l9=LM Zjm N 0 100004 n (Zr6 n4 aA bK i7 b8 l9) K:=by
  subst h0
  induction n generalizing bK i7 b8 l9 with
  |zero=>kernel_rfl
  |succ n ih=>rw[Zz];simp only[ih];kernel_rfl
theorem Zx3(N:Nat)(c1:List Int×Int×Int)(n2:Int)(cR:Int):DN Zjm N (c1,n2,cR,())=Zfq N c1 n2 cR:=by
  conv=>rhs;rw[Zfq];simp(disch:=exact id (by kernel_rfl)) only[Zr7 (R:=Ku×Kad) N (CF Zjm N [1,1,1,0,1,0])]
  kernel_rfl
theorem Zx4(N:Nat):GW 107 (Zmt N):=GF Zjm N Tryz.func107 (GC (Zc9 N) (GC (Zag N) Wa)) (λd=>Zx3 N d.1 d.2.1 d.2.2.1)
def Zld(N:Nat):Sig:=Sig.of [.box Jm,.v Ja false,.v Ja false] [.v (.prod (.prod Jaa Jq) (.prod (.own Jl) (.own Jj))) true] (λd=>Zfr N d.1 d.2.1 d.2.2.1)
def Zie:Fn:=⟨Tryz.f69,λ |4=>[.canon [0,1,2,6,7,8,9,18]]|5=>[.canon [0,1,2,6,7,8,9]]|6=>[.canon [0,1,2,6,7,8,9]]|100004=>[.adoptC 7 3 Jl,.canon [0,1,2,6,7,8,9]]|_=>[],Zld,λN=>[(53,Zis N),(70,Z9 N),(49,Zks N),(50,Zb2 N),(107,Zmt N)]⟩
def Zp1(dG:Int)(bs:Int)(n8:Int)(i9:Int)(aS:List Int×Int×Int)(cj:Int)(aH:List Int)(aX:List Int)(bk:List Ko):St:=⟨[(0,vP 0 0),(1,vI dG),(2,vI bs),(6,vP 1 0),(7,vP 2 0),(8,vI n8),(9,vI i9)],[(0,.box [.val Jt aS.1,.val Ja aS.2.1,.val Ja aS.2.2]),(1,.box [.nils,.nils,.val Ja (0:Int),.nils,.nils]),(2,.box [.own 3,.own 4,.val Ja cj,.own 5,.nils]),(3,.arr Ja aH),(4,.arr Ja aX),(5,.arr Jl bk)],6⟩
def Zpg(dG:Int)(bs:Int)(n8:Int)(cj:Int)(aH:List Int)(aX:List Int)(tq:Int)(t25:Bool)(eA:List Int×Int×Int)(da:List Ko):St:=⟨[(0,vP 0 0),(1,vI dG),(2,vI bs),(6,vP 1 0),(7,vP 2 0),(8,vI n8),(9,vI tq),(18,vB t25)],[(0,.box [.val Jt eA.1,.val Ja eA.2.1,.val Ja eA.2.2]),(1,.box [.nils,.nils,.val Ja (0:Int),.nils,.nils]),(2,.box [.own 3,.own 4,.val Ja cj,.own 5,.nils]),(3,.arr Ja aH),(4,.arr Ja aX),(5,.arr Jl da)],6⟩
theorem Zp2(N:Nat){R:Type}(K:Ex->St->Option R){dG:Int}{bs:Int}{n8:Int}{cj:Int}{aH:List Int}{aX:List Int}{K0:Int->Bool->Kf->(List Ko)->Option R}(h0:K0= λtq t25 eA da=>K (.exit 0) (Zpg dG bs n8 cj aH aX tq t25 eA da))(n:Nat)(i9:Int)(aS:List Int×Int×Int)(bk:List Ko):Zbm N dG bs n8 cj aH aX K0 n i9 aS bk=LM Zie N 0 100004 n (Zp1 dG bs n8 i9 aS cj aH aX bk) K:=by
  subst h0
  induction n generalizing i9 aS bk with
  |zero=>kernel_rfl
  |succ n ih=>rw[Zbm];simp only[ih];kernel_rfl
theorem Zvu(N:Nat)(c1:List Int×Int×Int)(lZ:Int)(cR:Int):DN Zie N (c1,lZ,cR,())=Zfr N c1 lZ cR:=by
  conv=>rhs;rw[Zfr];simp(disch:=exact id (by kernel_rfl)) only[Zp2 (R:=Ku×(Kaa×Unit)) N (CF Zie N [1,1,1,0,1,0])]
  kernel_rfl
theorem Zvv(N:Nat):GW 69 (Zld N):=GF Zie N Tryz.func69 (GC (Zos N) (GC (Zag N) (GC (Zpu N) (GC (Zc9 N) (GC (Zx4 N) Wa))))) (λd=>Zvu N d.1 d.2.1 d.2.2.1)
def Zjn(N:Nat):Sig:=Sig.of [.box Jm] [.v (.prod Jaa Jq) true] (λd=>Zh8 N d.1)
def Zr8:Fn:=⟨Tryz.f54,Wz,Zjn,λN=>[(53,Zis N),(70,Z9 N)]⟩
theorem Zr9(N:Nat):GW 54 (Zjn N):=GF Zr8 N Tryz.func54 (GC (Zos N) (GC (Zag N) Wa))
def Zn2(N:Nat):Sig:=Sig.of [.box Jm] [.v Jv true] (λd=>Znc N d.1)
def Z0q:Fn:=⟨Tryz.f125,Wz,Zn2,λN=>[(70,Z9 N),(124,Zjl N),(126,Zgb N)]⟩
theorem Z0r(N:Nat):GW 125 (Zn2 N):=GF Z0q N Tryz.func125 (GC (Zag N) (GC (Zo3 N) (GC (Zla N) Wa)))
def Znh(N:Nat):Sig:=Sig.of [.box Jm,.v Jc false] [.v (.own Jv) false] (λd=>Zgr N d.1 d.2.1)
def Zku:Fn:=⟨Tryz.f83,λ |12=>[.view 49,.view 45]|14=>[.canon [0,5,58]]|15=>[.canon [0,5]]|100014=>[.canon [0,5]]|_=>[],Znh,λN=>[(70,Z9 N),(125,Zn2 N)]⟩
def Zt6(b6:List Int×Int×Int)(l7:List Ka):St:=⟨[(0,vP 0 0),(5,vO 1)],[(0,.box [.val Jt b6.1,.val Ja b6.2.1,.val Ja b6.2.2]),(1,.arr Jv l7)],2⟩
def Zsa(t9:Bool)(aS:List Int×Int×Int)(am:List Ka):St:=⟨[(0,vP 0 0),(5,vO 1),(58,vB t9)],[(0,.box [.val Jt aS.1,.val Ja aS.2.1,.val Ja aS.2.2]),(1,.arr Jv am)],2⟩
theorem Zt7(N:Nat){R:Type}(K:Ex->St->Option R){K0:Bool->Kf->Kz->Option R}(h0:K0= λt9 aS am=>K (.exit 1) (Zsa t9 aS am))(n:Nat)(b6:List Int×Int×Int)(l7:List Ka):Ze6 N K0 n b6 l7=LM Zku N 0 100014 n (Zt6 b6 l7) K:=by
  subst h0
  induction n generalizing b6 l7 with
  |zero=>kernel_rfl
  |succ n ih=>rw[Ze6];simp only[ih];kernel_rfl
theorem Zzq(N:Nat)(c1:List Int×Int×Int)(aa:List Ka):DN Zku N (c1,aa,())=Zgr N c1 aa:=by
  conv=>rhs;rw[Zgr];simp(disch:=exact id (by kernel_rfl)) only[Zt7 (R:=Ku×(Kz×Unit)) N (CF Zku N [1,1,1,1,0,1,0,1,1,1,1,1,1,1,0,0])]
  kernel_rfl
theorem Zzr(N:Nat):GW 83 (Znh N):=GF Zku N Tryz.func83 (GC (Zag N) (GC (Z0r N) Wa)) (λd=>Zzq N d.1 d.2.1)
def Zle(N:Nat):Sig:=Sig.of [.box Jm] [.v (.prod (.own Jv) (.own Jc)) true] (λd=>Zjg N d.1)
def Zvw:Fn:=⟨Tryz.f51,Wz,Zle,λN=>[(50,Zb2 N),(49,Zks N),(70,Z9 N),(83,Znh N)]⟩
theorem Zvx(N:Nat):GW 51 (Zle N):=GF Zvw N Tryz.func51 (GC (Zc9 N) (GC (Zpu N) (GC (Zag N) (GC (Zzr N) Wa))))
def Zni(N:Nat):Sig:=Sig.of [.box Jm,.v Ja false] [.v (.prod (.prod Jaa Jq) (.prod (.own Jl) (.own Jj))) true] (λd=>Zh0 N d.1 d.2.1)
def Zgl:Fn:=⟨Tryz.f33,λ |8=>[.canon [0,4,5,28]]|9=>[.canon [0,4,5]]|13=>[.canon [0,4,5,55]]|14=>[.canon [0,4,5]]|100008=>[.canon [0,4,5]]|100013=>[.canon [0,4,5]]|_=>[],Zni,λN=>[(69,Zld N),(70,Z9 N),(54,Zjn N),(51,Zle N)]⟩
def Zt8(b7:List Int×Int×Int)(b9:Int)(fH:List Int)(am:List Int)(bA:List Ko)(aH:List Kb):St:=⟨[(0,vP 0 0),(4,vP 1 0),(5,vP 2 0)],[(0,.box [.val Jt b7.1,.val Ja b7.2.1,.val Ja b7.2.2]),(1,.box [.nils,.nils,.val Ja (0:Int),.nils,.nils]),(2,.box [.own 3,.own 4,.val Ja b9,.own 5,.own 6]),(3,.arr Ja fH),(4,.arr Ja am),(5,.arr Jl bA),(6,.arr Jj aH)],7⟩
def Zsb(b7:List Int×Int×Int)(b9:Int)(fH:List Int)(am:List Int)(aH:List Kb)(gh:Bool)(bk:List Ko):St:=⟨[(0,vP 0 0),(4,vP 1 0),(5,vP 2 0),(28,vB gh)],[(0,.box [.val Jt b7.1,.val Ja b7.2.1,.val Ja b7.2.2]),(1,.box [.nils,.nils,.val Ja (0:Int),.nils,.nils]),(2,.box [.own 3,.own 4,.val Ja b9,.own 5,.own 6]),(3,.arr Ja fH),(4,.arr Ja am),(5,.arr Jl bk),(6,.arr Jj aH)],7⟩
theorem Zt9(N:Nat){R:Type}(K:Ex->St->Option R){b7:List Int×Int×Int}{b9:Int}{fH:List Int}{am:List Int}{aH:List Kb}{K0:Bool->(List Ko)->Option R}(h0:K0= λgh bk=>K (.exit 1) (Zsb b7 b9 fH am aH gh bk))(n:Nat)(bA:List Ko):Ze7 N b7 b9 fH am aH K0 n bA=LM Zgl N 0 100008 n (Zt8 b7 b9 fH am bA aH) K:=by
  subst h0
  induction n generalizing bA with
  |zero=>kernel_rfl
  |succ n ih=>rw[Ze7];simp only[ih];kernel_rfl
def Zua(bR:List Int×Int×Int)(du:Int)(ci:List Int)(bS:List Int)(cC:List Ko)(cW:List Kb):St:=⟨[(0,vP 0 0),(4,vP 1 0),(5,vP 2 0)],[(0,.box [.val Jt bR.1,.val Ja bR.2.1,.val Ja bR.2.2]),(1,.box [.nils,.nils,.val Ja (0:Int),.nils,.nils]),(2,.box [.own 3,.own 4,.val Ja du,.own 5,.own 6]),(3,.arr Ja ci),(4,.arr Ja bS),(5,.arr Jl cC),(6,.arr Jj cW)],7⟩
def Zsc(du:Int)(ci:List Int)(bS:List Int)(cC:List Ko)(sh:Bool)(eC:List Int×Int×Int)(si:List Kb):St:=⟨[(0,vP 0 0),(4,vP 1 0),(5,vP 2 0),(55,vB sh)],[(0,.box [.val Jt eC.1,.val Ja eC.2.1,.val Ja eC.2.2]),(1,.box [.nils,.nils,.val Ja (0:Int),.nils,.nils]),(2,.box [.own 3,.own 4,.val Ja du,.own 5,.own 6]),(3,.arr Ja ci),(4,.arr Ja bS),(5,.arr Jl cC),(6,.arr Jj si)],7⟩
theorem Zub(N:Nat){R:Type}(K:Ex->St->Option R){du:Int}{ci:List Int}{bS:List Int}{cC:List Ko}{K0:Bool->Kf->Kt->Option R}(h0:K0= λsh eC si=>K (.exit 3) (Zsc du ci bS cC sh eC si))(n:Nat)(bR:List Int×Int×Int)(cW:List Kb):Ze8 N du ci bS cC K0 n bR cW=LM Zgl N 1 100013 n (Zua bR du ci bS cC cW) K:=by
  subst h0
  induction n generalizing bR cW with
  |zero=>kernel_rfl
  |succ n ih=>rw[Ze8];simp only[ih];kernel_rfl
theorem Zzs(N:Nat)(c1:List Int×Int×Int)(bT:Int):DN Zgl N (c1,bT,())=Zh0 N c1 bT:=by
  conv=>rhs;rw[Zh0];simp(disch:=exact id (by kernel_rfl)) only[Zt9 (R:=Ku×(Kaa×Unit)) N (CF Zgl N [1,1,0,1,0,1,1,1,1,1,0,0]),Zub (R:=Ku×(Kaa×Unit)) N (CF Zgl N [1,1,0,1,0,1,1,1,1,1,1,1,1,1,0,0])]
  kernel_rfl
theorem Zzt(N:Nat):GW 33 (Zni N):=GF Zgl N Tryz.func33 (GC (Zvv N) (GC (Zag N) (GC (Zr9 N) (GC (Zvx N) Wa)))) (λd=>Zzs N d.1 d.2.1)
def Zlf(N:Nat):Sig:=Sig.of [.v Jt false] [.v Jw true] (λd=>Zji N d.1)
def Zvy:Fn:=⟨Tryz.f10,Wz,Zlf,λN=>[(32,Zn1 N),(34,Zne N),(33,Zni N)]⟩
theorem Zvz(N:Nat):GW 10 (Zlf N):=GF Zvy N Tryz.func10 (GC (Z0n N) (GC (Zzk N) (GC (Zzt N) Wa)))
def Zgt(N:Nat):Sig:=Sig.of [.v Ja false,.v Ja false,.v Ja false] [.v Jp false] (λd=>Zbr N d.1 d.2.1 d.2.2.1)
def Z09:Fn:=⟨Tryz.f60,Wz,Zgt,Wa5⟩
theorem Zkc(N:Nat):GW 60 (Zgt N):=GF Z09 N Tryz.func60 Wa
def Zi6(N:Nat):Sig:=Sig.of [.v Ja false] [.v Jp false] (λd=>Zhb N d.1)
def Z0s:Fn:=⟨Tryz.f59,Wz,Zi6,λN=>[(60,Zgt N)]⟩
theorem Zn3(N:Nat):GW 59 (Zi6 N):=GF Z0s N Tryz.func59 (GC (Zkc N) Wa)
def Znj(N:Nat):Sig:=Sig.of [.v Jk false] [.v Jp false] (λd=>Zhy N d.1)
def Zkv:Fn:=⟨Tryz.f58,λ |4=>[.canon [0,3,10]]|5=>[.canon [0,3]]|6=>[.canon [0,3,18]]|7=>[.canon [2]]|100004=>[.canon [0,3]]|_=>[],Znj,λN=>[(59,Zi6 N)]⟩
def Zuc(l2:List Int)(i3:Int):St:=⟨[(0,vV Jk l2),(3,vI i3)],[],0⟩
def Zsd(l2:List Int):St:=⟨[(2,vB false)],[],0⟩
def Zse(l2:List Int)(i5:Int)(t6:Bool):St:=⟨[(0,vV Jk l2),(3,vI i5),(10,vB t6)],[],0⟩
theorem Zud(N:Nat){R:Type}(K:Ex->St->Option R){l2:List Int}{K0:Option R}{K1:Int->Bool->Option R}(h0:K0=K .ret (Zsd l2))(h1:K1= λi5 t6=>K (.exit 0) (Zse l2 i5 t6))(n:Nat)(i3:Int):Zc0 N l2 K0 K1 n i3=LM Zkv N 0 100004 n (Zuc l2 i3) K:=by
  subst h0 h1
  induction n generalizing i3 with
  |zero=>kernel_rfl
  |succ n ih=>rw[Zc0];simp only[ih];kernel_rfl
theorem Zzu(N:Nat)(l1:List Int):DN Zkv N (l1,())=Zhy N l1:=by
  conv=>rhs;rw[Zhy];simp(disch:=exact id (by kernel_rfl)) only[Zud (R:=Unit×Kr) N (CF Zkv N [1,1,0,1,0])]
  kernel_rfl
theorem Zzv(N:Nat):GW 58 (Znj N):=GF Zkv N Tryz.func58 (GC (Zn3 N) Wa) (λd=>Zzu N d.1)
def Zl6(N:Nat):Sig:=Sig.of [.v (.prod Jk Jah) true] [.v Jp false] (λd=>Zgh N d.1)
def Ziu:Fn:=⟨Tryz.f23,λ |4=>[.canon [1,3,24]]|5=>[.canon [1,3]]|6=>[.canon [1,3,33]]|7=>[.canon [2]]|100004=>[.canon [1,3]]|_=>[],Zl6,λN=>[(58,Znj N),(59,Zi6 N),(60,Zgt N)]⟩
def Zqq(i4:Int)(b5:List Int×List Int×Int):St:=⟨[(1,vP 0 0),(3,vI i4)],[(0,.box [.val Jk b5.1,.val Jk b5.2.1,.val Ja b5.2.2])],1⟩
def Zp3(b5:List Int×List Int×Int):St:=⟨[(2,vB false)],[],0⟩
def Zp4(b5:List Int×List Int×Int)(i7:Int)(t8:Bool):St:=⟨[(1,vP 0 0),(3,vI i7),(24,vB t8)],[(0,.box [.val Jk b5.1,.val Jk b5.2.1,.val Ja b5.2.2])],1⟩
theorem Zqr(N:Nat){R:Type}(K:Ex->St->Option R){b5:List Int×List Int×Int}{K0:Option R}{K1:Int->Bool->Option R}(h0:K0=K .ret (Zp3 b5))(h1:K1= λi7 t8=>K (.exit 0) (Zp4 b5 i7 t8))(n:Nat)(i4:Int):Zbu N b5 K0 K1 n i4=LM Ziu N 0 100004 n (Zqq i4 b5) K:=by
  subst h0 h1
  induction n generalizing i4 with
  |zero=>kernel_rfl
  |succ n ih=>rw[Zbu];simp only[ih];kernel_rfl
theorem Zw6(N:Nat)(s1:List Int×List Int×Int):DN Ziu N (s1,())=Zgh N s1:=by
  conv=>rhs;rw[Zgh];simp(disch:=exact id (by kernel_rfl)) only[Zqr (R:=Unit×Kr) N (CF Ziu N [1,1,0,1,0])]
  kernel_rfl
theorem Zw7(N:Nat):GW 23 (Zl6 N):=GF Ziu N Tryz.func23 (GC (Zzv N) (GC (Zn3 N) (GC (Zkc N) Wa))) (λd=>Zw6 N d.1)
def Zn4(N:Nat):Sig:=Sig.of [.v Ja false] [.v Jp false] (λd=>Zr N d.1)
def Z0t:Fn:=⟨Tryz.f127,Wz,Zn4,λN=>[(60,Zgt N)]⟩
theorem Z0u(N:Nat):GW 127 (Zn4 N):=GF Z0t N Tryz.func127 (GC (Zkc N) Wa)
def Znk(N:Nat):Sig:=Sig.of [.v Ja false] [.v Jp false] (λd=>Zgo N d.1)
def Zzw:Fn:=⟨Tryz.f128,Wz,Znk,λN=>[(60,Zgt N)]⟩
theorem Zzx(N:Nat):GW 128 (Znk N):=GF Zzw N Tryz.func128 (GC (Zkc N) Wa)
def Zmj(N:Nat):Sig:=Sig.of [.v Jv true] [.v Jp false] (λd=>Zp N d.1)
def Z1a:Fn:=⟨Tryz.f86,Wz,Zmj,λN=>[(127,Zn4 N),(59,Zi6 N),(128,Znk N),(60,Zgt N)]⟩
theorem Ztw(N:Nat):GW 86 (Zmj N):=GF Z1a N Tryz.func86 (GC (Z0u N) (GC (Zn3 N) (GC (Zzx N) (GC (Zkc N) Wa))))
def Znl(N:Nat):Sig:=Sig.of [.v Jc false,.v Ja false] [.v Jp false] (λd=>Zhz N d.1 d.2.1)
def Zkw:Fn:=⟨Tryz.f87,λ |6=>[.canon [0,5,6,7,24]]|7=>[.canon [0,5,6,7]]|8=>[.canon [0,5,6,7,32]]|9=>[.canon [0,5,6,7]]|10=>[.canon [0,5,6,7,40]]|11=>[.canon [0,5,6,7]]|12=>[.canon [0,5,6,7,44]]|13=>[.canon [4]]|100006=>[.canon [0,5,6,7]]|_=>[],Znl,Wa5⟩
def Zue(ad:List Ka)(gt:Int)(d5:Int)(k6:Int):St:=⟨[(0,vV Jc ad),(5,vI gt),(6,vI d5),(7,vI k6)],[],0⟩
def Zsf(ad:List Ka)(gt:Int):St:=⟨[(4,vB false)],[],0⟩
def Zsg(ad:List Ka)(gt:Int)(d7:Int)(k8:Int)(t9:Bool):St:=⟨[(0,vV Jc ad),(5,vI gt),(6,vI d7),(7,vI k8),(24,vB t9)],[],0⟩
theorem Zuf(N:Nat){R:Type}(K:Ex->St->Option R){ad:List Ka}{gt:Int}{K0:Option R}{K1:Int->Int->Bool->Option R}(h0:K0=K .ret (Zsf ad gt))(h1:K1= λd7 k8 t9=>K (.exit 0) (Zsg ad gt d7 k8 t9))(n:Nat)(d5:Int)(k6:Int):Za9 N ad gt K0 K1 n d5 k6=LM Zkw N 0 100006 n (Zue ad gt d5 k6) K:=by
  subst h0 h1
  induction n generalizing d5 k6 with
  |zero=>kernel_rfl
  |succ n ih=>rw[Za9];simp only[ih];kernel_rfl
theorem Zzy(N:Nat)(ac:List Ka)(i2:Int):DN Zkw N (ac,i2,())=Zhz N ac i2:=by
  conv=>rhs;rw[Zhz];simp(disch:=exact id (by kernel_rfl)) only[Zuf (R:=Unit×Kr) N (CF Zkw N [1,1,1,1,0,1,0])]
  kernel_rfl
theorem Zzz(N:Nat):GW 87 (Znl N):=GF Zkw N Tryz.func87 Wa (λd=>Zzy N d.1 d.2.1)
def Zkx(N:Nat):Sig:=Sig.of [.v Jc false] [.v Jp false] (λd=>Zgp N d.1)
def Zky:Fn:=⟨Tryz.f55,λ |6=>[.canon [0,3,4,5,12]]|7=>[.canon [0,3,4,5]]|8=>[.canon [0,3,4,5,20]]|9=>[.canon [2]]|10=>[.canon [0,3,4,5,25]]|11=>[.canon [0,3,4,5,25,26]]|12=>[.canon [0,3,4,5]]|13=>[.canon [0,3,4,5,25,30]]|14=>[.canon [0,3,4,5]]|15=>[.canon [0,3,4,5,25,34]]|16=>[.canon [0,3,4,5,39]]|17=>[.canon [2]]|18=>[.canon [0,3,4,5,40]]|19=>[.canon [0,3,4,5]]|20=>[.canon [0,3,4,5,49]]|21=>[.canon [2]]|22=>[.canon [0,3,4,5,51]]|23=>[.canon [2]]|100006=>[.canon [0,3,4,5]]|_=>[],Zkx,λN=>[(86,Zmj N),(87,Znl N)]⟩
def Zug(aa:List Ka)(d3:Int)(aw:Int)(i5:Int):St:=⟨[(0,vV Jc aa),(3,vI d3),(4,vI aw),(5,vI i5)],[],0⟩
def Zsh(aa:List Ka):St:=⟨[(2,vB false)],[],0⟩
def Zsi(aa:List Ka)(d8:Int)(il:Int)(kS:Int)(aN:Bool):St:=⟨[(0,vV Jc aa),(3,vI d8),(4,vI il),(5,vI kS),(12,vB aN)],[],0⟩
theorem Zuh(N:Nat){R:Type}(K:Ex->St->Option R){aa:List Ka}{K0:Option R}{K1:Int->Int->Int->Bool->Option R}(h0:K0=K .ret (Zsh aa))(h1:K1= λd8 il kS aN=>K (.exit 0) (Zsi aa d8 il kS aN))(n:Nat)(d3:Int)(aw:Int)(i5:Int):Zba N aa K0 K1 n d3 aw i5=LM Zky N 0 100006 n (Zug aa d3 aw i5) K:=by
  subst h0 h1
  induction n generalizing d3 aw i5 with
  |zero=>kernel_rfl
  |succ n ih=>rw[Zba];simp only[ih];kernel_rfl
theorem Zz0(N:Nat)(ac:List Ka):DN Zky N (ac,())=Zgp N ac:=by
  conv=>rhs;rw[Zgp];simp(disch:=exact id (by kernel_rfl)) only[Zuh (R:=Unit×Kr) N (CF Zky N [1,1,1,1,0,1,0])]
  kernel_rfl
theorem Zpv(N:Nat):GW 55 (Zkx N):=GF Zky N Tryz.func55 (GC (Ztw N) (GC (Zzz N) Wa)) (λd=>Zz0 N d.1)
def Zjo(N:Nat):Sig:=Sig.of [.v Jc false] [.v Jp false] (λd=>Zfo N d.1)
def Zjp:Fn:=⟨Tryz.f56,λ |2=>[.canon [0,3,7]]|3=>[.canon [0,3]]|4=>[.canon [0,3,15]]|5=>[.canon [2]]|100002=>[.canon [0,3]]|_=>[],Zjo,Wa5⟩
def Zsj(aa:List Ka)(i3:Int):St:=⟨[(0,vV Jc aa),(3,vI i3)],[],0⟩
def Zqs(aa:List Ka):St:=⟨[(2,vB true)],[],0⟩
def Zqt(aa:List Ka)(i4:Int)(t5:Bool):St:=⟨[(0,vV Jc aa),(3,vI i4),(7,vB t5)],[],0⟩
theorem Zsk(N:Nat){R:Type}(K:Ex->St->Option R){aa:List Ka}{K0:Option R}{K1:Int->Bool->Option R}(h0:K0=K .ret (Zqs aa))(h1:K1= λi4 t5=>K (.exit 0) (Zqt aa i4 t5))(n:Nat)(i3:Int):Zcj N aa K0 K1 n i3=LM Zjp N 0 100002 n (Zsj aa i3) K:=by
  subst h0 h1
  induction n generalizing i3 with
  |zero=>kernel_rfl
  |succ n ih=>rw[Zcj];simp only[ih];kernel_rfl
theorem Zx5(N:Nat)(ac:List Ka):DN Zjp N (ac,())=Zfo N ac:=by
  conv=>rhs;rw[Zfo];simp(disch:=exact id (by kernel_rfl)) only[Zsk (R:=Unit×Kr) N (CF Zjp N [1,0,1,0])]
  kernel_rfl
theorem Zo4(N:Nat):GW 56 (Zjo N):=GF Zjp N Tryz.func56 Wa (λd=>Zx5 N d.1)
def Zmu(N:Nat):Sig:=Sig.of [.v Jv true] [.v Ja false] (λd=>Zb8 N d.1)
def Zx6:Fn:=⟨Tryz.f88,Wz,Zmu,λN=>[(86,Zmj N)]⟩
theorem Zx7(N:Nat):GW 88 (Zmu N):=GF Zx6 N Tryz.func88 (GC (Ztw N) Wa)
def Zn5(N:Nat):Sig:=Sig.of [.v Jc false] [.v Jp false] (λd=>Zhc N d.1)
def Zlw:Fn:=⟨Tryz.f57,λ |4=>[.canon [0,3,14]]|5=>[.canon [0,3]]|6=>[.canon [0,3,22]]|7=>[.canon [2]]|100004=>[.canon [0,3]]|_=>[],Zn5,λN=>[(55,Zkx N),(56,Zjo N),(88,Zmu N)]⟩
def Zv0(ay:List Ka)(i5:Int):St:=⟨[(0,vV Jc ay),(3,vI i5)],[],0⟩
def Zui(ay:List Ka):St:=⟨[(2,vB false)],[],0⟩
def Zuj(ay:List Ka)(i7:Int)(t8:Bool):St:=⟨[(0,vV Jc ay),(3,vI i7),(14,vB t8)],[],0⟩
theorem Zv1(N:Nat){R:Type}(K:Ex->St->Option R){ay:List Ka}{K0:Option R}{K1:Int->Bool->Option R}(h0:K0=K .ret (Zui ay))(h1:K1= λi7 t8=>K (.exit 0) (Zuj ay i7 t8))(n:Nat)(i5:Int):Zdv N ay K0 K1 n i5=LM Zlw N 0 100004 n (Zv0 ay i5) K:=by
  subst h0 h1
  induction n generalizing i5 with
  |zero=>kernel_rfl
  |succ n ih=>rw[Zdv];simp only[ih];kernel_rfl
theorem Z0v(N:Nat)(ac:List Ka):DN Zlw N (ac,())=Zhc N ac:=by
  conv=>rhs;rw[Zhc];simp(disch:=exact id (by kernel_rfl)) only[Zv1 (R:=Unit×Kr) N (CF Zlw N [1,1,0,1,0])]
  kernel_rfl
theorem Z0w(N:Nat):GW 57 (Zn5 N):=GF Zlw N Tryz.func57 (GC (Zpv N) (GC (Zo4 N) (GC (Zx7 N) Wa))) (λd=>Z0v N d.1)
def Znm(N:Nat):Sig:=Sig.of [.v Jl true] [.v Jp false] (λd=>Zgs N d.1)
def Zkz:Fn:=⟨Tryz.f22,λ |4=>[.canon [1,3,28]]|5=>[.canon [1,3]]|6=>[.canon [1,3,38]]|7=>[.canon [2]]|100004=>[.canon [1,3]]|_=>[],Znm,λN=>[(55,Zkx N),(56,Zjo N),(57,Zn5 N)]⟩
def Zuk(i4:Int)(b5:List Ka×List Kz):St:=⟨[(1,vP 0 0),(3,vI i4)],[(0,.box [.val Jc b5.1,.val (.slice Jc) b5.2])],1⟩
def Zsl(b5:List Ka×List Kz):St:=⟨[(2,vB false)],[],0⟩
def Zsm(b5:List Ka×List Kz)(i7:Int)(t8:Bool):St:=⟨[(1,vP 0 0),(3,vI i7),(28,vB t8)],[(0,.box [.val Jc b5.1,.val (.slice Jc) b5.2])],1⟩
theorem Zul(N:Nat){R:Type}(K:Ex->St->Option R){b5:List Ka×List Kz}{K0:Option R}{K1:Int->Bool->Option R}(h0:K0=K .ret (Zsl b5))(h1:K1= λi7 t8=>K (.exit 0) (Zsm b5 i7 t8))(n:Nat)(i4:Int):Zca N b5 K0 K1 n i4=LM Zkz N 0 100004 n (Zuk i4 b5) K:=by
  subst h0 h1
  induction n generalizing i4 with
  |zero=>kernel_rfl
  |succ n ih=>rw[Zca];simp only[ih];kernel_rfl
theorem Zz1(N:Nat)(p1:List Ka×List Kz):DN Zkz N (p1,())=Zgs N p1:=by
  conv=>rhs;rw[Zgs];simp(disch:=exact id (by kernel_rfl)) only[Zul (R:=Unit×Kr) N (CF Zkz N [1,1,0,1,0])]
  kernel_rfl
theorem Zz2(N:Nat):GW 22 (Znm N):=GF Zkz N Tryz.func22 (GC (Zpv N) (GC (Zo4 N) (GC (Z0w N) Wa))) (λd=>Zz1 N d.1)
def Zl7(N:Nat):Sig:=Sig.of [.v Jw true] [.v Jp false] (λd=>Zgi N d.1)
def Ziv:Fn:=⟨Tryz.f12,λ |4=>[.canon [1,3,24]]|5=>[.canon [1,3]]|6=>[.canon [1,3,33]]|7=>[.canon [2]]|100004=>[.canon [1,3]]|_=>[],Zl7,λN=>[(23,Zl6 N),(22,Znm N)]⟩
def Zqu(i3:Int)(b4:Kg×List Ko×List Kb):St:=⟨[(1,vP 0 0),(3,vI i3)],[(0,.box [.val Jk b4.1.1,.val Jk b4.1.2.1,.val Ja b4.1.2.2,.val Jae b4.2.1,.val Je b4.2.2])],1⟩
def Zp5(b4:Kg×List Ko×List Kb):St:=⟨[(2,vB false)],[],0⟩
def Zp6(b4:Kg×List Ko×List Kb)(i6:Int)(t7:Bool):St:=⟨[(1,vP 0 0),(3,vI i6),(24,vB t7)],[(0,.box [.val Jk b4.1.1,.val Jk b4.1.2.1,.val Ja b4.1.2.2,.val Jae b4.2.1,.val Je b4.2.2])],1⟩
theorem Zqv(N:Nat){R:Type}(K:Ex->St->Option R){b4:Kg×List Ko×List Kb}{K0:Option R}{K1:Int->Bool->Option R}(h0:K0=K .ret (Zp5 b4))(h1:K1= λi6 t7=>K (.exit 0) (Zp6 b4 i6 t7))(n:Nat)(i3:Int):Zbv N b4 K0 K1 n i3=LM Ziv N 0 100004 n (Zqu i3 b4) K:=by
  subst h0 h1
  induction n generalizing i3 with
  |zero=>kernel_rfl
  |succ n ih=>rw[Zbv];simp only[ih];kernel_rfl
theorem Zw8(N:Nat)(s1:Kg×List Ko×List Kb):DN Ziv N (s1,())=Zgi N s1:=by
  conv=>rhs;rw[Zgi];simp(disch:=exact id (by kernel_rfl)) only[Zqv (R:=Unit×Kr) N (CF Ziv N [1,1,0,1,0])]
  kernel_rfl
theorem Zw9(N:Nat):GW 12 (Zl7 N):=GF Ziv N Tryz.func12 (GC (Zw7 N) (GC (Zz2 N) Wa)) (λd=>Zw8 N d.1)
def Z0(N:Nat):Sig:=Sig.of [.v Ja false,.v Ja false,.v Ja false] [.v Jp false] (λd=>Zi N d.1 d.2.1 d.2.2.1)
def Zz3:Fn:=⟨Tryz.f44,Wz,Z0,Wa5⟩
theorem Zaa(N:Nat):GW 44 (Z0 N):=GF Zz3 N Tryz.func44 Wa
def Za7(N:Nat):Sig:=Sig.of [.v Ja false] [.v Jp false] (λd=>Za1 N d.1)
def Zx8:Fn:=⟨Tryz.f76,Wz,Za7,λN=>[(44,Z0 N)]⟩
theorem Zbt(N:Nat):GW 76 (Za7 N):=GF Zx8 N Tryz.func76 (GC (Zaa N) Wa)
def Zcp(N:Nat):Sig:=Sig.of [.v Jk false,.v Ja false] [.v Jp false] (λd=>Zak N d.1 d.2.1)
def Zif:Fn:=⟨Tryz.f81,λ |2=>[.canon [0,1,7,8,9,10]]|3=>[.canon [0,1,6,7,8,9]]|4=>[.canon [0,1,7,8,9,15]]|5=>[.canon [4]]|6=>[.canon [0,1,7,8,9]]|100002=>[.canon [0,1,7,8,9]]|_=>[],Zcp,λN=>[(76,Za7 N)]⟩
def Zp7(l3:List Int)(n4:Int)(t7:Int):St:=⟨[(0,vV Jk l3),(1,vI n4),(7,vV Jk l3),(8,vI (Wb l3)),(9,vI t7)],[],0⟩
def Zph(l3:List Int)(n4:Int):St:=⟨[(4,vB false)],[],0⟩
def Zpi(l3:List Int)(n4:Int)(az:Int)(aN:Bool):St:=⟨[(0,vV Jk l3),(1,vI n4),(7,vV Jk l3),(8,vI (Wb l3)),(9,vI az),(10,vB aN)],[],0⟩
theorem Zp8(N:Nat){R:Type}(K:Ex->St->Option R){l3:List Int}{n4:Int}{K0:Option R}{K1:Int->Bool->Option R}(h0:K0=K .ret (Zph l3 n4))(h1:K1= λaz aN=>K (.exit 0) (Zpi l3 n4 az aN))(n:Nat)(t7:Int):Za4 N l3 n4 K0 K1 n t7=LM Zif N 0 100002 n (Zp7 l3 n4 t7) K:=by
  subst h0 h1
  induction n generalizing t7 with
  |zero=>kernel_rfl
  |succ n ih=>rw[Za4];simp only[ih];kernel_rfl
theorem Zv2(N:Nat)(l1:List Int)(n2:Int):DN Zif N (l1,n2,())=Zak N l1 n2:=by
  conv=>rhs;rw[Zak];simp(disch:=exact id (by kernel_rfl)) only[Zp8 (R:=Unit×Kr) N (CF Zif N [1,0,1,0])]
  kernel_rfl
theorem Zgc(N:Nat):GW 81 (Zcp N):=GF Zif N Tryz.func81 (GC (Zbt N) Wa) (λd=>Zv2 N d.1 d.2.1)
def Zlx(N:Nat):Sig:=Sig.of [.v Jk false] [.v Jp false] (λd=>Zhf N d.1)
def Zly:Fn:=⟨Tryz.f78,λ |2=>[.canon [0,5,6,7,8]]|3=>[.canon [0,4,5,6,7]]|4=>[.canon [0,5,6,7,13]]|5=>[.canon [2]]|6=>[.canon [0,5,6,7]]|100002=>[.canon [0,5,6,7]]|_=>[],Zlx,λN=>[(44,Z0 N)]⟩
def Zv3(l2:List Int)(t5:Int):St:=⟨[(0,vV Jk l2),(5,vV Jk l2),(6,vI (Wb l2)),(7,vI t5)],[],0⟩
def Zum(l2:List Int):St:=⟨[(2,vB false)],[],0⟩
def Zun(l2:List Int)(t8:Int)(t9:Bool):St:=⟨[(0,vV Jk l2),(5,vV Jk l2),(6,vI (Wb l2)),(7,vI t8),(8,vB t9)],[],0⟩
theorem Zv4(N:Nat){R:Type}(K:Ex->St->Option R){l2:List Int}{K0:Option R}{K1:Int->Bool->Option R}(h0:K0=K .ret (Zum l2))(h1:K1= λt8 t9=>K (.exit 0) (Zun l2 t8 t9))(n:Nat)(t5:Int):Zd0 N l2 K0 K1 n t5=LM Zly N 0 100002 n (Zv3 l2 t5) K:=by
  subst h0 h1
  induction n generalizing t5 with
  |zero=>kernel_rfl
  |succ n ih=>rw[Zd0];simp only[ih];kernel_rfl
theorem Z0x(N:Nat)(l1:List Int):DN Zly N (l1,())=Zhf N l1:=by
  conv=>rhs;rw[Zhf];simp(disch:=exact id (by kernel_rfl)) only[Zv4 (R:=Unit×Kr) N (CF Zly N [1,0,1,0])]
  kernel_rfl
theorem Zqw(N:Nat):GW 78 (Zlx N):=GF Zly N Tryz.func78 (GC (Zaa N) Wa) (λd=>Z0x N d.1)
def Zl8(N:Nat):Sig:=Sig.of [.v (.prod Jk Jah) true] [.v Jp false] (λd=>Zkp N d.1)
def Zxa:Fn:=⟨Tryz.f63,Wz,Zl8,λN=>[(81,Zcp N),(78,Zlx N),(76,Za7 N)]⟩
theorem Zxb(N:Nat):GW 63 (Zl8 N):=GF Zxa N Tryz.func63 (GC (Zgc N) (GC (Zqw N) (GC (Zbt N) Wa)))
def Zn6(N:Nat):Sig:=Sig.of [.v Ja false] [.v Jp false] (λd=>Zs N d.1)
def Z0y:Fn:=⟨Tryz.f164,Wz,Zn6,λN=>[(44,Z0 N)]⟩
theorem Z0z(N:Nat):GW 164 (Zn6 N):=GF Z0y N Tryz.func164 (GC (Zaa N) Wa)
def Zb3(N:Nat):Sig:=Sig.of [.v Ja false] [.v Jp false] (λd=>Zbd N d.1)
def Zz4:Fn:=⟨Tryz.f165,Wz,Zb3,λN=>[(44,Z0 N)]⟩
theorem Zda(N:Nat):GW 165 (Zb3 N):=GF Zz4 N Tryz.func165 (GC (Zaa N) Wa)
def Zef(N:Nat):Sig:=Sig.of [.v Ja false] [.v Jp false] (λd=>Za6 N d.1)
def Z00:Fn:=⟨Tryz.f105,Wz,Zef,λN=>[(44,Z0 N)]⟩
theorem Zg9(N:Nat):GW 105 (Zef N):=GF Z00 N Tryz.func105 (GC (Zaa N) Wa)
def Zh5(N:Nat):Sig:=Sig.of [.v Jv true] [.v Jp false] (λd=>Zo N d.1)
def Z1b:Fn:=⟨Tryz.f131,Wz,Zh5,λN=>[(164,Zn6 N),(76,Za7 N),(165,Zb3 N),(44,Z0 N),(105,Zef N)]⟩
theorem Zmk(N:Nat):GW 131 (Zh5 N):=GF Z1b N Tryz.func131 (GC (Z0z N) (GC (Zbt N) (GC (Zda N) (GC (Zaa N) (GC (Zg9 N) Wa)))))
def Zjq(N:Nat):Sig:=Sig.of [.v Jv true] [.v Ja false] (λd=>Zg0 N d.1)
def Zx9:Fn:=⟨Tryz.f129,Wz,Zjq,λN=>[(131,Zh5 N)]⟩
theorem Zo5(N:Nat):GW 129 (Zjq N):=GF Zx9 N Tryz.func129 (GC (Zmk N) Wa)
def Zi7(N:Nat):Sig:=Sig.of [.v Jv true] [.v Ja false] (λd=>Zi0 N d.1)
def Z01:Fn:=⟨Tryz.f136,Wz,Zi7,Wa5⟩
theorem Zn7(N:Nat):GW 136 (Zi7 N):=GF Z01 N Tryz.func136 Wa
def Zki(N:Nat):Sig:=Sig.of [.v Jc false] [.v Jp false] (λd=>Zc1 N d.1)
def Zhs:Fn:=⟨Tryz.f130,λ |3=>[.canon [3,6,7,8,9]]|4=>[.canon [3,5,6,7,8]]|5=>[.canon [3,6,7,8]]|6=>[.canon [3,6,7,8,17]]|7=>[.canon [2]]|8=>[.canon [3,6,7,8]]|100003=>[.canon [3,6,7,8]]|_=>[],Zki,λN=>[(136,Zi7 N)]⟩
def Zpj(n2:Int)(t3:List Ka)(t5:Int):St:=⟨[(3,vI n2),(6,vV Jc t3),(7,vI (Wb t3)),(8,vI t5)],[],0⟩
def Zo6(t3:List Ka):St:=⟨[(2,vB false)],[],0⟩
def Zo7(t3:List Ka)(n8:Int)(t9:Int)(az:Bool):St:=⟨[(3,vI n8),(6,vV Jc t3),(7,vI (Wb t3)),(8,vI t9),(9,vB az)],[],0⟩
theorem Zpk(N:Nat){R:Type}(K:Ex->St->Option R){t3:List Ka}{K0:Option R}{K1:Int->Int->Bool->Option R}(h0:K0=K .ret (Zo6 t3))(h1:K1= λn8 t9 az=>K (.exit 0) (Zo7 t3 n8 t9 az))(n:Nat)(n2:Int)(t5:Int):Zb1 N t3 K0 K1 n n2 t5=LM Zhs N 0 100003 n (Zpj n2 t3 t5) K:=by
  subst h0 h1
  induction n generalizing n2 t5 with
  |zero=>kernel_rfl
  |succ n ih=>rw[Zb1];simp only[ih];kernel_rfl
theorem Zuo(N:Nat)(ac:List Ka):DN Zhs N (ac,())=Zc1 N ac:=by
  conv=>rhs;rw[Zc1];simp(disch:=exact id (by kernel_rfl)) only[Zpk (R:=Unit×Kr) N (CF Zhs N [1,1,0,1,0])]
  kernel_rfl
theorem Zup(N:Nat):GW 130 (Zki N):=GF Zhs N Tryz.func130 (GC (Zn7 N) Wa) (λd=>Zuo N d.1)
def Zmv(N:Nat):Sig:=Sig.of [.v Jc false,.v Ja false] [.v Ja false] (λd=>Zg1 N d.1 d.2.1)
def Zjr:Fn:=⟨Tryz.f132,λ |3=>[.canon [1,5,8,9,10,11]]|4=>[.canon [1,5,6,7,8,9,10]]|5=>[.canon [1,5,7,8,9,10,17]]|6=>[.canon [1,5,8,9,10]]|7=>[.canon [1,5,8,9,10]]|100003=>[.canon [1,5,8,9,10]]|_=>[],Zmv,λN=>[(136,Zi7 N)]⟩
def Zsn(i3:Int)(n4:Int)(t5:List Ka)(t7:Int):St:=⟨[(1,vI i3),(5,vI n4),(8,vV Jc t5),(9,vI (Wb t5)),(10,vI t7)],[],0⟩
def Zqx(i3:Int)(t5:List Ka)(iK:Int)(aN:Int)(aL:Bool):St:=⟨[(1,vI i3),(5,vI iK),(8,vV Jc t5),(9,vI (Wb t5)),(10,vI aN),(11,vB aL)],[],0⟩
theorem Zso(N:Nat){R:Type}(K:Ex->St->Option R){i3:Int}{t5:List Ka}{K0:Int->Int->Bool->Option R}(h0:K0= λiK aN aL=>K (.exit 0) (Zqx i3 t5 iK aN aL))(n:Nat)(n4:Int)(t7:Int):Zb4 N i3 t5 K0 n n4 t7=LM Zjr N 0 100003 n (Zsn i3 n4 t5 t7) K:=by
  subst h0
  induction n generalizing n4 t7 with
  |zero=>kernel_rfl
  |succ n ih=>rw[Zb4];simp only[ih];kernel_rfl
theorem Zya(N:Nat)(ac:List Ka)(i2:Int):DN Zjr N (ac,i2,())=Zg1 N ac i2:=by
  conv=>rhs;rw[Zg1];simp(disch:=exact id (by kernel_rfl)) only[Zso (R:=Unit×Kh) N (CF Zjr N [1,1,0,1,0])]
  kernel_rfl
theorem Zyb(N:Nat):GW 132 (Zmv N):=GF Zjr N Tryz.func132 (GC (Zn7 N) Wa) (λd=>Zya N d.1 d.2.1)
def Zk0(N:Nat):Sig:=Sig.of [.v Jc false] [.v Jp false] (λd=>Zcr N d.1)
def Zk1:Fn:=⟨Tryz.f90,λ |5=>[.canon [0,3,14,15,16,17]]|6=>[.canon [0,3,4,5,14,15,16]]|7=>[.canon [0,3,4,5,14,15,16,23]]|8=>[.canon [2]]|9=>[.canon [0,3,4,5,14,15,16,25]]|10=>[.canon [0,3,4,5,14,15,16,25,26]]|11=>[.canon [0,3,14,15,16,48]]|12=>[.canon [2]]|13=>[.canon [0,3,4,14,15,16,49]]|14=>[.canon [0,3,4,14,15,16]]|15=>[.canon [0,3,14,15,16,60]]|16=>[.canon [2]]|17=>[.canon [0,3,14,15,16]]|100005=>[.canon [0,3,14,15,16]]|_=>[],Zk0,λN=>[(130,Zki N),(131,Zh5 N),(132,Zmv N)]⟩
def Zuq(ad:List Ka)(aw:Int)(t7:Int):St:=⟨[(0,vV Jc ad),(3,vI aw),(14,vV Jc ad),(15,vI (Wb ad)),(16,vI t7)],[],0⟩
def Zsp(ad:List Ka):St:=⟨[(2,vB false)],[],0⟩
def Zsq(ad:List Ka)(fJ:Int)(bP:Int)(gT:Bool):St:=⟨[(0,vV Jc ad),(3,vI fJ),(14,vV Jc ad),(15,vI (Wb ad)),(16,vI bP),(17,vB gT)],[],0⟩
theorem Zur(N:Nat){R:Type}(K:Ex->St->Option R){ad:List Ka}{K0:Option R}{K1:Int->Int->Bool->Option R}(h0:K0=K .ret (Zsp ad))(h1:K1= λfJ bP gT=>K (.exit 0) (Zsq ad fJ bP gT))(n:Nat)(aw:Int)(t7:Int):Zbz N ad K0 K1 n aw t7=LM Zk1 N 0 100005 n (Zuq ad aw t7) K:=by
  subst h0 h1
  induction n generalizing aw t7 with
  |zero=>kernel_rfl
  |succ n ih=>rw[Zbz];simp only[ih];kernel_rfl
theorem Zz5(N:Nat)(ac:List Ka):DN Zk1 N (ac,())=Zcr N ac:=by
  conv=>rhs;rw[Zcr];simp(disch:=exact id (by kernel_rfl)) only[Zur (R:=Unit×Kr) N (CF Zk1 N [1,1,1,0,1,0])]
  kernel_rfl
theorem Zpw(N:Nat):GW 90 (Zk0 N):=GF Zk1 N Tryz.func90 (GC (Zup N) (GC (Zmk N) (GC (Zyb N) Wa))) (λd=>Zz5 N d.1)
def Zn8(N:Nat):Sig:=Sig.of [.v Jc false] [.v Jp false] (λd=>Zhd N d.1)
def Zlz:Fn:=⟨Tryz.f89,λ |2=>[.canon [0,5,6,7,8]]|3=>[.canon [0,4,5,6,7]]|4=>[.canon [0,5,6,7,18]]|5=>[.canon [2]]|6=>[.canon [0,5,6,7]]|100002=>[.canon [0,5,6,7]]|_=>[],Zn8,λN=>[(129,Zjq N),(90,Zk0 N)]⟩
def Zv5(aa:List Ka)(t5:Int):St:=⟨[(0,vV Jc aa),(5,vV Jc aa),(6,vI (Wb aa)),(7,vI t5)],[],0⟩
def Zus(aa:List Ka):St:=⟨[(2,vB false)],[],0⟩
def Zut(aa:List Ka)(t8:Int)(t9:Bool):St:=⟨[(0,vV Jc aa),(5,vV Jc aa),(6,vI (Wb aa)),(7,vI t8),(8,vB t9)],[],0⟩
theorem Zv6(N:Nat){R:Type}(K:Ex->St->Option R){aa:List Ka}{K0:Option R}{K1:Int->Bool->Option R}(h0:K0=K .ret (Zus aa))(h1:K1= λt8 t9=>K (.exit 0) (Zut aa t8 t9))(n:Nat)(t5:Int):Zdw N aa K0 K1 n t5=LM Zlz N 0 100002 n (Zv5 aa t5) K:=by
  subst h0 h1
  induction n generalizing t5 with
  |zero=>kernel_rfl
  |succ n ih=>rw[Zdw];simp only[ih];kernel_rfl
theorem Z02(N:Nat)(ac:List Ka):DN Zlz N (ac,())=Zhd N ac:=by
  conv=>rhs;rw[Zhd];simp(disch:=exact id (by kernel_rfl)) only[Zv6 (R:=Unit×Kr) N (CF Zlz N [1,0,1,0])]
  kernel_rfl
theorem Z03(N:Nat):GW 89 (Zn8 N):=GF Zlz N Tryz.func89 (GC (Zo5 N) (GC (Zpw N) Wa)) (λd=>Z02 N d.1)
def Zlg(N:Nat):Sig:=Sig.of [.v Jv true] [.v Jp false] (λd=>Zmr N d.1)
def Zv7:Fn:=⟨Tryz.f134,Wz,Zlg,Wa5⟩
theorem Zv8(N:Nat):GW 134 (Zlg N):=GF Zv7 N Tryz.func134 Wa
def Za5(N:Nat):Sig:=Sig.of [.v Jc false,.clos 134 0] [.v Ja false] (λd=>Z3 N d.1)
def Zaf:Fn:=⟨Tryz.f166,λ |2=>[.canon [0,1,7,8,9]]|3=>[.canon [0,1,5,7,8]]|4=>[.canon [0,1,5,7,8,16]]|5=>[.canon [1,4]]|6=>[.canon [0,1,7,8]]|100002=>[.canon [0,1,7,8]]|_=>[],Za5,λN=>[(134,Zlg N)]⟩
def Zfd(s2:List Ka)(t4:Int):St:=⟨[(0,vV Jc s2),(1,.s (.one (.clos 134 []))),(7,vI (Wb s2)),(8,vI t4)],[],0⟩
def Zev(s2:List Ka)(t7:Int):St:=⟨[(1,.s (.one (.clos 134 []))),(4,vI t7)],[],0⟩
def Zew(s2:List Ka)(t8:Int)(t9:Bool):St:=⟨[(0,vV Jc s2),(1,.s (.one (.clos 134 []))),(7,vI (Wb s2)),(8,vI t8),(9,vB t9)],[],0⟩
theorem Zfe(N:Nat){R:Type}(K:Ex->St->Option R){s2:List Ka}{K0:Int->Option R}{K1:Int->Bool->Option R}(h0:K0= λt7=>K .ret (Zev s2 t7))(h1:K1= λt8 t9=>K (.exit 0) (Zew s2 t8 t9))(n:Nat)(t4:Int):Zm N s2 K0 K1 n t4=LM Zaf N 0 100002 n (Zfd s2 t4) K:=by
  subst h0 h1
  induction n generalizing t4 with
  |zero=>kernel_rfl
  |succ n ih=>rw[Zm];simp only[ih];kernel_rfl
theorem Zf5(N:Nat)(s1:List Ka):DN Zaf N (s1,())=Z3 N s1:=by
  conv=>rhs;rw[Z3];simp(disch:=exact id (by kernel_rfl)) only[Zfe (R:=Unit×Kh) N (CF Zaf N [1,0,1,0])]
  kernel_rfl
theorem Zf6(N:Nat):GW 166 (Za5 N):=GF Zaf N Tryz.func166 (GC (Zv8 N) Wa) (λd=>Zf5 N d.1)
def Zax(N:Nat):Sig:=Sig.of [.v Jc false,.clos 134 0] [.v Jp false] (λd=>Za2 N d.1)
def Zfi:Fn:=⟨Tryz.f133,Wz,Zax,λN=>[(166,Za5 N)]⟩
theorem Zfj(N:Nat):GW 133 (Zax N):=GF Zfi N Tryz.func133 (GC (Zf6 N) Wa)
def Zmw(N:Nat):Sig:=Sig.of [.v Jc false] [.v Jp false] (λd=>Zg2 N d.1)
def Zyc:Fn:=⟨Tryz.f91,Wz,Zmw,λN=>[(133,Zax N)]⟩
theorem Zyd(N:Nat):GW 91 (Zmw N):=GF Zyc N Tryz.func91 (GC (Zfj N) Wa)
def Znn(N:Nat):Sig:=Sig.of [.v Jl true] [.v Jp false] (λd=>Zh1 N d.1)
def Zk2:Fn:=⟨Tryz.f61,λ |2=>[.canon [1,6,7,8,9]]|3=>[.canon [1,4,6,7,8]]|4=>[.canon [1,6,7,8,15]]|5=>[.canon [2]]|6=>[.canon [1,6,7,8]]|100002=>[.canon [1,6,7,8]]|_=>[],Znn,λN=>[(89,Zn8 N),(90,Zk0 N),(91,Zmw N)]⟩
def Zuu(t2:List Kz)(t4:Int)(b5:List Ka×List Kz):St:=⟨[(1,vP 0 0),(6,vV (.slice Jc) t2),(7,vI (Wb b5.2)),(8,vI t4)],[(0,.box [.val Jc b5.1,.val (.slice Jc) b5.2])],1⟩
def Zsr(t2:List Kz)(b5:List Ka×List Kz):St:=⟨[(2,vB false)],[],0⟩
def Zss(t2:List Kz)(b5:List Ka×List Kz)(t8:Int)(t9:Bool):St:=⟨[(1,vP 0 0),(6,vV (.slice Jc) t2),(7,vI (Wb b5.2)),(8,vI t8),(9,vB t9)],[(0,.box [.val Jc b5.1,.val (.slice Jc) b5.2])],1⟩
theorem Zuv(N:Nat){R:Type}(K:Ex->St->Option R){t2:List Kz}{b5:List Ka×List Kz}{K0:Option R}{K1:Int->Bool->Option R}(h0:K0=K .ret (Zsr t2 b5))(h1:K1= λt8 t9=>K (.exit 0) (Zss t2 b5 t8 t9))(n:Nat)(t4:Int):Zc4 N t2 b5 K0 K1 n t4=LM Zk2 N 0 100002 n (Zuu t2 t4 b5) K:=by
  subst h0 h1
  induction n generalizing t4 with
  |zero=>kernel_rfl
  |succ n ih=>rw[Zc4];simp only[ih];kernel_rfl
theorem Zz6(N:Nat)(p1:List Ka×List Kz):DN Zk2 N (p1,())=Zh1 N p1:=by
  conv=>rhs;rw[Zh1];simp(disch:=exact id (by kernel_rfl)) only[Zuv (R:=Unit×Kr) N (CF Zk2 N [1,0,1,0])]
  kernel_rfl
theorem Zz7(N:Nat):GW 61 (Znn N):=GF Zk2 N Tryz.func61 (GC (Z03 N) (GC (Zpw N) (GC (Zyd N) Wa))) (λd=>Zz6 N d.1)
def Zkj(N:Nat):Sig:=Sig.of [.v Jl true] [.v Jp false] (λd=>Zip N d.1)
def Zuw:Fn:=⟨Tryz.f72,Wz,Zkj,λN=>[(61,Znn N)]⟩
theorem Zux(N:Nat):GW 72 (Zkj N):=GF Zuw N Tryz.func72 (GC (Zz7 N) Wa)
def Zar(N:Nat):Sig:=Sig.of [.v Jae false,.clos 72 0] [.v Ja false] (λd=>Zx N d.1)
def Zab:Fn:=⟨Tryz.f109,λ |2=>[.canon [0,1,7,8,9]]|3=>[.canon [0,1,5,7,8]]|4=>[.canon [0,1,5,7,8,16]]|5=>[.canon [1,4]]|6=>[.canon [0,1,7,8]]|100002=>[.canon [0,1,7,8]]|_=>[],Zar,λN=>[(72,Zkj N)]⟩
def Zd4(s2:List Ko)(t4:Int):St:=⟨[(0,vV Jae s2),(1,.s (.one (.clos 72 []))),(7,vI (Wb s2)),(8,vI t4)],[],0⟩
def Zdn(s2:List Ko)(t7:Int):St:=⟨[(1,.s (.one (.clos 72 []))),(4,vI t7)],[],0⟩
def Zdo(s2:List Ko)(t8:Int)(t9:Bool):St:=⟨[(0,vV Jae s2),(1,.s (.one (.clos 72 []))),(7,vI (Wb s2)),(8,vI t8),(9,vB t9)],[],0⟩
theorem Zd5(N:Nat){R:Type}(K:Ex->St->Option R){s2:List Ko}{K0:Int->Option R}{K1:Int->Bool->Option R}(h0:K0= λt7=>K .ret (Zdn s2 t7))(h1:K1= λt8 t9=>K (.exit 0) (Zdo s2 t8 t9))(n:Nat)(t4:Int):Ze N s2 K0 K1 n t4=LM Zab N 0 100002 n (Zd4 s2 t4) K:=by
  subst h0 h1
  induction n generalizing t4 with
  |zero=>kernel_rfl
  |succ n ih=>rw[Ze];simp only[ih];kernel_rfl
theorem Zex(N:Nat)(s1:List Ko):DN Zab N (s1,())=Zx N s1:=by
  conv=>rhs;rw[Zx];simp(disch:=exact id (by kernel_rfl)) only[Zd5 (R:=Unit×Kh) N (CF Zab N [1,0,1,0])]
  kernel_rfl
theorem Zey(N:Nat):GW 109 (Zar N):=GF Zab N Tryz.func109 (GC (Zux N) Wa) (λd=>Zex N d.1)
def Zan(N:Nat):Sig:=Sig.of [.v Jae false,.clos 72 0] [.v Jp false] (λd=>Zap N d.1)
def Zeg:Fn:=⟨Tryz.f71,Wz,Zan,λN=>[(109,Zar N)]⟩
theorem Zeh(N:Nat):GW 71 (Zan N):=GF Zeg N Tryz.func71 (GC (Zey N) Wa)
def Zgw(N:Nat):Sig:=Sig.of [.v Jw true] [.v Jp false] (λd=>Zgj N d.1)
def Zxc:Fn:=⟨Tryz.f35,Wz,Zgw,λN=>[(63,Zl8 N),(71,Zan N)]⟩
theorem Zl9(N:Nat):GW 35 (Zgw N):=GF Zxc N Tryz.func35 (GC (Zxb N) (GC (Zeh N) Wa))
def Zmx(N:Nat):Sig:=Sig.of [] [.v Jaa false] (λd=>Zn0 N)
def Zye:Fn:=⟨Tryz.f79,Wz,Zmx,Wa5⟩
theorem Zyf(N:Nat):GW 79 (Zmx N):=GF Zye N Tryz.func79 Wa
def Z7(N:Nat):Sig:=Sig.of [.v Jk false] [.v Jaa false] (λd=>Zu N d.1)
def Zxd:Fn:=⟨Tryz.f93,Wz,Z7,Wa5⟩
theorem Zah(N:Nat):GW 93 (Z7 N):=GF Zxd N Tryz.func93 Wa
def Zk3(N:Nat):Sig:=Sig.of [.v Ja false,.v Ja false] [.v Ja false] (λd=>Zh2 N d.1 d.2.1)
def Zz8:Fn:=⟨Tryz.f102,Wz,Zk3,Wa5⟩
theorem Zpx(N:Nat):GW 102 (Zk3 N):=GF Zz8 N Tryz.func102 Wa
def Zl0(N:Nat):Sig:=Sig.of [.v Ja false] [.v Ja false] (λd=>Zhg N d.1)
def Z04:Fn:=⟨Tryz.f104,Wz,Zl0,Wa5⟩
theorem Zqy(N:Nat):GW 104 (Zl0 N):=GF Z04 N Tryz.func104 Wa
def Ziw(N:Nat):Sig:=Sig.of [.v Ja false] [.v Ja false] (λd=>Zh9 N d.1)
def Zxe:Fn:=⟨Tryz.f103,Wz,Ziw,λN=>[(105,Zef N)]⟩
theorem Zot(N:Nat):GW 103 (Ziw N):=GF Zxe N Tryz.func103 (GC (Zg9 N) Wa)
def Zfy(N:Nat):Sig:=Sig.of [.v Jk false] [.v Jp false] (λd=>Zcv N d.1)
def Zjs:Fn:=⟨Tryz.f67,λ |5=>[.canon [3,9,10,11,12]]|6=>[.canon [3,4,5,9,10,11]]|7=>[.canon [3,4,5,9,10,11,17]]|8=>[.canon [3,5,9,10,11,35]]|9=>[.canon [2]]|10=>[.canon [3,9,10,11]]|11=>[.canon [3,9,10,11]]|100005=>[.canon [3,9,10,11]]|_=>[],Zfy,λN=>[(102,Zk3 N),(44,Z0 N),(104,Zl0 N),(103,Ziw N)]⟩
def Zst(t2:List Int)(t4:Int)(l5:List Bool):St:=⟨[(3,.s (.one (.aptr 0))),(9,vV Jk t2),(10,vI (Wb t2)),(11,vI t4)],[(0,.arr Jp l5)],1⟩
def Zqz(t2:List Int):St:=⟨[(2,vB false)],[],0⟩
def Zq0(t2:List Int)(gU:Int)(g0:Bool)(cU:List Bool):St:=⟨[(3,.s (.one (.aptr 0))),(9,vV Jk t2),(10,vI (Wb t2)),(11,vI gU),(12,vB g0)],[(0,.arr Jp cU)],1⟩
theorem Zsu(N:Nat){R:Type}(K:Ex->St->Option R){t2:List Int}{K0:Option R}{K1:Int->Bool->(List Bool)->Option R}(h0:K0=K .ret (Zqz t2))(h1:K1= λgU g0 cU=>K (.exit 0) (Zq0 t2 gU g0 cU))(n:Nat)(t4:Int)(l5:List Bool):Zb5 N t2 K0 K1 n t4 l5=LM Zjs N 0 100005 n (Zst t2 t4 l5) K:=by
  subst h0 h1
  induction n generalizing t4 l5 with
  |zero=>kernel_rfl
  |succ n ih=>rw[Zb5];simp only[ih];kernel_rfl
theorem Zyg(N:Nat)(l1:List Int):DN Zjs N (l1,())=Zcv N l1:=by
  conv=>rhs;rw[Zcv];simp(disch:=exact id (by kernel_rfl)) only[Zsu (R:=Unit×Kr) N (CF Zjs N [1,1,1,0,1,0])]
  kernel_rfl
theorem Zjt(N:Nat):GW 67 (Zfy N):=GF Zjs N Tryz.func67 (GC (Zpx N) (GC (Zaa N) (GC (Zqy N) (GC (Zot N) Wa)))) (λd=>Zyg N d.1)
def Zkd(N:Nat):Sig:=Sig.of [.v Jk false,.v Ja false] [.v Ja false] (λd=>Zf4 N d.1 d.2.1)
def Zml:Fn:=⟨Tryz.f106,λ |2=>[.canon [1,7,8,9,10]]|3=>[.canon [1,5,6,7,8,9]]|4=>[.canon [1,5,7,8,9,21]]|5=>[.canon [4]]|6=>[.canon [1,7,8,9]]|100002=>[.canon [1,7,8,9]]|_=>[],Zkd,λN=>[(104,Zl0 N)]⟩
def Zxf(dH:Int)(t4:List Int)(t6:Int):St:=⟨[(1,vI dH),(7,vV Jk t4),(8,vI (Wb t4)),(9,vI t6)],[],0⟩
def Zv9(dH:Int)(t4:List Int)(t9:Int):St:=⟨[(4,vI t9)],[],0⟩
def Zwa(dH:Int)(t4:List Int)(az:Int)(aN:Bool):St:=⟨[(1,vI dH),(7,vV Jk t4),(8,vI (Wb t4)),(9,vI az),(10,vB aN)],[],0⟩
theorem Zxg(N:Nat){R:Type}(K:Ex->St->Option R){dH:Int}{t4:List Int}{K0:Int->Option R}{K1:Int->Bool->Option R}(h0:K0= λt9=>K .ret (Zv9 dH t4 t9))(h1:K1= λaz aN=>K (.exit 0) (Zwa dH t4 az aN))(n:Nat)(t6:Int):Zc8 N dH t4 K0 K1 n t6=LM Zml N 0 100002 n (Zxf dH t4 t6) K:=by
  subst h0 h1
  induction n generalizing t6 with
  |zero=>kernel_rfl
  |succ n ih=>rw[Zc8];simp only[ih];kernel_rfl
theorem Z1c(N:Nat)(l1:List Int)(bU:Int):DN Zml N (l1,bU,())=Zf4 N l1 bU:=by
  conv=>rhs;rw[Zf4];simp(disch:=exact id (by kernel_rfl)) only[Zxg (R:=Unit×Kh) N (CF Zml N [1,0,1,0])]
  kernel_rfl
theorem Zoj(N:Nat):GW 106 (Zkd N):=GF Zml N Tryz.func106 (GC (Zqy N) Wa) (λd=>Z1c N d.1 d.2.1)
def Zhl(N:Nat):Sig:=Sig.of [.v Jk false,.v Ja false] [.v Ja false,.v Jp false] (λd=>Zg3 N d.1 d.2.1)
def Zyh:Fn:=⟨Tryz.f68,Wz,Zhl,λN=>[(67,Zfy N),(105,Zef N),(106,Zkd N)]⟩
theorem Zmy(N:Nat):GW 68 (Zhl N):=GF Zyh N Tryz.func68 (GC (Zjt N) (GC (Zg9 N) (GC (Zoj N) Wa)))
def Zhm(N:Nat):Sig:=Sig.of [.v Jk false,.v Ja false,.v Ja false] [.v Jaa false,.v Ja false,.v Jp false] (λd=>Zeb N d.1 d.2.1 d.2.2.1)
def Zju:Fn:=⟨Tryz.f80,λ |10=>[.canon [1,2,9,13,57]]|11=>[.canon [1,2,9,13]]|100010=>[.canon [1,2,9,13]]|_=>[],Zhm,λN=>[(93,Z7 N),(67,Zfy N),(105,Zef N),(76,Za7 N),(106,Zkd N),(68,Zhl N),(102,Zk3 N),(103,Ziw N)]⟩
def Zsv(dn:Int)(l0:Int)(eK:Int)(bk:List Int):St:=⟨[(1,vI dn),(2,vI l0),(9,vO 0),(13,vI eK)],[(0,.arr Ja bk)],1⟩
def Zq1(dn:Int)(l0:Int)(bk:List Int)(oR:Int)(dE:Bool):St:=⟨[(1,vI dn),(2,vI l0),(9,vO 0),(13,vI oR),(57,vB dE)],[(0,.arr Ja bk)],1⟩
theorem Zsw(N:Nat){R:Type}(K:Ex->St->Option R){dn:Int}{l0:Int}{bk:List Int}{K0:Int->Bool->Option R}(h0:K0= λoR dE=>K (.exit 0) (Zq1 dn l0 bk oR dE))(n:Nat)(eK:Int):Zcm N dn l0 bk K0 n eK=LM Zju N 0 100010 n (Zsv dn l0 eK bk) K:=by
  subst h0
  induction n generalizing eK with
  |zero=>kernel_rfl
  |succ n ih=>rw[Zcm];simp only[ih];kernel_rfl
theorem Zyi(N:Nat)(l1:List Int)(bU:Int)(v3:Int):DN Zju N (l1,bU,v3,())=Zeb N l1 bU v3:=by
  conv=>rhs;rw[Zeb];simp(disch:=exact id (by kernel_rfl)) only[Zsw (R:=Unit×(Ki×Kl)) N (CF Zju N [1,1,1,1,1,0,0])]
  kernel_rfl
theorem Zmz(N:Nat):GW 80 (Zhm N):=GF Zju N Tryz.func80 (GC (Zah N) (GC (Zjt N) (GC (Zg9 N) (GC (Zbt N) (GC (Zoj N) (GC (Zmy N) (GC (Zpx N) (GC (Zot N) Wa)))))))) (λd=>Zyi N d.1 d.2.1 d.2.2.1)
def Zig(N:Nat):Sig:=Sig.of [.v Jk false] [.v Jaa false] (λd=>Zad N d.1)
def Zih:Fn:=⟨Tryz.f45,λ |5=>[.canon [3,10,11,12,13]]|6=>[.canon [3,4,5,10,11,12]]|7=>[.canon [3,4,5,10,11,12,18]]|8=>[.canon [3,10,11,12]]|9=>[.canon [3,10,11,12]]|100005=>[.canon [3,10,11,12]]|_=>[],Zig,λN=>[(78,Zlx N),(79,Zmx N),(80,Zhm N)]⟩
def Zp9(t4:List Int)(t6:Int)(l7:List Int):St:=⟨[(3,vO 0),(10,vV Jk t4),(11,vI (Wb t4)),(12,vI t6)],[(0,.arr Ja l7)],1⟩
def Zpl(t4:List Int)(az:Int)(aN:Bool)(bA:List Int):St:=⟨[(3,vO 0),(10,vV Jk t4),(11,vI (Wb t4)),(12,vI az),(13,vB aN)],[(0,.arr Ja bA)],1⟩
theorem Zqa(N:Nat){R:Type}(K:Ex->St->Option R){t4:List Int}{K0:Int->Bool->Ki->Option R}(h0:K0= λaz aN bA=>K (.exit 0) (Zpl t4 az aN bA))(n:Nat)(t6:Int)(l7:List Int):Zbn N t4 K0 n t6 l7=LM Zih N 0 100005 n (Zp9 t4 t6 l7) K:=by
  subst h0
  induction n generalizing t6 l7 with
  |zero=>kernel_rfl
  |succ n ih=>rw[Zbn];simp only[ih];kernel_rfl
theorem Zwb(N:Nat)(m1:List Int):DN Zih N (m1,())=Zad N m1:=by
  conv=>rhs;rw[Zad];simp(disch:=exact id (by kernel_rfl)) only[Zqa (R:=Unit×Kw) N (CF Zih N [1,1,1,0,1,0])]
  kernel_rfl
theorem Zoc(N:Nat):GW 45 (Zig N):=GF Zih N Tryz.func45 (GC (Zqw N) (GC (Zyf N) (GC (Zmz N) Wa))) (λd=>Zwb N d.1)
def Zk4(N:Nat):Sig:=Sig.of [.v Jk false] [.v Jaf true,.v Jp false] (λd=>Zau N d.1)
def Zk5:Fn:=⟨Tryz.f46,λ |5=>[.canon [2,4,12,13,14,15]]|6=>[.canon [2,4,6,12,13,14]]|7=>[.canon [2,4,12,13,14]]|8=>[.canon [2,4,12,13,14]]|100005=>[.adoptC 4 1 Jj,.canon [2,4,12,13,14]]|_=>[],Zk4,λN=>[(81,Zcp N)]⟩
def Zuy(t3:List Int)(t5:Int)(l8:List Kb):St:=⟨[(2,vP 0 0),(4,vP 1 0),(12,vV Jk t3),(13,vI (Wb t3)),(14,vI t5)],[(0,.box [.val Ja (0:Int),.nils]),(1,.box [.val Ja (0:Int),.own 2]),(2,.arr Jj l8)],3⟩
def Zsx(t3:List Int)(t9:Int)(az:Bool)(am:List Kb):St:=⟨[(2,vP 0 0),(4,vP 1 0),(12,vV Jk t3),(13,vI (Wb t3)),(14,vI t9),(15,vB az)],[(0,.box [.val Ja (0:Int),.nils]),(1,.box [.val Ja (0:Int),.own 2]),(2,.arr Jj am)],3⟩
theorem Zuz(N:Nat){R:Type}(K:Ex->St->Option R){t3:List Int}{K0:Int->Bool->Kt->Option R}(h0:K0= λt9 az am=>K (.exit 0) (Zsx t3 t9 az am))(n:Nat)(t5:Int)(l8:List Kb):Zc3 N t3 K0 n t5 l8=LM Zk5 N 0 100005 n (Zuy t3 t5 l8) K:=by
  subst h0
  induction n generalizing t5 l8 with
  |zero=>kernel_rfl
  |succ n ih=>rw[Zc3];simp only[ih];kernel_rfl
theorem Zz9(N:Nat)(l1:List Int):DN Zk5 N (l1,())=Zau N l1:=by
  conv=>rhs;rw[Zau];simp(disch:=exact id (by kernel_rfl)) only[Zuz (R:=Unit×(Kx×Kr)) N (CF Zk5 N [1,1,1,0,1,0])]
  kernel_rfl
theorem Zpy(N:Nat):GW 46 (Zk4 N):=GF Zk5 N Tryz.func46 (GC (Zgc N) Wa) (λd=>Zz9 N d.1)
def Zcq(N:Nat):Sig:=Sig.of [.box Jz] [] (λd=>Zbg N d.1)
def Zwc:Fn:=⟨Tryz.f110,Wz,Zcq,Wa5⟩
theorem Zgd(N:Nat):GW 110 (Zcq N):=GF Zwc N Tryz.func110 Wa
def Zkk(N:Nat):Sig:=Sig.of [.box Js,.v Ja false] [] (λd=>Ze9 N d.1 d.2.1)
def Zht:Fn:=⟨Tryz.f111,λ |3=>[.canon [0,1,4,5,17,18,19,20]]|4=>[.canon [0,1,4,5,6,7,17,18,19]]|5=>[.canon [0,1,4,5,17,18,19]]|6=>[.canon [0,1,4,5,17,18,19]]|100003=>[.canon [0,1,4,5,17,18,19]]|_=>[],Zkk,Wa5⟩
def Zpm(k3:Int)(r4:Nat)(cK:Bool)(t6:Int)(t7:Int)(b8:Int)(b9:Int)(aS:Int)(bc:Int)(bA:List Y_Root)(aH:List Kb)(aX:List Int)(bk:List Kb)(cZ:List Kq):St:=⟨[(0,vP 0 0),(1,vI k3),(4,.s (.one (.eptr 1 r4 0))),(5,vB cK),(17,vO 1),(18,vI t6),(19,vI t7)],[(0,.box [.val Ja b8,.val Ja b9,.val Ja aS,.own 2,.own 3,.val Ja bc,.own 4,.own 1,.own 5]),(1,.arr Jz bA),(2,.arr Jj aH),(3,.arr Ja aX),(4,.arr Jj bk),(5,.arr Ji cZ)],6⟩
def Zo8(k3:Int)(r4:Nat)(t6:Int)(b8:Int)(b9:Int)(aS:Int)(bc:Int)(bA:List Y_Root)(aH:List Kb)(aX:List Int)(bk:List Kb)(cZ:List Kq)(fK:Bool)(gU:Int)(g0:Bool):St:=⟨[(0,vP 0 0),(1,vI k3),(4,.s (.one (.eptr 1 r4 0))),(5,vB fK),(17,vO 1),(18,vI t6),(19,vI gU),(20,vB g0)],[(0,.box [.val Ja b8,.val Ja b9,.val Ja aS,.own 2,.own 3,.val Ja bc,.own 4,.own 1,.own 5]),(1,.arr Jz bA),(2,.arr Jj aH),(3,.arr Ja aX),(4,.arr Jj bk),(5,.arr Ji cZ)],6⟩
theorem Zpn(N:Nat){R:Type}(K:Ex->St->Option R){k3:Int}{r4:Nat}{t6:Int}{b8:Int}{b9:Int}{aS:Int}{bc:Int}{bA:List Y_Root}{aH:List Kb}{aX:List Int}{bk:List Kb}{cZ:List Kq}{K0:Bool->Int->Bool->Option R}(h0:K0= λfK gU g0=>K (.exit 0) (Zo8 k3 r4 t6 b8 b9 aS bc bA aH aX bk cZ fK gU g0))(n:Nat)(cK:Bool)(t7:Int):Zay N k3 r4 t6 b8 b9 aS bc bA aH aX bk cZ K0 n cK t7=LM Zht N 0 100003 n (Zpm k3 r4 cK t6 t7 b8 b9 aS bc bA aH aX bk cZ) K:=by
  subst h0
  induction n generalizing cK t7 with
  |zero=>kernel_rfl
  |succ n ih=>rw[Zay];simp only[ih];kernel_rfl
theorem Zu0(N:Nat)(w1:Y_World)(k2:Int):DN Zht N (w1,k2,())=Ze9 N w1 k2:=by
  conv=>rhs;rw[Ze9];simp(disch:=exact id (by kernel_rfl)) only[Zpn (R:=(Y_World×Unit)×Unit) N (CF Zht N [1,1,0,1,0])]
  kernel_rfl
theorem Zu1(N:Nat):GW 111 (Zkk N):=GF Zht N Tryz.func111 Wa (λd=>Zu0 N d.1 d.2.1)
def Zk6(N:Nat):Sig:=Sig.of [.v Ja false,.v Ja false,.v Ja false] [.v Jp false] (λd=>Zh3 N d.1 d.2.1 d.2.2.1)
def Z0a:Fn:=⟨Tryz.f192,Wz,Zk6,λN=>[(44,Z0 N)]⟩
theorem Zpz(N:Nat):GW 192 (Zk6 N):=GF Z0a N Tryz.func192 (GC (Zaa N) Wa)
def Zi8(N:Nat):Sig:=Sig.of [.v Jj true,.v Jj true] [.v Ja false] (λd=>Zhq N d.1 d.2.1)
def Zq2:Fn:=⟨Tryz.f193,Wz,Zi8,Wa5⟩
theorem Zq3(N:Nat):GW 193 (Zi8 N):=GF Zq2 N Tryz.func193 Wa
def Zfz(N:Nat):Sig:=Sig.of [.v Je false] [.v Jp false] (λd=>Zec N d.1)
def Zjv:Fn:=⟨Tryz.f151,λ |2=>[.canon [0,5,6,7,8]]|3=>[.canon [0,3,4,5,6,7]]|4=>[.canon [0,3,4,5,6,7,33]]|5=>[.canon [2]]|6=>[.canon [0,5,6,7,60]]|7=>[.canon [2]]|8=>[.canon [0,5,6,7]]|100002=>[.canon [0,5,6,7]]|_=>[],Zfz,λN=>[(192,Zk6 N),(193,Zi8 N)]⟩
def Zsy(l2:List Kb)(t5:Int):St:=⟨[(0,vV Je l2),(5,vV Je l2),(6,vI (Wb l2)),(7,vI t5)],[],0⟩
def Zq4(l2:List Kb):St:=⟨[(2,vB false)],[],0⟩
def Zq5(l2:List Kb)(az:Int)(aN:Bool):St:=⟨[(0,vV Je l2),(5,vV Je l2),(6,vI (Wb l2)),(7,vI az),(8,vB aN)],[],0⟩
theorem Zsz(N:Nat){R:Type}(K:Ex->St->Option R){l2:List Kb}{K0:Option R}{K1:Int->Bool->Option R}(h0:K0=K .ret (Zq4 l2))(h1:K1= λaz aN=>K (.exit 0) (Zq5 l2 az aN))(n:Nat)(t5:Int):Zav N l2 K0 K1 n t5=LM Zjv N 0 100002 n (Zsy l2 t5) K:=by
  subst h0 h1
  induction n generalizing t5 with
  |zero=>kernel_rfl
  |succ n ih=>rw[Zav];simp only[ih];kernel_rfl
theorem Zyj(N:Nat)(l1:List Kb):DN Zjv N (l1,())=Zec N l1:=by
  conv=>rhs;rw[Zec];simp(disch:=exact id (by kernel_rfl)) only[Zsz (R:=Unit×Kr) N (CF Zjv N [1,0,1,0])]
  kernel_rfl
theorem Zjw(N:Nat):GW 151 (Zfz N):=GF Zjv N Tryz.func151 (GC (Zpz N) (GC (Zq3 N) Wa)) (λd=>Zyj N d.1)
def Zm0(N:Nat):Sig:=Sig.of [.v Je false,.v Ja false] [.v Jaa false] (λd=>Zfs N d.1 d.2.1)
def Zjx:Fn:=⟨Tryz.f167,λ |5=>[.canon [1,5,12,13,14,15]]|6=>[.canon [1,5,7,12,13,14]]|7=>[.canon [1,5,7,12,13,14,21]]|8=>[.canon [1,5,12,13,14]]|9=>[.canon [1,5,12,13,14]]|100005=>[.canon [1,5,12,13,14]]|_=>[],Zm0,λN=>[(151,Zfz N)]⟩
def Zs0(eM:Int)(t5:List Kb)(t7:Int)(l8:List Int):St:=⟨[(1,vI eM),(5,vO 0),(12,vV Je t5),(13,vI (Wb t5)),(14,vI t7)],[(0,.arr Ja l8)],1⟩
def Zq6(eM:Int)(t5:List Kb)(t9:Int)(az:Bool)(am:List Int):St:=⟨[(1,vI eM),(5,vO 0),(12,vV Je t5),(13,vI (Wb t5)),(14,vI t9),(15,vB az)],[(0,.arr Ja am)],1⟩
theorem Zs1(N:Nat){R:Type}(K:Ex->St->Option R){eM:Int}{t5:List Kb}{K0:Int->Bool->Ki->Option R}(h0:K0= λt9 az am=>K (.exit 0) (Zq6 eM t5 t9 az am))(n:Nat)(t7:Int)(l8:List Int):Zb6 N eM t5 K0 n t7 l8=LM Zjx N 0 100005 n (Zs0 eM t5 t7 l8) K:=by
  subst h0
  induction n generalizing t7 l8 with
  |zero=>kernel_rfl
  |succ n ih=>rw[Zb6];simp only[ih];kernel_rfl
theorem Zyk(N:Nat)(l1:List Kb)(cn:Int):DN Zjx N (l1,cn,())=Zfs N l1 cn:=by
  conv=>rhs;rw[Zfs];simp(disch:=exact id (by kernel_rfl)) only[Zs1 (R:=Unit×Kw) N (CF Zjx N [1,1,1,0,1,0])]
  kernel_rfl
theorem Zyl(N:Nat):GW 167 (Zm0 N):=GF Zjx N Tryz.func167 (GC (Zjw N) Wa) (λd=>Zyk N d.1 d.2.1)
def Zii(N:Nat):Sig:=Sig.of [.box Js,.v Ja false] [] (λd=>Zft N d.1 d.2.1)
def Zwd:Fn:=⟨Tryz.f119,λ |0=>[.opn 10]|_=>[],Zii,Wa5⟩
theorem Zod(N:Nat):GW 119 (Zii N):=GF Zwd N Tryz.func119 Wa
def Zd6(N:Nat):Sig:=Sig.of [.v Ja false] [.v Jp false] (λd=>Zed N d.1)
def Zym:Fn:=⟨Tryz.f198,Wz,Zd6,λN=>[(44,Z0 N)]⟩
theorem Zhn(N:Nat):GW 198 (Zd6 N):=GF Zym N Tryz.func198 (GC (Zaa N) Wa)
def Zgm(N:Nat):Sig:=Sig.of [.v Jn false] [.v Jp false] (λd=>Zcs N d.1)
def Zk7:Fn:=⟨Tryz.f195,λ |2=>[.canon [0,5,6,7,8]]|3=>[.canon [0,4,5,6,7]]|4=>[.canon [0,5,6,7,20]]|5=>[.canon [2]]|6=>[.canon [0,5,6,7]]|100002=>[.canon [0,5,6,7]]|_=>[],Zgm,λN=>[(165,Zb3 N),(76,Za7 N)]⟩
def Zu2(l2:List Kc)(t5:Int):St:=⟨[(0,vV Jn l2),(5,vV Jn l2),(6,vI (Wb l2)),(7,vI t5)],[],0⟩
def Zs2(l2:List Kc):St:=⟨[(2,vB false)],[],0⟩
def Zs3(l2:List Kc)(az:Int)(aN:Bool):St:=⟨[(0,vV Jn l2),(5,vV Jn l2),(6,vI (Wb l2)),(7,vI az),(8,vB aN)],[],0⟩
theorem Zu3(N:Nat){R:Type}(K:Ex->St->Option R){l2:List Kc}{K0:Option R}{K1:Int->Bool->Option R}(h0:K0=K .ret (Zs2 l2))(h1:K1= λaz aN=>K (.exit 0) (Zs3 l2 az aN))(n:Nat)(t5:Int):Zc2 N l2 K0 K1 n t5=LM Zk7 N 0 100002 n (Zu2 l2 t5) K:=by
  subst h0 h1
  induction n generalizing t5 with
  |zero=>kernel_rfl
  |succ n ih=>rw[Zc2];simp only[ih];kernel_rfl
theorem Z0b(N:Nat)(l1:List Kc):DN Zk7 N (l1,())=Zcs N l1:=by
  conv=>rhs;rw[Zcs];simp(disch:=exact id (by kernel_rfl)) only[Zu3 (R:=Unit×Kr) N (CF Zk7 N [1,0,1,0])]
  kernel_rfl
theorem Zk8(N:Nat):GW 195 (Zgm N):=GF Zk7 N Tryz.func195 (GC (Zda N) (GC (Zbt N) Wa)) (λd=>Z0b N d.1)
def Zke(N:Nat):Sig:=Sig.of [.v Jn false,.v Ja false] [.v Ja false,.v Jp false] (λd=>Zgz N d.1 d.2.1)
def Zmm:Fn:=⟨Tryz.f169,λ |4=>[.canon [0,1,6,14]]|5=>[.canon [0,1,6]]|6=>[.canon [0,1,6,23]]|7=>[.canon [4,5]]|100004=>[.canon [0,1,6]]|_=>[],Zke,λN=>[(195,Zgm N)]⟩
def Zxh(l4:List Kc)(cx:Int)(i6:Int):St:=⟨[(0,vV Jn l4),(1,vI cx),(6,vI i6)],[],0⟩
def Zwe(l4:List Kc)(cx:Int)(t7:Int):St:=⟨[(4,vI t7),(5,vB true)],[],0⟩
def Zwf(l4:List Kc)(cx:Int)(i8:Int)(t9:Bool):St:=⟨[(0,vV Jn l4),(1,vI cx),(6,vI i8),(14,vB t9)],[],0⟩
theorem Zxi(N:Nat){R:Type}(K:Ex->St->Option R){l4:List Kc}{cx:Int}{K0:Int->Option R}{K1:Int->Bool->Option R}(h0:K0= λt7=>K .ret (Zwe l4 cx t7))(h1:K1= λi8 t9=>K (.exit 0) (Zwf l4 cx i8 t9))(n:Nat)(i6:Int):Zgf N l4 cx K0 K1 n i6=LM Zmm N 0 100004 n (Zxh l4 cx i6) K:=by
  subst h0 h1
  induction n generalizing i6 with
  |zero=>kernel_rfl
  |succ n ih=>rw[Zgf];simp only[ih];kernel_rfl
theorem Z1d(N:Nat)(l1:List Kc)(fv:Int):DN Zmm N (l1,fv,())=Zgz N l1 fv:=by
  conv=>rhs;rw[Zgz];simp(disch:=exact id (by kernel_rfl)) only[Zxi (R:=Unit×Kl) N (CF Zmm N [1,1,0,1,0])]
  kernel_rfl
theorem Zok(N:Nat):GW 169 (Zke N):=GF Zmm N Tryz.func169 (GC (Zk8 N) Wa) (λd=>Z1d N d.1 d.2.1)
def Zi9(N:Nat):Sig:=Sig.of [.v Jn false] [.v (.own Ju) false] (λd=>Zf3 N d.1)
def Zno:Fn:=⟨Tryz.f156,λ |5=>[.canon [0,3,11,12]]|6=>[.canon [0,3,4,11]]|7=>[.canon [0,3,4,5,6,11]]|8=>[.canon [0,3,4,5,11,20]]|9=>[.canon [0,3,11]]|10=>[.canon [0,3,11]]|100005=>[.canon [0,3,11]]|_=>[],Zi9,λN=>[(195,Zgm N),(169,Zke N)]⟩
def Zyn(l3:List Kc)(t4:Int)(l5:List Kc):St:=⟨[(0,vV Jn l3),(3,vO 0),(11,vI t4)],[(0,.arr Ju l5)],1⟩
def Zxj(l3:List Kc)(t7:Int)(t8:Bool)(l9:List Kc):St:=⟨[(0,vV Jn l3),(3,vO 0),(11,vI t7),(12,vB t8)],[(0,.arr Ju l9)],1⟩
theorem Zyo(N:Nat){R:Type}(K:Ex->St->Option R){l3:List Kc}{K0:Int->Bool->Ky->Option R}(h0:K0= λt7 t8 l9=>K (.exit 0) (Zxj l3 t7 t8 l9))(n:Nat)(t4:Int)(l5:List Kc):Zfp N l3 K0 n t4 l5=LM Zno N 0 100005 n (Zyn l3 t4 l5) K:=by
  subst h0
  induction n generalizing t4 l5 with
  |zero=>kernel_rfl
  |succ n ih=>rw[Zfp];simp only[ih];kernel_rfl
theorem Z1r(N:Nat)(l1:List Kc):DN Zno N (l1,())=Zf3 N l1:=by
  conv=>rhs;rw[Zf3];simp(disch:=exact id (by kernel_rfl)) only[Zyo (R:=Unit×(Ky×Unit)) N (CF Zno N [1,1,1,0,1,0])]
  kernel_rfl
theorem Znp(N:Nat):GW 156 (Zi9 N):=GF Zno N Tryz.func156 (GC (Zk8 N) (GC (Zok N) Wa)) (λd=>Z1r N d.1)
def Zm1(N:Nat):Sig:=Sig.of [.v Jn false] [.v Jaa false] (λd=>Zg4 N d.1)
def Zjy:Fn:=⟨Tryz.f199,λ |3=>[.canon [3,8,9,10,11]]|4=>[.canon [3,5,8,9,10]]|5=>[.canon [3,8,9,10]]|6=>[.canon [3,8,9,10]]|100003=>[.canon [3,8,9,10]]|_=>[],Zm1,λN=>[(156,Zi9 N)]⟩
def Zs4(t3:Int)(t4:Int)(l5:List Int)(l6:List Kc):St:=⟨[(3,vO 0),(8,vO 1),(9,vI t3),(10,vI t4)],[(0,.arr Ja l5),(1,.arr Ju l6)],2⟩
def Zq7(t3:Int)(l6:List Kc)(t7:Int)(t8:Bool)(l9:List Int):St:=⟨[(3,vO 0),(8,vO 1),(9,vI t3),(10,vI t7),(11,vB t8)],[(0,.arr Ja l9),(1,.arr Ju l6)],2⟩
theorem Zs5(N:Nat){R:Type}(K:Ex->St->Option R){t3:Int}{l6:List Kc}{K0:Int->Bool->Ki->Option R}(h0:K0= λt7 t8 l9=>K (.exit 0) (Zq7 t3 l6 t7 t8 l9))(n:Nat)(t4:Int)(l5:List Int):Zcn N t3 l6 K0 n t4 l5=LM Zjy N 0 100003 n (Zs4 t3 t4 l5 l6) K:=by
  subst h0
  induction n generalizing t4 l5 with
  |zero=>kernel_rfl
  |succ n ih=>rw[Zcn];simp only[ih];kernel_rfl
theorem Zyp(N:Nat)(l1:List Kc):DN Zjy N (l1,())=Zg4 N l1:=by
  conv=>rhs;rw[Zg4];simp(disch:=exact id (by kernel_rfl)) only[Zs5 (R:=Unit×Kw) N (CF Zjy N [1,1,0,1,0])]
  kernel_rfl
theorem Zyq(N:Nat):GW 199 (Zm1 N):=GF Zjy N Tryz.func199 (GC (Znp N) Wa) (λd=>Zyp N d.1)
def Zlh(N:Nat):Sig:=Sig.of [.v Ja false,.v Ja false,.v Jn false,.v Jn false] [.v Jd true,.v Jp false] (λd=>Zd1 N d.1 d.2.1 d.2.2.1 d.2.2.2.1)
def Zwg:Fn:=⟨Tryz.f168,Wz,Zlh,λN=>[(198,Zd6 N),(44,Z0 N),(195,Zgm N),(156,Zi9 N),(199,Zm1 N)]⟩
theorem Zwh(N:Nat):GW 168 (Zlh N):=GF Zwg N Tryz.func168 (GC (Zhn N) (GC (Zaa N) (GC (Zk8 N) (GC (Znp N) (GC (Zyq N) Wa)))))
def Zgy(N:Nat):Sig:=Sig.of [.box Js,.v Ja false,.v Ja false] [] (λd=>Zf9 N d.1 d.2.1 d.2.2.1)
def Zs6:Fn:=⟨Tryz.f138,λ |0=>[.opn 13]|_=>[],Zgy,λN=>[(167,Zm0 N),(119,Zii N),(168,Zlh N)]⟩
theorem Znq(N:Nat):GW 138 (Zgy N):=GF Zs6 N Tryz.func138 (GC (Zyl N) (GC (Zod N) (GC (Zwh N) Wa)))
def Zix(N:Nat):Sig:=Sig.of [.v Ja false] [.v Jv true,.v Jp false] (λd=>Zes N d.1)
def Zxk:Fn:=⟨Tryz.f170,Wz,Zix,λN=>[(165,Zb3 N)]⟩
theorem Zou(N:Nat):GW 170 (Zix N):=GF Zxk N Tryz.func170 (GC (Zda N) Wa)
def Zei(N:Nat):Sig:=Sig.of [.v Jab true] [.v Jp false] (λd=>Zck N d.1)
def Zl1:Fn:=⟨Tryz.f40,λ |2=>[.canon [1,6,7,8,9]]|3=>[.canon [1,4,6,7,8]]|4=>[.canon [1,6,7,8,29]]|5=>[.canon [2]]|6=>[.canon [1,6,7,8]]|100002=>[.canon [1,6,7,8]]|_=>[],Zei,λN=>[(76,Za7 N),(44,Z0 N)]⟩
def Zwi(t2:List Kb)(t4:Int)(b5:Int×List Kb):St:=⟨[(1,vP 0 0),(6,vV Je t2),(7,vI (Wb b5.2)),(8,vI t4)],[(0,.box [.val Ja b5.1,.val Je b5.2])],1⟩
def Zu4(t2:List Kb)(b5:Int×List Kb):St:=⟨[(2,vB false)],[],0⟩
def Zu5(t2:List Kb)(b5:Int×List Kb)(aL:Int)(be:Bool):St:=⟨[(1,vP 0 0),(6,vV Je t2),(7,vI (Wb b5.2)),(8,vI aL),(9,vB be)],[(0,.box [.val Ja b5.1,.val Je b5.2])],1⟩
theorem Zwj(N:Nat){R:Type}(K:Ex->St->Option R){t2:List Kb}{b5:Int×List Kb}{K0:Option R}{K1:Int->Bool->Option R}(h0:K0=K .ret (Zu4 t2 b5))(h1:K1= λaL be=>K (.exit 0) (Zu5 t2 b5 aL be))(n:Nat)(t4:Int):Zdx N t2 b5 K0 K1 n t4=LM Zl1 N 0 100002 n (Zwi t2 t4 b5) K:=by
  subst h0 h1
  induction n generalizing t4 with
  |zero=>kernel_rfl
  |succ n ih=>rw[Zdx];simp only[ih];kernel_rfl
theorem Z05(N:Nat)(m1:Int×List Kb):DN Zl1 N (m1,())=Zck N m1:=by
  conv=>rhs;rw[Zck];simp(disch:=exact id (by kernel_rfl)) only[Zwj (R:=Unit×Kr) N (CF Zl1 N [1,0,1,0])]
  kernel_rfl
theorem Zha(N:Nat):GW 40 (Zei N):=GF Zl1 N Tryz.func40 (GC (Zbt N) (GC (Zaa N) Wa)) (λd=>Z05 N d.1)
def Zm2(N:Nat):Sig:=Sig.of [.v Jv true] [.v Jp false] (λd=>Zlq N d.1)
def Zyr:Fn:=⟨Tryz.f200,Wz,Zm2,λN=>[(165,Zb3 N),(44,Z0 N),(76,Za7 N)]⟩
theorem Zys(N:Nat):GW 200 (Zm2 N):=GF Zyr N Tryz.func200 (GC (Zda N) (GC (Zaa N) (GC (Zbt N) Wa)))
def Zij(N:Nat):Sig:=Sig.of [.v Jab true,.v Ja false,.v Jv true] [.v Jv true] (λd=>Zdy N d.1 d.2.1 d.2.2.1)
def Zwk:Fn:=⟨Tryz.f171,Wz,Zij,λN=>[(40,Zei N),(200,Zm2 N)]⟩
theorem Zoe(N:Nat):GW 171 (Zij N):=GF Zwk N Tryz.func171 (GC (Zha N) (GC (Zys N) Wa))
def Zf7(N:Nat):Sig:=Sig.of [.box Jz] [] (λd=>Zcw N d.1)
def Zqb:Fn:=⟨Tryz.f172,Wz,Zf7,λN=>[(110,Zcq N)]⟩
theorem Zmf(N:Nat):GW 172 (Zf7 N):=GF Zqb N Tryz.func172 (GC (Zgd N) Wa)
def Zkl(N:Nat):Sig:=Sig.of [.boxal Js 3,.v Jv true] [] (λd=>Ziq N d.1 d.2.1 d.2.2.1)
def Zu6:Fn:=⟨Tryz.f139,λ |1000000=>[.unfE 1]|_=>[],Zkl,λN=>[(169,Zke N),(170,Zix N),(171,Zij N),(172,Zf7 N)]⟩
theorem Zu7(N:Nat):GW 139 (Zkl N):=GF Zu6 N Tryz.func139 (GC (Zok N) (GC (Zou N) (GC (Zoe N) (GC (Zmf N) Wa))))
def Zik(N:Nat):Sig:=Sig.of [.box Jz] [.v (.prod Ja Jad) true] (λd=>Zhh N d.1)
def Zwl:Fn:=⟨Tryz.f114,Wz,Zik,Wa5⟩
theorem Zof(N:Nat):GW 114 (Zik N):=GF Zwl N Tryz.func114 Wa
def Zil(N:Nat):Sig:=Sig.of [.v Jah true] [.v Jq true] (λd=>Zhi N d.1)
def Zwm:Fn:=⟨Tryz.f178,Wz,Zil,λN=>[(93,Z7 N)]⟩
theorem Zog(N:Nat):GW 178 (Zil N):=GF Zwm N Tryz.func178 (GC (Zah N) Wa)
def Zjz(N:Nat):Sig:=Sig.of [.v Jah true] [.v Jp false] (λd=>Zi4 N d.1)
def Zyt:Fn:=⟨Tryz.f179,Wz,Zjz,λN=>[(67,Zfy N),(76,Za7 N)]⟩
theorem Zo9(N:Nat):GW 179 (Zjz N):=GF Zyt N Tryz.func179 (GC (Zjt N) (GC (Zbt N) Wa))
def Znr(N:Nat):Sig:=Sig.of [.v Jj true] [.v Jp false] (λd=>Zmi N d.1)
def Z0c:Fn:=⟨Tryz.f180,Wz,Znr,λN=>[(105,Zef N),(76,Za7 N)]⟩
theorem Z0d(N:Nat):GW 180 (Znr N):=GF Z0c N Tryz.func180 (GC (Zg9 N) (GC (Zbt N) Wa))
def Ziy(N:Nat):Sig:=Sig.of [.v Jk false,.v Ja false] [.v Jaa false,.v Ja false,.v Jp false] (λd=>Zia N d.1 d.2.1)
def Zxl:Fn:=⟨Tryz.f181,Wz,Ziy,λN=>[(93,Z7 N),(67,Zfy N),(105,Zef N),(106,Zkd N),(68,Zhl N)]⟩
theorem Zov(N:Nat):GW 181 (Ziy N):=GF Zxl N Tryz.func181 (GC (Zah N) (GC (Zjt N) (GC (Zg9 N) (GC (Zoj N) (GC (Zmy N) Wa)))))
def Zm3(N:Nat):Sig:=Sig.of [.v Jah true,.v Jj true] [.v Jq true,.v Jp false] (λd=>Zlr N d.1 d.2.1)
def Zyu:Fn:=⟨Tryz.f146,Wz,Zm3,λN=>[(178,Zil N),(179,Zjz N),(180,Znr N),(80,Zhm N),(181,Ziy N)]⟩
theorem Zyv(N:Nat):GW 146 (Zm3 N):=GF Zyu N Tryz.func146 (GC (Zog N) (GC (Zo9 N) (GC (Z0d N) (GC (Zmz N) (GC (Zov N) Wa)))))
def Zhu(N:Nat):Sig:=Sig.of [.boxal Js 3] [] (λd=>Zcb N d.1 d.2.1)
def Zu8:Fn:=⟨Tryz.f115,λ |1000000=>[.unfE 1]|_=>[],Zhu,λN=>[(146,Zm3 N)]⟩
theorem Znx(N:Nat):GW 115 (Zhu N):=GF Zu8 N Tryz.func115 (GC (Zyv N) Wa)
def Zc5(N:Nat):Sig:=Sig.of [.v Jn false] [.v (.own Ju) false] (λd=>Zbl N d.1)
def Zxm:Fn:=⟨Tryz.f147,Wz,Zc5,Wa5⟩
theorem Zgx(N:Nat):GW 147 (Zc5 N):=GF Zxm N Tryz.func147 Wa
def Zl2(N:Nat):Sig:=Sig.of [.v Jc false,.v Ja false] [.v Ja false] (λd=>Zhe N d.1 d.2.1)
def Zl3:Fn:=⟨Tryz.f96,λ |5=>[.canon [0,5,6,25]]|6=>[.canon [0,5,6]]|7=>[.canon [0,5,6]]|8=>[.canon [0,5,6,36]]|9=>[.canon [4]]|100005=>[.canon [0,5,6]]|_=>[],Zl2,λN=>[(44,Z0 N),(136,Zi7 N)]⟩
def Zwn(ay:List Ka)(n5:Int)(k6:Int):St:=⟨[(0,vV Jc ay),(5,vI n5),(6,vI k6)],[],0⟩
def Zu9(ay:List Ka)(t8:Int):St:=⟨[(4,vI t8)],[],0⟩
def Zva(ay:List Ka)(n9:Int)(k10:Int)(aN:Bool):St:=⟨[(0,vV Jc ay),(5,vI n9),(6,vI k10),(25,vB aN)],[],0⟩
theorem Zwo(N:Nat){R:Type}(K:Ex->St->Option R){ay:List Ka}{K0:Int->Option R}{K1:Int->Int->Bool->Option R}(h0:K0= λt8=>K .ret (Zu9 ay t8))(h1:K1= λn9 k10 aN=>K (.exit 0) (Zva ay n9 k10 aN))(n:Nat)(n5:Int)(k6:Int):Zdz N ay K0 K1 n n5 k6=LM Zl3 N 0 100005 n (Zwn ay n5 k6) K:=by
  subst h0 h1
  induction n generalizing n5 k6 with
  |zero=>kernel_rfl
  |succ n ih=>rw[Zdz];simp only[ih];kernel_rfl
theorem Z06(N:Nat)(ac:List Ka)(i2:Int):DN Zl3 N (ac,i2,())=Zhe N ac i2:=by
  conv=>rhs;rw[Zhe];simp(disch:=exact id (by kernel_rfl)) only[Zwo (R:=Unit×Kh) N (CF Zl3 N [1,1,1,0,1,0])]
  kernel_rfl
theorem Zq8(N:Nat):GW 96 (Zl2 N):=GF Zl3 N Tryz.func96 (GC (Zaa N) (GC (Zn7 N) Wa)) (λd=>Z06 N d.1 d.2.1)
def Zj0(N:Nat):Sig:=Sig.of [.box Js,.v Ja false,.v Jc false] [] (λd=>Zib N d.1 d.2.1 d.2.2.1)
def Zs7:Fn:=⟨Tryz.f140,λ |0=>[.opn 13]|_=>[],Zj0,λN=>[(138,Zgy N),(114,Zik N),(115,Zhu N),(93,Z7 N),(147,Zc5 N),(96,Zl2 N)]⟩
theorem Zs8(N:Nat):GW 140 (Zj0 N):=GF Zs7 N Tryz.func140 (GC (Znq N) (GC (Zof N) (GC (Znx N) (GC (Zah N) (GC (Zgx N) (GC (Zq8 N) Wa))))))
def Zma(N:Nat):Sig:=Sig.of [.v Ja false,.v Jk false,.v Jn false,.v Ja false] [.v Jy true] (λd=>Zgg N d.1 d.2.1 d.2.2.1 d.2.2.2.1)
def Zfb:Fn:=⟨Tryz.f141,λ |3=>[.canon [1,3,8,9,19,20,21,22]]|4=>[.canon [1,3,8,9,11,19,20,21]]|5=>[.canon [1,3,8,9,19,20,21]]|6=>[.canon [1,3,8,9,19,20,21]]|8=>[.canon [1,8,9,36,37,38]]|9=>[.nest 44 Jh,.canon [1,8,9,36,37]]|10=>[.canon [1,8,9,36,37]]|100003=>[.adoptC 9 6 Jj,.canon [1,3,8,9,19,20,21]]|100008=>[.adoptC 9 9 Jh,.canon [1,8,9,36,37]]|_=>[],Zma,λN=>[(93,Z7 N),(156,Zi9 N)]⟩
def Zq9(dh:List Int)(di:Int)(t9:Int)(az:Int)(bn:Int)(cq:List Kc)(cU:List Int)(ci:List Kb):St:=⟨[(1,vV Jk dh),(3,vI di),(8,vP 0 0),(9,vP 1 0),(19,vO 2),(20,vI t9),(21,vI az)],[(0,.box [.val Ja (0:Int),.val Ja (0:Int),.val Ja (0:Int),.val Jp false,.nils,.nils,.nils,.nils,.nils,.nils]),(1,.box [.val Ja bn,.val Ja (0:Int),.val Ja (0:Int),.val Jp false,.own 3,.own 2,.own 4,.nils,.nils,.nils]),(2,.arr Ju cq),(3,.arr Ja cU),(4,.arr Jj ci)],5⟩
def Zqc(dh:List Int)(di:Int)(t9:Int)(bn:Int)(cq:List Kc)(cU:List Int)(t22:Int)(eW:Bool)(cW:List Kb):St:=⟨[(1,vV Jk dh),(3,vI di),(8,vP 0 0),(9,vP 1 0),(19,vO 2),(20,vI t9),(21,vI t22),(22,vB eW)],[(0,.box [.val Ja (0:Int),.val Ja (0:Int),.val Ja (0:Int),.val Jp false,.nils,.nils,.nils,.nils,.nils,.nils]),(1,.box [.val Ja bn,.val Ja (0:Int),.val Ja (0:Int),.val Jp false,.own 3,.own 2,.own 4,.nils,.nils,.nils]),(2,.arr Ju cq),(3,.arr Ja cU),(4,.arr Jj cW)],5⟩
theorem Zra(N:Nat){R:Type}(K:Ex->St->Option R){dh:List Int}{di:Int}{t9:Int}{bn:Int}{cq:List Kc}{cU:List Int}{K0:Int->Bool->Kt->Option R}(h0:K0= λt22 eW cW=>K (.exit 0) (Zqc dh di t9 bn cq cU t22 eW cW))(n:Nat)(az:Int)(ci:List Kb):Zcd N dh di t9 bn cq cU K0 n az ci=LM Zfb N 0 100003 n (Zq9 dh di t9 az bn cq cU ci) K:=by
  subst h0
  induction n generalizing az ci with
  |zero=>kernel_rfl
  |succ n ih=>rw[Zcd];simp only[ih];kernel_rfl
def Zrb(cd:List Int)(kh:Int)(kU:Int)(ja:Int)(lN:List Int)(lO:List Kc)(ki:List Kb)(d9:List Y_KidRun):St:=⟨[(1,vV Jk cd),(8,vP 0 0),(9,vP 1 0),(36,vI kh),(37,vI kU)],[(0,.box [.val Ja (0:Int),.val Ja (0:Int),.val Ja (0:Int),.val Jp false,.nils,.nils,.nils,.nils,.nils,.nils]),(1,.box [.val Ja ja,.val Ja (0:Int),.val Ja (0:Int),.val Jp false,.own 2,.own 3,.own 4,.nils,.nils,.own 5]),(2,.arr Ja lN),(3,.arr Ju lO),(4,.arr Jj ki),(5,.arr Jh d9)],6⟩
def Zqd(cd:List Int)(kh:Int)(ja:Int)(lN:List Int)(lO:List Kc)(ki:List Kb)(t45:Int)(t46:Bool)(lY:List Y_KidRun):St:=⟨[(1,vV Jk cd),(8,vP 0 0),(9,vP 1 0),(36,vI kh),(37,vI t45),(38,vB t46)],[(0,.box [.val Ja (0:Int),.val Ja (0:Int),.val Ja (0:Int),.val Jp false,.nils,.nils,.nils,.nils,.nils,.nils]),(1,.box [.val Ja ja,.val Ja (0:Int),.val Ja (0:Int),.val Jp false,.own 2,.own 3,.own 4,.nils,.nils,.own 5]),(2,.arr Ja lN),(3,.arr Ju lO),(4,.arr Jj ki),(5,.arr Jh lY)],6⟩
theorem Zrc(N:Nat){R:Type}(K:Ex->St->Option R){cd:List Int}{kh:Int}{ja:Int}{lN:List Int}{lO:List Kc}{ki:List Kb}{K0:Int->Bool->(List Y_KidRun)->Option R}(h0:K0= λt45 t46 lY=>K (.exit 2) (Zqd cd kh ja lN lO ki t45 t46 lY))(n:Nat)(kU:Int)(d9:List Y_KidRun):Zbh N cd kh ja lN lO ki K0 n kU d9=LM Zfb N 1 100008 n (Zrb cd kh kU ja lN lO ki d9) K:=by
  subst h0
  induction n generalizing kU d9 with
  |zero=>kernel_rfl
  |succ n ih=>rw[Zbh];simp only[ih];kernel_rfl
theorem Zxn(N:Nat)(pV:Int)(bf:List Int)(ew:List Kc)(gi:Int):DN Zfb N (pV,bf,ew,gi,())=Zgg N pV bf ew gi:=by
  conv=>rhs;rw[Zgg];simp(disch:=exact id (by kernel_rfl)) only[Zra (R:=Unit×(Y_Family×Unit)) N (CF Zfb N [1,1,0,1,0]),Zrc (R:=Unit×(Y_Family×Unit)) N (CF Zfb N [1,1,1,0,1,0])]
  kernel_rfl
theorem Zxo(N:Nat):GW 141 (Zma N):=GF Zfb N Tryz.func141 (GC (Zah N) (GC (Znp N) Wa)) (λd=>Zxn N d.1 d.2.1 d.2.2.1 d.2.2.2.1)
def Zli(N:Nat):Sig:=Sig.of [.v Jv true] [.v Ja false,.v Ja false] (λd=>Zjh N d.1)
def Zwp:Fn:=⟨Tryz.f173,Wz,Zli,λN=>[(131,Zh5 N)]⟩
theorem Zwq(N:Nat):GW 173 (Zli N):=GF Zwp N Tryz.func173 (GC (Zmk N) Wa)
def Zim(N:Nat):Sig:=Sig.of [.v Je false] [.v (.own Jj) false] (λd=>Zd2 N d.1)
def Zwr:Fn:=⟨Tryz.f150,Wz,Zim,Wa5⟩
theorem Zoh(N:Nat):GW 150 (Zim N):=GF Zwr N Tryz.func150 Wa
def Zns(N:Nat):Sig:=Sig.of [.v Je false,.v Ja false,.v Ja false,.v Ja false] [.v Jaa false] (λd=>Zh4 N d.1 d.2.1 d.2.2.1 d.2.2.2.1)
def Zk9:Fn:=⟨Tryz.f201,λ |5=>[.canon [1,2,3,9,21,22,23,24]]|6=>[.canon [1,2,3,9,11,21,22,23]]|7=>[.canon [1,2,3,9,11,21,22,23,45]]|8=>[.canon [1,2,3,9,21,22,23]]|9=>[.canon [1,2,3,9,21,22,23]]|100005=>[.canon [1,2,3,9,21,22,23]]|_=>[],Zns,λN=>[(151,Zfz N),(44,Z0 N)]⟩
def Zvb(dp:Int)(bW:Int)(bX:Int)(az:List Kb)(aL:Int)(aH:List Int):St:=⟨[(1,vI dp),(2,vI bW),(3,vI bX),(9,vO 0),(21,vV Je az),(22,vI (Wb az)),(23,vI aL)],[(0,.arr Ja aH)],1⟩
def Zs9(dp:Int)(bW:Int)(bX:Int)(az:List Kb)(gh:Int)(bP:Bool)(cZ:List Int):St:=⟨[(1,vI dp),(2,vI bW),(3,vI bX),(9,vO 0),(21,vV Je az),(22,vI (Wb az)),(23,vI gh),(24,vB bP)],[(0,.arr Ja cZ)],1⟩
theorem Zvc(N:Nat){R:Type}(K:Ex->St->Option R){dp:Int}{bW:Int}{bX:Int}{az:List Kb}{K0:Int->Bool->Ki->Option R}(h0:K0= λgh bP cZ=>K (.exit 0) (Zs9 dp bW bX az gh bP cZ))(n:Nat)(aL:Int)(aH:List Int):Zbb N dp bW bX az K0 n aL aH=LM Zk9 N 0 100005 n (Zvb dp bW bX az aL aH) K:=by
  subst h0
  induction n generalizing aL aH with
  |zero=>kernel_rfl
  |succ n ih=>rw[Zbb];simp only[ih];kernel_rfl
theorem Z0e(N:Nat)(l1:List Kb)(cn:Int)(co:Int)(bY:Int):DN Zk9 N (l1,cn,co,bY,())=Zh4 N l1 cn co bY:=by
  conv=>rhs;rw[Zh4];simp(disch:=exact id (by kernel_rfl)) only[Zvc (R:=Unit×Kw) N (CF Zk9 N [1,1,1,0,1,0])]
  kernel_rfl
theorem Z0f(N:Nat):GW 201 (Zns N):=GF Zk9 N Tryz.func201 (GC (Zjw N) (GC (Zaa N) Wa)) (λd=>Z0e N d.1 d.2.1 d.2.2.1 d.2.2.2.1)
def Zbk(N:Nat):Sig:=Sig.of [.mut Jj,.clos 193 0] [] (λd=>Zw N d.1)
theorem Zem:CmpOk Tryz.prog 193 Jj WvH cfH:=by
  intro G x y us vs w hx hy h1 h2;obtain⟨_,_,rfl,a1,_,_,rfl,a2,a3⟩:=h1;obtain⟨_,_,rfl,b1,_,_,rfl,b2,b3⟩:=h2;simp only[Enc]at a1 a2 a3 b1 b2 b3;subst a1 a2 a3 b1 b2 b3;simp only[Xbj,Xcb];unfold WvH at hx hy;simp only[Xh]at hx hy
  go_enter Tryz.func193,Tryz.ntmps193
  go_wp2
  rw[guard_run (a:=x.2.1) (b:=y.2.1),Result.andThen_ok];rw[neq_run (a:=x.2.1) (b:=y.2.1),Result.andThen_ok];rcases hb:(bne (α:=Int) x.2.1 y.2.1)with _|_
  . go_wp2
    rw[sub_run (Wg2 hx.1) (Wg2 hy.1) (Wwr hb)]
    go_wp2
    go_ret
    exact⟨rfl,two_grow _ _ _⟩
  . go_wp2
    rw[sub_run (Wg2 hx.2) (Wg2 hy.2) (WwD hb)]
    go_wp2
    go_ret
    exact⟨rfl,two_grow _ _ _⟩
theorem Zen(N:Nat):GW 202 (Zbk N):=⟨Wdz Tryz.func202 (show Wp7 Tryz.f202=true by kernel_rfl),good_sortF sortFH (e:=.prod Ja Ju) rfl (by decide) Tryz.isAgg199 Tryz.sizeOf199 (enters_of Tryz.func193 (by kernel_rfl) rfl) Wxj Zem N⟩
def Zm4(N:Nat):Sig:=Sig.of [.v Je false,.v Ja false,.v Ja false,.v Ja false] [.v (.own Jj) false,.v Jp false] (λd=>Zg5 N d.1 d.2.1 d.2.2.1 d.2.2.2.1)
def Zj1:Fn:=⟨Tryz.f174,λ |5=>[.canon [1,2,3,10,35,36,37,38]]|6=>[.canon [1,2,3,10,11,12,35,36,37]]|7=>[.canon [1,2,3,10,11,12,35,36,37,51]]|8=>[.canon [10]]|9=>[.canon [8,9]]|10=>[.canon [1,2,3,10,35,36,37]]|100005=>[.canon [1,2,3,10,35,36,37]]|_=>[],Zm4,λN=>[(150,Zim N),(151,Zfz N),(192,Zk6 N),(201,Zns N),(202,Zbk N)]⟩
def Zta(dI:Int)(bE:Int)(bF:Int)(aL:Int)(be:Int)(aX:List Kb):St:=⟨[(1,vI dI),(2,vI bE),(3,vI bF),(10,vO 0),(35,vO 0),(36,vI aL),(37,vI be)],[(0,.arr Jj aX)],1⟩
def Zrd(dI:Int)(bE:Int)(bF:Int)(aL:Int)(aX:List Kb)(bk:List Kb):St:=⟨[(8,vO 0),(9,vB true)],[(0,.arr Jj bk)],1⟩
def Zre(dI:Int)(bE:Int)(bF:Int)(aL:Int)(aX:List Kb)(gT:Int)(dE:Bool):St:=⟨[(1,vI dI),(2,vI bE),(3,vI bF),(10,vO 0),(35,vO 0),(36,vI aL),(37,vI gT),(38,vB dE)],[(0,.arr Jj aX)],1⟩
theorem Ztb(N:Nat){R:Type}(K:Ex->St->Option R){dI:Int}{bE:Int}{bF:Int}{aL:Int}{aX:List Kb}{K0:Kt->Option R}{K1:Int->Bool->Option R}(h0:K0= λbk=>K .ret (Zrd dI bE bF aL aX bk))(h1:K1= λgT dE=>K (.exit 0) (Zre dI bE bF aL aX gT dE))(n:Nat)(be:Int):Zb7 N dI bE bF aL aX K0 K1 n be=LM Zj1 N 0 100005 n (Zta dI bE bF aL be aX) K:=by
  subst h0 h1
  induction n generalizing be with
  |zero=>kernel_rfl
  |succ n ih=>rw[Zb7];simp only[ih];kernel_rfl
theorem Zyw(N:Nat)(l1:List Kb)(cn:Int)(co:Int)(bY:Int):DN Zj1 N (l1,cn,co,bY,())=Zg5 N l1 cn co bY:=by
  conv=>rhs;rw[Zg5];simp(disch:=exact id (by kernel_rfl)) only[Ztb (R:=Unit×(Kt×Kr)) N (CF Zj1 N [1,1,1,0,1,0])]
  kernel_rfl
theorem Zyx(N:Nat):GW 174 (Zm4 N):=GF Zj1 N Tryz.func174 (GC (Zoh N) (GC (Zjw N) (GC (Zpz N) (GC (Z0f N) (GC (Zen N) Wa))))) (λd=>Zyw N d.1 d.2.1 d.2.2.1 d.2.2.2.1)
def Znt(N:Nat):Sig:=Sig.of [.v Ja false,.v Ja false] [.v Jj true] (λd=>Zka N d.1 d.2.1)
def Z0g:Fn:=⟨Tryz.f203,Wz,Znt,Wa5⟩
theorem Z0h(N:Nat):GW 203 (Znt N):=GF Z0g N Tryz.func203 Wa
def Zm5(N:Nat):Sig:=Sig.of [.v Jah true,.v Jv true,.v Jk false] [.v Jq true,.v Jaa false,.v Jj true,.v Jp false] (λd=>Zls N d.1 d.2.1 d.2.2.1)
def Zyy:Fn:=⟨Tryz.f175,Wz,Zm5,λN=>[(178,Zil N),(93,Z7 N),(179,Zjz N),(81,Zcp N),(129,Zjq N),(80,Zhm N),(203,Znt N),(68,Zhl N),(181,Ziy N)]⟩
theorem Zyz(N:Nat):GW 175 (Zm5 N):=GF Zyy N Tryz.func175 (GC (Zog N) (GC (Zah N) (GC (Zo9 N) (GC (Zgc N) (GC (Zo5 N) (GC (Zmz N) (GC (Z0h N) (GC (Zmy N) (GC (Zov N) Wa)))))))))
def Zj2(N:Nat):Sig:=Sig.of [.box Js,.v Ja false,.v Jv true] [] (λd=>Zga N d.1 d.2.1 d.2.2.1)
def Ztc:Fn:=⟨Tryz.f142,λ |1=>[.opn 20]|_=>[],Zj2,λN=>[(173,Zli N),(174,Zm4 N),(172,Zf7 N),(175,Zm5 N)]⟩
theorem Ztd(N:Nat):GW 142 (Zj2 N):=GF Ztc N Tryz.func142 (GC (Zwq N) (GC (Zyx N) (GC (Zmf N) (GC (Zyz N) Wa))))
def Zgn(N:Nat):Sig:=Sig.of [.rp (TY_Root)] [.vj Jv] (λd=>Zde N d.1)
def Zrf:Fn:=⟨Tryz.f114,Wz,Zgn,Wa5⟩
theorem Znb(N:Nat):GW 114 (Zgn N):=GF Zrf N Tryz.func114 Wa
def Zmn(N:Nat):Sig:=Sig.of [.v Jv true,.v Jk false] [.v Jaa false,.v Jp false] (λd=>Zmd N d.1 d.2.1)
def Z1e:Fn:=⟨Tryz.f95,Wz,Zmn,λN=>[(93,Z7 N),(131,Zh5 N),(81,Zcp N)]⟩
theorem Ztx(N:Nat):GW 95 (Zmn N):=GF Z1e N Tryz.func95 (GC (Zah N) (GC (Zmk N) (GC (Zgc N) Wa)))
def Zlj(N:Nat):Sig:=Sig.of [.box Js,.v Ja false,.v Jl true] [] (λd=>Zhj N d.1 d.2.1 d.2.2.1)
def Zws:Fn:=⟨Tryz.f112,λ |1=>[.opn 14]|_=>[],Zlj,λN=>[(138,Zgy N),(139,Zkl N),(140,Zj0 N),(141,Zma N),(142,Zj2 N),(93,Z7 N),(114,Zgn N),(95,Zmn N)]⟩
theorem Zwt(N:Nat):GW 112 (Zlj N):=GF Zws N Tryz.func112 (GC (Znq N) (GC (Zu7 N) (GC (Zs8 N) (GC (Zxo N) (GC (Ztd N) (GC (Zah N) (GC (Znb N) (GC (Ztx N) Wa))))))))
def Zlk(N:Nat):Sig:=Sig.of [.v (TY_KidRun) true] [.v Jp false] (λd=>Zms N d.1)
def Zwu:Fn:=⟨Tryz.f177,Wz,Zlk,Wa5⟩
theorem Zwv(N:Nat):GW 177 (Zlk N):=GF Zwu N Tryz.func177 Wa
def Zao(N:Nat):Sig:=Sig.of [.v Jac false,.clos 177 0] [.v Ja false] (λd=>Zv N d.1)
def Z4:Fn:=⟨Tryz.f204,λ |2=>[.canon [0,1,7,8,9]]|3=>[.canon [0,1,5,7,8]]|4=>[.canon [0,1,5,7,8,16]]|5=>[.canon [1,4]]|6=>[.canon [0,1,7,8]]|100002=>[.canon [0,1,7,8]]|_=>[],Zao,λN=>[(177,Zlk N)]⟩
def Zdb(s2:List Y_KidRun)(t4:Int):St:=⟨[(0,vV Jac s2),(1,.s (.one (.clos 177 []))),(7,vI (Wb s2)),(8,vI t4)],[],0⟩
def Zc6(s2:List Y_KidRun)(t7:Int):St:=⟨[(1,.s (.one (.clos 177 []))),(4,vI t7)],[],0⟩
def Zc7(s2:List Y_KidRun)(t8:Int)(t9:Bool):St:=⟨[(0,vV Jac s2),(1,.s (.one (.clos 177 []))),(7,vI (Wb s2)),(8,vI t8),(9,vB t9)],[],0⟩
theorem Zdc(N:Nat){R:Type}(K:Ex->St->Option R){s2:List Y_KidRun}{K0:Int->Option R}{K1:Int->Bool->Option R}(h0:K0= λt7=>K .ret (Zc6 s2 t7))(h1:K1= λt8 t9=>K (.exit 0) (Zc7 s2 t8 t9))(n:Nat)(t4:Int):Zg N s2 K0 K1 n t4=LM Z4 N 0 100002 n (Zdb s2 t4) K:=by
  subst h0 h1
  induction n generalizing t4 with
  |zero=>kernel_rfl
  |succ n ih=>rw[Zg];simp only[ih];kernel_rfl
theorem Zej(N:Nat)(s1:List Y_KidRun):DN Z4 N (s1,())=Zv N s1:=by
  conv=>rhs;rw[Zv];simp(disch:=exact id (by kernel_rfl)) only[Zdc (R:=Unit×Kh) N (CF Z4 N [1,0,1,0])]
  kernel_rfl
theorem Zek(N:Nat):GW 204 (Zao N):=GF Z4 N Tryz.func204 (GC (Zwv N) Wa) (λd=>Zej N d.1)
def Zai(N:Nat):Sig:=Sig.of [.v Jac false,.clos 177 0] [.v Jp false] (λd=>Zal N d.1)
def Zdf:Fn:=⟨Tryz.f176,Wz,Zai,λN=>[(204,Zao N)]⟩
theorem Zdg(N:Nat):GW 176 (Zai N):=GF Zdf N Tryz.func176 (GC (Zek N) Wa)
def Zm6(N:Nat):Sig:=Sig.of [.v (TY_Family) true] [.v Jp false] (λd=>Zlt N d.1)
def Zy0:Fn:=⟨Tryz.f143,Wz,Zm6,λN=>[(176,Zai N)]⟩
theorem Zy1(N:Nat):GW 143 (Zm6 N):=GF Zy0 N Tryz.func143 (GC (Zdg N) Wa)
def Zm7(N:Nat):Sig:=Sig.of [.v (TY_Family) true] [.v Jaa false] (λd=>Zg6 N d.1)
def Zj3:Fn:=⟨Tryz.f144,λ |5=>[.canon [3,20,21,22,23]]|6=>[.canon [3,4,5,20,21,22]]|7=>[.canon [3,4,5,20,21,22]]|8=>[.canon [3,4,5,20,21,22,37]]|9=>[.canon [3,20,21,22]]|10=>[.canon [3,20,21,22]]|100005=>[.canon [3,20,21,22]]|_=>[],Zm7,λN=>[(81,Zcp N),(93,Z7 N)]⟩
def Zte(t4:List Y_KidRun)(t5:Int)(t6:Int)(l7:List Int):St:=⟨[(3,vO 0),(20,vV Jac t4),(21,vI t5),(22,vI t6)],[(0,.arr Ja l7)],1⟩
def Zrg(t4:List Y_KidRun)(t5:Int)(az:Int)(aN:Bool)(bA:List Int):St:=⟨[(3,vO 0),(20,vV Jac t4),(21,vI t5),(22,vI az),(23,vB aN)],[(0,.arr Ja bA)],1⟩
theorem Ztf(N:Nat){R:Type}(K:Ex->St->Option R){t4:List Y_KidRun}{t5:Int}{K0:Int->Bool->Ki->Option R}(h0:K0= λaz aN bA=>K (.exit 0) (Zrg t4 t5 az aN bA))(n:Nat)(t6:Int)(l7:List Int):Zbo N t4 t5 K0 n t6 l7=LM Zj3 N 0 100005 n (Zte t4 t5 t6 l7) K:=by
  subst h0
  induction n generalizing t6 l7 with
  |zero=>kernel_rfl
  |succ n ih=>rw[Zbo];simp only[ih];kernel_rfl
theorem Zy2(N:Nat)(f1:Y_Family):DN Zj3 N (f1,())=Zg6 N f1:=by
  conv=>rhs;rw[Zg6];simp(disch:=exact id (by kernel_rfl)) only[Ztf (R:=Unit×Kw) N (CF Zj3 N [1,1,1,0,1,0])]
  kernel_rfl
theorem Zy3(N:Nat):GW 144 (Zm7 N):=GF Zj3 N Tryz.func144 (GC (Zgc N) (GC (Zah N) Wa)) (λd=>Zy2 N d.1)
def Zm8(N:Nat):Sig:=Sig.of [.v (TY_Family) true] [.v (.own Ju) false] (λd=>Zg7 N d.1)
def Zj4:Fn:=⟨Tryz.f145,λ |3=>[.canon [3,8,9,10,11]]|4=>[.canon [3,5,8,9,10]]|5=>[.canon [3,8,9,10]]|6=>[.canon [3,8,9,10]]|100003=>[.canon [3,8,9,10]]|_=>[],Zm8,Wa5⟩
def Ztg(t2:List Kb)(t3:Int)(t4:Int)(l5:List Kc):St:=⟨[(3,vO 0),(8,vV Je t2),(9,vI t3),(10,vI t4)],[(0,.arr Ju l5)],1⟩
def Zrh(t2:List Kb)(t3:Int)(t6:Int)(t7:Bool)(l8:List Kc):St:=⟨[(3,vO 0),(8,vV Je t2),(9,vI t3),(10,vI t6),(11,vB t7)],[(0,.arr Ju l8)],1⟩
theorem Zth(N:Nat){R:Type}(K:Ex->St->Option R){t2:List Kb}{t3:Int}{K0:Int->Bool->Ky->Option R}(h0:K0= λt6 t7 l8=>K (.exit 0) (Zrh t2 t3 t6 t7 l8))(n:Nat)(t4:Int)(l5:List Kc):Zco N t2 t3 K0 n t4 l5=LM Zj4 N 0 100003 n (Ztg t2 t3 t4 l5) K:=by
  subst h0
  induction n generalizing t4 l5 with
  |zero=>kernel_rfl
  |succ n ih=>rw[Zco];simp only[ih];kernel_rfl
theorem Zy4(N:Nat)(f1:Y_Family):DN Zj4 N (f1,())=Zg7 N f1:=by
  conv=>rhs;rw[Zg7];simp(disch:=exact id (by kernel_rfl)) only[Zth (R:=Unit×(Ky×Unit)) N (CF Zj4 N [1,1,0,1,0])]
  kernel_rfl
theorem Zy5(N:Nat):GW 145 (Zm8 N):=GF Zj4 N Tryz.func145 Wa (λd=>Zy4 N d.1)
def Zll(N:Nat):Sig:=Sig.of [.box Jz] [] (λd=>Zhk N d.1)
def Zww:Fn:=⟨Tryz.f113,Wz,Zll,λN=>[(110,Zcq N),(143,Zm6 N),(144,Zm7 N),(145,Zm8 N),(93,Z7 N)]⟩
theorem Zwx(N:Nat):GW 113 (Zll N):=GF Zww N Tryz.func113 (GC (Zgd N) (GC (Zy1 N) (GC (Zy3 N) (GC (Zy5 N) (GC (Zah N) Wa)))))
def Zja(N:Nat):Sig:=Sig.of [.boxal Js 3] [] (λd=>Zfm N d.1 d.2.1)
def Zri:Fn:=⟨Tryz.f116,λ |1000000=>[.unfE 1]|_=>[],Zja,λN=>[(114,Zik N),(110,Zcq N),(147,Zc5 N),(93,Z7 N)]⟩
theorem Zrj(N:Nat):GW 116 (Zja N):=GF Zri N Tryz.func116 (GC (Zof N) (GC (Zgd N) (GC (Zgx N) (GC (Zah N) Wa))))
def Zhv(N:Nat):Sig:=Sig.of [.v (.prod Ja Jx) true] [.v Jd true] (λd=>Zgu N d.1)
def Zvd:Fn:=⟨Tryz.f182,Wz,Zhv,λN=>[(147,Zc5 N),(93,Z7 N)]⟩
theorem Zny(N:Nat):GW 182 (Zhv N):=GF Zvd N Tryz.func182 (GC (Zgx N) (GC (Zah N) Wa))
def Zf8(N:Nat):Sig:=Sig.of [.v (.prod Ja Jx) true] [.v Ja false] (λd=>Zcx N d.1)
def Zqe:Fn:=⟨Tryz.f205,Wz,Zf8,Wa5⟩
theorem Zmg(N:Nat):GW 205 (Zf8 N):=GF Zqe N Tryz.func205 Wa
def Ziz(N:Nat):Sig:=Sig.of [.v (.prod Ja Jx) true] [.v Jp false] (λd=>Zeu N d.1)
def Zfc:Fn:=⟨Tryz.f183,λ |4=>[.canon [1,3,38]]|5=>[.canon [1,3]]|6=>[.canon [1,3,54]]|7=>[.canon [2]]|9=>[.canon [1,56,57,58,59]]|10=>[.canon [1,4,5,56,57,58]]|11=>[.canon [1,56,57,58,79]]|12=>[.canon [2]]|13=>[.canon [1,56,57,58]]|100004=>[.canon [1,3]]|100009=>[.canon [1,56,57,58]]|_=>[],Ziz,λN=>[(198,Zd6 N),(44,Z0 N),(195,Zgm N),(165,Zb3 N),(205,Zf8 N)]⟩
def Zrk(i7:Int)(b8:Int×Int×Int×Int×Int×List Kc×List Int):St:=⟨[(1,vP 0 0),(3,vI i7)],[(0,.box [.val Ja b8.1,.val Ja b8.2.1,.val Ja b8.2.2.1,.val Ja b8.2.2.2.1,.val Ja b8.2.2.2.2.1,.val Jn b8.2.2.2.2.2.1,.val Jk b8.2.2.2.2.2.2])],1⟩
def Zqf(b8:Int×Int×Int×Int×Int×List Kc×List Int):St:=⟨[(2,vB false)],[],0⟩
def Zqg(b8:Int×Int×Int×Int×Int×List Kc×List Int)(i9:Int)(az:Bool):St:=⟨[(1,vP 0 0),(3,vI i9),(38,vB az)],[(0,.box [.val Ja b8.1,.val Ja b8.2.1,.val Ja b8.2.2.1,.val Ja b8.2.2.2.1,.val Ja b8.2.2.2.2.1,.val Jn b8.2.2.2.2.2.1,.val Jk b8.2.2.2.2.2.2])],1⟩
theorem Zrl(N:Nat){R:Type}(K:Ex->St->Option R){b8:Int×Int×Int×Int×Int×List Kc×List Int}{K0:Option R}{K1:Int->Bool->Option R}(h0:K0=K .ret (Zqf b8))(h1:K1= λi9 az=>K (.exit 0) (Zqg b8 i9 az))(n:Nat)(i7:Int):Zbw N b8 K0 K1 n i7=LM Zfc N 0 100004 n (Zrk i7 b8) K:=by
  subst h0 h1
  induction n generalizing i7 with
  |zero=>kernel_rfl
  |succ n ih=>rw[Zbw];simp only[ih];kernel_rfl
def Zrm(be:List Int)(bP:Int)(aC:Int×Int×Int×Int×Int×List Kc×List Int):St:=⟨[(1,vP 0 0),(56,vV Jk be),(57,vI (Wb aC.2.2.2.2.2.2)),(58,vI bP)],[(0,.box [.val Ja aC.1,.val Ja aC.2.1,.val Ja aC.2.2.1,.val Ja aC.2.2.2.1,.val Ja aC.2.2.2.2.1,.val Jn aC.2.2.2.2.2.1,.val Jk aC.2.2.2.2.2.2])],1⟩
def Zqh(be:List Int)(aC:Int×Int×Int×Int×Int×List Kc×List Int):St:=⟨[(2,vB false)],[],0⟩
def Zqi(be:List Int)(aC:Int×Int×Int×Int×Int×List Kc×List Int)(g0:Int)(sn:Bool):St:=⟨[(1,vP 0 0),(56,vV Jk be),(57,vI (Wb aC.2.2.2.2.2.2)),(58,vI g0),(59,vB sn)],[(0,.box [.val Ja aC.1,.val Ja aC.2.1,.val Ja aC.2.2.1,.val Ja aC.2.2.2.1,.val Ja aC.2.2.2.2.1,.val Jn aC.2.2.2.2.2.1,.val Jk aC.2.2.2.2.2.2])],1⟩
theorem Zrn(N:Nat){R:Type}(K:Ex->St->Option R){be:List Int}{aC:Int×Int×Int×Int×Int×List Kc×List Int}{K0:Option R}{K1:Int->Bool->Option R}(h0:K0=K .ret (Zqh be aC))(h1:K1= λg0 sn=>K (.exit 2) (Zqi be aC g0 sn))(n:Nat)(bP:Int):Zbi N be aC K0 K1 n bP=LM Zfc N 1 100009 n (Zrm be bP aC) K:=by
  subst h0 h1
  induction n generalizing bP with
  |zero=>kernel_rfl
  |succ n ih=>rw[Zbi];simp only[ih];kernel_rfl
theorem Zxp(N:Nat)(c1:Int×Int×Int×Int×Int×List Kc×List Int):DN Zfc N (c1,())=Zeu N c1:=by
  conv=>rhs;rw[Zeu];simp(disch:=exact id (by kernel_rfl)) only[Zrl (R:=Unit×Kr) N (CF Zfc N [1,1,0,1,0]),Zrn (R:=Unit×Kr) N (CF Zfc N [1,1,1,0,1,0])]
  kernel_rfl
theorem Zow(N:Nat):GW 183 (Ziz N):=GF Zfc N Tryz.func183 (GC (Zhn N) (GC (Zaa N) (GC (Zk8 N) (GC (Zda N) (GC (Zmg N) Wa))))) (λd=>Zxp N d.1)
def Zez(N:Nat):Sig:=Sig.of [.box Jd,.v Ja false] [] (λd=>Z5 N d.1 d.2.1)
def Zpa:Fn:=⟨Tryz.f184,Wz,Zez,Wa5⟩
theorem Zlm(N:Nat):GW 184 (Zez N):=GF Zpa N Tryz.func184 Wa
def Zj5(N:Nat):Sig:=Sig.of [.v (.prod Ja Jx) true] [.v Jd true,.v Jp false] (λd=>Zic N d.1)
def Zti:Fn:=⟨Tryz.f148,Wz,Zj5,λN=>[(182,Zhv N),(183,Ziz N),(184,Zez N)]⟩
theorem Ztj(N:Nat):GW 148 (Zj5 N):=GF Zti N Tryz.func148 (GC (Zny N) (GC (Zow N) (GC (Zlm N) Wa)))
def Zd7(N:Nat):Sig:=Sig.of [.v Jab true] [.v Jaf true] (λd=>Zb9 N d.1)
def Zy6:Fn:=⟨Tryz.f185,Wz,Zd7,Wa5⟩
theorem Zho(N:Nat):GW 185 (Zd7 N):=GF Zy6 N Tryz.func185 Wa
def Zol(N:Nat):Sig:=Sig.of [.v Jab true,.v Ja false,.v Ja false] [.v Jaf true,.v Jp false] (λd=>Zme N d.1 d.2.1 d.2.2.1)
def Z1f:Fn:=⟨Tryz.f186,Wz,Zol,λN=>[(185,Zd7 N),(40,Zei N),(165,Zb3 N),(198,Zd6 N)]⟩
theorem Z1g(N:Nat):GW 186 (Zol N):=GF Z1f N Tryz.func186 (GC (Zho N) (GC (Zha N) (GC (Zda N) (GC (Zhn N) Wa))))
def Zfk(N:Nat):Sig:=Sig.of [.box Jd,.v Ja false] [] (λd=>Zee N d.1 d.2.1)
def Zpo:Fn:=⟨Tryz.f189,Wz,Zfk,Wa5⟩
theorem Zl4(N:Nat):GW 189 (Zfk N):=GF Zpo N Tryz.func189 Wa
def Zj6(N:Nat):Sig:=Sig.of [.box Jd,.v Ja false] [] (λd=>Zbp N d.1 d.2.1)
def Ztk:Fn:=⟨Tryz.f187,Wz,Zj6,λN=>[(205,Zf8 N),(189,Zfk N)]⟩
theorem Ztl(N:Nat):GW 187 (Zj6 N):=GF Ztk N Tryz.func187 (GC (Zmg N) (GC (Zl4 N) Wa))
def Zom(N:Nat):Sig:=Sig.of [.v Jab true] [.v Jaf true,.v Ja false] (λd=>Zoa N d.1)
def Z1h:Fn:=⟨Tryz.f188,Wz,Zom,λN=>[(185,Zd7 N),(40,Zei N)]⟩
theorem Z1i(N:Nat):GW 188 (Zom N):=GF Z1h N Tryz.func188 (GC (Zho N) (GC (Zha N) Wa))
def Zn9(N:Nat):Sig:=Sig.of [.v Jab true,.v Ja false,.v Ja false,.v Ja false] [.v Jaf true,.v Jp false] (λd=>Znd N d.1 d.2.1 d.2.2.1 d.2.2.2.1)
def Z07:Fn:=⟨Tryz.f190,Wz,Zn9,λN=>[(185,Zd7 N),(40,Zei N),(165,Zb3 N),(198,Zd6 N),(76,Za7 N)]⟩
theorem Z08(N:Nat):GW 190 (Zn9 N):=GF Z07 N Tryz.func190 (GC (Zho N) (GC (Zha N) (GC (Zda N) (GC (Zhn N) (GC (Zbt N) Wa)))))
def Znu(N:Nat):Sig:=Sig.of [.v Jab true,.v Ja false,.v Ja false,.v Ja false] [.v Jaf true,.v Jp false] (λd=>Zkb N d.1 d.2.1 d.2.2.1 d.2.2.2.1)
def Z0i:Fn:=⟨Tryz.f191,Wz,Znu,λN=>[(185,Zd7 N),(40,Zei N),(165,Zb3 N),(198,Zd6 N),(44,Z0 N)]⟩
theorem Z0j(N:Nat):GW 191 (Znu N):=GF Z0i N Tryz.func191 (GC (Zho N) (GC (Zha N) (GC (Zda N) (GC (Zhn N) (GC (Zaa N) Wa)))))
def Zkm(N:Nat):Sig:=Sig.of [.v Jab true,.v (.prod Ja Jx) true] [.v Jaf true,.v Jd true] (λd=>Zir N d.1 d.2.1)
def Zve:Fn:=⟨Tryz.f149,Wz,Zkm,λN=>[(185,Zd7 N),(182,Zhv N),(40,Zei N),(183,Ziz N),(186,Zol N),(187,Zj6 N),(184,Zez N),(188,Zom N),(189,Zfk N),(190,Zn9 N),(191,Znu N)]⟩
theorem Zvf(N:Nat):GW 149 (Zkm N):=GF Zve N Tryz.func149 (GC (Zho N) (GC (Zny N) (GC (Zha N) (GC (Zow N) (GC (Z1g N) (GC (Ztl N) (GC (Zlm N) (GC (Z1i N) (GC (Zl4 N) (GC (Z08 N) (GC (Z0j N) Wa)))))))))))
def Zjb(N:Nat):Sig:=Sig.of [.box Js,.v Ja false] [] (λd=>Zfn N d.1 d.2.1)
def Zro:Fn:=⟨Tryz.f117,λ |0=>[.opn 13]|_=>[],Zjb,λN=>[(148,Zj5 N),(110,Zcq N),(149,Zkm N),(147,Zc5 N)]⟩
theorem Zrp(N:Nat):GW 117 (Zjb N):=GF Zro N Tryz.func117 (GC (Ztj N) (GC (Zgd N) (GC (Zvf N) (GC (Zgx N) Wa))))
def Zhw(N:Nat):Sig:=Sig.of [.v Jj true,.box Ja] [.v Jp false] (λd=>Zfa N d.1 d.2.1)
def Zvg:Fn:=⟨Tryz.f153,Wz,Zhw,Wa5⟩
theorem Znz(N:Nat):GW 153 (Zhw N):=GF Zvg N Tryz.func153 Wa
def Zas(N:Nat):Sig:=Sig.of [.v Je false,.clos 153 1,.box Ja] [.v Ja false] (λd=>Zy N d.1 d.2.1)
def Zac:Fn:=⟨Tryz.f194,λ |2=>[.canon [0,1,7,8,9]]|3=>[.canon [0,1,5,7,8]]|4=>[.canon [0,1,5,7,8,16]]|5=>[.canon [1,4]]|6=>[.canon [0,1,7,8]]|100002=>[.canon [0,1,7,8]]|_=>[],Zas,λN=>[(153,Zhw N)]⟩
def Zd8(s3:List Kb)(t5:Int)(b6:Int):St:=⟨[(0,vV Je s3),(1,.s (.one (.clos 153 [0]))),(7,vI (Wb s3)),(8,vI t5)],[(0,.box [.val Ja b6])],1⟩
def Zdp(s3:List Kb)(t9:Int)(aS:Int):St:=⟨[(1,.s (.one (.clos 153 [0]))),(4,vI t9)],[(0,.box [.val Ja aS])],1⟩
def Zdq(s3:List Kb)(aN:Int)(aL:Bool)(bo:Int):St:=⟨[(0,vV Je s3),(1,.s (.one (.clos 153 [0]))),(7,vI (Wb s3)),(8,vI aN),(9,vB aL)],[(0,.box [.val Ja bo])],1⟩
theorem Zd9(N:Nat){R:Type}(K:Ex->St->Option R){s3:List Kb}{K0:Int->Int->Option R}{K1:Int->Bool->Int->Option R}(h0:K0= λt9 aS=>K .ret (Zdp s3 t9 aS))(h1:K1= λaN aL bo=>K (.exit 0) (Zdq s3 aN aL bo))(n:Nat)(t5:Int)(b6:Int):Zk N s3 K0 K1 n t5 b6=LM Zac N 0 100002 n (Zd8 s3 t5 b6) K:=by
  subst h0 h1
  induction n generalizing t5 b6 with
  |zero=>kernel_rfl
  |succ n ih=>rw[Zk];simp only[ih];kernel_rfl
theorem Ze0(N:Nat)(s1:List Kb)(dj:Int):DN Zac N (s1,dj,())=Zy N s1 dj:=by
  conv=>rhs;rw[Zy];simp(disch:=exact id (by kernel_rfl)) only[Zd9 (R:=Kh×Kh) N (CF Zac N [1,0,1,0])]
  kernel_rfl
theorem Ze1(N:Nat):GW 194 (Zas N):=GF Zac N Tryz.func194 (GC (Znz N) Wa) (λd=>Ze0 N d.1 d.2.1)
def Zaq(N:Nat):Sig:=Sig.of [.v (.own Jj) false,.clos 153 1,.box Ja] [.v (.own Jj) false] (λd=>Zq N d.1 d.2.1)
def Z8:Fn:=⟨Tryz.f152,λ |5=>[.canon [0,1,5,6,19]]|6=>[.canon [0,1,5,6]]|7=>[.canon [0,1,5,6,7]]|8=>[.canon [0,1,5,6,7,29]]|9=>[.canon [0,1,5,6]]|10=>[.canon [0,1,5,6]]|11=>[.view 38]|100005=>[.canon [0,1,5,6]]|_=>[],Zaq,λN=>[(194,Zas N),(153,Zhw N)]⟩
def Zdr(i4:Int)(j5:Int)(l6:List Kb)(b7:Int):St:=⟨[(0,vO 0),(1,.s (.one (.clos 153 [1]))),(5,vI i4),(6,vI j5)],[(0,.arr Jj l6),(1,.box [.val Ja b7])],2⟩
def Zdh(i9:Int)(u5:Int)(aN:Bool)(bA:List Kb)(bo:Int):St:=⟨[(0,vO 0),(1,.s (.one (.clos 153 [1]))),(5,vI i9),(6,vI u5),(19,vB aN)],[(0,.arr Jj bA),(1,.box [.val Ja bo])],2⟩
theorem Zds(N:Nat){R:Type}(K:Ex->St->Option R){K0:Int->Int->Bool->Kt->Int->Option R}(h0:K0= λi9 u5 aN bA bo=>K (.exit 0) (Zdh i9 u5 aN bA bo))(n:Nat)(i4:Int)(j5:Int)(l6:List Kb)(b7:Int):Zd N K0 n i4 j5 l6 b7=LM Z8 N 0 100005 n (Zdr i4 j5 l6 b7) K:=by
  subst h0
  induction n generalizing i4 j5 l6 b7 with
  |zero=>kernel_rfl
  |succ n ih=>rw[Zd];simp only[ih];kernel_rfl
theorem Zeo(N:Nat)(s1:List Kb)(dj:Int):DN Z8 N (s1,dj,())=Zq N s1 dj:=by
  conv=>rhs;rw[Zq];simp(disch:=exact id (by kernel_rfl)) only[Zds (R:=Kh×Kad) N (CF Z8 N [1,1,1,0,1,0])]
  kernel_rfl
theorem Zep(N:Nat):GW 152 (Zaq N):=GF Z8 N Tryz.func152 (GC (Ze1 N) (GC (Znz N) Wa)) (λd=>Zeo N d.1 d.2.1)
def Zmb(N:Nat):Sig:=Sig.of [.v Je false,.v Ja false] [.v (.own Jj) false] (λd=>Zkq N d.1 d.2.1)
def Zxq:Fn:=⟨Tryz.f118,Wz,Zmb,λN=>[(150,Zim N),(151,Zfz N),(152,Zaq N)]⟩
theorem Zxr(N:Nat):GW 118 (Zmb N):=GF Zxq N Tryz.func118 (GC (Zoh N) (GC (Zjw N) (GC (Zep N) Wa)))
def Zkn(N:Nat):Sig:=Sig.of [.box Js,.v Ja false,.v Jl true] [] (λd=>Zgv N d.1 d.2.1 d.2.2.1)
def Zvh:Fn:=⟨Tryz.f73,λ |1=>[.opn 12]|_=>[],Zkn,λN=>[(44,Z0 N),(110,Zcq N),(111,Zkk N),(112,Zlj N),(113,Zll N),(114,Zgn N),(115,Zhu N),(116,Zja N),(117,Zjb N),(118,Zmb N),(119,Zii N)]⟩
theorem Zvi(N:Nat):GW 73 (Zkn N):=GF Zvh N Tryz.func73 (GC (Zaa N) (GC (Zgd N) (GC (Zu1 N) (GC (Zwt N) (GC (Zwx N) (GC (Znb N) (GC (Znx N) (GC (Zrj N) (GC (Zrp N) (GC (Zxr N) (GC (Zod N) Wa)))))))))))
def Zhx(N:Nat):Sig:=Sig.of [.v Jj true,.box Ja] [.v Jp false] (λd=>Zi1 N d.1 d.2.1)
def Zpp:Fn:=⟨Tryz.f160,Wz,Zhx,Wa5⟩
theorem Zpq(N:Nat):GW 160 (Zhx N):=GF Zpp N Tryz.func160 Wa
def Zaj(N:Nat):Sig:=Sig.of [.v Je false,.clos 160 1,.box Ja] [.v Ja false] (λd=>Zn N d.1 d.2.1)
def Z1:Fn:=⟨Tryz.f159,λ |2=>[.canon [0,1,7,8,9]]|3=>[.canon [0,1,5,7,8]]|4=>[.canon [0,1,5,7,8,16]]|5=>[.canon [1,4]]|6=>[.canon [0,1,7,8]]|100002=>[.canon [0,1,7,8]]|_=>[],Zaj,λN=>[(160,Zhx N)]⟩
def Zcy(s3:List Kb)(t5:Int)(b6:Int):St:=⟨[(0,vV Je s3),(1,.s (.one (.clos 160 [0]))),(7,vI (Wb s3)),(8,vI t5)],[(0,.box [.val Ja b6])],1⟩
def Zct(s3:List Kb)(t9:Int)(aS:Int):St:=⟨[(1,.s (.one (.clos 160 [0]))),(4,vI t9)],[(0,.box [.val Ja aS])],1⟩
def Zcu(s3:List Kb)(aN:Int)(aL:Bool)(bo:Int):St:=⟨[(0,vV Je s3),(1,.s (.one (.clos 160 [0]))),(7,vI (Wb s3)),(8,vI aN),(9,vB aL)],[(0,.box [.val Ja bo])],1⟩
theorem Zcz(N:Nat){R:Type}(K:Ex->St->Option R){s3:List Kb}{K0:Int->Int->Option R}{K1:Int->Bool->Int->Option R}(h0:K0= λt9 aS=>K .ret (Zct s3 t9 aS))(h1:K1= λaN aL bo=>K (.exit 0) (Zcu s3 aN aL bo))(n:Nat)(t5:Int)(b6:Int):Zf N s3 K0 K1 n t5 b6=LM Z1 N 0 100002 n (Zcy s3 t5 b6) K:=by
  subst h0 h1
  induction n generalizing t5 b6 with
  |zero=>kernel_rfl
  |succ n ih=>rw[Zf];simp only[ih];kernel_rfl
theorem Zdi(N:Nat)(s1:List Kb)(dj:Int):DN Z1 N (s1,dj,())=Zn N s1 dj:=by
  conv=>rhs;rw[Zn];simp(disch:=exact id (by kernel_rfl)) only[Zcz (R:=Kh×Kh) N (CF Z1 N [1,0,1,0])]
  kernel_rfl
theorem Zdj(N:Nat):GW 159 (Zaj N):=GF Z1 N Tryz.func159 (GC (Zpq N) Wa) (λd=>Zdi N d.1 d.2.1)
def Zel(N:Nat):Sig:=Sig.of [.rp (TY_Family),.v Ja false] [.v Ja false] (λd=>Zce N d.1 d.2.1)
def Zrq:Fn:=⟨Tryz.f122,Wz,Zel,λN=>[(159,Zaj N)]⟩
theorem Zjc(N:Nat):GW 122 (Zel N):=GF Zrq N Tryz.func122 (GC (Zdj N) Wa)
def Zfl(N:Nat):Sig:=Sig.of [.box Jy,.v Ja false] [] (λd=>Zbj N d.1 d.2.1)
def Zpr:Fn:=⟨Tryz.f123,Wz,Zfl,λN=>[(93,Z7 N)]⟩
theorem Zl5(N:Nat):GW 123 (Zfl N):=GF Zpr N Tryz.func123 (GC (Zah N) Wa)
def Zj7(N:Nat):Sig:=Sig.of [.box Jy,.v Ja false,.v Jv true,.v Jab true] [] (λd=>Zh6 N d.1 d.2.1 d.2.2.1 d.2.2.2.1)
def Ztm:Fn:=⟨Tryz.f154,λ |1=>[.opn 18]|_=>[],Zj7,λN=>[(169,Zke N),(122,Zel N),(123,Zfl N),(170,Zix N),(171,Zij N)]⟩
theorem Ztn(N:Nat):GW 154 (Zj7 N):=GF Ztm N Tryz.func154 (GC (Zok N) (GC (Zjc N) (GC (Zl5 N) (GC (Zou N) (GC (Zoe N) Wa)))))
def Zjd(N:Nat):Sig:=Sig.of [.box Jh,.v Jc false] [] (λd=>Zhp N d.1 d.2.1)
def Zrr:Fn:=⟨Tryz.f155,λ |5=>[.opn 28]|_=>[],Zjd,λN=>[(93,Z7 N),(147,Zc5 N),(96,Zl2 N)]⟩
theorem Zrs(N:Nat):GW 155 (Zjd N):=GF Zrr N Tryz.func155 (GC (Zah N) (GC (Zgx N) (GC (Zq8 N) Wa)))
def Zko(N:Nat):Sig:=Sig.of [.box Jy,.v Ja false,.v Jc false,.v Jab true] [] (λd=>Zio N d.1 d.2.1 d.2.2.1 d.2.2.2.1)
def Zvj:Fn:=⟨Tryz.f120,λ |1=>[.opn 16]|18=>[.nest 128 Jag]|_=>[],Zko,λN=>[(154,Zj7 N),(155,Zjd N),(93,Z7 N),(95,Zmn N)]⟩
theorem Zvk(N:Nat):GW 120 (Zko N):=GF Zvj N Tryz.func120 (GC (Ztn N) (GC (Zrs N) (GC (Zah N) (GC (Ztx N) Wa))))
def Zbf(N:Nat):Sig:=Sig.of [.mut Jj,.clos 158 0] [] (λd=>Zam N d.1)
theorem Zdt:CmpOk Tryz.prog 158 Jj WwE cfE:=by
  intro G x y us vs w hx hy h1 h2;obtain⟨_,_,rfl,a1,_,_,rfl,a2,a3⟩:=h1;obtain⟨_,_,rfl,b1,_,_,rfl,b2,b3⟩:=h2;simp only[Enc]at a1 a2 a3 b1 b2 b3;subst a1 a2 a3 b1 b2 b3;simp only[Xbj,Xcb]
  go_enter Tryz.func158,Tryz.ntmps158
  go_wp2
  rw[sub_run (Wg2 hx) (Wg2 hy) (c:=cfE x y) rfl]
  go_wp2
  go_ret
  exact⟨rfl,two_grow _ _ _⟩
theorem Zdu(N:Nat):GW 157 (Zbf N):=⟨Wdz Tryz.func157 (show Wp7 Tryz.f157=true by kernel_rfl),good_sortF sortFE (e:=.prod Ja Ju) rfl (by decide) Tryz.isAgg168 Tryz.sizeOf168 (enters_of Tryz.func158 (by kernel_rfl) rfl) Wxe Zdt N⟩
def Zje(N:Nat):Sig:=Sig.of [.box Jy,.v Ja false] [] (λd=>Zdd N d.1 d.2.1)
def Zci:Fn:=⟨Tryz.f121,λ |0=>[.opn 16]|3=>[.canon [0,1,4,28,29,30,31]]|4=>[.canon [0,1,4,6,28,29,30]]|5=>[.canon [0,1,4,6,7,28,29,30]]|6=>[.canon [0,1,4,7,8,28,29,30]]|7=>[.canon [0,1,4,7,8,28,29,30,48]]|8=>[.canon [0,1,4,28,29,30]]|9=>[.canon [0,1,4,28,29,30]]|10=>[.canon [0,1,4,28,29,30]]|13=>[.canon [0,1,4,75,76,77,78]]|14=>[.canon [0,1,4,10,75,76,77]]|15=>[.canon [0,1,4,10,75,76,77,83]]|16=>[.canon [0,1,4,75,76,77]]|17=>[.canon [0,1,4,75,76,77]]|100003=>[.canon [0,1,4,28,29,30]]|100013=>[.canon [0,1,4,75,76,77]]|_=>[],Zje,λN=>[(156,Zi9 N),(122,Zel N),(157,Zbf N)]⟩
def Zox(k4:Int)(t5:Int)(t6:Int)(b7:Int)(b8:Int)(b9:Int)(aS:Bool)(bc:Int)(cj:Int)(bo:Int)(bI:Int)(bn:Int)(aC:Int)(cV:Bool)(bR:Int)(dF:Int)(du:Int)(gV:Int)(bS:List Kc)(cC:List Int)(cW:List Kc)(gw:List Kb)(gW:List Int)(da:List Kc)(fF:List Y_KidRun)(gX:Nat)(eF:List Int)(eG:List Kb)(eH:List Kc)(cE:List Kk):St:=⟨[(0,vP 0 0),(1,vI k4),(4,vP 1 0),(28,vO 2),(29,vI t5),(30,vI t6)],[(0,.box [.val Ja b7,.val Ja b8,.val Ja b9,.val Jp aS,.own 3,.own 4,.own 5,.own 6,.own 7,.own 8]),(1,.box [.val Ja bc,.val Ja cj,.val Ja bo,.val Ja bI,.val Ja bn,.val Ja aC,.own 9,.own 10,.own 11,.own 12,.val Jp cV,.val Ja bR,.val Ja dF,.val Ja du,.val Ja gV]),(2,.arr Ju bS),(3,.arr Ja cC),(4,.arr Ju cW),(5,.arr Jj gw),(6,.arr Ja gW),(7,.arr Ju da),(8,.hole Jh fF gX 1),(9,.arr Ja eF),(10,.arr Jj eG),(11,.arr Ju eH),(12,.arr Jag cE)],13⟩
def Zon(k4:Int)(t5:Int)(b7:Int)(b8:Int)(b9:Int)(aS:Bool)(bc:Int)(cj:Int)(bo:Int)(bI:Int)(bn:Int)(aC:Int)(cV:Bool)(bR:Int)(dF:Int)(du:Int)(gV:Int)(bS:List Kc)(cC:List Int)(cW:List Kc)(gW:List Int)(da:List Kc)(fF:List Y_KidRun)(gX:Nat)(eF:List Int)(eG:List Kb)(eH:List Kc)(cE:List Kk)(u6:Int)(ku:Bool)(jN:List Kb):St:=⟨[(0,vP 0 0),(1,vI k4),(4,vP 1 0),(28,vO 2),(29,vI t5),(30,vI u6),(31,vB ku)],[(0,.box [.val Ja b7,.val Ja b8,.val Ja b9,.val Jp aS,.own 3,.own 4,.own 5,.own 6,.own 7,.own 8]),(1,.box [.val Ja bc,.val Ja cj,.val Ja bo,.val Ja bI,.val Ja bn,.val Ja aC,.own 9,.own 10,.own 11,.own 12,.val Jp cV,.val Ja bR,.val Ja dF,.val Ja du,.val Ja gV]),(2,.arr Ju bS),(3,.arr Ja cC),(4,.arr Ju cW),(5,.arr Jj jN),(6,.arr Ja gW),(7,.arr Ju da),(8,.hole Jh fF gX 1),(9,.arr Ja eF),(10,.arr Jj eG),(11,.arr Ju eH),(12,.arr Jag cE)],13⟩
end
end Go.Sx
