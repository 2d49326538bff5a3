/- Each Go function does what its Lean function says. -/
import Derived.Test.YtnkbflecplbceaaGreatT2
import Derived.Test.YtnkbflecplbceaaGreatProg
import Derived.Test.YtnkbflecplbceaaGreatLay
open Bool renaming and_eq_true→Xh
open List renaming cons_append→Xbh,nil_append→Xcf
namespace Go.Sx
noncomputable section
open Go.Proofs
abbrev Ja:Ty:=.int .i64
abbrev Jb:Ty:=.prod (.own Ja) (.prod (.own (.prod Ja Ja)) (.prod (.own (.prod Ja (.prod Ja Ja))) (.prod (.own Ja) (.prod (.own (.prod Ja Ja)) (.own (.prod Ja (.prod Ja (.prod Ja (.prod Ja (.prod Ja (.prod Ja (.prod (.own Ja) (.prod (.own (.prod Ja (.prod Ja Ja))) (.prod (.own (.prod Ja Ja)) (.prod (.own (.prod Ja (.prod Ja (.own Ja)))) (.prod (.bool) (.prod Ja (.prod Ja (.prod Ja Ja)))))))))))))))))))
abbrev Jc:Ty:=.slice (.prod Ja (.prod Ja (.prod Ja Ja)))
abbrev Jd:Ty:=.prod Ja (.prod Ja (.prod Ja (.prod Ja (.prod Ja (.prod (.own (.prod Ja Ja)) (.own Ja))))))
abbrev Je:Ty:=.slice (.prod Ja (.prod Ja Ja))
abbrev Jf:Ty:=.own (.prod Ja (.prod Ja (.prod Ja (.prod Ja (.slice Ja)))))
abbrev Jg:Ty:=.prod Ja (.prod Ja (.prod Ja (.prod Ja (.prod Ja (.prod Ja (.prod Ja (.prod Ja (.prod Ja (.prod Ja (.prod (.bool) (.prod (.own Ja) (.prod (.own (.prod Ja Ja)) (.prod (.own (.prod Ja Ja)) (.prod Jf (.prod (.own (.prod Ja (.prod Ja Ja))) (.prod (.own Ja) (.prod (.bool) (.prod (.prod Ja (.prod Ja (.prod Ja Ja))) (.prod Jd (.prod Ja (.prod Ja (.prod Ja (.prod (.bool) Jb)))))))))))))))))))))))
abbrev Jh:Ty:=.prod Ja (.prod Ja (.prod Ja (.prod Ja (.prod Ja (.prod Ja (.prod (.own Ja) (.prod (.own (.prod Ja (.prod Ja Ja))) (.prod (.own (.prod Ja Ja)) (.prod (.own (.prod Ja (.prod Ja (.own Ja)))) (.prod (.bool) (.prod Ja (.prod Ja (.prod Ja Ja)))))))))))))
abbrev Ji:Ty:=.prod Ja (.prod Ja (.slice (.prod Ja Ja)))
abbrev Jj:Ty:=.slice Ja
abbrev Jk:Ty:=.prod Ja (.prod Ja Ja)
abbrev Jl:Ty:=.prod (.slice (.int .u8)) (.prod Ja Ja)
abbrev Jm:Ty:=.prod Jc (.slice Jc)
abbrev Jn:Ty:=.slice (.prod Ja Ja)
abbrev Jo:Ty:=.prod (.own (.prod Ja Jg)) (.own Ji)
abbrev Jp:Ty:=.bool
abbrev Jq:Ty:=.prod (.own Ja) Ja
abbrev Jr:Ty:=.prod Jj (.prod Jj Ja)
abbrev Js:Ty:=.prod Ja (.prod Ja (.own Ja))
abbrev Jt:Ty:=.prod Ja Je
abbrev Ju:Ty:=.prod Ja (.prod Ja (.prod (.prod Ja (.own Jk)) (.prod Jq (.prod (.own Jk) Jo))))
abbrev Jv:Ty:=.slice (.int .u8)
abbrev Jw:Ty:=.prod Ja Ja
abbrev Jx:Ty:=.prod Ja Jk
abbrev Jy:Ty:=.prod Ja (.prod Ja (.prod Ja (.prod Ja (.prod Jn Jj))))
abbrev Jz:Ty:=.prod Ja (.prod Ja (.prod Ja (.prod Jp Jb)))
abbrev Jaa:Ty:=.slice Jm
abbrev Jab:Ty:=.prod Ja Jg
abbrev Jac:Ty:=.own Ja
abbrev Jad:Ty:=.slice (TY_KidRun)
abbrev Jae:Ty:=.prod Ja (.prod Ja (.prod Ja Jj))
abbrev Jaf:Ty:=.prod Jr (.prod Jaa Je)
abbrev Jag:Ty:=.prod Ja (.own Jk)
set_option linter.unusedVariables false
set_option linter.unusedSimpArgs false
def tab:Tab:=[(3,⟨.int .i64,false,.basic⟩),(4,⟨.bool,false,.basic⟩),(5,⟨.int .u8,false,.basic⟩),(22,⟨.slice (.int .u8),false,.slice 5⟩),(24,⟨.slice Ja,false,.slice 3⟩),(26,⟨.prod Jj (.prod Jj Ja),true,.struct [(0,24),(1,24),(2,3)]⟩),(27,⟨.slice Jm,false,.slice 55⟩),(28,⟨.slice Jk,false,.slice 90⟩),(30,⟨.prod Jr (.prod Jaa Je),true,.struct [(0,26),(3,27),(4,28)]⟩),(32,⟨.slice Jk,false,.slice 95⟩),(34,⟨.prod Ja Je,true,.struct [(0,3),(1,32)]⟩),(36,⟨.prod Jj Ja,true,.struct [(0,24),(1,3)]⟩),(37,⟨.slice Jk,false,.slice 199⟩),(38,⟨.slice (TY_Root),false,.slice 75⟩),(39,⟨.slice Ji,false,.slice 194⟩),(41,⟨TY_World,true,.struct [(0,3),(1,3),(2,34),(4,36),(6,37),(7,38),(8,39)]⟩),(52,⟨.slice Jx,false,.slice 81⟩),(53,⟨.slice Jc,false,.slice 84⟩),(55,⟨.prod Jc (.slice Jc),true,.struct [(0,52),(1,53)]⟩),(63,⟨.slice Jw,false,.slice 180⟩),(64,⟨.slice (.prod Ja Jae),false,.slice 158⟩),(65,⟨.slice Jk,false,.slice 187⟩),(67,⟨.prod Ja Jk,true,.struct [(0,3),(1,3),(2,3),(3,3)]⟩),(69,⟨.prod Ja Jy,true,.struct [(0,3),(1,3),(2,3),(3,3),(4,3),(5,63),(6,24)]⟩),(70,⟨.slice Jk,false,.slice 168⟩),(71,⟨.slice (TY_KidRun),false,.slice 166⟩),(73,⟨TY_Family,true,.struct [(0,3),(1,3),(2,3),(3,4),(4,24),(5,63),(6,70),(7,24),(8,63),(9,71)]⟩),(75,⟨TY_Root,true,.struct [(0,3),(1,3),(2,3),(3,3),(4,3),(5,3),(6,3),(7,3),(8,3),(9,3),(10,3),(11,4),(12,24),(13,63),(14,63),(15,64),(16,65),(17,24),(18,4),(19,67),(23,69),(30,73)]⟩),(81,⟨.prod Ja Jk,true,.struct [(0,3),(1,3),(2,3),(3,3)]⟩),(84,⟨.slice Jx,true,.struct [(0,52)]⟩),(90,⟨.prod Ja Jw,true,.struct [(0,3),(1,3),(2,3)]⟩),(95,⟨.prod Ja Jw,true,.struct [(0,3),(1,3),(2,3)]⟩),(117,⟨.prod Jv Jw,true,.struct [(0,22),(1,3),(2,3)]⟩),(150,⟨.bool,true,.arr 8 4⟩),(158,⟨.prod Ja Jae,true,.struct [(0,3),(1,3),(2,3),(3,3),(4,24)]⟩),(164,⟨.slice (.prod Ja (.prod Ja Jj)),false,.slice 204⟩),(166,⟨TY_KidRun,true,.struct [(0,3),(1,3),(2,3),(3,3),(4,3),(5,3),(6,24),(7,70),(8,63),(9,164),(10,4),(11,67)]⟩),(168,⟨.prod Ja Jw,true,.struct [(0,3),(1,3),(2,3)]⟩),(180,⟨.prod Ja Ja,true,.struct [(0,3),(1,3)]⟩),(187,⟨.prod Ja Jw,true,.struct [(0,3),(1,3),(2,3)]⟩),(194,⟨.prod Ja (.prod Ja Jn),true,.struct [(0,3),(1,3),(2,63)]⟩),(199,⟨.prod Ja Jw,true,.struct [(0,3),(1,3),(2,3)]⟩),(204,⟨.prod Ja (.prod Ja Jj),true,.struct [(0,3),(1,3),(2,24)]⟩)]
theorem mixedOk:Tryz.prog.follows .mixedOrders=true:=by kernel_rfl
theorem tabOk:Wan Tryz.prog tab:=WwM (show Wmb Tryz.prog tab tab=true by kernel_rfl)
def LM(x:Fn)(N:Nat){R:Type}(i k n:Nat)(st:St)(K:Ex->St->Option R):Option R:=lpM tab (x.c N) x.a N x.F i k n st K
def CF(x:Fn)(N:Nat)(p:List Nat):Ex->St->Option (Qs (x.s N)):=cxF tab (x.c N) x.a N (x.s N) x.F p
def CL(x:Fn)(N:Nat){R:Type}(i k:Nat)(p:List Nat)(n:Nat)(K:Ex->St->Option R):Ex->St->Option R:=cxL tab (x.c N) x.a N x.F i k p n K
def DN(x:Fn)(N:Nat)(d:Wfr (x.s N).ps):Option (Qs (x.s N)):=den (R:=Qs (x.s N)) tab (x.c N) x.a N (x.s N) x.F d some
def GW(k:FuncId)(s:Sig):Prop:=Wgy Tryz.prog k/\Good Tryz.prog k s
theorem GC{k:FuncId}{s:Sig}{Γ:Ctx}(h:GW k s)(hc:Wfg Tryz.prog Γ):Wfg Tryz.prog ((k,s)::Γ):=WuB h.2 h.1 hc
theorem GF(x:Fn){k:FuncId}(N:Nat)(hf:Tryz.prog.funcs[k]?=some x.F)(hc:Wfg Tryz.prog (x.c N))(h:∀d,DN x N d=(x.s N).run d:=by intro d;kernel_rfl)(aI:(Wqt x.F&&Woh x.F (x.s N).ps)=true:=by kernel_rfl):GW k (x.s N):=
  ⟨WdK hf (Xh .. ▸aI).1,WsM mixedOk tabOk hc hf (Xh .. ▸aI).2 (λd _ e=>⟨N,(h d).trans e⟩)⟩
def Zoj(N:Nat):Sig:=Sig.of [.v Jv false] [.v Jp false] (λd=>Zrh N d.1)
def Z0j:Fn:=⟨Tryz.f9,WF,Zoj,Wbh⟩
theorem Z0k(N:Nat):GW 9 (Zoj N):=GF Z0j N Tryz.func9 Wa
def Znj(N:Nat):Sig:=Sig.of [.v Jv false] [.box Jl] (λd=>Zis N d.1)
def Zld:Fn:=⟨Tryz.f32,λ |3=>[.canon [0,3,4,15]]|4=>[.canon [0,3,4]]|5=>[.canon [0,3,4]]|100003=>[.canon [0,3,4]]|_=>[],Znj,Wbh⟩
def Zuv(aa:List Int)(h3:Int)(i4:Int):St:=⟨[(0,vV Jv aa),(3,vI h3),(4,vI i4)],[],0⟩
def Zs6(aa:List Int)(h5:Int)(i6:Int)(t7:Bool):St:=⟨[(0,vV Jv aa),(3,vI h5),(4,vI i6),(15,vB t7)],[],0⟩
theorem Zuw(N:Nat){R:Type}(K:Ex->St->Option R){aa:List Int}{K0:Int->Int->Bool->Option R}(h0:K0= λh5 i6 t7=>K (.exit 0) (Zs6 aa h5 i6 t7))(n:Nat)(h3:Int)(i4:Int):Zcl N aa K0 n h3 i4=LM Zld N 0 100003 n (Zuv aa h3 i4) K:=by
  subst h0
  induction n generalizing h3 i4 with
  |zero=>kernel_rfl
  |succ n ih=>rw[Zcl];simp only[ih];kernel_rfl
theorem Zzi(N:Nat)(ac:List Int):DN Zld N (ac,())=Zis N ac:=by
  conv=>rhs;rw[Zis];simp(disch:=exact id (by kernel_rfl)) only[Zuw (R:=Unit×Ks) N (CF Zld N [1,1,0,1,0])]
  kernel_rfl
theorem Zzj(N:Nat):GW 32 (Znj N):=GF Zld N Tryz.func32 Wa (λd=>Zzi N d.1)
def Zmv(N:Nat):Sig:=Sig.of [.v Jv false,.v Ja false] [.v Ja false] (λd=>Zl1 N d.1 d.2.1)
def Zya:Fn:=⟨Tryz.f34,WF,Zmv,Wbh⟩
theorem Zyb(N:Nat):GW 34 (Zmv N):=GF Zya N Tryz.func34 Wa
def Zmw(N:Nat):Sig:=Sig.of [.box Jl] [.v Ja false] (λd=>Zff N d.1)
def Zyc:Fn:=⟨Tryz.f108,WF,Zmw,Wbh⟩
theorem Zyd(N:Nat):GW 108 (Zmw N):=GF Zyc N Tryz.func108 Wa
def Z8(N:Nat):Sig:=Sig.of [.box Jl,.v Ja false] [.v Ja false] (λd=>Zb N d.1 d.2.1)
def Zw4:Fn:=⟨Tryz.f70,WF,Z8,λN=>[(108,Zmw N)]⟩
theorem Zae(N:Nat):GW 70 (Z8 N):=GF Zw4 N Tryz.func70 (GC (Zyd N) Wa)
def Zb0(N:Nat):Sig:=Sig.of [.box Jl,.v Ja false] [.v Jp false] (λd=>Zt N d.1 d.2.1)
def Zye:Fn:=⟨Tryz.f50,WF,Zb0,λN=>[(70,Z8 N)]⟩
theorem Zdb(N:Nat):GW 50 (Zb0 N):=GF Zye N Tryz.func50 (GC (Zae N) Wa)
def Zf6(N:Nat):Sig:=Sig.of [.box Jl,.v Jj false] [.v Ja false] (λd=>Zbq N d.1 d.2.1)
def Zux:Fn:=⟨Tryz.f126,WF,Zf6,λN=>[(70,Z8 N)]⟩
theorem Zkw(N:Nat):GW 126 (Zf6 N):=GF Zux N Tryz.func126 (GC (Zae N) Wa)
def Zh3(N:Nat):Sig:=Sig.of [.box Jl] [.v Ja false] (λd=>Zgi N d.1)
def Zyf:Fn:=⟨Tryz.f85,WF,Zh3,λN=>[(50,Zb0 N),(126,Zf6 N),(70,Z8 N)]⟩
theorem Zmx(N:Nat):GW 85 (Zh3 N):=GF Zyf N Tryz.func85 (GC (Zdb N) (GC (Zkw N) (GC (Zae N) Wa)))
def Zj1(N:Nat):Sig:=Sig.of [.box Jl] [.v Jac false] (λd=>Ze2 N d.1)
def Zhg:Fn:=⟨Tryz.f84,λ |3=>[.canon [0,3,4,7]]|4=>[.canon [0,3,4]]|5=>[.canon [0,3,4]]|100003=>[.canon [0,3,4]]|_=>[],Zj1,λN=>[(85,Zh3 N)]⟩
def Zot(i2:Int)(b3:List Int×Int×Int)(l4:List Int):St:=⟨[(0,vP 0 0),(3,vO 1),(4,vI i2)],[(0,.box [.val Jv b3.1,.val Ja b3.2.1,.val Ja b3.2.2]),(1,.arr Ja l4)],2⟩
def Zok(i6:Int)(t7:Bool)(b8:List Int×Int×Int)(l9:List Int):St:=⟨[(0,vP 0 0),(3,vO 1),(4,vI i6),(7,vB t7)],[(0,.box [.val Jv b8.1,.val Ja b8.2.1,.val Ja b8.2.2]),(1,.arr Ja l9)],2⟩
theorem Zou(N:Nat){R:Type}(K:Ex->St->Option R){K0:Int->Bool->Kf->Kj->Option R}(h0:K0= λi6 t7 b8 l9=>K (.exit 0) (Zok i6 t7 b8 l9))(n:Nat)(i2:Int)(b3:List Int×Int×Int)(l4:List Int):Zci N K0 n i2 b3 l4=LM Zhg N 0 100003 n (Zot i2 b3 l4) K:=by
  subst h0
  induction n generalizing i2 b3 l4 with
  |zero=>kernel_rfl
  |succ n ih=>rw[Zci];simp only[ih];kernel_rfl
theorem Zs7(N:Nat)(c1:List Int×Int×Int):DN Zhg N (c1,())=Ze2 N c1:=by
  conv=>rhs;rw[Ze2];simp(disch:=exact id (by kernel_rfl)) only[Zou (R:=Ks×Ku) N (CF Zhg N [1,1,0,1,0])]
  kernel_rfl
theorem Zs8(N:Nat):GW 84 (Zj1 N):=GF Zhg N Tryz.func84 (GC (Zmx N) Wa) (λd=>Zs7 N d.1)
def Zih(N:Nat):Sig:=Sig.of [.box Jl] [.v (.prod Jac Jq) true] (λd=>Zer N d.1)
def Zii:Fn:=⟨Tryz.f53,λ |3=>[.canon [0,2,3,4,12]]|4=>[.canon [0,2,3,4]]|5=>[.canon [0,2,3,4,5]]|6=>[.canon [0,2,3,4,5,16]]|7=>[.canon [0,2,3,4,5]]|8=>[.canon [0,2,3,4]]|100003=>[.adoptC 3 1 Ja,.canon [0,2,3,4]]|_=>[],Zih,λN=>[(84,Zj1 N),(85,Zh3 N),(50,Zb0 N)]⟩
def Zp2(i4:Int)(b5:List Int×Int×Int)(b7:Int)(l8:List Int)(l9:List Int):St:=⟨[(0,vP 0 0),(2,vP 1 0),(3,vP 2 0),(4,vI i4)],[(0,.box [.val Jv b5.1,.val Ja b5.2.1,.val Ja b5.2.2]),(1,.box [.nils,.nils,.val Ja (0:Int)]),(2,.box [.own 3,.own 4,.val Ja b7]),(3,.arr Ja l8),(4,.arr Ja l9)],5⟩
def Zpf(b7:Int)(l8:List Int)(vY:Int)(bS:Bool)(ba:List Int×Int×Int)(de:List Int):St:=⟨[(0,vP 0 0),(2,vP 1 0),(3,vP 2 0),(4,vI vY),(12,vB bS)],[(0,.box [.val Jv ba.1,.val Ja ba.2.1,.val Ja ba.2.2]),(1,.box [.nils,.nils,.val Ja (0:Int)]),(2,.box [.own 3,.own 4,.val Ja b7]),(3,.arr Ja l8),(4,.arr Ja de)],5⟩
theorem Zp3(N:Nat){R:Type}(K:Ex->St->Option R){b7:Int}{l8:List Int}{K0:Int->Bool->Kf->Kj->Option R}(h0:K0= λvY bS ba de=>K (.exit 0) (Zpf b7 l8 vY bS ba de))(n:Nat)(i4:Int)(b5:List Int×Int×Int)(l9:List Int):Zcg N b7 l8 K0 n i4 b5 l9=LM Zii N 0 100003 n (Zp2 i4 b5 b7 l8 l9) K:=by
  subst h0
  induction n generalizing i4 b5 l9 with
  |zero=>kernel_rfl
  |succ n ih=>rw[Zcg];simp only[ih];kernel_rfl
theorem Zv9(N:Nat)(c1:List Int×Int×Int):DN Zii N (c1,())=Zer N c1:=by
  conv=>rhs;rw[Zer];simp(disch:=exact id (by kernel_rfl)) only[Zp3 (R:=Ks×(Kg×Unit)) N (CF Zii N [1,1,0,1,0])]
  kernel_rfl
theorem Zn9(N:Nat):GW 53 (Zih N):=GF Zii N Tryz.func53 (GC (Zs8 N) (GC (Zmx N) (GC (Zdb N) Wa))) (λd=>Zv9 N d.1)
def Zkx(N:Nat):Sig:=Sig.of [.box Jl] [.v Ja false] (λd=>Za N d.1)
def Zuy:Fn:=⟨Tryz.f161,WF,Zkx,λN=>[(70,Z8 N)]⟩
theorem Zuz(N:Nat):GW 161 (Zkx N):=GF Zuy N Tryz.func161 (GC (Zae N) Wa)
def Zj2(N:Nat):Sig:=Sig.of [.box Jl] [.v Ja false] (λd=>Zby N d.1)
def Zs9:Fn:=⟨Tryz.f162,WF,Zj2,λN=>[(50,Zb0 N),(70,Z8 N)]⟩
theorem Zta(N:Nat):GW 162 (Zj2 N):=GF Zs9 N Tryz.func162 (GC (Zdb N) (GC (Zae N) Wa))
def Zky(N:Nat):Sig:=Sig.of [.box Jl] [.v Ja false] (λd=>Zi N d.1)
def Zu0:Fn:=⟨Tryz.f163,WF,Zky,λN=>[(50,Zb0 N),(70,Z8 N),(126,Zf6 N)]⟩
theorem Zu1(N:Nat):GW 163 (Zky N):=GF Zu0 N Tryz.func163 (GC (Zdb N) (GC (Zae N) (GC (Zkw N) Wa)))
def Zi6(N:Nat):Sig:=Sig.of [.box Jl,.v Ja false] [.v Jx true] (λd=>Zh N d.1 d.2.1)
def Zw5:Fn:=⟨Tryz.f124,WF,Zi6,λN=>[(161,Zkx N),(85,Zh3 N),(162,Zj2 N),(70,Z8 N),(163,Zky N)]⟩
theorem Zol(N:Nat):GW 124 (Zi6 N):=GF Zw5 N Tryz.func124 (GC (Zuz N) (GC (Zmx N) (GC (Zta N) (GC (Zae N) (GC (Zu1 N) Wa)))))
def Zkd(N m:Nat):Sig:=Sig.of [.box Jl,.v Ja false,.v Ja false,.v Jp false] [.v (.own Jx) false] (λd=>Zd9 N m d.1 d.2.1 d.2.2.1 d.2.2.2.1)
def Zp4(N:Nat):Sig:=Zkd N N
def Zle(m:Nat):Fn:=⟨Tryz.f82,λ |3=>[.canon [0,1,2,3,9,10,27]]|4=>[.canon [0,1,2,3,9,10]]|5=>[.canon [0,1,2,3,9,10,11]]|6=>[.canon [0,1,2,3,9,10]]|7=>[.canon [0,1,2,3,9,10,11,40]]|8=>[.canon [0,1,2,3,9,10]]|9=>[.canon [0,1,2,3,9,10,11,48]]|10=>[.canon [0,1,2,3,9,10]]|11=>[.canon [0,1,2,3,9,10,11,56]]|12=>[.canon [0,1,2,3,9,10]]|13=>[.canon [0,1,2,3,9,10,11,67]]|14=>[.canon [0,1,2,3,9,10,12]]|15=>[.canon [0,1,2,3,9,10,12]]|16=>[.canon [0,1,2,3,9,10]]|17=>[.canon [0,1,2,3,9,10,100]]|18=>[.canon [0,1,2,3,9,10]]|19=>[.canon [0,1,2,3,9,10]]|20=>[.canon [0,1,2,3,9,10,11,109]]|21=>[.canon [0,1,2,3,9,10,13]]|22=>[.canon [0,1,2,3,9,10,13,14]]|23=>[.canon [0,1,2,3,9,10,13,14]]|24=>[.canon [0,1,2,3,9,10,13]]|25=>[.canon [0,1,2,3,9,10]]|26=>[.canon [0,1,2,3,9,10,134]]|27=>[.canon [0,1,2,3,9,10]]|28=>[.canon [0,1,2,3,9,10,145]]|29=>[.canon [0,1,2,3,9,10]]|100003=>[.canon [0,1,2,3,9,10]]|_=>[],λN=>Zkd N (m+1),λN=>[(70,Z8 N),(124,Zi6 N),(82,Zkd N m),(50,Zb0 N)]⟩
def Zu2(ai:Int)(ak:Int)(ao:Bool)(n9:Int)(aQ:List Int×Int×Int)(am:List Ka):St:=⟨[(0,vP 0 0),(1,vI ai),(2,vI ak),(3,vB ao),(9,vO 1),(10,vI n9)],[(0,.box [.val Jv aQ.1,.val Ja aQ.2.1,.val Ja aQ.2.2]),(1,.arr Jx am)],2⟩
def Ztb(ai:Int)(ak:Int)(ao:Bool)(vZ:Int)(v6:Bool)(th:List Int×Int×Int)(v7:List Ka):St:=⟨[(0,vP 0 0),(1,vI ai),(2,vI ak),(3,vB ao),(9,vO 1),(10,vI vZ),(27,vB v6)],[(0,.box [.val Jv th.1,.val Ja th.2.1,.val Ja th.2.2]),(1,.arr Jx v7)],2⟩
theorem Zu3(N m:Nat){R:Type}(K:Ex->St->Option R){ai:Int}{ak:Int}{ao:Bool}{K0:Int->Bool->Kf->Kx->Option R}(h0:K0= λvZ v6 th v7=>K (.exit 0) (Ztb ai ak ao vZ v6 th v7))(n:Nat)(n9:Int)(aQ:List Int×Int×Int)(am:List Ka):Zc N (Zd9 N m) ai ak ao K0 n n9 aQ am=LM (Zle m) N 0 100003 n (Zu2 ai ak ao n9 aQ am) K:=by
  subst h0
  induction n generalizing n9 aQ am with
  |zero=>kernel_rfl
  |succ n ih=>rw[Zc];simp only[ih];kernel_rfl
theorem Zzk(N m:Nat)(c1:List Int×Int×Int)(bW:Int)(fB:Int)(jt:Bool):DN (Zle m) N (c1,bW,fB,jt,())=Zd9 N (m+1) c1 bW fB jt:=by
  conv=>rhs;rw[Zd9];simp(disch:=exact id (by kernel_rfl)) only[Zu3 (R:=Ks×(Kx×Unit)) N m (CF (Zle m) N [1,1,0,1,0])]
  kernel_rfl
theorem Zo8(N:Nat):∀m,GW 82 (Zkd N m)
  |0=>⟨WdK Tryz.func82 (show Wqt Tryz.f82=true by kernel_rfl),λd o h=>nomatch (show none=some o from h)⟩
  |m+1=>GF (Zle m) N Tryz.func82 (GC (Zae N) (GC (Zol N) (GC (Zo8 N m) (GC (Zdb N) Wa)))) (λd=>Zzk N m d.1 d.2.1 d.2.2.1 d.2.2.2.1)
theorem Zzl(N:Nat):GW 82 (Zp4 N):=Zo8 N N
def Zke(N:Nat):Sig:=Sig.of [.box Jl,.v Jp false] [.v (.prod (.own Jx) (.own Jc)) true] (λd=>Zdm N d.1 d.2.1)
def Zkf:Fn:=⟨Tryz.f49,λ |7=>[.canon [0,4,7,8,38]]|8=>[.canon [0,4,7,8]]|9=>[.canon [0,4,7,8]]|100007=>[.adoptC 7 1 Jc,.canon [0,4,7,8]]|_=>[],Zke,λN=>[(70,Z8 N),(82,Zp4 N)]⟩
def Ztc(iW:Int)(bc:List Int×Int×Int)(bm:List Ka)(aX:List Kx):St:=⟨[(0,vP 0 0),(4,vP 1 0),(7,vP 2 0),(8,vI iW)],[(0,.box [.val Jv bc.1,.val Ja bc.2.1,.val Ja bc.2.2]),(1,.box [.nils,.nils]),(2,.box [.own 3,.own 4]),(3,.arr Jx bm),(4,.arr Jc aX)],5⟩
def Zri(bm:List Ka)(wa:Int)(ep:Bool)(da:List Int×Int×Int)(c9:List Kx):St:=⟨[(0,vP 0 0),(4,vP 1 0),(7,vP 2 0),(8,vI wa),(38,vB ep)],[(0,.box [.val Jv da.1,.val Ja da.2.1,.val Ja da.2.2]),(1,.box [.nils,.nils]),(2,.box [.own 3,.own 4]),(3,.arr Jx bm),(4,.arr Jc c9)],5⟩
theorem Ztd(N:Nat){R:Type}(K:Ex->St->Option R){bm:List Ka}{K0:Int->Bool->Kf->(List Kx)->Option R}(h0:K0= λwa ep da c9=>K (.exit 0) (Zri bm wa ep da c9))(n:Nat)(iW:Int)(bc:List Int×Int×Int)(aX:List Kx):Ze3 N bm K0 n iW bc aX=LM Zkf N 0 100007 n (Ztc iW bc bm aX) K:=by
  subst h0
  induction n generalizing iW bc aX with
  |zero=>kernel_rfl
  |succ n ih=>rw[Ze3];simp only[ih];kernel_rfl
theorem Zyg(N:Nat)(c1:List Int×Int×Int)(fT:Bool):DN Zkf N (c1,fT,())=Zdm N c1 fT:=by
  conv=>rhs;rw[Zdm];simp(disch:=exact id (by kernel_rfl)) only[Ztd (R:=Ks×(Km×Unit)) N (CF Zkf N [1,1,1,1,1,0,1,0])]
  kernel_rfl
theorem Zo9(N:Nat):GW 49 (Zke N):=GF Zkf N Tryz.func49 (GC (Zae N) (GC (Zzl N) Wa)) (λd=>Zyg N d.1 d.2.1)
def Zmc(N:Nat):Sig:=Sig.of [.box Jl,.v Ja false,.v Ja false] [.v (.own Jk) false] (λd=>Zfo N d.1 d.2.1 d.2.2.1)
def Zi7:Fn:=⟨Tryz.f107,λ |4=>[.canon [0,1,2,7,8,9,14]]|5=>[.canon [0,1,2,7,8,9]]|6=>[.canon [0,1,2,7,8,9,18]]|7=>[.canon [0,1,2,7,8,9]]|8=>[.canon [0,1,2,7,8,9,10]]|9=>[.canon [0,1,2,7,8,9,10,25]]|10=>[.canon [0,1,2,7,8,9,10]]|11=>[.canon [0,1,2,7,8,9,10]]|12=>[.canon [0,1,2,7,8,9,10,31]]|13=>[.canon [0,1,2,7,8,9,10]]|14=>[.canon [0,1,2,7,8,9,10,35]]|15=>[.canon [0,1,2,7,8,9,10]]|16=>[.canon [0,1,2,7,8,9]]|100004=>[.canon [0,1,2,7,8,9]]|_=>[],Zmc,λN=>[(50,Zb0 N),(70,Z8 N)]⟩
def Zrj(n4:Int)(aC:Int)(bN:Int)(i7:Int)(b8:List Int×Int×Int)(l9:List Kb):St:=⟨[(0,vP 0 0),(1,vI n4),(2,vI aC),(7,vO 1),(8,vI bN),(9,vI i7)],[(0,.box [.val Jv b8.1,.val Ja b8.2.1,.val Ja b8.2.2]),(1,.arr Jk l9)],2⟩
def Zp5(n4:Int)(aC:Int)(kT:Int)(wc:Int)(sB:Bool)(fD:List Int×Int×Int)(fM:List Kb):St:=⟨[(0,vP 0 0),(1,vI n4),(2,vI aC),(7,vO 1),(8,vI kT),(9,vI wc),(14,vB sB)],[(0,.box [.val Jv fD.1,.val Ja fD.2.1,.val Ja fD.2.2]),(1,.arr Jk fM)],2⟩
theorem Zrk(N:Nat){R:Type}(K:Ex->St->Option R){n4:Int}{aC:Int}{K0:Int->Int->Bool->Kf->Kr->Option R}(h0:K0= λkT wc sB fD fM=>K (.exit 0) (Zp5 n4 aC kT wc sB fD fM))(n:Nat)(bN:Int)(i7:Int)(b8:List Int×Int×Int)(l9:List Kb):Zz N n4 aC K0 n bN i7 b8 l9=LM Zi7 N 0 100004 n (Zrj n4 aC bN i7 b8 l9) K:=by
  subst h0
  induction n generalizing bN i7 b8 l9 with
  |zero=>kernel_rfl
  |succ n ih=>rw[Zz];simp only[ih];kernel_rfl
theorem Zw6(N:Nat)(c1:List Int×Int×Int)(n2:Int)(cX:Int):DN Zi7 N (c1,n2,cX,())=Zfo N c1 n2 cX:=by
  conv=>rhs;rw[Zfo];simp(disch:=exact id (by kernel_rfl)) only[Zrk (R:=Ks×Kab) N (CF Zi7 N [1,1,1,0,1,0])]
  kernel_rfl
theorem Zw7(N:Nat):GW 107 (Zmc N):=GF Zi7 N Tryz.func107 (GC (Zdb N) (GC (Zae N) Wa)) (λd=>Zw6 N d.1 d.2.1 d.2.2.1)
def Zkz(N:Nat):Sig:=Sig.of [.box Jl,.v Ja false,.v Ja false] [.v (.prod (.prod Jac Jq) (.prod (.own Jm) (.own Jk))) true] (λd=>Zfp N d.1 d.2.1 d.2.2.1)
def Zh4:Fn:=⟨Tryz.f69,λ |4=>[.canon [0,1,2,6,7,8,9,18]]|5=>[.canon [0,1,2,6,7,8,9]]|6=>[.canon [0,1,2,6,7,8,9]]|100004=>[.adoptC 7 3 Jm,.canon [0,1,2,6,7,8,9]]|_=>[],Zkz,λN=>[(53,Zih N),(70,Z8 N),(49,Zke N),(50,Zb0 N),(107,Zmc N)]⟩
def Zpg(dF:Int)(bt:Int)(n8:Int)(i9:Int)(aQ:List Int×Int×Int)(cp:Int)(aX:List Int)(aW:List Int)(bk:List Km):St:=⟨[(0,vP 0 0),(1,vI dF),(2,vI bt),(6,vP 1 0),(7,vP 2 0),(8,vI n8),(9,vI i9)],[(0,.box [.val Jv aQ.1,.val Ja aQ.2.1,.val Ja aQ.2.2]),(1,.box [.nils,.nils,.val Ja (0:Int),.nils,.nils]),(2,.box [.own 3,.own 4,.val Ja cp,.own 5,.nils]),(3,.arr Ja aX),(4,.arr Ja aW),(5,.arr Jm bk)],6⟩
def Zov(dF:Int)(bt:Int)(n8:Int)(cp:Int)(aX:List Int)(aW:List Int)(we:Int)(t25:Bool)(fC:List Int×Int×Int)(dy:List Km):St:=⟨[(0,vP 0 0),(1,vI dF),(2,vI bt),(6,vP 1 0),(7,vP 2 0),(8,vI n8),(9,vI we),(18,vB t25)],[(0,.box [.val Jv fC.1,.val Ja fC.2.1,.val Ja fC.2.2]),(1,.box [.nils,.nils,.val Ja (0:Int),.nils,.nils]),(2,.box [.own 3,.own 4,.val Ja cp,.own 5,.nils]),(3,.arr Ja aX),(4,.arr Ja aW),(5,.arr Jm dy)],6⟩
theorem Zph(N:Nat){R:Type}(K:Ex->St->Option R){dF:Int}{bt:Int}{n8:Int}{cp:Int}{aX:List Int}{aW:List Int}{K0:Int->Bool->Kf->(List Km)->Option R}(h0:K0= λwe t25 fC dy=>K (.exit 0) (Zov dF bt n8 cp aX aW we t25 fC dy))(n:Nat)(i9:Int)(aQ:List Int×Int×Int)(bk:List Km):Zbk N dF bt n8 cp aX aW K0 n i9 aQ bk=LM Zh4 N 0 100004 n (Zpg dF bt n8 i9 aQ cp aX aW bk) K:=by
  subst h0
  induction n generalizing i9 aQ bk with
  |zero=>kernel_rfl
  |succ n ih=>rw[Zbk];simp only[ih];kernel_rfl
theorem Zu4(N:Nat)(c1:List Int×Int×Int)(mw:Int)(cX:Int):DN Zh4 N (c1,mw,cX,())=Zfp N c1 mw cX:=by
  conv=>rhs;rw[Zfp];simp(disch:=exact id (by kernel_rfl)) only[Zph (R:=Ks×(Ky×Unit)) N (CF Zh4 N [1,1,1,0,1,0])]
  kernel_rfl
theorem Zu5(N:Nat):GW 69 (Zkz N):=GF Zh4 N Tryz.func69 (GC (Zn9 N) (GC (Zae N) (GC (Zo9 N) (GC (Zdb N) (GC (Zw7 N) Wa))))) (λd=>Zu4 N d.1 d.2.1 d.2.2.1)
def Zi8(N:Nat):Sig:=Sig.of [.box Jl] [.v (.prod Jac Jq) true] (λd=>Zhx N d.1)
def Zrl:Fn:=⟨Tryz.f54,WF,Zi8,λN=>[(53,Zih N),(70,Z8 N)]⟩
theorem Zrm(N:Nat):GW 54 (Zi8 N):=GF Zrl N Tryz.func54 (GC (Zn9 N) (GC (Zae N) Wa))
def Znk(N:Nat):Sig:=Sig.of [.box Jl] [.v Jx true] (λd=>Zmt N d.1)
def Zzm:Fn:=⟨Tryz.f125,WF,Znk,λN=>[(70,Z8 N),(124,Zi6 N),(126,Zf6 N)]⟩
theorem Zzn(N:Nat):GW 125 (Znk N):=GF Zzm N Tryz.func125 (GC (Zae N) (GC (Zol N) (GC (Zkw N) Wa)))
def Zmy(N:Nat):Sig:=Sig.of [.box Jl,.v Jc false] [.v (.own Jx) false] (λd=>Zgj N d.1 d.2.1)
def Zkg:Fn:=⟨Tryz.f83,λ |12=>[.view 49,.view 45]|14=>[.canon [0,5,58]]|15=>[.canon [0,5]]|100014=>[.canon [0,5]]|_=>[],Zmy,λN=>[(70,Z8 N),(125,Znk N)]⟩
def Zte(b6:List Int×Int×Int)(l7:List Ka):St:=⟨[(0,vP 0 0),(5,vO 1)],[(0,.box [.val Jv b6.1,.val Ja b6.2.1,.val Ja b6.2.2]),(1,.arr Jx l7)],2⟩
def Zrn(t9:Bool)(aQ:List Int×Int×Int)(am:List Ka):St:=⟨[(0,vP 0 0),(5,vO 1),(58,vB t9)],[(0,.box [.val Jv aQ.1,.val Ja aQ.2.1,.val Ja aQ.2.2]),(1,.arr Jx am)],2⟩
theorem Ztf(N:Nat){R:Type}(K:Ex->St->Option R){K0:Bool->Kf->Kx->Option R}(h0:K0= λt9 aQ am=>K (.exit 1) (Zrn t9 aQ am))(n:Nat)(b6:List Int×Int×Int)(l7:List Ka):Ze4 N K0 n b6 l7=LM Zkg N 0 100014 n (Zte b6 l7) K:=by
  subst h0
  induction n generalizing b6 l7 with
  |zero=>kernel_rfl
  |succ n ih=>rw[Ze4];simp only[ih];kernel_rfl
theorem Zyh(N:Nat)(c1:List Int×Int×Int)(aa:List Ka):DN Zkg N (c1,aa,())=Zgj N c1 aa:=by
  conv=>rhs;rw[Zgj];simp(disch:=exact id (by kernel_rfl)) only[Ztf (R:=Ks×(Kx×Unit)) N (CF Zkg N [1,1,1,1,0,1,0,1,1,1,1,1,1,1,0,0])]
  kernel_rfl
theorem Zyi(N:Nat):GW 83 (Zmy N):=GF Zkg N Tryz.func83 (GC (Zae N) (GC (Zzn N) Wa)) (λd=>Zyh N d.1 d.2.1)
def Zk0(N:Nat):Sig:=Sig.of [.box Jl] [.v (.prod (.own Jx) (.own Jc)) true] (λd=>Zi4 N d.1)
def Zu6:Fn:=⟨Tryz.f51,WF,Zk0,λN=>[(50,Zb0 N),(49,Zke N),(70,Z8 N),(83,Zmy N)]⟩
theorem Zu7(N:Nat):GW 51 (Zk0 N):=GF Zu6 N Tryz.func51 (GC (Zdb N) (GC (Zo9 N) (GC (Zae N) (GC (Zyi N) Wa))))
def Zmz(N:Nat):Sig:=Sig.of [.box Jl,.v Ja false] [.v (.prod (.prod Jac Jq) (.prod (.own Jm) (.own Jk))) true] (λd=>Zhp N d.1 d.2.1)
def Zgd:Fn:=⟨Tryz.f33,λ |8=>[.canon [0,4,5,28]]|9=>[.canon [0,4,5]]|13=>[.canon [0,4,5,55]]|14=>[.canon [0,4,5]]|100008=>[.canon [0,4,5]]|100013=>[.canon [0,4,5]]|_=>[],Zmz,λN=>[(69,Zkz N),(70,Z8 N),(54,Zi8 N),(51,Zk0 N)]⟩
def Ztg(b7:List Int×Int×Int)(b9:Int)(ju:List Int)(am:List Int)(bm:List Km)(aX:List Kb):St:=⟨[(0,vP 0 0),(4,vP 1 0),(5,vP 2 0)],[(0,.box [.val Jv b7.1,.val Ja b7.2.1,.val Ja b7.2.2]),(1,.box [.nils,.nils,.val Ja (0:Int),.nils,.nils]),(2,.box [.own 3,.own 4,.val Ja b9,.own 5,.own 6]),(3,.arr Ja ju),(4,.arr Ja am),(5,.arr Jm bm),(6,.arr Jk aX)],7⟩
def Zro(b7:List Int×Int×Int)(b9:Int)(ju:List Int)(am:List Int)(aX:List Kb)(gG:Bool)(bk:List Km):St:=⟨[(0,vP 0 0),(4,vP 1 0),(5,vP 2 0),(28,vB gG)],[(0,.box [.val Jv b7.1,.val Ja b7.2.1,.val Ja b7.2.2]),(1,.box [.nils,.nils,.val Ja (0:Int),.nils,.nils]),(2,.box [.own 3,.own 4,.val Ja b9,.own 5,.own 6]),(3,.arr Ja ju),(4,.arr Ja am),(5,.arr Jm bk),(6,.arr Jk aX)],7⟩
theorem Zth(N:Nat){R:Type}(K:Ex->St->Option R){b7:List Int×Int×Int}{b9:Int}{ju:List Int}{am:List Int}{aX:List Kb}{K0:Bool->(List Km)->Option R}(h0:K0= λgG bk=>K (.exit 1) (Zro b7 b9 ju am aX gG bk))(n:Nat)(bm:List Km):Ze5 N b7 b9 ju am aX K0 n bm=LM Zgd N 0 100008 n (Ztg b7 b9 ju am bm aX) K:=by
  subst h0
  induction n generalizing bm with
  |zero=>kernel_rfl
  |succ n ih=>rw[Ze5];simp only[ih];kernel_rfl
def Zti(da:List Int×Int×Int)(dB:Int)(cV:List Int)(bV:List Int)(cJ:List Km)(db:List Kb):St:=⟨[(0,vP 0 0),(4,vP 1 0),(5,vP 2 0)],[(0,.box [.val Jv da.1,.val Ja da.2.1,.val Ja da.2.2]),(1,.box [.nils,.nils,.val Ja (0:Int),.nils,.nils]),(2,.box [.own 3,.own 4,.val Ja dB,.own 5,.own 6]),(3,.arr Ja cV),(4,.arr Ja bV),(5,.arr Jm cJ),(6,.arr Jk db)],7⟩
def Zrp(dB:Int)(cV:List Int)(bV:List Int)(cJ:List Km)(s8:Bool)(fE:List Int×Int×Int)(s9:List Kb):St:=⟨[(0,vP 0 0),(4,vP 1 0),(5,vP 2 0),(55,vB s8)],[(0,.box [.val Jv fE.1,.val Ja fE.2.1,.val Ja fE.2.2]),(1,.box [.nils,.nils,.val Ja (0:Int),.nils,.nils]),(2,.box [.own 3,.own 4,.val Ja dB,.own 5,.own 6]),(3,.arr Ja cV),(4,.arr Ja bV),(5,.arr Jm cJ),(6,.arr Jk s9)],7⟩
theorem Ztj(N:Nat){R:Type}(K:Ex->St->Option R){dB:Int}{cV:List Int}{bV:List Int}{cJ:List Km}{K0:Bool->Kf->Kr->Option R}(h0:K0= λs8 fE s9=>K (.exit 3) (Zrp dB cV bV cJ s8 fE s9))(n:Nat)(da:List Int×Int×Int)(db:List Kb):Ze6 N dB cV bV cJ K0 n da db=LM Zgd N 1 100013 n (Zti da dB cV bV cJ db) K:=by
  subst h0
  induction n generalizing da db with
  |zero=>kernel_rfl
  |succ n ih=>rw[Ze6];simp only[ih];kernel_rfl
theorem Zyj(N:Nat)(c1:List Int×Int×Int)(bW:Int):DN Zgd N (c1,bW,())=Zhp N c1 bW:=by
  conv=>rhs;rw[Zhp];simp(disch:=exact id (by kernel_rfl)) only[Zth (R:=Ks×(Ky×Unit)) N (CF Zgd N [1,1,0,1,0,1,1,1,1,1,0,0]),Ztj (R:=Ks×(Ky×Unit)) N (CF Zgd N [1,1,0,1,0,1,1,1,1,1,1,1,1,1,0,0])]
  kernel_rfl
theorem Zyk(N:Nat):GW 33 (Zmz N):=GF Zgd N Tryz.func33 (GC (Zu5 N) (GC (Zae N) (GC (Zrm N) (GC (Zu7 N) Wa)))) (λd=>Zyj N d.1 d.2.1)
def Zlp(N:Nat):Sig:=Sig.of [.v Jv false] [.v Jaf true] (λd=>Zka N d.1)
def Zwa:Fn:=⟨Tryz.f29,WF,Zlp,λN=>[(32,Znj N),(34,Zmv N),(33,Zmz N)]⟩
theorem Zwb(N:Nat):GW 29 (Zlp N):=GF Zwa N Tryz.func29 (GC (Zzj N) (GC (Zyb N) (GC (Zyk N) Wa)))
def Zgl(N:Nat):Sig:=Sig.of [.v Ja false,.v Ja false,.v Ja false] [.v Jp false] (λd=>Zbp N d.1 d.2.1 d.2.2.1)
def Zz5:Fn:=⟨Tryz.f60,WF,Zgl,Wbh⟩
theorem Zjx(N:Nat):GW 60 (Zgl N):=GF Zz5 N Tryz.func60 Wa
def Ziv(N:Nat):Sig:=Sig.of [.v Ja false] [.v Jp false] (λd=>Zg0 N d.1)
def Zzo:Fn:=⟨Tryz.f59,WF,Ziv,λN=>[(60,Zgl N)]⟩
theorem Znl(N:Nat):GW 59 (Ziv N):=GF Zzo N Tryz.func59 (GC (Zjx N) Wa)
def Zm0(N:Nat):Sig:=Sig.of [.v Jj false] [.v Jp false] (λd=>Zhn N d.1)
def Zkh:Fn:=⟨Tryz.f58,λ |4=>[.canon [0,3,10]]|5=>[.canon [0,3]]|6=>[.canon [0,3,18]]|7=>[.canon [2]]|100004=>[.canon [0,3]]|_=>[],Zm0,λN=>[(59,Ziv N)]⟩
def Ztk(l2:List Int)(i3:Int):St:=⟨[(0,vV Jj l2),(3,vI i3)],[],0⟩
def Zrq(l2:List Int):St:=⟨[(2,vB false)],[],0⟩
def Zrr(l2:List Int)(i5:Int)(t6:Bool):St:=⟨[(0,vV Jj l2),(3,vI i5),(10,vB t6)],[],0⟩
theorem Ztl(N:Nat){R:Type}(K:Ex->St->Option R){l2:List Int}{K0:Option R}{K1:Int->Bool->Option R}(h0:K0=K .ret (Zrq l2))(h1:K1= λi5 t6=>K (.exit 0) (Zrr l2 i5 t6))(n:Nat)(i3:Int):Zc1 N l2 K0 K1 n i3=LM Zkh N 0 100004 n (Ztk l2 i3) K:=by
  subst h0 h1
  induction n generalizing i3 with
  |zero=>kernel_rfl
  |succ n ih=>rw[Zc1];simp only[ih];kernel_rfl
theorem Zyl(N:Nat)(l1:List Int):DN Zkh N (l1,())=Zhn N l1:=by
  conv=>rhs;rw[Zhn];simp(disch:=exact id (by kernel_rfl)) only[Ztl (R:=Unit×Ko) N (CF Zkh N [1,1,0,1,0])]
  kernel_rfl
theorem Zym(N:Nat):GW 58 (Zm0 N):=GF Zkh N Tryz.func58 (GC (Znl N) Wa) (λd=>Zyl N d.1)
def Zlq(N:Nat):Sig:=Sig.of [.v Jr true] [.v Jp false] (λd=>Zgb N d.1)
def Zij:Fn:=⟨Tryz.f23,λ |4=>[.canon [1,3,24]]|5=>[.canon [1,3]]|6=>[.canon [1,3,33]]|7=>[.canon [2]]|100004=>[.canon [1,3]]|_=>[],Zlq,λN=>[(58,Zm0 N),(59,Ziv N),(60,Zgl N)]⟩
def Zp6(i4:Int)(b5:List Int×List Int×Int):St:=⟨[(1,vP 0 0),(3,vI i4)],[(0,.box [.val Jj b5.1,.val Jj b5.2.1,.val Ja b5.2.2])],1⟩
def Zpi(b5:List Int×List Int×Int):St:=⟨[(2,vB false)],[],0⟩
def Zpj(b5:List Int×List Int×Int)(i7:Int)(t8:Bool):St:=⟨[(1,vP 0 0),(3,vI i7),(24,vB t8)],[(0,.box [.val Jj b5.1,.val Jj b5.2.1,.val Ja b5.2.2])],1⟩
theorem Zp7(N:Nat){R:Type}(K:Ex->St->Option R){b5:List Int×List Int×Int}{K0:Option R}{K1:Int->Bool->Option R}(h0:K0=K .ret (Zpi b5))(h1:K1= λi7 t8=>K (.exit 0) (Zpj b5 i7 t8))(n:Nat)(i4:Int):Zbs N b5 K0 K1 n i4=LM Zij N 0 100004 n (Zp6 i4 b5) K:=by
  subst h0 h1
  induction n generalizing i4 with
  |zero=>kernel_rfl
  |succ n ih=>rw[Zbs];simp only[ih];kernel_rfl
theorem Zwc(N:Nat)(s1:List Int×List Int×Int):DN Zij N (s1,())=Zgb N s1:=by
  conv=>rhs;rw[Zgb];simp(disch:=exact id (by kernel_rfl)) only[Zp7 (R:=Unit×Ko) N (CF Zij N [1,1,0,1,0])]
  kernel_rfl
theorem Zwd(N:Nat):GW 23 (Zlq N):=GF Zij N Tryz.func23 (GC (Zym N) (GC (Znl N) (GC (Zjx N) Wa))) (λd=>Zwc N d.1)
def Znm(N:Nat):Sig:=Sig.of [.v Ja false] [.v Jp false] (λd=>Zr N d.1)
def Zzp:Fn:=⟨Tryz.f127,WF,Znm,λN=>[(60,Zgl N)]⟩
theorem Zzq(N:Nat):GW 127 (Znm N):=GF Zzp N Tryz.func127 (GC (Zjx N) Wa)
def Zm1(N:Nat):Sig:=Sig.of [.v Ja false] [.v Jp false] (λd=>Zgg N d.1)
def Zyn:Fn:=⟨Tryz.f128,WF,Zm1,λN=>[(60,Zgl N)]⟩
theorem Zyo(N:Nat):GW 128 (Zm1 N):=GF Zyn N Tryz.func128 (GC (Zjx N) Wa)
def Zl3(N:Nat):Sig:=Sig.of [.v Jx true] [.v Jp false] (λd=>Zp N d.1)
def Zz6:Fn:=⟨Tryz.f86,WF,Zl3,λN=>[(127,Znm N),(59,Ziv N),(128,Zm1 N),(60,Zgl N)]⟩
theorem Zs4(N:Nat):GW 86 (Zl3 N):=GF Zz6 N Tryz.func86 (GC (Zzq N) (GC (Znl N) (GC (Zyo N) (GC (Zjx N) Wa))))
def Zm2(N:Nat):Sig:=Sig.of [.v Jc false,.v Ja false] [.v Jp false] (λd=>Zho N d.1 d.2.1)
def Zki:Fn:=⟨Tryz.f87,λ |6=>[.canon [0,5,6,7,24]]|7=>[.canon [0,5,6,7]]|8=>[.canon [0,5,6,7,32]]|9=>[.canon [0,5,6,7]]|10=>[.canon [0,5,6,7,40]]|11=>[.canon [0,5,6,7]]|12=>[.canon [0,5,6,7,44]]|13=>[.canon [4]]|100006=>[.canon [0,5,6,7]]|_=>[],Zm2,Wbh⟩
def Ztm(ad:List Ka)(gR:Int)(d5:Int)(k6:Int):St:=⟨[(0,vV Jc ad),(5,vI gR),(6,vI d5),(7,vI k6)],[],0⟩
def Zrs(ad:List Ka)(gR:Int):St:=⟨[(4,vB false)],[],0⟩
def Zrt(ad:List Ka)(gR:Int)(d7:Int)(k8:Int)(t9:Bool):St:=⟨[(0,vV Jc ad),(5,vI gR),(6,vI d7),(7,vI k8),(24,vB t9)],[],0⟩
theorem Ztn(N:Nat){R:Type}(K:Ex->St->Option R){ad:List Ka}{gR:Int}{K0:Option R}{K1:Int->Int->Bool->Option R}(h0:K0=K .ret (Zrs ad gR))(h1:K1= λd7 k8 t9=>K (.exit 0) (Zrt ad gR d7 k8 t9))(n:Nat)(d5:Int)(k6:Int):Za7 N ad gR K0 K1 n d5 k6=LM Zki N 0 100006 n (Ztm ad gR d5 k6) K:=by
  subst h0 h1
  induction n generalizing d5 k6 with
  |zero=>kernel_rfl
  |succ n ih=>rw[Za7];simp only[ih];kernel_rfl
theorem Zyp(N:Nat)(ac:List Ka)(i2:Int):DN Zki N (ac,i2,())=Zho N ac i2:=by
  conv=>rhs;rw[Zho];simp(disch:=exact id (by kernel_rfl)) only[Ztn (R:=Unit×Ko) N (CF Zki N [1,1,1,1,0,1,0])]
  kernel_rfl
theorem Zyq(N:Nat):GW 87 (Zm2 N):=GF Zki N Tryz.func87 Wa (λd=>Zyp N d.1 d.2.1)
def Zkj(N:Nat):Sig:=Sig.of [.v Jc false] [.v Jp false] (λd=>Zgh N d.1)
def Zkk:Fn:=⟨Tryz.f55,λ |6=>[.canon [0,3,4,5,12]]|7=>[.canon [0,3,4,5]]|8=>[.canon [0,3,4,5,20]]|9=>[.canon [2]]|10=>[.canon [0,3,4,5,25]]|11=>[.canon [0,3,4,5,25,26]]|12=>[.canon [0,3,4,5]]|13=>[.canon [0,3,4,5,25,30]]|14=>[.canon [0,3,4,5]]|15=>[.canon [0,3,4,5,25,34]]|16=>[.canon [0,3,4,5,39]]|17=>[.canon [2]]|18=>[.canon [0,3,4,5,40]]|19=>[.canon [0,3,4,5]]|20=>[.canon [0,3,4,5,49]]|21=>[.canon [2]]|22=>[.canon [0,3,4,5,51]]|23=>[.canon [2]]|100006=>[.canon [0,3,4,5]]|_=>[],Zkj,λN=>[(86,Zl3 N),(87,Zm2 N)]⟩
def Zto(aa:List Ka)(d3:Int)(ax:Int)(i5:Int):St:=⟨[(0,vV Jc aa),(3,vI d3),(4,vI ax),(5,vI i5)],[],0⟩
def Zru(aa:List Ka):St:=⟨[(2,vB false)],[],0⟩
def Zrv(aa:List Ka)(d8:Int)(iE:Int)(lC:Int)(aL:Bool):St:=⟨[(0,vV Jc aa),(3,vI d8),(4,vI iE),(5,vI lC),(12,vB aL)],[],0⟩
theorem Ztp(N:Nat){R:Type}(K:Ex->St->Option R){aa:List Ka}{K0:Option R}{K1:Int->Int->Int->Bool->Option R}(h0:K0=K .ret (Zru aa))(h1:K1= λd8 iE lC aL=>K (.exit 0) (Zrv aa d8 iE lC aL))(n:Nat)(d3:Int)(ax:Int)(i5:Int):Za8 N aa K0 K1 n d3 ax i5=LM Zkk N 0 100006 n (Zto aa d3 ax i5) K:=by
  subst h0 h1
  induction n generalizing d3 ax i5 with
  |zero=>kernel_rfl
  |succ n ih=>rw[Za8];simp only[ih];kernel_rfl
theorem Zyr(N:Nat)(ac:List Ka):DN Zkk N (ac,())=Zgh N ac:=by
  conv=>rhs;rw[Zgh];simp(disch:=exact id (by kernel_rfl)) only[Ztp (R:=Unit×Ko) N (CF Zkk N [1,1,1,1,0,1,0])]
  kernel_rfl
theorem Zpa(N:Nat):GW 55 (Zkj N):=GF Zkk N Tryz.func55 (GC (Zs4 N) (GC (Zyq N) Wa)) (λd=>Zyr N d.1)
def Zi9(N:Nat):Sig:=Sig.of [.v Jc false] [.v Jp false] (λd=>Zfm N d.1)
def Zja:Fn:=⟨Tryz.f56,λ |2=>[.canon [0,3,7]]|3=>[.canon [0,3]]|4=>[.canon [0,3,15]]|5=>[.canon [2]]|100002=>[.canon [0,3]]|_=>[],Zi9,Wbh⟩
def Zrw(aa:List Ka)(i3:Int):St:=⟨[(0,vV Jc aa),(3,vI i3)],[],0⟩
def Zp8(aa:List Ka):St:=⟨[(2,vB true)],[],0⟩
def Zp9(aa:List Ka)(i4:Int)(t5:Bool):St:=⟨[(0,vV Jc aa),(3,vI i4),(7,vB t5)],[],0⟩
theorem Zrx(N:Nat){R:Type}(K:Ex->St->Option R){aa:List Ka}{K0:Option R}{K1:Int->Bool->Option R}(h0:K0=K .ret (Zp8 aa))(h1:K1= λi4 t5=>K (.exit 0) (Zp9 aa i4 t5))(n:Nat)(i3:Int):Zck N aa K0 K1 n i3=LM Zja N 0 100002 n (Zrw aa i3) K:=by
  subst h0 h1
  induction n generalizing i3 with
  |zero=>kernel_rfl
  |succ n ih=>rw[Zck];simp only[ih];kernel_rfl
theorem Zw8(N:Nat)(ac:List Ka):DN Zja N (ac,())=Zfm N ac:=by
  conv=>rhs;rw[Zfm];simp(disch:=exact id (by kernel_rfl)) only[Zrx (R:=Unit×Ko) N (CF Zja N [1,0,1,0])]
  kernel_rfl
theorem Zom(N:Nat):GW 56 (Zi9 N):=GF Zja N Tryz.func56 Wa (λd=>Zw8 N d.1)
def Zmd(N:Nat):Sig:=Sig.of [.v Jx true] [.v Ja false] (λd=>Zb9 N d.1)
def Zw9:Fn:=⟨Tryz.f88,WF,Zmd,λN=>[(86,Zl3 N)]⟩
theorem Zxa(N:Nat):GW 88 (Zmd N):=GF Zw9 N Tryz.func88 (GC (Zs4 N) Wa)
def Znn(N:Nat):Sig:=Sig.of [.v Jc false] [.v Jp false] (λd=>Zg1 N d.1)
def Zlf:Fn:=⟨Tryz.f57,λ |4=>[.canon [0,3,14]]|5=>[.canon [0,3]]|6=>[.canon [0,3,22]]|7=>[.canon [2]]|100004=>[.canon [0,3]]|_=>[],Znn,λN=>[(55,Zkj N),(56,Zi9 N),(88,Zmd N)]⟩
def Zu8(aA:List Ka)(i5:Int):St:=⟨[(0,vV Jc aA),(3,vI i5)],[],0⟩
def Ztq(aA:List Ka):St:=⟨[(2,vB false)],[],0⟩
def Ztr(aA:List Ka)(i7:Int)(t8:Bool):St:=⟨[(0,vV Jc aA),(3,vI i7),(14,vB t8)],[],0⟩
theorem Zu9(N:Nat){R:Type}(K:Ex->St->Option R){aA:List Ka}{K0:Option R}{K1:Int->Bool->Option R}(h0:K0=K .ret (Ztq aA))(h1:K1= λi7 t8=>K (.exit 0) (Ztr aA i7 t8))(n:Nat)(i5:Int):Zdv N aA K0 K1 n i5=LM Zlf N 0 100004 n (Zu8 aA i5) K:=by
  subst h0 h1
  induction n generalizing i5 with
  |zero=>kernel_rfl
  |succ n ih=>rw[Zdv];simp only[ih];kernel_rfl
theorem Zzr(N:Nat)(ac:List Ka):DN Zlf N (ac,())=Zg1 N ac:=by
  conv=>rhs;rw[Zg1];simp(disch:=exact id (by kernel_rfl)) only[Zu9 (R:=Unit×Ko) N (CF Zlf N [1,1,0,1,0])]
  kernel_rfl
theorem Zzs(N:Nat):GW 57 (Znn N):=GF Zlf N Tryz.func57 (GC (Zpa N) (GC (Zom N) (GC (Zxa N) Wa))) (λd=>Zzr N d.1)
def Zm3(N:Nat):Sig:=Sig.of [.v Jm true] [.v Jp false] (λd=>Zgk N d.1)
def Zkl:Fn:=⟨Tryz.f22,λ |4=>[.canon [1,3,28]]|5=>[.canon [1,3]]|6=>[.canon [1,3,38]]|7=>[.canon [2]]|100004=>[.canon [1,3]]|_=>[],Zm3,λN=>[(55,Zkj N),(56,Zi9 N),(57,Znn N)]⟩
def Zts(i4:Int)(b5:List Ka×List Kx):St:=⟨[(1,vP 0 0),(3,vI i4)],[(0,.box [.val Jc b5.1,.val (.slice Jc) b5.2])],1⟩
def Zry(b5:List Ka×List Kx):St:=⟨[(2,vB false)],[],0⟩
def Zrz(b5:List Ka×List Kx)(i7:Int)(t8:Bool):St:=⟨[(1,vP 0 0),(3,vI i7),(28,vB t8)],[(0,.box [.val Jc b5.1,.val (.slice Jc) b5.2])],1⟩
theorem Ztt(N:Nat){R:Type}(K:Ex->St->Option R){b5:List Ka×List Kx}{K0:Option R}{K1:Int->Bool->Option R}(h0:K0=K .ret (Zry b5))(h1:K1= λi7 t8=>K (.exit 0) (Zrz b5 i7 t8))(n:Nat)(i4:Int):Zcb N b5 K0 K1 n i4=LM Zkl N 0 100004 n (Zts i4 b5) K:=by
  subst h0 h1
  induction n generalizing i4 with
  |zero=>kernel_rfl
  |succ n ih=>rw[Zcb];simp only[ih];kernel_rfl
theorem Zys(N:Nat)(p1:List Ka×List Kx):DN Zkl N (p1,())=Zgk N p1:=by
  conv=>rhs;rw[Zgk];simp(disch:=exact id (by kernel_rfl)) only[Ztt (R:=Unit×Ko) N (CF Zkl N [1,1,0,1,0])]
  kernel_rfl
theorem Zyt(N:Nat):GW 22 (Zm3 N):=GF Zkl N Tryz.func22 (GC (Zpa N) (GC (Zom N) (GC (Zzs N) Wa))) (λd=>Zys N d.1)
def Zlr(N:Nat):Sig:=Sig.of [.v Jaf true] [.v Jp false] (λd=>Zgc N d.1)
def Zik:Fn:=⟨Tryz.f12,λ |4=>[.canon [1,3,24]]|5=>[.canon [1,3]]|6=>[.canon [1,3,33]]|7=>[.canon [2]]|100004=>[.canon [1,3]]|_=>[],Zlr,λN=>[(23,Zlq N),(22,Zm3 N)]⟩
def Zqa(i3:Int)(b4:Kg×List Km×List Kb):St:=⟨[(1,vP 0 0),(3,vI i3)],[(0,.box [.val Jj b4.1.1,.val Jj b4.1.2.1,.val Ja b4.1.2.2,.val Jaa b4.2.1,.val Je b4.2.2])],1⟩
def Zpk(b4:Kg×List Km×List Kb):St:=⟨[(2,vB false)],[],0⟩
def Zpl(b4:Kg×List Km×List Kb)(i6:Int)(t7:Bool):St:=⟨[(1,vP 0 0),(3,vI i6),(24,vB t7)],[(0,.box [.val Jj b4.1.1,.val Jj b4.1.2.1,.val Ja b4.1.2.2,.val Jaa b4.2.1,.val Je b4.2.2])],1⟩
theorem Zqb(N:Nat){R:Type}(K:Ex->St->Option R){b4:Kg×List Km×List Kb}{K0:Option R}{K1:Int->Bool->Option R}(h0:K0=K .ret (Zpk b4))(h1:K1= λi6 t7=>K (.exit 0) (Zpl b4 i6 t7))(n:Nat)(i3:Int):Zbt N b4 K0 K1 n i3=LM Zik N 0 100004 n (Zqa i3 b4) K:=by
  subst h0 h1
  induction n generalizing i3 with
  |zero=>kernel_rfl
  |succ n ih=>rw[Zbt];simp only[ih];kernel_rfl
theorem Zwe(N:Nat)(s1:Kg×List Km×List Kb):DN Zik N (s1,())=Zgc N s1:=by
  conv=>rhs;rw[Zgc];simp(disch:=exact id (by kernel_rfl)) only[Zqb (R:=Unit×Ko) N (CF Zik N [1,1,0,1,0])]
  kernel_rfl
theorem Zwf(N:Nat):GW 12 (Zlr N):=GF Zik N Tryz.func12 (GC (Zwd N) (GC (Zyt N) Wa)) (λd=>Zwe N d.1)
def Zpm(N:Nat):Sig:=Sig.of [.v Jv false,.v Ja false] [.v Ja false] (λd=>Zag N d.1 d.2.1)
def Z0m:Fn:=⟨Tryz.f30,WF,Zpm,Wbh⟩
theorem Z0n(N:Nat):GW 30 (Zpm N):=GF Z0m N Tryz.func30 Wa
def Zls(N:Nat):Sig:=Sig.of [.v Ja false] [.v (.prod (.own Jx) (.own (.own Jx))) true] (λd=>Zay N d.1)
def Zwg:Fn:=⟨Tryz.f31,WF,Zls,Wbh⟩
theorem Zwh(N:Nat):GW 31 (Zls N):=GF Zwg N Tryz.func31 Wa
def Z3(N:Nat):Sig:=Sig.of [.v Ja false,.v Ja false,.v Ja false] [.v Jp false] (λd=>Zm N d.1 d.2.1 d.2.2.1)
def Zyu:Fn:=⟨Tryz.f44,WF,Z3,Wbh⟩
theorem Zab(N:Nat):GW 44 (Z3 N):=GF Zyu N Tryz.func44 Wa
def Za5(N:Nat):Sig:=Sig.of [.v Ja false] [.v Jp false] (λd=>Zaz N d.1)
def Zxb:Fn:=⟨Tryz.f76,WF,Za5,λN=>[(44,Z3 N)]⟩
theorem Zbr(N:Nat):GW 76 (Za5 N):=GF Zxb N Tryz.func76 (GC (Zab N) Wa)
def Zcp(N:Nat):Sig:=Sig.of [.v Jj false,.v Ja false] [.v Jp false] (λd=>Zaj N d.1 d.2.1)
def Zh5:Fn:=⟨Tryz.f81,λ |2=>[.canon [0,1,7,8,9,10]]|3=>[.canon [0,1,6,7,8,9]]|4=>[.canon [0,1,7,8,9,15]]|5=>[.canon [4]]|6=>[.canon [0,1,7,8,9]]|100002=>[.canon [0,1,7,8,9]]|_=>[],Zcp,λN=>[(76,Za5 N)]⟩
def Zpn(l3:List Int)(n4:Int)(t7:Int):St:=⟨[(0,vV Jj l3),(1,vI n4),(7,vV Jj l3),(8,vI (Wb l3)),(9,vI t7)],[],0⟩
def Zow(l3:List Int)(n4:Int):St:=⟨[(4,vB false)],[],0⟩
def Zox(l3:List Int)(n4:Int)(aB:Int)(aL:Bool):St:=⟨[(0,vV Jj l3),(1,vI n4),(7,vV Jj l3),(8,vI (Wb l3)),(9,vI aB),(10,vB aL)],[],0⟩
theorem Zpo(N:Nat){R:Type}(K:Ex->St->Option R){l3:List Int}{n4:Int}{K0:Option R}{K1:Int->Bool->Option R}(h0:K0=K .ret (Zow l3 n4))(h1:K1= λaB aL=>K (.exit 0) (Zox l3 n4 aB aL))(n:Nat)(t7:Int):Za2 N l3 n4 K0 K1 n t7=LM Zh5 N 0 100002 n (Zpn l3 n4 t7) K:=by
  subst h0 h1
  induction n generalizing t7 with
  |zero=>kernel_rfl
  |succ n ih=>rw[Za2];simp only[ih];kernel_rfl
theorem Zva(N:Nat)(l1:List Int)(n2:Int):DN Zh5 N (l1,n2,())=Zaj N l1 n2:=by
  conv=>rhs;rw[Zaj];simp(disch:=exact id (by kernel_rfl)) only[Zpo (R:=Unit×Ko) N (CF Zh5 N [1,0,1,0])]
  kernel_rfl
theorem Zf7(N:Nat):GW 81 (Zcp N):=GF Zh5 N Tryz.func81 (GC (Zbr N) Wa) (λd=>Zva N d.1 d.2.1)
def Zlg(N:Nat):Sig:=Sig.of [.v Jj false] [.v Jp false] (λd=>Zg4 N d.1)
def Zlh:Fn:=⟨Tryz.f78,λ |2=>[.canon [0,5,6,7,8]]|3=>[.canon [0,4,5,6,7]]|4=>[.canon [0,5,6,7,13]]|5=>[.canon [2]]|6=>[.canon [0,5,6,7]]|100002=>[.canon [0,5,6,7]]|_=>[],Zlg,λN=>[(44,Z3 N)]⟩
def Zvb(l2:List Int)(t5:Int):St:=⟨[(0,vV Jj l2),(5,vV Jj l2),(6,vI (Wb l2)),(7,vI t5)],[],0⟩
def Ztu(l2:List Int):St:=⟨[(2,vB false)],[],0⟩
def Ztv(l2:List Int)(t8:Int)(t9:Bool):St:=⟨[(0,vV Jj l2),(5,vV Jj l2),(6,vI (Wb l2)),(7,vI t8),(8,vB t9)],[],0⟩
theorem Zvc(N:Nat){R:Type}(K:Ex->St->Option R){l2:List Int}{K0:Option R}{K1:Int->Bool->Option R}(h0:K0=K .ret (Ztu l2))(h1:K1= λt8 t9=>K (.exit 0) (Ztv l2 t8 t9))(n:Nat)(t5:Int):Zd0 N l2 K0 K1 n t5=LM Zlh N 0 100002 n (Zvb l2 t5) K:=by
  subst h0 h1
  induction n generalizing t5 with
  |zero=>kernel_rfl
  |succ n ih=>rw[Zd0];simp only[ih];kernel_rfl
theorem Zzt(N:Nat)(l1:List Int):DN Zlh N (l1,())=Zg4 N l1:=by
  conv=>rhs;rw[Zg4];simp(disch:=exact id (by kernel_rfl)) only[Zvc (R:=Unit×Ko) N (CF Zlh N [1,0,1,0])]
  kernel_rfl
theorem Zqc(N:Nat):GW 78 (Zlg N):=GF Zlh N Tryz.func78 (GC (Zab N) Wa) (λd=>Zzt N d.1)
def Zlt(N:Nat):Sig:=Sig.of [.v Jr true] [.v Jp false] (λd=>Zkb N d.1)
def Zwi:Fn:=⟨Tryz.f63,WF,Zlt,λN=>[(81,Zcp N),(78,Zlg N),(76,Za5 N)]⟩
theorem Zwj(N:Nat):GW 63 (Zlt N):=GF Zwi N Tryz.func63 (GC (Zf7 N) (GC (Zqc N) (GC (Zbr N) Wa)))
def Zno(N:Nat):Sig:=Sig.of [.v Ja false] [.v Jp false] (λd=>Zs N d.1)
def Zzu:Fn:=⟨Tryz.f164,WF,Zno,λN=>[(44,Z3 N)]⟩
theorem Zzv(N:Nat):GW 164 (Zno N):=GF Zzu N Tryz.func164 (GC (Zab N) Wa)
def Zb1(N:Nat):Sig:=Sig.of [.v Ja false] [.v Jp false] (λd=>Zba N d.1)
def Zyv:Fn:=⟨Tryz.f165,WF,Zb1,λN=>[(44,Z3 N)]⟩
theorem Zdc(N:Nat):GW 165 (Zb1 N):=GF Zyv N Tryz.func165 (GC (Zab N) Wa)
def Zee(N:Nat):Sig:=Sig.of [.v Ja false] [.v Jp false] (λd=>Za4 N d.1)
def Zzw:Fn:=⟨Tryz.f105,WF,Zee,λN=>[(44,Z3 N)]⟩
theorem Zgz(N:Nat):GW 105 (Zee N):=GF Zzw N Tryz.func105 (GC (Zab N) Wa)
def Zhu(N:Nat):Sig:=Sig.of [.v Jx true] [.v Jp false] (λd=>Zo N d.1)
def Zz7:Fn:=⟨Tryz.f131,WF,Zhu,λN=>[(164,Zno N),(76,Za5 N),(165,Zb1 N),(44,Z3 N),(105,Zee N)]⟩
theorem Zl4(N:Nat):GW 131 (Zhu N):=GF Zz7 N Tryz.func131 (GC (Zzv N) (GC (Zbr N) (GC (Zdc N) (GC (Zab N) (GC (Zgz N) Wa)))))
def Zjb(N:Nat):Sig:=Sig.of [.v Jx true] [.v Ja false] (λd=>Zgr N d.1)
def Zxc:Fn:=⟨Tryz.f129,WF,Zjb,λN=>[(131,Zhu N)]⟩
theorem Zon(N:Nat):GW 129 (Zjb N):=GF Zxc N Tryz.func129 (GC (Zl4 N) Wa)
def Ziw(N:Nat):Sig:=Sig.of [.v Jx true] [.v Ja false] (λd=>Ziq N d.1)
def Zzx:Fn:=⟨Tryz.f136,WF,Ziw,Wbh⟩
theorem Znp(N:Nat):GW 136 (Ziw N):=GF Zzx N Tryz.func136 Wa
def Zj3(N:Nat):Sig:=Sig.of [.v Jc false] [.v Jp false] (λd=>Zc2 N d.1)
def Zhh:Fn:=⟨Tryz.f130,λ |3=>[.canon [3,6,7,8,9]]|4=>[.canon [3,5,6,7,8]]|5=>[.canon [3,6,7,8]]|6=>[.canon [3,6,7,8,17]]|7=>[.canon [2]]|8=>[.canon [3,6,7,8]]|100003=>[.canon [3,6,7,8]]|_=>[],Zj3,λN=>[(136,Ziw N)]⟩
def Zoy(n2:Int)(t3:List Ka)(t5:Int):St:=⟨[(3,vI n2),(6,vV Jc t3),(7,vI (Wb t3)),(8,vI t5)],[],0⟩
def Zoo(t3:List Ka):St:=⟨[(2,vB false)],[],0⟩
def Zop(t3:List Ka)(n8:Int)(t9:Int)(aB:Bool):St:=⟨[(3,vI n8),(6,vV Jc t3),(7,vI (Wb t3)),(8,vI t9),(9,vB aB)],[],0⟩
theorem Zoz(N:Nat){R:Type}(K:Ex->St->Option R){t3:List Ka}{K0:Option R}{K1:Int->Int->Bool->Option R}(h0:K0=K .ret (Zoo t3))(h1:K1= λn8 t9 aB=>K (.exit 0) (Zop t3 n8 t9 aB))(n:Nat)(n2:Int)(t5:Int):Zbz N t3 K0 K1 n n2 t5=LM Zhh N 0 100003 n (Zoy n2 t3 t5) K:=by
  subst h0 h1
  induction n generalizing n2 t5 with
  |zero=>kernel_rfl
  |succ n ih=>rw[Zbz];simp only[ih];kernel_rfl
theorem Ztw(N:Nat)(ac:List Ka):DN Zhh N (ac,())=Zc2 N ac:=by
  conv=>rhs;rw[Zc2];simp(disch:=exact id (by kernel_rfl)) only[Zoz (R:=Unit×Ko) N (CF Zhh N [1,1,0,1,0])]
  kernel_rfl
theorem Ztx(N:Nat):GW 130 (Zj3 N):=GF Zhh N Tryz.func130 (GC (Znp N) Wa) (λd=>Ztw N d.1)
def Zme(N:Nat):Sig:=Sig.of [.v Jc false,.v Ja false] [.v Ja false] (λd=>Zgs N d.1 d.2.1)
def Zjc:Fn:=⟨Tryz.f132,λ |3=>[.canon [1,5,8,9,10,11]]|4=>[.canon [1,5,6,7,8,9,10]]|5=>[.canon [1,5,7,8,9,10,17]]|6=>[.canon [1,5,8,9,10]]|7=>[.canon [1,5,8,9,10]]|100003=>[.canon [1,5,8,9,10]]|_=>[],Zme,λN=>[(136,Ziw N)]⟩
def Zr0(i3:Int)(n4:Int)(t5:List Ka)(t7:Int):St:=⟨[(1,vI i3),(5,vI n4),(8,vV Jc t5),(9,vI (Wb t5)),(10,vI t7)],[],0⟩
def Zqd(i3:Int)(t5:List Ka)(iW:Int)(aL:Int)(aM:Bool):St:=⟨[(1,vI i3),(5,vI iW),(8,vV Jc t5),(9,vI (Wb t5)),(10,vI aL),(11,vB aM)],[],0⟩
theorem Zr1(N:Nat){R:Type}(K:Ex->St->Option R){i3:Int}{t5:List Ka}{K0:Int->Int->Bool->Option R}(h0:K0= λiW aL aM=>K (.exit 0) (Zqd i3 t5 iW aL aM))(n:Nat)(n4:Int)(t7:Int):Zb2 N i3 t5 K0 n n4 t7=LM Zjc N 0 100003 n (Zr0 i3 n4 t5 t7) K:=by
  subst h0
  induction n generalizing n4 t7 with
  |zero=>kernel_rfl
  |succ n ih=>rw[Zb2];simp only[ih];kernel_rfl
theorem Zxd(N:Nat)(ac:List Ka)(i2:Int):DN Zjc N (ac,i2,())=Zgs N ac i2:=by
  conv=>rhs;rw[Zgs];simp(disch:=exact id (by kernel_rfl)) only[Zr1 (R:=Unit×Kh) N (CF Zjc N [1,1,0,1,0])]
  kernel_rfl
theorem Zxe(N:Nat):GW 132 (Zme N):=GF Zjc N Tryz.func132 (GC (Znp N) Wa) (λd=>Zxd N d.1 d.2.1)
def Zkm(N:Nat):Sig:=Sig.of [.v Jc false] [.v Jp false] (λd=>Zcr N d.1)
def Zkn:Fn:=⟨Tryz.f90,λ |5=>[.canon [0,3,14,15,16,17]]|6=>[.canon [0,3,4,5,14,15,16]]|7=>[.canon [0,3,4,5,14,15,16,23]]|8=>[.canon [2]]|9=>[.canon [0,3,4,5,14,15,16,25]]|10=>[.canon [0,3,4,5,14,15,16,25,26]]|11=>[.canon [0,3,14,15,16,48]]|12=>[.canon [2]]|13=>[.canon [0,3,4,14,15,16,49]]|14=>[.canon [0,3,4,14,15,16]]|15=>[.canon [0,3,14,15,16,60]]|16=>[.canon [2]]|17=>[.canon [0,3,14,15,16]]|100005=>[.canon [0,3,14,15,16]]|_=>[],Zkm,λN=>[(130,Zj3 N),(131,Zhu N),(132,Zme N)]⟩
def Zty(ad:List Ka)(ax:Int)(t7:Int):St:=⟨[(0,vV Jc ad),(3,vI ax),(14,vV Jc ad),(15,vI (Wb ad)),(16,vI t7)],[],0⟩
def Zr2(ad:List Ka):St:=⟨[(2,vB false)],[],0⟩
def Zr3(ad:List Ka)(fV:Int)(bS:Int)(iq:Bool):St:=⟨[(0,vV Jc ad),(3,vI fV),(14,vV Jc ad),(15,vI (Wb ad)),(16,vI bS),(17,vB iq)],[],0⟩
theorem Ztz(N:Nat){R:Type}(K:Ex->St->Option R){ad:List Ka}{K0:Option R}{K1:Int->Int->Bool->Option R}(h0:K0=K .ret (Zr2 ad))(h1:K1= λfV bS iq=>K (.exit 0) (Zr3 ad fV bS iq))(n:Nat)(ax:Int)(t7:Int):Zbx N ad K0 K1 n ax t7=LM Zkn N 0 100005 n (Zty ad ax t7) K:=by
  subst h0 h1
  induction n generalizing ax t7 with
  |zero=>kernel_rfl
  |succ n ih=>rw[Zbx];simp only[ih];kernel_rfl
theorem Zyw(N:Nat)(ac:List Ka):DN Zkn N (ac,())=Zcr N ac:=by
  conv=>rhs;rw[Zcr];simp(disch:=exact id (by kernel_rfl)) only[Ztz (R:=Unit×Ko) N (CF Zkn N [1,1,1,0,1,0])]
  kernel_rfl
theorem Zpb(N:Nat):GW 90 (Zkm N):=GF Zkn N Tryz.func90 (GC (Ztx N) (GC (Zl4 N) (GC (Zxe N) Wa))) (λd=>Zyw N d.1)
def Znq(N:Nat):Sig:=Sig.of [.v Jc false] [.v Jp false] (λd=>Zg2 N d.1)
def Zli:Fn:=⟨Tryz.f89,λ |2=>[.canon [0,5,6,7,8]]|3=>[.canon [0,4,5,6,7]]|4=>[.canon [0,5,6,7,18]]|5=>[.canon [2]]|6=>[.canon [0,5,6,7]]|100002=>[.canon [0,5,6,7]]|_=>[],Znq,λN=>[(129,Zjb N),(90,Zkm N)]⟩
def Zvd(aa:List Ka)(t5:Int):St:=⟨[(0,vV Jc aa),(5,vV Jc aa),(6,vI (Wb aa)),(7,vI t5)],[],0⟩
def Zt0(aa:List Ka):St:=⟨[(2,vB false)],[],0⟩
def Zt1(aa:List Ka)(t8:Int)(t9:Bool):St:=⟨[(0,vV Jc aa),(5,vV Jc aa),(6,vI (Wb aa)),(7,vI t8),(8,vB t9)],[],0⟩
theorem Zve(N:Nat){R:Type}(K:Ex->St->Option R){aa:List Ka}{K0:Option R}{K1:Int->Bool->Option R}(h0:K0=K .ret (Zt0 aa))(h1:K1= λt8 t9=>K (.exit 0) (Zt1 aa t8 t9))(n:Nat)(t5:Int):Zdw N aa K0 K1 n t5=LM Zli N 0 100002 n (Zvd aa t5) K:=by
  subst h0 h1
  induction n generalizing t5 with
  |zero=>kernel_rfl
  |succ n ih=>rw[Zdw];simp only[ih];kernel_rfl
theorem Zzy(N:Nat)(ac:List Ka):DN Zli N (ac,())=Zg2 N ac:=by
  conv=>rhs;rw[Zg2];simp(disch:=exact id (by kernel_rfl)) only[Zve (R:=Unit×Ko) N (CF Zli N [1,0,1,0])]
  kernel_rfl
theorem Zzz(N:Nat):GW 89 (Znq N):=GF Zli N Tryz.func89 (GC (Zon N) (GC (Zpb N) Wa)) (λd=>Zzy N d.1)
def Zk1(N:Nat):Sig:=Sig.of [.v Jx true] [.v Jp false] (λd=>Zma N d.1)
def Zvf:Fn:=⟨Tryz.f134,WF,Zk1,Wbh⟩
theorem Zvg(N:Nat):GW 134 (Zk1 N):=GF Zvf N Tryz.func134 Wa
def Za3(N:Nat):Sig:=Sig.of [.v Jc false,.clos 134 0] [.v Ja false] (λd=>Z2 N d.1)
def Zad:Fn:=⟨Tryz.f166,λ |2=>[.canon [0,1,7,8,9]]|3=>[.canon [0,1,5,7,8]]|4=>[.canon [0,1,5,7,8,16]]|5=>[.canon [1,4]]|6=>[.canon [0,1,7,8]]|100002=>[.canon [0,1,7,8]]|_=>[],Za3,λN=>[(134,Zk1 N)]⟩
def Zfb(s2:List Ka)(t4:Int):St:=⟨[(0,vV Jc s2),(1,.s (.one (.clos 134 []))),(7,vI (Wb s2)),(8,vI t4)],[],0⟩
def Zet(s2:List Ka)(t7:Int):St:=⟨[(1,.s (.one (.clos 134 []))),(4,vI t7)],[],0⟩
def Zeu(s2:List Ka)(t8:Int)(t9:Bool):St:=⟨[(0,vV Jc s2),(1,.s (.one (.clos 134 []))),(7,vI (Wb s2)),(8,vI t8),(9,vB t9)],[],0⟩
theorem Zfc(N:Nat){R:Type}(K:Ex->St->Option R){s2:List Ka}{K0:Int->Option R}{K1:Int->Bool->Option R}(h0:K0= λt7=>K .ret (Zet s2 t7))(h1:K1= λt8 t9=>K (.exit 0) (Zeu s2 t8 t9))(n:Nat)(t4:Int):Zl N s2 K0 K1 n t4=LM Zad N 0 100002 n (Zfb s2 t4) K:=by
  subst h0 h1
  induction n generalizing t4 with
  |zero=>kernel_rfl
  |succ n ih=>rw[Zl];simp only[ih];kernel_rfl
theorem Zf0(N:Nat)(s1:List Ka):DN Zad N (s1,())=Z2 N s1:=by
  conv=>rhs;rw[Z2];simp(disch:=exact id (by kernel_rfl)) only[Zfc (R:=Unit×Kh) N (CF Zad N [1,0,1,0])]
  kernel_rfl
theorem Zf1(N:Nat):GW 166 (Za3 N):=GF Zad N Tryz.func166 (GC (Zvg N) Wa) (λd=>Zf0 N d.1)
def Zau(N:Nat):Sig:=Sig.of [.v Jc false,.clos 134 0] [.v Jp false] (λd=>Za0 N d.1)
def Zfg:Fn:=⟨Tryz.f133,WF,Zau,λN=>[(166,Za3 N)]⟩
theorem Zfh(N:Nat):GW 133 (Zau N):=GF Zfg N Tryz.func133 (GC (Zf1 N) Wa)
def Zmf(N:Nat):Sig:=Sig.of [.v Jc false] [.v Jp false] (λd=>Zgt N d.1)
def Zxf:Fn:=⟨Tryz.f91,WF,Zmf,λN=>[(133,Zau N)]⟩
theorem Zxg(N:Nat):GW 91 (Zmf N):=GF Zxf N Tryz.func91 (GC (Zfh N) Wa)
def Zm4(N:Nat):Sig:=Sig.of [.v Jm true] [.v Jp false] (λd=>Zhq N d.1)
def Zko:Fn:=⟨Tryz.f61,λ |2=>[.canon [1,6,7,8,9]]|3=>[.canon [1,4,6,7,8]]|4=>[.canon [1,6,7,8,15]]|5=>[.canon [2]]|6=>[.canon [1,6,7,8]]|100002=>[.canon [1,6,7,8]]|_=>[],Zm4,λN=>[(89,Znq N),(90,Zkm N),(91,Zmf N)]⟩
def Zt2(t2:List Kx)(t4:Int)(b5:List Ka×List Kx):St:=⟨[(1,vP 0 0),(6,vV (.slice Jc) t2),(7,vI (Wb b5.2)),(8,vI t4)],[(0,.box [.val Jc b5.1,.val (.slice Jc) b5.2])],1⟩
def Zr4(t2:List Kx)(b5:List Ka×List Kx):St:=⟨[(2,vB false)],[],0⟩
def Zr5(t2:List Kx)(b5:List Ka×List Kx)(t8:Int)(t9:Bool):St:=⟨[(1,vP 0 0),(6,vV (.slice Jc) t2),(7,vI (Wb b5.2)),(8,vI t8),(9,vB t9)],[(0,.box [.val Jc b5.1,.val (.slice Jc) b5.2])],1⟩
theorem Zt3(N:Nat){R:Type}(K:Ex->St->Option R){t2:List Kx}{b5:List Ka×List Kx}{K0:Option R}{K1:Int->Bool->Option R}(h0:K0=K .ret (Zr4 t2 b5))(h1:K1= λt8 t9=>K (.exit 0) (Zr5 t2 b5 t8 t9))(n:Nat)(t4:Int):Zc5 N t2 b5 K0 K1 n t4=LM Zko N 0 100002 n (Zt2 t2 t4 b5) K:=by
  subst h0 h1
  induction n generalizing t4 with
  |zero=>kernel_rfl
  |succ n ih=>rw[Zc5];simp only[ih];kernel_rfl
theorem Zyx(N:Nat)(p1:List Ka×List Kx):DN Zko N (p1,())=Zhq N p1:=by
  conv=>rhs;rw[Zhq];simp(disch:=exact id (by kernel_rfl)) only[Zt3 (R:=Unit×Ko) N (CF Zko N [1,0,1,0])]
  kernel_rfl
theorem Zyy(N:Nat):GW 61 (Zm4 N):=GF Zko N Tryz.func61 (GC (Zzz N) (GC (Zpb N) (GC (Zxg N) Wa))) (λd=>Zyx N d.1)
def Zj4(N:Nat):Sig:=Sig.of [.v Jm true] [.v Jp false] (λd=>Zie N d.1)
def Zt4:Fn:=⟨Tryz.f72,WF,Zj4,λN=>[(61,Zm4 N)]⟩
theorem Zt5(N:Nat):GW 72 (Zj4 N):=GF Zt4 N Tryz.func72 (GC (Zyy N) Wa)
def Zaq(N:Nat):Sig:=Sig.of [.v Jaa false,.clos 72 0] [.v Ja false] (λd=>Zx N d.1)
def Z9:Fn:=⟨Tryz.f109,λ |2=>[.canon [0,1,7,8,9]]|3=>[.canon [0,1,5,7,8]]|4=>[.canon [0,1,5,7,8,16]]|5=>[.canon [1,4]]|6=>[.canon [0,1,7,8]]|100002=>[.canon [0,1,7,8]]|_=>[],Zaq,λN=>[(72,Zj4 N)]⟩
def Zd3(s2:List Km)(t4:Int):St:=⟨[(0,vV Jaa s2),(1,.s (.one (.clos 72 []))),(7,vI (Wb s2)),(8,vI t4)],[],0⟩
def Zdn(s2:List Km)(t7:Int):St:=⟨[(1,.s (.one (.clos 72 []))),(4,vI t7)],[],0⟩
def Zdo(s2:List Km)(t8:Int)(t9:Bool):St:=⟨[(0,vV Jaa s2),(1,.s (.one (.clos 72 []))),(7,vI (Wb s2)),(8,vI t8),(9,vB t9)],[],0⟩
theorem Zd4(N:Nat){R:Type}(K:Ex->St->Option R){s2:List Km}{K0:Int->Option R}{K1:Int->Bool->Option R}(h0:K0= λt7=>K .ret (Zdn s2 t7))(h1:K1= λt8 t9=>K (.exit 0) (Zdo s2 t8 t9))(n:Nat)(t4:Int):Ze N s2 K0 K1 n t4=LM Z9 N 0 100002 n (Zd3 s2 t4) K:=by
  subst h0 h1
  induction n generalizing t4 with
  |zero=>kernel_rfl
  |succ n ih=>rw[Ze];simp only[ih];kernel_rfl
theorem Zev(N:Nat)(s1:List Km):DN Z9 N (s1,())=Zx N s1:=by
  conv=>rhs;rw[Zx];simp(disch:=exact id (by kernel_rfl)) only[Zd4 (R:=Unit×Kh) N (CF Z9 N [1,0,1,0])]
  kernel_rfl
theorem Zew(N:Nat):GW 109 (Zaq N):=GF Z9 N Tryz.func109 (GC (Zt5 N) Wa) (λd=>Zev N d.1)
def Zam(N:Nat):Sig:=Sig.of [.v Jaa false,.clos 72 0] [.v Jp false] (λd=>Zao N d.1)
def Zef:Fn:=⟨Tryz.f71,WF,Zam,λN=>[(109,Zaq N)]⟩
theorem Zeg(N:Nat):GW 71 (Zam N):=GF Zef N Tryz.func71 (GC (Zew N) Wa)
def Zil(N:Nat):Sig:=Sig.of [.v Jaf true] [.v Jp false] (λd=>Zhy N d.1)
def Zwk:Fn:=⟨Tryz.f35,WF,Zil,λN=>[(63,Zlt N),(71,Zam N)]⟩
theorem Zoa(N:Nat):GW 35 (Zil N):=GF Zwk N Tryz.func35 (GC (Zwj N) (GC (Zeg N) Wa))
def Zmg(N:Nat):Sig:=Sig.of [] [.v Jac false] (λd=>Zni N)
def Zxh:Fn:=⟨Tryz.f79,WF,Zmg,Wbh⟩
theorem Zxi(N:Nat):GW 79 (Zmg N):=GF Zxh N Tryz.func79 Wa
def Z6(N:Nat):Sig:=Sig.of [.v Jj false] [.v Jac false] (λd=>Zu N d.1)
def Zwl:Fn:=⟨Tryz.f93,WF,Z6,Wbh⟩
theorem Zaf(N:Nat):GW 93 (Z6 N):=GF Zwl N Tryz.func93 Wa
def Zkp(N:Nat):Sig:=Sig.of [.v Ja false,.v Ja false] [.v Ja false] (λd=>Zhr N d.1 d.2.1)
def Zyz:Fn:=⟨Tryz.f102,WF,Zkp,Wbh⟩
theorem Zpc(N:Nat):GW 102 (Zkp N):=GF Zyz N Tryz.func102 Wa
def Zlj(N:Nat):Sig:=Sig.of [.v Ja false] [.v Ja false] (λd=>Zg5 N d.1)
def Zz0:Fn:=⟨Tryz.f104,WF,Zlj,Wbh⟩
theorem Zqe(N:Nat):GW 104 (Zlj N):=GF Zz0 N Tryz.func104 Wa
def Zim(N:Nat):Sig:=Sig.of [.v Ja false] [.v Ja false] (λd=>Zhz N d.1)
def Zwm:Fn:=⟨Tryz.f103,WF,Zim,λN=>[(105,Zee N)]⟩
theorem Zob(N:Nat):GW 103 (Zim N):=GF Zwm N Tryz.func103 (GC (Zgz N) Wa)
def Zft(N:Nat):Sig:=Sig.of [.v Jj false] [.v Jp false] (λd=>Zcv N d.1)
def Zjd:Fn:=⟨Tryz.f67,λ |5=>[.canon [3,9,10,11,12]]|6=>[.canon [3,4,5,9,10,11]]|7=>[.canon [3,4,5,9,10,11,17]]|8=>[.canon [3,5,9,10,11,35]]|9=>[.canon [2]]|10=>[.canon [3,9,10,11]]|11=>[.canon [3,9,10,11]]|100005=>[.canon [3,9,10,11]]|_=>[],Zft,λN=>[(102,Zkp N),(44,Z3 N),(104,Zlj N),(103,Zim N)]⟩
def Zr6(t2:List Int)(t4:Int)(l5:List Bool):St:=⟨[(3,.s (.one (.aptr 0))),(9,vV Jj t2),(10,vI (Wb t2)),(11,vI t4)],[(0,.arr Jp l5)],1⟩
def Zqf(t2:List Int):St:=⟨[(2,vB false)],[],0⟩
def Zqg(t2:List Int)(ir:Int)(iB:Bool)(eN:List Bool):St:=⟨[(3,.s (.one (.aptr 0))),(9,vV Jj t2),(10,vI (Wb t2)),(11,vI ir),(12,vB iB)],[(0,.arr Jp eN)],1⟩
theorem Zr7(N:Nat){R:Type}(K:Ex->St->Option R){t2:List Int}{K0:Option R}{K1:Int->Bool->(List Bool)->Option R}(h0:K0=K .ret (Zqf t2))(h1:K1= λir iB eN=>K (.exit 0) (Zqg t2 ir iB eN))(n:Nat)(t4:Int)(l5:List Bool):Zb3 N t2 K0 K1 n t4 l5=LM Zjd N 0 100005 n (Zr6 t2 t4 l5) K:=by
  subst h0 h1
  induction n generalizing t4 l5 with
  |zero=>kernel_rfl
  |succ n ih=>rw[Zb3];simp only[ih];kernel_rfl
theorem Zxj(N:Nat)(l1:List Int):DN Zjd N (l1,())=Zcv N l1:=by
  conv=>rhs;rw[Zcv];simp(disch:=exact id (by kernel_rfl)) only[Zr7 (R:=Unit×Ko) N (CF Zjd N [1,1,1,0,1,0])]
  kernel_rfl
theorem Zje(N:Nat):GW 67 (Zft N):=GF Zjd N Tryz.func67 (GC (Zpc N) (GC (Zab N) (GC (Zqe N) (GC (Zob N) Wa)))) (λd=>Zxj N d.1)
def Zjy(N:Nat):Sig:=Sig.of [.v Jj false,.v Ja false] [.v Ja false] (λd=>Zfz N d.1 d.2.1)
def Zl5:Fn:=⟨Tryz.f106,λ |2=>[.canon [1,7,8,9,10]]|3=>[.canon [1,5,6,7,8,9]]|4=>[.canon [1,5,7,8,9,21]]|5=>[.canon [4]]|6=>[.canon [1,7,8,9]]|100002=>[.canon [1,7,8,9]]|_=>[],Zjy,λN=>[(104,Zlj N)]⟩
def Zwn(dG:Int)(t4:List Int)(t6:Int):St:=⟨[(1,vI dG),(7,vV Jj t4),(8,vI (Wb t4)),(9,vI t6)],[],0⟩
def Zvh(dG:Int)(t4:List Int)(t9:Int):St:=⟨[(4,vI t9)],[],0⟩
def Zvi(dG:Int)(t4:List Int)(aB:Int)(aL:Bool):St:=⟨[(1,vI dG),(7,vV Jj t4),(8,vI (Wb t4)),(9,vI aB),(10,vB aL)],[],0⟩
theorem Zwo(N:Nat){R:Type}(K:Ex->St->Option R){dG:Int}{t4:List Int}{K0:Int->Option R}{K1:Int->Bool->Option R}(h0:K0= λt9=>K .ret (Zvh dG t4 t9))(h1:K1= λaB aL=>K (.exit 0) (Zvi dG t4 aB aL))(n:Nat)(t6:Int):Zda N dG t4 K0 K1 n t6=LM Zl5 N 0 100002 n (Zwn dG t4 t6) K:=by
  subst h0 h1
  induction n generalizing t6 with
  |zero=>kernel_rfl
  |succ n ih=>rw[Zda];simp only[ih];kernel_rfl
theorem Zz8(N:Nat)(l1:List Int)(bX:Int):DN Zl5 N (l1,bX,())=Zfz N l1 bX:=by
  conv=>rhs;rw[Zfz];simp(disch:=exact id (by kernel_rfl)) only[Zwo (R:=Unit×Kh) N (CF Zl5 N [1,0,1,0])]
  kernel_rfl
theorem Zn1(N:Nat):GW 106 (Zjy N):=GF Zl5 N Tryz.func106 (GC (Zqe N) Wa) (λd=>Zz8 N d.1 d.2.1)
def Zha(N:Nat):Sig:=Sig.of [.v Jj false,.v Ja false] [.v Ja false,.v Jp false] (λd=>Zgu N d.1 d.2.1)
def Zxk:Fn:=⟨Tryz.f68,WF,Zha,λN=>[(67,Zft N),(105,Zee N),(106,Zjy N)]⟩
theorem Zmh(N:Nat):GW 68 (Zha N):=GF Zxk N Tryz.func68 (GC (Zje N) (GC (Zgz N) (GC (Zn1 N) Wa)))
def Zhb(N:Nat):Sig:=Sig.of [.v Jj false,.v Ja false,.v Ja false] [.v Jac false,.v Ja false,.v Jp false] (λd=>Zea N d.1 d.2.1 d.2.2.1)
def Zjf:Fn:=⟨Tryz.f80,λ |10=>[.canon [1,2,9,13,57]]|11=>[.canon [1,2,9,13]]|100010=>[.canon [1,2,9,13]]|_=>[],Zhb,λN=>[(93,Z6 N),(67,Zft N),(105,Zee N),(76,Za5 N),(106,Zjy N),(68,Zha N),(102,Zkp N),(103,Zim N)]⟩
def Zr8(dt:Int)(mx:Int)(eB:Int)(bk:List Int):St:=⟨[(1,vI dt),(2,vI mx),(9,vO 0),(13,vI eB)],[(0,.arr Ja bk)],1⟩
def Zqh(dt:Int)(mx:Int)(bk:List Int)(pU:Int)(ep:Bool):St:=⟨[(1,vI dt),(2,vI mx),(9,vO 0),(13,vI pU),(57,vB ep)],[(0,.arr Ja bk)],1⟩
theorem Zr9(N:Nat){R:Type}(K:Ex->St->Option R){dt:Int}{mx:Int}{bk:List Int}{K0:Int->Bool->Option R}(h0:K0= λpU ep=>K (.exit 0) (Zqh dt mx bk pU ep))(n:Nat)(eB:Int):Zcm N dt mx bk K0 n eB=LM Zjf N 0 100010 n (Zr8 dt mx eB bk) K:=by
  subst h0
  induction n generalizing eB with
  |zero=>kernel_rfl
  |succ n ih=>rw[Zcm];simp only[ih];kernel_rfl
theorem Zxl(N:Nat)(l1:List Int)(bX:Int)(v3:Int):DN Zjf N (l1,bX,v3,())=Zea N l1 bX v3:=by
  conv=>rhs;rw[Zea];simp(disch:=exact id (by kernel_rfl)) only[Zr9 (R:=Unit×(Kj×Kl)) N (CF Zjf N [1,1,1,1,1,0,0])]
  kernel_rfl
theorem Zmi(N:Nat):GW 80 (Zhb N):=GF Zjf N Tryz.func80 (GC (Zaf N) (GC (Zje N) (GC (Zgz N) (GC (Zbr N) (GC (Zn1 N) (GC (Zmh N) (GC (Zpc N) (GC (Zob N) Wa)))))))) (λd=>Zxl N d.1 d.2.1 d.2.2.1)
def Zk2(N:Nat):Sig:=Sig.of [.v Jj false] [.v Jac false] (λd=>Zbd N d.1)
def Zh6:Fn:=⟨Tryz.f45,λ |5=>[.canon [3,10,11,12,13]]|6=>[.canon [3,4,5,10,11,12]]|7=>[.canon [3,4,5,10,11,12,18]]|8=>[.canon [3,10,11,12]]|9=>[.canon [3,10,11,12]]|100005=>[.canon [3,10,11,12]]|_=>[],Zk2,λN=>[(78,Zlg N),(79,Zmg N),(80,Zhb N)]⟩
def Zpp(t4:List Int)(t6:Int)(l7:List Int):St:=⟨[(3,vO 0),(10,vV Jj t4),(11,vI (Wb t4)),(12,vI t6)],[(0,.arr Ja l7)],1⟩
def Zo0(t4:List Int)(aB:Int)(aL:Bool)(bm:List Int):St:=⟨[(3,vO 0),(10,vV Jj t4),(11,vI (Wb t4)),(12,vI aB),(13,vB aL)],[(0,.arr Ja bm)],1⟩
theorem Zpq(N:Nat){R:Type}(K:Ex->St->Option R){t4:List Int}{K0:Int->Bool->Kj->Option R}(h0:K0= λaB aL bm=>K (.exit 0) (Zo0 t4 aB aL bm))(n:Nat)(t6:Int)(l7:List Int):Zbl N t4 K0 n t6 l7=LM Zh6 N 0 100005 n (Zpp t4 t6 l7) K:=by
  subst h0
  induction n generalizing t6 l7 with
  |zero=>kernel_rfl
  |succ n ih=>rw[Zbl];simp only[ih];kernel_rfl
theorem Zvj(N:Nat)(m1:List Int):DN Zh6 N (m1,())=Zbd N m1:=by
  conv=>rhs;rw[Zbd];simp(disch:=exact id (by kernel_rfl)) only[Zpq (R:=Unit×Ku) N (CF Zh6 N [1,1,1,0,1,0])]
  kernel_rfl
theorem Zvk(N:Nat):GW 45 (Zk2 N):=GF Zh6 N Tryz.func45 (GC (Zqc N) (GC (Zxi N) (GC (Zmi N) Wa))) (λd=>Zvj N d.1)
def Zm5(N:Nat):Sig:=Sig.of [.v Jj false] [.v Jag true,.v Jp false] (λd=>Zb6 N d.1)
def Zkq:Fn:=⟨Tryz.f46,λ |5=>[.canon [2,4,12,13,14,15]]|6=>[.canon [2,4,6,12,13,14]]|7=>[.canon [2,4,12,13,14]]|8=>[.canon [2,4,12,13,14]]|100005=>[.adoptC 4 1 Jk,.canon [2,4,12,13,14]]|_=>[],Zm5,λN=>[(81,Zcp N)]⟩
def Zt6(t3:List Int)(t5:Int)(l8:List Kb):St:=⟨[(2,vP 0 0),(4,vP 1 0),(12,vV Jj t3),(13,vI (Wb t3)),(14,vI t5)],[(0,.box [.val Ja (0:Int),.nils]),(1,.box [.val Ja (0:Int),.own 2]),(2,.arr Jk l8)],3⟩
def Zsa(t3:List Int)(t9:Int)(aB:Bool)(am:List Kb):St:=⟨[(2,vP 0 0),(4,vP 1 0),(12,vV Jj t3),(13,vI (Wb t3)),(14,vI t9),(15,vB aB)],[(0,.box [.val Ja (0:Int),.nils]),(1,.box [.val Ja (0:Int),.own 2]),(2,.arr Jk am)],3⟩
theorem Zt7(N:Nat){R:Type}(K:Ex->St->Option R){t3:List Int}{K0:Int->Bool->Kr->Option R}(h0:K0= λt9 aB am=>K (.exit 0) (Zsa t3 t9 aB am))(n:Nat)(t5:Int)(l8:List Kb):Zc4 N t3 K0 n t5 l8=LM Zkq N 0 100005 n (Zt6 t3 t5 l8) K:=by
  subst h0
  induction n generalizing t5 l8 with
  |zero=>kernel_rfl
  |succ n ih=>rw[Zc4];simp only[ih];kernel_rfl
theorem Zy0(N:Nat)(l1:List Int):DN Zkq N (l1,())=Zb6 N l1:=by
  conv=>rhs;rw[Zb6];simp(disch:=exact id (by kernel_rfl)) only[Zt7 (R:=Unit×(Kv×Ko)) N (CF Zkq N [1,1,1,0,1,0])]
  kernel_rfl
theorem Zy1(N:Nat):GW 46 (Zm5 N):=GF Zkq N Tryz.func46 (GC (Zf7 N) Wa) (λd=>Zy0 N d.1)
def Zcq(N:Nat):Sig:=Sig.of [.box Jab] [] (λd=>Zbe N d.1)
def Zvl:Fn:=⟨Tryz.f110,WF,Zcq,Wbh⟩
theorem Zf8(N:Nat):GW 110 (Zcq N):=GF Zvl N Tryz.func110 Wa
def Zj5(N:Nat):Sig:=Sig.of [.box Ju,.v Ja false] [] (λd=>Ze7 N d.1 d.2.1)
def Zhi:Fn:=⟨Tryz.f111,λ |3=>[.canon [0,1,4,5,17,18,19,20]]|4=>[.canon [0,1,4,5,6,7,17,18,19]]|5=>[.canon [0,1,4,5,17,18,19]]|6=>[.canon [0,1,4,5,17,18,19]]|100003=>[.canon [0,1,4,5,17,18,19]]|_=>[],Zj5,Wbh⟩
def Zo1(k3:Int)(r4:Nat)(cK:Bool)(t6:Int)(t7:Int)(b8:Int)(b9:Int)(aQ:Int)(bc:Int)(bm:List Y_Root)(aX:List Kb)(aW:List Int)(bk:List Kb)(df:List Kn):St:=⟨[(0,vP 0 0),(1,vI k3),(4,.s (.one (.eptr 1 r4 0))),(5,vB cK),(17,vO 1),(18,vI t6),(19,vI t7)],[(0,.box [.val Ja b8,.val Ja b9,.val Ja aQ,.own 2,.own 3,.val Ja bc,.own 4,.own 1,.own 5]),(1,.arr Jab bm),(2,.arr Jk aX),(3,.arr Ja aW),(4,.arr Jk bk),(5,.arr Ji df)],6⟩
def Zoq(k3:Int)(r4:Nat)(t6:Int)(b8:Int)(b9:Int)(aQ:Int)(bc:Int)(bm:List Y_Root)(aX:List Kb)(aW:List Int)(bk:List Kb)(df:List Kn)(fW:Bool)(ir:Int)(iB:Bool):St:=⟨[(0,vP 0 0),(1,vI k3),(4,.s (.one (.eptr 1 r4 0))),(5,vB fW),(17,vO 1),(18,vI t6),(19,vI ir),(20,vB iB)],[(0,.box [.val Ja b8,.val Ja b9,.val Ja aQ,.own 2,.own 3,.val Ja bc,.own 4,.own 1,.own 5]),(1,.arr Jab bm),(2,.arr Jk aX),(3,.arr Ja aW),(4,.arr Jk bk),(5,.arr Ji df)],6⟩
theorem Zo2(N:Nat){R:Type}(K:Ex->St->Option R){k3:Int}{r4:Nat}{t6:Int}{b8:Int}{b9:Int}{aQ:Int}{bc:Int}{bm:List Y_Root}{aX:List Kb}{aW:List Int}{bk:List Kb}{df:List Kn}{K0:Bool->Int->Bool->Option R}(h0:K0= λfW ir iB=>K (.exit 0) (Zoq k3 r4 t6 b8 b9 aQ bc bm aX aW bk df fW ir iB))(n:Nat)(cK:Bool)(t7:Int):Zav N k3 r4 t6 b8 b9 aQ bc bm aX aW bk df K0 n cK t7=LM Zhi N 0 100003 n (Zo1 k3 r4 cK t6 t7 b8 b9 aQ bc bm aX aW bk df) K:=by
  subst h0
  induction n generalizing cK t7 with
  |zero=>kernel_rfl
  |succ n ih=>rw[Zav];simp only[ih];kernel_rfl
theorem Zt8(N:Nat)(w1:Y_World)(k2:Int):DN Zhi N (w1,k2,())=Ze7 N w1 k2:=by
  conv=>rhs;rw[Ze7];simp(disch:=exact id (by kernel_rfl)) only[Zo2 (R:=(Y_World×Unit)×Unit) N (CF Zhi N [1,1,0,1,0])]
  kernel_rfl
theorem Zt9(N:Nat):GW 111 (Zj5 N):=GF Zhi N Tryz.func111 Wa (λd=>Zt8 N d.1 d.2.1)
def Zkr(N:Nat):Sig:=Sig.of [.v Ja false,.v Ja false,.v Ja false] [.v Jp false] (λd=>Zhs N d.1 d.2.1 d.2.2.1)
def Zy2:Fn:=⟨Tryz.f192,WF,Zkr,λN=>[(44,Z3 N)]⟩
theorem Zpd(N:Nat):GW 192 (Zkr N):=GF Zy2 N Tryz.func192 (GC (Zab N) Wa)
def Zix(N:Nat):Sig:=Sig.of [.v Jk true,.v Jk true] [.v Ja false] (λd=>Zhf N d.1 d.2.1)
def Zqi:Fn:=⟨Tryz.f193,WF,Zix,Wbh⟩
theorem Zqj(N:Nat):GW 193 (Zix N):=GF Zqi N Tryz.func193 Wa
def Zfu(N:Nat):Sig:=Sig.of [.v Je false] [.v Jp false] (λd=>Zeb N d.1)
def Zjg:Fn:=⟨Tryz.f151,λ |2=>[.canon [0,5,6,7,8]]|3=>[.canon [0,3,4,5,6,7]]|4=>[.canon [0,3,4,5,6,7,33]]|5=>[.canon [2]]|6=>[.canon [0,5,6,7,60]]|7=>[.canon [2]]|8=>[.canon [0,5,6,7]]|100002=>[.canon [0,5,6,7]]|_=>[],Zfu,λN=>[(192,Zkr N),(193,Zix N)]⟩
def Zsb(l2:List Kb)(t5:Int):St:=⟨[(0,vV Je l2),(5,vV Je l2),(6,vI (Wb l2)),(7,vI t5)],[],0⟩
def Zqk(l2:List Kb):St:=⟨[(2,vB false)],[],0⟩
def Zql(l2:List Kb)(aB:Int)(aL:Bool):St:=⟨[(0,vV Je l2),(5,vV Je l2),(6,vI (Wb l2)),(7,vI aB),(8,vB aL)],[],0⟩
theorem Zsc(N:Nat){R:Type}(K:Ex->St->Option R){l2:List Kb}{K0:Option R}{K1:Int->Bool->Option R}(h0:K0=K .ret (Zqk l2))(h1:K1= λaB aL=>K (.exit 0) (Zql l2 aB aL))(n:Nat)(t5:Int):Zat N l2 K0 K1 n t5=LM Zjg N 0 100002 n (Zsb l2 t5) K:=by
  subst h0 h1
  induction n generalizing t5 with
  |zero=>kernel_rfl
  |succ n ih=>rw[Zat];simp only[ih];kernel_rfl
theorem Zxm(N:Nat)(l1:List Kb):DN Zjg N (l1,())=Zeb N l1:=by
  conv=>rhs;rw[Zeb];simp(disch:=exact id (by kernel_rfl)) only[Zsc (R:=Unit×Ko) N (CF Zjg N [1,0,1,0])]
  kernel_rfl
theorem Zjh(N:Nat):GW 151 (Zfu N):=GF Zjg N Tryz.func151 (GC (Zpd N) (GC (Zqj N) Wa)) (λd=>Zxm N d.1)
def Zmj(N:Nat):Sig:=Sig.of [.v Je false,.v Ja false] [.v Jac false] (λd=>Zfq N d.1 d.2.1)
def Zji:Fn:=⟨Tryz.f167,λ |5=>[.canon [1,5,12,13,14,15]]|6=>[.canon [1,5,7,12,13,14]]|7=>[.canon [1,5,7,12,13,14,21]]|8=>[.canon [1,5,12,13,14]]|9=>[.canon [1,5,12,13,14]]|100005=>[.canon [1,5,12,13,14]]|_=>[],Zmj,λN=>[(151,Zfu N)]⟩
def Zsd(eC:Int)(t5:List Kb)(t7:Int)(l8:List Int):St:=⟨[(1,vI eC),(5,vO 0),(12,vV Je t5),(13,vI (Wb t5)),(14,vI t7)],[(0,.arr Ja l8)],1⟩
def Zqm(eC:Int)(t5:List Kb)(t9:Int)(aB:Bool)(am:List Int):St:=⟨[(1,vI eC),(5,vO 0),(12,vV Je t5),(13,vI (Wb t5)),(14,vI t9),(15,vB aB)],[(0,.arr Ja am)],1⟩
theorem Zse(N:Nat){R:Type}(K:Ex->St->Option R){eC:Int}{t5:List Kb}{K0:Int->Bool->Kj->Option R}(h0:K0= λt9 aB am=>K (.exit 0) (Zqm eC t5 t9 aB am))(n:Nat)(t7:Int)(l8:List Int):Zb4 N eC t5 K0 n t7 l8=LM Zji N 0 100005 n (Zsd eC t5 t7 l8) K:=by
  subst h0
  induction n generalizing t7 l8 with
  |zero=>kernel_rfl
  |succ n ih=>rw[Zb4];simp only[ih];kernel_rfl
theorem Zxn(N:Nat)(l1:List Kb)(Wh3:Int):DN Zji N (l1,Wh3,())=Zfq N l1 Wh3:=by
  conv=>rhs;rw[Zfq];simp(disch:=exact id (by kernel_rfl)) only[Zse (R:=Unit×Ku) N (CF Zji N [1,1,1,0,1,0])]
  kernel_rfl
theorem Zxo(N:Nat):GW 167 (Zmj N):=GF Zji N Tryz.func167 (GC (Zjh N) Wa) (λd=>Zxn N d.1 d.2.1)
def Zh7(N:Nat):Sig:=Sig.of [.box Ju,.v Ja false] [] (λd=>Zfr N d.1 d.2.1)
def Zvm:Fn:=⟨Tryz.f119,λ |0=>[.opn 10]|_=>[],Zh7,Wbh⟩
theorem Znu(N:Nat):GW 119 (Zh7 N):=GF Zvm N Tryz.func119 Wa
def Zd5(N:Nat):Sig:=Sig.of [.v Ja false] [.v Jp false] (λd=>Zec N d.1)
def Zxp:Fn:=⟨Tryz.f198,WF,Zd5,λN=>[(44,Z3 N)]⟩
theorem Zhc(N:Nat):GW 198 (Zd5 N):=GF Zxp N Tryz.func198 (GC (Zab N) Wa)
def Zge(N:Nat):Sig:=Sig.of [.v Jn false] [.v Jp false] (λd=>Zcs N d.1)
def Zks:Fn:=⟨Tryz.f195,λ |2=>[.canon [0,5,6,7,8]]|3=>[.canon [0,4,5,6,7]]|4=>[.canon [0,5,6,7,20]]|5=>[.canon [2]]|6=>[.canon [0,5,6,7]]|100002=>[.canon [0,5,6,7]]|_=>[],Zge,λN=>[(165,Zb1 N),(76,Za5 N)]⟩
def Zua(l2:List Kc)(t5:Int):St:=⟨[(0,vV Jn l2),(5,vV Jn l2),(6,vI (Wb l2)),(7,vI t5)],[],0⟩
def Zsf(l2:List Kc):St:=⟨[(2,vB false)],[],0⟩
def Zsg(l2:List Kc)(aB:Int)(aL:Bool):St:=⟨[(0,vV Jn l2),(5,vV Jn l2),(6,vI (Wb l2)),(7,vI aB),(8,vB aL)],[],0⟩
theorem Zub(N:Nat){R:Type}(K:Ex->St->Option R){l2:List Kc}{K0:Option R}{K1:Int->Bool->Option R}(h0:K0=K .ret (Zsf l2))(h1:K1= λaB aL=>K (.exit 0) (Zsg l2 aB aL))(n:Nat)(t5:Int):Zc3 N l2 K0 K1 n t5=LM Zks N 0 100002 n (Zua l2 t5) K:=by
  subst h0 h1
  induction n generalizing t5 with
  |zero=>kernel_rfl
  |succ n ih=>rw[Zc3];simp only[ih];kernel_rfl
theorem Zy3(N:Nat)(l1:List Kc):DN Zks N (l1,())=Zcs N l1:=by
  conv=>rhs;rw[Zcs];simp(disch:=exact id (by kernel_rfl)) only[Zub (R:=Unit×Ko) N (CF Zks N [1,0,1,0])]
  kernel_rfl
theorem Zkt(N:Nat):GW 195 (Zge N):=GF Zks N Tryz.func195 (GC (Zdc N) (GC (Zbr N) Wa)) (λd=>Zy3 N d.1)
def Zjz(N:Nat):Sig:=Sig.of [.v Jn false,.v Ja false] [.v Ja false,.v Jp false] (λd=>Zgq N d.1 d.2.1)
def Zl6:Fn:=⟨Tryz.f169,λ |4=>[.canon [0,1,6,14]]|5=>[.canon [0,1,6]]|6=>[.canon [0,1,6,23]]|7=>[.canon [4,5]]|100004=>[.canon [0,1,6]]|_=>[],Zjz,λN=>[(195,Zge N)]⟩
def Zwp(l4:List Kc)(cC:Int)(i6:Int):St:=⟨[(0,vV Jn l4),(1,vI cC),(6,vI i6)],[],0⟩
def Zvn(l4:List Kc)(cC:Int)(t7:Int):St:=⟨[(4,vI t7),(5,vB true)],[],0⟩
def Zvo(l4:List Kc)(cC:Int)(i8:Int)(t9:Bool):St:=⟨[(0,vV Jn l4),(1,vI cC),(6,vI i8),(14,vB t9)],[],0⟩
theorem Zwq(N:Nat){R:Type}(K:Ex->St->Option R){l4:List Kc}{cC:Int}{K0:Int->Option R}{K1:Int->Bool->Option R}(h0:K0= λt7=>K .ret (Zvn l4 cC t7))(h1:K1= λi8 t9=>K (.exit 0) (Zvo l4 cC i8 t9))(n:Nat)(i6:Int):Zf9 N l4 cC K0 K1 n i6=LM Zl6 N 0 100004 n (Zwp l4 cC i6) K:=by
  subst h0 h1
  induction n generalizing i6 with
  |zero=>kernel_rfl
  |succ n ih=>rw[Zf9];simp only[ih];kernel_rfl
theorem Zz9(N:Nat)(l1:List Kc)(fy:Int):DN Zl6 N (l1,fy,())=Zgq N l1 fy:=by
  conv=>rhs;rw[Zgq];simp(disch:=exact id (by kernel_rfl)) only[Zwq (R:=Unit×Kl) N (CF Zl6 N [1,1,0,1,0])]
  kernel_rfl
theorem Zn2(N:Nat):GW 169 (Zjz N):=GF Zl6 N Tryz.func169 (GC (Zkt N) Wa) (λd=>Zz9 N d.1 d.2.1)
def Ziy(N:Nat):Sig:=Sig.of [.v Jn false] [.v (.own Jw) false] (λd=>Zfy N d.1)
def Zm6:Fn:=⟨Tryz.f156,λ |5=>[.canon [0,3,11,12]]|6=>[.canon [0,3,4,11]]|7=>[.canon [0,3,4,5,6,11]]|8=>[.canon [0,3,4,5,11,20]]|9=>[.canon [0,3,11]]|10=>[.canon [0,3,11]]|100005=>[.canon [0,3,11]]|_=>[],Ziy,λN=>[(195,Zge N),(169,Zjz N)]⟩
def Zxq(l3:List Kc)(t4:Int)(l5:List Kc):St:=⟨[(0,vV Jn l3),(3,vO 0),(11,vI t4)],[(0,.arr Jw l5)],1⟩
def Zwr(l3:List Kc)(t7:Int)(t8:Bool)(l9:List Kc):St:=⟨[(0,vV Jn l3),(3,vO 0),(11,vI t7),(12,vB t8)],[(0,.arr Jw l9)],1⟩
theorem Zxr(N:Nat){R:Type}(K:Ex->St->Option R){l3:List Kc}{K0:Int->Bool->Kw->Option R}(h0:K0= λt7 t8 l9=>K (.exit 0) (Zwr l3 t7 t8 l9))(n:Nat)(t4:Int)(l5:List Kc):Zfn N l3 K0 n t4 l5=LM Zm6 N 0 100005 n (Zxq l3 t4 l5) K:=by
  subst h0
  induction n generalizing t4 l5 with
  |zero=>kernel_rfl
  |succ n ih=>rw[Zfn];simp only[ih];kernel_rfl
theorem Z0l(N:Nat)(l1:List Kc):DN Zm6 N (l1,())=Zfy N l1:=by
  conv=>rhs;rw[Zfy];simp(disch:=exact id (by kernel_rfl)) only[Zxr (R:=Unit×(Kw×Unit)) N (CF Zm6 N [1,1,1,0,1,0])]
  kernel_rfl
theorem Zm7(N:Nat):GW 156 (Ziy N):=GF Zm6 N Tryz.func156 (GC (Zkt N) (GC (Zn2 N) Wa)) (λd=>Z0l N d.1)
def Zmk(N:Nat):Sig:=Sig.of [.v Jn false] [.v Jac false] (λd=>Zgv N d.1)
def Zjj:Fn:=⟨Tryz.f199,λ |3=>[.canon [3,8,9,10,11]]|4=>[.canon [3,5,8,9,10]]|5=>[.canon [3,8,9,10]]|6=>[.canon [3,8,9,10]]|100003=>[.canon [3,8,9,10]]|_=>[],Zmk,λN=>[(156,Ziy N)]⟩
def Zsh(t3:Int)(t4:Int)(l5:List Int)(l6:List Kc):St:=⟨[(3,vO 0),(8,vO 1),(9,vI t3),(10,vI t4)],[(0,.arr Ja l5),(1,.arr Jw l6)],2⟩
def Zqn(t3:Int)(l6:List Kc)(t7:Int)(t8:Bool)(l9:List Int):St:=⟨[(3,vO 0),(8,vO 1),(9,vI t3),(10,vI t7),(11,vB t8)],[(0,.arr Ja l9),(1,.arr Jw l6)],2⟩
theorem Zsi(N:Nat){R:Type}(K:Ex->St->Option R){t3:Int}{l6:List Kc}{K0:Int->Bool->Kj->Option R}(h0:K0= λt7 t8 l9=>K (.exit 0) (Zqn t3 l6 t7 t8 l9))(n:Nat)(t4:Int)(l5:List Int):Zcn N t3 l6 K0 n t4 l5=LM Zjj N 0 100003 n (Zsh t3 t4 l5 l6) K:=by
  subst h0
  induction n generalizing t4 l5 with
  |zero=>kernel_rfl
  |succ n ih=>rw[Zcn];simp only[ih];kernel_rfl
theorem Zxs(N:Nat)(l1:List Kc):DN Zjj N (l1,())=Zgv N l1:=by
  conv=>rhs;rw[Zgv];simp(disch:=exact id (by kernel_rfl)) only[Zsi (R:=Unit×Ku) N (CF Zjj N [1,1,0,1,0])]
  kernel_rfl
theorem Zxt(N:Nat):GW 199 (Zmk N):=GF Zjj N Tryz.func199 (GC (Zm7 N) Wa) (λd=>Zxs N d.1)
def Zk3(N:Nat):Sig:=Sig.of [.v Ja false,.v Ja false,.v Jn false,.v Jn false] [.v Jd true,.v Jp false] (λd=>Zd1 N d.1 d.2.1 d.2.2.1 d.2.2.2.1)
def Zvp:Fn:=⟨Tryz.f168,WF,Zk3,λN=>[(198,Zd5 N),(44,Z3 N),(195,Zge N),(156,Ziy N),(199,Zmk N)]⟩
theorem Zvq(N:Nat):GW 168 (Zk3 N):=GF Zvp N Tryz.func168 (GC (Zhc N) (GC (Zab N) (GC (Zkt N) (GC (Zm7 N) (GC (Zxt N) Wa)))))
def Zgp(N:Nat):Sig:=Sig.of [.box Ju,.v Ja false,.v Ja false] [] (λd=>Zf4 N d.1 d.2.1 d.2.2.1)
def Zsj:Fn:=⟨Tryz.f138,λ |0=>[.opn 13]|_=>[],Zgp,λN=>[(167,Zmj N),(119,Zh7 N),(168,Zk3 N)]⟩
theorem Zm8(N:Nat):GW 138 (Zgp N):=GF Zsj N Tryz.func138 (GC (Zxo N) (GC (Znu N) (GC (Zvq N) Wa)))
def Zin(N:Nat):Sig:=Sig.of [.v Ja false] [.v Jx true,.v Jp false] (λd=>Zeq N d.1)
def Zws:Fn:=⟨Tryz.f170,WF,Zin,λN=>[(165,Zb1 N)]⟩
theorem Zoc(N:Nat):GW 170 (Zin N):=GF Zws N Tryz.func170 (GC (Zdc N) Wa)
def Zcy(N:Nat):Sig:=Sig.of [.v Jt true] [.v Jp false] (λd=>Zb7 N d.1)
def Zlk:Fn:=⟨Tryz.f40,λ |2=>[.canon [1,6,7,8,9]]|3=>[.canon [1,4,6,7,8]]|4=>[.canon [1,6,7,8,29]]|5=>[.canon [2]]|6=>[.canon [1,6,7,8]]|100002=>[.canon [1,6,7,8]]|_=>[],Zcy,λN=>[(76,Za5 N),(44,Z3 N)]⟩
def Zvr(t2:List Kb)(t4:Int)(b5:Int×List Kb):St:=⟨[(1,vP 0 0),(6,vV Je t2),(7,vI (Wb b5.2)),(8,vI t4)],[(0,.box [.val Ja b5.1,.val Je b5.2])],1⟩
def Zuc(t2:List Kb)(b5:Int×List Kb):St:=⟨[(2,vB false)],[],0⟩
def Zud(t2:List Kb)(b5:Int×List Kb)(aM:Int)(be:Bool):St:=⟨[(1,vP 0 0),(6,vV Je t2),(7,vI (Wb b5.2)),(8,vI aM),(9,vB be)],[(0,.box [.val Ja b5.1,.val Je b5.2])],1⟩
theorem Zvs(N:Nat){R:Type}(K:Ex->St->Option R){t2:List Kb}{b5:Int×List Kb}{K0:Option R}{K1:Int->Bool->Option R}(h0:K0=K .ret (Zuc t2 b5))(h1:K1= λaM be=>K (.exit 0) (Zud t2 b5 aM be))(n:Nat)(t4:Int):Zdx N t2 b5 K0 K1 n t4=LM Zlk N 0 100002 n (Zvr t2 t4 b5) K:=by
  subst h0 h1
  induction n generalizing t4 with
  |zero=>kernel_rfl
  |succ n ih=>rw[Zdx];simp only[ih];kernel_rfl
theorem Zz1(N:Nat)(m1:Int×List Kb):DN Zlk N (m1,())=Zb7 N m1:=by
  conv=>rhs;rw[Zb7];simp(disch:=exact id (by kernel_rfl)) only[Zvs (R:=Unit×Ko) N (CF Zlk N [1,0,1,0])]
  kernel_rfl
theorem Zfv(N:Nat):GW 40 (Zcy N):=GF Zlk N Tryz.func40 (GC (Zbr N) (GC (Zab N) Wa)) (λd=>Zz1 N d.1)
def Zml(N:Nat):Sig:=Sig.of [.v Jx true] [.v Jp false] (λd=>Zk9 N d.1)
def Zxu:Fn:=⟨Tryz.f200,WF,Zml,λN=>[(165,Zb1 N),(44,Z3 N),(76,Za5 N)]⟩
theorem Zxv(N:Nat):GW 200 (Zml N):=GF Zxu N Tryz.func200 (GC (Zdc N) (GC (Zab N) (GC (Zbr N) Wa)))
def Zh8(N:Nat):Sig:=Sig.of [.v Jt true,.v Ja false,.v Jx true] [.v Jx true] (λd=>Zdy N d.1 d.2.1 d.2.2.1)
def Zvt:Fn:=⟨Tryz.f171,WF,Zh8,λN=>[(40,Zcy N),(200,Zml N)]⟩
theorem Znv(N:Nat):GW 171 (Zh8 N):=GF Zvt N Tryz.func171 (GC (Zfv N) (GC (Zxv N) Wa))
def Zf2(N:Nat):Sig:=Sig.of [.box Jab] [] (λd=>Zcw N d.1)
def Zpr:Fn:=⟨Tryz.f172,WF,Zf2,λN=>[(110,Zcq N)]⟩
theorem Zlz(N:Nat):GW 172 (Zf2 N):=GF Zpr N Tryz.func172 (GC (Zf8 N) Wa)
def Zj6(N:Nat):Sig:=Sig.of [.boxal Ju 3,.v Jx true] [] (λd=>Zif N d.1 d.2.1 d.2.2.1)
def Zue:Fn:=⟨Tryz.f139,λ |1000000=>[.unfE 1]|_=>[],Zj6,λN=>[(169,Zjz N),(170,Zin N),(171,Zh8 N),(172,Zf2 N)]⟩
theorem Zuf(N:Nat):GW 139 (Zj6 N):=GF Zue N Tryz.func139 (GC (Zn2 N) (GC (Zoc N) (GC (Znv N) (GC (Zlz N) Wa))))
def Zh9(N:Nat):Sig:=Sig.of [.box Jab] [.v (.prod Ja Jae) true] (λd=>Zg6 N d.1)
def Zvu:Fn:=⟨Tryz.f114,WF,Zh9,Wbh⟩
theorem Znw(N:Nat):GW 114 (Zh9 N):=GF Zvu N Tryz.func114 Wa
def Zia(N:Nat):Sig:=Sig.of [.v (.prod Jj Ja) true] [.v Jq true] (λd=>Zg7 N d.1)
def Zvv:Fn:=⟨Tryz.f178,WF,Zia,λN=>[(93,Z6 N)]⟩
theorem Znx(N:Nat):GW 178 (Zia N):=GF Zvv N Tryz.func178 (GC (Zaf N) Wa)
def Zjk(N:Nat):Sig:=Sig.of [.v (.prod Jj Ja) true] [.v Jp false] (λd=>Ziu N d.1)
def Zxw:Fn:=⟨Tryz.f179,WF,Zjk,λN=>[(67,Zft N),(76,Za5 N)]⟩
theorem Zor(N:Nat):GW 179 (Zjk N):=GF Zxw N Tryz.func179 (GC (Zje N) (GC (Zbr N) Wa))
def Zm9(N:Nat):Sig:=Sig.of [.v Jk true] [.v Jp false] (λd=>Zl2 N d.1)
def Zy4:Fn:=⟨Tryz.f180,WF,Zm9,λN=>[(105,Zee N),(76,Za5 N)]⟩
theorem Zy5(N:Nat):GW 180 (Zm9 N):=GF Zy4 N Tryz.func180 (GC (Zgz N) (GC (Zbr N) Wa))
def Zio(N:Nat):Sig:=Sig.of [.v Jj false,.v Ja false] [.v Jac false,.v Ja false,.v Jp false] (λd=>Zh0 N d.1 d.2.1)
def Zwt:Fn:=⟨Tryz.f181,WF,Zio,λN=>[(93,Z6 N),(67,Zft N),(105,Zee N),(106,Zjy N),(68,Zha N)]⟩
theorem Zod(N:Nat):GW 181 (Zio N):=GF Zwt N Tryz.func181 (GC (Zaf N) (GC (Zje N) (GC (Zgz N) (GC (Zn1 N) (GC (Zmh N) Wa)))))
def Zmm(N:Nat):Sig:=Sig.of [.v (.prod Jj Ja) true,.v Jk true] [.v Jq true,.v Jp false] (λd=>Zla N d.1 d.2.1)
def Zxx:Fn:=⟨Tryz.f146,WF,Zmm,λN=>[(178,Zia N),(179,Zjk N),(180,Zm9 N),(80,Zhb N),(181,Zio N)]⟩
theorem Zxy(N:Nat):GW 146 (Zmm N):=GF Zxx N Tryz.func146 (GC (Znx N) (GC (Zor N) (GC (Zy5 N) (GC (Zmi N) (GC (Zod N) Wa)))))
def Zhj(N:Nat):Sig:=Sig.of [.boxal Ju 3] [] (λd=>Zcc N d.1 d.2.1)
def Zug:Fn:=⟨Tryz.f115,λ |1000000=>[.unfE 1]|_=>[],Zhj,λN=>[(146,Zmm N)]⟩
theorem Znf(N:Nat):GW 115 (Zhj N):=GF Zug N Tryz.func115 (GC (Zxy N) Wa)
def Zc7(N:Nat):Sig:=Sig.of [.v Jn false] [.v (.own Jw) false] (λd=>Zbj N d.1)
def Zwu:Fn:=⟨Tryz.f147,WF,Zc7,Wbh⟩
theorem Zgo(N:Nat):GW 147 (Zc7 N):=GF Zwu N Tryz.func147 Wa
def Zll(N:Nat):Sig:=Sig.of [.v Jc false,.v Ja false] [.v Ja false] (λd=>Zg3 N d.1 d.2.1)
def Zlm:Fn:=⟨Tryz.f96,λ |5=>[.canon [0,5,6,25]]|6=>[.canon [0,5,6]]|7=>[.canon [0,5,6]]|8=>[.canon [0,5,6,36]]|9=>[.canon [4]]|100005=>[.canon [0,5,6]]|_=>[],Zll,λN=>[(44,Z3 N),(136,Ziw N)]⟩
def Zvw(aA:List Ka)(n5:Int)(k6:Int):St:=⟨[(0,vV Jc aA),(5,vI n5),(6,vI k6)],[],0⟩
def Zuh(aA:List Ka)(t8:Int):St:=⟨[(4,vI t8)],[],0⟩
def Zui(aA:List Ka)(n9:Int)(k10:Int)(aL:Bool):St:=⟨[(0,vV Jc aA),(5,vI n9),(6,vI k10),(25,vB aL)],[],0⟩
theorem Zvx(N:Nat){R:Type}(K:Ex->St->Option R){aA:List Ka}{K0:Int->Option R}{K1:Int->Int->Bool->Option R}(h0:K0= λt8=>K .ret (Zuh aA t8))(h1:K1= λn9 k10 aL=>K (.exit 0) (Zui aA n9 k10 aL))(n:Nat)(n5:Int)(k6:Int):Zdz N aA K0 K1 n n5 k6=LM Zlm N 0 100005 n (Zvw aA n5 k6) K:=by
  subst h0 h1
  induction n generalizing n5 k6 with
  |zero=>kernel_rfl
  |succ n ih=>rw[Zdz];simp only[ih];kernel_rfl
theorem Zz2(N:Nat)(ac:List Ka)(i2:Int):DN Zlm N (ac,i2,())=Zg3 N ac i2:=by
  conv=>rhs;rw[Zg3];simp(disch:=exact id (by kernel_rfl)) only[Zvx (R:=Unit×Kh) N (CF Zlm N [1,1,1,0,1,0])]
  kernel_rfl
theorem Zqo(N:Nat):GW 96 (Zll N):=GF Zlm N Tryz.func96 (GC (Zab N) (GC (Znp N) Wa)) (λd=>Zz2 N d.1 d.2.1)
def Zjl(N:Nat):Sig:=Sig.of [.box Ju,.v Ja false,.v Jc false] [] (λd=>Zh1 N d.1 d.2.1 d.2.2.1)
def Zsk:Fn:=⟨Tryz.f140,λ |0=>[.opn 13]|_=>[],Zjl,λN=>[(138,Zgp N),(114,Zh9 N),(115,Zhj N),(93,Z6 N),(147,Zc7 N),(96,Zll N)]⟩
theorem Zsl(N:Nat):GW 140 (Zjl N):=GF Zsk N Tryz.func140 (GC (Zm8 N) (GC (Znw N) (GC (Znf N) (GC (Zaf N) (GC (Zgo N) (GC (Zqo N) Wa))))))
def Zlu(N:Nat):Sig:=Sig.of [.v Ja false,.v Jj false,.v Jn false,.v Ja false] [.v Jz true] (λd=>Zga N d.1 d.2.1 d.2.2.1 d.2.2.2.1)
def Ze9:Fn:=⟨Tryz.f141,λ |3=>[.canon [1,3,8,9,19,20,21,22]]|4=>[.canon [1,3,8,9,11,19,20,21]]|5=>[.canon [1,3,8,9,19,20,21]]|6=>[.canon [1,3,8,9,19,20,21]]|8=>[.canon [1,8,9,36,37,38]]|9=>[.nest 44 Jh,.canon [1,8,9,36,37]]|10=>[.canon [1,8,9,36,37]]|100003=>[.adoptC 9 6 Jk,.canon [1,3,8,9,19,20,21]]|100008=>[.adoptC 9 9 Jh,.canon [1,8,9,36,37]]|_=>[],Zlu,λN=>[(93,Z6 N),(156,Ziy N)]⟩
def Zqp(dp:List Int)(dq:Int)(t9:Int)(aB:Int)(cQ:Int)(c9:List Kc)(eN:List Int)(cV:List Kb):St:=⟨[(1,vV Jj dp),(3,vI dq),(8,vP 0 0),(9,vP 1 0),(19,vO 2),(20,vI t9),(21,vI aB)],[(0,.box [.val Ja (0:Int),.val Ja (0:Int),.val Ja (0:Int),.val Jp false,.nils,.nils,.nils,.nils,.nils,.nils]),(1,.box [.val Ja cQ,.val Ja (0:Int),.val Ja (0:Int),.val Jp false,.own 3,.own 2,.own 4,.nils,.nils,.nils]),(2,.arr Jw c9),(3,.arr Ja eN),(4,.arr Jk cV)],5⟩
def Zps(dp:List Int)(dq:Int)(t9:Int)(cQ:Int)(c9:List Kc)(eN:List Int)(t22:Int)(eX:Bool)(db:List Kb):St:=⟨[(1,vV Jj dp),(3,vI dq),(8,vP 0 0),(9,vP 1 0),(19,vO 2),(20,vI t9),(21,vI t22),(22,vB eX)],[(0,.box [.val Ja (0:Int),.val Ja (0:Int),.val Ja (0:Int),.val Jp false,.nils,.nils,.nils,.nils,.nils,.nils]),(1,.box [.val Ja cQ,.val Ja (0:Int),.val Ja (0:Int),.val Jp false,.own 3,.own 2,.own 4,.nils,.nils,.nils]),(2,.arr Jw c9),(3,.arr Ja eN),(4,.arr Jk db)],5⟩
theorem Zqq(N:Nat){R:Type}(K:Ex->St->Option R){dp:List Int}{dq:Int}{t9:Int}{cQ:Int}{c9:List Kc}{eN:List Int}{K0:Int->Bool->Kr->Option R}(h0:K0= λt22 eX db=>K (.exit 0) (Zps dp dq t9 cQ c9 eN t22 eX db))(n:Nat)(aB:Int)(cV:List Kb):Zce N dp dq t9 cQ c9 eN K0 n aB cV=LM Ze9 N 0 100003 n (Zqp dp dq t9 aB cQ c9 eN cV) K:=by
  subst h0
  induction n generalizing aB cV with
  |zero=>kernel_rfl
  |succ n ih=>rw[Zce];simp only[ih];kernel_rfl
def Zqr(cj:List Int)(kH:Int)(lD:Int)(mj:Int)(ml:List Int)(mm:List Kc)(kI:List Kb)(gH:List Y_KidRun):St:=⟨[(1,vV Jj cj),(8,vP 0 0),(9,vP 1 0),(36,vI kH),(37,vI lD)],[(0,.box [.val Ja (0:Int),.val Ja (0:Int),.val Ja (0:Int),.val Jp false,.nils,.nils,.nils,.nils,.nils,.nils]),(1,.box [.val Ja mj,.val Ja (0:Int),.val Ja (0:Int),.val Jp false,.own 2,.own 3,.own 4,.nils,.nils,.own 5]),(2,.arr Ja ml),(3,.arr Jw mm),(4,.arr Jk kI),(5,.arr Jh gH)],6⟩
def Zpt(cj:List Int)(kH:Int)(mj:Int)(ml:List Int)(mm:List Kc)(kI:List Kb)(t45:Int)(t46:Bool)(mt:List Y_KidRun):St:=⟨[(1,vV Jj cj),(8,vP 0 0),(9,vP 1 0),(36,vI kH),(37,vI t45),(38,vB t46)],[(0,.box [.val Ja (0:Int),.val Ja (0:Int),.val Ja (0:Int),.val Jp false,.nils,.nils,.nils,.nils,.nils,.nils]),(1,.box [.val Ja mj,.val Ja (0:Int),.val Ja (0:Int),.val Jp false,.own 2,.own 3,.own 4,.nils,.nils,.own 5]),(2,.arr Ja ml),(3,.arr Jw mm),(4,.arr Jk kI),(5,.arr Jh mt)],6⟩
theorem Zqs(N:Nat){R:Type}(K:Ex->St->Option R){cj:List Int}{kH:Int}{mj:Int}{ml:List Int}{mm:List Kc}{kI:List Kb}{K0:Int->Bool->(List Y_KidRun)->Option R}(h0:K0= λt45 t46 mt=>K (.exit 2) (Zpt cj kH mj ml mm kI t45 t46 mt))(n:Nat)(lD:Int)(gH:List Y_KidRun):Zbf N cj kH mj ml mm kI K0 n lD gH=LM Ze9 N 1 100008 n (Zqr cj kH lD mj ml mm kI gH) K:=by
  subst h0
  induction n generalizing lD gH with
  |zero=>kernel_rfl
  |succ n ih=>rw[Zbf];simp only[ih];kernel_rfl
theorem Zwv(N:Nat)(qT:Int)(bf:List Int)(dZ:List Kc)(gI:Int):DN Ze9 N (qT,bf,dZ,gI,())=Zga N qT bf dZ gI:=by
  conv=>rhs;rw[Zga];simp(disch:=exact id (by kernel_rfl)) only[Zqq (R:=Unit×(Y_Family×Unit)) N (CF Ze9 N [1,1,0,1,0]),Zqs (R:=Unit×(Y_Family×Unit)) N (CF Ze9 N [1,1,1,0,1,0])]
  kernel_rfl
theorem Zww(N:Nat):GW 141 (Zlu N):=GF Ze9 N Tryz.func141 (GC (Zaf N) (GC (Zm7 N) Wa)) (λd=>Zwv N d.1 d.2.1 d.2.2.1 d.2.2.2.1)
def Zk4(N:Nat):Sig:=Sig.of [.v Jx true] [.v Ja false,.v Ja false] (λd=>Zi5 N d.1)
def Zvy:Fn:=⟨Tryz.f173,WF,Zk4,λN=>[(131,Zhu N)]⟩
theorem Zvz(N:Nat):GW 173 (Zk4 N):=GF Zvy N Tryz.func173 (GC (Zl4 N) Wa)
def Zib(N:Nat):Sig:=Sig.of [.v Je false] [.v (.own Jk) false] (λd=>Zd2 N d.1)
def Zv0:Fn:=⟨Tryz.f150,WF,Zib,Wbh⟩
theorem Zny(N:Nat):GW 150 (Zib N):=GF Zv0 N Tryz.func150 Wa
def Zna(N:Nat):Sig:=Sig.of [.v Je false,.v Ja false,.v Ja false,.v Ja false] [.v Jac false] (λd=>Zht N d.1 d.2.1 d.2.2.1 d.2.2.2.1)
def Zku:Fn:=⟨Tryz.f201,λ |5=>[.canon [1,2,3,9,21,22,23,24]]|6=>[.canon [1,2,3,9,11,21,22,23]]|7=>[.canon [1,2,3,9,11,21,22,23,45]]|8=>[.canon [1,2,3,9,21,22,23]]|9=>[.canon [1,2,3,9,21,22,23]]|100005=>[.canon [1,2,3,9,21,22,23]]|_=>[],Zna,λN=>[(151,Zfu N),(44,Z3 N)]⟩
def Zuj(du:Int)(cb:Int)(cd:Int)(aB:List Kb)(aM:Int)(aX:List Int):St:=⟨[(1,vI du),(2,vI cb),(3,vI cd),(9,vO 0),(21,vV Je aB),(22,vI (Wb aB)),(23,vI aM)],[(0,.arr Ja aX)],1⟩
def Zsm(du:Int)(cb:Int)(cd:Int)(aB:List Kb)(gG:Int)(bS:Bool)(df:List Int):St:=⟨[(1,vI du),(2,vI cb),(3,vI cd),(9,vO 0),(21,vV Je aB),(22,vI (Wb aB)),(23,vI gG),(24,vB bS)],[(0,.arr Ja df)],1⟩
theorem Zuk(N:Nat){R:Type}(K:Ex->St->Option R){du:Int}{cb:Int}{cd:Int}{aB:List Kb}{K0:Int->Bool->Kj->Option R}(h0:K0= λgG bS df=>K (.exit 0) (Zsm du cb cd aB gG bS df))(n:Nat)(aM:Int)(aX:List Int):Za9 N du cb cd aB K0 n aM aX=LM Zku N 0 100005 n (Zuj du cb cd aB aM aX) K:=by
  subst h0
  induction n generalizing aM aX with
  |zero=>kernel_rfl
  |succ n ih=>rw[Za9];simp only[ih];kernel_rfl
theorem Zy6(N:Nat)(l1:List Kb)(Wh3:Int)(cr:Int)(ce:Int):DN Zku N (l1,Wh3,cr,ce,())=Zht N l1 Wh3 cr ce:=by
  conv=>rhs;rw[Zht];simp(disch:=exact id (by kernel_rfl)) only[Zuk (R:=Unit×Ku) N (CF Zku N [1,1,1,0,1,0])]
  kernel_rfl
theorem Zy7(N:Nat):GW 201 (Zna N):=GF Zku N Tryz.func201 (GC (Zjh N) (GC (Zab N) Wa)) (λd=>Zy6 N d.1 d.2.1 d.2.2.1 d.2.2.2.1)
def Zbi(N:Nat):Sig:=Sig.of [.mut Jk,.clos 193 0] [] (λd=>Zw N d.1)
theorem Zek:CmpOk Tryz.prog 193 Jk WvU cfH:=by
  intro G x y us vs w hx hy h1 h2;obtain⟨_,_,rfl,a1,_,_,rfl,a2,a3⟩:=h1;obtain⟨_,_,rfl,b1,_,_,rfl,b2,b3⟩:=h2;simp only[Enc]at a1 a2 a3 b1 b2 b3;subst a1 a2 a3 b1 b2 b3;simp only[Xbh,Xcf];unfold WvU at hx hy;simp only[Xh]at hx hy
  go_enter Tryz.func193,Tryz.ntmps193
  go_wp2
  rw[guard_run (a:=x.2.1) (b:=y.2.1),Result.andThen_ok];rw[neq_run (a:=x.2.1) (b:=y.2.1),Result.andThen_ok];rcases hb:(bne (α:=Int) x.2.1 y.2.1)with _|_
  . go_wp2
    rw[sub_run (WgL hx.1) (WgL hy.1) (Wwj hb)]
    go_wp2
    go_ret
    exact⟨rfl,two_grow _ _ _⟩
  . go_wp2
    rw[sub_run (WgL hx.2) (WgL hy.2) (WwF hb)]
    go_wp2
    go_ret
    exact⟨rfl,two_grow _ _ _⟩
theorem Zel(N:Nat):GW 202 (Zbi N):=⟨WdK Tryz.func202 (show Wqt Tryz.f202=true by kernel_rfl),good_sortF sortFH (e:=.prod Ja Jw) rfl (by decide) Tryz.isAgg199 Tryz.sizeOf199 (enters_of Tryz.func193 (by kernel_rfl) rfl) Wxu Zek N⟩
def Zmn(N:Nat):Sig:=Sig.of [.v Je false,.v Ja false,.v Ja false,.v Ja false] [.v (.own Jk) false,.v Jp false] (λd=>Zgw N d.1 d.2.1 d.2.2.1 d.2.2.2.1)
def Zjm:Fn:=⟨Tryz.f174,λ |5=>[.canon [1,2,3,10,35,36,37,38]]|6=>[.canon [1,2,3,10,11,12,35,36,37]]|7=>[.canon [1,2,3,10,11,12,35,36,37,51]]|8=>[.canon [10]]|9=>[.canon [8,9]]|10=>[.canon [1,2,3,10,35,36,37]]|100005=>[.canon [1,2,3,10,35,36,37]]|_=>[],Zmn,λN=>[(150,Zib N),(151,Zfu N),(192,Zkr N),(201,Zna N),(202,Zbi N)]⟩
def Zsn(dH:Int)(bF:Int)(bG:Int)(aM:Int)(be:Int)(aW:List Kb):St:=⟨[(1,vI dH),(2,vI bF),(3,vI bG),(10,vO 0),(35,vO 0),(36,vI aM),(37,vI be)],[(0,.arr Jk aW)],1⟩
def Zqt(dH:Int)(bF:Int)(bG:Int)(aM:Int)(aW:List Kb)(bk:List Kb):St:=⟨[(8,vO 0),(9,vB true)],[(0,.arr Jk bk)],1⟩
def Zqu(dH:Int)(bF:Int)(bG:Int)(aM:Int)(aW:List Kb)(iq:Int)(ep:Bool):St:=⟨[(1,vI dH),(2,vI bF),(3,vI bG),(10,vO 0),(35,vO 0),(36,vI aM),(37,vI iq),(38,vB ep)],[(0,.arr Jk aW)],1⟩
theorem Zso(N:Nat){R:Type}(K:Ex->St->Option R){dH:Int}{bF:Int}{bG:Int}{aM:Int}{aW:List Kb}{K0:Kr->Option R}{K1:Int->Bool->Option R}(h0:K0= λbk=>K .ret (Zqt dH bF bG aM aW bk))(h1:K1= λiq ep=>K (.exit 0) (Zqu dH bF bG aM aW iq ep))(n:Nat)(be:Int):Zb5 N dH bF bG aM aW K0 K1 n be=LM Zjm N 0 100005 n (Zsn dH bF bG aM be aW) K:=by
  subst h0 h1
  induction n generalizing be with
  |zero=>kernel_rfl
  |succ n ih=>rw[Zb5];simp only[ih];kernel_rfl
theorem Zxz(N:Nat)(l1:List Kb)(Wh3:Int)(cr:Int)(ce:Int):DN Zjm N (l1,Wh3,cr,ce,())=Zgw N l1 Wh3 cr ce:=by
  conv=>rhs;rw[Zgw];simp(disch:=exact id (by kernel_rfl)) only[Zso (R:=Unit×(Kr×Ko)) N (CF Zjm N [1,1,1,0,1,0])]
  kernel_rfl
theorem Zx0(N:Nat):GW 174 (Zmn N):=GF Zjm N Tryz.func174 (GC (Zny N) (GC (Zjh N) (GC (Zpd N) (GC (Zy7 N) (GC (Zel N) Wa))))) (λd=>Zxz N d.1 d.2.1 d.2.2.1 d.2.2.2.1)
def Znb(N:Nat):Sig:=Sig.of [.v Ja false,.v Ja false] [.v Jk true] (λd=>Zju N d.1 d.2.1)
def Zy8:Fn:=⟨Tryz.f203,WF,Znb,Wbh⟩
theorem Zy9(N:Nat):GW 203 (Znb N):=GF Zy8 N Tryz.func203 Wa
def Zmo(N:Nat):Sig:=Sig.of [.v (.prod Jj Ja) true,.v Jx true,.v Jj false] [.v Jq true,.v Jac false,.v Jk true,.v Jp false] (λd=>Zlb N d.1 d.2.1 d.2.2.1)
def Zx1:Fn:=⟨Tryz.f175,WF,Zmo,λN=>[(178,Zia N),(93,Z6 N),(179,Zjk N),(81,Zcp N),(129,Zjb N),(80,Zhb N),(203,Znb N),(68,Zha N),(181,Zio N)]⟩
theorem Zx2(N:Nat):GW 175 (Zmo N):=GF Zx1 N Tryz.func175 (GC (Znx N) (GC (Zaf N) (GC (Zor N) (GC (Zf7 N) (GC (Zon N) (GC (Zmi N) (GC (Zy9 N) (GC (Zmh N) (GC (Zod N) Wa)))))))))
def Zjn(N:Nat):Sig:=Sig.of [.box Ju,.v Ja false,.v Jx true] [] (λd=>Zf5 N d.1 d.2.1 d.2.2.1)
def Zsp:Fn:=⟨Tryz.f142,λ |1=>[.opn 20]|_=>[],Zjn,λN=>[(173,Zk4 N),(174,Zmn N),(172,Zf2 N),(175,Zmo N)]⟩
theorem Zsq(N:Nat):GW 142 (Zjn N):=GF Zsp N Tryz.func142 (GC (Zvz N) (GC (Zx0 N) (GC (Zlz N) (GC (Zx2 N) Wa))))
def Zgf(N:Nat):Sig:=Sig.of [.rp (TY_Root)] [.vj Jx] (λd=>Zdg N d.1)
def Zqv:Fn:=⟨Tryz.f114,WF,Zgf,Wbh⟩
theorem Zms(N:Nat):GW 114 (Zgf N):=GF Zqv N Tryz.func114 Wa
def Zl7(N:Nat):Sig:=Sig.of [.v Jx true,.v Jj false] [.v Jac false,.v Jp false] (λd=>Zlx N d.1 d.2.1)
def Z0a:Fn:=⟨Tryz.f95,WF,Zl7,λN=>[(93,Z6 N),(131,Zhu N),(81,Zcp N)]⟩
theorem Zs5(N:Nat):GW 95 (Zl7 N):=GF Z0a N Tryz.func95 (GC (Zaf N) (GC (Zl4 N) (GC (Zf7 N) Wa)))
def Zk5(N:Nat):Sig:=Sig.of [.box Ju,.v Ja false,.v Jm true] [] (λd=>Zg8 N d.1 d.2.1 d.2.2.1)
def Zv1:Fn:=⟨Tryz.f112,λ |1=>[.opn 14]|_=>[],Zk5,λN=>[(138,Zgp N),(139,Zj6 N),(140,Zjl N),(141,Zlu N),(142,Zjn N),(93,Z6 N),(114,Zgf N),(95,Zl7 N)]⟩
theorem Zv2(N:Nat):GW 112 (Zk5 N):=GF Zv1 N Tryz.func112 (GC (Zm8 N) (GC (Zuf N) (GC (Zsl N) (GC (Zww N) (GC (Zsq N) (GC (Zaf N) (GC (Zms N) (GC (Zs5 N) Wa))))))))
def Zk6(N:Nat):Sig:=Sig.of [.v (TY_KidRun) true] [.v Jp false] (λd=>Zmb N d.1)
def Zv3:Fn:=⟨Tryz.f177,WF,Zk6,Wbh⟩
theorem Zv4(N:Nat):GW 177 (Zk6 N):=GF Zv3 N Tryz.func177 Wa
def Zan(N:Nat):Sig:=Sig.of [.v Jad false,.clos 177 0] [.v Ja false] (λd=>Zv N d.1)
def Z4:Fn:=⟨Tryz.f204,λ |2=>[.canon [0,1,7,8,9]]|3=>[.canon [0,1,5,7,8]]|4=>[.canon [0,1,5,7,8,16]]|5=>[.canon [1,4]]|6=>[.canon [0,1,7,8]]|100002=>[.canon [0,1,7,8]]|_=>[],Zan,λN=>[(177,Zk6 N)]⟩
def Zdd(s2:List Y_KidRun)(t4:Int):St:=⟨[(0,vV Jad s2),(1,.s (.one (.clos 177 []))),(7,vI (Wb s2)),(8,vI t4)],[],0⟩
def Zc8(s2:List Y_KidRun)(t7:Int):St:=⟨[(1,.s (.one (.clos 177 []))),(4,vI t7)],[],0⟩
def Zc9(s2:List Y_KidRun)(t8:Int)(t9:Bool):St:=⟨[(0,vV Jad s2),(1,.s (.one (.clos 177 []))),(7,vI (Wb s2)),(8,vI t8),(9,vB t9)],[],0⟩
theorem Zde(N:Nat){R:Type}(K:Ex->St->Option R){s2:List Y_KidRun}{K0:Int->Option R}{K1:Int->Bool->Option R}(h0:K0= λt7=>K .ret (Zc8 s2 t7))(h1:K1= λt8 t9=>K (.exit 0) (Zc9 s2 t8 t9))(n:Nat)(t4:Int):Zg N s2 K0 K1 n t4=LM Z4 N 0 100002 n (Zdd s2 t4) K:=by
  subst h0 h1
  induction n generalizing t4 with
  |zero=>kernel_rfl
  |succ n ih=>rw[Zg];simp only[ih];kernel_rfl
theorem Zeh(N:Nat)(s1:List Y_KidRun):DN Z4 N (s1,())=Zv N s1:=by
  conv=>rhs;rw[Zv];simp(disch:=exact id (by kernel_rfl)) only[Zde (R:=Unit×Kh) N (CF Z4 N [1,0,1,0])]
  kernel_rfl
theorem Zei(N:Nat):GW 204 (Zan N):=GF Z4 N Tryz.func204 (GC (Zv4 N) Wa) (λd=>Zeh N d.1)
def Zah(N:Nat):Sig:=Sig.of [.v Jad false,.clos 177 0] [.v Jp false] (λd=>Zak N d.1)
def Zdh:Fn:=⟨Tryz.f176,WF,Zah,λN=>[(204,Zan N)]⟩
theorem Zdi(N:Nat):GW 176 (Zah N):=GF Zdh N Tryz.func176 (GC (Zei N) Wa)
def Zmp(N:Nat):Sig:=Sig.of [.v (TY_Family) true] [.v Jp false] (λd=>Zlc N d.1)
def Zx3:Fn:=⟨Tryz.f143,WF,Zmp,λN=>[(176,Zah N)]⟩
theorem Zx4(N:Nat):GW 143 (Zmp N):=GF Zx3 N Tryz.func143 (GC (Zdi N) Wa)
def Zmq(N:Nat):Sig:=Sig.of [.v (TY_Family) true] [.v Jac false] (λd=>Zgx N d.1)
def Zjo:Fn:=⟨Tryz.f144,λ |5=>[.canon [3,20,21,22,23]]|6=>[.canon [3,4,5,20,21,22]]|7=>[.canon [3,4,5,20,21,22]]|8=>[.canon [3,4,5,20,21,22,37]]|9=>[.canon [3,20,21,22]]|10=>[.canon [3,20,21,22]]|100005=>[.canon [3,20,21,22]]|_=>[],Zmq,λN=>[(81,Zcp N),(93,Z6 N)]⟩
def Zsr(t4:List Y_KidRun)(t5:Int)(t6:Int)(l7:List Int):St:=⟨[(3,vO 0),(20,vV Jad t4),(21,vI t5),(22,vI t6)],[(0,.arr Ja l7)],1⟩
def Zqw(t4:List Y_KidRun)(t5:Int)(aB:Int)(aL:Bool)(bm:List Int):St:=⟨[(3,vO 0),(20,vV Jad t4),(21,vI t5),(22,vI aB),(23,vB aL)],[(0,.arr Ja bm)],1⟩
theorem Zss(N:Nat){R:Type}(K:Ex->St->Option R){t4:List Y_KidRun}{t5:Int}{K0:Int->Bool->Kj->Option R}(h0:K0= λaB aL bm=>K (.exit 0) (Zqw t4 t5 aB aL bm))(n:Nat)(t6:Int)(l7:List Int):Zbm N t4 t5 K0 n t6 l7=LM Zjo N 0 100005 n (Zsr t4 t5 t6 l7) K:=by
  subst h0
  induction n generalizing t6 l7 with
  |zero=>kernel_rfl
  |succ n ih=>rw[Zbm];simp only[ih];kernel_rfl
theorem Zx5(N:Nat)(f1:Y_Family):DN Zjo N (f1,())=Zgx N f1:=by
  conv=>rhs;rw[Zgx];simp(disch:=exact id (by kernel_rfl)) only[Zss (R:=Unit×Ku) N (CF Zjo N [1,1,1,0,1,0])]
  kernel_rfl
theorem Zx6(N:Nat):GW 144 (Zmq N):=GF Zjo N Tryz.func144 (GC (Zf7 N) (GC (Zaf N) Wa)) (λd=>Zx5 N d.1)
def Zmr(N:Nat):Sig:=Sig.of [.v (TY_Family) true] [.v (.own Jw) false] (λd=>Zgy N d.1)
def Zjp:Fn:=⟨Tryz.f145,λ |3=>[.canon [3,8,9,10,11]]|4=>[.canon [3,5,8,9,10]]|5=>[.canon [3,8,9,10]]|6=>[.canon [3,8,9,10]]|100003=>[.canon [3,8,9,10]]|_=>[],Zmr,Wbh⟩
def Zst(t2:List Kb)(t3:Int)(t4:Int)(l5:List Kc):St:=⟨[(3,vO 0),(8,vV Je t2),(9,vI t3),(10,vI t4)],[(0,.arr Jw l5)],1⟩
def Zqx(t2:List Kb)(t3:Int)(t6:Int)(t7:Bool)(l8:List Kc):St:=⟨[(3,vO 0),(8,vV Je t2),(9,vI t3),(10,vI t6),(11,vB t7)],[(0,.arr Jw l8)],1⟩
theorem Zsu(N:Nat){R:Type}(K:Ex->St->Option R){t2:List Kb}{t3:Int}{K0:Int->Bool->Kw->Option R}(h0:K0= λt6 t7 l8=>K (.exit 0) (Zqx t2 t3 t6 t7 l8))(n:Nat)(t4:Int)(l5:List Kc):Zco N t2 t3 K0 n t4 l5=LM Zjp N 0 100003 n (Zst t2 t3 t4 l5) K:=by
  subst h0
  induction n generalizing t4 l5 with
  |zero=>kernel_rfl
  |succ n ih=>rw[Zco];simp only[ih];kernel_rfl
theorem Zx7(N:Nat)(f1:Y_Family):DN Zjp N (f1,())=Zgy N f1:=by
  conv=>rhs;rw[Zgy];simp(disch:=exact id (by kernel_rfl)) only[Zsu (R:=Unit×(Kw×Unit)) N (CF Zjp N [1,1,0,1,0])]
  kernel_rfl
theorem Zx8(N:Nat):GW 145 (Zmr N):=GF Zjp N Tryz.func145 Wa (λd=>Zx7 N d.1)
def Zk7(N:Nat):Sig:=Sig.of [.box Jab] [] (λd=>Zg9 N d.1)
def Zv5:Fn:=⟨Tryz.f113,WF,Zk7,λN=>[(110,Zcq N),(143,Zmp N),(144,Zmq N),(145,Zmr N),(93,Z6 N)]⟩
theorem Zv6(N:Nat):GW 113 (Zk7 N):=GF Zv5 N Tryz.func113 (GC (Zf8 N) (GC (Zx4 N) (GC (Zx6 N) (GC (Zx8 N) (GC (Zaf N) Wa)))))
def Ziz(N:Nat):Sig:=Sig.of [.boxal Ju 3] [] (λd=>Zfk N d.1 d.2.1)
def Zqy:Fn:=⟨Tryz.f116,λ |1000000=>[.unfE 1]|_=>[],Ziz,λN=>[(114,Zh9 N),(110,Zcq N),(147,Zc7 N),(93,Z6 N)]⟩
theorem Zqz(N:Nat):GW 116 (Ziz N):=GF Zqy N Tryz.func116 (GC (Znw N) (GC (Zf8 N) (GC (Zgo N) (GC (Zaf N) Wa))))
def Zhk(N:Nat):Sig:=Sig.of [.v (.prod Ja Jy) true] [.v Jd true] (λd=>Zgm N d.1)
def Zul:Fn:=⟨Tryz.f182,WF,Zhk,λN=>[(147,Zc7 N),(93,Z6 N)]⟩
theorem Zng(N:Nat):GW 182 (Zhk N):=GF Zul N Tryz.func182 (GC (Zgo N) (GC (Zaf N) Wa))
def Zf3(N:Nat):Sig:=Sig.of [.v (.prod Ja Jy) true] [.v Ja false] (λd=>Zcx N d.1)
def Zpu:Fn:=⟨Tryz.f205,WF,Zf3,Wbh⟩
theorem Zl0(N:Nat):GW 205 (Zf3 N):=GF Zpu N Tryz.func205 Wa
def Zip(N:Nat):Sig:=Sig.of [.v (.prod Ja Jy) true] [.v Jp false] (λd=>Zes N d.1)
def Zfa:Fn:=⟨Tryz.f183,λ |4=>[.canon [1,3,38]]|5=>[.canon [1,3]]|6=>[.canon [1,3,54]]|7=>[.canon [2]]|9=>[.canon [1,56,57,58,59]]|10=>[.canon [1,4,5,56,57,58]]|11=>[.canon [1,56,57,58,79]]|12=>[.canon [2]]|13=>[.canon [1,56,57,58]]|100004=>[.canon [1,3]]|100009=>[.canon [1,56,57,58]]|_=>[],Zip,λN=>[(198,Zd5 N),(44,Z3 N),(195,Zge N),(165,Zb1 N),(205,Zf3 N)]⟩
def Zq0(i7:Int)(b8:Int×Int×Int×Int×Int×List Kc×List Int):St:=⟨[(1,vP 0 0),(3,vI i7)],[(0,.box [.val Ja b8.1,.val Ja b8.2.1,.val Ja b8.2.2.1,.val Ja b8.2.2.2.1,.val Ja b8.2.2.2.2.1,.val Jn b8.2.2.2.2.2.1,.val Jj b8.2.2.2.2.2.2])],1⟩
def Zpv(b8:Int×Int×Int×Int×Int×List Kc×List Int):St:=⟨[(2,vB false)],[],0⟩
def Zpw(b8:Int×Int×Int×Int×Int×List Kc×List Int)(i9:Int)(aB:Bool):St:=⟨[(1,vP 0 0),(3,vI i9),(38,vB aB)],[(0,.box [.val Ja b8.1,.val Ja b8.2.1,.val Ja b8.2.2.1,.val Ja b8.2.2.2.1,.val Ja b8.2.2.2.2.1,.val Jn b8.2.2.2.2.2.1,.val Jj b8.2.2.2.2.2.2])],1⟩
theorem Zq1(N:Nat){R:Type}(K:Ex->St->Option R){b8:Int×Int×Int×Int×Int×List Kc×List Int}{K0:Option R}{K1:Int->Bool->Option R}(h0:K0=K .ret (Zpv b8))(h1:K1= λi9 aB=>K (.exit 0) (Zpw b8 i9 aB))(n:Nat)(i7:Int):Zbu N b8 K0 K1 n i7=LM Zfa N 0 100004 n (Zq0 i7 b8) K:=by
  subst h0 h1
  induction n generalizing i7 with
  |zero=>kernel_rfl
  |succ n ih=>rw[Zbu];simp only[ih];kernel_rfl
def Zq2(be:List Int)(bS:Int)(ba:Int×Int×Int×Int×Int×List Kc×List Int):St:=⟨[(1,vP 0 0),(56,vV Jj be),(57,vI (Wb ba.2.2.2.2.2.2)),(58,vI bS)],[(0,.box [.val Ja ba.1,.val Ja ba.2.1,.val Ja ba.2.2.1,.val Ja ba.2.2.2.1,.val Ja ba.2.2.2.2.1,.val Jn ba.2.2.2.2.2.1,.val Jj ba.2.2.2.2.2.2])],1⟩
def Zpx(be:List Int)(ba:Int×Int×Int×Int×Int×List Kc×List Int):St:=⟨[(2,vB false)],[],0⟩
def Zpy(be:List Int)(ba:Int×Int×Int×Int×Int×List Kc×List Int)(iB:Int)(td:Bool):St:=⟨[(1,vP 0 0),(56,vV Jj be),(57,vI (Wb ba.2.2.2.2.2.2)),(58,vI iB),(59,vB td)],[(0,.box [.val Ja ba.1,.val Ja ba.2.1,.val Ja ba.2.2.1,.val Ja ba.2.2.2.1,.val Ja ba.2.2.2.2.1,.val Jn ba.2.2.2.2.2.1,.val Jj ba.2.2.2.2.2.2])],1⟩
theorem Zq3(N:Nat){R:Type}(K:Ex->St->Option R){be:List Int}{ba:Int×Int×Int×Int×Int×List Kc×List Int}{K0:Option R}{K1:Int->Bool->Option R}(h0:K0=K .ret (Zpx be ba))(h1:K1= λiB td=>K (.exit 2) (Zpy be ba iB td))(n:Nat)(bS:Int):Zbg N be ba K0 K1 n bS=LM Zfa N 1 100009 n (Zq2 be bS ba) K:=by
  subst h0 h1
  induction n generalizing bS with
  |zero=>kernel_rfl
  |succ n ih=>rw[Zbg];simp only[ih];kernel_rfl
theorem Zwx(N:Nat)(c1:Int×Int×Int×Int×Int×List Kc×List Int):DN Zfa N (c1,())=Zes N c1:=by
  conv=>rhs;rw[Zes];simp(disch:=exact id (by kernel_rfl)) only[Zq1 (R:=Unit×Ko) N (CF Zfa N [1,1,0,1,0]),Zq3 (R:=Unit×Ko) N (CF Zfa N [1,1,1,0,1,0])]
  kernel_rfl
theorem Zoe(N:Nat):GW 183 (Zip N):=GF Zfa N Tryz.func183 (GC (Zhc N) (GC (Zab N) (GC (Zkt N) (GC (Zdc N) (GC (Zl0 N) Wa))))) (λd=>Zwx N d.1)
def Zex(N:Nat):Sig:=Sig.of [.box Jd,.v Ja false] [] (λd=>Z5 N d.1 d.2.1)
def Zos:Fn:=⟨Tryz.f184,WF,Zex,Wbh⟩
theorem Zk8(N:Nat):GW 184 (Zex N):=GF Zos N Tryz.func184 Wa
def Zjq(N:Nat):Sig:=Sig.of [.v (.prod Ja Jy) true] [.v Jd true,.v Jp false] (λd=>Zh2 N d.1)
def Zsv:Fn:=⟨Tryz.f148,WF,Zjq,λN=>[(182,Zhk N),(183,Zip N),(184,Zex N)]⟩
theorem Zsw(N:Nat):GW 148 (Zjq N):=GF Zsv N Tryz.func148 (GC (Zng N) (GC (Zoe N) (GC (Zk8 N) Wa)))
def Zd6(N:Nat):Sig:=Sig.of [.v Jt true] [.v Jag true] (λd=>Zca N d.1)
def Zx9:Fn:=⟨Tryz.f185,WF,Zd6,Wbh⟩
theorem Zhd(N:Nat):GW 185 (Zd6 N):=GF Zx9 N Tryz.func185 Wa
def Zn3(N:Nat):Sig:=Sig.of [.v Jt true,.v Ja false,.v Ja false] [.v Jag true,.v Jp false] (λd=>Zly N d.1 d.2.1 d.2.2.1)
def Z0b:Fn:=⟨Tryz.f186,WF,Zn3,λN=>[(185,Zd6 N),(40,Zcy N),(165,Zb1 N),(198,Zd5 N)]⟩
theorem Z0c(N:Nat):GW 186 (Zn3 N):=GF Z0b N Tryz.func186 (GC (Zhd N) (GC (Zfv N) (GC (Zdc N) (GC (Zhc N) Wa))))
def Zfi(N:Nat):Sig:=Sig.of [.box Jd,.v Ja false] [] (λd=>Zed N d.1 d.2.1)
def Zo3:Fn:=⟨Tryz.f189,WF,Zfi,Wbh⟩
theorem Zln(N:Nat):GW 189 (Zfi N):=GF Zo3 N Tryz.func189 Wa
def Zjr(N:Nat):Sig:=Sig.of [.box Jd,.v Ja false] [] (λd=>Zbn N d.1 d.2.1)
def Zsx:Fn:=⟨Tryz.f187,WF,Zjr,λN=>[(205,Zf3 N),(189,Zfi N)]⟩
theorem Zsy(N:Nat):GW 187 (Zjr N):=GF Zsx N Tryz.func187 (GC (Zl0 N) (GC (Zln N) Wa))
def Zn4(N:Nat):Sig:=Sig.of [.v Jt true] [.v Jag true,.v Ja false] (λd=>Zns N d.1)
def Z0d:Fn:=⟨Tryz.f188,WF,Zn4,λN=>[(185,Zd6 N),(40,Zcy N)]⟩
theorem Z0e(N:Nat):GW 188 (Zn4 N):=GF Z0d N Tryz.func188 (GC (Zhd N) (GC (Zfv N) Wa))
def Znr(N:Nat):Sig:=Sig.of [.v Jt true,.v Ja false,.v Ja false,.v Ja false] [.v Jag true,.v Jp false] (λd=>Zmu N d.1 d.2.1 d.2.2.1 d.2.2.2.1)
def Zz3:Fn:=⟨Tryz.f190,WF,Znr,λN=>[(185,Zd6 N),(40,Zcy N),(165,Zb1 N),(198,Zd5 N),(76,Za5 N)]⟩
theorem Zz4(N:Nat):GW 190 (Znr N):=GF Zz3 N Tryz.func190 (GC (Zhd N) (GC (Zfv N) (GC (Zdc N) (GC (Zhc N) (GC (Zbr N) Wa)))))
def Znc(N:Nat):Sig:=Sig.of [.v Jt true,.v Ja false,.v Ja false,.v Ja false] [.v Jag true,.v Jp false] (λd=>Zjv N d.1 d.2.1 d.2.2.1 d.2.2.2.1)
def Zza:Fn:=⟨Tryz.f191,WF,Znc,λN=>[(185,Zd6 N),(40,Zcy N),(165,Zb1 N),(198,Zd5 N),(44,Z3 N)]⟩
theorem Zzb(N:Nat):GW 191 (Znc N):=GF Zza N Tryz.func191 (GC (Zhd N) (GC (Zfv N) (GC (Zdc N) (GC (Zhc N) (GC (Zab N) Wa)))))
def Zj7(N:Nat):Sig:=Sig.of [.v Jt true,.v (.prod Ja Jy) true] [.v Jag true,.v Jd true] (λd=>Zig N d.1 d.2.1)
def Zum:Fn:=⟨Tryz.f149,WF,Zj7,λN=>[(185,Zd6 N),(182,Zhk N),(40,Zcy N),(183,Zip N),(186,Zn3 N),(187,Zjr N),(184,Zex N),(188,Zn4 N),(189,Zfi N),(190,Znr N),(191,Znc N)]⟩
theorem Zun(N:Nat):GW 149 (Zj7 N):=GF Zum N Tryz.func149 (GC (Zhd N) (GC (Zng N) (GC (Zfv N) (GC (Zoe N) (GC (Z0c N) (GC (Zsy N) (GC (Zk8 N) (GC (Z0e N) (GC (Zln N) (GC (Zz4 N) (GC (Zzb N) Wa)))))))))))
def Zi0(N:Nat):Sig:=Sig.of [.box Ju,.v Ja false] [] (λd=>Zfl N d.1 d.2.1)
def Zq4:Fn:=⟨Tryz.f117,λ |0=>[.opn 13]|_=>[],Zi0,λN=>[(148,Zjq N),(110,Zcq N),(149,Zj7 N),(147,Zc7 N)]⟩
theorem Zq5(N:Nat):GW 117 (Zi0 N):=GF Zq4 N Tryz.func117 (GC (Zsw N) (GC (Zf8 N) (GC (Zun N) (GC (Zgo N) Wa))))
def Zhl(N:Nat):Sig:=Sig.of [.v Jk true,.box Ja] [.v Jp false] (λd=>Ze8 N d.1 d.2.1)
def Zuo:Fn:=⟨Tryz.f153,WF,Zhl,Wbh⟩
theorem Znh(N:Nat):GW 153 (Zhl N):=GF Zuo N Tryz.func153 Wa
def Zar(N:Nat):Sig:=Sig.of [.v Je false,.clos 153 1,.box Ja] [.v Ja false] (λd=>Zy N d.1 d.2.1)
def Zaa:Fn:=⟨Tryz.f194,λ |2=>[.canon [0,1,7,8,9]]|3=>[.canon [0,1,5,7,8]]|4=>[.canon [0,1,5,7,8,16]]|5=>[.canon [1,4]]|6=>[.canon [0,1,7,8]]|100002=>[.canon [0,1,7,8]]|_=>[],Zar,λN=>[(153,Zhl N)]⟩
def Zd7(s3:List Kb)(t5:Int)(b6:Int):St:=⟨[(0,vV Je s3),(1,.s (.one (.clos 153 [0]))),(7,vI (Wb s3)),(8,vI t5)],[(0,.box [.val Ja b6])],1⟩
def Zdp(s3:List Kb)(t9:Int)(aQ:Int):St:=⟨[(1,.s (.one (.clos 153 [0]))),(4,vI t9)],[(0,.box [.val Ja aQ])],1⟩
def Zdq(s3:List Kb)(aL:Int)(aM:Bool)(bM:Int):St:=⟨[(0,vV Je s3),(1,.s (.one (.clos 153 [0]))),(7,vI (Wb s3)),(8,vI aL),(9,vB aM)],[(0,.box [.val Ja bM])],1⟩
theorem Zd8(N:Nat){R:Type}(K:Ex->St->Option R){s3:List Kb}{K0:Int->Int->Option R}{K1:Int->Bool->Int->Option R}(h0:K0= λt9 aQ=>K .ret (Zdp s3 t9 aQ))(h1:K1= λaL aM bM=>K (.exit 0) (Zdq s3 aL aM bM))(n:Nat)(t5:Int)(b6:Int):Zj N s3 K0 K1 n t5 b6=LM Zaa N 0 100002 n (Zd7 s3 t5 b6) K:=by
  subst h0 h1
  induction n generalizing t5 b6 with
  |zero=>kernel_rfl
  |succ n ih=>rw[Zj];simp only[ih];kernel_rfl
theorem Zey(N:Nat)(s1:List Kb)(dr:Int):DN Zaa N (s1,dr,())=Zy N s1 dr:=by
  conv=>rhs;rw[Zy];simp(disch:=exact id (by kernel_rfl)) only[Zd8 (R:=Kh×Kh) N (CF Zaa N [1,0,1,0])]
  kernel_rfl
theorem Zez(N:Nat):GW 194 (Zar N):=GF Zaa N Tryz.func194 (GC (Znh N) Wa) (λd=>Zey N d.1 d.2.1)
def Zap(N:Nat):Sig:=Sig.of [.v (.own Jk) false,.clos 153 1,.box Ja] [.v (.own Jk) false] (λd=>Zq N d.1 d.2.1)
def Z7:Fn:=⟨Tryz.f152,λ |5=>[.canon [0,1,5,6,19]]|6=>[.canon [0,1,5,6]]|7=>[.canon [0,1,5,6,7]]|8=>[.canon [0,1,5,6,7,29]]|9=>[.canon [0,1,5,6]]|10=>[.canon [0,1,5,6]]|11=>[.view 38]|100005=>[.canon [0,1,5,6]]|_=>[],Zap,λN=>[(194,Zar N),(153,Zhl N)]⟩
def Zdr(i4:Int)(j5:Int)(l6:List Kb)(b7:Int):St:=⟨[(0,vO 0),(1,.s (.one (.clos 153 [1]))),(5,vI i4),(6,vI j5)],[(0,.arr Jk l6),(1,.box [.val Ja b7])],2⟩
def Zdj(i9:Int)(wg:Int)(aL:Bool)(bm:List Kb)(bM:Int):St:=⟨[(0,vO 0),(1,.s (.one (.clos 153 [1]))),(5,vI i9),(6,vI wg),(19,vB aL)],[(0,.arr Jk bm),(1,.box [.val Ja bM])],2⟩
theorem Zds(N:Nat){R:Type}(K:Ex->St->Option R){K0:Int->Int->Bool->Kr->Int->Option R}(h0:K0= λi9 wg aL bm bM=>K (.exit 0) (Zdj i9 wg aL bm bM))(n:Nat)(i4:Int)(j5:Int)(l6:List Kb)(b7:Int):Zd N K0 n i4 j5 l6 b7=LM Z7 N 0 100005 n (Zdr i4 j5 l6 b7) K:=by
  subst h0
  induction n generalizing i4 j5 l6 b7 with
  |zero=>kernel_rfl
  |succ n ih=>rw[Zd];simp only[ih];kernel_rfl
theorem Zem(N:Nat)(s1:List Kb)(dr:Int):DN Z7 N (s1,dr,())=Zq N s1 dr:=by
  conv=>rhs;rw[Zq];simp(disch:=exact id (by kernel_rfl)) only[Zds (R:=Kh×Kab) N (CF Z7 N [1,1,1,0,1,0])]
  kernel_rfl
theorem Zen(N:Nat):GW 152 (Zap N):=GF Z7 N Tryz.func152 (GC (Zez N) (GC (Znh N) Wa)) (λd=>Zem N d.1 d.2.1)
def Zlv(N:Nat):Sig:=Sig.of [.v Je false,.v Ja false] [.v (.own Jk) false] (λd=>Zkc N d.1 d.2.1)
def Zwy:Fn:=⟨Tryz.f118,WF,Zlv,λN=>[(150,Zib N),(151,Zfu N),(152,Zap N)]⟩
theorem Zwz(N:Nat):GW 118 (Zlv N):=GF Zwy N Tryz.func118 (GC (Zny N) (GC (Zjh N) (GC (Zen N) Wa)))
def Zj8(N:Nat):Sig:=Sig.of [.box Ju,.v Ja false,.v Jm true] [] (λd=>Zgn N d.1 d.2.1 d.2.2.1)
def Zup:Fn:=⟨Tryz.f73,λ |1=>[.opn 12]|_=>[],Zj8,λN=>[(44,Z3 N),(110,Zcq N),(111,Zj5 N),(112,Zk5 N),(113,Zk7 N),(114,Zgf N),(115,Zhj N),(116,Ziz N),(117,Zi0 N),(118,Zlv N),(119,Zh7 N)]⟩
theorem Zuq(N:Nat):GW 73 (Zj8 N):=GF Zup N Tryz.func73 (GC (Zab N) (GC (Zf8 N) (GC (Zt9 N) (GC (Zv2 N) (GC (Zv6 N) (GC (Zms N) (GC (Znf N) (GC (Zqz N) (GC (Zq5 N) (GC (Zwz N) (GC (Znu N) Wa)))))))))))
def Zhm(N:Nat):Sig:=Sig.of [.v Jk true,.box Ja] [.v Jp false] (λd=>Zir N d.1 d.2.1)
def Zo4:Fn:=⟨Tryz.f160,WF,Zhm,Wbh⟩
theorem Zo5(N:Nat):GW 160 (Zhm N):=GF Zo4 N Tryz.func160 Wa
def Zai(N:Nat):Sig:=Sig.of [.v Je false,.clos 160 1,.box Ja] [.v Ja false] (λd=>Zn N d.1 d.2.1)
def Z0:Fn:=⟨Tryz.f159,λ |2=>[.canon [0,1,7,8,9]]|3=>[.canon [0,1,5,7,8]]|4=>[.canon [0,1,5,7,8,16]]|5=>[.canon [1,4]]|6=>[.canon [0,1,7,8]]|100002=>[.canon [0,1,7,8]]|_=>[],Zai,λN=>[(160,Zhm N)]⟩
def Zcz(s3:List Kb)(t5:Int)(b6:Int):St:=⟨[(0,vV Je s3),(1,.s (.one (.clos 160 [0]))),(7,vI (Wb s3)),(8,vI t5)],[(0,.box [.val Ja b6])],1⟩
def Zct(s3:List Kb)(t9:Int)(aQ:Int):St:=⟨[(1,.s (.one (.clos 160 [0]))),(4,vI t9)],[(0,.box [.val Ja aQ])],1⟩
def Zcu(s3:List Kb)(aL:Int)(aM:Bool)(bM:Int):St:=⟨[(0,vV Je s3),(1,.s (.one (.clos 160 [0]))),(7,vI (Wb s3)),(8,vI aL),(9,vB aM)],[(0,.box [.val Ja bM])],1⟩
theorem Zc0(N:Nat){R:Type}(K:Ex->St->Option R){s3:List Kb}{K0:Int->Int->Option R}{K1:Int->Bool->Int->Option R}(h0:K0= λt9 aQ=>K .ret (Zct s3 t9 aQ))(h1:K1= λaL aM bM=>K (.exit 0) (Zcu s3 aL aM bM))(n:Nat)(t5:Int)(b6:Int):Zf N s3 K0 K1 n t5 b6=LM Z0 N 0 100002 n (Zcz s3 t5 b6) K:=by
  subst h0 h1
  induction n generalizing t5 b6 with
  |zero=>kernel_rfl
  |succ n ih=>rw[Zf];simp only[ih];kernel_rfl
theorem Zdk(N:Nat)(s1:List Kb)(dr:Int):DN Z0 N (s1,dr,())=Zn N s1 dr:=by
  conv=>rhs;rw[Zn];simp(disch:=exact id (by kernel_rfl)) only[Zc0 (R:=Kh×Kh) N (CF Z0 N [1,0,1,0])]
  kernel_rfl
theorem Zdl(N:Nat):GW 159 (Zai N):=GF Z0 N Tryz.func159 (GC (Zo5 N) Wa) (λd=>Zdk N d.1 d.2.1)
def Zej(N:Nat):Sig:=Sig.of [.rp (TY_Family),.v Ja false] [.v Ja false] (λd=>Zcf N d.1 d.2.1)
def Zq6:Fn:=⟨Tryz.f122,WF,Zej,λN=>[(159,Zai N)]⟩
theorem Zi1(N:Nat):GW 122 (Zej N):=GF Zq6 N Tryz.func122 (GC (Zdl N) Wa)
def Zfj(N:Nat):Sig:=Sig.of [.box Jz,.v Ja false] [] (λd=>Zbh N d.1 d.2.1)
def Zo6:Fn:=⟨Tryz.f123,WF,Zfj,λN=>[(93,Z6 N)]⟩
theorem Zlo(N:Nat):GW 123 (Zfj N):=GF Zo6 N Tryz.func123 (GC (Zaf N) Wa)
def Zjs(N:Nat):Sig:=Sig.of [.box Jz,.v Ja false,.v Jx true,.v Jt true] [] (λd=>Zhv N d.1 d.2.1 d.2.2.1 d.2.2.2.1)
def Zsz:Fn:=⟨Tryz.f154,λ |1=>[.opn 18]|_=>[],Zjs,λN=>[(169,Zjz N),(122,Zej N),(123,Zfj N),(170,Zin N),(171,Zh8 N)]⟩
theorem Zs0(N:Nat):GW 154 (Zjs N):=GF Zsz N Tryz.func154 (GC (Zn2 N) (GC (Zi1 N) (GC (Zlo N) (GC (Zoc N) (GC (Znv N) Wa)))))
def Zi2(N:Nat):Sig:=Sig.of [.box Jh,.v Jc false] [] (λd=>Zhe N d.1 d.2.1)
def Zq7:Fn:=⟨Tryz.f155,λ |5=>[.opn 28]|_=>[],Zi2,λN=>[(93,Z6 N),(147,Zc7 N),(96,Zll N)]⟩
theorem Zq8(N:Nat):GW 155 (Zi2 N):=GF Zq7 N Tryz.func155 (GC (Zaf N) (GC (Zgo N) (GC (Zqo N) Wa)))
def Zj9(N:Nat):Sig:=Sig.of [.box Jz,.v Ja false,.v Jc false,.v Jt true] [] (λd=>Zid N d.1 d.2.1 d.2.2.1 d.2.2.2.1)
def Zur:Fn:=⟨Tryz.f120,λ |1=>[.opn 16]|18=>[.nest 128 Js]|_=>[],Zj9,λN=>[(154,Zjs N),(155,Zi2 N),(93,Z6 N),(95,Zl7 N)]⟩
theorem Zus(N:Nat):GW 120 (Zj9 N):=GF Zur N Tryz.func120 (GC (Zs0 N) (GC (Zq8 N) (GC (Zaf N) (GC (Zs5 N) Wa))))
def Zbc(N:Nat):Sig:=Sig.of [.mut Jk,.clos 158 0] [] (λd=>Zal N d.1)
theorem Zdt:CmpOk Tryz.prog 158 Jk Wwe cfE:=by
  intro G x y us vs w hx hy h1 h2;obtain⟨_,_,rfl,a1,_,_,rfl,a2,a3⟩:=h1;obtain⟨_,_,rfl,b1,_,_,rfl,b2,b3⟩:=h2;simp only[Enc]at a1 a2 a3 b1 b2 b3;subst a1 a2 a3 b1 b2 b3;simp only[Xbh,Xcf]
  go_enter Tryz.func158,Tryz.ntmps158
  go_wp2
  rw[sub_run (WgL hx) (WgL hy) (c:=cfE x y) rfl]
  go_wp2
  go_ret
  exact⟨rfl,two_grow _ _ _⟩
theorem Zdu(N:Nat):GW 157 (Zbc N):=⟨WdK Tryz.func157 (show Wqt Tryz.f157=true by kernel_rfl),good_sortF sortFE (e:=.prod Ja Jw) rfl (by decide) Tryz.isAgg168 Tryz.sizeOf168 (enters_of Tryz.func158 (by kernel_rfl) rfl) Wxz Zdt N⟩
def Zi3(N:Nat):Sig:=Sig.of [.box Jz,.v Ja false] [] (λd=>Zdf N d.1 d.2.1)
def Zcj:Fn:=⟨Tryz.f121,λ |0=>[.opn 16]|3=>[.canon [0,1,4,28,29,30,31]]|4=>[.canon [0,1,4,6,28,29,30]]|5=>[.canon [0,1,4,6,7,28,29,30]]|6=>[.canon [0,1,4,7,8,28,29,30]]|7=>[.canon [0,1,4,7,8,28,29,30,48]]|8=>[.canon [0,1,4,28,29,30]]|9=>[.canon [0,1,4,28,29,30]]|10=>[.canon [0,1,4,28,29,30]]|13=>[.canon [0,1,4,75,76,77,78]]|14=>[.canon [0,1,4,10,75,76,77]]|15=>[.canon [0,1,4,10,75,76,77,83]]|16=>[.canon [0,1,4,75,76,77]]|17=>[.canon [0,1,4,75,76,77]]|100003=>[.canon [0,1,4,28,29,30]]|100013=>[.canon [0,1,4,75,76,77]]|_=>[],Zi3,λN=>[(156,Ziy N),(122,Zej N),(157,Zbc N)]⟩
def Zof(k4:Int)(t5:Int)(t6:Int)(b7:Int)(b8:Int)(b9:Int)(aQ:Bool)(bc:Int)(cp:Int)(bM:Int)(dA:Int)(cQ:Int)(ba:Int)(it:Bool)(da:Int)(dE:Int)(dB:Int)(iu:Int)(bV:List Kc)(cJ:List Int)(db:List Kc)(gW:List Kb)(iv:List Int)(dy:List Kc)(fM:List Y_KidRun)(iw:Nat)(fN:List Int)(fO:List Kb)(fR:List Kc)(cW:List Kk):St:=⟨[(0,vP 0 0),(1,vI k4),(4,vP 1 0),(28,vO 2),(29,vI t5),(30,vI t6)],[(0,.box [.val Ja b7,.val Ja b8,.val Ja b9,.val Jp aQ,.own 3,.own 4,.own 5,.own 6,.own 7,.own 8]),(1,.box [.val Ja bc,.val Ja cp,.val Ja bM,.val Ja dA,.val Ja cQ,.val Ja ba,.own 9,.own 10,.own 11,.own 12,.val Jp it,.val Ja da,.val Ja dE,.val Ja dB,.val Ja iu]),(2,.arr Jw bV),(3,.arr Ja cJ),(4,.arr Jw db),(5,.arr Jk gW),(6,.arr Ja iv),(7,.arr Jw dy),(8,.hole Jh fM iw 1),(9,.arr Ja fN),(10,.arr Jk fO),(11,.arr Jw fR),(12,.arr Js cW)],13⟩
def Zn5(k4:Int)(t5:Int)(b7:Int)(b8:Int)(b9:Int)(aQ:Bool)(bc:Int)(cp:Int)(bM:Int)(dA:Int)(cQ:Int)(ba:Int)(it:Bool)(da:Int)(dE:Int)(dB:Int)(iu:Int)(bV:List Kc)(cJ:List Int)(db:List Kc)(iv:List Int)(dy:List Kc)(fM:List Y_KidRun)(iw:Nat)(fN:List Int)(fO:List Kb)(fR:List Kc)(cW:List Kk)(wh:Int)(pd:Bool)(ki:List Kb):St:=⟨[(0,vP 0 0),(1,vI k4),(4,vP 1 0),(28,vO 2),(29,vI t5),(30,vI wh),(31,vB pd)],[(0,.box [.val Ja b7,.val Ja b8,.val Ja b9,.val Jp aQ,.own 3,.own 4,.own 5,.own 6,.own 7,.own 8]),(1,.box [.val Ja bc,.val Ja cp,.val Ja bM,.val Ja dA,.val Ja cQ,.val Ja ba,.own 9,.own 10,.own 11,.own 12,.val Jp it,.val Ja da,.val Ja dE,.val Ja dB,.val Ja iu]),(2,.arr Jw bV),(3,.arr Ja cJ),(4,.arr Jw db),(5,.arr Jk ki),(6,.arr Ja iv),(7,.arr Jw dy),(8,.hole Jh fM iw 1),(9,.arr Ja fN),(10,.arr Jk fO),(11,.arr Jw fR),(12,.arr Js cW)],13⟩
end
end Go.Sx
