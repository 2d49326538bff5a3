/- Each Go function does what its Lean function says. -/
import Derived.Test.YtnkbflecplbceaaGreatT2
import Derived.Test.YtnkbflecplbceaaGreatProg
import Derived.Test.YtnkbflecplbceaaGreatLay
open Bool renaming and_eq_true→Xh
open List renaming cons_append→Xbf,nil_append→Xca
namespace Go.Sx
noncomputable section
open Go.Proofs
abbrev Ja:Ty:=.int .i64
abbrev Jb:Ty:=.prod (.own Ja) (.prod (.own (.prod Ja Ja)) (.prod (.own (.prod Ja (.prod Ja Ja))) (.prod (.own Ja) (.prod (.own (.prod Ja Ja)) (.own (.prod Ja (.prod Ja (.prod Ja (.prod Ja (.prod Ja (.prod Ja (.prod (.own Ja) (.prod (.own (.prod Ja (.prod Ja Ja))) (.prod (.own (.prod Ja Ja)) (.prod (.own (.prod Ja (.prod Ja (.own Ja)))) (.prod (.bool) (.prod Ja (.prod Ja (.prod Ja Ja)))))))))))))))))))
abbrev Jc:Ty:=.slice (.prod Ja (.prod Ja (.prod Ja Ja)))
abbrev Jd:Ty:=.prod Ja (.prod Ja (.prod Ja (.prod Ja (.prod Ja (.prod (.own (.prod Ja Ja)) (.own Ja))))))
abbrev Je:Ty:=.slice (.prod Ja (.prod Ja Ja))
abbrev Jf:Ty:=.own (.prod Ja (.prod Ja (.prod Ja (.prod Ja (.slice Ja)))))
abbrev Jg:Ty:=.prod Ja (.prod Ja (.prod Ja (.prod Ja (.prod Ja (.prod Ja (.prod Ja (.prod Ja (.prod Ja (.prod Ja (.prod (.bool) (.prod (.own Ja) (.prod (.own (.prod Ja Ja)) (.prod (.own (.prod Ja Ja)) (.prod Jf (.prod (.own (.prod Ja (.prod Ja Ja))) (.prod (.own Ja) (.prod (.bool) (.prod (.prod Ja (.prod Ja (.prod Ja Ja))) (.prod Jd (.prod Ja (.prod Ja (.prod Ja (.prod (.bool) Jb)))))))))))))))))))))))
abbrev Jh:Ty:=.prod Ja (.prod Ja (.prod Ja (.prod Ja (.prod Ja (.prod Ja (.prod (.own Ja) (.prod (.own (.prod Ja (.prod Ja Ja))) (.prod (.own (.prod Ja Ja)) (.prod (.own (.prod Ja (.prod Ja (.own Ja)))) (.prod (.bool) (.prod Ja (.prod Ja (.prod Ja Ja)))))))))))))
abbrev Ji:Ty:=.prod Ja (.prod Ja (.slice (.prod Ja Ja)))
abbrev Jj:Ty:=.slice Ja
abbrev Jk:Ty:=.prod Jc (.slice Jc)
abbrev Jl:Ty:=.prod Ja (.prod Ja Ja)
abbrev Jm:Ty:=.slice (.int .u8)
abbrev Jn:Ty:=.slice (.prod Ja Ja)
abbrev Jo:Ty:=.prod (.own (.prod Ja Jg)) (.own Ji)
abbrev Jp:Ty:=.bool
abbrev Jq:Ty:=.prod (.own Ja) Ja
abbrev Jr:Ty:=.prod (.prod Jj (.prod Jj Ja)) (.prod (.slice Jk) Je)
abbrev Js:Ty:=.prod Ja (.prod Ja (.own Ja))
abbrev Jt:Ty:=.prod Ja Je
abbrev Ju:Ty:=.slice (TY_Root)
abbrev Jv:Ty:=.prod Ja (.prod Ja (.prod (.prod Ja (.own Jl)) (.prod Jq (.prod (.own Jl) Jo))))
abbrev Jw:Ty:=.prod Ja Ja
abbrev Jx:Ty:=.prod Ja Jl
abbrev Jy:Ty:=.prod Ja (.prod Ja (.prod Ja (.prod Ja (.prod Jn Jj))))
abbrev Jz:Ty:=.prod Ja (.prod Ja (.prod Ja (.prod Jp Jb)))
abbrev Jaa:Ty:=.slice Jk
abbrev Jab:Ty:=.prod Ja Jg
abbrev Jac:Ty:=.own Ja
abbrev Jad:Ty:=.slice (TY_KidRun)
abbrev Jae:Ty:=.prod Jj Ja
abbrev Jaf:Ty:=.prod Ja (.prod Ja (.prod Ja Jj))
abbrev Jag:Ty:=.prod Jm Jw
abbrev Jah:Ty:=.prod Ja (.own Jl)
set_option linter.unusedVariables false
set_option linter.unusedSimpArgs false
def tab:Tab:=[(3,⟨.int .i64,false,.basic⟩),(4,⟨.bool,false,.basic⟩),(5,⟨.int .u8,false,.basic⟩),(22,⟨.slice (.int .u8),false,.slice 5⟩),(24,⟨.slice Ja,false,.slice 3⟩),(26,⟨.prod Jj Jae,true,.struct [(0,24),(1,24),(2,3)]⟩),(27,⟨.slice Jk,false,.slice 55⟩),(28,⟨.slice Jl,false,.slice 90⟩),(30,⟨.prod (.prod Jj Jae) (.prod Jaa Je),true,.struct [(0,26),(3,27),(4,28)]⟩),(32,⟨.slice Jl,false,.slice 95⟩),(34,⟨.prod Ja Je,true,.struct [(0,3),(1,32)]⟩),(36,⟨.prod Jj Ja,true,.struct [(0,24),(1,3)]⟩),(37,⟨.slice Jl,false,.slice 199⟩),(38,⟨.slice (TY_Root),false,.slice 75⟩),(39,⟨.slice Ji,false,.slice 194⟩),(41,⟨TY_World,true,.struct [(0,3),(1,3),(2,34),(4,36),(6,37),(7,38),(8,39)]⟩),(52,⟨.slice Jx,false,.slice 81⟩),(53,⟨.slice Jc,false,.slice 84⟩),(55,⟨.prod Jc (.slice Jc),true,.struct [(0,52),(1,53)]⟩),(63,⟨.slice Jw,false,.slice 180⟩),(64,⟨.slice (.prod Ja Jaf),false,.slice 158⟩),(65,⟨.slice Jl,false,.slice 187⟩),(67,⟨.prod Ja Jl,true,.struct [(0,3),(1,3),(2,3),(3,3)]⟩),(69,⟨.prod Ja Jy,true,.struct [(0,3),(1,3),(2,3),(3,3),(4,3),(5,63),(6,24)]⟩),(70,⟨.slice Jl,false,.slice 168⟩),(71,⟨.slice (TY_KidRun),false,.slice 166⟩),(73,⟨TY_Family,true,.struct [(0,3),(1,3),(2,3),(3,4),(4,24),(5,63),(6,70),(7,24),(8,63),(9,71)]⟩),(75,⟨TY_Root,true,.struct [(0,3),(1,3),(2,3),(3,3),(4,3),(5,3),(6,3),(7,3),(8,3),(9,3),(10,3),(11,4),(12,24),(13,63),(14,63),(15,64),(16,65),(17,24),(18,4),(19,67),(23,69),(30,73)]⟩),(81,⟨.prod Ja Jl,true,.struct [(0,3),(1,3),(2,3),(3,3)]⟩),(84,⟨.slice Jx,true,.struct [(0,52)]⟩),(90,⟨.prod Ja Jw,true,.struct [(0,3),(1,3),(2,3)]⟩),(95,⟨.prod Ja Jw,true,.struct [(0,3),(1,3),(2,3)]⟩),(117,⟨.prod Jm Jw,true,.struct [(0,22),(1,3),(2,3)]⟩),(150,⟨.bool,true,.arr 8 4⟩),(158,⟨.prod Ja Jaf,true,.struct [(0,3),(1,3),(2,3),(3,3),(4,24)]⟩),(164,⟨.slice (.prod Ja (.prod Ja Jj)),false,.slice 204⟩),(166,⟨TY_KidRun,true,.struct [(0,3),(1,3),(2,3),(3,3),(4,3),(5,3),(6,24),(7,70),(8,63),(9,164),(10,4),(11,67)]⟩),(168,⟨.prod Ja Jw,true,.struct [(0,3),(1,3),(2,3)]⟩),(180,⟨.prod Ja Ja,true,.struct [(0,3),(1,3)]⟩),(187,⟨.prod Ja Jw,true,.struct [(0,3),(1,3),(2,3)]⟩),(194,⟨.prod Ja (.prod Ja Jn),true,.struct [(0,3),(1,3),(2,63)]⟩),(199,⟨.prod Ja Jw,true,.struct [(0,3),(1,3),(2,3)]⟩),(204,⟨.prod Ja (.prod Ja Jj),true,.struct [(0,3),(1,3),(2,24)]⟩)]
theorem mixedOk:Tryz.prog.follows .mixedOrders=true:=by kernel_rfl
theorem tabOk:Wah Tryz.prog tab:=Wwz (show WlQ Tryz.prog tab tab=true by kernel_rfl)
def LM(x:Fn)(N:Nat){R:Type}(i k n:Nat)(st:St)(K:Ex->St->Option R):Option R:=lpM tab (x.c N) x.a N x.F i k n st K
def CF(x:Fn)(N:Nat)(p:List Nat):Ex->St->Option (Qs (x.s N)):=cxF tab (x.c N) x.a N (x.s N) x.F p
def CL(x:Fn)(N:Nat){R:Type}(i k:Nat)(p:List Nat)(n:Nat)(K:Ex->St->Option R):Ex->St->Option R:=cxL tab (x.c N) x.a N x.F i k p n K
def DN(x:Fn)(N:Nat)(d:Wfk (x.s N).ps):Option (Qs (x.s N)):=den (R:=Qs (x.s N)) tab (x.c N) x.a N (x.s N) x.F d some
def GW(k:FuncId)(s:Sig):Prop:=WgG Tryz.prog k/\Good Tryz.prog k s
theorem GC{k:FuncId}{s:Sig}{Γ:Ctx}(h:GW k s)(hc:Wff Tryz.prog Γ):Wff Tryz.prog ((k,s)::Γ):=Ws9 h.2 h.1 hc
theorem GF(x:Fn){k:FuncId}(N:Nat)(hf:Tryz.prog.funcs[k]?=some x.F)(hc:Wff Tryz.prog (x.c N))(h:∀d,DN x N d=(x.s N).run d:=by intro d;kernel_rfl)(aH:(WpH x.F&&Wn3 x.F (x.s N).ps)=true:=by kernel_rfl):GW k (x.s N):=
  ⟨Wd2 hf (Xh .. ▸aH).1,WqX mixedOk tabOk hc hf (Xh .. ▸aH).2 (λd _ e=>⟨N,(h d).trans e⟩)⟩
def Zou(N:Nat):Sig:=Sig.of [.v Jm false] [.v Jp false] (λd=>Zr5 N d.1)
def Z1c:Fn:=⟨Tryz.f9,Wz,Zou,Wbd⟩
theorem Z1d(N:Nat):GW 9 (Zou N):=GF Z1c N Tryz.func9 Wa
def Zns(N:Nat):Sig:=Sig.of [.v Jm false] [.box Jag] (λd=>Zi2 N d.1)
def Zlm:Fn:=⟨Tryz.f32,λ |3=>[.canon [0,3,4,15]]|4=>[.canon [0,3,4]]|5=>[.canon [0,3,4]]|100003=>[.canon [0,3,4]]|_=>[],Zns,Wbd⟩
def Zvk(aa:List Int)(h3:Int)(i4:Int):St:=⟨[(0,vV Jm aa),(3,vI h3),(4,vI i4)],[],0⟩
def Ztu(aa:List Int)(h5:Int)(i6:Int)(t7:Bool):St:=⟨[(0,vV Jm aa),(3,vI h5),(4,vI i6),(15,vB t7)],[],0⟩
theorem Zvl(N:Nat){R:Type}(K:Ex->St->Option R){aa:List Int}{K0:Int->Int->Bool->Option R}(h0:K0= λh5 i6 t7=>K (.exit 0) (Ztu aa h5 i6 t7))(n:Nat)(h3:Int)(i4:Int):Zcn N aa K0 n h3 i4=LM Zlm N 0 100003 n (Zvk aa h3 i4) K:=by
  subst h0
  induction n generalizing h3 i4 with
  |zero=>kernel_rfl
  |succ n ih=>rw[Zcn];simp only[ih];kernel_rfl
theorem Zz9(N:Nat)(ad:List Int):DN Zlm N (ad,())=Zi2 N ad:=by
  conv=>rhs;rw[Zi2];simp(disch:=exact id (by kernel_rfl)) only[Zvl (R:=Unit×Ks) N (CF Zlm N [1,1,0,1,0])]
  kernel_rfl
theorem Z0a(N:Nat):GW 32 (Zns N):=GF Zlm N Tryz.func32 Wa (λd=>Zz9 N d.1)
def Zm4(N:Nat):Sig:=Sig.of [.v Jm false,.v Ja false] [.v Ja false] (λd=>Zmb N d.1 d.2.1)
def Zy3:Fn:=⟨Tryz.f34,Wz,Zm4,Wbd⟩
theorem Zy4(N:Nat):GW 34 (Zm4 N):=GF Zy3 N Tryz.func34 Wa
def Zm5(N:Nat):Sig:=Sig.of [.box Jag] [.v Ja false] (λd=>Zfm N d.1)
def Zy5:Fn:=⟨Tryz.f108,Wz,Zm5,Wbd⟩
theorem Zy6(N:Nat):GW 108 (Zm5 N):=GF Zy5 N Tryz.func108 Wa
def Zaa(N:Nat):Sig:=Sig.of [.box Jag,.v Ja false] [.v Ja false] (λd=>Zb N d.1 d.2.1)
def Zxx:Fn:=⟨Tryz.f70,Wz,Zaa,λN=>[(108,Zm5 N)]⟩
theorem Zag(N:Nat):GW 70 (Zaa N):=GF Zxx N Tryz.func70 (GC (Zy6 N) Wa)
def Zb0(N:Nat):Sig:=Sig.of [.box Jag,.v Ja false] [.v Jp false] (λd=>Zt N d.1 d.2.1)
def Zy7:Fn:=⟨Tryz.f50,Wz,Zb0,λN=>[(70,Zaa N)]⟩
theorem Zdf(N:Nat):GW 50 (Zb0 N):=GF Zy7 N Tryz.func50 (GC (Zag N) Wa)
def Zgf(N:Nat):Sig:=Sig.of [.box Jag,.v Jj false] [.v Ja false] (λd=>Zbp N d.1 d.2.1)
def Zvm:Fn:=⟨Tryz.f126,Wz,Zgf,λN=>[(70,Zaa N)]⟩
theorem Zk5(N:Nat):GW 126 (Zgf N):=GF Zvm N Tryz.func126 (GC (Zag N) Wa)
def Zic(N:Nat):Sig:=Sig.of [.box Jag] [.v Ja false] (λd=>Zgr N d.1)
def Zy8:Fn:=⟨Tryz.f85,Wz,Zic,λN=>[(50,Zb0 N),(126,Zgf N),(70,Zaa N)]⟩
theorem Zm6(N:Nat):GW 85 (Zic N):=GF Zy8 N Tryz.func85 (GC (Zdf N) (GC (Zk5 N) (GC (Zag N) Wa)))
def Zka(N:Nat):Sig:=Sig.of [.box Jag] [.v Jac false] (λd=>Ze9 N d.1)
def Zhp:Fn:=⟨Tryz.f84,λ |3=>[.canon [0,3,4,7]]|4=>[.canon [0,3,4]]|5=>[.canon [0,3,4]]|100003=>[.canon [0,3,4]]|_=>[],Zka,λN=>[(85,Zic N)]⟩
def Zo4(i2:Int)(b3:List Int×Int×Int)(l4:List Int):St:=⟨[(0,vP 0 0),(3,vO 1),(4,vI i2)],[(0,.box [.val Jm b3.1,.val Ja b3.2.1,.val Ja b3.2.2]),(1,.arr Ja l4)],2⟩
def Zov(i6:Int)(t7:Bool)(b8:List Int×Int×Int)(l9:List Int):St:=⟨[(0,vP 0 0),(3,vO 1),(4,vI i6),(7,vB t7)],[(0,.box [.val Jm b8.1,.val Ja b8.2.1,.val Ja b8.2.2]),(1,.arr Ja l9)],2⟩
theorem Zo5(N:Nat){R:Type}(K:Ex->St->Option R){K0:Int->Bool->Kg->Ki->Option R}(h0:K0= λi6 t7 b8 l9=>K (.exit 0) (Zov i6 t7 b8 l9))(n:Nat)(i2:Int)(b3:List Int×Int×Int)(l4:List Int):Zck N K0 n i2 b3 l4=LM Zhp N 0 100003 n (Zo4 i2 b3 l4) K:=by
  subst h0
  induction n generalizing i2 b3 l4 with
  |zero=>kernel_rfl
  |succ n ih=>rw[Zck];simp only[ih];kernel_rfl
theorem Ztv(N:Nat)(c1:List Int×Int×Int):DN Zhp N (c1,())=Ze9 N c1:=by
  conv=>rhs;rw[Ze9];simp(disch:=exact id (by kernel_rfl)) only[Zo5 (R:=Ks×Ku) N (CF Zhp N [1,1,0,1,0])]
  kernel_rfl
theorem Ztw(N:Nat):GW 84 (Zka N):=GF Zhp N Tryz.func84 (GC (Zm6 N) Wa) (λd=>Ztv N d.1)
def Ziq(N:Nat):Sig:=Sig.of [.box Jag] [.v (.prod Jac Jq) true] (λd=>Zex N d.1)
def Zir:Fn:=⟨Tryz.f53,λ |3=>[.canon [0,2,3,4,12]]|4=>[.canon [0,2,3,4]]|5=>[.canon [0,2,3,4,5]]|6=>[.canon [0,2,3,4,5,16]]|7=>[.canon [0,2,3,4,5]]|8=>[.canon [0,2,3,4]]|100003=>[.adoptC 3 1 Ja,.canon [0,2,3,4]]|_=>[],Ziq,λN=>[(84,Zka N),(85,Zic N),(50,Zb0 N)]⟩
def Zqi(i4:Int)(b5:List Int×Int×Int)(b7:Int)(l8:List Int)(l9:List Int):St:=⟨[(0,vP 0 0),(2,vP 1 0),(3,vP 2 0),(4,vI i4)],[(0,.box [.val Jm b5.1,.val Ja b5.2.1,.val Ja b5.2.2]),(1,.box [.nils,.nils,.val Ja (0:Int)]),(2,.box [.own 3,.own 4,.val Ja b7]),(3,.arr Ja l8),(4,.arr Ja l9)],5⟩
def Zpp(b7:Int)(l8:List Int)(vm:Int)(bS:Bool)(bf:List Int×Int×Int)(dg:List Int):St:=⟨[(0,vP 0 0),(2,vP 1 0),(3,vP 2 0),(4,vI vm),(12,vB bS)],[(0,.box [.val Jm bf.1,.val Ja bf.2.1,.val Ja bf.2.2]),(1,.box [.nils,.nils,.val Ja (0:Int)]),(2,.box [.own 3,.own 4,.val Ja b7]),(3,.arr Ja l8),(4,.arr Ja dg)],5⟩
theorem Zqj(N:Nat){R:Type}(K:Ex->St->Option R){b7:Int}{l8:List Int}{K0:Int->Bool->Kg->Ki->Option R}(h0:K0= λvm bS bf dg=>K (.exit 0) (Zpp b7 l8 vm bS bf dg))(n:Nat)(i4:Int)(b5:List Int×Int×Int)(l9:List Int):Zch N b7 l8 K0 n i4 b5 l9=LM Zir N 0 100003 n (Zqi i4 b5 b7 l8 l9) K:=by
  subst h0
  induction n generalizing i4 b5 l9 with
  |zero=>kernel_rfl
  |succ n ih=>rw[Zch];simp only[ih];kernel_rfl
theorem Zw0(N:Nat)(c1:List Int×Int×Int):DN Zir N (c1,())=Zex N c1:=by
  conv=>rhs;rw[Zex];simp(disch:=exact id (by kernel_rfl)) only[Zqj (R:=Ks×(Kf×Unit)) N (CF Zir N [1,1,0,1,0])]
  kernel_rfl
theorem Zoj(N:Nat):GW 53 (Ziq N):=GF Zir N Tryz.func53 (GC (Ztw N) (GC (Zm6 N) (GC (Zdf N) Wa))) (λd=>Zw0 N d.1)
def Zk6(N:Nat):Sig:=Sig.of [.box Jag] [.v Ja false] (λd=>Za N d.1)
def Zvn:Fn:=⟨Tryz.f161,Wz,Zk6,λN=>[(70,Zaa N)]⟩
theorem Zvo(N:Nat):GW 161 (Zk6 N):=GF Zvn N Tryz.func161 (GC (Zag N) Wa)
def Zkb(N:Nat):Sig:=Sig.of [.box Jag] [.v Ja false] (λd=>Zby N d.1)
def Ztx:Fn:=⟨Tryz.f162,Wz,Zkb,λN=>[(50,Zb0 N),(70,Zaa N)]⟩
theorem Zty(N:Nat):GW 162 (Zkb N):=GF Ztx N Tryz.func162 (GC (Zdf N) (GC (Zag N) Wa))
def Zk7(N:Nat):Sig:=Sig.of [.box Jag] [.v Ja false] (λd=>Zi N d.1)
def Zvp:Fn:=⟨Tryz.f163,Wz,Zk7,λN=>[(50,Zb0 N),(70,Zaa N),(126,Zgf N)]⟩
theorem Zvq(N:Nat):GW 163 (Zk7 N):=GF Zvp N Tryz.func163 (GC (Zdf N) (GC (Zag N) (GC (Zk5 N) Wa)))
def Zjg(N:Nat):Sig:=Sig.of [.box Jag,.v Ja false] [.v Jx true] (λd=>Zh N d.1 d.2.1)
def Zxy:Fn:=⟨Tryz.f124,Wz,Zjg,λN=>[(161,Zk6 N),(85,Zic N),(162,Zkb N),(70,Zaa N),(163,Zk7 N)]⟩
theorem Zow(N:Nat):GW 124 (Zjg N):=GF Zxy N Tryz.func124 (GC (Zvo N) (GC (Zm6 N) (GC (Zty N) (GC (Zag N) (GC (Zvq N) Wa)))))
def Zkm(N m:Nat):Sig:=Sig.of [.box Jag,.v Ja false,.v Ja false,.v Jp false] [.v (.own Jx) false] (λd=>Zee N m d.1 d.2.1 d.2.2.1 d.2.2.2.1)
def Zqk(N:Nat):Sig:=Zkm N N
def Zln(m:Nat):Fn:=⟨Tryz.f82,λ |3=>[.canon [0,1,2,3,9,10,27]]|4=>[.canon [0,1,2,3,9,10]]|5=>[.canon [0,1,2,3,9,10,11]]|6=>[.canon [0,1,2,3,9,10]]|7=>[.canon [0,1,2,3,9,10,11,40]]|8=>[.canon [0,1,2,3,9,10]]|9=>[.canon [0,1,2,3,9,10,11,48]]|10=>[.canon [0,1,2,3,9,10]]|11=>[.canon [0,1,2,3,9,10,11,56]]|12=>[.canon [0,1,2,3,9,10]]|13=>[.canon [0,1,2,3,9,10,11,67]]|14=>[.canon [0,1,2,3,9,10,12]]|15=>[.canon [0,1,2,3,9,10,12]]|16=>[.canon [0,1,2,3,9,10]]|17=>[.canon [0,1,2,3,9,10,100]]|18=>[.canon [0,1,2,3,9,10]]|19=>[.canon [0,1,2,3,9,10]]|20=>[.canon [0,1,2,3,9,10,11,109]]|21=>[.canon [0,1,2,3,9,10,13]]|22=>[.canon [0,1,2,3,9,10,13,14]]|23=>[.canon [0,1,2,3,9,10,13,14]]|24=>[.canon [0,1,2,3,9,10,13]]|25=>[.canon [0,1,2,3,9,10]]|26=>[.canon [0,1,2,3,9,10,134]]|27=>[.canon [0,1,2,3,9,10]]|28=>[.canon [0,1,2,3,9,10,145]]|29=>[.canon [0,1,2,3,9,10]]|100003=>[.canon [0,1,2,3,9,10]]|_=>[],λN=>Zkm N (m+1),λN=>[(70,Zaa N),(124,Zjg N),(82,Zkm N m),(50,Zb0 N)]⟩
def Zvr(aj:Int)(am:Int)(aq:Bool)(n9:Int)(aI:List Int×Int×Int)(ao:List Ka):St:=⟨[(0,vP 0 0),(1,vI aj),(2,vI am),(3,vB aq),(9,vO 1),(10,vI n9)],[(0,.box [.val Jm aI.1,.val Ja aI.2.1,.val Ja aI.2.2]),(1,.arr Jx ao)],2⟩
def Ztz(aj:Int)(am:Int)(aq:Bool)(vn:Int)(vo:Bool)(sU:List Int×Int×Int)(vp:List Ka):St:=⟨[(0,vP 0 0),(1,vI aj),(2,vI am),(3,vB aq),(9,vO 1),(10,vI vn),(27,vB vo)],[(0,.box [.val Jm sU.1,.val Ja sU.2.1,.val Ja sU.2.2]),(1,.arr Jx vp)],2⟩
theorem Zvs(N m:Nat){R:Type}(K:Ex->St->Option R){aj:Int}{am:Int}{aq:Bool}{K0:Int->Bool->Kg->Kx->Option R}(h0:K0= λvn vo sU vp=>K (.exit 0) (Ztz aj am aq vn vo sU vp))(n:Nat)(n9:Int)(aI:List Int×Int×Int)(ao:List Ka):Zc N (Zee N m) aj am aq K0 n n9 aI ao=LM (Zln m) N 0 100003 n (Zvr aj am aq n9 aI ao) K:=by
  subst h0
  induction n generalizing n9 aI ao with
  |zero=>kernel_rfl
  |succ n ih=>rw[Zc];simp only[ih];kernel_rfl
theorem Z0b(N m:Nat)(c1:List Int×Int×Int)(bV:Int)(fF:Int)(jq:Bool):DN (Zln m) N (c1,bV,fF,jq,())=Zee N (m+1) c1 bV fF jq:=by
  conv=>rhs;rw[Zee];simp(disch:=exact id (by kernel_rfl)) only[Zvs (R:=Ks×(Kx×Unit)) N m (CF (Zln m) N [1,1,0,1,0])]
  kernel_rfl
theorem Zpj(N:Nat):∀m,GW 82 (Zkm N m)
  |0=>⟨Wd2 Tryz.func82 (show WpH Tryz.f82=true by kernel_rfl),λd o h=>nomatch (show none=some o from h)⟩
  |m+1=>GF (Zln m) N Tryz.func82 (GC (Zag N) (GC (Zow N) (GC (Zpj N m) (GC (Zdf N) Wa)))) (λd=>Z0b N m d.1 d.2.1 d.2.2.1 d.2.2.2.1)
theorem Z0c(N:Nat):GW 82 (Zqk N):=Zpj N N
def Zkn(N:Nat):Sig:=Sig.of [.box Jag,.v Jp false] [.v (.prod (.own Jx) (.own Jc)) true] (λd=>Zdq N d.1 d.2.1)
def Zko:Fn:=⟨Tryz.f49,λ |7=>[.canon [0,4,7,8,38]]|8=>[.canon [0,4,7,8]]|9=>[.canon [0,4,7,8]]|100007=>[.adoptC 7 1 Jc,.canon [0,4,7,8]]|_=>[],Zkn,λN=>[(70,Zaa N),(82,Zqk N)]⟩
def Zt0(iU:Int)(aU:List Int×Int×Int)(bq:List Ka)(aK:List Kx):St:=⟨[(0,vP 0 0),(4,vP 1 0),(7,vP 2 0),(8,vI iU)],[(0,.box [.val Jm aU.1,.val Ja aU.2.1,.val Ja aU.2.2]),(1,.box [.nils,.nils]),(2,.box [.own 3,.own 4]),(3,.arr Jx bq),(4,.arr Jc aK)],5⟩
def Zr6(bq:List Ka)(vq:Int)(eE:Bool)(db:List Int×Int×Int)(da:List Kx):St:=⟨[(0,vP 0 0),(4,vP 1 0),(7,vP 2 0),(8,vI vq),(38,vB eE)],[(0,.box [.val Jm db.1,.val Ja db.2.1,.val Ja db.2.2]),(1,.box [.nils,.nils]),(2,.box [.own 3,.own 4]),(3,.arr Jx bq),(4,.arr Jc da)],5⟩
theorem Zt1(N:Nat){R:Type}(K:Ex->St->Option R){bq:List Ka}{K0:Int->Bool->Kg->(List Kx)->Option R}(h0:K0= λvq eE db da=>K (.exit 0) (Zr6 bq vq eE db da))(n:Nat)(iU:Int)(aU:List Int×Int×Int)(aK:List Kx):Zfa N bq K0 n iU aU aK=LM Zko N 0 100007 n (Zt0 iU aU bq aK) K:=by
  subst h0
  induction n generalizing iU aU aK with
  |zero=>kernel_rfl
  |succ n ih=>rw[Zfa];simp only[ih];kernel_rfl
theorem Zy9(N:Nat)(c1:List Int×Int×Int)(fV:Bool):DN Zko N (c1,fV,())=Zdq N c1 fV:=by
  conv=>rhs;rw[Zdq];simp(disch:=exact id (by kernel_rfl)) only[Zt1 (R:=Ks×(Km×Unit)) N (CF Zko N [1,1,1,1,1,0,1,0])]
  kernel_rfl
theorem Zpk(N:Nat):GW 49 (Zkn N):=GF Zko N Tryz.func49 (GC (Zag N) (GC (Z0c N) Wa)) (λd=>Zy9 N d.1 d.2.1)
def Zmm(N:Nat):Sig:=Sig.of [.box Jag,.v Ja false,.v Ja false] [.v (.own Jl) false] (λd=>Zfw N d.1 d.2.1 d.2.2.1)
def Zjh:Fn:=⟨Tryz.f107,λ |4=>[.canon [0,1,2,7,8,9,14]]|5=>[.canon [0,1,2,7,8,9]]|6=>[.canon [0,1,2,7,8,9,18]]|7=>[.canon [0,1,2,7,8,9]]|8=>[.canon [0,1,2,7,8,9,10]]|9=>[.canon [0,1,2,7,8,9,10,25]]|10=>[.canon [0,1,2,7,8,9,10]]|11=>[.canon [0,1,2,7,8,9,10]]|12=>[.canon [0,1,2,7,8,9,10,31]]|13=>[.canon [0,1,2,7,8,9,10]]|14=>[.canon [0,1,2,7,8,9,10,35]]|15=>[.canon [0,1,2,7,8,9,10]]|16=>[.canon [0,1,2,7,8,9]]|100004=>[.canon [0,1,2,7,8,9]]|_=>[],Zmm,λN=>[(50,Zb0 N),(70,Zaa N)]⟩
def Zr7(n4:Int)(aB:Int)(bN:Int)(i7:Int)(b8:List Int×Int×Int)(l9:List Kb):St:=⟨[(0,vP 0 0),(1,vI n4),(2,vI aB),(7,vO 1),(8,vI bN),(9,vI i7)],[(0,.box [.val Jm b8.1,.val Ja b8.2.1,.val Ja b8.2.2]),(1,.arr Jl l9)],2⟩
def Zql(n4:Int)(aB:Int)(kD:Int)(sT:Int)(nZ:Bool)(fH:List Int×Int×Int)(fR:List Kb):St:=⟨[(0,vP 0 0),(1,vI n4),(2,vI aB),(7,vO 1),(8,vI kD),(9,vI sT),(14,vB nZ)],[(0,.box [.val Jm fH.1,.val Ja fH.2.1,.val Ja fH.2.2]),(1,.arr Jl fR)],2⟩
theorem Zr8(N:Nat){R:Type}(K:Ex->St->Option R){n4:Int}{aB:Int}{K0:Int->Int->Bool->Kg->Kr->Option R}(h0:K0= λkD sT nZ fH fR=>K (.exit 0) (Zql n4 aB kD sT nZ fH fR))(n:Nat)(bN:Int)(i7:Int)(b8:List Int×Int×Int)(l9:List Kb):Zz N n4 aB K0 n bN i7 b8 l9=LM Zjh N 0 100004 n (Zr7 n4 aB bN i7 b8 l9) K:=by
  subst h0
  induction n generalizing bN i7 b8 l9 with
  |zero=>kernel_rfl
  |succ n ih=>rw[Zz];simp only[ih];kernel_rfl
theorem Zxz(N:Nat)(c1:List Int×Int×Int)(n2:Int)(c7:Int):DN Zjh N (c1,n2,c7,())=Zfw N c1 n2 c7:=by
  conv=>rhs;rw[Zfw];simp(disch:=exact id (by kernel_rfl)) only[Zr8 (R:=Ks×Kab) N (CF Zjh N [1,1,1,0,1,0])]
  kernel_rfl
theorem Zx0(N:Nat):GW 107 (Zmm N):=GF Zjh N Tryz.func107 (GC (Zdf N) (GC (Zag N) Wa)) (λd=>Zxz N d.1 d.2.1 d.2.2.1)
def Zk8(N:Nat):Sig:=Sig.of [.box Jag,.v Ja false,.v Ja false] [.v (.prod (.prod Jac Jq) (.prod (.own Jk) (.own Jl))) true] (λd=>Zfx N d.1 d.2.1 d.2.2.1)
def Zid:Fn:=⟨Tryz.f69,λ |4=>[.canon [0,1,2,6,7,8,9,18]]|5=>[.canon [0,1,2,6,7,8,9]]|6=>[.canon [0,1,2,6,7,8,9]]|100004=>[.adoptC 7 3 Jk,.canon [0,1,2,6,7,8,9]]|_=>[],Zk8,λN=>[(53,Ziq N),(70,Zaa N),(49,Zkn N),(50,Zb0 N),(107,Zmm N)]⟩
def Zpq(dJ:Int)(bv:Int)(n8:Int)(i9:Int)(aI:List Int×Int×Int)(bK:Int)(aK:List Int)(bb:List Int)(bp:List Km):St:=⟨[(0,vP 0 0),(1,vI dJ),(2,vI bv),(6,vP 1 0),(7,vP 2 0),(8,vI n8),(9,vI i9)],[(0,.box [.val Jm aI.1,.val Ja aI.2.1,.val Ja aI.2.2]),(1,.box [.nils,.nils,.val Ja (0:Int),.nils,.nils]),(2,.box [.own 3,.own 4,.val Ja bK,.own 5,.nils]),(3,.arr Ja aK),(4,.arr Ja bb),(5,.arr Jk bp)],6⟩
def Zo6(dJ:Int)(bv:Int)(n8:Int)(bK:Int)(aK:List Int)(bb:List Int)(vt:Int)(t25:Bool)(fG:List Int×Int×Int)(cY:List Km):St:=⟨[(0,vP 0 0),(1,vI dJ),(2,vI bv),(6,vP 1 0),(7,vP 2 0),(8,vI n8),(9,vI vt),(18,vB t25)],[(0,.box [.val Jm fG.1,.val Ja fG.2.1,.val Ja fG.2.2]),(1,.box [.nils,.nils,.val Ja (0:Int),.nils,.nils]),(2,.box [.own 3,.own 4,.val Ja bK,.own 5,.nils]),(3,.arr Ja aK),(4,.arr Ja bb),(5,.arr Jk cY)],6⟩
theorem Zpr(N:Nat){R:Type}(K:Ex->St->Option R){dJ:Int}{bv:Int}{n8:Int}{bK:Int}{aK:List Int}{bb:List Int}{K0:Int->Bool->Kg->(List Km)->Option R}(h0:K0= λvt t25 fG cY=>K (.exit 0) (Zo6 dJ bv n8 bK aK bb vt t25 fG cY))(n:Nat)(i9:Int)(aI:List Int×Int×Int)(bp:List Km):Zbk N dJ bv n8 bK aK bb K0 n i9 aI bp=LM Zid N 0 100004 n (Zpq dJ bv n8 i9 aI bK aK bb bp) K:=by
  subst h0
  induction n generalizing i9 aI bp with
  |zero=>kernel_rfl
  |succ n ih=>rw[Zbk];simp only[ih];kernel_rfl
theorem Zvt(N:Nat)(c1:List Int×Int×Int)(ma:Int)(c7:Int):DN Zid N (c1,ma,c7,())=Zfx N c1 ma c7:=by
  conv=>rhs;rw[Zfx];simp(disch:=exact id (by kernel_rfl)) only[Zpr (R:=Ks×(Ky×Unit)) N (CF Zid N [1,1,1,0,1,0])]
  kernel_rfl
theorem Zvu(N:Nat):GW 69 (Zk8 N):=GF Zid N Tryz.func69 (GC (Zoj N) (GC (Zag N) (GC (Zpk N) (GC (Zdf N) (GC (Zx0 N) Wa))))) (λd=>Zvt N d.1 d.2.1 d.2.2.1)
def Zji(N:Nat):Sig:=Sig.of [.box Jag] [.v (.prod Jac Jq) true] (λd=>Zh6 N d.1)
def Zr9:Fn:=⟨Tryz.f54,Wz,Zji,λN=>[(53,Ziq N),(70,Zaa N)]⟩
theorem Zsa(N:Nat):GW 54 (Zji N):=GF Zr9 N Tryz.func54 (GC (Zoj N) (GC (Zag N) Wa))
def Znt(N:Nat):Sig:=Sig.of [.box Jag] [.v Jx true] (λd=>Zm2 N d.1)
def Z0d:Fn:=⟨Tryz.f125,Wz,Znt,λN=>[(70,Zaa N),(124,Zjg N),(126,Zgf N)]⟩
theorem Z0e(N:Nat):GW 125 (Znt N):=GF Z0d N Tryz.func125 (GC (Zag N) (GC (Zow N) (GC (Zk5 N) Wa)))
def Zm7(N:Nat):Sig:=Sig.of [.box Jag,.v Jc false] [.v (.own Jx) false] (λd=>Zgs N d.1 d.2.1)
def Zkp:Fn:=⟨Tryz.f83,λ |12=>[.view 49,.view 45]|14=>[.canon [0,5,58]]|15=>[.canon [0,5]]|100014=>[.canon [0,5]]|_=>[],Zm7,λN=>[(70,Zaa N),(125,Znt N)]⟩
def Zt2(b6:List Int×Int×Int)(l7:List Ka):St:=⟨[(0,vP 0 0),(5,vO 1)],[(0,.box [.val Jm b6.1,.val Ja b6.2.1,.val Ja b6.2.2]),(1,.arr Jx l7)],2⟩
def Zsb(t9:Bool)(aI:List Int×Int×Int)(ao:List Ka):St:=⟨[(0,vP 0 0),(5,vO 1),(58,vB t9)],[(0,.box [.val Jm aI.1,.val Ja aI.2.1,.val Ja aI.2.2]),(1,.arr Jx ao)],2⟩
theorem Zt3(N:Nat){R:Type}(K:Ex->St->Option R){K0:Bool->Kg->Kx->Option R}(h0:K0= λt9 aI ao=>K (.exit 1) (Zsb t9 aI ao))(n:Nat)(b6:List Int×Int×Int)(l7:List Ka):Zfb N K0 n b6 l7=LM Zkp N 0 100014 n (Zt2 b6 l7) K:=by
  subst h0
  induction n generalizing b6 l7 with
  |zero=>kernel_rfl
  |succ n ih=>rw[Zfb];simp only[ih];kernel_rfl
theorem Zza(N:Nat)(c1:List Int×Int×Int)(aa:List Ka):DN Zkp N (c1,aa,())=Zgs N c1 aa:=by
  conv=>rhs;rw[Zgs];simp(disch:=exact id (by kernel_rfl)) only[Zt3 (R:=Ks×(Kx×Unit)) N (CF Zkp N [1,1,1,1,0,1,0,1,1,1,1,1,1,1,0,0])]
  kernel_rfl
theorem Zzb(N:Nat):GW 83 (Zm7 N):=GF Zkp N Tryz.func83 (GC (Zag N) (GC (Z0e N) Wa)) (λd=>Zza N d.1 d.2.1)
def Zk9(N:Nat):Sig:=Sig.of [.box Jag] [.v (.prod (.own Jx) (.own Jc)) true] (λd=>Zje N d.1)
def Zvv:Fn:=⟨Tryz.f51,Wz,Zk9,λN=>[(50,Zb0 N),(49,Zkn N),(70,Zaa N),(83,Zm7 N)]⟩
theorem Zvw(N:Nat):GW 51 (Zk9 N):=GF Zvv N Tryz.func51 (GC (Zdf N) (GC (Zpk N) (GC (Zag N) (GC (Zzb N) Wa))))
def Zm8(N:Nat):Sig:=Sig.of [.box Jag,.v Ja false] [.v (.prod (.prod Jac Jq) (.prod (.own Jk) (.own Jl))) true] (λd=>Zhy N d.1 d.2.1)
def Zgm:Fn:=⟨Tryz.f33,λ |8=>[.canon [0,4,5,28]]|9=>[.canon [0,4,5]]|13=>[.canon [0,4,5,55]]|14=>[.canon [0,4,5]]|100008=>[.canon [0,4,5]]|100013=>[.canon [0,4,5]]|_=>[],Zm8,λN=>[(69,Zk8 N),(70,Zaa N),(54,Zji N),(51,Zk9 N)]⟩
def Zt4(b7:List Int×Int×Int)(b9:Int)(jr:List Int)(ao:List Int)(bq:List Km)(aK:List Kb):St:=⟨[(0,vP 0 0),(4,vP 1 0),(5,vP 2 0)],[(0,.box [.val Jm b7.1,.val Ja b7.2.1,.val Ja b7.2.2]),(1,.box [.nils,.nils,.val Ja (0:Int),.nils,.nils]),(2,.box [.own 3,.own 4,.val Ja b9,.own 5,.own 6]),(3,.arr Ja jr),(4,.arr Ja ao),(5,.arr Jk bq),(6,.arr Jl aK)],7⟩
def Zsc(b7:List Int×Int×Int)(b9:Int)(jr:List Int)(ao:List Int)(aK:List Kb)(gG:Bool)(bp:List Km):St:=⟨[(0,vP 0 0),(4,vP 1 0),(5,vP 2 0),(28,vB gG)],[(0,.box [.val Jm b7.1,.val Ja b7.2.1,.val Ja b7.2.2]),(1,.box [.nils,.nils,.val Ja (0:Int),.nils,.nils]),(2,.box [.own 3,.own 4,.val Ja b9,.own 5,.own 6]),(3,.arr Ja jr),(4,.arr Ja ao),(5,.arr Jk bp),(6,.arr Jl aK)],7⟩
theorem Zt5(N:Nat){R:Type}(K:Ex->St->Option R){b7:List Int×Int×Int}{b9:Int}{jr:List Int}{ao:List Int}{aK:List Kb}{K0:Bool->(List Km)->Option R}(h0:K0= λgG bp=>K (.exit 1) (Zsc b7 b9 jr ao aK gG bp))(n:Nat)(bq:List Km):Zfc N b7 b9 jr ao aK K0 n bq=LM Zgm N 0 100008 n (Zt4 b7 b9 jr ao bq aK) K:=by
  subst h0
  induction n generalizing bq with
  |zero=>kernel_rfl
  |succ n ih=>rw[Zfc];simp only[ih];kernel_rfl
def Zt6(db:List Int×Int×Int)(dF:Int)(cX:List Int)(bU:List Int)(cM:List Km)(dc:List Kb):St:=⟨[(0,vP 0 0),(4,vP 1 0),(5,vP 2 0)],[(0,.box [.val Jm db.1,.val Ja db.2.1,.val Ja db.2.2]),(1,.box [.nils,.nils,.val Ja (0:Int),.nils,.nils]),(2,.box [.own 3,.own 4,.val Ja dF,.own 5,.own 6]),(3,.arr Ja cX),(4,.arr Ja bU),(5,.arr Jk cM),(6,.arr Jl dc)],7⟩
def Zsd(dF:Int)(cX:List Int)(bU:List Int)(cM:List Km)(sM:Bool)(fI:List Int×Int×Int)(sN:List Kb):St:=⟨[(0,vP 0 0),(4,vP 1 0),(5,vP 2 0),(55,vB sM)],[(0,.box [.val Jm fI.1,.val Ja fI.2.1,.val Ja fI.2.2]),(1,.box [.nils,.nils,.val Ja (0:Int),.nils,.nils]),(2,.box [.own 3,.own 4,.val Ja dF,.own 5,.own 6]),(3,.arr Ja cX),(4,.arr Ja bU),(5,.arr Jk cM),(6,.arr Jl sN)],7⟩
theorem Zt7(N:Nat){R:Type}(K:Ex->St->Option R){dF:Int}{cX:List Int}{bU:List Int}{cM:List Km}{K0:Bool->Kg->Kr->Option R}(h0:K0= λsM fI sN=>K (.exit 3) (Zsd dF cX bU cM sM fI sN))(n:Nat)(db:List Int×Int×Int)(dc:List Kb):Zfd N dF cX bU cM K0 n db dc=LM Zgm N 1 100013 n (Zt6 db dF cX bU cM dc) K:=by
  subst h0
  induction n generalizing db dc with
  |zero=>kernel_rfl
  |succ n ih=>rw[Zfd];simp only[ih];kernel_rfl
theorem Zzc(N:Nat)(c1:List Int×Int×Int)(bV:Int):DN Zgm N (c1,bV,())=Zhy N c1 bV:=by
  conv=>rhs;rw[Zhy];simp(disch:=exact id (by kernel_rfl)) only[Zt5 (R:=Ks×(Ky×Unit)) N (CF Zgm N [1,1,0,1,0,1,1,1,1,1,0,0]),Zt7 (R:=Ks×(Ky×Unit)) N (CF Zgm N [1,1,0,1,0,1,1,1,1,1,1,1,1,1,0,0])]
  kernel_rfl
theorem Zzd(N:Nat):GW 33 (Zm8 N):=GF Zgm N Tryz.func33 (GC (Zvu N) (GC (Zag N) (GC (Zsa N) (GC (Zvw N) Wa)))) (λd=>Zzc N d.1 d.2.1)
def Zlz(N:Nat):Sig:=Sig.of [.v Jm false] [.v Jr true] (λd=>Zkj N d.1)
def Zw1:Fn:=⟨Tryz.f29,Wz,Zlz,λN=>[(32,Zns N),(34,Zm4 N),(33,Zm8 N)]⟩
theorem Zw2(N:Nat):GW 29 (Zlz N):=GF Zw1 N Tryz.func29 (GC (Z0a N) (GC (Zy4 N) (GC (Zzd N) Wa)))
def Zgu(N:Nat):Sig:=Sig.of [.v Ja false,.v Ja false,.v Ja false] [.v Jp false] (λd=>Zbo N d.1 d.2.1 d.2.2.1)
def Z0y:Fn:=⟨Tryz.f60,Wz,Zgu,Wbd⟩
theorem Zj6(N:Nat):GW 60 (Zgu N):=GF Z0y N Tryz.func60 Wa
def Zi5(N:Nat):Sig:=Sig.of [.v Ja false] [.v Jp false] (λd=>Zg8 N d.1)
def Z0f:Fn:=⟨Tryz.f59,Wz,Zi5,λN=>[(60,Zgu N)]⟩
theorem Znu(N:Nat):GW 59 (Zi5 N):=GF Z0f N Tryz.func59 (GC (Zj6 N) Wa)
def Zm9(N:Nat):Sig:=Sig.of [.v Jj false] [.v Jp false] (λd=>Zhw N d.1)
def Zkq:Fn:=⟨Tryz.f58,λ |4=>[.canon [0,3,10]]|5=>[.canon [0,3]]|6=>[.canon [0,3,18]]|7=>[.canon [2]]|100004=>[.canon [0,3]]|_=>[],Zm9,λN=>[(59,Zi5 N)]⟩
def Zt8(l2:List Int)(i3:Int):St:=⟨[(0,vV Jj l2),(3,vI i3)],[],0⟩
def Zse(l2:List Int):St:=⟨[(2,vB false)],[],0⟩
def Zsf(l2:List Int)(i5:Int)(t6:Bool):St:=⟨[(0,vV Jj l2),(3,vI i5),(10,vB t6)],[],0⟩
theorem Zt9(N:Nat){R:Type}(K:Ex->St->Option R){l2:List Int}{K0:Option R}{K1:Int->Bool->Option R}(h0:K0=K .ret (Zse l2))(h1:K1= λi5 t6=>K (.exit 0) (Zsf l2 i5 t6))(n:Nat)(i3:Int):Zc3 N l2 K0 K1 n i3=LM Zkq N 0 100004 n (Zt8 l2 i3) K:=by
  subst h0 h1
  induction n generalizing i3 with
  |zero=>kernel_rfl
  |succ n ih=>rw[Zc3];simp only[ih];kernel_rfl
theorem Zze(N:Nat)(l1:List Int):DN Zkq N (l1,())=Zhw N l1:=by
  conv=>rhs;rw[Zhw];simp(disch:=exact id (by kernel_rfl)) only[Zt9 (R:=Unit×Ko) N (CF Zkq N [1,1,0,1,0])]
  kernel_rfl
theorem Zzf(N:Nat):GW 58 (Zm9 N):=GF Zkq N Tryz.func58 (GC (Znu N) Wa) (λd=>Zze N d.1)
def Zl0(N:Nat):Sig:=Sig.of [.v (.prod Jj Jae) true] [.v Jp false] (λd=>Zgk N d.1)
def Zis:Fn:=⟨Tryz.f23,λ |4=>[.canon [1,3,24]]|5=>[.canon [1,3]]|6=>[.canon [1,3,33]]|7=>[.canon [2]]|100004=>[.canon [1,3]]|_=>[],Zl0,λN=>[(58,Zm9 N),(59,Zi5 N),(60,Zgu N)]⟩
def Zqm(i4:Int)(b5:List Int×List Int×Int):St:=⟨[(1,vP 0 0),(3,vI i4)],[(0,.box [.val Jj b5.1,.val Jj b5.2.1,.val Ja b5.2.2])],1⟩
def Zps(b5:List Int×List Int×Int):St:=⟨[(2,vB false)],[],0⟩
def Zpt(b5:List Int×List Int×Int)(i7:Int)(t8:Bool):St:=⟨[(1,vP 0 0),(3,vI i7),(24,vB t8)],[(0,.box [.val Jj b5.1,.val Jj b5.2.1,.val Ja b5.2.2])],1⟩
theorem Zqn(N:Nat){R:Type}(K:Ex->St->Option R){b5:List Int×List Int×Int}{K0:Option R}{K1:Int->Bool->Option R}(h0:K0=K .ret (Zps b5))(h1:K1= λi7 t8=>K (.exit 0) (Zpt b5 i7 t8))(n:Nat)(i4:Int):Zbr N b5 K0 K1 n i4=LM Zis N 0 100004 n (Zqm i4 b5) K:=by
  subst h0 h1
  induction n generalizing i4 with
  |zero=>kernel_rfl
  |succ n ih=>rw[Zbr];simp only[ih];kernel_rfl
theorem Zw3(N:Nat)(s1:List Int×List Int×Int):DN Zis N (s1,())=Zgk N s1:=by
  conv=>rhs;rw[Zgk];simp(disch:=exact id (by kernel_rfl)) only[Zqn (R:=Unit×Ko) N (CF Zis N [1,1,0,1,0])]
  kernel_rfl
theorem Zw4(N:Nat):GW 23 (Zl0 N):=GF Zis N Tryz.func23 (GC (Zzf N) (GC (Znu N) (GC (Zj6 N) Wa))) (λd=>Zw3 N d.1)
def Znv(N:Nat):Sig:=Sig.of [.v Ja false] [.v Jp false] (λd=>Zr N d.1)
def Z0g:Fn:=⟨Tryz.f127,Wz,Znv,λN=>[(60,Zgu N)]⟩
theorem Z0h(N:Nat):GW 127 (Znv N):=GF Z0g N Tryz.func127 (GC (Zj6 N) Wa)
def Zna(N:Nat):Sig:=Sig.of [.v Ja false] [.v Jp false] (λd=>Zgp N d.1)
def Zzg:Fn:=⟨Tryz.f128,Wz,Zna,λN=>[(60,Zgu N)]⟩
theorem Zzh(N:Nat):GW 128 (Zna N):=GF Zzg N Tryz.func128 (GC (Zj6 N) Wa)
def Zmd(N:Nat):Sig:=Sig.of [.v Jx true] [.v Jp false] (λd=>Zp N d.1)
def Z0z:Fn:=⟨Tryz.f86,Wz,Zmd,λN=>[(127,Znv N),(59,Zi5 N),(128,Zna N),(60,Zgu N)]⟩
theorem Zts(N:Nat):GW 86 (Zmd N):=GF Z0z N Tryz.func86 (GC (Z0h N) (GC (Znu N) (GC (Zzh N) (GC (Zj6 N) Wa))))
def Znb(N:Nat):Sig:=Sig.of [.v Jc false,.v Ja false] [.v Jp false] (λd=>Zhx N d.1 d.2.1)
def Zkr:Fn:=⟨Tryz.f87,λ |6=>[.canon [0,5,6,7,24]]|7=>[.canon [0,5,6,7]]|8=>[.canon [0,5,6,7,32]]|9=>[.canon [0,5,6,7]]|10=>[.canon [0,5,6,7,40]]|11=>[.canon [0,5,6,7]]|12=>[.canon [0,5,6,7,44]]|13=>[.canon [4]]|100006=>[.canon [0,5,6,7]]|_=>[],Znb,Wbd⟩
def Zua(ae:List Ka)(gP:Int)(d5:Int)(k6:Int):St:=⟨[(0,vV Jc ae),(5,vI gP),(6,vI d5),(7,vI k6)],[],0⟩
def Zsg(ae:List Ka)(gP:Int):St:=⟨[(4,vB false)],[],0⟩
def Zsh(ae:List Ka)(gP:Int)(d7:Int)(k8:Int)(t9:Bool):St:=⟨[(0,vV Jc ae),(5,vI gP),(6,vI d7),(7,vI k8),(24,vB t9)],[],0⟩
theorem Zub(N:Nat){R:Type}(K:Ex->St->Option R){ae:List Ka}{gP:Int}{K0:Option R}{K1:Int->Int->Bool->Option R}(h0:K0=K .ret (Zsg ae gP))(h1:K1= λd7 k8 t9=>K (.exit 0) (Zsh ae gP d7 k8 t9))(n:Nat)(d5:Int)(k6:Int):Za7 N ae gP K0 K1 n d5 k6=LM Zkr N 0 100006 n (Zua ae gP d5 k6) K:=by
  subst h0 h1
  induction n generalizing d5 k6 with
  |zero=>kernel_rfl
  |succ n ih=>rw[Za7];simp only[ih];kernel_rfl
theorem Zzi(N:Nat)(ad:List Ka)(i2:Int):DN Zkr N (ad,i2,())=Zhx N ad i2:=by
  conv=>rhs;rw[Zhx];simp(disch:=exact id (by kernel_rfl)) only[Zub (R:=Unit×Ko) N (CF Zkr N [1,1,1,1,0,1,0])]
  kernel_rfl
theorem Zzj(N:Nat):GW 87 (Znb N):=GF Zkr N Tryz.func87 Wa (λd=>Zzi N d.1 d.2.1)
def Zks(N:Nat):Sig:=Sig.of [.v Jc false] [.v Jp false] (λd=>Zgq N d.1)
def Zkt:Fn:=⟨Tryz.f55,λ |6=>[.canon [0,3,4,5,12]]|7=>[.canon [0,3,4,5]]|8=>[.canon [0,3,4,5,20]]|9=>[.canon [2]]|10=>[.canon [0,3,4,5,25]]|11=>[.canon [0,3,4,5,25,26]]|12=>[.canon [0,3,4,5]]|13=>[.canon [0,3,4,5,25,30]]|14=>[.canon [0,3,4,5]]|15=>[.canon [0,3,4,5,25,34]]|16=>[.canon [0,3,4,5,39]]|17=>[.canon [2]]|18=>[.canon [0,3,4,5,40]]|19=>[.canon [0,3,4,5]]|20=>[.canon [0,3,4,5,49]]|21=>[.canon [2]]|22=>[.canon [0,3,4,5,51]]|23=>[.canon [2]]|100006=>[.canon [0,3,4,5]]|_=>[],Zks,λN=>[(86,Zmd N),(87,Znb N)]⟩
def Zuc(aa:List Ka)(d3:Int)(ax:Int)(i5:Int):St:=⟨[(0,vV Jc aa),(3,vI d3),(4,vI ax),(5,vI i5)],[],0⟩
def Zsi(aa:List Ka):St:=⟨[(2,vB false)],[],0⟩
def Zsj(aa:List Ka)(d8:Int)(iy:Int)(kZ:Int)(aL:Bool):St:=⟨[(0,vV Jc aa),(3,vI d8),(4,vI iy),(5,vI kZ),(12,vB aL)],[],0⟩
theorem Zud(N:Nat){R:Type}(K:Ex->St->Option R){aa:List Ka}{K0:Option R}{K1:Int->Int->Int->Bool->Option R}(h0:K0=K .ret (Zsi aa))(h1:K1= λd8 iy kZ aL=>K (.exit 0) (Zsj aa d8 iy kZ aL))(n:Nat)(d3:Int)(ax:Int)(i5:Int):Za8 N aa K0 K1 n d3 ax i5=LM Zkt N 0 100006 n (Zuc aa d3 ax i5) K:=by
  subst h0 h1
  induction n generalizing d3 ax i5 with
  |zero=>kernel_rfl
  |succ n ih=>rw[Za8];simp only[ih];kernel_rfl
theorem Zzk(N:Nat)(ad:List Ka):DN Zkt N (ad,())=Zgq N ad:=by
  conv=>rhs;rw[Zgq];simp(disch:=exact id (by kernel_rfl)) only[Zud (R:=Unit×Ko) N (CF Zkt N [1,1,1,1,0,1,0])]
  kernel_rfl
theorem Zpl(N:Nat):GW 55 (Zks N):=GF Zkt N Tryz.func55 (GC (Zts N) (GC (Zzj N) Wa)) (λd=>Zzk N d.1)
def Zjj(N:Nat):Sig:=Sig.of [.v Jc false] [.v Jp false] (λd=>Zfu N d.1)
def Zjk:Fn:=⟨Tryz.f56,λ |2=>[.canon [0,3,7]]|3=>[.canon [0,3]]|4=>[.canon [0,3,15]]|5=>[.canon [2]]|100002=>[.canon [0,3]]|_=>[],Zjj,Wbd⟩
def Zsk(aa:List Ka)(i3:Int):St:=⟨[(0,vV Jc aa),(3,vI i3)],[],0⟩
def Zqo(aa:List Ka):St:=⟨[(2,vB true)],[],0⟩
def Zqp(aa:List Ka)(i4:Int)(t5:Bool):St:=⟨[(0,vV Jc aa),(3,vI i4),(7,vB t5)],[],0⟩
theorem Zsl(N:Nat){R:Type}(K:Ex->St->Option R){aa:List Ka}{K0:Option R}{K1:Int->Bool->Option R}(h0:K0=K .ret (Zqo aa))(h1:K1= λi4 t5=>K (.exit 0) (Zqp aa i4 t5))(n:Nat)(i3:Int):Zcm N aa K0 K1 n i3=LM Zjk N 0 100002 n (Zsk aa i3) K:=by
  subst h0 h1
  induction n generalizing i3 with
  |zero=>kernel_rfl
  |succ n ih=>rw[Zcm];simp only[ih];kernel_rfl
theorem Zx1(N:Nat)(ad:List Ka):DN Zjk N (ad,())=Zfu N ad:=by
  conv=>rhs;rw[Zfu];simp(disch:=exact id (by kernel_rfl)) only[Zsl (R:=Unit×Ko) N (CF Zjk N [1,0,1,0])]
  kernel_rfl
theorem Zox(N:Nat):GW 56 (Zjj N):=GF Zjk N Tryz.func56 Wa (λd=>Zx1 N d.1)
def Zmn(N:Nat):Sig:=Sig.of [.v Jx true] [.v Ja false] (λd=>Zb8 N d.1)
def Zx2:Fn:=⟨Tryz.f88,Wz,Zmn,λN=>[(86,Zmd N)]⟩
theorem Zx3(N:Nat):GW 88 (Zmn N):=GF Zx2 N Tryz.func88 (GC (Zts N) Wa)
def Znw(N:Nat):Sig:=Sig.of [.v Jc false] [.v Jp false] (λd=>Zg9 N d.1)
def Zlo:Fn:=⟨Tryz.f57,λ |4=>[.canon [0,3,14]]|5=>[.canon [0,3]]|6=>[.canon [0,3,22]]|7=>[.canon [2]]|100004=>[.canon [0,3]]|_=>[],Znw,λN=>[(55,Zks N),(56,Zjj N),(88,Zmn N)]⟩
def Zvx(az:List Ka)(i5:Int):St:=⟨[(0,vV Jc az),(3,vI i5)],[],0⟩
def Zue(az:List Ka):St:=⟨[(2,vB false)],[],0⟩
def Zuf(az:List Ka)(i7:Int)(t8:Bool):St:=⟨[(0,vV Jc az),(3,vI i7),(14,vB t8)],[],0⟩
theorem Zvy(N:Nat){R:Type}(K:Ex->St->Option R){az:List Ka}{K0:Option R}{K1:Int->Bool->Option R}(h0:K0=K .ret (Zue az))(h1:K1= λi7 t8=>K (.exit 0) (Zuf az i7 t8))(n:Nat)(i5:Int):Zdz N az K0 K1 n i5=LM Zlo N 0 100004 n (Zvx az i5) K:=by
  subst h0 h1
  induction n generalizing i5 with
  |zero=>kernel_rfl
  |succ n ih=>rw[Zdz];simp only[ih];kernel_rfl
theorem Z0i(N:Nat)(ad:List Ka):DN Zlo N (ad,())=Zg9 N ad:=by
  conv=>rhs;rw[Zg9];simp(disch:=exact id (by kernel_rfl)) only[Zvy (R:=Unit×Ko) N (CF Zlo N [1,1,0,1,0])]
  kernel_rfl
theorem Z0j(N:Nat):GW 57 (Znw N):=GF Zlo N Tryz.func57 (GC (Zpl N) (GC (Zox N) (GC (Zx3 N) Wa))) (λd=>Z0i N d.1)
def Znc(N:Nat):Sig:=Sig.of [.v Jk true] [.v Jp false] (λd=>Zgt N d.1)
def Zku:Fn:=⟨Tryz.f22,λ |4=>[.canon [1,3,28]]|5=>[.canon [1,3]]|6=>[.canon [1,3,38]]|7=>[.canon [2]]|100004=>[.canon [1,3]]|_=>[],Znc,λN=>[(55,Zks N),(56,Zjj N),(57,Znw N)]⟩
def Zug(i4:Int)(b5:List Ka×List Kx):St:=⟨[(1,vP 0 0),(3,vI i4)],[(0,.box [.val Jc b5.1,.val (.slice Jc) b5.2])],1⟩
def Zsm(b5:List Ka×List Kx):St:=⟨[(2,vB false)],[],0⟩
def Zsn(b5:List Ka×List Kx)(i7:Int)(t8:Bool):St:=⟨[(1,vP 0 0),(3,vI i7),(28,vB t8)],[(0,.box [.val Jc b5.1,.val (.slice Jc) b5.2])],1⟩
theorem Zuh(N:Nat){R:Type}(K:Ex->St->Option R){b5:List Ka×List Kx}{K0:Option R}{K1:Int->Bool->Option R}(h0:K0=K .ret (Zsm b5))(h1:K1= λi7 t8=>K (.exit 0) (Zsn b5 i7 t8))(n:Nat)(i4:Int):Zcb N b5 K0 K1 n i4=LM Zku N 0 100004 n (Zug i4 b5) K:=by
  subst h0 h1
  induction n generalizing i4 with
  |zero=>kernel_rfl
  |succ n ih=>rw[Zcb];simp only[ih];kernel_rfl
theorem Zzl(N:Nat)(p1:List Ka×List Kx):DN Zku N (p1,())=Zgt N p1:=by
  conv=>rhs;rw[Zgt];simp(disch:=exact id (by kernel_rfl)) only[Zuh (R:=Unit×Ko) N (CF Zku N [1,1,0,1,0])]
  kernel_rfl
theorem Zzm(N:Nat):GW 22 (Znc N):=GF Zku N Tryz.func22 (GC (Zpl N) (GC (Zox N) (GC (Z0j N) Wa))) (λd=>Zzl N d.1)
def Zl1(N:Nat):Sig:=Sig.of [.v Jr true] [.v Jp false] (λd=>Zgl N d.1)
def Zit:Fn:=⟨Tryz.f12,λ |4=>[.canon [1,3,24]]|5=>[.canon [1,3]]|6=>[.canon [1,3,33]]|7=>[.canon [2]]|100004=>[.canon [1,3]]|_=>[],Zl1,λN=>[(23,Zl0 N),(22,Znc N)]⟩
def Zqq(i3:Int)(b4:Kf×List Km×List Kb):St:=⟨[(1,vP 0 0),(3,vI i3)],[(0,.box [.val Jj b4.1.1,.val Jj b4.1.2.1,.val Ja b4.1.2.2,.val Jaa b4.2.1,.val Je b4.2.2])],1⟩
def Zpu(b4:Kf×List Km×List Kb):St:=⟨[(2,vB false)],[],0⟩
def Zpv(b4:Kf×List Km×List Kb)(i6:Int)(t7:Bool):St:=⟨[(1,vP 0 0),(3,vI i6),(24,vB t7)],[(0,.box [.val Jj b4.1.1,.val Jj b4.1.2.1,.val Ja b4.1.2.2,.val Jaa b4.2.1,.val Je b4.2.2])],1⟩
theorem Zqr(N:Nat){R:Type}(K:Ex->St->Option R){b4:Kf×List Km×List Kb}{K0:Option R}{K1:Int->Bool->Option R}(h0:K0=K .ret (Zpu b4))(h1:K1= λi6 t7=>K (.exit 0) (Zpv b4 i6 t7))(n:Nat)(i3:Int):Zbs N b4 K0 K1 n i3=LM Zit N 0 100004 n (Zqq i3 b4) K:=by
  subst h0 h1
  induction n generalizing i3 with
  |zero=>kernel_rfl
  |succ n ih=>rw[Zbs];simp only[ih];kernel_rfl
theorem Zw5(N:Nat)(s1:Kf×List Km×List Kb):DN Zit N (s1,())=Zgl N s1:=by
  conv=>rhs;rw[Zgl];simp(disch:=exact id (by kernel_rfl)) only[Zqr (R:=Unit×Ko) N (CF Zit N [1,1,0,1,0])]
  kernel_rfl
theorem Zw6(N:Nat):GW 12 (Zl1 N):=GF Zit N Tryz.func12 (GC (Zw4 N) (GC (Zzm N) Wa)) (λd=>Zw5 N d.1)
def Zpw(N:Nat):Sig:=Sig.of [.v Jm false,.v Ja false] [.v Ja false] (λd=>Zej N d.1 d.2.1)
def Z1f:Fn:=⟨Tryz.f30,Wz,Zpw,Wbd⟩
theorem Z1g(N:Nat):GW 30 (Zpw N):=GF Z1f N Tryz.func30 Wa
def Z5(N:Nat):Sig:=Sig.of [.v Ja false,.v Ja false,.v Ja false] [.v Jp false] (λd=>Zm N d.1 d.2.1 d.2.2.1)
def Zzn:Fn:=⟨Tryz.f44,Wz,Z5,Wbd⟩
theorem Zad(N:Nat):GW 44 (Z5 N):=GF Zzn N Tryz.func44 Wa
def Za5(N:Nat):Sig:=Sig.of [.v Ja false] [.v Jp false] (λd=>Zaz N d.1)
def Zx4:Fn:=⟨Tryz.f76,Wz,Za5,λN=>[(44,Z5 N)]⟩
theorem Zbq(N:Nat):GW 76 (Za5 N):=GF Zx4 N Tryz.func76 (GC (Zad N) Wa)
def Zcs(N:Nat):Sig:=Sig.of [.v Jj false,.v Ja false] [.v Jp false] (λd=>Zak N d.1 d.2.1)
def Zie:Fn:=⟨Tryz.f81,λ |2=>[.canon [0,1,7,8,9,10]]|3=>[.canon [0,1,6,7,8,9]]|4=>[.canon [0,1,7,8,9,15]]|5=>[.canon [4]]|6=>[.canon [0,1,7,8,9]]|100002=>[.canon [0,1,7,8,9]]|_=>[],Zcs,λN=>[(76,Za5 N)]⟩
def Zpx(l3:List Int)(n4:Int)(t7:Int):St:=⟨[(0,vV Jj l3),(1,vI n4),(7,vV Jj l3),(8,vI (Wb l3)),(9,vI t7)],[],0⟩
def Zo7(l3:List Int)(n4:Int):St:=⟨[(4,vB false)],[],0⟩
def Zo8(l3:List Int)(n4:Int)(aA:Int)(aL:Bool):St:=⟨[(0,vV Jj l3),(1,vI n4),(7,vV Jj l3),(8,vI (Wb l3)),(9,vI aA),(10,vB aL)],[],0⟩
theorem Zpy(N:Nat){R:Type}(K:Ex->St->Option R){l3:List Int}{n4:Int}{K0:Option R}{K1:Int->Bool->Option R}(h0:K0=K .ret (Zo7 l3 n4))(h1:K1= λaA aL=>K (.exit 0) (Zo8 l3 n4 aA aL))(n:Nat)(t7:Int):Za2 N l3 n4 K0 K1 n t7=LM Zie N 0 100002 n (Zpx l3 n4 t7) K:=by
  subst h0 h1
  induction n generalizing t7 with
  |zero=>kernel_rfl
  |succ n ih=>rw[Za2];simp only[ih];kernel_rfl
theorem Zvz(N:Nat)(l1:List Int)(n2:Int):DN Zie N (l1,n2,())=Zak N l1 n2:=by
  conv=>rhs;rw[Zak];simp(disch:=exact id (by kernel_rfl)) only[Zpy (R:=Unit×Ko) N (CF Zie N [1,0,1,0])]
  kernel_rfl
theorem Zgg(N:Nat):GW 81 (Zcs N):=GF Zie N Tryz.func81 (GC (Zbq N) Wa) (λd=>Zvz N d.1 d.2.1)
def Zlp(N:Nat):Sig:=Sig.of [.v Jj false] [.v Jp false] (λd=>Zhc N d.1)
def Zlq:Fn:=⟨Tryz.f78,λ |2=>[.canon [0,5,6,7,8]]|3=>[.canon [0,4,5,6,7]]|4=>[.canon [0,5,6,7,13]]|5=>[.canon [2]]|6=>[.canon [0,5,6,7]]|100002=>[.canon [0,5,6,7]]|_=>[],Zlp,λN=>[(44,Z5 N)]⟩
def Zv0(l2:List Int)(t5:Int):St:=⟨[(0,vV Jj l2),(5,vV Jj l2),(6,vI (Wb l2)),(7,vI t5)],[],0⟩
def Zui(l2:List Int):St:=⟨[(2,vB false)],[],0⟩
def Zuj(l2:List Int)(t8:Int)(t9:Bool):St:=⟨[(0,vV Jj l2),(5,vV Jj l2),(6,vI (Wb l2)),(7,vI t8),(8,vB t9)],[],0⟩
theorem Zv1(N:Nat){R:Type}(K:Ex->St->Option R){l2:List Int}{K0:Option R}{K1:Int->Bool->Option R}(h0:K0=K .ret (Zui l2))(h1:K1= λt8 t9=>K (.exit 0) (Zuj l2 t8 t9))(n:Nat)(t5:Int):Zd4 N l2 K0 K1 n t5=LM Zlq N 0 100002 n (Zv0 l2 t5) K:=by
  subst h0 h1
  induction n generalizing t5 with
  |zero=>kernel_rfl
  |succ n ih=>rw[Zd4];simp only[ih];kernel_rfl
theorem Z0k(N:Nat)(l1:List Int):DN Zlq N (l1,())=Zhc N l1:=by
  conv=>rhs;rw[Zhc];simp(disch:=exact id (by kernel_rfl)) only[Zv1 (R:=Unit×Ko) N (CF Zlq N [1,0,1,0])]
  kernel_rfl
theorem Zqs(N:Nat):GW 78 (Zlp N):=GF Zlq N Tryz.func78 (GC (Zad N) Wa) (λd=>Z0k N d.1)
def Zl2(N:Nat):Sig:=Sig.of [.v (.prod Jj Jae) true] [.v Jp false] (λd=>Zkk N d.1)
def Zw7:Fn:=⟨Tryz.f63,Wz,Zl2,λN=>[(81,Zcs N),(78,Zlp N),(76,Za5 N)]⟩
theorem Zw8(N:Nat):GW 63 (Zl2 N):=GF Zw7 N Tryz.func63 (GC (Zgg N) (GC (Zqs N) (GC (Zbq N) Wa)))
def Znx(N:Nat):Sig:=Sig.of [.v Ja false] [.v Jp false] (λd=>Zs N d.1)
def Z0l:Fn:=⟨Tryz.f164,Wz,Znx,λN=>[(44,Z5 N)]⟩
theorem Z0m(N:Nat):GW 164 (Znx N):=GF Z0l N Tryz.func164 (GC (Zad N) Wa)
def Zb1(N:Nat):Sig:=Sig.of [.v Ja false] [.v Jp false] (λd=>Zba N d.1)
def Zzo:Fn:=⟨Tryz.f165,Wz,Zb1,λN=>[(44,Z5 N)]⟩
theorem Zdg(N:Nat):GW 165 (Zb1 N):=GF Zzo N Tryz.func165 (GC (Zad N) Wa)
def Zek(N:Nat):Sig:=Sig.of [.v Ja false] [.v Jp false] (λd=>Za4 N d.1)
def Z0n:Fn:=⟨Tryz.f105,Wz,Zek,λN=>[(44,Z5 N)]⟩
theorem Zg7(N:Nat):GW 105 (Zek N):=GF Z0n N Tryz.func105 (GC (Zad N) Wa)
def Zh3(N:Nat):Sig:=Sig.of [.v Jx true] [.v Jp false] (λd=>Zo N d.1)
def Z00:Fn:=⟨Tryz.f131,Wz,Zh3,λN=>[(164,Znx N),(76,Za5 N),(165,Zb1 N),(44,Z5 N),(105,Zek N)]⟩
theorem Zme(N:Nat):GW 131 (Zh3 N):=GF Z00 N Tryz.func131 (GC (Z0m N) (GC (Zbq N) (GC (Zdg N) (GC (Zad N) (GC (Zg7 N) Wa)))))
def Zjl(N:Nat):Sig:=Sig.of [.v Jx true] [.v Ja false] (λd=>Zg0 N d.1)
def Zx5:Fn:=⟨Tryz.f129,Wz,Zjl,λN=>[(131,Zh3 N)]⟩
theorem Zoy(N:Nat):GW 129 (Zjl N):=GF Zx5 N Tryz.func129 (GC (Zme N) Wa)
def Zi6(N:Nat):Sig:=Sig.of [.v Jx true] [.v Ja false] (λd=>Zi0 N d.1)
def Z0o:Fn:=⟨Tryz.f136,Wz,Zi6,Wbd⟩
theorem Zny(N:Nat):GW 136 (Zi6 N):=GF Z0o N Tryz.func136 Wa
def Zkc(N:Nat):Sig:=Sig.of [.v Jc false] [.v Jp false] (λd=>Zc4 N d.1)
def Zhq:Fn:=⟨Tryz.f130,λ |3=>[.canon [3,6,7,8,9]]|4=>[.canon [3,5,6,7,8]]|5=>[.canon [3,6,7,8]]|6=>[.canon [3,6,7,8,17]]|7=>[.canon [2]]|8=>[.canon [3,6,7,8]]|100003=>[.canon [3,6,7,8]]|_=>[],Zkc,λN=>[(136,Zi6 N)]⟩
def Zo9(n2:Int)(t3:List Ka)(t5:Int):St:=⟨[(3,vI n2),(6,vV Jc t3),(7,vI (Wb t3)),(8,vI t5)],[],0⟩
def Zoz(t3:List Ka):St:=⟨[(2,vB false)],[],0⟩
def Zo0(t3:List Ka)(n8:Int)(t9:Int)(aA:Bool):St:=⟨[(3,vI n8),(6,vV Jc t3),(7,vI (Wb t3)),(8,vI t9),(9,vB aA)],[],0⟩
theorem Zpa(N:Nat){R:Type}(K:Ex->St->Option R){t3:List Ka}{K0:Option R}{K1:Int->Int->Bool->Option R}(h0:K0=K .ret (Zoz t3))(h1:K1= λn8 t9 aA=>K (.exit 0) (Zo0 t3 n8 t9 aA))(n:Nat)(n2:Int)(t5:Int):Zbz N t3 K0 K1 n n2 t5=LM Zhq N 0 100003 n (Zo9 n2 t3 t5) K:=by
  subst h0 h1
  induction n generalizing n2 t5 with
  |zero=>kernel_rfl
  |succ n ih=>rw[Zbz];simp only[ih];kernel_rfl
theorem Zuk(N:Nat)(ad:List Ka):DN Zhq N (ad,())=Zc4 N ad:=by
  conv=>rhs;rw[Zc4];simp(disch:=exact id (by kernel_rfl)) only[Zpa (R:=Unit×Ko) N (CF Zhq N [1,1,0,1,0])]
  kernel_rfl
theorem Zul(N:Nat):GW 130 (Zkc N):=GF Zhq N Tryz.func130 (GC (Zny N) Wa) (λd=>Zuk N d.1)
def Zmo(N:Nat):Sig:=Sig.of [.v Jc false,.v Ja false] [.v Ja false] (λd=>Zg1 N d.1 d.2.1)
def Zjm:Fn:=⟨Tryz.f132,λ |3=>[.canon [1,5,8,9,10,11]]|4=>[.canon [1,5,6,7,8,9,10]]|5=>[.canon [1,5,7,8,9,10,17]]|6=>[.canon [1,5,8,9,10]]|7=>[.canon [1,5,8,9,10]]|100003=>[.canon [1,5,8,9,10]]|_=>[],Zmo,λN=>[(136,Zi6 N)]⟩
def Zso(i3:Int)(n4:Int)(t5:List Ka)(t7:Int):St:=⟨[(1,vI i3),(5,vI n4),(8,vV Jc t5),(9,vI (Wb t5)),(10,vI t7)],[],0⟩
def Zqt(i3:Int)(t5:List Ka)(iU:Int)(aL:Int)(aO:Bool):St:=⟨[(1,vI i3),(5,vI iU),(8,vV Jc t5),(9,vI (Wb t5)),(10,vI aL),(11,vB aO)],[],0⟩
theorem Zsp(N:Nat){R:Type}(K:Ex->St->Option R){i3:Int}{t5:List Ka}{K0:Int->Int->Bool->Option R}(h0:K0= λiU aL aO=>K (.exit 0) (Zqt i3 t5 iU aL aO))(n:Nat)(n4:Int)(t7:Int):Zb2 N i3 t5 K0 n n4 t7=LM Zjm N 0 100003 n (Zso i3 n4 t5 t7) K:=by
  subst h0
  induction n generalizing n4 t7 with
  |zero=>kernel_rfl
  |succ n ih=>rw[Zb2];simp only[ih];kernel_rfl
theorem Zx6(N:Nat)(ad:List Ka)(i2:Int):DN Zjm N (ad,i2,())=Zg1 N ad i2:=by
  conv=>rhs;rw[Zg1];simp(disch:=exact id (by kernel_rfl)) only[Zsp (R:=Unit×Kh) N (CF Zjm N [1,1,0,1,0])]
  kernel_rfl
theorem Zx7(N:Nat):GW 132 (Zmo N):=GF Zjm N Tryz.func132 (GC (Zny N) Wa) (λd=>Zx6 N d.1 d.2.1)
def Zkv(N:Nat):Sig:=Sig.of [.v Jc false] [.v Jp false] (λd=>Zcu N d.1)
def Zkw:Fn:=⟨Tryz.f90,λ |5=>[.canon [0,3,14,15,16,17]]|6=>[.canon [0,3,4,5,14,15,16]]|7=>[.canon [0,3,4,5,14,15,16,23]]|8=>[.canon [2]]|9=>[.canon [0,3,4,5,14,15,16,25]]|10=>[.canon [0,3,4,5,14,15,16,25,26]]|11=>[.canon [0,3,14,15,16,48]]|12=>[.canon [2]]|13=>[.canon [0,3,4,14,15,16,49]]|14=>[.canon [0,3,4,14,15,16]]|15=>[.canon [0,3,14,15,16,60]]|16=>[.canon [2]]|17=>[.canon [0,3,14,15,16]]|100005=>[.canon [0,3,14,15,16]]|_=>[],Zkv,λN=>[(130,Zkc N),(131,Zh3 N),(132,Zmo N)]⟩
def Zum(ae:List Ka)(ax:Int)(t7:Int):St:=⟨[(0,vV Jc ae),(3,vI ax),(14,vV Jc ae),(15,vI (Wb ae)),(16,vI t7)],[],0⟩
def Zsq(ae:List Ka):St:=⟨[(2,vB false)],[],0⟩
def Zsr(ae:List Ka)(fY:Int)(bS:Int)(ij:Bool):St:=⟨[(0,vV Jc ae),(3,vI fY),(14,vV Jc ae),(15,vI (Wb ae)),(16,vI bS),(17,vB ij)],[],0⟩
theorem Zun(N:Nat){R:Type}(K:Ex->St->Option R){ae:List Ka}{K0:Option R}{K1:Int->Int->Bool->Option R}(h0:K0=K .ret (Zsq ae))(h1:K1= λfY bS ij=>K (.exit 0) (Zsr ae fY bS ij))(n:Nat)(ax:Int)(t7:Int):Zbx N ae K0 K1 n ax t7=LM Zkw N 0 100005 n (Zum ae ax t7) K:=by
  subst h0 h1
  induction n generalizing ax t7 with
  |zero=>kernel_rfl
  |succ n ih=>rw[Zbx];simp only[ih];kernel_rfl
theorem Zzp(N:Nat)(ad:List Ka):DN Zkw N (ad,())=Zcu N ad:=by
  conv=>rhs;rw[Zcu];simp(disch:=exact id (by kernel_rfl)) only[Zun (R:=Unit×Ko) N (CF Zkw N [1,1,1,0,1,0])]
  kernel_rfl
theorem Zpm(N:Nat):GW 90 (Zkv N):=GF Zkw N Tryz.func90 (GC (Zul N) (GC (Zme N) (GC (Zx7 N) Wa))) (λd=>Zzp N d.1)
def Znz(N:Nat):Sig:=Sig.of [.v Jc false] [.v Jp false] (λd=>Zha N d.1)
def Zlr:Fn:=⟨Tryz.f89,λ |2=>[.canon [0,5,6,7,8]]|3=>[.canon [0,4,5,6,7]]|4=>[.canon [0,5,6,7,18]]|5=>[.canon [2]]|6=>[.canon [0,5,6,7]]|100002=>[.canon [0,5,6,7]]|_=>[],Znz,λN=>[(129,Zjl N),(90,Zkv N)]⟩
def Zv2(aa:List Ka)(t5:Int):St:=⟨[(0,vV Jc aa),(5,vV Jc aa),(6,vI (Wb aa)),(7,vI t5)],[],0⟩
def Zuo(aa:List Ka):St:=⟨[(2,vB false)],[],0⟩
def Zup(aa:List Ka)(t8:Int)(t9:Bool):St:=⟨[(0,vV Jc aa),(5,vV Jc aa),(6,vI (Wb aa)),(7,vI t8),(8,vB t9)],[],0⟩
theorem Zv3(N:Nat){R:Type}(K:Ex->St->Option R){aa:List Ka}{K0:Option R}{K1:Int->Bool->Option R}(h0:K0=K .ret (Zuo aa))(h1:K1= λt8 t9=>K (.exit 0) (Zup aa t8 t9))(n:Nat)(t5:Int):Zd0 N aa K0 K1 n t5=LM Zlr N 0 100002 n (Zv2 aa t5) K:=by
  subst h0 h1
  induction n generalizing t5 with
  |zero=>kernel_rfl
  |succ n ih=>rw[Zd0];simp only[ih];kernel_rfl
theorem Z0p(N:Nat)(ad:List Ka):DN Zlr N (ad,())=Zha N ad:=by
  conv=>rhs;rw[Zha];simp(disch:=exact id (by kernel_rfl)) only[Zv3 (R:=Unit×Ko) N (CF Zlr N [1,0,1,0])]
  kernel_rfl
theorem Z0q(N:Nat):GW 89 (Znz N):=GF Zlr N Tryz.func89 (GC (Zoy N) (GC (Zpm N) Wa)) (λd=>Z0p N d.1)
def Zla(N:Nat):Sig:=Sig.of [.v Jx true] [.v Jp false] (λd=>Zmk N d.1)
def Zv4:Fn:=⟨Tryz.f134,Wz,Zla,Wbd⟩
theorem Zv5(N:Nat):GW 134 (Zla N):=GF Zv4 N Tryz.func134 Wa
def Za3(N:Nat):Sig:=Sig.of [.v Jc false,.clos 134 0] [.v Ja false] (λd=>Z4 N d.1)
def Zaf:Fn:=⟨Tryz.f166,λ |2=>[.canon [0,1,7,8,9]]|3=>[.canon [0,1,5,7,8]]|4=>[.canon [0,1,5,7,8,16]]|5=>[.canon [1,4]]|6=>[.canon [0,1,7,8]]|100002=>[.canon [0,1,7,8]]|_=>[],Za3,λN=>[(134,Zla N)]⟩
def Zfi(s2:List Ka)(t4:Int):St:=⟨[(0,vV Jc s2),(1,.s (.one (.clos 134 []))),(7,vI (Wb s2)),(8,vI t4)],[],0⟩
def Ze0(s2:List Ka)(t7:Int):St:=⟨[(1,.s (.one (.clos 134 []))),(4,vI t7)],[],0⟩
def Ze1(s2:List Ka)(t8:Int)(t9:Bool):St:=⟨[(0,vV Jc s2),(1,.s (.one (.clos 134 []))),(7,vI (Wb s2)),(8,vI t8),(9,vB t9)],[],0⟩
theorem Zfj(N:Nat){R:Type}(K:Ex->St->Option R){s2:List Ka}{K0:Int->Option R}{K1:Int->Bool->Option R}(h0:K0= λt7=>K .ret (Ze0 s2 t7))(h1:K1= λt8 t9=>K (.exit 0) (Ze1 s2 t8 t9))(n:Nat)(t4:Int):Zl N s2 K0 K1 n t4=LM Zaf N 0 100002 n (Zfi s2 t4) K:=by
  subst h0 h1
  induction n generalizing t4 with
  |zero=>kernel_rfl
  |succ n ih=>rw[Zl];simp only[ih];kernel_rfl
theorem Zf9(N:Nat)(s1:List Ka):DN Zaf N (s1,())=Z4 N s1:=by
  conv=>rhs;rw[Z4];simp(disch:=exact id (by kernel_rfl)) only[Zfj (R:=Unit×Kh) N (CF Zaf N [1,0,1,0])]
  kernel_rfl
theorem Zga(N:Nat):GW 166 (Za3 N):=GF Zaf N Tryz.func166 (GC (Zv5 N) Wa) (λd=>Zf9 N d.1)
def Zav(N:Nat):Sig:=Sig.of [.v Jc false,.clos 134 0] [.v Jp false] (λd=>Za0 N d.1)
def Zfo:Fn:=⟨Tryz.f133,Wz,Zav,λN=>[(166,Za3 N)]⟩
theorem Zfp(N:Nat):GW 133 (Zav N):=GF Zfo N Tryz.func133 (GC (Zga N) Wa)
def Zmp(N:Nat):Sig:=Sig.of [.v Jc false] [.v Jp false] (λd=>Zg2 N d.1)
def Zx8:Fn:=⟨Tryz.f91,Wz,Zmp,λN=>[(133,Zav N)]⟩
theorem Zx9(N:Nat):GW 91 (Zmp N):=GF Zx8 N Tryz.func91 (GC (Zfp N) Wa)
def Znd(N:Nat):Sig:=Sig.of [.v Jk true] [.v Jp false] (λd=>Zhz N d.1)
def Zkx:Fn:=⟨Tryz.f61,λ |2=>[.canon [1,6,7,8,9]]|3=>[.canon [1,4,6,7,8]]|4=>[.canon [1,6,7,8,15]]|5=>[.canon [2]]|6=>[.canon [1,6,7,8]]|100002=>[.canon [1,6,7,8]]|_=>[],Znd,λN=>[(89,Znz N),(90,Zkv N),(91,Zmp N)]⟩
def Zuq(t2:List Kx)(t4:Int)(b5:List Ka×List Kx):St:=⟨[(1,vP 0 0),(6,vV (.slice Jc) t2),(7,vI (Wb b5.2)),(8,vI t4)],[(0,.box [.val Jc b5.1,.val (.slice Jc) b5.2])],1⟩
def Zss(t2:List Kx)(b5:List Ka×List Kx):St:=⟨[(2,vB false)],[],0⟩
def Zst(t2:List Kx)(b5:List Ka×List Kx)(t8:Int)(t9:Bool):St:=⟨[(1,vP 0 0),(6,vV (.slice Jc) t2),(7,vI (Wb b5.2)),(8,vI t8),(9,vB t9)],[(0,.box [.val Jc b5.1,.val (.slice Jc) b5.2])],1⟩
theorem Zur(N:Nat){R:Type}(K:Ex->St->Option R){t2:List Kx}{b5:List Ka×List Kx}{K0:Option R}{K1:Int->Bool->Option R}(h0:K0=K .ret (Zss t2 b5))(h1:K1= λt8 t9=>K (.exit 0) (Zst t2 b5 t8 t9))(n:Nat)(t4:Int):Zc7 N t2 b5 K0 K1 n t4=LM Zkx N 0 100002 n (Zuq t2 t4 b5) K:=by
  subst h0 h1
  induction n generalizing t4 with
  |zero=>kernel_rfl
  |succ n ih=>rw[Zc7];simp only[ih];kernel_rfl
theorem Zzq(N:Nat)(p1:List Ka×List Kx):DN Zkx N (p1,())=Zhz N p1:=by
  conv=>rhs;rw[Zhz];simp(disch:=exact id (by kernel_rfl)) only[Zur (R:=Unit×Ko) N (CF Zkx N [1,0,1,0])]
  kernel_rfl
theorem Zzr(N:Nat):GW 61 (Znd N):=GF Zkx N Tryz.func61 (GC (Z0q N) (GC (Zpm N) (GC (Zx9 N) Wa))) (λd=>Zzq N d.1)
def Zkd(N:Nat):Sig:=Sig.of [.v Jk true] [.v Jp false] (λd=>Zin N d.1)
def Zus:Fn:=⟨Tryz.f72,Wz,Zkd,λN=>[(61,Znd N)]⟩
theorem Zut(N:Nat):GW 72 (Zkd N):=GF Zus N Tryz.func72 (GC (Zzr N) Wa)
def Zar(N:Nat):Sig:=Sig.of [.v Jaa false,.clos 72 0] [.v Ja false] (λd=>Zx N d.1)
def Zab:Fn:=⟨Tryz.f109,λ |2=>[.canon [0,1,7,8,9]]|3=>[.canon [0,1,5,7,8]]|4=>[.canon [0,1,5,7,8,16]]|5=>[.canon [1,4]]|6=>[.canon [0,1,7,8]]|100002=>[.canon [0,1,7,8]]|_=>[],Zar,λN=>[(72,Zkd N)]⟩
def Zd7(s2:List Km)(t4:Int):St:=⟨[(0,vV Jaa s2),(1,.s (.one (.clos 72 []))),(7,vI (Wb s2)),(8,vI t4)],[],0⟩
def Zdr(s2:List Km)(t7:Int):St:=⟨[(1,.s (.one (.clos 72 []))),(4,vI t7)],[],0⟩
def Zds(s2:List Km)(t8:Int)(t9:Bool):St:=⟨[(0,vV Jaa s2),(1,.s (.one (.clos 72 []))),(7,vI (Wb s2)),(8,vI t8),(9,vB t9)],[],0⟩
theorem Zd8(N:Nat){R:Type}(K:Ex->St->Option R){s2:List Km}{K0:Int->Option R}{K1:Int->Bool->Option R}(h0:K0= λt7=>K .ret (Zdr s2 t7))(h1:K1= λt8 t9=>K (.exit 0) (Zds s2 t8 t9))(n:Nat)(t4:Int):Ze N s2 K0 K1 n t4=LM Zab N 0 100002 n (Zd7 s2 t4) K:=by
  subst h0 h1
  induction n generalizing t4 with
  |zero=>kernel_rfl
  |succ n ih=>rw[Ze];simp only[ih];kernel_rfl
theorem Ze2(N:Nat)(s1:List Km):DN Zab N (s1,())=Zx N s1:=by
  conv=>rhs;rw[Zx];simp(disch:=exact id (by kernel_rfl)) only[Zd8 (R:=Unit×Kh) N (CF Zab N [1,0,1,0])]
  kernel_rfl
theorem Ze3(N:Nat):GW 109 (Zar N):=GF Zab N Tryz.func109 (GC (Zut N) Wa) (λd=>Ze2 N d.1)
def Zan(N:Nat):Sig:=Sig.of [.v Jaa false,.clos 72 0] [.v Jp false] (λd=>Zap N d.1)
def Zel:Fn:=⟨Tryz.f71,Wz,Zan,λN=>[(109,Zar N)]⟩
theorem Zem(N:Nat):GW 71 (Zan N):=GF Zel N Tryz.func71 (GC (Ze3 N) Wa)
def Ziu(N:Nat):Sig:=Sig.of [.v Jr true] [.v Jp false] (λd=>Zh7 N d.1)
def Zw9:Fn:=⟨Tryz.f35,Wz,Ziu,λN=>[(63,Zl2 N),(71,Zan N)]⟩
theorem Zok(N:Nat):GW 35 (Ziu N):=GF Zw9 N Tryz.func35 (GC (Zw8 N) (GC (Zem N) Wa))
def Zmq(N:Nat):Sig:=Sig.of [] [.v Jac false] (λd=>Znr N)
def Zya:Fn:=⟨Tryz.f79,Wz,Zmq,Wbd⟩
theorem Zyb(N:Nat):GW 79 (Zmq N):=GF Zya N Tryz.func79 Wa
def Z8(N:Nat):Sig:=Sig.of [.v Jj false] [.v Jac false] (λd=>Zu N d.1)
def Zxa:Fn:=⟨Tryz.f93,Wz,Z8,Wbd⟩
theorem Zah(N:Nat):GW 93 (Z8 N):=GF Zxa N Tryz.func93 Wa
def Zky(N:Nat):Sig:=Sig.of [.v Ja false,.v Ja false] [.v Ja false] (λd=>Zh0 N d.1 d.2.1)
def Zzs:Fn:=⟨Tryz.f102,Wz,Zky,Wbd⟩
theorem Zpn(N:Nat):GW 102 (Zky N):=GF Zzs N Tryz.func102 Wa
def Zls(N:Nat):Sig:=Sig.of [.v Ja false] [.v Ja false] (λd=>Zhd N d.1)
def Z0r:Fn:=⟨Tryz.f104,Wz,Zls,Wbd⟩
theorem Zqu(N:Nat):GW 104 (Zls N):=GF Z0r N Tryz.func104 Wa
def Ziv(N:Nat):Sig:=Sig.of [.v Ja false] [.v Ja false] (λd=>Zh8 N d.1)
def Zxb:Fn:=⟨Tryz.f103,Wz,Ziv,λN=>[(105,Zek N)]⟩
theorem Zol(N:Nat):GW 103 (Ziv N):=GF Zxb N Tryz.func103 (GC (Zg7 N) Wa)
def Zd9(N:Nat):Sig:=Sig.of [.v Jj false] [.v Jp false] (λd=>Zca N d.1)
def Zjn:Fn:=⟨Tryz.f67,λ |5=>[.canon [3,9,10,11,12]]|6=>[.canon [3,4,5,9,10,11]]|7=>[.canon [3,4,5,9,10,11,17]]|8=>[.canon [3,5,9,10,11,35]]|9=>[.canon [2]]|10=>[.canon [3,9,10,11]]|11=>[.canon [3,9,10,11]]|100005=>[.canon [3,9,10,11]]|_=>[],Zd9,λN=>[(102,Zky N),(44,Z5 N),(104,Zls N),(103,Ziv N)]⟩
def Zsu(t2:List Int)(t4:Int)(l5:List Bool):St:=⟨[(3,.s (.one (.aptr 0))),(9,vV Jj t2),(10,vI (Wb t2)),(11,vI t4)],[(0,.arr Jp l5)],1⟩
def Zqv(t2:List Int):St:=⟨[(2,vB false)],[],0⟩
def Zqw(t2:List Int)(ik:Int)(fW:Bool)(dT:List Bool):St:=⟨[(3,.s (.one (.aptr 0))),(9,vV Jj t2),(10,vI (Wb t2)),(11,vI ik),(12,vB fW)],[(0,.arr Jp dT)],1⟩
theorem Zsv(N:Nat){R:Type}(K:Ex->St->Option R){t2:List Int}{K0:Option R}{K1:Int->Bool->(List Bool)->Option R}(h0:K0=K .ret (Zqv t2))(h1:K1= λik fW dT=>K (.exit 0) (Zqw t2 ik fW dT))(n:Nat)(t4:Int)(l5:List Bool):Zb3 N t2 K0 K1 n t4 l5=LM Zjn N 0 100005 n (Zsu t2 t4 l5) K:=by
  subst h0 h1
  induction n generalizing t4 l5 with
  |zero=>kernel_rfl
  |succ n ih=>rw[Zb3];simp only[ih];kernel_rfl
theorem Zyc(N:Nat)(l1:List Int):DN Zjn N (l1,())=Zca N l1:=by
  conv=>rhs;rw[Zca];simp(disch:=exact id (by kernel_rfl)) only[Zsv (R:=Unit×Ko) N (CF Zjn N [1,1,1,0,1,0])]
  kernel_rfl
theorem Zhj(N:Nat):GW 67 (Zd9 N):=GF Zjn N Tryz.func67 (GC (Zpn N) (GC (Zad N) (GC (Zqu N) (GC (Zol N) Wa)))) (λd=>Zyc N d.1)
def Zj7(N:Nat):Sig:=Sig.of [.v Jj false,.v Ja false] [.v Ja false] (λd=>Zf8 N d.1 d.2.1)
def Zmf:Fn:=⟨Tryz.f106,λ |2=>[.canon [1,7,8,9,10]]|3=>[.canon [1,5,6,7,8,9]]|4=>[.canon [1,5,7,8,9,21]]|5=>[.canon [4]]|6=>[.canon [1,7,8,9]]|100002=>[.canon [1,7,8,9]]|_=>[],Zj7,λN=>[(104,Zls N)]⟩
def Zxc(dK:Int)(t4:List Int)(t6:Int):St:=⟨[(1,vI dK),(7,vV Jj t4),(8,vI (Wb t4)),(9,vI t6)],[],0⟩
def Zv6(dK:Int)(t4:List Int)(t9:Int):St:=⟨[(4,vI t9)],[],0⟩
def Zv7(dK:Int)(t4:List Int)(aA:Int)(aL:Bool):St:=⟨[(1,vI dK),(7,vV Jj t4),(8,vI (Wb t4)),(9,vI aA),(10,vB aL)],[],0⟩
theorem Zxd(N:Nat){R:Type}(K:Ex->St->Option R){dK:Int}{t4:List Int}{K0:Int->Option R}{K1:Int->Bool->Option R}(h0:K0= λt9=>K .ret (Zv6 dK t4 t9))(h1:K1= λaA aL=>K (.exit 0) (Zv7 dK t4 aA aL))(n:Nat)(t6:Int):Zdc N dK t4 K0 K1 n t6=LM Zmf N 0 100002 n (Zxc dK t4 t6) K:=by
  subst h0 h1
  induction n generalizing t6 with
  |zero=>kernel_rfl
  |succ n ih=>rw[Zdc];simp only[ih];kernel_rfl
theorem Z01(N:Nat)(l1:List Int)(bW:Int):DN Zmf N (l1,bW,())=Zf8 N l1 bW:=by
  conv=>rhs;rw[Zf8];simp(disch:=exact id (by kernel_rfl)) only[Zxd (R:=Unit×Kh) N (CF Zmf N [1,0,1,0])]
  kernel_rfl
theorem Zob(N:Nat):GW 106 (Zj7 N):=GF Zmf N Tryz.func106 (GC (Zqu N) Wa) (λd=>Z01 N d.1 d.2.1)
def Zf2(N:Nat):Sig:=Sig.of [.v Jj false,.v Ja false] [.v Ja false,.v Jp false] (λd=>Zfy N d.1 d.2.1)
def Zyd:Fn:=⟨Tryz.f68,Wz,Zf2,λN=>[(67,Zd9 N),(105,Zek N),(106,Zj7 N)]⟩
theorem Zjo(N:Nat):GW 68 (Zf2 N):=GF Zyd N Tryz.func68 (GC (Zhj N) (GC (Zg7 N) (GC (Zob N) Wa)))
def Zhk(N:Nat):Sig:=Sig.of [.v Jj false,.v Ja false,.v Ja false] [.v Jac false,.v Ja false,.v Jp false] (λd=>Zef N d.1 d.2.1 d.2.2.1)
def Zjp:Fn:=⟨Tryz.f80,λ |10=>[.canon [1,2,9,13,57]]|11=>[.canon [1,2,9,13]]|100010=>[.canon [1,2,9,13]]|_=>[],Zhk,λN=>[(93,Z8 N),(67,Zd9 N),(105,Zek N),(76,Za5 N),(106,Zj7 N),(68,Zf2 N),(102,Zky N),(103,Ziv N)]⟩
def Zsw(dy:Int)(mb:Int)(eH:Int)(bp:List Int):St:=⟨[(1,vI dy),(2,vI mb),(9,vO 0),(13,vI eH)],[(0,.arr Ja bp)],1⟩
def Zqx(dy:Int)(mb:Int)(bp:List Int)(pw:Int)(eE:Bool):St:=⟨[(1,vI dy),(2,vI mb),(9,vO 0),(13,vI pw),(57,vB eE)],[(0,.arr Ja bp)],1⟩
theorem Zsx(N:Nat){R:Type}(K:Ex->St->Option R){dy:Int}{mb:Int}{bp:List Int}{K0:Int->Bool->Option R}(h0:K0= λpw eE=>K (.exit 0) (Zqx dy mb bp pw eE))(n:Nat)(eH:Int):Zco N dy mb bp K0 n eH=LM Zjp N 0 100010 n (Zsw dy mb eH bp) K:=by
  subst h0
  induction n generalizing eH with
  |zero=>kernel_rfl
  |succ n ih=>rw[Zco];simp only[ih];kernel_rfl
theorem Zye(N:Nat)(l1:List Int)(bW:Int)(v3:Int):DN Zjp N (l1,bW,v3,())=Zef N l1 bW v3:=by
  conv=>rhs;rw[Zef];simp(disch:=exact id (by kernel_rfl)) only[Zsx (R:=Unit×(Ki×Kl)) N (CF Zjp N [1,1,1,1,1,0,0])]
  kernel_rfl
theorem Zmr(N:Nat):GW 80 (Zhk N):=GF Zjp N Tryz.func80 (GC (Zah N) (GC (Zhj N) (GC (Zg7 N) (GC (Zbq N) (GC (Zob N) (GC (Zjo N) (GC (Zpn N) (GC (Zol N) Wa)))))))) (λd=>Zye N d.1 d.2.1 d.2.2.1)
def Zlb(N:Nat):Sig:=Sig.of [.v Jj false] [.v Jac false] (λd=>Zbd N d.1)
def Zif:Fn:=⟨Tryz.f45,λ |5=>[.canon [3,10,11,12,13]]|6=>[.canon [3,4,5,10,11,12]]|7=>[.canon [3,4,5,10,11,12,18]]|8=>[.canon [3,10,11,12]]|9=>[.canon [3,10,11,12]]|100005=>[.canon [3,10,11,12]]|_=>[],Zlb,λN=>[(78,Zlp N),(79,Zmq N),(80,Zhk N)]⟩
def Zpz(t4:List Int)(t6:Int)(l7:List Int):St:=⟨[(3,vO 0),(10,vV Jj t4),(11,vI (Wb t4)),(12,vI t6)],[(0,.arr Ja l7)],1⟩
def Zpb(t4:List Int)(aA:Int)(aL:Bool)(bq:List Int):St:=⟨[(3,vO 0),(10,vV Jj t4),(11,vI (Wb t4)),(12,vI aA),(13,vB aL)],[(0,.arr Ja bq)],1⟩
theorem Zp0(N:Nat){R:Type}(K:Ex->St->Option R){t4:List Int}{K0:Int->Bool->Ki->Option R}(h0:K0= λaA aL bq=>K (.exit 0) (Zpb t4 aA aL bq))(n:Nat)(t6:Int)(l7:List Int):Zbl N t4 K0 n t6 l7=LM Zif N 0 100005 n (Zpz t4 t6 l7) K:=by
  subst h0
  induction n generalizing t6 l7 with
  |zero=>kernel_rfl
  |succ n ih=>rw[Zbl];simp only[ih];kernel_rfl
theorem Zv8(N:Nat)(m1:List Int):DN Zif N (m1,())=Zbd N m1:=by
  conv=>rhs;rw[Zbd];simp(disch:=exact id (by kernel_rfl)) only[Zp0 (R:=Unit×Ku) N (CF Zif N [1,1,1,0,1,0])]
  kernel_rfl
theorem Zv9(N:Nat):GW 45 (Zlb N):=GF Zif N Tryz.func45 (GC (Zqs N) (GC (Zyb N) (GC (Zmr N) Wa))) (λd=>Zv8 N d.1)
def Zne(N:Nat):Sig:=Sig.of [.v Jj false] [.v Jah true,.v Jp false] (λd=>Zb6 N d.1)
def Zkz:Fn:=⟨Tryz.f46,λ |5=>[.canon [2,4,12,13,14,15]]|6=>[.canon [2,4,6,12,13,14]]|7=>[.canon [2,4,12,13,14]]|8=>[.canon [2,4,12,13,14]]|100005=>[.adoptC 4 1 Jl,.canon [2,4,12,13,14]]|_=>[],Zne,λN=>[(81,Zcs N)]⟩
def Zuu(t3:List Int)(t5:Int)(l8:List Kb):St:=⟨[(2,vP 0 0),(4,vP 1 0),(12,vV Jj t3),(13,vI (Wb t3)),(14,vI t5)],[(0,.box [.val Ja (0:Int),.nils]),(1,.box [.val Ja (0:Int),.own 2]),(2,.arr Jl l8)],3⟩
def Zsy(t3:List Int)(t9:Int)(aA:Bool)(ao:List Kb):St:=⟨[(2,vP 0 0),(4,vP 1 0),(12,vV Jj t3),(13,vI (Wb t3)),(14,vI t9),(15,vB aA)],[(0,.box [.val Ja (0:Int),.nils]),(1,.box [.val Ja (0:Int),.own 2]),(2,.arr Jl ao)],3⟩
theorem Zuv(N:Nat){R:Type}(K:Ex->St->Option R){t3:List Int}{K0:Int->Bool->Kr->Option R}(h0:K0= λt9 aA ao=>K (.exit 0) (Zsy t3 t9 aA ao))(n:Nat)(t5:Int)(l8:List Kb):Zc6 N t3 K0 n t5 l8=LM Zkz N 0 100005 n (Zuu t3 t5 l8) K:=by
  subst h0
  induction n generalizing t5 l8 with
  |zero=>kernel_rfl
  |succ n ih=>rw[Zc6];simp only[ih];kernel_rfl
theorem Zzt(N:Nat)(l1:List Int):DN Zkz N (l1,())=Zb6 N l1:=by
  conv=>rhs;rw[Zb6];simp(disch:=exact id (by kernel_rfl)) only[Zuv (R:=Unit×(Kv×Ko)) N (CF Zkz N [1,1,1,0,1,0])]
  kernel_rfl
theorem Zzu(N:Nat):GW 46 (Zne N):=GF Zkz N Tryz.func46 (GC (Zgg N) Wa) (λd=>Zzt N d.1)
def Zct(N:Nat):Sig:=Sig.of [.box Jab] [] (λd=>Zbe N d.1)
def Zwa:Fn:=⟨Tryz.f110,Wz,Zct,Wbd⟩
theorem Zgh(N:Nat):GW 110 (Zct N):=GF Zwa N Tryz.func110 Wa
def Zke(N:Nat):Sig:=Sig.of [.box Jv,.v Ja false] [] (λd=>Zfe N d.1 d.2.1)
def Zhr:Fn:=⟨Tryz.f111,λ |3=>[.canon [0,1,4,5,17,18,19,20]]|4=>[.canon [0,1,4,5,6,7,17,18,19]]|5=>[.canon [0,1,4,5,17,18,19]]|6=>[.canon [0,1,4,5,17,18,19]]|100003=>[.canon [0,1,4,5,17,18,19]]|_=>[],Zke,Wbd⟩
def Zpc(k3:Int)(r4:Nat)(cN:Bool)(t6:Int)(t7:Int)(b8:Int)(b9:Int)(aI:Int)(aU:Int)(bq:List Y_Root)(aK:List Kb)(bb:List Int)(bp:List Kb)(dh:List Kn):St:=⟨[(0,vP 0 0),(1,vI k3),(4,.s (.one (.eptr 1 r4 0))),(5,vB cN),(17,vO 1),(18,vI t6),(19,vI t7)],[(0,.box [.val Ja b8,.val Ja b9,.val Ja aI,.own 2,.own 3,.val Ja aU,.own 4,.own 1,.own 5]),(1,.arr Jab bq),(2,.arr Jl aK),(3,.arr Ja bb),(4,.arr Jl bp),(5,.arr Ji dh)],6⟩
def Zo1(k3:Int)(r4:Nat)(t6:Int)(b8:Int)(b9:Int)(aI:Int)(aU:Int)(bq:List Y_Root)(aK:List Kb)(bb:List Int)(bp:List Kb)(dh:List Kn)(fZ:Bool)(ik:Int)(fW:Bool):St:=⟨[(0,vP 0 0),(1,vI k3),(4,.s (.one (.eptr 1 r4 0))),(5,vB fZ),(17,vO 1),(18,vI t6),(19,vI ik),(20,vB fW)],[(0,.box [.val Ja b8,.val Ja b9,.val Ja aI,.own 2,.own 3,.val Ja aU,.own 4,.own 1,.own 5]),(1,.arr Jab bq),(2,.arr Jl aK),(3,.arr Ja bb),(4,.arr Jl bp),(5,.arr Ji dh)],6⟩
theorem Zpd(N:Nat){R:Type}(K:Ex->St->Option R){k3:Int}{r4:Nat}{t6:Int}{b8:Int}{b9:Int}{aI:Int}{aU:Int}{bq:List Y_Root}{aK:List Kb}{bb:List Int}{bp:List Kb}{dh:List Kn}{K0:Bool->Int->Bool->Option R}(h0:K0= λfZ ik fW=>K (.exit 0) (Zo1 k3 r4 t6 b8 b9 aI aU bq aK bb bp dh fZ ik fW))(n:Nat)(cN:Bool)(t7:Int):Zaw N k3 r4 t6 b8 b9 aI aU bq aK bb bp dh K0 n cN t7=LM Zhr N 0 100003 n (Zpc k3 r4 cN t6 t7 b8 b9 aI aU bq aK bb bp dh) K:=by
  subst h0
  induction n generalizing cN t7 with
  |zero=>kernel_rfl
  |succ n ih=>rw[Zaw];simp only[ih];kernel_rfl
theorem Zuw(N:Nat)(w1:Y_World)(k2:Int):DN Zhr N (w1,k2,())=Zfe N w1 k2:=by
  conv=>rhs;rw[Zfe];simp(disch:=exact id (by kernel_rfl)) only[Zpd (R:=(Y_World×Unit)×Unit) N (CF Zhr N [1,1,0,1,0])]
  kernel_rfl
theorem Zux(N:Nat):GW 111 (Zke N):=GF Zhr N Tryz.func111 Wa (λd=>Zuw N d.1 d.2.1)
def Zk0(N:Nat):Sig:=Sig.of [.v Ja false,.v Ja false,.v Ja false] [.v Jp false] (λd=>Zh1 N d.1 d.2.1 d.2.2.1)
def Zzv:Fn:=⟨Tryz.f192,Wz,Zk0,λN=>[(44,Z5 N)]⟩
theorem Zpo(N:Nat):GW 192 (Zk0 N):=GF Zzv N Tryz.func192 (GC (Zad N) Wa)
def Zi7(N:Nat):Sig:=Sig.of [.v Jl true,.v Jl true] [.v Ja false] (λd=>Zho N d.1 d.2.1)
def Zqy:Fn:=⟨Tryz.f193,Wz,Zi7,Wbd⟩
theorem Zqz(N:Nat):GW 193 (Zi7 N):=GF Zqy N Tryz.func193 Wa
def Zf3(N:Nat):Sig:=Sig.of [.v Je false] [.v Jp false] (λd=>Zeg N d.1)
def Zjq:Fn:=⟨Tryz.f151,λ |2=>[.canon [0,5,6,7,8]]|3=>[.canon [0,3,4,5,6,7]]|4=>[.canon [0,3,4,5,6,7,33]]|5=>[.canon [2]]|6=>[.canon [0,5,6,7,60]]|7=>[.canon [2]]|8=>[.canon [0,5,6,7]]|100002=>[.canon [0,5,6,7]]|_=>[],Zf3,λN=>[(192,Zk0 N),(193,Zi7 N)]⟩
def Zsz(l2:List Kb)(t5:Int):St:=⟨[(0,vV Je l2),(5,vV Je l2),(6,vI (Wb l2)),(7,vI t5)],[],0⟩
def Zq0(l2:List Kb):St:=⟨[(2,vB false)],[],0⟩
def Zq1(l2:List Kb)(aA:Int)(aL:Bool):St:=⟨[(0,vV Je l2),(5,vV Je l2),(6,vI (Wb l2)),(7,vI aA),(8,vB aL)],[],0⟩
theorem Zs0(N:Nat){R:Type}(K:Ex->St->Option R){l2:List Kb}{K0:Option R}{K1:Int->Bool->Option R}(h0:K0=K .ret (Zq0 l2))(h1:K1= λaA aL=>K (.exit 0) (Zq1 l2 aA aL))(n:Nat)(t5:Int):Zau N l2 K0 K1 n t5=LM Zjq N 0 100002 n (Zsz l2 t5) K:=by
  subst h0 h1
  induction n generalizing t5 with
  |zero=>kernel_rfl
  |succ n ih=>rw[Zau];simp only[ih];kernel_rfl
theorem Zyf(N:Nat)(l1:List Kb):DN Zjq N (l1,())=Zeg N l1:=by
  conv=>rhs;rw[Zeg];simp(disch:=exact id (by kernel_rfl)) only[Zs0 (R:=Unit×Ko) N (CF Zjq N [1,0,1,0])]
  kernel_rfl
theorem Zjr(N:Nat):GW 151 (Zf3 N):=GF Zjq N Tryz.func151 (GC (Zpo N) (GC (Zqz N) Wa)) (λd=>Zyf N d.1)
def Zms(N:Nat):Sig:=Sig.of [.v Je false,.v Ja false] [.v Jac false] (λd=>Zfz N d.1 d.2.1)
def Zjs:Fn:=⟨Tryz.f167,λ |5=>[.canon [1,5,12,13,14,15]]|6=>[.canon [1,5,7,12,13,14]]|7=>[.canon [1,5,7,12,13,14,21]]|8=>[.canon [1,5,12,13,14]]|9=>[.canon [1,5,12,13,14]]|100005=>[.canon [1,5,12,13,14]]|_=>[],Zms,λN=>[(151,Zf3 N)]⟩
def Zs1(eI:Int)(t5:List Kb)(t7:Int)(l8:List Int):St:=⟨[(1,vI eI),(5,vO 0),(12,vV Je t5),(13,vI (Wb t5)),(14,vI t7)],[(0,.arr Ja l8)],1⟩
def Zq2(eI:Int)(t5:List Kb)(t9:Int)(aA:Bool)(ao:List Int):St:=⟨[(1,vI eI),(5,vO 0),(12,vV Je t5),(13,vI (Wb t5)),(14,vI t9),(15,vB aA)],[(0,.arr Ja ao)],1⟩
theorem Zs2(N:Nat){R:Type}(K:Ex->St->Option R){eI:Int}{t5:List Kb}{K0:Int->Bool->Ki->Option R}(h0:K0= λt9 aA ao=>K (.exit 0) (Zq2 eI t5 t9 aA ao))(n:Nat)(t7:Int)(l8:List Int):Zb4 N eI t5 K0 n t7 l8=LM Zjs N 0 100005 n (Zs1 eI t5 t7 l8) K:=by
  subst h0
  induction n generalizing t7 l8 with
  |zero=>kernel_rfl
  |succ n ih=>rw[Zb4];simp only[ih];kernel_rfl
theorem Zyg(N:Nat)(l1:List Kb)(cp:Int):DN Zjs N (l1,cp,())=Zfz N l1 cp:=by
  conv=>rhs;rw[Zfz];simp(disch:=exact id (by kernel_rfl)) only[Zs2 (R:=Unit×Ku) N (CF Zjs N [1,1,1,0,1,0])]
  kernel_rfl
theorem Zyh(N:Nat):GW 167 (Zms N):=GF Zjs N Tryz.func167 (GC (Zjr N) Wa) (λd=>Zyg N d.1 d.2.1)
def Zig(N:Nat):Sig:=Sig.of [.box Jv,.v Ja false] [] (λd=>Zf0 N d.1 d.2.1)
def Zwb:Fn:=⟨Tryz.f119,λ |0=>[.opn 10]|_=>[],Zig,Wbd⟩
theorem Zn4(N:Nat):GW 119 (Zig N):=GF Zwb N Tryz.func119 Wa
def Zea(N:Nat):Sig:=Sig.of [.v Ja false] [.v Jp false] (λd=>Zeh N d.1)
def Zyi:Fn:=⟨Tryz.f198,Wz,Zea,λN=>[(44,Z5 N)]⟩
theorem Zhl(N:Nat):GW 198 (Zea N):=GF Zyi N Tryz.func198 (GC (Zad N) Wa)
def Zgn(N:Nat):Sig:=Sig.of [.v Jn false] [.v Jp false] (λd=>Zcv N d.1)
def Zk1:Fn:=⟨Tryz.f195,λ |2=>[.canon [0,5,6,7,8]]|3=>[.canon [0,4,5,6,7]]|4=>[.canon [0,5,6,7,20]]|5=>[.canon [2]]|6=>[.canon [0,5,6,7]]|100002=>[.canon [0,5,6,7]]|_=>[],Zgn,λN=>[(165,Zb1 N),(76,Za5 N)]⟩
def Zuy(l2:List Kc)(t5:Int):St:=⟨[(0,vV Jn l2),(5,vV Jn l2),(6,vI (Wb l2)),(7,vI t5)],[],0⟩
def Zs3(l2:List Kc):St:=⟨[(2,vB false)],[],0⟩
def Zs4(l2:List Kc)(aA:Int)(aL:Bool):St:=⟨[(0,vV Jn l2),(5,vV Jn l2),(6,vI (Wb l2)),(7,vI aA),(8,vB aL)],[],0⟩
theorem Zuz(N:Nat){R:Type}(K:Ex->St->Option R){l2:List Kc}{K0:Option R}{K1:Int->Bool->Option R}(h0:K0=K .ret (Zs3 l2))(h1:K1= λaA aL=>K (.exit 0) (Zs4 l2 aA aL))(n:Nat)(t5:Int):Zc5 N l2 K0 K1 n t5=LM Zk1 N 0 100002 n (Zuy l2 t5) K:=by
  subst h0 h1
  induction n generalizing t5 with
  |zero=>kernel_rfl
  |succ n ih=>rw[Zc5];simp only[ih];kernel_rfl
theorem Zzw(N:Nat)(l1:List Kc):DN Zk1 N (l1,())=Zcv N l1:=by
  conv=>rhs;rw[Zcv];simp(disch:=exact id (by kernel_rfl)) only[Zuz (R:=Unit×Ko) N (CF Zk1 N [1,0,1,0])]
  kernel_rfl
theorem Zk2(N:Nat):GW 195 (Zgn N):=GF Zk1 N Tryz.func195 (GC (Zdg N) (GC (Zbq N) Wa)) (λd=>Zzw N d.1)
def Zj8(N:Nat):Sig:=Sig.of [.v Jn false,.v Ja false] [.v Ja false,.v Jp false] (λd=>Zgz N d.1 d.2.1)
def Zmg:Fn:=⟨Tryz.f169,λ |4=>[.canon [0,1,6,14]]|5=>[.canon [0,1,6]]|6=>[.canon [0,1,6,23]]|7=>[.canon [4,5]]|100004=>[.canon [0,1,6]]|_=>[],Zj8,λN=>[(195,Zgn N)]⟩
def Zxe(l4:List Kc)(cD:Int)(i6:Int):St:=⟨[(0,vV Jn l4),(1,vI cD),(6,vI i6)],[],0⟩
def Zwc(l4:List Kc)(cD:Int)(t7:Int):St:=⟨[(4,vI t7),(5,vB true)],[],0⟩
def Zwd(l4:List Kc)(cD:Int)(i8:Int)(t9:Bool):St:=⟨[(0,vV Jn l4),(1,vI cD),(6,vI i8),(14,vB t9)],[],0⟩
theorem Zxf(N:Nat){R:Type}(K:Ex->St->Option R){l4:List Kc}{cD:Int}{K0:Int->Option R}{K1:Int->Bool->Option R}(h0:K0= λt7=>K .ret (Zwc l4 cD t7))(h1:K1= λi8 t9=>K (.exit 0) (Zwd l4 cD i8 t9))(n:Nat)(i6:Int):Zgi N l4 cD K0 K1 n i6=LM Zmg N 0 100004 n (Zxe l4 cD i6) K:=by
  subst h0 h1
  induction n generalizing i6 with
  |zero=>kernel_rfl
  |succ n ih=>rw[Zgi];simp only[ih];kernel_rfl
theorem Z02(N:Nat)(l1:List Kc)(fD:Int):DN Zmg N (l1,fD,())=Zgz N l1 fD:=by
  conv=>rhs;rw[Zgz];simp(disch:=exact id (by kernel_rfl)) only[Zxf (R:=Unit×Kl) N (CF Zmg N [1,1,0,1,0])]
  kernel_rfl
theorem Zoc(N:Nat):GW 169 (Zj8 N):=GF Zmg N Tryz.func169 (GC (Zk2 N) Wa) (λd=>Z02 N d.1 d.2.1)
def Zi8(N:Nat):Sig:=Sig.of [.v Jn false] [.v (.own Jw) false] (λd=>Zf7 N d.1)
def Znf:Fn:=⟨Tryz.f156,λ |5=>[.canon [0,3,11,12]]|6=>[.canon [0,3,4,11]]|7=>[.canon [0,3,4,5,6,11]]|8=>[.canon [0,3,4,5,11,20]]|9=>[.canon [0,3,11]]|10=>[.canon [0,3,11]]|100005=>[.canon [0,3,11]]|_=>[],Zi8,λN=>[(195,Zgn N),(169,Zj8 N)]⟩
def Zyj(l3:List Kc)(t4:Int)(l5:List Kc):St:=⟨[(0,vV Jn l3),(3,vO 0),(11,vI t4)],[(0,.arr Jw l5)],1⟩
def Zxg(l3:List Kc)(t7:Int)(t8:Bool)(l9:List Kc):St:=⟨[(0,vV Jn l3),(3,vO 0),(11,vI t7),(12,vB t8)],[(0,.arr Jw l9)],1⟩
theorem Zyk(N:Nat){R:Type}(K:Ex->St->Option R){l3:List Kc}{K0:Int->Bool->Kw->Option R}(h0:K0= λt7 t8 l9=>K (.exit 0) (Zxg l3 t7 t8 l9))(n:Nat)(t4:Int)(l5:List Kc):Zfv N l3 K0 n t4 l5=LM Znf N 0 100005 n (Zyj l3 t4 l5) K:=by
  subst h0
  induction n generalizing t4 l5 with
  |zero=>kernel_rfl
  |succ n ih=>rw[Zfv];simp only[ih];kernel_rfl
theorem Z1e(N:Nat)(l1:List Kc):DN Znf N (l1,())=Zf7 N l1:=by
  conv=>rhs;rw[Zf7];simp(disch:=exact id (by kernel_rfl)) only[Zyk (R:=Unit×(Kw×Unit)) N (CF Znf N [1,1,1,0,1,0])]
  kernel_rfl
theorem Zng(N:Nat):GW 156 (Zi8 N):=GF Znf N Tryz.func156 (GC (Zk2 N) (GC (Zoc N) Wa)) (λd=>Z1e N d.1)
def Zmt(N:Nat):Sig:=Sig.of [.v Jn false] [.v Jac false] (λd=>Zg3 N d.1)
def Zjt:Fn:=⟨Tryz.f199,λ |3=>[.canon [3,8,9,10,11]]|4=>[.canon [3,5,8,9,10]]|5=>[.canon [3,8,9,10]]|6=>[.canon [3,8,9,10]]|100003=>[.canon [3,8,9,10]]|_=>[],Zmt,λN=>[(156,Zi8 N)]⟩
def Zs5(t3:Int)(t4:Int)(l5:List Int)(l6:List Kc):St:=⟨[(3,vO 0),(8,vO 1),(9,vI t3),(10,vI t4)],[(0,.arr Ja l5),(1,.arr Jw l6)],2⟩
def Zq3(t3:Int)(l6:List Kc)(t7:Int)(t8:Bool)(l9:List Int):St:=⟨[(3,vO 0),(8,vO 1),(9,vI t3),(10,vI t7),(11,vB t8)],[(0,.arr Ja l9),(1,.arr Jw l6)],2⟩
theorem Zs6(N:Nat){R:Type}(K:Ex->St->Option R){t3:Int}{l6:List Kc}{K0:Int->Bool->Ki->Option R}(h0:K0= λt7 t8 l9=>K (.exit 0) (Zq3 t3 l6 t7 t8 l9))(n:Nat)(t4:Int)(l5:List Int):Zcp N t3 l6 K0 n t4 l5=LM Zjt N 0 100003 n (Zs5 t3 t4 l5 l6) K:=by
  subst h0
  induction n generalizing t4 l5 with
  |zero=>kernel_rfl
  |succ n ih=>rw[Zcp];simp only[ih];kernel_rfl
theorem Zyl(N:Nat)(l1:List Kc):DN Zjt N (l1,())=Zg3 N l1:=by
  conv=>rhs;rw[Zg3];simp(disch:=exact id (by kernel_rfl)) only[Zs6 (R:=Unit×Ku) N (CF Zjt N [1,1,0,1,0])]
  kernel_rfl
theorem Zym(N:Nat):GW 199 (Zmt N):=GF Zjt N Tryz.func199 (GC (Zng N) Wa) (λd=>Zyl N d.1)
def Zlc(N:Nat):Sig:=Sig.of [.v Ja false,.v Ja false,.v Jn false,.v Jn false] [.v Jd true,.v Jp false] (λd=>Zd5 N d.1 d.2.1 d.2.2.1 d.2.2.2.1)
def Zwe:Fn:=⟨Tryz.f168,Wz,Zlc,λN=>[(198,Zea N),(44,Z5 N),(195,Zgn N),(156,Zi8 N),(199,Zmt N)]⟩
theorem Zwf(N:Nat):GW 168 (Zlc N):=GF Zwe N Tryz.func168 (GC (Zhl N) (GC (Zad N) (GC (Zk2 N) (GC (Zng N) (GC (Zym N) Wa)))))
def Zgy(N:Nat):Sig:=Sig.of [.box Jv,.v Ja false,.v Ja false] [] (λd=>Zgd N d.1 d.2.1 d.2.2.1)
def Zs7:Fn:=⟨Tryz.f138,λ |0=>[.opn 13]|_=>[],Zgy,λN=>[(167,Zms N),(119,Zig N),(168,Zlc N)]⟩
theorem Znh(N:Nat):GW 138 (Zgy N):=GF Zs7 N Tryz.func138 (GC (Zyh N) (GC (Zn4 N) (GC (Zwf N) Wa)))
def Ziw(N:Nat):Sig:=Sig.of [.v Ja false] [.v Jx true,.v Jp false] (λd=>Zew N d.1)
def Zxh:Fn:=⟨Tryz.f170,Wz,Ziw,λN=>[(165,Zb1 N)]⟩
theorem Zom(N:Nat):GW 170 (Ziw N):=GF Zxh N Tryz.func170 (GC (Zdg N) Wa)
def Zc0(N:Nat):Sig:=Sig.of [.v Jt true] [.v Jp false] (λd=>Zb7 N d.1)
def Zlt:Fn:=⟨Tryz.f40,λ |2=>[.canon [1,6,7,8,9]]|3=>[.canon [1,4,6,7,8]]|4=>[.canon [1,6,7,8,29]]|5=>[.canon [2]]|6=>[.canon [1,6,7,8]]|100002=>[.canon [1,6,7,8]]|_=>[],Zc0,λN=>[(76,Za5 N),(44,Z5 N)]⟩
def Zwg(t2:List Kb)(t4:Int)(b5:Int×List Kb):St:=⟨[(1,vP 0 0),(6,vV Je t2),(7,vI (Wb b5.2)),(8,vI t4)],[(0,.box [.val Ja b5.1,.val Je b5.2])],1⟩
def Zu0(t2:List Kb)(b5:Int×List Kb):St:=⟨[(2,vB false)],[],0⟩
def Zu1(t2:List Kb)(b5:Int×List Kb)(aO:Int)(bh:Bool):St:=⟨[(1,vP 0 0),(6,vV Je t2),(7,vI (Wb b5.2)),(8,vI aO),(9,vB bh)],[(0,.box [.val Ja b5.1,.val Je b5.2])],1⟩
theorem Zwh(N:Nat){R:Type}(K:Ex->St->Option R){t2:List Kb}{b5:Int×List Kb}{K0:Option R}{K1:Int->Bool->Option R}(h0:K0=K .ret (Zu0 t2 b5))(h1:K1= λaO bh=>K (.exit 0) (Zu1 t2 b5 aO bh))(n:Nat)(t4:Int):Zd1 N t2 b5 K0 K1 n t4=LM Zlt N 0 100002 n (Zwg t2 t4 b5) K:=by
  subst h0 h1
  induction n generalizing t4 with
  |zero=>kernel_rfl
  |succ n ih=>rw[Zd1];simp only[ih];kernel_rfl
theorem Z0s(N:Nat)(m1:Int×List Kb):DN Zlt N (m1,())=Zb7 N m1:=by
  conv=>rhs;rw[Zb7];simp(disch:=exact id (by kernel_rfl)) only[Zwh (R:=Unit×Ko) N (CF Zlt N [1,0,1,0])]
  kernel_rfl
theorem Zf4(N:Nat):GW 40 (Zc0 N):=GF Zlt N Tryz.func40 (GC (Zbq N) (GC (Zad N) Wa)) (λd=>Z0s N d.1)
def Zmu(N:Nat):Sig:=Sig.of [.v Jx true] [.v Jp false] (λd=>Zli N d.1)
def Zyn:Fn:=⟨Tryz.f200,Wz,Zmu,λN=>[(165,Zb1 N),(44,Z5 N),(76,Za5 N)]⟩
theorem Zyo(N:Nat):GW 200 (Zmu N):=GF Zyn N Tryz.func200 (GC (Zdg N) (GC (Zad N) (GC (Zbq N) Wa)))
def Zih(N:Nat):Sig:=Sig.of [.v Jt true,.v Ja false,.v Jx true] [.v Jx true] (λd=>Zd2 N d.1 d.2.1 d.2.2.1)
def Zwi:Fn:=⟨Tryz.f171,Wz,Zih,λN=>[(40,Zc0 N),(200,Zmu N)]⟩
theorem Zn5(N:Nat):GW 171 (Zih N):=GF Zwi N Tryz.func171 (GC (Zf4 N) (GC (Zyo N) Wa))
def Zgb(N:Nat):Sig:=Sig.of [.box Jab] [] (λd=>Zcy N d.1)
def Zp1:Fn:=⟨Tryz.f172,Wz,Zgb,λN=>[(110,Zct N)]⟩
theorem Zl9(N:Nat):GW 172 (Zgb N):=GF Zp1 N Tryz.func172 (GC (Zgh N) Wa)
def Zkf(N:Nat):Sig:=Sig.of [.boxal Jv 3,.v Jx true] [] (λd=>Zio N d.1 d.2.1 d.2.2.1)
def Zu2:Fn:=⟨Tryz.f139,λ |1000000=>[.unfE 1]|_=>[],Zkf,λN=>[(169,Zj8 N),(170,Ziw N),(171,Zih N),(172,Zgb N)]⟩
theorem Zu3(N:Nat):GW 139 (Zkf N):=GF Zu2 N Tryz.func139 (GC (Zoc N) (GC (Zom N) (GC (Zn5 N) (GC (Zl9 N) Wa))))
def Zii(N:Nat):Sig:=Sig.of [.box Jab] [.v (.prod Ja Jaf) true] (λd=>Zhe N d.1)
def Zwj:Fn:=⟨Tryz.f114,Wz,Zii,Wbd⟩
theorem Zn6(N:Nat):GW 114 (Zii N):=GF Zwj N Tryz.func114 Wa
def Zij(N:Nat):Sig:=Sig.of [.v Jae true] [.v Jq true] (λd=>Zhf N d.1)
def Zwk:Fn:=⟨Tryz.f178,Wz,Zij,λN=>[(93,Z8 N)]⟩
theorem Zn7(N:Nat):GW 178 (Zij N):=GF Zwk N Tryz.func178 (GC (Zah N) Wa)
def Zju(N:Nat):Sig:=Sig.of [.v Jae true] [.v Jp false] (λd=>Zi4 N d.1)
def Zyp:Fn:=⟨Tryz.f179,Wz,Zju,λN=>[(67,Zd9 N),(76,Za5 N)]⟩
theorem Zo2(N:Nat):GW 179 (Zju N):=GF Zyp N Tryz.func179 (GC (Zhj N) (GC (Zbq N) Wa))
def Zni(N:Nat):Sig:=Sig.of [.v Jl true] [.v Jp false] (λd=>Zmc N d.1)
def Zzx:Fn:=⟨Tryz.f180,Wz,Zni,λN=>[(105,Zek N),(76,Za5 N)]⟩
theorem Zzy(N:Nat):GW 180 (Zni N):=GF Zzx N Tryz.func180 (GC (Zg7 N) (GC (Zbq N) Wa))
def Zix(N:Nat):Sig:=Sig.of [.v Jj false,.v Ja false] [.v Jac false,.v Ja false,.v Jp false] (λd=>Zh9 N d.1 d.2.1)
def Zxi:Fn:=⟨Tryz.f181,Wz,Zix,λN=>[(93,Z8 N),(67,Zd9 N),(105,Zek N),(106,Zj7 N),(68,Zf2 N)]⟩
theorem Zon(N:Nat):GW 181 (Zix N):=GF Zxi N Tryz.func181 (GC (Zah N) (GC (Zhj N) (GC (Zg7 N) (GC (Zob N) (GC (Zjo N) Wa)))))
def Zmv(N:Nat):Sig:=Sig.of [.v Jae true,.v Jl true] [.v Jq true,.v Jp false] (λd=>Zlj N d.1 d.2.1)
def Zyq:Fn:=⟨Tryz.f146,Wz,Zmv,λN=>[(178,Zij N),(179,Zju N),(180,Zni N),(80,Zhk N),(181,Zix N)]⟩
theorem Zyr(N:Nat):GW 146 (Zmv N):=GF Zyq N Tryz.func146 (GC (Zn7 N) (GC (Zo2 N) (GC (Zzy N) (GC (Zmr N) (GC (Zon N) Wa)))))
def Zhs(N:Nat):Sig:=Sig.of [.boxal Jv 3] [] (λd=>Zcc N d.1 d.2.1)
def Zu4:Fn:=⟨Tryz.f115,λ |1000000=>[.unfE 1]|_=>[],Zhs,λN=>[(146,Zmv N)]⟩
theorem Zno(N:Nat):GW 115 (Zhs N):=GF Zu4 N Tryz.func115 (GC (Zyr N) Wa)
def Zc9(N:Nat):Sig:=Sig.of [.v Jn false] [.v (.own Jw) false] (λd=>Zbj N d.1)
def Zxj:Fn:=⟨Tryz.f147,Wz,Zc9,Wbd⟩
theorem Zgx(N:Nat):GW 147 (Zc9 N):=GF Zxj N Tryz.func147 Wa
def Zlu(N:Nat):Sig:=Sig.of [.v Jc false,.v Ja false] [.v Ja false] (λd=>Zhb N d.1 d.2.1)
def Zlv:Fn:=⟨Tryz.f96,λ |5=>[.canon [0,5,6,25]]|6=>[.canon [0,5,6]]|7=>[.canon [0,5,6]]|8=>[.canon [0,5,6,36]]|9=>[.canon [4]]|100005=>[.canon [0,5,6]]|_=>[],Zlu,λN=>[(44,Z5 N),(136,Zi6 N)]⟩
def Zwl(az:List Ka)(n5:Int)(k6:Int):St:=⟨[(0,vV Jc az),(5,vI n5),(6,vI k6)],[],0⟩
def Zu5(az:List Ka)(t8:Int):St:=⟨[(4,vI t8)],[],0⟩
def Zu6(az:List Ka)(n9:Int)(k10:Int)(aL:Bool):St:=⟨[(0,vV Jc az),(5,vI n9),(6,vI k10),(25,vB aL)],[],0⟩
theorem Zwm(N:Nat){R:Type}(K:Ex->St->Option R){az:List Ka}{K0:Int->Option R}{K1:Int->Int->Bool->Option R}(h0:K0= λt8=>K .ret (Zu5 az t8))(h1:K1= λn9 k10 aL=>K (.exit 0) (Zu6 az n9 k10 aL))(n:Nat)(n5:Int)(k6:Int):Zd3 N az K0 K1 n n5 k6=LM Zlv N 0 100005 n (Zwl az n5 k6) K:=by
  subst h0 h1
  induction n generalizing n5 k6 with
  |zero=>kernel_rfl
  |succ n ih=>rw[Zd3];simp only[ih];kernel_rfl
theorem Z0t(N:Nat)(ad:List Ka)(i2:Int):DN Zlv N (ad,i2,())=Zhb N ad i2:=by
  conv=>rhs;rw[Zhb];simp(disch:=exact id (by kernel_rfl)) only[Zwm (R:=Unit×Kh) N (CF Zlv N [1,1,1,0,1,0])]
  kernel_rfl
theorem Zq4(N:Nat):GW 96 (Zlu N):=GF Zlv N Tryz.func96 (GC (Zad N) (GC (Zny N) Wa)) (λd=>Z0t N d.1 d.2.1)
def Zjv(N:Nat):Sig:=Sig.of [.box Jv,.v Ja false,.v Jc false] [] (λd=>Zia N d.1 d.2.1 d.2.2.1)
def Zs8:Fn:=⟨Tryz.f140,λ |0=>[.opn 13]|_=>[],Zjv,λN=>[(138,Zgy N),(114,Zii N),(115,Zhs N),(93,Z8 N),(147,Zc9 N),(96,Zlu N)]⟩
theorem Zs9(N:Nat):GW 140 (Zjv N):=GF Zs8 N Tryz.func140 (GC (Znh N) (GC (Zn6 N) (GC (Zno N) (GC (Zah N) (GC (Zgx N) (GC (Zq4 N) Wa))))))
def Zl3(N:Nat):Sig:=Sig.of [.v Ja false,.v Jj false,.v Jn false,.v Ja false] [.v Jz true] (λd=>Zgj N d.1 d.2.1 d.2.2.1 d.2.2.2.1)
def Zfg:Fn:=⟨Tryz.f141,λ |3=>[.canon [1,3,8,9,19,20,21,22]]|4=>[.canon [1,3,8,9,11,19,20,21]]|5=>[.canon [1,3,8,9,19,20,21]]|6=>[.canon [1,3,8,9,19,20,21]]|8=>[.canon [1,8,9,36,37,38]]|9=>[.nest 44 Jh,.canon [1,8,9,36,37]]|10=>[.canon [1,8,9,36,37]]|100003=>[.adoptC 9 6 Jl,.canon [1,3,8,9,19,20,21]]|100008=>[.adoptC 9 9 Jh,.canon [1,8,9,36,37]]|_=>[],Zl3,λN=>[(93,Z8 N),(156,Zi8 N)]⟩
def Zq5(dv:List Int)(dw:Int)(t9:Int)(aA:Int)(cT:Int)(da:List Kc)(dT:List Int)(cX:List Kb):St:=⟨[(1,vV Jj dv),(3,vI dw),(8,vP 0 0),(9,vP 1 0),(19,vO 2),(20,vI t9),(21,vI aA)],[(0,.box [.val Ja (0:Int),.val Ja (0:Int),.val Ja (0:Int),.val Jp false,.nils,.nils,.nils,.nils,.nils,.nils]),(1,.box [.val Ja cT,.val Ja (0:Int),.val Ja (0:Int),.val Jp false,.own 3,.own 2,.own 4,.nils,.nils,.nils]),(2,.arr Jw da),(3,.arr Ja dT),(4,.arr Jl cX)],5⟩
def Zp2(dv:List Int)(dw:Int)(t9:Int)(cT:Int)(da:List Kc)(dT:List Int)(t22:Int)(fh:Bool)(dc:List Kb):St:=⟨[(1,vV Jj dv),(3,vI dw),(8,vP 0 0),(9,vP 1 0),(19,vO 2),(20,vI t9),(21,vI t22),(22,vB fh)],[(0,.box [.val Ja (0:Int),.val Ja (0:Int),.val Ja (0:Int),.val Jp false,.nils,.nils,.nils,.nils,.nils,.nils]),(1,.box [.val Ja cT,.val Ja (0:Int),.val Ja (0:Int),.val Jp false,.own 3,.own 2,.own 4,.nils,.nils,.nils]),(2,.arr Jw da),(3,.arr Ja dT),(4,.arr Jl dc)],5⟩
theorem Zq6(N:Nat){R:Type}(K:Ex->St->Option R){dv:List Int}{dw:Int}{t9:Int}{cT:Int}{da:List Kc}{dT:List Int}{K0:Int->Bool->Kr->Option R}(h0:K0= λt22 fh dc=>K (.exit 0) (Zp2 dv dw t9 cT da dT t22 fh dc))(n:Nat)(aA:Int)(cX:List Kb):Zcf N dv dw t9 cT da dT K0 n aA cX=LM Zfg N 0 100003 n (Zq5 dv dw t9 aA cT da dT cX) K:=by
  subst h0
  induction n generalizing aA cX with
  |zero=>kernel_rfl
  |succ n ih=>rw[Zcf];simp only[ih];kernel_rfl
def Zq7(ci:List Int)(kq:Int)(lb:Int)(lP:Int)(lQ:List Int)(lR:List Kc)(kr:List Kb)(cx:List Y_KidRun):St:=⟨[(1,vV Jj ci),(8,vP 0 0),(9,vP 1 0),(36,vI kq),(37,vI lb)],[(0,.box [.val Ja (0:Int),.val Ja (0:Int),.val Ja (0:Int),.val Jp false,.nils,.nils,.nils,.nils,.nils,.nils]),(1,.box [.val Ja lP,.val Ja (0:Int),.val Ja (0:Int),.val Jp false,.own 2,.own 3,.own 4,.nils,.nils,.own 5]),(2,.arr Ja lQ),(3,.arr Jw lR),(4,.arr Jl kr),(5,.arr Jh cx)],6⟩
def Zp3(ci:List Int)(kq:Int)(lP:Int)(lQ:List Int)(lR:List Kc)(kr:List Kb)(t45:Int)(t46:Bool)(l0:List Y_KidRun):St:=⟨[(1,vV Jj ci),(8,vP 0 0),(9,vP 1 0),(36,vI kq),(37,vI t45),(38,vB t46)],[(0,.box [.val Ja (0:Int),.val Ja (0:Int),.val Ja (0:Int),.val Jp false,.nils,.nils,.nils,.nils,.nils,.nils]),(1,.box [.val Ja lP,.val Ja (0:Int),.val Ja (0:Int),.val Jp false,.own 2,.own 3,.own 4,.nils,.nils,.own 5]),(2,.arr Ja lQ),(3,.arr Jw lR),(4,.arr Jl kr),(5,.arr Jh l0)],6⟩
theorem Zq8(N:Nat){R:Type}(K:Ex->St->Option R){ci:List Int}{kq:Int}{lP:Int}{lQ:List Int}{lR:List Kc}{kr:List Kb}{K0:Int->Bool->(List Y_KidRun)->Option R}(h0:K0= λt45 t46 l0=>K (.exit 2) (Zp3 ci kq lP lQ lR kr t45 t46 l0))(n:Nat)(lb:Int)(cx:List Y_KidRun):Zbf N ci kq lP lQ lR kr K0 n lb cx=LM Zfg N 1 100008 n (Zq7 ci kq lb lP lQ lR kr cx) K:=by
  subst h0
  induction n generalizing lb cx with
  |zero=>kernel_rfl
  |succ n ih=>rw[Zbf];simp only[ih];kernel_rfl
theorem Zxk(N:Nat)(qs:Int)(bi:List Int)(ey:List Kc)(gH:Int):DN Zfg N (qs,bi,ey,gH,())=Zgj N qs bi ey gH:=by
  conv=>rhs;rw[Zgj];simp(disch:=exact id (by kernel_rfl)) only[Zq6 (R:=Unit×(Y_Family×Unit)) N (CF Zfg N [1,1,0,1,0]),Zq8 (R:=Unit×(Y_Family×Unit)) N (CF Zfg N [1,1,1,0,1,0])]
  kernel_rfl
theorem Zxl(N:Nat):GW 141 (Zl3 N):=GF Zfg N Tryz.func141 (GC (Zah N) (GC (Zng N) Wa)) (λd=>Zxk N d.1 d.2.1 d.2.2.1 d.2.2.2.1)
def Zld(N:Nat):Sig:=Sig.of [.v Jx true] [.v Ja false,.v Ja false] (λd=>Zjf N d.1)
def Zwn:Fn:=⟨Tryz.f173,Wz,Zld,λN=>[(131,Zh3 N)]⟩
theorem Zwo(N:Nat):GW 173 (Zld N):=GF Zwn N Tryz.func173 (GC (Zme N) Wa)
def Zik(N:Nat):Sig:=Sig.of [.v Je false] [.v (.own Jl) false] (λd=>Zd6 N d.1)
def Zwp:Fn:=⟨Tryz.f150,Wz,Zik,Wbd⟩
theorem Zn8(N:Nat):GW 150 (Zik N):=GF Zwp N Tryz.func150 Wa
def Znj(N:Nat):Sig:=Sig.of [.v Je false,.v Ja false,.v Ja false,.v Ja false] [.v Jac false] (λd=>Zh2 N d.1 d.2.1 d.2.2.1 d.2.2.2.1)
def Zk3:Fn:=⟨Tryz.f201,λ |5=>[.canon [1,2,3,9,21,22,23,24]]|6=>[.canon [1,2,3,9,11,21,22,23]]|7=>[.canon [1,2,3,9,11,21,22,23,45]]|8=>[.canon [1,2,3,9,21,22,23]]|9=>[.canon [1,2,3,9,21,22,23]]|100005=>[.canon [1,2,3,9,21,22,23]]|_=>[],Znj,λN=>[(151,Zf3 N),(44,Z5 N)]⟩
def Zu7(dz:Int)(cb:Int)(cd:Int)(aA:List Kb)(aO:Int)(aK:List Int):St:=⟨[(1,vI dz),(2,vI cb),(3,vI cd),(9,vO 0),(21,vV Je aA),(22,vI (Wb aA)),(23,vI aO)],[(0,.arr Ja aK)],1⟩
def Zta(dz:Int)(cb:Int)(cd:Int)(aA:List Kb)(gG:Int)(bS:Bool)(dh:List Int):St:=⟨[(1,vI dz),(2,vI cb),(3,vI cd),(9,vO 0),(21,vV Je aA),(22,vI (Wb aA)),(23,vI gG),(24,vB bS)],[(0,.arr Ja dh)],1⟩
theorem Zu8(N:Nat){R:Type}(K:Ex->St->Option R){dz:Int}{cb:Int}{cd:Int}{aA:List Kb}{K0:Int->Bool->Ki->Option R}(h0:K0= λgG bS dh=>K (.exit 0) (Zta dz cb cd aA gG bS dh))(n:Nat)(aO:Int)(aK:List Int):Za9 N dz cb cd aA K0 n aO aK=LM Zk3 N 0 100005 n (Zu7 dz cb cd aA aO aK) K:=by
  subst h0
  induction n generalizing aO aK with
  |zero=>kernel_rfl
  |succ n ih=>rw[Za9];simp only[ih];kernel_rfl
theorem Zzz(N:Nat)(l1:List Kb)(cp:Int)(cq:Int)(ce:Int):DN Zk3 N (l1,cp,cq,ce,())=Zh2 N l1 cp cq ce:=by
  conv=>rhs;rw[Zh2];simp(disch:=exact id (by kernel_rfl)) only[Zu8 (R:=Unit×Ku) N (CF Zk3 N [1,1,1,0,1,0])]
  kernel_rfl
theorem Zz0(N:Nat):GW 201 (Znj N):=GF Zk3 N Tryz.func201 (GC (Zjr N) (GC (Zad N) Wa)) (λd=>Zzz N d.1 d.2.1 d.2.2.1 d.2.2.2.1)
def Zbi(N:Nat):Sig:=Sig.of [.mut Jl,.clos 193 0] [] (λd=>Zw N d.1)
theorem Zeq:CmpOk Tryz.prog 193 Jl WvI cfH:=by
  intro G x y us vs w hx hy h1 h2;obtain⟨_,_,rfl,a1,_,_,rfl,a2,a3⟩:=h1;obtain⟨_,_,rfl,b1,_,_,rfl,b2,b3⟩:=h2;simp only[Enc]at a1 a2 a3 b1 b2 b3;subst a1 a2 a3 b1 b2 b3;simp only[Xbf,Xca];unfold WvI at hx hy;simp only[Xh]at hx hy
  go_enter Tryz.func193,Tryz.ntmps193
  go_wp2
  rw[guard_run (a:=x.2.1) (b:=y.2.1),Result.andThen_ok];rw[neq_run (a:=x.2.1) (b:=y.2.1),Result.andThen_ok];rcases hb:(bne (α:=Int) x.2.1 y.2.1)with _|_
  . go_wp2
    rw[sub_run (WgM hx.1) (WgM hy.1) (WvY hb)]
    go_wp2
    go_ret
    exact⟨rfl,two_grow _ _ _⟩
  . go_wp2
    rw[sub_run (WgM hx.2) (WgM hy.2) (Wwa hb)]
    go_wp2
    go_ret
    exact⟨rfl,two_grow _ _ _⟩
theorem Zer(N:Nat):GW 202 (Zbi N):=⟨Wd2 Tryz.func202 (show WpH Tryz.f202=true by kernel_rfl),good_sortF sortFH (e:=.prod Ja Jw) rfl (by decide) Tryz.isAgg199 Tryz.sizeOf199 (enters_of Tryz.func193 (by kernel_rfl) rfl) Wxf Zeq N⟩
def Zmw(N:Nat):Sig:=Sig.of [.v Je false,.v Ja false,.v Ja false,.v Ja false] [.v (.own Jl) false,.v Jp false] (λd=>Zg4 N d.1 d.2.1 d.2.2.1 d.2.2.2.1)
def Zjw:Fn:=⟨Tryz.f174,λ |5=>[.canon [1,2,3,10,35,36,37,38]]|6=>[.canon [1,2,3,10,11,12,35,36,37]]|7=>[.canon [1,2,3,10,11,12,35,36,37,51]]|8=>[.canon [10]]|9=>[.canon [8,9]]|10=>[.canon [1,2,3,10,35,36,37]]|100005=>[.canon [1,2,3,10,35,36,37]]|_=>[],Zmw,λN=>[(150,Zik N),(151,Zf3 N),(192,Zk0 N),(201,Znj N),(202,Zbi N)]⟩
def Ztb(dL:Int)(bF:Int)(bG:Int)(aO:Int)(bh:Int)(bb:List Kb):St:=⟨[(1,vI dL),(2,vI bF),(3,vI bG),(10,vO 0),(35,vO 0),(36,vI aO),(37,vI bh)],[(0,.arr Jl bb)],1⟩
def Zq9(dL:Int)(bF:Int)(bG:Int)(aO:Int)(bb:List Kb)(bp:List Kb):St:=⟨[(8,vO 0),(9,vB true)],[(0,.arr Jl bp)],1⟩
def Zra(dL:Int)(bF:Int)(bG:Int)(aO:Int)(bb:List Kb)(ij:Int)(eE:Bool):St:=⟨[(1,vI dL),(2,vI bF),(3,vI bG),(10,vO 0),(35,vO 0),(36,vI aO),(37,vI ij),(38,vB eE)],[(0,.arr Jl bb)],1⟩
theorem Ztc(N:Nat){R:Type}(K:Ex->St->Option R){dL:Int}{bF:Int}{bG:Int}{aO:Int}{bb:List Kb}{K0:Kr->Option R}{K1:Int->Bool->Option R}(h0:K0= λbp=>K .ret (Zq9 dL bF bG aO bb bp))(h1:K1= λij eE=>K (.exit 0) (Zra dL bF bG aO bb ij eE))(n:Nat)(bh:Int):Zb5 N dL bF bG aO bb K0 K1 n bh=LM Zjw N 0 100005 n (Ztb dL bF bG aO bh bb) K:=by
  subst h0 h1
  induction n generalizing bh with
  |zero=>kernel_rfl
  |succ n ih=>rw[Zb5];simp only[ih];kernel_rfl
theorem Zys(N:Nat)(l1:List Kb)(cp:Int)(cq:Int)(ce:Int):DN Zjw N (l1,cp,cq,ce,())=Zg4 N l1 cp cq ce:=by
  conv=>rhs;rw[Zg4];simp(disch:=exact id (by kernel_rfl)) only[Ztc (R:=Unit×(Kr×Ko)) N (CF Zjw N [1,1,1,0,1,0])]
  kernel_rfl
theorem Zyt(N:Nat):GW 174 (Zmw N):=GF Zjw N Tryz.func174 (GC (Zn8 N) (GC (Zjr N) (GC (Zpo N) (GC (Zz0 N) (GC (Zer N) Wa))))) (λd=>Zys N d.1 d.2.1 d.2.2.1 d.2.2.2.1)
def Znk(N:Nat):Sig:=Sig.of [.v Ja false,.v Ja false] [.v Jl true] (λd=>Zj4 N d.1 d.2.1)
def Zz1:Fn:=⟨Tryz.f203,Wz,Znk,Wbd⟩
theorem Zz2(N:Nat):GW 203 (Znk N):=GF Zz1 N Tryz.func203 Wa
def Zmx(N:Nat):Sig:=Sig.of [.v Jae true,.v Jx true,.v Jj false] [.v Jq true,.v Jac false,.v Jl true,.v Jp false] (λd=>Zlk N d.1 d.2.1 d.2.2.1)
def Zyu:Fn:=⟨Tryz.f175,Wz,Zmx,λN=>[(178,Zij N),(93,Z8 N),(179,Zju N),(81,Zcs N),(129,Zjl N),(80,Zhk N),(203,Znk N),(68,Zf2 N),(181,Zix N)]⟩
theorem Zyv(N:Nat):GW 175 (Zmx N):=GF Zyu N Tryz.func175 (GC (Zn7 N) (GC (Zah N) (GC (Zo2 N) (GC (Zgg N) (GC (Zoy N) (GC (Zmr N) (GC (Zz2 N) (GC (Zjo N) (GC (Zon N) Wa)))))))))
def Zjx(N:Nat):Sig:=Sig.of [.box Jv,.v Ja false,.v Jx true] [] (λd=>Zge N d.1 d.2.1 d.2.2.1)
def Ztd:Fn:=⟨Tryz.f142,λ |1=>[.opn 20]|_=>[],Zjx,λN=>[(173,Zld N),(174,Zmw N),(172,Zgb N),(175,Zmx N)]⟩
theorem Zte(N:Nat):GW 142 (Zjx N):=GF Ztd N Tryz.func142 (GC (Zwo N) (GC (Zyt N) (GC (Zl9 N) (GC (Zyv N) Wa))))
def Zgo(N:Nat):Sig:=Sig.of [.rp (TY_Root)] [.vj Jx] (λd=>Zdk N d.1)
def Zrb:Fn:=⟨Tryz.f114,Wz,Zgo,Wbd⟩
theorem Zm1(N:Nat):GW 114 (Zgo N):=GF Zrb N Tryz.func114 Wa
def Zmh(N:Nat):Sig:=Sig.of [.v Jx true,.v Jj false] [.v Jac false,.v Jp false] (λd=>Zl7 N d.1 d.2.1)
def Z03:Fn:=⟨Tryz.f95,Wz,Zmh,λN=>[(93,Z8 N),(131,Zh3 N),(81,Zcs N)]⟩
theorem Ztt(N:Nat):GW 95 (Zmh N):=GF Z03 N Tryz.func95 (GC (Zah N) (GC (Zme N) (GC (Zgg N) Wa)))
def Zle(N:Nat):Sig:=Sig.of [.box Jv,.v Ja false,.v Jk true] [] (λd=>Zhg N d.1 d.2.1 d.2.2.1)
def Zwq:Fn:=⟨Tryz.f112,λ |1=>[.opn 14]|_=>[],Zle,λN=>[(138,Zgy N),(139,Zkf N),(140,Zjv N),(141,Zl3 N),(142,Zjx N),(93,Z8 N),(114,Zgo N),(95,Zmh N)]⟩
theorem Zwr(N:Nat):GW 112 (Zle N):=GF Zwq N Tryz.func112 (GC (Znh N) (GC (Zu3 N) (GC (Zs9 N) (GC (Zxl N) (GC (Zte N) (GC (Zah N) (GC (Zm1 N) (GC (Ztt N) Wa))))))))
def Zlf(N:Nat):Sig:=Sig.of [.v (TY_KidRun) true] [.v Jp false] (λd=>Zml N d.1)
def Zws:Fn:=⟨Tryz.f177,Wz,Zlf,Wbd⟩
theorem Zwt(N:Nat):GW 177 (Zlf N):=GF Zws N Tryz.func177 Wa
def Zao(N:Nat):Sig:=Sig.of [.v Jad false,.clos 177 0] [.v Ja false] (λd=>Zv N d.1)
def Z6:Fn:=⟨Tryz.f204,λ |2=>[.canon [0,1,7,8,9]]|3=>[.canon [0,1,5,7,8]]|4=>[.canon [0,1,5,7,8,16]]|5=>[.canon [1,4]]|6=>[.canon [0,1,7,8]]|100002=>[.canon [0,1,7,8]]|_=>[],Zao,λN=>[(177,Zlf N)]⟩
def Zdh(s2:List Y_KidRun)(t4:Int):St:=⟨[(0,vV Jad s2),(1,.s (.one (.clos 177 []))),(7,vI (Wb s2)),(8,vI t4)],[],0⟩
def Zda(s2:List Y_KidRun)(t7:Int):St:=⟨[(1,.s (.one (.clos 177 []))),(4,vI t7)],[],0⟩
def Zdb(s2:List Y_KidRun)(t8:Int)(t9:Bool):St:=⟨[(0,vV Jad s2),(1,.s (.one (.clos 177 []))),(7,vI (Wb s2)),(8,vI t8),(9,vB t9)],[],0⟩
theorem Zdi(N:Nat){R:Type}(K:Ex->St->Option R){s2:List Y_KidRun}{K0:Int->Option R}{K1:Int->Bool->Option R}(h0:K0= λt7=>K .ret (Zda s2 t7))(h1:K1= λt8 t9=>K (.exit 0) (Zdb s2 t8 t9))(n:Nat)(t4:Int):Zg N s2 K0 K1 n t4=LM Z6 N 0 100002 n (Zdh s2 t4) K:=by
  subst h0 h1
  induction n generalizing t4 with
  |zero=>kernel_rfl
  |succ n ih=>rw[Zg];simp only[ih];kernel_rfl
theorem Zen(N:Nat)(s1:List Y_KidRun):DN Z6 N (s1,())=Zv N s1:=by
  conv=>rhs;rw[Zv];simp(disch:=exact id (by kernel_rfl)) only[Zdi (R:=Unit×Kh) N (CF Z6 N [1,0,1,0])]
  kernel_rfl
theorem Zeo(N:Nat):GW 204 (Zao N):=GF Z6 N Tryz.func204 (GC (Zwt N) Wa) (λd=>Zen N d.1)
def Zai(N:Nat):Sig:=Sig.of [.v Jad false,.clos 177 0] [.v Jp false] (λd=>Zal N d.1)
def Zdl:Fn:=⟨Tryz.f176,Wz,Zai,λN=>[(204,Zao N)]⟩
theorem Zdm(N:Nat):GW 176 (Zai N):=GF Zdl N Tryz.func176 (GC (Zeo N) Wa)
def Zmy(N:Nat):Sig:=Sig.of [.v (TY_Family) true] [.v Jp false] (λd=>Zll N d.1)
def Zyw:Fn:=⟨Tryz.f143,Wz,Zmy,λN=>[(176,Zai N)]⟩
theorem Zyx(N:Nat):GW 143 (Zmy N):=GF Zyw N Tryz.func143 (GC (Zdm N) Wa)
def Zmz(N:Nat):Sig:=Sig.of [.v (TY_Family) true] [.v Jac false] (λd=>Zg5 N d.1)
def Zjy:Fn:=⟨Tryz.f144,λ |5=>[.canon [3,20,21,22,23]]|6=>[.canon [3,4,5,20,21,22]]|7=>[.canon [3,4,5,20,21,22]]|8=>[.canon [3,4,5,20,21,22,37]]|9=>[.canon [3,20,21,22]]|10=>[.canon [3,20,21,22]]|100005=>[.canon [3,20,21,22]]|_=>[],Zmz,λN=>[(81,Zcs N),(93,Z8 N)]⟩
def Ztf(t4:List Y_KidRun)(t5:Int)(t6:Int)(l7:List Int):St:=⟨[(3,vO 0),(20,vV Jad t4),(21,vI t5),(22,vI t6)],[(0,.arr Ja l7)],1⟩
def Zrc(t4:List Y_KidRun)(t5:Int)(aA:Int)(aL:Bool)(bq:List Int):St:=⟨[(3,vO 0),(20,vV Jad t4),(21,vI t5),(22,vI aA),(23,vB aL)],[(0,.arr Ja bq)],1⟩
theorem Ztg(N:Nat){R:Type}(K:Ex->St->Option R){t4:List Y_KidRun}{t5:Int}{K0:Int->Bool->Ki->Option R}(h0:K0= λaA aL bq=>K (.exit 0) (Zrc t4 t5 aA aL bq))(n:Nat)(t6:Int)(l7:List Int):Zbm N t4 t5 K0 n t6 l7=LM Zjy N 0 100005 n (Ztf t4 t5 t6 l7) K:=by
  subst h0
  induction n generalizing t6 l7 with
  |zero=>kernel_rfl
  |succ n ih=>rw[Zbm];simp only[ih];kernel_rfl
theorem Zyy(N:Nat)(f1:Y_Family):DN Zjy N (f1,())=Zg5 N f1:=by
  conv=>rhs;rw[Zg5];simp(disch:=exact id (by kernel_rfl)) only[Ztg (R:=Unit×Ku) N (CF Zjy N [1,1,1,0,1,0])]
  kernel_rfl
theorem Zyz(N:Nat):GW 144 (Zmz N):=GF Zjy N Tryz.func144 (GC (Zgg N) (GC (Zah N) Wa)) (λd=>Zyy N d.1)
def Zm0(N:Nat):Sig:=Sig.of [.v (TY_Family) true] [.v (.own Jw) false] (λd=>Zg6 N d.1)
def Zjz:Fn:=⟨Tryz.f145,λ |3=>[.canon [3,8,9,10,11]]|4=>[.canon [3,5,8,9,10]]|5=>[.canon [3,8,9,10]]|6=>[.canon [3,8,9,10]]|100003=>[.canon [3,8,9,10]]|_=>[],Zm0,Wbd⟩
def Zth(t2:List Kb)(t3:Int)(t4:Int)(l5:List Kc):St:=⟨[(3,vO 0),(8,vV Je t2),(9,vI t3),(10,vI t4)],[(0,.arr Jw l5)],1⟩
def Zrd(t2:List Kb)(t3:Int)(t6:Int)(t7:Bool)(l8:List Kc):St:=⟨[(3,vO 0),(8,vV Je t2),(9,vI t3),(10,vI t6),(11,vB t7)],[(0,.arr Jw l8)],1⟩
theorem Zti(N:Nat){R:Type}(K:Ex->St->Option R){t2:List Kb}{t3:Int}{K0:Int->Bool->Kw->Option R}(h0:K0= λt6 t7 l8=>K (.exit 0) (Zrd t2 t3 t6 t7 l8))(n:Nat)(t4:Int)(l5:List Kc):Zcq N t2 t3 K0 n t4 l5=LM Zjz N 0 100003 n (Zth t2 t3 t4 l5) K:=by
  subst h0
  induction n generalizing t4 l5 with
  |zero=>kernel_rfl
  |succ n ih=>rw[Zcq];simp only[ih];kernel_rfl
theorem Zy0(N:Nat)(f1:Y_Family):DN Zjz N (f1,())=Zg6 N f1:=by
  conv=>rhs;rw[Zg6];simp(disch:=exact id (by kernel_rfl)) only[Zti (R:=Unit×(Kw×Unit)) N (CF Zjz N [1,1,0,1,0])]
  kernel_rfl
theorem Zy1(N:Nat):GW 145 (Zm0 N):=GF Zjz N Tryz.func145 Wa (λd=>Zy0 N d.1)
def Zlg(N:Nat):Sig:=Sig.of [.box Jab] [] (λd=>Zhh N d.1)
def Zwu:Fn:=⟨Tryz.f113,Wz,Zlg,λN=>[(110,Zct N),(143,Zmy N),(144,Zmz N),(145,Zm0 N),(93,Z8 N)]⟩
theorem Zwv(N:Nat):GW 113 (Zlg N):=GF Zwu N Tryz.func113 (GC (Zgh N) (GC (Zyx N) (GC (Zyz N) (GC (Zy1 N) (GC (Zah N) Wa)))))
def Zi9(N:Nat):Sig:=Sig.of [.boxal Jv 3] [] (λd=>Zfs N d.1 d.2.1)
def Zre:Fn:=⟨Tryz.f116,λ |1000000=>[.unfE 1]|_=>[],Zi9,λN=>[(114,Zii N),(110,Zct N),(147,Zc9 N),(93,Z8 N)]⟩
theorem Zrf(N:Nat):GW 116 (Zi9 N):=GF Zre N Tryz.func116 (GC (Zn6 N) (GC (Zgh N) (GC (Zgx N) (GC (Zah N) Wa))))
def Zht(N:Nat):Sig:=Sig.of [.v (.prod Ja Jy) true] [.v Jd true] (λd=>Zgv N d.1)
def Zu9:Fn:=⟨Tryz.f182,Wz,Zht,λN=>[(147,Zc9 N),(93,Z8 N)]⟩
theorem Znp(N:Nat):GW 182 (Zht N):=GF Zu9 N Tryz.func182 (GC (Zgx N) (GC (Zah N) Wa))
def Zgc(N:Nat):Sig:=Sig.of [.v (.prod Ja Jy) true] [.v Ja false] (λd=>Zcz N d.1)
def Zp4:Fn:=⟨Tryz.f205,Wz,Zgc,Wbd⟩
theorem Zma(N:Nat):GW 205 (Zgc N):=GF Zp4 N Tryz.func205 Wa
def Ziy(N:Nat):Sig:=Sig.of [.v (.prod Ja Jy) true] [.v Jp false] (λd=>Zey N d.1)
def Zfh:Fn:=⟨Tryz.f183,λ |4=>[.canon [1,3,38]]|5=>[.canon [1,3]]|6=>[.canon [1,3,54]]|7=>[.canon [2]]|9=>[.canon [1,56,57,58,59]]|10=>[.canon [1,4,5,56,57,58]]|11=>[.canon [1,56,57,58,79]]|12=>[.canon [2]]|13=>[.canon [1,56,57,58]]|100004=>[.canon [1,3]]|100009=>[.canon [1,56,57,58]]|_=>[],Ziy,λN=>[(198,Zea N),(44,Z5 N),(195,Zgn N),(165,Zb1 N),(205,Zgc N)]⟩
def Zrg(i7:Int)(b8:Int×Int×Int×Int×Int×List Kc×List Int):St:=⟨[(1,vP 0 0),(3,vI i7)],[(0,.box [.val Ja b8.1,.val Ja b8.2.1,.val Ja b8.2.2.1,.val Ja b8.2.2.2.1,.val Ja b8.2.2.2.2.1,.val Jn b8.2.2.2.2.2.1,.val Jj b8.2.2.2.2.2.2])],1⟩
def Zp5(b8:Int×Int×Int×Int×Int×List Kc×List Int):St:=⟨[(2,vB false)],[],0⟩
def Zp6(b8:Int×Int×Int×Int×Int×List Kc×List Int)(i9:Int)(aA:Bool):St:=⟨[(1,vP 0 0),(3,vI i9),(38,vB aA)],[(0,.box [.val Ja b8.1,.val Ja b8.2.1,.val Ja b8.2.2.1,.val Ja b8.2.2.2.1,.val Ja b8.2.2.2.2.1,.val Jn b8.2.2.2.2.2.1,.val Jj b8.2.2.2.2.2.2])],1⟩
theorem Zrh(N:Nat){R:Type}(K:Ex->St->Option R){b8:Int×Int×Int×Int×Int×List Kc×List Int}{K0:Option R}{K1:Int->Bool->Option R}(h0:K0=K .ret (Zp5 b8))(h1:K1= λi9 aA=>K (.exit 0) (Zp6 b8 i9 aA))(n:Nat)(i7:Int):Zbt N b8 K0 K1 n i7=LM Zfh N 0 100004 n (Zrg i7 b8) K:=by
  subst h0 h1
  induction n generalizing i7 with
  |zero=>kernel_rfl
  |succ n ih=>rw[Zbt];simp only[ih];kernel_rfl
def Zri(bh:List Int)(bS:Int)(bf:Int×Int×Int×Int×Int×List Kc×List Int):St:=⟨[(1,vP 0 0),(56,vV Jj bh),(57,vI (Wb bf.2.2.2.2.2.2)),(58,vI bS)],[(0,.box [.val Ja bf.1,.val Ja bf.2.1,.val Ja bf.2.2.1,.val Ja bf.2.2.2.1,.val Ja bf.2.2.2.2.1,.val Jn bf.2.2.2.2.2.1,.val Jj bf.2.2.2.2.2.2])],1⟩
def Zp7(bh:List Int)(bf:Int×Int×Int×Int×Int×List Kc×List Int):St:=⟨[(2,vB false)],[],0⟩
def Zp8(bh:List Int)(bf:Int×Int×Int×Int×Int×List Kc×List Int)(fW:Int)(sQ:Bool):St:=⟨[(1,vP 0 0),(56,vV Jj bh),(57,vI (Wb bf.2.2.2.2.2.2)),(58,vI fW),(59,vB sQ)],[(0,.box [.val Ja bf.1,.val Ja bf.2.1,.val Ja bf.2.2.1,.val Ja bf.2.2.2.1,.val Ja bf.2.2.2.2.1,.val Jn bf.2.2.2.2.2.1,.val Jj bf.2.2.2.2.2.2])],1⟩
theorem Zrj(N:Nat){R:Type}(K:Ex->St->Option R){bh:List Int}{bf:Int×Int×Int×Int×Int×List Kc×List Int}{K0:Option R}{K1:Int->Bool->Option R}(h0:K0=K .ret (Zp7 bh bf))(h1:K1= λfW sQ=>K (.exit 2) (Zp8 bh bf fW sQ))(n:Nat)(bS:Int):Zbg N bh bf K0 K1 n bS=LM Zfh N 1 100009 n (Zri bh bS bf) K:=by
  subst h0 h1
  induction n generalizing bS with
  |zero=>kernel_rfl
  |succ n ih=>rw[Zbg];simp only[ih];kernel_rfl
theorem Zxm(N:Nat)(c1:Int×Int×Int×Int×Int×List Kc×List Int):DN Zfh N (c1,())=Zey N c1:=by
  conv=>rhs;rw[Zey];simp(disch:=exact id (by kernel_rfl)) only[Zrh (R:=Unit×Ko) N (CF Zfh N [1,1,0,1,0]),Zrj (R:=Unit×Ko) N (CF Zfh N [1,1,1,0,1,0])]
  kernel_rfl
theorem Zoo(N:Nat):GW 183 (Ziy N):=GF Zfh N Tryz.func183 (GC (Zhl N) (GC (Zad N) (GC (Zk2 N) (GC (Zdg N) (GC (Zma N) Wa))))) (λd=>Zxm N d.1)
def Ze4(N:Nat):Sig:=Sig.of [.box Jd,.v Ja false] [] (λd=>Z7 N d.1 d.2.1)
def Zo3:Fn:=⟨Tryz.f184,Wz,Ze4,Wbd⟩
theorem Zlh(N:Nat):GW 184 (Ze4 N):=GF Zo3 N Tryz.func184 Wa
def Zj0(N:Nat):Sig:=Sig.of [.v (.prod Ja Jy) true] [.v Jd true,.v Jp false] (λd=>Zib N d.1)
def Ztj:Fn:=⟨Tryz.f148,Wz,Zj0,λN=>[(182,Zht N),(183,Ziy N),(184,Ze4 N)]⟩
theorem Ztk(N:Nat):GW 148 (Zj0 N):=GF Ztj N Tryz.func148 (GC (Znp N) (GC (Zoo N) (GC (Zlh N) Wa)))
def Zeb(N:Nat):Sig:=Sig.of [.v Jt true] [.v Jah true] (λd=>Zb9 N d.1)
def Zy2:Fn:=⟨Tryz.f185,Wz,Zeb,Wbd⟩
theorem Zhm(N:Nat):GW 185 (Zeb N):=GF Zy2 N Tryz.func185 Wa
def Zod(N:Nat):Sig:=Sig.of [.v Jt true,.v Ja false,.v Ja false] [.v Jah true,.v Jp false] (λd=>Zl8 N d.1 d.2.1 d.2.2.1)
def Z04:Fn:=⟨Tryz.f186,Wz,Zod,λN=>[(185,Zeb N),(40,Zc0 N),(165,Zb1 N),(198,Zea N)]⟩
theorem Z05(N:Nat):GW 186 (Zod N):=GF Z04 N Tryz.func186 (GC (Zhm N) (GC (Zf4 N) (GC (Zdg N) (GC (Zhl N) Wa))))
def Zfq(N:Nat):Sig:=Sig.of [.box Jd,.v Ja false] [] (λd=>Zei N d.1 d.2.1)
def Zpe:Fn:=⟨Tryz.f189,Wz,Zfq,Wbd⟩
theorem Zlx(N:Nat):GW 189 (Zfq N):=GF Zpe N Tryz.func189 Wa
def Zj1(N:Nat):Sig:=Sig.of [.box Jd,.v Ja false] [] (λd=>Zbn N d.1 d.2.1)
def Ztl:Fn:=⟨Tryz.f187,Wz,Zj1,λN=>[(205,Zgc N),(189,Zfq N)]⟩
theorem Ztm(N:Nat):GW 187 (Zj1 N):=GF Ztl N Tryz.func187 (GC (Zma N) (GC (Zlx N) Wa))
def Zoe(N:Nat):Sig:=Sig.of [.v Jt true] [.v Jah true,.v Ja false] (λd=>Zn2 N d.1)
def Z06:Fn:=⟨Tryz.f188,Wz,Zoe,λN=>[(185,Zeb N),(40,Zc0 N)]⟩
theorem Z07(N:Nat):GW 188 (Zoe N):=GF Z06 N Tryz.func188 (GC (Zhm N) (GC (Zf4 N) Wa))
def Zn0(N:Nat):Sig:=Sig.of [.v Jt true,.v Ja false,.v Ja false,.v Ja false] [.v Jah true,.v Jp false] (λd=>Zm3 N d.1 d.2.1 d.2.2.1 d.2.2.2.1)
def Z0u:Fn:=⟨Tryz.f190,Wz,Zn0,λN=>[(185,Zeb N),(40,Zc0 N),(165,Zb1 N),(198,Zea N),(76,Za5 N)]⟩
theorem Z0v(N:Nat):GW 190 (Zn0 N):=GF Z0u N Tryz.func190 (GC (Zhm N) (GC (Zf4 N) (GC (Zdg N) (GC (Zhl N) (GC (Zbq N) Wa)))))
def Znl(N:Nat):Sig:=Sig.of [.v Jt true,.v Ja false,.v Ja false,.v Ja false] [.v Jah true,.v Jp false] (λd=>Zj5 N d.1 d.2.1 d.2.2.1 d.2.2.2.1)
def Zz3:Fn:=⟨Tryz.f191,Wz,Znl,λN=>[(185,Zeb N),(40,Zc0 N),(165,Zb1 N),(198,Zea N),(44,Z5 N)]⟩
theorem Zz4(N:Nat):GW 191 (Znl N):=GF Zz3 N Tryz.func191 (GC (Zhm N) (GC (Zf4 N) (GC (Zdg N) (GC (Zhl N) (GC (Zad N) Wa)))))
def Zkg(N:Nat):Sig:=Sig.of [.v Jt true,.v (.prod Ja Jy) true] [.v Jah true,.v Jd true] (λd=>Zip N d.1 d.2.1)
def Zva:Fn:=⟨Tryz.f149,Wz,Zkg,λN=>[(185,Zeb N),(182,Zht N),(40,Zc0 N),(183,Ziy N),(186,Zod N),(187,Zj1 N),(184,Ze4 N),(188,Zoe N),(189,Zfq N),(190,Zn0 N),(191,Znl N)]⟩
theorem Zvb(N:Nat):GW 149 (Zkg N):=GF Zva N Tryz.func149 (GC (Zhm N) (GC (Znp N) (GC (Zf4 N) (GC (Zoo N) (GC (Z05 N) (GC (Ztm N) (GC (Zlh N) (GC (Z07 N) (GC (Zlx N) (GC (Z0v N) (GC (Zz4 N) Wa)))))))))))
def Zja(N:Nat):Sig:=Sig.of [.box Jv,.v Ja false] [] (λd=>Zft N d.1 d.2.1)
def Zrk:Fn:=⟨Tryz.f117,λ |0=>[.opn 13]|_=>[],Zja,λN=>[(148,Zj0 N),(110,Zct N),(149,Zkg N),(147,Zc9 N)]⟩
theorem Zrl(N:Nat):GW 117 (Zja N):=GF Zrk N Tryz.func117 (GC (Ztk N) (GC (Zgh N) (GC (Zvb N) (GC (Zgx N) Wa))))
def Zhu(N:Nat):Sig:=Sig.of [.v Jl true,.box Ja] [.v Jp false] (λd=>Zff N d.1 d.2.1)
def Zvc:Fn:=⟨Tryz.f153,Wz,Zhu,Wbd⟩
theorem Znq(N:Nat):GW 153 (Zhu N):=GF Zvc N Tryz.func153 Wa
def Zas(N:Nat):Sig:=Sig.of [.v Je false,.clos 153 1,.box Ja] [.v Ja false] (λd=>Zy N d.1 d.2.1)
def Zac:Fn:=⟨Tryz.f194,λ |2=>[.canon [0,1,7,8,9]]|3=>[.canon [0,1,5,7,8]]|4=>[.canon [0,1,5,7,8,16]]|5=>[.canon [1,4]]|6=>[.canon [0,1,7,8]]|100002=>[.canon [0,1,7,8]]|_=>[],Zas,λN=>[(153,Zhu N)]⟩
def Zec(s3:List Kb)(t5:Int)(b6:Int):St:=⟨[(0,vV Je s3),(1,.s (.one (.clos 153 [0]))),(7,vI (Wb s3)),(8,vI t5)],[(0,.box [.val Ja b6])],1⟩
def Zdt(s3:List Kb)(t9:Int)(aI:Int):St:=⟨[(1,.s (.one (.clos 153 [0]))),(4,vI t9)],[(0,.box [.val Ja aI])],1⟩
def Zdu(s3:List Kb)(aL:Int)(aO:Bool)(bM:Int):St:=⟨[(0,vV Je s3),(1,.s (.one (.clos 153 [0]))),(7,vI (Wb s3)),(8,vI aL),(9,vB aO)],[(0,.box [.val Ja bM])],1⟩
theorem Zed(N:Nat){R:Type}(K:Ex->St->Option R){s3:List Kb}{K0:Int->Int->Option R}{K1:Int->Bool->Int->Option R}(h0:K0= λt9 aI=>K .ret (Zdt s3 t9 aI))(h1:K1= λaL aO bM=>K (.exit 0) (Zdu s3 aL aO bM))(n:Nat)(t5:Int)(b6:Int):Zj N s3 K0 K1 n t5 b6=LM Zac N 0 100002 n (Zec s3 t5 b6) K:=by
  subst h0 h1
  induction n generalizing t5 b6 with
  |zero=>kernel_rfl
  |succ n ih=>rw[Zj];simp only[ih];kernel_rfl
theorem Ze5(N:Nat)(s1:List Kb)(dx:Int):DN Zac N (s1,dx,())=Zy N s1 dx:=by
  conv=>rhs;rw[Zy];simp(disch:=exact id (by kernel_rfl)) only[Zed (R:=Kh×Kh) N (CF Zac N [1,0,1,0])]
  kernel_rfl
theorem Ze6(N:Nat):GW 194 (Zas N):=GF Zac N Tryz.func194 (GC (Znq N) Wa) (λd=>Ze5 N d.1 d.2.1)
def Zaq(N:Nat):Sig:=Sig.of [.v (.own Jl) false,.clos 153 1,.box Ja] [.v (.own Jl) false] (λd=>Zq N d.1 d.2.1)
def Z9:Fn:=⟨Tryz.f152,λ |5=>[.canon [0,1,5,6,19]]|6=>[.canon [0,1,5,6]]|7=>[.canon [0,1,5,6,7]]|8=>[.canon [0,1,5,6,7,29]]|9=>[.canon [0,1,5,6]]|10=>[.canon [0,1,5,6]]|11=>[.view 38]|100005=>[.canon [0,1,5,6]]|_=>[],Zaq,λN=>[(194,Zas N),(153,Zhu N)]⟩
def Zdv(i4:Int)(j5:Int)(l6:List Kb)(b7:Int):St:=⟨[(0,vO 0),(1,.s (.one (.clos 153 [1]))),(5,vI i4),(6,vI j5)],[(0,.arr Jl l6),(1,.box [.val Ja b7])],2⟩
def Zdn(i9:Int)(vu:Int)(aL:Bool)(bq:List Kb)(bM:Int):St:=⟨[(0,vO 0),(1,.s (.one (.clos 153 [1]))),(5,vI i9),(6,vI vu),(19,vB aL)],[(0,.arr Jl bq),(1,.box [.val Ja bM])],2⟩
theorem Zdw(N:Nat){R:Type}(K:Ex->St->Option R){K0:Int->Int->Bool->Kr->Int->Option R}(h0:K0= λi9 vu aL bq bM=>K (.exit 0) (Zdn i9 vu aL bq bM))(n:Nat)(i4:Int)(j5:Int)(l6:List Kb)(b7:Int):Zd N K0 n i4 j5 l6 b7=LM Z9 N 0 100005 n (Zdv i4 j5 l6 b7) K:=by
  subst h0
  induction n generalizing i4 j5 l6 b7 with
  |zero=>kernel_rfl
  |succ n ih=>rw[Zd];simp only[ih];kernel_rfl
theorem Zes(N:Nat)(s1:List Kb)(dx:Int):DN Z9 N (s1,dx,())=Zq N s1 dx:=by
  conv=>rhs;rw[Zq];simp(disch:=exact id (by kernel_rfl)) only[Zdw (R:=Kh×Kab) N (CF Z9 N [1,1,1,0,1,0])]
  kernel_rfl
theorem Zet(N:Nat):GW 152 (Zaq N):=GF Z9 N Tryz.func152 (GC (Ze6 N) (GC (Znq N) Wa)) (λd=>Zes N d.1 d.2.1)
def Zl4(N:Nat):Sig:=Sig.of [.v Je false,.v Ja false] [.v (.own Jl) false] (λd=>Zkl N d.1 d.2.1)
def Zxn:Fn:=⟨Tryz.f118,Wz,Zl4,λN=>[(150,Zik N),(151,Zf3 N),(152,Zaq N)]⟩
theorem Zxo(N:Nat):GW 118 (Zl4 N):=GF Zxn N Tryz.func118 (GC (Zn8 N) (GC (Zjr N) (GC (Zet N) Wa)))
def Zkh(N:Nat):Sig:=Sig.of [.box Jv,.v Ja false,.v Jk true] [] (λd=>Zgw N d.1 d.2.1 d.2.2.1)
def Zvd:Fn:=⟨Tryz.f73,λ |1=>[.opn 12]|_=>[],Zkh,λN=>[(44,Z5 N),(110,Zct N),(111,Zke N),(112,Zle N),(113,Zlg N),(114,Zgo N),(115,Zhs N),(116,Zi9 N),(117,Zja N),(118,Zl4 N),(119,Zig N)]⟩
theorem Zve(N:Nat):GW 73 (Zkh N):=GF Zvd N Tryz.func73 (GC (Zad N) (GC (Zgh N) (GC (Zux N) (GC (Zwr N) (GC (Zwv N) (GC (Zm1 N) (GC (Zno N) (GC (Zrf N) (GC (Zrl N) (GC (Zxo N) (GC (Zn4 N) Wa)))))))))))
def Zhv(N:Nat):Sig:=Sig.of [.v Jl true,.box Ja] [.v Jp false] (λd=>Zi1 N d.1 d.2.1)
def Zpf:Fn:=⟨Tryz.f160,Wz,Zhv,Wbd⟩
theorem Zpg(N:Nat):GW 160 (Zhv N):=GF Zpf N Tryz.func160 Wa
def Zaj(N:Nat):Sig:=Sig.of [.v Je false,.clos 160 1,.box Ja] [.v Ja false] (λd=>Zn N d.1 d.2.1)
def Z0:Fn:=⟨Tryz.f159,λ |2=>[.canon [0,1,7,8,9]]|3=>[.canon [0,1,5,7,8]]|4=>[.canon [0,1,5,7,8,16]]|5=>[.canon [1,4]]|6=>[.canon [0,1,7,8]]|100002=>[.canon [0,1,7,8]]|_=>[],Zaj,λN=>[(160,Zhv N)]⟩
def Zc1(s3:List Kb)(t5:Int)(b6:Int):St:=⟨[(0,vV Je s3),(1,.s (.one (.clos 160 [0]))),(7,vI (Wb s3)),(8,vI t5)],[(0,.box [.val Ja b6])],1⟩
def Zcw(s3:List Kb)(t9:Int)(aI:Int):St:=⟨[(1,.s (.one (.clos 160 [0]))),(4,vI t9)],[(0,.box [.val Ja aI])],1⟩
def Zcx(s3:List Kb)(aL:Int)(aO:Bool)(bM:Int):St:=⟨[(0,vV Je s3),(1,.s (.one (.clos 160 [0]))),(7,vI (Wb s3)),(8,vI aL),(9,vB aO)],[(0,.box [.val Ja bM])],1⟩
theorem Zc2(N:Nat){R:Type}(K:Ex->St->Option R){s3:List Kb}{K0:Int->Int->Option R}{K1:Int->Bool->Int->Option R}(h0:K0= λt9 aI=>K .ret (Zcw s3 t9 aI))(h1:K1= λaL aO bM=>K (.exit 0) (Zcx s3 aL aO bM))(n:Nat)(t5:Int)(b6:Int):Zf N s3 K0 K1 n t5 b6=LM Z0 N 0 100002 n (Zc1 s3 t5 b6) K:=by
  subst h0 h1
  induction n generalizing t5 b6 with
  |zero=>kernel_rfl
  |succ n ih=>rw[Zf];simp only[ih];kernel_rfl
theorem Zdo(N:Nat)(s1:List Kb)(dx:Int):DN Z0 N (s1,dx,())=Zn N s1 dx:=by
  conv=>rhs;rw[Zn];simp(disch:=exact id (by kernel_rfl)) only[Zc2 (R:=Kh×Kh) N (CF Z0 N [1,0,1,0])]
  kernel_rfl
theorem Zdp(N:Nat):GW 159 (Zaj N):=GF Z0 N Tryz.func159 (GC (Zpg N) Wa) (λd=>Zdo N d.1 d.2.1)
def Zep(N:Nat):Sig:=Sig.of [.rp (TY_Family),.v Ja false] [.v Ja false] (λd=>Zcg N d.1 d.2.1)
def Zrm:Fn:=⟨Tryz.f122,Wz,Zep,λN=>[(159,Zaj N)]⟩
theorem Zjb(N:Nat):GW 122 (Zep N):=GF Zrm N Tryz.func122 (GC (Zdp N) Wa)
def Zfr(N:Nat):Sig:=Sig.of [.box Jz,.v Ja false] [] (λd=>Zbh N d.1 d.2.1)
def Zph:Fn:=⟨Tryz.f123,Wz,Zfr,λN=>[(93,Z8 N)]⟩
theorem Zly(N:Nat):GW 123 (Zfr N):=GF Zph N Tryz.func123 (GC (Zah N) Wa)
def Zj2(N:Nat):Sig:=Sig.of [.box Jz,.v Ja false,.v Jx true,.v Jt true] [] (λd=>Zh4 N d.1 d.2.1 d.2.2.1 d.2.2.2.1)
def Ztn:Fn:=⟨Tryz.f154,λ |1=>[.opn 18]|_=>[],Zj2,λN=>[(169,Zj8 N),(122,Zep N),(123,Zfr N),(170,Ziw N),(171,Zih N)]⟩
theorem Zto(N:Nat):GW 154 (Zj2 N):=GF Ztn N Tryz.func154 (GC (Zoc N) (GC (Zjb N) (GC (Zly N) (GC (Zom N) (GC (Zn5 N) Wa)))))
def Zjc(N:Nat):Sig:=Sig.of [.box Jh,.v Jc false] [] (λd=>Zhn N d.1 d.2.1)
def Zrn:Fn:=⟨Tryz.f155,λ |5=>[.opn 28]|_=>[],Zjc,λN=>[(93,Z8 N),(147,Zc9 N),(96,Zlu N)]⟩
theorem Zro(N:Nat):GW 155 (Zjc N):=GF Zrn N Tryz.func155 (GC (Zah N) (GC (Zgx N) (GC (Zq4 N) Wa)))
def Zki(N:Nat):Sig:=Sig.of [.box Jz,.v Ja false,.v Jc false,.v Jt true] [] (λd=>Zim N d.1 d.2.1 d.2.2.1 d.2.2.2.1)
def Zvf:Fn:=⟨Tryz.f120,λ |1=>[.opn 16]|18=>[.nest 128 Js]|_=>[],Zki,λN=>[(154,Zj2 N),(155,Zjc N),(93,Z8 N),(95,Zmh N)]⟩
theorem Zvg(N:Nat):GW 120 (Zki N):=GF Zvf N Tryz.func120 (GC (Zto N) (GC (Zro N) (GC (Zah N) (GC (Ztt N) Wa))))
def Zbc(N:Nat):Sig:=Sig.of [.mut Jl,.clos 158 0] [] (λd=>Zam N d.1)
theorem Zdx:CmpOk Tryz.prog 158 Jl Wv2 cfE:=by
  intro G x y us vs w hx hy h1 h2;obtain⟨_,_,rfl,a1,_,_,rfl,a2,a3⟩:=h1;obtain⟨_,_,rfl,b1,_,_,rfl,b2,b3⟩:=h2;simp only[Enc]at a1 a2 a3 b1 b2 b3;subst a1 a2 a3 b1 b2 b3;simp only[Xbf,Xca]
  go_enter Tryz.func158,Tryz.ntmps158
  go_wp2
  rw[sub_run (WgM hx) (WgM hy) (c:=cfE x y) rfl]
  go_wp2
  go_ret
  exact⟨rfl,two_grow _ _ _⟩
theorem Zdy(N:Nat):GW 157 (Zbc N):=⟨Wd2 Tryz.func157 (show WpH Tryz.f157=true by kernel_rfl),good_sortF sortFE (e:=.prod Ja Jw) rfl (by decide) Tryz.isAgg168 Tryz.sizeOf168 (enters_of Tryz.func158 (by kernel_rfl) rfl) Wxc Zdx N⟩
def Zjd(N:Nat):Sig:=Sig.of [.box Jz,.v Ja false] [] (λd=>Zdj N d.1 d.2.1)
def Zcl:Fn:=⟨Tryz.f121,λ |0=>[.opn 16]|3=>[.canon [0,1,4,28,29,30,31]]|4=>[.canon [0,1,4,6,28,29,30]]|5=>[.canon [0,1,4,6,7,28,29,30]]|6=>[.canon [0,1,4,7,8,28,29,30]]|7=>[.canon [0,1,4,7,8,28,29,30,48]]|8=>[.canon [0,1,4,28,29,30]]|9=>[.canon [0,1,4,28,29,30]]|10=>[.canon [0,1,4,28,29,30]]|13=>[.canon [0,1,4,75,76,77,78]]|14=>[.canon [0,1,4,10,75,76,77]]|15=>[.canon [0,1,4,10,75,76,77,83]]|16=>[.canon [0,1,4,75,76,77]]|17=>[.canon [0,1,4,75,76,77]]|100003=>[.canon [0,1,4,28,29,30]]|100013=>[.canon [0,1,4,75,76,77]]|_=>[],Zjd,λN=>[(156,Zi8 N),(122,Zep N),(157,Zbc N)]⟩
def Zoq(k4:Int)(t5:Int)(t6:Int)(b7:Int)(b8:Int)(b9:Int)(aI:Bool)(aU:Int)(bK:Int)(bM:Int)(dE:Int)(cT:Int)(bf:Int)(il:Bool)(db:Int)(dI:Int)(dF:Int)(im:Int)(bU:List Kc)(cM:List Int)(dc:List Kc)(gS:List Kb)(io:List Int)(cY:List Kc)(fR:List Y_KidRun)(ip:Nat)(fS:List Int)(fT:List Kb)(fU:List Kc)(cZ:List Kk):St:=⟨[(0,vP 0 0),(1,vI k4),(4,vP 1 0),(28,vO 2),(29,vI t5),(30,vI t6)],[(0,.box [.val Ja b7,.val Ja b8,.val Ja b9,.val Jp aI,.own 3,.own 4,.own 5,.own 6,.own 7,.own 8]),(1,.box [.val Ja aU,.val Ja bK,.val Ja bM,.val Ja dE,.val Ja cT,.val Ja bf,.own 9,.own 10,.own 11,.own 12,.val Jp il,.val Ja db,.val Ja dI,.val Ja dF,.val Ja im]),(2,.arr Jw bU),(3,.arr Ja cM),(4,.arr Jw dc),(5,.arr Jl gS),(6,.arr Ja io),(7,.arr Jw cY),(8,.hole Jh fR ip 1),(9,.arr Ja fS),(10,.arr Jl fT),(11,.arr Jw fU),(12,.arr Js cZ)],13⟩
def Zof(k4:Int)(t5:Int)(b7:Int)(b8:Int)(b9:Int)(aI:Bool)(aU:Int)(bK:Int)(bM:Int)(dE:Int)(cT:Int)(bf:Int)(il:Bool)(db:Int)(dI:Int)(dF:Int)(im:Int)(bU:List Kc)(cM:List Int)(dc:List Kc)(io:List Int)(cY:List Kc)(fR:List Y_KidRun)(ip:Nat)(fS:List Int)(fT:List Kb)(fU:List Kc)(cZ:List Kk)(vv:Int)(oG:Bool)(jX:List Kb):St:=⟨[(0,vP 0 0),(1,vI k4),(4,vP 1 0),(28,vO 2),(29,vI t5),(30,vI vv),(31,vB oG)],[(0,.box [.val Ja b7,.val Ja b8,.val Ja b9,.val Jp aI,.own 3,.own 4,.own 5,.own 6,.own 7,.own 8]),(1,.box [.val Ja aU,.val Ja bK,.val Ja bM,.val Ja dE,.val Ja cT,.val Ja bf,.own 9,.own 10,.own 11,.own 12,.val Jp il,.val Ja db,.val Ja dI,.val Ja dF,.val Ja im]),(2,.arr Jw bU),(3,.arr Ja cM),(4,.arr Jw dc),(5,.arr Jl jX),(6,.arr Ja io),(7,.arr Jw cY),(8,.hole Jh fR ip 1),(9,.arr Ja fS),(10,.arr Jl fT),(11,.arr Jw fU),(12,.arr Js cZ)],13⟩
end
end Go.Sx
