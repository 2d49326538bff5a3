/- Each Go function does what its Lean function says. -/
import Derived.Test.YtfajigbmoebkaaaGreatT2
import Derived.Test.YtfajigbmoebkaaaGreatProg
import Derived.Test.YtfajigbmoebkaaaGreatLay
namespace Go.Sx
noncomputable section
open Go.Proofs
abbrev Ja:Ty:=.int .i64
abbrev Jb:Ty:=.prod (.own Ja) (.prod (.own (.prod Ja Ja)) (.prod (.own (.prod Ja (.prod Ja Ja))) (.prod (.own Ja) (.prod (.own (.prod Ja Ja)) (.own (.prod Ja (.prod Ja (.prod Ja (.prod Ja (.prod Ja (.prod Ja (.prod (.own Ja) (.prod (.own (.prod Ja (.prod Ja Ja))) (.prod (.own (.prod Ja Ja)) (.prod (.own (.prod Ja (.prod Ja (.own Ja)))) (.prod (.bool) (.prod Ja (.prod Ja (.prod Ja Ja)))))))))))))))))))
abbrev Jc:Ty:=.slice (.prod Ja (.prod Ja (.prod Ja Ja)))
abbrev Jd:Ty:=.prod Ja (.prod Ja (.prod Ja (.prod Ja (.prod Ja (.prod (.own (.prod Ja Ja)) (.own Ja))))))
abbrev Je:Ty:=.slice (.prod Ja (.prod Ja Ja))
abbrev Jf:Ty:=.own (.prod Ja (.prod Ja (.prod Ja (.prod Ja (.slice Ja)))))
abbrev Jg:Ty:=.prod Ja (.prod Ja (.prod Ja (.prod Ja (.prod Ja (.prod Ja (.prod Ja (.prod Ja (.prod Ja (.prod Ja (.prod (.bool) (.prod (.own Ja) (.prod (.own (.prod Ja Ja)) (.prod (.own (.prod Ja Ja)) (.prod Jf (.prod (.own (.prod Ja (.prod Ja Ja))) (.prod (.own Ja) (.prod (.bool) (.prod (.prod Ja (.prod Ja (.prod Ja Ja))) (.prod Jd (.prod Ja (.prod Ja (.prod Ja (.prod (.bool) Jb)))))))))))))))))))))))
abbrev Jh:Ty:=.prod Ja (.prod Ja (.prod Ja (.prod Ja (.prod Ja (.prod Ja (.prod (.own Ja) (.prod (.own (.prod Ja (.prod Ja Ja))) (.prod (.own (.prod Ja Ja)) (.prod (.own (.prod Ja (.prod Ja (.own Ja)))) (.prod (.bool) (.prod Ja (.prod Ja (.prod Ja Ja)))))))))))))
abbrev Ji:Ty:=.slice (.prod Ja Ja)
abbrev Jj:Ty:=.slice Ja
abbrev Jk:Ty:=.prod (.slice (.int .u8)) (.prod Ja Ja)
abbrev Jl:Ty:=.prod Ja (.prod Ja Ja)
abbrev Jm:Ty:=.prod (.own (.prod Ja Jg)) (.own (.prod Ja (.prod Ja Ji)))
abbrev Jn:Ty:=.prod Jc (.slice Jc)
abbrev Jo:Ty:=.slice (.int .u8)
abbrev Jp:Ty:=.bool
abbrev Jq:Ty:=.prod (.own Ja) Ja
abbrev Jr:Ty:=.prod Ja (.prod Ja (.prod Ja (.prod Ja (.prod Ji Jj))))
abbrev Js:Ty:=.prod Jj (.prod Jj Ja)
abbrev Jt:Ty:=.prod Ja (.prod Ja (.own Ja))
abbrev Ju:Ty:=.prod Ja Je
abbrev Jv:Ty:=.prod Ja (.prod Ja (.prod (.prod Ja (.own Jl)) (.prod Jq (.prod (.own Jl) Jm))))
abbrev Jw:Ty:=.prod Ja Ja
abbrev Jx:Ty:=.prod Ja Jl
abbrev Jy:Ty:=.prod Ja (.prod Ja (.prod Ja (.prod Jp Jb)))
abbrev Jz:Ty:=.prod Ja (.prod Ja Ji)
abbrev Jaa:Ty:=.prod Js (.prod (.slice Jn) Je)
abbrev Jab:Ty:=.own Ja
abbrev Jac:Ty:=.slice (TY_KidRun)
abbrev Jad:Ty:=.prod Ja Jg
abbrev Jae:Ty:=.slice (TY_Root)
abbrev Jaf:Ty:=.prod Ja (.prod Ja (.prod Ja Jj))
abbrev Jag:Ty:=.prod Ja (.own Jl)
abbrev Jah:Ty:=.slice Jn
abbrev Ka:Type:=Int×Int×Int×Int
abbrev Kb:Type:=Int×Int×Int
abbrev Kc:Type:=Int×Int
abbrev Ke:Type:=List Int×Int×Int
abbrev Kf:Type:=Bool×Unit
abbrev Kg:Type:=List Int×List Int×Int
abbrev Kh:Type:=List Int
abbrev Ki:Type:=Int×Int×List Int
abbrev Kj:Type:=Int×Unit
abbrev Kk:Type:=List Ka×List (List Ka)
abbrev Kl:Type:=Int×Int×List Kc
abbrev Km:Type:=Ke×Unit
abbrev Kn:Type:=List Kb
abbrev Ko:Type:=Kh×Unit
abbrev Kq:Type:=List Ka
set_option linter.unusedVariables false
set_option linter.unusedSimpArgs false
def tab:Tab:=[(3,⟨.int .i64,false,.basic⟩),(4,⟨.bool,false,.basic⟩),(5,⟨.int .u8,false,.basic⟩),(22,⟨.slice (.int .u8),false,.slice 5⟩),(24,⟨.slice Ja,false,.slice 3⟩),(25,⟨.slice Jw,false,.slice 137⟩),(26,⟨.slice Jc,false,.slice 117⟩),(30,⟨.slice Jl,false,.slice 102⟩),(32,⟨.prod Ja Je,true,.struct [(0,3),(1,30)]⟩),(33,⟨.slice Jl,false,.slice 127⟩),(34,⟨.slice (TY_KidRun),false,.slice 125⟩),(36,⟨TY_Family,true,.struct [(0,3),(1,3),(2,3),(3,4),(4,24),(5,25),(6,33),(7,24),(8,25),(9,34)]⟩),(63,⟨.prod Jj (.prod Jj Ja),true,.struct [(0,24),(1,24),(2,3)]⟩),(64,⟨.slice Jn,false,.slice 159⟩),(65,⟨.slice Jl,false,.slice 96⟩),(67,⟨.prod Js (.prod Jah Je),true,.struct [(0,63),(3,64),(4,65)]⟩),(73,⟨.prod Jj Ja,true,.struct [(0,24),(1,3)]⟩),(74,⟨.slice Jl,false,.slice 106⟩),(75,⟨.slice (TY_Root),false,.slice 90⟩),(76,⟨.slice Jz,false,.slice 162⟩),(78,⟨TY_World,true,.struct [(0,3),(1,3),(2,32),(4,73),(6,74),(7,75),(8,76)]⟩),(83,⟨.slice (.prod Ja Jaf),false,.slice 249⟩),(84,⟨.slice Jl,false,.slice 275⟩),(86,⟨.prod Ja Jl,true,.struct [(0,3),(1,3),(2,3),(3,3)]⟩),(88,⟨.prod Ja Jr,true,.struct [(0,3),(1,3),(2,3),(3,3),(4,3),(5,25),(6,24)]⟩),(90,⟨TY_Root,true,.struct [(0,3),(1,3),(2,3),(3,3),(4,3),(5,3),(6,3),(7,3),(8,3),(9,3),(10,3),(11,4),(12,24),(13,25),(14,25),(15,83),(16,84),(17,24),(18,4),(19,86),(23,88),(30,36)]⟩),(96,⟨.prod Ja Jw,true,.struct [(0,3),(1,3),(2,3)]⟩),(102,⟨.prod Ja Jw,true,.struct [(0,3),(1,3),(2,3)]⟩),(106,⟨.prod Ja Jw,true,.struct [(0,3),(1,3),(2,3)]⟩),(115,⟨.slice Jx,false,.slice 176⟩),(117,⟨.slice Jx,true,.struct [(0,115)]⟩),(123,⟨.slice (.prod Ja (.prod Ja Jj)),false,.slice 226⟩),(125,⟨TY_KidRun,true,.struct [(0,3),(1,3),(2,3),(3,3),(4,3),(5,3),(6,24),(7,33),(8,25),(9,123),(10,4),(11,86)]⟩),(127,⟨.prod Ja Jw,true,.struct [(0,3),(1,3),(2,3)]⟩),(137,⟨.prod Ja Ja,true,.struct [(0,3),(1,3)]⟩),(159,⟨.prod Jc (.slice Jc),true,.struct [(0,115),(1,26)]⟩),(162,⟨.prod Ja (.prod Ja Ji),true,.struct [(0,3),(1,3),(2,25)]⟩),(164,⟨.prod Jo Jw,true,.struct [(0,22),(1,3),(2,3)]⟩),(176,⟨.prod Ja Jl,true,.struct [(0,3),(1,3),(2,3),(3,3)]⟩),(178,⟨.slice Jp,false,.slice 4⟩),(226,⟨.prod Ja (.prod Ja Jj),true,.struct [(0,3),(1,3),(2,24)]⟩),(249,⟨.prod Ja Jaf,true,.struct [(0,3),(1,3),(2,3),(3,3),(4,24)]⟩),(275,⟨.prod Ja Jw,true,.struct [(0,3),(1,3),(2,3)]⟩),(283,⟨.bool,true,.arr 8 4⟩)]
theorem mixedOk:Tryz.prog.follows .mixedOrders=true:=by kernel_rfl
theorem tabOk:Wbf Tryz.prog tab:=tab_ok (show chkTab Tryz.prog tab tab=true by kernel_rfl)
def LM(x:Fn)(N:Nat){R:Type}(i k n:Nat)(st:St)(K:Ex→St→Option R):Option R:=lpM tab (x.c N) x.a N x.F i k n st K
def CF(x:Fn)(N:Nat)(p:List Nat):Ex→St→Option (Qs (x.s N)):=cxF tab (x.c N) x.a N (x.s N) x.F p
def CL(x:Fn)(N:Nat){R:Type}(i k:Nat)(p:List Nat)(n:Nat)(K:Ex→St→Option R):Ex→St→Option R:=cxL tab (x.c N) x.a N x.F i k p n K
def DN(x:Fn)(N:Nat)(d:PDen (x.s N).ps):Option (Qs (x.s N)):=den (R:=Qs (x.s N)) tab (x.c N) x.a N (x.s N) x.F d some
theorem GF(x:Fn){k:FuncId}(N:Nat)(hf:Tryz.prog.funcs[k]?=some x.F)(hc:Wne Tryz.prog (x.c N))(hok:chkBody x.F (x.s N).ps=true)(h:∀d,DN x N d=(x.s N).run d):Good Tryz.prog k (x.s N):=
  good_body mixedOk tabOk hc hf hok (λd _ e=>⟨N,(h d).trans e⟩)
def Zp4(N:Nat):Sig:=Sig.of [.v Jo false] [.v Jp false] (λd=>Zto N d.1)
def Z5k:Fn:=⟨Tryz.f9,Wz,Zp4,Wcs⟩
theorem Z5l:Wc Tryz.prog 9:=Wb Tryz.func9 (show Wg Tryz.f9=true by kernel_rfl)
theorem Z5m(N:Nat):Good Tryz.prog 9 (Zp4 N):=GF Z5k N Tryz.func9 We (by kernel_rfl) (λd=>by kernel_rfl)
def Zou(N:Nat):Sig:=Sig.of [.v Jo false] [.box Jk] (λd=>Zgz N d.1)
def Zl4:Fn:=⟨Tryz.f50,λ |3=>[.canon [0,3,4,15]]|4=>[.canon [0,3,4]]|5=>[.canon [0,3,4]]|100003=>[.canon [0,3,4]]|_=>[],Zou,Wcs⟩
def Zxp(code2:List Int)(h3:Int)(i4:Int):St:=⟨[(0,vV Jo code2),(3,vI h3),(4,vI i4)],[],0⟩
def Zvr(code2:List Int)(h5:Int)(i6:Int)(t7:Bool):St:=⟨[(0,vV Jo code2),(3,vI h5),(4,vI i6),(15,vB t7)],[],0⟩
theorem Zxq(N:Nat){R:Type}(K:Ex→St→Option R){code2:List Int}{K0:Int→Int→Bool→Option R}(h0:K0= λh5 i6 t7=>K (.exit 0) (Zvr code2 h5 i6 t7))(n:Nat)(h3:Int)(i4:Int):Zcw N code2 K0 n h3 i4=LM Zl4 N 0 100003 n (Zxp code2 h3 i4) K:=by
  subst h0
  induction n generalizing h3 i4 with
  |zero=>kernel_rfl
  |succ n ih=>rw[Zcw];simp(disch:=exact id (by kernel_rfl)) only[ih];kernel_rfl
theorem Z38:Wc Tryz.prog 50:=Wb Tryz.func50 (show Wg Tryz.f50=true by kernel_rfl)
theorem Z39(N:Nat)(code1:List Int):DN Zl4 N (code1,())=Zgz N code1:=by
  have h:Zgz N code1=Zgz N code1:=rfl
  conv at h=>rhs;rw[Zgz]
  simp(disch:=exact id (by kernel_rfl)) only[Zxq (R:=Unit×Km) N (CF Zl4 N [1,1,0,1,0])]at h
  exact Eq.trans (by kernel_rfl) h.symm
theorem Z4a(N:Nat):Good Tryz.prog 50 (Zou N):=GF Zl4 N Tryz.func50 We (by kernel_rfl) (λd=>Z39 N d.1)
def Zn0(N:Nat):Sig:=Sig.of [.v Jo false,.v Ja false] [.v Ja false] (λd=>Zmx N d.1 d.2.1)
def Z2p:Fn:=⟨Tryz.f110,Wz,Zn0,Wcs⟩
theorem Z2q:Wc Tryz.prog 110:=Wb Tryz.func110 (show Wg Tryz.f110=true by kernel_rfl)
theorem Z2r(N:Nat):Good Tryz.prog 110 (Zn0 N):=GF Z2p N Tryz.func110 We (by kernel_rfl) (λd=>by kernel_rfl)
def Zn1(N:Nat):Sig:=Sig.of [.box Jk] [.v Ja false] (λd=>Zgd N d.1)
def Z2s:Fn:=⟨Tryz.f168,Wz,Zn1,Wcs⟩
theorem Z2t:Wc Tryz.prog 168:=Wb Tryz.func168 (show Wg Tryz.f168=true by kernel_rfl)
theorem Z2u(N:Nat):Good Tryz.prog 168 (Zn1 N):=GF Z2s N Tryz.func168 We (by kernel_rfl) (λd=>by kernel_rfl)
def Z6(N:Nat):Sig:=Sig.of [.box Jk,.v Ja false] [.v Ja false] (λd=>Zb N d.1 d.2.1)
def Z0o:Fn:=⟨Tryz.f115,Wz,Z6,λN=>[(168,Zn1 N)]⟩
theorem Zad:Wc Tryz.prog 115:=Wb Tryz.func115 (show Wg Tryz.f115=true by kernel_rfl)
theorem Zae(N:Nat):Good Tryz.prog 115 (Z6 N):=GF Z0o N Tryz.func115 (Wa (Z2u N) Z2t We) (by kernel_rfl) (λd=>by kernel_rfl)
def Zb3(N:Nat):Sig:=Sig.of [.box Jk,.v Ja false] [.v Jp false] (λd=>Zw N d.1 d.2.1)
def Z2v:Fn:=⟨Tryz.f166,Wz,Zb3,λN=>[(115,Z6 N)]⟩
theorem Zdn:Wc Tryz.prog 166:=Wb Tryz.func166 (show Wg Tryz.f166=true by kernel_rfl)
theorem Zdo(N:Nat):Good Tryz.prog 166 (Zb3 N):=GF Z2v N Tryz.func166 (Wa (Zae N) Zad We) (by kernel_rfl) (λd=>by kernel_rfl)
def Zg2(N:Nat):Sig:=Sig.of [.box Jk,.v Jj false] [.v Ja false] (λd=>Zbn N d.1 d.2.1)
def Zxr:Fn:=⟨Tryz.f215,Wz,Zg2,λN=>[(115,Z6 N)]⟩
theorem Zlk:Wc Tryz.prog 215:=Wb Tryz.func215 (show Wg Tryz.f215=true by kernel_rfl)
theorem Zll(N:Nat):Good Tryz.prog 215 (Zg2 N):=GF Zxr N Tryz.func215 (Wa (Zae N) Zad We) (by kernel_rfl) (λd=>by kernel_rfl)
def Zil(N:Nat):Sig:=Sig.of [.box Jk] [.v Ja false] (λd=>Zhc N d.1)
def Z2w:Fn:=⟨Tryz.f162,Wz,Zil,λN=>[(166,Zb3 N),(215,Zg2 N),(115,Z6 N)]⟩
theorem Zn2:Wc Tryz.prog 162:=Wb Tryz.func162 (show Wg Tryz.f162=true by kernel_rfl)
theorem Zn3(N:Nat):Good Tryz.prog 162 (Zil N):=GF Z2w N Tryz.func162 (Wa (Zdo N) Zdn (Wa (Zll N) Zlk (Wa (Zae N) Zad We))) (by kernel_rfl) (λd=>by kernel_rfl)
def Zkn(N:Nat):Sig:=Sig.of [.box Jk] [.v Jab false] (λd=>Zch N d.1)
def Zh3:Fn:=⟨Tryz.f161,λ |3=>[.canon [0,3,4,7]]|4=>[.canon [0,3,4]]|5=>[.canon [0,3,4]]|100003=>[.canon [0,3,4]]|_=>[],Zkn,λN=>[(162,Zil N)]⟩
def Zqj(i2:Int)(b3:List Int×Int×Int)(l4:List Int):St:=⟨[(0,vP 0 0),(3,vO 1),(4,vI i2)],[(0,.box [.val Jo b3.1,.val Ja b3.2.1,.val Ja b3.2.2]),(1,.arr Ja l4)],2⟩
def Zp5(i6:Int)(t7:Bool)(b8:List Int×Int×Int)(l9:List Int):St:=⟨[(0,vP 0 0),(3,vO 1),(4,vI i6),(7,vB t7)],[(0,.box [.val Jo b8.1,.val Ja b8.2.1,.val Ja b8.2.2]),(1,.arr Ja l9)],2⟩
theorem Zqk(N:Nat){R:Type}(K:Ex→St→Option R){K0:Int→Bool→Ke→Kh→Option R}(h0:K0= λi6 t7 b8 l9=>K (.exit 0) (Zp5 i6 t7 b8 l9))(n:Nat)(i2:Int)(b3:List Int×Int×Int)(l4:List Int):Zcs N K0 n i2 b3 l4=LM Zh3 N 0 100003 n (Zqj i2 b3 l4) K:=by
  subst h0
  induction n generalizing i2 b3 l4 with
  |zero=>kernel_rfl
  |succ n ih=>rw[Zcs];simp(disch:=exact id (by kernel_rfl)) only[ih];kernel_rfl
theorem Zvs:Wc Tryz.prog 161:=Wb Tryz.func161 (show Wg Tryz.f161=true by kernel_rfl)
theorem Zvt(N:Nat)(c1:List Int×Int×Int):DN Zh3 N (c1,())=Zch N c1:=by
  have h:Zch N c1=Zch N c1:=rfl
  conv at h=>rhs;rw[Zch]
  simp(disch:=exact id (by kernel_rfl)) only[Zqk (R:=Km×Ko) N (CF Zh3 N [1,1,0,1,0])]at h
  exact Eq.trans (by kernel_rfl) h.symm
theorem Zvu(N:Nat):Good Tryz.prog 161 (Zkn N):=GF Zh3 N Tryz.func161 (Wa (Zn3 N) Zn2 We) (by kernel_rfl) (λd=>Zvt N d.1)
def Ziy(N:Nat):Sig:=Sig.of [.box Jk] [.v (.prod Jab Jq) true] (λd=>Zco N d.1)
def Ziz:Fn:=⟨Tryz.f193,λ |3=>[.canon [0,2,3,4,12]]|4=>[.canon [0,2,3,4]]|5=>[.canon [0,2,3,4,5]]|6=>[.canon [0,2,3,4,5,16]]|7=>[.canon [0,2,3,4,5]]|8=>[.canon [0,2,3,4]]|100003=>[.adoptC 3 1 Ja,.canon [0,2,3,4]]|_=>[],Ziy,λN=>[(161,Zkn N),(162,Zil N),(166,Zb3 N)]⟩
def Zrx(i4:Int)(b5:List Int×Int×Int)(b7:Int)(l8:List Int)(l9:List Int):St:=⟨[(0,vP 0 0),(2,vP 1 0),(3,vP 2 0),(4,vI i4)],[(0,.box [.val Jo b5.1,.val Ja b5.2.1,.val Ja b5.2.2]),(1,.box [.nils,.nils,.val Ja (0:Int)]),(2,.box [.own 3,.own 4,.val Ja b7]),(3,.arr Ja l8),(4,.arr Ja l9)],5⟩
def Zra(b7:Int)(l8:List Int)(i14:Int)(t15:Bool)(b16:List Int×Int×Int)(l17:List Int):St:=⟨[(0,vP 0 0),(2,vP 1 0),(3,vP 2 0),(4,vI i14),(12,vB t15)],[(0,.box [.val Jo b16.1,.val Ja b16.2.1,.val Ja b16.2.2]),(1,.box [.nils,.nils,.val Ja (0:Int)]),(2,.box [.own 3,.own 4,.val Ja b7]),(3,.arr Ja l8),(4,.arr Ja l17)],5⟩
theorem Zry(N:Nat){R:Type}(K:Ex→St→Option R){b7:Int}{l8:List Int}{K0:Int→Bool→Ke→Kh→Option R}(h0:K0= λi14 t15 b16 l17=>K (.exit 0) (Zra b7 l8 i14 t15 b16 l17))(n:Nat)(i4:Int)(b5:List Int×Int×Int)(l9:List Int):Zcn N b7 l8 K0 n i4 b5 l9=LM Ziz N 0 100003 n (Zrx i4 b5 b7 l8 l9) K:=by
  subst h0
  induction n generalizing i4 b5 l9 with
  |zero=>kernel_rfl
  |succ n ih=>rw[Zcn];simp(disch:=exact id (by kernel_rfl)) only[ih];kernel_rfl
theorem Zpp:Wc Tryz.prog 193:=Wb Tryz.func193 (show Wg Tryz.f193=true by kernel_rfl)
theorem Zzi(N:Nat)(c1:List Int×Int×Int):DN Ziz N (c1,())=Zco N c1:=by
  have h:Zco N c1=Zco N c1:=rfl
  conv at h=>rhs;rw[Zco]
  simp(disch:=exact id (by kernel_rfl)) only[Zry (R:=Km×(Kg×Unit)) N (CF Ziz N [1,1,0,1,0])]at h
  exact Eq.trans (by kernel_rfl) h.symm
theorem Zpq(N:Nat):Good Tryz.prog 193 (Ziy N):=GF Ziz N Tryz.func193 (Wa (Zvu N) Zvs (Wa (Zn3 N) Zn2 (Wa (Zdo N) Zdn We))) (by kernel_rfl) (λd=>Zzi N d.1)
def Zlm(N:Nat):Sig:=Sig.of [.box Jk] [.v Ja false] (λd=>Za N d.1)
def Zxs:Fn:=⟨Tryz.f245,Wz,Zlm,λN=>[(115,Z6 N)]⟩
theorem Zxt:Wc Tryz.prog 245:=Wb Tryz.func245 (show Wg Tryz.f245=true by kernel_rfl)
theorem Zxu(N:Nat):Good Tryz.prog 245 (Zlm N):=GF Zxs N Tryz.func245 (Wa (Zae N) Zad We) (by kernel_rfl) (λd=>by kernel_rfl)
def Zko(N:Nat):Sig:=Sig.of [.box Jk] [.v Ja false] (λd=>Zbx N d.1)
def Zvv:Fn:=⟨Tryz.f167,Wz,Zko,λN=>[(166,Zb3 N),(115,Z6 N)]⟩
theorem Zvw:Wc Tryz.prog 167:=Wb Tryz.func167 (show Wg Tryz.f167=true by kernel_rfl)
theorem Zvx(N:Nat):Good Tryz.prog 167 (Zko N):=GF Zvv N Tryz.func167 (Wa (Zdo N) Zdn (Wa (Zae N) Zad We)) (by kernel_rfl) (λd=>by kernel_rfl)
def Zln(N:Nat):Sig:=Sig.of [.box Jk] [.v Ja false] (λd=>Zk N d.1)
def Zxv:Fn:=⟨Tryz.f246,Wz,Zln,λN=>[(166,Zb3 N),(115,Z6 N),(215,Zg2 N)]⟩
theorem Zxw:Wc Tryz.prog 246:=Wb Tryz.func246 (show Wg Tryz.f246=true by kernel_rfl)
theorem Zxx(N:Nat):Good Tryz.prog 246 (Zln N):=GF Zxv N Tryz.func246 (Wa (Zdo N) Zdn (Wa (Zae N) Zad (Wa (Zll N) Zlk We))) (by kernel_rfl) (λd=>by kernel_rfl)
def Zjq(N:Nat):Sig:=Sig.of [.box Jk,.v Ja false] [.v Jx true] (λd=>Zj N d.1 d.2.1)
def Z0p:Fn:=⟨Tryz.f216,Wz,Zjq,λN=>[(245,Zlm N),(162,Zil N),(167,Zko N),(115,Z6 N),(246,Zln N)]⟩
theorem Zp6:Wc Tryz.prog 216:=Wb Tryz.func216 (show Wg Tryz.f216=true by kernel_rfl)
theorem Zp7(N:Nat):Good Tryz.prog 216 (Zjq N):=GF Z0p N Tryz.func216 (Wa (Zxu N) Zxt (Wa (Zn3 N) Zn2 (Wa (Zvx N) Zvw (Wa (Zae N) Zad (Wa (Zxx N) Zxw We))))) (by kernel_rfl) (λd=>by kernel_rfl)
def Zk1(N m:Nat):Sig:=Sig.of [.box Jk,.v Ja false,.v Ja false,.v Jp false] [.v (.own Jx) false] (λd=>Zce N m d.1 d.2.1 d.2.2.1 d.2.2.2.1)
def Zrz(N:Nat):Sig:=Zk1 N N
def Zl5(m:Nat):Fn:=⟨Tryz.f164,λ |3=>[.canon [0,1,2,3,9,10,27]]|4=>[.canon [0,1,2,3,9,10]]|5=>[.canon [0,1,2,3,9,10,11]]|6=>[.canon [0,1,2,3,9,10]]|7=>[.canon [0,1,2,3,9,10,11,40]]|8=>[.canon [0,1,2,3,9,10]]|9=>[.canon [0,1,2,3,9,10,11,48]]|10=>[.canon [0,1,2,3,9,10]]|11=>[.canon [0,1,2,3,9,10,11,56]]|12=>[.canon [0,1,2,3,9,10]]|13=>[.canon [0,1,2,3,9,10,11,67]]|14=>[.canon [0,1,2,3,9,10,12]]|15=>[.canon [0,1,2,3,9,10,12]]|16=>[.canon [0,1,2,3,9,10]]|17=>[.canon [0,1,2,3,9,10,100]]|18=>[.canon [0,1,2,3,9,10]]|19=>[.canon [0,1,2,3,9,10]]|20=>[.canon [0,1,2,3,9,10,11,109]]|21=>[.canon [0,1,2,3,9,10,13]]|22=>[.canon [0,1,2,3,9,10,13,14]]|23=>[.canon [0,1,2,3,9,10,13,14]]|24=>[.canon [0,1,2,3,9,10,13]]|25=>[.canon [0,1,2,3,9,10]]|26=>[.canon [0,1,2,3,9,10,134]]|27=>[.canon [0,1,2,3,9,10]]|28=>[.canon [0,1,2,3,9,10,145]]|29=>[.canon [0,1,2,3,9,10]]|100003=>[.canon [0,1,2,3,9,10]]|_=>[],λN=>Zk1 N (m+1),λN=>[(115,Z6 N),(216,Zjq N),(164,Zk1 N m),(166,Zb3 N)]⟩
def Zxy(most6:Int)(deep7:Int)(kid8:Bool)(n9:Int)(b10:List Int×Int×Int)(l11:List Ka):St:=⟨[(0,vP 0 0),(1,vI most6),(2,vI deep7),(3,vB kid8),(9,vO 1),(10,vI n9)],[(0,.box [.val Jo b10.1,.val Ja b10.2.1,.val Ja b10.2.2]),(1,.arr Jx l11)],2⟩
def Zvy(most6:Int)(deep7:Int)(kid8:Bool)(n80:Int)(t81:Bool)(b82:List Int×Int×Int)(l83:List Ka):St:=⟨[(0,vP 0 0),(1,vI most6),(2,vI deep7),(3,vB kid8),(9,vO 1),(10,vI n80),(27,vB t81)],[(0,.box [.val Jo b82.1,.val Ja b82.2.1,.val Ja b82.2.2]),(1,.arr Jx l83)],2⟩
theorem Zxz(N m:Nat){R:Type}(K:Ex→St→Option R){most6:Int}{deep7:Int}{kid8:Bool}{K0:Int→Bool→Ke→Kq→Option R}(h0:K0= λn80 t81 b82 l83=>K (.exit 0) (Zvy most6 deep7 kid8 n80 t81 b82 l83))(n:Nat)(n9:Int)(b10:List Int×Int×Int)(l11:List Ka):Zc N (Zce N m) most6 deep7 kid8 K0 n n9 b10 l11=LM (Zl5 m) N 0 100003 n (Zxy most6 deep7 kid8 n9 b10 l11) K:=by
  subst h0
  induction n generalizing n9 b10 l11 with
  |zero=>kernel_rfl
  |succ n ih=>rw[Zc];simp(disch:=exact id (by kernel_rfl)) only[ih];kernel_rfl
theorem Zr0:Wc Tryz.prog 164:=Wb Tryz.func164 (show Wg Tryz.f164=true by kernel_rfl)
theorem Z4b(N m:Nat)(c1:List Int×Int×Int)(most2:Int)(deep3:Int)(kid4:Bool):DN (Zl5 m) N (c1,most2,deep3,kid4,())=Zce N (m+1) c1 most2 deep3 kid4:=by
  have h:Zce N (m+1) c1 most2 deep3 kid4=Zce N (m+1) c1 most2 deep3 kid4:=rfl
  conv at h=>rhs;rw[Zce]
  simp(disch:=exact id (by kernel_rfl)) only[Zxz (R:=Km×(Kq×Unit)) N m (CF (Zl5 m) N [1,1,0,1,0])]at h
  exact Eq.trans (by kernel_rfl) h.symm
theorem Zqz(N:Nat):∀m,Good Tryz.prog 164 (Zk1 N m)
  |0=>λd o h=>nomatch (show none=some o from h)
  |m+1=>GF (Zl5 m) N Tryz.func164 (Wa (Zae N) Zad (Wa (Zp7 N) Zp6 (Wa (Zqz N m) Zr0 (Wa (Zdo N) Zdn We)))) (by kernel_rfl) (λd=>Z4b N m d.1 d.2.1 d.2.2.1 d.2.2.2.1)
theorem Z4c(N:Nat):Good Tryz.prog 164 (Zrz N):=Zqz N N
def Zk2(N:Nat):Sig:=Sig.of [.box Jk,.v Jp false] [.v (.prod (.own Jx) (.own Jc)) true] (λd=>Zca N d.1 d.2.1)
def Zk3:Fn:=⟨Tryz.f194,λ |7=>[.canon [0,4,7,8,38]]|8=>[.canon [0,4,7,8]]|9=>[.canon [0,4,7,8]]|100007=>[.adoptC 7 1 Jc,.canon [0,4,7,8]]|_=>[],Zk2,λN=>[(115,Z6 N),(164,Zrz N)]⟩
def Zvz(n10:Int)(b11:List Int×Int×Int)(l12:List Ka)(l13:List Kq):St:=⟨[(0,vP 0 0),(4,vP 1 0),(7,vP 2 0),(8,vI n10)],[(0,.box [.val Jo b11.1,.val Ja b11.2.1,.val Ja b11.2.2]),(1,.box [.nils,.nils]),(2,.box [.own 3,.own 4]),(3,.arr Jx l12),(4,.arr Jc l13)],5⟩
def Ztp(l12:List Ka)(n16:Int)(t17:Bool)(b18:List Int×Int×Int)(l19:List Kq):St:=⟨[(0,vP 0 0),(4,vP 1 0),(7,vP 2 0),(8,vI n16),(38,vB t17)],[(0,.box [.val Jo b18.1,.val Ja b18.2.1,.val Ja b18.2.2]),(1,.box [.nils,.nils]),(2,.box [.own 3,.own 4]),(3,.arr Jx l12),(4,.arr Jc l19)],5⟩
theorem Zv0(N:Nat){R:Type}(K:Ex→St→Option R){l12:List Ka}{K0:Int→Bool→Ke→(List Kq)→Option R}(h0:K0= λn16 t17 b18 l19=>K (.exit 0) (Ztp l12 n16 t17 b18 l19))(n:Nat)(n10:Int)(b11:List Int×Int×Int)(l13:List Kq):Zf1 N l12 K0 n n10 b11 l13=LM Zk3 N 0 100007 n (Zvz n10 b11 l12 l13) K:=by
  subst h0
  induction n generalizing n10 b11 l13 with
  |zero=>kernel_rfl
  |succ n ih=>rw[Zf1];simp(disch:=exact id (by kernel_rfl)) only[ih];kernel_rfl
theorem Zq0:Wc Tryz.prog 194:=Wb Tryz.func194 (show Wg Tryz.f194=true by kernel_rfl)
theorem Z2x(N:Nat)(c1:List Int×Int×Int)(forks2:Bool):DN Zk3 N (c1,forks2,())=Zca N c1 forks2:=by
  have h:Zca N c1 forks2=Zca N c1 forks2:=rfl
  conv at h=>rhs;rw[Zca]
  simp(disch:=exact id (by kernel_rfl)) only[Zv0 (R:=Km×(Kk×Unit)) N (CF Zk3 N [1,1,1,1,1,0,1,0])]at h
  exact Eq.trans (by kernel_rfl) h.symm
theorem Zq1(N:Nat):Good Tryz.prog 194 (Zk2 N):=GF Zk3 N Tryz.func194 (Wa (Zae N) Zad (Wa (Z4c N) Zr0 We)) (by kernel_rfl) (λd=>Z2x N d.1 d.2.1)
def Zm9(N:Nat):Sig:=Sig.of [.box Jk,.v Ja false,.v Ja false] [.v (.own Jl) false] (λd=>Zc6 N d.1 d.2.1 d.2.2.1)
def Zjr:Fn:=⟨Tryz.f195,λ |4=>[.canon [0,1,2,7,8,9,14]]|5=>[.canon [0,1,2,7,8,9]]|6=>[.canon [0,1,2,7,8,9,18]]|7=>[.canon [0,1,2,7,8,9]]|8=>[.canon [0,1,2,7,8,9,10]]|9=>[.canon [0,1,2,7,8,9,10,25]]|10=>[.canon [0,1,2,7,8,9,10]]|11=>[.canon [0,1,2,7,8,9,10]]|12=>[.canon [0,1,2,7,8,9,10,31]]|13=>[.canon [0,1,2,7,8,9,10]]|14=>[.canon [0,1,2,7,8,9,10,35]]|15=>[.canon [0,1,2,7,8,9,10]]|16=>[.canon [0,1,2,7,8,9]]|100004=>[.canon [0,1,2,7,8,9]]|_=>[],Zm9,λN=>[(166,Zb3 N),(115,Z6 N)]⟩
def Ztq(n4:Int)(most5:Int)(who6:Int)(i7:Int)(b8:List Int×Int×Int)(l9:List Kb):St:=⟨[(0,vP 0 0),(1,vI n4),(2,vI most5),(7,vO 1),(8,vI who6),(9,vI i7)],[(0,.box [.val Jo b8.1,.val Ja b8.2.1,.val Ja b8.2.2]),(1,.arr Jl l9)],2⟩
def Zr1(n4:Int)(most5:Int)(who24:Int)(i25:Int)(t26:Bool)(b27:List Int×Int×Int)(l28:List Kb):St:=⟨[(0,vP 0 0),(1,vI n4),(2,vI most5),(7,vO 1),(8,vI who24),(9,vI i25),(14,vB t26)],[(0,.box [.val Jo b27.1,.val Ja b27.2.1,.val Ja b27.2.2]),(1,.arr Jl l28)],2⟩
theorem Ztr(N:Nat){R:Type}(K:Ex→St→Option R){n4:Int}{most5:Int}{K0:Int→Int→Bool→Ke→Kn→Option R}(h0:K0= λwho24 i25 t26 b27 l28=>K (.exit 0) (Zr1 n4 most5 who24 i25 t26 b27 l28))(n:Nat)(who6:Int)(i7:Int)(b8:List Int×Int×Int)(l9:List Kb):Zz N n4 most5 K0 n who6 i7 b8 l9=LM Zjr N 0 100004 n (Ztq n4 most5 who6 i7 b8 l9) K:=by
  subst h0
  induction n generalizing who6 i7 b8 l9 with
  |zero=>kernel_rfl
  |succ n ih=>rw[Zz];simp(disch:=exact id (by kernel_rfl)) only[ih];kernel_rfl
theorem Z0q:Wc Tryz.prog 195:=Wb Tryz.func195 (show Wg Tryz.f195=true by kernel_rfl)
theorem Z0r(N:Nat)(c1:List Int×Int×Int)(n2:Int)(most3:Int):DN Zjr N (c1,n2,most3,())=Zc6 N c1 n2 most3:=by
  have h:Zc6 N c1 n2 most3=Zc6 N c1 n2 most3:=rfl
  conv at h=>rhs;rw[Zc6]
  simp(disch:=exact id (by kernel_rfl)) only[Ztr (R:=Km×(Kn×Unit)) N (CF Zjr N [1,1,1,0,1,0])]at h
  exact Eq.trans (by kernel_rfl) h.symm
theorem Z0s(N:Nat):Good Tryz.prog 195 (Zm9 N):=GF Zjr N Tryz.func195 (Wa (Zdo N) Zdn (Wa (Zae N) Zad We)) (by kernel_rfl) (λd=>Z0r N d.1 d.2.1 d.2.2.1)
def Zlo(N:Nat):Sig:=Sig.of [.box Jk,.v Ja false,.v Ja false] [.v (.prod (.prod Jab Jq) (.prod (.own Jn) (.own Jl))) true] (λd=>Zcx N d.1 d.2.1 d.2.2.1)
def Zim:Fn:=⟨Tryz.f148,λ |4=>[.canon [0,1,2,6,7,8,9,18]]|5=>[.canon [0,1,2,6,7,8,9]]|6=>[.canon [0,1,2,6,7,8,9]]|100004=>[.adoptC 7 3 Jn,.canon [0,1,2,6,7,8,9]]|_=>[],Zlo,λN=>[(193,Ziy N),(115,Z6 N),(194,Zk2 N),(166,Zb3 N),(195,Zm9 N)]⟩
def Zrb(how6:Int)(most7:Int)(n8:Int)(i9:Int)(b10:List Int×Int×Int)(b12:Int)(l13:List Int)(l14:List Int)(l15:List Kk):St:=⟨[(0,vP 0 0),(1,vI how6),(2,vI most7),(6,vP 1 0),(7,vP 2 0),(8,vI n8),(9,vI i9)],[(0,.box [.val Jo b10.1,.val Ja b10.2.1,.val Ja b10.2.2]),(1,.box [.nils,.nils,.val Ja (0:Int),.nils,.nils]),(2,.box [.own 3,.own 4,.val Ja b12,.own 5,.nils]),(3,.arr Ja l13),(4,.arr Ja l14),(5,.arr Jn l15)],6⟩
def Zql(how6:Int)(most7:Int)(n8:Int)(b12:Int)(l13:List Int)(l14:List Int)(i24:Int)(t25:Bool)(b26:List Int×Int×Int)(l27:List Kk):St:=⟨[(0,vP 0 0),(1,vI how6),(2,vI most7),(6,vP 1 0),(7,vP 2 0),(8,vI n8),(9,vI i24),(18,vB t25)],[(0,.box [.val Jo b26.1,.val Ja b26.2.1,.val Ja b26.2.2]),(1,.box [.nils,.nils,.val Ja (0:Int),.nils,.nils]),(2,.box [.own 3,.own 4,.val Ja b12,.own 5,.nils]),(3,.arr Ja l13),(4,.arr Ja l14),(5,.arr Jn l27)],6⟩
theorem Zrc(N:Nat){R:Type}(K:Ex→St→Option R){how6:Int}{most7:Int}{n8:Int}{b12:Int}{l13:List Int}{l14:List Int}{K0:Int→Bool→Ke→(List Kk)→Option R}(h0:K0= λi24 t25 b26 l27=>K (.exit 0) (Zql how6 most7 n8 b12 l13 l14 i24 t25 b26 l27))(n:Nat)(i9:Int)(b10:List Int×Int×Int)(l15:List Kk):Zbi N how6 most7 n8 b12 l13 l14 K0 n i9 b10 l15=LM Zim N 0 100004 n (Zrb how6 most7 n8 i9 b10 b12 l13 l14 l15) K:=by
  subst h0
  induction n generalizing i9 b10 l15 with
  |zero=>kernel_rfl
  |succ n ih=>rw[Zbi];simp(disch:=exact id (by kernel_rfl)) only[ih];kernel_rfl
theorem Zx0:Wc Tryz.prog 148:=Wb Tryz.func148 (show Wg Tryz.f148=true by kernel_rfl)
theorem Zx1(N:Nat)(c1:List Int×Int×Int)(how2:Int)(most3:Int):DN Zim N (c1,how2,most3,())=Zcx N c1 how2 most3:=by
  have h:Zcx N c1 how2 most3=Zcx N c1 how2 most3:=rfl
  conv at h=>rhs;rw[Zcx]
  simp(disch:=exact id (by kernel_rfl)) only[Zrc (R:=Km×((Kg×List Kk×List Kb)×Unit)) N (CF Zim N [1,1,1,0,1,0])]at h
  exact Eq.trans (by kernel_rfl) h.symm
theorem Zx2(N:Nat):Good Tryz.prog 148 (Zlo N):=GF Zim N Tryz.func148 (Wa (Zpq N) Zpp (Wa (Zae N) Zad (Wa (Zq1 N) Zq0 (Wa (Zdo N) Zdn (Wa (Z0s N) Z0q We))))) (by kernel_rfl) (λd=>Zx1 N d.1 d.2.1 d.2.2.1)
def Zjs(N:Nat):Sig:=Sig.of [.box Jk] [.v (.prod Jab Jq) true] (λd=>Zif N d.1)
def Zts:Fn:=⟨Tryz.f149,Wz,Zjs,λN=>[(193,Ziy N),(115,Z6 N)]⟩
theorem Ztt:Wc Tryz.prog 149:=Wb Tryz.func149 (show Wg Tryz.f149=true by kernel_rfl)
theorem Ztu(N:Nat):Good Tryz.prog 149 (Zjs N):=GF Zts N Tryz.func149 (Wa (Zpq N) Zpp (Wa (Zae N) Zad We)) (by kernel_rfl) (λd=>by kernel_rfl)
def Zov(N:Nat):Sig:=Sig.of [.box Jk] [.v Jx true] (λd=>Zny N d.1)
def Z4d:Fn:=⟨Tryz.f169,Wz,Zov,λN=>[(115,Z6 N),(216,Zjq N),(215,Zg2 N)]⟩
theorem Z4e:Wc Tryz.prog 169:=Wb Tryz.func169 (show Wg Tryz.f169=true by kernel_rfl)
theorem Z4f(N:Nat):Good Tryz.prog 169 (Zov N):=GF Z4d N Tryz.func169 (Wa (Zae N) Zad (Wa (Zp7 N) Zp6 (Wa (Zll N) Zlk We))) (by kernel_rfl) (λd=>by kernel_rfl)
def Zn4(N:Nat):Sig:=Sig.of [.box Jk,.v Jc false] [.v (.own Jx) false] (λd=>Zd4 N d.1 d.2.1)
def Zk4:Fn:=⟨Tryz.f116,λ |12=>[.view 49,.view 45]|14=>[.canon [0,5,58]]|15=>[.canon [0,5]]|100014=>[.canon [0,5]]|_=>[],Zn4,λN=>[(115,Z6 N),(169,Zov N)]⟩
def Zv1(b6:List Int×Int×Int)(l7:List Ka):St:=⟨[(0,vP 0 0),(5,vO 1)],[(0,.box [.val Jo b6.1,.val Ja b6.2.1,.val Ja b6.2.2]),(1,.arr Jx l7)],2⟩
def Ztv(t9:Bool)(b10:List Int×Int×Int)(l11:List Ka):St:=⟨[(0,vP 0 0),(5,vO 1),(58,vB t9)],[(0,.box [.val Jo b10.1,.val Ja b10.2.1,.val Ja b10.2.2]),(1,.arr Jx l11)],2⟩
theorem Zv2(N:Nat){R:Type}(K:Ex→St→Option R){K0:Bool→Ke→Kq→Option R}(h0:K0= λt9 b10 l11=>K (.exit 1) (Ztv t9 b10 l11))(n:Nat)(b6:List Int×Int×Int)(l7:List Ka):Zf2 N K0 n b6 l7=LM Zk4 N 0 100014 n (Zv1 b6 l7) K:=by
  subst h0
  induction n generalizing b6 l7 with
  |zero=>kernel_rfl
  |succ n ih=>rw[Zf2];simp(disch:=exact id (by kernel_rfl)) only[ih];kernel_rfl
theorem Z2y:Wc Tryz.prog 116:=Wb Tryz.func116 (show Wg Tryz.f116=true by kernel_rfl)
theorem Z2z(N:Nat)(c1:List Int×Int×Int)(code2:List Ka):DN Zk4 N (c1,code2,())=Zd4 N c1 code2:=by
  have h:Zd4 N c1 code2=Zd4 N c1 code2:=rfl
  conv at h=>rhs;rw[Zd4]
  simp(disch:=exact id (by kernel_rfl)) only[Zv2 (R:=Km×(Kq×Unit)) N (CF Zk4 N [1,1,1,1,0,1,0,1,1,1,1,1,1,1,0,0])]at h
  exact Eq.trans (by kernel_rfl) h.symm
theorem Z20(N:Nat):Good Tryz.prog 116 (Zn4 N):=GF Zk4 N Tryz.func116 (Wa (Zae N) Zad (Wa (Z4f N) Z4e We)) (by kernel_rfl) (λd=>Z2z N d.1 d.2.1)
def Zlp(N:Nat):Sig:=Sig.of [.box Jk] [.v (.prod (.own Jx) (.own Jc)) true] (λd=>Zjn N d.1)
def Zx3:Fn:=⟨Tryz.f150,Wz,Zlp,λN=>[(166,Zb3 N),(194,Zk2 N),(115,Z6 N),(116,Zn4 N)]⟩
theorem Zx4:Wc Tryz.prog 150:=Wb Tryz.func150 (show Wg Tryz.f150=true by kernel_rfl)
theorem Zx5(N:Nat):Good Tryz.prog 150 (Zlp N):=GF Zx3 N Tryz.func150 (Wa (Zdo N) Zdn (Wa (Zq1 N) Zq0 (Wa (Zae N) Zad (Wa (Z20 N) Z2y We)))) (by kernel_rfl) (λd=>by kernel_rfl)
def Zn5(N:Nat):Sig:=Sig.of [.box Jk,.v Ja false] [.v (.prod (.prod Jab Jq) (.prod (.own Jn) (.own Jl))) true] (λd=>Zge N d.1 d.2.1)
def Zg8:Fn:=⟨Tryz.f102,λ |8=>[.canon [0,4,5,28]]|9=>[.canon [0,4,5]]|13=>[.canon [0,4,5,55]]|14=>[.canon [0,4,5]]|100008=>[.canon [0,4,5]]|100013=>[.canon [0,4,5]]|_=>[],Zn5,λN=>[(148,Zlo N),(115,Z6 N),(149,Zjs N),(150,Zlp N)]⟩
def Zv3(b7:List Int×Int×Int)(b9:Int)(l10:List Int)(l11:List Int)(l12:List Kk)(l13:List Kb):St:=⟨[(0,vP 0 0),(4,vP 1 0),(5,vP 2 0)],[(0,.box [.val Jo b7.1,.val Ja b7.2.1,.val Ja b7.2.2]),(1,.box [.nils,.nils,.val Ja (0:Int),.nils,.nils]),(2,.box [.own 3,.own 4,.val Ja b9,.own 5,.own 6]),(3,.arr Ja l10),(4,.arr Ja l11),(5,.arr Jn l12),(6,.arr Jl l13)],7⟩
def Ztw(b7:List Int×Int×Int)(b9:Int)(l10:List Int)(l11:List Int)(l13:List Kb)(t14:Bool)(l15:List Kk):St:=⟨[(0,vP 0 0),(4,vP 1 0),(5,vP 2 0),(28,vB t14)],[(0,.box [.val Jo b7.1,.val Ja b7.2.1,.val Ja b7.2.2]),(1,.box [.nils,.nils,.val Ja (0:Int),.nils,.nils]),(2,.box [.own 3,.own 4,.val Ja b9,.own 5,.own 6]),(3,.arr Ja l10),(4,.arr Ja l11),(5,.arr Jn l15),(6,.arr Jl l13)],7⟩
theorem Zv4(N:Nat){R:Type}(K:Ex→St→Option R){b7:List Int×Int×Int}{b9:Int}{l10:List Int}{l11:List Int}{l13:List Kb}{K0:Bool→(List Kk)→Option R}(h0:K0= λt14 l15=>K (.exit 1) (Ztw b7 b9 l10 l11 l13 t14 l15))(n:Nat)(l12:List Kk):Zf3 N b7 b9 l10 l11 l13 K0 n l12=LM Zg8 N 0 100008 n (Zv3 b7 b9 l10 l11 l12 l13) K:=by
  subst h0
  induction n generalizing l12 with
  |zero=>kernel_rfl
  |succ n ih=>rw[Zf3];simp(disch:=exact id (by kernel_rfl)) only[ih];kernel_rfl
def Zv5(b18:List Int×Int×Int)(b20:Int)(l21:List Int)(l22:List Int)(l23:List Kk)(l24:List Kb):St:=⟨[(0,vP 0 0),(4,vP 1 0),(5,vP 2 0)],[(0,.box [.val Jo b18.1,.val Ja b18.2.1,.val Ja b18.2.2]),(1,.box [.nils,.nils,.val Ja (0:Int),.nils,.nils]),(2,.box [.own 3,.own 4,.val Ja b20,.own 5,.own 6]),(3,.arr Ja l21),(4,.arr Ja l22),(5,.arr Jn l23),(6,.arr Jl l24)],7⟩
def Ztx(b20:Int)(l21:List Int)(l22:List Int)(l23:List Kk)(t27:Bool)(b28:List Int×Int×Int)(l29:List Kb):St:=⟨[(0,vP 0 0),(4,vP 1 0),(5,vP 2 0),(55,vB t27)],[(0,.box [.val Jo b28.1,.val Ja b28.2.1,.val Ja b28.2.2]),(1,.box [.nils,.nils,.val Ja (0:Int),.nils,.nils]),(2,.box [.own 3,.own 4,.val Ja b20,.own 5,.own 6]),(3,.arr Ja l21),(4,.arr Ja l22),(5,.arr Jn l23),(6,.arr Jl l29)],7⟩
theorem Zv6(N:Nat){R:Type}(K:Ex→St→Option R){b20:Int}{l21:List Int}{l22:List Int}{l23:List Kk}{K0:Bool→Ke→Kn→Option R}(h0:K0= λt27 b28 l29=>K (.exit 3) (Ztx b20 l21 l22 l23 t27 b28 l29))(n:Nat)(b18:List Int×Int×Int)(l24:List Kb):Zf4 N b20 l21 l22 l23 K0 n b18 l24=LM Zg8 N 1 100013 n (Zv5 b18 b20 l21 l22 l23 l24) K:=by
  subst h0
  induction n generalizing b18 l24 with
  |zero=>kernel_rfl
  |succ n ih=>rw[Zf4];simp(disch:=exact id (by kernel_rfl)) only[ih];kernel_rfl
theorem Z21:Wc Tryz.prog 102:=Wb Tryz.func102 (show Wg Tryz.f102=true by kernel_rfl)
theorem Z22(N:Nat)(c1:List Int×Int×Int)(most2:Int):DN Zg8 N (c1,most2,())=Zge N c1 most2:=by
  have h:Zge N c1 most2=Zge N c1 most2:=rfl
  conv at h=>rhs;rw[Zge]
  simp(disch:=exact id (by kernel_rfl)) only[Zv4 (R:=Km×((Kg×List Kk×List Kb)×Unit)) N (CF Zg8 N [1,1,0,1,0,1,1,1,1,1,0,0]),Zv6 (R:=Km×((Kg×List Kk×List Kb)×Unit)) N (CF Zg8 N [1,1,0,1,0,1,1,1,1,1,1,1,1,1,0,0])]at h
  exact Eq.trans (by kernel_rfl) h.symm
theorem Z23(N:Nat):Good Tryz.prog 102 (Zn5 N):=GF Zg8 N Tryz.func102 (Wa (Zx2 N) Zx0 (Wa (Zae N) Zad (Wa (Ztu N) Ztt (Wa (Zx5 N) Zx4 We)))) (by kernel_rfl) (λd=>Z22 N d.1 d.2.1)
def Zmj(N:Nat):Sig:=Sig.of [.v Jo false] [.v Jaa true] (λd=>Zkw N d.1)
def Zzj:Fn:=⟨Tryz.f38,Wz,Zmj,λN=>[(50,Zou N),(110,Zn0 N),(102,Zn5 N)]⟩
theorem Zzk:Wc Tryz.prog 38:=Wb Tryz.func38 (show Wg Tryz.f38=true by kernel_rfl)
theorem Zzl(N:Nat):Good Tryz.prog 38 (Zmj N):=GF Zzj N Tryz.func38 (Wa (Z4a N) Z38 (Wa (Z2r N) Z2q (Wa (Z23 N) Z21 We))) (by kernel_rfl) (λd=>by kernel_rfl)
def Z1(N:Nat):Sig:=Sig.of [.v Ja false,.v Ja false,.v Ja false] [.v Jp false] (λd=>Zq N d.1 d.2.1 d.2.2.1)
def Z24:Fn:=⟨Tryz.f55,Wz,Z1,Wcs⟩
theorem Zaa:Wc Tryz.prog 55:=Wb Tryz.func55 (show Wg Tryz.f55=true by kernel_rfl)
theorem Zab(N:Nat):Good Tryz.prog 55 (Z1 N):=GF Z24 N Tryz.func55 We (by kernel_rfl) (λd=>by kernel_rfl)
def Za3(N:Nat):Sig:=Sig.of [.v Ja false] [.v Jp false] (λd=>Zax N d.1)
def Z0t:Fn:=⟨Tryz.f130,Wz,Za3,λN=>[(55,Z1 N)]⟩
theorem Zbo:Wc Tryz.prog 130:=Wb Tryz.func130 (show Wg Tryz.f130=true by kernel_rfl)
theorem Zbp(N:Nat):Good Tryz.prog 130 (Za3 N):=GF Z0t N Tryz.func130 (Wa (Zab N) Zaa We) (by kernel_rfl) (λd=>by kernel_rfl)
def Zc1(N:Nat):Sig:=Sig.of [.v Jj false,.v Ja false] [.v Jp false] (λd=>Z9 N d.1 d.2.1)
def Zin:Fn:=⟨Tryz.f71,λ |2=>[.canon [0,1,7,8,9,10]]|3=>[.canon [0,1,6,7,8,9]]|4=>[.canon [0,1,7,8,9,15]]|5=>[.canon [4]]|6=>[.canon [0,1,7,8,9]]|100002=>[.canon [0,1,7,8,9]]|_=>[],Zc1,λN=>[(130,Za3 N)]⟩
def Zrd(l3:List Int)(n4:Int)(t7:Int):St:=⟨[(0,vV Jj l3),(1,vI n4),(7,vV Jj l3),(8,vI (ilen l3)),(9,vI t7)],[],0⟩
def Zqm(l3:List Int)(n4:Int):St:=⟨[(4,vB false)],[],0⟩
def Zqn(l3:List Int)(n4:Int)(t10:Int)(t11:Bool):St:=⟨[(0,vV Jj l3),(1,vI n4),(7,vV Jj l3),(8,vI (ilen l3)),(9,vI t10),(10,vB t11)],[],0⟩
theorem Zre(N:Nat){R:Type}(K:Ex→St→Option R){l3:List Int}{n4:Int}{K0:Option R}{K1:Int→Bool→Option R}(h0:K0=K .ret (Zqm l3 n4))(h1:K1= λt10 t11=>K (.exit 0) (Zqn l3 n4 t10 t11))(n:Nat)(t7:Int):Za0 N l3 n4 K0 K1 n t7=LM Zin N 0 100002 n (Zrd l3 n4 t7) K:=by
  subst h0 h1
  induction n generalizing t7 with
  |zero=>kernel_rfl
  |succ n ih=>rw[Za0];simp(disch:=exact id (by kernel_rfl)) only[ih];kernel_rfl
theorem Zg3:Wc Tryz.prog 71:=Wb Tryz.func71 (show Wg Tryz.f71=true by kernel_rfl)
theorem Zx6(N:Nat)(l1:List Int)(n2:Int):DN Zin N (l1,n2,())=Z9 N l1 n2:=by
  have h:Z9 N l1 n2=Z9 N l1 n2:=rfl
  conv at h=>rhs;rw[Z9]
  simp(disch:=exact id (by kernel_rfl)) only[Zre (R:=Unit×Kf) N (CF Zin N [1,0,1,0])]at h
  exact Eq.trans (by kernel_rfl) h.symm
theorem Zg4(N:Nat):Good Tryz.prog 71 (Zc1 N):=GF Zin N Tryz.func71 (Wa (Zbp N) Zbo We) (by kernel_rfl) (λd=>Zx6 N d.1 d.2.1)
def Zl6(N:Nat):Sig:=Sig.of [.v Jj false] [.v Jp false] (λd=>Zfr N d.1)
def Zl7:Fn:=⟨Tryz.f156,λ |2=>[.canon [0,5,6,7,8]]|3=>[.canon [0,4,5,6,7]]|4=>[.canon [0,5,6,7,13]]|5=>[.canon [2]]|6=>[.canon [0,5,6,7]]|100002=>[.canon [0,5,6,7]]|_=>[],Zl6,λN=>[(55,Z1 N)]⟩
def Zx7(l2:List Int)(t5:Int):St:=⟨[(0,vV Jj l2),(5,vV Jj l2),(6,vI (ilen l2)),(7,vI t5)],[],0⟩
def Zv7(l2:List Int):St:=⟨[(2,vB false)],[],0⟩
def Zv8(l2:List Int)(t8:Int)(t9:Bool):St:=⟨[(0,vV Jj l2),(5,vV Jj l2),(6,vI (ilen l2)),(7,vI t8),(8,vB t9)],[],0⟩
theorem Zx8(N:Nat){R:Type}(K:Ex→St→Option R){l2:List Int}{K0:Option R}{K1:Int→Bool→Option R}(h0:K0=K .ret (Zv7 l2))(h1:K1= λt8 t9=>K (.exit 0) (Zv8 l2 t8 t9))(n:Nat)(t5:Int):Zem N l2 K0 K1 n t5=LM Zl7 N 0 100002 n (Zx7 l2 t5) K:=by
  subst h0 h1
  induction n generalizing t5 with
  |zero=>kernel_rfl
  |succ n ih=>rw[Zem];simp(disch:=exact id (by kernel_rfl)) only[ih];kernel_rfl
theorem Zr2:Wc Tryz.prog 156:=Wb Tryz.func156 (show Wg Tryz.f156=true by kernel_rfl)
theorem Z4g(N:Nat)(l1:List Int):DN Zl7 N (l1,())=Zfr N l1:=by
  have h:Zfr N l1=Zfr N l1:=rfl
  conv at h=>rhs;rw[Zfr]
  simp(disch:=exact id (by kernel_rfl)) only[Zx8 (R:=Unit×Kf) N (CF Zl7 N [1,0,1,0])]at h
  exact Eq.trans (by kernel_rfl) h.symm
theorem Zr3(N:Nat):Good Tryz.prog 156 (Zl6 N):=GF Zl7 N Tryz.func156 (Wa (Zab N) Zaa We) (by kernel_rfl) (λd=>Z4g N d.1)
def Zmk(N:Nat):Sig:=Sig.of [.v Js true] [.v Jp false] (λd=>Zkx N d.1)
def Zzm:Fn:=⟨Tryz.f151,Wz,Zmk,λN=>[(71,Zc1 N),(156,Zl6 N),(130,Za3 N)]⟩
theorem Zzn:Wc Tryz.prog 151:=Wb Tryz.func151 (show Wg Tryz.f151=true by kernel_rfl)
theorem Zzo(N:Nat):Good Tryz.prog 151 (Zmk N):=GF Zzm N Tryz.func151 (Wa (Zg4 N) Zg3 (Wa (Zr3 N) Zr2 (Wa (Zbp N) Zbo We))) (by kernel_rfl) (λd=>by kernel_rfl)
def Zow(N:Nat):Sig:=Sig.of [.v Ja false] [.v Jp false] (λd=>Zv N d.1)
def Z4h:Fn:=⟨Tryz.f247,Wz,Zow,λN=>[(55,Z1 N)]⟩
theorem Z4i:Wc Tryz.prog 247:=Wb Tryz.func247 (show Wg Tryz.f247=true by kernel_rfl)
theorem Z4j(N:Nat):Good Tryz.prog 247 (Zow N):=GF Z4h N Tryz.func247 (Wa (Zab N) Zaa We) (by kernel_rfl) (λd=>by kernel_rfl)
def Zb4(N:Nat):Sig:=Sig.of [.v Ja false] [.v Jp false] (λd=>Za8 N d.1)
def Z25:Fn:=⟨Tryz.f65,Wz,Zb4,λN=>[(55,Z1 N)]⟩
theorem Zdp:Wc Tryz.prog 65:=Wb Tryz.func65 (show Wg Tryz.f65=true by kernel_rfl)
theorem Zdq(N:Nat):Good Tryz.prog 65 (Zb4 N):=GF Z25 N Tryz.func65 (Wa (Zab N) Zaa We) (by kernel_rfl) (λd=>by kernel_rfl)
def Ze5(N:Nat):Sig:=Sig.of [.v Ja false] [.v Jp false] (λd=>Za2 N d.1)
def Z4k:Fn:=⟨Tryz.f209,Wz,Ze5,λN=>[(55,Z1 N)]⟩
theorem Zhm:Wc Tryz.prog 209:=Wb Tryz.func209 (show Wg Tryz.f209=true by kernel_rfl)
theorem Zhn(N:Nat):Good Tryz.prog 209 (Ze5 N):=GF Z4k N Tryz.func209 (Wa (Zab N) Zaa We) (by kernel_rfl) (λd=>by kernel_rfl)
def Zic(N:Nat):Sig:=Sig.of [.v Jx true] [.v Jp false] (λd=>Zr N d.1)
def Z45:Fn:=⟨Tryz.f217,Wz,Zic,λN=>[(247,Zow N),(130,Za3 N),(65,Zb4 N),(55,Z1 N),(209,Ze5 N)]⟩
theorem Zmz:Wc Tryz.prog 217:=Wb Tryz.func217 (show Wg Tryz.f217=true by kernel_rfl)
theorem Zm0(N:Nat):Good Tryz.prog 217 (Zic N):=GF Z45 N Tryz.func217 (Wa (Z4j N) Z4i (Wa (Zbp N) Zbo (Wa (Zdq N) Zdp (Wa (Zab N) Zaa (Wa (Zhn N) Zhm We))))) (by kernel_rfl) (λd=>by kernel_rfl)
def Zjt(N:Nat):Sig:=Sig.of [.v Jx true] [.v Ja false] (λd=>Zhj N d.1)
def Z0u:Fn:=⟨Tryz.f170,Wz,Zjt,λN=>[(217,Zic N)]⟩
theorem Zp8:Wc Tryz.prog 170:=Wb Tryz.func170 (show Wg Tryz.f170=true by kernel_rfl)
theorem Zp9(N:Nat):Good Tryz.prog 170 (Zjt N):=GF Z0u N Tryz.func170 (Wa (Zm0 N) Zmz We) (by kernel_rfl) (λd=>by kernel_rfl)
def Zjc(N:Nat):Sig:=Sig.of [.v Jx true] [.v Ja false] (λd=>Zi6 N d.1)
def Z4l:Fn:=⟨Tryz.f248,Wz,Zjc,Wcs⟩
theorem Zox:Wc Tryz.prog 248:=Wb Tryz.func248 (show Wg Tryz.f248=true by kernel_rfl)
theorem Zoy(N:Nat):Good Tryz.prog 248 (Zjc N):=GF Z4l N Tryz.func248 We (by kernel_rfl) (λd=>by kernel_rfl)
def Zkp(N:Nat):Sig:=Sig.of [.v Jc false] [.v Jp false] (λd=>Zbv N d.1)
def Zh4:Fn:=⟨Tryz.f218,λ |3=>[.canon [3,6,7,8,9]]|4=>[.canon [3,5,6,7,8]]|5=>[.canon [3,6,7,8]]|6=>[.canon [3,6,7,8,17]]|7=>[.canon [2]]|8=>[.canon [3,6,7,8]]|100003=>[.canon [3,6,7,8]]|_=>[],Zkp,λN=>[(248,Zjc N)]⟩
def Zqo(n2:Int)(t3:List Ka)(t5:Int):St:=⟨[(3,vI n2),(6,vV Jc t3),(7,vI (ilen t3)),(8,vI t5)],[],0⟩
def Zqa(t3:List Ka):St:=⟨[(2,vB false)],[],0⟩
def Zqb(t3:List Ka)(n8:Int)(t9:Int)(t10:Bool):St:=⟨[(3,vI n8),(6,vV Jc t3),(7,vI (ilen t3)),(8,vI t9),(9,vB t10)],[],0⟩
theorem Zqp(N:Nat){R:Type}(K:Ex→St→Option R){t3:List Ka}{K0:Option R}{K1:Int→Int→Bool→Option R}(h0:K0=K .ret (Zqa t3))(h1:K1= λn8 t9 t10=>K (.exit 0) (Zqb t3 n8 t9 t10))(n:Nat)(n2:Int)(t5:Int):Zb0 N t3 K0 K1 n n2 t5=LM Zh4 N 0 100003 n (Zqo n2 t3 t5) K:=by
  subst h0 h1
  induction n generalizing n2 t5 with
  |zero=>kernel_rfl
  |succ n ih=>rw[Zb0];simp(disch:=exact id (by kernel_rfl)) only[ih];kernel_rfl
theorem Zv9:Wc Tryz.prog 218:=Wb Tryz.func218 (show Wg Tryz.f218=true by kernel_rfl)
theorem Zwa(N:Nat)(code1:List Ka):DN Zh4 N (code1,())=Zbv N code1:=by
  have h:Zbv N code1=Zbv N code1:=rfl
  conv at h=>rhs;rw[Zbv]
  simp(disch:=exact id (by kernel_rfl)) only[Zqp (R:=Unit×Kf) N (CF Zh4 N [1,1,0,1,0])]at h
  exact Eq.trans (by kernel_rfl) h.symm
theorem Zwb(N:Nat):Good Tryz.prog 218 (Zkp N):=GF Zh4 N Tryz.func218 (Wa (Zoy N) Zox We) (by kernel_rfl) (λd=>Zwa N d.1)
def Zna(N:Nat):Sig:=Sig.of [.v Jc false,.v Ja false] [.v Ja false] (λd=>Zev N d.1 d.2.1)
def Zju:Fn:=⟨Tryz.f219,λ |3=>[.canon [1,5,8,9,10,11]]|4=>[.canon [1,5,6,7,8,9,10]]|5=>[.canon [1,5,7,8,9,10,17]]|6=>[.canon [1,5,8,9,10]]|7=>[.canon [1,5,8,9,10]]|100003=>[.canon [1,5,8,9,10]]|_=>[],Zna,λN=>[(248,Zjc N)]⟩
def Zty(i3:Int)(n4:Int)(t5:List Ka)(t7:Int):St:=⟨[(1,vI i3),(5,vI n4),(8,vV Jc t5),(9,vI (ilen t5)),(10,vI t7)],[],0⟩
def Zr4(i3:Int)(t5:List Ka)(n10:Int)(t11:Int)(t12:Bool):St:=⟨[(1,vI i3),(5,vI n10),(8,vV Jc t5),(9,vI (ilen t5)),(10,vI t11),(11,vB t12)],[],0⟩
theorem Ztz(N:Nat){R:Type}(K:Ex→St→Option R){i3:Int}{t5:List Ka}{K0:Int→Int→Bool→Option R}(h0:K0= λn10 t11 t12=>K (.exit 0) (Zr4 i3 t5 n10 t11 t12))(n:Nat)(n4:Int)(t7:Int):Zb5 N i3 t5 K0 n n4 t7=LM Zju N 0 100003 n (Zty i3 n4 t5 t7) K:=by
  subst h0
  induction n generalizing n4 t7 with
  |zero=>kernel_rfl
  |succ n ih=>rw[Zb5];simp(disch:=exact id (by kernel_rfl)) only[ih];kernel_rfl
theorem Z0v:Wc Tryz.prog 219:=Wb Tryz.func219 (show Wg Tryz.f219=true by kernel_rfl)
theorem Z0w(N:Nat)(code1:List Ka)(i2:Int):DN Zju N (code1,i2,())=Zev N code1 i2:=by
  have h:Zev N code1 i2=Zev N code1 i2:=rfl
  conv at h=>rhs;rw[Zev]
  simp(disch:=exact id (by kernel_rfl)) only[Ztz (R:=Unit×Kj) N (CF Zju N [1,1,0,1,0])]at h
  exact Eq.trans (by kernel_rfl) h.symm
theorem Z0x(N:Nat):Good Tryz.prog 219 (Zna N):=GF Zju N Tryz.func219 (Wa (Zoy N) Zox We) (by kernel_rfl) (λd=>Z0w N d.1 d.2.1)
def Zk5(N:Nat):Sig:=Sig.of [.v Jc false] [.v Jp false] (λd=>Zby N d.1)
def Zk6:Fn:=⟨Tryz.f171,λ |5=>[.canon [0,3,14,15,16,17]]|6=>[.canon [0,3,4,5,14,15,16]]|7=>[.canon [0,3,4,5,14,15,16,23]]|8=>[.canon [2]]|9=>[.canon [0,3,4,5,14,15,16,25]]|10=>[.canon [0,3,4,5,14,15,16,25,26]]|11=>[.canon [0,3,14,15,16,48]]|12=>[.canon [2]]|13=>[.canon [0,3,4,14,15,16,49]]|14=>[.canon [0,3,4,14,15,16]]|15=>[.canon [0,3,14,15,16,60]]|16=>[.canon [2]]|17=>[.canon [0,3,14,15,16]]|100005=>[.canon [0,3,14,15,16]]|_=>[],Zk5,λN=>[(218,Zkp N),(217,Zic N),(219,Zna N)]⟩
def Zwc(code3:List Ka)(forks4:Int)(t7:Int):St:=⟨[(0,vV Jc code3),(3,vI forks4),(14,vV Jc code3),(15,vI (ilen code3)),(16,vI t7)],[],0⟩
def Zt0(code3:List Ka):St:=⟨[(2,vB false)],[],0⟩
def Zt1(code3:List Ka)(forks14:Int)(t15:Int)(t16:Bool):St:=⟨[(0,vV Jc code3),(3,vI forks14),(14,vV Jc code3),(15,vI (ilen code3)),(16,vI t15),(17,vB t16)],[],0⟩
theorem Zwd(N:Nat){R:Type}(K:Ex→St→Option R){code3:List Ka}{K0:Option R}{K1:Int→Int→Bool→Option R}(h0:K0=K .ret (Zt0 code3))(h1:K1= λforks14 t15 t16=>K (.exit 0) (Zt1 code3 forks14 t15 t16))(n:Nat)(forks4:Int)(t7:Int):Zbw N code3 K0 K1 n forks4 t7=LM Zk6 N 0 100005 n (Zwc code3 forks4 t7) K:=by
  subst h0 h1
  induction n generalizing forks4 t7 with
  |zero=>kernel_rfl
  |succ n ih=>rw[Zbw];simp(disch:=exact id (by kernel_rfl)) only[ih];kernel_rfl
theorem Zq2:Wc Tryz.prog 171:=Wb Tryz.func171 (show Wg Tryz.f171=true by kernel_rfl)
theorem Z26(N:Nat)(code1:List Ka):DN Zk6 N (code1,())=Zby N code1:=by
  have h:Zby N code1=Zby N code1:=rfl
  conv at h=>rhs;rw[Zby]
  simp(disch:=exact id (by kernel_rfl)) only[Zwd (R:=Unit×Kf) N (CF Zk6 N [1,1,1,0,1,0])]at h
  exact Eq.trans (by kernel_rfl) h.symm
theorem Zq3(N:Nat):Good Tryz.prog 171 (Zk5 N):=GF Zk6 N Tryz.func171 (Wa (Zwb N) Zv9 (Wa (Zm0 N) Zmz (Wa (Z0x N) Z0v We))) (by kernel_rfl) (λd=>Z26 N d.1)
def Zoz(N:Nat):Sig:=Sig.of [.v Jc false] [.v Jp false] (λd=>Zfo N d.1)
def Zl8:Fn:=⟨Tryz.f117,λ |2=>[.canon [0,5,6,7,8]]|3=>[.canon [0,4,5,6,7]]|4=>[.canon [0,5,6,7,18]]|5=>[.canon [2]]|6=>[.canon [0,5,6,7]]|100002=>[.canon [0,5,6,7]]|_=>[],Zoz,λN=>[(170,Zjt N),(171,Zk5 N)]⟩
def Zx9(code2:List Ka)(t5:Int):St:=⟨[(0,vV Jc code2),(5,vV Jc code2),(6,vI (ilen code2)),(7,vI t5)],[],0⟩
def Zwe(code2:List Ka):St:=⟨[(2,vB false)],[],0⟩
def Zwf(code2:List Ka)(t8:Int)(t9:Bool):St:=⟨[(0,vV Jc code2),(5,vV Jc code2),(6,vI (ilen code2)),(7,vI t8),(8,vB t9)],[],0⟩
theorem Zya(N:Nat){R:Type}(K:Ex→St→Option R){code2:List Ka}{K0:Option R}{K1:Int→Bool→Option R}(h0:K0=K .ret (Zwe code2))(h1:K1= λt8 t9=>K (.exit 0) (Zwf code2 t8 t9))(n:Nat)(t5:Int):Zei N code2 K0 K1 n t5=LM Zl8 N 0 100002 n (Zx9 code2 t5) K:=by
  subst h0 h1
  induction n generalizing t5 with
  |zero=>kernel_rfl
  |succ n ih=>rw[Zei];simp(disch:=exact id (by kernel_rfl)) only[ih];kernel_rfl
theorem Z4m:Wc Tryz.prog 117:=Wb Tryz.func117 (show Wg Tryz.f117=true by kernel_rfl)
theorem Z4n(N:Nat)(code1:List Ka):DN Zl8 N (code1,())=Zfo N code1:=by
  have h:Zfo N code1=Zfo N code1:=rfl
  conv at h=>rhs;rw[Zfo]
  simp(disch:=exact id (by kernel_rfl)) only[Zya (R:=Unit×Kf) N (CF Zl8 N [1,0,1,0])]at h
  exact Eq.trans (by kernel_rfl) h.symm
theorem Z4o(N:Nat):Good Tryz.prog 117 (Zoz N):=GF Zl8 N Tryz.func117 (Wa (Zp9 N) Zp8 (Wa (Zq3 N) Zq2 We)) (by kernel_rfl) (λd=>Z4n N d.1)
def Zlq(N:Nat):Sig:=Sig.of [.v Jx true] [.v Jp false] (λd=>Zm7 N d.1)
def Zyb:Fn:=⟨Tryz.f232,Wz,Zlq,Wcs⟩
theorem Zyc:Wc Tryz.prog 232:=Wb Tryz.func232 (show Wg Tryz.f232=true by kernel_rfl)
theorem Zyd(N:Nat):Good Tryz.prog 232 (Zlq N):=GF Zyb N Tryz.func232 We (by kernel_rfl) (λd=>by kernel_rfl)
def Za1(N:Nat):Sig:=Sig.of [.v Jc false,.clos 232 0] [.v Ja false] (λd=>Zs N d.1)
def Zac:Fn:=⟨Tryz.f261,λ |2=>[.canon [0,1,7,8,9]]|3=>[.canon [0,1,5,7,8]]|4=>[.canon [0,1,5,7,8,16]]|5=>[.canon [1,4]]|6=>[.canon [0,1,7,8]]|100002=>[.canon [0,1,7,8]]|_=>[],Za1,λN=>[(232,Zlq N)]⟩
def Zf9(s2:List Ka)(t4:Int):St:=⟨[(0,vV Jc s2),(1,.s (.one (.clos 232 []))),(7,vI (ilen s2)),(8,vI t4)],[],0⟩
def Zfs(s2:List Ka)(t7:Int):St:=⟨[(1,.s (.one (.clos 232 []))),(4,vI t7)],[],0⟩
def Zft(s2:List Ka)(t8:Int)(t9:Bool):St:=⟨[(0,vV Jc s2),(1,.s (.one (.clos 232 []))),(7,vI (ilen s2)),(8,vI t8),(9,vB t9)],[],0⟩
theorem Zga(N:Nat){R:Type}(K:Ex→St→Option R){s2:List Ka}{K0:Int→Option R}{K1:Int→Bool→Option R}(h0:K0= λt7=>K .ret (Zfs s2 t7))(h1:K1= λt8 t9=>K (.exit 0) (Zft s2 t8 t9))(n:Nat)(t4:Int):Zp N s2 K0 K1 n t4=LM Zac N 0 100002 n (Zf9 s2 t4) K:=by
  subst h0 h1
  induction n generalizing t4 with
  |zero=>kernel_rfl
  |succ n ih=>rw[Zp];simp(disch:=exact id (by kernel_rfl)) only[ih];kernel_rfl
theorem Zgu:Wc Tryz.prog 261:=Wb Tryz.func261 (show Wg Tryz.f261=true by kernel_rfl)
theorem Zgv(N:Nat)(s1:List Ka):DN Zac N (s1,())=Zs N s1:=by
  have h:Zs N s1=Zs N s1:=rfl
  conv at h=>rhs;rw[Zs]
  simp(disch:=exact id (by kernel_rfl)) only[Zga (R:=Unit×Kj) N (CF Zac N [1,0,1,0])]at h
  exact Eq.trans (by kernel_rfl) h.symm
theorem Zgw(N:Nat):Good Tryz.prog 261 (Za1 N):=GF Zac N Tryz.func261 (Wa (Zyd N) Zyc We) (by kernel_rfl) (λd=>Zgv N d.1)
def Zau(N:Nat):Sig:=Sig.of [.v Jc false,.clos 232 0] [.v Jp false] (λd=>Zay N d.1)
def Zgh:Fn:=⟨Tryz.f231,Wz,Zau,λN=>[(261,Za1 N)]⟩
theorem Zgi:Wc Tryz.prog 231:=Wb Tryz.func231 (show Wg Tryz.f231=true by kernel_rfl)
theorem Zgj(N:Nat):Good Tryz.prog 231 (Zau N):=GF Zgh N Tryz.func231 (Wa (Zgw N) Zgu We) (by kernel_rfl) (λd=>by kernel_rfl)
def Znb(N:Nat):Sig:=Sig.of [.v Jc false] [.v Jp false] (λd=>Zhk N d.1)
def Z0y:Fn:=⟨Tryz.f197,Wz,Znb,λN=>[(231,Zau N)]⟩
theorem Z0z:Wc Tryz.prog 197:=Wb Tryz.func197 (show Wg Tryz.f197=true by kernel_rfl)
theorem Z00(N:Nat):Good Tryz.prog 197 (Znb N):=GF Z0y N Tryz.func197 (Wa (Zgj N) Zgi We) (by kernel_rfl) (λd=>by kernel_rfl)
def Zn6(N:Nat):Sig:=Sig.of [.v Jn true] [.v Jp false] (λd=>Zgf N d.1)
def Zk7:Fn:=⟨Tryz.f154,λ |2=>[.canon [1,6,7,8,9]]|3=>[.canon [1,4,6,7,8]]|4=>[.canon [1,6,7,8,15]]|5=>[.canon [2]]|6=>[.canon [1,6,7,8]]|100002=>[.canon [1,6,7,8]]|_=>[],Zn6,λN=>[(117,Zoz N),(171,Zk5 N),(197,Znb N)]⟩
def Zwg(t2:List Kq)(t4:Int)(b5:List Ka×List Kq):St:=⟨[(1,vP 0 0),(6,vV (.slice Jc) t2),(7,vI (ilen b5.2)),(8,vI t4)],[(0,.box [.val Jc b5.1,.val (.slice Jc) b5.2])],1⟩
def Zt2(t2:List Kq)(b5:List Ka×List Kq):St:=⟨[(2,vB false)],[],0⟩
def Zt3(t2:List Kq)(b5:List Ka×List Kq)(t8:Int)(t9:Bool):St:=⟨[(1,vP 0 0),(6,vV (.slice Jc) t2),(7,vI (ilen b5.2)),(8,vI t8),(9,vB t9)],[(0,.box [.val Jc b5.1,.val (.slice Jc) b5.2])],1⟩
theorem Zwh(N:Nat){R:Type}(K:Ex→St→Option R){t2:List Kq}{b5:List Ka×List Kq}{K0:Option R}{K1:Int→Bool→Option R}(h0:K0=K .ret (Zt2 t2 b5))(h1:K1= λt8 t9=>K (.exit 0) (Zt3 t2 b5 t8 t9))(n:Nat)(t4:Int):Zdf N t2 b5 K0 K1 n t4=LM Zk7 N 0 100002 n (Zwg t2 t4 b5) K:=by
  subst h0 h1
  induction n generalizing t4 with
  |zero=>kernel_rfl
  |succ n ih=>rw[Zdf];simp(disch:=exact id (by kernel_rfl)) only[ih];kernel_rfl
theorem Z27:Wc Tryz.prog 154:=Wb Tryz.func154 (show Wg Tryz.f154=true by kernel_rfl)
theorem Z28(N:Nat)(p1:List Ka×List Kq):DN Zk7 N (p1,())=Zgf N p1:=by
  have h:Zgf N p1=Zgf N p1:=rfl
  conv at h=>rhs;rw[Zgf]
  simp(disch:=exact id (by kernel_rfl)) only[Zwh (R:=Unit×Kf) N (CF Zk7 N [1,0,1,0])]at h
  exact Eq.trans (by kernel_rfl) h.symm
theorem Z29(N:Nat):Good Tryz.prog 154 (Zn6 N):=GF Zk7 N Tryz.func154 (Wa (Z4o N) Z4m (Wa (Zq3 N) Zq2 (Wa (Z00 N) Z0z We))) (by kernel_rfl) (λd=>Z28 N d.1)
def Zkq(N:Nat):Sig:=Sig.of [.v Jn true] [.v Jp false] (λd=>Ziv N d.1)
def Zwi:Fn:=⟨Tryz.f153,Wz,Zkq,λN=>[(154,Zn6 N)]⟩
theorem Zwj:Wc Tryz.prog 153:=Wb Tryz.func153 (show Wg Tryz.f153=true by kernel_rfl)
theorem Zwk(N:Nat):Good Tryz.prog 153 (Zkq N):=GF Zwi N Tryz.func153 (Wa (Z29 N) Z27 We) (by kernel_rfl) (λd=>by kernel_rfl)
def Zaq(N:Nat):Sig:=Sig.of [.v Jah false,.clos 153 0] [.v Ja false] (λd=>Zn N d.1)
def Z7:Fn:=⟨Tryz.f196,λ |2=>[.canon [0,1,7,8,9]]|3=>[.canon [0,1,5,7,8]]|4=>[.canon [0,1,5,7,8,16]]|5=>[.canon [1,4]]|6=>[.canon [0,1,7,8]]|100002=>[.canon [0,1,7,8]]|_=>[],Zaq,λN=>[(153,Zkq N)]⟩
def Zep(s2:List Kk)(t4:Int):St:=⟨[(0,vV Jah s2),(1,.s (.one (.clos 153 []))),(7,vI (ilen s2)),(8,vI t4)],[],0⟩
def Zd6(s2:List Kk)(t7:Int):St:=⟨[(1,.s (.one (.clos 153 []))),(4,vI t7)],[],0⟩
def Zd7(s2:List Kk)(t8:Int)(t9:Bool):St:=⟨[(0,vV Jah s2),(1,.s (.one (.clos 153 []))),(7,vI (ilen s2)),(8,vI t8),(9,vB t9)],[],0⟩
theorem Zeq(N:Nat){R:Type}(K:Ex→St→Option R){s2:List Kk}{K0:Int→Option R}{K1:Int→Bool→Option R}(h0:K0= λt7=>K .ret (Zd6 s2 t7))(h1:K1= λt8 t9=>K (.exit 0) (Zd7 s2 t8 t9))(n:Nat)(t4:Int):Zf N s2 K0 K1 n t4=LM Z7 N 0 100002 n (Zep s2 t4) K:=by
  subst h0 h1
  induction n generalizing t4 with
  |zero=>kernel_rfl
  |succ n ih=>rw[Zf];simp(disch:=exact id (by kernel_rfl)) only[ih];kernel_rfl
theorem Zfu:Wc Tryz.prog 196:=Wb Tryz.func196 (show Wg Tryz.f196=true by kernel_rfl)
theorem Zfv(N:Nat)(s1:List Kk):DN Z7 N (s1,())=Zn N s1:=by
  have h:Zn N s1=Zn N s1:=rfl
  conv at h=>rhs;rw[Zn]
  simp(disch:=exact id (by kernel_rfl)) only[Zeq (R:=Unit×Kj) N (CF Z7 N [1,0,1,0])]at h
  exact Eq.trans (by kernel_rfl) h.symm
theorem Zfw(N:Nat):Good Tryz.prog 196 (Zaq N):=GF Z7 N Tryz.func196 (Wa (Zwk N) Zwj We) (by kernel_rfl) (λd=>Zfv N d.1)
def Zam(N:Nat):Sig:=Sig.of [.v Jah false,.clos 153 0] [.v Jp false] (λd=>Zao N d.1)
def Ze6:Fn:=⟨Tryz.f152,Wz,Zam,λN=>[(196,Zaq N)]⟩
theorem Ze7:Wc Tryz.prog 152:=Wb Tryz.func152 (show Wg Tryz.f152=true by kernel_rfl)
theorem Ze8(N:Nat):Good Tryz.prog 152 (Zam N):=GF Ze6 N Tryz.func152 (Wa (Zfw N) Zfu We) (by kernel_rfl) (λd=>by kernel_rfl)
def Zml(N:Nat):Sig:=Sig.of [.v Jaa true] [.v Jp false] (λd=>Zky N d.1)
def Zzp:Fn:=⟨Tryz.f103,Wz,Zml,λN=>[(151,Zmk N),(152,Zam N)]⟩
theorem Zzq:Wc Tryz.prog 103:=Wb Tryz.func103 (show Wg Tryz.f103=true by kernel_rfl)
theorem Zzr(N:Nat):Good Tryz.prog 103 (Zml N):=GF Zzp N Tryz.func103 (Wa (Zzo N) Zzn (Wa (Ze8 N) Ze7 We)) (by kernel_rfl) (λd=>by kernel_rfl)
def Znc(N:Nat):Sig:=Sig.of [] [.v Jab false] (λd=>Zot N)
def Z01:Fn:=⟨Tryz.f157,Wz,Znc,Wcs⟩
theorem Z02:Wc Tryz.prog 157:=Wb Tryz.func157 (show Wg Tryz.f157=true by kernel_rfl)
theorem Z03(N:Nat):Good Tryz.prog 157 (Znc N):=GF Z01 N Tryz.func157 We (by kernel_rfl) (λd=>by kernel_rfl)
def Z4(N:Nat):Sig:=Sig.of [.v Jj false] [.v Jab false] (λd=>Zx N d.1)
def Zzs:Fn:=⟨Tryz.f72,Wz,Z4,Wcs⟩
theorem Zaf:Wc Tryz.prog 72:=Wb Tryz.func72 (show Wg Tryz.f72=true by kernel_rfl)
theorem Zag(N:Nat):Good Tryz.prog 72 (Z4 N):=GF Zzs N Tryz.func72 We (by kernel_rfl) (λd=>by kernel_rfl)
def Zk8(N:Nat):Sig:=Sig.of [.v Ja false,.v Ja false] [.v Ja false] (λd=>Zia N d.1 d.2.1)
def Z3a:Fn:=⟨Tryz.f212,Wz,Zk8,Wcs⟩
theorem Zq4:Wc Tryz.prog 212:=Wb Tryz.func212 (show Wg Tryz.f212=true by kernel_rfl)
theorem Zq5(N:Nat):Good Tryz.prog 212 (Zk8 N):=GF Z3a N Tryz.func212 We (by kernel_rfl) (λd=>by kernel_rfl)
def Zl9(N:Nat):Sig:=Sig.of [.v Ja false] [.v Ja false] (λd=>Zhq N d.1)
def Z4p:Fn:=⟨Tryz.f244,Wz,Zl9,Wcs⟩
theorem Zr5:Wc Tryz.prog 244:=Wb Tryz.func244 (show Wg Tryz.f244=true by kernel_rfl)
theorem Zr6(N:Nat):Good Tryz.prog 244 (Zl9 N):=GF Z4p N Tryz.func244 We (by kernel_rfl) (λd=>by kernel_rfl)
def Zi0(N:Nat):Sig:=Sig.of [.v Ja false] [.v Ja false] (λd=>Zig N d.1)
def Zzt:Fn:=⟨Tryz.f213,Wz,Zi0,λN=>[(209,Ze5 N)]⟩
theorem Zpr:Wc Tryz.prog 213:=Wb Tryz.func213 (show Wg Tryz.f213=true by kernel_rfl)
theorem Zps(N:Nat):Good Tryz.prog 213 (Zi0 N):=GF Zzt N Tryz.func213 (Wa (Zhn N) Zhm We) (by kernel_rfl) (λd=>by kernel_rfl)
def Zgr(N:Nat):Sig:=Sig.of [.v Jj false] [.v Jp false] (λd=>Zb2 N d.1)
def Zjv:Fn:=⟨Tryz.f208,λ |5=>[.canon [3,9,10,11,12]]|6=>[.canon [3,4,5,9,10,11]]|7=>[.canon [3,4,5,9,10,11,17]]|8=>[.canon [3,5,9,10,11,35]]|9=>[.canon [2]]|10=>[.canon [3,9,10,11]]|11=>[.canon [3,9,10,11]]|100005=>[.canon [3,9,10,11]]|_=>[],Zgr,λN=>[(212,Zk8 N),(55,Z1 N),(244,Zl9 N),(213,Zi0 N)]⟩
def Zt4(t2:List Int)(t4:Int)(l5:List Bool):St:=⟨[(3,.s (.one (.aptr 0))),(9,vV Jj t2),(10,vI (ilen t2)),(11,vI t4)],[(0,.arr Jp l5)],1⟩
def Zr7(t2:List Int):St:=⟨[(2,vB false)],[],0⟩
def Zr8(t2:List Int)(t18:Int)(t19:Bool)(l20:List Bool):St:=⟨[(3,.s (.one (.aptr 0))),(9,vV Jj t2),(10,vI (ilen t2)),(11,vI t18),(12,vB t19)],[(0,.arr Jp l20)],1⟩
theorem Zt5(N:Nat){R:Type}(K:Ex→St→Option R){t2:List Int}{K0:Option R}{K1:Int→Bool→(List Bool)→Option R}(h0:K0=K .ret (Zr7 t2))(h1:K1= λt18 t19 l20=>K (.exit 0) (Zr8 t2 t18 t19 l20))(n:Nat)(t4:Int)(l5:List Bool):Zb6 N t2 K0 K1 n t4 l5=LM Zjv N 0 100005 n (Zt4 t2 t4 l5) K:=by
  subst h0 h1
  induction n generalizing t4 l5 with
  |zero=>kernel_rfl
  |succ n ih=>rw[Zb6];simp(disch:=exact id (by kernel_rfl)) only[ih];kernel_rfl
theorem Zjw:Wc Tryz.prog 208:=Wb Tryz.func208 (show Wg Tryz.f208=true by kernel_rfl)
theorem Z04(N:Nat)(l1:List Int):DN Zjv N (l1,())=Zb2 N l1:=by
  have h:Zb2 N l1=Zb2 N l1:=rfl
  conv at h=>rhs;rw[Zb2]
  simp(disch:=exact id (by kernel_rfl)) only[Zt5 (R:=Unit×Kf) N (CF Zjv N [1,1,1,0,1,0])]at h
  exact Eq.trans (by kernel_rfl) h.symm
theorem Zjx(N:Nat):Good Tryz.prog 208 (Zgr N):=GF Zjv N Tryz.func208 (Wa (Zq5 N) Zq4 (Wa (Zab N) Zaa (Wa (Zr6 N) Zr5 (Wa (Zps N) Zpr We)))) (by kernel_rfl) (λd=>Z04 N d.1)
def Zkl(N:Nat):Sig:=Sig.of [.v Jj false,.v Ja false] [.v Ja false] (λd=>Zdu N d.1 d.2.1)
def Zm1:Fn:=⟨Tryz.f210,λ |2=>[.canon [1,7,8,9,10]]|3=>[.canon [1,5,6,7,8,9]]|4=>[.canon [1,5,7,8,9,21]]|5=>[.canon [4]]|6=>[.canon [1,7,8,9]]|100002=>[.canon [1,7,8,9]]|_=>[],Zkl,λN=>[(244,Zl9 N)]⟩
def Zzu(key3:Int)(t4:List Int)(t6:Int):St:=⟨[(1,vI key3),(7,vV Jj t4),(8,vI (ilen t4)),(9,vI t6)],[],0⟩
def Zye(key3:Int)(t4:List Int)(t9:Int):St:=⟨[(4,vI t9)],[],0⟩
def Zyf(key3:Int)(t4:List Int)(t10:Int)(t11:Bool):St:=⟨[(1,vI key3),(7,vV Jj t4),(8,vI (ilen t4)),(9,vI t10),(10,vB t11)],[],0⟩
theorem Zzv(N:Nat){R:Type}(K:Ex→St→Option R){key3:Int}{t4:List Int}{K0:Int→Option R}{K1:Int→Bool→Option R}(h0:K0= λt9=>K .ret (Zye key3 t4 t9))(h1:K1= λt10 t11=>K (.exit 0) (Zyf key3 t4 t10 t11))(n:Nat)(t6:Int):Zdm N key3 t4 K0 K1 n t6=LM Zm1 N 0 100002 n (Zzu key3 t4 t6) K:=by
  subst h0 h1
  induction n generalizing t6 with
  |zero=>kernel_rfl
  |succ n ih=>rw[Zdm];simp(disch:=exact id (by kernel_rfl)) only[ih];kernel_rfl
theorem Zpg:Wc Tryz.prog 210:=Wb Tryz.func210 (show Wg Tryz.f210=true by kernel_rfl)
theorem Z46(N:Nat)(l1:List Int)(key2:Int):DN Zm1 N (l1,key2,())=Zdu N l1 key2:=by
  have h:Zdu N l1 key2=Zdu N l1 key2:=rfl
  conv at h=>rhs;rw[Zdu]
  simp(disch:=exact id (by kernel_rfl)) only[Zzv (R:=Unit×Kj) N (CF Zm1 N [1,0,1,0])]at h
  exact Eq.trans (by kernel_rfl) h.symm
theorem Zph(N:Nat):Good Tryz.prog 210 (Zkl N):=GF Zm1 N Tryz.func210 (Wa (Zr6 N) Zr5 We) (by kernel_rfl) (λd=>Z46 N d.1 d.2.1)
def Zhv(N:Nat):Sig:=Sig.of [.v Jj false,.v Ja false] [.v Ja false,.v Jp false] (λd=>Zhl N d.1 d.2.1)
def Z05:Fn:=⟨Tryz.f211,Wz,Zhv,λN=>[(208,Zgr N),(209,Ze5 N),(210,Zkl N)]⟩
theorem Znd:Wc Tryz.prog 211:=Wb Tryz.func211 (show Wg Tryz.f211=true by kernel_rfl)
theorem Zne(N:Nat):Good Tryz.prog 211 (Zhv N):=GF Z05 N Tryz.func211 (Wa (Zjx N) Zjw (Wa (Zhn N) Zhm (Wa (Zph N) Zpg We))) (by kernel_rfl) (λd=>by kernel_rfl)
def Zhw(N:Nat):Sig:=Sig.of [.v Jj false,.v Ja false,.v Ja false] [.v Jab false,.v Ja false,.v Jp false] (λd=>Zcf N d.1 d.2.1 d.2.2.1)
def Zjy:Fn:=⟨Tryz.f158,λ |10=>[.canon [1,2,9,13,57]]|11=>[.canon [1,2,9,13]]|100010=>[.canon [1,2,9,13]]|_=>[],Zhw,λN=>[(72,Z4 N),(208,Zgr N),(209,Ze5 N),(130,Za3 N),(210,Zkl N),(211,Zhv N),(212,Zk8 N),(213,Zi0 N)]⟩
def Zt6(key12:Int)(v13:Int)(at14:Int)(l15:List Int):St:=⟨[(1,vI key12),(2,vI v13),(9,vO 0),(13,vI at14)],[(0,.arr Ja l15)],1⟩
def Zr9(key12:Int)(v13:Int)(l15:List Int)(at16:Int)(t17:Bool):St:=⟨[(1,vI key12),(2,vI v13),(9,vO 0),(13,vI at16),(57,vB t17)],[(0,.arr Ja l15)],1⟩
theorem Zt7(N:Nat){R:Type}(K:Ex→St→Option R){key12:Int}{v13:Int}{l15:List Int}{K0:Int→Bool→Option R}(h0:K0= λat16 t17=>K (.exit 0) (Zr9 key12 v13 l15 at16 t17))(n:Nat)(at14:Int):Zcy N key12 v13 l15 K0 n at14=LM Zjy N 0 100010 n (Zt6 key12 v13 at14 l15) K:=by
  subst h0
  induction n generalizing at14 with
  |zero=>kernel_rfl
  |succ n ih=>rw[Zcy];simp(disch:=exact id (by kernel_rfl)) only[ih];kernel_rfl
theorem Znf:Wc Tryz.prog 158:=Wb Tryz.func158 (show Wg Tryz.f158=true by kernel_rfl)
theorem Z06(N:Nat)(l1:List Int)(key2:Int)(v3:Int):DN Zjy N (l1,key2,v3,())=Zcf N l1 key2 v3:=by
  have h:Zcf N l1 key2 v3=Zcf N l1 key2 v3:=rfl
  conv at h=>rhs;rw[Zcf]
  simp(disch:=exact id (by kernel_rfl)) only[Zt7 (R:=Unit×(Kh×(Int×Kf))) N (CF Zjy N [1,1,1,1,1,0,0])]at h
  exact Eq.trans (by kernel_rfl) h.symm
theorem Zng(N:Nat):Good Tryz.prog 158 (Zhw N):=GF Zjy N Tryz.func158 (Wa (Zag N) Zaf (Wa (Zjx N) Zjw (Wa (Zhn N) Zhm (Wa (Zbp N) Zbo (Wa (Zph N) Zpg (Wa (Zne N) Znd (Wa (Zq5 N) Zq4 (Wa (Zps N) Zpr We)))))))) (by kernel_rfl) (λd=>Z06 N d.1 d.2.1 d.2.2.1)
def Zlr(N:Nat):Sig:=Sig.of [.v Jj false] [.v Jab false] (λd=>Zaz N d.1)
def Zio:Fn:=⟨Tryz.f107,λ |5=>[.canon [3,10,11,12,13]]|6=>[.canon [3,4,5,10,11,12]]|7=>[.canon [3,4,5,10,11,12,18]]|8=>[.canon [3,10,11,12]]|9=>[.canon [3,10,11,12]]|100005=>[.canon [3,10,11,12]]|_=>[],Zlr,λN=>[(156,Zl6 N),(157,Znc N),(158,Zhw N)]⟩
def Zrf(t4:List Int)(t6:Int)(l7:List Int):St:=⟨[(3,vO 0),(10,vV Jj t4),(11,vI (ilen t4)),(12,vI t6)],[(0,.arr Ja l7)],1⟩
def Zqq(t4:List Int)(t10:Int)(t11:Bool)(l12:List Int):St:=⟨[(3,vO 0),(10,vV Jj t4),(11,vI (ilen t4)),(12,vI t10),(13,vB t11)],[(0,.arr Ja l12)],1⟩
theorem Zrg(N:Nat){R:Type}(K:Ex→St→Option R){t4:List Int}{K0:Int→Bool→Kh→Option R}(h0:K0= λt10 t11 l12=>K (.exit 0) (Zqq t4 t10 t11 l12))(n:Nat)(t6:Int)(l7:List Int):Zbj N t4 K0 n t6 l7=LM Zio N 0 100005 n (Zrf t4 t6 l7) K:=by
  subst h0
  induction n generalizing t6 l7 with
  |zero=>kernel_rfl
  |succ n ih=>rw[Zbj];simp(disch:=exact id (by kernel_rfl)) only[ih];kernel_rfl
theorem Zyg:Wc Tryz.prog 107:=Wb Tryz.func107 (show Wg Tryz.f107=true by kernel_rfl)
theorem Zyh(N:Nat)(m1:List Int):DN Zio N (m1,())=Zaz N m1:=by
  have h:Zaz N m1=Zaz N m1:=rfl
  conv at h=>rhs;rw[Zaz]
  simp(disch:=exact id (by kernel_rfl)) only[Zrg (R:=Unit×Ko) N (CF Zio N [1,1,1,0,1,0])]at h
  exact Eq.trans (by kernel_rfl) h.symm
theorem Zyi(N:Nat):Good Tryz.prog 107 (Zlr N):=GF Zio N Tryz.func107 (Wa (Zr3 N) Zr2 (Wa (Z03 N) Z02 (Wa (Zng N) Znf We))) (by kernel_rfl) (λd=>Zyh N d.1)
def Zn7(N:Nat):Sig:=Sig.of [.v Jj false] [.v Jag true,.v Jp false] (λd=>Zbg N d.1)
def Zk9:Fn:=⟨Tryz.f53,λ |5=>[.canon [2,4,12,13,14,15]]|6=>[.canon [2,4,6,12,13,14]]|7=>[.canon [2,4,12,13,14]]|8=>[.canon [2,4,12,13,14]]|100005=>[.adoptC 4 1 Jl,.canon [2,4,12,13,14]]|_=>[],Zn7,λN=>[(71,Zc1 N)]⟩
def Zwl(t3:List Int)(t5:Int)(l8:List Kb):St:=⟨[(2,vP 0 0),(4,vP 1 0),(12,vV Jj t3),(13,vI (ilen t3)),(14,vI t5)],[(0,.box [.val Ja (0:Int),.nils]),(1,.box [.val Ja (0:Int),.own 2]),(2,.arr Jl l8)],3⟩
def Zt8(t3:List Int)(t9:Int)(t10:Bool)(l11:List Kb):St:=⟨[(2,vP 0 0),(4,vP 1 0),(12,vV Jj t3),(13,vI (ilen t3)),(14,vI t9),(15,vB t10)],[(0,.box [.val Ja (0:Int),.nils]),(1,.box [.val Ja (0:Int),.own 2]),(2,.arr Jl l11)],3⟩
theorem Zwm(N:Nat){R:Type}(K:Ex→St→Option R){t3:List Int}{K0:Int→Bool→Kn→Option R}(h0:K0= λt9 t10 l11=>K (.exit 0) (Zt8 t3 t9 t10 l11))(n:Nat)(t5:Int)(l8:List Kb):Zde N t3 K0 n t5 l8=LM Zk9 N 0 100005 n (Zwl t3 t5 l8) K:=by
  subst h0
  induction n generalizing t5 l8 with
  |zero=>kernel_rfl
  |succ n ih=>rw[Zde];simp(disch:=exact id (by kernel_rfl)) only[ih];kernel_rfl
theorem Z3b:Wc Tryz.prog 53:=Wb Tryz.func53 (show Wg Tryz.f53=true by kernel_rfl)
theorem Z3c(N:Nat)(l1:List Int):DN Zk9 N (l1,())=Zbg N l1:=by
  have h:Zbg N l1=Zbg N l1:=rfl
  conv at h=>rhs;rw[Zbg]
  simp(disch:=exact id (by kernel_rfl)) only[Zwm (R:=Unit×((Int×List Kb)×Kf)) N (CF Zk9 N [1,1,1,0,1,0])]at h
  exact Eq.trans (by kernel_rfl) h.symm
theorem Z3d(N:Nat):Good Tryz.prog 53 (Zn7 N):=GF Zk9 N Tryz.func53 (Wa (Zg4 N) Zg3 We) (by kernel_rfl) (λd=>Z3c N d.1)
def Zc2(N:Nat):Sig:=Sig.of [.box Jad] [] (λd=>Zba N d.1)
def Zyj:Fn:=⟨Tryz.f198,Wz,Zc2,Wcs⟩
theorem Zg5:Wc Tryz.prog 198:=Wb Tryz.func198 (show Wg Tryz.f198=true by kernel_rfl)
theorem Zg6(N:Nat):Good Tryz.prog 198 (Zc2 N):=GF Zyj N Tryz.func198 We (by kernel_rfl) (λd=>by kernel_rfl)
def Zkr(N:Nat):Sig:=Sig.of [.box Jv,.v Ja false] [] (λd=>Zcj N d.1 d.2.1)
def Zh5:Fn:=⟨Tryz.f199,λ |3=>[.canon [0,1,4,5,17,18,19,20]]|4=>[.canon [0,1,4,5,6,7,17,18,19]]|5=>[.canon [0,1,4,5,17,18,19]]|6=>[.canon [0,1,4,5,17,18,19]]|100003=>[.canon [0,1,4,5,17,18,19]]|_=>[],Zkr,Wcs⟩
def Zqr(k3:Int)(r4:Nat)(alone5:Bool)(t6:Int)(t7:Int)(b8:Int)(b9:Int)(b10:Int)(b11:Int)(l12:List Y_Root)(l13:List Kb)(l14:List Int)(l15:List Kb)(l16:List Kl):St:=⟨[(0,vP 0 0),(1,vI k3),(4,.s (.one (.eptr 1 r4 0))),(5,vB alone5),(17,vO 1),(18,vI t6),(19,vI t7)],[(0,.box [.val Ja b8,.val Ja b9,.val Ja b10,.own 2,.own 3,.val Ja b11,.own 4,.own 1,.own 5]),(1,.arr Jad l12),(2,.arr Jl l13),(3,.arr Ja l14),(4,.arr Jl l15),(5,.arr Jz l16)],6⟩
def Zqc(k3:Int)(r4:Nat)(t6:Int)(b8:Int)(b9:Int)(b10:Int)(b11:Int)(l12:List Y_Root)(l13:List Kb)(l14:List Int)(l15:List Kb)(l16:List Kl)(alone17:Bool)(t18:Int)(t19:Bool):St:=⟨[(0,vP 0 0),(1,vI k3),(4,.s (.one (.eptr 1 r4 0))),(5,vB alone17),(17,vO 1),(18,vI t6),(19,vI t18),(20,vB t19)],[(0,.box [.val Ja b8,.val Ja b9,.val Ja b10,.own 2,.own 3,.val Ja b11,.own 4,.own 1,.own 5]),(1,.arr Jad l12),(2,.arr Jl l13),(3,.arr Ja l14),(4,.arr Jl l15),(5,.arr Jz l16)],6⟩
theorem Zqs(N:Nat){R:Type}(K:Ex→St→Option R){k3:Int}{r4:Nat}{t6:Int}{b8:Int}{b9:Int}{b10:Int}{b11:Int}{l12:List Y_Root}{l13:List Kb}{l14:List Int}{l15:List Kb}{l16:List Kl}{K0:Bool→Int→Bool→Option R}(h0:K0= λalone17 t18 t19=>K (.exit 0) (Zqc k3 r4 t6 b8 b9 b10 b11 l12 l13 l14 l15 l16 alone17 t18 t19))(n:Nat)(alone5:Bool)(t7:Int):Zav N k3 r4 t6 b8 b9 b10 b11 l12 l13 l14 l15 l16 K0 n alone5 t7=LM Zh5 N 0 100003 n (Zqr k3 r4 alone5 t6 t7 b8 b9 b10 b11 l12 l13 l14 l15 l16) K:=by
  subst h0
  induction n generalizing alone5 t7 with
  |zero=>kernel_rfl
  |succ n ih=>rw[Zav];simp(disch:=exact id (by kernel_rfl)) only[ih];kernel_rfl
theorem Zwn:Wc Tryz.prog 199:=Wb Tryz.func199 (show Wg Tryz.f199=true by kernel_rfl)
theorem Zwo(N:Nat)(w1:Y_World)(k2:Int):DN Zh5 N (w1,k2,())=Zcj N w1 k2:=by
  have h:Zcj N w1 k2=Zcj N w1 k2:=rfl
  conv at h=>rhs;rw[Zcj]
  simp(disch:=exact id (by kernel_rfl)) only[Zqs (R:=(Y_World×Unit)×Unit) N (CF Zh5 N [1,1,0,1,0])]at h
  exact Eq.trans (by kernel_rfl) h.symm
theorem Zwp(N:Nat):Good Tryz.prog 199 (Zkr N):=GF Zh5 N Tryz.func199 We (by kernel_rfl) (λd=>Zwo N d.1 d.2.1)
def Zla(N:Nat):Sig:=Sig.of [.v Ja false,.v Ja false,.v Ja false] [.v Jp false] (λd=>Zib N d.1 d.2.1 d.2.2.1)
def Z3e:Fn:=⟨Tryz.f280,Wz,Zla,λN=>[(55,Z1 N)]⟩
theorem Zq6:Wc Tryz.prog 280:=Wb Tryz.func280 (show Wg Tryz.f280=true by kernel_rfl)
theorem Zq7(N:Nat):Good Tryz.prog 280 (Zla N):=GF Z3e N Tryz.func280 (Wa (Zab N) Zaa We) (by kernel_rfl) (λd=>by kernel_rfl)
def Zjd(N:Nat):Sig:=Sig.of [.v Jl true,.v Jl true] [.v Ja false] (λd=>Zh2 N d.1 d.2.1)
def Zsa:Fn:=⟨Tryz.f281,Wz,Zjd,Wcs⟩
theorem Zsb:Wc Tryz.prog 281:=Wb Tryz.func281 (show Wg Tryz.f281=true by kernel_rfl)
theorem Zsc(N:Nat):Good Tryz.prog 281 (Zjd N):=GF Zsa N Tryz.func281 We (by kernel_rfl) (λd=>by kernel_rfl)
def Zgs(N:Nat):Sig:=Sig.of [.v Je false] [.v Jp false] (λd=>Zcg N d.1)
def Zjz:Fn:=⟨Tryz.f241,λ |2=>[.canon [0,5,6,7,8]]|3=>[.canon [0,3,4,5,6,7]]|4=>[.canon [0,3,4,5,6,7,33]]|5=>[.canon [2]]|6=>[.canon [0,5,6,7,60]]|7=>[.canon [2]]|8=>[.canon [0,5,6,7]]|100002=>[.canon [0,5,6,7]]|_=>[],Zgs,λN=>[(280,Zla N),(281,Zjd N)]⟩
def Zt9(l2:List Kb)(t5:Int):St:=⟨[(0,vV Je l2),(5,vV Je l2),(6,vI (ilen l2)),(7,vI t5)],[],0⟩
def Zsd(l2:List Kb):St:=⟨[(2,vB false)],[],0⟩
def Zse(l2:List Kb)(t10:Int)(t11:Bool):St:=⟨[(0,vV Je l2),(5,vV Je l2),(6,vI (ilen l2)),(7,vI t10),(8,vB t11)],[],0⟩
theorem Zua(N:Nat){R:Type}(K:Ex→St→Option R){l2:List Kb}{K0:Option R}{K1:Int→Bool→Option R}(h0:K0=K .ret (Zsd l2))(h1:K1= λt10 t11=>K (.exit 0) (Zse l2 t10 t11))(n:Nat)(t5:Int):Zas N l2 K0 K1 n t5=LM Zjz N 0 100002 n (Zt9 l2 t5) K:=by
  subst h0 h1
  induction n generalizing t5 with
  |zero=>kernel_rfl
  |succ n ih=>rw[Zas];simp(disch:=exact id (by kernel_rfl)) only[ih];kernel_rfl
theorem Zj0:Wc Tryz.prog 241:=Wb Tryz.func241 (show Wg Tryz.f241=true by kernel_rfl)
theorem Z07(N:Nat)(l1:List Kb):DN Zjz N (l1,())=Zcg N l1:=by
  have h:Zcg N l1=Zcg N l1:=rfl
  conv at h=>rhs;rw[Zcg]
  simp(disch:=exact id (by kernel_rfl)) only[Zua (R:=Unit×Kf) N (CF Zjz N [1,0,1,0])]at h
  exact Eq.trans (by kernel_rfl) h.symm
theorem Zj1(N:Nat):Good Tryz.prog 241 (Zgs N):=GF Zjz N Tryz.func241 (Wa (Zq7 N) Zq6 (Wa (Zsc N) Zsb We)) (by kernel_rfl) (λd=>Z07 N d.1)
def Znh(N:Nat):Sig:=Sig.of [.v Je false,.v Ja false] [.v Jab false] (λd=>Zc7 N d.1 d.2.1)
def Zj2:Fn:=⟨Tryz.f262,λ |5=>[.canon [1,5,12,13,14,15]]|6=>[.canon [1,5,7,12,13,14]]|7=>[.canon [1,5,7,12,13,14,21]]|8=>[.canon [1,5,12,13,14]]|9=>[.canon [1,5,12,13,14]]|100005=>[.canon [1,5,12,13,14]]|_=>[],Znh,λN=>[(241,Zgs N)]⟩
def Zub(who4:Int)(t5:List Kb)(t7:Int)(l8:List Int):St:=⟨[(1,vI who4),(5,vO 0),(12,vV Je t5),(13,vI (ilen t5)),(14,vI t7)],[(0,.arr Ja l8)],1⟩
def Zsf(who4:Int)(t5:List Kb)(t9:Int)(t10:Bool)(l11:List Int):St:=⟨[(1,vI who4),(5,vO 0),(12,vV Je t5),(13,vI (ilen t5)),(14,vI t9),(15,vB t10)],[(0,.arr Ja l11)],1⟩
theorem Zuc(N:Nat){R:Type}(K:Ex→St→Option R){who4:Int}{t5:List Kb}{K0:Int→Bool→Kh→Option R}(h0:K0= λt9 t10 l11=>K (.exit 0) (Zsf who4 t5 t9 t10 l11))(n:Nat)(t7:Int)(l8:List Int):Zb7 N who4 t5 K0 n t7 l8=LM Zj2 N 0 100005 n (Zub who4 t5 t7 l8) K:=by
  subst h0
  induction n generalizing t7 l8 with
  |zero=>kernel_rfl
  |succ n ih=>rw[Zb7];simp(disch:=exact id (by kernel_rfl)) only[ih];kernel_rfl
theorem Z08:Wc Tryz.prog 262:=Wb Tryz.func262 (show Wg Tryz.f262=true by kernel_rfl)
theorem Z09(N:Nat)(l1:List Kb)(who2:Int):DN Zj2 N (l1,who2,())=Zc7 N l1 who2:=by
  have h:Zc7 N l1 who2=Zc7 N l1 who2:=rfl
  conv at h=>rhs;rw[Zc7]
  simp(disch:=exact id (by kernel_rfl)) only[Zuc (R:=Unit×Ko) N (CF Zj2 N [1,1,1,0,1,0])]at h
  exact Eq.trans (by kernel_rfl) h.symm
theorem Z1a(N:Nat):Good Tryz.prog 262 (Znh N):=GF Zj2 N Tryz.func262 (Wa (Zj1 N) Zj0 We) (by kernel_rfl) (λd=>Z09 N d.1 d.2.1)
def Zip(N:Nat):Sig:=Sig.of [.box Jv,.v Ja false] [] (λd=>Zgp N d.1 d.2.1)
def Zyk:Fn:=⟨Tryz.f207,λ |0=>[.opn 10]|_=>[],Zip,Wcs⟩
theorem Zo5:Wc Tryz.prog 207:=Wb Tryz.func207 (show Wg Tryz.f207=true by kernel_rfl)
theorem Zo6(N:Nat):Good Tryz.prog 207 (Zip N):=GF Zyk N Tryz.func207 We (by kernel_rfl) (λd=>by kernel_rfl)
def Zer(N:Nat):Sig:=Sig.of [.v Ja false] [.v Jp false] (λd=>Zew N d.1)
def Z1b:Fn:=⟨Tryz.f288,Wz,Zer,λN=>[(55,Z1 N)]⟩
theorem Zhx:Wc Tryz.prog 288:=Wb Tryz.func288 (show Wg Tryz.f288=true by kernel_rfl)
theorem Zhy(N:Nat):Good Tryz.prog 288 (Zer N):=GF Z1b N Tryz.func288 (Wa (Zab N) Zaa We) (by kernel_rfl) (λd=>by kernel_rfl)
def Zg9(N:Nat):Sig:=Sig.of [.v Ji false] [.v Jp false] (λd=>Zbz N d.1)
def Zlb:Fn:=⟨Tryz.f73,λ |2=>[.canon [0,5,6,7,8]]|3=>[.canon [0,4,5,6,7]]|4=>[.canon [0,5,6,7,20]]|5=>[.canon [2]]|6=>[.canon [0,5,6,7]]|100002=>[.canon [0,5,6,7]]|_=>[],Zg9,λN=>[(65,Zb4 N),(130,Za3 N)]⟩
def Zwq(l2:List Kc)(t5:Int):St:=⟨[(0,vV Ji l2),(5,vV Ji l2),(6,vI (ilen l2)),(7,vI t5)],[],0⟩
def Zud(l2:List Kc):St:=⟨[(2,vB false)],[],0⟩
def Zue(l2:List Kc)(t10:Int)(t11:Bool):St:=⟨[(0,vV Ji l2),(5,vV Ji l2),(6,vI (ilen l2)),(7,vI t10),(8,vB t11)],[],0⟩
theorem Zwr(N:Nat){R:Type}(K:Ex→St→Option R){l2:List Kc}{K0:Option R}{K1:Int→Bool→Option R}(h0:K0=K .ret (Zud l2))(h1:K1= λt10 t11=>K (.exit 0) (Zue l2 t10 t11))(n:Nat)(t5:Int):Zdd N l2 K0 K1 n t5=LM Zlb N 0 100002 n (Zwq l2 t5) K:=by
  subst h0 h1
  induction n generalizing t5 with
  |zero=>kernel_rfl
  |succ n ih=>rw[Zdd];simp(disch:=exact id (by kernel_rfl)) only[ih];kernel_rfl
theorem Zlc:Wc Tryz.prog 73:=Wb Tryz.func73 (show Wg Tryz.f73=true by kernel_rfl)
theorem Z3f(N:Nat)(l1:List Kc):DN Zlb N (l1,())=Zbz N l1:=by
  have h:Zbz N l1=Zbz N l1:=rfl
  conv at h=>rhs;rw[Zbz]
  simp(disch:=exact id (by kernel_rfl)) only[Zwr (R:=Unit×Kf) N (CF Zlb N [1,0,1,0])]at h
  exact Eq.trans (by kernel_rfl) h.symm
theorem Zld(N:Nat):Good Tryz.prog 73 (Zg9 N):=GF Zlb N Tryz.func73 (Wa (Zdq N) Zdp (Wa (Zbp N) Zbo We)) (by kernel_rfl) (λd=>Z3f N d.1)
def Zkm(N:Nat):Sig:=Sig.of [.v Ji false,.v Ja false] [.v Ja false,.v Jp false] (λd=>Zfk N d.1 d.2.1)
def Zm2:Fn:=⟨Tryz.f172,λ |4=>[.canon [0,1,6,14]]|5=>[.canon [0,1,6]]|6=>[.canon [0,1,6,23]]|7=>[.canon [4,5]]|100004=>[.canon [0,1,6]]|_=>[],Zkm,λN=>[(73,Zg9 N)]⟩
def Zzw(l4:List Kc)(cell5:Int)(i6:Int):St:=⟨[(0,vV Ji l4),(1,vI cell5),(6,vI i6)],[],0⟩
def Zyl(l4:List Kc)(cell5:Int)(t7:Int):St:=⟨[(4,vI t7),(5,vB true)],[],0⟩
def Zym(l4:List Kc)(cell5:Int)(i8:Int)(t9:Bool):St:=⟨[(0,vV Ji l4),(1,vI cell5),(6,vI i8),(14,vB t9)],[],0⟩
theorem Zzx(N:Nat){R:Type}(K:Ex→St→Option R){l4:List Kc}{cell5:Int}{K0:Int→Option R}{K1:Int→Bool→Option R}(h0:K0= λt7=>K .ret (Zyl l4 cell5 t7))(h1:K1= λi8 t9=>K (.exit 0) (Zym l4 cell5 i8 t9))(n:Nat)(i6:Int):Zg7 N l4 cell5 K0 K1 n i6=LM Zm2 N 0 100004 n (Zzw l4 cell5 i6) K:=by
  subst h0 h1
  induction n generalizing i6 with
  |zero=>kernel_rfl
  |succ n ih=>rw[Zg7];simp(disch:=exact id (by kernel_rfl)) only[ih];kernel_rfl
theorem Zpi:Wc Tryz.prog 172:=Wb Tryz.func172 (show Wg Tryz.f172=true by kernel_rfl)
theorem Z47(N:Nat)(l1:List Kc)(cell2:Int):DN Zm2 N (l1,cell2,())=Zfk N l1 cell2:=by
  have h:Zfk N l1 cell2=Zfk N l1 cell2:=rfl
  conv at h=>rhs;rw[Zfk]
  simp(disch:=exact id (by kernel_rfl)) only[Zzx (R:=Unit×(Int×Kf)) N (CF Zm2 N [1,1,0,1,0])]at h
  exact Eq.trans (by kernel_rfl) h.symm
theorem Zpj(N:Nat):Good Tryz.prog 172 (Zkm N):=GF Zm2 N Tryz.func172 (Wa (Zld N) Zlc We) (by kernel_rfl) (λd=>Z47 N d.1 d.2.1)
def Zje(N:Nat):Sig:=Sig.of [.v Ji false] [.v (.own Jw) false] (λd=>Zd3 N d.1)
def Zn8:Fn:=⟨Tryz.f118,λ |5=>[.canon [0,3,11,12]]|6=>[.canon [0,3,4,11]]|7=>[.canon [0,3,4,5,6,11]]|8=>[.canon [0,3,4,5,11,20]]|9=>[.canon [0,3,11]]|10=>[.canon [0,3,11]]|100005=>[.canon [0,3,11]]|_=>[],Zje,λN=>[(73,Zg9 N),(172,Zkm N)]⟩
def Z1c(l3:List Kc)(t4:Int)(l5:List Kc):St:=⟨[(0,vV Ji l3),(3,vO 0),(11,vI t4)],[(0,.arr Jw l5)],1⟩
def Zzy(l3:List Kc)(t7:Int)(t8:Bool)(l9:List Kc):St:=⟨[(0,vV Ji l3),(3,vO 0),(11,vI t7),(12,vB t8)],[(0,.arr Jw l9)],1⟩
theorem Z1d(N:Nat){R:Type}(K:Ex→St→Option R){l3:List Kc}{K0:Int→Bool→(List Kc)→Option R}(h0:K0= λt7 t8 l9=>K (.exit 0) (Zzy l3 t7 t8 l9))(n:Nat)(t4:Int)(l5:List Kc):Zgo N l3 K0 n t4 l5=LM Zn8 N 0 100005 n (Z1c l3 t4 l5) K:=by
  subst h0
  induction n generalizing t4 l5 with
  |zero=>kernel_rfl
  |succ n ih=>rw[Zgo];simp(disch:=exact id (by kernel_rfl)) only[ih];kernel_rfl
theorem Zn9:Wc Tryz.prog 118:=Wb Tryz.func118 (show Wg Tryz.f118=true by kernel_rfl)
theorem Z5n(N:Nat)(l1:List Kc):DN Zn8 N (l1,())=Zd3 N l1:=by
  have h:Zd3 N l1=Zd3 N l1:=rfl
  conv at h=>rhs;rw[Zd3]
  simp(disch:=exact id (by kernel_rfl)) only[Z1d (R:=Unit×((List Kc)×Unit)) N (CF Zn8 N [1,1,1,0,1,0])]at h
  exact Eq.trans (by kernel_rfl) h.symm
theorem Zoa(N:Nat):Good Tryz.prog 118 (Zje N):=GF Zn8 N Tryz.func118 (Wa (Zld N) Zlc (Wa (Zpj N) Zpi We)) (by kernel_rfl) (λd=>Z5n N d.1)
def Zni(N:Nat):Sig:=Sig.of [.v Ji false] [.v Jab false] (λd=>Zex N d.1)
def Zj3:Fn:=⟨Tryz.f289,λ |3=>[.canon [3,8,9,10,11]]|4=>[.canon [3,5,8,9,10]]|5=>[.canon [3,8,9,10]]|6=>[.canon [3,8,9,10]]|100003=>[.canon [3,8,9,10]]|_=>[],Zni,λN=>[(118,Zje N)]⟩
def Zuf(t3:Int)(t4:Int)(l5:List Int)(l6:List Kc):St:=⟨[(3,vO 0),(8,vO 1),(9,vI t3),(10,vI t4)],[(0,.arr Ja l5),(1,.arr Jw l6)],2⟩
def Zsg(t3:Int)(l6:List Kc)(t7:Int)(t8:Bool)(l9:List Int):St:=⟨[(3,vO 0),(8,vO 1),(9,vI t3),(10,vI t7),(11,vB t8)],[(0,.arr Ja l9),(1,.arr Jw l6)],2⟩
theorem Zug(N:Nat){R:Type}(K:Ex→St→Option R){t3:Int}{l6:List Kc}{K0:Int→Bool→Kh→Option R}(h0:K0= λt7 t8 l9=>K (.exit 0) (Zsg t3 l6 t7 t8 l9))(n:Nat)(t4:Int)(l5:List Int):Zcz N t3 l6 K0 n t4 l5=LM Zj3 N 0 100003 n (Zuf t3 t4 l5 l6) K:=by
  subst h0
  induction n generalizing t4 l5 with
  |zero=>kernel_rfl
  |succ n ih=>rw[Zcz];simp(disch:=exact id (by kernel_rfl)) only[ih];kernel_rfl
theorem Z1e:Wc Tryz.prog 289:=Wb Tryz.func289 (show Wg Tryz.f289=true by kernel_rfl)
theorem Z1f(N:Nat)(l1:List Kc):DN Zj3 N (l1,())=Zex N l1:=by
  have h:Zex N l1=Zex N l1:=rfl
  conv at h=>rhs;rw[Zex]
  simp(disch:=exact id (by kernel_rfl)) only[Zug (R:=Unit×Ko) N (CF Zj3 N [1,1,0,1,0])]at h
  exact Eq.trans (by kernel_rfl) h.symm
theorem Z1g(N:Nat):Good Tryz.prog 289 (Zni N):=GF Zj3 N Tryz.func289 (Wa (Zoa N) Zn9 We) (by kernel_rfl) (λd=>Z1f N d.1)
def Zls(N:Nat):Sig:=Sig.of [.v Ja false,.v Ja false,.v Ji false,.v Ji false] [.v Jd true,.v Jp false] (λd=>Zen N d.1 d.2.1 d.2.2.1 d.2.2.2.1)
def Zyn:Fn:=⟨Tryz.f263,Wz,Zls,λN=>[(288,Zer N),(55,Z1 N),(73,Zg9 N),(118,Zje N),(289,Zni N)]⟩
theorem Zyo:Wc Tryz.prog 263:=Wb Tryz.func263 (show Wg Tryz.f263=true by kernel_rfl)
theorem Zyp(N:Nat):Good Tryz.prog 263 (Zls N):=GF Zyn N Tryz.func263 (Wa (Zhy N) Zhx (Wa (Zab N) Zaa (Wa (Zld N) Zlc (Wa (Zoa N) Zn9 (Wa (Z1g N) Z1e We))))) (by kernel_rfl) (λd=>by kernel_rfl)
def Zhh(N:Nat):Sig:=Sig.of [.box Jv,.v Ja false,.v Ja false] [] (λd=>Zg0 N d.1 d.2.1 d.2.2.1)
def Zuh:Fn:=⟨Tryz.f233,λ |0=>[.opn 13]|_=>[],Zhh,λN=>[(262,Znh N),(207,Zip N),(263,Zls N)]⟩
theorem Zob:Wc Tryz.prog 233:=Wb Tryz.func233 (show Wg Tryz.f233=true by kernel_rfl)
theorem Zoc(N:Nat):Good Tryz.prog 233 (Zhh N):=GF Zuh N Tryz.func233 (Wa (Z1a N) Z08 (Wa (Zo6 N) Zo5 (Wa (Zyp N) Zyo We))) (by kernel_rfl) (λd=>by kernel_rfl)
def Zi1(N:Nat):Sig:=Sig.of [.v Ja false] [.v Jx true,.v Jp false] (λd=>Zfp N d.1)
def Zzz:Fn:=⟨Tryz.f220,Wz,Zi1,λN=>[(65,Zb4 N)]⟩
theorem Zpt:Wc Tryz.prog 220:=Wb Tryz.func220 (show Wg Tryz.f220=true by kernel_rfl)
theorem Zpu(N:Nat):Good Tryz.prog 220 (Zi1 N):=GF Zzz N Tryz.func220 (Wa (Zdq N) Zdp We) (by kernel_rfl) (λd=>by kernel_rfl)
def Ze9(N:Nat):Sig:=Sig.of [.v Ju true] [.v Jp false] (λd=>Zb1 N d.1)
def Zma:Fn:=⟨Tryz.f124,λ |2=>[.canon [1,6,7,8,9]]|3=>[.canon [1,4,6,7,8]]|4=>[.canon [1,6,7,8,29]]|5=>[.canon [2]]|6=>[.canon [1,6,7,8]]|100002=>[.canon [1,6,7,8]]|_=>[],Ze9,λN=>[(130,Za3 N),(55,Z1 N)]⟩
def Zyq(t2:List Kb)(t4:Int)(b5:Int×List Kb):St:=⟨[(1,vP 0 0),(6,vV Je t2),(7,vI (ilen b5.2)),(8,vI t4)],[(0,.box [.val Ja b5.1,.val Je b5.2])],1⟩
def Zws(t2:List Kb)(b5:Int×List Kb):St:=⟨[(2,vB false)],[],0⟩
def Zwt(t2:List Kb)(b5:Int×List Kb)(t12:Int)(t13:Bool):St:=⟨[(1,vP 0 0),(6,vV Je t2),(7,vI (ilen b5.2)),(8,vI t12),(9,vB t13)],[(0,.box [.val Ja b5.1,.val Je b5.2])],1⟩
theorem Zyr(N:Nat){R:Type}(K:Ex→St→Option R){t2:List Kb}{b5:Int×List Kb}{K0:Option R}{K1:Int→Bool→Option R}(h0:K0=K .ret (Zws t2 b5))(h1:K1= λt12 t13=>K (.exit 0) (Zwt t2 b5 t12 t13))(n:Nat)(t4:Int):Zej N t2 b5 K0 K1 n t4=LM Zma N 0 100002 n (Zyq t2 t4 b5) K:=by
  subst h0 h1
  induction n generalizing t4 with
  |zero=>kernel_rfl
  |succ n ih=>rw[Zej];simp(disch:=exact id (by kernel_rfl)) only[ih];kernel_rfl
theorem Zho:Wc Tryz.prog 124:=Wb Tryz.func124 (show Wg Tryz.f124=true by kernel_rfl)
theorem Z4q(N:Nat)(m1:Int×List Kb):DN Zma N (m1,())=Zb1 N m1:=by
  have h:Zb1 N m1=Zb1 N m1:=rfl
  conv at h=>rhs;rw[Zb1]
  simp(disch:=exact id (by kernel_rfl)) only[Zyr (R:=Unit×Kf) N (CF Zma N [1,0,1,0])]at h
  exact Eq.trans (by kernel_rfl) h.symm
theorem Zhp(N:Nat):Good Tryz.prog 124 (Ze9 N):=GF Zma N Tryz.func124 (Wa (Zbp N) Zbo (Wa (Zab N) Zaa We)) (by kernel_rfl) (λd=>Z4q N d.1)
def Znj(N:Nat):Sig:=Sig.of [.v Jx true] [.v Jp false] (λd=>Zl0 N d.1)
def Z1h:Fn:=⟨Tryz.f249,Wz,Znj,λN=>[(65,Zb4 N),(55,Z1 N),(130,Za3 N)]⟩
theorem Z1i:Wc Tryz.prog 249:=Wb Tryz.func249 (show Wg Tryz.f249=true by kernel_rfl)
theorem Z1j(N:Nat):Good Tryz.prog 249 (Znj N):=GF Z1h N Tryz.func249 (Wa (Zdq N) Zdp (Wa (Zab N) Zaa (Wa (Zbp N) Zbo We))) (by kernel_rfl) (λd=>by kernel_rfl)
def Ziq(N:Nat):Sig:=Sig.of [.v Ju true,.v Ja false,.v Jx true] [.v Jx true] (λd=>Zek N d.1 d.2.1 d.2.2.1)
def Zys:Fn:=⟨Tryz.f221,Wz,Ziq,λN=>[(124,Ze9 N),(249,Znj N)]⟩
theorem Zo7:Wc Tryz.prog 221:=Wb Tryz.func221 (show Wg Tryz.f221=true by kernel_rfl)
theorem Zo8(N:Nat):Good Tryz.prog 221 (Ziq N):=GF Zys N Tryz.func221 (Wa (Zhp N) Zho (Wa (Z1j N) Z1i We)) (by kernel_rfl) (λd=>by kernel_rfl)
def Zgx(N:Nat):Sig:=Sig.of [.box Jad] [] (λd=>Zc8 N d.1)
def Zrh:Fn:=⟨Tryz.f264,Wz,Zgx,λN=>[(198,Zc2 N)]⟩
theorem Zmt:Wc Tryz.prog 264:=Wb Tryz.func264 (show Wg Tryz.f264=true by kernel_rfl)
theorem Zmu(N:Nat):Good Tryz.prog 264 (Zgx N):=GF Zrh N Tryz.func264 (Wa (Zg6 N) Zg5 We) (by kernel_rfl) (λd=>by kernel_rfl)
def Zks(N:Nat):Sig:=Sig.of [.boxal Jv 3,.v Jx true] [] (λd=>Ziw N d.1 d.2.1 d.2.2.1)
def Zwu:Fn:=⟨Tryz.f234,λ |1000000=>[.unfE 1]|_=>[],Zks,λN=>[(172,Zkm N),(220,Zi1 N),(221,Ziq N),(264,Zgx N)]⟩
theorem Zwv:Wc Tryz.prog 234:=Wb Tryz.func234 (show Wg Tryz.f234=true by kernel_rfl)
theorem Zww(N:Nat):Good Tryz.prog 234 (Zks N):=GF Zwu N Tryz.func234 (Wa (Zpj N) Zpi (Wa (Zpu N) Zpt (Wa (Zo8 N) Zo7 (Wa (Zmu N) Zmt We)))) (by kernel_rfl) (λd=>by kernel_rfl)
def Zir(N:Nat):Sig:=Sig.of [.box Jad] [.v (.prod Ja Jaf) true] (λd=>Zhr N d.1)
def Zyt:Fn:=⟨Tryz.f202,Wz,Zir,Wcs⟩
theorem Zo9:Wc Tryz.prog 202:=Wb Tryz.func202 (show Wg Tryz.f202=true by kernel_rfl)
theorem Zpa(N:Nat):Good Tryz.prog 202 (Zir N):=GF Zyt N Tryz.func202 We (by kernel_rfl) (λd=>by kernel_rfl)
def Zis(N:Nat):Sig:=Sig.of [.v (.prod Jj Ja) true] [.v Jq true] (λd=>Zhs N d.1)
def Zyu:Fn:=⟨Tryz.f268,Wz,Zis,λN=>[(72,Z4 N)]⟩
theorem Zpb:Wc Tryz.prog 268:=Wb Tryz.func268 (show Wg Tryz.f268=true by kernel_rfl)
theorem Zpc(N:Nat):Good Tryz.prog 268 (Zis N):=GF Zyu N Tryz.func268 (Wa (Zag N) Zaf We) (by kernel_rfl) (λd=>by kernel_rfl)
def Zj4(N:Nat):Sig:=Sig.of [.v (.prod Jj Ja) true] [.v Jp false] (λd=>Zi9 N d.1)
def Z1k:Fn:=⟨Tryz.f269,Wz,Zj4,λN=>[(208,Zgr N),(130,Za3 N)]⟩
theorem Zqd:Wc Tryz.prog 269:=Wb Tryz.func269 (show Wg Tryz.f269=true by kernel_rfl)
theorem Zqe(N:Nat):Good Tryz.prog 269 (Zj4 N):=GF Z1k N Tryz.func269 (Wa (Zjx N) Zjw (Wa (Zbp N) Zbo We)) (by kernel_rfl) (λd=>by kernel_rfl)
def Zod(N:Nat):Sig:=Sig.of [.v Jl true] [.v Jp false] (λd=>Zmy N d.1)
def Z3g:Fn:=⟨Tryz.f270,Wz,Zod,λN=>[(209,Ze5 N),(130,Za3 N)]⟩
theorem Z3h:Wc Tryz.prog 270:=Wb Tryz.func270 (show Wg Tryz.f270=true by kernel_rfl)
theorem Z3i(N:Nat):Good Tryz.prog 270 (Zod N):=GF Z3g N Tryz.func270 (Wa (Zhn N) Zhm (Wa (Zbp N) Zbo We)) (by kernel_rfl) (λd=>by kernel_rfl)
def Zi2(N:Nat):Sig:=Sig.of [.v Jj false,.v Ja false] [.v Jab false,.v Ja false,.v Jp false] (λd=>Zih N d.1 d.2.1)
def Zz0:Fn:=⟨Tryz.f271,Wz,Zi2,λN=>[(72,Z4 N),(208,Zgr N),(209,Ze5 N),(210,Zkl N),(211,Zhv N)]⟩
theorem Zpv:Wc Tryz.prog 271:=Wb Tryz.func271 (show Wg Tryz.f271=true by kernel_rfl)
theorem Zpw(N:Nat):Good Tryz.prog 271 (Zi2 N):=GF Zz0 N Tryz.func271 (Wa (Zag N) Zaf (Wa (Zjx N) Zjw (Wa (Zhn N) Zhm (Wa (Zph N) Zpg (Wa (Zne N) Znd We))))) (by kernel_rfl) (λd=>by kernel_rfl)
def Znk(N:Nat):Sig:=Sig.of [.v (.prod Jj Ja) true,.v Jl true] [.v Jq true,.v Jp false] (λd=>Zl1 N d.1 d.2.1)
def Z1l:Fn:=⟨Tryz.f237,Wz,Znk,λN=>[(268,Zis N),(269,Zj4 N),(270,Zod N),(158,Zhw N),(271,Zi2 N)]⟩
theorem Z1m:Wc Tryz.prog 237:=Wb Tryz.func237 (show Wg Tryz.f237=true by kernel_rfl)
theorem Z1n(N:Nat):Good Tryz.prog 237 (Znk N):=GF Z1l N Tryz.func237 (Wa (Zpc N) Zpb (Wa (Zqe N) Zqd (Wa (Z3i N) Z3h (Wa (Zng N) Znf (Wa (Zpw N) Zpv We))))) (by kernel_rfl) (λd=>by kernel_rfl)
def Zh6(N:Nat):Sig:=Sig.of [.boxal Jv 3] [] (λd=>Zck N d.1 d.2.1)
def Zwx:Fn:=⟨Tryz.f203,λ |1000000=>[.unfE 1]|_=>[],Zh6,λN=>[(237,Znk N)]⟩
theorem Zon:Wc Tryz.prog 203:=Wb Tryz.func203 (show Wg Tryz.f203=true by kernel_rfl)
theorem Zoo(N:Nat):Good Tryz.prog 203 (Zh6 N):=GF Zwx N Tryz.func203 (Wa (Z1n N) Z1m We) (by kernel_rfl) (λd=>by kernel_rfl)
def Zdg(N:Nat):Sig:=Sig.of [.v Ji false] [.v (.own Jw) false] (λd=>Zbh N d.1)
def Zz1:Fn:=⟨Tryz.f222,Wz,Zdg,Wcs⟩
theorem Zhf:Wc Tryz.prog 222:=Wb Tryz.func222 (show Wg Tryz.f222=true by kernel_rfl)
theorem Zhg(N:Nat):Good Tryz.prog 222 (Zdg N):=GF Zz1 N Tryz.func222 We (by kernel_rfl) (λd=>by kernel_rfl)
def Zmb(N:Nat):Sig:=Sig.of [.v Jc false,.v Ja false] [.v Ja false] (λd=>Zfq N d.1 d.2.1)
def Zmc:Fn:=⟨Tryz.f223,λ |5=>[.canon [0,5,6,25]]|6=>[.canon [0,5,6]]|7=>[.canon [0,5,6]]|8=>[.canon [0,5,6,36]]|9=>[.canon [4]]|100005=>[.canon [0,5,6]]|_=>[],Zmb,λN=>[(55,Z1 N),(248,Zjc N)]⟩
def Zyv(code4:List Ka)(n5:Int)(k6:Int):St:=⟨[(0,vV Jc code4),(5,vI n5),(6,vI k6)],[],0⟩
def Zwy(code4:List Ka)(t8:Int):St:=⟨[(4,vI t8)],[],0⟩
def Zwz(code4:List Ka)(n9:Int)(k10:Int)(t11:Bool):St:=⟨[(0,vV Jc code4),(5,vI n9),(6,vI k10),(25,vB t11)],[],0⟩
theorem Zyw(N:Nat){R:Type}(K:Ex→St→Option R){code4:List Ka}{K0:Int→Option R}{K1:Int→Int→Bool→Option R}(h0:K0= λt8=>K .ret (Zwy code4 t8))(h1:K1= λn9 k10 t11=>K (.exit 0) (Zwz code4 n9 k10 t11))(n:Nat)(n5:Int)(k6:Int):Zel N code4 K0 K1 n n5 k6=LM Zmc N 0 100005 n (Zyv code4 n5 k6) K:=by
  subst h0 h1
  induction n generalizing n5 k6 with
  |zero=>kernel_rfl
  |succ n ih=>rw[Zel];simp(disch:=exact id (by kernel_rfl)) only[ih];kernel_rfl
theorem Zsh:Wc Tryz.prog 223:=Wb Tryz.func223 (show Wg Tryz.f223=true by kernel_rfl)
theorem Z4r(N:Nat)(code1:List Ka)(i2:Int):DN Zmc N (code1,i2,())=Zfq N code1 i2:=by
  have h:Zfq N code1 i2=Zfq N code1 i2:=rfl
  conv at h=>rhs;rw[Zfq]
  simp(disch:=exact id (by kernel_rfl)) only[Zyw (R:=Unit×Kj) N (CF Zmc N [1,1,1,0,1,0])]at h
  exact Eq.trans (by kernel_rfl) h.symm
theorem Zsi(N:Nat):Good Tryz.prog 223 (Zmb N):=GF Zmc N Tryz.func223 (Wa (Zab N) Zaa (Wa (Zoy N) Zox We)) (by kernel_rfl) (λd=>Z4r N d.1 d.2.1)
def Zj5(N:Nat):Sig:=Sig.of [.box Jv,.v Ja false,.v Jc false] [] (λd=>Zii N d.1 d.2.1 d.2.2.1)
def Zui:Fn:=⟨Tryz.f235,λ |0=>[.opn 13]|_=>[],Zj5,λN=>[(233,Zhh N),(202,Zir N),(203,Zh6 N),(72,Z4 N),(222,Zdg N),(223,Zmb N)]⟩
theorem Zuj:Wc Tryz.prog 235:=Wb Tryz.func235 (show Wg Tryz.f235=true by kernel_rfl)
theorem Zuk(N:Nat):Good Tryz.prog 235 (Zj5 N):=GF Zui N Tryz.func235 (Wa (Zoc N) Zob (Wa (Zpa N) Zo9 (Wa (Zoo N) Zon (Wa (Zag N) Zaf (Wa (Zhg N) Zhf (Wa (Zsi N) Zsh We)))))) (by kernel_rfl) (λd=>by kernel_rfl)
def Zmm(N:Nat):Sig:=Sig.of [.v Ja false,.v Jj false,.v Ji false,.v Ja false] [.v Jy true] (λd=>Zdj N d.1 d.2.1 d.2.2.1 d.2.2.2.1)
def Zf6:Fn:=⟨Tryz.f54,λ |3=>[.canon [1,3,8,9,19,20,21,22]]|4=>[.canon [1,3,8,9,11,19,20,21]]|5=>[.canon [1,3,8,9,19,20,21]]|6=>[.canon [1,3,8,9,19,20,21]]|8=>[.canon [1,8,9,36,37,38]]|9=>[.nest 44 Jh,.canon [1,8,9,36,37]]|10=>[.canon [1,8,9,36,37]]|100003=>[.adoptC 9 6 Jl,.canon [1,3,8,9,19,20,21]]|100008=>[.adoptC 9 9 Jh,.canon [1,8,9,36,37]]|_=>[],Zmm,λN=>[(72,Z4 N),(118,Zje N)]⟩
def Zsj(regs7:List Int)(kids8:Int)(t9:Int)(t10:Int)(b15:Int)(l19:List Kc)(l20:List Int)(l21:List Kb):St:=⟨[(1,vV Jj regs7),(3,vI kids8),(8,vP 0 0),(9,vP 1 0),(19,vO 2),(20,vI t9),(21,vI t10)],[(0,.box [.val Ja (0:Int),.val Ja (0:Int),.val Ja (0:Int),.val Jp false,.nils,.nils,.nils,.nils,.nils,.nils]),(1,.box [.val Ja b15,.val Ja (0:Int),.val Ja (0:Int),.val Jp false,.own 3,.own 2,.own 4,.nils,.nils,.nils]),(2,.arr Jw l19),(3,.arr Ja l20),(4,.arr Jl l21)],5⟩
def Zri(regs7:List Int)(kids8:Int)(t9:Int)(b15:Int)(l19:List Kc)(l20:List Int)(t22:Int)(t23:Bool)(l24:List Kb):St:=⟨[(1,vV Jj regs7),(3,vI kids8),(8,vP 0 0),(9,vP 1 0),(19,vO 2),(20,vI t9),(21,vI t22),(22,vB t23)],[(0,.box [.val Ja (0:Int),.val Ja (0:Int),.val Ja (0:Int),.val Jp false,.nils,.nils,.nils,.nils,.nils,.nils]),(1,.box [.val Ja b15,.val Ja (0:Int),.val Ja (0:Int),.val Jp false,.own 3,.own 2,.own 4,.nils,.nils,.nils]),(2,.arr Jw l19),(3,.arr Ja l20),(4,.arr Jl l24)],5⟩
theorem Zsk(N:Nat){R:Type}(K:Ex→St→Option R){regs7:List Int}{kids8:Int}{t9:Int}{b15:Int}{l19:List Kc}{l20:List Int}{K0:Int→Bool→Kn→Option R}(h0:K0= λt22 t23 l24=>K (.exit 0) (Zri regs7 kids8 t9 b15 l19 l20 t22 t23 l24))(n:Nat)(t10:Int)(l21:List Kb):Zcl N regs7 kids8 t9 b15 l19 l20 K0 n t10 l21=LM Zf6 N 0 100003 n (Zsj regs7 kids8 t9 t10 b15 l19 l20 l21) K:=by
  subst h0
  induction n generalizing t10 l21 with
  |zero=>kernel_rfl
  |succ n ih=>rw[Zcl];simp(disch:=exact id (by kernel_rfl)) only[ih];kernel_rfl
def Zsl(regs28:List Int)(t29:Int)(t30:Int)(b35:Int)(l39:List Int)(l40:List Kc)(l41:List Kb)(l42:List Y_KidRun):St:=⟨[(1,vV Jj regs28),(8,vP 0 0),(9,vP 1 0),(36,vI t29),(37,vI t30)],[(0,.box [.val Ja (0:Int),.val Ja (0:Int),.val Ja (0:Int),.val Jp false,.nils,.nils,.nils,.nils,.nils,.nils]),(1,.box [.val Ja b35,.val Ja (0:Int),.val Ja (0:Int),.val Jp false,.own 2,.own 3,.own 4,.nils,.nils,.own 5]),(2,.arr Ja l39),(3,.arr Jw l40),(4,.arr Jl l41),(5,.arr Jh l42)],6⟩
def Zrj(regs28:List Int)(t29:Int)(b35:Int)(l39:List Int)(l40:List Kc)(l41:List Kb)(t45:Int)(t46:Bool)(l47:List Y_KidRun):St:=⟨[(1,vV Jj regs28),(8,vP 0 0),(9,vP 1 0),(36,vI t29),(37,vI t45),(38,vB t46)],[(0,.box [.val Ja (0:Int),.val Ja (0:Int),.val Ja (0:Int),.val Jp false,.nils,.nils,.nils,.nils,.nils,.nils]),(1,.box [.val Ja b35,.val Ja (0:Int),.val Ja (0:Int),.val Jp false,.own 2,.own 3,.own 4,.nils,.nils,.own 5]),(2,.arr Ja l39),(3,.arr Jw l40),(4,.arr Jl l41),(5,.arr Jh l47)],6⟩
theorem Zsm(N:Nat){R:Type}(K:Ex→St→Option R){regs28:List Int}{t29:Int}{b35:Int}{l39:List Int}{l40:List Kc}{l41:List Kb}{K0:Int→Bool→(List Y_KidRun)→Option R}(h0:K0= λt45 t46 l47=>K (.exit 2) (Zrj regs28 t29 b35 l39 l40 l41 t45 t46 l47))(n:Nat)(t30:Int)(l42:List Y_KidRun):Zbb N regs28 t29 b35 l39 l40 l41 K0 n t30 l42=LM Zf6 N 1 100008 n (Zsl regs28 t29 t30 b35 l39 l40 l41 l42) K:=by
  subst h0
  induction n generalizing t30 l42 with
  |zero=>kernel_rfl
  |succ n ih=>rw[Zbb];simp(disch:=exact id (by kernel_rfl)) only[ih];kernel_rfl
theorem Zz2:Wc Tryz.prog 54:=Wb Tryz.func54 (show Wg Tryz.f54=true by kernel_rfl)
theorem Zz3(N:Nat)(rv1:Int)(regs2:List Int)(writes3:List Kc)(kids4:Int):DN Zf6 N (rv1,regs2,writes3,kids4,())=Zdj N rv1 regs2 writes3 kids4:=by
  have h:Zdj N rv1 regs2 writes3 kids4=Zdj N rv1 regs2 writes3 kids4:=rfl
  conv at h=>rhs;rw[Zdj]
  simp(disch:=exact id (by kernel_rfl)) only[Zsk (R:=Unit×(Y_Family×Unit)) N (CF Zf6 N [1,1,0,1,0]),Zsm (R:=Unit×(Y_Family×Unit)) N (CF Zf6 N [1,1,1,0,1,0])]at h
  exact Eq.trans (by kernel_rfl) h.symm
theorem Zz4(N:Nat):Good Tryz.prog 54 (Zmm N):=GF Zf6 N Tryz.func54 (Wa (Zag N) Zaf (Wa (Zoa N) Zn9 We)) (by kernel_rfl) (λd=>Zz3 N d.1 d.2.1 d.2.2.1 d.2.2.2.1)
def Zlt(N:Nat):Sig:=Sig.of [.v Jx true] [.v Ja false,.v Ja false] (λd=>Zjo N d.1)
def Zyx:Fn:=⟨Tryz.f265,Wz,Zlt,λN=>[(217,Zic N)]⟩
theorem Zyy:Wc Tryz.prog 265:=Wb Tryz.func265 (show Wg Tryz.f265=true by kernel_rfl)
theorem Zyz(N:Nat):Good Tryz.prog 265 (Zlt N):=GF Zyx N Tryz.func265 (Wa (Zm0 N) Zmz We) (by kernel_rfl) (λd=>by kernel_rfl)
def Zit(N:Nat):Sig:=Sig.of [.v Je false] [.v (.own Jl) false] (λd=>Zeo N d.1)
def Zy0:Fn:=⟨Tryz.f240,Wz,Zit,Wcs⟩
theorem Zpd:Wc Tryz.prog 240:=Wb Tryz.func240 (show Wg Tryz.f240=true by kernel_rfl)
theorem Zpe(N:Nat):Good Tryz.prog 240 (Zit N):=GF Zy0 N Tryz.func240 We (by kernel_rfl) (λd=>by kernel_rfl)
def Zoe(N:Nat):Sig:=Sig.of [.v Je false,.v Ja false,.v Ja false,.v Ja false] [.v Jab false] (λd=>Zgg N d.1 d.2.1 d.2.2.1 d.2.2.2.1)
def Zle:Fn:=⟨Tryz.f290,λ |5=>[.canon [1,2,3,9,21,22,23,24]]|6=>[.canon [1,2,3,9,11,21,22,23]]|7=>[.canon [1,2,3,9,11,21,22,23,45]]|8=>[.canon [1,2,3,9,21,22,23]]|9=>[.canon [1,2,3,9,21,22,23]]|100005=>[.canon [1,2,3,9,21,22,23]]|_=>[],Zoe,λN=>[(241,Zgs N),(55,Z1 N)]⟩
def Zw0(who7:Int)(what8:Int)(mode9:Int)(t10:List Kb)(t12:Int)(l13:List Int):St:=⟨[(1,vI who7),(2,vI what8),(3,vI mode9),(9,vO 0),(21,vV Je t10),(22,vI (ilen t10)),(23,vI t12)],[(0,.arr Ja l13)],1⟩
def Zul(who7:Int)(what8:Int)(mode9:Int)(t10:List Kb)(t14:Int)(t15:Bool)(l16:List Int):St:=⟨[(1,vI who7),(2,vI what8),(3,vI mode9),(9,vO 0),(21,vV Je t10),(22,vI (ilen t10)),(23,vI t14),(24,vB t15)],[(0,.arr Ja l16)],1⟩
theorem Zw1(N:Nat){R:Type}(K:Ex→St→Option R){who7:Int}{what8:Int}{mode9:Int}{t10:List Kb}{K0:Int→Bool→Kh→Option R}(h0:K0= λt14 t15 l16=>K (.exit 0) (Zul who7 what8 mode9 t10 t14 t15 l16))(n:Nat)(t12:Int)(l13:List Int):Za7 N who7 what8 mode9 t10 K0 n t12 l13=LM Zle N 0 100005 n (Zw0 who7 what8 mode9 t10 t12 l13) K:=by
  subst h0
  induction n generalizing t12 l13 with
  |zero=>kernel_rfl
  |succ n ih=>rw[Za7];simp(disch:=exact id (by kernel_rfl)) only[ih];kernel_rfl
theorem Z3j:Wc Tryz.prog 290:=Wb Tryz.func290 (show Wg Tryz.f290=true by kernel_rfl)
theorem Z3k(N:Nat)(l1:List Kb)(who2:Int)(what3:Int)(mode4:Int):DN Zle N (l1,who2,what3,mode4,())=Zgg N l1 who2 what3 mode4:=by
  have h:Zgg N l1 who2 what3 mode4=Zgg N l1 who2 what3 mode4:=rfl
  conv at h=>rhs;rw[Zgg]
  simp(disch:=exact id (by kernel_rfl)) only[Zw1 (R:=Unit×Ko) N (CF Zle N [1,1,1,0,1,0])]at h
  exact Eq.trans (by kernel_rfl) h.symm
theorem Z3l(N:Nat):Good Tryz.prog 290 (Zoe N):=GF Zle N Tryz.func290 (Wa (Zj1 N) Zj0 (Wa (Zab N) Zaa We)) (by kernel_rfl) (λd=>Z3k N d.1 d.2.1 d.2.2.1 d.2.2.2.1)
def Zbf(N:Nat):Sig:=Sig.of [.mut Jl,.clos 281 0] [] (λd=>Zy N d.1)
theorem Zfe:Wc Tryz.prog 291:=Wb Tryz.func291 (show Wg Tryz.f291=true by kernel_rfl)
theorem Zff:CmpOk Tryz.prog 281 Jl rngH cfH:=by
  intro G x y us vs w hx hy h1 h2
  obtain⟨_,_,rfl,a1,_,_,rfl,a2,a3⟩:=h1
  obtain⟨_,_,rfl,b1,_,_,rfl,b2,b3⟩:=h2
  simp only[Enc]at a1 a2 a3 b1 b2 b3
  subst a1 a2 a3 b1 b2 b3
  simp only[List.cons_append,List.nil_append]
  unfold rngH at hx hy
  simp only[Bool.and_eq_true]at hx hy
  go_enter Tryz.func281,Tryz.ntmps281
  go_wp2
  rw[guard_run (a:=x.2.1) (b:=y.2.1),Result.andThen_ok]
  rw[neq_run (a:=x.2.1) (b:=y.2.1),Result.andThen_ok]
  rcases hb:(bne (α:=Int) x.2.1 y.2.1)with _|_
  · go_wp2
    rw[sub_run (Wno hx.1) (Wno hy.1) (cfH_eq hb)]
    go_wp2
    go_ret
    exact⟨rfl,two_grow _ _ _⟩
  · go_wp2
    rw[sub_run (Wno hx.2) (Wno hy.2) (cfH_ne hb)]
    go_wp2
    go_ret
    exact⟨rfl,two_grow _ _ _⟩
theorem Zfg(N:Nat):Good Tryz.prog 291 (Zbf N):=good_sortF sortFH (e:=.prod Ja Jw) rfl (by decide) Tryz.isAgg106 Tryz.sizeOf106 (enters_of Tryz.func281 (by kernel_rfl) rfl) swoH Zff N
def Znl(N:Nat):Sig:=Sig.of [.v Je false,.v Ja false,.v Ja false,.v Ja false] [.v (.own Jl) false,.v Jp false] (λd=>Zey N d.1 d.2.1 d.2.2.1 d.2.2.2.1)
def Zj6:Fn:=⟨Tryz.f266,λ |5=>[.canon [1,2,3,10,35,36,37,38]]|6=>[.canon [1,2,3,10,11,12,35,36,37]]|7=>[.canon [1,2,3,10,11,12,35,36,37,51]]|8=>[.canon [10]]|9=>[.canon [8,9]]|10=>[.canon [1,2,3,10,35,36,37]]|100005=>[.canon [1,2,3,10,35,36,37]]|_=>[],Znl,λN=>[(240,Zit N),(241,Zgs N),(280,Zla N),(290,Zoe N),(291,Zbf N)]⟩
def Zum(who9:Int)(what10:Int)(mode11:Int)(t12:Int)(t13:Int)(l14:List Kb):St:=⟨[(1,vI who9),(2,vI what10),(3,vI mode11),(10,vO 0),(35,vO 0),(36,vI t12),(37,vI t13)],[(0,.arr Jl l14)],1⟩
def Zsn(who9:Int)(what10:Int)(mode11:Int)(t12:Int)(l14:List Kb)(l15:List Kb):St:=⟨[(8,vO 0),(9,vB true)],[(0,.arr Jl l15)],1⟩
def Zso(who9:Int)(what10:Int)(mode11:Int)(t12:Int)(l14:List Kb)(t16:Int)(t17:Bool):St:=⟨[(1,vI who9),(2,vI what10),(3,vI mode11),(10,vO 0),(35,vO 0),(36,vI t12),(37,vI t16),(38,vB t17)],[(0,.arr Jl l14)],1⟩
theorem Zun(N:Nat){R:Type}(K:Ex→St→Option R){who9:Int}{what10:Int}{mode11:Int}{t12:Int}{l14:List Kb}{K0:Kn→Option R}{K1:Int→Bool→Option R}(h0:K0= λl15=>K .ret (Zsn who9 what10 mode11 t12 l14 l15))(h1:K1= λt16 t17=>K (.exit 0) (Zso who9 what10 mode11 t12 l14 t16 t17))(n:Nat)(t13:Int):Zb8 N who9 what10 mode11 t12 l14 K0 K1 n t13=LM Zj6 N 0 100005 n (Zum who9 what10 mode11 t12 t13 l14) K:=by
  subst h0 h1
  induction n generalizing t13 with
  |zero=>kernel_rfl
  |succ n ih=>rw[Zb8];simp(disch:=exact id (by kernel_rfl)) only[ih];kernel_rfl
theorem Z1o:Wc Tryz.prog 266:=Wb Tryz.func266 (show Wg Tryz.f266=true by kernel_rfl)
theorem Z1p(N:Nat)(l1:List Kb)(who2:Int)(what3:Int)(mode4:Int):DN Zj6 N (l1,who2,what3,mode4,())=Zey N l1 who2 what3 mode4:=by
  have h:Zey N l1 who2 what3 mode4=Zey N l1 who2 what3 mode4:=rfl
  conv at h=>rhs;rw[Zey]
  simp(disch:=exact id (by kernel_rfl)) only[Zun (R:=Unit×(Kn×Kf)) N (CF Zj6 N [1,1,1,0,1,0])]at h
  exact Eq.trans (by kernel_rfl) h.symm
theorem Z1q(N:Nat):Good Tryz.prog 266 (Znl N):=GF Zj6 N Tryz.func266 (Wa (Zpe N) Zpd (Wa (Zj1 N) Zj0 (Wa (Zq7 N) Zq6 (Wa (Z3l N) Z3j (Wa (Zfg N) Zfe We))))) (by kernel_rfl) (λd=>Z1p N d.1 d.2.1 d.2.2.1 d.2.2.2.1)
def Zof(N:Nat):Sig:=Sig.of [.v Ja false,.v Ja false] [.v Jl true] (λd=>Zkj N d.1 d.2.1)
def Z3m:Fn:=⟨Tryz.f292,Wz,Zof,Wcs⟩
theorem Z3n:Wc Tryz.prog 292:=Wb Tryz.func292 (show Wg Tryz.f292=true by kernel_rfl)
theorem Z3o(N:Nat):Good Tryz.prog 292 (Zof N):=GF Z3m N Tryz.func292 We (by kernel_rfl) (λd=>by kernel_rfl)
def Znm(N:Nat):Sig:=Sig.of [.v (.prod Jj Ja) true,.v Jx true,.v Jj false] [.v Jq true,.v Jab false,.v Jl true,.v Jp false] (λd=>Zl2 N d.1 d.2.1 d.2.2.1)
def Z1r:Fn:=⟨Tryz.f267,Wz,Znm,λN=>[(268,Zis N),(72,Z4 N),(269,Zj4 N),(71,Zc1 N),(170,Zjt N),(158,Zhw N),(292,Zof N),(211,Zhv N),(271,Zi2 N)]⟩
theorem Z1s:Wc Tryz.prog 267:=Wb Tryz.func267 (show Wg Tryz.f267=true by kernel_rfl)
theorem Z1t(N:Nat):Good Tryz.prog 267 (Znm N):=GF Z1r N Tryz.func267 (Wa (Zpc N) Zpb (Wa (Zag N) Zaf (Wa (Zqe N) Zqd (Wa (Zg4 N) Zg3 (Wa (Zp9 N) Zp8 (Wa (Zng N) Znf (Wa (Z3o N) Z3n (Wa (Zne N) Znd (Wa (Zpw N) Zpv We))))))))) (by kernel_rfl) (λd=>by kernel_rfl)
def Zj7(N:Nat):Sig:=Sig.of [.box Jv,.v Ja false,.v Jx true] [] (λd=>Zg1 N d.1 d.2.1 d.2.2.1)
def Zuo:Fn:=⟨Tryz.f236,λ |1=>[.opn 20]|_=>[],Zj7,λN=>[(265,Zlt N),(266,Znl N),(264,Zgx N),(267,Znm N)]⟩
theorem Zup:Wc Tryz.prog 236:=Wb Tryz.func236 (show Wg Tryz.f236=true by kernel_rfl)
theorem Zuq(N:Nat):Good Tryz.prog 236 (Zj7 N):=GF Zuo N Tryz.func236 (Wa (Zyz N) Zyy (Wa (Z1q N) Z1o (Wa (Zmu N) Zmt (Wa (Z1t N) Z1s We)))) (by kernel_rfl) (λd=>by kernel_rfl)
def Zha(N:Nat):Sig:=Sig.of [.rp (TY_Root)] [.vj Jx] (λd=>Zdt N d.1)
def Zsp:Fn:=⟨Tryz.f202,Wz,Zha,Wcs⟩
theorem Znw:Wc Tryz.prog 202:=Wb Tryz.func202 (show Wg Tryz.f202=true by kernel_rfl)
theorem Znx(N:Nat):Good Tryz.prog 202 (Zha N):=GF Zsp N Tryz.func202 We (by kernel_rfl) (λd=>by kernel_rfl)
def Zm3(N:Nat):Sig:=Sig.of [.v Jx true,.v Jj false] [.v Jab false,.v Jp false] (λd=>Zmr N d.1 d.2.1)
def Z48:Fn:=⟨Tryz.f175,Wz,Zm3,λN=>[(72,Z4 N),(217,Zic N),(71,Zc1 N)]⟩
theorem Zvn:Wc Tryz.prog 175:=Wb Tryz.func175 (show Wg Tryz.f175=true by kernel_rfl)
theorem Zvo(N:Nat):Good Tryz.prog 175 (Zm3 N):=GF Z48 N Tryz.func175 (Wa (Zag N) Zaf (Wa (Zm0 N) Zmz (Wa (Zg4 N) Zg3 We))) (by kernel_rfl) (λd=>by kernel_rfl)
def Zlu(N:Nat):Sig:=Sig.of [.box Jv,.v Ja false,.v Jn true] [] (λd=>Zht N d.1 d.2.1 d.2.2.1)
def Zy1:Fn:=⟨Tryz.f200,λ |1=>[.opn 14]|_=>[],Zlu,λN=>[(233,Zhh N),(234,Zks N),(235,Zj5 N),(54,Zmm N),(236,Zj7 N),(72,Z4 N),(202,Zha N),(175,Zm3 N)]⟩
theorem Zy2:Wc Tryz.prog 200:=Wb Tryz.func200 (show Wg Tryz.f200=true by kernel_rfl)
theorem Zy3(N:Nat):Good Tryz.prog 200 (Zlu N):=GF Zy1 N Tryz.func200 (Wa (Zoc N) Zob (Wa (Zww N) Zwv (Wa (Zuk N) Zuj (Wa (Zz4 N) Zz2 (Wa (Zuq N) Zup (Wa (Zag N) Zaf (Wa (Znx N) Znw (Wa (Zvo N) Zvn We)))))))) (by kernel_rfl) (λd=>by kernel_rfl)
def Zlv(N:Nat):Sig:=Sig.of [.v (TY_KidRun) true] [.v Jp false] (λd=>Zm8 N d.1)
def Zy4:Fn:=⟨Tryz.f67,Wz,Zlv,Wcs⟩
theorem Zy5:Wc Tryz.prog 67:=Wb Tryz.func67 (show Wg Tryz.f67=true by kernel_rfl)
theorem Zy6(N:Nat):Good Tryz.prog 67 (Zlv N):=GF Zy4 N Tryz.func67 We (by kernel_rfl) (λd=>by kernel_rfl)
def Zan(N:Nat):Sig:=Sig.of [.v Jac false,.clos 67 0] [.v Ja false] (λd=>Zm N d.1)
def Z2:Fn:=⟨Tryz.f128,λ |2=>[.canon [0,1,7,8,9]]|3=>[.canon [0,1,5,7,8]]|4=>[.canon [0,1,5,7,8,16]]|5=>[.canon [1,4]]|6=>[.canon [0,1,7,8]]|100002=>[.canon [0,1,7,8]]|_=>[],Zan,λN=>[(67,Zlv N)]⟩
def Zdr(s2:List Y_KidRun)(t4:Int):St:=⟨[(0,vV Jac s2),(1,.s (.one (.clos 67 []))),(7,vI (ilen s2)),(8,vI t4)],[],0⟩
def Zdh(s2:List Y_KidRun)(t7:Int):St:=⟨[(1,.s (.one (.clos 67 []))),(4,vI t7)],[],0⟩
def Zdi(s2:List Y_KidRun)(t8:Int)(t9:Bool):St:=⟨[(0,vV Jac s2),(1,.s (.one (.clos 67 []))),(7,vI (ilen s2)),(8,vI t8),(9,vB t9)],[],0⟩
theorem Zds(N:Nat){R:Type}(K:Ex→St→Option R){s2:List Y_KidRun}{K0:Int→Option R}{K1:Int→Bool→Option R}(h0:K0= λt7=>K .ret (Zdh s2 t7))(h1:K1= λt8 t9=>K (.exit 0) (Zdi s2 t8 t9))(n:Nat)(t4:Int):Zi N s2 K0 K1 n t4=LM Z2 N 0 100002 n (Zdr s2 t4) K:=by
  subst h0 h1
  induction n generalizing t4 with
  |zero=>kernel_rfl
  |succ n ih=>rw[Zi];simp(disch:=exact id (by kernel_rfl)) only[ih];kernel_rfl
theorem Zfa:Wc Tryz.prog 128:=Wb Tryz.func128 (show Wg Tryz.f128=true by kernel_rfl)
theorem Zfb(N:Nat)(s1:List Y_KidRun):DN Z2 N (s1,())=Zm N s1:=by
  have h:Zm N s1=Zm N s1:=rfl
  conv at h=>rhs;rw[Zm]
  simp(disch:=exact id (by kernel_rfl)) only[Zds (R:=Unit×Kj) N (CF Z2 N [1,0,1,0])]at h
  exact Eq.trans (by kernel_rfl) h.symm
theorem Zfc(N:Nat):Good Tryz.prog 128 (Zan N):=GF Z2 N Tryz.func128 (Wa (Zy6 N) Zy5 We) (by kernel_rfl) (λd=>Zfb N d.1)
def Zai(N:Nat):Sig:=Sig.of [.v Jac false,.clos 67 0] [.v Jp false] (λd=>Zak N d.1)
def Zdv:Fn:=⟨Tryz.f66,Wz,Zai,λN=>[(128,Zan N)]⟩
theorem Zdw:Wc Tryz.prog 66:=Wb Tryz.func66 (show Wg Tryz.f66=true by kernel_rfl)
theorem Zdx(N:Nat):Good Tryz.prog 66 (Zai N):=GF Zdv N Tryz.func66 (Wa (Zfc N) Zfa We) (by kernel_rfl) (λd=>by kernel_rfl)
def Znn(N:Nat):Sig:=Sig.of [.v (TY_Family) true] [.v Jp false] (λd=>Zl3 N d.1)
def Z1u:Fn:=⟨Tryz.f15,Wz,Znn,λN=>[(66,Zai N)]⟩
theorem Z1v:Wc Tryz.prog 15:=Wb Tryz.func15 (show Wg Tryz.f15=true by kernel_rfl)
theorem Z1w(N:Nat):Good Tryz.prog 15 (Znn N):=GF Z1u N Tryz.func15 (Wa (Zdx N) Zdw We) (by kernel_rfl) (λd=>by kernel_rfl)
def Zno(N:Nat):Sig:=Sig.of [.v (TY_Family) true] [.v Jab false] (λd=>Zez N d.1)
def Zj8:Fn:=⟨Tryz.f18,λ |5=>[.canon [3,20,21,22,23]]|6=>[.canon [3,4,5,20,21,22]]|7=>[.canon [3,4,5,20,21,22]]|8=>[.canon [3,4,5,20,21,22,37]]|9=>[.canon [3,20,21,22]]|10=>[.canon [3,20,21,22]]|100005=>[.canon [3,20,21,22]]|_=>[],Zno,λN=>[(71,Zc1 N),(72,Z4 N)]⟩
def Zur(t4:List Y_KidRun)(t5:Int)(t6:Int)(l7:List Int):St:=⟨[(3,vO 0),(20,vV Jac t4),(21,vI t5),(22,vI t6)],[(0,.arr Ja l7)],1⟩
def Zsq(t4:List Y_KidRun)(t5:Int)(t10:Int)(t11:Bool)(l12:List Int):St:=⟨[(3,vO 0),(20,vV Jac t4),(21,vI t5),(22,vI t10),(23,vB t11)],[(0,.arr Ja l12)],1⟩
theorem Zus(N:Nat){R:Type}(K:Ex→St→Option R){t4:List Y_KidRun}{t5:Int}{K0:Int→Bool→Kh→Option R}(h0:K0= λt10 t11 l12=>K (.exit 0) (Zsq t4 t5 t10 t11 l12))(n:Nat)(t6:Int)(l7:List Int):Zbk N t4 t5 K0 n t6 l7=LM Zj8 N 0 100005 n (Zur t4 t5 t6 l7) K:=by
  subst h0
  induction n generalizing t6 l7 with
  |zero=>kernel_rfl
  |succ n ih=>rw[Zbk];simp(disch:=exact id (by kernel_rfl)) only[ih];kernel_rfl
theorem Z1x:Wc Tryz.prog 18:=Wb Tryz.func18 (show Wg Tryz.f18=true by kernel_rfl)
theorem Z1y(N:Nat)(f1:Y_Family):DN Zj8 N (f1,())=Zez N f1:=by
  have h:Zez N f1=Zez N f1:=rfl
  conv at h=>rhs;rw[Zez]
  simp(disch:=exact id (by kernel_rfl)) only[Zus (R:=Unit×Ko) N (CF Zj8 N [1,1,1,0,1,0])]at h
  exact Eq.trans (by kernel_rfl) h.symm
theorem Z1z(N:Nat):Good Tryz.prog 18 (Zno N):=GF Zj8 N Tryz.func18 (Wa (Zg4 N) Zg3 (Wa (Zag N) Zaf We)) (by kernel_rfl) (λd=>Z1y N d.1)
def Znp(N:Nat):Sig:=Sig.of [.v (TY_Family) true] [.v (.own Jw) false] (λd=>Ze0 N d.1)
def Zj9:Fn:=⟨Tryz.f20,λ |3=>[.canon [3,8,9,10,11]]|4=>[.canon [3,5,8,9,10]]|5=>[.canon [3,8,9,10]]|6=>[.canon [3,8,9,10]]|100003=>[.canon [3,8,9,10]]|_=>[],Znp,Wcs⟩
def Zut(t2:List Kb)(t3:Int)(t4:Int)(l5:List Kc):St:=⟨[(3,vO 0),(8,vV Je t2),(9,vI t3),(10,vI t4)],[(0,.arr Jw l5)],1⟩
def Zsr(t2:List Kb)(t3:Int)(t6:Int)(t7:Bool)(l8:List Kc):St:=⟨[(3,vO 0),(8,vV Je t2),(9,vI t3),(10,vI t6),(11,vB t7)],[(0,.arr Jw l8)],1⟩
theorem Zuu(N:Nat){R:Type}(K:Ex→St→Option R){t2:List Kb}{t3:Int}{K0:Int→Bool→(List Kc)→Option R}(h0:K0= λt6 t7 l8=>K (.exit 0) (Zsr t2 t3 t6 t7 l8))(n:Nat)(t4:Int)(l5:List Kc):Zc0 N t2 t3 K0 n t4 l5=LM Zj9 N 0 100003 n (Zut t2 t3 t4 l5) K:=by
  subst h0
  induction n generalizing t4 l5 with
  |zero=>kernel_rfl
  |succ n ih=>rw[Zc0];simp(disch:=exact id (by kernel_rfl)) only[ih];kernel_rfl
theorem Z10:Wc Tryz.prog 20:=Wb Tryz.func20 (show Wg Tryz.f20=true by kernel_rfl)
theorem Z11(N:Nat)(f1:Y_Family):DN Zj9 N (f1,())=Ze0 N f1:=by
  have h:Ze0 N f1=Ze0 N f1:=rfl
  conv at h=>rhs;rw[Ze0]
  simp(disch:=exact id (by kernel_rfl)) only[Zuu (R:=Unit×((List Kc)×Unit)) N (CF Zj9 N [1,1,0,1,0])]at h
  exact Eq.trans (by kernel_rfl) h.symm
theorem Z12(N:Nat):Good Tryz.prog 20 (Znp N):=GF Zj9 N Tryz.func20 We (by kernel_rfl) (λd=>Z11 N d.1)
def Zlw(N:Nat):Sig:=Sig.of [.box Jad] [] (λd=>Zhu N d.1)
def Zy7:Fn:=⟨Tryz.f201,Wz,Zlw,λN=>[(198,Zc2 N),(15,Znn N),(18,Zno N),(20,Znp N),(72,Z4 N)]⟩
theorem Zy8:Wc Tryz.prog 201:=Wb Tryz.func201 (show Wg Tryz.f201=true by kernel_rfl)
theorem Zy9(N:Nat):Good Tryz.prog 201 (Zlw N):=GF Zy7 N Tryz.func201 (Wa (Zg6 N) Zg5 (Wa (Z1w N) Z1v (Wa (Z1z N) Z1x (Wa (Z12 N) Z10 (Wa (Zag N) Zaf We))))) (by kernel_rfl) (λd=>by kernel_rfl)
def Zjf(N:Nat):Sig:=Sig.of [.boxal Jv 3] [] (λd=>Zgm N d.1 d.2.1)
def Zss:Fn:=⟨Tryz.f204,λ |1000000=>[.unfE 1]|_=>[],Zjf,λN=>[(202,Zir N),(198,Zc2 N),(222,Zdg N),(72,Z4 N)]⟩
theorem Zst:Wc Tryz.prog 204:=Wb Tryz.func204 (show Wg Tryz.f204=true by kernel_rfl)
theorem Zsu(N:Nat):Good Tryz.prog 204 (Zjf N):=GF Zss N Tryz.func204 (Wa (Zpa N) Zo9 (Wa (Zg6 N) Zg5 (Wa (Zhg N) Zhf (Wa (Zag N) Zaf We)))) (by kernel_rfl) (λd=>by kernel_rfl)
def Zh7(N:Nat):Sig:=Sig.of [.v (.prod Ja Jr) true] [.v Jd true] (λd=>Zhd N d.1)
def Zw2:Fn:=⟨Tryz.f272,Wz,Zh7,λN=>[(222,Zdg N),(72,Z4 N)]⟩
theorem Zop:Wc Tryz.prog 272:=Wb Tryz.func272 (show Wg Tryz.f272=true by kernel_rfl)
theorem Zoq(N:Nat):Good Tryz.prog 272 (Zh7 N):=GF Zw2 N Tryz.func272 (Wa (Zhg N) Zhf (Wa (Zag N) Zaf We)) (by kernel_rfl) (λd=>by kernel_rfl)
def Zgy(N:Nat):Sig:=Sig.of [.v (.prod Ja Jr) true] [.v Ja false] (λd=>Zc9 N d.1)
def Zrk:Fn:=⟨Tryz.f293,Wz,Zgy,Wcs⟩
theorem Zmv:Wc Tryz.prog 293:=Wb Tryz.func293 (show Wg Tryz.f293=true by kernel_rfl)
theorem Zmw(N:Nat):Good Tryz.prog 293 (Zgy N):=GF Zrk N Tryz.func293 We (by kernel_rfl) (λd=>by kernel_rfl)
def Zi3(N:Nat):Sig:=Sig.of [.v (.prod Ja Jr) true] [.v Jp false] (λd=>Zcp N d.1)
def Zf7:Fn:=⟨Tryz.f273,λ |4=>[.canon [1,3,38]]|5=>[.canon [1,3]]|6=>[.canon [1,3,54]]|7=>[.canon [2]]|9=>[.canon [1,56,57,58,59]]|10=>[.canon [1,4,5,56,57,58]]|11=>[.canon [1,56,57,58,79]]|12=>[.canon [2]]|13=>[.canon [1,56,57,58]]|100004=>[.canon [1,3]]|100009=>[.canon [1,56,57,58]]|_=>[],Zi3,λN=>[(288,Zer N),(55,Z1 N),(73,Zg9 N),(65,Zb4 N),(293,Zgy N)]⟩
def Zsv(i7:Int)(b8:Int×Int×Int×Int×Int×List Kc×List Int):St:=⟨[(1,vP 0 0),(3,vI i7)],[(0,.box [.val Ja b8.1,.val Ja b8.2.1,.val Ja b8.2.2.1,.val Ja b8.2.2.2.1,.val Ja b8.2.2.2.2.1,.val Ji b8.2.2.2.2.2.1,.val Jj b8.2.2.2.2.2.2])],1⟩
def Zrl(b8:Int×Int×Int×Int×Int×List Kc×List Int):St:=⟨[(2,vB false)],[],0⟩
def Zrm(b8:Int×Int×Int×Int×Int×List Kc×List Int)(i9:Int)(t10:Bool):St:=⟨[(1,vP 0 0),(3,vI i9),(38,vB t10)],[(0,.box [.val Ja b8.1,.val Ja b8.2.1,.val Ja b8.2.2.1,.val Ja b8.2.2.2.1,.val Ja b8.2.2.2.2.1,.val Ji b8.2.2.2.2.2.1,.val Jj b8.2.2.2.2.2.2])],1⟩
theorem Zsw(N:Nat){R:Type}(K:Ex→St→Option R){b8:Int×Int×Int×Int×Int×List Kc×List Int}{K0:Option R}{K1:Int→Bool→Option R}(h0:K0=K .ret (Zrl b8))(h1:K1= λi9 t10=>K (.exit 0) (Zrm b8 i9 t10))(n:Nat)(i7:Int):Zbt N b8 K0 K1 n i7=LM Zf7 N 0 100004 n (Zsv i7 b8) K:=by
  subst h0 h1
  induction n generalizing i7 with
  |zero=>kernel_rfl
  |succ n ih=>rw[Zbt];simp(disch:=exact id (by kernel_rfl)) only[ih];kernel_rfl
def Zsx(t13:List Int)(t15:Int)(b16:Int×Int×Int×Int×Int×List Kc×List Int):St:=⟨[(1,vP 0 0),(56,vV Jj t13),(57,vI (ilen b16.2.2.2.2.2.2)),(58,vI t15)],[(0,.box [.val Ja b16.1,.val Ja b16.2.1,.val Ja b16.2.2.1,.val Ja b16.2.2.2.1,.val Ja b16.2.2.2.2.1,.val Ji b16.2.2.2.2.2.1,.val Jj b16.2.2.2.2.2.2])],1⟩
def Zrn(t13:List Int)(b16:Int×Int×Int×Int×Int×List Kc×List Int):St:=⟨[(2,vB false)],[],0⟩
def Zro(t13:List Int)(b16:Int×Int×Int×Int×Int×List Kc×List Int)(t19:Int)(t20:Bool):St:=⟨[(1,vP 0 0),(56,vV Jj t13),(57,vI (ilen b16.2.2.2.2.2.2)),(58,vI t19),(59,vB t20)],[(0,.box [.val Ja b16.1,.val Ja b16.2.1,.val Ja b16.2.2.1,.val Ja b16.2.2.2.1,.val Ja b16.2.2.2.2.1,.val Ji b16.2.2.2.2.2.1,.val Jj b16.2.2.2.2.2.2])],1⟩
theorem Zsy(N:Nat){R:Type}(K:Ex→St→Option R){t13:List Int}{b16:Int×Int×Int×Int×Int×List Kc×List Int}{K0:Option R}{K1:Int→Bool→Option R}(h0:K0=K .ret (Zrn t13 b16))(h1:K1= λt19 t20=>K (.exit 2) (Zro t13 b16 t19 t20))(n:Nat)(t15:Int):Zbc N t13 b16 K0 K1 n t15=LM Zf7 N 1 100009 n (Zsx t13 t15 b16) K:=by
  subst h0 h1
  induction n generalizing t15 with
  |zero=>kernel_rfl
  |succ n ih=>rw[Zbc];simp(disch:=exact id (by kernel_rfl)) only[ih];kernel_rfl
theorem Zpx:Wc Tryz.prog 273:=Wb Tryz.func273 (show Wg Tryz.f273=true by kernel_rfl)
theorem Zz5(N:Nat)(c1:Int×Int×Int×Int×Int×List Kc×List Int):DN Zf7 N (c1,())=Zcp N c1:=by
  have h:Zcp N c1=Zcp N c1:=rfl
  conv at h=>rhs;rw[Zcp]
  simp(disch:=exact id (by kernel_rfl)) only[Zsw (R:=Unit×Kf) N (CF Zf7 N [1,1,0,1,0]),Zsy (R:=Unit×Kf) N (CF Zf7 N [1,1,1,0,1,0])]at h
  exact Eq.trans (by kernel_rfl) h.symm
theorem Zpy(N:Nat):Good Tryz.prog 273 (Zi3 N):=GF Zf7 N Tryz.func273 (Wa (Zhy N) Zhx (Wa (Zab N) Zaa (Wa (Zld N) Zlc (Wa (Zdq N) Zdp (Wa (Zmw N) Zmv We))))) (by kernel_rfl) (λd=>Zz5 N d.1)
def Zfx(N:Nat):Sig:=Sig.of [.box Jd,.v Ja false] [] (λd=>Z3 N d.1 d.2.1)
def Zqf:Fn:=⟨Tryz.f274,Wz,Zfx,Wcs⟩
theorem Zlx:Wc Tryz.prog 274:=Wb Tryz.func274 (show Wg Tryz.f274=true by kernel_rfl)
theorem Zly(N:Nat):Good Tryz.prog 274 (Zfx N):=GF Zqf N Tryz.func274 We (by kernel_rfl) (λd=>by kernel_rfl)
def Zka(N:Nat):Sig:=Sig.of [.v (.prod Ja Jr) true] [.v Jd true,.v Jp false] (λd=>Zij N d.1)
def Zuv:Fn:=⟨Tryz.f238,Wz,Zka,λN=>[(272,Zh7 N),(273,Zi3 N),(274,Zfx N)]⟩
theorem Zuw:Wc Tryz.prog 238:=Wb Tryz.func238 (show Wg Tryz.f238=true by kernel_rfl)
theorem Zux(N:Nat):Good Tryz.prog 238 (Zka N):=GF Zuv N Tryz.func238 (Wa (Zoq N) Zop (Wa (Zpy N) Zpx (Wa (Zly N) Zlx We))) (by kernel_rfl) (λd=>by kernel_rfl)
def Zes(N:Nat):Sig:=Sig.of [.v Ju true] [.v Jag true] (λd=>Zcd N d.1)
def Z13:Fn:=⟨Tryz.f123,Wz,Zes,Wcs⟩
theorem Zhz:Wc Tryz.prog 123:=Wb Tryz.func123 (show Wg Tryz.f123=true by kernel_rfl)
theorem Zh0(N:Nat):Good Tryz.prog 123 (Zes N):=GF Z13 N Tryz.func123 We (by kernel_rfl) (λd=>by kernel_rfl)
def Zpk(N:Nat):Sig:=Sig.of [.v Ju true,.v Ja false,.v Ja false] [.v Jag true,.v Jp false] (λd=>Zms N d.1 d.2.1 d.2.2.1)
def Z49:Fn:=⟨Tryz.f275,Wz,Zpk,λN=>[(123,Zes N),(124,Ze9 N),(65,Zb4 N),(288,Zer N)]⟩
theorem Z5a:Wc Tryz.prog 275:=Wb Tryz.func275 (show Wg Tryz.f275=true by kernel_rfl)
theorem Z5b(N:Nat):Good Tryz.prog 275 (Zpk N):=GF Z49 N Tryz.func275 (Wa (Zh0 N) Zhz (Wa (Zhp N) Zho (Wa (Zdq N) Zdp (Wa (Zhy N) Zhx We)))) (by kernel_rfl) (λd=>by kernel_rfl)
def Zgk(N:Nat):Sig:=Sig.of [.box Jd,.v Ja false] [] (λd=>Ze1 N d.1 d.2.1)
def Zqt:Fn:=⟨Tryz.f277,Wz,Zgk,Wcs⟩
theorem Zmf:Wc Tryz.prog 277:=Wb Tryz.func277 (show Wg Tryz.f277=true by kernel_rfl)
theorem Zmg(N:Nat):Good Tryz.prog 277 (Zgk N):=GF Zqt N Tryz.func277 We (by kernel_rfl) (λd=>by kernel_rfl)
def Zkb(N:Nat):Sig:=Sig.of [.box Jd,.v Ja false] [] (λd=>Zbl N d.1 d.2.1)
def Zuy:Fn:=⟨Tryz.f276,Wz,Zkb,λN=>[(293,Zgy N),(277,Zgk N)]⟩
theorem Zuz:Wc Tryz.prog 276:=Wb Tryz.func276 (show Wg Tryz.f276=true by kernel_rfl)
theorem Zu0(N:Nat):Good Tryz.prog 276 (Zkb N):=GF Zuy N Tryz.func276 (Wa (Zmw N) Zmv (Wa (Zmg N) Zmf We)) (by kernel_rfl) (λd=>by kernel_rfl)
def Zpl(N:Nat):Sig:=Sig.of [.v Ju true] [.v Jag true,.v Ja false] (λd=>Zo4 N d.1)
def Z5c:Fn:=⟨Tryz.f57,Wz,Zpl,λN=>[(123,Zes N),(124,Ze9 N)]⟩
theorem Z5d:Wc Tryz.prog 57:=Wb Tryz.func57 (show Wg Tryz.f57=true by kernel_rfl)
theorem Z5e(N:Nat):Good Tryz.prog 57 (Zpl N):=GF Z5c N Tryz.func57 (Wa (Zh0 N) Zhz (Wa (Zhp N) Zho We)) (by kernel_rfl) (λd=>by kernel_rfl)
def Zo0(N:Nat):Sig:=Sig.of [.v Ju true,.v Ja false,.v Ja false,.v Ja false] [.v Jag true,.v Jp false] (λd=>Znz N d.1 d.2.1 d.2.2.1 d.2.2.2.1)
def Z4s:Fn:=⟨Tryz.f278,Wz,Zo0,λN=>[(123,Zes N),(124,Ze9 N),(65,Zb4 N),(288,Zer N),(130,Za3 N)]⟩
theorem Z4t:Wc Tryz.prog 278:=Wb Tryz.func278 (show Wg Tryz.f278=true by kernel_rfl)
theorem Z4u(N:Nat):Good Tryz.prog 278 (Zo0 N):=GF Z4s N Tryz.func278 (Wa (Zh0 N) Zhz (Wa (Zhp N) Zho (Wa (Zdq N) Zdp (Wa (Zhy N) Zhx (Wa (Zbp N) Zbo We))))) (by kernel_rfl) (λd=>by kernel_rfl)
def Zog(N:Nat):Sig:=Sig.of [.v Ju true,.v Ja false,.v Ja false,.v Ja false] [.v Jag true,.v Jp false] (λd=>Zkk N d.1 d.2.1 d.2.2.1 d.2.2.2.1)
def Z3p:Fn:=⟨Tryz.f279,Wz,Zog,λN=>[(123,Zes N),(124,Ze9 N),(65,Zb4 N),(288,Zer N),(55,Z1 N)]⟩
theorem Z3q:Wc Tryz.prog 279:=Wb Tryz.func279 (show Wg Tryz.f279=true by kernel_rfl)
theorem Z3r(N:Nat):Good Tryz.prog 279 (Zog N):=GF Z3p N Tryz.func279 (Wa (Zh0 N) Zhz (Wa (Zhp N) Zho (Wa (Zdq N) Zdp (Wa (Zhy N) Zhx (Wa (Zab N) Zaa We))))) (by kernel_rfl) (λd=>by kernel_rfl)
def Zkt(N:Nat):Sig:=Sig.of [.v Ju true,.v (.prod Ja Jr) true] [.v Jag true,.v Jd true] (λd=>Zix N d.1 d.2.1)
def Zw3:Fn:=⟨Tryz.f239,Wz,Zkt,λN=>[(123,Zes N),(272,Zh7 N),(124,Ze9 N),(273,Zi3 N),(275,Zpk N),(276,Zkb N),(274,Zfx N),(57,Zpl N),(277,Zgk N),(278,Zo0 N),(279,Zog N)]⟩
theorem Zw4:Wc Tryz.prog 239:=Wb Tryz.func239 (show Wg Tryz.f239=true by kernel_rfl)
theorem Zw5(N:Nat):Good Tryz.prog 239 (Zkt N):=GF Zw3 N Tryz.func239 (Wa (Zh0 N) Zhz (Wa (Zoq N) Zop (Wa (Zhp N) Zho (Wa (Zpy N) Zpx (Wa (Z5b N) Z5a (Wa (Zu0 N) Zuz (Wa (Zly N) Zlx (Wa (Z5e N) Z5d (Wa (Zmg N) Zmf (Wa (Z4u N) Z4t (Wa (Z3r N) Z3q We))))))))))) (by kernel_rfl) (λd=>by kernel_rfl)
def Zjg(N:Nat):Sig:=Sig.of [.box Jv,.v Ja false] [] (λd=>Zgn N d.1 d.2.1)
def Zsz:Fn:=⟨Tryz.f205,λ |0=>[.opn 13]|_=>[],Zjg,λN=>[(238,Zka N),(198,Zc2 N),(239,Zkt N),(222,Zdg N)]⟩
theorem Zs0:Wc Tryz.prog 205:=Wb Tryz.func205 (show Wg Tryz.f205=true by kernel_rfl)
theorem Zs1(N:Nat):Good Tryz.prog 205 (Zjg N):=GF Zsz N Tryz.func205 (Wa (Zux N) Zuw (Wa (Zg6 N) Zg5 (Wa (Zw5 N) Zw4 (Wa (Zhg N) Zhf We)))) (by kernel_rfl) (λd=>by kernel_rfl)
def Zh8(N:Nat):Sig:=Sig.of [.v Jl true,.box Ja] [.v Jp false] (λd=>Zf5 N d.1 d.2.1)
def Zw6:Fn:=⟨Tryz.f243,Wz,Zh8,Wcs⟩
theorem Zor:Wc Tryz.prog 243:=Wb Tryz.func243 (show Wg Tryz.f243=true by kernel_rfl)
theorem Zos(N:Nat):Good Tryz.prog 243 (Zh8 N):=GF Zw6 N Tryz.func243 We (by kernel_rfl) (λd=>by kernel_rfl)
def Zar(N:Nat):Sig:=Sig.of [.v Je false,.clos 243 1,.box Ja] [.v Ja false] (λd=>Zo N d.1 d.2.1)
def Z8:Fn:=⟨Tryz.f282,λ |2=>[.canon [0,1,7,8,9]]|3=>[.canon [0,1,5,7,8]]|4=>[.canon [0,1,5,7,8,16]]|5=>[.canon [1,4]]|6=>[.canon [0,1,7,8]]|100002=>[.canon [0,1,7,8]]|_=>[],Zar,λN=>[(243,Zh8 N)]⟩
def Zet(s3:List Kb)(t5:Int)(b6:Int):St:=⟨[(0,vV Je s3),(1,.s (.one (.clos 243 [0]))),(7,vI (ilen s3)),(8,vI t5)],[(0,.box [.val Ja b6])],1⟩
def Zd8(s3:List Kb)(t9:Int)(b10:Int):St:=⟨[(1,.s (.one (.clos 243 [0]))),(4,vI t9)],[(0,.box [.val Ja b10])],1⟩
def Zd9(s3:List Kb)(t11:Int)(t12:Bool)(b13:Int):St:=⟨[(0,vV Je s3),(1,.s (.one (.clos 243 [0]))),(7,vI (ilen s3)),(8,vI t11),(9,vB t12)],[(0,.box [.val Ja b13])],1⟩
theorem Zeu(N:Nat){R:Type}(K:Ex→St→Option R){s3:List Kb}{K0:Int→Int→Option R}{K1:Int→Bool→Int→Option R}(h0:K0= λt9 b10=>K .ret (Zd8 s3 t9 b10))(h1:K1= λt11 t12 b13=>K (.exit 0) (Zd9 s3 t11 t12 b13))(n:Nat)(t5:Int)(b6:Int):Zl N s3 K0 K1 n t5 b6=LM Z8 N 0 100002 n (Zet s3 t5 b6) K:=by
  subst h0 h1
  induction n generalizing t5 b6 with
  |zero=>kernel_rfl
  |succ n ih=>rw[Zl];simp(disch:=exact id (by kernel_rfl)) only[ih];kernel_rfl
theorem Zfy:Wc Tryz.prog 282:=Wb Tryz.func282 (show Wg Tryz.f282=true by kernel_rfl)
theorem Zfz(N:Nat)(s1:List Kb)(cap2:Int):DN Z8 N (s1,cap2,())=Zo N s1 cap2:=by
  have h:Zo N s1 cap2=Zo N s1 cap2:=rfl
  conv at h=>rhs;rw[Zo]
  simp(disch:=exact id (by kernel_rfl)) only[Zeu (R:=Kj×Kj) N (CF Z8 N [1,0,1,0])]at h
  exact Eq.trans (by kernel_rfl) h.symm
theorem Zf0(N:Nat):Good Tryz.prog 282 (Zar N):=GF Z8 N Tryz.func282 (Wa (Zos N) Zor We) (by kernel_rfl) (λd=>Zfz N d.1 d.2.1)
def Zap(N:Nat):Sig:=Sig.of [.v (.own Jl) false,.clos 243 1,.box Ja] [.v (.own Jl) false] (λd=>Zh N d.1 d.2.1)
def Z5:Fn:=⟨Tryz.f242,λ |5=>[.canon [0,1,5,6,19]]|6=>[.canon [0,1,5,6]]|7=>[.canon [0,1,5,6,7]]|8=>[.canon [0,1,5,6,7,29]]|9=>[.canon [0,1,5,6]]|10=>[.canon [0,1,5,6]]|11=>[.view 38]|100005=>[.canon [0,1,5,6]]|_=>[],Zap,λN=>[(282,Zar N),(243,Zh8 N)]⟩
def Zea(i4:Int)(j5:Int)(l6:List Kb)(b7:Int):St:=⟨[(0,vO 0),(1,.s (.one (.clos 243 [1]))),(5,vI i4),(6,vI j5)],[(0,.arr Jl l6),(1,.box [.val Ja b7])],2⟩
def Zdy(i9:Int)(j10:Int)(t11:Bool)(l12:List Kb)(b13:Int):St:=⟨[(0,vO 0),(1,.s (.one (.clos 243 [1]))),(5,vI i9),(6,vI j10),(19,vB t11)],[(0,.arr Jl l12),(1,.box [.val Ja b13])],2⟩
theorem Zeb(N:Nat){R:Type}(K:Ex→St→Option R){K0:Int→Int→Bool→Kn→Int→Option R}(h0:K0= λi9 j10 t11 l12 b13=>K (.exit 0) (Zdy i9 j10 t11 l12 b13))(n:Nat)(i4:Int)(j5:Int)(l6:List Kb)(b7:Int):Zd N K0 n i4 j5 l6 b7=LM Z5 N 0 100005 n (Zea i4 j5 l6 b7) K:=by
  subst h0
  induction n generalizing i4 j5 l6 b7 with
  |zero=>kernel_rfl
  |succ n ih=>rw[Zd];simp(disch:=exact id (by kernel_rfl)) only[ih];kernel_rfl
theorem Zfh:Wc Tryz.prog 242:=Wb Tryz.func242 (show Wg Tryz.f242=true by kernel_rfl)
theorem Zfi(N:Nat)(s1:List Kb)(cap2:Int):DN Z5 N (s1,cap2,())=Zh N s1 cap2:=by
  have h:Zh N s1 cap2=Zh N s1 cap2:=rfl
  conv at h=>rhs;rw[Zh]
  simp(disch:=exact id (by kernel_rfl)) only[Zeb (R:=Kj×(Kn×Unit)) N (CF Z5 N [1,1,1,0,1,0])]at h
  exact Eq.trans (by kernel_rfl) h.symm
theorem Zfj(N:Nat):Good Tryz.prog 242 (Zap N):=GF Z5 N Tryz.func242 (Wa (Zf0 N) Zfy (Wa (Zos N) Zor We)) (by kernel_rfl) (λd=>Zfi N d.1 d.2.1)
def Zmn(N:Nat):Sig:=Sig.of [.v Je false,.v Ja false] [.v (.own Jl) false] (λd=>Zkz N d.1 d.2.1)
def Zz6:Fn:=⟨Tryz.f206,Wz,Zmn,λN=>[(240,Zit N),(241,Zgs N),(242,Zap N)]⟩
theorem Zz7:Wc Tryz.prog 206:=Wb Tryz.func206 (show Wg Tryz.f206=true by kernel_rfl)
theorem Zz8(N:Nat):Good Tryz.prog 206 (Zmn N):=GF Zz6 N Tryz.func206 (Wa (Zpe N) Zpd (Wa (Zj1 N) Zj0 (Wa (Zfj N) Zfh We))) (by kernel_rfl) (λd=>by kernel_rfl)
def Zku(N:Nat):Sig:=Sig.of [.box Jv,.v Ja false,.v Jn true] [] (λd=>Zhe N d.1 d.2.1 d.2.2.1)
def Zw7:Fn:=⟨Tryz.f155,λ |1=>[.opn 12]|_=>[],Zku,λN=>[(55,Z1 N),(198,Zc2 N),(199,Zkr N),(200,Zlu N),(201,Zlw N),(202,Zha N),(203,Zh6 N),(204,Zjf N),(205,Zjg N),(206,Zmn N),(207,Zip N)]⟩
theorem Zw8:Wc Tryz.prog 155:=Wb Tryz.func155 (show Wg Tryz.f155=true by kernel_rfl)
theorem Zw9(N:Nat):Good Tryz.prog 155 (Zku N):=GF Zw7 N Tryz.func155 (Wa (Zab N) Zaa (Wa (Zg6 N) Zg5 (Wa (Zwp N) Zwn (Wa (Zy3 N) Zy2 (Wa (Zy9 N) Zy8 (Wa (Znx N) Znw (Wa (Zoo N) Zon (Wa (Zsu N) Zst (Wa (Zs1 N) Zs0 (Wa (Zz8 N) Zz7 (Wa (Zo6 N) Zo5 We))))))))))) (by kernel_rfl) (λd=>by kernel_rfl)
def Zh9(N:Nat):Sig:=Sig.of [.v Jl true,.box Ja] [.v Jp false] (λd=>Zi7 N d.1 d.2.1)
def Zqu:Fn:=⟨Tryz.f179,Wz,Zh9,Wcs⟩
theorem Zqv:Wc Tryz.prog 179:=Wb Tryz.func179 (show Wg Tryz.f179=true by kernel_rfl)
theorem Zqw(N:Nat):Good Tryz.prog 179 (Zh9 N):=GF Zqu N Tryz.func179 We (by kernel_rfl) (λd=>by kernel_rfl)
def Zaj(N:Nat):Sig:=Sig.of [.v Je false,.clos 179 1,.box Ja] [.v Ja false] (λd=>Ze N d.1 d.2.1)
def Z0:Fn:=⟨Tryz.f178,λ |2=>[.canon [0,1,7,8,9]]|3=>[.canon [0,1,5,7,8]]|4=>[.canon [0,1,5,7,8,16]]|5=>[.canon [1,4]]|6=>[.canon [0,1,7,8]]|100002=>[.canon [0,1,7,8]]|_=>[],Zaj,λN=>[(179,Zh9 N)]⟩
def Zda(s3:List Kb)(t5:Int)(b6:Int):St:=⟨[(0,vV Je s3),(1,.s (.one (.clos 179 [0]))),(7,vI (ilen s3)),(8,vI t5)],[(0,.box [.val Ja b6])],1⟩
def Zc3(s3:List Kb)(t9:Int)(b10:Int):St:=⟨[(1,.s (.one (.clos 179 [0]))),(4,vI t9)],[(0,.box [.val Ja b10])],1⟩
def Zc4(s3:List Kb)(t11:Int)(t12:Bool)(b13:Int):St:=⟨[(0,vV Je s3),(1,.s (.one (.clos 179 [0]))),(7,vI (ilen s3)),(8,vI t11),(9,vB t12)],[(0,.box [.val Ja b13])],1⟩
theorem Zdb(N:Nat){R:Type}(K:Ex→St→Option R){s3:List Kb}{K0:Int→Int→Option R}{K1:Int→Bool→Int→Option R}(h0:K0= λt9 b10=>K .ret (Zc3 s3 t9 b10))(h1:K1= λt11 t12 b13=>K (.exit 0) (Zc4 s3 t11 t12 b13))(n:Nat)(t5:Int)(b6:Int):Zg N s3 K0 K1 n t5 b6=LM Z0 N 0 100002 n (Zda s3 t5 b6) K:=by
  subst h0 h1
  induction n generalizing t5 b6 with
  |zero=>kernel_rfl
  |succ n ih=>rw[Zg];simp(disch:=exact id (by kernel_rfl)) only[ih];kernel_rfl
theorem Zdz:Wc Tryz.prog 178:=Wb Tryz.func178 (show Wg Tryz.f178=true by kernel_rfl)
theorem Zd0(N:Nat)(s1:List Kb)(cap2:Int):DN Z0 N (s1,cap2,())=Ze N s1 cap2:=by
  have h:Ze N s1 cap2=Ze N s1 cap2:=rfl
  conv at h=>rhs;rw[Ze]
  simp(disch:=exact id (by kernel_rfl)) only[Zdb (R:=Kj×Kj) N (CF Z0 N [1,0,1,0])]at h
  exact Eq.trans (by kernel_rfl) h.symm
theorem Zd1(N:Nat):Good Tryz.prog 178 (Zaj N):=GF Z0 N Tryz.func178 (Wa (Zqw N) Zqv We) (by kernel_rfl) (λd=>Zd0 N d.1 d.2.1)
def Zfd(N:Nat):Sig:=Sig.of [.rp (TY_Family),.v Ja false] [.v Ja false] (λd=>Zcm N d.1 d.2.1)
def Zs2:Fn:=⟨Tryz.f121,Wz,Zfd,λN=>[(178,Zaj N)]⟩
theorem Zjh:Wc Tryz.prog 121:=Wb Tryz.func121 (show Wg Tryz.f121=true by kernel_rfl)
end
end Go.Sx
