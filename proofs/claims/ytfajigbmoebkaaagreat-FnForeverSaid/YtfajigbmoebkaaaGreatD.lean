/- Each Go function does what its Lean function says. -/
import Derived.Test.YtfajigbmoebkaaaGreatT
import Derived.Test.YtfajigbmoebkaaaGreatProg
import Derived.Test.YtfajigbmoebkaaaGreatLay
namespace Go.Sx
noncomputable section
open Go.Proofs
abbrev Ja:Ty:=.int .i64
abbrev Jb:Ty:=.prod (.own Ja) (.prod (.own (.prod Ja Ja)) (.prod (.own (.prod Ja (.prod Ja Ja))) (.prod (.own Ja) (.prod (.own (.prod Ja Ja)) (.own (.prod Ja (.prod Ja (.prod Ja (.prod Ja (.prod Ja (.prod Ja (.prod (.own Ja) (.prod (.own (.prod Ja (.prod Ja Ja))) (.prod (.own (.prod Ja Ja)) (.prod (.own (.prod Ja (.prod Ja (.own Ja)))) (.prod (.bool) (.prod Ja (.prod Ja (.prod Ja Ja)))))))))))))))))))
abbrev Jc:Ty:=.slice (.prod Ja (.prod Ja (.prod Ja Ja)))
abbrev Jd:Ty:=.prod Ja (.prod Ja (.prod Ja (.prod Ja (.prod Ja (.prod (.own (.prod Ja Ja)) (.own Ja))))))
abbrev Je:Ty:=.slice (.prod Ja (.prod Ja Ja))
abbrev Jf:Ty:=.own (.prod Ja (.prod Ja (.prod Ja (.prod Ja (.slice Ja)))))
abbrev Jg:Ty:=.slice (.prod Ja Ja)
abbrev Jh:Ty:=.prod Ja (.prod Ja (.prod Ja (.prod Ja (.prod Ja (.prod Ja (.prod Ja (.prod Ja (.prod Ja (.prod Ja (.prod (.bool) (.prod (.own Ja) (.prod (.own (.prod Ja Ja)) (.prod (.own (.prod Ja Ja)) (.prod Jf (.prod (.own (.prod Ja (.prod Ja Ja))) (.prod (.own Ja) (.prod (.bool) (.prod (.prod Ja (.prod Ja (.prod Ja Ja))) (.prod Jd (.prod Ja (.prod Ja (.prod Ja (.prod (.bool) Jb)))))))))))))))))))))))
abbrev Ji:Ty:=.prod Ja (.prod Ja (.prod Ja (.prod Ja (.prod Ja (.prod Ja (.prod (.own Ja) (.prod (.own (.prod Ja (.prod Ja Ja))) (.prod (.own (.prod Ja Ja)) (.prod (.own (.prod Ja (.prod Ja (.own Ja)))) (.prod (.bool) (.prod Ja (.prod Ja (.prod Ja Ja)))))))))))))
abbrev Jj:Ty:=.slice Ja
abbrev Jk:Ty:=.prod (.slice (.int .u8)) (.prod Ja Ja)
abbrev Jl:Ty:=.prod Ja (.prod Ja Ja)
abbrev Jm:Ty:=.prod (.own (.prod Ja Jh)) (.own (.prod Ja (.prod Ja Jg)))
abbrev Jn:Ty:=.prod Jc (.slice Jc)
abbrev Jo:Ty:=.slice (.int .u8)
abbrev Jp:Ty:=.bool
abbrev Jq:Ty:=.prod (.own Ja) Ja
abbrev Jr:Ty:=.prod Ja (.prod Ja (.prod Ja (.prod Ja (.prod Jg Jj))))
abbrev Js:Ty:=.slice (.prod Ja (.prod Ja Jg))
abbrev Jt:Ty:=.prod Jj (.prod Jj Ja)
abbrev Ju:Ty:=.prod Ja (.prod Ja (.own Ja))
abbrev Jv:Ty:=.prod Ja (.prod Ja (.prod (.prod Ja (.own Jl)) (.prod Jq (.prod (.own Jl) Jm))))
abbrev Jw:Ty:=.prod Ja Ja
abbrev Jx:Ty:=.prod Ja Jl
abbrev Jy:Ty:=.prod Ja (.prod Ja (.prod Ja (.prod Jp Jb)))
abbrev Jz:Ty:=.slice Jn
abbrev Jaa:Ty:=.prod Ja (.prod Ja Jg)
abbrev Jab:Ty:=.prod Ja Je
abbrev Jac:Ty:=.own Ja
abbrev Jad:Ty:=.slice (TY_KidRun)
abbrev Jae:Ty:=.prod Ja Jh
abbrev Jaf:Ty:=.prod Ja (.prod Ja (.prod Ja Jj))
abbrev Jag:Ty:=.prod Ja (.own Jl)
abbrev Jah:Ty:=.prod Jt (.prod Jz Je)
abbrev Ka:Type:=Int × Int × Int × Int
abbrev Kb:Type:=Int × Int × Int
abbrev Kc:Type:=Int × Int
abbrev Ke:Type:=List Int × List Int × Int
abbrev Kf:Type:=List Int × Int × Int
abbrev Kg:Type:=Bool × Unit
abbrev Kh:Type:=Int × Int × List Int
abbrev Ki:Type:=Int × Unit
abbrev Kj:Type:=List Int
abbrev Kk:Type:=List Ka × List (List Ka)
abbrev Kl:Type:=Int × Int × List Kc
abbrev Km:Type:=Kf × Unit
abbrev Kn:Type:=List Kb
abbrev Ko:Type:=List Ka
set_option linter.unusedVariables false
set_option linter.unusedSimpArgs false
def tab:Tab:=[(3,⟨.int .i64,false,.basic⟩),(4,⟨.bool,false,.basic⟩),(5,⟨.int .u8,false,.basic⟩),(22,⟨.slice (.int .u8),false,.slice 5⟩),(24,⟨.slice Ja,false,.slice 3⟩),(25,⟨.slice Jw,false,.slice 137⟩),(26,⟨.slice Jc,false,.slice 117⟩),(30,⟨.slice Jl,false,.slice 102⟩),(32,⟨.prod Ja Je,true,.struct [(0,3),(1,30)]⟩),(33,⟨.slice Jl,false,.slice 127⟩),(34,⟨.slice (TY_KidRun),false,.slice 125⟩),(36,⟨TY_Family,true,.struct [(0,3),(1,3),(2,3),(3,4),(4,24),(5,25),(6,33),(7,24),(8,25),(9,34)]⟩),(63,⟨.prod Jj (.prod Jj Ja),true,.struct [(0,24),(1,24),(2,3)]⟩),(64,⟨.slice Jn,false,.slice 159⟩),(65,⟨.slice Jl,false,.slice 96⟩),(67,⟨.prod Jt (.prod Jz Je),true,.struct [(0,63),(3,64),(4,65)]⟩),(73,⟨.prod Jj Ja,true,.struct [(0,24),(1,3)]⟩),(74,⟨.slice Jl,false,.slice 106⟩),(75,⟨.slice (TY_Root),false,.slice 90⟩),(76,⟨.slice Jaa,false,.slice 162⟩),(78,⟨TY_World,true,.struct [(0,3),(1,3),(2,32),(4,73),(6,74),(7,75),(8,76)]⟩),(83,⟨.slice (.prod Ja Jaf),false,.slice 249⟩),(84,⟨.slice Jl,false,.slice 275⟩),(86,⟨.prod Ja Jl,true,.struct [(0,3),(1,3),(2,3),(3,3)]⟩),(88,⟨.prod Ja Jr,true,.struct [(0,3),(1,3),(2,3),(3,3),(4,3),(5,25),(6,24)]⟩),(90,⟨TY_Root,true,.struct [(0,3),(1,3),(2,3),(3,3),(4,3),(5,3),(6,3),(7,3),(8,3),(9,3),(10,3),(11,4),(12,24),(13,25),(14,25),(15,83),(16,84),(17,24),(18,4),(19,86),(23,88),(30,36)]⟩),(96,⟨.prod Ja Jw,true,.struct [(0,3),(1,3),(2,3)]⟩),(102,⟨.prod Ja Jw,true,.struct [(0,3),(1,3),(2,3)]⟩),(106,⟨.prod Ja Jw,true,.struct [(0,3),(1,3),(2,3)]⟩),(115,⟨.slice Jx,false,.slice 176⟩),(117,⟨.slice Jx,true,.struct [(0,115)]⟩),(123,⟨.slice (.prod Ja (.prod Ja Jj)),false,.slice 226⟩),(125,⟨TY_KidRun,true,.struct [(0,3),(1,3),(2,3),(3,3),(4,3),(5,3),(6,24),(7,33),(8,25),(9,123),(10,4),(11,86)]⟩),(127,⟨.prod Ja Jw,true,.struct [(0,3),(1,3),(2,3)]⟩),(137,⟨.prod Ja Ja,true,.struct [(0,3),(1,3)]⟩),(159,⟨.prod Jc (.slice Jc),true,.struct [(0,115),(1,26)]⟩),(162,⟨.prod Ja (.prod Ja Jg),true,.struct [(0,3),(1,3),(2,25)]⟩),(164,⟨.prod Jo Jw,true,.struct [(0,22),(1,3),(2,3)]⟩),(176,⟨.prod Ja Jl,true,.struct [(0,3),(1,3),(2,3),(3,3)]⟩),(226,⟨.prod Ja (.prod Ja Jj),true,.struct [(0,3),(1,3),(2,24)]⟩),(249,⟨.prod Ja Jaf,true,.struct [(0,3),(1,3),(2,3),(3,3),(4,24)]⟩),(275,⟨.prod Ja Jw,true,.struct [(0,3),(1,3),(2,3)]⟩),(283,⟨.bool,true,.arr 8 4⟩)]
theorem mixedOk:Tryz.prog.follows .mixedOrders = true:=by kernel_rfl
theorem tabOk:Wba Tryz.prog tab:=tab_ok (show chkTab Tryz.prog tab tab = true by kernel_rfl)
def LM (x:Fn) (N:Nat) {R:Type} (i k n:Nat) (st:St) (K:Ex → St → Option R):Option R:=lpM tab (x.c N) x.a N x.F i k n st K
def CF (x:Fn) (N:Nat) (p:List Nat):Ex → St → Option (Qs (x.s N)):=cxF tab (x.c N) x.a N (x.s N) x.F p
def CL (x:Fn) (N:Nat) {R:Type} (i k:Nat) (p:List Nat) (n:Nat) (K:Ex → St → Option R):Ex → St → Option R:=cxL tab (x.c N) x.a N x.F i k p n K
def DN (x:Fn) (N:Nat) (d:PDen (x.s N).ps):Option (Qs (x.s N)):=den (R:=Qs (x.s N)) tab (x.c N) x.a N (x.s N) x.F d some
theorem GF (x:Fn) {k:FuncId} (N:Nat) (hf:Tryz.prog.funcs[k]? = some x.F) (hc:Wml Tryz.prog (x.c N)) (hok:chkBody x.F (x.s N).ps = true) (h:∀ d,DN x N d = (x.s N).run d):Good Tryz.prog k (x.s N) :=
  good_body mixedOk tabOk hc hf hok (fun d _ e=>⟨N,(h d).trans e⟩)
def Zpt (N:Nat):Sig:=Sig.of [.v Jo false] [.v Jp false] (fun d=>Ztj N d.1)
def Z4p:Fn:=⟨Tryz.f9,Wy,Zpt,Wcj⟩
theorem Z4q:Wc Tryz.prog 9:=Wb Tryz.func9 (show Wg Tryz.f9 = true by kernel_rfl)
theorem Z4r (N:Nat):Good Tryz.prog 9 (Zpt N):=GF Z4p N Tryz.func9 We (by kernel_rfl) (fun d=>by kernel_rfl)
def Zoj (N:Nat):Sig:=Sig.of [.v Jo false] [.box Jk] (fun d=>Zgq N d.1)
def Zly:Fn:=⟨Tryz.f50,fun | 3=>[.canon [0,3,4,15]] | 4=>[.canon [0,3,4]] | 5=>[.canon [0,3,4]] | 100003=>[.canon [0,3,4]] | _=>[],Zoj,Wcj⟩
def Zxe (code2:List Int) (h3:Int) (i4:Int):St:=⟨[(0,vV Jo code2),(3,vI h3),(4,vI i4)],[],0⟩
def Zvi (code2:List Int) (h5:Int) (i6:Int) (t7:Bool):St:=⟨[(0,vV Jo code2),(3,vI h5),(4,vI i6),(15,vB t7)],[],0⟩
theorem Zxf (N:Nat) {R:Type} (K:Ex → St → Option R) {code2:List Int} {K0:Int → Int → Bool → Option R} (h0:K0 = fun h5 i6 t7=>K (.exit 0) (Zvi code2 h5 i6 t7)) (n:Nat) (h3:Int) (i4:Int):Zcv N code2 K0 n h3 i4 = LM Zly N 0 100003 n (Zxe code2 h3 i4) K:=by
  subst h0
  induction n generalizing h3 i4 with
  | zero=>kernel_rfl
  | succ n ih=>rw [Zcv]; simp (disch:=exact id (by kernel_rfl)) only [ih]; kernel_rfl
theorem Z3j:Wc Tryz.prog 50:=Wb Tryz.func50 (show Wg Tryz.f50 = true by kernel_rfl)
theorem Z3k (N:Nat) (code1:List Int):DN Zly N (code1,()) = Zgq N code1:=by
  have h:Zgq N code1 = Zgq N code1:=rfl
  conv at h=>rhs; rw [Zgq]
  simp (disch:=exact id (by kernel_rfl)) only [Zxf (R:=Unit × Km) N (CF Zly N [1,1,0,1,0])] at h
  exact Eq.trans (by kernel_rfl) h.symm
theorem Z3l (N:Nat):Good Tryz.prog 50 (Zoj N):=GF Zly N Tryz.func50 We (by kernel_rfl) (fun d=>Z3k N d.1)
def Znr (N:Nat):Sig:=Sig.of [.v Jo false,.v Ja false] [.v Ja false] (fun d=>Zms N d.1 d.2.1)
def Z13:Fn:=⟨Tryz.f110,Wy,Znr,Wcj⟩
theorem Z14:Wc Tryz.prog 110:=Wb Tryz.func110 (show Wg Tryz.f110 = true by kernel_rfl)
theorem Z15 (N:Nat):Good Tryz.prog 110 (Znr N):=GF Z13 N Tryz.func110 We (by kernel_rfl) (fun d=>by kernel_rfl)
def Zns (N:Nat):Sig:=Sig.of [.box Jk] [.v Ja false] (fun d=>Zf6 N d.1)
def Z16:Fn:=⟨Tryz.f168,Wy,Zns,Wcj⟩
theorem Z17:Wc Tryz.prog 168:=Wb Tryz.func168 (show Wg Tryz.f168 = true by kernel_rfl)
theorem Z18 (N:Nat):Good Tryz.prog 168 (Zns N):=GF Z16 N Tryz.func168 We (by kernel_rfl) (fun d=>by kernel_rfl)
def Z6 (N:Nat):Sig:=Sig.of [.box Jk,.v Ja false] [.v Ja false] (fun d=>Zb N d.1 d.2.1)
def Z0c:Fn:=⟨Tryz.f115,Wy,Z6,fun N=>[(168,Zns N)]⟩
theorem Zad:Wc Tryz.prog 115:=Wb Tryz.func115 (show Wg Tryz.f115 = true by kernel_rfl)
theorem Zae (N:Nat):Good Tryz.prog 115 (Z6 N):=GF Z0c N Tryz.func115 (Wa (Z18 N) Z17 We) (by kernel_rfl) (fun d=>by kernel_rfl)
def Zb1 (N:Nat):Sig:=Sig.of [.box Jk,.v Ja false] [.v Jp false] (fun d=>Zw N d.1 d.2.1)
def Z19:Fn:=⟨Tryz.f166,Wy,Zb1,fun N=>[(115,Z6 N)]⟩
theorem Zdo:Wc Tryz.prog 166:=Wb Tryz.func166 (show Wg Tryz.f166 = true by kernel_rfl)
theorem Zdp (N:Nat):Good Tryz.prog 166 (Zb1 N):=GF Z19 N Tryz.func166 (Wa (Zae N) Zad We) (by kernel_rfl) (fun d=>by kernel_rfl)
def Zgt (N:Nat):Sig:=Sig.of [.box Jk,.v Jj false] [.v Ja false] (fun d=>Zbm N d.1 d.2.1)
def Zxg:Fn:=⟨Tryz.f215,Wy,Zgt,fun N=>[(115,Z6 N)]⟩
theorem Zle:Wc Tryz.prog 215:=Wb Tryz.func215 (show Wg Tryz.f215 = true by kernel_rfl)
theorem Zlf (N:Nat):Good Tryz.prog 215 (Zgt N):=GF Zxg N Tryz.func215 (Wa (Zae N) Zad We) (by kernel_rfl) (fun d=>by kernel_rfl)
def Zid (N:Nat):Sig:=Sig.of [.box Jk] [.v Ja false] (fun d=>Zg3 N d.1)
def Z2a:Fn:=⟨Tryz.f162,Wy,Zid,fun N=>[(166,Zb1 N),(215,Zgt N),(115,Z6 N)]⟩
theorem Znt:Wc Tryz.prog 162:=Wb Tryz.func162 (show Wg Tryz.f162 = true by kernel_rfl)
theorem Znu (N:Nat):Good Tryz.prog 162 (Zid N):=GF Z2a N Tryz.func162 (Wa (Zdp N) Zdo (Wa (Zlf N) Zle (Wa (Zae N) Zad We))) (by kernel_rfl) (fun d=>by kernel_rfl)
def Zki (N:Nat):Sig:=Sig.of [.box Jk] [.v Jac false] (fun d=>Zce N d.1)
def Zhw:Fn:=⟨Tryz.f161,fun | 3=>[.canon [0,3,4,7]] | 4=>[.canon [0,3,4]] | 5=>[.canon [0,3,4]] | 100003=>[.canon [0,3,4]] | _=>[],Zki,fun N=>[(162,Zid N)]⟩
def Zp9 (i2:Int) (b3:List Int × Int × Int) (l4:List Int):St:=⟨[(0,vP 0 0),(3,vO 1),(4,vI i2)],[(0,.box [.val Jo b3.1,.val Ja b3.2.1,.val Ja b3.2.2]),(1,.arr Ja l4)],2⟩
def Zpu (i6:Int) (t7:Bool) (b8:List Int × Int × Int) (l9:List Int):St:=⟨[(0,vP 0 0),(3,vO 1),(4,vI i6),(7,vB t7)],[(0,.box [.val Jo b8.1,.val Ja b8.2.1,.val Ja b8.2.2]),(1,.arr Ja l9)],2⟩
theorem Zqa (N:Nat) {R:Type} (K:Ex → St → Option R) {K0:Int → Bool → Kf → Kj → Option R} (h0:K0 = fun i6 t7 b8 l9=>K (.exit 0) (Zpu i6 t7 b8 l9)) (n:Nat) (i2:Int) (b3:List Int × Int × Int) (l4:List Int):Zcs N K0 n i2 b3 l4 = LM Zhw N 0 100003 n (Zp9 i2 b3 l4) K:=by
  subst h0
  induction n generalizing i2 b3 l4 with
  | zero=>kernel_rfl
  | succ n ih=>rw [Zcs]; simp (disch:=exact id (by kernel_rfl)) only [ih]; kernel_rfl
theorem Zvj:Wc Tryz.prog 161:=Wb Tryz.func161 (show Wg Tryz.f161 = true by kernel_rfl)
theorem Zvk (N:Nat) (c1:List Int × Int × Int):DN Zhw N (c1,()) = Zce N c1:=by
  have h:Zce N c1 = Zce N c1:=rfl
  conv at h=>rhs; rw [Zce]
  simp (disch:=exact id (by kernel_rfl)) only [Zqa (R:=Km × (Kj × Unit)) N (CF Zhw N [1,1,0,1,0])] at h
  exact Eq.trans (by kernel_rfl) h.symm
theorem Zvl (N:Nat):Good Tryz.prog 161 (Zki N):=GF Zhw N Tryz.func161 (Wa (Znu N) Znt We) (by kernel_rfl) (fun d=>Zvk N d.1)
def Zir (N:Nat):Sig:=Sig.of [.box Jk] [.v (.prod Jac Jq) true] (fun d=>Zco N d.1)
def Zis:Fn:=⟨Tryz.f193,fun | 3=>[.canon [0,2,3,4,12]] | 4=>[.canon [0,2,3,4]] | 5=>[.canon [0,2,3,4,5]] | 6=>[.canon [0,2,3,4,5,16]] | 7=>[.canon [0,2,3,4,5]] | 8=>[.canon [0,2,3,4]] | 100003=>[.adoptC 3 1 Ja,.canon [0,2,3,4]] | _=>[],Zir,fun N=>[(161,Zki N),(162,Zid N),(166,Zb1 N)]⟩
def Zru (i4:Int) (b5:List Int × Int × Int) (b7:Int) (l8:List Int) (l9:List Int):St:=⟨[(0,vP 0 0),(2,vP 1 0),(3,vP 2 0),(4,vI i4)],[(0,.box [.val Jo b5.1,.val Ja b5.2.1,.val Ja b5.2.2]),(1,.box [.nils,.nils,.val Ja (0:Int)]),(2,.box [.own 3,.own 4,.val Ja b7]),(3,.arr Ja l8),(4,.arr Ja l9)],5⟩
def Zq2 (b7:Int) (l8:List Int) (i14:Int) (t15:Bool) (b16:List Int × Int × Int) (l17:List Int):St:=⟨[(0,vP 0 0),(2,vP 1 0),(3,vP 2 0),(4,vI i14),(12,vB t15)],[(0,.box [.val Jo b16.1,.val Ja b16.2.1,.val Ja b16.2.2]),(1,.box [.nils,.nils,.val Ja (0:Int)]),(2,.box [.own 3,.own 4,.val Ja b7]),(3,.arr Ja l8),(4,.arr Ja l17)],5⟩
theorem Zrv (N:Nat) {R:Type} (K:Ex → St → Option R) {b7:Int} {l8:List Int} {K0:Int → Bool → Kf → Kj → Option R} (h0:K0 = fun i14 t15 b16 l17=>K (.exit 0) (Zq2 b7 l8 i14 t15 b16 l17)) (n:Nat) (i4:Int) (b5:List Int × Int × Int) (l9:List Int):Zck N b7 l8 K0 n i4 b5 l9 = LM Zis N 0 100003 n (Zru i4 b5 b7 l8 l9) K:=by
  subst h0
  induction n generalizing i4 b5 l9 with
  | zero=>kernel_rfl
  | succ n ih=>rw [Zck]; simp (disch:=exact id (by kernel_rfl)) only [ih]; kernel_rfl
theorem Zpf:Wc Tryz.prog 193:=Wb Tryz.func193 (show Wg Tryz.f193 = true by kernel_rfl)
theorem Zy6 (N:Nat) (c1:List Int × Int × Int):DN Zis N (c1,()) = Zco N c1:=by
  have h:Zco N c1 = Zco N c1:=rfl
  conv at h=>rhs; rw [Zco]
  simp (disch:=exact id (by kernel_rfl)) only [Zrv (R:=Km × (Ke × Unit)) N (CF Zis N [1,1,0,1,0])] at h
  exact Eq.trans (by kernel_rfl) h.symm
theorem Zpg (N:Nat):Good Tryz.prog 193 (Zir N):=GF Zis N Tryz.func193 (Wa (Zvl N) Zvj (Wa (Znu N) Znt (Wa (Zdp N) Zdo We))) (by kernel_rfl) (fun d=>Zy6 N d.1)
def Zlg (N:Nat):Sig:=Sig.of [.box Jk] [.v Ja false] (fun d=>Za N d.1)
def Zxh:Fn:=⟨Tryz.f245,Wy,Zlg,fun N=>[(115,Z6 N)]⟩
theorem Zxi:Wc Tryz.prog 245:=Wb Tryz.func245 (show Wg Tryz.f245 = true by kernel_rfl)
theorem Zxj (N:Nat):Good Tryz.prog 245 (Zlg N):=GF Zxh N Tryz.func245 (Wa (Zae N) Zad We) (by kernel_rfl) (fun d=>by kernel_rfl)
def Zkj (N:Nat):Sig:=Sig.of [.box Jk] [.v Ja false] (fun d=>Zbv N d.1)
def Zvm:Fn:=⟨Tryz.f167,Wy,Zkj,fun N=>[(166,Zb1 N),(115,Z6 N)]⟩
theorem Zvn:Wc Tryz.prog 167:=Wb Tryz.func167 (show Wg Tryz.f167 = true by kernel_rfl)
theorem Zvo (N:Nat):Good Tryz.prog 167 (Zkj N):=GF Zvm N Tryz.func167 (Wa (Zdp N) Zdo (Wa (Zae N) Zad We)) (by kernel_rfl) (fun d=>by kernel_rfl)
def Zlh (N:Nat):Sig:=Sig.of [.box Jk] [.v Ja false] (fun d=>Zk N d.1)
def Zxk:Fn:=⟨Tryz.f246,Wy,Zlh,fun N=>[(166,Zb1 N),(115,Z6 N),(215,Zgt N)]⟩
theorem Zxl:Wc Tryz.prog 246:=Wb Tryz.func246 (show Wg Tryz.f246 = true by kernel_rfl)
theorem Zxm (N:Nat):Good Tryz.prog 246 (Zlh N):=GF Zxk N Tryz.func246 (Wa (Zdp N) Zdo (Wa (Zae N) Zad (Wa (Zlf N) Zle We))) (by kernel_rfl) (fun d=>by kernel_rfl)
def Zjk (N:Nat):Sig:=Sig.of [.box Jk,.v Ja false] [.v Jx true] (fun d=>Zj N d.1 d.2.1)
def Z0d:Fn:=⟨Tryz.f216,Wy,Zjk,fun N=>[(245,Zlg N),(162,Zid N),(167,Zkj N),(115,Z6 N),(246,Zlh N)]⟩
theorem Zpv:Wc Tryz.prog 216:=Wb Tryz.func216 (show Wg Tryz.f216 = true by kernel_rfl)
theorem Zpw (N:Nat):Good Tryz.prog 216 (Zjk N):=GF Z0d N Tryz.func216 (Wa (Zxj N) Zxi (Wa (Znu N) Znt (Wa (Zvo N) Zvn (Wa (Zae N) Zad (Wa (Zxm N) Zxl We))))) (by kernel_rfl) (fun d=>by kernel_rfl)
def Zkv (N m:Nat):Sig:=Sig.of [.box Jk,.v Ja false,.v Ja false,.v Jp false] [.v (.own Jx) false] (fun d=>Zcb N m d.1 d.2.1 d.2.2.1 d.2.2.2.1)
def Zrw (N:Nat):Sig:=Zkv N N
def Zlz (m:Nat):Fn:=⟨Tryz.f164,fun | 3=>[.canon [0,1,2,3,9,10,27]] | 4=>[.canon [0,1,2,3,9,10]] | 5=>[.canon [0,1,2,3,9,10,11]] | 6=>[.canon [0,1,2,3,9,10]] | 7=>[.canon [0,1,2,3,9,10,11,40]] | 8=>[.canon [0,1,2,3,9,10]] | 9=>[.canon [0,1,2,3,9,10,11,48]] | 10=>[.canon [0,1,2,3,9,10]] | 11=>[.canon [0,1,2,3,9,10,11,56]] | 12=>[.canon [0,1,2,3,9,10]] | 13=>[.canon [0,1,2,3,9,10,11,67]] | 14=>[.canon [0,1,2,3,9,10,12]] | 15=>[.canon [0,1,2,3,9,10,12]] | 16=>[.canon [0,1,2,3,9,10]] | 17=>[.canon [0,1,2,3,9,10,100]] | 18=>[.canon [0,1,2,3,9,10]] | 19=>[.canon [0,1,2,3,9,10]] | 20=>[.canon [0,1,2,3,9,10,11,109]] | 21=>[.canon [0,1,2,3,9,10,13]] | 22=>[.canon [0,1,2,3,9,10,13,14]] | 23=>[.canon [0,1,2,3,9,10,13,14]] | 24=>[.canon [0,1,2,3,9,10,13]] | 25=>[.canon [0,1,2,3,9,10]] | 26=>[.canon [0,1,2,3,9,10,134]] | 27=>[.canon [0,1,2,3,9,10]] | 28=>[.canon [0,1,2,3,9,10,145]] | 29=>[.canon [0,1,2,3,9,10]] | 100003=>[.canon [0,1,2,3,9,10]] | _=>[],fun N=>Zkv N (m + 1),fun N=>[(115,Z6 N),(216,Zjk N),(164,Zkv N m),(166,Zb1 N)]⟩
def Zxn (most6:Int) (deep7:Int) (kid8:Bool) (n9:Int) (b10:List Int × Int × Int) (l11:List Ka):St:=⟨[(0,vP 0 0),(1,vI most6),(2,vI deep7),(3,vB kid8),(9,vO 1),(10,vI n9)],[(0,.box [.val Jo b10.1,.val Ja b10.2.1,.val Ja b10.2.2]),(1,.arr Jx l11)],2⟩
def Zvp (most6:Int) (deep7:Int) (kid8:Bool) (n80:Int) (t81:Bool) (b82:List Int × Int × Int) (l83:List Ka):St:=⟨[(0,vP 0 0),(1,vI most6),(2,vI deep7),(3,vB kid8),(9,vO 1),(10,vI n80),(27,vB t81)],[(0,.box [.val Jo b82.1,.val Ja b82.2.1,.val Ja b82.2.2]),(1,.arr Jx l83)],2⟩
theorem Zxo (N m:Nat) {R:Type} (K:Ex → St → Option R) {most6:Int} {deep7:Int} {kid8:Bool} {K0:Int → Bool → Kf → Ko → Option R} (h0:K0 = fun n80 t81 b82 l83=>K (.exit 0) (Zvp most6 deep7 kid8 n80 t81 b82 l83)) (n:Nat) (n9:Int) (b10:List Int × Int × Int) (l11:List Ka):Zc N (Zcb N m) most6 deep7 kid8 K0 n n9 b10 l11 = LM (Zlz m) N 0 100003 n (Zxn most6 deep7 kid8 n9 b10 l11) K:=by
  subst h0
  induction n generalizing n9 b10 l11 with
  | zero=>kernel_rfl
  | succ n ih=>rw [Zc]; simp (disch:=exact id (by kernel_rfl)) only [ih]; kernel_rfl
theorem Zrx:Wc Tryz.prog 164:=Wb Tryz.func164 (show Wg Tryz.f164 = true by kernel_rfl)
theorem Z3m (N m:Nat) (c1:List Int × Int × Int) (most2:Int) (deep3:Int) (kid4:Bool):DN (Zlz m) N (c1,most2,deep3,kid4,()) = Zcb N (m + 1) c1 most2 deep3 kid4:=by
  have h:Zcb N (m + 1) c1 most2 deep3 kid4 = Zcb N (m + 1) c1 most2 deep3 kid4:=rfl
  conv at h=>rhs; rw [Zcb]
  simp (disch:=exact id (by kernel_rfl)) only [Zxo (R:=Km × (Ko × Unit)) N m (CF (Zlz m) N [1,1,0,1,0])] at h
  exact Eq.trans (by kernel_rfl) h.symm
theorem Zqr (N:Nat):∀ m,Good Tryz.prog 164 (Zkv N m)
  | 0=>fun d o h=>nomatch (show none = some o from h)
  | m + 1=>GF (Zlz m) N Tryz.func164 (Wa (Zae N) Zad (Wa (Zpw N) Zpv (Wa (Zqr N m) Zrx (Wa (Zdp N) Zdo We)))) (by kernel_rfl) (fun d=>Z3m N m d.1 d.2.1 d.2.2.1 d.2.2.2.1)
theorem Z3n (N:Nat):Good Tryz.prog 164 (Zrw N):=Zqr N N
def Zkw (N:Nat):Sig:=Sig.of [.box Jk,.v Jp false] [.v (.prod (.own Jx) (.own Jc)) true] (fun d=>Zb8 N d.1 d.2.1)
def Zkx:Fn:=⟨Tryz.f194,fun | 7=>[.canon [0,4,7,8,38]] | 8=>[.canon [0,4,7,8]] | 9=>[.canon [0,4,7,8]] | 100007=>[.adoptC 7 1 Jc,.canon [0,4,7,8]] | _=>[],Zkw,fun N=>[(115,Z6 N),(164,Zrw N)]⟩
def Zvq (n10:Int) (b11:List Int × Int × Int) (l12:List Ka) (l13:List Ko):St:=⟨[(0,vP 0 0),(4,vP 1 0),(7,vP 2 0),(8,vI n10)],[(0,.box [.val Jo b11.1,.val Ja b11.2.1,.val Ja b11.2.2]),(1,.box [.nils,.nils]),(2,.box [.own 3,.own 4]),(3,.arr Jx l12),(4,.arr Jc l13)],5⟩
def Ztk (l12:List Ka) (n16:Int) (t17:Bool) (b18:List Int × Int × Int) (l19:List Ko):St:=⟨[(0,vP 0 0),(4,vP 1 0),(7,vP 2 0),(8,vI n16),(38,vB t17)],[(0,.box [.val Jo b18.1,.val Ja b18.2.1,.val Ja b18.2.2]),(1,.box [.nils,.nils]),(2,.box [.own 3,.own 4]),(3,.arr Jx l12),(4,.arr Jc l19)],5⟩
theorem Zvr (N:Nat) {R:Type} (K:Ex → St → Option R) {l12:List Ka} {K0:Int → Bool → Kf → (List Ko) → Option R} (h0:K0 = fun n16 t17 b18 l19=>K (.exit 0) (Ztk l12 n16 t17 b18 l19)) (n:Nat) (n10:Int) (b11:List Int × Int × Int) (l13:List Ko):Zfv N l12 K0 n n10 b11 l13 = LM Zkx N 0 100007 n (Zvq n10 b11 l12 l13) K:=by
  subst h0
  induction n generalizing n10 b11 l13 with
  | zero=>kernel_rfl
  | succ n ih=>rw [Zfv]; simp (disch:=exact id (by kernel_rfl)) only [ih]; kernel_rfl
theorem Zqs:Wc Tryz.prog 194:=Wb Tryz.func194 (show Wg Tryz.f194 = true by kernel_rfl)
theorem Z2b (N:Nat) (c1:List Int × Int × Int) (forks2:Bool):DN Zkx N (c1,forks2,()) = Zb8 N c1 forks2:=by
  have h:Zb8 N c1 forks2 = Zb8 N c1 forks2:=rfl
  conv at h=>rhs; rw [Zb8]
  simp (disch:=exact id (by kernel_rfl)) only [Zvr (R:=Km × (Kk × Unit)) N (CF Zkx N [1,1,1,1,1,0,1,0])] at h
  exact Eq.trans (by kernel_rfl) h.symm
theorem Zqt (N:Nat):Good Tryz.prog 194 (Zkw N):=GF Zkx N Tryz.func194 (Wa (Zae N) Zad (Wa (Z3n N) Zrx We)) (by kernel_rfl) (fun d=>Z2b N d.1 d.2.1)
def Zm3 (N:Nat):Sig:=Sig.of [.box Jk,.v Ja false,.v Ja false] [.v (.own Jl) false] (fun d=>Zc5 N d.1 d.2.1 d.2.2.1)
def Zjl:Fn:=⟨Tryz.f195,fun | 4=>[.canon [0,1,2,7,8,9,14]] | 5=>[.canon [0,1,2,7,8,9]] | 6=>[.canon [0,1,2,7,8,9,18]] | 7=>[.canon [0,1,2,7,8,9]] | 8=>[.canon [0,1,2,7,8,9,10]] | 9=>[.canon [0,1,2,7,8,9,10,25]] | 10=>[.canon [0,1,2,7,8,9,10]] | 11=>[.canon [0,1,2,7,8,9,10]] | 12=>[.canon [0,1,2,7,8,9,10,31]] | 13=>[.canon [0,1,2,7,8,9,10]] | 14=>[.canon [0,1,2,7,8,9,10,35]] | 15=>[.canon [0,1,2,7,8,9,10]] | 16=>[.canon [0,1,2,7,8,9]] | 100004=>[.canon [0,1,2,7,8,9]] | _=>[],Zm3,fun N=>[(166,Zb1 N),(115,Z6 N)]⟩
def Ztl (n4:Int) (most5:Int) (who6:Int) (i7:Int) (b8:List Int × Int × Int) (l9:List Kb):St:=⟨[(0,vP 0 0),(1,vI n4),(2,vI most5),(7,vO 1),(8,vI who6),(9,vI i7)],[(0,.box [.val Jo b8.1,.val Ja b8.2.1,.val Ja b8.2.2]),(1,.arr Jl l9)],2⟩
def Zry (n4:Int) (most5:Int) (who24:Int) (i25:Int) (t26:Bool) (b27:List Int × Int × Int) (l28:List Kb):St:=⟨[(0,vP 0 0),(1,vI n4),(2,vI most5),(7,vO 1),(8,vI who24),(9,vI i25),(14,vB t26)],[(0,.box [.val Jo b27.1,.val Ja b27.2.1,.val Ja b27.2.2]),(1,.arr Jl l28)],2⟩
theorem Ztm (N:Nat) {R:Type} (K:Ex → St → Option R) {n4:Int} {most5:Int} {K0:Int → Int → Bool → Kf → Kn → Option R} (h0:K0 = fun who24 i25 t26 b27 l28=>K (.exit 0) (Zry n4 most5 who24 i25 t26 b27 l28)) (n:Nat) (who6:Int) (i7:Int) (b8:List Int × Int × Int) (l9:List Kb):Zz N n4 most5 K0 n who6 i7 b8 l9 = LM Zjl N 0 100004 n (Ztl n4 most5 who6 i7 b8 l9) K:=by
  subst h0
  induction n generalizing who6 i7 b8 l9 with
  | zero=>kernel_rfl
  | succ n ih=>rw [Zz]; simp (disch:=exact id (by kernel_rfl)) only [ih]; kernel_rfl
theorem Z0e:Wc Tryz.prog 195:=Wb Tryz.func195 (show Wg Tryz.f195 = true by kernel_rfl)
theorem Z0f (N:Nat) (c1:List Int × Int × Int) (n2:Int) (most3:Int):DN Zjl N (c1,n2,most3,()) = Zc5 N c1 n2 most3:=by
  have h:Zc5 N c1 n2 most3 = Zc5 N c1 n2 most3:=rfl
  conv at h=>rhs; rw [Zc5]
  simp (disch:=exact id (by kernel_rfl)) only [Ztm (R:=Km × (Kn × Unit)) N (CF Zjl N [1,1,1,0,1,0])] at h
  exact Eq.trans (by kernel_rfl) h.symm
theorem Z0g (N:Nat):Good Tryz.prog 195 (Zm3 N):=GF Zjl N Tryz.func195 (Wa (Zdp N) Zdo (Wa (Zae N) Zad We)) (by kernel_rfl) (fun d=>Z0f N d.1 d.2.1 d.2.2.1)
def Zli (N:Nat):Sig:=Sig.of [.box Jk,.v Ja false,.v Ja false] [.v (.prod (.prod Jac Jq) (.prod (.own Jn) (.own Jl))) true] (fun d=>Zcw N d.1 d.2.1 d.2.2.1)
def Zie:Fn:=⟨Tryz.f148,fun | 4=>[.canon [0,1,2,6,7,8,9,18]] | 5=>[.canon [0,1,2,6,7,8,9]] | 6=>[.canon [0,1,2,6,7,8,9]] | 100004=>[.adoptC 7 3 Jn,.canon [0,1,2,6,7,8,9]] | _=>[],Zli,fun N=>[(193,Zir N),(115,Z6 N),(194,Zkw N),(166,Zb1 N),(195,Zm3 N)]⟩
def Zq3 (how6:Int) (most7:Int) (n8:Int) (i9:Int) (b10:List Int × Int × Int) (b12:Int) (l13:List Int) (l14:List Int) (l15:List Kk):St:=⟨[(0,vP 0 0),(1,vI how6),(2,vI most7),(6,vP 1 0),(7,vP 2 0),(8,vI n8),(9,vI i9)],[(0,.box [.val Jo b10.1,.val Ja b10.2.1,.val Ja b10.2.2]),(1,.box [.nils,.nils,.val Ja (0:Int),.nils,.nils]),(2,.box [.own 3,.own 4,.val Ja b12,.own 5,.nils]),(3,.arr Ja l13),(4,.arr Ja l14),(5,.arr Jn l15)],6⟩
def Zqb (how6:Int) (most7:Int) (n8:Int) (b12:Int) (l13:List Int) (l14:List Int) (i24:Int) (t25:Bool) (b26:List Int × Int × Int) (l27:List Kk):St:=⟨[(0,vP 0 0),(1,vI how6),(2,vI most7),(6,vP 1 0),(7,vP 2 0),(8,vI n8),(9,vI i24),(18,vB t25)],[(0,.box [.val Jo b26.1,.val Ja b26.2.1,.val Ja b26.2.2]),(1,.box [.nils,.nils,.val Ja (0:Int),.nils,.nils]),(2,.box [.own 3,.own 4,.val Ja b12,.own 5,.nils]),(3,.arr Ja l13),(4,.arr Ja l14),(5,.arr Jn l27)],6⟩
theorem Zq4 (N:Nat) {R:Type} (K:Ex → St → Option R) {how6:Int} {most7:Int} {n8:Int} {b12:Int} {l13:List Int} {l14:List Int} {K0:Int → Bool → Kf → (List Kk) → Option R} (h0:K0 = fun i24 t25 b26 l27=>K (.exit 0) (Zqb how6 most7 n8 b12 l13 l14 i24 t25 b26 l27)) (n:Nat) (i9:Int) (b10:List Int × Int × Int) (l15:List Kk):Zbh N how6 most7 n8 b12 l13 l14 K0 n i9 b10 l15 = LM Zie N 0 100004 n (Zq3 how6 most7 n8 i9 b10 b12 l13 l14 l15) K:=by
  subst h0
  induction n generalizing i9 b10 l15 with
  | zero=>kernel_rfl
  | succ n ih=>rw [Zbh]; simp (disch:=exact id (by kernel_rfl)) only [ih]; kernel_rfl
theorem Zxp:Wc Tryz.prog 148:=Wb Tryz.func148 (show Wg Tryz.f148 = true by kernel_rfl)
theorem Zxq (N:Nat) (c1:List Int × Int × Int) (how2:Int) (most3:Int):DN Zie N (c1,how2,most3,()) = Zcw N c1 how2 most3:=by
  have h:Zcw N c1 how2 most3 = Zcw N c1 how2 most3:=rfl
  conv at h=>rhs; rw [Zcw]
  simp (disch:=exact id (by kernel_rfl)) only [Zq4 (R:=Km × ((Ke × List Kk × List Kb) × Unit)) N (CF Zie N [1,1,1,0,1,0])] at h
  exact Eq.trans (by kernel_rfl) h.symm
theorem Zxr (N:Nat):Good Tryz.prog 148 (Zli N):=GF Zie N Tryz.func148 (Wa (Zpg N) Zpf (Wa (Zae N) Zad (Wa (Zqt N) Zqs (Wa (Zdp N) Zdo (Wa (Z0g N) Z0e We))))) (by kernel_rfl) (fun d=>Zxq N d.1 d.2.1 d.2.2.1)
def Zjm (N:Nat):Sig:=Sig.of [.box Jk] [.v (.prod Jac Jq) true] (fun d=>Zh8 N d.1)
def Ztn:Fn:=⟨Tryz.f149,Wy,Zjm,fun N=>[(193,Zir N),(115,Z6 N)]⟩
theorem Zto:Wc Tryz.prog 149:=Wb Tryz.func149 (show Wg Tryz.f149 = true by kernel_rfl)
theorem Ztp (N:Nat):Good Tryz.prog 149 (Zjm N):=GF Ztn N Tryz.func149 (Wa (Zpg N) Zpf (Wa (Zae N) Zad We)) (by kernel_rfl) (fun d=>by kernel_rfl)
def Zok (N:Nat):Sig:=Sig.of [.box Jk] [.v Jx true] (fun d=>Znp N d.1)
def Z3o:Fn:=⟨Tryz.f169,Wy,Zok,fun N=>[(115,Z6 N),(216,Zjk N),(215,Zgt N)]⟩
theorem Z3p:Wc Tryz.prog 169:=Wb Tryz.func169 (show Wg Tryz.f169 = true by kernel_rfl)
theorem Z3q (N:Nat):Good Tryz.prog 169 (Zok N):=GF Z3o N Tryz.func169 (Wa (Zae N) Zad (Wa (Zpw N) Zpv (Wa (Zlf N) Zle We))) (by kernel_rfl) (fun d=>by kernel_rfl)
def Znv (N:Nat):Sig:=Sig.of [.box Jk,.v Jc false] [.v (.own Jx) false] (fun d=>Zd5 N d.1 d.2.1)
def Zky:Fn:=⟨Tryz.f116,fun | 12=>[.view 49,.view 45] | 14=>[.canon [0,5,58]] | 15=>[.canon [0,5]] | 100014=>[.canon [0,5]] | _=>[],Znv,fun N=>[(115,Z6 N),(169,Zok N)]⟩
def Zvs (b6:List Int × Int × Int) (l7:List Ka):St:=⟨[(0,vP 0 0),(5,vO 1)],[(0,.box [.val Jo b6.1,.val Ja b6.2.1,.val Ja b6.2.2]),(1,.arr Jx l7)],2⟩
def Ztq (t9:Bool) (b10:List Int × Int × Int) (l11:List Ka):St:=⟨[(0,vP 0 0),(5,vO 1),(58,vB t9)],[(0,.box [.val Jo b10.1,.val Ja b10.2.1,.val Ja b10.2.2]),(1,.arr Jx l11)],2⟩
theorem Zvt (N:Nat) {R:Type} (K:Ex → St → Option R) {K0:Bool → Kf → Ko → Option R} (h0:K0 = fun t9 b10 l11=>K (.exit 1) (Ztq t9 b10 l11)) (n:Nat) (b6:List Int × Int × Int) (l7:List Ka):Zfw N K0 n b6 l7 = LM Zky N 0 100014 n (Zvs b6 l7) K:=by
  subst h0
  induction n generalizing b6 l7 with
  | zero=>kernel_rfl
  | succ n ih=>rw [Zfw]; simp (disch:=exact id (by kernel_rfl)) only [ih]; kernel_rfl
theorem Z2c:Wc Tryz.prog 116:=Wb Tryz.func116 (show Wg Tryz.f116 = true by kernel_rfl)
theorem Z2d (N:Nat) (c1:List Int × Int × Int) (code2:List Ka):DN Zky N (c1,code2,()) = Zd5 N c1 code2:=by
  have h:Zd5 N c1 code2 = Zd5 N c1 code2:=rfl
  conv at h=>rhs; rw [Zd5]
  simp (disch:=exact id (by kernel_rfl)) only [Zvt (R:=Km × (Ko × Unit)) N (CF Zky N [1,1,1,1,0,1,0,1,1,1,1,1,1,1,0,0])] at h
  exact Eq.trans (by kernel_rfl) h.symm
theorem Z2e (N:Nat):Good Tryz.prog 116 (Znv N):=GF Zky N Tryz.func116 (Wa (Zae N) Zad (Wa (Z3q N) Z3p We)) (by kernel_rfl) (fun d=>Z2d N d.1 d.2.1)
def Zlj (N:Nat):Sig:=Sig.of [.box Jk] [.v (.prod (.own Jx) (.own Jc)) true] (fun d=>Zjh N d.1)
def Zxs:Fn:=⟨Tryz.f150,Wy,Zlj,fun N=>[(166,Zb1 N),(194,Zkw N),(115,Z6 N),(116,Znv N)]⟩
theorem Zxt:Wc Tryz.prog 150:=Wb Tryz.func150 (show Wg Tryz.f150 = true by kernel_rfl)
theorem Zxu (N:Nat):Good Tryz.prog 150 (Zlj N):=GF Zxs N Tryz.func150 (Wa (Zdp N) Zdo (Wa (Zqt N) Zqs (Wa (Zae N) Zad (Wa (Z2e N) Z2c We)))) (by kernel_rfl) (fun d=>by kernel_rfl)
def Znw (N:Nat):Sig:=Sig.of [.box Jk,.v Ja false] [.v (.prod (.prod Jac Jq) (.prod (.own Jn) (.own Jl))) true] (fun d=>Zf7 N d.1 d.2.1)
def Zgz:Fn:=⟨Tryz.f102,fun | 8=>[.canon [0,4,5,28]] | 9=>[.canon [0,4,5]] | 13=>[.canon [0,4,5,55]] | 14=>[.canon [0,4,5]] | 100008=>[.canon [0,4,5]] | 100013=>[.canon [0,4,5]] | _=>[],Znw,fun N=>[(148,Zli N),(115,Z6 N),(149,Zjm N),(150,Zlj N)]⟩
def Zvu (b7:List Int × Int × Int) (b9:Int) (l10:List Int) (l11:List Int) (l12:List Kk) (l13:List Kb):St:=⟨[(0,vP 0 0),(4,vP 1 0),(5,vP 2 0)],[(0,.box [.val Jo b7.1,.val Ja b7.2.1,.val Ja b7.2.2]),(1,.box [.nils,.nils,.val Ja (0:Int),.nils,.nils]),(2,.box [.own 3,.own 4,.val Ja b9,.own 5,.own 6]),(3,.arr Ja l10),(4,.arr Ja l11),(5,.arr Jn l12),(6,.arr Jl l13)],7⟩
def Ztr (b7:List Int × Int × Int) (b9:Int) (l10:List Int) (l11:List Int) (l13:List Kb) (t14:Bool) (l15:List Kk):St:=⟨[(0,vP 0 0),(4,vP 1 0),(5,vP 2 0),(28,vB t14)],[(0,.box [.val Jo b7.1,.val Ja b7.2.1,.val Ja b7.2.2]),(1,.box [.nils,.nils,.val Ja (0:Int),.nils,.nils]),(2,.box [.own 3,.own 4,.val Ja b9,.own 5,.own 6]),(3,.arr Ja l10),(4,.arr Ja l11),(5,.arr Jn l15),(6,.arr Jl l13)],7⟩
theorem Zvv (N:Nat) {R:Type} (K:Ex → St → Option R) {b7:List Int × Int × Int} {b9:Int} {l10:List Int} {l11:List Int} {l13:List Kb} {K0:Bool → (List Kk) → Option R} (h0:K0 = fun t14 l15=>K (.exit 1) (Ztr b7 b9 l10 l11 l13 t14 l15)) (n:Nat) (l12:List Kk):Zfx N b7 b9 l10 l11 l13 K0 n l12 = LM Zgz N 0 100008 n (Zvu b7 b9 l10 l11 l12 l13) K:=by
  subst h0
  induction n generalizing l12 with
  | zero=>kernel_rfl
  | succ n ih=>rw [Zfx]; simp (disch:=exact id (by kernel_rfl)) only [ih]; kernel_rfl
def Zvw (b18:List Int × Int × Int) (b20:Int) (l21:List Int) (l22:List Int) (l23:List Kk) (l24:List Kb):St:=⟨[(0,vP 0 0),(4,vP 1 0),(5,vP 2 0)],[(0,.box [.val Jo b18.1,.val Ja b18.2.1,.val Ja b18.2.2]),(1,.box [.nils,.nils,.val Ja (0:Int),.nils,.nils]),(2,.box [.own 3,.own 4,.val Ja b20,.own 5,.own 6]),(3,.arr Ja l21),(4,.arr Ja l22),(5,.arr Jn l23),(6,.arr Jl l24)],7⟩
def Zts (b20:Int) (l21:List Int) (l22:List Int) (l23:List Kk) (t27:Bool) (b28:List Int × Int × Int) (l29:List Kb):St:=⟨[(0,vP 0 0),(4,vP 1 0),(5,vP 2 0),(55,vB t27)],[(0,.box [.val Jo b28.1,.val Ja b28.2.1,.val Ja b28.2.2]),(1,.box [.nils,.nils,.val Ja (0:Int),.nils,.nils]),(2,.box [.own 3,.own 4,.val Ja b20,.own 5,.own 6]),(3,.arr Ja l21),(4,.arr Ja l22),(5,.arr Jn l23),(6,.arr Jl l29)],7⟩
theorem Zvx (N:Nat) {R:Type} (K:Ex → St → Option R) {b20:Int} {l21:List Int} {l22:List Int} {l23:List Kk} {K0:Bool → Kf → Kn → Option R} (h0:K0 = fun t27 b28 l29=>K (.exit 3) (Zts b20 l21 l22 l23 t27 b28 l29)) (n:Nat) (b18:List Int × Int × Int) (l24:List Kb):Zfy N b20 l21 l22 l23 K0 n b18 l24 = LM Zgz N 1 100013 n (Zvw b18 b20 l21 l22 l23 l24) K:=by
  subst h0
  induction n generalizing b18 l24 with
  | zero=>kernel_rfl
  | succ n ih=>rw [Zfy]; simp (disch:=exact id (by kernel_rfl)) only [ih]; kernel_rfl
theorem Z2f:Wc Tryz.prog 102:=Wb Tryz.func102 (show Wg Tryz.f102 = true by kernel_rfl)
theorem Z2g (N:Nat) (c1:List Int × Int × Int) (most2:Int):DN Zgz N (c1,most2,()) = Zf7 N c1 most2:=by
  have h:Zf7 N c1 most2 = Zf7 N c1 most2:=rfl
  conv at h=>rhs; rw [Zf7]
  simp (disch:=exact id (by kernel_rfl)) only [Zvv (R:=Km × ((Ke × List Kk × List Kb) × Unit)) N (CF Zgz N [1,1,0,1,0,1,1,1,1,1,0,0]),Zvx (R:=Km × ((Ke × List Kk × List Kb) × Unit)) N (CF Zgz N [1,1,0,1,0,1,1,1,1,1,1,1,1,1,0,0])] at h
  exact Eq.trans (by kernel_rfl) h.symm
theorem Z2h (N:Nat):Good Tryz.prog 102 (Znw N):=GF Zgz N Tryz.func102 (Wa (Zxr N) Zxp (Wa (Zae N) Zad (Wa (Ztp N) Zto (Wa (Zxu N) Zxt We)))) (by kernel_rfl) (fun d=>Z2g N d.1 d.2.1)
def Zmc (N:Nat):Sig:=Sig.of [.v Jo false] [.v Jah true] (fun d=>Zkr N d.1)
def Zy7:Fn:=⟨Tryz.f38,Wy,Zmc,fun N=>[(50,Zoj N),(110,Znr N),(102,Znw N)]⟩
theorem Zy8:Wc Tryz.prog 38:=Wb Tryz.func38 (show Wg Tryz.f38 = true by kernel_rfl)
theorem Zy9 (N:Nat):Good Tryz.prog 38 (Zmc N):=GF Zy7 N Tryz.func38 (Wa (Z3l N) Z3j (Wa (Z15 N) Z14 (Wa (Z2h N) Z2f We))) (by kernel_rfl) (fun d=>by kernel_rfl)
def Zg4 (N:Nat):Sig:=Sig.of [.v Ja false,.v Ja false,.v Ja false] [.v Jp false] (fun d=>Zbl N d.1 d.2.1 d.2.2.1)
def Z4d:Fn:=⟨Tryz.f61,Wy,Zg4,Wcj⟩
theorem Zke:Wc Tryz.prog 61:=Wb Tryz.func61 (show Wg Tryz.f61 = true by kernel_rfl)
theorem Zkf (N:Nat):Good Tryz.prog 61 (Zg4 N):=GF Z4d N Tryz.func61 We (by kernel_rfl) (fun d=>by kernel_rfl)
def Zi7 (N:Nat):Sig:=Sig.of [.v Ja false] [.v Jp false] (fun d=>Zhi N d.1)
def Z3r:Fn:=⟨Tryz.f112,Wy,Zi7,fun N=>[(61,Zg4 N)]⟩
theorem Zol:Wc Tryz.prog 112:=Wb Tryz.func112 (show Wg Tryz.f112 = true by kernel_rfl)
theorem Zom (N:Nat):Good Tryz.prog 112 (Zi7 N):=GF Z3r N Tryz.func112 (Wa (Zkf N) Zke We) (by kernel_rfl) (fun d=>by kernel_rfl)
def Znx (N:Nat):Sig:=Sig.of [.v Jj false] [.v Jp false] (fun d=>Zf4 N d.1)
def Zkz:Fn:=⟨Tryz.f58,fun | 4=>[.canon [0,3,10]] | 5=>[.canon [0,3]] | 6=>[.canon [0,3,18]] | 7=>[.canon [2]] | 100004=>[.canon [0,3]] | _=>[],Znx,fun N=>[(112,Zi7 N)]⟩
def Zvy (l2:List Int) (i3:Int):St:=⟨[(0,vV Jj l2),(3,vI i3)],[],0⟩
def Ztt (l2:List Int):St:=⟨[(2,vB false)],[],0⟩
def Ztu (l2:List Int) (i5:Int) (t6:Bool):St:=⟨[(0,vV Jj l2),(3,vI i5),(10,vB t6)],[],0⟩
theorem Zvz (N:Nat) {R:Type} (K:Ex → St → Option R) {l2:List Int} {K0:Option R} {K1:Int → Bool → Option R} (h0:K0 = K .ret (Ztt l2)) (h1:K1 = fun i5 t6=>K (.exit 0) (Ztu l2 i5 t6)) (n:Nat) (i3:Int):Zdc N l2 K0 K1 n i3 = LM Zkz N 0 100004 n (Zvy l2 i3) K:=by
  subst h0 h1
  induction n generalizing i3 with
  | zero=>kernel_rfl
  | succ n ih=>rw [Zdc]; simp (disch:=exact id (by kernel_rfl)) only [ih]; kernel_rfl
theorem Z2i:Wc Tryz.prog 58:=Wb Tryz.func58 (show Wg Tryz.f58 = true by kernel_rfl)
theorem Z2j (N:Nat) (l1:List Int):DN Zkz N (l1,()) = Zf4 N l1:=by
  have h:Zf4 N l1 = Zf4 N l1:=rfl
  conv at h=>rhs; rw [Zf4]
  simp (disch:=exact id (by kernel_rfl)) only [Zvz (R:=Unit × Kg) N (CF Zkz N [1,1,0,1,0])] at h
  exact Eq.trans (by kernel_rfl) h.symm
theorem Z2k (N:Nat):Good Tryz.prog 58 (Znx N):=GF Zkz N Tryz.func58 (Wa (Zom N) Zol We) (by kernel_rfl) (fun d=>Z2j N d.1)
def Zmd (N:Nat):Sig:=Sig.of [.v Jt true] [.v Jp false] (fun d=>Zdk N d.1)
def Zit:Fn:=⟨Tryz.f105,fun | 4=>[.canon [1,3,24]] | 5=>[.canon [1,3]] | 6=>[.canon [1,3,33]] | 7=>[.canon [2]] | 100004=>[.canon [1,3]] | _=>[],Zmd,fun N=>[(58,Znx N),(112,Zi7 N),(61,Zg4 N)]⟩
def Zrz (i4:Int) (b5:List Int × List Int × Int):St:=⟨[(1,vP 0 0),(3,vI i4)],[(0,.box [.val Jj b5.1,.val Jj b5.2.1,.val Ja b5.2.2])],1⟩
def Zq5 (b5:List Int × List Int × Int):St:=⟨[(2,vB false)],[],0⟩
def Zq6 (b5:List Int × List Int × Int) (i7:Int) (t8:Bool):St:=⟨[(1,vP 0 0),(3,vI i7),(24,vB t8)],[(0,.box [.val Jj b5.1,.val Jj b5.2.1,.val Ja b5.2.2])],1⟩
theorem Zr0 (N:Nat) {R:Type} (K:Ex → St → Option R) {b5:List Int × List Int × Int} {K0:Option R} {K1:Int → Bool → Option R} (h0:K0 = K .ret (Zq5 b5)) (h1:K1 = fun i7 t8=>K (.exit 0) (Zq6 b5 i7 t8)) (n:Nat) (i4:Int):Zbq N b5 K0 K1 n i4 = LM Zit N 0 100004 n (Zrz i4 b5) K:=by
  subst h0 h1
  induction n generalizing i4 with
  | zero=>kernel_rfl
  | succ n ih=>rw [Zbq]; simp (disch:=exact id (by kernel_rfl)) only [ih]; kernel_rfl
theorem Zza:Wc Tryz.prog 105:=Wb Tryz.func105 (show Wg Tryz.f105 = true by kernel_rfl)
theorem Zzb (N:Nat) (s1:List Int × List Int × Int):DN Zit N (s1,()) = Zdk N s1:=by
  have h:Zdk N s1 = Zdk N s1:=rfl
  conv at h=>rhs; rw [Zdk]
  simp (disch:=exact id (by kernel_rfl)) only [Zr0 (R:=Unit × Kg) N (CF Zit N [1,1,0,1,0])] at h
  exact Eq.trans (by kernel_rfl) h.symm
theorem Zzc (N:Nat):Good Tryz.prog 105 (Zmd N):=GF Zit N Tryz.func105 (Wa (Z2k N) Z2i (Wa (Zom N) Zol (Wa (Zkf N) Zke We))) (by kernel_rfl) (fun d=>Zzb N d.1)
def Zon (N:Nat):Sig:=Sig.of [.v Ja false] [.v Jp false] (fun d=>Zu N d.1)
def Z3s:Fn:=⟨Tryz.f226,Wy,Zon,fun N=>[(61,Zg4 N)]⟩
theorem Z3t:Wc Tryz.prog 226:=Wb Tryz.func226 (show Wg Tryz.f226 = true by kernel_rfl)
theorem Z3u (N:Nat):Good Tryz.prog 226 (Zon N):=GF Z3s N Tryz.func226 (Wa (Zkf N) Zke We) (by kernel_rfl) (fun d=>by kernel_rfl)
def Zny (N:Nat):Sig:=Sig.of [.v Ja false] [.v Jp false] (fun d=>Zg2 N d.1)
def Z2l:Fn:=⟨Tryz.f64,Wy,Zny,fun N=>[(61,Zg4 N)]⟩
theorem Z2m:Wc Tryz.prog 64:=Wb Tryz.func64 (show Wg Tryz.f64 = true by kernel_rfl)
theorem Z2n (N:Nat):Good Tryz.prog 64 (Zny N):=GF Z2l N Tryz.func64 (Wa (Zkf N) Zke We) (by kernel_rfl) (fun d=>by kernel_rfl)
def Zmu (N:Nat):Sig:=Sig.of [.v Jx true] [.v Jp false] (fun d=>Zt N d.1)
def Z4e:Fn:=⟨Tryz.f180,Wy,Zmu,fun N=>[(226,Zon N),(112,Zi7 N),(64,Zny N),(61,Zg4 N)]⟩
theorem Zve:Wc Tryz.prog 180:=Wb Tryz.func180 (show Wg Tryz.f180 = true by kernel_rfl)
theorem Zvf (N:Nat):Good Tryz.prog 180 (Zmu N):=GF Z4e N Tryz.func180 (Wa (Z3u N) Z3t (Wa (Zom N) Zol (Wa (Z2n N) Z2m (Wa (Zkf N) Zke We)))) (by kernel_rfl) (fun d=>by kernel_rfl)
def Znz (N:Nat):Sig:=Sig.of [.v Jc false,.v Ja false] [.v Jp false] (fun d=>Zf5 N d.1 d.2.1)
def Zk0:Fn:=⟨Tryz.f181,fun | 6=>[.canon [0,5,6,7,24]] | 7=>[.canon [0,5,6,7]] | 8=>[.canon [0,5,6,7,32]] | 9=>[.canon [0,5,6,7]] | 10=>[.canon [0,5,6,7,40]] | 11=>[.canon [0,5,6,7]] | 12=>[.canon [0,5,6,7,44]] | 13=>[.canon [4]] | 100006=>[.canon [0,5,6,7]] | _=>[],Znz,Wcj⟩
def Zv0 (code3:List Ka) (to4:Int) (d5:Int) (k6:Int):St:=⟨[(0,vV Jc code3),(5,vI to4),(6,vI d5),(7,vI k6)],[],0⟩
def Ztv (code3:List Ka) (to4:Int):St:=⟨[(4,vB false)],[],0⟩
def Ztw (code3:List Ka) (to4:Int) (d7:Int) (k8:Int) (t9:Bool):St:=⟨[(0,vV Jc code3),(5,vI to4),(6,vI d7),(7,vI k8),(24,vB t9)],[],0⟩
theorem Zv1 (N:Nat) {R:Type} (K:Ex → St → Option R) {code3:List Ka} {to4:Int} {K0:Option R} {K1:Int → Int → Bool → Option R} (h0:K0 = K .ret (Ztv code3 to4)) (h1:K1 = fun d7 k8 t9=>K (.exit 0) (Ztw code3 to4 d7 k8 t9)) (n:Nat) (d5:Int) (k6:Int):Za4 N code3 to4 K0 K1 n d5 k6 = LM Zk0 N 0 100006 n (Zv0 code3 to4 d5 k6) K:=by
  subst h0 h1
  induction n generalizing d5 k6 with
  | zero=>kernel_rfl
  | succ n ih=>rw [Za4]; simp (disch:=exact id (by kernel_rfl)) only [ih]; kernel_rfl
theorem Z2o:Wc Tryz.prog 181:=Wb Tryz.func181 (show Wg Tryz.f181 = true by kernel_rfl)
theorem Z2p (N:Nat) (code1:List Ka) (i2:Int):DN Zk0 N (code1,i2,()) = Zf5 N code1 i2:=by
  have h:Zf5 N code1 i2 = Zf5 N code1 i2:=rfl
  conv at h=>rhs; rw [Zf5]
  simp (disch:=exact id (by kernel_rfl)) only [Zv1 (R:=Unit × Kg) N (CF Zk0 N [1,1,1,1,0,1,0])] at h
  exact Eq.trans (by kernel_rfl) h.symm
theorem Z2q (N:Nat):Good Tryz.prog 181 (Znz N):=GF Zk0 N Tryz.func181 We (by kernel_rfl) (fun d=>Z2p N d.1 d.2.1)
def Zk1 (N:Nat):Sig:=Sig.of [.v Jc false] [.v Jp false] (fun d=>Zd3 N d.1)
def Zk2:Fn:=⟨Tryz.f125,fun | 6=>[.canon [0,3,4,5,12]] | 7=>[.canon [0,3,4,5]] | 8=>[.canon [0,3,4,5,20]] | 9=>[.canon [2]] | 10=>[.canon [0,3,4,5,25]] | 11=>[.canon [0,3,4,5,25,26]] | 12=>[.canon [0,3,4,5]] | 13=>[.canon [0,3,4,5,25,30]] | 14=>[.canon [0,3,4,5]] | 15=>[.canon [0,3,4,5,25,34]] | 16=>[.canon [0,3,4,5,39]] | 17=>[.canon [2]] | 18=>[.canon [0,3,4,5,40]] | 19=>[.canon [0,3,4,5]] | 20=>[.canon [0,3,4,5,49]] | 21=>[.canon [2]] | 22=>[.canon [0,3,4,5,51]] | 23=>[.canon [2]] | 100006=>[.canon [0,3,4,5]] | _=>[],Zk1,fun N=>[(180,Zmu N),(181,Znz N)]⟩
def Zv2 (code2:List Ka) (d3:Int) (forks4:Int) (i5:Int):St:=⟨[(0,vV Jc code2),(3,vI d3),(4,vI forks4),(5,vI i5)],[],0⟩
def Ztx (code2:List Ka):St:=⟨[(2,vB false)],[],0⟩
def Zty (code2:List Ka) (d8:Int) (forks9:Int) (i10:Int) (t11:Bool):St:=⟨[(0,vV Jc code2),(3,vI d8),(4,vI forks9),(5,vI i10),(12,vB t11)],[],0⟩
theorem Zv3 (N:Nat) {R:Type} (K:Ex → St → Option R) {code2:List Ka} {K0:Option R} {K1:Int → Int → Int → Bool → Option R} (h0:K0 = K .ret (Ztx code2)) (h1:K1 = fun d8 forks9 i10 t11=>K (.exit 0) (Zty code2 d8 forks9 i10 t11)) (n:Nat) (d3:Int) (forks4:Int) (i5:Int):Za5 N code2 K0 K1 n d3 forks4 i5 = LM Zk2 N 0 100006 n (Zv2 code2 d3 forks4 i5) K:=by
  subst h0 h1
  induction n generalizing d3 forks4 i5 with
  | zero=>kernel_rfl
  | succ n ih=>rw [Za5]; simp (disch:=exact id (by kernel_rfl)) only [ih]; kernel_rfl
theorem Zqu:Wc Tryz.prog 125:=Wb Tryz.func125 (show Wg Tryz.f125 = true by kernel_rfl)
theorem Z2r (N:Nat) (code1:List Ka):DN Zk2 N (code1,()) = Zd3 N code1:=by
  have h:Zd3 N code1 = Zd3 N code1:=rfl
  conv at h=>rhs; rw [Zd3]
  simp (disch:=exact id (by kernel_rfl)) only [Zv3 (R:=Unit × Kg) N (CF Zk2 N [1,1,1,1,0,1,0])] at h
  exact Eq.trans (by kernel_rfl) h.symm
theorem Zqv (N:Nat):Good Tryz.prog 125 (Zk1 N):=GF Zk2 N Tryz.func125 (Wa (Zvf N) Zve (Wa (Z2q N) Z2o We)) (by kernel_rfl) (fun d=>Z2r N d.1)
def Zjn (N:Nat):Sig:=Sig.of [.v Jc false] [.v Jp false] (fun d=>Zc4 N d.1)
def Zjo:Fn:=⟨Tryz.f126,fun | 2=>[.canon [0,3,7]] | 3=>[.canon [0,3]] | 4=>[.canon [0,3,15]] | 5=>[.canon [2]] | 100002=>[.canon [0,3]] | _=>[],Zjn,Wcj⟩
def Ztz (code2:List Ka) (i3:Int):St:=⟨[(0,vV Jc code2),(3,vI i3)],[],0⟩
def Zr1 (code2:List Ka):St:=⟨[(2,vB true)],[],0⟩
def Zr2 (code2:List Ka) (i4:Int) (t5:Bool):St:=⟨[(0,vV Jc code2),(3,vI i4),(7,vB t5)],[],0⟩
theorem Zt0 (N:Nat) {R:Type} (K:Ex → St → Option R) {code2:List Ka} {K0:Option R} {K1:Int → Bool → Option R} (h0:K0 = K .ret (Zr1 code2)) (h1:K1 = fun i4 t5=>K (.exit 0) (Zr2 code2 i4 t5)) (n:Nat) (i3:Int):Zcu N code2 K0 K1 n i3 = LM Zjo N 0 100002 n (Ztz code2 i3) K:=by
  subst h0 h1
  induction n generalizing i3 with
  | zero=>kernel_rfl
  | succ n ih=>rw [Zcu]; simp (disch:=exact id (by kernel_rfl)) only [ih]; kernel_rfl
theorem Zpx:Wc Tryz.prog 126:=Wb Tryz.func126 (show Wg Tryz.f126 = true by kernel_rfl)
theorem Z0h (N:Nat) (code1:List Ka):DN Zjo N (code1,()) = Zc4 N code1:=by
  have h:Zc4 N code1 = Zc4 N code1:=rfl
  conv at h=>rhs; rw [Zc4]
  simp (disch:=exact id (by kernel_rfl)) only [Zt0 (R:=Unit × Kg) N (CF Zjo N [1,0,1,0])] at h
  exact Eq.trans (by kernel_rfl) h.symm
theorem Zpy (N:Nat):Good Tryz.prog 126 (Zjn N):=GF Zjo N Tryz.func126 We (by kernel_rfl) (fun d=>Z0h N d.1)
def Zm4 (N:Nat):Sig:=Sig.of [.v Jx true] [.v Ja false] (fun d=>Zb9 N d.1)
def Z0i:Fn:=⟨Tryz.f127,Wy,Zm4,fun N=>[(180,Zmu N)]⟩
theorem Z0j:Wc Tryz.prog 127:=Wb Tryz.func127 (show Wg Tryz.f127 = true by kernel_rfl)
theorem Z0k (N:Nat):Good Tryz.prog 127 (Zm4 N):=GF Z0i N Tryz.func127 (Wa (Zvf N) Zve We) (by kernel_rfl) (fun d=>by kernel_rfl)
def Zoo (N:Nat):Sig:=Sig.of [.v Jc false] [.v Jp false] (fun d=>Zfh N d.1)
def Zl0:Fn:=⟨Tryz.f62,fun | 4=>[.canon [0,3,14]] | 5=>[.canon [0,3]] | 6=>[.canon [0,3,22]] | 7=>[.canon [2]] | 100004=>[.canon [0,3]] | _=>[],Zoo,fun N=>[(125,Zk1 N),(126,Zjn N),(127,Zm4 N)]⟩
def Zxv (code4:List Ka) (i5:Int):St:=⟨[(0,vV Jc code4),(3,vI i5)],[],0⟩
def Zv4 (code4:List Ka):St:=⟨[(2,vB false)],[],0⟩
def Zv5 (code4:List Ka) (i7:Int) (t8:Bool):St:=⟨[(0,vV Jc code4),(3,vI i7),(14,vB t8)],[],0⟩
theorem Zxw (N:Nat) {R:Type} (K:Ex → St → Option R) {code4:List Ka} {K0:Option R} {K1:Int → Bool → Option R} (h0:K0 = K .ret (Zv4 code4)) (h1:K1 = fun i7 t8=>K (.exit 0) (Zv5 code4 i7 t8)) (n:Nat) (i5:Int):Zeg N code4 K0 K1 n i5 = LM Zl0 N 0 100004 n (Zxv code4 i5) K:=by
  subst h0 h1
  induction n generalizing i5 with
  | zero=>kernel_rfl
  | succ n ih=>rw [Zeg]; simp (disch:=exact id (by kernel_rfl)) only [ih]; kernel_rfl
theorem Z3v:Wc Tryz.prog 62:=Wb Tryz.func62 (show Wg Tryz.f62 = true by kernel_rfl)
theorem Z3w (N:Nat) (code1:List Ka):DN Zl0 N (code1,()) = Zfh N code1:=by
  have h:Zfh N code1 = Zfh N code1:=rfl
  conv at h=>rhs; rw [Zfh]
  simp (disch:=exact id (by kernel_rfl)) only [Zxw (R:=Unit × Kg) N (CF Zl0 N [1,1,0,1,0])] at h
  exact Eq.trans (by kernel_rfl) h.symm
theorem Z3x (N:Nat):Good Tryz.prog 62 (Zoo N):=GF Zl0 N Tryz.func62 (Wa (Zqv N) Zqu (Wa (Zpy N) Zpx (Wa (Z0k N) Z0j We))) (by kernel_rfl) (fun d=>Z3w N d.1)
def Zn0 (N:Nat):Sig:=Sig.of [.v Jn true] [.v Jp false] (fun d=>Zd6 N d.1)
def Zk3:Fn:=⟨Tryz.f106,fun | 4=>[.canon [1,3,28]] | 5=>[.canon [1,3]] | 6=>[.canon [1,3,38]] | 7=>[.canon [2]] | 100004=>[.canon [1,3]] | _=>[],Zn0,fun N=>[(125,Zk1 N),(126,Zjn N),(62,Zoo N)]⟩
def Zv6 (i4:Int) (b5:List Ka × List Ko):St:=⟨[(1,vP 0 0),(3,vI i4)],[(0,.box [.val Jc b5.1,.val (.slice Jc) b5.2])],1⟩
def Zt1 (b5:List Ka × List Ko):St:=⟨[(2,vB false)],[],0⟩
def Zt2 (b5:List Ka × List Ko) (i7:Int) (t8:Bool):St:=⟨[(1,vP 0 0),(3,vI i7),(28,vB t8)],[(0,.box [.val Jc b5.1,.val (.slice Jc) b5.2])],1⟩
theorem Zv7 (N:Nat) {R:Type} (K:Ex → St → Option R) {b5:List Ka × List Ko} {K0:Option R} {K1:Int → Bool → Option R} (h0:K0 = K .ret (Zt1 b5)) (h1:K1 = fun i7 t8=>K (.exit 0) (Zt2 b5 i7 t8)) (n:Nat) (i4:Int):Zcf N b5 K0 K1 n i4 = LM Zk3 N 0 100004 n (Zv6 i4 b5) K:=by
  subst h0 h1
  induction n generalizing i4 with
  | zero=>kernel_rfl
  | succ n ih=>rw [Zcf]; simp (disch:=exact id (by kernel_rfl)) only [ih]; kernel_rfl
theorem Z2s:Wc Tryz.prog 106:=Wb Tryz.func106 (show Wg Tryz.f106 = true by kernel_rfl)
theorem Z2t (N:Nat) (p1:List Ka × List Ko):DN Zk3 N (p1,()) = Zd6 N p1:=by
  have h:Zd6 N p1 = Zd6 N p1:=rfl
  conv at h=>rhs; rw [Zd6]
  simp (disch:=exact id (by kernel_rfl)) only [Zv7 (R:=Unit × Kg) N (CF Zk3 N [1,1,0,1,0])] at h
  exact Eq.trans (by kernel_rfl) h.symm
theorem Z2u (N:Nat):Good Tryz.prog 106 (Zn0 N):=GF Zk3 N Tryz.func106 (Wa (Zqv N) Zqu (Wa (Zpy N) Zpx (Wa (Z3x N) Z3v We))) (by kernel_rfl) (fun d=>Z2t N d.1)
def Zme (N:Nat):Sig:=Sig.of [.v Jah true] [.v Jp false] (fun d=>Zdl N d.1)
def Ziu:Fn:=⟨Tryz.f35,fun | 4=>[.canon [1,3,24]] | 5=>[.canon [1,3]] | 6=>[.canon [1,3,33]] | 7=>[.canon [2]] | 100004=>[.canon [1,3]] | _=>[],Zme,fun N=>[(105,Zmd N),(106,Zn0 N)]⟩
def Zr3 (i3:Int) (b4:Ke × List Kk × List Kb):St:=⟨[(1,vP 0 0),(3,vI i3)],[(0,.box [.val Jj b4.1.1,.val Jj b4.1.2.1,.val Ja b4.1.2.2,.val Jz b4.2.1,.val Je b4.2.2])],1⟩
def Zq7 (b4:Ke × List Kk × List Kb):St:=⟨[(2,vB false)],[],0⟩
def Zq8 (b4:Ke × List Kk × List Kb) (i6:Int) (t7:Bool):St:=⟨[(1,vP 0 0),(3,vI i6),(24,vB t7)],[(0,.box [.val Jj b4.1.1,.val Jj b4.1.2.1,.val Ja b4.1.2.2,.val Jz b4.2.1,.val Je b4.2.2])],1⟩
theorem Zr4 (N:Nat) {R:Type} (K:Ex → St → Option R) {b4:Ke × List Kk × List Kb} {K0:Option R} {K1:Int → Bool → Option R} (h0:K0 = K .ret (Zq7 b4)) (h1:K1 = fun i6 t7=>K (.exit 0) (Zq8 b4 i6 t7)) (n:Nat) (i3:Int):Zbr N b4 K0 K1 n i3 = LM Ziu N 0 100004 n (Zr3 i3 b4) K:=by
  subst h0 h1
  induction n generalizing i3 with
  | zero=>kernel_rfl
  | succ n ih=>rw [Zbr]; simp (disch:=exact id (by kernel_rfl)) only [ih]; kernel_rfl
theorem Zzd:Wc Tryz.prog 35:=Wb Tryz.func35 (show Wg Tryz.f35 = true by kernel_rfl)
theorem Zze (N:Nat) (s1:Ke × List Kk × List Kb):DN Ziu N (s1,()) = Zdl N s1:=by
  have h:Zdl N s1 = Zdl N s1:=rfl
  conv at h=>rhs; rw [Zdl]
  simp (disch:=exact id (by kernel_rfl)) only [Zr4 (R:=Unit × Kg) N (CF Ziu N [1,1,0,1,0])] at h
  exact Eq.trans (by kernel_rfl) h.symm
theorem Zzf (N:Nat):Good Tryz.prog 35 (Zme N):=GF Ziu N Tryz.func35 (Wa (Zzc N) Zza (Wa (Z2u N) Z2s We)) (by kernel_rfl) (fun d=>Zze N d.1)
def Zq9 (N:Nat):Sig:=Sig.of [.v Jo false,.v Ja false] [.v Ja false] (fun d=>Zov N d.1 d.2.1)
def Z4t:Fn:=⟨Tryz.f39,Wy,Zq9,Wcj⟩
theorem Z4u:Wc Tryz.prog 39:=Wb Tryz.func39 (show Wg Tryz.f39 = true by kernel_rfl)
theorem Z4v (N:Nat):Good Tryz.prog 39 (Zq9 N):=GF Z4t N Tryz.func39 We (by kernel_rfl) (fun d=>by kernel_rfl)
def Z1 (N:Nat):Sig:=Sig.of [.v Ja false,.v Ja false,.v Ja false] [.v Jp false] (fun d=>Zq N d.1 d.2.1 d.2.2.1)
def Z2v:Fn:=⟨Tryz.f55,Wy,Z1,Wcj⟩
theorem Zaa:Wc Tryz.prog 55:=Wb Tryz.func55 (show Wg Tryz.f55 = true by kernel_rfl)
theorem Zab (N:Nat):Good Tryz.prog 55 (Z1 N):=GF Z2v N Tryz.func55 We (by kernel_rfl) (fun d=>by kernel_rfl)
def Za2 (N:Nat):Sig:=Sig.of [.v Ja false] [.v Jp false] (fun d=>Zaw N d.1)
def Z0l:Fn:=⟨Tryz.f130,Wy,Za2,fun N=>[(55,Z1 N)]⟩
theorem Zbn:Wc Tryz.prog 130:=Wb Tryz.func130 (show Wg Tryz.f130 = true by kernel_rfl)
theorem Zbo (N:Nat):Good Tryz.prog 130 (Za2 N):=GF Z0l N Tryz.func130 (Wa (Zab N) Zaa We) (by kernel_rfl) (fun d=>by kernel_rfl)
def Zc0 (N:Nat):Sig:=Sig.of [.v Jj false,.v Ja false] [.v Jp false] (fun d=>Z9 N d.1 d.2.1)
def Zif:Fn:=⟨Tryz.f71,fun | 2=>[.canon [0,1,7,8,9,10]] | 3=>[.canon [0,1,6,7,8,9]] | 4=>[.canon [0,1,7,8,9,15]] | 5=>[.canon [4]] | 6=>[.canon [0,1,7,8,9]] | 100002=>[.canon [0,1,7,8,9]] | _=>[],Zc0,fun N=>[(130,Za2 N)]⟩
def Zra (l3:List Int) (n4:Int) (t7:Int):St:=⟨[(0,vV Jj l3),(1,vI n4),(7,vV Jj l3),(8,vI (ilen l3)),(9,vI t7)],[],0⟩
def Zqc (l3:List Int) (n4:Int):St:=⟨[(4,vB false)],[],0⟩
def Zqd (l3:List Int) (n4:Int) (t10:Int) (t11:Bool):St:=⟨[(0,vV Jj l3),(1,vI n4),(7,vV Jj l3),(8,vI (ilen l3)),(9,vI t10),(10,vB t11)],[],0⟩
theorem Zrb (N:Nat) {R:Type} (K:Ex → St → Option R) {l3:List Int} {n4:Int} {K0:Option R} {K1:Int → Bool → Option R} (h0:K0 = K .ret (Zqc l3 n4)) (h1:K1 = fun t10 t11=>K (.exit 0) (Zqd l3 n4 t10 t11)) (n:Nat) (t7:Int):Zaz N l3 n4 K0 K1 n t7 = LM Zif N 0 100002 n (Zra l3 n4 t7) K:=by
  subst h0 h1
  induction n generalizing t7 with
  | zero=>kernel_rfl
  | succ n ih=>rw [Zaz]; simp (disch:=exact id (by kernel_rfl)) only [ih]; kernel_rfl
theorem Zgu:Wc Tryz.prog 71:=Wb Tryz.func71 (show Wg Tryz.f71 = true by kernel_rfl)
theorem Zxx (N:Nat) (l1:List Int) (n2:Int):DN Zif N (l1,n2,()) = Z9 N l1 n2:=by
  have h:Z9 N l1 n2 = Z9 N l1 n2:=rfl
  conv at h=>rhs; rw [Z9]
  simp (disch:=exact id (by kernel_rfl)) only [Zrb (R:=Unit × Kg) N (CF Zif N [1,0,1,0])] at h
  exact Eq.trans (by kernel_rfl) h.symm
theorem Zgv (N:Nat):Good Tryz.prog 71 (Zc0 N):=GF Zif N Tryz.func71 (Wa (Zbo N) Zbn We) (by kernel_rfl) (fun d=>Zxx N d.1 d.2.1)
def Zl1 (N:Nat):Sig:=Sig.of [.v Jj false] [.v Jp false] (fun d=>Zfl N d.1)
def Zl2:Fn:=⟨Tryz.f156,fun | 2=>[.canon [0,5,6,7,8]] | 3=>[.canon [0,4,5,6,7]] | 4=>[.canon [0,5,6,7,13]] | 5=>[.canon [2]] | 6=>[.canon [0,5,6,7]] | 100002=>[.canon [0,5,6,7]] | _=>[],Zl1,fun N=>[(55,Z1 N)]⟩
def Zxy (l2:List Int) (t5:Int):St:=⟨[(0,vV Jj l2),(5,vV Jj l2),(6,vI (ilen l2)),(7,vI t5)],[],0⟩
def Zv8 (l2:List Int):St:=⟨[(2,vB false)],[],0⟩
def Zv9 (l2:List Int) (t8:Int) (t9:Bool):St:=⟨[(0,vV Jj l2),(5,vV Jj l2),(6,vI (ilen l2)),(7,vI t8),(8,vB t9)],[],0⟩
theorem Zxz (N:Nat) {R:Type} (K:Ex → St → Option R) {l2:List Int} {K0:Option R} {K1:Int → Bool → Option R} (h0:K0 = K .ret (Zv8 l2)) (h1:K1 = fun t8 t9=>K (.exit 0) (Zv9 l2 t8 t9)) (n:Nat) (t5:Int):Zel N l2 K0 K1 n t5 = LM Zl2 N 0 100002 n (Zxy l2 t5) K:=by
  subst h0 h1
  induction n generalizing t5 with
  | zero=>kernel_rfl
  | succ n ih=>rw [Zel]; simp (disch:=exact id (by kernel_rfl)) only [ih]; kernel_rfl
theorem Zr5:Wc Tryz.prog 156:=Wb Tryz.func156 (show Wg Tryz.f156 = true by kernel_rfl)
theorem Z3y (N:Nat) (l1:List Int):DN Zl2 N (l1,()) = Zfl N l1:=by
  have h:Zfl N l1 = Zfl N l1:=rfl
  conv at h=>rhs; rw [Zfl]
  simp (disch:=exact id (by kernel_rfl)) only [Zxz (R:=Unit × Kg) N (CF Zl2 N [1,0,1,0])] at h
  exact Eq.trans (by kernel_rfl) h.symm
theorem Zr6 (N:Nat):Good Tryz.prog 156 (Zl1 N):=GF Zl2 N Tryz.func156 (Wa (Zab N) Zaa We) (by kernel_rfl) (fun d=>Z3y N d.1)
def Zmf (N:Nat):Sig:=Sig.of [.v Jt true] [.v Jp false] (fun d=>Zks N d.1)
def Zzg:Fn:=⟨Tryz.f151,Wy,Zmf,fun N=>[(71,Zc0 N),(156,Zl1 N),(130,Za2 N)]⟩
theorem Zzh:Wc Tryz.prog 151:=Wb Tryz.func151 (show Wg Tryz.f151 = true by kernel_rfl)
theorem Zzi (N:Nat):Good Tryz.prog 151 (Zmf N):=GF Zzg N Tryz.func151 (Wa (Zgv N) Zgu (Wa (Zr6 N) Zr5 (Wa (Zbo N) Zbn We))) (by kernel_rfl) (fun d=>by kernel_rfl)
def Zop (N:Nat):Sig:=Sig.of [.v Ja false] [.v Jp false] (fun d=>Zv N d.1)
def Z3z:Fn:=⟨Tryz.f247,Wy,Zop,fun N=>[(55,Z1 N)]⟩
theorem Z30:Wc Tryz.prog 247:=Wb Tryz.func247 (show Wg Tryz.f247 = true by kernel_rfl)
theorem Z31 (N:Nat):Good Tryz.prog 247 (Zop N):=GF Z3z N Tryz.func247 (Wa (Zab N) Zaa We) (by kernel_rfl) (fun d=>by kernel_rfl)
def Zb2 (N:Nat):Sig:=Sig.of [.v Ja false] [.v Jp false] (fun d=>Za8 N d.1)
def Z2w:Fn:=⟨Tryz.f65,Wy,Zb2,fun N=>[(55,Z1 N)]⟩
theorem Zdq:Wc Tryz.prog 65:=Wb Tryz.func65 (show Wg Tryz.f65 = true by kernel_rfl)
theorem Zdr (N:Nat):Good Tryz.prog 65 (Zb2 N):=GF Z2w N Tryz.func65 (Wa (Zab N) Zaa We) (by kernel_rfl) (fun d=>by kernel_rfl)
def Ze1 (N:Nat):Sig:=Sig.of [.v Ja false] [.v Jp false] (fun d=>Za1 N d.1)
def Z32:Fn:=⟨Tryz.f209,Wy,Ze1,fun N=>[(55,Z1 N)]⟩
theorem Zhe:Wc Tryz.prog 209:=Wb Tryz.func209 (show Wg Tryz.f209 = true by kernel_rfl)
theorem Zhf (N:Nat):Good Tryz.prog 209 (Ze1 N):=GF Z32 N Tryz.func209 (Wa (Zab N) Zaa We) (by kernel_rfl) (fun d=>by kernel_rfl)
def Zh5 (N:Nat):Sig:=Sig.of [.v Jx true] [.v Jp false] (fun d=>Zr N d.1)
def Z4f:Fn:=⟨Tryz.f217,Wy,Zh5,fun N=>[(247,Zop N),(130,Za2 N),(65,Zb2 N),(55,Z1 N),(209,Ze1 N)]⟩
theorem Zmv:Wc Tryz.prog 217:=Wb Tryz.func217 (show Wg Tryz.f217 = true by kernel_rfl)
theorem Zmw (N:Nat):Good Tryz.prog 217 (Zh5 N):=GF Z4f N Tryz.func217 (Wa (Z31 N) Z30 (Wa (Zbo N) Zbn (Wa (Zdr N) Zdq (Wa (Zab N) Zaa (Wa (Zhf N) Zhe We))))) (by kernel_rfl) (fun d=>by kernel_rfl)
def Zjp (N:Nat):Sig:=Sig.of [.v Jx true] [.v Ja false] (fun d=>Zha N d.1)
def Z0m:Fn:=⟨Tryz.f170,Wy,Zjp,fun N=>[(217,Zh5 N)]⟩
theorem Zpz:Wc Tryz.prog 170:=Wb Tryz.func170 (show Wg Tryz.f170 = true by kernel_rfl)
theorem Zp0 (N:Nat):Good Tryz.prog 170 (Zjp N):=GF Z0m N Tryz.func170 (Wa (Zmw N) Zmv We) (by kernel_rfl) (fun d=>by kernel_rfl)
def Zi8 (N:Nat):Sig:=Sig.of [.v Jx true] [.v Ja false] (fun d=>Zi2 N d.1)
def Z33:Fn:=⟨Tryz.f248,Wy,Zi8,Wcj⟩
theorem Zoq:Wc Tryz.prog 248:=Wb Tryz.func248 (show Wg Tryz.f248 = true by kernel_rfl)
theorem Zor (N:Nat):Good Tryz.prog 248 (Zi8 N):=GF Z33 N Tryz.func248 We (by kernel_rfl) (fun d=>by kernel_rfl)
def Zkk (N:Nat):Sig:=Sig.of [.v Jc false] [.v Jp false] (fun d=>Zbt N d.1)
def Zhx:Fn:=⟨Tryz.f218,fun | 3=>[.canon [3,6,7,8,9]] | 4=>[.canon [3,5,6,7,8]] | 5=>[.canon [3,6,7,8]] | 6=>[.canon [3,6,7,8,17]] | 7=>[.canon [2]] | 8=>[.canon [3,6,7,8]] | 100003=>[.canon [3,6,7,8]] | _=>[],Zkk,fun N=>[(248,Zi8 N)]⟩
def Zqe (n2:Int) (t3:List Ka) (t5:Int):St:=⟨[(3,vI n2),(6,vV Jc t3),(7,vI (ilen t3)),(8,vI t5)],[],0⟩
def Zp1 (t3:List Ka):St:=⟨[(2,vB false)],[],0⟩
def Zp2 (t3:List Ka) (n8:Int) (t9:Int) (t10:Bool):St:=⟨[(3,vI n8),(6,vV Jc t3),(7,vI (ilen t3)),(8,vI t9),(9,vB t10)],[],0⟩
theorem Zqf (N:Nat) {R:Type} (K:Ex → St → Option R) {t3:List Ka} {K0:Option R} {K1:Int → Int → Bool → Option R} (h0:K0 = K .ret (Zp1 t3)) (h1:K1 = fun n8 t9 t10=>K (.exit 0) (Zp2 t3 n8 t9 t10)) (n:Nat) (n2:Int) (t5:Int):Zby N t3 K0 K1 n n2 t5 = LM Zhx N 0 100003 n (Zqe n2 t3 t5) K:=by
  subst h0 h1
  induction n generalizing n2 t5 with
  | zero=>kernel_rfl
  | succ n ih=>rw [Zby]; simp (disch:=exact id (by kernel_rfl)) only [ih]; kernel_rfl
theorem Zwa:Wc Tryz.prog 218:=Wb Tryz.func218 (show Wg Tryz.f218 = true by kernel_rfl)
theorem Zwb (N:Nat) (code1:List Ka):DN Zhx N (code1,()) = Zbt N code1:=by
  have h:Zbt N code1 = Zbt N code1:=rfl
  conv at h=>rhs; rw [Zbt]
  simp (disch:=exact id (by kernel_rfl)) only [Zqf (R:=Unit × Kg) N (CF Zhx N [1,1,0,1,0])] at h
  exact Eq.trans (by kernel_rfl) h.symm
theorem Zwc (N:Nat):Good Tryz.prog 218 (Zkk N):=GF Zhx N Tryz.func218 (Wa (Zor N) Zoq We) (by kernel_rfl) (fun d=>Zwb N d.1)
def Zm5 (N:Nat):Sig:=Sig.of [.v Jc false,.v Ja false] [.v Ja false] (fun d=>Zeu N d.1 d.2.1)
def Zjq:Fn:=⟨Tryz.f219,fun | 3=>[.canon [1,5,8,9,10,11]] | 4=>[.canon [1,5,6,7,8,9,10]] | 5=>[.canon [1,5,7,8,9,10,17]] | 6=>[.canon [1,5,8,9,10]] | 7=>[.canon [1,5,8,9,10]] | 100003=>[.canon [1,5,8,9,10]] | _=>[],Zm5,fun N=>[(248,Zi8 N)]⟩
def Zt3 (i3:Int) (n4:Int) (t5:List Ka) (t7:Int):St:=⟨[(1,vI i3),(5,vI n4),(8,vV Jc t5),(9,vI (ilen t5)),(10,vI t7)],[],0⟩
def Zr7 (i3:Int) (t5:List Ka) (n10:Int) (t11:Int) (t12:Bool):St:=⟨[(1,vI i3),(5,vI n10),(8,vV Jc t5),(9,vI (ilen t5)),(10,vI t11),(11,vB t12)],[],0⟩
theorem Zt4 (N:Nat) {R:Type} (K:Ex → St → Option R) {i3:Int} {t5:List Ka} {K0:Int → Int → Bool → Option R} (h0:K0 = fun n10 t11 t12=>K (.exit 0) (Zr7 i3 t5 n10 t11 t12)) (n:Nat) (n4:Int) (t7:Int):Zb3 N i3 t5 K0 n n4 t7 = LM Zjq N 0 100003 n (Zt3 i3 n4 t5 t7) K:=by
  subst h0
  induction n generalizing n4 t7 with
  | zero=>kernel_rfl
  | succ n ih=>rw [Zb3]; simp (disch:=exact id (by kernel_rfl)) only [ih]; kernel_rfl
theorem Z0n:Wc Tryz.prog 219:=Wb Tryz.func219 (show Wg Tryz.f219 = true by kernel_rfl)
theorem Z0o (N:Nat) (code1:List Ka) (i2:Int):DN Zjq N (code1,i2,()) = Zeu N code1 i2:=by
  have h:Zeu N code1 i2 = Zeu N code1 i2:=rfl
  conv at h=>rhs; rw [Zeu]
  simp (disch:=exact id (by kernel_rfl)) only [Zt4 (R:=Unit × Ki) N (CF Zjq N [1,1,0,1,0])] at h
  exact Eq.trans (by kernel_rfl) h.symm
theorem Z0p (N:Nat):Good Tryz.prog 219 (Zm5 N):=GF Zjq N Tryz.func219 (Wa (Zor N) Zoq We) (by kernel_rfl) (fun d=>Z0o N d.1 d.2.1)
def Zk4 (N:Nat):Sig:=Sig.of [.v Jc false] [.v Jp false] (fun d=>Zbw N d.1)
def Zk5:Fn:=⟨Tryz.f171,fun | 5=>[.canon [0,3,14,15,16,17]] | 6=>[.canon [0,3,4,5,14,15,16]] | 7=>[.canon [0,3,4,5,14,15,16,23]] | 8=>[.canon [2]] | 9=>[.canon [0,3,4,5,14,15,16,25]] | 10=>[.canon [0,3,4,5,14,15,16,25,26]] | 11=>[.canon [0,3,14,15,16,48]] | 12=>[.canon [2]] | 13=>[.canon [0,3,4,14,15,16,49]] | 14=>[.canon [0,3,4,14,15,16]] | 15=>[.canon [0,3,14,15,16,60]] | 16=>[.canon [2]] | 17=>[.canon [0,3,14,15,16]] | 100005=>[.canon [0,3,14,15,16]] | _=>[],Zk4,fun N=>[(218,Zkk N),(217,Zh5 N),(219,Zm5 N)]⟩
def Zwd (code3:List Ka) (forks4:Int) (t7:Int):St:=⟨[(0,vV Jc code3),(3,vI forks4),(14,vV Jc code3),(15,vI (ilen code3)),(16,vI t7)],[],0⟩
def Zt5 (code3:List Ka):St:=⟨[(2,vB false)],[],0⟩
def Zt6 (code3:List Ka) (forks14:Int) (t15:Int) (t16:Bool):St:=⟨[(0,vV Jc code3),(3,vI forks14),(14,vV Jc code3),(15,vI (ilen code3)),(16,vI t15),(17,vB t16)],[],0⟩
theorem Zwe (N:Nat) {R:Type} (K:Ex → St → Option R) {code3:List Ka} {K0:Option R} {K1:Int → Int → Bool → Option R} (h0:K0 = K .ret (Zt5 code3)) (h1:K1 = fun forks14 t15 t16=>K (.exit 0) (Zt6 code3 forks14 t15 t16)) (n:Nat) (forks4:Int) (t7:Int):Zbu N code3 K0 K1 n forks4 t7 = LM Zk5 N 0 100005 n (Zwd code3 forks4 t7) K:=by
  subst h0 h1
  induction n generalizing forks4 t7 with
  | zero=>kernel_rfl
  | succ n ih=>rw [Zbu]; simp (disch:=exact id (by kernel_rfl)) only [ih]; kernel_rfl
theorem Zqw:Wc Tryz.prog 171:=Wb Tryz.func171 (show Wg Tryz.f171 = true by kernel_rfl)
theorem Z2x (N:Nat) (code1:List Ka):DN Zk5 N (code1,()) = Zbw N code1:=by
  have h:Zbw N code1 = Zbw N code1:=rfl
  conv at h=>rhs; rw [Zbw]
  simp (disch:=exact id (by kernel_rfl)) only [Zwe (R:=Unit × Kg) N (CF Zk5 N [1,1,1,0,1,0])] at h
  exact Eq.trans (by kernel_rfl) h.symm
theorem Zqx (N:Nat):Good Tryz.prog 171 (Zk4 N):=GF Zk5 N Tryz.func171 (Wa (Zwc N) Zwa (Wa (Zmw N) Zmv (Wa (Z0p N) Z0n We))) (by kernel_rfl) (fun d=>Z2x N d.1)
def Zos (N:Nat):Sig:=Sig.of [.v Jc false] [.v Jp false] (fun d=>Zfi N d.1)
def Zl3:Fn:=⟨Tryz.f117,fun | 2=>[.canon [0,5,6,7,8]] | 3=>[.canon [0,4,5,6,7]] | 4=>[.canon [0,5,6,7,18]] | 5=>[.canon [2]] | 6=>[.canon [0,5,6,7]] | 100002=>[.canon [0,5,6,7]] | _=>[],Zos,fun N=>[(170,Zjp N),(171,Zk4 N)]⟩
def Zx0 (code2:List Ka) (t5:Int):St:=⟨[(0,vV Jc code2),(5,vV Jc code2),(6,vI (ilen code2)),(7,vI t5)],[],0⟩
def Zwf (code2:List Ka):St:=⟨[(2,vB false)],[],0⟩
def Zwg (code2:List Ka) (t8:Int) (t9:Bool):St:=⟨[(0,vV Jc code2),(5,vV Jc code2),(6,vI (ilen code2)),(7,vI t8),(8,vB t9)],[],0⟩
theorem Zx1 (N:Nat) {R:Type} (K:Ex → St → Option R) {code2:List Ka} {K0:Option R} {K1:Int → Bool → Option R} (h0:K0 = K .ret (Zwf code2)) (h1:K1 = fun t8 t9=>K (.exit 0) (Zwg code2 t8 t9)) (n:Nat) (t5:Int):Zeh N code2 K0 K1 n t5 = LM Zl3 N 0 100002 n (Zx0 code2 t5) K:=by
  subst h0 h1
  induction n generalizing t5 with
  | zero=>kernel_rfl
  | succ n ih=>rw [Zeh]; simp (disch:=exact id (by kernel_rfl)) only [ih]; kernel_rfl
theorem Z34:Wc Tryz.prog 117:=Wb Tryz.func117 (show Wg Tryz.f117 = true by kernel_rfl)
theorem Z35 (N:Nat) (code1:List Ka):DN Zl3 N (code1,()) = Zfi N code1:=by
  have h:Zfi N code1 = Zfi N code1:=rfl
  conv at h=>rhs; rw [Zfi]
  simp (disch:=exact id (by kernel_rfl)) only [Zx1 (R:=Unit × Kg) N (CF Zl3 N [1,0,1,0])] at h
  exact Eq.trans (by kernel_rfl) h.symm
theorem Z36 (N:Nat):Good Tryz.prog 117 (Zos N):=GF Zl3 N Tryz.func117 (Wa (Zp0 N) Zpz (Wa (Zqx N) Zqw We)) (by kernel_rfl) (fun d=>Z35 N d.1)
def Zlk (N:Nat):Sig:=Sig.of [.v Jx true] [.v Jp false] (fun d=>Zm1 N d.1)
def Zx2:Fn:=⟨Tryz.f232,Wy,Zlk,Wcj⟩
theorem Zx3:Wc Tryz.prog 232:=Wb Tryz.func232 (show Wg Tryz.f232 = true by kernel_rfl)
theorem Zx4 (N:Nat):Good Tryz.prog 232 (Zlk N):=GF Zx2 N Tryz.func232 We (by kernel_rfl) (fun d=>by kernel_rfl)
def Za0 (N:Nat):Sig:=Sig.of [.v Jc false,.clos 232 0] [.v Ja false] (fun d=>Zs N d.1)
def Zac:Fn:=⟨Tryz.f261,fun | 2=>[.canon [0,1,7,8,9]] | 3=>[.canon [0,1,5,7,8]] | 4=>[.canon [0,1,5,7,8,16]] | 5=>[.canon [1,4]] | 6=>[.canon [0,1,7,8]] | 100002=>[.canon [0,1,7,8]] | _=>[],Za0,fun N=>[(232,Zlk N)]⟩
def Zf2 (s2:List Ka) (t4:Int):St:=⟨[(0,vV Jc s2),(1,.s (.one (.clos 232 []))),(7,vI (ilen s2)),(8,vI t4)],[],0⟩
def Zfm (s2:List Ka) (t7:Int):St:=⟨[(1,.s (.one (.clos 232 []))),(4,vI t7)],[],0⟩
def Zfn (s2:List Ka) (t8:Int) (t9:Bool):St:=⟨[(0,vV Jc s2),(1,.s (.one (.clos 232 []))),(7,vI (ilen s2)),(8,vI t8),(9,vB t9)],[],0⟩
theorem Zf3 (N:Nat) {R:Type} (K:Ex → St → Option R) {s2:List Ka} {K0:Int → Option R} {K1:Int → Bool → Option R} (h0:K0 = fun t7=>K .ret (Zfm s2 t7)) (h1:K1 = fun t8 t9=>K (.exit 0) (Zfn s2 t8 t9)) (n:Nat) (t4:Int):Zp N s2 K0 K1 n t4 = LM Zac N 0 100002 n (Zf2 s2 t4) K:=by
  subst h0 h1
  induction n generalizing t4 with
  | zero=>kernel_rfl
  | succ n ih=>rw [Zp]; simp (disch:=exact id (by kernel_rfl)) only [ih]; kernel_rfl
theorem Zgl:Wc Tryz.prog 261:=Wb Tryz.func261 (show Wg Tryz.f261 = true by kernel_rfl)
theorem Zgm (N:Nat) (s1:List Ka):DN Zac N (s1,()) = Zs N s1:=by
  have h:Zs N s1 = Zs N s1:=rfl
  conv at h=>rhs; rw [Zs]
  simp (disch:=exact id (by kernel_rfl)) only [Zf3 (R:=Unit × Ki) N (CF Zac N [1,0,1,0])] at h
  exact Eq.trans (by kernel_rfl) h.symm
theorem Zgn (N:Nat):Good Tryz.prog 261 (Za0 N):=GF Zac N Tryz.func261 (Wa (Zx4 N) Zx3 We) (by kernel_rfl) (fun d=>Zgm N d.1)
def Zat (N:Nat):Sig:=Sig.of [.v Jc false,.clos 232 0] [.v Jp false] (fun d=>Zax N d.1)
def Zga:Fn:=⟨Tryz.f231,Wy,Zat,fun N=>[(261,Za0 N)]⟩
theorem Zgb:Wc Tryz.prog 231:=Wb Tryz.func231 (show Wg Tryz.f231 = true by kernel_rfl)
theorem Zgc (N:Nat):Good Tryz.prog 231 (Zat N):=GF Zga N Tryz.func231 (Wa (Zgn N) Zgl We) (by kernel_rfl) (fun d=>by kernel_rfl)
def Zm6 (N:Nat):Sig:=Sig.of [.v Jc false] [.v Jp false] (fun d=>Zhb N d.1)
def Z0q:Fn:=⟨Tryz.f197,Wy,Zm6,fun N=>[(231,Zat N)]⟩
theorem Z0r:Wc Tryz.prog 197:=Wb Tryz.func197 (show Wg Tryz.f197 = true by kernel_rfl)
theorem Z0s (N:Nat):Good Tryz.prog 197 (Zm6 N):=GF Z0q N Tryz.func197 (Wa (Zgc N) Zgb We) (by kernel_rfl) (fun d=>by kernel_rfl)
def Zn1 (N:Nat):Sig:=Sig.of [.v Jn true] [.v Jp false] (fun d=>Zf8 N d.1)
def Zk6:Fn:=⟨Tryz.f154,fun | 2=>[.canon [1,6,7,8,9]] | 3=>[.canon [1,4,6,7,8]] | 4=>[.canon [1,6,7,8,15]] | 5=>[.canon [2]] | 6=>[.canon [1,6,7,8]] | 100002=>[.canon [1,6,7,8]] | _=>[],Zn1,fun N=>[(117,Zos N),(171,Zk4 N),(197,Zm6 N)]⟩
def Zwh (t2:List Ko) (t4:Int) (b5:List Ka × List Ko):St:=⟨[(1,vP 0 0),(6,vV (.slice Jc) t2),(7,vI (ilen b5.2)),(8,vI t4)],[(0,.box [.val Jc b5.1,.val (.slice Jc) b5.2])],1⟩
def Zt7 (t2:List Ko) (b5:List Ka × List Ko):St:=⟨[(2,vB false)],[],0⟩
def Zt8 (t2:List Ko) (b5:List Ka × List Ko) (t8:Int) (t9:Bool):St:=⟨[(1,vP 0 0),(6,vV (.slice Jc) t2),(7,vI (ilen b5.2)),(8,vI t8),(9,vB t9)],[(0,.box [.val Jc b5.1,.val (.slice Jc) b5.2])],1⟩
theorem Zwi (N:Nat) {R:Type} (K:Ex → St → Option R) {t2:List Ko} {b5:List Ka × List Ko} {K0:Option R} {K1:Int → Bool → Option R} (h0:K0 = K .ret (Zt7 t2 b5)) (h1:K1 = fun t8 t9=>K (.exit 0) (Zt8 t2 b5 t8 t9)) (n:Nat) (t4:Int):Zdf N t2 b5 K0 K1 n t4 = LM Zk6 N 0 100002 n (Zwh t2 t4 b5) K:=by
  subst h0 h1
  induction n generalizing t4 with
  | zero=>kernel_rfl
  | succ n ih=>rw [Zdf]; simp (disch:=exact id (by kernel_rfl)) only [ih]; kernel_rfl
theorem Z2y:Wc Tryz.prog 154:=Wb Tryz.func154 (show Wg Tryz.f154 = true by kernel_rfl)
theorem Z2z (N:Nat) (p1:List Ka × List Ko):DN Zk6 N (p1,()) = Zf8 N p1:=by
  have h:Zf8 N p1 = Zf8 N p1:=rfl
  conv at h=>rhs; rw [Zf8]
  simp (disch:=exact id (by kernel_rfl)) only [Zwi (R:=Unit × Kg) N (CF Zk6 N [1,0,1,0])] at h
  exact Eq.trans (by kernel_rfl) h.symm
theorem Z20 (N:Nat):Good Tryz.prog 154 (Zn1 N):=GF Zk6 N Tryz.func154 (Wa (Z36 N) Z34 (Wa (Zqx N) Zqw (Wa (Z0s N) Z0r We))) (by kernel_rfl) (fun d=>Z2z N d.1)
def Zkl (N:Nat):Sig:=Sig.of [.v Jn true] [.v Jp false] (fun d=>Zio N d.1)
def Zwj:Fn:=⟨Tryz.f153,Wy,Zkl,fun N=>[(154,Zn1 N)]⟩
theorem Zwk:Wc Tryz.prog 153:=Wb Tryz.func153 (show Wg Tryz.f153 = true by kernel_rfl)
theorem Zwl (N:Nat):Good Tryz.prog 153 (Zkl N):=GF Zwj N Tryz.func153 (Wa (Z20 N) Z2y We) (by kernel_rfl) (fun d=>by kernel_rfl)
def Zap (N:Nat):Sig:=Sig.of [.v Jz false,.clos 153 0] [.v Ja false] (fun d=>Zn N d.1)
def Z7:Fn:=⟨Tryz.f196,fun | 2=>[.canon [0,1,7,8,9]] | 3=>[.canon [0,1,5,7,8]] | 4=>[.canon [0,1,5,7,8,16]] | 5=>[.canon [1,4]] | 6=>[.canon [0,1,7,8]] | 100002=>[.canon [0,1,7,8]] | _=>[],Zap,fun N=>[(153,Zkl N)]⟩
def Zeo (s2:List Kk) (t4:Int):St:=⟨[(0,vV Jz s2),(1,.s (.one (.clos 153 []))),(7,vI (ilen s2)),(8,vI t4)],[],0⟩
def Zd7 (s2:List Kk) (t7:Int):St:=⟨[(1,.s (.one (.clos 153 []))),(4,vI t7)],[],0⟩
def Zd8 (s2:List Kk) (t8:Int) (t9:Bool):St:=⟨[(0,vV Jz s2),(1,.s (.one (.clos 153 []))),(7,vI (ilen s2)),(8,vI t8),(9,vB t9)],[],0⟩
theorem Zep (N:Nat) {R:Type} (K:Ex → St → Option R) {s2:List Kk} {K0:Int → Option R} {K1:Int → Bool → Option R} (h0:K0 = fun t7=>K .ret (Zd7 s2 t7)) (h1:K1 = fun t8 t9=>K (.exit 0) (Zd8 s2 t8 t9)) (n:Nat) (t4:Int):Zf N s2 K0 K1 n t4 = LM Z7 N 0 100002 n (Zeo s2 t4) K:=by
  subst h0 h1
  induction n generalizing t4 with
  | zero=>kernel_rfl
  | succ n ih=>rw [Zf]; simp (disch:=exact id (by kernel_rfl)) only [ih]; kernel_rfl
theorem Zfo:Wc Tryz.prog 196:=Wb Tryz.func196 (show Wg Tryz.f196 = true by kernel_rfl)
theorem Zfp (N:Nat) (s1:List Kk):DN Z7 N (s1,()) = Zn N s1:=by
  have h:Zn N s1 = Zn N s1:=rfl
  conv at h=>rhs; rw [Zn]
  simp (disch:=exact id (by kernel_rfl)) only [Zep (R:=Unit × Ki) N (CF Z7 N [1,0,1,0])] at h
  exact Eq.trans (by kernel_rfl) h.symm
theorem Zfq (N:Nat):Good Tryz.prog 196 (Zap N):=GF Z7 N Tryz.func196 (Wa (Zwl N) Zwk We) (by kernel_rfl) (fun d=>Zfp N d.1)
def Zal (N:Nat):Sig:=Sig.of [.v Jz false,.clos 153 0] [.v Jp false] (fun d=>Zan N d.1)
def Ze2:Fn:=⟨Tryz.f152,Wy,Zal,fun N=>[(196,Zap N)]⟩
theorem Ze3:Wc Tryz.prog 152:=Wb Tryz.func152 (show Wg Tryz.f152 = true by kernel_rfl)
theorem Ze4 (N:Nat):Good Tryz.prog 152 (Zal N):=GF Ze2 N Tryz.func152 (Wa (Zfq N) Zfo We) (by kernel_rfl) (fun d=>by kernel_rfl)
def Zmg (N:Nat):Sig:=Sig.of [.v Jah true] [.v Jp false] (fun d=>Zkt N d.1)
def Zzj:Fn:=⟨Tryz.f103,Wy,Zmg,fun N=>[(151,Zmf N),(152,Zal N)]⟩
theorem Zzk:Wc Tryz.prog 103:=Wb Tryz.func103 (show Wg Tryz.f103 = true by kernel_rfl)
theorem Zzl (N:Nat):Good Tryz.prog 103 (Zmg N):=GF Zzj N Tryz.func103 (Wa (Zzi N) Zzh (Wa (Ze4 N) Ze3 We)) (by kernel_rfl) (fun d=>by kernel_rfl)
def Zm7 (N:Nat):Sig:=Sig.of [] [.v Jac false] (fun d=>Zoi N)
def Z0t:Fn:=⟨Tryz.f157,Wy,Zm7,Wcj⟩
theorem Z0u:Wc Tryz.prog 157:=Wb Tryz.func157 (show Wg Tryz.f157 = true by kernel_rfl)
theorem Z0v (N:Nat):Good Tryz.prog 157 (Zm7 N):=GF Z0t N Tryz.func157 We (by kernel_rfl) (fun d=>by kernel_rfl)
def Z4 (N:Nat):Sig:=Sig.of [.v Jj false] [.v Jac false] (fun d=>Zx N d.1)
def Zzm:Fn:=⟨Tryz.f72,Wy,Z4,Wcj⟩
theorem Zaf:Wc Tryz.prog 72:=Wb Tryz.func72 (show Wg Tryz.f72 = true by kernel_rfl)
theorem Zag (N:Nat):Good Tryz.prog 72 (Z4 N):=GF Zzm N Tryz.func72 We (by kernel_rfl) (fun d=>by kernel_rfl)
def Zk7 (N:Nat):Sig:=Sig.of [.v Ja false,.v Ja false] [.v Ja false] (fun d=>Zh3 N d.1 d.2.1)
def Z21:Fn:=⟨Tryz.f212,Wy,Zk7,Wcj⟩
theorem Zqy:Wc Tryz.prog 212:=Wb Tryz.func212 (show Wg Tryz.f212 = true by kernel_rfl)
theorem Zqz (N:Nat):Good Tryz.prog 212 (Zk7 N):=GF Z21 N Tryz.func212 We (by kernel_rfl) (fun d=>by kernel_rfl)
def Zl4 (N:Nat):Sig:=Sig.of [.v Ja false] [.v Ja false] (fun d=>Zhj N d.1)
def Z37:Fn:=⟨Tryz.f244,Wy,Zl4,Wcj⟩
theorem Zr8:Wc Tryz.prog 244:=Wb Tryz.func244 (show Wg Tryz.f244 = true by kernel_rfl)
theorem Zr9 (N:Nat):Good Tryz.prog 244 (Zl4 N):=GF Z37 N Tryz.func244 We (by kernel_rfl) (fun d=>by kernel_rfl)
def Ziv (N:Nat):Sig:=Sig.of [.v Ja false] [.v Ja false] (fun d=>Zh9 N d.1)
def Zzn:Fn:=⟨Tryz.f213,Wy,Ziv,fun N=>[(209,Ze1 N)]⟩
theorem Zph:Wc Tryz.prog 213:=Wb Tryz.func213 (show Wg Tryz.f213 = true by kernel_rfl)
theorem Zpi (N:Nat):Good Tryz.prog 213 (Ziv N):=GF Zzn N Tryz.func213 (Wa (Zhf N) Zhe We) (by kernel_rfl) (fun d=>by kernel_rfl)
def Zgj (N:Nat):Sig:=Sig.of [.v Jj false] [.v Jp false] (fun d=>Zb0 N d.1)
def Zjr:Fn:=⟨Tryz.f208,fun | 5=>[.canon [3,9,10,11,12]] | 6=>[.canon [3,4,5,9,10,11]] | 7=>[.canon [3,4,5,9,10,11,17]] | 8=>[.canon [3,5,9,10,11,35]] | 9=>[.canon [2]] | 10=>[.canon [3,9,10,11]] | 11=>[.canon [3,9,10,11]] | 100005=>[.canon [3,9,10,11]] | _=>[],Zgj,fun N=>[(212,Zk7 N),(55,Z1 N),(244,Zl4 N),(213,Ziv N)]⟩
def Zt9 (t2:List Int) (t4:Int) (l5:List Bool):St:=⟨[(3,.s (.one (.aptr 0))),(9,vV Jj t2),(10,vI (ilen t2)),(11,vI t4)],[(0,.arr Jp l5)],1⟩
def Zsa (t2:List Int):St:=⟨[(2,vB false)],[],0⟩
def Zsb (t2:List Int) (t18:Int) (t19:Bool) (l20:List Bool):St:=⟨[(3,.s (.one (.aptr 0))),(9,vV Jj t2),(10,vI (ilen t2)),(11,vI t18),(12,vB t19)],[(0,.arr Jp l20)],1⟩
theorem Zua (N:Nat) {R:Type} (K:Ex → St → Option R) {t2:List Int} {K0:Option R} {K1:Int → Bool → (List Bool) → Option R} (h0:K0 = K .ret (Zsa t2)) (h1:K1 = fun t18 t19 l20=>K (.exit 0) (Zsb t2 t18 t19 l20)) (n:Nat) (t4:Int) (l5:List Bool):Zb4 N t2 K0 K1 n t4 l5 = LM Zjr N 0 100005 n (Zt9 t2 t4 l5) K:=by
  subst h0 h1
  induction n generalizing t4 l5 with
  | zero=>kernel_rfl
  | succ n ih=>rw [Zb4]; simp (disch:=exact id (by kernel_rfl)) only [ih]; kernel_rfl
theorem Zjs:Wc Tryz.prog 208:=Wb Tryz.func208 (show Wg Tryz.f208 = true by kernel_rfl)
theorem Z0w (N:Nat) (l1:List Int):DN Zjr N (l1,()) = Zb0 N l1:=by
  have h:Zb0 N l1 = Zb0 N l1:=rfl
  conv at h=>rhs; rw [Zb0]
  simp (disch:=exact id (by kernel_rfl)) only [Zua (R:=Unit × Kg) N (CF Zjr N [1,1,1,0,1,0])] at h
  exact Eq.trans (by kernel_rfl) h.symm
theorem Zjt (N:Nat):Good Tryz.prog 208 (Zgj N):=GF Zjr N Tryz.func208 (Wa (Zqz N) Zqy (Wa (Zab N) Zaa (Wa (Zr9 N) Zr8 (Wa (Zpi N) Zph We)))) (by kernel_rfl) (fun d=>Z0w N d.1)
def Zkg (N:Nat):Sig:=Sig.of [.v Jj false,.v Ja false] [.v Ja false] (fun d=>Zdv N d.1 d.2.1)
def Zmx:Fn:=⟨Tryz.f210,fun | 2=>[.canon [1,7,8,9,10]] | 3=>[.canon [1,5,6,7,8,9]] | 4=>[.canon [1,5,7,8,9,21]] | 5=>[.canon [4]] | 6=>[.canon [1,7,8,9]] | 100002=>[.canon [1,7,8,9]] | _=>[],Zkg,fun N=>[(244,Zl4 N)]⟩
def Zzo (key3:Int) (t4:List Int) (t6:Int):St:=⟨[(1,vI key3),(7,vV Jj t4),(8,vI (ilen t4)),(9,vI t6)],[],0⟩
def Zx5 (key3:Int) (t4:List Int) (t9:Int):St:=⟨[(4,vI t9)],[],0⟩
def Zx6 (key3:Int) (t4:List Int) (t10:Int) (t11:Bool):St:=⟨[(1,vI key3),(7,vV Jj t4),(8,vI (ilen t4)),(9,vI t10),(10,vB t11)],[],0⟩
theorem Zzp (N:Nat) {R:Type} (K:Ex → St → Option R) {key3:Int} {t4:List Int} {K0:Int → Option R} {K1:Int → Bool → Option R} (h0:K0 = fun t9=>K .ret (Zx5 key3 t4 t9)) (h1:K1 = fun t10 t11=>K (.exit 0) (Zx6 key3 t4 t10 t11)) (n:Nat) (t6:Int):Zdm N key3 t4 K0 K1 n t6 = LM Zmx N 0 100002 n (Zzo key3 t4 t6) K:=by
  subst h0 h1
  induction n generalizing t6 with
  | zero=>kernel_rfl
  | succ n ih=>rw [Zdm]; simp (disch:=exact id (by kernel_rfl)) only [ih]; kernel_rfl
theorem Zo7:Wc Tryz.prog 210:=Wb Tryz.func210 (show Wg Tryz.f210 = true by kernel_rfl)
theorem Z4g (N:Nat) (l1:List Int) (key2:Int):DN Zmx N (l1,key2,()) = Zdv N l1 key2:=by
  have h:Zdv N l1 key2 = Zdv N l1 key2:=rfl
  conv at h=>rhs; rw [Zdv]
  simp (disch:=exact id (by kernel_rfl)) only [Zzp (R:=Unit × Ki) N (CF Zmx N [1,0,1,0])] at h
  exact Eq.trans (by kernel_rfl) h.symm
theorem Zo8 (N:Nat):Good Tryz.prog 210 (Zkg N):=GF Zmx N Tryz.func210 (Wa (Zr9 N) Zr8 We) (by kernel_rfl) (fun d=>Z4g N d.1 d.2.1)
def Zho (N:Nat):Sig:=Sig.of [.v Jj false,.v Ja false] [.v Ja false,.v Jp false] (fun d=>Zhc N d.1 d.2.1)
def Z0x:Fn:=⟨Tryz.f211,Wy,Zho,fun N=>[(208,Zgj N),(209,Ze1 N),(210,Zkg N)]⟩
theorem Zm8:Wc Tryz.prog 211:=Wb Tryz.func211 (show Wg Tryz.f211 = true by kernel_rfl)
theorem Zm9 (N:Nat):Good Tryz.prog 211 (Zho N):=GF Z0x N Tryz.func211 (Wa (Zjt N) Zjs (Wa (Zhf N) Zhe (Wa (Zo8 N) Zo7 We))) (by kernel_rfl) (fun d=>by kernel_rfl)
def Zhp (N:Nat):Sig:=Sig.of [.v Jj false,.v Ja false,.v Ja false] [.v Jac false,.v Ja false,.v Jp false] (fun d=>Zcc N d.1 d.2.1 d.2.2.1)
def Zju:Fn:=⟨Tryz.f158,fun | 10=>[.canon [1,2,9,13,57]] | 11=>[.canon [1,2,9,13]] | 100010=>[.canon [1,2,9,13]] | _=>[],Zhp,fun N=>[(72,Z4 N),(208,Zgj N),(209,Ze1 N),(130,Za2 N),(210,Zkg N),(211,Zho N),(212,Zk7 N),(213,Ziv N)]⟩
def Zub (key12:Int) (v13:Int) (at14:Int) (l15:List Int):St:=⟨[(1,vI key12),(2,vI v13),(9,vO 0),(13,vI at14)],[(0,.arr Ja l15)],1⟩
def Zsc (key12:Int) (v13:Int) (l15:List Int) (at16:Int) (t17:Bool):St:=⟨[(1,vI key12),(2,vI v13),(9,vO 0),(13,vI at16),(57,vB t17)],[(0,.arr Ja l15)],1⟩
theorem Zuc (N:Nat) {R:Type} (K:Ex → St → Option R) {key12:Int} {v13:Int} {l15:List Int} {K0:Int → Bool → Option R} (h0:K0 = fun at16 t17=>K (.exit 0) (Zsc key12 v13 l15 at16 t17)) (n:Nat) (at14:Int):Zcx N key12 v13 l15 K0 n at14 = LM Zju N 0 100010 n (Zub key12 v13 at14 l15) K:=by
  subst h0
  induction n generalizing at14 with
  | zero=>kernel_rfl
  | succ n ih=>rw [Zcx]; simp (disch:=exact id (by kernel_rfl)) only [ih]; kernel_rfl
theorem Zna:Wc Tryz.prog 158:=Wb Tryz.func158 (show Wg Tryz.f158 = true by kernel_rfl)
theorem Z0y (N:Nat) (l1:List Int) (key2:Int) (v3:Int):DN Zju N (l1,key2,v3,()) = Zcc N l1 key2 v3:=by
  have h:Zcc N l1 key2 v3 = Zcc N l1 key2 v3:=rfl
  conv at h=>rhs; rw [Zcc]
  simp (disch:=exact id (by kernel_rfl)) only [Zuc (R:=Unit × (Kj × (Int × Kg))) N (CF Zju N [1,1,1,1,1,0,0])] at h
  exact Eq.trans (by kernel_rfl) h.symm
theorem Znb (N:Nat):Good Tryz.prog 158 (Zhp N):=GF Zju N Tryz.func158 (Wa (Zag N) Zaf (Wa (Zjt N) Zjs (Wa (Zhf N) Zhe (Wa (Zbo N) Zbn (Wa (Zo8 N) Zo7 (Wa (Zm9 N) Zm8 (Wa (Zqz N) Zqy (Wa (Zpi N) Zph We)))))))) (by kernel_rfl) (fun d=>Z0y N d.1 d.2.1 d.2.2.1)
def Zll (N:Nat):Sig:=Sig.of [.v Jj false] [.v Jac false] (fun d=>Zay N d.1)
def Zig:Fn:=⟨Tryz.f107,fun | 5=>[.canon [3,10,11,12,13]] | 6=>[.canon [3,4,5,10,11,12]] | 7=>[.canon [3,4,5,10,11,12,18]] | 8=>[.canon [3,10,11,12]] | 9=>[.canon [3,10,11,12]] | 100005=>[.canon [3,10,11,12]] | _=>[],Zll,fun N=>[(156,Zl1 N),(157,Zm7 N),(158,Zhp N)]⟩
def Zrc (t4:List Int) (t6:Int) (l7:List Int):St:=⟨[(3,vO 0),(10,vV Jj t4),(11,vI (ilen t4)),(12,vI t6)],[(0,.arr Ja l7)],1⟩
def Zqg (t4:List Int) (t10:Int) (t11:Bool) (l12:List Int):St:=⟨[(3,vO 0),(10,vV Jj t4),(11,vI (ilen t4)),(12,vI t10),(13,vB t11)],[(0,.arr Ja l12)],1⟩
theorem Zrd (N:Nat) {R:Type} (K:Ex → St → Option R) {t4:List Int} {K0:Int → Bool → Kj → Option R} (h0:K0 = fun t10 t11 l12=>K (.exit 0) (Zqg t4 t10 t11 l12)) (n:Nat) (t6:Int) (l7:List Int):Zbi N t4 K0 n t6 l7 = LM Zig N 0 100005 n (Zrc t4 t6 l7) K:=by
  subst h0
  induction n generalizing t6 l7 with
  | zero=>kernel_rfl
  | succ n ih=>rw [Zbi]; simp (disch:=exact id (by kernel_rfl)) only [ih]; kernel_rfl
theorem Zx7:Wc Tryz.prog 107:=Wb Tryz.func107 (show Wg Tryz.f107 = true by kernel_rfl)
theorem Zx8 (N:Nat) (m1:List Int):DN Zig N (m1,()) = Zay N m1:=by
  have h:Zay N m1 = Zay N m1:=rfl
  conv at h=>rhs; rw [Zay]
  simp (disch:=exact id (by kernel_rfl)) only [Zrd (R:=Unit × (Kj × Unit)) N (CF Zig N [1,1,1,0,1,0])] at h
  exact Eq.trans (by kernel_rfl) h.symm
theorem Zx9 (N:Nat):Good Tryz.prog 107 (Zll N):=GF Zig N Tryz.func107 (Wa (Zr6 N) Zr5 (Wa (Z0v N) Z0u (Wa (Znb N) Zna We))) (by kernel_rfl) (fun d=>Zx8 N d.1)
def Zn2 (N:Nat):Sig:=Sig.of [.v Jj false] [.v Jag true,.v Jp false] (fun d=>Zbf N d.1)
def Zk8:Fn:=⟨Tryz.f53,fun | 5=>[.canon [2,4,12,13,14,15]] | 6=>[.canon [2,4,6,12,13,14]] | 7=>[.canon [2,4,12,13,14]] | 8=>[.canon [2,4,12,13,14]] | 100005=>[.adoptC 4 1 Jl,.canon [2,4,12,13,14]] | _=>[],Zn2,fun N=>[(71,Zc0 N)]⟩
def Zwm (t3:List Int) (t5:Int) (l8:List Kb):St:=⟨[(2,vP 0 0),(4,vP 1 0),(12,vV Jj t3),(13,vI (ilen t3)),(14,vI t5)],[(0,.box [.val Ja (0:Int),.nils]),(1,.box [.val Ja (0:Int),.own 2]),(2,.arr Jl l8)],3⟩
def Zud (t3:List Int) (t9:Int) (t10:Bool) (l11:List Kb):St:=⟨[(2,vP 0 0),(4,vP 1 0),(12,vV Jj t3),(13,vI (ilen t3)),(14,vI t9),(15,vB t10)],[(0,.box [.val Ja (0:Int),.nils]),(1,.box [.val Ja (0:Int),.own 2]),(2,.arr Jl l11)],3⟩
theorem Zwn (N:Nat) {R:Type} (K:Ex → St → Option R) {t3:List Int} {K0:Int → Bool → Kn → Option R} (h0:K0 = fun t9 t10 l11=>K (.exit 0) (Zud t3 t9 t10 l11)) (n:Nat) (t5:Int) (l8:List Kb):Zde N t3 K0 n t5 l8 = LM Zk8 N 0 100005 n (Zwm t3 t5 l8) K:=by
  subst h0
  induction n generalizing t5 l8 with
  | zero=>kernel_rfl
  | succ n ih=>rw [Zde]; simp (disch:=exact id (by kernel_rfl)) only [ih]; kernel_rfl
theorem Z22:Wc Tryz.prog 53:=Wb Tryz.func53 (show Wg Tryz.f53 = true by kernel_rfl)
theorem Z23 (N:Nat) (l1:List Int):DN Zk8 N (l1,()) = Zbf N l1:=by
  have h:Zbf N l1 = Zbf N l1:=rfl
  conv at h=>rhs; rw [Zbf]
  simp (disch:=exact id (by kernel_rfl)) only [Zwn (R:=Unit × ((Int × List Kb) × Kg)) N (CF Zk8 N [1,1,1,0,1,0])] at h
  exact Eq.trans (by kernel_rfl) h.symm
theorem Z24 (N:Nat):Good Tryz.prog 53 (Zn2 N):=GF Zk8 N Tryz.func53 (Wa (Zgv N) Zgu We) (by kernel_rfl) (fun d=>Z23 N d.1)
def Zc1 (N:Nat):Sig:=Sig.of [.box Jae] [] (fun d=>Zba N d.1)
def Zya:Fn:=⟨Tryz.f198,Wy,Zc1,Wcj⟩
theorem Zgw:Wc Tryz.prog 198:=Wb Tryz.func198 (show Wg Tryz.f198 = true by kernel_rfl)
theorem Zgx (N:Nat):Good Tryz.prog 198 (Zc1 N):=GF Zya N Tryz.func198 We (by kernel_rfl) (fun d=>by kernel_rfl)
def Zkm (N:Nat):Sig:=Sig.of [.box Jv,.v Ja false] [] (fun d=>Zcg N d.1 d.2.1)
def Zhy:Fn:=⟨Tryz.f199,fun | 3=>[.canon [0,1,4,5,17,18,19,20]] | 4=>[.canon [0,1,4,5,6,7,17,18,19]] | 5=>[.canon [0,1,4,5,17,18,19]] | 6=>[.canon [0,1,4,5,17,18,19]] | 100003=>[.canon [0,1,4,5,17,18,19]] | _=>[],Zkm,Wcj⟩
def Zqh (k3:Int) (r4:Nat) (alone5:Bool) (t6:Int) (t7:Int) (b8:Int) (b9:Int) (b10:Int) (b11:Int) (l12:List Y_Root) (l13:List Kb) (l14:List Int) (l15:List Kb) (l16:List Kl):St:=⟨[(0,vP 0 0),(1,vI k3),(4,.s (.one (.eptr 1 r4 0))),(5,vB alone5),(17,vO 1),(18,vI t6),(19,vI t7)],[(0,.box [.val Ja b8,.val Ja b9,.val Ja b10,.own 2,.own 3,.val Ja b11,.own 4,.own 1,.own 5]),(1,.arr Jae l12),(2,.arr Jl l13),(3,.arr Ja l14),(4,.arr Jl l15),(5,.arr Jaa l16)],6⟩
def Zp3 (k3:Int) (r4:Nat) (t6:Int) (b8:Int) (b9:Int) (b10:Int) (b11:Int) (l12:List Y_Root) (l13:List Kb) (l14:List Int) (l15:List Kb) (l16:List Kl) (alone17:Bool) (t18:Int) (t19:Bool):St:=⟨[(0,vP 0 0),(1,vI k3),(4,.s (.one (.eptr 1 r4 0))),(5,vB alone17),(17,vO 1),(18,vI t6),(19,vI t18),(20,vB t19)],[(0,.box [.val Ja b8,.val Ja b9,.val Ja b10,.own 2,.own 3,.val Ja b11,.own 4,.own 1,.own 5]),(1,.arr Jae l12),(2,.arr Jl l13),(3,.arr Ja l14),(4,.arr Jl l15),(5,.arr Jaa l16)],6⟩
theorem Zqi (N:Nat) {R:Type} (K:Ex → St → Option R) {k3:Int} {r4:Nat} {t6:Int} {b8:Int} {b9:Int} {b10:Int} {b11:Int} {l12:List Y_Root} {l13:List Kb} {l14:List Int} {l15:List Kb} {l16:List Kl} {K0:Bool → Int → Bool → Option R} (h0:K0 = fun alone17 t18 t19=>K (.exit 0) (Zp3 k3 r4 t6 b8 b9 b10 b11 l12 l13 l14 l15 l16 alone17 t18 t19)) (n:Nat) (alone5:Bool) (t7:Int):Zau N k3 r4 t6 b8 b9 b10 b11 l12 l13 l14 l15 l16 K0 n alone5 t7 = LM Zhy N 0 100003 n (Zqh k3 r4 alone5 t6 t7 b8 b9 b10 b11 l12 l13 l14 l15 l16) K:=by
  subst h0
  induction n generalizing alone5 t7 with
  | zero=>kernel_rfl
  | succ n ih=>rw [Zau]; simp (disch:=exact id (by kernel_rfl)) only [ih]; kernel_rfl
theorem Zwo:Wc Tryz.prog 199:=Wb Tryz.func199 (show Wg Tryz.f199 = true by kernel_rfl)
theorem Zwp (N:Nat) (w1:Y_World) (k2:Int):DN Zhy N (w1,k2,()) = Zcg N w1 k2:=by
  have h:Zcg N w1 k2 = Zcg N w1 k2:=rfl
  conv at h=>rhs; rw [Zcg]
  simp (disch:=exact id (by kernel_rfl)) only [Zqi (R:=(Y_World × Unit) × Unit) N (CF Zhy N [1,1,0,1,0])] at h
  exact Eq.trans (by kernel_rfl) h.symm
theorem Zwq (N:Nat):Good Tryz.prog 199 (Zkm N):=GF Zhy N Tryz.func199 We (by kernel_rfl) (fun d=>Zwp N d.1 d.2.1)
def Zk9 (N:Nat):Sig:=Sig.of [.v Ja false,.v Ja false,.v Ja false] [.v Jp false] (fun d=>Zh4 N d.1 d.2.1 d.2.2.1)
def Z25:Fn:=⟨Tryz.f280,Wy,Zk9,fun N=>[(55,Z1 N)]⟩
theorem Zq0:Wc Tryz.prog 280:=Wb Tryz.func280 (show Wg Tryz.f280 = true by kernel_rfl)
theorem Zq1 (N:Nat):Good Tryz.prog 280 (Zk9 N):=GF Z25 N Tryz.func280 (Wa (Zab N) Zaa We) (by kernel_rfl) (fun d=>by kernel_rfl)
def Zi9 (N:Nat):Sig:=Sig.of [.v Jl true,.v Jl true] [.v Ja false] (fun d=>Zhv N d.1 d.2.1)
def Zsd:Fn:=⟨Tryz.f281,Wy,Zi9,Wcj⟩
theorem Zse:Wc Tryz.prog 281:=Wb Tryz.func281 (show Wg Tryz.f281 = true by kernel_rfl)
theorem Zsf (N:Nat):Good Tryz.prog 281 (Zi9 N):=GF Zsd N Tryz.func281 We (by kernel_rfl) (fun d=>by kernel_rfl)
def Zgk (N:Nat):Sig:=Sig.of [.v Je false] [.v Jp false] (fun d=>Zcd N d.1)
def Zjv:Fn:=⟨Tryz.f241,fun | 2=>[.canon [0,5,6,7,8]] | 3=>[.canon [0,3,4,5,6,7]] | 4=>[.canon [0,3,4,5,6,7,33]] | 5=>[.canon [2]] | 6=>[.canon [0,5,6,7,60]] | 7=>[.canon [2]] | 8=>[.canon [0,5,6,7]] | 100002=>[.canon [0,5,6,7]] | _=>[],Zgk,fun N=>[(280,Zk9 N),(281,Zi9 N)]⟩
def Zue (l2:List Kb) (t5:Int):St:=⟨[(0,vV Je l2),(5,vV Je l2),(6,vI (ilen l2)),(7,vI t5)],[],0⟩
def Zsg (l2:List Kb):St:=⟨[(2,vB false)],[],0⟩
def Zsh (l2:List Kb) (t10:Int) (t11:Bool):St:=⟨[(0,vV Je l2),(5,vV Je l2),(6,vI (ilen l2)),(7,vI t10),(8,vB t11)],[],0⟩
theorem Zuf (N:Nat) {R:Type} (K:Ex → St → Option R) {l2:List Kb} {K0:Option R} {K1:Int → Bool → Option R} (h0:K0 = K .ret (Zsg l2)) (h1:K1 = fun t10 t11=>K (.exit 0) (Zsh l2 t10 t11)) (n:Nat) (t5:Int):Zar N l2 K0 K1 n t5 = LM Zjv N 0 100002 n (Zue l2 t5) K:=by
  subst h0 h1
  induction n generalizing t5 with
  | zero=>kernel_rfl
  | succ n ih=>rw [Zar]; simp (disch:=exact id (by kernel_rfl)) only [ih]; kernel_rfl
theorem Zjw:Wc Tryz.prog 241:=Wb Tryz.func241 (show Wg Tryz.f241 = true by kernel_rfl)
theorem Z0z (N:Nat) (l1:List Kb):DN Zjv N (l1,()) = Zcd N l1:=by
  have h:Zcd N l1 = Zcd N l1:=rfl
  conv at h=>rhs; rw [Zcd]
  simp (disch:=exact id (by kernel_rfl)) only [Zuf (R:=Unit × Kg) N (CF Zjv N [1,0,1,0])] at h
  exact Eq.trans (by kernel_rfl) h.symm
theorem Zjx (N:Nat):Good Tryz.prog 241 (Zgk N):=GF Zjv N Tryz.func241 (Wa (Zq1 N) Zq0 (Wa (Zsf N) Zse We)) (by kernel_rfl) (fun d=>Z0z N d.1)
def Znc (N:Nat):Sig:=Sig.of [.v Je false,.v Ja false] [.v Jac false] (fun d=>Zc6 N d.1 d.2.1)
def Zjy:Fn:=⟨Tryz.f262,fun | 5=>[.canon [1,5,12,13,14,15]] | 6=>[.canon [1,5,7,12,13,14]] | 7=>[.canon [1,5,7,12,13,14,21]] | 8=>[.canon [1,5,12,13,14]] | 9=>[.canon [1,5,12,13,14]] | 100005=>[.canon [1,5,12,13,14]] | _=>[],Znc,fun N=>[(241,Zgk N)]⟩
def Zug (who4:Int) (t5:List Kb) (t7:Int) (l8:List Int):St:=⟨[(1,vI who4),(5,vO 0),(12,vV Je t5),(13,vI (ilen t5)),(14,vI t7)],[(0,.arr Ja l8)],1⟩
def Zsi (who4:Int) (t5:List Kb) (t9:Int) (t10:Bool) (l11:List Int):St:=⟨[(1,vI who4),(5,vO 0),(12,vV Je t5),(13,vI (ilen t5)),(14,vI t9),(15,vB t10)],[(0,.arr Ja l11)],1⟩
theorem Zuh (N:Nat) {R:Type} (K:Ex → St → Option R) {who4:Int} {t5:List Kb} {K0:Int → Bool → Kj → Option R} (h0:K0 = fun t9 t10 l11=>K (.exit 0) (Zsi who4 t5 t9 t10 l11)) (n:Nat) (t7:Int) (l8:List Int):Zb5 N who4 t5 K0 n t7 l8 = LM Zjy N 0 100005 n (Zug who4 t5 t7 l8) K:=by
  subst h0
  induction n generalizing t7 l8 with
  | zero=>kernel_rfl
  | succ n ih=>rw [Zb5]; simp (disch:=exact id (by kernel_rfl)) only [ih]; kernel_rfl
theorem Z00:Wc Tryz.prog 262:=Wb Tryz.func262 (show Wg Tryz.f262 = true by kernel_rfl)
theorem Z01 (N:Nat) (l1:List Kb) (who2:Int):DN Zjy N (l1,who2,()) = Zc6 N l1 who2:=by
  have h:Zc6 N l1 who2 = Zc6 N l1 who2:=rfl
  conv at h=>rhs; rw [Zc6]
  simp (disch:=exact id (by kernel_rfl)) only [Zuh (R:=Unit × (Kj × Unit)) N (CF Zjy N [1,1,1,0,1,0])] at h
  exact Eq.trans (by kernel_rfl) h.symm
theorem Z02 (N:Nat):Good Tryz.prog 262 (Znc N):=GF Zjy N Tryz.func262 (Wa (Zjx N) Zjw We) (by kernel_rfl) (fun d=>Z01 N d.1 d.2.1)
def Zih (N:Nat):Sig:=Sig.of [.box Jv,.v Ja false] [] (fun d=>Zgi N d.1 d.2.1)
def Zyb:Fn:=⟨Tryz.f207,fun | 0=>[.opn 10] | _=>[],Zih,Wcj⟩
theorem Zow:Wc Tryz.prog 207:=Wb Tryz.func207 (show Wg Tryz.f207 = true by kernel_rfl)
theorem Zox (N:Nat):Good Tryz.prog 207 (Zih N):=GF Zyb N Tryz.func207 We (by kernel_rfl) (fun d=>by kernel_rfl)
def Zeq (N:Nat):Sig:=Sig.of [.v Ja false] [.v Jp false] (fun d=>Zev N d.1)
def Z03:Fn:=⟨Tryz.f288,Wy,Zeq,fun N=>[(55,Z1 N)]⟩
theorem Zhq:Wc Tryz.prog 288:=Wb Tryz.func288 (show Wg Tryz.f288 = true by kernel_rfl)
theorem Zhr (N:Nat):Good Tryz.prog 288 (Zeq N):=GF Z03 N Tryz.func288 (Wa (Zab N) Zaa We) (by kernel_rfl) (fun d=>by kernel_rfl)
def Zg0 (N:Nat):Sig:=Sig.of [.v Jg false] [.v Jp false] (fun d=>Zbx N d.1)
def Zla:Fn:=⟨Tryz.f73,fun | 2=>[.canon [0,5,6,7,8]] | 3=>[.canon [0,4,5,6,7]] | 4=>[.canon [0,5,6,7,20]] | 5=>[.canon [2]] | 6=>[.canon [0,5,6,7]] | 100002=>[.canon [0,5,6,7]] | _=>[],Zg0,fun N=>[(65,Zb2 N),(130,Za2 N)]⟩
def Zwr (l2:List Kc) (t5:Int):St:=⟨[(0,vV Jg l2),(5,vV Jg l2),(6,vI (ilen l2)),(7,vI t5)],[],0⟩
def Zui (l2:List Kc):St:=⟨[(2,vB false)],[],0⟩
def Zuj (l2:List Kc) (t10:Int) (t11:Bool):St:=⟨[(0,vV Jg l2),(5,vV Jg l2),(6,vI (ilen l2)),(7,vI t10),(8,vB t11)],[],0⟩
theorem Zws (N:Nat) {R:Type} (K:Ex → St → Option R) {l2:List Kc} {K0:Option R} {K1:Int → Bool → Option R} (h0:K0 = K .ret (Zui l2)) (h1:K1 = fun t10 t11=>K (.exit 0) (Zuj l2 t10 t11)) (n:Nat) (t5:Int):Zdd N l2 K0 K1 n t5 = LM Zla N 0 100002 n (Zwr l2 t5) K:=by
  subst h0 h1
  induction n generalizing t5 with
  | zero=>kernel_rfl
  | succ n ih=>rw [Zdd]; simp (disch:=exact id (by kernel_rfl)) only [ih]; kernel_rfl
theorem Zlb:Wc Tryz.prog 73:=Wb Tryz.func73 (show Wg Tryz.f73 = true by kernel_rfl)
theorem Z26 (N:Nat) (l1:List Kc):DN Zla N (l1,()) = Zbx N l1:=by
  have h:Zbx N l1 = Zbx N l1:=rfl
  conv at h=>rhs; rw [Zbx]
  simp (disch:=exact id (by kernel_rfl)) only [Zws (R:=Unit × Kg) N (CF Zla N [1,0,1,0])] at h
  exact Eq.trans (by kernel_rfl) h.symm
theorem Zlc (N:Nat):Good Tryz.prog 73 (Zg0 N):=GF Zla N Tryz.func73 (Wa (Zdr N) Zdq (Wa (Zbo N) Zbn We)) (by kernel_rfl) (fun d=>Z26 N d.1)
def Zkh (N:Nat):Sig:=Sig.of [.v Jg false,.v Ja false] [.v Ja false,.v Jp false] (fun d=>Zfg N d.1 d.2.1)
def Zmy:Fn:=⟨Tryz.f172,fun | 4=>[.canon [0,1,6,14]] | 5=>[.canon [0,1,6]] | 6=>[.canon [0,1,6,23]] | 7=>[.canon [4,5]] | 100004=>[.canon [0,1,6]] | _=>[],Zkh,fun N=>[(73,Zg0 N)]⟩
def Zzq (l4:List Kc) (cell5:Int) (i6:Int):St:=⟨[(0,vV Jg l4),(1,vI cell5),(6,vI i6)],[],0⟩
def Zyc (l4:List Kc) (cell5:Int) (t7:Int):St:=⟨[(4,vI t7),(5,vB true)],[],0⟩
def Zyd (l4:List Kc) (cell5:Int) (i8:Int) (t9:Bool):St:=⟨[(0,vV Jg l4),(1,vI cell5),(6,vI i8),(14,vB t9)],[],0⟩
theorem Zzr (N:Nat) {R:Type} (K:Ex → St → Option R) {l4:List Kc} {cell5:Int} {K0:Int → Option R} {K1:Int → Bool → Option R} (h0:K0 = fun t7=>K .ret (Zyc l4 cell5 t7)) (h1:K1 = fun i8 t9=>K (.exit 0) (Zyd l4 cell5 i8 t9)) (n:Nat) (i6:Int):Zgy N l4 cell5 K0 K1 n i6 = LM Zmy N 0 100004 n (Zzq l4 cell5 i6) K:=by
  subst h0 h1
  induction n generalizing i6 with
  | zero=>kernel_rfl
  | succ n ih=>rw [Zgy]; simp (disch:=exact id (by kernel_rfl)) only [ih]; kernel_rfl
theorem Zo9:Wc Tryz.prog 172:=Wb Tryz.func172 (show Wg Tryz.f172 = true by kernel_rfl)
theorem Z4h (N:Nat) (l1:List Kc) (cell2:Int):DN Zmy N (l1,cell2,()) = Zfg N l1 cell2:=by
  have h:Zfg N l1 cell2 = Zfg N l1 cell2:=rfl
  conv at h=>rhs; rw [Zfg]
  simp (disch:=exact id (by kernel_rfl)) only [Zzr (R:=Unit × (Int × Kg)) N (CF Zmy N [1,1,0,1,0])] at h
  exact Eq.trans (by kernel_rfl) h.symm
theorem Zpa (N:Nat):Good Tryz.prog 172 (Zkh N):=GF Zmy N Tryz.func172 (Wa (Zlc N) Zlb We) (by kernel_rfl) (fun d=>Z4h N d.1 d.2.1)
def Zja (N:Nat):Sig:=Sig.of [.v Jg false] [.v (.own Jw) false] (fun d=>Zd4 N d.1)
def Zn3:Fn:=⟨Tryz.f118,fun | 5=>[.canon [0,3,11,12]] | 6=>[.canon [0,3,4,11]] | 7=>[.canon [0,3,4,5,6,11]] | 8=>[.canon [0,3,4,5,11,20]] | 9=>[.canon [0,3,11]] | 10=>[.canon [0,3,11]] | 100005=>[.canon [0,3,11]] | _=>[],Zja,fun N=>[(73,Zg0 N),(172,Zkh N)]⟩
def Z04 (l3:List Kc) (t4:Int) (l5:List Kc):St:=⟨[(0,vV Jg l3),(3,vO 0),(11,vI t4)],[(0,.arr Jw l5)],1⟩
def Zzs (l3:List Kc) (t7:Int) (t8:Bool) (l9:List Kc):St:=⟨[(0,vV Jg l3),(3,vO 0),(11,vI t7),(12,vB t8)],[(0,.arr Jw l9)],1⟩
theorem Z05 (N:Nat) {R:Type} (K:Ex → St → Option R) {l3:List Kc} {K0:Int → Bool → (List Kc) → Option R} (h0:K0 = fun t7 t8 l9=>K (.exit 0) (Zzs l3 t7 t8 l9)) (n:Nat) (t4:Int) (l5:List Kc):Zgh N l3 K0 n t4 l5 = LM Zn3 N 0 100005 n (Z04 l3 t4 l5) K:=by
  subst h0
  induction n generalizing t4 l5 with
  | zero=>kernel_rfl
  | succ n ih=>rw [Zgh]; simp (disch:=exact id (by kernel_rfl)) only [ih]; kernel_rfl
theorem Zn4:Wc Tryz.prog 118:=Wb Tryz.func118 (show Wg Tryz.f118 = true by kernel_rfl)
theorem Z4s (N:Nat) (l1:List Kc):DN Zn3 N (l1,()) = Zd4 N l1:=by
  have h:Zd4 N l1 = Zd4 N l1:=rfl
  conv at h=>rhs; rw [Zd4]
  simp (disch:=exact id (by kernel_rfl)) only [Z05 (R:=Unit × ((List Kc) × Unit)) N (CF Zn3 N [1,1,1,0,1,0])] at h
  exact Eq.trans (by kernel_rfl) h.symm
theorem Zn5 (N:Nat):Good Tryz.prog 118 (Zja N):=GF Zn3 N Tryz.func118 (Wa (Zlc N) Zlb (Wa (Zpa N) Zo9 We)) (by kernel_rfl) (fun d=>Z4s N d.1)
def Znd (N:Nat):Sig:=Sig.of [.v Jg false] [.v Jac false] (fun d=>Zew N d.1)
def Zjz:Fn:=⟨Tryz.f289,fun | 3=>[.canon [3,8,9,10,11]] | 4=>[.canon [3,5,8,9,10]] | 5=>[.canon [3,8,9,10]] | 6=>[.canon [3,8,9,10]] | 100003=>[.canon [3,8,9,10]] | _=>[],Znd,fun N=>[(118,Zja N)]⟩
def Zuk (t3:Int) (t4:Int) (l5:List Int) (l6:List Kc):St:=⟨[(3,vO 0),(8,vO 1),(9,vI t3),(10,vI t4)],[(0,.arr Ja l5),(1,.arr Jw l6)],2⟩
def Zsj (t3:Int) (l6:List Kc) (t7:Int) (t8:Bool) (l9:List Int):St:=⟨[(3,vO 0),(8,vO 1),(9,vI t3),(10,vI t7),(11,vB t8)],[(0,.arr Ja l9),(1,.arr Jw l6)],2⟩
theorem Zul (N:Nat) {R:Type} (K:Ex → St → Option R) {t3:Int} {l6:List Kc} {K0:Int → Bool → Kj → Option R} (h0:K0 = fun t7 t8 l9=>K (.exit 0) (Zsj t3 l6 t7 t8 l9)) (n:Nat) (t4:Int) (l5:List Int):Zcy N t3 l6 K0 n t4 l5 = LM Zjz N 0 100003 n (Zuk t3 t4 l5 l6) K:=by
  subst h0
  induction n generalizing t4 l5 with
  | zero=>kernel_rfl
  | succ n ih=>rw [Zcy]; simp (disch:=exact id (by kernel_rfl)) only [ih]; kernel_rfl
theorem Z06:Wc Tryz.prog 289:=Wb Tryz.func289 (show Wg Tryz.f289 = true by kernel_rfl)
theorem Z07 (N:Nat) (l1:List Kc):DN Zjz N (l1,()) = Zew N l1:=by
  have h:Zew N l1 = Zew N l1:=rfl
  conv at h=>rhs; rw [Zew]
  simp (disch:=exact id (by kernel_rfl)) only [Zul (R:=Unit × (Kj × Unit)) N (CF Zjz N [1,1,0,1,0])] at h
  exact Eq.trans (by kernel_rfl) h.symm
theorem Z08 (N:Nat):Good Tryz.prog 289 (Znd N):=GF Zjz N Tryz.func289 (Wa (Zn5 N) Zn4 We) (by kernel_rfl) (fun d=>Z07 N d.1)
def Zlm (N:Nat):Sig:=Sig.of [.v Ja false,.v Ja false,.v Jg false,.v Jg false] [.v Jd true,.v Jp false] (fun d=>Zem N d.1 d.2.1 d.2.2.1 d.2.2.2.1)
def Zye:Fn:=⟨Tryz.f263,Wy,Zlm,fun N=>[(288,Zeq N),(55,Z1 N),(73,Zg0 N),(118,Zja N),(289,Znd N)]⟩
theorem Zyf:Wc Tryz.prog 263:=Wb Tryz.func263 (show Wg Tryz.f263 = true by kernel_rfl)
theorem Zyg (N:Nat):Good Tryz.prog 263 (Zlm N):=GF Zye N Tryz.func263 (Wa (Zhr N) Zhq (Wa (Zab N) Zaa (Wa (Zlc N) Zlb (Wa (Zn5 N) Zn4 (Wa (Z08 N) Z06 We))))) (by kernel_rfl) (fun d=>by kernel_rfl)
def Zg9 (N:Nat):Sig:=Sig.of [.box Jv,.v Ja false,.v Ja false] [] (fun d=>Zgr N d.1 d.2.1 d.2.2.1)
def Zum:Fn:=⟨Tryz.f233,fun | 0=>[.opn 13] | _=>[],Zg9,fun N=>[(262,Znc N),(207,Zih N),(263,Zlm N)]⟩
theorem Zn6:Wc Tryz.prog 233:=Wb Tryz.func233 (show Wg Tryz.f233 = true by kernel_rfl)
theorem Zn7 (N:Nat):Good Tryz.prog 233 (Zg9 N):=GF Zum N Tryz.func233 (Wa (Z02 N) Z00 (Wa (Zox N) Zow (Wa (Zyg N) Zyf We))) (by kernel_rfl) (fun d=>by kernel_rfl)
def Ziw (N:Nat):Sig:=Sig.of [.v Ja false] [.v Jx true,.v Jp false] (fun d=>Zfj N d.1)
def Zzt:Fn:=⟨Tryz.f220,Wy,Ziw,fun N=>[(65,Zb2 N)]⟩
theorem Zpj:Wc Tryz.prog 220:=Wb Tryz.func220 (show Wg Tryz.f220 = true by kernel_rfl)
theorem Zpk (N:Nat):Good Tryz.prog 220 (Ziw N):=GF Zzt N Tryz.func220 (Wa (Zdr N) Zdq We) (by kernel_rfl) (fun d=>by kernel_rfl)
def Ze5 (N:Nat):Sig:=Sig.of [.v Jab true] [.v Jp false] (fun d=>Zbz N d.1)
def Zl5:Fn:=⟨Tryz.f124,fun | 2=>[.canon [1,6,7,8,9]] | 3=>[.canon [1,4,6,7,8]] | 4=>[.canon [1,6,7,8,29]] | 5=>[.canon [2]] | 6=>[.canon [1,6,7,8]] | 100002=>[.canon [1,6,7,8]] | _=>[],Ze5,fun N=>[(130,Za2 N),(55,Z1 N)]⟩
def Zyh (t2:List Kb) (t4:Int) (b5:Int × List Kb):St:=⟨[(1,vP 0 0),(6,vV Je t2),(7,vI (ilen b5.2)),(8,vI t4)],[(0,.box [.val Ja b5.1,.val Je b5.2])],1⟩
def Zwt (t2:List Kb) (b5:Int × List Kb):St:=⟨[(2,vB false)],[],0⟩
def Zwu (t2:List Kb) (b5:Int × List Kb) (t12:Int) (t13:Bool):St:=⟨[(1,vP 0 0),(6,vV Je t2),(7,vI (ilen b5.2)),(8,vI t12),(9,vB t13)],[(0,.box [.val Ja b5.1,.val Je b5.2])],1⟩
theorem Zyi (N:Nat) {R:Type} (K:Ex → St → Option R) {t2:List Kb} {b5:Int × List Kb} {K0:Option R} {K1:Int → Bool → Option R} (h0:K0 = K .ret (Zwt t2 b5)) (h1:K1 = fun t12 t13=>K (.exit 0) (Zwu t2 b5 t12 t13)) (n:Nat) (t4:Int):Zei N t2 b5 K0 K1 n t4 = LM Zl5 N 0 100002 n (Zyh t2 t4 b5) K:=by
  subst h0 h1
  induction n generalizing t4 with
  | zero=>kernel_rfl
  | succ n ih=>rw [Zei]; simp (disch:=exact id (by kernel_rfl)) only [ih]; kernel_rfl
theorem Zhg:Wc Tryz.prog 124:=Wb Tryz.func124 (show Wg Tryz.f124 = true by kernel_rfl)
theorem Z38 (N:Nat) (m1:Int × List Kb):DN Zl5 N (m1,()) = Zbz N m1:=by
  have h:Zbz N m1 = Zbz N m1:=rfl
  conv at h=>rhs; rw [Zbz]
  simp (disch:=exact id (by kernel_rfl)) only [Zyi (R:=Unit × Kg) N (CF Zl5 N [1,0,1,0])] at h
  exact Eq.trans (by kernel_rfl) h.symm
theorem Zhh (N:Nat):Good Tryz.prog 124 (Ze5 N):=GF Zl5 N Tryz.func124 (Wa (Zbo N) Zbn (Wa (Zab N) Zaa We)) (by kernel_rfl) (fun d=>Z38 N d.1)
def Zne (N:Nat):Sig:=Sig.of [.v Jx true] [.v Jp false] (fun d=>Zlu N d.1)
def Z09:Fn:=⟨Tryz.f249,Wy,Zne,fun N=>[(65,Zb2 N),(55,Z1 N),(130,Za2 N)]⟩
theorem Z1a:Wc Tryz.prog 249:=Wb Tryz.func249 (show Wg Tryz.f249 = true by kernel_rfl)
theorem Z1b (N:Nat):Good Tryz.prog 249 (Zne N):=GF Z09 N Tryz.func249 (Wa (Zdr N) Zdq (Wa (Zab N) Zaa (Wa (Zbo N) Zbn We))) (by kernel_rfl) (fun d=>by kernel_rfl)
def Zii (N:Nat):Sig:=Sig.of [.v Jab true,.v Ja false,.v Jx true] [.v Jx true] (fun d=>Zej N d.1 d.2.1 d.2.2.1)
def Zyj:Fn:=⟨Tryz.f221,Wy,Zii,fun N=>[(124,Ze5 N),(249,Zne N)]⟩
theorem Zoy:Wc Tryz.prog 221:=Wb Tryz.func221 (show Wg Tryz.f221 = true by kernel_rfl)
theorem Zoz (N:Nat):Good Tryz.prog 221 (Zii N):=GF Zyj N Tryz.func221 (Wa (Zhh N) Zhg (Wa (Z1b N) Z1a We)) (by kernel_rfl) (fun d=>by kernel_rfl)
def Zgo (N:Nat):Sig:=Sig.of [.box Jae] [] (fun d=>Zc7 N d.1)
def Zre:Fn:=⟨Tryz.f264,Wy,Zgo,fun N=>[(198,Zc1 N)]⟩
theorem Zmo:Wc Tryz.prog 264:=Wb Tryz.func264 (show Wg Tryz.f264 = true by kernel_rfl)
theorem Zmp (N:Nat):Good Tryz.prog 264 (Zgo N):=GF Zre N Tryz.func264 (Wa (Zgx N) Zgw We) (by kernel_rfl) (fun d=>by kernel_rfl)
def Zkn (N:Nat):Sig:=Sig.of [.boxal Jv 3,.v Jx true] [] (fun d=>Zip N d.1 d.2.1 d.2.2.1)
def Zwv:Fn:=⟨Tryz.f234,fun | 1000000=>[.unfE 1] | _=>[],Zkn,fun N=>[(172,Zkh N),(220,Ziw N),(221,Zii N),(264,Zgo N)]⟩
theorem Zww:Wc Tryz.prog 234:=Wb Tryz.func234 (show Wg Tryz.f234 = true by kernel_rfl)
theorem Zwx (N:Nat):Good Tryz.prog 234 (Zkn N):=GF Zwv N Tryz.func234 (Wa (Zpa N) Zo9 (Wa (Zpk N) Zpj (Wa (Zoz N) Zoy (Wa (Zmp N) Zmo We)))) (by kernel_rfl) (fun d=>by kernel_rfl)
def Zij (N:Nat):Sig:=Sig.of [.box Jae] [.v (.prod Ja Jaf) true] (fun d=>Zhk N d.1)
def Zyk:Fn:=⟨Tryz.f202,Wy,Zij,Wcj⟩
theorem Zo0:Wc Tryz.prog 202:=Wb Tryz.func202 (show Wg Tryz.f202 = true by kernel_rfl)
theorem Zo1 (N:Nat):Good Tryz.prog 202 (Zij N):=GF Zyk N Tryz.func202 We (by kernel_rfl) (fun d=>by kernel_rfl)
def Zik (N:Nat):Sig:=Sig.of [.v (.prod Jj Ja) true] [.v Jq true] (fun d=>Zhl N d.1)
def Zyl:Fn:=⟨Tryz.f268,Wy,Zik,fun N=>[(72,Z4 N)]⟩
theorem Zo2:Wc Tryz.prog 268:=Wb Tryz.func268 (show Wg Tryz.f268 = true by kernel_rfl)
theorem Zo3 (N:Nat):Good Tryz.prog 268 (Zik N):=GF Zyl N Tryz.func268 (Wa (Zag N) Zaf We) (by kernel_rfl) (fun d=>by kernel_rfl)
def Zj0 (N:Nat):Sig:=Sig.of [.v (.prod Jj Ja) true] [.v Jp false] (fun d=>Zi5 N d.1)
def Z1c:Fn:=⟨Tryz.f269,Wy,Zj0,fun N=>[(208,Zgj N),(130,Za2 N)]⟩
theorem Zp4:Wc Tryz.prog 269:=Wb Tryz.func269 (show Wg Tryz.f269 = true by kernel_rfl)
theorem Zp5 (N:Nat):Good Tryz.prog 269 (Zj0 N):=GF Z1c N Tryz.func269 (Wa (Zjt N) Zjs (Wa (Zbo N) Zbn We)) (by kernel_rfl) (fun d=>by kernel_rfl)
def Zn8 (N:Nat):Sig:=Sig.of [.v Jl true] [.v Jp false] (fun d=>Zmt N d.1)
def Z27:Fn:=⟨Tryz.f270,Wy,Zn8,fun N=>[(209,Ze1 N),(130,Za2 N)]⟩
theorem Z28:Wc Tryz.prog 270:=Wb Tryz.func270 (show Wg Tryz.f270 = true by kernel_rfl)
theorem Z29 (N:Nat):Good Tryz.prog 270 (Zn8 N):=GF Z27 N Tryz.func270 (Wa (Zhf N) Zhe (Wa (Zbo N) Zbn We)) (by kernel_rfl) (fun d=>by kernel_rfl)
def Zix (N:Nat):Sig:=Sig.of [.v Jj false,.v Ja false] [.v Jac false,.v Ja false,.v Jp false] (fun d=>Zia N d.1 d.2.1)
def Zzu:Fn:=⟨Tryz.f271,Wy,Zix,fun N=>[(72,Z4 N),(208,Zgj N),(209,Ze1 N),(210,Zkg N),(211,Zho N)]⟩
theorem Zpl:Wc Tryz.prog 271:=Wb Tryz.func271 (show Wg Tryz.f271 = true by kernel_rfl)
theorem Zpm (N:Nat):Good Tryz.prog 271 (Zix N):=GF Zzu N Tryz.func271 (Wa (Zag N) Zaf (Wa (Zjt N) Zjs (Wa (Zhf N) Zhe (Wa (Zo8 N) Zo7 (Wa (Zm9 N) Zm8 We))))) (by kernel_rfl) (fun d=>by kernel_rfl)
def Znf (N:Nat):Sig:=Sig.of [.v (.prod Jj Ja) true,.v Jl true] [.v Jq true,.v Jp false] (fun d=>Zlv N d.1 d.2.1)
def Z1d:Fn:=⟨Tryz.f237,Wy,Znf,fun N=>[(268,Zik N),(269,Zj0 N),(270,Zn8 N),(158,Zhp N),(271,Zix N)]⟩
theorem Z1e:Wc Tryz.prog 237:=Wb Tryz.func237 (show Wg Tryz.f237 = true by kernel_rfl)
theorem Z1f (N:Nat):Good Tryz.prog 237 (Znf N):=GF Z1d N Tryz.func237 (Wa (Zo3 N) Zo2 (Wa (Zp5 N) Zp4 (Wa (Z29 N) Z28 (Wa (Znb N) Zna (Wa (Zpm N) Zpl We))))) (by kernel_rfl) (fun d=>by kernel_rfl)
def Zhz (N:Nat):Sig:=Sig.of [.boxal Jv 3] [] (fun d=>Zch N d.1 d.2.1)
def Zwy:Fn:=⟨Tryz.f203,fun | 1000000=>[.unfE 1] | _=>[],Zhz,fun N=>[(237,Znf N)]⟩
theorem Zoc:Wc Tryz.prog 203:=Wb Tryz.func203 (show Wg Tryz.f203 = true by kernel_rfl)
theorem Zod (N:Nat):Good Tryz.prog 203 (Zhz N):=GF Zwy N Tryz.func203 (Wa (Z1f N) Z1e We) (by kernel_rfl) (fun d=>by kernel_rfl)
def Zdg (N:Nat):Sig:=Sig.of [.v Jg false] [.v (.own Jw) false] (fun d=>Zbg N d.1)
def Zzv:Fn:=⟨Tryz.f222,Wy,Zdg,Wcj⟩
theorem Zg7:Wc Tryz.prog 222:=Wb Tryz.func222 (show Wg Tryz.f222 = true by kernel_rfl)
theorem Zg8 (N:Nat):Good Tryz.prog 222 (Zdg N):=GF Zzv N Tryz.func222 We (by kernel_rfl) (fun d=>by kernel_rfl)
def Zl6 (N:Nat):Sig:=Sig.of [.v Jc false,.v Ja false] [.v Ja false] (fun d=>Zfk N d.1 d.2.1)
def Zl7:Fn:=⟨Tryz.f223,fun | 5=>[.canon [0,5,6,25]] | 6=>[.canon [0,5,6]] | 7=>[.canon [0,5,6]] | 8=>[.canon [0,5,6,36]] | 9=>[.canon [4]] | 100005=>[.canon [0,5,6]] | _=>[],Zl6,fun N=>[(55,Z1 N),(248,Zi8 N)]⟩
def Zym (code4:List Ka) (n5:Int) (k6:Int):St:=⟨[(0,vV Jc code4),(5,vI n5),(6,vI k6)],[],0⟩
def Zwz (code4:List Ka) (t8:Int):St:=⟨[(4,vI t8)],[],0⟩
def Zw0 (code4:List Ka) (n9:Int) (k10:Int) (t11:Bool):St:=⟨[(0,vV Jc code4),(5,vI n9),(6,vI k10),(25,vB t11)],[],0⟩
theorem Zyn (N:Nat) {R:Type} (K:Ex → St → Option R) {code4:List Ka} {K0:Int → Option R} {K1:Int → Int → Bool → Option R} (h0:K0 = fun t8=>K .ret (Zwz code4 t8)) (h1:K1 = fun n9 k10 t11=>K (.exit 0) (Zw0 code4 n9 k10 t11)) (n:Nat) (n5:Int) (k6:Int):Zek N code4 K0 K1 n n5 k6 = LM Zl7 N 0 100005 n (Zym code4 n5 k6) K:=by
  subst h0 h1
  induction n generalizing n5 k6 with
  | zero=>kernel_rfl
  | succ n ih=>rw [Zek]; simp (disch:=exact id (by kernel_rfl)) only [ih]; kernel_rfl
theorem Zsk:Wc Tryz.prog 223:=Wb Tryz.func223 (show Wg Tryz.f223 = true by kernel_rfl)
theorem Z39 (N:Nat) (code1:List Ka) (i2:Int):DN Zl7 N (code1,i2,()) = Zfk N code1 i2:=by
  have h:Zfk N code1 i2 = Zfk N code1 i2:=rfl
  conv at h=>rhs; rw [Zfk]
  simp (disch:=exact id (by kernel_rfl)) only [Zyn (R:=Unit × Ki) N (CF Zl7 N [1,1,1,0,1,0])] at h
  exact Eq.trans (by kernel_rfl) h.symm
theorem Zsl (N:Nat):Good Tryz.prog 223 (Zl6 N):=GF Zl7 N Tryz.func223 (Wa (Zab N) Zaa (Wa (Zor N) Zoq We)) (by kernel_rfl) (fun d=>Z39 N d.1 d.2.1)
def Zj1 (N:Nat):Sig:=Sig.of [.box Jv,.v Ja false,.v Jc false] [] (fun d=>Zib N d.1 d.2.1 d.2.2.1)
def Zun:Fn:=⟨Tryz.f235,fun | 0=>[.opn 13] | _=>[],Zj1,fun N=>[(233,Zg9 N),(202,Zij N),(203,Zhz N),(72,Z4 N),(222,Zdg N),(223,Zl6 N)]⟩
theorem Zuo:Wc Tryz.prog 235:=Wb Tryz.func235 (show Wg Tryz.f235 = true by kernel_rfl)
theorem Zup (N:Nat):Good Tryz.prog 235 (Zj1 N):=GF Zun N Tryz.func235 (Wa (Zn7 N) Zn6 (Wa (Zo1 N) Zo0 (Wa (Zod N) Zoc (Wa (Zag N) Zaf (Wa (Zg8 N) Zg7 (Wa (Zsl N) Zsk We)))))) (by kernel_rfl) (fun d=>by kernel_rfl)
def Zmh (N:Nat):Sig:=Sig.of [.v Ja false,.v Jj false,.v Jg false,.v Ja false] [.v Jy true] (fun d=>Zdj N d.1 d.2.1 d.2.2.1 d.2.2.2.1)
def Zf0:Fn:=⟨Tryz.f54,fun | 3=>[.canon [1,3,8,9,19,20,21,22]] | 4=>[.canon [1,3,8,9,11,19,20,21]] | 5=>[.canon [1,3,8,9,19,20,21]] | 6=>[.canon [1,3,8,9,19,20,21]] | 8=>[.canon [1,8,9,36,37,38]] | 9=>[.nest 44 Ji,.canon [1,8,9,36,37]] | 10=>[.canon [1,8,9,36,37]] | 100003=>[.adoptC 9 6 Jl,.canon [1,3,8,9,19,20,21]] | 100008=>[.adoptC 9 9 Ji,.canon [1,8,9,36,37]] | _=>[],Zmh,fun N=>[(72,Z4 N),(118,Zja N)]⟩
def Zsm (regs7:List Int) (kids8:Int) (t9:Int) (t10:Int) (b15:Int) (l19:List Kc) (l20:List Int) (l21:List Kb):St:=⟨[(1,vV Jj regs7),(3,vI kids8),(8,vP 0 0),(9,vP 1 0),(19,vO 2),(20,vI t9),(21,vI t10)],[(0,.box [.val Ja (0:Int),.val Ja (0:Int),.val Ja (0:Int),.val Jp false,.nils,.nils,.nils,.nils,.nils,.nils]),(1,.box [.val Ja b15,.val Ja (0:Int),.val Ja (0:Int),.val Jp false,.own 3,.own 2,.own 4,.nils,.nils,.nils]),(2,.arr Jw l19),(3,.arr Ja l20),(4,.arr Jl l21)],5⟩
def Zrf (regs7:List Int) (kids8:Int) (t9:Int) (b15:Int) (l19:List Kc) (l20:List Int) (t22:Int) (t23:Bool) (l24:List Kb):St:=⟨[(1,vV Jj regs7),(3,vI kids8),(8,vP 0 0),(9,vP 1 0),(19,vO 2),(20,vI t9),(21,vI t22),(22,vB t23)],[(0,.box [.val Ja (0:Int),.val Ja (0:Int),.val Ja (0:Int),.val Jp false,.nils,.nils,.nils,.nils,.nils,.nils]),(1,.box [.val Ja b15,.val Ja (0:Int),.val Ja (0:Int),.val Jp false,.own 3,.own 2,.own 4,.nils,.nils,.nils]),(2,.arr Jw l19),(3,.arr Ja l20),(4,.arr Jl l24)],5⟩
theorem Zsn (N:Nat) {R:Type} (K:Ex → St → Option R) {regs7:List Int} {kids8:Int} {t9:Int} {b15:Int} {l19:List Kc} {l20:List Int} {K0:Int → Bool → Kn → Option R} (h0:K0 = fun t22 t23 l24=>K (.exit 0) (Zrf regs7 kids8 t9 b15 l19 l20 t22 t23 l24)) (n:Nat) (t10:Int) (l21:List Kb):Zci N regs7 kids8 t9 b15 l19 l20 K0 n t10 l21 = LM Zf0 N 0 100003 n (Zsm regs7 kids8 t9 t10 b15 l19 l20 l21) K:=by
  subst h0
  induction n generalizing t10 l21 with
  | zero=>kernel_rfl
  | succ n ih=>rw [Zci]; simp (disch:=exact id (by kernel_rfl)) only [ih]; kernel_rfl
def Zso (regs28:List Int) (t29:Int) (t30:Int) (b35:Int) (l39:List Int) (l40:List Kc) (l41:List Kb) (l42:List Y_KidRun):St:=⟨[(1,vV Jj regs28),(8,vP 0 0),(9,vP 1 0),(36,vI t29),(37,vI t30)],[(0,.box [.val Ja (0:Int),.val Ja (0:Int),.val Ja (0:Int),.val Jp false,.nils,.nils,.nils,.nils,.nils,.nils]),(1,.box [.val Ja b35,.val Ja (0:Int),.val Ja (0:Int),.val Jp false,.own 2,.own 3,.own 4,.nils,.nils,.own 5]),(2,.arr Ja l39),(3,.arr Jw l40),(4,.arr Jl l41),(5,.arr Ji l42)],6⟩
def Zrg (regs28:List Int) (t29:Int) (b35:Int) (l39:List Int) (l40:List Kc) (l41:List Kb) (t45:Int) (t46:Bool) (l47:List Y_KidRun):St:=⟨[(1,vV Jj regs28),(8,vP 0 0),(9,vP 1 0),(36,vI t29),(37,vI t45),(38,vB t46)],[(0,.box [.val Ja (0:Int),.val Ja (0:Int),.val Ja (0:Int),.val Jp false,.nils,.nils,.nils,.nils,.nils,.nils]),(1,.box [.val Ja b35,.val Ja (0:Int),.val Ja (0:Int),.val Jp false,.own 2,.own 3,.own 4,.nils,.nils,.own 5]),(2,.arr Ja l39),(3,.arr Jw l40),(4,.arr Jl l41),(5,.arr Ji l47)],6⟩
theorem Zsp (N:Nat) {R:Type} (K:Ex → St → Option R) {regs28:List Int} {t29:Int} {b35:Int} {l39:List Int} {l40:List Kc} {l41:List Kb} {K0:Int → Bool → (List Y_KidRun) → Option R} (h0:K0 = fun t45 t46 l47=>K (.exit 2) (Zrg regs28 t29 b35 l39 l40 l41 t45 t46 l47)) (n:Nat) (t30:Int) (l42:List Y_KidRun):Zbb N regs28 t29 b35 l39 l40 l41 K0 n t30 l42 = LM Zf0 N 1 100008 n (Zso regs28 t29 t30 b35 l39 l40 l41 l42) K:=by
  subst h0
  induction n generalizing t30 l42 with
  | zero=>kernel_rfl
  | succ n ih=>rw [Zbb]; simp (disch:=exact id (by kernel_rfl)) only [ih]; kernel_rfl
theorem Zzw:Wc Tryz.prog 54:=Wb Tryz.func54 (show Wg Tryz.f54 = true by kernel_rfl)
theorem Zzx (N:Nat) (rv1:Int) (regs2:List Int) (writes3:List Kc) (kids4:Int):DN Zf0 N (rv1,regs2,writes3,kids4,()) = Zdj N rv1 regs2 writes3 kids4:=by
  have h:Zdj N rv1 regs2 writes3 kids4 = Zdj N rv1 regs2 writes3 kids4:=rfl
  conv at h=>rhs; rw [Zdj]
  simp (disch:=exact id (by kernel_rfl)) only [Zsn (R:=Unit × (Y_Family × Unit)) N (CF Zf0 N [1,1,0,1,0]),Zsp (R:=Unit × (Y_Family × Unit)) N (CF Zf0 N [1,1,1,0,1,0])] at h
  exact Eq.trans (by kernel_rfl) h.symm
theorem Zzy (N:Nat):Good Tryz.prog 54 (Zmh N):=GF Zf0 N Tryz.func54 (Wa (Zag N) Zaf (Wa (Zn5 N) Zn4 We)) (by kernel_rfl) (fun d=>Zzx N d.1 d.2.1 d.2.2.1 d.2.2.2.1)
def Zln (N:Nat):Sig:=Sig.of [.v Jx true] [.v Ja false,.v Ja false] (fun d=>Zji N d.1)
def Zyo:Fn:=⟨Tryz.f265,Wy,Zln,fun N=>[(217,Zh5 N)]⟩
theorem Zyp:Wc Tryz.prog 265:=Wb Tryz.func265 (show Wg Tryz.f265 = true by kernel_rfl)
theorem Zyq (N:Nat):Good Tryz.prog 265 (Zln N):=GF Zyo N Tryz.func265 (Wa (Zmw N) Zmv We) (by kernel_rfl) (fun d=>by kernel_rfl)
def Zil (N:Nat):Sig:=Sig.of [.v Je false] [.v (.own Jl) false] (fun d=>Zen N d.1)
def Zyr:Fn:=⟨Tryz.f240,Wy,Zil,Wcj⟩
theorem Zo4:Wc Tryz.prog 240:=Wb Tryz.func240 (show Wg Tryz.f240 = true by kernel_rfl)
theorem Zo5 (N:Nat):Good Tryz.prog 240 (Zil N):=GF Zyr N Tryz.func240 We (by kernel_rfl) (fun d=>by kernel_rfl)
def Zn9 (N:Nat):Sig:=Sig.of [.v Je false,.v Ja false,.v Ja false,.v Ja false] [.v Jac false] (fun d=>Zf9 N d.1 d.2.1 d.2.2.1 d.2.2.2.1)
def Zld:Fn:=⟨Tryz.f290,fun | 5=>[.canon [1,2,3,9,21,22,23,24]] | 6=>[.canon [1,2,3,9,11,21,22,23]] | 7=>[.canon [1,2,3,9,11,21,22,23,45]] | 8=>[.canon [1,2,3,9,21,22,23]] | 9=>[.canon [1,2,3,9,21,22,23]] | 100005=>[.canon [1,2,3,9,21,22,23]] | _=>[],Zn9,fun N=>[(241,Zgk N),(55,Z1 N)]⟩
def Zw1 (who7:Int) (what8:Int) (mode9:Int) (t10:List Kb) (t12:Int) (l13:List Int):St:=⟨[(1,vI who7),(2,vI what8),(3,vI mode9),(9,vO 0),(21,vV Je t10),(22,vI (ilen t10)),(23,vI t12)],[(0,.arr Ja l13)],1⟩
def Zuq (who7:Int) (what8:Int) (mode9:Int) (t10:List Kb) (t14:Int) (t15:Bool) (l16:List Int):St:=⟨[(1,vI who7),(2,vI what8),(3,vI mode9),(9,vO 0),(21,vV Je t10),(22,vI (ilen t10)),(23,vI t14),(24,vB t15)],[(0,.arr Ja l16)],1⟩
theorem Zw2 (N:Nat) {R:Type} (K:Ex → St → Option R) {who7:Int} {what8:Int} {mode9:Int} {t10:List Kb} {K0:Int → Bool → Kj → Option R} (h0:K0 = fun t14 t15 l16=>K (.exit 0) (Zuq who7 what8 mode9 t10 t14 t15 l16)) (n:Nat) (t12:Int) (l13:List Int):Za6 N who7 what8 mode9 t10 K0 n t12 l13 = LM Zld N 0 100005 n (Zw1 who7 what8 mode9 t10 t12 l13) K:=by
  subst h0
  induction n generalizing t12 l13 with
  | zero=>kernel_rfl
  | succ n ih=>rw [Za6]; simp (disch:=exact id (by kernel_rfl)) only [ih]; kernel_rfl
theorem Z3a:Wc Tryz.prog 290:=Wb Tryz.func290 (show Wg Tryz.f290 = true by kernel_rfl)
theorem Z3b (N:Nat) (l1:List Kb) (who2:Int) (what3:Int) (mode4:Int):DN Zld N (l1,who2,what3,mode4,()) = Zf9 N l1 who2 what3 mode4:=by
  have h:Zf9 N l1 who2 what3 mode4 = Zf9 N l1 who2 what3 mode4:=rfl
  conv at h=>rhs; rw [Zf9]
  simp (disch:=exact id (by kernel_rfl)) only [Zw2 (R:=Unit × (Kj × Unit)) N (CF Zld N [1,1,1,0,1,0])] at h
  exact Eq.trans (by kernel_rfl) h.symm
theorem Z3c (N:Nat):Good Tryz.prog 290 (Zn9 N):=GF Zld N Tryz.func290 (Wa (Zjx N) Zjw (Wa (Zab N) Zaa We)) (by kernel_rfl) (fun d=>Z3b N d.1 d.2.1 d.2.2.1 d.2.2.2.1)
def Zbe (N:Nat):Sig:=Sig.of [.mut Jl,.clos 281 0] [] (fun d=>Zy N d.1)
theorem Zfa:Wc Tryz.prog 291:=Wb Tryz.func291 (show Wg Tryz.f291 = true by kernel_rfl)
theorem Zfb:CmpOk Tryz.prog 281 Jl rngH cfH:=by
  intro G x y us vs w hx hy h1 h2
  obtain ⟨_,_,rfl,a1,_,_,rfl,a2,a3⟩:=h1
  obtain ⟨_,_,rfl,b1,_,_,rfl,b2,b3⟩:=h2
  simp only [Enc] at a1 a2 a3 b1 b2 b3
  subst a1 a2 a3 b1 b2 b3
  simp only [List.cons_append,List.nil_append]
  unfold rngH at hx hy
  simp only [Bool.and_eq_true] at hx hy
  go_enter Tryz.func281,Tryz.ntmps281
  go_wp2
  rw [guard_run (a:=x.2.1) (b:=y.2.1),Result.andThen_ok]
  rw [neq_run (a:=x.2.1) (b:=y.2.1),Result.andThen_ok]
  rcases hb:(bne (α:=Int) x.2.1 y.2.1) with _ | _
  · go_wp2
    rw [sub_run (Wnq hx.1) (Wnq hy.1) (cfH_eq hb)]
    go_wp2
    go_ret
    exact ⟨rfl,two_grow _ _ _⟩
  · go_wp2
    rw [sub_run (Wnq hx.2) (Wnq hy.2) (cfH_ne hb)]
    go_wp2
    go_ret
    exact ⟨rfl,two_grow _ _ _⟩
theorem Zfc (N:Nat):Good Tryz.prog 291 (Zbe N):=good_sortF sortFH (e:=.prod Ja Jw) rfl (by decide) Tryz.isAgg106 Tryz.sizeOf106 (enters_of Tryz.func281 (by kernel_rfl) rfl) swoH Zfb N
def Zng (N:Nat):Sig:=Sig.of [.v Je false,.v Ja false,.v Ja false,.v Ja false] [.v (.own Jl) false,.v Jp false] (fun d=>Zex N d.1 d.2.1 d.2.2.1 d.2.2.2.1)
def Zj2:Fn:=⟨Tryz.f266,fun | 5=>[.canon [1,2,3,10,35,36,37,38]] | 6=>[.canon [1,2,3,10,11,12,35,36,37]] | 7=>[.canon [1,2,3,10,11,12,35,36,37,51]] | 8=>[.canon [10]] | 9=>[.canon [8,9]] | 10=>[.canon [1,2,3,10,35,36,37]] | 100005=>[.canon [1,2,3,10,35,36,37]] | _=>[],Zng,fun N=>[(240,Zil N),(241,Zgk N),(280,Zk9 N),(290,Zn9 N),(291,Zbe N)]⟩
def Zur (who9:Int) (what10:Int) (mode11:Int) (t12:Int) (t13:Int) (l14:List Kb):St:=⟨[(1,vI who9),(2,vI what10),(3,vI mode11),(10,vO 0),(35,vO 0),(36,vI t12),(37,vI t13)],[(0,.arr Jl l14)],1⟩
def Zsq (who9:Int) (what10:Int) (mode11:Int) (t12:Int) (l14:List Kb) (l15:List Kb):St:=⟨[(8,vO 0),(9,vB true)],[(0,.arr Jl l15)],1⟩
def Zsr (who9:Int) (what10:Int) (mode11:Int) (t12:Int) (l14:List Kb) (t16:Int) (t17:Bool):St:=⟨[(1,vI who9),(2,vI what10),(3,vI mode11),(10,vO 0),(35,vO 0),(36,vI t12),(37,vI t16),(38,vB t17)],[(0,.arr Jl l14)],1⟩
theorem Zus (N:Nat) {R:Type} (K:Ex → St → Option R) {who9:Int} {what10:Int} {mode11:Int} {t12:Int} {l14:List Kb} {K0:Kn → Option R} {K1:Int → Bool → Option R} (h0:K0 = fun l15=>K .ret (Zsq who9 what10 mode11 t12 l14 l15)) (h1:K1 = fun t16 t17=>K (.exit 0) (Zsr who9 what10 mode11 t12 l14 t16 t17)) (n:Nat) (t13:Int):Zb6 N who9 what10 mode11 t12 l14 K0 K1 n t13 = LM Zj2 N 0 100005 n (Zur who9 what10 mode11 t12 t13 l14) K:=by
  subst h0 h1
  induction n generalizing t13 with
  | zero=>kernel_rfl
  | succ n ih=>rw [Zb6]; simp (disch:=exact id (by kernel_rfl)) only [ih]; kernel_rfl
theorem Z1g:Wc Tryz.prog 266:=Wb Tryz.func266 (show Wg Tryz.f266 = true by kernel_rfl)
theorem Z1h (N:Nat) (l1:List Kb) (who2:Int) (what3:Int) (mode4:Int):DN Zj2 N (l1,who2,what3,mode4,()) = Zex N l1 who2 what3 mode4:=by
  have h:Zex N l1 who2 what3 mode4 = Zex N l1 who2 what3 mode4:=rfl
  conv at h=>rhs; rw [Zex]
  simp (disch:=exact id (by kernel_rfl)) only [Zus (R:=Unit × (Kn × Kg)) N (CF Zj2 N [1,1,1,0,1,0])] at h
  exact Eq.trans (by kernel_rfl) h.symm
theorem Z1i (N:Nat):Good Tryz.prog 266 (Zng N):=GF Zj2 N Tryz.func266 (Wa (Zo5 N) Zo4 (Wa (Zjx N) Zjw (Wa (Zq1 N) Zq0 (Wa (Z3c N) Z3a (Wa (Zfc N) Zfa We))))) (by kernel_rfl) (fun d=>Z1h N d.1 d.2.1 d.2.2.1 d.2.2.2.1)
def Zoa (N:Nat):Sig:=Sig.of [.v Ja false,.v Ja false] [.v Jl true] (fun d=>Zkc N d.1 d.2.1)
def Z3d:Fn:=⟨Tryz.f292,Wy,Zoa,Wcj⟩
theorem Z3e:Wc Tryz.prog 292:=Wb Tryz.func292 (show Wg Tryz.f292 = true by kernel_rfl)
theorem Z3f (N:Nat):Good Tryz.prog 292 (Zoa N):=GF Z3d N Tryz.func292 We (by kernel_rfl) (fun d=>by kernel_rfl)
def Znh (N:Nat):Sig:=Sig.of [.v (.prod Jj Ja) true,.v Jx true,.v Jj false] [.v Jq true,.v Jac false,.v Jl true,.v Jp false] (fun d=>Zlw N d.1 d.2.1 d.2.2.1)
def Z1j:Fn:=⟨Tryz.f267,Wy,Znh,fun N=>[(268,Zik N),(72,Z4 N),(269,Zj0 N),(71,Zc0 N),(170,Zjp N),(158,Zhp N),(292,Zoa N),(211,Zho N),(271,Zix N)]⟩
theorem Z1k:Wc Tryz.prog 267:=Wb Tryz.func267 (show Wg Tryz.f267 = true by kernel_rfl)
theorem Z1l (N:Nat):Good Tryz.prog 267 (Znh N):=GF Z1j N Tryz.func267 (Wa (Zo3 N) Zo2 (Wa (Zag N) Zaf (Wa (Zp5 N) Zp4 (Wa (Zgv N) Zgu (Wa (Zp0 N) Zpz (Wa (Znb N) Zna (Wa (Z3f N) Z3e (Wa (Zm9 N) Zm8 (Wa (Zpm N) Zpl We))))))))) (by kernel_rfl) (fun d=>by kernel_rfl)
def Zj3 (N:Nat):Sig:=Sig.of [.box Jv,.v Ja false,.v Jx true] [] (fun d=>Zgs N d.1 d.2.1 d.2.2.1)
def Zut:Fn:=⟨Tryz.f236,fun | 1=>[.opn 20] | _=>[],Zj3,fun N=>[(265,Zln N),(266,Zng N),(264,Zgo N),(267,Znh N)]⟩
theorem Zuu:Wc Tryz.prog 236:=Wb Tryz.func236 (show Wg Tryz.f236 = true by kernel_rfl)
theorem Zuv (N:Nat):Good Tryz.prog 236 (Zj3 N):=GF Zut N Tryz.func236 (Wa (Zyq N) Zyp (Wa (Z1i N) Z1g (Wa (Zmp N) Zmo (Wa (Z1l N) Z1k We)))) (by kernel_rfl) (fun d=>by kernel_rfl)
def Zg1 (N:Nat):Sig:=Sig.of [.rp (TY_Root)] [.vj Jx] (fun d=>Zdu N d.1)
def Zss:Fn:=⟨Tryz.f202,Wy,Zg1,Wcj⟩
theorem Znn:Wc Tryz.prog 202:=Wb Tryz.func202 (show Wg Tryz.f202 = true by kernel_rfl)
theorem Zno (N:Nat):Good Tryz.prog 202 (Zg1 N):=GF Zss N Tryz.func202 We (by kernel_rfl) (fun d=>by kernel_rfl)
def Zmz (N:Nat):Sig:=Sig.of [.v Jx true,.v Jj false] [.v Jac false,.v Jp false] (fun d=>Zmm N d.1 d.2.1)
def Z4i:Fn:=⟨Tryz.f175,Wy,Zmz,fun N=>[(72,Z4 N),(217,Zh5 N),(71,Zc0 N)]⟩
theorem Zvg:Wc Tryz.prog 175:=Wb Tryz.func175 (show Wg Tryz.f175 = true by kernel_rfl)
theorem Zvh (N:Nat):Good Tryz.prog 175 (Zmz N):=GF Z4i N Tryz.func175 (Wa (Zag N) Zaf (Wa (Zmw N) Zmv (Wa (Zgv N) Zgu We))) (by kernel_rfl) (fun d=>by kernel_rfl)
def Zlo (N:Nat):Sig:=Sig.of [.box Jv,.v Ja false,.v Jn true] [] (fun d=>Zhm N d.1 d.2.1 d.2.2.1)
def Zys:Fn:=⟨Tryz.f200,fun | 1=>[.opn 14] | _=>[],Zlo,fun N=>[(233,Zg9 N),(234,Zkn N),(235,Zj1 N),(54,Zmh N),(236,Zj3 N),(72,Z4 N),(202,Zg1 N),(175,Zmz N)]⟩
theorem Zyt:Wc Tryz.prog 200:=Wb Tryz.func200 (show Wg Tryz.f200 = true by kernel_rfl)
theorem Zyu (N:Nat):Good Tryz.prog 200 (Zlo N):=GF Zys N Tryz.func200 (Wa (Zn7 N) Zn6 (Wa (Zwx N) Zww (Wa (Zup N) Zuo (Wa (Zzy N) Zzw (Wa (Zuv N) Zuu (Wa (Zag N) Zaf (Wa (Zno N) Znn (Wa (Zvh N) Zvg We)))))))) (by kernel_rfl) (fun d=>by kernel_rfl)
def Zlp (N:Nat):Sig:=Sig.of [.v (TY_KidRun) true] [.v Jp false] (fun d=>Zm2 N d.1)
def Zyv:Fn:=⟨Tryz.f67,Wy,Zlp,Wcj⟩
theorem Zyw:Wc Tryz.prog 67:=Wb Tryz.func67 (show Wg Tryz.f67 = true by kernel_rfl)
theorem Zyx (N:Nat):Good Tryz.prog 67 (Zlp N):=GF Zyv N Tryz.func67 We (by kernel_rfl) (fun d=>by kernel_rfl)
def Zam (N:Nat):Sig:=Sig.of [.v Jad false,.clos 67 0] [.v Ja false] (fun d=>Zm N d.1)
def Z2:Fn:=⟨Tryz.f128,fun | 2=>[.canon [0,1,7,8,9]] | 3=>[.canon [0,1,5,7,8]] | 4=>[.canon [0,1,5,7,8,16]] | 5=>[.canon [1,4]] | 6=>[.canon [0,1,7,8]] | 100002=>[.canon [0,1,7,8]] | _=>[],Zam,fun N=>[(67,Zlp N)]⟩
def Zds (s2:List Y_KidRun) (t4:Int):St:=⟨[(0,vV Jad s2),(1,.s (.one (.clos 67 []))),(7,vI (ilen s2)),(8,vI t4)],[],0⟩
def Zdh (s2:List Y_KidRun) (t7:Int):St:=⟨[(1,.s (.one (.clos 67 []))),(4,vI t7)],[],0⟩
def Zdi (s2:List Y_KidRun) (t8:Int) (t9:Bool):St:=⟨[(0,vV Jad s2),(1,.s (.one (.clos 67 []))),(7,vI (ilen s2)),(8,vI t8),(9,vB t9)],[],0⟩
theorem Zdt (N:Nat) {R:Type} (K:Ex → St → Option R) {s2:List Y_KidRun} {K0:Int → Option R} {K1:Int → Bool → Option R} (h0:K0 = fun t7=>K .ret (Zdh s2 t7)) (h1:K1 = fun t8 t9=>K (.exit 0) (Zdi s2 t8 t9)) (n:Nat) (t4:Int):Zi N s2 K0 K1 n t4 = LM Z2 N 0 100002 n (Zds s2 t4) K:=by
  subst h0 h1
  induction n generalizing t4 with
  | zero=>kernel_rfl
  | succ n ih=>rw [Zi]; simp (disch:=exact id (by kernel_rfl)) only [ih]; kernel_rfl
theorem Ze6:Wc Tryz.prog 128:=Wb Tryz.func128 (show Wg Tryz.f128 = true by kernel_rfl)
theorem Ze7 (N:Nat) (s1:List Y_KidRun):DN Z2 N (s1,()) = Zm N s1:=by
  have h:Zm N s1 = Zm N s1:=rfl
  conv at h=>rhs; rw [Zm]
  simp (disch:=exact id (by kernel_rfl)) only [Zdt (R:=Unit × Ki) N (CF Z2 N [1,0,1,0])] at h
  exact Eq.trans (by kernel_rfl) h.symm
theorem Ze8 (N:Nat):Good Tryz.prog 128 (Zam N):=GF Z2 N Tryz.func128 (Wa (Zyx N) Zyw We) (by kernel_rfl) (fun d=>Ze7 N d.1)
def Zah (N:Nat):Sig:=Sig.of [.v Jad false,.clos 67 0] [.v Jp false] (fun d=>Zaj N d.1)
def Zdw:Fn:=⟨Tryz.f66,Wy,Zah,fun N=>[(128,Zam N)]⟩
theorem Zdx:Wc Tryz.prog 66:=Wb Tryz.func66 (show Wg Tryz.f66 = true by kernel_rfl)
theorem Zdy (N:Nat):Good Tryz.prog 66 (Zah N):=GF Zdw N Tryz.func66 (Wa (Ze8 N) Ze6 We) (by kernel_rfl) (fun d=>by kernel_rfl)
def Zni (N:Nat):Sig:=Sig.of [.v (TY_Family) true] [.v Jp false] (fun d=>Zlx N d.1)
def Z1m:Fn:=⟨Tryz.f15,Wy,Zni,fun N=>[(66,Zah N)]⟩
theorem Z1n:Wc Tryz.prog 15:=Wb Tryz.func15 (show Wg Tryz.f15 = true by kernel_rfl)
theorem Z1o (N:Nat):Good Tryz.prog 15 (Zni N):=GF Z1m N Tryz.func15 (Wa (Zdy N) Zdx We) (by kernel_rfl) (fun d=>by kernel_rfl)
def Znj (N:Nat):Sig:=Sig.of [.v (TY_Family) true] [.v Jac false] (fun d=>Zey N d.1)
def Zj4:Fn:=⟨Tryz.f18,fun | 5=>[.canon [3,20,21,22,23]] | 6=>[.canon [3,4,5,20,21,22]] | 7=>[.canon [3,4,5,20,21,22]] | 8=>[.canon [3,4,5,20,21,22,37]] | 9=>[.canon [3,20,21,22]] | 10=>[.canon [3,20,21,22]] | 100005=>[.canon [3,20,21,22]] | _=>[],Znj,fun N=>[(71,Zc0 N),(72,Z4 N)]⟩
def Zuw (t4:List Y_KidRun) (t5:Int) (t6:Int) (l7:List Int):St:=⟨[(3,vO 0),(20,vV Jad t4),(21,vI t5),(22,vI t6)],[(0,.arr Ja l7)],1⟩
def Zst (t4:List Y_KidRun) (t5:Int) (t10:Int) (t11:Bool) (l12:List Int):St:=⟨[(3,vO 0),(20,vV Jad t4),(21,vI t5),(22,vI t10),(23,vB t11)],[(0,.arr Ja l12)],1⟩
theorem Zux (N:Nat) {R:Type} (K:Ex → St → Option R) {t4:List Y_KidRun} {t5:Int} {K0:Int → Bool → Kj → Option R} (h0:K0 = fun t10 t11 l12=>K (.exit 0) (Zst t4 t5 t10 t11 l12)) (n:Nat) (t6:Int) (l7:List Int):Zbj N t4 t5 K0 n t6 l7 = LM Zj4 N 0 100005 n (Zuw t4 t5 t6 l7) K:=by
  subst h0
  induction n generalizing t6 l7 with
  | zero=>kernel_rfl
  | succ n ih=>rw [Zbj]; simp (disch:=exact id (by kernel_rfl)) only [ih]; kernel_rfl
theorem Z1p:Wc Tryz.prog 18:=Wb Tryz.func18 (show Wg Tryz.f18 = true by kernel_rfl)
theorem Z1q (N:Nat) (f1:Y_Family):DN Zj4 N (f1,()) = Zey N f1:=by
  have h:Zey N f1 = Zey N f1:=rfl
  conv at h=>rhs; rw [Zey]
  simp (disch:=exact id (by kernel_rfl)) only [Zux (R:=Unit × (Kj × Unit)) N (CF Zj4 N [1,1,1,0,1,0])] at h
  exact Eq.trans (by kernel_rfl) h.symm
theorem Z1r (N:Nat):Good Tryz.prog 18 (Znj N):=GF Zj4 N Tryz.func18 (Wa (Zgv N) Zgu (Wa (Zag N) Zaf We)) (by kernel_rfl) (fun d=>Z1q N d.1)
def Znk (N:Nat):Sig:=Sig.of [.v (TY_Family) true] [.v (.own Jw) false] (fun d=>Zez N d.1)
def Zj5:Fn:=⟨Tryz.f20,fun | 3=>[.canon [3,8,9,10,11]] | 4=>[.canon [3,5,8,9,10]] | 5=>[.canon [3,8,9,10]] | 6=>[.canon [3,8,9,10]] | 100003=>[.canon [3,8,9,10]] | _=>[],Znk,Wcj⟩
def Zuy (t2:List Kb) (t3:Int) (t4:Int) (l5:List Kc):St:=⟨[(3,vO 0),(8,vV Je t2),(9,vI t3),(10,vI t4)],[(0,.arr Jw l5)],1⟩
def Zsu (t2:List Kb) (t3:Int) (t6:Int) (t7:Bool) (l8:List Kc):St:=⟨[(3,vO 0),(8,vV Je t2),(9,vI t3),(10,vI t6),(11,vB t7)],[(0,.arr Jw l8)],1⟩
theorem Zuz (N:Nat) {R:Type} (K:Ex → St → Option R) {t2:List Kb} {t3:Int} {K0:Int → Bool → (List Kc) → Option R} (h0:K0 = fun t6 t7 l8=>K (.exit 0) (Zsu t2 t3 t6 t7 l8)) (n:Nat) (t4:Int) (l5:List Kc):Zcz N t2 t3 K0 n t4 l5 = LM Zj5 N 0 100003 n (Zuy t2 t3 t4 l5) K:=by
  subst h0
  induction n generalizing t4 l5 with
  | zero=>kernel_rfl
  | succ n ih=>rw [Zcz]; simp (disch:=exact id (by kernel_rfl)) only [ih]; kernel_rfl
theorem Z1s:Wc Tryz.prog 20:=Wb Tryz.func20 (show Wg Tryz.f20 = true by kernel_rfl)
theorem Z1t (N:Nat) (f1:Y_Family):DN Zj5 N (f1,()) = Zez N f1:=by
  have h:Zez N f1 = Zez N f1:=rfl
  conv at h=>rhs; rw [Zez]
  simp (disch:=exact id (by kernel_rfl)) only [Zuz (R:=Unit × ((List Kc) × Unit)) N (CF Zj5 N [1,1,0,1,0])] at h
  exact Eq.trans (by kernel_rfl) h.symm
theorem Z1u (N:Nat):Good Tryz.prog 20 (Znk N):=GF Zj5 N Tryz.func20 We (by kernel_rfl) (fun d=>Z1t N d.1)
def Zlq (N:Nat):Sig:=Sig.of [.box Jae] [] (fun d=>Zhn N d.1)
def Zyy:Fn:=⟨Tryz.f201,Wy,Zlq,fun N=>[(198,Zc1 N),(15,Zni N),(18,Znj N),(20,Znk N),(72,Z4 N)]⟩
theorem Zyz:Wc Tryz.prog 201:=Wb Tryz.func201 (show Wg Tryz.f201 = true by kernel_rfl)
theorem Zy0 (N:Nat):Good Tryz.prog 201 (Zlq N):=GF Zyy N Tryz.func201 (Wa (Zgx N) Zgw (Wa (Z1o N) Z1n (Wa (Z1r N) Z1p (Wa (Z1u N) Z1s (Wa (Zag N) Zaf We))))) (by kernel_rfl) (fun d=>by kernel_rfl)
def Zjb (N:Nat):Sig:=Sig.of [.boxal Jv 3] [] (fun d=>Zgf N d.1 d.2.1)
def Zsv:Fn:=⟨Tryz.f204,fun | 1000000=>[.unfE 1] | _=>[],Zjb,fun N=>[(202,Zij N),(198,Zc1 N),(222,Zdg N),(72,Z4 N)]⟩
theorem Zsw:Wc Tryz.prog 204:=Wb Tryz.func204 (show Wg Tryz.f204 = true by kernel_rfl)
theorem Zsx (N:Nat):Good Tryz.prog 204 (Zjb N):=GF Zsv N Tryz.func204 (Wa (Zo1 N) Zo0 (Wa (Zgx N) Zgw (Wa (Zg8 N) Zg7 (Wa (Zag N) Zaf We)))) (by kernel_rfl) (fun d=>by kernel_rfl)
def Zh0 (N:Nat):Sig:=Sig.of [.v (.prod Ja Jr) true] [.v Jd true] (fun d=>Zg5 N d.1)
def Zw3:Fn:=⟨Tryz.f272,Wy,Zh0,fun N=>[(222,Zdg N),(72,Z4 N)]⟩
theorem Zoe:Wc Tryz.prog 272:=Wb Tryz.func272 (show Wg Tryz.f272 = true by kernel_rfl)
theorem Zof (N:Nat):Good Tryz.prog 272 (Zh0 N):=GF Zw3 N Tryz.func272 (Wa (Zg8 N) Zg7 (Wa (Zag N) Zaf We)) (by kernel_rfl) (fun d=>by kernel_rfl)
def Zgp (N:Nat):Sig:=Sig.of [.v (.prod Ja Jr) true] [.v Ja false] (fun d=>Zc8 N d.1)
def Zrh:Fn:=⟨Tryz.f293,Wy,Zgp,Wcj⟩
theorem Zmq:Wc Tryz.prog 293:=Wb Tryz.func293 (show Wg Tryz.f293 = true by kernel_rfl)
theorem Zmr (N:Nat):Good Tryz.prog 293 (Zgp N):=GF Zrh N Tryz.func293 We (by kernel_rfl) (fun d=>by kernel_rfl)
def Ziy (N:Nat):Sig:=Sig.of [.v (.prod Ja Jr) true] [.v Jp false] (fun d=>Zcp N d.1)
def Zf1:Fn:=⟨Tryz.f273,fun | 4=>[.canon [1,3,38]] | 5=>[.canon [1,3]] | 6=>[.canon [1,3,54]] | 7=>[.canon [2]] | 9=>[.canon [1,56,57,58,59]] | 10=>[.canon [1,4,5,56,57,58]] | 11=>[.canon [1,56,57,58,79]] | 12=>[.canon [2]] | 13=>[.canon [1,56,57,58]] | 100004=>[.canon [1,3]] | 100009=>[.canon [1,56,57,58]] | _=>[],Ziy,fun N=>[(288,Zeq N),(55,Z1 N),(73,Zg0 N),(65,Zb2 N),(293,Zgp N)]⟩
def Zsy (i7:Int) (b8:Int × Int × Int × Int × Int × List Kc × List Int):St:=⟨[(1,vP 0 0),(3,vI i7)],[(0,.box [.val Ja b8.1,.val Ja b8.2.1,.val Ja b8.2.2.1,.val Ja b8.2.2.2.1,.val Ja b8.2.2.2.2.1,.val Jg b8.2.2.2.2.2.1,.val Jj b8.2.2.2.2.2.2])],1⟩
def Zri (b8:Int × Int × Int × Int × Int × List Kc × List Int):St:=⟨[(2,vB false)],[],0⟩
def Zrj (b8:Int × Int × Int × Int × Int × List Kc × List Int) (i9:Int) (t10:Bool):St:=⟨[(1,vP 0 0),(3,vI i9),(38,vB t10)],[(0,.box [.val Ja b8.1,.val Ja b8.2.1,.val Ja b8.2.2.1,.val Ja b8.2.2.2.1,.val Ja b8.2.2.2.2.1,.val Jg b8.2.2.2.2.2.1,.val Jj b8.2.2.2.2.2.2])],1⟩
theorem Zsz (N:Nat) {R:Type} (K:Ex → St → Option R) {b8:Int × Int × Int × Int × Int × List Kc × List Int} {K0:Option R} {K1:Int → Bool → Option R} (h0:K0 = K .ret (Zri b8)) (h1:K1 = fun i9 t10=>K (.exit 0) (Zrj b8 i9 t10)) (n:Nat) (i7:Int):Zbs N b8 K0 K1 n i7 = LM Zf1 N 0 100004 n (Zsy i7 b8) K:=by
  subst h0 h1
  induction n generalizing i7 with
  | zero=>kernel_rfl
  | succ n ih=>rw [Zbs]; simp (disch:=exact id (by kernel_rfl)) only [ih]; kernel_rfl
def Zs0 (t13:List Int) (t15:Int) (b16:Int × Int × Int × Int × Int × List Kc × List Int):St:=⟨[(1,vP 0 0),(56,vV Jj t13),(57,vI (ilen b16.2.2.2.2.2.2)),(58,vI t15)],[(0,.box [.val Ja b16.1,.val Ja b16.2.1,.val Ja b16.2.2.1,.val Ja b16.2.2.2.1,.val Ja b16.2.2.2.2.1,.val Jg b16.2.2.2.2.2.1,.val Jj b16.2.2.2.2.2.2])],1⟩
def Zrk (t13:List Int) (b16:Int × Int × Int × Int × Int × List Kc × List Int):St:=⟨[(2,vB false)],[],0⟩
def Zrl (t13:List Int) (b16:Int × Int × Int × Int × Int × List Kc × List Int) (t19:Int) (t20:Bool):St:=⟨[(1,vP 0 0),(56,vV Jj t13),(57,vI (ilen b16.2.2.2.2.2.2)),(58,vI t19),(59,vB t20)],[(0,.box [.val Ja b16.1,.val Ja b16.2.1,.val Ja b16.2.2.1,.val Ja b16.2.2.2.1,.val Ja b16.2.2.2.2.1,.val Jg b16.2.2.2.2.2.1,.val Jj b16.2.2.2.2.2.2])],1⟩
theorem Zs1 (N:Nat) {R:Type} (K:Ex → St → Option R) {t13:List Int} {b16:Int × Int × Int × Int × Int × List Kc × List Int} {K0:Option R} {K1:Int → Bool → Option R} (h0:K0 = K .ret (Zrk t13 b16)) (h1:K1 = fun t19 t20=>K (.exit 2) (Zrl t13 b16 t19 t20)) (n:Nat) (t15:Int):Zbc N t13 b16 K0 K1 n t15 = LM Zf1 N 1 100009 n (Zs0 t13 t15 b16) K:=by
  subst h0 h1
  induction n generalizing t15 with
  | zero=>kernel_rfl
  | succ n ih=>rw [Zbc]; simp (disch:=exact id (by kernel_rfl)) only [ih]; kernel_rfl
theorem Zpn:Wc Tryz.prog 273:=Wb Tryz.func273 (show Wg Tryz.f273 = true by kernel_rfl)
theorem Zzz (N:Nat) (c1:Int × Int × Int × Int × Int × List Kc × List Int):DN Zf1 N (c1,()) = Zcp N c1:=by
  have h:Zcp N c1 = Zcp N c1:=rfl
  conv at h=>rhs; rw [Zcp]
  simp (disch:=exact id (by kernel_rfl)) only [Zsz (R:=Unit × Kg) N (CF Zf1 N [1,1,0,1,0]),Zs1 (R:=Unit × Kg) N (CF Zf1 N [1,1,1,0,1,0])] at h
  exact Eq.trans (by kernel_rfl) h.symm
theorem Zpo (N:Nat):Good Tryz.prog 273 (Ziy N):=GF Zf1 N Tryz.func273 (Wa (Zhr N) Zhq (Wa (Zab N) Zaa (Wa (Zlc N) Zlb (Wa (Zdr N) Zdq (Wa (Zmr N) Zmq We))))) (by kernel_rfl) (fun d=>Zzz N d.1)
def Zfr (N:Nat):Sig:=Sig.of [.box Jd,.v Ja false] [] (fun d=>Z3 N d.1 d.2.1)
def Zp6:Fn:=⟨Tryz.f274,Wy,Zfr,Wcj⟩
theorem Zlr:Wc Tryz.prog 274:=Wb Tryz.func274 (show Wg Tryz.f274 = true by kernel_rfl)
theorem Zls (N:Nat):Good Tryz.prog 274 (Zfr N):=GF Zp6 N Tryz.func274 We (by kernel_rfl) (fun d=>by kernel_rfl)
def Zj6 (N:Nat):Sig:=Sig.of [.v (.prod Ja Jr) true] [.v Jd true,.v Jp false] (fun d=>Zic N d.1)
def Zu0:Fn:=⟨Tryz.f238,Wy,Zj6,fun N=>[(272,Zh0 N),(273,Ziy N),(274,Zfr N)]⟩
theorem Zu1:Wc Tryz.prog 238:=Wb Tryz.func238 (show Wg Tryz.f238 = true by kernel_rfl)
theorem Zu2 (N:Nat):Good Tryz.prog 238 (Zj6 N):=GF Zu0 N Tryz.func238 (Wa (Zof N) Zoe (Wa (Zpo N) Zpn (Wa (Zls N) Zlr We))) (by kernel_rfl) (fun d=>by kernel_rfl)
def Zer (N:Nat):Sig:=Sig.of [.v Jab true] [.v Jag true] (fun d=>Zca N d.1)
def Z1v:Fn:=⟨Tryz.f123,Wy,Zer,Wcj⟩
theorem Zhs:Wc Tryz.prog 123:=Wb Tryz.func123 (show Wg Tryz.f123 = true by kernel_rfl)
theorem Zht (N:Nat):Good Tryz.prog 123 (Zer N):=GF Z1v N Tryz.func123 We (by kernel_rfl) (fun d=>by kernel_rfl)
def Zpb (N:Nat):Sig:=Sig.of [.v Jab true,.v Ja false,.v Ja false] [.v Jag true,.v Jp false] (fun d=>Zmn N d.1 d.2.1 d.2.2.1)
def Z4j:Fn:=⟨Tryz.f275,Wy,Zpb,fun N=>[(123,Zer N),(124,Ze5 N),(65,Zb2 N),(288,Zeq N)]⟩
theorem Z4k:Wc Tryz.prog 275:=Wb Tryz.func275 (show Wg Tryz.f275 = true by kernel_rfl)
theorem Z4l (N:Nat):Good Tryz.prog 275 (Zpb N):=GF Z4j N Tryz.func275 (Wa (Zht N) Zhs (Wa (Zhh N) Zhg (Wa (Zdr N) Zdq (Wa (Zhr N) Zhq We)))) (by kernel_rfl) (fun d=>by kernel_rfl)
def Zgd (N:Nat):Sig:=Sig.of [.box Jd,.v Ja false] [] (fun d=>Ze0 N d.1 d.2.1)
def Zqj:Fn:=⟨Tryz.f277,Wy,Zgd,Wcj⟩
theorem Zl8:Wc Tryz.prog 277:=Wb Tryz.func277 (show Wg Tryz.f277 = true by kernel_rfl)
theorem Zl9 (N:Nat):Good Tryz.prog 277 (Zgd N):=GF Zqj N Tryz.func277 We (by kernel_rfl) (fun d=>by kernel_rfl)
def Zj7 (N:Nat):Sig:=Sig.of [.box Jd,.v Ja false] [] (fun d=>Zbk N d.1 d.2.1)
def Zu3:Fn:=⟨Tryz.f276,Wy,Zj7,fun N=>[(293,Zgp N),(277,Zgd N)]⟩
theorem Zu4:Wc Tryz.prog 276:=Wb Tryz.func276 (show Wg Tryz.f276 = true by kernel_rfl)
theorem Zu5 (N:Nat):Good Tryz.prog 276 (Zj7 N):=GF Zu3 N Tryz.func276 (Wa (Zmr N) Zmq (Wa (Zl9 N) Zl8 We)) (by kernel_rfl) (fun d=>by kernel_rfl)
end
end Go.Sx
