/- Each Go function does what its Lean function says. -/
import Derived.Test.YtfajigbmoebkaaaGreatT2
import Derived.Test.YtfajigbmoebkaaaGreatProg
import Derived.Test.YtfajigbmoebkaaaGreatLay
namespace Go.Sx
noncomputable section
open Go.Proofs
abbrev Ja:Ty:=.int .i64
abbrev Jb:Ty:=.prod (.own Ja) (.prod (.own (.prod Ja Ja)) (.prod (.own (.prod Ja (.prod Ja Ja))) (.prod (.own Ja) (.prod (.own (.prod Ja Ja)) (.own (.prod Ja (.prod Ja (.prod Ja (.prod Ja (.prod Ja (.prod Ja (.prod (.own Ja) (.prod (.own (.prod Ja (.prod Ja Ja))) (.prod (.own (.prod Ja Ja)) (.prod (.own (.prod Ja (.prod Ja (.own Ja)))) (.prod (.bool) (.prod Ja (.prod Ja (.prod Ja Ja)))))))))))))))))))
abbrev Jc:Ty:=.slice (.prod Ja (.prod Ja (.prod Ja Ja)))
abbrev Jd:Ty:=.prod Ja (.prod Ja (.prod Ja (.prod Ja (.prod Ja (.prod (.own (.prod Ja Ja)) (.own Ja))))))
abbrev Je:Ty:=.slice (.prod Ja (.prod Ja Ja))
abbrev Jf:Ty:=.own (.prod Ja (.prod Ja (.prod Ja (.prod Ja (.slice Ja)))))
abbrev Jg:Ty:=.prod Ja (.prod Ja (.prod Ja (.prod Ja (.prod Ja (.prod Ja (.prod Ja (.prod Ja (.prod Ja (.prod Ja (.prod (.bool) (.prod (.own Ja) (.prod (.own (.prod Ja Ja)) (.prod (.own (.prod Ja Ja)) (.prod Jf (.prod (.own (.prod Ja (.prod Ja Ja))) (.prod (.own Ja) (.prod (.bool) (.prod (.prod Ja (.prod Ja (.prod Ja Ja))) (.prod Jd (.prod Ja (.prod Ja (.prod Ja (.prod (.bool) Jb)))))))))))))))))))))))
abbrev Jh:Ty:=.prod Ja (.prod Ja (.prod Ja (.prod Ja (.prod Ja (.prod Ja (.prod (.own Ja) (.prod (.own (.prod Ja (.prod Ja Ja))) (.prod (.own (.prod Ja Ja)) (.prod (.own (.prod Ja (.prod Ja (.own Ja)))) (.prod (.bool) (.prod Ja (.prod Ja (.prod Ja Ja)))))))))))))
abbrev Ji:Ty:=.prod Ja (.prod Ja (.slice (.prod Ja Ja)))
abbrev Jj:Ty:=.slice Ja
abbrev Jk:Ty:=.prod Ja (.prod Ja Ja)
abbrev Jl:Ty:=.prod (.slice (.int .u8)) (.prod Ja Ja)
abbrev Jm:Ty:=.prod Jc (.slice Jc)
abbrev Jn:Ty:=.slice (.prod Ja Ja)
abbrev Jo:Ty:=.prod (.own (.prod Ja Jg)) (.own Ji)
abbrev Jp:Ty:=.bool
abbrev Jq:Ty:=.prod (.own Ja) Ja
abbrev Jr:Ty:=.prod Jj (.prod Jj Ja)
abbrev Js:Ty:=.prod Ja (.prod Ja (.own Ja))
abbrev Jt:Ty:=.prod Ja (.prod Ja (.prod (.prod Ja (.own Jk)) (.prod Jq (.prod (.own Jk) Jo))))
abbrev Ju:Ty:=.slice (.int .u8)
abbrev Jv:Ty:=.prod Ja Jk
abbrev Jw:Ty:=.prod Ja Ja
abbrev Jx:Ty:=.prod Ja (.prod Ja (.prod Ja (.prod Ja (.prod Jn Jj))))
abbrev Jy:Ty:=.prod Ja (.prod Ja (.prod Ja (.prod Jp Jb)))
abbrev Jz:Ty:=.prod Jr (.prod (.slice Jm) Je)
abbrev Jaa:Ty:=.prod Ja Jg
abbrev Jab:Ty:=.prod Ja Je
abbrev Jac:Ty:=.own Ja
abbrev Jad:Ty:=.slice (TY_KidRun)
abbrev Jae:Ty:=.prod Ja (.prod Ja (.prod Ja Jj))
abbrev Jaf:Ty:=.slice Jm
abbrev Jag:Ty:=.prod Ja (.own Jk)
abbrev Ka:Type:=Int × Int × Int × Int
abbrev Kb:Type:=Int × Int × Int
abbrev Kc:Type:=Int × Int
abbrev Ke:Type:=List Int × List Int × Int
abbrev Kf:Type:=List Int × Int × Int
abbrev Kg:Type:=Bool × Unit
abbrev Kh:Type:=List Int
abbrev Ki:Type:=Int × Int × List Int
abbrev Kj:Type:=Int × Unit
abbrev Kk:Type:=List Ka × List (List Ka)
abbrev Kl:Type:=Int × Int × List Kc
abbrev Km:Type:=List Kb
abbrev Kn:Type:=Kf × Unit
abbrev Ko:Type:=List Ka
set_option linter.unusedVariables false
set_option linter.unusedSimpArgs false
def tab:Tab:=[(3,⟨.int .i64,false,.basic⟩),(4,⟨.bool,false,.basic⟩),(5,⟨.int .u8,false,.basic⟩),(9,⟨.str,false,.basic⟩),(22,⟨.slice (.int .u8),false,.slice 5⟩),(24,⟨.slice Ja,false,.slice 3⟩),(25,⟨.slice Jw,false,.slice 137⟩),(26,⟨.slice Jc,false,.slice 117⟩),(30,⟨.slice Jk,false,.slice 102⟩),(32,⟨.prod Ja Je,true,.struct [(0,3),(1,30)]⟩),(33,⟨.slice Jk,false,.slice 127⟩),(34,⟨.slice (TY_KidRun),false,.slice 125⟩),(36,⟨TY_Family,true,.struct [(0,3),(1,3),(2,3),(3,4),(4,24),(5,25),(6,33),(7,24),(8,25),(9,34)]⟩),(63,⟨.prod Jj (.prod Jj Ja),true,.struct [(0,24),(1,24),(2,3)]⟩),(64,⟨.slice Jm,false,.slice 159⟩),(65,⟨.slice Jk,false,.slice 96⟩),(67,⟨.prod Jr (.prod Jaf Je),true,.struct [(0,63),(3,64),(4,65)]⟩),(69,⟨.slice Jv,false,.slice 81⟩),(73,⟨.prod Jj Ja,true,.struct [(0,24),(1,3)]⟩),(74,⟨.slice Jk,false,.slice 106⟩),(75,⟨.slice (TY_Root),false,.slice 90⟩),(76,⟨.slice Ji,false,.slice 162⟩),(78,⟨TY_World,true,.struct [(0,3),(1,3),(2,32),(4,73),(6,74),(7,75),(8,76)]⟩),(81,⟨.prod Ja Jk,true,.struct [(0,3),(1,3),(2,3),(3,3)]⟩),(83,⟨.slice (.prod Ja Jae),false,.slice 249⟩),(84,⟨.slice Jk,false,.slice 275⟩),(86,⟨.prod Ja Jk,true,.struct [(0,3),(1,3),(2,3),(3,3)]⟩),(88,⟨.prod Ja Jx,true,.struct [(0,3),(1,3),(2,3),(3,3),(4,3),(5,25),(6,24)]⟩),(90,⟨TY_Root,true,.struct [(0,3),(1,3),(2,3),(3,3),(4,3),(5,3),(6,3),(7,3),(8,3),(9,3),(10,3),(11,4),(12,24),(13,25),(14,25),(15,83),(16,84),(17,24),(18,4),(19,86),(23,88),(30,36)]⟩),(96,⟨.prod Ja Jw,true,.struct [(0,3),(1,3),(2,3)]⟩),(102,⟨.prod Ja Jw,true,.struct [(0,3),(1,3),(2,3)]⟩),(106,⟨.prod Ja Jw,true,.struct [(0,3),(1,3),(2,3)]⟩),(115,⟨.slice Jv,false,.slice 176⟩),(117,⟨.slice Jv,true,.struct [(0,115)]⟩),(123,⟨.slice (.prod Ja (.prod Ja Jj)),false,.slice 226⟩),(125,⟨TY_KidRun,true,.struct [(0,3),(1,3),(2,3),(3,3),(4,3),(5,3),(6,24),(7,33),(8,25),(9,123),(10,4),(11,86)]⟩),(127,⟨.prod Ja Jw,true,.struct [(0,3),(1,3),(2,3)]⟩),(137,⟨.prod Ja Ja,true,.struct [(0,3),(1,3)]⟩),(159,⟨.prod Jc (.slice Jc),true,.struct [(0,115),(1,26)]⟩),(162,⟨.prod Ja (.prod Ja Jn),true,.struct [(0,3),(1,3),(2,25)]⟩),(164,⟨.prod Ju Jw,true,.struct [(0,22),(1,3),(2,3)]⟩),(176,⟨.prod Ja Jk,true,.struct [(0,3),(1,3),(2,3),(3,3)]⟩),(211,⟨.slice (.str),false,.slice 9⟩),(226,⟨.prod Ja (.prod Ja Jj),true,.struct [(0,3),(1,3),(2,24)]⟩),(249,⟨.prod Ja Jae,true,.struct [(0,3),(1,3),(2,3),(3,3),(4,24)]⟩),(275,⟨.prod Ja Jw,true,.struct [(0,3),(1,3),(2,3)]⟩),(283,⟨.bool,true,.arr 8 4⟩)]
theorem mixedOk:Tryz.prog.follows .mixedOrders = true:=by kernel_rfl
theorem tabOk:Wbc Tryz.prog tab:=tab_ok (show Wzk Tryz.prog tab tab = true by kernel_rfl)
def LM (x:Fn) (N:Nat) {R:Type} (i k n:Nat) (st:St) (K:Ex → St → Option R):Option R:=lpM tab (x.c N) x.a N x.F i k n st K
def CF (x:Fn) (N:Nat) (p:List Nat):Ex → St → Option (Qs (x.s N)):=cxF tab (x.c N) x.a N (x.s N) x.F p
def CL (x:Fn) (N:Nat) {R:Type} (i k:Nat) (p:List Nat) (n:Nat) (K:Ex → St → Option R):Ex → St → Option R:=cxL tab (x.c N) x.a N x.F i k p n K
def DN (x:Fn) (N:Nat) (d:PDen (x.s N).ps):Option (Qs (x.s N)):=den (R:=Qs (x.s N)) tab (x.c N) x.a N (x.s N) x.F d some
theorem GF (x:Fn) {k:FuncId} (N:Nat) (hf:Tryz.prog.funcs[k]? = some x.F) (hc:Wme Tryz.prog (x.c N)) (hok:chkBody x.F (x.s N).ps = true) (h:∀ d,DN x N d = (x.s N).run d):Good Tryz.prog k (x.s N) :=
  good_body mixedOk tabOk hc hf hok (fun d _ e=>⟨N,(h d).trans e⟩)
def Zpw (N:Nat):Sig:=Sig.of [.v Ju false] [.v Jp false] (fun d=>Ztc N d.1)
def Z4l:Fn:=⟨Tryz.f9,Wy,Zpw,Wde⟩
theorem Z4m:Wc Tryz.prog 9:=Wb Tryz.func9 (show Wg Tryz.f9 = true by kernel_rfl)
theorem Z4n (N:Nat):Good Tryz.prog 9 (Zpw N):=GF Z4l N Tryz.func9 We (by kernel_rfl) (fun d=>by kernel_rfl)
def Zol (N:Nat):Sig:=Sig.of [.v Ju false] [.box Jl] (fun d=>Zgs N d.1)
def Zl4:Fn:=⟨Tryz.f50,fun | 3=>[.canon [0,3,4,15]] | 4=>[.canon [0,3,4]] | 5=>[.canon [0,3,4]] | 100003=>[.canon [0,3,4]] | _=>[],Zol,Wde⟩
def Zxg (code2:List Int) (h3:Int) (i4:Int):St:=⟨[(0,vV Ju code2),(3,vI h3),(4,vI i4)],[],0⟩
def Zvk (code2:List Int) (h5:Int) (i6:Int) (t7:Bool):St:=⟨[(0,vV Ju code2),(3,vI h5),(4,vI i6),(15,vB t7)],[],0⟩
theorem Zxh (N:Nat) {R:Type} (K:Ex → St → Option R) {code2:List Int} {K0:Int → Int → Bool → Option R} (h0:K0 = fun h5 i6 t7=>K (.exit 0) (Zvk code2 h5 i6 t7)) (n:Nat) (h3:Int) (i4:Int):Zcr N code2 K0 n h3 i4 = LM Zl4 N 0 100003 n (Zxg code2 h3 i4) K:=by
  subst h0
  induction n generalizing h3 i4 with
  | zero=>kernel_rfl
  | succ n ih=>rw [Zcr]; simp (disch:=exact id (by kernel_rfl)) only [ih]; kernel_rfl
theorem Z3c:Wc Tryz.prog 50:=Wb Tryz.func50 (show Wg Tryz.f50 = true by kernel_rfl)
theorem Z3d (N:Nat) (code1:List Int):DN Zl4 N (code1,()) = Zgs N code1:=by
  have h:Zgs N code1 = Zgs N code1:=rfl
  conv at h=>rhs; rw [Zgs]
  simp (disch:=exact id (by kernel_rfl)) only [Zxh (R:=Unit × Kn) N (CF Zl4 N [1,1,0,1,0])] at h
  exact Eq.trans (by kernel_rfl) h.symm
theorem Z3e (N:Nat):Good Tryz.prog 50 (Zol N):=GF Zl4 N Tryz.func50 We (by kernel_rfl) (fun d=>Z3d N d.1)
def Znv (N:Nat):Sig:=Sig.of [.box Jl] [.v Ja false] (fun d=>Zf5 N d.1)
def Z11:Fn:=⟨Tryz.f168,Wy,Znv,Wde⟩
theorem Z12:Wc Tryz.prog 168:=Wb Tryz.func168 (show Wg Tryz.f168 = true by kernel_rfl)
theorem Z13 (N:Nat):Good Tryz.prog 168 (Znv N):=GF Z11 N Tryz.func168 We (by kernel_rfl) (fun d=>by kernel_rfl)
def Z9 (N:Nat):Sig:=Sig.of [.box Jl,.v Ja false] [.v Ja false] (fun d=>Zb N d.1 d.2.1)
def Zz5:Fn:=⟨Tryz.f115,Wy,Z9,fun N=>[(168,Znv N)]⟩
theorem Zae:Wc Tryz.prog 115:=Wb Tryz.func115 (show Wg Tryz.f115 = true by kernel_rfl)
theorem Zaf (N:Nat):Good Tryz.prog 115 (Z9 N):=GF Zz5 N Tryz.func115 (Wa (Z13 N) Z12 We) (by kernel_rfl) (fun d=>by kernel_rfl)
def Zb3 (N:Nat):Sig:=Sig.of [.box Jl,.v Ja false] [.v Jp false] (fun d=>Zw N d.1 d.2.1)
def Z14:Fn:=⟨Tryz.f166,Wy,Zb3,fun N=>[(115,Z9 N)]⟩
theorem Zdl:Wc Tryz.prog 166:=Wb Tryz.func166 (show Wg Tryz.f166 = true by kernel_rfl)
theorem Zdm (N:Nat):Good Tryz.prog 166 (Zb3 N):=GF Z14 N Tryz.func166 (Wa (Zaf N) Zae We) (by kernel_rfl) (fun d=>by kernel_rfl)
def Zgv (N:Nat):Sig:=Sig.of [.box Jl,.v Jj false] [.v Ja false] (fun d=>Zbo N d.1 d.2.1)
def Zxi:Fn:=⟨Tryz.f215,Wy,Zgv,fun N=>[(115,Z9 N)]⟩
theorem Zlj:Wc Tryz.prog 215:=Wb Tryz.func215 (show Wg Tryz.f215 = true by kernel_rfl)
theorem Zlk (N:Nat):Good Tryz.prog 215 (Zgv N):=GF Zxi N Tryz.func215 (Wa (Zaf N) Zae We) (by kernel_rfl) (fun d=>by kernel_rfl)
def Zim (N:Nat):Sig:=Sig.of [.box Jl] [.v Ja false] (fun d=>Zg8 N d.1)
def Z15:Fn:=⟨Tryz.f162,Wy,Zim,fun N=>[(166,Zb3 N),(215,Zgv N),(115,Z9 N)]⟩
theorem Znw:Wc Tryz.prog 162:=Wb Tryz.func162 (show Wg Tryz.f162 = true by kernel_rfl)
theorem Znx (N:Nat):Good Tryz.prog 162 (Zim N):=GF Z15 N Tryz.func162 (Wa (Zdm N) Zdl (Wa (Zlk N) Zlj (Wa (Zaf N) Zae We))) (by kernel_rfl) (fun d=>by kernel_rfl)
def Zko (N:Nat):Sig:=Sig.of [.box Jl] [.v Jac false] (fun d=>Zcf N d.1)
def Zh4:Fn:=⟨Tryz.f161,fun | 3=>[.canon [0,3,4,7]] | 4=>[.canon [0,3,4]] | 5=>[.canon [0,3,4]] | 100003=>[.canon [0,3,4]] | _=>[],Zko,fun N=>[(162,Zim N)]⟩
def Zqc (i2:Int) (b3:List Int × Int × Int) (l4:List Int):St:=⟨[(0,vP 0 0),(3,vO 1),(4,vI i2)],[(0,.box [.val Ju b3.1,.val Ja b3.2.1,.val Ja b3.2.2]),(1,.arr Ja l4)],2⟩
def Zpx (i6:Int) (t7:Bool) (b8:List Int × Int × Int) (l9:List Int):St:=⟨[(0,vP 0 0),(3,vO 1),(4,vI i6),(7,vB t7)],[(0,.box [.val Ju b8.1,.val Ja b8.2.1,.val Ja b8.2.2]),(1,.arr Ja l9)],2⟩
theorem Zqd (N:Nat) {R:Type} (K:Ex → St → Option R) {K0:Int → Bool → Kf → Kh → Option R} (h0:K0 = fun i6 t7 b8 l9=>K (.exit 0) (Zpx i6 t7 b8 l9)) (n:Nat) (i2:Int) (b3:List Int × Int × Int) (l4:List Int):Zco N K0 n i2 b3 l4 = LM Zh4 N 0 100003 n (Zqc i2 b3 l4) K:=by
  subst h0
  induction n generalizing i2 b3 l4 with
  | zero=>kernel_rfl
  | succ n ih=>rw [Zco]; simp (disch:=exact id (by kernel_rfl)) only [ih]; kernel_rfl
theorem Zvl:Wc Tryz.prog 161:=Wb Tryz.func161 (show Wg Tryz.f161 = true by kernel_rfl)
theorem Zvm (N:Nat) (c1:List Int × Int × Int):DN Zh4 N (c1,()) = Zcf N c1:=by
  have h:Zcf N c1 = Zcf N c1:=rfl
  conv at h=>rhs; rw [Zcf]
  simp (disch:=exact id (by kernel_rfl)) only [Zqd (R:=Kn × (Kh × Unit)) N (CF Zh4 N [1,1,0,1,0])] at h
  exact Eq.trans (by kernel_rfl) h.symm
theorem Zvn (N:Nat):Good Tryz.prog 161 (Zko N):=GF Zh4 N Tryz.func161 (Wa (Znx N) Znw We) (by kernel_rfl) (fun d=>Zvm N d.1)
def Zi0 (N:Nat):Sig:=Sig.of [.box Jl] [.v (.prod Jac Jq) true] (fun d=>Zcm N d.1)
def Zi1:Fn:=⟨Tryz.f193,fun | 3=>[.canon [0,2,3,4,12]] | 4=>[.canon [0,2,3,4]] | 5=>[.canon [0,2,3,4,5]] | 6=>[.canon [0,2,3,4,5,16]] | 7=>[.canon [0,2,3,4,5]] | 8=>[.canon [0,2,3,4]] | 100003=>[.adoptC 3 1 Ja,.canon [0,2,3,4]] | _=>[],Zi0,fun N=>[(161,Zko N),(162,Zim N),(166,Zb3 N)]⟩
def Zro (i4:Int) (b5:List Int × Int × Int) (b7:Int) (l8:List Int) (l9:List Int):St:=⟨[(0,vP 0 0),(2,vP 1 0),(3,vP 2 0),(4,vI i4)],[(0,.box [.val Ju b5.1,.val Ja b5.2.1,.val Ja b5.2.2]),(1,.box [.nils,.nils,.val Ja (0:Int)]),(2,.box [.own 3,.own 4,.val Ja b7]),(3,.arr Ja l8),(4,.arr Ja l9)],5⟩
def Zq5 (b7:Int) (l8:List Int) (i14:Int) (t15:Bool) (b16:List Int × Int × Int) (l17:List Int):St:=⟨[(0,vP 0 0),(2,vP 1 0),(3,vP 2 0),(4,vI i14),(12,vB t15)],[(0,.box [.val Ju b16.1,.val Ja b16.2.1,.val Ja b16.2.2]),(1,.box [.nils,.nils,.val Ja (0:Int)]),(2,.box [.own 3,.own 4,.val Ja b7]),(3,.arr Ja l8),(4,.arr Ja l17)],5⟩
theorem Zrp (N:Nat) {R:Type} (K:Ex → St → Option R) {b7:Int} {l8:List Int} {K0:Int → Bool → Kf → Kh → Option R} (h0:K0 = fun i14 t15 b16 l17=>K (.exit 0) (Zq5 b7 l8 i14 t15 b16 l17)) (n:Nat) (i4:Int) (b5:List Int × Int × Int) (l9:List Int):Zcl N b7 l8 K0 n i4 b5 l9 = LM Zi1 N 0 100003 n (Zro i4 b5 b7 l8 l9) K:=by
  subst h0
  induction n generalizing i4 b5 l9 with
  | zero=>kernel_rfl
  | succ n ih=>rw [Zcl]; simp (disch:=exact id (by kernel_rfl)) only [ih]; kernel_rfl
theorem Zpi:Wc Tryz.prog 193:=Wb Tryz.func193 (show Wg Tryz.f193 = true by kernel_rfl)
theorem Zy6 (N:Nat) (c1:List Int × Int × Int):DN Zi1 N (c1,()) = Zcm N c1:=by
  have h:Zcm N c1 = Zcm N c1:=rfl
  conv at h=>rhs; rw [Zcm]
  simp (disch:=exact id (by kernel_rfl)) only [Zrp (R:=Kn × (Ke × Unit)) N (CF Zi1 N [1,1,0,1,0])] at h
  exact Eq.trans (by kernel_rfl) h.symm
theorem Zpj (N:Nat):Good Tryz.prog 193 (Zi0 N):=GF Zi1 N Tryz.func193 (Wa (Zvn N) Zvl (Wa (Znx N) Znw (Wa (Zdm N) Zdl We))) (by kernel_rfl) (fun d=>Zy6 N d.1)
def Zll (N:Nat):Sig:=Sig.of [.box Jl] [.v Ja false] (fun d=>Za N d.1)
def Zxj:Fn:=⟨Tryz.f245,Wy,Zll,fun N=>[(115,Z9 N)]⟩
theorem Zxk:Wc Tryz.prog 245:=Wb Tryz.func245 (show Wg Tryz.f245 = true by kernel_rfl)
theorem Zxl (N:Nat):Good Tryz.prog 245 (Zll N):=GF Zxj N Tryz.func245 (Wa (Zaf N) Zae We) (by kernel_rfl) (fun d=>by kernel_rfl)
def Zkp (N:Nat):Sig:=Sig.of [.box Jl] [.v Ja false] (fun d=>Zbx N d.1)
def Zvo:Fn:=⟨Tryz.f167,Wy,Zkp,fun N=>[(166,Zb3 N),(115,Z9 N)]⟩
theorem Zvp:Wc Tryz.prog 167:=Wb Tryz.func167 (show Wg Tryz.f167 = true by kernel_rfl)
theorem Zvq (N:Nat):Good Tryz.prog 167 (Zkp N):=GF Zvo N Tryz.func167 (Wa (Zdm N) Zdl (Wa (Zaf N) Zae We)) (by kernel_rfl) (fun d=>by kernel_rfl)
def Zlm (N:Nat):Sig:=Sig.of [.box Jl] [.v Ja false] (fun d=>Zk N d.1)
def Zxm:Fn:=⟨Tryz.f246,Wy,Zlm,fun N=>[(166,Zb3 N),(115,Z9 N),(215,Zgv N)]⟩
theorem Zxn:Wc Tryz.prog 246:=Wb Tryz.func246 (show Wg Tryz.f246 = true by kernel_rfl)
theorem Zxo (N:Nat):Good Tryz.prog 246 (Zlm N):=GF Zxm N Tryz.func246 (Wa (Zdm N) Zdl (Wa (Zaf N) Zae (Wa (Zlk N) Zlj We))) (by kernel_rfl) (fun d=>by kernel_rfl)
def Zjp (N:Nat):Sig:=Sig.of [.box Jl,.v Ja false] [.v Jv true] (fun d=>Zj N d.1 d.2.1)
def Zz6:Fn:=⟨Tryz.f216,Wy,Zjp,fun N=>[(245,Zll N),(162,Zim N),(167,Zkp N),(115,Z9 N),(246,Zlm N)]⟩
theorem Zpy:Wc Tryz.prog 216:=Wb Tryz.func216 (show Wg Tryz.f216 = true by kernel_rfl)
theorem Zpz (N:Nat):Good Tryz.prog 216 (Zjp N):=GF Zz6 N Tryz.func216 (Wa (Zxl N) Zxk (Wa (Znx N) Znw (Wa (Zvq N) Zvp (Wa (Zaf N) Zae (Wa (Zxo N) Zxn We))))) (by kernel_rfl) (fun d=>by kernel_rfl)
def Zkz (N m:Nat):Sig:=Sig.of [.box Jl,.v Ja false,.v Ja false,.v Jp false] [.v (.own Jv) false] (fun d=>Zcc N m d.1 d.2.1 d.2.2.1 d.2.2.2.1)
def Zrq (N:Nat):Sig:=Zkz N N
def Zl5 (m:Nat):Fn:=⟨Tryz.f164,fun | 3=>[.canon [0,1,2,3,9,10,27]] | 4=>[.canon [0,1,2,3,9,10]] | 5=>[.canon [0,1,2,3,9,10,11]] | 6=>[.canon [0,1,2,3,9,10]] | 7=>[.canon [0,1,2,3,9,10,11,40]] | 8=>[.canon [0,1,2,3,9,10]] | 9=>[.canon [0,1,2,3,9,10,11,48]] | 10=>[.canon [0,1,2,3,9,10]] | 11=>[.canon [0,1,2,3,9,10,11,56]] | 12=>[.canon [0,1,2,3,9,10]] | 13=>[.canon [0,1,2,3,9,10,11,67]] | 14=>[.canon [0,1,2,3,9,10,12]] | 15=>[.canon [0,1,2,3,9,10,12]] | 16=>[.canon [0,1,2,3,9,10]] | 17=>[.canon [0,1,2,3,9,10,100]] | 18=>[.canon [0,1,2,3,9,10]] | 19=>[.canon [0,1,2,3,9,10]] | 20=>[.canon [0,1,2,3,9,10,11,109]] | 21=>[.canon [0,1,2,3,9,10,13]] | 22=>[.canon [0,1,2,3,9,10,13,14]] | 23=>[.canon [0,1,2,3,9,10,13,14]] | 24=>[.canon [0,1,2,3,9,10,13]] | 25=>[.canon [0,1,2,3,9,10]] | 26=>[.canon [0,1,2,3,9,10,134]] | 27=>[.canon [0,1,2,3,9,10]] | 28=>[.canon [0,1,2,3,9,10,145]] | 29=>[.canon [0,1,2,3,9,10]] | 100003=>[.canon [0,1,2,3,9,10]] | _=>[],fun N=>Zkz N (m + 1),fun N=>[(115,Z9 N),(216,Zjp N),(164,Zkz N m),(166,Zb3 N)]⟩
def Zxp (most6:Int) (deep7:Int) (kid8:Bool) (n9:Int) (b10:List Int × Int × Int) (l11:List Ka):St:=⟨[(0,vP 0 0),(1,vI most6),(2,vI deep7),(3,vB kid8),(9,vO 1),(10,vI n9)],[(0,.box [.val Ju b10.1,.val Ja b10.2.1,.val Ja b10.2.2]),(1,.arr Jv l11)],2⟩
def Zvr (most6:Int) (deep7:Int) (kid8:Bool) (n80:Int) (t81:Bool) (b82:List Int × Int × Int) (l83:List Ka):St:=⟨[(0,vP 0 0),(1,vI most6),(2,vI deep7),(3,vB kid8),(9,vO 1),(10,vI n80),(27,vB t81)],[(0,.box [.val Ju b82.1,.val Ja b82.2.1,.val Ja b82.2.2]),(1,.arr Jv l83)],2⟩
theorem Zxq (N m:Nat) {R:Type} (K:Ex → St → Option R) {most6:Int} {deep7:Int} {kid8:Bool} {K0:Int → Bool → Kf → Ko → Option R} (h0:K0 = fun n80 t81 b82 l83=>K (.exit 0) (Zvr most6 deep7 kid8 n80 t81 b82 l83)) (n:Nat) (n9:Int) (b10:List Int × Int × Int) (l11:List Ka):Zc N (Zcc N m) most6 deep7 kid8 K0 n n9 b10 l11 = LM (Zl5 m) N 0 100003 n (Zxp most6 deep7 kid8 n9 b10 l11) K:=by
  subst h0
  induction n generalizing n9 b10 l11 with
  | zero=>kernel_rfl
  | succ n ih=>rw [Zc]; simp (disch:=exact id (by kernel_rfl)) only [ih]; kernel_rfl
theorem Zrr:Wc Tryz.prog 164:=Wb Tryz.func164 (show Wg Tryz.f164 = true by kernel_rfl)
theorem Z3f (N m:Nat) (c1:List Int × Int × Int) (most2:Int) (deep3:Int) (kid4:Bool):DN (Zl5 m) N (c1,most2,deep3,kid4,()) = Zcc N (m + 1) c1 most2 deep3 kid4:=by
  have h:Zcc N (m + 1) c1 most2 deep3 kid4 = Zcc N (m + 1) c1 most2 deep3 kid4:=rfl
  conv at h=>rhs; rw [Zcc]
  simp (disch:=exact id (by kernel_rfl)) only [Zxq (R:=Kn × (Ko × Unit)) N m (CF (Zl5 m) N [1,1,0,1,0])] at h
  exact Eq.trans (by kernel_rfl) h.symm
theorem Zqs (N:Nat):∀ m,Good Tryz.prog 164 (Zkz N m)
  | 0=>fun d o h=>nomatch (show none = some o from h)
  | m + 1=>GF (Zl5 m) N Tryz.func164 (Wa (Zaf N) Zae (Wa (Zpz N) Zpy (Wa (Zqs N m) Zrr (Wa (Zdm N) Zdl We)))) (by kernel_rfl) (fun d=>Z3f N m d.1 d.2.1 d.2.2.1 d.2.2.2.1)
theorem Z3g (N:Nat):Good Tryz.prog 164 (Zrq N):=Zqs N N
def Zk0 (N:Nat):Sig:=Sig.of [.box Jl,.v Jp false] [.v (.prod (.own Jv) (.own Jc)) true] (fun d=>Zb9 N d.1 d.2.1)
def Zk1:Fn:=⟨Tryz.f194,fun | 7=>[.canon [0,4,7,8,38]] | 8=>[.canon [0,4,7,8]] | 9=>[.canon [0,4,7,8]] | 100007=>[.adoptC 7 1 Jc,.canon [0,4,7,8]] | _=>[],Zk0,fun N=>[(115,Z9 N),(164,Zrq N)]⟩
def Zvs (n10:Int) (b11:List Int × Int × Int) (l12:List Ka) (l13:List Ko):St:=⟨[(0,vP 0 0),(4,vP 1 0),(7,vP 2 0),(8,vI n10)],[(0,.box [.val Ju b11.1,.val Ja b11.2.1,.val Ja b11.2.2]),(1,.box [.nils,.nils]),(2,.box [.own 3,.own 4]),(3,.arr Jv l12),(4,.arr Jc l13)],5⟩
def Ztd (l12:List Ka) (n16:Int) (t17:Bool) (b18:List Int × Int × Int) (l19:List Ko):St:=⟨[(0,vP 0 0),(4,vP 1 0),(7,vP 2 0),(8,vI n16),(38,vB t17)],[(0,.box [.val Ju b18.1,.val Ja b18.2.1,.val Ja b18.2.2]),(1,.box [.nils,.nils]),(2,.box [.own 3,.own 4]),(3,.arr Jv l12),(4,.arr Jc l19)],5⟩
theorem Zvt (N:Nat) {R:Type} (K:Ex → St → Option R) {l12:List Ka} {K0:Int → Bool → Kf → (List Ko) → Option R} (h0:K0 = fun n16 t17 b18 l19=>K (.exit 0) (Ztd l12 n16 t17 b18 l19)) (n:Nat) (n10:Int) (b11:List Int × Int × Int) (l13:List Ko):Zfu N l12 K0 n n10 b11 l13 = LM Zk1 N 0 100007 n (Zvs n10 b11 l12 l13) K:=by
  subst h0
  induction n generalizing n10 b11 l13 with
  | zero=>kernel_rfl
  | succ n ih=>rw [Zfu]; simp (disch:=exact id (by kernel_rfl)) only [ih]; kernel_rfl
theorem Zqt:Wc Tryz.prog 194:=Wb Tryz.func194 (show Wg Tryz.f194 = true by kernel_rfl)
theorem Z16 (N:Nat) (c1:List Int × Int × Int) (forks2:Bool):DN Zk1 N (c1,forks2,()) = Zb9 N c1 forks2:=by
  have h:Zb9 N c1 forks2 = Zb9 N c1 forks2:=rfl
  conv at h=>rhs; rw [Zb9]
  simp (disch:=exact id (by kernel_rfl)) only [Zvt (R:=Kn × (Kk × Unit)) N (CF Zk1 N [1,1,1,1,1,0,1,0])] at h
  exact Eq.trans (by kernel_rfl) h.symm
theorem Zqu (N:Nat):Good Tryz.prog 194 (Zk0 N):=GF Zk1 N Tryz.func194 (Wa (Zaf N) Zae (Wa (Z3g N) Zrr We)) (by kernel_rfl) (fun d=>Z16 N d.1 d.2.1)
def Zm7 (N:Nat):Sig:=Sig.of [.box Jl,.v Ja false,.v Ja false] [.v (.own Jk) false] (fun d=>Zc3 N d.1 d.2.1 d.2.2.1)
def Zjq:Fn:=⟨Tryz.f195,fun | 4=>[.canon [0,1,2,7,8,9,14]] | 5=>[.canon [0,1,2,7,8,9]] | 6=>[.canon [0,1,2,7,8,9,18]] | 7=>[.canon [0,1,2,7,8,9]] | 8=>[.canon [0,1,2,7,8,9,10]] | 9=>[.canon [0,1,2,7,8,9,10,25]] | 10=>[.canon [0,1,2,7,8,9,10]] | 11=>[.canon [0,1,2,7,8,9,10]] | 12=>[.canon [0,1,2,7,8,9,10,31]] | 13=>[.canon [0,1,2,7,8,9,10]] | 14=>[.canon [0,1,2,7,8,9,10,35]] | 15=>[.canon [0,1,2,7,8,9,10]] | 16=>[.canon [0,1,2,7,8,9]] | 100004=>[.canon [0,1,2,7,8,9]] | _=>[],Zm7,fun N=>[(166,Zb3 N),(115,Z9 N)]⟩
def Zte (n4:Int) (most5:Int) (who6:Int) (i7:Int) (b8:List Int × Int × Int) (l9:List Kb):St:=⟨[(0,vP 0 0),(1,vI n4),(2,vI most5),(7,vO 1),(8,vI who6),(9,vI i7)],[(0,.box [.val Ju b8.1,.val Ja b8.2.1,.val Ja b8.2.2]),(1,.arr Jk l9)],2⟩
def Zrs (n4:Int) (most5:Int) (who24:Int) (i25:Int) (t26:Bool) (b27:List Int × Int × Int) (l28:List Kb):St:=⟨[(0,vP 0 0),(1,vI n4),(2,vI most5),(7,vO 1),(8,vI who24),(9,vI i25),(14,vB t26)],[(0,.box [.val Ju b27.1,.val Ja b27.2.1,.val Ja b27.2.2]),(1,.arr Jk l28)],2⟩
theorem Ztf (N:Nat) {R:Type} (K:Ex → St → Option R) {n4:Int} {most5:Int} {K0:Int → Int → Bool → Kf → Km → Option R} (h0:K0 = fun who24 i25 t26 b27 l28=>K (.exit 0) (Zrs n4 most5 who24 i25 t26 b27 l28)) (n:Nat) (who6:Int) (i7:Int) (b8:List Int × Int × Int) (l9:List Kb):Z0 N n4 most5 K0 n who6 i7 b8 l9 = LM Zjq N 0 100004 n (Zte n4 most5 who6 i7 b8 l9) K:=by
  subst h0
  induction n generalizing who6 i7 b8 l9 with
  | zero=>kernel_rfl
  | succ n ih=>rw [Z0]; simp (disch:=exact id (by kernel_rfl)) only [ih]; kernel_rfl
theorem Zz7:Wc Tryz.prog 195:=Wb Tryz.func195 (show Wg Tryz.f195 = true by kernel_rfl)
theorem Zz8 (N:Nat) (c1:List Int × Int × Int) (n2:Int) (most3:Int):DN Zjq N (c1,n2,most3,()) = Zc3 N c1 n2 most3:=by
  have h:Zc3 N c1 n2 most3 = Zc3 N c1 n2 most3:=rfl
  conv at h=>rhs; rw [Zc3]
  simp (disch:=exact id (by kernel_rfl)) only [Ztf (R:=Kn × (Km × Unit)) N (CF Zjq N [1,1,1,0,1,0])] at h
  exact Eq.trans (by kernel_rfl) h.symm
theorem Zz9 (N:Nat):Good Tryz.prog 195 (Zm7 N):=GF Zjq N Tryz.func195 (Wa (Zdm N) Zdl (Wa (Zaf N) Zae We)) (by kernel_rfl) (fun d=>Zz8 N d.1 d.2.1 d.2.2.1)
def Zln (N:Nat):Sig:=Sig.of [.box Jl,.v Ja false,.v Ja false] [.v (.prod (.prod Jac Jq) (.prod (.own Jm) (.own Jk))) true] (fun d=>Zcs N d.1 d.2.1 d.2.2.1)
def Zin:Fn:=⟨Tryz.f148,fun | 4=>[.canon [0,1,2,6,7,8,9,18]] | 5=>[.canon [0,1,2,6,7,8,9]] | 6=>[.canon [0,1,2,6,7,8,9]] | 100004=>[.adoptC 7 3 Jm,.canon [0,1,2,6,7,8,9]] | _=>[],Zln,fun N=>[(193,Zi0 N),(115,Z9 N),(194,Zk0 N),(166,Zb3 N),(195,Zm7 N)]⟩
def Zq6 (how6:Int) (most7:Int) (n8:Int) (i9:Int) (b10:List Int × Int × Int) (b12:Int) (l13:List Int) (l14:List Int) (l15:List Kk):St:=⟨[(0,vP 0 0),(1,vI how6),(2,vI most7),(6,vP 1 0),(7,vP 2 0),(8,vI n8),(9,vI i9)],[(0,.box [.val Ju b10.1,.val Ja b10.2.1,.val Ja b10.2.2]),(1,.box [.nils,.nils,.val Ja (0:Int),.nils,.nils]),(2,.box [.own 3,.own 4,.val Ja b12,.own 5,.nils]),(3,.arr Ja l13),(4,.arr Ja l14),(5,.arr Jm l15)],6⟩
def Zqe (how6:Int) (most7:Int) (n8:Int) (b12:Int) (l13:List Int) (l14:List Int) (i24:Int) (t25:Bool) (b26:List Int × Int × Int) (l27:List Kk):St:=⟨[(0,vP 0 0),(1,vI how6),(2,vI most7),(6,vP 1 0),(7,vP 2 0),(8,vI n8),(9,vI i24),(18,vB t25)],[(0,.box [.val Ju b26.1,.val Ja b26.2.1,.val Ja b26.2.2]),(1,.box [.nils,.nils,.val Ja (0:Int),.nils,.nils]),(2,.box [.own 3,.own 4,.val Ja b12,.own 5,.nils]),(3,.arr Ja l13),(4,.arr Ja l14),(5,.arr Jm l27)],6⟩
theorem Zq7 (N:Nat) {R:Type} (K:Ex → St → Option R) {how6:Int} {most7:Int} {n8:Int} {b12:Int} {l13:List Int} {l14:List Int} {K0:Int → Bool → Kf → (List Kk) → Option R} (h0:K0 = fun i24 t25 b26 l27=>K (.exit 0) (Zqe how6 most7 n8 b12 l13 l14 i24 t25 b26 l27)) (n:Nat) (i9:Int) (b10:List Int × Int × Int) (l15:List Kk):Zbj N how6 most7 n8 b12 l13 l14 K0 n i9 b10 l15 = LM Zin N 0 100004 n (Zq6 how6 most7 n8 i9 b10 b12 l13 l14 l15) K:=by
  subst h0
  induction n generalizing i9 b10 l15 with
  | zero=>kernel_rfl
  | succ n ih=>rw [Zbj]; simp (disch:=exact id (by kernel_rfl)) only [ih]; kernel_rfl
theorem Zxr:Wc Tryz.prog 148:=Wb Tryz.func148 (show Wg Tryz.f148 = true by kernel_rfl)
theorem Zxs (N:Nat) (c1:List Int × Int × Int) (how2:Int) (most3:Int):DN Zin N (c1,how2,most3,()) = Zcs N c1 how2 most3:=by
  have h:Zcs N c1 how2 most3 = Zcs N c1 how2 most3:=rfl
  conv at h=>rhs; rw [Zcs]
  simp (disch:=exact id (by kernel_rfl)) only [Zq7 (R:=Kn × ((Ke × List Kk × List Kb) × Unit)) N (CF Zin N [1,1,1,0,1,0])] at h
  exact Eq.trans (by kernel_rfl) h.symm
theorem Zxt (N:Nat):Good Tryz.prog 148 (Zln N):=GF Zin N Tryz.func148 (Wa (Zpj N) Zpi (Wa (Zaf N) Zae (Wa (Zqu N) Zqt (Wa (Zdm N) Zdl (Wa (Zz9 N) Zz7 We))))) (by kernel_rfl) (fun d=>Zxs N d.1 d.2.1 d.2.2.1)
def Zjr (N:Nat):Sig:=Sig.of [.box Jl] [.v (.prod Jac Jq) true] (fun d=>Zig N d.1)
def Ztg:Fn:=⟨Tryz.f149,Wy,Zjr,fun N=>[(193,Zi0 N),(115,Z9 N)]⟩
theorem Zth:Wc Tryz.prog 149:=Wb Tryz.func149 (show Wg Tryz.f149 = true by kernel_rfl)
theorem Zti (N:Nat):Good Tryz.prog 149 (Zjr N):=GF Ztg N Tryz.func149 (Wa (Zpj N) Zpi (Wa (Zaf N) Zae We)) (by kernel_rfl) (fun d=>by kernel_rfl)
def Zom (N:Nat):Sig:=Sig.of [.box Jl] [.v Jv true] (fun d=>Znt N d.1)
def Z3h:Fn:=⟨Tryz.f169,Wy,Zom,fun N=>[(115,Z9 N),(216,Zjp N),(215,Zgv N)]⟩
theorem Z3i:Wc Tryz.prog 169:=Wb Tryz.func169 (show Wg Tryz.f169 = true by kernel_rfl)
theorem Z3j (N:Nat):Good Tryz.prog 169 (Zom N):=GF Z3h N Tryz.func169 (Wa (Zaf N) Zae (Wa (Zpz N) Zpy (Wa (Zlk N) Zlj We))) (by kernel_rfl) (fun d=>by kernel_rfl)
def Zny (N:Nat):Sig:=Sig.of [.box Jl,.v Jc false] [.v (.own Jv) false] (fun d=>Zd2 N d.1 d.2.1)
def Zk2:Fn:=⟨Tryz.f116,fun | 12=>[.view 49,.view 45] | 14=>[.canon [0,5,58]] | 15=>[.canon [0,5]] | 100014=>[.canon [0,5]] | _=>[],Zny,fun N=>[(115,Z9 N),(169,Zom N)]⟩
def Zvu (b6:List Int × Int × Int) (l7:List Ka):St:=⟨[(0,vP 0 0),(5,vO 1)],[(0,.box [.val Ju b6.1,.val Ja b6.2.1,.val Ja b6.2.2]),(1,.arr Jv l7)],2⟩
def Ztj (t9:Bool) (b10:List Int × Int × Int) (l11:List Ka):St:=⟨[(0,vP 0 0),(5,vO 1),(58,vB t9)],[(0,.box [.val Ju b10.1,.val Ja b10.2.1,.val Ja b10.2.2]),(1,.arr Jv l11)],2⟩
theorem Zvv (N:Nat) {R:Type} (K:Ex → St → Option R) {K0:Bool → Kf → Ko → Option R} (h0:K0 = fun t9 b10 l11=>K (.exit 1) (Ztj t9 b10 l11)) (n:Nat) (b6:List Int × Int × Int) (l7:List Ka):Zfv N K0 n b6 l7 = LM Zk2 N 0 100014 n (Zvu b6 l7) K:=by
  subst h0
  induction n generalizing b6 l7 with
  | zero=>kernel_rfl
  | succ n ih=>rw [Zfv]; simp (disch:=exact id (by kernel_rfl)) only [ih]; kernel_rfl
theorem Z17:Wc Tryz.prog 116:=Wb Tryz.func116 (show Wg Tryz.f116 = true by kernel_rfl)
theorem Z18 (N:Nat) (c1:List Int × Int × Int) (code2:List Ka):DN Zk2 N (c1,code2,()) = Zd2 N c1 code2:=by
  have h:Zd2 N c1 code2 = Zd2 N c1 code2:=rfl
  conv at h=>rhs; rw [Zd2]
  simp (disch:=exact id (by kernel_rfl)) only [Zvv (R:=Kn × (Ko × Unit)) N (CF Zk2 N [1,1,1,1,0,1,0,1,1,1,1,1,1,1,0,0])] at h
  exact Eq.trans (by kernel_rfl) h.symm
theorem Z19 (N:Nat):Good Tryz.prog 116 (Zny N):=GF Zk2 N Tryz.func116 (Wa (Zaf N) Zae (Wa (Z3j N) Z3i We)) (by kernel_rfl) (fun d=>Z18 N d.1 d.2.1)
def Zlo (N:Nat):Sig:=Sig.of [.box Jl] [.v (.prod (.own Jv) (.own Jc)) true] (fun d=>Zjn N d.1)
def Zxu:Fn:=⟨Tryz.f150,Wy,Zlo,fun N=>[(166,Zb3 N),(194,Zk0 N),(115,Z9 N),(116,Zny N)]⟩
theorem Zxv:Wc Tryz.prog 150:=Wb Tryz.func150 (show Wg Tryz.f150 = true by kernel_rfl)
theorem Zxw (N:Nat):Good Tryz.prog 150 (Zlo N):=GF Zxu N Tryz.func150 (Wa (Zdm N) Zdl (Wa (Zqu N) Zqt (Wa (Zaf N) Zae (Wa (Z19 N) Z17 We)))) (by kernel_rfl) (fun d=>by kernel_rfl)
def Znz (N:Nat):Sig:=Sig.of [.box Jl,.v Ja false] [.v (.prod (.prod Jac Jq) (.prod (.own Jm) (.own Jk))) true] (fun d=>Zf6 N d.1 d.2.1)
def Zg4:Fn:=⟨Tryz.f102,fun | 8=>[.canon [0,4,5,28]] | 9=>[.canon [0,4,5]] | 13=>[.canon [0,4,5,55]] | 14=>[.canon [0,4,5]] | 100008=>[.canon [0,4,5]] | 100013=>[.canon [0,4,5]] | _=>[],Znz,fun N=>[(148,Zln N),(115,Z9 N),(149,Zjr N),(150,Zlo N)]⟩
def Zvw (b7:List Int × Int × Int) (b9:Int) (l10:List Int) (l11:List Int) (l12:List Kk) (l13:List Kb):St:=⟨[(0,vP 0 0),(4,vP 1 0),(5,vP 2 0)],[(0,.box [.val Ju b7.1,.val Ja b7.2.1,.val Ja b7.2.2]),(1,.box [.nils,.nils,.val Ja (0:Int),.nils,.nils]),(2,.box [.own 3,.own 4,.val Ja b9,.own 5,.own 6]),(3,.arr Ja l10),(4,.arr Ja l11),(5,.arr Jm l12),(6,.arr Jk l13)],7⟩
def Ztk (b7:List Int × Int × Int) (b9:Int) (l10:List Int) (l11:List Int) (l13:List Kb) (t14:Bool) (l15:List Kk):St:=⟨[(0,vP 0 0),(4,vP 1 0),(5,vP 2 0),(28,vB t14)],[(0,.box [.val Ju b7.1,.val Ja b7.2.1,.val Ja b7.2.2]),(1,.box [.nils,.nils,.val Ja (0:Int),.nils,.nils]),(2,.box [.own 3,.own 4,.val Ja b9,.own 5,.own 6]),(3,.arr Ja l10),(4,.arr Ja l11),(5,.arr Jm l15),(6,.arr Jk l13)],7⟩
theorem Zvx (N:Nat) {R:Type} (K:Ex → St → Option R) {b7:List Int × Int × Int} {b9:Int} {l10:List Int} {l11:List Int} {l13:List Kb} {K0:Bool → (List Kk) → Option R} (h0:K0 = fun t14 l15=>K (.exit 1) (Ztk b7 b9 l10 l11 l13 t14 l15)) (n:Nat) (l12:List Kk):Zfw N b7 b9 l10 l11 l13 K0 n l12 = LM Zg4 N 0 100008 n (Zvw b7 b9 l10 l11 l12 l13) K:=by
  subst h0
  induction n generalizing l12 with
  | zero=>kernel_rfl
  | succ n ih=>rw [Zfw]; simp (disch:=exact id (by kernel_rfl)) only [ih]; kernel_rfl
def Zvy (b18:List Int × Int × Int) (b20:Int) (l21:List Int) (l22:List Int) (l23:List Kk) (l24:List Kb):St:=⟨[(0,vP 0 0),(4,vP 1 0),(5,vP 2 0)],[(0,.box [.val Ju b18.1,.val Ja b18.2.1,.val Ja b18.2.2]),(1,.box [.nils,.nils,.val Ja (0:Int),.nils,.nils]),(2,.box [.own 3,.own 4,.val Ja b20,.own 5,.own 6]),(3,.arr Ja l21),(4,.arr Ja l22),(5,.arr Jm l23),(6,.arr Jk l24)],7⟩
def Ztl (b20:Int) (l21:List Int) (l22:List Int) (l23:List Kk) (t27:Bool) (b28:List Int × Int × Int) (l29:List Kb):St:=⟨[(0,vP 0 0),(4,vP 1 0),(5,vP 2 0),(55,vB t27)],[(0,.box [.val Ju b28.1,.val Ja b28.2.1,.val Ja b28.2.2]),(1,.box [.nils,.nils,.val Ja (0:Int),.nils,.nils]),(2,.box [.own 3,.own 4,.val Ja b20,.own 5,.own 6]),(3,.arr Ja l21),(4,.arr Ja l22),(5,.arr Jm l23),(6,.arr Jk l29)],7⟩
theorem Zvz (N:Nat) {R:Type} (K:Ex → St → Option R) {b20:Int} {l21:List Int} {l22:List Int} {l23:List Kk} {K0:Bool → Kf → Km → Option R} (h0:K0 = fun t27 b28 l29=>K (.exit 3) (Ztl b20 l21 l22 l23 t27 b28 l29)) (n:Nat) (b18:List Int × Int × Int) (l24:List Kb):Zfx N b20 l21 l22 l23 K0 n b18 l24 = LM Zg4 N 1 100013 n (Zvy b18 b20 l21 l22 l23 l24) K:=by
  subst h0
  induction n generalizing b18 l24 with
  | zero=>kernel_rfl
  | succ n ih=>rw [Zfx]; simp (disch:=exact id (by kernel_rfl)) only [ih]; kernel_rfl
theorem Z2a:Wc Tryz.prog 102:=Wb Tryz.func102 (show Wg Tryz.f102 = true by kernel_rfl)
theorem Z2b (N:Nat) (c1:List Int × Int × Int) (most2:Int):DN Zg4 N (c1,most2,()) = Zf6 N c1 most2:=by
  have h:Zf6 N c1 most2 = Zf6 N c1 most2:=rfl
  conv at h=>rhs; rw [Zf6]
  simp (disch:=exact id (by kernel_rfl)) only [Zvx (R:=Kn × ((Ke × List Kk × List Kb) × Unit)) N (CF Zg4 N [1,1,0,1,0,1,1,1,1,1,0,0]),Zvz (R:=Kn × ((Ke × List Kk × List Kb) × Unit)) N (CF Zg4 N [1,1,0,1,0,1,1,1,1,1,1,1,1,1,0,0])] at h
  exact Eq.trans (by kernel_rfl) h.symm
theorem Z2c (N:Nat):Good Tryz.prog 102 (Znz N):=GF Zg4 N Tryz.func102 (Wa (Zxt N) Zxr (Wa (Zaf N) Zae (Wa (Zti N) Zth (Wa (Zxw N) Zxv We)))) (by kernel_rfl) (fun d=>Z2b N d.1 d.2.1)
def Zjs (N:Nat):Sig:=Sig.of [.v Ju false] [.v Jz true] (fun d=>Zil N d.1)
def Ztm:Fn:=⟨Tryz.f33,Wy,Zjs,fun N=>[(50,Zol N),(102,Znz N)]⟩
theorem Ztn:Wc Tryz.prog 33:=Wb Tryz.func33 (show Wg Tryz.f33 = true by kernel_rfl)
theorem Zto (N:Nat):Good Tryz.prog 33 (Zjs N):=GF Ztm N Tryz.func33 (Wa (Z3e N) Z3c (Wa (Z2c N) Z2a We)) (by kernel_rfl) (fun d=>by kernel_rfl)
def Zz (N:Nat):Sig:=Sig.of [.v Ja false,.v Ja false,.v Ja false] [.v Jp false] (fun d=>Zm N d.1 d.2.1 d.2.2.1)
def Z2d:Fn:=⟨Tryz.f55,Wy,Zz,Wde⟩
theorem Z3:Wc Tryz.prog 55:=Wb Tryz.func55 (show Wg Tryz.f55 = true by kernel_rfl)
theorem Z4 (N:Nat):Good Tryz.prog 55 (Zz N):=GF Z2d N Tryz.func55 We (by kernel_rfl) (fun d=>by kernel_rfl)
def Za5 (N:Nat):Sig:=Sig.of [.v Ja false] [.v Jp false] (fun d=>Zaz N d.1)
def Z0a:Fn:=⟨Tryz.f130,Wy,Za5,fun N=>[(55,Zz N)]⟩
theorem Zbp:Wc Tryz.prog 130:=Wb Tryz.func130 (show Wg Tryz.f130 = true by kernel_rfl)
theorem Zbq (N:Nat):Good Tryz.prog 130 (Za5 N):=GF Z0a N Tryz.func130 (Wa (Z4 N) Z3 We) (by kernel_rfl) (fun d=>by kernel_rfl)
def Zcy (N:Nat):Sig:=Sig.of [.v Jj false,.v Ja false] [.v Jp false] (fun d=>Zac N d.1 d.2.1)
def Zio:Fn:=⟨Tryz.f71,fun | 2=>[.canon [0,1,7,8,9,10]] | 3=>[.canon [0,1,6,7,8,9]] | 4=>[.canon [0,1,7,8,9,15]] | 5=>[.canon [4]] | 6=>[.canon [0,1,7,8,9]] | 100002=>[.canon [0,1,7,8,9]] | _=>[],Zcy,fun N=>[(130,Za5 N)]⟩
def Zq8 (l3:List Int) (n4:Int) (t7:Int):St:=⟨[(0,vV Jj l3),(1,vI n4),(7,vV Jj l3),(8,vI (ilen l3)),(9,vI t7)],[],0⟩
def Zqf (l3:List Int) (n4:Int):St:=⟨[(4,vB false)],[],0⟩
def Zqg (l3:List Int) (n4:Int) (t10:Int) (t11:Bool):St:=⟨[(0,vV Jj l3),(1,vI n4),(7,vV Jj l3),(8,vI (ilen l3)),(9,vI t10),(10,vB t11)],[],0⟩
theorem Zq9 (N:Nat) {R:Type} (K:Ex → St → Option R) {l3:List Int} {n4:Int} {K0:Option R} {K1:Int → Bool → Option R} (h0:K0 = K .ret (Zqf l3 n4)) (h1:K1 = fun t10 t11=>K (.exit 0) (Zqg l3 n4 t10 t11)) (n:Nat) (t7:Int):Za1 N l3 n4 K0 K1 n t7 = LM Zio N 0 100002 n (Zq8 l3 n4 t7) K:=by
  subst h0 h1
  induction n generalizing t7 with
  | zero=>kernel_rfl
  | succ n ih=>rw [Za1]; simp (disch:=exact id (by kernel_rfl)) only [ih]; kernel_rfl
theorem Zgw:Wc Tryz.prog 71:=Wb Tryz.func71 (show Wg Tryz.f71 = true by kernel_rfl)
theorem Zxx (N:Nat) (l1:List Int) (n2:Int):DN Zio N (l1,n2,()) = Zac N l1 n2:=by
  have h:Zac N l1 n2 = Zac N l1 n2:=rfl
  conv at h=>rhs; rw [Zac]
  simp (disch:=exact id (by kernel_rfl)) only [Zq9 (R:=Unit × Kg) N (CF Zio N [1,0,1,0])] at h
  exact Eq.trans (by kernel_rfl) h.symm
theorem Zgx (N:Nat):Good Tryz.prog 71 (Zcy N):=GF Zio N Tryz.func71 (Wa (Zbq N) Zbp We) (by kernel_rfl) (fun d=>Zxx N d.1 d.2.1)
def Zl6 (N:Nat):Sig:=Sig.of [.v Jj false] [.v Jp false] (fun d=>Zfk N d.1)
def Zl7:Fn:=⟨Tryz.f156,fun | 2=>[.canon [0,5,6,7,8]] | 3=>[.canon [0,4,5,6,7]] | 4=>[.canon [0,5,6,7,13]] | 5=>[.canon [2]] | 6=>[.canon [0,5,6,7]] | 100002=>[.canon [0,5,6,7]] | _=>[],Zl6,fun N=>[(55,Zz N)]⟩
def Zxy (l2:List Int) (t5:Int):St:=⟨[(0,vV Jj l2),(5,vV Jj l2),(6,vI (ilen l2)),(7,vI t5)],[],0⟩
def Zv0 (l2:List Int):St:=⟨[(2,vB false)],[],0⟩
def Zv1 (l2:List Int) (t8:Int) (t9:Bool):St:=⟨[(0,vV Jj l2),(5,vV Jj l2),(6,vI (ilen l2)),(7,vI t8),(8,vB t9)],[],0⟩
theorem Zxz (N:Nat) {R:Type} (K:Ex → St → Option R) {l2:List Int} {K0:Option R} {K1:Int → Bool → Option R} (h0:K0 = K .ret (Zv0 l2)) (h1:K1 = fun t8 t9=>K (.exit 0) (Zv1 l2 t8 t9)) (n:Nat) (t5:Int):Zei N l2 K0 K1 n t5 = LM Zl7 N 0 100002 n (Zxy l2 t5) K:=by
  subst h0 h1
  induction n generalizing t5 with
  | zero=>kernel_rfl
  | succ n ih=>rw [Zei]; simp (disch:=exact id (by kernel_rfl)) only [ih]; kernel_rfl
theorem Zrt:Wc Tryz.prog 156:=Wb Tryz.func156 (show Wg Tryz.f156 = true by kernel_rfl)
theorem Z3k (N:Nat) (l1:List Int):DN Zl7 N (l1,()) = Zfk N l1:=by
  have h:Zfk N l1 = Zfk N l1:=rfl
  conv at h=>rhs; rw [Zfk]
  simp (disch:=exact id (by kernel_rfl)) only [Zxz (R:=Unit × Kg) N (CF Zl7 N [1,0,1,0])] at h
  exact Eq.trans (by kernel_rfl) h.symm
theorem Zru (N:Nat):Good Tryz.prog 156 (Zl6 N):=GF Zl7 N Tryz.func156 (Wa (Z4 N) Z3 We) (by kernel_rfl) (fun d=>Z3k N d.1)
def Zmi (N:Nat):Sig:=Sig.of [.v Jr true] [.v Jp false] (fun d=>Zkx N d.1)
def Zy7:Fn:=⟨Tryz.f151,Wy,Zmi,fun N=>[(71,Zcy N),(156,Zl6 N),(130,Za5 N)]⟩
theorem Zy8:Wc Tryz.prog 151:=Wb Tryz.func151 (show Wg Tryz.f151 = true by kernel_rfl)
theorem Zy9 (N:Nat):Good Tryz.prog 151 (Zmi N):=GF Zy7 N Tryz.func151 (Wa (Zgx N) Zgw (Wa (Zru N) Zrt (Wa (Zbq N) Zbp We))) (by kernel_rfl) (fun d=>by kernel_rfl)
def Zon (N:Nat):Sig:=Sig.of [.v Ja false] [.v Jp false] (fun d=>Zv N d.1)
def Z3l:Fn:=⟨Tryz.f247,Wy,Zon,fun N=>[(55,Zz N)]⟩
theorem Z3m:Wc Tryz.prog 247:=Wb Tryz.func247 (show Wg Tryz.f247 = true by kernel_rfl)
theorem Z3n (N:Nat):Good Tryz.prog 247 (Zon N):=GF Z3l N Tryz.func247 (Wa (Z4 N) Z3 We) (by kernel_rfl) (fun d=>by kernel_rfl)
def Zb4 (N:Nat):Sig:=Sig.of [.v Ja false] [.v Jp false] (fun d=>Zba N d.1)
def Z2e:Fn:=⟨Tryz.f65,Wy,Zb4,fun N=>[(55,Zz N)]⟩
theorem Zdn:Wc Tryz.prog 65:=Wb Tryz.func65 (show Wg Tryz.f65 = true by kernel_rfl)
theorem Zdo (N:Nat):Good Tryz.prog 65 (Zb4 N):=GF Z2e N Tryz.func65 (Wa (Z4 N) Z3 We) (by kernel_rfl) (fun d=>by kernel_rfl)
def Ze0 (N:Nat):Sig:=Sig.of [.v Ja false] [.v Jp false] (fun d=>Za3 N d.1)
def Z3o:Fn:=⟨Tryz.f209,Wy,Ze0,fun N=>[(55,Zz N)]⟩
theorem Zhl:Wc Tryz.prog 209:=Wb Tryz.func209 (show Wg Tryz.f209 = true by kernel_rfl)
theorem Zhm (N:Nat):Good Tryz.prog 209 (Ze0 N):=GF Z3o N Tryz.func209 (Wa (Z4 N) Z3 We) (by kernel_rfl) (fun d=>by kernel_rfl)
def Zid (N:Nat):Sig:=Sig.of [.v Jv true] [.v Jp false] (fun d=>Zr N d.1)
def Z36:Fn:=⟨Tryz.f217,Wy,Zid,fun N=>[(247,Zon N),(130,Za5 N),(65,Zb4 N),(55,Zz N),(209,Ze0 N)]⟩
theorem Zmx:Wc Tryz.prog 217:=Wb Tryz.func217 (show Wg Tryz.f217 = true by kernel_rfl)
theorem Zmy (N:Nat):Good Tryz.prog 217 (Zid N):=GF Z36 N Tryz.func217 (Wa (Z3n N) Z3m (Wa (Zbq N) Zbp (Wa (Zdo N) Zdn (Wa (Z4 N) Z3 (Wa (Zhm N) Zhl We))))) (by kernel_rfl) (fun d=>by kernel_rfl)
def Zjt (N:Nat):Sig:=Sig.of [.v Jv true] [.v Ja false] (fun d=>Zhi N d.1)
def Z0b:Fn:=⟨Tryz.f170,Wy,Zjt,fun N=>[(217,Zid N)]⟩
theorem Zp0:Wc Tryz.prog 170:=Wb Tryz.func170 (show Wg Tryz.f170 = true by kernel_rfl)
theorem Zp1 (N:Nat):Good Tryz.prog 170 (Zjt N):=GF Z0b N Tryz.func170 (Wa (Zmy N) Zmx We) (by kernel_rfl) (fun d=>by kernel_rfl)
def Zjc (N:Nat):Sig:=Sig.of [.v Jv true] [.v Ja false] (fun d=>Zi8 N d.1)
def Z3p:Fn:=⟨Tryz.f248,Wy,Zjc,Wde⟩
theorem Zoo:Wc Tryz.prog 248:=Wb Tryz.func248 (show Wg Tryz.f248 = true by kernel_rfl)
theorem Zop (N:Nat):Good Tryz.prog 248 (Zjc N):=GF Z3p N Tryz.func248 We (by kernel_rfl) (fun d=>by kernel_rfl)
def Zkq (N:Nat):Sig:=Sig.of [.v Jc false] [.v Jp false] (fun d=>Zbv N d.1)
def Zh5:Fn:=⟨Tryz.f218,fun | 3=>[.canon [3,6,7,8,9]] | 4=>[.canon [3,5,6,7,8]] | 5=>[.canon [3,6,7,8]] | 6=>[.canon [3,6,7,8,17]] | 7=>[.canon [2]] | 8=>[.canon [3,6,7,8]] | 100003=>[.canon [3,6,7,8]] | _=>[],Zkq,fun N=>[(248,Zjc N)]⟩
def Zqh (n2:Int) (t3:List Ka) (t5:Int):St:=⟨[(3,vI n2),(6,vV Jc t3),(7,vI (ilen t3)),(8,vI t5)],[],0⟩
def Zp2 (t3:List Ka):St:=⟨[(2,vB false)],[],0⟩
def Zp3 (t3:List Ka) (n8:Int) (t9:Int) (t10:Bool):St:=⟨[(3,vI n8),(6,vV Jc t3),(7,vI (ilen t3)),(8,vI t9),(9,vB t10)],[],0⟩
theorem Zqi (N:Nat) {R:Type} (K:Ex → St → Option R) {t3:List Ka} {K0:Option R} {K1:Int → Int → Bool → Option R} (h0:K0 = K .ret (Zp2 t3)) (h1:K1 = fun n8 t9 t10=>K (.exit 0) (Zp3 t3 n8 t9 t10)) (n:Nat) (n2:Int) (t5:Int):Zb0 N t3 K0 K1 n n2 t5 = LM Zh5 N 0 100003 n (Zqh n2 t3 t5) K:=by
  subst h0 h1
  induction n generalizing n2 t5 with
  | zero=>kernel_rfl
  | succ n ih=>rw [Zb0]; simp (disch:=exact id (by kernel_rfl)) only [ih]; kernel_rfl
theorem Zv2:Wc Tryz.prog 218:=Wb Tryz.func218 (show Wg Tryz.f218 = true by kernel_rfl)
theorem Zv3 (N:Nat) (code1:List Ka):DN Zh5 N (code1,()) = Zbv N code1:=by
  have h:Zbv N code1 = Zbv N code1:=rfl
  conv at h=>rhs; rw [Zbv]
  simp (disch:=exact id (by kernel_rfl)) only [Zqi (R:=Unit × Kg) N (CF Zh5 N [1,1,0,1,0])] at h
  exact Eq.trans (by kernel_rfl) h.symm
theorem Zv4 (N:Nat):Good Tryz.prog 218 (Zkq N):=GF Zh5 N Tryz.func218 (Wa (Zop N) Zoo We) (by kernel_rfl) (fun d=>Zv3 N d.1)
def Zm8 (N:Nat):Sig:=Sig.of [.v Jc false,.v Ja false] [.v Ja false] (fun d=>Zer N d.1 d.2.1)
def Zju:Fn:=⟨Tryz.f219,fun | 3=>[.canon [1,5,8,9,10,11]] | 4=>[.canon [1,5,6,7,8,9,10]] | 5=>[.canon [1,5,7,8,9,10,17]] | 6=>[.canon [1,5,8,9,10]] | 7=>[.canon [1,5,8,9,10]] | 100003=>[.canon [1,5,8,9,10]] | _=>[],Zm8,fun N=>[(248,Zjc N)]⟩
def Ztp (i3:Int) (n4:Int) (t5:List Ka) (t7:Int):St:=⟨[(1,vI i3),(5,vI n4),(8,vV Jc t5),(9,vI (ilen t5)),(10,vI t7)],[],0⟩
def Zrv (i3:Int) (t5:List Ka) (n10:Int) (t11:Int) (t12:Bool):St:=⟨[(1,vI i3),(5,vI n10),(8,vV Jc t5),(9,vI (ilen t5)),(10,vI t11),(11,vB t12)],[],0⟩
theorem Ztq (N:Nat) {R:Type} (K:Ex → St → Option R) {i3:Int} {t5:List Ka} {K0:Int → Int → Bool → Option R} (h0:K0 = fun n10 t11 t12=>K (.exit 0) (Zrv i3 t5 n10 t11 t12)) (n:Nat) (n4:Int) (t7:Int):Zb5 N i3 t5 K0 n n4 t7 = LM Zju N 0 100003 n (Ztp i3 n4 t5 t7) K:=by
  subst h0
  induction n generalizing n4 t7 with
  | zero=>kernel_rfl
  | succ n ih=>rw [Zb5]; simp (disch:=exact id (by kernel_rfl)) only [ih]; kernel_rfl
theorem Z0c:Wc Tryz.prog 219:=Wb Tryz.func219 (show Wg Tryz.f219 = true by kernel_rfl)
theorem Z0d (N:Nat) (code1:List Ka) (i2:Int):DN Zju N (code1,i2,()) = Zer N code1 i2:=by
  have h:Zer N code1 i2 = Zer N code1 i2:=rfl
  conv at h=>rhs; rw [Zer]
  simp (disch:=exact id (by kernel_rfl)) only [Ztq (R:=Unit × Kj) N (CF Zju N [1,1,0,1,0])] at h
  exact Eq.trans (by kernel_rfl) h.symm
theorem Z0e (N:Nat):Good Tryz.prog 219 (Zm8 N):=GF Zju N Tryz.func219 (Wa (Zop N) Zoo We) (by kernel_rfl) (fun d=>Z0d N d.1 d.2.1)
def Zk3 (N:Nat):Sig:=Sig.of [.v Jc false] [.v Jp false] (fun d=>Zby N d.1)
def Zk4:Fn:=⟨Tryz.f171,fun | 5=>[.canon [0,3,14,15,16,17]] | 6=>[.canon [0,3,4,5,14,15,16]] | 7=>[.canon [0,3,4,5,14,15,16,23]] | 8=>[.canon [2]] | 9=>[.canon [0,3,4,5,14,15,16,25]] | 10=>[.canon [0,3,4,5,14,15,16,25,26]] | 11=>[.canon [0,3,14,15,16,48]] | 12=>[.canon [2]] | 13=>[.canon [0,3,4,14,15,16,49]] | 14=>[.canon [0,3,4,14,15,16]] | 15=>[.canon [0,3,14,15,16,60]] | 16=>[.canon [2]] | 17=>[.canon [0,3,14,15,16]] | 100005=>[.canon [0,3,14,15,16]] | _=>[],Zk3,fun N=>[(218,Zkq N),(217,Zid N),(219,Zm8 N)]⟩
def Zv5 (code3:List Ka) (forks4:Int) (t7:Int):St:=⟨[(0,vV Jc code3),(3,vI forks4),(14,vV Jc code3),(15,vI (ilen code3)),(16,vI t7)],[],0⟩
def Ztr (code3:List Ka):St:=⟨[(2,vB false)],[],0⟩
def Zts (code3:List Ka) (forks14:Int) (t15:Int) (t16:Bool):St:=⟨[(0,vV Jc code3),(3,vI forks14),(14,vV Jc code3),(15,vI (ilen code3)),(16,vI t15),(17,vB t16)],[],0⟩
theorem Zv6 (N:Nat) {R:Type} (K:Ex → St → Option R) {code3:List Ka} {K0:Option R} {K1:Int → Int → Bool → Option R} (h0:K0 = K .ret (Ztr code3)) (h1:K1 = fun forks14 t15 t16=>K (.exit 0) (Zts code3 forks14 t15 t16)) (n:Nat) (forks4:Int) (t7:Int):Zbw N code3 K0 K1 n forks4 t7 = LM Zk4 N 0 100005 n (Zv5 code3 forks4 t7) K:=by
  subst h0 h1
  induction n generalizing forks4 t7 with
  | zero=>kernel_rfl
  | succ n ih=>rw [Zbw]; simp (disch:=exact id (by kernel_rfl)) only [ih]; kernel_rfl
theorem Zqv:Wc Tryz.prog 171:=Wb Tryz.func171 (show Wg Tryz.f171 = true by kernel_rfl)
theorem Z2f (N:Nat) (code1:List Ka):DN Zk4 N (code1,()) = Zby N code1:=by
  have h:Zby N code1 = Zby N code1:=rfl
  conv at h=>rhs; rw [Zby]
  simp (disch:=exact id (by kernel_rfl)) only [Zv6 (R:=Unit × Kg) N (CF Zk4 N [1,1,1,0,1,0])] at h
  exact Eq.trans (by kernel_rfl) h.symm
theorem Zqw (N:Nat):Good Tryz.prog 171 (Zk3 N):=GF Zk4 N Tryz.func171 (Wa (Zv4 N) Zv2 (Wa (Zmy N) Zmx (Wa (Z0e N) Z0c We))) (by kernel_rfl) (fun d=>Z2f N d.1)
def Zoq (N:Nat):Sig:=Sig.of [.v Jc false] [.v Jp false] (fun d=>Zfh N d.1)
def Zl8:Fn:=⟨Tryz.f117,fun | 2=>[.canon [0,5,6,7,8]] | 3=>[.canon [0,4,5,6,7]] | 4=>[.canon [0,5,6,7,18]] | 5=>[.canon [2]] | 6=>[.canon [0,5,6,7]] | 100002=>[.canon [0,5,6,7]] | _=>[],Zoq,fun N=>[(170,Zjt N),(171,Zk3 N)]⟩
def Zx0 (code2:List Ka) (t5:Int):St:=⟨[(0,vV Jc code2),(5,vV Jc code2),(6,vI (ilen code2)),(7,vI t5)],[],0⟩
def Zv7 (code2:List Ka):St:=⟨[(2,vB false)],[],0⟩
def Zv8 (code2:List Ka) (t8:Int) (t9:Bool):St:=⟨[(0,vV Jc code2),(5,vV Jc code2),(6,vI (ilen code2)),(7,vI t8),(8,vB t9)],[],0⟩
theorem Zx1 (N:Nat) {R:Type} (K:Ex → St → Option R) {code2:List Ka} {K0:Option R} {K1:Int → Bool → Option R} (h0:K0 = K .ret (Zv7 code2)) (h1:K1 = fun t8 t9=>K (.exit 0) (Zv8 code2 t8 t9)) (n:Nat) (t5:Int):Zee N code2 K0 K1 n t5 = LM Zl8 N 0 100002 n (Zx0 code2 t5) K:=by
  subst h0 h1
  induction n generalizing t5 with
  | zero=>kernel_rfl
  | succ n ih=>rw [Zee]; simp (disch:=exact id (by kernel_rfl)) only [ih]; kernel_rfl
theorem Z3q:Wc Tryz.prog 117:=Wb Tryz.func117 (show Wg Tryz.f117 = true by kernel_rfl)
theorem Z3r (N:Nat) (code1:List Ka):DN Zl8 N (code1,()) = Zfh N code1:=by
  have h:Zfh N code1 = Zfh N code1:=rfl
  conv at h=>rhs; rw [Zfh]
  simp (disch:=exact id (by kernel_rfl)) only [Zx1 (R:=Unit × Kg) N (CF Zl8 N [1,0,1,0])] at h
  exact Eq.trans (by kernel_rfl) h.symm
theorem Z3s (N:Nat):Good Tryz.prog 117 (Zoq N):=GF Zl8 N Tryz.func117 (Wa (Zp1 N) Zp0 (Wa (Zqw N) Zqv We)) (by kernel_rfl) (fun d=>Z3r N d.1)
def Zlp (N:Nat):Sig:=Sig.of [.v Jv true] [.v Jp false] (fun d=>Zm5 N d.1)
def Zx2:Fn:=⟨Tryz.f232,Wy,Zlp,Wde⟩
theorem Zx3:Wc Tryz.prog 232:=Wb Tryz.func232 (show Wg Tryz.f232 = true by kernel_rfl)
theorem Zx4 (N:Nat):Good Tryz.prog 232 (Zlp N):=GF Zx2 N Tryz.func232 We (by kernel_rfl) (fun d=>by kernel_rfl)
def Za2 (N:Nat):Sig:=Sig.of [.v Jc false,.clos 232 0] [.v Ja false] (fun d=>Zs N d.1)
def Zad:Fn:=⟨Tryz.f261,fun | 2=>[.canon [0,1,7,8,9]] | 3=>[.canon [0,1,5,7,8]] | 4=>[.canon [0,1,5,7,8,16]] | 5=>[.canon [1,4]] | 6=>[.canon [0,1,7,8]] | 100002=>[.canon [0,1,7,8]] | _=>[],Za2,fun N=>[(232,Zlp N)]⟩
def Zf1 (s2:List Ka) (t4:Int):St:=⟨[(0,vV Jc s2),(1,.s (.one (.clos 232 []))),(7,vI (ilen s2)),(8,vI t4)],[],0⟩
def Zfl (s2:List Ka) (t7:Int):St:=⟨[(1,.s (.one (.clos 232 []))),(4,vI t7)],[],0⟩
def Zfm (s2:List Ka) (t8:Int) (t9:Bool):St:=⟨[(0,vV Jc s2),(1,.s (.one (.clos 232 []))),(7,vI (ilen s2)),(8,vI t8),(9,vB t9)],[],0⟩
theorem Zf2 (N:Nat) {R:Type} (K:Ex → St → Option R) {s2:List Ka} {K0:Int → Option R} {K1:Int → Bool → Option R} (h0:K0 = fun t7=>K .ret (Zfl s2 t7)) (h1:K1 = fun t8 t9=>K (.exit 0) (Zfm s2 t8 t9)) (n:Nat) (t4:Int):Zq N s2 K0 K1 n t4 = LM Zad N 0 100002 n (Zf1 s2 t4) K:=by
  subst h0 h1
  induction n generalizing t4 with
  | zero=>kernel_rfl
  | succ n ih=>rw [Zq]; simp (disch:=exact id (by kernel_rfl)) only [ih]; kernel_rfl
theorem Zgn:Wc Tryz.prog 261:=Wb Tryz.func261 (show Wg Tryz.f261 = true by kernel_rfl)
theorem Zgo (N:Nat) (s1:List Ka):DN Zad N (s1,()) = Zs N s1:=by
  have h:Zs N s1 = Zs N s1:=rfl
  conv at h=>rhs; rw [Zs]
  simp (disch:=exact id (by kernel_rfl)) only [Zf2 (R:=Unit × Kj) N (CF Zad N [1,0,1,0])] at h
  exact Eq.trans (by kernel_rfl) h.symm
theorem Zgp (N:Nat):Good Tryz.prog 261 (Za2 N):=GF Zad N Tryz.func261 (Wa (Zx4 N) Zx3 We) (by kernel_rfl) (fun d=>Zgo N d.1)
def Zaw (N:Nat):Sig:=Sig.of [.v Jc false,.clos 232 0] [.v Jp false] (fun d=>Za0 N d.1)
def Zf9:Fn:=⟨Tryz.f231,Wy,Zaw,fun N=>[(261,Za2 N)]⟩
theorem Zga:Wc Tryz.prog 231:=Wb Tryz.func231 (show Wg Tryz.f231 = true by kernel_rfl)
theorem Zgb (N:Nat):Good Tryz.prog 231 (Zaw N):=GF Zf9 N Tryz.func231 (Wa (Zgp N) Zgn We) (by kernel_rfl) (fun d=>by kernel_rfl)
def Zm9 (N:Nat):Sig:=Sig.of [.v Jc false] [.v Jp false] (fun d=>Zhj N d.1)
def Z0f:Fn:=⟨Tryz.f197,Wy,Zm9,fun N=>[(231,Zaw N)]⟩
theorem Z0g:Wc Tryz.prog 197:=Wb Tryz.func197 (show Wg Tryz.f197 = true by kernel_rfl)
theorem Z0h (N:Nat):Good Tryz.prog 197 (Zm9 N):=GF Z0f N Tryz.func197 (Wa (Zgb N) Zga We) (by kernel_rfl) (fun d=>by kernel_rfl)
def Zn0 (N:Nat):Sig:=Sig.of [.v Jm true] [.v Jp false] (fun d=>Zf7 N d.1)
def Zk5:Fn:=⟨Tryz.f154,fun | 2=>[.canon [1,6,7,8,9]] | 3=>[.canon [1,4,6,7,8]] | 4=>[.canon [1,6,7,8,15]] | 5=>[.canon [2]] | 6=>[.canon [1,6,7,8]] | 100002=>[.canon [1,6,7,8]] | _=>[],Zn0,fun N=>[(117,Zoq N),(171,Zk3 N),(197,Zm9 N)]⟩
def Zv9 (t2:List Ko) (t4:Int) (b5:List Ka × List Ko):St:=⟨[(1,vP 0 0),(6,vV (.slice Jc) t2),(7,vI (ilen b5.2)),(8,vI t4)],[(0,.box [.val Jc b5.1,.val (.slice Jc) b5.2])],1⟩
def Ztt (t2:List Ko) (b5:List Ka × List Ko):St:=⟨[(2,vB false)],[],0⟩
def Ztu (t2:List Ko) (b5:List Ka × List Ko) (t8:Int) (t9:Bool):St:=⟨[(1,vP 0 0),(6,vV (.slice Jc) t2),(7,vI (ilen b5.2)),(8,vI t8),(9,vB t9)],[(0,.box [.val Jc b5.1,.val (.slice Jc) b5.2])],1⟩
theorem Zwa (N:Nat) {R:Type} (K:Ex → St → Option R) {t2:List Ko} {b5:List Ka × List Ko} {K0:Option R} {K1:Int → Bool → Option R} (h0:K0 = K .ret (Ztt t2 b5)) (h1:K1 = fun t8 t9=>K (.exit 0) (Ztu t2 b5 t8 t9)) (n:Nat) (t4:Int):Zdd N t2 b5 K0 K1 n t4 = LM Zk5 N 0 100002 n (Zv9 t2 t4 b5) K:=by
  subst h0 h1
  induction n generalizing t4 with
  | zero=>kernel_rfl
  | succ n ih=>rw [Zdd]; simp (disch:=exact id (by kernel_rfl)) only [ih]; kernel_rfl
theorem Z2g:Wc Tryz.prog 154:=Wb Tryz.func154 (show Wg Tryz.f154 = true by kernel_rfl)
theorem Z2h (N:Nat) (p1:List Ka × List Ko):DN Zk5 N (p1,()) = Zf7 N p1:=by
  have h:Zf7 N p1 = Zf7 N p1:=rfl
  conv at h=>rhs; rw [Zf7]
  simp (disch:=exact id (by kernel_rfl)) only [Zwa (R:=Unit × Kg) N (CF Zk5 N [1,0,1,0])] at h
  exact Eq.trans (by kernel_rfl) h.symm
theorem Z2i (N:Nat):Good Tryz.prog 154 (Zn0 N):=GF Zk5 N Tryz.func154 (Wa (Z3s N) Z3q (Wa (Zqw N) Zqv (Wa (Z0h N) Z0g We))) (by kernel_rfl) (fun d=>Z2h N d.1)
def Zkr (N:Nat):Sig:=Sig.of [.v Jm true] [.v Jp false] (fun d=>Zix N d.1)
def Zwb:Fn:=⟨Tryz.f153,Wy,Zkr,fun N=>[(154,Zn0 N)]⟩
theorem Zwc:Wc Tryz.prog 153:=Wb Tryz.func153 (show Wg Tryz.f153 = true by kernel_rfl)
theorem Zwd (N:Nat):Good Tryz.prog 153 (Zkr N):=GF Zwb N Tryz.func153 (Wa (Z2i N) Z2g We) (by kernel_rfl) (fun d=>by kernel_rfl)
def Zas (N:Nat):Sig:=Sig.of [.v Jaf false,.clos 153 0] [.v Ja false] (fun d=>Zo N d.1)
def Zaa:Fn:=⟨Tryz.f196,fun | 2=>[.canon [0,1,7,8,9]] | 3=>[.canon [0,1,5,7,8]] | 4=>[.canon [0,1,5,7,8,16]] | 5=>[.canon [1,4]] | 6=>[.canon [0,1,7,8]] | 100002=>[.canon [0,1,7,8]] | _=>[],Zas,fun N=>[(153,Zkr N)]⟩
def Zel (s2:List Kk) (t4:Int):St:=⟨[(0,vV Jaf s2),(1,.s (.one (.clos 153 []))),(7,vI (ilen s2)),(8,vI t4)],[],0⟩
def Zd4 (s2:List Kk) (t7:Int):St:=⟨[(1,.s (.one (.clos 153 []))),(4,vI t7)],[],0⟩
def Zd5 (s2:List Kk) (t8:Int) (t9:Bool):St:=⟨[(0,vV Jaf s2),(1,.s (.one (.clos 153 []))),(7,vI (ilen s2)),(8,vI t8),(9,vB t9)],[],0⟩
theorem Zem (N:Nat) {R:Type} (K:Ex → St → Option R) {s2:List Kk} {K0:Int → Option R} {K1:Int → Bool → Option R} (h0:K0 = fun t7=>K .ret (Zd4 s2 t7)) (h1:K1 = fun t8 t9=>K (.exit 0) (Zd5 s2 t8 t9)) (n:Nat) (t4:Int):Zf N s2 K0 K1 n t4 = LM Zaa N 0 100002 n (Zel s2 t4) K:=by
  subst h0 h1
  induction n generalizing t4 with
  | zero=>kernel_rfl
  | succ n ih=>rw [Zf]; simp (disch:=exact id (by kernel_rfl)) only [ih]; kernel_rfl
theorem Zfn:Wc Tryz.prog 196:=Wb Tryz.func196 (show Wg Tryz.f196 = true by kernel_rfl)
theorem Zfo (N:Nat) (s1:List Kk):DN Zaa N (s1,()) = Zo N s1:=by
  have h:Zo N s1 = Zo N s1:=rfl
  conv at h=>rhs; rw [Zo]
  simp (disch:=exact id (by kernel_rfl)) only [Zem (R:=Unit × Kj) N (CF Zaa N [1,0,1,0])] at h
  exact Eq.trans (by kernel_rfl) h.symm
theorem Zfp (N:Nat):Good Tryz.prog 196 (Zas N):=GF Zaa N Tryz.func196 (Wa (Zwd N) Zwc We) (by kernel_rfl) (fun d=>Zfo N d.1)
def Zao (N:Nat):Sig:=Sig.of [.v Jaf false,.clos 153 0] [.v Jp false] (fun d=>Zaq N d.1)
def Ze1:Fn:=⟨Tryz.f152,Wy,Zao,fun N=>[(196,Zas N)]⟩
theorem Ze2:Wc Tryz.prog 152:=Wb Tryz.func152 (show Wg Tryz.f152 = true by kernel_rfl)
theorem Ze3 (N:Nat):Good Tryz.prog 152 (Zao N):=GF Ze1 N Tryz.func152 (Wa (Zfp N) Zfn We) (by kernel_rfl) (fun d=>by kernel_rfl)
def Zhc (N:Nat):Sig:=Sig.of [.v Jz true] [.v Jp false] (fun d=>Zg2 N d.1)
def Zza:Fn:=⟨Tryz.f103,Wy,Zhc,fun N=>[(151,Zmi N),(152,Zao N)]⟩
theorem Zmj:Wc Tryz.prog 103:=Wb Tryz.func103 (show Wg Tryz.f103 = true by kernel_rfl)
theorem Zmk (N:Nat):Good Tryz.prog 103 (Zhc N):=GF Zza N Tryz.func103 (Wa (Zy9 N) Zy8 (Wa (Ze3 N) Ze2 We)) (by kernel_rfl) (fun d=>by kernel_rfl)
def Zna (N:Nat):Sig:=Sig.of [] [.v Jac false] (fun d=>Zok N)
def Z0i:Fn:=⟨Tryz.f157,Wy,Zna,Wde⟩
theorem Z0j:Wc Tryz.prog 157:=Wb Tryz.func157 (show Wg Tryz.f157 = true by kernel_rfl)
theorem Z0k (N:Nat):Good Tryz.prog 157 (Zna N):=GF Z0i N Tryz.func157 We (by kernel_rfl) (fun d=>by kernel_rfl)
def Z7 (N:Nat):Sig:=Sig.of [.v Jj false] [.v Jac false] (fun d=>Zx N d.1)
def Zzb:Fn:=⟨Tryz.f72,Wy,Z7,Wde⟩
theorem Zag:Wc Tryz.prog 72:=Wb Tryz.func72 (show Wg Tryz.f72 = true by kernel_rfl)
theorem Zah (N:Nat):Good Tryz.prog 72 (Z7 N):=GF Zzb N Tryz.func72 We (by kernel_rfl) (fun d=>by kernel_rfl)
def Zk6 (N:Nat):Sig:=Sig.of [.v Ja false,.v Ja false] [.v Ja false] (fun d=>Zib N d.1 d.2.1)
def Z2j:Fn:=⟨Tryz.f212,Wy,Zk6,Wde⟩
theorem Zqx:Wc Tryz.prog 212:=Wb Tryz.func212 (show Wg Tryz.f212 = true by kernel_rfl)
theorem Zqy (N:Nat):Good Tryz.prog 212 (Zk6 N):=GF Z2j N Tryz.func212 We (by kernel_rfl) (fun d=>by kernel_rfl)
def Zl9 (N:Nat):Sig:=Sig.of [.v Ja false] [.v Ja false] (fun d=>Zhq N d.1)
def Z3t:Fn:=⟨Tryz.f244,Wy,Zl9,Wde⟩
theorem Zrw:Wc Tryz.prog 244:=Wb Tryz.func244 (show Wg Tryz.f244 = true by kernel_rfl)
theorem Zrx (N:Nat):Good Tryz.prog 244 (Zl9 N):=GF Z3t N Tryz.func244 We (by kernel_rfl) (fun d=>by kernel_rfl)
def Zi2 (N:Nat):Sig:=Sig.of [.v Ja false] [.v Ja false] (fun d=>Zih N d.1)
def Zzc:Fn:=⟨Tryz.f213,Wy,Zi2,fun N=>[(209,Ze0 N)]⟩
theorem Zpk:Wc Tryz.prog 213:=Wb Tryz.func213 (show Wg Tryz.f213 = true by kernel_rfl)
theorem Zpl (N:Nat):Good Tryz.prog 213 (Zi2 N):=GF Zzc N Tryz.func213 (Wa (Zhm N) Zhl We) (by kernel_rfl) (fun d=>by kernel_rfl)
def Zgk (N:Nat):Sig:=Sig.of [.v Jj false] [.v Jp false] (fun d=>Zb2 N d.1)
def Zjv:Fn:=⟨Tryz.f208,fun | 5=>[.canon [3,9,10,11,12]] | 6=>[.canon [3,4,5,9,10,11]] | 7=>[.canon [3,4,5,9,10,11,17]] | 8=>[.canon [3,5,9,10,11,35]] | 9=>[.canon [2]] | 10=>[.canon [3,9,10,11]] | 11=>[.canon [3,9,10,11]] | 100005=>[.canon [3,9,10,11]] | _=>[],Zgk,fun N=>[(212,Zk6 N),(55,Zz N),(244,Zl9 N),(213,Zi2 N)]⟩
def Ztv (t2:List Int) (t4:Int) (l5:List Bool):St:=⟨[(3,.s (.one (.aptr 0))),(9,vV Jj t2),(10,vI (ilen t2)),(11,vI t4)],[(0,.arr Jp l5)],1⟩
def Zry (t2:List Int):St:=⟨[(2,vB false)],[],0⟩
def Zrz (t2:List Int) (t18:Int) (t19:Bool) (l20:List Bool):St:=⟨[(3,.s (.one (.aptr 0))),(9,vV Jj t2),(10,vI (ilen t2)),(11,vI t18),(12,vB t19)],[(0,.arr Jp l20)],1⟩
theorem Ztw (N:Nat) {R:Type} (K:Ex → St → Option R) {t2:List Int} {K0:Option R} {K1:Int → Bool → (List Bool) → Option R} (h0:K0 = K .ret (Zry t2)) (h1:K1 = fun t18 t19 l20=>K (.exit 0) (Zrz t2 t18 t19 l20)) (n:Nat) (t4:Int) (l5:List Bool):Zb6 N t2 K0 K1 n t4 l5 = LM Zjv N 0 100005 n (Ztv t2 t4 l5) K:=by
  subst h0 h1
  induction n generalizing t4 l5 with
  | zero=>kernel_rfl
  | succ n ih=>rw [Zb6]; simp (disch:=exact id (by kernel_rfl)) only [ih]; kernel_rfl
theorem Zjw:Wc Tryz.prog 208:=Wb Tryz.func208 (show Wg Tryz.f208 = true by kernel_rfl)
theorem Z0l (N:Nat) (l1:List Int):DN Zjv N (l1,()) = Zb2 N l1:=by
  have h:Zb2 N l1 = Zb2 N l1:=rfl
  conv at h=>rhs; rw [Zb2]
  simp (disch:=exact id (by kernel_rfl)) only [Ztw (R:=Unit × Kg) N (CF Zjv N [1,1,1,0,1,0])] at h
  exact Eq.trans (by kernel_rfl) h.symm
theorem Zjx (N:Nat):Good Tryz.prog 208 (Zgk N):=GF Zjv N Tryz.func208 (Wa (Zqy N) Zqx (Wa (Z4 N) Z3 (Wa (Zrx N) Zrw (Wa (Zpl N) Zpk We)))) (by kernel_rfl) (fun d=>Z0l N d.1)
def Zkk (N:Nat):Sig:=Sig.of [.v Jj false,.v Ja false] [.v Ja false] (fun d=>Zds N d.1 d.2.1)
def Zmz:Fn:=⟨Tryz.f210,fun | 2=>[.canon [1,7,8,9,10]] | 3=>[.canon [1,5,6,7,8,9]] | 4=>[.canon [1,5,7,8,9,21]] | 5=>[.canon [4]] | 6=>[.canon [1,7,8,9]] | 100002=>[.canon [1,7,8,9]] | _=>[],Zkk,fun N=>[(244,Zl9 N)]⟩
def Zzd (key3:Int) (t4:List Int) (t6:Int):St:=⟨[(1,vI key3),(7,vV Jj t4),(8,vI (ilen t4)),(9,vI t6)],[],0⟩
def Zx5 (key3:Int) (t4:List Int) (t9:Int):St:=⟨[(4,vI t9)],[],0⟩
def Zx6 (key3:Int) (t4:List Int) (t10:Int) (t11:Bool):St:=⟨[(1,vI key3),(7,vV Jj t4),(8,vI (ilen t4)),(9,vI t10),(10,vB t11)],[],0⟩
theorem Zze (N:Nat) {R:Type} (K:Ex → St → Option R) {key3:Int} {t4:List Int} {K0:Int → Option R} {K1:Int → Bool → Option R} (h0:K0 = fun t9=>K .ret (Zx5 key3 t4 t9)) (h1:K1 = fun t10 t11=>K (.exit 0) (Zx6 key3 t4 t10 t11)) (n:Nat) (t6:Int):Zdk N key3 t4 K0 K1 n t6 = LM Zmz N 0 100002 n (Zzd key3 t4 t6) K:=by
  subst h0 h1
  induction n generalizing t6 with
  | zero=>kernel_rfl
  | succ n ih=>rw [Zdk]; simp (disch:=exact id (by kernel_rfl)) only [ih]; kernel_rfl
theorem Zo9:Wc Tryz.prog 210:=Wb Tryz.func210 (show Wg Tryz.f210 = true by kernel_rfl)
theorem Z37 (N:Nat) (l1:List Int) (key2:Int):DN Zmz N (l1,key2,()) = Zds N l1 key2:=by
  have h:Zds N l1 key2 = Zds N l1 key2:=rfl
  conv at h=>rhs; rw [Zds]
  simp (disch:=exact id (by kernel_rfl)) only [Zze (R:=Unit × Kj) N (CF Zmz N [1,0,1,0])] at h
  exact Eq.trans (by kernel_rfl) h.symm
theorem Zpa (N:Nat):Good Tryz.prog 210 (Zkk N):=GF Zmz N Tryz.func210 (Wa (Zrx N) Zrw We) (by kernel_rfl) (fun d=>Z37 N d.1 d.2.1)
def Zhw (N:Nat):Sig:=Sig.of [.v Jj false,.v Ja false] [.v Ja false,.v Jp false] (fun d=>Zhk N d.1 d.2.1)
def Z0m:Fn:=⟨Tryz.f211,Wy,Zhw,fun N=>[(208,Zgk N),(209,Ze0 N),(210,Zkk N)]⟩
theorem Znb:Wc Tryz.prog 211:=Wb Tryz.func211 (show Wg Tryz.f211 = true by kernel_rfl)
theorem Znc (N:Nat):Good Tryz.prog 211 (Zhw N):=GF Z0m N Tryz.func211 (Wa (Zjx N) Zjw (Wa (Zhm N) Zhl (Wa (Zpa N) Zo9 We))) (by kernel_rfl) (fun d=>by kernel_rfl)
def Zhx (N:Nat):Sig:=Sig.of [.v Jj false,.v Ja false,.v Ja false] [.v Jac false,.v Ja false,.v Jp false] (fun d=>Zcd N d.1 d.2.1 d.2.2.1)
def Zjy:Fn:=⟨Tryz.f158,fun | 10=>[.canon [1,2,9,13,57]] | 11=>[.canon [1,2,9,13]] | 100010=>[.canon [1,2,9,13]] | _=>[],Zhx,fun N=>[(72,Z7 N),(208,Zgk N),(209,Ze0 N),(130,Za5 N),(210,Zkk N),(211,Zhw N),(212,Zk6 N),(213,Zi2 N)]⟩
def Ztx (key12:Int) (v13:Int) (at14:Int) (l15:List Int):St:=⟨[(1,vI key12),(2,vI v13),(9,vO 0),(13,vI at14)],[(0,.arr Ja l15)],1⟩
def Zr0 (key12:Int) (v13:Int) (l15:List Int) (at16:Int) (t17:Bool):St:=⟨[(1,vI key12),(2,vI v13),(9,vO 0),(13,vI at16),(57,vB t17)],[(0,.arr Ja l15)],1⟩
theorem Zty (N:Nat) {R:Type} (K:Ex → St → Option R) {key12:Int} {v13:Int} {l15:List Int} {K0:Int → Bool → Option R} (h0:K0 = fun at16 t17=>K (.exit 0) (Zr0 key12 v13 l15 at16 t17)) (n:Nat) (at14:Int):Zct N key12 v13 l15 K0 n at14 = LM Zjy N 0 100010 n (Ztx key12 v13 at14 l15) K:=by
  subst h0
  induction n generalizing at14 with
  | zero=>kernel_rfl
  | succ n ih=>rw [Zct]; simp (disch:=exact id (by kernel_rfl)) only [ih]; kernel_rfl
theorem Znd:Wc Tryz.prog 158:=Wb Tryz.func158 (show Wg Tryz.f158 = true by kernel_rfl)
theorem Z0n (N:Nat) (l1:List Int) (key2:Int) (v3:Int):DN Zjy N (l1,key2,v3,()) = Zcd N l1 key2 v3:=by
  have h:Zcd N l1 key2 v3 = Zcd N l1 key2 v3:=rfl
  conv at h=>rhs; rw [Zcd]
  simp (disch:=exact id (by kernel_rfl)) only [Zty (R:=Unit × (Kh × (Int × Kg))) N (CF Zjy N [1,1,1,1,1,0,0])] at h
  exact Eq.trans (by kernel_rfl) h.symm
theorem Zne (N:Nat):Good Tryz.prog 158 (Zhx N):=GF Zjy N Tryz.func158 (Wa (Zah N) Zag (Wa (Zjx N) Zjw (Wa (Zhm N) Zhl (Wa (Zbq N) Zbp (Wa (Zpa N) Zo9 (Wa (Znc N) Znb (Wa (Zqy N) Zqx (Wa (Zpl N) Zpk We)))))))) (by kernel_rfl) (fun d=>Z0n N d.1 d.2.1 d.2.2.1)
def Zip (N:Nat):Sig:=Sig.of [.v Jj false] [.v Jac false] (fun d=>Z2 N d.1)
def Ziq:Fn:=⟨Tryz.f107,fun | 5=>[.canon [3,10,11,12,13]] | 6=>[.canon [3,4,5,10,11,12]] | 7=>[.canon [3,4,5,10,11,12,18]] | 8=>[.canon [3,10,11,12]] | 9=>[.canon [3,10,11,12]] | 100005=>[.canon [3,10,11,12]] | _=>[],Zip,fun N=>[(156,Zl6 N),(157,Zna N),(158,Zhx N)]⟩
def Zra (t4:List Int) (t6:Int) (l7:List Int):St:=⟨[(3,vO 0),(10,vV Jj t4),(11,vI (ilen t4)),(12,vI t6)],[(0,.arr Ja l7)],1⟩
def Zqj (t4:List Int) (t10:Int) (t11:Bool) (l12:List Int):St:=⟨[(3,vO 0),(10,vV Jj t4),(11,vI (ilen t4)),(12,vI t10),(13,vB t11)],[(0,.arr Ja l12)],1⟩
theorem Zrb (N:Nat) {R:Type} (K:Ex → St → Option R) {t4:List Int} {K0:Int → Bool → Kh → Option R} (h0:K0 = fun t10 t11 l12=>K (.exit 0) (Zqj t4 t10 t11 l12)) (n:Nat) (t6:Int) (l7:List Int):Zbk N t4 K0 n t6 l7 = LM Ziq N 0 100005 n (Zra t4 t6 l7) K:=by
  subst h0
  induction n generalizing t6 l7 with
  | zero=>kernel_rfl
  | succ n ih=>rw [Zbk]; simp (disch:=exact id (by kernel_rfl)) only [ih]; kernel_rfl
theorem Zox:Wc Tryz.prog 107:=Wb Tryz.func107 (show Wg Tryz.f107 = true by kernel_rfl)
theorem Zx7 (N:Nat) (m1:List Int):DN Ziq N (m1,()) = Z2 N m1:=by
  have h:Z2 N m1 = Z2 N m1:=rfl
  conv at h=>rhs; rw [Z2]
  simp (disch:=exact id (by kernel_rfl)) only [Zrb (R:=Unit × (Kh × Unit)) N (CF Ziq N [1,1,1,0,1,0])] at h
  exact Eq.trans (by kernel_rfl) h.symm
theorem Zoy (N:Nat):Good Tryz.prog 107 (Zip N):=GF Ziq N Tryz.func107 (Wa (Zru N) Zrt (Wa (Z0k N) Z0j (Wa (Zne N) Znd We))) (by kernel_rfl) (fun d=>Zx7 N d.1)
def Zk7 (N:Nat):Sig:=Sig.of [.v Jj false] [.v Jag true,.v Jp false] (fun d=>Zak N d.1)
def Zk8:Fn:=⟨Tryz.f53,fun | 5=>[.canon [2,4,12,13,14,15]] | 6=>[.canon [2,4,6,12,13,14]] | 7=>[.canon [2,4,12,13,14]] | 8=>[.canon [2,4,12,13,14]] | 100005=>[.adoptC 4 1 Jk,.canon [2,4,12,13,14]] | _=>[],Zk7,fun N=>[(71,Zcy N)]⟩
def Zwe (t3:List Int) (t5:Int) (l8:List Kb):St:=⟨[(2,vP 0 0),(4,vP 1 0),(12,vV Jj t3),(13,vI (ilen t3)),(14,vI t5)],[(0,.box [.val Ja (0:Int),.nils]),(1,.box [.val Ja (0:Int),.own 2]),(2,.arr Jk l8)],3⟩
def Ztz (t3:List Int) (t9:Int) (t10:Bool) (l11:List Kb):St:=⟨[(2,vP 0 0),(4,vP 1 0),(12,vV Jj t3),(13,vI (ilen t3)),(14,vI t9),(15,vB t10)],[(0,.box [.val Ja (0:Int),.nils]),(1,.box [.val Ja (0:Int),.own 2]),(2,.arr Jk l11)],3⟩
theorem Zwf (N:Nat) {R:Type} (K:Ex → St → Option R) {t3:List Int} {K0:Int → Bool → Km → Option R} (h0:K0 = fun t9 t10 l11=>K (.exit 0) (Ztz t3 t9 t10 l11)) (n:Nat) (t5:Int) (l8:List Kb):Zdc N t3 K0 n t5 l8 = LM Zk8 N 0 100005 n (Zwe t3 t5 l8) K:=by
  subst h0
  induction n generalizing t5 l8 with
  | zero=>kernel_rfl
  | succ n ih=>rw [Zdc]; simp (disch:=exact id (by kernel_rfl)) only [ih]; kernel_rfl
theorem Zqz:Wc Tryz.prog 53:=Wb Tryz.func53 (show Wg Tryz.f53 = true by kernel_rfl)
theorem Z2k (N:Nat) (l1:List Int):DN Zk8 N (l1,()) = Zak N l1:=by
  have h:Zak N l1 = Zak N l1:=rfl
  conv at h=>rhs; rw [Zak]
  simp (disch:=exact id (by kernel_rfl)) only [Zwf (R:=Unit × ((Int × List Kb) × Kg)) N (CF Zk8 N [1,1,1,0,1,0])] at h
  exact Eq.trans (by kernel_rfl) h.symm
theorem Zq0 (N:Nat):Good Tryz.prog 53 (Zk7 N):=GF Zk8 N Tryz.func53 (Wa (Zgx N) Zgw We) (by kernel_rfl) (fun d=>Z2k N d.1)
def Zcz (N:Nat):Sig:=Sig.of [.box Jaa] [] (fun d=>Zbd N d.1)
def Zx8:Fn:=⟨Tryz.f198,Wy,Zcz,Wde⟩
theorem Zgy:Wc Tryz.prog 198:=Wb Tryz.func198 (show Wg Tryz.f198 = true by kernel_rfl)
theorem Zgz (N:Nat):Good Tryz.prog 198 (Zcz N):=GF Zx8 N Tryz.func198 We (by kernel_rfl) (fun d=>by kernel_rfl)
def Zks (N:Nat):Sig:=Sig.of [.box Jt,.v Ja false] [] (fun d=>Zch N d.1 d.2.1)
def Zh6:Fn:=⟨Tryz.f199,fun | 3=>[.canon [0,1,4,5,17,18,19,20]] | 4=>[.canon [0,1,4,5,6,7,17,18,19]] | 5=>[.canon [0,1,4,5,17,18,19]] | 6=>[.canon [0,1,4,5,17,18,19]] | 100003=>[.canon [0,1,4,5,17,18,19]] | _=>[],Zks,Wde⟩
def Zqk (k3:Int) (r4:Nat) (alone5:Bool) (t6:Int) (t7:Int) (b8:Int) (b9:Int) (b10:Int) (b11:Int) (l12:List Y_Root) (l13:List Kb) (l14:List Int) (l15:List Kb) (l16:List Kl):St:=⟨[(0,vP 0 0),(1,vI k3),(4,.s (.one (.eptr 1 r4 0))),(5,vB alone5),(17,vO 1),(18,vI t6),(19,vI t7)],[(0,.box [.val Ja b8,.val Ja b9,.val Ja b10,.own 2,.own 3,.val Ja b11,.own 4,.own 1,.own 5]),(1,.arr Jaa l12),(2,.arr Jk l13),(3,.arr Ja l14),(4,.arr Jk l15),(5,.arr Ji l16)],6⟩
def Zp4 (k3:Int) (r4:Nat) (t6:Int) (b8:Int) (b9:Int) (b10:Int) (b11:Int) (l12:List Y_Root) (l13:List Kb) (l14:List Int) (l15:List Kb) (l16:List Kl) (alone17:Bool) (t18:Int) (t19:Bool):St:=⟨[(0,vP 0 0),(1,vI k3),(4,.s (.one (.eptr 1 r4 0))),(5,vB alone17),(17,vO 1),(18,vI t6),(19,vI t18),(20,vB t19)],[(0,.box [.val Ja b8,.val Ja b9,.val Ja b10,.own 2,.own 3,.val Ja b11,.own 4,.own 1,.own 5]),(1,.arr Jaa l12),(2,.arr Jk l13),(3,.arr Ja l14),(4,.arr Jk l15),(5,.arr Ji l16)],6⟩
theorem Zql (N:Nat) {R:Type} (K:Ex → St → Option R) {k3:Int} {r4:Nat} {t6:Int} {b8:Int} {b9:Int} {b10:Int} {b11:Int} {l12:List Y_Root} {l13:List Kb} {l14:List Int} {l15:List Kb} {l16:List Kl} {K0:Bool → Int → Bool → Option R} (h0:K0 = fun alone17 t18 t19=>K (.exit 0) (Zp4 k3 r4 t6 b8 b9 b10 b11 l12 l13 l14 l15 l16 alone17 t18 t19)) (n:Nat) (alone5:Bool) (t7:Int):Zax N k3 r4 t6 b8 b9 b10 b11 l12 l13 l14 l15 l16 K0 n alone5 t7 = LM Zh6 N 0 100003 n (Zqk k3 r4 alone5 t6 t7 b8 b9 b10 b11 l12 l13 l14 l15 l16) K:=by
  subst h0
  induction n generalizing alone5 t7 with
  | zero=>kernel_rfl
  | succ n ih=>rw [Zax]; simp (disch:=exact id (by kernel_rfl)) only [ih]; kernel_rfl
theorem Zwg:Wc Tryz.prog 199:=Wb Tryz.func199 (show Wg Tryz.f199 = true by kernel_rfl)
theorem Zwh (N:Nat) (w1:Y_World) (k2:Int):DN Zh6 N (w1,k2,()) = Zch N w1 k2:=by
  have h:Zch N w1 k2 = Zch N w1 k2:=rfl
  conv at h=>rhs; rw [Zch]
  simp (disch:=exact id (by kernel_rfl)) only [Zql (R:=(Y_World × Unit) × Unit) N (CF Zh6 N [1,1,0,1,0])] at h
  exact Eq.trans (by kernel_rfl) h.symm
theorem Zwi (N:Nat):Good Tryz.prog 199 (Zks N):=GF Zh6 N Tryz.func199 We (by kernel_rfl) (fun d=>Zwh N d.1 d.2.1)
def Zk9 (N:Nat):Sig:=Sig.of [.v Ja false,.v Ja false,.v Ja false] [.v Jp false] (fun d=>Zic N d.1 d.2.1 d.2.2.1)
def Z2l:Fn:=⟨Tryz.f280,Wy,Zk9,fun N=>[(55,Zz N)]⟩
theorem Zq1:Wc Tryz.prog 280:=Wb Tryz.func280 (show Wg Tryz.f280 = true by kernel_rfl)
theorem Zq2 (N:Nat):Good Tryz.prog 280 (Zk9 N):=GF Z2l N Tryz.func280 (Wa (Z4 N) Z3 We) (by kernel_rfl) (fun d=>by kernel_rfl)
def Zjd (N:Nat):Sig:=Sig.of [.v Jk true,.v Jk true] [.v Ja false] (fun d=>Zh3 N d.1 d.2.1)
def Zr1:Fn:=⟨Tryz.f281,Wy,Zjd,Wde⟩
theorem Zr2:Wc Tryz.prog 281:=Wb Tryz.func281 (show Wg Tryz.f281 = true by kernel_rfl)
theorem Zr3 (N:Nat):Good Tryz.prog 281 (Zjd N):=GF Zr1 N Tryz.func281 We (by kernel_rfl) (fun d=>by kernel_rfl)
def Zgl (N:Nat):Sig:=Sig.of [.v Je false] [.v Jp false] (fun d=>Zce N d.1)
def Zjz:Fn:=⟨Tryz.f241,fun | 2=>[.canon [0,5,6,7,8]] | 3=>[.canon [0,3,4,5,6,7]] | 4=>[.canon [0,3,4,5,6,7,33]] | 5=>[.canon [2]] | 6=>[.canon [0,5,6,7,60]] | 7=>[.canon [2]] | 8=>[.canon [0,5,6,7]] | 100002=>[.canon [0,5,6,7]] | _=>[],Zgl,fun N=>[(280,Zk9 N),(281,Zjd N)]⟩
def Zt0 (l2:List Kb) (t5:Int):St:=⟨[(0,vV Je l2),(5,vV Je l2),(6,vI (ilen l2)),(7,vI t5)],[],0⟩
def Zr4 (l2:List Kb):St:=⟨[(2,vB false)],[],0⟩
def Zr5 (l2:List Kb) (t10:Int) (t11:Bool):St:=⟨[(0,vV Je l2),(5,vV Je l2),(6,vI (ilen l2)),(7,vI t10),(8,vB t11)],[],0⟩
theorem Zt1 (N:Nat) {R:Type} (K:Ex → St → Option R) {l2:List Kb} {K0:Option R} {K1:Int → Bool → Option R} (h0:K0 = K .ret (Zr4 l2)) (h1:K1 = fun t10 t11=>K (.exit 0) (Zr5 l2 t10 t11)) (n:Nat) (t5:Int):Zau N l2 K0 K1 n t5 = LM Zjz N 0 100002 n (Zt0 l2 t5) K:=by
  subst h0 h1
  induction n generalizing t5 with
  | zero=>kernel_rfl
  | succ n ih=>rw [Zau]; simp (disch:=exact id (by kernel_rfl)) only [ih]; kernel_rfl
theorem Zj0:Wc Tryz.prog 241:=Wb Tryz.func241 (show Wg Tryz.f241 = true by kernel_rfl)
theorem Z0o (N:Nat) (l1:List Kb):DN Zjz N (l1,()) = Zce N l1:=by
  have h:Zce N l1 = Zce N l1:=rfl
  conv at h=>rhs; rw [Zce]
  simp (disch:=exact id (by kernel_rfl)) only [Zt1 (R:=Unit × Kg) N (CF Zjz N [1,0,1,0])] at h
  exact Eq.trans (by kernel_rfl) h.symm
theorem Zj1 (N:Nat):Good Tryz.prog 241 (Zgl N):=GF Zjz N Tryz.func241 (Wa (Zq2 N) Zq1 (Wa (Zr3 N) Zr2 We)) (by kernel_rfl) (fun d=>Z0o N d.1)
def Znf (N:Nat):Sig:=Sig.of [.v Je false,.v Ja false] [.v Jac false] (fun d=>Zc4 N d.1 d.2.1)
def Zj2:Fn:=⟨Tryz.f262,fun | 5=>[.canon [1,5,12,13,14,15]] | 6=>[.canon [1,5,7,12,13,14]] | 7=>[.canon [1,5,7,12,13,14,21]] | 8=>[.canon [1,5,12,13,14]] | 9=>[.canon [1,5,12,13,14]] | 100005=>[.canon [1,5,12,13,14]] | _=>[],Znf,fun N=>[(241,Zgl N)]⟩
def Zt2 (who4:Int) (t5:List Kb) (t7:Int) (l8:List Int):St:=⟨[(1,vI who4),(5,vO 0),(12,vV Je t5),(13,vI (ilen t5)),(14,vI t7)],[(0,.arr Ja l8)],1⟩
def Zr6 (who4:Int) (t5:List Kb) (t9:Int) (t10:Bool) (l11:List Int):St:=⟨[(1,vI who4),(5,vO 0),(12,vV Je t5),(13,vI (ilen t5)),(14,vI t9),(15,vB t10)],[(0,.arr Ja l11)],1⟩
theorem Zt3 (N:Nat) {R:Type} (K:Ex → St → Option R) {who4:Int} {t5:List Kb} {K0:Int → Bool → Kh → Option R} (h0:K0 = fun t9 t10 l11=>K (.exit 0) (Zr6 who4 t5 t9 t10 l11)) (n:Nat) (t7:Int) (l8:List Int):Zb7 N who4 t5 K0 n t7 l8 = LM Zj2 N 0 100005 n (Zt2 who4 t5 t7 l8) K:=by
  subst h0
  induction n generalizing t7 l8 with
  | zero=>kernel_rfl
  | succ n ih=>rw [Zb7]; simp (disch:=exact id (by kernel_rfl)) only [ih]; kernel_rfl
theorem Z0p:Wc Tryz.prog 262:=Wb Tryz.func262 (show Wg Tryz.f262 = true by kernel_rfl)
theorem Z0q (N:Nat) (l1:List Kb) (who2:Int):DN Zj2 N (l1,who2,()) = Zc4 N l1 who2:=by
  have h:Zc4 N l1 who2 = Zc4 N l1 who2:=rfl
  conv at h=>rhs; rw [Zc4]
  simp (disch:=exact id (by kernel_rfl)) only [Zt3 (R:=Unit × (Kh × Unit)) N (CF Zj2 N [1,1,1,0,1,0])] at h
  exact Eq.trans (by kernel_rfl) h.symm
theorem Z0r (N:Nat):Good Tryz.prog 262 (Znf N):=GF Zj2 N Tryz.func262 (Wa (Zj1 N) Zj0 We) (by kernel_rfl) (fun d=>Z0q N d.1 d.2.1)
def Zir (N:Nat):Sig:=Sig.of [.box Jt,.v Ja false] [] (fun d=>Zgh N d.1 d.2.1)
def Zx9:Fn:=⟨Tryz.f207,fun | 0=>[.opn 10] | _=>[],Zir,Wde⟩
theorem Zoz:Wc Tryz.prog 207:=Wb Tryz.func207 (show Wg Tryz.f207 = true by kernel_rfl)
theorem Zo0 (N:Nat):Good Tryz.prog 207 (Zir N):=GF Zx9 N Tryz.func207 We (by kernel_rfl) (fun d=>by kernel_rfl)
def Zen (N:Nat):Sig:=Sig.of [.v Ja false] [.v Jp false] (fun d=>Zes N d.1)
def Z0s:Fn:=⟨Tryz.f288,Wy,Zen,fun N=>[(55,Zz N)]⟩
theorem Zhy:Wc Tryz.prog 288:=Wb Tryz.func288 (show Wg Tryz.f288 = true by kernel_rfl)
theorem Zhz (N:Nat):Good Tryz.prog 288 (Zen N):=GF Z0s N Tryz.func288 (Wa (Z4 N) Z3 We) (by kernel_rfl) (fun d=>by kernel_rfl)
def Zg5 (N:Nat):Sig:=Sig.of [.v Jn false] [.v Jp false] (fun d=>Zbz N d.1)
def Zla:Fn:=⟨Tryz.f73,fun | 2=>[.canon [0,5,6,7,8]] | 3=>[.canon [0,4,5,6,7]] | 4=>[.canon [0,5,6,7,20]] | 5=>[.canon [2]] | 6=>[.canon [0,5,6,7]] | 100002=>[.canon [0,5,6,7]] | _=>[],Zg5,fun N=>[(65,Zb4 N),(130,Za5 N)]⟩
def Zwj (l2:List Kc) (t5:Int):St:=⟨[(0,vV Jn l2),(5,vV Jn l2),(6,vI (ilen l2)),(7,vI t5)],[],0⟩
def Zt4 (l2:List Kc):St:=⟨[(2,vB false)],[],0⟩
def Zt5 (l2:List Kc) (t10:Int) (t11:Bool):St:=⟨[(0,vV Jn l2),(5,vV Jn l2),(6,vI (ilen l2)),(7,vI t10),(8,vB t11)],[],0⟩
theorem Zwk (N:Nat) {R:Type} (K:Ex → St → Option R) {l2:List Kc} {K0:Option R} {K1:Int → Bool → Option R} (h0:K0 = K .ret (Zt4 l2)) (h1:K1 = fun t10 t11=>K (.exit 0) (Zt5 l2 t10 t11)) (n:Nat) (t5:Int):Zdb N l2 K0 K1 n t5 = LM Zla N 0 100002 n (Zwj l2 t5) K:=by
  subst h0 h1
  induction n generalizing t5 with
  | zero=>kernel_rfl
  | succ n ih=>rw [Zdb]; simp (disch:=exact id (by kernel_rfl)) only [ih]; kernel_rfl
theorem Zlb:Wc Tryz.prog 73:=Wb Tryz.func73 (show Wg Tryz.f73 = true by kernel_rfl)
theorem Z2m (N:Nat) (l1:List Kc):DN Zla N (l1,()) = Zbz N l1:=by
  have h:Zbz N l1 = Zbz N l1:=rfl
  conv at h=>rhs; rw [Zbz]
  simp (disch:=exact id (by kernel_rfl)) only [Zwk (R:=Unit × Kg) N (CF Zla N [1,0,1,0])] at h
  exact Eq.trans (by kernel_rfl) h.symm
theorem Zlc (N:Nat):Good Tryz.prog 73 (Zg5 N):=GF Zla N Tryz.func73 (Wa (Zdo N) Zdn (Wa (Zbq N) Zbp We)) (by kernel_rfl) (fun d=>Z2m N d.1)
def Zkl (N:Nat):Sig:=Sig.of [.v Jn false,.v Ja false] [.v Ja false,.v Jp false] (fun d=>Zff N d.1 d.2.1)
def Zm0:Fn:=⟨Tryz.f172,fun | 4=>[.canon [0,1,6,14]] | 5=>[.canon [0,1,6]] | 6=>[.canon [0,1,6,23]] | 7=>[.canon [4,5]] | 100004=>[.canon [0,1,6]] | _=>[],Zkl,fun N=>[(73,Zg5 N)]⟩
def Zzf (l4:List Kc) (cell5:Int) (i6:Int):St:=⟨[(0,vV Jn l4),(1,vI cell5),(6,vI i6)],[],0⟩
def Zya (l4:List Kc) (cell5:Int) (t7:Int):St:=⟨[(4,vI t7),(5,vB true)],[],0⟩
def Zyb (l4:List Kc) (cell5:Int) (i8:Int) (t9:Bool):St:=⟨[(0,vV Jn l4),(1,vI cell5),(6,vI i8),(14,vB t9)],[],0⟩
theorem Zzg (N:Nat) {R:Type} (K:Ex → St → Option R) {l4:List Kc} {cell5:Int} {K0:Int → Option R} {K1:Int → Bool → Option R} (h0:K0 = fun t7=>K .ret (Zya l4 cell5 t7)) (h1:K1 = fun i8 t9=>K (.exit 0) (Zyb l4 cell5 i8 t9)) (n:Nat) (i6:Int):Zg1 N l4 cell5 K0 K1 n i6 = LM Zm0 N 0 100004 n (Zzf l4 cell5 i6) K:=by
  subst h0 h1
  induction n generalizing i6 with
  | zero=>kernel_rfl
  | succ n ih=>rw [Zg1]; simp (disch:=exact id (by kernel_rfl)) only [ih]; kernel_rfl
theorem Zpb:Wc Tryz.prog 172:=Wb Tryz.func172 (show Wg Tryz.f172 = true by kernel_rfl)
theorem Z38 (N:Nat) (l1:List Kc) (cell2:Int):DN Zm0 N (l1,cell2,()) = Zff N l1 cell2:=by
  have h:Zff N l1 cell2 = Zff N l1 cell2:=rfl
  conv at h=>rhs; rw [Zff]
  simp (disch:=exact id (by kernel_rfl)) only [Zzg (R:=Unit × (Int × Kg)) N (CF Zm0 N [1,1,0,1,0])] at h
  exact Eq.trans (by kernel_rfl) h.symm
theorem Zpc (N:Nat):Good Tryz.prog 172 (Zkl N):=GF Zm0 N Tryz.func172 (Wa (Zlc N) Zlb We) (by kernel_rfl) (fun d=>Z38 N d.1 d.2.1)
def Zje (N:Nat):Sig:=Sig.of [.v Jn false] [.v (.own Jw) false] (fun d=>Zd1 N d.1)
def Zn1:Fn:=⟨Tryz.f118,fun | 5=>[.canon [0,3,11,12]] | 6=>[.canon [0,3,4,11]] | 7=>[.canon [0,3,4,5,6,11]] | 8=>[.canon [0,3,4,5,11,20]] | 9=>[.canon [0,3,11]] | 10=>[.canon [0,3,11]] | 100005=>[.canon [0,3,11]] | _=>[],Zje,fun N=>[(73,Zg5 N),(172,Zkl N)]⟩
def Z0t (l3:List Kc) (t4:Int) (l5:List Kc):St:=⟨[(0,vV Jn l3),(3,vO 0),(11,vI t4)],[(0,.arr Jw l5)],1⟩
def Zzh (l3:List Kc) (t7:Int) (t8:Bool) (l9:List Kc):St:=⟨[(0,vV Jn l3),(3,vO 0),(11,vI t7),(12,vB t8)],[(0,.arr Jw l9)],1⟩
theorem Z0u (N:Nat) {R:Type} (K:Ex → St → Option R) {l3:List Kc} {K0:Int → Bool → (List Kc) → Option R} (h0:K0 = fun t7 t8 l9=>K (.exit 0) (Zzh l3 t7 t8 l9)) (n:Nat) (t4:Int) (l5:List Kc):Zgg N l3 K0 n t4 l5 = LM Zn1 N 0 100005 n (Z0t l3 t4 l5) K:=by
  subst h0
  induction n generalizing t4 l5 with
  | zero=>kernel_rfl
  | succ n ih=>rw [Zgg]; simp (disch:=exact id (by kernel_rfl)) only [ih]; kernel_rfl
theorem Zn2:Wc Tryz.prog 118:=Wb Tryz.func118 (show Wg Tryz.f118 = true by kernel_rfl)
theorem Z4o (N:Nat) (l1:List Kc):DN Zn1 N (l1,()) = Zd1 N l1:=by
  have h:Zd1 N l1 = Zd1 N l1:=rfl
  conv at h=>rhs; rw [Zd1]
  simp (disch:=exact id (by kernel_rfl)) only [Z0u (R:=Unit × ((List Kc) × Unit)) N (CF Zn1 N [1,1,1,0,1,0])] at h
  exact Eq.trans (by kernel_rfl) h.symm
theorem Zn3 (N:Nat):Good Tryz.prog 118 (Zje N):=GF Zn1 N Tryz.func118 (Wa (Zlc N) Zlb (Wa (Zpc N) Zpb We)) (by kernel_rfl) (fun d=>Z4o N d.1)
def Zng (N:Nat):Sig:=Sig.of [.v Jn false] [.v Jac false] (fun d=>Zet N d.1)
def Zj3:Fn:=⟨Tryz.f289,fun | 3=>[.canon [3,8,9,10,11]] | 4=>[.canon [3,5,8,9,10]] | 5=>[.canon [3,8,9,10]] | 6=>[.canon [3,8,9,10]] | 100003=>[.canon [3,8,9,10]] | _=>[],Zng,fun N=>[(118,Zje N)]⟩
def Zt6 (t3:Int) (t4:Int) (l5:List Int) (l6:List Kc):St:=⟨[(3,vO 0),(8,vO 1),(9,vI t3),(10,vI t4)],[(0,.arr Ja l5),(1,.arr Jw l6)],2⟩
def Zr7 (t3:Int) (l6:List Kc) (t7:Int) (t8:Bool) (l9:List Int):St:=⟨[(3,vO 0),(8,vO 1),(9,vI t3),(10,vI t7),(11,vB t8)],[(0,.arr Ja l9),(1,.arr Jw l6)],2⟩
theorem Zt7 (N:Nat) {R:Type} (K:Ex → St → Option R) {t3:Int} {l6:List Kc} {K0:Int → Bool → Kh → Option R} (h0:K0 = fun t7 t8 l9=>K (.exit 0) (Zr7 t3 l6 t7 t8 l9)) (n:Nat) (t4:Int) (l5:List Int):Zcu N t3 l6 K0 n t4 l5 = LM Zj3 N 0 100003 n (Zt6 t3 t4 l5 l6) K:=by
  subst h0
  induction n generalizing t4 l5 with
  | zero=>kernel_rfl
  | succ n ih=>rw [Zcu]; simp (disch:=exact id (by kernel_rfl)) only [ih]; kernel_rfl
theorem Z0v:Wc Tryz.prog 289:=Wb Tryz.func289 (show Wg Tryz.f289 = true by kernel_rfl)
theorem Z0w (N:Nat) (l1:List Kc):DN Zj3 N (l1,()) = Zet N l1:=by
  have h:Zet N l1 = Zet N l1:=rfl
  conv at h=>rhs; rw [Zet]
  simp (disch:=exact id (by kernel_rfl)) only [Zt7 (R:=Unit × (Kh × Unit)) N (CF Zj3 N [1,1,0,1,0])] at h
  exact Eq.trans (by kernel_rfl) h.symm
theorem Z0x (N:Nat):Good Tryz.prog 289 (Zng N):=GF Zj3 N Tryz.func289 (Wa (Zn3 N) Zn2 We) (by kernel_rfl) (fun d=>Z0w N d.1)
def Zlq (N:Nat):Sig:=Sig.of [.v Ja false,.v Ja false,.v Jn false,.v Jn false] [.v Jd true,.v Jp false] (fun d=>Zej N d.1 d.2.1 d.2.2.1 d.2.2.2.1)
def Zyc:Fn:=⟨Tryz.f263,Wy,Zlq,fun N=>[(288,Zen N),(55,Zz N),(73,Zg5 N),(118,Zje N),(289,Zng N)]⟩
theorem Zyd:Wc Tryz.prog 263:=Wb Tryz.func263 (show Wg Tryz.f263 = true by kernel_rfl)
theorem Zye (N:Nat):Good Tryz.prog 263 (Zlq N):=GF Zyc N Tryz.func263 (Wa (Zhz N) Zhy (Wa (Z4 N) Z3 (Wa (Zlc N) Zlb (Wa (Zn3 N) Zn2 (Wa (Z0x N) Z0v We))))) (by kernel_rfl) (fun d=>by kernel_rfl)
def Zhg (N:Nat):Sig:=Sig.of [.box Jt,.v Ja false,.v Ja false] [] (fun d=>Zgt N d.1 d.2.1 d.2.2.1)
def Zt8:Fn:=⟨Tryz.f233,fun | 0=>[.opn 13] | _=>[],Zhg,fun N=>[(262,Znf N),(207,Zir N),(263,Zlq N)]⟩
theorem Zn4:Wc Tryz.prog 233:=Wb Tryz.func233 (show Wg Tryz.f233 = true by kernel_rfl)
theorem Zn5 (N:Nat):Good Tryz.prog 233 (Zhg N):=GF Zt8 N Tryz.func233 (Wa (Z0r N) Z0p (Wa (Zo0 N) Zoz (Wa (Zye N) Zyd We))) (by kernel_rfl) (fun d=>by kernel_rfl)
def Zi3 (N:Nat):Sig:=Sig.of [.v Ja false] [.v Jv true,.v Jp false] (fun d=>Zfi N d.1)
def Zzi:Fn:=⟨Tryz.f220,Wy,Zi3,fun N=>[(65,Zb4 N)]⟩
theorem Zpm:Wc Tryz.prog 220:=Wb Tryz.func220 (show Wg Tryz.f220 = true by kernel_rfl)
theorem Zpn (N:Nat):Good Tryz.prog 220 (Zi3 N):=GF Zzi N Tryz.func220 (Wa (Zdo N) Zdn We) (by kernel_rfl) (fun d=>by kernel_rfl)
def Ze4 (N:Nat):Sig:=Sig.of [.v Jab true] [.v Jp false] (fun d=>Zb1 N d.1)
def Zma:Fn:=⟨Tryz.f124,fun | 2=>[.canon [1,6,7,8,9]] | 3=>[.canon [1,4,6,7,8]] | 4=>[.canon [1,6,7,8,29]] | 5=>[.canon [2]] | 6=>[.canon [1,6,7,8]] | 100002=>[.canon [1,6,7,8]] | _=>[],Ze4,fun N=>[(130,Za5 N),(55,Zz N)]⟩
def Zyf (t2:List Kb) (t4:Int) (b5:Int × List Kb):St:=⟨[(1,vP 0 0),(6,vV Je t2),(7,vI (ilen b5.2)),(8,vI t4)],[(0,.box [.val Ja b5.1,.val Je b5.2])],1⟩
def Zwl (t2:List Kb) (b5:Int × List Kb):St:=⟨[(2,vB false)],[],0⟩
def Zwm (t2:List Kb) (b5:Int × List Kb) (t12:Int) (t13:Bool):St:=⟨[(1,vP 0 0),(6,vV Je t2),(7,vI (ilen b5.2)),(8,vI t12),(9,vB t13)],[(0,.box [.val Ja b5.1,.val Je b5.2])],1⟩
theorem Zyg (N:Nat) {R:Type} (K:Ex → St → Option R) {t2:List Kb} {b5:Int × List Kb} {K0:Option R} {K1:Int → Bool → Option R} (h0:K0 = K .ret (Zwl t2 b5)) (h1:K1 = fun t12 t13=>K (.exit 0) (Zwm t2 b5 t12 t13)) (n:Nat) (t4:Int):Zef N t2 b5 K0 K1 n t4 = LM Zma N 0 100002 n (Zyf t2 t4 b5) K:=by
  subst h0 h1
  induction n generalizing t4 with
  | zero=>kernel_rfl
  | succ n ih=>rw [Zef]; simp (disch:=exact id (by kernel_rfl)) only [ih]; kernel_rfl
theorem Zhn:Wc Tryz.prog 124:=Wb Tryz.func124 (show Wg Tryz.f124 = true by kernel_rfl)
theorem Z3u (N:Nat) (m1:Int × List Kb):DN Zma N (m1,()) = Zb1 N m1:=by
  have h:Zb1 N m1 = Zb1 N m1:=rfl
  conv at h=>rhs; rw [Zb1]
  simp (disch:=exact id (by kernel_rfl)) only [Zyg (R:=Unit × Kg) N (CF Zma N [1,0,1,0])] at h
  exact Eq.trans (by kernel_rfl) h.symm
theorem Zho (N:Nat):Good Tryz.prog 124 (Ze4 N):=GF Zma N Tryz.func124 (Wa (Zbq N) Zbp (Wa (Z4 N) Z3 We)) (by kernel_rfl) (fun d=>Z3u N d.1)
def Znh (N:Nat):Sig:=Sig.of [.v Jv true] [.v Jp false] (fun d=>Zl0 N d.1)
def Z0y:Fn:=⟨Tryz.f249,Wy,Znh,fun N=>[(65,Zb4 N),(55,Zz N),(130,Za5 N)]⟩
theorem Z0z:Wc Tryz.prog 249:=Wb Tryz.func249 (show Wg Tryz.f249 = true by kernel_rfl)
theorem Z00 (N:Nat):Good Tryz.prog 249 (Znh N):=GF Z0y N Tryz.func249 (Wa (Zdo N) Zdn (Wa (Z4 N) Z3 (Wa (Zbq N) Zbp We))) (by kernel_rfl) (fun d=>by kernel_rfl)
def Zis (N:Nat):Sig:=Sig.of [.v Jab true,.v Ja false,.v Jv true] [.v Jv true] (fun d=>Zeg N d.1 d.2.1 d.2.2.1)
def Zyh:Fn:=⟨Tryz.f221,Wy,Zis,fun N=>[(124,Ze4 N),(249,Znh N)]⟩
theorem Zo1:Wc Tryz.prog 221:=Wb Tryz.func221 (show Wg Tryz.f221 = true by kernel_rfl)
theorem Zo2 (N:Nat):Good Tryz.prog 221 (Zis N):=GF Zyh N Tryz.func221 (Wa (Zho N) Zhn (Wa (Z00 N) Z0z We)) (by kernel_rfl) (fun d=>by kernel_rfl)
def Zgq (N:Nat):Sig:=Sig.of [.box Jaa] [] (fun d=>Zc5 N d.1)
def Zrc:Fn:=⟨Tryz.f264,Wy,Zgq,fun N=>[(198,Zcz N)]⟩
theorem Zms:Wc Tryz.prog 264:=Wb Tryz.func264 (show Wg Tryz.f264 = true by kernel_rfl)
theorem Zmt (N:Nat):Good Tryz.prog 264 (Zgq N):=GF Zrc N Tryz.func264 (Wa (Zgz N) Zgy We) (by kernel_rfl) (fun d=>by kernel_rfl)
def Zkt (N:Nat):Sig:=Sig.of [.boxal Jt 3,.v Jv true] [] (fun d=>Ziy N d.1 d.2.1 d.2.2.1)
def Zwn:Fn:=⟨Tryz.f234,fun | 1000000=>[.unfE 1] | _=>[],Zkt,fun N=>[(172,Zkl N),(220,Zi3 N),(221,Zis N),(264,Zgq N)]⟩
theorem Zwo:Wc Tryz.prog 234:=Wb Tryz.func234 (show Wg Tryz.f234 = true by kernel_rfl)
theorem Zwp (N:Nat):Good Tryz.prog 234 (Zkt N):=GF Zwn N Tryz.func234 (Wa (Zpc N) Zpb (Wa (Zpn N) Zpm (Wa (Zo2 N) Zo1 (Wa (Zmt N) Zms We)))) (by kernel_rfl) (fun d=>by kernel_rfl)
def Zit (N:Nat):Sig:=Sig.of [.box Jaa] [.v (.prod Ja Jae) true] (fun d=>Zhr N d.1)
def Zyi:Fn:=⟨Tryz.f202,Wy,Zit,Wde⟩
theorem Zo3:Wc Tryz.prog 202:=Wb Tryz.func202 (show Wg Tryz.f202 = true by kernel_rfl)
theorem Zo4 (N:Nat):Good Tryz.prog 202 (Zit N):=GF Zyi N Tryz.func202 We (by kernel_rfl) (fun d=>by kernel_rfl)
def Ziu (N:Nat):Sig:=Sig.of [.v (.prod Jj Ja) true] [.v Jq true] (fun d=>Zhs N d.1)
def Zyj:Fn:=⟨Tryz.f268,Wy,Ziu,fun N=>[(72,Z7 N)]⟩
theorem Zo5:Wc Tryz.prog 268:=Wb Tryz.func268 (show Wg Tryz.f268 = true by kernel_rfl)
theorem Zo6 (N:Nat):Good Tryz.prog 268 (Ziu N):=GF Zyj N Tryz.func268 (Wa (Zah N) Zag We) (by kernel_rfl) (fun d=>by kernel_rfl)
def Zj4 (N:Nat):Sig:=Sig.of [.v (.prod Jj Ja) true] [.v Jp false] (fun d=>Zjb N d.1)
def Z01:Fn:=⟨Tryz.f269,Wy,Zj4,fun N=>[(208,Zgk N),(130,Za5 N)]⟩
theorem Zp5:Wc Tryz.prog 269:=Wb Tryz.func269 (show Wg Tryz.f269 = true by kernel_rfl)
theorem Zp6 (N:Nat):Good Tryz.prog 269 (Zj4 N):=GF Z01 N Tryz.func269 (Wa (Zjx N) Zjw (Wa (Zbq N) Zbp We)) (by kernel_rfl) (fun d=>by kernel_rfl)
def Zn6 (N:Nat):Sig:=Sig.of [.v Jk true] [.v Jp false] (fun d=>Zmw N d.1)
def Z2n:Fn:=⟨Tryz.f270,Wy,Zn6,fun N=>[(209,Ze0 N),(130,Za5 N)]⟩
theorem Z2o:Wc Tryz.prog 270:=Wb Tryz.func270 (show Wg Tryz.f270 = true by kernel_rfl)
theorem Z2p (N:Nat):Good Tryz.prog 270 (Zn6 N):=GF Z2n N Tryz.func270 (Wa (Zhm N) Zhl (Wa (Zbq N) Zbp We)) (by kernel_rfl) (fun d=>by kernel_rfl)
def Zi4 (N:Nat):Sig:=Sig.of [.v Jj false,.v Ja false] [.v Jac false,.v Ja false,.v Jp false] (fun d=>Zii N d.1 d.2.1)
def Zzj:Fn:=⟨Tryz.f271,Wy,Zi4,fun N=>[(72,Z7 N),(208,Zgk N),(209,Ze0 N),(210,Zkk N),(211,Zhw N)]⟩
theorem Zpo:Wc Tryz.prog 271:=Wb Tryz.func271 (show Wg Tryz.f271 = true by kernel_rfl)
theorem Zpp (N:Nat):Good Tryz.prog 271 (Zi4 N):=GF Zzj N Tryz.func271 (Wa (Zah N) Zag (Wa (Zjx N) Zjw (Wa (Zhm N) Zhl (Wa (Zpa N) Zo9 (Wa (Znc N) Znb We))))) (by kernel_rfl) (fun d=>by kernel_rfl)
def Zni (N:Nat):Sig:=Sig.of [.v (.prod Jj Ja) true,.v Jk true] [.v Jq true,.v Jp false] (fun d=>Zl1 N d.1 d.2.1)
def Z02:Fn:=⟨Tryz.f237,Wy,Zni,fun N=>[(268,Ziu N),(269,Zj4 N),(270,Zn6 N),(158,Zhx N),(271,Zi4 N)]⟩
theorem Z03:Wc Tryz.prog 237:=Wb Tryz.func237 (show Wg Tryz.f237 = true by kernel_rfl)
theorem Z04 (N:Nat):Good Tryz.prog 237 (Zni N):=GF Z02 N Tryz.func237 (Wa (Zo6 N) Zo5 (Wa (Zp6 N) Zp5 (Wa (Z2p N) Z2o (Wa (Zne N) Znd (Wa (Zpp N) Zpo We))))) (by kernel_rfl) (fun d=>by kernel_rfl)
def Zh7 (N:Nat):Sig:=Sig.of [.boxal Jt 3] [] (fun d=>Zci N d.1 d.2.1)
def Zwq:Fn:=⟨Tryz.f203,fun | 1000000=>[.unfE 1] | _=>[],Zh7,fun N=>[(237,Zni N)]⟩
theorem Zoe:Wc Tryz.prog 203:=Wb Tryz.func203 (show Wg Tryz.f203 = true by kernel_rfl)
theorem Zof (N:Nat):Good Tryz.prog 203 (Zh7 N):=GF Zwq N Tryz.func203 (Wa (Z04 N) Z03 We) (by kernel_rfl) (fun d=>by kernel_rfl)
def Zde (N:Nat):Sig:=Sig.of [.v Jn false] [.v (.own Jw) false] (fun d=>Zbi N d.1)
def Zzk:Fn:=⟨Tryz.f222,Wy,Zde,Wde⟩
theorem Zhd:Wc Tryz.prog 222:=Wb Tryz.func222 (show Wg Tryz.f222 = true by kernel_rfl)
theorem Zhe (N:Nat):Good Tryz.prog 222 (Zde N):=GF Zzk N Tryz.func222 We (by kernel_rfl) (fun d=>by kernel_rfl)
def Zmb (N:Nat):Sig:=Sig.of [.v Jc false,.v Ja false] [.v Ja false] (fun d=>Zfj N d.1 d.2.1)
def Zmc:Fn:=⟨Tryz.f223,fun | 5=>[.canon [0,5,6,25]] | 6=>[.canon [0,5,6]] | 7=>[.canon [0,5,6]] | 8=>[.canon [0,5,6,36]] | 9=>[.canon [4]] | 100005=>[.canon [0,5,6]] | _=>[],Zmb,fun N=>[(55,Zz N),(248,Zjc N)]⟩
def Zyk (code4:List Ka) (n5:Int) (k6:Int):St:=⟨[(0,vV Jc code4),(5,vI n5),(6,vI k6)],[],0⟩
def Zwr (code4:List Ka) (t8:Int):St:=⟨[(4,vI t8)],[],0⟩
def Zws (code4:List Ka) (n9:Int) (k10:Int) (t11:Bool):St:=⟨[(0,vV Jc code4),(5,vI n9),(6,vI k10),(25,vB t11)],[],0⟩
theorem Zyl (N:Nat) {R:Type} (K:Ex → St → Option R) {code4:List Ka} {K0:Int → Option R} {K1:Int → Int → Bool → Option R} (h0:K0 = fun t8=>K .ret (Zwr code4 t8)) (h1:K1 = fun n9 k10 t11=>K (.exit 0) (Zws code4 n9 k10 t11)) (n:Nat) (n5:Int) (k6:Int):Zeh N code4 K0 K1 n n5 k6 = LM Zmc N 0 100005 n (Zyk code4 n5 k6) K:=by
  subst h0 h1
  induction n generalizing n5 k6 with
  | zero=>kernel_rfl
  | succ n ih=>rw [Zeh]; simp (disch:=exact id (by kernel_rfl)) only [ih]; kernel_rfl
theorem Zr8:Wc Tryz.prog 223:=Wb Tryz.func223 (show Wg Tryz.f223 = true by kernel_rfl)
theorem Z3v (N:Nat) (code1:List Ka) (i2:Int):DN Zmc N (code1,i2,()) = Zfj N code1 i2:=by
  have h:Zfj N code1 i2 = Zfj N code1 i2:=rfl
  conv at h=>rhs; rw [Zfj]
  simp (disch:=exact id (by kernel_rfl)) only [Zyl (R:=Unit × Kj) N (CF Zmc N [1,1,1,0,1,0])] at h
  exact Eq.trans (by kernel_rfl) h.symm
theorem Zr9 (N:Nat):Good Tryz.prog 223 (Zmb N):=GF Zmc N Tryz.func223 (Wa (Z4 N) Z3 (Wa (Zop N) Zoo We)) (by kernel_rfl) (fun d=>Z3v N d.1 d.2.1)
def Zj5 (N:Nat):Sig:=Sig.of [.box Jt,.v Ja false,.v Jc false] [] (fun d=>Zij N d.1 d.2.1 d.2.2.1)
def Zt9:Fn:=⟨Tryz.f235,fun | 0=>[.opn 13] | _=>[],Zj5,fun N=>[(233,Zhg N),(202,Zit N),(203,Zh7 N),(72,Z7 N),(222,Zde N),(223,Zmb N)]⟩
theorem Zua:Wc Tryz.prog 235:=Wb Tryz.func235 (show Wg Tryz.f235 = true by kernel_rfl)
theorem Zub (N:Nat):Good Tryz.prog 235 (Zj5 N):=GF Zt9 N Tryz.func235 (Wa (Zn5 N) Zn4 (Wa (Zo4 N) Zo3 (Wa (Zof N) Zoe (Wa (Zah N) Zag (Wa (Zhe N) Zhd (Wa (Zr9 N) Zr8 We)))))) (by kernel_rfl) (fun d=>by kernel_rfl)
def Zml (N:Nat):Sig:=Sig.of [.v Ja false,.v Jj false,.v Jn false,.v Ja false] [.v Jy true] (fun d=>Zdh N d.1 d.2.1 d.2.2.1 d.2.2.2.1)
def Zfz:Fn:=⟨Tryz.f54,fun | 3=>[.canon [1,3,8,9,19,20,21,22]] | 4=>[.canon [1,3,8,9,11,19,20,21]] | 5=>[.canon [1,3,8,9,19,20,21]] | 6=>[.canon [1,3,8,9,19,20,21]] | 8=>[.canon [1,8,9,36,37,38]] | 9=>[.nest 44 Jh,.canon [1,8,9,36,37]] | 10=>[.canon [1,8,9,36,37]] | 100003=>[.adoptC 9 6 Jk,.canon [1,3,8,9,19,20,21]] | 100008=>[.adoptC 9 9 Jh,.canon [1,8,9,36,37]] | _=>[],Zml,fun N=>[(72,Z7 N),(118,Zje N)]⟩
def Zsa (regs7:List Int) (kids8:Int) (t9:Int) (t10:Int) (b15:Int) (l19:List Kc) (l20:List Int) (l21:List Kb):St:=⟨[(1,vV Jj regs7),(3,vI kids8),(8,vP 0 0),(9,vP 1 0),(19,vO 2),(20,vI t9),(21,vI t10)],[(0,.box [.val Ja (0:Int),.val Ja (0:Int),.val Ja (0:Int),.val Jp false,.nils,.nils,.nils,.nils,.nils,.nils]),(1,.box [.val Ja b15,.val Ja (0:Int),.val Ja (0:Int),.val Jp false,.own 3,.own 2,.own 4,.nils,.nils,.nils]),(2,.arr Jw l19),(3,.arr Ja l20),(4,.arr Jk l21)],5⟩
def Zrd (regs7:List Int) (kids8:Int) (t9:Int) (b15:Int) (l19:List Kc) (l20:List Int) (t22:Int) (t23:Bool) (l24:List Kb):St:=⟨[(1,vV Jj regs7),(3,vI kids8),(8,vP 0 0),(9,vP 1 0),(19,vO 2),(20,vI t9),(21,vI t22),(22,vB t23)],[(0,.box [.val Ja (0:Int),.val Ja (0:Int),.val Ja (0:Int),.val Jp false,.nils,.nils,.nils,.nils,.nils,.nils]),(1,.box [.val Ja b15,.val Ja (0:Int),.val Ja (0:Int),.val Jp false,.own 3,.own 2,.own 4,.nils,.nils,.nils]),(2,.arr Jw l19),(3,.arr Ja l20),(4,.arr Jk l24)],5⟩
theorem Zsb (N:Nat) {R:Type} (K:Ex → St → Option R) {regs7:List Int} {kids8:Int} {t9:Int} {b15:Int} {l19:List Kc} {l20:List Int} {K0:Int → Bool → Km → Option R} (h0:K0 = fun t22 t23 l24=>K (.exit 0) (Zrd regs7 kids8 t9 b15 l19 l20 t22 t23 l24)) (n:Nat) (t10:Int) (l21:List Kb):Zcj N regs7 kids8 t9 b15 l19 l20 K0 n t10 l21 = LM Zfz N 0 100003 n (Zsa regs7 kids8 t9 t10 b15 l19 l20 l21) K:=by
  subst h0
  induction n generalizing t10 l21 with
  | zero=>kernel_rfl
  | succ n ih=>rw [Zcj]; simp (disch:=exact id (by kernel_rfl)) only [ih]; kernel_rfl
def Zsc (regs28:List Int) (t29:Int) (t30:Int) (b35:Int) (l39:List Int) (l40:List Kc) (l41:List Kb) (l42:List Y_KidRun):St:=⟨[(1,vV Jj regs28),(8,vP 0 0),(9,vP 1 0),(36,vI t29),(37,vI t30)],[(0,.box [.val Ja (0:Int),.val Ja (0:Int),.val Ja (0:Int),.val Jp false,.nils,.nils,.nils,.nils,.nils,.nils]),(1,.box [.val Ja b35,.val Ja (0:Int),.val Ja (0:Int),.val Jp false,.own 2,.own 3,.own 4,.nils,.nils,.own 5]),(2,.arr Ja l39),(3,.arr Jw l40),(4,.arr Jk l41),(5,.arr Jh l42)],6⟩
def Zre (regs28:List Int) (t29:Int) (b35:Int) (l39:List Int) (l40:List Kc) (l41:List Kb) (t45:Int) (t46:Bool) (l47:List Y_KidRun):St:=⟨[(1,vV Jj regs28),(8,vP 0 0),(9,vP 1 0),(36,vI t29),(37,vI t45),(38,vB t46)],[(0,.box [.val Ja (0:Int),.val Ja (0:Int),.val Ja (0:Int),.val Jp false,.nils,.nils,.nils,.nils,.nils,.nils]),(1,.box [.val Ja b35,.val Ja (0:Int),.val Ja (0:Int),.val Jp false,.own 2,.own 3,.own 4,.nils,.nils,.own 5]),(2,.arr Ja l39),(3,.arr Jw l40),(4,.arr Jk l41),(5,.arr Jh l47)],6⟩
theorem Zsd (N:Nat) {R:Type} (K:Ex → St → Option R) {regs28:List Int} {t29:Int} {b35:Int} {l39:List Int} {l40:List Kc} {l41:List Kb} {K0:Int → Bool → (List Y_KidRun) → Option R} (h0:K0 = fun t45 t46 l47=>K (.exit 2) (Zre regs28 t29 b35 l39 l40 l41 t45 t46 l47)) (n:Nat) (t30:Int) (l42:List Y_KidRun):Zbe N regs28 t29 b35 l39 l40 l41 K0 n t30 l42 = LM Zfz N 1 100008 n (Zsc regs28 t29 t30 b35 l39 l40 l41 l42) K:=by
  subst h0
  induction n generalizing t30 l42 with
  | zero=>kernel_rfl
  | succ n ih=>rw [Zbe]; simp (disch:=exact id (by kernel_rfl)) only [ih]; kernel_rfl
theorem Zzl:Wc Tryz.prog 54:=Wb Tryz.func54 (show Wg Tryz.f54 = true by kernel_rfl)
theorem Zzm (N:Nat) (rv1:Int) (regs2:List Int) (writes3:List Kc) (kids4:Int):DN Zfz N (rv1,regs2,writes3,kids4,()) = Zdh N rv1 regs2 writes3 kids4:=by
  have h:Zdh N rv1 regs2 writes3 kids4 = Zdh N rv1 regs2 writes3 kids4:=rfl
  conv at h=>rhs; rw [Zdh]
  simp (disch:=exact id (by kernel_rfl)) only [Zsb (R:=Unit × (Y_Family × Unit)) N (CF Zfz N [1,1,0,1,0]),Zsd (R:=Unit × (Y_Family × Unit)) N (CF Zfz N [1,1,1,0,1,0])] at h
  exact Eq.trans (by kernel_rfl) h.symm
theorem Zzn (N:Nat):Good Tryz.prog 54 (Zml N):=GF Zfz N Tryz.func54 (Wa (Zah N) Zag (Wa (Zn3 N) Zn2 We)) (by kernel_rfl) (fun d=>Zzm N d.1 d.2.1 d.2.2.1 d.2.2.2.1)
def Zlr (N:Nat):Sig:=Sig.of [.v Jv true] [.v Ja false,.v Ja false] (fun d=>Zjo N d.1)
def Zym:Fn:=⟨Tryz.f265,Wy,Zlr,fun N=>[(217,Zid N)]⟩
theorem Zyn:Wc Tryz.prog 265:=Wb Tryz.func265 (show Wg Tryz.f265 = true by kernel_rfl)
theorem Zyo (N:Nat):Good Tryz.prog 265 (Zlr N):=GF Zym N Tryz.func265 (Wa (Zmy N) Zmx We) (by kernel_rfl) (fun d=>by kernel_rfl)
def Ziv (N:Nat):Sig:=Sig.of [.v Je false] [.v (.own Jk) false] (fun d=>Zek N d.1)
def Zyp:Fn:=⟨Tryz.f240,Wy,Ziv,Wde⟩
theorem Zo7:Wc Tryz.prog 240:=Wb Tryz.func240 (show Wg Tryz.f240 = true by kernel_rfl)
theorem Zo8 (N:Nat):Good Tryz.prog 240 (Ziv N):=GF Zyp N Tryz.func240 We (by kernel_rfl) (fun d=>by kernel_rfl)
def Zn7 (N:Nat):Sig:=Sig.of [.v Je false,.v Ja false,.v Ja false,.v Ja false] [.v Jac false] (fun d=>Zf8 N d.1 d.2.1 d.2.2.1 d.2.2.2.1)
def Zld:Fn:=⟨Tryz.f290,fun | 5=>[.canon [1,2,3,9,21,22,23,24]] | 6=>[.canon [1,2,3,9,11,21,22,23]] | 7=>[.canon [1,2,3,9,11,21,22,23,45]] | 8=>[.canon [1,2,3,9,21,22,23]] | 9=>[.canon [1,2,3,9,21,22,23]] | 100005=>[.canon [1,2,3,9,21,22,23]] | _=>[],Zn7,fun N=>[(241,Zgl N),(55,Zz N)]⟩
def Zwt (who7:Int) (what8:Int) (mode9:Int) (t10:List Kb) (t12:Int) (l13:List Int):St:=⟨[(1,vI who7),(2,vI what8),(3,vI mode9),(9,vO 0),(21,vV Je t10),(22,vI (ilen t10)),(23,vI t12)],[(0,.arr Ja l13)],1⟩
def Zuc (who7:Int) (what8:Int) (mode9:Int) (t10:List Kb) (t14:Int) (t15:Bool) (l16:List Int):St:=⟨[(1,vI who7),(2,vI what8),(3,vI mode9),(9,vO 0),(21,vV Je t10),(22,vI (ilen t10)),(23,vI t14),(24,vB t15)],[(0,.arr Ja l16)],1⟩
theorem Zwu (N:Nat) {R:Type} (K:Ex → St → Option R) {who7:Int} {what8:Int} {mode9:Int} {t10:List Kb} {K0:Int → Bool → Kh → Option R} (h0:K0 = fun t14 t15 l16=>K (.exit 0) (Zuc who7 what8 mode9 t10 t14 t15 l16)) (n:Nat) (t12:Int) (l13:List Int):Za9 N who7 what8 mode9 t10 K0 n t12 l13 = LM Zld N 0 100005 n (Zwt who7 what8 mode9 t10 t12 l13) K:=by
  subst h0
  induction n generalizing t12 l13 with
  | zero=>kernel_rfl
  | succ n ih=>rw [Za9]; simp (disch:=exact id (by kernel_rfl)) only [ih]; kernel_rfl
theorem Z2q:Wc Tryz.prog 290:=Wb Tryz.func290 (show Wg Tryz.f290 = true by kernel_rfl)
theorem Z2r (N:Nat) (l1:List Kb) (who2:Int) (what3:Int) (mode4:Int):DN Zld N (l1,who2,what3,mode4,()) = Zf8 N l1 who2 what3 mode4:=by
  have h:Zf8 N l1 who2 what3 mode4 = Zf8 N l1 who2 what3 mode4:=rfl
  conv at h=>rhs; rw [Zf8]
  simp (disch:=exact id (by kernel_rfl)) only [Zwu (R:=Unit × (Kh × Unit)) N (CF Zld N [1,1,1,0,1,0])] at h
  exact Eq.trans (by kernel_rfl) h.symm
theorem Z2s (N:Nat):Good Tryz.prog 290 (Zn7 N):=GF Zld N Tryz.func290 (Wa (Zj1 N) Zj0 (Wa (Z4 N) Z3 We)) (by kernel_rfl) (fun d=>Z2r N d.1 d.2.1 d.2.2.1 d.2.2.2.1)
def Zbh (N:Nat):Sig:=Sig.of [.mut Jk,.clos 281 0] [] (fun d=>Zy N d.1)
theorem Ze9:Wc Tryz.prog 291:=Wb Tryz.func291 (show Wg Tryz.f291 = true by kernel_rfl)
theorem Zfa:CmpOk Tryz.prog 281 Jk rngH cfH:=by
  intro G x y us vs w hx hy h1 h2
  obtain ⟨_,_,rfl,a1,_,_,rfl,a2,a3⟩:=h1
  obtain ⟨_,_,rfl,b1,_,_,rfl,b2,b3⟩:=h2
  simp only [Enc] at a1 a2 a3 b1 b2 b3
  subst a1 a2 a3 b1 b2 b3
  simp only [List.cons_append,List.nil_append]
  unfold rngH at hx hy
  simp only [Bool.and_eq_true] at hx hy
  go_enter Tryz.func281,Tryz.ntmps281
  go_wp2
  rw [guard_run (a:=x.2.1) (b:=y.2.1),Result.andThen_ok]
  rw [neq_run (a:=x.2.1) (b:=y.2.1),Result.andThen_ok]
  rcases hb:(bne (α:=Int) x.2.1 y.2.1) with _ | _
  · go_wp2
    rw [sub_run (Wnn hx.1) (Wnn hy.1) (cfH_eq hb)]
    go_wp2
    go_ret
    exact ⟨rfl,two_grow _ _ _⟩
  · go_wp2
    rw [sub_run (Wnn hx.2) (Wnn hy.2) (cfH_ne hb)]
    go_wp2
    go_ret
    exact ⟨rfl,two_grow _ _ _⟩
theorem Zfb (N:Nat):Good Tryz.prog 291 (Zbh N):=good_sortF sortFH (e:=.prod Ja Jw) rfl (by decide) Tryz.isAgg106 Tryz.sizeOf106 (enters_of Tryz.func281 (by kernel_rfl) rfl) swoH Zfa N
def Znj (N:Nat):Sig:=Sig.of [.v Je false,.v Ja false,.v Ja false,.v Ja false] [.v (.own Jk) false,.v Jp false] (fun d=>Zeu N d.1 d.2.1 d.2.2.1 d.2.2.2.1)
def Zj6:Fn:=⟨Tryz.f266,fun | 5=>[.canon [1,2,3,10,35,36,37,38]] | 6=>[.canon [1,2,3,10,11,12,35,36,37]] | 7=>[.canon [1,2,3,10,11,12,35,36,37,51]] | 8=>[.canon [10]] | 9=>[.canon [8,9]] | 10=>[.canon [1,2,3,10,35,36,37]] | 100005=>[.canon [1,2,3,10,35,36,37]] | _=>[],Znj,fun N=>[(240,Ziv N),(241,Zgl N),(280,Zk9 N),(290,Zn7 N),(291,Zbh N)]⟩
def Zud (who9:Int) (what10:Int) (mode11:Int) (t12:Int) (t13:Int) (l14:List Kb):St:=⟨[(1,vI who9),(2,vI what10),(3,vI mode11),(10,vO 0),(35,vO 0),(36,vI t12),(37,vI t13)],[(0,.arr Jk l14)],1⟩
def Zse (who9:Int) (what10:Int) (mode11:Int) (t12:Int) (l14:List Kb) (l15:List Kb):St:=⟨[(8,vO 0),(9,vB true)],[(0,.arr Jk l15)],1⟩
def Zsf (who9:Int) (what10:Int) (mode11:Int) (t12:Int) (l14:List Kb) (t16:Int) (t17:Bool):St:=⟨[(1,vI who9),(2,vI what10),(3,vI mode11),(10,vO 0),(35,vO 0),(36,vI t12),(37,vI t16),(38,vB t17)],[(0,.arr Jk l14)],1⟩
theorem Zue (N:Nat) {R:Type} (K:Ex → St → Option R) {who9:Int} {what10:Int} {mode11:Int} {t12:Int} {l14:List Kb} {K0:Km → Option R} {K1:Int → Bool → Option R} (h0:K0 = fun l15=>K .ret (Zse who9 what10 mode11 t12 l14 l15)) (h1:K1 = fun t16 t17=>K (.exit 0) (Zsf who9 what10 mode11 t12 l14 t16 t17)) (n:Nat) (t13:Int):Zb8 N who9 what10 mode11 t12 l14 K0 K1 n t13 = LM Zj6 N 0 100005 n (Zud who9 what10 mode11 t12 t13 l14) K:=by
  subst h0 h1
  induction n generalizing t13 with
  | zero=>kernel_rfl
  | succ n ih=>rw [Zb8]; simp (disch:=exact id (by kernel_rfl)) only [ih]; kernel_rfl
theorem Z05:Wc Tryz.prog 266:=Wb Tryz.func266 (show Wg Tryz.f266 = true by kernel_rfl)
theorem Z06 (N:Nat) (l1:List Kb) (who2:Int) (what3:Int) (mode4:Int):DN Zj6 N (l1,who2,what3,mode4,()) = Zeu N l1 who2 what3 mode4:=by
  have h:Zeu N l1 who2 what3 mode4 = Zeu N l1 who2 what3 mode4:=rfl
  conv at h=>rhs; rw [Zeu]
  simp (disch:=exact id (by kernel_rfl)) only [Zue (R:=Unit × (Km × Kg)) N (CF Zj6 N [1,1,1,0,1,0])] at h
  exact Eq.trans (by kernel_rfl) h.symm
theorem Z07 (N:Nat):Good Tryz.prog 266 (Znj N):=GF Zj6 N Tryz.func266 (Wa (Zo8 N) Zo7 (Wa (Zj1 N) Zj0 (Wa (Zq2 N) Zq1 (Wa (Z2s N) Z2q (Wa (Zfb N) Ze9 We))))) (by kernel_rfl) (fun d=>Z06 N d.1 d.2.1 d.2.2.1 d.2.2.2.1)
def Zn8 (N:Nat):Sig:=Sig.of [.v Ja false,.v Ja false] [.v Jk true] (fun d=>Zki N d.1 d.2.1)
def Z2t:Fn:=⟨Tryz.f292,Wy,Zn8,Wde⟩
theorem Z2u:Wc Tryz.prog 292:=Wb Tryz.func292 (show Wg Tryz.f292 = true by kernel_rfl)
theorem Z2v (N:Nat):Good Tryz.prog 292 (Zn8 N):=GF Z2t N Tryz.func292 We (by kernel_rfl) (fun d=>by kernel_rfl)
def Znk (N:Nat):Sig:=Sig.of [.v (.prod Jj Ja) true,.v Jv true,.v Jj false] [.v Jq true,.v Jac false,.v Jk true,.v Jp false] (fun d=>Zl2 N d.1 d.2.1 d.2.2.1)
def Z08:Fn:=⟨Tryz.f267,Wy,Znk,fun N=>[(268,Ziu N),(72,Z7 N),(269,Zj4 N),(71,Zcy N),(170,Zjt N),(158,Zhx N),(292,Zn8 N),(211,Zhw N),(271,Zi4 N)]⟩
theorem Z09:Wc Tryz.prog 267:=Wb Tryz.func267 (show Wg Tryz.f267 = true by kernel_rfl)
theorem Z1a (N:Nat):Good Tryz.prog 267 (Znk N):=GF Z08 N Tryz.func267 (Wa (Zo6 N) Zo5 (Wa (Zah N) Zag (Wa (Zp6 N) Zp5 (Wa (Zgx N) Zgw (Wa (Zp1 N) Zp0 (Wa (Zne N) Znd (Wa (Z2v N) Z2u (Wa (Znc N) Znb (Wa (Zpp N) Zpo We))))))))) (by kernel_rfl) (fun d=>by kernel_rfl)
def Zj7 (N:Nat):Sig:=Sig.of [.box Jt,.v Ja false,.v Jv true] [] (fun d=>Zgu N d.1 d.2.1 d.2.2.1)
def Zuf:Fn:=⟨Tryz.f236,fun | 1=>[.opn 20] | _=>[],Zj7,fun N=>[(265,Zlr N),(266,Znj N),(264,Zgq N),(267,Znk N)]⟩
theorem Zug:Wc Tryz.prog 236:=Wb Tryz.func236 (show Wg Tryz.f236 = true by kernel_rfl)
theorem Zuh (N:Nat):Good Tryz.prog 236 (Zj7 N):=GF Zuf N Tryz.func236 (Wa (Zyo N) Zyn (Wa (Z07 N) Z05 (Wa (Zmt N) Zms (Wa (Z1a N) Z09 We)))) (by kernel_rfl) (fun d=>by kernel_rfl)
def Zg6 (N:Nat):Sig:=Sig.of [.rp (TY_Root)] [.vj Jv] (fun d=>Zdr N d.1)
def Zsg:Fn:=⟨Tryz.f202,Wy,Zg6,Wde⟩
theorem Znr:Wc Tryz.prog 202:=Wb Tryz.func202 (show Wg Tryz.f202 = true by kernel_rfl)
theorem Zns (N:Nat):Good Tryz.prog 202 (Zg6 N):=GF Zsg N Tryz.func202 We (by kernel_rfl) (fun d=>by kernel_rfl)
def Zm1 (N:Nat):Sig:=Sig.of [.v Jv true,.v Jj false] [.v Jac false,.v Jp false] (fun d=>Zmq N d.1 d.2.1)
def Z39:Fn:=⟨Tryz.f175,Wy,Zm1,fun N=>[(72,Z7 N),(217,Zid N),(71,Zcy N)]⟩
theorem Zvg:Wc Tryz.prog 175:=Wb Tryz.func175 (show Wg Tryz.f175 = true by kernel_rfl)
theorem Zvh (N:Nat):Good Tryz.prog 175 (Zm1 N):=GF Z39 N Tryz.func175 (Wa (Zah N) Zag (Wa (Zmy N) Zmx (Wa (Zgx N) Zgw We))) (by kernel_rfl) (fun d=>by kernel_rfl)
def Zls (N:Nat):Sig:=Sig.of [.box Jt,.v Ja false,.v Jm true] [] (fun d=>Zht N d.1 d.2.1 d.2.2.1)
def Zyq:Fn:=⟨Tryz.f200,fun | 1=>[.opn 14] | _=>[],Zls,fun N=>[(233,Zhg N),(234,Zkt N),(235,Zj5 N),(54,Zml N),(236,Zj7 N),(72,Z7 N),(202,Zg6 N),(175,Zm1 N)]⟩
theorem Zyr:Wc Tryz.prog 200:=Wb Tryz.func200 (show Wg Tryz.f200 = true by kernel_rfl)
theorem Zys (N:Nat):Good Tryz.prog 200 (Zls N):=GF Zyq N Tryz.func200 (Wa (Zn5 N) Zn4 (Wa (Zwp N) Zwo (Wa (Zub N) Zua (Wa (Zzn N) Zzl (Wa (Zuh N) Zug (Wa (Zah N) Zag (Wa (Zns N) Znr (Wa (Zvh N) Zvg We)))))))) (by kernel_rfl) (fun d=>by kernel_rfl)
def Zlt (N:Nat):Sig:=Sig.of [.v (TY_KidRun) true] [.v Jp false] (fun d=>Zm6 N d.1)
def Zyt:Fn:=⟨Tryz.f67,Wy,Zlt,Wde⟩
theorem Zyu:Wc Tryz.prog 67:=Wb Tryz.func67 (show Wg Tryz.f67 = true by kernel_rfl)
theorem Zyv (N:Nat):Good Tryz.prog 67 (Zlt N):=GF Zyt N Tryz.func67 We (by kernel_rfl) (fun d=>by kernel_rfl)
def Zap (N:Nat):Sig:=Sig.of [.v Jad false,.clos 67 0] [.v Ja false] (fun d=>Zn N d.1)
def Z5:Fn:=⟨Tryz.f128,fun | 2=>[.canon [0,1,7,8,9]] | 3=>[.canon [0,1,5,7,8]] | 4=>[.canon [0,1,5,7,8,16]] | 5=>[.canon [1,4]] | 6=>[.canon [0,1,7,8]] | 100002=>[.canon [0,1,7,8]] | _=>[],Zap,fun N=>[(67,Zlt N)]⟩
def Zdp (s2:List Y_KidRun) (t4:Int):St:=⟨[(0,vV Jad s2),(1,.s (.one (.clos 67 []))),(7,vI (ilen s2)),(8,vI t4)],[],0⟩
def Zdf (s2:List Y_KidRun) (t7:Int):St:=⟨[(1,.s (.one (.clos 67 []))),(4,vI t7)],[],0⟩
def Zdg (s2:List Y_KidRun) (t8:Int) (t9:Bool):St:=⟨[(0,vV Jad s2),(1,.s (.one (.clos 67 []))),(7,vI (ilen s2)),(8,vI t8),(9,vB t9)],[],0⟩
theorem Zdq (N:Nat) {R:Type} (K:Ex → St → Option R) {s2:List Y_KidRun} {K0:Int → Option R} {K1:Int → Bool → Option R} (h0:K0 = fun t7=>K .ret (Zdf s2 t7)) (h1:K1 = fun t8 t9=>K (.exit 0) (Zdg s2 t8 t9)) (n:Nat) (t4:Int):Zi N s2 K0 K1 n t4 = LM Z5 N 0 100002 n (Zdp s2 t4) K:=by
  subst h0 h1
  induction n generalizing t4 with
  | zero=>kernel_rfl
  | succ n ih=>rw [Zi]; simp (disch:=exact id (by kernel_rfl)) only [ih]; kernel_rfl
theorem Ze5:Wc Tryz.prog 128:=Wb Tryz.func128 (show Wg Tryz.f128 = true by kernel_rfl)
theorem Ze6 (N:Nat) (s1:List Y_KidRun):DN Z5 N (s1,()) = Zn N s1:=by
  have h:Zn N s1 = Zn N s1:=rfl
  conv at h=>rhs; rw [Zn]
  simp (disch:=exact id (by kernel_rfl)) only [Zdq (R:=Unit × Kj) N (CF Z5 N [1,0,1,0])] at h
  exact Eq.trans (by kernel_rfl) h.symm
theorem Ze7 (N:Nat):Good Tryz.prog 128 (Zap N):=GF Z5 N Tryz.func128 (Wa (Zyv N) Zyu We) (by kernel_rfl) (fun d=>Ze6 N d.1)
def Zai (N:Nat):Sig:=Sig.of [.v Jad false,.clos 67 0] [.v Jp false] (fun d=>Zal N d.1)
def Zdt:Fn:=⟨Tryz.f66,Wy,Zai,fun N=>[(128,Zap N)]⟩
theorem Zdu:Wc Tryz.prog 66:=Wb Tryz.func66 (show Wg Tryz.f66 = true by kernel_rfl)
theorem Zdv (N:Nat):Good Tryz.prog 66 (Zai N):=GF Zdt N Tryz.func66 (Wa (Ze7 N) Ze5 We) (by kernel_rfl) (fun d=>by kernel_rfl)
def Znl (N:Nat):Sig:=Sig.of [.v (TY_Family) true] [.v Jp false] (fun d=>Zl3 N d.1)
def Z1b:Fn:=⟨Tryz.f15,Wy,Znl,fun N=>[(66,Zai N)]⟩
theorem Z1c:Wc Tryz.prog 15:=Wb Tryz.func15 (show Wg Tryz.f15 = true by kernel_rfl)
theorem Z1d (N:Nat):Good Tryz.prog 15 (Znl N):=GF Z1b N Tryz.func15 (Wa (Zdv N) Zdu We) (by kernel_rfl) (fun d=>by kernel_rfl)
def Znm (N:Nat):Sig:=Sig.of [.v (TY_Family) true] [.v Jac false] (fun d=>Zev N d.1)
def Zj8:Fn:=⟨Tryz.f18,fun | 5=>[.canon [3,20,21,22,23]] | 6=>[.canon [3,4,5,20,21,22]] | 7=>[.canon [3,4,5,20,21,22]] | 8=>[.canon [3,4,5,20,21,22,37]] | 9=>[.canon [3,20,21,22]] | 10=>[.canon [3,20,21,22]] | 100005=>[.canon [3,20,21,22]] | _=>[],Znm,fun N=>[(71,Zcy N),(72,Z7 N)]⟩
def Zui (t4:List Y_KidRun) (t5:Int) (t6:Int) (l7:List Int):St:=⟨[(3,vO 0),(20,vV Jad t4),(21,vI t5),(22,vI t6)],[(0,.arr Ja l7)],1⟩
def Zsh (t4:List Y_KidRun) (t5:Int) (t10:Int) (t11:Bool) (l12:List Int):St:=⟨[(3,vO 0),(20,vV Jad t4),(21,vI t5),(22,vI t10),(23,vB t11)],[(0,.arr Ja l12)],1⟩
theorem Zuj (N:Nat) {R:Type} (K:Ex → St → Option R) {t4:List Y_KidRun} {t5:Int} {K0:Int → Bool → Kh → Option R} (h0:K0 = fun t10 t11 l12=>K (.exit 0) (Zsh t4 t5 t10 t11 l12)) (n:Nat) (t6:Int) (l7:List Int):Zbl N t4 t5 K0 n t6 l7 = LM Zj8 N 0 100005 n (Zui t4 t5 t6 l7) K:=by
  subst h0
  induction n generalizing t6 l7 with
  | zero=>kernel_rfl
  | succ n ih=>rw [Zbl]; simp (disch:=exact id (by kernel_rfl)) only [ih]; kernel_rfl
theorem Z1e:Wc Tryz.prog 18:=Wb Tryz.func18 (show Wg Tryz.f18 = true by kernel_rfl)
theorem Z1f (N:Nat) (f1:Y_Family):DN Zj8 N (f1,()) = Zev N f1:=by
  have h:Zev N f1 = Zev N f1:=rfl
  conv at h=>rhs; rw [Zev]
  simp (disch:=exact id (by kernel_rfl)) only [Zuj (R:=Unit × (Kh × Unit)) N (CF Zj8 N [1,1,1,0,1,0])] at h
  exact Eq.trans (by kernel_rfl) h.symm
theorem Z1g (N:Nat):Good Tryz.prog 18 (Znm N):=GF Zj8 N Tryz.func18 (Wa (Zgx N) Zgw (Wa (Zah N) Zag We)) (by kernel_rfl) (fun d=>Z1f N d.1)
def Znn (N:Nat):Sig:=Sig.of [.v (TY_Family) true] [.v (.own Jw) false] (fun d=>Zew N d.1)
def Zj9:Fn:=⟨Tryz.f20,fun | 3=>[.canon [3,8,9,10,11]] | 4=>[.canon [3,5,8,9,10]] | 5=>[.canon [3,8,9,10]] | 6=>[.canon [3,8,9,10]] | 100003=>[.canon [3,8,9,10]] | _=>[],Znn,Wde⟩
def Zuk (t2:List Kb) (t3:Int) (t4:Int) (l5:List Kc):St:=⟨[(3,vO 0),(8,vV Je t2),(9,vI t3),(10,vI t4)],[(0,.arr Jw l5)],1⟩
def Zsi (t2:List Kb) (t3:Int) (t6:Int) (t7:Bool) (l8:List Kc):St:=⟨[(3,vO 0),(8,vV Je t2),(9,vI t3),(10,vI t6),(11,vB t7)],[(0,.arr Jw l8)],1⟩
theorem Zul (N:Nat) {R:Type} (K:Ex → St → Option R) {t2:List Kb} {t3:Int} {K0:Int → Bool → (List Kc) → Option R} (h0:K0 = fun t6 t7 l8=>K (.exit 0) (Zsi t2 t3 t6 t7 l8)) (n:Nat) (t4:Int) (l5:List Kc):Zcv N t2 t3 K0 n t4 l5 = LM Zj9 N 0 100003 n (Zuk t2 t3 t4 l5) K:=by
  subst h0
  induction n generalizing t4 l5 with
  | zero=>kernel_rfl
  | succ n ih=>rw [Zcv]; simp (disch:=exact id (by kernel_rfl)) only [ih]; kernel_rfl
theorem Z1h:Wc Tryz.prog 20:=Wb Tryz.func20 (show Wg Tryz.f20 = true by kernel_rfl)
theorem Z1i (N:Nat) (f1:Y_Family):DN Zj9 N (f1,()) = Zew N f1:=by
  have h:Zew N f1 = Zew N f1:=rfl
  conv at h=>rhs; rw [Zew]
  simp (disch:=exact id (by kernel_rfl)) only [Zul (R:=Unit × ((List Kc) × Unit)) N (CF Zj9 N [1,1,0,1,0])] at h
  exact Eq.trans (by kernel_rfl) h.symm
theorem Z1j (N:Nat):Good Tryz.prog 20 (Znn N):=GF Zj9 N Tryz.func20 We (by kernel_rfl) (fun d=>Z1i N d.1)
def Zlu (N:Nat):Sig:=Sig.of [.box Jaa] [] (fun d=>Zhu N d.1)
def Zyw:Fn:=⟨Tryz.f201,Wy,Zlu,fun N=>[(198,Zcz N),(15,Znl N),(18,Znm N),(20,Znn N),(72,Z7 N)]⟩
theorem Zyx:Wc Tryz.prog 201:=Wb Tryz.func201 (show Wg Tryz.f201 = true by kernel_rfl)
theorem Zyy (N:Nat):Good Tryz.prog 201 (Zlu N):=GF Zyw N Tryz.func201 (Wa (Zgz N) Zgy (Wa (Z1d N) Z1c (Wa (Z1g N) Z1e (Wa (Z1j N) Z1h (Wa (Zah N) Zag We))))) (by kernel_rfl) (fun d=>by kernel_rfl)
def Zjf (N:Nat):Sig:=Sig.of [.boxal Jt 3] [] (fun d=>Zge N d.1 d.2.1)
def Zsj:Fn:=⟨Tryz.f204,fun | 1000000=>[.unfE 1] | _=>[],Zjf,fun N=>[(202,Zit N),(198,Zcz N),(222,Zde N),(72,Z7 N)]⟩
theorem Zsk:Wc Tryz.prog 204:=Wb Tryz.func204 (show Wg Tryz.f204 = true by kernel_rfl)
theorem Zsl (N:Nat):Good Tryz.prog 204 (Zjf N):=GF Zsj N Tryz.func204 (Wa (Zo4 N) Zo3 (Wa (Zgz N) Zgy (Wa (Zhe N) Zhd (Wa (Zah N) Zag We)))) (by kernel_rfl) (fun d=>by kernel_rfl)
def Zh8 (N:Nat):Sig:=Sig.of [.v (.prod Ja Jx) true] [.v Jd true] (fun d=>Zha N d.1)
def Zwv:Fn:=⟨Tryz.f272,Wy,Zh8,fun N=>[(222,Zde N),(72,Z7 N)]⟩
theorem Zog:Wc Tryz.prog 272:=Wb Tryz.func272 (show Wg Tryz.f272 = true by kernel_rfl)
theorem Zoh (N:Nat):Good Tryz.prog 272 (Zh8 N):=GF Zwv N Tryz.func272 (Wa (Zhe N) Zhd (Wa (Zah N) Zag We)) (by kernel_rfl) (fun d=>by kernel_rfl)
def Zgr (N:Nat):Sig:=Sig.of [.v (.prod Ja Jx) true] [.v Ja false] (fun d=>Zc6 N d.1)
def Zrf:Fn:=⟨Tryz.f293,Wy,Zgr,Wde⟩
theorem Zmu:Wc Tryz.prog 293:=Wb Tryz.func293 (show Wg Tryz.f293 = true by kernel_rfl)
theorem Zmv (N:Nat):Good Tryz.prog 293 (Zgr N):=GF Zrf N Tryz.func293 We (by kernel_rfl) (fun d=>by kernel_rfl)
def Zi5 (N:Nat):Sig:=Sig.of [.v (.prod Ja Jx) true] [.v Jp false] (fun d=>Zcn N d.1)
def Zf0:Fn:=⟨Tryz.f273,fun | 4=>[.canon [1,3,38]] | 5=>[.canon [1,3]] | 6=>[.canon [1,3,54]] | 7=>[.canon [2]] | 9=>[.canon [1,56,57,58,59]] | 10=>[.canon [1,4,5,56,57,58]] | 11=>[.canon [1,56,57,58,79]] | 12=>[.canon [2]] | 13=>[.canon [1,56,57,58]] | 100004=>[.canon [1,3]] | 100009=>[.canon [1,56,57,58]] | _=>[],Zi5,fun N=>[(288,Zen N),(55,Zz N),(73,Zg5 N),(65,Zb4 N),(293,Zgr N)]⟩
def Zsm (i7:Int) (b8:Int × Int × Int × Int × Int × List Kc × List Int):St:=⟨[(1,vP 0 0),(3,vI i7)],[(0,.box [.val Ja b8.1,.val Ja b8.2.1,.val Ja b8.2.2.1,.val Ja b8.2.2.2.1,.val Ja b8.2.2.2.2.1,.val Jn b8.2.2.2.2.2.1,.val Jj b8.2.2.2.2.2.2])],1⟩
def Zrg (b8:Int × Int × Int × Int × Int × List Kc × List Int):St:=⟨[(2,vB false)],[],0⟩
def Zrh (b8:Int × Int × Int × Int × Int × List Kc × List Int) (i9:Int) (t10:Bool):St:=⟨[(1,vP 0 0),(3,vI i9),(38,vB t10)],[(0,.box [.val Ja b8.1,.val Ja b8.2.1,.val Ja b8.2.2.1,.val Ja b8.2.2.2.1,.val Ja b8.2.2.2.2.1,.val Jn b8.2.2.2.2.2.1,.val Jj b8.2.2.2.2.2.2])],1⟩
theorem Zsn (N:Nat) {R:Type} (K:Ex → St → Option R) {b8:Int × Int × Int × Int × Int × List Kc × List Int} {K0:Option R} {K1:Int → Bool → Option R} (h0:K0 = K .ret (Zrg b8)) (h1:K1 = fun i9 t10=>K (.exit 0) (Zrh b8 i9 t10)) (n:Nat) (i7:Int):Zbu N b8 K0 K1 n i7 = LM Zf0 N 0 100004 n (Zsm i7 b8) K:=by
  subst h0 h1
  induction n generalizing i7 with
  | zero=>kernel_rfl
  | succ n ih=>rw [Zbu]; simp (disch:=exact id (by kernel_rfl)) only [ih]; kernel_rfl
def Zso (t13:List Int) (t15:Int) (b16:Int × Int × Int × Int × Int × List Kc × List Int):St:=⟨[(1,vP 0 0),(56,vV Jj t13),(57,vI (ilen b16.2.2.2.2.2.2)),(58,vI t15)],[(0,.box [.val Ja b16.1,.val Ja b16.2.1,.val Ja b16.2.2.1,.val Ja b16.2.2.2.1,.val Ja b16.2.2.2.2.1,.val Jn b16.2.2.2.2.2.1,.val Jj b16.2.2.2.2.2.2])],1⟩
def Zri (t13:List Int) (b16:Int × Int × Int × Int × Int × List Kc × List Int):St:=⟨[(2,vB false)],[],0⟩
def Zrj (t13:List Int) (b16:Int × Int × Int × Int × Int × List Kc × List Int) (t19:Int) (t20:Bool):St:=⟨[(1,vP 0 0),(56,vV Jj t13),(57,vI (ilen b16.2.2.2.2.2.2)),(58,vI t19),(59,vB t20)],[(0,.box [.val Ja b16.1,.val Ja b16.2.1,.val Ja b16.2.2.1,.val Ja b16.2.2.2.1,.val Ja b16.2.2.2.2.1,.val Jn b16.2.2.2.2.2.1,.val Jj b16.2.2.2.2.2.2])],1⟩
theorem Zsp (N:Nat) {R:Type} (K:Ex → St → Option R) {t13:List Int} {b16:Int × Int × Int × Int × Int × List Kc × List Int} {K0:Option R} {K1:Int → Bool → Option R} (h0:K0 = K .ret (Zri t13 b16)) (h1:K1 = fun t19 t20=>K (.exit 2) (Zrj t13 b16 t19 t20)) (n:Nat) (t15:Int):Zbf N t13 b16 K0 K1 n t15 = LM Zf0 N 1 100009 n (Zso t13 t15 b16) K:=by
  subst h0 h1
  induction n generalizing t15 with
  | zero=>kernel_rfl
  | succ n ih=>rw [Zbf]; simp (disch:=exact id (by kernel_rfl)) only [ih]; kernel_rfl
theorem Zpq:Wc Tryz.prog 273:=Wb Tryz.func273 (show Wg Tryz.f273 = true by kernel_rfl)
theorem Zzo (N:Nat) (c1:Int × Int × Int × Int × Int × List Kc × List Int):DN Zf0 N (c1,()) = Zcn N c1:=by
  have h:Zcn N c1 = Zcn N c1:=rfl
  conv at h=>rhs; rw [Zcn]
  simp (disch:=exact id (by kernel_rfl)) only [Zsn (R:=Unit × Kg) N (CF Zf0 N [1,1,0,1,0]),Zsp (R:=Unit × Kg) N (CF Zf0 N [1,1,1,0,1,0])] at h
  exact Eq.trans (by kernel_rfl) h.symm
theorem Zpr (N:Nat):Good Tryz.prog 273 (Zi5 N):=GF Zf0 N Tryz.func273 (Wa (Zhz N) Zhy (Wa (Z4 N) Z3 (Wa (Zlc N) Zlb (Wa (Zdo N) Zdn (Wa (Zmv N) Zmu We))))) (by kernel_rfl) (fun d=>Zzo N d.1)
def Zfq (N:Nat):Sig:=Sig.of [.box Jd,.v Ja false] [] (fun d=>Z6 N d.1 d.2.1)
def Zp7:Fn:=⟨Tryz.f274,Wy,Zfq,Wde⟩
theorem Zlv:Wc Tryz.prog 274:=Wb Tryz.func274 (show Wg Tryz.f274 = true by kernel_rfl)
theorem Zlw (N:Nat):Good Tryz.prog 274 (Zfq N):=GF Zp7 N Tryz.func274 We (by kernel_rfl) (fun d=>by kernel_rfl)
def Zka (N:Nat):Sig:=Sig.of [.v (.prod Ja Jx) true] [.v Jd true,.v Jp false] (fun d=>Zik N d.1)
def Zum:Fn:=⟨Tryz.f238,Wy,Zka,fun N=>[(272,Zh8 N),(273,Zi5 N),(274,Zfq N)]⟩
theorem Zun:Wc Tryz.prog 238:=Wb Tryz.func238 (show Wg Tryz.f238 = true by kernel_rfl)
theorem Zuo (N:Nat):Good Tryz.prog 238 (Zka N):=GF Zum N Tryz.func238 (Wa (Zoh N) Zog (Wa (Zpr N) Zpq (Wa (Zlw N) Zlv We))) (by kernel_rfl) (fun d=>by kernel_rfl)
def Zeo (N:Nat):Sig:=Sig.of [.v Jab true] [.v Jag true] (fun d=>Zcb N d.1)
def Z1k:Fn:=⟨Tryz.f123,Wy,Zeo,Wde⟩
theorem Zh0:Wc Tryz.prog 123:=Wb Tryz.func123 (show Wg Tryz.f123 = true by kernel_rfl)
theorem Zh1 (N:Nat):Good Tryz.prog 123 (Zeo N):=GF Z1k N Tryz.func123 We (by kernel_rfl) (fun d=>by kernel_rfl)
def Zpd (N:Nat):Sig:=Sig.of [.v Jab true,.v Ja false,.v Ja false] [.v Jag true,.v Jp false] (fun d=>Zmr N d.1 d.2.1 d.2.2.1)
def Z4a:Fn:=⟨Tryz.f275,Wy,Zpd,fun N=>[(123,Zeo N),(124,Ze4 N),(65,Zb4 N),(288,Zen N)]⟩
theorem Z4b:Wc Tryz.prog 275:=Wb Tryz.func275 (show Wg Tryz.f275 = true by kernel_rfl)
theorem Z4c (N:Nat):Good Tryz.prog 275 (Zpd N):=GF Z4a N Tryz.func275 (Wa (Zh1 N) Zh0 (Wa (Zho N) Zhn (Wa (Zdo N) Zdn (Wa (Zhz N) Zhy We)))) (by kernel_rfl) (fun d=>by kernel_rfl)
def Zgc (N:Nat):Sig:=Sig.of [.box Jd,.v Ja false] [] (fun d=>Zex N d.1 d.2.1)
def Zqm:Fn:=⟨Tryz.f277,Wy,Zgc,Wde⟩
theorem Zme:Wc Tryz.prog 277:=Wb Tryz.func277 (show Wg Tryz.f277 = true by kernel_rfl)
theorem Zmf (N:Nat):Good Tryz.prog 277 (Zgc N):=GF Zqm N Tryz.func277 We (by kernel_rfl) (fun d=>by kernel_rfl)
def Zkb (N:Nat):Sig:=Sig.of [.box Jd,.v Ja false] [] (fun d=>Zbm N d.1 d.2.1)
def Zup:Fn:=⟨Tryz.f276,Wy,Zkb,fun N=>[(293,Zgr N),(277,Zgc N)]⟩
theorem Zuq:Wc Tryz.prog 276:=Wb Tryz.func276 (show Wg Tryz.f276 = true by kernel_rfl)
theorem Zur (N:Nat):Good Tryz.prog 276 (Zkb N):=GF Zup N Tryz.func276 (Wa (Zmv N) Zmu (Wa (Zmf N) Zme We)) (by kernel_rfl) (fun d=>by kernel_rfl)
def Zpe (N:Nat):Sig:=Sig.of [.v Jab true] [.v Jag true,.v Ja false] (fun d=>Zow N d.1)
def Z4d:Fn:=⟨Tryz.f57,Wy,Zpe,fun N=>[(123,Zeo N),(124,Ze4 N)]⟩
theorem Z4e:Wc Tryz.prog 57:=Wb Tryz.func57 (show Wg Tryz.f57 = true by kernel_rfl)
theorem Z4f (N:Nat):Good Tryz.prog 57 (Zpe N):=GF Z4d N Tryz.func57 (Wa (Zh1 N) Zh0 (Wa (Zho N) Zhn We)) (by kernel_rfl) (fun d=>by kernel_rfl)
def Zor (N:Nat):Sig:=Sig.of [.v Jab true,.v Ja false,.v Ja false,.v Ja false] [.v Jag true,.v Jp false] (fun d=>Znu N d.1 d.2.1 d.2.2.1 d.2.2.2.1)
def Z3w:Fn:=⟨Tryz.f278,Wy,Zor,fun N=>[(123,Zeo N),(124,Ze4 N),(65,Zb4 N),(288,Zen N),(130,Za5 N)]⟩
theorem Z3x:Wc Tryz.prog 278:=Wb Tryz.func278 (show Wg Tryz.f278 = true by kernel_rfl)
theorem Z3y (N:Nat):Good Tryz.prog 278 (Zor N):=GF Z3w N Tryz.func278 (Wa (Zh1 N) Zh0 (Wa (Zho N) Zhn (Wa (Zdo N) Zdn (Wa (Zhz N) Zhy (Wa (Zbq N) Zbp We))))) (by kernel_rfl) (fun d=>by kernel_rfl)
def Zn9 (N:Nat):Sig:=Sig.of [.v Jab true,.v Ja false,.v Ja false,.v Ja false] [.v Jag true,.v Jp false] (fun d=>Zkj N d.1 d.2.1 d.2.2.1 d.2.2.2.1)
def Z2w:Fn:=⟨Tryz.f279,Wy,Zn9,fun N=>[(123,Zeo N),(124,Ze4 N),(65,Zb4 N),(288,Zen N),(55,Zz N)]⟩
theorem Z2x:Wc Tryz.prog 279:=Wb Tryz.func279 (show Wg Tryz.f279 = true by kernel_rfl)
theorem Z2y (N:Nat):Good Tryz.prog 279 (Zn9 N):=GF Z2w N Tryz.func279 (Wa (Zh1 N) Zh0 (Wa (Zho N) Zhn (Wa (Zdo N) Zdn (Wa (Zhz N) Zhy (Wa (Z4 N) Z3 We))))) (by kernel_rfl) (fun d=>by kernel_rfl)
def Zku (N:Nat):Sig:=Sig.of [.v Jab true,.v (.prod Ja Jx) true] [.v Jag true,.v Jd true] (fun d=>Ziz N d.1 d.2.1)
def Zww:Fn:=⟨Tryz.f239,Wy,Zku,fun N=>[(123,Zeo N),(272,Zh8 N),(124,Ze4 N),(273,Zi5 N),(275,Zpd N),(276,Zkb N),(274,Zfq N),(57,Zpe N),(277,Zgc N),(278,Zor N),(279,Zn9 N)]⟩
theorem Zwx:Wc Tryz.prog 239:=Wb Tryz.func239 (show Wg Tryz.f239 = true by kernel_rfl)
theorem Zwy (N:Nat):Good Tryz.prog 239 (Zku N):=GF Zww N Tryz.func239 (Wa (Zh1 N) Zh0 (Wa (Zoh N) Zog (Wa (Zho N) Zhn (Wa (Zpr N) Zpq (Wa (Z4c N) Z4b (Wa (Zur N) Zuq (Wa (Zlw N) Zlv (Wa (Z4f N) Z4e (Wa (Zmf N) Zme (Wa (Z3y N) Z3x (Wa (Z2y N) Z2x We))))))))))) (by kernel_rfl) (fun d=>by kernel_rfl)
def Zjg (N:Nat):Sig:=Sig.of [.box Jt,.v Ja false] [] (fun d=>Zgf N d.1 d.2.1)
def Zsq:Fn:=⟨Tryz.f205,fun | 0=>[.opn 13] | _=>[],Zjg,fun N=>[(238,Zka N),(198,Zcz N),(239,Zku N),(222,Zde N)]⟩
theorem Zsr:Wc Tryz.prog 205:=Wb Tryz.func205 (show Wg Tryz.f205 = true by kernel_rfl)
theorem Zss (N:Nat):Good Tryz.prog 205 (Zjg N):=GF Zsq N Tryz.func205 (Wa (Zuo N) Zun (Wa (Zgz N) Zgy (Wa (Zwy N) Zwx (Wa (Zhe N) Zhd We)))) (by kernel_rfl) (fun d=>by kernel_rfl)
def Zh9 (N:Nat):Sig:=Sig.of [.v Jk true,.box Ja] [.v Jp false] (fun d=>Zfy N d.1 d.2.1)
def Zwz:Fn:=⟨Tryz.f243,Wy,Zh9,Wde⟩
theorem Zoi:Wc Tryz.prog 243:=Wb Tryz.func243 (show Wg Tryz.f243 = true by kernel_rfl)
theorem Zoj (N:Nat):Good Tryz.prog 243 (Zh9 N):=GF Zwz N Tryz.func243 We (by kernel_rfl) (fun d=>by kernel_rfl)
def Zat (N:Nat):Sig:=Sig.of [.v Je false,.clos 243 1,.box Ja] [.v Ja false] (fun d=>Zp N d.1 d.2.1)
def Zab:Fn:=⟨Tryz.f282,fun | 2=>[.canon [0,1,7,8,9]] | 3=>[.canon [0,1,5,7,8]] | 4=>[.canon [0,1,5,7,8,16]] | 5=>[.canon [1,4]] | 6=>[.canon [0,1,7,8]] | 100002=>[.canon [0,1,7,8]] | _=>[],Zat,fun N=>[(243,Zh9 N)]⟩
def Zep (s3:List Kb) (t5:Int) (b6:Int):St:=⟨[(0,vV Je s3),(1,.s (.one (.clos 243 [0]))),(7,vI (ilen s3)),(8,vI t5)],[(0,.box [.val Ja b6])],1⟩
def Zd6 (s3:List Kb) (t9:Int) (b10:Int):St:=⟨[(1,.s (.one (.clos 243 [0]))),(4,vI t9)],[(0,.box [.val Ja b10])],1⟩
def Zd7 (s3:List Kb) (t11:Int) (t12:Bool) (b13:Int):St:=⟨[(0,vV Je s3),(1,.s (.one (.clos 243 [0]))),(7,vI (ilen s3)),(8,vI t11),(9,vB t12)],[(0,.box [.val Ja b13])],1⟩
theorem Zeq (N:Nat) {R:Type} (K:Ex → St → Option R) {s3:List Kb} {K0:Int → Int → Option R} {K1:Int → Bool → Int → Option R} (h0:K0 = fun t9 b10=>K .ret (Zd6 s3 t9 b10)) (h1:K1 = fun t11 t12 b13=>K (.exit 0) (Zd7 s3 t11 t12 b13)) (n:Nat) (t5:Int) (b6:Int):Zl N s3 K0 K1 n t5 b6 = LM Zab N 0 100002 n (Zep s3 t5 b6) K:=by
  subst h0 h1
  induction n generalizing t5 b6 with
  | zero=>kernel_rfl
  | succ n ih=>rw [Zl]; simp (disch:=exact id (by kernel_rfl)) only [ih]; kernel_rfl
theorem Zfr:Wc Tryz.prog 282:=Wb Tryz.func282 (show Wg Tryz.f282 = true by kernel_rfl)
theorem Zfs (N:Nat) (s1:List Kb) (cap2:Int):DN Zab N (s1,cap2,()) = Zp N s1 cap2:=by
  have h:Zp N s1 cap2 = Zp N s1 cap2:=rfl
  conv at h=>rhs; rw [Zp]
  simp (disch:=exact id (by kernel_rfl)) only [Zeq (R:=Kj × Kj) N (CF Zab N [1,0,1,0])] at h
  exact Eq.trans (by kernel_rfl) h.symm
theorem Zft (N:Nat):Good Tryz.prog 282 (Zat N):=GF Zab N Tryz.func282 (Wa (Zoj N) Zoi We) (by kernel_rfl) (fun d=>Zfs N d.1 d.2.1)
def Zar (N:Nat):Sig:=Sig.of [.v (.own Jk) false,.clos 243 1,.box Ja] [.v (.own Jk) false] (fun d=>Zh N d.1 d.2.1)
def Z8:Fn:=⟨Tryz.f242,fun | 5=>[.canon [0,1,5,6,19]] | 6=>[.canon [0,1,5,6]] | 7=>[.canon [0,1,5,6,7]] | 8=>[.canon [0,1,5,6,7,29]] | 9=>[.canon [0,1,5,6]] | 10=>[.canon [0,1,5,6]] | 11=>[.view 38] | 100005=>[.canon [0,1,5,6]] | _=>[],Zar,fun N=>[(282,Zat N),(243,Zh9 N)]⟩
def Zd8 (i4:Int) (j5:Int) (l6:List Kb) (b7:Int):St:=⟨[(0,vO 0),(1,.s (.one (.clos 243 [1]))),(5,vI i4),(6,vI j5)],[(0,.arr Jk l6),(1,.box [.val Ja b7])],2⟩
def Zdw (i9:Int) (j10:Int) (t11:Bool) (l12:List Kb) (b13:Int):St:=⟨[(0,vO 0),(1,.s (.one (.clos 243 [1]))),(5,vI i9),(6,vI j10),(19,vB t11)],[(0,.arr Jk l12),(1,.box [.val Ja b13])],2⟩
theorem Zd9 (N:Nat) {R:Type} (K:Ex → St → Option R) {K0:Int → Int → Bool → Km → Int → Option R} (h0:K0 = fun i9 j10 t11 l12 b13=>K (.exit 0) (Zdw i9 j10 t11 l12 b13)) (n:Nat) (i4:Int) (j5:Int) (l6:List Kb) (b7:Int):Zd N K0 n i4 j5 l6 b7 = LM Z8 N 0 100005 n (Zd8 i4 j5 l6 b7) K:=by
  subst h0
  induction n generalizing i4 j5 l6 b7 with
  | zero=>kernel_rfl
  | succ n ih=>rw [Zd]; simp (disch:=exact id (by kernel_rfl)) only [ih]; kernel_rfl
theorem Zfc:Wc Tryz.prog 242:=Wb Tryz.func242 (show Wg Tryz.f242 = true by kernel_rfl)
theorem Zfd (N:Nat) (s1:List Kb) (cap2:Int):DN Z8 N (s1,cap2,()) = Zh N s1 cap2:=by
  have h:Zh N s1 cap2 = Zh N s1 cap2:=rfl
  conv at h=>rhs; rw [Zh]
  simp (disch:=exact id (by kernel_rfl)) only [Zd9 (R:=Kj × (Km × Unit)) N (CF Z8 N [1,1,1,0,1,0])] at h
  exact Eq.trans (by kernel_rfl) h.symm
theorem Zfe (N:Nat):Good Tryz.prog 242 (Zar N):=GF Z8 N Tryz.func242 (Wa (Zft N) Zfr (Wa (Zoj N) Zoi We)) (by kernel_rfl) (fun d=>Zfd N d.1 d.2.1)
def Zmm (N:Nat):Sig:=Sig.of [.v Je false,.v Ja false] [.v (.own Jk) false] (fun d=>Zky N d.1 d.2.1)
def Zzp:Fn:=⟨Tryz.f206,Wy,Zmm,fun N=>[(240,Ziv N),(241,Zgl N),(242,Zar N)]⟩
theorem Zzq:Wc Tryz.prog 206:=Wb Tryz.func206 (show Wg Tryz.f206 = true by kernel_rfl)
theorem Zzr (N:Nat):Good Tryz.prog 206 (Zmm N):=GF Zzp N Tryz.func206 (Wa (Zo8 N) Zo7 (Wa (Zj1 N) Zj0 (Wa (Zfe N) Zfc We))) (by kernel_rfl) (fun d=>by kernel_rfl)
def Zkv (N:Nat):Sig:=Sig.of [.box Jt,.v Ja false,.v Jm true] [] (fun d=>Zhb N d.1 d.2.1 d.2.2.1)
def Zw0:Fn:=⟨Tryz.f155,fun | 1=>[.opn 12] | _=>[],Zkv,fun N=>[(55,Zz N),(198,Zcz N),(199,Zks N),(200,Zls N),(201,Zlu N),(202,Zg6 N),(203,Zh7 N),(204,Zjf N),(205,Zjg N),(206,Zmm N),(207,Zir N)]⟩
theorem Zw1:Wc Tryz.prog 155:=Wb Tryz.func155 (show Wg Tryz.f155 = true by kernel_rfl)
theorem Zw2 (N:Nat):Good Tryz.prog 155 (Zkv N):=GF Zw0 N Tryz.func155 (Wa (Z4 N) Z3 (Wa (Zgz N) Zgy (Wa (Zwi N) Zwg (Wa (Zys N) Zyr (Wa (Zyy N) Zyx (Wa (Zns N) Znr (Wa (Zof N) Zoe (Wa (Zsl N) Zsk (Wa (Zss N) Zsr (Wa (Zzr N) Zzq (Wa (Zo0 N) Zoz We))))))))))) (by kernel_rfl) (fun d=>by kernel_rfl)
def Zia (N:Nat):Sig:=Sig.of [.v Jk true,.box Ja] [.v Jp false] (fun d=>Zi9 N d.1 d.2.1)
def Zqn:Fn:=⟨Tryz.f179,Wy,Zia,Wde⟩
theorem Zqo:Wc Tryz.prog 179:=Wb Tryz.func179 (show Wg Tryz.f179 = true by kernel_rfl)
theorem Zqp (N:Nat):Good Tryz.prog 179 (Zia N):=GF Zqn N Tryz.func179 We (by kernel_rfl) (fun d=>by kernel_rfl)
def Zaj (N:Nat):Sig:=Sig.of [.v Je false,.clos 179 1,.box Ja] [.v Ja false] (fun d=>Ze N d.1 d.2.1)
def Z1:Fn:=⟨Tryz.f178,fun | 2=>[.canon [0,1,7,8,9]] | 3=>[.canon [0,1,5,7,8]] | 4=>[.canon [0,1,5,7,8,16]] | 5=>[.canon [1,4]] | 6=>[.canon [0,1,7,8]] | 100002=>[.canon [0,1,7,8]] | _=>[],Zaj,fun N=>[(179,Zia N)]⟩
def Zc8 (s3:List Kb) (t5:Int) (b6:Int):St:=⟨[(0,vV Je s3),(1,.s (.one (.clos 179 [0]))),(7,vI (ilen s3)),(8,vI t5)],[(0,.box [.val Ja b6])],1⟩
def Zc0 (s3:List Kb) (t9:Int) (b10:Int):St:=⟨[(1,.s (.one (.clos 179 [0]))),(4,vI t9)],[(0,.box [.val Ja b10])],1⟩
def Zc1 (s3:List Kb) (t11:Int) (t12:Bool) (b13:Int):St:=⟨[(0,vV Je s3),(1,.s (.one (.clos 179 [0]))),(7,vI (ilen s3)),(8,vI t11),(9,vB t12)],[(0,.box [.val Ja b13])],1⟩
theorem Zc9 (N:Nat) {R:Type} (K:Ex → St → Option R) {s3:List Kb} {K0:Int → Int → Option R} {K1:Int → Bool → Int → Option R} (h0:K0 = fun t9 b10=>K .ret (Zc0 s3 t9 b10)) (h1:K1 = fun t11 t12 b13=>K (.exit 0) (Zc1 s3 t11 t12 b13)) (n:Nat) (t5:Int) (b6:Int):Zg N s3 K0 K1 n t5 b6 = LM Z1 N 0 100002 n (Zc8 s3 t5 b6) K:=by
  subst h0 h1
  induction n generalizing t5 b6 with
  | zero=>kernel_rfl
  | succ n ih=>rw [Zg]; simp (disch:=exact id (by kernel_rfl)) only [ih]; kernel_rfl
theorem Zdx:Wc Tryz.prog 178:=Wb Tryz.func178 (show Wg Tryz.f178 = true by kernel_rfl)
theorem Zdy (N:Nat) (s1:List Kb) (cap2:Int):DN Z1 N (s1,cap2,()) = Ze N s1 cap2:=by
  have h:Ze N s1 cap2 = Ze N s1 cap2:=rfl
  conv at h=>rhs; rw [Ze]
  simp (disch:=exact id (by kernel_rfl)) only [Zc9 (R:=Kj × Kj) N (CF Z1 N [1,0,1,0])] at h
  exact Eq.trans (by kernel_rfl) h.symm
theorem Zdz (N:Nat):Good Tryz.prog 178 (Zaj N):=GF Z1 N Tryz.func178 (Wa (Zqp N) Zqo We) (by kernel_rfl) (fun d=>Zdy N d.1 d.2.1)
def Ze8 (N:Nat):Sig:=Sig.of [.rp (TY_Family),.v Ja false] [.v Ja false] (fun d=>Zck N d.1 d.2.1)
def Zst:Fn:=⟨Tryz.f121,Wy,Ze8,fun N=>[(178,Zaj N)]⟩
theorem Zjh:Wc Tryz.prog 121:=Wb Tryz.func121 (show Wg Tryz.f121 = true by kernel_rfl)
theorem Zji (N:Nat):Good Tryz.prog 121 (Ze8 N):=GF Zst N Tryz.func121 (Wa (Zdz N) Zdx We) (by kernel_rfl) (fun d=>by kernel_rfl)
end
end Go.Sx
