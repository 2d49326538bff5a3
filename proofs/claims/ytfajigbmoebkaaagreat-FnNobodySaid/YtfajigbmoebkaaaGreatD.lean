/- Each Go function does what its Lean function says. -/
import Derived.Test.YtfajigbmoebkaaaGreatT2
import Derived.Test.YtfajigbmoebkaaaGreatProg
import Derived.Test.YtfajigbmoebkaaaGreatLay
namespace Go.Sx
noncomputable section
open Go.Proofs
abbrev Ja:Ty:=.int .i64
abbrev Jb:Ty:=.prod (.own Ja) (.prod (.own (.prod Ja Ja)) (.prod (.own (.prod Ja (.prod Ja Ja))) (.prod (.own Ja) (.prod (.own (.prod Ja Ja)) (.own (.prod Ja (.prod Ja (.prod Ja (.prod Ja (.prod Ja (.prod Ja (.prod (.own Ja) (.prod (.own (.prod Ja (.prod Ja Ja))) (.prod (.own (.prod Ja Ja)) (.prod (.own (.prod Ja (.prod Ja (.own Ja)))) (.prod (.bool) (.prod Ja (.prod Ja (.prod Ja Ja)))))))))))))))))))
abbrev Jc:Ty:=.slice (.prod Ja (.prod Ja (.prod Ja Ja)))
abbrev Jd:Ty:=.prod Ja (.prod Ja (.prod Ja (.prod Ja (.prod Ja (.prod (.own (.prod Ja Ja)) (.own Ja))))))
abbrev Je:Ty:=.slice (.prod Ja (.prod Ja Ja))
abbrev Jf:Ty:=.own (.prod Ja (.prod Ja (.prod Ja (.prod Ja (.slice Ja)))))
abbrev Jg:Ty:=.slice (.prod Ja Ja)
abbrev Jh:Ty:=.prod Ja (.prod Ja (.prod Ja (.prod Ja (.prod Ja (.prod Ja (.prod Ja (.prod Ja (.prod Ja (.prod Ja (.prod (.bool) (.prod (.own Ja) (.prod (.own (.prod Ja Ja)) (.prod (.own (.prod Ja Ja)) (.prod Jf (.prod (.own (.prod Ja (.prod Ja Ja))) (.prod (.own Ja) (.prod (.bool) (.prod (.prod Ja (.prod Ja (.prod Ja Ja))) (.prod Jd (.prod Ja (.prod Ja (.prod Ja (.prod (.bool) Jb)))))))))))))))))))))))
abbrev Ji:Ty:=.prod Ja (.prod Ja (.prod Ja (.prod Ja (.prod Ja (.prod Ja (.prod (.own Ja) (.prod (.own (.prod Ja (.prod Ja Ja))) (.prod (.own (.prod Ja Ja)) (.prod (.own (.prod Ja (.prod Ja (.own Ja)))) (.prod (.bool) (.prod Ja (.prod Ja (.prod Ja Ja)))))))))))))
abbrev Jj:Ty:=.slice Ja
abbrev Jk:Ty:=.prod (.slice (.int .u8)) (.prod Ja Ja)
abbrev Jl:Ty:=.prod Ja (.prod Ja Ja)
abbrev Jm:Ty:=.prod (.own (.prod Ja Jh)) (.own (.prod Ja (.prod Ja Jg)))
abbrev Jn:Ty:=.prod Jc (.slice Jc)
abbrev Jo:Ty:=.slice (.int .u8)
abbrev Jp:Ty:=.bool
abbrev Jq:Ty:=.prod (.own Ja) Ja
abbrev Jr:Ty:=.prod Ja (.prod Ja (.prod Ja (.prod Ja (.prod Jg Jj))))
abbrev Js:Ty:=.slice (.prod Ja (.prod Ja Jg))
abbrev Jt:Ty:=.prod Jj (.prod Jj Ja)
abbrev Ju:Ty:=.prod Ja Je
abbrev Jv:Ty:=.prod Ja (.prod Ja (.own Ja))
abbrev Jw:Ty:=.prod Ja (.prod Ja (.prod (.prod Ja (.own Jl)) (.prod Jq (.prod (.own Jl) Jm))))
abbrev Jx:Ty:=.prod Ja Ja
abbrev Jy:Ty:=.prod Ja Jl
abbrev Jz:Ty:=.prod Ja (.prod Ja (.prod Ja (.prod Jp Jb)))
abbrev Jaa:Ty:=.prod Jt (.prod (.slice Jn) Je)
abbrev Jab:Ty:=.prod Ja (.prod Ja Jg)
abbrev Jac:Ty:=.own Ja
abbrev Jad:Ty:=.slice (TY_KidRun)
abbrev Jae:Ty:=.prod Ja Jh
abbrev Jaf:Ty:=.prod Ja (.prod Ja (.prod Ja Jj))
abbrev Jag:Ty:=.prod Ja (.own Jl)
abbrev Jah:Ty:=.slice Jn
abbrev Ka:Type:=Int × Int × Int × Int
abbrev Kb:Type:=Int × Int × Int
abbrev Kc:Type:=Int × Int
abbrev Ke:Type:=List Int × Int × Int
abbrev Kf:Type:=Bool × Unit
abbrev Kg:Type:=List Int × List Int × Int
abbrev Kh:Type:=Int × Int × List Int
abbrev Ki:Type:=Int × Unit
abbrev Kj:Type:=List Int
abbrev Kk:Type:=List Ka × List (List Ka)
abbrev Kl:Type:=Int × Int × List Kc
abbrev Km:Type:=Ke × Unit
abbrev Kn:Type:=List Kb
abbrev Ko:Type:=List Ka
set_option linter.unusedVariables false
set_option linter.unusedSimpArgs false
def tab:Tab:=[(3,⟨.int .i64,false,.basic⟩),(4,⟨.bool,false,.basic⟩),(5,⟨.int .u8,false,.basic⟩),(22,⟨.slice (.int .u8),false,.slice 5⟩),(24,⟨.slice Ja,false,.slice 3⟩),(25,⟨.slice Jx,false,.slice 137⟩),(26,⟨.slice Jc,false,.slice 117⟩),(30,⟨.slice Jl,false,.slice 102⟩),(32,⟨.prod Ja Je,true,.struct [(0,3),(1,30)]⟩),(33,⟨.slice Jl,false,.slice 127⟩),(34,⟨.slice (TY_KidRun),false,.slice 125⟩),(36,⟨TY_Family,true,.struct [(0,3),(1,3),(2,3),(3,4),(4,24),(5,25),(6,33),(7,24),(8,25),(9,34)]⟩),(63,⟨.prod Jj (.prod Jj Ja),true,.struct [(0,24),(1,24),(2,3)]⟩),(64,⟨.slice Jn,false,.slice 159⟩),(65,⟨.slice Jl,false,.slice 96⟩),(67,⟨.prod Jt (.prod Jah Je),true,.struct [(0,63),(3,64),(4,65)]⟩),(73,⟨.prod Jj Ja,true,.struct [(0,24),(1,3)]⟩),(74,⟨.slice Jl,false,.slice 106⟩),(75,⟨.slice (TY_Root),false,.slice 90⟩),(76,⟨.slice Jab,false,.slice 162⟩),(78,⟨TY_World,true,.struct [(0,3),(1,3),(2,32),(4,73),(6,74),(7,75),(8,76)]⟩),(83,⟨.slice (.prod Ja Jaf),false,.slice 249⟩),(84,⟨.slice Jl,false,.slice 275⟩),(86,⟨.prod Ja Jl,true,.struct [(0,3),(1,3),(2,3),(3,3)]⟩),(88,⟨.prod Ja Jr,true,.struct [(0,3),(1,3),(2,3),(3,3),(4,3),(5,25),(6,24)]⟩),(90,⟨TY_Root,true,.struct [(0,3),(1,3),(2,3),(3,3),(4,3),(5,3),(6,3),(7,3),(8,3),(9,3),(10,3),(11,4),(12,24),(13,25),(14,25),(15,83),(16,84),(17,24),(18,4),(19,86),(23,88),(30,36)]⟩),(96,⟨.prod Ja Jx,true,.struct [(0,3),(1,3),(2,3)]⟩),(102,⟨.prod Ja Jx,true,.struct [(0,3),(1,3),(2,3)]⟩),(106,⟨.prod Ja Jx,true,.struct [(0,3),(1,3),(2,3)]⟩),(115,⟨.slice Jy,false,.slice 176⟩),(117,⟨.slice Jy,true,.struct [(0,115)]⟩),(123,⟨.slice (.prod Ja (.prod Ja Jj)),false,.slice 226⟩),(125,⟨TY_KidRun,true,.struct [(0,3),(1,3),(2,3),(3,3),(4,3),(5,3),(6,24),(7,33),(8,25),(9,123),(10,4),(11,86)]⟩),(127,⟨.prod Ja Jx,true,.struct [(0,3),(1,3),(2,3)]⟩),(137,⟨.prod Ja Ja,true,.struct [(0,3),(1,3)]⟩),(159,⟨.prod Jc (.slice Jc),true,.struct [(0,115),(1,26)]⟩),(162,⟨.prod Ja (.prod Ja Jg),true,.struct [(0,3),(1,3),(2,25)]⟩),(164,⟨.prod Jo Jx,true,.struct [(0,22),(1,3),(2,3)]⟩),(176,⟨.prod Ja Jl,true,.struct [(0,3),(1,3),(2,3),(3,3)]⟩),(226,⟨.prod Ja (.prod Ja Jj),true,.struct [(0,3),(1,3),(2,24)]⟩),(249,⟨.prod Ja Jaf,true,.struct [(0,3),(1,3),(2,3),(3,3),(4,24)]⟩),(275,⟨.prod Ja Jx,true,.struct [(0,3),(1,3),(2,3)]⟩),(283,⟨.bool,true,.arr 8 4⟩)]
theorem mixedOk:Tryz.prog.follows .mixedOrders = true:=by kernel_rfl
theorem tabOk:Wba Tryz.prog tab:=tab_ok (show Wxu Tryz.prog tab tab = true by kernel_rfl)
def LM (x:Fn) (N:Nat) {R:Type} (i k n:Nat) (st:St) (K:Ex → St → Option R):Option R:=lpM tab (x.c N) x.a N x.F i k n st K
def CF (x:Fn) (N:Nat) (p:List Nat):Ex → St → Option (Qs (x.s N)):=cxF tab (x.c N) x.a N (x.s N) x.F p
def CL (x:Fn) (N:Nat) {R:Type} (i k:Nat) (p:List Nat) (n:Nat) (K:Ex → St → Option R):Ex → St → Option R:=cxL tab (x.c N) x.a N x.F i k p n K
def DN (x:Fn) (N:Nat) (d:PDen (x.s N).ps):Option (Qs (x.s N)):=den (R:=Qs (x.s N)) tab (x.c N) x.a N (x.s N) x.F d some
theorem GF (x:Fn) {k:FuncId} (N:Nat) (hf:Tryz.prog.funcs[k]? = some x.F) (hc:Wlo Tryz.prog (x.c N)) (hok:chkBody x.F (x.s N).ps = true) (h:∀ d,DN x N d = (x.s N).run d):Good Tryz.prog k (x.s N) :=
  good_body mixedOk tabOk hc hf hok (fun d _ e=>⟨N,(h d).trans e⟩)
def Zpx (N:Nat):Sig:=Sig.of [.v Jo false] [.v Jp false] (fun d=>Ztr N d.1)
def Z41:Fn:=⟨Tryz.f9,Wz,Zpx,Wci⟩
theorem Z42:Wc Tryz.prog 9:=Wb Tryz.func9 (show Wg Tryz.f9 = true by kernel_rfl)
theorem Z43 (N:Nat):Good Tryz.prog 9 (Zpx N):=GF Z41 N Tryz.func9 We (by kernel_rfl) (fun d=>by kernel_rfl)
def Zoo (N:Nat):Sig:=Sig.of [.v Jo false] [.box Jk] (fun d=>Zgu N d.1)
def Zl3:Fn:=⟨Tryz.f50,fun | 3=>[.canon [0,3,4,15]] | 4=>[.canon [0,3,4]] | 5=>[.canon [0,3,4]] | 100003=>[.canon [0,3,4]] | _=>[],Zoo,Wci⟩
def Zxo (code2:List Int) (h3:Int) (i4:Int):St:=⟨[(0,vV Jo code2),(3,vI h3),(4,vI i4)],[],0⟩
def Zvs (code2:List Int) (h5:Int) (i6:Int) (t7:Bool):St:=⟨[(0,vV Jo code2),(3,vI h5),(4,vI i6),(15,vB t7)],[],0⟩
theorem Zxp (N:Nat) {R:Type} (K:Ex → St → Option R) {code2:List Int} {K0:Int → Int → Bool → Option R} (h0:K0 = fun h5 i6 t7=>K (.exit 0) (Zvs code2 h5 i6 t7)) (n:Nat) (h3:Int) (i4:Int):Zcz N code2 K0 n h3 i4 = LM Zl3 N 0 100003 n (Zxo code2 h3 i4) K:=by
  subst h0
  induction n generalizing h3 i4 with
  | zero=>kernel_rfl
  | succ n ih=>rw [Zcz]; simp (disch:=exact id (by kernel_rfl)) only [ih]; kernel_rfl
theorem Z3v:Wc Tryz.prog 50:=Wb Tryz.func50 (show Wg Tryz.f50 = true by kernel_rfl)
theorem Z3w (N:Nat) (code1:List Int):DN Zl3 N (code1,()) = Zgu N code1:=by
  have h:Zgu N code1 = Zgu N code1:=rfl
  conv at h=>rhs; rw [Zgu]
  simp (disch:=exact id (by kernel_rfl)) only [Zxp (R:=Unit × Km) N (CF Zl3 N [1,1,0,1,0])] at h
  exact Eq.trans (by kernel_rfl) h.symm
theorem Z3x (N:Nat):Good Tryz.prog 50 (Zoo N):=GF Zl3 N Tryz.func50 We (by kernel_rfl) (fun d=>Z3w N d.1)
def Znw (N:Nat):Sig:=Sig.of [.v Jo false,.v Ja false] [.v Ja false] (fun d=>Zmx N d.1 d.2.1)
def Z2f:Fn:=⟨Tryz.f110,Wz,Znw,Wci⟩
theorem Z2g:Wc Tryz.prog 110:=Wb Tryz.func110 (show Wg Tryz.f110 = true by kernel_rfl)
theorem Z2h (N:Nat):Good Tryz.prog 110 (Znw N):=GF Z2f N Tryz.func110 We (by kernel_rfl) (fun d=>by kernel_rfl)
def Znx (N:Nat):Sig:=Sig.of [.box Jk] [.v Ja false] (fun d=>Zga N d.1)
def Z2i:Fn:=⟨Tryz.f168,Wz,Znx,Wci⟩
theorem Z2j:Wc Tryz.prog 168:=Wb Tryz.func168 (show Wg Tryz.f168 = true by kernel_rfl)
theorem Z2k (N:Nat):Good Tryz.prog 168 (Znx N):=GF Z2i N Tryz.func168 We (by kernel_rfl) (fun d=>by kernel_rfl)
def Z6 (N:Nat):Sig:=Sig.of [.box Jk,.v Ja false] [.v Ja false] (fun d=>Zb N d.1 d.2.1)
def Z0p:Fn:=⟨Tryz.f115,Wz,Z6,fun N=>[(168,Znx N)]⟩
theorem Zad:Wc Tryz.prog 115:=Wb Tryz.func115 (show Wg Tryz.f115 = true by kernel_rfl)
theorem Zae (N:Nat):Good Tryz.prog 115 (Z6 N):=GF Z0p N Tryz.func115 (Wa (Z2k N) Z2j We) (by kernel_rfl) (fun d=>by kernel_rfl)
def Zb5 (N:Nat):Sig:=Sig.of [.box Jk,.v Ja false] [.v Jp false] (fun d=>Zw N d.1 d.2.1)
def Z2l:Fn:=⟨Tryz.f166,Wz,Zb5,fun N=>[(115,Z6 N)]⟩
theorem Zds:Wc Tryz.prog 166:=Wb Tryz.func166 (show Wg Tryz.f166 = true by kernel_rfl)
theorem Zdt (N:Nat):Good Tryz.prog 166 (Zb5 N):=GF Z2l N Tryz.func166 (Wa (Zae N) Zad We) (by kernel_rfl) (fun d=>by kernel_rfl)
def Zgx (N:Nat):Sig:=Sig.of [.box Jk,.v Jj false] [.v Ja false] (fun d=>Zbq N d.1 d.2.1)
def Zxq:Fn:=⟨Tryz.f215,Wz,Zgx,fun N=>[(115,Z6 N)]⟩
theorem Zli:Wc Tryz.prog 215:=Wb Tryz.func215 (show Wg Tryz.f215 = true by kernel_rfl)
theorem Zlj (N:Nat):Good Tryz.prog 215 (Zgx N):=GF Zxq N Tryz.func215 (Wa (Zae N) Zad We) (by kernel_rfl) (fun d=>by kernel_rfl)
def Zig (N:Nat):Sig:=Sig.of [.box Jk] [.v Ja false] (fun d=>Zg7 N d.1)
def Z2m:Fn:=⟨Tryz.f162,Wz,Zig,fun N=>[(166,Zb5 N),(215,Zgx N),(115,Z6 N)]⟩
theorem Zny:Wc Tryz.prog 162:=Wb Tryz.func162 (show Wg Tryz.f162 = true by kernel_rfl)
theorem Znz (N:Nat):Good Tryz.prog 162 (Zig N):=GF Z2m N Tryz.func162 (Wa (Zdt N) Zds (Wa (Zlj N) Zli (Wa (Zae N) Zad We))) (by kernel_rfl) (fun d=>by kernel_rfl)
def Zkl (N:Nat):Sig:=Sig.of [.box Jk] [.v Jac false] (fun d=>Zci N d.1)
def Zhz:Fn:=⟨Tryz.f161,fun | 3=>[.canon [0,3,4,7]] | 4=>[.canon [0,3,4]] | 5=>[.canon [0,3,4]] | 100003=>[.canon [0,3,4]] | _=>[],Zkl,fun N=>[(162,Zig N)]⟩
def Zqb (i2:Int) (b3:List Int × Int × Int) (l4:List Int):St:=⟨[(0,vP 0 0),(3,vO 1),(4,vI i2)],[(0,.box [.val Jo b3.1,.val Ja b3.2.1,.val Ja b3.2.2]),(1,.arr Ja l4)],2⟩
def Zpy (i6:Int) (t7:Bool) (b8:List Int × Int × Int) (l9:List Int):St:=⟨[(0,vP 0 0),(3,vO 1),(4,vI i6),(7,vB t7)],[(0,.box [.val Jo b8.1,.val Ja b8.2.1,.val Ja b8.2.2]),(1,.arr Ja l9)],2⟩
theorem Zqc (N:Nat) {R:Type} (K:Ex → St → Option R) {K0:Int → Bool → Ke → Kj → Option R} (h0:K0 = fun i6 t7 b8 l9=>K (.exit 0) (Zpy i6 t7 b8 l9)) (n:Nat) (i2:Int) (b3:List Int × Int × Int) (l4:List Int):Zcw N K0 n i2 b3 l4 = LM Zhz N 0 100003 n (Zqb i2 b3 l4) K:=by
  subst h0
  induction n generalizing i2 b3 l4 with
  | zero=>kernel_rfl
  | succ n ih=>rw [Zcw]; simp (disch:=exact id (by kernel_rfl)) only [ih]; kernel_rfl
theorem Zvt:Wc Tryz.prog 161:=Wb Tryz.func161 (show Wg Tryz.f161 = true by kernel_rfl)
theorem Zvu (N:Nat) (c1:List Int × Int × Int):DN Zhz N (c1,()) = Zci N c1:=by
  have h:Zci N c1 = Zci N c1:=rfl
  conv at h=>rhs; rw [Zci]
  simp (disch:=exact id (by kernel_rfl)) only [Zqc (R:=Km × (Kj × Unit)) N (CF Zhz N [1,1,0,1,0])] at h
  exact Eq.trans (by kernel_rfl) h.symm
theorem Zvv (N:Nat):Good Tryz.prog 161 (Zkl N):=GF Zhz N Tryz.func161 (Wa (Znz N) Zny We) (by kernel_rfl) (fun d=>Zvu N d.1)
def Ziu (N:Nat):Sig:=Sig.of [.box Jk] [.v (.prod Jac Jq) true] (fun d=>Zcs N d.1)
def Ziv:Fn:=⟨Tryz.f193,fun | 3=>[.canon [0,2,3,4,12]] | 4=>[.canon [0,2,3,4]] | 5=>[.canon [0,2,3,4,5]] | 6=>[.canon [0,2,3,4,5,16]] | 7=>[.canon [0,2,3,4,5]] | 8=>[.canon [0,2,3,4]] | 100003=>[.adoptC 3 1 Ja,.canon [0,2,3,4]] | _=>[],Ziu,fun N=>[(161,Zkl N),(162,Zig N),(166,Zb5 N)]⟩
def Zry (i4:Int) (b5:List Int × Int × Int) (b7:Int) (l8:List Int) (l9:List Int):St:=⟨[(0,vP 0 0),(2,vP 1 0),(3,vP 2 0),(4,vI i4)],[(0,.box [.val Jo b5.1,.val Ja b5.2.1,.val Ja b5.2.2]),(1,.box [.nils,.nils,.val Ja (0:Int)]),(2,.box [.own 3,.own 4,.val Ja b7]),(3,.arr Ja l8),(4,.arr Ja l9)],5⟩
def Zq4 (b7:Int) (l8:List Int) (i14:Int) (t15:Bool) (b16:List Int × Int × Int) (l17:List Int):St:=⟨[(0,vP 0 0),(2,vP 1 0),(3,vP 2 0),(4,vI i14),(12,vB t15)],[(0,.box [.val Jo b16.1,.val Ja b16.2.1,.val Ja b16.2.2]),(1,.box [.nils,.nils,.val Ja (0:Int)]),(2,.box [.own 3,.own 4,.val Ja b7]),(3,.arr Ja l8),(4,.arr Ja l17)],5⟩
theorem Zrz (N:Nat) {R:Type} (K:Ex → St → Option R) {b7:Int} {l8:List Int} {K0:Int → Bool → Ke → Kj → Option R} (h0:K0 = fun i14 t15 b16 l17=>K (.exit 0) (Zq4 b7 l8 i14 t15 b16 l17)) (n:Nat) (i4:Int) (b5:List Int × Int × Int) (l9:List Int):Zco N b7 l8 K0 n i4 b5 l9 = LM Ziv N 0 100003 n (Zry i4 b5 b7 l8 l9) K:=by
  subst h0
  induction n generalizing i4 b5 l9 with
  | zero=>kernel_rfl
  | succ n ih=>rw [Zco]; simp (disch:=exact id (by kernel_rfl)) only [ih]; kernel_rfl
theorem Zpi:Wc Tryz.prog 193:=Wb Tryz.func193 (show Wg Tryz.f193 = true by kernel_rfl)
theorem Zzh (N:Nat) (c1:List Int × Int × Int):DN Ziv N (c1,()) = Zcs N c1:=by
  have h:Zcs N c1 = Zcs N c1:=rfl
  conv at h=>rhs; rw [Zcs]
  simp (disch:=exact id (by kernel_rfl)) only [Zrz (R:=Km × (Kg × Unit)) N (CF Ziv N [1,1,0,1,0])] at h
  exact Eq.trans (by kernel_rfl) h.symm
theorem Zpj (N:Nat):Good Tryz.prog 193 (Ziu N):=GF Ziv N Tryz.func193 (Wa (Zvv N) Zvt (Wa (Znz N) Zny (Wa (Zdt N) Zds We))) (by kernel_rfl) (fun d=>Zzh N d.1)
def Zlk (N:Nat):Sig:=Sig.of [.box Jk] [.v Ja false] (fun d=>Za N d.1)
def Zxr:Fn:=⟨Tryz.f245,Wz,Zlk,fun N=>[(115,Z6 N)]⟩
theorem Zxs:Wc Tryz.prog 245:=Wb Tryz.func245 (show Wg Tryz.f245 = true by kernel_rfl)
theorem Zxt (N:Nat):Good Tryz.prog 245 (Zlk N):=GF Zxr N Tryz.func245 (Wa (Zae N) Zad We) (by kernel_rfl) (fun d=>by kernel_rfl)
def Zkm (N:Nat):Sig:=Sig.of [.box Jk] [.v Ja false] (fun d=>Zbz N d.1)
def Zvw:Fn:=⟨Tryz.f167,Wz,Zkm,fun N=>[(166,Zb5 N),(115,Z6 N)]⟩
theorem Zvx:Wc Tryz.prog 167:=Wb Tryz.func167 (show Wg Tryz.f167 = true by kernel_rfl)
theorem Zvy (N:Nat):Good Tryz.prog 167 (Zkm N):=GF Zvw N Tryz.func167 (Wa (Zdt N) Zds (Wa (Zae N) Zad We)) (by kernel_rfl) (fun d=>by kernel_rfl)
def Zll (N:Nat):Sig:=Sig.of [.box Jk] [.v Ja false] (fun d=>Zk N d.1)
def Zxu:Fn:=⟨Tryz.f246,Wz,Zll,fun N=>[(166,Zb5 N),(115,Z6 N),(215,Zgx N)]⟩
theorem Zxv:Wc Tryz.prog 246:=Wb Tryz.func246 (show Wg Tryz.f246 = true by kernel_rfl)
theorem Zxw (N:Nat):Good Tryz.prog 246 (Zll N):=GF Zxu N Tryz.func246 (Wa (Zdt N) Zds (Wa (Zae N) Zad (Wa (Zlj N) Zli We))) (by kernel_rfl) (fun d=>by kernel_rfl)
def Zjn (N:Nat):Sig:=Sig.of [.box Jk,.v Ja false] [.v Jy true] (fun d=>Zj N d.1 d.2.1)
def Z0q:Fn:=⟨Tryz.f216,Wz,Zjn,fun N=>[(245,Zlk N),(162,Zig N),(167,Zkm N),(115,Z6 N),(246,Zll N)]⟩
theorem Zpz:Wc Tryz.prog 216:=Wb Tryz.func216 (show Wg Tryz.f216 = true by kernel_rfl)
theorem Zp0 (N:Nat):Good Tryz.prog 216 (Zjn N):=GF Z0q N Tryz.func216 (Wa (Zxt N) Zxs (Wa (Znz N) Zny (Wa (Zvy N) Zvx (Wa (Zae N) Zad (Wa (Zxw N) Zxv We))))) (by kernel_rfl) (fun d=>by kernel_rfl)
def Zky (N m:Nat):Sig:=Sig.of [.box Jk,.v Ja false,.v Ja false,.v Jp false] [.v (.own Jy) false] (fun d=>Zcf N m d.1 d.2.1 d.2.2.1 d.2.2.2.1)
def Zr0 (N:Nat):Sig:=Zky N N
def Zl4 (m:Nat):Fn:=⟨Tryz.f164,fun | 3=>[.canon [0,1,2,3,9,10,27]] | 4=>[.canon [0,1,2,3,9,10]] | 5=>[.canon [0,1,2,3,9,10,11]] | 6=>[.canon [0,1,2,3,9,10]] | 7=>[.canon [0,1,2,3,9,10,11,40]] | 8=>[.canon [0,1,2,3,9,10]] | 9=>[.canon [0,1,2,3,9,10,11,48]] | 10=>[.canon [0,1,2,3,9,10]] | 11=>[.canon [0,1,2,3,9,10,11,56]] | 12=>[.canon [0,1,2,3,9,10]] | 13=>[.canon [0,1,2,3,9,10,11,67]] | 14=>[.canon [0,1,2,3,9,10,12]] | 15=>[.canon [0,1,2,3,9,10,12]] | 16=>[.canon [0,1,2,3,9,10]] | 17=>[.canon [0,1,2,3,9,10,100]] | 18=>[.canon [0,1,2,3,9,10]] | 19=>[.canon [0,1,2,3,9,10]] | 20=>[.canon [0,1,2,3,9,10,11,109]] | 21=>[.canon [0,1,2,3,9,10,13]] | 22=>[.canon [0,1,2,3,9,10,13,14]] | 23=>[.canon [0,1,2,3,9,10,13,14]] | 24=>[.canon [0,1,2,3,9,10,13]] | 25=>[.canon [0,1,2,3,9,10]] | 26=>[.canon [0,1,2,3,9,10,134]] | 27=>[.canon [0,1,2,3,9,10]] | 28=>[.canon [0,1,2,3,9,10,145]] | 29=>[.canon [0,1,2,3,9,10]] | 100003=>[.canon [0,1,2,3,9,10]] | _=>[],fun N=>Zky N (m + 1),fun N=>[(115,Z6 N),(216,Zjn N),(164,Zky N m),(166,Zb5 N)]⟩
def Zxx (most6:Int) (deep7:Int) (kid8:Bool) (n9:Int) (b10:List Int × Int × Int) (l11:List Ka):St:=⟨[(0,vP 0 0),(1,vI most6),(2,vI deep7),(3,vB kid8),(9,vO 1),(10,vI n9)],[(0,.box [.val Jo b10.1,.val Ja b10.2.1,.val Ja b10.2.2]),(1,.arr Jy l11)],2⟩
def Zvz (most6:Int) (deep7:Int) (kid8:Bool) (n80:Int) (t81:Bool) (b82:List Int × Int × Int) (l83:List Ka):St:=⟨[(0,vP 0 0),(1,vI most6),(2,vI deep7),(3,vB kid8),(9,vO 1),(10,vI n80),(27,vB t81)],[(0,.box [.val Jo b82.1,.val Ja b82.2.1,.val Ja b82.2.2]),(1,.arr Jy l83)],2⟩
theorem Zxy (N m:Nat) {R:Type} (K:Ex → St → Option R) {most6:Int} {deep7:Int} {kid8:Bool} {K0:Int → Bool → Ke → Ko → Option R} (h0:K0 = fun n80 t81 b82 l83=>K (.exit 0) (Zvz most6 deep7 kid8 n80 t81 b82 l83)) (n:Nat) (n9:Int) (b10:List Int × Int × Int) (l11:List Ka):Zc N (Zcf N m) most6 deep7 kid8 K0 n n9 b10 l11 = LM (Zl4 m) N 0 100003 n (Zxx most6 deep7 kid8 n9 b10 l11) K:=by
  subst h0
  induction n generalizing n9 b10 l11 with
  | zero=>kernel_rfl
  | succ n ih=>rw [Zc]; simp (disch:=exact id (by kernel_rfl)) only [ih]; kernel_rfl
theorem Zr1:Wc Tryz.prog 164:=Wb Tryz.func164 (show Wg Tryz.f164 = true by kernel_rfl)
theorem Z3y (N m:Nat) (c1:List Int × Int × Int) (most2:Int) (deep3:Int) (kid4:Bool):DN (Zl4 m) N (c1,most2,deep3,kid4,()) = Zcf N (m + 1) c1 most2 deep3 kid4:=by
  have h:Zcf N (m + 1) c1 most2 deep3 kid4 = Zcf N (m + 1) c1 most2 deep3 kid4:=rfl
  conv at h=>rhs; rw [Zcf]
  simp (disch:=exact id (by kernel_rfl)) only [Zxy (R:=Km × (Ko × Unit)) N m (CF (Zl4 m) N [1,1,0,1,0])] at h
  exact Eq.trans (by kernel_rfl) h.symm
theorem Zqt (N:Nat):∀ m,Good Tryz.prog 164 (Zky N m)
  | 0=>fun d o h=>nomatch (show none = some o from h)
  | m + 1=>GF (Zl4 m) N Tryz.func164 (Wa (Zae N) Zad (Wa (Zp0 N) Zpz (Wa (Zqt N m) Zr1 (Wa (Zdt N) Zds We)))) (by kernel_rfl) (fun d=>Z3y N m d.1 d.2.1 d.2.2.1 d.2.2.2.1)
theorem Z3z (N:Nat):Good Tryz.prog 164 (Zr0 N):=Zqt N N
def Zkz (N:Nat):Sig:=Sig.of [.box Jk,.v Jp false] [.v (.prod (.own Jy) (.own Jc)) true] (fun d=>Zcc N d.1 d.2.1)
def Zk0:Fn:=⟨Tryz.f194,fun | 7=>[.canon [0,4,7,8,38]] | 8=>[.canon [0,4,7,8]] | 9=>[.canon [0,4,7,8]] | 100007=>[.adoptC 7 1 Jc,.canon [0,4,7,8]] | _=>[],Zkz,fun N=>[(115,Z6 N),(164,Zr0 N)]⟩
def Zv0 (n10:Int) (b11:List Int × Int × Int) (l12:List Ka) (l13:List Ko):St:=⟨[(0,vP 0 0),(4,vP 1 0),(7,vP 2 0),(8,vI n10)],[(0,.box [.val Jo b11.1,.val Ja b11.2.1,.val Ja b11.2.2]),(1,.box [.nils,.nils]),(2,.box [.own 3,.own 4]),(3,.arr Jy l12),(4,.arr Jc l13)],5⟩
def Zts (l12:List Ka) (n16:Int) (t17:Bool) (b18:List Int × Int × Int) (l19:List Ko):St:=⟨[(0,vP 0 0),(4,vP 1 0),(7,vP 2 0),(8,vI n16),(38,vB t17)],[(0,.box [.val Jo b18.1,.val Ja b18.2.1,.val Ja b18.2.2]),(1,.box [.nils,.nils]),(2,.box [.own 3,.own 4]),(3,.arr Jy l12),(4,.arr Jc l19)],5⟩
theorem Zv1 (N:Nat) {R:Type} (K:Ex → St → Option R) {l12:List Ka} {K0:Int → Bool → Ke → (List Ko) → Option R} (h0:K0 = fun n16 t17 b18 l19=>K (.exit 0) (Zts l12 n16 t17 b18 l19)) (n:Nat) (n10:Int) (b11:List Int × Int × Int) (l13:List Ko):Zfz N l12 K0 n n10 b11 l13 = LM Zk0 N 0 100007 n (Zv0 n10 b11 l12 l13) K:=by
  subst h0
  induction n generalizing n10 b11 l13 with
  | zero=>kernel_rfl
  | succ n ih=>rw [Zfz]; simp (disch:=exact id (by kernel_rfl)) only [ih]; kernel_rfl
theorem Zqu:Wc Tryz.prog 194:=Wb Tryz.func194 (show Wg Tryz.f194 = true by kernel_rfl)
theorem Z2n (N:Nat) (c1:List Int × Int × Int) (forks2:Bool):DN Zk0 N (c1,forks2,()) = Zcc N c1 forks2:=by
  have h:Zcc N c1 forks2 = Zcc N c1 forks2:=rfl
  conv at h=>rhs; rw [Zcc]
  simp (disch:=exact id (by kernel_rfl)) only [Zv1 (R:=Km × (Kk × Unit)) N (CF Zk0 N [1,1,1,1,1,0,1,0])] at h
  exact Eq.trans (by kernel_rfl) h.symm
theorem Zqv (N:Nat):Good Tryz.prog 194 (Zkz N):=GF Zk0 N Tryz.func194 (Wa (Zae N) Zad (Wa (Z3z N) Zr1 We)) (by kernel_rfl) (fun d=>Z2n N d.1 d.2.1)
def Zm8 (N:Nat):Sig:=Sig.of [.box Jk,.v Ja false,.v Ja false] [.v (.own Jl) false] (fun d=>Zda N d.1 d.2.1 d.2.2.1)
def Zjo:Fn:=⟨Tryz.f195,fun | 4=>[.canon [0,1,2,7,8,9,14]] | 5=>[.canon [0,1,2,7,8,9]] | 6=>[.canon [0,1,2,7,8,9,18]] | 7=>[.canon [0,1,2,7,8,9]] | 8=>[.canon [0,1,2,7,8,9,10]] | 9=>[.canon [0,1,2,7,8,9,10,25]] | 10=>[.canon [0,1,2,7,8,9,10]] | 11=>[.canon [0,1,2,7,8,9,10]] | 12=>[.canon [0,1,2,7,8,9,10,31]] | 13=>[.canon [0,1,2,7,8,9,10]] | 14=>[.canon [0,1,2,7,8,9,10,35]] | 15=>[.canon [0,1,2,7,8,9,10]] | 16=>[.canon [0,1,2,7,8,9]] | 100004=>[.canon [0,1,2,7,8,9]] | _=>[],Zm8,fun N=>[(166,Zb5 N),(115,Z6 N)]⟩
def Ztt (n4:Int) (most5:Int) (who6:Int) (i7:Int) (b8:List Int × Int × Int) (l9:List Kb):St:=⟨[(0,vP 0 0),(1,vI n4),(2,vI most5),(7,vO 1),(8,vI who6),(9,vI i7)],[(0,.box [.val Jo b8.1,.val Ja b8.2.1,.val Ja b8.2.2]),(1,.arr Jl l9)],2⟩
def Zr2 (n4:Int) (most5:Int) (who24:Int) (i25:Int) (t26:Bool) (b27:List Int × Int × Int) (l28:List Kb):St:=⟨[(0,vP 0 0),(1,vI n4),(2,vI most5),(7,vO 1),(8,vI who24),(9,vI i25),(14,vB t26)],[(0,.box [.val Jo b27.1,.val Ja b27.2.1,.val Ja b27.2.2]),(1,.arr Jl l28)],2⟩
theorem Ztu (N:Nat) {R:Type} (K:Ex → St → Option R) {n4:Int} {most5:Int} {K0:Int → Int → Bool → Ke → Kn → Option R} (h0:K0 = fun who24 i25 t26 b27 l28=>K (.exit 0) (Zr2 n4 most5 who24 i25 t26 b27 l28)) (n:Nat) (who6:Int) (i7:Int) (b8:List Int × Int × Int) (l9:List Kb):Zz N n4 most5 K0 n who6 i7 b8 l9 = LM Zjo N 0 100004 n (Ztt n4 most5 who6 i7 b8 l9) K:=by
  subst h0
  induction n generalizing who6 i7 b8 l9 with
  | zero=>kernel_rfl
  | succ n ih=>rw [Zz]; simp (disch:=exact id (by kernel_rfl)) only [ih]; kernel_rfl
theorem Z0r:Wc Tryz.prog 195:=Wb Tryz.func195 (show Wg Tryz.f195 = true by kernel_rfl)
theorem Z0s (N:Nat) (c1:List Int × Int × Int) (n2:Int) (most3:Int):DN Zjo N (c1,n2,most3,()) = Zda N c1 n2 most3:=by
  have h:Zda N c1 n2 most3 = Zda N c1 n2 most3:=rfl
  conv at h=>rhs; rw [Zda]
  simp (disch:=exact id (by kernel_rfl)) only [Ztu (R:=Km × (Kn × Unit)) N (CF Zjo N [1,1,1,0,1,0])] at h
  exact Eq.trans (by kernel_rfl) h.symm
theorem Z0t (N:Nat):Good Tryz.prog 195 (Zm8 N):=GF Zjo N Tryz.func195 (Wa (Zdt N) Zds (Wa (Zae N) Zad We)) (by kernel_rfl) (fun d=>Z0s N d.1 d.2.1 d.2.2.1)
def Zlm (N:Nat):Sig:=Sig.of [.box Jk,.v Ja false,.v Ja false] [.v (.prod (.prod Jac Jq) (.prod (.own Jn) (.own Jl))) true] (fun d=>Zc0 N d.1 d.2.1 d.2.2.1)
def Zih:Fn:=⟨Tryz.f148,fun | 4=>[.canon [0,1,2,6,7,8,9,18]] | 5=>[.canon [0,1,2,6,7,8,9]] | 6=>[.canon [0,1,2,6,7,8,9]] | 100004=>[.adoptC 7 3 Jn,.canon [0,1,2,6,7,8,9]] | _=>[],Zlm,fun N=>[(193,Ziu N),(115,Z6 N),(194,Zkz N),(166,Zb5 N),(195,Zm8 N)]⟩
def Zq5 (how6:Int) (most7:Int) (n8:Int) (i9:Int) (b10:List Int × Int × Int) (b12:Int) (l13:List Int) (l14:List Int) (l15:List Kk):St:=⟨[(0,vP 0 0),(1,vI how6),(2,vI most7),(6,vP 1 0),(7,vP 2 0),(8,vI n8),(9,vI i9)],[(0,.box [.val Jo b10.1,.val Ja b10.2.1,.val Ja b10.2.2]),(1,.box [.nils,.nils,.val Ja (0:Int),.nils,.nils]),(2,.box [.own 3,.own 4,.val Ja b12,.own 5,.nils]),(3,.arr Ja l13),(4,.arr Ja l14),(5,.arr Jn l15)],6⟩
def Zqd (how6:Int) (most7:Int) (n8:Int) (b12:Int) (l13:List Int) (l14:List Int) (i24:Int) (t25:Bool) (b26:List Int × Int × Int) (l27:List Kk):St:=⟨[(0,vP 0 0),(1,vI how6),(2,vI most7),(6,vP 1 0),(7,vP 2 0),(8,vI n8),(9,vI i24),(18,vB t25)],[(0,.box [.val Jo b26.1,.val Ja b26.2.1,.val Ja b26.2.2]),(1,.box [.nils,.nils,.val Ja (0:Int),.nils,.nils]),(2,.box [.own 3,.own 4,.val Ja b12,.own 5,.nils]),(3,.arr Ja l13),(4,.arr Ja l14),(5,.arr Jn l27)],6⟩
theorem Zq6 (N:Nat) {R:Type} (K:Ex → St → Option R) {how6:Int} {most7:Int} {n8:Int} {b12:Int} {l13:List Int} {l14:List Int} {K0:Int → Bool → Ke → (List Kk) → Option R} (h0:K0 = fun i24 t25 b26 l27=>K (.exit 0) (Zqd how6 most7 n8 b12 l13 l14 i24 t25 b26 l27)) (n:Nat) (i9:Int) (b10:List Int × Int × Int) (l15:List Kk):Zbl N how6 most7 n8 b12 l13 l14 K0 n i9 b10 l15 = LM Zih N 0 100004 n (Zq5 how6 most7 n8 i9 b10 b12 l13 l14 l15) K:=by
  subst h0
  induction n generalizing i9 b10 l15 with
  | zero=>kernel_rfl
  | succ n ih=>rw [Zbl]; simp (disch:=exact id (by kernel_rfl)) only [ih]; kernel_rfl
theorem Zxz:Wc Tryz.prog 148:=Wb Tryz.func148 (show Wg Tryz.f148 = true by kernel_rfl)
theorem Zx0 (N:Nat) (c1:List Int × Int × Int) (how2:Int) (most3:Int):DN Zih N (c1,how2,most3,()) = Zc0 N c1 how2 most3:=by
  have h:Zc0 N c1 how2 most3 = Zc0 N c1 how2 most3:=rfl
  conv at h=>rhs; rw [Zc0]
  simp (disch:=exact id (by kernel_rfl)) only [Zq6 (R:=Km × ((Kg × List Kk × List Kb) × Unit)) N (CF Zih N [1,1,1,0,1,0])] at h
  exact Eq.trans (by kernel_rfl) h.symm
theorem Zx1 (N:Nat):Good Tryz.prog 148 (Zlm N):=GF Zih N Tryz.func148 (Wa (Zpj N) Zpi (Wa (Zae N) Zad (Wa (Zqv N) Zqu (Wa (Zdt N) Zds (Wa (Z0t N) Z0r We))))) (by kernel_rfl) (fun d=>Zx0 N d.1 d.2.1 d.2.2.1)
def Zjp (N:Nat):Sig:=Sig.of [.box Jk] [.v (.prod Jac Jq) true] (fun d=>Zib N d.1)
def Ztv:Fn:=⟨Tryz.f149,Wz,Zjp,fun N=>[(193,Ziu N),(115,Z6 N)]⟩
theorem Ztw:Wc Tryz.prog 149:=Wb Tryz.func149 (show Wg Tryz.f149 = true by kernel_rfl)
theorem Ztx (N:Nat):Good Tryz.prog 149 (Zjp N):=GF Ztv N Tryz.func149 (Wa (Zpj N) Zpi (Wa (Zae N) Zad We)) (by kernel_rfl) (fun d=>by kernel_rfl)
def Zop (N:Nat):Sig:=Sig.of [.box Jk] [.v Jy true] (fun d=>Znu N d.1)
def Z30:Fn:=⟨Tryz.f169,Wz,Zop,fun N=>[(115,Z6 N),(216,Zjn N),(215,Zgx N)]⟩
theorem Z31:Wc Tryz.prog 169:=Wb Tryz.func169 (show Wg Tryz.f169 = true by kernel_rfl)
theorem Z32 (N:Nat):Good Tryz.prog 169 (Zop N):=GF Z30 N Tryz.func169 (Wa (Zae N) Zad (Wa (Zp0 N) Zpz (Wa (Zlj N) Zli We))) (by kernel_rfl) (fun d=>by kernel_rfl)
def Zn0 (N:Nat):Sig:=Sig.of [.box Jk,.v Jc false] [.v (.own Jy) false] (fun d=>Zd9 N d.1 d.2.1)
def Zk1:Fn:=⟨Tryz.f116,fun | 12=>[.view 49,.view 45] | 14=>[.canon [0,5,58]] | 15=>[.canon [0,5]] | 100014=>[.canon [0,5]] | _=>[],Zn0,fun N=>[(115,Z6 N),(169,Zop N)]⟩
def Zv2 (b6:List Int × Int × Int) (l7:List Ka):St:=⟨[(0,vP 0 0),(5,vO 1)],[(0,.box [.val Jo b6.1,.val Ja b6.2.1,.val Ja b6.2.2]),(1,.arr Jy l7)],2⟩
def Zty (t9:Bool) (b10:List Int × Int × Int) (l11:List Ka):St:=⟨[(0,vP 0 0),(5,vO 1),(58,vB t9)],[(0,.box [.val Jo b10.1,.val Ja b10.2.1,.val Ja b10.2.2]),(1,.arr Jy l11)],2⟩
theorem Zv3 (N:Nat) {R:Type} (K:Ex → St → Option R) {K0:Bool → Ke → Ko → Option R} (h0:K0 = fun t9 b10 l11=>K (.exit 1) (Zty t9 b10 l11)) (n:Nat) (b6:List Int × Int × Int) (l7:List Ka):Zf0 N K0 n b6 l7 = LM Zk1 N 0 100014 n (Zv2 b6 l7) K:=by
  subst h0
  induction n generalizing b6 l7 with
  | zero=>kernel_rfl
  | succ n ih=>rw [Zf0]; simp (disch:=exact id (by kernel_rfl)) only [ih]; kernel_rfl
theorem Z2o:Wc Tryz.prog 116:=Wb Tryz.func116 (show Wg Tryz.f116 = true by kernel_rfl)
theorem Z2p (N:Nat) (c1:List Int × Int × Int) (code2:List Ka):DN Zk1 N (c1,code2,()) = Zd9 N c1 code2:=by
  have h:Zd9 N c1 code2 = Zd9 N c1 code2:=rfl
  conv at h=>rhs; rw [Zd9]
  simp (disch:=exact id (by kernel_rfl)) only [Zv3 (R:=Km × (Ko × Unit)) N (CF Zk1 N [1,1,1,1,0,1,0,1,1,1,1,1,1,1,0,0])] at h
  exact Eq.trans (by kernel_rfl) h.symm
theorem Z2q (N:Nat):Good Tryz.prog 116 (Zn0 N):=GF Zk1 N Tryz.func116 (Wa (Zae N) Zad (Wa (Z32 N) Z31 We)) (by kernel_rfl) (fun d=>Z2p N d.1 d.2.1)
def Zln (N:Nat):Sig:=Sig.of [.box Jk] [.v (.prod (.own Jy) (.own Jc)) true] (fun d=>Zjk N d.1)
def Zx2:Fn:=⟨Tryz.f150,Wz,Zln,fun N=>[(166,Zb5 N),(194,Zkz N),(115,Z6 N),(116,Zn0 N)]⟩
theorem Zx3:Wc Tryz.prog 150:=Wb Tryz.func150 (show Wg Tryz.f150 = true by kernel_rfl)
theorem Zx4 (N:Nat):Good Tryz.prog 150 (Zln N):=GF Zx2 N Tryz.func150 (Wa (Zdt N) Zds (Wa (Zqv N) Zqu (Wa (Zae N) Zad (Wa (Z2q N) Z2o We)))) (by kernel_rfl) (fun d=>by kernel_rfl)
def Zn1 (N:Nat):Sig:=Sig.of [.box Jk,.v Ja false] [.v (.prod (.prod Jac Jq) (.prod (.own Jn) (.own Jl))) true] (fun d=>Zgb N d.1 d.2.1)
def Zg3:Fn:=⟨Tryz.f102,fun | 8=>[.canon [0,4,5,28]] | 9=>[.canon [0,4,5]] | 13=>[.canon [0,4,5,55]] | 14=>[.canon [0,4,5]] | 100008=>[.canon [0,4,5]] | 100013=>[.canon [0,4,5]] | _=>[],Zn1,fun N=>[(148,Zlm N),(115,Z6 N),(149,Zjp N),(150,Zln N)]⟩
def Zv4 (b7:List Int × Int × Int) (b9:Int) (l10:List Int) (l11:List Int) (l12:List Kk) (l13:List Kb):St:=⟨[(0,vP 0 0),(4,vP 1 0),(5,vP 2 0)],[(0,.box [.val Jo b7.1,.val Ja b7.2.1,.val Ja b7.2.2]),(1,.box [.nils,.nils,.val Ja (0:Int),.nils,.nils]),(2,.box [.own 3,.own 4,.val Ja b9,.own 5,.own 6]),(3,.arr Ja l10),(4,.arr Ja l11),(5,.arr Jn l12),(6,.arr Jl l13)],7⟩
def Ztz (b7:List Int × Int × Int) (b9:Int) (l10:List Int) (l11:List Int) (l13:List Kb) (t14:Bool) (l15:List Kk):St:=⟨[(0,vP 0 0),(4,vP 1 0),(5,vP 2 0),(28,vB t14)],[(0,.box [.val Jo b7.1,.val Ja b7.2.1,.val Ja b7.2.2]),(1,.box [.nils,.nils,.val Ja (0:Int),.nils,.nils]),(2,.box [.own 3,.own 4,.val Ja b9,.own 5,.own 6]),(3,.arr Ja l10),(4,.arr Ja l11),(5,.arr Jn l15),(6,.arr Jl l13)],7⟩
theorem Zv5 (N:Nat) {R:Type} (K:Ex → St → Option R) {b7:List Int × Int × Int} {b9:Int} {l10:List Int} {l11:List Int} {l13:List Kb} {K0:Bool → (List Kk) → Option R} (h0:K0 = fun t14 l15=>K (.exit 1) (Ztz b7 b9 l10 l11 l13 t14 l15)) (n:Nat) (l12:List Kk):Zf1 N b7 b9 l10 l11 l13 K0 n l12 = LM Zg3 N 0 100008 n (Zv4 b7 b9 l10 l11 l12 l13) K:=by
  subst h0
  induction n generalizing l12 with
  | zero=>kernel_rfl
  | succ n ih=>rw [Zf1]; simp (disch:=exact id (by kernel_rfl)) only [ih]; kernel_rfl
def Zv6 (b18:List Int × Int × Int) (b20:Int) (l21:List Int) (l22:List Int) (l23:List Kk) (l24:List Kb):St:=⟨[(0,vP 0 0),(4,vP 1 0),(5,vP 2 0)],[(0,.box [.val Jo b18.1,.val Ja b18.2.1,.val Ja b18.2.2]),(1,.box [.nils,.nils,.val Ja (0:Int),.nils,.nils]),(2,.box [.own 3,.own 4,.val Ja b20,.own 5,.own 6]),(3,.arr Ja l21),(4,.arr Ja l22),(5,.arr Jn l23),(6,.arr Jl l24)],7⟩
def Zt0 (b20:Int) (l21:List Int) (l22:List Int) (l23:List Kk) (t27:Bool) (b28:List Int × Int × Int) (l29:List Kb):St:=⟨[(0,vP 0 0),(4,vP 1 0),(5,vP 2 0),(55,vB t27)],[(0,.box [.val Jo b28.1,.val Ja b28.2.1,.val Ja b28.2.2]),(1,.box [.nils,.nils,.val Ja (0:Int),.nils,.nils]),(2,.box [.own 3,.own 4,.val Ja b20,.own 5,.own 6]),(3,.arr Ja l21),(4,.arr Ja l22),(5,.arr Jn l23),(6,.arr Jl l29)],7⟩
theorem Zv7 (N:Nat) {R:Type} (K:Ex → St → Option R) {b20:Int} {l21:List Int} {l22:List Int} {l23:List Kk} {K0:Bool → Ke → Kn → Option R} (h0:K0 = fun t27 b28 l29=>K (.exit 3) (Zt0 b20 l21 l22 l23 t27 b28 l29)) (n:Nat) (b18:List Int × Int × Int) (l24:List Kb):Zf2 N b20 l21 l22 l23 K0 n b18 l24 = LM Zg3 N 1 100013 n (Zv6 b18 b20 l21 l22 l23 l24) K:=by
  subst h0
  induction n generalizing b18 l24 with
  | zero=>kernel_rfl
  | succ n ih=>rw [Zf2]; simp (disch:=exact id (by kernel_rfl)) only [ih]; kernel_rfl
theorem Z2r:Wc Tryz.prog 102:=Wb Tryz.func102 (show Wg Tryz.f102 = true by kernel_rfl)
theorem Z2s (N:Nat) (c1:List Int × Int × Int) (most2:Int):DN Zg3 N (c1,most2,()) = Zgb N c1 most2:=by
  have h:Zgb N c1 most2 = Zgb N c1 most2:=rfl
  conv at h=>rhs; rw [Zgb]
  simp (disch:=exact id (by kernel_rfl)) only [Zv5 (R:=Km × ((Kg × List Kk × List Kb) × Unit)) N (CF Zg3 N [1,1,0,1,0,1,1,1,1,1,0,0]),Zv7 (R:=Km × ((Kg × List Kk × List Kb) × Unit)) N (CF Zg3 N [1,1,0,1,0,1,1,1,1,1,1,1,1,1,0,0])] at h
  exact Eq.trans (by kernel_rfl) h.symm
theorem Z2t (N:Nat):Good Tryz.prog 102 (Zn1 N):=GF Zg3 N Tryz.func102 (Wa (Zx1 N) Zxz (Wa (Zae N) Zad (Wa (Ztx N) Ztw (Wa (Zx4 N) Zx3 We)))) (by kernel_rfl) (fun d=>Z2s N d.1 d.2.1)
def Zmh (N:Nat):Sig:=Sig.of [.v Jo false] [.v Jaa true] (fun d=>Zku N d.1)
def Zzi:Fn:=⟨Tryz.f38,Wz,Zmh,fun N=>[(50,Zoo N),(110,Znw N),(102,Zn1 N)]⟩
theorem Zzj:Wc Tryz.prog 38:=Wb Tryz.func38 (show Wg Tryz.f38 = true by kernel_rfl)
theorem Zzk (N:Nat):Good Tryz.prog 38 (Zmh N):=GF Zzi N Tryz.func38 (Wa (Z3x N) Z3v (Wa (Z2h N) Z2g (Wa (Z2t N) Z2r We))) (by kernel_rfl) (fun d=>by kernel_rfl)
def Zg8 (N:Nat):Sig:=Sig.of [.v Ja false,.v Ja false,.v Ja false] [.v Jp false] (fun d=>Zbp N d.1 d.2.1 d.2.2.1)
def Z4p:Fn:=⟨Tryz.f61,Wz,Zg8,Wci⟩
theorem Zkh:Wc Tryz.prog 61:=Wb Tryz.func61 (show Wg Tryz.f61 = true by kernel_rfl)
theorem Zki (N:Nat):Good Tryz.prog 61 (Zg8 N):=GF Z4p N Tryz.func61 We (by kernel_rfl) (fun d=>by kernel_rfl)
def Zja (N:Nat):Sig:=Sig.of [.v Ja false] [.v Jp false] (fun d=>Zhl N d.1)
def Z33:Fn:=⟨Tryz.f112,Wz,Zja,fun N=>[(61,Zg8 N)]⟩
theorem Zoq:Wc Tryz.prog 112:=Wb Tryz.func112 (show Wg Tryz.f112 = true by kernel_rfl)
theorem Zor (N:Nat):Good Tryz.prog 112 (Zja N):=GF Z33 N Tryz.func112 (Wa (Zki N) Zkh We) (by kernel_rfl) (fun d=>by kernel_rfl)
def Zn2 (N:Nat):Sig:=Sig.of [.v Jj false] [.v Jp false] (fun d=>Zf8 N d.1)
def Zk2:Fn:=⟨Tryz.f58,fun | 4=>[.canon [0,3,10]] | 5=>[.canon [0,3]] | 6=>[.canon [0,3,18]] | 7=>[.canon [2]] | 100004=>[.canon [0,3]] | _=>[],Zn2,fun N=>[(112,Zja N)]⟩
def Zv8 (l2:List Int) (i3:Int):St:=⟨[(0,vV Jj l2),(3,vI i3)],[],0⟩
def Zt1 (l2:List Int):St:=⟨[(2,vB false)],[],0⟩
def Zt2 (l2:List Int) (i5:Int) (t6:Bool):St:=⟨[(0,vV Jj l2),(3,vI i5),(10,vB t6)],[],0⟩
theorem Zv9 (N:Nat) {R:Type} (K:Ex → St → Option R) {l2:List Int} {K0:Option R} {K1:Int → Bool → Option R} (h0:K0 = K .ret (Zt1 l2)) (h1:K1 = fun i5 t6=>K (.exit 0) (Zt2 l2 i5 t6)) (n:Nat) (i3:Int):Zdg N l2 K0 K1 n i3 = LM Zk2 N 0 100004 n (Zv8 l2 i3) K:=by
  subst h0 h1
  induction n generalizing i3 with
  | zero=>kernel_rfl
  | succ n ih=>rw [Zdg]; simp (disch:=exact id (by kernel_rfl)) only [ih]; kernel_rfl
theorem Z2u:Wc Tryz.prog 58:=Wb Tryz.func58 (show Wg Tryz.f58 = true by kernel_rfl)
theorem Z2v (N:Nat) (l1:List Int):DN Zk2 N (l1,()) = Zf8 N l1:=by
  have h:Zf8 N l1 = Zf8 N l1:=rfl
  conv at h=>rhs; rw [Zf8]
  simp (disch:=exact id (by kernel_rfl)) only [Zv9 (R:=Unit × Kf) N (CF Zk2 N [1,1,0,1,0])] at h
  exact Eq.trans (by kernel_rfl) h.symm
theorem Z2w (N:Nat):Good Tryz.prog 58 (Zn2 N):=GF Zk2 N Tryz.func58 (Wa (Zor N) Zoq We) (by kernel_rfl) (fun d=>Z2v N d.1)
def Zmi (N:Nat):Sig:=Sig.of [.v Jt true] [.v Jp false] (fun d=>Zdo N d.1)
def Ziw:Fn:=⟨Tryz.f105,fun | 4=>[.canon [1,3,24]] | 5=>[.canon [1,3]] | 6=>[.canon [1,3,33]] | 7=>[.canon [2]] | 100004=>[.canon [1,3]] | _=>[],Zmi,fun N=>[(58,Zn2 N),(112,Zja N),(61,Zg8 N)]⟩
def Zr3 (i4:Int) (b5:List Int × List Int × Int):St:=⟨[(1,vP 0 0),(3,vI i4)],[(0,.box [.val Jj b5.1,.val Jj b5.2.1,.val Ja b5.2.2])],1⟩
def Zq7 (b5:List Int × List Int × Int):St:=⟨[(2,vB false)],[],0⟩
def Zq8 (b5:List Int × List Int × Int) (i7:Int) (t8:Bool):St:=⟨[(1,vP 0 0),(3,vI i7),(24,vB t8)],[(0,.box [.val Jj b5.1,.val Jj b5.2.1,.val Ja b5.2.2])],1⟩
theorem Zr4 (N:Nat) {R:Type} (K:Ex → St → Option R) {b5:List Int × List Int × Int} {K0:Option R} {K1:Int → Bool → Option R} (h0:K0 = K .ret (Zq7 b5)) (h1:K1 = fun i7 t8=>K (.exit 0) (Zq8 b5 i7 t8)) (n:Nat) (i4:Int):Zbu N b5 K0 K1 n i4 = LM Ziw N 0 100004 n (Zr3 i4 b5) K:=by
  subst h0 h1
  induction n generalizing i4 with
  | zero=>kernel_rfl
  | succ n ih=>rw [Zbu]; simp (disch:=exact id (by kernel_rfl)) only [ih]; kernel_rfl
theorem Zzl:Wc Tryz.prog 105:=Wb Tryz.func105 (show Wg Tryz.f105 = true by kernel_rfl)
theorem Zzm (N:Nat) (s1:List Int × List Int × Int):DN Ziw N (s1,()) = Zdo N s1:=by
  have h:Zdo N s1 = Zdo N s1:=rfl
  conv at h=>rhs; rw [Zdo]
  simp (disch:=exact id (by kernel_rfl)) only [Zr4 (R:=Unit × Kf) N (CF Ziw N [1,1,0,1,0])] at h
  exact Eq.trans (by kernel_rfl) h.symm
theorem Zzn (N:Nat):Good Tryz.prog 105 (Zmi N):=GF Ziw N Tryz.func105 (Wa (Z2w N) Z2u (Wa (Zor N) Zoq (Wa (Zki N) Zkh We))) (by kernel_rfl) (fun d=>Zzm N d.1)
def Zos (N:Nat):Sig:=Sig.of [.v Ja false] [.v Jp false] (fun d=>Zu N d.1)
def Z34:Fn:=⟨Tryz.f226,Wz,Zos,fun N=>[(61,Zg8 N)]⟩
theorem Z35:Wc Tryz.prog 226:=Wb Tryz.func226 (show Wg Tryz.f226 = true by kernel_rfl)
theorem Z36 (N:Nat):Good Tryz.prog 226 (Zos N):=GF Z34 N Tryz.func226 (Wa (Zki N) Zkh We) (by kernel_rfl) (fun d=>by kernel_rfl)
def Zn3 (N:Nat):Sig:=Sig.of [.v Ja false] [.v Jp false] (fun d=>Zg6 N d.1)
def Z2x:Fn:=⟨Tryz.f64,Wz,Zn3,fun N=>[(61,Zg8 N)]⟩
theorem Z2y:Wc Tryz.prog 64:=Wb Tryz.func64 (show Wg Tryz.f64 = true by kernel_rfl)
theorem Z2z (N:Nat):Good Tryz.prog 64 (Zn3 N):=GF Z2x N Tryz.func64 (Wa (Zki N) Zkh We) (by kernel_rfl) (fun d=>by kernel_rfl)
def Zmz (N:Nat):Sig:=Sig.of [.v Jy true] [.v Jp false] (fun d=>Zt N d.1)
def Z4q:Fn:=⟨Tryz.f180,Wz,Zmz,fun N=>[(226,Zos N),(112,Zja N),(64,Zn3 N),(61,Zg8 N)]⟩
theorem Zvo:Wc Tryz.prog 180:=Wb Tryz.func180 (show Wg Tryz.f180 = true by kernel_rfl)
theorem Zvp (N:Nat):Good Tryz.prog 180 (Zmz N):=GF Z4q N Tryz.func180 (Wa (Z36 N) Z35 (Wa (Zor N) Zoq (Wa (Z2z N) Z2y (Wa (Zki N) Zkh We)))) (by kernel_rfl) (fun d=>by kernel_rfl)
def Zn4 (N:Nat):Sig:=Sig.of [.v Jc false,.v Ja false] [.v Jp false] (fun d=>Zf9 N d.1 d.2.1)
def Zk3:Fn:=⟨Tryz.f181,fun | 6=>[.canon [0,5,6,7,24]] | 7=>[.canon [0,5,6,7]] | 8=>[.canon [0,5,6,7,32]] | 9=>[.canon [0,5,6,7]] | 10=>[.canon [0,5,6,7,40]] | 11=>[.canon [0,5,6,7]] | 12=>[.canon [0,5,6,7,44]] | 13=>[.canon [4]] | 100006=>[.canon [0,5,6,7]] | _=>[],Zn4,Wci⟩
def Zwa (code3:List Ka) (to4:Int) (d5:Int) (k6:Int):St:=⟨[(0,vV Jc code3),(5,vI to4),(6,vI d5),(7,vI k6)],[],0⟩
def Zt3 (code3:List Ka) (to4:Int):St:=⟨[(4,vB false)],[],0⟩
def Zt4 (code3:List Ka) (to4:Int) (d7:Int) (k8:Int) (t9:Bool):St:=⟨[(0,vV Jc code3),(5,vI to4),(6,vI d7),(7,vI k8),(24,vB t9)],[],0⟩
theorem Zwb (N:Nat) {R:Type} (K:Ex → St → Option R) {code3:List Ka} {to4:Int} {K0:Option R} {K1:Int → Int → Bool → Option R} (h0:K0 = K .ret (Zt3 code3 to4)) (h1:K1 = fun d7 k8 t9=>K (.exit 0) (Zt4 code3 to4 d7 k8 t9)) (n:Nat) (d5:Int) (k6:Int):Za9 N code3 to4 K0 K1 n d5 k6 = LM Zk3 N 0 100006 n (Zwa code3 to4 d5 k6) K:=by
  subst h0 h1
  induction n generalizing d5 k6 with
  | zero=>kernel_rfl
  | succ n ih=>rw [Za9]; simp (disch:=exact id (by kernel_rfl)) only [ih]; kernel_rfl
theorem Z20:Wc Tryz.prog 181:=Wb Tryz.func181 (show Wg Tryz.f181 = true by kernel_rfl)
theorem Z21 (N:Nat) (code1:List Ka) (i2:Int):DN Zk3 N (code1,i2,()) = Zf9 N code1 i2:=by
  have h:Zf9 N code1 i2 = Zf9 N code1 i2:=rfl
  conv at h=>rhs; rw [Zf9]
  simp (disch:=exact id (by kernel_rfl)) only [Zwb (R:=Unit × Kf) N (CF Zk3 N [1,1,1,1,0,1,0])] at h
  exact Eq.trans (by kernel_rfl) h.symm
theorem Z22 (N:Nat):Good Tryz.prog 181 (Zn4 N):=GF Zk3 N Tryz.func181 We (by kernel_rfl) (fun d=>Z21 N d.1 d.2.1)
def Zk4 (N:Nat):Sig:=Sig.of [.v Jc false] [.v Jp false] (fun d=>Zd7 N d.1)
def Zk5:Fn:=⟨Tryz.f125,fun | 6=>[.canon [0,3,4,5,12]] | 7=>[.canon [0,3,4,5]] | 8=>[.canon [0,3,4,5,20]] | 9=>[.canon [2]] | 10=>[.canon [0,3,4,5,25]] | 11=>[.canon [0,3,4,5,25,26]] | 12=>[.canon [0,3,4,5]] | 13=>[.canon [0,3,4,5,25,30]] | 14=>[.canon [0,3,4,5]] | 15=>[.canon [0,3,4,5,25,34]] | 16=>[.canon [0,3,4,5,39]] | 17=>[.canon [2]] | 18=>[.canon [0,3,4,5,40]] | 19=>[.canon [0,3,4,5]] | 20=>[.canon [0,3,4,5,49]] | 21=>[.canon [2]] | 22=>[.canon [0,3,4,5,51]] | 23=>[.canon [2]] | 100006=>[.canon [0,3,4,5]] | _=>[],Zk4,fun N=>[(180,Zmz N),(181,Zn4 N)]⟩
def Zwc (code2:List Ka) (d3:Int) (forks4:Int) (i5:Int):St:=⟨[(0,vV Jc code2),(3,vI d3),(4,vI forks4),(5,vI i5)],[],0⟩
def Zt5 (code2:List Ka):St:=⟨[(2,vB false)],[],0⟩
def Zt6 (code2:List Ka) (d8:Int) (forks9:Int) (i10:Int) (t11:Bool):St:=⟨[(0,vV Jc code2),(3,vI d8),(4,vI forks9),(5,vI i10),(12,vB t11)],[],0⟩
theorem Zwd (N:Nat) {R:Type} (K:Ex → St → Option R) {code2:List Ka} {K0:Option R} {K1:Int → Int → Int → Bool → Option R} (h0:K0 = K .ret (Zt5 code2)) (h1:K1 = fun d8 forks9 i10 t11=>K (.exit 0) (Zt6 code2 d8 forks9 i10 t11)) (n:Nat) (d3:Int) (forks4:Int) (i5:Int):Zba N code2 K0 K1 n d3 forks4 i5 = LM Zk5 N 0 100006 n (Zwc code2 d3 forks4 i5) K:=by
  subst h0 h1
  induction n generalizing d3 forks4 i5 with
  | zero=>kernel_rfl
  | succ n ih=>rw [Zba]; simp (disch:=exact id (by kernel_rfl)) only [ih]; kernel_rfl
theorem Zqw:Wc Tryz.prog 125:=Wb Tryz.func125 (show Wg Tryz.f125 = true by kernel_rfl)
theorem Z23 (N:Nat) (code1:List Ka):DN Zk5 N (code1,()) = Zd7 N code1:=by
  have h:Zd7 N code1 = Zd7 N code1:=rfl
  conv at h=>rhs; rw [Zd7]
  simp (disch:=exact id (by kernel_rfl)) only [Zwd (R:=Unit × Kf) N (CF Zk5 N [1,1,1,1,0,1,0])] at h
  exact Eq.trans (by kernel_rfl) h.symm
theorem Zqx (N:Nat):Good Tryz.prog 125 (Zk4 N):=GF Zk5 N Tryz.func125 (Wa (Zvp N) Zvo (Wa (Z22 N) Z20 We)) (by kernel_rfl) (fun d=>Z23 N d.1)
def Zjq (N:Nat):Sig:=Sig.of [.v Jc false] [.v Jp false] (fun d=>Zc9 N d.1)
def Zjr:Fn:=⟨Tryz.f126,fun | 2=>[.canon [0,3,7]] | 3=>[.canon [0,3]] | 4=>[.canon [0,3,15]] | 5=>[.canon [2]] | 100002=>[.canon [0,3]] | _=>[],Zjq,Wci⟩
def Zt7 (code2:List Ka) (i3:Int):St:=⟨[(0,vV Jc code2),(3,vI i3)],[],0⟩
def Zr5 (code2:List Ka):St:=⟨[(2,vB true)],[],0⟩
def Zr6 (code2:List Ka) (i4:Int) (t5:Bool):St:=⟨[(0,vV Jc code2),(3,vI i4),(7,vB t5)],[],0⟩
theorem Zt8 (N:Nat) {R:Type} (K:Ex → St → Option R) {code2:List Ka} {K0:Option R} {K1:Int → Bool → Option R} (h0:K0 = K .ret (Zr5 code2)) (h1:K1 = fun i4 t5=>K (.exit 0) (Zr6 code2 i4 t5)) (n:Nat) (i3:Int):Zcy N code2 K0 K1 n i3 = LM Zjr N 0 100002 n (Zt7 code2 i3) K:=by
  subst h0 h1
  induction n generalizing i3 with
  | zero=>kernel_rfl
  | succ n ih=>rw [Zcy]; simp (disch:=exact id (by kernel_rfl)) only [ih]; kernel_rfl
theorem Zp1:Wc Tryz.prog 126:=Wb Tryz.func126 (show Wg Tryz.f126 = true by kernel_rfl)
theorem Z0u (N:Nat) (code1:List Ka):DN Zjr N (code1,()) = Zc9 N code1:=by
  have h:Zc9 N code1 = Zc9 N code1:=rfl
  conv at h=>rhs; rw [Zc9]
  simp (disch:=exact id (by kernel_rfl)) only [Zt8 (R:=Unit × Kf) N (CF Zjr N [1,0,1,0])] at h
  exact Eq.trans (by kernel_rfl) h.symm
theorem Zp2 (N:Nat):Good Tryz.prog 126 (Zjq N):=GF Zjr N Tryz.func126 We (by kernel_rfl) (fun d=>Z0u N d.1)
def Zm9 (N:Nat):Sig:=Sig.of [.v Jy true] [.v Ja false] (fun d=>Zcd N d.1)
def Z0v:Fn:=⟨Tryz.f127,Wz,Zm9,fun N=>[(180,Zmz N)]⟩
theorem Z0w:Wc Tryz.prog 127:=Wb Tryz.func127 (show Wg Tryz.f127 = true by kernel_rfl)
theorem Z0x (N:Nat):Good Tryz.prog 127 (Zm9 N):=GF Z0v N Tryz.func127 (Wa (Zvp N) Zvo We) (by kernel_rfl) (fun d=>by kernel_rfl)
def Zot (N:Nat):Sig:=Sig.of [.v Jc false] [.v Jp false] (fun d=>Zfl N d.1)
def Zl5:Fn:=⟨Tryz.f62,fun | 4=>[.canon [0,3,14]] | 5=>[.canon [0,3]] | 6=>[.canon [0,3,22]] | 7=>[.canon [2]] | 100004=>[.canon [0,3]] | _=>[],Zot,fun N=>[(125,Zk4 N),(126,Zjq N),(127,Zm9 N)]⟩
def Zx5 (code4:List Ka) (i5:Int):St:=⟨[(0,vV Jc code4),(3,vI i5)],[],0⟩
def Zwe (code4:List Ka):St:=⟨[(2,vB false)],[],0⟩
def Zwf (code4:List Ka) (i7:Int) (t8:Bool):St:=⟨[(0,vV Jc code4),(3,vI i7),(14,vB t8)],[],0⟩
theorem Zx6 (N:Nat) {R:Type} (K:Ex → St → Option R) {code4:List Ka} {K0:Option R} {K1:Int → Bool → Option R} (h0:K0 = K .ret (Zwe code4)) (h1:K1 = fun i7 t8=>K (.exit 0) (Zwf code4 i7 t8)) (n:Nat) (i5:Int):Zek N code4 K0 K1 n i5 = LM Zl5 N 0 100004 n (Zx5 code4 i5) K:=by
  subst h0 h1
  induction n generalizing i5 with
  | zero=>kernel_rfl
  | succ n ih=>rw [Zek]; simp (disch:=exact id (by kernel_rfl)) only [ih]; kernel_rfl
theorem Z37:Wc Tryz.prog 62:=Wb Tryz.func62 (show Wg Tryz.f62 = true by kernel_rfl)
theorem Z38 (N:Nat) (code1:List Ka):DN Zl5 N (code1,()) = Zfl N code1:=by
  have h:Zfl N code1 = Zfl N code1:=rfl
  conv at h=>rhs; rw [Zfl]
  simp (disch:=exact id (by kernel_rfl)) only [Zx6 (R:=Unit × Kf) N (CF Zl5 N [1,1,0,1,0])] at h
  exact Eq.trans (by kernel_rfl) h.symm
theorem Z39 (N:Nat):Good Tryz.prog 62 (Zot N):=GF Zl5 N Tryz.func62 (Wa (Zqx N) Zqw (Wa (Zp2 N) Zp1 (Wa (Z0x N) Z0w We))) (by kernel_rfl) (fun d=>Z38 N d.1)
def Zn5 (N:Nat):Sig:=Sig.of [.v Jn true] [.v Jp false] (fun d=>Zea N d.1)
def Zk6:Fn:=⟨Tryz.f106,fun | 4=>[.canon [1,3,28]] | 5=>[.canon [1,3]] | 6=>[.canon [1,3,38]] | 7=>[.canon [2]] | 100004=>[.canon [1,3]] | _=>[],Zn5,fun N=>[(125,Zk4 N),(126,Zjq N),(62,Zot N)]⟩
def Zwg (i4:Int) (b5:List Ka × List Ko):St:=⟨[(1,vP 0 0),(3,vI i4)],[(0,.box [.val Jc b5.1,.val (.slice Jc) b5.2])],1⟩
def Zt9 (b5:List Ka × List Ko):St:=⟨[(2,vB false)],[],0⟩
def Zua (b5:List Ka × List Ko) (i7:Int) (t8:Bool):St:=⟨[(1,vP 0 0),(3,vI i7),(28,vB t8)],[(0,.box [.val Jc b5.1,.val (.slice Jc) b5.2])],1⟩
theorem Zwh (N:Nat) {R:Type} (K:Ex → St → Option R) {b5:List Ka × List Ko} {K0:Option R} {K1:Int → Bool → Option R} (h0:K0 = K .ret (Zt9 b5)) (h1:K1 = fun i7 t8=>K (.exit 0) (Zua b5 i7 t8)) (n:Nat) (i4:Int):Zcj N b5 K0 K1 n i4 = LM Zk6 N 0 100004 n (Zwg i4 b5) K:=by
  subst h0 h1
  induction n generalizing i4 with
  | zero=>kernel_rfl
  | succ n ih=>rw [Zcj]; simp (disch:=exact id (by kernel_rfl)) only [ih]; kernel_rfl
theorem Z24:Wc Tryz.prog 106:=Wb Tryz.func106 (show Wg Tryz.f106 = true by kernel_rfl)
theorem Z25 (N:Nat) (p1:List Ka × List Ko):DN Zk6 N (p1,()) = Zea N p1:=by
  have h:Zea N p1 = Zea N p1:=rfl
  conv at h=>rhs; rw [Zea]
  simp (disch:=exact id (by kernel_rfl)) only [Zwh (R:=Unit × Kf) N (CF Zk6 N [1,1,0,1,0])] at h
  exact Eq.trans (by kernel_rfl) h.symm
theorem Z26 (N:Nat):Good Tryz.prog 106 (Zn5 N):=GF Zk6 N Tryz.func106 (Wa (Zqx N) Zqw (Wa (Zp2 N) Zp1 (Wa (Z39 N) Z37 We))) (by kernel_rfl) (fun d=>Z25 N d.1)
def Zmj (N:Nat):Sig:=Sig.of [.v Jaa true] [.v Jp false] (fun d=>Zdp N d.1)
def Zix:Fn:=⟨Tryz.f35,fun | 4=>[.canon [1,3,24]] | 5=>[.canon [1,3]] | 6=>[.canon [1,3,33]] | 7=>[.canon [2]] | 100004=>[.canon [1,3]] | _=>[],Zmj,fun N=>[(105,Zmi N),(106,Zn5 N)]⟩
def Zr7 (i3:Int) (b4:Kg × List Kk × List Kb):St:=⟨[(1,vP 0 0),(3,vI i3)],[(0,.box [.val Jj b4.1.1,.val Jj b4.1.2.1,.val Ja b4.1.2.2,.val Jah b4.2.1,.val Je b4.2.2])],1⟩
def Zq9 (b4:Kg × List Kk × List Kb):St:=⟨[(2,vB false)],[],0⟩
def Zra (b4:Kg × List Kk × List Kb) (i6:Int) (t7:Bool):St:=⟨[(1,vP 0 0),(3,vI i6),(24,vB t7)],[(0,.box [.val Jj b4.1.1,.val Jj b4.1.2.1,.val Ja b4.1.2.2,.val Jah b4.2.1,.val Je b4.2.2])],1⟩
theorem Zr8 (N:Nat) {R:Type} (K:Ex → St → Option R) {b4:Kg × List Kk × List Kb} {K0:Option R} {K1:Int → Bool → Option R} (h0:K0 = K .ret (Zq9 b4)) (h1:K1 = fun i6 t7=>K (.exit 0) (Zra b4 i6 t7)) (n:Nat) (i3:Int):Zbv N b4 K0 K1 n i3 = LM Zix N 0 100004 n (Zr7 i3 b4) K:=by
  subst h0 h1
  induction n generalizing i3 with
  | zero=>kernel_rfl
  | succ n ih=>rw [Zbv]; simp (disch:=exact id (by kernel_rfl)) only [ih]; kernel_rfl
theorem Zzo:Wc Tryz.prog 35:=Wb Tryz.func35 (show Wg Tryz.f35 = true by kernel_rfl)
theorem Zzp (N:Nat) (s1:Kg × List Kk × List Kb):DN Zix N (s1,()) = Zdp N s1:=by
  have h:Zdp N s1 = Zdp N s1:=rfl
  conv at h=>rhs; rw [Zdp]
  simp (disch:=exact id (by kernel_rfl)) only [Zr8 (R:=Unit × Kf) N (CF Zix N [1,1,0,1,0])] at h
  exact Eq.trans (by kernel_rfl) h.symm
theorem Zzq (N:Nat):Good Tryz.prog 35 (Zmj N):=GF Zix N Tryz.func35 (Wa (Zzn N) Zzl (Wa (Z26 N) Z24 We)) (by kernel_rfl) (fun d=>Zzp N d.1)
def Z1 (N:Nat):Sig:=Sig.of [.v Ja false,.v Ja false,.v Ja false] [.v Jp false] (fun d=>Zq N d.1 d.2.1 d.2.2.1)
def Z27:Fn:=⟨Tryz.f55,Wz,Z1,Wci⟩
theorem Zaa:Wc Tryz.prog 55:=Wb Tryz.func55 (show Wg Tryz.f55 = true by kernel_rfl)
theorem Zab (N:Nat):Good Tryz.prog 55 (Z1 N):=GF Z27 N Tryz.func55 We (by kernel_rfl) (fun d=>by kernel_rfl)
def Za7 (N:Nat):Sig:=Sig.of [.v Ja false] [.v Jp false] (fun d=>Zaz N d.1)
def Z0y:Fn:=⟨Tryz.f130,Wz,Za7,fun N=>[(55,Z1 N)]⟩
theorem Zbr:Wc Tryz.prog 130:=Wb Tryz.func130 (show Wg Tryz.f130 = true by kernel_rfl)
theorem Zbs (N:Nat):Good Tryz.prog 130 (Za7 N):=GF Z0y N Tryz.func130 (Wa (Zab N) Zaa We) (by kernel_rfl) (fun d=>by kernel_rfl)
def Zc5 (N:Nat):Sig:=Sig.of [.v Jj false,.v Ja false] [.v Jp false] (fun d=>Z9 N d.1 d.2.1)
def Zii:Fn:=⟨Tryz.f71,fun | 2=>[.canon [0,1,7,8,9,10]] | 3=>[.canon [0,1,6,7,8,9]] | 4=>[.canon [0,1,7,8,9,15]] | 5=>[.canon [4]] | 6=>[.canon [0,1,7,8,9]] | 100002=>[.canon [0,1,7,8,9]] | _=>[],Zc5,fun N=>[(130,Za7 N)]⟩
def Zrb (l3:List Int) (n4:Int) (t7:Int):St:=⟨[(0,vV Jj l3),(1,vI n4),(7,vV Jj l3),(8,vI (ilen l3)),(9,vI t7)],[],0⟩
def Zqe (l3:List Int) (n4:Int):St:=⟨[(4,vB false)],[],0⟩
def Zqf (l3:List Int) (n4:Int) (t10:Int) (t11:Bool):St:=⟨[(0,vV Jj l3),(1,vI n4),(7,vV Jj l3),(8,vI (ilen l3)),(9,vI t10),(10,vB t11)],[],0⟩
theorem Zrc (N:Nat) {R:Type} (K:Ex → St → Option R) {l3:List Int} {n4:Int} {K0:Option R} {K1:Int → Bool → Option R} (h0:K0 = K .ret (Zqe l3 n4)) (h1:K1 = fun t10 t11=>K (.exit 0) (Zqf l3 n4 t10 t11)) (n:Nat) (t7:Int):Za3 N l3 n4 K0 K1 n t7 = LM Zii N 0 100002 n (Zrb l3 n4 t7) K:=by
  subst h0 h1
  induction n generalizing t7 with
  | zero=>kernel_rfl
  | succ n ih=>rw [Za3]; simp (disch:=exact id (by kernel_rfl)) only [ih]; kernel_rfl
theorem Zgy:Wc Tryz.prog 71:=Wb Tryz.func71 (show Wg Tryz.f71 = true by kernel_rfl)
theorem Zx7 (N:Nat) (l1:List Int) (n2:Int):DN Zii N (l1,n2,()) = Z9 N l1 n2:=by
  have h:Z9 N l1 n2 = Z9 N l1 n2:=rfl
  conv at h=>rhs; rw [Z9]
  simp (disch:=exact id (by kernel_rfl)) only [Zrc (R:=Unit × Kf) N (CF Zii N [1,0,1,0])] at h
  exact Eq.trans (by kernel_rfl) h.symm
theorem Zgz (N:Nat):Good Tryz.prog 71 (Zc5 N):=GF Zii N Tryz.func71 (Wa (Zbs N) Zbr We) (by kernel_rfl) (fun d=>Zx7 N d.1 d.2.1)
def Zl6 (N:Nat):Sig:=Sig.of [.v Jj false] [.v Jp false] (fun d=>Zfp N d.1)
def Zl7:Fn:=⟨Tryz.f156,fun | 2=>[.canon [0,5,6,7,8]] | 3=>[.canon [0,4,5,6,7]] | 4=>[.canon [0,5,6,7,13]] | 5=>[.canon [2]] | 6=>[.canon [0,5,6,7]] | 100002=>[.canon [0,5,6,7]] | _=>[],Zl6,fun N=>[(55,Z1 N)]⟩
def Zx8 (l2:List Int) (t5:Int):St:=⟨[(0,vV Jj l2),(5,vV Jj l2),(6,vI (ilen l2)),(7,vI t5)],[],0⟩
def Zwi (l2:List Int):St:=⟨[(2,vB false)],[],0⟩
def Zwj (l2:List Int) (t8:Int) (t9:Bool):St:=⟨[(0,vV Jj l2),(5,vV Jj l2),(6,vI (ilen l2)),(7,vI t8),(8,vB t9)],[],0⟩
theorem Zx9 (N:Nat) {R:Type} (K:Ex → St → Option R) {l2:List Int} {K0:Option R} {K1:Int → Bool → Option R} (h0:K0 = K .ret (Zwi l2)) (h1:K1 = fun t8 t9=>K (.exit 0) (Zwj l2 t8 t9)) (n:Nat) (t5:Int):Zep N l2 K0 K1 n t5 = LM Zl7 N 0 100002 n (Zx8 l2 t5) K:=by
  subst h0 h1
  induction n generalizing t5 with
  | zero=>kernel_rfl
  | succ n ih=>rw [Zep]; simp (disch:=exact id (by kernel_rfl)) only [ih]; kernel_rfl
theorem Zr9:Wc Tryz.prog 156:=Wb Tryz.func156 (show Wg Tryz.f156 = true by kernel_rfl)
theorem Z4a (N:Nat) (l1:List Int):DN Zl7 N (l1,()) = Zfp N l1:=by
  have h:Zfp N l1 = Zfp N l1:=rfl
  conv at h=>rhs; rw [Zfp]
  simp (disch:=exact id (by kernel_rfl)) only [Zx9 (R:=Unit × Kf) N (CF Zl7 N [1,0,1,0])] at h
  exact Eq.trans (by kernel_rfl) h.symm
theorem Zsa (N:Nat):Good Tryz.prog 156 (Zl6 N):=GF Zl7 N Tryz.func156 (Wa (Zab N) Zaa We) (by kernel_rfl) (fun d=>Z4a N d.1)
def Zmk (N:Nat):Sig:=Sig.of [.v Jt true] [.v Jp false] (fun d=>Zkv N d.1)
def Zzr:Fn:=⟨Tryz.f151,Wz,Zmk,fun N=>[(71,Zc5 N),(156,Zl6 N),(130,Za7 N)]⟩
theorem Zzs:Wc Tryz.prog 151:=Wb Tryz.func151 (show Wg Tryz.f151 = true by kernel_rfl)
theorem Zzt (N:Nat):Good Tryz.prog 151 (Zmk N):=GF Zzr N Tryz.func151 (Wa (Zgz N) Zgy (Wa (Zsa N) Zr9 (Wa (Zbs N) Zbr We))) (by kernel_rfl) (fun d=>by kernel_rfl)
def Zou (N:Nat):Sig:=Sig.of [.v Ja false] [.v Jp false] (fun d=>Zv N d.1)
def Z4b:Fn:=⟨Tryz.f247,Wz,Zou,fun N=>[(55,Z1 N)]⟩
theorem Z4c:Wc Tryz.prog 247:=Wb Tryz.func247 (show Wg Tryz.f247 = true by kernel_rfl)
theorem Z4d (N:Nat):Good Tryz.prog 247 (Zou N):=GF Z4b N Tryz.func247 (Wa (Zab N) Zaa We) (by kernel_rfl) (fun d=>by kernel_rfl)
def Zb6 (N:Nat):Sig:=Sig.of [.v Ja false] [.v Jp false] (fun d=>Zbc N d.1)
def Z28:Fn:=⟨Tryz.f65,Wz,Zb6,fun N=>[(55,Z1 N)]⟩
theorem Zdu:Wc Tryz.prog 65:=Wb Tryz.func65 (show Wg Tryz.f65 = true by kernel_rfl)
theorem Zdv (N:Nat):Good Tryz.prog 65 (Zb6 N):=GF Z28 N Tryz.func65 (Wa (Zab N) Zaa We) (by kernel_rfl) (fun d=>by kernel_rfl)
def Ze5 (N:Nat):Sig:=Sig.of [.v Ja false] [.v Jp false] (fun d=>Za5 N d.1)
def Z4e:Fn:=⟨Tryz.f209,Wz,Ze5,fun N=>[(55,Z1 N)]⟩
theorem Zhh:Wc Tryz.prog 209:=Wb Tryz.func209 (show Wg Tryz.f209 = true by kernel_rfl)
theorem Zhi (N:Nat):Good Tryz.prog 209 (Ze5 N):=GF Z4e N Tryz.func209 (Wa (Zab N) Zaa We) (by kernel_rfl) (fun d=>by kernel_rfl)
def Zh8 (N:Nat):Sig:=Sig.of [.v Jy true] [.v Jp false] (fun d=>Zr N d.1)
def Z4r:Fn:=⟨Tryz.f217,Wz,Zh8,fun N=>[(247,Zou N),(130,Za7 N),(65,Zb6 N),(55,Z1 N),(209,Ze5 N)]⟩
theorem Zm0:Wc Tryz.prog 217:=Wb Tryz.func217 (show Wg Tryz.f217 = true by kernel_rfl)
theorem Zm1 (N:Nat):Good Tryz.prog 217 (Zh8 N):=GF Z4r N Tryz.func217 (Wa (Z4d N) Z4c (Wa (Zbs N) Zbr (Wa (Zdv N) Zdu (Wa (Zab N) Zaa (Wa (Zhi N) Zhh We))))) (by kernel_rfl) (fun d=>by kernel_rfl)
def Zjs (N:Nat):Sig:=Sig.of [.v Jy true] [.v Ja false] (fun d=>Zhe N d.1)
def Z0z:Fn:=⟨Tryz.f170,Wz,Zjs,fun N=>[(217,Zh8 N)]⟩
theorem Zp3:Wc Tryz.prog 170:=Wb Tryz.func170 (show Wg Tryz.f170 = true by kernel_rfl)
theorem Zp4 (N:Nat):Good Tryz.prog 170 (Zjs N):=GF Z0z N Tryz.func170 (Wa (Zm1 N) Zm0 We) (by kernel_rfl) (fun d=>by kernel_rfl)
def Zjb (N:Nat):Sig:=Sig.of [.v Jy true] [.v Ja false] (fun d=>Zi6 N d.1)
def Z4f:Fn:=⟨Tryz.f248,Wz,Zjb,Wci⟩
theorem Zov:Wc Tryz.prog 248:=Wb Tryz.func248 (show Wg Tryz.f248 = true by kernel_rfl)
theorem Zow (N:Nat):Good Tryz.prog 248 (Zjb N):=GF Z4f N Tryz.func248 We (by kernel_rfl) (fun d=>by kernel_rfl)
def Zkn (N:Nat):Sig:=Sig.of [.v Jc false] [.v Jp false] (fun d=>Zbx N d.1)
def Zh0:Fn:=⟨Tryz.f218,fun | 3=>[.canon [3,6,7,8,9]] | 4=>[.canon [3,5,6,7,8]] | 5=>[.canon [3,6,7,8]] | 6=>[.canon [3,6,7,8,17]] | 7=>[.canon [2]] | 8=>[.canon [3,6,7,8]] | 100003=>[.canon [3,6,7,8]] | _=>[],Zkn,fun N=>[(248,Zjb N)]⟩
def Zqg (n2:Int) (t3:List Ka) (t5:Int):St:=⟨[(3,vI n2),(6,vV Jc t3),(7,vI (ilen t3)),(8,vI t5)],[],0⟩
def Zp5 (t3:List Ka):St:=⟨[(2,vB false)],[],0⟩
def Zp6 (t3:List Ka) (n8:Int) (t9:Int) (t10:Bool):St:=⟨[(3,vI n8),(6,vV Jc t3),(7,vI (ilen t3)),(8,vI t9),(9,vB t10)],[],0⟩
theorem Zqh (N:Nat) {R:Type} (K:Ex → St → Option R) {t3:List Ka} {K0:Option R} {K1:Int → Int → Bool → Option R} (h0:K0 = K .ret (Zp5 t3)) (h1:K1 = fun n8 t9 t10=>K (.exit 0) (Zp6 t3 n8 t9 t10)) (n:Nat) (n2:Int) (t5:Int):Zb2 N t3 K0 K1 n n2 t5 = LM Zh0 N 0 100003 n (Zqg n2 t3 t5) K:=by
  subst h0 h1
  induction n generalizing n2 t5 with
  | zero=>kernel_rfl
  | succ n ih=>rw [Zb2]; simp (disch:=exact id (by kernel_rfl)) only [ih]; kernel_rfl
theorem Zwk:Wc Tryz.prog 218:=Wb Tryz.func218 (show Wg Tryz.f218 = true by kernel_rfl)
theorem Zwl (N:Nat) (code1:List Ka):DN Zh0 N (code1,()) = Zbx N code1:=by
  have h:Zbx N code1 = Zbx N code1:=rfl
  conv at h=>rhs; rw [Zbx]
  simp (disch:=exact id (by kernel_rfl)) only [Zqh (R:=Unit × Kf) N (CF Zh0 N [1,1,0,1,0])] at h
  exact Eq.trans (by kernel_rfl) h.symm
theorem Zwm (N:Nat):Good Tryz.prog 218 (Zkn N):=GF Zh0 N Tryz.func218 (Wa (Zow N) Zov We) (by kernel_rfl) (fun d=>Zwl N d.1)
def Zna (N:Nat):Sig:=Sig.of [.v Jc false,.v Ja false] [.v Ja false] (fun d=>Zey N d.1 d.2.1)
def Zjt:Fn:=⟨Tryz.f219,fun | 3=>[.canon [1,5,8,9,10,11]] | 4=>[.canon [1,5,6,7,8,9,10]] | 5=>[.canon [1,5,7,8,9,10,17]] | 6=>[.canon [1,5,8,9,10]] | 7=>[.canon [1,5,8,9,10]] | 100003=>[.canon [1,5,8,9,10]] | _=>[],Zna,fun N=>[(248,Zjb N)]⟩
def Zub (i3:Int) (n4:Int) (t5:List Ka) (t7:Int):St:=⟨[(1,vI i3),(5,vI n4),(8,vV Jc t5),(9,vI (ilen t5)),(10,vI t7)],[],0⟩
def Zsb (i3:Int) (t5:List Ka) (n10:Int) (t11:Int) (t12:Bool):St:=⟨[(1,vI i3),(5,vI n10),(8,vV Jc t5),(9,vI (ilen t5)),(10,vI t11),(11,vB t12)],[],0⟩
theorem Zuc (N:Nat) {R:Type} (K:Ex → St → Option R) {i3:Int} {t5:List Ka} {K0:Int → Int → Bool → Option R} (h0:K0 = fun n10 t11 t12=>K (.exit 0) (Zsb i3 t5 n10 t11 t12)) (n:Nat) (n4:Int) (t7:Int):Zb7 N i3 t5 K0 n n4 t7 = LM Zjt N 0 100003 n (Zub i3 n4 t5 t7) K:=by
  subst h0
  induction n generalizing n4 t7 with
  | zero=>kernel_rfl
  | succ n ih=>rw [Zb7]; simp (disch:=exact id (by kernel_rfl)) only [ih]; kernel_rfl
theorem Z00:Wc Tryz.prog 219:=Wb Tryz.func219 (show Wg Tryz.f219 = true by kernel_rfl)
theorem Z01 (N:Nat) (code1:List Ka) (i2:Int):DN Zjt N (code1,i2,()) = Zey N code1 i2:=by
  have h:Zey N code1 i2 = Zey N code1 i2:=rfl
  conv at h=>rhs; rw [Zey]
  simp (disch:=exact id (by kernel_rfl)) only [Zuc (R:=Unit × Ki) N (CF Zjt N [1,1,0,1,0])] at h
  exact Eq.trans (by kernel_rfl) h.symm
theorem Z02 (N:Nat):Good Tryz.prog 219 (Zna N):=GF Zjt N Tryz.func219 (Wa (Zow N) Zov We) (by kernel_rfl) (fun d=>Z01 N d.1 d.2.1)
def Zk7 (N:Nat):Sig:=Sig.of [.v Jc false] [.v Jp false] (fun d=>Zb0 N d.1)
def Zk8:Fn:=⟨Tryz.f171,fun | 5=>[.canon [0,3,14,15,16,17]] | 6=>[.canon [0,3,4,5,14,15,16]] | 7=>[.canon [0,3,4,5,14,15,16,23]] | 8=>[.canon [2]] | 9=>[.canon [0,3,4,5,14,15,16,25]] | 10=>[.canon [0,3,4,5,14,15,16,25,26]] | 11=>[.canon [0,3,14,15,16,48]] | 12=>[.canon [2]] | 13=>[.canon [0,3,4,14,15,16,49]] | 14=>[.canon [0,3,4,14,15,16]] | 15=>[.canon [0,3,14,15,16,60]] | 16=>[.canon [2]] | 17=>[.canon [0,3,14,15,16]] | 100005=>[.canon [0,3,14,15,16]] | _=>[],Zk7,fun N=>[(218,Zkn N),(217,Zh8 N),(219,Zna N)]⟩
def Zwn (code3:List Ka) (forks4:Int) (t7:Int):St:=⟨[(0,vV Jc code3),(3,vI forks4),(14,vV Jc code3),(15,vI (ilen code3)),(16,vI t7)],[],0⟩
def Zud (code3:List Ka):St:=⟨[(2,vB false)],[],0⟩
def Zue (code3:List Ka) (forks14:Int) (t15:Int) (t16:Bool):St:=⟨[(0,vV Jc code3),(3,vI forks14),(14,vV Jc code3),(15,vI (ilen code3)),(16,vI t15),(17,vB t16)],[],0⟩
theorem Zwo (N:Nat) {R:Type} (K:Ex → St → Option R) {code3:List Ka} {K0:Option R} {K1:Int → Int → Bool → Option R} (h0:K0 = K .ret (Zud code3)) (h1:K1 = fun forks14 t15 t16=>K (.exit 0) (Zue code3 forks14 t15 t16)) (n:Nat) (forks4:Int) (t7:Int):Zby N code3 K0 K1 n forks4 t7 = LM Zk8 N 0 100005 n (Zwn code3 forks4 t7) K:=by
  subst h0 h1
  induction n generalizing forks4 t7 with
  | zero=>kernel_rfl
  | succ n ih=>rw [Zby]; simp (disch:=exact id (by kernel_rfl)) only [ih]; kernel_rfl
theorem Zqy:Wc Tryz.prog 171:=Wb Tryz.func171 (show Wg Tryz.f171 = true by kernel_rfl)
theorem Z29 (N:Nat) (code1:List Ka):DN Zk8 N (code1,()) = Zb0 N code1:=by
  have h:Zb0 N code1 = Zb0 N code1:=rfl
  conv at h=>rhs; rw [Zb0]
  simp (disch:=exact id (by kernel_rfl)) only [Zwo (R:=Unit × Kf) N (CF Zk8 N [1,1,1,0,1,0])] at h
  exact Eq.trans (by kernel_rfl) h.symm
theorem Zqz (N:Nat):Good Tryz.prog 171 (Zk7 N):=GF Zk8 N Tryz.func171 (Wa (Zwm N) Zwk (Wa (Zm1 N) Zm0 (Wa (Z02 N) Z00 We))) (by kernel_rfl) (fun d=>Z29 N d.1)
def Zox (N:Nat):Sig:=Sig.of [.v Jc false] [.v Jp false] (fun d=>Zfm N d.1)
def Zl8:Fn:=⟨Tryz.f117,fun | 2=>[.canon [0,5,6,7,8]] | 3=>[.canon [0,4,5,6,7]] | 4=>[.canon [0,5,6,7,18]] | 5=>[.canon [2]] | 6=>[.canon [0,5,6,7]] | 100002=>[.canon [0,5,6,7]] | _=>[],Zox,fun N=>[(170,Zjs N),(171,Zk7 N)]⟩
def Zya (code2:List Ka) (t5:Int):St:=⟨[(0,vV Jc code2),(5,vV Jc code2),(6,vI (ilen code2)),(7,vI t5)],[],0⟩
def Zwp (code2:List Ka):St:=⟨[(2,vB false)],[],0⟩
def Zwq (code2:List Ka) (t8:Int) (t9:Bool):St:=⟨[(0,vV Jc code2),(5,vV Jc code2),(6,vI (ilen code2)),(7,vI t8),(8,vB t9)],[],0⟩
theorem Zyb (N:Nat) {R:Type} (K:Ex → St → Option R) {code2:List Ka} {K0:Option R} {K1:Int → Bool → Option R} (h0:K0 = K .ret (Zwp code2)) (h1:K1 = fun t8 t9=>K (.exit 0) (Zwq code2 t8 t9)) (n:Nat) (t5:Int):Zel N code2 K0 K1 n t5 = LM Zl8 N 0 100002 n (Zya code2 t5) K:=by
  subst h0 h1
  induction n generalizing t5 with
  | zero=>kernel_rfl
  | succ n ih=>rw [Zel]; simp (disch:=exact id (by kernel_rfl)) only [ih]; kernel_rfl
theorem Z4g:Wc Tryz.prog 117:=Wb Tryz.func117 (show Wg Tryz.f117 = true by kernel_rfl)
theorem Z4h (N:Nat) (code1:List Ka):DN Zl8 N (code1,()) = Zfm N code1:=by
  have h:Zfm N code1 = Zfm N code1:=rfl
  conv at h=>rhs; rw [Zfm]
  simp (disch:=exact id (by kernel_rfl)) only [Zyb (R:=Unit × Kf) N (CF Zl8 N [1,0,1,0])] at h
  exact Eq.trans (by kernel_rfl) h.symm
theorem Z4i (N:Nat):Good Tryz.prog 117 (Zox N):=GF Zl8 N Tryz.func117 (Wa (Zp4 N) Zp3 (Wa (Zqz N) Zqy We)) (by kernel_rfl) (fun d=>Z4h N d.1)
def Zlo (N:Nat):Sig:=Sig.of [.v Jy true] [.v Jp false] (fun d=>Zm6 N d.1)
def Zyc:Fn:=⟨Tryz.f232,Wz,Zlo,Wci⟩
theorem Zyd:Wc Tryz.prog 232:=Wb Tryz.func232 (show Wg Tryz.f232 = true by kernel_rfl)
theorem Zye (N:Nat):Good Tryz.prog 232 (Zlo N):=GF Zyc N Tryz.func232 We (by kernel_rfl) (fun d=>by kernel_rfl)
def Za4 (N:Nat):Sig:=Sig.of [.v Jc false,.clos 232 0] [.v Ja false] (fun d=>Zs N d.1)
def Zac:Fn:=⟨Tryz.f261,fun | 2=>[.canon [0,1,7,8,9]] | 3=>[.canon [0,1,5,7,8]] | 4=>[.canon [0,1,5,7,8,16]] | 5=>[.canon [1,4]] | 6=>[.canon [0,1,7,8]] | 100002=>[.canon [0,1,7,8]] | _=>[],Za4,fun N=>[(232,Zlo N)]⟩
def Zf6 (s2:List Ka) (t4:Int):St:=⟨[(0,vV Jc s2),(1,.s (.one (.clos 232 []))),(7,vI (ilen s2)),(8,vI t4)],[],0⟩
def Zfq (s2:List Ka) (t7:Int):St:=⟨[(1,.s (.one (.clos 232 []))),(4,vI t7)],[],0⟩
def Zfr (s2:List Ka) (t8:Int) (t9:Bool):St:=⟨[(0,vV Jc s2),(1,.s (.one (.clos 232 []))),(7,vI (ilen s2)),(8,vI t8),(9,vB t9)],[],0⟩
theorem Zf7 (N:Nat) {R:Type} (K:Ex → St → Option R) {s2:List Ka} {K0:Int → Option R} {K1:Int → Bool → Option R} (h0:K0 = fun t7=>K .ret (Zfq s2 t7)) (h1:K1 = fun t8 t9=>K (.exit 0) (Zfr s2 t8 t9)) (n:Nat) (t4:Int):Zp N s2 K0 K1 n t4 = LM Zac N 0 100002 n (Zf6 s2 t4) K:=by
  subst h0 h1
  induction n generalizing t4 with
  | zero=>kernel_rfl
  | succ n ih=>rw [Zp]; simp (disch:=exact id (by kernel_rfl)) only [ih]; kernel_rfl
theorem Zgp:Wc Tryz.prog 261:=Wb Tryz.func261 (show Wg Tryz.f261 = true by kernel_rfl)
theorem Zgq (N:Nat) (s1:List Ka):DN Zac N (s1,()) = Zs N s1:=by
  have h:Zs N s1 = Zs N s1:=rfl
  conv at h=>rhs; rw [Zs]
  simp (disch:=exact id (by kernel_rfl)) only [Zf7 (R:=Unit × Ki) N (CF Zac N [1,0,1,0])] at h
  exact Eq.trans (by kernel_rfl) h.symm
theorem Zgr (N:Nat):Good Tryz.prog 261 (Za4 N):=GF Zac N Tryz.func261 (Wa (Zye N) Zyd We) (by kernel_rfl) (fun d=>Zgq N d.1)
def Zav (N:Nat):Sig:=Sig.of [.v Jc false,.clos 232 0] [.v Jp false] (fun d=>Za0 N d.1)
def Zge:Fn:=⟨Tryz.f231,Wz,Zav,fun N=>[(261,Za4 N)]⟩
theorem Zgf:Wc Tryz.prog 231:=Wb Tryz.func231 (show Wg Tryz.f231 = true by kernel_rfl)
theorem Zgg (N:Nat):Good Tryz.prog 231 (Zav N):=GF Zge N Tryz.func231 (Wa (Zgr N) Zgp We) (by kernel_rfl) (fun d=>by kernel_rfl)
def Znb (N:Nat):Sig:=Sig.of [.v Jc false] [.v Jp false] (fun d=>Zhf N d.1)
def Z03:Fn:=⟨Tryz.f197,Wz,Znb,fun N=>[(231,Zav N)]⟩
theorem Z04:Wc Tryz.prog 197:=Wb Tryz.func197 (show Wg Tryz.f197 = true by kernel_rfl)
theorem Z05 (N:Nat):Good Tryz.prog 197 (Znb N):=GF Z03 N Tryz.func197 (Wa (Zgg N) Zgf We) (by kernel_rfl) (fun d=>by kernel_rfl)
def Zn6 (N:Nat):Sig:=Sig.of [.v Jn true] [.v Jp false] (fun d=>Zgc N d.1)
def Zk9:Fn:=⟨Tryz.f154,fun | 2=>[.canon [1,6,7,8,9]] | 3=>[.canon [1,4,6,7,8]] | 4=>[.canon [1,6,7,8,15]] | 5=>[.canon [2]] | 6=>[.canon [1,6,7,8]] | 100002=>[.canon [1,6,7,8]] | _=>[],Zn6,fun N=>[(117,Zox N),(171,Zk7 N),(197,Znb N)]⟩
def Zwr (t2:List Ko) (t4:Int) (b5:List Ka × List Ko):St:=⟨[(1,vP 0 0),(6,vV (.slice Jc) t2),(7,vI (ilen b5.2)),(8,vI t4)],[(0,.box [.val Jc b5.1,.val (.slice Jc) b5.2])],1⟩
def Zuf (t2:List Ko) (b5:List Ka × List Ko):St:=⟨[(2,vB false)],[],0⟩
def Zug (t2:List Ko) (b5:List Ka × List Ko) (t8:Int) (t9:Bool):St:=⟨[(1,vP 0 0),(6,vV (.slice Jc) t2),(7,vI (ilen b5.2)),(8,vI t8),(9,vB t9)],[(0,.box [.val Jc b5.1,.val (.slice Jc) b5.2])],1⟩
theorem Zws (N:Nat) {R:Type} (K:Ex → St → Option R) {t2:List Ko} {b5:List Ka × List Ko} {K0:Option R} {K1:Int → Bool → Option R} (h0:K0 = K .ret (Zuf t2 b5)) (h1:K1 = fun t8 t9=>K (.exit 0) (Zug t2 b5 t8 t9)) (n:Nat) (t4:Int):Zdj N t2 b5 K0 K1 n t4 = LM Zk9 N 0 100002 n (Zwr t2 t4 b5) K:=by
  subst h0 h1
  induction n generalizing t4 with
  | zero=>kernel_rfl
  | succ n ih=>rw [Zdj]; simp (disch:=exact id (by kernel_rfl)) only [ih]; kernel_rfl
theorem Z3a:Wc Tryz.prog 154:=Wb Tryz.func154 (show Wg Tryz.f154 = true by kernel_rfl)
theorem Z3b (N:Nat) (p1:List Ka × List Ko):DN Zk9 N (p1,()) = Zgc N p1:=by
  have h:Zgc N p1 = Zgc N p1:=rfl
  conv at h=>rhs; rw [Zgc]
  simp (disch:=exact id (by kernel_rfl)) only [Zws (R:=Unit × Kf) N (CF Zk9 N [1,0,1,0])] at h
  exact Eq.trans (by kernel_rfl) h.symm
theorem Z3c (N:Nat):Good Tryz.prog 154 (Zn6 N):=GF Zk9 N Tryz.func154 (Wa (Z4i N) Z4g (Wa (Zqz N) Zqy (Wa (Z05 N) Z04 We))) (by kernel_rfl) (fun d=>Z3b N d.1)
def Zko (N:Nat):Sig:=Sig.of [.v Jn true] [.v Jp false] (fun d=>Zir N d.1)
def Zwt:Fn:=⟨Tryz.f153,Wz,Zko,fun N=>[(154,Zn6 N)]⟩
theorem Zwu:Wc Tryz.prog 153:=Wb Tryz.func153 (show Wg Tryz.f153 = true by kernel_rfl)
theorem Zwv (N:Nat):Good Tryz.prog 153 (Zko N):=GF Zwt N Tryz.func153 (Wa (Z3c N) Z3a We) (by kernel_rfl) (fun d=>by kernel_rfl)
def Zar (N:Nat):Sig:=Sig.of [.v Jah false,.clos 153 0] [.v Ja false] (fun d=>Zn N d.1)
def Z7:Fn:=⟨Tryz.f196,fun | 2=>[.canon [0,1,7,8,9]] | 3=>[.canon [0,1,5,7,8]] | 4=>[.canon [0,1,5,7,8,16]] | 5=>[.canon [1,4]] | 6=>[.canon [0,1,7,8]] | 100002=>[.canon [0,1,7,8]] | _=>[],Zar,fun N=>[(153,Zko N)]⟩
def Zes (s2:List Kk) (t4:Int):St:=⟨[(0,vV Jah s2),(1,.s (.one (.clos 153 []))),(7,vI (ilen s2)),(8,vI t4)],[],0⟩
def Zeb (s2:List Kk) (t7:Int):St:=⟨[(1,.s (.one (.clos 153 []))),(4,vI t7)],[],0⟩
def Zec (s2:List Kk) (t8:Int) (t9:Bool):St:=⟨[(0,vV Jah s2),(1,.s (.one (.clos 153 []))),(7,vI (ilen s2)),(8,vI t8),(9,vB t9)],[],0⟩
theorem Zet (N:Nat) {R:Type} (K:Ex → St → Option R) {s2:List Kk} {K0:Int → Option R} {K1:Int → Bool → Option R} (h0:K0 = fun t7=>K .ret (Zeb s2 t7)) (h1:K1 = fun t8 t9=>K (.exit 0) (Zec s2 t8 t9)) (n:Nat) (t4:Int):Zf N s2 K0 K1 n t4 = LM Z7 N 0 100002 n (Zes s2 t4) K:=by
  subst h0 h1
  induction n generalizing t4 with
  | zero=>kernel_rfl
  | succ n ih=>rw [Zf]; simp (disch:=exact id (by kernel_rfl)) only [ih]; kernel_rfl
theorem Zfs:Wc Tryz.prog 196:=Wb Tryz.func196 (show Wg Tryz.f196 = true by kernel_rfl)
theorem Zft (N:Nat) (s1:List Kk):DN Z7 N (s1,()) = Zn N s1:=by
  have h:Zn N s1 = Zn N s1:=rfl
  conv at h=>rhs; rw [Zn]
  simp (disch:=exact id (by kernel_rfl)) only [Zet (R:=Unit × Ki) N (CF Z7 N [1,0,1,0])] at h
  exact Eq.trans (by kernel_rfl) h.symm
theorem Zfu (N:Nat):Good Tryz.prog 196 (Zar N):=GF Z7 N Tryz.func196 (Wa (Zwv N) Zwu We) (by kernel_rfl) (fun d=>Zft N d.1)
def Zam (N:Nat):Sig:=Sig.of [.v Jah false,.clos 153 0] [.v Jp false] (fun d=>Zao N d.1)
def Ze6:Fn:=⟨Tryz.f152,Wz,Zam,fun N=>[(196,Zar N)]⟩
theorem Ze7:Wc Tryz.prog 152:=Wb Tryz.func152 (show Wg Tryz.f152 = true by kernel_rfl)
theorem Ze8 (N:Nat):Good Tryz.prog 152 (Zam N):=GF Ze6 N Tryz.func152 (Wa (Zfu N) Zfs We) (by kernel_rfl) (fun d=>by kernel_rfl)
def Zml (N:Nat):Sig:=Sig.of [.v Jaa true] [.v Jp false] (fun d=>Zkw N d.1)
def Zzu:Fn:=⟨Tryz.f103,Wz,Zml,fun N=>[(151,Zmk N),(152,Zam N)]⟩
theorem Zzv:Wc Tryz.prog 103:=Wb Tryz.func103 (show Wg Tryz.f103 = true by kernel_rfl)
theorem Zzw (N:Nat):Good Tryz.prog 103 (Zml N):=GF Zzu N Tryz.func103 (Wa (Zzt N) Zzs (Wa (Ze8 N) Ze7 We)) (by kernel_rfl) (fun d=>by kernel_rfl)
def Znc (N:Nat):Sig:=Sig.of [] [.v Jac false] (fun d=>Zon N)
def Z06:Fn:=⟨Tryz.f157,Wz,Znc,Wci⟩
theorem Z07:Wc Tryz.prog 157:=Wb Tryz.func157 (show Wg Tryz.f157 = true by kernel_rfl)
theorem Z08 (N:Nat):Good Tryz.prog 157 (Znc N):=GF Z06 N Tryz.func157 We (by kernel_rfl) (fun d=>by kernel_rfl)
def Z4 (N:Nat):Sig:=Sig.of [.v Jj false] [.v Jac false] (fun d=>Zx N d.1)
def Zzx:Fn:=⟨Tryz.f72,Wz,Z4,Wci⟩
theorem Zaf:Wc Tryz.prog 72:=Wb Tryz.func72 (show Wg Tryz.f72 = true by kernel_rfl)
theorem Zag (N:Nat):Good Tryz.prog 72 (Z4 N):=GF Zzx N Tryz.func72 We (by kernel_rfl) (fun d=>by kernel_rfl)
def Zla (N:Nat):Sig:=Sig.of [.v Ja false,.v Ja false] [.v Ja false] (fun d=>Zh6 N d.1 d.2.1)
def Z3d:Fn:=⟨Tryz.f212,Wz,Zla,Wci⟩
theorem Zq0:Wc Tryz.prog 212:=Wb Tryz.func212 (show Wg Tryz.f212 = true by kernel_rfl)
theorem Zq1 (N:Nat):Good Tryz.prog 212 (Zla N):=GF Z3d N Tryz.func212 We (by kernel_rfl) (fun d=>by kernel_rfl)
def Zl9 (N:Nat):Sig:=Sig.of [.v Ja false] [.v Ja false] (fun d=>Zhm N d.1)
def Z4j:Fn:=⟨Tryz.f244,Wz,Zl9,Wci⟩
theorem Zsc:Wc Tryz.prog 244:=Wb Tryz.func244 (show Wg Tryz.f244 = true by kernel_rfl)
theorem Zsd (N:Nat):Good Tryz.prog 244 (Zl9 N):=GF Z4j N Tryz.func244 We (by kernel_rfl) (fun d=>by kernel_rfl)
def Ziy (N:Nat):Sig:=Sig.of [.v Ja false] [.v Ja false] (fun d=>Zic N d.1)
def Zzy:Fn:=⟨Tryz.f213,Wz,Ziy,fun N=>[(209,Ze5 N)]⟩
theorem Zpk:Wc Tryz.prog 213:=Wb Tryz.func213 (show Wg Tryz.f213 = true by kernel_rfl)
theorem Zpl (N:Nat):Good Tryz.prog 213 (Ziy N):=GF Zzy N Tryz.func213 (Wa (Zhi N) Zhh We) (by kernel_rfl) (fun d=>by kernel_rfl)
def Zgn (N:Nat):Sig:=Sig.of [.v Jj false] [.v Jp false] (fun d=>Zb4 N d.1)
def Zju:Fn:=⟨Tryz.f208,fun | 5=>[.canon [3,9,10,11,12]] | 6=>[.canon [3,4,5,9,10,11]] | 7=>[.canon [3,4,5,9,10,11,17]] | 8=>[.canon [3,5,9,10,11,35]] | 9=>[.canon [2]] | 10=>[.canon [3,9,10,11]] | 11=>[.canon [3,9,10,11]] | 100005=>[.canon [3,9,10,11]] | _=>[],Zgn,fun N=>[(212,Zla N),(55,Z1 N),(244,Zl9 N),(213,Ziy N)]⟩
def Zuh (t2:List Int) (t4:Int) (l5:List Bool):St:=⟨[(3,.s (.one (.aptr 0))),(9,vV Jj t2),(10,vI (ilen t2)),(11,vI t4)],[(0,.arr Jp l5)],1⟩
def Zse (t2:List Int):St:=⟨[(2,vB false)],[],0⟩
def Zsf (t2:List Int) (t18:Int) (t19:Bool) (l20:List Bool):St:=⟨[(3,.s (.one (.aptr 0))),(9,vV Jj t2),(10,vI (ilen t2)),(11,vI t18),(12,vB t19)],[(0,.arr Jp l20)],1⟩
theorem Zui (N:Nat) {R:Type} (K:Ex → St → Option R) {t2:List Int} {K0:Option R} {K1:Int → Bool → (List Bool) → Option R} (h0:K0 = K .ret (Zse t2)) (h1:K1 = fun t18 t19 l20=>K (.exit 0) (Zsf t2 t18 t19 l20)) (n:Nat) (t4:Int) (l5:List Bool):Zb8 N t2 K0 K1 n t4 l5 = LM Zju N 0 100005 n (Zuh t2 t4 l5) K:=by
  subst h0 h1
  induction n generalizing t4 l5 with
  | zero=>kernel_rfl
  | succ n ih=>rw [Zb8]; simp (disch:=exact id (by kernel_rfl)) only [ih]; kernel_rfl
theorem Zjv:Wc Tryz.prog 208:=Wb Tryz.func208 (show Wg Tryz.f208 = true by kernel_rfl)
theorem Z09 (N:Nat) (l1:List Int):DN Zju N (l1,()) = Zb4 N l1:=by
  have h:Zb4 N l1 = Zb4 N l1:=rfl
  conv at h=>rhs; rw [Zb4]
  simp (disch:=exact id (by kernel_rfl)) only [Zui (R:=Unit × Kf) N (CF Zju N [1,1,1,0,1,0])] at h
  exact Eq.trans (by kernel_rfl) h.symm
theorem Zjw (N:Nat):Good Tryz.prog 208 (Zgn N):=GF Zju N Tryz.func208 (Wa (Zq1 N) Zq0 (Wa (Zab N) Zaa (Wa (Zsd N) Zsc (Wa (Zpl N) Zpk We)))) (by kernel_rfl) (fun d=>Z09 N d.1)
def Zkj (N:Nat):Sig:=Sig.of [.v Jj false,.v Ja false] [.v Ja false] (fun d=>Zdz N d.1 d.2.1)
def Zm2:Fn:=⟨Tryz.f210,fun | 2=>[.canon [1,7,8,9,10]] | 3=>[.canon [1,5,6,7,8,9]] | 4=>[.canon [1,5,7,8,9,21]] | 5=>[.canon [4]] | 6=>[.canon [1,7,8,9]] | 100002=>[.canon [1,7,8,9]] | _=>[],Zkj,fun N=>[(244,Zl9 N)]⟩
def Zzz (key3:Int) (t4:List Int) (t6:Int):St:=⟨[(1,vI key3),(7,vV Jj t4),(8,vI (ilen t4)),(9,vI t6)],[],0⟩
def Zyf (key3:Int) (t4:List Int) (t9:Int):St:=⟨[(4,vI t9)],[],0⟩
def Zyg (key3:Int) (t4:List Int) (t10:Int) (t11:Bool):St:=⟨[(1,vI key3),(7,vV Jj t4),(8,vI (ilen t4)),(9,vI t10),(10,vB t11)],[],0⟩
theorem Zz0 (N:Nat) {R:Type} (K:Ex → St → Option R) {key3:Int} {t4:List Int} {K0:Int → Option R} {K1:Int → Bool → Option R} (h0:K0 = fun t9=>K .ret (Zyf key3 t4 t9)) (h1:K1 = fun t10 t11=>K (.exit 0) (Zyg key3 t4 t10 t11)) (n:Nat) (t6:Int):Zdq N key3 t4 K0 K1 n t6 = LM Zm2 N 0 100002 n (Zzz key3 t4 t6) K:=by
  subst h0 h1
  induction n generalizing t6 with
  | zero=>kernel_rfl
  | succ n ih=>rw [Zdq]; simp (disch:=exact id (by kernel_rfl)) only [ih]; kernel_rfl
theorem Zpa:Wc Tryz.prog 210:=Wb Tryz.func210 (show Wg Tryz.f210 = true by kernel_rfl)
theorem Z4s (N:Nat) (l1:List Int) (key2:Int):DN Zm2 N (l1,key2,()) = Zdz N l1 key2:=by
  have h:Zdz N l1 key2 = Zdz N l1 key2:=rfl
  conv at h=>rhs; rw [Zdz]
  simp (disch:=exact id (by kernel_rfl)) only [Zz0 (R:=Unit × Ki) N (CF Zm2 N [1,0,1,0])] at h
  exact Eq.trans (by kernel_rfl) h.symm
theorem Zpb (N:Nat):Good Tryz.prog 210 (Zkj N):=GF Zm2 N Tryz.func210 (Wa (Zsd N) Zsc We) (by kernel_rfl) (fun d=>Z4s N d.1 d.2.1)
def Zhr (N:Nat):Sig:=Sig.of [.v Jj false,.v Ja false] [.v Ja false,.v Jp false] (fun d=>Zhg N d.1 d.2.1)
def Z1a:Fn:=⟨Tryz.f211,Wz,Zhr,fun N=>[(208,Zgn N),(209,Ze5 N),(210,Zkj N)]⟩
theorem Znd:Wc Tryz.prog 211:=Wb Tryz.func211 (show Wg Tryz.f211 = true by kernel_rfl)
theorem Zne (N:Nat):Good Tryz.prog 211 (Zhr N):=GF Z1a N Tryz.func211 (Wa (Zjw N) Zjv (Wa (Zhi N) Zhh (Wa (Zpb N) Zpa We))) (by kernel_rfl) (fun d=>by kernel_rfl)
def Zhs (N:Nat):Sig:=Sig.of [.v Jj false,.v Ja false,.v Ja false] [.v Jac false,.v Ja false,.v Jp false] (fun d=>Zcg N d.1 d.2.1 d.2.2.1)
def Zjx:Fn:=⟨Tryz.f158,fun | 10=>[.canon [1,2,9,13,57]] | 11=>[.canon [1,2,9,13]] | 100010=>[.canon [1,2,9,13]] | _=>[],Zhs,fun N=>[(72,Z4 N),(208,Zgn N),(209,Ze5 N),(130,Za7 N),(210,Zkj N),(211,Zhr N),(212,Zla N),(213,Ziy N)]⟩
def Zuj (key12:Int) (v13:Int) (at14:Int) (l15:List Int):St:=⟨[(1,vI key12),(2,vI v13),(9,vO 0),(13,vI at14)],[(0,.arr Ja l15)],1⟩
def Zsg (key12:Int) (v13:Int) (l15:List Int) (at16:Int) (t17:Bool):St:=⟨[(1,vI key12),(2,vI v13),(9,vO 0),(13,vI at16),(57,vB t17)],[(0,.arr Ja l15)],1⟩
theorem Zuk (N:Nat) {R:Type} (K:Ex → St → Option R) {key12:Int} {v13:Int} {l15:List Int} {K0:Int → Bool → Option R} (h0:K0 = fun at16 t17=>K (.exit 0) (Zsg key12 v13 l15 at16 t17)) (n:Nat) (at14:Int):Zc1 N key12 v13 l15 K0 n at14 = LM Zjx N 0 100010 n (Zuj key12 v13 at14 l15) K:=by
  subst h0
  induction n generalizing at14 with
  | zero=>kernel_rfl
  | succ n ih=>rw [Zc1]; simp (disch:=exact id (by kernel_rfl)) only [ih]; kernel_rfl
theorem Znf:Wc Tryz.prog 158:=Wb Tryz.func158 (show Wg Tryz.f158 = true by kernel_rfl)
theorem Z1b (N:Nat) (l1:List Int) (key2:Int) (v3:Int):DN Zjx N (l1,key2,v3,()) = Zcg N l1 key2 v3:=by
  have h:Zcg N l1 key2 v3 = Zcg N l1 key2 v3:=rfl
  conv at h=>rhs; rw [Zcg]
  simp (disch:=exact id (by kernel_rfl)) only [Zuk (R:=Unit × (Kj × (Int × Kf))) N (CF Zjx N [1,1,1,1,1,0,0])] at h
  exact Eq.trans (by kernel_rfl) h.symm
theorem Zng (N:Nat):Good Tryz.prog 158 (Zhs N):=GF Zjx N Tryz.func158 (Wa (Zag N) Zaf (Wa (Zjw N) Zjv (Wa (Zhi N) Zhh (Wa (Zbs N) Zbr (Wa (Zpb N) Zpa (Wa (Zne N) Znd (Wa (Zq1 N) Zq0 (Wa (Zpl N) Zpk We)))))))) (by kernel_rfl) (fun d=>Z1b N d.1 d.2.1 d.2.2.1)
def Zlp (N:Nat):Sig:=Sig.of [.v Jj false] [.v Jac false] (fun d=>Za1 N d.1)
def Zij:Fn:=⟨Tryz.f107,fun | 5=>[.canon [3,10,11,12,13]] | 6=>[.canon [3,4,5,10,11,12]] | 7=>[.canon [3,4,5,10,11,12,18]] | 8=>[.canon [3,10,11,12]] | 9=>[.canon [3,10,11,12]] | 100005=>[.canon [3,10,11,12]] | _=>[],Zlp,fun N=>[(156,Zl6 N),(157,Znc N),(158,Zhs N)]⟩
def Zrd (t4:List Int) (t6:Int) (l7:List Int):St:=⟨[(3,vO 0),(10,vV Jj t4),(11,vI (ilen t4)),(12,vI t6)],[(0,.arr Ja l7)],1⟩
def Zqi (t4:List Int) (t10:Int) (t11:Bool) (l12:List Int):St:=⟨[(3,vO 0),(10,vV Jj t4),(11,vI (ilen t4)),(12,vI t10),(13,vB t11)],[(0,.arr Ja l12)],1⟩
theorem Zre (N:Nat) {R:Type} (K:Ex → St → Option R) {t4:List Int} {K0:Int → Bool → Kj → Option R} (h0:K0 = fun t10 t11 l12=>K (.exit 0) (Zqi t4 t10 t11 l12)) (n:Nat) (t6:Int) (l7:List Int):Zbm N t4 K0 n t6 l7 = LM Zij N 0 100005 n (Zrd t4 t6 l7) K:=by
  subst h0
  induction n generalizing t6 l7 with
  | zero=>kernel_rfl
  | succ n ih=>rw [Zbm]; simp (disch:=exact id (by kernel_rfl)) only [ih]; kernel_rfl
theorem Zyh:Wc Tryz.prog 107:=Wb Tryz.func107 (show Wg Tryz.f107 = true by kernel_rfl)
theorem Zyi (N:Nat) (m1:List Int):DN Zij N (m1,()) = Za1 N m1:=by
  have h:Za1 N m1 = Za1 N m1:=rfl
  conv at h=>rhs; rw [Za1]
  simp (disch:=exact id (by kernel_rfl)) only [Zre (R:=Unit × (Kj × Unit)) N (CF Zij N [1,1,1,0,1,0])] at h
  exact Eq.trans (by kernel_rfl) h.symm
theorem Zyj (N:Nat):Good Tryz.prog 107 (Zlp N):=GF Zij N Tryz.func107 (Wa (Zsa N) Zr9 (Wa (Z08 N) Z07 (Wa (Zng N) Znf We))) (by kernel_rfl) (fun d=>Zyi N d.1)
def Zn7 (N:Nat):Sig:=Sig.of [.v Jj false] [.v Jag true,.v Jp false] (fun d=>Zbj N d.1)
def Zlb:Fn:=⟨Tryz.f53,fun | 5=>[.canon [2,4,12,13,14,15]] | 6=>[.canon [2,4,6,12,13,14]] | 7=>[.canon [2,4,12,13,14]] | 8=>[.canon [2,4,12,13,14]] | 100005=>[.adoptC 4 1 Jl,.canon [2,4,12,13,14]] | _=>[],Zn7,fun N=>[(71,Zc5 N)]⟩
def Zww (t3:List Int) (t5:Int) (l8:List Kb):St:=⟨[(2,vP 0 0),(4,vP 1 0),(12,vV Jj t3),(13,vI (ilen t3)),(14,vI t5)],[(0,.box [.val Ja (0:Int),.nils]),(1,.box [.val Ja (0:Int),.own 2]),(2,.arr Jl l8)],3⟩
def Zul (t3:List Int) (t9:Int) (t10:Bool) (l11:List Kb):St:=⟨[(2,vP 0 0),(4,vP 1 0),(12,vV Jj t3),(13,vI (ilen t3)),(14,vI t9),(15,vB t10)],[(0,.box [.val Ja (0:Int),.nils]),(1,.box [.val Ja (0:Int),.own 2]),(2,.arr Jl l11)],3⟩
theorem Zwx (N:Nat) {R:Type} (K:Ex → St → Option R) {t3:List Int} {K0:Int → Bool → Kn → Option R} (h0:K0 = fun t9 t10 l11=>K (.exit 0) (Zul t3 t9 t10 l11)) (n:Nat) (t5:Int) (l8:List Kb):Zdi N t3 K0 n t5 l8 = LM Zlb N 0 100005 n (Zww t3 t5 l8) K:=by
  subst h0
  induction n generalizing t5 l8 with
  | zero=>kernel_rfl
  | succ n ih=>rw [Zdi]; simp (disch:=exact id (by kernel_rfl)) only [ih]; kernel_rfl
theorem Z3e:Wc Tryz.prog 53:=Wb Tryz.func53 (show Wg Tryz.f53 = true by kernel_rfl)
theorem Z3f (N:Nat) (l1:List Int):DN Zlb N (l1,()) = Zbj N l1:=by
  have h:Zbj N l1 = Zbj N l1:=rfl
  conv at h=>rhs; rw [Zbj]
  simp (disch:=exact id (by kernel_rfl)) only [Zwx (R:=Unit × ((Int × List Kb) × Kf)) N (CF Zlb N [1,1,1,0,1,0])] at h
  exact Eq.trans (by kernel_rfl) h.symm
theorem Z3g (N:Nat):Good Tryz.prog 53 (Zn7 N):=GF Zlb N Tryz.func53 (Wa (Zgz N) Zgy We) (by kernel_rfl) (fun d=>Z3f N d.1)
def Zc6 (N:Nat):Sig:=Sig.of [.box Jae] [] (fun d=>Zbe N d.1)
def Zyk:Fn:=⟨Tryz.f198,Wz,Zc6,Wci⟩
theorem Zg0:Wc Tryz.prog 198:=Wb Tryz.func198 (show Wg Tryz.f198 = true by kernel_rfl)
theorem Zg1 (N:Nat):Good Tryz.prog 198 (Zc6 N):=GF Zyk N Tryz.func198 We (by kernel_rfl) (fun d=>by kernel_rfl)
def Zkp (N:Nat):Sig:=Sig.of [.box Jw,.v Ja false] [] (fun d=>Zck N d.1 d.2.1)
def Zh1:Fn:=⟨Tryz.f199,fun | 3=>[.canon [0,1,4,5,17,18,19,20]] | 4=>[.canon [0,1,4,5,6,7,17,18,19]] | 5=>[.canon [0,1,4,5,17,18,19]] | 6=>[.canon [0,1,4,5,17,18,19]] | 100003=>[.canon [0,1,4,5,17,18,19]] | _=>[],Zkp,Wci⟩
def Zqj (k3:Int) (r4:Nat) (alone5:Bool) (t6:Int) (t7:Int) (b8:Int) (b9:Int) (b10:Int) (b11:Int) (l12:List Y_Root) (l13:List Kb) (l14:List Int) (l15:List Kb) (l16:List Kl):St:=⟨[(0,vP 0 0),(1,vI k3),(4,.s (.one (.eptr 1 r4 0))),(5,vB alone5),(17,vO 1),(18,vI t6),(19,vI t7)],[(0,.box [.val Ja b8,.val Ja b9,.val Ja b10,.own 2,.own 3,.val Ja b11,.own 4,.own 1,.own 5]),(1,.arr Jae l12),(2,.arr Jl l13),(3,.arr Ja l14),(4,.arr Jl l15),(5,.arr Jab l16)],6⟩
def Zp7 (k3:Int) (r4:Nat) (t6:Int) (b8:Int) (b9:Int) (b10:Int) (b11:Int) (l12:List Y_Root) (l13:List Kb) (l14:List Int) (l15:List Kb) (l16:List Kl) (alone17:Bool) (t18:Int) (t19:Bool):St:=⟨[(0,vP 0 0),(1,vI k3),(4,.s (.one (.eptr 1 r4 0))),(5,vB alone17),(17,vO 1),(18,vI t6),(19,vI t18),(20,vB t19)],[(0,.box [.val Ja b8,.val Ja b9,.val Ja b10,.own 2,.own 3,.val Ja b11,.own 4,.own 1,.own 5]),(1,.arr Jae l12),(2,.arr Jl l13),(3,.arr Ja l14),(4,.arr Jl l15),(5,.arr Jab l16)],6⟩
theorem Zqk (N:Nat) {R:Type} (K:Ex → St → Option R) {k3:Int} {r4:Nat} {t6:Int} {b8:Int} {b9:Int} {b10:Int} {b11:Int} {l12:List Y_Root} {l13:List Kb} {l14:List Int} {l15:List Kb} {l16:List Kl} {K0:Bool → Int → Bool → Option R} (h0:K0 = fun alone17 t18 t19=>K (.exit 0) (Zp7 k3 r4 t6 b8 b9 b10 b11 l12 l13 l14 l15 l16 alone17 t18 t19)) (n:Nat) (alone5:Bool) (t7:Int):Zaw N k3 r4 t6 b8 b9 b10 b11 l12 l13 l14 l15 l16 K0 n alone5 t7 = LM Zh1 N 0 100003 n (Zqj k3 r4 alone5 t6 t7 b8 b9 b10 b11 l12 l13 l14 l15 l16) K:=by
  subst h0
  induction n generalizing alone5 t7 with
  | zero=>kernel_rfl
  | succ n ih=>rw [Zaw]; simp (disch:=exact id (by kernel_rfl)) only [ih]; kernel_rfl
theorem Zwy:Wc Tryz.prog 199:=Wb Tryz.func199 (show Wg Tryz.f199 = true by kernel_rfl)
theorem Zwz (N:Nat) (w1:Y_World) (k2:Int):DN Zh1 N (w1,k2,()) = Zck N w1 k2:=by
  have h:Zck N w1 k2 = Zck N w1 k2:=rfl
  conv at h=>rhs; rw [Zck]
  simp (disch:=exact id (by kernel_rfl)) only [Zqk (R:=(Y_World × Unit) × Unit) N (CF Zh1 N [1,1,0,1,0])] at h
  exact Eq.trans (by kernel_rfl) h.symm
theorem Zw0 (N:Nat):Good Tryz.prog 199 (Zkp N):=GF Zh1 N Tryz.func199 We (by kernel_rfl) (fun d=>Zwz N d.1 d.2.1)
def Zlc (N:Nat):Sig:=Sig.of [.v Ja false,.v Ja false,.v Ja false] [.v Jp false] (fun d=>Zh7 N d.1 d.2.1 d.2.2.1)
def Z3h:Fn:=⟨Tryz.f280,Wz,Zlc,fun N=>[(55,Z1 N)]⟩
theorem Zq2:Wc Tryz.prog 280:=Wb Tryz.func280 (show Wg Tryz.f280 = true by kernel_rfl)
theorem Zq3 (N:Nat):Good Tryz.prog 280 (Zlc N):=GF Z3h N Tryz.func280 (Wa (Zab N) Zaa We) (by kernel_rfl) (fun d=>by kernel_rfl)
def Zjc (N:Nat):Sig:=Sig.of [.v Jl true,.v Jl true] [.v Ja false] (fun d=>Zhy N d.1 d.2.1)
def Zsh:Fn:=⟨Tryz.f281,Wz,Zjc,Wci⟩
theorem Zsi:Wc Tryz.prog 281:=Wb Tryz.func281 (show Wg Tryz.f281 = true by kernel_rfl)
theorem Zsj (N:Nat):Good Tryz.prog 281 (Zjc N):=GF Zsh N Tryz.func281 We (by kernel_rfl) (fun d=>by kernel_rfl)
def Zgo (N:Nat):Sig:=Sig.of [.v Je false] [.v Jp false] (fun d=>Zch N d.1)
def Zjy:Fn:=⟨Tryz.f241,fun | 2=>[.canon [0,5,6,7,8]] | 3=>[.canon [0,3,4,5,6,7]] | 4=>[.canon [0,3,4,5,6,7,33]] | 5=>[.canon [2]] | 6=>[.canon [0,5,6,7,60]] | 7=>[.canon [2]] | 8=>[.canon [0,5,6,7]] | 100002=>[.canon [0,5,6,7]] | _=>[],Zgo,fun N=>[(280,Zlc N),(281,Zjc N)]⟩
def Zum (l2:List Kb) (t5:Int):St:=⟨[(0,vV Je l2),(5,vV Je l2),(6,vI (ilen l2)),(7,vI t5)],[],0⟩
def Zsk (l2:List Kb):St:=⟨[(2,vB false)],[],0⟩
def Zsl (l2:List Kb) (t10:Int) (t11:Bool):St:=⟨[(0,vV Je l2),(5,vV Je l2),(6,vI (ilen l2)),(7,vI t10),(8,vB t11)],[],0⟩
theorem Zun (N:Nat) {R:Type} (K:Ex → St → Option R) {l2:List Kb} {K0:Option R} {K1:Int → Bool → Option R} (h0:K0 = K .ret (Zsk l2)) (h1:K1 = fun t10 t11=>K (.exit 0) (Zsl l2 t10 t11)) (n:Nat) (t5:Int):Zat N l2 K0 K1 n t5 = LM Zjy N 0 100002 n (Zum l2 t5) K:=by
  subst h0 h1
  induction n generalizing t5 with
  | zero=>kernel_rfl
  | succ n ih=>rw [Zat]; simp (disch:=exact id (by kernel_rfl)) only [ih]; kernel_rfl
theorem Zjz:Wc Tryz.prog 241:=Wb Tryz.func241 (show Wg Tryz.f241 = true by kernel_rfl)
theorem Z1c (N:Nat) (l1:List Kb):DN Zjy N (l1,()) = Zch N l1:=by
  have h:Zch N l1 = Zch N l1:=rfl
  conv at h=>rhs; rw [Zch]
  simp (disch:=exact id (by kernel_rfl)) only [Zun (R:=Unit × Kf) N (CF Zjy N [1,0,1,0])] at h
  exact Eq.trans (by kernel_rfl) h.symm
theorem Zj0 (N:Nat):Good Tryz.prog 241 (Zgo N):=GF Zjy N Tryz.func241 (Wa (Zq3 N) Zq2 (Wa (Zsj N) Zsi We)) (by kernel_rfl) (fun d=>Z1c N d.1)
def Znh (N:Nat):Sig:=Sig.of [.v Je false,.v Ja false] [.v Jac false] (fun d=>Zdb N d.1 d.2.1)
def Zj1:Fn:=⟨Tryz.f262,fun | 5=>[.canon [1,5,12,13,14,15]] | 6=>[.canon [1,5,7,12,13,14]] | 7=>[.canon [1,5,7,12,13,14,21]] | 8=>[.canon [1,5,12,13,14]] | 9=>[.canon [1,5,12,13,14]] | 100005=>[.canon [1,5,12,13,14]] | _=>[],Znh,fun N=>[(241,Zgo N)]⟩
def Zuo (who4:Int) (t5:List Kb) (t7:Int) (l8:List Int):St:=⟨[(1,vI who4),(5,vO 0),(12,vV Je t5),(13,vI (ilen t5)),(14,vI t7)],[(0,.arr Ja l8)],1⟩
def Zsm (who4:Int) (t5:List Kb) (t9:Int) (t10:Bool) (l11:List Int):St:=⟨[(1,vI who4),(5,vO 0),(12,vV Je t5),(13,vI (ilen t5)),(14,vI t9),(15,vB t10)],[(0,.arr Ja l11)],1⟩
theorem Zup (N:Nat) {R:Type} (K:Ex → St → Option R) {who4:Int} {t5:List Kb} {K0:Int → Bool → Kj → Option R} (h0:K0 = fun t9 t10 l11=>K (.exit 0) (Zsm who4 t5 t9 t10 l11)) (n:Nat) (t7:Int) (l8:List Int):Zb9 N who4 t5 K0 n t7 l8 = LM Zj1 N 0 100005 n (Zuo who4 t5 t7 l8) K:=by
  subst h0
  induction n generalizing t7 l8 with
  | zero=>kernel_rfl
  | succ n ih=>rw [Zb9]; simp (disch:=exact id (by kernel_rfl)) only [ih]; kernel_rfl
theorem Z1d:Wc Tryz.prog 262:=Wb Tryz.func262 (show Wg Tryz.f262 = true by kernel_rfl)
theorem Z1e (N:Nat) (l1:List Kb) (who2:Int):DN Zj1 N (l1,who2,()) = Zdb N l1 who2:=by
  have h:Zdb N l1 who2 = Zdb N l1 who2:=rfl
  conv at h=>rhs; rw [Zdb]
  simp (disch:=exact id (by kernel_rfl)) only [Zup (R:=Unit × (Kj × Unit)) N (CF Zj1 N [1,1,1,0,1,0])] at h
  exact Eq.trans (by kernel_rfl) h.symm
theorem Z1f (N:Nat):Good Tryz.prog 262 (Znh N):=GF Zj1 N Tryz.func262 (Wa (Zj0 N) Zjz We) (by kernel_rfl) (fun d=>Z1e N d.1 d.2.1)
def Zik (N:Nat):Sig:=Sig.of [.box Jw,.v Ja false] [] (fun d=>Zgm N d.1 d.2.1)
def Zyl:Fn:=⟨Tryz.f207,fun | 0=>[.opn 10] | _=>[],Zik,Wci⟩
theorem Zo0:Wc Tryz.prog 207:=Wb Tryz.func207 (show Wg Tryz.f207 = true by kernel_rfl)
theorem Zo1 (N:Nat):Good Tryz.prog 207 (Zik N):=GF Zyl N Tryz.func207 We (by kernel_rfl) (fun d=>by kernel_rfl)
def Zeu (N:Nat):Sig:=Sig.of [.v Ja false] [.v Jp false] (fun d=>Zez N d.1)
def Z1g:Fn:=⟨Tryz.f288,Wz,Zeu,fun N=>[(55,Z1 N)]⟩
theorem Zht:Wc Tryz.prog 288:=Wb Tryz.func288 (show Wg Tryz.f288 = true by kernel_rfl)
theorem Zhu (N:Nat):Good Tryz.prog 288 (Zeu N):=GF Z1g N Tryz.func288 (Wa (Zab N) Zaa We) (by kernel_rfl) (fun d=>by kernel_rfl)
def Zg4 (N:Nat):Sig:=Sig.of [.v Jg false] [.v Jp false] (fun d=>Zb1 N d.1)
def Zld:Fn:=⟨Tryz.f73,fun | 2=>[.canon [0,5,6,7,8]] | 3=>[.canon [0,4,5,6,7]] | 4=>[.canon [0,5,6,7,20]] | 5=>[.canon [2]] | 6=>[.canon [0,5,6,7]] | 100002=>[.canon [0,5,6,7]] | _=>[],Zg4,fun N=>[(65,Zb6 N),(130,Za7 N)]⟩
def Zw1 (l2:List Kc) (t5:Int):St:=⟨[(0,vV Jg l2),(5,vV Jg l2),(6,vI (ilen l2)),(7,vI t5)],[],0⟩
def Zuq (l2:List Kc):St:=⟨[(2,vB false)],[],0⟩
def Zur (l2:List Kc) (t10:Int) (t11:Bool):St:=⟨[(0,vV Jg l2),(5,vV Jg l2),(6,vI (ilen l2)),(7,vI t10),(8,vB t11)],[],0⟩
theorem Zw2 (N:Nat) {R:Type} (K:Ex → St → Option R) {l2:List Kc} {K0:Option R} {K1:Int → Bool → Option R} (h0:K0 = K .ret (Zuq l2)) (h1:K1 = fun t10 t11=>K (.exit 0) (Zur l2 t10 t11)) (n:Nat) (t5:Int):Zdh N l2 K0 K1 n t5 = LM Zld N 0 100002 n (Zw1 l2 t5) K:=by
  subst h0 h1
  induction n generalizing t5 with
  | zero=>kernel_rfl
  | succ n ih=>rw [Zdh]; simp (disch:=exact id (by kernel_rfl)) only [ih]; kernel_rfl
theorem Zle:Wc Tryz.prog 73:=Wb Tryz.func73 (show Wg Tryz.f73 = true by kernel_rfl)
theorem Z3i (N:Nat) (l1:List Kc):DN Zld N (l1,()) = Zb1 N l1:=by
  have h:Zb1 N l1 = Zb1 N l1:=rfl
  conv at h=>rhs; rw [Zb1]
  simp (disch:=exact id (by kernel_rfl)) only [Zw2 (R:=Unit × Kf) N (CF Zld N [1,0,1,0])] at h
  exact Eq.trans (by kernel_rfl) h.symm
theorem Zlf (N:Nat):Good Tryz.prog 73 (Zg4 N):=GF Zld N Tryz.func73 (Wa (Zdv N) Zdu (Wa (Zbs N) Zbr We)) (by kernel_rfl) (fun d=>Z3i N d.1)
def Zkk (N:Nat):Sig:=Sig.of [.v Jg false,.v Ja false] [.v Ja false,.v Jp false] (fun d=>Zfk N d.1 d.2.1)
def Zm3:Fn:=⟨Tryz.f172,fun | 4=>[.canon [0,1,6,14]] | 5=>[.canon [0,1,6]] | 6=>[.canon [0,1,6,23]] | 7=>[.canon [4,5]] | 100004=>[.canon [0,1,6]] | _=>[],Zkk,fun N=>[(73,Zg4 N)]⟩
def Zz1 (l4:List Kc) (cell5:Int) (i6:Int):St:=⟨[(0,vV Jg l4),(1,vI cell5),(6,vI i6)],[],0⟩
def Zym (l4:List Kc) (cell5:Int) (t7:Int):St:=⟨[(4,vI t7),(5,vB true)],[],0⟩
def Zyn (l4:List Kc) (cell5:Int) (i8:Int) (t9:Bool):St:=⟨[(0,vV Jg l4),(1,vI cell5),(6,vI i8),(14,vB t9)],[],0⟩
theorem Zz2 (N:Nat) {R:Type} (K:Ex → St → Option R) {l4:List Kc} {cell5:Int} {K0:Int → Option R} {K1:Int → Bool → Option R} (h0:K0 = fun t7=>K .ret (Zym l4 cell5 t7)) (h1:K1 = fun i8 t9=>K (.exit 0) (Zyn l4 cell5 i8 t9)) (n:Nat) (i6:Int):Zg2 N l4 cell5 K0 K1 n i6 = LM Zm3 N 0 100004 n (Zz1 l4 cell5 i6) K:=by
  subst h0 h1
  induction n generalizing i6 with
  | zero=>kernel_rfl
  | succ n ih=>rw [Zg2]; simp (disch:=exact id (by kernel_rfl)) only [ih]; kernel_rfl
theorem Zpc:Wc Tryz.prog 172:=Wb Tryz.func172 (show Wg Tryz.f172 = true by kernel_rfl)
theorem Z4t (N:Nat) (l1:List Kc) (cell2:Int):DN Zm3 N (l1,cell2,()) = Zfk N l1 cell2:=by
  have h:Zfk N l1 cell2 = Zfk N l1 cell2:=rfl
  conv at h=>rhs; rw [Zfk]
  simp (disch:=exact id (by kernel_rfl)) only [Zz2 (R:=Unit × (Int × Kf)) N (CF Zm3 N [1,1,0,1,0])] at h
  exact Eq.trans (by kernel_rfl) h.symm
theorem Zpd (N:Nat):Good Tryz.prog 172 (Zkk N):=GF Zm3 N Tryz.func172 (Wa (Zlf N) Zle We) (by kernel_rfl) (fun d=>Z4t N d.1 d.2.1)
def Zjd (N:Nat):Sig:=Sig.of [.v Jg false] [.v (.own Jx) false] (fun d=>Zd8 N d.1)
def Zn8:Fn:=⟨Tryz.f118,fun | 5=>[.canon [0,3,11,12]] | 6=>[.canon [0,3,4,11]] | 7=>[.canon [0,3,4,5,6,11]] | 8=>[.canon [0,3,4,5,11,20]] | 9=>[.canon [0,3,11]] | 10=>[.canon [0,3,11]] | 100005=>[.canon [0,3,11]] | _=>[],Zjd,fun N=>[(73,Zg4 N),(172,Zkk N)]⟩
def Z1h (l3:List Kc) (t4:Int) (l5:List Kc):St:=⟨[(0,vV Jg l3),(3,vO 0),(11,vI t4)],[(0,.arr Jx l5)],1⟩
def Zz3 (l3:List Kc) (t7:Int) (t8:Bool) (l9:List Kc):St:=⟨[(0,vV Jg l3),(3,vO 0),(11,vI t7),(12,vB t8)],[(0,.arr Jx l9)],1⟩
theorem Z1i (N:Nat) {R:Type} (K:Ex → St → Option R) {l3:List Kc} {K0:Int → Bool → (List Kc) → Option R} (h0:K0 = fun t7 t8 l9=>K (.exit 0) (Zz3 l3 t7 t8 l9)) (n:Nat) (t4:Int) (l5:List Kc):Zgl N l3 K0 n t4 l5 = LM Zn8 N 0 100005 n (Z1h l3 t4 l5) K:=by
  subst h0
  induction n generalizing t4 l5 with
  | zero=>kernel_rfl
  | succ n ih=>rw [Zgl]; simp (disch:=exact id (by kernel_rfl)) only [ih]; kernel_rfl
theorem Zn9:Wc Tryz.prog 118:=Wb Tryz.func118 (show Wg Tryz.f118 = true by kernel_rfl)
theorem Z44 (N:Nat) (l1:List Kc):DN Zn8 N (l1,()) = Zd8 N l1:=by
  have h:Zd8 N l1 = Zd8 N l1:=rfl
  conv at h=>rhs; rw [Zd8]
  simp (disch:=exact id (by kernel_rfl)) only [Z1i (R:=Unit × ((List Kc) × Unit)) N (CF Zn8 N [1,1,1,0,1,0])] at h
  exact Eq.trans (by kernel_rfl) h.symm
theorem Zoa (N:Nat):Good Tryz.prog 118 (Zjd N):=GF Zn8 N Tryz.func118 (Wa (Zlf N) Zle (Wa (Zpd N) Zpc We)) (by kernel_rfl) (fun d=>Z44 N d.1)
def Zni (N:Nat):Sig:=Sig.of [.v Jg false] [.v Jac false] (fun d=>Ze0 N d.1)
def Zj2:Fn:=⟨Tryz.f289,fun | 3=>[.canon [3,8,9,10,11]] | 4=>[.canon [3,5,8,9,10]] | 5=>[.canon [3,8,9,10]] | 6=>[.canon [3,8,9,10]] | 100003=>[.canon [3,8,9,10]] | _=>[],Zni,fun N=>[(118,Zjd N)]⟩
def Zus (t3:Int) (t4:Int) (l5:List Int) (l6:List Kc):St:=⟨[(3,vO 0),(8,vO 1),(9,vI t3),(10,vI t4)],[(0,.arr Ja l5),(1,.arr Jx l6)],2⟩
def Zsn (t3:Int) (l6:List Kc) (t7:Int) (t8:Bool) (l9:List Int):St:=⟨[(3,vO 0),(8,vO 1),(9,vI t3),(10,vI t7),(11,vB t8)],[(0,.arr Ja l9),(1,.arr Jx l6)],2⟩
theorem Zut (N:Nat) {R:Type} (K:Ex → St → Option R) {t3:Int} {l6:List Kc} {K0:Int → Bool → Kj → Option R} (h0:K0 = fun t7 t8 l9=>K (.exit 0) (Zsn t3 l6 t7 t8 l9)) (n:Nat) (t4:Int) (l5:List Int):Zc2 N t3 l6 K0 n t4 l5 = LM Zj2 N 0 100003 n (Zus t3 t4 l5 l6) K:=by
  subst h0
  induction n generalizing t4 l5 with
  | zero=>kernel_rfl
  | succ n ih=>rw [Zc2]; simp (disch:=exact id (by kernel_rfl)) only [ih]; kernel_rfl
theorem Z1j:Wc Tryz.prog 289:=Wb Tryz.func289 (show Wg Tryz.f289 = true by kernel_rfl)
theorem Z1k (N:Nat) (l1:List Kc):DN Zj2 N (l1,()) = Ze0 N l1:=by
  have h:Ze0 N l1 = Ze0 N l1:=rfl
  conv at h=>rhs; rw [Ze0]
  simp (disch:=exact id (by kernel_rfl)) only [Zut (R:=Unit × (Kj × Unit)) N (CF Zj2 N [1,1,0,1,0])] at h
  exact Eq.trans (by kernel_rfl) h.symm
theorem Z1l (N:Nat):Good Tryz.prog 289 (Zni N):=GF Zj2 N Tryz.func289 (Wa (Zoa N) Zn9 We) (by kernel_rfl) (fun d=>Z1k N d.1)
def Zlq (N:Nat):Sig:=Sig.of [.v Ja false,.v Ja false,.v Jg false,.v Jg false] [.v Jd true,.v Jp false] (fun d=>Zeq N d.1 d.2.1 d.2.2.1 d.2.2.2.1)
def Zyo:Fn:=⟨Tryz.f263,Wz,Zlq,fun N=>[(288,Zeu N),(55,Z1 N),(73,Zg4 N),(118,Zjd N),(289,Zni N)]⟩
theorem Zyp:Wc Tryz.prog 263:=Wb Tryz.func263 (show Wg Tryz.f263 = true by kernel_rfl)
theorem Zyq (N:Nat):Good Tryz.prog 263 (Zlq N):=GF Zyo N Tryz.func263 (Wa (Zhu N) Zht (Wa (Zab N) Zaa (Wa (Zlf N) Zle (Wa (Zoa N) Zn9 (Wa (Z1l N) Z1j We))))) (by kernel_rfl) (fun d=>by kernel_rfl)
def Zhd (N:Nat):Sig:=Sig.of [.box Jw,.v Ja false,.v Ja false] [] (fun d=>Zgv N d.1 d.2.1 d.2.2.1)
def Zuu:Fn:=⟨Tryz.f233,fun | 0=>[.opn 13] | _=>[],Zhd,fun N=>[(262,Znh N),(207,Zik N),(263,Zlq N)]⟩
theorem Zob:Wc Tryz.prog 233:=Wb Tryz.func233 (show Wg Tryz.f233 = true by kernel_rfl)
theorem Zoc (N:Nat):Good Tryz.prog 233 (Zhd N):=GF Zuu N Tryz.func233 (Wa (Z1f N) Z1d (Wa (Zo1 N) Zo0 (Wa (Zyq N) Zyp We))) (by kernel_rfl) (fun d=>by kernel_rfl)
def Ziz (N:Nat):Sig:=Sig.of [.v Ja false] [.v Jy true,.v Jp false] (fun d=>Zfn N d.1)
def Zz4:Fn:=⟨Tryz.f220,Wz,Ziz,fun N=>[(65,Zb6 N)]⟩
theorem Zpm:Wc Tryz.prog 220:=Wb Tryz.func220 (show Wg Tryz.f220 = true by kernel_rfl)
theorem Zpn (N:Nat):Good Tryz.prog 220 (Ziz N):=GF Zz4 N Tryz.func220 (Wa (Zdv N) Zdu We) (by kernel_rfl) (fun d=>by kernel_rfl)
def Ze9 (N:Nat):Sig:=Sig.of [.v Ju true] [.v Jp false] (fun d=>Zb3 N d.1)
def Zma:Fn:=⟨Tryz.f124,fun | 2=>[.canon [1,6,7,8,9]] | 3=>[.canon [1,4,6,7,8]] | 4=>[.canon [1,6,7,8,29]] | 5=>[.canon [2]] | 6=>[.canon [1,6,7,8]] | 100002=>[.canon [1,6,7,8]] | _=>[],Ze9,fun N=>[(130,Za7 N),(55,Z1 N)]⟩
def Zyr (t2:List Kb) (t4:Int) (b5:Int × List Kb):St:=⟨[(1,vP 0 0),(6,vV Je t2),(7,vI (ilen b5.2)),(8,vI t4)],[(0,.box [.val Ja b5.1,.val Je b5.2])],1⟩
def Zw3 (t2:List Kb) (b5:Int × List Kb):St:=⟨[(2,vB false)],[],0⟩
def Zw4 (t2:List Kb) (b5:Int × List Kb) (t12:Int) (t13:Bool):St:=⟨[(1,vP 0 0),(6,vV Je t2),(7,vI (ilen b5.2)),(8,vI t12),(9,vB t13)],[(0,.box [.val Ja b5.1,.val Je b5.2])],1⟩
theorem Zys (N:Nat) {R:Type} (K:Ex → St → Option R) {t2:List Kb} {b5:Int × List Kb} {K0:Option R} {K1:Int → Bool → Option R} (h0:K0 = K .ret (Zw3 t2 b5)) (h1:K1 = fun t12 t13=>K (.exit 0) (Zw4 t2 b5 t12 t13)) (n:Nat) (t4:Int):Zem N t2 b5 K0 K1 n t4 = LM Zma N 0 100002 n (Zyr t2 t4 b5) K:=by
  subst h0 h1
  induction n generalizing t4 with
  | zero=>kernel_rfl
  | succ n ih=>rw [Zem]; simp (disch:=exact id (by kernel_rfl)) only [ih]; kernel_rfl
theorem Zhj:Wc Tryz.prog 124:=Wb Tryz.func124 (show Wg Tryz.f124 = true by kernel_rfl)
theorem Z4k (N:Nat) (m1:Int × List Kb):DN Zma N (m1,()) = Zb3 N m1:=by
  have h:Zb3 N m1 = Zb3 N m1:=rfl
  conv at h=>rhs; rw [Zb3]
  simp (disch:=exact id (by kernel_rfl)) only [Zys (R:=Unit × Kf) N (CF Zma N [1,0,1,0])] at h
  exact Eq.trans (by kernel_rfl) h.symm
theorem Zhk (N:Nat):Good Tryz.prog 124 (Ze9 N):=GF Zma N Tryz.func124 (Wa (Zbs N) Zbr (Wa (Zab N) Zaa We)) (by kernel_rfl) (fun d=>Z4k N d.1)
def Znj (N:Nat):Sig:=Sig.of [.v Jy true] [.v Jp false] (fun d=>Zlz N d.1)
def Z1m:Fn:=⟨Tryz.f249,Wz,Znj,fun N=>[(65,Zb6 N),(55,Z1 N),(130,Za7 N)]⟩
theorem Z1n:Wc Tryz.prog 249:=Wb Tryz.func249 (show Wg Tryz.f249 = true by kernel_rfl)
theorem Z1o (N:Nat):Good Tryz.prog 249 (Znj N):=GF Z1m N Tryz.func249 (Wa (Zdv N) Zdu (Wa (Zab N) Zaa (Wa (Zbs N) Zbr We))) (by kernel_rfl) (fun d=>by kernel_rfl)
def Zil (N:Nat):Sig:=Sig.of [.v Ju true,.v Ja false,.v Jy true] [.v Jy true] (fun d=>Zen N d.1 d.2.1 d.2.2.1)
def Zyt:Fn:=⟨Tryz.f221,Wz,Zil,fun N=>[(124,Ze9 N),(249,Znj N)]⟩
theorem Zo2:Wc Tryz.prog 221:=Wb Tryz.func221 (show Wg Tryz.f221 = true by kernel_rfl)
theorem Zo3 (N:Nat):Good Tryz.prog 221 (Zil N):=GF Zyt N Tryz.func221 (Wa (Zhk N) Zhj (Wa (Z1o N) Z1n We)) (by kernel_rfl) (fun d=>by kernel_rfl)
def Zgs (N:Nat):Sig:=Sig.of [.box Jae] [] (fun d=>Zdc N d.1)
def Zrf:Fn:=⟨Tryz.f264,Wz,Zgs,fun N=>[(198,Zc6 N)]⟩
theorem Zmt:Wc Tryz.prog 264:=Wb Tryz.func264 (show Wg Tryz.f264 = true by kernel_rfl)
theorem Zmu (N:Nat):Good Tryz.prog 264 (Zgs N):=GF Zrf N Tryz.func264 (Wa (Zg1 N) Zg0 We) (by kernel_rfl) (fun d=>by kernel_rfl)
def Zkq (N:Nat):Sig:=Sig.of [.boxal Jw 3,.v Jy true] [] (fun d=>Zis N d.1 d.2.1 d.2.2.1)
def Zw5:Fn:=⟨Tryz.f234,fun | 1000000=>[.unfE 1] | _=>[],Zkq,fun N=>[(172,Zkk N),(220,Ziz N),(221,Zil N),(264,Zgs N)]⟩
theorem Zw6:Wc Tryz.prog 234:=Wb Tryz.func234 (show Wg Tryz.f234 = true by kernel_rfl)
theorem Zw7 (N:Nat):Good Tryz.prog 234 (Zkq N):=GF Zw5 N Tryz.func234 (Wa (Zpd N) Zpc (Wa (Zpn N) Zpm (Wa (Zo3 N) Zo2 (Wa (Zmu N) Zmt We)))) (by kernel_rfl) (fun d=>by kernel_rfl)
def Zim (N:Nat):Sig:=Sig.of [.box Jae] [.v (.prod Ja Jaf) true] (fun d=>Zhn N d.1)
def Zyu:Fn:=⟨Tryz.f202,Wz,Zim,Wci⟩
theorem Zo4:Wc Tryz.prog 202:=Wb Tryz.func202 (show Wg Tryz.f202 = true by kernel_rfl)
theorem Zo5 (N:Nat):Good Tryz.prog 202 (Zim N):=GF Zyu N Tryz.func202 We (by kernel_rfl) (fun d=>by kernel_rfl)
def Zin (N:Nat):Sig:=Sig.of [.v (.prod Jj Ja) true] [.v Jq true] (fun d=>Zho N d.1)
def Zyv:Fn:=⟨Tryz.f268,Wz,Zin,fun N=>[(72,Z4 N)]⟩
theorem Zo6:Wc Tryz.prog 268:=Wb Tryz.func268 (show Wg Tryz.f268 = true by kernel_rfl)
theorem Zo7 (N:Nat):Good Tryz.prog 268 (Zin N):=GF Zyv N Tryz.func268 (Wa (Zag N) Zaf We) (by kernel_rfl) (fun d=>by kernel_rfl)
def Zj3 (N:Nat):Sig:=Sig.of [.v (.prod Jj Ja) true] [.v Jp false] (fun d=>Zi9 N d.1)
def Z1p:Fn:=⟨Tryz.f269,Wz,Zj3,fun N=>[(208,Zgn N),(130,Za7 N)]⟩
theorem Zp8:Wc Tryz.prog 269:=Wb Tryz.func269 (show Wg Tryz.f269 = true by kernel_rfl)
theorem Zp9 (N:Nat):Good Tryz.prog 269 (Zj3 N):=GF Z1p N Tryz.func269 (Wa (Zjw N) Zjv (Wa (Zbs N) Zbr We)) (by kernel_rfl) (fun d=>by kernel_rfl)
def Zod (N:Nat):Sig:=Sig.of [.v Jl true] [.v Jp false] (fun d=>Zmy N d.1)
def Z3j:Fn:=⟨Tryz.f270,Wz,Zod,fun N=>[(209,Ze5 N),(130,Za7 N)]⟩
theorem Z3k:Wc Tryz.prog 270:=Wb Tryz.func270 (show Wg Tryz.f270 = true by kernel_rfl)
theorem Z3l (N:Nat):Good Tryz.prog 270 (Zod N):=GF Z3j N Tryz.func270 (Wa (Zhi N) Zhh (Wa (Zbs N) Zbr We)) (by kernel_rfl) (fun d=>by kernel_rfl)
def Zi0 (N:Nat):Sig:=Sig.of [.v Jj false,.v Ja false] [.v Jac false,.v Ja false,.v Jp false] (fun d=>Zid N d.1 d.2.1)
def Zz5:Fn:=⟨Tryz.f271,Wz,Zi0,fun N=>[(72,Z4 N),(208,Zgn N),(209,Ze5 N),(210,Zkj N),(211,Zhr N)]⟩
theorem Zpo:Wc Tryz.prog 271:=Wb Tryz.func271 (show Wg Tryz.f271 = true by kernel_rfl)
theorem Zpp (N:Nat):Good Tryz.prog 271 (Zi0 N):=GF Zz5 N Tryz.func271 (Wa (Zag N) Zaf (Wa (Zjw N) Zjv (Wa (Zhi N) Zhh (Wa (Zpb N) Zpa (Wa (Zne N) Znd We))))) (by kernel_rfl) (fun d=>by kernel_rfl)
def Znk (N:Nat):Sig:=Sig.of [.v (.prod Jj Ja) true,.v Jl true] [.v Jq true,.v Jp false] (fun d=>Zl0 N d.1 d.2.1)
def Z1q:Fn:=⟨Tryz.f237,Wz,Znk,fun N=>[(268,Zin N),(269,Zj3 N),(270,Zod N),(158,Zhs N),(271,Zi0 N)]⟩
theorem Z1r:Wc Tryz.prog 237:=Wb Tryz.func237 (show Wg Tryz.f237 = true by kernel_rfl)
theorem Z1s (N:Nat):Good Tryz.prog 237 (Znk N):=GF Z1q N Tryz.func237 (Wa (Zo7 N) Zo6 (Wa (Zp9 N) Zp8 (Wa (Z3l N) Z3k (Wa (Zng N) Znf (Wa (Zpp N) Zpo We))))) (by kernel_rfl) (fun d=>by kernel_rfl)
def Zh2 (N:Nat):Sig:=Sig.of [.boxal Jw 3] [] (fun d=>Zcl N d.1 d.2.1)
def Zw8:Fn:=⟨Tryz.f203,fun | 1000000=>[.unfE 1] | _=>[],Zh2,fun N=>[(237,Znk N)]⟩
theorem Zoh:Wc Tryz.prog 203:=Wb Tryz.func203 (show Wg Tryz.f203 = true by kernel_rfl)
theorem Zoi (N:Nat):Good Tryz.prog 203 (Zh2 N):=GF Zw8 N Tryz.func203 (Wa (Z1s N) Z1r We) (by kernel_rfl) (fun d=>by kernel_rfl)
def Zdk (N:Nat):Sig:=Sig.of [.v Jg false] [.v (.own Jx) false] (fun d=>Zbk N d.1)
def Zz6:Fn:=⟨Tryz.f222,Wz,Zdk,Wci⟩
theorem Zhb:Wc Tryz.prog 222:=Wb Tryz.func222 (show Wg Tryz.f222 = true by kernel_rfl)
theorem Zhc (N:Nat):Good Tryz.prog 222 (Zdk N):=GF Zz6 N Tryz.func222 We (by kernel_rfl) (fun d=>by kernel_rfl)
def Zmb (N:Nat):Sig:=Sig.of [.v Jc false,.v Ja false] [.v Ja false] (fun d=>Zfo N d.1 d.2.1)
def Zmc:Fn:=⟨Tryz.f223,fun | 5=>[.canon [0,5,6,25]] | 6=>[.canon [0,5,6]] | 7=>[.canon [0,5,6]] | 8=>[.canon [0,5,6,36]] | 9=>[.canon [4]] | 100005=>[.canon [0,5,6]] | _=>[],Zmb,fun N=>[(55,Z1 N),(248,Zjb N)]⟩
def Zyw (code4:List Ka) (n5:Int) (k6:Int):St:=⟨[(0,vV Jc code4),(5,vI n5),(6,vI k6)],[],0⟩
def Zw9 (code4:List Ka) (t8:Int):St:=⟨[(4,vI t8)],[],0⟩
def Zxa (code4:List Ka) (n9:Int) (k10:Int) (t11:Bool):St:=⟨[(0,vV Jc code4),(5,vI n9),(6,vI k10),(25,vB t11)],[],0⟩
theorem Zyx (N:Nat) {R:Type} (K:Ex → St → Option R) {code4:List Ka} {K0:Int → Option R} {K1:Int → Int → Bool → Option R} (h0:K0 = fun t8=>K .ret (Zw9 code4 t8)) (h1:K1 = fun n9 k10 t11=>K (.exit 0) (Zxa code4 n9 k10 t11)) (n:Nat) (n5:Int) (k6:Int):Zeo N code4 K0 K1 n n5 k6 = LM Zmc N 0 100005 n (Zyw code4 n5 k6) K:=by
  subst h0 h1
  induction n generalizing n5 k6 with
  | zero=>kernel_rfl
  | succ n ih=>rw [Zeo]; simp (disch:=exact id (by kernel_rfl)) only [ih]; kernel_rfl
theorem Zso:Wc Tryz.prog 223:=Wb Tryz.func223 (show Wg Tryz.f223 = true by kernel_rfl)
theorem Z4l (N:Nat) (code1:List Ka) (i2:Int):DN Zmc N (code1,i2,()) = Zfo N code1 i2:=by
  have h:Zfo N code1 i2 = Zfo N code1 i2:=rfl
  conv at h=>rhs; rw [Zfo]
  simp (disch:=exact id (by kernel_rfl)) only [Zyx (R:=Unit × Ki) N (CF Zmc N [1,1,1,0,1,0])] at h
  exact Eq.trans (by kernel_rfl) h.symm
theorem Zsp (N:Nat):Good Tryz.prog 223 (Zmb N):=GF Zmc N Tryz.func223 (Wa (Zab N) Zaa (Wa (Zow N) Zov We)) (by kernel_rfl) (fun d=>Z4l N d.1 d.2.1)
def Zj4 (N:Nat):Sig:=Sig.of [.box Jw,.v Ja false,.v Jc false] [] (fun d=>Zie N d.1 d.2.1 d.2.2.1)
def Zuv:Fn:=⟨Tryz.f235,fun | 0=>[.opn 13] | _=>[],Zj4,fun N=>[(233,Zhd N),(202,Zim N),(203,Zh2 N),(72,Z4 N),(222,Zdk N),(223,Zmb N)]⟩
theorem Zuw:Wc Tryz.prog 235:=Wb Tryz.func235 (show Wg Tryz.f235 = true by kernel_rfl)
theorem Zux (N:Nat):Good Tryz.prog 235 (Zj4 N):=GF Zuv N Tryz.func235 (Wa (Zoc N) Zob (Wa (Zo5 N) Zo4 (Wa (Zoi N) Zoh (Wa (Zag N) Zaf (Wa (Zhc N) Zhb (Wa (Zsp N) Zso We)))))) (by kernel_rfl) (fun d=>by kernel_rfl)
def Zmm (N:Nat):Sig:=Sig.of [.v Ja false,.v Jj false,.v Jg false,.v Ja false] [.v Jz true] (fun d=>Zdn N d.1 d.2.1 d.2.2.1 d.2.2.2.1)
def Zf4:Fn:=⟨Tryz.f54,fun | 3=>[.canon [1,3,8,9,19,20,21,22]] | 4=>[.canon [1,3,8,9,11,19,20,21]] | 5=>[.canon [1,3,8,9,19,20,21]] | 6=>[.canon [1,3,8,9,19,20,21]] | 8=>[.canon [1,8,9,36,37,38]] | 9=>[.nest 44 Ji,.canon [1,8,9,36,37]] | 10=>[.canon [1,8,9,36,37]] | 100003=>[.adoptC 9 6 Jl,.canon [1,3,8,9,19,20,21]] | 100008=>[.adoptC 9 9 Ji,.canon [1,8,9,36,37]] | _=>[],Zmm,fun N=>[(72,Z4 N),(118,Zjd N)]⟩
def Zsq (regs7:List Int) (kids8:Int) (t9:Int) (t10:Int) (b15:Int) (l19:List Kc) (l20:List Int) (l21:List Kb):St:=⟨[(1,vV Jj regs7),(3,vI kids8),(8,vP 0 0),(9,vP 1 0),(19,vO 2),(20,vI t9),(21,vI t10)],[(0,.box [.val Ja (0:Int),.val Ja (0:Int),.val Ja (0:Int),.val Jp false,.nils,.nils,.nils,.nils,.nils,.nils]),(1,.box [.val Ja b15,.val Ja (0:Int),.val Ja (0:Int),.val Jp false,.own 3,.own 2,.own 4,.nils,.nils,.nils]),(2,.arr Jx l19),(3,.arr Ja l20),(4,.arr Jl l21)],5⟩
def Zrg (regs7:List Int) (kids8:Int) (t9:Int) (b15:Int) (l19:List Kc) (l20:List Int) (t22:Int) (t23:Bool) (l24:List Kb):St:=⟨[(1,vV Jj regs7),(3,vI kids8),(8,vP 0 0),(9,vP 1 0),(19,vO 2),(20,vI t9),(21,vI t22),(22,vB t23)],[(0,.box [.val Ja (0:Int),.val Ja (0:Int),.val Ja (0:Int),.val Jp false,.nils,.nils,.nils,.nils,.nils,.nils]),(1,.box [.val Ja b15,.val Ja (0:Int),.val Ja (0:Int),.val Jp false,.own 3,.own 2,.own 4,.nils,.nils,.nils]),(2,.arr Jx l19),(3,.arr Ja l20),(4,.arr Jl l24)],5⟩
theorem Zsr (N:Nat) {R:Type} (K:Ex → St → Option R) {regs7:List Int} {kids8:Int} {t9:Int} {b15:Int} {l19:List Kc} {l20:List Int} {K0:Int → Bool → Kn → Option R} (h0:K0 = fun t22 t23 l24=>K (.exit 0) (Zrg regs7 kids8 t9 b15 l19 l20 t22 t23 l24)) (n:Nat) (t10:Int) (l21:List Kb):Zcm N regs7 kids8 t9 b15 l19 l20 K0 n t10 l21 = LM Zf4 N 0 100003 n (Zsq regs7 kids8 t9 t10 b15 l19 l20 l21) K:=by
  subst h0
  induction n generalizing t10 l21 with
  | zero=>kernel_rfl
  | succ n ih=>rw [Zcm]; simp (disch:=exact id (by kernel_rfl)) only [ih]; kernel_rfl
def Zss (regs28:List Int) (t29:Int) (t30:Int) (b35:Int) (l39:List Int) (l40:List Kc) (l41:List Kb) (l42:List Y_KidRun):St:=⟨[(1,vV Jj regs28),(8,vP 0 0),(9,vP 1 0),(36,vI t29),(37,vI t30)],[(0,.box [.val Ja (0:Int),.val Ja (0:Int),.val Ja (0:Int),.val Jp false,.nils,.nils,.nils,.nils,.nils,.nils]),(1,.box [.val Ja b35,.val Ja (0:Int),.val Ja (0:Int),.val Jp false,.own 2,.own 3,.own 4,.nils,.nils,.own 5]),(2,.arr Ja l39),(3,.arr Jx l40),(4,.arr Jl l41),(5,.arr Ji l42)],6⟩
def Zrh (regs28:List Int) (t29:Int) (b35:Int) (l39:List Int) (l40:List Kc) (l41:List Kb) (t45:Int) (t46:Bool) (l47:List Y_KidRun):St:=⟨[(1,vV Jj regs28),(8,vP 0 0),(9,vP 1 0),(36,vI t29),(37,vI t45),(38,vB t46)],[(0,.box [.val Ja (0:Int),.val Ja (0:Int),.val Ja (0:Int),.val Jp false,.nils,.nils,.nils,.nils,.nils,.nils]),(1,.box [.val Ja b35,.val Ja (0:Int),.val Ja (0:Int),.val Jp false,.own 2,.own 3,.own 4,.nils,.nils,.own 5]),(2,.arr Ja l39),(3,.arr Jx l40),(4,.arr Jl l41),(5,.arr Ji l47)],6⟩
theorem Zst (N:Nat) {R:Type} (K:Ex → St → Option R) {regs28:List Int} {t29:Int} {b35:Int} {l39:List Int} {l40:List Kc} {l41:List Kb} {K0:Int → Bool → (List Y_KidRun) → Option R} (h0:K0 = fun t45 t46 l47=>K (.exit 2) (Zrh regs28 t29 b35 l39 l40 l41 t45 t46 l47)) (n:Nat) (t30:Int) (l42:List Y_KidRun):Zbf N regs28 t29 b35 l39 l40 l41 K0 n t30 l42 = LM Zf4 N 1 100008 n (Zss regs28 t29 t30 b35 l39 l40 l41 l42) K:=by
  subst h0
  induction n generalizing t30 l42 with
  | zero=>kernel_rfl
  | succ n ih=>rw [Zbf]; simp (disch:=exact id (by kernel_rfl)) only [ih]; kernel_rfl
theorem Zz7:Wc Tryz.prog 54:=Wb Tryz.func54 (show Wg Tryz.f54 = true by kernel_rfl)
theorem Zz8 (N:Nat) (rv1:Int) (regs2:List Int) (writes3:List Kc) (kids4:Int):DN Zf4 N (rv1,regs2,writes3,kids4,()) = Zdn N rv1 regs2 writes3 kids4:=by
  have h:Zdn N rv1 regs2 writes3 kids4 = Zdn N rv1 regs2 writes3 kids4:=rfl
  conv at h=>rhs; rw [Zdn]
  simp (disch:=exact id (by kernel_rfl)) only [Zsr (R:=Unit × (Y_Family × Unit)) N (CF Zf4 N [1,1,0,1,0]),Zst (R:=Unit × (Y_Family × Unit)) N (CF Zf4 N [1,1,1,0,1,0])] at h
  exact Eq.trans (by kernel_rfl) h.symm
theorem Zz9 (N:Nat):Good Tryz.prog 54 (Zmm N):=GF Zf4 N Tryz.func54 (Wa (Zag N) Zaf (Wa (Zoa N) Zn9 We)) (by kernel_rfl) (fun d=>Zz8 N d.1 d.2.1 d.2.2.1 d.2.2.2.1)
def Zlr (N:Nat):Sig:=Sig.of [.v Jy true] [.v Ja false,.v Ja false] (fun d=>Zjl N d.1)
def Zyy:Fn:=⟨Tryz.f265,Wz,Zlr,fun N=>[(217,Zh8 N)]⟩
theorem Zyz:Wc Tryz.prog 265:=Wb Tryz.func265 (show Wg Tryz.f265 = true by kernel_rfl)
theorem Zy0 (N:Nat):Good Tryz.prog 265 (Zlr N):=GF Zyy N Tryz.func265 (Wa (Zm1 N) Zm0 We) (by kernel_rfl) (fun d=>by kernel_rfl)
def Zio (N:Nat):Sig:=Sig.of [.v Je false] [.v (.own Jl) false] (fun d=>Zer N d.1)
def Zy1:Fn:=⟨Tryz.f240,Wz,Zio,Wci⟩
theorem Zo8:Wc Tryz.prog 240:=Wb Tryz.func240 (show Wg Tryz.f240 = true by kernel_rfl)
theorem Zo9 (N:Nat):Good Tryz.prog 240 (Zio N):=GF Zy1 N Tryz.func240 We (by kernel_rfl) (fun d=>by kernel_rfl)
def Zoe (N:Nat):Sig:=Sig.of [.v Je false,.v Ja false,.v Ja false,.v Ja false] [.v Jac false] (fun d=>Zgd N d.1 d.2.1 d.2.2.1 d.2.2.2.1)
def Zlg:Fn:=⟨Tryz.f290,fun | 5=>[.canon [1,2,3,9,21,22,23,24]] | 6=>[.canon [1,2,3,9,11,21,22,23]] | 7=>[.canon [1,2,3,9,11,21,22,23,45]] | 8=>[.canon [1,2,3,9,21,22,23]] | 9=>[.canon [1,2,3,9,21,22,23]] | 100005=>[.canon [1,2,3,9,21,22,23]] | _=>[],Zoe,fun N=>[(241,Zgo N),(55,Z1 N)]⟩
def Zxb (who7:Int) (what8:Int) (mode9:Int) (t10:List Kb) (t12:Int) (l13:List Int):St:=⟨[(1,vI who7),(2,vI what8),(3,vI mode9),(9,vO 0),(21,vV Je t10),(22,vI (ilen t10)),(23,vI t12)],[(0,.arr Ja l13)],1⟩
def Zuy (who7:Int) (what8:Int) (mode9:Int) (t10:List Kb) (t14:Int) (t15:Bool) (l16:List Int):St:=⟨[(1,vI who7),(2,vI what8),(3,vI mode9),(9,vO 0),(21,vV Je t10),(22,vI (ilen t10)),(23,vI t14),(24,vB t15)],[(0,.arr Ja l16)],1⟩
theorem Zxc (N:Nat) {R:Type} (K:Ex → St → Option R) {who7:Int} {what8:Int} {mode9:Int} {t10:List Kb} {K0:Int → Bool → Kj → Option R} (h0:K0 = fun t14 t15 l16=>K (.exit 0) (Zuy who7 what8 mode9 t10 t14 t15 l16)) (n:Nat) (t12:Int) (l13:List Int):Zbb N who7 what8 mode9 t10 K0 n t12 l13 = LM Zlg N 0 100005 n (Zxb who7 what8 mode9 t10 t12 l13) K:=by
  subst h0
  induction n generalizing t12 l13 with
  | zero=>kernel_rfl
  | succ n ih=>rw [Zbb]; simp (disch:=exact id (by kernel_rfl)) only [ih]; kernel_rfl
theorem Z3m:Wc Tryz.prog 290:=Wb Tryz.func290 (show Wg Tryz.f290 = true by kernel_rfl)
theorem Z3n (N:Nat) (l1:List Kb) (who2:Int) (what3:Int) (mode4:Int):DN Zlg N (l1,who2,what3,mode4,()) = Zgd N l1 who2 what3 mode4:=by
  have h:Zgd N l1 who2 what3 mode4 = Zgd N l1 who2 what3 mode4:=rfl
  conv at h=>rhs; rw [Zgd]
  simp (disch:=exact id (by kernel_rfl)) only [Zxc (R:=Unit × (Kj × Unit)) N (CF Zlg N [1,1,1,0,1,0])] at h
  exact Eq.trans (by kernel_rfl) h.symm
theorem Z3o (N:Nat):Good Tryz.prog 290 (Zoe N):=GF Zlg N Tryz.func290 (Wa (Zj0 N) Zjz (Wa (Zab N) Zaa We)) (by kernel_rfl) (fun d=>Z3n N d.1 d.2.1 d.2.2.1 d.2.2.2.1)
def Zbi (N:Nat):Sig:=Sig.of [.mut Jl,.clos 281 0] [] (fun d=>Zy N d.1)
theorem Zfe:Wc Tryz.prog 291:=Wb Tryz.func291 (show Wg Tryz.f291 = true by kernel_rfl)
theorem Zff:CmpOk Tryz.prog 281 Jl rngH cfH:=by
  intro G x y us vs w hx hy h1 h2
  obtain ⟨_,_,rfl,a1,_,_,rfl,a2,a3⟩:=h1
  obtain ⟨_,_,rfl,b1,_,_,rfl,b2,b3⟩:=h2
  simp only [Enc] at a1 a2 a3 b1 b2 b3
  subst a1 a2 a3 b1 b2 b3
  simp only [List.cons_append,List.nil_append]
  unfold rngH at hx hy
  simp only [Bool.and_eq_true] at hx hy
  go_enter Tryz.func281,Tryz.ntmps281
  go_wp2
  rw [guard_run (a:=x.2.1) (b:=y.2.1),Result.andThen_ok]
  rw [neq_run (a:=x.2.1) (b:=y.2.1),Result.andThen_ok]
  rcases hb:(bne (α:=Int) x.2.1 y.2.1) with _ | _
  · go_wp2
    rw [sub_run (Wnm hx.1) (Wnm hy.1) (cfH_eq hb)]
    go_wp2
    go_ret
    exact ⟨rfl,two_grow _ _ _⟩
  · go_wp2
    rw [sub_run (Wnm hx.2) (Wnm hy.2) (cfH_ne hb)]
    go_wp2
    go_ret
    exact ⟨rfl,two_grow _ _ _⟩
theorem Zfg (N:Nat):Good Tryz.prog 291 (Zbi N):=good_sortF sortFH (e:=.prod Ja Jx) rfl (by decide) Tryz.isAgg106 Tryz.sizeOf106 (enters_of Tryz.func281 (by kernel_rfl) rfl) swoH Zff N
def Znl (N:Nat):Sig:=Sig.of [.v Je false,.v Ja false,.v Ja false,.v Ja false] [.v (.own Jl) false,.v Jp false] (fun d=>Ze1 N d.1 d.2.1 d.2.2.1 d.2.2.2.1)
def Zj5:Fn:=⟨Tryz.f266,fun | 5=>[.canon [1,2,3,10,35,36,37,38]] | 6=>[.canon [1,2,3,10,11,12,35,36,37]] | 7=>[.canon [1,2,3,10,11,12,35,36,37,51]] | 8=>[.canon [10]] | 9=>[.canon [8,9]] | 10=>[.canon [1,2,3,10,35,36,37]] | 100005=>[.canon [1,2,3,10,35,36,37]] | _=>[],Znl,fun N=>[(240,Zio N),(241,Zgo N),(280,Zlc N),(290,Zoe N),(291,Zbi N)]⟩
def Zuz (who9:Int) (what10:Int) (mode11:Int) (t12:Int) (t13:Int) (l14:List Kb):St:=⟨[(1,vI who9),(2,vI what10),(3,vI mode11),(10,vO 0),(35,vO 0),(36,vI t12),(37,vI t13)],[(0,.arr Jl l14)],1⟩
def Zsu (who9:Int) (what10:Int) (mode11:Int) (t12:Int) (l14:List Kb) (l15:List Kb):St:=⟨[(8,vO 0),(9,vB true)],[(0,.arr Jl l15)],1⟩
def Zsv (who9:Int) (what10:Int) (mode11:Int) (t12:Int) (l14:List Kb) (t16:Int) (t17:Bool):St:=⟨[(1,vI who9),(2,vI what10),(3,vI mode11),(10,vO 0),(35,vO 0),(36,vI t12),(37,vI t16),(38,vB t17)],[(0,.arr Jl l14)],1⟩
theorem Zu0 (N:Nat) {R:Type} (K:Ex → St → Option R) {who9:Int} {what10:Int} {mode11:Int} {t12:Int} {l14:List Kb} {K0:Kn → Option R} {K1:Int → Bool → Option R} (h0:K0 = fun l15=>K .ret (Zsu who9 what10 mode11 t12 l14 l15)) (h1:K1 = fun t16 t17=>K (.exit 0) (Zsv who9 what10 mode11 t12 l14 t16 t17)) (n:Nat) (t13:Int):Zca N who9 what10 mode11 t12 l14 K0 K1 n t13 = LM Zj5 N 0 100005 n (Zuz who9 what10 mode11 t12 t13 l14) K:=by
  subst h0 h1
  induction n generalizing t13 with
  | zero=>kernel_rfl
  | succ n ih=>rw [Zca]; simp (disch:=exact id (by kernel_rfl)) only [ih]; kernel_rfl
theorem Z1t:Wc Tryz.prog 266:=Wb Tryz.func266 (show Wg Tryz.f266 = true by kernel_rfl)
theorem Z1u (N:Nat) (l1:List Kb) (who2:Int) (what3:Int) (mode4:Int):DN Zj5 N (l1,who2,what3,mode4,()) = Ze1 N l1 who2 what3 mode4:=by
  have h:Ze1 N l1 who2 what3 mode4 = Ze1 N l1 who2 what3 mode4:=rfl
  conv at h=>rhs; rw [Ze1]
  simp (disch:=exact id (by kernel_rfl)) only [Zu0 (R:=Unit × (Kn × Kf)) N (CF Zj5 N [1,1,1,0,1,0])] at h
  exact Eq.trans (by kernel_rfl) h.symm
theorem Z1v (N:Nat):Good Tryz.prog 266 (Znl N):=GF Zj5 N Tryz.func266 (Wa (Zo9 N) Zo8 (Wa (Zj0 N) Zjz (Wa (Zq3 N) Zq2 (Wa (Z3o N) Z3m (Wa (Zfg N) Zfe We))))) (by kernel_rfl) (fun d=>Z1u N d.1 d.2.1 d.2.2.1 d.2.2.2.1)
def Zof (N:Nat):Sig:=Sig.of [.v Ja false,.v Ja false] [.v Jl true] (fun d=>Zkf N d.1 d.2.1)
def Z3p:Fn:=⟨Tryz.f292,Wz,Zof,Wci⟩
theorem Z3q:Wc Tryz.prog 292:=Wb Tryz.func292 (show Wg Tryz.f292 = true by kernel_rfl)
theorem Z3r (N:Nat):Good Tryz.prog 292 (Zof N):=GF Z3p N Tryz.func292 We (by kernel_rfl) (fun d=>by kernel_rfl)
def Znm (N:Nat):Sig:=Sig.of [.v (.prod Jj Ja) true,.v Jy true,.v Jj false] [.v Jq true,.v Jac false,.v Jl true,.v Jp false] (fun d=>Zl1 N d.1 d.2.1 d.2.2.1)
def Z1w:Fn:=⟨Tryz.f267,Wz,Znm,fun N=>[(268,Zin N),(72,Z4 N),(269,Zj3 N),(71,Zc5 N),(170,Zjs N),(158,Zhs N),(292,Zof N),(211,Zhr N),(271,Zi0 N)]⟩
theorem Z1x:Wc Tryz.prog 267:=Wb Tryz.func267 (show Wg Tryz.f267 = true by kernel_rfl)
theorem Z1y (N:Nat):Good Tryz.prog 267 (Znm N):=GF Z1w N Tryz.func267 (Wa (Zo7 N) Zo6 (Wa (Zag N) Zaf (Wa (Zp9 N) Zp8 (Wa (Zgz N) Zgy (Wa (Zp4 N) Zp3 (Wa (Zng N) Znf (Wa (Z3r N) Z3q (Wa (Zne N) Znd (Wa (Zpp N) Zpo We))))))))) (by kernel_rfl) (fun d=>by kernel_rfl)
def Zj6 (N:Nat):Sig:=Sig.of [.box Jw,.v Ja false,.v Jy true] [] (fun d=>Zgw N d.1 d.2.1 d.2.2.1)
def Zu1:Fn:=⟨Tryz.f236,fun | 1=>[.opn 20] | _=>[],Zj6,fun N=>[(265,Zlr N),(266,Znl N),(264,Zgs N),(267,Znm N)]⟩
theorem Zu2:Wc Tryz.prog 236:=Wb Tryz.func236 (show Wg Tryz.f236 = true by kernel_rfl)
theorem Zu3 (N:Nat):Good Tryz.prog 236 (Zj6 N):=GF Zu1 N Tryz.func236 (Wa (Zy0 N) Zyz (Wa (Z1v N) Z1t (Wa (Zmu N) Zmt (Wa (Z1y N) Z1x We)))) (by kernel_rfl) (fun d=>by kernel_rfl)
def Zg5 (N:Nat):Sig:=Sig.of [.rp (TY_Root)] [.vj Jy] (fun d=>Zdy N d.1)
def Zsw:Fn:=⟨Tryz.f202,Wz,Zg5,Wci⟩
theorem Zns:Wc Tryz.prog 202:=Wb Tryz.func202 (show Wg Tryz.f202 = true by kernel_rfl)
theorem Znt (N:Nat):Good Tryz.prog 202 (Zg5 N):=GF Zsw N Tryz.func202 We (by kernel_rfl) (fun d=>by kernel_rfl)
def Zm4 (N:Nat):Sig:=Sig.of [.v Jy true,.v Jj false] [.v Jac false,.v Jp false] (fun d=>Zmr N d.1 d.2.1)
def Z4u:Fn:=⟨Tryz.f175,Wz,Zm4,fun N=>[(72,Z4 N),(217,Zh8 N),(71,Zc5 N)]⟩
theorem Zvq:Wc Tryz.prog 175:=Wb Tryz.func175 (show Wg Tryz.f175 = true by kernel_rfl)
theorem Zvr (N:Nat):Good Tryz.prog 175 (Zm4 N):=GF Z4u N Tryz.func175 (Wa (Zag N) Zaf (Wa (Zm1 N) Zm0 (Wa (Zgz N) Zgy We))) (by kernel_rfl) (fun d=>by kernel_rfl)
def Zls (N:Nat):Sig:=Sig.of [.box Jw,.v Ja false,.v Jn true] [] (fun d=>Zhp N d.1 d.2.1 d.2.2.1)
def Zy2:Fn:=⟨Tryz.f200,fun | 1=>[.opn 14] | _=>[],Zls,fun N=>[(233,Zhd N),(234,Zkq N),(235,Zj4 N),(54,Zmm N),(236,Zj6 N),(72,Z4 N),(202,Zg5 N),(175,Zm4 N)]⟩
theorem Zy3:Wc Tryz.prog 200:=Wb Tryz.func200 (show Wg Tryz.f200 = true by kernel_rfl)
theorem Zy4 (N:Nat):Good Tryz.prog 200 (Zls N):=GF Zy2 N Tryz.func200 (Wa (Zoc N) Zob (Wa (Zw7 N) Zw6 (Wa (Zux N) Zuw (Wa (Zz9 N) Zz7 (Wa (Zu3 N) Zu2 (Wa (Zag N) Zaf (Wa (Znt N) Zns (Wa (Zvr N) Zvq We)))))))) (by kernel_rfl) (fun d=>by kernel_rfl)
def Zlt (N:Nat):Sig:=Sig.of [.v (TY_KidRun) true] [.v Jp false] (fun d=>Zm7 N d.1)
def Zy5:Fn:=⟨Tryz.f67,Wz,Zlt,Wci⟩
theorem Zy6:Wc Tryz.prog 67:=Wb Tryz.func67 (show Wg Tryz.f67 = true by kernel_rfl)
theorem Zy7 (N:Nat):Good Tryz.prog 67 (Zlt N):=GF Zy5 N Tryz.func67 We (by kernel_rfl) (fun d=>by kernel_rfl)
def Zan (N:Nat):Sig:=Sig.of [.v Jad false,.clos 67 0] [.v Ja false] (fun d=>Zm N d.1)
def Z2:Fn:=⟨Tryz.f128,fun | 2=>[.canon [0,1,7,8,9]] | 3=>[.canon [0,1,5,7,8]] | 4=>[.canon [0,1,5,7,8,16]] | 5=>[.canon [1,4]] | 6=>[.canon [0,1,7,8]] | 100002=>[.canon [0,1,7,8]] | _=>[],Zan,fun N=>[(67,Zlt N)]⟩
def Zdw (s2:List Y_KidRun) (t4:Int):St:=⟨[(0,vV Jad s2),(1,.s (.one (.clos 67 []))),(7,vI (ilen s2)),(8,vI t4)],[],0⟩
def Zdl (s2:List Y_KidRun) (t7:Int):St:=⟨[(1,.s (.one (.clos 67 []))),(4,vI t7)],[],0⟩
def Zdm (s2:List Y_KidRun) (t8:Int) (t9:Bool):St:=⟨[(0,vV Jad s2),(1,.s (.one (.clos 67 []))),(7,vI (ilen s2)),(8,vI t8),(9,vB t9)],[],0⟩
theorem Zdx (N:Nat) {R:Type} (K:Ex → St → Option R) {s2:List Y_KidRun} {K0:Int → Option R} {K1:Int → Bool → Option R} (h0:K0 = fun t7=>K .ret (Zdl s2 t7)) (h1:K1 = fun t8 t9=>K (.exit 0) (Zdm s2 t8 t9)) (n:Nat) (t4:Int):Zi N s2 K0 K1 n t4 = LM Z2 N 0 100002 n (Zdw s2 t4) K:=by
  subst h0 h1
  induction n generalizing t4 with
  | zero=>kernel_rfl
  | succ n ih=>rw [Zi]; simp (disch:=exact id (by kernel_rfl)) only [ih]; kernel_rfl
theorem Zfa:Wc Tryz.prog 128:=Wb Tryz.func128 (show Wg Tryz.f128 = true by kernel_rfl)
theorem Zfb (N:Nat) (s1:List Y_KidRun):DN Z2 N (s1,()) = Zm N s1:=by
  have h:Zm N s1 = Zm N s1:=rfl
  conv at h=>rhs; rw [Zm]
  simp (disch:=exact id (by kernel_rfl)) only [Zdx (R:=Unit × Ki) N (CF Z2 N [1,0,1,0])] at h
  exact Eq.trans (by kernel_rfl) h.symm
theorem Zfc (N:Nat):Good Tryz.prog 128 (Zan N):=GF Z2 N Tryz.func128 (Wa (Zy7 N) Zy6 We) (by kernel_rfl) (fun d=>Zfb N d.1)
def Zai (N:Nat):Sig:=Sig.of [.v Jad false,.clos 67 0] [.v Jp false] (fun d=>Zak N d.1)
def Zd0:Fn:=⟨Tryz.f66,Wz,Zai,fun N=>[(128,Zan N)]⟩
theorem Zd1:Wc Tryz.prog 66:=Wb Tryz.func66 (show Wg Tryz.f66 = true by kernel_rfl)
theorem Zd2 (N:Nat):Good Tryz.prog 66 (Zai N):=GF Zd0 N Tryz.func66 (Wa (Zfc N) Zfa We) (by kernel_rfl) (fun d=>by kernel_rfl)
def Znn (N:Nat):Sig:=Sig.of [.v (TY_Family) true] [.v Jp false] (fun d=>Zl2 N d.1)
def Z1z:Fn:=⟨Tryz.f15,Wz,Znn,fun N=>[(66,Zai N)]⟩
theorem Z10:Wc Tryz.prog 15:=Wb Tryz.func15 (show Wg Tryz.f15 = true by kernel_rfl)
theorem Z11 (N:Nat):Good Tryz.prog 15 (Znn N):=GF Z1z N Tryz.func15 (Wa (Zd2 N) Zd1 We) (by kernel_rfl) (fun d=>by kernel_rfl)
def Zno (N:Nat):Sig:=Sig.of [.v (TY_Family) true] [.v Jac false] (fun d=>Ze2 N d.1)
def Zj7:Fn:=⟨Tryz.f18,fun | 5=>[.canon [3,20,21,22,23]] | 6=>[.canon [3,4,5,20,21,22]] | 7=>[.canon [3,4,5,20,21,22]] | 8=>[.canon [3,4,5,20,21,22,37]] | 9=>[.canon [3,20,21,22]] | 10=>[.canon [3,20,21,22]] | 100005=>[.canon [3,20,21,22]] | _=>[],Zno,fun N=>[(71,Zc5 N),(72,Z4 N)]⟩
def Zu4 (t4:List Y_KidRun) (t5:Int) (t6:Int) (l7:List Int):St:=⟨[(3,vO 0),(20,vV Jad t4),(21,vI t5),(22,vI t6)],[(0,.arr Ja l7)],1⟩
def Zsx (t4:List Y_KidRun) (t5:Int) (t10:Int) (t11:Bool) (l12:List Int):St:=⟨[(3,vO 0),(20,vV Jad t4),(21,vI t5),(22,vI t10),(23,vB t11)],[(0,.arr Ja l12)],1⟩
theorem Zu5 (N:Nat) {R:Type} (K:Ex → St → Option R) {t4:List Y_KidRun} {t5:Int} {K0:Int → Bool → Kj → Option R} (h0:K0 = fun t10 t11 l12=>K (.exit 0) (Zsx t4 t5 t10 t11 l12)) (n:Nat) (t6:Int) (l7:List Int):Zbn N t4 t5 K0 n t6 l7 = LM Zj7 N 0 100005 n (Zu4 t4 t5 t6 l7) K:=by
  subst h0
  induction n generalizing t6 l7 with
  | zero=>kernel_rfl
  | succ n ih=>rw [Zbn]; simp (disch:=exact id (by kernel_rfl)) only [ih]; kernel_rfl
theorem Z12:Wc Tryz.prog 18:=Wb Tryz.func18 (show Wg Tryz.f18 = true by kernel_rfl)
theorem Z13 (N:Nat) (f1:Y_Family):DN Zj7 N (f1,()) = Ze2 N f1:=by
  have h:Ze2 N f1 = Ze2 N f1:=rfl
  conv at h=>rhs; rw [Ze2]
  simp (disch:=exact id (by kernel_rfl)) only [Zu5 (R:=Unit × (Kj × Unit)) N (CF Zj7 N [1,1,1,0,1,0])] at h
  exact Eq.trans (by kernel_rfl) h.symm
theorem Z14 (N:Nat):Good Tryz.prog 18 (Zno N):=GF Zj7 N Tryz.func18 (Wa (Zgz N) Zgy (Wa (Zag N) Zaf We)) (by kernel_rfl) (fun d=>Z13 N d.1)
def Znp (N:Nat):Sig:=Sig.of [.v (TY_Family) true] [.v (.own Jx) false] (fun d=>Ze3 N d.1)
def Zj8:Fn:=⟨Tryz.f20,fun | 3=>[.canon [3,8,9,10,11]] | 4=>[.canon [3,5,8,9,10]] | 5=>[.canon [3,8,9,10]] | 6=>[.canon [3,8,9,10]] | 100003=>[.canon [3,8,9,10]] | _=>[],Znp,Wci⟩
def Zu6 (t2:List Kb) (t3:Int) (t4:Int) (l5:List Kc):St:=⟨[(3,vO 0),(8,vV Je t2),(9,vI t3),(10,vI t4)],[(0,.arr Jx l5)],1⟩
def Zsy (t2:List Kb) (t3:Int) (t6:Int) (t7:Bool) (l8:List Kc):St:=⟨[(3,vO 0),(8,vV Je t2),(9,vI t3),(10,vI t6),(11,vB t7)],[(0,.arr Jx l8)],1⟩
theorem Zu7 (N:Nat) {R:Type} (K:Ex → St → Option R) {t2:List Kb} {t3:Int} {K0:Int → Bool → (List Kc) → Option R} (h0:K0 = fun t6 t7 l8=>K (.exit 0) (Zsy t2 t3 t6 t7 l8)) (n:Nat) (t4:Int) (l5:List Kc):Zc3 N t2 t3 K0 n t4 l5 = LM Zj8 N 0 100003 n (Zu6 t2 t3 t4 l5) K:=by
  subst h0
  induction n generalizing t4 l5 with
  | zero=>kernel_rfl
  | succ n ih=>rw [Zc3]; simp (disch:=exact id (by kernel_rfl)) only [ih]; kernel_rfl
theorem Z15:Wc Tryz.prog 20:=Wb Tryz.func20 (show Wg Tryz.f20 = true by kernel_rfl)
theorem Z16 (N:Nat) (f1:Y_Family):DN Zj8 N (f1,()) = Ze3 N f1:=by
  have h:Ze3 N f1 = Ze3 N f1:=rfl
  conv at h=>rhs; rw [Ze3]
  simp (disch:=exact id (by kernel_rfl)) only [Zu7 (R:=Unit × ((List Kc) × Unit)) N (CF Zj8 N [1,1,0,1,0])] at h
  exact Eq.trans (by kernel_rfl) h.symm
theorem Z17 (N:Nat):Good Tryz.prog 20 (Znp N):=GF Zj8 N Tryz.func20 We (by kernel_rfl) (fun d=>Z16 N d.1)
def Zlu (N:Nat):Sig:=Sig.of [.box Jae] [] (fun d=>Zhq N d.1)
def Zy8:Fn:=⟨Tryz.f201,Wz,Zlu,fun N=>[(198,Zc6 N),(15,Znn N),(18,Zno N),(20,Znp N),(72,Z4 N)]⟩
theorem Zy9:Wc Tryz.prog 201:=Wb Tryz.func201 (show Wg Tryz.f201 = true by kernel_rfl)
theorem Zza (N:Nat):Good Tryz.prog 201 (Zlu N):=GF Zy8 N Tryz.func201 (Wa (Zg1 N) Zg0 (Wa (Z11 N) Z10 (Wa (Z14 N) Z12 (Wa (Z17 N) Z15 (Wa (Zag N) Zaf We))))) (by kernel_rfl) (fun d=>by kernel_rfl)
def Zje (N:Nat):Sig:=Sig.of [.boxal Jw 3] [] (fun d=>Zgj N d.1 d.2.1)
def Zsz:Fn:=⟨Tryz.f204,fun | 1000000=>[.unfE 1] | _=>[],Zje,fun N=>[(202,Zim N),(198,Zc6 N),(222,Zdk N),(72,Z4 N)]⟩
theorem Zs0:Wc Tryz.prog 204:=Wb Tryz.func204 (show Wg Tryz.f204 = true by kernel_rfl)
theorem Zs1 (N:Nat):Good Tryz.prog 204 (Zje N):=GF Zsz N Tryz.func204 (Wa (Zo5 N) Zo4 (Wa (Zg1 N) Zg0 (Wa (Zhc N) Zhb (Wa (Zag N) Zaf We)))) (by kernel_rfl) (fun d=>by kernel_rfl)
def Zh3 (N:Nat):Sig:=Sig.of [.v (.prod Ja Jr) true] [.v Jd true] (fun d=>Zg9 N d.1)
def Zxd:Fn:=⟨Tryz.f272,Wz,Zh3,fun N=>[(222,Zdk N),(72,Z4 N)]⟩
theorem Zoj:Wc Tryz.prog 272:=Wb Tryz.func272 (show Wg Tryz.f272 = true by kernel_rfl)
theorem Zok (N:Nat):Good Tryz.prog 272 (Zh3 N):=GF Zxd N Tryz.func272 (Wa (Zhc N) Zhb (Wa (Zag N) Zaf We)) (by kernel_rfl) (fun d=>by kernel_rfl)
def Zgt (N:Nat):Sig:=Sig.of [.v (.prod Ja Jr) true] [.v Ja false] (fun d=>Zdd N d.1)
def Zri:Fn:=⟨Tryz.f293,Wz,Zgt,Wci⟩
theorem Zmv:Wc Tryz.prog 293:=Wb Tryz.func293 (show Wg Tryz.f293 = true by kernel_rfl)
theorem Zmw (N:Nat):Good Tryz.prog 293 (Zgt N):=GF Zri N Tryz.func293 We (by kernel_rfl) (fun d=>by kernel_rfl)
def Zi1 (N:Nat):Sig:=Sig.of [.v (.prod Ja Jr) true] [.v Jp false] (fun d=>Zct N d.1)
def Zf5:Fn:=⟨Tryz.f273,fun | 4=>[.canon [1,3,38]] | 5=>[.canon [1,3]] | 6=>[.canon [1,3,54]] | 7=>[.canon [2]] | 9=>[.canon [1,56,57,58,59]] | 10=>[.canon [1,4,5,56,57,58]] | 11=>[.canon [1,56,57,58,79]] | 12=>[.canon [2]] | 13=>[.canon [1,56,57,58]] | 100004=>[.canon [1,3]] | 100009=>[.canon [1,56,57,58]] | _=>[],Zi1,fun N=>[(288,Zeu N),(55,Z1 N),(73,Zg4 N),(65,Zb6 N),(293,Zgt N)]⟩
def Zs2 (i7:Int) (b8:Int × Int × Int × Int × Int × List Kc × List Int):St:=⟨[(1,vP 0 0),(3,vI i7)],[(0,.box [.val Ja b8.1,.val Ja b8.2.1,.val Ja b8.2.2.1,.val Ja b8.2.2.2.1,.val Ja b8.2.2.2.2.1,.val Jg b8.2.2.2.2.2.1,.val Jj b8.2.2.2.2.2.2])],1⟩
def Zrj (b8:Int × Int × Int × Int × Int × List Kc × List Int):St:=⟨[(2,vB false)],[],0⟩
def Zrk (b8:Int × Int × Int × Int × Int × List Kc × List Int) (i9:Int) (t10:Bool):St:=⟨[(1,vP 0 0),(3,vI i9),(38,vB t10)],[(0,.box [.val Ja b8.1,.val Ja b8.2.1,.val Ja b8.2.2.1,.val Ja b8.2.2.2.1,.val Ja b8.2.2.2.2.1,.val Jg b8.2.2.2.2.2.1,.val Jj b8.2.2.2.2.2.2])],1⟩
theorem Zs3 (N:Nat) {R:Type} (K:Ex → St → Option R) {b8:Int × Int × Int × Int × Int × List Kc × List Int} {K0:Option R} {K1:Int → Bool → Option R} (h0:K0 = K .ret (Zrj b8)) (h1:K1 = fun i9 t10=>K (.exit 0) (Zrk b8 i9 t10)) (n:Nat) (i7:Int):Zbw N b8 K0 K1 n i7 = LM Zf5 N 0 100004 n (Zs2 i7 b8) K:=by
  subst h0 h1
  induction n generalizing i7 with
  | zero=>kernel_rfl
  | succ n ih=>rw [Zbw]; simp (disch:=exact id (by kernel_rfl)) only [ih]; kernel_rfl
def Zs4 (t13:List Int) (t15:Int) (b16:Int × Int × Int × Int × Int × List Kc × List Int):St:=⟨[(1,vP 0 0),(56,vV Jj t13),(57,vI (ilen b16.2.2.2.2.2.2)),(58,vI t15)],[(0,.box [.val Ja b16.1,.val Ja b16.2.1,.val Ja b16.2.2.1,.val Ja b16.2.2.2.1,.val Ja b16.2.2.2.2.1,.val Jg b16.2.2.2.2.2.1,.val Jj b16.2.2.2.2.2.2])],1⟩
def Zrl (t13:List Int) (b16:Int × Int × Int × Int × Int × List Kc × List Int):St:=⟨[(2,vB false)],[],0⟩
def Zrm (t13:List Int) (b16:Int × Int × Int × Int × Int × List Kc × List Int) (t19:Int) (t20:Bool):St:=⟨[(1,vP 0 0),(56,vV Jj t13),(57,vI (ilen b16.2.2.2.2.2.2)),(58,vI t19),(59,vB t20)],[(0,.box [.val Ja b16.1,.val Ja b16.2.1,.val Ja b16.2.2.1,.val Ja b16.2.2.2.1,.val Ja b16.2.2.2.2.1,.val Jg b16.2.2.2.2.2.1,.val Jj b16.2.2.2.2.2.2])],1⟩
theorem Zs5 (N:Nat) {R:Type} (K:Ex → St → Option R) {t13:List Int} {b16:Int × Int × Int × Int × Int × List Kc × List Int} {K0:Option R} {K1:Int → Bool → Option R} (h0:K0 = K .ret (Zrl t13 b16)) (h1:K1 = fun t19 t20=>K (.exit 2) (Zrm t13 b16 t19 t20)) (n:Nat) (t15:Int):Zbg N t13 b16 K0 K1 n t15 = LM Zf5 N 1 100009 n (Zs4 t13 t15 b16) K:=by
  subst h0 h1
  induction n generalizing t15 with
  | zero=>kernel_rfl
  | succ n ih=>rw [Zbg]; simp (disch:=exact id (by kernel_rfl)) only [ih]; kernel_rfl
theorem Zpq:Wc Tryz.prog 273:=Wb Tryz.func273 (show Wg Tryz.f273 = true by kernel_rfl)
theorem Z0a (N:Nat) (c1:Int × Int × Int × Int × Int × List Kc × List Int):DN Zf5 N (c1,()) = Zct N c1:=by
  have h:Zct N c1 = Zct N c1:=rfl
  conv at h=>rhs; rw [Zct]
  simp (disch:=exact id (by kernel_rfl)) only [Zs3 (R:=Unit × Kf) N (CF Zf5 N [1,1,0,1,0]),Zs5 (R:=Unit × Kf) N (CF Zf5 N [1,1,1,0,1,0])] at h
  exact Eq.trans (by kernel_rfl) h.symm
theorem Zpr (N:Nat):Good Tryz.prog 273 (Zi1 N):=GF Zf5 N Tryz.func273 (Wa (Zhu N) Zht (Wa (Zab N) Zaa (Wa (Zlf N) Zle (Wa (Zdv N) Zdu (Wa (Zmw N) Zmv We))))) (by kernel_rfl) (fun d=>Z0a N d.1)
def Zfv (N:Nat):Sig:=Sig.of [.box Jd,.v Ja false] [] (fun d=>Z3 N d.1 d.2.1)
def Zqa:Fn:=⟨Tryz.f274,Wz,Zfv,Wci⟩
theorem Zlv:Wc Tryz.prog 274:=Wb Tryz.func274 (show Wg Tryz.f274 = true by kernel_rfl)
theorem Zlw (N:Nat):Good Tryz.prog 274 (Zfv N):=GF Zqa N Tryz.func274 We (by kernel_rfl) (fun d=>by kernel_rfl)
def Zj9 (N:Nat):Sig:=Sig.of [.v (.prod Ja Jr) true] [.v Jd true,.v Jp false] (fun d=>Zif N d.1)
def Zu8:Fn:=⟨Tryz.f238,Wz,Zj9,fun N=>[(272,Zh3 N),(273,Zi1 N),(274,Zfv N)]⟩
theorem Zu9:Wc Tryz.prog 238:=Wb Tryz.func238 (show Wg Tryz.f238 = true by kernel_rfl)
theorem Zva (N:Nat):Good Tryz.prog 238 (Zj9 N):=GF Zu8 N Tryz.func238 (Wa (Zok N) Zoj (Wa (Zpr N) Zpq (Wa (Zlw N) Zlv We))) (by kernel_rfl) (fun d=>by kernel_rfl)
def Zev (N:Nat):Sig:=Sig.of [.v Ju true] [.v Jag true] (fun d=>Zce N d.1)
def Z18:Fn:=⟨Tryz.f123,Wz,Zev,Wci⟩
theorem Zhv:Wc Tryz.prog 123:=Wb Tryz.func123 (show Wg Tryz.f123 = true by kernel_rfl)
theorem Zhw (N:Nat):Good Tryz.prog 123 (Zev N):=GF Z18 N Tryz.func123 We (by kernel_rfl) (fun d=>by kernel_rfl)
def Zpe (N:Nat):Sig:=Sig.of [.v Ju true,.v Ja false,.v Ja false] [.v Jag true,.v Jp false] (fun d=>Zms N d.1 d.2.1 d.2.2.1)
def Z4v:Fn:=⟨Tryz.f275,Wz,Zpe,fun N=>[(123,Zev N),(124,Ze9 N),(65,Zb6 N),(288,Zeu N)]⟩
theorem Z4w:Wc Tryz.prog 275:=Wb Tryz.func275 (show Wg Tryz.f275 = true by kernel_rfl)
theorem Z4x (N:Nat):Good Tryz.prog 275 (Zpe N):=GF Z4v N Tryz.func275 (Wa (Zhw N) Zhv (Wa (Zhk N) Zhj (Wa (Zdv N) Zdu (Wa (Zhu N) Zht We)))) (by kernel_rfl) (fun d=>by kernel_rfl)
def Zgh (N:Nat):Sig:=Sig.of [.box Jd,.v Ja false] [] (fun d=>Ze4 N d.1 d.2.1)
def Zql:Fn:=⟨Tryz.f277,Wz,Zgh,Wci⟩
theorem Zmd:Wc Tryz.prog 277:=Wb Tryz.func277 (show Wg Tryz.f277 = true by kernel_rfl)
theorem Zme (N:Nat):Good Tryz.prog 277 (Zgh N):=GF Zql N Tryz.func277 We (by kernel_rfl) (fun d=>by kernel_rfl)
def Zka (N:Nat):Sig:=Sig.of [.box Jd,.v Ja false] [] (fun d=>Zbo N d.1 d.2.1)
def Zvb:Fn:=⟨Tryz.f276,Wz,Zka,fun N=>[(293,Zgt N),(277,Zgh N)]⟩
theorem Zvc:Wc Tryz.prog 276:=Wb Tryz.func276 (show Wg Tryz.f276 = true by kernel_rfl)
theorem Zvd (N:Nat):Good Tryz.prog 276 (Zka N):=GF Zvb N Tryz.func276 (Wa (Zmw N) Zmv (Wa (Zme N) Zmd We)) (by kernel_rfl) (fun d=>by kernel_rfl)
def Zpf (N:Nat):Sig:=Sig.of [.v Ju true] [.v Jag true,.v Ja false] (fun d=>Zoz N d.1)
def Z4y:Fn:=⟨Tryz.f57,Wz,Zpf,fun N=>[(123,Zev N),(124,Ze9 N)]⟩
theorem Z4z:Wc Tryz.prog 57:=Wb Tryz.func57 (show Wg Tryz.f57 = true by kernel_rfl)
end
end Go.Sx
