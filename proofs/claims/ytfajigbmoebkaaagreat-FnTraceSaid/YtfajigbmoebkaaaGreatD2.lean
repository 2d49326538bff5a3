/- Each Go function does what its Lean function says. -/
import Derived.Test.YtfajigbmoebkaaaGreatD
namespace Go.Sx
noncomputable section
open Go.Proofs
set_option linter.unusedVariables false
set_option linter.unusedSimpArgs false
def Zgd (N:Nat):Sig:=Sig.of [.box Jy,.v Ja false] [] (fun d=>Zbg N d.1 d.2.1)
def Zqq:Fn:=⟨Tryz.f122,Wy,Zgd,fun N=>[(72,Z7 N)]⟩
theorem Zmg:Wc Tryz.prog 122:=Wb Tryz.func122 (show Wg Tryz.f122 = true by kernel_rfl)
theorem Zmh (N:Nat):Good Tryz.prog 122 (Zgd N):=GF Zqq N Tryz.func122 (Wa (Zah N) Zag We) (by kernel_rfl) (fun d=>by kernel_rfl)
def Zkc (N:Nat):Sig:=Sig.of [.box Jy,.v Ja false,.v Jv true,.v Jab true] [] (fun d=>Zie N d.1 d.2.1 d.2.2.1 d.2.2.2.1)
def Zus:Fn:=⟨Tryz.f173,fun | 1=>[.opn 18] | _=>[],Zkc,fun N=>[(172,Zkl N),(121,Ze8 N),(122,Zgd N),(220,Zi3 N),(221,Zis N)]⟩
theorem Zut:Wc Tryz.prog 173:=Wb Tryz.func173 (show Wg Tryz.f173 = true by kernel_rfl)
theorem Zuu (N:Nat):Good Tryz.prog 173 (Zkc N):=GF Zus N Tryz.func173 (Wa (Zpc N) Zpb (Wa (Zji N) Zjh (Wa (Zmh N) Zmg (Wa (Zpn N) Zpm (Wa (Zo2 N) Zo1 We))))) (by kernel_rfl) (fun d=>by kernel_rfl)
def Zjj (N:Nat):Sig:=Sig.of [.box Jh,.v Jc false] [] (fun d=>Zh2 N d.1 d.2.1)
def Zsu:Fn:=⟨Tryz.f174,fun | 5=>[.opn 28] | _=>[],Zjj,fun N=>[(72,Z7 N),(222,Zde N),(223,Zmb N)]⟩
theorem Zsv:Wc Tryz.prog 174:=Wb Tryz.func174 (show Wg Tryz.f174 = true by kernel_rfl)
theorem Zsw (N:Nat):Good Tryz.prog 174 (Zjj N):=GF Zsu N Tryz.func174 (Wa (Zah N) Zag (Wa (Zhe N) Zhd (Wa (Zr9 N) Zr8 We))) (by kernel_rfl) (fun d=>by kernel_rfl)
def Zkw (N:Nat):Sig:=Sig.of [.box Jy,.v Ja false,.v Jc false,.v Jab true] [] (fun d=>Ziw N d.1 d.2.1 d.2.2.1 d.2.2.2.1)
def Zw3:Fn:=⟨Tryz.f119,fun | 1=>[.opn 16] | 18=>[.nest 128 Js] | _=>[],Zkw,fun N=>[(173,Zkc N),(174,Zjj N),(72,Z7 N),(175,Zm1 N)]⟩
theorem Zw4:Wc Tryz.prog 119:=Wb Tryz.func119 (show Wg Tryz.f119 = true by kernel_rfl)
theorem Zw5 (N:Nat):Good Tryz.prog 119 (Zkw N):=GF Zw3 N Tryz.func119 (Wa (Zuu N) Zut (Wa (Zsw N) Zsv (Wa (Zah N) Zag (Wa (Zvh N) Zvg We)))) (by kernel_rfl) (fun d=>by kernel_rfl)
def Zbc (N:Nat):Sig:=Sig.of [.mut Jk,.clos 177 0] [] (fun d=>Zam N d.1)
theorem Zea:Wc Tryz.prog 176:=Wb Tryz.func176 (show Wg Tryz.f176 = true by kernel_rfl)
theorem Zeb:CmpOk Tryz.prog 177 Jk rngE cfE:=by
  intro G x y us vs w hx hy h1 h2
  obtain ⟨_,_,rfl,a1,_,_,rfl,a2,a3⟩:=h1
  obtain ⟨_,_,rfl,b1,_,_,rfl,b2,b3⟩:=h2
  simp only [Enc] at a1 a2 a3 b1 b2 b3
  subst a1 a2 a3 b1 b2 b3
  simp only [List.cons_append,List.nil_append]
  go_enter Tryz.func177,Tryz.ntmps177
  go_wp2
  rw [sub_run (Wnn hx) (Wnn hy) (c:=cfE x y) rfl]
  go_wp2
  go_ret
  exact ⟨rfl,two_grow _ _ _⟩
theorem Zec (N:Nat):Good Tryz.prog 176 (Zbc N):=good_sortF sortFE (e:=.prod Ja Jw) rfl (by decide) Tryz.isAgg127 Tryz.sizeOf127 (enters_of Tryz.func177 (by kernel_rfl) rfl) swoE Zeb N
def Zjk (N:Nat):Sig:=Sig.of [.box Jy,.v Ja false] [] (fun d=>Zbr N d.1 d.2.1)
def Zcp:Fn:=⟨Tryz.f120,fun | 0=>[.opn 16] | 3=>[.canon [0,1,4,28,29,30,31]] | 4=>[.canon [0,1,4,6,28,29,30]] | 5=>[.canon [0,1,4,6,7,28,29,30]] | 6=>[.canon [0,1,4,7,8,28,29,30]] | 7=>[.canon [0,1,4,7,8,28,29,30,48]] | 8=>[.canon [0,1,4,28,29,30]] | 9=>[.canon [0,1,4,28,29,30]] | 10=>[.canon [0,1,4,28,29,30]] | 13=>[.canon [0,1,4,75,76,77,78]] | 14=>[.canon [0,1,4,10,75,76,77]] | 15=>[.canon [0,1,4,10,75,76,77,83]] | 16=>[.canon [0,1,4,75,76,77]] | 17=>[.canon [0,1,4,75,76,77]] | 100003=>[.canon [0,1,4,28,29,30]] | 100013=>[.canon [0,1,4,75,76,77]] | _=>[],Zjk,fun N=>[(118,Zje N),(121,Ze8 N),(176,Zbc N)]⟩
def Zps (k4:Int) (t5:Int) (t6:Int) (b7:Int) (b8:Int) (b9:Int) (b10:Bool) (b11:Int) (b12:Int) (b13:Int) (b14:Int) (b15:Int) (b16:Int) (b17:Bool) (b18:Int) (b19:Int) (b20:Int) (b21:Int) (l22:List Kc) (l23:List Int) (l24:List Kc) (l25:List Kb) (l26:List Int) (l27:List Kc) (l28:List Y_KidRun) (i29:Nat) (l30:List Int) (l31:List Kb) (l32:List Kc) (l33:List Ki):St:=⟨[(0,vP 0 0),(1,vI k4),(4,vP 1 0),(28,vO 2),(29,vI t5),(30,vI t6)],[(0,.box [.val Ja b7,.val Ja b8,.val Ja b9,.val Jp b10,.own 3,.own 4,.own 5,.own 6,.own 7,.own 8]),(1,.box [.val Ja b11,.val Ja b12,.val Ja b13,.val Ja b14,.val Ja b15,.val Ja b16,.own 9,.own 10,.own 11,.own 12,.val Jp b17,.val Ja b18,.val Ja b19,.val Ja b20,.val Ja b21]),(2,.arr Jw l22),(3,.arr Ja l23),(4,.arr Jw l24),(5,.arr Jk l25),(6,.arr Ja l26),(7,.arr Jw l27),(8,.hole Jh l28 i29 1),(9,.arr Ja l30),(10,.arr Jk l31),(11,.arr Jw l32),(12,.arr Js l33)],13⟩
def Zpf (k4:Int) (t5:Int) (b7:Int) (b8:Int) (b9:Int) (b10:Bool) (b11:Int) (b12:Int) (b13:Int) (b14:Int) (b15:Int) (b16:Int) (b17:Bool) (b18:Int) (b19:Int) (b20:Int) (b21:Int) (l22:List Kc) (l23:List Int) (l24:List Kc) (l26:List Int) (l27:List Kc) (l28:List Y_KidRun) (i29:Nat) (l30:List Int) (l31:List Kb) (l32:List Kc) (l33:List Ki) (t35:Int) (t36:Bool) (l37:List Kb):St:=⟨[(0,vP 0 0),(1,vI k4),(4,vP 1 0),(28,vO 2),(29,vI t5),(30,vI t35),(31,vB t36)],[(0,.box [.val Ja b7,.val Ja b8,.val Ja b9,.val Jp b10,.own 3,.own 4,.own 5,.own 6,.own 7,.own 8]),(1,.box [.val Ja b11,.val Ja b12,.val Ja b13,.val Ja b14,.val Ja b15,.val Ja b16,.own 9,.own 10,.own 11,.own 12,.val Jp b17,.val Ja b18,.val Ja b19,.val Ja b20,.val Ja b21]),(2,.arr Jw l22),(3,.arr Ja l23),(4,.arr Jw l24),(5,.arr Jk l37),(6,.arr Ja l26),(7,.arr Jw l27),(8,.hole Jh l28 i29 1),(9,.arr Ja l30),(10,.arr Jk l31),(11,.arr Jw l32),(12,.arr Js l33)],13⟩
theorem Zpt (N:Nat) {R:Type} (K:Ex → St → Option R) {k4:Int} {t5:Int} {b7:Int} {b8:Int} {b9:Int} {b10:Bool} {b11:Int} {b12:Int} {b13:Int} {b14:Int} {b15:Int} {b16:Int} {b17:Bool} {b18:Int} {b19:Int} {b20:Int} {b21:Int} {l22:List Kc} {l23:List Int} {l24:List Kc} {l26:List Int} {l27:List Kc} {l28:List Y_KidRun} {i29:Nat} {l30:List Int} {l31:List Kb} {l32:List Kc} {l33:List Ki} {K0:Int → Bool → Km → Option R} (h0:K0 = fun t35 t36 l37=>K (.exit 0) (Zpf k4 t5 b7 b8 b9 b10 b11 b12 b13 b14 b15 b16 b17 b18 b19 b20 b21 l22 l23 l24 l26 l27 l28 i29 l30 l31 l32 l33 t35 t36 l37)) (n:Nat) (t6:Int) (l25:List Kb):Zay N k4 t5 b7 b8 b9 b10 b11 b12 b13 b14 b15 b16 b17 b18 b19 b20 b21 l22 l23 l24 l26 l27 l28 i29 l30 l31 l32 l33 K0 n t6 l25 = LM Zcp N 0 100003 n (Zps k4 t5 t6 b7 b8 b9 b10 b11 b12 b13 b14 b15 b16 b17 b18 b19 b20 b21 l22 l23 l24 l25 l26 l27 l28 i29 l30 l31 l32 l33) K:=by
  subst h0
  induction n generalizing t6 l25 with
  | zero=>kernel_rfl
  | succ n ih=>rw [Zay]; simp (disch:=exact id (by kernel_rfl)) only [ih]; kernel_rfl
def Zpu (k43:Int) (t44:Int) (t45:Int) (b46:Int) (b47:Int) (b48:Int) (b49:Bool) (b50:Int) (b51:Int) (b52:Int) (b53:Int) (b54:Int) (b55:Int) (b56:Bool) (b57:Int) (b58:Int) (b59:Int) (b60:Int) (l61:List Kb) (l62:List Int) (l63:List Kc) (l64:List Kb) (l65:List Int) (l66:List Kc) (l67:List Y_KidRun) (i68:Nat) (l69:List Int) (l70:List Kc) (l71:List Ki):St:=⟨[(0,vP 0 0),(1,vI k43),(4,vP 1 0),(75,vO 2),(76,vI t44),(77,vI t45)],[(0,.box [.val Ja b46,.val Ja b47,.val Ja b48,.val Jp b49,.own 3,.own 4,.own 5,.own 6,.own 7,.own 8]),(1,.box [.val Ja b50,.val Ja b51,.val Ja b52,.val Ja b53,.val Ja b54,.val Ja b55,.own 9,.own 2,.own 10,.own 11,.val Jp b56,.val Ja b57,.val Ja b58,.val Ja b59,.val Ja b60]),(2,.arr Jk l61),(3,.arr Ja l62),(4,.arr Jw l63),(5,.arr Jk l64),(6,.arr Ja l65),(7,.arr Jw l66),(8,.hole Jh l67 i68 1),(9,.arr Ja l69),(10,.arr Jw l70),(11,.arr Js l71)],12⟩
def Zpg (k43:Int) (t44:Int) (b46:Int) (b47:Int) (b48:Int) (b49:Bool) (b50:Int) (b51:Int) (b52:Int) (b53:Int) (b54:Int) (b55:Int) (b56:Bool) (b57:Int) (b58:Int) (b59:Int) (b60:Int) (l61:List Kb) (l62:List Int) (l63:List Kc) (l64:List Kb) (l65:List Int) (l67:List Y_KidRun) (i68:Nat) (l69:List Int) (l70:List Kc) (l71:List Ki) (t72:Int) (t73:Bool) (l74:List Kc):St:=⟨[(0,vP 0 0),(1,vI k43),(4,vP 1 0),(75,vO 2),(76,vI t44),(77,vI t72),(78,vB t73)],[(0,.box [.val Ja b46,.val Ja b47,.val Ja b48,.val Jp b49,.own 3,.own 4,.own 5,.own 6,.own 7,.own 8]),(1,.box [.val Ja b50,.val Ja b51,.val Ja b52,.val Ja b53,.val Ja b54,.val Ja b55,.own 9,.own 2,.own 10,.own 11,.val Jp b56,.val Ja b57,.val Ja b58,.val Ja b59,.val Ja b60]),(2,.arr Jk l61),(3,.arr Ja l62),(4,.arr Jw l63),(5,.arr Jk l64),(6,.arr Ja l65),(7,.arr Jw l74),(8,.hole Jh l67 i68 1),(9,.arr Ja l69),(10,.arr Jw l70),(11,.arr Js l71)],12⟩
theorem Zpv (N:Nat) {R:Type} (K:Ex → St → Option R) {k43:Int} {t44:Int} {b46:Int} {b47:Int} {b48:Int} {b49:Bool} {b50:Int} {b51:Int} {b52:Int} {b53:Int} {b54:Int} {b55:Int} {b56:Bool} {b57:Int} {b58:Int} {b59:Int} {b60:Int} {l61:List Kb} {l62:List Int} {l63:List Kc} {l64:List Kb} {l65:List Int} {l67:List Y_KidRun} {i68:Nat} {l69:List Int} {l70:List Kc} {l71:List Ki} {K0:Int → Bool → (List Kc) → Option R} (h0:K0 = fun t72 t73 l74=>K (.exit 2) (Zpg k43 t44 b46 b47 b48 b49 b50 b51 b52 b53 b54 b55 b56 b57 b58 b59 b60 l61 l62 l63 l64 l65 l67 i68 l69 l70 l71 t72 t73 l74)) (n:Nat) (t45:Int) (l66:List Kc):Za6 N k43 t44 b46 b47 b48 b49 b50 b51 b52 b53 b54 b55 b56 b57 b58 b59 b60 l61 l62 l63 l64 l65 l67 i68 l69 l70 l71 K0 n t45 l66 = LM Zcp N 1 100013 n (Zpu k43 t44 t45 b46 b47 b48 b49 b50 b51 b52 b53 b54 b55 b56 b57 b58 b59 b60 l61 l62 l63 l64 l65 l66 l67 i68 l69 l70 l71) K:=by
  subst h0
  induction n generalizing t45 l66 with
  | zero=>kernel_rfl
  | succ n ih=>rw [Za6]; simp (disch:=exact id (by kernel_rfl)) only [ih]; kernel_rfl
theorem Zsx:Wc Tryz.prog 120:=Wb Tryz.func120 (show Wg Tryz.f120 = true by kernel_rfl)
theorem Zsy (N:Nat) (f1:Y_Family) (k2:Int):DN Zcp N (f1,k2,()) = Zbr N f1 k2:=by
  have h:Zbr N f1 k2 = Zbr N f1 k2:=rfl
  conv at h=>rhs; rw [Zbr]
  simp (disch:=exact id (by kernel_rfl)) only [Zpt (R:=(Y_Family × Unit) × Unit) N (CF Zcp N [1,1,0,1,0]),Zpv (R:=(Y_Family × Unit) × Unit) N (CF Zcp N [1,1,1,1,0,1,0])] at h
  exact Eq.trans (by kernel_rfl) h.symm
theorem Zsz (N:Nat):Good Tryz.prog 120 (Zjk N):=GF Zcp N Tryz.func120 (Wa (Zn3 N) Zn2 (Wa (Zji N) Zjh (Wa (Zec N) Zea We))) (by kernel_rfl) (fun d=>Zsy N d.1 d.2.1)
def Zkd (N:Nat):Sig:=Sig.of [.box Jy,.v Ja false,.v Jc false,.v Jab true] [] (fun d=>Zif N d.1 d.2.1 d.2.2.1 d.2.2.2.1)
def Zuv:Fn:=⟨Tryz.f56,fun | 2=>[.opn 20] | _=>[],Zkd,fun N=>[(119,Zkw N),(120,Zjk N),(121,Ze8 N),(122,Zgd N)]⟩
theorem Zuw:Wc Tryz.prog 56:=Wb Tryz.func56 (show Wg Tryz.f56 = true by kernel_rfl)
theorem Zux (N:Nat):Good Tryz.prog 56 (Zkd N):=GF Zuv N Tryz.func56 (Wa (Zw5 N) Zw4 (Wa (Zsz N) Zsx (Wa (Zji N) Zjh (Wa (Zmh N) Zmg We)))) (by kernel_rfl) (fun d=>by kernel_rfl)
def Zg0 (N:Nat):Sig:=Sig.of [.box Jt,.v Jz true,.v Jk true] [] (fun d=>Zcw N d.1 d.2.1 d.2.2.1)
def Zyz:Fn:=⟨Tryz.f104,fun | 3=>[.unfE 6] | _=>[],Zg0,fun N=>[(55,Zz N),(155,Zkv N),(56,Zkd N)]⟩
theorem Zlx:Wc Tryz.prog 104:=Wb Tryz.func104 (show Wg Tryz.f104 = true by kernel_rfl)
theorem Zly (N:Nat):Good Tryz.prog 104 (Zg0 N):=GF Zyz N Tryz.func104 (Wa (Z4 N) Z3 (Wa (Zw2 N) Zw1 (Wa (Zux N) Zuw We))) (by kernel_rfl) (fun d=>by kernel_rfl)
def Zph (N:Nat):Sig:=Sig.of [.v Jz true] [.v Jt true] (fun d=>Zhh N d.1)
def Zm2:Fn:=⟨Tryz.f36,fun | 3=>[.nest 21 Jaa] | 6=>[.canon [1,2,3,32,33,34,35]] | 7=>[.canon [1,2,3,5,32,33,34]] | 8=>[.canon [1,2,3,32,33,34]] | 9=>[.canon [1,2,3,32,33,34]] | 100006=>[.adoptC 3 6 Jk,.adoptC 3 8 Ji,.canon [1,2,3,32,33,34]] | _=>[],Zph,fun N=>[(103,Zhc N),(107,Zip N),(53,Zk7 N),(104,Zg0 N)]⟩
def Zzs (t5:List Kb) (t7:Int) (b8:Ke × List Kk × List Kb) (b13:Int) (b14:Int) (b15:Int) (b16:Int) (l17:List Kb) (l18:List Int) (l19:List Kb) (l20:List Y_Root) (l21:List Kl):St:=⟨[(1,vP 0 0),(2,vP 1 0),(3,vP 2 0),(32,vV Je t5),(33,vI (ilen b8.2.2)),(34,vI t7)],[(0,.box [.val Jj b8.1.1,.val Jj b8.1.2.1,.val Ja b8.1.2.2,.val Jaf b8.2.1,.val Je b8.2.2]),(1,.box [.val Ja (0:Int),.val Ja (0:Int),.val Ja (0:Int),.nils,.nils,.val Ja (0:Int),.nils,.nils,.nils]),(2,.box [.val Ja b13,.val Ja b14,.val Ja b15,.own 3,.own 4,.val Ja b16,.own 5,.own 6,.own 7]),(3,.arr Jk l17),(4,.arr Ja l18),(5,.arr Jk l19),(6,.arr Jaa l20),(7,.arr Ji l21)],8⟩
def Zy0 (t5:List Kb) (b8:Ke × List Kk × List Kb) (t24:Int) (t25:Bool) (b26:Int) (b27:Int) (b28:Int) (b29:Int) (l30:List Kb) (l31:List Int) (l32:List Kb) (l33:List Y_Root) (l34:List Kl):St:=⟨[(1,vP 0 0),(2,vP 1 0),(3,vP 2 0),(32,vV Je t5),(33,vI (ilen b8.2.2)),(34,vI t24),(35,vB t25)],[(0,.box [.val Jj b8.1.1,.val Jj b8.1.2.1,.val Ja b8.1.2.2,.val Jaf b8.2.1,.val Je b8.2.2]),(1,.box [.val Ja (0:Int),.val Ja (0:Int),.val Ja (0:Int),.nils,.nils,.val Ja (0:Int),.nils,.nils,.nils]),(2,.box [.val Ja b26,.val Ja b27,.val Ja b28,.own 3,.own 4,.val Ja b29,.own 5,.own 6,.own 7]),(3,.arr Jk l30),(4,.arr Ja l31),(5,.arr Jk l32),(6,.arr Jaa l33),(7,.arr Ji l34)],8⟩
theorem Zzt (N:Nat) {R:Type} (K:Ex → St → Option R) {t5:List Kb} {b8:Ke × List Kk × List Kb} {K0:Int → Bool → Int → Int → Int → Int → Km → Kh → Km → (List Y_Root) → (List Kl) → Option R} (h0:K0 = fun t24 t25 b26 b27 b28 b29 l30 l31 l32 l33 l34=>K (.exit 0) (Zy0 t5 b8 t24 t25 b26 b27 b28 b29 l30 l31 l32 l33 l34)) (n:Nat) (t7:Int) (b13:Int) (b14:Int) (b15:Int) (b16:Int) (l17:List Kb) (l18:List Int) (l19:List Kb) (l20:List Y_Root) (l21:List Kl):Zbb N t5 b8 K0 n t7 b13 b14 b15 b16 l17 l18 l19 l20 l21 = LM Zm2 N 0 100006 n (Zzs t5 t7 b8 b13 b14 b15 b16 l17 l18 l19 l20 l21) K:=by
  subst h0
  induction n generalizing t7 b13 b14 b15 b16 l17 l18 l19 l20 l21 with
  | zero=>kernel_rfl
  | succ n ih=>rw [Zbb]; simp (disch:=exact id (by kernel_rfl)) only [ih]; kernel_rfl
theorem Z4g:Wc Tryz.prog 36:=Wb Tryz.func36 (show Wg Tryz.f36 = true by kernel_rfl)
theorem Z4h (N:Nat) (s1:Ke × List Kk × List Kb):DN Zm2 N (s1,()) = Zhh N s1:=by
  have h:Zhh N s1 = Zhh N s1:=rfl
  conv at h=>rhs; rw [Zhh]
  simp (disch:=exact id (by kernel_rfl)) only [Zzt (R:=Unit × (Y_World × Unit)) N (CF Zm2 N [1,1,1,1,0,1,0])] at h
  exact Eq.trans (by kernel_rfl) h.symm
theorem Z4i (N:Nat):Good Tryz.prog 36 (Zph N):=GF Zm2 N Tryz.func36 (Wa (Zmk N) Zmj (Wa (Zoy N) Zox (Wa (Zq0 N) Zqz (Wa (Zly N) Zlx We)))) (by kernel_rfl) (fun d=>Z4h N d.1)
def Zno (N:Nat):Sig:=Sig.of [.v Jz true] [.v (.own Jv) false] (fun d=>Zez N d.1)
def Zke:Fn:=⟨Tryz.f34,fun | 8=>[.canon [1,3,5,18,19,20,21]] | 9=>[.canon [1,3,5,6,7,18,19,20]] | 10=>[.canon [1,3,5,6,7,8,18,19,20]] | 11=>[.canon [1,3,5,6,7,8,18,19,20,31]] | 12=>[.canon [1,3,5,6,7,8,18,19,20]] | 13=>[.canon [1,3,5,6,7,8,18,19,20]] | 14=>[.canon [1,3,5,6,7,8,18,19,20,54]] | 15=>[.canon [1,3,5,18,19,20]] | 16=>[.canon [1,3,5,18,19,20]] | 100008=>[.canon [1,3,5,18,19,20]] | _=>[],Zno,fun N=>[(103,Zhc N),(36,Zph N),(55,Zz N),(104,Zg0 N)]⟩
def Zuy (t4:List Kb) (t5:Int) (t6:Int) (b7:List Int) (b8:List Int) (b9:Int) (b10:List Kk) (l11:List Ka) (b12:Int) (b13:Int) (b14:Int) (b15:Int) (l16:List Kb) (l17:List Int) (l18:List Kb) (l19:List Y_Root) (l20:List Kl):St:=⟨[(1,vP 0 0),(3,vO 1),(5,vP 2 0),(18,vV Je t4),(19,vI t5),(20,vI t6)],[(0,.box [.val Jj b7,.val Jj b8,.val Ja b9,.val Jaf b10,.nils]),(1,.arr Jv l11),(2,.box [.val Ja b12,.val Ja b13,.val Ja b14,.own 3,.own 4,.val Ja b15,.own 5,.own 6,.own 7]),(3,.arr Jk l16),(4,.arr Ja l17),(5,.arr Jk l18),(6,.arr Jaa l19),(7,.arr Ji l20)],8⟩
def Zs0 (t4:List Kb) (t5:Int) (b7:List Int) (b8:List Int) (b9:Int) (b10:List Kk) (t24:Int) (t25:Bool) (l26:List Ka) (b27:Int) (b28:Int) (b29:Int) (b30:Int) (l31:List Kb) (l32:List Int) (l33:List Kb) (l34:List Y_Root) (l35:List Kl):St:=⟨[(1,vP 0 0),(3,vO 1),(5,vP 2 0),(18,vV Je t4),(19,vI t5),(20,vI t24),(21,vB t25)],[(0,.box [.val Jj b7,.val Jj b8,.val Ja b9,.val Jaf b10,.nils]),(1,.arr Jv l26),(2,.box [.val Ja b27,.val Ja b28,.val Ja b29,.own 3,.own 4,.val Ja b30,.own 5,.own 6,.own 7]),(3,.arr Jk l31),(4,.arr Ja l32),(5,.arr Jk l33),(6,.arr Jaa l34),(7,.arr Ji l35)],8⟩
theorem Zuz (N:Nat) {R:Type} (K:Ex → St → Option R) {t4:List Kb} {t5:Int} {b7:List Int} {b8:List Int} {b9:Int} {b10:List Kk} {K0:Int → Bool → Ko → Int → Int → Int → Int → Km → Kh → Km → (List Y_Root) → (List Kl) → Option R} (h0:K0 = fun t24 t25 l26 b27 b28 b29 b30 l31 l32 l33 l34 l35=>K (.exit 0) (Zs0 t4 t5 b7 b8 b9 b10 t24 t25 l26 b27 b28 b29 b30 l31 l32 l33 l34 l35)) (n:Nat) (t6:Int) (l11:List Ka) (b12:Int) (b13:Int) (b14:Int) (b15:Int) (l16:List Kb) (l17:List Int) (l18:List Kb) (l19:List Y_Root) (l20:List Kl):Zan N t4 t5 b7 b8 b9 b10 K0 n t6 l11 b12 b13 b14 b15 l16 l17 l18 l19 l20 = LM Zke N 0 100008 n (Zuy t4 t5 t6 b7 b8 b9 b10 l11 b12 b13 b14 b15 l16 l17 l18 l19 l20) K:=by
  subst h0
  induction n generalizing t6 l11 b12 b13 b14 b15 l16 l17 l18 l19 l20 with
  | zero=>kernel_rfl
  | succ n ih=>rw [Zan]; simp (disch:=exact id (by kernel_rfl)) only [ih]; kernel_rfl
theorem Z1l:Wc Tryz.prog 34:=Wb Tryz.func34 (show Wg Tryz.f34 = true by kernel_rfl)
theorem Z1m (N:Nat) (s1:Ke × List Kk × List Kb):DN Zke N (s1,()) = Zez N s1:=by
  have h:Zez N s1 = Zez N s1:=rfl
  conv at h=>rhs; rw [Zez]
  simp (disch:=exact id (by kernel_rfl)) only [Zuz (R:=Unit × (Ko × Unit)) N (CF Zke N [1,1,1,1,1,1,0,1,0])] at h
  exact Eq.trans (by kernel_rfl) h.symm
theorem Z1n (N:Nat):Good Tryz.prog 34 (Zno N):=GF Zke N Tryz.func34 (Wa (Zmk N) Zmj (Wa (Z4i N) Z4g (Wa (Z4 N) Z3 (Wa (Zly N) Zlx We)))) (by kernel_rfl) (fun d=>Z1m N d.1)
def Zg9 (N:Nat):Sig:=Sig.of [.v Ja false,.v Ja false,.v Ja false] [.v Jp false] (fun d=>Zbn N d.1 d.2.1 d.2.2.1)
def Z4j:Fn:=⟨Tryz.f61,Wy,Zg9,Wde⟩
theorem Zkm:Wc Tryz.prog 61:=Wb Tryz.func61 (show Wg Tryz.f61 = true by kernel_rfl)
theorem Zkn (N:Nat):Good Tryz.prog 61 (Zg9 N):=GF Z4j N Tryz.func61 We (by kernel_rfl) (fun d=>by kernel_rfl)
def Zjl (N:Nat):Sig:=Sig.of [.v Ja false] [.v Jp false] (fun d=>Zhp N d.1)
def Z3z:Fn:=⟨Tryz.f112,Wy,Zjl,fun N=>[(61,Zg9 N)]⟩
theorem Zos:Wc Tryz.prog 112:=Wb Tryz.func112 (show Wg Tryz.f112 = true by kernel_rfl)
theorem Zot (N:Nat):Good Tryz.prog 112 (Zjl N):=GF Z3z N Tryz.func112 (Wa (Zkn N) Zkm We) (by kernel_rfl) (fun d=>by kernel_rfl)
def Zoa (N:Nat):Sig:=Sig.of [.v Jj false] [.v Jp false] (fun d=>Zf3 N d.1)
def Zle:Fn:=⟨Tryz.f58,fun | 4=>[.canon [0,3,10]] | 5=>[.canon [0,3]] | 6=>[.canon [0,3,18]] | 7=>[.canon [2]] | 100004=>[.canon [0,3]] | _=>[],Zoa,fun N=>[(112,Zjl N)]⟩
def Zw6 (l2:List Int) (i3:Int):St:=⟨[(0,vV Jj l2),(3,vI i3)],[],0⟩
def Zu0 (l2:List Int):St:=⟨[(2,vB false)],[],0⟩
def Zu1 (l2:List Int) (i5:Int) (t6:Bool):St:=⟨[(0,vV Jj l2),(3,vI i5),(10,vB t6)],[],0⟩
theorem Zw7 (N:Nat) {R:Type} (K:Ex → St → Option R) {l2:List Int} {K0:Option R} {K1:Int → Bool → Option R} (h0:K0 = K .ret (Zu0 l2)) (h1:K1 = fun i5 t6=>K (.exit 0) (Zu1 l2 i5 t6)) (n:Nat) (i3:Int):Zda N l2 K0 K1 n i3 = LM Zle N 0 100004 n (Zw6 l2 i3) K:=by
  subst h0 h1
  induction n generalizing i3 with
  | zero=>kernel_rfl
  | succ n ih=>rw [Zda]; simp (disch:=exact id (by kernel_rfl)) only [ih]; kernel_rfl
theorem Z2z:Wc Tryz.prog 58:=Wb Tryz.func58 (show Wg Tryz.f58 = true by kernel_rfl)
theorem Z20 (N:Nat) (l1:List Int):DN Zle N (l1,()) = Zf3 N l1:=by
  have h:Zf3 N l1 = Zf3 N l1:=rfl
  conv at h=>rhs; rw [Zf3]
  simp (disch:=exact id (by kernel_rfl)) only [Zw7 (R:=Unit × Kg) N (CF Zle N [1,1,0,1,0])] at h
  exact Eq.trans (by kernel_rfl) h.symm
theorem Z21 (N:Nat):Good Tryz.prog 58 (Zoa N):=GF Zle N Tryz.func58 (Wa (Zot N) Zos We) (by kernel_rfl) (fun d=>Z20 N d.1)
def Zmn (N:Nat):Sig:=Sig.of [.v Jr true] [.v Jp false] (fun d=>Zdi N d.1)
def Zi6:Fn:=⟨Tryz.f105,fun | 4=>[.canon [1,3,24]] | 5=>[.canon [1,3]] | 6=>[.canon [1,3,33]] | 7=>[.canon [2]] | 100004=>[.canon [1,3]] | _=>[],Zmn,fun N=>[(58,Zoa N),(112,Zjl N),(61,Zg9 N)]⟩
def Zs1 (i4:Int) (b5:List Int × List Int × Int):St:=⟨[(1,vP 0 0),(3,vI i4)],[(0,.box [.val Jj b5.1,.val Jj b5.2.1,.val Ja b5.2.2])],1⟩
def Zrk (b5:List Int × List Int × Int):St:=⟨[(2,vB false)],[],0⟩
def Zrl (b5:List Int × List Int × Int) (i7:Int) (t8:Bool):St:=⟨[(1,vP 0 0),(3,vI i7),(24,vB t8)],[(0,.box [.val Jj b5.1,.val Jj b5.2.1,.val Ja b5.2.2])],1⟩
theorem Zs2 (N:Nat) {R:Type} (K:Ex → St → Option R) {b5:List Int × List Int × Int} {K0:Option R} {K1:Int → Bool → Option R} (h0:K0 = K .ret (Zrk b5)) (h1:K1 = fun i7 t8=>K (.exit 0) (Zrl b5 i7 t8)) (n:Nat) (i4:Int):Zbs N b5 K0 K1 n i4 = LM Zi6 N 0 100004 n (Zs1 i4 b5) K:=by
  subst h0 h1
  induction n generalizing i4 with
  | zero=>kernel_rfl
  | succ n ih=>rw [Zbs]; simp (disch:=exact id (by kernel_rfl)) only [ih]; kernel_rfl
theorem Zzu:Wc Tryz.prog 105:=Wb Tryz.func105 (show Wg Tryz.f105 = true by kernel_rfl)
theorem Zzv (N:Nat) (s1:List Int × List Int × Int):DN Zi6 N (s1,()) = Zdi N s1:=by
  have h:Zdi N s1 = Zdi N s1:=rfl
  conv at h=>rhs; rw [Zdi]
  simp (disch:=exact id (by kernel_rfl)) only [Zs2 (R:=Unit × Kg) N (CF Zi6 N [1,1,0,1,0])] at h
  exact Eq.trans (by kernel_rfl) h.symm
theorem Zzw (N:Nat):Good Tryz.prog 105 (Zmn N):=GF Zi6 N Tryz.func105 (Wa (Z21 N) Z2z (Wa (Zot N) Zos (Wa (Zkn N) Zkm We))) (by kernel_rfl) (fun d=>Zzv N d.1)
def Zou (N:Nat):Sig:=Sig.of [.v Ja false] [.v Jp false] (fun d=>Zu N d.1)
def Z30:Fn:=⟨Tryz.f226,Wy,Zou,fun N=>[(61,Zg9 N)]⟩
theorem Z31:Wc Tryz.prog 226:=Wb Tryz.func226 (show Wg Tryz.f226 = true by kernel_rfl)
theorem Z32 (N:Nat):Good Tryz.prog 226 (Zou N):=GF Z30 N Tryz.func226 (Wa (Zkn N) Zkm We) (by kernel_rfl) (fun d=>by kernel_rfl)
def Zob (N:Nat):Sig:=Sig.of [.v Ja false] [.v Jp false] (fun d=>Zg7 N d.1)
def Z22:Fn:=⟨Tryz.f64,Wy,Zob,fun N=>[(61,Zg9 N)]⟩
theorem Z23:Wc Tryz.prog 64:=Wb Tryz.func64 (show Wg Tryz.f64 = true by kernel_rfl)
theorem Z24 (N:Nat):Good Tryz.prog 64 (Zob N):=GF Z22 N Tryz.func64 (Wa (Zkn N) Zkm We) (by kernel_rfl) (fun d=>by kernel_rfl)
def Zm3 (N:Nat):Sig:=Sig.of [.v Jv true] [.v Jp false] (fun d=>Zt N d.1)
def Z4k:Fn:=⟨Tryz.f180,Wy,Zm3,fun N=>[(226,Zou N),(112,Zjl N),(64,Zob N),(61,Zg9 N)]⟩
theorem Zvi:Wc Tryz.prog 180:=Wb Tryz.func180 (show Wg Tryz.f180 = true by kernel_rfl)
theorem Zvj (N:Nat):Good Tryz.prog 180 (Zm3 N):=GF Z4k N Tryz.func180 (Wa (Z32 N) Z31 (Wa (Zot N) Zos (Wa (Z24 N) Z23 (Wa (Zkn N) Zkm We)))) (by kernel_rfl) (fun d=>by kernel_rfl)
def Zoc (N:Nat):Sig:=Sig.of [.v Jc false,.v Ja false] [.v Jp false] (fun d=>Zf4 N d.1 d.2.1)
def Zlf:Fn:=⟨Tryz.f181,fun | 6=>[.canon [0,5,6,7,24]] | 7=>[.canon [0,5,6,7]] | 8=>[.canon [0,5,6,7,32]] | 9=>[.canon [0,5,6,7]] | 10=>[.canon [0,5,6,7,40]] | 11=>[.canon [0,5,6,7]] | 12=>[.canon [0,5,6,7,44]] | 13=>[.canon [4]] | 100006=>[.canon [0,5,6,7]] | _=>[],Zoc,Wde⟩
def Zw8 (code3:List Ka) (to4:Int) (d5:Int) (k6:Int):St:=⟨[(0,vV Jc code3),(5,vI to4),(6,vI d5),(7,vI k6)],[],0⟩
def Zu2 (code3:List Ka) (to4:Int):St:=⟨[(4,vB false)],[],0⟩
def Zu3 (code3:List Ka) (to4:Int) (d7:Int) (k8:Int) (t9:Bool):St:=⟨[(0,vV Jc code3),(5,vI to4),(6,vI d7),(7,vI k8),(24,vB t9)],[],0⟩
theorem Zw9 (N:Nat) {R:Type} (K:Ex → St → Option R) {code3:List Ka} {to4:Int} {K0:Option R} {K1:Int → Int → Bool → Option R} (h0:K0 = K .ret (Zu2 code3 to4)) (h1:K1 = fun d7 k8 t9=>K (.exit 0) (Zu3 code3 to4 d7 k8 t9)) (n:Nat) (d5:Int) (k6:Int):Za7 N code3 to4 K0 K1 n d5 k6 = LM Zlf N 0 100006 n (Zw8 code3 to4 d5 k6) K:=by
  subst h0 h1
  induction n generalizing d5 k6 with
  | zero=>kernel_rfl
  | succ n ih=>rw [Za7]; simp (disch:=exact id (by kernel_rfl)) only [ih]; kernel_rfl
theorem Z25:Wc Tryz.prog 181:=Wb Tryz.func181 (show Wg Tryz.f181 = true by kernel_rfl)
theorem Z26 (N:Nat) (code1:List Ka) (i2:Int):DN Zlf N (code1,i2,()) = Zf4 N code1 i2:=by
  have h:Zf4 N code1 i2 = Zf4 N code1 i2:=rfl
  conv at h=>rhs; rw [Zf4]
  simp (disch:=exact id (by kernel_rfl)) only [Zw9 (R:=Unit × Kg) N (CF Zlf N [1,1,1,1,0,1,0])] at h
  exact Eq.trans (by kernel_rfl) h.symm
theorem Z27 (N:Nat):Good Tryz.prog 181 (Zoc N):=GF Zlf N Tryz.func181 We (by kernel_rfl) (fun d=>Z26 N d.1 d.2.1)
def Zlg (N:Nat):Sig:=Sig.of [.v Jc false] [.v Jp false] (fun d=>Zd0 N d.1)
def Zlh:Fn:=⟨Tryz.f125,fun | 6=>[.canon [0,3,4,5,12]] | 7=>[.canon [0,3,4,5]] | 8=>[.canon [0,3,4,5,20]] | 9=>[.canon [2]] | 10=>[.canon [0,3,4,5,25]] | 11=>[.canon [0,3,4,5,25,26]] | 12=>[.canon [0,3,4,5]] | 13=>[.canon [0,3,4,5,25,30]] | 14=>[.canon [0,3,4,5]] | 15=>[.canon [0,3,4,5,25,34]] | 16=>[.canon [0,3,4,5,39]] | 17=>[.canon [2]] | 18=>[.canon [0,3,4,5,40]] | 19=>[.canon [0,3,4,5]] | 20=>[.canon [0,3,4,5,49]] | 21=>[.canon [2]] | 22=>[.canon [0,3,4,5,51]] | 23=>[.canon [2]] | 100006=>[.canon [0,3,4,5]] | _=>[],Zlg,fun N=>[(180,Zm3 N),(181,Zoc N)]⟩
def Zxa (code2:List Ka) (d3:Int) (forks4:Int) (i5:Int):St:=⟨[(0,vV Jc code2),(3,vI d3),(4,vI forks4),(5,vI i5)],[],0⟩
def Zu4 (code2:List Ka):St:=⟨[(2,vB false)],[],0⟩
def Zu5 (code2:List Ka) (d8:Int) (forks9:Int) (i10:Int) (t11:Bool):St:=⟨[(0,vV Jc code2),(3,vI d8),(4,vI forks9),(5,vI i10),(12,vB t11)],[],0⟩
theorem Zxb (N:Nat) {R:Type} (K:Ex → St → Option R) {code2:List Ka} {K0:Option R} {K1:Int → Int → Int → Bool → Option R} (h0:K0 = K .ret (Zu4 code2)) (h1:K1 = fun d8 forks9 i10 t11=>K (.exit 0) (Zu5 code2 d8 forks9 i10 t11)) (n:Nat) (d3:Int) (forks4:Int) (i5:Int):Za8 N code2 K0 K1 n d3 forks4 i5 = LM Zlh N 0 100006 n (Zxa code2 d3 forks4 i5) K:=by
  subst h0 h1
  induction n generalizing d3 forks4 i5 with
  | zero=>kernel_rfl
  | succ n ih=>rw [Za8]; simp (disch:=exact id (by kernel_rfl)) only [ih]; kernel_rfl
theorem Zq3:Wc Tryz.prog 125:=Wb Tryz.func125 (show Wg Tryz.f125 = true by kernel_rfl)
theorem Z28 (N:Nat) (code1:List Ka):DN Zlh N (code1,()) = Zd0 N code1:=by
  have h:Zd0 N code1 = Zd0 N code1:=rfl
  conv at h=>rhs; rw [Zd0]
  simp (disch:=exact id (by kernel_rfl)) only [Zxb (R:=Unit × Kg) N (CF Zlh N [1,1,1,1,0,1,0])] at h
  exact Eq.trans (by kernel_rfl) h.symm
theorem Zq4 (N:Nat):Good Tryz.prog 125 (Zlg N):=GF Zlh N Tryz.func125 (Wa (Zvj N) Zvi (Wa (Z27 N) Z25 We)) (by kernel_rfl) (fun d=>Z28 N d.1)
def Zkf (N:Nat):Sig:=Sig.of [.v Jc false] [.v Jp false] (fun d=>Zc2 N d.1)
def Zkg:Fn:=⟨Tryz.f126,fun | 2=>[.canon [0,3,7]] | 3=>[.canon [0,3]] | 4=>[.canon [0,3,15]] | 5=>[.canon [2]] | 100002=>[.canon [0,3]] | _=>[],Zkf,Wde⟩
def Zu6 (code2:List Ka) (i3:Int):St:=⟨[(0,vV Jc code2),(3,vI i3)],[],0⟩
def Zs3 (code2:List Ka):St:=⟨[(2,vB true)],[],0⟩
def Zs4 (code2:List Ka) (i4:Int) (t5:Bool):St:=⟨[(0,vV Jc code2),(3,vI i4),(7,vB t5)],[],0⟩
theorem Zu7 (N:Nat) {R:Type} (K:Ex → St → Option R) {code2:List Ka} {K0:Option R} {K1:Int → Bool → Option R} (h0:K0 = K .ret (Zs3 code2)) (h1:K1 = fun i4 t5=>K (.exit 0) (Zs4 code2 i4 t5)) (n:Nat) (i3:Int):Zcq N code2 K0 K1 n i3 = LM Zkg N 0 100002 n (Zu6 code2 i3) K:=by
  subst h0 h1
  induction n generalizing i3 with
  | zero=>kernel_rfl
  | succ n ih=>rw [Zcq]; simp (disch:=exact id (by kernel_rfl)) only [ih]; kernel_rfl
theorem Zp8:Wc Tryz.prog 126:=Wb Tryz.func126 (show Wg Tryz.f126 = true by kernel_rfl)
theorem Z1o (N:Nat) (code1:List Ka):DN Zkg N (code1,()) = Zc2 N code1:=by
  have h:Zc2 N code1 = Zc2 N code1:=rfl
  conv at h=>rhs; rw [Zc2]
  simp (disch:=exact id (by kernel_rfl)) only [Zu7 (R:=Unit × Kg) N (CF Zkg N [1,0,1,0])] at h
  exact Eq.trans (by kernel_rfl) h.symm
theorem Zp9 (N:Nat):Good Tryz.prog 126 (Zkf N):=GF Zkg N Tryz.func126 We (by kernel_rfl) (fun d=>Z1o N d.1)
def Znp (N:Nat):Sig:=Sig.of [.v Jv true] [.v Ja false] (fun d=>Zca N d.1)
def Z1p:Fn:=⟨Tryz.f127,Wy,Znp,fun N=>[(180,Zm3 N)]⟩
theorem Z1q:Wc Tryz.prog 127:=Wb Tryz.func127 (show Wg Tryz.f127 = true by kernel_rfl)
theorem Z1r (N:Nat):Good Tryz.prog 127 (Znp N):=GF Z1p N Tryz.func127 (Wa (Zvj N) Zvi We) (by kernel_rfl) (fun d=>by kernel_rfl)
def Zov (N:Nat):Sig:=Sig.of [.v Jc false] [.v Jp false] (fun d=>Zfg N d.1)
def Zmd:Fn:=⟨Tryz.f62,fun | 4=>[.canon [0,3,14]] | 5=>[.canon [0,3]] | 6=>[.canon [0,3,22]] | 7=>[.canon [2]] | 100004=>[.canon [0,3]] | _=>[],Zov,fun N=>[(125,Zlg N),(126,Zkf N),(127,Znp N)]⟩
def Zy1 (code4:List Ka) (i5:Int):St:=⟨[(0,vV Jc code4),(3,vI i5)],[],0⟩
def Zxc (code4:List Ka):St:=⟨[(2,vB false)],[],0⟩
def Zxd (code4:List Ka) (i7:Int) (t8:Bool):St:=⟨[(0,vV Jc code4),(3,vI i7),(14,vB t8)],[],0⟩
theorem Zy2 (N:Nat) {R:Type} (K:Ex → St → Option R) {code4:List Ka} {K0:Option R} {K1:Int → Bool → Option R} (h0:K0 = K .ret (Zxc code4)) (h1:K1 = fun i7 t8=>K (.exit 0) (Zxd code4 i7 t8)) (n:Nat) (i5:Int):Zed N code4 K0 K1 n i5 = LM Zmd N 0 100004 n (Zy1 code4 i5) K:=by
  subst h0 h1
  induction n generalizing i5 with
  | zero=>kernel_rfl
  | succ n ih=>rw [Zed]; simp (disch:=exact id (by kernel_rfl)) only [ih]; kernel_rfl
theorem Z33:Wc Tryz.prog 62:=Wb Tryz.func62 (show Wg Tryz.f62 = true by kernel_rfl)
theorem Z34 (N:Nat) (code1:List Ka):DN Zmd N (code1,()) = Zfg N code1:=by
  have h:Zfg N code1 = Zfg N code1:=rfl
  conv at h=>rhs; rw [Zfg]
  simp (disch:=exact id (by kernel_rfl)) only [Zy2 (R:=Unit × Kg) N (CF Zmd N [1,1,0,1,0])] at h
  exact Eq.trans (by kernel_rfl) h.symm
theorem Z35 (N:Nat):Good Tryz.prog 62 (Zov N):=GF Zmd N Tryz.func62 (Wa (Zq4 N) Zq3 (Wa (Zp9 N) Zp8 (Wa (Z1r N) Z1q We))) (by kernel_rfl) (fun d=>Z34 N d.1)
def Zod (N:Nat):Sig:=Sig.of [.v Jm true] [.v Jp false] (fun d=>Zd3 N d.1)
def Zli:Fn:=⟨Tryz.f106,fun | 4=>[.canon [1,3,28]] | 5=>[.canon [1,3]] | 6=>[.canon [1,3,38]] | 7=>[.canon [2]] | 100004=>[.canon [1,3]] | _=>[],Zod,fun N=>[(125,Zlg N),(126,Zkf N),(62,Zov N)]⟩
def Zxe (i4:Int) (b5:List Ka × List Ko):St:=⟨[(1,vP 0 0),(3,vI i4)],[(0,.box [.val Jc b5.1,.val (.slice Jc) b5.2])],1⟩
def Zu8 (b5:List Ka × List Ko):St:=⟨[(2,vB false)],[],0⟩
def Zu9 (b5:List Ka × List Ko) (i7:Int) (t8:Bool):St:=⟨[(1,vP 0 0),(3,vI i7),(28,vB t8)],[(0,.box [.val Jc b5.1,.val (.slice Jc) b5.2])],1⟩
theorem Zxf (N:Nat) {R:Type} (K:Ex → St → Option R) {b5:List Ka × List Ko} {K0:Option R} {K1:Int → Bool → Option R} (h0:K0 = K .ret (Zu8 b5)) (h1:K1 = fun i7 t8=>K (.exit 0) (Zu9 b5 i7 t8)) (n:Nat) (i4:Int):Zcg N b5 K0 K1 n i4 = LM Zli N 0 100004 n (Zxe i4 b5) K:=by
  subst h0 h1
  induction n generalizing i4 with
  | zero=>kernel_rfl
  | succ n ih=>rw [Zcg]; simp (disch:=exact id (by kernel_rfl)) only [ih]; kernel_rfl
theorem Z29:Wc Tryz.prog 106:=Wb Tryz.func106 (show Wg Tryz.f106 = true by kernel_rfl)
theorem Z3a (N:Nat) (p1:List Ka × List Ko):DN Zli N (p1,()) = Zd3 N p1:=by
  have h:Zd3 N p1 = Zd3 N p1:=rfl
  conv at h=>rhs; rw [Zd3]
  simp (disch:=exact id (by kernel_rfl)) only [Zxf (R:=Unit × Kg) N (CF Zli N [1,1,0,1,0])] at h
  exact Eq.trans (by kernel_rfl) h.symm
theorem Z3b (N:Nat):Good Tryz.prog 106 (Zod N):=GF Zli N Tryz.func106 (Wa (Zq4 N) Zq3 (Wa (Zp9 N) Zp8 (Wa (Z35 N) Z33 We))) (by kernel_rfl) (fun d=>Z3a N d.1)
def Zmo (N:Nat):Sig:=Sig.of [.v Jz true] [.v Jp false] (fun d=>Zdj N d.1)
def Zi7:Fn:=⟨Tryz.f35,fun | 4=>[.canon [1,3,24]] | 5=>[.canon [1,3]] | 6=>[.canon [1,3,33]] | 7=>[.canon [2]] | 100004=>[.canon [1,3]] | _=>[],Zmo,fun N=>[(105,Zmn N),(106,Zod N)]⟩
def Zs5 (i3:Int) (b4:Ke × List Kk × List Kb):St:=⟨[(1,vP 0 0),(3,vI i3)],[(0,.box [.val Jj b4.1.1,.val Jj b4.1.2.1,.val Ja b4.1.2.2,.val Jaf b4.2.1,.val Je b4.2.2])],1⟩
def Zrm (b4:Ke × List Kk × List Kb):St:=⟨[(2,vB false)],[],0⟩
def Zrn (b4:Ke × List Kk × List Kb) (i6:Int) (t7:Bool):St:=⟨[(1,vP 0 0),(3,vI i6),(24,vB t7)],[(0,.box [.val Jj b4.1.1,.val Jj b4.1.2.1,.val Ja b4.1.2.2,.val Jaf b4.2.1,.val Je b4.2.2])],1⟩
theorem Zs6 (N:Nat) {R:Type} (K:Ex → St → Option R) {b4:Ke × List Kk × List Kb} {K0:Option R} {K1:Int → Bool → Option R} (h0:K0 = K .ret (Zrm b4)) (h1:K1 = fun i6 t7=>K (.exit 0) (Zrn b4 i6 t7)) (n:Nat) (i3:Int):Zbt N b4 K0 K1 n i3 = LM Zi7 N 0 100004 n (Zs5 i3 b4) K:=by
  subst h0 h1
  induction n generalizing i3 with
  | zero=>kernel_rfl
  | succ n ih=>rw [Zbt]; simp (disch:=exact id (by kernel_rfl)) only [ih]; kernel_rfl
theorem Zzx:Wc Tryz.prog 35:=Wb Tryz.func35 (show Wg Tryz.f35 = true by kernel_rfl)
theorem Zzy (N:Nat) (s1:Ke × List Kk × List Kb):DN Zi7 N (s1,()) = Zdj N s1:=by
  have h:Zdj N s1 = Zdj N s1:=rfl
  conv at h=>rhs; rw [Zdj]
  simp (disch:=exact id (by kernel_rfl)) only [Zs6 (R:=Unit × Kg) N (CF Zi7 N [1,1,0,1,0])] at h
  exact Eq.trans (by kernel_rfl) h.symm
theorem Zzz (N:Nat):Good Tryz.prog 35 (Zmo N):=GF Zi7 N Tryz.func35 (Wa (Zzw N) Zzu (Wa (Z3b N) Z29 We)) (by kernel_rfl) (fun d=>Zzy N d.1)
def Znq (N:Nat):Sig:=Sig.of [.v Jz true] [.v (TY_World) true] (fun d=>Zey N d.1)
def Zkh:Fn:=⟨Tryz.f36,fun | 3=>[.nest 21 Jaa] | 6=>[.canon [1,2,3,32,33,34,35]] | 7=>[.canon [1,2,3,5,32,33,34]] | 8=>[.canon [1,2,3,32,33,34]] | 9=>[.canon [1,2,3,32,33,34]] | 100006=>[.adoptC 3 6 Jk,.adoptC 3 8 Ji,.canon [1,2,3,32,33,34]] | _=>[],Znq,fun N=>[(103,Zhc N),(107,Zip N),(53,Zk7 N),(104,Zg0 N)]⟩
def Zva (t5:List Kb) (t7:Int) (b8:Ke × List Kk × List Kb) (b13:Int) (b14:Int) (b15:Int) (b16:Int) (l17:List Kb) (l18:List Int) (l19:List Kb) (l20:List Y_Root) (l21:List Kl):St:=⟨[(1,vP 0 0),(2,vP 1 0),(3,vP 2 0),(32,vV Je t5),(33,vI (ilen b8.2.2)),(34,vI t7)],[(0,.box [.val Jj b8.1.1,.val Jj b8.1.2.1,.val Ja b8.1.2.2,.val Jaf b8.2.1,.val Je b8.2.2]),(1,.box [.val Ja (0:Int),.val Ja (0:Int),.val Ja (0:Int),.nils,.nils,.val Ja (0:Int),.nils,.nils,.nils]),(2,.box [.val Ja b13,.val Ja b14,.val Ja b15,.own 3,.own 4,.val Ja b16,.own 5,.own 6,.own 7]),(3,.arr Jk l17),(4,.arr Ja l18),(5,.arr Jk l19),(6,.arr Jaa l20),(7,.arr Ji l21)],8⟩
def Zs7 (t5:List Kb) (b8:Ke × List Kk × List Kb) (t24:Int) (t25:Bool) (b26:Int) (b27:Int) (b28:Int) (b29:Int) (l30:List Kb) (l31:List Int) (l32:List Kb) (l33:List Y_Root) (l34:List Kl):St:=⟨[(1,vP 0 0),(2,vP 1 0),(3,vP 2 0),(32,vV Je t5),(33,vI (ilen b8.2.2)),(34,vI t24),(35,vB t25)],[(0,.box [.val Jj b8.1.1,.val Jj b8.1.2.1,.val Ja b8.1.2.2,.val Jaf b8.2.1,.val Je b8.2.2]),(1,.box [.val Ja (0:Int),.val Ja (0:Int),.val Ja (0:Int),.nils,.nils,.val Ja (0:Int),.nils,.nils,.nils]),(2,.box [.val Ja b26,.val Ja b27,.val Ja b28,.own 3,.own 4,.val Ja b29,.own 5,.own 6,.own 7]),(3,.arr Jk l30),(4,.arr Ja l31),(5,.arr Jk l32),(6,.arr Jaa l33),(7,.arr Ji l34)],8⟩
theorem Zvb (N:Nat) {R:Type} (K:Ex → St → Option R) {t5:List Kb} {b8:Ke × List Kk × List Kb} {K0:Int → Bool → Int → Int → Int → Int → Km → Kh → Km → (List Y_Root) → (List Kl) → Option R} (h0:K0 = fun t24 t25 b26 b27 b28 b29 l30 l31 l32 l33 l34=>K (.exit 0) (Zs7 t5 b8 t24 t25 b26 b27 b28 b29 l30 l31 l32 l33 l34)) (n:Nat) (t7:Int) (b13:Int) (b14:Int) (b15:Int) (b16:Int) (l17:List Kb) (l18:List Int) (l19:List Kb) (l20:List Y_Root) (l21:List Kl):Zav N t5 b8 K0 n t7 b13 b14 b15 b16 l17 l18 l19 l20 l21 = LM Zkh N 0 100006 n (Zva t5 t7 b8 b13 b14 b15 b16 l17 l18 l19 l20 l21) K:=by
  subst h0
  induction n generalizing t7 b13 b14 b15 b16 l17 l18 l19 l20 l21 with
  | zero=>kernel_rfl
  | succ n ih=>rw [Zav]; simp (disch:=exact id (by kernel_rfl)) only [ih]; kernel_rfl
theorem Z1s:Wc Tryz.prog 36:=Wb Tryz.func36 (show Wg Tryz.f36 = true by kernel_rfl)
theorem Z1t (N:Nat) (s1:Ke × List Kk × List Kb):DN Zkh N (s1,()) = Zey N s1:=by
  have h:Zey N s1 = Zey N s1:=rfl
  conv at h=>rhs; rw [Zey]
  simp (disch:=exact id (by kernel_rfl)) only [Zvb (R:=Unit × (Y_World × Unit)) N (CF Zkh N [1,1,1,1,0,1,0])] at h
  exact Eq.trans (by kernel_rfl) h.symm
theorem Z1u (N:Nat):Good Tryz.prog 36 (Znq N):=GF Zkh N Tryz.func36 (Wa (Zmk N) Zmj (Wa (Zoy N) Zox (Wa (Zq0 N) Zqz (Wa (Zly N) Zlx We)))) (by kernel_rfl) (fun d=>Z1t N d.1)
def Zlz (N:Nat):Sig:=Sig.of [.v Ja false] [.v (.str) false] (fun d=>Zhv N d.1)
def Zy3:Fn:=⟨Tryz.f108,Wy,Zlz,fun N=>[(55,Zz N)]⟩
theorem Zy4:Wc Tryz.prog 108:=Wb Tryz.func108 (show Wg Tryz.f108 = true by kernel_rfl)
theorem Zy5 (N:Nat):Good Tryz.prog 108 (Zlz N):=GF Zy3 N Tryz.func108 (Wa (Z4 N) Z3 We) (by kernel_rfl) (fun d=>by kernel_rfl)
def Zqa (N:Nat):Sig:=Sig.of [.v Ja false] [.v (.str) false] (fun d=>Zhf N d.1)
def Zjm:Fn:=⟨Tryz.f109,fun | 5=>[.canon [0,3,4,13]] | 6=>[.canon [0,3,4]] | 7=>[.canon [0,3,4,5]] | 8=>[.canon [0,3,4,5,19]] | 9=>[.canon [0,3,4,5]] | 10=>[.canon [0,3,4]] | 14=>[.canon [3,6,7,38]] | 15=>[.canon [3,6,7]] | 16=>[.canon [3,6,7]] | 100005=>[.canon [0,3,4]] | 100014=>[.canon [3,6,7]] | _=>[],Zqa,Wde⟩
def Z1v (n2:Int) (m3:Int) (l4:List Int):St:=⟨[(0,vI n2),(3,vO 0),(4,vI m3)],[(0,.arr (.int .u8) l4)],1⟩
def Zz0 (n2:Int) (m5:Int) (t6:Bool) (l7:List Int):St:=⟨[(0,vI n2),(3,vO 0),(4,vI m5),(13,vB t6)],[(0,.arr (.int .u8) l7)],1⟩
theorem Z1w (N:Nat) {R:Type} (K:Ex → St → Option R) {n2:Int} {K0:Int → Bool → Kh → Option R} (h0:K0 = fun m5 t6 l7=>K (.exit 0) (Zz0 n2 m5 t6 l7)) (n:Nat) (m3:Int) (l4:List Int):Zgi N n2 K0 n m3 l4 = LM Zjm N 0 100005 n (Z1v n2 m3 l4) K:=by
  subst h0
  induction n generalizing m3 l4 with
  | zero=>kernel_rfl
  | succ n ih=>rw [Zgi]; simp (disch:=exact id (by kernel_rfl)) only [ih]; kernel_rfl
def Z1x (i11:Int) (j12:Int) (l13:List Int):St:=⟨[(3,vO 0),(6,vI i11),(7,vI j12)],[(0,.arr (.int .u8) l13)],1⟩
def Zz1 (i15:Int) (j16:Int) (t17:Bool) (l18:List Int):St:=⟨[(3,vO 0),(6,vI i15),(7,vI j16),(38,vB t17)],[(0,.arr (.int .u8) l18)],1⟩
theorem Z1y (N:Nat) {R:Type} (K:Ex → St → Option R) {K0:Int → Int → Bool → Kh → Option R} (h0:K0 = fun i15 j16 t17 l18=>K (.exit 2) (Zz1 i15 j16 t17 l18)) (n:Nat) (i11:Int) (j12:Int) (l13:List Int):Zgj N K0 n i11 j12 l13 = LM Zjm N 1 100014 n (Z1x i11 j12 l13) K:=by
  subst h0
  induction n generalizing i11 j12 l13 with
  | zero=>kernel_rfl
  | succ n ih=>rw [Zgj]; simp (disch:=exact id (by kernel_rfl)) only [ih]; kernel_rfl
theorem Z4p:Wc Tryz.prog 109:=Wb Tryz.func109 (show Wg Tryz.f109 = true by kernel_rfl)
theorem Z4q (N:Nat) (n1:Int):DN Zjm N (n1,()) = Zhf N n1:=by
  have h:Zhf N n1 = Zhf N n1:=rfl
  conv at h=>rhs; rw [Zhf]
  simp (disch:=exact id (by kernel_rfl)) only [Z1w (R:=Unit × ((List UInt8) × Unit)) N (CF Zjm N [1,1,1,0,1,0]),Z1y (R:=Unit × ((List UInt8) × Unit)) N (CF Zjm N [1,1,1,1,1,0,1,0])] at h
  exact Eq.trans (by kernel_rfl) h.symm
theorem Z4r (N:Nat):Good Tryz.prog 109 (Zqa N):=GF Zjm N Tryz.func109 We (by kernel_rfl) (fun d=>Z4q N d.1)
def Zmp (N:Nat):Sig:=Sig.of [.v Jv true] [.v (.str) false] (fun d=>Zg3 N d.1)
def Zz2:Fn:=⟨Tryz.f37,Wy,Zmp,fun N=>[(108,Zlz N),(109,Zqa N)]⟩
theorem Zz3:Wc Tryz.prog 37:=Wb Tryz.func37 (show Wg Tryz.f37 = true by kernel_rfl)
theorem Zz4 (N:Nat):Good Tryz.prog 37 (Zmp N):=GF Zz2 N Tryz.func37 (Wa (Zy5 N) Zy4 (Wa (Z4r N) Z4p We)) (by kernel_rfl) (fun d=>by kernel_rfl)
def Zqb (N:Nat):Sig:=Sig.of [.v Ju false] [.v Jp false] (fun d=>Zc7 N d.1)
def Zgm:Fn:=⟨Tryz.f5,fun | 13=>[.canon [3,4,5,6,7,8,39]] | 14=>[.canon [3,4,5,6,7,8]] | 15=>[.canon [3,4,5,6,7,8,9]] | 16=>[.canon [3,4,5,6,8,9,96]] | 17=>[.canon [2]] | 18=>[.canon [3,4,5,6,8,9]] | 19=>[.canon [3,4,5,6,7,8]] | 21=>[.canon [5,6,10,108]] | 22=>[.canon [5,6,10]] | 23=>[.canon [5,6,10,121]] | 24=>[.canon [2]] | 100013=>[.canon [3,4,5,6,7,8]] | 100021=>[.canon [5,6,10]] | _=>[],Zqb,fun N=>[(9,Zpw N),(33,Zjs N),(34,Zno N),(35,Zmo N),(36,Znq N),(37,Zmp N)]⟩
def Zvc (last7:Int) (i8:Int) (b9:Ke × List Kk × List Kb) (l10:List Ka) (b11:Y_World) (l12:List Int):St:=⟨[(3,vP 0 0),(4,vO 1),(5,vP 2 0),(6,vO 3),(7,vI last7),(8,vI i8)],[(0,.box [.val Jj b9.1.1,.val Jj b9.1.2.1,.val Ja b9.1.2.2,.val Jaf b9.2.1,.val Je b9.2.2]),(1,.arr Jv l10),(2,.box [.val Ja b11.1,.val Ja b11.2.1,.val Ja b11.2.2.1.1,.val Je b11.2.2.1.2,.val Jj b11.2.2.2.1.1,.val Ja b11.2.2.2.1.2,.val Je b11.2.2.2.2.1,.val (.slice (TY_Root)) b11.2.2.2.2.2.1,.val (.slice Ji) b11.2.2.2.2.2.2]),(3,.arr Ja l12)],4⟩
def Zs8 (b9:Ke × List Kk × List Kb) (l10:List Ka) (b11:Y_World):St:=⟨[(2,vB false)],[],0⟩
def Zs9 (b9:Ke × List Kk × List Kb) (l10:List Ka) (b11:Y_World) (last14:Int) (i15:Int) (t16:Bool) (l17:List Int):St:=⟨[(3,vP 0 0),(4,vO 1),(5,vP 2 0),(6,vO 3),(7,vI last14),(8,vI i15),(39,vB t16)],[(0,.box [.val Jj b9.1.1,.val Jj b9.1.2.1,.val Ja b9.1.2.2,.val Jaf b9.2.1,.val Je b9.2.2]),(1,.arr Jv l10),(2,.box [.val Ja b11.1,.val Ja b11.2.1,.val Ja b11.2.2.1.1,.val Je b11.2.2.1.2,.val Jj b11.2.2.2.1.1,.val Ja b11.2.2.2.1.2,.val Je b11.2.2.2.2.1,.val (.slice (TY_Root)) b11.2.2.2.2.2.1,.val (.slice Ji) b11.2.2.2.2.2.2]),(3,.arr Ja l17)],4⟩
theorem Zvd (N:Nat) {R:Type} (K:Ex → St → Option R) {b9:Ke × List Kk × List Kb} {l10:List Ka} {b11:Y_World} {K0:Option R} {K1:Int → Int → Bool → Kh → Option R} (h0:K0 = K .ret (Zs8 b9 l10 b11)) (h1:K1 = fun last14 i15 t16 l17=>K (.exit 0) (Zs9 b9 l10 b11 last14 i15 t16 l17)) (n:Nat) (last7:Int) (i8:Int) (l12:List Int):Zcx N b9 l10 b11 K0 K1 n last7 i8 l12 = LM Zgm N 0 100013 n (Zvc last7 i8 b9 l10 b11 l12) K:=by
  subst h0 h1
  induction n generalizing last7 i8 l12 with
  | zero=>kernel_rfl
  | succ n ih=>rw [Zcx]; simp (disch:=exact id (by kernel_rfl)) only [ih]; kernel_rfl
def Zve (i23:Int) (b24:Y_World) (l25:List Int):St:=⟨[(5,vP 0 0),(6,vO 1),(10,vI i23)],[(0,.box [.val Ja b24.1,.val Ja b24.2.1,.val Ja b24.2.2.1.1,.val Je b24.2.2.1.2,.val Jj b24.2.2.2.1.1,.val Ja b24.2.2.2.1.2,.val Je b24.2.2.2.2.1,.val (.slice (TY_Root)) b24.2.2.2.2.2.1,.val (.slice Ji) b24.2.2.2.2.2.2]),(1,.arr Ja l25)],2⟩
def Zta (b24:Y_World) (l25:List Int):St:=⟨[(2,vB false)],[],0⟩
def Ztb (b24:Y_World) (l25:List Int) (i26:Int) (t27:Bool):St:=⟨[(5,vP 0 0),(6,vO 1),(10,vI i26),(108,vB t27)],[(0,.box [.val Ja b24.1,.val Ja b24.2.1,.val Ja b24.2.2.1.1,.val Je b24.2.2.1.2,.val Jj b24.2.2.2.1.1,.val Ja b24.2.2.2.1.2,.val Je b24.2.2.2.2.1,.val (.slice (TY_Root)) b24.2.2.2.2.2.1,.val (.slice Ji) b24.2.2.2.2.2.2]),(1,.arr Ja l25)],2⟩
theorem Zvf (N:Nat) {R:Type} (K:Ex → St → Option R) {b24:Y_World} {l25:List Int} {K0:Option R} {K1:Int → Bool → Option R} (h0:K0 = K .ret (Zta b24 l25)) (h1:K1 = fun i26 t27=>K (.exit 2) (Ztb b24 l25 i26 t27)) (n:Nat) (i23:Int):Za4 N b24 l25 K0 K1 n i23 = LM Zgm N 1 100021 n (Zve i23 b24 l25) K:=by
  subst h0 h1
  induction n generalizing i23 with
  | zero=>kernel_rfl
  | succ n ih=>rw [Za4]; simp (disch:=exact id (by kernel_rfl)) only [ih]; kernel_rfl
theorem Z4s:Wc Tryz.prog 5:=Wb Tryz.func5 (show Wg Tryz.f5 = true by kernel_rfl)
theorem Z1z (N:Nat) (code1:List Int):DN Zgm N (code1,()) = Zc7 N code1:=by
  have h:Zc7 N code1 = Zc7 N code1:=rfl
  conv at h=>rhs; rw [Zc7]
  simp (disch:=exact id (by kernel_rfl)) only [Zvd (R:=Unit × Kg) N (CF Zgm N [1,1,1,1,1,1,1,1,1,0,1,0]),Zvf (R:=Unit × Kg) N (CF Zgm N [1,1,1,1,1,1,1,1,1,1,0,1,0])] at h
  exact Eq.trans (by kernel_rfl) h.symm
theorem Z10 (N:Nat):Good Tryz.prog 5 (Zqb N):=GF Zgm N Tryz.func5 (Wa (Z4n N) Z4m (Wa (Zto N) Ztn (Wa (Z1n N) Z1l (Wa (Zzz N) Zzx (Wa (Z1u N) Z1s (Wa (Zz4 N) Zz3 We)))))) (by kernel_rfl) (fun d=>Z1z N d.1)
end
end Go.Sx
