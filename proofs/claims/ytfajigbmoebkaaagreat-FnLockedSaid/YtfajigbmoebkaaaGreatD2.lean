/- Each Go function does what its Lean function says. -/
import Derived.Test.YtfajigbmoebkaaaGreatD
namespace Go.Sx
noncomputable section
open Go.Proofs
set_option linter.unusedVariables false
set_option linter.unusedSimpArgs false
theorem Zji(N:Nat):Good Tryz.prog 121 (Zfd N):=GF Zs2 N Tryz.func121 (Wa (Zd1 N) Zdz We) (by kernel_rfl) (λd=>by kernel_rfl)
def Zgl(N:Nat):Sig:=Sig.of [.box Jy,.v Ja false] [] (λd=>Zbe N d.1 d.2.1)
def Zqx:Fn:=⟨Tryz.f122,Wz,Zgl,λN=>[(72,Z4 N)]⟩
theorem Zmh:Wc Tryz.prog 122:=Wb Tryz.func122 (show Wg Tryz.f122=true by kernel_rfl)
theorem Zmi(N:Nat):Good Tryz.prog 122 (Zgl N):=GF Zqx N Tryz.func122 (Wa (Zag N) Zaf We) (by kernel_rfl) (λd=>by kernel_rfl)
def Zkc(N:Nat):Sig:=Sig.of [.box Jy,.v Ja false,.v Jx true,.v Ju true] [] (λd=>Zid N d.1 d.2.1 d.2.2.1 d.2.2.2.1)
def Zu1:Fn:=⟨Tryz.f173,λ |1=>[.opn 18]|_=>[],Zkc,λN=>[(172,Zkm N),(121,Zfd N),(122,Zgl N),(220,Zi1 N),(221,Ziq N)]⟩
theorem Zu2:Wc Tryz.prog 173:=Wb Tryz.func173 (show Wg Tryz.f173=true by kernel_rfl)
theorem Zu3(N:Nat):Good Tryz.prog 173 (Zkc N):=GF Zu1 N Tryz.func173 (Wa (Zpj N) Zpi (Wa (Zji N) Zjh (Wa (Zmi N) Zmh (Wa (Zpu N) Zpt (Wa (Zo8 N) Zo7 We))))) (by kernel_rfl) (λd=>by kernel_rfl)
def Zjj(N:Nat):Sig:=Sig.of [.box Jh,.v Jc false] [] (λd=>Zh1 N d.1 d.2.1)
def Zs3:Fn:=⟨Tryz.f174,λ |5=>[.opn 28]|_=>[],Zjj,λN=>[(72,Z4 N),(222,Zdg N),(223,Zmb N)]⟩
theorem Zs4:Wc Tryz.prog 174:=Wb Tryz.func174 (show Wg Tryz.f174=true by kernel_rfl)
theorem Zs5(N:Nat):Good Tryz.prog 174 (Zjj N):=GF Zs3 N Tryz.func174 (Wa (Zag N) Zaf (Wa (Zhg N) Zhf (Wa (Zsi N) Zsh We))) (by kernel_rfl) (λd=>by kernel_rfl)
def Zkv(N:Nat):Sig:=Sig.of [.box Jy,.v Ja false,.v Jc false,.v Ju true] [] (λd=>Ziu N d.1 d.2.1 d.2.2.1 d.2.2.2.1)
def Zxa:Fn:=⟨Tryz.f119,λ |1=>[.opn 16]|18=>[.nest 128 Jt]|_=>[],Zkv,λN=>[(173,Zkc N),(174,Zjj N),(72,Z4 N),(175,Zm3 N)]⟩
theorem Zxb:Wc Tryz.prog 119:=Wb Tryz.func119 (show Wg Tryz.f119=true by kernel_rfl)
theorem Zxc(N:Nat):Good Tryz.prog 119 (Zkv N):=GF Zxa N Tryz.func119 (Wa (Zu3 N) Zu2 (Wa (Zs5 N) Zs4 (Wa (Zag N) Zaf (Wa (Zvo N) Zvn We)))) (by kernel_rfl) (λd=>by kernel_rfl)
def Za9(N:Nat):Sig:=Sig.of [.mut Jl,.clos 177 0] [] (λd=>Zal N d.1)
theorem Zec:Wc Tryz.prog 176:=Wb Tryz.func176 (show Wg Tryz.f176=true by kernel_rfl)
theorem Zed:CmpOk Tryz.prog 177 Jl rngE cfE:=by
  intro G x y us vs w hx hy h1 h2
  obtain⟨_,_,rfl,a1,_,_,rfl,a2,a3⟩:=h1
  obtain⟨_,_,rfl,b1,_,_,rfl,b2,b3⟩:=h2
  simp only[Enc]at a1 a2 a3 b1 b2 b3
  subst a1 a2 a3 b1 b2 b3
  simp only[List.cons_append,List.nil_append]
  go_enter Tryz.func177,Tryz.ntmps177
  go_wp2
  rw[sub_run (Wno hx) (Wno hy) (c:=cfE x y) rfl]
  go_wp2
  go_ret
  exact⟨rfl,two_grow _ _ _⟩
theorem Zee(N:Nat):Good Tryz.prog 176 (Za9 N):=good_sortF sortFE (e:=.prod Ja Jw) rfl (by decide) Tryz.isAgg127 Tryz.sizeOf127 (enters_of Tryz.func177 (by kernel_rfl) rfl) swoE Zed N
def Zjk(N:Nat):Sig:=Sig.of [.box Jy,.v Ja false] [] (λd=>Zbq N d.1 d.2.1)
def Zct:Fn:=⟨Tryz.f120,λ |0=>[.opn 16]|3=>[.canon [0,1,4,28,29,30,31]]|4=>[.canon [0,1,4,6,28,29,30]]|5=>[.canon [0,1,4,6,7,28,29,30]]|6=>[.canon [0,1,4,7,8,28,29,30]]|7=>[.canon [0,1,4,7,8,28,29,30,48]]|8=>[.canon [0,1,4,28,29,30]]|9=>[.canon [0,1,4,28,29,30]]|10=>[.canon [0,1,4,28,29,30]]|13=>[.canon [0,1,4,75,76,77,78]]|14=>[.canon [0,1,4,10,75,76,77]]|15=>[.canon [0,1,4,10,75,76,77,83]]|16=>[.canon [0,1,4,75,76,77]]|17=>[.canon [0,1,4,75,76,77]]|100003=>[.canon [0,1,4,28,29,30]]|100013=>[.canon [0,1,4,75,76,77]]|_=>[],Zjk,λN=>[(118,Zje N),(121,Zfd N),(176,Za9 N)]⟩
def Zp0(k4:Int)(t5:Int)(t6:Int)(b7:Int)(b8:Int)(b9:Int)(b10:Bool)(b11:Int)(b12:Int)(b13:Int)(b14:Int)(b15:Int)(b16:Int)(b17:Bool)(b18:Int)(b19:Int)(b20:Int)(b21:Int)(l22:List Kc)(l23:List Int)(l24:List Kc)(l25:List Kb)(l26:List Int)(l27:List Kc)(l28:List Y_KidRun)(i29:Nat)(l30:List Int)(l31:List Kb)(l32:List Kc)(l33:List Ki):St:=⟨[(0,vP 0 0),(1,vI k4),(4,vP 1 0),(28,vO 2),(29,vI t5),(30,vI t6)],[(0,.box [.val Ja b7,.val Ja b8,.val Ja b9,.val Jp b10,.own 3,.own 4,.own 5,.own 6,.own 7,.own 8]),(1,.box [.val Ja b11,.val Ja b12,.val Ja b13,.val Ja b14,.val Ja b15,.val Ja b16,.own 9,.own 10,.own 11,.own 12,.val Jp b17,.val Ja b18,.val Ja b19,.val Ja b20,.val Ja b21]),(2,.arr Jw l22),(3,.arr Ja l23),(4,.arr Jw l24),(5,.arr Jl l25),(6,.arr Ja l26),(7,.arr Jw l27),(8,.hole Jh l28 i29 1),(9,.arr Ja l30),(10,.arr Jl l31),(11,.arr Jw l32),(12,.arr Jt l33)],13⟩
def Zpm(k4:Int)(t5:Int)(b7:Int)(b8:Int)(b9:Int)(b10:Bool)(b11:Int)(b12:Int)(b13:Int)(b14:Int)(b15:Int)(b16:Int)(b17:Bool)(b18:Int)(b19:Int)(b20:Int)(b21:Int)(l22:List Kc)(l23:List Int)(l24:List Kc)(l26:List Int)(l27:List Kc)(l28:List Y_KidRun)(i29:Nat)(l30:List Int)(l31:List Kb)(l32:List Kc)(l33:List Ki)(t35:Int)(t36:Bool)(l37:List Kb):St:=⟨[(0,vP 0 0),(1,vI k4),(4,vP 1 0),(28,vO 2),(29,vI t5),(30,vI t35),(31,vB t36)],[(0,.box [.val Ja b7,.val Ja b8,.val Ja b9,.val Jp b10,.own 3,.own 4,.own 5,.own 6,.own 7,.own 8]),(1,.box [.val Ja b11,.val Ja b12,.val Ja b13,.val Ja b14,.val Ja b15,.val Ja b16,.own 9,.own 10,.own 11,.own 12,.val Jp b17,.val Ja b18,.val Ja b19,.val Ja b20,.val Ja b21]),(2,.arr Jw l22),(3,.arr Ja l23),(4,.arr Jw l24),(5,.arr Jl l37),(6,.arr Ja l26),(7,.arr Jw l27),(8,.hole Jh l28 i29 1),(9,.arr Ja l30),(10,.arr Jl l31),(11,.arr Jw l32),(12,.arr Jt l33)],13⟩
theorem Zp1(N:Nat){R:Type}(K:Ex→St→Option R){k4:Int}{t5:Int}{b7:Int}{b8:Int}{b9:Int}{b10:Bool}{b11:Int}{b12:Int}{b13:Int}{b14:Int}{b15:Int}{b16:Int}{b17:Bool}{b18:Int}{b19:Int}{b20:Int}{b21:Int}{l22:List Kc}{l23:List Int}{l24:List Kc}{l26:List Int}{l27:List Kc}{l28:List Y_KidRun}{i29:Nat}{l30:List Int}{l31:List Kb}{l32:List Kc}{l33:List Ki}{K0:Int→Bool→Kn→Option R}(h0:K0= λt35 t36 l37=>K (.exit 0) (Zpm k4 t5 b7 b8 b9 b10 b11 b12 b13 b14 b15 b16 b17 b18 b19 b20 b21 l22 l23 l24 l26 l27 l28 i29 l30 l31 l32 l33 t35 t36 l37))(n:Nat)(t6:Int)(l25:List Kb):Zaw N k4 t5 b7 b8 b9 b10 b11 b12 b13 b14 b15 b16 b17 b18 b19 b20 b21 l22 l23 l24 l26 l27 l28 i29 l30 l31 l32 l33 K0 n t6 l25=LM Zct N 0 100003 n (Zp0 k4 t5 t6 b7 b8 b9 b10 b11 b12 b13 b14 b15 b16 b17 b18 b19 b20 b21 l22 l23 l24 l25 l26 l27 l28 i29 l30 l31 l32 l33) K:=by
  subst h0
  induction n generalizing t6 l25 with
  |zero=>kernel_rfl
  |succ n ih=>rw[Zaw];simp(disch:=exact id (by kernel_rfl)) only[ih];kernel_rfl
def Zp2(k43:Int)(t44:Int)(t45:Int)(b46:Int)(b47:Int)(b48:Int)(b49:Bool)(b50:Int)(b51:Int)(b52:Int)(b53:Int)(b54:Int)(b55:Int)(b56:Bool)(b57:Int)(b58:Int)(b59:Int)(b60:Int)(l61:List Kb)(l62:List Int)(l63:List Kc)(l64:List Kb)(l65:List Int)(l66:List Kc)(l67:List Y_KidRun)(i68:Nat)(l69:List Int)(l70:List Kc)(l71:List Ki):St:=⟨[(0,vP 0 0),(1,vI k43),(4,vP 1 0),(75,vO 2),(76,vI t44),(77,vI t45)],[(0,.box [.val Ja b46,.val Ja b47,.val Ja b48,.val Jp b49,.own 3,.own 4,.own 5,.own 6,.own 7,.own 8]),(1,.box [.val Ja b50,.val Ja b51,.val Ja b52,.val Ja b53,.val Ja b54,.val Ja b55,.own 9,.own 2,.own 10,.own 11,.val Jp b56,.val Ja b57,.val Ja b58,.val Ja b59,.val Ja b60]),(2,.arr Jl l61),(3,.arr Ja l62),(4,.arr Jw l63),(5,.arr Jl l64),(6,.arr Ja l65),(7,.arr Jw l66),(8,.hole Jh l67 i68 1),(9,.arr Ja l69),(10,.arr Jw l70),(11,.arr Jt l71)],12⟩
def Zpn(k43:Int)(t44:Int)(b46:Int)(b47:Int)(b48:Int)(b49:Bool)(b50:Int)(b51:Int)(b52:Int)(b53:Int)(b54:Int)(b55:Int)(b56:Bool)(b57:Int)(b58:Int)(b59:Int)(b60:Int)(l61:List Kb)(l62:List Int)(l63:List Kc)(l64:List Kb)(l65:List Int)(l67:List Y_KidRun)(i68:Nat)(l69:List Int)(l70:List Kc)(l71:List Ki)(t72:Int)(t73:Bool)(l74:List Kc):St:=⟨[(0,vP 0 0),(1,vI k43),(4,vP 1 0),(75,vO 2),(76,vI t44),(77,vI t72),(78,vB t73)],[(0,.box [.val Ja b46,.val Ja b47,.val Ja b48,.val Jp b49,.own 3,.own 4,.own 5,.own 6,.own 7,.own 8]),(1,.box [.val Ja b50,.val Ja b51,.val Ja b52,.val Ja b53,.val Ja b54,.val Ja b55,.own 9,.own 2,.own 10,.own 11,.val Jp b56,.val Ja b57,.val Ja b58,.val Ja b59,.val Ja b60]),(2,.arr Jl l61),(3,.arr Ja l62),(4,.arr Jw l63),(5,.arr Jl l64),(6,.arr Ja l65),(7,.arr Jw l74),(8,.hole Jh l67 i68 1),(9,.arr Ja l69),(10,.arr Jw l70),(11,.arr Jt l71)],12⟩
theorem Zp3(N:Nat){R:Type}(K:Ex→St→Option R){k43:Int}{t44:Int}{b46:Int}{b47:Int}{b48:Int}{b49:Bool}{b50:Int}{b51:Int}{b52:Int}{b53:Int}{b54:Int}{b55:Int}{b56:Bool}{b57:Int}{b58:Int}{b59:Int}{b60:Int}{l61:List Kb}{l62:List Int}{l63:List Kc}{l64:List Kb}{l65:List Int}{l67:List Y_KidRun}{i68:Nat}{l69:List Int}{l70:List Kc}{l71:List Ki}{K0:Int→Bool→(List Kc)→Option R}(h0:K0= λt72 t73 l74=>K (.exit 2) (Zpn k43 t44 b46 b47 b48 b49 b50 b51 b52 b53 b54 b55 b56 b57 b58 b59 b60 l61 l62 l63 l64 l65 l67 i68 l69 l70 l71 t72 t73 l74))(n:Nat)(t45:Int)(l66:List Kc):Za4 N k43 t44 b46 b47 b48 b49 b50 b51 b52 b53 b54 b55 b56 b57 b58 b59 b60 l61 l62 l63 l64 l65 l67 i68 l69 l70 l71 K0 n t45 l66=LM Zct N 1 100013 n (Zp2 k43 t44 t45 b46 b47 b48 b49 b50 b51 b52 b53 b54 b55 b56 b57 b58 b59 b60 l61 l62 l63 l64 l65 l66 l67 i68 l69 l70 l71) K:=by
  subst h0
  induction n generalizing t45 l66 with
  |zero=>kernel_rfl
  |succ n ih=>rw[Za4];simp(disch:=exact id (by kernel_rfl)) only[ih];kernel_rfl
theorem Zs6:Wc Tryz.prog 120:=Wb Tryz.func120 (show Wg Tryz.f120=true by kernel_rfl)
theorem Zs7(N:Nat)(f1:Y_Family)(k2:Int):DN Zct N (f1,k2,())=Zbq N f1 k2:=by
  have h:Zbq N f1 k2=Zbq N f1 k2:=rfl
  conv at h=>rhs;rw[Zbq]
  simp(disch:=exact id (by kernel_rfl)) only[Zp1 (R:=(Y_Family×Unit)×Unit) N (CF Zct N [1,1,0,1,0]),Zp3 (R:=(Y_Family×Unit)×Unit) N (CF Zct N [1,1,1,1,0,1,0])]at h
  exact Eq.trans (by kernel_rfl) h.symm
theorem Zs8(N:Nat):Good Tryz.prog 120 (Zjk N):=GF Zct N Tryz.func120 (Wa (Zoa N) Zn9 (Wa (Zji N) Zjh (Wa (Zee N) Zec We))) (by kernel_rfl) (λd=>Zs7 N d.1 d.2.1)
def Zkd(N:Nat):Sig:=Sig.of [.box Jy,.v Ja false,.v Jc false,.v Ju true] [] (λd=>Zie N d.1 d.2.1 d.2.2.1 d.2.2.2.1)
def Zu4:Fn:=⟨Tryz.f56,λ |2=>[.opn 20]|_=>[],Zkd,λN=>[(119,Zkv N),(120,Zjk N),(121,Zfd N),(122,Zgl N)]⟩
theorem Zu5:Wc Tryz.prog 56:=Wb Tryz.func56 (show Wg Tryz.f56=true by kernel_rfl)
theorem Zu6(N:Nat):Good Tryz.prog 56 (Zkd N):=GF Zu4 N Tryz.func56 (Wa (Zxc N) Zxb (Wa (Zs8 N) Zs6 (Wa (Zji N) Zjh (Wa (Zmi N) Zmh We)))) (by kernel_rfl) (λd=>by kernel_rfl)
def Zlz(N:Nat):Sig:=Sig.of [.box Jv,.v Jaa true,.v Jl true] [] (λd=>Zjp N d.1 d.2.1 d.2.2.1)
def Zza:Fn:=⟨Tryz.f104,λ |3=>[.unfE 6]|_=>[],Zlz,λN=>[(55,Z1 N),(155,Zku N),(56,Zkd N)]⟩
theorem Zzb:Wc Tryz.prog 104:=Wb Tryz.func104 (show Wg Tryz.f104=true by kernel_rfl)
theorem Zzc(N:Nat):Good Tryz.prog 104 (Zlz N):=GF Zza N Tryz.func104 (Wa (Zab N) Zaa (Wa (Zw9 N) Zw8 (Wa (Zu6 N) Zu5 We))) (by kernel_rfl) (λd=>by kernel_rfl)
def Znq(N:Nat):Sig:=Sig.of [.v Jaa true] [.v (TY_World) true] (λd=>Ze2 N d.1)
def Zke:Fn:=⟨Tryz.f36,λ |3=>[.nest 21 Jad]|6=>[.canon [1,2,3,32,33,34,35]]|7=>[.canon [1,2,3,5,32,33,34]]|8=>[.canon [1,2,3,32,33,34]]|9=>[.canon [1,2,3,32,33,34]]|100006=>[.adoptC 3 6 Jl,.adoptC 3 8 Jz,.canon [1,2,3,32,33,34]]|_=>[],Znq,λN=>[(103,Zml N),(107,Zlr N),(53,Zn7 N),(104,Zlz N)]⟩
def Zu7(t5:List Kb)(t7:Int)(b8:Kg×List Kk×List Kb)(b13:Int)(b14:Int)(b15:Int)(b16:Int)(l17:List Kb)(l18:List Int)(l19:List Kb)(l20:List Y_Root)(l21:List Kl):St:=⟨[(1,vP 0 0),(2,vP 1 0),(3,vP 2 0),(32,vV Je t5),(33,vI (ilen b8.2.2)),(34,vI t7)],[(0,.box [.val Jj b8.1.1,.val Jj b8.1.2.1,.val Ja b8.1.2.2,.val Jah b8.2.1,.val Je b8.2.2]),(1,.box [.val Ja (0:Int),.val Ja (0:Int),.val Ja (0:Int),.nils,.nils,.val Ja (0:Int),.nils,.nils,.nils]),(2,.box [.val Ja b13,.val Ja b14,.val Ja b15,.own 3,.own 4,.val Ja b16,.own 5,.own 6,.own 7]),(3,.arr Jl l17),(4,.arr Ja l18),(5,.arr Jl l19),(6,.arr Jad l20),(7,.arr Jz l21)],8⟩
def Zs9(t5:List Kb)(b8:Kg×List Kk×List Kb)(t24:Int)(t25:Bool)(b26:Int)(b27:Int)(b28:Int)(b29:Int)(l30:List Kb)(l31:List Int)(l32:List Kb)(l33:List Y_Root)(l34:List Kl):St:=⟨[(1,vP 0 0),(2,vP 1 0),(3,vP 2 0),(32,vV Je t5),(33,vI (ilen b8.2.2)),(34,vI t24),(35,vB t25)],[(0,.box [.val Jj b8.1.1,.val Jj b8.1.2.1,.val Ja b8.1.2.2,.val Jah b8.2.1,.val Je b8.2.2]),(1,.box [.val Ja (0:Int),.val Ja (0:Int),.val Ja (0:Int),.nils,.nils,.val Ja (0:Int),.nils,.nils,.nils]),(2,.box [.val Ja b26,.val Ja b27,.val Ja b28,.own 3,.own 4,.val Ja b29,.own 5,.own 6,.own 7]),(3,.arr Jl l30),(4,.arr Ja l31),(5,.arr Jl l32),(6,.arr Jad l33),(7,.arr Jz l34)],8⟩
theorem Zu8(N:Nat){R:Type}(K:Ex→St→Option R){t5:List Kb}{b8:Kg×List Kk×List Kb}{K0:Int→Bool→Int→Int→Int→Int→Kn→Kh→Kn→(List Y_Root)→(List Kl)→Option R}(h0:K0= λt24 t25 b26 b27 b28 b29 l30 l31 l32 l33 l34=>K (.exit 0) (Zs9 t5 b8 t24 t25 b26 b27 b28 b29 l30 l31 l32 l33 l34))(n:Nat)(t7:Int)(b13:Int)(b14:Int)(b15:Int)(b16:Int)(l17:List Kb)(l18:List Int)(l19:List Kb)(l20:List Y_Root)(l21:List Kl):Zat N t5 b8 K0 n t7 b13 b14 b15 b16 l17 l18 l19 l20 l21=LM Zke N 0 100006 n (Zu7 t5 t7 b8 b13 b14 b15 b16 l17 l18 l19 l20 l21) K:=by
  subst h0
  induction n generalizing t7 b13 b14 b15 b16 l17 l18 l19 l20 l21 with
  |zero=>kernel_rfl
  |succ n ih=>rw[Zat];simp(disch:=exact id (by kernel_rfl)) only[ih];kernel_rfl
theorem Z14:Wc Tryz.prog 36:=Wb Tryz.func36 (show Wg Tryz.f36=true by kernel_rfl)
theorem Z15(N:Nat)(s1:Kg×List Kk×List Kb):DN Zke N (s1,())=Ze2 N s1:=by
  have h:Ze2 N s1=Ze2 N s1:=rfl
  conv at h=>rhs;rw[Ze2]
  simp(disch:=exact id (by kernel_rfl)) only[Zu8 (R:=Unit×(Y_World×Unit)) N (CF Zke N [1,1,1,1,0,1,0])]at h
  exact Eq.trans (by kernel_rfl) h.symm
theorem Z16(N:Nat):Good Tryz.prog 36 (Znq N):=GF Zke N Tryz.func36 (Wa (Zzr N) Zzq (Wa (Zyi N) Zyg (Wa (Z3d N) Z3b (Wa (Zzc N) Zzb We)))) (by kernel_rfl) (λd=>Z15 N d.1)
def Zcb(N:Nat):Sig:=Sig.of [.v Ja false,.v Ja false,.v Ja false] [.v Jp false] (λd=>Zah N d.1 d.2.1 d.2.2.1)
def Z5f:Fn:=⟨Tryz.f61,Wz,Zcb,Wcs⟩
theorem Zef:Wc Tryz.prog 61:=Wb Tryz.func61 (show Wg Tryz.f61=true by kernel_rfl)
theorem Zeg(N:Nat):Good Tryz.prog 61 (Zcb N):=GF Z5f N Tryz.func61 We (by kernel_rfl) (λd=>by kernel_rfl)
def Zgt(N:Nat):Sig:=Sig.of [.v Ja false] [.v Jp false] (λd=>Zfl N d.1)
def Z4v:Fn:=⟨Tryz.f112,Wz,Zgt,λN=>[(61,Zcb N)]⟩
theorem Zjl:Wc Tryz.prog 112:=Wb Tryz.func112 (show Wg Tryz.f112=true by kernel_rfl)
theorem Zjm(N:Nat):Good Tryz.prog 112 (Zgt N):=GF Z4v N Tryz.func112 (Wa (Zeg N) Zef We) (by kernel_rfl) (λd=>by kernel_rfl)
def Zoh(N:Nat):Sig:=Sig.of [.v Jj false] [.v Jp false] (λd=>Zgb N d.1)
def Zlf:Fn:=⟨Tryz.f58,λ |4=>[.canon [0,3,10]]|5=>[.canon [0,3]]|6=>[.canon [0,3,18]]|7=>[.canon [2]]|100004=>[.canon [0,3]]|_=>[],Zoh,λN=>[(112,Zgt N)]⟩
def Zxd(l2:List Int)(i3:Int):St:=⟨[(0,vV Jj l2),(3,vI i3)],[],0⟩
def Zu9(l2:List Int):St:=⟨[(2,vB false)],[],0⟩
def Zva(l2:List Int)(i5:Int)(t6:Bool):St:=⟨[(0,vV Jj l2),(3,vI i5),(10,vB t6)],[],0⟩
theorem Zxe(N:Nat){R:Type}(K:Ex→St→Option R){l2:List Int}{K0:Option R}{K1:Int→Bool→Option R}(h0:K0=K .ret (Zu9 l2))(h1:K1= λi5 t6=>K (.exit 0) (Zva l2 i5 t6))(n:Nat)(i3:Int):Zdc N l2 K0 K1 n i3=LM Zlf N 0 100004 n (Zxd l2 i3) K:=by
  subst h0 h1
  induction n generalizing i3 with
  |zero=>kernel_rfl
  |succ n ih=>rw[Zdc];simp(disch:=exact id (by kernel_rfl)) only[ih];kernel_rfl
theorem Z3s:Wc Tryz.prog 58:=Wb Tryz.func58 (show Wg Tryz.f58=true by kernel_rfl)
theorem Z3t(N:Nat)(l1:List Int):DN Zlf N (l1,())=Zgb N l1:=by
  have h:Zgb N l1=Zgb N l1:=rfl
  conv at h=>rhs;rw[Zgb]
  simp(disch:=exact id (by kernel_rfl)) only[Zxe (R:=Unit×Kf) N (CF Zlf N [1,1,0,1,0])]at h
  exact Eq.trans (by kernel_rfl) h.symm
theorem Z3u(N:Nat):Good Tryz.prog 58 (Zoh N):=GF Zlf N Tryz.func58 (Wa (Zjm N) Zjl We) (by kernel_rfl) (λd=>Z3t N d.1)
def Zmo(N:Nat):Sig:=Sig.of [.v Js true] [.v Jp false] (λd=>Zdk N d.1)
def Zi4:Fn:=⟨Tryz.f105,λ |4=>[.canon [1,3,24]]|5=>[.canon [1,3]]|6=>[.canon [1,3,33]]|7=>[.canon [2]]|100004=>[.canon [1,3]]|_=>[],Zmo,λN=>[(58,Zoh N),(112,Zgt N),(61,Zcb N)]⟩
def Zta(i4:Int)(b5:List Int×List Int×Int):St:=⟨[(1,vP 0 0),(3,vI i4)],[(0,.box [.val Jj b5.1,.val Jj b5.2.1,.val Ja b5.2.2])],1⟩
def Zrp(b5:List Int×List Int×Int):St:=⟨[(2,vB false)],[],0⟩
def Zrq(b5:List Int×List Int×Int)(i7:Int)(t8:Bool):St:=⟨[(1,vP 0 0),(3,vI i7),(24,vB t8)],[(0,.box [.val Jj b5.1,.val Jj b5.2.1,.val Ja b5.2.2])],1⟩
theorem Ztb(N:Nat){R:Type}(K:Ex→St→Option R){b5:List Int×List Int×Int}{K0:Option R}{K1:Int→Bool→Option R}(h0:K0=K .ret (Zrp b5))(h1:K1= λi7 t8=>K (.exit 0) (Zrq b5 i7 t8))(n:Nat)(i4:Int):Zbr N b5 K0 K1 n i4=LM Zi4 N 0 100004 n (Zta i4 b5) K:=by
  subst h0 h1
  induction n generalizing i4 with
  |zero=>kernel_rfl
  |succ n ih=>rw[Zbr];simp(disch:=exact id (by kernel_rfl)) only[ih];kernel_rfl
theorem Zz9:Wc Tryz.prog 105:=Wb Tryz.func105 (show Wg Tryz.f105=true by kernel_rfl)
theorem Z0a(N:Nat)(s1:List Int×List Int×Int):DN Zi4 N (s1,())=Zdk N s1:=by
  have h:Zdk N s1=Zdk N s1:=rfl
  conv at h=>rhs;rw[Zdk]
  simp(disch:=exact id (by kernel_rfl)) only[Ztb (R:=Unit×Kf) N (CF Zi4 N [1,1,0,1,0])]at h
  exact Eq.trans (by kernel_rfl) h.symm
theorem Z0b(N:Nat):Good Tryz.prog 105 (Zmo N):=GF Zi4 N Tryz.func105 (Wa (Z3u N) Z3s (Wa (Zjm N) Zjl (Wa (Zeg N) Zef We))) (by kernel_rfl) (λd=>Z0a N d.1)
def Zo1(N:Nat):Sig:=Sig.of [.v Ja false] [.v Jp false] (λd=>Zu N d.1)
def Z4w:Fn:=⟨Tryz.f226,Wz,Zo1,λN=>[(61,Zcb N)]⟩
theorem Z4x:Wc Tryz.prog 226:=Wb Tryz.func226 (show Wg Tryz.f226=true by kernel_rfl)
theorem Z4y(N:Nat):Good Tryz.prog 226 (Zo1 N):=GF Z4w N Tryz.func226 (Wa (Zeg N) Zef We) (by kernel_rfl) (λd=>by kernel_rfl)
def Zoi(N:Nat):Sig:=Sig.of [.v Ja false] [.v Jp false] (λd=>Zhb N d.1)
def Z3v:Fn:=⟨Tryz.f64,Wz,Zoi,λN=>[(61,Zcb N)]⟩
theorem Z3w:Wc Tryz.prog 64:=Wb Tryz.func64 (show Wg Tryz.f64=true by kernel_rfl)
theorem Z3x(N:Nat):Good Tryz.prog 64 (Zoi N):=GF Z3v N Tryz.func64 (Wa (Zeg N) Zef We) (by kernel_rfl) (λd=>by kernel_rfl)
def Zm4(N:Nat):Sig:=Sig.of [.v Jx true] [.v Jp false] (λd=>Zt N d.1)
def Z5g:Fn:=⟨Tryz.f180,Wz,Zm4,λN=>[(226,Zo1 N),(112,Zgt N),(64,Zoi N),(61,Zcb N)]⟩
theorem Zvp:Wc Tryz.prog 180:=Wb Tryz.func180 (show Wg Tryz.f180=true by kernel_rfl)
theorem Zvq(N:Nat):Good Tryz.prog 180 (Zm4 N):=GF Z5g N Tryz.func180 (Wa (Z4y N) Z4x (Wa (Zjm N) Zjl (Wa (Z3x N) Z3w (Wa (Zeg N) Zef We)))) (by kernel_rfl) (λd=>by kernel_rfl)
def Zoj(N:Nat):Sig:=Sig.of [.v Jc false,.v Ja false] [.v Jp false] (λd=>Zgc N d.1 d.2.1)
def Zlg:Fn:=⟨Tryz.f181,λ |6=>[.canon [0,5,6,7,24]]|7=>[.canon [0,5,6,7]]|8=>[.canon [0,5,6,7,32]]|9=>[.canon [0,5,6,7]]|10=>[.canon [0,5,6,7,40]]|11=>[.canon [0,5,6,7]]|12=>[.canon [0,5,6,7,44]]|13=>[.canon [4]]|100006=>[.canon [0,5,6,7]]|_=>[],Zoj,Wcs⟩
def Zxf(code3:List Ka)(to4:Int)(d5:Int)(k6:Int):St:=⟨[(0,vV Jc code3),(5,vI to4),(6,vI d5),(7,vI k6)],[],0⟩
def Zvb(code3:List Ka)(to4:Int):St:=⟨[(4,vB false)],[],0⟩
def Zvc(code3:List Ka)(to4:Int)(d7:Int)(k8:Int)(t9:Bool):St:=⟨[(0,vV Jc code3),(5,vI to4),(6,vI d7),(7,vI k8),(24,vB t9)],[],0⟩
theorem Zxg(N:Nat){R:Type}(K:Ex→St→Option R){code3:List Ka}{to4:Int}{K0:Option R}{K1:Int→Int→Bool→Option R}(h0:K0=K .ret (Zvb code3 to4))(h1:K1= λd7 k8 t9=>K (.exit 0) (Zvc code3 to4 d7 k8 t9))(n:Nat)(d5:Int)(k6:Int):Za5 N code3 to4 K0 K1 n d5 k6=LM Zlg N 0 100006 n (Zxf code3 to4 d5 k6) K:=by
  subst h0 h1
  induction n generalizing d5 k6 with
  |zero=>kernel_rfl
  |succ n ih=>rw[Za5];simp(disch:=exact id (by kernel_rfl)) only[ih];kernel_rfl
theorem Z3y:Wc Tryz.prog 181:=Wb Tryz.func181 (show Wg Tryz.f181=true by kernel_rfl)
theorem Z3z(N:Nat)(code1:List Ka)(i2:Int):DN Zlg N (code1,i2,())=Zgc N code1 i2:=by
  have h:Zgc N code1 i2=Zgc N code1 i2:=rfl
  conv at h=>rhs;rw[Zgc]
  simp(disch:=exact id (by kernel_rfl)) only[Zxg (R:=Unit×Kf) N (CF Zlg N [1,1,1,1,0,1,0])]at h
  exact Eq.trans (by kernel_rfl) h.symm
theorem Z30(N:Nat):Good Tryz.prog 181 (Zoj N):=GF Zlg N Tryz.func181 We (by kernel_rfl) (λd=>Z3z N d.1 d.2.1)
def Zlh(N:Nat):Sig:=Sig.of [.v Jc false] [.v Jp false] (λd=>Zd2 N d.1)
def Zli:Fn:=⟨Tryz.f125,λ |6=>[.canon [0,3,4,5,12]]|7=>[.canon [0,3,4,5]]|8=>[.canon [0,3,4,5,20]]|9=>[.canon [2]]|10=>[.canon [0,3,4,5,25]]|11=>[.canon [0,3,4,5,25,26]]|12=>[.canon [0,3,4,5]]|13=>[.canon [0,3,4,5,25,30]]|14=>[.canon [0,3,4,5]]|15=>[.canon [0,3,4,5,25,34]]|16=>[.canon [0,3,4,5,39]]|17=>[.canon [2]]|18=>[.canon [0,3,4,5,40]]|19=>[.canon [0,3,4,5]]|20=>[.canon [0,3,4,5,49]]|21=>[.canon [2]]|22=>[.canon [0,3,4,5,51]]|23=>[.canon [2]]|100006=>[.canon [0,3,4,5]]|_=>[],Zlh,λN=>[(180,Zm4 N),(181,Zoj N)]⟩
def Zxh(code2:List Ka)(d3:Int)(forks4:Int)(i5:Int):St:=⟨[(0,vV Jc code2),(3,vI d3),(4,vI forks4),(5,vI i5)],[],0⟩
def Zvd(code2:List Ka):St:=⟨[(2,vB false)],[],0⟩
def Zve(code2:List Ka)(d8:Int)(forks9:Int)(i10:Int)(t11:Bool):St:=⟨[(0,vV Jc code2),(3,vI d8),(4,vI forks9),(5,vI i10),(12,vB t11)],[],0⟩
theorem Zxi(N:Nat){R:Type}(K:Ex→St→Option R){code2:List Ka}{K0:Option R}{K1:Int→Int→Int→Bool→Option R}(h0:K0=K .ret (Zvd code2))(h1:K1= λd8 forks9 i10 t11=>K (.exit 0) (Zve code2 d8 forks9 i10 t11))(n:Nat)(d3:Int)(forks4:Int)(i5:Int):Za6 N code2 K0 K1 n d3 forks4 i5=LM Zli N 0 100006 n (Zxh code2 d3 forks4 i5) K:=by
  subst h0 h1
  induction n generalizing d3 forks4 i5 with
  |zero=>kernel_rfl
  |succ n ih=>rw[Za6];simp(disch:=exact id (by kernel_rfl)) only[ih];kernel_rfl
theorem Zq8:Wc Tryz.prog 125:=Wb Tryz.func125 (show Wg Tryz.f125=true by kernel_rfl)
theorem Z31(N:Nat)(code1:List Ka):DN Zli N (code1,())=Zd2 N code1:=by
  have h:Zd2 N code1=Zd2 N code1:=rfl
  conv at h=>rhs;rw[Zd2]
  simp(disch:=exact id (by kernel_rfl)) only[Zxi (R:=Unit×Kf) N (CF Zli N [1,1,1,1,0,1,0])]at h
  exact Eq.trans (by kernel_rfl) h.symm
theorem Zq9(N:Nat):Good Tryz.prog 125 (Zlh N):=GF Zli N Tryz.func125 (Wa (Zvq N) Zvp (Wa (Z30 N) Z3y We)) (by kernel_rfl) (λd=>Z31 N d.1)
def Zkf(N:Nat):Sig:=Sig.of [.v Jc false] [.v Jp false] (λd=>Zc5 N d.1)
def Zkg:Fn:=⟨Tryz.f126,λ |2=>[.canon [0,3,7]]|3=>[.canon [0,3]]|4=>[.canon [0,3,15]]|5=>[.canon [2]]|100002=>[.canon [0,3]]|_=>[],Zkf,Wcs⟩
def Zvf(code2:List Ka)(i3:Int):St:=⟨[(0,vV Jc code2),(3,vI i3)],[],0⟩
def Ztc(code2:List Ka):St:=⟨[(2,vB true)],[],0⟩
def Ztd(code2:List Ka)(i4:Int)(t5:Bool):St:=⟨[(0,vV Jc code2),(3,vI i4),(7,vB t5)],[],0⟩
theorem Zvg(N:Nat){R:Type}(K:Ex→St→Option R){code2:List Ka}{K0:Option R}{K1:Int→Bool→Option R}(h0:K0=K .ret (Ztc code2))(h1:K1= λi4 t5=>K (.exit 0) (Ztd code2 i4 t5))(n:Nat)(i3:Int):Zcu N code2 K0 K1 n i3=LM Zkg N 0 100002 n (Zvf code2 i3) K:=by
  subst h0 h1
  induction n generalizing i3 with
  |zero=>kernel_rfl
  |succ n ih=>rw[Zcu];simp(disch:=exact id (by kernel_rfl)) only[ih];kernel_rfl
theorem Zqg:Wc Tryz.prog 126:=Wb Tryz.func126 (show Wg Tryz.f126=true by kernel_rfl)
theorem Z17(N:Nat)(code1:List Ka):DN Zkg N (code1,())=Zc5 N code1:=by
  have h:Zc5 N code1=Zc5 N code1:=rfl
  conv at h=>rhs;rw[Zc5]
  simp(disch:=exact id (by kernel_rfl)) only[Zvg (R:=Unit×Kf) N (CF Zkg N [1,0,1,0])]at h
  exact Eq.trans (by kernel_rfl) h.symm
theorem Zqh(N:Nat):Good Tryz.prog 126 (Zkf N):=GF Zkg N Tryz.func126 We (by kernel_rfl) (λd=>Z17 N d.1)
def Znr(N:Nat):Sig:=Sig.of [.v Jx true] [.v Ja false] (λd=>Zcc N d.1)
def Z18:Fn:=⟨Tryz.f127,Wz,Znr,λN=>[(180,Zm4 N)]⟩
theorem Z19:Wc Tryz.prog 127:=Wb Tryz.func127 (show Wg Tryz.f127=true by kernel_rfl)
theorem Z2a(N:Nat):Good Tryz.prog 127 (Znr N):=GF Z18 N Tryz.func127 (Wa (Zvq N) Zvp We) (by kernel_rfl) (λd=>by kernel_rfl)
def Zo2(N:Nat):Sig:=Sig.of [.v Jc false] [.v Jp false] (λd=>Zfm N d.1)
def Zmd:Fn:=⟨Tryz.f62,λ |4=>[.canon [0,3,14]]|5=>[.canon [0,3]]|6=>[.canon [0,3,22]]|7=>[.canon [2]]|100004=>[.canon [0,3]]|_=>[],Zo2,λN=>[(125,Zlh N),(126,Zkf N),(127,Znr N)]⟩
def Zzd(code4:List Ka)(i5:Int):St:=⟨[(0,vV Jc code4),(3,vI i5)],[],0⟩
def Zxj(code4:List Ka):St:=⟨[(2,vB false)],[],0⟩
def Zxk(code4:List Ka)(i7:Int)(t8:Bool):St:=⟨[(0,vV Jc code4),(3,vI i7),(14,vB t8)],[],0⟩
theorem Zze(N:Nat){R:Type}(K:Ex→St→Option R){code4:List Ka}{K0:Option R}{K1:Int→Bool→Option R}(h0:K0=K .ret (Zxj code4))(h1:K1= λi7 t8=>K (.exit 0) (Zxk code4 i7 t8))(n:Nat)(i5:Int):Zeh N code4 K0 K1 n i5=LM Zmd N 0 100004 n (Zzd code4 i5) K:=by
  subst h0 h1
  induction n generalizing i5 with
  |zero=>kernel_rfl
  |succ n ih=>rw[Zeh];simp(disch:=exact id (by kernel_rfl)) only[ih];kernel_rfl
theorem Z4z:Wc Tryz.prog 62:=Wb Tryz.func62 (show Wg Tryz.f62=true by kernel_rfl)
theorem Z40(N:Nat)(code1:List Ka):DN Zmd N (code1,())=Zfm N code1:=by
  have h:Zfm N code1=Zfm N code1:=rfl
  conv at h=>rhs;rw[Zfm]
  simp(disch:=exact id (by kernel_rfl)) only[Zze (R:=Unit×Kf) N (CF Zmd N [1,1,0,1,0])]at h
  exact Eq.trans (by kernel_rfl) h.symm
theorem Z41(N:Nat):Good Tryz.prog 62 (Zo2 N):=GF Zmd N Tryz.func62 (Wa (Zq9 N) Zq8 (Wa (Zqh N) Zqg (Wa (Z2a N) Z19 We))) (by kernel_rfl) (λd=>Z40 N d.1)
def Zok(N:Nat):Sig:=Sig.of [.v Jn true] [.v Jp false] (λd=>Zd5 N d.1)
def Zlj:Fn:=⟨Tryz.f106,λ |4=>[.canon [1,3,28]]|5=>[.canon [1,3]]|6=>[.canon [1,3,38]]|7=>[.canon [2]]|100004=>[.canon [1,3]]|_=>[],Zok,λN=>[(125,Zlh N),(126,Zkf N),(62,Zo2 N)]⟩
def Zxl(i4:Int)(b5:List Ka×List Kq):St:=⟨[(1,vP 0 0),(3,vI i4)],[(0,.box [.val Jc b5.1,.val (.slice Jc) b5.2])],1⟩
def Zvh(b5:List Ka×List Kq):St:=⟨[(2,vB false)],[],0⟩
def Zvi(b5:List Ka×List Kq)(i7:Int)(t8:Bool):St:=⟨[(1,vP 0 0),(3,vI i7),(28,vB t8)],[(0,.box [.val Jc b5.1,.val (.slice Jc) b5.2])],1⟩
theorem Zxm(N:Nat){R:Type}(K:Ex→St→Option R){b5:List Ka×List Kq}{K0:Option R}{K1:Int→Bool→Option R}(h0:K0=K .ret (Zvh b5))(h1:K1= λi7 t8=>K (.exit 0) (Zvi b5 i7 t8))(n:Nat)(i4:Int):Zci N b5 K0 K1 n i4=LM Zlj N 0 100004 n (Zxl i4 b5) K:=by
  subst h0 h1
  induction n generalizing i4 with
  |zero=>kernel_rfl
  |succ n ih=>rw[Zci];simp(disch:=exact id (by kernel_rfl)) only[ih];kernel_rfl
theorem Z32:Wc Tryz.prog 106:=Wb Tryz.func106 (show Wg Tryz.f106=true by kernel_rfl)
theorem Z33(N:Nat)(p1:List Ka×List Kq):DN Zlj N (p1,())=Zd5 N p1:=by
  have h:Zd5 N p1=Zd5 N p1:=rfl
  conv at h=>rhs;rw[Zd5]
  simp(disch:=exact id (by kernel_rfl)) only[Zxm (R:=Unit×Kf) N (CF Zlj N [1,1,0,1,0])]at h
  exact Eq.trans (by kernel_rfl) h.symm
theorem Z34(N:Nat):Good Tryz.prog 106 (Zok N):=GF Zlj N Tryz.func106 (Wa (Zq9 N) Zq8 (Wa (Zqh N) Zqg (Wa (Z41 N) Z4z We))) (by kernel_rfl) (λd=>Z33 N d.1)
def Zmp(N:Nat):Sig:=Sig.of [.v Jaa true] [.v Jp false] (λd=>Zdl N d.1)
def Zi5:Fn:=⟨Tryz.f35,λ |4=>[.canon [1,3,24]]|5=>[.canon [1,3]]|6=>[.canon [1,3,33]]|7=>[.canon [2]]|100004=>[.canon [1,3]]|_=>[],Zmp,λN=>[(105,Zmo N),(106,Zok N)]⟩
def Zte(i3:Int)(b4:Kg×List Kk×List Kb):St:=⟨[(1,vP 0 0),(3,vI i3)],[(0,.box [.val Jj b4.1.1,.val Jj b4.1.2.1,.val Ja b4.1.2.2,.val Jah b4.2.1,.val Je b4.2.2])],1⟩
def Zrr(b4:Kg×List Kk×List Kb):St:=⟨[(2,vB false)],[],0⟩
def Zrs(b4:Kg×List Kk×List Kb)(i6:Int)(t7:Bool):St:=⟨[(1,vP 0 0),(3,vI i6),(24,vB t7)],[(0,.box [.val Jj b4.1.1,.val Jj b4.1.2.1,.val Ja b4.1.2.2,.val Jah b4.2.1,.val Je b4.2.2])],1⟩
theorem Ztf(N:Nat){R:Type}(K:Ex→St→Option R){b4:Kg×List Kk×List Kb}{K0:Option R}{K1:Int→Bool→Option R}(h0:K0=K .ret (Zrr b4))(h1:K1= λi6 t7=>K (.exit 0) (Zrs b4 i6 t7))(n:Nat)(i3:Int):Zbs N b4 K0 K1 n i3=LM Zi5 N 0 100004 n (Zte i3 b4) K:=by
  subst h0 h1
  induction n generalizing i3 with
  |zero=>kernel_rfl
  |succ n ih=>rw[Zbs];simp(disch:=exact id (by kernel_rfl)) only[ih];kernel_rfl
theorem Z0c:Wc Tryz.prog 35:=Wb Tryz.func35 (show Wg Tryz.f35=true by kernel_rfl)
theorem Z0d(N:Nat)(s1:Kg×List Kk×List Kb):DN Zi5 N (s1,())=Zdl N s1:=by
  have h:Zdl N s1=Zdl N s1:=rfl
  conv at h=>rhs;rw[Zdl]
  simp(disch:=exact id (by kernel_rfl)) only[Ztf (R:=Unit×Kf) N (CF Zi5 N [1,1,0,1,0])]at h
  exact Eq.trans (by kernel_rfl) h.symm
theorem Z0e(N:Nat):Good Tryz.prog 35 (Zmp N):=GF Zi5 N Tryz.func35 (Wa (Z0b N) Zz9 (Wa (Z34 N) Z32 We)) (by kernel_rfl) (λd=>Z0d N d.1)
def Zo3(N:Nat):Sig:=Sig.of [.v Ju true] [.v Jp false] (λd=>Zfn N d.1)
def Zme:Fn:=⟨Tryz.f45,λ |4=>[.canon [1,3,19]]|5=>[.canon [1,3]]|6=>[.canon [1,3,4]]|7=>[.canon [1,3,44]]|8=>[.canon [2]]|100004=>[.canon [1,3]]|_=>[],Zo3,λN=>[(61,Zcb N),(112,Zgt N)]⟩
def Zzf(i3:Int)(b4:Int×List Kb):St:=⟨[(1,vP 0 0),(3,vI i3)],[(0,.box [.val Ja b4.1,.val Je b4.2])],1⟩
def Zxn(b4:Int×List Kb):St:=⟨[(2,vB false)],[],0⟩
def Zxo(b4:Int×List Kb)(i8:Int)(t9:Bool):St:=⟨[(1,vP 0 0),(3,vI i8),(19,vB t9)],[(0,.box [.val Ja b4.1,.val Je b4.2])],1⟩
theorem Zzg(N:Nat){R:Type}(K:Ex→St→Option R){b4:Int×List Kb}{K0:Option R}{K1:Int→Bool→Option R}(h0:K0=K .ret (Zxn b4))(h1:K1= λi8 t9=>K (.exit 0) (Zxo b4 i8 t9))(n:Nat)(i3:Int):Zcv N b4 K0 K1 n i3=LM Zme N 0 100004 n (Zzf i3 b4) K:=by
  subst h0 h1
  induction n generalizing i3 with
  |zero=>kernel_rfl
  |succ n ih=>rw[Zcv];simp(disch:=exact id (by kernel_rfl)) only[ih];kernel_rfl
theorem Z42:Wc Tryz.prog 45:=Wb Tryz.func45 (show Wg Tryz.f45=true by kernel_rfl)
theorem Z43(N:Nat)(m1:Int×List Kb):DN Zme N (m1,())=Zfn N m1:=by
  have h:Zfn N m1=Zfn N m1:=rfl
  conv at h=>rhs;rw[Zfn]
  simp(disch:=exact id (by kernel_rfl)) only[Zzg (R:=Unit×Kf) N (CF Zme N [1,1,0,1,0])]at h
  exact Eq.trans (by kernel_rfl) h.symm
theorem Z44(N:Nat):Good Tryz.prog 45 (Zo3 N):=GF Zme N Tryz.func45 (Wa (Zeg N) Zef (Wa (Zjm N) Zjl We)) (by kernel_rfl) (λd=>Z43 N d.1)
def Zns(N:Nat):Sig:=Sig.of [.v Je false] [.v Jp false] (λd=>Ze4 N d.1)
def Zkh:Fn:=⟨Tryz.f46,λ |2=>[.canon [0,3,8]]|3=>[.canon [0,3]]|4=>[.canon [0,3,4]]|5=>[.canon [0,3,4,30]]|6=>[.canon [2]]|7=>[.canon [0,3,79]]|8=>[.canon [2]]|100002=>[.canon [0,3]]|_=>[],Zns,λN=>[(61,Zcb N)]⟩
def Zvj(l2:List Kb)(i3:Int):St:=⟨[(0,vV Je l2),(3,vI i3)],[],0⟩
def Ztg(l2:List Kb):St:=⟨[(2,vB false)],[],0⟩
def Zth(l2:List Kb)(i7:Int)(t8:Bool):St:=⟨[(0,vV Je l2),(3,vI i7),(8,vB t8)],[],0⟩
theorem Zvk(N:Nat){R:Type}(K:Ex→St→Option R){l2:List Kb}{K0:Option R}{K1:Int→Bool→Option R}(h0:K0=K .ret (Ztg l2))(h1:K1= λi7 t8=>K (.exit 0) (Zth l2 i7 t8))(n:Nat)(i3:Int):Zbm N l2 K0 K1 n i3=LM Zkh N 0 100002 n (Zvj l2 i3) K:=by
  subst h0 h1
  induction n generalizing i3 with
  |zero=>kernel_rfl
  |succ n ih=>rw[Zbm];simp(disch:=exact id (by kernel_rfl)) only[ih];kernel_rfl
theorem Z2b:Wc Tryz.prog 46:=Wb Tryz.func46 (show Wg Tryz.f46=true by kernel_rfl)
theorem Z2c(N:Nat)(l1:List Kb):DN Zkh N (l1,())=Ze4 N l1:=by
  have h:Ze4 N l1=Ze4 N l1:=rfl
  conv at h=>rhs;rw[Ze4]
  simp(disch:=exact id (by kernel_rfl)) only[Zvk (R:=Unit×Kf) N (CF Zkh N [1,0,1,0])]at h
  exact Eq.trans (by kernel_rfl) h.symm
theorem Z2d(N:Nat):Good Tryz.prog 46 (Zns N):=GF Zkh N Tryz.func46 (Wa (Zeg N) Zef We) (by kernel_rfl) (λd=>Z2c N d.1)
def Znt(N:Nat):Sig:=Sig.of [.v Ja false] [.v Ja false,.v Ja false] (λd=>Zja N d.1)
def Z2e:Fn:=⟨Tryz.f159,Wz,Znt,Wcs⟩
theorem Z2f:Wc Tryz.prog 159:=Wb Tryz.func159 (show Wg Tryz.f159=true by kernel_rfl)
theorem Z2g(N:Nat):Good Tryz.prog 159 (Znt N):=GF Z2e N Tryz.func159 We (by kernel_rfl) (λd=>by kernel_rfl)
def Zol(N:Nat):Sig:=Sig.of [.v Ja false] [.v Jp false] (λd=>Zpf N d.1)
def Z35:Fn:=⟨Tryz.f214,Wz,Zol,λN=>[(61,Zcb N)]⟩
theorem Z36:Wc Tryz.prog 214:=Wb Tryz.func214 (show Wg Tryz.f214=true by kernel_rfl)
theorem Z37(N:Nat):Good Tryz.prog 214 (Zol N):=GF Z35 N Tryz.func214 (Wa (Zeg N) Zef We) (by kernel_rfl) (λd=>by kernel_rfl)
def Zmq(N:Nat):Sig:=Sig.of [.v Ja false] [.v Ja false] (λd=>Zk0 N d.1)
def Z0f:Fn:=⟨Tryz.f160,Wz,Zmq,λN=>[(214,Zol N)]⟩
theorem Z0g:Wc Tryz.prog 160:=Wb Tryz.func160 (show Wg Tryz.f160=true by kernel_rfl)
theorem Z0h(N:Nat):Good Tryz.prog 160 (Zmq N):=GF Z0f N Tryz.func160 (Wa (Z37 N) Z36 We) (by kernel_rfl) (λd=>by kernel_rfl)
def Znu(N:Nat):Sig:=Sig.of [.v Jj false] [.v Jp false] (λd=>Ze3 N d.1)
def Zki:Fn:=⟨Tryz.f113,λ |5=>[.canon [0,3,4,14]]|6=>[.canon [0,3,4]]|7=>[.canon [0,3,4,22]]|8=>[.canon [2]]|9=>[.canon [0,3,4,5]]|10=>[.canon [0,3,4,5,32]]|11=>[.canon [0,3,4,5,43]]|12=>[.canon [2]]|13=>[.canon [0,3,4]]|100005=>[.canon [0,3,4]]|_=>[],Znu,λN=>[(61,Zcb N),(159,Znt N),(160,Zmq N)]⟩
def Zvl(l2:List Int)(i3:Int)(l4:List Bool):St:=⟨[(0,vV Jj l2),(3,vO 0),(4,vI i3)],[(0,.arr Jp l4)],1⟩
def Zti(l2:List Int):St:=⟨[(2,vB false)],[],0⟩
def Ztj(l2:List Int)(i8:Int)(t9:Bool)(l10:List Bool):St:=⟨[(0,vV Jj l2),(3,vO 0),(4,vI i8),(14,vB t9)],[(0,.arr Jp l10)],1⟩
theorem Zvm(N:Nat){R:Type}(K:Ex→St→Option R){l2:List Int}{K0:Option R}{K1:Int→Bool→(List Bool)→Option R}(h0:K0=K .ret (Zti l2))(h1:K1= λi8 t9 l10=>K (.exit 0) (Ztj l2 i8 t9 l10))(n:Nat)(i3:Int)(l4:List Bool):Zb9 N l2 K0 K1 n i3 l4=LM Zki N 0 100005 n (Zvl l2 i3 l4) K:=by
  subst h0 h1
  induction n generalizing i3 l4 with
  |zero=>kernel_rfl
  |succ n ih=>rw[Zb9];simp(disch:=exact id (by kernel_rfl)) only[ih];kernel_rfl
theorem Z2h:Wc Tryz.prog 113:=Wb Tryz.func113 (show Wg Tryz.f113=true by kernel_rfl)
theorem Z2i(N:Nat)(l1:List Int):DN Zki N (l1,())=Ze3 N l1:=by
  have h:Ze3 N l1=Ze3 N l1:=rfl
  conv at h=>rhs;rw[Ze3]
  simp(disch:=exact id (by kernel_rfl)) only[Zvm (R:=Unit×Kf) N (CF Zki N [1,1,1,0,1,0])]at h
  exact Eq.trans (by kernel_rfl) h.symm
theorem Z2j(N:Nat):Good Tryz.prog 113 (Znu N):=GF Zki N Tryz.func113 (Wa (Zeg N) Zef (Wa (Z2g N) Z2f (Wa (Z0h N) Z0g We))) (by kernel_rfl) (λd=>Z2i N d.1)
def Znv(N:Nat):Sig:=Sig.of [.v (.prod Jj Ja) true] [.v Jp false] (λd=>Zjb N d.1)
def Z2k:Fn:=⟨Tryz.f47,Wz,Znv,λN=>[(113,Znu N),(112,Zgt N)]⟩
theorem Z2l:Wc Tryz.prog 47:=Wb Tryz.func47 (show Wg Tryz.f47=true by kernel_rfl)
theorem Z2m(N:Nat):Good Tryz.prog 47 (Znv N):=GF Z2k N Tryz.func47 (Wa (Z2j N) Z2h (Wa (Zjm N) Zjl We)) (by kernel_rfl) (λd=>by kernel_rfl)
def Zpo(N:Nat):Sig:=Sig.of [.v (TY_World) true] [.v Jab false] (λd=>Zhi N d.1)
def Zm5:Fn:=⟨Tryz.f48,λ |3=>[.canon [3,8,9,10,11]]|4=>[.canon [3,4,5,8,9,10]]|5=>[.canon [3,4,8,9,10,22]]|6=>[.canon [3,8,9,10]]|7=>[.canon [3,8,9,10]]|100003=>[.canon [3,8,9,10]]|_=>[],Zpo,Wcs⟩
def Z0i(t2:List Y_Root)(t3:Int)(t4:Int)(l5:List Int):St:=⟨[(3,vO 0),(8,vV Jae t2),(9,vI t3),(10,vI t4)],[(0,.arr Ja l5)],1⟩
def Zzh(t2:List Y_Root)(t3:Int)(t6:Int)(t7:Bool)(l8:List Int):St:=⟨[(3,vO 0),(8,vV Jae t2),(9,vI t3),(10,vI t6),(11,vB t7)],[(0,.arr Ja l8)],1⟩
theorem Z0j(N:Nat){R:Type}(K:Ex→St→Option R){t2:List Y_Root}{t3:Int}{K0:Int→Bool→Kh→Option R}(h0:K0= λt6 t7 l8=>K (.exit 0) (Zzh t2 t3 t6 t7 l8))(n:Nat)(t4:Int)(l5:List Int):Zcq N t2 t3 K0 n t4 l5=LM Zm5 N 0 100003 n (Z0i t2 t3 t4 l5) K:=by
  subst h0
  induction n generalizing t4 l5 with
  |zero=>kernel_rfl
  |succ n ih=>rw[Zcq];simp(disch:=exact id (by kernel_rfl)) only[ih];kernel_rfl
theorem Z5h:Wc Tryz.prog 48:=Wb Tryz.func48 (show Wg Tryz.f48=true by kernel_rfl)
theorem Z5i(N:Nat)(w1:Y_World):DN Zm5 N (w1,())=Zhi N w1:=by
  have h:Zhi N w1=Zhi N w1:=rfl
  conv at h=>rhs;rw[Zhi]
  simp(disch:=exact id (by kernel_rfl)) only[Z0j (R:=Unit×Ko) N (CF Zm5 N [1,1,0,1,0])]at h
  exact Eq.trans (by kernel_rfl) h.symm
theorem Z5j(N:Nat):Good Tryz.prog 48 (Zpo N):=GF Zm5 N Tryz.func48 We (by kernel_rfl) (λd=>Z5i N d.1)
def Zqi(N:Nat):Sig:=Sig.of [.v Jj false,.v Ja false] [.v Jp false] (λd=>Zik N d.1 d.2.1)
def Zom:Fn:=⟨Tryz.f49,λ |2=>[.canon [0,1,5,9]]|3=>[.canon [0,1,5]]|4=>[.canon [0,1,5,17]]|5=>[.canon [4]]|100002=>[.canon [0,1,5]]|_=>[],Zqi,Wcs⟩
def Z2n(l3:List Int)(x4:Int)(i5:Int):St:=⟨[(0,vV Jj l3),(1,vI x4),(5,vI i5)],[],0⟩
def Z0k(l3:List Int)(x4:Int):St:=⟨[(4,vB true)],[],0⟩
def Z0l(l3:List Int)(x4:Int)(i6:Int)(t7:Bool):St:=⟨[(0,vV Jj l3),(1,vI x4),(5,vI i6),(9,vB t7)],[],0⟩
theorem Z2o(N:Nat){R:Type}(K:Ex→St→Option R){l3:List Int}{x4:Int}{K0:Option R}{K1:Int→Bool→Option R}(h0:K0=K .ret (Z0k l3 x4))(h1:K1= λi6 t7=>K (.exit 0) (Z0l l3 x4 i6 t7))(n:Nat)(i5:Int):Zgq N l3 x4 K0 K1 n i5=LM Zom N 0 100002 n (Z2n l3 x4 i5) K:=by
  subst h0 h1
  induction n generalizing i5 with
  |zero=>kernel_rfl
  |succ n ih=>rw[Zgq];simp(disch:=exact id (by kernel_rfl)) only[ih];kernel_rfl
theorem Z5o:Wc Tryz.prog 49:=Wb Tryz.func49 (show Wg Tryz.f49=true by kernel_rfl)
theorem Z5p(N:Nat)(l1:List Int)(x2:Int):DN Zom N (l1,x2,())=Zik N l1 x2:=by
  have h:Zik N l1 x2=Zik N l1 x2:=rfl
  conv at h=>rhs;rw[Zik]
  simp(disch:=exact id (by kernel_rfl)) only[Z2o (R:=Unit×Kf) N (CF Zom N [1,0,1,0])]at h
  exact Eq.trans (by kernel_rfl) h.symm
theorem Z5q(N:Nat):Good Tryz.prog 49 (Zqi N):=GF Zom N Tryz.func49 We (by kernel_rfl) (λd=>Z5p N d.1 d.2.1)
def Zpz(N:Nat):Sig:=Sig.of [.v Jo false] [.v Jp false] (λd=>Zcr N d.1)
def Zf8:Fn:=⟨Tryz.f8,λ |10=>[.canon [4,5,53]]|11=>[.canon [4,5]]|12=>[.canon [4,5,6]]|13=>[.canon [4,5,81]]|14=>[.canon [2]]|17=>[.canon [4,7,8,88]]|18=>[.canon [4,7,8]]|19=>[.canon [4,7,8,100]]|20=>[.canon [2]]|100010=>[.canon [4,5]]|100017=>[.canon [4,7,8]]|_=>[],Zpz,λN=>[(9,Zp4 N),(38,Zmj N),(36,Znq N),(35,Zmp N),(45,Zo3 N),(46,Zns N),(47,Znv N),(48,Zpo N),(49,Zqi N)]⟩
def Ztk(i9:Int)(b10:Y_World):St:=⟨[(4,vP 0 0),(5,vI i9)],[(0,.box [.val Ja b10.1,.val Ja b10.2.1,.val Ja b10.2.2.1.1,.val Je b10.2.2.1.2,.val Jj b10.2.2.2.1.1,.val Ja b10.2.2.2.1.2,.val Je b10.2.2.2.2.1,.val Jae b10.2.2.2.2.2.1,.val (.slice Jz) b10.2.2.2.2.2.2])],1⟩
def Zrt(b10:Y_World):St:=⟨[(2,vB false)],[],0⟩
def Zru(b10:Y_World)(i11:Int)(t12:Bool):St:=⟨[(4,vP 0 0),(5,vI i11),(53,vB t12)],[(0,.box [.val Ja b10.1,.val Ja b10.2.1,.val Ja b10.2.2.1.1,.val Je b10.2.2.1.2,.val Jj b10.2.2.2.1.1,.val Ja b10.2.2.2.1.2,.val Je b10.2.2.2.2.1,.val Jae b10.2.2.2.2.2.1,.val (.slice Jz) b10.2.2.2.2.2.2])],1⟩
theorem Ztl(N:Nat){R:Type}(K:Ex→St→Option R){b10:Y_World}{K0:Option R}{K1:Int→Bool→Option R}(h0:K0=K .ret (Zrt b10))(h1:K1= λi11 t12=>K (.exit 0) (Zru b10 i11 t12))(n:Nat)(i9:Int):Zbd N b10 K0 K1 n i9=LM Zf8 N 0 100010 n (Ztk i9 b10) K:=by
  subst h0 h1
  induction n generalizing i9 with
  |zero=>kernel_rfl
  |succ n ih=>rw[Zbd];simp(disch:=exact id (by kernel_rfl)) only[ih];kernel_rfl
def Ztm(i16:Int)(b17:Y_World)(l18:List Int):St:=⟨[(4,vP 0 0),(7,vO 1),(8,vI i16)],[(0,.box [.val Ja b17.1,.val Ja b17.2.1,.val Ja b17.2.2.1.1,.val Je b17.2.2.1.2,.val Jj b17.2.2.2.1.1,.val Ja b17.2.2.2.1.2,.val Je b17.2.2.2.2.1,.val Jae b17.2.2.2.2.2.1,.val (.slice Jz) b17.2.2.2.2.2.2]),(1,.arr Ja l18)],2⟩
def Zrv(b17:Y_World)(l18:List Int):St:=⟨[(2,vB false)],[],0⟩
def Zrw(b17:Y_World)(l18:List Int)(i20:Int)(t21:Bool):St:=⟨[(4,vP 0 0),(7,vO 1),(8,vI i20),(88,vB t21)],[(0,.box [.val Ja b17.1,.val Ja b17.2.1,.val Ja b17.2.2.1.1,.val Je b17.2.2.1.2,.val Jj b17.2.2.2.1.1,.val Ja b17.2.2.2.1.2,.val Je b17.2.2.2.2.1,.val Jae b17.2.2.2.2.2.1,.val (.slice Jz) b17.2.2.2.2.2.2]),(1,.arr Ja l18)],2⟩
theorem Ztn(N:Nat){R:Type}(K:Ex→St→Option R){b17:Y_World}{l18:List Int}{K0:Option R}{K1:Int→Bool→Option R}(h0:K0=K .ret (Zrv b17 l18))(h1:K1= λi20 t21=>K (.exit 2) (Zrw b17 l18 i20 t21))(n:Nat)(i16:Int):Zbu N b17 l18 K0 K1 n i16=LM Zf8 N 1 100017 n (Ztm i16 b17 l18) K:=by
  subst h0 h1
  induction n generalizing i16 with
  |zero=>kernel_rfl
  |succ n ih=>rw[Zbu];simp(disch:=exact id (by kernel_rfl)) only[ih];kernel_rfl
theorem Z5r:Wc Tryz.prog 8:=Wb Tryz.func8 (show Wg Tryz.f8=true by kernel_rfl)
theorem Z0m(N:Nat)(code1:List Int):DN Zf8 N (code1,())=Zcr N code1:=by
  have h:Zcr N code1=Zcr N code1:=rfl
  conv at h=>rhs;rw[Zcr]
  simp(disch:=exact id (by kernel_rfl)) only[Ztl (R:=Unit×Kf) N (CF Zf8 N [1,1,1,1,1,1,0,1,0]),Ztn (R:=Unit×Kf) N (CF Zf8 N [1,1,1,1,1,1,1,1,0,1,0])]at h
  exact Eq.trans (by kernel_rfl) h.symm
theorem Z0n(N:Nat):Good Tryz.prog 8 (Zpz N):=GF Zf8 N Tryz.func8 (Wa (Z5m N) Z5l (Wa (Zzl N) Zzk (Wa (Z16 N) Z14 (Wa (Z0e N) Z0c (Wa (Z44 N) Z42 (Wa (Z2d N) Z2b (Wa (Z2m N) Z2l (Wa (Z5j N) Z5h (Wa (Z5q N) Z5o We))))))))) (by kernel_rfl) (λd=>Z0m N d.1)
end
end Go.Sx
