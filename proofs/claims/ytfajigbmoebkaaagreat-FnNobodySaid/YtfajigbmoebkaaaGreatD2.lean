/- Each Go function does what its Lean function says. -/
import Derived.Test.YtfajigbmoebkaaaGreatD
namespace Go.Sx
noncomputable section
open Go.Proofs
set_option linter.unusedVariables false
set_option linter.unusedSimpArgs false
theorem Z40 (N:Nat):Good Tryz.prog 57 (Zpf N):=GF Z4y N Tryz.func57 (Wa (Zhw N) Zhv (Wa (Zhk N) Zhj We)) (by kernel_rfl) (fun d=>by kernel_rfl)
def Zoy (N:Nat):Sig:=Sig.of [.v Ju true,.v Ja false,.v Ja false,.v Ja false] [.v Jag true,.v Jp false] (fun d=>Znv N d.1 d.2.1 d.2.2.1 d.2.2.2.1)
def Z4m:Fn:=⟨Tryz.f278,Wz,Zoy,fun N=>[(123,Zev N),(124,Ze9 N),(65,Zb6 N),(288,Zeu N),(130,Za7 N)]⟩
theorem Z4n:Wc Tryz.prog 278:=Wb Tryz.func278 (show Wg Tryz.f278 = true by kernel_rfl)
theorem Z4o (N:Nat):Good Tryz.prog 278 (Zoy N):=GF Z4m N Tryz.func278 (Wa (Zhw N) Zhv (Wa (Zhk N) Zhj (Wa (Zdv N) Zdu (Wa (Zhu N) Zht (Wa (Zbs N) Zbr We))))) (by kernel_rfl) (fun d=>by kernel_rfl)
def Zog (N:Nat):Sig:=Sig.of [.v Ju true,.v Ja false,.v Ja false,.v Ja false] [.v Jag true,.v Jp false] (fun d=>Zkg N d.1 d.2.1 d.2.2.1 d.2.2.2.1)
def Z3s:Fn:=⟨Tryz.f279,Wz,Zog,fun N=>[(123,Zev N),(124,Ze9 N),(65,Zb6 N),(288,Zeu N),(55,Z1 N)]⟩
theorem Z3t:Wc Tryz.prog 279:=Wb Tryz.func279 (show Wg Tryz.f279 = true by kernel_rfl)
theorem Z3u (N:Nat):Good Tryz.prog 279 (Zog N):=GF Z3s N Tryz.func279 (Wa (Zhw N) Zhv (Wa (Zhk N) Zhj (Wa (Zdv N) Zdu (Wa (Zhu N) Zht (Wa (Zab N) Zaa We))))) (by kernel_rfl) (fun d=>by kernel_rfl)
def Zkr (N:Nat):Sig:=Sig.of [.v Ju true,.v (.prod Ja Jr) true] [.v Jag true,.v Jd true] (fun d=>Zit N d.1 d.2.1)
def Zxe:Fn:=⟨Tryz.f239,Wz,Zkr,fun N=>[(123,Zev N),(272,Zh3 N),(124,Ze9 N),(273,Zi1 N),(275,Zpe N),(276,Zka N),(274,Zfv N),(57,Zpf N),(277,Zgh N),(278,Zoy N),(279,Zog N)]⟩
theorem Zxf:Wc Tryz.prog 239:=Wb Tryz.func239 (show Wg Tryz.f239 = true by kernel_rfl)
theorem Zxg (N:Nat):Good Tryz.prog 239 (Zkr N):=GF Zxe N Tryz.func239 (Wa (Zhw N) Zhv (Wa (Zok N) Zoj (Wa (Zhk N) Zhj (Wa (Zpr N) Zpq (Wa (Z4x N) Z4w (Wa (Zvd N) Zvc (Wa (Zlw N) Zlv (Wa (Z40 N) Z4z (Wa (Zme N) Zmd (Wa (Z4o N) Z4n (Wa (Z3u N) Z3t We))))))))))) (by kernel_rfl) (fun d=>by kernel_rfl)
def Zjf (N:Nat):Sig:=Sig.of [.box Jw,.v Ja false] [] (fun d=>Zgk N d.1 d.2.1)
def Zs6:Fn:=⟨Tryz.f205,fun | 0=>[.opn 13] | _=>[],Zjf,fun N=>[(238,Zj9 N),(198,Zc6 N),(239,Zkr N),(222,Zdk N)]⟩
theorem Zs7:Wc Tryz.prog 205:=Wb Tryz.func205 (show Wg Tryz.f205 = true by kernel_rfl)
theorem Zs8 (N:Nat):Good Tryz.prog 205 (Zjf N):=GF Zs6 N Tryz.func205 (Wa (Zva N) Zu9 (Wa (Zg1 N) Zg0 (Wa (Zxg N) Zxf (Wa (Zhc N) Zhb We)))) (by kernel_rfl) (fun d=>by kernel_rfl)
def Zh4 (N:Nat):Sig:=Sig.of [.v Jl true,.box Ja] [.v Jp false] (fun d=>Zf3 N d.1 d.2.1)
def Zxh:Fn:=⟨Tryz.f243,Wz,Zh4,Wci⟩
theorem Zol:Wc Tryz.prog 243:=Wb Tryz.func243 (show Wg Tryz.f243 = true by kernel_rfl)
theorem Zom (N:Nat):Good Tryz.prog 243 (Zh4 N):=GF Zxh N Tryz.func243 We (by kernel_rfl) (fun d=>by kernel_rfl)
def Zas (N:Nat):Sig:=Sig.of [.v Je false,.clos 243 1,.box Ja] [.v Ja false] (fun d=>Zo N d.1 d.2.1)
def Z8:Fn:=⟨Tryz.f282,fun | 2=>[.canon [0,1,7,8,9]] | 3=>[.canon [0,1,5,7,8]] | 4=>[.canon [0,1,5,7,8,16]] | 5=>[.canon [1,4]] | 6=>[.canon [0,1,7,8]] | 100002=>[.canon [0,1,7,8]] | _=>[],Zas,fun N=>[(243,Zh4 N)]⟩
def Zew (s3:List Kb) (t5:Int) (b6:Int):St:=⟨[(0,vV Je s3),(1,.s (.one (.clos 243 [0]))),(7,vI (ilen s3)),(8,vI t5)],[(0,.box [.val Ja b6])],1⟩
def Zed (s3:List Kb) (t9:Int) (b10:Int):St:=⟨[(1,.s (.one (.clos 243 [0]))),(4,vI t9)],[(0,.box [.val Ja b10])],1⟩
def Zee (s3:List Kb) (t11:Int) (t12:Bool) (b13:Int):St:=⟨[(0,vV Je s3),(1,.s (.one (.clos 243 [0]))),(7,vI (ilen s3)),(8,vI t11),(9,vB t12)],[(0,.box [.val Ja b13])],1⟩
theorem Zex (N:Nat) {R:Type} (K:Ex → St → Option R) {s3:List Kb} {K0:Int → Int → Option R} {K1:Int → Bool → Int → Option R} (h0:K0 = fun t9 b10=>K .ret (Zed s3 t9 b10)) (h1:K1 = fun t11 t12 b13=>K (.exit 0) (Zee s3 t11 t12 b13)) (n:Nat) (t5:Int) (b6:Int):Zl N s3 K0 K1 n t5 b6 = LM Z8 N 0 100002 n (Zew s3 t5 b6) K:=by
  subst h0 h1
  induction n generalizing t5 b6 with
  | zero=>kernel_rfl
  | succ n ih=>rw [Zl]; simp (disch:=exact id (by kernel_rfl)) only [ih]; kernel_rfl
theorem Zfw:Wc Tryz.prog 282:=Wb Tryz.func282 (show Wg Tryz.f282 = true by kernel_rfl)
theorem Zfx (N:Nat) (s1:List Kb) (cap2:Int):DN Z8 N (s1,cap2,()) = Zo N s1 cap2:=by
  have h:Zo N s1 cap2 = Zo N s1 cap2:=rfl
  conv at h=>rhs; rw [Zo]
  simp (disch:=exact id (by kernel_rfl)) only [Zex (R:=Ki × Ki) N (CF Z8 N [1,0,1,0])] at h
  exact Eq.trans (by kernel_rfl) h.symm
theorem Zfy (N:Nat):Good Tryz.prog 282 (Zas N):=GF Z8 N Tryz.func282 (Wa (Zom N) Zol We) (by kernel_rfl) (fun d=>Zfx N d.1 d.2.1)
def Zap (N:Nat):Sig:=Sig.of [.v (.own Jl) false,.clos 243 1,.box Ja] [.v (.own Jl) false] (fun d=>Zh N d.1 d.2.1)
def Z5:Fn:=⟨Tryz.f242,fun | 5=>[.canon [0,1,5,6,19]] | 6=>[.canon [0,1,5,6]] | 7=>[.canon [0,1,5,6,7]] | 8=>[.canon [0,1,5,6,7,29]] | 9=>[.canon [0,1,5,6]] | 10=>[.canon [0,1,5,6]] | 11=>[.view 38] | 100005=>[.canon [0,1,5,6]] | _=>[],Zap,fun N=>[(282,Zas N),(243,Zh4 N)]⟩
def Zef (i4:Int) (j5:Int) (l6:List Kb) (b7:Int):St:=⟨[(0,vO 0),(1,.s (.one (.clos 243 [1]))),(5,vI i4),(6,vI j5)],[(0,.arr Jl l6),(1,.box [.val Ja b7])],2⟩
def Zd3 (i9:Int) (j10:Int) (t11:Bool) (l12:List Kb) (b13:Int):St:=⟨[(0,vO 0),(1,.s (.one (.clos 243 [1]))),(5,vI i9),(6,vI j10),(19,vB t11)],[(0,.arr Jl l12),(1,.box [.val Ja b13])],2⟩
theorem Zeg (N:Nat) {R:Type} (K:Ex → St → Option R) {K0:Int → Int → Bool → Kn → Int → Option R} (h0:K0 = fun i9 j10 t11 l12 b13=>K (.exit 0) (Zd3 i9 j10 t11 l12 b13)) (n:Nat) (i4:Int) (j5:Int) (l6:List Kb) (b7:Int):Zd N K0 n i4 j5 l6 b7 = LM Z5 N 0 100005 n (Zef i4 j5 l6 b7) K:=by
  subst h0
  induction n generalizing i4 j5 l6 b7 with
  | zero=>kernel_rfl
  | succ n ih=>rw [Zd]; simp (disch:=exact id (by kernel_rfl)) only [ih]; kernel_rfl
theorem Zfh:Wc Tryz.prog 242:=Wb Tryz.func242 (show Wg Tryz.f242 = true by kernel_rfl)
theorem Zfi (N:Nat) (s1:List Kb) (cap2:Int):DN Z5 N (s1,cap2,()) = Zh N s1 cap2:=by
  have h:Zh N s1 cap2 = Zh N s1 cap2:=rfl
  conv at h=>rhs; rw [Zh]
  simp (disch:=exact id (by kernel_rfl)) only [Zeg (R:=Ki × (Kn × Unit)) N (CF Z5 N [1,1,1,0,1,0])] at h
  exact Eq.trans (by kernel_rfl) h.symm
theorem Zfj (N:Nat):Good Tryz.prog 242 (Zap N):=GF Z5 N Tryz.func242 (Wa (Zfy N) Zfw (Wa (Zom N) Zol We)) (by kernel_rfl) (fun d=>Zfi N d.1 d.2.1)
def Zmn (N:Nat):Sig:=Sig.of [.v Je false,.v Ja false] [.v (.own Jl) false] (fun d=>Zkx N d.1 d.2.1)
def Z0b:Fn:=⟨Tryz.f206,Wz,Zmn,fun N=>[(240,Zio N),(241,Zgo N),(242,Zap N)]⟩
theorem Z0c:Wc Tryz.prog 206:=Wb Tryz.func206 (show Wg Tryz.f206 = true by kernel_rfl)
theorem Z0d (N:Nat):Good Tryz.prog 206 (Zmn N):=GF Z0b N Tryz.func206 (Wa (Zo9 N) Zo8 (Wa (Zj0 N) Zjz (Wa (Zfj N) Zfh We))) (by kernel_rfl) (fun d=>by kernel_rfl)
def Zks (N:Nat):Sig:=Sig.of [.box Jw,.v Ja false,.v Jn true] [] (fun d=>Zha N d.1 d.2.1 d.2.2.1)
def Zxi:Fn:=⟨Tryz.f155,fun | 1=>[.opn 12] | _=>[],Zks,fun N=>[(55,Z1 N),(198,Zc6 N),(199,Zkp N),(200,Zls N),(201,Zlu N),(202,Zg5 N),(203,Zh2 N),(204,Zje N),(205,Zjf N),(206,Zmn N),(207,Zik N)]⟩
theorem Zxj:Wc Tryz.prog 155:=Wb Tryz.func155 (show Wg Tryz.f155 = true by kernel_rfl)
theorem Zxk (N:Nat):Good Tryz.prog 155 (Zks N):=GF Zxi N Tryz.func155 (Wa (Zab N) Zaa (Wa (Zg1 N) Zg0 (Wa (Zw0 N) Zwy (Wa (Zy4 N) Zy3 (Wa (Zza N) Zy9 (Wa (Znt N) Zns (Wa (Zoi N) Zoh (Wa (Zs1 N) Zs0 (Wa (Zs8 N) Zs7 (Wa (Z0d N) Z0c (Wa (Zo1 N) Zo0 We))))))))))) (by kernel_rfl) (fun d=>by kernel_rfl)
def Zh5 (N:Nat):Sig:=Sig.of [.v Jl true,.box Ja] [.v Jp false] (fun d=>Zi7 N d.1 d.2.1)
def Zqm:Fn:=⟨Tryz.f179,Wz,Zh5,Wci⟩
theorem Zqn:Wc Tryz.prog 179:=Wb Tryz.func179 (show Wg Tryz.f179 = true by kernel_rfl)
theorem Zqo (N:Nat):Good Tryz.prog 179 (Zh5 N):=GF Zqm N Tryz.func179 We (by kernel_rfl) (fun d=>by kernel_rfl)
def Zaj (N:Nat):Sig:=Sig.of [.v Je false,.clos 179 1,.box Ja] [.v Ja false] (fun d=>Ze N d.1 d.2.1)
def Z0:Fn:=⟨Tryz.f178,fun | 2=>[.canon [0,1,7,8,9]] | 3=>[.canon [0,1,5,7,8]] | 4=>[.canon [0,1,5,7,8,16]] | 5=>[.canon [1,4]] | 6=>[.canon [0,1,7,8]] | 100002=>[.canon [0,1,7,8]] | _=>[],Zaj,fun N=>[(179,Zh5 N)]⟩
def Zde (s3:List Kb) (t5:Int) (b6:Int):St:=⟨[(0,vV Je s3),(1,.s (.one (.clos 179 [0]))),(7,vI (ilen s3)),(8,vI t5)],[(0,.box [.val Ja b6])],1⟩
def Zc7 (s3:List Kb) (t9:Int) (b10:Int):St:=⟨[(1,.s (.one (.clos 179 [0]))),(4,vI t9)],[(0,.box [.val Ja b10])],1⟩
def Zc8 (s3:List Kb) (t11:Int) (t12:Bool) (b13:Int):St:=⟨[(0,vV Je s3),(1,.s (.one (.clos 179 [0]))),(7,vI (ilen s3)),(8,vI t11),(9,vB t12)],[(0,.box [.val Ja b13])],1⟩
theorem Zdf (N:Nat) {R:Type} (K:Ex → St → Option R) {s3:List Kb} {K0:Int → Int → Option R} {K1:Int → Bool → Int → Option R} (h0:K0 = fun t9 b10=>K .ret (Zc7 s3 t9 b10)) (h1:K1 = fun t11 t12 b13=>K (.exit 0) (Zc8 s3 t11 t12 b13)) (n:Nat) (t5:Int) (b6:Int):Zg N s3 K0 K1 n t5 b6 = LM Z0 N 0 100002 n (Zde s3 t5 b6) K:=by
  subst h0 h1
  induction n generalizing t5 b6 with
  | zero=>kernel_rfl
  | succ n ih=>rw [Zg]; simp (disch:=exact id (by kernel_rfl)) only [ih]; kernel_rfl
theorem Zd4:Wc Tryz.prog 178:=Wb Tryz.func178 (show Wg Tryz.f178 = true by kernel_rfl)
theorem Zd5 (N:Nat) (s1:List Kb) (cap2:Int):DN Z0 N (s1,cap2,()) = Ze N s1 cap2:=by
  have h:Ze N s1 cap2 = Ze N s1 cap2:=rfl
  conv at h=>rhs; rw [Ze]
  simp (disch:=exact id (by kernel_rfl)) only [Zdf (R:=Ki × Ki) N (CF Z0 N [1,0,1,0])] at h
  exact Eq.trans (by kernel_rfl) h.symm
theorem Zd6 (N:Nat):Good Tryz.prog 178 (Zaj N):=GF Z0 N Tryz.func178 (Wa (Zqo N) Zqn We) (by kernel_rfl) (fun d=>Zd5 N d.1 d.2.1)
def Zfd (N:Nat):Sig:=Sig.of [.rp (TY_Family),.v Ja false] [.v Ja false] (fun d=>Zcn N d.1 d.2.1)
def Zs9:Fn:=⟨Tryz.f121,Wz,Zfd,fun N=>[(178,Zaj N)]⟩
theorem Zjg:Wc Tryz.prog 121:=Wb Tryz.func121 (show Wg Tryz.f121 = true by kernel_rfl)
theorem Zjh (N:Nat):Good Tryz.prog 121 (Zfd N):=GF Zs9 N Tryz.func121 (Wa (Zd6 N) Zd4 We) (by kernel_rfl) (fun d=>by kernel_rfl)
def Zgi (N:Nat):Sig:=Sig.of [.box Jz,.v Ja false] [] (fun d=>Zbh N d.1 d.2.1)
def Zqp:Fn:=⟨Tryz.f122,Wz,Zgi,fun N=>[(72,Z4 N)]⟩
theorem Zmf:Wc Tryz.prog 122:=Wb Tryz.func122 (show Wg Tryz.f122 = true by kernel_rfl)
theorem Zmg (N:Nat):Good Tryz.prog 122 (Zgi N):=GF Zqp N Tryz.func122 (Wa (Zag N) Zaf We) (by kernel_rfl) (fun d=>by kernel_rfl)
def Zkb (N:Nat):Sig:=Sig.of [.box Jz,.v Ja false,.v Jy true,.v Ju true] [] (fun d=>Zh9 N d.1 d.2.1 d.2.2.1 d.2.2.2.1)
def Zve:Fn:=⟨Tryz.f173,fun | 1=>[.opn 18] | _=>[],Zkb,fun N=>[(172,Zkk N),(121,Zfd N),(122,Zgi N),(220,Ziz N),(221,Zil N)]⟩
theorem Zvf:Wc Tryz.prog 173:=Wb Tryz.func173 (show Wg Tryz.f173 = true by kernel_rfl)
theorem Zvg (N:Nat):Good Tryz.prog 173 (Zkb N):=GF Zve N Tryz.func173 (Wa (Zpd N) Zpc (Wa (Zjh N) Zjg (Wa (Zmg N) Zmf (Wa (Zpn N) Zpm (Wa (Zo3 N) Zo2 We))))) (by kernel_rfl) (fun d=>by kernel_rfl)
def Zji (N:Nat):Sig:=Sig.of [.box Ji,.v Jc false] [] (fun d=>Zhx N d.1 d.2.1)
def Zta:Fn:=⟨Tryz.f174,fun | 5=>[.opn 28] | _=>[],Zji,fun N=>[(72,Z4 N),(222,Zdk N),(223,Zmb N)]⟩
theorem Ztb:Wc Tryz.prog 174:=Wb Tryz.func174 (show Wg Tryz.f174 = true by kernel_rfl)
theorem Ztc (N:Nat):Good Tryz.prog 174 (Zji N):=GF Zta N Tryz.func174 (Wa (Zag N) Zaf (Wa (Zhc N) Zhb (Wa (Zsp N) Zso We))) (by kernel_rfl) (fun d=>by kernel_rfl)
def Zkt (N:Nat):Sig:=Sig.of [.box Jz,.v Ja false,.v Jc false,.v Ju true] [] (fun d=>Ziq N d.1 d.2.1 d.2.2.1 d.2.2.2.1)
def Zxl:Fn:=⟨Tryz.f119,fun | 1=>[.opn 16] | 18=>[.nest 128 Jv] | _=>[],Zkt,fun N=>[(173,Zkb N),(174,Zji N),(72,Z4 N),(175,Zm4 N)]⟩
theorem Zxm:Wc Tryz.prog 119:=Wb Tryz.func119 (show Wg Tryz.f119 = true by kernel_rfl)
theorem Zxn (N:Nat):Good Tryz.prog 119 (Zkt N):=GF Zxl N Tryz.func119 (Wa (Zvg N) Zvf (Wa (Ztc N) Ztb (Wa (Zag N) Zaf (Wa (Zvr N) Zvq We)))) (by kernel_rfl) (fun d=>by kernel_rfl)
def Zbd (N:Nat):Sig:=Sig.of [.mut Jl,.clos 177 0] [] (fun d=>Zal N d.1)
theorem Zeh:Wc Tryz.prog 176:=Wb Tryz.func176 (show Wg Tryz.f176 = true by kernel_rfl)
theorem Zei:CmpOk Tryz.prog 177 Jl rngE cfE:=by
  intro G x y us vs w hx hy h1 h2
  obtain ⟨_,_,rfl,a1,_,_,rfl,a2,a3⟩:=h1
  obtain ⟨_,_,rfl,b1,_,_,rfl,b2,b3⟩:=h2
  simp only [Enc] at a1 a2 a3 b1 b2 b3
  subst a1 a2 a3 b1 b2 b3
  simp only [List.cons_append,List.nil_append]
  go_enter Tryz.func177,Tryz.ntmps177
  go_wp2
  rw [sub_run (Wnm hx) (Wnm hy) (c:=cfE x y) rfl]
  go_wp2
  go_ret
  exact ⟨rfl,two_grow _ _ _⟩
theorem Zej (N:Nat):Good Tryz.prog 176 (Zbd N):=good_sortF sortFE (e:=.prod Ja Jx) rfl (by decide) Tryz.isAgg127 Tryz.sizeOf127 (enters_of Tryz.func177 (by kernel_rfl) rfl) swoE Zei N
def Zjj (N:Nat):Sig:=Sig.of [.box Jz,.v Ja false] [] (fun d=>Zbt N d.1 d.2.1)
def Zcx:Fn:=⟨Tryz.f120,fun | 0=>[.opn 16] | 3=>[.canon [0,1,4,28,29,30,31]] | 4=>[.canon [0,1,4,6,28,29,30]] | 5=>[.canon [0,1,4,6,7,28,29,30]] | 6=>[.canon [0,1,4,7,8,28,29,30]] | 7=>[.canon [0,1,4,7,8,28,29,30,48]] | 8=>[.canon [0,1,4,28,29,30]] | 9=>[.canon [0,1,4,28,29,30]] | 10=>[.canon [0,1,4,28,29,30]] | 13=>[.canon [0,1,4,75,76,77,78]] | 14=>[.canon [0,1,4,10,75,76,77]] | 15=>[.canon [0,1,4,10,75,76,77,83]] | 16=>[.canon [0,1,4,75,76,77]] | 17=>[.canon [0,1,4,75,76,77]] | 100003=>[.canon [0,1,4,28,29,30]] | 100013=>[.canon [0,1,4,75,76,77]] | _=>[],Zjj,fun N=>[(118,Zjd N),(121,Zfd N),(176,Zbd N)]⟩
def Zpt (k4:Int) (t5:Int) (t6:Int) (b7:Int) (b8:Int) (b9:Int) (b10:Bool) (b11:Int) (b12:Int) (b13:Int) (b14:Int) (b15:Int) (b16:Int) (b17:Bool) (b18:Int) (b19:Int) (b20:Int) (b21:Int) (l22:List Kc) (l23:List Int) (l24:List Kc) (l25:List Kb) (l26:List Int) (l27:List Kc) (l28:List Y_KidRun) (i29:Nat) (l30:List Int) (l31:List Kb) (l32:List Kc) (l33:List Kh):St:=⟨[(0,vP 0 0),(1,vI k4),(4,vP 1 0),(28,vO 2),(29,vI t5),(30,vI t6)],[(0,.box [.val Ja b7,.val Ja b8,.val Ja b9,.val Jp b10,.own 3,.own 4,.own 5,.own 6,.own 7,.own 8]),(1,.box [.val Ja b11,.val Ja b12,.val Ja b13,.val Ja b14,.val Ja b15,.val Ja b16,.own 9,.own 10,.own 11,.own 12,.val Jp b17,.val Ja b18,.val Ja b19,.val Ja b20,.val Ja b21]),(2,.arr Jx l22),(3,.arr Ja l23),(4,.arr Jx l24),(5,.arr Jl l25),(6,.arr Ja l26),(7,.arr Jx l27),(8,.hole Ji l28 i29 1),(9,.arr Ja l30),(10,.arr Jl l31),(11,.arr Jx l32),(12,.arr Jv l33)],13⟩
def Zpg (k4:Int) (t5:Int) (b7:Int) (b8:Int) (b9:Int) (b10:Bool) (b11:Int) (b12:Int) (b13:Int) (b14:Int) (b15:Int) (b16:Int) (b17:Bool) (b18:Int) (b19:Int) (b20:Int) (b21:Int) (l22:List Kc) (l23:List Int) (l24:List Kc) (l26:List Int) (l27:List Kc) (l28:List Y_KidRun) (i29:Nat) (l30:List Int) (l31:List Kb) (l32:List Kc) (l33:List Kh) (t35:Int) (t36:Bool) (l37:List Kb):St:=⟨[(0,vP 0 0),(1,vI k4),(4,vP 1 0),(28,vO 2),(29,vI t5),(30,vI t35),(31,vB t36)],[(0,.box [.val Ja b7,.val Ja b8,.val Ja b9,.val Jp b10,.own 3,.own 4,.own 5,.own 6,.own 7,.own 8]),(1,.box [.val Ja b11,.val Ja b12,.val Ja b13,.val Ja b14,.val Ja b15,.val Ja b16,.own 9,.own 10,.own 11,.own 12,.val Jp b17,.val Ja b18,.val Ja b19,.val Ja b20,.val Ja b21]),(2,.arr Jx l22),(3,.arr Ja l23),(4,.arr Jx l24),(5,.arr Jl l37),(6,.arr Ja l26),(7,.arr Jx l27),(8,.hole Ji l28 i29 1),(9,.arr Ja l30),(10,.arr Jl l31),(11,.arr Jx l32),(12,.arr Jv l33)],13⟩
theorem Zpu (N:Nat) {R:Type} (K:Ex → St → Option R) {k4:Int} {t5:Int} {b7:Int} {b8:Int} {b9:Int} {b10:Bool} {b11:Int} {b12:Int} {b13:Int} {b14:Int} {b15:Int} {b16:Int} {b17:Bool} {b18:Int} {b19:Int} {b20:Int} {b21:Int} {l22:List Kc} {l23:List Int} {l24:List Kc} {l26:List Int} {l27:List Kc} {l28:List Y_KidRun} {i29:Nat} {l30:List Int} {l31:List Kb} {l32:List Kc} {l33:List Kh} {K0:Int → Bool → Kn → Option R} (h0:K0 = fun t35 t36 l37=>K (.exit 0) (Zpg k4 t5 b7 b8 b9 b10 b11 b12 b13 b14 b15 b16 b17 b18 b19 b20 b21 l22 l23 l24 l26 l27 l28 i29 l30 l31 l32 l33 t35 t36 l37)) (n:Nat) (t6:Int) (l25:List Kb):Zax N k4 t5 b7 b8 b9 b10 b11 b12 b13 b14 b15 b16 b17 b18 b19 b20 b21 l22 l23 l24 l26 l27 l28 i29 l30 l31 l32 l33 K0 n t6 l25 = LM Zcx N 0 100003 n (Zpt k4 t5 t6 b7 b8 b9 b10 b11 b12 b13 b14 b15 b16 b17 b18 b19 b20 b21 l22 l23 l24 l25 l26 l27 l28 i29 l30 l31 l32 l33) K:=by
  subst h0
  induction n generalizing t6 l25 with
  | zero=>kernel_rfl
  | succ n ih=>rw [Zax]; simp (disch:=exact id (by kernel_rfl)) only [ih]; kernel_rfl
def Zpv (k43:Int) (t44:Int) (t45:Int) (b46:Int) (b47:Int) (b48:Int) (b49:Bool) (b50:Int) (b51:Int) (b52:Int) (b53:Int) (b54:Int) (b55:Int) (b56:Bool) (b57:Int) (b58:Int) (b59:Int) (b60:Int) (l61:List Kb) (l62:List Int) (l63:List Kc) (l64:List Kb) (l65:List Int) (l66:List Kc) (l67:List Y_KidRun) (i68:Nat) (l69:List Int) (l70:List Kc) (l71:List Kh):St:=⟨[(0,vP 0 0),(1,vI k43),(4,vP 1 0),(75,vO 2),(76,vI t44),(77,vI t45)],[(0,.box [.val Ja b46,.val Ja b47,.val Ja b48,.val Jp b49,.own 3,.own 4,.own 5,.own 6,.own 7,.own 8]),(1,.box [.val Ja b50,.val Ja b51,.val Ja b52,.val Ja b53,.val Ja b54,.val Ja b55,.own 9,.own 2,.own 10,.own 11,.val Jp b56,.val Ja b57,.val Ja b58,.val Ja b59,.val Ja b60]),(2,.arr Jl l61),(3,.arr Ja l62),(4,.arr Jx l63),(5,.arr Jl l64),(6,.arr Ja l65),(7,.arr Jx l66),(8,.hole Ji l67 i68 1),(9,.arr Ja l69),(10,.arr Jx l70),(11,.arr Jv l71)],12⟩
def Zph (k43:Int) (t44:Int) (b46:Int) (b47:Int) (b48:Int) (b49:Bool) (b50:Int) (b51:Int) (b52:Int) (b53:Int) (b54:Int) (b55:Int) (b56:Bool) (b57:Int) (b58:Int) (b59:Int) (b60:Int) (l61:List Kb) (l62:List Int) (l63:List Kc) (l64:List Kb) (l65:List Int) (l67:List Y_KidRun) (i68:Nat) (l69:List Int) (l70:List Kc) (l71:List Kh) (t72:Int) (t73:Bool) (l74:List Kc):St:=⟨[(0,vP 0 0),(1,vI k43),(4,vP 1 0),(75,vO 2),(76,vI t44),(77,vI t72),(78,vB t73)],[(0,.box [.val Ja b46,.val Ja b47,.val Ja b48,.val Jp b49,.own 3,.own 4,.own 5,.own 6,.own 7,.own 8]),(1,.box [.val Ja b50,.val Ja b51,.val Ja b52,.val Ja b53,.val Ja b54,.val Ja b55,.own 9,.own 2,.own 10,.own 11,.val Jp b56,.val Ja b57,.val Ja b58,.val Ja b59,.val Ja b60]),(2,.arr Jl l61),(3,.arr Ja l62),(4,.arr Jx l63),(5,.arr Jl l64),(6,.arr Ja l65),(7,.arr Jx l74),(8,.hole Ji l67 i68 1),(9,.arr Ja l69),(10,.arr Jx l70),(11,.arr Jv l71)],12⟩
theorem Zpw (N:Nat) {R:Type} (K:Ex → St → Option R) {k43:Int} {t44:Int} {b46:Int} {b47:Int} {b48:Int} {b49:Bool} {b50:Int} {b51:Int} {b52:Int} {b53:Int} {b54:Int} {b55:Int} {b56:Bool} {b57:Int} {b58:Int} {b59:Int} {b60:Int} {l61:List Kb} {l62:List Int} {l63:List Kc} {l64:List Kb} {l65:List Int} {l67:List Y_KidRun} {i68:Nat} {l69:List Int} {l70:List Kc} {l71:List Kh} {K0:Int → Bool → (List Kc) → Option R} (h0:K0 = fun t72 t73 l74=>K (.exit 2) (Zph k43 t44 b46 b47 b48 b49 b50 b51 b52 b53 b54 b55 b56 b57 b58 b59 b60 l61 l62 l63 l64 l65 l67 i68 l69 l70 l71 t72 t73 l74)) (n:Nat) (t45:Int) (l66:List Kc):Za8 N k43 t44 b46 b47 b48 b49 b50 b51 b52 b53 b54 b55 b56 b57 b58 b59 b60 l61 l62 l63 l64 l65 l67 i68 l69 l70 l71 K0 n t45 l66 = LM Zcx N 1 100013 n (Zpv k43 t44 t45 b46 b47 b48 b49 b50 b51 b52 b53 b54 b55 b56 b57 b58 b59 b60 l61 l62 l63 l64 l65 l66 l67 i68 l69 l70 l71) K:=by
  subst h0
  induction n generalizing t45 l66 with
  | zero=>kernel_rfl
  | succ n ih=>rw [Za8]; simp (disch:=exact id (by kernel_rfl)) only [ih]; kernel_rfl
theorem Ztd:Wc Tryz.prog 120:=Wb Tryz.func120 (show Wg Tryz.f120 = true by kernel_rfl)
theorem Zte (N:Nat) (f1:Y_Family) (k2:Int):DN Zcx N (f1,k2,()) = Zbt N f1 k2:=by
  have h:Zbt N f1 k2 = Zbt N f1 k2:=rfl
  conv at h=>rhs; rw [Zbt]
  simp (disch:=exact id (by kernel_rfl)) only [Zpu (R:=(Y_Family × Unit) × Unit) N (CF Zcx N [1,1,0,1,0]),Zpw (R:=(Y_Family × Unit) × Unit) N (CF Zcx N [1,1,1,1,0,1,0])] at h
  exact Eq.trans (by kernel_rfl) h.symm
theorem Ztf (N:Nat):Good Tryz.prog 120 (Zjj N):=GF Zcx N Tryz.func120 (Wa (Zoa N) Zn9 (Wa (Zjh N) Zjg (Wa (Zej N) Zeh We))) (by kernel_rfl) (fun d=>Zte N d.1 d.2.1)
def Zkc (N:Nat):Sig:=Sig.of [.box Jz,.v Ja false,.v Jc false,.v Ju true] [] (fun d=>Zia N d.1 d.2.1 d.2.2.1 d.2.2.2.1)
def Zvh:Fn:=⟨Tryz.f56,fun | 2=>[.opn 20] | _=>[],Zkc,fun N=>[(119,Zkt N),(120,Zjj N),(121,Zfd N),(122,Zgi N)]⟩
theorem Zvi:Wc Tryz.prog 56:=Wb Tryz.func56 (show Wg Tryz.f56 = true by kernel_rfl)
theorem Zvj (N:Nat):Good Tryz.prog 56 (Zkc N):=GF Zvh N Tryz.func56 (Wa (Zxn N) Zxm (Wa (Ztf N) Ztd (Wa (Zjh N) Zjg (Wa (Zmg N) Zmf We)))) (by kernel_rfl) (fun d=>by kernel_rfl)
def Zlx (N:Nat):Sig:=Sig.of [.box Jw,.v Jaa true,.v Jl true] [] (fun d=>Zjm N d.1 d.2.1 d.2.2.1)
def Zzb:Fn:=⟨Tryz.f104,fun | 3=>[.unfE 6] | _=>[],Zlx,fun N=>[(55,Z1 N),(155,Zks N),(56,Zkc N)]⟩
theorem Zzc:Wc Tryz.prog 104:=Wb Tryz.func104 (show Wg Tryz.f104 = true by kernel_rfl)
theorem Zzd (N:Nat):Good Tryz.prog 104 (Zlx N):=GF Zzb N Tryz.func104 (Wa (Zab N) Zaa (Wa (Zxk N) Zxj (Wa (Zvj N) Zvi We))) (by kernel_rfl) (fun d=>by kernel_rfl)
def Znq (N:Nat):Sig:=Sig.of [.v Jaa true] [.v (TY_World) true] (fun d=>Za2 N d.1)
def Zkd:Fn:=⟨Tryz.f36,fun | 3=>[.nest 21 Jae] | 6=>[.canon [1,2,3,32,33,34,35]] | 7=>[.canon [1,2,3,5,32,33,34]] | 8=>[.canon [1,2,3,32,33,34]] | 9=>[.canon [1,2,3,32,33,34]] | 100006=>[.adoptC 3 6 Jl,.adoptC 3 8 Jab,.canon [1,2,3,32,33,34]] | _=>[],Znq,fun N=>[(103,Zml N),(107,Zlp N),(53,Zn7 N),(104,Zlx N)]⟩
def Zvk (t5:List Kb) (t7:Int) (b8:Kg × List Kk × List Kb) (b13:Int) (b14:Int) (b15:Int) (b16:Int) (l17:List Kb) (l18:List Int) (l19:List Kb) (l20:List Y_Root) (l21:List Kl):St:=⟨[(1,vP 0 0),(2,vP 1 0),(3,vP 2 0),(32,vV Je t5),(33,vI (ilen b8.2.2)),(34,vI t7)],[(0,.box [.val Jj b8.1.1,.val Jj b8.1.2.1,.val Ja b8.1.2.2,.val Jah b8.2.1,.val Je b8.2.2]),(1,.box [.val Ja (0:Int),.val Ja (0:Int),.val Ja (0:Int),.nils,.nils,.val Ja (0:Int),.nils,.nils,.nils]),(2,.box [.val Ja b13,.val Ja b14,.val Ja b15,.own 3,.own 4,.val Ja b16,.own 5,.own 6,.own 7]),(3,.arr Jl l17),(4,.arr Ja l18),(5,.arr Jl l19),(6,.arr Jae l20),(7,.arr Jab l21)],8⟩
def Ztg (t5:List Kb) (b8:Kg × List Kk × List Kb) (t24:Int) (t25:Bool) (b26:Int) (b27:Int) (b28:Int) (b29:Int) (l30:List Kb) (l31:List Int) (l32:List Kb) (l33:List Y_Root) (l34:List Kl):St:=⟨[(1,vP 0 0),(2,vP 1 0),(3,vP 2 0),(32,vV Je t5),(33,vI (ilen b8.2.2)),(34,vI t24),(35,vB t25)],[(0,.box [.val Jj b8.1.1,.val Jj b8.1.2.1,.val Ja b8.1.2.2,.val Jah b8.2.1,.val Je b8.2.2]),(1,.box [.val Ja (0:Int),.val Ja (0:Int),.val Ja (0:Int),.nils,.nils,.val Ja (0:Int),.nils,.nils,.nils]),(2,.box [.val Ja b26,.val Ja b27,.val Ja b28,.own 3,.own 4,.val Ja b29,.own 5,.own 6,.own 7]),(3,.arr Jl l30),(4,.arr Ja l31),(5,.arr Jl l32),(6,.arr Jae l33),(7,.arr Jab l34)],8⟩
theorem Zvl (N:Nat) {R:Type} (K:Ex → St → Option R) {t5:List Kb} {b8:Kg × List Kk × List Kb} {K0:Int → Bool → Int → Int → Int → Int → Kn → Kj → Kn → (List Y_Root) → (List Kl) → Option R} (h0:K0 = fun t24 t25 b26 b27 b28 b29 l30 l31 l32 l33 l34=>K (.exit 0) (Ztg t5 b8 t24 t25 b26 b27 b28 b29 l30 l31 l32 l33 l34)) (n:Nat) (t7:Int) (b13:Int) (b14:Int) (b15:Int) (b16:Int) (l17:List Kb) (l18:List Int) (l19:List Kb) (l20:List Y_Root) (l21:List Kl):Zau N t5 b8 K0 n t7 b13 b14 b15 b16 l17 l18 l19 l20 l21 = LM Zkd N 0 100006 n (Zvk t5 t7 b8 b13 b14 b15 b16 l17 l18 l19 l20 l21) K:=by
  subst h0
  induction n generalizing t7 b13 b14 b15 b16 l17 l18 l19 l20 l21 with
  | zero=>kernel_rfl
  | succ n ih=>rw [Zau]; simp (disch:=exact id (by kernel_rfl)) only [ih]; kernel_rfl
theorem Z19:Wc Tryz.prog 36:=Wb Tryz.func36 (show Wg Tryz.f36 = true by kernel_rfl)
theorem Z2a (N:Nat) (s1:Kg × List Kk × List Kb):DN Zkd N (s1,()) = Za2 N s1:=by
  have h:Za2 N s1 = Za2 N s1:=rfl
  conv at h=>rhs; rw [Za2]
  simp (disch:=exact id (by kernel_rfl)) only [Zvl (R:=Unit × (Y_World × Unit)) N (CF Zkd N [1,1,1,1,0,1,0])] at h
  exact Eq.trans (by kernel_rfl) h.symm
theorem Z2b (N:Nat):Good Tryz.prog 36 (Znq N):=GF Zkd N Tryz.func36 (Wa (Zzw N) Zzv (Wa (Zyj N) Zyh (Wa (Z3g N) Z3e (Wa (Zzd N) Zzc We)))) (by kernel_rfl) (fun d=>Z2a N d.1)
def Zrn (N:Nat):Sig:=Sig.of [.v Jo false,.v Ja false] [.v Ja false] (fun d=>Zlh N d.1 d.2.1)
def Z45:Fn:=⟨Tryz.f39,Wz,Zrn,Wci⟩
theorem Z46:Wc Tryz.prog 39:=Wb Tryz.func39 (show Wg Tryz.f39 = true by kernel_rfl)
theorem Z47 (N:Nat):Good Tryz.prog 39 (Zrn N):=GF Z45 N Tryz.func39 We (by kernel_rfl) (fun d=>by kernel_rfl)
def Znr (N:Nat):Sig:=Sig.of [.v Ju true,.v Ju true] [.v Jp false] (fun d=>Za6 N d.1 d.2.1)
def Zke:Fn:=⟨Tryz.f43,fun | 4=>[.canon [2,3,5,24]] | 5=>[.canon [2,3,5]] | 6=>[.canon [2,3,5,37]] | 7=>[.canon [4]] | 100004=>[.canon [2,3,5]] | _=>[],Znr,Wci⟩
def Zvm (i3:Int) (b4:Int × List Kb) (b5:Int × List Kb):St:=⟨[(2,vP 0 0),(3,vP 1 0),(5,vI i3)],[(0,.box [.val Ja b4.1,.val Je b4.2]),(1,.box [.val Ja b5.1,.val Je b5.2])],2⟩
def Zth (b4:Int × List Kb) (b5:Int × List Kb):St:=⟨[(4,vB false)],[],0⟩
def Zti (b4:Int × List Kb) (b5:Int × List Kb) (i6:Int) (t7:Bool):St:=⟨[(2,vP 0 0),(3,vP 1 0),(5,vI i6),(24,vB t7)],[(0,.box [.val Ja b4.1,.val Je b4.2]),(1,.box [.val Ja b5.1,.val Je b5.2])],2⟩
theorem Zvn (N:Nat) {R:Type} (K:Ex → St → Option R) {b4:Int × List Kb} {b5:Int × List Kb} {K0:Option R} {K1:Int → Bool → Option R} (h0:K0 = K .ret (Zth b4 b5)) (h1:K1 = fun i6 t7=>K (.exit 0) (Zti b4 b5 i6 t7)) (n:Nat) (i3:Int):Zc4 N b4 b5 K0 K1 n i3 = LM Zke N 0 100004 n (Zvm i3 b4 b5) K:=by
  subst h0 h1
  induction n generalizing i3 with
  | zero=>kernel_rfl
  | succ n ih=>rw [Zc4]; simp (disch:=exact id (by kernel_rfl)) only [ih]; kernel_rfl
theorem Z2c:Wc Tryz.prog 43:=Wb Tryz.func43 (show Wg Tryz.f43 = true by kernel_rfl)
theorem Z2d (N:Nat) (a1:Int × List Kb) (b2:Int × List Kb):DN Zke N (a1,b2,()) = Za6 N a1 b2:=by
  have h:Za6 N a1 b2 = Za6 N a1 b2:=rfl
  conv at h=>rhs; rw [Za6]
  simp (disch:=exact id (by kernel_rfl)) only [Zvn (R:=Unit × Kf) N (CF Zke N [1,1,0,1,0])] at h
  exact Eq.trans (by kernel_rfl) h.symm
theorem Z2e (N:Nat):Good Tryz.prog 43 (Znr N):=GF Zke N Tryz.func43 We (by kernel_rfl) (fun d=>Z2d N d.1 d.2.1)
def Zly (N:Nat):Sig:=Sig.of [.v Je false,.v Je false] [.v Jp false] (fun d=>Zaq N d.1 d.2.1)
def Zip:Fn:=⟨Tryz.f44,fun | 4=>[.canon [0,1,5,14]] | 5=>[.canon [0,1,5]] | 6=>[.canon [0,1,5,25]] | 7=>[.canon [4]] | 100004=>[.canon [0,1,5]] | _=>[],Zly,Wci⟩
def Zro (a3:List Kb) (b4:List Kb) (i5:Int):St:=⟨[(0,vV Je a3),(1,vV Je b4),(5,vI i5)],[],0⟩
def Zqq (a3:List Kb) (b4:List Kb):St:=⟨[(4,vB false)],[],0⟩
def Zqr (a3:List Kb) (b4:List Kb) (i6:Int) (t7:Bool):St:=⟨[(0,vV Je a3),(1,vV Je b4),(5,vI i6),(14,vB t7)],[],0⟩
theorem Zrp (N:Nat) {R:Type} (K:Ex → St → Option R) {a3:List Kb} {b4:List Kb} {K0:Option R} {K1:Int → Bool → Option R} (h0:K0 = K .ret (Zqq a3 b4)) (h1:K1 = fun i6 t7=>K (.exit 0) (Zqr a3 b4 i6 t7)) (n:Nat) (i5:Int):Zcb N a3 b4 K0 K1 n i5 = LM Zip N 0 100004 n (Zro a3 b4 i5) K:=by
  subst h0 h1
  induction n generalizing i5 with
  | zero=>kernel_rfl
  | succ n ih=>rw [Zcb]; simp (disch:=exact id (by kernel_rfl)) only [ih]; kernel_rfl
theorem Zze:Wc Tryz.prog 44:=Wb Tryz.func44 (show Wg Tryz.f44 = true by kernel_rfl)
theorem Zzf (N:Nat) (a1:List Kb) (b2:List Kb):DN Zip N (a1,b2,()) = Zaq N a1 b2:=by
  have h:Zaq N a1 b2 = Zaq N a1 b2:=rfl
  conv at h=>rhs; rw [Zaq]
  simp (disch:=exact id (by kernel_rfl)) only [Zrp (R:=Unit × Kf) N (CF Zip N [1,1,0,1,0])] at h
  exact Eq.trans (by kernel_rfl) h.symm
theorem Zzg (N:Nat):Good Tryz.prog 44 (Zly N):=GF Zip N Tryz.func44 We (by kernel_rfl) (fun d=>Zzf N d.1 d.2.1)
def Zmo (N:Nat):Sig:=Sig.of [.v Jg false,.v Jg false] [.v Jp false] (fun d=>Zdr N d.1 d.2.1)
def Zi2:Fn:=⟨Tryz.f111,fun | 4=>[.canon [0,1,5,14]] | 5=>[.canon [0,1,5]] | 6=>[.canon [0,1,5,25]] | 7=>[.canon [4]] | 100004=>[.canon [0,1,5]] | _=>[],Zmo,Wci⟩
def Ztj (a3:List Kc) (b4:List Kc) (i5:Int):St:=⟨[(0,vV Jg a3),(1,vV Jg b4),(5,vI i5)],[],0⟩
def Zrq (a3:List Kc) (b4:List Kc):St:=⟨[(4,vB false)],[],0⟩
def Zrr (a3:List Kc) (b4:List Kc) (i6:Int) (t7:Bool):St:=⟨[(0,vV Jg a3),(1,vV Jg b4),(5,vI i6),(14,vB t7)],[],0⟩
theorem Ztk (N:Nat) {R:Type} (K:Ex → St → Option R) {a3:List Kc} {b4:List Kc} {K0:Option R} {K1:Int → Bool → Option R} (h0:K0 = K .ret (Zrq a3 b4)) (h1:K1 = fun i6 t7=>K (.exit 0) (Zrr a3 b4 i6 t7)) (n:Nat) (i5:Int):Zcq N a3 b4 K0 K1 n i5 = LM Zi2 N 0 100004 n (Ztj a3 b4 i5) K:=by
  subst h0 h1
  induction n generalizing i5 with
  | zero=>kernel_rfl
  | succ n ih=>rw [Zcq]; simp (disch:=exact id (by kernel_rfl)) only [ih]; kernel_rfl
theorem Z0e:Wc Tryz.prog 111:=Wb Tryz.func111 (show Wg Tryz.f111 = true by kernel_rfl)
theorem Z0f (N:Nat) (a1:List Kc) (b2:List Kc):DN Zi2 N (a1,b2,()) = Zdr N a1 b2:=by
  have h:Zdr N a1 b2 = Zdr N a1 b2:=rfl
  conv at h=>rhs; rw [Zdr]
  simp (disch:=exact id (by kernel_rfl)) only [Ztk (R:=Unit × Kf) N (CF Zi2 N [1,1,0,1,0])] at h
  exact Eq.trans (by kernel_rfl) h.symm
theorem Z0g (N:Nat):Good Tryz.prog 111 (Zmo N):=GF Zi2 N Tryz.func111 We (by kernel_rfl) (fun d=>Z0f N d.1 d.2.1)
def Zmp (N:Nat):Sig:=Sig.of [.v Js false,.v Js false] [.v Jp false] (fun d=>Zay N d.1 d.2.1)
def Zi3:Fn:=⟨Tryz.f42,fun | 4=>[.canon [0,1,5,14]] | 5=>[.canon [0,1,5]] | 6=>[.canon [0,1,5,54]] | 7=>[.canon [4]] | 100004=>[.canon [0,1,5]] | _=>[],Zmp,fun N=>[(111,Zmo N)]⟩
def Ztl (a3:List Kl) (b4:List Kl) (i5:Int):St:=⟨[(0,vV Js a3),(1,vV Js b4),(5,vI i5)],[],0⟩
def Zrs (a3:List Kl) (b4:List Kl):St:=⟨[(4,vB false)],[],0⟩
def Zrt (a3:List Kl) (b4:List Kl) (i7:Int) (t8:Bool):St:=⟨[(0,vV Js a3),(1,vV Js b4),(5,vI i7),(14,vB t8)],[],0⟩
theorem Ztm (N:Nat) {R:Type} (K:Ex → St → Option R) {a3:List Kl} {b4:List Kl} {K0:Option R} {K1:Int → Bool → Option R} (h0:K0 = K .ret (Zrs a3 b4)) (h1:K1 = fun i7 t8=>K (.exit 0) (Zrt a3 b4 i7 t8)) (n:Nat) (i5:Int):Zcr N a3 b4 K0 K1 n i5 = LM Zi3 N 0 100004 n (Ztl a3 b4 i5) K:=by
  subst h0 h1
  induction n generalizing i5 with
  | zero=>kernel_rfl
  | succ n ih=>rw [Zcr]; simp (disch:=exact id (by kernel_rfl)) only [ih]; kernel_rfl
theorem Z0h:Wc Tryz.prog 42:=Wb Tryz.func42 (show Wg Tryz.f42 = true by kernel_rfl)
theorem Z0i (N:Nat) (a1:List Kl) (b2:List Kl):DN Zi3 N (a1,b2,()) = Zay N a1 b2:=by
  have h:Zay N a1 b2 = Zay N a1 b2:=rfl
  conv at h=>rhs; rw [Zay]
  simp (disch:=exact id (by kernel_rfl)) only [Ztm (R:=Unit × Kf) N (CF Zi3 N [1,1,0,1,0])] at h
  exact Eq.trans (by kernel_rfl) h.symm
theorem Z0j (N:Nat):Good Tryz.prog 42 (Zmp N):=GF Zi3 N Tryz.func42 (Wa (Z0g N) Z0e We) (by kernel_rfl) (fun d=>Z0i N d.1 d.2.1)
def Zmq (N:Nat):Sig:=Sig.of [.v Jj false,.v Jj false] [.v Jp false] (fun d=>Zcu N d.1 d.2.1)
def Zi4:Fn:=⟨Tryz.f17,fun | 4=>[.canon [0,1,5,14]] | 5=>[.canon [0,1,5]] | 6=>[.canon [0,1,5,25]] | 7=>[.canon [4]] | 100004=>[.canon [0,1,5]] | _=>[],Zmq,Wci⟩
def Ztn (a3:List Int) (b4:List Int) (i5:Int):St:=⟨[(0,vV Jj a3),(1,vV Jj b4),(5,vI i5)],[],0⟩
def Zru (a3:List Int) (b4:List Int):St:=⟨[(4,vB false)],[],0⟩
def Zrv (a3:List Int) (b4:List Int) (i6:Int) (t7:Bool):St:=⟨[(0,vV Jj a3),(1,vV Jj b4),(5,vI i6),(14,vB t7)],[],0⟩
theorem Zto (N:Nat) {R:Type} (K:Ex → St → Option R) {a3:List Int} {b4:List Int} {K0:Option R} {K1:Int → Bool → Option R} (h0:K0 = K .ret (Zru a3 b4)) (h1:K1 = fun i6 t7=>K (.exit 0) (Zrv a3 b4 i6 t7)) (n:Nat) (i5:Int):Zcp N a3 b4 K0 K1 n i5 = LM Zi4 N 0 100004 n (Ztn a3 b4 i5) K:=by
  subst h0 h1
  induction n generalizing i5 with
  | zero=>kernel_rfl
  | succ n ih=>rw [Zcp]; simp (disch:=exact id (by kernel_rfl)) only [ih]; kernel_rfl
theorem Z0k:Wc Tryz.prog 17:=Wb Tryz.func17 (show Wg Tryz.f17 = true by kernel_rfl)
theorem Z0l (N:Nat) (a1:List Int) (b2:List Int):DN Zi4 N (a1,b2,()) = Zcu N a1 b2:=by
  have h:Zcu N a1 b2 = Zcu N a1 b2:=rfl
  conv at h=>rhs; rw [Zcu]
  simp (disch:=exact id (by kernel_rfl)) only [Zto (R:=Unit × Kf) N (CF Zi4 N [1,1,0,1,0])] at h
  exact Eq.trans (by kernel_rfl) h.symm
theorem Z0m (N:Nat):Good Tryz.prog 17 (Zmq N):=GF Zi4 N Tryz.func17 We (by kernel_rfl) (fun d=>Z0l N d.1 d.2.1)
def Zps (N:Nat):Sig:=Sig.of [.v Jo false] [.v Jp false] (fun d=>Zcv N d.1)
def Zi5:Fn:=⟨Tryz.f7,fun | 19=>[.canon [4,8,9,122]] | 20=>[.canon [4,8,9]] | 21=>[.canon [4,8,9,183]] | 22=>[.canon [2]] | 100019=>[.canon [4,8,9]] | _=>[],Zps,fun N=>[(9,Zpx N),(38,Zmh N),(35,Zmj N),(36,Znq N),(39,Zrn N),(43,Znr N),(44,Zly N),(42,Zmp N),(17,Zmq N)]⟩
def Ztp (i12:Int) (b13:Y_World) (b14:Y_World):St:=⟨[(4,vP 0 0),(8,vP 1 0),(9,vI i12)],[(0,.box [.val Ja b13.1,.val Ja b13.2.1,.val Ja b13.2.2.1.1,.val Je b13.2.2.1.2,.val Jj b13.2.2.2.1.1,.val Ja b13.2.2.2.1.2,.val Je b13.2.2.2.2.1,.val (.slice (TY_Root)) b13.2.2.2.2.2.1,.val Js b13.2.2.2.2.2.2]),(1,.box [.val Ja b14.1,.val Ja b14.2.1,.val Ja b14.2.2.1.1,.val Je b14.2.2.1.2,.val Jj b14.2.2.2.1.1,.val Ja b14.2.2.2.1.2,.val Je b14.2.2.2.2.1,.val (.slice (TY_Root)) b14.2.2.2.2.2.1,.val Js b14.2.2.2.2.2.2])],2⟩
def Zrw (b13:Y_World) (b14:Y_World):St:=⟨[(2,vB false)],[],0⟩
def Zrx (b13:Y_World) (b14:Y_World) (i16:Int) (t17:Bool):St:=⟨[(4,vP 0 0),(8,vP 1 0),(9,vI i16),(122,vB t17)],[(0,.box [.val Ja b13.1,.val Ja b13.2.1,.val Ja b13.2.2.1.1,.val Je b13.2.2.1.2,.val Jj b13.2.2.2.1.1,.val Ja b13.2.2.2.1.2,.val Je b13.2.2.2.2.1,.val (.slice (TY_Root)) b13.2.2.2.2.2.1,.val Js b13.2.2.2.2.2.2]),(1,.box [.val Ja b14.1,.val Ja b14.2.1,.val Ja b14.2.2.1.1,.val Je b14.2.2.1.2,.val Jj b14.2.2.2.1.1,.val Ja b14.2.2.2.1.2,.val Je b14.2.2.2.2.1,.val (.slice (TY_Root)) b14.2.2.2.2.2.1,.val Js b14.2.2.2.2.2.2])],2⟩
theorem Ztq (N:Nat) {R:Type} (K:Ex → St → Option R) {b13:Y_World} {b14:Y_World} {K0:Option R} {K1:Int → Bool → Option R} (h0:K0 = K .ret (Zrw b13 b14)) (h1:K1 = fun i16 t17=>K (.exit 0) (Zrx b13 b14 i16 t17)) (n:Nat) (i12:Int):Zah N b13 b14 K0 K1 n i12 = LM Zi5 N 0 100019 n (Ztp i12 b13 b14) K:=by
  subst h0 h1
  induction n generalizing i12 with
  | zero=>kernel_rfl
  | succ n ih=>rw [Zah]; simp (disch:=exact id (by kernel_rfl)) only [ih]; kernel_rfl
theorem Z48:Wc Tryz.prog 7:=Wb Tryz.func7 (show Wg Tryz.f7 = true by kernel_rfl)
theorem Z0n (N:Nat) (code1:List Int):DN Zi5 N (code1,()) = Zcv N code1:=by
  have h:Zcv N code1 = Zcv N code1:=rfl
  conv at h=>rhs; rw [Zcv]
  simp (disch:=exact id (by kernel_rfl)) only [Ztq (R:=Unit × Kf) N (CF Zi5 N [1,1,1,1,1,1,1,1,1,1,1,1,1,0,1,0])] at h
  exact Eq.trans (by kernel_rfl) h.symm
theorem Z0o (N:Nat):Good Tryz.prog 7 (Zps N):=GF Zi5 N Tryz.func7 (Wa (Z43 N) Z42 (Wa (Zzk N) Zzj (Wa (Zzq N) Zzo (Wa (Z2b N) Z19 (Wa (Z47 N) Z46 (Wa (Z2e N) Z2c (Wa (Zzg N) Zze (Wa (Z0j N) Z0h (Wa (Z0m N) Z0k We))))))))) (by kernel_rfl) (fun d=>Z0n N d.1)
end
end Go.Sx
