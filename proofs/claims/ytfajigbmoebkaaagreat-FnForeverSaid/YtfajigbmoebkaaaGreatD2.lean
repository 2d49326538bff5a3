/- Each Go function does what its Lean function says. -/
import Derived.Test.YtfajigbmoebkaaaGreatD
namespace Go.Sx
noncomputable section
open Go.Proofs
set_option linter.unusedVariables false
set_option linter.unusedSimpArgs false
def Zpc (N:Nat):Sig:=Sig.of [.v Jab true] [.v Jag true,.v Ja false] (fun d=>Zou N d.1)
def Z4m:Fn:=⟨Tryz.f57,Wy,Zpc,fun N=>[(123,Zer N),(124,Ze5 N)]⟩
theorem Z4n:Wc Tryz.prog 57:=Wb Tryz.func57 (show Wg Tryz.f57 = true by kernel_rfl)
theorem Z4o (N:Nat):Good Tryz.prog 57 (Zpc N):=GF Z4m N Tryz.func57 (Wa (Zht N) Zhs (Wa (Zhh N) Zhg We)) (by kernel_rfl) (fun d=>by kernel_rfl)
def Zot (N:Nat):Sig:=Sig.of [.v Jab true,.v Ja false,.v Ja false,.v Ja false] [.v Jag true,.v Jp false] (fun d=>Znq N d.1 d.2.1 d.2.2.1 d.2.2.2.1)
def Z4a:Fn:=⟨Tryz.f278,Wy,Zot,fun N=>[(123,Zer N),(124,Ze5 N),(65,Zb2 N),(288,Zeq N),(130,Za2 N)]⟩
theorem Z4b:Wc Tryz.prog 278:=Wb Tryz.func278 (show Wg Tryz.f278 = true by kernel_rfl)
theorem Z4c (N:Nat):Good Tryz.prog 278 (Zot N):=GF Z4a N Tryz.func278 (Wa (Zht N) Zhs (Wa (Zhh N) Zhg (Wa (Zdr N) Zdq (Wa (Zhr N) Zhq (Wa (Zbo N) Zbn We))))) (by kernel_rfl) (fun d=>by kernel_rfl)
def Zob (N:Nat):Sig:=Sig.of [.v Jab true,.v Ja false,.v Ja false,.v Ja false] [.v Jag true,.v Jp false] (fun d=>Zkd N d.1 d.2.1 d.2.2.1 d.2.2.2.1)
def Z3g:Fn:=⟨Tryz.f279,Wy,Zob,fun N=>[(123,Zer N),(124,Ze5 N),(65,Zb2 N),(288,Zeq N),(55,Z1 N)]⟩
theorem Z3h:Wc Tryz.prog 279:=Wb Tryz.func279 (show Wg Tryz.f279 = true by kernel_rfl)
theorem Z3i (N:Nat):Good Tryz.prog 279 (Zob N):=GF Z3g N Tryz.func279 (Wa (Zht N) Zhs (Wa (Zhh N) Zhg (Wa (Zdr N) Zdq (Wa (Zhr N) Zhq (Wa (Zab N) Zaa We))))) (by kernel_rfl) (fun d=>by kernel_rfl)
def Zko (N:Nat):Sig:=Sig.of [.v Jab true,.v (.prod Ja Jr) true] [.v Jag true,.v Jd true] (fun d=>Ziq N d.1 d.2.1)
def Zw4:Fn:=⟨Tryz.f239,Wy,Zko,fun N=>[(123,Zer N),(272,Zh0 N),(124,Ze5 N),(273,Ziy N),(275,Zpb N),(276,Zj7 N),(274,Zfr N),(57,Zpc N),(277,Zgd N),(278,Zot N),(279,Zob N)]⟩
theorem Zw5:Wc Tryz.prog 239:=Wb Tryz.func239 (show Wg Tryz.f239 = true by kernel_rfl)
theorem Zw6 (N:Nat):Good Tryz.prog 239 (Zko N):=GF Zw4 N Tryz.func239 (Wa (Zht N) Zhs (Wa (Zof N) Zoe (Wa (Zhh N) Zhg (Wa (Zpo N) Zpn (Wa (Z4l N) Z4k (Wa (Zu5 N) Zu4 (Wa (Zls N) Zlr (Wa (Z4o N) Z4n (Wa (Zl9 N) Zl8 (Wa (Z4c N) Z4b (Wa (Z3i N) Z3h We))))))))))) (by kernel_rfl) (fun d=>by kernel_rfl)
def Zjc (N:Nat):Sig:=Sig.of [.box Jv,.v Ja false] [] (fun d=>Zgg N d.1 d.2.1)
def Zs2:Fn:=⟨Tryz.f205,fun | 0=>[.opn 13] | _=>[],Zjc,fun N=>[(238,Zj6 N),(198,Zc1 N),(239,Zko N),(222,Zdg N)]⟩
theorem Zs3:Wc Tryz.prog 205:=Wb Tryz.func205 (show Wg Tryz.f205 = true by kernel_rfl)
theorem Zs4 (N:Nat):Good Tryz.prog 205 (Zjc N):=GF Zs2 N Tryz.func205 (Wa (Zu2 N) Zu1 (Wa (Zgx N) Zgw (Wa (Zw6 N) Zw5 (Wa (Zg8 N) Zg7 We)))) (by kernel_rfl) (fun d=>by kernel_rfl)
def Zh1 (N:Nat):Sig:=Sig.of [.v Jl true,.box Ja] [.v Jp false] (fun d=>Zfz N d.1 d.2.1)
def Zw7:Fn:=⟨Tryz.f243,Wy,Zh1,Wcj⟩
theorem Zog:Wc Tryz.prog 243:=Wb Tryz.func243 (show Wg Tryz.f243 = true by kernel_rfl)
theorem Zoh (N:Nat):Good Tryz.prog 243 (Zh1 N):=GF Zw7 N Tryz.func243 We (by kernel_rfl) (fun d=>by kernel_rfl)
def Zaq (N:Nat):Sig:=Sig.of [.v Je false,.clos 243 1,.box Ja] [.v Ja false] (fun d=>Zo N d.1 d.2.1)
def Z8:Fn:=⟨Tryz.f282,fun | 2=>[.canon [0,1,7,8,9]] | 3=>[.canon [0,1,5,7,8]] | 4=>[.canon [0,1,5,7,8,16]] | 5=>[.canon [1,4]] | 6=>[.canon [0,1,7,8]] | 100002=>[.canon [0,1,7,8]] | _=>[],Zaq,fun N=>[(243,Zh1 N)]⟩
def Zes (s3:List Kb) (t5:Int) (b6:Int):St:=⟨[(0,vV Je s3),(1,.s (.one (.clos 243 [0]))),(7,vI (ilen s3)),(8,vI t5)],[(0,.box [.val Ja b6])],1⟩
def Zd9 (s3:List Kb) (t9:Int) (b10:Int):St:=⟨[(1,.s (.one (.clos 243 [0]))),(4,vI t9)],[(0,.box [.val Ja b10])],1⟩
def Zea (s3:List Kb) (t11:Int) (t12:Bool) (b13:Int):St:=⟨[(0,vV Je s3),(1,.s (.one (.clos 243 [0]))),(7,vI (ilen s3)),(8,vI t11),(9,vB t12)],[(0,.box [.val Ja b13])],1⟩
theorem Zet (N:Nat) {R:Type} (K:Ex → St → Option R) {s3:List Kb} {K0:Int → Int → Option R} {K1:Int → Bool → Int → Option R} (h0:K0 = fun t9 b10=>K .ret (Zd9 s3 t9 b10)) (h1:K1 = fun t11 t12 b13=>K (.exit 0) (Zea s3 t11 t12 b13)) (n:Nat) (t5:Int) (b6:Int):Zl N s3 K0 K1 n t5 b6 = LM Z8 N 0 100002 n (Zes s3 t5 b6) K:=by
  subst h0 h1
  induction n generalizing t5 b6 with
  | zero=>kernel_rfl
  | succ n ih=>rw [Zl]; simp (disch:=exact id (by kernel_rfl)) only [ih]; kernel_rfl
theorem Zfs:Wc Tryz.prog 282:=Wb Tryz.func282 (show Wg Tryz.f282 = true by kernel_rfl)
theorem Zft (N:Nat) (s1:List Kb) (cap2:Int):DN Z8 N (s1,cap2,()) = Zo N s1 cap2:=by
  have h:Zo N s1 cap2 = Zo N s1 cap2:=rfl
  conv at h=>rhs; rw [Zo]
  simp (disch:=exact id (by kernel_rfl)) only [Zet (R:=Ki × Ki) N (CF Z8 N [1,0,1,0])] at h
  exact Eq.trans (by kernel_rfl) h.symm
theorem Zfu (N:Nat):Good Tryz.prog 282 (Zaq N):=GF Z8 N Tryz.func282 (Wa (Zoh N) Zog We) (by kernel_rfl) (fun d=>Zft N d.1 d.2.1)
def Zao (N:Nat):Sig:=Sig.of [.v (.own Jl) false,.clos 243 1,.box Ja] [.v (.own Jl) false] (fun d=>Zh N d.1 d.2.1)
def Z5:Fn:=⟨Tryz.f242,fun | 5=>[.canon [0,1,5,6,19]] | 6=>[.canon [0,1,5,6]] | 7=>[.canon [0,1,5,6,7]] | 8=>[.canon [0,1,5,6,7,29]] | 9=>[.canon [0,1,5,6]] | 10=>[.canon [0,1,5,6]] | 11=>[.view 38] | 100005=>[.canon [0,1,5,6]] | _=>[],Zao,fun N=>[(282,Zaq N),(243,Zh1 N)]⟩
def Zeb (i4:Int) (j5:Int) (l6:List Kb) (b7:Int):St:=⟨[(0,vO 0),(1,.s (.one (.clos 243 [1]))),(5,vI i4),(6,vI j5)],[(0,.arr Jl l6),(1,.box [.val Ja b7])],2⟩
def Zdz (i9:Int) (j10:Int) (t11:Bool) (l12:List Kb) (b13:Int):St:=⟨[(0,vO 0),(1,.s (.one (.clos 243 [1]))),(5,vI i9),(6,vI j10),(19,vB t11)],[(0,.arr Jl l12),(1,.box [.val Ja b13])],2⟩
theorem Zec (N:Nat) {R:Type} (K:Ex → St → Option R) {K0:Int → Int → Bool → Kn → Int → Option R} (h0:K0 = fun i9 j10 t11 l12 b13=>K (.exit 0) (Zdz i9 j10 t11 l12 b13)) (n:Nat) (i4:Int) (j5:Int) (l6:List Kb) (b7:Int):Zd N K0 n i4 j5 l6 b7 = LM Z5 N 0 100005 n (Zeb i4 j5 l6 b7) K:=by
  subst h0
  induction n generalizing i4 j5 l6 b7 with
  | zero=>kernel_rfl
  | succ n ih=>rw [Zd]; simp (disch:=exact id (by kernel_rfl)) only [ih]; kernel_rfl
theorem Zfd:Wc Tryz.prog 242:=Wb Tryz.func242 (show Wg Tryz.f242 = true by kernel_rfl)
theorem Zfe (N:Nat) (s1:List Kb) (cap2:Int):DN Z5 N (s1,cap2,()) = Zh N s1 cap2:=by
  have h:Zh N s1 cap2 = Zh N s1 cap2:=rfl
  conv at h=>rhs; rw [Zh]
  simp (disch:=exact id (by kernel_rfl)) only [Zec (R:=Ki × (Kn × Unit)) N (CF Z5 N [1,1,1,0,1,0])] at h
  exact Eq.trans (by kernel_rfl) h.symm
theorem Zff (N:Nat):Good Tryz.prog 242 (Zao N):=GF Z5 N Tryz.func242 (Wa (Zfu N) Zfs (Wa (Zoh N) Zog We)) (by kernel_rfl) (fun d=>Zfe N d.1 d.2.1)
def Zmi (N:Nat):Sig:=Sig.of [.v Je false,.v Ja false] [.v (.own Jl) false] (fun d=>Zku N d.1 d.2.1)
def Zz0:Fn:=⟨Tryz.f206,Wy,Zmi,fun N=>[(240,Zil N),(241,Zgk N),(242,Zao N)]⟩
theorem Zz1:Wc Tryz.prog 206:=Wb Tryz.func206 (show Wg Tryz.f206 = true by kernel_rfl)
theorem Zz2 (N:Nat):Good Tryz.prog 206 (Zmi N):=GF Zz0 N Tryz.func206 (Wa (Zo5 N) Zo4 (Wa (Zjx N) Zjw (Wa (Zff N) Zfd We))) (by kernel_rfl) (fun d=>by kernel_rfl)
def Zkp (N:Nat):Sig:=Sig.of [.box Jv,.v Ja false,.v Jn true] [] (fun d=>Zg6 N d.1 d.2.1 d.2.2.1)
def Zw8:Fn:=⟨Tryz.f155,fun | 1=>[.opn 12] | _=>[],Zkp,fun N=>[(55,Z1 N),(198,Zc1 N),(199,Zkm N),(200,Zlo N),(201,Zlq N),(202,Zg1 N),(203,Zhz N),(204,Zjb N),(205,Zjc N),(206,Zmi N),(207,Zih N)]⟩
theorem Zw9:Wc Tryz.prog 155:=Wb Tryz.func155 (show Wg Tryz.f155 = true by kernel_rfl)
theorem Zxa (N:Nat):Good Tryz.prog 155 (Zkp N):=GF Zw8 N Tryz.func155 (Wa (Zab N) Zaa (Wa (Zgx N) Zgw (Wa (Zwq N) Zwo (Wa (Zyu N) Zyt (Wa (Zy0 N) Zyz (Wa (Zno N) Znn (Wa (Zod N) Zoc (Wa (Zsx N) Zsw (Wa (Zs4 N) Zs3 (Wa (Zz2 N) Zz1 (Wa (Zox N) Zow We))))))))))) (by kernel_rfl) (fun d=>by kernel_rfl)
def Zh2 (N:Nat):Sig:=Sig.of [.v Jl true,.box Ja] [.v Jp false] (fun d=>Zi3 N d.1 d.2.1)
def Zqk:Fn:=⟨Tryz.f179,Wy,Zh2,Wcj⟩
theorem Zql:Wc Tryz.prog 179:=Wb Tryz.func179 (show Wg Tryz.f179 = true by kernel_rfl)
theorem Zqm (N:Nat):Good Tryz.prog 179 (Zh2 N):=GF Zqk N Tryz.func179 We (by kernel_rfl) (fun d=>by kernel_rfl)
def Zai (N:Nat):Sig:=Sig.of [.v Je false,.clos 179 1,.box Ja] [.v Ja false] (fun d=>Ze N d.1 d.2.1)
def Z0:Fn:=⟨Tryz.f178,fun | 2=>[.canon [0,1,7,8,9]] | 3=>[.canon [0,1,5,7,8]] | 4=>[.canon [0,1,5,7,8,16]] | 5=>[.canon [1,4]] | 6=>[.canon [0,1,7,8]] | 100002=>[.canon [0,1,7,8]] | _=>[],Zai,fun N=>[(179,Zh2 N)]⟩
def Zda (s3:List Kb) (t5:Int) (b6:Int):St:=⟨[(0,vV Je s3),(1,.s (.one (.clos 179 [0]))),(7,vI (ilen s3)),(8,vI t5)],[(0,.box [.val Ja b6])],1⟩
def Zc2 (s3:List Kb) (t9:Int) (b10:Int):St:=⟨[(1,.s (.one (.clos 179 [0]))),(4,vI t9)],[(0,.box [.val Ja b10])],1⟩
def Zc3 (s3:List Kb) (t11:Int) (t12:Bool) (b13:Int):St:=⟨[(0,vV Je s3),(1,.s (.one (.clos 179 [0]))),(7,vI (ilen s3)),(8,vI t11),(9,vB t12)],[(0,.box [.val Ja b13])],1⟩
theorem Zdb (N:Nat) {R:Type} (K:Ex → St → Option R) {s3:List Kb} {K0:Int → Int → Option R} {K1:Int → Bool → Int → Option R} (h0:K0 = fun t9 b10=>K .ret (Zc2 s3 t9 b10)) (h1:K1 = fun t11 t12 b13=>K (.exit 0) (Zc3 s3 t11 t12 b13)) (n:Nat) (t5:Int) (b6:Int):Zg N s3 K0 K1 n t5 b6 = LM Z0 N 0 100002 n (Zda s3 t5 b6) K:=by
  subst h0 h1
  induction n generalizing t5 b6 with
  | zero=>kernel_rfl
  | succ n ih=>rw [Zg]; simp (disch:=exact id (by kernel_rfl)) only [ih]; kernel_rfl
theorem Zd0:Wc Tryz.prog 178:=Wb Tryz.func178 (show Wg Tryz.f178 = true by kernel_rfl)
theorem Zd1 (N:Nat) (s1:List Kb) (cap2:Int):DN Z0 N (s1,cap2,()) = Ze N s1 cap2:=by
  have h:Ze N s1 cap2 = Ze N s1 cap2:=rfl
  conv at h=>rhs; rw [Ze]
  simp (disch:=exact id (by kernel_rfl)) only [Zdb (R:=Ki × Ki) N (CF Z0 N [1,0,1,0])] at h
  exact Eq.trans (by kernel_rfl) h.symm
theorem Zd2 (N:Nat):Good Tryz.prog 178 (Zai N):=GF Z0 N Tryz.func178 (Wa (Zqm N) Zql We) (by kernel_rfl) (fun d=>Zd1 N d.1 d.2.1)
def Ze9 (N:Nat):Sig:=Sig.of [.rp (TY_Family),.v Ja false] [.v Ja false] (fun d=>Zcj N d.1 d.2.1)
def Zs5:Fn:=⟨Tryz.f121,Wy,Ze9,fun N=>[(178,Zai N)]⟩
theorem Zjd:Wc Tryz.prog 121:=Wb Tryz.func121 (show Wg Tryz.f121 = true by kernel_rfl)
theorem Zje (N:Nat):Good Tryz.prog 121 (Ze9 N):=GF Zs5 N Tryz.func121 (Wa (Zd2 N) Zd0 We) (by kernel_rfl) (fun d=>by kernel_rfl)
def Zge (N:Nat):Sig:=Sig.of [.box Jy,.v Ja false] [] (fun d=>Zbd N d.1 d.2.1)
def Zqn:Fn:=⟨Tryz.f122,Wy,Zge,fun N=>[(72,Z4 N)]⟩
theorem Zma:Wc Tryz.prog 122:=Wb Tryz.func122 (show Wg Tryz.f122 = true by kernel_rfl)
theorem Zmb (N:Nat):Good Tryz.prog 122 (Zge N):=GF Zqn N Tryz.func122 (Wa (Zag N) Zaf We) (by kernel_rfl) (fun d=>by kernel_rfl)
def Zj8 (N:Nat):Sig:=Sig.of [.box Jy,.v Ja false,.v Jx true,.v Jab true] [] (fun d=>Zh6 N d.1 d.2.1 d.2.2.1 d.2.2.2.1)
def Zu6:Fn:=⟨Tryz.f173,fun | 1=>[.opn 18] | _=>[],Zj8,fun N=>[(172,Zkh N),(121,Ze9 N),(122,Zge N),(220,Ziw N),(221,Zii N)]⟩
theorem Zu7:Wc Tryz.prog 173:=Wb Tryz.func173 (show Wg Tryz.f173 = true by kernel_rfl)
theorem Zu8 (N:Nat):Good Tryz.prog 173 (Zj8 N):=GF Zu6 N Tryz.func173 (Wa (Zpa N) Zo9 (Wa (Zje N) Zjd (Wa (Zmb N) Zma (Wa (Zpk N) Zpj (Wa (Zoz N) Zoy We))))) (by kernel_rfl) (fun d=>by kernel_rfl)
def Zjf (N:Nat):Sig:=Sig.of [.box Ji,.v Jc false] [] (fun d=>Zhu N d.1 d.2.1)
def Zs6:Fn:=⟨Tryz.f174,fun | 5=>[.opn 28] | _=>[],Zjf,fun N=>[(72,Z4 N),(222,Zdg N),(223,Zl6 N)]⟩
theorem Zs7:Wc Tryz.prog 174:=Wb Tryz.func174 (show Wg Tryz.f174 = true by kernel_rfl)
theorem Zs8 (N:Nat):Good Tryz.prog 174 (Zjf N):=GF Zs6 N Tryz.func174 (Wa (Zag N) Zaf (Wa (Zg8 N) Zg7 (Wa (Zsl N) Zsk We))) (by kernel_rfl) (fun d=>by kernel_rfl)
def Zkq (N:Nat):Sig:=Sig.of [.box Jy,.v Ja false,.v Jc false,.v Jab true] [] (fun d=>Zin N d.1 d.2.1 d.2.2.1 d.2.2.2.1)
def Zxb:Fn:=⟨Tryz.f119,fun | 1=>[.opn 16] | 18=>[.nest 128 Ju] | _=>[],Zkq,fun N=>[(173,Zj8 N),(174,Zjf N),(72,Z4 N),(175,Zmz N)]⟩
theorem Zxc:Wc Tryz.prog 119:=Wb Tryz.func119 (show Wg Tryz.f119 = true by kernel_rfl)
theorem Zxd (N:Nat):Good Tryz.prog 119 (Zkq N):=GF Zxb N Tryz.func119 (Wa (Zu8 N) Zu7 (Wa (Zs8 N) Zs7 (Wa (Zag N) Zaf (Wa (Zvh N) Zvg We)))) (by kernel_rfl) (fun d=>by kernel_rfl)
def Za9 (N:Nat):Sig:=Sig.of [.mut Jl,.clos 177 0] [] (fun d=>Zak N d.1)
theorem Zed:Wc Tryz.prog 176:=Wb Tryz.func176 (show Wg Tryz.f176 = true by kernel_rfl)
theorem Zee:CmpOk Tryz.prog 177 Jl rngE cfE:=by
  intro G x y us vs w hx hy h1 h2
  obtain ⟨_,_,rfl,a1,_,_,rfl,a2,a3⟩:=h1
  obtain ⟨_,_,rfl,b1,_,_,rfl,b2,b3⟩:=h2
  simp only [Enc] at a1 a2 a3 b1 b2 b3
  subst a1 a2 a3 b1 b2 b3
  simp only [List.cons_append,List.nil_append]
  go_enter Tryz.func177,Tryz.ntmps177
  go_wp2
  rw [sub_run (Wnq hx) (Wnq hy) (c:=cfE x y) rfl]
  go_wp2
  go_ret
  exact ⟨rfl,two_grow _ _ _⟩
theorem Zef (N:Nat):Good Tryz.prog 176 (Za9 N):=good_sortF sortFE (e:=.prod Ja Jw) rfl (by decide) Tryz.isAgg127 Tryz.sizeOf127 (enters_of Tryz.func177 (by kernel_rfl) rfl) swoE Zee N
def Zjg (N:Nat):Sig:=Sig.of [.box Jy,.v Ja false] [] (fun d=>Zbp N d.1 d.2.1)
def Zct:Fn:=⟨Tryz.f120,fun | 0=>[.opn 16] | 3=>[.canon [0,1,4,28,29,30,31]] | 4=>[.canon [0,1,4,6,28,29,30]] | 5=>[.canon [0,1,4,6,7,28,29,30]] | 6=>[.canon [0,1,4,7,8,28,29,30]] | 7=>[.canon [0,1,4,7,8,28,29,30,48]] | 8=>[.canon [0,1,4,28,29,30]] | 9=>[.canon [0,1,4,28,29,30]] | 10=>[.canon [0,1,4,28,29,30]] | 13=>[.canon [0,1,4,75,76,77,78]] | 14=>[.canon [0,1,4,10,75,76,77]] | 15=>[.canon [0,1,4,10,75,76,77,83]] | 16=>[.canon [0,1,4,75,76,77]] | 17=>[.canon [0,1,4,75,76,77]] | 100003=>[.canon [0,1,4,28,29,30]] | 100013=>[.canon [0,1,4,75,76,77]] | _=>[],Zjg,fun N=>[(118,Zja N),(121,Ze9 N),(176,Za9 N)]⟩
def Zpp (k4:Int) (t5:Int) (t6:Int) (b7:Int) (b8:Int) (b9:Int) (b10:Bool) (b11:Int) (b12:Int) (b13:Int) (b14:Int) (b15:Int) (b16:Int) (b17:Bool) (b18:Int) (b19:Int) (b20:Int) (b21:Int) (l22:List Kc) (l23:List Int) (l24:List Kc) (l25:List Kb) (l26:List Int) (l27:List Kc) (l28:List Y_KidRun) (i29:Nat) (l30:List Int) (l31:List Kb) (l32:List Kc) (l33:List Kh):St:=⟨[(0,vP 0 0),(1,vI k4),(4,vP 1 0),(28,vO 2),(29,vI t5),(30,vI t6)],[(0,.box [.val Ja b7,.val Ja b8,.val Ja b9,.val Jp b10,.own 3,.own 4,.own 5,.own 6,.own 7,.own 8]),(1,.box [.val Ja b11,.val Ja b12,.val Ja b13,.val Ja b14,.val Ja b15,.val Ja b16,.own 9,.own 10,.own 11,.own 12,.val Jp b17,.val Ja b18,.val Ja b19,.val Ja b20,.val Ja b21]),(2,.arr Jw l22),(3,.arr Ja l23),(4,.arr Jw l24),(5,.arr Jl l25),(6,.arr Ja l26),(7,.arr Jw l27),(8,.hole Ji l28 i29 1),(9,.arr Ja l30),(10,.arr Jl l31),(11,.arr Jw l32),(12,.arr Ju l33)],13⟩
def Zpd (k4:Int) (t5:Int) (b7:Int) (b8:Int) (b9:Int) (b10:Bool) (b11:Int) (b12:Int) (b13:Int) (b14:Int) (b15:Int) (b16:Int) (b17:Bool) (b18:Int) (b19:Int) (b20:Int) (b21:Int) (l22:List Kc) (l23:List Int) (l24:List Kc) (l26:List Int) (l27:List Kc) (l28:List Y_KidRun) (i29:Nat) (l30:List Int) (l31:List Kb) (l32:List Kc) (l33:List Kh) (t35:Int) (t36:Bool) (l37:List Kb):St:=⟨[(0,vP 0 0),(1,vI k4),(4,vP 1 0),(28,vO 2),(29,vI t5),(30,vI t35),(31,vB t36)],[(0,.box [.val Ja b7,.val Ja b8,.val Ja b9,.val Jp b10,.own 3,.own 4,.own 5,.own 6,.own 7,.own 8]),(1,.box [.val Ja b11,.val Ja b12,.val Ja b13,.val Ja b14,.val Ja b15,.val Ja b16,.own 9,.own 10,.own 11,.own 12,.val Jp b17,.val Ja b18,.val Ja b19,.val Ja b20,.val Ja b21]),(2,.arr Jw l22),(3,.arr Ja l23),(4,.arr Jw l24),(5,.arr Jl l37),(6,.arr Ja l26),(7,.arr Jw l27),(8,.hole Ji l28 i29 1),(9,.arr Ja l30),(10,.arr Jl l31),(11,.arr Jw l32),(12,.arr Ju l33)],13⟩
theorem Zpq (N:Nat) {R:Type} (K:Ex → St → Option R) {k4:Int} {t5:Int} {b7:Int} {b8:Int} {b9:Int} {b10:Bool} {b11:Int} {b12:Int} {b13:Int} {b14:Int} {b15:Int} {b16:Int} {b17:Bool} {b18:Int} {b19:Int} {b20:Int} {b21:Int} {l22:List Kc} {l23:List Int} {l24:List Kc} {l26:List Int} {l27:List Kc} {l28:List Y_KidRun} {i29:Nat} {l30:List Int} {l31:List Kb} {l32:List Kc} {l33:List Kh} {K0:Int → Bool → Kn → Option R} (h0:K0 = fun t35 t36 l37=>K (.exit 0) (Zpd k4 t5 b7 b8 b9 b10 b11 b12 b13 b14 b15 b16 b17 b18 b19 b20 b21 l22 l23 l24 l26 l27 l28 i29 l30 l31 l32 l33 t35 t36 l37)) (n:Nat) (t6:Int) (l25:List Kb):Zav N k4 t5 b7 b8 b9 b10 b11 b12 b13 b14 b15 b16 b17 b18 b19 b20 b21 l22 l23 l24 l26 l27 l28 i29 l30 l31 l32 l33 K0 n t6 l25 = LM Zct N 0 100003 n (Zpp k4 t5 t6 b7 b8 b9 b10 b11 b12 b13 b14 b15 b16 b17 b18 b19 b20 b21 l22 l23 l24 l25 l26 l27 l28 i29 l30 l31 l32 l33) K:=by
  subst h0
  induction n generalizing t6 l25 with
  | zero=>kernel_rfl
  | succ n ih=>rw [Zav]; simp (disch:=exact id (by kernel_rfl)) only [ih]; kernel_rfl
def Zpr (k43:Int) (t44:Int) (t45:Int) (b46:Int) (b47:Int) (b48:Int) (b49:Bool) (b50:Int) (b51:Int) (b52:Int) (b53:Int) (b54:Int) (b55:Int) (b56:Bool) (b57:Int) (b58:Int) (b59:Int) (b60:Int) (l61:List Kb) (l62:List Int) (l63:List Kc) (l64:List Kb) (l65:List Int) (l66:List Kc) (l67:List Y_KidRun) (i68:Nat) (l69:List Int) (l70:List Kc) (l71:List Kh):St:=⟨[(0,vP 0 0),(1,vI k43),(4,vP 1 0),(75,vO 2),(76,vI t44),(77,vI t45)],[(0,.box [.val Ja b46,.val Ja b47,.val Ja b48,.val Jp b49,.own 3,.own 4,.own 5,.own 6,.own 7,.own 8]),(1,.box [.val Ja b50,.val Ja b51,.val Ja b52,.val Ja b53,.val Ja b54,.val Ja b55,.own 9,.own 2,.own 10,.own 11,.val Jp b56,.val Ja b57,.val Ja b58,.val Ja b59,.val Ja b60]),(2,.arr Jl l61),(3,.arr Ja l62),(4,.arr Jw l63),(5,.arr Jl l64),(6,.arr Ja l65),(7,.arr Jw l66),(8,.hole Ji l67 i68 1),(9,.arr Ja l69),(10,.arr Jw l70),(11,.arr Ju l71)],12⟩
def Zpe (k43:Int) (t44:Int) (b46:Int) (b47:Int) (b48:Int) (b49:Bool) (b50:Int) (b51:Int) (b52:Int) (b53:Int) (b54:Int) (b55:Int) (b56:Bool) (b57:Int) (b58:Int) (b59:Int) (b60:Int) (l61:List Kb) (l62:List Int) (l63:List Kc) (l64:List Kb) (l65:List Int) (l67:List Y_KidRun) (i68:Nat) (l69:List Int) (l70:List Kc) (l71:List Kh) (t72:Int) (t73:Bool) (l74:List Kc):St:=⟨[(0,vP 0 0),(1,vI k43),(4,vP 1 0),(75,vO 2),(76,vI t44),(77,vI t72),(78,vB t73)],[(0,.box [.val Ja b46,.val Ja b47,.val Ja b48,.val Jp b49,.own 3,.own 4,.own 5,.own 6,.own 7,.own 8]),(1,.box [.val Ja b50,.val Ja b51,.val Ja b52,.val Ja b53,.val Ja b54,.val Ja b55,.own 9,.own 2,.own 10,.own 11,.val Jp b56,.val Ja b57,.val Ja b58,.val Ja b59,.val Ja b60]),(2,.arr Jl l61),(3,.arr Ja l62),(4,.arr Jw l63),(5,.arr Jl l64),(6,.arr Ja l65),(7,.arr Jw l74),(8,.hole Ji l67 i68 1),(9,.arr Ja l69),(10,.arr Jw l70),(11,.arr Ju l71)],12⟩
theorem Zps (N:Nat) {R:Type} (K:Ex → St → Option R) {k43:Int} {t44:Int} {b46:Int} {b47:Int} {b48:Int} {b49:Bool} {b50:Int} {b51:Int} {b52:Int} {b53:Int} {b54:Int} {b55:Int} {b56:Bool} {b57:Int} {b58:Int} {b59:Int} {b60:Int} {l61:List Kb} {l62:List Int} {l63:List Kc} {l64:List Kb} {l65:List Int} {l67:List Y_KidRun} {i68:Nat} {l69:List Int} {l70:List Kc} {l71:List Kh} {K0:Int → Bool → (List Kc) → Option R} (h0:K0 = fun t72 t73 l74=>K (.exit 2) (Zpe k43 t44 b46 b47 b48 b49 b50 b51 b52 b53 b54 b55 b56 b57 b58 b59 b60 l61 l62 l63 l64 l65 l67 i68 l69 l70 l71 t72 t73 l74)) (n:Nat) (t45:Int) (l66:List Kc):Za3 N k43 t44 b46 b47 b48 b49 b50 b51 b52 b53 b54 b55 b56 b57 b58 b59 b60 l61 l62 l63 l64 l65 l67 i68 l69 l70 l71 K0 n t45 l66 = LM Zct N 1 100013 n (Zpr k43 t44 t45 b46 b47 b48 b49 b50 b51 b52 b53 b54 b55 b56 b57 b58 b59 b60 l61 l62 l63 l64 l65 l66 l67 i68 l69 l70 l71) K:=by
  subst h0
  induction n generalizing t45 l66 with
  | zero=>kernel_rfl
  | succ n ih=>rw [Za3]; simp (disch:=exact id (by kernel_rfl)) only [ih]; kernel_rfl
theorem Zs9:Wc Tryz.prog 120:=Wb Tryz.func120 (show Wg Tryz.f120 = true by kernel_rfl)
theorem Zta (N:Nat) (f1:Y_Family) (k2:Int):DN Zct N (f1,k2,()) = Zbp N f1 k2:=by
  have h:Zbp N f1 k2 = Zbp N f1 k2:=rfl
  conv at h=>rhs; rw [Zbp]
  simp (disch:=exact id (by kernel_rfl)) only [Zpq (R:=(Y_Family × Unit) × Unit) N (CF Zct N [1,1,0,1,0]),Zps (R:=(Y_Family × Unit) × Unit) N (CF Zct N [1,1,1,1,0,1,0])] at h
  exact Eq.trans (by kernel_rfl) h.symm
theorem Ztb (N:Nat):Good Tryz.prog 120 (Zjg N):=GF Zct N Tryz.func120 (Wa (Zn5 N) Zn4 (Wa (Zje N) Zjd (Wa (Zef N) Zed We))) (by kernel_rfl) (fun d=>Zta N d.1 d.2.1)
def Zj9 (N:Nat):Sig:=Sig.of [.box Jy,.v Ja false,.v Jc false,.v Jab true] [] (fun d=>Zh7 N d.1 d.2.1 d.2.2.1 d.2.2.2.1)
def Zu9:Fn:=⟨Tryz.f56,fun | 2=>[.opn 20] | _=>[],Zj9,fun N=>[(119,Zkq N),(120,Zjg N),(121,Ze9 N),(122,Zge N)]⟩
theorem Zva:Wc Tryz.prog 56:=Wb Tryz.func56 (show Wg Tryz.f56 = true by kernel_rfl)
theorem Zvb (N:Nat):Good Tryz.prog 56 (Zj9 N):=GF Zu9 N Tryz.func56 (Wa (Zxd N) Zxc (Wa (Ztb N) Zs9 (Wa (Zje N) Zjd (Wa (Zmb N) Zma We)))) (by kernel_rfl) (fun d=>by kernel_rfl)
def Zlt (N:Nat):Sig:=Sig.of [.box Jv,.v Jah true,.v Jl true] [] (fun d=>Zjj N d.1 d.2.1 d.2.2.1)
def Zy1:Fn:=⟨Tryz.f104,fun | 3=>[.unfE 6] | _=>[],Zlt,fun N=>[(55,Z1 N),(155,Zkp N),(56,Zj9 N)]⟩
theorem Zy2:Wc Tryz.prog 104:=Wb Tryz.func104 (show Wg Tryz.f104 = true by kernel_rfl)
theorem Zy3 (N:Nat):Good Tryz.prog 104 (Zlt N):=GF Zy1 N Tryz.func104 (Wa (Zab N) Zaa (Wa (Zxa N) Zw9 (Wa (Zvb N) Zva We))) (by kernel_rfl) (fun d=>by kernel_rfl)
def Znl (N:Nat):Sig:=Sig.of [.v Jah true] [.v (TY_World) true] (fun d=>Zc9 N d.1)
def Zka:Fn:=⟨Tryz.f36,fun | 3=>[.nest 21 Jae] | 6=>[.canon [1,2,3,32,33,34,35]] | 7=>[.canon [1,2,3,5,32,33,34]] | 8=>[.canon [1,2,3,32,33,34]] | 9=>[.canon [1,2,3,32,33,34]] | 100006=>[.adoptC 3 6 Jl,.adoptC 3 8 Jaa,.canon [1,2,3,32,33,34]] | _=>[],Znl,fun N=>[(103,Zmg N),(107,Zll N),(53,Zn2 N),(104,Zlt N)]⟩
def Zvc (t5:List Kb) (t7:Int) (b8:Ke × List Kk × List Kb) (b13:Int) (b14:Int) (b15:Int) (b16:Int) (l17:List Kb) (l18:List Int) (l19:List Kb) (l20:List Y_Root) (l21:List Kl):St:=⟨[(1,vP 0 0),(2,vP 1 0),(3,vP 2 0),(32,vV Je t5),(33,vI (ilen b8.2.2)),(34,vI t7)],[(0,.box [.val Jj b8.1.1,.val Jj b8.1.2.1,.val Ja b8.1.2.2,.val Jz b8.2.1,.val Je b8.2.2]),(1,.box [.val Ja (0:Int),.val Ja (0:Int),.val Ja (0:Int),.nils,.nils,.val Ja (0:Int),.nils,.nils,.nils]),(2,.box [.val Ja b13,.val Ja b14,.val Ja b15,.own 3,.own 4,.val Ja b16,.own 5,.own 6,.own 7]),(3,.arr Jl l17),(4,.arr Ja l18),(5,.arr Jl l19),(6,.arr Jae l20),(7,.arr Jaa l21)],8⟩
def Ztc (t5:List Kb) (b8:Ke × List Kk × List Kb) (t24:Int) (t25:Bool) (b26:Int) (b27:Int) (b28:Int) (b29:Int) (l30:List Kb) (l31:List Int) (l32:List Kb) (l33:List Y_Root) (l34:List Kl):St:=⟨[(1,vP 0 0),(2,vP 1 0),(3,vP 2 0),(32,vV Je t5),(33,vI (ilen b8.2.2)),(34,vI t24),(35,vB t25)],[(0,.box [.val Jj b8.1.1,.val Jj b8.1.2.1,.val Ja b8.1.2.2,.val Jz b8.2.1,.val Je b8.2.2]),(1,.box [.val Ja (0:Int),.val Ja (0:Int),.val Ja (0:Int),.nils,.nils,.val Ja (0:Int),.nils,.nils,.nils]),(2,.box [.val Ja b26,.val Ja b27,.val Ja b28,.own 3,.own 4,.val Ja b29,.own 5,.own 6,.own 7]),(3,.arr Jl l30),(4,.arr Ja l31),(5,.arr Jl l32),(6,.arr Jae l33),(7,.arr Jaa l34)],8⟩
theorem Zvd (N:Nat) {R:Type} (K:Ex → St → Option R) {t5:List Kb} {b8:Ke × List Kk × List Kb} {K0:Int → Bool → Int → Int → Int → Int → Kn → Kj → Kn → (List Y_Root) → (List Kl) → Option R} (h0:K0 = fun t24 t25 b26 b27 b28 b29 l30 l31 l32 l33 l34=>K (.exit 0) (Ztc t5 b8 t24 t25 b26 b27 b28 b29 l30 l31 l32 l33 l34)) (n:Nat) (t7:Int) (b13:Int) (b14:Int) (b15:Int) (b16:Int) (l17:List Kb) (l18:List Int) (l19:List Kb) (l20:List Y_Root) (l21:List Kl):Zas N t5 b8 K0 n t7 b13 b14 b15 b16 l17 l18 l19 l20 l21 = LM Zka N 0 100006 n (Zvc t5 t7 b8 b13 b14 b15 b16 l17 l18 l19 l20 l21) K:=by
  subst h0
  induction n generalizing t7 b13 b14 b15 b16 l17 l18 l19 l20 l21 with
  | zero=>kernel_rfl
  | succ n ih=>rw [Zas]; simp (disch:=exact id (by kernel_rfl)) only [ih]; kernel_rfl
theorem Z1w:Wc Tryz.prog 36:=Wb Tryz.func36 (show Wg Tryz.f36 = true by kernel_rfl)
theorem Z1x (N:Nat) (s1:Ke × List Kk × List Kb):DN Zka N (s1,()) = Zc9 N s1:=by
  have h:Zc9 N s1 = Zc9 N s1:=rfl
  conv at h=>rhs; rw [Zc9]
  simp (disch:=exact id (by kernel_rfl)) only [Zvd (R:=Unit × (Y_World × Unit)) N (CF Zka N [1,1,1,1,0,1,0])] at h
  exact Eq.trans (by kernel_rfl) h.symm
theorem Z1y (N:Nat):Good Tryz.prog 36 (Znl N):=GF Zka N Tryz.func36 (Wa (Zzl N) Zzk (Wa (Zx9 N) Zx7 (Wa (Z24 N) Z22 (Wa (Zy3 N) Zy2 We)))) (by kernel_rfl) (fun d=>Z1x N d.1)
def Zkb (N:Nat):Sig:=Sig.of [.v (TY_Root) true] [.v Jp false] (fun d=>Zhd N d.1)
def Z1z:Fn:=⟨Tryz.f40,Wy,Zkb,Wcj⟩
theorem Zp7:Wc Tryz.prog 40:=Wb Tryz.func40 (show Wg Tryz.f40 = true by kernel_rfl)
theorem Zp8 (N:Nat):Good Tryz.prog 40 (Zkb N):=GF Z1z N Tryz.func40 We (by kernel_rfl) (fun d=>by kernel_rfl)
def Znm (N:Nat):Sig:=Sig.of [.v (TY_Root) true] [.v Ja false] (fun d=>Zi6 N d.1)
def Z10:Fn:=⟨Tryz.f41,Wy,Znm,fun N=>[(40,Zkb N)]⟩
theorem Z11:Wc Tryz.prog 41:=Wb Tryz.func41 (show Wg Tryz.f41 = true by kernel_rfl)
theorem Z12 (N:Nat):Good Tryz.prog 41 (Znm N):=GF Z10 N Tryz.func41 (Wa (Zp8 N) Zp7 We) (by kernel_rfl) (fun d=>by kernel_rfl)
def Zmj (N:Nat):Sig:=Sig.of [.v Jj false,.v Jj false] [.v Jp false] (fun d=>Zcq N d.1 d.2.1)
def Ziz:Fn:=⟨Tryz.f17,fun | 4=>[.canon [0,1,5,14]] | 5=>[.canon [0,1,5]] | 6=>[.canon [0,1,5,25]] | 7=>[.canon [4]] | 100004=>[.canon [0,1,5]] | _=>[],Zmj,Wcj⟩
def Ztd (a3:List Int) (b4:List Int) (i5:Int):St:=⟨[(0,vV Jj a3),(1,vV Jj b4),(5,vI i5)],[],0⟩
def Zrm (a3:List Int) (b4:List Int):St:=⟨[(4,vB false)],[],0⟩
def Zrn (a3:List Int) (b4:List Int) (i6:Int) (t7:Bool):St:=⟨[(0,vV Jj a3),(1,vV Jj b4),(5,vI i6),(14,vB t7)],[],0⟩
theorem Zte (N:Nat) {R:Type} (K:Ex → St → Option R) {a3:List Int} {b4:List Int} {K0:Option R} {K1:Int → Bool → Option R} (h0:K0 = K .ret (Zrm a3 b4)) (h1:K1 = fun i6 t7=>K (.exit 0) (Zrn a3 b4 i6 t7)) (n:Nat) (i5:Int):Zcl N a3 b4 K0 K1 n i5 = LM Ziz N 0 100004 n (Ztd a3 b4 i5) K:=by
  subst h0 h1
  induction n generalizing i5 with
  | zero=>kernel_rfl
  | succ n ih=>rw [Zcl]; simp (disch:=exact id (by kernel_rfl)) only [ih]; kernel_rfl
theorem Zz3:Wc Tryz.prog 17:=Wb Tryz.func17 (show Wg Tryz.f17 = true by kernel_rfl)
theorem Zz4 (N:Nat) (a1:List Int) (b2:List Int):DN Ziz N (a1,b2,()) = Zcq N a1 b2:=by
  have h:Zcq N a1 b2 = Zcq N a1 b2:=rfl
  conv at h=>rhs; rw [Zcq]
  simp (disch:=exact id (by kernel_rfl)) only [Zte (R:=Unit × Kg) N (CF Ziz N [1,1,0,1,0])] at h
  exact Eq.trans (by kernel_rfl) h.symm
theorem Zz5 (N:Nat):Good Tryz.prog 17 (Zmj N):=GF Ziz N Tryz.func17 We (by kernel_rfl) (fun d=>Zz4 N d.1 d.2.1)
def Zmk (N:Nat):Sig:=Sig.of [.v Jg false,.v Jg false] [.v Jp false] (fun d=>Zdn N d.1 d.2.1)
def Zi0:Fn:=⟨Tryz.f111,fun | 4=>[.canon [0,1,5,14]] | 5=>[.canon [0,1,5]] | 6=>[.canon [0,1,5,25]] | 7=>[.canon [4]] | 100004=>[.canon [0,1,5]] | _=>[],Zmk,Wcj⟩
def Ztf (a3:List Kc) (b4:List Kc) (i5:Int):St:=⟨[(0,vV Jg a3),(1,vV Jg b4),(5,vI i5)],[],0⟩
def Zro (a3:List Kc) (b4:List Kc):St:=⟨[(4,vB false)],[],0⟩
def Zrp (a3:List Kc) (b4:List Kc) (i6:Int) (t7:Bool):St:=⟨[(0,vV Jg a3),(1,vV Jg b4),(5,vI i6),(14,vB t7)],[],0⟩
theorem Ztg (N:Nat) {R:Type} (K:Ex → St → Option R) {a3:List Kc} {b4:List Kc} {K0:Option R} {K1:Int → Bool → Option R} (h0:K0 = K .ret (Zro a3 b4)) (h1:K1 = fun i6 t7=>K (.exit 0) (Zrp a3 b4 i6 t7)) (n:Nat) (i5:Int):Zcm N a3 b4 K0 K1 n i5 = LM Zi0 N 0 100004 n (Ztf a3 b4 i5) K:=by
  subst h0 h1
  induction n generalizing i5 with
  | zero=>kernel_rfl
  | succ n ih=>rw [Zcm]; simp (disch:=exact id (by kernel_rfl)) only [ih]; kernel_rfl
theorem Zz6:Wc Tryz.prog 111:=Wb Tryz.func111 (show Wg Tryz.f111 = true by kernel_rfl)
theorem Zz7 (N:Nat) (a1:List Kc) (b2:List Kc):DN Zi0 N (a1,b2,()) = Zdn N a1 b2:=by
  have h:Zdn N a1 b2 = Zdn N a1 b2:=rfl
  conv at h=>rhs; rw [Zdn]
  simp (disch:=exact id (by kernel_rfl)) only [Ztg (R:=Unit × Kg) N (CF Zi0 N [1,1,0,1,0])] at h
  exact Eq.trans (by kernel_rfl) h.symm
theorem Zz8 (N:Nat):Good Tryz.prog 111 (Zmk N):=GF Zi0 N Tryz.func111 We (by kernel_rfl) (fun d=>Zz7 N d.1 d.2.1)
def Zml (N:Nat):Sig:=Sig.of [.v Js false,.v Js false] [.v Jp false] (fun d=>Zcr N d.1 d.2.1)
def Zi1:Fn:=⟨Tryz.f42,fun | 4=>[.canon [0,1,5,14]] | 5=>[.canon [0,1,5]] | 6=>[.canon [0,1,5,54]] | 7=>[.canon [4]] | 100004=>[.canon [0,1,5]] | _=>[],Zml,fun N=>[(111,Zmk N)]⟩
def Zth (a3:List Kl) (b4:List Kl) (i5:Int):St:=⟨[(0,vV Js a3),(1,vV Js b4),(5,vI i5)],[],0⟩
def Zrq (a3:List Kl) (b4:List Kl):St:=⟨[(4,vB false)],[],0⟩
def Zrr (a3:List Kl) (b4:List Kl) (i7:Int) (t8:Bool):St:=⟨[(0,vV Js a3),(1,vV Js b4),(5,vI i7),(14,vB t8)],[],0⟩
theorem Zti (N:Nat) {R:Type} (K:Ex → St → Option R) {a3:List Kl} {b4:List Kl} {K0:Option R} {K1:Int → Bool → Option R} (h0:K0 = K .ret (Zrq a3 b4)) (h1:K1 = fun i7 t8=>K (.exit 0) (Zrr a3 b4 i7 t8)) (n:Nat) (i5:Int):Zcn N a3 b4 K0 K1 n i5 = LM Zi1 N 0 100004 n (Zth a3 b4 i5) K:=by
  subst h0 h1
  induction n generalizing i5 with
  | zero=>kernel_rfl
  | succ n ih=>rw [Zcn]; simp (disch:=exact id (by kernel_rfl)) only [ih]; kernel_rfl
theorem Zz9:Wc Tryz.prog 42:=Wb Tryz.func42 (show Wg Tryz.f42 = true by kernel_rfl)
theorem Z0a (N:Nat) (a1:List Kl) (b2:List Kl):DN Zi1 N (a1,b2,()) = Zcr N a1 b2:=by
  have h:Zcr N a1 b2 = Zcr N a1 b2:=rfl
  conv at h=>rhs; rw [Zcr]
  simp (disch:=exact id (by kernel_rfl)) only [Zti (R:=Unit × Kg) N (CF Zi1 N [1,1,0,1,0])] at h
  exact Eq.trans (by kernel_rfl) h.symm
theorem Z0b (N:Nat):Good Tryz.prog 42 (Zml N):=GF Zi1 N Tryz.func42 (Wa (Zz8 N) Zz6 We) (by kernel_rfl) (fun d=>Z0a N d.1 d.2.1)
def Zo6 (N:Nat):Sig:=Sig.of [.v Jo false] [.v Jp false] (fun d=>Zb7 N d.1)
def Zim:Fn:=⟨Tryz.f6,fun | 13=>[.canon [3,5,6,7,62]] | 14=>[.canon [3,5,6,7]] | 15=>[.canon [3,5,6,7,8]] | 16=>[.canon [3,5,6,7,8,9]] | 17=>[.canon [3,5,6,7,8,9,111]] | 18=>[.canon [2]] | 19=>[.canon [3,5,6,7,116]] | 20=>[.canon [2]] | 100013=>[.canon [3,5,6,7]] | _=>[],Zo6,fun N=>[(9,Zpt N),(38,Zmc N),(35,Zme N),(39,Zq9 N),(36,Znl N),(40,Zkb N),(41,Znm N),(17,Zmj N),(42,Zml N)]⟩
def Zrs (i8:Int) (b9:Ke × List Kk × List Kb) (b10:Y_World) (b11:Y_World):St:=⟨[(3,vP 0 0),(5,vP 1 0),(6,vP 2 0),(7,vI i8)],[(0,.box [.val Jj b9.1.1,.val Jj b9.1.2.1,.val Ja b9.1.2.2,.val Jz b9.2.1,.val Je b9.2.2]),(1,.box [.val Ja b10.1,.val Ja b10.2.1,.val Ja b10.2.2.1.1,.val Je b10.2.2.1.2,.val Jj b10.2.2.2.1.1,.val Ja b10.2.2.2.1.2,.val Je b10.2.2.2.2.1,.val (.slice (TY_Root)) b10.2.2.2.2.2.1,.val Js b10.2.2.2.2.2.2]),(2,.box [.val Ja b11.1,.val Ja b11.2.1,.val Ja b11.2.2.1.1,.val Je b11.2.2.1.2,.val Jj b11.2.2.2.1.1,.val Ja b11.2.2.2.1.2,.val Je b11.2.2.2.2.1,.val (.slice (TY_Root)) b11.2.2.2.2.2.1,.val Js b11.2.2.2.2.2.2])],3⟩
def Zqo (b9:Ke × List Kk × List Kb) (b10:Y_World) (b11:Y_World):St:=⟨[(2,vB false)],[],0⟩
def Zqp (b9:Ke × List Kk × List Kb) (b10:Y_World) (b11:Y_World) (i18:Int) (t19:Bool):St:=⟨[(3,vP 0 0),(5,vP 1 0),(6,vP 2 0),(7,vI i18),(62,vB t19)],[(0,.box [.val Jj b9.1.1,.val Jj b9.1.2.1,.val Ja b9.1.2.2,.val Jz b9.2.1,.val Je b9.2.2]),(1,.box [.val Ja b10.1,.val Ja b10.2.1,.val Ja b10.2.2.1.1,.val Je b10.2.2.1.2,.val Jj b10.2.2.2.1.1,.val Ja b10.2.2.2.1.2,.val Je b10.2.2.2.2.1,.val (.slice (TY_Root)) b10.2.2.2.2.2.1,.val Js b10.2.2.2.2.2.2]),(2,.box [.val Ja b11.1,.val Ja b11.2.1,.val Ja b11.2.2.1.1,.val Je b11.2.2.1.2,.val Jj b11.2.2.2.1.1,.val Ja b11.2.2.2.1.2,.val Je b11.2.2.2.2.1,.val (.slice (TY_Root)) b11.2.2.2.2.2.1,.val Js b11.2.2.2.2.2.2])],3⟩
theorem Zrt (N:Nat) {R:Type} (K:Ex → St → Option R) {b9:Ke × List Kk × List Kb} {b10:Y_World} {b11:Y_World} {K0:Option R} {K1:Int → Bool → Option R} (h0:K0 = K .ret (Zqo b9 b10 b11)) (h1:K1 = fun i18 t19=>K (.exit 0) (Zqp b9 b10 b11 i18 t19)) (n:Nat) (i8:Int):Za7 N b9 b10 b11 K0 K1 n i8 = LM Zim N 0 100013 n (Zrs i8 b9 b10 b11) K:=by
  subst h0 h1
  induction n generalizing i8 with
  | zero=>kernel_rfl
  | succ n ih=>rw [Za7]; simp (disch:=exact id (by kernel_rfl)) only [ih]; kernel_rfl
theorem Z4w:Wc Tryz.prog 6:=Wb Tryz.func6 (show Wg Tryz.f6 = true by kernel_rfl)
theorem Zy4 (N:Nat) (code1:List Int):DN Zim N (code1,()) = Zb7 N code1:=by
  have h:Zb7 N code1 = Zb7 N code1:=rfl
  conv at h=>rhs; rw [Zb7]
  simp (disch:=exact id (by kernel_rfl)) only [Zrt (R:=Unit × Kg) N (CF Zim N [1,1,1,1,1,1,1,1,1,0,1,0])] at h
  exact Eq.trans (by kernel_rfl) h.symm
theorem Zy5 (N:Nat):Good Tryz.prog 6 (Zo6 N):=GF Zim N Tryz.func6 (Wa (Z4r N) Z4q (Wa (Zy9 N) Zy8 (Wa (Zzf N) Zzd (Wa (Z4v N) Z4u (Wa (Z1y N) Z1w (Wa (Zp8 N) Zp7 (Wa (Z12 N) Z11 (Wa (Zz5 N) Zz3 (Wa (Z0b N) Zz9 We))))))))) (by kernel_rfl) (fun d=>Zy4 N d.1)
end
end Go.Sx
