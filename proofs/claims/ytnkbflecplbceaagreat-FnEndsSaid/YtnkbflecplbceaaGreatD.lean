/- Each Go function does what its Lean function says. -/
import Derived.Test.YtnkbflecplbceaaGreatT2
import Derived.Test.YtnkbflecplbceaaGreatProg
import Derived.Test.YtnkbflecplbceaaGreatLay
open Bool renaming and_eq_true→Xh
open List renaming cons_append→Xbf,nil_append→Xcd
namespace Go.Sx
noncomputable section
open Go.Proofs
abbrev Ja:Ty:=.int .i64
abbrev Jb:Ty:=.prod (.own Ja) (.prod (.own (.prod Ja Ja)) (.prod (.own (.prod Ja (.prod Ja Ja))) (.prod (.own Ja) (.prod (.own (.prod Ja Ja)) (.own (.prod Ja (.prod Ja (.prod Ja (.prod Ja (.prod Ja (.prod Ja (.prod (.own Ja) (.prod (.own (.prod Ja (.prod Ja Ja))) (.prod (.own (.prod Ja Ja)) (.prod (.own (.prod Ja (.prod Ja (.own Ja)))) (.prod (.bool) (.prod Ja (.prod Ja (.prod Ja Ja)))))))))))))))))))
abbrev Jc:Ty:=.slice (.prod Ja (.prod Ja (.prod Ja Ja)))
abbrev Jd:Ty:=.prod Ja (.prod Ja (.prod Ja (.prod Ja (.prod Ja (.prod (.own (.prod Ja Ja)) (.own Ja))))))
abbrev Je:Ty:=.slice (.prod Ja (.prod Ja Ja))
abbrev Jf:Ty:=.own (.prod Ja (.prod Ja (.prod Ja (.prod Ja (.slice Ja)))))
abbrev Jg:Ty:=.prod Ja (.prod Ja (.slice (.prod Ja Ja)))
abbrev Jh:Ty:=.prod Ja (.prod Ja (.prod Ja (.prod Ja (.prod Ja (.prod Ja (.prod Ja (.prod Ja (.prod Ja (.prod Ja (.prod (.bool) (.prod (.own Ja) (.prod (.own (.prod Ja Ja)) (.prod (.own (.prod Ja Ja)) (.prod Jf (.prod (.own (.prod Ja (.prod Ja Ja))) (.prod (.own Ja) (.prod (.bool) (.prod (.prod Ja (.prod Ja (.prod Ja Ja))) (.prod Jd (.prod Ja (.prod Ja (.prod Ja (.prod (.bool) Jb)))))))))))))))))))))))
abbrev Ji:Ty:=.prod Ja (.prod Ja (.prod Ja (.prod Ja (.prod Ja (.prod Ja (.prod (.own Ja) (.prod (.own (.prod Ja (.prod Ja Ja))) (.prod (.own (.prod Ja Ja)) (.prod (.own (.prod Ja (.prod Ja (.own Ja)))) (.prod (.bool) (.prod Ja (.prod Ja (.prod Ja Ja)))))))))))))
abbrev Jj:Ty:=.slice Ja
abbrev Jk:Ty:=.prod (.slice (.int .u8)) (.prod Ja Ja)
abbrev Jl:Ty:=.prod Ja (.prod Ja Ja)
abbrev Jm:Ty:=.prod Jc (.slice Jc)
abbrev Jn:Ty:=.slice (.prod Ja Ja)
abbrev Jo:Ty:=.prod (.own (.prod Ja Jh)) (.own Jg)
abbrev Jp:Ty:=.slice (.int .u8)
abbrev Jq:Ty:=.bool
abbrev Jr:Ty:=.prod (.own Ja) Ja
abbrev Js:Ty:=.slice (TY_Root)
abbrev Jt:Ty:=.prod Jj (.prod Jj Ja)
abbrev Ju:Ty:=.prod Ja (.prod Ja (.own Ja))
abbrev Jv:Ty:=.prod Ja Je
abbrev Jw:Ty:=.prod Ja (.prod Ja (.prod (.prod Ja (.own Jl)) (.prod Jr (.prod (.own Jl) Jo))))
abbrev Jx:Ty:=.prod Ja Ja
abbrev Jy:Ty:=.prod Ja Jl
abbrev Jz:Ty:=.prod Ja (.prod Ja (.prod Ja (.prod Ja (.prod Jn Jj))))
abbrev Jaa:Ty:=.prod Ja (.prod Ja (.prod Ja (.prod Jq Jb)))
abbrev Jab:Ty:=.slice Jm
abbrev Jac:Ty:=.prod Ja Jh
abbrev Jad:Ty:=.own Ja
abbrev Jae:Ty:=.slice (TY_KidRun)
abbrev Jaf:Ty:=.prod Ja (.prod Ja (.prod Ja Jj))
abbrev Jag:Ty:=.prod Jt (.prod Jab Je)
abbrev Jah:Ty:=.prod Ja (.own Jl)
abbrev Ka:Type:=Int×Int×Int×Int
abbrev Kb:Type:=Int×Int×Int
abbrev Kc:Type:=Int×Int
abbrev Ke:Type:=List Int×List Int×Int
abbrev Kf:Type:=List Int×Int×Int
abbrev Kg:Type:=Bool×Unit
abbrev Kh:Type:=Int×Unit
abbrev Ki:Type:=List Int
abbrev Kj:Type:=Int×Int×List Int
abbrev Kk:Type:=List Ka×List (List Ka)
abbrev Kl:Type:=Int×Int×List Kc
abbrev Km:Type:=List Kb
abbrev Kn:Type:=Kf×Unit
abbrev Ko:Type:=Ki×Unit
abbrev Kq:Type:=List Ka
set_option linter.unusedVariables false
set_option linter.unusedSimpArgs false
def tab:Tab:=[(3,⟨.int .i64,false,.basic⟩),(4,⟨.bool,false,.basic⟩),(5,⟨.int .u8,false,.basic⟩),(22,⟨.slice (.int .u8),false,.slice 5⟩),(24,⟨.slice Ja,false,.slice 3⟩),(26,⟨.prod Jj (.prod Jj Ja),true,.struct [(0,24),(1,24),(2,3)]⟩),(27,⟨.slice Jm,false,.slice 55⟩),(28,⟨.slice Jl,false,.slice 90⟩),(30,⟨.prod Jt (.prod Jab Je),true,.struct [(0,26),(3,27),(4,28)]⟩),(32,⟨.slice Jl,false,.slice 95⟩),(34,⟨.prod Ja Je,true,.struct [(0,3),(1,32)]⟩),(36,⟨.prod Jj Ja,true,.struct [(0,24),(1,3)]⟩),(37,⟨.slice Jl,false,.slice 199⟩),(38,⟨.slice (TY_Root),false,.slice 75⟩),(39,⟨.slice Jg,false,.slice 194⟩),(41,⟨TY_World,true,.struct [(0,3),(1,3),(2,34),(4,36),(6,37),(7,38),(8,39)]⟩),(52,⟨.slice Jy,false,.slice 81⟩),(53,⟨.slice Jc,false,.slice 84⟩),(55,⟨.prod Jc (.slice Jc),true,.struct [(0,52),(1,53)]⟩),(63,⟨.slice Jx,false,.slice 180⟩),(64,⟨.slice (.prod Ja Jaf),false,.slice 158⟩),(65,⟨.slice Jl,false,.slice 187⟩),(67,⟨.prod Ja Jl,true,.struct [(0,3),(1,3),(2,3),(3,3)]⟩),(69,⟨.prod Ja Jz,true,.struct [(0,3),(1,3),(2,3),(3,3),(4,3),(5,63),(6,24)]⟩),(70,⟨.slice Jl,false,.slice 168⟩),(71,⟨.slice (TY_KidRun),false,.slice 166⟩),(73,⟨TY_Family,true,.struct [(0,3),(1,3),(2,3),(3,4),(4,24),(5,63),(6,70),(7,24),(8,63),(9,71)]⟩),(75,⟨TY_Root,true,.struct [(0,3),(1,3),(2,3),(3,3),(4,3),(5,3),(6,3),(7,3),(8,3),(9,3),(10,3),(11,4),(12,24),(13,63),(14,63),(15,64),(16,65),(17,24),(18,4),(19,67),(23,69),(30,73)]⟩),(81,⟨.prod Ja Jl,true,.struct [(0,3),(1,3),(2,3),(3,3)]⟩),(84,⟨.slice Jy,true,.struct [(0,52)]⟩),(90,⟨.prod Ja Jx,true,.struct [(0,3),(1,3),(2,3)]⟩),(95,⟨.prod Ja Jx,true,.struct [(0,3),(1,3),(2,3)]⟩),(117,⟨.prod Jp Jx,true,.struct [(0,22),(1,3),(2,3)]⟩),(150,⟨.bool,true,.arr 8 4⟩),(158,⟨.prod Ja Jaf,true,.struct [(0,3),(1,3),(2,3),(3,3),(4,24)]⟩),(164,⟨.slice (.prod Ja (.prod Ja Jj)),false,.slice 204⟩),(166,⟨TY_KidRun,true,.struct [(0,3),(1,3),(2,3),(3,3),(4,3),(5,3),(6,24),(7,70),(8,63),(9,164),(10,4),(11,67)]⟩),(168,⟨.prod Ja Jx,true,.struct [(0,3),(1,3),(2,3)]⟩),(180,⟨.prod Ja Ja,true,.struct [(0,3),(1,3)]⟩),(187,⟨.prod Ja Jx,true,.struct [(0,3),(1,3),(2,3)]⟩),(194,⟨.prod Ja (.prod Ja Jn),true,.struct [(0,3),(1,3),(2,63)]⟩),(199,⟨.prod Ja Jx,true,.struct [(0,3),(1,3),(2,3)]⟩),(204,⟨.prod Ja (.prod Ja Jj),true,.struct [(0,3),(1,3),(2,24)]⟩)]
theorem mixedOk:Tryz.prog.follows .mixedOrders=true:=by kernel_rfl
theorem tabOk:Wbj Tryz.prog tab:=tab_ok (show chkTab Tryz.prog tab tab=true by kernel_rfl)
def LM(x:Fn)(N:Nat){R:Type}(i k n:Nat)(st:St)(K:Ex→St→Option R):Option R:=lpM tab (x.c N) x.a N x.F i k n st K
def CF(x:Fn)(N:Nat)(p:List Nat):Ex→St→Option (Qs (x.s N)):=cxF tab (x.c N) x.a N (x.s N) x.F p
def CL(x:Fn)(N:Nat){R:Type}(i k:Nat)(p:List Nat)(n:Nat)(K:Ex→St→Option R):Ex→St→Option R:=cxL tab (x.c N) x.a N x.F i k p n K
def DN(x:Fn)(N:Nat)(d:PDen (x.s N).ps):Option (Qs (x.s N)):=den (R:=Qs (x.s N)) tab (x.c N) x.a N (x.s N) x.F d some
def GW(k:FuncId)(s:Sig):Prop:=Won Tryz.prog k∧Good Tryz.prog k s
theorem GC{k:FuncId}{s:Sig}{Γ:Ctx}(h:GW k s)(hc:Wmk Tryz.prog Γ):Wmk Tryz.prog ((k,s)::Γ):=ctx_cons h.2 h.1 hc
theorem GF(x:Fn){k:FuncId}(N:Nat)(hf:Tryz.prog.funcs[k]?=some x.F)(hc:Wmk Tryz.prog (x.c N))(h:∀d,DN x N d=(x.s N).run d:=by intro d;kernel_rfl)(hok:(chkFn x.F&&chkBody x.F (x.s N).ps)=true:=by kernel_rfl):GW k (x.s N):=
  ⟨Wjv hf (Xh .. ▸hok).1,good_body mixedOk tabOk hc hf (Xh .. ▸hok).2 (λd _ e=>⟨N,(h d).trans e⟩)⟩
def Zpn(N:Nat):Sig:=Sig.of [.v Jp false] [.v Jq false] (λd=>Zsk N d.1)
def Z16:Fn:=⟨Tryz.f9,Ws,Zpn,Wde⟩
theorem Z17(N:Nat):GW 9 (Zpn N):=GF Z16 N Tryz.func9 Wa
def Zoo(N:Nat):Sig:=Sig.of [.v Jp false] [.box Jk] (λd=>Zjp N d.1)
def Zl9:Fn:=⟨Tryz.f32,λ |3=>[.canon [0,3,4,15]]|4=>[.canon [0,3,4]]|5=>[.canon [0,3,4]]|100003=>[.canon [0,3,4]]|_=>[],Zoo,Wde⟩
def Zv6(code2:List Int)(h3:Int)(i4:Int):St:=⟨[(0,vV Jp code2),(3,vI h3),(4,vI i4)],[],0⟩
def Zud(code2:List Int)(h5:Int)(i6:Int)(t7:Bool):St:=⟨[(0,vV Jp code2),(3,vI h5),(4,vI i6),(15,vB t7)],[],0⟩
theorem Zv7(N:Nat){R:Type}(K:Ex→St→Option R){code2:List Int}{K0:Int→Int→Bool→Option R}(h0:K0= λh5 i6 t7=>K (.exit 0) (Zud code2 h5 i6 t7))(n:Nat)(h3:Int)(i4:Int):Zcx N code2 K0 n h3 i4=LM Zl9 N 0 100003 n (Zv6 code2 h3 i4) K:=by
  subst h0
  induction n generalizing h3 i4 with
  |zero=>kernel_rfl
  |succ n ih=>rw[Zcx];simp only[ih];kernel_rfl
theorem Z02(N:Nat)(code1:List Int):DN Zl9 N (code1,())=Zjp N code1:=by
  conv=>rhs;rw[Zjp];simp(disch:=exact id (by kernel_rfl)) only[Zv7 (R:=Unit×Kn) N (CF Zl9 N [1,1,0,1,0])]
  kernel_rfl
theorem Z03(N:Nat):GW 32 (Zoo N):=GF Zl9 N Tryz.func32 Wa (λd=>Z02 N d.1)
def Znz(N:Nat):Sig:=Sig.of [.v Jp false,.v Ja false] [.v Ja false] (λd=>Zm0 N d.1 d.2.1)
def Zzs:Fn:=⟨Tryz.f34,Ws,Znz,Wde⟩
theorem Zzt(N:Nat):GW 34 (Znz N):=GF Zzs N Tryz.func34 Wa
def Zn0(N:Nat):Sig:=Sig.of [.box Jk] [.v Ja false] (λd=>Zf3 N d.1)
def Zzu:Fn:=⟨Tryz.f108,Ws,Zn0,Wde⟩
theorem Zzv(N:Nat):GW 108 (Zn0 N):=GF Zzu N Tryz.func108 Wa
def Zac(N:Nat):Sig:=Sig.of [.box Jk,.v Ja false] [.v Ja false] (λd=>Zb N d.1 d.2.1)
def Zym:Fn:=⟨Tryz.f70,Ws,Zac,λN=>[(108,Zn0 N)]⟩
theorem Zam(N:Nat):GW 70 (Zac N):=GF Zym N Tryz.func70 (GC (Zzv N) Wa)
def Zca(N:Nat):Sig:=Sig.of [.box Jk,.v Ja false] [.v Jq false] (λd=>Zv N d.1 d.2.1)
def Zzw:Fn:=⟨Tryz.f50,Ws,Zca,λN=>[(70,Zac N)]⟩
theorem Zdn(N:Nat):GW 50 (Zca N):=GF Zzw N Tryz.func50 (GC (Zam N) Wa)
def Zg0(N:Nat):Sig:=Sig.of [.box Jk,.v Jj false] [.v Ja false] (λd=>Zbz N d.1 d.2.1)
def Zv8:Fn:=⟨Tryz.f126,Ws,Zg0,λN=>[(70,Zac N)]⟩
theorem Zlr(N:Nat):GW 126 (Zg0 N):=GF Zv8 N Tryz.func126 (GC (Zam N) Wa)
def Ziz(N:Nat):Sig:=Sig.of [.box Jk] [.v Ja false] (λd=>Zhd N d.1)
def Zzx:Fn:=⟨Tryz.f85,Ws,Ziz,λN=>[(50,Zca N),(126,Zg0 N),(70,Zac N)]⟩
theorem Zn1(N:Nat):GW 85 (Ziz N):=GF Zzx N Tryz.func85 (GC (Zdn N) (GC (Zlr N) (GC (Zam N) Wa)))
def Zky(N:Nat):Sig:=Sig.of [.box Jk] [.v Jad false] (λd=>Zfq N d.1)
def Zia:Fn:=⟨Tryz.f84,λ |3=>[.canon [0,3,4,7]]|4=>[.canon [0,3,4]]|5=>[.canon [0,3,4]]|100003=>[.canon [0,3,4]]|_=>[],Zky,λN=>[(85,Ziz N)]⟩
def Zpx(i2:Int)(b3:List Int×Int×Int)(l4:List Int):St:=⟨[(0,vP 0 0),(3,vO 1),(4,vI i2)],[(0,.box [.val Jp b3.1,.val Ja b3.2.1,.val Ja b3.2.2]),(1,.arr Ja l4)],2⟩
def Zpo(i6:Int)(t7:Bool)(b8:List Int×Int×Int)(l9:List Int):St:=⟨[(0,vP 0 0),(3,vO 1),(4,vI i6),(7,vB t7)],[(0,.box [.val Jp b8.1,.val Ja b8.2.1,.val Ja b8.2.2]),(1,.arr Ja l9)],2⟩
theorem Zpy(N:Nat){R:Type}(K:Ex→St→Option R){K0:Int→Bool→Kf→Ki→Option R}(h0:K0= λi6 t7 b8 l9=>K (.exit 0) (Zpo i6 t7 b8 l9))(n:Nat)(i2:Int)(b3:List Int×Int×Int)(l4:List Int):Zct N K0 n i2 b3 l4=LM Zia N 0 100003 n (Zpx i2 b3 l4) K:=by
  subst h0
  induction n generalizing i2 b3 l4 with
  |zero=>kernel_rfl
  |succ n ih=>rw[Zct];simp only[ih];kernel_rfl
theorem Zue(N:Nat)(c1:List Int×Int×Int):DN Zia N (c1,())=Zfq N c1:=by
  conv=>rhs;rw[Zfq];simp(disch:=exact id (by kernel_rfl)) only[Zpy (R:=Kn×Ko) N (CF Zia N [1,1,0,1,0])]
  kernel_rfl
theorem Zuf(N:Nat):GW 84 (Zky N):=GF Zia N Tryz.func84 (GC (Zn1 N) Wa) (λd=>Zue N d.1)
def Zjd(N:Nat):Sig:=Sig.of [.box Jk] [.v (.prod Jad Jr) true] (λd=>Zff N d.1)
def Zje:Fn:=⟨Tryz.f53,λ |3=>[.canon [0,2,3,4,12]]|4=>[.canon [0,2,3,4]]|5=>[.canon [0,2,3,4,5]]|6=>[.canon [0,2,3,4,5,16]]|7=>[.canon [0,2,3,4,5]]|8=>[.canon [0,2,3,4]]|100003=>[.adoptC 3 1 Ja,.canon [0,2,3,4]]|_=>[],Zjd,λN=>[(84,Zky N),(85,Ziz N),(50,Zca N)]⟩
def Zq5(i4:Int)(b5:List Int×Int×Int)(b7:Int)(l8:List Int)(l9:List Int):St:=⟨[(0,vP 0 0),(2,vP 1 0),(3,vP 2 0),(4,vI i4)],[(0,.box [.val Jp b5.1,.val Ja b5.2.1,.val Ja b5.2.2]),(1,.box [.nils,.nils,.val Ja (0:Int)]),(2,.box [.own 3,.own 4,.val Ja b7]),(3,.arr Ja l8),(4,.arr Ja l9)],5⟩
def Zqj(b7:Int)(l8:List Int)(i14:Int)(t15:Bool)(b16:List Int×Int×Int)(l17:List Int):St:=⟨[(0,vP 0 0),(2,vP 1 0),(3,vP 2 0),(4,vI i14),(12,vB t15)],[(0,.box [.val Jp b16.1,.val Ja b16.2.1,.val Ja b16.2.2]),(1,.box [.nils,.nils,.val Ja (0:Int)]),(2,.box [.own 3,.own 4,.val Ja b7]),(3,.arr Ja l8),(4,.arr Ja l17)],5⟩
theorem Zq6(N:Nat){R:Type}(K:Ex→St→Option R){b7:Int}{l8:List Int}{K0:Int→Bool→Kf→Ki→Option R}(h0:K0= λi14 t15 b16 l17=>K (.exit 0) (Zqj b7 l8 i14 t15 b16 l17))(n:Nat)(i4:Int)(b5:List Int×Int×Int)(l9:List Int):Zcq N b7 l8 K0 n i4 b5 l9=LM Zje N 0 100003 n (Zq5 i4 b5 b7 l8 l9) K:=by
  subst h0
  induction n generalizing i4 b5 l9 with
  |zero=>kernel_rfl
  |succ n ih=>rw[Zcq];simp only[ih];kernel_rfl
theorem Zxp(N:Nat)(c1:List Int×Int×Int):DN Zje N (c1,())=Zff N c1:=by
  conv=>rhs;rw[Zff];simp(disch:=exact id (by kernel_rfl)) only[Zq6 (R:=Kn×(Ke×Unit)) N (CF Zje N [1,1,0,1,0])]
  kernel_rfl
theorem Zpd(N:Nat):GW 53 (Zjd N):=GF Zje N Tryz.func53 (GC (Zuf N) (GC (Zn1 N) (GC (Zdn N) Wa))) (λd=>Zxp N d.1)
def Zls(N:Nat):Sig:=Sig.of [.box Jk] [.v Ja false] (λd=>Za N d.1)
def Zv9:Fn:=⟨Tryz.f161,Ws,Zls,λN=>[(70,Zac N)]⟩
theorem Zwa(N:Nat):GW 161 (Zls N):=GF Zv9 N Tryz.func161 (GC (Zam N) Wa)
def Zkz(N:Nat):Sig:=Sig.of [.box Jk] [.v Ja false] (λd=>Zb7 N d.1)
def Zug:Fn:=⟨Tryz.f162,Ws,Zkz,λN=>[(50,Zca N),(70,Zac N)]⟩
theorem Zuh(N:Nat):GW 162 (Zkz N):=GF Zug N Tryz.func162 (GC (Zdn N) (GC (Zam N) Wa))
def Zlt(N:Nat):Sig:=Sig.of [.box Jk] [.v Ja false] (λd=>Zk N d.1)
def Zwb:Fn:=⟨Tryz.f163,Ws,Zlt,λN=>[(50,Zca N),(70,Zac N),(126,Zg0 N)]⟩
theorem Zwc(N:Nat):GW 163 (Zlt N):=GF Zwb N Tryz.func163 (GC (Zdn N) (GC (Zam N) (GC (Zlr N) Wa)))
def Zj3(N:Nat):Sig:=Sig.of [.box Jk,.v Ja false] [.v Jy true] (λd=>Zj N d.1 d.2.1)
def Zyn:Fn:=⟨Tryz.f124,Ws,Zj3,λN=>[(161,Zls N),(85,Ziz N),(162,Zkz N),(70,Zac N),(163,Zlt N)]⟩
theorem Zpp(N:Nat):GW 124 (Zj3 N):=GF Zyn N Tryz.func124 (GC (Zwa N) (GC (Zn1 N) (GC (Zuh N) (GC (Zam N) (GC (Zwc N) Wa)))))
def Zk9(N m:Nat):Sig:=Sig.of [.box Jk,.v Ja false,.v Ja false,.v Jq false] [.v (.own Jy) false] (λd=>Zel N m d.1 d.2.1 d.2.2.1 d.2.2.2.1)
def Zq7(N:Nat):Sig:=Zk9 N N
def Zma(m:Nat):Fn:=⟨Tryz.f82,λ |3=>[.canon [0,1,2,3,9,10,27]]|4=>[.canon [0,1,2,3,9,10]]|5=>[.canon [0,1,2,3,9,10,11]]|6=>[.canon [0,1,2,3,9,10]]|7=>[.canon [0,1,2,3,9,10,11,40]]|8=>[.canon [0,1,2,3,9,10]]|9=>[.canon [0,1,2,3,9,10,11,48]]|10=>[.canon [0,1,2,3,9,10]]|11=>[.canon [0,1,2,3,9,10,11,56]]|12=>[.canon [0,1,2,3,9,10]]|13=>[.canon [0,1,2,3,9,10,11,67]]|14=>[.canon [0,1,2,3,9,10,12]]|15=>[.canon [0,1,2,3,9,10,12]]|16=>[.canon [0,1,2,3,9,10]]|17=>[.canon [0,1,2,3,9,10,100]]|18=>[.canon [0,1,2,3,9,10]]|19=>[.canon [0,1,2,3,9,10]]|20=>[.canon [0,1,2,3,9,10,11,109]]|21=>[.canon [0,1,2,3,9,10,13]]|22=>[.canon [0,1,2,3,9,10,13,14]]|23=>[.canon [0,1,2,3,9,10,13,14]]|24=>[.canon [0,1,2,3,9,10,13]]|25=>[.canon [0,1,2,3,9,10]]|26=>[.canon [0,1,2,3,9,10,134]]|27=>[.canon [0,1,2,3,9,10]]|28=>[.canon [0,1,2,3,9,10,145]]|29=>[.canon [0,1,2,3,9,10]]|100003=>[.canon [0,1,2,3,9,10]]|_=>[],λN=>Zk9 N (m+1),λN=>[(70,Zac N),(124,Zj3 N),(82,Zk9 N m),(50,Zca N)]⟩
def Zwd(most6:Int)(deep7:Int)(kid8:Bool)(n9:Int)(b10:List Int×Int×Int)(l11:List Ka):St:=⟨[(0,vP 0 0),(1,vI most6),(2,vI deep7),(3,vB kid8),(9,vO 1),(10,vI n9)],[(0,.box [.val Jp b10.1,.val Ja b10.2.1,.val Ja b10.2.2]),(1,.arr Jy l11)],2⟩
def Zui(most6:Int)(deep7:Int)(kid8:Bool)(n80:Int)(t81:Bool)(b82:List Int×Int×Int)(l83:List Ka):St:=⟨[(0,vP 0 0),(1,vI most6),(2,vI deep7),(3,vB kid8),(9,vO 1),(10,vI n80),(27,vB t81)],[(0,.box [.val Jp b82.1,.val Ja b82.2.1,.val Ja b82.2.2]),(1,.arr Jy l83)],2⟩
theorem Zwe(N m:Nat){R:Type}(K:Ex→St→Option R){most6:Int}{deep7:Int}{kid8:Bool}{K0:Int→Bool→Kf→Kq→Option R}(h0:K0= λn80 t81 b82 l83=>K (.exit 0) (Zui most6 deep7 kid8 n80 t81 b82 l83))(n:Nat)(n9:Int)(b10:List Int×Int×Int)(l11:List Ka):Zc N (Zel N m) most6 deep7 kid8 K0 n n9 b10 l11=LM (Zma m) N 0 100003 n (Zwd most6 deep7 kid8 n9 b10 l11) K:=by
  subst h0
  induction n generalizing n9 b10 l11 with
  |zero=>kernel_rfl
  |succ n ih=>rw[Zc];simp only[ih];kernel_rfl
theorem Z04(N m:Nat)(c1:List Int×Int×Int)(most2:Int)(deep3:Int)(kid4:Bool):DN (Zma m) N (c1,most2,deep3,kid4,())=Zel N (m+1) c1 most2 deep3 kid4:=by
  conv=>rhs;rw[Zel];simp(disch:=exact id (by kernel_rfl)) only[Zwe (R:=Kn×(Kq×Unit)) N m (CF (Zma m) N [1,1,0,1,0])]
  kernel_rfl
theorem Zqc(N:Nat):∀m,GW 82 (Zk9 N m)
  |0=>⟨Wjv Tryz.func82 (show chkFn Tryz.f82=true by kernel_rfl),λd o h=>nomatch (show none=some o from h)⟩
  |m+1=>GF (Zma m) N Tryz.func82 (GC (Zam N) (GC (Zpp N) (GC (Zqc N m) (GC (Zdn N) Wa)))) (λd=>Z04 N m d.1 d.2.1 d.2.2.1 d.2.2.2.1)
theorem Z05(N:Nat):GW 82 (Zq7 N):=Zqc N N
def Zla(N:Nat):Sig:=Sig.of [.box Jk,.v Jq false] [.v (.prod (.own Jy) (.own Jc)) true] (λd=>Zdy N d.1 d.2.1)
def Zlb:Fn:=⟨Tryz.f49,λ |7=>[.canon [0,4,7,8,38]]|8=>[.canon [0,4,7,8]]|9=>[.canon [0,4,7,8]]|100007=>[.adoptC 7 1 Jc,.canon [0,4,7,8]]|_=>[],Zla,λN=>[(70,Zac N),(82,Zq7 N)]⟩
def Zuj(n10:Int)(b11:List Int×Int×Int)(l12:List Ka)(l13:List Kq):St:=⟨[(0,vP 0 0),(4,vP 1 0),(7,vP 2 0),(8,vI n10)],[(0,.box [.val Jp b11.1,.val Ja b11.2.1,.val Ja b11.2.2]),(1,.box [.nils,.nils]),(2,.box [.own 3,.own 4]),(3,.arr Jy l12),(4,.arr Jc l13)],5⟩
def Zsl(l12:List Ka)(n16:Int)(t17:Bool)(b18:List Int×Int×Int)(l19:List Kq):St:=⟨[(0,vP 0 0),(4,vP 1 0),(7,vP 2 0),(8,vI n16),(38,vB t17)],[(0,.box [.val Jp b18.1,.val Ja b18.2.1,.val Ja b18.2.2]),(1,.box [.nils,.nils]),(2,.box [.own 3,.own 4]),(3,.arr Jy l12),(4,.arr Jc l19)],5⟩
theorem Zuk(N:Nat){R:Type}(K:Ex→St→Option R){l12:List Ka}{K0:Int→Bool→Kf→(List Kq)→Option R}(h0:K0= λn16 t17 b18 l19=>K (.exit 0) (Zsl l12 n16 t17 b18 l19))(n:Nat)(n10:Int)(b11:List Int×Int×Int)(l13:List Kq):Zfr N l12 K0 n n10 b11 l13=LM Zlb N 0 100007 n (Zuj n10 b11 l12 l13) K:=by
  subst h0
  induction n generalizing n10 b11 l13 with
  |zero=>kernel_rfl
  |succ n ih=>rw[Zfr];simp only[ih];kernel_rfl
theorem Zzy(N:Nat)(c1:List Int×Int×Int)(forks2:Bool):DN Zlb N (c1,forks2,())=Zdy N c1 forks2:=by
  conv=>rhs;rw[Zdy];simp(disch:=exact id (by kernel_rfl)) only[Zuk (R:=Kn×(Kk×Unit)) N (CF Zlb N [1,1,1,1,1,0,1,0])]
  kernel_rfl
theorem Zqd(N:Nat):GW 49 (Zla N):=GF Zlb N Tryz.func49 (GC (Zam N) (GC (Z05 N) Wa)) (λd=>Zzy N d.1 d.2.1)
def Zne(N:Nat):Sig:=Sig.of [.box Jk,.v Ja false,.v Ja false] [.v (.own Jl) false] (λd=>Zgh N d.1 d.2.1 d.2.2.1)
def Zj4:Fn:=⟨Tryz.f107,λ |4=>[.canon [0,1,2,7,8,9,14]]|5=>[.canon [0,1,2,7,8,9]]|6=>[.canon [0,1,2,7,8,9,18]]|7=>[.canon [0,1,2,7,8,9]]|8=>[.canon [0,1,2,7,8,9,10]]|9=>[.canon [0,1,2,7,8,9,10,25]]|10=>[.canon [0,1,2,7,8,9,10]]|11=>[.canon [0,1,2,7,8,9,10]]|12=>[.canon [0,1,2,7,8,9,10,31]]|13=>[.canon [0,1,2,7,8,9,10]]|14=>[.canon [0,1,2,7,8,9,10,35]]|15=>[.canon [0,1,2,7,8,9,10]]|16=>[.canon [0,1,2,7,8,9]]|100004=>[.canon [0,1,2,7,8,9]]|_=>[],Zne,λN=>[(50,Zca N),(70,Zac N)]⟩
def Zsm(n4:Int)(most5:Int)(who6:Int)(i7:Int)(b8:List Int×Int×Int)(l9:List Kb):St:=⟨[(0,vP 0 0),(1,vI n4),(2,vI most5),(7,vO 1),(8,vI who6),(9,vI i7)],[(0,.box [.val Jp b8.1,.val Ja b8.2.1,.val Ja b8.2.2]),(1,.arr Jl l9)],2⟩
def Zq8(n4:Int)(most5:Int)(who24:Int)(i25:Int)(t26:Bool)(b27:List Int×Int×Int)(l28:List Kb):St:=⟨[(0,vP 0 0),(1,vI n4),(2,vI most5),(7,vO 1),(8,vI who24),(9,vI i25),(14,vB t26)],[(0,.box [.val Jp b27.1,.val Ja b27.2.1,.val Ja b27.2.2]),(1,.arr Jl l28)],2⟩
theorem Zsn(N:Nat){R:Type}(K:Ex→St→Option R){n4:Int}{most5:Int}{K0:Int→Int→Bool→Kf→Km→Option R}(h0:K0= λwho24 i25 t26 b27 l28=>K (.exit 0) (Zq8 n4 most5 who24 i25 t26 b27 l28))(n:Nat)(who6:Int)(i7:Int)(b8:List Int×Int×Int)(l9:List Kb):Z1 N n4 most5 K0 n who6 i7 b8 l9=LM Zj4 N 0 100004 n (Zsm n4 most5 who6 i7 b8 l9) K:=by
  subst h0
  induction n generalizing who6 i7 b8 l9 with
  |zero=>kernel_rfl
  |succ n ih=>rw[Z1];simp only[ih];kernel_rfl
theorem Zyo(N:Nat)(c1:List Int×Int×Int)(n2:Int)(most3:Int):DN Zj4 N (c1,n2,most3,())=Zgh N c1 n2 most3:=by
  conv=>rhs;rw[Zgh];simp(disch:=exact id (by kernel_rfl)) only[Zsn (R:=Kn×(Km×Unit)) N (CF Zj4 N [1,1,1,0,1,0])]
  kernel_rfl
theorem Zyp(N:Nat):GW 107 (Zne N):=GF Zj4 N Tryz.func107 (GC (Zdn N) (GC (Zam N) Wa)) (λd=>Zyo N d.1 d.2.1 d.2.2.1)
def Zlu(N:Nat):Sig:=Sig.of [.box Jk,.v Ja false,.v Ja false] [.v (.prod (.prod Jad Jr) (.prod (.own Jm) (.own Jl))) true] (λd=>Zgi N d.1 d.2.1 d.2.2.1)
def Zi0:Fn:=⟨Tryz.f69,λ |4=>[.canon [0,1,2,6,7,8,9,18]]|5=>[.canon [0,1,2,6,7,8,9]]|6=>[.canon [0,1,2,6,7,8,9]]|100004=>[.adoptC 7 3 Jm,.canon [0,1,2,6,7,8,9]]|_=>[],Zlu,λN=>[(53,Zjd N),(70,Zac N),(49,Zla N),(50,Zca N),(107,Zne N)]⟩
def Zqk(how6:Int)(most7:Int)(n8:Int)(i9:Int)(b10:List Int×Int×Int)(b12:Int)(l13:List Int)(l14:List Int)(l15:List Kk):St:=⟨[(0,vP 0 0),(1,vI how6),(2,vI most7),(6,vP 1 0),(7,vP 2 0),(8,vI n8),(9,vI i9)],[(0,.box [.val Jp b10.1,.val Ja b10.2.1,.val Ja b10.2.2]),(1,.box [.nils,.nils,.val Ja (0:Int),.nils,.nils]),(2,.box [.own 3,.own 4,.val Ja b12,.own 5,.nils]),(3,.arr Ja l13),(4,.arr Ja l14),(5,.arr Jm l15)],6⟩
def Zpz(how6:Int)(most7:Int)(n8:Int)(b12:Int)(l13:List Int)(l14:List Int)(i24:Int)(t25:Bool)(b26:List Int×Int×Int)(l27:List Kk):St:=⟨[(0,vP 0 0),(1,vI how6),(2,vI most7),(6,vP 1 0),(7,vP 2 0),(8,vI n8),(9,vI i24),(18,vB t25)],[(0,.box [.val Jp b26.1,.val Ja b26.2.1,.val Ja b26.2.2]),(1,.box [.nils,.nils,.val Ja (0:Int),.nils,.nils]),(2,.box [.own 3,.own 4,.val Ja b12,.own 5,.nils]),(3,.arr Ja l13),(4,.arr Ja l14),(5,.arr Jm l27)],6⟩
theorem Zql(N:Nat){R:Type}(K:Ex→St→Option R){how6:Int}{most7:Int}{n8:Int}{b12:Int}{l13:List Int}{l14:List Int}{K0:Int→Bool→Kf→(List Kk)→Option R}(h0:K0= λi24 t25 b26 l27=>K (.exit 0) (Zpz how6 most7 n8 b12 l13 l14 i24 t25 b26 l27))(n:Nat)(i9:Int)(b10:List Int×Int×Int)(l15:List Kk):Zbv N how6 most7 n8 b12 l13 l14 K0 n i9 b10 l15=LM Zi0 N 0 100004 n (Zqk how6 most7 n8 i9 b10 b12 l13 l14 l15) K:=by
  subst h0
  induction n generalizing i9 b10 l15 with
  |zero=>kernel_rfl
  |succ n ih=>rw[Zbv];simp only[ih];kernel_rfl
theorem Zwf(N:Nat)(c1:List Int×Int×Int)(how2:Int)(most3:Int):DN Zi0 N (c1,how2,most3,())=Zgi N c1 how2 most3:=by
  conv=>rhs;rw[Zgi];simp(disch:=exact id (by kernel_rfl)) only[Zql (R:=Kn×((Ke×List Kk×List Kb)×Unit)) N (CF Zi0 N [1,1,1,0,1,0])]
  kernel_rfl
theorem Zwg(N:Nat):GW 69 (Zlu N):=GF Zi0 N Tryz.func69 (GC (Zpd N) (GC (Zam N) (GC (Zqd N) (GC (Zdn N) (GC (Zyp N) Wa))))) (λd=>Zwf N d.1 d.2.1 d.2.2.1)
def Zj5(N:Nat):Sig:=Sig.of [.box Jk] [.v (.prod Jad Jr) true] (λd=>Zit N d.1)
def Zso:Fn:=⟨Tryz.f54,Ws,Zj5,λN=>[(53,Zjd N),(70,Zac N)]⟩
theorem Zsp(N:Nat):GW 54 (Zj5 N):=GF Zso N Tryz.func54 (GC (Zpd N) (GC (Zam N) Wa))
def Zop(N:Nat):Sig:=Sig.of [.box Jk] [.v Jy true] (λd=>Znv N d.1)
def Z06:Fn:=⟨Tryz.f125,Ws,Zop,λN=>[(70,Zac N),(124,Zj3 N),(126,Zg0 N)]⟩
theorem Z07(N:Nat):GW 125 (Zop N):=GF Z06 N Tryz.func125 (GC (Zam N) (GC (Zpp N) (GC (Zlr N) Wa)))
def Zn2(N:Nat):Sig:=Sig.of [.box Jk,.v Jc false] [.v (.own Jy) false] (λd=>Zhe N d.1 d.2.1)
def Zlc:Fn:=⟨Tryz.f83,λ |12=>[.view 49,.view 45]|14=>[.canon [0,5,58]]|15=>[.canon [0,5]]|100014=>[.canon [0,5]]|_=>[],Zn2,λN=>[(70,Zac N),(125,Zop N)]⟩
def Zul(b6:List Int×Int×Int)(l7:List Ka):St:=⟨[(0,vP 0 0),(5,vO 1)],[(0,.box [.val Jp b6.1,.val Ja b6.2.1,.val Ja b6.2.2]),(1,.arr Jy l7)],2⟩
def Zsq(t9:Bool)(b10:List Int×Int×Int)(l11:List Ka):St:=⟨[(0,vP 0 0),(5,vO 1),(58,vB t9)],[(0,.box [.val Jp b10.1,.val Ja b10.2.1,.val Ja b10.2.2]),(1,.arr Jy l11)],2⟩
theorem Zum(N:Nat){R:Type}(K:Ex→St→Option R){K0:Bool→Kf→Kq→Option R}(h0:K0= λt9 b10 l11=>K (.exit 1) (Zsq t9 b10 l11))(n:Nat)(b6:List Int×Int×Int)(l7:List Ka):Zfs N K0 n b6 l7=LM Zlc N 0 100014 n (Zul b6 l7) K:=by
  subst h0
  induction n generalizing b6 l7 with
  |zero=>kernel_rfl
  |succ n ih=>rw[Zfs];simp only[ih];kernel_rfl
theorem Zzz(N:Nat)(c1:List Int×Int×Int)(code2:List Ka):DN Zlc N (c1,code2,())=Zhe N c1 code2:=by
  conv=>rhs;rw[Zhe];simp(disch:=exact id (by kernel_rfl)) only[Zum (R:=Kn×(Kq×Unit)) N (CF Zlc N [1,1,1,1,0,1,0,1,1,1,1,1,1,1,0,0])]
  kernel_rfl
theorem Zz0(N:Nat):GW 83 (Zn2 N):=GF Zlc N Tryz.func83 (GC (Zam N) (GC (Z07 N) Wa)) (λd=>Zzz N d.1 d.2.1)
def Zlv(N:Nat):Sig:=Sig.of [.box Jk] [.v (.prod (.own Jy) (.own Jc)) true] (λd=>Zj0 N d.1)
def Zwh:Fn:=⟨Tryz.f51,Ws,Zlv,λN=>[(50,Zca N),(49,Zla N),(70,Zac N),(83,Zn2 N)]⟩
theorem Zwi(N:Nat):GW 51 (Zlv N):=GF Zwh N Tryz.func51 (GC (Zdn N) (GC (Zqd N) (GC (Zam N) (GC (Zz0 N) Wa))))
def Zn3(N:Nat):Sig:=Sig.of [.box Jk,.v Ja false] [.v (.prod (.prod Jad Jr) (.prod (.own Jm) (.own Jl))) true] (λd=>Zij N d.1 d.2.1)
def Zg7:Fn:=⟨Tryz.f33,λ |8=>[.canon [0,4,5,28]]|9=>[.canon [0,4,5]]|13=>[.canon [0,4,5,55]]|14=>[.canon [0,4,5]]|100008=>[.canon [0,4,5]]|100013=>[.canon [0,4,5]]|_=>[],Zn3,λN=>[(69,Zlu N),(70,Zac N),(54,Zj5 N),(51,Zlv N)]⟩
def Zun(b7:List Int×Int×Int)(b9:Int)(l10:List Int)(l11:List Int)(l12:List Kk)(l13:List Kb):St:=⟨[(0,vP 0 0),(4,vP 1 0),(5,vP 2 0)],[(0,.box [.val Jp b7.1,.val Ja b7.2.1,.val Ja b7.2.2]),(1,.box [.nils,.nils,.val Ja (0:Int),.nils,.nils]),(2,.box [.own 3,.own 4,.val Ja b9,.own 5,.own 6]),(3,.arr Ja l10),(4,.arr Ja l11),(5,.arr Jm l12),(6,.arr Jl l13)],7⟩
def Zsr(b7:List Int×Int×Int)(b9:Int)(l10:List Int)(l11:List Int)(l13:List Kb)(t14:Bool)(l15:List Kk):St:=⟨[(0,vP 0 0),(4,vP 1 0),(5,vP 2 0),(28,vB t14)],[(0,.box [.val Jp b7.1,.val Ja b7.2.1,.val Ja b7.2.2]),(1,.box [.nils,.nils,.val Ja (0:Int),.nils,.nils]),(2,.box [.own 3,.own 4,.val Ja b9,.own 5,.own 6]),(3,.arr Ja l10),(4,.arr Ja l11),(5,.arr Jm l15),(6,.arr Jl l13)],7⟩
theorem Zuo(N:Nat){R:Type}(K:Ex→St→Option R){b7:List Int×Int×Int}{b9:Int}{l10:List Int}{l11:List Int}{l13:List Kb}{K0:Bool→(List Kk)→Option R}(h0:K0= λt14 l15=>K (.exit 1) (Zsr b7 b9 l10 l11 l13 t14 l15))(n:Nat)(l12:List Kk):Zft N b7 b9 l10 l11 l13 K0 n l12=LM Zg7 N 0 100008 n (Zun b7 b9 l10 l11 l12 l13) K:=by
  subst h0
  induction n generalizing l12 with
  |zero=>kernel_rfl
  |succ n ih=>rw[Zft];simp only[ih];kernel_rfl
def Zup(b18:List Int×Int×Int)(b20:Int)(l21:List Int)(l22:List Int)(l23:List Kk)(l24:List Kb):St:=⟨[(0,vP 0 0),(4,vP 1 0),(5,vP 2 0)],[(0,.box [.val Jp b18.1,.val Ja b18.2.1,.val Ja b18.2.2]),(1,.box [.nils,.nils,.val Ja (0:Int),.nils,.nils]),(2,.box [.own 3,.own 4,.val Ja b20,.own 5,.own 6]),(3,.arr Ja l21),(4,.arr Ja l22),(5,.arr Jm l23),(6,.arr Jl l24)],7⟩
def Zss(b20:Int)(l21:List Int)(l22:List Int)(l23:List Kk)(t27:Bool)(b28:List Int×Int×Int)(l29:List Kb):St:=⟨[(0,vP 0 0),(4,vP 1 0),(5,vP 2 0),(55,vB t27)],[(0,.box [.val Jp b28.1,.val Ja b28.2.1,.val Ja b28.2.2]),(1,.box [.nils,.nils,.val Ja (0:Int),.nils,.nils]),(2,.box [.own 3,.own 4,.val Ja b20,.own 5,.own 6]),(3,.arr Ja l21),(4,.arr Ja l22),(5,.arr Jm l23),(6,.arr Jl l29)],7⟩
theorem Zuq(N:Nat){R:Type}(K:Ex→St→Option R){b20:Int}{l21:List Int}{l22:List Int}{l23:List Kk}{K0:Bool→Kf→Km→Option R}(h0:K0= λt27 b28 l29=>K (.exit 3) (Zss b20 l21 l22 l23 t27 b28 l29))(n:Nat)(b18:List Int×Int×Int)(l24:List Kb):Zfu N b20 l21 l22 l23 K0 n b18 l24=LM Zg7 N 1 100013 n (Zup b18 b20 l21 l22 l23 l24) K:=by
  subst h0
  induction n generalizing b18 l24 with
  |zero=>kernel_rfl
  |succ n ih=>rw[Zfu];simp only[ih];kernel_rfl
theorem Zz1(N:Nat)(c1:List Int×Int×Int)(most2:Int):DN Zg7 N (c1,most2,())=Zij N c1 most2:=by
  conv=>rhs;rw[Zij];simp(disch:=exact id (by kernel_rfl)) only[Zuo (R:=Kn×((Ke×List Kk×List Kb)×Unit)) N (CF Zg7 N [1,1,0,1,0,1,1,1,1,1,0,0]),Zuq (R:=Kn×((Ke×List Kk×List Kb)×Unit)) N (CF Zg7 N [1,1,0,1,0,1,1,1,1,1,1,1,1,1,0,0])]
  kernel_rfl
theorem Zz2(N:Nat):GW 33 (Zn3 N):=GF Zg7 N Tryz.func33 (GC (Zwg N) (GC (Zam N) (GC (Zsp N) (GC (Zwi N) Wa)))) (λd=>Zz1 N d.1 d.2.1)
def Zlw(N:Nat):Sig:=Sig.of [.v Jp false] [.v Jag true] (λd=>Zj2 N d.1)
def Zwj:Fn:=⟨Tryz.f10,Ws,Zlw,λN=>[(32,Zoo N),(34,Znz N),(33,Zn3 N)]⟩
theorem Zwk(N:Nat):GW 10 (Zlw N):=GF Zwj N Tryz.func10 (GC (Z03 N) (GC (Zzt N) (GC (Zz2 N) Wa)))
def Z7(N:Nat):Sig:=Sig.of [.v Ja false,.v Ja false,.v Ja false] [.v Jq false] (λd=>Zo N d.1 d.2.1 d.2.2.1)
def Zz3:Fn:=⟨Tryz.f44,Ws,Z7,Wde⟩
theorem Zaj(N:Nat):GW 44 (Z7 N):=GF Zz3 N Tryz.func44 Wa
def Zbg(N:Nat):Sig:=Sig.of [.v Ja false] [.v Jq false] (λd=>Za9 N d.1)
def Zyq:Fn:=⟨Tryz.f76,Ws,Zbg,λN=>[(44,Z7 N)]⟩
theorem Zb0(N:Nat):GW 76 (Zbg N):=GF Zyq N Tryz.func76 (GC (Zaj N) Wa)
def Zc1(N:Nat):Sig:=Sig.of [.v Jj false,.v Ja false] [.v Jq false] (λd=>Zaq N d.1 d.2.1)
def Zi1:Fn:=⟨Tryz.f81,λ |2=>[.canon [0,1,7,8,9,10]]|3=>[.canon [0,1,6,7,8,9]]|4=>[.canon [0,1,7,8,9,15]]|5=>[.canon [4]]|6=>[.canon [0,1,7,8,9]]|100002=>[.canon [0,1,7,8,9]]|_=>[],Zc1,λN=>[(76,Zbg N)]⟩
def Zqm(l3:List Int)(n4:Int)(t7:Int):St:=⟨[(0,vV Jj l3),(1,vI n4),(7,vV Jj l3),(8,vI (ilen l3)),(9,vI t7)],[],0⟩
def Zp0(l3:List Int)(n4:Int):St:=⟨[(4,vB false)],[],0⟩
def Zp1(l3:List Int)(n4:Int)(t10:Int)(t11:Bool):St:=⟨[(0,vV Jj l3),(1,vI n4),(7,vV Jj l3),(8,vI (ilen l3)),(9,vI t10),(10,vB t11)],[],0⟩
theorem Zqn(N:Nat){R:Type}(K:Ex→St→Option R){l3:List Int}{n4:Int}{K0:Option R}{K1:Int→Bool→Option R}(h0:K0=K .ret (Zp0 l3 n4))(h1:K1= λt10 t11=>K (.exit 0) (Zp1 l3 n4 t10 t11))(n:Nat)(t7:Int):Zbc N l3 n4 K0 K1 n t7=LM Zi1 N 0 100002 n (Zqm l3 n4 t7) K:=by
  subst h0 h1
  induction n generalizing t7 with
  |zero=>kernel_rfl
  |succ n ih=>rw[Zbc];simp only[ih];kernel_rfl
theorem Zwl(N:Nat)(l1:List Int)(n2:Int):DN Zi1 N (l1,n2,())=Zaq N l1 n2:=by
  conv=>rhs;rw[Zaq];simp(disch:=exact id (by kernel_rfl)) only[Zqn (R:=Unit×Kg) N (CF Zi1 N [1,0,1,0])]
  kernel_rfl
theorem Zg1(N:Nat):GW 81 (Zc1 N):=GF Zi1 N Tryz.func81 (GC (Zb0 N) Wa) (λd=>Zwl N d.1 d.2.1)
def Zmb(N:Nat):Sig:=Sig.of [.v Jj false] [.v Jq false] (λd=>Zhy N d.1)
def Zmc:Fn:=⟨Tryz.f78,λ |2=>[.canon [0,5,6,7,8]]|3=>[.canon [0,4,5,6,7]]|4=>[.canon [0,5,6,7,13]]|5=>[.canon [2]]|6=>[.canon [0,5,6,7]]|100002=>[.canon [0,5,6,7]]|_=>[],Zmb,λN=>[(44,Z7 N)]⟩
def Zwm(l2:List Int)(t5:Int):St:=⟨[(0,vV Jj l2),(5,vV Jj l2),(6,vI (ilen l2)),(7,vI t5)],[],0⟩
def Zur(l2:List Int):St:=⟨[(2,vB false)],[],0⟩
def Zus(l2:List Int)(t8:Int)(t9:Bool):St:=⟨[(0,vV Jj l2),(5,vV Jj l2),(6,vI (ilen l2)),(7,vI t8),(8,vB t9)],[],0⟩
theorem Zwn(N:Nat){R:Type}(K:Ex→St→Option R){l2:List Int}{K0:Option R}{K1:Int→Bool→Option R}(h0:K0=K .ret (Zur l2))(h1:K1= λt8 t9=>K (.exit 0) (Zus l2 t8 t9))(n:Nat)(t5:Int):Zec N l2 K0 K1 n t5=LM Zmc N 0 100002 n (Zwm l2 t5) K:=by
  subst h0 h1
  induction n generalizing t5 with
  |zero=>kernel_rfl
  |succ n ih=>rw[Zec];simp only[ih];kernel_rfl
theorem Z08(N:Nat)(l1:List Int):DN Zmc N (l1,())=Zhy N l1:=by
  conv=>rhs;rw[Zhy];simp(disch:=exact id (by kernel_rfl)) only[Zwn (R:=Unit×Kg) N (CF Zmc N [1,0,1,0])]
  kernel_rfl
theorem Zq9(N:Nat):GW 78 (Zmb N):=GF Zmc N Tryz.func78 (GC (Zaj N) Wa) (λd=>Z08 N d.1)
def Zmn(N:Nat):Sig:=Sig.of [.v Jt true] [.v Jq false] (λd=>Zk7 N d.1)
def Zxq:Fn:=⟨Tryz.f63,Ws,Zmn,λN=>[(81,Zc1 N),(78,Zmb N),(76,Zbg N)]⟩
theorem Zxr(N:Nat):GW 63 (Zmn N):=GF Zxq N Tryz.func63 (GC (Zg1 N) (GC (Zq9 N) (GC (Zb0 N) Wa)))
def Zoq(N:Nat):Sig:=Sig.of [.v Ja false] [.v Jq false] (λd=>Zu N d.1)
def Z09:Fn:=⟨Tryz.f164,Ws,Zoq,λN=>[(44,Z7 N)]⟩
theorem Z1a(N:Nat):GW 164 (Zoq N):=GF Z09 N Tryz.func164 (GC (Zaj N) Wa)
def Zcb(N:Nat):Sig:=Sig.of [.v Ja false] [.v Jq false] (λd=>Zbl N d.1)
def Zz4:Fn:=⟨Tryz.f165,Ws,Zcb,λN=>[(44,Z7 N)]⟩
theorem Zdo(N:Nat):GW 165 (Zcb N):=GF Zz4 N Tryz.func165 (GC (Zaj N) Wa)
def Zeq(N:Nat):Sig:=Sig.of [.v Ja false] [.v Jq false] (λd=>Zbe N d.1)
def Z1b:Fn:=⟨Tryz.f105,Ws,Zeq,λN=>[(44,Z7 N)]⟩
theorem Zht(N:Nat):GW 105 (Zeq N):=GF Z1b N Tryz.func105 (GC (Zaj N) Wa)
def Zip(N:Nat):Sig:=Sig.of [.v Jy true] [.v Jq false] (λd=>Zq N d.1)
def Z1r:Fn:=⟨Tryz.f131,Ws,Zip,λN=>[(164,Zoq N),(76,Zbg N),(165,Zcb N),(44,Z7 N),(105,Zeq N)]⟩
theorem Zm3(N:Nat):GW 131 (Zip N):=GF Z1r N Tryz.func131 (GC (Z1a N) (GC (Zb0 N) (GC (Zdo N) (GC (Zaj N) (GC (Zht N) Wa)))))
def Zj6(N:Nat):Sig:=Sig.of [.v Jy true] [.v Ja false] (λd=>Zhl N d.1)
def Zyr:Fn:=⟨Tryz.f129,Ws,Zj6,λN=>[(131,Zip N)]⟩
theorem Zpq(N:Nat):GW 129 (Zj6 N):=GF Zyr N Tryz.func129 (GC (Zm3 N) Wa)
def Zjs(N:Nat):Sig:=Sig.of [.v Jy true] [.v Ja false] (λd=>Zjn N d.1)
def Z1c:Fn:=⟨Tryz.f136,Ws,Zjs,Wde⟩
theorem Zor(N:Nat):GW 136 (Zjs N):=GF Z1c N Tryz.func136 Wa
def Zk0(N:Nat):Sig:=Sig.of [.v Jc false] [.v Jq false] (λd=>Zde N d.1)
def Zib:Fn:=⟨Tryz.f130,λ |3=>[.canon [3,6,7,8,9]]|4=>[.canon [3,5,6,7,8]]|5=>[.canon [3,6,7,8]]|6=>[.canon [3,6,7,8,17]]|7=>[.canon [2]]|8=>[.canon [3,6,7,8]]|100003=>[.canon [3,6,7,8]]|_=>[],Zk0,λN=>[(136,Zjs N)]⟩
def Zp2(n2:Int)(t3:List Ka)(t5:Int):St:=⟨[(3,vI n2),(6,vV Jc t3),(7,vI (ilen t3)),(8,vI t5)],[],0⟩
def Zpr(t3:List Ka):St:=⟨[(2,vB false)],[],0⟩
def Zps(t3:List Ka)(n8:Int)(t9:Int)(t10:Bool):St:=⟨[(3,vI n8),(6,vV Jc t3),(7,vI (ilen t3)),(8,vI t9),(9,vB t10)],[],0⟩
theorem Zp3(N:Nat){R:Type}(K:Ex→St→Option R){t3:List Ka}{K0:Option R}{K1:Int→Int→Bool→Option R}(h0:K0=K .ret (Zpr t3))(h1:K1= λn8 t9 t10=>K (.exit 0) (Zps t3 n8 t9 t10))(n:Nat)(n2:Int)(t5:Int):Zb9 N t3 K0 K1 n n2 t5=LM Zib N 0 100003 n (Zp2 n2 t3 t5) K:=by
  subst h0 h1
  induction n generalizing n2 t5 with
  |zero=>kernel_rfl
  |succ n ih=>rw[Zb9];simp only[ih];kernel_rfl
theorem Zut(N:Nat)(code1:List Ka):DN Zib N (code1,())=Zde N code1:=by
  conv=>rhs;rw[Zde];simp(disch:=exact id (by kernel_rfl)) only[Zp3 (R:=Unit×Kg) N (CF Zib N [1,1,0,1,0])]
  kernel_rfl
theorem Zuu(N:Nat):GW 130 (Zk0 N):=GF Zib N Tryz.func130 (GC (Zor N) Wa) (λd=>Zut N d.1)
def Znf(N:Nat):Sig:=Sig.of [.v Jc false,.v Ja false] [.v Ja false] (λd=>Zhm N d.1 d.2.1)
def Zj7:Fn:=⟨Tryz.f132,λ |3=>[.canon [1,5,8,9,10,11]]|4=>[.canon [1,5,6,7,8,9,10]]|5=>[.canon [1,5,7,8,9,10,17]]|6=>[.canon [1,5,8,9,10]]|7=>[.canon [1,5,8,9,10]]|100003=>[.canon [1,5,8,9,10]]|_=>[],Znf,λN=>[(136,Zjs N)]⟩
def Zst(i3:Int)(n4:Int)(t5:List Ka)(t7:Int):St:=⟨[(1,vI i3),(5,vI n4),(8,vV Jc t5),(9,vI (ilen t5)),(10,vI t7)],[],0⟩
def Zra(i3:Int)(t5:List Ka)(n10:Int)(t11:Int)(t12:Bool):St:=⟨[(1,vI i3),(5,vI n10),(8,vV Jc t5),(9,vI (ilen t5)),(10,vI t11),(11,vB t12)],[],0⟩
theorem Zsu(N:Nat){R:Type}(K:Ex→St→Option R){i3:Int}{t5:List Ka}{K0:Int→Int→Bool→Option R}(h0:K0= λn10 t11 t12=>K (.exit 0) (Zra i3 t5 n10 t11 t12))(n:Nat)(n4:Int)(t7:Int):Zcc N i3 t5 K0 n n4 t7=LM Zj7 N 0 100003 n (Zst i3 n4 t5 t7) K:=by
  subst h0
  induction n generalizing n4 t7 with
  |zero=>kernel_rfl
  |succ n ih=>rw[Zcc];simp only[ih];kernel_rfl
theorem Zys(N:Nat)(code1:List Ka)(i2:Int):DN Zj7 N (code1,i2,())=Zhm N code1 i2:=by
  conv=>rhs;rw[Zhm];simp(disch:=exact id (by kernel_rfl)) only[Zsu (R:=Unit×Kh) N (CF Zj7 N [1,1,0,1,0])]
  kernel_rfl
theorem Zyt(N:Nat):GW 132 (Znf N):=GF Zj7 N Tryz.func132 (GC (Zor N) Wa) (λd=>Zys N d.1 d.2.1)
def Zld(N:Nat):Sig:=Sig.of [.v Jc false] [.v Jq false] (λd=>Zc3 N d.1)
def Zle:Fn:=⟨Tryz.f90,λ |5=>[.canon [0,3,14,15,16,17]]|6=>[.canon [0,3,4,5,14,15,16]]|7=>[.canon [0,3,4,5,14,15,16,23]]|8=>[.canon [2]]|9=>[.canon [0,3,4,5,14,15,16,25]]|10=>[.canon [0,3,4,5,14,15,16,25,26]]|11=>[.canon [0,3,14,15,16,48]]|12=>[.canon [2]]|13=>[.canon [0,3,4,14,15,16,49]]|14=>[.canon [0,3,4,14,15,16]]|15=>[.canon [0,3,14,15,16,60]]|16=>[.canon [2]]|17=>[.canon [0,3,14,15,16]]|100005=>[.canon [0,3,14,15,16]]|_=>[],Zld,λN=>[(130,Zk0 N),(131,Zip N),(132,Znf N)]⟩
def Zuv(code3:List Ka)(forks4:Int)(t7:Int):St:=⟨[(0,vV Jc code3),(3,vI forks4),(14,vV Jc code3),(15,vI (ilen code3)),(16,vI t7)],[],0⟩
def Zsv(code3:List Ka):St:=⟨[(2,vB false)],[],0⟩
def Zsw(code3:List Ka)(forks14:Int)(t15:Int)(t16:Bool):St:=⟨[(0,vV Jc code3),(3,vI forks14),(14,vV Jc code3),(15,vI (ilen code3)),(16,vI t15),(17,vB t16)],[],0⟩
theorem Zuw(N:Nat){R:Type}(K:Ex→St→Option R){code3:List Ka}{K0:Option R}{K1:Int→Int→Bool→Option R}(h0:K0=K .ret (Zsv code3))(h1:K1= λforks14 t15 t16=>K (.exit 0) (Zsw code3 forks14 t15 t16))(n:Nat)(forks4:Int)(t7:Int):Zb6 N code3 K0 K1 n forks4 t7=LM Zle N 0 100005 n (Zuv code3 forks4 t7) K:=by
  subst h0 h1
  induction n generalizing forks4 t7 with
  |zero=>kernel_rfl
  |succ n ih=>rw[Zb6];simp only[ih];kernel_rfl
theorem Zz5(N:Nat)(code1:List Ka):DN Zle N (code1,())=Zc3 N code1:=by
  conv=>rhs;rw[Zc3];simp(disch:=exact id (by kernel_rfl)) only[Zuw (R:=Unit×Kg) N (CF Zle N [1,1,1,0,1,0])]
  kernel_rfl
theorem Zqe(N:Nat):GW 90 (Zld N):=GF Zle N Tryz.func90 (GC (Zuu N) (GC (Zm3 N) (GC (Zyt N) Wa))) (λd=>Zz5 N d.1)
def Zos(N:Nat):Sig:=Sig.of [.v Jc false] [.v Jq false] (λd=>Zhw N d.1)
def Zmd:Fn:=⟨Tryz.f89,λ |2=>[.canon [0,5,6,7,8]]|3=>[.canon [0,4,5,6,7]]|4=>[.canon [0,5,6,7,18]]|5=>[.canon [2]]|6=>[.canon [0,5,6,7]]|100002=>[.canon [0,5,6,7]]|_=>[],Zos,λN=>[(129,Zj6 N),(90,Zld N)]⟩
def Zwo(code2:List Ka)(t5:Int):St:=⟨[(0,vV Jc code2),(5,vV Jc code2),(6,vI (ilen code2)),(7,vI t5)],[],0⟩
def Zux(code2:List Ka):St:=⟨[(2,vB false)],[],0⟩
def Zuy(code2:List Ka)(t8:Int)(t9:Bool):St:=⟨[(0,vV Jc code2),(5,vV Jc code2),(6,vI (ilen code2)),(7,vI t8),(8,vB t9)],[],0⟩
theorem Zwp(N:Nat){R:Type}(K:Ex→St→Option R){code2:List Ka}{K0:Option R}{K1:Int→Bool→Option R}(h0:K0=K .ret (Zux code2))(h1:K1= λt8 t9=>K (.exit 0) (Zuy code2 t8 t9))(n:Nat)(t5:Int):Zd8 N code2 K0 K1 n t5=LM Zmd N 0 100002 n (Zwo code2 t5) K:=by
  subst h0 h1
  induction n generalizing t5 with
  |zero=>kernel_rfl
  |succ n ih=>rw[Zd8];simp only[ih];kernel_rfl
theorem Z1d(N:Nat)(code1:List Ka):DN Zmd N (code1,())=Zhw N code1:=by
  conv=>rhs;rw[Zhw];simp(disch:=exact id (by kernel_rfl)) only[Zwp (R:=Unit×Kg) N (CF Zmd N [1,0,1,0])]
  kernel_rfl
theorem Z1e(N:Nat):GW 89 (Zos N):=GF Zmd N Tryz.func89 (GC (Zpq N) (GC (Zqe N) Wa)) (λd=>Z1d N d.1)
def Zlx(N:Nat):Sig:=Sig.of [.v Jy true] [.v Jq false] (λd=>Znc N d.1)
def Zwq:Fn:=⟨Tryz.f134,Ws,Zlx,Wde⟩
theorem Zwr(N:Nat):GW 134 (Zlx N):=GF Zwq N Tryz.func134 Wa
def Zbd(N:Nat):Sig:=Sig.of [.v Jc false,.clos 134 0] [.v Ja false] (λd=>Z6 N d.1)
def Zal:Fn:=⟨Tryz.f166,λ |2=>[.canon [0,1,7,8,9]]|3=>[.canon [0,1,5,7,8]]|4=>[.canon [0,1,5,7,8,16]]|5=>[.canon [1,4]]|6=>[.canon [0,1,7,8]]|100002=>[.canon [0,1,7,8]]|_=>[],Zbd,λN=>[(134,Zlx N)]⟩
def Zfz(s2:List Ka)(t4:Int):St:=⟨[(0,vV Jc s2),(1,.s (.one (.clos 134 []))),(7,vI (ilen s2)),(8,vI t4)],[],0⟩
def Zfh(s2:List Ka)(t7:Int):St:=⟨[(1,.s (.one (.clos 134 []))),(4,vI t7)],[],0⟩
def Zfi(s2:List Ka)(t8:Int)(t9:Bool):St:=⟨[(0,vV Jc s2),(1,.s (.one (.clos 134 []))),(7,vI (ilen s2)),(8,vI t8),(9,vB t9)],[],0⟩
theorem Zf0(N:Nat){R:Type}(K:Ex→St→Option R){s2:List Ka}{K0:Int→Option R}{K1:Int→Bool→Option R}(h0:K0= λt7=>K .ret (Zfh s2 t7))(h1:K1= λt8 t9=>K (.exit 0) (Zfi s2 t8 t9))(n:Nat)(t4:Int):Zn N s2 K0 K1 n t4=LM Zal N 0 100002 n (Zfz s2 t4) K:=by
  subst h0 h1
  induction n generalizing t4 with
  |zero=>kernel_rfl
  |succ n ih=>rw[Zn];simp only[ih];kernel_rfl
theorem Zgt(N:Nat)(s1:List Ka):DN Zal N (s1,())=Z6 N s1:=by
  conv=>rhs;rw[Z6];simp(disch:=exact id (by kernel_rfl)) only[Zf0 (R:=Unit×Kh) N (CF Zal N [1,0,1,0])]
  kernel_rfl
theorem Zgu(N:Nat):GW 166 (Zbd N):=GF Zal N Tryz.func166 (GC (Zwr N) Wa) (λd=>Zgt N d.1)
def Za3(N:Nat):Sig:=Sig.of [.v Jc false,.clos 134 0] [.v Jq false] (λd=>Zba N d.1)
def Zf5:Fn:=⟨Tryz.f133,Ws,Za3,λN=>[(166,Zbd N)]⟩
theorem Zf6(N:Nat):GW 133 (Za3 N):=GF Zf5 N Tryz.func133 (GC (Zgu N) Wa)
def Zng(N:Nat):Sig:=Sig.of [.v Jc false] [.v Jq false] (λd=>Zhn N d.1)
def Zyu:Fn:=⟨Tryz.f91,Ws,Zng,λN=>[(133,Za3 N)]⟩
theorem Zyv(N:Nat):GW 91 (Zng N):=GF Zyu N Tryz.func91 (GC (Zf6 N) Wa)
def Zn4(N:Nat):Sig:=Sig.of [.v Jm true] [.v Jq false] (λd=>Zik N d.1)
def Zlf:Fn:=⟨Tryz.f61,λ |2=>[.canon [1,6,7,8,9]]|3=>[.canon [1,4,6,7,8]]|4=>[.canon [1,6,7,8,15]]|5=>[.canon [2]]|6=>[.canon [1,6,7,8]]|100002=>[.canon [1,6,7,8]]|_=>[],Zn4,λN=>[(89,Zos N),(90,Zld N),(91,Zng N)]⟩
def Zuz(t2:List Kq)(t4:Int)(b5:List Ka×List Kq):St:=⟨[(1,vP 0 0),(6,vV (.slice Jc) t2),(7,vI (ilen b5.2)),(8,vI t4)],[(0,.box [.val Jc b5.1,.val (.slice Jc) b5.2])],1⟩
def Zsx(t2:List Kq)(b5:List Ka×List Kq):St:=⟨[(2,vB false)],[],0⟩
def Zsy(t2:List Kq)(b5:List Ka×List Kq)(t8:Int)(t9:Bool):St:=⟨[(1,vP 0 0),(6,vV (.slice Jc) t2),(7,vI (ilen b5.2)),(8,vI t8),(9,vB t9)],[(0,.box [.val Jc b5.1,.val (.slice Jc) b5.2])],1⟩
theorem Zu0(N:Nat){R:Type}(K:Ex→St→Option R){t2:List Kq}{b5:List Ka×List Kq}{K0:Option R}{K1:Int→Bool→Option R}(h0:K0=K .ret (Zsx t2 b5))(h1:K1= λt8 t9=>K (.exit 0) (Zsy t2 b5 t8 t9))(n:Nat)(t4:Int):Zdh N t2 b5 K0 K1 n t4=LM Zlf N 0 100002 n (Zuz t2 t4 b5) K:=by
  subst h0 h1
  induction n generalizing t4 with
  |zero=>kernel_rfl
  |succ n ih=>rw[Zdh];simp only[ih];kernel_rfl
theorem Zz6(N:Nat)(p1:List Ka×List Kq):DN Zlf N (p1,())=Zik N p1:=by
  conv=>rhs;rw[Zik];simp(disch:=exact id (by kernel_rfl)) only[Zu0 (R:=Unit×Kg) N (CF Zlf N [1,0,1,0])]
  kernel_rfl
theorem Zz7(N:Nat):GW 61 (Zn4 N):=GF Zlf N Tryz.func61 (GC (Z1e N) (GC (Zqe N) (GC (Zyv N) Wa))) (λd=>Zz6 N d.1)
def Zk1(N:Nat):Sig:=Sig.of [.v Jm true] [.v Jq false] (λd=>Zja N d.1)
def Zu1:Fn:=⟨Tryz.f72,Ws,Zk1,λN=>[(61,Zn4 N)]⟩
theorem Zu2(N:Nat):GW 72 (Zk1 N):=GF Zu1 N Tryz.func72 (GC (Zz7 N) Wa)
def Zaz(N:Nat):Sig:=Sig.of [.v Jab false,.clos 72 0] [.v Ja false] (λd=>Zz N d.1)
def Zad:Fn:=⟨Tryz.f109,λ |2=>[.canon [0,1,7,8,9]]|3=>[.canon [0,1,5,7,8]]|4=>[.canon [0,1,5,7,8,16]]|5=>[.canon [1,4]]|6=>[.canon [0,1,7,8]]|100002=>[.canon [0,1,7,8]]|_=>[],Zaz,λN=>[(72,Zk1 N)]⟩
def Zef(s2:List Kk)(t4:Int):St:=⟨[(0,vV Jab s2),(1,.s (.one (.clos 72 []))),(7,vI (ilen s2)),(8,vI t4)],[],0⟩
def Zdz(s2:List Kk)(t7:Int):St:=⟨[(1,.s (.one (.clos 72 []))),(4,vI t7)],[],0⟩
def Zd0(s2:List Kk)(t8:Int)(t9:Bool):St:=⟨[(0,vV Jab s2),(1,.s (.one (.clos 72 []))),(7,vI (ilen s2)),(8,vI t8),(9,vB t9)],[],0⟩
theorem Zeg(N:Nat){R:Type}(K:Ex→St→Option R){s2:List Kk}{K0:Int→Option R}{K1:Int→Bool→Option R}(h0:K0= λt7=>K .ret (Zdz s2 t7))(h1:K1= λt8 t9=>K (.exit 0) (Zd0 s2 t8 t9))(n:Nat)(t4:Int):Ze N s2 K0 K1 n t4=LM Zad N 0 100002 n (Zef s2 t4) K:=by
  subst h0 h1
  induction n generalizing t4 with
  |zero=>kernel_rfl
  |succ n ih=>rw[Ze];simp only[ih];kernel_rfl
theorem Zfj(N:Nat)(s1:List Kk):DN Zad N (s1,())=Zz N s1:=by
  conv=>rhs;rw[Zz];simp(disch:=exact id (by kernel_rfl)) only[Zeg (R:=Unit×Kh) N (CF Zad N [1,0,1,0])]
  kernel_rfl
theorem Zfk(N:Nat):GW 109 (Zaz N):=GF Zad N Tryz.func109 (GC (Zu2 N) Wa) (λd=>Zfj N d.1)
def Zat(N:Nat):Sig:=Sig.of [.v Jab false,.clos 72 0] [.v Jq false] (λd=>Zav N d.1)
def Zer:Fn:=⟨Tryz.f71,Ws,Zat,λN=>[(109,Zaz N)]⟩
theorem Zes(N:Nat):GW 71 (Zat N):=GF Zer N Tryz.func71 (GC (Zfk N) Wa)
def Zjf(N:Nat):Sig:=Sig.of [.v Jag true] [.v Jq false] (λd=>Ziu N d.1)
def Zxs:Fn:=⟨Tryz.f35,Ws,Zjf,λN=>[(63,Zmn N),(71,Zat N)]⟩
theorem Zpe(N:Nat):GW 35 (Zjf N):=GF Zxs N Tryz.func35 (GC (Zxr N) (GC (Zes N) Wa))
def Znh(N:Nat):Sig:=Sig.of [] [.v Jad false] (λd=>Zon N)
def Zyw:Fn:=⟨Tryz.f79,Ws,Znh,Wde⟩
theorem Zyx(N:Nat):GW 79 (Znh N):=GF Zyw N Tryz.func79 Wa
def Zaa(N:Nat):Sig:=Sig.of [.v Jj false] [.v Jad false] (λd=>Zw N d.1)
def Zxt:Fn:=⟨Tryz.f93,Ws,Zaa,Wde⟩
theorem Zan(N:Nat):GW 93 (Zaa N):=GF Zxt N Tryz.func93 Wa
def Zlg(N:Nat):Sig:=Sig.of [.v Ja false,.v Ja false] [.v Ja false] (λd=>Zil N d.1 d.2.1)
def Zz8:Fn:=⟨Tryz.f102,Ws,Zlg,Wde⟩
theorem Zqf(N:Nat):GW 102 (Zlg N):=GF Zz8 N Tryz.func102 Wa
def Zme(N:Nat):Sig:=Sig.of [.v Ja false] [.v Ja false] (λd=>Zhz N d.1)
def Z1f:Fn:=⟨Tryz.f104,Ws,Zme,Wde⟩
theorem Zrb(N:Nat):GW 104 (Zme N):=GF Z1f N Tryz.func104 Wa
def Zjg(N:Nat):Sig:=Sig.of [.v Ja false] [.v Ja false] (λd=>Ziv N d.1)
def Zxu:Fn:=⟨Tryz.f103,Ws,Zjg,λN=>[(105,Zeq N)]⟩
theorem Zpf(N:Nat):GW 103 (Zjg N):=GF Zxu N Tryz.func103 (GC (Zht N) Wa)
def Zgm(N:Nat):Sig:=Sig.of [.v Jj false] [.v Jq false] (λd=>Zc7 N d.1)
def Zj8:Fn:=⟨Tryz.f67,λ |5=>[.canon [3,9,10,11,12]]|6=>[.canon [3,4,5,9,10,11]]|7=>[.canon [3,4,5,9,10,11,17]]|8=>[.canon [3,5,9,10,11,35]]|9=>[.canon [2]]|10=>[.canon [3,9,10,11]]|11=>[.canon [3,9,10,11]]|100005=>[.canon [3,9,10,11]]|_=>[],Zgm,λN=>[(102,Zlg N),(44,Z7 N),(104,Zme N),(103,Zjg N)]⟩
def Zsz(t2:List Int)(t4:Int)(l5:List Bool):St:=⟨[(3,.s (.one (.aptr 0))),(9,vV Jj t2),(10,vI (ilen t2)),(11,vI t4)],[(0,.arr Jq l5)],1⟩
def Zrc(t2:List Int):St:=⟨[(2,vB false)],[],0⟩
def Zrd(t2:List Int)(t18:Int)(t19:Bool)(l20:List Bool):St:=⟨[(3,.s (.one (.aptr 0))),(9,vV Jj t2),(10,vI (ilen t2)),(11,vI t18),(12,vB t19)],[(0,.arr Jq l20)],1⟩
theorem Zs0(N:Nat){R:Type}(K:Ex→St→Option R){t2:List Int}{K0:Option R}{K1:Int→Bool→(List Bool)→Option R}(h0:K0=K .ret (Zrc t2))(h1:K1= λt18 t19 l20=>K (.exit 0) (Zrd t2 t18 t19 l20))(n:Nat)(t4:Int)(l5:List Bool):Zcd N t2 K0 K1 n t4 l5=LM Zj8 N 0 100005 n (Zsz t2 t4 l5) K:=by
  subst h0 h1
  induction n generalizing t4 l5 with
  |zero=>kernel_rfl
  |succ n ih=>rw[Zcd];simp only[ih];kernel_rfl
theorem Zyy(N:Nat)(l1:List Int):DN Zj8 N (l1,())=Zc7 N l1:=by
  conv=>rhs;rw[Zc7];simp(disch:=exact id (by kernel_rfl)) only[Zs0 (R:=Unit×Kg) N (CF Zj8 N [1,1,1,0,1,0])]
  kernel_rfl
theorem Zj9(N:Nat):GW 67 (Zgm N):=GF Zj8 N Tryz.func67 (GC (Zqf N) (GC (Zaj N) (GC (Zrb N) (GC (Zpf N) Wa)))) (λd=>Zyy N d.1)
def Zku(N:Nat):Sig:=Sig.of [.v Jj false,.v Ja false] [.v Ja false] (λd=>Zgs N d.1 d.2.1)
def Zm4:Fn:=⟨Tryz.f106,λ |2=>[.canon [1,7,8,9,10]]|3=>[.canon [1,5,6,7,8,9]]|4=>[.canon [1,5,7,8,9,21]]|5=>[.canon [4]]|6=>[.canon [1,7,8,9]]|100002=>[.canon [1,7,8,9]]|_=>[],Zku,λN=>[(104,Zme N)]⟩
def Zxv(key3:Int)(t4:List Int)(t6:Int):St:=⟨[(1,vI key3),(7,vV Jj t4),(8,vI (ilen t4)),(9,vI t6)],[],0⟩
def Zws(key3:Int)(t4:List Int)(t9:Int):St:=⟨[(4,vI t9)],[],0⟩
def Zwt(key3:Int)(t4:List Int)(t10:Int)(t11:Bool):St:=⟨[(1,vI key3),(7,vV Jj t4),(8,vI (ilen t4)),(9,vI t10),(10,vB t11)],[],0⟩
theorem Zxw(N:Nat){R:Type}(K:Ex→St→Option R){key3:Int}{t4:List Int}{K0:Int→Option R}{K1:Int→Bool→Option R}(h0:K0= λt9=>K .ret (Zws key3 t4 t9))(h1:K1= λt10 t11=>K (.exit 0) (Zwt key3 t4 t10 t11))(n:Nat)(t6:Int):Zdl N key3 t4 K0 K1 n t6=LM Zm4 N 0 100002 n (Zxv key3 t4 t6) K:=by
  subst h0 h1
  induction n generalizing t6 with
  |zero=>kernel_rfl
  |succ n ih=>rw[Zdl];simp only[ih];kernel_rfl
theorem Z1s(N:Nat)(l1:List Int)(key2:Int):DN Zm4 N (l1,key2,())=Zgs N l1 key2:=by
  conv=>rhs;rw[Zgs];simp(disch:=exact id (by kernel_rfl)) only[Zxw (R:=Unit×Kh) N (CF Zm4 N [1,0,1,0])]
  kernel_rfl
theorem Zo5(N:Nat):GW 106 (Zku N):=GF Zm4 N Tryz.func106 (GC (Zrb N) Wa) (λd=>Z1s N d.1 d.2.1)
def Zh4(N:Nat):Sig:=Sig.of [.v Jj false,.v Ja false] [.v Ja false,.v Jq false] (λd=>Zho N d.1 d.2.1)
def Zyz:Fn:=⟨Tryz.f68,Ws,Zh4,λN=>[(67,Zgm N),(105,Zeq N),(106,Zku N)]⟩
theorem Zni(N:Nat):GW 68 (Zh4 N):=GF Zyz N Tryz.func68 (GC (Zj9 N) (GC (Zht N) (GC (Zo5 N) Wa)))
def Zh5(N:Nat):Sig:=Sig.of [.v Jj false,.v Ja false,.v Ja false] [.v Jad false,.v Ja false,.v Jq false] (λd=>Zem N d.1 d.2.1 d.2.2.1)
def Zka:Fn:=⟨Tryz.f80,λ |10=>[.canon [1,2,9,13,57]]|11=>[.canon [1,2,9,13]]|100010=>[.canon [1,2,9,13]]|_=>[],Zh5,λN=>[(93,Zaa N),(67,Zgm N),(105,Zeq N),(76,Zbg N),(106,Zku N),(68,Zh4 N),(102,Zlg N),(103,Zjg N)]⟩
def Zs1(key12:Int)(v13:Int)(at14:Int)(l15:List Int):St:=⟨[(1,vI key12),(2,vI v13),(9,vO 0),(13,vI at14)],[(0,.arr Ja l15)],1⟩
def Zre(key12:Int)(v13:Int)(l15:List Int)(at16:Int)(t17:Bool):St:=⟨[(1,vI key12),(2,vI v13),(9,vO 0),(13,vI at16),(57,vB t17)],[(0,.arr Ja l15)],1⟩
theorem Zs2(N:Nat){R:Type}(K:Ex→St→Option R){key12:Int}{v13:Int}{l15:List Int}{K0:Int→Bool→Option R}(h0:K0= λat16 t17=>K (.exit 0) (Zre key12 v13 l15 at16 t17))(n:Nat)(at14:Int):Zcy N key12 v13 l15 K0 n at14=LM Zka N 0 100010 n (Zs1 key12 v13 at14 l15) K:=by
  subst h0
  induction n generalizing at14 with
  |zero=>kernel_rfl
  |succ n ih=>rw[Zcy];simp only[ih];kernel_rfl
theorem Zy0(N:Nat)(l1:List Int)(key2:Int)(v3:Int):DN Zka N (l1,key2,v3,())=Zem N l1 key2 v3:=by
  conv=>rhs;rw[Zem];simp(disch:=exact id (by kernel_rfl)) only[Zs2 (R:=Unit×(Ki×(Int×Kg))) N (CF Zka N [1,1,1,1,1,0,0])]
  kernel_rfl
theorem Znj(N:Nat):GW 80 (Zh5 N):=GF Zka N Tryz.func80 (GC (Zan N) (GC (Zj9 N) (GC (Zht N) (GC (Zb0 N) (GC (Zo5 N) (GC (Zni N) (GC (Zqf N) (GC (Zpf N) Wa)))))))) (λd=>Zy0 N d.1 d.2.1 d.2.2.1)
def Zly(N:Nat):Sig:=Sig.of [.v Jj false] [.v Jad false] (λd=>Zbo N d.1)
def Zi2:Fn:=⟨Tryz.f45,λ |5=>[.canon [3,10,11,12,13]]|6=>[.canon [3,4,5,10,11,12]]|7=>[.canon [3,4,5,10,11,12,18]]|8=>[.canon [3,10,11,12]]|9=>[.canon [3,10,11,12]]|100005=>[.canon [3,10,11,12]]|_=>[],Zly,λN=>[(78,Zmb N),(79,Znh N),(80,Zh5 N)]⟩
def Zqo(t4:List Int)(t6:Int)(l7:List Int):St:=⟨[(3,vO 0),(10,vV Jj t4),(11,vI (ilen t4)),(12,vI t6)],[(0,.arr Ja l7)],1⟩
def Zp4(t4:List Int)(t10:Int)(t11:Bool)(l12:List Int):St:=⟨[(3,vO 0),(10,vV Jj t4),(11,vI (ilen t4)),(12,vI t10),(13,vB t11)],[(0,.arr Ja l12)],1⟩
theorem Zqp(N:Nat){R:Type}(K:Ex→St→Option R){t4:List Int}{K0:Int→Bool→Ki→Option R}(h0:K0= λt10 t11 l12=>K (.exit 0) (Zp4 t4 t10 t11 l12))(n:Nat)(t6:Int)(l7:List Int):Zbw N t4 K0 n t6 l7=LM Zi2 N 0 100005 n (Zqo t4 t6 l7) K:=by
  subst h0
  induction n generalizing t6 l7 with
  |zero=>kernel_rfl
  |succ n ih=>rw[Zbw];simp only[ih];kernel_rfl
theorem Zwu(N:Nat)(m1:List Int):DN Zi2 N (m1,())=Zbo N m1:=by
  conv=>rhs;rw[Zbo];simp(disch:=exact id (by kernel_rfl)) only[Zqp (R:=Unit×Ko) N (CF Zi2 N [1,1,1,0,1,0])]
  kernel_rfl
theorem Zwv(N:Nat):GW 45 (Zly N):=GF Zi2 N Tryz.func45 (GC (Zq9 N) (GC (Zyx N) (GC (Znj N) Wa))) (λd=>Zwu N d.1)
def Zn5(N:Nat):Sig:=Sig.of [.v Jj false] [.v Jah true,.v Jq false] (λd=>Zcg N d.1)
def Zlh:Fn:=⟨Tryz.f46,λ |5=>[.canon [2,4,12,13,14,15]]|6=>[.canon [2,4,6,12,13,14]]|7=>[.canon [2,4,12,13,14]]|8=>[.canon [2,4,12,13,14]]|100005=>[.adoptC 4 1 Jl,.canon [2,4,12,13,14]]|_=>[],Zn5,λN=>[(81,Zc1 N)]⟩
def Zu3(t3:List Int)(t5:Int)(l8:List Kb):St:=⟨[(2,vP 0 0),(4,vP 1 0),(12,vV Jj t3),(13,vI (ilen t3)),(14,vI t5)],[(0,.box [.val Ja (0:Int),.nils]),(1,.box [.val Ja (0:Int),.own 2]),(2,.arr Jl l8)],3⟩
def Zs3(t3:List Int)(t9:Int)(t10:Bool)(l11:List Kb):St:=⟨[(2,vP 0 0),(4,vP 1 0),(12,vV Jj t3),(13,vI (ilen t3)),(14,vI t9),(15,vB t10)],[(0,.box [.val Ja (0:Int),.nils]),(1,.box [.val Ja (0:Int),.own 2]),(2,.arr Jl l11)],3⟩
theorem Zu4(N:Nat){R:Type}(K:Ex→St→Option R){t3:List Int}{K0:Int→Bool→Km→Option R}(h0:K0= λt9 t10 l11=>K (.exit 0) (Zs3 t3 t9 t10 l11))(n:Nat)(t5:Int)(l8:List Kb):Zdg N t3 K0 n t5 l8=LM Zlh N 0 100005 n (Zu3 t3 t5 l8) K:=by
  subst h0
  induction n generalizing t5 l8 with
  |zero=>kernel_rfl
  |succ n ih=>rw[Zdg];simp only[ih];kernel_rfl
theorem Zz9(N:Nat)(l1:List Int):DN Zlh N (l1,())=Zcg N l1:=by
  conv=>rhs;rw[Zcg];simp(disch:=exact id (by kernel_rfl)) only[Zu4 (R:=Unit×((Int×List Kb)×Kg)) N (CF Zlh N [1,1,1,0,1,0])]
  kernel_rfl
theorem Z0a(N:Nat):GW 46 (Zn5 N):=GF Zlh N Tryz.func46 (GC (Zg1 N) Wa) (λd=>Zz9 N d.1)
def Zc2(N:Nat):Sig:=Sig.of [.box Jac] [] (λd=>Zbp N d.1)
def Zww:Fn:=⟨Tryz.f110,Ws,Zc2,Wde⟩
theorem Zg2(N:Nat):GW 110 (Zc2 N):=GF Zww N Tryz.func110 Wa
def Zk2(N:Nat):Sig:=Sig.of [.box Jw,.v Ja false] [] (λd=>Zfv N d.1 d.2.1)
def Zic:Fn:=⟨Tryz.f111,λ |3=>[.canon [0,1,4,5,17,18,19,20]]|4=>[.canon [0,1,4,5,6,7,17,18,19]]|5=>[.canon [0,1,4,5,17,18,19]]|6=>[.canon [0,1,4,5,17,18,19]]|100003=>[.canon [0,1,4,5,17,18,19]]|_=>[],Zk2,Wde⟩
def Zp5(k3:Int)(r4:Nat)(alone5:Bool)(t6:Int)(t7:Int)(b8:Int)(b9:Int)(b10:Int)(b11:Int)(l12:List Y_Root)(l13:List Kb)(l14:List Int)(l15:List Kb)(l16:List Kl):St:=⟨[(0,vP 0 0),(1,vI k3),(4,.s (.one (.eptr 1 r4 0))),(5,vB alone5),(17,vO 1),(18,vI t6),(19,vI t7)],[(0,.box [.val Ja b8,.val Ja b9,.val Ja b10,.own 2,.own 3,.val Ja b11,.own 4,.own 1,.own 5]),(1,.arr Jac l12),(2,.arr Jl l13),(3,.arr Ja l14),(4,.arr Jl l15),(5,.arr Jg l16)],6⟩
def Zpt(k3:Int)(r4:Nat)(t6:Int)(b8:Int)(b9:Int)(b10:Int)(b11:Int)(l12:List Y_Root)(l13:List Kb)(l14:List Int)(l15:List Kb)(l16:List Kl)(alone17:Bool)(t18:Int)(t19:Bool):St:=⟨[(0,vP 0 0),(1,vI k3),(4,.s (.one (.eptr 1 r4 0))),(5,vB alone17),(17,vO 1),(18,vI t6),(19,vI t18),(20,vB t19)],[(0,.box [.val Ja b8,.val Ja b9,.val Ja b10,.own 2,.own 3,.val Ja b11,.own 4,.own 1,.own 5]),(1,.arr Jac l12),(2,.arr Jl l13),(3,.arr Ja l14),(4,.arr Jl l15),(5,.arr Jg l16)],6⟩
theorem Zp6(N:Nat){R:Type}(K:Ex→St→Option R){k3:Int}{r4:Nat}{t6:Int}{b8:Int}{b9:Int}{b10:Int}{b11:Int}{l12:List Y_Root}{l13:List Kb}{l14:List Int}{l15:List Kb}{l16:List Kl}{K0:Bool→Int→Bool→Option R}(h0:K0= λalone17 t18 t19=>K (.exit 0) (Zpt k3 r4 t6 b8 b9 b10 b11 l12 l13 l14 l15 l16 alone17 t18 t19))(n:Nat)(alone5:Bool)(t7:Int):Za6 N k3 r4 t6 b8 b9 b10 b11 l12 l13 l14 l15 l16 K0 n alone5 t7=LM Zic N 0 100003 n (Zp5 k3 r4 alone5 t6 t7 b8 b9 b10 b11 l12 l13 l14 l15 l16) K:=by
  subst h0
  induction n generalizing alone5 t7 with
  |zero=>kernel_rfl
  |succ n ih=>rw[Za6];simp only[ih];kernel_rfl
theorem Zu5(N:Nat)(w1:Y_World)(k2:Int):DN Zic N (w1,k2,())=Zfv N w1 k2:=by
  conv=>rhs;rw[Zfv];simp(disch:=exact id (by kernel_rfl)) only[Zp6 (R:=(Y_World×Unit)×Unit) N (CF Zic N [1,1,0,1,0])]
  kernel_rfl
theorem Zu6(N:Nat):GW 111 (Zk2 N):=GF Zic N Tryz.func111 Wa (λd=>Zu5 N d.1 d.2.1)
def Zli(N:Nat):Sig:=Sig.of [.v Ja false,.v Ja false,.v Ja false] [.v Jq false] (λd=>Zim N d.1 d.2.1 d.2.2.1)
def Z0b:Fn:=⟨Tryz.f192,Ws,Zli,λN=>[(44,Z7 N)]⟩
theorem Zqg(N:Nat):GW 192 (Zli N):=GF Z0b N Tryz.func192 (GC (Zaj N) Wa)
def Zjt(N:Nat):Sig:=Sig.of [.v Jl true,.v Jl true] [.v Ja false] (λd=>Zh9 N d.1 d.2.1)
def Zrf:Fn:=⟨Tryz.f193,Ws,Zjt,Wde⟩
theorem Zrg(N:Nat):GW 193 (Zjt N):=GF Zrf N Tryz.func193 Wa
def Zgn(N:Nat):Sig:=Sig.of [.v Je false] [.v Jq false] (λd=>Zen N d.1)
def Zkb:Fn:=⟨Tryz.f151,λ |2=>[.canon [0,5,6,7,8]]|3=>[.canon [0,3,4,5,6,7]]|4=>[.canon [0,3,4,5,6,7,33]]|5=>[.canon [2]]|6=>[.canon [0,5,6,7,60]]|7=>[.canon [2]]|8=>[.canon [0,5,6,7]]|100002=>[.canon [0,5,6,7]]|_=>[],Zgn,λN=>[(192,Zli N),(193,Zjt N)]⟩
def Zs4(l2:List Kb)(t5:Int):St:=⟨[(0,vV Je l2),(5,vV Je l2),(6,vI (ilen l2)),(7,vI t5)],[],0⟩
def Zrh(l2:List Kb):St:=⟨[(2,vB false)],[],0⟩
def Zri(l2:List Kb)(t10:Int)(t11:Bool):St:=⟨[(0,vV Je l2),(5,vV Je l2),(6,vI (ilen l2)),(7,vI t10),(8,vB t11)],[],0⟩
theorem Zs5(N:Nat){R:Type}(K:Ex→St→Option R){l2:List Kb}{K0:Option R}{K1:Int→Bool→Option R}(h0:K0=K .ret (Zrh l2))(h1:K1= λt10 t11=>K (.exit 0) (Zri l2 t10 t11))(n:Nat)(t5:Int):Za2 N l2 K0 K1 n t5=LM Zkb N 0 100002 n (Zs4 l2 t5) K:=by
  subst h0 h1
  induction n generalizing t5 with
  |zero=>kernel_rfl
  |succ n ih=>rw[Za2];simp only[ih];kernel_rfl
theorem Zy1(N:Nat)(l1:List Kb):DN Zkb N (l1,())=Zen N l1:=by
  conv=>rhs;rw[Zen];simp(disch:=exact id (by kernel_rfl)) only[Zs5 (R:=Unit×Kg) N (CF Zkb N [1,0,1,0])]
  kernel_rfl
theorem Zkc(N:Nat):GW 151 (Zgn N):=GF Zkb N Tryz.func151 (GC (Zqg N) (GC (Zrg N) Wa)) (λd=>Zy1 N d.1)
def Znk(N:Nat):Sig:=Sig.of [.v Je false,.v Ja false] [.v Jad false] (λd=>Zgj N d.1 d.2.1)
def Zkd:Fn:=⟨Tryz.f167,λ |5=>[.canon [1,5,12,13,14,15]]|6=>[.canon [1,5,7,12,13,14]]|7=>[.canon [1,5,7,12,13,14,21]]|8=>[.canon [1,5,12,13,14]]|9=>[.canon [1,5,12,13,14]]|100005=>[.canon [1,5,12,13,14]]|_=>[],Znk,λN=>[(151,Zgn N)]⟩
def Zs6(who4:Int)(t5:List Kb)(t7:Int)(l8:List Int):St:=⟨[(1,vI who4),(5,vO 0),(12,vV Je t5),(13,vI (ilen t5)),(14,vI t7)],[(0,.arr Ja l8)],1⟩
def Zrj(who4:Int)(t5:List Kb)(t9:Int)(t10:Bool)(l11:List Int):St:=⟨[(1,vI who4),(5,vO 0),(12,vV Je t5),(13,vI (ilen t5)),(14,vI t9),(15,vB t10)],[(0,.arr Ja l11)],1⟩
theorem Zs7(N:Nat){R:Type}(K:Ex→St→Option R){who4:Int}{t5:List Kb}{K0:Int→Bool→Ki→Option R}(h0:K0= λt9 t10 l11=>K (.exit 0) (Zrj who4 t5 t9 t10 l11))(n:Nat)(t7:Int)(l8:List Int):Zce N who4 t5 K0 n t7 l8=LM Zkd N 0 100005 n (Zs6 who4 t5 t7 l8) K:=by
  subst h0
  induction n generalizing t7 l8 with
  |zero=>kernel_rfl
  |succ n ih=>rw[Zce];simp only[ih];kernel_rfl
theorem Zy2(N:Nat)(l1:List Kb)(who2:Int):DN Zkd N (l1,who2,())=Zgj N l1 who2:=by
  conv=>rhs;rw[Zgj];simp(disch:=exact id (by kernel_rfl)) only[Zs7 (R:=Unit×Ko) N (CF Zkd N [1,1,1,0,1,0])]
  kernel_rfl
theorem Zy3(N:Nat):GW 167 (Znk N):=GF Zkd N Tryz.func167 (GC (Zkc N) Wa) (λd=>Zy2 N d.1 d.2.1)
def Zi3(N:Nat):Sig:=Sig.of [.box Jw,.v Ja false] [] (λd=>Zgk N d.1 d.2.1)
def Zwx:Fn:=⟨Tryz.f119,λ |0=>[.opn 10]|_=>[],Zi3,Wde⟩
theorem Zoy(N:Nat):GW 119 (Zi3 N):=GF Zwx N Tryz.func119 Wa
def Zeh(N:Nat):Sig:=Sig.of [.v Ja false] [.v Jq false] (λd=>Zeo N d.1)
def Zy4:Fn:=⟨Tryz.f198,Ws,Zeh,λN=>[(44,Z7 N)]⟩
theorem Zh6(N:Nat):GW 198 (Zeh N):=GF Zy4 N Tryz.func198 (GC (Zaj N) Wa)
def Zg8(N:Nat):Sig:=Sig.of [.v Jn false] [.v Jq false] (λd=>Zc4 N d.1)
def Zlj:Fn:=⟨Tryz.f195,λ |2=>[.canon [0,5,6,7,8]]|3=>[.canon [0,4,5,6,7]]|4=>[.canon [0,5,6,7,20]]|5=>[.canon [2]]|6=>[.canon [0,5,6,7]]|100002=>[.canon [0,5,6,7]]|_=>[],Zg8,λN=>[(165,Zcb N),(76,Zbg N)]⟩
def Zu7(l2:List Kc)(t5:Int):St:=⟨[(0,vV Jn l2),(5,vV Jn l2),(6,vI (ilen l2)),(7,vI t5)],[],0⟩
def Zs8(l2:List Kc):St:=⟨[(2,vB false)],[],0⟩
def Zs9(l2:List Kc)(t10:Int)(t11:Bool):St:=⟨[(0,vV Jn l2),(5,vV Jn l2),(6,vI (ilen l2)),(7,vI t10),(8,vB t11)],[],0⟩
theorem Zu8(N:Nat){R:Type}(K:Ex→St→Option R){l2:List Kc}{K0:Option R}{K1:Int→Bool→Option R}(h0:K0=K .ret (Zs8 l2))(h1:K1= λt10 t11=>K (.exit 0) (Zs9 l2 t10 t11))(n:Nat)(t5:Int):Zdf N l2 K0 K1 n t5=LM Zlj N 0 100002 n (Zu7 l2 t5) K:=by
  subst h0 h1
  induction n generalizing t5 with
  |zero=>kernel_rfl
  |succ n ih=>rw[Zdf];simp only[ih];kernel_rfl
theorem Z0c(N:Nat)(l1:List Kc):DN Zlj N (l1,())=Zc4 N l1:=by
  conv=>rhs;rw[Zc4];simp(disch:=exact id (by kernel_rfl)) only[Zu8 (R:=Unit×Kg) N (CF Zlj N [1,0,1,0])]
  kernel_rfl
theorem Zlk(N:Nat):GW 195 (Zg8 N):=GF Zlj N Tryz.func195 (GC (Zdo N) (GC (Zb0 N) Wa)) (λd=>Z0c N d.1)
def Zkv(N:Nat):Sig:=Sig.of [.v Jn false,.v Ja false] [.v Ja false,.v Jq false] (λd=>Zhk N d.1 d.2.1)
def Zm5:Fn:=⟨Tryz.f169,λ |4=>[.canon [0,1,6,14]]|5=>[.canon [0,1,6]]|6=>[.canon [0,1,6,23]]|7=>[.canon [4,5]]|100004=>[.canon [0,1,6]]|_=>[],Zkv,λN=>[(195,Zg8 N)]⟩
def Zxx(l4:List Kc)(cell5:Int)(i6:Int):St:=⟨[(0,vV Jn l4),(1,vI cell5),(6,vI i6)],[],0⟩
def Zwy(l4:List Kc)(cell5:Int)(t7:Int):St:=⟨[(4,vI t7),(5,vB true)],[],0⟩
def Zwz(l4:List Kc)(cell5:Int)(i8:Int)(t9:Bool):St:=⟨[(0,vV Jn l4),(1,vI cell5),(6,vI i8),(14,vB t9)],[],0⟩
theorem Zxy(N:Nat){R:Type}(K:Ex→St→Option R){l4:List Kc}{cell5:Int}{K0:Int→Option R}{K1:Int→Bool→Option R}(h0:K0= λt7=>K .ret (Zwy l4 cell5 t7))(h1:K1= λi8 t9=>K (.exit 0) (Zwz l4 cell5 i8 t9))(n:Nat)(i6:Int):Zg3 N l4 cell5 K0 K1 n i6=LM Zm5 N 0 100004 n (Zxx l4 cell5 i6) K:=by
  subst h0 h1
  induction n generalizing i6 with
  |zero=>kernel_rfl
  |succ n ih=>rw[Zg3];simp only[ih];kernel_rfl
theorem Z1t(N:Nat)(l1:List Kc)(cell2:Int):DN Zm5 N (l1,cell2,())=Zhk N l1 cell2:=by
  conv=>rhs;rw[Zhk];simp(disch:=exact id (by kernel_rfl)) only[Zxy (R:=Unit×(Int×Kg)) N (CF Zm5 N [1,1,0,1,0])]
  kernel_rfl
theorem Zo6(N:Nat):GW 169 (Zkv N):=GF Zm5 N Tryz.func169 (GC (Zlk N) Wa) (λd=>Z1t N d.1 d.2.1)
def Zju(N:Nat):Sig:=Sig.of [.v Jn false] [.v (.own Jx) false] (λd=>Zgr N d.1)
def Zn6:Fn:=⟨Tryz.f156,λ |5=>[.canon [0,3,11,12]]|6=>[.canon [0,3,4,11]]|7=>[.canon [0,3,4,5,6,11]]|8=>[.canon [0,3,4,5,11,20]]|9=>[.canon [0,3,11]]|10=>[.canon [0,3,11]]|100005=>[.canon [0,3,11]]|_=>[],Zju,λN=>[(195,Zg8 N),(169,Zkv N)]⟩
def Zy5(l3:List Kc)(t4:Int)(l5:List Kc):St:=⟨[(0,vV Jn l3),(3,vO 0),(11,vI t4)],[(0,.arr Jx l5)],1⟩
def Zxz(l3:List Kc)(t7:Int)(t8:Bool)(l9:List Kc):St:=⟨[(0,vV Jn l3),(3,vO 0),(11,vI t7),(12,vB t8)],[(0,.arr Jx l9)],1⟩
theorem Zy6(N:Nat){R:Type}(K:Ex→St→Option R){l3:List Kc}{K0:Int→Bool→(List Kc)→Option R}(h0:K0= λt7 t8 l9=>K (.exit 0) (Zxz l3 t7 t8 l9))(n:Nat)(t4:Int)(l5:List Kc):Zgg N l3 K0 n t4 l5=LM Zn6 N 0 100005 n (Zy5 l3 t4 l5) K:=by
  subst h0
  induction n generalizing t4 l5 with
  |zero=>kernel_rfl
  |succ n ih=>rw[Zgg];simp only[ih];kernel_rfl
theorem Z18(N:Nat)(l1:List Kc):DN Zn6 N (l1,())=Zgr N l1:=by
  conv=>rhs;rw[Zgr];simp(disch:=exact id (by kernel_rfl)) only[Zy6 (R:=Unit×((List Kc)×Unit)) N (CF Zn6 N [1,1,1,0,1,0])]
  kernel_rfl
theorem Zn7(N:Nat):GW 156 (Zju N):=GF Zn6 N Tryz.func156 (GC (Zlk N) (GC (Zo6 N) Wa)) (λd=>Z18 N d.1)
def Znl(N:Nat):Sig:=Sig.of [.v Jn false] [.v Jad false] (λd=>Zhp N d.1)
def Zke:Fn:=⟨Tryz.f199,λ |3=>[.canon [3,8,9,10,11]]|4=>[.canon [3,5,8,9,10]]|5=>[.canon [3,8,9,10]]|6=>[.canon [3,8,9,10]]|100003=>[.canon [3,8,9,10]]|_=>[],Znl,λN=>[(156,Zju N)]⟩
def Zta(t3:Int)(t4:Int)(l5:List Int)(l6:List Kc):St:=⟨[(3,vO 0),(8,vO 1),(9,vI t3),(10,vI t4)],[(0,.arr Ja l5),(1,.arr Jx l6)],2⟩
def Zrk(t3:Int)(l6:List Kc)(t7:Int)(t8:Bool)(l9:List Int):St:=⟨[(3,vO 0),(8,vO 1),(9,vI t3),(10,vI t7),(11,vB t8)],[(0,.arr Ja l9),(1,.arr Jx l6)],2⟩
theorem Ztb(N:Nat){R:Type}(K:Ex→St→Option R){t3:Int}{l6:List Kc}{K0:Int→Bool→Ki→Option R}(h0:K0= λt7 t8 l9=>K (.exit 0) (Zrk t3 l6 t7 t8 l9))(n:Nat)(t4:Int)(l5:List Int):Zcz N t3 l6 K0 n t4 l5=LM Zke N 0 100003 n (Zta t3 t4 l5 l6) K:=by
  subst h0
  induction n generalizing t4 l5 with
  |zero=>kernel_rfl
  |succ n ih=>rw[Zcz];simp only[ih];kernel_rfl
theorem Zy7(N:Nat)(l1:List Kc):DN Zke N (l1,())=Zhp N l1:=by
  conv=>rhs;rw[Zhp];simp(disch:=exact id (by kernel_rfl)) only[Ztb (R:=Unit×Ko) N (CF Zke N [1,1,0,1,0])]
  kernel_rfl
theorem Zy8(N:Nat):GW 199 (Znl N):=GF Zke N Tryz.func199 (GC (Zn7 N) Wa) (λd=>Zy7 N d.1)
def Zlz(N:Nat):Sig:=Sig.of [.v Ja false,.v Ja false,.v Jn false,.v Jn false] [.v Jd true,.v Jq false] (λd=>Zed N d.1 d.2.1 d.2.2.1 d.2.2.2.1)
def Zw0:Fn:=⟨Tryz.f168,Ws,Zlz,λN=>[(198,Zeh N),(44,Z7 N),(195,Zg8 N),(156,Zju N),(199,Znl N)]⟩
theorem Zw1(N:Nat):GW 168 (Zlz N):=GF Zw0 N Tryz.func168 (GC (Zh6 N) (GC (Zaj N) (GC (Zlk N) (GC (Zn7 N) (GC (Zy8 N) Wa)))))
def Zhj(N:Nat):Sig:=Sig.of [.box Jw,.v Ja false,.v Ja false] [] (λd=>Zgy N d.1 d.2.1 d.2.2.1)
def Ztc:Fn:=⟨Tryz.f138,λ |0=>[.opn 13]|_=>[],Zhj,λN=>[(167,Znk N),(119,Zi3 N),(168,Zlz N)]⟩
theorem Zn8(N:Nat):GW 138 (Zhj N):=GF Ztc N Tryz.func138 (GC (Zy3 N) (GC (Zoy N) (GC (Zw1 N) Wa)))
def Zjh(N:Nat):Sig:=Sig.of [.v Ja false] [.v Jy true,.v Jq false] (λd=>Zfe N d.1)
def Zx0:Fn:=⟨Tryz.f170,Ws,Zjh,λN=>[(165,Zcb N)]⟩
theorem Zpg(N:Nat):GW 170 (Zjh N):=GF Zx0 N Tryz.func170 (GC (Zdo N) Wa)
def Zda(N:Nat):Sig:=Sig.of [.v Jv true] [.v Jq false] (λd=>Zch N d.1)
def Zmf:Fn:=⟨Tryz.f40,λ |2=>[.canon [1,6,7,8,9]]|3=>[.canon [1,4,6,7,8]]|4=>[.canon [1,6,7,8,29]]|5=>[.canon [2]]|6=>[.canon [1,6,7,8]]|100002=>[.canon [1,6,7,8]]|_=>[],Zda,λN=>[(76,Zbg N),(44,Z7 N)]⟩
def Zw2(t2:List Kb)(t4:Int)(b5:Int×List Kb):St:=⟨[(1,vP 0 0),(6,vV Je t2),(7,vI (ilen b5.2)),(8,vI t4)],[(0,.box [.val Ja b5.1,.val Je b5.2])],1⟩
def Zu9(t2:List Kb)(b5:Int×List Kb):St:=⟨[(2,vB false)],[],0⟩
def Zva(t2:List Kb)(b5:Int×List Kb)(t12:Int)(t13:Bool):St:=⟨[(1,vP 0 0),(6,vV Je t2),(7,vI (ilen b5.2)),(8,vI t12),(9,vB t13)],[(0,.box [.val Ja b5.1,.val Je b5.2])],1⟩
theorem Zw3(N:Nat){R:Type}(K:Ex→St→Option R){t2:List Kb}{b5:Int×List Kb}{K0:Option R}{K1:Int→Bool→Option R}(h0:K0=K .ret (Zu9 t2 b5))(h1:K1= λt12 t13=>K (.exit 0) (Zva t2 b5 t12 t13))(n:Nat)(t4:Int):Zd9 N t2 b5 K0 K1 n t4=LM Zmf N 0 100002 n (Zw2 t2 t4 b5) K:=by
  subst h0 h1
  induction n generalizing t4 with
  |zero=>kernel_rfl
  |succ n ih=>rw[Zd9];simp only[ih];kernel_rfl
theorem Z1g(N:Nat)(m1:Int×List Kb):DN Zmf N (m1,())=Zch N m1:=by
  conv=>rhs;rw[Zch];simp(disch:=exact id (by kernel_rfl)) only[Zw3 (R:=Unit×Kg) N (CF Zmf N [1,0,1,0])]
  kernel_rfl
theorem Zgo(N:Nat):GW 40 (Zda N):=GF Zmf N Tryz.func40 (GC (Zb0 N) (GC (Zaj N) Wa)) (λd=>Z1g N d.1)
def Znm(N:Nat):Sig:=Sig.of [.v Jy true] [.v Jq false] (λd=>Zl5 N d.1)
def Zy9:Fn:=⟨Tryz.f200,Ws,Znm,λN=>[(165,Zcb N),(44,Z7 N),(76,Zbg N)]⟩
theorem Zza(N:Nat):GW 200 (Znm N):=GF Zy9 N Tryz.func200 (GC (Zdo N) (GC (Zaj N) (GC (Zb0 N) Wa)))
def Zi4(N:Nat):Sig:=Sig.of [.v Jv true,.v Ja false,.v Jy true] [.v Jy true] (λd=>Zea N d.1 d.2.1 d.2.2.1)
def Zw4:Fn:=⟨Tryz.f171,Ws,Zi4,λN=>[(40,Zda N),(200,Znm N)]⟩
theorem Zoz(N:Nat):GW 171 (Zi4 N):=GF Zw4 N Tryz.func171 (GC (Zgo N) (GC (Zza N) Wa))
def Zgv(N:Nat):Sig:=Sig.of [.box Jac] [] (λd=>Zc8 N d.1)
def Zqq:Fn:=⟨Tryz.f172,Ws,Zgv,λN=>[(110,Zc2 N)]⟩
theorem Zmy(N:Nat):GW 172 (Zgv N):=GF Zqq N Tryz.func172 (GC (Zg2 N) Wa)
def Zk3(N:Nat):Sig:=Sig.of [.boxal Jw 3,.v Jy true] [] (λd=>Zjb N d.1 d.2.1 d.2.2.1)
def Zvb:Fn:=⟨Tryz.f139,λ |1000000=>[.unfE 1]|_=>[],Zk3,λN=>[(169,Zkv N),(170,Zjh N),(171,Zi4 N),(172,Zgv N)]⟩
theorem Zvc(N:Nat):GW 139 (Zk3 N):=GF Zvb N Tryz.func139 (GC (Zo6 N) (GC (Zpg N) (GC (Zoz N) (GC (Zmy N) Wa))))
def Zi5(N:Nat):Sig:=Sig.of [.box Jac] [.v (.prod Ja Jaf) true] (λd=>Zh0 N d.1)
def Zw5:Fn:=⟨Tryz.f114,Ws,Zi5,Wde⟩
theorem Zo0(N:Nat):GW 114 (Zi5 N):=GF Zw5 N Tryz.func114 Wa
def Zi6(N:Nat):Sig:=Sig.of [.v (.prod Jj Ja) true] [.v Jr true] (λd=>Zh1 N d.1)
def Zw6:Fn:=⟨Tryz.f178,Ws,Zi6,λN=>[(93,Zaa N)]⟩
theorem Zo1(N:Nat):GW 178 (Zi6 N):=GF Zw6 N Tryz.func178 (GC (Zan N) Wa)
def Zkf(N:Nat):Sig:=Sig.of [.v (.prod Jj Ja) true] [.v Jq false] (λd=>Zjr N d.1)
def Zzb:Fn:=⟨Tryz.f179,Ws,Zkf,λN=>[(67,Zgm N),(76,Zbg N)]⟩
theorem Zpu(N:Nat):GW 179 (Zkf N):=GF Zzb N Tryz.func179 (GC (Zj9 N) (GC (Zb0 N) Wa))
def Zn9(N:Nat):Sig:=Sig.of [.v Jl true] [.v Jq false] (λd=>Zm1 N d.1)
def Z0d:Fn:=⟨Tryz.f180,Ws,Zn9,λN=>[(105,Zeq N),(76,Zbg N)]⟩
theorem Z0e(N:Nat):GW 180 (Zn9 N):=GF Z0d N Tryz.func180 (GC (Zht N) (GC (Zb0 N) Wa))
def Zji(N:Nat):Sig:=Sig.of [.v Jj false,.v Ja false] [.v Jad false,.v Ja false,.v Jq false] (λd=>Ziw N d.1 d.2.1)
def Zx1:Fn:=⟨Tryz.f181,Ws,Zji,λN=>[(93,Zaa N),(67,Zgm N),(105,Zeq N),(106,Zku N),(68,Zh4 N)]⟩
theorem Zph(N:Nat):GW 181 (Zji N):=GF Zx1 N Tryz.func181 (GC (Zan N) (GC (Zj9 N) (GC (Zht N) (GC (Zo5 N) (GC (Zni N) Wa)))))
def Znn(N:Nat):Sig:=Sig.of [.v (.prod Jj Ja) true,.v Jl true] [.v Jr true,.v Jq false] (λd=>Zl6 N d.1 d.2.1)
def Zzc:Fn:=⟨Tryz.f146,Ws,Znn,λN=>[(178,Zi6 N),(179,Zkf N),(180,Zn9 N),(80,Zh5 N),(181,Zji N)]⟩
theorem Zzd(N:Nat):GW 146 (Znn N):=GF Zzc N Tryz.func146 (GC (Zo1 N) (GC (Zpu N) (GC (Z0e N) (GC (Znj N) (GC (Zph N) Wa)))))
def Zid(N:Nat):Sig:=Sig.of [.boxal Jw 3] [] (λd=>Zcl N d.1 d.2.1)
def Zvd:Fn:=⟨Tryz.f115,λ |1000000=>[.unfE 1]|_=>[],Zid,λN=>[(146,Znn N)]⟩
theorem Zok(N:Nat):GW 115 (Zid N):=GF Zvd N Tryz.func115 (GC (Zzd N) Wa)
def Zdi(N:Nat):Sig:=Sig.of [.v Jn false] [.v (.own Jx) false] (λd=>Zbu N d.1)
def Zx2:Fn:=⟨Tryz.f147,Ws,Zdi,Wde⟩
theorem Zhi(N:Nat):GW 147 (Zdi N):=GF Zx2 N Tryz.func147 Wa
def Zmg(N:Nat):Sig:=Sig.of [.v Jc false,.v Ja false] [.v Ja false] (λd=>Zhx N d.1 d.2.1)
def Zmh:Fn:=⟨Tryz.f96,λ |5=>[.canon [0,5,6,25]]|6=>[.canon [0,5,6]]|7=>[.canon [0,5,6]]|8=>[.canon [0,5,6,36]]|9=>[.canon [4]]|100005=>[.canon [0,5,6]]|_=>[],Zmg,λN=>[(44,Z7 N),(136,Zjs N)]⟩
def Zw7(code4:List Ka)(n5:Int)(k6:Int):St:=⟨[(0,vV Jc code4),(5,vI n5),(6,vI k6)],[],0⟩
def Zve(code4:List Ka)(t8:Int):St:=⟨[(4,vI t8)],[],0⟩
def Zvf(code4:List Ka)(n9:Int)(k10:Int)(t11:Bool):St:=⟨[(0,vV Jc code4),(5,vI n9),(6,vI k10),(25,vB t11)],[],0⟩
theorem Zw8(N:Nat){R:Type}(K:Ex→St→Option R){code4:List Ka}{K0:Int→Option R}{K1:Int→Int→Bool→Option R}(h0:K0= λt8=>K .ret (Zve code4 t8))(h1:K1= λn9 k10 t11=>K (.exit 0) (Zvf code4 n9 k10 t11))(n:Nat)(n5:Int)(k6:Int):Zeb N code4 K0 K1 n n5 k6=LM Zmh N 0 100005 n (Zw7 code4 n5 k6) K:=by
  subst h0 h1
  induction n generalizing n5 k6 with
  |zero=>kernel_rfl
  |succ n ih=>rw[Zeb];simp only[ih];kernel_rfl
theorem Z1h(N:Nat)(code1:List Ka)(i2:Int):DN Zmh N (code1,i2,())=Zhx N code1 i2:=by
  conv=>rhs;rw[Zhx];simp(disch:=exact id (by kernel_rfl)) only[Zw8 (R:=Unit×Kh) N (CF Zmh N [1,1,1,0,1,0])]
  kernel_rfl
theorem Zrl(N:Nat):GW 96 (Zmg N):=GF Zmh N Tryz.func96 (GC (Zaj N) (GC (Zor N) Wa)) (λd=>Z1h N d.1 d.2.1)
def Zkg(N:Nat):Sig:=Sig.of [.box Jw,.v Ja false,.v Jc false] [] (λd=>Zix N d.1 d.2.1 d.2.2.1)
def Ztd:Fn:=⟨Tryz.f140,λ |0=>[.opn 13]|_=>[],Zkg,λN=>[(138,Zhj N),(114,Zi5 N),(115,Zid N),(93,Zaa N),(147,Zdi N),(96,Zmg N)]⟩
theorem Zte(N:Nat):GW 140 (Zkg N):=GF Ztd N Tryz.func140 (GC (Zn8 N) (GC (Zo0 N) (GC (Zok N) (GC (Zan N) (GC (Zhi N) (GC (Zrl N) Wa))))))
def Zmo(N:Nat):Sig:=Sig.of [.v Ja false,.v Jj false,.v Jn false,.v Ja false] [.v Jaa true] (λd=>Zg4 N d.1 d.2.1 d.2.2.1 d.2.2.2.1)
def Zfx:Fn:=⟨Tryz.f141,λ |3=>[.canon [1,3,8,9,19,20,21,22]]|4=>[.canon [1,3,8,9,11,19,20,21]]|5=>[.canon [1,3,8,9,19,20,21]]|6=>[.canon [1,3,8,9,19,20,21]]|8=>[.canon [1,8,9,36,37,38]]|9=>[.nest 44 Ji,.canon [1,8,9,36,37]]|10=>[.canon [1,8,9,36,37]]|100003=>[.adoptC 9 6 Jl,.canon [1,3,8,9,19,20,21]]|100008=>[.adoptC 9 9 Ji,.canon [1,8,9,36,37]]|_=>[],Zmo,λN=>[(93,Zaa N),(156,Zju N)]⟩
def Zrm(regs7:List Int)(kids8:Int)(t9:Int)(t10:Int)(b15:Int)(l19:List Kc)(l20:List Int)(l21:List Kb):St:=⟨[(1,vV Jj regs7),(3,vI kids8),(8,vP 0 0),(9,vP 1 0),(19,vO 2),(20,vI t9),(21,vI t10)],[(0,.box [.val Ja (0:Int),.val Ja (0:Int),.val Ja (0:Int),.val Jq false,.nils,.nils,.nils,.nils,.nils,.nils]),(1,.box [.val Ja b15,.val Ja (0:Int),.val Ja (0:Int),.val Jq false,.own 3,.own 2,.own 4,.nils,.nils,.nils]),(2,.arr Jx l19),(3,.arr Ja l20),(4,.arr Jl l21)],5⟩
def Zqr(regs7:List Int)(kids8:Int)(t9:Int)(b15:Int)(l19:List Kc)(l20:List Int)(t22:Int)(t23:Bool)(l24:List Kb):St:=⟨[(1,vV Jj regs7),(3,vI kids8),(8,vP 0 0),(9,vP 1 0),(19,vO 2),(20,vI t9),(21,vI t22),(22,vB t23)],[(0,.box [.val Ja (0:Int),.val Ja (0:Int),.val Ja (0:Int),.val Jq false,.nils,.nils,.nils,.nils,.nils,.nils]),(1,.box [.val Ja b15,.val Ja (0:Int),.val Ja (0:Int),.val Jq false,.own 3,.own 2,.own 4,.nils,.nils,.nils]),(2,.arr Jx l19),(3,.arr Ja l20),(4,.arr Jl l24)],5⟩
theorem Zrn(N:Nat){R:Type}(K:Ex→St→Option R){regs7:List Int}{kids8:Int}{t9:Int}{b15:Int}{l19:List Kc}{l20:List Int}{K0:Int→Bool→Km→Option R}(h0:K0= λt22 t23 l24=>K (.exit 0) (Zqr regs7 kids8 t9 b15 l19 l20 t22 t23 l24))(n:Nat)(t10:Int)(l21:List Kb):Zco N regs7 kids8 t9 b15 l19 l20 K0 n t10 l21=LM Zfx N 0 100003 n (Zrm regs7 kids8 t9 t10 b15 l19 l20 l21) K:=by
  subst h0
  induction n generalizing t10 l21 with
  |zero=>kernel_rfl
  |succ n ih=>rw[Zco];simp only[ih];kernel_rfl
def Zro(regs28:List Int)(t29:Int)(t30:Int)(b35:Int)(l39:List Int)(l40:List Kc)(l41:List Kb)(l42:List Y_KidRun):St:=⟨[(1,vV Jj regs28),(8,vP 0 0),(9,vP 1 0),(36,vI t29),(37,vI t30)],[(0,.box [.val Ja (0:Int),.val Ja (0:Int),.val Ja (0:Int),.val Jq false,.nils,.nils,.nils,.nils,.nils,.nils]),(1,.box [.val Ja b35,.val Ja (0:Int),.val Ja (0:Int),.val Jq false,.own 2,.own 3,.own 4,.nils,.nils,.own 5]),(2,.arr Ja l39),(3,.arr Jx l40),(4,.arr Jl l41),(5,.arr Ji l42)],6⟩
def Zqs(regs28:List Int)(t29:Int)(b35:Int)(l39:List Int)(l40:List Kc)(l41:List Kb)(t45:Int)(t46:Bool)(l47:List Y_KidRun):St:=⟨[(1,vV Jj regs28),(8,vP 0 0),(9,vP 1 0),(36,vI t29),(37,vI t45),(38,vB t46)],[(0,.box [.val Ja (0:Int),.val Ja (0:Int),.val Ja (0:Int),.val Jq false,.nils,.nils,.nils,.nils,.nils,.nils]),(1,.box [.val Ja b35,.val Ja (0:Int),.val Ja (0:Int),.val Jq false,.own 2,.own 3,.own 4,.nils,.nils,.own 5]),(2,.arr Ja l39),(3,.arr Jx l40),(4,.arr Jl l41),(5,.arr Ji l47)],6⟩
theorem Zrp(N:Nat){R:Type}(K:Ex→St→Option R){regs28:List Int}{t29:Int}{b35:Int}{l39:List Int}{l40:List Kc}{l41:List Kb}{K0:Int→Bool→(List Y_KidRun)→Option R}(h0:K0= λt45 t46 l47=>K (.exit 2) (Zqs regs28 t29 b35 l39 l40 l41 t45 t46 l47))(n:Nat)(t30:Int)(l42:List Y_KidRun):Zbq N regs28 t29 b35 l39 l40 l41 K0 n t30 l42=LM Zfx N 1 100008 n (Zro regs28 t29 t30 b35 l39 l40 l41 l42) K:=by
  subst h0
  induction n generalizing t30 l42 with
  |zero=>kernel_rfl
  |succ n ih=>rw[Zbq];simp only[ih];kernel_rfl
theorem Zx3(N:Nat)(rv1:Int)(regs2:List Int)(writes3:List Kc)(kids4:Int):DN Zfx N (rv1,regs2,writes3,kids4,())=Zg4 N rv1 regs2 writes3 kids4:=by
  conv=>rhs;rw[Zg4];simp(disch:=exact id (by kernel_rfl)) only[Zrn (R:=Unit×(Y_Family×Unit)) N (CF Zfx N [1,1,0,1,0]),Zrp (R:=Unit×(Y_Family×Unit)) N (CF Zfx N [1,1,1,0,1,0])]
  kernel_rfl
theorem Zx4(N:Nat):GW 141 (Zmo N):=GF Zfx N Tryz.func141 (GC (Zan N) (GC (Zn7 N) Wa)) (λd=>Zx3 N d.1 d.2.1 d.2.2.1 d.2.2.2.1)
def Zl0(N:Nat):Sig:=Sig.of [.v Jy true] [.v Ja false,.v Ja false] (λd=>Zj1 N d.1)
def Zw9:Fn:=⟨Tryz.f173,Ws,Zl0,λN=>[(131,Zip N)]⟩
theorem Zxa(N:Nat):GW 173 (Zl0 N):=GF Zw9 N Tryz.func173 (GC (Zm3 N) Wa)
def Zi7(N:Nat):Sig:=Sig.of [.v Je false] [.v (.own Jl) false] (λd=>Zee N d.1)
def Zxb:Fn:=⟨Tryz.f150,Ws,Zi7,Wde⟩
theorem Zo2(N:Nat):GW 150 (Zi7 N):=GF Zxb N Tryz.func150 Wa
def Zoa(N:Nat):Sig:=Sig.of [.v Je false,.v Ja false,.v Ja false,.v Ja false] [.v Jad false] (λd=>Zin N d.1 d.2.1 d.2.2.1 d.2.2.2.1)
def Zll:Fn:=⟨Tryz.f201,λ |5=>[.canon [1,2,3,9,21,22,23,24]]|6=>[.canon [1,2,3,9,11,21,22,23]]|7=>[.canon [1,2,3,9,11,21,22,23,45]]|8=>[.canon [1,2,3,9,21,22,23]]|9=>[.canon [1,2,3,9,21,22,23]]|100005=>[.canon [1,2,3,9,21,22,23]]|_=>[],Zoa,λN=>[(151,Zgn N),(44,Z7 N)]⟩
def Zvg(who7:Int)(what8:Int)(mode9:Int)(t10:List Kb)(t12:Int)(l13:List Int):St:=⟨[(1,vI who7),(2,vI what8),(3,vI mode9),(9,vO 0),(21,vV Je t10),(22,vI (ilen t10)),(23,vI t12)],[(0,.arr Ja l13)],1⟩
def Ztf(who7:Int)(what8:Int)(mode9:Int)(t10:List Kb)(t14:Int)(t15:Bool)(l16:List Int):St:=⟨[(1,vI who7),(2,vI what8),(3,vI mode9),(9,vO 0),(21,vV Je t10),(22,vI (ilen t10)),(23,vI t14),(24,vB t15)],[(0,.arr Ja l16)],1⟩
theorem Zvh(N:Nat){R:Type}(K:Ex→St→Option R){who7:Int}{what8:Int}{mode9:Int}{t10:List Kb}{K0:Int→Bool→Ki→Option R}(h0:K0= λt14 t15 l16=>K (.exit 0) (Ztf who7 what8 mode9 t10 t14 t15 l16))(n:Nat)(t12:Int)(l13:List Int):Zbk N who7 what8 mode9 t10 K0 n t12 l13=LM Zll N 0 100005 n (Zvg who7 what8 mode9 t10 t12 l13) K:=by
  subst h0
  induction n generalizing t12 l13 with
  |zero=>kernel_rfl
  |succ n ih=>rw[Zbk];simp only[ih];kernel_rfl
theorem Z0f(N:Nat)(l1:List Kb)(who2:Int)(what3:Int)(mode4:Int):DN Zll N (l1,who2,what3,mode4,())=Zin N l1 who2 what3 mode4:=by
  conv=>rhs;rw[Zin];simp(disch:=exact id (by kernel_rfl)) only[Zvh (R:=Unit×Ko) N (CF Zll N [1,1,1,0,1,0])]
  kernel_rfl
theorem Z0g(N:Nat):GW 201 (Zoa N):=GF Zll N Tryz.func201 (GC (Zkc N) (GC (Zaj N) Wa)) (λd=>Z0f N d.1 d.2.1 d.2.2.1 d.2.2.2.1)
def Zbt(N:Nat):Sig:=Sig.of [.mut Jl,.clos 193 0] [] (λd=>Zy N d.1)
theorem Ze4:CmpOk Tryz.prog 193 Jl rngH cfH:=by
  intro G x y us vs w hx hy h1 h2
  obtain⟨_,_,rfl,a1,_,_,rfl,a2,a3⟩:=h1
  obtain⟨_,_,rfl,b1,_,_,rfl,b2,b3⟩:=h2
  simp only[Enc]at a1 a2 a3 b1 b2 b3
  subst a1 a2 a3 b1 b2 b3
  simp only[Xbf,Xcd]
  unfold rngH at hx hy
  simp only[Xh]at hx hy
  go_enter Tryz.func193,Tryz.ntmps193
  go_wp2
  rw[guard_run (a:=x.2.1) (b:=y.2.1),Result.andThen_ok]
  rw[neq_run (a:=x.2.1) (b:=y.2.1),Result.andThen_ok]
  rcases hb:(bne (α:=Int) x.2.1 y.2.1)with _|_
  · go_wp2
    rw[sub_run (Wqj hx.1) (Wqj hy.1) (cfH_eq hb)]
    go_wp2
    go_ret
    exact⟨rfl,two_grow _ _ _⟩
  · go_wp2
    rw[sub_run (Wqj hx.2) (Wqj hy.2) (cfH_ne hb)]
    go_wp2
    go_ret
    exact⟨rfl,two_grow _ _ _⟩
theorem Ze5(N:Nat):GW 202 (Zbt N):=⟨Wjv Tryz.func202 (show chkFn Tryz.f202=true by kernel_rfl),good_sortF sortFH (e:=.prod Ja Jx) rfl (by decide) Tryz.isAgg199 Tryz.sizeOf199 (enters_of Tryz.func193 (by kernel_rfl) rfl) swoH Ze4 N⟩
def Zno(N:Nat):Sig:=Sig.of [.v Je false,.v Ja false,.v Ja false,.v Ja false] [.v (.own Jl) false,.v Jq false] (λd=>Zhq N d.1 d.2.1 d.2.2.1 d.2.2.2.1)
def Zkh:Fn:=⟨Tryz.f174,λ |5=>[.canon [1,2,3,10,35,36,37,38]]|6=>[.canon [1,2,3,10,11,12,35,36,37]]|7=>[.canon [1,2,3,10,11,12,35,36,37,51]]|8=>[.canon [10]]|9=>[.canon [8,9]]|10=>[.canon [1,2,3,10,35,36,37]]|100005=>[.canon [1,2,3,10,35,36,37]]|_=>[],Zno,λN=>[(150,Zi7 N),(151,Zgn N),(192,Zli N),(201,Zoa N),(202,Zbt N)]⟩
def Ztg(who9:Int)(what10:Int)(mode11:Int)(t12:Int)(t13:Int)(l14:List Kb):St:=⟨[(1,vI who9),(2,vI what10),(3,vI mode11),(10,vO 0),(35,vO 0),(36,vI t12),(37,vI t13)],[(0,.arr Jl l14)],1⟩
def Zrq(who9:Int)(what10:Int)(mode11:Int)(t12:Int)(l14:List Kb)(l15:List Kb):St:=⟨[(8,vO 0),(9,vB true)],[(0,.arr Jl l15)],1⟩
def Zrr(who9:Int)(what10:Int)(mode11:Int)(t12:Int)(l14:List Kb)(t16:Int)(t17:Bool):St:=⟨[(1,vI who9),(2,vI what10),(3,vI mode11),(10,vO 0),(35,vO 0),(36,vI t12),(37,vI t16),(38,vB t17)],[(0,.arr Jl l14)],1⟩
theorem Zth(N:Nat){R:Type}(K:Ex→St→Option R){who9:Int}{what10:Int}{mode11:Int}{t12:Int}{l14:List Kb}{K0:Km→Option R}{K1:Int→Bool→Option R}(h0:K0= λl15=>K .ret (Zrq who9 what10 mode11 t12 l14 l15))(h1:K1= λt16 t17=>K (.exit 0) (Zrr who9 what10 mode11 t12 l14 t16 t17))(n:Nat)(t13:Int):Zcf N who9 what10 mode11 t12 l14 K0 K1 n t13=LM Zkh N 0 100005 n (Ztg who9 what10 mode11 t12 t13 l14) K:=by
  subst h0 h1
  induction n generalizing t13 with
  |zero=>kernel_rfl
  |succ n ih=>rw[Zcf];simp only[ih];kernel_rfl
theorem Zze(N:Nat)(l1:List Kb)(who2:Int)(what3:Int)(mode4:Int):DN Zkh N (l1,who2,what3,mode4,())=Zhq N l1 who2 what3 mode4:=by
  conv=>rhs;rw[Zhq];simp(disch:=exact id (by kernel_rfl)) only[Zth (R:=Unit×(Km×Kg)) N (CF Zkh N [1,1,1,0,1,0])]
  kernel_rfl
theorem Zzf(N:Nat):GW 174 (Zno N):=GF Zkh N Tryz.func174 (GC (Zo2 N) (GC (Zkc N) (GC (Zqg N) (GC (Z0g N) (GC (Ze5 N) Wa))))) (λd=>Zze N d.1 d.2.1 d.2.2.1 d.2.2.2.1)
def Zob(N:Nat):Sig:=Sig.of [.v Ja false,.v Ja false] [.v Jl true] (λd=>Zkr N d.1 d.2.1)
def Z0h:Fn:=⟨Tryz.f203,Ws,Zob,Wde⟩
theorem Z0i(N:Nat):GW 203 (Zob N):=GF Z0h N Tryz.func203 Wa
def Znp(N:Nat):Sig:=Sig.of [.v (.prod Jj Ja) true,.v Jy true,.v Jj false] [.v Jr true,.v Jad false,.v Jl true,.v Jq false] (λd=>Zl7 N d.1 d.2.1 d.2.2.1)
def Zzg:Fn:=⟨Tryz.f175,Ws,Znp,λN=>[(178,Zi6 N),(93,Zaa N),(179,Zkf N),(81,Zc1 N),(129,Zj6 N),(80,Zh5 N),(203,Zob N),(68,Zh4 N),(181,Zji N)]⟩
theorem Zzh(N:Nat):GW 175 (Znp N):=GF Zzg N Tryz.func175 (GC (Zo1 N) (GC (Zan N) (GC (Zpu N) (GC (Zg1 N) (GC (Zpq N) (GC (Znj N) (GC (Z0i N) (GC (Zni N) (GC (Zph N) Wa)))))))))
def Zki(N:Nat):Sig:=Sig.of [.box Jw,.v Ja false,.v Jy true] [] (λd=>Zgz N d.1 d.2.1 d.2.2.1)
def Zti:Fn:=⟨Tryz.f142,λ |1=>[.opn 20]|_=>[],Zki,λN=>[(173,Zl0 N),(174,Zno N),(172,Zgv N),(175,Znp N)]⟩
theorem Ztj(N:Nat):GW 142 (Zki N):=GF Zti N Tryz.func142 (GC (Zxa N) (GC (Zzf N) (GC (Zmy N) (GC (Zzh N) Wa))))
def Zg9(N:Nat):Sig:=Sig.of [.rp (TY_Root)] [.vj Jy] (λd=>Zds N d.1)
def Zrs:Fn:=⟨Tryz.f114,Ws,Zg9,Wde⟩
theorem Znu(N:Nat):GW 114 (Zg9 N):=GF Zrs N Tryz.func114 Wa
def Zm6(N:Nat):Sig:=Sig.of [.v Jy true,.v Jj false] [.v Jad false,.v Jq false] (λd=>Zmv N d.1 d.2.1)
def Z1u:Fn:=⟨Tryz.f95,Ws,Zm6,λN=>[(93,Zaa N),(131,Zip N),(81,Zc1 N)]⟩
theorem Zua(N:Nat):GW 95 (Zm6 N):=GF Z1u N Tryz.func95 (GC (Zan N) (GC (Zm3 N) (GC (Zg1 N) Wa)))
def Zl1(N:Nat):Sig:=Sig.of [.box Jw,.v Ja false,.v Jm true] [] (λd=>Zh2 N d.1 d.2.1 d.2.2.1)
def Zxc:Fn:=⟨Tryz.f112,λ |1=>[.opn 14]|_=>[],Zl1,λN=>[(138,Zhj N),(139,Zk3 N),(140,Zkg N),(141,Zmo N),(142,Zki N),(93,Zaa N),(114,Zg9 N),(95,Zm6 N)]⟩
theorem Zxd(N:Nat):GW 112 (Zl1 N):=GF Zxc N Tryz.func112 (GC (Zn8 N) (GC (Zvc N) (GC (Zte N) (GC (Zx4 N) (GC (Ztj N) (GC (Zan N) (GC (Znu N) (GC (Zua N) Wa))))))))
def Zl2(N:Nat):Sig:=Sig.of [.v (TY_KidRun) true] [.v Jq false] (λd=>Znd N d.1)
def Zxe:Fn:=⟨Tryz.f177,Ws,Zl2,Wde⟩
theorem Zxf(N:Nat):GW 177 (Zl2 N):=GF Zxe N Tryz.func177 Wa
def Zau(N:Nat):Sig:=Sig.of [.v Jae false,.clos 177 0] [.v Ja false] (λd=>Zx N d.1)
def Z8:Fn:=⟨Tryz.f204,λ |2=>[.canon [0,1,7,8,9]]|3=>[.canon [0,1,5,7,8]]|4=>[.canon [0,1,5,7,8,16]]|5=>[.canon [1,4]]|6=>[.canon [0,1,7,8]]|100002=>[.canon [0,1,7,8]]|_=>[],Zau,λN=>[(177,Zl2 N)]⟩
def Zdp(s2:List Y_KidRun)(t4:Int):St:=⟨[(0,vV Jae s2),(1,.s (.one (.clos 177 []))),(7,vI (ilen s2)),(8,vI t4)],[],0⟩
def Zdj(s2:List Y_KidRun)(t7:Int):St:=⟨[(1,.s (.one (.clos 177 []))),(4,vI t7)],[],0⟩
def Zdk(s2:List Y_KidRun)(t8:Int)(t9:Bool):St:=⟨[(0,vV Jae s2),(1,.s (.one (.clos 177 []))),(7,vI (ilen s2)),(8,vI t8),(9,vB t9)],[],0⟩
theorem Zdq(N:Nat){R:Type}(K:Ex→St→Option R){s2:List Y_KidRun}{K0:Int→Option R}{K1:Int→Bool→Option R}(h0:K0= λt7=>K .ret (Zdj s2 t7))(h1:K1= λt8 t9=>K (.exit 0) (Zdk s2 t8 t9))(n:Nat)(t4:Int):Zi N s2 K0 K1 n t4=LM Z8 N 0 100002 n (Zdp s2 t4) K:=by
  subst h0 h1
  induction n generalizing t4 with
  |zero=>kernel_rfl
  |succ n ih=>rw[Zi];simp only[ih];kernel_rfl
theorem Zet(N:Nat)(s1:List Y_KidRun):DN Z8 N (s1,())=Zx N s1:=by
  conv=>rhs;rw[Zx];simp(disch:=exact id (by kernel_rfl)) only[Zdq (R:=Unit×Kh) N (CF Z8 N [1,0,1,0])]
  kernel_rfl
theorem Zeu(N:Nat):GW 204 (Zau N):=GF Z8 N Tryz.func204 (GC (Zxf N) Wa) (λd=>Zet N d.1)
def Zao(N:Nat):Sig:=Sig.of [.v Jae false,.clos 177 0] [.v Jq false] (λd=>Zar N d.1)
def Zdt:Fn:=⟨Tryz.f176,Ws,Zao,λN=>[(204,Zau N)]⟩
theorem Zdu(N:Nat):GW 176 (Zao N):=GF Zdt N Tryz.func176 (GC (Zeu N) Wa)
def Znq(N:Nat):Sig:=Sig.of [.v (TY_Family) true] [.v Jq false] (λd=>Zl8 N d.1)
def Zzi:Fn:=⟨Tryz.f143,Ws,Znq,λN=>[(176,Zao N)]⟩
theorem Zzj(N:Nat):GW 143 (Znq N):=GF Zzi N Tryz.func143 (GC (Zdu N) Wa)
def Znr(N:Nat):Sig:=Sig.of [.v (TY_Family) true] [.v Jad false] (λd=>Zhr N d.1)
def Zkj:Fn:=⟨Tryz.f144,λ |5=>[.canon [3,20,21,22,23]]|6=>[.canon [3,4,5,20,21,22]]|7=>[.canon [3,4,5,20,21,22]]|8=>[.canon [3,4,5,20,21,22,37]]|9=>[.canon [3,20,21,22]]|10=>[.canon [3,20,21,22]]|100005=>[.canon [3,20,21,22]]|_=>[],Znr,λN=>[(81,Zc1 N),(93,Zaa N)]⟩
def Ztk(t4:List Y_KidRun)(t5:Int)(t6:Int)(l7:List Int):St:=⟨[(3,vO 0),(20,vV Jae t4),(21,vI t5),(22,vI t6)],[(0,.arr Ja l7)],1⟩
def Zrt(t4:List Y_KidRun)(t5:Int)(t10:Int)(t11:Bool)(l12:List Int):St:=⟨[(3,vO 0),(20,vV Jae t4),(21,vI t5),(22,vI t10),(23,vB t11)],[(0,.arr Ja l12)],1⟩
theorem Ztl(N:Nat){R:Type}(K:Ex→St→Option R){t4:List Y_KidRun}{t5:Int}{K0:Int→Bool→Ki→Option R}(h0:K0= λt10 t11 l12=>K (.exit 0) (Zrt t4 t5 t10 t11 l12))(n:Nat)(t6:Int)(l7:List Int):Zbx N t4 t5 K0 n t6 l7=LM Zkj N 0 100005 n (Ztk t4 t5 t6 l7) K:=by
  subst h0
  induction n generalizing t6 l7 with
  |zero=>kernel_rfl
  |succ n ih=>rw[Zbx];simp only[ih];kernel_rfl
theorem Zzk(N:Nat)(f1:Y_Family):DN Zkj N (f1,())=Zhr N f1:=by
  conv=>rhs;rw[Zhr];simp(disch:=exact id (by kernel_rfl)) only[Ztl (R:=Unit×Ko) N (CF Zkj N [1,1,1,0,1,0])]
  kernel_rfl
theorem Zzl(N:Nat):GW 144 (Znr N):=GF Zkj N Tryz.func144 (GC (Zg1 N) (GC (Zan N) Wa)) (λd=>Zzk N d.1)
def Zns(N:Nat):Sig:=Sig.of [.v (TY_Family) true] [.v (.own Jx) false] (λd=>Zhs N d.1)
def Zkk:Fn:=⟨Tryz.f145,λ |3=>[.canon [3,8,9,10,11]]|4=>[.canon [3,5,8,9,10]]|5=>[.canon [3,8,9,10]]|6=>[.canon [3,8,9,10]]|100003=>[.canon [3,8,9,10]]|_=>[],Zns,Wde⟩
def Ztm(t2:List Kb)(t3:Int)(t4:Int)(l5:List Kc):St:=⟨[(3,vO 0),(8,vV Je t2),(9,vI t3),(10,vI t4)],[(0,.arr Jx l5)],1⟩
def Zru(t2:List Kb)(t3:Int)(t6:Int)(t7:Bool)(l8:List Kc):St:=⟨[(3,vO 0),(8,vV Je t2),(9,vI t3),(10,vI t6),(11,vB t7)],[(0,.arr Jx l8)],1⟩
theorem Ztn(N:Nat){R:Type}(K:Ex→St→Option R){t2:List Kb}{t3:Int}{K0:Int→Bool→(List Kc)→Option R}(h0:K0= λt6 t7 l8=>K (.exit 0) (Zru t2 t3 t6 t7 l8))(n:Nat)(t4:Int)(l5:List Kc):Zc0 N t2 t3 K0 n t4 l5=LM Zkk N 0 100003 n (Ztm t2 t3 t4 l5) K:=by
  subst h0
  induction n generalizing t4 l5 with
  |zero=>kernel_rfl
  |succ n ih=>rw[Zc0];simp only[ih];kernel_rfl
theorem Zzm(N:Nat)(f1:Y_Family):DN Zkk N (f1,())=Zhs N f1:=by
  conv=>rhs;rw[Zhs];simp(disch:=exact id (by kernel_rfl)) only[Ztn (R:=Unit×((List Kc)×Unit)) N (CF Zkk N [1,1,0,1,0])]
  kernel_rfl
theorem Zzn(N:Nat):GW 145 (Zns N):=GF Zkk N Tryz.func145 Wa (λd=>Zzm N d.1)
def Zl3(N:Nat):Sig:=Sig.of [.box Jac] [] (λd=>Zh3 N d.1)
def Zxg:Fn:=⟨Tryz.f113,Ws,Zl3,λN=>[(110,Zc2 N),(143,Znq N),(144,Znr N),(145,Zns N),(93,Zaa N)]⟩
theorem Zxh(N:Nat):GW 113 (Zl3 N):=GF Zxg N Tryz.func113 (GC (Zg2 N) (GC (Zzj N) (GC (Zzl N) (GC (Zzn N) (GC (Zan N) Wa)))))
def Zjv(N:Nat):Sig:=Sig.of [.boxal Jw 3] [] (λd=>Zgd N d.1 d.2.1)
def Zrv:Fn:=⟨Tryz.f116,λ |1000000=>[.unfE 1]|_=>[],Zjv,λN=>[(114,Zi5 N),(110,Zc2 N),(147,Zdi N),(93,Zaa N)]⟩
theorem Zrw(N:Nat):GW 116 (Zjv N):=GF Zrv N Tryz.func116 (GC (Zo0 N) (GC (Zg2 N) (GC (Zhi N) (GC (Zan N) Wa))))
def Zie(N:Nat):Sig:=Sig.of [.v (.prod Ja Jz) true] [.v Jd true] (λd=>Zhg N d.1)
def Zvi:Fn:=⟨Tryz.f182,Ws,Zie,λN=>[(147,Zdi N),(93,Zaa N)]⟩
theorem Zol(N:Nat):GW 182 (Zie N):=GF Zvi N Tryz.func182 (GC (Zhi N) (GC (Zan N) Wa))
def Zgw(N:Nat):Sig:=Sig.of [.v (.prod Ja Jz) true] [.v Ja false] (λd=>Zc9 N d.1)
def Zqt:Fn:=⟨Tryz.f205,Ws,Zgw,Wde⟩
theorem Zmz(N:Nat):GW 205 (Zgw N):=GF Zqt N Tryz.func205 Wa
def Zjj(N:Nat):Sig:=Sig.of [.v (.prod Ja Jz) true] [.v Jq false] (λd=>Zfg N d.1)
def Zfy:Fn:=⟨Tryz.f183,λ |4=>[.canon [1,3,38]]|5=>[.canon [1,3]]|6=>[.canon [1,3,54]]|7=>[.canon [2]]|9=>[.canon [1,56,57,58,59]]|10=>[.canon [1,4,5,56,57,58]]|11=>[.canon [1,56,57,58,79]]|12=>[.canon [2]]|13=>[.canon [1,56,57,58]]|100004=>[.canon [1,3]]|100009=>[.canon [1,56,57,58]]|_=>[],Zjj,λN=>[(198,Zeh N),(44,Z7 N),(195,Zg8 N),(165,Zcb N),(205,Zgw N)]⟩
def Zrx(i7:Int)(b8:Int×Int×Int×Int×Int×List Kc×List Int):St:=⟨[(1,vP 0 0),(3,vI i7)],[(0,.box [.val Ja b8.1,.val Ja b8.2.1,.val Ja b8.2.2.1,.val Ja b8.2.2.2.1,.val Ja b8.2.2.2.2.1,.val Jn b8.2.2.2.2.2.1,.val Jj b8.2.2.2.2.2.2])],1⟩
def Zqu(b8:Int×Int×Int×Int×Int×List Kc×List Int):St:=⟨[(2,vB false)],[],0⟩
def Zqv(b8:Int×Int×Int×Int×Int×List Kc×List Int)(i9:Int)(t10:Bool):St:=⟨[(1,vP 0 0),(3,vI i9),(38,vB t10)],[(0,.box [.val Ja b8.1,.val Ja b8.2.1,.val Ja b8.2.2.1,.val Ja b8.2.2.2.1,.val Ja b8.2.2.2.2.1,.val Jn b8.2.2.2.2.2.1,.val Jj b8.2.2.2.2.2.2])],1⟩
theorem Zry(N:Nat){R:Type}(K:Ex→St→Option R){b8:Int×Int×Int×Int×Int×List Kc×List Int}{K0:Option R}{K1:Int→Bool→Option R}(h0:K0=K .ret (Zqu b8))(h1:K1= λi9 t10=>K (.exit 0) (Zqv b8 i9 t10))(n:Nat)(i7:Int):Zb3 N b8 K0 K1 n i7=LM Zfy N 0 100004 n (Zrx i7 b8) K:=by
  subst h0 h1
  induction n generalizing i7 with
  |zero=>kernel_rfl
  |succ n ih=>rw[Zb3];simp only[ih];kernel_rfl
def Zrz(t13:List Int)(t15:Int)(b16:Int×Int×Int×Int×Int×List Kc×List Int):St:=⟨[(1,vP 0 0),(56,vV Jj t13),(57,vI (ilen b16.2.2.2.2.2.2)),(58,vI t15)],[(0,.box [.val Ja b16.1,.val Ja b16.2.1,.val Ja b16.2.2.1,.val Ja b16.2.2.2.1,.val Ja b16.2.2.2.2.1,.val Jn b16.2.2.2.2.2.1,.val Jj b16.2.2.2.2.2.2])],1⟩
def Zqw(t13:List Int)(b16:Int×Int×Int×Int×Int×List Kc×List Int):St:=⟨[(2,vB false)],[],0⟩
def Zqx(t13:List Int)(b16:Int×Int×Int×Int×Int×List Kc×List Int)(t19:Int)(t20:Bool):St:=⟨[(1,vP 0 0),(56,vV Jj t13),(57,vI (ilen b16.2.2.2.2.2.2)),(58,vI t19),(59,vB t20)],[(0,.box [.val Ja b16.1,.val Ja b16.2.1,.val Ja b16.2.2.1,.val Ja b16.2.2.2.1,.val Ja b16.2.2.2.2.1,.val Jn b16.2.2.2.2.2.1,.val Jj b16.2.2.2.2.2.2])],1⟩
theorem Zr0(N:Nat){R:Type}(K:Ex→St→Option R){t13:List Int}{b16:Int×Int×Int×Int×Int×List Kc×List Int}{K0:Option R}{K1:Int→Bool→Option R}(h0:K0=K .ret (Zqw t13 b16))(h1:K1= λt19 t20=>K (.exit 2) (Zqx t13 b16 t19 t20))(n:Nat)(t15:Int):Zbr N t13 b16 K0 K1 n t15=LM Zfy N 1 100009 n (Zrz t13 t15 b16) K:=by
  subst h0 h1
  induction n generalizing t15 with
  |zero=>kernel_rfl
  |succ n ih=>rw[Zbr];simp only[ih];kernel_rfl
theorem Zx5(N:Nat)(c1:Int×Int×Int×Int×Int×List Kc×List Int):DN Zfy N (c1,())=Zfg N c1:=by
  conv=>rhs;rw[Zfg];simp(disch:=exact id (by kernel_rfl)) only[Zry (R:=Unit×Kg) N (CF Zfy N [1,1,0,1,0]),Zr0 (R:=Unit×Kg) N (CF Zfy N [1,1,1,0,1,0])]
  kernel_rfl
theorem Zpi(N:Nat):GW 183 (Zjj N):=GF Zfy N Tryz.func183 (GC (Zh6 N) (GC (Zaj N) (GC (Zlk N) (GC (Zdo N) (GC (Zmz N) Wa))))) (λd=>Zx5 N d.1)
def Zfl(N:Nat):Sig:=Sig.of [.box Jd,.v Ja false] [] (λd=>Z9 N d.1 d.2.1)
def Zpv:Fn:=⟨Tryz.f184,Ws,Zfl,Wde⟩
theorem Zl4(N:Nat):GW 184 (Zfl N):=GF Zpv N Tryz.func184 Wa
def Zkl(N:Nat):Sig:=Sig.of [.v (.prod Ja Jz) true] [.v Jd true,.v Jq false] (λd=>Ziy N d.1)
def Zto:Fn:=⟨Tryz.f148,Ws,Zkl,λN=>[(182,Zie N),(183,Zjj N),(184,Zfl N)]⟩
theorem Ztp(N:Nat):GW 148 (Zkl N):=GF Zto N Tryz.func148 (GC (Zol N) (GC (Zpi N) (GC (Zl4 N) Wa)))
def Zei(N:Nat):Sig:=Sig.of [.v Jv true] [.v Jah true] (λd=>Zcj N d.1)
def Zzo:Fn:=⟨Tryz.f185,Ws,Zei,Wde⟩
theorem Zh7(N:Nat):GW 185 (Zei N):=GF Zzo N Tryz.func185 Wa
def Zo7(N:Nat):Sig:=Sig.of [.v Jv true,.v Ja false,.v Ja false] [.v Jah true,.v Jq false] (λd=>Zmw N d.1 d.2.1 d.2.2.1)
def Z1v:Fn:=⟨Tryz.f186,Ws,Zo7,λN=>[(185,Zei N),(40,Zda N),(165,Zcb N),(198,Zeh N)]⟩
theorem Z1w(N:Nat):GW 186 (Zo7 N):=GF Z1v N Tryz.func186 (GC (Zh7 N) (GC (Zgo N) (GC (Zdo N) (GC (Zh6 N) Wa))))
def Zgb(N:Nat):Sig:=Sig.of [.box Jd,.v Ja false] [] (λd=>Zep N d.1 d.2.1)
def Zp7:Fn:=⟨Tryz.f189,Ws,Zgb,Wde⟩
theorem Zml(N:Nat):GW 189 (Zgb N):=GF Zp7 N Tryz.func189 Wa
def Zkm(N:Nat):Sig:=Sig.of [.box Jd,.v Ja false] [] (λd=>Zby N d.1 d.2.1)
def Ztq:Fn:=⟨Tryz.f187,Ws,Zkm,λN=>[(205,Zgw N),(189,Zgb N)]⟩
theorem Ztr(N:Nat):GW 187 (Zkm N):=GF Ztq N Tryz.func187 (GC (Zmz N) (GC (Zml N) Wa))
def Zo8(N:Nat):Sig:=Sig.of [.v Jv true] [.v Jah true,.v Ja false] (λd=>Zox N d.1)
def Z1x:Fn:=⟨Tryz.f188,Ws,Zo8,λN=>[(185,Zei N),(40,Zda N)]⟩
theorem Z1y(N:Nat):GW 188 (Zo8 N):=GF Z1x N Tryz.func188 (GC (Zh7 N) (GC (Zgo N) Wa))
def Zot(N:Nat):Sig:=Sig.of [.v Jv true,.v Ja false,.v Ja false,.v Ja false] [.v Jah true,.v Jq false] (λd=>Znw N d.1 d.2.1 d.2.2.1 d.2.2.2.1)
def Z1i:Fn:=⟨Tryz.f190,Ws,Zot,λN=>[(185,Zei N),(40,Zda N),(165,Zcb N),(198,Zeh N),(76,Zbg N)]⟩
theorem Z1j(N:Nat):GW 190 (Zot N):=GF Z1i N Tryz.func190 (GC (Zh7 N) (GC (Zgo N) (GC (Zdo N) (GC (Zh6 N) (GC (Zb0 N) Wa)))))
def Zoc(N:Nat):Sig:=Sig.of [.v Jv true,.v Ja false,.v Ja false,.v Ja false] [.v Jah true,.v Jq false] (λd=>Zks N d.1 d.2.1 d.2.2.1 d.2.2.2.1)
def Z0j:Fn:=⟨Tryz.f191,Ws,Zoc,λN=>[(185,Zei N),(40,Zda N),(165,Zcb N),(198,Zeh N),(44,Z7 N)]⟩
theorem Z0k(N:Nat):GW 191 (Zoc N):=GF Z0j N Tryz.func191 (GC (Zh7 N) (GC (Zgo N) (GC (Zdo N) (GC (Zh6 N) (GC (Zaj N) Wa)))))
def Zk4(N:Nat):Sig:=Sig.of [.v Jv true,.v (.prod Ja Jz) true] [.v Jah true,.v Jd true] (λd=>Zjc N d.1 d.2.1)
def Zvj:Fn:=⟨Tryz.f149,Ws,Zk4,λN=>[(185,Zei N),(182,Zie N),(40,Zda N),(183,Zjj N),(186,Zo7 N),(187,Zkm N),(184,Zfl N),(188,Zo8 N),(189,Zgb N),(190,Zot N),(191,Zoc N)]⟩
theorem Zvk(N:Nat):GW 149 (Zk4 N):=GF Zvj N Tryz.func149 (GC (Zh7 N) (GC (Zol N) (GC (Zgo N) (GC (Zpi N) (GC (Z1w N) (GC (Ztr N) (GC (Zl4 N) (GC (Z1y N) (GC (Zml N) (GC (Z1j N) (GC (Z0k N) Wa)))))))))))
def Zjw(N:Nat):Sig:=Sig.of [.box Jw,.v Ja false] [] (λd=>Zge N d.1 d.2.1)
def Zr1:Fn:=⟨Tryz.f117,λ |0=>[.opn 13]|_=>[],Zjw,λN=>[(148,Zkl N),(110,Zc2 N),(149,Zk4 N),(147,Zdi N)]⟩
theorem Zr2(N:Nat):GW 117 (Zjw N):=GF Zr1 N Tryz.func117 (GC (Ztp N) (GC (Zg2 N) (GC (Zvk N) (GC (Zhi N) Wa))))
def Zif(N:Nat):Sig:=Sig.of [.v Jl true,.box Ja] [.v Jq false] (λd=>Zfw N d.1 d.2.1)
def Zvl:Fn:=⟨Tryz.f153,Ws,Zif,Wde⟩
theorem Zom(N:Nat):GW 153 (Zif N):=GF Zvl N Tryz.func153 Wa
def Za0(N:Nat):Sig:=Sig.of [.v Je false,.clos 153 1,.box Ja] [.v Ja false] (λd=>Z0 N d.1 d.2.1)
def Zae:Fn:=⟨Tryz.f194,λ |2=>[.canon [0,1,7,8,9]]|3=>[.canon [0,1,5,7,8]]|4=>[.canon [0,1,5,7,8,16]]|5=>[.canon [1,4]]|6=>[.canon [0,1,7,8]]|100002=>[.canon [0,1,7,8]]|_=>[],Za0,λN=>[(153,Zif N)]⟩
def Zej(s3:List Kb)(t5:Int)(b6:Int):St:=⟨[(0,vV Je s3),(1,.s (.one (.clos 153 [0]))),(7,vI (ilen s3)),(8,vI t5)],[(0,.box [.val Ja b6])],1⟩
def Zd1(s3:List Kb)(t9:Int)(b10:Int):St:=⟨[(1,.s (.one (.clos 153 [0]))),(4,vI t9)],[(0,.box [.val Ja b10])],1⟩
def Zd2(s3:List Kb)(t11:Int)(t12:Bool)(b13:Int):St:=⟨[(0,vV Je s3),(1,.s (.one (.clos 153 [0]))),(7,vI (ilen s3)),(8,vI t11),(9,vB t12)],[(0,.box [.val Ja b13])],1⟩
theorem Zek(N:Nat){R:Type}(K:Ex→St→Option R){s3:List Kb}{K0:Int→Int→Option R}{K1:Int→Bool→Int→Option R}(h0:K0= λt9 b10=>K .ret (Zd1 s3 t9 b10))(h1:K1= λt11 t12 b13=>K (.exit 0) (Zd2 s3 t11 t12 b13))(n:Nat)(t5:Int)(b6:Int):Zl N s3 K0 K1 n t5 b6=LM Zae N 0 100002 n (Zej s3 t5 b6) K:=by
  subst h0 h1
  induction n generalizing t5 b6 with
  |zero=>kernel_rfl
  |succ n ih=>rw[Zl];simp only[ih];kernel_rfl
theorem Zfm(N:Nat)(s1:List Kb)(cap2:Int):DN Zae N (s1,cap2,())=Z0 N s1 cap2:=by
  conv=>rhs;rw[Z0];simp(disch:=exact id (by kernel_rfl)) only[Zek (R:=Kh×Kh) N (CF Zae N [1,0,1,0])]
  kernel_rfl
theorem Zfn(N:Nat):GW 194 (Za0 N):=GF Zae N Tryz.func194 (GC (Zom N) Wa) (λd=>Zfm N d.1 d.2.1)
def Zaw(N:Nat):Sig:=Sig.of [.v (.own Jl) false,.clos 153 1,.box Ja] [.v (.own Jl) false] (λd=>Zs N d.1 d.2.1)
def Zab:Fn:=⟨Tryz.f152,λ |5=>[.canon [0,1,5,6,19]]|6=>[.canon [0,1,5,6]]|7=>[.canon [0,1,5,6,7]]|8=>[.canon [0,1,5,6,7,29]]|9=>[.canon [0,1,5,6]]|10=>[.canon [0,1,5,6]]|11=>[.view 38]|100005=>[.canon [0,1,5,6]]|_=>[],Zaw,λN=>[(194,Za0 N),(153,Zif N)]⟩
def Zd3(i4:Int)(j5:Int)(l6:List Kb)(b7:Int):St:=⟨[(0,vO 0),(1,.s (.one (.clos 153 [1]))),(5,vI i4),(6,vI j5)],[(0,.arr Jl l6),(1,.box [.val Ja b7])],2⟩
def Zdv(i9:Int)(j10:Int)(t11:Bool)(l12:List Kb)(b13:Int):St:=⟨[(0,vO 0),(1,.s (.one (.clos 153 [1]))),(5,vI i9),(6,vI j10),(19,vB t11)],[(0,.arr Jl l12),(1,.box [.val Ja b13])],2⟩
theorem Zd4(N:Nat){R:Type}(K:Ex→St→Option R){K0:Int→Int→Bool→Km→Int→Option R}(h0:K0= λi9 j10 t11 l12 b13=>K (.exit 0) (Zdv i9 j10 t11 l12 b13))(n:Nat)(i4:Int)(j5:Int)(l6:List Kb)(b7:Int):Zd N K0 n i4 j5 l6 b7=LM Zab N 0 100005 n (Zd3 i4 j5 l6 b7) K:=by
  subst h0
  induction n generalizing i4 j5 l6 b7 with
  |zero=>kernel_rfl
  |succ n ih=>rw[Zd];simp only[ih];kernel_rfl
theorem Ze6(N:Nat)(s1:List Kb)(cap2:Int):DN Zab N (s1,cap2,())=Zs N s1 cap2:=by
  conv=>rhs;rw[Zs];simp(disch:=exact id (by kernel_rfl)) only[Zd4 (R:=Kh×(Km×Unit)) N (CF Zab N [1,1,1,0,1,0])]
  kernel_rfl
theorem Ze7(N:Nat):GW 152 (Zaw N):=GF Zab N Tryz.func152 (GC (Zfn N) (GC (Zom N) Wa)) (λd=>Ze6 N d.1 d.2.1)
def Zmp(N:Nat):Sig:=Sig.of [.v Je false,.v Ja false] [.v (.own Jl) false] (λd=>Zk8 N d.1 d.2.1)
def Zx6:Fn:=⟨Tryz.f118,Ws,Zmp,λN=>[(150,Zi7 N),(151,Zgn N),(152,Zaw N)]⟩
theorem Zx7(N:Nat):GW 118 (Zmp N):=GF Zx6 N Tryz.func118 (GC (Zo2 N) (GC (Zkc N) (GC (Ze7 N) Wa)))
def Zk5(N:Nat):Sig:=Sig.of [.box Jw,.v Ja false,.v Jm true] [] (λd=>Zhh N d.1 d.2.1 d.2.2.1)
def Zvm:Fn:=⟨Tryz.f73,λ |1=>[.opn 12]|_=>[],Zk5,λN=>[(44,Z7 N),(110,Zc2 N),(111,Zk2 N),(112,Zl1 N),(113,Zl3 N),(114,Zg9 N),(115,Zid N),(116,Zjv N),(117,Zjw N),(118,Zmp N),(119,Zi3 N)]⟩
theorem Zvn(N:Nat):GW 73 (Zk5 N):=GF Zvm N Tryz.func73 (GC (Zaj N) (GC (Zg2 N) (GC (Zu6 N) (GC (Zxd N) (GC (Zxh N) (GC (Znu N) (GC (Zok N) (GC (Zrw N) (GC (Zr2 N) (GC (Zx7 N) (GC (Zoy N) Wa)))))))))))
def Zig(N:Nat):Sig:=Sig.of [.v Jl true,.box Ja] [.v Jq false] (λd=>Zjo N d.1 d.2.1)
def Zp8:Fn:=⟨Tryz.f160,Ws,Zig,Wde⟩
theorem Zp9(N:Nat):GW 160 (Zig N):=GF Zp8 N Tryz.func160 Wa
def Zap(N:Nat):Sig:=Sig.of [.v Je false,.clos 160 1,.box Ja] [.v Ja false] (λd=>Zp N d.1 d.2.1)
def Z4:Fn:=⟨Tryz.f159,λ |2=>[.canon [0,1,7,8,9]]|3=>[.canon [0,1,5,7,8]]|4=>[.canon [0,1,5,7,8,16]]|5=>[.canon [1,4]]|6=>[.canon [0,1,7,8]]|100002=>[.canon [0,1,7,8]]|_=>[],Zap,λN=>[(160,Zig N)]⟩
def Zdb(s3:List Kb)(t5:Int)(b6:Int):St:=⟨[(0,vV Je s3),(1,.s (.one (.clos 160 [0]))),(7,vI (ilen s3)),(8,vI t5)],[(0,.box [.val Ja b6])],1⟩
def Zc5(s3:List Kb)(t9:Int)(b10:Int):St:=⟨[(1,.s (.one (.clos 160 [0]))),(4,vI t9)],[(0,.box [.val Ja b10])],1⟩
def Zc6(s3:List Kb)(t11:Int)(t12:Bool)(b13:Int):St:=⟨[(0,vV Je s3),(1,.s (.one (.clos 160 [0]))),(7,vI (ilen s3)),(8,vI t11),(9,vB t12)],[(0,.box [.val Ja b13])],1⟩
theorem Zdc(N:Nat){R:Type}(K:Ex→St→Option R){s3:List Kb}{K0:Int→Int→Option R}{K1:Int→Bool→Int→Option R}(h0:K0= λt9 b10=>K .ret (Zc5 s3 t9 b10))(h1:K1= λt11 t12 b13=>K (.exit 0) (Zc6 s3 t11 t12 b13))(n:Nat)(t5:Int)(b6:Int):Zf N s3 K0 K1 n t5 b6=LM Z4 N 0 100002 n (Zdb s3 t5 b6) K:=by
  subst h0 h1
  induction n generalizing t5 b6 with
  |zero=>kernel_rfl
  |succ n ih=>rw[Zf];simp only[ih];kernel_rfl
theorem Zdw(N:Nat)(s1:List Kb)(cap2:Int):DN Z4 N (s1,cap2,())=Zp N s1 cap2:=by
  conv=>rhs;rw[Zp];simp(disch:=exact id (by kernel_rfl)) only[Zdc (R:=Kh×Kh) N (CF Z4 N [1,0,1,0])]
  kernel_rfl
theorem Zdx(N:Nat):GW 159 (Zap N):=GF Z4 N Tryz.func159 (GC (Zp9 N) Wa) (λd=>Zdw N d.1 d.2.1)
def Zev(N:Nat):Sig:=Sig.of [.rp (TY_Family),.v Ja false] [.v Ja false] (λd=>Zcp N d.1 d.2.1)
def Zr3:Fn:=⟨Tryz.f122,Ws,Zev,λN=>[(159,Zap N)]⟩
theorem Zjx(N:Nat):GW 122 (Zev N):=GF Zr3 N Tryz.func122 (GC (Zdx N) Wa)
def Zgc(N:Nat):Sig:=Sig.of [.box Jaa,.v Ja false] [] (λd=>Zbs N d.1 d.2.1)
def Zqa:Fn:=⟨Tryz.f123,Ws,Zgc,λN=>[(93,Zaa N)]⟩
theorem Zmm(N:Nat):GW 123 (Zgc N):=GF Zqa N Tryz.func123 (GC (Zan N) Wa)
def Zkn(N:Nat):Sig:=Sig.of [.box Jaa,.v Ja false,.v Jy true,.v Jv true] [] (λd=>Zir N d.1 d.2.1 d.2.2.1 d.2.2.2.1)
def Zts:Fn:=⟨Tryz.f154,λ |1=>[.opn 18]|_=>[],Zkn,λN=>[(169,Zkv N),(122,Zev N),(123,Zgc N),(170,Zjh N),(171,Zi4 N)]⟩
theorem Ztt(N:Nat):GW 154 (Zkn N):=GF Zts N Tryz.func154 (GC (Zo6 N) (GC (Zjx N) (GC (Zmm N) (GC (Zpg N) (GC (Zoz N) Wa)))))
def Zjy(N:Nat):Sig:=Sig.of [.box Ji,.v Jc false] [] (λd=>Zh8 N d.1 d.2.1)
def Zr4:Fn:=⟨Tryz.f155,λ |5=>[.opn 28]|_=>[],Zjy,λN=>[(93,Zaa N),(147,Zdi N),(96,Zmg N)]⟩
theorem Zr5(N:Nat):GW 155 (Zjy N):=GF Zr4 N Tryz.func155 (GC (Zan N) (GC (Zhi N) (GC (Zrl N) Wa)))
def Zk6(N:Nat):Sig:=Sig.of [.box Jaa,.v Ja false,.v Jc false,.v Jv true] [] (λd=>Zi9 N d.1 d.2.1 d.2.2.1 d.2.2.2.1)
def Zvo:Fn:=⟨Tryz.f120,λ |1=>[.opn 16]|18=>[.nest 128 Ju]|_=>[],Zk6,λN=>[(154,Zkn N),(155,Zjy N),(93,Zaa N),(95,Zm6 N)]⟩
theorem Zvp(N:Nat):GW 120 (Zk6 N):=GF Zvo N Tryz.func120 (GC (Ztt N) (GC (Zr5 N) (GC (Zan N) (GC (Zua N) Wa))))
def Zbn(N:Nat):Sig:=Sig.of [.mut Jl,.clos 158 0] [] (λd=>Zas N d.1)
theorem Zd5:CmpOk Tryz.prog 158 Jl rngE cfE:=by
  intro G x y us vs w hx hy h1 h2
  obtain⟨_,_,rfl,a1,_,_,rfl,a2,a3⟩:=h1
  obtain⟨_,_,rfl,b1,_,_,rfl,b2,b3⟩:=h2
  simp only[Enc]at a1 a2 a3 b1 b2 b3
  subst a1 a2 a3 b1 b2 b3
  simp only[Xbf,Xcd]
  go_enter Tryz.func158,Tryz.ntmps158
  go_wp2
  rw[sub_run (Wqj hx) (Wqj hy) (c:=cfE x y) rfl]
  go_wp2
  go_ret
  exact⟨rfl,two_grow _ _ _⟩
theorem Zd6(N:Nat):GW 157 (Zbn N):=⟨Wjv Tryz.func157 (show chkFn Tryz.f157=true by kernel_rfl),good_sortF sortFE (e:=.prod Ja Jx) rfl (by decide) Tryz.isAgg168 Tryz.sizeOf168 (enters_of Tryz.func158 (by kernel_rfl) rfl) swoE Zd5 N⟩
def Zjz(N:Nat):Sig:=Sig.of [.box Jaa,.v Ja false] [] (λd=>Zdr N d.1 d.2.1)
def Zcu:Fn:=⟨Tryz.f121,λ |0=>[.opn 16]|3=>[.canon [0,1,4,28,29,30,31]]|4=>[.canon [0,1,4,6,28,29,30]]|5=>[.canon [0,1,4,6,7,28,29,30]]|6=>[.canon [0,1,4,7,8,28,29,30]]|7=>[.canon [0,1,4,7,8,28,29,30,48]]|8=>[.canon [0,1,4,28,29,30]]|9=>[.canon [0,1,4,28,29,30]]|10=>[.canon [0,1,4,28,29,30]]|13=>[.canon [0,1,4,75,76,77,78]]|14=>[.canon [0,1,4,10,75,76,77]]|15=>[.canon [0,1,4,10,75,76,77,83]]|16=>[.canon [0,1,4,75,76,77]]|17=>[.canon [0,1,4,75,76,77]]|100003=>[.canon [0,1,4,28,29,30]]|100013=>[.canon [0,1,4,75,76,77]]|_=>[],Zjz,λN=>[(156,Zju N),(122,Zev N),(157,Zbn N)]⟩
def Zpj(k4:Int)(t5:Int)(t6:Int)(b7:Int)(b8:Int)(b9:Int)(b10:Bool)(b11:Int)(b12:Int)(b13:Int)(b14:Int)(b15:Int)(b16:Int)(b17:Bool)(b18:Int)(b19:Int)(b20:Int)(b21:Int)(l22:List Kc)(l23:List Int)(l24:List Kc)(l25:List Kb)(l26:List Int)(l27:List Kc)(l28:List Y_KidRun)(i29:Nat)(l30:List Int)(l31:List Kb)(l32:List Kc)(l33:List Kj):St:=⟨[(0,vP 0 0),(1,vI k4),(4,vP 1 0),(28,vO 2),(29,vI t5),(30,vI t6)],[(0,.box [.val Ja b7,.val Ja b8,.val Ja b9,.val Jq b10,.own 3,.own 4,.own 5,.own 6,.own 7,.own 8]),(1,.box [.val Ja b11,.val Ja b12,.val Ja b13,.val Ja b14,.val Ja b15,.val Ja b16,.own 9,.own 10,.own 11,.own 12,.val Jq b17,.val Ja b18,.val Ja b19,.val Ja b20,.val Ja b21]),(2,.arr Jx l22),(3,.arr Ja l23),(4,.arr Jx l24),(5,.arr Jl l25),(6,.arr Ja l26),(7,.arr Jx l27),(8,.hole Ji l28 i29 1),(9,.arr Ja l30),(10,.arr Jl l31),(11,.arr Jx l32),(12,.arr Ju l33)],13⟩
def Zo9(k4:Int)(t5:Int)(b7:Int)(b8:Int)(b9:Int)(b10:Bool)(b11:Int)(b12:Int)(b13:Int)(b14:Int)(b15:Int)(b16:Int)(b17:Bool)(b18:Int)(b19:Int)(b20:Int)(b21:Int)(l22:List Kc)(l23:List Int)(l24:List Kc)(l26:List Int)(l27:List Kc)(l28:List Y_KidRun)(i29:Nat)(l30:List Int)(l31:List Kb)(l32:List Kc)(l33:List Kj)(t35:Int)(t36:Bool)(l37:List Kb):St:=⟨[(0,vP 0 0),(1,vI k4),(4,vP 1 0),(28,vO 2),(29,vI t5),(30,vI t35),(31,vB t36)],[(0,.box [.val Ja b7,.val Ja b8,.val Ja b9,.val Jq b10,.own 3,.own 4,.own 5,.own 6,.own 7,.own 8]),(1,.box [.val Ja b11,.val Ja b12,.val Ja b13,.val Ja b14,.val Ja b15,.val Ja b16,.own 9,.own 10,.own 11,.own 12,.val Jq b17,.val Ja b18,.val Ja b19,.val Ja b20,.val Ja b21]),(2,.arr Jx l22),(3,.arr Ja l23),(4,.arr Jx l24),(5,.arr Jl l37),(6,.arr Ja l26),(7,.arr Jx l27),(8,.hole Ji l28 i29 1),(9,.arr Ja l30),(10,.arr Jl l31),(11,.arr Jx l32),(12,.arr Ju l33)],13⟩
theorem Zpk(N:Nat){R:Type}(K:Ex→St→Option R){k4:Int}{t5:Int}{b7:Int}{b8:Int}{b9:Int}{b10:Bool}{b11:Int}{b12:Int}{b13:Int}{b14:Int}{b15:Int}{b16:Int}{b17:Bool}{b18:Int}{b19:Int}{b20:Int}{b21:Int}{l22:List Kc}{l23:List Int}{l24:List Kc}{l26:List Int}{l27:List Kc}{l28:List Y_KidRun}{i29:Nat}{l30:List Int}{l31:List Kb}{l32:List Kc}{l33:List Kj}{K0:Int→Bool→Km→Option R}(h0:K0= λt35 t36 l37=>K (.exit 0) (Zo9 k4 t5 b7 b8 b9 b10 b11 b12 b13 b14 b15 b16 b17 b18 b19 b20 b21 l22 l23 l24 l26 l27 l28 i29 l30 l31 l32 l33 t35 t36 l37))(n:Nat)(t6:Int)(l25:List Kb):Za7 N k4 t5 b7 b8 b9 b10 b11 b12 b13 b14 b15 b16 b17 b18 b19 b20 b21 l22 l23 l24 l26 l27 l28 i29 l30 l31 l32 l33 K0 n t6 l25=LM Zcu N 0 100003 n (Zpj k4 t5 t6 b7 b8 b9 b10 b11 b12 b13 b14 b15 b16 b17 b18 b19 b20 b21 l22 l23 l24 l25 l26 l27 l28 i29 l30 l31 l32 l33) K:=by
  subst h0
  induction n generalizing t6 l25 with
  |zero=>kernel_rfl
  |succ n ih=>rw[Za7];simp only[ih];kernel_rfl
def Zpl(k43:Int)(t44:Int)(t45:Int)(b46:Int)(b47:Int)(b48:Int)(b49:Bool)(b50:Int)(b51:Int)(b52:Int)(b53:Int)(b54:Int)(b55:Int)(b56:Bool)(b57:Int)(b58:Int)(b59:Int)(b60:Int)(l61:List Kb)(l62:List Int)(l63:List Kc)(l64:List Kb)(l65:List Int)(l66:List Kc)(l67:List Y_KidRun)(i68:Nat)(l69:List Int)(l70:List Kc)(l71:List Kj):St:=⟨[(0,vP 0 0),(1,vI k43),(4,vP 1 0),(75,vO 2),(76,vI t44),(77,vI t45)],[(0,.box [.val Ja b46,.val Ja b47,.val Ja b48,.val Jq b49,.own 3,.own 4,.own 5,.own 6,.own 7,.own 8]),(1,.box [.val Ja b50,.val Ja b51,.val Ja b52,.val Ja b53,.val Ja b54,.val Ja b55,.own 9,.own 2,.own 10,.own 11,.val Jq b56,.val Ja b57,.val Ja b58,.val Ja b59,.val Ja b60]),(2,.arr Jl l61),(3,.arr Ja l62),(4,.arr Jx l63),(5,.arr Jl l64),(6,.arr Ja l65),(7,.arr Jx l66),(8,.hole Ji l67 i68 1),(9,.arr Ja l69),(10,.arr Jx l70),(11,.arr Ju l71)],12⟩
def Zpa(k43:Int)(t44:Int)(b46:Int)(b47:Int)(b48:Int)(b49:Bool)(b50:Int)(b51:Int)(b52:Int)(b53:Int)(b54:Int)(b55:Int)(b56:Bool)(b57:Int)(b58:Int)(b59:Int)(b60:Int)(l61:List Kb)(l62:List Int)(l63:List Kc)(l64:List Kb)(l65:List Int)(l67:List Y_KidRun)(i68:Nat)(l69:List Int)(l70:List Kc)(l71:List Kj)(t72:Int)(t73:Bool)(l74:List Kc):St:=⟨[(0,vP 0 0),(1,vI k43),(4,vP 1 0),(75,vO 2),(76,vI t44),(77,vI t72),(78,vB t73)],[(0,.box [.val Ja b46,.val Ja b47,.val Ja b48,.val Jq b49,.own 3,.own 4,.own 5,.own 6,.own 7,.own 8]),(1,.box [.val Ja b50,.val Ja b51,.val Ja b52,.val Ja b53,.val Ja b54,.val Ja b55,.own 9,.own 2,.own 10,.own 11,.val Jq b56,.val Ja b57,.val Ja b58,.val Ja b59,.val Ja b60]),(2,.arr Jl l61),(3,.arr Ja l62),(4,.arr Jx l63),(5,.arr Jl l64),(6,.arr Ja l65),(7,.arr Jx l74),(8,.hole Ji l67 i68 1),(9,.arr Ja l69),(10,.arr Jx l70),(11,.arr Ju l71)],12⟩
theorem Zpm(N:Nat){R:Type}(K:Ex→St→Option R){k43:Int}{t44:Int}{b46:Int}{b47:Int}{b48:Int}{b49:Bool}{b50:Int}{b51:Int}{b52:Int}{b53:Int}{b54:Int}{b55:Int}{b56:Bool}{b57:Int}{b58:Int}{b59:Int}{b60:Int}{l61:List Kb}{l62:List Int}{l63:List Kc}{l64:List Kb}{l65:List Int}{l67:List Y_KidRun}{i68:Nat}{l69:List Int}{l70:List Kc}{l71:List Kj}{K0:Int→Bool→(List Kc)→Option R}(h0:K0= λt72 t73 l74=>K (.exit 2) (Zpa k43 t44 b46 b47 b48 b49 b50 b51 b52 b53 b54 b55 b56 b57 b58 b59 b60 l61 l62 l63 l64 l65 l67 i68 l69 l70 l71 t72 t73 l74))(n:Nat)(t45:Int)(l66:List Kc):Zbh N k43 t44 b46 b47 b48 b49 b50 b51 b52 b53 b54 b55 b56 b57 b58 b59 b60 l61 l62 l63 l64 l65 l67 i68 l69 l70 l71 K0 n t45 l66=LM Zcu N 1 100013 n (Zpl k43 t44 t45 b46 b47 b48 b49 b50 b51 b52 b53 b54 b55 b56 b57 b58 b59 b60 l61 l62 l63 l64 l65 l66 l67 i68 l69 l70 l71) K:=by
  subst h0
  induction n generalizing t45 l66 with
  |zero=>kernel_rfl
  |succ n ih=>rw[Zbh];simp only[ih];kernel_rfl
theorem Zr6(N:Nat)(f1:Y_Family)(k2:Int):DN Zcu N (f1,k2,())=Zdr N f1 k2:=by
  conv=>rhs;rw[Zdr];simp(disch:=exact id (by kernel_rfl)) only[Zpk (R:=(Y_Family×Unit)×Unit) N (CF Zcu N [1,1,0,1,0]),Zpm (R:=(Y_Family×Unit)×Unit) N (CF Zcu N [1,1,1,1,0,1,0])]
  kernel_rfl
theorem Zr7(N:Nat):GW 121 (Zjz N):=GF Zcu N Tryz.func121 (GC (Zn7 N) (GC (Zjx N) (GC (Zd6 N) Wa))) (λd=>Zr6 N d.1 d.2.1)
def Zko(N:Nat):Sig:=Sig.of [.box Jaa,.v Ja false,.v Jc false,.v Jv true] [] (λd=>Zis N d.1 d.2.1 d.2.2.1 d.2.2.2.1)
def Ztu:Fn:=⟨Tryz.f74,λ |2=>[.opn 20]|_=>[],Zko,λN=>[(120,Zk6 N),(121,Zjz N),(122,Zev N),(123,Zgc N)]⟩
theorem Ztv(N:Nat):GW 74 (Zko N):=GF Ztu N Tryz.func74 (GC (Zvp N) (GC (Zr7 N) (GC (Zjx N) (GC (Zmm N) Wa))))
def Zi8(N:Nat):Sig:=Sig.of [.box Jw,.v Jag true,.v Jl true] [] (λd=>Zgl N d.1 d.2.1 d.2.2.1)
def Zxi:Fn:=⟨Tryz.f36,λ |3=>[.unfE 6]|_=>[],Zi8,λN=>[(44,Z7 N),(73,Zk5 N),(74,Zko N)]⟩
theorem Zo3(N:Nat):GW 36 (Zi8 N):=GF Zxi N Tryz.func36 (GC (Zaj N) (GC (Zvn N) (GC (Ztv N) Wa)))
def Zpb(N:Nat):Sig:=Sig.of [.v Jag true] [.v Jw true] (λd=>Zkw N d.1)
def Zm7:Fn:=⟨Tryz.f18,λ |3=>[.nest 21 Jac]|6=>[.canon [1,2,3,32,33,34,35]]|7=>[.canon [1,2,3,5,32,33,34]]|8=>[.canon [1,2,3,32,33,34]]|9=>[.canon [1,2,3,32,33,34]]|100006=>[.adoptC 3 6 Jl,.adoptC 3 8 Jg,.canon [1,2,3,32,33,34]]|_=>[],Zpb,λN=>[(35,Zjf N),(45,Zly N),(46,Zn5 N),(36,Zi8 N)]⟩
def Zx8(t5:List Kb)(t7:Int)(b8:Ke×List Kk×List Kb)(b13:Int)(b14:Int)(b15:Int)(b16:Int)(l17:List Kb)(l18:List Int)(l19:List Kb)(l20:List Y_Root)(l21:List Kl):St:=⟨[(1,vP 0 0),(2,vP 1 0),(3,vP 2 0),(32,vV Je t5),(33,vI (ilen b8.2.2)),(34,vI t7)],[(0,.box [.val Jj b8.1.1,.val Jj b8.1.2.1,.val Ja b8.1.2.2,.val Jab b8.2.1,.val Je b8.2.2]),(1,.box [.val Ja (0:Int),.val Ja (0:Int),.val Ja (0:Int),.nils,.nils,.val Ja (0:Int),.nils,.nils,.nils]),(2,.box [.val Ja b13,.val Ja b14,.val Ja b15,.own 3,.own 4,.val Ja b16,.own 5,.own 6,.own 7]),(3,.arr Jl l17),(4,.arr Ja l18),(5,.arr Jl l19),(6,.arr Jac l20),(7,.arr Jg l21)],8⟩
def Zxj(t5:List Kb)(b8:Ke×List Kk×List Kb)(t24:Int)(t25:Bool)(b26:Int)(b27:Int)(b28:Int)(b29:Int)(l30:List Kb)(l31:List Int)(l32:List Kb)(l33:List Y_Root)(l34:List Kl):St:=⟨[(1,vP 0 0),(2,vP 1 0),(3,vP 2 0),(32,vV Je t5),(33,vI (ilen b8.2.2)),(34,vI t24),(35,vB t25)],[(0,.box [.val Jj b8.1.1,.val Jj b8.1.2.1,.val Ja b8.1.2.2,.val Jab b8.2.1,.val Je b8.2.2]),(1,.box [.val Ja (0:Int),.val Ja (0:Int),.val Ja (0:Int),.nils,.nils,.val Ja (0:Int),.nils,.nils,.nils]),(2,.box [.val Ja b26,.val Ja b27,.val Ja b28,.own 3,.own 4,.val Ja b29,.own 5,.own 6,.own 7]),(3,.arr Jl l30),(4,.arr Ja l31),(5,.arr Jl l32),(6,.arr Jac l33),(7,.arr Jg l34)],8⟩
end
end Go.Sx
