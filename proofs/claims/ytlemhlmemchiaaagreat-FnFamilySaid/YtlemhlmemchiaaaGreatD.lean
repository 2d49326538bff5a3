/- Each Go function does what its Lean function says. -/
import Derived.Test.YtlemhlmemchiaaaGreatT
import Derived.Test.YtlemhlmemchiaaaGreatProg
import Derived.Test.YtlemhlmemchiaaaGreatLay
open Bool renaming and_eq_true→Xi
open List renaming getD→Xc
open Int renaming toNat→Xb
namespace Go.Sx
noncomputable section
open Go.Proofs
abbrev Ja:Ty:=.int .i64
abbrev Jb:Ty:=.slice (.int .u8)
abbrev Jc:Ty:=.bool
abbrev Jd:Ty:=.slice (TY_KidRun)
abbrev Je:Ty:=.prod Ja (.prod Ja Ja)
abbrev Jf:Ty:=.slice Ja
abbrev Jg:Ty:=.slice (.prod Ja Ja)
abbrev Jh:Ty:=.prod Ja (.prod Ja (.own Ja))
abbrev Ji:Ty:=.own (.prod Ja Ja)
abbrev Jj:Ty:=.prod Jb (.prod Ja Ja)
abbrev Jk:Ty:=.prod Ja (.prod Ja (.prod Ja (.prod Ja (.prod Ja (.prod Ja (.prod (.own Ja) (.prod (.own Je) (.prod Ji (.prod (.own Jh) (.prod Jc (.prod Ja Je)))))))))))
abbrev Jl:Ty:=.slice (.prod Ja Je)
abbrev Jm:Ty:=.prod Ja Ja
abbrev Jn:Ty:=.prod Ja (.prod Jf (.prod Jf (.prod Jf Ja)))
abbrev Jo:Ty:=.slice Je
abbrev Jp:Ty:=.prod Ja (.prod Ja (.prod Ja (.prod Jc (.prod (.own Ja) (.prod Ji (.prod (.own Je) (.prod (.own Ja) (.prod Ji (.own Jk)))))))))
abbrev Jq:Ty:=.prod Ja Je
abbrev Jr:Ty:=.prod Jf (.prod Jf (.prod Jg (.prod (.slice Jl) Jf)))
abbrev Js:Ty:=.prod (.own Ja) (.prod (.own Ja) (.prod Ji (.prod (.own Jl) (.own Ja))))
abbrev Jt:Ty:=.prod Ja Jo
abbrev Ju:Ty:=.prod Jf (.prod Jf Ja)
abbrev Jv:Ty:=.slice Jl
abbrev Jw:Ty:=.own Ja
set_option linter.unusedVariables false
set_option linter.unusedSimpArgs false
def tab:Tab:=[(3,⟨.int .i64,false,.basic⟩),(4,⟨.bool,false,.basic⟩),(5,⟨.int .u8,false,.basic⟩),(22,⟨.slice (.int .u8),false,.slice 5⟩),(24,⟨.slice Ja,false,.slice 3⟩),(25,⟨.slice Jm,false,.slice 75⟩),(26,⟨.slice Jl,false,.slice 109⟩),(28,⟨.prod Jf (.prod Jf (.prod Jg (.prod Jv Jf))),true,.struct [(0,24),(1,24),(2,25),(3,26),(4,24)]⟩),(30,⟨.slice Je,false,.slice 113⟩),(32,⟨.prod Ja Jo,true,.struct [(0,3),(1,30)]⟩),(33,⟨.slice Je,false,.slice 121⟩),(34,⟨.slice (TY_KidRun),false,.slice 119⟩),(36,⟨TY_Family,true,.struct [(0,3),(1,3),(2,3),(3,4),(4,24),(5,25),(6,33),(7,24),(8,25),(9,34)]⟩),(50,⟨.prod Jf (.prod Jf Ja),true,.struct [(0,24),(1,24),(2,3)]⟩),(68,⟨.prod Ja Je,true,.struct [(0,3),(1,3),(2,3),(3,3)]⟩),(75,⟨.prod Ja Ja,true,.struct [(0,3),(1,3)]⟩),(89,⟨.slice Jq,false,.slice 168⟩),(97,⟨.prod Ja (.prod Jf Ju),true,.struct [(0,3),(1,24),(2,50)]⟩),(109,⟨.slice Jq,true,.struct [(0,89)]⟩),(113,⟨.prod Ja Jm,true,.struct [(0,3),(1,3),(2,3)]⟩),(117,⟨.slice (.prod Ja (.prod Ja Jf)),false,.slice 229⟩),(119,⟨TY_KidRun,true,.struct [(0,3),(1,3),(2,3),(3,3),(4,3),(5,3),(6,24),(7,33),(8,25),(9,117),(10,4),(11,68)]⟩),(121,⟨.prod Ja Jm,true,.struct [(0,3),(1,3),(2,3)]⟩),(156,⟨.prod Jb Jm,true,.struct [(0,22),(1,3),(2,3)]⟩),(168,⟨.prod Ja Je,true,.struct [(0,3),(1,3),(2,3),(3,3)]⟩),(170,⟨.slice Jc,false,.slice 4⟩),(217,⟨.slice Jn,false,.slice 219⟩),(219,⟨.prod Ja (.prod Jf Ju),true,.struct [(0,3),(1,24),(2,50)]⟩),(229,⟨.prod Ja (.prod Ja Jf),true,.struct [(0,3),(1,3),(2,24)]⟩)]
theorem mixedOk:Tryz.prog.follows .mixedOrders=true:=by kernel_rfl
theorem tabOk:WW Tryz.prog tab:=WqM (show Wir Tryz.prog tab tab=true by kernel_rfl)
def LM(x:Fn)(N:Nat){R:Type}(i k n:Nat)(st:St)(K:Ex->St->Option R):Option R:=lpM tab (x.c N) x.a N x.F i k n st K
def CF(x:Fn)(N:Nat)(p:List Nat):Ex->St->Option (Qs (x.s N)):=cxF tab (x.c N) x.a N (x.s N) x.F p
def CL(x:Fn)(N:Nat){R:Type}(i k:Nat)(p:List Nat)(n:Nat)(K:Ex->St->Option R):Ex->St->Option R:=cxL tab (x.c N) x.a N x.F i k p n K
def DN(x:Fn)(N:Nat)(d:Wdz (x.s N).ps):Option (Qs (x.s N)):=den (R:=Qs (x.s N)) tab (x.c N) x.a N (x.s N) x.F d some
def GW(k:FuncId)(s:Sig):Prop:=Wef Tryz.prog k/\Good Tryz.prog k s
theorem GC{k:FuncId}{s:Sig}{Γ:Ctx}(h:GW k s)(hc:Wdv Tryz.prog Γ):Wdv Tryz.prog ((k,s)::Γ):=WoS h.2 h.1 hc
theorem GF(x:Fn){k:FuncId}(N:Nat)(hf:Tryz.prog.funcs[k]?=some x.F)(hc:Wdv Tryz.prog (x.c N))(h:∀d,DN x N d=(x.s N).run d:=by intro d;kernel_rfl)(bm:(Wmj x.F&&WjV x.F (x.s N).ps)=true:=by kernel_rfl):GW k (x.s N):=
  ⟨WcB hf (Xi .. ▸bm).1,Wnn mixedOk tabOk hc hf (Xi .. ▸bm).2 (λd _ e=>⟨N,(h d).trans e⟩)⟩
def Zin(N:Nat):Sig:=Sig.of [.v Jb false] [.v Jc false] (λd=>Zko N d.1)
def Zr4:Fn:=⟨Tryz.f9,W4,Zin,WcL⟩
theorem Zr5(N:Nat):GW 9 (Zin N):=GF Zr4 N Tryz.func9 Wb
def Zhw(N:Nat):Sig:=Sig.of [.v Jb false] [.box Jj] (λd=>Zev N d.1)
def Zgd:Fn:=⟨Tryz.f46,λ |3=>[.canon [0,3,4,15]]|4=>[.canon [0,3,4]]|5=>[.canon [0,3,4]]|100003=>[.canon [0,3,4]]|_=>[],Zhw,WcL⟩
def Znq(aa:List Int)(h3:Int)(i4:Int):St:=⟨[(0,vV Jb aa),(3,vI h3),(4,vI i4)],[],0⟩
def Zl7(aa:List Int)(h5:Int)(i6:Int)(t7:Bool):St:=⟨[(0,vV Jb aa),(3,vI h5),(4,vI i6),(15,vB t7)],[],0⟩
theorem Znr(N:Nat){R:Type}(K:Ex->St->Option R){aa:List Int}{K0:Int->Int->Bool->Option R}(h0:K0= λh5 i6 t7=>K (.exit 0) (Zl7 aa h5 i6 t7))(n:Nat)(h3:Int)(i4:Int):Za3 N aa K0 n h3 i4=LM Zgd N 0 100003 n (Znq aa h3 i4) K:=by
  subst h0
  induction n generalizing h3 i4 with
  |zero=>kernel_rfl
  |succ n ih=>rw[Za3];simp only[ih];kernel_rfl
theorem Zq2(N:Nat)(ac:List Int):DN Zgd N (ac,())=Zev N ac:=by
  conv=>rhs;rw[Zev];simp(disch:=exact id (by kernel_rfl)) only[Znr (R:=Unit×Kn) N (CF Zgd N [1,1,0,1,0])]
  kernel_rfl
theorem Zq3(N:Nat):GW 46 (Zhw N):=GF Zgd N Tryz.func46 Wb (λd=>Zq2 N d.1)
def Zhi(N:Nat):Sig:=Sig.of [.box Jj] [.v Ja false] (λd=>Zcv N d.1)
def Zp9:Fn:=⟨Tryz.f181,W4,Zhi,WcL⟩
theorem Zqa(N:Nat):GW 181 (Zhi N):=GF Zp9 N Tryz.func181 Wb
def Zt(N:Nat):Sig:=Sig.of [.box Jj,.v Ja false] [.v Ja false] (λd=>Zb N d.1 d.2.1)
def Zpb:Fn:=⟨Tryz.f111,W4,Zt,λN=>[(181,Zhi N)]⟩
theorem Zz(N:Nat):GW 111 (Zt N):=GF Zpb N Tryz.func111 (GC (Zqa N) Wb)
def Zbw(N:Nat):Sig:=Sig.of [.box Jj,.v Ja false] [.v Jc false] (λd=>Zs N d.1 d.2.1)
def Zqb:Fn:=⟨Tryz.f96,W4,Zbw,λN=>[(111,Zt N)]⟩
theorem Zde(N:Nat):GW 96 (Zbw N):=GF Zqb N Tryz.func96 (GC (Zz N) Wb)
def Zda(N:Nat):Sig:=Sig.of [.box Jj,.v Jf false] [.v Ja false] (λd=>Zaj N d.1 d.2.1)
def Zns:Fn:=⟨Tryz.f227,W4,Zda,λN=>[(111,Zt N)]⟩
theorem Zf1(N:Nat):GW 227 (Zda N):=GF Zns N Tryz.func227 (GC (Zz N) Wb)
def Zdf(N:Nat):Sig:=Sig.of [.box Jj] [.v Ja false] (λd=>Zbd N d.1)
def Zqc:Fn:=⟨Tryz.f159,W4,Zdf,λN=>[(96,Zbw N),(227,Zda N),(111,Zt N)]⟩
theorem Zfn(N:Nat):GW 159 (Zdf N):=GF Zqc N Tryz.func159 (GC (Zde N) (GC (Zf1 N) (GC (Zz N) Wb)))
def Zfg(N:Nat):Sig:=Sig.of [.box Jj] [.v Jw false] (λd=>Zco N d.1)
def Zdx:Fn:=⟨Tryz.f158,λ |3=>[.canon [0,3,4,7]]|4=>[.canon [0,3,4]]|5=>[.canon [0,3,4]]|100003=>[.canon [0,3,4]]|_=>[],Zfg,λN=>[(159,Zdf N)]⟩
def Ziu(i2:Int)(b3:List Int×Int×Int)(l4:List Int):St:=⟨[(0,vP 0 0),(3,vO 1),(4,vI i2)],[(0,.box [.val Jb b3.1,.val Ja b3.2.1,.val Ja b3.2.2]),(1,.arr Ja l4)],2⟩
def Zio(i6:Int)(t7:Bool)(b8:List Int×Int×Int)(l9:List Int):St:=⟨[(0,vP 0 0),(3,vO 1),(4,vI i6),(7,vB t7)],[(0,.box [.val Jb b8.1,.val Ja b8.2.1,.val Ja b8.2.2]),(1,.arr Ja l9)],2⟩
theorem Ziv(N:Nat){R:Type}(K:Ex->St->Option R){K0:Int->Bool->Ke->Kh->Option R}(h0:K0= λi6 t7 b8 l9=>K (.exit 0) (Zio i6 t7 b8 l9))(n:Nat)(i2:Int)(b3:List Int×Int×Int)(l4:List Int):Zaz N K0 n i2 b3 l4=LM Zdx N 0 100003 n (Ziu i2 b3 l4) K:=by
  subst h0
  induction n generalizing i2 b3 l4 with
  |zero=>kernel_rfl
  |succ n ih=>rw[Zaz];simp only[ih];kernel_rfl
theorem Zl8(N:Nat)(c1:List Int×Int×Int):DN Zdx N (c1,())=Zco N c1:=by
  conv=>rhs;rw[Zco];simp(disch:=exact id (by kernel_rfl)) only[Ziv (R:=Kn×Ko) N (CF Zdx N [1,1,0,1,0])]
  kernel_rfl
theorem Zl9(N:Nat):GW 158 (Zfg N):=GF Zdx N Tryz.func158 (GC (Zfn N) Wb) (λd=>Zl8 N d.1)
def Zcy(N:Nat):Sig:=Sig.of [.box Jj] [.v Ja false] (λd=>Z8 N d.1)
def Zma:Fn:=⟨Tryz.f180,W4,Zcy,λN=>[(96,Zbw N),(111,Zt N)]⟩
theorem Zfh(N:Nat):GW 180 (Zcy N):=GF Zma N Tryz.func180 (GC (Zde N) (GC (Zz N) Wb))
def Zhj(N:Nat):Sig:=Sig.of [.box Jj,.v Ja false] [.v Ji false] (λd=>Zd5 N d.1 d.2.1)
def Zfo:Fn:=⟨Tryz.f178,λ |3=>[.canon [0,5,6,13]]|4=>[.canon [0,5,6]]|5=>[.canon [0,5,6]]|100003=>[.canon [0,5,6]]|_=>[],Zhj,λN=>[(111,Zt N),(180,Zcy N),(159,Zdf N)]⟩
def Zmb(n4:Int)(b5:List Int×Int×Int)(l6:List Kb):St:=⟨[(0,vP 0 0),(5,vO 1),(6,vI n4)],[(0,.box [.val Jb b5.1,.val Ja b5.2.1,.val Ja b5.2.2]),(1,.arr Jm l6)],2⟩
def Zkp(n9:Int)(aN:Bool)(aI:List Int×Int×Int)(aR:List Kb):St:=⟨[(0,vP 0 0),(5,vO 1),(6,vI n9),(13,vB aN)],[(0,.box [.val Jb aI.1,.val Ja aI.2.1,.val Ja aI.2.2]),(1,.arr Jm aR)],2⟩
theorem Zmc(N:Nat){R:Type}(K:Ex->St->Option R){K0:Int->Bool->Ke->Kq->Option R}(h0:K0= λn9 aN aI aR=>K (.exit 0) (Zkp n9 aN aI aR))(n:Nat)(n4:Int)(b5:List Int×Int×Int)(l6:List Kb):Zcq N K0 n n4 b5 l6=LM Zfo N 0 100003 n (Zmb n4 b5 l6) K:=by
  subst h0
  induction n generalizing n4 b5 l6 with
  |zero=>kernel_rfl
  |succ n ih=>rw[Zcq];simp only[ih];kernel_rfl
theorem Zqd(N:Nat)(c1:List Int×Int×Int)(cb:Int):DN Zfo N (c1,cb,())=Zd5 N c1 cb:=by
  conv=>rhs;rw[Zd5];simp(disch:=exact id (by kernel_rfl)) only[Zmc (R:=Kn×Kx) N (CF Zfo N [1,1,0,1,0])]
  kernel_rfl
theorem Zqe(N:Nat):GW 178 (Zhj N):=GF Zfo N Tryz.func178 (GC (Zz N) (GC (Zfh N) (GC (Zfn N) Wb))) (λd=>Zqd N d.1 d.2.1)
def Zf2(N:Nat):Sig:=Sig.of [.box Jj] [.v Ja false] (λd=>Za N d.1)
def Znt:Fn:=⟨Tryz.f270,W4,Zf2,λN=>[(111,Zt N)]⟩
theorem Znu(N:Nat):GW 270 (Zf2 N):=GF Znt N Tryz.func270 (GC (Zz N) Wb)
def Zf3(N:Nat):Sig:=Sig.of [.box Jj] [.v Ja false] (λd=>Zg N d.1)
def Znv:Fn:=⟨Tryz.f271,W4,Zf3,λN=>[(96,Zbw N),(111,Zt N),(227,Zda N)]⟩
theorem Znw(N:Nat):GW 271 (Zf3 N):=GF Znv N Tryz.func271 (GC (Zde N) (GC (Zz N) (GC (Zf1 N) Wb)))
def Ze3(N:Nat):Sig:=Sig.of [.box Jj,.v Ja false] [.v Jq true] (λd=>Zf N d.1 d.2.1)
def Zpc:Fn:=⟨Tryz.f226,W4,Ze3,λN=>[(270,Zf2 N),(159,Zdf N),(180,Zcy N),(111,Zt N),(271,Zf3 N)]⟩
theorem Zip(N:Nat):GW 226 (Ze3 N):=GF Zpc N Tryz.func226 (GC (Znu N) (GC (Zfn N) (GC (Zfh N) (GC (Zz N) (GC (Znw N) Wb)))))
def Zfp(N m:Nat):Sig:=Sig.of [.box Jj,.v Ja false,.v Ja false,.v Jc false] [.v (.own Jq) false] (λd=>Zcd N m d.1 d.2.1 d.2.2.1 d.2.2.2.1)
def Zjo(N:Nat):Sig:=Zfp N N
def Zge(m:Nat):Fn:=⟨Tryz.f157,λ |3=>[.canon [0,1,2,3,9,10,27]]|4=>[.canon [0,1,2,3,9,10]]|5=>[.canon [0,1,2,3,9,10,11]]|6=>[.canon [0,1,2,3,9,10]]|7=>[.canon [0,1,2,3,9,10,11,40]]|8=>[.canon [0,1,2,3,9,10]]|9=>[.canon [0,1,2,3,9,10,11,48]]|10=>[.canon [0,1,2,3,9,10]]|11=>[.canon [0,1,2,3,9,10,11,56]]|12=>[.canon [0,1,2,3,9,10]]|13=>[.canon [0,1,2,3,9,10,11,67]]|14=>[.canon [0,1,2,3,9,10,12]]|15=>[.canon [0,1,2,3,9,10,12]]|16=>[.canon [0,1,2,3,9,10]]|17=>[.canon [0,1,2,3,9,10,100]]|18=>[.canon [0,1,2,3,9,10]]|19=>[.canon [0,1,2,3,9,10]]|20=>[.canon [0,1,2,3,9,10,11,109]]|21=>[.canon [0,1,2,3,9,10,13]]|22=>[.canon [0,1,2,3,9,10,13,14]]|23=>[.canon [0,1,2,3,9,10,13,14]]|24=>[.canon [0,1,2,3,9,10,13]]|25=>[.canon [0,1,2,3,9,10]]|26=>[.canon [0,1,2,3,9,10,134]]|27=>[.canon [0,1,2,3,9,10]]|28=>[.canon [0,1,2,3,9,10,145]]|29=>[.canon [0,1,2,3,9,10]]|100003=>[.canon [0,1,2,3,9,10]]|_=>[],λN=>Zfp N (m+1),λN=>[(111,Zt N),(226,Ze3 N),(157,Zfp N m),(96,Zbw N)]⟩
def Znx(aj:Int)(am:Int)(ar:Bool)(n9:Int)(bH:List Int×Int×Int)(au:List Ka):St:=⟨[(0,vP 0 0),(1,vI aj),(2,vI am),(3,vB ar),(9,vO 1),(10,vI n9)],[(0,.box [.val Jb bH.1,.val Ja bH.2.1,.val Ja bH.2.2]),(1,.arr Jq au)],2⟩
def Zmd(aj:Int)(am:Int)(ar:Bool)(qF:Int)(qG:Bool)(ow:List Int×Int×Int)(qH:List Ka):St:=⟨[(0,vP 0 0),(1,vI aj),(2,vI am),(3,vB ar),(9,vO 1),(10,vI qF),(27,vB qG)],[(0,.box [.val Jb ow.1,.val Ja ow.2.1,.val Ja ow.2.2]),(1,.arr Jq qH)],2⟩
theorem Zny(N m:Nat){R:Type}(K:Ex->St->Option R){aj:Int}{am:Int}{ar:Bool}{K0:Int->Bool->Ke->Kl->Option R}(h0:K0= λqF qG ow qH=>K (.exit 0) (Zmd aj am ar qF qG ow qH))(n:Nat)(n9:Int)(bH:List Int×Int×Int)(au:List Ka):Zc N (Zcd N m) aj am ar K0 n n9 bH au=LM (Zge m) N 0 100003 n (Znx aj am ar n9 bH au) K:=by
  subst h0
  induction n generalizing n9 bH au with
  |zero=>kernel_rfl
  |succ n ih=>rw[Zc];simp only[ih];kernel_rfl
theorem Zq4(N m:Nat)(c1:List Int×Int×Int)(cb:Int)(dY:Int)(gY:Bool):DN (Zge m) N (c1,cb,dY,gY,())=Zcd N (m+1) c1 cb dY gY:=by
  conv=>rhs;rw[Zcd];simp(disch:=exact id (by kernel_rfl)) only[Zny (R:=Kn×(Kl×Unit)) N m (CF (Zge m) N [1,1,0,1,0])]
  kernel_rfl
theorem Zi9(N:Nat):∀m,GW 157 (Zfp N m)
  |0=>⟨WcB Tryz.func157 (show Wmj Tryz.f157=true by kernel_rfl),λd o h=>nomatch (show none=some o from h)⟩
  |m+1=>GF (Zge m) N Tryz.func157 (GC (Zz N) (GC (Zip N) (GC (Zi9 N m) (GC (Zde N) Wb)))) (λd=>Zq4 N m d.1 d.2.1 d.2.2.1 d.2.2.2.1)
theorem Zq5(N:Nat):GW 157 (Zjo N):=Zi9 N N
def Zgu(N:Nat):Sig:=Sig.of [.box Jj,.v Ja false,.v Ja false] [.v Jw false] (λd=>Zdd N d.1 d.2.1 d.2.2.1)
def Zen:Fn:=⟨Tryz.f179,λ |4=>[.canon [0,1,2,7,8,9,13]]|5=>[.canon [0,1,2,7,8,9]]|6=>[.canon [0,1,2,7,8,9,18]]|7=>[.canon [0,1,2,7,8,9]]|8=>[.canon [0,1,2,7,8,9]]|100004=>[.canon [0,1,2,7,8,9]]|_=>[],Zgu,λN=>[(96,Zbw N),(111,Zt N)]⟩
def Zjp(n4:Int)(bu:Int)(cy:Int)(i7:Int)(b8:List Int×Int×Int)(l9:List Int):St:=⟨[(0,vP 0 0),(1,vI n4),(2,vI bu),(7,vO 1),(8,vI cy),(9,vI i7)],[(0,.box [.val Jb b8.1,.val Ja b8.2.1,.val Ja b8.2.2]),(1,.arr Ja l9)],2⟩
def Zjb(n4:Int)(bu:Int)(ga:Int)(lL:Int)(cY:Bool)(bM:List Int×Int×Int)(dn:List Int):St:=⟨[(0,vP 0 0),(1,vI n4),(2,vI bu),(7,vO 1),(8,vI ga),(9,vI lL),(13,vB cY)],[(0,.box [.val Jb bM.1,.val Ja bM.2.1,.val Ja bM.2.2]),(1,.arr Ja dn)],2⟩
theorem Zjq(N:Nat){R:Type}(K:Ex->St->Option R){n4:Int}{bu:Int}{K0:Int->Int->Bool->Ke->Kh->Option R}(h0:K0= λga lL cY bM dn=>K (.exit 0) (Zjb n4 bu ga lL cY bM dn))(n:Nat)(cy:Int)(i7:Int)(b8:List Int×Int×Int)(l9:List Int):Zay N n4 bu K0 n cy i7 b8 l9=LM Zen N 0 100004 n (Zjp n4 bu cy i7 b8 l9) K:=by
  subst h0
  induction n generalizing cy i7 b8 l9 with
  |zero=>kernel_rfl
  |succ n ih=>rw[Zay];simp only[ih];kernel_rfl
theorem Zov(N:Nat)(c1:List Int×Int×Int)(n2:Int)(gI:Int):DN Zen N (c1,n2,gI,())=Zdd N c1 n2 gI:=by
  conv=>rhs;rw[Zdd];simp(disch:=exact id (by kernel_rfl)) only[Zjq (R:=Kn×Ko) N (CF Zen N [1,1,1,0,1,0])]
  kernel_rfl
theorem Zow(N:Nat):GW 179 (Zgu N):=GF Zen N Tryz.func179 (GC (Zde N) (GC (Zz N) Wb)) (λd=>Zov N d.1 d.2.1 d.2.2.1)
def Zf4(N:Nat):Sig:=Sig.of [.box Jj,.v Jc false] [.v Js true] (λd=>Zc1 N d.1 d.2.1)
def Zce:Fn:=⟨Tryz.f110,λ |4=>[.canon [0,1,4,5,6,7,28]]|5=>[.canon [0,1,4,5,6,7]]|6=>[.canon [0,1,4,5,6,7]]|10=>[.canon [0,4,5,8,63]]|11=>[.canon [0,4,5,8]]|12=>[.canon [0,4,5,8]]|100004=>[.adoptC 5 3 Jl,.canon [0,1,4,5,6,7]]|100010=>[.canon [0,4,5,8]]|_=>[],Zf4,λN=>[(158,Zfg N),(159,Zdf N),(178,Zhj N),(111,Zt N),(157,Zjo N),(179,Zgu N),(96,Zbw N),(180,Zcy N)]⟩
def Zjc(bc:Bool)(iP:Int)(gS:Int)(aW:List Int×Int×Int)(cO:List Int)(cr:List Int)(dn:List Kb)(aJ:List Kl):St:=⟨[(0,vP 0 0),(1,vB bc),(4,vP 1 0),(5,vP 2 0),(6,vI iP),(7,vI gS)],[(0,.box [.val Jb aW.1,.val Ja aW.2.1,.val Ja aW.2.2]),(1,.box [.nils,.nils,.nils,.nils,.nils]),(2,.box [.own 3,.own 4,.own 5,.own 6,.nils]),(3,.arr Ja cO),(4,.arr Ja cr),(5,.arr Jm dn),(6,.arr Jl aJ)],7⟩
def Ziw(bc:Bool)(iP:Int)(cO:List Int)(cr:List Int)(dn:List Kb)(iO:Int)(eU:Bool)(jT:List Int×Int×Int)(bj:List Kl):St:=⟨[(0,vP 0 0),(1,vB bc),(4,vP 1 0),(5,vP 2 0),(6,vI iP),(7,vI iO),(28,vB eU)],[(0,.box [.val Jb jT.1,.val Ja jT.2.1,.val Ja jT.2.2]),(1,.box [.nils,.nils,.nils,.nils,.nils]),(2,.box [.own 3,.own 4,.own 5,.own 6,.nils]),(3,.arr Ja cO),(4,.arr Ja cr),(5,.arr Jm dn),(6,.arr Jl bj)],7⟩
theorem Zjd(N:Nat){R:Type}(K:Ex->St->Option R){bc:Bool}{iP:Int}{cO:List Int}{cr:List Int}{dn:List Kb}{K0:Int->Bool->Ke->(List Kl)->Option R}(h0:K0= λiO eU jT bj=>K (.exit 0) (Ziw bc iP cO cr dn iO eU jT bj))(n:Nat)(gS:Int)(aW:List Int×Int×Int)(aJ:List Kl):Zbi N bc iP cO cr dn K0 n gS aW aJ=LM Zce N 0 100004 n (Zjc bc iP gS aW cO cr dn aJ) K:=by
  subst h0
  induction n generalizing gS aW aJ with
  |zero=>kernel_rfl
  |succ n ih=>rw[Zbi];simp only[ih];kernel_rfl
def Zje(jf:Int)(dK:List Int×Int×Int)(c5:List Int)(c6:List Int)(dt:List Kb)(bW:List Kl)(ci:List Int):St:=⟨[(0,vP 0 0),(4,vP 1 0),(5,vP 2 0),(8,vI jf)],[(0,.box [.val Jb dK.1,.val Ja dK.2.1,.val Ja dK.2.2]),(1,.box [.nils,.nils,.nils,.nils,.nils]),(2,.box [.own 3,.own 4,.own 5,.own 6,.own 7]),(3,.arr Ja c5),(4,.arr Ja c6),(5,.arr Jm dt),(6,.arr Jl bW),(7,.arr Ja ci)],8⟩
def Zix(c5:List Int)(c6:List Int)(dt:List Kb)(bW:List Kl)(fq:Int)(dW:Bool)(jU:List Int×Int×Int)(iQ:List Int):St:=⟨[(0,vP 0 0),(4,vP 1 0),(5,vP 2 0),(8,vI fq),(63,vB dW)],[(0,.box [.val Jb jU.1,.val Ja jU.2.1,.val Ja jU.2.2]),(1,.box [.nils,.nils,.nils,.nils,.nils]),(2,.box [.own 3,.own 4,.own 5,.own 6,.own 7]),(3,.arr Ja c5),(4,.arr Ja c6),(5,.arr Jm dt),(6,.arr Jl bW),(7,.arr Ja iQ)],8⟩
theorem Zjf(N:Nat){R:Type}(K:Ex->St->Option R){c5:List Int}{c6:List Int}{dt:List Kb}{bW:List Kl}{K0:Int->Bool->Ke->Kh->Option R}(h0:K0= λfq dW jU iQ=>K (.exit 2) (Zix c5 c6 dt bW fq dW jU iQ))(n:Nat)(jf:Int)(dK:List Int×Int×Int)(ci:List Int):Zas N c5 c6 dt bW K0 n jf dK ci=LM Zce N 1 100010 n (Zje jf dK c5 c6 dt bW ci) K:=by
  subst h0
  induction n generalizing jf dK ci with
  |zero=>kernel_rfl
  |succ n ih=>rw[Zas];simp only[ih];kernel_rfl
theorem Znz(N:Nat)(c1:List Int×Int×Int)(cR:Bool):DN Zce N (c1,cR,())=Zc1 N c1 cR:=by
  conv=>rhs;rw[Zc1];simp(disch:=exact id (by kernel_rfl)) only[Zjd (R:=Kn×(Kv×Unit)) N (CF Zce N [1,1,1,0,1,0]),Zjf (R:=Kn×(Kv×Unit)) N (CF Zce N [1,1,1,1,1,0,1,0,1,0])]
  kernel_rfl
theorem Zn0(N:Nat):GW 110 (Zf4 N):=GF Zce N Tryz.func110 (GC (Zl9 N) (GC (Zfn N) (GC (Zqe N) (GC (Zz N) (GC (Zq5 N) (GC (Zow N) (GC (Zde N) (GC (Zfh N) Wb)))))))) (λd=>Znz N d.1 d.2.1)
def Zhx(N:Nat):Sig:=Sig.of [.box Jj] [.v Jq true] (λd=>Zhh N d.1)
def Zq6:Fn:=⟨Tryz.f182,W4,Zhx,λN=>[(111,Zt N),(226,Ze3 N),(227,Zda N)]⟩
theorem Zq7(N:Nat):GW 182 (Zhx N):=GF Zq6 N Tryz.func182 (GC (Zz N) (GC (Zip N) (GC (Zf1 N) Wb)))
def Zhk(N:Nat):Sig:=Sig.of [.box Jj,.v Jl false] [.v (.own Jq) false] (λd=>Zd4 N d.1 d.2.1)
def Zfq:Fn:=⟨Tryz.f112,λ |12=>[.view 49,.view 45]|14=>[.canon [0,5,58]]|15=>[.canon [0,5]]|100014=>[.canon [0,5]]|_=>[],Zhk,λN=>[(111,Zt N),(182,Zhx N)]⟩
def Zme(b6:List Int×Int×Int)(l7:List Ka):St:=⟨[(0,vP 0 0),(5,vO 1)],[(0,.box [.val Jb b6.1,.val Ja b6.2.1,.val Ja b6.2.2]),(1,.arr Jq l7)],2⟩
def Zkq(t9:Bool)(bH:List Int×Int×Int)(au:List Ka):St:=⟨[(0,vP 0 0),(5,vO 1),(58,vB t9)],[(0,.box [.val Jb bH.1,.val Ja bH.2.1,.val Ja bH.2.2]),(1,.arr Jq au)],2⟩
theorem Zmf(N:Nat){R:Type}(K:Ex->St->Option R){K0:Bool->Ke->Kl->Option R}(h0:K0= λt9 bH au=>K (.exit 1) (Zkq t9 bH au))(n:Nat)(b6:List Int×Int×Int)(l7:List Ka):Zcp N K0 n b6 l7=LM Zfq N 0 100014 n (Zme b6 l7) K:=by
  subst h0
  induction n generalizing b6 l7 with
  |zero=>kernel_rfl
  |succ n ih=>rw[Zcp];simp only[ih];kernel_rfl
theorem Zqf(N:Nat)(c1:List Int×Int×Int)(aa:List Ka):DN Zfq N (c1,aa,())=Zd4 N c1 aa:=by
  conv=>rhs;rw[Zd4];simp(disch:=exact id (by kernel_rfl)) only[Zmf (R:=Kn×(Kl×Unit)) N (CF Zfq N [1,1,1,1,0,1,0,1,1,1,1,1,1,1,0,0])]
  kernel_rfl
theorem Zqg(N:Nat):GW 112 (Zhk N):=GF Zfq N Tryz.func112 (GC (Zz N) (GC (Zq7 N) Wb)) (λd=>Zqf N d.1 d.2.1)
def Zhl(N:Nat):Sig:=Sig.of [.box Jj] [.v Js true] (λd=>Zd6 N d.1)
def Zfr:Fn:=⟨Tryz.f47,λ |14=>[.canon [0,2,3,50]]|15=>[.canon [0,2,3]]|100014=>[.canon [0,2,3]]|_=>[],Zhl,λN=>[(110,Zf4 N),(111,Zt N),(112,Zhk N)]⟩
def Zmg(b5:List Int×Int×Int)(l6:List Int)(l7:List Int)(l8:List Kb)(l9:List Kl)(ce:List Int):St:=⟨[(0,vP 0 0),(2,vP 1 0),(3,vP 2 0)],[(0,.box [.val Jb b5.1,.val Ja b5.2.1,.val Ja b5.2.2]),(1,.box [.nils,.nils,.nils,.nils,.nils]),(2,.box [.own 3,.own 4,.own 5,.own 6,.own 7]),(3,.arr Ja l6),(4,.arr Ja l7),(5,.arr Jm l8),(6,.arr Jl l9),(7,.arr Ja ce)],8⟩
def Zkr(l6:List Int)(l7:List Int)(l8:List Kb)(l9:List Kl)(bG:Bool)(aW:List Int×Int×Int)(cO:List Int):St:=⟨[(0,vP 0 0),(2,vP 1 0),(3,vP 2 0),(50,vB bG)],[(0,.box [.val Jb aW.1,.val Ja aW.2.1,.val Ja aW.2.2]),(1,.box [.nils,.nils,.nils,.nils,.nils]),(2,.box [.own 3,.own 4,.own 5,.own 6,.own 7]),(3,.arr Ja l6),(4,.arr Ja l7),(5,.arr Jm l8),(6,.arr Jl l9),(7,.arr Ja cO)],8⟩
theorem Zmh(N:Nat){R:Type}(K:Ex->St->Option R){l6:List Int}{l7:List Int}{l8:List Kb}{l9:List Kl}{K0:Bool->Ke->Kh->Option R}(h0:K0= λbG aW cO=>K (.exit 1) (Zkr l6 l7 l8 l9 bG aW cO))(n:Nat)(b5:List Int×Int×Int)(ce:List Int):Zcr N l6 l7 l8 l9 K0 n b5 ce=LM Zfr N 0 100014 n (Zmg b5 l6 l7 l8 l9 ce) K:=by
  subst h0
  induction n generalizing b5 ce with
  |zero=>kernel_rfl
  |succ n ih=>rw[Zcr];simp only[ih];kernel_rfl
theorem Zqh(N:Nat)(c1:List Int×Int×Int):DN Zfr N (c1,())=Zd6 N c1:=by
  conv=>rhs;rw[Zd6];simp(disch:=exact id (by kernel_rfl)) only[Zmh (R:=Kn×(Kv×Unit)) N (CF Zfr N [1,1,0,1,0,1,1,1,1,1,1,1,1,1,1,1,0,0])]
  kernel_rfl
theorem Zqi(N:Nat):GW 47 (Zhl N):=GF Zfr N Tryz.func47 (GC (Zn0 N) (GC (Zz N) (GC (Zqg N) Wb))) (λd=>Zqh N d.1)
def Ze4(N:Nat):Sig:=Sig.of [.v Jb false] [.v Jr true] (λd=>Zeb N d.1)
def Zks:Fn:=⟨Tryz.f10,W4,Ze4,λN=>[(46,Zhw N),(47,Zhl N)]⟩
theorem Zkt(N:Nat):GW 10 (Ze4 N):=GF Zks N Tryz.func10 (GC (Zq3 N) (GC (Zqi N) Wb))
def Z4(N:Nat):Sig:=Sig.of [.v Ja false,.v Ja false,.v Ja false] [.v Jc false] (λd=>Zr N d.1 d.2.1 d.2.2.1)
def Zqj:Fn:=⟨Tryz.f51,W4,Z4,WcL⟩
theorem Zai(N:Nat):GW 51 (Z4 N):=GF Zqj N Tryz.func51 Wb
def Zhy(N:Nat):Sig:=Sig.of [.v Ja false] [.v Jc false] (λd=>Zl N d.1)
def Zq8:Fn:=⟨Tryz.f272,W4,Zhy,λN=>[(51,Z4 N)]⟩
theorem Zq9(N:Nat):GW 272 (Zhy N):=GF Zq8 N Tryz.func272 (GC (Zai N) Wb)
def Zcc(N:Nat):Sig:=Sig.of [.v Ja false] [.v Jc false] (λd=>Zbg N d.1)
def Zpd:Fn:=⟨Tryz.f122,W4,Zcc,λN=>[(51,Z4 N)]⟩
theorem Zdu(N:Nat):GW 122 (Zcc N):=GF Zpd N Tryz.func122 (GC (Zai N) Wb)
def Zcl(N:Nat):Sig:=Sig.of [.v Ja false] [.v Jc false] (λd=>Zae N d.1)
def Zqk:Fn:=⟨Tryz.f61,W4,Zcl,λN=>[(51,Z4 N)]⟩
theorem Zed(N:Nat):GW 61 (Zcl N):=GF Zqk N Tryz.func61 (GC (Zai N) Wb)
def Zhz(N:Nat):Sig:=Sig.of [.v Ja false] [.v Jc false] (λd=>Zcj N d.1)
def Zra:Fn:=⟨Tryz.f176,W4,Zhz,λN=>[(51,Z4 N)]⟩
theorem Zrb(N:Nat):GW 176 (Zhz N):=GF Zra N Tryz.func176 (GC (Zai N) Wb)
def Zfe(N:Nat):Sig:=Sig.of [.v Jq true] [.v Jc false] (λd=>Zj N d.1)
def Zru:Fn:=⟨Tryz.f230,W4,Zfe,λN=>[(272,Zhy N),(122,Zcc N),(61,Zcl N),(51,Z4 N),(176,Zhz N)]⟩
theorem Zia(N:Nat):GW 230 (Zfe N):=GF Zru N Tryz.func230 (GC (Zq9 N) (GC (Zdu N) (GC (Zed N) (GC (Zai N) (GC (Zrb N) Wb)))))
def Zg2(N:Nat):Sig:=Sig.of [.v Jq true] [.v Ja false] (λd=>Zeq N d.1)
def Zpe:Fn:=⟨Tryz.f183,W4,Zg2,λN=>[(230,Zfe N)]⟩
theorem Zpf(N:Nat):GW 183 (Zg2 N):=GF Zpe N Tryz.func183 (GC (Zia N) Wb)
def Zey(N:Nat):Sig:=Sig.of [.v Jq true] [.v Ja false] (λd=>Zer N d.1)
def Zrc:Fn:=⟨Tryz.f235,W4,Zey,WcL⟩
theorem Zh0(N:Nat):GW 235 (Zey N):=GF Zrc N Tryz.func235 Wb
def Zfi(N:Nat):Sig:=Sig.of [.v Jl false] [.v Jc false] (λd=>Zbo N d.1)
def Zdy:Fn:=⟨Tryz.f229,λ |3=>[.canon [3,6,7,8,9]]|4=>[.canon [3,5,6,7,8]]|5=>[.canon [3,6,7,8]]|6=>[.canon [3,6,7,8,17]]|7=>[.canon [2]]|8=>[.canon [3,6,7,8]]|100003=>[.canon [3,6,7,8]]|_=>[],Zfi,λN=>[(235,Zey N)]⟩
def Ziy(n2:Int)(t3:List Ka)(t5:Int):St:=⟨[(3,vI n2),(6,vV Jl t3),(7,vI (We t3)),(8,vI t5)],[],0⟩
def Ziq(t3:List Ka):St:=⟨[(2,vB false)],[],0⟩
def Zir(t3:List Ka)(n8:Int)(t9:Int)(aN:Bool):St:=⟨[(3,vI n8),(6,vV Jl t3),(7,vI (We t3)),(8,vI t9),(9,vB aN)],[],0⟩
theorem Ziz(N:Nat){R:Type}(K:Ex->St->Option R){t3:List Ka}{K0:Option R}{K1:Int->Int->Bool->Option R}(h0:K0=K .ret (Ziq t3))(h1:K1= λn8 t9 aN=>K (.exit 0) (Zir t3 n8 t9 aN))(n:Nat)(n2:Int)(t5:Int):Zap N t3 K0 K1 n n2 t5=LM Zdy N 0 100003 n (Ziy n2 t3 t5) K:=by
  subst h0 h1
  induction n generalizing n2 t5 with
  |zero=>kernel_rfl
  |succ n ih=>rw[Zap];simp only[ih];kernel_rfl
theorem Zmi(N:Nat)(ac:List Ka):DN Zdy N (ac,())=Zbo N ac:=by
  conv=>rhs;rw[Zbo];simp(disch:=exact id (by kernel_rfl)) only[Ziz (R:=Unit×Km) N (CF Zdy N [1,1,0,1,0])]
  kernel_rfl
theorem Zmj(N:Nat):GW 229 (Zfi N):=GF Zdy N Tryz.func229 (GC (Zh0 N) Wb) (λd=>Zmi N d.1)
def Zg3(N:Nat):Sig:=Sig.of [.v Jl false,.v Ja false] [.v Ja false] (λd=>Zdk N d.1 d.2.1)
def Ze5:Fn:=⟨Tryz.f231,λ |3=>[.canon [1,5,8,9,10,11]]|4=>[.canon [1,5,6,7,8,9,10]]|5=>[.canon [1,5,7,8,9,10,17]]|6=>[.canon [1,5,8,9,10]]|7=>[.canon [1,5,8,9,10]]|100003=>[.canon [1,5,8,9,10]]|_=>[],Zg3,λN=>[(235,Zey N)]⟩
def Zku(i3:Int)(n4:Int)(t5:List Ka)(t7:Int):St:=⟨[(1,vI i3),(5,vI n4),(8,vV Jl t5),(9,vI (We t5)),(10,vI t7)],[],0⟩
def Zjr(i3:Int)(t5:List Ka)(oz:Int)(aV:Int)(bG:Bool):St:=⟨[(1,vI i3),(5,vI oz),(8,vV Jl t5),(9,vI (We t5)),(10,vI aV),(11,vB bG)],[],0⟩
theorem Zkv(N:Nat){R:Type}(K:Ex->St->Option R){i3:Int}{t5:List Ka}{K0:Int->Int->Bool->Option R}(h0:K0= λoz aV bG=>K (.exit 0) (Zjr i3 t5 oz aV bG))(n:Nat)(n4:Int)(t7:Int):Zaq N i3 t5 K0 n n4 t7=LM Ze5 N 0 100003 n (Zku i3 n4 t5 t7) K:=by
  subst h0
  induction n generalizing n4 t7 with
  |zero=>kernel_rfl
  |succ n ih=>rw[Zaq];simp only[ih];kernel_rfl
theorem Zpg(N:Nat)(ac:List Ka)(i2:Int):DN Ze5 N (ac,i2,())=Zdk N ac i2:=by
  conv=>rhs;rw[Zdk];simp(disch:=exact id (by kernel_rfl)) only[Zkv (R:=Unit×Kj) N (CF Ze5 N [1,1,0,1,0])]
  kernel_rfl
theorem Zph(N:Nat):GW 231 (Zg3 N):=GF Ze5 N Tryz.func231 (GC (Zh0 N) Wb) (λd=>Zpg N d.1 d.2.1)
def Zhm(N:Nat):Sig:=Sig.of [.v Jl false] [.v Jc false] (λd=>Zdh N d.1)
def Zfs:Fn:=⟨Tryz.f162,λ |5=>[.canon [0,3,14,15,16,17]]|6=>[.canon [0,3,4,5,14,15,16]]|7=>[.canon [0,3,4,5,14,15,16,23]]|8=>[.canon [2]]|9=>[.canon [0,3,4,5,14,15,16,25]]|10=>[.canon [0,3,4,5,14,15,16,25,26]]|11=>[.canon [0,3,14,15,16,48]]|12=>[.canon [2]]|13=>[.canon [0,3,4,14,15,16,49]]|14=>[.canon [0,3,4,14,15,16]]|15=>[.canon [0,3,14,15,16,60]]|16=>[.canon [2]]|17=>[.canon [0,3,14,15,16]]|100005=>[.canon [0,3,14,15,16]]|_=>[],Zhm,λN=>[(229,Zfi N),(230,Zfe N),(231,Zg3 N)]⟩
def Zmk(ad:List Ka)(aA:Int)(t7:Int):St:=⟨[(0,vV Jl ad),(3,vI aA),(14,vV Jl ad),(15,vI (We ad)),(16,vI t7)],[],0⟩
def Zkw(ad:List Ka):St:=⟨[(2,vB false)],[],0⟩
def Zkx(ad:List Ka)(eB:Int)(fo:Int)(cE:Bool):St:=⟨[(0,vV Jl ad),(3,vI eB),(14,vV Jl ad),(15,vI (We ad)),(16,vI fo),(17,vB cE)],[],0⟩
theorem Zml(N:Nat){R:Type}(K:Ex->St->Option R){ad:List Ka}{K0:Option R}{K1:Int->Int->Bool->Option R}(h0:K0=K .ret (Zkw ad))(h1:K1= λeB fo cE=>K (.exit 0) (Zkx ad eB fo cE))(n:Nat)(aA:Int)(t7:Int):Zam N ad K0 K1 n aA t7=LM Zfs N 0 100005 n (Zmk ad aA t7) K:=by
  subst h0 h1
  induction n generalizing aA t7 with
  |zero=>kernel_rfl
  |succ n ih=>rw[Zam];simp only[ih];kernel_rfl
theorem Zql(N:Nat)(ac:List Ka):DN Zfs N (ac,())=Zdh N ac:=by
  conv=>rhs;rw[Zdh];simp(disch:=exact id (by kernel_rfl)) only[Zml (R:=Unit×Km) N (CF Zfs N [1,1,1,0,1,0])]
  kernel_rfl
theorem Zqm(N:Nat):GW 162 (Zhm N):=GF Zfs N Tryz.func162 (GC (Zmj N) (GC (Zia N) (GC (Zph N) Wb))) (λd=>Zql N d.1)
def Zh1(N:Nat):Sig:=Sig.of [.v Jl false] [.v Jc false] (λd=>Zdr N d.1)
def Zgf:Fn:=⟨Tryz.f113,λ |2=>[.canon [0,5,6,7,8]]|3=>[.canon [0,4,5,6,7]]|4=>[.canon [0,5,6,7,18]]|5=>[.canon [2]]|6=>[.canon [0,5,6,7]]|100002=>[.canon [0,5,6,7]]|_=>[],Zh1,λN=>[(183,Zg2 N),(162,Zhm N)]⟩
def Zn1(aa:List Ka)(t5:Int):St:=⟨[(0,vV Jl aa),(5,vV Jl aa),(6,vI (We aa)),(7,vI t5)],[],0⟩
def Zmm(aa:List Ka):St:=⟨[(2,vB false)],[],0⟩
def Zmn(aa:List Ka)(t8:Int)(t9:Bool):St:=⟨[(0,vV Jl aa),(5,vV Jl aa),(6,vI (We aa)),(7,vI t8),(8,vB t9)],[],0⟩
theorem Zn2(N:Nat){R:Type}(K:Ex->St->Option R){aa:List Ka}{K0:Option R}{K1:Int->Bool->Option R}(h0:K0=K .ret (Zmm aa))(h1:K1= λt8 t9=>K (.exit 0) (Zmn aa t8 t9))(n:Nat)(t5:Int):Zb8 N aa K0 K1 n t5=LM Zgf N 0 100002 n (Zn1 aa t5) K:=by
  subst h0 h1
  induction n generalizing t5 with
  |zero=>kernel_rfl
  |succ n ih=>rw[Zb8];simp only[ih];kernel_rfl
theorem Zrd(N:Nat)(ac:List Ka):DN Zgf N (ac,())=Zdr N ac:=by
  conv=>rhs;rw[Zdr];simp(disch:=exact id (by kernel_rfl)) only[Zn2 (R:=Unit×Km) N (CF Zgf N [1,0,1,0])]
  kernel_rfl
theorem Zre(N:Nat):GW 113 (Zh1 N):=GF Zgf N Tryz.func113 (GC (Zpf N) (GC (Zqm N) Wb)) (λd=>Zrd N d.1)
def Zar(N:Nat):Sig:=Sig.of [.v Jf false,.v Ja false] [.v Jc false] (λd=>Zq N d.1 d.2.1)
def Zee:Fn:=⟨Tryz.f67,λ |2=>[.canon [0,1,7,8,9,10]]|3=>[.canon [0,1,6,7,8,9]]|4=>[.canon [0,1,7,8,9,15]]|5=>[.canon [4]]|6=>[.canon [0,1,7,8,9]]|100002=>[.canon [0,1,7,8,9]]|_=>[],Zar,λN=>[(122,Zcc N)]⟩
def Zjg(l3:List Int)(n4:Int)(t7:Int):St:=⟨[(0,vV Jf l3),(1,vI n4),(7,vV Jf l3),(8,vI (We l3)),(9,vI t7)],[],0⟩
def Zi0(l3:List Int)(n4:Int):St:=⟨[(4,vB false)],[],0⟩
def Zi1(l3:List Int)(n4:Int)(aN:Int)(aV:Bool):St:=⟨[(0,vV Jf l3),(1,vI n4),(7,vV Jf l3),(8,vI (We l3)),(9,vI aN),(10,vB aV)],[],0⟩
theorem Zjh(N:Nat){R:Type}(K:Ex->St->Option R){l3:List Int}{n4:Int}{K0:Option R}{K1:Int->Bool->Option R}(h0:K0=K .ret (Zi0 l3 n4))(h1:K1= λaN aV=>K (.exit 0) (Zi1 l3 n4 aN aV))(n:Nat)(t7:Int):Z1 N l3 n4 K0 K1 n t7=LM Zee N 0 100002 n (Zjg l3 n4 t7) K:=by
  subst h0 h1
  induction n generalizing t7 with
  |zero=>kernel_rfl
  |succ n ih=>rw[Z1];simp only[ih];kernel_rfl
theorem Zn3(N:Nat)(l1:List Int)(n2:Int):DN Zee N (l1,n2,())=Zq N l1 n2:=by
  conv=>rhs;rw[Zq];simp(disch:=exact id (by kernel_rfl)) only[Zjh (R:=Unit×Km) N (CF Zee N [1,0,1,0])]
  kernel_rfl
theorem Zcf(N:Nat):GW 67 (Zar N):=GF Zee N Tryz.func67 (GC (Zdu N) Wb) (λd=>Zn3 N d.1 d.2.1)
def Zcm(N:Nat):Sig:=Sig.of [.v Jg false] [.v Jc false] (λd=>Zau N d.1)
def Zft:Fn:=⟨Tryz.f69,λ |2=>[.canon [0,5,6,7,8]]|3=>[.canon [0,4,5,6,7]]|4=>[.canon [0,5,6,7,20]]|5=>[.canon [2]]|6=>[.canon [0,5,6,7]]|100002=>[.canon [0,5,6,7]]|_=>[],Zcm,λN=>[(61,Zcl N),(122,Zcc N)]⟩
def Zmo(l2:List Kb)(t5:Int):St:=⟨[(0,vV Jg l2),(5,vV Jg l2),(6,vI (We l2)),(7,vI t5)],[],0⟩
def Zky(l2:List Kb):St:=⟨[(2,vB false)],[],0⟩
def Zkz(l2:List Kb)(aN:Int)(aV:Bool):St:=⟨[(0,vV Jg l2),(5,vV Jg l2),(6,vI (We l2)),(7,vI aN),(8,vB aV)],[],0⟩
theorem Zmp(N:Nat){R:Type}(K:Ex->St->Option R){l2:List Kb}{K0:Option R}{K1:Int->Bool->Option R}(h0:K0=K .ret (Zky l2))(h1:K1= λaN aV=>K (.exit 0) (Zkz l2 aN aV))(n:Nat)(t5:Int):Zbp N l2 K0 K1 n t5=LM Zft N 0 100002 n (Zmo l2 t5) K:=by
  subst h0 h1
  induction n generalizing t5 with
  |zero=>kernel_rfl
  |succ n ih=>rw[Zbp];simp only[ih];kernel_rfl
theorem Zqn(N:Nat)(l1:List Kb):DN Zft N (l1,())=Zau N l1:=by
  conv=>rhs;rw[Zau];simp(disch:=exact id (by kernel_rfl)) only[Zmp (R:=Unit×Km) N (CF Zft N [1,0,1,0])]
  kernel_rfl
theorem Zef(N:Nat):GW 69 (Zcm N):=GF Zft N Tryz.func69 (GC (Zed N) (GC (Zdu N) Wb)) (λd=>Zqn N d.1)
def Zh2(N:Nat):Sig:=Sig.of [.v Jr true] [.v Jc false] (λd=>Zes N d.1)
def Zgg:Fn:=⟨Tryz.f48,λ |2=>[.canon [1,6,7,8,9]]|3=>[.canon [1,4,6,7,8]]|4=>[.canon [1,6,7,8,15]]|5=>[.canon [2]]|6=>[.canon [1,6,7,8]]|100002=>[.canon [1,6,7,8]]|_=>[],Zh2,λN=>[(113,Zh1 N),(67,Zar N),(69,Zcm N),(51,Z4 N)]⟩
def Zn4(t2:List Kl)(t4:Int)(b5:List Int×List Int×List Kb×List Kl×List Int):St:=⟨[(1,vP 0 0),(6,vV Jv t2),(7,vI (We b5.2.2.2.1)),(8,vI t4)],[(0,.box [.val Jf b5.1,.val Jf b5.2.1,.val Jg b5.2.2.1,.val Jv b5.2.2.2.1,.val Jf b5.2.2.2.2])],1⟩
def Zmq(t2:List Kl)(b5:List Int×List Int×List Kb×List Kl×List Int):St:=⟨[(2,vB false)],[],0⟩
def Zmr(t2:List Kl)(b5:List Int×List Int×List Kb×List Kl×List Int)(t8:Int)(t9:Bool):St:=⟨[(1,vP 0 0),(6,vV Jv t2),(7,vI (We b5.2.2.2.1)),(8,vI t8),(9,vB t9)],[(0,.box [.val Jf b5.1,.val Jf b5.2.1,.val Jg b5.2.2.1,.val Jv b5.2.2.2.1,.val Jf b5.2.2.2.2])],1⟩
theorem Zn5(N:Nat){R:Type}(K:Ex->St->Option R){t2:List Kl}{b5:List Int×List Int×List Kb×List Kl×List Int}{K0:Option R}{K1:Int->Bool->Option R}(h0:K0=K .ret (Zmq t2 b5))(h1:K1= λt8 t9=>K (.exit 0) (Zmr t2 b5 t8 t9))(n:Nat)(t4:Int):Zb9 N t2 b5 K0 K1 n t4=LM Zgg N 0 100002 n (Zn4 t2 t4 b5) K:=by
  subst h0 h1
  induction n generalizing t4 with
  |zero=>kernel_rfl
  |succ n ih=>rw[Zb9];simp only[ih];kernel_rfl
theorem Zrf(N:Nat)(s1:List Int×List Int×List Kb×List Kl×List Int):DN Zgg N (s1,())=Zes N s1:=by
  conv=>rhs;rw[Zes];simp(disch:=exact id (by kernel_rfl)) only[Zn5 (R:=Unit×Km) N (CF Zgg N [1,0,1,0])]
  kernel_rfl
theorem Zrg(N:Nat):GW 48 (Zh2 N):=GF Zgg N Tryz.func48 (GC (Zre N) (GC (Zcf N) (GC (Zef N) (GC (Zai N) Wb)))) (λd=>Zrf N d.1)
def Zhn(N:Nat):Sig:=Sig.of [.v Jf false] [.v (.prod Ja (.own Je)) true,.v Jc false] (λd=>Zd3 N d.1)
def Zfu:Fn:=⟨Tryz.f49,λ |5=>[.canon [2,4,12,13,14,15]]|6=>[.canon [2,4,6,12,13,14]]|7=>[.canon [2,4,12,13,14]]|8=>[.canon [2,4,12,13,14]]|100005=>[.adoptC 4 1 Je,.canon [2,4,12,13,14]]|_=>[],Zhn,λN=>[(67,Zar N)]⟩
def Zms(t3:List Int)(t5:Int)(l8:List Kc):St:=⟨[(2,vP 0 0),(4,vP 1 0),(12,vV Jf t3),(13,vI (We t3)),(14,vI t5)],[(0,.box [.val Ja (0:Int),.nils]),(1,.box [.val Ja (0:Int),.own 2]),(2,.arr Je l8)],3⟩
def Zk0(t3:List Int)(t9:Int)(aN:Bool)(au:List Kc):St:=⟨[(2,vP 0 0),(4,vP 1 0),(12,vV Jf t3),(13,vI (We t3)),(14,vI t9),(15,vB aN)],[(0,.box [.val Ja (0:Int),.nils]),(1,.box [.val Ja (0:Int),.own 2]),(2,.arr Je au)],3⟩
theorem Zmt(N:Nat){R:Type}(K:Ex->St->Option R){t3:List Int}{K0:Int->Bool->Kr->Option R}(h0:K0= λt9 aN au=>K (.exit 0) (Zk0 t3 t9 aN au))(n:Nat)(t5:Int)(l8:List Kc):Zbq N t3 K0 n t5 l8=LM Zfu N 0 100005 n (Zms t3 t5 l8) K:=by
  subst h0
  induction n generalizing t5 l8 with
  |zero=>kernel_rfl
  |succ n ih=>rw[Zbq];simp only[ih];kernel_rfl
theorem Zqo(N:Nat)(l1:List Int):DN Zfu N (l1,())=Zd3 N l1:=by
  conv=>rhs;rw[Zd3];simp(disch:=exact id (by kernel_rfl)) only[Zmt (R:=Unit×(Kt×Km)) N (CF Zfu N [1,1,1,0,1,0])]
  kernel_rfl
theorem Zqp(N:Nat):GW 49 (Zhn N):=GF Zfu N Tryz.func49 (GC (Zcf N) Wb) (λd=>Zqo N d.1)
def Zan(N:Nat):Sig:=Sig.of [.v Jf false] [.v Jw false] (λd=>Z2 N d.1)
def Zox:Fn:=⟨Tryz.f68,W4,Zan,WcL⟩
theorem Zbs(N:Nat):GW 68 (Zan N):=GF Zox N Tryz.func68 Wb
def Zgz(N:Nat):Sig:=Sig.of [.v Jg false,.v Ja false] [.v Ja false,.v Jc false] (λd=>Zek N d.1 d.2.1)
def Zg0:Fn:=⟨Tryz.f184,λ |4=>[.canon [0,1,6,14]]|5=>[.canon [0,1,6]]|6=>[.canon [0,1,6,23]]|7=>[.canon [4,5]]|100004=>[.canon [0,1,6]]|_=>[],Zgz,λN=>[(69,Zcm N)]⟩
def Zoy(l4:List Kb)(ca:Int)(i6:Int):St:=⟨[(0,vV Jg l4),(1,vI ca),(6,vI i6)],[],0⟩
def Zn6(l4:List Kb)(ca:Int)(t7:Int):St:=⟨[(4,vI t7),(5,vB true)],[],0⟩
def Zn7(l4:List Kb)(ca:Int)(i8:Int)(t9:Bool):St:=⟨[(0,vV Jg l4),(1,vI ca),(6,vI i8),(14,vB t9)],[],0⟩
theorem Zoz(N:Nat){R:Type}(K:Ex->St->Option R){l4:List Kb}{ca:Int}{K0:Int->Option R}{K1:Int->Bool->Option R}(h0:K0= λt7=>K .ret (Zn6 l4 ca t7))(h1:K1= λi8 t9=>K (.exit 0) (Zn7 l4 ca i8 t9))(n:Nat)(i6:Int):Zdb N l4 ca K0 K1 n i6=LM Zg0 N 0 100004 n (Zoy l4 ca i6) K:=by
  subst h0 h1
  induction n generalizing i6 with
  |zero=>kernel_rfl
  |succ n ih=>rw[Zdb];simp only[ih];kernel_rfl
theorem Zrv(N:Nat)(l1:List Kb)(dV:Int):DN Zg0 N (l1,dV,())=Zek N l1 dV:=by
  conv=>rhs;rw[Zek];simp(disch:=exact id (by kernel_rfl)) only[Zoz (R:=Unit×(Int×Km)) N (CF Zg0 N [1,1,0,1,0])]
  kernel_rfl
theorem Zl6(N:Nat):GW 184 (Zgz N):=GF Zg0 N Tryz.func184 (GC (Zef N) Wb) (λd=>Zrv N d.1 d.2.1)
def Zho(N:Nat):Sig:=Sig.of [.v Jg false] [.v Ji false] (λd=>Zd8 N d.1)
def Zhp:Fn:=⟨Tryz.f114,λ |5=>[.canon [0,3,11,12]]|6=>[.canon [0,3,4,11]]|7=>[.canon [0,3,4,5,6,11]]|8=>[.canon [0,3,4,5,11,20]]|9=>[.canon [0,3,11]]|10=>[.canon [0,3,11]]|100005=>[.canon [0,3,11]]|_=>[],Zho,λN=>[(69,Zcm N),(184,Zgz N)]⟩
def Zpi(l3:List Kb)(t4:Int)(l5:List Kb):St:=⟨[(0,vV Jg l3),(3,vO 0),(11,vI t4)],[(0,.arr Jm l5)],1⟩
def Zo0(l3:List Kb)(t7:Int)(t8:Bool)(l9:List Kb):St:=⟨[(0,vV Jg l3),(3,vO 0),(11,vI t7),(12,vB t8)],[(0,.arr Jm l9)],1⟩
theorem Zpj(N:Nat){R:Type}(K:Ex->St->Option R){l3:List Kb}{K0:Int->Bool->Kq->Option R}(h0:K0= λt7 t8 l9=>K (.exit 0) (Zo0 l3 t7 t8 l9))(n:Nat)(t4:Int)(l5:List Kb):Zcz N l3 K0 n t4 l5=LM Zhp N 0 100005 n (Zpi l3 t4 l5) K:=by
  subst h0
  induction n generalizing t4 l5 with
  |zero=>kernel_rfl
  |succ n ih=>rw[Zcz];simp only[ih];kernel_rfl
theorem Zr6(N:Nat)(l1:List Kb):DN Zhp N (l1,())=Zd8 N l1:=by
  conv=>rhs;rw[Zd8];simp(disch:=exact id (by kernel_rfl)) only[Zpj (R:=Unit×Kx) N (CF Zhp N [1,1,1,0,1,0])]
  kernel_rfl
theorem Zn8(N:Nat):GW 114 (Zho N):=GF Zhp N Tryz.func114 (GC (Zef N) (GC (Zl6 N) Wb)) (λd=>Zr6 N d.1)
def Zgv(N:Nat):Sig:=Sig.of [.v Ja false,.v Jf false,.v Jg false,.v Ja false] [.v Jp true] (λd=>Zdc N d.1 d.2.1 d.2.2.1 d.2.2.2.1)
def Zct:Fn:=⟨Tryz.f50,λ |3=>[.canon [1,3,8,9,19,20,21,22]]|4=>[.canon [1,3,8,9,11,19,20,21]]|5=>[.canon [1,3,8,9,19,20,21]]|6=>[.canon [1,3,8,9,19,20,21]]|8=>[.canon [1,8,9,36,37,38]]|9=>[.nest 44 Jk,.canon [1,8,9,36,37]]|10=>[.canon [1,8,9,36,37]]|100003=>[.adoptC 9 6 Je,.canon [1,3,8,9,19,20,21]]|100008=>[.adoptC 9 9 Jk,.canon [1,8,9,36,37]]|_=>[],Zgv,λN=>[(68,Zan N),(114,Zho N)]⟩
def Zjs(cP:List Int)(cQ:Int)(t9:Int)(aN:Int)(bM:Int)(bd:List Kb)(be:List Int)(bf:List Kc):St:=⟨[(1,vV Jf cP),(3,vI cQ),(8,vP 0 0),(9,vP 1 0),(19,vO 2),(20,vI t9),(21,vI aN)],[(0,.box [.val Ja (0:Int),.val Ja (0:Int),.val Ja (0:Int),.val Jc false,.nils,.nils,.nils,.nils,.nils,.nils]),(1,.box [.val Ja bM,.val Ja (0:Int),.val Ja (0:Int),.val Jc false,.own 3,.own 2,.own 4,.nils,.nils,.nils]),(2,.arr Jm bd),(3,.arr Ja be),(4,.arr Je bf)],5⟩
def Zji(cP:List Int)(cQ:Int)(t9:Int)(bM:Int)(bd:List Kb)(be:List Int)(t22:Int)(qI:Bool)(cH:List Kc):St:=⟨[(1,vV Jf cP),(3,vI cQ),(8,vP 0 0),(9,vP 1 0),(19,vO 2),(20,vI t9),(21,vI t22),(22,vB qI)],[(0,.box [.val Ja (0:Int),.val Ja (0:Int),.val Ja (0:Int),.val Jc false,.nils,.nils,.nils,.nils,.nils,.nils]),(1,.box [.val Ja bM,.val Ja (0:Int),.val Ja (0:Int),.val Jc false,.own 3,.own 2,.own 4,.nils,.nils,.nils]),(2,.arr Jm bd),(3,.arr Ja be),(4,.arr Je cH)],5⟩
theorem Zjt(N:Nat){R:Type}(K:Ex->St->Option R){cP:List Int}{cQ:Int}{t9:Int}{bM:Int}{bd:List Kb}{be:List Int}{K0:Int->Bool->Kr->Option R}(h0:K0= λt22 qI cH=>K (.exit 0) (Zji cP cQ t9 bM bd be t22 qI cH))(n:Nat)(aN:Int)(bf:List Kc):Zav N cP cQ t9 bM bd be K0 n aN bf=LM Zct N 0 100003 n (Zjs cP cQ t9 aN bM bd be bf) K:=by
  subst h0
  induction n generalizing aN bf with
  |zero=>kernel_rfl
  |succ n ih=>rw[Zav];simp only[ih];kernel_rfl
def Zju(bL:List Int)(fS:Int)(gF:Int)(dK:Int)(bW:List Int)(ci:List Kb)(iH:List Kc)(jG:List Y_KidRun):St:=⟨[(1,vV Jf bL),(8,vP 0 0),(9,vP 1 0),(36,vI fS),(37,vI gF)],[(0,.box [.val Ja (0:Int),.val Ja (0:Int),.val Ja (0:Int),.val Jc false,.nils,.nils,.nils,.nils,.nils,.nils]),(1,.box [.val Ja dK,.val Ja (0:Int),.val Ja (0:Int),.val Jc false,.own 2,.own 3,.own 4,.nils,.nils,.own 5]),(2,.arr Ja bW),(3,.arr Jm ci),(4,.arr Je iH),(5,.arr Jk jG)],6⟩
def Zjj(bL:List Int)(fS:Int)(dK:Int)(bW:List Int)(ci:List Kb)(iH:List Kc)(t45:Int)(t46:Bool)(iR:List Y_KidRun):St:=⟨[(1,vV Jf bL),(8,vP 0 0),(9,vP 1 0),(36,vI fS),(37,vI t45),(38,vB t46)],[(0,.box [.val Ja (0:Int),.val Ja (0:Int),.val Ja (0:Int),.val Jc false,.nils,.nils,.nils,.nils,.nils,.nils]),(1,.box [.val Ja dK,.val Ja (0:Int),.val Ja (0:Int),.val Jc false,.own 2,.own 3,.own 4,.nils,.nils,.own 5]),(2,.arr Ja bW),(3,.arr Jm ci),(4,.arr Je iH),(5,.arr Jk iR)],6⟩
theorem Zjv(N:Nat){R:Type}(K:Ex->St->Option R){bL:List Int}{fS:Int}{dK:Int}{bW:List Int}{ci:List Kb}{iH:List Kc}{K0:Int->Bool->(List Y_KidRun)->Option R}(h0:K0= λt45 t46 iR=>K (.exit 2) (Zjj bL fS dK bW ci iH t45 t46 iR))(n:Nat)(gF:Int)(jG:List Y_KidRun):Zab N bL fS dK bW ci iH K0 n gF jG=LM Zct N 1 100008 n (Zju bL fS gF dK bW ci iH jG) K:=by
  subst h0
  induction n generalizing gF jG with
  |zero=>kernel_rfl
  |succ n ih=>rw[Zab];simp only[ih];kernel_rfl
theorem Zo1(N:Nat)(mj:Int)(al:List Int)(dr:List Kb)(eX:Int):DN Zct N (mj,al,dr,eX,())=Zdc N mj al dr eX:=by
  conv=>rhs;rw[Zdc];simp(disch:=exact id (by kernel_rfl)) only[Zjt (R:=Unit×(Y_Family×Unit)) N (CF Zct N [1,1,0,1,0]),Zjv (R:=Unit×(Y_Family×Unit)) N (CF Zct N [1,1,1,0,1,0])]
  kernel_rfl
theorem Zo2(N:Nat):GW 50 (Zgv N):=GF Zct N Tryz.func50 (GC (Zbs N) (GC (Zn8 N) Wb)) (λd=>Zo1 N d.1 d.2.1 d.2.2.1 d.2.2.2.1)
def Zd0(N:Nat):Sig:=Sig.of [.v Je true,.box Ja] [.v Jc false] (λd=>Zet N d.1 d.2.1)
def Zi2:Fn:=⟨Tryz.f190,W4,Zd0,WcL⟩
theorem Zi3(N:Nat):GW 190 (Zd0 N):=GF Zi2 N Tryz.func190 Wb
def Zu(N:Nat):Sig:=Sig.of [.v Jo false,.clos 190 1,.box Ja] [.v Ja false] (λd=>Zh N d.1 d.2.1)
def Zo:Fn:=⟨Tryz.f189,λ |2=>[.canon [0,1,7,8,9]]|3=>[.canon [0,1,5,7,8]]|4=>[.canon [0,1,5,7,8,16]]|5=>[.canon [1,4]]|6=>[.canon [0,1,7,8]]|100002=>[.canon [0,1,7,8]]|_=>[],Zu,λN=>[(190,Zd0 N)]⟩
def Zbj(s3:List Kc)(t5:Int)(b6:Int):St:=⟨[(0,vV Jo s3),(1,.s (.one (.clos 190 [0]))),(7,vI (We s3)),(8,vI t5)],[(0,.box [.val Ja b6])],1⟩
def Zbe(s3:List Kc)(t9:Int)(bH:Int):St:=⟨[(1,.s (.one (.clos 190 [0]))),(4,vI t9)],[(0,.box [.val Ja bH])],1⟩
def Zbf(s3:List Kc)(aV:Int)(bG:Bool)(aW:Int):St:=⟨[(0,vV Jo s3),(1,.s (.one (.clos 190 [0]))),(7,vI (We s3)),(8,vI aV),(9,vB bG)],[(0,.box [.val Ja aW])],1⟩
theorem Zbk(N:Nat){R:Type}(K:Ex->St->Option R){s3:List Kc}{K0:Int->Int->Option R}{K1:Int->Bool->Int->Option R}(h0:K0= λt9 bH=>K .ret (Zbe s3 t9 bH))(h1:K1= λaV bG aW=>K (.exit 0) (Zbf s3 aV bG aW))(n:Nat)(t5:Int)(b6:Int):Zd N s3 K0 K1 n t5 b6=LM Zo N 0 100002 n (Zbj s3 t5 b6) K:=by
  subst h0 h1
  induction n generalizing t5 b6 with
  |zero=>kernel_rfl
  |succ n ih=>rw[Zd];simp only[ih];kernel_rfl
theorem Zb1(N:Nat)(s1:List Kc)(jH:Int):DN Zo N (s1,jH,())=Zh N s1 jH:=by
  conv=>rhs;rw[Zh];simp(disch:=exact id (by kernel_rfl)) only[Zbk (R:=Kj×Kj) N (CF Zo N [1,0,1,0])]
  kernel_rfl
theorem Zb2(N:Nat):GW 189 (Zu N):=GF Zo N Tryz.func189 (GC (Zi3 N) Wb) (λd=>Zb1 N d.1 d.2.1)
def Zcg(N:Nat):Sig:=Sig.of [.rp (TY_Family),.v Ja false] [.v Ja false] (λd=>Zaw N d.1 d.2.1)
def Zjw:Fn:=⟨Tryz.f117,W4,Zcg,λN=>[(189,Zu N)]⟩
theorem Zez(N:Nat):GW 117 (Zcg N):=GF Zjw N Tryz.func117 (GC (Zb2 N) Wb)
def Zcx(N:Nat):Sig:=Sig.of [.box Jp,.v Ja false] [] (λd=>Zac N d.1 d.2.1)
def Zi4:Fn:=⟨Tryz.f118,W4,Zcx,λN=>[(68,Zan N)]⟩
theorem Zgt(N:Nat):GW 118 (Zcx N):=GF Zi4 N Tryz.func118 (GC (Zbs N) Wb)
def Zgw(N:Nat):Sig:=Sig.of [.v Ja false] [.v Jq true,.v Jc false] (λd=>Zfl N d.1)
def Zo3:Fn:=⟨Tryz.f236,W4,Zgw,λN=>[(61,Zcl N)]⟩
theorem Zo4(N:Nat):GW 236 (Zgw N):=GF Zo3 N Tryz.func236 (GC (Zed N) Wb)
def Zgh(N:Nat):Sig:=Sig.of [.v Jt true] [.v Jc false] (λd=>Zds N d.1)
def Zgi:Fn:=⟨Tryz.f94,λ |2=>[.canon [1,6,7,8,9]]|3=>[.canon [1,4,6,7,8]]|4=>[.canon [1,6,7,8,29]]|5=>[.canon [2]]|6=>[.canon [1,6,7,8]]|100002=>[.canon [1,6,7,8]]|_=>[],Zgh,λN=>[(122,Zcc N),(51,Z4 N)]⟩
def Zn9(t2:List Kc)(t4:Int)(b5:Int×List Kc):St:=⟨[(1,vP 0 0),(6,vV Jo t2),(7,vI (We b5.2)),(8,vI t4)],[(0,.box [.val Ja b5.1,.val Jo b5.2])],1⟩
def Zmu(t2:List Kc)(b5:Int×List Kc):St:=⟨[(2,vB false)],[],0⟩
def Zmv(t2:List Kc)(b5:Int×List Kc)(bG:Int)(bQ:Bool):St:=⟨[(1,vP 0 0),(6,vV Jo t2),(7,vI (We b5.2)),(8,vI bG),(9,vB bQ)],[(0,.box [.val Ja b5.1,.val Jo b5.2])],1⟩
theorem Zoa(N:Nat){R:Type}(K:Ex->St->Option R){t2:List Kc}{b5:Int×List Kc}{K0:Option R}{K1:Int->Bool->Option R}(h0:K0=K .ret (Zmu t2 b5))(h1:K1= λbG bQ=>K (.exit 0) (Zmv t2 b5 bG bQ))(n:Nat)(t4:Int):Zca N t2 b5 K0 K1 n t4=LM Zgi N 0 100002 n (Zn9 t2 t4 b5) K:=by
  subst h0 h1
  induction n generalizing t4 with
  |zero=>kernel_rfl
  |succ n ih=>rw[Zca];simp only[ih];kernel_rfl
theorem Zrh(N:Nat)(m1:Int×List Kc):DN Zgi N (m1,())=Zds N m1:=by
  conv=>rhs;rw[Zds];simp(disch:=exact id (by kernel_rfl)) only[Zoa (R:=Unit×Km) N (CF Zgi N [1,0,1,0])]
  kernel_rfl
theorem Zjx(N:Nat):GW 94 (Zgh N):=GF Zgi N Tryz.func94 (GC (Zdu N) (GC (Zai N) Wb)) (λd=>Zrh N d.1)
def Zg4(N:Nat):Sig:=Sig.of [.v Jq true] [.v Jc false] (λd=>Zga N d.1)
def Zpk:Fn:=⟨Tryz.f274,W4,Zg4,λN=>[(61,Zcl N),(51,Z4 N),(122,Zcc N)]⟩
theorem Zpl(N:Nat):GW 274 (Zg4 N):=GF Zpk N Tryz.func274 (GC (Zed N) (GC (Zai N) (GC (Zdu N) Wb)))
def Zf5(N:Nat):Sig:=Sig.of [.v Jt true,.v Ja false,.v Jq true] [.v Jq true] (λd=>Zdt N d.1 d.2.1 d.2.2.1)
def Zob:Fn:=⟨Tryz.f237,W4,Zf5,λN=>[(94,Zgh N),(274,Zg4 N)]⟩
theorem Zoc(N:Nat):GW 237 (Zf5 N):=GF Zob N Tryz.func237 (GC (Zjx N) (GC (Zpl N) Wb))
def Ze6(N:Nat):Sig:=Sig.of [.box Jp,.v Ja false,.v Jq true,.v Jt true] [] (λd=>Zd9 N d.1 d.2.1 d.2.2.1 d.2.2.2.1)
def Zk1:Fn:=⟨Tryz.f185,λ |1=>[.opn 18]|_=>[],Ze6,λN=>[(184,Zgz N),(117,Zcg N),(118,Zcx N),(236,Zgw N),(237,Zf5 N)]⟩
theorem Zk2(N:Nat):GW 185 (Ze6 N):=GF Zk1 N Tryz.func185 (GC (Zl6 N) (GC (Zez N) (GC (Zgt N) (GC (Zo4 N) (GC (Zoc N) Wb)))))
def Zgx(N:Nat):Sig:=Sig.of [.v Jg false] [.v Ji false] (λd=>Zfm N d.1)
def Zo5:Fn:=⟨Tryz.f204,W4,Zgx,WcL⟩
theorem Zo6(N:Nat):GW 204 (Zgx N):=GF Zo5 N Tryz.func204 Wb
def Zh3(N:Nat):Sig:=Sig.of [.v Jl false,.v Ja false] [.v Ja false] (λd=>Zeu N d.1 d.2.1)
def Zgj:Fn:=⟨Tryz.f167,λ |5=>[.canon [0,5,6,25]]|6=>[.canon [0,5,6]]|7=>[.canon [0,5,6]]|8=>[.canon [0,5,6,36]]|9=>[.canon [4]]|100005=>[.canon [0,5,6]]|_=>[],Zh3,λN=>[(51,Z4 N),(235,Zey N)]⟩
def Zod(aD:List Ka)(n5:Int)(k6:Int):St:=⟨[(0,vV Jl aD),(5,vI n5),(6,vI k6)],[],0⟩
def Zmw(aD:List Ka)(t8:Int):St:=⟨[(4,vI t8)],[],0⟩
def Zmx(aD:List Ka)(n9:Int)(k10:Int)(aV:Bool):St:=⟨[(0,vV Jl aD),(5,vI n9),(6,vI k10),(25,vB aV)],[],0⟩
theorem Zoe(N:Nat){R:Type}(K:Ex->St->Option R){aD:List Ka}{K0:Int->Option R}{K1:Int->Int->Bool->Option R}(h0:K0= λt8=>K .ret (Zmw aD t8))(h1:K1= λn9 k10 aV=>K (.exit 0) (Zmx aD n9 k10 aV))(n:Nat)(n5:Int)(k6:Int):Zcb N aD K0 K1 n n5 k6=LM Zgj N 0 100005 n (Zod aD n5 k6) K:=by
  subst h0 h1
  induction n generalizing n5 k6 with
  |zero=>kernel_rfl
  |succ n ih=>rw[Zcb];simp only[ih];kernel_rfl
theorem Zri(N:Nat)(ac:List Ka)(i2:Int):DN Zgj N (ac,i2,())=Zeu N ac i2:=by
  conv=>rhs;rw[Zeu];simp(disch:=exact id (by kernel_rfl)) only[Zoe (R:=Unit×Kj) N (CF Zgj N [1,1,1,0,1,0])]
  kernel_rfl
theorem Zrj(N:Nat):GW 167 (Zh3 N):=GF Zgj N Tryz.func167 (GC (Zai N) (GC (Zh0 N) Wb)) (λd=>Zri N d.1 d.2.1)
def Ze0(N:Nat):Sig:=Sig.of [.box Jk,.v Jl false] [] (λd=>Zdw N d.1 d.2.1)
def Zjy:Fn:=⟨Tryz.f186,λ |5=>[.opn 28]|_=>[],Ze0,λN=>[(68,Zan N),(204,Zgx N),(167,Zh3 N)]⟩
theorem Zjz(N:Nat):GW 186 (Ze0 N):=GF Zjy N Tryz.func186 (GC (Zbs N) (GC (Zo6 N) (GC (Zrj N) Wb)))
def Zib(N:Nat):Sig:=Sig.of [.v Jq true,.v Jf false] [.v Jw false,.v Jc false] (λd=>Zh8 N d.1 d.2.1)
def Zrw:Fn:=⟨Tryz.f166,W4,Zib,λN=>[(68,Zan N),(230,Zfe N),(67,Zar N)]⟩
theorem Zrx(N:Nat):GW 166 (Zib N):=GF Zrw N Tryz.func166 (GC (Zbs N) (GC (Zia N) (GC (Zcf N) Wb)))
def Zfj(N:Nat):Sig:=Sig.of [.box Jp,.v Ja false,.v Jl false,.v Jt true] [] (λd=>Zel N d.1 d.2.1 d.2.2.1 d.2.2.2.1)
def Zmy:Fn:=⟨Tryz.f115,λ |1=>[.opn 16]|18=>[.nest 128 Jh]|_=>[],Zfj,λN=>[(185,Ze6 N),(186,Ze0 N),(68,Zan N),(166,Zib N)]⟩
theorem Zmz(N:Nat):GW 115 (Zfj N):=GF Zmy N Tryz.func115 (GC (Zk2 N) (GC (Zjz N) (GC (Zbs N) (GC (Zrx N) Wb))))
def Z9(N:Nat):Sig:=Sig.of [.mut Je,.clos 188 0] [] (λd=>Zx N d.1)
theorem Zb5:CmpOk Tryz.prog 188 Je WqF cfE:=by
  intro G x y us vs w hx hy h1 h2;obtain⟨_,_,rfl,a1,_,_,rfl,a2,a3⟩:=h1;obtain⟨_,_,rfl,b1,_,_,rfl,b2,b3⟩:=h2;simp only[Enc]at a1 a2 a3 b1 b2 b3;subst a1 a2 a3 b1 b2 b3;simp only[List.cons_append,List.nil_append]
  go_enter Tryz.func188,Tryz.ntmps188
  go_wp2
  rw[sub_run (Wn1 hx) (Wn1 hy) (c:=cfE x y) rfl]
  go_wp2
  go_ret
  exact⟨rfl,two_grow _ _ _⟩
theorem Zb6(N:Nat):GW 187 (Z9 N):=⟨WcB Tryz.func187 (show Wmj Tryz.f187=true by kernel_rfl),good_sortF sortFE (e:=.prod Ja Jm) rfl (by decide) Tryz.isAgg121 Tryz.sizeOf121 (enters_of Tryz.func188 (by kernel_rfl) rfl) Wrj Zb5 N⟩
def Ze1(N:Nat):Sig:=Sig.of [.box Jp,.v Ja false] [] (λd=>Zb0 N d.1 d.2.1)
def Za0:Fn:=⟨Tryz.f116,λ |0=>[.opn 16]|3=>[.canon [0,1,4,28,29,30,31]]|4=>[.canon [0,1,4,6,28,29,30]]|5=>[.canon [0,1,4,6,7,28,29,30]]|6=>[.canon [0,1,4,7,8,28,29,30]]|7=>[.canon [0,1,4,7,8,28,29,30,48]]|8=>[.canon [0,1,4,28,29,30]]|9=>[.canon [0,1,4,28,29,30]]|10=>[.canon [0,1,4,28,29,30]]|13=>[.canon [0,1,4,75,76,77,78]]|14=>[.canon [0,1,4,10,75,76,77]]|15=>[.canon [0,1,4,10,75,76,77,83]]|16=>[.canon [0,1,4,75,76,77]]|17=>[.canon [0,1,4,75,76,77]]|100003=>[.canon [0,1,4,28,29,30]]|100013=>[.canon [0,1,4,75,76,77]]|_=>[],Ze1,λN=>[(114,Zho N),(117,Zcg N),(187,Z9 N)]⟩
def Zii(k4:Int)(t5:Int)(t6:Int)(b7:Int)(b8:Int)(b9:Int)(bH:Bool)(aI:Int)(bD:Int)(aW:Int)(cF:Int)(bM:Int)(aT:Int)(aU:Bool)(dc:Int)(ek:Int)(fT:Int)(fU:Int)(bb:List Kb)(bj:List Int)(cH:List Kb)(dx:List Kc)(ep:List Int)(cZ:List Kb)(fV:List Y_KidRun)(bR:Nat)(cI:List Int)(fW:List Kc)(fX:List Kb)(fY:List Ki):St:=⟨[(0,vP 0 0),(1,vI k4),(4,vP 1 0),(28,vO 2),(29,vI t5),(30,vI t6)],[(0,.box [.val Ja b7,.val Ja b8,.val Ja b9,.val Jc bH,.own 3,.own 4,.own 5,.own 6,.own 7,.own 8]),(1,.box [.val Ja aI,.val Ja bD,.val Ja aW,.val Ja cF,.val Ja bM,.val Ja aT,.own 9,.own 10,.own 11,.own 12,.val Jc aU,.val Ja dc,.val Ja ek,.val Ja fT,.val Ja fU]),(2,.arr Jm bb),(3,.arr Ja bj),(4,.arr Jm cH),(5,.arr Je dx),(6,.arr Ja ep),(7,.arr Jm cZ),(8,.hole Jk fV bR 1),(9,.arr Ja cI),(10,.arr Je fW),(11,.arr Jm fX),(12,.arr Jh fY)],13⟩
def Zic(k4:Int)(t5:Int)(b7:Int)(b8:Int)(b9:Int)(bH:Bool)(aI:Int)(bD:Int)(aW:Int)(cF:Int)(bM:Int)(aT:Int)(aU:Bool)(dc:Int)(ek:Int)(fT:Int)(fU:Int)(bb:List Kb)(bj:List Int)(cH:List Kb)(ep:List Int)(cZ:List Kb)(fV:List Y_KidRun)(bR:Nat)(cI:List Int)(fW:List Kc)(fX:List Kb)(fY:List Ki)(ph:Int)(lM:Bool)(c6:List Kc):St:=⟨[(0,vP 0 0),(1,vI k4),(4,vP 1 0),(28,vO 2),(29,vI t5),(30,vI ph),(31,vB lM)],[(0,.box [.val Ja b7,.val Ja b8,.val Ja b9,.val Jc bH,.own 3,.own 4,.own 5,.own 6,.own 7,.own 8]),(1,.box [.val Ja aI,.val Ja bD,.val Ja aW,.val Ja cF,.val Ja bM,.val Ja aT,.own 9,.own 10,.own 11,.own 12,.val Jc aU,.val Ja dc,.val Ja ek,.val Ja fT,.val Ja fU]),(2,.arr Jm bb),(3,.arr Ja bj),(4,.arr Jm cH),(5,.arr Je c6),(6,.arr Ja ep),(7,.arr Jm cZ),(8,.hole Jk fV bR 1),(9,.arr Ja cI),(10,.arr Je fW),(11,.arr Jm fX),(12,.arr Jh fY)],13⟩
theorem Zij(N:Nat){R:Type}(K:Ex->St->Option R){k4:Int}{t5:Int}{b7:Int}{b8:Int}{b9:Int}{bH:Bool}{aI:Int}{bD:Int}{aW:Int}{cF:Int}{bM:Int}{aT:Int}{aU:Bool}{dc:Int}{ek:Int}{fT:Int}{fU:Int}{bb:List Kb}{bj:List Int}{cH:List Kb}{ep:List Int}{cZ:List Kb}{fV:List Y_KidRun}{bR:Nat}{cI:List Int}{fW:List Kc}{fX:List Kb}{fY:List Ki}{K0:Int->Bool->Kr->Option R}(h0:K0= λph lM c6=>K (.exit 0) (Zic k4 t5 b7 b8 b9 bH aI bD aW cF bM aT aU dc ek fT fU bb bj cH ep cZ fV bR cI fW fX fY ph lM c6))(n:Nat)(t6:Int)(dx:List Kc):Z0 N k4 t5 b7 b8 b9 bH aI bD aW cF bM aT aU dc ek fT fU bb bj cH ep cZ fV bR cI fW fX fY K0 n t6 dx=LM Za0 N 0 100003 n (Zii k4 t5 t6 b7 b8 b9 bH aI bD aW cF bM aT aU dc ek fT fU bb bj cH dx ep cZ fV bR cI fW fX fY) K:=by
  subst h0
  induction n generalizing t6 dx with
  |zero=>kernel_rfl
  |succ n ih=>rw[Z0];simp only[ih];kernel_rfl
def Zik(fq:Int)(dW:Int)(t45:Int)(hD:Int)(hI:Int)(hJ:Int)(hP:Bool)(hQ:Int)(eJ:Int)(hY:Int)(hZ:Int)(ia:Int)(ib:Int)(ic:Bool)(fu:Int)(fw:Int)(fx:Int)(fy:Int)(cG:List Kc)(de:List Int)(fz:List Kb)(fA:List Kc)(fB:List Int)(gG:List Kb)(df:List Y_KidRun)(ig:Nat)(dF:List Int)(dG:List Kb)(dH:List Ki):St:=⟨[(0,vP 0 0),(1,vI fq),(4,vP 1 0),(75,vO 2),(76,vI dW),(77,vI t45)],[(0,.box [.val Ja hD,.val Ja hI,.val Ja hJ,.val Jc hP,.own 3,.own 4,.own 5,.own 6,.own 7,.own 8]),(1,.box [.val Ja hQ,.val Ja eJ,.val Ja hY,.val Ja hZ,.val Ja ia,.val Ja ib,.own 9,.own 2,.own 10,.own 11,.val Jc ic,.val Ja fu,.val Ja fw,.val Ja fx,.val Ja fy]),(2,.arr Je cG),(3,.arr Ja de),(4,.arr Jm fz),(5,.arr Je fA),(6,.arr Ja fB),(7,.arr Jm gG),(8,.hole Jk df ig 1),(9,.arr Ja dF),(10,.arr Jm dG),(11,.arr Jh dH)],12⟩
def Zid(fq:Int)(dW:Int)(hD:Int)(hI:Int)(hJ:Int)(hP:Bool)(hQ:Int)(eJ:Int)(hY:Int)(hZ:Int)(ia:Int)(ib:Int)(ic:Bool)(fu:Int)(fw:Int)(fx:Int)(fy:Int)(cG:List Kc)(de:List Int)(fz:List Kb)(fA:List Kc)(fB:List Int)(df:List Y_KidRun)(ig:Nat)(dF:List Int)(dG:List Kb)(dH:List Ki)(qJ:Int)(qK:Bool)(qL:List Kb):St:=⟨[(0,vP 0 0),(1,vI fq),(4,vP 1 0),(75,vO 2),(76,vI dW),(77,vI qJ),(78,vB qK)],[(0,.box [.val Ja hD,.val Ja hI,.val Ja hJ,.val Jc hP,.own 3,.own 4,.own 5,.own 6,.own 7,.own 8]),(1,.box [.val Ja hQ,.val Ja eJ,.val Ja hY,.val Ja hZ,.val Ja ia,.val Ja ib,.own 9,.own 2,.own 10,.own 11,.val Jc ic,.val Ja fu,.val Ja fw,.val Ja fx,.val Ja fy]),(2,.arr Je cG),(3,.arr Ja de),(4,.arr Jm fz),(5,.arr Je fA),(6,.arr Ja fB),(7,.arr Jm qL),(8,.hole Jk df ig 1),(9,.arr Ja dF),(10,.arr Jm dG),(11,.arr Jh dH)],12⟩
theorem Zil(N:Nat){R:Type}(K:Ex->St->Option R){fq:Int}{dW:Int}{hD:Int}{hI:Int}{hJ:Int}{hP:Bool}{hQ:Int}{eJ:Int}{hY:Int}{hZ:Int}{ia:Int}{ib:Int}{ic:Bool}{fu:Int}{fw:Int}{fx:Int}{fy:Int}{cG:List Kc}{de:List Int}{fz:List Kb}{fA:List Kc}{fB:List Int}{df:List Y_KidRun}{ig:Nat}{dF:List Int}{dG:List Kb}{dH:List Ki}{K0:Int->Bool->Kq->Option R}(h0:K0= λqJ qK qL=>K (.exit 2) (Zid fq dW hD hI hJ hP hQ eJ hY hZ ia ib ic fu fw fx fy cG de fz fA fB df ig dF dG dH qJ qK qL))(n:Nat)(t45:Int)(gG:List Kb):Z5 N fq dW hD hI hJ hP hQ eJ hY hZ ia ib ic fu fw fx fy cG de fz fA fB df ig dF dG dH K0 n t45 gG=LM Za0 N 1 100013 n (Zik fq dW t45 hD hI hJ hP hQ eJ hY hZ ia ib ic fu fw fx fy cG de fz fA fB gG df ig dF dG dH) K:=by
  subst h0
  induction n generalizing t45 gG with
  |zero=>kernel_rfl
  |succ n ih=>rw[Z5];simp only[ih];kernel_rfl
theorem Zj0(N:Nat)(f1:Y_Family)(k2:Int):DN Za0 N (f1,k2,())=Zb0 N f1 k2:=by
  conv=>rhs;rw[Zb0];simp(disch:=exact id (by kernel_rfl)) only[Zij (R:=(Y_Family×Unit)×Unit) N (CF Za0 N [1,1,0,1,0]),Zil (R:=(Y_Family×Unit)×Unit) N (CF Za0 N [1,1,1,1,0,1,0])]
  kernel_rfl
theorem Zj1(N:Nat):GW 116 (Ze1 N):=GF Za0 N Tryz.func116 (GC (Zn8 N) (GC (Zez N) (GC (Zb6 N) Wb))) (λd=>Zj0 N d.1 d.2.1)
def Ze7(N:Nat):Sig:=Sig.of [.box Jp,.v Ja false,.v Jl false,.v Jt true] [] (λd=>Zc8 N d.1 d.2.1 d.2.2.1 d.2.2.2.1)
def Zk3:Fn:=⟨Tryz.f52,λ |2=>[.opn 20]|_=>[],Ze7,λN=>[(115,Zfj N),(116,Ze1 N),(117,Zcg N),(118,Zcx N)]⟩
theorem Zk4(N:Nat):GW 52 (Ze7 N):=GF Zk3 N Tryz.func52 (GC (Zmz N) (GC (Zj1 N) (GC (Zez N) (GC (Zgt N) Wb))))
def Zg5(N:Nat):Sig:=Sig.of [.v Jt true] [.v (.prod Ja (.own Je)) true] (λd=>Zgb N d.1)
def Zpm:Fn:=⟨Tryz.f119,W4,Zg5,WcL⟩
theorem Zpn(N:Nat):GW 119 (Zg5 N):=GF Zpm N Tryz.func119 Wb
def Zie(N:Nat):Sig:=Sig.of [.v Jt true] [.v (.prod Ja (.own Je)) true,.v Ja false] (λd=>Zh9 N d.1)
def Zry:Fn:=⟨Tryz.f53,W4,Zie,λN=>[(119,Zg5 N),(94,Zgh N)]⟩
theorem Zrz(N:Nat):GW 53 (Zie N):=GF Zry N Tryz.func53 (GC (Zpn N) (GC (Zjx N) Wb))
def Zfk(N:Nat):Sig:=Sig.of [.v Jr true] [.v Jt true,.v (TY_Family) true] (λd=>Zcs N d.1)
def Zdz:Fn:=⟨Tryz.f11,λ |6=>[.canon [1,2,3,4,6,32,33,34,35]]|7=>[.canon [1,2,3,4,6,8,32,33,34]]|8=>[.canon [1,2,3,4,6,8,32,33,34,38]]|9=>[.canon [1,2,3,4,6,32,33,34]]|10=>[.canon [1,2,3,4,6,8,32,33,34,54]]|11=>[.canon [1,2,3,4,6,8,9,10,32,33,34]]|12=>[.canon [1,2,3,4,6,8,10,32,33,34]]|13=>[.canon [1,2,3,4,6,10,11,32,33,34]]|14=>[.canon [1,2,3,4,6,10,11,32,33,34]]|15=>[.canon [1,2,3,4,6,32,33,34]]|16=>[.canon [1,2,3,4,6,32,33,34]]|100006=>[.canon [1,2,3,4,6,32,33,34]]|_=>[],Zfk,λN=>[(48,Zh2 N),(49,Zhn N),(50,Zgv N),(51,Z4 N),(52,Ze7 N),(53,Zie N)]⟩
def Zi5(t5:List Int)(t7:Int)(b8:List Int×List Int×List Kb×List Kl×List Int)(cF:Int)(bM:Int)(aT:Int)(aU:Int)(dc:Bool)(bd:List Kc)(be:List Int)(bf:List Kb)(bb:List Kc)(bj:List Int)(cH:List Kb)(dx:List Y_KidRun):St:=⟨[(1,vP 0 0),(2,vP 1 0),(3,vP 2 0),(4,vP 3 0),(6,vP 4 0),(32,vV Jf t5),(33,vI (We b8.2.2.2.2)),(34,vI t7)],[(0,.box [.val Jf b8.1,.val Jf b8.2.1,.val Jg b8.2.2.1,.val Jv b8.2.2.2.1,.val Jf b8.2.2.2.2]),(1,.box [.val Ja (0:Int),.nils]),(2,.box [.val Ja (0:Int),.val Ja (0:Int),.val Ja (0:Int),.val Jc false,.nils,.nils,.nils,.nils,.nils,.nils]),(3,.box [.val Ja cF,.own 5]),(4,.box [.val Ja bM,.val Ja aT,.val Ja aU,.val Jc dc,.own 6,.own 7,.own 8,.own 9,.own 10,.own 11]),(5,.arr Je bd),(6,.arr Ja be),(7,.arr Jm bf),(8,.arr Je bb),(9,.arr Ja bj),(10,.arr Jm cH),(11,.arr Jk dx)],12⟩
def Zis(t5:List Int)(b8:List Int×List Int×List Kb×List Kl×List Int)(lM:Int)(qM:Bool)(qN:Int)(qO:Int)(qP:Int)(qQ:Int)(qR:Bool)(qS:List Kc)(qT:List Int)(qU:List Kb)(iQ:List Kc)(iR:List Int)(lN:List Kb)(qV:List Y_KidRun):St:=⟨[(1,vP 0 0),(2,vP 1 0),(3,vP 2 0),(4,vP 3 0),(6,vP 4 0),(32,vV Jf t5),(33,vI (We b8.2.2.2.2)),(34,vI lM),(35,vB qM)],[(0,.box [.val Jf b8.1,.val Jf b8.2.1,.val Jg b8.2.2.1,.val Jv b8.2.2.2.1,.val Jf b8.2.2.2.2]),(1,.box [.val Ja (0:Int),.nils]),(2,.box [.val Ja (0:Int),.val Ja (0:Int),.val Ja (0:Int),.val Jc false,.nils,.nils,.nils,.nils,.nils,.nils]),(3,.box [.val Ja qN,.own 5]),(4,.box [.val Ja qO,.val Ja qP,.val Ja qQ,.val Jc qR,.own 6,.own 7,.own 8,.own 9,.own 10,.own 11]),(5,.arr Je qS),(6,.arr Ja qT),(7,.arr Jm qU),(8,.arr Je iQ),(9,.arr Ja iR),(10,.arr Jm lN),(11,.arr Jk qV)],12⟩
theorem Zi6(N:Nat){R:Type}(K:Ex->St->Option R){t5:List Int}{b8:List Int×List Int×List Kb×List Kl×List Int}{K0:Int->Bool->Int->Int->Int->Int->Bool->Kr->Kh->Kq->Kr->Kh->Kq->(List Y_KidRun)->Option R}(h0:K0= λlM qM qN qO qP qQ qR qS qT qU iQ iR lN qV=>K (.exit 0) (Zis t5 b8 lM qM qN qO qP qQ qR qS qT qU iQ iR lN qV))(n:Nat)(t7:Int)(cF:Int)(bM:Int)(aT:Int)(aU:Int)(dc:Bool)(bd:List Kc)(be:List Int)(bf:List Kb)(bb:List Kc)(bj:List Int)(cH:List Kb)(dx:List Y_KidRun):Z3 N t5 b8 K0 n t7 cF bM aT aU dc bd be bf bb bj cH dx=LM Zdz N 0 100006 n (Zi5 t5 t7 b8 cF bM aT aU dc bd be bf bb bj cH dx) K:=by
  subst h0
  induction n generalizing t7 cF bM aT aU dc bd be bf bb bj cH dx with
  |zero=>kernel_rfl
  |succ n ih=>rw[Z3];simp only[ih];kernel_rfl
theorem Zm0(N:Nat)(s1:List Int×List Int×List Kb×List Kl×List Int):DN Zdz N (s1,())=Zcs N s1:=by
  conv=>rhs;rw[Zcs];simp(disch:=exact id (by kernel_rfl)) only[Zi6 (R:=Unit×(Kt×(Y_Family×Unit))) N (CF Zdz N [1,1,1,1,0,1,0])]
  kernel_rfl
theorem Zm1(N:Nat):GW 11 (Zfk N):=GF Zdz N Tryz.func11 (GC (Zrg N) (GC (Zqp N) (GC (Zo2 N) (GC (Zai N) (GC (Zk4 N) (GC (Zrz N) Wb)))))) (λd=>Zm0 N d.1)
def Zcw(N:Nat):Sig:=Sig.of [.v Ja false,.v Ja false,.v Ja false] [.v Jc false] (λd=>Zad N d.1 d.2.1 d.2.2.1)
def Zr0:Fn:=⟨Tryz.f57,W4,Zcw,WcL⟩
theorem Zd7(N:Nat):GW 57 (Zcw N):=GF Zr0 N Tryz.func57 Wb
def Zdp(N:Nat):Sig:=Sig.of [.v Ja false] [.v Jc false] (λd=>Zc6 N d.1)
def Zrk:Fn:=⟨Tryz.f103,W4,Zdp,λN=>[(57,Zcw N)]⟩
theorem Zgk(N:Nat):GW 103 (Zdp N):=GF Zrk N Tryz.func103 (GC (Zd7 N) Wb)
def Zcn(N:Nat):Sig:=Sig.of [.v Jf false] [.v Jc false] (λd=>Zbb N d.1)
def Zfv:Fn:=⟨Tryz.f54,λ |4=>[.canon [0,3,10]]|5=>[.canon [0,3]]|6=>[.canon [0,3,18]]|7=>[.canon [2]]|100004=>[.canon [0,3]]|_=>[],Zcn,λN=>[(103,Zdp N)]⟩
def Zm2(l2:List Int)(i3:Int):St:=⟨[(0,vV Jf l2),(3,vI i3)],[],0⟩
def Zk5(l2:List Int):St:=⟨[(2,vB false)],[],0⟩
def Zk6(l2:List Int)(i5:Int)(t6:Bool):St:=⟨[(0,vV Jf l2),(3,vI i5),(10,vB t6)],[],0⟩
theorem Zm3(N:Nat){R:Type}(K:Ex->St->Option R){l2:List Int}{K0:Option R}{K1:Int->Bool->Option R}(h0:K0=K .ret (Zk5 l2))(h1:K1= λi5 t6=>K (.exit 0) (Zk6 l2 i5 t6))(n:Nat)(i3:Int):Zbl N l2 K0 K1 n i3=LM Zfv N 0 100004 n (Zm2 l2 i3) K:=by
  subst h0 h1
  induction n generalizing i3 with
  |zero=>kernel_rfl
  |succ n ih=>rw[Zbl];simp only[ih];kernel_rfl
theorem Zqq(N:Nat)(l1:List Int):DN Zfv N (l1,())=Zbb N l1:=by
  conv=>rhs;rw[Zbb];simp(disch:=exact id (by kernel_rfl)) only[Zm3 (R:=Unit×Km) N (CF Zfv N [1,1,0,1,0])]
  kernel_rfl
theorem Zeg(N:Nat):GW 54 (Zcn N):=GF Zfv N Tryz.func54 (GC (Zgk N) Wb) (λd=>Zqq N d.1)
def Zeh(N:Nat):Sig:=Sig.of [.v Jf false] [.v Jc false] (λd=>Zcu N d.1)
def Zfw:Fn:=⟨Tryz.f55,λ |4=>[.canon [0,3,10]]|5=>[.canon [0,3]]|6=>[.canon [0,3,18]]|7=>[.canon [2]]|100004=>[.canon [0,3]]|_=>[],Zeh,λN=>[(103,Zdp N)]⟩
def Zm4(l2:List Int)(i3:Int):St:=⟨[(0,vV Jf l2),(3,vI i3)],[],0⟩
def Zk7(l2:List Int):St:=⟨[(2,vB false)],[],0⟩
def Zk8(l2:List Int)(i5:Int)(t6:Bool):St:=⟨[(0,vV Jf l2),(3,vI i5),(10,vB t6)],[],0⟩
theorem Zm5(N:Nat){R:Type}(K:Ex->St->Option R){l2:List Int}{K0:Option R}{K1:Int->Bool->Option R}(h0:K0=K .ret (Zk7 l2))(h1:K1= λi5 t6=>K (.exit 0) (Zk8 l2 i5 t6))(n:Nat)(i3:Int):Zbm N l2 K0 K1 n i3=LM Zfw N 0 100004 n (Zm4 l2 i3) K:=by
  subst h0 h1
  induction n generalizing i3 with
  |zero=>kernel_rfl
  |succ n ih=>rw[Zbm];simp only[ih];kernel_rfl
theorem Zqr(N:Nat)(l1:List Int):DN Zfw N (l1,())=Zcu N l1:=by
  conv=>rhs;rw[Zcu];simp(disch:=exact id (by kernel_rfl)) only[Zm5 (R:=Unit×Km) N (CF Zfw N [1,1,0,1,0])]
  kernel_rfl
theorem Zhq(N:Nat):GW 55 (Zeh N):=GF Zfw N Tryz.func55 (GC (Zgk N) Wb) (λd=>Zqr N d.1)
def Zei(N:Nat):Sig:=Sig.of [.v Ja false] [.v Jc false] (λd=>Zat N d.1)
def Zqs:Fn:=⟨Tryz.f60,W4,Zei,λN=>[(57,Zcw N)]⟩
theorem Zhr(N:Nat):GW 60 (Zei N):=GF Zqs N Tryz.func60 (GC (Zd7 N) Wb)
def Zdg(N:Nat):Sig:=Sig.of [.v Jg false] [.v Jc false] (λd=>Zbc N d.1)
def Zfx:Fn:=⟨Tryz.f56,λ |4=>[.canon [0,3,10]]|5=>[.canon [0,3]]|6=>[.canon [0,3,28]]|7=>[.canon [2]]|100004=>[.canon [0,3]]|_=>[],Zdg,λN=>[(60,Zei N),(103,Zdp N)]⟩
def Zm6(l2:List Kb)(i3:Int):St:=⟨[(0,vV Jg l2),(3,vI i3)],[],0⟩
def Zk9(l2:List Kb):St:=⟨[(2,vB false)],[],0⟩
def Zla(l2:List Kb)(i6:Int)(t7:Bool):St:=⟨[(0,vV Jg l2),(3,vI i6),(10,vB t7)],[],0⟩
theorem Zm7(N:Nat){R:Type}(K:Ex->St->Option R){l2:List Kb}{K0:Option R}{K1:Int->Bool->Option R}(h0:K0=K .ret (Zk9 l2))(h1:K1= λi6 t7=>K (.exit 0) (Zla l2 i6 t7))(n:Nat)(i3:Int):Zbn N l2 K0 K1 n i3=LM Zfx N 0 100004 n (Zm6 l2 i3) K:=by
  subst h0 h1
  induction n generalizing i3 with
  |zero=>kernel_rfl
  |succ n ih=>rw[Zbn];simp only[ih];kernel_rfl
theorem Zqt(N:Nat)(l1:List Kb):DN Zfx N (l1,())=Zbc N l1:=by
  conv=>rhs;rw[Zbc];simp(disch:=exact id (by kernel_rfl)) only[Zm7 (R:=Unit×Km) N (CF Zfx N [1,1,0,1,0])]
  kernel_rfl
theorem Zfy(N:Nat):GW 56 (Zdg N):=GF Zfx N Tryz.func56 (GC (Zhr N) (GC (Zgk N) Wb)) (λd=>Zqt N d.1)
def Zh4(N:Nat):Sig:=Sig.of [.v Ja false] [.v Jc false] (λd=>Zk N d.1)
def Zrl:Fn:=⟨Tryz.f228,W4,Zh4,λN=>[(57,Zcw N)]⟩
theorem Zrm(N:Nat):GW 228 (Zh4 N):=GF Zrl N Tryz.func228 (GC (Zd7 N) Wb)
def Zff(N:Nat):Sig:=Sig.of [.v Jq true] [.v Jc false] (λd=>Zi N d.1)
def Zr1:Fn:=⟨Tryz.f160,W4,Zff,λN=>[(228,Zh4 N),(103,Zdp N),(60,Zei N),(57,Zcw N)]⟩
theorem Zif(N:Nat):GW 160 (Zff N):=GF Zr1 N Tryz.func160 (GC (Zrm N) (GC (Zgk N) (GC (Zhr N) (GC (Zd7 N) Wb))))
def Zhs(N:Nat):Sig:=Sig.of [.v Jl false,.v Ja false] [.v Jc false] (λd=>Zd1 N d.1 d.2.1)
def Zfz:Fn:=⟨Tryz.f161,λ |6=>[.canon [0,5,6,7,24]]|7=>[.canon [0,5,6,7]]|8=>[.canon [0,5,6,7,32]]|9=>[.canon [0,5,6,7]]|10=>[.canon [0,5,6,7,40]]|11=>[.canon [0,5,6,7]]|12=>[.canon [0,5,6,7,44]]|13=>[.canon [4]]|100006=>[.canon [0,5,6,7]]|_=>[],Zhs,WcL⟩
def Zm8(ad:List Ka)(fm:Int)(d5:Int)(k6:Int):St:=⟨[(0,vV Jl ad),(5,vI fm),(6,vI d5),(7,vI k6)],[],0⟩
def Zlb(ad:List Ka)(fm:Int):St:=⟨[(4,vB false)],[],0⟩
def Zlc(ad:List Ka)(fm:Int)(d7:Int)(k8:Int)(t9:Bool):St:=⟨[(0,vV Jl ad),(5,vI fm),(6,vI d7),(7,vI k8),(24,vB t9)],[],0⟩
theorem Zm9(N:Nat){R:Type}(K:Ex->St->Option R){ad:List Ka}{fm:Int}{K0:Option R}{K1:Int->Int->Bool->Option R}(h0:K0=K .ret (Zlb ad fm))(h1:K1= λd7 k8 t9=>K (.exit 0) (Zlc ad fm d7 k8 t9))(n:Nat)(d5:Int)(k6:Int):Z6 N ad fm K0 K1 n d5 k6=LM Zfz N 0 100006 n (Zm8 ad fm d5 k6) K:=by
  subst h0 h1
  induction n generalizing d5 k6 with
  |zero=>kernel_rfl
  |succ n ih=>rw[Z6];simp only[ih];kernel_rfl
theorem Zqu(N:Nat)(ac:List Ka)(i2:Int):DN Zfz N (ac,i2,())=Zd1 N ac i2:=by
  conv=>rhs;rw[Zd1];simp(disch:=exact id (by kernel_rfl)) only[Zm9 (R:=Unit×Km) N (CF Zfz N [1,1,1,1,0,1,0])]
  kernel_rfl
theorem Zqv(N:Nat):GW 161 (Zhs N):=GF Zfz N Tryz.func161 Wb (λd=>Zqu N d.1 d.2.1)
def Zht(N:Nat):Sig:=Sig.of [.v Jl false] [.v Jc false] (λd=>Zd2 N d.1)
def Zf0:Fn:=⟨Tryz.f101,λ |6=>[.canon [0,3,4,5,12]]|7=>[.canon [0,3,4,5]]|8=>[.canon [0,3,4,5,20]]|9=>[.canon [2]]|10=>[.canon [0,3,4,5,25]]|11=>[.canon [0,3,4,5,25,26]]|12=>[.canon [0,3,4,5]]|13=>[.canon [0,3,4,5,25,30]]|14=>[.canon [0,3,4,5]]|15=>[.canon [0,3,4,5,25,34]]|16=>[.canon [0,3,4,5,39]]|17=>[.canon [2]]|18=>[.canon [0,3,4,5,40]]|19=>[.canon [0,3,4,5]]|20=>[.canon [0,3,4,5,49]]|21=>[.canon [2]]|22=>[.canon [0,3,4,5,51]]|23=>[.canon [2]]|100006=>[.canon [0,3,4,5]]|_=>[],Zht,λN=>[(160,Zff N),(161,Zhs N)]⟩
def Zna(aa:List Ka)(d3:Int)(aA:Int)(i5:Int):St:=⟨[(0,vV Jl aa),(3,vI d3),(4,vI aA),(5,vI i5)],[],0⟩
def Zld(aa:List Ka):St:=⟨[(2,vB false)],[],0⟩
def Zle(aa:List Ka)(d8:Int)(gd:Int)(dq:Int)(aV:Bool):St:=⟨[(0,vV Jl aa),(3,vI d8),(4,vI gd),(5,vI dq),(12,vB aV)],[],0⟩
theorem Znb(N:Nat){R:Type}(K:Ex->St->Option R){aa:List Ka}{K0:Option R}{K1:Int->Int->Int->Bool->Option R}(h0:K0=K .ret (Zld aa))(h1:K1= λd8 gd dq aV=>K (.exit 0) (Zle aa d8 gd dq aV))(n:Nat)(d3:Int)(aA:Int)(i5:Int):Z7 N aa K0 K1 n d3 aA i5=LM Zf0 N 0 100006 n (Zna aa d3 aA i5) K:=by
  subst h0 h1
  induction n generalizing d3 aA i5 with
  |zero=>kernel_rfl
  |succ n ih=>rw[Z7];simp only[ih];kernel_rfl
theorem Zqw(N:Nat)(ac:List Ka):DN Zf0 N (ac,())=Zd2 N ac:=by
  conv=>rhs;rw[Zd2];simp(disch:=exact id (by kernel_rfl)) only[Znb (R:=Unit×Km) N (CF Zf0 N [1,1,1,1,0,1,0])]
  kernel_rfl
theorem Zqx(N:Nat):GW 101 (Zht N):=GF Zf0 N Tryz.func101 (GC (Zif N) (GC (Zqv N) Wb)) (λd=>Zqw N d.1)
def Zg6(N:Nat):Sig:=Sig.of [.v Jl false] [.v Jc false] (λd=>Zdj N d.1)
def Ze8:Fn:=⟨Tryz.f102,λ |2=>[.canon [0,3,7]]|3=>[.canon [0,3]]|4=>[.canon [0,3,15]]|5=>[.canon [2]]|100002=>[.canon [0,3]]|_=>[],Zg6,WcL⟩
def Zlf(aa:List Ka)(i3:Int):St:=⟨[(0,vV Jl aa),(3,vI i3)],[],0⟩
def Zj2(aa:List Ka):St:=⟨[(2,vB true)],[],0⟩
def Zj3(aa:List Ka)(i4:Int)(t5:Bool):St:=⟨[(0,vV Jl aa),(3,vI i4),(7,vB t5)],[],0⟩
theorem Zlg(N:Nat){R:Type}(K:Ex->St->Option R){aa:List Ka}{K0:Option R}{K1:Int->Bool->Option R}(h0:K0=K .ret (Zj2 aa))(h1:K1= λi4 t5=>K (.exit 0) (Zj3 aa i4 t5))(n:Nat)(i3:Int):Za1 N aa K0 K1 n i3=LM Ze8 N 0 100002 n (Zlf aa i3) K:=by
  subst h0 h1
  induction n generalizing i3 with
  |zero=>kernel_rfl
  |succ n ih=>rw[Za1];simp only[ih];kernel_rfl
theorem Zpo(N:Nat)(ac:List Ka):DN Ze8 N (ac,())=Zdj N ac:=by
  conv=>rhs;rw[Zdj];simp(disch:=exact id (by kernel_rfl)) only[Zlg (R:=Unit×Km) N (CF Ze8 N [1,0,1,0])]
  kernel_rfl
theorem Zpp(N:Nat):GW 102 (Zg6 N):=GF Ze8 N Tryz.func102 Wb (λd=>Zpo N d.1)
def Zg7(N:Nat):Sig:=Sig.of [.v Jq true] [.v Ja false] (λd=>Zao N d.1)
def Zpq:Fn:=⟨Tryz.f120,W4,Zg7,λN=>[(160,Zff N)]⟩
theorem Zpr(N:Nat):GW 120 (Zg7 N):=GF Zpq N Tryz.func120 (GC (Zif N) Wb)
def Zgl(N:Nat):Sig:=Sig.of [.v Jl false] [.v Jc false] (λd=>Zc7 N d.1)
def Zgm:Fn:=⟨Tryz.f58,λ |4=>[.canon [0,3,14]]|5=>[.canon [0,3]]|6=>[.canon [0,3,22]]|7=>[.canon [2]]|100004=>[.canon [0,3]]|_=>[],Zgl,λN=>[(101,Zht N),(102,Zg6 N),(120,Zg7 N)]⟩
def Zof(aD:List Ka)(i5:Int):St:=⟨[(0,vV Jl aD),(3,vI i5)],[],0⟩
def Znc(aD:List Ka):St:=⟨[(2,vB false)],[],0⟩
def Znd(aD:List Ka)(i7:Int)(t8:Bool):St:=⟨[(0,vV Jl aD),(3,vI i7),(14,vB t8)],[],0⟩
theorem Zog(N:Nat){R:Type}(K:Ex->St->Option R){aD:List Ka}{K0:Option R}{K1:Int->Bool->Option R}(h0:K0=K .ret (Znc aD))(h1:K1= λi7 t8=>K (.exit 0) (Znd aD i7 t8))(n:Nat)(i5:Int):Zb7 N aD K0 K1 n i5=LM Zgm N 0 100004 n (Zof aD i5) K:=by
  subst h0 h1
  induction n generalizing i5 with
  |zero=>kernel_rfl
  |succ n ih=>rw[Zb7];simp only[ih];kernel_rfl
theorem Zrn(N:Nat)(ac:List Ka):DN Zgm N (ac,())=Zc7 N ac:=by
  conv=>rhs;rw[Zc7];simp(disch:=exact id (by kernel_rfl)) only[Zog (R:=Unit×Km) N (CF Zgm N [1,1,0,1,0])]
  kernel_rfl
theorem Zj4(N:Nat):GW 58 (Zgl N):=GF Zgm N Tryz.func58 (GC (Zqx N) (GC (Zpp N) (GC (Zpr N) Wb))) (λd=>Zrn N d.1)
def Zgn(N:Nat):Sig:=Sig.of [.v Jr true] [.v Jc false] (λd=>Zdq N d.1)
def Zgo:Fn:=⟨Tryz.f12,λ |4=>[.canon [1,3,37]]|5=>[.canon [1,3]]|6=>[.canon [1,3,47]]|7=>[.canon [2]]|100004=>[.canon [1,3]]|_=>[],Zgn,λN=>[(54,Zcn N),(55,Zeh N),(56,Zdg N),(57,Zcw N),(58,Zgl N)]⟩
def Zoh(i6:Int)(b7:List Int×List Int×List Kb×List Kl×List Int):St:=⟨[(1,vP 0 0),(3,vI i6)],[(0,.box [.val Jf b7.1,.val Jf b7.2.1,.val Jg b7.2.2.1,.val Jv b7.2.2.2.1,.val Jf b7.2.2.2.2])],1⟩
def Zne(b7:List Int×List Int×List Kb×List Kl×List Int):St:=⟨[(2,vB false)],[],0⟩
def Znf(b7:List Int×List Int×List Kb×List Kl×List Int)(i9:Int)(aN:Bool):St:=⟨[(1,vP 0 0),(3,vI i9),(37,vB aN)],[(0,.box [.val Jf b7.1,.val Jf b7.2.1,.val Jg b7.2.2.1,.val Jv b7.2.2.2.1,.val Jf b7.2.2.2.2])],1⟩
theorem Zoi(N:Nat){R:Type}(K:Ex->St->Option R){b7:List Int×List Int×List Kb×List Kl×List Int}{K0:Option R}{K1:Int->Bool->Option R}(h0:K0=K .ret (Zne b7))(h1:K1= λi9 aN=>K (.exit 0) (Znf b7 i9 aN))(n:Nat)(i6:Int):Za2 N b7 K0 K1 n i6=LM Zgo N 0 100004 n (Zoh i6 b7) K:=by
  subst h0 h1
  induction n generalizing i6 with
  |zero=>kernel_rfl
  |succ n ih=>rw[Za2];simp only[ih];kernel_rfl
theorem Zro(N:Nat)(s1:List Int×List Int×List Kb×List Kl×List Int):DN Zgo N (s1,())=Zdq N s1:=by
  conv=>rhs;rw[Zdq];simp(disch:=exact id (by kernel_rfl)) only[Zoi (R:=Unit×Km) N (CF Zgo N [1,1,0,1,0])]
  kernel_rfl
theorem Zj5(N:Nat):GW 12 (Zgn N):=GF Zgo N Tryz.func12 (GC (Zeg N) (GC (Zhq N) (GC (Zfy N) (GC (Zd7 N) (GC (Zj4 N) Wb))))) (λd=>Zro N d.1)
def Zdv(N:Nat):Sig:=Sig.of [.v Jf false,.v Jg false] [.v Jw false] (λd=>Zbh N d.1 d.2.1)
def Ze9:Fn:=⟨Tryz.f19,λ |5=>[.canon [1,5,6,22]]|6=>[.canon [1,5,6]]|7=>[.canon [1,5,6]]|100005=>[.canon [1,5,6]]|_=>[],Zdv,λN=>[(54,Zcn N),(56,Zdg N)]⟩
def Zlh(l5:List Kb)(i6:Int)(l7:List Int):St:=⟨[(1,vV Jg l5),(5,vO 0),(6,vI i6)],[(0,.arr Ja l7)],1⟩
def Zj6(l5:List Kb)(i8:Int)(t9:Bool)(ce:List Int):St:=⟨[(1,vV Jg l5),(5,vO 0),(6,vI i8),(22,vB t9)],[(0,.arr Ja ce)],1⟩
theorem Zli(N:Nat){R:Type}(K:Ex->St->Option R){l5:List Kb}{K0:Int->Bool->Kh->Option R}(h0:K0= λi8 t9 ce=>K (.exit 0) (Zj6 l5 i8 t9 ce))(n:Nat)(i6:Int)(l7:List Int):Za5 N l5 K0 n i6 l7=LM Ze9 N 0 100005 n (Zlh l5 i6 l7) K:=by
  subst h0
  induction n generalizing i6 l7 with
  |zero=>kernel_rfl
  |succ n ih=>rw[Za5];simp only[ih];kernel_rfl
theorem Zps(N:Nat)(br:List Int)(l2:List Kb):DN Ze9 N (br,l2,())=Zbh N br l2:=by
  conv=>rhs;rw[Zbh];simp(disch:=exact id (by kernel_rfl)) only[Zli (R:=Unit×Ko) N (CF Ze9 N [1,1,1,0,1,0])]
  kernel_rfl
theorem Zg8(N:Nat):GW 19 (Zdv N):=GF Ze9 N Tryz.func19 (GC (Zeg N) (GC (Zfy N) Wb)) (λd=>Zps N d.1 d.2.1)
def Zh5(N:Nat):Sig:=Sig.of [.v Jf false,.v (TY_Family) true,.v Ja false] [.v Jw false] (λd=>Zew N d.1 d.2.1 d.2.2.1)
def Zgp:Fn:=⟨Tryz.f59,λ |5=>[.canon [2,4,7,8,33]]|6=>[.canon [2,4,7,8]]|7=>[.canon [2,4,7,8,9]]|8=>[.canon [2,4,7,8,9,58]]|9=>[.canon [2,4,7,8]]|100005=>[.canon [2,4,7,8]]|_=>[],Zh5,λN=>[(54,Zcn N),(56,Zdg N),(19,Zdv N)]⟩
def Zoj(n7:Int)(i8:Int)(b9:Y_Family)(ce:List Int):St:=⟨[(2,vI n7),(4,vP 0 0),(7,vO 1),(8,vI i8)],[(0,.box [.val Ja b9.1,.val Ja b9.2.1,.val Ja b9.2.2.1,.val Jc b9.2.2.2.1,.val Jf b9.2.2.2.2.1,.val Jg b9.2.2.2.2.2.1,.val Jo b9.2.2.2.2.2.2.1,.val Jf b9.2.2.2.2.2.2.2.1,.val Jg b9.2.2.2.2.2.2.2.2.1,.val Jd b9.2.2.2.2.2.2.2.2.2]),(1,.arr Ja ce)],2⟩
def Zng(n7:Int)(b9:Y_Family)(lL:Int)(cY:Bool)(cr:List Int):St:=⟨[(2,vI n7),(4,vP 0 0),(7,vO 1),(8,vI lL),(33,vB cY)],[(0,.box [.val Ja b9.1,.val Ja b9.2.1,.val Ja b9.2.2.1,.val Jc b9.2.2.2.1,.val Jf b9.2.2.2.2.1,.val Jg b9.2.2.2.2.2.1,.val Jo b9.2.2.2.2.2.2.1,.val Jf b9.2.2.2.2.2.2.2.1,.val Jg b9.2.2.2.2.2.2.2.2.1,.val Jd b9.2.2.2.2.2.2.2.2.2]),(1,.arr Ja cr)],2⟩
theorem Zok(N:Nat){R:Type}(K:Ex->St->Option R){n7:Int}{b9:Y_Family}{K0:Int->Bool->Kh->Option R}(h0:K0= λlL cY cr=>K (.exit 0) (Zng n7 b9 lL cY cr))(n:Nat)(i8:Int)(ce:List Int):Zak N n7 b9 K0 n i8 ce=LM Zgp N 0 100005 n (Zoj n7 i8 b9 ce) K:=by
  subst h0
  induction n generalizing i8 ce with
  |zero=>kernel_rfl
  |succ n ih=>rw[Zak];simp only[ih];kernel_rfl
theorem Zrp(N:Nat)(aO:List Int)(f2:Y_Family)(n3:Int):DN Zgp N (aO,f2,n3,())=Zew N aO f2 n3:=by
  conv=>rhs;rw[Zew];simp(disch:=exact id (by kernel_rfl)) only[Zok (R:=Unit×Ko) N (CF Zgp N [1,1,1,0,1,0])]
  kernel_rfl
theorem Zrq(N:Nat):GW 59 (Zh5 N):=GF Zgp N Tryz.func59 (GC (Zeg N) (GC (Zfy N) (GC (Zg8 N) Wb))) (λd=>Zrp N d.1 d.2.1 d.2.2.1)
def Zg9(N:Nat):Sig:=Sig.of [.v Jf false,.v (TY_Family) true] [.v Jc false] (λd=>Zdn N d.1 d.2.1)
def Zc3:Fn:=⟨Tryz.f13,λ |4=>[.canon [0,3,5,22]]|5=>[.canon [0,3,5]]|6=>[.canon [0,3,5,6]]|7=>[.canon [0,3,5,6,7]]|8=>[.canon [0,3,5,6,7,42]]|9=>[.canon [0,3,5,6,7]]|10=>[.canon [0,3,5,6,7,8]]|11=>[.canon [0,3,5,6,7,67]]|12=>[.canon [4]]|100004=>[.canon [0,3,5]]|100008=>[.canon [0,3,5,6,7]]|_=>[],Zg9,λN=>[(54,Zcn N),(56,Zdg N),(59,Zh5 N),(60,Zei N)]⟩
def Zlj(cn:List Int)(dq:Int)(ec:Int)(bD:Y_Family)(dw:List Int):St:=⟨[(0,vV Jf cn),(3,vP 0 0),(5,vI dq),(6,vO 1),(7,vI ec)],[(0,.box [.val Ja bD.1,.val Ja bD.2.1,.val Ja bD.2.2.1,.val Jc bD.2.2.2.1,.val Jf bD.2.2.2.2.1,.val Jg bD.2.2.2.2.2.1,.val Jo bD.2.2.2.2.2.2.1,.val Jf bD.2.2.2.2.2.2.2.1,.val Jg bD.2.2.2.2.2.2.2.2.1,.val Jd bD.2.2.2.2.2.2.2.2.2]),(1,.arr Ja dw)],2⟩
def Zj7(cn:List Int)(dq:Int)(bD:Y_Family)(dw:List Int):St:=⟨[(4,vB false)],[],0⟩
def Zj8(cn:List Int)(dq:Int)(bD:Y_Family)(dw:List Int)(mn:Int)(cE:Bool):St:=⟨[(0,vV Jf cn),(3,vP 0 0),(5,vI dq),(6,vO 1),(7,vI mn),(42,vB cE)],[(0,.box [.val Ja bD.1,.val Ja bD.2.1,.val Ja bD.2.2.1,.val Jc bD.2.2.2.1,.val Jf bD.2.2.2.2.1,.val Jg bD.2.2.2.2.2.1,.val Jo bD.2.2.2.2.2.2.1,.val Jf bD.2.2.2.2.2.2.2.1,.val Jg bD.2.2.2.2.2.2.2.2.1,.val Jd bD.2.2.2.2.2.2.2.2.2]),(1,.arr Ja dw)],2⟩
theorem Zlk(N:Nat){R:Type}(K:Ex->St->Option R){cn:List Int}{dq:Int}{bD:Y_Family}{dw:List Int}{K0:Option R}{K1:Int->Bool->Option R}(h0:K0=K .ret (Zj7 cn dq bD dw))(h1:K1= λmn cE=>K (.exit 2) (Zj8 cn dq bD dw mn cE))(n:Nat)(ec:Int):Za6 N cn dq bD dw K0 K1 n ec=LM Zc3 N 1 100008 n (Zlj cn dq ec bD dw) K:=by
  subst h0 h1
  induction n generalizing ec with
  |zero=>kernel_rfl
  |succ n ih=>rw[Za6];simp only[ih];kernel_rfl
def Zll(bT:List Int)(i6:Int)(b7:Y_Family):St:=⟨[(0,vV Jf bT),(3,vP 0 0),(5,vI i6)],[(0,.box [.val Ja b7.1,.val Ja b7.2.1,.val Ja b7.2.2.1,.val Jc b7.2.2.2.1,.val Jf b7.2.2.2.2.1,.val Jg b7.2.2.2.2.2.1,.val Jo b7.2.2.2.2.2.2.1,.val Jf b7.2.2.2.2.2.2.2.1,.val Jg b7.2.2.2.2.2.2.2.2.1,.val Jd b7.2.2.2.2.2.2.2.2.2])],1⟩
def Zj9(bT:List Int)(b7:Y_Family):St:=⟨[(4,vB false)],[],0⟩
def Zka(bT:List Int)(b7:Y_Family)(iO:Int)(eU:Bool):St:=⟨[(0,vV Jf bT),(3,vP 0 0),(5,vI iO),(22,vB eU)],[(0,.box [.val Ja b7.1,.val Ja b7.2.1,.val Ja b7.2.2.1,.val Jc b7.2.2.2.1,.val Jf b7.2.2.2.2.1,.val Jg b7.2.2.2.2.2.1,.val Jo b7.2.2.2.2.2.2.1,.val Jf b7.2.2.2.2.2.2.2.1,.val Jg b7.2.2.2.2.2.2.2.2.1,.val Jd b7.2.2.2.2.2.2.2.2.2])],1⟩
theorem Zlm(N:Nat){R:Type}(K:Ex->St->Option R){bT:List Int}{b7:Y_Family}{K0:Option R}{K1:Int->Bool->Option R}(h0:K0=K .ret (Zj9 bT b7))(h1:K1= λiO eU=>K (.exit 0) (Zka bT b7 iO eU))(n:Nat)(i6:Int):Za7 N bT b7 K0 K1 n i6=LM Zc3 N 0 100004 n (Zll bT i6 b7) K:=by
  subst h0 h1
  induction n generalizing i6 with
  |zero=>kernel_rfl
  |succ n ih=>rw[Za7];simp(disch:=exact id (by kernel_rfl)) only[ih,Zlk N (CL Zc3 N 0 100004 [1,0,0,1,1,0] n K)];kernel_rfl
theorem Zpt(N:Nat)(aO:List Int)(f2:Y_Family):DN Zc3 N (aO,f2,())=Zdn N aO f2:=by
  conv=>rhs;rw[Zdn];simp(disch:=exact id (by kernel_rfl)) only[Zlm (R:=Unit×Km) N (CF Zc3 N [1,1,0,1,0])]
  kernel_rfl
theorem Zpu(N:Nat):GW 13 (Zg9 N):=GF Zc3 N Tryz.func13 (GC (Zeg N) (GC (Zfy N) (GC (Zrq N) (GC (Zhr N) Wb)))) (λd=>Zpt N d.1 d.2.1)
def Zha(N:Nat):Sig:=Sig.of [.v Jf false,.v Jg false] [.v Jw false] (λd=>Zc0 N d.1 d.2.1)
def Zfa:Fn:=⟨Tryz.f70,λ |5=>[.canon [5,18,19,20,21]]|6=>[.canon [5,7,18,19,20]]|7=>[.canon [5,18,19,20]]|8=>[.canon [5,18,19,20]]|100005=>[.canon [5,18,19,20]]|_=>[],Zha,λN=>[(67,Zar N),(69,Zcm N),(68,Zan N)]⟩
def Zln(t6:List Kb)(t8:Int)(l9:List Int):St:=⟨[(5,vO 0),(18,vV Jg t6),(19,vI (We t6)),(20,vI t8)],[(0,.arr Ja l9)],1⟩
def Zkb(t6:List Kb)(aN:Int)(aV:Bool)(aR:List Int):St:=⟨[(5,vO 0),(18,vV Jg t6),(19,vI (We t6)),(20,vI aN),(21,vB aV)],[(0,.arr Ja aR)],1⟩
theorem Zlo(N:Nat){R:Type}(K:Ex->St->Option R){t6:List Kb}{K0:Int->Bool->Kh->Option R}(h0:K0= λaN aV aR=>K (.exit 0) (Zkb t6 aN aV aR))(n:Nat)(t8:Int)(l9:List Int):Za8 N t6 K0 n t8 l9=LM Zfa N 0 100005 n (Zln t6 t8 l9) K:=by
  subst h0
  induction n generalizing t8 l9 with
  |zero=>kernel_rfl
  |succ n ih=>rw[Za8];simp only[ih];kernel_rfl
theorem Zpv(N:Nat)(br:List Int)(l2:List Kb):DN Zfa N (br,l2,())=Zc0 N br l2:=by
  conv=>rhs;rw[Zc0];simp(disch:=exact id (by kernel_rfl)) only[Zlo (R:=Unit×Ko) N (CF Zfa N [1,1,1,0,1,0])]
  kernel_rfl
theorem Zpw(N:Nat):GW 70 (Zha N):=GF Zfa N Tryz.func70 (GC (Zcf N) (GC (Zef N) (GC (Zbs N) Wb))) (λd=>Zpv N d.1 d.2.1)
def Zgq(N:Nat):Sig:=Sig.of [.v Jf false,.v (TY_Family) true,.v Ja false] [.v Jw false] (λd=>Zck N d.1 d.2.1 d.2.2.1)
def Zgr:Fn:=⟨Tryz.f21,λ |5=>[.canon [2,4,7,24,25,26,27]]|6=>[.canon [2,4,7,8,9,24,25,26]]|7=>[.canon [2,4,7,9,24,25,26,50]]|8=>[.canon [2,4,7,24,25,26]]|9=>[.canon [2,4,7,24,25,26]]|100005=>[.canon [2,4,7,24,25,26]]|_=>[],Zgq,λN=>[(67,Zar N),(69,Zcm N),(70,Zha N),(51,Z4 N)]⟩
def Zol(n7:Int)(t8:List Int)(aN:Int)(aI:Y_Family)(aR:List Int):St:=⟨[(2,vI n7),(4,vP 0 0),(7,vO 1),(24,vV Jf t8),(25,vI (We aI.2.2.2.2.2.2.2.1)),(26,vI aN)],[(0,.box [.val Ja aI.1,.val Ja aI.2.1,.val Ja aI.2.2.1,.val Jc aI.2.2.2.1,.val Jf aI.2.2.2.2.1,.val Jg aI.2.2.2.2.2.1,.val Jo aI.2.2.2.2.2.2.1,.val Jf aI.2.2.2.2.2.2.2.1,.val Jg aI.2.2.2.2.2.2.2.2.1,.val Jd aI.2.2.2.2.2.2.2.2.2]),(1,.arr Ja aR)],2⟩
def Znh(n7:Int)(t8:List Int)(aI:Y_Family)(om:Int)(qW:Bool)(bf:List Int):St:=⟨[(2,vI n7),(4,vP 0 0),(7,vO 1),(24,vV Jf t8),(25,vI (We aI.2.2.2.2.2.2.2.1)),(26,vI om),(27,vB qW)],[(0,.box [.val Ja aI.1,.val Ja aI.2.1,.val Ja aI.2.2.1,.val Jc aI.2.2.2.1,.val Jf aI.2.2.2.2.1,.val Jg aI.2.2.2.2.2.1,.val Jo aI.2.2.2.2.2.2.1,.val Jf aI.2.2.2.2.2.2.2.1,.val Jg aI.2.2.2.2.2.2.2.2.1,.val Jd aI.2.2.2.2.2.2.2.2.2]),(1,.arr Ja bf)],2⟩
theorem Zom(N:Nat){R:Type}(K:Ex->St->Option R){n7:Int}{t8:List Int}{aI:Y_Family}{K0:Int->Bool->Kh->Option R}(h0:K0= λom qW bf=>K (.exit 0) (Znh n7 t8 aI om qW bf))(n:Nat)(aN:Int)(aR:List Int):Zal N n7 t8 aI K0 n aN aR=LM Zgr N 0 100005 n (Zol n7 t8 aN aI aR) K:=by
  subst h0
  induction n generalizing aN aR with
  |zero=>kernel_rfl
  |succ n ih=>rw[Zal];simp only[ih];kernel_rfl
theorem Zrr(N:Nat)(aO:List Int)(f2:Y_Family)(n3:Int):DN Zgr N (aO,f2,n3,())=Zck N aO f2 n3:=by
  conv=>rhs;rw[Zck];simp(disch:=exact id (by kernel_rfl)) only[Zom (R:=Unit×Ko) N (CF Zgr N [1,1,1,0,1,0])]
  kernel_rfl
theorem Zkc(N:Nat):GW 21 (Zgq N):=GF Zgr N Tryz.func21 (GC (Zcf N) (GC (Zef N) (GC (Zpw N) (GC (Zai N) Wb)))) (λd=>Zrr N d.1 d.2.1 d.2.2.1)
def Zhb(N:Nat):Sig:=Sig.of [.v Jf false,.v (TY_Family) true] [.v Jc false] (λd=>Zdo N d.1 d.2.1)
def Zc4:Fn:=⟨Tryz.f14,λ |4=>[.canon [0,3,15,16,17,18]]|5=>[.canon [0,3,6,15,16,17]]|6=>[.canon [0,3,6,7,15,16,17]]|7=>[.canon [0,3,7,15,16,17,27,28,29]]|8=>[.canon [0,3,7,15,16,17,27,28,29,30]]|9=>[.canon [0,3,7,9,15,16,17,27,28,29]]|10=>[.canon [0,3,7,15,16,17,27,28,29,46]]|11=>[.canon [4]]|12=>[.canon [0,3,7,15,16,17,27,28,29]]|13=>[.canon [0,3,15,16,17]]|100004=>[.canon [0,3,15,16,17]]|100008=>[.canon [0,3,7,15,16,17,27,28,29]]|_=>[],Zhb,λN=>[(21,Zgq N),(61,Zcl N)]⟩
def Zlp(bF:List Int)(aV:List Y_KidRun)(bG:Int)(bQ:Int)(cY:List Kc)(cE:Int)(aU:Y_Family)(bE:List Int):St:=⟨[(0,vV Jf bF),(3,vP 0 0),(7,vO 1),(15,vV Jd aV),(16,vI bG),(17,vI bQ),(27,vV Jo cY),(28,vI (We (Xc aV (Xb bQ) d_KidRun).2.2.2.2.2.2.2.1)),(29,vI cE)],[(0,.box [.val Ja aU.1,.val Ja aU.2.1,.val Ja aU.2.2.1,.val Jc aU.2.2.2.1,.val Jf aU.2.2.2.2.1,.val Jg aU.2.2.2.2.2.1,.val Jo aU.2.2.2.2.2.2.1,.val Jf aU.2.2.2.2.2.2.2.1,.val Jg aU.2.2.2.2.2.2.2.2.1,.val Jd aU.2.2.2.2.2.2.2.2.2]),(1,.arr Ja bE)],2⟩
def Zkd(bF:List Int)(aV:List Y_KidRun)(bG:Int)(bQ:Int)(cY:List Kc)(aU:Y_Family)(bE:List Int):St:=⟨[(4,vB false)],[],0⟩
def Zke(bF:List Int)(aV:List Y_KidRun)(bG:Int)(bQ:Int)(cY:List Kc)(aU:Y_Family)(bE:List Int)(eU:Int)(t22:Bool):St:=⟨[(0,vV Jf bF),(3,vP 0 0),(7,vO 1),(15,vV Jd aV),(16,vI bG),(17,vI bQ),(27,vV Jo cY),(28,vI (We (Xc aV (Xb bQ) d_KidRun).2.2.2.2.2.2.2.1)),(29,vI eU),(30,vB t22)],[(0,.box [.val Ja aU.1,.val Ja aU.2.1,.val Ja aU.2.2.1,.val Jc aU.2.2.2.1,.val Jf aU.2.2.2.2.1,.val Jg aU.2.2.2.2.2.1,.val Jo aU.2.2.2.2.2.2.1,.val Jf aU.2.2.2.2.2.2.2.1,.val Jg aU.2.2.2.2.2.2.2.2.1,.val Jd aU.2.2.2.2.2.2.2.2.2]),(1,.arr Ja bE)],2⟩
theorem Zlq(N:Nat){R:Type}(K:Ex->St->Option R){bF:List Int}{aV:List Y_KidRun}{bG:Int}{bQ:Int}{cY:List Kc}{aU:Y_Family}{bE:List Int}{K0:Option R}{K1:Int->Bool->Option R}(h0:K0=K .ret (Zkd bF aV bG bQ cY aU bE))(h1:K1= λeU t22=>K (.exit 2) (Zke bF aV bG bQ cY aU bE eU t22))(n:Nat)(cE:Int):Za9 N bF aV bG bQ cY aU bE K0 K1 n cE=LM Zc4 N 1 100008 n (Zlp bF aV bG bQ cY cE aU bE) K:=by
  subst h0 h1
  induction n generalizing cE with
  |zero=>kernel_rfl
  |succ n ih=>rw[Za9];simp only[ih];kernel_rfl
def Zlr(bU:List Int)(t5:List Y_KidRun)(t7:Int)(b8:Y_Family):St:=⟨[(0,vV Jf bU),(3,vP 0 0),(15,vV Jd t5),(16,vI (We b8.2.2.2.2.2.2.2.2.2)),(17,vI t7)],[(0,.box [.val Ja b8.1,.val Ja b8.2.1,.val Ja b8.2.2.1,.val Jc b8.2.2.2.1,.val Jf b8.2.2.2.2.1,.val Jg b8.2.2.2.2.2.1,.val Jo b8.2.2.2.2.2.2.1,.val Jf b8.2.2.2.2.2.2.2.1,.val Jg b8.2.2.2.2.2.2.2.2.1,.val Jd b8.2.2.2.2.2.2.2.2.2])],1⟩
def Zkf(bU:List Int)(t5:List Y_KidRun)(b8:Y_Family):St:=⟨[(4,vB false)],[],0⟩
def Zkg(bU:List Int)(t5:List Y_KidRun)(b8:Y_Family)(fS:Int)(gF:Bool):St:=⟨[(0,vV Jf bU),(3,vP 0 0),(15,vV Jd t5),(16,vI (We b8.2.2.2.2.2.2.2.2.2)),(17,vI fS),(18,vB gF)],[(0,.box [.val Ja b8.1,.val Ja b8.2.1,.val Ja b8.2.2.1,.val Jc b8.2.2.2.1,.val Jf b8.2.2.2.2.1,.val Jg b8.2.2.2.2.2.1,.val Jo b8.2.2.2.2.2.2.1,.val Jf b8.2.2.2.2.2.2.2.1,.val Jg b8.2.2.2.2.2.2.2.2.1,.val Jd b8.2.2.2.2.2.2.2.2.2])],1⟩
theorem Zls(N:Nat){R:Type}(K:Ex->St->Option R){bU:List Int}{t5:List Y_KidRun}{b8:Y_Family}{K0:Option R}{K1:Int->Bool->Option R}(h0:K0=K .ret (Zkf bU t5 b8))(h1:K1= λfS gF=>K (.exit 0) (Zkg bU t5 b8 fS gF))(n:Nat)(t7:Int):Zba N bU t5 b8 K0 K1 n t7=LM Zc4 N 0 100004 n (Zlr bU t5 t7 b8) K:=by
  subst h0 h1
  induction n generalizing t7 with
  |zero=>kernel_rfl
  |succ n ih=>rw[Zba];simp(disch:=exact id (by kernel_rfl)) only[ih,Zlq N (CL Zc4 N 0 100004 [1,1,0,0,1,1,1,0] n K)];kernel_rfl
theorem Zpx(N:Nat)(aO:List Int)(f2:Y_Family):DN Zc4 N (aO,f2,())=Zdo N aO f2:=by
  conv=>rhs;rw[Zdo];simp(disch:=exact id (by kernel_rfl)) only[Zls (R:=Unit×Km) N (CF Zc4 N [1,1,0,1,0])]
  kernel_rfl
theorem Zpy(N:Nat):GW 14 (Zhb N):=GF Zc4 N Tryz.func14 (GC (Zkc N) (GC (Zed N) Wb)) (λd=>Zpx N d.1 d.2.1)
def Zf6(N:Nat):Sig:=Sig.of [.v (TY_KidRun) true] [.v Jc false] (λd=>Zg1 N d.1)
def Zon:Fn:=⟨Tryz.f63,W4,Zf6,WcL⟩
theorem Zoo(N:Nat):GW 63 (Zf6 N):=GF Zon N Tryz.func63 Wb
def Zy(N:Nat):Sig:=Sig.of [.v Jd false,.clos 63 0] [.v Ja false] (λd=>Zn N d.1)
def Zp:Fn:=⟨Tryz.f121,λ |2=>[.canon [0,1,7,8,9]]|3=>[.canon [0,1,5,7,8]]|4=>[.canon [0,1,5,7,8,16]]|5=>[.canon [1,4]]|6=>[.canon [0,1,7,8]]|100002=>[.canon [0,1,7,8]]|_=>[],Zy,λN=>[(63,Zf6 N)]⟩
def Zby(s2:List Y_KidRun)(t4:Int):St:=⟨[(0,vV Jd s2),(1,.s (.one (.clos 63 []))),(7,vI (We s2)),(8,vI t4)],[],0⟩
def Zbt(s2:List Y_KidRun)(t7:Int):St:=⟨[(1,.s (.one (.clos 63 []))),(4,vI t7)],[],0⟩
def Zbu(s2:List Y_KidRun)(t8:Int)(t9:Bool):St:=⟨[(0,vV Jd s2),(1,.s (.one (.clos 63 []))),(7,vI (We s2)),(8,vI t8),(9,vB t9)],[],0⟩
theorem Zbz(N:Nat){R:Type}(K:Ex->St->Option R){s2:List Y_KidRun}{K0:Int->Option R}{K1:Int->Bool->Option R}(h0:K0= λt7=>K .ret (Zbt s2 t7))(h1:K1= λt8 t9=>K (.exit 0) (Zbu s2 t8 t9))(n:Nat)(t4:Int):Ze N s2 K0 K1 n t4=LM Zp N 0 100002 n (Zby s2 t4) K:=by
  subst h0 h1
  induction n generalizing t4 with
  |zero=>kernel_rfl
  |succ n ih=>rw[Ze];simp only[ih];kernel_rfl
theorem Zch(N:Nat)(s1:List Y_KidRun):DN Zp N (s1,())=Zn N s1:=by
  conv=>rhs;rw[Zn];simp(disch:=exact id (by kernel_rfl)) only[Zbz (R:=Unit×Kj) N (CF Zp N [1,0,1,0])]
  kernel_rfl
theorem Zci(N:Nat):GW 121 (Zy N):=GF Zp N Tryz.func121 (GC (Zoo N) Wb) (λd=>Zch N d.1)
def Zv(N:Nat):Sig:=Sig.of [.v Jd false,.clos 63 0] [.v Jc false] (λd=>Zw N d.1)
def Zb3:Fn:=⟨Tryz.f62,W4,Zv,λN=>[(121,Zy N)]⟩
theorem Zb4(N:Nat):GW 62 (Zv N):=GF Zb3 N Tryz.func62 (GC (Zci N) Wb)
def Zhc(N:Nat):Sig:=Sig.of [.v (TY_Family) true] [.v Jc false] (λd=>Zgc N d.1)
def Zpz:Fn:=⟨Tryz.f15,W4,Zhc,λN=>[(62,Zv N)]⟩
theorem Zp0(N:Nat):GW 15 (Zhc N):=GF Zpz N Tryz.func15 (GC (Zb4 N) Wb)
def Zhd(N:Nat):Sig:=Sig.of [.v Jf false,.v Ja false] [.v Jw false,.v Jc false] (λd=>Zex N d.1 d.2.1)
def Zc5:Fn:=⟨Tryz.f64,λ |4=>[.canon [0,1,6,7,8,16]]|5=>[.canon [0,1,6,7,8]]|6=>[.canon [0,1,6,7,8,9]]|7=>[.canon [0,1,6,7,8,9,33]]|8=>[.canon [4,5]]|9=>[.canon [0,1,6,7,8,9]]|10=>[.canon [0,1,6,7,8]]|12=>[.canon [1,6,7,10,44]]|13=>[.canon [1,6,7,10]]|14=>[.canon [1,6,7,10,51]]|15=>[.canon [1,6,7,10]]|100004=>[.canon [0,1,6,7,8]]|100012=>[.canon [1,6,7,10]]|_=>[],Zhd,λN=>[(57,Zcw N)]⟩
def Zlt(aw:List Int)(n4:Int)(i5:Int)(l6:List Int)(l7:List Bool):St:=⟨[(0,vV Jf aw),(1,vI n4),(6,vO 0),(7,vO 1),(8,vI i5)],[(0,.arr Ja l6),(1,.arr Jc l7)],2⟩
def Zkh(aw:List Int)(n4:Int)(l9:List Int):St:=⟨[(4,vO 0),(5,vB false)],[(0,.arr Ja l9)],1⟩
def Zki(aw:List Int)(n4:Int)(dq:Int)(aV:Bool)(aR:List Int)(dw:List Bool):St:=⟨[(0,vV Jf aw),(1,vI n4),(6,vO 0),(7,vO 1),(8,vI dq),(16,vB aV)],[(0,.arr Ja aR),(1,.arr Jc dw)],2⟩
theorem Zlu(N:Nat){R:Type}(K:Ex->St->Option R){aw:List Int}{n4:Int}{K0:Kh->Option R}{K1:Int->Bool->Kh->(List Bool)->Option R}(h0:K0= λl9=>K .ret (Zkh aw n4 l9))(h1:K1= λdq aV aR dw=>K (.exit 0) (Zki aw n4 dq aV aR dw))(n:Nat)(i5:Int)(l6:List Int)(l7:List Bool):Zea N aw n4 K0 K1 n i5 l6 l7=LM Zc5 N 0 100004 n (Zlt aw n4 i5 l6 l7) K:=by
  subst h0 h1
  induction n generalizing i5 l6 l7 with
  |zero=>kernel_rfl
  |succ n ih=>rw[Zea];simp only[ih];kernel_rfl
def Zlv(ik:Int)(fZ:Int)(bb:List Int)(bj:List Bool):St:=⟨[(1,vI ik),(6,vO 0),(7,vO 1),(10,vI fZ)],[(0,.arr Ja bb),(1,.arr Jc bj)],2⟩
def Zkj(ik:Int)(bj:List Bool)(qX:Int)(t25:Bool)(ep:List Int):St:=⟨[(1,vI ik),(6,vO 0),(7,vO 1),(10,vI qX),(44,vB t25)],[(0,.arr Ja ep),(1,.arr Jc bj)],2⟩
theorem Zlw(N:Nat){R:Type}(K:Ex->St->Option R){ik:Int}{bj:List Bool}{K0:Int->Bool->Kh->Option R}(h0:K0= λqX t25 ep=>K (.exit 2) (Zkj ik bj qX t25 ep))(n:Nat)(fZ:Int)(bb:List Int):Zc9 N ik bj K0 n fZ bb=LM Zc5 N 1 100012 n (Zlv ik fZ bb bj) K:=by
  subst h0
  induction n generalizing fZ bb with
  |zero=>kernel_rfl
  |succ n ih=>rw[Zc9];simp only[ih];kernel_rfl
theorem Zp1(N:Nat)(ey:List Int)(n2:Int):DN Zc5 N (ey,n2,())=Zex N ey n2:=by
  conv=>rhs;rw[Zex];simp(disch:=exact id (by kernel_rfl)) only[Zlu (R:=Unit×(Kh×Km)) N (CF Zc5 N [1,1,1,0,1,0]),Zlw (R:=Unit×(Kh×Km)) N (CF Zc5 N [1,1,1,1,0,1,0])]
  kernel_rfl
theorem Zp2(N:Nat):GW 64 (Zhd N):=GF Zc5 N Tryz.func64 (GC (Zd7 N) Wb) (λd=>Zp1 N d.1 d.2.1)
def Zhe(N:Nat):Sig:=Sig.of [.v Jf false] [.v Jw false] (λd=>Zf9 N d.1)
def Zp3:Fn:=⟨Tryz.f65,W4,Zhe,WcL⟩
theorem Zp4(N:Nat):GW 65 (Zhe N):=GF Zp3 N Tryz.func65 Wb
def Zhu(N:Nat):Sig:=Sig.of [.v Ju true] [.v (.prod Jw (.prod Jw Ja)) true] (λd=>Zdi N d.1)
def Zqy:Fn:=⟨Tryz.f170,W4,Zhu,WcL⟩
theorem Zqz(N:Nat):GW 170 (Zhu N):=GF Zqy N Tryz.func170 Wb
def Zh6(N:Nat):Sig:=Sig.of [.v Jl false,.v Ja false] [.v Ja false] (λd=>Zep N d.1 d.2.1)
def Zgs:Fn:=⟨Tryz.f171,λ |5=>[.canon [0,5,6,27]]|6=>[.canon [0,5,6]]|7=>[.canon [0,5,6,35]]|8=>[.canon [0,5,6]]|9=>[.canon [0,5,6,43]]|10=>[.canon [0,5,6]]|11=>[.canon [0,5,6,47]]|12=>[.canon [4]]|100005=>[.canon [0,5,6]]|_=>[],Zh6,WcL⟩
def Zop(ad:List Ka)(d4:Int)(k5:Int):St:=⟨[(0,vV Jl ad),(5,vI d4),(6,vI k5)],[],0⟩
def Zni(ad:List Ka)(t6:Int):St:=⟨[(4,vI t6)],[],0⟩
def Znj(ad:List Ka)(d7:Int)(k8:Int)(t9:Bool):St:=⟨[(0,vV Jl ad),(5,vI d7),(6,vI k8),(27,vB t9)],[],0⟩
theorem Zoq(N:Nat){R:Type}(K:Ex->St->Option R){ad:List Ka}{K0:Int->Option R}{K1:Int->Int->Bool->Option R}(h0:K0= λt6=>K .ret (Zni ad t6))(h1:K1= λd7 k8 t9=>K (.exit 0) (Znj ad d7 k8 t9))(n:Nat)(d4:Int)(k5:Int):Zaa N ad K0 K1 n d4 k5=LM Zgs N 0 100005 n (Zop ad d4 k5) K:=by
  subst h0 h1
  induction n generalizing d4 k5 with
  |zero=>kernel_rfl
  |succ n ih=>rw[Zaa];simp only[ih];kernel_rfl
theorem Zrs(N:Nat)(ac:List Ka)(i2:Int):DN Zgs N (ac,i2,())=Zep N ac i2:=by
  conv=>rhs;rw[Zep];simp(disch:=exact id (by kernel_rfl)) only[Zoq (R:=Unit×Kj) N (CF Zgs N [1,1,1,0,1,0])]
  kernel_rfl
theorem Zrt(N:Nat):GW 171 (Zh6 N):=GF Zgs N Tryz.func171 Wb (λd=>Zrs N d.1 d.2.1)
def Zig(N:Nat):Sig:=Sig.of [.v Jq true,.v Jf false] [.v Jw false,.v Jc false] (λd=>Zh7 N d.1 d.2.1)
def Zr2:Fn:=⟨Tryz.f172,W4,Zig,λN=>[(160,Zff N),(55,Zeh N)]⟩
theorem Zr3(N:Nat):GW 172 (Zig N):=GF Zr2 N Tryz.func172 (GC (Zif N) (GC (Zhq N) Wb))
def Zfb(N m:Nat):Sig:=Sig.of [.v Jl false,.v Jv false,.v Jf false,.v Jf false,.v Ju true] [.v (.prod Ja (.prod Jw (.prod Jw (.prod Jw Ja)))) true] (λd=>Zag N m d.1 d.2.1 d.2.2.1 d.2.2.2.1 d.2.2.2.2.1)
def Zja(N:Nat):Sig:=Zfb N N
def Zbx(m:Nat):Fn:=⟨Tryz.f107,λ |6=>[.canon [0,1,2,3,9,10,11,12,13,37]]|7=>[.canon [0,1,2,3,9,10,11,12,13,14]]|8=>[.canon [0,1,2,3,9,10,11,12,13,14,15]]|9=>[.canon [0,1,2,3,9,10,11,12,13,14,15,45]]|10=>[.canon [0,1,2,9,10,11,12,15,24]]|11=>[.canon [0,1,2,3,9,10,11,12,15]]|12=>[.canon [0,1,2,3,9,10,11,12,13,14,15,45,53]]|13=>[.canon [0,1,2,3,9,10,11,12,15]]|14=>[.canon [0,1,2,3,9,10,11,12,13,14,15,45,65]]|15=>[.canon [0,1,2,3,9,10,11,12,15]]|16=>[.canon [0,1,2,3,9,10,11,12,13,14,15,45,77]]|17=>[.canon [0,1,2,3,9,10,11,12,14,15,84]]|18=>[.canon [0,1,2,3,9,10,11,12,15]]|19=>[.canon [0,1,2,3,9,10,11,12,13,14,15,45,89]]|20=>[.canon [0,1,2,3,9,10,11,12,15]]|21=>[.canon [0,1,2,3,9,10,11,12,14,15,45,101]]|22=>[.canon [0,1,2,3,9,10,11,12,15,16]]|23=>[.canon [0,1,2,3,9,10,11,12,15,16]]|24=>[.canon [0,1,2,3,9,10,11,12,15]]|25=>[.canon [0,1,2,3,9,10,11,12,14,15,45,122]]|26=>[.canon [0,1,2,3,9,10,11,12,126]]|27=>[.canon [10]]|28=>[.canon [0,1,2,9,10,11,12,17]]|29=>[.canon [0,1,2,9,10,11,12,17]]|30=>[.canon [0,1,2,3,9,10,11,12,17]]|31=>[.canon [0,1,2,3,9,10,11,12,17]]|32=>[.canon [0,1,2,3,9,10,11,12,17]]|33=>[.canon [0,1,2,3,9,10,11,12,15]]|34=>[.canon [0,1,2,3,9,10,11,12,14,15,45,161]]|35=>[.canon [0,1,2,3,9,10,11,12,15,18]]|36=>[.canon [0,1,2,3,9,10,11,12,15,18,19]]|37=>[.canon [0,1,2,3,9,10,11,12,15,18,19,169]]|38=>[.canon [0,1,2,3,9,10,11,12,15,18,19]]|39=>[.canon [0,1,2,3,9,10,11,12,15,18,19,20]]|40=>[.canon [0,1,2,3,9,10,11,12,15,18,19,20]]|41=>[.canon [0,1,2,3,9,10,11,12,15,18,19,20,187]]|42=>[.canon [0,1,2,3,9,10,11,12,15,18,19]]|43=>[.canon [0,1,2,3,9,10,11,12,15,18,21]]|44=>[.canon [0,1,2,3,9,10,11,12,15,18,21,201]]|45=>[.canon [0,1,2,3,9,10,11,12,15,18,21]]|46=>[.canon [0,1,2,3,9,10,11,12,15,18,21]]|47=>[.canon [0,1,2,3,9,10,11,12,14,15,45,211]]|48=>[.canon [0,1,2,3,9,10,11,12,14,15,22]]|49=>[.canon [0,1,2,3,9,10,11,12,14,15,22]]|50=>[.canon [0,1,2,3,9,10,11,12,15]]|51=>[.canon [0,1,2,3,9,10,11,12,14,15,45,236]]|52=>[.canon [0,1,2,3,9,10,11,12,15]]|53=>[.canon [0,1,2,3,9,10,11,12,14,15,45,249]]|54=>[.canon [0,1,2,3,9,10,11,12,14,15,23]]|55=>[.canon [0,1,2,3,9,10,11,12,14,15,23]]|56=>[.canon [0,1,2,3,9,10,11,12,15]]|57=>[.canon [0,1,2,3,9,10,11,12,14,15,45,268]]|58=>[.canon [0,1,2,3,9,10,11,12,15]]|59=>[.canon [0,1,2,3,9,10,11,12,14,15,280]]|60=>[.canon [0,1,2,3,9,10,11,12,15]]|61=>[.canon [0,1,2,3,9,10,11,12,13]]|100006=>[.canon [0,1,2,3,9,10,11,12,13]]|100037=>[.canon [0,1,2,3,9,10,11,12,15,18,19]]|100044=>[.canon [0,1,2,3,9,10,11,12,15,18,21]]|_=>[],λN=>Zfb N (m+1),λN=>[(170,Zhu N),(171,Zh6 N),(107,Zfb N m),(172,Zig N)]⟩
def Znk(bs:List Ka)(aQ:List Kl)(an:List Int)(bt:Int)(bR:Int)(cI:List Int)(jN:Int)(il:Int)(im:Int)(io:Int)(ip:List Kg)(c5:List Int)(c6:List Int)(dt:List Int)(bW:List Int)(ci:List Int):St:=⟨[(0,vV Jl bs),(1,vV Jv aQ),(2,vV Jf an),(3,vO 0),(9,vP 1 0),(10,vP 2 0),(11,vP 3 0),(12,vO 4),(15,vI bt),(18,vO 5),(19,vI bR)],[(0,.arr Ja cI),(1,.box [.own 6,.own 7,.val Ja jN]),(2,.box [.val Ja il,.nils,.nils,.nils,.val Ja im]),(3,.box [.own 8,.own 9,.val Ja io]),(4,.arr Jn ip),(5,.arr Ja c5),(6,.arr Ja c6),(7,.arr Ja dt),(8,.arr Ja bW),(9,.arr Ja ci)],10⟩
def Zlx(bs:List Ka)(aQ:List Kl)(an:List Int)(bt:Int)(cI:List Int)(il:Int)(im:Int)(io:Int)(ip:List Kg)(bW:List Int)(ci:List Int)(qY:Int)(dW:Bool)(jU:Int)(iQ:List Int)(iR:List Int)(lN:List Int):St:=⟨[(0,vV Jl bs),(1,vV Jv aQ),(2,vV Jf an),(3,vO 0),(9,vP 1 0),(10,vP 2 0),(11,vP 3 0),(12,vO 4),(15,vI bt),(18,vO 5),(19,vI qY),(169,vB dW)],[(0,.arr Ja cI),(1,.box [.own 6,.own 7,.val Ja jU]),(2,.box [.val Ja il,.nils,.nils,.nils,.val Ja im]),(3,.box [.own 8,.own 9,.val Ja io]),(4,.arr Jn ip),(5,.arr Ja iQ),(6,.arr Ja iR),(7,.arr Ja lN),(8,.arr Ja bW),(9,.arr Ja ci)],10⟩
theorem Znl(N m:Nat){R:Type}(K:Ex->St->Option R){bs:List Ka}{aQ:List Kl}{an:List Int}{bt:Int}{cI:List Int}{il:Int}{im:Int}{io:Int}{ip:List Kg}{bW:List Int}{ci:List Int}{K0:Int->Bool->Int->Kh->Kh->Kh->Option R}(h0:K0= λqY dW jU iQ iR lN=>K (.exit 3) (Zlx bs aQ an bt cI il im io ip bW ci qY dW jU iQ iR lN))(n:Nat)(bR:Int)(jN:Int)(c5:List Int)(c6:List Int)(dt:List Int):Zbr N (Zag N m) bs aQ an bt cI il im io ip bW ci K0 n bR jN c5 c6 dt=LM (Zbx m) N 1 100037 n (Znk bs aQ an bt bR cI jN il im io ip c5 c6 dt bW ci) K:=by
  subst h0
  induction n generalizing bR jN c5 c6 dt with
  |zero=>kernel_rfl
  |succ n ih=>rw[Zbr];simp only[ih];kernel_rfl
def Znm(bX:List Ka)(bY:List Kl)(bC:List Int)(bZ:Int)(gH:Int)(de:List Int)(jO:Int)(jP:Int)(jQ:Int)(jR:Int)(df:List Kg)(eZ:List Int)(dF:List Int)(dG:List Int)(dH:List Int)(jS:List Int):St:=⟨[(0,vV Jl bX),(1,vV Jv bY),(2,vV Jf bC),(3,vO 0),(9,vP 1 0),(10,vP 2 0),(11,vP 3 0),(12,vO 4),(15,vI bZ),(18,vO 5),(21,vI gH)],[(0,.arr Ja de),(1,.box [.own 6,.own 7,.val Ja jO]),(2,.box [.val Ja jP,.nils,.nils,.nils,.val Ja jQ]),(3,.box [.own 8,.own 9,.val Ja jR]),(4,.arr Jn df),(5,.arr Ja eZ),(6,.arr Ja dF),(7,.arr Ja dG),(8,.arr Ja dH),(9,.arr Ja jS)],10⟩
def Zly(bX:List Ka)(bY:List Kl)(bC:List Int)(bZ:Int)(jO:Int)(jP:Int)(jQ:Int)(jR:Int)(df:List Kg)(eZ:List Int)(dF:List Int)(dG:List Int)(dH:List Int)(jS:List Int)(qZ:Int)(q8:Bool)(q9:List Int):St:=⟨[(0,vV Jl bX),(1,vV Jv bY),(2,vV Jf bC),(3,vO 0),(9,vP 1 0),(10,vP 2 0),(11,vP 3 0),(12,vO 4),(15,vI bZ),(18,vO 5),(21,vI qZ),(201,vB q8)],[(0,.arr Ja q9),(1,.box [.own 6,.own 7,.val Ja jO]),(2,.box [.val Ja jP,.nils,.nils,.nils,.val Ja jQ]),(3,.box [.own 8,.own 9,.val Ja jR]),(4,.arr Jn df),(5,.arr Ja eZ),(6,.arr Ja dF),(7,.arr Ja dG),(8,.arr Ja dH),(9,.arr Ja jS)],10⟩
theorem Znn(N m:Nat){R:Type}(K:Ex->St->Option R){bX:List Ka}{bY:List Kl}{bC:List Int}{bZ:Int}{jO:Int}{jP:Int}{jQ:Int}{jR:Int}{df:List Kg}{eZ:List Int}{dF:List Int}{dG:List Int}{dH:List Int}{jS:List Int}{K0:Int->Bool->Kh->Option R}(h0:K0= λqZ q8 q9=>K (.exit 5) (Zly bX bY bC bZ jO jP jQ jR df eZ dF dG dH jS qZ q8 q9))(n:Nat)(gH:Int)(de:List Int):Zem N (Zag N m) bX bY bC bZ jO jP jQ jR df eZ dF dG dH jS K0 n gH de=LM (Zbx m) N 2 100044 n (Znm bX bY bC bZ gH de jO jP jQ jR df eZ dF dG dH jS) K:=by
  subst h0
  induction n generalizing gH de with
  |zero=>kernel_rfl
  |succ n ih=>rw[Zem];simp only[ih];kernel_rfl
def Zno(ae:List Ka)(aF:List Kl)(ao:List Int)(ak:Int)(aR:List Int)(aW:Int)(aT:Int)(aJ:List Kg)(bE:List Int)(bd:List Int)(be:List Int)(bf:List Int):St:=⟨[(0,vV Jl ae),(1,vV Jv aF),(2,vV Jf ao),(3,vO 0),(9,vP 1 0),(10,vP 2 0),(11,vP 3 0),(12,vO 4),(13,vI ak)],[(0,.arr Ja aR),(1,.box [.own 5,.own 6,.val Ja aW]),(2,.box [.val Ja (0:Int),.nils,.nils,.nils,.val Ja (0:Int)]),(3,.box [.own 7,.own 8,.val Ja aT]),(4,.arr Jn aJ),(5,.arr Ja bE),(6,.arr Ja bd),(7,.arr Ja be),(8,.arr Ja bf)],9⟩
def Zlz(ae:List Ka)(aF:List Kl)(ao:List Int)(aT:Int)(be:List Int)(bf:List Int)(ra:List Int):St:=⟨[(10,vP 0 0)],[(0,.box [.val Ja (2:Int),.own 1,.own 2,.own 3,.val Ja aT]),(1,.arr Ja ra),(2,.arr Ja be),(3,.arr Ja bf)],4⟩
def Zl0(ae:List Ka)(aF:List Kl)(ao:List Int)(aT:Int)(be:List Int)(bf:List Int)(lO:Int)(rb:Bool)(rc:List Int)(re:Int)(rf:List Kg)(rh:List Int)(lP:List Int):St:=⟨[(0,vV Jl ae),(1,vV Jv aF),(2,vV Jf ao),(3,vO 0),(9,vP 1 0),(10,vP 2 0),(11,vP 3 0),(12,vO 4),(13,vI lO),(37,vB rb)],[(0,.arr Ja rc),(1,.box [.own 5,.own 6,.val Ja re]),(2,.box [.val Ja (0:Int),.nils,.nils,.nils,.val Ja (0:Int)]),(3,.box [.own 7,.own 8,.val Ja aT]),(4,.arr Jn rf),(5,.arr Ja rh),(6,.arr Ja lP),(7,.arr Ja be),(8,.arr Ja bf)],9⟩
theorem Znp(N m:Nat){R:Type}(K:Ex->St->Option R){ae:List Ka}{aF:List Kl}{ao:List Int}{aT:Int}{be:List Int}{bf:List Int}{K0:Kh->Option R}{K1:Int->Bool->Kh->Int->(List Kg)->Kh->Kh->Option R}(h0:K0= λra=>K .ret (Zlz ae aF ao aT be bf ra))(h1:K1= λlO rb rc re rf rh lP=>K (.exit 0) (Zl0 ae aF ao aT be bf lO rb rc re rf rh lP))(n:Nat)(ak:Int)(aR:List Int)(aW:Int)(aJ:List Kg)(bE:List Int)(bd:List Int):Zm N (Zag N m) ae aF ao aT be bf K0 K1 n ak aR aW aJ bE bd=LM (Zbx m) N 0 100006 n (Zno ae aF ao ak aR aW aT aJ bE bd be bf) K:=by
  subst h0 h1
  induction n generalizing ak aR aW aJ bE bd with
  |zero=>kernel_rfl
  |succ n ih=>rw[Zm];simp(disch:=exact id (by kernel_rfl)) only[ih,Znl N m (CL (Zbx m) N 0 100006 [1,0,1,1,0,1,0,1,1,1,1,1,1,1,1,1,1,1,1,1,0,1,0,1,0] n K),Znn N m (CL (Zbx m) N 0 100006 [1,0,1,1,0,1,0,1,1,1,1,1,1,1,1,1,1,1,1,1,0,1,1,1,0] n K)];kernel_rfl
theorem Zq0(N m:Nat)(ac:List Ka)(dZ:List Kl)(aw:List Int)(dA:List Int)(s5:List Int×List Int×Int):DN (Zbx m) N (ac,dZ,aw,dA,s5,())=Zag N (m+1) ac dZ aw dA s5:=by
  conv=>rhs;rw[Zag];simp(disch:=exact id (by kernel_rfl)) only[Znp (R:=Unit×(Kg×Unit)) N m (CF (Zbx m) N [1,1,1,1,1,1,0,0])]
  kernel_rfl
theorem Zit(N:Nat):∀m,GW 107 (Zfb N m)
  |0=>⟨WcB Tryz.func107 (show Wmj Tryz.f107=true by kernel_rfl),λd o h=>nomatch (show none=some o from h)⟩
  |m+1=>GF (Zbx m) N Tryz.func107 (GC (Zqz N) (GC (Zrt N) (GC (Zit N m) (GC (Zr3 N) Wb)))) (λd=>Zq0 N m d.1 d.2.1 d.2.2.1 d.2.2.2.1 d.2.2.2.2.1)
theorem Zq1(N:Nat):GW 107 (Zja N):=Zit N N
def Zf7(N:Nat):Sig:=Sig.of [.v Jl false,.v Jf false,.v Jf false] [.v Ja false,.v Jw false,.v Jw false] (λd=>Ze2 N d.1 d.2.1 d.2.2.1)
def Zor:Fn:=⟨Tryz.f66,W4,Zf7,λN=>[(58,Zgl N),(55,Zeh N),(54,Zcn N),(107,Zja N)]⟩
theorem Zos(N:Nat):GW 66 (Zf7 N):=GF Zor N Tryz.func66 (GC (Zj4 N) (GC (Zhq N) (GC (Zeg N) (GC (Zq1 N) Wb))))
def Zf8(N:Nat):Sig:=Sig.of [.v Jr true,.v Jf false] [.v Jw false,.v Jw false] (λd=>Zc2 N d.1 d.2.1)
def Zej:Fn:=⟨Tryz.f16,λ |9=>[.canon [2,6,8,9,10,42]]|10=>[.canon [2,6,8,9,10]]|11=>[.canon [2,6,9,10,11,12,13]]|12=>[.canon [2,6,8,9,10,11,12]]|13=>[.canon [2,6,8,9,10,11,12]]|14=>[.canon [2,6,8,9,10,12,70]]|15=>[.canon [2,6,8,9,10]]|100009=>[.canon [2,6,8,9,10]]|_=>[],Zf8,λN=>[(12,Zgn N),(64,Zhd N),(19,Zdv N),(65,Zhe N),(66,Zf7 N)]⟩
def Zjk(i7:Int)(b8:List Int×List Int×List Kb×List Kl×List Int)(l9:List Int)(ce:List Int)(au:List Int):St:=⟨[(2,vP 0 0),(6,vO 1),(8,vO 2),(9,vO 3),(10,vI i7)],[(0,.box [.val Jf b8.1,.val Jf b8.2.1,.val Jg b8.2.2.1,.val Jv b8.2.2.2.1,.val Jf b8.2.2.2.2]),(1,.arr Ja l9),(2,.arr Ja ce),(3,.arr Ja au)],4⟩
def Zi7(b8:List Int×List Int×List Kb×List Kl×List Int)(l9:List Int)(ri:Int)(fo:Bool)(dn:List Int)(aJ:List Int):St:=⟨[(2,vP 0 0),(6,vO 1),(8,vO 2),(9,vO 3),(10,vI ri),(42,vB fo)],[(0,.box [.val Jf b8.1,.val Jf b8.2.1,.val Jg b8.2.2.1,.val Jv b8.2.2.2.1,.val Jf b8.2.2.2.2]),(1,.arr Ja l9),(2,.arr Ja dn),(3,.arr Ja aJ)],4⟩
theorem Zjl(N:Nat){R:Type}(K:Ex->St->Option R){b8:List Int×List Int×List Kb×List Kl×List Int}{l9:List Int}{K0:Int->Bool->Kh->Kh->Option R}(h0:K0= λri fo dn aJ=>K (.exit 0) (Zi7 b8 l9 ri fo dn aJ))(n:Nat)(i7:Int)(ce:List Int)(au:List Int):Zah N b8 l9 K0 n i7 ce au=LM Zej N 0 100009 n (Zjk i7 b8 l9 ce au) K:=by
  subst h0
  induction n generalizing i7 ce au with
  |zero=>kernel_rfl
  |succ n ih=>rw[Zah];simp only[ih];kernel_rfl
theorem Zot(N:Nat)(s1:List Int×List Int×List Kb×List Kl×List Int)(eA:List Int):DN Zej N (s1,eA,())=Zc2 N s1 eA:=by
  conv=>rhs;rw[Zc2];simp(disch:=exact id (by kernel_rfl)) only[Zjl (R:=Unit×(Kh×Ko)) N (CF Zej N [1,1,1,1,1,1,0,1,0])]
  kernel_rfl
theorem Zou(N:Nat):GW 16 (Zf8 N):=GF Zej N Tryz.func16 (GC (Zj5 N) (GC (Zp2 N) (GC (Zg8 N) (GC (Zp4 N) (GC (Zos N) Wb))))) (λd=>Zot N d.1 d.2.1)
def Zhf(N:Nat):Sig:=Sig.of [.v (TY_Family) true] [.v Jw false] (λd=>Zdl N d.1)
def Zfc:Fn:=⟨Tryz.f18,λ |5=>[.canon [3,20,21,22,23]]|6=>[.canon [3,4,5,20,21,22]]|7=>[.canon [3,4,5,20,21,22]]|8=>[.canon [3,4,5,20,21,22,37]]|9=>[.canon [3,20,21,22]]|10=>[.canon [3,20,21,22]]|100005=>[.canon [3,20,21,22]]|_=>[],Zhf,λN=>[(67,Zar N),(68,Zan N)]⟩
def Zl1(t4:List Y_KidRun)(t5:Int)(t6:Int)(l7:List Int):St:=⟨[(3,vO 0),(20,vV Jd t4),(21,vI t5),(22,vI t6)],[(0,.arr Ja l7)],1⟩
def Zkk(t4:List Y_KidRun)(t5:Int)(aN:Int)(aV:Bool)(aR:List Int):St:=⟨[(3,vO 0),(20,vV Jd t4),(21,vI t5),(22,vI aN),(23,vB aV)],[(0,.arr Ja aR)],1⟩
theorem Zl2(N:Nat){R:Type}(K:Ex->St->Option R){t4:List Y_KidRun}{t5:Int}{K0:Int->Bool->Kh->Option R}(h0:K0= λaN aV aR=>K (.exit 0) (Zkk t4 t5 aN aV aR))(n:Nat)(t6:Int)(l7:List Int):Zaf N t4 t5 K0 n t6 l7=LM Zfc N 0 100005 n (Zl1 t4 t5 t6 l7) K:=by
  subst h0
  induction n generalizing t6 l7 with
  |zero=>kernel_rfl
  |succ n ih=>rw[Zaf];simp only[ih];kernel_rfl
theorem Zp5(N:Nat)(f1:Y_Family):DN Zfc N (f1,())=Zdl N f1:=by
  conv=>rhs;rw[Zdl];simp(disch:=exact id (by kernel_rfl)) only[Zl2 (R:=Unit×Ko) N (CF Zfc N [1,1,1,0,1,0])]
  kernel_rfl
theorem Zp6(N:Nat):GW 18 (Zhf N):=GF Zfc N Tryz.func18 (GC (Zcf N) (GC (Zbs N) Wb)) (λd=>Zp5 N d.1)
def Zgy(N:Nat):Sig:=Sig.of [.v Jf false,.v Jf false] [.v Jc false] (λd=>Zbv N d.1 d.2.1)
def Zeo:Fn:=⟨Tryz.f17,λ |4=>[.canon [0,1,5,14]]|5=>[.canon [0,1,5]]|6=>[.canon [0,1,5,25]]|7=>[.canon [4]]|100004=>[.canon [0,1,5]]|_=>[],Zgy,WcL⟩
def Zkl(a3:List Int)(b4:List Int)(i5:Int):St:=⟨[(0,vV Jf a3),(1,vV Jf b4),(5,vI i5)],[],0⟩
def Zjm(a3:List Int)(b4:List Int):St:=⟨[(4,vB false)],[],0⟩
def Zjn(a3:List Int)(b4:List Int)(i6:Int)(t7:Bool):St:=⟨[(0,vV Jf a3),(1,vV Jf b4),(5,vI i6),(14,vB t7)],[],0⟩
theorem Zkm(N:Nat){R:Type}(K:Ex->St->Option R){a3:List Int}{b4:List Int}{K0:Option R}{K1:Int->Bool->Option R}(h0:K0=K .ret (Zjm a3 b4))(h1:K1= λi6 t7=>K (.exit 0) (Zjn a3 b4 i6 t7))(n:Nat)(i5:Int):Zax N a3 b4 K0 K1 n i5=LM Zeo N 0 100004 n (Zkl a3 b4 i5) K:=by
  subst h0 h1
  induction n generalizing i5 with
  |zero=>kernel_rfl
  |succ n ih=>rw[Zax];simp only[ih];kernel_rfl
theorem Zo7(N:Nat)(a1:List Int)(b2:List Int):DN Zeo N (a1,b2,())=Zbv N a1 b2:=by
  conv=>rhs;rw[Zbv];simp(disch:=exact id (by kernel_rfl)) only[Zkm (R:=Unit×Km) N (CF Zeo N [1,1,0,1,0])]
  kernel_rfl
theorem Zo8(N:Nat):GW 17 (Zgy N):=GF Zeo N Tryz.func17 Wb (λd=>Zo7 N d.1 d.2.1)
def Zhg(N:Nat):Sig:=Sig.of [.v (TY_Family) true] [.v Ji false] (λd=>Zdm N d.1)
def Zfd:Fn:=⟨Tryz.f20,λ |3=>[.canon [3,8,9,10,11]]|4=>[.canon [3,5,8,9,10]]|5=>[.canon [3,8,9,10]]|6=>[.canon [3,8,9,10]]|100003=>[.canon [3,8,9,10]]|_=>[],Zhg,WcL⟩
def Zl3(t2:List Kc)(t3:Int)(t4:Int)(l5:List Kb):St:=⟨[(3,vO 0),(8,vV Jo t2),(9,vI t3),(10,vI t4)],[(0,.arr Jm l5)],1⟩
def Zkn(t2:List Kc)(t3:Int)(t6:Int)(t7:Bool)(l8:List Kb):St:=⟨[(3,vO 0),(8,vV Jo t2),(9,vI t3),(10,vI t6),(11,vB t7)],[(0,.arr Jm l8)],1⟩
theorem Zl4(N:Nat){R:Type}(K:Ex->St->Option R){t2:List Kc}{t3:Int}{K0:Int->Bool->Kq->Option R}(h0:K0= λt6 t7 l8=>K (.exit 0) (Zkn t2 t3 t6 t7 l8))(n:Nat)(t4:Int)(l5:List Kb):Za4 N t2 t3 K0 n t4 l5=LM Zfd N 0 100003 n (Zl3 t2 t3 t4 l5) K:=by
  subst h0
  induction n generalizing t4 l5 with
  |zero=>kernel_rfl
  |succ n ih=>rw[Za4];simp only[ih];kernel_rfl
theorem Zp7(N:Nat)(f1:Y_Family):DN Zfd N (f1,())=Zdm N f1:=by
  conv=>rhs;rw[Zdm];simp(disch:=exact id (by kernel_rfl)) only[Zl4 (R:=Unit×Kx) N (CF Zfd N [1,1,0,1,0])]
  kernel_rfl
theorem Zp8(N:Nat):GW 20 (Zhg N):=GF Zfd N Tryz.func20 Wb (λd=>Zp7 N d.1)
def Zih(N:Nat):Sig:=Sig.of [.v Jb false] [.v Jc false] (λd=>Zec N d.1)
def Zo9:Fn:=⟨Tryz.f3,W4,Zih,λN=>[(9,Zin N),(10,Ze4 N),(11,Zfk N),(12,Zgn N),(13,Zg9 N),(14,Zhb N),(15,Zhc N),(16,Zf8 N),(18,Zhf N),(17,Zgy N),(20,Zhg N),(19,Zdv N),(21,Zgq N)]⟩
set_option maxRecDepth 100000 in theorem Zpa (N:Nat):GW 3 (Zih N):=GF Zo9 N Tryz.func3 (GC (Zr5 N) (GC (Zkt N) (GC (Zm1 N) (GC (Zj5 N) (GC (Zpu N) (GC (Zpy N) (GC (Zp0 N) (GC (Zou N) (GC (Zp6 N) (GC (Zo8 N) (GC (Zp8 N) (GC (Zg8 N) (GC (Zkc N) Wb)))))))))))))
end
end Go.Sx
