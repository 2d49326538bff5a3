/- Each Go function does what its Lean function says. -/
import Derived.Test.YtajmpbmmfponlaaGreatT
import Derived.Test.YtajmpbmmfponlaaGreatProg
import Derived.Test.YtajmpbmmfponlaaGreatLay
open Bool renaming and_eq_true→Xh
namespace Go.Sx
noncomputable section
open Go.Proofs
abbrev Ja:Ty:=.int .i64
abbrev Jb:Ty:=.prod Ja (.prod Ja Ja)
abbrev Jc:Ty:=.slice (.prod Ja Ja)
abbrev Jd:Ty:=.own (.prod Ja Ja)
abbrev Je:Ty:=.slice Ja
abbrev Jf:Ty:=.prod Ja (.prod Ja (.own Ja))
abbrev Jg:Ty:=.prod Ja (.prod Ja (.prod Ja (.prod Ja (.prod Ja (.prod Ja (.prod (.own Ja) (.prod (.own Jb) (.prod Jd (.prod (.own Jf) (.prod (.bool) (.prod Ja Jb)))))))))))
abbrev Jh:Ty:=.slice (.prod Ja Jb)
abbrev Ji:Ty:=.prod Ja (.prod Ja (.prod Ja (.prod (.bool) (.prod (.own Ja) (.prod Jd (.prod (.slice Jb) (.prod (.own Ja) (.prod Jd (.own (TY_KidRun))))))))))
abbrev Jj:Ty:=.prod Ja Ja
abbrev Jk:Ty:=.prod Ja (.prod Ja (.prod Ja (.prod (.bool) (.prod (.own Ja) (.prod Jd (.prod (.own Jb) (.prod (.own Ja) (.prod Jd (.own Jg)))))))))
abbrev Jl:Ty:=.slice Jb
abbrev Jm:Ty:=.prod Ja Jb
abbrev Jn:Ty:=.prod Je (.prod Je (.prod Jc (.prod (.slice Jh) Je)))
abbrev Jo:Ty:=.slice (.prod Ja (.prod Ja Je))
abbrev Jp:Ty:=.prod Ja (.own Jb)
abbrev Jq:Ty:=.slice (TY_KidRun)
abbrev Jr:Ty:=.bool
abbrev Js:Ty:=.slice Jh
abbrev Jt:Ty:=.prod Ja Jl
abbrev Ju:Ty:=.prod Ja (.prod Ja Je)
abbrev Jv:Ty:=.own Ja
abbrev Jw:Ty:=.own Jm
set_option linter.unusedVariables false
set_option linter.unusedSimpArgs false
def tab:Tab:=[(3,⟨.int .i64,false,.basic⟩),(4,⟨.bool,false,.basic⟩),(24,⟨.slice Ja,false,.slice 3⟩),(25,⟨.slice Jj,false,.slice 97⟩),(26,⟨.slice Jh,false,.slice 72⟩),(28,⟨.prod Je (.prod Je (.prod Jc (.prod Js Je))),true,.struct [(0,24),(1,24),(2,25),(3,26),(4,24)]⟩),(30,⟨.slice Jb,false,.slice 76⟩),(32,⟨.prod Ja Jl,true,.struct [(0,3),(1,30)]⟩),(33,⟨.slice Jb,false,.slice 86⟩),(34,⟨.slice (TY_KidRun),false,.slice 84⟩),(36,⟨TY_Family,true,.struct [(0,3),(1,3),(2,3),(3,4),(4,24),(5,25),(6,33),(7,24),(8,25),(9,34)]⟩),(49,⟨.slice Jj,false,.slice 146⟩),(50,⟨.slice Jh,false,.slice 139⟩),(52,⟨.prod Je (.prod Je (.prod Jc (.prod Js Je))),true,.struct [(0,24),(1,24),(2,49),(3,50),(4,24)]⟩),(70,⟨.slice Jm,false,.slice 128⟩),(72,⟨.slice Jm,true,.struct [(0,70)]⟩),(76,⟨.prod Ja Jj,true,.struct [(0,3),(1,3),(2,3)]⟩),(80,⟨.slice Ju,false,.slice 167⟩),(82,⟨.prod Ja Jb,true,.struct [(0,3),(1,3),(2,3),(3,3)]⟩),(84,⟨TY_KidRun,true,.struct [(0,3),(1,3),(2,3),(3,3),(4,3),(5,3),(6,24),(7,33),(8,25),(9,80),(10,4),(11,82)]⟩),(86,⟨.prod Ja Jj,true,.struct [(0,3),(1,3),(2,3)]⟩),(97,⟨.prod Ja Ja,true,.struct [(0,3),(1,3)]⟩),(128,⟨.prod Ja Jb,true,.struct [(0,3),(1,3),(2,3),(3,3)]⟩),(137,⟨.slice Jm,false,.slice 195⟩),(139,⟨.slice Jm,true,.struct [(0,137)]⟩),(146,⟨.prod Ja Ja,true,.struct [(0,3),(1,3)]⟩),(167,⟨.prod Ja (.prod Ja Je),true,.struct [(0,3),(1,3),(2,24)]⟩),(195,⟨.prod Ja Jb,true,.struct [(0,3),(1,3),(2,3),(3,3)]⟩)]
theorem mixedOk:Tryz.prog.follows .mixedOrders=true:=by kernel_rfl
theorem tabOk:WW Tryz.prog tab:=Wqk (show WiZ Tryz.prog tab tab=true by kernel_rfl)
def LM(x:Fn)(N:Nat){R:Type}(i k n:Nat)(st:St)(K:Ex->St->Option R):Option R:=lpM tab (x.c N) x.a N x.F i k n st K
def CF(x:Fn)(N:Nat)(p:List Nat):Ex->St->Option (Qs (x.s N)):=cxF tab (x.c N) x.a N (x.s N) x.F p
def CL(x:Fn)(N:Nat){R:Type}(i k:Nat)(p:List Nat)(n:Nat)(K:Ex->St->Option R):Ex->St->Option R:=cxL tab (x.c N) x.a N x.F i k p n K
def DN(x:Fn)(N:Nat)(d:WdG (x.s N).ps):Option (Qs (x.s N)):=den (R:=Qs (x.s N)) tab (x.c N) x.a N (x.s N) x.F d some
def GW(k:FuncId)(s:Sig):Prop:=WeA Tryz.prog k/\Good Tryz.prog k s
theorem GC{k:FuncId}{s:Sig}{Γ:Ctx}(h:GW k s)(hc:Wdu Tryz.prog Γ):Wdu Tryz.prog ((k,s)::Γ):=WoG h.2 h.1 hc
theorem GF(x:Fn){k:FuncId}(N:Nat)(hf:Tryz.prog.funcs[k]?=some x.F)(hc:Wdu Tryz.prog (x.c N))(h:∀d,DN x N d=(x.s N).run d:=by intro d;kernel_rfl)(bn:(WoA x.F&&Wkd x.F (x.s N).ps)=true:=by kernel_rfl):GW k (x.s N):=
  ⟨Wf4 hf (Xh .. ▸bn).1,WnN mixedOk tabOk hc hf (Xh .. ▸bn).2 (λd _ e=>⟨N,(h d).trans e⟩)⟩
def Zi4(N:Nat):Sig:=Sig.of [.v Je false,.v Ja false] [.v Ja false] (λd=>Zed N d.1 d.2.1)
def Zum:Fn:=⟨Tryz.f54,WI,Zi4,Waw⟩
theorem Zun(N:Nat):GW 54 (Zi4 N):=GF Zum N Tryz.func54 Wa
def Zi5(N:Nat):Sig:=Sig.of [.v Jc false,.v Ja false] [.v Ja false] (λd=>Zib N d.1 d.2.1)
def Zuo:Fn:=⟨Tryz.f55,WI,Zi5,Waw⟩
theorem Zup(N:Nat):GW 55 (Zi5 N):=GF Zuo N Tryz.func55 Wa
def Zju(N:Nat):Sig:=Sig.of [.v Jh false,.v Ja false] [.v Ja false] (λd=>Ziy N d.1 d.2.1)
def Zvr:Fn:=⟨Tryz.f141,WI,Zju,Waw⟩
theorem Zvs(N:Nat):GW 141 (Zju N):=GF Zvr N Tryz.func141 Wa
def Zjv(N:Nat):Sig:=Sig.of [.v Jh true,.v Ja false] [.v Ja false] (λd=>Ziz N d.1 d.2.1)
def Zvt:Fn:=⟨Tryz.f99,WI,Zjv,λN=>[(141,Zju N)]⟩
theorem Zvu(N:Nat):GW 99 (Zjv N):=GF Zvt N Tryz.func99 (GC (Zvs N) Wa)
def Zi6(N:Nat):Sig:=Sig.of [.v Js false,.v Ja false] [.v Ja false] (λd=>Zee N d.1 d.2.1)
def Zgp:Fn:=⟨Tryz.f56,λ |5=>[.canon [0,1,5,15]]|6=>[.canon [0,1,5]]|7=>[.canon [0,1,5]]|8=>[.canon [0,1,5,25]]|9=>[.canon [4]]|100005=>[.canon [0,1,5]]|_=>[],Zi6,λN=>[(99,Zjv N)]⟩
def Zpv(a3:List Kj)(cq:Int)(i5:Int):St:=⟨[(0,vV Js a3),(1,vI cq),(5,vI i5)],[],0⟩
def Zn7(a3:List Kj):St:=⟨[(4,vI (-1:Int))],[],0⟩
def Zn8(a3:List Kj)(gi:Int)(i8:Int)(t9:Bool):St:=⟨[(0,vV Js a3),(1,vI gi),(5,vI i8),(15,vB t9)],[],0⟩
theorem Zpw(N:Nat){R:Type}(K:Ex->St->Option R){a3:List Kj}{K0:Option R}{K1:Int->Int->Bool->Option R}(h0:K0=K .ret (Zn7 a3))(h1:K1= λgi i8 t9=>K (.exit 0) (Zn8 a3 gi i8 t9))(n:Nat)(cq:Int)(i5:Int):Zbd N a3 K0 K1 n cq i5=LM Zgp N 0 100005 n (Zpv a3 cq i5) K:=by
  subst h0 h1
  induction n generalizing cq i5 with
  |zero=>kernel_rfl
  |succ n ih=>rw[Zbd];simp only[ih];kernel_rfl
theorem Zuq(N:Nat)(a1:List Kj)(aQ:Int):DN Zgp N (a1,aQ,())=Zee N a1 aQ:=by
  conv=>rhs;rw[Zee];simp(disch:=exact id (by kernel_rfl)) only[Zpw (R:=Unit×Kg) N (CF Zgp N [1,1,1,0,1,0])]
  kernel_rfl
theorem Zur(N:Nat):GW 56 (Zi6 N):=GF Zgp N Tryz.func56 (GC (Zvu N) Wa) (λd=>Zuq N d.1 d.2.1)
def Zf1(N:Nat):Sig:=Sig.of [.v Jn true,.v Ja false] [.v Ja false] (λd=>Zeo N d.1 d.2.1)
def Zn9:Fn:=⟨Tryz.f18,WI,Zf1,λN=>[(54,Zi4 N),(55,Zi5 N),(56,Zi6 N)]⟩
theorem Zoa(N:Nat):GW 18 (Zf1 N):=GF Zn9 N Tryz.func18 (GC (Zun N) (GC (Zup N) (GC (Zur N) Wa)))
def Zi7(N:Nat):Sig:=Sig.of [.v Je false] [.v Jv false] (λd=>Zcr N d.1)
def Zgq:Fn:=⟨Tryz.f61,λ |3=>[.canon [0,3,4,11]]|4=>[.canon [0,3,4]]|5=>[.canon [0,3,4]]|100003=>[.canon [0,3,4]]|_=>[],Zi7,Waw⟩
def Zpx(a2:List Int)(i3:Int)(l4:List Int):St:=⟨[(0,vV Je a2),(3,vO 0),(4,vI i3)],[(0,.arr Ja l4)],1⟩
def Zob(a2:List Int)(i5:Int)(t6:Bool)(l7:List Int):St:=⟨[(0,vV Je a2),(3,vO 0),(4,vI i5),(11,vB t6)],[(0,.arr Ja l7)],1⟩
theorem Zpy(N:Nat){R:Type}(K:Ex->St->Option R){a2:List Int}{K0:Int->Bool->Kh->Option R}(h0:K0= λi5 t6 l7=>K (.exit 0) (Zob a2 i5 t6 l7))(n:Nat)(i3:Int)(l4:List Int):Zbe N a2 K0 n i3 l4=LM Zgq N 0 100003 n (Zpx a2 i3 l4) K:=by
  subst h0
  induction n generalizing i3 l4 with
  |zero=>kernel_rfl
  |succ n ih=>rw[Zbe];simp only[ih];kernel_rfl
theorem Zus(N:Nat)(a1:List Int):DN Zgq N (a1,())=Zcr N a1:=by
  conv=>rhs;rw[Zcr];simp(disch:=exact id (by kernel_rfl)) only[Zpy (R:=Unit×(Kh×Unit)) N (CF Zgq N [1,1,0,1,0])]
  kernel_rfl
theorem Zut(N:Nat):GW 61 (Zi7 N):=GF Zgq N Tryz.func61 Wa (λd=>Zus N d.1)
def Zjw(N:Nat):Sig:=Sig.of [.v Jj true] [.v Jj true] (λd=>Zi0 N d.1)
def Zvv:Fn:=⟨Tryz.f107,WI,Zjw,Waw⟩
theorem Zvw(N:Nat):GW 107 (Zjw N):=GF Zvv N Tryz.func107 Wa
def Zi8(N:Nat):Sig:=Sig.of [.v Jc false] [.v Jd false] (λd=>Zef N d.1)
def Zgr:Fn:=⟨Tryz.f62,λ |3=>[.canon [0,3,4,11]]|4=>[.canon [0,3,4]]|5=>[.canon [0,3,4]]|100003=>[.canon [0,3,4]]|_=>[],Zi8,λN=>[(107,Zjw N)]⟩
def Zpz(a2:List Kc)(i3:Int)(l4:List Kc):St:=⟨[(0,vV Jc a2),(3,vO 0),(4,vI i3)],[(0,.arr Jj l4)],1⟩
def Zoc(a2:List Kc)(i6:Int)(t7:Bool)(l8:List Kc):St:=⟨[(0,vV Jc a2),(3,vO 0),(4,vI i6),(11,vB t7)],[(0,.arr Jj l8)],1⟩
theorem Zp0(N:Nat){R:Type}(K:Ex->St->Option R){a2:List Kc}{K0:Int->Bool->Kn->Option R}(h0:K0= λi6 t7 l8=>K (.exit 0) (Zoc a2 i6 t7 l8))(n:Nat)(i3:Int)(l4:List Kc):Zbf N a2 K0 n i3 l4=LM Zgr N 0 100003 n (Zpz a2 i3 l4) K:=by
  subst h0
  induction n generalizing i3 l4 with
  |zero=>kernel_rfl
  |succ n ih=>rw[Zbf];simp only[ih];kernel_rfl
theorem Zuu(N:Nat)(a1:List Kc):DN Zgr N (a1,())=Zef N a1:=by
  conv=>rhs;rw[Zef];simp(disch:=exact id (by kernel_rfl)) only[Zp0 (R:=Unit×Kq) N (CF Zgr N [1,1,0,1,0])]
  kernel_rfl
theorem Zuv(N:Nat):GW 62 (Zi8 N):=GF Zgr N Tryz.func62 (GC (Zvw N) Wa) (λd=>Zuu N d.1)
def Zkj(N:Nat):Sig:=Sig.of [.v Jm true] [.v Jm true] (λd=>Zkd N d.1)
def Zwv:Fn:=⟨Tryz.f162,WI,Zkj,Waw⟩
theorem Zww(N:Nat):GW 162 (Zkj N):=GF Zwv N Tryz.func162 Wa
def Zjx(N:Nat):Sig:=Sig.of [.v Jh false] [.v Jw false] (λd=>Zfj N d.1)
def Zho:Fn:=⟨Tryz.f145,λ |3=>[.canon [0,3,4,11]]|4=>[.canon [0,3,4]]|5=>[.canon [0,3,4]]|100003=>[.canon [0,3,4]]|_=>[],Zjx,λN=>[(162,Zkj N)]⟩
def Zrs(a2:List Ka)(i3:Int)(l4:List Ka):St:=⟨[(0,vV Jh a2),(3,vO 0),(4,vI i3)],[(0,.arr Jm l4)],1⟩
def Zp1(a2:List Ka)(i6:Int)(t7:Bool)(l8:List Ka):St:=⟨[(0,vV Jh a2),(3,vO 0),(4,vI i6),(11,vB t7)],[(0,.arr Jm l8)],1⟩
theorem Zrt(N:Nat){R:Type}(K:Ex->St->Option R){a2:List Ka}{K0:Int->Bool->Kj->Option R}(h0:K0= λi6 t7 l8=>K (.exit 0) (Zp1 a2 i6 t7 l8))(n:Nat)(i3:Int)(l4:List Ka):Zb6 N a2 K0 n i3 l4=LM Zho N 0 100003 n (Zrs a2 i3 l4) K:=by
  subst h0
  induction n generalizing i3 l4 with
  |zero=>kernel_rfl
  |succ n ih=>rw[Zb6];simp only[ih];kernel_rfl
theorem Zvx(N:Nat)(a1:List Ka):DN Zho N (a1,())=Zfj N a1:=by
  conv=>rhs;rw[Zfj];simp(disch:=exact id (by kernel_rfl)) only[Zrt (R:=Unit×(Kj×Unit)) N (CF Zho N [1,1,0,1,0])]
  kernel_rfl
theorem Zvy(N:Nat):GW 145 (Zjx N):=GF Zho N Tryz.func145 (GC (Zww N) Wa) (λd=>Zvx N d.1)
def Zjy(N:Nat):Sig:=Sig.of [.v Jh true] [.v Jw true] (λd=>Zi1 N d.1)
def Zvz:Fn:=⟨Tryz.f108,WI,Zjy,λN=>[(145,Zjx N)]⟩
theorem Zv0(N:Nat):GW 108 (Zjy N):=GF Zvz N Tryz.func108 (GC (Zvy N) Wa)
def Zi9(N:Nat):Sig:=Sig.of [.v Js false] [.v (.own Jw) false] (λd=>Zeg N d.1)
def Zgs:Fn:=⟨Tryz.f63,λ |1=>[.nest 7 Jw]|3=>[.canon [0,3,4,11]]|4=>[.canon [0,3,4]]|5=>[.canon [0,3,4]]|100003=>[.canon [0,3,4]]|_=>[],Zi9,λN=>[(108,Zjy N)]⟩
def Zp2(a2:List Kj)(i3:Int)(l4:List Kj):St:=⟨[(0,vV Js a2),(3,vO 0),(4,vI i3)],[(0,.arr Jw l4)],1⟩
def Zod(a2:List Kj)(i6:Int)(t7:Bool)(l8:List Kj):St:=⟨[(0,vV Js a2),(3,vO 0),(4,vI i6),(11,vB t7)],[(0,.arr Jw l8)],1⟩
theorem Zp3(N:Nat){R:Type}(K:Ex->St->Option R){a2:List Kj}{K0:Int->Bool->Ks->Option R}(h0:K0= λi6 t7 l8=>K (.exit 0) (Zod a2 i6 t7 l8))(n:Nat)(i3:Int)(l4:List Kj):Zbg N a2 K0 n i3 l4=LM Zgs N 0 100003 n (Zp2 a2 i3 l4) K:=by
  subst h0
  induction n generalizing i3 l4 with
  |zero=>kernel_rfl
  |succ n ih=>rw[Zbg];simp only[ih];kernel_rfl
theorem Zuw(N:Nat)(a1:List Kj):DN Zgs N (a1,())=Zeg N a1:=by
  conv=>rhs;rw[Zeg];simp(disch:=exact id (by kernel_rfl)) only[Zp3 (R:=Unit×(Ks×Unit)) N (CF Zgs N [1,1,0,1,0])]
  kernel_rfl
theorem Zux(N:Nat):GW 63 (Zi9 N):=GF Zgs N Tryz.func63 (GC (Zv0 N) Wa) (λd=>Zuw N d.1)
def Zf2(N:Nat):Sig:=Sig.of [.v Jn true] [.v (.prod Jv (.prod Jv (.prod Jd (.prod (.own Jw) Jv)))) true] (λd=>Zaz N d.1)
def Zoe:Fn:=⟨Tryz.f20,WI,Zf2,λN=>[(61,Zi7 N),(62,Zi8 N),(63,Zi9 N)]⟩
theorem Zof(N:Nat):GW 20 (Zf2 N):=GF Zoe N Tryz.func20 (GC (Zut N) (GC (Zuv N) (GC (Zux N) Wa)))
def Za6(N:Nat):Sig:=Sig.of [.v Ja false,.v Ja false,.v Ja false] [.v Jr false] (λd=>Zl N d.1 d.2.1 d.2.2.1)
def Zwx:Fn:=⟨Tryz.f40,WI,Za6,Waw⟩
theorem Zct(N:Nat):GW 40 (Za6 N):=GF Zwx N Tryz.func40 Wa
def Zci(N:Nat):Sig:=Sig.of [.v Ja false] [.v Jr false] (λd=>Zbz N d.1)
def Zv1:Fn:=⟨Tryz.f92,WI,Zci,λN=>[(40,Za6 N)]⟩
theorem Zdv(N:Nat):GW 92 (Zci N):=GF Zv1 N Tryz.func92 (GC (Zct N) Wa)
def Zgt(N:Nat):Sig:=Sig.of [.v Je false] [.v Jr false] (λd=>Zde N d.1)
def Zgu:Fn:=⟨Tryz.f37,λ |4=>[.canon [0,3,10]]|5=>[.canon [0,3]]|6=>[.canon [0,3,18]]|7=>[.canon [2]]|100004=>[.canon [0,3]]|_=>[],Zgt,λN=>[(92,Zci N)]⟩
def Zp4(l2:List Int)(i3:Int):St:=⟨[(0,vV Je l2),(3,vI i3)],[],0⟩
def Zog(l2:List Int):St:=⟨[(2,vB false)],[],0⟩
def Zoh(l2:List Int)(i5:Int)(t6:Bool):St:=⟨[(0,vV Je l2),(3,vI i5),(10,vB t6)],[],0⟩
theorem Zp5(N:Nat){R:Type}(K:Ex->St->Option R){l2:List Int}{K0:Option R}{K1:Int->Bool->Option R}(h0:K0=K .ret (Zog l2))(h1:K1= λi5 t6=>K (.exit 0) (Zoh l2 i5 t6))(n:Nat)(i3:Int):Zbh N l2 K0 K1 n i3=LM Zgu N 0 100004 n (Zp4 l2 i3) K:=by
  subst h0 h1
  induction n generalizing i3 with
  |zero=>kernel_rfl
  |succ n ih=>rw[Zbh];simp only[ih];kernel_rfl
theorem Zuy(N:Nat)(l1:List Int):DN Zgu N (l1,())=Zde N l1:=by
  conv=>rhs;rw[Zde];simp(disch:=exact id (by kernel_rfl)) only[Zp5 (R:=Unit×Kk) N (CF Zgu N [1,1,0,1,0])]
  kernel_rfl
theorem Zl6(N:Nat):GW 37 (Zgt N):=GF Zgu N Tryz.func37 (GC (Zdv N) Wa) (λd=>Zuy N d.1)
def Zgv(N:Nat):Sig:=Sig.of [.v Je false] [.v Jr false] (λd=>Zdf N d.1)
def Zgw:Fn:=⟨Tryz.f38,λ |4=>[.canon [0,3,10]]|5=>[.canon [0,3]]|6=>[.canon [0,3,18]]|7=>[.canon [2]]|100004=>[.canon [0,3]]|_=>[],Zgv,λN=>[(92,Zci N)]⟩
def Zp6(l2:List Int)(i3:Int):St:=⟨[(0,vV Je l2),(3,vI i3)],[],0⟩
def Zoi(l2:List Int):St:=⟨[(2,vB false)],[],0⟩
def Zoj(l2:List Int)(i5:Int)(t6:Bool):St:=⟨[(0,vV Je l2),(3,vI i5),(10,vB t6)],[],0⟩
theorem Zp7(N:Nat){R:Type}(K:Ex->St->Option R){l2:List Int}{K0:Option R}{K1:Int->Bool->Option R}(h0:K0=K .ret (Zoi l2))(h1:K1= λi5 t6=>K (.exit 0) (Zoj l2 i5 t6))(n:Nat)(i3:Int):Zbi N l2 K0 K1 n i3=LM Zgw N 0 100004 n (Zp6 l2 i3) K:=by
  subst h0 h1
  induction n generalizing i3 with
  |zero=>kernel_rfl
  |succ n ih=>rw[Zbi];simp only[ih];kernel_rfl
theorem Zuz(N:Nat)(l1:List Int):DN Zgw N (l1,())=Zdf N l1:=by
  conv=>rhs;rw[Zdf];simp(disch:=exact id (by kernel_rfl)) only[Zp7 (R:=Unit×Kk) N (CF Zgw N [1,1,0,1,0])]
  kernel_rfl
theorem Zl7(N:Nat):GW 38 (Zgv N):=GF Zgw N Tryz.func38 (GC (Zdv N) Wa) (λd=>Zuz N d.1)
def Zeu(N:Nat):Sig:=Sig.of [.v Ja false] [.v Jr false] (λd=>Zb2 N d.1)
def Zu0:Fn:=⟨Tryz.f43,WI,Zeu,λN=>[(40,Za6 N)]⟩
theorem Zja(N:Nat):GW 43 (Zeu N):=GF Zu0 N Tryz.func43 (GC (Zct N) Wa)
def Zgx(N:Nat):Sig:=Sig.of [.v Jc false] [.v Jr false] (λd=>Zdg N d.1)
def Zgy:Fn:=⟨Tryz.f39,λ |4=>[.canon [0,3,10]]|5=>[.canon [0,3]]|6=>[.canon [0,3,28]]|7=>[.canon [2]]|100004=>[.canon [0,3]]|_=>[],Zgx,λN=>[(43,Zeu N),(92,Zci N)]⟩
def Zp8(l2:List Kc)(i3:Int):St:=⟨[(0,vV Jc l2),(3,vI i3)],[],0⟩
def Zok(l2:List Kc):St:=⟨[(2,vB false)],[],0⟩
def Zol(l2:List Kc)(i6:Int)(t7:Bool):St:=⟨[(0,vV Jc l2),(3,vI i6),(10,vB t7)],[],0⟩
theorem Zp9(N:Nat){R:Type}(K:Ex->St->Option R){l2:List Kc}{K0:Option R}{K1:Int->Bool->Option R}(h0:K0=K .ret (Zok l2))(h1:K1= λi6 t7=>K (.exit 0) (Zol l2 i6 t7))(n:Nat)(i3:Int):Zbj N l2 K0 K1 n i3=LM Zgy N 0 100004 n (Zp8 l2 i3) K:=by
  subst h0 h1
  induction n generalizing i3 with
  |zero=>kernel_rfl
  |succ n ih=>rw[Zbj];simp only[ih];kernel_rfl
theorem Zu1(N:Nat)(l1:List Kc):DN Zgy N (l1,())=Zdg N l1:=by
  conv=>rhs;rw[Zdg];simp(disch:=exact id (by kernel_rfl)) only[Zp9 (R:=Unit×Kk) N (CF Zgy N [1,1,0,1,0])]
  kernel_rfl
theorem Zl8(N:Nat):GW 39 (Zgx N):=GF Zgy N Tryz.func39 (GC (Zja N) (GC (Zdv N) Wa)) (λd=>Zu1 N d.1)
def Zjz(N:Nat):Sig:=Sig.of [.v Ja false] [.v Jr false] (λd=>Ze N d.1)
def Zv2:Fn:=⟨Tryz.f160,WI,Zjz,λN=>[(40,Za6 N)]⟩
theorem Zv3(N:Nat):GW 160 (Zjz N):=GF Zv2 N Tryz.func160 (GC (Zct N) Wa)
def Zgf(N:Nat):Sig:=Sig.of [.v Jm true] [.v Jr false] (λd=>Zc N d.1)
def Zwy:Fn:=⟨Tryz.f136,WI,Zgf,λN=>[(160,Zjz N),(92,Zci N),(43,Zeu N),(40,Za6 N)]⟩
theorem Zkk(N:Nat):GW 136 (Zgf N):=GF Zwy N Tryz.func136 (GC (Zv3 N) (GC (Zdv N) (GC (Zja N) (GC (Zct N) Wa))))
def Zjb(N:Nat):Sig:=Sig.of [.v Jh false,.v Ja false] [.v Jr false] (λd=>Zeh N d.1 d.2.1)
def Zgz:Fn:=⟨Tryz.f137,λ |6=>[.canon [0,5,6,7,24]]|7=>[.canon [0,5,6,7]]|8=>[.canon [0,5,6,7,32]]|9=>[.canon [0,5,6,7]]|10=>[.canon [0,5,6,7,40]]|11=>[.canon [0,5,6,7]]|12=>[.canon [0,5,6,7,44]]|13=>[.canon [4]]|100006=>[.canon [0,5,6,7]]|_=>[],Zjb,Waw⟩
def Zqa(aa:List Ka)(dN:Int)(d5:Int)(k6:Int):St:=⟨[(0,vV Jh aa),(5,vI dN),(6,vI d5),(7,vI k6)],[],0⟩
def Zom(aa:List Ka)(dN:Int):St:=⟨[(4,vB false)],[],0⟩
def Zon(aa:List Ka)(dN:Int)(d7:Int)(k8:Int)(t9:Bool):St:=⟨[(0,vV Jh aa),(5,vI dN),(6,vI d7),(7,vI k8),(24,vB t9)],[],0⟩
theorem Zqb(N:Nat){R:Type}(K:Ex->St->Option R){aa:List Ka}{dN:Int}{K0:Option R}{K1:Int->Int->Bool->Option R}(h0:K0=K .ret (Zom aa dN))(h1:K1= λd7 k8 t9=>K (.exit 0) (Zon aa dN d7 k8 t9))(n:Nat)(d5:Int)(k6:Int):Zq N aa dN K0 K1 n d5 k6=LM Zgz N 0 100006 n (Zqa aa dN d5 k6) K:=by
  subst h0 h1
  induction n generalizing d5 k6 with
  |zero=>kernel_rfl
  |succ n ih=>rw[Zq];simp only[ih];kernel_rfl
theorem Zu2(N:Nat)(ad:List Ka)(i2:Int):DN Zgz N (ad,i2,())=Zeh N ad i2:=by
  conv=>rhs;rw[Zeh];simp(disch:=exact id (by kernel_rfl)) only[Zqb (R:=Unit×Kk) N (CF Zgz N [1,1,1,1,0,1,0])]
  kernel_rfl
theorem Zu3(N:Nat):GW 137 (Zjb N):=GF Zgz N Tryz.func137 Wa (λd=>Zu2 N d.1 d.2.1)
def Zjc(N:Nat):Sig:=Sig.of [.v Jh false] [.v Jr false] (λd=>Zei N d.1)
def Zg0:Fn:=⟨Tryz.f93,λ |6=>[.canon [0,3,4,5,12]]|7=>[.canon [0,3,4,5]]|8=>[.canon [0,3,4,5,20]]|9=>[.canon [2]]|10=>[.canon [0,3,4,5,25]]|11=>[.canon [0,3,4,5,25,26]]|12=>[.canon [0,3,4,5]]|13=>[.canon [0,3,4,5,25,30]]|14=>[.canon [0,3,4,5]]|15=>[.canon [0,3,4,5,25,34]]|16=>[.canon [0,3,4,5,39]]|17=>[.canon [2]]|18=>[.canon [0,3,4,5,40]]|19=>[.canon [0,3,4,5]]|20=>[.canon [0,3,4,5,49]]|21=>[.canon [2]]|22=>[.canon [0,3,4,5,51]]|23=>[.canon [2]]|100006=>[.canon [0,3,4,5]]|_=>[],Zjc,λN=>[(136,Zgf N),(137,Zjb N)]⟩
def Zqc(ab:List Ka)(d3:Int)(am:Int)(i5:Int):St:=⟨[(0,vV Jh ab),(3,vI d3),(4,vI am),(5,vI i5)],[],0⟩
def Zoo(ab:List Ka):St:=⟨[(2,vB false)],[],0⟩
def Zop(ab:List Ka)(d8:Int)(eI:Int)(aL:Int)(aC:Bool):St:=⟨[(0,vV Jh ab),(3,vI d8),(4,vI eI),(5,vI aL),(12,vB aC)],[],0⟩
theorem Zqd(N:Nat){R:Type}(K:Ex->St->Option R){ab:List Ka}{K0:Option R}{K1:Int->Int->Int->Bool->Option R}(h0:K0=K .ret (Zoo ab))(h1:K1= λd8 eI aL aC=>K (.exit 0) (Zop ab d8 eI aL aC))(n:Nat)(d3:Int)(am:Int)(i5:Int):Zr N ab K0 K1 n d3 am i5=LM Zg0 N 0 100006 n (Zqc ab d3 am i5) K:=by
  subst h0 h1
  induction n generalizing d3 am i5 with
  |zero=>kernel_rfl
  |succ n ih=>rw[Zr];simp only[ih];kernel_rfl
theorem Zu4(N:Nat)(ad:List Ka):DN Zg0 N (ad,())=Zei N ad:=by
  conv=>rhs;rw[Zei];simp(disch:=exact id (by kernel_rfl)) only[Zqd (R:=Unit×Kk) N (CF Zg0 N [1,1,1,1,0,1,0])]
  kernel_rfl
theorem Zu5(N:Nat):GW 93 (Zjc N):=GF Zg0 N Tryz.func93 (GC (Zkk N) (GC (Zu3 N) Wa)) (λd=>Zu4 N d.1)
def Zii(N:Nat):Sig:=Sig.of [.v Jh false] [.v Jr false] (λd=>Zdq N d.1)
def Zf3:Fn:=⟨Tryz.f94,λ |2=>[.canon [0,3,7]]|3=>[.canon [0,3]]|4=>[.canon [0,3,15]]|5=>[.canon [2]]|100002=>[.canon [0,3]]|_=>[],Zii,Waw⟩
def Zoq(ab:List Ka)(i3:Int):St:=⟨[(0,vV Jh ab),(3,vI i3)],[],0⟩
def Zm2(ab:List Ka):St:=⟨[(2,vB true)],[],0⟩
def Zm3(ab:List Ka)(i4:Int)(t5:Bool):St:=⟨[(0,vV Jh ab),(3,vI i4),(7,vB t5)],[],0⟩
theorem Zor(N:Nat){R:Type}(K:Ex->St->Option R){ab:List Ka}{K0:Option R}{K1:Int->Bool->Option R}(h0:K0=K .ret (Zm2 ab))(h1:K1= λi4 t5=>K (.exit 0) (Zm3 ab i4 t5))(n:Nat)(i3:Int):Za0 N ab K0 K1 n i3=LM Zf3 N 0 100002 n (Zoq ab i3) K:=by
  subst h0 h1
  induction n generalizing i3 with
  |zero=>kernel_rfl
  |succ n ih=>rw[Za0];simp only[ih];kernel_rfl
theorem Ztm(N:Nat)(ad:List Ka):DN Zf3 N (ad,())=Zdq N ad:=by
  conv=>rhs;rw[Zdq];simp(disch:=exact id (by kernel_rfl)) only[Zor (R:=Unit×Kk) N (CF Zf3 N [1,0,1,0])]
  kernel_rfl
theorem Ztn(N:Nat):GW 94 (Zii N):=GF Zf3 N Tryz.func94 Wa (λd=>Ztm N d.1)
def Zij(N:Nat):Sig:=Sig.of [.v Jm true] [.v Ja false] (λd=>Zal N d.1)
def Zto:Fn:=⟨Tryz.f95,WI,Zij,λN=>[(136,Zgf N)]⟩
theorem Ztp(N:Nat):GW 95 (Zij N):=GF Zto N Tryz.func95 (GC (Zkk N) Wa)
def Zj0(N:Nat):Sig:=Sig.of [.v Jh false] [.v Jr false] (λd=>Zdw N d.1)
def Zhp:Fn:=⟨Tryz.f41,λ |4=>[.canon [0,3,14]]|5=>[.canon [0,3]]|6=>[.canon [0,3,22]]|7=>[.canon [2]]|100004=>[.canon [0,3]]|_=>[],Zj0,λN=>[(93,Zjc N),(94,Zii N),(95,Zij N)]⟩
def Zru(ak:List Ka)(i5:Int):St:=⟨[(0,vV Jh ak),(3,vI i5)],[],0⟩
def Zqe(ak:List Ka):St:=⟨[(2,vB false)],[],0⟩
def Zqf(ak:List Ka)(i7:Int)(t8:Bool):St:=⟨[(0,vV Jh ak),(3,vI i7),(14,vB t8)],[],0⟩
theorem Zrv(N:Nat){R:Type}(K:Ex->St->Option R){ak:List Ka}{K0:Option R}{K1:Int->Bool->Option R}(h0:K0=K .ret (Zqe ak))(h1:K1= λi7 t8=>K (.exit 0) (Zqf ak i7 t8))(n:Nat)(i5:Int):Zb7 N ak K0 K1 n i5=LM Zhp N 0 100004 n (Zru ak i5) K:=by
  subst h0 h1
  induction n generalizing i5 with
  |zero=>kernel_rfl
  |succ n ih=>rw[Zb7];simp only[ih];kernel_rfl
theorem Zv4(N:Nat)(ad:List Ka):DN Zhp N (ad,())=Zdw N ad:=by
  conv=>rhs;rw[Zdw];simp(disch:=exact id (by kernel_rfl)) only[Zrv (R:=Unit×Kk) N (CF Zhp N [1,1,0,1,0])]
  kernel_rfl
theorem Zv5(N:Nat):GW 41 (Zj0 N):=GF Zhp N Tryz.func41 (GC (Zu5 N) (GC (Ztn N) (GC (Ztp N) Wa))) (λd=>Zv4 N d.1)
def Zj1(N:Nat):Sig:=Sig.of [.v Jn true] [.v Jr false] (λd=>Zfk N d.1)
def Zhq:Fn:=⟨Tryz.f8,λ |4=>[.canon [1,3,37]]|5=>[.canon [1,3]]|6=>[.canon [1,3,47]]|7=>[.canon [2]]|100004=>[.canon [1,3]]|_=>[],Zj1,λN=>[(37,Zgt N),(38,Zgv N),(39,Zgx N),(40,Za6 N),(41,Zj0 N)]⟩
def Zrw(i6:Int)(b7:List Int×List Int×List Kc×List Kj×List Int):St:=⟨[(1,vP 0 0),(3,vI i6)],[(0,.box [.val Je b7.1,.val Je b7.2.1,.val Jc b7.2.2.1,.val Js b7.2.2.2.1,.val Je b7.2.2.2.2])],1⟩
def Zqg(b7:List Int×List Int×List Kc×List Kj×List Int):St:=⟨[(2,vB false)],[],0⟩
def Zqh(b7:List Int×List Int×List Kc×List Kj×List Int)(i9:Int)(aM:Bool):St:=⟨[(1,vP 0 0),(3,vI i9),(37,vB aM)],[(0,.box [.val Je b7.1,.val Je b7.2.1,.val Jc b7.2.2.1,.val Js b7.2.2.2.1,.val Je b7.2.2.2.2])],1⟩
theorem Zrx(N:Nat){R:Type}(K:Ex->St->Option R){b7:List Int×List Int×List Kc×List Kj×List Int}{K0:Option R}{K1:Int->Bool->Option R}(h0:K0=K .ret (Zqg b7))(h1:K1= λi9 aM=>K (.exit 0) (Zqh b7 i9 aM))(n:Nat)(i6:Int):Za1 N b7 K0 K1 n i6=LM Zhq N 0 100004 n (Zrw i6 b7) K:=by
  subst h0 h1
  induction n generalizing i6 with
  |zero=>kernel_rfl
  |succ n ih=>rw[Za1];simp only[ih];kernel_rfl
theorem Zv6(N:Nat)(s1:List Int×List Int×List Kc×List Kj×List Int):DN Zhq N (s1,())=Zfk N s1:=by
  conv=>rhs;rw[Zfk];simp(disch:=exact id (by kernel_rfl)) only[Zrx (R:=Unit×Kk) N (CF Zhq N [1,1,0,1,0])]
  kernel_rfl
theorem Zv7(N:Nat):GW 8 (Zj1 N):=GF Zhq N Tryz.func8 (GC (Zl6 N) (GC (Zl7 N) (GC (Zl8 N) (GC (Zct N) (GC (Zv5 N) Wa))))) (λd=>Zv6 N d.1)
def Zjd(N:Nat):Sig:=Sig.of [.v Je false] [.v Jp true,.v Jr false] (λd=>Zej N d.1)
def Zg1:Fn:=⟨Tryz.f57,λ |5=>[.canon [0,2,4,5,14]]|6=>[.canon [0,2,4,5]]|7=>[.canon [0,2,4,5]]|100005=>[.adoptC 4 1 Jb,.canon [0,2,4,5]]|_=>[],Zjd,λN=>[(37,Zgt N)]⟩
def Zqi(l3:List Int)(i4:Int)(l7:List Kb):St:=⟨[(0,vV Je l3),(2,vP 0 0),(4,vP 1 0),(5,vI i4)],[(0,.box [.val Ja (0:Int),.nils]),(1,.box [.val Ja (0:Int),.own 2]),(2,.arr Jb l7)],3⟩
def Zos(l3:List Int)(i8:Int)(t9:Bool)(cz:List Kb):St:=⟨[(0,vV Je l3),(2,vP 0 0),(4,vP 1 0),(5,vI i8),(14,vB t9)],[(0,.box [.val Ja (0:Int),.nils]),(1,.box [.val Ja (0:Int),.own 2]),(2,.arr Jb cz)],3⟩
theorem Zqj(N:Nat){R:Type}(K:Ex->St->Option R){l3:List Int}{K0:Int->Bool->Kl->Option R}(h0:K0= λi8 t9 cz=>K (.exit 0) (Zos l3 i8 t9 cz))(n:Nat)(i4:Int)(l7:List Kb):Zbk N l3 K0 n i4 l7=LM Zg1 N 0 100005 n (Zqi l3 i4 l7) K:=by
  subst h0
  induction n generalizing i4 l7 with
  |zero=>kernel_rfl
  |succ n ih=>rw[Zbk];simp only[ih];kernel_rfl
theorem Zu6(N:Nat)(l1:List Int):DN Zg1 N (l1,())=Zej N l1:=by
  conv=>rhs;rw[Zej];simp(disch:=exact id (by kernel_rfl)) only[Zqj (R:=Unit×(Km×Kk)) N (CF Zg1 N [1,1,1,0,1,0])]
  kernel_rfl
theorem Zu7(N:Nat):GW 57 (Zjd N):=GF Zg1 N Tryz.func57 (GC (Zl6 N) Wa) (λd=>Zu6 N d.1)
def Zcd(N:Nat):Sig:=Sig.of [.v Je false] [.v Jv false] (λd=>Zn N d.1)
def Ztq:Fn:=⟨Tryz.f48,WI,Zcd,Waw⟩
theorem Zd2(N:Nat):GW 48 (Zcd N):=GF Ztq N Tryz.func48 Wa
def Zie(N:Nat):Sig:=Sig.of [.v Jc false,.v Ja false] [.v Ja false,.v Jr false] (λd=>Ze1 N d.1 d.2.1)
def Zif:Fn:=⟨Tryz.f142,λ |4=>[.canon [0,1,6,14]]|5=>[.canon [0,1,6]]|6=>[.canon [0,1,6,23]]|7=>[.canon [4,5]]|100004=>[.canon [0,1,6]]|_=>[],Zie,λN=>[(39,Zgx N)]⟩
def Zsv(l4:List Kc)(aw:Int)(i6:Int):St:=⟨[(0,vV Jc l4),(1,vI aw),(6,vI i6)],[],0⟩
def Zry(l4:List Kc)(aw:Int)(t7:Int):St:=⟨[(4,vI t7),(5,vB true)],[],0⟩
def Zrz(l4:List Kc)(aw:Int)(i8:Int)(t9:Bool):St:=⟨[(0,vV Jc l4),(1,vI aw),(6,vI i8),(14,vB t9)],[],0⟩
theorem Zsw(N:Nat){R:Type}(K:Ex->St->Option R){l4:List Kc}{aw:Int}{K0:Int->Option R}{K1:Int->Bool->Option R}(h0:K0= λt7=>K .ret (Zry l4 aw t7))(h1:K1= λi8 t9=>K (.exit 0) (Zrz l4 aw i8 t9))(n:Nat)(i6:Int):Zc3 N l4 aw K0 K1 n i6=LM Zif N 0 100004 n (Zsv l4 aw i6) K:=by
  subst h0 h1
  induction n generalizing i6 with
  |zero=>kernel_rfl
  |succ n ih=>rw[Zc3];simp only[ih];kernel_rfl
theorem Zwz(N:Nat)(l1:List Kc)(aZ:Int):DN Zif N (l1,aZ,())=Ze1 N l1 aZ:=by
  conv=>rhs;rw[Ze1];simp(disch:=exact id (by kernel_rfl)) only[Zsw (R:=Unit×Ki) N (CF Zif N [1,1,0,1,0])]
  kernel_rfl
theorem Zpt(N:Nat):GW 142 (Zie N):=GF Zif N Tryz.func142 (GC (Zl8 N) Wa) (λd=>Zwz N d.1 d.2.1)
def Zje(N:Nat):Sig:=Sig.of [.v Jc false] [.v Jd false] (λd=>Zep N d.1)
def Zjf:Fn:=⟨Tryz.f100,λ |3=>[.canon [0,3,4,9]]|4=>[.canon [0,3,4]]|5=>[.canon [0,3,4,5,6]]|6=>[.canon [0,3,4,5,18]]|7=>[.canon [0,3,4]]|100003=>[.canon [0,3,4]]|_=>[],Zje,λN=>[(142,Zie N)]⟩
def Ztr(l2:List Kc)(i3:Int)(l4:List Kc):St:=⟨[(0,vV Jc l2),(3,vO 0),(4,vI i3)],[(0,.arr Jj l4)],1⟩
def Zsx(l2:List Kc)(i6:Int)(t7:Bool)(l8:List Kc):St:=⟨[(0,vV Jc l2),(3,vO 0),(4,vI i6),(9,vB t7)],[(0,.arr Jj l8)],1⟩
theorem Zts(N:Nat){R:Type}(K:Ex->St->Option R){l2:List Kc}{K0:Int->Bool->Kn->Option R}(h0:K0= λi6 t7 l8=>K (.exit 0) (Zsx l2 i6 t7 l8))(n:Nat)(i3:Int)(l4:List Kc):Zcv N l2 K0 n i3 l4=LM Zjf N 0 100003 n (Ztr l2 i3 l4) K:=by
  subst h0
  induction n generalizing i3 l4 with
  |zero=>kernel_rfl
  |succ n ih=>rw[Zcv];simp only[ih];kernel_rfl
theorem Zxc(N:Nat)(l1:List Kc):DN Zjf N (l1,())=Zep N l1:=by
  conv=>rhs;rw[Zep];simp(disch:=exact id (by kernel_rfl)) only[Zts (R:=Unit×Kq) N (CF Zjf N [1,1,0,1,0])]
  kernel_rfl
theorem Zr0(N:Nat):GW 100 (Zje N):=GF Zjf N Tryz.func100 (GC (Zpt N) Wa) (λd=>Zxc N d.1)
def Zjg(N:Nat):Sig:=Sig.of [.v Ja false,.v Je false,.v Jc false,.v Ja false] [.v (.prod Ja (.prod Ja (.prod Ja (.prod Jr (.prod Jv (.prod Jd (.prod (.own Jb) (.prod Jv (.prod Jd (.own (TY_KidRun))))))))))) true] (λd=>Zek N d.1 d.2.1 d.2.2.1 d.2.2.2.1)
def Zc9:Fn:=⟨Tryz.f58,λ |4=>[.canon [1,3,8,9,10,11,24]]|5=>[.canon [1,3,8,9,10,11]]|6=>[.canon [1,3,8,9,10,11]]|8=>[.canon [1,3,8,9,12,45]]|9=>[.canon [1,3,8,9,12]]|10=>[.canon [1,3,8,9,12]]|100004=>[.adoptC 9 6 Jb,.canon [1,3,8,9,10,11]]|100008=>[.adoptC 9 9 (TY_KidRun),.canon [1,3,8,9,12]]|_=>[],Zjg,λN=>[(48,Zcd N),(100,Zje N)]⟩
def Zqk(bY:List Int)(bZ:Int)(aL:Int)(aR:Int)(aS:List Kc)(bq:List Int)(bo:List Kc)(aD:List Kb):St:=⟨[(1,vV Je bY),(3,vI bZ),(8,vP 0 0),(9,vP 1 0),(10,vO 2),(11,vI aL)],[(0,.box [.val Ja (0:Int),.val Ja (0:Int),.val Ja (0:Int),.val Jr false,.nils,.nils,.nils,.nils,.nils,.nils]),(1,.box [.val Ja aR,.val Ja (0:Int),.val Ja (0:Int),.val Jr false,.own 3,.own 4,.own 5,.nils,.nils,.nils]),(2,.arr Jj aS),(3,.arr Ja bq),(4,.arr Jj bo),(5,.arr Jb aD)],6⟩
def Zot(bY:List Int)(bZ:Int)(aR:Int)(aS:List Kc)(bq:List Int)(bo:List Kc)(mY:Int)(mZ:Bool)(cl:List Kb):St:=⟨[(1,vV Je bY),(3,vI bZ),(8,vP 0 0),(9,vP 1 0),(10,vO 2),(11,vI mY),(24,vB mZ)],[(0,.box [.val Ja (0:Int),.val Ja (0:Int),.val Ja (0:Int),.val Jr false,.nils,.nils,.nils,.nils,.nils,.nils]),(1,.box [.val Ja aR,.val Ja (0:Int),.val Ja (0:Int),.val Jr false,.own 3,.own 4,.own 5,.nils,.nils,.nils]),(2,.arr Jj aS),(3,.arr Ja bq),(4,.arr Jj bo),(5,.arr Jb cl)],6⟩
theorem Zql(N:Nat){R:Type}(K:Ex->St->Option R){bY:List Int}{bZ:Int}{aR:Int}{aS:List Kc}{bq:List Int}{bo:List Kc}{K0:Int->Bool->Kl->Option R}(h0:K0= λmY mZ cl=>K (.exit 0) (Zot bY bZ aR aS bq bo mY mZ cl))(n:Nat)(aL:Int)(aD:List Kb):Zbl N bY bZ aR aS bq bo K0 n aL aD=LM Zc9 N 0 100004 n (Zqk bY bZ aL aR aS bq bo aD) K:=by
  subst h0
  induction n generalizing aL aD with
  |zero=>kernel_rfl
  |succ n ih=>rw[Zbl];simp only[ih];kernel_rfl
def Zqm(bk:List Int)(bg:Int)(gz:Int)(fv:Int)(cJ:List Int)(cA:List Kc)(cK:List Kb)(dI:List Y_KidRun):St:=⟨[(1,vV Je bk),(3,vI bg),(8,vP 0 0),(9,vP 1 0),(12,vI gz)],[(0,.box [.val Ja (0:Int),.val Ja (0:Int),.val Ja (0:Int),.val Jr false,.nils,.nils,.nils,.nils,.nils,.nils]),(1,.box [.val Ja fv,.val Ja (0:Int),.val Ja (0:Int),.val Jr false,.own 2,.own 3,.own 4,.nils,.nils,.own 5]),(2,.arr Ja cJ),(3,.arr Jj cA),(4,.arr Jb cK),(5,.arr (TY_KidRun) dI)],6⟩
def Zou(bk:List Int)(bg:Int)(fv:Int)(cJ:List Int)(cA:List Kc)(cK:List Kb)(m0:Int)(m5:Bool)(jb:List Y_KidRun):St:=⟨[(1,vV Je bk),(3,vI bg),(8,vP 0 0),(9,vP 1 0),(12,vI m0),(45,vB m5)],[(0,.box [.val Ja (0:Int),.val Ja (0:Int),.val Ja (0:Int),.val Jr false,.nils,.nils,.nils,.nils,.nils,.nils]),(1,.box [.val Ja fv,.val Ja (0:Int),.val Ja (0:Int),.val Jr false,.own 2,.own 3,.own 4,.nils,.nils,.own 5]),(2,.arr Ja cJ),(3,.arr Jj cA),(4,.arr Jb cK),(5,.arr (TY_KidRun) jb)],6⟩
theorem Zqn(N:Nat){R:Type}(K:Ex->St->Option R){bk:List Int}{bg:Int}{fv:Int}{cJ:List Int}{cA:List Kc}{cK:List Kb}{K0:Int->Bool->(List Y_KidRun)->Option R}(h0:K0= λm0 m5 jb=>K (.exit 2) (Zou bk bg fv cJ cA cK m0 m5 jb))(n:Nat)(gz:Int)(dI:List Y_KidRun):Z7 N bk bg fv cJ cA cK K0 n gz dI=LM Zc9 N 1 100008 n (Zqm bk bg gz fv cJ cA cK dI) K:=by
  subst h0
  induction n generalizing gz dI with
  |zero=>kernel_rfl
  |succ n ih=>rw[Z7];simp only[ih];kernel_rfl
theorem Zu8(N:Nat)(fw:Int)(ai:List Int)(aV:List Kc)(bH:Int):DN Zc9 N (fw,ai,aV,bH,())=Zek N fw ai aV bH:=by
  conv=>rhs;rw[Zek];simp(disch:=exact id (by kernel_rfl)) only[Zql (R:=Unit×(Y_Family×Unit)) N (CF Zc9 N [1,1,1,0,1,0]),Zqn (R:=Unit×(Y_Family×Unit)) N (CF Zc9 N [1,1,1,1,0,1,0])]
  kernel_rfl
theorem Zu9(N:Nat):GW 58 (Zjg N):=GF Zc9 N Tryz.func58 (GC (Zd2 N) (GC (Zr0 N) Wa)) (λd=>Zu8 N d.1 d.2.1 d.2.2.1 d.2.2.2.1)
def Zjh(N:Nat):Sig:=Sig.of [.v Jt true] [.v Jp true] (λd=>Zic N d.1)
def Zva:Fn:=⟨Tryz.f101,WI,Zjh,Waw⟩
theorem Zvb(N:Nat):GW 101 (Zjh N):=GF Zva N Tryz.func101 Wa
def Zhr(N:Nat):Sig:=Sig.of [.v Jt true] [.v Jr false] (λd=>Zdx N d.1)
def Zhs:Fn:=⟨Tryz.f102,λ |4=>[.canon [1,3,19]]|5=>[.canon [1,3]]|6=>[.canon [1,3,4]]|7=>[.canon [1,3,44]]|8=>[.canon [2]]|100004=>[.canon [1,3]]|_=>[],Zhr,λN=>[(40,Za6 N),(92,Zci N)]⟩
def Zr1(i3:Int)(b4:Int×List Kb):St:=⟨[(1,vP 0 0),(3,vI i3)],[(0,.box [.val Ja b4.1,.val Jl b4.2])],1⟩
def Zqo(b4:Int×List Kb):St:=⟨[(2,vB false)],[],0⟩
def Zqp(b4:Int×List Kb)(i8:Int)(t9:Bool):St:=⟨[(1,vP 0 0),(3,vI i8),(19,vB t9)],[(0,.box [.val Ja b4.1,.val Jl b4.2])],1⟩
theorem Zr2(N:Nat){R:Type}(K:Ex->St->Option R){b4:Int×List Kb}{K0:Option R}{K1:Int->Bool->Option R}(h0:K0=K .ret (Zqo b4))(h1:K1= λi8 t9=>K (.exit 0) (Zqp b4 i8 t9))(n:Nat)(i3:Int):Za2 N b4 K0 K1 n i3=LM Zhs N 0 100004 n (Zr1 i3 b4) K:=by
  subst h0 h1
  induction n generalizing i3 with
  |zero=>kernel_rfl
  |succ n ih=>rw[Za2];simp only[ih];kernel_rfl
theorem Zv8(N:Nat)(m1:Int×List Kb):DN Zhs N (m1,())=Zdx N m1:=by
  conv=>rhs;rw[Zdx];simp(disch:=exact id (by kernel_rfl)) only[Zr2 (R:=Unit×Kk) N (CF Zhs N [1,1,0,1,0])]
  kernel_rfl
theorem Zm4(N:Nat):GW 102 (Zhr N):=GF Zhs N Tryz.func102 (GC (Zct N) (GC (Zdv N) Wa)) (λd=>Zv8 N d.1)
def Zkl(N:Nat):Sig:=Sig.of [.v Jt true] [.v Jp true,.v Ja false] (λd=>Zke N d.1)
def Zw0:Fn:=⟨Tryz.f59,WI,Zkl,λN=>[(101,Zjh N),(102,Zhr N)]⟩
theorem Zw1(N:Nat):GW 59 (Zkl N):=GF Zw0 N Tryz.func59 (GC (Zvb N) (GC (Zm4 N) Wa))
def Ze8(N:Nat):Sig:=Sig.of [.v (TY_Family) true,.v Ja false] [.v Jb true] (λd=>Zck N d.1 d.2.1)
def Ze9:Fn:=⟨Tryz.f105,λ |2=>[.canon [1,2,4,5,10]]|3=>[.canon [1,2,4,5]]|4=>[.canon [1,2,4,5,20]]|5=>[.canon [4]]|100002=>[.canon [1,2,4,5]]|_=>[],Ze8,Waw⟩
def Zm5(bv:Int)(i4:Int)(b5:Y_Family):St:=⟨[(1,vI bv),(2,vP 0 0),(4,vP 1 0),(5,vI i4)],[(0,.box [.val Ja b5.1,.val Ja b5.2.1,.val Ja b5.2.2.1,.val Jr b5.2.2.2.1,.val Je b5.2.2.2.2.1,.val Jc b5.2.2.2.2.2.1,.val Jl b5.2.2.2.2.2.2.1,.val Je b5.2.2.2.2.2.2.2.1,.val Jc b5.2.2.2.2.2.2.2.2.1,.val Jq b5.2.2.2.2.2.2.2.2.2]),(1,.box [.val Ja (0:Int),.val Ja (0:Int),.val Ja (0:Int)])],2⟩
def Zl9(bv:Int)(b5:Y_Family)(b9:Int×Int×Int):St:=⟨[(4,vP 0 0)],[(0,.box [.val Ja b9.1,.val Ja b9.2.1,.val Ja b9.2.2])],1⟩
def Zma(bv:Int)(b5:Y_Family)(aL:Int)(aC:Bool):St:=⟨[(1,vI bv),(2,vP 0 0),(4,vP 1 0),(5,vI aL),(10,vB aC)],[(0,.box [.val Ja b5.1,.val Ja b5.2.1,.val Ja b5.2.2.1,.val Jr b5.2.2.2.1,.val Je b5.2.2.2.2.1,.val Jc b5.2.2.2.2.2.1,.val Jl b5.2.2.2.2.2.2.1,.val Je b5.2.2.2.2.2.2.2.1,.val Jc b5.2.2.2.2.2.2.2.2.1,.val Jq b5.2.2.2.2.2.2.2.2.2]),(1,.box [.val Ja (0:Int),.val Ja (0:Int),.val Ja (0:Int)])],2⟩
theorem Zm6(N:Nat){R:Type}(K:Ex->St->Option R){bv:Int}{b5:Y_Family}{K0:Kb->Option R}{K1:Int->Bool->Option R}(h0:K0= λb9=>K .ret (Zl9 bv b5 b9))(h1:K1= λaL aC=>K (.exit 0) (Zma bv b5 aL aC))(n:Nat)(i4:Int):Zam N bv b5 K0 K1 n i4=LM Ze9 N 0 100002 n (Zm5 bv i4 b5) K:=by
  subst h0 h1
  induction n generalizing i4 with
  |zero=>kernel_rfl
  |succ n ih=>rw[Zam];simp only[ih];kernel_rfl
theorem Zsy(N:Nat)(f1:Y_Family)(aZ:Int):DN Ze9 N (f1,aZ,())=Zck N f1 aZ:=by
  conv=>rhs;rw[Zck];simp(disch:=exact id (by kernel_rfl)) only[Zm6 (R:=Unit×(Kb×Unit)) N (CF Ze9 N [1,0,1,0])]
  kernel_rfl
theorem Zkw(N:Nat):GW 105 (Ze8 N):=GF Ze9 N Tryz.func105 Wa (λd=>Zsy N d.1 d.2.1)
def Zak(N:Nat):Sig:=Sig.of [.kv Ji true,.v (TY_KidRun) true] [.v (.prod Ja (.prod Ja (.prod Ja (.prod Ja (.prod Ja (.prod Ja (.prod Jv (.prod (.own Jb) (.prod Jd (.prod (.own Ju) (.prod Jr Jm))))))))))) true] (λd=>Zs N d.1 d.2.1)
def Zix:Fn:=⟨Tryz.f106,WI,Zak,λN=>[(48,Zcd N)]⟩
theorem Zeb(N:Nat):GW 106 (Zak N):=GF Zix N Tryz.func106 (GC (Zd2 N) Wa)
def Zik(N:Nat):Sig:=Sig.of [.v Jm true] [.v Jr false] (λd=>Zhi N d.1)
def Ztt:Fn:=⟨Tryz.f181,WI,Zik,λN=>[(43,Zeu N),(40,Za6 N),(92,Zci N)]⟩
theorem Ztu(N:Nat):GW 181 (Zik N):=GF Ztt N Tryz.func181 (GC (Zja N) (GC (Zct N) (GC (Zdv N) Wa)))
def Zhb(N:Nat):Sig:=Sig.of [.v Jt true,.v Ja false,.v Jm true] [.v Jm true] (λd=>Zdy N d.1 d.2.1 d.2.2.1)
def Zr3:Fn:=⟨Tryz.f161,WI,Zhb,λN=>[(102,Zhr N),(181,Zik N)]⟩
theorem Zr4(N:Nat):GW 161 (Zhb N):=GF Zr3 N Tryz.func161 (GC (Zm4 N) (GC (Ztu N) Wa))
def Ze3(N:Nat):Sig:=Sig.of [.kv Jp true,.v Ji true,.v (TY_KidRun) true,.v Jm true] [.v Ji true,.v (TY_KidRun) true] (λd=>Zdm N d.1 d.2.1 d.2.2.1 d.2.2.2.1)
def Zmb:Fn:=⟨Tryz.f143,WI,Ze3,λN=>[(142,Zie N),(48,Zcd N),(105,Ze8 N),(106,Zak N),(161,Zhb N)]⟩
theorem Zmc(N:Nat):GW 143 (Ze3 N):=GF Zmb N Tryz.func143 (GC (Zpt N) (GC (Zd2 N) (GC (Zkw N) (GC (Zeb N) (GC (Zr4 N) Wa)))))
def Zj2(N:Nat):Sig:=Sig.of [.v Jh false,.v Ja false] [.v Ja false] (λd=>Zfl N d.1 d.2.1)
def Zht:Fn:=⟨Tryz.f139,λ |5=>[.canon [0,5,6,27]]|6=>[.canon [0,5,6]]|7=>[.canon [0,5,6,35]]|8=>[.canon [0,5,6]]|9=>[.canon [0,5,6,43]]|10=>[.canon [0,5,6]]|11=>[.canon [0,5,6,47]]|12=>[.canon [4]]|100005=>[.canon [0,5,6]]|_=>[],Zj2,Waw⟩
def Zr5(aa:List Ka)(d4:Int)(k5:Int):St:=⟨[(0,vV Jh aa),(5,vI d4),(6,vI k5)],[],0⟩
def Zqq(aa:List Ka)(t6:Int):St:=⟨[(4,vI t6)],[],0⟩
def Zqr(aa:List Ka)(d7:Int)(k8:Int)(t9:Bool):St:=⟨[(0,vV Jh aa),(5,vI d7),(6,vI k8),(27,vB t9)],[],0⟩
theorem Zr6(N:Nat){R:Type}(K:Ex->St->Option R){aa:List Ka}{K0:Int->Option R}{K1:Int->Int->Bool->Option R}(h0:K0= λt6=>K .ret (Zqq aa t6))(h1:K1= λd7 k8 t9=>K (.exit 0) (Zqr aa d7 k8 t9))(n:Nat)(d4:Int)(k5:Int):Zw N aa K0 K1 n d4 k5=LM Zht N 0 100005 n (Zr5 aa d4 k5) K:=by
  subst h0 h1
  induction n generalizing d4 k5 with
  |zero=>kernel_rfl
  |succ n ih=>rw[Zw];simp only[ih];kernel_rfl
theorem Zv9(N:Nat)(ad:List Ka)(i2:Int):DN Zht N (ad,i2,())=Zfl N ad i2:=by
  conv=>rhs;rw[Zfl];simp(disch:=exact id (by kernel_rfl)) only[Zr6 (R:=Unit×Kg) N (CF Zht N [1,1,1,0,1,0])]
  kernel_rfl
theorem Zwa(N:Nat):GW 139 (Zj2 N):=GF Zht N Tryz.func139 Wa (λd=>Zv9 N d.1 d.2.1)
def Zkm(N:Nat):Sig:=Sig.of [.v Jm true,.v Je false] [.v Jv false,.v Jr false] (λd=>Zkf N d.1 d.2.1)
def Zw2:Fn:=⟨Tryz.f140,WI,Zkm,λN=>[(136,Zgf N),(38,Zgv N)]⟩
theorem Zw3(N:Nat):GW 140 (Zkm N):=GF Zw2 N Tryz.func140 (GC (Zkk N) (GC (Zl7 N) Wa))
def Zf4(N:Nat):Sig:=Sig.of [.kv Jp true,.v Ji true,.v (TY_KidRun) true,.v Jh false] [.v Ji true,.v (TY_KidRun) true] (λd=>Zeq N d.1 d.2.1 d.2.2.1 d.2.2.2.1)
def Zov:Fn:=⟨Tryz.f103,WI,Zf4,λN=>[(143,Ze3 N),(48,Zcd N),(139,Zj2 N),(140,Zkm N)]⟩
theorem Zow(N:Nat):GW 103 (Zf4 N):=GF Zov N Tryz.func103 (GC (Zmc N) (GC (Zd2 N) (GC (Zwa N) (GC (Zw3 N) Wa))))
def Zji(N:Nat):Sig:=Sig.of [.v Jl false,.v Jb true] [.v (.own Jb) false] (λd=>Zel N d.1 d.2.1)
def Zg2:Fn:=⟨Tryz.f144,λ |4=>[.canon [0,3,5,6,7,12]]|5=>[.canon [0,3,5,6,7]]|6=>[.canon [0,3,5,6,7,26]]|7=>[.canon [0,3,5,7]]|8=>[.canon [0,3,5,6,7]]|9=>[.canon [0,3,5,6,7,38]]|10=>[.canon [0,3,5,6,7]]|100004=>[.canon [0,3,5,6,7]]|_=>[],Zji,Waw⟩
def Zqs(l3:List Kb)(bw:Bool)(i5:Int)(b6:Int×Int×Int)(l7:List Kb):St:=⟨[(0,vV Jl l3),(3,vP 0 0),(5,vO 1),(6,vB bw),(7,vI i5)],[(0,.box [.val Ja b6.1,.val Ja b6.2.1,.val Ja b6.2.2]),(1,.arr Jb l7)],2⟩
def Zox(l3:List Kb)(b6:Int×Int×Int)(gj:Bool)(i9:Int)(aM:Bool)(eJ:List Kb):St:=⟨[(0,vV Jl l3),(3,vP 0 0),(5,vO 1),(6,vB gj),(7,vI i9),(12,vB aM)],[(0,.box [.val Ja b6.1,.val Ja b6.2.1,.val Ja b6.2.2]),(1,.arr Jb eJ)],2⟩
theorem Zqt(N:Nat){R:Type}(K:Ex->St->Option R){l3:List Kb}{b6:Int×Int×Int}{K0:Bool->Int->Bool->Kl->Option R}(h0:K0= λgj i9 aM eJ=>K (.exit 0) (Zox l3 b6 gj i9 aM eJ))(n:Nat)(bw:Bool)(i5:Int)(l7:List Kb):Zh N l3 b6 K0 n bw i5 l7=LM Zg2 N 0 100004 n (Zqs l3 bw i5 b6 l7) K:=by
  subst h0
  induction n generalizing bw i5 l7 with
  |zero=>kernel_rfl
  |succ n ih=>rw[Zh];simp only[ih];kernel_rfl
theorem Zvc(N:Nat)(l1:List Kb)(e2:Int×Int×Int):DN Zg2 N (l1,e2,())=Zel N l1 e2:=by
  conv=>rhs;rw[Zel];simp(disch:=exact id (by kernel_rfl)) only[Zqt (R:=Unit×Kt) N (CF Zg2 N [1,1,1,0,1,0])]
  kernel_rfl
theorem Zvd(N:Nat):GW 144 (Zji N):=GF Zg2 N Tryz.func144 Wa (λd=>Zvc N d.1 d.2.1)
def Zh2(N:Nat):Sig:=Sig.of [.v (.prod Ja (.prod Ja (.prod Ja (.prod Jr (.prod Jv (.prod Jd (.prod Jl (.prod Je (.prod Jc (.own (TY_KidRun))))))))))) true,.v (TY_KidRun) true,.v Ja false] [.v Ji true,.v (.prod Ja (.prod Ja (.prod Ja (.prod Ja (.prod Ja (.prod Ja (.prod Je (.prod Jl (.prod Jc (.prod (.own Ju) (.prod Jr Jm))))))))))) true] (λd=>Zc4 N d.1 d.2.1 d.2.2.1)
def Zco:Fn:=⟨Tryz.f104,λ |4=>[.canon [2,3,4,6,7,8,9,21]]|5=>[.canon [2,3,4,6,7,8,9]]|6=>[.canon [2,3,4,6,7,8,9]]|9=>[.canon [2,3,4,6,7,10,50]]|10=>[.canon [2,3,4,6,7,10]]|11=>[.canon [2,3,4,6,7,10,59]]|12=>[.canon [2,3,4,6,7,10]]|100004=>[.freezeC 3 6,.canon [2,3,4,6,7,8,9]]|100009=>[.canon [2,3,4,6,7,10]]|_=>[],Zh2,λN=>[(100,Zje N),(144,Zji N),(48,Zcd N)]⟩
def Zm7(k5:Int)(i6:Int)(b7:Int)(b8:Int)(b9:Int)(ca:Bool)(bs:List Kb)(br:List Int)(bu:List Kc)(ax:Y_KidRun)(bO:List Kc)(cC:List Int)(cD:List Kc)(cE:List Y_KidRun):St:=⟨[(2,vI k5),(3,vP 0 0),(4,vP 1 0),(6,vP 2 0),(7,vP 3 0),(8,vO 4),(9,vI i6)],[(0,.box [.val Ja b7,.val Ja b8,.val Ja b9,.val Jr ca,.own 5,.own 6,.val Jl bs,.val Je br,.val Jc bu,.own 7]),(1,.box [.val Ja ax.1,.val Ja ax.2.1,.val Ja ax.2.2.1,.val Ja ax.2.2.2.1,.val Ja ax.2.2.2.2.1,.val Ja ax.2.2.2.2.2.1,.val Je ax.2.2.2.2.2.2.1,.val Jl ax.2.2.2.2.2.2.2.1,.val Jc ax.2.2.2.2.2.2.2.2.1,.val Jo ax.2.2.2.2.2.2.2.2.2.1,.val Jr ax.2.2.2.2.2.2.2.2.2.2.1,.val Ja ax.2.2.2.2.2.2.2.2.2.2.2.1,.val Ja ax.2.2.2.2.2.2.2.2.2.2.2.2.1,.val Ja ax.2.2.2.2.2.2.2.2.2.2.2.2.2.1,.val Ja ax.2.2.2.2.2.2.2.2.2.2.2.2.2.2]),(2,.box [.val Ja (0:Int),.val Ja (0:Int),.val Ja (0:Int),.val Jr false,.nils,.nils,.nils,.nils,.nils,.nils]),(3,.box [.val Ja (0:Int),.val Ja (0:Int),.val Ja (0:Int),.val Ja (0:Int),.val Ja (0:Int),.val Ja (0:Int),.nils,.nils,.nils,.nils,.val Jr false,.val Ja (0:Int),.val Ja (0:Int),.val Ja (0:Int),.val Ja (0:Int)]),(4,.arr Jj bO),(5,.arr Ja cC),(6,.arr Jj cD),(7,.arr (TY_KidRun) cE)],8⟩
def Zmd(k5:Int)(b7:Int)(b8:Int)(b9:Int)(ca:Bool)(br:List Int)(bu:List Kc)(ax:Y_KidRun)(bO:List Kc)(cC:List Int)(cD:List Kc)(cE:List Y_KidRun)(m6:Int)(jc:Bool)(gk:List Kb):St:=⟨[(2,vI k5),(3,vP 0 0),(4,vP 1 0),(6,vP 2 0),(7,vP 3 0),(8,vO 4),(9,vI m6),(21,vB jc)],[(0,.box [.val Ja b7,.val Ja b8,.val Ja b9,.val Jr ca,.own 5,.own 6,.val Jl gk,.val Je br,.val Jc bu,.own 7]),(1,.box [.val Ja ax.1,.val Ja ax.2.1,.val Ja ax.2.2.1,.val Ja ax.2.2.2.1,.val Ja ax.2.2.2.2.1,.val Ja ax.2.2.2.2.2.1,.val Je ax.2.2.2.2.2.2.1,.val Jl ax.2.2.2.2.2.2.2.1,.val Jc ax.2.2.2.2.2.2.2.2.1,.val Jo ax.2.2.2.2.2.2.2.2.2.1,.val Jr ax.2.2.2.2.2.2.2.2.2.2.1,.val Ja ax.2.2.2.2.2.2.2.2.2.2.2.1,.val Ja ax.2.2.2.2.2.2.2.2.2.2.2.2.1,.val Ja ax.2.2.2.2.2.2.2.2.2.2.2.2.2.1,.val Ja ax.2.2.2.2.2.2.2.2.2.2.2.2.2.2]),(2,.box [.val Ja (0:Int),.val Ja (0:Int),.val Ja (0:Int),.val Jr false,.nils,.nils,.nils,.nils,.nils,.nils]),(3,.box [.val Ja (0:Int),.val Ja (0:Int),.val Ja (0:Int),.val Ja (0:Int),.val Ja (0:Int),.val Ja (0:Int),.nils,.nils,.nils,.nils,.val Jr false,.val Ja (0:Int),.val Ja (0:Int),.val Ja (0:Int),.val Ja (0:Int)]),(4,.arr Jj bO),(5,.arr Ja cC),(6,.arr Jj cD),(7,.arr (TY_KidRun) cE)],8⟩
theorem Zm8(N:Nat){R:Type}(K:Ex->St->Option R){k5:Int}{b7:Int}{b8:Int}{b9:Int}{ca:Bool}{br:List Int}{bu:List Kc}{ax:Y_KidRun}{bO:List Kc}{cC:List Int}{cD:List Kc}{cE:List Y_KidRun}{K0:Int->Bool->Kl->Option R}(h0:K0= λm6 jc gk=>K (.exit 0) (Zmd k5 b7 b8 b9 ca br bu ax bO cC cD cE m6 jc gk))(n:Nat)(i6:Int)(bs:List Kb):Zan N k5 b7 b8 b9 ca br bu ax bO cC cD cE K0 n i6 bs=LM Zco N 0 100004 n (Zm7 k5 i6 b7 b8 b9 ca bs br bu ax bO cC cD cE) K:=by
  subst h0
  induction n generalizing i6 bs with
  |zero=>kernel_rfl
  |succ n ih=>rw[Zan];simp only[ih];kernel_rfl
def Zm9(cL:Int)(eC:Int)(gB:Int)(cM:Int)(cN:Int)(cO:Bool)(cP:List Kb)(cQ:List Int)(aN:Y_KidRun)(ck:List Int)(fe:List Kc)(cS:List Kc)(cR:List Y_KidRun):St:=⟨[(2,vI cL),(3,vP 0 0),(4,vP 1 0),(6,vP 2 0),(7,vP 3 0),(10,vI eC)],[(0,.box [.val Ja gB,.val Ja cM,.val Ja cN,.val Jr cO,.own 4,.own 5,.val Jl cP,.val Je cQ,.own 6,.own 7]),(1,.box [.val Ja aN.1,.val Ja aN.2.1,.val Ja aN.2.2.1,.val Ja aN.2.2.2.1,.val Ja aN.2.2.2.2.1,.val Ja aN.2.2.2.2.2.1,.val Je aN.2.2.2.2.2.2.1,.val Jl aN.2.2.2.2.2.2.2.1,.val Jc aN.2.2.2.2.2.2.2.2.1,.val Jo aN.2.2.2.2.2.2.2.2.2.1,.val Jr aN.2.2.2.2.2.2.2.2.2.2.1,.val Ja aN.2.2.2.2.2.2.2.2.2.2.2.1,.val Ja aN.2.2.2.2.2.2.2.2.2.2.2.2.1,.val Ja aN.2.2.2.2.2.2.2.2.2.2.2.2.2.1,.val Ja aN.2.2.2.2.2.2.2.2.2.2.2.2.2.2]),(2,.box [.val Ja (0:Int),.val Ja (0:Int),.val Ja (0:Int),.val Jr false,.nils,.nils,.nils,.nils,.nils,.nils]),(3,.box [.val Ja (0:Int),.val Ja (0:Int),.val Ja (0:Int),.val Ja (0:Int),.val Ja (0:Int),.val Ja (0:Int),.nils,.nils,.nils,.nils,.val Jr false,.val Ja (0:Int),.val Ja (0:Int),.val Ja (0:Int),.val Ja (0:Int)]),(4,.arr Ja ck),(5,.arr Jj fe),(6,.arr Jj cS),(7,.arr (TY_KidRun) cR)],8⟩
def Zme(cL:Int)(gB:Int)(cM:Int)(cN:Int)(cO:Bool)(cP:List Kb)(cQ:List Int)(aN:Y_KidRun)(ck:List Int)(fe:List Kc)(cR:List Y_KidRun)(m7:Int)(jd:Bool)(m8:List Kc):St:=⟨[(2,vI cL),(3,vP 0 0),(4,vP 1 0),(6,vP 2 0),(7,vP 3 0),(10,vI m7),(50,vB jd)],[(0,.box [.val Ja gB,.val Ja cM,.val Ja cN,.val Jr cO,.own 4,.own 5,.val Jl cP,.val Je cQ,.own 6,.own 7]),(1,.box [.val Ja aN.1,.val Ja aN.2.1,.val Ja aN.2.2.1,.val Ja aN.2.2.2.1,.val Ja aN.2.2.2.2.1,.val Ja aN.2.2.2.2.2.1,.val Je aN.2.2.2.2.2.2.1,.val Jl aN.2.2.2.2.2.2.2.1,.val Jc aN.2.2.2.2.2.2.2.2.1,.val Jo aN.2.2.2.2.2.2.2.2.2.1,.val Jr aN.2.2.2.2.2.2.2.2.2.2.1,.val Ja aN.2.2.2.2.2.2.2.2.2.2.2.1,.val Ja aN.2.2.2.2.2.2.2.2.2.2.2.2.1,.val Ja aN.2.2.2.2.2.2.2.2.2.2.2.2.2.1,.val Ja aN.2.2.2.2.2.2.2.2.2.2.2.2.2.2]),(2,.box [.val Ja (0:Int),.val Ja (0:Int),.val Ja (0:Int),.val Jr false,.nils,.nils,.nils,.nils,.nils,.nils]),(3,.box [.val Ja (0:Int),.val Ja (0:Int),.val Ja (0:Int),.val Ja (0:Int),.val Ja (0:Int),.val Ja (0:Int),.nils,.nils,.nils,.nils,.val Jr false,.val Ja (0:Int),.val Ja (0:Int),.val Ja (0:Int),.val Ja (0:Int)]),(4,.arr Ja ck),(5,.arr Jj fe),(6,.arr Jj m8),(7,.arr (TY_KidRun) cR)],8⟩
theorem Zna(N:Nat){R:Type}(K:Ex->St->Option R){cL:Int}{gB:Int}{cM:Int}{cN:Int}{cO:Bool}{cP:List Kb}{cQ:List Int}{aN:Y_KidRun}{ck:List Int}{fe:List Kc}{cR:List Y_KidRun}{K0:Int->Bool->Kn->Option R}(h0:K0= λm7 jd m8=>K (.exit 2) (Zme cL gB cM cN cO cP cQ aN ck fe cR m7 jd m8))(n:Nat)(eC:Int)(cS:List Kc):Z6 N cL gB cM cN cO cP cQ aN ck fe cR K0 n eC cS=LM Zco N 1 100009 n (Zm9 cL eC gB cM cN cO cP cQ aN ck fe cS cR) K:=by
  subst h0
  induction n generalizing eC cS with
  |zero=>kernel_rfl
  |succ n ih=>rw[Z6];simp only[ih];kernel_rfl
theorem Zsz(N:Nat)(f1:Y_Family)(x2:Y_KidRun)(k3:Int):DN Zco N (f1,x2,k3,())=Zc4 N f1 x2 k3:=by
  conv=>rhs;rw[Zc4];simp(disch:=exact id (by kernel_rfl)) only[Zm8 (R:=Unit×(Y_Family×(Y_KidRun×Unit))) N (CF Zco N [1,1,1,0,1,0]),Zna (R:=Unit×(Y_Family×(Y_KidRun×Unit))) N (CF Zco N [1,1,1,1,1,0,1,0])]
  kernel_rfl
theorem Zs0(N:Nat):GW 104 (Zh2 N):=GF Zco N Tryz.func104 (GC (Zr0 N) (GC (Zvd N) (GC (Zd2 N) Wa))) (λd=>Zsz N d.1 d.2.1 d.2.2.1)
def Ze4(N:Nat):Sig:=Sig.of [.kv Jp true,.v Ji true,.v Js false,.v Ja false] [.v Ji true] (λd=>Za9 N d.1 d.2.1 d.2.2.1 d.2.2.2.1)
def Zmf:Fn:=⟨Tryz.f60,WI,Ze4,λN=>[(103,Zf4 N),(104,Zh2 N),(105,Ze8 N),(106,Zak N)]⟩
theorem Zmg(N:Nat):GW 60 (Ze4 N):=GF Zmf N Tryz.func60 (GC (Zow N) (GC (Zs0 N) (GC (Zkw N) (GC (Zeb N) Wa))))
def Zil(N:Nat):Sig:=Sig.of [.v Jn true] [.v Jp true,.v Ji true] (λd=>Zdr N d.1)
def Zf5:Fn:=⟨Tryz.f19,λ |6=>[.canon [1,2,3,4,6,7,34]]|7=>[.canon [1,2,3,4,6,7]]|8=>[.canon [1,2,3,4,6,7,8]]|9=>[.canon [1,2,3,4,6,7,8,43]]|10=>[.canon [1,2,3,4,6,7,8,9,10]]|11=>[.canon [1,2,3,4,6,7,8,10]]|12=>[.canon [1,2,3,4,6,7,8,10]]|13=>[.canon [1,2,3,4,6,7]]|14=>[.canon [1,2,3,4,6,7]]|100006=>[.freezeC 6 6,.canon [1,2,3,4,6,7]]|_=>[],Zil,λN=>[(8,Zj1 N),(57,Zjd N),(58,Zjg N),(40,Za6 N),(59,Zkl N),(60,Ze4 N)]⟩
def Zoy(i5:Int)(b6:List Int×List Int×List Kc×List Kj×List Int)(br:Int)(bu:Int)(ax:Int)(aR:Int)(bt:Bool)(bD:List Kb)(hC:List Kb)(aS:List Int)(bq:List Kc)(bo:List Int)(aD:List Kc)(bE:List Y_KidRun):St:=⟨[(1,vP 0 0),(2,vP 1 0),(3,vP 2 0),(4,vP 3 0),(6,vP 4 0),(7,vI i5)],[(0,.box [.val Je b6.1,.val Je b6.2.1,.val Jc b6.2.2.1,.val Js b6.2.2.2.1,.val Je b6.2.2.2.2]),(1,.box [.val Ja (0:Int),.nils]),(2,.box [.val Ja (0:Int),.val Ja (0:Int),.val Ja (0:Int),.val Jr false,.nils,.nils,.nils,.nils,.nils,.nils]),(3,.box [.val Ja br,.own 5]),(4,.box [.val Ja bu,.val Ja ax,.val Ja aR,.val Jr bt,.own 6,.own 7,.val Jl bD,.own 8,.own 9,.own 10]),(5,.arr Jb hC),(6,.arr Ja aS),(7,.arr Jj bq),(8,.arr Ja bo),(9,.arr Jj aD),(10,.arr (TY_KidRun) bE)],11⟩
def Znb(b6:List Int×List Int×List Kc×List Kj×List Int)(m9:Int)(na:Bool)(nb:Int)(fy:Int)(fv:Int)(nc:Int)(gk:Bool)(je:List Kb)(cJ:List Kb)(cA:List Int)(cK:List Kc)(dI:List Int)(jf:List Kc)(jg:List Y_KidRun):St:=⟨[(1,vP 0 0),(2,vP 1 0),(3,vP 2 0),(4,vP 3 0),(6,vP 4 0),(7,vI m9),(34,vB na)],[(0,.box [.val Je b6.1,.val Je b6.2.1,.val Jc b6.2.2.1,.val Js b6.2.2.2.1,.val Je b6.2.2.2.2]),(1,.box [.val Ja (0:Int),.nils]),(2,.box [.val Ja (0:Int),.val Ja (0:Int),.val Ja (0:Int),.val Jr false,.nils,.nils,.nils,.nils,.nils,.nils]),(3,.box [.val Ja nb,.own 5]),(4,.box [.val Ja fy,.val Ja fv,.val Ja nc,.val Jr gk,.own 6,.own 7,.val Jl je,.own 8,.own 9,.own 10]),(5,.arr Jb cJ),(6,.arr Ja cA),(7,.arr Jj cK),(8,.arr Ja dI),(9,.arr Jj jf),(10,.arr (TY_KidRun) jg)],11⟩
theorem Zoz(N:Nat){R:Type}(K:Ex->St->Option R){b6:List Int×List Int×List Kc×List Kj×List Int}{K0:Int->Bool->Int->Int->Int->Int->Bool->Kl->Kl->Kh->Kn->Kh->Kn->(List Y_KidRun)->Option R}(h0:K0= λm9 na nb fy fv nc gk je cJ cA cK dI jf jg=>K (.exit 0) (Znb b6 m9 na nb fy fv nc gk je cJ cA cK dI jf jg))(n:Nat)(i5:Int)(br:Int)(bu:Int)(ax:Int)(aR:Int)(bt:Bool)(bD:List Kb)(hC:List Kb)(aS:List Int)(bq:List Kc)(bo:List Int)(aD:List Kc)(bE:List Y_KidRun):Zaf N b6 K0 n i5 br bu ax aR bt bD hC aS bq bo aD bE=LM Zf5 N 0 100006 n (Zoy i5 b6 br bu ax aR bt bD hC aS bq bo aD bE) K:=by
  subst h0
  induction n generalizing i5 br bu ax aR bt bD hC aS bq bo aD bE with
  |zero=>kernel_rfl
  |succ n ih=>rw[Zaf];simp only[ih];kernel_rfl
theorem Ztv(N:Nat)(s1:List Int×List Int×List Kc×List Kj×List Int):DN Zf5 N (s1,())=Zdr N s1:=by
  conv=>rhs;rw[Zdr];simp(disch:=exact id (by kernel_rfl)) only[Zoz (R:=Unit×(Km×(Y_Family×Unit))) N (CF Zf5 N [1,1,1,1,0,1,0])]
  kernel_rfl
theorem Ztw(N:Nat):GW 19 (Zil N):=GF Zf5 N Tryz.func19 (GC (Zv7 N) (GC (Zu7 N) (GC (Zu9 N) (GC (Zct N) (GC (Zw1 N) (GC (Zmg N) Wa)))))) (λd=>Ztv N d.1)
def Zu(N:Nat):Sig:=Sig.of [.v Ja false,.v Ja false,.v Ja false] [.v Jr false] (λd=>Zi N d.1 d.2.1 d.2.2.1)
def Zve:Fn:=⟨Tryz.f34,WI,Zu,Waw⟩
theorem Zae(N:Nat):GW 34 (Zu N):=GF Zve N Tryz.func34 Wa
def Zj3(N:Nat):Sig:=Sig.of [.v Ja false] [.v Jr false] (λd=>Zf N d.1)
def Zwb:Fn:=⟨Tryz.f167,WI,Zj3,λN=>[(34,Zu N)]⟩
theorem Zwc(N:Nat):GW 167 (Zj3 N):=GF Zwb N Tryz.func167 (GC (Zae N) Wa)
def Zce(N:Nat):Sig:=Sig.of [.v Ja false] [.v Jr false] (λd=>Zba N d.1)
def Ztx:Fn:=⟨Tryz.f98,WI,Zce,λN=>[(34,Zu N)]⟩
theorem Zd3(N:Nat):GW 98 (Zce N):=GF Ztx N Tryz.func98 (GC (Zae N) Wa)
def Zda(N:Nat):Sig:=Sig.of [.v Ja false] [.v Jr false] (λd=>Za5 N d.1)
def Zvf:Fn:=⟨Tryz.f44,WI,Zda,λN=>[(34,Zu N)]⟩
theorem Zg3(N:Nat):GW 44 (Zda N):=GF Zvf N Tryz.func44 (GC (Zae N) Wa)
def Zj4(N:Nat):Sig:=Sig.of [.v Ja false] [.v Jr false] (λd=>Zcl N d.1)
def Zwd:Fn:=⟨Tryz.f168,WI,Zj4,λN=>[(34,Zu N)]⟩
theorem Zwe(N:Nat):GW 168 (Zj4 N):=GF Zwd N Tryz.func168 (GC (Zae N) Wa)
def Zgg(N:Nat):Sig:=Sig.of [.v Jm true] [.v Jr false] (λd=>Zd N d.1)
def Zw4:Fn:=⟨Tryz.f151,WI,Zgg,λN=>[(167,Zj3 N),(98,Zce N),(44,Zda N),(34,Zu N),(168,Zj4 N)]⟩
theorem Zkn(N:Nat):GW 151 (Zgg N):=GF Zw4 N Tryz.func151 (GC (Zwc N) (GC (Zd3 N) (GC (Zg3 N) (GC (Zae N) (GC (Zwe N) Wa)))))
def Zim(N:Nat):Sig:=Sig.of [.v Jm true] [.v Ja false] (λd=>Zfm N d.1)
def Zty:Fn:=⟨Tryz.f126,WI,Zim,λN=>[(151,Zgg N)]⟩
theorem Ztz(N:Nat):GW 126 (Zim N):=GF Zty N Tryz.func126 (GC (Zkn N) Wa)
def Zfu(N:Nat):Sig:=Sig.of [.v Jm true] [.v Ja false] (λd=>Zfn N d.1)
def Zwf:Fn:=⟨Tryz.f169,WI,Zfu,Waw⟩
theorem Zj5(N:Nat):GW 169 (Zfu N):=GF Zwf N Tryz.func169 Wa
def Zgh(N:Nat):Sig:=Sig.of [.v Jh false] [.v Jr false] (λd=>Zbm N d.1)
def Zd5:Fn:=⟨Tryz.f152,λ |3=>[.canon [3,6,7,8,9]]|4=>[.canon [3,5,6,7,8]]|5=>[.canon [3,6,7,8]]|6=>[.canon [3,6,7,8,17]]|7=>[.canon [2]]|8=>[.canon [3,6,7,8]]|100003=>[.canon [3,6,7,8]]|_=>[],Zgh,λN=>[(169,Zfu N)]⟩
def Zll(n2:Int)(t3:List Ka)(t5:Int):St:=⟨[(3,vI n2),(6,vV Jh t3),(7,vI (Wc t3)),(8,vI t5)],[],0⟩
def Zla(t3:List Ka):St:=⟨[(2,vB false)],[],0⟩
def Zlb(t3:List Ka)(n8:Int)(t9:Int)(aM:Bool):St:=⟨[(3,vI n8),(6,vV Jh t3),(7,vI (Wc t3)),(8,vI t9),(9,vB aM)],[],0⟩
theorem Zlm(N:Nat){R:Type}(K:Ex->St->Option R){t3:List Ka}{K0:Option R}{K1:Int->Int->Bool->Option R}(h0:K0=K .ret (Zla t3))(h1:K1= λn8 t9 aM=>K (.exit 0) (Zlb t3 n8 t9 aM))(n:Nat)(n2:Int)(t5:Int):Zaa N t3 K0 K1 n n2 t5=LM Zd5 N 0 100003 n (Zll n2 t3 t5) K:=by
  subst h0 h1
  induction n generalizing n2 t5 with
  |zero=>kernel_rfl
  |succ n ih=>rw[Zaa];simp only[ih];kernel_rfl
theorem Zqu(N:Nat)(ad:List Ka):DN Zd5 N (ad,())=Zbm N ad:=by
  conv=>rhs;rw[Zbm];simp(disch:=exact id (by kernel_rfl)) only[Zlm (R:=Unit×Kk) N (CF Zd5 N [1,1,0,1,0])]
  kernel_rfl
theorem Zqv(N:Nat):GW 152 (Zgh N):=GF Zd5 N Tryz.func152 (GC (Zj5 N) Wa) (λd=>Zqu N d.1)
def Zin(N:Nat):Sig:=Sig.of [.v Jh false,.v Ja false] [.v Ja false] (λd=>Zds N d.1 d.2.1)
def Zf6:Fn:=⟨Tryz.f153,λ |3=>[.canon [1,5,8,9,10,11]]|4=>[.canon [1,5,6,7,8,9,10]]|5=>[.canon [1,5,7,8,9,10,17]]|6=>[.canon [1,5,8,9,10]]|7=>[.canon [1,5,8,9,10]]|100003=>[.canon [1,5,8,9,10]]|_=>[],Zin,λN=>[(169,Zfu N)]⟩
def Zo0(i3:Int)(n4:Int)(t5:List Ka)(t7:Int):St:=⟨[(1,vI i3),(5,vI n4),(8,vV Jh t5),(9,vI (Wc t5)),(10,vI t7)],[],0⟩
def Znc(i3:Int)(t5:List Ka)(nd:Int)(aC:Int)(aU:Bool):St:=⟨[(1,vI i3),(5,vI nd),(8,vV Jh t5),(9,vI (Wc t5)),(10,vI aC),(11,vB aU)],[],0⟩
theorem Zo1(N:Nat){R:Type}(K:Ex->St->Option R){i3:Int}{t5:List Ka}{K0:Int->Int->Bool->Option R}(h0:K0= λnd aC aU=>K (.exit 0) (Znc i3 t5 nd aC aU))(n:Nat)(n4:Int)(t7:Int):Zag N i3 t5 K0 n n4 t7=LM Zf6 N 0 100003 n (Zo0 i3 n4 t5 t7) K:=by
  subst h0
  induction n generalizing n4 t7 with
  |zero=>kernel_rfl
  |succ n ih=>rw[Zag];simp only[ih];kernel_rfl
theorem Zt0(N:Nat)(ad:List Ka)(i2:Int):DN Zf6 N (ad,i2,())=Zds N ad i2:=by
  conv=>rhs;rw[Zds];simp(disch:=exact id (by kernel_rfl)) only[Zo1 (R:=Unit×Kg) N (CF Zf6 N [1,1,0,1,0])]
  kernel_rfl
theorem Zt1(N:Nat):GW 153 (Zin N):=GF Zf6 N Tryz.func153 (GC (Zj5 N) Wa) (λd=>Zt0 N d.1 d.2.1)
def Zjj(N:Nat):Sig:=Sig.of [.v Jh false] [.v Jr false] (λd=>Zdh N d.1)
def Zg4:Fn:=⟨Tryz.f127,λ |5=>[.canon [0,3,14,15,16,17]]|6=>[.canon [0,3,4,5,14,15,16]]|7=>[.canon [0,3,4,5,14,15,16,23]]|8=>[.canon [2]]|9=>[.canon [0,3,4,5,14,15,16,25]]|10=>[.canon [0,3,4,5,14,15,16,25,26]]|11=>[.canon [0,3,14,15,16,48]]|12=>[.canon [2]]|13=>[.canon [0,3,4,14,15,16,49]]|14=>[.canon [0,3,4,14,15,16]]|15=>[.canon [0,3,14,15,16,60]]|16=>[.canon [2]]|17=>[.canon [0,3,14,15,16]]|100005=>[.canon [0,3,14,15,16]]|_=>[],Zjj,λN=>[(152,Zgh N),(151,Zgg N),(153,Zin N)]⟩
def Zqw(aa:List Ka)(am:Int)(t7:Int):St:=⟨[(0,vV Jh aa),(3,vI am),(14,vV Jh aa),(15,vI (Wc aa)),(16,vI t7)],[],0⟩
def Zo2(aa:List Ka):St:=⟨[(2,vB false)],[],0⟩
def Zo3(aa:List Ka)(dp:Int)(gD:Int)(gE:Bool):St:=⟨[(0,vV Jh aa),(3,vI dp),(14,vV Jh aa),(15,vI (Wc aa)),(16,vI gD),(17,vB gE)],[],0⟩
theorem Zqx(N:Nat){R:Type}(K:Ex->St->Option R){aa:List Ka}{K0:Option R}{K1:Int->Int->Bool->Option R}(h0:K0=K .ret (Zo2 aa))(h1:K1= λdp gD gE=>K (.exit 0) (Zo3 aa dp gD gE))(n:Nat)(am:Int)(t7:Int):Z8 N aa K0 K1 n am t7=LM Zg4 N 0 100005 n (Zqw aa am t7) K:=by
  subst h0 h1
  induction n generalizing am t7 with
  |zero=>kernel_rfl
  |succ n ih=>rw[Z8];simp only[ih];kernel_rfl
theorem Zvg(N:Nat)(ad:List Ka):DN Zg4 N (ad,())=Zdh N ad:=by
  conv=>rhs;rw[Zdh];simp(disch:=exact id (by kernel_rfl)) only[Zqx (R:=Unit×Kk) N (CF Zg4 N [1,1,1,0,1,0])]
  kernel_rfl
theorem Zvh(N:Nat):GW 127 (Zjj N):=GF Zg4 N Tryz.func127 (GC (Zqv N) (GC (Zkn N) (GC (Zt1 N) Wa))) (λd=>Zvg N d.1)
def Zj6(N:Nat):Sig:=Sig.of [.v Jh false] [.v Jr false] (λd=>Zdz N d.1)
def Zhu:Fn:=⟨Tryz.f84,λ |2=>[.canon [0,5,6,7,8]]|3=>[.canon [0,4,5,6,7]]|4=>[.canon [0,5,6,7,18]]|5=>[.canon [2]]|6=>[.canon [0,5,6,7]]|100002=>[.canon [0,5,6,7]]|_=>[],Zj6,λN=>[(126,Zim N),(127,Zjj N)]⟩
def Zr7(ab:List Ka)(t5:Int):St:=⟨[(0,vV Jh ab),(5,vV Jh ab),(6,vI (Wc ab)),(7,vI t5)],[],0⟩
def Zqy(ab:List Ka):St:=⟨[(2,vB false)],[],0⟩
def Zqz(ab:List Ka)(t8:Int)(t9:Bool):St:=⟨[(0,vV Jh ab),(5,vV Jh ab),(6,vI (Wc ab)),(7,vI t8),(8,vB t9)],[],0⟩
theorem Zr8(N:Nat){R:Type}(K:Ex->St->Option R){ab:List Ka}{K0:Option R}{K1:Int->Bool->Option R}(h0:K0=K .ret (Zqy ab))(h1:K1= λt8 t9=>K (.exit 0) (Zqz ab t8 t9))(n:Nat)(t5:Int):Zb8 N ab K0 K1 n t5=LM Zhu N 0 100002 n (Zr7 ab t5) K:=by
  subst h0 h1
  induction n generalizing t5 with
  |zero=>kernel_rfl
  |succ n ih=>rw[Zb8];simp only[ih];kernel_rfl
theorem Zwg(N:Nat)(ad:List Ka):DN Zhu N (ad,())=Zdz N ad:=by
  conv=>rhs;rw[Zdz];simp(disch:=exact id (by kernel_rfl)) only[Zr8 (R:=Unit×Kk) N (CF Zhu N [1,0,1,0])]
  kernel_rfl
theorem Zwh(N:Nat):GW 84 (Zj6 N):=GF Zhu N Tryz.func84 (GC (Ztz N) (GC (Zvh N) Wa)) (λd=>Zwg N d.1)
def Zc2(N:Nat):Sig:=Sig.of [.v Je false,.v Ja false] [.v Jr false] (λd=>Zx N d.1 d.2.1)
def Zev:Fn:=⟨Tryz.f50,λ |2=>[.canon [0,1,7,8,9,10]]|3=>[.canon [0,1,6,7,8,9]]|4=>[.canon [0,1,7,8,9,15]]|5=>[.canon [4]]|6=>[.canon [0,1,7,8,9]]|100002=>[.canon [0,1,7,8,9]]|_=>[],Zc2,λN=>[(98,Zce N)]⟩
def Zmh(l3:List Int)(n4:Int)(t7:Int):St:=⟨[(0,vV Je l3),(1,vI n4),(7,vV Je l3),(8,vI (Wc l3)),(9,vI t7)],[],0⟩
def Zln(l3:List Int)(n4:Int):St:=⟨[(4,vB false)],[],0⟩
def Zlo(l3:List Int)(n4:Int)(aM:Int)(aC:Bool):St:=⟨[(0,vV Je l3),(1,vI n4),(7,vV Je l3),(8,vI (Wc l3)),(9,vI aM),(10,vB aC)],[],0⟩
theorem Zmi(N:Nat){R:Type}(K:Ex->St->Option R){l3:List Int}{n4:Int}{K0:Option R}{K1:Int->Bool->Option R}(h0:K0=K .ret (Zln l3 n4))(h1:K1= λaM aC=>K (.exit 0) (Zlo l3 n4 aM aC))(n:Nat)(t7:Int):Zo N l3 n4 K0 K1 n t7=LM Zev N 0 100002 n (Zmh l3 n4 t7) K:=by
  subst h0 h1
  induction n generalizing t7 with
  |zero=>kernel_rfl
  |succ n ih=>rw[Zo];simp only[ih];kernel_rfl
theorem Zr9(N:Nat)(l1:List Int)(n2:Int):DN Zev N (l1,n2,())=Zx N l1 n2:=by
  conv=>rhs;rw[Zx];simp(disch:=exact id (by kernel_rfl)) only[Zmi (R:=Unit×Kk) N (CF Zev N [1,0,1,0])]
  kernel_rfl
theorem Zhc(N:Nat):GW 50 (Zc2 N):=GF Zev N Tryz.func50 (GC (Zd3 N) Wa) (λd=>Zr9 N d.1 d.2.1)
def Zew(N:Nat):Sig:=Sig.of [.v Jc false] [.v Jr false] (λd=>Zcs N d.1)
def Zg5:Fn:=⟨Tryz.f52,λ |2=>[.canon [0,5,6,7,8]]|3=>[.canon [0,4,5,6,7]]|4=>[.canon [0,5,6,7,20]]|5=>[.canon [2]]|6=>[.canon [0,5,6,7]]|100002=>[.canon [0,5,6,7]]|_=>[],Zew,λN=>[(44,Zda N),(98,Zce N)]⟩
def Zq0(l2:List Kc)(t5:Int):St:=⟨[(0,vV Jc l2),(5,vV Jc l2),(6,vI (Wc l2)),(7,vI t5)],[],0⟩
def Zo4(l2:List Kc):St:=⟨[(2,vB false)],[],0⟩
def Zo5(l2:List Kc)(aM:Int)(aC:Bool):St:=⟨[(0,vV Jc l2),(5,vV Jc l2),(6,vI (Wc l2)),(7,vI aM),(8,vB aC)],[],0⟩
theorem Zq1(N:Nat){R:Type}(K:Ex->St->Option R){l2:List Kc}{K0:Option R}{K1:Int->Bool->Option R}(h0:K0=K .ret (Zo4 l2))(h1:K1= λaM aC=>K (.exit 0) (Zo5 l2 aM aC))(n:Nat)(t5:Int):Zbn N l2 K0 K1 n t5=LM Zg5 N 0 100002 n (Zq0 l2 t5) K:=by
  subst h0 h1
  induction n generalizing t5 with
  |zero=>kernel_rfl
  |succ n ih=>rw[Zbn];simp only[ih];kernel_rfl
theorem Zvi(N:Nat)(l1:List Kc):DN Zg5 N (l1,())=Zcs N l1:=by
  conv=>rhs;rw[Zcs];simp(disch:=exact id (by kernel_rfl)) only[Zq1 (R:=Unit×Kk) N (CF Zg5 N [1,0,1,0])]
  kernel_rfl
theorem Zjk(N:Nat):GW 52 (Zew N):=GF Zg5 N Tryz.func52 (GC (Zg3 N) (GC (Zd3 N) Wa)) (λd=>Zvi N d.1)
def Zj7(N:Nat):Sig:=Sig.of [.v Jn true] [.v Jr false] (λd=>Zfo N d.1)
def Zhv:Fn:=⟨Tryz.f31,λ |2=>[.canon [1,6,7,8,9]]|3=>[.canon [1,4,6,7,8]]|4=>[.canon [1,6,7,8,15]]|5=>[.canon [2]]|6=>[.canon [1,6,7,8]]|100002=>[.canon [1,6,7,8]]|_=>[],Zj7,λN=>[(84,Zj6 N),(50,Zc2 N),(52,Zew N),(34,Zu N)]⟩
def Zsa(t2:List Kj)(t4:Int)(b5:List Int×List Int×List Kc×List Kj×List Int):St:=⟨[(1,vP 0 0),(6,vV Js t2),(7,vI (Wc b5.2.2.2.1)),(8,vI t4)],[(0,.box [.val Je b5.1,.val Je b5.2.1,.val Jc b5.2.2.1,.val Js b5.2.2.2.1,.val Je b5.2.2.2.2])],1⟩
def Zq2(t2:List Kj)(b5:List Int×List Int×List Kc×List Kj×List Int):St:=⟨[(2,vB false)],[],0⟩
def Zq3(t2:List Kj)(b5:List Int×List Int×List Kc×List Kj×List Int)(t8:Int)(t9:Bool):St:=⟨[(1,vP 0 0),(6,vV Js t2),(7,vI (Wc b5.2.2.2.1)),(8,vI t8),(9,vB t9)],[(0,.box [.val Je b5.1,.val Je b5.2.1,.val Jc b5.2.2.1,.val Js b5.2.2.2.1,.val Je b5.2.2.2.2])],1⟩
theorem Zsb(N:Nat){R:Type}(K:Ex->St->Option R){t2:List Kj}{b5:List Int×List Int×List Kc×List Kj×List Int}{K0:Option R}{K1:Int->Bool->Option R}(h0:K0=K .ret (Zq2 t2 b5))(h1:K1= λt8 t9=>K (.exit 0) (Zq3 t2 b5 t8 t9))(n:Nat)(t4:Int):Zb9 N t2 b5 K0 K1 n t4=LM Zhv N 0 100002 n (Zsa t2 t4 b5) K:=by
  subst h0 h1
  induction n generalizing t4 with
  |zero=>kernel_rfl
  |succ n ih=>rw[Zb9];simp only[ih];kernel_rfl
theorem Zwi(N:Nat)(s1:List Int×List Int×List Kc×List Kj×List Int):DN Zhv N (s1,())=Zfo N s1:=by
  conv=>rhs;rw[Zfo];simp(disch:=exact id (by kernel_rfl)) only[Zsb (R:=Unit×Kk) N (CF Zhv N [1,0,1,0])]
  kernel_rfl
theorem Zwj(N:Nat):GW 31 (Zj7 N):=GF Zhv N Tryz.func31 (GC (Zwh N) (GC (Zhc N) (GC (Zjk N) (GC (Zae N) Wa)))) (λd=>Zwi N d.1)
def Zjl(N:Nat):Sig:=Sig.of [.v Je false] [.v Jp true,.v Jr false] (λd=>Zem N d.1)
def Zg6:Fn:=⟨Tryz.f32,λ |5=>[.canon [2,4,12,13,14,15]]|6=>[.canon [2,4,6,12,13,14]]|7=>[.canon [2,4,12,13,14]]|8=>[.canon [2,4,12,13,14]]|100005=>[.adoptC 4 1 Jb,.canon [2,4,12,13,14]]|_=>[],Zjl,λN=>[(50,Zc2 N)]⟩
def Zq4(t3:List Int)(t5:Int)(l8:List Kb):St:=⟨[(2,vP 0 0),(4,vP 1 0),(12,vV Je t3),(13,vI (Wc t3)),(14,vI t5)],[(0,.box [.val Ja (0:Int),.nils]),(1,.box [.val Ja (0:Int),.own 2]),(2,.arr Jb l8)],3⟩
def Zo6(t3:List Int)(t9:Int)(aM:Bool)(eJ:List Kb):St:=⟨[(2,vP 0 0),(4,vP 1 0),(12,vV Je t3),(13,vI (Wc t3)),(14,vI t9),(15,vB aM)],[(0,.box [.val Ja (0:Int),.nils]),(1,.box [.val Ja (0:Int),.own 2]),(2,.arr Jb eJ)],3⟩
theorem Zq5(N:Nat){R:Type}(K:Ex->St->Option R){t3:List Int}{K0:Int->Bool->Kl->Option R}(h0:K0= λt9 aM eJ=>K (.exit 0) (Zo6 t3 t9 aM eJ))(n:Nat)(t5:Int)(l8:List Kb):Zbo N t3 K0 n t5 l8=LM Zg6 N 0 100005 n (Zq4 t3 t5 l8) K:=by
  subst h0
  induction n generalizing t5 l8 with
  |zero=>kernel_rfl
  |succ n ih=>rw[Zbo];simp only[ih];kernel_rfl
theorem Zvj(N:Nat)(l1:List Int):DN Zg6 N (l1,())=Zem N l1:=by
  conv=>rhs;rw[Zem];simp(disch:=exact id (by kernel_rfl)) only[Zq5 (R:=Unit×(Km×Kk)) N (CF Zg6 N [1,1,1,0,1,0])]
  kernel_rfl
theorem Zvk(N:Nat):GW 32 (Zjl N):=GF Zg6 N Tryz.func32 (GC (Zhc N) Wa) (λd=>Zvj N d.1)
def Zbu(N:Nat):Sig:=Sig.of [.v Je false] [.v Jv false] (λd=>Z2 N d.1)
def Zs1:Fn:=⟨Tryz.f51,WI,Zbu,Waw⟩
theorem Zdj(N:Nat):GW 51 (Zbu N):=GF Zs1 N Tryz.func51 Wa
def Zig(N:Nat):Sig:=Sig.of [.v Jc false,.v Ja false] [.v Ja false,.v Jr false] (λd=>Ze2 N d.1 d.2.1)
def Zih:Fn:=⟨Tryz.f128,λ |4=>[.canon [0,1,6,14]]|5=>[.canon [0,1,6]]|6=>[.canon [0,1,6,23]]|7=>[.canon [4,5]]|100004=>[.canon [0,1,6]]|_=>[],Zig,λN=>[(52,Zew N)]⟩
def Zs2(l4:List Kc)(aw:Int)(i6:Int):St:=⟨[(0,vV Jc l4),(1,vI aw),(6,vI i6)],[],0⟩
def Zsc(l4:List Kc)(aw:Int)(t7:Int):St:=⟨[(4,vI t7),(5,vB true)],[],0⟩
def Zsd(l4:List Kc)(aw:Int)(i8:Int)(t9:Bool):St:=⟨[(0,vV Jc l4),(1,vI aw),(6,vI i8),(14,vB t9)],[],0⟩
theorem Zs3(N:Nat){R:Type}(K:Ex->St->Option R){l4:List Kc}{aw:Int}{K0:Int->Option R}{K1:Int->Bool->Option R}(h0:K0= λt7=>K .ret (Zsc l4 aw t7))(h1:K1= λi8 t9=>K (.exit 0) (Zsd l4 aw i8 t9))(n:Nat)(i6:Int):Zc5 N l4 aw K0 K1 n i6=LM Zih N 0 100004 n (Zs2 l4 aw i6) K:=by
  subst h0 h1
  induction n generalizing i6 with
  |zero=>kernel_rfl
  |succ n ih=>rw[Zc5];simp only[ih];kernel_rfl
theorem Zw5(N:Nat)(l1:List Kc)(aZ:Int):DN Zih N (l1,aZ,())=Ze2 N l1 aZ:=by
  conv=>rhs;rw[Ze2];simp(disch:=exact id (by kernel_rfl)) only[Zs3 (R:=Unit×Ki) N (CF Zih N [1,1,0,1,0])]
  kernel_rfl
theorem Zpu(N:Nat):GW 128 (Zig N):=GF Zih N Tryz.func128 (GC (Zjk N) Wa) (λd=>Zw5 N d.1 d.2.1)
def Zjm(N:Nat):Sig:=Sig.of [.v Jc false] [.v Jd false] (λd=>Zer N d.1)
def Zjn:Fn:=⟨Tryz.f85,λ |5=>[.canon [0,3,11,12]]|6=>[.canon [0,3,4,11]]|7=>[.canon [0,3,4,5,6,11]]|8=>[.canon [0,3,4,5,11,20]]|9=>[.canon [0,3,11]]|10=>[.canon [0,3,11]]|100005=>[.canon [0,3,11]]|_=>[],Zjm,λN=>[(52,Zew N),(128,Zig N)]⟩
def Zt2(l3:List Kc)(t4:Int)(l5:List Kc):St:=⟨[(0,vV Jc l3),(3,vO 0),(11,vI t4)],[(0,.arr Jj l5)],1⟩
def Zs4(l3:List Kc)(t7:Int)(t8:Bool)(l9:List Kc):St:=⟨[(0,vV Jc l3),(3,vO 0),(11,vI t7),(12,vB t8)],[(0,.arr Jj l9)],1⟩
theorem Zt3(N:Nat){R:Type}(K:Ex->St->Option R){l3:List Kc}{K0:Int->Bool->Kn->Option R}(h0:K0= λt7 t8 l9=>K (.exit 0) (Zs4 l3 t7 t8 l9))(n:Nat)(t4:Int)(l5:List Kc):Zcw N l3 K0 n t4 l5=LM Zjn N 0 100005 n (Zt2 l3 t4 l5) K:=by
  subst h0
  induction n generalizing t4 l5 with
  |zero=>kernel_rfl
  |succ n ih=>rw[Zcw];simp only[ih];kernel_rfl
theorem Zxd(N:Nat)(l1:List Kc):DN Zjn N (l1,())=Zer N l1:=by
  conv=>rhs;rw[Zer];simp(disch:=exact id (by kernel_rfl)) only[Zt3 (R:=Unit×Kq) N (CF Zjn N [1,1,1,0,1,0])]
  kernel_rfl
theorem Zse(N:Nat):GW 85 (Zjm N):=GF Zjn N Tryz.func85 (GC (Zjk N) (GC (Zpu N) Wa)) (λd=>Zxd N d.1)
def Zh3(N:Nat):Sig:=Sig.of [.v Ja false,.v Je false,.v Jc false,.v Ja false] [.v Jk true] (λd=>Zc6 N d.1 d.2.1 d.2.2.1 d.2.2.2.1)
def Zcp:Fn:=⟨Tryz.f33,λ |3=>[.canon [1,3,8,9,19,20,21,22]]|4=>[.canon [1,3,8,9,11,19,20,21]]|5=>[.canon [1,3,8,9,19,20,21]]|6=>[.canon [1,3,8,9,19,20,21]]|8=>[.canon [1,8,9,36,37,38]]|9=>[.nest 44 Jg,.canon [1,8,9,36,37]]|10=>[.canon [1,8,9,36,37]]|100003=>[.adoptC 9 6 Jb,.canon [1,3,8,9,19,20,21]]|100008=>[.adoptC 9 9 Jg,.canon [1,8,9,36,37]]|_=>[],Zh3,λN=>[(51,Zbu N),(85,Zjm N)]⟩
def Znd(cb:List Int)(cd:Int)(t9:Int)(aM:Int)(aR:Int)(aS:List Kc)(bq:List Int)(bo:List Kb):St:=⟨[(1,vV Je cb),(3,vI cd),(8,vP 0 0),(9,vP 1 0),(19,vO 2),(20,vI t9),(21,vI aM)],[(0,.box [.val Ja (0:Int),.val Ja (0:Int),.val Ja (0:Int),.val Jr false,.nils,.nils,.nils,.nils,.nils,.nils]),(1,.box [.val Ja aR,.val Ja (0:Int),.val Ja (0:Int),.val Jr false,.own 3,.own 2,.own 4,.nils,.nils,.nils]),(2,.arr Jj aS),(3,.arr Ja bq),(4,.arr Jb bo)],5⟩
def Zmj(cb:List Int)(cd:Int)(t9:Int)(aR:Int)(aS:List Kc)(bq:List Int)(t22:Int)(nf:Bool)(bR:List Kb):St:=⟨[(1,vV Je cb),(3,vI cd),(8,vP 0 0),(9,vP 1 0),(19,vO 2),(20,vI t9),(21,vI t22),(22,vB nf)],[(0,.box [.val Ja (0:Int),.val Ja (0:Int),.val Ja (0:Int),.val Jr false,.nils,.nils,.nils,.nils,.nils,.nils]),(1,.box [.val Ja aR,.val Ja (0:Int),.val Ja (0:Int),.val Jr false,.own 3,.own 2,.own 4,.nils,.nils,.nils]),(2,.arr Jj aS),(3,.arr Ja bq),(4,.arr Jb bR)],5⟩
theorem Zne(N:Nat){R:Type}(K:Ex->St->Option R){cb:List Int}{cd:Int}{t9:Int}{aR:Int}{aS:List Kc}{bq:List Int}{K0:Int->Bool->Kl->Option R}(h0:K0= λt22 nf bR=>K (.exit 0) (Zmj cb cd t9 aR aS bq t22 nf bR))(n:Nat)(aM:Int)(bo:List Kb):Zao N cb cd t9 aR aS bq K0 n aM bo=LM Zcp N 0 100003 n (Znd cb cd t9 aM aR aS bq bo) K:=by
  subst h0
  induction n generalizing aM bo with
  |zero=>kernel_rfl
  |succ n ih=>rw[Zao];simp only[ih];kernel_rfl
def Znf(bm:List Int)(gh:Int)(gG:Int)(fy:Int)(hI:List Int)(cJ:List Kc)(cA:List Kb)(cK:List Y_KidRun):St:=⟨[(1,vV Je bm),(8,vP 0 0),(9,vP 1 0),(36,vI gh),(37,vI gG)],[(0,.box [.val Ja (0:Int),.val Ja (0:Int),.val Ja (0:Int),.val Jr false,.nils,.nils,.nils,.nils,.nils,.nils]),(1,.box [.val Ja fy,.val Ja (0:Int),.val Ja (0:Int),.val Jr false,.own 2,.own 3,.own 4,.nils,.nils,.own 5]),(2,.arr Ja hI),(3,.arr Jj cJ),(4,.arr Jb cA),(5,.arr Jg cK)],6⟩
def Zmk(bm:List Int)(gh:Int)(fy:Int)(hI:List Int)(cJ:List Kc)(cA:List Kb)(t45:Int)(t46:Bool)(jh:List Y_KidRun):St:=⟨[(1,vV Je bm),(8,vP 0 0),(9,vP 1 0),(36,vI gh),(37,vI t45),(38,vB t46)],[(0,.box [.val Ja (0:Int),.val Ja (0:Int),.val Ja (0:Int),.val Jr false,.nils,.nils,.nils,.nils,.nils,.nils]),(1,.box [.val Ja fy,.val Ja (0:Int),.val Ja (0:Int),.val Jr false,.own 2,.own 3,.own 4,.nils,.nils,.own 5]),(2,.arr Ja hI),(3,.arr Jj cJ),(4,.arr Jb cA),(5,.arr Jg jh)],6⟩
theorem Zng(N:Nat){R:Type}(K:Ex->St->Option R){bm:List Int}{gh:Int}{fy:Int}{hI:List Int}{cJ:List Kc}{cA:List Kb}{K0:Int->Bool->(List Y_KidRun)->Option R}(h0:K0= λt45 t46 jh=>K (.exit 2) (Zmk bm gh fy hI cJ cA t45 t46 jh))(n:Nat)(gG:Int)(cK:List Y_KidRun):Zy N bm gh fy hI cJ cA K0 n gG cK=LM Zcp N 1 100008 n (Znf bm gh gG fy hI cJ cA cK) K:=by
  subst h0
  induction n generalizing gG cK with
  |zero=>kernel_rfl
  |succ n ih=>rw[Zy];simp only[ih];kernel_rfl
theorem Zs5(N:Nat)(fw:Int)(ai:List Int)(aV:List Kc)(bH:Int):DN Zcp N (fw,ai,aV,bH,())=Zc6 N fw ai aV bH:=by
  conv=>rhs;rw[Zc6];simp(disch:=exact id (by kernel_rfl)) only[Zne (R:=Unit×(Y_Family×Unit)) N (CF Zcp N [1,1,0,1,0]),Zng (R:=Unit×(Y_Family×Unit)) N (CF Zcp N [1,1,1,0,1,0])]
  kernel_rfl
theorem Zs6(N:Nat):GW 33 (Zh3 N):=GF Zcp N Tryz.func33 (GC (Zdj N) (GC (Zse N) Wa)) (λd=>Zs5 N d.1 d.2.1 d.2.2.1 d.2.2.2.1)
def Zec(N:Nat):Sig:=Sig.of [.v Jb true,.box Ja] [.v Jr false] (λd=>Zfp N d.1 d.2.1)
def Zlp:Fn:=⟨Tryz.f135,WI,Zec,Waw⟩
theorem Zlq(N:Nat):GW 135 (Zec N):=GF Zlp N Tryz.func135 Wa
def Zj(N:Nat):Sig:=Sig.of [.v Jl false,.clos 135 1,.box Ja] [.v Ja false] (λd=>Zb N d.1 d.2.1)
def Zg:Fn:=⟨Tryz.f134,λ |2=>[.canon [0,1,7,8,9]]|3=>[.canon [0,1,5,7,8]]|4=>[.canon [0,1,5,7,8,16]]|5=>[.canon [1,4]]|6=>[.canon [0,1,7,8]]|100002=>[.canon [0,1,7,8]]|_=>[],Zj,λN=>[(135,Zec N)]⟩
def Zbb(s3:List Kb)(t5:Int)(b6:Int):St:=⟨[(0,vV Jl s3),(1,.s (.one (.clos 135 [0]))),(7,vI (Wc s3)),(8,vI t5)],[(0,.box [.val Ja b6])],1⟩
def Za7(s3:List Kb)(t9:Int)(ca:Int):St:=⟨[(1,.s (.one (.clos 135 [0]))),(4,vI t9)],[(0,.box [.val Ja ca])],1⟩
def Za8(s3:List Kb)(aC:Int)(aU:Bool)(bu:Int):St:=⟨[(0,vV Jl s3),(1,.s (.one (.clos 135 [0]))),(7,vI (Wc s3)),(8,vI aC),(9,vB aU)],[(0,.box [.val Ja bu])],1⟩
theorem Zbc(N:Nat){R:Type}(K:Ex->St->Option R){s3:List Kb}{K0:Int->Int->Option R}{K1:Int->Bool->Int->Option R}(h0:K0= λt9 ca=>K .ret (Za7 s3 t9 ca))(h1:K1= λaC aU bu=>K (.exit 0) (Za8 s3 aC aU bu))(n:Nat)(t5:Int)(b6:Int):Za N s3 K0 K1 n t5 b6=LM Zg N 0 100002 n (Zbb s3 t5 b6) K:=by
  subst h0 h1
  induction n generalizing t5 b6 with
  |zero=>kernel_rfl
  |succ n ih=>rw[Za];simp only[ih];kernel_rfl
theorem Zb0(N:Nat)(s1:List Kb)(hJ:Int):DN Zg N (s1,hJ,())=Zb N s1 hJ:=by
  conv=>rhs;rw[Zb];simp(disch:=exact id (by kernel_rfl)) only[Zbc (R:=Kg×Kg) N (CF Zg N [1,0,1,0])]
  kernel_rfl
theorem Zb1(N:Nat):GW 134 (Zj N):=GF Zg N Tryz.func134 (GC (Zlq N) Wa) (λd=>Zb0 N d.1 d.2.1)
def Zcj(N:Nat):Sig:=Sig.of [.rp (TY_Family),.v Ja false] [.v Ja false] (λd=>Zap N d.1 d.2.1)
def Znh:Fn:=⟨Tryz.f88,WI,Zcj,λN=>[(134,Zj N)]⟩
theorem Zfv(N:Nat):GW 88 (Zcj N):=GF Znh N Tryz.func88 (GC (Zb1 N) Wa)
def Zcu(N:Nat):Sig:=Sig.of [.box Jk,.v Ja false] [] (λd=>Zz N d.1 d.2.1)
def Zlr:Fn:=⟨Tryz.f89,WI,Zcu,λN=>[(51,Zbu N)]⟩
theorem Zh0(N:Nat):GW 89 (Zcu N):=GF Zlr N Tryz.func89 (GC (Zdj N) Wa)
def Zh4(N:Nat):Sig:=Sig.of [.v Ja false] [.v Jm true,.v Jr false] (λd=>Zgm N d.1)
def Zs7:Fn:=⟨Tryz.f154,WI,Zh4,λN=>[(44,Zda N)]⟩
theorem Zs8(N:Nat):GW 154 (Zh4 N):=GF Zs7 N Tryz.func154 (GC (Zg3 N) Wa)
def Zhw(N:Nat):Sig:=Sig.of [.v Jt true] [.v Jr false] (λd=>Zd0 N d.1)
def Zhx:Fn:=⟨Tryz.f91,λ |2=>[.canon [1,6,7,8,9]]|3=>[.canon [1,4,6,7,8]]|4=>[.canon [1,6,7,8,29]]|5=>[.canon [2]]|6=>[.canon [1,6,7,8]]|100002=>[.canon [1,6,7,8]]|_=>[],Zhw,λN=>[(98,Zce N),(34,Zu N)]⟩
def Zsf(t2:List Kb)(t4:Int)(b5:Int×List Kb):St:=⟨[(1,vP 0 0),(6,vV Jl t2),(7,vI (Wc b5.2)),(8,vI t4)],[(0,.box [.val Ja b5.1,.val Jl b5.2])],1⟩
def Zq6(t2:List Kb)(b5:Int×List Kb):St:=⟨[(2,vB false)],[],0⟩
def Zq7(t2:List Kb)(b5:Int×List Kb)(aU:Int)(cX:Bool):St:=⟨[(1,vP 0 0),(6,vV Jl t2),(7,vI (Wc b5.2)),(8,vI aU),(9,vB cX)],[(0,.box [.val Ja b5.1,.val Jl b5.2])],1⟩
theorem Zsg(N:Nat){R:Type}(K:Ex->St->Option R){t2:List Kb}{b5:Int×List Kb}{K0:Option R}{K1:Int->Bool->Option R}(h0:K0=K .ret (Zq6 t2 b5))(h1:K1= λaU cX=>K (.exit 0) (Zq7 t2 b5 aU cX))(n:Nat)(t4:Int):Zca N t2 b5 K0 K1 n t4=LM Zhx N 0 100002 n (Zsf t2 t4 b5) K:=by
  subst h0 h1
  induction n generalizing t4 with
  |zero=>kernel_rfl
  |succ n ih=>rw[Zca];simp only[ih];kernel_rfl
theorem Zwk(N:Nat)(m1:Int×List Kb):DN Zhx N (m1,())=Zd0 N m1:=by
  conv=>rhs;rw[Zd0];simp(disch:=exact id (by kernel_rfl)) only[Zsg (R:=Unit×Kk) N (CF Zhx N [1,0,1,0])]
  kernel_rfl
theorem Zni(N:Nat):GW 91 (Zhw N):=GF Zhx N Tryz.func91 (GC (Zd3 N) (GC (Zae N) Wa)) (λd=>Zwk N d.1)
def Zio(N:Nat):Sig:=Sig.of [.v Jm true] [.v Jr false] (λd=>Zhj N d.1)
def Zt4:Fn:=⟨Tryz.f170,WI,Zio,λN=>[(44,Zda N),(34,Zu N),(98,Zce N)]⟩
theorem Zt5(N:Nat):GW 170 (Zio N):=GF Zt4 N Tryz.func170 (GC (Zg3 N) (GC (Zae N) (GC (Zd3 N) Wa)))
def Zhd(N:Nat):Sig:=Sig.of [.v Jt true,.v Ja false,.v Jm true] [.v Jm true] (λd=>Zd1 N d.1 d.2.1 d.2.2.1)
def Zsh:Fn:=⟨Tryz.f155,WI,Zhd,λN=>[(91,Zhw N),(170,Zio N)]⟩
theorem Zsi(N:Nat):GW 155 (Zhd N):=GF Zsh N Tryz.func155 (GC (Zni N) (GC (Zt5 N) Wa))
def Zf7(N:Nat):Sig:=Sig.of [.box Jk,.v Ja false,.v Jm true,.v Jt true] [] (λd=>Zes N d.1 d.2.1 d.2.2.1 d.2.2.2.1)
def Zo7:Fn:=⟨Tryz.f129,λ |1=>[.opn 18]|_=>[],Zf7,λN=>[(128,Zig N),(88,Zcj N),(89,Zcu N),(154,Zh4 N),(155,Zhd N)]⟩
theorem Zo8(N:Nat):GW 129 (Zf7 N):=GF Zo7 N Tryz.func129 (GC (Zpu N) (GC (Zfv N) (GC (Zh0 N) (GC (Zs8 N) (GC (Zsi N) Wa)))))
def Zh5(N:Nat):Sig:=Sig.of [.v Jc false] [.v Jd false] (λd=>Zgn N d.1)
def Zs9:Fn:=⟨Tryz.f156,WI,Zh5,Waw⟩
theorem Zta(N:Nat):GW 156 (Zh5 N):=GF Zs9 N Tryz.func156 Wa
def Zj8(N:Nat):Sig:=Sig.of [.v Jh false,.v Ja false] [.v Ja false] (λd=>Zfq N d.1 d.2.1)
def Zhy:Fn:=⟨Tryz.f157,λ |5=>[.canon [0,5,6,25]]|6=>[.canon [0,5,6]]|7=>[.canon [0,5,6]]|8=>[.canon [0,5,6,36]]|9=>[.canon [4]]|100005=>[.canon [0,5,6]]|_=>[],Zj8,λN=>[(34,Zu N),(169,Zfu N)]⟩
def Zsj(ak:List Ka)(n5:Int)(k6:Int):St:=⟨[(0,vV Jh ak),(5,vI n5),(6,vI k6)],[],0⟩
def Zq8(ak:List Ka)(t8:Int):St:=⟨[(4,vI t8)],[],0⟩
def Zq9(ak:List Ka)(n9:Int)(k10:Int)(aC:Bool):St:=⟨[(0,vV Jh ak),(5,vI n9),(6,vI k10),(25,vB aC)],[],0⟩
theorem Zsk(N:Nat){R:Type}(K:Ex->St->Option R){ak:List Ka}{K0:Int->Option R}{K1:Int->Int->Bool->Option R}(h0:K0= λt8=>K .ret (Zq8 ak t8))(h1:K1= λn9 k10 aC=>K (.exit 0) (Zq9 ak n9 k10 aC))(n:Nat)(n5:Int)(k6:Int):Zcb N ak K0 K1 n n5 k6=LM Zhy N 0 100005 n (Zsj ak n5 k6) K:=by
  subst h0 h1
  induction n generalizing n5 k6 with
  |zero=>kernel_rfl
  |succ n ih=>rw[Zcb];simp only[ih];kernel_rfl
theorem Zwl(N:Nat)(ad:List Ka)(i2:Int):DN Zhy N (ad,i2,())=Zfq N ad i2:=by
  conv=>rhs;rw[Zfq];simp(disch:=exact id (by kernel_rfl)) only[Zsk (R:=Unit×Kg) N (CF Zhy N [1,1,1,0,1,0])]
  kernel_rfl
theorem Zwm(N:Nat):GW 157 (Zj8 N):=GF Zhy N Tryz.func157 (GC (Zae N) (GC (Zj5 N) Wa)) (λd=>Zwl N d.1 d.2.1)
def Zfw(N:Nat):Sig:=Sig.of [.box Jg,.v Jh false] [] (λd=>Zd4 N d.1 d.2.1)
def Znj:Fn:=⟨Tryz.f130,λ |5=>[.opn 28]|_=>[],Zfw,λN=>[(51,Zbu N),(156,Zh5 N),(157,Zj8 N)]⟩
theorem Znk(N:Nat):GW 130 (Zfw N):=GF Znj N Tryz.func130 (GC (Zdj N) (GC (Zta N) (GC (Zwm N) Wa)))
def Zko(N:Nat):Sig:=Sig.of [.v Jm true,.v Je false] [.v Jv false,.v Jr false] (λd=>Zkg N d.1 d.2.1)
def Zw6:Fn:=⟨Tryz.f131,WI,Zko,λN=>[(51,Zbu N),(151,Zgg N),(50,Zc2 N)]⟩
theorem Zw7(N:Nat):GW 131 (Zko N):=GF Zw6 N Tryz.func131 (GC (Zdj N) (GC (Zkn N) (GC (Zhc N) Wa)))
def Zgi(N:Nat):Sig:=Sig.of [.box Jk,.v Ja false,.v Jh false,.v Jt true] [] (λd=>Ze6 N d.1 d.2.1 d.2.2.1 d.2.2.2.1)
def Zra:Fn:=⟨Tryz.f86,λ |1=>[.opn 16]|18=>[.nest 128 Jf]|_=>[],Zgi,λN=>[(129,Zf7 N),(130,Zfw N),(51,Zbu N),(131,Zko N)]⟩
theorem Zrb(N:Nat):GW 86 (Zgi N):=GF Zra N Tryz.func86 (GC (Zo8 N) (GC (Znk N) (GC (Zdj N) (GC (Zw7 N) Wa))))
def Zv(N:Nat):Sig:=Sig.of [.mut Jb,.clos 133 0] [] (λd=>Zk N d.1)
theorem Zb4:CmpOk Tryz.prog 133 Jb Wqw cfE:=by
  intro G x y us vs w hx hy h1 h2;obtain⟨_,_,rfl,a1,_,_,rfl,a2,a3⟩:=h1;obtain⟨_,_,rfl,b1,_,_,rfl,b2,b3⟩:=h2;simp only[Enc]at a1 a2 a3 b1 b2 b3;subst a1 a2 a3 b1 b2 b3;simp only[List.cons_append,List.nil_append]
  go_enter Tryz.func133,Tryz.ntmps133
  go_wp2
  rw[sub_run (WmG hx) (WmG hy) (c:=cfE x y) rfl]
  go_wp2
  go_ret
  exact⟨rfl,two_grow _ _ _⟩
theorem Zb5(N:Nat):GW 132 (Zv N):=⟨Wf4 Tryz.func132 (show WoA Tryz.f132=true by kernel_rfl),good_sortF sortFE (e:=.prod Ja Jj) rfl (by decide) Tryz.isAgg86 Tryz.sizeOf86 (enters_of Tryz.func133 (by kernel_rfl) rfl) Wrg Zb4 N⟩
def Zfx(N:Nat):Sig:=Sig.of [.box Jk,.v Ja false] [] (λd=>Zbw N d.1 d.2.1)
def Zay:Fn:=⟨Tryz.f87,λ |0=>[.opn 16]|3=>[.canon [0,1,4,28,29,30,31]]|4=>[.canon [0,1,4,6,28,29,30]]|5=>[.canon [0,1,4,6,7,28,29,30]]|6=>[.canon [0,1,4,7,8,28,29,30]]|7=>[.canon [0,1,4,7,8,28,29,30,48]]|8=>[.canon [0,1,4,28,29,30]]|9=>[.canon [0,1,4,28,29,30]]|10=>[.canon [0,1,4,28,29,30]]|13=>[.canon [0,1,4,75,76,77,78]]|14=>[.canon [0,1,4,10,75,76,77]]|15=>[.canon [0,1,4,10,75,76,77,83]]|16=>[.canon [0,1,4,75,76,77]]|17=>[.canon [0,1,4,75,76,77]]|100003=>[.canon [0,1,4,28,29,30]]|100013=>[.canon [0,1,4,75,76,77]]|_=>[],Zfx,λN=>[(85,Zjm N),(88,Zcj N),(132,Zv N)]⟩
def Zkz(k4:Int)(t5:Int)(t6:Int)(b7:Int)(b8:Int)(b9:Int)(ca:Bool)(bs:Int)(br:Int)(bu:Int)(ax:Int)(aR:Int)(bt:Int)(bD:Bool)(cr:Int)(dn:Int)(eE:Int)(eF:Int)(aD:List Kc)(bE:List Int)(bR:List Kc)(cl:List Kb)(eG:List Int)(cF:List Kc)(cY:List Y_KidRun)(eH:Nat)(bO:List Int)(cC:List Kb)(cD:List Kc)(cE:List Kf):St:=⟨[(0,vP 0 0),(1,vI k4),(4,vP 1 0),(28,vO 2),(29,vI t5),(30,vI t6)],[(0,.box [.val Ja b7,.val Ja b8,.val Ja b9,.val Jr ca,.own 3,.own 4,.own 5,.own 6,.own 7,.own 8]),(1,.box [.val Ja bs,.val Ja br,.val Ja bu,.val Ja ax,.val Ja aR,.val Ja bt,.own 9,.own 10,.own 11,.own 12,.val Jr bD,.val Ja cr,.val Ja dn,.val Ja eE,.val Ja eF]),(2,.arr Jj aD),(3,.arr Ja bE),(4,.arr Jj bR),(5,.arr Jb cl),(6,.arr Ja eG),(7,.arr Jj cF),(8,.hole Jg cY eH 1),(9,.arr Ja bO),(10,.arr Jb cC),(11,.arr Jj cD),(12,.arr Jf cE)],13⟩
def Zkp(k4:Int)(t5:Int)(b7:Int)(b8:Int)(b9:Int)(ca:Bool)(bs:Int)(br:Int)(bu:Int)(ax:Int)(aR:Int)(bt:Int)(bD:Bool)(cr:Int)(dn:Int)(eE:Int)(eF:Int)(aD:List Kc)(bE:List Int)(bR:List Kc)(eG:List Int)(cF:List Kc)(cY:List Y_KidRun)(eH:Nat)(bO:List Int)(cC:List Kb)(cD:List Kc)(cE:List Kf)(ng:Int)(ji:Bool)(nh:List Kb):St:=⟨[(0,vP 0 0),(1,vI k4),(4,vP 1 0),(28,vO 2),(29,vI t5),(30,vI ng),(31,vB ji)],[(0,.box [.val Ja b7,.val Ja b8,.val Ja b9,.val Jr ca,.own 3,.own 4,.own 5,.own 6,.own 7,.own 8]),(1,.box [.val Ja bs,.val Ja br,.val Ja bu,.val Ja ax,.val Ja aR,.val Ja bt,.own 9,.own 10,.own 11,.own 12,.val Jr bD,.val Ja cr,.val Ja dn,.val Ja eE,.val Ja eF]),(2,.arr Jj aD),(3,.arr Ja bE),(4,.arr Jj bR),(5,.arr Jb nh),(6,.arr Ja eG),(7,.arr Jj cF),(8,.hole Jg cY eH 1),(9,.arr Ja bO),(10,.arr Jb cC),(11,.arr Jj cD),(12,.arr Jf cE)],13⟩
theorem Zk0(N:Nat){R:Type}(K:Ex->St->Option R){k4:Int}{t5:Int}{b7:Int}{b8:Int}{b9:Int}{ca:Bool}{bs:Int}{br:Int}{bu:Int}{ax:Int}{aR:Int}{bt:Int}{bD:Bool}{cr:Int}{dn:Int}{eE:Int}{eF:Int}{aD:List Kc}{bE:List Int}{bR:List Kc}{eG:List Int}{cF:List Kc}{cY:List Y_KidRun}{eH:Nat}{bO:List Int}{cC:List Kb}{cD:List Kc}{cE:List Kf}{K0:Int->Bool->Kl->Option R}(h0:K0= λng ji nh=>K (.exit 0) (Zkp k4 t5 b7 b8 b9 ca bs br bu ax aR bt bD cr dn eE eF aD bE bR eG cF cY eH bO cC cD cE ng ji nh))(n:Nat)(t6:Int)(cl:List Kb):Zm N k4 t5 b7 b8 b9 ca bs br bu ax aR bt bD cr dn eE eF aD bE bR eG cF cY eH bO cC cD cE K0 n t6 cl=LM Zay N 0 100003 n (Zkz k4 t5 t6 b7 b8 b9 ca bs br bu ax aR bt bD cr dn eE eF aD bE bR cl eG cF cY eH bO cC cD cE) K:=by
  subst h0
  induction n generalizing t6 cl with
  |zero=>kernel_rfl
  |succ n ih=>rw[Zm];simp only[ih];kernel_rfl
def Zk1(cL:Int)(fF:Int)(t45:Int)(cM:Int)(cN:Int)(cO:Int)(cP:Bool)(cQ:Int)(aN:Int)(dO:Int)(dP:Int)(dQ:Int)(dR:Int)(dS:Bool)(dc:Int)(dT:Int)(dU:Int)(dV:Int)(bI:List Kb)(de:List Int)(df:List Kc)(dW:List Kb)(dX:List Int)(ff:List Kc)(ck:List Y_KidRun)(fG:Nat)(cS:List Int)(cR:List Kc)(fH:List Kf):St:=⟨[(0,vP 0 0),(1,vI cL),(4,vP 1 0),(75,vO 2),(76,vI fF),(77,vI t45)],[(0,.box [.val Ja cM,.val Ja cN,.val Ja cO,.val Jr cP,.own 3,.own 4,.own 5,.own 6,.own 7,.own 8]),(1,.box [.val Ja cQ,.val Ja aN,.val Ja dO,.val Ja dP,.val Ja dQ,.val Ja dR,.own 9,.own 2,.own 10,.own 11,.val Jr dS,.val Ja dc,.val Ja dT,.val Ja dU,.val Ja dV]),(2,.arr Jb bI),(3,.arr Ja de),(4,.arr Jj df),(5,.arr Jb dW),(6,.arr Ja dX),(7,.arr Jj ff),(8,.hole Jg ck fG 1),(9,.arr Ja cS),(10,.arr Jj cR),(11,.arr Jf fH)],12⟩
def Zkq(cL:Int)(fF:Int)(cM:Int)(cN:Int)(cO:Int)(cP:Bool)(cQ:Int)(aN:Int)(dO:Int)(dP:Int)(dQ:Int)(dR:Int)(dS:Bool)(dc:Int)(dT:Int)(dU:Int)(dV:Int)(bI:List Kb)(de:List Int)(df:List Kc)(dW:List Kb)(dX:List Int)(ck:List Y_KidRun)(fG:Nat)(cS:List Int)(cR:List Kc)(fH:List Kf)(jd:Int)(ni:Bool)(nj:List Kc):St:=⟨[(0,vP 0 0),(1,vI cL),(4,vP 1 0),(75,vO 2),(76,vI fF),(77,vI jd),(78,vB ni)],[(0,.box [.val Ja cM,.val Ja cN,.val Ja cO,.val Jr cP,.own 3,.own 4,.own 5,.own 6,.own 7,.own 8]),(1,.box [.val Ja cQ,.val Ja aN,.val Ja dO,.val Ja dP,.val Ja dQ,.val Ja dR,.own 9,.own 2,.own 10,.own 11,.val Jr dS,.val Ja dc,.val Ja dT,.val Ja dU,.val Ja dV]),(2,.arr Jb bI),(3,.arr Ja de),(4,.arr Jj df),(5,.arr Jb dW),(6,.arr Ja dX),(7,.arr Jj nj),(8,.hole Jg ck fG 1),(9,.arr Ja cS),(10,.arr Jj cR),(11,.arr Jf fH)],12⟩
theorem Zk2(N:Nat){R:Type}(K:Ex->St->Option R){cL:Int}{fF:Int}{cM:Int}{cN:Int}{cO:Int}{cP:Bool}{cQ:Int}{aN:Int}{dO:Int}{dP:Int}{dQ:Int}{dR:Int}{dS:Bool}{dc:Int}{dT:Int}{dU:Int}{dV:Int}{bI:List Kb}{de:List Int}{df:List Kc}{dW:List Kb}{dX:List Int}{ck:List Y_KidRun}{fG:Nat}{cS:List Int}{cR:List Kc}{fH:List Kf}{K0:Int->Bool->Kn->Option R}(h0:K0= λjd ni nj=>K (.exit 2) (Zkq cL fF cM cN cO cP cQ aN dO dP dQ dR dS dc dT dU dV bI de df dW dX ck fG cS cR fH jd ni nj))(n:Nat)(t45:Int)(ff:List Kc):Zp N cL fF cM cN cO cP cQ aN dO dP dQ dR dS dc dT dU dV bI de df dW dX ck fG cS cR fH K0 n t45 ff=LM Zay N 1 100013 n (Zk1 cL fF t45 cM cN cO cP cQ aN dO dP dQ dR dS dc dT dU dV bI de df dW dX ff ck fG cS cR fH) K:=by
  subst h0
  induction n generalizing t45 ff with
  |zero=>kernel_rfl
  |succ n ih=>rw[Zp];simp only[ih];kernel_rfl
theorem Znl(N:Nat)(f1:Y_Family)(k2:Int):DN Zay N (f1,k2,())=Zbw N f1 k2:=by
  conv=>rhs;rw[Zbw];simp(disch:=exact id (by kernel_rfl)) only[Zk0 (R:=(Y_Family×Unit)×Unit) N (CF Zay N [1,1,0,1,0]),Zk2 (R:=(Y_Family×Unit)×Unit) N (CF Zay N [1,1,1,1,0,1,0])]
  kernel_rfl
theorem Znm(N:Nat):GW 87 (Zfx N):=GF Zay N Tryz.func87 (GC (Zse N) (GC (Zfv N) (GC (Zb5 N) Wa))) (λd=>Znl N d.1 d.2.1)
def Zf8(N:Nat):Sig:=Sig.of [.box Jk,.v Ja false,.v Jh false,.v Jt true] [] (λd=>Zc1 N d.1 d.2.1 d.2.2.1 d.2.2.2.1)
def Zo9:Fn:=⟨Tryz.f35,λ |2=>[.opn 20]|_=>[],Zf8,λN=>[(86,Zgi N),(87,Zfx N),(88,Zcj N),(89,Zcu N)]⟩
theorem Zpa(N:Nat):GW 35 (Zf8 N):=GF Zo9 N Tryz.func35 (GC (Zrb N) (GC (Znm N) (GC (Zfv N) (GC (Zh0 N) Wa))))
def Zip(N:Nat):Sig:=Sig.of [.v Jt true] [.v Jp true] (λd=>Zhk N d.1)
def Zt6:Fn:=⟨Tryz.f90,WI,Zip,Waw⟩
theorem Zt7(N:Nat):GW 90 (Zip N):=GF Zt6 N Tryz.func90 Wa
def Zkr(N:Nat):Sig:=Sig.of [.v Jt true] [.v Jp true,.v Ja false] (λd=>Zkh N d.1)
def Zw8:Fn:=⟨Tryz.f36,WI,Zkr,λN=>[(90,Zip N),(91,Zhw N)]⟩
theorem Zw9(N:Nat):GW 36 (Zkr N):=GF Zw8 N Tryz.func36 (GC (Zt7 N) (GC (Zni N) Wa))
def Ziq(N:Nat):Sig:=Sig.of [.v Jn true] [.v Jp true,.v Jk true] (λd=>Zcx N d.1)
def Zf9:Fn:=⟨Tryz.f7,λ |6=>[.canon [1,2,3,4,6,32,33,34,35]]|7=>[.canon [1,2,3,4,6,8,32,33,34]]|8=>[.canon [1,2,3,4,6,8,32,33,34,38]]|9=>[.canon [1,2,3,4,6,32,33,34]]|10=>[.canon [1,2,3,4,6,8,32,33,34,54]]|11=>[.canon [1,2,3,4,6,8,9,10,32,33,34]]|12=>[.canon [1,2,3,4,6,8,10,32,33,34]]|13=>[.canon [1,2,3,4,6,10,11,32,33,34]]|14=>[.canon [1,2,3,4,6,10,11,32,33,34]]|15=>[.canon [1,2,3,4,6,32,33,34]]|16=>[.canon [1,2,3,4,6,32,33,34]]|100006=>[.canon [1,2,3,4,6,32,33,34]]|_=>[],Ziq,λN=>[(31,Zj7 N),(32,Zjl N),(33,Zh3 N),(34,Zu N),(35,Zf8 N),(36,Zkr N)]⟩
def Zpb(t5:List Int)(t7:Int)(b8:List Int×List Int×List Kc×List Kj×List Int)(ax:Int)(aR:Int)(bt:Int)(bD:Int)(cr:Bool)(aS:List Kb)(bq:List Int)(bo:List Kc)(aD:List Kb)(bE:List Int)(bR:List Kc)(cl:List Y_KidRun):St:=⟨[(1,vP 0 0),(2,vP 1 0),(3,vP 2 0),(4,vP 3 0),(6,vP 4 0),(32,vV Je t5),(33,vI (Wc b8.2.2.2.2)),(34,vI t7)],[(0,.box [.val Je b8.1,.val Je b8.2.1,.val Jc b8.2.2.1,.val Js b8.2.2.2.1,.val Je b8.2.2.2.2]),(1,.box [.val Ja (0:Int),.nils]),(2,.box [.val Ja (0:Int),.val Ja (0:Int),.val Ja (0:Int),.val Jr false,.nils,.nils,.nils,.nils,.nils,.nils]),(3,.box [.val Ja ax,.own 5]),(4,.box [.val Ja aR,.val Ja bt,.val Ja bD,.val Jr cr,.own 6,.own 7,.own 8,.own 9,.own 10,.own 11]),(5,.arr Jb aS),(6,.arr Ja bq),(7,.arr Jj bo),(8,.arr Jb aD),(9,.arr Ja bE),(10,.arr Jj bR),(11,.arr Jg cl)],12⟩
def Znn(t5:List Int)(b8:List Int×List Int×List Kc×List Kj×List Int)(ji:Int)(jc:Bool)(gk:Int)(je:Int)(nk:Int)(nl:Int)(jB:Bool)(dI:List Kb)(jf:List Int)(jg:List Kc)(nm:List Kb)(jh:List Int)(jb:List Kc)(no:List Y_KidRun):St:=⟨[(1,vP 0 0),(2,vP 1 0),(3,vP 2 0),(4,vP 3 0),(6,vP 4 0),(32,vV Je t5),(33,vI (Wc b8.2.2.2.2)),(34,vI ji),(35,vB jc)],[(0,.box [.val Je b8.1,.val Je b8.2.1,.val Jc b8.2.2.1,.val Js b8.2.2.2.1,.val Je b8.2.2.2.2]),(1,.box [.val Ja (0:Int),.nils]),(2,.box [.val Ja (0:Int),.val Ja (0:Int),.val Ja (0:Int),.val Jr false,.nils,.nils,.nils,.nils,.nils,.nils]),(3,.box [.val Ja gk,.own 5]),(4,.box [.val Ja je,.val Ja nk,.val Ja nl,.val Jr jB,.own 6,.own 7,.own 8,.own 9,.own 10,.own 11]),(5,.arr Jb dI),(6,.arr Ja jf),(7,.arr Jj jg),(8,.arr Jb nm),(9,.arr Ja jh),(10,.arr Jj jb),(11,.arr Jg no)],12⟩
theorem Zpc(N:Nat){R:Type}(K:Ex->St->Option R){t5:List Int}{b8:List Int×List Int×List Kc×List Kj×List Int}{K0:Int->Bool->Int->Int->Int->Int->Bool->Kl->Kh->Kn->Kl->Kh->Kn->(List Y_KidRun)->Option R}(h0:K0= λji jc gk je nk nl jB dI jf jg nm jh jb no=>K (.exit 0) (Znn t5 b8 ji jc gk je nk nl jB dI jf jg nm jh jb no))(n:Nat)(t7:Int)(ax:Int)(aR:Int)(bt:Int)(bD:Int)(cr:Bool)(aS:List Kb)(bq:List Int)(bo:List Kc)(aD:List Kb)(bE:List Int)(bR:List Kc)(cl:List Y_KidRun):Z3 N t5 b8 K0 n t7 ax aR bt bD cr aS bq bo aD bE bR cl=LM Zf9 N 0 100006 n (Zpb t5 t7 b8 ax aR bt bD cr aS bq bo aD bE bR cl) K:=by
  subst h0
  induction n generalizing t7 ax aR bt bD cr aS bq bo aD bE bR cl with
  |zero=>kernel_rfl
  |succ n ih=>rw[Z3];simp only[ih];kernel_rfl
theorem Zt8(N:Nat)(s1:List Int×List Int×List Kc×List Kj×List Int):DN Zf9 N (s1,())=Zcx N s1:=by
  conv=>rhs;rw[Zcx];simp(disch:=exact id (by kernel_rfl)) only[Zpc (R:=Unit×(Km×(Y_Family×Unit))) N (CF Zf9 N [1,1,1,1,0,1,0])]
  kernel_rfl
theorem Zt9(N:Nat):GW 7 (Ziq N):=GF Zf9 N Tryz.func7 (GC (Zwj N) (GC (Zvk N) (GC (Zs6 N) (GC (Zae N) (GC (Zpa N) (GC (Zw9 N) Wa)))))) (λd=>Zt8 N d.1)
def Zjo(N:Nat):Sig:=Sig.of [.v Jb true,.v Jb true] [.v Jr false] (λd=>Zid N d.1 d.2.1)
def Zvl:Fn:=⟨Tryz.f109,WI,Zjo,Waw⟩
theorem Zvm(N:Nat):GW 109 (Zjo N):=GF Zvl N Tryz.func109 Wa
def Zir(N:Nat):Sig:=Sig.of [.v Jl false,.v Jl false] [.v Jr false] (λd=>Zdt N d.1 d.2.1)
def Zga:Fn:=⟨Tryz.f64,λ |4=>[.canon [0,1,5,14]]|5=>[.canon [0,1,5]]|6=>[.canon [0,1,5,26]]|7=>[.canon [4]]|100004=>[.canon [0,1,5]]|_=>[],Zir,λN=>[(109,Zjo N)]⟩
def Zpd(a3:List Kb)(b4:List Kb)(i5:Int):St:=⟨[(0,vV Jl a3),(1,vV Jl b4),(5,vI i5)],[],0⟩
def Zno(a3:List Kb)(b4:List Kb):St:=⟨[(4,vB false)],[],0⟩
def Znp(a3:List Kb)(b4:List Kb)(i7:Int)(t8:Bool):St:=⟨[(0,vV Jl a3),(1,vV Jl b4),(5,vI i7),(14,vB t8)],[],0⟩
theorem Zpe(N:Nat){R:Type}(K:Ex->St->Option R){a3:List Kb}{b4:List Kb}{K0:Option R}{K1:Int->Bool->Option R}(h0:K0=K .ret (Zno a3 b4))(h1:K1= λi7 t8=>K (.exit 0) (Znp a3 b4 i7 t8))(n:Nat)(i5:Int):Za3 N a3 b4 K0 K1 n i5=LM Zga N 0 100004 n (Zpd a3 b4 i5) K:=by
  subst h0 h1
  induction n generalizing i5 with
  |zero=>kernel_rfl
  |succ n ih=>rw[Za3];simp only[ih];kernel_rfl
theorem Zua(N:Nat)(a1:List Kb)(b2:List Kb):DN Zga N (a1,b2,())=Zdt N a1 b2:=by
  conv=>rhs;rw[Zdt];simp(disch:=exact id (by kernel_rfl)) only[Zpe (R:=Unit×Kk) N (CF Zga N [1,1,0,1,0])]
  kernel_rfl
theorem Zub(N:Nat):GW 64 (Zir N):=GF Zga N Tryz.func64 (GC (Zvm N) Wa) (λd=>Zua N d.1 d.2.1)
def Zj9(N:Nat):Sig:=Sig.of [.v Jt true,.v Jt true] [.v Jr false] (λd=>Zfr N d.1 d.2.1)
def Zwn:Fn:=⟨Tryz.f21,WI,Zj9,λN=>[(64,Zir N)]⟩
theorem Zwo(N:Nat):GW 21 (Zj9 N):=GF Zwn N Tryz.func21 (GC (Zub N) Wa)
def Zdb(N:Nat):Sig:=Sig.of [.v Je false,.v Je false] [.v Jr false] (λd=>Z9 N d.1 d.2.1)
def Zg7:Fn:=⟨Tryz.f65,λ |4=>[.canon [0,1,5,14]]|5=>[.canon [0,1,5]]|6=>[.canon [0,1,5,25]]|7=>[.canon [4]]|100004=>[.canon [0,1,5]]|_=>[],Zdb,Waw⟩
def Zrc(a3:List Int)(b4:List Int)(i5:Int):St:=⟨[(0,vV Je a3),(1,vV Je b4),(5,vI i5)],[],0⟩
def Zpf(a3:List Int)(b4:List Int):St:=⟨[(4,vB false)],[],0⟩
def Zpg(a3:List Int)(b4:List Int)(i6:Int)(t7:Bool):St:=⟨[(0,vV Je a3),(1,vV Je b4),(5,vI i6),(14,vB t7)],[],0⟩
theorem Zrd(N:Nat){R:Type}(K:Ex->St->Option R){a3:List Int}{b4:List Int}{K0:Option R}{K1:Int->Bool->Option R}(h0:K0=K .ret (Zpf a3 b4))(h1:K1= λi6 t7=>K (.exit 0) (Zpg a3 b4 i6 t7))(n:Nat)(i5:Int):Zbp N a3 b4 K0 K1 n i5=LM Zg7 N 0 100004 n (Zrc a3 b4 i5) K:=by
  subst h0 h1
  induction n generalizing i5 with
  |zero=>kernel_rfl
  |succ n ih=>rw[Zbp];simp only[ih];kernel_rfl
theorem Zvn(N:Nat)(a1:List Int)(b2:List Int):DN Zg7 N (a1,b2,())=Z9 N a1 b2:=by
  conv=>rhs;rw[Z9];simp(disch:=exact id (by kernel_rfl)) only[Zrd (R:=Unit×Kk) N (CF Zg7 N [1,1,0,1,0])]
  kernel_rfl
theorem Zg8(N:Nat):GW 65 (Zdb N):=GF Zg7 N Tryz.func65 Wa (λd=>Zvn N d.1 d.2.1)
def Zka(N:Nat):Sig:=Sig.of [.v Jj true,.v Jj true] [.v Jr false] (λd=>Zi2 N d.1 d.2.1)
def Zwp:Fn:=⟨Tryz.f110,WI,Zka,Waw⟩
theorem Zwq(N:Nat):GW 110 (Zka N):=GF Zwp N Tryz.func110 Wa
def Zex(N:Nat):Sig:=Sig.of [.v Jc false,.v Jc false] [.v Jr false] (λd=>Zb3 N d.1 d.2.1)
def Zg9:Fn:=⟨Tryz.f66,λ |4=>[.canon [0,1,5,14]]|5=>[.canon [0,1,5]]|6=>[.canon [0,1,5,26]]|7=>[.canon [4]]|100004=>[.canon [0,1,5]]|_=>[],Zex,λN=>[(110,Zka N)]⟩
def Zre(a3:List Kc)(b4:List Kc)(i5:Int):St:=⟨[(0,vV Jc a3),(1,vV Jc b4),(5,vI i5)],[],0⟩
def Zph(a3:List Kc)(b4:List Kc):St:=⟨[(4,vB false)],[],0⟩
def Zpi(a3:List Kc)(b4:List Kc)(i7:Int)(t8:Bool):St:=⟨[(0,vV Jc a3),(1,vV Jc b4),(5,vI i7),(14,vB t8)],[],0⟩
theorem Zrf(N:Nat){R:Type}(K:Ex->St->Option R){a3:List Kc}{b4:List Kc}{K0:Option R}{K1:Int->Bool->Option R}(h0:K0=K .ret (Zph a3 b4))(h1:K1= λi7 t8=>K (.exit 0) (Zpi a3 b4 i7 t8))(n:Nat)(i5:Int):Zbq N a3 b4 K0 K1 n i5=LM Zg9 N 0 100004 n (Zre a3 b4 i5) K:=by
  subst h0 h1
  induction n generalizing i5 with
  |zero=>kernel_rfl
  |succ n ih=>rw[Zbq];simp only[ih];kernel_rfl
theorem Zvo(N:Nat)(a1:List Kc)(b2:List Kc):DN Zg9 N (a1,b2,())=Zb3 N a1 b2:=by
  conv=>rhs;rw[Zb3];simp(disch:=exact id (by kernel_rfl)) only[Zrf (R:=Unit×Kk) N (CF Zg9 N [1,1,0,1,0])]
  kernel_rfl
theorem Zjp(N:Nat):GW 66 (Zex N):=GF Zg9 N Tryz.func66 (GC (Zwq N) Wa) (λd=>Zvo N d.1 d.2.1)
def Zis(N:Nat):Sig:=Sig.of [.v Jb true,.v Jb true] [.v Jr false] (λd=>Zhl N d.1 d.2.1)
def Zuc:Fn:=⟨Tryz.f111,WI,Zis,Waw⟩
theorem Zud(N:Nat):GW 111 (Zis N):=GF Zuc N Tryz.func111 Wa
def Zfa(N:Nat):Sig:=Sig.of [.v Jl false,.v Jl false] [.v Jr false] (λd=>Zcm N d.1 d.2.1)
def Zfb:Fn:=⟨Tryz.f67,λ |4=>[.canon [0,1,5,14]]|5=>[.canon [0,1,5]]|6=>[.canon [0,1,5,26]]|7=>[.canon [4]]|100004=>[.canon [0,1,5]]|_=>[],Zfa,λN=>[(111,Zis N)]⟩
def Znq(a3:List Kb)(b4:List Kb)(i5:Int):St:=⟨[(0,vV Jl a3),(1,vV Jl b4),(5,vI i5)],[],0⟩
def Zml(a3:List Kb)(b4:List Kb):St:=⟨[(4,vB false)],[],0⟩
def Zmm(a3:List Kb)(b4:List Kb)(i7:Int)(t8:Bool):St:=⟨[(0,vV Jl a3),(1,vV Jl b4),(5,vI i7),(14,vB t8)],[],0⟩
theorem Znr(N:Nat){R:Type}(K:Ex->St->Option R){a3:List Kb}{b4:List Kb}{K0:Option R}{K1:Int->Bool->Option R}(h0:K0=K .ret (Zml a3 b4))(h1:K1= λi7 t8=>K (.exit 0) (Zmm a3 b4 i7 t8))(n:Nat)(i5:Int):Zaq N a3 b4 K0 K1 n i5=LM Zfb N 0 100004 n (Znq a3 b4 i5) K:=by
  subst h0 h1
  induction n generalizing i5 with
  |zero=>kernel_rfl
  |succ n ih=>rw[Zaq];simp only[ih];kernel_rfl
theorem Ztb(N:Nat)(a1:List Kb)(b2:List Kb):DN Zfb N (a1,b2,())=Zcm N a1 b2:=by
  conv=>rhs;rw[Zcm];simp(disch:=exact id (by kernel_rfl)) only[Znr (R:=Unit×Kk) N (CF Zfb N [1,1,0,1,0])]
  kernel_rfl
theorem Zkx(N:Nat):GW 67 (Zfa N):=GF Zfb N Tryz.func67 (GC (Zud N) Wa) (λd=>Ztb N d.1 d.2.1)
def Zhe(N:Nat):Sig:=Sig.of [.v Ju true,.v Ju true] [.v Jr false] (λd=>Zf0 N d.1 d.2.1)
def Zsl:Fn:=⟨Tryz.f163,WI,Zhe,λN=>[(65,Zdb N)]⟩
theorem Zsm(N:Nat):GW 163 (Zhe N):=GF Zsl N Tryz.func163 (GC (Zg8 N) Wa)
def Zgj(N:Nat):Sig:=Sig.of [.v Jo false,.v Jo false] [.v Jr false] (λd=>Zcn N d.1 d.2.1)
def Zd6:Fn:=⟨Tryz.f146,λ |4=>[.canon [0,1,5,14]]|5=>[.canon [0,1,5]]|6=>[.canon [0,1,5,26]]|7=>[.canon [4]]|100004=>[.canon [0,1,5]]|_=>[],Zgj,λN=>[(163,Zhe N)]⟩
def Zls(a3:List Kf)(b4:List Kf)(i5:Int):St:=⟨[(0,vV Jo a3),(1,vV Jo b4),(5,vI i5)],[],0⟩
def Zlc(a3:List Kf)(b4:List Kf):St:=⟨[(4,vB false)],[],0⟩
def Zld(a3:List Kf)(b4:List Kf)(i7:Int)(t8:Bool):St:=⟨[(0,vV Jo a3),(1,vV Jo b4),(5,vI i7),(14,vB t8)],[],0⟩
theorem Zlt(N:Nat){R:Type}(K:Ex->St->Option R){a3:List Kf}{b4:List Kf}{K0:Option R}{K1:Int->Bool->Option R}(h0:K0=K .ret (Zlc a3 b4))(h1:K1= λi7 t8=>K (.exit 0) (Zld a3 b4 i7 t8))(n:Nat)(i5:Int):Zab N a3 b4 K0 K1 n i5=LM Zd6 N 0 100004 n (Zls a3 b4 i5) K:=by
  subst h0 h1
  induction n generalizing i5 with
  |zero=>kernel_rfl
  |succ n ih=>rw[Zab];simp only[ih];kernel_rfl
theorem Zrg(N:Nat)(a1:List Kf)(b2:List Kf):DN Zd6 N (a1,b2,())=Zcn N a1 b2:=by
  conv=>rhs;rw[Zcn];simp(disch:=exact id (by kernel_rfl)) only[Zlt (R:=Unit×Kk) N (CF Zd6 N [1,1,0,1,0])]
  kernel_rfl
theorem Zrh(N:Nat):GW 146 (Zgj N):=GF Zd6 N Tryz.func146 (GC (Zsm N) Wa) (λd=>Zrg N d.1 d.2.1)
def Zit(N:Nat):Sig:=Sig.of [.v Jm true,.v Jm true] [.v Jr false] (λd=>Zhm N d.1 d.2.1)
def Zue:Fn:=⟨Tryz.f147,WI,Zit,Waw⟩
theorem Zuf(N:Nat):GW 147 (Zit N):=GF Zue N Tryz.func147 Wa
def Zh6(N:Nat):Sig:=Sig.of [.v (TY_KidRun) true,.v (TY_KidRun) true] [.v Jr false] (λd=>Zgo N d.1 d.2.1)
def Ztc:Fn:=⟨Tryz.f112,WI,Zh6,λN=>[(65,Zdb N),(67,Zfa N),(66,Zex N),(146,Zgj N),(147,Zit N)]⟩
theorem Ztd(N:Nat):GW 112 (Zh6 N):=GF Ztc N Tryz.func112 (GC (Zg8 N) (GC (Zkx N) (GC (Zjp N) (GC (Zrh N) (GC (Zuf N) Wa)))))
def Zhf(N:Nat):Sig:=Sig.of [.v Jq false,.v Jq false] [.v Jr false] (λd=>Zcy N d.1 d.2.1)
def Zey:Fn:=⟨Tryz.f68,λ |4=>[.canon [0,1,5,14]]|5=>[.canon [0,1,5]]|6=>[.canon [0,1,5,26]]|7=>[.canon [4]]|100004=>[.canon [0,1,5]]|_=>[],Zhf,λN=>[(112,Zh6 N)]⟩
def Zmn(a3:List Y_KidRun)(b4:List Y_KidRun)(i5:Int):St:=⟨[(0,vV Jq a3),(1,vV Jq b4),(5,vI i5)],[],0⟩
def Zlu(a3:List Y_KidRun)(b4:List Y_KidRun):St:=⟨[(4,vB false)],[],0⟩
def Zlv(a3:List Y_KidRun)(b4:List Y_KidRun)(i7:Int)(t8:Bool):St:=⟨[(0,vV Jq a3),(1,vV Jq b4),(5,vI i7),(14,vB t8)],[],0⟩
theorem Zmo(N:Nat){R:Type}(K:Ex->St->Option R){a3:List Y_KidRun}{b4:List Y_KidRun}{K0:Option R}{K1:Int->Bool->Option R}(h0:K0=K .ret (Zlu a3 b4))(h1:K1= λi7 t8=>K (.exit 0) (Zlv a3 b4 i7 t8))(n:Nat)(i5:Int):Zah N a3 b4 K0 K1 n i5=LM Zey N 0 100004 n (Zmn a3 b4 i5) K:=by
  subst h0 h1
  induction n generalizing i5 with
  |zero=>kernel_rfl
  |succ n ih=>rw[Zah];simp only[ih];kernel_rfl
theorem Zsn(N:Nat)(a1:List Y_KidRun)(b2:List Y_KidRun):DN Zey N (a1,b2,())=Zcy N a1 b2:=by
  conv=>rhs;rw[Zcy];simp(disch:=exact id (by kernel_rfl)) only[Zmo (R:=Unit×Kk) N (CF Zey N [1,1,0,1,0])]
  kernel_rfl
theorem Zso(N:Nat):GW 68 (Zhf N):=GF Zey N Tryz.func68 (GC (Ztd N) Wa) (λd=>Zsn N d.1 d.2.1)
def Zh7(N:Nat):Sig:=Sig.of [.v (TY_Family) true,.v (TY_Family) true] [.v Jr false] (λd=>Zc7 N d.1 d.2.1)
def Zte:Fn:=⟨Tryz.f22,WI,Zh7,λN=>[(65,Zdb N),(66,Zex N),(67,Zfa N),(68,Zhf N)]⟩
theorem Ztf(N:Nat):GW 22 (Zh7 N):=GF Zte N Tryz.func22 (GC (Zg8 N) (GC (Zjp N) (GC (Zkx N) (GC (Zso N) Wa))))
def Zks(N:Nat):Sig:=Sig.of [.v Jm true,.v Jm true] [.v Jr false] (λd=>Zki N d.1 d.2.1)
def Zxa:Fn:=⟨Tryz.f164,WI,Zks,Waw⟩
theorem Zxb(N:Nat):GW 164 (Zks N):=GF Zxa N Tryz.func164 Wa
def Zkb(N:Nat):Sig:=Sig.of [.v Jh false,.v Jh false] [.v Jr false] (λd=>Zfs N d.1 d.2.1)
def Zhz:Fn:=⟨Tryz.f148,λ |4=>[.canon [0,1,5,14]]|5=>[.canon [0,1,5]]|6=>[.canon [0,1,5,26]]|7=>[.canon [4]]|100004=>[.canon [0,1,5]]|_=>[],Zkb,λN=>[(164,Zks N)]⟩
def Zsp(a3:List Ka)(b4:List Ka)(i5:Int):St:=⟨[(0,vV Jh a3),(1,vV Jh b4),(5,vI i5)],[],0⟩
def Zri(a3:List Ka)(b4:List Ka):St:=⟨[(4,vB false)],[],0⟩
def Zrj(a3:List Ka)(b4:List Ka)(i7:Int)(t8:Bool):St:=⟨[(0,vV Jh a3),(1,vV Jh b4),(5,vI i7),(14,vB t8)],[],0⟩
theorem Zsq(N:Nat){R:Type}(K:Ex->St->Option R){a3:List Ka}{b4:List Ka}{K0:Option R}{K1:Int->Bool->Option R}(h0:K0=K .ret (Zri a3 b4))(h1:K1= λi7 t8=>K (.exit 0) (Zrj a3 b4 i7 t8))(n:Nat)(i5:Int):Zcc N a3 b4 K0 K1 n i5=LM Zhz N 0 100004 n (Zsp a3 b4 i5) K:=by
  subst h0 h1
  induction n generalizing i5 with
  |zero=>kernel_rfl
  |succ n ih=>rw[Zcc];simp only[ih];kernel_rfl
theorem Zwr(N:Nat)(a1:List Ka)(b2:List Ka):DN Zhz N (a1,b2,())=Zfs N a1 b2:=by
  conv=>rhs;rw[Zfs];simp(disch:=exact id (by kernel_rfl)) only[Zsq (R:=Unit×Kk) N (CF Zhz N [1,1,0,1,0])]
  kernel_rfl
theorem Zws(N:Nat):GW 148 (Zkb N):=GF Zhz N Tryz.func148 (GC (Zxb N) Wa) (λd=>Zwr N d.1 d.2.1)
def Zkc(N:Nat):Sig:=Sig.of [.v Jh true,.v Jh true] [.v Jr false] (λd=>Zi3 N d.1 d.2.1)
def Zwt:Fn:=⟨Tryz.f113,WI,Zkc,λN=>[(148,Zkb N)]⟩
theorem Zwu(N:Nat):GW 113 (Zkc N):=GF Zwt N Tryz.func113 (GC (Zws N) Wa)
def Zjq(N:Nat):Sig:=Sig.of [.v Js false,.v Js false] [.v Jr false] (λd=>Zen N d.1 d.2.1)
def Zha:Fn:=⟨Tryz.f69,λ |4=>[.canon [0,1,5,14]]|5=>[.canon [0,1,5]]|6=>[.canon [0,1,5,26]]|7=>[.canon [4]]|100004=>[.canon [0,1,5]]|_=>[],Zjq,λN=>[(113,Zkc N)]⟩
def Zrk(a3:List Kj)(b4:List Kj)(i5:Int):St:=⟨[(0,vV Js a3),(1,vV Js b4),(5,vI i5)],[],0⟩
def Zpj(a3:List Kj)(b4:List Kj):St:=⟨[(4,vB false)],[],0⟩
def Zpk(a3:List Kj)(b4:List Kj)(i7:Int)(t8:Bool):St:=⟨[(0,vV Js a3),(1,vV Js b4),(5,vI i7),(14,vB t8)],[],0⟩
theorem Zrl(N:Nat){R:Type}(K:Ex->St->Option R){a3:List Kj}{b4:List Kj}{K0:Option R}{K1:Int->Bool->Option R}(h0:K0=K .ret (Zpj a3 b4))(h1:K1= λi7 t8=>K (.exit 0) (Zpk a3 b4 i7 t8))(n:Nat)(i5:Int):Zbr N a3 b4 K0 K1 n i5=LM Zha N 0 100004 n (Zrk a3 b4 i5) K:=by
  subst h0 h1
  induction n generalizing i5 with
  |zero=>kernel_rfl
  |succ n ih=>rw[Zbr];simp only[ih];kernel_rfl
theorem Zvp(N:Nat)(a1:List Kj)(b2:List Kj):DN Zha N (a1,b2,())=Zen N a1 b2:=by
  conv=>rhs;rw[Zen];simp(disch:=exact id (by kernel_rfl)) only[Zrl (R:=Unit×Kk) N (CF Zha N [1,1,0,1,0])]
  kernel_rfl
theorem Zvq(N:Nat):GW 69 (Zjq N):=GF Zha N Tryz.func69 (GC (Zwu N) Wa) (λd=>Zvp N d.1 d.2.1)
def Zgb(N:Nat):Sig:=Sig.of [.v Jn true,.v Jn true] [.v Jr false] (λd=>Zet N d.1 d.2.1)
def Zpl:Fn:=⟨Tryz.f23,WI,Zgb,λN=>[(65,Zdb N),(66,Zex N),(69,Zjq N)]⟩
theorem Zpm(N:Nat):GW 23 (Zgb N):=GF Zpl N Tryz.func23 (GC (Zg8 N) (GC (Zjp N) (GC (Zvq N) Wa)))
def Zcq(N:Nat):Sig:=Sig.of [.mut Ja,.v Ja false] [.v Ja false] (λd=>Zt N d.1 d.2.1)
def Zfc:Fn:=⟨Tryz.f70,λ |2=>[.canon [0,1,5,9]]|3=>[.canon [0,1,5]]|4=>[.canon [0,1,5]]|5=>[.canon [0,1,5]]|100002=>[.canon [0,1,5]]|_=>[],Zcq,Waw⟩
def Zns(k3:Int)(i4:Int)(l5:List Int):St:=⟨[(0,vO 0),(1,vI k3),(5,vI i4)],[(0,.arr Ja l5)],1⟩
def Zmp(k6:Int)(i7:Int)(t8:Bool)(l9:List Int):St:=⟨[(0,vO 0),(1,vI k6),(5,vI i7),(9,vB t8)],[(0,.arr Ja l9)],1⟩
theorem Znt(N:Nat){R:Type}(K:Ex->St->Option R){K0:Int->Int->Bool->Kh->Option R}(h0:K0= λk6 i7 t8 l9=>K (.exit 0) (Zmp k6 i7 t8 l9))(n:Nat)(k3:Int)(i4:Int)(l5:List Int):Zar N K0 n k3 i4 l5=LM Zfc N 0 100002 n (Zns k3 i4 l5) K:=by
  subst h0
  induction n generalizing k3 i4 l5 with
  |zero=>kernel_rfl
  |succ n ih=>rw[Zar];simp only[ih];kernel_rfl
theorem Ztg(N:Nat)(a1:List Int)(k2:Int):DN Zfc N (a1,k2,())=Zt N a1 k2:=by
  conv=>rhs;rw[Zt];simp(disch:=exact id (by kernel_rfl)) only[Znt (R:=(Kh×Unit)×Kg) N (CF Zfc N [1,0,1,0])]
  kernel_rfl
theorem Zfd(N:Nat):GW 70 (Zcq N):=GF Zfc N Tryz.func70 Wa (λd=>Ztg N d.1 d.2.1)
def Zdk(N:Nat):Sig:=Sig.of [.mut Jj,.v Ja false] [.v Ja false] (λd=>Zaw N d.1 d.2.1)
def Zfe:Fn:=⟨Tryz.f71,λ |2=>[.canon [0,1,5,9]]|3=>[.canon [0,1,5]]|4=>[.canon [0,1,5]]|5=>[.canon [0,1,5]]|6=>[.canon [0,1,5]]|7=>[.canon [0,1,5]]|100002=>[.canon [0,1,5]]|_=>[],Zdk,Waw⟩
def Znu(k3:Int)(i4:Int)(l5:List Kc):St:=⟨[(0,vO 0),(1,vI k3),(5,vI i4)],[(0,.arr Jj l5)],1⟩
def Zmq(k7:Int)(i8:Int)(t9:Bool)(cz:List Kc):St:=⟨[(0,vO 0),(1,vI k7),(5,vI i8),(9,vB t9)],[(0,.arr Jj cz)],1⟩
theorem Znv(N:Nat){R:Type}(K:Ex->St->Option R){K0:Int->Int->Bool->Kn->Option R}(h0:K0= λk7 i8 t9 cz=>K (.exit 0) (Zmq k7 i8 t9 cz))(n:Nat)(k3:Int)(i4:Int)(l5:List Kc):Zas N K0 n k3 i4 l5=LM Zfe N 0 100002 n (Znu k3 i4 l5) K:=by
  subst h0
  induction n generalizing k3 i4 l5 with
  |zero=>kernel_rfl
  |succ n ih=>rw[Zas];simp only[ih];kernel_rfl
theorem Zth(N:Nat)(a1:List Kc)(k2:Int):DN Zfe N (a1,k2,())=Zaw N a1 k2:=by
  conv=>rhs;rw[Zaw];simp(disch:=exact id (by kernel_rfl)) only[Znv (R:=Kq×Kg) N (CF Zfe N [1,0,1,0])]
  kernel_rfl
theorem Zh8(N:Nat):GW 71 (Zdk N):=GF Zfe N Tryz.func71 Wa (λd=>Zth N d.1 d.2.1)
def Ziu(N:Nat):Sig:=Sig.of [.mut Jm,.v Ja false] [.v Ja false] (λd=>Zdu N d.1 d.2.1)
def Zgc:Fn:=⟨Tryz.f114,λ |2=>[.canon [0,1,5,9]]|3=>[.canon [0,1,5]]|4=>[.canon [0,1,5]]|5=>[.canon [0,1,5]]|6=>[.canon [0,1,5]]|7=>[.canon [0,1,5]]|8=>[.canon [0,1,5]]|9=>[.canon [0,1,5]]|10=>[.canon [0,1,5]]|11=>[.canon [0,1,5]]|100002=>[.canon [0,1,5]]|_=>[],Ziu,Waw⟩
def Zpn(k3:Int)(i4:Int)(l5:List Ka):St:=⟨[(0,vO 0),(1,vI k3),(5,vI i4)],[(0,.arr Jm l5)],1⟩
def Znw(k9:Int)(aL:Int)(aC:Bool)(ge:List Ka):St:=⟨[(0,vO 0),(1,vI k9),(5,vI aL),(9,vB aC)],[(0,.arr Jm ge)],1⟩
theorem Zpo(N:Nat){R:Type}(K:Ex->St->Option R){K0:Int->Int->Bool->Kj->Option R}(h0:K0= λk9 aL aC ge=>K (.exit 0) (Znw k9 aL aC ge))(n:Nat)(k3:Int)(i4:Int)(l5:List Ka):Za4 N K0 n k3 i4 l5=LM Zgc N 0 100002 n (Zpn k3 i4 l5) K:=by
  subst h0
  induction n generalizing k3 i4 l5 with
  |zero=>kernel_rfl
  |succ n ih=>rw[Za4];simp only[ih];kernel_rfl
theorem Zug(N:Nat)(a1:List Ka)(k2:Int):DN Zgc N (a1,k2,())=Zdu N a1 k2:=by
  conv=>rhs;rw[Zdu];simp(disch:=exact id (by kernel_rfl)) only[Zpo (R:=(Kj×Unit)×Kg) N (CF Zgc N [1,0,1,0])]
  kernel_rfl
theorem Zuh(N:Nat):GW 114 (Ziu N):=GF Zgc N Tryz.func114 Wa (λd=>Zug N d.1 d.2.1)
def Zh9(N:Nat):Sig:=Sig.of [.mut Jw,.v Ja false] [.v Ja false] (λd=>Zc8 N d.1 d.2.1)
def Zff:Fn:=⟨Tryz.f72,λ |2=>[.canon [0,1,5,9]]|3=>[.canon [0,1,5]]|4=>[.opn 14,.refold 14,.canon [0,1,5]]|100002=>[.canon [0,1,5]]|_=>[],Zh9,λN=>[(114,Ziu N)]⟩
def Znx(k3:Int)(i4:Int)(l5:List Kj):St:=⟨[(0,vO 0),(1,vI k3),(5,vI i4)],[(0,.arr Jw l5)],1⟩
def Zmr(k7:Int)(i8:Int)(t9:Bool)(cz:List Kj):St:=⟨[(0,vO 0),(1,vI k7),(5,vI i8),(9,vB t9)],[(0,.arr Jw cz)],1⟩
theorem Zny(N:Nat){R:Type}(K:Ex->St->Option R){K0:Int->Int->Bool->Ks->Option R}(h0:K0= λk7 i8 t9 cz=>K (.exit 0) (Zmr k7 i8 t9 cz))(n:Nat)(k3:Int)(i4:Int)(l5:List Kj):Zat N K0 n k3 i4 l5=LM Zff N 0 100002 n (Znx k3 i4 l5) K:=by
  subst h0
  induction n generalizing k3 i4 l5 with
  |zero=>kernel_rfl
  |succ n ih=>rw[Zat];simp only[ih];kernel_rfl
theorem Zti(N:Nat)(a1:List Kj)(k2:Int):DN Zff N (a1,k2,())=Zc8 N a1 k2:=by
  conv=>rhs;rw[Zc8];simp(disch:=exact id (by kernel_rfl)) only[Zny (R:=(Ks×Unit)×Kg) N (CF Zff N [1,0,1,0])]
  kernel_rfl
theorem Ztj(N:Nat):GW 72 (Zh9 N):=GF Zff N Tryz.func72 (GC (Zuh N) Wa) (λd=>Zti N d.1 d.2.1)
def Ze5(N:Nat):Sig:=Sig.of [.kv (.prod Jv (.prod Jv (.prod Jd (.prod (.own Jw) Jv)))) true,.v Ja false] [.v Ja false] (λd=>Zdn N d.1 d.2.1)
def Zms:Fn:=⟨Tryz.f24,WI,Ze5,λN=>[(70,Zcq N),(71,Zdk N),(72,Zh9 N)]⟩
theorem Zmt(N:Nat):GW 24 (Ze5 N):=GF Zms N Tryz.func24 (GC (Zfd N) (GC (Zh8 N) (GC (Ztj N) Wa)))
def Zhg(N:Nat):Sig:=Sig.of [.mut Jb,.v Ja false] [.v Ja false] (λd=>Zcz N d.1 d.2.1)
def Zez:Fn:=⟨Tryz.f73,λ |2=>[.canon [0,1,5,9]]|3=>[.canon [0,1,5]]|4=>[.canon [0,1,5]]|5=>[.canon [0,1,5]]|6=>[.canon [0,1,5]]|7=>[.canon [0,1,5]]|8=>[.canon [0,1,5]]|9=>[.canon [0,1,5]]|100002=>[.canon [0,1,5]]|_=>[],Zhg,Waw⟩
def Zmu(k3:Int)(i4:Int)(l5:List Kb):St:=⟨[(0,vO 0),(1,vI k3),(5,vI i4)],[(0,.arr Jb l5)],1⟩
def Zlw(k8:Int)(i9:Int)(aM:Bool)(eJ:List Kb):St:=⟨[(0,vO 0),(1,vI k8),(5,vI i9),(9,vB aM)],[(0,.arr Jb eJ)],1⟩
theorem Zmv(N:Nat){R:Type}(K:Ex->St->Option R){K0:Int->Int->Bool->Kl->Option R}(h0:K0= λk8 i9 aM eJ=>K (.exit 0) (Zlw k8 i9 aM eJ))(n:Nat)(k3:Int)(i4:Int)(l5:List Kb):Zai N K0 n k3 i4 l5=LM Zez N 0 100002 n (Zmu k3 i4 l5) K:=by
  subst h0
  induction n generalizing k3 i4 l5 with
  |zero=>kernel_rfl
  |succ n ih=>rw[Zai];simp only[ih];kernel_rfl
theorem Zsr(N:Nat)(a1:List Kb)(k2:Int):DN Zez N (a1,k2,())=Zcz N a1 k2:=by
  conv=>rhs;rw[Zcz];simp(disch:=exact id (by kernel_rfl)) only[Zmv (R:=Kt×Kg) N (CF Zez N [1,0,1,0])]
  kernel_rfl
theorem Zss(N:Nat):GW 73 (Zhg N):=GF Zez N Tryz.func73 Wa (λd=>Zsr N d.1 d.2.1)
def Ziv(N:Nat):Sig:=Sig.of [.kv Jp true,.v Ja false] [.v Ja false] (λd=>Zhn N d.1 d.2.1)
def Zui:Fn:=⟨Tryz.f25,WI,Ziv,λN=>[(73,Zhg N)]⟩
theorem Zuj(N:Nat):GW 25 (Ziv N):=GF Zui N Tryz.func25 (GC (Zss N) Wa)
def Zd7(N:Nat):Sig:=Sig.of [.mut Jb,.v Ja false] [.v Ja false] (λd=>Zbs N d.1 d.2.1)
def Zd8:Fn:=⟨Tryz.f74,λ |2=>[.canon [0,1,5,9]]|3=>[.canon [0,1,5]]|4=>[.canon [0,1,5]]|5=>[.canon [0,1,5]]|6=>[.canon [0,1,5]]|7=>[.canon [0,1,5]]|8=>[.canon [0,1,5]]|9=>[.canon [0,1,5]]|100002=>[.canon [0,1,5]]|_=>[],Zd7,Waw⟩
def Zlx(k3:Int)(i4:Int)(l5:List Kb):St:=⟨[(0,vO 0),(1,vI k3),(5,vI i4)],[(0,.arr Jb l5)],1⟩
def Zle(k8:Int)(i9:Int)(aM:Bool)(eJ:List Kb):St:=⟨[(0,vO 0),(1,vI k8),(5,vI i9),(9,vB aM)],[(0,.arr Jb eJ)],1⟩
theorem Zly(N:Nat){R:Type}(K:Ex->St->Option R){K0:Int->Int->Bool->Kl->Option R}(h0:K0= λk8 i9 aM eJ=>K (.exit 0) (Zle k8 i9 aM eJ))(n:Nat)(k3:Int)(i4:Int)(l5:List Kb):Zac N K0 n k3 i4 l5=LM Zd8 N 0 100002 n (Zlx k3 i4 l5) K:=by
  subst h0
  induction n generalizing k3 i4 l5 with
  |zero=>kernel_rfl
  |succ n ih=>rw[Zac];simp only[ih];kernel_rfl
theorem Zrm(N:Nat)(a1:List Kb)(k2:Int):DN Zd8 N (a1,k2,())=Zbs N a1 k2:=by
  conv=>rhs;rw[Zbs];simp(disch:=exact id (by kernel_rfl)) only[Zly (R:=Kt×Kg) N (CF Zd8 N [1,0,1,0])]
  kernel_rfl
theorem Zjr(N:Nat):GW 74 (Zd7 N):=GF Zd8 N Tryz.func74 Wa (λd=>Zrm N d.1 d.2.1)
def Zfy(N:Nat):Sig:=Sig.of [.mut Jf,.v Ja false] [.v Ja false] (λd=>Zbx N d.1 d.2.1)
def Zdc:Fn:=⟨Tryz.f115,λ |2=>[.canon [0,1,5,9]]|3=>[.canon [0,1,5]]|4=>[.opn 15,.canon [0,1,5]]|5=>[.canon [0,1,5]]|6=>[.canon [0,1,5]]|7=>[.canon [0,1,5]]|8=>[.refold 28,.canon [0,1,5]]|100002=>[.canon [0,1,5]]|_=>[],Zfy,λN=>[(70,Zcq N)]⟩
def Zk3(k3:Int)(i4:Int)(l5:List Kf):St:=⟨[(0,vO 0),(1,vI k3),(5,vI i4)],[(0,.arr Jf l5)],1⟩
def Zkt(k7:Int)(i8:Int)(t9:Bool)(cz:List Kf):St:=⟨[(0,vO 0),(1,vI k7),(5,vI i8),(9,vB t9)],[(0,.arr Jf cz)],1⟩
theorem Zk4(N:Nat){R:Type}(K:Ex->St->Option R){K0:Int->Int->Bool->(List Kf)->Option R}(h0:K0= λk7 i8 t9 cz=>K (.exit 0) (Zkt k7 i8 t9 cz))(n:Nat)(k3:Int)(i4:Int)(l5:List Kf):Z0 N K0 n k3 i4 l5=LM Zdc N 0 100002 n (Zk3 k3 i4 l5) K:=by
  subst h0
  induction n generalizing k3 i4 l5 with
  |zero=>kernel_rfl
  |succ n ih=>rw[Z0];simp only[ih];kernel_rfl
theorem Znz(N:Nat)(a1:List Kf)(k2:Int):DN Zdc N (a1,k2,())=Zbx N a1 k2:=by
  conv=>rhs;rw[Zbx];simp(disch:=exact id (by kernel_rfl)) only[Zk4 (R:=((List Kf)×Unit)×Kg) N (CF Zdc N [1,0,1,0])]
  kernel_rfl
theorem Zn0(N:Nat):GW 115 (Zfy N):=GF Zdc N Tryz.func115 (GC (Zfd N) Wa) (λd=>Znz N d.1 d.2.1)
def Zgd(N:Nat):Sig:=Sig.of [.mut Jg,.v Ja false] [.v Ja false] (λd=>Zcf N d.1 d.2.1)
def Zdo:Fn:=⟨Tryz.f75,λ |2=>[.canon [0,1,5,9]]|3=>[.canon [0,1,5]]|4=>[.opn 15,.canon [0,1,5]]|5=>[.canon [0,1,5]]|6=>[.canon [0,1,5]]|7=>[.canon [0,1,5]]|8=>[.canon [0,1,5]]|9=>[.canon [0,1,5]]|10=>[.canon [0,1,5]]|11=>[.canon [0,1,5]]|12=>[.canon [0,1,5]]|13=>[.canon [0,1,5]]|14=>[.canon [0,1,5]]|15=>[.canon [0,1,5]]|16=>[.canon [0,1,5]]|17=>[.canon [0,1,5]]|18=>[.canon [0,1,5]]|19=>[.canon [0,1,5]]|20=>[.canon [0,1,5]]|21=>[.canon [0,1,5]]|22=>[.canon [0,1,5]]|23=>[.canon [0,1,5]]|24=>[.canon [0,1,5]]|25=>[.canon [0,1,5]]|26=>[.canon [0,1,5]]|27=>[.canon [0,1,5]]|28=>[.refold 118,.canon [0,1,5]]|29=>[.canon [0,1,5]]|100002=>[.canon [0,1,5]]|_=>[],Zgd,λN=>[(70,Zcq N),(74,Zd7 N),(71,Zdk N),(115,Zfy N)]⟩
def Zlf(k3:Int)(i4:Int)(l5:List Y_KidRun):St:=⟨[(0,vO 0),(1,vI k3),(5,vI i4)],[(0,.arr Jg l5)],1⟩
def Zk5(k10:Int)(bX:Int)(aU:Bool)(bh:List Y_KidRun):St:=⟨[(0,vO 0),(1,vI k10),(5,vI bX),(9,vB aU)],[(0,.arr Jg bh)],1⟩
theorem Zlg(N:Nat){R:Type}(K:Ex->St->Option R){K0:Int->Int->Bool->(List Y_KidRun)->Option R}(h0:K0= λk10 bX aU bh=>K (.exit 0) (Zk5 k10 bX aU bh))(n:Nat)(k3:Int)(i4:Int)(l5:List Y_KidRun):Z4 N K0 n k3 i4 l5=LM Zdo N 0 100002 n (Zlf k3 i4 l5) K:=by
  subst h0
  induction n generalizing k3 i4 l5 with
  |zero=>kernel_rfl
  |succ n ih=>rw[Z4];simp only[ih];kernel_rfl
theorem Zpp(N:Nat)(a1:List Y_KidRun)(k2:Int):DN Zdo N (a1,k2,())=Zcf N a1 k2:=by
  conv=>rhs;rw[Zcf];simp(disch:=exact id (by kernel_rfl)) only[Zlg (R:=((List Y_KidRun)×Unit)×Kg) N (CF Zdo N [1,0,1,0])]
  kernel_rfl
theorem Zpq(N:Nat):GW 75 (Zgd N):=GF Zdo N Tryz.func75 (GC (Zfd N) (GC (Zjr N) (GC (Zh8 N) (GC (Zn0 N) Wa)))) (λd=>Zpp N d.1 d.2.1)
def Zgk(N:Nat):Sig:=Sig.of [.kv Jk true,.v Ja false] [.v Ja false] (λd=>Ze7 N d.1 d.2.1)
def Zrn:Fn:=⟨Tryz.f26,WI,Zgk,λN=>[(70,Zcq N),(71,Zdk N),(74,Zd7 N),(75,Zgd N)]⟩
theorem Zro(N:Nat):GW 26 (Zgk N):=GF Zrn N Tryz.func26 (GC (Zfd N) (GC (Zh8 N) (GC (Zjr N) (GC (Zpq N) Wa))))
def Zhh(N:Nat):Sig:=Sig.of [.v Jl false,.v Ja false] [.v Ja false] (λd=>Zc0 N d.1 d.2.1)
def Ze0:Fn:=⟨Tryz.f76,λ |2=>[.canon [0,1,5,9]]|3=>[.canon [0,1,5]]|4=>[.canon [0,1,5,18]]|5=>[.canon [4]]|6=>[.canon [0,1,5]]|7=>[.canon [0,1,5,27]]|8=>[.canon [4]]|9=>[.canon [0,1,5]]|10=>[.canon [0,1,5,36]]|11=>[.canon [4]]|12=>[.canon [0,1,5]]|100002=>[.canon [0,1,5]]|_=>[],Zhh,Waw⟩
def Zmw(a3:List Kb)(k4:Int)(i5:Int):St:=⟨[(0,vV Jl a3),(1,vI k4),(5,vI i5)],[],0⟩
def Zlz(a3:List Kb):St:=⟨[(4,vI (-1:Int))],[],0⟩
def Zl0(a3:List Kb)(k6:Int)(i7:Int)(t8:Bool):St:=⟨[(0,vV Jl a3),(1,vI k6),(5,vI i7),(9,vB t8)],[],0⟩
theorem Zmx(N:Nat){R:Type}(K:Ex->St->Option R){a3:List Kb}{K0:Option R}{K1:Int->Int->Bool->Option R}(h0:K0=K .ret (Zlz a3))(h1:K1= λk6 i7 t8=>K (.exit 0) (Zl0 a3 k6 i7 t8))(n:Nat)(k4:Int)(i5:Int):Zaj N a3 K0 K1 n k4 i5=LM Ze0 N 0 100002 n (Zmw a3 k4 i5) K:=by
  subst h0 h1
  induction n generalizing k4 i5 with
  |zero=>kernel_rfl
  |succ n ih=>rw[Zaj];simp only[ih];kernel_rfl
theorem Zst(N:Nat)(a1:List Kb)(k2:Int):DN Ze0 N (a1,k2,())=Zc0 N a1 k2:=by
  conv=>rhs;rw[Zc0];simp(disch:=exact id (by kernel_rfl)) only[Zmx (R:=Unit×Kg) N (CF Ze0 N [1,0,1,0])]
  kernel_rfl
theorem Zsu(N:Nat):GW 76 (Zhh N):=GF Ze0 N Tryz.func76 Wa (λd=>Zst N d.1 d.2.1)
def Ziw(N:Nat):Sig:=Sig.of [.v Jt true,.v Ja false] [.v Ja false] (λd=>Zft N d.1 d.2.1)
def Zuk:Fn:=⟨Tryz.f27,WI,Ziw,λN=>[(76,Zhh N)]⟩
theorem Zul(N:Nat):GW 27 (Ziw N):=GF Zuk N Tryz.func27 (GC (Zsu N) Wa)
def Zdl(N:Nat):Sig:=Sig.of [.v Je false,.v Ja false] [.v Ja false] (λd=>Zax N d.1 d.2.1)
def Zfg:Fn:=⟨Tryz.f77,λ |2=>[.canon [0,1,5,9]]|3=>[.canon [0,1,5]]|4=>[.canon [0,1,5,17]]|5=>[.canon [4]]|6=>[.canon [0,1,5]]|100002=>[.canon [0,1,5]]|_=>[],Zdl,Waw⟩
def Zn1(a3:List Int)(k4:Int)(i5:Int):St:=⟨[(0,vV Je a3),(1,vI k4),(5,vI i5)],[],0⟩
def Zmy(a3:List Int):St:=⟨[(4,vI (-1:Int))],[],0⟩
def Zmz(a3:List Int)(k6:Int)(i7:Int)(t8:Bool):St:=⟨[(0,vV Je a3),(1,vI k6),(5,vI i7),(9,vB t8)],[],0⟩
theorem Zn2(N:Nat){R:Type}(K:Ex->St->Option R){a3:List Int}{K0:Option R}{K1:Int->Int->Bool->Option R}(h0:K0=K .ret (Zmy a3))(h1:K1= λk6 i7 t8=>K (.exit 0) (Zmz a3 k6 i7 t8))(n:Nat)(k4:Int)(i5:Int):Zau N a3 K0 K1 n k4 i5=LM Zfg N 0 100002 n (Zn1 a3 k4 i5) K:=by
  subst h0 h1
  induction n generalizing k4 i5 with
  |zero=>kernel_rfl
  |succ n ih=>rw[Zau];simp only[ih];kernel_rfl
theorem Ztk(N:Nat)(a1:List Int)(k2:Int):DN Zfg N (a1,k2,())=Zax N a1 k2:=by
  conv=>rhs;rw[Zax];simp(disch:=exact id (by kernel_rfl)) only[Zn2 (R:=Unit×Kg) N (CF Zfg N [1,0,1,0])]
  kernel_rfl
theorem Zia(N:Nat):GW 77 (Zdl N):=GF Zfg N Tryz.func77 Wa (λd=>Ztk N d.1 d.2.1)
def Zfh(N:Nat):Sig:=Sig.of [.v Jc false,.v Ja false] [.v Ja false] (λd=>Zbv N d.1 d.2.1)
def Zfi:Fn:=⟨Tryz.f78,λ |2=>[.canon [0,1,5,9]]|3=>[.canon [0,1,5]]|4=>[.canon [0,1,5,18]]|5=>[.canon [4]]|6=>[.canon [0,1,5]]|7=>[.canon [0,1,5,27]]|8=>[.canon [4]]|9=>[.canon [0,1,5]]|100002=>[.canon [0,1,5]]|_=>[],Zfh,Waw⟩
def Zn3(a3:List Kc)(k4:Int)(i5:Int):St:=⟨[(0,vV Jc a3),(1,vI k4),(5,vI i5)],[],0⟩
def Zm0(a3:List Kc):St:=⟨[(4,vI (-1:Int))],[],0⟩
def Zm1(a3:List Kc)(k6:Int)(i7:Int)(t8:Bool):St:=⟨[(0,vV Jc a3),(1,vI k6),(5,vI i7),(9,vB t8)],[],0⟩
theorem Zn4(N:Nat){R:Type}(K:Ex->St->Option R){a3:List Kc}{K0:Option R}{K1:Int->Int->Bool->Option R}(h0:K0=K .ret (Zm0 a3))(h1:K1= λk6 i7 t8=>K (.exit 0) (Zm1 a3 k6 i7 t8))(n:Nat)(k4:Int)(i5:Int):Zav N a3 K0 K1 n k4 i5=LM Zfi N 0 100002 n (Zn3 a3 k4 i5) K:=by
  subst h0 h1
  induction n generalizing k4 i5 with
  |zero=>kernel_rfl
  |succ n ih=>rw[Zav];simp only[ih];kernel_rfl
theorem Ztl(N:Nat)(a1:List Kc)(k2:Int):DN Zfi N (a1,k2,())=Zbv N a1 k2:=by
  conv=>rhs;rw[Zbv];simp(disch:=exact id (by kernel_rfl)) only[Zn4 (R:=Unit×Kg) N (CF Zfi N [1,0,1,0])]
  kernel_rfl
theorem Zky(N:Nat):GW 78 (Zfh N):=GF Zfi N Tryz.func78 Wa (λd=>Ztl N d.1 d.2.1)
def Zd9(N:Nat):Sig:=Sig.of [.v Jl false,.v Ja false] [.v Ja false] (λd=>Zbt N d.1 d.2.1)
def Zea:Fn:=⟨Tryz.f79,λ |2=>[.canon [0,1,5,9]]|3=>[.canon [0,1,5]]|4=>[.canon [0,1,5,18]]|5=>[.canon [4]]|6=>[.canon [0,1,5]]|7=>[.canon [0,1,5,27]]|8=>[.canon [4]]|9=>[.canon [0,1,5]]|10=>[.canon [0,1,5,36]]|11=>[.canon [4]]|12=>[.canon [0,1,5]]|100002=>[.canon [0,1,5]]|_=>[],Zd9,Waw⟩
def Zl1(a3:List Kb)(k4:Int)(i5:Int):St:=⟨[(0,vV Jl a3),(1,vI k4),(5,vI i5)],[],0⟩
def Zlh(a3:List Kb):St:=⟨[(4,vI (-1:Int))],[],0⟩
def Zli(a3:List Kb)(k6:Int)(i7:Int)(t8:Bool):St:=⟨[(0,vV Jl a3),(1,vI k6),(5,vI i7),(9,vB t8)],[],0⟩
theorem Zl2(N:Nat){R:Type}(K:Ex->St->Option R){a3:List Kb}{K0:Option R}{K1:Int->Int->Bool->Option R}(h0:K0=K .ret (Zlh a3))(h1:K1= λk6 i7 t8=>K (.exit 0) (Zli a3 k6 i7 t8))(n:Nat)(k4:Int)(i5:Int):Zad N a3 K0 K1 n k4 i5=LM Zea N 0 100002 n (Zl1 a3 k4 i5) K:=by
  subst h0 h1
  induction n generalizing k4 i5 with
  |zero=>kernel_rfl
  |succ n ih=>rw[Zad];simp only[ih];kernel_rfl
theorem Zrp(N:Nat)(a1:List Kb)(k2:Int):DN Zea N (a1,k2,())=Zbt N a1 k2:=by
  conv=>rhs;rw[Zbt];simp(disch:=exact id (by kernel_rfl)) only[Zl2 (R:=Unit×Kg) N (CF Zea N [1,0,1,0])]
  kernel_rfl
theorem Zjs(N:Nat):GW 79 (Zd9 N):=GF Zea N Tryz.func79 Wa (λd=>Zrp N d.1 d.2.1)
def Zfz(N:Nat):Sig:=Sig.of [.v Jo false,.v Ja false] [.v Ja false] (λd=>Zby N d.1 d.2.1)
def Zdd:Fn:=⟨Tryz.f116,λ |2=>[.canon [0,1,5,9]]|3=>[.canon [0,1,5]]|4=>[.canon [0,1,5,18]]|5=>[.canon [4]]|6=>[.canon [0,1,5]]|7=>[.canon [0,1,5,27]]|8=>[.canon [4]]|9=>[.canon [0,1,5]]|10=>[.canon [0,1,5]]|11=>[.canon [0,1,5,38]]|12=>[.canon [4]]|100002=>[.canon [0,1,5]]|_=>[],Zfz,λN=>[(77,Zdl N)]⟩
def Zk6(a3:List Kf)(k4:Int)(i5:Int):St:=⟨[(0,vV Jo a3),(1,vI k4),(5,vI i5)],[],0⟩
def Zku(a3:List Kf):St:=⟨[(4,vI (-1:Int))],[],0⟩
def Zkv(a3:List Kf)(k7:Int)(i8:Int)(t9:Bool):St:=⟨[(0,vV Jo a3),(1,vI k7),(5,vI i8),(9,vB t9)],[],0⟩
theorem Zk7(N:Nat){R:Type}(K:Ex->St->Option R){a3:List Kf}{K0:Option R}{K1:Int->Int->Bool->Option R}(h0:K0=K .ret (Zku a3))(h1:K1= λk7 i8 t9=>K (.exit 0) (Zkv a3 k7 i8 t9))(n:Nat)(k4:Int)(i5:Int):Z1 N a3 K0 K1 n k4 i5=LM Zdd N 0 100002 n (Zk6 a3 k4 i5) K:=by
  subst h0 h1
  induction n generalizing k4 i5 with
  |zero=>kernel_rfl
  |succ n ih=>rw[Z1];simp only[ih];kernel_rfl
theorem Zn5(N:Nat)(a1:List Kf)(k2:Int):DN Zdd N (a1,k2,())=Zby N a1 k2:=by
  conv=>rhs;rw[Zby];simp(disch:=exact id (by kernel_rfl)) only[Zk7 (R:=Unit×Kg) N (CF Zdd N [1,0,1,0])]
  kernel_rfl
theorem Zn6(N:Nat):GW 116 (Zfz N):=GF Zdd N Tryz.func116 (GC (Zia N) Wa) (λd=>Zn5 N d.1 d.2.1)
def Zge(N:Nat):Sig:=Sig.of [.v Jq false,.v Ja false] [.v Ja false] (λd=>Zcg N d.1 d.2.1)
def Zdp:Fn:=⟨Tryz.f80,λ |2=>[.canon [0,1,5,9]]|3=>[.canon [0,1,5]]|4=>[.canon [0,1,5,18]]|5=>[.canon [4]]|6=>[.canon [0,1,5]]|7=>[.canon [0,1,5,27]]|8=>[.canon [4]]|9=>[.canon [0,1,5]]|10=>[.canon [0,1,5,36]]|11=>[.canon [4]]|12=>[.canon [0,1,5]]|13=>[.canon [0,1,5,45]]|14=>[.canon [4]]|15=>[.canon [0,1,5]]|16=>[.canon [0,1,5,54]]|17=>[.canon [4]]|18=>[.canon [0,1,5]]|19=>[.canon [0,1,5,63]]|20=>[.canon [4]]|21=>[.canon [0,1,5]]|22=>[.canon [0,1,5]]|23=>[.canon [0,1,5,74]]|24=>[.canon [4]]|25=>[.canon [0,1,5]]|26=>[.canon [0,1,5,83]]|27=>[.canon [4]]|28=>[.canon [0,1,5]]|29=>[.canon [0,1,5,92]]|30=>[.canon [4]]|31=>[.canon [0,1,5]]|32=>[.canon [0,1,5,101]]|33=>[.canon [4]]|34=>[.canon [0,1,5,110]]|35=>[.canon [4]]|36=>[.canon [0,1,5]]|37=>[.canon [0,1,5,120]]|38=>[.canon [4]]|39=>[.canon [0,1,5]]|40=>[.canon [0,1,5,130]]|41=>[.canon [4]]|42=>[.canon [0,1,5]]|43=>[.canon [0,1,5,140]]|44=>[.canon [4]]|45=>[.canon [0,1,5]]|46=>[.canon [0,1,5,150]]|47=>[.canon [4]]|48=>[.canon [0,1,5]]|100002=>[.canon [0,1,5]]|_=>[],Zge,λN=>[(77,Zdl N),(79,Zd9 N),(78,Zfh N),(116,Zfz N)]⟩
def Zlj(a3:List Y_KidRun)(k4:Int)(i5:Int):St:=⟨[(0,vV Jq a3),(1,vI k4),(5,vI i5)],[],0⟩
def Zk8(a3:List Y_KidRun):St:=⟨[(4,vI (-1:Int))],[],0⟩
def Zk9(a3:List Y_KidRun)(k10:Int)(bX:Int)(aU:Bool):St:=⟨[(0,vV Jq a3),(1,vI k10),(5,vI bX),(9,vB aU)],[],0⟩
theorem Zlk(N:Nat){R:Type}(K:Ex->St->Option R){a3:List Y_KidRun}{K0:Option R}{K1:Int->Int->Bool->Option R}(h0:K0=K .ret (Zk8 a3))(h1:K1= λk10 bX aU=>K (.exit 0) (Zk9 a3 k10 bX aU))(n:Nat)(k4:Int)(i5:Int):Z5 N a3 K0 K1 n k4 i5=LM Zdp N 0 100002 n (Zlj a3 k4 i5) K:=by
  subst h0 h1
  induction n generalizing k4 i5 with
  |zero=>kernel_rfl
  |succ n ih=>rw[Z5];simp only[ih];kernel_rfl
theorem Zpr(N:Nat)(a1:List Y_KidRun)(k2:Int):DN Zdp N (a1,k2,())=Zcg N a1 k2:=by
  conv=>rhs;rw[Zcg];simp(disch:=exact id (by kernel_rfl)) only[Zlk (R:=Unit×Kg) N (CF Zdp N [1,0,1,0])]
  kernel_rfl
theorem Zps(N:Nat):GW 80 (Zge N):=GF Zdp N Tryz.func80 (GC (Zia N) (GC (Zjs N) (GC (Zky N) (GC (Zn6 N) Wa)))) (λd=>Zpr N d.1 d.2.1)
def Zgl(N:Nat):Sig:=Sig.of [.v (TY_Family) true,.v Ja false] [.v Ja false] (λd=>Zdi N d.1 d.2.1)
def Zrq:Fn:=⟨Tryz.f28,WI,Zgl,λN=>[(77,Zdl N),(78,Zfh N),(79,Zd9 N),(80,Zge N)]⟩
theorem Zrr(N:Nat):GW 28 (Zgl N):=GF Zrq N Tryz.func28 (GC (Zia N) (GC (Zky N) (GC (Zjs N) (GC (Zps N) Wa))))
def Zh1(N:Nat):Sig:=Sig.of [.v Jn true] [.v Jr false] (λd=>Zch N d.1)
def Zl3:Fn:=⟨Tryz.f4,WI,Zh1,λN=>[(18,Zf1 N),(20,Zf2 N),(19,Zil N),(7,Ziq N),(21,Zj9 N),(22,Zh7 N),(23,Zgb N),(24,Ze5 N),(25,Ziv N),(26,Zgk N),(27,Ziw N),(28,Zgl N)]⟩
set_option maxRecDepth 100000 in theorem Zl4 (N:Nat):GW 4 (Zh1 N):=GF Zl3 N Tryz.func4 (GC (Zoa N) (GC (Zof N) (GC (Ztw N) (GC (Zt9 N) (GC (Zwo N) (GC (Ztf N) (GC (Zpm N) (GC (Zmt N) (GC (Zuj N) (GC (Zro N) (GC (Zul N) (GC (Zrr N) Wa))))))))))))
end
end Go.Sx
