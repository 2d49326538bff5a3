/- Each Go function does what its Lean function says. -/
import Derived.Test.YthfplagpoopmcaaGreatD
namespace Go.Sx
noncomputable section
open Go.Proofs
open Tryz
variable(N:Nat){R:Type}(K:Ex->St->Option R)
set_option linter.unusedVariables false
set_option linter.unusedSimpArgs false
def Zom:Fn:=⟨f15,WG,λN=>Sig.of [.box Jy,vf_ Js,vf_ Ja] [vf_ Js] (λd=>Zv N d.1 d.2.1 d.2.2.1),CX [Zez,Zm,Ziq,Zi7,Zp2,Zlp,Zhe,Za4,Zc7,Ztc]⟩
def Zon:Gd:=GF Zom func15
def Zoo:Fn:=⟨f16,WG,λN=>Sig.of [.box Jy,vf_ Js,vf_ Ja,vf_ Ja] [vf_ Js] (λd=>Zi8 N d.1 d.2.1 d.2.2.1 d.2.2.2.1),CX [Za4,Zao,Zna,Zc7,Ziq]⟩
def Zop:Gd:=GF Zoo func16
def Ze1:Fn:=⟨f10,λ |6=>[.view 26]|7=>cn_ [0,7,8,26,27,28,29]|8=>cn_ [0,7,8,10,26,27,28]|9=>cn_ [0,7,8,11,12,26,27,28]|10=>cn_ [0,7,8,11,26,27,28,38]|11=>cn_ [0,4]|12=>cn_ [0,7,8,26,27,28]|13=>cn_ [0,7,8,26,27,28]|100007=>cn_ [0,7,8,26,27,28]|_=>[],λN=>Sig.of [.box Jy,vf_ Js] [vf_ Js] (λd=>Za N d.1 d.2.1),CX [Zsc,Zot,Zis,Zjl,Zm4,Zon,Zop]⟩
def Zjs(t6:Nat)(t7:Nat)(t8:Int)(t9:Int)(aQ:Int)(ci:List Kh)(ca:List Int)(bb:List Int)(aU:List Int)(bf:List Kn)(bR:List Kb):St:=⟨[(0,vP 0 0),(7,vO 1),(8,vO 2),(26,.s (.one (.vw 1 t6 t7))),(27,vI t8),(28,vI t9)],[(0,.box [.own 3,.own 4,.val Ja aQ,.own 5,.own 6]),(1,.arr Js ci),(2,.arr Ja ca),(3,.arr Ja bb),(4,.arr Ja aU),(5,.arr Jg bf),(6,.arr Jl bR)],7⟩
def Zjj(t6:Nat)(t7:Nat)(t8:Int)(aQ:Int)(ci:List Kh)(bb:List Int)(aU:List Int)(bf:List Kn)(bR:List Kb):St:=⟨[(0,vP 0 0),(4,vV Js ([119,104,97,116]:List UInt8))],[(0,.box [.own 1,.own 2,.val Ja aQ,.own 3,.own 4]),(1,.arr Ja bb),(2,.arr Ja aU),(3,.arr Jg bf),(4,.arr Jl bR)],5⟩
def Zjk(t6:Nat)(t7:Nat)(t8:Int)(aQ:Int)(ci:List Kh)(bb:List Int)(aU:List Int)(bf:List Kn)(bR:List Kb)(eC:Int)(eO:Bool)(cR:List Int):St:=⟨[(0,vP 0 0),(7,vO 1),(8,vO 2),(26,.s (.one (.vw 1 t6 t7))),(27,vI t8),(28,vI eC),(29,vB eO)],[(0,.box [.own 3,.own 4,.val Ja aQ,.own 5,.own 6]),(1,.arr Js ci),(2,.arr Ja cR),(3,.arr Ja bb),(4,.arr Ja aU),(5,.arr Jg bf),(6,.arr Jl bR)],7⟩
theorem Zjt{t6:Nat}{t7:Nat}{t8:Int}{aQ:Int}{ci:List Kh}{bb:List Int}{aU:List Int}{bf:List Kn}{bR:List Kb}{K0:Option R}{K1:Int->Bool->Kg->Option R}(h0:K0=K .ret (Zjj t6 t7 t8 aQ ci bb aU bf bR))(h1:K1= λeC eO cR=>K (.exit 0) (Zjk t6 t7 t8 aQ ci bb aU bf bR eC eO cR))(n:Nat)(t9:Int)(ca:List Int):Zej N t6 t7 t8 aQ ci bb aU bf bR K0 K1 n t9 ca=LM Ze1 N 0 100007 n (Zjs t6 t7 t8 t9 aQ ci ca bb aU bf bR) K:=by
  subst h0 h1
  induction n generalizing t9 ca with
  |zero=>kernel_rfl
  |succ n ih=>rw[Zej];simp only[ih];kernel_rfl
theorem Zm5(d1:Kf×List Kn×List Kb)(t2:List UInt8):DN Ze1 N (d1,t2,())=Za N d1 t2:=by
  conv=>rhs;rw[Za];simp(disch:=exact id (by kernel_rfl)) only[Zjt (R:=Kad×Kt) N (CF Ze1 N [1,1,1,1,0,1,0])]
  kernel_rfl
def Zm6:Gd:=GF Ze1 func10 (λN d=>Zm5 N d.1 d.2.1)
def Zh4:Fn:=⟨f7,λ |9=>cn_ [4,5,35,36,37,38]|10=>cn_ [4,5,7,35,36,37]|11=>cn_ [4,5,7,35,36,37,42]|12=>cn_ [4,5,35,36,37]|13=>cn_ [4,5,35,36,37]|100009=>[.adoptC 4 3 Jg,.adoptC 4 4 Jl,.canon [4,5,35,36,37]]|_=>[],λN=>Sig.of [vf_ Js] [vf_ Js] (λd=>Zf7 N d.1),CX [Zis,Zm6]⟩
def Zqx(bi:List UInt8)(t4:Int)(t5:Int)(b6:Int)(l7:List Kh)(l8:List Int)(l9:List Int)(gq:List Kn)(ci:List Kb):St:=⟨[(4,vP 0 0),(5,vV Js bi),(35,vO 1),(36,vI t4),(37,vI t5)],[(0,.box [.own 2,.own 3,.val Ja b6,.own 4,.own 5]),(1,.arr Js l7),(2,.arr Ja l8),(3,.arr Ja l9),(4,.arr Jg gq),(5,.arr Jl ci)],6⟩
def Zp5(t4:Int)(l7:List Kh)(jr:List UInt8)(eJ:Int)(bD:Bool)(aP:Int)(dq:List Int)(bC:List Int)(cM:List Kn)(cR:List Kb):St:=⟨[(4,vP 0 0),(5,vV Js jr),(35,vO 1),(36,vI t4),(37,vI eJ),(38,vB bD)],[(0,.box [.own 2,.own 3,.val Ja aP,.own 4,.own 5]),(1,.arr Js l7),(2,.arr Ja dq),(3,.arr Ja bC),(4,.arr Jg cM),(5,.arr Jl cR)],6⟩
theorem Zqy{t4:Int}{l7:List Kh}{K0:Kh->Int->Bool->Int->Kg->Kg->(List Kn)->Ks->Option R}(h0:K0= λjr eJ bD aP dq bC cM cR=>K (.exit 0) (Zp5 t4 l7 jr eJ bD aP dq bC cM cR))(n:Nat)(bi:List UInt8)(t5:Int)(b6:Int)(l8:List Int)(l9:List Int)(gq:List Kn)(ci:List Kb):Zay N t4 l7 K0 n bi t5 b6 l8 l9 gq ci=LM Zh4 N 0 100009 n (Zqx bi t4 t5 b6 l7 l8 l9 gq ci) K:=by
  subst h0
  induction n generalizing bi t5 b6 l8 l9 gq ci with
  |zero=>kernel_rfl
  |succ n ih=>rw[Zay];simp only[ih];kernel_rfl
theorem Ztr(s1:List UInt8):DN Zh4 N (s1,())=Zf7 N s1:=by
  conv=>rhs;rw[Zf7];simp(disch:=exact id (by kernel_rfl)) only[Zqy (R:=Unit×Kt) N (CF Zh4 N [1,1,1,1,1,1,0,1,0])]
  kernel_rfl
def Zts:Gd:=GF Zh4 func7 (λN d=>Ztr N d.1)
def Zsv:Fn:=⟨f8,WG,λN=>Sig.of [vf_ Js,vf_ Js] [vf_ Jq] (λd=>Zhz N d.1 d.2.1),WaN⟩
def Zsw:Gd:=GN Zsv func8
def Zm7:Fn:=⟨f3,WG,λN=>Sig.of [vf_ (.slice Jaf)] [vf_ Jq] (λd=>Zeo N d.1),CX [Ztu,Zt0,Ztw,Zts,Zsw]⟩
set_option maxRecDepth 100000 in def Zm8:Gd:=GF Zm7 func3
end
end Go.Sx
