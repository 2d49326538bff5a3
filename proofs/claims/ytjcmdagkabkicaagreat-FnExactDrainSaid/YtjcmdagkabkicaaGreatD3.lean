/- Each Go function does what its Lean function says. -/
import Derived.Test.YtjcmdagkabkicaaGreatD2
namespace Go.Sx
noncomputable section
open Go.Proofs
open Tryz
variable(N:Nat){R:Type}(K:Ex->St->Option R)
set_option linter.unusedVariables false
set_option linter.unusedSimpArgs false
theorem Zu9{a3:List Kb}{K0:Option R}{K1:Int->Int->Bool->Option R}(h0:K0=K .ret (Zt0 a3))(h1:K1= λk6 i7 t8=>K (.exit 0) (Zt1 a3 k6 i7 t8))(n:Nat)(k4:Int)(i5:Int):Zbw N a3 K0 K1 n k4 i5=LM Zkw N 0 100002 n (Zu8 a3 k4 i5) K:=by
  subst h0 h1
  induction n generalizing k4 i5 with
  |zero=>kernel_rfl
  |succ n ih=>rw[Zbw];simp only[ih];kernel_rfl
theorem Z6u(a1:List Kb)(k2:Int):DN Zkw N (a1,k2,())=Zel N a1 k2:=by
  conv=>rhs;rw[Zel];simp(disch:=exact id (by kernel_rfl)) only[Zu9 (R:=Unit×Kh) N (CF Zkw N [1,0,1,0])]
  kernel_rfl
def Zr3:Gd:=GN Zkw func96 (λN d=>Z6u N d.1 d.2.1)
def Ziz:Fn:=⟨f160,λ |2=>cn_ [0,1,5,9]|3=>cn_ [0,1,5]|4=>cn_ [0,1,5,18]|5=>cn_ [4]|6=>cn_ [0,1,5]|7=>cn_ [0,1,5,27]|8=>cn_ [4]|9=>cn_ [0,1,5]|10=>cn_ [0,1,5]|11=>cn_ [0,1,5,38]|12=>cn_ [4]|100002=>cn_ [0,1,5]|_=>[],λN=>Sig.of [vf_ Jam,vf_ Ja] [vf_ Ja] (λd=>Zez N d.1 d.2.1),CX [Zjb]⟩
def Ztd(a3:List Ki)(k4:Int)(i5:Int):St:=⟨[(0,vV Jam a3),(1,vI k4),(5,vI i5)],[],0⟩
def Zsu(a3:List Ki):St:=⟨[(4,vI (-1:Int))],[],0⟩
def Zsv(a3:List Ki)(k7:Int)(i8:Int)(t9:Bool):St:=⟨[(0,vV Jam a3),(1,vI k7),(5,vI i8),(9,vB t9)],[],0⟩
theorem Zte{a3:List Ki}{K0:Option R}{K1:Int->Int->Bool->Option R}(h0:K0=K .ret (Zsu a3))(h1:K1= λk7 i8 t9=>K (.exit 0) (Zsv a3 k7 i8 t9))(n:Nat)(k4:Int)(i5:Int):Za3 N a3 K0 K1 n k4 i5=LM Ziz N 0 100002 n (Ztd a3 k4 i5) K:=by
  subst h0 h1
  induction n generalizing k4 i5 with
  |zero=>kernel_rfl
  |succ n ih=>rw[Za3];simp only[ih];kernel_rfl
theorem Z0g(a1:List Ki)(k2:Int):DN Ziz N (a1,k2,())=Zez N a1 k2:=by
  conv=>rhs;rw[Zez];simp(disch:=exact id (by kernel_rfl)) only[Zte (R:=Unit×Kh) N (CF Ziz N [1,0,1,0])]
  kernel_rfl
def Z0h:Gd:=GF Ziz func160 (λN d=>Z0g N d.1 d.2.1)
def Zje:Fn:=⟨f97,λ |2=>cn_ [0,1,5,9]|3=>cn_ [0,1,5]|4=>cn_ [0,1,5,18]|5=>cn_ [4]|6=>cn_ [0,1,5]|7=>cn_ [0,1,5,27]|8=>cn_ [4]|9=>cn_ [0,1,5]|10=>cn_ [0,1,5,36]|11=>cn_ [4]|12=>cn_ [0,1,5]|13=>cn_ [0,1,5,45]|14=>cn_ [4]|15=>cn_ [0,1,5]|16=>cn_ [0,1,5,54]|17=>cn_ [4]|18=>cn_ [0,1,5]|19=>cn_ [0,1,5,63]|20=>cn_ [4]|21=>cn_ [0,1,5]|22=>cn_ [0,1,5]|23=>cn_ [0,1,5,74]|24=>cn_ [4]|25=>cn_ [0,1,5]|26=>cn_ [0,1,5,83]|27=>cn_ [4]|28=>cn_ [0,1,5]|29=>cn_ [0,1,5,92]|30=>cn_ [4]|31=>cn_ [0,1,5]|32=>cn_ [0,1,5,101]|33=>cn_ [4]|34=>cn_ [0,1,5,110]|35=>cn_ [4]|36=>cn_ [0,1,5]|37=>cn_ [0,1,5,120]|38=>cn_ [4]|39=>cn_ [0,1,5]|40=>cn_ [0,1,5,130]|41=>cn_ [4]|42=>cn_ [0,1,5]|43=>cn_ [0,1,5,140]|44=>cn_ [4]|45=>cn_ [0,1,5]|46=>cn_ [0,1,5,150]|47=>cn_ [4]|48=>cn_ [0,1,5]|100002=>cn_ [0,1,5]|_=>[],λN=>Sig.of [vf_ Jae,vf_ Ja] [vf_ Ja] (λd=>Zf5 N d.1 d.2.1),CX [Zjb,Zr3,Zqa,Z0h]⟩
def Zt2(a3:List Y_KidRun)(k4:Int)(i5:Int):St:=⟨[(0,vV Jae a3),(1,vI k4),(5,vI i5)],[],0⟩
def Ztf(a3:List Y_KidRun):St:=⟨[(4,vI (-1:Int))],[],0⟩
def Ztg(a3:List Y_KidRun)(k10:Int)(bp:Int)(ax:Bool):St:=⟨[(0,vV Jae a3),(1,vI k10),(5,vI bp),(9,vB ax)],[],0⟩
theorem Zt3{a3:List Y_KidRun}{K0:Option R}{K1:Int->Int->Bool->Option R}(h0:K0=K .ret (Ztf a3))(h1:K1= λk10 bp ax=>K (.exit 0) (Ztg a3 k10 bp ax))(n:Nat)(k4:Int)(i5:Int):Zbh N a3 K0 K1 n k4 i5=LM Zje N 0 100002 n (Zt2 a3 k4 i5) K:=by
  subst h0 h1
  induction n generalizing k4 i5 with
  |zero=>kernel_rfl
  |succ n ih=>rw[Zbh];simp only[ih];kernel_rfl
theorem Z3v(a1:List Y_KidRun)(k2:Int):DN Zje N (a1,k2,())=Zf5 N a1 k2:=by
  conv=>rhs;rw[Zf5];simp(disch:=exact id (by kernel_rfl)) only[Zt3 (R:=Unit×Kh) N (CF Zje N [1,0,1,0])]
  kernel_rfl
def Z3w:Gd:=GF Zje func97 (λN d=>Z3v N d.1 d.2.1)
def Zl6:Fn:=⟨f48,λ |2=>cn_ [0,1,5,9]|3=>cn_ [0,1,5]|4=>cn_ [0,1,5,18]|5=>cn_ [4]|6=>cn_ [0,1,5]|7=>cn_ [0,1,5,27]|8=>cn_ [4]|9=>cn_ [0,1,5]|10=>cn_ [0,1,5,36]|11=>cn_ [4]|12=>cn_ [0,1,5]|13=>cn_ [0,1,5,45]|14=>cn_ [4]|15=>cn_ [0,1,5]|16=>cn_ [0,1,5,54]|17=>cn_ [4]|18=>cn_ [0,1,5]|19=>cn_ [0,1,5,63]|20=>cn_ [4]|21=>cn_ [0,1,5]|22=>cn_ [0,1,5,72]|23=>cn_ [4]|24=>cn_ [0,1,5]|25=>cn_ [0,1,5,81]|26=>cn_ [4]|27=>cn_ [0,1,5]|28=>cn_ [0,1,5,90]|29=>cn_ [4]|30=>cn_ [0,1,5]|31=>cn_ [0,1,5,99]|32=>cn_ [4]|33=>cn_ [0,1,5]|34=>cn_ [0,1,5,108]|35=>cn_ [4]|36=>cn_ [0,1,5]|37=>cn_ [0,1,5,119]|38=>cn_ [4]|39=>cn_ [0,1,5]|40=>cn_ [0,1,5]|41=>cn_ [0,1,5,130]|42=>cn_ [4]|43=>cn_ [0,1,5]|44=>cn_ [0,1,5,139]|45=>cn_ [4]|46=>cn_ [0,1,5]|47=>cn_ [0,1,5,148]|48=>cn_ [4]|49=>cn_ [0,1,5]|50=>cn_ [0,1,5,157]|51=>cn_ [4]|52=>cn_ [0,1,5]|53=>cn_ [0,1,5,166]|54=>cn_ [4]|55=>cn_ [0,1,5]|56=>cn_ [0,1,5,175]|57=>cn_ [4]|58=>cn_ [0,1,5,184]|59=>cn_ [4]|60=>cn_ [0,1,5]|61=>cn_ [0,1,5,194]|62=>cn_ [4]|63=>cn_ [0,1,5]|64=>cn_ [0,1,5,204]|65=>cn_ [4]|66=>cn_ [0,1,5]|67=>cn_ [0,1,5,214]|68=>cn_ [4]|69=>cn_ [0,1,5]|70=>cn_ [0,1,5,224]|71=>cn_ [4]|72=>cn_ [0,1,5]|73=>cn_ [0,1,5,234]|74=>cn_ [4]|75=>cn_ [0,1,5]|76=>cn_ [0,1,5,244]|77=>cn_ [4]|78=>cn_ [0,1,5]|79=>cn_ [0,1,5,254]|80=>cn_ [4]|81=>cn_ [0,1,5]|82=>cn_ [0,1,5,264]|83=>cn_ [4]|84=>cn_ [0,1,5]|85=>cn_ [0,1,5,274]|86=>cn_ [4]|87=>cn_ [0,1,5]|88=>cn_ [0,1,5]|89=>cn_ [0,1,5,286]|90=>cn_ [4]|91=>cn_ [0,1,5]|92=>cn_ [0,1,5,296]|93=>cn_ [4]|94=>cn_ [0,1,5,304]|95=>cn_ [4]|96=>cn_ [0,1,5]|97=>cn_ [0,1,5,314]|98=>cn_ [4]|99=>cn_ [0,1,5]|100=>cn_ [0,1,5,324]|101=>cn_ [4]|102=>cn_ [0,1,5]|103=>cn_ [0,1,5,336]|104=>cn_ [4]|105=>cn_ [0,1,5]|106=>cn_ [0,1,5]|107=>cn_ [0,1,5,348]|108=>cn_ [4]|109=>cn_ [0,1,5]|110=>cn_ [0,1,5,358]|111=>cn_ [4]|112=>cn_ [0,1,5]|113=>cn_ [0,1,5,368]|114=>cn_ [4]|115=>cn_ [0,1,5]|116=>cn_ [0,1,5,378]|117=>cn_ [4]|118=>cn_ [0,1,5]|119=>cn_ [0,1,5,388]|120=>cn_ [4]|121=>cn_ [0,1,5]|122=>cn_ [0,1,5,398]|123=>cn_ [4]|100002=>cn_ [0,1,5]|_=>[],λN=>Sig.of [vf_ Jai,vf_ Ja] [vf_ Ja] (λd=>Zia N d.1 d.2.1),CX [Zjb,Zqa,Z9s,Z9u,Zr3,Z3w]⟩
def Zxh(a3:List Y_Root)(k4:Int)(i5:Int):St:=⟨[(0,vV Jai a3),(1,vI k4),(5,vI i5)],[],0⟩
def Zva(a3:List Y_Root):St:=⟨[(4,vI (-1:Int))],[],0⟩
def Zvb(a3:List Y_Root)(gv:Int)(jo:Int)(t22:Bool):St:=⟨[(0,vV Jai a3),(1,vI gv),(5,vI jo),(9,vB t22)],[],0⟩
theorem Zxi{a3:List Y_Root}{K0:Option R}{K1:Int->Int->Bool->Option R}(h0:K0=K .ret (Zva a3))(h1:K1= λgv jo t22=>K (.exit 0) (Zvb a3 gv jo t22))(n:Nat)(k4:Int)(i5:Int):Zci N a3 K0 K1 n k4 i5=LM Zl6 N 0 100002 n (Zxh a3 k4 i5) K:=by
  subst h0 h1
  induction n generalizing k4 i5 with
  |zero=>kernel_rfl
  |succ n ih=>rw[Zci];simp only[ih];kernel_rfl
theorem Z9v(a1:List Y_Root)(k2:Int):DN Zl6 N (a1,k2,())=Zia N a1 k2:=by
  conv=>rhs;rw[Zia];simp(disch:=exact id (by kernel_rfl)) only[Zxi (R:=Unit×Kh) N (CF Zl6 N [1,0,1,0])]
  kernel_rfl
def Z9w:Gd:=GF Zl6 func48 (λN d=>Z9v N d.1 d.2.1)
def Zkx:Fn:=⟨f49,λ |2=>cn_ [0,1,5,9]|3=>cn_ [0,1,5]|4=>cn_ [0,1,5,18]|5=>cn_ [4]|6=>cn_ [0,1,5]|7=>cn_ [0,1,5,27]|8=>cn_ [4]|9=>cn_ [0,1,5]|10=>cn_ [0,1,5]|11=>cn_ [0,1,5,38]|12=>cn_ [4]|100002=>cn_ [0,1,5]|_=>[],λN=>Sig.of [vf_ Jao,vf_ Ja] [vf_ Ja] (λd=>Zhc N d.1 d.2.1),CX [Zqa]⟩
def Zvc(a3:List Kn)(k4:Int)(i5:Int):St:=⟨[(0,vV Jao a3),(1,vI k4),(5,vI i5)],[],0⟩
def Zt4(a3:List Kn):St:=⟨[(4,vI (-1:Int))],[],0⟩
def Zt5(a3:List Kn)(k7:Int)(i8:Int)(t9:Bool):St:=⟨[(0,vV Jao a3),(1,vI k7),(5,vI i8),(9,vB t9)],[],0⟩
theorem Zvd{a3:List Kn}{K0:Option R}{K1:Int->Int->Bool->Option R}(h0:K0=K .ret (Zt4 a3))(h1:K1= λk7 i8 t9=>K (.exit 0) (Zt5 a3 k7 i8 t9))(n:Nat)(k4:Int)(i5:Int):Zbz N a3 K0 K1 n k4 i5=LM Zkx N 0 100002 n (Zvc a3 k4 i5) K:=by
  subst h0 h1
  induction n generalizing k4 i5 with
  |zero=>kernel_rfl
  |succ n ih=>rw[Zbz];simp only[ih];kernel_rfl
theorem Z6v(a1:List Kn)(k2:Int):DN Zkx N (a1,k2,())=Zhc N a1 k2:=by
  conv=>rhs;rw[Zhc];simp(disch:=exact id (by kernel_rfl)) only[Zvd (R:=Unit×Kh) N (CF Zkx N [1,0,1,0])]
  kernel_rfl
def Z6w:Gd:=GF Zkx func49 (λN d=>Z6v N d.1 d.2.1)
def Z9x:Fn:=⟨f13,Wu,λN=>Sig.of [vt_ (TY_World),vf_ Ja] [vf_ Ja] (λd=>Zkk N d.1 d.2.1),CX [Zae4,Z9o,Z9q,Z9w,Z6w]⟩
def Z9y:Gd:=GF Z9x func13
def Z0i:Fn:=⟨f4,Wu,λN=>Sig.of [vt_ Jt] [vf_ Jp] (λd=>Zhp N d.1),CX [Z92,Z96,Zah5,Zaij,Zaex,Zabq,Z6q,Z9k,Z9y]⟩
set_option maxRecDepth 100000 in def Z0j:Gd:=GF Z0i func4
end
end Go.Sx
