/- Each Go function does what its Lean function says. -/
import Derived.Test.YtnkbflecplbceaaGreatD
open List renaming getD→Xd
open Int renaming toNat→Xb
namespace Go.Sx
noncomputable section
open Go.Proofs
set_option linter.unusedVariables false
set_option linter.unusedSimpArgs false
theorem Zoy(N:Nat){R:Type}(K:Ex->St->Option R){k4:Int}{t5:Int}{b7:Int}{b8:Int}{b9:Int}{aS:Bool}{bc:Int}{cj:Int}{bo:Int}{bI:Int}{bn:Int}{aC:Int}{cV:Bool}{bR:Int}{dF:Int}{du:Int}{gV:Int}{bS:List Kc}{cC:List Int}{cW:List Kc}{gW:List Int}{da:List Kc}{fF:List Y_KidRun}{gX:Nat}{eF:List Int}{eG:List Kb}{eH:List Kc}{cE:List Kk}{K0:Int->Bool->Kt->Option R}(h0:K0= λu6 ku jN=>K (.exit 0) (Zon k4 t5 b7 b8 b9 aS bc cj bo bI bn aC cV bR dF du gV bS cC cW gW da fF gX eF eG eH cE u6 ku jN))(n:Nat)(t6:Int)(gw:List Kb):Zaz N k4 t5 b7 b8 b9 aS bc cj bo bI bn aC cV bR dF du gV bS cC cW gW da fF gX eF eG eH cE K0 n t6 gw=LM Zci N 0 100003 n (Zox k4 t5 t6 b7 b8 b9 aS bc cj bo bI bn aC cV bR dF du gV bS cC cW gw gW da fF gX eF eG eH cE) K:=by
  subst h0
  induction n generalizing t6 gw with
  |zero=>kernel_rfl
  |succ n ih=>rw[Zaz];simp only[ih];kernel_rfl
def Zoz(jt:Int)(ju:Int)(t45:Int)(cD:Int)(dv:Int)(dw:Int)(dx:Bool)(dy:Int)(fa:Int)(fb:Int)(fe:Int)(ff:Int)(jv:Int)(jw:Bool)(jx:Int)(jy:Int)(jz:Int)(jA:Int)(cX:List Kb)(jB:List Int)(jC:List Kc)(jD:List Kb)(jE:List Int)(kV:List Kc)(jF:List Y_KidRun)(jG:Nat)(dz:List Int)(dA:List Kc)(dB:List Kk):St:=⟨[(0,vP 0 0),(1,vI jt),(4,vP 1 0),(75,vO 2),(76,vI ju),(77,vI t45)],[(0,.box [.val Ja cD,.val Ja dv,.val Ja dw,.val Jp dx,.own 3,.own 4,.own 5,.own 6,.own 7,.own 8]),(1,.box [.val Ja dy,.val Ja fa,.val Ja fb,.val Ja fe,.val Ja ff,.val Ja jv,.own 9,.own 2,.own 10,.own 11,.val Jp jw,.val Ja jx,.val Ja jy,.val Ja jz,.val Ja jA]),(2,.arr Jj cX),(3,.arr Ja jB),(4,.arr Ju jC),(5,.arr Jj jD),(6,.arr Ja jE),(7,.arr Ju kV),(8,.hole Jh jF jG 1),(9,.arr Ja dz),(10,.arr Ju dA),(11,.arr Jag dB)],12⟩
def Zoo(jt:Int)(ju:Int)(cD:Int)(dv:Int)(dw:Int)(dx:Bool)(dy:Int)(fa:Int)(fb:Int)(fe:Int)(ff:Int)(jv:Int)(jw:Bool)(jx:Int)(jy:Int)(jz:Int)(jA:Int)(cX:List Kb)(jB:List Int)(jC:List Kc)(jD:List Kb)(jE:List Int)(jF:List Y_KidRun)(jG:Nat)(dz:List Int)(dA:List Kc)(dB:List Kk)(ss:Int)(u7:Bool)(u9:List Kc):St:=⟨[(0,vP 0 0),(1,vI jt),(4,vP 1 0),(75,vO 2),(76,vI ju),(77,vI ss),(78,vB u7)],[(0,.box [.val Ja cD,.val Ja dv,.val Ja dw,.val Jp dx,.own 3,.own 4,.own 5,.own 6,.own 7,.own 8]),(1,.box [.val Ja dy,.val Ja fa,.val Ja fb,.val Ja fe,.val Ja ff,.val Ja jv,.own 9,.own 2,.own 10,.own 11,.val Jp jw,.val Ja jx,.val Ja jy,.val Ja jz,.val Ja jA]),(2,.arr Jj cX),(3,.arr Ja jB),(4,.arr Ju jC),(5,.arr Jj jD),(6,.arr Ja jE),(7,.arr Ju u9),(8,.hole Jh jF jG 1),(9,.arr Ja dz),(10,.arr Ju dA),(11,.arr Jag dB)],12⟩
theorem Zo0(N:Nat){R:Type}(K:Ex->St->Option R){jt:Int}{ju:Int}{cD:Int}{dv:Int}{dw:Int}{dx:Bool}{dy:Int}{fa:Int}{fb:Int}{fe:Int}{ff:Int}{jv:Int}{jw:Bool}{jx:Int}{jy:Int}{jz:Int}{jA:Int}{cX:List Kb}{jB:List Int}{jC:List Kc}{jD:List Kb}{jE:List Int}{jF:List Y_KidRun}{jG:Nat}{dz:List Int}{dA:List Kc}{dB:List Kk}{K0:Int->Bool->Ky->Option R}(h0:K0= λss u7 u9=>K (.exit 2) (Zoo jt ju cD dv dw dx dy fa fb fe ff jv jw jx jy jz jA cX jB jC jD jE jF jG dz dA dB ss u7 u9))(n:Nat)(t45:Int)(kV:List Kc):Za8 N jt ju cD dv dw dx dy fa fb fe ff jv jw jx jy jz jA cX jB jC jD jE jF jG dz dA dB K0 n t45 kV=LM Zci N 1 100013 n (Zoz jt ju t45 cD dv dw dx dy fa fb fe ff jv jw jx jy jz jA cX jB jC jD jE kV jF jG dz dA dB) K:=by
  subst h0
  induction n generalizing t45 kV with
  |zero=>kernel_rfl
  |succ n ih=>rw[Za8];simp only[ih];kernel_rfl
theorem Zrt(N:Nat)(f1:Y_Family)(k2:Int):DN Zci N (f1,k2,())=Zdd N f1 k2:=by
  conv=>rhs;rw[Zdd];simp(disch:=exact id (by kernel_rfl)) only[Zoy (R:=(Y_Family×Unit)×Unit) N (CF Zci N [1,1,0,1,0]),Zo0 (R:=(Y_Family×Unit)×Unit) N (CF Zci N [1,1,1,1,0,1,0])]
  kernel_rfl
theorem Zru(N:Nat):GW 121 (Zje N):=GF Zci N Tryz.func121 (GC (Znp N) (GC (Zjc N) (GC (Zdu N) Wa))) (λd=>Zrt N d.1 d.2.1)
def Zj8(N:Nat):Sig:=Sig.of [.box Jy,.v Ja false,.v Jc false,.v Jab true] [] (λd=>Zh7 N d.1 d.2.1 d.2.2.1 d.2.2.2.1)
def Zto:Fn:=⟨Tryz.f74,λ |2=>[.opn 20]|_=>[],Zj8,λN=>[(120,Zko N),(121,Zje N),(122,Zel N),(123,Zfl N)]⟩
theorem Ztp(N:Nat):GW 74 (Zj8 N):=GF Zto N Tryz.func74 (GC (Zvk N) (GC (Zru N) (GC (Zjc N) (GC (Zl5 N) Wa))))
def Zge(N:Nat):Sig:=Sig.of [.box Js,.v Jw true,.v Jj true] [] (λd=>Zd3 N d.1 d.2.1 d.2.2.1)
def Zwy:Fn:=⟨Tryz.f36,λ |3=>[.unfE 6]|_=>[],Zge,λN=>[(44,Z0 N),(73,Zkn N),(74,Zj8 N)]⟩
theorem Zln(N:Nat):GW 36 (Zge N):=GF Zwy N Tryz.func36 (GC (Zaa N) (GC (Zvi N) (GC (Ztp N) Wa)))
def Zm9(N:Nat):Sig:=Sig.of [.v Jw true] [.v (TY_World) true] (λd=>Zg8 N d.1)
def Zj9:Fn:=⟨Tryz.f18,λ |3=>[.nest 21 Jz]|6=>[.canon [1,2,3,32,33,34,35]]|7=>[.canon [1,2,3,5,32,33,34]]|8=>[.canon [1,2,3,32,33,34]]|9=>[.canon [1,2,3,32,33,34]]|100006=>[.adoptC 3 6 Jj,.adoptC 3 8 Ji,.canon [1,2,3,32,33,34]]|_=>[],Zm9,λN=>[(35,Zgw N),(45,Zig N),(46,Zk4 N),(36,Zge N)]⟩
def Ztq(t5:List Kb)(t7:Int)(b8:Kg×List Ko×List Kb)(bo:Int)(bI:Int)(bn:Int)(aC:Int)(cr:List Kb)(bC:List Int)(cq:List Kb)(cU:List Y_Root)(ci:List Kq):St:=⟨[(1,vP 0 0),(2,vP 1 0),(3,vP 2 0),(32,vV Je t5),(33,vI (Wb b8.2.2)),(34,vI t7)],[(0,.box [.val Jk b8.1.1,.val Jk b8.1.2.1,.val Ja b8.1.2.2,.val Jae b8.2.1,.val Je b8.2.2]),(1,.box [.val Ja (0:Int),.val Ja (0:Int),.val Ja (0:Int),.nils,.nils,.val Ja (0:Int),.nils,.nils,.nils]),(2,.box [.val Ja bo,.val Ja bI,.val Ja bn,.own 3,.own 4,.val Ja aC,.own 5,.own 6,.own 7]),(3,.arr Jj cr),(4,.arr Ja bC),(5,.arr Jj cq),(6,.arr Jz cU),(7,.arr Ji ci)],8⟩
def Zrv(t5:List Kb)(b8:Kg×List Ko×List Kb)(oS:Int)(t25:Bool)(eA:Int)(eB:Int)(eC:Int)(gy:Int)(eF:List Kb)(eG:List Int)(eH:List Kb)(cE:List Y_Root)(gz:List Kq):St:=⟨[(1,vP 0 0),(2,vP 1 0),(3,vP 2 0),(32,vV Je t5),(33,vI (Wb b8.2.2)),(34,vI oS),(35,vB t25)],[(0,.box [.val Jk b8.1.1,.val Jk b8.1.2.1,.val Ja b8.1.2.2,.val Jae b8.2.1,.val Je b8.2.2]),(1,.box [.val Ja (0:Int),.val Ja (0:Int),.val Ja (0:Int),.nils,.nils,.val Ja (0:Int),.nils,.nils,.nils]),(2,.box [.val Ja eA,.val Ja eB,.val Ja eC,.own 3,.own 4,.val Ja gy,.own 5,.own 6,.own 7]),(3,.arr Jj eF),(4,.arr Ja eG),(5,.arr Jj eH),(6,.arr Jz cE),(7,.arr Ji gz)],8⟩
theorem Ztr(N:Nat){R:Type}(K:Ex->St->Option R){t5:List Kb}{b8:Kg×List Ko×List Kb}{K0:Int->Bool->Int->Int->Int->Int->Kt->Ki->Kt->(List Y_Root)->Kab->Option R}(h0:K0= λoS t25 eA eB eC gy eF eG eH cE gz=>K (.exit 0) (Zrv t5 b8 oS t25 eA eB eC gy eF eG eH cE gz))(n:Nat)(t7:Int)(bo:Int)(bI:Int)(bn:Int)(aC:Int)(cr:List Kb)(bC:List Int)(cq:List Kb)(cU:List Y_Root)(ci:List Kq):Zaw N t5 b8 K0 n t7 bo bI bn aC cr bC cq cU ci=LM Zj9 N 0 100006 n (Ztq t5 t7 b8 bo bI bn aC cr bC cq cU ci) K:=by
  subst h0
  induction n generalizing t7 bo bI bn aC cr bC cq cU ci with
  |zero=>kernel_rfl
  |succ n ih=>rw[Zaw];simp only[ih];kernel_rfl
theorem Zy7(N:Nat)(s1:Kg×List Ko×List Kb):DN Zj9 N (s1,())=Zg8 N s1:=by
  conv=>rhs;rw[Zg8];simp(disch:=exact id (by kernel_rfl)) only[Ztr (R:=Unit×(Y_World×Unit)) N (CF Zj9 N [1,1,1,1,0,1,0])]
  kernel_rfl
theorem Zy8(N:Nat):GW 18 (Zm9 N):=GF Zj9 N Tryz.func18 (GC (Zl9 N) (GC (Zoc N) (GC (Zpy N) (GC (Zln N) Wa)))) (λd=>Zy7 N d.1)
def Zop(N:Nat):Sig:=Sig.of [.v (TY_World) true] [.v Jaa false] (λd=>Zin N d.1)
def Zmo:Fn:=⟨Tryz.f16,λ |3=>[.canon [3,8,9,10,11]]|4=>[.canon [3,4,5,8,9,10]]|5=>[.canon [3,4,8,9,10,22]]|6=>[.canon [3,8,9,10]]|7=>[.canon [3,8,9,10]]|100003=>[.canon [3,8,9,10]]|_=>[],Zop,Wa5⟩
def Zxs(t2:List Y_Root)(t3:Int)(t4:Int)(l5:List Int):St:=⟨[(3,vO 0),(8,vV Jr t2),(9,vI t3),(10,vI t4)],[(0,.arr Ja l5)],1⟩
def Zwz(t2:List Y_Root)(t3:Int)(t6:Int)(t7:Bool)(l8:List Int):St:=⟨[(3,vO 0),(8,vV Jr t2),(9,vI t3),(10,vI t6),(11,vB t7)],[(0,.arr Ja l8)],1⟩
theorem Zxt(N:Nat){R:Type}(K:Ex->St->Option R){t2:List Y_Root}{t3:Int}{K0:Int->Bool->Ki->Option R}(h0:K0= λt6 t7 l8=>K (.exit 0) (Zwz t2 t3 t6 t7 l8))(n:Nat)(t4:Int)(l5:List Int):Zbq N t2 t3 K0 n t4 l5=LM Zmo N 0 100003 n (Zxs t2 t3 t4 l5) K:=by
  subst h0
  induction n generalizing t4 l5 with
  |zero=>kernel_rfl
  |succ n ih=>rw[Zbq];simp only[ih];kernel_rfl
theorem Z1j(N:Nat)(w1:Y_World):DN Zmo N (w1,())=Zin N w1:=by
  conv=>rhs;rw[Zin];simp(disch:=exact id (by kernel_rfl)) only[Zxt (R:=Unit×Kw) N (CF Zmo N [1,1,0,1,0])]
  kernel_rfl
theorem Z1k(N:Nat):GW 16 (Zop N):=GF Zmo N Tryz.func16 Wa (λd=>Z1j N d.1)
def Zna(N:Nat):Sig:=Sig.of [.v (TY_World) true] [.v Jai true] (λd=>Zfw N d.1)
def Zf0:Fn:=⟨Tryz.f17,λ |3=>[.canon [1,2,3,16,17,18,19]]|4=>[.canon [1,2,3,5,16,17,18]]|5=>[.canon [1,2,3,5,16,17,18,22]]|6=>[.canon [1,2,3,5,16,17,18]]|7=>[.canon [1,2,3,5,16,17,18,30]]|8=>[.canon [1,2,3,5,16,17,18]]|9=>[.canon [1,2,3,5,16,17,18,43]]|10=>[.canon [1,2,3,5,16,17,18]]|11=>[.canon [1,2,3,5,16,17,18,53]]|12=>[.canon [1,2,3,16,17,18]]|13=>[.canon [1,2,3,16,17,18]]|15=>[.canon [2,3,63,64,65,66]]|16=>[.canon [2,3,7,63,64,65]]|17=>[.canon [2,3,63,64,65,71]]|18=>[.canon [2,3,63,64,65]]|19=>[.canon [2,3,63,64,65]]|100003=>[.canon [1,2,3,16,17,18]]|100015=>[.canon [2,3,63,64,65]]|_=>[],Zna,λN=>[(16,Zop N),(44,Z0 N)]⟩
def Zts(t3:List Y_Root)(t5:Int)(b6:Y_World)(bI:Int)(bn:Int)(aC:Int)(cV:Int)(bR:Int):St:=⟨[(1,vP 0 0),(2,vP 1 0),(3,vP 2 0),(16,vV Jr t3),(17,vI (Wb b6.2.2.2.2.2.1)),(18,vI t5)],[(0,.box [.val Ja b6.1,.val Ja b6.2.1,.val Ja b6.2.2.1.1,.val Je b6.2.2.1.2,.val Jk b6.2.2.2.1.1,.val Ja b6.2.2.2.1.2,.val Je b6.2.2.2.2.1,.val Jr b6.2.2.2.2.2.1,.val (.slice Ji) b6.2.2.2.2.2.2]),(1,.box [.val Ja (0:Int),.val Ja (0:Int),.val Ja (0:Int),.val Ja (0:Int),.val Ja (0:Int),.val Ja (0:Int),.val Ja (0:Int)]),(2,.box [.val Ja bI,.val Ja bn,.val Ja aC,.val Ja cV,.val Ja bR,.val Ja (0:Int),.val Ja (Wb b6.2.2.2.2.1)])],3⟩
def Zrw(t3:List Y_Root)(b6:Y_World)(bn:Int)(se:Int)(vc:Bool)(ja:Int)(vd:Int)(ve:Int)(fI:Int):St:=⟨[(1,vP 0 0),(2,vP 1 0),(3,vP 2 0),(16,vV Jr t3),(17,vI (Wb b6.2.2.2.2.2.1)),(18,vI se),(19,vB vc)],[(0,.box [.val Ja b6.1,.val Ja b6.2.1,.val Ja b6.2.2.1.1,.val Je b6.2.2.1.2,.val Jk b6.2.2.2.1.1,.val Ja b6.2.2.2.1.2,.val Je b6.2.2.2.2.1,.val Jr b6.2.2.2.2.2.1,.val (.slice Ji) b6.2.2.2.2.2.2]),(1,.box [.val Ja (0:Int),.val Ja (0:Int),.val Ja (0:Int),.val Ja (0:Int),.val Ja (0:Int),.val Ja (0:Int),.val Ja (0:Int)]),(2,.box [.val Ja ja,.val Ja bn,.val Ja vd,.val Ja ve,.val Ja fI,.val Ja (0:Int),.val Ja (Wb b6.2.2.2.2.1)])],3⟩
theorem Ztt(N:Nat){R:Type}(K:Ex->St->Option R){t3:List Y_Root}{b6:Y_World}{bn:Int}{K0:Int->Bool->Int->Int->Int->Int->Option R}(h0:K0= λse vc ja vd ve fI=>K (.exit 0) (Zrw t3 b6 bn se vc ja vd ve fI))(n:Nat)(t5:Int)(bI:Int)(aC:Int)(cV:Int)(bR:Int):Z6 N t3 b6 bn K0 n t5 bI aC cV bR=LM Zf0 N 0 100003 n (Zts t3 t5 b6 bI bn aC cV bR) K:=by
  subst h0
  induction n generalizing t5 bI aC cV bR with
  |zero=>kernel_rfl
  |succ n ih=>rw[Z6];simp only[ih];kernel_rfl
def Ztu(jO:List Kb)(jP:Int)(t53:Int)(kZ:Int)(lh:Int)(li:Int)(dQ:Int)(dR:Int)(ec:Int)(dS:Int):St:=⟨[(2,vP 0 0),(3,vP 1 0),(63,vV Je jO),(64,vI jP),(65,vI t53)],[(0,.box [.val Ja (0:Int),.val Ja (0:Int),.val Ja (0:Int),.val Ja (0:Int),.val Ja (0:Int),.val Ja (0:Int),.val Ja (0:Int)]),(1,.box [.val Ja kZ,.val Ja lh,.val Ja li,.val Ja dQ,.val Ja dR,.val Ja ec,.val Ja dS])],2⟩
def Zrx(jO:List Kb)(jP:Int)(kZ:Int)(lh:Int)(li:Int)(dQ:Int)(dR:Int)(dS:Int)(vf:Int)(vg:Bool)(vi:Int):St:=⟨[(2,vP 0 0),(3,vP 1 0),(63,vV Je jO),(64,vI jP),(65,vI vf),(66,vB vg)],[(0,.box [.val Ja (0:Int),.val Ja (0:Int),.val Ja (0:Int),.val Ja (0:Int),.val Ja (0:Int),.val Ja (0:Int),.val Ja (0:Int)]),(1,.box [.val Ja kZ,.val Ja lh,.val Ja li,.val Ja dQ,.val Ja dR,.val Ja vi,.val Ja dS])],2⟩
theorem Ztv(N:Nat){R:Type}(K:Ex->St->Option R){jO:List Kb}{jP:Int}{kZ:Int}{lh:Int}{li:Int}{dQ:Int}{dR:Int}{dS:Int}{K0:Int->Bool->Int->Option R}(h0:K0= λvf vg vi=>K (.exit 3) (Zrx jO jP kZ lh li dQ dR dS vf vg vi))(n:Nat)(t53:Int)(ec:Int):Zbc N jO jP kZ lh li dQ dR dS K0 n t53 ec=LM Zf0 N 1 100015 n (Ztu jO jP t53 kZ lh li dQ dR ec dS) K:=by
  subst h0
  induction n generalizing t53 ec with
  |zero=>kernel_rfl
  |succ n ih=>rw[Zbc];simp only[ih];kernel_rfl
theorem Zy9(N:Nat)(w1:Y_World):DN Zf0 N (w1,())=Zfw N w1:=by
  conv=>rhs;rw[Zfw];simp(disch:=exact id (by kernel_rfl)) only[Ztt (R:=Unit×(Km×Unit)) N (CF Zf0 N [1,1,0,1,0]),Ztv (R:=Unit×(Km×Unit)) N (CF Zf0 N [1,1,1,0,1,0])]
  kernel_rfl
theorem Zza(N:Nat):GW 17 (Zna N):=GF Zf0 N Tryz.func17 (GC (Z1k N) (GC (Zaa N) Wa)) (λd=>Zy9 N d.1)
def Zoq(N:Nat):Sig:=Sig.of [.v Jw true] [.v Js true] (λd=>Zkf N d.1)
def Zmp:Fn:=⟨Tryz.f18,λ |3=>[.nest 21 Jz]|6=>[.canon [1,2,3,32,33,34,35]]|7=>[.canon [1,2,3,5,32,33,34]]|8=>[.canon [1,2,3,32,33,34]]|9=>[.canon [1,2,3,32,33,34]]|100006=>[.adoptC 3 6 Jj,.adoptC 3 8 Ji,.canon [1,2,3,32,33,34]]|_=>[],Zoq,λN=>[(35,Zgw N),(45,Zig N),(46,Zk4 N),(36,Zge N)]⟩
def Zxu(t5:List Kb)(t7:Int)(b8:Kg×List Ko×List Kb)(bo:Int)(bI:Int)(bn:Int)(aC:Int)(cr:List Kb)(bC:List Int)(cq:List Kb)(cU:List Y_Root)(ci:List Kq):St:=⟨[(1,vP 0 0),(2,vP 1 0),(3,vP 2 0),(32,vV Je t5),(33,vI (Wb b8.2.2)),(34,vI t7)],[(0,.box [.val Jk b8.1.1,.val Jk b8.1.2.1,.val Ja b8.1.2.2,.val Jae b8.2.1,.val Je b8.2.2]),(1,.box [.val Ja (0:Int),.val Ja (0:Int),.val Ja (0:Int),.nils,.nils,.val Ja (0:Int),.nils,.nils,.nils]),(2,.box [.val Ja bo,.val Ja bI,.val Ja bn,.own 3,.own 4,.val Ja aC,.own 5,.own 6,.own 7]),(3,.arr Jj cr),(4,.arr Ja bC),(5,.arr Jj cq),(6,.arr Jz cU),(7,.arr Ji ci)],8⟩
def Zw0(t5:List Kb)(b8:Kg×List Ko×List Kb)(oS:Int)(t25:Bool)(eA:Int)(eB:Int)(eC:Int)(gy:Int)(eF:List Kb)(eG:List Int)(eH:List Kb)(cE:List Y_Root)(gz:List Kq):St:=⟨[(1,vP 0 0),(2,vP 1 0),(3,vP 2 0),(32,vV Je t5),(33,vI (Wb b8.2.2)),(34,vI oS),(35,vB t25)],[(0,.box [.val Jk b8.1.1,.val Jk b8.1.2.1,.val Ja b8.1.2.2,.val Jae b8.2.1,.val Je b8.2.2]),(1,.box [.val Ja (0:Int),.val Ja (0:Int),.val Ja (0:Int),.nils,.nils,.val Ja (0:Int),.nils,.nils,.nils]),(2,.box [.val Ja eA,.val Ja eB,.val Ja eC,.own 3,.own 4,.val Ja gy,.own 5,.own 6,.own 7]),(3,.arr Jj eF),(4,.arr Ja eG),(5,.arr Jj eH),(6,.arr Jz cE),(7,.arr Ji gz)],8⟩
theorem Zxv(N:Nat){R:Type}(K:Ex->St->Option R){t5:List Kb}{b8:Kg×List Ko×List Kb}{K0:Int->Bool->Int->Int->Int->Int->Kt->Ki->Kt->(List Y_Root)->Kab->Option R}(h0:K0= λoS t25 eA eB eC gy eF eG eH cE gz=>K (.exit 0) (Zw0 t5 b8 oS t25 eA eB eC gy eF eG eH cE gz))(n:Nat)(t7:Int)(bo:Int)(bI:Int)(bn:Int)(aC:Int)(cr:List Kb)(bC:List Int)(cq:List Kb)(cU:List Y_Root)(ci:List Kq):Zbe N t5 b8 K0 n t7 bo bI bn aC cr bC cq cU ci=LM Zmp N 0 100006 n (Zxu t5 t7 b8 bo bI bn aC cr bC cq cU ci) K:=by
  subst h0
  induction n generalizing t7 bo bI bn aC cr bC cq cU ci with
  |zero=>kernel_rfl
  |succ n ih=>rw[Zbe];simp only[ih];kernel_rfl
theorem Z1l(N:Nat)(s1:Kg×List Ko×List Kb):DN Zmp N (s1,())=Zkf N s1:=by
  conv=>rhs;rw[Zkf];simp(disch:=exact id (by kernel_rfl)) only[Zxv (R:=Unit×(Y_World×Unit)) N (CF Zmp N [1,1,1,1,0,1,0])]
  kernel_rfl
theorem Z1m(N:Nat):GW 18 (Zoq N):=GF Zmp N Tryz.func18 (GC (Zl9 N) (GC (Zoc N) (GC (Zpy N) (GC (Zln N) Wa)))) (λd=>Z1l N d.1)
def Znv(N:Nat):Sig:=Sig.of [.v (TY_Root) true] [.v Jp false] (λd=>Zoi N d.1)
def Z0k:Fn:=⟨Tryz.f38,Wz,Znv,Wa5⟩
theorem Z0l(N:Nat):GW 38 (Znv N):=GF Z0k N Tryz.func38 Wa
def Za3(N:Nat):Sig:=Sig.of [.v Jr false,.clos 38 0] [.v Ja false] (λd=>Z2 N d.1)
def Zae:Fn:=⟨Tryz.f75,λ |2=>[.canon [0,1,7,8,9]]|3=>[.canon [0,1,5,7,8]]|4=>[.canon [0,1,5,7,8,16]]|5=>[.canon [1,4]]|6=>[.canon [0,1,7,8]]|100002=>[.canon [0,1,7,8]]|_=>[],Za3,λN=>[(38,Znv N)]⟩
def Ze2(s2:List Y_Root)(t4:Int):St:=⟨[(0,vV Jr s2),(1,.s (.one (.clos 38 []))),(7,vI (Wb s2)),(8,vI t4)],[],0⟩
def Zeq(s2:List Y_Root)(t7:Int):St:=⟨[(1,.s (.one (.clos 38 []))),(4,vI t7)],[],0⟩
def Zer(s2:List Y_Root)(t8:Int)(t9:Bool):St:=⟨[(0,vV Jr s2),(1,.s (.one (.clos 38 []))),(7,vI (Wb s2)),(8,vI t8),(9,vB t9)],[],0⟩
theorem Ze3(N:Nat){R:Type}(K:Ex->St->Option R){s2:List Y_Root}{K0:Int->Option R}{K1:Int->Bool->Option R}(h0:K0= λt7=>K .ret (Zeq s2 t7))(h1:K1= λt8 t9=>K (.exit 0) (Zer s2 t8 t9))(n:Nat)(t4:Int):Zl N s2 K0 K1 n t4=LM Zae N 0 100002 n (Ze2 s2 t4) K:=by
  subst h0 h1
  induction n generalizing t4 with
  |zero=>kernel_rfl
  |succ n ih=>rw[Zl];simp only[ih];kernel_rfl
theorem Zf1(N:Nat)(s1:List Y_Root):DN Zae N (s1,())=Z2 N s1:=by
  conv=>rhs;rw[Z2];simp(disch:=exact id (by kernel_rfl)) only[Ze3 (R:=Unit×Kh) N (CF Zae N [1,0,1,0])]
  kernel_rfl
theorem Zf2(N:Nat):GW 75 (Za3 N):=GF Zae N Tryz.func75 (GC (Z0l N) Wa) (λd=>Zf1 N d.1)
def Zat(N:Nat):Sig:=Sig.of [.v Jr false,.clos 38 0] [.v Jp false] (λd=>Za0 N d.1)
def Zff:Fn:=⟨Tryz.f37,Wz,Zat,λN=>[(75,Za3 N)]⟩
theorem Zfg(N:Nat):GW 37 (Zat N):=GF Zff N Tryz.func37 (GC (Zf2 N) Wa)
def Zor(N:Nat):Sig:=Sig.of [.v (TY_World) true] [.v Jp false] (λd=>Zob N d.1)
def Z1n:Fn:=⟨Tryz.f13,Wz,Zor,λN=>[(37,Zat N)]⟩
theorem Z1o(N:Nat):GW 13 (Zor N):=GF Z1n N Tryz.func13 (GC (Zfg N) Wa)
def Zmc(N:Nat):Sig:=Sig.of [.v Jw true] [.v (TY_World) true,.v Ja false] (λd=>Zgk N d.1)
def Zcc:Fn:=⟨Tryz.f11,λ |5=>[.canon [1,2,4,5,21]]|6=>[.canon [1,2,4,5]]|7=>[.canon [1,2,4,5,25,26,27]]|8=>[.canon [1,2,4,5,25,26,27,28]]|9=>[.canon [1,2,4,5,6,7,25,26,27]]|10=>[.canon [1,2,4,5,6,7,25,26,27]]|11=>[.canon [1,2,4,5,6,25,26,27,38,39]]|12=>[.canon [1,2,4,5,6,25,26,27,38,39,40]]|13=>[.canon [1,2,4,5,6,8,25,26,27,38,39]]|14=>[.canon [1,2,4,5,6,25,26,27,38,39]]|15=>[.canon [1,2,4,5,6,25,26,27,38,39]]|16=>[.canon [1,2,4,5,25,26,27]]|100005=>[.canon [1,2,4,5]]|100008=>[.canon [1,2,4,5,25,26,27]]|100012=>[.canon [1,2,4,5,6,25,26,27,38,39]]|_=>[],Zmc,λN=>[(35,Zgw N),(18,Zoq N),(13,Zor N),(36,Zge N)]⟩
def Zry(bt:Int)(ij:Int)(jL:List Ko)(jM:Int)(t45:Int)(cD:Kg×List Ko×List Kb)(dv:Int)(dw:Int)(dx:Int)(dy:Int)(fa:Int)(fb:Int)(fe:Int)(ff:Int)(mH:List Kb)(mI:List Int)(mJ:List Kb)(mK:List Y_Root)(mL:List Kq):St:=⟨[(1,vP 0 0),(2,vP 1 0),(4,vP 2 0),(5,vI bt),(6,vI ij),(25,vV Jae jL),(26,vI jM),(27,vI ij),(38,vI (Wb (Xd jL (Xb ij) (([]:List Ka),([]:List Kz))).2)),(39,vI t45)],[(0,.box [.val Jk cD.1.1,.val Jk cD.1.2.1,.val Ja cD.1.2.2,.val Jae cD.2.1,.val Je cD.2.2]),(1,.box [.val Ja dv,.val Ja dw,.val Ja dx,.nils,.nils,.val Ja dy,.nils,.nils,.nils]),(2,.box [.val Ja fa,.val Ja fb,.val Ja fe,.own 3,.own 4,.val Ja ff,.own 5,.own 6,.own 7]),(3,.arr Jj mH),(4,.arr Ja mI),(5,.arr Jj mJ),(6,.arr Jz mK),(7,.arr Ji mL)],8⟩
def Zqj(bt:Int)(ij:Int)(jL:List Ko)(jM:Int)(cD:Kg×List Ko×List Kb)(dv:Int)(dw:Int)(dx:Int)(dy:Int)(ma:Int)(mb:Bool)(dQ:Int)(dR:Int)(ec:Int)(dS:Int)(ig:List Kb)(dz:List Int)(dA:List Kb)(dB:List Y_Root)(ii:List Kq):St:=⟨[(1,vP 0 0),(2,vP 1 0),(4,vP 2 0),(5,vI bt),(6,vI ij),(25,vV Jae jL),(26,vI jM),(27,vI ij),(38,vI (Wb (Xd jL (Xb ij) (([]:List Ka),([]:List Kz))).2)),(39,vI ma),(40,vB mb)],[(0,.box [.val Jk cD.1.1,.val Jk cD.1.2.1,.val Ja cD.1.2.2,.val Jae cD.2.1,.val Je cD.2.2]),(1,.box [.val Ja dv,.val Ja dw,.val Ja dx,.nils,.nils,.val Ja dy,.nils,.nils,.nils]),(2,.box [.val Ja dQ,.val Ja dR,.val Ja ec,.own 3,.own 4,.val Ja dS,.own 5,.own 6,.own 7]),(3,.arr Jj ig),(4,.arr Ja dz),(5,.arr Jj dA),(6,.arr Jz dB),(7,.arr Ji ii)],8⟩
theorem Zrz(N:Nat){R:Type}(K:Ex->St->Option R){bt:Int}{ij:Int}{jL:List Ko}{jM:Int}{cD:Kg×List Ko×List Kb}{dv:Int}{dw:Int}{dx:Int}{dy:Int}{K0:Int->Bool->Int->Int->Int->Int->Kt->Ki->Kt->(List Y_Root)->Kab->Option R}(h0:K0= λma mb dQ dR ec dS ig dz dA dB ii=>K (.exit 4) (Zqj bt ij jL jM cD dv dw dx dy ma mb dQ dR ec dS ig dz dA dB ii))(n:Nat)(t45:Int)(fa:Int)(fb:Int)(fe:Int)(ff:Int)(mH:List Kb)(mI:List Int)(mJ:List Kb)(mK:List Y_Root)(mL:List Kq):Zcg N bt ij jL jM cD dv dw dx dy K0 n t45 fa fb fe ff mH mI mJ mK mL=LM Zcc N 2 100012 n (Zry bt ij jL jM t45 cD dv dw dx dy fa fb fe ff mH mI mJ mK mL) K:=by
  subst h0
  induction n generalizing t45 fa fb fe ff mH mI mJ mK mL with
  |zero=>kernel_rfl
  |succ n ih=>rw[Zcg];simp only[ih];kernel_rfl
def Zr0(bg:Int)(gv:List Ko)(eW:Int)(dC:Kg×List Ko×List Kb)(kY:Int)(eA:Int)(eB:Int)(eC:Int)(gy:Int)(mM:Int)(mN:Int)(jK:Int)(cE:List Kb)(gz:List Int)(jJ:List Kb)(mO:List Y_Root)(jN:List Kq):St:=⟨[(1,vP 0 0),(2,vP 1 0),(4,vP 2 0),(5,vI bg),(25,vV Jae gv),(26,vI (Wb dC.2.1)),(27,vI eW)],[(0,.box [.val Jk dC.1.1,.val Jk dC.1.2.1,.val Ja dC.1.2.2,.val Jae dC.2.1,.val Je dC.2.2]),(1,.box [.val Ja kY,.val Ja eA,.val Ja eB,.nils,.nils,.val Ja eC,.nils,.nils,.nils]),(2,.box [.val Ja gy,.val Ja mM,.val Ja mN,.own 3,.own 4,.val Ja jK,.own 5,.own 6,.own 7]),(3,.arr Jj cE),(4,.arr Ja gz),(5,.arr Jj jJ),(6,.arr Jz mO),(7,.arr Ji jN)],8⟩
def Zqk(bg:Int)(gv:List Ko)(dC:Kg×List Ko×List Kb)(kY:Int)(eA:Int)(eB:Int)(eC:Int)(vk:Int)(vm:Bool)(vn:Int)(oT:Int)(oU:Int)(oV:Int)(oW:List Kb)(oX:List Int)(oY:List Kb)(oZ:List Y_Root)(pd:List Kq):St:=⟨[(1,vP 0 0),(2,vP 1 0),(4,vP 2 0),(5,vI bg),(25,vV Jae gv),(26,vI (Wb dC.2.1)),(27,vI vk),(28,vB vm)],[(0,.box [.val Jk dC.1.1,.val Jk dC.1.2.1,.val Ja dC.1.2.2,.val Jae dC.2.1,.val Je dC.2.2]),(1,.box [.val Ja kY,.val Ja eA,.val Ja eB,.nils,.nils,.val Ja eC,.nils,.nils,.nils]),(2,.box [.val Ja vn,.val Ja oT,.val Ja oU,.own 3,.own 4,.val Ja oV,.own 5,.own 6,.own 7]),(3,.arr Jj oW),(4,.arr Ja oX),(5,.arr Jj oY),(6,.arr Jz oZ),(7,.arr Ji pd)],8⟩
theorem Zr1(N:Nat){R:Type}(K:Ex->St->Option R){bg:Int}{gv:List Ko}{dC:Kg×List Ko×List Kb}{kY:Int}{eA:Int}{eB:Int}{eC:Int}{K0:Int->Bool->Int->Int->Int->Int->Kt->Ki->Kt->(List Y_Root)->Kab->Option R}(h0:K0= λvk vm vn oT oU oV oW oX oY oZ pd=>K (.exit 2) (Zqk bg gv dC kY eA eB eC vk vm vn oT oU oV oW oX oY oZ pd))(n:Nat)(eW:Int)(gy:Int)(mM:Int)(mN:Int)(jK:Int)(cE:List Kb)(gz:List Int)(jJ:List Kb)(mO:List Y_Root)(jN:List Kq):Zbx N bg gv dC kY eA eB eC K0 n eW gy mM mN jK cE gz jJ mO jN=LM Zcc N 1 100008 n (Zr0 bg gv eW dC kY eA eB eC gy mM mN jK cE gz jJ mO jN) K:=by
  subst h0
  induction n generalizing eW gy mM mN jK cE gz jJ mO jN with
  |zero=>kernel_rfl
  |succ n ih=>rw[Zbx];simp(disch:=exact id (by kernel_rfl)) only[ih,Zrz N (CL Zcc N 1 100008 [1,1,0,0,1,1,1,0] n K)];kernel_rfl
def Zr2(bi:Int)(b5:Kg×List Ko×List Kb)(aS:Int)(bc:Int)(cj:Int)(bo:Int)(aX:List Kb)(bk:List Int)(cZ:List Kb)(cr:List Y_Root)(bC:List Kq):St:=⟨[(1,vP 0 0),(2,vP 1 0),(4,vP 2 0),(5,vI bi)],[(0,.box [.val Jk b5.1.1,.val Jk b5.1.2.1,.val Ja b5.1.2.2,.val Jae b5.2.1,.val Je b5.2.2]),(1,.box [.val Ja (0:Int),.val Ja (0:Int),.val Ja (0:Int),.nils,.nils,.val Ja (0:Int),.nils,.nils,.nils]),(2,.box [.val Ja aS,.val Ja bc,.val Ja cj,.own 3,.own 4,.val Ja bo,.own 5,.own 6,.own 7]),(3,.arr Jj aX),(4,.arr Ja bk),(5,.arr Jj cZ),(6,.arr Jz cr),(7,.arr Ji bC)],8⟩
def Zql(b5:Kg×List Ko×List Kb)(dK:Int)(pe:Bool)(pf:Int)(pg:Int)(pi:Int)(pj:Int)(pk:List Kb)(pm:List Int)(pn:List Kb)(po:List Y_Root)(pp:List Kq):St:=⟨[(1,vP 0 0),(2,vP 1 0),(4,vP 2 0),(5,vI dK),(21,vB pe)],[(0,.box [.val Jk b5.1.1,.val Jk b5.1.2.1,.val Ja b5.1.2.2,.val Jae b5.2.1,.val Je b5.2.2]),(1,.box [.val Ja (0:Int),.val Ja (0:Int),.val Ja (0:Int),.nils,.nils,.val Ja (0:Int),.nils,.nils,.nils]),(2,.box [.val Ja pf,.val Ja pg,.val Ja pi,.own 3,.own 4,.val Ja pj,.own 5,.own 6,.own 7]),(3,.arr Jj pk),(4,.arr Ja pm),(5,.arr Jj pn),(6,.arr Jz po),(7,.arr Ji pp)],8⟩
theorem Zr3(N:Nat){R:Type}(K:Ex->St->Option R){b5:Kg×List Ko×List Kb}{K0:Int->Bool->Int->Int->Int->Int->Kt->Ki->Kt->(List Y_Root)->Kab->Option R}(h0:K0= λdK pe pf pg pi pj pk pm pn po pp=>K (.exit 0) (Zql b5 dK pe pf pg pi pj pk pm pn po pp))(n:Nat)(bi:Int)(aS:Int)(bc:Int)(cj:Int)(bo:Int)(aX:List Kb)(bk:List Int)(cZ:List Kb)(cr:List Y_Root)(bC:List Kq):Zby N b5 K0 n bi aS bc cj bo aX bk cZ cr bC=LM Zcc N 0 100005 n (Zr2 bi b5 aS bc cj bo aX bk cZ cr bC) K:=by
  subst h0
  induction n generalizing bi aS bc cj bo aX bk cZ cr bC with
  |zero=>kernel_rfl
  |succ n ih=>rw[Zby];simp(disch:=exact id (by kernel_rfl)) only[ih,Zr1 N (CL Zcc N 0 100005 [1,0,1,1,0] n K)];kernel_rfl
theorem Zxw(N:Nat)(s1:Kg×List Ko×List Kb):DN Zcc N (s1,())=Zgk N s1:=by
  conv=>rhs;rw[Zgk];simp(disch:=exact id (by kernel_rfl)) only[Zr3 (R:=Unit×(Y_World×Kh)) N (CF Zcc N [1,1,1,1,0,0])]
  kernel_rfl
theorem Zxx(N:Nat):GW 11 (Zmc N):=GF Zcc N Tryz.func11 (GC (Zl9 N) (GC (Z1m N) (GC (Z1o N) (GC (Zln N) Wa)))) (λd=>Zxw N d.1)
def Zpb(N:Nat):Sig:=Sig.of [.v Ja false] [.v (.str) false] (λd=>Zdl N d.1)
def Zjf:Fn:=⟨Tryz.f47,λ |5=>[.canon [0,3,4,13]]|6=>[.canon [0,3,4]]|7=>[.canon [0,3,4,5]]|8=>[.canon [0,3,4,5,19]]|9=>[.canon [0,3,4,5]]|10=>[.canon [0,3,4]]|14=>[.canon [3,6,7,38]]|15=>[.canon [3,6,7]]|16=>[.canon [3,6,7]]|100005=>[.canon [0,3,4]]|100014=>[.canon [3,6,7]]|_=>[],Zpb,Wa5⟩
def Zzb(n2:Int)(m3:Int)(l4:List Int):St:=⟨[(0,vI n2),(3,vO 0),(4,vI m3)],[(0,.arr (.int .u8) l4)],1⟩
def Zxy(n2:Int)(m5:Int)(t6:Bool)(l7:List Int):St:=⟨[(0,vI n2),(3,vO 0),(4,vI m5),(13,vB t6)],[(0,.arr (.int .u8) l7)],1⟩
theorem Zzc(N:Nat){R:Type}(K:Ex->St->Option R){n2:Int}{K0:Int->Bool->Ki->Option R}(h0:K0= λm5 t6 l7=>K (.exit 0) (Zxy n2 m5 t6 l7))(n:Nat)(m3:Int)(l4:List Int):Zfu N n2 K0 n m3 l4=LM Zjf N 0 100005 n (Zzb n2 m3 l4) K:=by
  subst h0
  induction n generalizing m3 l4 with
  |zero=>kernel_rfl
  |succ n ih=>rw[Zfu];simp only[ih];kernel_rfl
def Zzd(eZ:Int)(ik:Int)(aH:List Int):St:=⟨[(3,vO 0),(6,vI eZ),(7,vI ik)],[(0,.arr (.int .u8) aH)],1⟩
def Zxz(eN:Int)(sr:Int)(dE:Bool)(bC:List Int):St:=⟨[(3,vO 0),(6,vI eN),(7,vI sr),(38,vB dE)],[(0,.arr (.int .u8) bC)],1⟩
theorem Zze(N:Nat){R:Type}(K:Ex->St->Option R){K0:Int->Int->Bool->Ki->Option R}(h0:K0= λeN sr dE bC=>K (.exit 2) (Zxz eN sr dE bC))(n:Nat)(eZ:Int)(ik:Int)(aH:List Int):Zfv N K0 n eZ ik aH=LM Zjf N 1 100014 n (Zzd eZ ik aH) K:=by
  subst h0
  induction n generalizing eZ ik aH with
  |zero=>kernel_rfl
  |succ n ih=>rw[Zfv];simp only[ih];kernel_rfl
theorem Z1s(N:Nat)(n1:Int):DN Zjf N (n1,())=Zdl N n1:=by
  conv=>rhs;rw[Zdl];simp(disch:=exact id (by kernel_rfl)) only[Zzc (R:=Unit×((List UInt8)×Unit)) N (CF Zjf N [1,1,1,0,1,0]),Zze (R:=Unit×((List UInt8)×Unit)) N (CF Zjf N [1,1,1,1,1,0,1,0])]
  kernel_rfl
theorem Z1t(N:Nat):GW 47 (Zpb N):=GF Zjf N Tryz.func47 Wa (λd=>Z1s N d.1)
def Zlo(N:Nat):Sig:=Sig.of [.v Jai true] [.v (.str) false] (λd=>Zjj N d.1)
def Zw1:Fn:=⟨Tryz.f19,Wz,Zlo,λN=>[(47,Zpb N)]⟩
theorem Zw2(N:Nat):GW 19 (Zlo N):=GF Zw1 N Tryz.func19 (GC (Z1t N) Wa)
def Zpc(N:Nat):Sig:=Sig.of [.v Ja false] [.v (.str) false] (λd=>Zdm N d.1)
def Znw:Fn:=⟨Tryz.f48,λ |5=>[.canon [0,3,4,11]]|6=>[.canon [0,3,4,5]]|7=>[.canon [0,3,4,5,15]]|8=>[.canon [0,3,4,5]]|9=>[.canon [0,3,4]]|10=>[.canon [0,3,4]]|100005=>[.canon [0,3,4]]|_=>[],Zpc,Wa5⟩
def Zzf(n2:Int)(cP:List UInt8)(fi:Bool):St:=⟨[(0,vI n2),(3,vV (.str) cP),(4,vB fi)],[],0⟩
def Zx0(fi:Bool)(n5:Int)(pq:List UInt8)(t7:Bool):St:=⟨[(0,vI n5),(3,vV (.str) pq),(4,vB fi),(11,vB t7)],[],0⟩
theorem Zzg(N:Nat){R:Type}(K:Ex->St->Option R){fi:Bool}{K0:Int->(List UInt8)->Bool->Option R}(h0:K0= λn5 pq t7=>K (.exit 0) (Zx0 fi n5 pq t7))(n:Nat)(n2:Int)(cP:List UInt8):Zfx N fi K0 n n2 cP=LM Znw N 0 100005 n (Zzf n2 cP fi) K:=by
  subst h0
  induction n generalizing n2 cP with
  |zero=>kernel_rfl
  |succ n ih=>rw[Zfx];simp only[ih];kernel_rfl
theorem Z1u(N:Nat)(n1:Int):DN Znw N (n1,())=Zdm N n1:=by
  conv=>rhs;rw[Zdm];simp(disch:=exact id (by kernel_rfl)) only[Zzg (R:=Unit×((List UInt8)×Unit)) N (CF Znw N [1,1,1,1,0,0])]
  kernel_rfl
theorem Z1v(N:Nat):GW 48 (Zpc N):=GF Znw N Tryz.func48 Wa (λd=>Z1u N d.1)
def Zlp(N:Nat):Sig:=Sig.of [.v Jai true] [.v (.str) false] (λd=>Zjk N d.1)
def Zw3:Fn:=⟨Tryz.f20,Wz,Zlp,λN=>[(48,Zpc N)]⟩
theorem Zw4(N:Nat):GW 20 (Zlp N):=GF Zw3 N Tryz.func20 (GC (Z1v N) Wa)
def Zpd(N:Nat):Sig:=Sig.of [.v Jt false] [.v Jp false] (λd=>Zi5 N d.1)
def Zzh:Fn:=⟨Tryz.f4,Wz,Zpd,λN=>[(9,Zo1 N),(10,Zlf N),(12,Zl7 N),(18,Zm9 N),(17,Zna N),(11,Zmc N),(19,Zlo N),(20,Zlp N)]⟩
set_option maxRecDepth 100000 in theorem Zzi (N:Nat):GW 4 (Zpd N):=GF Zzh N Tryz.func4 (GC (Z1q N) (GC (Zvz N) (GC (Zw9 N) (GC (Zy8 N) (GC (Zza N) (GC (Zxx N) (GC (Zw2 N) (GC (Zw4 N) Wa))))))))
end
end Go.Sx
