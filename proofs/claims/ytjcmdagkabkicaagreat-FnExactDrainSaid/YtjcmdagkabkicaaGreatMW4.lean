/- Plain laws of the Lean functions. -/
import Derived.Test.YtjcmdagkabkicaaGreatMW3
open List renaming getD→Xc,length_cons→Xr,mem_cons_self→Xj,mem_cons_of_mem→Xf,length_append→Xaa,length_nil→Xbz,getElem_mem→Xv,map_cons→Xaf,sum_cons→Xcn,mem_map→Xw,mem_iff_getElem→Xdt,length_map→Xu,all_cons→Xbr
open Int renaming toNat→Xa
open Option renaming bind_some→Xd
open Bool renaming and_true→Xdx,not_true→Xk,not_false→Xbl,false_eq_true→Xai
open Nat renaming le_refl→Xm,le_trans→Xal,add_zero→Xbb,zero_add→Xau
namespace Go.Sx
set_option linter.unusedVariables false
set_option linter.unusedSimpArgs false
section
def mkL{α:Type}(mk:α->Int->α)(w:α->Int):List α->Int->List α
 | [],_=>[]
 |x::l,k=>mk x k::mkL mk w l (k+w x)
def wL{α:Type}(w:α->Int):List α->Int
 | []=>0
 |x::l=>w x+wL w l
theorem Wdi{α:Type}{w:α->Int}(h:∀x,0<=w x):∀l:List α,0<=wL w l
 | []=>Int.le_refl _
 |x::l=>by rw[wL];have:=h x;have:=Wdi h l;omega
theorem Wai{α:Type}(p:List α)(x:α)(l:List α)(d:α):Xc (p++x::l) (Xa (p.length:Int)) d=x:=by simp
theorem WbK{α:Type}(p:List α)(x y:α)(l:List α):List.set (p++x::l) (Xa (p.length:Int)) y=p++y::l:=by simp
theorem Waf{α:Type}(p:List α)(x:α)(l:List α):inb (p.length:Int) (p++x::l).length=true:=by unfold inb;simp;omega
theorem WaY{α:Type}(p:List α)(x:α)(l:List α):decide ((p.length:Int)<Wg (p++x::l))=true:=by unfold Wg;simp;omega
theorem WaW{α:Type}(l:List α):decide ((l.length:Int)<Wg l)=false:=Wj (by unfold Wg;omega)
theorem Wfy{α R:Type}{mk:α->Int->α}{w:α->Int}{P:α->Prop}{lp:Nat->Int->Int->List α->Option R}{K0:Int->Int->Bool->List α->Option R}(hw:∀x,0<=w x)
  (d9:∀(n:Nat) (k:Int) (p:List α) (x:α) (l:List α),P x->0<=k->k+w x<=1000000000->(p.length:Int)+1<=2000000->lp (n+1) k (p.length:Int) (p++x::l)=lp n (k+w x) ((p.length:Int)+1) (p++mk x k::l))
  (mj:∀(n:Nat) (k:Int) (l:List α),lp (n+1) k (l.length:Int) l=K0 k (l.length:Int) false l):
  ∀(l p:List α) (n:Nat) (k:Int),(∀x∈l,P x)->l.length<n->p.length+l.length<=1500000->0<=k->k+wL w l<=1000000000->lp n k (p.length:Int) (p++l)=K0 (k+wL w l) ((p.length:Int)+l.length) false (p++mkL mk w l k)
 | [],p,n,k,_,hn,_,_,_=>by
  obtain⟨n,rfl⟩:∃n',n=n'+1:=⟨n-1,by omega⟩;rw[List.append_nil,mj];simp[wL,mkL]
 |x::l,p,n,k,hP,hn,hl,h0,h1=>by
  obtain⟨n,rfl⟩:∃n',n=n'+1:=⟨n-1,by omega⟩;simp only[Xr]at hn hl;rw[wL]at h1;have AE:=hw x;have mc:=Wdi hw l;rw[d9 n k p x l (hP x (Xj ..)) h0 (by omega) (by omega)];have ih:=Wfy hw d9 mj l (p++ [mk x k]) n (k+w x) (λy hy=>hP y (Xf _ hy)) (by omega) (by simp;omega) (by omega) (by omega);simp only[Xaa,Xr,Xbz,List.append_assoc,List.cons_append,List.nil_append]at ih
  push_cast at ih
  rw[ih,wL,mkL,Xr]
  push_cast
  rw[show k+w x+wL w l=k+(w x+wL w l) by omega,show(p.length:Int)+1+(l.length:Int)=(p.length:Int)+((l.length:Int)+1) by omega]
theorem Wh8{α R:Type}{mk:α->Int->α}{w:α->Int}{P:α->Prop}{a:List α}{lp:Nat->Int->Int->Option R}{K1:Int->Int->Bool->Option R}(hw:∀x,0<=w x)
  (d9:∀(n:Nat) (k:Int) (p:List α) (x:α) (l:List α),a=p++mk x k::l->P x->0<=k->k+w x<=1000000000->(p.length:Int)+1<=2000000->lp (n+1) k (p.length:Int)=lp n (k+w x) ((p.length:Int)+1))
  (mj:∀(n:Nat) (k:Int),lp (n+1) k (a.length:Int)=K1 k (a.length:Int) false):
  ∀(l p:List α) (n:Nat) (k:Int),a=p++mkL mk w l k->(∀x∈l,P x)->l.length<n->p.length+l.length<=1500000->0<=k->k+wL w l<=1000000000->lp n k (p.length:Int)=K1 (k+wL w l) (a.length:Int) false
 | [],p,n,k,ha,_,hn,_,_,_=>by
  obtain⟨n,rfl⟩:∃n',n=n'+1:=⟨n-1,by omega⟩;have e:p=a:=by rw[ha];simp[mkL]
  rw[e,mj];simp[wL]
 |x::l,p,n,k,ha,hP,hn,hl,h0,h1=>by
  obtain⟨n,rfl⟩:∃n',n=n'+1:=⟨n-1,by omega⟩;simp only[Xr]at hn hl;rw[wL]at h1;have AE:=hw x;have mc:=Wdi hw l;rw[mkL]at ha;rw[d9 n k p x _ ha (hP x (Xj ..)) h0 (by omega) (by omega)];have ih:=Wh8 hw d9 mj l (p++ [mk x k]) n (k+w x) (by rw[ha];simp) (λy hy=>hP y (Xf _ hy)) (by omega) (by simp;omega) (by omega) (by omega);simp only[Xaa,Xr,Xbz]at ih
  push_cast at ih
  rw[ih,wL,show k+w x+wL w l=k+(w x+wL w l) by omega]
theorem ia1{a:Int}(h:0<=a)(h':a<=1000000100):Wh .i64 a 1=a+1:=WJ (by unfold I64;omega)
theorem WA(x:Int):(x !=x)=false:=by simp
theorem lt0{a:Int}(h:0<=a):decide (a<0)=false:=Wj (by omega)
def Woo{α:Type}(mk:α->Int->α)(w:α->Int)(P:α->Prop)(T:Nat->List α->Int->Option ((List α×Unit)×Kh)):Prop:=
 ∀{N:Nat} {l:List α} {k:Int},1600000<N->l.length<=1500000->(∀x∈l,P x)->0<=k->k+wL w l<=1000000000->T N l k=some ((mkL mk w l k,()),(k+wL w l,()))
def WrS{α:Type}(mk:α->Int->α)(w:α->Int)(P:α->Prop)(T:Nat->List α->Int->Option Ks):Prop:=
 ∀{N:Nat} {l:List α} {k:Int},1600000<N->l.length<=1500000->(∀x∈l,P x)->0<=k->k+wL w l<=1000000000->T N (mkL mk w l k) k=ret (k+wL w l)
def mkI(_:Int)(k:Int):Int:=k
def wI(_:Int):Int:=1
theorem Wop(x:Int):0<=wI x:=by unfold wI;omega
theorem Wan{P:Int->Prop}:Woo mkI wI P Z8:=by
 intro N l k hN hl hP h0 h1;unfold Z8;have h:=Wfy (mk:=mkI) (w:=wI) (P:=λ_=>True) (lp:=λn k i l=>Zcu N (λk10 bp ax aG=>(some ((aG,()),(k10,())))) n k i l) (K0:=λk10 bp ax aG=>(some ((aG,()),(k10,())))) Wop
  (λn k p x l _ h0 h1 h2=>by
   unfold wI at h1;simp(disch:=omega) only[Zcu,Wk,WaY,Waf,WbK,Wai,Wb,ia1,wI,mkI]
   try rw[show k+1=k+1 by omega])
  (λn k l=>by simp only[Zcu,WaW,Wa]) l [] N k (λ_ _=>trivial) (by omega) (by simpa using hl) h0 h1
 simpa using h
theorem WaH{P:Int->Prop}:WrS mkI wI P Zag:=by
 intro N l k hN hl hP h0 h1;unfold Zag;generalize ea:mkL mkI wI l k=a;have h:=Wh8 (mk:=mkI) (w:=wI) (P:=λ_=>True) (a:=a) (lp:=λn k i=>Zcx N a (some ((),((-1:Int),()))) (λk9 aV aq=>(some ((),(k9,())))) n k i) (K1:=λk9 aV aq=>(some ((),(k9,())))) Wop
  (λn k p x l' ha _ h0 h1 h2=>by
   unfold wI at h1;rw[ha];simp only[Zcx,WaY,Waf,Wai,Wb];simp(disch:=omega) only[mkI,Wb,ia1,WA,Wa,wI]
   try rw[show k+1=k+1 by omega])
  (λn k=>by simp only[Zcx,WaW,Wa]) l [] N k (by rw[←ea];rfl) (λ_ _=>trivial) (by omega) (by simpa using hl) h0 h1
 exact h
def Wqc(_:Kc)(k:Int):Kc:=(k,k+1)
def wRw(_:Kc):Int:=2
theorem Whi(x:Kc):0<=wRw x:=by unfold wRw;omega
theorem WaG{P:Kc->Prop}:Woo Wqc wRw P Zas:=by
 intro N l k hN hl hP h0 h1;unfold Zas;have h:=Wfy (mk:=Wqc) (w:=wRw) (P:=λ_=>True) (lp:=λn k i l=>Zcv N (λk10 bp ax aG=>(some ((aG,()),(k10,())))) n k i l) (K0:=λk10 bp ax aG=>(some ((aG,()),(k10,())))) Whi
  (λn k p x l _ h0 h1 h2=>by
   unfold wRw at h1;simp(disch:=omega) only[Zcv,Wk,WaY,Waf,WbK,Wai,Wb,ia1,wRw,Wqc]
   try rw[show k+2=k+1+1 by omega])
  (λn k l=>by simp only[Zcv,WaW,Wa]) l [] N k (λ_ _=>trivial) (by omega) (by simpa using hl) h0 h1
 simpa using h
theorem WaF{P:Kc->Prop}:WrS Wqc wRw P Zat:=by
 intro N l k hN hl hP h0 h1;unfold Zat;generalize ea:mkL Wqc wRw l k=a;have h:=Wh8 (mk:=Wqc) (w:=wRw) (P:=λ_=>True) (a:=a) (lp:=λn k i=>Zcy N a (some ((),((-1:Int),()))) (λk9 aV aq=>(some ((),(k9,())))) n k i) (K1:=λk9 aV aq=>(some ((),(k9,())))) Whi
  (λn k p x l' ha _ h0 h1 h2=>by
   unfold wRw at h1;rw[ha];simp only[Zcy,WaY,Waf,Wai,Wb];simp(disch:=omega) only[Wqc,Wb,ia1,WA,Wa,wRw]
   try rw[show k+2=k+1+1 by omega])
  (λn k=>by simp only[Zcy,WaW,Wa]) l [] N k (by rw[←ea];rfl) (λ_ _=>trivial) (by omega) (by simpa using hl) h0 h1
 exact h
def WwK(_:Ka)(k:Int):Ka:=(k,k+1,k+1+1,k+1+1+1)
def wOp(_:Ka):Int:=4
theorem WtP(x:Ka):0<=wOp x:=by unfold wOp;omega
theorem WkW{P:Ka->Prop}:Woo WwK wOp P Zhu:=by
 intro N l k hN hl hP h0 h1;unfold Zhu;have h:=Wfy (mk:=WwK) (w:=wOp) (P:=λ_=>True) (lp:=λn k i l=>Zc7 N (λk10 bp ax aG=>(some ((aG,()),(k10,())))) n k i l) (K0:=λk10 bp ax aG=>(some ((aG,()),(k10,())))) WtP
  (λn k p x l _ h0 h1 h2=>by
   unfold wOp at h1;simp(disch:=omega) only[Zc7,Wk,WaY,Waf,WbK,Wai,Wb,ia1,wOp,WwK]
   try rw[show k+4=k+1+1+1+1 by omega])
  (λn k l=>by simp only[Zc7,WaW,Wa]) l [] N k (λ_ _=>trivial) (by omega) (by simpa using hl) h0 h1
 simpa using h
def Wh7(_:Kb)(k:Int):Kb:=(k,k+1,k+1+1)
def wWd(_:Kb):Int:=3
theorem WmQ(x:Kb):0<=wWd x:=by unfold wWd;omega
theorem Wq7{P:Kb->Prop}:Woo Wh7 wWd P Zhv:=by
 intro N l k hN hl hP h0 h1;unfold Zhv;have h:=Wfy (mk:=Wh7) (w:=wWd) (P:=λ_=>True) (lp:=λn k i l=>Zb8 N (λk10 bp ax aG=>(some ((aG,()),(k10,())))) n k i l) (K0:=λk10 bp ax aG=>(some ((aG,()),(k10,())))) WmQ
  (λn k p x l _ h0 h1 h2=>by
   unfold wWd at h1;simp(disch:=omega) only[Zb8,Wk,WaY,Waf,WbK,Wai,Wb,ia1,wWd,Wh7]
   try rw[show k+3=k+1+1+1 by omega])
  (λn k l=>by simp only[Zb8,WaW,Wa]) l [] N k (λ_ _=>trivial) (by omega) (by simpa using hl) h0 h1
 simpa using h
theorem Wq2{P:Kb->Prop}:WrS Wh7 wWd P Zhw:=by
 intro N l k hN hl hP h0 h1;unfold Zhw;generalize ea:mkL Wh7 wWd l k=a;have h:=Wh8 (mk:=Wh7) (w:=wWd) (P:=λ_=>True) (a:=a) (lp:=λn k i=>Zb9 N a (some ((),((-1:Int),()))) (λk9 aV aq=>(some ((),(k9,())))) n k i) (K1:=λk9 aV aq=>(some ((),(k9,())))) WmQ
  (λn k p x l' ha _ h0 h1 h2=>by
   unfold wWd at h1;rw[ha];simp only[Zb9,WaY,Waf,Wai,Wb];simp(disch:=omega) only[Wh7,Wb,ia1,WA,Wa,wWd]
   try rw[show k+3=k+1+1+1 by omega])
  (λn k=>by simp only[Zb9,WaW,Wa]) l [] N k (by rw[←ea];rfl) (λ_ _=>trivial) (by omega) (by simpa using hl) h0 h1
 exact h
def WtH(_:Kb)(k:Int):Kb:=(k,k+1,k+1+1)
def wEn(_:Kb):Int:=3
theorem WqI(x:Kb):0<=wEn x:=by unfold wEn;omega
theorem Wg5{P:Kb->Prop}:Woo WtH wEn P Zek:=by
 intro N l k hN hl hP h0 h1;unfold Zek;have h:=Wfy (mk:=WtH) (w:=wEn) (P:=λ_=>True) (lp:=λn k i l=>Zbv N (λk10 bp ax aG=>(some ((aG,()),(k10,())))) n k i l) (K0:=λk10 bp ax aG=>(some ((aG,()),(k10,())))) WqI
  (λn k p x l _ h0 h1 h2=>by
   unfold wEn at h1;simp(disch:=omega) only[Zbv,Wk,WaY,Waf,WbK,Wai,Wb,ia1,wEn,WtH]
   try rw[show k+3=k+1+1+1 by omega])
  (λn k l=>by simp only[Zbv,WaW,Wa]) l [] N k (λ_ _=>trivial) (by omega) (by simpa using hl) h0 h1
 simpa using h
theorem Wg8{P:Kb->Prop}:WrS WtH wEn P Zel:=by
 intro N l k hN hl hP h0 h1;unfold Zel;generalize ea:mkL WtH wEn l k=a;have h:=Wh8 (mk:=WtH) (w:=wEn) (P:=λ_=>True) (a:=a) (lp:=λn k i=>Zbw N a (some ((),((-1:Int),()))) (λk9 aV aq=>(some ((),(k9,())))) n k i) (K1:=λk9 aV aq=>(some ((),(k9,())))) WqI
  (λn k p x l' ha _ h0 h1 h2=>by
   unfold wEn at h1;rw[ha];simp only[Zbw,WaY,Waf,Wai,Wb];simp(disch:=omega) only[WtH,Wb,ia1,WA,Wa,wEn]
   try rw[show k+3=k+1+1+1 by omega])
  (λn k=>by simp only[Zbw,WaW,Wa]) l [] N k (by rw[←ea];rfl) (λ_ _=>trivial) (by omega) (by simpa using hl) h0 h1
 exact h
def Sm{α:Type}(l:List α):Prop:=l.length<=1500000
def Wxy(x:List Ka)(k:Int):List Ka:=mkL WwK wOp x k
def wKd(x:List Ka):Int:=wL wOp x
theorem WvT(x:List Ka):0<=wKd x:=Wdi WtP x
theorem WqA:Woo Wxy wKd Sm Ziq:=by
 intro N l k hN hl hP h0 h1;unfold Ziq;have h:=Wfy (mk:=Wxy) (w:=wKd) (P:=Sm) (lp:=λn k i l=>Zcw N (λk10 bp ax aG=>(some ((aG,()),(k10,())))) n k i l) (K0:=λk10 bp ax aG=>(some ((aG,()),(k10,())))) WvT
  (λn k p x l hx h0 h1 h2=>by
   simp only[Zcw,Wk,WaY,Waf,WbK,Wai,Wb];rw[WkW (P:=λ_=>True) hN hx (λ_ _=>trivial) h0 h1];simp(disch:=omega) only[Xd,ia1];rfl)
  (λn k l=>by simp only[Zcw,WaW,Wa]) l [] N k hP (by omega) (by simpa using hl) h0 h1
 simpa using h
def WvP(x:Int×Int×List Int)(k:Int):Int×Int×List Int:=(k,k+1,mkL mkI wI x.2.2 (k+1+1))
def wKm(x:Int×Int×List Int):Int:=2+wL wI x.2.2
theorem WsW(x:Int×Int×List Int):0<=wKm x:=by unfold wKm;have:=Wdi Wop x.2.2;omega
def WwU(x:Int×Int×List Int):Prop:=Sm x.2.2
theorem nbq(i:Nat):Nat.beq i i=true:=Nat.beq_refl i
theorem WqJ:Woo WvP wKm WwU Zey:=by
 intro N l k hN hl hP h0 h1;unfold Zey;have h:=Wfy (mk:=WvP) (w:=wKm) (P:=WwU) (lp:=λn k i l=>Za2 N (λk10 bp ax aG=>(some ((aG,()),(k10,())))) n k i l) (K0:=λk10 bp ax aG=>(some ((aG,()),(k10,())))) WsW
  (λn k p x l hx h0 h1 h2=>by
   have hw:=Wdi Wop x.2.2;unfold wKm at h1;simp(disch:=omega) only[Za2,Wk,WaY,Waf,WbK,Wai,Wb,nbq,Xdx,ia1];rw[Wan (P:=λ_=>True) hN hx (λ_ _=>trivial) (by omega) (by omega)];simp only[Xd,wKm];rw[show k+1+1+wL wI x.2.2=k+(2+wL wI x.2.2) by omega];rfl)
  (λn k l=>by simp only[Za2,WaW,Wa]) l [] N k hP (by omega) (by simpa using hl) h0 h1
 simpa using h
theorem Wq5:WrS WvP wKm WwU Zez:=by
 intro N l k hN hl hP h0 h1;unfold Zez;generalize ea:mkL WvP wKm l k=a;have h:=Wh8 (mk:=WvP) (w:=wKm) (P:=WwU) (a:=a) (lp:=λn k i=>Za3 N a (some ((),((-1:Int),()))) (λk9 aV aq=>(some ((),(k9,())))) n k i) (K1:=λk9 aV aq=>(some ((),(k9,())))) WsW
  (λn k p x l' ha hx h0 h1 h2=>by
   have hw:=Wdi Wop x.2.2;unfold wKm at h1;rw[ha];simp only[Za3,WaY,Waf,Wai,Wb];simp(disch:=omega) only[WvP,Wb,ia1,WA,Wa];rw[WaH (P:=λ_=>True) hN hx (λ_ _=>trivial) (by omega) (by omega)];simp(disch:=omega) only[ret,Xd,lt0,Wa,wKm];rw[show k+1+1+wL wI x.2.2=k+(2+wL wI x.2.2) by omega])
  (λn k=>by simp only[Za3,WaW,Wa]) l [] N k (by rw[←ea];rfl) hP (by omega) (by simpa using hl) h0 h1
 exact h
def Wv0(x:Y_KidRun)(k:Int):Y_KidRun:=
 let k1:=k+1+1+1+1+1+1
 let k2:=k1+wL wI (P6 x)
 let k3:=k2+wL wEn (P7 x)
 let k4:=k3+wL wRw (P8 x)
 let k5:=k4+wL wKm (P9 x)
 (k,k+1,k+1+1,k+1+1+1,k+1+1+1+1,k+1+1+1+1+1,mkL mkI wI (P6 x) k1,mkL WtH wEn (P7 x) k2,mkL Wqc wRw (P8 x) k3,mkL WvP wKm (P9 x) k4,(WdD k5 (3:Int))==(0:Int),k5+1,k5+1+1,k5+1+1+1,k5+1+1+1+1)
def wKR(x:Y_KidRun):Int:=11+(wL wI (P6 x)+(wL wEn (P7 x)+(wL wRw (P8 x)+wL wKm (P9 x))))
theorem Wwe(x:Y_KidRun):0<=wKR x:=by unfold wKR;have:=Wdi Wop (P6 x);have:=Wdi WqI (P7 x);have:=Wdi Whi (P8 x);have:=Wdi WsW (P9 x);omega
def WwC(x:Y_KidRun):Prop:=Sm (P6 x)/\Sm (P7 x)/\Sm (P8 x)/\Sm (P9 x)/\∀y∈P9 x,WwU y
theorem Was(b:Bool):(!beq b b)=false:=by cases b<;>rfl
theorem Wxq:inz 3=true:=rfl
theorem Wkq:Woo Wv0 wKR WwC Zf4:=by
 intro N l k hN hl hP h0 h1;unfold Zf4;have h:=Wfy (mk:=Wv0) (w:=wKR) (P:=WwC) (lp:=λn k i l=>Zbg N (λk10 bp ax aG=>(some ((aG,()),(k10,())))) n k i l) (K0:=λk10 bp ax aG=>(some ((aG,()),(k10,())))) Wwe
  (λn k p x l hx h0 h1 h2=>by
   have w1:=Wdi Wop (P6 x);have w2:=Wdi WqI (P7 x);have w3:=Wdi Whi (P8 x);have w4:=Wdi WsW (P9 x);obtain⟨x1,x2,x3,x4,x5⟩:=hx;unfold wKR at h1;simp(disch:=omega) only[Zbg,Wk,WaY,Waf,WbK,Wai,Wb,nbq,Xdx,ia1,Wxq];rw[Wan (P:=λ_=>True) hN x1 (λ_ _=>trivial) (by omega) (by omega),Xd,
    Wg5 (P:=λ_=>True) hN x2 (λ_ _=>trivial) (by dsimp only;omega) (by dsimp only;omega),Xd,
    WaG (P:=λ_=>True) hN x3 (λ_ _=>trivial) (by dsimp only;omega) (by dsimp only;omega),Xd,
    WqJ hN x4 x5 (by dsimp only;omega) (by dsimp only;omega),Xd]
   dsimp only;simp(disch:=omega) only[ia1,wKR];rw[show k+(11+(wL wI (P6 x)+(wL wEn (P7 x)+(wL wRw (P8 x)+wL wKm (P9 x)))))=k+1+1+1+1+1+1+wL wI (P6 x)+wL wEn (P7 x)+wL wRw (P8 x)+wL wKm (P9 x)+1+1+1+1+1 by omega];rfl)
  (λn k l=>by simp only[Zbg,WaW,Wa]) l [] N k hP (by omega) (by simpa using hl) h0 h1
 simpa using h
theorem WkQ:WrS Wv0 wKR WwC Zf5:=by
 intro N l k hN hl hP h0 h1;unfold Zf5;generalize ea:mkL Wv0 wKR l k=a;have h:=Wh8 (mk:=Wv0) (w:=wKR) (P:=WwC) (a:=a) (lp:=λn k i=>Zbh N a (some ((),((-1:Int),()))) (λk9 aV aq=>(some ((),(k9,())))) n k i) (K1:=λk9 aV aq=>(some ((),(k9,())))) Wwe
  (λn k p x l' ha hx h0 h1 h2=>by
   have w1:=Wdi Wop (P6 x);have w2:=Wdi WqI (P7 x);have w3:=Wdi Whi (P8 x);have w4:=Wdi WsW (P9 x);obtain⟨x1,x2,x3,x4,x5⟩:=hx;unfold wKR at h1;rw[ha];simp only[Zbh,WaY,Waf,Wai,Wb,Wk];simp(disch:=omega) only[Wv0,P4,P5,P10,P11,P12,P13,Q14,Wb,ia1,WA,Wa];rw[show∀(a b c d e f) (g:List Int) (r:List Kb×List Kc×List Ki×Bool×Int×Int×Int×Int),P6 ((a,b,c,d,e,f,g,r):Y_KidRun)=g fromλ_ _ _ _ _ _ _ _=>rfl,
    show∀(a b c d e f) (g:List Int) h (r:List Kc×List Ki×Bool×Int×Int×Int×Int),P7 ((a,b,c,d,e,f,g,h,r):Y_KidRun)=h fromλ_ _ _ _ _ _ _ _ _=>rfl,
    show∀(a b c d e f) (g:List Int) h i (r:List Ki×Bool×Int×Int×Int×Int),P8 ((a,b,c,d,e,f,g,h,i,r):Y_KidRun)=i fromλ_ _ _ _ _ _ _ _ _ _=>rfl,
    show∀(a b c d e f) (g:List Int) h i j (r:Bool×Int×Int×Int×Int),P9 ((a,b,c,d,e,f,g,h,i,j,r):Y_KidRun)=j fromλ_ _ _ _ _ _ _ _ _ _ _=>rfl]
   rw[WaH (P:=λ_=>True) hN x1 (λ_ _=>trivial) (by omega) (by omega)];simp(disch:=omega) only[ret,Xd,lt0,Wa];rw[Wg8 (P:=λ_=>True) hN x2 (λ_ _=>trivial) (by omega) (by omega)];simp(disch:=omega) only[ret,Xd,lt0,Wa];rw[WaF (P:=λ_=>True) hN x3 (λ_ _=>trivial) (by omega) (by omega)];simp(disch:=omega) only[ret,Xd,lt0,Wa];rw[Wq5 hN x4 x5 (by omega) (by omega)];simp(disch:=omega) only[ret,Xd,lt0,Wa,Wb,ia1,WA,Wxq,Was,wKR];rw[show k+(11+(wL wI (P6 x)+(wL wEn (P7 x)+(wL wRw (P8 x)+wL wKm (P9 x)))))=k+1+1+1+1+1+1+wL wI (P6 x)+wL wEn (P7 x)+wL wRw (P8 x)+wL wKm (P9 x)+1+1+1+1+1 by omega])
  (λn k=>by simp only[Zbh,WaW,Wa]) l [] N k (by rw[←ea];rfl) hP (by omega) (by simpa using hl) h0 h1
 exact h
end
section
theorem eqL{α R:Type}{l:List α}{lp:Nat->Int->Option R}{K:Option R}{n:Nat}(hb:l.length<=1048576)(hn:l.length<n)
  (hs:∀(n i:Nat),i<l.length->decide ((i:Int)<Wg l)=true->inb (i:Int) l.length=true->Wh .i64 (i:Int) 1=((i+1:Nat):Int)->lp (n+1) (i:Int)=lp n ((i+1:Nat):Int))
  (he:∀n:Nat,decide ((l.length:Int)<Wg l)=false->lp (n+1) (l.length:Int)=K):lp n 0=K:=by
 suffices h:∀d i n,i+d=l.length->d<n->lp n (i:Int)=K from h l.length 0 n (by omega) hn
 intro d
 induction d with
 |zero=>
  intro i n h1 h2;obtain⟨n,rfl⟩:∃m,n=m+1:=⟨n-1,by omega⟩;rw[show i=l.length by omega,he n (WS (Xm _))]
 |succ d ih=>
  intro i n h1 h2;obtain⟨n,rfl⟩:∃m,n=m+1:=⟨n-1,by omega⟩;have hi:i<l.length:=by omega
  rw[hs n i hi (WK hi) (Ww hi) (Wm (by omega))];exact ih (i+1) n (by omega) (by omega)
theorem WhV{N:Nat}{a:List Int}(hN:1048576<N)(h:WaA a<=1048576):Zaj N a a=ret true:=by
 have h0:a.length<=1048576:=h;unfold Zaj;rw[WA,Wa];exact eqL (l:=a) (lp:=λn i=>Zeh N a a (some ((),(false,()))) (λi8 t9=>some ((),(true,()))) n i) h0 (by omega) (λn i hi p q r=>by simp only[Zeh,p,q,r,Ws hi,Wb,WA,ret,Xd,Xk,Wa]) λn p=>by simp only[Zeh,p,Wa]
theorem WtV{N:Nat}{a:List Int×List Int×Int}(hN:1048576<N)(h:Wbj a<=1048576):Zoo N a a=ret true:=by
 unfold Wbj at h;unfold Zoo;simp(disch:=omega) only[WA,Was,WhV hN,ret,Xd,Xk,Wa]
theorem Wx2{N:Nat}{a:Int×Int×Int×Int}(hN:1048576<N):Zse N a a=ret true:=by
 unfold Zse;simp(disch:=omega) only[WA,Was,ret,Xd,Xk,Wa]
theorem Wxm{N:Nat}{a:List Ka}(hN:1048576<N)(h:WeO a<=1048576):Zkc N a a=ret true:=by
 have h0:a.length<=1048576:=h;unfold Zkc;rw[WA,Wa];exact eqL (l:=a) (lp:=λn i=>Zfq N a a (some ((),(false,()))) (λi8 t9=>some ((),(true,()))) n i) h0 (by omega) (λn i hi p q r=>by simp only[Zfq,p,q,r,Ws hi,Wb,Wx2 hN,ret,Xd,Xk,Wa]) λn p=>by simp only[Zfq,p,Wa]
theorem WxO{N:Nat}{a:List Ka}(hN:1048576<N)(h:Wfz a<=1048576):Zrl N a a=ret true:=by
 unfold Wfz at h;unfold Zrl;simp(disch:=omega) only[WA,Was,Wxm hN,ret,Xd,Xk,Wa]
theorem WwL{N:Nat}{a:List Kz}(hN:1048576<N)(h:WbO a<=1048576):Zk4 N a a=ret true:=by
 have h0:a.length<=1048576:=Xal Wfo h;unfold Zk4;rw[WA,Wa];exact eqL (l:=a) (lp:=λn i=>Zej N a a (some ((),(false,()))) (λi8 t9=>some ((),(true,()))) n i) h0 (by omega) (λn i hi p q r=>by simp only[Zej,p,q,r,Ws hi,Wb,WxO hN (Xal (Wfv (Xv hi)) h),ret,Xd,Xk,Wa]) λn p=>by simp only[Zej,p,Wa]
theorem WwT{N:Nat}{a:List Ka×List Kz}(hN:1048576<N)(h:WcR a<=1048576):Zqq N a a=ret true:=by
 unfold WcR at h;unfold Zqq;simp(disch:=omega) only[WA,Was,Wxm hN,WwL hN,ret,Xd,Xk,Wa]
theorem Wwa{N:Nat}{a:List Km}(hN:1048576<N)(h:Wa2 a<=1048576):Zjz N a a=ret true:=by
 have h0:a.length<=1048576:=Xal Weh h;unfold Zjz;rw[WA,Wa];exact eqL (l:=a) (lp:=λn i=>Zdj N a a (some ((),(false,()))) (λi8 t9=>some ((),(true,()))) n i) h0 (by omega) (λn i hi p q r=>by simp only[Zdj,p,q,r,Ws hi,Wb,WwT hN (Xal (Wec (Xv hi)) h),ret,Xd,Xk,Wa]) λn p=>by simp only[Zdj,p,Wa]
theorem WxK{N:Nat}{a:Int×Int×Int}(hN:1048576<N):Zro N a a=ret true:=by
 unfold Zro;simp(disch:=omega) only[WA,Was,ret,Xd,Xk,Wa]
theorem Ww0{N:Nat}{a:List Kb}(hN:1048576<N)(h:WdP a<=1048576):Zlb N a a=ret true:=by
 have h0:a.length<=1048576:=h;unfold Zlb;rw[WA,Wa];exact eqL (l:=a) (lp:=λn i=>Zeo N a a (some ((),(false,()))) (λi8 t9=>some ((),(true,()))) n i) h0 (by omega) (λn i hi p q r=>by simp only[Zeo,p,q,r,Ws hi,Wb,WxK hN,ret,Xd,Xk,Wa]) λn p=>by simp only[Zeo,p,Wa]
theorem WtL{N:Nat}{a:Kg×List Km×List Kb}(hN:1048576<N)(h:Wbz a<=1048576):Zop N a a=ret true:=by
 unfold Wbz at h;unfold Zop;simp(disch:=omega) only[WA,Was,WtV hN,Wwa hN,Ww0 hN,ret,Xd,Xk,Wa]
theorem WwW{N:Nat}{a:Int×Int×Int}(hN:1048576<N):Zqh N a a=ret true:=by
 unfold Zqh;simp(disch:=omega) only[WA,Was,ret,Xd,Xk,Wa]
def Wse(l:List Kb):Nat:=l.length
theorem Wwf{N:Nat}{a:List Kb}(hN:1048576<N)(h:Wse a<=1048576):Zjk N a a=ret true:=by
 have h0:a.length<=1048576:=h;unfold Zjk;rw[WA,Wa];exact eqL (l:=a) (lp:=λn i=>Zc6 N a a (some ((),(false,()))) (λi8 t9=>some ((),(true,()))) n i) h0 (by omega) (λn i hi p q r=>by simp only[Zc6,p,q,r,Ws hi,Wb,WwW hN,ret,Xd,Xk,Wa]) λn p=>by simp only[Zc6,p,Wa]
def Wwj(a:Int×List Kb):Nat:=Wse a.2
theorem Wxv{N:Nat}{a:Int×List Kb}(hN:1048576<N)(h:Wwj a<=1048576):Zrj N a a=ret true:=by
 unfold Wwj at h;unfold Zrj;simp(disch:=omega) only[WA,Was,Wwf hN,ret,Xd,Xk,Wa]
def Wpd(a:List Int×Int):Nat:=WaA a.1
theorem Wwi{N:Nat}{a:List Int×Int}(hN:1048576<N)(h:Wpd a<=1048576):Zpt N a a=ret true:=by
 unfold Wpd at h;unfold Zpt;simp(disch:=omega) only[WA,Was,WhV hN,ret,Xd,Xk,Wa]
theorem WwX{N:Nat}{a:Int×Int×Int}(hN:1048576<N):Zqr N a a=ret true:=by
 unfold Zqr;simp(disch:=omega) only[WA,Was,ret,Xd,Xk,Wa]
def Wtb(l:List Kb):Nat:=l.length
theorem WvQ{N:Nat}{a:List Kb}(hN:1048576<N)(h:Wtb a<=1048576):Zj0 N a a=ret true:=by
 have h0:a.length<=1048576:=h;unfold Zj0;rw[WA,Wa];exact eqL (l:=a) (lp:=λn i=>Zdo N a a (some ((),(false,()))) (λi8 t9=>some ((),(true,()))) n i) h0 (by omega) (λn i hi p q r=>by simp only[Zdo,p,q,r,Ws hi,Wb,WwX hN,ret,Xd,Xk,Wa]) λn p=>by simp only[Zdo,p,Wa]
theorem WxN{N:Nat}{a:Int×Int}(hN:1048576<N):Zrk N a a=ret true:=by
 unfold Zrk;simp(disch:=omega) only[WA,Was,ret,Xd,Xk,Wa]
def WeA(l:List Kc):Nat:=l.length
theorem Wnj{N:Nat}{a:List Kc}(hN:1048576<N)(h:WeA a<=1048576):Zbq N a a=ret true:=by
 have h0:a.length<=1048576:=h;unfold Zbq;rw[WA,Wa];exact eqL (l:=a) (lp:=λn i=>Zei N a a (some ((),(false,()))) (λi8 t9=>some ((),(true,()))) n i) h0 (by omega) (λn i hi p q r=>by simp only[Zei,p,q,r,Ws hi,Wb,WxN hN,ret,Xd,Xk,Wa]) λn p=>by simp only[Zei,p,Wa]
theorem WvG{N:Nat}{a:Int×Int×Int}(hN:1048576<N):Zpk N a a=ret true:=by
 unfold Zpk;simp(disch:=omega) only[WA,Was,ret,Xd,Xk,Wa]
def Wgk(l:List Kb):Nat:=l.length
theorem WpY{N:Nat}{a:List Kb}(hN:1048576<N)(h:Wgk a<=1048576):Zgt N a a=ret true:=by
 have h0:a.length<=1048576:=h;unfold Zgt;rw[WA,Wa];exact eqL (l:=a) (lp:=λn i=>Zct N a a (some ((),(false,()))) (λi8 t9=>some ((),(true,()))) n i) h0 (by omega) (λn i hi p q r=>by simp only[Zct,p,q,r,Ws hi,Wb,WvG hN,ret,Xd,Xk,Wa]) λn p=>by simp only[Zct,p,Wa]
theorem Ws7{N:Nat}{a:Int×Int×Int×Int}(hN:1048576<N):Zmu N a a=ret true:=by
 unfold Zmu;simp(disch:=omega) only[WA,Was,ret,Xd,Xk,Wa]
def WcA(a:Int×Int×List Int):Nat:=WaA a.2.2
theorem Wsu{N:Nat}{a:Int×Int×List Int}(hN:1048576<N)(h:WcA a<=1048576):Zm4 N a a=ret true:=by
 unfold WcA at h;unfold Zm4;simp(disch:=omega) only[WA,Was,WhV hN,ret,Xd,Xk,Wa]
def WaS(l:List Ki):Nat:=l.length+(l.map WcA).sum
theorem WfE{l:List Ki}{x:Int×Int×List Int}(h:x∈l):WcA x<=WaS l:=by
 have:=WbM WcA h;unfold WaS;omega
theorem WfR{l:List Ki}:l.length<=WaS l:=by unfold WaS;omega
theorem Wrr{N:Nat}{a:List Ki}(hN:1048576<N)(h:WaS a<=1048576):Zg8 N a a=ret true:=by
 have h0:a.length<=1048576:=Xal WfR h;unfold Zg8;rw[WA,Wa];exact eqL (l:=a) (lp:=λn i=>Zbu N a a (some ((),(false,()))) (λi8 t9=>some ((),(true,()))) n i) h0 (by omega) (λn i hi p q r=>by simp only[Zbu,p,q,r,Ws hi,Wb,Wsu hN (Xal (WfE (Xv hi)) h),ret,Xd,Xk,Wa]) λn p=>by simp only[Zbu,p,Wa]
def Wcn(a:Y_KidRun):Nat:=WaA a.2.2.2.2.2.2.1+Wgk a.2.2.2.2.2.2.2.1+WeA a.2.2.2.2.2.2.2.2.1+WaS a.2.2.2.2.2.2.2.2.2.1
theorem WuX{N:Nat}{a:Y_KidRun}(hN:1048576<N)(h:Wcn a<=1048576):Zog N a a=ret true:=by
 unfold Wcn at h;unfold Zog;simp(disch:=omega) only[P10,P4,P5,P6,P7,P8,P9,Q11,WA,Was,WhV hN,WpY hN,Wnj hN,Wrr hN,Ws7 hN,ret,Xd,Xk,Wa]
def Wb0(l:List Y_KidRun):Nat:=l.length+(l.map Wcn).sum
theorem Wgt{l:List Y_KidRun}{x:Y_KidRun}(h:x∈l):Wcn x<=Wb0 l:=by
 have:=WbM Wcn h;unfold Wb0;omega
theorem WgI{l:List Y_KidRun}:l.length<=Wb0 l:=by unfold Wb0;omega
theorem Wsx{N:Nat}{a:List Y_KidRun}(hN:1048576<N)(h:Wb0 a<=1048576):Zht N a a=ret true:=by
 have h0:a.length<=1048576:=Xal WgI h;unfold Zht;rw[WA,Wa];exact eqL (l:=a) (lp:=λn i=>Zb7 N a a (some ((),(false,()))) (λi8 t9=>some ((),(true,()))) n i) h0 (by omega) (λn i hi p q r=>by simp only[Zb7,p,q,r,Ws hi,Wb,WuX hN (Xal (Wgt (Xv hi)) h),ret,Xd,Xk,Wa]) λn p=>by simp only[Zb7,p,Wa]
def Wfg(a:Y_Family):Nat:=WaA a.2.2.2.2.1+WeA a.2.2.2.2.2.1+Wgk a.2.2.2.2.2.2.1+WaA a.2.2.2.2.2.2.2.1+WeA a.2.2.2.2.2.2.2.2.1+Wb0 a.2.2.2.2.2.2.2.2.2
theorem Wul{N:Nat}{a:Y_Family}(hN:1048576<N)(h:Wfg a<=1048576):Zoh N a a=ret true:=by
 unfold Wfg at h;unfold Zoh;simp(disch:=omega) only[P4,P5,P6,P7,P8,Q9,WA,Was,WhV hN,Wnj hN,WpY hN,Wsx hN,ret,Xd,Xk,Wa]
def WhI(a:Int×Int×Int×Int×List Int):Nat:=WaA a.2.2.2.2
theorem Wxn{N:Nat}{a:Int×Int×Int×Int×List Int}(hN:1048576<N)(h:WhI a<=1048576):Zqs N a a=ret true:=by
 unfold WhI at h;unfold Zqs;simp(disch:=omega) only[WA,Was,WhV hN,ret,Xd,Xk,Wa]
def WcQ(l:List Kf):Nat:=l.length+(l.map WhI).sum
theorem Wjk{l:List Kf}{x:Int×Int×Int×Int×List Int}(h:x∈l):WhI x<=WcQ l:=by
 have:=WbM WhI h;unfold WcQ;omega
theorem Wjs{l:List Kf}:l.length<=WcQ l:=by unfold WcQ;omega
theorem Wwc{N:Nat}{a:List Kf}(hN:1048576<N)(h:WcQ a<=1048576):Zj1 N a a=ret true:=by
 have h0:a.length<=1048576:=Xal Wjs h;unfold Zj1;rw[WA,Wa];exact eqL (l:=a) (lp:=λn i=>Zdp N a a (some ((),(false,()))) (λi8 t9=>some ((),(true,()))) n i) h0 (by omega) (λn i hi p q r=>by simp only[Zdp,p,q,r,Ws hi,Wb,Wxn hN (Xal (Wjk (Xv hi)) h),ret,Xd,Xk,Wa]) λn p=>by simp only[Zdp,p,Wa]
theorem WwR{N:Nat}{a:Int×Int×Int}(hN:1048576<N):Zqt N a a=ret true:=by
 unfold Zqt;simp(disch:=omega) only[WA,Was,ret,Xd,Xk,Wa]
def Wtt(l:List Kb):Nat:=l.length
theorem WvO{N:Nat}{a:List Kb}(hN:1048576<N)(h:Wtt a<=1048576):Zj2 N a a=ret true:=by
 have h0:a.length<=1048576:=h;unfold Zj2;rw[WA,Wa];exact eqL (l:=a) (lp:=λn i=>Zdq N a a (some ((),(false,()))) (λi8 t9=>some ((),(true,()))) n i) h0 (by omega) (λn i hi p q r=>by simp only[Zdq,p,q,r,Ws hi,Wb,WwR hN,ret,Xd,Xk,Wa]) λn p=>by simp only[Zdq,p,Wa]
def Wl4(a:Int×Int×Int×Int×Int×List Kc×List Int):Nat:=WeA a.2.2.2.2.2.1+WaA a.2.2.2.2.2.2
theorem Wuj{N:Nat}{a:Int×Int×Int×Int×Int×List Kc×List Int}(hN:1048576<N)(h:Wl4 a<=1048576):Zoq N a a=ret true:=by
 unfold Wl4 at h;unfold Zoq;simp(disch:=omega) only[WA,Was,Wnj hN,WhV hN,ret,Xd,Xk,Wa]
def WfL(a:Y_Root):Nat:=WaA a.2.2.2.2.2.2.2.2.2.2.2.2.1+WeA a.2.2.2.2.2.2.2.2.2.2.2.2.2.1+WeA a.2.2.2.2.2.2.2.2.2.2.2.2.2.2.1+WcQ a.2.2.2.2.2.2.2.2.2.2.2.2.2.2.2.1+Wtt a.2.2.2.2.2.2.2.2.2.2.2.2.2.2.2.2.1+WaA a.2.2.2.2.2.2.2.2.2.2.2.2.2.2.2.2.2.1+Wl4 a.2.2.2.2.2.2.2.2.2.2.2.2.2.2.2.2.2.2.2.2.1+Wfg a.2.2.2.2.2.2.2.2.2.2.2.2.2.2.2.2.2.2.2.2.2
theorem WwO{N:Nat}{a:Y_Root}(hN:1048576<N)(h:WfL a<=1048576):Zqu N a a=ret true:=by
 unfold WfL at h;unfold Zqu;simp(disch:=omega) only[P10,P11,P12,P13,P14,P15,P16,P17,P18,P19,P20,P4,P5,P6,P7,P8,P9,Q21,WA,Was,WhV hN,Wnj hN,Wwc hN,WvO hN,Ws7 hN,Wuj hN,Wul hN,ret,Xd,Xk,Wa]
def Wek(l:List Y_Root):Nat:=l.length+(l.map WfL).sum
theorem Wjh{l:List Y_Root}{x:Y_Root}(h:x∈l):WfL x<=Wek l:=by
 have:=WbM WfL h;unfold Wek;omega
theorem WiU{l:List Y_Root}:l.length<=Wek l:=by unfold Wek;omega
theorem Wvx{N:Nat}{a:List Y_Root}(hN:1048576<N)(h:Wek a<=1048576):Zj3 N a a=ret true:=by
 have h0:a.length<=1048576:=Xal WiU h;unfold Zj3;rw[WA,Wa];exact eqL (l:=a) (lp:=λn i=>Zdr N a a (some ((),(false,()))) (λi8 t9=>some ((),(true,()))) n i) h0 (by omega) (λn i hi p q r=>by simp only[Zdr,p,q,r,Ws hi,Wb,WwO hN (Xal (Wjh (Xv hi)) h),ret,Xd,Xk,Wa]) λn p=>by simp only[Zdr,p,Wa]
def Weo(a:Int×Int×List Kc):Nat:=WeA a.2.2
theorem WvL{N:Nat}{a:Int×Int×List Kc}(hN:1048576<N)(h:Weo a<=1048576):Zpu N a a=ret true:=by
 unfold Weo at h;unfold Zpu;simp(disch:=omega) only[WA,Was,Wnj hN,ret,Xd,Xk,Wa]
def WcV(l:List Kn):Nat:=l.length+(l.map Weo).sum
theorem Wh0{l:List Kn}{x:Int×Int×List Kc}(h:x∈l):Weo x<=WcV l:=by
 have:=WbM Weo h;unfold WcV;omega
theorem Whz{l:List Kn}:l.length<=WcV l:=by unfold WcV;omega
theorem Wut{N:Nat}{a:List Kn}(hN:1048576<N)(h:WcV a<=1048576):Ziv N a a=ret true:=by
 have h0:a.length<=1048576:=Xal Whz h;unfold Ziv;rw[WA,Wa];exact eqL (l:=a) (lp:=λn i=>Zc0 N a a (some ((),(false,()))) (λi8 t9=>some ((),(true,()))) n i) h0 (by omega) (λn i hi p q r=>by simp only[Zc0,p,q,r,Ws hi,Wb,WvL hN (Xal (Wh0 (Xv hi)) h),ret,Xd,Xk,Wa]) λn p=>by simp only[Zc0,p,Wa]
def Whw(a:Y_World):Nat:=Wwj a.2.2.1+Wpd a.2.2.2.1+Wtb a.2.2.2.2.1+Wek a.2.2.2.2.2.1+WcV a.2.2.2.2.2.2
theorem Wwu{N:Nat}{a:Y_World}(hN:1048576<N)(h:Whw a<=1048576):Zj4 N a a=ret true:=by
 unfold Whw at h;unfold Zj4;simp(disch:=omega) only[P4,P5,Q6,WA,Was,Wxv hN,Wwi hN,WvQ hN,Wvx hN,Wut hN,ret,Xd,Xk,Wa]
end
section
theorem Wrl{α:Type}{w:α->Int}{z:α->Nat}{c:Int}:∀(l:List α),(∀x∈l,w x<=c*(z x+1:Nat))->wL w l<=c*((l.length+(l.map z).sum:Nat):Int)
 | [],_=>by simp[wL]
 |x::l,h=>by
  have h1:=h x (Xj ..);have h2:=Wrl l λy hy=>h y (Xf _ hy);rw[wL,Xr,Xaf,Xcn];rw[show((l.length+1+(z x+(l.map z).sum):Nat):Int)=((z x+1:Nat):Int)+((l.length+(l.map z).sum:Nat):Int) by push_cast;omega,Int.mul_add];omega
theorem WwV{α:Type}{w:α->Int}{c:Int}(h:∀x,w x=c):∀(l:List α),wL w l=c*(l.length:Int)
 | []=>by simp[wL]
 |x::l=>by rw[wL,h x,WwV h l,Xr];push_cast;rw[Int.mul_add];omega
theorem WwF(l:List Int):wL wI l=l.length:=by rw[WwV (w:=wI) (c:=1) (λx=>rfl)];omega
theorem Wxl(l:List Kb):wL wEn l=3*l.length:=WwV (λx=>rfl) l
theorem WvF(l:List Kb):wL wWd l=3*l.length:=WwV (λx=>rfl) l
theorem Wwp(l:List Kc):wL wRw l=2*l.length:=WwV (λx=>rfl) l
theorem WxL(l:List Ki):wL wKm l<=2*(WaS l:Int):=Wrl l λx _=>by unfold wKm WcA WaA;rw[WwF];push_cast;omega
theorem WxA(l:List Y_KidRun):wL wKR l<=11*(Wb0 l:Int):=Wrl l λx _=>by
 unfold wKR Wcn WaA Wgk WeA;rw[WwF,Wxl,Wwp];have h:=WxL x.2.2.2.2.2.2.2.2.2.1;show 11+((x.2.2.2.2.2.2.1.length:Int)+(3*(x.2.2.2.2.2.2.2.1.length:Int)+(2*(x.2.2.2.2.2.2.2.2.1.length:Int)+wL wKm x.2.2.2.2.2.2.2.2.2.1)))<=_
 push_cast
 omega
theorem WxR{x:Y_KidRun}(h:Wcn x<=1048576):WwC x:=by
 unfold Wcn WaA Wgk WeA at h;have h9:x.2.2.2.2.2.2.2.2.2.1=P9 x:=rfl;have h6:x.2.2.2.2.2.2.1=P6 x:=rfl;have h7:x.2.2.2.2.2.2.2.1=P7 x:=rfl;have h8:x.2.2.2.2.2.2.2.2.1=P8 x:=rfl;rw[h9,h6,h7,h8]at h;have hl:(P9 x).length<=WaS (P9 x):=WfR;refine⟨?_,?_,?_,?_,λy hy=>?_⟩
 .show(P6 x).length<=1500000;omega
 .show(P7 x).length<=1500000;omega
 .show(P8 x).length<=1500000;omega
 .show(P9 x).length<=1500000;omega
 .have:=WfE hy;unfold WcA WaA at this;show y.2.2.length<=1500000;omega
theorem mh{α:Type}{mk:α->Int->α}{w:α->Int}{P:α->Prop}{T:Nat->List α->Int->Option ((List α×Unit)×Kh)}{T':Nat->List α->Int->Option Ks}(hm:Woo mk w P T)(hh:WrS mk w P T')
  {N:Nat} {l:List α} {k:Int} (hN:1600000<N) (hl:l.length<=1500000) (hP:∀x∈l,P x) (h0:0<=k) (h1:k+wL w l<=1000000000):∃k' m,T N l k=some ((m,()),(k',()))/\T' N m k=ret k'/\k'=k+wL w l/\m=mkL mk w l k:=
 ⟨_,_,hm hN hl hP h0 h1,hh hN hl hP h0 h1,rfl,rfl⟩
theorem tT{α:Type}(l:List α):∀x∈l,(λ_=>True) x:=λ_ _=>trivial
theorem WrL{P:Kb->Prop}:Woo Wh7 wWd P Zh3:=by
 intro N l k hN hl hP h0 h1;unfold Zh3;have h:=Wfy (mk:=Wh7) (w:=wWd) (P:=λ_=>True) (lp:=λn k i l=>Zcb N (λk10 bp ax aG=>(some ((aG,()),(k10,())))) n k i l) (K0:=λk10 bp ax aG=>(some ((aG,()),(k10,())))) WmQ
  (λn k p x l _ h0 h1 h2=>by
   unfold wWd at h1;simp(disch:=omega) only[Zcb,Wk,WaY,Waf,WbK,Wai,Wb,ia1,wWd,Wh7]
   try rw[show k+3=k+1+1+1 by omega])
  (λn k l=>by simp only[Zcb,WaW,Wa]) l [] N k (λ_ _=>trivial) (by omega) (by simpa using hl) h0 h1
 simpa using h
theorem Wqy{P:Kb->Prop}:WrS Wh7 wWd P Zh7:=by
 intro N l k hN hl hP h0 h1;unfold Zh7;generalize ea:mkL Wh7 wWd l k=a;have h:=Wh8 (mk:=Wh7) (w:=wWd) (P:=λ_=>True) (a:=a) (lp:=λn k i=>Zcf N a (some ((),((-1:Int),()))) (λk9 aV aq=>(some ((),(k9,())))) n k i) (K1:=λk9 aV aq=>(some ((),(k9,())))) WmQ
  (λn k p x l' ha _ h0 h1 h2=>by
   unfold wWd at h1;rw[ha];simp only[Zcf,WaY,Waf,Wai,Wb];simp(disch:=omega) only[Wh7,Wb,ia1,WA,Wa,wWd]
   try rw[show k+3=k+1+1+1 by omega])
  (λn k=>by simp only[Zcf,WaW,Wa]) l [] N k (by rw[←ea];rfl) (λ_ _=>trivial) (by omega) (by simpa using hl) h0 h1
 exact h
theorem Wlf{P:Kb->Prop}:Woo Wh7 wWd P Zh5:=by
 intro N l k hN hl hP h0 h1;unfold Zh5;have h:=Wfy (mk:=Wh7) (w:=wWd) (P:=λ_=>True) (lp:=λn k i l=>Zcd N (λk10 bp ax aG=>(some ((aG,()),(k10,())))) n k i l) (K0:=λk10 bp ax aG=>(some ((aG,()),(k10,())))) WmQ
  (λn k p x l _ h0 h1 h2=>by
   unfold wWd at h1;simp(disch:=omega) only[Zcd,Wk,WaY,Waf,WbK,Wai,Wb,ia1,wWd,Wh7]
   try rw[show k+3=k+1+1+1 by omega])
  (λn k l=>by simp only[Zcd,WaW,Wa]) l [] N k (λ_ _=>trivial) (by omega) (by simpa using hl) h0 h1
 simpa using h
theorem WkF{P:Kb->Prop}:WrS Wh7 wWd P Zh9:=by
 intro N l k hN hl hP h0 h1;unfold Zh9;generalize ea:mkL Wh7 wWd l k=a;have h:=Wh8 (mk:=Wh7) (w:=wWd) (P:=λ_=>True) (a:=a) (lp:=λn k i=>Zch N a (some ((),((-1:Int),()))) (λk9 aV aq=>(some ((),(k9,())))) n k i) (K1:=λk9 aV aq=>(some ((),(k9,())))) WmQ
  (λn k p x l' ha _ h0 h1 h2=>by
   unfold wWd at h1;rw[ha];simp only[Zch,WaY,Waf,Wai,Wb];simp(disch:=omega) only[Wh7,Wb,ia1,WA,Wa,wWd]
   try rw[show k+3=k+1+1+1 by omega])
  (λn k=>by simp only[Zch,WaW,Wa]) l [] N k (by rw[←ea];rfl) (λ_ _=>trivial) (by omega) (by simpa using hl) h0 h1
 exact h
def WvS(x:Kf)(k:Int):Kf:=(k,k+1,k+1+1,k+1+1+1,mkL mkI wI x.2.2.2.2 (k+1+1+1+1))
def wMk(x:Kf):Int:=4+wL wI x.2.2.2.2
theorem Wwd(x:Kf):0<=wMk x:=by unfold wMk;have:=Wdi Wop x.2.2.2.2;omega
def WwJ(x:Kf):Prop:=Sm x.2.2.2.2
theorem Wk6:Woo WvS wMk WwJ Zh4:=by
 intro N l k hN hl hP h0 h1;unfold Zh4;have h:=Wfy (mk:=WvS) (w:=wMk) (P:=WwJ) (lp:=λn k i l=>Zcc N (λk10 bp ax aG=>(some ((aG,()),(k10,())))) n k i l) (K0:=λk10 bp ax aG=>(some ((aG,()),(k10,())))) Wwd
  (λn k p x l hx h0 h1 h2=>by
   have hw:=Wdi Wop x.2.2.2.2;unfold wMk at h1;simp(disch:=omega) only[Zcc,Wk,WaY,Waf,WbK,Wai,Wb,nbq,Xdx,ia1];rw[Wan (P:=λ_=>True) hN hx (λ_ _=>trivial) (by omega) (by omega)];simp only[Xd,wMk];rw[show k+1+1+1+1+wL wI x.2.2.2.2=k+(4+wL wI x.2.2.2.2) by omega];rfl)
  (λn k l=>by simp only[Zcc,WaW,Wa]) l [] N k hP (by omega) (by simpa using hl) h0 h1
 simpa using h
theorem Wk4:WrS WvS wMk WwJ Zh8:=by
 intro N l k hN hl hP h0 h1;unfold Zh8;generalize ea:mkL WvS wMk l k=a;have h:=Wh8 (mk:=WvS) (w:=wMk) (P:=WwJ) (a:=a) (lp:=λn k i=>Zcg N a (some ((),((-1:Int),()))) (λk9 aV aq=>(some ((),(k9,())))) n k i) (K1:=λk9 aV aq=>(some ((),(k9,())))) Wwd
  (λn k p x l' ha hx h0 h1 h2=>by
   have hw:=Wdi Wop x.2.2.2.2;unfold wMk at h1;rw[ha];simp only[Zcg,WaY,Waf,Wai,Wb];simp(disch:=omega) only[WvS,Wb,ia1,WA,Wa];rw[WaH (P:=λ_=>True) hN hx (λ_ _=>trivial) (by omega) (by omega)];simp(disch:=omega) only[ret,Xd,lt0,Wa,wMk];rw[show k+1+1+1+1+wL wI x.2.2.2.2=k+(4+wL wI x.2.2.2.2) by omega])
  (λn k=>by simp only[Zcg,WaW,Wa]) l [] N k (by rw[←ea];rfl) hP (by omega) (by simpa using hl) h0 h1
 exact h
def WwA(x:Kn)(k:Int):Kn:=(k,k+1,mkL Wqc wRw x.2.2 (k+1+1))
def wWr(x:Kn):Int:=2+wL wRw x.2.2
theorem Wvu(x:Kn):0<=wWr x:=by unfold wWr;have:=Wdi Whi x.2.2;omega
def Ww4(x:Kn):Prop:=Sm x.2.2
theorem Wrt:Woo WwA wWr Ww4 Zhb:=by
 intro N l k hN hl hP h0 h1;unfold Zhb;have h:=Wfy (mk:=WwA) (w:=wWr) (P:=Ww4) (lp:=λn k i l=>Zby N (λk10 bp ax aG=>(some ((aG,()),(k10,())))) n k i l) (K0:=λk10 bp ax aG=>(some ((aG,()),(k10,())))) Wvu
  (λn k p x l hx h0 h1 h2=>by
   have hw:=Wdi Whi x.2.2;unfold wWr at h1;simp(disch:=omega) only[Zby,Wk,WaY,Waf,WbK,Wai,Wb,nbq,Xdx,ia1];rw[WaG (P:=λ_=>True) hN hx (λ_ _=>trivial) (by omega) (by omega)];simp only[Xd,wWr];rw[show k+1+1+wL wRw x.2.2=k+(2+wL wRw x.2.2) by omega];rfl)
  (λn k l=>by simp only[Zby,WaW,Wa]) l [] N k hP (by omega) (by simpa using hl) h0 h1
 simpa using h
theorem WqO:WrS WwA wWr Ww4 Zhc:=by
 intro N l k hN hl hP h0 h1;unfold Zhc;generalize ea:mkL WwA wWr l k=a;have h:=Wh8 (mk:=WwA) (w:=wWr) (P:=Ww4) (a:=a) (lp:=λn k i=>Zbz N a (some ((),((-1:Int),()))) (λk9 aV aq=>(some ((),(k9,())))) n k i) (K1:=λk9 aV aq=>(some ((),(k9,())))) Wvu
  (λn k p x l' ha hx h0 h1 h2=>by
   have hw:=Wdi Whi x.2.2;unfold wWr at h1;rw[ha];simp only[Zbz,WaY,Waf,Wai,Wb];simp(disch:=omega) only[WwA,Wb,ia1,WA,Wa];rw[WaF (P:=λ_=>True) hN hx (λ_ _=>trivial) (by omega) (by omega)];simp(disch:=omega) only[ret,Xd,lt0,Wa,wWr];rw[show k+1+1+wL wRw x.2.2=k+(2+wL wRw x.2.2) by omega])
  (λn k=>by simp only[Zbz,WaW,Wa]) l [] N k (by rw[←ea];rfl) hP (by omega) (by simpa using hl) h0 h1
 exact h
def rtM(k h g:Int)(kr:List Int)(kt:List Kc)(ku:List Kc)(kw:List Kf)(kx:List Kb)(ky:List Int)(kA:List Kc)(kB:List Int)(kC:List Int)(kD:List Kc)(kE:List Kb)(kF:List Int)(kG:List Kc)(kH:List Y_KidRun):Y_Root:=(k,k+1,k+1+1,k+1+1+1,k+1+1+1+1,k+1+1+1+1+1,k+1+1+1+1+1+1,k+1+1+1+1+1+1+1,k+1+1+1+1+1+1+1+1,k+1+1+1+1+1+1+1+1+1,k+1+1+1+1+1+1+1+1+1+1,(WdD (k+1+1+1+1+1+1+1+1+1+1+1) (3:Int))==(0:Int),kr,kt,ku,kw,kx,ky,(WdD h (3:Int))==(0:Int),(h+1,h+1+1,h+1+1+1,h+1+1+1+1),(h+1+1+1+1+1,h+1+1+1+1+1+1,h+1+1+1+1+1+1+1,h+1+1+1+1+1+1+1+1,h+1+1+1+1+1+1+1+1+1,kA,kB),(g,g+1,g+1+1,(WdD (g+1+1+1) (3:Int))==(0:Int),kC,kD,kE,kF,kG,kH))
def Wv1(x:Y_Root)(k:Int):Y_Root:=
 let gT:=k+1+1+1+1+1+1+1+1+1+1+1+1+wL wI (P12 x)
 let m9:=gT+wL wRw (P13 x)
 let gM:=m9+wL wRw (P14 x)
 let mC:=gM+wL wMk (P15 x)
 let m0:=mC+wL wWd (P16 x)
 let h:=m0+wL wI (P17 x)
 let m6:=h+1+1+1+1+1+1+1+1+1+1+wL wRw (P5 (P20 x))
 let g:=m6+wL wI (Q6 (P20 x))
 let pF:=g+1+1+1+1+wL wI (P25 x)
 let pG:=pF+wL wRw (P26 x)
 let pH:=pG+wL wEn (P27 x)
 let pI:=pH+wL wI (P28 x)
 let qj:=pI+wL wRw (P29 x)
 rtM k h g (mkL mkI wI (P12 x) (k+1+1+1+1+1+1+1+1+1+1+1+1)) (mkL Wqc wRw (P13 x) (gT)) (mkL Wqc wRw (P14 x) (m9)) (mkL WvS wMk (P15 x) (gM)) (mkL Wh7 wWd (P16 x) (mC)) (mkL mkI wI (P17 x) (m0)) (mkL Wqc wRw (P5 (P20 x)) (h+1+1+1+1+1+1+1+1+1+1)) (mkL mkI wI (Q6 (P20 x)) (m6)) (mkL mkI wI (P25 x) (g+1+1+1+1)) (mkL Wqc wRw (P26 x) (pF)) (mkL WtH wEn (P27 x) (pG)) (mkL mkI wI (P28 x) (pH)) (mkL Wqc wRw (P29 x) (pI)) (mkL Wv0 wKR (Q30 x) (qj))
def wRt(x:Y_Root):Int:=26+(wL wI (P12 x)+wL wRw (P13 x)+wL wRw (P14 x)+wL wMk (P15 x)+wL wWd (P16 x)+wL wI (P17 x)+wL wRw (P5 (P20 x))+wL wI (Q6 (P20 x))+wL wI (P25 x)+wL wRw (P26 x)+wL wEn (P27 x)+wL wI (P28 x)+wL wRw (P29 x)+wL wKR (Q30 x))
theorem Wwg(x:Y_Root):0<=wL wI (P12 x)/\0<=wL wRw (P13 x)/\0<=wL wRw (P14 x)/\0<=wL wMk (P15 x)/\0<=wL wWd (P16 x)/\0<=wL wI (P17 x)/\0<=wL wRw (P5 (P20 x))/\0<=wL wI (Q6 (P20 x))/\0<=wL wI (P25 x)/\0<=wL wRw (P26 x)/\0<=wL wEn (P27 x)/\0<=wL wI (P28 x)/\0<=wL wRw (P29 x)/\0<=wL wKR (Q30 x):=⟨Wdi Wop _,Wdi Whi _,Wdi Whi _,Wdi Wwd _,Wdi WmQ _,Wdi Wop _,Wdi Whi _,Wdi Wop _,Wdi Wop _,Wdi Whi _,Wdi WqI _,Wdi Wop _,Wdi Whi _,Wdi Wwe _⟩
theorem Wwk(x:Y_Root):0<=wRt x:=by
 obtain⟨qc,ti,tj,tm,tn,tp,tq,tt,tu,tv,tw,tx,tz,tA⟩:=Wwg x;unfold wRt;omega
def Wvz(x:Y_Root):Prop:=Sm (P12 x)/\Sm (P13 x)/\Sm (P14 x)/\Sm (P15 x)/\Sm (P16 x)/\Sm (P17 x)/\Sm (P5 (P20 x))/\Sm (Q6 (P20 x))/\Sm (P25 x)/\Sm (P26 x)/\Sm (P27 x)/\Sm (P28 x)/\Sm (P29 x)/\Sm (Q30 x)/\(∀y∈P15 x,WwJ y)/\∀y∈Q30 x,WwC y
def rtE(r:Y_Root)(k h g:Int)(kr:List Int)(kt:List Kc)(ku:List Kc)(kw:List Kf)(kx:List Kb)(ky:List Int)(kA:List Kc)(kB:List Int)(kC:List Int)(kD:List Kc)(kE:List Kb)(kF:List Int)(kG:List Kc)(kH:List Y_KidRun):Prop:=r.1=(k)/\r.2.1=(k+1)/\r.2.2.1=(k+1+1)/\r.2.2.2.1=(k+1+1+1)/\P4 r=(k+1+1+1+1)/\P5 r=(k+1+1+1+1+1)/\P6 r=(k+1+1+1+1+1+1)/\P7 r=(k+1+1+1+1+1+1+1)/\P8 r=(k+1+1+1+1+1+1+1+1)/\P9 r=(k+1+1+1+1+1+1+1+1+1)/\P10 r=(k+1+1+1+1+1+1+1+1+1+1)/\P11 r=((WdD (k+1+1+1+1+1+1+1+1+1+1+1) (3:Int))==(0:Int))/\P12 r=(kr)/\P13 r=(kt)/\P14 r=(ku)/\P15 r=(kw)/\P16 r=(kx)/\P17 r=(ky)/\P18 r=((WdD h (3:Int))==(0:Int))/\(P19 r).1=(h+1)/\(P19 r).2.1=(h+1+1)/\(P19 r).2.2.1=(h+1+1+1)/\(P19 r).2.2.2=(h+1+1+1+1)/\(P20 r).1=(h+1+1+1+1+1)/\(P20 r).2.1=(h+1+1+1+1+1+1)/\(P20 r).2.2.1=(h+1+1+1+1+1+1+1)/\(P20 r).2.2.2.1=(h+1+1+1+1+1+1+1+1)/\P4 (P20 r)=(h+1+1+1+1+1+1+1+1+1)/\P5 (P20 r)=(kA)/\Q6 (P20 r)=(kB)/\P21 r=(g)/\P22 r=(g+1)/\P23 r=(g+1+1)/\P24 r=((WdD (g+1+1+1) (3:Int))==(0:Int))/\P25 r=(kC)/\P26 r=(kD)/\P27 r=(kE)/\P28 r=(kF)/\P29 r=(kG)/\Q30 r=(kH)
theorem Wxz(k h g:Int)(kr:List Int)(kt:List Kc)(ku:List Kc)(kw:List Kf)(kx:List Kb)(ky:List Int)(kA:List Kc)(kB:List Int)(kC:List Int)(kD:List Kc)(kE:List Kb)(kF:List Int)(kG:List Kc)(kH:List Y_KidRun):rtE (rtM k h g kr kt ku kw kx ky kA kB kC kD kE kF kG kH) k h g kr kt ku kw kx ky kA kB kC kD kE kF kG kH:=⟨rfl,rfl,rfl,rfl,rfl,rfl,rfl,rfl,rfl,rfl,rfl,rfl,rfl,rfl,rfl,rfl,rfl,rfl,rfl,rfl,rfl,rfl,rfl,rfl,rfl,rfl,rfl,rfl,rfl,rfl,rfl,rfl,rfl,rfl,rfl,rfl,rfl,rfl,rfl,rfl⟩
theorem Wrx:Woo Wv1 wRt Wvz Zh6:=by
 intro N l k hN hl hP h0 h1;unfold Zh6;have h:=Wfy (mk:=Wv1) (w:=wRt) (P:=Wvz) (lp:=λn k i l=>Zce N (λk10 bp ax aG=>(some ((aG,()),(k10,())))) n k i l) (K0:=λk10 bp ax aG=>(some ((aG,()),(k10,())))) Wwk
  (λn k p x l hx h0 h1 h2=>by
   obtain⟨cZ,dQ,iG,nF,wj,wm,wn,wo,wq,ws,wt,wu,ww,wx,sM,sK⟩:=hx;obtain⟨qc,ti,tj,tm,tn,tp,tq,tt,tu,tv,tw,tx,tz,tA⟩:=Wwg x;unfold wRt at*;obtain⟨gT,kr,jE,f12,wy,pB⟩:=mh (Wan (P:=λ_=>True)) WaH hN cZ (tT _) (k:=k+1+1+1+1+1+1+1+1+1+1+1+1) (by omega) (by omega);obtain⟨m9,kt,jF,f13,wz,rZ⟩:=mh (WaG (P:=λ_=>True)) WaF hN dQ (tT _) (k:=gT) (by omega) (by omega);obtain⟨gM,ku,iJ,f14,oF,r9⟩:=mh (WaG (P:=λ_=>True)) WaF hN iG (tT _) (k:=m9) (by omega) (by omega);obtain⟨mC,kw,xF,f15,wA,sa⟩:=mh (Wk6) Wk4 hN nF sM (k:=gM) (by omega) (by omega);obtain⟨m0,kx,xG,f16,wB,sb⟩:=mh (Wlf (P:=λ_=>True)) WkF hN wj (tT _) (k:=mC) (by omega) (by omega);obtain⟨h,ky,xH,f17,wC,sc⟩:=mh (Wan (P:=λ_=>True)) WaH hN wm (tT _) (k:=m0) (by omega) (by omega);obtain⟨m6,kA,xI,f18,wD,se⟩:=mh (WaG (P:=λ_=>True)) WaF hN wn (tT _) (k:=h+1+1+1+1+1+1+1+1+1+1) (by omega) (by omega);obtain⟨g,kB,xJ,f19,wE,sf⟩:=mh (Wan (P:=λ_=>True)) WaH hN wo (tT _) (k:=m6) (by omega) (by omega);obtain⟨pF,kC,xK,f25,wF,sh⟩:=mh (Wan (P:=λ_=>True)) WaH hN wq (tT _) (k:=g+1+1+1+1) (by omega) (by omega);obtain⟨pG,kD,xL,f26,wG,si⟩:=mh (WaG (P:=λ_=>True)) WaF hN ws (tT _) (k:=pF) (by omega) (by omega);obtain⟨pH,kE,xM,f27,wH,sj⟩:=mh (Wg5 (P:=λ_=>True)) Wg8 hN wt (tT _) (k:=pG) (by omega) (by omega);obtain⟨pI,kF,xN,f28,wJ,sm⟩:=mh (Wan (P:=λ_=>True)) WaH hN wu (tT _) (k:=pH) (by omega) (by omega);obtain⟨qj,kG,xO,f29,wK,sn⟩:=mh (WaG (P:=λ_=>True)) WaF hN ww (tT _) (k:=pI) (by omega) (by omega);obtain⟨e,kH,xP,f30,wM,so⟩:=mh (Wkq) WkQ hN wx sK (k:=qj) (by omega) (by omega)
   have hm:Wv1 x k=rtM k h g kr kt ku kw kx ky kA kB kC kD kE kF kG kH:=by rw[pB,rZ,r9,sa,sb,sc,se,sf,sh,si,sj,sm,sn,so];subst_vars;rfl
   rw[hm,show k+(26+(wL wI (P12 x)+wL wRw (P13 x)+wL wRw (P14 x)+wL wMk (P15 x)+wL wWd (P16 x)+wL wI (P17 x)+wL wRw (P5 (P20 x))+wL wI (Q6 (P20 x))+wL wI (P25 x)+wL wRw (P26 x)+wL wEn (P27 x)+wL wI (P28 x)+wL wRw (P29 x)+wL wKR (Q30 x)))=e by omega];obtain⟨b1,b2,b3,b4,b5⟩:0<=h/\h+14<=1000000000/\0<=g/\g+4<=1000000000/\k+26<=1000000000:=by omega
   clear hm pB wy qc rZ wz ti r9 oF tj sa wA tm sb wB tn sc wC tp se wD tq sf wE tt sh wF tu si wG tv sj wH tw sm wJ tx sn wK tz so wM tA h1;simp(disch:=omega) only[Zce,Wk,WaY,Waf,WbK,Wai,Wb,nbq,Xdx,Wxq,ia1,jE,jF,iJ,xF,xG,xH,xI,xJ,xK,xL,xM,xN,xO,xP,Xd];rfl)
  (λn k l=>by simp only[Zce,WaW,Wa]) l [] N k hP (by omega) (by simpa using hl) h0 h1
 simpa using h
theorem WqN:WrS Wv1 wRt Wvz Zia:=by
 intro N l k hN hl hP h0 h1;unfold Zia;generalize ea:mkL Wv1 wRt l k=a;have h:=Wh8 (mk:=Wv1) (w:=wRt) (P:=Wvz) (a:=a) (lp:=λn k i=>Zci N a (some ((),((-1:Int),()))) (λk9 aV aq=>(some ((),(k9,())))) n k i) (K1:=λk9 aV aq=>(some ((),(k9,())))) Wwk
  (λn k p x l' ha hx h0 h1 h2=>by
   obtain⟨cZ,dQ,iG,nF,wj,wm,wn,wo,wq,ws,wt,wu,ww,wx,sM,sK⟩:=hx;obtain⟨qc,ti,tj,tm,tn,tp,tq,tt,tu,tv,tw,tx,tz,tA⟩:=Wwg x;unfold wRt at*;obtain⟨gT,kr,jE,f12,wy,pB⟩:=mh (Wan (P:=λ_=>True)) WaH hN cZ (tT _) (k:=k+1+1+1+1+1+1+1+1+1+1+1+1) (by omega) (by omega);obtain⟨m9,kt,jF,f13,wz,rZ⟩:=mh (WaG (P:=λ_=>True)) WaF hN dQ (tT _) (k:=gT) (by omega) (by omega);obtain⟨gM,ku,iJ,f14,oF,r9⟩:=mh (WaG (P:=λ_=>True)) WaF hN iG (tT _) (k:=m9) (by omega) (by omega);obtain⟨mC,kw,xF,f15,wA,sa⟩:=mh (Wk6) Wk4 hN nF sM (k:=gM) (by omega) (by omega);obtain⟨m0,kx,xG,f16,wB,sb⟩:=mh (Wlf (P:=λ_=>True)) WkF hN wj (tT _) (k:=mC) (by omega) (by omega);obtain⟨h,ky,xH,f17,wC,sc⟩:=mh (Wan (P:=λ_=>True)) WaH hN wm (tT _) (k:=m0) (by omega) (by omega);obtain⟨m6,kA,xI,f18,wD,se⟩:=mh (WaG (P:=λ_=>True)) WaF hN wn (tT _) (k:=h+1+1+1+1+1+1+1+1+1+1) (by omega) (by omega);obtain⟨g,kB,xJ,f19,wE,sf⟩:=mh (Wan (P:=λ_=>True)) WaH hN wo (tT _) (k:=m6) (by omega) (by omega);obtain⟨pF,kC,xK,f25,wF,sh⟩:=mh (Wan (P:=λ_=>True)) WaH hN wq (tT _) (k:=g+1+1+1+1) (by omega) (by omega);obtain⟨pG,kD,xL,f26,wG,si⟩:=mh (WaG (P:=λ_=>True)) WaF hN ws (tT _) (k:=pF) (by omega) (by omega);obtain⟨pH,kE,xM,f27,wH,sj⟩:=mh (Wg5 (P:=λ_=>True)) Wg8 hN wt (tT _) (k:=pG) (by omega) (by omega);obtain⟨pI,kF,xN,f28,wJ,sm⟩:=mh (Wan (P:=λ_=>True)) WaH hN wu (tT _) (k:=pH) (by omega) (by omega);obtain⟨qj,kG,xO,f29,wK,sn⟩:=mh (WaG (P:=λ_=>True)) WaF hN ww (tT _) (k:=pI) (by omega) (by omega);obtain⟨e,kH,xP,f30,wM,so⟩:=mh (Wkq) WkQ hN wx sK (k:=qj) (by omega) (by omega)
   have hm:Wv1 x k=rtM k h g kr kt ku kw kx ky kA kB kC kD kE kF kG kH:=by rw[pB,rZ,r9,sa,sb,sc,se,sf,sh,si,sj,sm,sn,so];subst_vars;rfl
   obtain⟨⟨b1,b2,b3,b4,b5⟩,oH,n13,oI,n15,n16,n17,n18,lr,n25,n26,n27,n28,n29,n30⟩:(0<=h/\h+14<=1000000000/\0<=g/\g+4<=1000000000/\k+26<=1000000000)/\0<=gT/\0<=m9/\0<=gM/\0<=mC/\0<=m0/\0<=h/\0<=m6/\0<=g/\0<=pF/\0<=pG/\0<=pH/\0<=pI/\0<=qj/\0<=e:=by omega
   have he:k+(26+(wL wI (P12 x)+wL wRw (P13 x)+wL wRw (P14 x)+wL wMk (P15 x)+wL wWd (P16 x)+wL wI (P17 x)+wL wRw (P5 (P20 x))+wL wI (Q6 (P20 x))+wL wI (P25 x)+wL wRw (P26 x)+wL wEn (P27 x)+wL wI (P28 x)+wL wRw (P29 x)+wL wKR (Q30 x)))=e:=by omega
   clear pB wy qc rZ wz ti r9 oF tj sa wA tm sb wB tn sc wC tp se wD tq sf wE tt sh wF tu si wG tv sj wH tw sm wJ tx sn wK tz so wM tA h1;obtain⟨r,hr⟩:∃r,r=rtM k h g kr kt ku kw kx ky kA kB kC kD kE kF kG kH:=⟨_,rfl⟩;rw[hm,←hr]at ha;obtain⟨p0,p1,p2,p3,p4,p5,p6,p7,p8,p9,tP,xQ,xR,xS,xT,xU,xV,xW,xX,xY,xZ,x6,x7,x8,x9,ya,yb,yc,yd,ye,yf,yg,yh,yi,yj,yl,ym,yn,yo,yp⟩:rtE r k h g kr kt ku kw kx ky kA kB kC kD kE kF kG kH:=by rw[hr];exact Wxz ..
   rw[he,ha];simp only[Zci,WaY,Waf,Wai,Wb,Wk,p0,p1,p2,p3,p4,p5,p6,p7,p8,p9,tP,xQ,xR,xS,xT,xU,xV,xW,xX,xY,xZ,x6,x7,x8,x9,ya,yb,yc,yd,ye,yf,yg,yh,yi,yj,yl,ym,yn,yo,yp];clear p0 p1 p2 p3 p4 p5 p6 p7 p8 p9 tP xQ xR xS xT xU xV xW xX xY xZ x6 x7 x8 x9 ya yb yc yd ye yf yg yh yi yj yl ym yn yo yp ha hr hm;simp(disch:=omega) only[ia1,WA,Wb,Wa,Wxq,Was,f12,f13,f14,f15,f16,f17,f18,f19,f25,f26,f27,f28,f29,f30,ret,Xd,lt0])
  (λn k=>by simp only[Zci,WaW,Wa]) l [] N k (by rw[←ea];rfl) hP (by omega) (by simpa using hl) h0 h1
 exact h
theorem WxQ(l:List Kf):wL wMk l<=4*(WcQ l:Int):=Wrl l λx _=>by unfold wMk WhI WaA;rw[WwF];push_cast;omega
theorem WxP(l:List Kn):wL wWr l<=2*(WcV l:Int):=Wrl l λx _=>by unfold wWr Weo WeA;rw[Wwp];push_cast;omega
theorem WpQ(x:Y_Root):WfL x=(P12 x).length+(P13 x).length+(P14 x).length+WcQ (P15 x)+(P16 x).length+(P17 x).length+((P5 (P20 x)).length+(Q6 (P20 x)).length)+((P25 x).length+(P26 x).length+(P27 x).length+(P28 x).length+(P29 x).length+Wb0 (Q30 x)):=rfl
theorem WxC(l:List Y_Root):wL wRt l<=26*(Wek l:Int):=Wrl l λx _=>by
 rw[WpQ];unfold wRt;have c1:=WxQ (P15 x);have c2:=WxA (Q30 x);simp only[WwF,Wwp,Wxl,WvF]
 push_cast
 omega
theorem WxJ{x:Y_Root}(h:WfL x<=1048576):Wvz x:=by
 rw[WpQ]at h;have l1:(P15 x).length<=WcQ (P15 x):=Wjs;have l2:(Q30 x).length<=Wb0 (Q30 x):=WgI;unfold Wvz Sm;refine⟨by omega,by omega,by omega,by omega,by omega,by omega,by omega,by omega,by omega,by omega,by omega,by omega,by omega,by omega,λy hy=>?_,λy hy=>WxR ?_⟩
 .have:=Wjk hy;unfold WhI WaA at this;show y.2.2.2.2.length<=1500000;omega
 .have:=Wgt hy;omega
def wWo(x:Y_World):Int:=wL wWd x.2.2.1.2+wL wI x.2.2.2.1.1+wL wWd (P4 x)+wL wRt (P5 x)+wL wWr (Q6 x)
theorem WqB{N:Nat}{x:Y_World}(hN:1600000<N)(h:Whw x<=1048576):0<=1+wWo x/\∃y,Zm9 N x 1=some ((y,()),(1+wWo x,()))/\
  Zkk N (x.1,(x.2.1,((x.2.2.1.1,y.2.2.1.2),((y.2.2.2.1.1,x.2.2.2.1.2),y.2.2.2.2)))) 1=ret (1+wWo x):=by
 have e:Whw x=x.2.2.1.2.length+x.2.2.2.1.1.length+(P4 x).length+Wek (P5 x)+WcV (Q6 x):=rfl;rw[e]at h;have l1:(P5 x).length<=Wek (P5 x):=WiU;have l2:(Q6 x).length<=WcV (Q6 x):=Whz;have c1:=WvF x.2.2.1.2;have c2:=WwF x.2.2.2.1.1;have c3:=WvF (P4 x);have c4:=WxC (P5 x);have c5:=WxP (Q6 x);have d4:=Wdi Wwk (P5 x);have d5:=Wdi Wvu (Q6 x);have s4:∀y∈P5 x,Wvz y:=λy hy=>WxJ (by have:=Wjh hy;omega);have s5:∀y∈Q6 x,Ww4 y:=λy hy=>by
  have:=Wh0 hy;unfold Weo WeA at this;show y.2.2.length<=1500000;omega
 obtain⟨k1,m1,e1,f1,d1,-⟩:=mh (Wq7 (P:=λ_=>True)) Wq2 hN (l:=x.2.2.1.2) (k:=1) (by omega) (tT _) (by omega) (by omega);obtain⟨k2,m2,e2,f2,d2,-⟩:=mh (Wan (P:=λ_=>True)) WaH hN (l:=x.2.2.2.1.1) (k:=k1) (by omega) (tT _) (by omega) (by omega);obtain⟨k3,m3,e3,f3,d3,-⟩:=mh (WrL (P:=λ_=>True)) Wqy hN (l:=P4 x) (k:=k2) (by omega) (tT _) (by omega) (by omega);obtain⟨k4,m4,e4,f4,d4,-⟩:=mh Wrx WqN hN (l:=P5 x) (k:=k3) (by omega) s4 (by omega) (by omega);obtain⟨k5,m5,e5,f5,d5,-⟩:=mh Wrt WqO hN (l:=Q6 x) (k:=k4) (by omega) s5 (by omega) (by omega);have hk:1+wWo x=k5:=by unfold wWo;omega
 rw[hk];refine⟨by omega,(x.1,x.2.1,(x.2.2.1.1,m1),(m2,x.2.2.2.1.2),m3,m4,m5),?_,?_⟩
 .unfold Zm9 Zr4 Zq5;rw[show x.2.2.2.2.1=P4 x from rfl,show x.2.2.2.2.2.1=P5 x from rfl,show x.2.2.2.2.2.2=Q6 x from rfl];simp only[e1,e2,e3,e4,e5,Xd]
 .unfold Zkk Zr5 Zq6;simp(disch:=omega) only[P4,P5,Q6,f1,f2,f3,f4,f5,ret,Xd,lt0,Wa]
end
section
variable{n:Int}{w:Wo}{x:Rt}{p:Pg}{ps:List Pg}
theorem Wlb{α:Type}{z:α->Nat}{c:Nat}:∀(l:List α),(∀x∈l,z x<=c)->(l.map z).sum<=c*l.length
 | [],_=>by simp
 |x::l,h=>by
  have h1:=h x (Xj ..);have h2:=Wlb l λy hy=>h y (Xf _ hy);rw[Xaf,Xcn,Xr,Nat.mul_add];omega
theorem Ww7(hp:POk p)(h:FOk p.2 n x.fam)(hz:RZ x):Wfg x.fam.e<=3000:=by
 have hl:=h.len;have h3:=hp.k3;have hk:∀y∈x.fam.kids.map Kd.e,Wcn y<=300:=by
  intro y hy;obtain⟨x',hx,rfl⟩:=Xw.1 hy;have hm:=hz.kd x' hx;obtain⟨i,hi,rfl⟩:=Xdt.1 hx;have pE:=h.kid i hi;have c7:(p.2.getD i []).length<=24:=by
   rw[WD (show i<p.2.length by omega)];exact(hp.kids _ (Xv _)).len
  generalize x.fam.kids[i]=y at*;have r1:=pE.regs.len;have r2:=pE.wl;have r3:=pE.sl;have r4:=pE.pc;have:WaS y.marks<=24+4*24:=by
   unfold WaS;have:=Wlb (z:=WcA) (c:=4) y.marks λz hz=>hm.2 z hz;have:=hm.1;omega
  show y.regs.length+y.seen.length+y.writes.length+WaS y.marks<=300;omega
 have hs:=Wlb _ hk;rw[Xu]at hs;have b1:=h.regs.len;have b2:=h.buf8;have b3:=h.len3 (show p.2.length<=3 by omega);have b4:=h.readsL;have b5:=hz.st;show x.fam.regs.length+x.fam.start.length+x.fam.buf.length+x.fam.order.length+x.fam.reads.length+((x.fam.kids.map Kd.e).length+((x.fam.kids.map Kd.e).map Wcn).sum)<=3000;rw[Xu];omega
theorem WvI(hp:POk p)(h:ROk p n x)(hz:RZ x):WfL x.e<=4000:=by
 have c:x.cm.puts.length+x.cm.reads.length<=16:=by
  by_cases h5:x.phase=5
  .have:=h.comm h5;have a:=this.plen;have b:=this.rlen;omega
  .rw[hz.cm h5];decide
 have f:Wfg x.fam.e<=3000:=by
  by_cases h2:x.phase=2
  .exact Ww7 hp ((h.live (by omega)).fork h2).2.2 hz
  .rw[hz.fm h2];decide
 have m:WcQ x.marks<=24+4*24:=by
  unfold WcQ;have:=Wlb (z:=WhI) (c:=4) x.marks λz h=>hz.mr z h;have:=hz.ml;omega
 have a1:=hz.rd;have a2:=hz.wr;have a3:=h.ul;have a4:=h.rg;have a5:=h.ord;show x.regs.length+x.reads.length+x.writes.length+WcQ x.marks+x.undos.length+x.order.length+(x.cm.puts.length+x.cm.reads.length)+Wfg x.fam.e<=4000;omega
theorem WuD(h:WOk ps n w)(hn:n<=99000)(hz:WZ w):Whw w.e<=1048576:=by
 have h4:=h.l4;have hl:=h.len;have hr:∀y∈w.roots.map Rt.e,WfL y<=4000:=by
  intro y hy;obtain⟨x,hx,rfl⟩:=Xw.1 hy;have hm:=hz x hx;obtain⟨i,hi,rfl⟩:=Xdt.1 hx;exact WvI (by rw[WD (show i<ps.length by omega)];exact h.progs _ (Xv _)) (h.root i hi) hm
 have hs:=Wlb _ hr;rw[Xu]at hs;have hh:=Wlb (z:=Weo) (c:=8) w.hist λy hy=>(h.histE y hy).1;have h5:=h.hist;have h6:=(WC h.mem).1;have h7:=Wep h.holds;have h8:=h.shelf.slots.len;show w.mem.2.length+w.shelf.1.length+w.holds.length+((w.roots.map Rt.e).length+((w.roots.map Rt.e).map WfL).sum)+(w.hist.length+(w.hist.map Weo).sum)<=1048576;rw[Xu];omega
end
section
def Wb7(s:Sc)(k:Nat):Nat->Nat->Wo->Wo
 |0,_,w=>w
 |d+1,j,w=>Wb7 s k d (j+1) (WmH s w (2,(k:Int),(j:Int)))
def Waq(s:Sc):Nat->Nat->Wo->Wo
 |0,_,w=>w
 |d+1,i,w=>Waq s d (i+1) (Wb7 s i (s.2.1.getD i pg0).2.length 0 (WmH s w (1,(i:Int),0)))
def Wi1(w:Wo):Bool:=w.roots.all λx=>decide (x.phase=8)
def WcH(s:Sc):Nat->Wo->Wo×Nat
 |0,w=>(w,0)
 |d+1,w=>if Wi1 w=true then(w,0)else((WcH s d (Waq s s.2.1.length 0 w)).1,(WcH s d (Waq s s.2.1.length 0 w)).2+1)
variable{s:Sc}{w v:Wo}{n:Int}{k:Nat}{N:Nat}
theorem WgJ:∀(d j:Nat) (n:Int) (w:Wo),WOk s.2.1 n w->WOk s.2.1 (n+d) (Wb7 s k d j w)
 |0,_,n,w,h=>by rw[Wb7];simpa using h
 |d+1,j,n,w,h=>by
  have:=WgJ d (j+1) (n+1) _ (WbX (a:=(2,(k:Int),(j:Int))) h);rw[Wb7,show n+((d+1:Nat):Int)=n+1+(d:Int) by omega];exact this
theorem WvR{R:Type}{rounds:Int}{b1 b2 b3 b4:Int}{kn:Int}{K0:Int->Bool->Int->Int->Int->Int->List Kb->List Int->List Kb->List Y_Root->List Kn->Option R}(hN:1048576<N)(hk:k<s.2.1.length)(h3:s.2.1[k].2.length<=3):
  ∀(d j fuel:Nat) (n:Int) (w:Wo),j+d=s.2.1[k].2.length->d<fuel->WOk s.2.1 n w->n+d<=99999->
  Zfy N rounds (k:Int) s.2.1 kn s b1 b2 b3 b4 K0 fuel (j:Int) w.now w.token w.mem.1 w.shelf.2 w.mem.2 w.shelf.1 w.holds (w.roots.map Rt.e) w.hist=
  K0 (s.2.1[k].2.length:Int) false (Wb7 s k d j w).now (Wb7 s k d j w).token (Wb7 s k d j w).mem.1 (Wb7 s k d j w).shelf.2 (Wb7 s k d j w).mem.2 (Wb7 s k d j w).shelf.1 (Wb7 s k d j w).holds ((Wb7 s k d j w).roots.map Rt.e) (Wb7 s k d j w).hist:=by
 intro d;have gI:Xc s.2.1 (Xa (k:Int)) (([]:List Ka),([]:List Kz))=s.2.1[k]:=Ws hk _
 induction d with
 |zero=>
  intro j fuel n w hj hf hw hn;obtain⟨f,rfl⟩:∃f,fuel=f+1:=⟨fuel-1,by omega⟩;have:decide ((j:Int)<Wg s.2.1[k].2)=false:=Wj (by unfold Wg;omega);simp only[Zfy,Wk,gI,this,Wa,Wb7];rw[show(j:Int)=(s.2.1[k].2.length:Int) by omega]
 |succ d ih=>
  intro j fuel n w hj hf hw hn;obtain⟨f,rfl⟩:∃f,fuel=f+1:=⟨fuel-1,by omega⟩;have:decide ((j:Int)<Wg s.2.1[k].2)=true:=We (by unfold Wg;omega);have hr:=WoA (a:=(2,(k:Int),(j:Int))) hw (by omega) hN;simp only[Zfy,Wk,gI,this,Wb];rw[show((w.now,(w.token,((w.mem.1,w.mem.2),((w.shelf.1,w.shelf.2),(w.holds,(w.roots.map Rt.e,w.hist)))))):Y_World)=w.e from rfl,hr];simp only[Xd,Wm (show j<4611686018427387904 by omega)];rw[Wb7];exact ih (j+1) f (n+1) _ (by omega) (by omega) (WbX hw) (by omega)
theorem pk3(h:WOk s.2.1 n w){i:Nat}(hi:i<s.2.1.length):(s.2.1.getD i pg0).2.length<=3:=(WkK h.progs hi).k3
theorem Wg0:∀(d i:Nat) (n:Int) (w:Wo),i+d=s.2.1.length->WOk s.2.1 n w->∃n',n<=n'/\n'<=n+4*d/\WOk s.2.1 n' (Waq s d i w)
 |0,_,n,w,hi,h=>⟨n,by omega,by omega,by rw[Waq];exact h⟩
 |d+1,i,n,w,hi,h=>by
  have h1:=WgJ (k:=i) (s.2.1.getD i pg0).2.length 0 (n+1) _ (WbX (a:=(1,(i:Int),0)) h);have h3:=pk3 h (i:=i) (by omega);obtain⟨n',a,b,c⟩:=Wg0 d (i+1) _ _ (by omega) h1;exact⟨n',by omega,by omega,by rw[Waq];exact c⟩
theorem Wt5{R:Type}{rounds:Int}{b1 b2 b3 b4:Int}{K0:Int->Bool->Int->Int->Int->Int->List Kb->List Int->List Kb->List Y_Root->List Kn->Option R}(hN:1048576<N)(gY:s.2.1.length<=4):
  ∀(d i fuel:Nat) (n:Int) (w:Wo),i+d=s.2.1.length->d<fuel->WOk s.2.1 n w->n+4*d<=99999->
  Zdm N rounds s.2.1 s b1 b2 b3 b4 K0 fuel (i:Int) w.now w.token w.mem.1 w.shelf.2 w.mem.2 w.shelf.1 w.holds (w.roots.map Rt.e) w.hist=
  K0 (s.2.1.length:Int) false (Waq s d i w).now (Waq s d i w).token (Waq s d i w).mem.1 (Waq s d i w).shelf.2 (Waq s d i w).mem.2 (Waq s d i w).shelf.1 (Waq s d i w).holds ((Waq s d i w).roots.map Rt.e) (Waq s d i w).hist:=by
 intro d
 induction d with
 |zero=>
  intro i fuel n w hi hf hw hn;obtain⟨f,rfl⟩:∃f,fuel=f+1:=⟨fuel-1,by omega⟩;have:i=s.2.1.length:=by omega
  subst this;simp only[Zdm,WS (Xm _),Wa,Waq]
 |succ d ih=>
  intro i fuel n w hi hf hw hn;obtain⟨f,rfl⟩:∃f,fuel=f+1:=⟨fuel-1,by omega⟩;have ac:i<s.2.1.length:=by omega
  have hr:=WoA (a:=(1,(i:Int),0)) hw (by omega) hN;have hg:s.2.1.getD i pg0=s.2.1[i]:=WD ac _;have h3:=pk3 hw ac;rw[hg]at h3;have sq:=WbX (a:=(1,(i:Int),0)) hw;have hk:=WvR (R:=R) (rounds:=rounds) (b1:=b1) (b2:=b2) (b3:=b3) (b4:=b4) (kn:=Wg s.2.1)
   (K0:=λrG rH lw lx ly lz lA lB lC lD lE=>(Zdm N rounds s.2.1 s b1 b2 b3 b4 K0 f (Wh .i64 (i:Int) (1:Int)) lw lx ly lz lA lB lC lD lE)) hN ac h3 s.2.1[i].2.length 0 N (n+1) _ (by omega) (by omega) sq (by omega)
  have bI:=WgJ (k:=i) s.2.1[i].2.length 0 (n+1) _ sq;simp only[Zdm,WK ac,Ww ac,Wb];rw[show((w.now,(w.token,((w.mem.1,w.mem.2),((w.shelf.1,w.shelf.2),(w.holds,(w.roots.map Rt.e,w.hist)))))):Y_World)=w.e from rfl,hr];simp only[Xd];refine hk.trans ?_;simp only[Wm (show i<4611686018427387904 by omega)];rw[Waq,hg];exact ih (i+1) f _ _ (by omega) (by omega) bI (by omega)
theorem WpS(hl:w.roots.length<=4)(hN:1048576<N):Zsf N w.e=ret (Wi1 w):=by
 unfold Zsf Zaf Zt;have e1:w.e.2.2.2.2.2.1=w.roots.map Rt.e:=rfl;rw[e1];have hb:(w.roots.map Rt.e).length<=4:=by simpa using hl
 have h1:=Wx (l:=w.roots.map Rt.e) (V:=Unit) (R:=Unit×Kh) (lp:=λn j _=>Zg N (w.roots.map Rt.e) (λaq=>(some ((),(aq,())))) (λax be=>(some ((),((-1:Int),())))) n j) (n:=N) (by omega)
  (body:=λj x v k=>bif (x.1 !=8)then some ((),(j,()))else k v) (K:=λ_ v=>some ((),((-1:Int),())))
  (λn i u hi=>by
   simp only[Zg,Zsm,WK hi,Ww hi,Ws hi,Wm (show i<4611686018427387904 by omega),Wb,Xd])
  (λn u=>by simp only[Zg,WS (Xm _),Wa]) ()
 have h2:∀(l:List Y_Root) (j:Nat),∃r:Int,Wbm (λ(j:Int) (x:Y_Root) (v:Unit) (k:Unit->Option Ks)=>bif (x.1 !=8)then some ((),(j,()))else k v) (λ_ v=>some ((),((-1:Int),()))) l j ()=some ((),(r,()))/\(decide (r>=0)= !(l.all λx=>x.1==8)):=λl=>by
  induction l with
  |nil=>intro j;exact⟨-1,rfl,rfl⟩
  |cons x l ih=>
   intro j;rw[Wbm];cases hx:x.1==8 with
   |true=>
    have:(x.1 !=8)=false:=by rw[bne,hx];rfl
    simp only[this,Wa];obtain⟨r,a,b⟩:=ih (j+1);exact⟨r,a,by rw[b,Xbr,hx];rfl⟩
   |false=>
    have:(x.1 !=8)=true:=by rw[bne,hx];rfl
    simp only[this,Wb];exact⟨j,rfl,by rw[Xbr,hx];simp⟩
 obtain⟨r,a,b⟩:=h2 (w.roots.map Rt.e) 0;rw[h1.trans a];simp only[Xd,b,Bool.not_not];have:((w.roots.map Rt.e).all λx=>x.1==8)=Wi1 w:=by
  unfold Wi1;rw[List.all_map];congr 1
 rw[this]
theorem Wup{R:Type}{K0:Int->Bool->Int->Int->Int->Int->List Kb->List Int->List Kb->List Y_Root->List Kn->Option R}(hN:1048576<N)(gY:s.2.1.length<=4):
  ∀(d r fuel:Nat) (n:Int) (w:Wo),r+d=6000->d<fuel->WOk s.2.1 n w->n+16*d<=99999->
  Zdn N s K0 fuel (r:Int) w.now w.token w.mem.1 w.shelf.2 w.mem.2 w.shelf.1 w.holds (w.roots.map Rt.e) w.hist=
  (λv:Wo×Nat=>K0 ((r+v.2:Nat):Int) false v.1.now v.1.token v.1.mem.1 v.1.shelf.2 v.1.mem.2 v.1.shelf.1 v.1.holds (v.1.roots.map Rt.e) v.1.hist) (WcH s d w):=by
 intro d
 induction d with
 |zero=>
  intro r fuel n w hr hf hw hn;obtain⟨f,rfl⟩:∃f,fuel=f+1:=⟨fuel-1,by omega⟩;have hl:w.roots.length<=4:=by rw[hw.len];exact gY
  simp only[Zdn];rw[show((w.now,(w.token,((w.mem.1,w.mem.2),((w.shelf.1,w.shelf.2),(w.holds,(w.roots.map Rt.e,w.hist)))))):Y_World)=w.e from rfl,WpS hl hN];have h6:decide ((r:Int)<6000)=false:=Wj (by omega);simp only[ret,Xd,h6,Wa,WcH,Xbb];cases Wi1 w<;>rfl
 |succ d ih=>
  intro r fuel n w hr hf hw hn;obtain⟨f,rfl⟩:∃f,fuel=f+1:=⟨fuel-1,by omega⟩;have hl:w.roots.length<=4:=by rw[hw.len];exact gY
  simp only[Zdn];rw[show((w.now,(w.token,((w.mem.1,w.mem.2),((w.shelf.1,w.shelf.2),(w.holds,(w.roots.map Rt.e,w.hist)))))):Y_World)=w.e from rfl,WpS hl hN];have h6:decide ((r:Int)<6000)=true:=We (by omega);simp only[ret,Xd,h6,Wb,WcH];cases ho:Wi1 w with
  |true=>rfl
  |false=>
   simp only[Xbl,Wb,Xai,W7];obtain⟨n',a,b,c⟩:=Wg0 s.2.1.length 0 n w (by omega) hw;have fD:=Wt5 (s:=s) (R:=R) (rounds:=Wh .i64 (r:Int) 1) (b1:=0) (b2:=0) (b3:=0) (b4:=0)
    (K0:=λrI rJ lF lG lH lI lJ lK lL lM lN=>(Zdn N s K0 f (Wh .i64 (r:Int) (1:Int)) lF lG lH lI lJ lK lL lM lN)) hN gY s.2.1.length 0 N n w (by omega) (by omega) hw (by omega)
   refine fD.trans ?_;simp only[Wm (show r<4611686018427387904 by omega)];rw[ih (r+1) f n' _ (by omega) (by omega) c (by omega)];simp only[show r+1+(WcH s d (Waq s s.2.1.length 0 w)).2=r+((WcH s d (Waq s s.2.1.length 0 w)).2+1) by omega]
theorem WuI{R:Type}{rounds:Int}{b1 b2 b3 b4:Int}{K0:Int->Bool->Int->Int->Int->Int->List Kb->List Int->List Kb->List Y_Root->List Kn->Option R}(hN:1048576<N)(hk:k<s.2.1.length)(h3:s.2.1[k].2.length<=3):
  ∀(d j fuel:Nat) (n:Int) (w:Wo),j+d=s.2.1[k].2.length->d<fuel->WOk s.2.1 n w->n+d<=99999->
  Zfx N rounds (k:Int) s b1 b2 b3 b4 K0 fuel (j:Int) w.now w.token w.mem.1 w.shelf.2 w.mem.2 w.shelf.1 w.holds (w.roots.map Rt.e) w.hist=
  K0 (s.2.1[k].2.length:Int) false (Wb7 s k d j w).now (Wb7 s k d j w).token (Wb7 s k d j w).mem.1 (Wb7 s k d j w).shelf.2 (Wb7 s k d j w).mem.2 (Wb7 s k d j w).shelf.1 (Wb7 s k d j w).holds ((Wb7 s k d j w).roots.map Rt.e) (Wb7 s k d j w).hist:=by
 intro d;have gI:Xc s.2.1 (Xa (k:Int)) (([]:List Ka),([]:List Kz))=s.2.1[k]:=Ws hk _
 induction d with
 |zero=>
  intro j fuel n w hj hf hw hn;obtain⟨f,rfl⟩:∃f,fuel=f+1:=⟨fuel-1,by omega⟩;have:decide ((j:Int)<Wg s.2.1[k].2)=false:=Wj (by unfold Wg;omega);simp only[Zfx,Ww hk,Wk,gI,this,Wb,Wa,Wb7];rw[show(j:Int)=(s.2.1[k].2.length:Int) by omega]
 |succ d ih=>
  intro j fuel n w hj hf hw hn;obtain⟨f,rfl⟩:∃f,fuel=f+1:=⟨fuel-1,by omega⟩;have:decide ((j:Int)<Wg s.2.1[k].2)=true:=We (by unfold Wg;omega);have hr:Ze9 N w.e s (2,(k:Int),(j:Int))=ret (WmH s w (2,(k:Int),(j:Int))).e:=Woy hw (by omega) hN;simp only[Zfx,Ww hk,Wk,gI,this,Wb];rw[show((w.now,(w.token,((w.mem.1,w.mem.2),((w.shelf.1,w.shelf.2),(w.holds,(w.roots.map Rt.e,w.hist)))))):Y_World)=w.e from rfl,hr];simp only[ret,Xd,Wm (show j<4611686018427387904 by omega)];rw[Wb7];exact ih (j+1) f (n+1) _ (by omega) (by omega) (WbX hw) (by omega)
theorem WrW{R:Type}{rounds:Int}{b1 b2 b3 b4:Int}{K0:Int->Bool->Int->Int->Int->Int->List Kb->List Int->List Kb->List Y_Root->List Kn->Option R}(hN:1048576<N)(gY:s.2.1.length<=4):
  ∀(d i fuel:Nat) (n:Int) (w:Wo),i+d=s.2.1.length->d<fuel->WOk s.2.1 n w->n+4*d<=99999->
  Zdk N rounds s b1 b2 b3 b4 K0 fuel (i:Int) w.now w.token w.mem.1 w.shelf.2 w.mem.2 w.shelf.1 w.holds (w.roots.map Rt.e) w.hist=
  K0 (s.2.1.length:Int) false (Waq s d i w).now (Waq s d i w).token (Waq s d i w).mem.1 (Waq s d i w).shelf.2 (Waq s d i w).mem.2 (Waq s d i w).shelf.1 (Waq s d i w).holds ((Waq s d i w).roots.map Rt.e) (Waq s d i w).hist:=by
 intro d
 induction d with
 |zero=>
  intro i fuel n w hi hf hw hn;obtain⟨f,rfl⟩:∃f,fuel=f+1:=⟨fuel-1,by omega⟩;have:i=s.2.1.length:=by omega
  subst this;simp only[Zdk,WS (Xm _),Wa,Waq]
 |succ d ih=>
  intro i fuel n w hi hf hw hn;obtain⟨f,rfl⟩:∃f,fuel=f+1:=⟨fuel-1,by omega⟩;have ac:i<s.2.1.length:=by omega
  have hr:Ze9 N w.e s (1,(i:Int),0)=ret (WmH s w (1,(i:Int),0)).e:=Woy hw (by omega) hN;have hg:s.2.1.getD i pg0=s.2.1[i]:=WD ac _;have h3:=pk3 hw ac;rw[hg]at h3;have sq:=WbX (a:=(1,(i:Int),0)) hw;have hk:=WuI (R:=R) (rounds:=rounds) (b1:=b1) (b2:=b2) (b3:=b3) (b4:=b4)
   (K0:=λrG rH lw lx ly lz lA lB lC lD lE=>(Zdk N rounds s b1 b2 b3 b4 K0 f (Wh .i64 (i:Int) (1:Int)) lw lx ly lz lA lB lC lD lE)) hN ac h3 s.2.1[i].2.length 0 N (n+1) _ (by omega) (by omega) sq (by omega)
  have bI:=WgJ (k:=i) s.2.1[i].2.length 0 (n+1) _ sq;simp only[Zdk,WK ac,Wb];rw[show((w.now,(w.token,((w.mem.1,w.mem.2),((w.shelf.1,w.shelf.2),(w.holds,(w.roots.map Rt.e,w.hist)))))):Y_World)=w.e from rfl,hr];simp only[ret,Xd];refine hk.trans ?_;simp only[Wm (show i<4611686018427387904 by omega)];rw[Waq,hg];exact ih (i+1) f _ _ (by omega) (by omega) bI (by omega)
theorem WnG(hl:w.roots.length<=4)(hN:1048576<N):Zod N w.e=ret (Wi1 w):=by
 unfold Zod;have e1:w.e.2.2.2.2.2.1=w.roots.map Rt.e:=rfl;have hb:(w.roots.map Rt.e).length<=4:=by simpa using hl
 have h1:=Wx (l:=w.roots.map Rt.e) (V:=Unit) (R:=Unit×Ko) (lp:=λn j _=>Zgv N w.e (some ((),(false,()))) (λi6 t7=>(some ((),(true,())))) n j) (n:=N) (by omega)
  (body:=λj x v k=>bif (x.1 !=8)then some ((),(false,()))else k v) (K:=λ_ v=>some ((),(true,())))
  (λn i u hi=>by simp only[Zgv,e1,WK hi,Ww hi,Ws hi,Wm (show i<4611686018427387904 by omega),Wb])
  (λn u=>by simp only[Zgv,e1,WS (Xm _),Wa]) ()
 have h2:∀(l:List Y_Root) (j:Nat),Wbm (λ(j:Int) (x:Y_Root) (v:Unit) (k:Unit->Option Ke)=>bif (x.1 !=8)then some ((),(false,()))else k v) (λ_ v=>some ((),(true,()))) l j ()=some ((),(l.all λx=>x.1==8,())):=λl=>by
  induction l with
  |nil=>intro j;rfl
  |cons x l ih=>
   intro j;rw[Wbm,Xbr];cases hx:x.1==8 with
   |true=>
    have:(x.1 !=8)=false:=by rw[bne,hx];rfl
    simp only[this,Wa,Bool.true_and];exact ih (j+1)
   |false=>
    have:(x.1 !=8)=true:=by rw[bne,hx];rfl
    simp only[this,Wb,Bool.false_and]
 refine h1.trans ((h2 (w.roots.map Rt.e) 0).trans ?_);have:((w.roots.map Rt.e).all λx=>x.1==8)=Wi1 w:=by
  unfold Wi1;rw[List.all_map];congr 1
 rw[this]
theorem WrZ{R:Type}{K0:Int->Bool->Int->Int->Int->Int->List Kb->List Int->List Kb->List Y_Root->List Kn->Option R}(hN:1048576<N)(gY:s.2.1.length<=4):
  ∀(d r fuel:Nat) (n:Int) (w:Wo),r+d=6000->d<fuel->WOk s.2.1 n w->n+16*d<=99999->
  Zdl N s K0 fuel (r:Int) w.now w.token w.mem.1 w.shelf.2 w.mem.2 w.shelf.1 w.holds (w.roots.map Rt.e) w.hist=
  (λv:Wo×Nat=>K0 ((r+v.2:Nat):Int) false v.1.now v.1.token v.1.mem.1 v.1.shelf.2 v.1.mem.2 v.1.shelf.1 v.1.holds (v.1.roots.map Rt.e) v.1.hist) (WcH s d w):=by
 intro d
 induction d with
 |zero=>
  intro r fuel n w hr hf hw hn;obtain⟨f,rfl⟩:∃f,fuel=f+1:=⟨fuel-1,by omega⟩;have hl:w.roots.length<=4:=by rw[hw.len];exact gY
  simp only[Zdl];rw[show((w.now,(w.token,((w.mem.1,w.mem.2),((w.shelf.1,w.shelf.2),(w.holds,(w.roots.map Rt.e,w.hist)))))):Y_World)=w.e from rfl,WnG hl hN];have h6:decide ((r:Int)<6000)=false:=Wj (by omega);simp only[ret,Xd,h6,Wa,WcH,Xbb];cases Wi1 w<;>rfl
 |succ d ih=>
  intro r fuel n w hr hf hw hn;obtain⟨f,rfl⟩:∃f,fuel=f+1:=⟨fuel-1,by omega⟩;have hl:w.roots.length<=4:=by rw[hw.len];exact gY
  simp only[Zdl];rw[show((w.now,(w.token,((w.mem.1,w.mem.2),((w.shelf.1,w.shelf.2),(w.holds,(w.roots.map Rt.e,w.hist)))))):Y_World)=w.e from rfl,WnG hl hN];have h6:decide ((r:Int)<6000)=true:=We (by omega);simp only[ret,Xd,h6,Wb,WcH];cases ho:Wi1 w with
  |true=>rfl
  |false=>
   simp only[Xbl,Wb,Xai,W7];obtain⟨n',a,b,c⟩:=Wg0 s.2.1.length 0 n w (by omega) hw;have fD:=WrW (s:=s) (R:=R) (rounds:=(r:Int)) (b1:=0) (b2:=0) (b3:=0) (b4:=0)
    (K0:=λrI rJ lF lG lH lI lJ lK lL lM lN=>(Zdl N s K0 f (Wh .i64 (r:Int) (1:Int)) lF lG lH lI lJ lK lL lM lN)) hN gY s.2.1.length 0 N n w (by omega) (by omega) hw (by omega)
   refine fD.trans ?_;simp only[Wm (show r<4611686018427387904 by omega)];rw[ih (r+1) f n' _ (by omega) (by omega) c (by omega)];simp only[show r+1+(WcH s d (Waq s s.2.1.length 0 w)).2=r+((WcH s d (Waq s s.2.1.length 0 w)).2+1) by omega]
noncomputable def dr(s:Sc):Y_World×Int:=if Wom s=true then((WcH s 6000 (Wpl s)).1.e,((WcH s 6000 (Wpl s)).2:Int))else(d_World,0)
theorem WrD(hb:SB s)(hN:1048576<N):Zkj N s=some ((),((dr s).1,((dr s).2,()))):=by
 unfold Zkj;rw[WfQ hb hN,Wtn hb hN];unfold dr;simp only[ret,Xd];cases bI:Wom s with
 |false=>rfl
 |true=>
  obtain⟨h1,h2,h3,h4⟩:=Wf8 bI;have hW:=WpW bI;simp only[Xk,Wa,W4];have:=Wup (s:=s) (N:=N) (K0:=λcX rK lO lP lQ lR lS lT lU lV lW=>(some ((),((lO,(lP,((lQ,lS),((lT,lR),(lU,(lV,lW)))))),(cX,()))):Option (Unit×(Y_World×Kh)))) hN (by omega) 6000 0 N _ (Wpl s) (by omega) (by omega) hW (by omega);refine this.trans ?_;simp only[Xau];rfl
theorem Wsd(hb:SB s)(hN:1048576<N):Zm1 N s=some ((),((dr s).1,((dr s).2,()))):=by
 unfold Zm1;rw[Wuw hb hN];unfold dr;simp only[ret,Xd];cases bI:Wom s with
 |false=>
  simp only[Xai,W7];obtain⟨N,rfl⟩:∃m,N=m+1:=⟨N-1,by omega⟩;rfl
 |true=>
  obtain⟨h1,h2,h3,h4⟩:=Wf8 bI;have hW:=WpW bI;simp only[W4];have:=WrZ (s:=s) (N:=N) (K0:=λcX rK lO lP lQ lR lS lT lU lV lW=>(some ((),((lO,(lP,((lQ,lS),((lT,lR),(lU,(lV,lW)))))),(cX,()))):Option (Unit×(Y_World×Kh)))) hN (by omega) 6000 0 N _ (Wpl s) (by omega) (by omega) hW (by omega);refine this.trans ?_;simp only[Xau];rfl
theorem Wp6:∀(d j:Nat) (n:Int) (w:Wo),WOk s.2.1 n w->WZ w->WZ (Wb7 s k d j w)
 |0,_,_,_,_,h=>h
 |d+1,j,n,w,h,hz=>Wp6 d (j+1) (n+1) _ (WbX h) (Wpr h hz)
theorem WnA:∀(d i:Nat) (n:Int) (w:Wo),i+d=s.2.1.length->WOk s.2.1 n w->WZ w->WZ (Waq s d i w)
 |0,_,_,_,_,_,h=>h
 |d+1,i,n,w,hi,h,hz=>WnA d (i+1) _ _ (by omega) (WgJ _ _ _ _ (WbX h)) (Wp6 _ _ _ _ (WbX h) (Wpr h hz))
theorem Wm1(h4:s.2.1.length<=4):∀(d:Nat) (n:Int) (w:Wo),WOk s.2.1 n w->WZ w->∃n',n'<=n+16*d/\WOk s.2.1 n' (WcH s d w).1/\WZ (WcH s d w).1
 |0,n,w,h,hz=>⟨n,by omega,h,hz⟩
 |d+1,n,w,h,hz=>by
  unfold WcH;split
  .exact⟨n,by omega,h,hz⟩
  .obtain⟨n1,a,b,c⟩:=Wg0 s.2.1.length 0 n w (by omega) h;obtain⟨n2,p,q,r⟩:=Wm1 h4 d n1 _ c (WnA _ _ _ _ (by omega) h hz);exact⟨n2,by omega,q,r⟩
theorem Wxx:Whw (dr s).1<=1048576:=by
 unfold dr;split
 .rename_i hs;obtain⟨h1,h2,h3,h4⟩:=Wf8 hs;obtain⟨n,a,b,c⟩:=Wm1 (s:=s) (by omega) 6000 _ _ (WoC s.2.2 0 _ (WiM hs)) (WrU s.2.2 0 _ (WiM hs) Wvw);exact WuD b (by omega) c
 .decide
end
section
theorem WqK{P:Kb->Prop}:Woo Wh7 wWd P Ziu:=by
 intro N l k hN hl hP h0 h1;unfold Ziu;have h:=Wfy (mk:=Wh7) (w:=wWd) (P:=λ_=>True) (lp:=λn k i l=>Zcz N (λk10 bp ax aG=>(some ((aG,()),(k10,())))) n k i l) (K0:=λk10 bp ax aG=>(some ((aG,()),(k10,())))) WmQ
  (λn k p x l _ h0 h1 h2=>by
   unfold wWd at h1;simp(disch:=omega) only[Zcz,Wk,WaY,Waf,WbK,Wai,Wb,ia1,wWd,Wh7]
   try rw[show k+3=k+1+1+1 by omega])
  (λn k l=>by simp only[Zcz,WaW,Wa]) l [] N k (λ_ _=>trivial) (by omega) (by simpa using hl) h0 h1
 simpa using h
abbrev PgT:=List Ka×List Kz
def WxY(x:PgT)(k:Int):PgT:=(mkL WwK wOp x.1 k,mkL Wxy wKd x.2 (k+wL wOp x.1))
def wPg(x:PgT):Int:=wL wOp x.1+wL wKd x.2
theorem Ww6(x:PgT):0<=wPg x:=by
 have:=Wdi WtP x.1;have:=Wdi WvT x.2;unfold wPg;omega
def WxI(x:PgT):Prop:=Sm x.1/\Sm x.2/\∀y∈x.2,Sm y
theorem WrK:Woo WxY wPg WxI Zh2:=by
 intro N l k hN hl hP h0 h1;unfold Zh2;have h:=Wfy (mk:=WxY) (w:=wPg) (P:=WxI) (lp:=λn k i l=>Zca N (λk10 bp ax aG=>(some ((aG,()),(k10,())))) n k i l) (K0:=λk10 bp ax aG=>(some ((aG,()),(k10,())))) Ww6
  (λn k p x l hx h0 h1 h2=>by
   have hw:=Wdi WtP x.1;have Ak:=Wdi WvT x.2;unfold wPg at h1;simp(disch:=omega) only[Zca,Wk,WaY,Waf,WbK,Wai,Wb,nbq,Xdx,ia1];rw[WkW (P:=λ_=>True) hN hx.1 (λ_ _=>trivial) h0 (by omega),Xd,WqA hN hx.2.1 hx.2.2 (by dsimp only;omega) (by dsimp only;omega)];simp only[Xd,wPg];rw[show k+wL wOp x.1+wL wKd x.2=k+(wL wOp x.1+wL wKd x.2) by omega];rfl)
  (λn k l=>by simp only[Zca,WaW,Wa]) l [] N k hP (by omega) (by simpa using hl) h0 h1
 simpa using h
theorem Wwo:∀l:List Int,wL wI l=l.length
 | []=>rfl
 |x::l=>by rw[wL,Wwo l,Xr];unfold wI;omega
theorem WsE:∀l:List Ka,wL wOp l=4*l.length
 | []=>rfl
 |x::l=>by rw[wL,WsE l,Xr];unfold wOp;omega
theorem Wvl:∀l:List Kb,wL wWd l=3*l.length
 | []=>rfl
 |x::l=>by rw[wL,Wvl l,Xr];unfold wWd;omega
theorem Wva:∀l:List Kz,wL wKd l<=4*WbO l
 | []=>by simp[wL,WbO]
 |x::l=>by
  have:=Wva l;rw[wL];unfold WbO at*;simp only[Xr,Xaf,Xcn];have hx:Wfz x=x.length:=rfl;have hy:wKd x=4*x.length:=WsE x;omega
theorem Wu6:∀l:List PgT,wL wPg l<=4*Wa2 l
 | []=>by simp[wL,Wa2]
 |x::l=>by
  have:=Wu6 l;have h1:=Wva x.2;rw[wL];unfold Wa2 at*;simp only[Xr,Xaf,Xcn];have hy:wPg x=4*x.1.length+wL wKd x.2:=by unfold wPg;rw[WsE]
  have hx:WcR x=x.1.length+WbO x.2:=rfl;omega
theorem WjU{N:Nat}{s:Kg×List PgT×List Kb}(hN:1600000<N)(h:Wbz s<=1048576):∃s' k,Zme N s 1=some ((s',()),(k,()))/\0<=k:=by
 unfold Wbz Wbj WaA WdP at h;have c1:=Wwo s.1.1;have c2:=Wwo s.1.2.1;have c3:=Wu6 s.2.1;have d3:=Wdi Ww6 s.2.1;have c4:=Wvl s.2.2;have l3:s.2.1.length<=Wa2 s.2.1:=Weh;have s3:∀x∈s.2.1,WxI x:=λx hx=>by
  have hm:=Wec hx;unfold WcR WeO at hm;have lk:x.2.length<=WbO x.2:=Wfo;refine⟨by show x.1.length<=1500000;omega,by show x.2.length<=1500000;omega,λy hy=>?_⟩;have:=Wfv hy;unfold Wfz WeO at this;show y.length<=1500000;omega
 unfold Zme Zp8;rw[Wan (P:=λ_=>True) hN (by omega) (λ_ _=>trivial) (by omega) (by omega),Xd,
   Wan (P:=λ_=>True) hN (by omega) (λ_ _=>trivial) (by dsimp only;omega) (by dsimp only;omega),Xd,Xd,
   WrK hN (by omega) s3 (by dsimp only;omega) (by dsimp only;omega),Xd,
   WqK (P:=λ_=>True) hN (by omega) (λ_ _=>trivial) (by dsimp only;omega) (by dsimp only;omega),Xd]
 refine⟨_,_,rfl,?_⟩;dsimp only;omega
end
section
variable{N:Nat}{s:Sc}
theorem WsI(hN:1600000<N)(hw:Wfd (.prod (.prod (.slice (.int .i64)) (.prod (.slice (.int .i64)) (.int .i64))) (.prod (.slice (.prod (.slice (.prod (.int .i64) (.prod (.int .i64) (.prod (.int .i64) (.int .i64))))) (.slice (.slice (.prod (.int .i64) (.prod (.int .i64) (.prod (.int .i64) (.int .i64)))))))) (.slice (.prod (.int .i64) (.prod (.int .i64) (.int .i64)))))) s):Zhp N s=some ((),(true,())):=by
 unfold Zhp;have hN':1048576<N:=by omega
 rw[WrF hN' (by omega) (by omega) hw];simp only[ret,Xd];by_cases hz:(1048576:Int)<(Wbz s:Int)
 .rw[Wf hz];rfl
 .rw[Wc hz,lt0 (by omega),Wa];have nY:Wbz s<=1048576:=by omega
  have hb:SB s:=by
   unfold Wbz Wbj WaA WdP at nY;have l4:s.2.1.length<=Wa2 s.2.1:=Weh;refine⟨by omega,by omega,by omega,λp hp=>?_,by omega⟩;have h1:=Wec hp;unfold WcR WeO at h1;have h2:p.2.length<=WbO p.2:=Wfo;refine⟨by omega,by omega,λc hc=>?_⟩;have h3:=Wfv hc;unfold Wfz WeO at h3;omega
  have gy:=Wsd hb hN';have wN:=WrD hb hN';obtain⟨s',k,hm,AF⟩:=WjU hN nY;have wO:=Wxx (s:=s);generalize (dr s).1=v at gy wN wO;generalize (dr s).2=r at gy wN;obtain⟨v0,y,v1,v2⟩:=WqB hN wO;rw[Wre nY hN'];simp only[ret,Xd,gy,wN];rw[Wwu hN' wO,WtL hN' nY];simp only[ret,Xd,Xk,Wa,WA];rw[hm];simp only[Xd,lt0 AF,Wa];rw[v1];simp only[Xd];rw[v2];simp only[ret,Xd];rw[lt0 (by omega),Wa,WA];rfl
theorem law_FnExactDrain(d:WfJ [.v (.prod (.prod (.slice (.int .i64)) (.prod (.slice (.int .i64)) (.int .i64))) (.prod (.slice (.prod (.slice (.prod (.int .i64) (.prod (.int .i64) (.prod (.int .i64) (.int .i64))))) (.slice (.slice (.prod (.int .i64) (.prod (.int .i64) (.prod (.int .i64) (.int .i64)))))))) (.slice (.prod (.int .i64) (.prod (.int .i64) (.int .i64)))))) false])(hw:Wp0 [.v (.prod (.prod (.slice (.int .i64)) (.prod (.slice (.int .i64)) (.int .i64))) (.prod (.slice (.prod (.slice (.prod (.int .i64) (.prod (.int .i64) (.prod (.int .i64) (.int .i64))))) (.slice (.slice (.prod (.int .i64) (.prod (.int .i64) (.prod (.int .i64) (.int .i64)))))))) (.slice (.prod (.int .i64) (.prod (.int .i64) (.int .i64)))))) false] d):∃N o,Zhp N d.1=some (o,(true,())):=
 ⟨1600001,(),WsI (N:=1600001) (by omega) hw.1⟩
end
end Go.Sx
