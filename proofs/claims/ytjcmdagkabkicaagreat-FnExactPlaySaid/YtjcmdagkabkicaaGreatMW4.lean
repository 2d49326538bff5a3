/- Plain laws of the Lean functions. -/
import Derived.Test.YtjcmdagkabkicaaGreatMW3
open Int renaming toNat→Xa
open List renaming length_cons→Xr,mem_cons_self→Xj,mem_cons_of_mem→Xf,length_append→Xaa,length_nil→Xby,getElem_mem→Xv,map_cons→Xaf,sum_cons→Xcn,mem_map→Xw,mem_iff_getElem→Xdt,length_map→Xu
open Option renaming bind_some→Xd
open Bool renaming and_true→Xdx,not_true→Xk
open Nat renaming le_trans→Xak
namespace Go.Sx
set_option linter.unusedVariables false
set_option linter.unusedSimpArgs false
section
def mkL{α:Type}(mk:α->Int->α)(w:α->Int):List α->Int->List α
 | [],_=>[]
 |x::l,k=>mk x k::mkL mk w l (k+w x)
def wL{α:Type}(w:α->Int):List α->Int
 | []=>0
 |x::l=>w x+wL w l
theorem Wde{α:Type}{w:α->Int}(h:∀x,0<=w x):∀l:List α,0<=wL w l
 | []=>Int.le_refl _
 |x::l=>by rw[wL];have:=h x;have:=Wde h l;omega
theorem Wah{α:Type}(p:List α)(x:α)(l:List α)(d:α):List.getD (p++x::l) (Xa (p.length:Int)) d=x:=by simp
theorem Wbz{α:Type}(p:List α)(x y:α)(l:List α):List.set (p++x::l) (Xa (p.length:Int)) y=p++y::l:=by simp
theorem Wag{α:Type}(p:List α)(x:α)(l:List α):inb (p.length:Int) (p++x::l).length=true:=by unfold inb;simp;omega
theorem WaU{α:Type}(p:List α)(x:α)(l:List α):decide ((p.length:Int)<Wg (p++x::l))=true:=by unfold Wg;simp;omega
theorem WaY{α:Type}(l:List α):decide ((l.length:Int)<Wg l)=false:=Wk (by unfold Wg;omega)
theorem Wfu{α R:Type}{mk:α->Int->α}{w:α->Int}{P:α->Prop}{lp:Nat->Int->Int->List α->Option R}{K0:Int->Int->Bool->List α->Option R}(hw:∀x,0<=w x)
  (dJ:∀(n:Nat) (k:Int) (p:List α) (x:α) (l:List α),P x->0<=k->k+w x<=1000000000->(p.length:Int)+1<=2000000->lp (n+1) k (p.length:Int) (p++x::l)=lp n (k+w x) ((p.length:Int)+1) (p++mk x k::l))
  (kP:∀(n:Nat) (k:Int) (l:List α),lp (n+1) k (l.length:Int) l=K0 k (l.length:Int) false l):
  ∀(l p:List α) (n:Nat) (k:Int),(∀x∈l,P x)->l.length<n->p.length+l.length<=1500000->0<=k->k+wL w l<=1000000000->lp n k (p.length:Int) (p++l)=K0 (k+wL w l) ((p.length:Int)+l.length) false (p++mkL mk w l k)
 | [],p,n,k,_,hn,_,_,_=>by
  obtain⟨n,rfl⟩:∃n',n=n'+1:=⟨n-1,by omega⟩;rw[List.append_nil,kP];simp[wL,mkL]
 |x::l,p,n,k,hP,hn,hl,h0,h1=>by
  obtain⟨n,rfl⟩:∃n',n=n'+1:=⟨n-1,by omega⟩;simp only[Xr]at hn hl;rw[wL]at h1;have xY:=hw x;have kJ:=Wde hw l;rw[dJ n k p x l (hP x (Xj ..)) h0 (by omega) (by omega)];have ih:=Wfu hw dJ kP l (p++ [mk x k]) n (k+w x) (λy hy=>hP y (Xf _ hy)) (by omega) (by simp;omega) (by omega) (by omega);simp only[Xaa,Xr,Xby,List.append_assoc,List.cons_append,List.nil_append]at ih
  push_cast at ih
  rw[ih,wL,mkL,Xr]
  push_cast
  rw[show k+w x+wL w l=k+(w x+wL w l) by omega,show(p.length:Int)+1+(l.length:Int)=(p.length:Int)+((l.length:Int)+1) by omega]
theorem WhZ{α R:Type}{mk:α->Int->α}{w:α->Int}{P:α->Prop}{a:List α}{lp:Nat->Int->Int->Option R}{K1:Int->Int->Bool->Option R}(hw:∀x,0<=w x)
  (dJ:∀(n:Nat) (k:Int) (p:List α) (x:α) (l:List α),a=p++mk x k::l->P x->0<=k->k+w x<=1000000000->(p.length:Int)+1<=2000000->lp (n+1) k (p.length:Int)=lp n (k+w x) ((p.length:Int)+1))
  (kP:∀(n:Nat) (k:Int),lp (n+1) k (a.length:Int)=K1 k (a.length:Int) false):
  ∀(l p:List α) (n:Nat) (k:Int),a=p++mkL mk w l k->(∀x∈l,P x)->l.length<n->p.length+l.length<=1500000->0<=k->k+wL w l<=1000000000->lp n k (p.length:Int)=K1 (k+wL w l) (a.length:Int) false
 | [],p,n,k,ha,_,hn,_,_,_=>by
  obtain⟨n,rfl⟩:∃n',n=n'+1:=⟨n-1,by omega⟩;have e:p=a:=by rw[ha];simp[mkL]
  rw[e,kP];simp[wL]
 |x::l,p,n,k,ha,hP,hn,hl,h0,h1=>by
  obtain⟨n,rfl⟩:∃n',n=n'+1:=⟨n-1,by omega⟩;simp only[Xr]at hn hl;rw[wL]at h1;have xY:=hw x;have kJ:=Wde hw l;rw[mkL]at ha;rw[dJ n k p x _ ha (hP x (Xj ..)) h0 (by omega) (by omega)];have ih:=WhZ hw dJ kP l (p++ [mk x k]) n (k+w x) (by rw[ha];simp) (λy hy=>hP y (Xf _ hy)) (by omega) (by simp;omega) (by omega) (by omega);simp only[Xaa,Xr,Xby]at ih
  push_cast at ih
  rw[ih,wL,show k+w x+wL w l=k+(w x+wL w l) by omega]
theorem ia1{a:Int}(h:0<=a)(h':a<=1000000100):Wh .i64 a 1=a+1:=WJ (by unfold I64;omega)
theorem WB(x:Int):(x !=x)=false:=by simp
theorem lt0{a:Int}(h:0<=a):decide (a<0)=false:=Wk (by omega)
def Wod{α:Type}(mk:α->Int->α)(w:α->Int)(P:α->Prop)(T:Nat->List α->Int->Option ((List α×Unit)×Kh)):Prop:=
 ∀{N:Nat} {l:List α} {k:Int},1600000<N->l.length<=1500000->(∀x∈l,P x)->0<=k->k+wL w l<=1000000000->T N l k=some ((mkL mk w l k,()),(k+wL w l,()))
def WrA{α:Type}(mk:α->Int->α)(w:α->Int)(P:α->Prop)(T:Nat->List α->Int->Option Ks):Prop:=
 ∀{N:Nat} {l:List α} {k:Int},1600000<N->l.length<=1500000->(∀x∈l,P x)->0<=k->k+wL w l<=1000000000->T N (mkL mk w l k) k=ret (k+wL w l)
def mkI(_:Int)(k:Int):Int:=k
def wI(_:Int):Int:=1
theorem Wob(x:Int):0<=wI x:=by unfold wI;omega
theorem Wam{P:Int->Prop}:Wod mkI wI P Z5:=by
 intro N l k hN hl hP h0 h1;unfold Z5;have h:=Wfu (mk:=mkI) (w:=wI) (P:=λ_=>True) (lp:=λn k i l=>Zcq N (λk10 bm az aJ=>(some ((aJ,()),(k10,())))) n k i l) (K0:=λk10 bm az aJ=>(some ((aJ,()),(k10,())))) Wob
  (λn k p x l _ h0 h1 h2=>by
   unfold wI at h1;simp(disch:=omega) only[Zcq,Wj,WaU,Wag,Wbz,Wah,Wb,ia1,wI,mkI]
   try rw[show k+1=k+1 by omega])
  (λn k l=>by simp only[Zcq,WaY,Wa]) l [] N k (λ_ _=>trivial) (by omega) (by simpa using hl) h0 h1
 simpa using h
theorem WaK{P:Int->Prop}:WrA mkI wI P Zac:=by
 intro N l k hN hl hP h0 h1;unfold Zac;generalize ea:mkL mkI wI l k=a;have h:=WhZ (mk:=mkI) (w:=wI) (P:=λ_=>True) (a:=a) (lp:=λn k i=>Zct N a (some ((),((-1:Int),()))) (λk9 aT aq=>(some ((),(k9,())))) n k i) (K1:=λk9 aT aq=>(some ((),(k9,())))) Wob
  (λn k p x l' ha _ h0 h1 h2=>by
   unfold wI at h1;rw[ha];simp only[Zct,WaU,Wag,Wah,Wb];simp(disch:=omega) only[mkI,Wb,ia1,WB,Wa,wI]
   try rw[show k+1=k+1 by omega])
  (λn k=>by simp only[Zct,WaY,Wa]) l [] N k (by rw[←ea];rfl) (λ_ _=>trivial) (by omega) (by simpa using hl) h0 h1
 exact h
def Wp0(_:Kc)(k:Int):Kc:=(k,k+1)
def wRw(_:Kc):Int:=2
theorem Whf(x:Kc):0<=wRw x:=by unfold wRw;omega
theorem WaD{P:Kc->Prop}:Wod Wp0 wRw P Zao:=by
 intro N l k hN hl hP h0 h1;unfold Zao;have h:=Wfu (mk:=Wp0) (w:=wRw) (P:=λ_=>True) (lp:=λn k i l=>Zcr N (λk10 bm az aJ=>(some ((aJ,()),(k10,())))) n k i l) (K0:=λk10 bm az aJ=>(some ((aJ,()),(k10,())))) Whf
  (λn k p x l _ h0 h1 h2=>by
   unfold wRw at h1;simp(disch:=omega) only[Zcr,Wj,WaU,Wag,Wbz,Wah,Wb,ia1,wRw,Wp0]
   try rw[show k+2=k+1+1 by omega])
  (λn k l=>by simp only[Zcr,WaY,Wa]) l [] N k (λ_ _=>trivial) (by omega) (by simpa using hl) h0 h1
 simpa using h
theorem WaF{P:Kc->Prop}:WrA Wp0 wRw P Zap:=by
 intro N l k hN hl hP h0 h1;unfold Zap;generalize ea:mkL Wp0 wRw l k=a;have h:=WhZ (mk:=Wp0) (w:=wRw) (P:=λ_=>True) (a:=a) (lp:=λn k i=>Zcu N a (some ((),((-1:Int),()))) (λk9 aT aq=>(some ((),(k9,())))) n k i) (K1:=λk9 aT aq=>(some ((),(k9,())))) Whf
  (λn k p x l' ha _ h0 h1 h2=>by
   unfold wRw at h1;rw[ha];simp only[Zcu,WaU,Wag,Wah,Wb];simp(disch:=omega) only[Wp0,Wb,ia1,WB,Wa,wRw]
   try rw[show k+2=k+1+1 by omega])
  (λn k=>by simp only[Zcu,WaY,Wa]) l [] N k (by rw[←ea];rfl) (λ_ _=>trivial) (by omega) (by simpa using hl) h0 h1
 exact h
def WwE(_:Ka)(k:Int):Ka:=(k,k+1,k+1+1,k+1+1+1)
def wOp(_:Ka):Int:=4
theorem Wtu(x:Ka):0<=wOp x:=by unfold wOp;omega
theorem WkC{P:Ka->Prop}:Wod WwE wOp P Zg9:=by
 intro N l k hN hl hP h0 h1;unfold Zg9;have h:=Wfu (mk:=WwE) (w:=wOp) (P:=λ_=>True) (lp:=λn k i l=>Zc3 N (λk10 bm az aJ=>(some ((aJ,()),(k10,())))) n k i l) (K0:=λk10 bm az aJ=>(some ((aJ,()),(k10,())))) Wtu
  (λn k p x l _ h0 h1 h2=>by
   unfold wOp at h1;simp(disch:=omega) only[Zc3,Wj,WaU,Wag,Wbz,Wah,Wb,ia1,wOp,WwE]
   try rw[show k+4=k+1+1+1+1 by omega])
  (λn k l=>by simp only[Zc3,WaY,Wa]) l [] N k (λ_ _=>trivial) (by omega) (by simpa using hl) h0 h1
 simpa using h
def Wh1(_:Kb)(k:Int):Kb:=(k,k+1,k+1+1)
def wWd(_:Kb):Int:=3
theorem WmX(x:Kb):0<=wWd x:=by unfold wWd;omega
theorem WqT{P:Kb->Prop}:Wod Wh1 wWd P Zha:=by
 intro N l k hN hl hP h0 h1;unfold Zha;have h:=Wfu (mk:=Wh1) (w:=wWd) (P:=λ_=>True) (lp:=λn k i l=>Zb4 N (λk10 bm az aJ=>(some ((aJ,()),(k10,())))) n k i l) (K0:=λk10 bm az aJ=>(some ((aJ,()),(k10,())))) WmX
  (λn k p x l _ h0 h1 h2=>by
   unfold wWd at h1;simp(disch:=omega) only[Zb4,Wj,WaU,Wag,Wbz,Wah,Wb,ia1,wWd,Wh1]
   try rw[show k+3=k+1+1+1 by omega])
  (λn k l=>by simp only[Zb4,WaY,Wa]) l [] N k (λ_ _=>trivial) (by omega) (by simpa using hl) h0 h1
 simpa using h
theorem Wq6{P:Kb->Prop}:WrA Wh1 wWd P Zhb:=by
 intro N l k hN hl hP h0 h1;unfold Zhb;generalize ea:mkL Wh1 wWd l k=a;have h:=WhZ (mk:=Wh1) (w:=wWd) (P:=λ_=>True) (a:=a) (lp:=λn k i=>Zb5 N a (some ((),((-1:Int),()))) (λk9 aT aq=>(some ((),(k9,())))) n k i) (K1:=λk9 aT aq=>(some ((),(k9,())))) WmX
  (λn k p x l' ha _ h0 h1 h2=>by
   unfold wWd at h1;rw[ha];simp only[Zb5,WaU,Wag,Wah,Wb];simp(disch:=omega) only[Wh1,Wb,ia1,WB,Wa,wWd]
   try rw[show k+3=k+1+1+1 by omega])
  (λn k=>by simp only[Zb5,WaY,Wa]) l [] N k (by rw[←ea];rfl) (λ_ _=>trivial) (by omega) (by simpa using hl) h0 h1
 exact h
def Wug(_:Kb)(k:Int):Kb:=(k,k+1,k+1+1)
def wEn(_:Kb):Int:=3
theorem WqU(x:Kb):0<=wEn x:=by unfold wEn;omega
theorem Wg8{P:Kb->Prop}:Wod Wug wEn P Zec:=by
 intro N l k hN hl hP h0 h1;unfold Zec;have h:=Wfu (mk:=Wug) (w:=wEn) (P:=λ_=>True) (lp:=λn k i l=>Zbr N (λk10 bm az aJ=>(some ((aJ,()),(k10,())))) n k i l) (K0:=λk10 bm az aJ=>(some ((aJ,()),(k10,())))) WqU
  (λn k p x l _ h0 h1 h2=>by
   unfold wEn at h1;simp(disch:=omega) only[Zbr,Wj,WaU,Wag,Wbz,Wah,Wb,ia1,wEn,Wug]
   try rw[show k+3=k+1+1+1 by omega])
  (λn k l=>by simp only[Zbr,WaY,Wa]) l [] N k (λ_ _=>trivial) (by omega) (by simpa using hl) h0 h1
 simpa using h
theorem Whm{P:Kb->Prop}:WrA Wug wEn P Zed:=by
 intro N l k hN hl hP h0 h1;unfold Zed;generalize ea:mkL Wug wEn l k=a;have h:=WhZ (mk:=Wug) (w:=wEn) (P:=λ_=>True) (a:=a) (lp:=λn k i=>Zbs N a (some ((),((-1:Int),()))) (λk9 aT aq=>(some ((),(k9,())))) n k i) (K1:=λk9 aT aq=>(some ((),(k9,())))) WqU
  (λn k p x l' ha _ h0 h1 h2=>by
   unfold wEn at h1;rw[ha];simp only[Zbs,WaU,Wag,Wah,Wb];simp(disch:=omega) only[Wug,Wb,ia1,WB,Wa,wEn]
   try rw[show k+3=k+1+1+1 by omega])
  (λn k=>by simp only[Zbs,WaY,Wa]) l [] N k (by rw[←ea];rfl) (λ_ _=>trivial) (by omega) (by simpa using hl) h0 h1
 exact h
def Sm{α:Type}(l:List α):Prop:=l.length<=1500000
def Wxt(x:List Ka)(k:Int):List Ka:=mkL WwE wOp x k
def wKd(x:List Ka):Int:=wL wOp x
theorem Wvm(x:List Ka):0<=wKd x:=Wde Wtu x
theorem Wqg:Wod Wxt wKd Sm Zh3:=by
 intro N l k hN hl hP h0 h1;unfold Zh3;have h:=Wfu (mk:=Wxt) (w:=wKd) (P:=Sm) (lp:=λn k i l=>Zcs N (λk10 bm az aJ=>(some ((aJ,()),(k10,())))) n k i l) (K0:=λk10 bm az aJ=>(some ((aJ,()),(k10,())))) Wvm
  (λn k p x l hx h0 h1 h2=>by
   simp only[Zcs,Wj,WaU,Wag,Wbz,Wah,Wb];rw[WkC (P:=λ_=>True) hN hx (λ_ _=>trivial) h0 h1];simp(disch:=omega) only[Xd,ia1];rfl)
  (λn k l=>by simp only[Zcs,WaY,Wa]) l [] N k hP (by omega) (by simpa using hl) h0 h1
 simpa using h
def WvI(x:Int×Int×List Int)(k:Int):Int×Int×List Int:=(k,k+1,mkL mkI wI x.2.2 (k+1+1))
def wKm(x:Int×Int×List Int):Int:=2+wL wI x.2.2
theorem Wsj(x:Int×Int×List Int):0<=wKm x:=by unfold wKm;have:=Wde Wob x.2.2;omega
def WwV(x:Int×Int×List Int):Prop:=Sm x.2.2
theorem nbq(i:Nat):Nat.beq i i=true:=Nat.beq_refl i
theorem Wrp:Wod WvI wKm WwV Zeq:=by
 intro N l k hN hl hP h0 h1;unfold Zeq;have h:=Wfu (mk:=WvI) (w:=wKm) (P:=WwV) (lp:=λn k i l=>Zay N (λk10 bm az aJ=>(some ((aJ,()),(k10,())))) n k i l) (K0:=λk10 bm az aJ=>(some ((aJ,()),(k10,())))) Wsj
  (λn k p x l hx h0 h1 h2=>by
   have hw:=Wde Wob x.2.2;unfold wKm at h1;simp(disch:=omega) only[Zay,Wj,WaU,Wag,Wbz,Wah,Wb,nbq,Xdx,ia1];rw[Wam (P:=λ_=>True) hN hx (λ_ _=>trivial) (by omega) (by omega)];simp only[Xd,wKm];rw[show k+1+1+wL wI x.2.2=k+(2+wL wI x.2.2) by omega];rfl)
  (λn k l=>by simp only[Zay,WaY,Wa]) l [] N k hP (by omega) (by simpa using hl) h0 h1
 simpa using h
theorem Wqz:WrA WvI wKm WwV Zer:=by
 intro N l k hN hl hP h0 h1;unfold Zer;generalize ea:mkL WvI wKm l k=a;have h:=WhZ (mk:=WvI) (w:=wKm) (P:=WwV) (a:=a) (lp:=λn k i=>Zaz N a (some ((),((-1:Int),()))) (λk9 aT aq=>(some ((),(k9,())))) n k i) (K1:=λk9 aT aq=>(some ((),(k9,())))) Wsj
  (λn k p x l' ha hx h0 h1 h2=>by
   have hw:=Wde Wob x.2.2;unfold wKm at h1;rw[ha];simp only[Zaz,WaU,Wag,Wah,Wb];simp(disch:=omega) only[WvI,Wb,ia1,WB,Wa];rw[WaK (P:=λ_=>True) hN hx (λ_ _=>trivial) (by omega) (by omega)];simp(disch:=omega) only[ret,Xd,lt0,Wa,wKm];rw[show k+1+1+wL wI x.2.2=k+(2+wL wI x.2.2) by omega])
  (λn k=>by simp only[Zaz,WaY,Wa]) l [] N k (by rw[←ea];rfl) hP (by omega) (by simpa using hl) h0 h1
 exact h
def Wv7(x:Y_KidRun)(k:Int):Y_KidRun:=
 let k1:=k+1+1+1+1+1+1
 let k2:=k1+wL wI (P6 x)
 let k3:=k2+wL wEn (P7 x)
 let k4:=k3+wL wRw (P8 x)
 let k5:=k4+wL wKm (P9 x)
 (k,k+1,k+1+1,k+1+1+1,k+1+1+1+1,k+1+1+1+1+1,mkL mkI wI (P6 x) k1,mkL Wug wEn (P7 x) k2,mkL Wp0 wRw (P8 x) k3,mkL WvI wKm (P9 x) k4,(Wdj k5 (3:Int))==(0:Int),k5+1,k5+1+1,k5+1+1+1,k5+1+1+1+1)
def wKR(x:Y_KidRun):Int:=11+(wL wI (P6 x)+(wL wEn (P7 x)+(wL wRw (P8 x)+wL wKm (P9 x))))
theorem WvZ(x:Y_KidRun):0<=wKR x:=by unfold wKR;have:=Wde Wob (P6 x);have:=Wde WqU (P7 x);have:=Wde Whf (P8 x);have:=Wde Wsj (P9 x);omega
def Wwj(x:Y_KidRun):Prop:=Sm (P6 x)/\Sm (P7 x)/\Sm (P8 x)/\Sm (P9 x)/\∀y∈P9 x,WwV y
theorem Waq(b:Bool):(!beq b b)=false:=by cases b<;>rfl
theorem Ww9:inz 3=true:=rfl
theorem Wki:Wod Wv7 wKR Wwj Zft:=by
 intro N l k hN hl hP h0 h1;unfold Zft;have h:=Wfu (mk:=Wv7) (w:=wKR) (P:=Wwj) (lp:=λn k i l=>Zbc N (λk10 bm az aJ=>(some ((aJ,()),(k10,())))) n k i l) (K0:=λk10 bm az aJ=>(some ((aJ,()),(k10,())))) WvZ
  (λn k p x l hx h0 h1 h2=>by
   have w1:=Wde Wob (P6 x);have w2:=Wde WqU (P7 x);have w3:=Wde Whf (P8 x);have w4:=Wde Wsj (P9 x);obtain⟨x1,x2,x3,x4,x5⟩:=hx;unfold wKR at h1;simp(disch:=omega) only[Zbc,Wj,WaU,Wag,Wbz,Wah,Wb,nbq,Xdx,ia1,Ww9];rw[Wam (P:=λ_=>True) hN x1 (λ_ _=>trivial) (by omega) (by omega),Xd,
    Wg8 (P:=λ_=>True) hN x2 (λ_ _=>trivial) (by dsimp only;omega) (by dsimp only;omega),Xd,
    WaD (P:=λ_=>True) hN x3 (λ_ _=>trivial) (by dsimp only;omega) (by dsimp only;omega),Xd,
    Wrp hN x4 x5 (by dsimp only;omega) (by dsimp only;omega),Xd]
   dsimp only;simp(disch:=omega) only[ia1,wKR];rw[show k+(11+(wL wI (P6 x)+(wL wEn (P7 x)+(wL wRw (P8 x)+wL wKm (P9 x)))))=k+1+1+1+1+1+1+wL wI (P6 x)+wL wEn (P7 x)+wL wRw (P8 x)+wL wKm (P9 x)+1+1+1+1+1 by omega];rfl)
  (λn k l=>by simp only[Zbc,WaY,Wa]) l [] N k hP (by omega) (by simpa using hl) h0 h1
 simpa using h
theorem Wky:WrA Wv7 wKR Wwj Zfu:=by
 intro N l k hN hl hP h0 h1;unfold Zfu;generalize ea:mkL Wv7 wKR l k=a;have h:=WhZ (mk:=Wv7) (w:=wKR) (P:=Wwj) (a:=a) (lp:=λn k i=>Zbd N a (some ((),((-1:Int),()))) (λk9 aT aq=>(some ((),(k9,())))) n k i) (K1:=λk9 aT aq=>(some ((),(k9,())))) WvZ
  (λn k p x l' ha hx h0 h1 h2=>by
   have w1:=Wde Wob (P6 x);have w2:=Wde WqU (P7 x);have w3:=Wde Whf (P8 x);have w4:=Wde Wsj (P9 x);obtain⟨x1,x2,x3,x4,x5⟩:=hx;unfold wKR at h1;rw[ha];simp only[Zbd,WaU,Wag,Wah,Wb,Wj];simp(disch:=omega) only[Wv7,P4,P5,P10,P11,P12,P13,Q14,Wb,ia1,WB,Wa];rw[show∀(a b c d e f) (g:List Int) (r:List Kb×List Kc×List Kg×Bool×Int×Int×Int×Int),P6 ((a,b,c,d,e,f,g,r):Y_KidRun)=g fromλ_ _ _ _ _ _ _ _=>rfl,
    show∀(a b c d e f) (g:List Int) h (r:List Kc×List Kg×Bool×Int×Int×Int×Int),P7 ((a,b,c,d,e,f,g,h,r):Y_KidRun)=h fromλ_ _ _ _ _ _ _ _ _=>rfl,
    show∀(a b c d e f) (g:List Int) h i (r:List Kg×Bool×Int×Int×Int×Int),P8 ((a,b,c,d,e,f,g,h,i,r):Y_KidRun)=i fromλ_ _ _ _ _ _ _ _ _ _=>rfl,
    show∀(a b c d e f) (g:List Int) h i j (r:Bool×Int×Int×Int×Int),P9 ((a,b,c,d,e,f,g,h,i,j,r):Y_KidRun)=j fromλ_ _ _ _ _ _ _ _ _ _ _=>rfl]
   rw[WaK (P:=λ_=>True) hN x1 (λ_ _=>trivial) (by omega) (by omega)];simp(disch:=omega) only[ret,Xd,lt0,Wa];rw[Whm (P:=λ_=>True) hN x2 (λ_ _=>trivial) (by omega) (by omega)];simp(disch:=omega) only[ret,Xd,lt0,Wa];rw[WaF (P:=λ_=>True) hN x3 (λ_ _=>trivial) (by omega) (by omega)];simp(disch:=omega) only[ret,Xd,lt0,Wa];rw[Wqz hN x4 x5 (by omega) (by omega)];simp(disch:=omega) only[ret,Xd,lt0,Wa,Wb,ia1,WB,Ww9,Waq,wKR];rw[show k+(11+(wL wI (P6 x)+(wL wEn (P7 x)+(wL wRw (P8 x)+wL wKm (P9 x)))))=k+1+1+1+1+1+1+wL wI (P6 x)+wL wEn (P7 x)+wL wRw (P8 x)+wL wKm (P9 x)+1+1+1+1+1 by omega])
  (λn k=>by simp only[Zbd,WaY,Wa]) l [] N k (by rw[←ea];rfl) hP (by omega) (by simpa using hl) h0 h1
 exact h
end
section
theorem eqL{α R:Type}{l:List α}{lp:Nat->Int->Option R}{K:Option R}{n:Nat}(hb:l.length<=1048576)(hn:l.length<n)
  (hs:∀(n i:Nat),i<l.length->decide ((i:Int)<Wg l)=true->inb (i:Int) l.length=true->Wh .i64 (i:Int) 1=((i+1:Nat):Int)->lp (n+1) (i:Int)=lp n ((i+1:Nat):Int))
  (he:∀n:Nat,decide ((l.length:Int)<Wg l)=false->lp (n+1) (l.length:Int)=K):lp n 0=K:=by
 suffices h:∀d i n,i+d=l.length->d<n->lp n (i:Int)=K from h l.length 0 n (by omega) hn
 intro d
 induction d with
 |zero=>
  intro i n h1 h2;obtain⟨n,rfl⟩:∃m,n=m+1:=⟨n-1,by omega⟩;rw[show i=l.length by omega,he n (WW (Nat.le_refl _))]
 |succ d ih=>
  intro i n h1 h2;obtain⟨n,rfl⟩:∃m,n=m+1:=⟨n-1,by omega⟩;have hi:i<l.length:=by omega
  rw[hs n i hi (WL hi) (Ww hi) (Wp (by omega))];exact ih (i+1) n (by omega) (by omega)
theorem WhX{N:Nat}{a:List Int}(hN:1048576<N)(h:Way a<=1048576):Zaf N a a=ret true:=by
 have h0:a.length<=1048576:=h;unfold Zaf;rw[WB,Wa];exact eqL (l:=a) (lp:=λn i=>Zd9 N a a (some ((),(false,()))) (λi8 t9=>some ((),(true,()))) n i) h0 (by omega) (λn i hi p q r=>by simp only[Zd9,p,q,r,Wt hi,Wb,WB,ret,Xd,Xk,Wa]) λn p=>by simp only[Zd9,p,Wa]
theorem Wus{N:Nat}{a:List Int×List Int×Int}(hN:1048576<N)(h:Wbg a<=1048576):Zn0 N a a=ret true:=by
 unfold Wbg at h;unfold Zn0;simp(disch:=omega) only[WB,Waq,WhX hN,ret,Xd,Xk,Wa]
theorem WxH{N:Nat}{a:Int×Int×Int×Int}(hN:1048576<N):Zrp N a a=ret true:=by
 unfold Zrp;simp(disch:=omega) only[WB,Waq,ret,Xd,Xk,Wa]
theorem WwW{N:Nat}{a:List Ka}(hN:1048576<N)(h:WeN a<=1048576):Zjp N a a=ret true:=by
 have h0:a.length<=1048576:=h;unfold Zjp;rw[WB,Wa];exact eqL (l:=a) (lp:=λn i=>Zfh N a a (some ((),(false,()))) (λi8 t9=>some ((),(true,()))) n i) h0 (by omega) (λn i hi p q r=>by simp only[Zfh,p,q,r,Wt hi,Wb,WxH hN,ret,Xd,Xk,Wa]) λn p=>by simp only[Zfh,p,Wa]
theorem Wxy{N:Nat}{a:List Ka}(hN:1048576<N)(h:Wfv a<=1048576):Zqw N a a=ret true:=by
 unfold Wfv at h;unfold Zqw;simp(disch:=omega) only[WB,Waq,WwW hN,ret,Xd,Xk,Wa]
theorem Wwp{N:Nat}{a:List Kz}(hN:1048576<N)(h:WbJ a<=1048576):Zkg N a a=ret true:=by
 have h0:a.length<=1048576:=Xak Wff h;unfold Zkg;rw[WB,Wa];exact eqL (l:=a) (lp:=λn i=>Zeb N a a (some ((),(false,()))) (λi8 t9=>some ((),(true,()))) n i) h0 (by omega) (λn i hi p q r=>by simp only[Zeb,p,q,r,Wt hi,Wb,Wxy hN (Xak (Wfo (Xv hi)) h),ret,Xd,Xk,Wa]) λn p=>by simp only[Zeb,p,Wa]
theorem WwX{N:Nat}{a:List Ka×List Kz}(hN:1048576<N)(h:WcN a<=1048576):Zp2 N a a=ret true:=by
 unfold WcN at h;unfold Zp2;simp(disch:=omega) only[WB,Waq,WwW hN,Wwp hN,ret,Xd,Xk,Wa]
theorem Wvl{N:Nat}{a:List Km}(hN:1048576<N)(h:Wa0 a<=1048576):Zjc N a a=ret true:=by
 have h0:a.length<=1048576:=Xak Wek h;unfold Zjc;rw[WB,Wa];exact eqL (l:=a) (lp:=λn i=>Zdf N a a (some ((),(false,()))) (λi8 t9=>some ((),(true,()))) n i) h0 (by omega) (λn i hi p q r=>by simp only[Zdf,p,q,r,Wt hi,Wb,WwX hN (Xak (Wec (Xv hi)) h),ret,Xd,Xk,Wa]) λn p=>by simp only[Zdf,p,Wa]
theorem Wxm{N:Nat}{a:Int×Int×Int}(hN:1048576<N):Zqz N a a=ret true:=by
 unfold Zqz;simp(disch:=omega) only[WB,Waq,ret,Xd,Xk,Wa]
theorem WwQ{N:Nat}{a:List Kb}(hN:1048576<N)(h:WdK a<=1048576):Zkn N a a=ret true:=by
 have h0:a.length<=1048576:=h;unfold Zkn;rw[WB,Wa];exact eqL (l:=a) (lp:=λn i=>Zeg N a a (some ((),(false,()))) (λi8 t9=>some ((),(true,()))) n i) h0 (by omega) (λn i hi p q r=>by simp only[Zeg,p,q,r,Wt hi,Wb,Wxm hN,ret,Xd,Xk,Wa]) λn p=>by simp only[Zeg,p,Wa]
theorem Wuj{N:Nat}{a:Ki×List Km×List Kb}(hN:1048576<N)(h:Wbx a<=1048576):Zn1 N a a=ret true:=by
 unfold Wbx at h;unfold Zn1;simp(disch:=omega) only[WB,Waq,Wus hN,Wvl hN,WwQ hN,ret,Xd,Xk,Wa]
theorem Ww0{N:Nat}{a:Int×Int×Int}(hN:1048576<N):Zpt N a a=ret true:=by
 unfold Zpt;simp(disch:=omega) only[WB,Waq,ret,Xd,Xk,Wa]
def WsU(l:List Kb):Nat:=l.length
theorem WvD{N:Nat}{a:List Kb}(hN:1048576<N)(h:WsU a<=1048576):Zix N a a=ret true:=by
 have h0:a.length<=1048576:=h;unfold Zix;rw[WB,Wa];exact eqL (l:=a) (lp:=λn i=>Zc2 N a a (some ((),(false,()))) (λi8 t9=>some ((),(true,()))) n i) h0 (by omega) (λn i hi p q r=>by simp only[Zc2,p,q,r,Wt hi,Wb,Ww0 hN,ret,Xd,Xk,Wa]) λn p=>by simp only[Zc2,p,Wa]
def WvQ(a:Int×List Kb):Nat:=WsU a.2
theorem Wxw{N:Nat}{a:Int×List Kb}(hN:1048576<N)(h:WvQ a<=1048576):Zqu N a a=ret true:=by
 unfold WvQ at h;unfold Zqu;simp(disch:=omega) only[WB,Waq,WvD hN,ret,Xd,Xk,Wa]
def Wpf(a:List Int×Int):Nat:=Way a.1
theorem Wwd{N:Nat}{a:List Int×Int}(hN:1048576<N)(h:Wpf a<=1048576):Zo5 N a a=ret true:=by
 unfold Wpf at h;unfold Zo5;simp(disch:=omega) only[WB,Waq,WhX hN,ret,Xd,Xk,Wa]
theorem Wwn{N:Nat}{a:Int×Int×Int}(hN:1048576<N):Zp3 N a a=ret true:=by
 unfold Zp3;simp(disch:=omega) only[WB,Waq,ret,Xd,Xk,Wa]
def WrU(l:List Kb):Nat:=l.length
theorem Wvo{N:Nat}{a:List Kb}(hN:1048576<N)(h:WrU a<=1048576):Zjd N a a=ret true:=by
 have h0:a.length<=1048576:=h;unfold Zjd;rw[WB,Wa];exact eqL (l:=a) (lp:=λn i=>Zdg N a a (some ((),(false,()))) (λi8 t9=>some ((),(true,()))) n i) h0 (by omega) (λn i hi p q r=>by simp only[Zdg,p,q,r,Wt hi,Wb,Wwn hN,ret,Xd,Xk,Wa]) λn p=>by simp only[Zdg,p,Wa]
theorem Wxv{N:Nat}{a:Int×Int}(hN:1048576<N):Zqv N a a=ret true:=by
 unfold Zqv;simp(disch:=omega) only[WB,Waq,ret,Xd,Xk,Wa]
def Wer(l:List Kc):Nat:=l.length
theorem Wm2{N:Nat}{a:List Kc}(hN:1048576<N)(h:Wer a<=1048576):Zbm N a a=ret true:=by
 have h0:a.length<=1048576:=h;unfold Zbm;rw[WB,Wa];exact eqL (l:=a) (lp:=λn i=>Zea N a a (some ((),(false,()))) (λi8 t9=>some ((),(true,()))) n i) h0 (by omega) (λn i hi p q r=>by simp only[Zea,p,q,r,Wt hi,Wb,Wxv hN,ret,Xd,Xk,Wa]) λn p=>by simp only[Zea,p,Wa]
theorem WvP{N:Nat}{a:Int×Int×Int}(hN:1048576<N):Zow N a a=ret true:=by
 unfold Zow;simp(disch:=omega) only[WB,Waq,ret,Xd,Xk,Wa]
def Wgn(l:List Kb):Nat:=l.length
theorem Wpq{N:Nat}{a:List Kb}(hN:1048576<N)(h:Wgn a<=1048576):Zge N a a=ret true:=by
 have h0:a.length<=1048576:=h;unfold Zge;rw[WB,Wa];exact eqL (l:=a) (lp:=λn i=>Zcp N a a (some ((),(false,()))) (λi8 t9=>some ((),(true,()))) n i) h0 (by omega) (λn i hi p q r=>by simp only[Zcp,p,q,r,Wt hi,Wb,WvP hN,ret,Xd,Xk,Wa]) λn p=>by simp only[Zcp,p,Wa]
theorem Wr1{N:Nat}{a:Int×Int×Int×Int}(hN:1048576<N):Zl6 N a a=ret true:=by
 unfold Zl6;simp(disch:=omega) only[WB,Waq,ret,Xd,Xk,Wa]
def Wcq(a:Int×Int×List Int):Nat:=Way a.2.2
theorem Wsq{N:Nat}{a:Int×Int×List Int}(hN:1048576<N)(h:Wcq a<=1048576):Zmf N a a=ret true:=by
 unfold Wcq at h;unfold Zmf;simp(disch:=omega) only[WB,Waq,WhX hN,ret,Xd,Xk,Wa]
def WaQ(l:List Kg):Nat:=l.length+(l.map Wcq).sum
theorem WfC{l:List Kg}{x:Int×Int×List Int}(h:x∈l):Wcq x<=WaQ l:=by
 have:=WbL Wcq h;unfold WaQ;omega
theorem WfD{l:List Kg}:l.length<=WaQ l:=by unfold WaQ;omega
theorem Wrl{N:Nat}{a:List Kg}(hN:1048576<N)(h:WaQ a<=1048576):Zgq N a a=ret true:=by
 have h0:a.length<=1048576:=Xak WfD h;unfold Zgq;rw[WB,Wa];exact eqL (l:=a) (lp:=λn i=>Zbq N a a (some ((),(false,()))) (λi8 t9=>some ((),(true,()))) n i) h0 (by omega) (λn i hi p q r=>by simp only[Zbq,p,q,r,Wt hi,Wb,Wsq hN (Xak (WfC (Xv hi)) h),ret,Xd,Xk,Wa]) λn p=>by simp only[Zbq,p,Wa]
def Wck(a:Y_KidRun):Nat:=Way a.2.2.2.2.2.2.1+Wgn a.2.2.2.2.2.2.2.1+Wer a.2.2.2.2.2.2.2.2.1+WaQ a.2.2.2.2.2.2.2.2.2.1
theorem Wt6{N:Nat}{a:Y_KidRun}(hN:1048576<N)(h:Wck a<=1048576):Znr N a a=ret true:=by
 unfold Wck at h;unfold Znr;simp(disch:=omega) only[P10,P4,P5,P6,P7,P8,P9,Q11,WB,Waq,WhX hN,Wpq hN,Wm2 hN,Wrl hN,Wr1 hN,ret,Xd,Xk,Wa]
def Wb0(l:List Y_KidRun):Nat:=l.length+(l.map Wck).sum
theorem WgJ{l:List Y_KidRun}{x:Y_KidRun}(h:x∈l):Wck x<=Wb0 l:=by
 have:=WbL Wck h;unfold Wb0;omega
theorem WgA{l:List Y_KidRun}:l.length<=Wb0 l:=by unfold Wb0;omega
theorem Wtf{N:Nat}{a:List Y_KidRun}(hN:1048576<N)(h:Wb0 a<=1048576):Zg8 N a a=ret true:=by
 have h0:a.length<=1048576:=Xak WgA h;unfold Zg8;rw[WB,Wa];exact eqL (l:=a) (lp:=λn i=>Zb3 N a a (some ((),(false,()))) (λi8 t9=>some ((),(true,()))) n i) h0 (by omega) (λn i hi p q r=>by simp only[Zb3,p,q,r,Wt hi,Wb,Wt6 hN (Xak (WgJ (Xv hi)) h),ret,Xd,Xk,Wa]) λn p=>by simp only[Zb3,p,Wa]
def Wfr(a:Y_Family):Nat:=Way a.2.2.2.2.1+Wer a.2.2.2.2.2.1+Wgn a.2.2.2.2.2.2.1+Way a.2.2.2.2.2.2.2.1+Wer a.2.2.2.2.2.2.2.2.1+Wb0 a.2.2.2.2.2.2.2.2.2
theorem WtW{N:Nat}{a:Y_Family}(hN:1048576<N)(h:Wfr a<=1048576):Zns N a a=ret true:=by
 unfold Wfr at h;unfold Zns;simp(disch:=omega) only[P4,P5,P6,P7,P8,Q9,WB,Waq,WhX hN,Wm2 hN,Wpq hN,Wtf hN,ret,Xd,Xk,Wa]
def Whz(a:Int×Int×Int×Int×List Int):Nat:=Way a.2.2.2.2
theorem WwT{N:Nat}{a:Int×Int×Int×Int×List Int}(hN:1048576<N)(h:Whz a<=1048576):Zp4 N a a=ret true:=by
 unfold Whz at h;unfold Zp4;simp(disch:=omega) only[WB,Waq,WhX hN,ret,Xd,Xk,Wa]
def WcJ(l:List Kf):Nat:=l.length+(l.map Whz).sum
theorem WiM{l:List Kf}{x:Int×Int×Int×Int×List Int}(h:x∈l):Whz x<=WcJ l:=by
 have:=WbL Whz h;unfold WcJ;omega
theorem Wjg{l:List Kf}:l.length<=WcJ l:=by unfold WcJ;omega
theorem WvB{N:Nat}{a:List Kf}(hN:1048576<N)(h:WcJ a<=1048576):Zje N a a=ret true:=by
 have h0:a.length<=1048576:=Xak Wjg h;unfold Zje;rw[WB,Wa];exact eqL (l:=a) (lp:=λn i=>Zdh N a a (some ((),(false,()))) (λi8 t9=>some ((),(true,()))) n i) h0 (by omega) (λn i hi p q r=>by simp only[Zdh,p,q,r,Wt hi,Wb,WwT hN (Xak (WiM (Xv hi)) h),ret,Xd,Xk,Wa]) λn p=>by simp only[Zdh,p,Wa]
theorem WwJ{N:Nat}{a:Int×Int×Int}(hN:1048576<N):Zp5 N a a=ret true:=by
 unfold Zp5;simp(disch:=omega) only[WB,Waq,ret,Xd,Xk,Wa]
def WrV(l:List Kb):Nat:=l.length
theorem Wv4{N:Nat}{a:List Kb}(hN:1048576<N)(h:WrV a<=1048576):Zjf N a a=ret true:=by
 have h0:a.length<=1048576:=h;unfold Zjf;rw[WB,Wa];exact eqL (l:=a) (lp:=λn i=>Zdi N a a (some ((),(false,()))) (λi8 t9=>some ((),(true,()))) n i) h0 (by omega) (λn i hi p q r=>by simp only[Zdi,p,q,r,Wt hi,Wb,WwJ hN,ret,Xd,Xk,Wa]) λn p=>by simp only[Zdi,p,Wa]
def Wll(a:Int×Int×Int×Int×Int×List Kc×List Int):Nat:=Wer a.2.2.2.2.2.1+Way a.2.2.2.2.2.2
theorem Wtq{N:Nat}{a:Int×Int×Int×Int×Int×List Kc×List Int}(hN:1048576<N)(h:Wll a<=1048576):Zn2 N a a=ret true:=by
 unfold Wll at h;unfold Zn2;simp(disch:=omega) only[WB,Waq,Wm2 hN,WhX hN,ret,Xd,Xk,Wa]
def WfJ(a:Y_Root):Nat:=Way a.2.2.2.2.2.2.2.2.2.2.2.2.1+Wer a.2.2.2.2.2.2.2.2.2.2.2.2.2.1+Wer a.2.2.2.2.2.2.2.2.2.2.2.2.2.2.1+WcJ a.2.2.2.2.2.2.2.2.2.2.2.2.2.2.2.1+WrV a.2.2.2.2.2.2.2.2.2.2.2.2.2.2.2.2.1+Way a.2.2.2.2.2.2.2.2.2.2.2.2.2.2.2.2.2.1+Wll a.2.2.2.2.2.2.2.2.2.2.2.2.2.2.2.2.2.2.2.2.1+Wfr a.2.2.2.2.2.2.2.2.2.2.2.2.2.2.2.2.2.2.2.2.2
theorem Wws{N:Nat}{a:Y_Root}(hN:1048576<N)(h:WfJ a<=1048576):Zp6 N a a=ret true:=by
 unfold WfJ at h;unfold Zp6;simp(disch:=omega) only[P10,P11,P12,P13,P14,P15,P16,P17,P18,P19,P20,P4,P5,P6,P7,P8,P9,Q21,WB,Waq,WhX hN,Wm2 hN,WvB hN,Wv4 hN,Wr1 hN,Wtq hN,WtW hN,ret,Xd,Xk,Wa]
def Wd5(l:List Y_Root):Nat:=l.length+(l.map WfJ).sum
theorem Wjk{l:List Y_Root}{x:Y_Root}(h:x∈l):WfJ x<=Wd5 l:=by
 have:=WbL WfJ h;unfold Wd5;omega
theorem WjG{l:List Y_Root}:l.length<=Wd5 l:=by unfold Wd5;omega
theorem Wv2{N:Nat}{a:List Y_Root}(hN:1048576<N)(h:Wd5 a<=1048576):Zjg N a a=ret true:=by
 have h0:a.length<=1048576:=Xak WjG h;unfold Zjg;rw[WB,Wa];exact eqL (l:=a) (lp:=λn i=>Zdj N a a (some ((),(false,()))) (λi8 t9=>some ((),(true,()))) n i) h0 (by omega) (λn i hi p q r=>by simp only[Zdj,p,q,r,Wt hi,Wb,Wws hN (Xak (Wjk (Xv hi)) h),ret,Xd,Xk,Wa]) λn p=>by simp only[Zdj,p,Wa]
def Wd7(a:Int×Int×List Kc):Nat:=Wer a.2.2
theorem WvG{N:Nat}{a:Int×Int×List Kc}(hN:1048576<N)(h:Wd7 a<=1048576):Zo6 N a a=ret true:=by
 unfold Wd7 at h;unfold Zo6;simp(disch:=omega) only[WB,Waq,Wm2 hN,ret,Xd,Xk,Wa]
def WcV(l:List Kn):Nat:=l.length+(l.map Wd7).sum
theorem Whs{l:List Kn}{x:Int×Int×List Kc}(h:x∈l):Wd7 x<=WcV l:=by
 have:=WbL Wd7 h;unfold WcV;omega
theorem WhQ{l:List Kn}:l.length<=WcV l:=by unfold WcV;omega
theorem WtV{N:Nat}{a:List Kn}(hN:1048576<N)(h:WcV a<=1048576):Zh8 N a a=ret true:=by
 have h0:a.length<=1048576:=Xak WhQ h;unfold Zh8;rw[WB,Wa];exact eqL (l:=a) (lp:=λn i=>Zcw N a a (some ((),(false,()))) (λi8 t9=>some ((),(true,()))) n i) h0 (by omega) (λn i hi p q r=>by simp only[Zcw,p,q,r,Wt hi,Wb,WvG hN (Xak (Whs (Xv hi)) h),ret,Xd,Xk,Wa]) λn p=>by simp only[Zcw,p,Wa]
def Who(a:Y_World):Nat:=WvQ a.2.2.1+Wpf a.2.2.2.1+WrU a.2.2.2.2.1+Wd5 a.2.2.2.2.2.1+WcV a.2.2.2.2.2.2
theorem WvM{N:Nat}{a:Y_World}(hN:1048576<N)(h:Who a<=1048576):Zjh N a a=ret true:=by
 unfold Who at h;unfold Zjh;simp(disch:=omega) only[P4,P5,Q6,WB,Waq,Wxw hN,Wwd hN,Wvo hN,Wv2 hN,WtV hN,ret,Xd,Xk,Wa]
end
section
theorem WqS{α:Type}{w:α->Int}{z:α->Nat}{c:Int}:∀(l:List α),(∀x∈l,w x<=c*(z x+1:Nat))->wL w l<=c*((l.length+(l.map z).sum:Nat):Int)
 | [],_=>by simp[wL]
 |x::l,h=>by
  have h1:=h x (Xj ..);have h2:=WqS l λy hy=>h y (Xf _ hy);rw[wL,Xr,Xaf,Xcn];rw[show((l.length+1+(z x+(l.map z).sum):Nat):Int)=((z x+1:Nat):Int)+((l.length+(l.map z).sum:Nat):Int) by push_cast;omega,Int.mul_add];omega
theorem Ww3{α:Type}{w:α->Int}{c:Int}(h:∀x,w x=c):∀(l:List α),wL w l=c*(l.length:Int)
 | []=>by simp[wL]
 |x::l=>by rw[wL,h x,Ww3 h l,Xr];push_cast;rw[Int.mul_add];omega
theorem WwZ(l:List Int):wL wI l=l.length:=by rw[Ww3 (w:=wI) (c:=1) (λx=>rfl)];omega
theorem WwI(l:List Kb):wL wEn l=3*l.length:=Ww3 (λx=>rfl) l
theorem Wvj(l:List Kb):wL wWd l=3*l.length:=Ww3 (λx=>rfl) l
theorem WvS(l:List Kc):wL wRw l=2*l.length:=Ww3 (λx=>rfl) l
theorem Wxx(l:List Kg):wL wKm l<=2*(WaQ l:Int):=WqS l λx _=>by unfold wKm Wcq Way;rw[WwZ];push_cast;omega
theorem Wxh(l:List Y_KidRun):wL wKR l<=11*(Wb0 l:Int):=WqS l λx _=>by
 unfold wKR Wck Way Wgn Wer;rw[WwZ,WwI,WvS];have h:=Wxx x.2.2.2.2.2.2.2.2.2.1;show 11+((x.2.2.2.2.2.2.1.length:Int)+(3*(x.2.2.2.2.2.2.2.1.length:Int)+(2*(x.2.2.2.2.2.2.2.2.1.length:Int)+wL wKm x.2.2.2.2.2.2.2.2.2.1)))<=_
 push_cast
 omega
theorem Wxb{x:Y_KidRun}(h:Wck x<=1048576):Wwj x:=by
 unfold Wck Way Wgn Wer at h;have h9:x.2.2.2.2.2.2.2.2.2.1=P9 x:=rfl;have h6:x.2.2.2.2.2.2.1=P6 x:=rfl;have h7:x.2.2.2.2.2.2.2.1=P7 x:=rfl;have h8:x.2.2.2.2.2.2.2.2.1=P8 x:=rfl;rw[h9,h6,h7,h8]at h;have hl:(P9 x).length<=WaQ (P9 x):=WfD;refine⟨?_,?_,?_,?_,λy hy=>?_⟩
 .show(P6 x).length<=1500000;omega
 .show(P7 x).length<=1500000;omega
 .show(P8 x).length<=1500000;omega
 .show(P9 x).length<=1500000;omega
 .have:=WfC hy;unfold Wcq Way at this;show y.2.2.length<=1500000;omega
theorem mh{α:Type}{mk:α->Int->α}{w:α->Int}{P:α->Prop}{T:Nat->List α->Int->Option ((List α×Unit)×Kh)}{T':Nat->List α->Int->Option Ks}(hm:Wod mk w P T)(hh:WrA mk w P T')
  {N:Nat} {l:List α} {k:Int} (hN:1600000<N) (hl:l.length<=1500000) (hP:∀x∈l,P x) (h0:0<=k) (h1:k+wL w l<=1000000000):∃k' m,T N l k=some ((m,()),(k',()))/\T' N m k=ret k'/\k'=k+wL w l/\m=mkL mk w l k:=
 ⟨_,_,hm hN hl hP h0 h1,hh hN hl hP h0 h1,rfl,rfl⟩
theorem tT{α:Type}(l:List α):∀x∈l,(λ_=>True) x:=λ_ _=>trivial
theorem Wqp{P:Kb->Prop}:Wod Wh1 wWd P Zhh:=by
 intro N l k hN hl hP h0 h1;unfold Zhh;have h:=Wfu (mk:=Wh1) (w:=wWd) (P:=λ_=>True) (lp:=λn k i l=>Zb7 N (λk10 bm az aJ=>(some ((aJ,()),(k10,())))) n k i l) (K0:=λk10 bm az aJ=>(some ((aJ,()),(k10,())))) WmX
  (λn k p x l _ h0 h1 h2=>by
   unfold wWd at h1;simp(disch:=omega) only[Zb7,Wj,WaU,Wag,Wbz,Wah,Wb,ia1,wWd,Wh1]
   try rw[show k+3=k+1+1+1 by omega])
  (λn k l=>by simp only[Zb7,WaY,Wa]) l [] N k (λ_ _=>trivial) (by omega) (by simpa using hl) h0 h1
 simpa using h
theorem Wqq{P:Kb->Prop}:WrA Wh1 wWd P Zhl:=by
 intro N l k hN hl hP h0 h1;unfold Zhl;generalize ea:mkL Wh1 wWd l k=a;have h:=WhZ (mk:=Wh1) (w:=wWd) (P:=λ_=>True) (a:=a) (lp:=λn k i=>Zcb N a (some ((),((-1:Int),()))) (λk9 aT aq=>(some ((),(k9,())))) n k i) (K1:=λk9 aT aq=>(some ((),(k9,())))) WmX
  (λn k p x l' ha _ h0 h1 h2=>by
   unfold wWd at h1;rw[ha];simp only[Zcb,WaU,Wag,Wah,Wb];simp(disch:=omega) only[Wh1,Wb,ia1,WB,Wa,wWd]
   try rw[show k+3=k+1+1+1 by omega])
  (λn k=>by simp only[Zcb,WaY,Wa]) l [] N k (by rw[←ea];rfl) (λ_ _=>trivial) (by omega) (by simpa using hl) h0 h1
 exact h
theorem Wkj{P:Kb->Prop}:Wod Wh1 wWd P Zhj:=by
 intro N l k hN hl hP h0 h1;unfold Zhj;have h:=Wfu (mk:=Wh1) (w:=wWd) (P:=λ_=>True) (lp:=λn k i l=>Zb9 N (λk10 bm az aJ=>(some ((aJ,()),(k10,())))) n k i l) (K0:=λk10 bm az aJ=>(some ((aJ,()),(k10,())))) WmX
  (λn k p x l _ h0 h1 h2=>by
   unfold wWd at h1;simp(disch:=omega) only[Zb9,Wj,WaU,Wag,Wbz,Wah,Wb,ia1,wWd,Wh1]
   try rw[show k+3=k+1+1+1 by omega])
  (λn k l=>by simp only[Zb9,WaY,Wa]) l [] N k (λ_ _=>trivial) (by omega) (by simpa using hl) h0 h1
 simpa using h
theorem WkP{P:Kb->Prop}:WrA Wh1 wWd P Zhn:=by
 intro N l k hN hl hP h0 h1;unfold Zhn;generalize ea:mkL Wh1 wWd l k=a;have h:=WhZ (mk:=Wh1) (w:=wWd) (P:=λ_=>True) (a:=a) (lp:=λn k i=>Zcd N a (some ((),((-1:Int),()))) (λk9 aT aq=>(some ((),(k9,())))) n k i) (K1:=λk9 aT aq=>(some ((),(k9,())))) WmX
  (λn k p x l' ha _ h0 h1 h2=>by
   unfold wWd at h1;rw[ha];simp only[Zcd,WaU,Wag,Wah,Wb];simp(disch:=omega) only[Wh1,Wb,ia1,WB,Wa,wWd]
   try rw[show k+3=k+1+1+1 by omega])
  (λn k=>by simp only[Zcd,WaY,Wa]) l [] N k (by rw[←ea];rfl) (λ_ _=>trivial) (by omega) (by simpa using hl) h0 h1
 exact h
def Wvn(x:Kf)(k:Int):Kf:=(k,k+1,k+1+1,k+1+1+1,mkL mkI wI x.2.2.2.2 (k+1+1+1+1))
def wMk(x:Kf):Int:=4+wL wI x.2.2.2.2
theorem Wvx(x:Kf):0<=wMk x:=by unfold wMk;have:=Wde Wob x.2.2.2.2;omega
def Wwu(x:Kf):Prop:=Sm x.2.2.2.2
theorem Wkz:Wod Wvn wMk Wwu Zhi:=by
 intro N l k hN hl hP h0 h1;unfold Zhi;have h:=Wfu (mk:=Wvn) (w:=wMk) (P:=Wwu) (lp:=λn k i l=>Zb8 N (λk10 bm az aJ=>(some ((aJ,()),(k10,())))) n k i l) (K0:=λk10 bm az aJ=>(some ((aJ,()),(k10,())))) Wvx
  (λn k p x l hx h0 h1 h2=>by
   have hw:=Wde Wob x.2.2.2.2;unfold wMk at h1;simp(disch:=omega) only[Zb8,Wj,WaU,Wag,Wbz,Wah,Wb,nbq,Xdx,ia1];rw[Wam (P:=λ_=>True) hN hx (λ_ _=>trivial) (by omega) (by omega)];simp only[Xd,wMk];rw[show k+1+1+1+1+wL wI x.2.2.2.2=k+(4+wL wI x.2.2.2.2) by omega];rfl)
  (λn k l=>by simp only[Zb8,WaY,Wa]) l [] N k hP (by omega) (by simpa using hl) h0 h1
 simpa using h
theorem WkN:WrA Wvn wMk Wwu Zhm:=by
 intro N l k hN hl hP h0 h1;unfold Zhm;generalize ea:mkL Wvn wMk l k=a;have h:=WhZ (mk:=Wvn) (w:=wMk) (P:=Wwu) (a:=a) (lp:=λn k i=>Zcc N a (some ((),((-1:Int),()))) (λk9 aT aq=>(some ((),(k9,())))) n k i) (K1:=λk9 aT aq=>(some ((),(k9,())))) Wvx
  (λn k p x l' ha hx h0 h1 h2=>by
   have hw:=Wde Wob x.2.2.2.2;unfold wMk at h1;rw[ha];simp only[Zcc,WaU,Wag,Wah,Wb];simp(disch:=omega) only[Wvn,Wb,ia1,WB,Wa];rw[WaK (P:=λ_=>True) hN hx (λ_ _=>trivial) (by omega) (by omega)];simp(disch:=omega) only[ret,Xd,lt0,Wa,wMk];rw[show k+1+1+1+1+wL wI x.2.2.2.2=k+(4+wL wI x.2.2.2.2) by omega])
  (λn k=>by simp only[Zcc,WaY,Wa]) l [] N k (by rw[←ea];rfl) hP (by omega) (by simpa using hl) h0 h1
 exact h
def Wwe(x:Kn)(k:Int):Kn:=(k,k+1,mkL Wp0 wRw x.2.2 (k+1+1))
def wWr(x:Kn):Int:=2+wL wRw x.2.2
theorem Wvg(x:Kn):0<=wWr x:=by unfold wWr;have:=Wde Whf x.2.2;omega
def Ww2(x:Kn):Prop:=Sm x.2.2
theorem WqF:Wod Wwe wWr Ww2 Zgt:=by
 intro N l k hN hl hP h0 h1;unfold Zgt;have h:=Wfu (mk:=Wwe) (w:=wWr) (P:=Ww2) (lp:=λn k i l=>Zbu N (λk10 bm az aJ=>(some ((aJ,()),(k10,())))) n k i l) (K0:=λk10 bm az aJ=>(some ((aJ,()),(k10,())))) Wvg
  (λn k p x l hx h0 h1 h2=>by
   have hw:=Wde Whf x.2.2;unfold wWr at h1;simp(disch:=omega) only[Zbu,Wj,WaU,Wag,Wbz,Wah,Wb,nbq,Xdx,ia1];rw[WaD (P:=λ_=>True) hN hx (λ_ _=>trivial) (by omega) (by omega)];simp only[Xd,wWr];rw[show k+1+1+wL wRw x.2.2=k+(2+wL wRw x.2.2) by omega];rfl)
  (λn k l=>by simp only[Zbu,WaY,Wa]) l [] N k hP (by omega) (by simpa using hl) h0 h1
 simpa using h
theorem WqX:WrA Wwe wWr Ww2 Zgu:=by
 intro N l k hN hl hP h0 h1;unfold Zgu;generalize ea:mkL Wwe wWr l k=a;have h:=WhZ (mk:=Wwe) (w:=wWr) (P:=Ww2) (a:=a) (lp:=λn k i=>Zbv N a (some ((),((-1:Int),()))) (λk9 aT aq=>(some ((),(k9,())))) n k i) (K1:=λk9 aT aq=>(some ((),(k9,())))) Wvg
  (λn k p x l' ha hx h0 h1 h2=>by
   have hw:=Wde Whf x.2.2;unfold wWr at h1;rw[ha];simp only[Zbv,WaU,Wag,Wah,Wb];simp(disch:=omega) only[Wwe,Wb,ia1,WB,Wa];rw[WaF (P:=λ_=>True) hN hx (λ_ _=>trivial) (by omega) (by omega)];simp(disch:=omega) only[ret,Xd,lt0,Wa,wWr];rw[show k+1+1+wL wRw x.2.2=k+(2+wL wRw x.2.2) by omega])
  (λn k=>by simp only[Zbv,WaY,Wa]) l [] N k (by rw[←ea];rfl) hP (by omega) (by simpa using hl) h0 h1
 exact h
def rtM(k h g:Int)(jI:List Int)(jJ:List Kc)(jK:List Kc)(jL:List Kf)(jM:List Kb)(jN:List Int)(jO:List Kc)(jP:List Int)(jQ:List Int)(jR:List Kc)(jS:List Kb)(jT:List Int)(jU:List Kc)(jV:List Y_KidRun):Y_Root:=(k,k+1,k+1+1,k+1+1+1,k+1+1+1+1,k+1+1+1+1+1,k+1+1+1+1+1+1,k+1+1+1+1+1+1+1,k+1+1+1+1+1+1+1+1,k+1+1+1+1+1+1+1+1+1,k+1+1+1+1+1+1+1+1+1+1,(Wdj (k+1+1+1+1+1+1+1+1+1+1+1) (3:Int))==(0:Int),jI,jJ,jK,jL,jM,jN,(Wdj h (3:Int))==(0:Int),(h+1,h+1+1,h+1+1+1,h+1+1+1+1),(h+1+1+1+1+1,h+1+1+1+1+1+1,h+1+1+1+1+1+1+1,h+1+1+1+1+1+1+1+1,h+1+1+1+1+1+1+1+1+1,jO,jP),(g,g+1,g+1+1,(Wdj (g+1+1+1) (3:Int))==(0:Int),jQ,jR,jS,jT,jU,jV))
def WvU(x:Y_Root)(k:Int):Y_Root:=
 let gv:=k+1+1+1+1+1+1+1+1+1+1+1+1+wL wI (P12 x)
 let lL:=gv+wL wRw (P13 x)
 let gk:=lL+wL wRw (P14 x)
 let lg:=gk+wL wMk (P15 x)
 let lH:=lg+wL wWd (P16 x)
 let h:=lH+wL wI (P17 x)
 let lI:=h+1+1+1+1+1+1+1+1+1+1+wL wRw (P5 (P20 x))
 let g:=lI+wL wI (Q6 (P20 x))
 let nl:=g+1+1+1+1+wL wI (P25 x)
 let nm:=nl+wL wRw (P26 x)
 let no:=nm+wL wEn (P27 x)
 let nq:=no+wL wI (P28 x)
 let nX:=nq+wL wRw (P29 x)
 rtM k h g (mkL mkI wI (P12 x) (k+1+1+1+1+1+1+1+1+1+1+1+1)) (mkL Wp0 wRw (P13 x) (gv)) (mkL Wp0 wRw (P14 x) (lL)) (mkL Wvn wMk (P15 x) (gk)) (mkL Wh1 wWd (P16 x) (lg)) (mkL mkI wI (P17 x) (lH)) (mkL Wp0 wRw (P5 (P20 x)) (h+1+1+1+1+1+1+1+1+1+1)) (mkL mkI wI (Q6 (P20 x)) (lI)) (mkL mkI wI (P25 x) (g+1+1+1+1)) (mkL Wp0 wRw (P26 x) (nl)) (mkL Wug wEn (P27 x) (nm)) (mkL mkI wI (P28 x) (no)) (mkL Wp0 wRw (P29 x) (nq)) (mkL Wv7 wKR (Q30 x) (nX))
def wRt(x:Y_Root):Int:=26+(wL wI (P12 x)+wL wRw (P13 x)+wL wRw (P14 x)+wL wMk (P15 x)+wL wWd (P16 x)+wL wI (P17 x)+wL wRw (P5 (P20 x))+wL wI (Q6 (P20 x))+wL wI (P25 x)+wL wRw (P26 x)+wL wEn (P27 x)+wL wI (P28 x)+wL wRw (P29 x)+wL wKR (Q30 x))
theorem Wwb(x:Y_Root):0<=wL wI (P12 x)/\0<=wL wRw (P13 x)/\0<=wL wRw (P14 x)/\0<=wL wMk (P15 x)/\0<=wL wWd (P16 x)/\0<=wL wI (P17 x)/\0<=wL wRw (P5 (P20 x))/\0<=wL wI (Q6 (P20 x))/\0<=wL wI (P25 x)/\0<=wL wRw (P26 x)/\0<=wL wEn (P27 x)/\0<=wL wI (P28 x)/\0<=wL wRw (P29 x)/\0<=wL wKR (Q30 x):=⟨Wde Wob _,Wde Whf _,Wde Whf _,Wde Wvx _,Wde WmX _,Wde Wob _,Wde Whf _,Wde Wob _,Wde Wob _,Wde Whf _,Wde WqU _,Wde Wob _,Wde Whf _,Wde WvZ _⟩
theorem WvX(x:Y_Root):0<=wRt x:=by
 obtain⟨nQ,qH,qI,qJ,qK,qL,qM,qN,qO,qP,qQ,qR,qS,qT⟩:=Wwb x;unfold wRt;omega
def Wvk(x:Y_Root):Prop:=Sm (P12 x)/\Sm (P13 x)/\Sm (P14 x)/\Sm (P15 x)/\Sm (P16 x)/\Sm (P17 x)/\Sm (P5 (P20 x))/\Sm (Q6 (P20 x))/\Sm (P25 x)/\Sm (P26 x)/\Sm (P27 x)/\Sm (P28 x)/\Sm (P29 x)/\Sm (Q30 x)/\(∀y∈P15 x,Wwu y)/\∀y∈Q30 x,Wwj y
def rtE(r:Y_Root)(k h g:Int)(jI:List Int)(jJ:List Kc)(jK:List Kc)(jL:List Kf)(jM:List Kb)(jN:List Int)(jO:List Kc)(jP:List Int)(jQ:List Int)(jR:List Kc)(jS:List Kb)(jT:List Int)(jU:List Kc)(jV:List Y_KidRun):Prop:=r.1=(k)/\r.2.1=(k+1)/\r.2.2.1=(k+1+1)/\r.2.2.2.1=(k+1+1+1)/\P4 r=(k+1+1+1+1)/\P5 r=(k+1+1+1+1+1)/\P6 r=(k+1+1+1+1+1+1)/\P7 r=(k+1+1+1+1+1+1+1)/\P8 r=(k+1+1+1+1+1+1+1+1)/\P9 r=(k+1+1+1+1+1+1+1+1+1)/\P10 r=(k+1+1+1+1+1+1+1+1+1+1)/\P11 r=((Wdj (k+1+1+1+1+1+1+1+1+1+1+1) (3:Int))==(0:Int))/\P12 r=(jI)/\P13 r=(jJ)/\P14 r=(jK)/\P15 r=(jL)/\P16 r=(jM)/\P17 r=(jN)/\P18 r=((Wdj h (3:Int))==(0:Int))/\(P19 r).1=(h+1)/\(P19 r).2.1=(h+1+1)/\(P19 r).2.2.1=(h+1+1+1)/\(P19 r).2.2.2=(h+1+1+1+1)/\(P20 r).1=(h+1+1+1+1+1)/\(P20 r).2.1=(h+1+1+1+1+1+1)/\(P20 r).2.2.1=(h+1+1+1+1+1+1+1)/\(P20 r).2.2.2.1=(h+1+1+1+1+1+1+1+1)/\P4 (P20 r)=(h+1+1+1+1+1+1+1+1+1)/\P5 (P20 r)=(jO)/\Q6 (P20 r)=(jP)/\P21 r=(g)/\P22 r=(g+1)/\P23 r=(g+1+1)/\P24 r=((Wdj (g+1+1+1) (3:Int))==(0:Int))/\P25 r=(jQ)/\P26 r=(jR)/\P27 r=(jS)/\P28 r=(jT)/\P29 r=(jU)/\Q30 r=(jV)
theorem Wxg(k h g:Int)(jI:List Int)(jJ:List Kc)(jK:List Kc)(jL:List Kf)(jM:List Kb)(jN:List Int)(jO:List Kc)(jP:List Int)(jQ:List Int)(jR:List Kc)(jS:List Kb)(jT:List Int)(jU:List Kc)(jV:List Y_KidRun):rtE (rtM k h g jI jJ jK jL jM jN jO jP jQ jR jS jT jU jV) k h g jI jJ jK jL jM jN jO jP jQ jR jS jT jU jV:=⟨rfl,rfl,rfl,rfl,rfl,rfl,rfl,rfl,rfl,rfl,rfl,rfl,rfl,rfl,rfl,rfl,rfl,rfl,rfl,rfl,rfl,rfl,rfl,rfl,rfl,rfl,rfl,rfl,rfl,rfl,rfl,rfl,rfl,rfl,rfl,rfl,rfl,rfl,rfl,rfl⟩
theorem WqD:Wod WvU wRt Wvk Zhk:=by
 intro N l k hN hl hP h0 h1;unfold Zhk;have h:=Wfu (mk:=WvU) (w:=wRt) (P:=Wvk) (lp:=λn k i l=>Zca N (λk10 bm az aJ=>(some ((aJ,()),(k10,())))) n k i l) (K0:=λk10 bm az aJ=>(some ((aJ,()),(k10,())))) WvX
  (λn k p x l hx h0 h1 h2=>by
   obtain⟨cO,dx,g0,mf,tq,tt,tu,tv,tw,tx,tz,tA,tB,tC,sM,sK⟩:=hx;obtain⟨nQ,qH,qI,qJ,qK,qL,qM,qN,qO,qP,qQ,qR,qS,qT⟩:=Wwb x;unfold wRt at*;obtain⟨gv,jI,iS,f12,tD,nh⟩:=mh (Wam (P:=λ_=>True)) WaK hN cO (tT _) (k:=k+1+1+1+1+1+1+1+1+1+1+1+1) (by omega) (by omega);obtain⟨lL,jJ,iT,f13,tE,pK⟩:=mh (WaD (P:=λ_=>True)) WaF hN dx (tT _) (k:=gv) (by omega) (by omega);obtain⟨gk,jK,hD,f14,mR,pL⟩:=mh (WaD (P:=λ_=>True)) WaF hN g0 (tT _) (k:=lL) (by omega) (by omega);obtain⟨lg,jL,uP,f15,tF,pM⟩:=mh (Wkz) WkN hN mf sM (k:=gk) (by omega) (by omega);obtain⟨lH,jM,uQ,f16,tG,pN⟩:=mh (Wkj (P:=λ_=>True)) WkP hN tq (tT _) (k:=lg) (by omega) (by omega);obtain⟨h,jN,uR,f17,tH,pO⟩:=mh (Wam (P:=λ_=>True)) WaK hN tt (tT _) (k:=lH) (by omega) (by omega);obtain⟨lI,jO,uS,f18,tI,pP⟩:=mh (WaD (P:=λ_=>True)) WaF hN tu (tT _) (k:=h+1+1+1+1+1+1+1+1+1+1) (by omega) (by omega);obtain⟨g,jP,uT,f19,tJ,pQ⟩:=mh (Wam (P:=λ_=>True)) WaK hN tv (tT _) (k:=lI) (by omega) (by omega);obtain⟨nl,jQ,uU,f25,tK,pR⟩:=mh (Wam (P:=λ_=>True)) WaK hN tw (tT _) (k:=g+1+1+1+1) (by omega) (by omega);obtain⟨nm,jR,uV,f26,tL,pS⟩:=mh (WaD (P:=λ_=>True)) WaF hN tx (tT _) (k:=nl) (by omega) (by omega);obtain⟨no,jS,uW,f27,tM,pT⟩:=mh (Wg8 (P:=λ_=>True)) Whm hN tz (tT _) (k:=nm) (by omega) (by omega);obtain⟨nq,jT,uX,f28,tN,pU⟩:=mh (Wam (P:=λ_=>True)) WaK hN tA (tT _) (k:=no) (by omega) (by omega);obtain⟨nX,jU,uY,f29,tO,pV⟩:=mh (WaD (P:=λ_=>True)) WaF hN tB (tT _) (k:=nq) (by omega) (by omega);obtain⟨e,jV,uZ,f30,tP,pW⟩:=mh (Wki) Wky hN tC sK (k:=nX) (by omega) (by omega)
   have hm:WvU x k=rtM k h g jI jJ jK jL jM jN jO jP jQ jR jS jT jU jV:=by rw[nh,pK,pL,pM,pN,pO,pP,pQ,pR,pS,pT,pU,pV,pW];subst_vars;rfl
   rw[hm,show k+(26+(wL wI (P12 x)+wL wRw (P13 x)+wL wRw (P14 x)+wL wMk (P15 x)+wL wWd (P16 x)+wL wI (P17 x)+wL wRw (P5 (P20 x))+wL wI (Q6 (P20 x))+wL wI (P25 x)+wL wRw (P26 x)+wL wEn (P27 x)+wL wI (P28 x)+wL wRw (P29 x)+wL wKR (Q30 x)))=e by omega];obtain⟨b1,b2,b3,b4,b5⟩:0<=h/\h+14<=1000000000/\0<=g/\g+4<=1000000000/\k+26<=1000000000:=by omega
   clear hm nh tD nQ pK tE qH pL mR qI pM tF qJ pN tG qK pO tH qL pP tI qM pQ tJ qN pR tK qO pS tL qP pT tM qQ pU tN qR pV tO qS pW tP qT h1;simp(disch:=omega) only[Zca,Wj,WaU,Wag,Wbz,Wah,Wb,nbq,Xdx,Ww9,ia1,iS,iT,hD,uP,uQ,uR,uS,uT,uU,uV,uW,uX,uY,uZ,Xd];rfl)
  (λn k l=>by simp only[Zca,WaY,Wa]) l [] N k hP (by omega) (by simpa using hl) h0 h1
 simpa using h
theorem Wqn:WrA WvU wRt Wvk Zho:=by
 intro N l k hN hl hP h0 h1;unfold Zho;generalize ea:mkL WvU wRt l k=a;have h:=WhZ (mk:=WvU) (w:=wRt) (P:=Wvk) (a:=a) (lp:=λn k i=>Zce N a (some ((),((-1:Int),()))) (λk9 aT aq=>(some ((),(k9,())))) n k i) (K1:=λk9 aT aq=>(some ((),(k9,())))) WvX
  (λn k p x l' ha hx h0 h1 h2=>by
   obtain⟨cO,dx,g0,mf,tq,tt,tu,tv,tw,tx,tz,tA,tB,tC,sM,sK⟩:=hx;obtain⟨nQ,qH,qI,qJ,qK,qL,qM,qN,qO,qP,qQ,qR,qS,qT⟩:=Wwb x;unfold wRt at*;obtain⟨gv,jI,iS,f12,tD,nh⟩:=mh (Wam (P:=λ_=>True)) WaK hN cO (tT _) (k:=k+1+1+1+1+1+1+1+1+1+1+1+1) (by omega) (by omega);obtain⟨lL,jJ,iT,f13,tE,pK⟩:=mh (WaD (P:=λ_=>True)) WaF hN dx (tT _) (k:=gv) (by omega) (by omega);obtain⟨gk,jK,hD,f14,mR,pL⟩:=mh (WaD (P:=λ_=>True)) WaF hN g0 (tT _) (k:=lL) (by omega) (by omega);obtain⟨lg,jL,uP,f15,tF,pM⟩:=mh (Wkz) WkN hN mf sM (k:=gk) (by omega) (by omega);obtain⟨lH,jM,uQ,f16,tG,pN⟩:=mh (Wkj (P:=λ_=>True)) WkP hN tq (tT _) (k:=lg) (by omega) (by omega);obtain⟨h,jN,uR,f17,tH,pO⟩:=mh (Wam (P:=λ_=>True)) WaK hN tt (tT _) (k:=lH) (by omega) (by omega);obtain⟨lI,jO,uS,f18,tI,pP⟩:=mh (WaD (P:=λ_=>True)) WaF hN tu (tT _) (k:=h+1+1+1+1+1+1+1+1+1+1) (by omega) (by omega);obtain⟨g,jP,uT,f19,tJ,pQ⟩:=mh (Wam (P:=λ_=>True)) WaK hN tv (tT _) (k:=lI) (by omega) (by omega);obtain⟨nl,jQ,uU,f25,tK,pR⟩:=mh (Wam (P:=λ_=>True)) WaK hN tw (tT _) (k:=g+1+1+1+1) (by omega) (by omega);obtain⟨nm,jR,uV,f26,tL,pS⟩:=mh (WaD (P:=λ_=>True)) WaF hN tx (tT _) (k:=nl) (by omega) (by omega);obtain⟨no,jS,uW,f27,tM,pT⟩:=mh (Wg8 (P:=λ_=>True)) Whm hN tz (tT _) (k:=nm) (by omega) (by omega);obtain⟨nq,jT,uX,f28,tN,pU⟩:=mh (Wam (P:=λ_=>True)) WaK hN tA (tT _) (k:=no) (by omega) (by omega);obtain⟨nX,jU,uY,f29,tO,pV⟩:=mh (WaD (P:=λ_=>True)) WaF hN tB (tT _) (k:=nq) (by omega) (by omega);obtain⟨e,jV,uZ,f30,tP,pW⟩:=mh (Wki) Wky hN tC sK (k:=nX) (by omega) (by omega)
   have hm:WvU x k=rtM k h g jI jJ jK jL jM jN jO jP jQ jR jS jT jU jV:=by rw[nh,pK,pL,pM,pN,pO,pP,pQ,pR,pS,pT,pU,pV,pW];subst_vars;rfl
   obtain⟨⟨b1,b2,b3,b4,b5⟩,mU,n13,mV,n15,n16,n17,n18,n19,n25,n26,n27,n28,n29,n30⟩:(0<=h/\h+14<=1000000000/\0<=g/\g+4<=1000000000/\k+26<=1000000000)/\0<=gv/\0<=lL/\0<=gk/\0<=lg/\0<=lH/\0<=h/\0<=lI/\0<=g/\0<=nl/\0<=nm/\0<=no/\0<=nq/\0<=nX/\0<=e:=by omega
   have he:k+(26+(wL wI (P12 x)+wL wRw (P13 x)+wL wRw (P14 x)+wL wMk (P15 x)+wL wWd (P16 x)+wL wI (P17 x)+wL wRw (P5 (P20 x))+wL wI (Q6 (P20 x))+wL wI (P25 x)+wL wRw (P26 x)+wL wEn (P27 x)+wL wI (P28 x)+wL wRw (P29 x)+wL wKR (Q30 x)))=e:=by omega
   clear nh tD nQ pK tE qH pL mR qI pM tF qJ pN tG qK pO tH qL pP tI qM pQ tJ qN pR tK qO pS tL qP pT tM qQ pU tN qR pV tO qS pW tP qT h1;obtain⟨r,hr⟩:∃r,r=rtM k h g jI jJ jK jL jM jN jO jP jQ jR jS jT jU jV:=⟨_,rfl⟩;rw[hm,←hr]at ha;obtain⟨p0,p1,p2,p3,p4,p5,p6,p7,p8,p9,rf,u0,u3,u4,u5,u6,u7,u9,vc,vd,ve,vf,vg,vi,vk,vm,vn,vo,vp,vq,vr,vt,vu,vv,vx,vy,vz,vA,vC,vD⟩:rtE r k h g jI jJ jK jL jM jN jO jP jQ jR jS jT jU jV:=by rw[hr];exact Wxg ..
   rw[he,ha];simp only[Zce,WaU,Wag,Wah,Wb,Wj,p0,p1,p2,p3,p4,p5,p6,p7,p8,p9,rf,u0,u3,u4,u5,u6,u7,u9,vc,vd,ve,vf,vg,vi,vk,vm,vn,vo,vp,vq,vr,vt,vu,vv,vx,vy,vz,vA,vC,vD];clear p0 p1 p2 p3 p4 p5 p6 p7 p8 p9 rf u0 u3 u4 u5 u6 u7 u9 vc vd ve vf vg vi vk vm vn vo vp vq vr vt vu vv vx vy vz vA vC vD ha hr hm;simp(disch:=omega) only[ia1,WB,Wb,Wa,Ww9,Waq,f12,f13,f14,f15,f16,f17,f18,f19,f25,f26,f27,f28,f29,f30,ret,Xd,lt0])
  (λn k=>by simp only[Zce,WaY,Wa]) l [] N k (by rw[←ea];rfl) hP (by omega) (by simpa using hl) h0 h1
 exact h
theorem Wxn(l:List Kf):wL wMk l<=4*(WcJ l:Int):=WqS l λx _=>by unfold wMk Whz Way;rw[WwZ];push_cast;omega
theorem Wxl(l:List Kn):wL wWr l<=2*(WcV l:Int):=WqS l λx _=>by unfold wWr Wd7 Wer;rw[WvS];push_cast;omega
theorem WpU(x:Y_Root):WfJ x=(P12 x).length+(P13 x).length+(P14 x).length+WcJ (P15 x)+(P16 x).length+(P17 x).length+((P5 (P20 x)).length+(Q6 (P20 x)).length)+((P25 x).length+(P26 x).length+(P27 x).length+(P28 x).length+(P29 x).length+Wb0 (Q30 x)):=rfl
theorem Wxj(l:List Y_Root):wL wRt l<=26*(Wd5 l:Int):=WqS l λx _=>by
 rw[WpU];unfold wRt;have c1:=Wxn (P15 x);have c2:=Wxh (Q30 x);simp only[WwZ,WvS,WwI,Wvj]
 push_cast
 omega
theorem Wxs{x:Y_Root}(h:WfJ x<=1048576):Wvk x:=by
 rw[WpU]at h;have l1:(P15 x).length<=WcJ (P15 x):=Wjg;have l2:(Q30 x).length<=Wb0 (Q30 x):=WgA;unfold Wvk Sm;refine⟨by omega,by omega,by omega,by omega,by omega,by omega,by omega,by omega,by omega,by omega,by omega,by omega,by omega,by omega,λy hy=>?_,λy hy=>Wxb ?_⟩
 .have:=WiM hy;unfold Whz Way at this;show y.2.2.2.2.length<=1500000;omega
 .have:=WgJ hy;omega
def wWo(x:Y_World):Int:=wL wWd x.2.2.1.2+wL wI x.2.2.2.1.1+wL wWd (P4 x)+wL wRt (P5 x)+wL wWr (Q6 x)
theorem Wq5{N:Nat}{x:Y_World}(hN:1600000<N)(h:Who x<=1048576):0<=1+wWo x/\∃y,Zml N x 1=some ((y,()),(1+wWo x,()))/\
  Zjw N (x.1,(x.2.1,((x.2.2.1.1,y.2.2.1.2),((y.2.2.2.1.1,x.2.2.2.1.2),y.2.2.2.2)))) 1=ret (1+wWo x):=by
 have e:Who x=x.2.2.1.2.length+x.2.2.2.1.1.length+(P4 x).length+Wd5 (P5 x)+WcV (Q6 x):=rfl;rw[e]at h;have l1:(P5 x).length<=Wd5 (P5 x):=WjG;have l2:(Q6 x).length<=WcV (Q6 x):=WhQ;have c1:=Wvj x.2.2.1.2;have c2:=WwZ x.2.2.2.1.1;have c3:=Wvj (P4 x);have c4:=Wxj (P5 x);have c5:=Wxl (Q6 x);have d4:=Wde WvX (P5 x);have d5:=Wde Wvg (Q6 x);have s4:∀y∈P5 x,Wvk y:=λy hy=>Wxs (by have:=Wjk hy;omega);have s5:∀y∈Q6 x,Ww2 y:=λy hy=>by
  have:=Whs hy;unfold Wd7 Wer at this;show y.2.2.length<=1500000;omega
 obtain⟨k1,m1,e1,f1,d1,-⟩:=mh (WqT (P:=λ_=>True)) Wq6 hN (l:=x.2.2.1.2) (k:=1) (by omega) (tT _) (by omega) (by omega);obtain⟨k2,m2,e2,f2,d2,-⟩:=mh (Wam (P:=λ_=>True)) WaK hN (l:=x.2.2.2.1.1) (k:=k1) (by omega) (tT _) (by omega) (by omega);obtain⟨k3,m3,e3,f3,d3,-⟩:=mh (Wqp (P:=λ_=>True)) Wqq hN (l:=P4 x) (k:=k2) (by omega) (tT _) (by omega) (by omega);obtain⟨k4,m4,e4,f4,d4,-⟩:=mh WqD Wqn hN (l:=P5 x) (k:=k3) (by omega) s4 (by omega) (by omega);obtain⟨k5,m5,e5,f5,d5,-⟩:=mh WqF WqX hN (l:=Q6 x) (k:=k4) (by omega) s5 (by omega) (by omega);have hk:1+wWo x=k5:=by unfold wWo;omega
 rw[hk];refine⟨by omega,(x.1,x.2.1,(x.2.2.1.1,m1),(m2,x.2.2.2.1.2),m3,m4,m5),?_,?_⟩
 .unfold Zml Zrf Zqg;rw[show x.2.2.2.2.1=P4 x from rfl,show x.2.2.2.2.2.1=P5 x from rfl,show x.2.2.2.2.2.2=Q6 x from rfl];simp only[e1,e2,e3,e4,e5,Xd]
 .unfold Zjw Zrg Zqh;simp(disch:=omega) only[P4,P5,Q6,f1,f2,f3,f4,f5,ret,Xd,lt0,Wa]
end
section
variable{n:Int}{w:Wo}{x:Rt}{p:Pg}{ps:List Pg}
theorem Wko{α:Type}{z:α->Nat}{c:Nat}:∀(l:List α),(∀x∈l,z x<=c)->(l.map z).sum<=c*l.length
 | [],_=>by simp
 |x::l,h=>by
  have h1:=h x (Xj ..);have h2:=Wko l λy hy=>h y (Xf _ hy);rw[Xaf,Xcn,Xr,Nat.mul_add];omega
theorem Wwz(hp:POk p)(h:FOk p.2 n x.fam)(hz:RZ x):Wfr x.fam.e<=3000:=by
 have hl:=h.len;have h3:=hp.k3;have hk:∀y∈x.fam.kids.map Kd.e,Wck y<=300:=by
  intro y hy;obtain⟨x',hx,rfl⟩:=Xw.1 hy;have hm:=hz.kd x' hx;obtain⟨i,hi,rfl⟩:=Xdt.1 hx;have nk:=h.kid i hi;have cP:(p.2.getD i []).length<=24:=by
   rw[WF (show i<p.2.length by omega)];exact(hp.kids _ (Xv _)).len
  generalize x.fam.kids[i]=y at*;have r1:=nk.regs.len;have r2:=nk.wl;have r3:=nk.sl;have r4:=nk.pc;have:WaQ y.marks<=24+4*24:=by
   unfold WaQ;have:=Wko (z:=Wcq) (c:=4) y.marks λz hz=>hm.2 z hz;have:=hm.1;omega
  show y.regs.length+y.seen.length+y.writes.length+WaQ y.marks<=300;omega
 have hs:=Wko _ hk;rw[Xu]at hs;have b1:=h.regs.len;have b2:=h.buf8;have b3:=h.len3 (show p.2.length<=3 by omega);have b4:=h.readsL;have b5:=hz.st;show x.fam.regs.length+x.fam.start.length+x.fam.buf.length+x.fam.order.length+x.fam.reads.length+((x.fam.kids.map Kd.e).length+((x.fam.kids.map Kd.e).map Wck).sum)<=3000;rw[Xu];omega
theorem WvA(hp:POk p)(h:ROk p n x)(hz:RZ x):WfJ x.e<=4000:=by
 have c:x.cm.puts.length+x.cm.reads.length<=16:=by
  by_cases h5:x.phase=5
  .have:=h.comm h5;have a:=this.plen;have b:=this.rlen;omega
  .rw[hz.cm h5];decide
 have f:Wfr x.fam.e<=3000:=by
  by_cases h2:x.phase=2
  .exact Wwz hp ((h.live (by omega)).fork h2).2.2 hz
  .rw[hz.fm h2];decide
 have m:WcJ x.marks<=24+4*24:=by
  unfold WcJ;have:=Wko (z:=Whz) (c:=4) x.marks λz h=>hz.mr z h;have:=hz.ml;omega
 have a1:=hz.rd;have a2:=hz.wr;have a3:=h.ul;have a4:=h.rg;have a5:=h.ord;show x.regs.length+x.reads.length+x.writes.length+WcJ x.marks+x.undos.length+x.order.length+(x.cm.puts.length+x.cm.reads.length)+Wfr x.fam.e<=4000;omega
theorem Wuy(h:WOk ps n w)(hn:n<=99000)(hz:WZ w):Who w.e<=1048576:=by
 have h4:=h.l4;have hl:=h.len;have hr:∀y∈w.roots.map Rt.e,WfJ y<=4000:=by
  intro y hy;obtain⟨x,hx,rfl⟩:=Xw.1 hy;have hm:=hz x hx;obtain⟨i,hi,rfl⟩:=Xdt.1 hx;exact WvA (by rw[WF (show i<ps.length by omega)];exact h.progs _ (Xv _)) (h.root i hi) hm
 have hs:=Wko _ hr;rw[Xu]at hs;have hh:=Wko (z:=Wd7) (c:=8) w.hist λy hy=>(h.histE y hy).1;have h5:=h.hist;have h6:=(WC h.mem).1;have h7:=Wd8 h.holds;have h8:=h.shelf.slots.len;show w.mem.2.length+w.shelf.1.length+w.holds.length+((w.roots.map Rt.e).length+((w.roots.map Rt.e).map WfJ).sum)+(w.hist.length+(w.hist.map Wd7).sum)<=1048576;rw[Xu];omega
end
section
theorem Wru{P:Kb->Prop}:Wod Wh1 wWd P Zh7:=by
 intro N l k hN hl hP h0 h1;unfold Zh7;have h:=Wfu (mk:=Wh1) (w:=wWd) (P:=λ_=>True) (lp:=λn k i l=>Zcv N (λk10 bm az aJ=>(some ((aJ,()),(k10,())))) n k i l) (K0:=λk10 bm az aJ=>(some ((aJ,()),(k10,())))) WmX
  (λn k p x l _ h0 h1 h2=>by
   unfold wWd at h1;simp(disch:=omega) only[Zcv,Wj,WaU,Wag,Wbz,Wah,Wb,ia1,wWd,Wh1]
   try rw[show k+3=k+1+1+1 by omega])
  (λn k l=>by simp only[Zcv,WaY,Wa]) l [] N k (λ_ _=>trivial) (by omega) (by simpa using hl) h0 h1
 simpa using h
abbrev PgT:=List Ka×List Kz
def WxF(x:PgT)(k:Int):PgT:=(mkL WwE wOp x.1 k,mkL Wxt wKd x.2 (k+wL wOp x.1))
def wPg(x:PgT):Int:=wL wOp x.1+wL wKd x.2
theorem Wwr(x:PgT):0<=wPg x:=by
 have:=Wde Wtu x.1;have:=Wde Wvm x.2;unfold wPg;omega
def Wxe(x:PgT):Prop:=Sm x.1/\Sm x.2/\∀y∈x.2,Sm y
theorem WqA:Wod WxF wPg Wxe Zhg:=by
 intro N l k hN hl hP h0 h1;unfold Zhg;have h:=Wfu (mk:=WxF) (w:=wPg) (P:=Wxe) (lp:=λn k i l=>Zb6 N (λk10 bm az aJ=>(some ((aJ,()),(k10,())))) n k i l) (K0:=λk10 bm az aJ=>(some ((aJ,()),(k10,())))) Wwr
  (λn k p x l hx h0 h1 h2=>by
   have hw:=Wde Wtu x.1;have xH:=Wde Wvm x.2;unfold wPg at h1;simp(disch:=omega) only[Zb6,Wj,WaU,Wag,Wbz,Wah,Wb,nbq,Xdx,ia1];rw[WkC (P:=λ_=>True) hN hx.1 (λ_ _=>trivial) h0 (by omega),Xd,Wqg hN hx.2.1 hx.2.2 (by dsimp only;omega) (by dsimp only;omega)];simp only[Xd,wPg];rw[show k+wL wOp x.1+wL wKd x.2=k+(wL wOp x.1+wL wKd x.2) by omega];rfl)
  (λn k l=>by simp only[Zb6,WaY,Wa]) l [] N k hP (by omega) (by simpa using hl) h0 h1
 simpa using h
theorem Wvs:∀l:List Int,wL wI l=l.length
 | []=>rfl
 |x::l=>by rw[wL,Wvs l,Xr];unfold wI;omega
theorem WrF:∀l:List Ka,wL wOp l=4*l.length
 | []=>rfl
 |x::l=>by rw[wL,WrF l,Xr];unfold wOp;omega
theorem WuG:∀l:List Kb,wL wWd l=3*l.length
 | []=>rfl
 |x::l=>by rw[wL,WuG l,Xr];unfold wWd;omega
theorem WuL:∀l:List Kz,wL wKd l<=4*WbJ l
 | []=>by simp[wL,WbJ]
 |x::l=>by
  have:=WuL l;rw[wL];unfold WbJ at*;simp only[Xr,Xaf,Xcn];have hx:Wfv x=x.length:=rfl;have hy:wKd x=4*x.length:=WrF x;omega
theorem Wu1:∀l:List PgT,wL wPg l<=4*Wa0 l
 | []=>by simp[wL,Wa0]
 |x::l=>by
  have:=Wu1 l;have h1:=WuL x.2;rw[wL];unfold Wa0 at*;simp only[Xr,Xaf,Xcn];have hy:wPg x=4*x.1.length+wL wKd x.2:=by unfold wPg;rw[WrF]
  have hx:WcN x=x.1.length+WbJ x.2:=rfl;omega
theorem WjP{N:Nat}{s:Ki×List PgT×List Kb}(hN:1600000<N)(h:Wbx s<=1048576):∃s' k,Zlq N s 1=some ((s',()),(k,()))/\0<=k:=by
 unfold Wbx Wbg Way WdK at h;have c1:=Wvs s.1.1;have c2:=Wvs s.1.2.1;have c3:=Wu1 s.2.1;have d3:=Wde Wwr s.2.1;have c4:=WuG s.2.2;have l3:s.2.1.length<=Wa0 s.2.1:=Wek;have s3:∀x∈s.2.1,Wxe x:=λx hx=>by
  have hm:=Wec hx;unfold WcN WeN at hm;have lk:x.2.length<=WbJ x.2:=Wff;refine⟨by show x.1.length<=1500000;omega,by show x.2.length<=1500000;omega,λy hy=>?_⟩;have:=Wfo hy;unfold Wfv WeN at this;show y.length<=1500000;omega
 unfold Zlq Zpk;rw[Wam (P:=λ_=>True) hN (by omega) (λ_ _=>trivial) (by omega) (by omega),Xd,
   Wam (P:=λ_=>True) hN (by omega) (λ_ _=>trivial) (by dsimp only;omega) (by dsimp only;omega),Xd,Xd,
   WqA hN (by omega) s3 (by dsimp only;omega) (by dsimp only;omega),Xd,
   Wru (P:=λ_=>True) hN (by omega) (λ_ _=>trivial) (by dsimp only;omega) (by dsimp only;omega),Xd]
 refine⟨_,_,rfl,?_⟩;dsimp only;omega
end
section
variable{N:Nat}{s:Sc}
theorem Wt9(hN:1600000<N)(hw:Wfd (.prod (.prod (.slice (.int .i64)) (.prod (.slice (.int .i64)) (.int .i64))) (.prod (.slice (.prod (.slice (.prod (.int .i64) (.prod (.int .i64) (.prod (.int .i64) (.int .i64))))) (.slice (.slice (.prod (.int .i64) (.prod (.int .i64) (.prod (.int .i64) (.int .i64)))))))) (.slice (.prod (.int .i64) (.prod (.int .i64) (.int .i64)))))) s):Zhw N s=some ((),(true,())):=by
 unfold Zhw;have hN':1048576<N:=by omega
 rw[WqZ hN' (by omega) (by omega) hw];simp only[ret,Xd];by_cases hz:(1048576:Int)<(Wbx s:Int)
 .rw[Wf hz];rfl
 .rw[Wc hz,lt0 (by omega),Wa];have mp:Wbx s<=1048576:=by omega
  have hb:SB s:=by
   unfold Wbx Wbg Way WdK at mp;have l4:s.2.1.length<=Wa0 s.2.1:=Wek;refine⟨by omega,by omega,by omega,λp hp=>?_,by omega⟩;have h1:=Wec hp;unfold WcN WeN at h1;have h2:p.2.length<=WbJ p.2:=Wff;refine⟨by omega,by omega,λc hc=>?_⟩;have h3:=Wfo hc;unfold Wfv WeN at h3;omega
  have gr:=Wt0 hb hN';have vE:=Wtc hb hN';obtain⟨s',k,hm,xZ⟩:=WjP hN mp;have tQ:Who (if WpN s=true then(Wtp s).e else d_World)<=1048576:=by
   split
   .rename_i hs;have h0:=Wpj hs;have h1:=(WjC hs).2.2.1;exact Wuy (WsE s.2.2 0 _ h0) (by omega) (WsF s.2.2 0 _ h0 Wvt)
   .decide
  generalize (if WpN s=true then(Wtp s).e else d_World)=v at gr vE tQ;obtain⟨v0,y,v1,v2⟩:=Wq5 hN tQ;rw[Wrh mp hN'];simp only[ret,Xd,gr,vE];rw[WvM hN' tQ,Wuj hN' mp];simp only[ret,Xd,Xk,Wa];rw[hm];simp only[Xd,lt0 xZ,Wa];rw[v1];simp only[Xd];rw[v2];simp only[ret,Xd];rw[lt0 (by omega),Wa,WB];rfl
theorem law_FnExactPlay(d:WfE [.v (.prod (.prod (.slice (.int .i64)) (.prod (.slice (.int .i64)) (.int .i64))) (.prod (.slice (.prod (.slice (.prod (.int .i64) (.prod (.int .i64) (.prod (.int .i64) (.int .i64))))) (.slice (.slice (.prod (.int .i64) (.prod (.int .i64) (.prod (.int .i64) (.int .i64)))))))) (.slice (.prod (.int .i64) (.prod (.int .i64) (.int .i64)))))) false])(hw:Wqc [.v (.prod (.prod (.slice (.int .i64)) (.prod (.slice (.int .i64)) (.int .i64))) (.prod (.slice (.prod (.slice (.prod (.int .i64) (.prod (.int .i64) (.prod (.int .i64) (.int .i64))))) (.slice (.slice (.prod (.int .i64) (.prod (.int .i64) (.prod (.int .i64) (.int .i64)))))))) (.slice (.prod (.int .i64) (.prod (.int .i64) (.int .i64)))))) false] d):∃N o,Zhw N d.1=some (o,(true,())):=
 ⟨1600001,(),Wt9 (N:=1600001) (by omega) hw.1⟩
end
end Go.Sx
