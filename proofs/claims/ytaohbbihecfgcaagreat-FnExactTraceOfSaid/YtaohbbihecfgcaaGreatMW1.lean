/- Plain laws of the Lean functions. -/
import Derived.Test.YtaohbbihecfgcaaGreatT2
open Option renaming bind_some→Xd
open Nat renaming le_refl→Xl,zero_add→Xat,le_trans→Xbe,add_zero→Xbd,add_assoc→Xay,sub_zero→Xdf
open List renaming mem_cons→Xr,append→Xg,length_cons→Xq,mem_cons_self→Xj,append_eq→Xaz,mem_cons_of_mem→Xf,all_eq_true→Xae,getD→Xc,set→Xe,set_set→Xcq,take_succ_eq_append_getElem→Xcc,countP_le_length→Xeg,length→Xb,length_append→Xw,length_dropLast→Xdb,append_inj'→Xec,append_assoc→Xaw,cons_append→Xbb,dropLast_concat→Xej,getElem_mem→Xab,length_set→Xav,length_nil→Xbq,pairwise_cons→Xt,mergeSort_perm→Xgi,getElem_of_mem→Xbu,pairwise_iff_getElem→Xap,mem_iff_getElem→Xgg,getElem_set→Xci,range→Xcz,replicate→Xp,map_append→Xy,map_cons→Xaf,map_nil→Xce,map_set→Xdw,length_map→Xx,take→Xaj,set_getElem_self→Xba,range'→Xfu,mem_range'_1→Xff,mem_append→Xn,pairwise_append→Xah,mem_singleton→Xag,getElem?_eq_getElem→Xs,drop_length→Xbr,drop_eq_getElem_cons→Xai,drop_zero→Xak,countP_set→Xgt,length_singleton→Xgb,mem_map→Xv,nil_append→Xaq
open Bool renaming not_true→Xo,and_eq_true→Xi,or_eq_true→Xcr,not_eq_true'→Xao,not_eq_true→Xfm,false_or→Xez,toNat_false→Xfl,false_and→Xeq,true_and→Xbv,or_eq_false_iff→Xdr,not_eq_false'→Xew
open Int renaming toNat→Xa,toNat_natCast→Xk,le_refl→Xcs
namespace Go.Sx
set_option linter.unusedVariables false
set_option linter.unusedSimpArgs false
section
abbrev Cur:=List Int×Int×Int
def Wtx(c:Cur):Prop:=0<=c.2.1/\c.2.1<=c.1.length/\c.1.length<=1048576
end
section

end
section
def Wa2(v:Int):Bool:=decide (0<=v)&&decide (v<=65535)
theorem Wcn{N:Nat}{x a b:Int}:Zf N x a b=ret (decide (a<=x)&&decide (x<=b)):=by
 unfold Zf;by_cases h:a<=x<;>simp[h]
theorem WX{N:Nat}{x a b:Int}:Zg N x a b=ret (decide (a<=x)&&decide (x<=b)):=by
 unfold Zg;by_cases h:a<=x<;>simp[h]
theorem Wa4{α:Type}{p:α->Bool}(l:List α):(l.any λx=>!p x)= !l.all p:=by
 grind
abbrev Rw:=Int×Int
def Wam(v:Int):Bool:=decide (0<=v)&&decide (v<=7)
def Wh9(r:Rw):Bool:=Wam r.1&&Wa2 r.2
def Wad(l:List Rw):Bool:=decide (l.length<=300)&&l.all Wh9
def WcT(l:List Int):Bool:=decide (l.length=8)&&l.all Wa2
theorem Wae{N:Nat}{v:Int}:Zau N v=ret (Wa2 v):=by
 unfold Zau;simp only[Wcn,ret,Xd];rfl
theorem War{N:Nat}{v:Int}:Zan N v=ret (Wa2 v):=by
 unfold Zan;simp only[WX,ret,Xd];rfl
theorem Wbr{N:Nat}{v:Int}:Zcd N v=ret (Wam v):=by
 unfold Zcd;simp only[Wcn,ret,Xd];rfl
theorem Wax{N:Nat}{v:Int}:Zbd N v=ret (Wam v):=by
 unfold Zbd;simp only[WX,ret,Xd];rfl
theorem Whh{N:Nat}{l:List Int}(hl:l.length<=1048576)(hN:1048576<N):Zh9 N l=ret (WcT l):=by
 unfold Zh9 WcT;by_cases h:l.length=8
 .have e:(Wh l !=8)=false:=by simp[Wh,h]
  rw[e];simp only[Wc];have h1:=Wy (l:=l) (V:=Unit) (R:=Unit×Kq) (lp:=λn j v=>Zdu N l (some ((),(false,()))) (λi8 t9=>some ((),(true,()))) n j) (n:=N) (by omega)
   (body:=λj x v k=>bif !Wa2 x then some ((),(false,()))else k v) (K:=λ_ v=>some ((),(true,())))
   (λn i v hi=>by simp only[Zdu,WF hi,Wu hi,Ww hi,Wm (show i<4611686018427387904 by omega),Wa,Wae,ret,Xd])
   (λn v=>by simp[Zdu,WO,Xl,Wc]) ()
  refine h1.trans ?_;rw[W4 (p:=λx=>!Wa2 x) (E:=λ_=>some ((),(false,()))) l 0 () (λj x v k _=>rfl),Wa4];cases l.all Wa2<;>simp[h]
 grind [Wh]
theorem Wg2{N:Nat}{l:List Int}(hl:l.length<=1048576)(hN:1048576<N):Z8 N l 8=ret (WcT l):=by
 unfold Z8 WcT;have h1:=Wy (l:=l) (V:=Unit) (R:=Unit×Kq) (lp:=λn j v=>Zap N l 8 (some ((),(false,()))) (λi8 t9=>some ((),((Wh l)==(8:Int),()))) n j) (n:=N) (by omega)
  (body:=λj x v k=>bif !Wa2 x then some ((),(false,()))else k v) (K:=λ_ v=>some ((),((Wh l)==(8:Int),())))
  (λn i v hi=>by simp only[Zap,WF hi,Wu hi,Ww hi,Wm (show i<4611686018427387904 by omega),Wa,War,ret,Xd])
  (λn v=>by simp[Zap,WO,Xl,Wc]) ()
 refine h1.trans ?_;rw[W4 (p:=λx=>!Wa2 x) (E:=λ_=>some ((),(false,()))) l 0 () (λj x v k _=>rfl),Wa4];have e:((Wh l)==(8:Int))=decide (l.length=8):=by
  grind [Wh]
 rw[e];cases l.all Wa2<;>simp
theorem Wc6{N:Nat}{l:List Rw}(hl:l.length<=1048576)(hN:1048576<N):Zeo N l=ret (Wad l):=by
 unfold Zeo Wad;by_cases h:l.length<=300
 .have e:decide (Wh l>300)=false:=by simp[Wh];omega
  rw[e];simp only[Wc];have h1:=Wy (l:=l) (V:=Unit) (R:=Unit×Kq) (lp:=λn j v=>Zdw N l (some ((),(false,()))) (λi8 t9=>some ((),(true,()))) n j) (n:=N) (by omega)
   (body:=λj x v k=>bif !Wh9 x then some ((),(false,()))else k v) (K:=λ_ v=>some ((),(true,())))
   (λn i v hi=>by
    simp only[Zdw,WF hi,Wu hi,Ww hi,Wm (show i<4611686018427387904 by omega),Wa,Wae,Wbr,ret,Xd,Wh9];cases Wam l[i].1<;>rfl)
   (λn v=>by simp[Zdw,WO,Xl,Wc]) ()
  refine h1.trans ?_;rw[W4 (p:=λx=>!Wh9 x) (E:=λ_=>some ((),(false,()))) l 0 () (λj x v k _=>rfl),Wa4];cases l.all Wh9<;>simp[h]
 grind [decide,Wh]
theorem Wcg{N:Nat}{l:List Rw}(hl:l.length<=1048576)(hN:1048576<N):Zdf N l=ret (Wad l):=by
 unfold Zdf Wad;have h1:=Wy (l:=l) (V:=Unit) (R:=Unit×Kq) (lp:=λn j v=>Zd0 N l (some ((),(false,()))) (λi8 t9=>some ((),(decide ((Wh l)<=(300:Int)),()))) n j) (n:=N) (by omega)
  (body:=λj x v k=>bif !Wh9 x then some ((),(false,()))else k v) (K:=λ_ v=>some ((),(decide ((Wh l)<=(300:Int)),())))
  (λn i v hi=>by
   simp only[Zd0,WF hi,Wu hi,Ww hi,Wm (show i<4611686018427387904 by omega),Wa,War,Wax,ret,Xd,Wh9];cases Wam l[i].1<;>rfl)
  (λn v=>by simp[Zd0,WO,Xl,Wc]) ()
 refine h1.trans ?_;rw[W4 (p:=λx=>!Wh9 x) (E:=λ_=>some ((),(false,()))) l 0 () (λj x v k _=>rfl),Wa4];have e:decide (Wh l<=300)=decide (l.length<=300):=by apply decide_eq_decide.2;simp[Wh];omega
 rw[e];cases l.all Wh9<;>simp
theorem Woc{α:Type}{l:List α}(h:l.length<=1048576):Wz l.length=true:=by grind [Wz]
end
section
abbrev Opn:=Int×Int×Int×Int
def W3(v:Int):Bool:=decide (0<=v)&&decide (v<=3)
def Wem(v:Int):Bool:=decide (0<=v)&&decide (v<=7)
theorem Wn3{N:Nat}{v:Int}:Zbv N v=ret (W3 v):=by
 unfold Zbv;simp only[Wcn,ret,Xd];rfl
theorem WmZ{N:Nat}{v:Int}:Zbw N v=ret (W3 v):=by
 unfold Zbw;simp only[WX,ret,Xd];rfl
theorem WnY{N:Nat}{v:Int}:Za4 N v=ret (Wem v):=by
 unfold Za4;simp only[WX,ret,Xd];rfl
def Wdx(o:Opn):Bool:=
 bif o.1==1 then W3 o.2.1&&Wa2 o.2.2.1&&(o.2.2.2==(0:Int))else
 bif o.1==2 then W3 o.2.1&&W3 o.2.2.1&&W3 o.2.2.2 else
 bif o.1==3 then W3 o.2.1&&W3 o.2.2.1&&W3 o.2.2.2 else
 bif o.1==4 then W3 o.2.1&&W3 o.2.2.1&&W3 o.2.2.2 else
 bif o.1==5 then W3 o.2.1&&Wam o.2.2.1&&(o.2.2.2==(0:Int))else
 bif o.1==6 then Wam o.2.1&&W3 o.2.2.1&&(o.2.2.2==(0:Int))else
 bif o.1==7 then W3 o.2.1&&(decide (1<=o.2.2.1)&&decide (o.2.2.1<=20))&&(o.2.2.2==(0:Int))else
 bif o.1==8 then W3 o.2.1&&(o.2.2.1==(0:Int))&&(o.2.2.2==(0:Int))else
 bif o.1==9 then(o.2.1==(0:Int))&&(o.2.2.1==(0:Int))&&(o.2.2.2==(0:Int))else
 bif o.1==10 then(o.2.1==(0:Int))&&(o.2.2.1==(0:Int))&&(o.2.2.2==(0:Int))else
 bif o.1==11 then(o.2.1==(0:Int))&&(o.2.2.1==(0:Int))&&(o.2.2.2==(0:Int))else
 bif o.1==12 then Wem o.2.1&&W3 o.2.2.1&&W3 o.2.2.2 else
 bif o.1==13 then W3 o.2.1&&Wem o.2.2.1&&(o.2.2.2==(0:Int))else
 bif o.1==14 then Wem o.2.1&&W3 o.2.2.1&&(o.2.2.2==(0:Int))else
 bif o.1==15 then W3 o.2.1&&(o.2.2.1==(0:Int))&&(o.2.2.2==(0:Int))else
 bif o.1==16 then W3 o.2.1&&(o.2.2.1==(0:Int))&&(o.2.2.2==(0:Int))else
 false
abbrev Bo:=Option Ke
def oA(p k:Bo):Bo:=p.bind λo=>bif o.2.1 then k else some ((),(false,()))
def oB(p:Bo):Bo:=p.bind λo=>some ((),(o.2.1,()))
theorem o3{T P Q R:Bo}{p q r:Bool}(h:T=oA P (oA Q (oB R)))(hp:P=ret p)(hq:Q=ret q)(hr:R=ret r):T=ret (p&&q&&r):=by
 rw[h,hp,hq,hr];cases p<;>cases q<;>rfl
theorem z0(v:Int):(ret (v==(0:Int)):Bo)=ret (v==(0:Int)):=rfl
theorem sR(N:Nat)(v:Int):Zbv N v=ret (W3 v):=Wn3
theorem sV(N:Nat)(v:Int):Zau N v=ret (Wa2 v):=Wae
theorem sC(N:Nat)(v:Int):Zcd N v=ret (Wam v):=Wbr
theorem sK(N:Nat)(v:Int):Zf N v 0 7=ret (Wem v):=Wcn
theorem sI(N:Nat)(v:Int):Zf N v 1 20=ret (decide (1<=v)&&decide (v<=20)):=Wcn
theorem iR(N:Nat)(v:Int):Zbw N v=ret (W3 v):=WmZ
theorem iV(N:Nat)(v:Int):Zan N v=ret (Wa2 v):=War
theorem iC(N:Nat)(v:Int):Zbd N v=ret (Wam v):=Wax
theorem iK(N:Nat)(v:Int):Za4 N v=ret (Wem v):=WnY
theorem iI(N:Nat)(v:Int):Zg N v 1 20=ret (decide (1<=v)&&decide (v<=20)):=WX
def kds:List Int:=[1,2,3,4,5,6,7,8,9,10,11,12,13,14,15,16]
theorem Wus{P:Int->Prop}(h1:P 1)(h2:P 2)(h3:P 3)(h4:P 4)(h5:P 5)(h6:P 6)(h7:P 7)(h8:P 8)(h9:P 9)(cu:P 10)(fT:P 11)(dQ:P 12)(rf:P 13)(h14:P 14)(h15:P 15)(mz:P 16)
  (h0:∀k,(∀i,i∈kds->(k==i)=false)->P k) (k:Int):P k:=by
 by_cases h:k∈kds
 .simp only[kds,Xr,List.not_mem_nil,or_false]at h;rcases h with h|h|h|h|h|h|h|h|h|h|h|h|h|h|h|h<;>rw[h]<;>assumption
 .exact h0 k λi hi=>by
   rw[beq_eq_false_iff_ne];intro e;exact h (e▸hi)
theorem Wcz{N:Nat}{o:Opn}:Zlb N o=ret (Wdx o):=by
 obtain⟨k,a,b,c⟩:=o;exact Wus (P:=λk=>Zlb N (k,a,b,c)=ret (Wdx (k,a,b,c)))
  (o3 (by kernel_rfl) (sR N a) (sV N b) (z0 c))
  (o3 (by kernel_rfl) (sR N a) (sR N b) (sR N c))
  (o3 (by kernel_rfl) (sR N a) (sR N b) (sR N c))
  (o3 (by kernel_rfl) (sR N a) (sR N b) (sR N c))
  (o3 (by kernel_rfl) (sR N a) (sC N b) (z0 c))
  (o3 (by kernel_rfl) (sC N a) (sR N b) (z0 c))
  (o3 (by kernel_rfl) (sR N a) (sI N b) (z0 c))
  (o3 (by kernel_rfl) (sR N a) (z0 b) (z0 c))
  (o3 (by kernel_rfl) (z0 a) (z0 b) (z0 c))
  (o3 (by kernel_rfl) (z0 a) (z0 b) (z0 c))
  (o3 (by kernel_rfl) (z0 a) (z0 b) (z0 c))
  (o3 (by kernel_rfl) (sK N a) (sR N b) (sR N c))
  (o3 (by kernel_rfl) (sR N a) (sK N b) (z0 c))
  (o3 (by kernel_rfl) (sK N a) (sR N b) (z0 c))
  (o3 (by kernel_rfl) (sR N a) (z0 b) (z0 c))
  (o3 (by kernel_rfl) (sR N a) (z0 b) (z0 c))
  (λk e=>by unfold Zlb Wdx;simp(disch:=decide) only[e,Wc,Ws]) k
theorem WeN{N:Nat}{o:Opn}:Zin N o=ret (Wdx o):=by
 obtain⟨k,a,b,c⟩:=o;exact Wus (P:=λk=>Zin N (k,a,b,c)=ret (Wdx (k,a,b,c)))
  (o3 (by kernel_rfl) (iR N a) (iV N b) (z0 c))
  (o3 (by kernel_rfl) (iR N a) (iR N b) (iR N c))
  (o3 (by kernel_rfl) (iR N a) (iR N b) (iR N c))
  (o3 (by kernel_rfl) (iR N a) (iR N b) (iR N c))
  (o3 (by kernel_rfl) (iR N a) (iC N b) (z0 c))
  (o3 (by kernel_rfl) (iC N a) (iR N b) (z0 c))
  (o3 (by kernel_rfl) (iR N a) (iI N b) (z0 c))
  (o3 (by kernel_rfl) (iR N a) (z0 b) (z0 c))
  (o3 (by kernel_rfl) (z0 a) (z0 b) (z0 c))
  (o3 (by kernel_rfl) (z0 a) (z0 b) (z0 c))
  (o3 (by kernel_rfl) (z0 a) (z0 b) (z0 c))
  (o3 (by kernel_rfl) (iK N a) (iR N b) (iR N c))
  (o3 (by kernel_rfl) (iR N a) (iK N b) (z0 c))
  (o3 (by kernel_rfl) (iK N a) (iR N b) (z0 c))
  (o3 (by kernel_rfl) (iR N a) (z0 b) (z0 c))
  (o3 (by kernel_rfl) (iR N a) (z0 b) (z0 c))
  (λk e=>by unfold Zin Wdx;simp(disch:=decide) only[e,Wc,Ws]) k
end
section
def Drw{ρ:Type}(P:ρ->Prop)(r:Option ((Cur×Unit)×ρ)):Prop:=∃c v,r=some ((c,()),v)/\Wtx c/\P v
theorem Drw.bind{ρ σ:Type}{P:ρ->Prop}{Q:σ->Prop}{r:Option ((Cur×Unit)×ρ)}{k:(Cur×Unit)×ρ->Option ((Cur×Unit)×σ)}(h:Drw P r)(hk:∀c v,Wtx c->P v->Drw Q (k ((c,()),v))):Drw Q (r.bind k):=by
 obtain⟨c,v,e,h1,h2⟩:=h;simp_all
theorem Drw.ok{ρ:Type}{P:ρ->Prop}{c:Cur}{v:ρ}(hc:Wtx c)(hv:P v):Drw P (some ((c,()),v)):=⟨c,v,rfl,hc,hv⟩
theorem Drw.bif{ρ:Type}{P:ρ->Prop}{b:Bool}{x y:Option ((Cur×Unit)×ρ)}(h1:b=true->Drw P x)(h2:b=false->Drw P y):Drw P (bif b then x else y):=by
 grind
theorem Drw.mono{ρ:Type}{P Q:ρ->Prop}{r:Option ((Cur×Unit)×ρ)}(h:Drw P r)(hq:∀v,P v->Q v):Drw Q r:=by
 obtain⟨c,v,e,h1,h2⟩:=h;exact⟨c,v,e,h1,hq v h2⟩
section
variable{N:Nat}{c:Cur}
end
end
section
section
variable{N:Nat}{c:Cur}
end
end
section
abbrev Wd:=Int×Int×Int
abbrev Mm:=Int×List Wd
theorem Waj{α:Type}(a:Option α):WbJ a a=a:=by unfold WbJ;simp
def Wlt(clock:Int)(w:Wd):Bool:=Wa2 w.1&&((decide (0<=w.2.1)&&decide (w.2.1<=clock))&&(decide (0<=w.2.2)&&decide (w.2.2<=99)))
def WY(m:Mm):Bool:=decide (m.2.length=8)&&((decide (0<=m.1)&&decide (m.1<=1000000))&&m.2.all (Wlt m.1))
theorem WaZ{N:Nat}{m:Mm}(hl:m.2.length<=1048576)(hN:1048576<N):Zcu N m=ret (WY m):=by
 unfold Zcu WY;have h1:=Wy (l:=m.2) (V:=Unit) (R:=Unit×Kq) (lp:=λn j v=>Ze1 N m.2 m (some ((),(false,()))) (λfu fv=>
  (bif (Wh m.2)==(8:Int)then
  ((Zg N m.1 (0:Int) (1000000:Int)).bind λjA=>
  (some ((),(jA.2.1,()))))
  else
  (some ((),(false,()))))) n j) (n:=N) (by omega)
  (body:=λj x v k=>bif !Wlt m.1 x then some ((),(false,()))else k v) (K:=λ_ v=>(bif (Wh m.2)==(8:Int)then
  ((Zg N m.1 (0:Int) (1000000:Int)).bind λjA=>
  (some ((),(jA.2.1,()))))
  else
  (some ((),(false,())))))
  (λn i v hi=>by
   simp only[Ze1,WF hi,Wu hi,Ww hi,Wm (show i<4611686018427387904 by omega),Wa,War,WX,ret,Xd,Wlt];cases Wa2 m.2[i].1<;>cases(decide (0<=m.2[i].2.1)&&decide (m.2[i].2.1<=m.1))<;>cases(decide (0<=m.2[i].2.2)&&decide (m.2[i].2.2<=99))<;>rfl)
  (λn v=>by simp[Ze1,WO,Xl,Wc]) ()
 refine h1.trans ?_;rw[W4 (p:=λx=>!Wlt m.1 x) (E:=λ_=>some ((),(false,()))) m.2 0 () (λj x v k _=>rfl),Wa4];have e:((Wh m.2)==(8:Int))=decide (m.2.length=8):=by
  grind [Wh]
 simp only[e,WX,ret,Xd];cases m.2.all (Wlt m.1)<;>cases decide (m.2.length=8)<;>simp
theorem WbA{N:Nat}{m:Mm}(hl:m.2.length<=1048576)(hN:1048576<N):Zei N m=ret (WY m):=by
 unfold Zei WY;have e:((Wh m.2) !=(8:Int))= !decide (m.2.length=8):=by
  grind [Wh]
 have h1:=Wy (l:=m.2) (V:=Unit) (R:=Unit×Kq) (lp:=λn j v=>Zct N m (some ((),(false,()))) (λiT dH=>(some ((),(true,())))) n j) (n:=N) (by omega)
  (body:=λj x v k=>bif !Wlt m.1 x then some ((),(false,()))else k v) (K:=λ_ v=>some ((),(true,())))
  (λn i v hi=>by
   simp only[Zct,WF hi,Wu hi,Ww hi,Wm (show i<4611686018427387904 by omega),Wa,Wae,Wcn,ret,Xd,Wlt];cases Wa2 m.2[i].1<;>cases(decide (0<=m.2[i].2.1)&&decide (m.2[i].2.1<=m.1))<;>cases(decide (0<=m.2[i].2.2)&&decide (m.2[i].2.2<=99))<;>rfl)
  (λn v=>by simp[Zct,WO,Xl,Wc]) ()
 have h2:Zct N m (some ((),(false,()))) (λiT dH=>(some ((),(true,())))) N 0=ret (m.2.all (Wlt m.1)):=by
  refine h1.trans ?_;rw[W4 (p:=λx=>!Wlt m.1 x) (E:=λ_=>some ((),(false,()))) m.2 0 () (λj x v k _=>rfl),Wa4];cases m.2.all (Wlt m.1)<;>rfl
 rw[e,h2];simp only[Wcn,ret,Xd];cases decide (m.2.length=8)<;>cases(decide (0<=m.1)&&decide (m.1<=1000000))<;>simp
def wd0(v:Int):Wd:=(v,(0,0))
def Wmr(l:List Int):Mm:=(0,l.map wd0)
theorem WbT{α β R:Type}{body:Int->α->List β->(List β->Option R)->Option R}{K:Int->List β->Option R}{f:α->β}:∀(l:List α) (j:Nat) (o:List β),o.length+l.length<=1000000->
  (∀(j:Nat) x (v:List β) k,x∈l->body j x v k=bif Wz (v.length+ [f x].length)then k (Xg v [f x])else none)->Wbm body K l j o=K ((j+l.length:Nat):Int) (o++l.map f)
 | [],j,o,_,_=>by simp[Wbm]
 |x::l,j,o,h,hb=>by
  rw[Xq]at h;rw[Wbm,hb j x o _ (Xj ..),Wt (by simp;omega)];simp only[Wa];rw[WbT l (j+1) _ (by grind [Xaz]) λj y v k hy=>hb j y v k (Xf _ hy)];rw[Xq,show j+1+l.length=j+(l.length+1) by omega];simp
theorem Wi8{N:Nat}{l:List Int}(h:WcT l=true)(hN:1048576<N):Zce N l=some ((),(Wmr l,(true,()))):=by
 have hl:l.length=8:=by grind [WcT]
 unfold Zce;simp only[Wg2 (show l.length<=1048576 by omega) hN,ret,Xd,h,Xo,Wc];have h1:=Wy (l:=l) (V:=List Wd) (R:=Unit×(Mm×Kq)) (lp:=λn j v=>Zd1 N l (λaB aU bi=>(some ((),(((0:Int),bi),(true,()))))) n j v) (n:=N) (by omega)
  (body:=λj x v k=>bif Wz (v.length+ [wd0 x].length)then k (Xg v [wd0 x])else none) (K:=λ_ v=>some ((),(((0:Int),v),(true,()))))
  (λn i v hi=>by simp only[Zd1,WF hi,Wu hi,Ww hi,Wm (show i<4611686018427387904 by omega),Wa,wd0])
  (λn v=>by simp[Zd1,WO,Xl,Wc]) []
 refine h1.trans ?_;rw[WbT (f:=wd0) l 0 [] (by simp;omega) (λj x v k _=>rfl)];rfl
theorem Wji{N:Nat}{l:List Int}(h:WcT l=true)(hN:1048576<N):Zj5 N l=some ((),(Wmr l,(true,()))):=by
 have hl:l.length=8:=by grind [WcT]
 unfold Zj5;simp only[Whh (show l.length<=1048576 by omega) hN,ret,Xd,h,Xo,Wc];have h1:=Wy (l:=l) (V:=List Wd) (R:=Unit×(Mm×Kq)) (lp:=λn j v=>Zdx N l (λaB aU bi=>(some ((),(((0:Int),bi),(true,()))))) n j v) (n:=N) (by omega)
  (body:=λj x v k=>bif Wz (v.length+ [wd0 x].length)then k (Xg v [wd0 x])else none) (K:=λ_ v=>some ((),(((0:Int),v),(true,()))))
  (λn i v hi=>by simp only[Zdx,WF hi,Wu hi,Ww hi,Wm (show i<4611686018427387904 by omega),Wa,wd0])
  (λn v=>by simp[Zdx,WO,Xl,Wc]) []
 refine h1.trans ?_;rw[WbT (f:=wd0) l 0 [] (by simp;omega) (λj x v k _=>rfl)];rfl
theorem WE{m:Mm}(h:WY m=true):m.2.length=8/\0<=m.1/\m.1<=1000000/\∀w∈m.2,Wlt m.1 w=true:=by
 simp_all [WY,Xi,Wi,Xae]
def tick(m:Mm):Mm×Int:=if m.1<1000000 then((m.1+1,m.2),m.1+1)else(m,0)
theorem Wl6{N:Nat}{m:Mm}(h:WY m=true)(hN:1048576<N):Zve N m=some ((),((tick m).1,((tick m).2,()))):=by
 obtain⟨h8,h0,h1,_⟩:=WE h;have e:Zcf N m=ret m:=by grind [Zcf,Wt]
 unfold Zve tick;simp only[e,WaZ (show m.2.length<=1048576 by omega) hN,ret,Xd,h,Xo,Wc];by_cases hc:m.1<1000000
 .have e2:(m.1==1000000)=false:=by simp;omega
  have e3:Wj .i64 m.1 1=m.1+1:=WI (by unfold I64;omega)
  grind
 grind
theorem WlM{N:Nat}{m:Mm}(h:WY m=true)(hN:1048576<N):Zvd N m=some ((),((tick m).1,((tick m).2,()))):=by
 obtain⟨h8,h0,h1,_⟩:=WE h;have e:Zdd N m=ret m:=by simp_all [Zdd,Wt]
 unfold Zvd tick;simp only[e,WbA (show m.2.length<=1048576 by omega) hN,ret,Xd,h,Xo,Wc];by_cases hc:m.1<1000000
 .have e2:decide (m.1>=1000000)=false:=by simp;omega
  have e3:Wj .i64 m.1 1=m.1+1:=WI (by unfold I64;omega)
  grind
 grind
abbrev Pb:=Int×Int×Int×Int
def WiM(p:Pb):Bool:=Wam p.1&&((decide (0<=p.2.1)&&decide (p.2.1<=4))&&((decide (0<=p.2.2.1)&&decide (p.2.2.1<=1000000))&&Wa2 p.2.2.2))
theorem WmA{N:Nat}{p:Pb}:Zp8 N p=ret (WiM p):=by
 unfold Zp8 WiM;simp only[Wax,WX,War,ret,Xd];cases Wam p.1<;>cases(decide (0<=p.2.1)&&decide (p.2.1<=4))<;>cases(decide (0<=p.2.2.1)&&decide (p.2.2.1<=1000000))<;>simp
theorem WmF{N:Nat}{p:Pb}:Zp7 N p=ret (WiM p):=by
 unfold Zp7 WiM;simp only[Wbr,Wcn,Wae,ret,Xd];cases Wam p.1<;>cases(decide (0<=p.2.1)&&decide (p.2.1<=4))<;>cases(decide (0<=p.2.2.1)&&decide (p.2.2.1<=1000000))<;>simp
def WaD(m:Mm)(rv:Int)(p:Pb):Pb:=
 let w:=Xc m.2 (Xa p.1) (0,(0,0))
 bif p.2.1==0 then(bif w.2.2==0 then(bif decide (w.2.1<=rv)then(p.1,(1,(w.2.1,p.2.2.2)))else(p.1,(4,p.2.2)))else(p.1,(4,p.2.2)))
 else bif p.2.1==1 then(p.1,(2,(p.2.2.1,w.1)))
 else bif p.2.1==2 then(bif w.2.2==0 then(bif w.2.1==p.2.2.1 then(p.1,(3,p.2.2))else(p.1,(4,p.2.2)))else(p.1,(4,p.2.2)))
 else p
theorem WsY{m:Mm}{p:Pb}(h:WY m=true)(hp:WiM p=true):inb p.1 m.2.length=true:=by
 grind [WE,WiM,Wam,inb]
theorem WeK{N:Nat}{m:Mm}{rv:Int}{p:Pb}(h:WY m=true)(hp:WiM p=true)(hN:1048576<N):Ze2 N m rv p=ret (WaD m rv p):=by
 have h1:=(WE h).1;unfold Ze2 WaD;simp only[WaZ (show m.2.length<=1048576 by omega) hN,WmA,ret,Xd,h,hp,Xo,Wc,WsY h hp,Wa];generalize Xc m.2 (Xa p.1) (0,(0,0))=w;cases p.2.1==0<;>cases p.2.1==1<;>cases p.2.1==2<;>cases w.2.2==0<;>cases decide (w.2.1<=rv)<;>cases w.2.1==p.2.2.1<;>rfl
theorem WeF{N:Nat}{m:Mm}{rv:Int}{p:Pb}(h:WY m=true)(hp:WiM p=true)(hN:1048576<N):Zez N m rv p=ret (WaD m rv p):=by
 have h1:=(WE h).1;unfold Zez WaD;simp only[WbA (show m.2.length<=1048576 by omega) hN,WmF,ret,Xd,h,hp,Xo,Wc,WsY h hp,Wa];generalize Xc m.2 (Xa p.1) (0,(0,0))=w;have e1:decide (w.2.1>rv)= !decide (w.2.1<=rv):=by
  grind
 rw[e1];unfold bne;cases p.2.1==0<;>cases p.2.1==1<;>cases p.2.1==2<;>cases w.2.2==0<;>cases decide (w.2.1<=rv)<;>cases w.2.1==p.2.2.1<;>rfl
def Wgm(l:List Rw)(c:Int):Nat->Option Int
 |0=>none
 |i+1=>if(Xc l i (0,0)).1=c then some (Xc l i (0,0)).2 else Wgm l c i
def WbY(l:List Rw)(c:Int):Option Int:=if Wad l=true then Wgm l c l.length else none
def opI(o:Option Int):Option (Unit×Kk):=match o with
 |none=>some ((),((0:Int),(false,())))
 |some v=>some ((),(v,(true,())))
theorem WiF{N:Nat}{l:List Rw}{c:Int}(hl:l.length<=1048576):∀(i n:Nat),i<n->i<=l.length->Zhx N l c (λar=>(some ((),(ar,(true,()))))) (λbZ aB=>(some ((),((0:Int),(false,()))))) n ((i:Int) -1)=opI (Wgm l c i)
 |i,0,h,_=>by omega
 |0,n+1,h,_=>rfl
 |i+1,n+1,h,hi=>by
  have e:((i+1:Nat):Int) -1=(i:Int):=by omega
  have e1:decide ((i:Int)>=0)=true:=by simp
  have e2:WV .i64 (i:Int) 1=(i:Int) -1:=WQ (by unfold I64;omega);rw[e,Zhx,e1,Wu (show i<l.length by omega),e2,Wgm,Xk];simp only[Wa];by_cases hc:(Xc l i ((0:Int),(0:Int))).1=c
  .rw[Wf hc,beq_iff_eq.2 hc];rfl
  .rw[Wb hc,beq_eq_false_iff_ne.2 hc];exact WiF hl i n (by omega) (by omega)
theorem WhJ{N:Nat}{l:List Rw}{c:Int}(hl:l.length<=1048576):∀(i n:Nat),i<n->i<=l.length->Zhv N l c (λar=>(some ((),(ar,(true,()))))) (λbZ aB=>(some ((),((0:Int),(false,()))))) n ((i:Int) -1)=opI (Wgm l c i)
 |i,0,h,_=>by omega
 |0,n+1,h,_=>rfl
 |i+1,n+1,h,hi=>by
  have e:((i+1:Nat):Int) -1=(i:Int):=by omega
  have e1:decide ((i:Int)>=0)=true:=by simp
  have e2:WV .i64 (i:Int) 1=(i:Int) -1:=WQ (by unfold I64;omega);rw[e,Zhv,e1,Wu (show i<l.length by omega),e2,Wgm,Xk];simp only[Wa];by_cases hc:(Xc l i ((0:Int),(0:Int))).1=c
  .rw[Wf hc,beq_iff_eq.2 hc];rfl
  .rw[Wb hc,beq_eq_false_iff_ne.2 hc];exact WhJ hl i n (by omega) (by omega)
theorem Wh3{α:Type}{l:List α}(hl:l.length<=1048576):WV .i64 (Wh l) 1=((l.length:Nat):Int) -1:=by grind [Wh,WQ,I64]
theorem Wd9{N:Nat}{l:List Rw}{c:Int}(hl:l.length<=1048576)(hN:1048576<N):Zio N l c=opI (WbY l c):=by
 unfold Zio WbY;simp only[Wcg hl hN,ret,Xd];cases Wad l
 .rfl
 .simp only[Xo,Wc,W2,Wh3 hl];exact WiF hl l.length N (by omega) (Xl _)
theorem Wex{N:Nat}{l:List Rw}{c:Int}(hl:l.length<=1048576)(hN:1048576<N):Zim N l c=opI (WbY l c):=by
 unfold Zim WbY;simp only[Wc6 hl hN,ret,Xd];cases Wad l
 .rfl
 .simp only[Xo,Wc,W2,Wh3 hl];exact WhJ hl l.length N (by omega) (Xl _)
end
section
def WhT(l:List Rw)(o:List Rw)(c:Nat):List Rw:=match WbY l c with
 |none=>o
 |some v=>o++ [((c:Int),v)]
def WhQ(l:List Rw):Nat->Nat->List Rw->List Rw
 |0,_,o=>o
 |j+1,c,o=>WhQ l j (c+1) (WhT l o c)
def Wcq(l:List Rw):List Rw:=WhQ l 8 0 []
theorem Wgw{N:Nat}{l:List Rw}(hl:l.length<=1048576)(hN:1048576<N):∀(j n c:Nat) (o:List Rw),c+j=8->j<n->o.length<=c->Zg5 N l (λaw aB aY=>(some ((),(aY,())))) n (c:Int) o=ret (WhQ l j c o)
 |j,0,c,o,_,h,_=>by omega
 |0,n+1,c,o,h,_,_=>by
  have:c=8:=by omega
  subst this;rfl
 |j+1,n+1,c,o,h,h1,ho=>by
  have e:decide ((c:Int)<8)=true:=by simp;omega
  rw[Zg5,e,Wd9 hl hN,Wm (by omega),WhQ,WhT];simp only[Wa];rcases WbY l c with _|v
  .exact Wgw hl hN j n (c+1) o (by omega) (by omega) (by omega)
  .have er:Wz (o.length+ [((c:Int),v)].length)=true:=Wt (by simp;omega);simp only[opI,Xd,Wa,er];exact Wgw hl hN j n (c+1) _ (by omega) (by omega) (by simp;omega)
theorem Wgv{N:Nat}{l:List Rw}(hl:l.length<=1048576)(hN:1048576<N):∀(j n c:Nat) (o:List Rw),c+j=8->j<n->o.length<=c->Zg4 N l (λaw aB aY=>(some ((),(aY,())))) n (c:Int) o=ret (WhQ l j c o)
 |j,0,c,o,_,h,_=>by omega
 |0,n+1,c,o,h,_,_=>by
  have:c=8:=by omega
  subst this;rfl
 |j+1,n+1,c,o,h,h1,ho=>by
  have e:decide ((c:Int)<8)=true:=by simp;omega
  rw[Zg4,e,Wex hl hN,Wm (by omega),WhQ,WhT];simp only[Wa];rcases WbY l c with _|v
  .exact Wgv hl hN j n (c+1) o (by omega) (by omega) (by omega)
  .have er:Wz (o.length+ [((c:Int),v)].length)=true:=Wt (by simp;omega);simp only[opI,Xd,Wa,er];exact Wgv hl hN j n (c+1) _ (by omega) (by omega) (by simp;omega)
theorem WdH{N:Nat}{l:List Rw}(hl:l.length<=1048576)(hN:1048576<N):Zhk N l=ret (Wcq l):=by
 unfold Zhk;exact Wgv hl hN 8 N 0 [] rfl (by omega) (by simp)
theorem WmU{l:List Rw}(h:Wad l=false):∀(j c:Nat) (o:List Rw),WhQ l j c o=o
 |0,_,_=>rfl
 |j+1,c,o=>by
  have e:WbY l c=none:=by grind [WbY]
  rw[WhQ,WhT,e];exact WmU h j (c+1) o
theorem WdG{N:Nat}{l:List Rw}(hl:l.length<=1048576)(hN:1048576<N):Zhl N l=ret (Wcq l):=by
 unfold Zhl;simp only[Wcg hl hN,ret,Xd];cases h:Wad l
 .grind [Wcq,WmU]
 .exact Wgw hl hN 8 N 0 [] rfl (by omega) (by simp)
def fnd{α:Type}(p:α->Bool):List α->Nat->Option (Nat×α)
 | [],_=>none
 |x::l,j=>bif p x then some (j,x)else fnd p l (j+1)
theorem Wdq{α V R:Type}{body:Int->α->V->(V->Option R)->Option R}{K:Int->V->Option R}{p:α->Bool}{E:Int->α->Option R}:∀(l:List α) (j:Nat) (v:V),(∀(j:Nat) x v k,x∈l->body j x v k=bif p x then E j x else k v)->
  Wbm body K l j v=match fnd p l j with|some r=>E r.1 r.2|none=>K ((j+l.length:Nat):Int) v
 | [],j,v,_=>rfl
 |x::l,j,v,h=>by
  rw[Wbm,h j x v _ (Xj ..),fnd,Wdq l (j+1) v λj y v k hy=>h j y v k (Xf _ hy)]
  grind
theorem Wcl{α:Type}{p:α->Bool}:∀{l:List α} {j:Nat} {r:Nat×α},fnd p l j=some r->p r.2=true/\j<=r.1/\r.1<j+l.length/\l[r.1-j]?=some r.2
 | [],j,r,h=>by cases h
 |x::l,j,r,h=>by
  rw[fnd]at h;cases hp:p x
  .rw[hp]at h;obtain⟨h1,h2,h3,h4⟩:=Wcl (l:=l) h
   grind
  grind
theorem Wgh{α:Type}{p:α->Bool}:∀{l:List α} {j:Nat},fnd p l j=none->∀x∈l,p x=false
 | [],j,h=>by simp
 |x::l,j,h=>by
  rw[fnd]at h;cases hp:p x
  .rw[hp]at h;intro y hy;rcases Xr.1 hy with rfl|hy
   .exact hp
   .exact Wgh h y hy
  simp_all
abbrev En:=Int×Int×Int
def ent(b:List En)(c:Int):Option (Nat×En):=fnd (λe=>e.1==c) b 0
theorem Wfy{N:Nat}{f:Y_Family}{c:Int}(hl:f.2.2.2.2.2.2.1.length<=1048576)(hN:1048576<N):Zcm N f c=ret (match ent f.2.2.2.2.2.2.1 c with|some r=>(r.1:Int)|none=>-1):=by
 unfold Zcm;show((Zi N f.2.2.2.2.2.2.1 c).bind _)=_;generalize f.2.2.2.2.2.2.1=b at hl;unfold Zi ent;have h1:=Wy (l:=b) (V:=Unit) (R:=Kh×Kh) (lp:=λn j v=>Zc N b (λbR aC=>(some ((aC,()),(bR,())))) (λfu fv dL=>(some ((dL,()),((-1:Int),())))) n j c) (n:=N) (by omega)
  (body:=λj x v k=>bif x.1==c then some ((c,()),(j,()))else k v) (K:=λ_ v=>some ((c,()),((-1:Int),())))
  (λn i v hi=>by simp only[Zc,Zl3,WF hi,Wu hi,Ww hi,Wm (show i<4611686018427387904 by omega),Wa,Xd])
  (λn v=>by simp[Zc,WO,Xl,Wc]) ()
 rw[h1,Wdq (p:=λe=>e.1==c) (E:=λj x=>some ((c,()),(j,()))) b 0 () (λj x v k _=>rfl)];cases fnd (λe:En=>e.1==c) b 0<;>rfl
theorem Wh7{N:Nat}{f:Y_Family}{c:Int}(hl:(P6 f).length<=1048576)(hN:1048576<N):Zf7 N f c=ret (match ent (P6 f) c with|some r=>r.2|none=>(c,(0,-1))):=by
 unfold Zf7 ent;have h1:=Wy (l:=P6 f) (V:=Unit) (R:=Unit×(En×Unit)) (lp:=λn j v=>Zcj N c f (λcE=>(some ((),(cE,())))) (λiT dH=>(some ((),((c,((0:Int),(-1:Int))),())))) n j) (n:=N) (by omega)
  (body:=λj x v k=>bif x.1==c then some ((),(x,()))else k v) (K:=λ_ v=>some ((),((c,((0:Int),(-1:Int))),())))
  (λn i v hi=>by simp only[Zcj,WF hi,Wu hi,Ww hi,Wm (show i<4611686018427387904 by omega),Wa])
  (λn v=>by simp only[Zcj,WO (Xl (P6 f).length),Wc]) ()
 refine h1.trans ?_;rw[Wdq (p:=λe=>e.1==c) (E:=λj x=>some ((),(x,()))) (P6 f) 0 () (λj x v k _=>rfl)];cases fnd (λe:En=>e.1==c) (P6 f) 0<;>rfl
theorem Wcs{N:Nat}{l:List Int}(h:l.length<=1048576):Zj N l=ret l:=by
 unfold Zj;rw[Wt (by simp;omega)];rfl
theorem Wa9{N:Nat}{l:List Int}(h:l.length<=1048576):Zm N l=ret l:=by
 grind [Zm,Wt]
theorem Wdl{N:Nat}{l:List Rw}(h:l.length<=1048576):Zbf N l=ret l:=by
 grind [Zbf,Wt]
end
section
def WuW(f:Y_Family)(k:Nat)(x:Y_KidRun):Y_Family:=U9 (Xe (Q9 f) k x) f
def again(f:Y_Family)(x:Y_KidRun):Y_KidRun:=(0,(0,(f.2.1,(x.2.2.2.1+1,(0,(0,(P4 f,([],([],([],(false,(0,(0,(0,0))))))))))))))
def Wli(x:Y_KidRun)(c:Int):Pb:=bif P10 x then Q11 x else(c,(0,(0,0)))
def Wd8(m:Mm)(f:Y_Family)(x:Y_KidRun)(o:Int×Int×Int×Int):Y_Family×Y_KidRun:=
 match WbY (P8 x) o.2.2.1 with
 |some v=>(f,S6 (Xe (P6 x) (Xa o.2.1) v) (S1 (x.2.1+1) x))
 |none=>match ent (P6 f) o.2.2.1 with
  |some r=>bif decide (r.2.2.2>x.2.2.1)then(f,again f x)else(f,S7 (P7 x++ [r.2]) (S6 (Xe (P6 x) (Xa o.2.1) r.2.2.1) (S1 (x.2.1+1) x)))
  |none=>
   bif (WaD m f.1 (Wli x o.2.2.1)).2.1==4 then(S3 true f,U11 (WaD m f.1 (Wli x o.2.2.1)) (S10 true x))else
   bif (WaD m f.1 (Wli x o.2.2.1)).2.1==3 then(f,U14 0 (S13 0 (S12 0 (S11 0 (S10 false (S7 (P7 x++ [(o.2.2.1,((WaD m f.1 (Wli x o.2.2.1)).2.2.2,-1))]) (S6 (Xe (P6 x) (Xa o.2.1) (WaD m f.1 (Wli x o.2.2.1)).2.2.2) (S1 (x.2.1+1) x))))))))else
   (f,U11 (WaD m f.1 (Wli x o.2.2.1)) (S10 true x))
structure ReadOk(m:Mm)(f:Y_Family)(x:Y_KidRun)(o:Int×Int×Int×Int):Prop where
 mem:WY m=true
 regs:(P6 x).length=4
 famr:(P4 f).length=4
 rA:0<=o.2.1/\o.2.1<=3
 cB:Wam o.2.2.1=true
 seen:(P7 x).length<=1000
 wr:(P8 x).length<=1000
 buf:(P6 f).length<=1000
 ver:∀e∈P6 f,0<=e.2.2
 since:0<=x.2.2.1
 pc:0<=x.2.1/\x.2.1<=1000
 tries:0<=x.2.2.2.1/\x.2.2.2.1<=100000
 pb:P10 x=true->WiM (Q11 x)=true
theorem ReadOk.pbO{m:Mm}{f:Y_Family}{x:Y_KidRun}{o:Int×Int×Int×Int}(h:ReadOk m f x o):WiM (Wli x o.2.2.1)=true:=by
 unfold Wli;cases hb:P10 x
 .have:=h.cB
  grind [WiM,Wa2]
 .exact h.pb hb
theorem WoO{x:Y_KidRun}(h:P10 x=true):S10 true x=x:=by rw[←h];rfl
theorem Wai{a:Int}(h:0<=a/\a<=1000000):Wj .i64 a 1=a+1:=WI (by unfold I64;omega)
theorem rgI{r:List Int}{a:Int}(h:r.length=4)(ha:0<=a/\a<=3):inb a r.length=true:=by grind [inb]
theorem WfZ{N:Nat}{f:Y_Family}{x:Y_KidRun}(h:(P4 f).length=4)(ht:0<=x.2.2.2.1/\x.2.2.2.1<=100000):Zle N f x=some ((f,()),(again f x,())):=by
 unfold Zle again;have e:Zj N f.2.2.2.2.1=ret (P4 f):=Wcs (by grind [P4])
 grind [Wai]
theorem Wej{N:Nat}{f:Y_Family}{k:Nat}{x:Y_KidRun}(hk:k<(Q9 f).length)(h:(P4 f).length=4)(ht:0<=x.2.2.2.1/\x.2.2.2.1<=100000):
  Zba N (U9 (Xe (Q9 f) k x) f) (k:Int)=some ((WuW f k (again f x),()),()):=by
 have e0:Zm N (P4 (U9 (Xe (Q9 f) k x) f))=ret (P4 f):=Wa9 (show(P4 f).length<=1048576 by omega);have e1:Q9 (U9 (Xe (Q9 f) k x) f)=Xe (Q9 f) k x:=rfl;have kg:k<(Xe (Q9 f) k x).length:=by simp_all
 unfold Zba;rw[e0,e1];have e2:Xc (Xe (Q9 f) k x) (Xa (k:Int)) d_KidRun=x:=by simp_all
 rw[e2,Wu kg,Wai (by omega),Xk];simp only[Wa,ret,Xd,Xcq];rfl
theorem Wlu{N:Nat}{m:Mm}{f:Y_Family}{k:Nat}{o:Int×Int×Int×Int}(hk:k<(Q9 f).length)(h:ReadOk m f (Q9 f)[k] o)(hN:1048576<N):
  Zki N f (k:Int) o m=some ((WuW (Wd8 m f (Q9 f)[k] o).1 k (Wd8 m f (Q9 f)[k] o).2,()),()):=by
 generalize hx:(Q9 f)[k]=x at h;have hw:=h.wr;have hs:=h.seen;have hb:=h.buf;have hr:=h.regs;have ex:Xc (Q9 f) (Xa (k:Int)) d_KidRun=x:=by rw[Ww hk,hx]
 unfold Zki Wd8;simp only[Ws];rw[Wu hk,ex,Xk,Wd9 (show(P8 x).length<=1048576 by omega) hN,Wai (by have:=h.pc;omega)];rcases WbY (P8 x) o.2.2.1 with _|v
 .simp only[opI,Xd,Wc,Wa];have hE:Zcm N (U9 (Xe (Q9 f) k x) f) o.2.2.1=ret (match ent (P6 f) o.2.2.1 with|some r=>(r.1:Int)|none=>-1):=Wfy (f:=U9 (Xe (Q9 f) k x) f) (show(P6 f).length<=1048576 by omega) hN;rw[hE,Wej hk h.famr h.tries];rcases he:ent (P6 f) o.2.2.1 with _|r
  .simp only[ret,Xd,show decide ((-1:Int)>=0)=false from rfl,Wc];have hp:=h.pbO;cases hc:P10 x
   .have km:Wli x o.2.2.1=(o.2.2.1,(0,(0,0))):=by grind [Wli]
    have hn:Zf8 N o.2.2.1=some ((),((o.2.2.1,(0,(0,0))),(true,()))):=by
     unfold Zf8;simp only[Wax,ret,Xd,h.cB,Xo,Wc]
    rw[km]at hp⊢;simp only[Bool.not_false,Wa,hn,WeK h.mem hp hN,ret,Xd,rgI hr h.rA];generalize WaD m f.1 (o.2.2.1,(0,(0,0)))=q;rw[Wt (by simp;omega)];cases q.2.1==4<;>cases q.2.1==3<;>rfl
   .have km:Wli x o.2.2.1=Q11 x:=by grind [Wli]
    rw[km]at hp⊢;simp only[Xo,Wc,WeK h.mem hp hN,ret,Xd,rgI hr h.rA,Wa];generalize WaD m f.1 (Q11 x)=q;rw[Wt (by simp;omega),WoO hc];cases q.2.1==4<;>cases q.2.1==3<;>rfl
  .have hm:=Wcl he;have hi:r.1<(P6 f).length:=by omega
   have hg:(P6 f)[r.1]=r.2:=by
    simp_all
   have e2:decide (((r.1:Nat):Int)>=0)=true:=by simp
   simp only[ret,Xd,e2,Wa,Wu hi,rgI hr h.rA];rw[Ww hi,hg,Wt (by simp;omega)];cases decide (r.2.2.2>x.2.2.1)<;>rfl
 .simp only[opI,Xd,Wa,rgI hr h.rA];rfl
end
section
def Wm6{α:Type}(p:Nat->α->Bool):Nat->List α->Bool
 |_,[]=>false
 |j,x::l=>p j x||Wm6 p (j+1) l
theorem Wds{α V R:Type}{body:Int->α->V->(V->Option R)->Option R}{K:Int->V->Option R}{p:Nat->α->Bool}{E:V->Option R}:∀(l:List α) (j:Nat) (v:V),(∀(j:Nat) x v k,x∈l->body j x v k=bif p j x then E v else k v)->
  Wbm body K l j v=bif Wm6 p j l then E v else K ((j+l.length:Nat):Int) v
 | [],j,v,_=>rfl
 |x::l,j,v,h=>by
  rw[Wbm,h j x v _ (Xj ..),Wds l (j+1) v λj y v k hy=>h j y v k (Xf _ hy),Wm6]
  grind
theorem WfV{α:Type}{p:Nat->α->Bool}:∀{l:List α} {j:Nat},Wm6 p j l=true↔∃i,∃h:i<l.length,p (j+i) l[i]=true
 | [],j=>by simp[Wm6]
 |x::l,j=>by
  rw[Wm6,Xcr,WfV];constructor
  .rintro(h|⟨i,hi,h⟩)
   .exact⟨0,by simp,by grind⟩
   .exact⟨i+1,by simp_all,by grind⟩
  grind
def opd(o:Opn):Int:=bif o.1==8 then 1 else bif o.1==9 then-1 else 0
theorem Wic(o:Opn):-1<=opd o/\opd o<=1:=by unfold opd;cases o.1==8<;>cases o.1==9<;>simp
def dep(l:List Opn)(j:Nat):Int:=((l.take j).map opd).sum
theorem WcY(l:List Opn):dep l 0=0:=by simp[dep]
theorem Wat{l:List Opn}{j:Nat}(h:j<l.length):dep l (j+1)=dep l j+opd l[j]:=by
 grind [dep,Xcc]
theorem WJ{α:Type}{l:List α}{j:Nat}(h:j<l.length)(d:α):Xc l j d=l[j]:=by simp[h]
theorem Wco(l:List Opn):∀j:Nat,-(j:Int)<=dep l j/\dep l j<=j
 |0=>by simp[dep]
 |j+1=>by
  have ih:=Wco l j;by_cases h:j<l.length
  .have:=Wic l[j]
   grind [Wat]
  grind [dep,List.take_of_length_le]
def bal(l:List Opn):Bool:=!Wm6 (λj _=>decide (dep l (j+1)<0)) 0 l&&decide (dep l l.length=0)
theorem WfI{N:Nat}{o:Opn}:Zl2 N o=ret (opd o):=by
 unfold Zl2 opd;cases o.1==8<;>cases o.1==9<;>rfl
theorem WuG(x:Int):(x==(0:Int))=decide (x=0):=by by_cases h:x=0<;>simp[h]
theorem WhK{N:Nat}{l:List Opn}(hl:l.length<=1048576)(hN:1048576<N):Zdz N l=ret (bal l):=by
 unfold Zdz bal;have h1:=Wy (l:=l) (V:=Unit) (R:=Unit×Kq) (lp:=λn j _=>Zbx N l (some ((),(false,()))) (λmr aU dH=>some ((),(mr==(0:Int),()))) n (dep l j.toNat) j) (n:=N) (by omega)
  (body:=λj _ v k=>bif decide (dep l (j.toNat+1)<0)then some ((),(false,()))else k v) (K:=λj _=>some ((),(dep l j.toNat==(0:Int),())))
  (λn i v hi=>by
   have hb:=Wco l i;have hs:=Wat hi;have ho:=Wic l[i];have e:Wj .i64 (dep l i) (opd l[i])=dep l (i+1):=by rw[WI (by unfold I64;omega),hs]
   simp only[Zbx,WF hi,Wu hi,Ww hi,WJ hi,Wm (show i<4611686018427387904 by omega),Wa,WfI,ret,Xd,Xk,e])
  (λn v=>by simp[Zbx,WO,Xl,Wc]) ()
 have e0:dep l (Xa 0)=0:=WcY l;simp only[e0]at h1;refine h1.trans ?_;rw[Wds (p:=λj _=>decide (dep l (j+1)<0)) (E:=λ_=>some ((),(false,()))) l 0 () (λj x v k _=>rfl)];rw[Xat,Xk,WuG];cases Wm6 (λj _=>decide (dep l (j+1)<0)) 0 l<;>rfl
theorem WkB{N:Nat}{l:List Opn}(hl:l.length<=1048576)(hN:1048576<N){i:Nat}(hi:i<=l.length):Ziq N l (i:Int)=ret (dep l i):=by
 unfold Ziq;have h1:=Wy (l:=l) (V:=Unit) (R:=Unit×Kh) (lp:=λn j _=>Zb1 N (i:Int) l (λmt bR gz=>some ((),(mt,()))) n (dep l (min j.toNat i)) j) (n:=N) (by omega)
  (body:=λj _ v k=>k v) (K:=λj _=>some ((),(dep l (min j.toNat i),())))
  (λn j v hj=>by
   have hb:=Wco l j;have ho:=Wic l[j];simp only[Zb1,WF hj,Wu hj,Ww hj,WJ hj,Wm (show j<4611686018427387904 by omega),Wa,WfI,ret,Xd,Xk]
   grind [decide,min,Wj,dep,opd,WI,I64,Wat])
  (λn v=>by simp[Zb1,WO,Xl,Wc]) ()
 have e0:dep l (min (Xa 0) i)=0:=by
  simp[min,Xa,WcY]
 simp only[e0]at h1;refine h1.trans ?_;rw[WjP (f:=λv _=>v) l 0 () (λj x v k _=>rfl),Xat,Xk,Nat.min_eq_right hi]
theorem Wns{N:Nat}{l:List Opn}{a b:Nat}(fL:a<=b)(hb:b<=l.length)(hl:l.length<=1048576)(hN:1048576<N):
  Zav N l (b:Int) (some ((),(false,()))) (λnB mi aB=>some ((),(nB==(0:Int),()))) N 0 (a:Int)=ret (bal ((l.take b).drop a)):=by
 have hlen:((l.take b).drop a).length=b-a:=by simp;omega
 unfold bal;have h1:=Wy (l:=(l.take b).drop a) (V:=Unit) (R:=Unit×Kq) (lp:=λn j _=>Zav N l (b:Int) (some ((),(false,()))) (λnB mi aB=>some ((),(nB==(0:Int),()))) n (dep ((l.take b).drop a) j.toNat) ((a+j.toNat:Nat):Int)) (n:=N) (by omega)
  (body:=λj _ v k=>bif decide (dep ((l.take b).drop a) (j.toNat+1)<0)then some ((),(false,()))else k v) (K:=λj _=>some ((),(dep ((l.take b).drop a) j.toNat==(0:Int),())))
  (λn i v hi=>by
   have hb':=Wco ((l.take b).drop a) i;have hs:=Wat hi;have ei:((l.take b).drop a)[i]=l[a+i]:=by simp
   rw[ei]at hs;have eA:a+i<l.length:=by omega
   have e1:decide (((a+i:Nat):Int)<(b:Int))=true:=by simp;omega
   have e2:Wj .i64 ((a+i:Nat):Int) 1=((a+(i+1):Nat):Int):=by grind [WI,I64]
   have e3:Wj .i64 (dep ((l.take b).drop a) i) 1=dep ((l.take b).drop a) i+1:=WI (by unfold I64;omega);have e4:WV .i64 (dep ((l.take b).drop a) i) 1=dep ((l.take b).drop a) i+ -1:=by grind [WQ,I64]
   simp only[Zav,e1,Wu eA,Ww eA,WJ eA,e2,e3,e4,Wa,Xk];unfold opd at hs
   grind)
  (λn v=>by
   have e1:decide (((a+(((l.take b).drop a).length:Int).toNat:Nat):Int)<(b:Int))=false:=by simp_all
   simp only[Zav,e1,Wc]) ()
 have e0:dep ((l.take b).drop a) (Xa 0)=0:=WcY _;simp only[e0]at h1;refine h1.trans ?_;rw[Wds (p:=λj _=>decide (dep ((l.take b).drop a) (j+1)<0)) (E:=λ_=>some ((),(false,()))) _ 0 () (λj x v k _=>rfl)];rw[Xat,Xk,WuG];cases Wm6 (λj _=>decide (dep ((l.take b).drop a) (j+1)<0)) 0 ((l.take b).drop a)<;>rfl
def Wid(l:List Opn)(i:Nat)(o:Opn):Bool:=decide (i+1+o.2.2.1.toNat<=l.length)&&bal ((l.take (i+1+o.2.2.1.toNat)).drop (i+1))
def frk(l:List Opn)(j:Nat):Nat:=(l.take j).countP λo=>o.1==11
theorem Whr{l:List Opn}{j:Nat}(h:j<l.length):frk l (j+1)=frk l j+(l[j].1==11).toNat:=by
 unfold frk;rw[Xcc h,List.countP_append,List.countP_singleton];cases l[j].1==11<;>rfl
theorem Wti(l:List Opn)(j:Nat):frk l j<=l.length:=Xbe Xeg (by simp;omega)
def Ws6(l:List Opn)(i:Nat)(o:Opn):Bool:=
 !Wdx o||((o.1==7)&& !Wid l i o)||((o.1==11)&&(decide (dep l i>0)||decide (frk l (i+1)>1)))||decide (dep l (i+1)<0)
def WpA(l:List Opn)(i:Nat)(o:Opn):Bool:=
 !Wdx o||((o.1==7)&& !Wid l i o)||((o.1==11)&&(decide (frk l (i+1)>1)|| !decide (dep l i=0)))
def Wpn(l:List Opn):Bool:=decide (l.length<=24)&&(bal l&& !Wm6 (WpA l) 0 l)
theorem Wof{l:List Opn}{i:Nat}{o:Opn}(hl:l.length<=24)(hi:i<l.length)(ho:Wdx o=true)(h7:o.1=7):
  Wj .i64 ((i+1:Nat):Int) o.2.2.1=((i+1+o.2.2.1.toNat:Nat):Int)/\1<=o.2.2.1/\o.2.2.1<=20:=by
 obtain⟨k,a,b,c⟩:=o;simp only at h7;subst h7;have:(W3 a&&(decide (1<=b)&&decide (b<=20))&&(c==(0:Int)))=true:=ho;simp only[Xi,Wi]at this
 grind [WI,I64]
theorem WmK{N:Nat}{l:List Opn}{i:Nat}(hl:l.length<=24)(hN:1048576<N)(hi:i<l.length)(ho:Wdx l[i]=true)(h7:l[i].1=7):Zj4 N l (i:Int)=ret (Wid l i l[i]):=by
 obtain⟨e1,h1,h2⟩:=Wof hl hi ho h7;unfold Zj4 Wid;simp only[Wu hi,Wa,Ww hi,WJ hi,e1,Wm (show i<4611686018427387904 by omega)];by_cases h:i+1+l[i].2.2.1.toNat<=l.length
 .have e:decide (((i+1+l[i].2.2.1.toNat:Nat):Int)>Wh l)=false:=by simp[Wh];omega
  rw[e];simp only[Wc];rw[Wns (by omega) h (by omega) hN];simp[h]
 grind [decide,Wh]
theorem Wm7{l:List Opn}:bal l=true↔(∀i,i<l.length->0<=dep l (i+1))/\dep l l.length=0:=by
 unfold bal;rw[Xi,Xao,←Xfm,WfV,Wi];simp_all
theorem WlK(l:List Opn):(!Wm6 (Ws6 l) 0 l&&decide (dep l l.length=0))=(bal l&& !Wm6 (WpA l) 0 l):=by
 rw[Bool.eq_iff_iff,Xi,Xi,Xao,Xao,←Xfm,←Xfm,WfV,WfV,Wm7,Wi];constructor
 .rintro⟨h1,h2⟩;have hd:∀i,i<l.length->0<=dep l (i+1):=λi hi=>by
   grind [dep,absurd,Ws6]
  refine⟨⟨hd,h2⟩,?_⟩;rintro⟨i,hi,h⟩;refine h1 ⟨i,hi,?_⟩;have hdi:0<=dep l i:=by
   cases i with
   |zero=>rw[WcY];omega
   |succ i=>grind
  rw[Xat]at h⊢;unfold WpA at h;unfold Ws6
  grind
 simp_all [Xat,Ws6,WpA,Xcr,Xi,Wi,Xao,Wp]
theorem Whc{N:Nat}{l:List Opn}(hl:l.length<=1048576)(hN:1048576<N):Zia N l=ret (Wpn l):=by
 unfold Zia Wpn;by_cases h:l.length<=24
 .have e:decide (Wh l>24)=false:=by simp[Wh];omega
  rw[e];simp only[Wc];have h1:=Wy (l:=l) (V:=Unit) (R:=Unit×Kq) (lp:=λn j _=>Zaw N l (some ((),(false,()))) (λqb ku gy fu=>some ((),(qb==(0:Int),()))) n (dep l j.toNat) ((frk l j.toNat:Nat):Int) j) (n:=N) (by omega)
   (body:=λj x v k=>bif Ws6 l j.toNat x then some ((),(false,()))else k v) (K:=λj _=>some ((),(dep l j.toNat==(0:Int),())))
   (λn i v hi=>by
    have hb:=Wco l i;have hs:=Wat hi;have hf:=Whr hi;have gu:=Wti l i;have e3:Wj .i64 (dep l i) 1=dep l i+1:=WI (by unfold I64;omega);have e4:WV .i64 (dep l i) 1=dep l i+ -1:=by grind [WQ,I64]
    have e5:Wj .i64 ((frk l i:Nat):Int) 1=((frk l i+1:Nat):Int):=by grind [WI,I64]
    simp only[Zaw,WF hi,Wu hi,Ww hi,WJ hi,Wm (show i<4611686018427387904 by omega),Wa,Xk,Wcz,ret,Xd,e3,e4,e5];unfold Ws6;cases ho:Wdx l[i]with
    |false=>rfl
    |true=>
     unfold opd at hs;simp only[Xo,Wc,Xez];by_cases h8:l[i].1=8
     .simp_all
     .have b8:(l[i].1==8)=false:=by simp[h8]
      by_cases h9:l[i].1=9
      .simp_all
      .have b9:(l[i].1==9)=false:=by simp[h9]
       by_cases h7:l[i].1=7
       .have b7:(l[i].1==7)=true:=by simp[h7]
        have ca:(l[i].1==11)=false:=by simp[h7]
        have tS:=WmK h hN hi ho h7;simp only[b8,b9,b7,ca,Wa,Wc,Xfl,Xbd,Xeq,Xbv,Bool.or_false,Int.add_zero,tS,ret,Xd]at hs hf⊢;simp only[hs,hf];cases Wid l i l[i]<;>rfl
       grind)
   (λn v=>by simp[Zaw,WO,Xl,Wc]) ()
  have e0:dep l (Xa 0)=0:=WcY l;have e1:((frk l (Xa 0):Nat):Int)=0:=by simp[frk]
  simp only[e0,e1]at h1;refine h1.trans ?_;rw[Wds (p:=Ws6 l) (E:=λ_=>some ((),(false,()))) l 0 () (λj x v k _=>by rw[Xk])];rw[Xat,Xk,WuG,←WlK];simp only[h,decide_true,Xbv];cases Wm6 (Ws6 l) 0 l<;>rfl
 grind [decide,Wh]
theorem Wg1{N:Nat}{l:List Opn}(hl:l.length<=1048576)(hN:1048576<N):Zde N l=ret (Wpn l):=by
 unfold Zde Wpn;by_cases h:l.length<=24
 .have e:decide (Wh l>24)=false:=by simp[Wh];omega
  rw[e];simp only[Wc,WhK hl hN,ret,Xd,h,decide_true,Xbv];cases nR:bal l with
  |false=>rfl
  |true=>
   simp only[Xo,Wc,Xbv];have h1:=Wy (l:=l) (V:=Unit) (R:=Unit×Kq) (lp:=λn j _=>Zbu N l (some ((),(false,()))) (λkx oN t22=>some ((),(true,()))) n ((frk l j.toNat:Nat):Int) j) (n:=N) (by omega)
    (body:=λj x v k=>bif WpA l j.toNat x then some ((),(false,()))else k v) (K:=λj _=>some ((),(true,())))
    (λn i v hi=>by
     have hf:=Whr hi;have gu:=Wti l i;have e5:Wj .i64 ((frk l i:Nat):Int) 1=((frk l i+1:Nat):Int):=by grind [WI,I64]
     simp only[Zbu,WF hi,Wu hi,Ww hi,WJ hi,Wa,Xk,WeN,ret,Xd,e5];unfold WpA;cases ho:Wdx l[i]with
     |false=>rfl
     |true=>
      simp only[Xo,Wc,Xez];by_cases h7:l[i].1=7
      .have b7:(l[i].1==7)=true:=by simp[h7]
       have ca:(l[i].1==11)=false:=by simp[h7]
       obtain⟨en,h1,h2⟩:=Wof h hi ho h7;simp only[b7,ca,Wa,en,Wm (show i<4611686018427387904 by omega),Xfl,Xbd,Xeq,Xbv,Bool.or_false]at hf⊢;simp only[hf];unfold Wid;by_cases hq:i+1+l[i].2.2.1.toNat<=l.length
       .have q1:decide (((i+1+l[i].2.2.1.toNat:Nat):Int)>Wh l)=false:=by simp[Wh];omega
        have q2:(((decide ((0:Int)<=((i+1+l[i].2.2.1.toNat:Nat):Int)))&&(decide (((i+1+l[i].2.2.1.toNat:Nat):Int)<=((Xb l):Int))))&&(decide ((0:Int)<=((i+1:Nat):Int)))&&(decide (((i+1:Nat):Int)<=((i+1+l[i].2.2.1.toNat:Nat):Int))))=true:=by simp;omega
        rw[q1,q2];simp only[Wc,Wa,Xk];rw[WhK (by simp;omega) hN];simp_all
       grind [decide,Wh]
      .have b7:(l[i].1==7)=false:=by simp[h7]
       by_cases fT:l[i].1=11
       .have ca:(l[i].1==11)=true:=by simp[fT]
        simp only[b7,ca,Wa,Wc,Bool.toNat_true,Xeq,Xbv,Xez,WkB hl hN (Nat.le_of_lt hi),ret,Xd,Wm (show i<4611686018427387904 by omega)]at hf⊢;simp only[hf];have ef:decide (((frk l i+1:Nat):Int)>1)=decide (frk l i+1>1):=by grind
        have e0:(dep l i !=0)= !decide (dep l i=0):=by rw[bne,WuG]
        rw[ef,e0];cases decide (frk l i+1>1)<;>cases decide (dep l i=0)<;>rfl
       .have ca:(l[i].1==11)=false:=by simp[fT]
        simp only[b7,ca,Wa,Wc,Xfl,Xbd,Xeq,Xez,Wm (show i<4611686018427387904 by omega)]at hf⊢;simp_all)
    (λn v=>by simp[Zbu,WO,Xl,Wc]) ()
   have e1:((frk l (Xa 0):Nat):Int)=0:=by simp[frk]
   simp only[e1]at h1;refine h1.trans ?_;rw[Wds (p:=WpA l) (E:=λ_=>some ((),(false,()))) l 0 () (λj x v k _=>by rw[Xk])];cases Wm6 (WpA l) 0 l<;>rfl
 grind [decide,Wh]
end
section
def stk(l:List Opn):Nat->List Nat
 |0=>[]
 |j+1=>bif (l.getD j (0,0,0,0)).1==8 then stk l j++ [j]else bif (l.getD j (0,0,0,0)).1==9 then(stk l j).dropLast else stk l j
theorem Wlb{l:List Opn}{j:Nat}(h:j<l.length)(h8:l[j].1=8):stk l (j+1)=stk l j++ [j]:=by
 grind [stk,WJ]
theorem Wmo{l:List Opn}{j:Nat}(h:j<l.length)(h9:l[j].1=9):stk l (j+1)=(stk l j).dropLast:=by
 grind [stk,WJ]
theorem Wf5{l:List Opn}{j:Nat}(h:j<l.length)(h8:l[j].1≠8)(h9:l[j].1≠9):stk l (j+1)=stk l j:=by
 grind [stk,WJ]
theorem Wsa{o:Opn}(h:o.1=8):opd o=1:=by unfold opd;simp[h]
theorem WkE{o:Opn}(h:o.1=9):opd o= -1:=by unfold opd;simp[h]
theorem Wr1{o:Opn}(h8:o.1≠8)(h9:o.1≠9):opd o=0:=by
 grind [opd]
theorem WbX{α:Type}(l:List α):l= []\/∃q x,l=q++ [x]:=by
 rcases List.eq_nil_or_concat l with h|⟨q,x,h⟩
 .grind
 simp_all
def Up(l:List Opn):Prop:=∀i,i<l.length->0<=dep l (i+1)
theorem Up.at{l:List Opn}(h:Up l){j:Nat}(hj:j<=l.length):0<=dep l j:=by
 cases j with
 |zero=>rw[WcY];omega
 |succ j=>exact h j hj
theorem WaT{l:List Opn}(h:Up l):∀j,j<=l.length->((stk l j).length:Int)=dep l j
 |0,_=>by rw[WcY];rfl
 |j+1,hj=>by
  have hj':j<l.length:=hj;have ih:=WaT h j (by omega);have hd:=Wat hj';have hu:=h j hj'
  grind [Wlb,Wsa,Xw,Wmo,WkE,Xdb,Wf5,Wr1]
theorem Wj6{l:List Opn}:∀(j:Nat),j<=l.length->∀(s t:List Nat) (m:Nat),stk l j=s++m::t->
  m<j/\(∃h:m<l.length,l[m].1=8)/\stk l m=s/\∀i,m<i->i<=j->∃t',stk l i=s++m::t'
 |0,_,s,t,m,h=>by simp[stk]at h
 |j+1,hj,s,t,m,h=>by
  have hj':j<l.length:=hj;have ih:=Wj6 (l:=l) j (by omega);have next:∀t0,stk l j=s++m::t0->m<j+1/\(∃h:m<l.length,l[m].1=8)/\stk l m=s/\∀i,m<i->i<=j+1->∃t',stk l i=s++m::t':=λt0 h0=>by
   grind
  by_cases h8:l[j].1=8
  .rw[Wlb hj' h8]at h;rcases WbX t with rfl|⟨t0,x,rfl⟩
   .obtain⟨e1,e2⟩:=Xec (h:stk l j++ [j]=s++ [m]) rfl
    grind [Wlb]
   .have h2:stk l j++ [j]=(s++m::t0)++ [x]:=by rw[h,Xaw,Xbb]
    obtain⟨e1,e2⟩:=Xec h2 rfl
    grind [stk,Wlb]
  .by_cases h9:l[j].1=9
   .rw[Wmo hj' h9]at h;rcases WbX (stk l j)with h0|⟨q,x,hq⟩
    .simp_all
    simp_all
   grind [Wf5]
theorem WoF{l:List Opn}{a b:Nat}(fL:a<=b)(hb:b<=l.length)(nR:bal ((l.take b).drop a)=true):stk l b=stk l a:=by
 obtain⟨h1,h2⟩:=Wm7.1 nR;have hlen:((l.take b).drop a).length=b-a:=by simp;omega
 have key:∀i,i<=b-a->∃t,stk l (a+i)=stk l a++t/\(t.length:Int)=dep ((l.take b).drop a) i:=by
  intro i
  induction i with
  |zero=>simp[WcY]
  |succ i ih=>
   intro hi;obtain⟨t,tT,tU⟩:=ih (by omega);have eA:a+i<l.length:=by omega
   have pW:i<((l.take b).drop a).length:=by omega
   have hd:=Wat pW;have ei:((l.take b).drop a)[i]=l[a+i]:=by simp
   rw[ei]at hd;have hu:=h1 i pW;by_cases h8:l[a+i].1=8
   .grind [Xay,Wlb,Wsa,Xw]
   .by_cases h9:l[a+i].1=9
    .grind [WkE,Xay,Wmo,List.dropLast_append_of_ne_nil,Xdb]
    grind [Xay,Wf5,Wr1]
 obtain⟨t,tT,tU⟩:=key (b-a) (Xl _);simp_all
structure Mate(l:List Opn)(m k:Nat):Prop where
 lt:m<k
 len:k<l.length
 eq:dep l (k+1)=dep l m
 ne:∀i,m<=i->i<k->dep l (i+1)≠dep l m
 st:stk l (k+1)=stk l m
theorem Wtr{l:List Opn}(hu:Up l)(h0:dep l l.length=0){j m:Nat}{s:List Nat}(hj:j<=l.length)(hs:stk l j=s++ [m]):∃k,j<=k/\Mate l m k/\stk l m=s:=by
 obtain⟨a,⟨hm,h8⟩,c,d⟩:=Wj6 j hj s [] m hs;have lX:=WaT hu m (by omega);have low:∀i,m<=i->i<j->dep l (i+1)≠dep l m:=λi h1 h2=>by
  grind [WaT]
 have cW:=hu.at (show m<=l.length by omega);have ex:∀n i,l.length-i=n->j<=i->i<=l.length->(∀i',m<=i'->i'<i->dep l (i'+1)≠dep l m)->dep l m<dep l i->∃k,j<=k/\k<l.length/\dep l (k+1)=dep l m/\∀i',m<=i'->i'<k->dep l (i'+1)≠dep l m:=by
  intro n
  induction n with
  |zero=>grind
  |succ n ih=>
   intro i h1 h2 h3 h4 h5;have eA:i<l.length:=by omega
   by_cases he:dep l (i+1)=dep l m
   .grind
   .have hd:=Wat eA;have ho:=Wic l[i]
    grind
 have kh:dep l m<dep l j:=by
  grind [WaT]
 obtain⟨k,k1,k2,k3,k4⟩:=ex _ j rfl (Xl _) hj low kh;have mJ:m<k:=by omega
 have pre:∀n i,i=m+1+n->i<=k->∃t,stk l i=s++m::t:=by
  intro n
  induction n with
  |zero=>grind
  |succ n ih=>
   intro i h1 h2;obtain⟨t,ht⟩:=ih (m+1+n) rfl (by omega);have e:i=(m+1+n)+1:=by omega
   have eA:m+1+n<l.length:=by omega
   by_cases g8:l[m+1+n].1=8
   .grind [Wlb]
   .by_cases g9:l[m+1+n].1=9
    .rcases WbX t with rfl|⟨t0,x,rfl⟩
     .grind [Wmo,stk,WaT]
     grind [Wmo,Xej]
    grind [Wf5]
 obtain⟨t,ht⟩:=pre (k-m-1) k (by omega) (Xl _);have rY:=WaT hu k (by omega);have tV:=Wat k2;rw[ht]at rY;rw[c]at lX;simp at rY;have ci:=Wic l[k];have g9:l[k].1=9:=by
  grind [Wsa,Wr1]
 have tW:t= []:=List.eq_nil_of_length_eq_zero (by omega);subst tW;refine⟨k,k1,⟨mJ,k2,k3,k4,?_⟩,c⟩
 grind [Wmo]
theorem Wk5{l:List Opn}{m i:Nat}:((dep l (i+1) -dep l m)==(0:Int))=decide (dep l (i+1)=dep l m):=by
 grind
theorem Wii{N:Nat}{l:List Opn}{m k:Nat}(hl:l.length<=1048576)(hN:1048576<N)(h8:∃h:m<l.length,l[m].1=8)(hm:Mate l m k):Zjd N l (m:Int)=ret (k:Int):=by
 obtain⟨jW,h8⟩:=h8;unfold Zjd;have e1:WV .i64 (Wh l) 1=(l.length:Int) -1:=WQ (by unfold I64 Wh;omega);have e2:(decide (0<=(m:Int))&&decide ((m:Int)<=(l.length:Int) -1))=true:=by simp;omega
 have e3:(l[m].1 !=8)=false:=by simp[h8]
 simp only[WX,ret,Xd,e1,e2,Xo,Wc,Wu jW,Wa,Ww jW,e3];have key:∀(c n i:Nat),k-i=c->m<=i->i<=k->l.length-i<n->∀{R:Type} (K0:Int->Option R) (K1:Int->Int->Bool->Option R),Ze3 N l K0 K1 n (dep l i-dep l m) (i:Int)=K0 k:=by
  intro c
  induction c with
  |zero=>
   intro n i h1 h2 h3 h4 R K0 K1;have:i=k:=by omega
   subst this;cases n with
   |zero=>omega
   |succ n=>
    have eA:=hm.len;have hd:=Wat eA;have hb:=Wco l i;have gU:=Wco l m;have ho:=Wic l[i];have e:Wj .i64 (dep l i-dep l m) (opd l[i])=dep l (i+1) -dep l m:=by grind [WI,I64]
    simp only[Ze3,WF eA,Wu eA,Ww eA,Wa,WfI,ret,Xd,e];rw[Wk5];simp[hm.eq]
  |succ c ih=>
   intro n i h1 h2 h3 h4 R K0 K1;cases n with
   |zero=>omega
   |succ n=>
    have hk:=hm.len;have eA:i<l.length:=by omega
    have hd:=Wat eA;have hb:=Wco l i;have gU:=Wco l m;have ho:=Wic l[i];have e:Wj .i64 (dep l i-dep l m) (opd l[i])=dep l (i+1) -dep l m:=by grind [WI,I64]
    have hne:=hm.ne i h2 (by omega);simp only[Ze3,WF eA,Wu eA,Ww eA,Wa,WfI,ret,Xd,e,Wk5,hne,decide_false,Wc,Wm (show i<4611686018427387904 by omega)];exact ih n (i+1) (by omega) (by omega) (by omega) (by omega) K0 K1
 have:=key (k-m) N m rfl (Xl _) (by have:=hm.lt;omega) (by omega) (R:=Unit×Kh) (λaU=>some ((),(aU,()))) (λmt rU gz=>some ((),((-1:Int),())));simp_all
theorem Wig{N:Nat}{l:List Opn}{m k:Nat}(hl:l.length<=1048576)(hN:1048576<N)(h8:∃h:m<l.length,l[m].1=8)(hm:Mate l m k):Zjb N l (m:Int)=ret (k:Int):=by
 obtain⟨jW,h8⟩:=h8;unfold Zjb;have e1:decide ((m:Int)<0)=false:=by simp
 have e2:decide ((m:Int)>=Wh l)=false:=by simp[Wh];omega
 have e3:(l[m].1 !=8)=false:=by simp[h8]
 simp only[e1,e2,Wc,Wu jW,Wa,Ww jW,e3];have step:∀(n i:Nat) (eA:i<l.length) {R:Type} (K0:Int->Option R) (K1:Int->Int->Bool->Option R),m<=i->Za3 N l K0 K1 (n+1) (dep l i-dep l m) (i:Int)=
   bif decide (dep l (i+1)=dep l m)then K0 i else Za3 N l K0 K1 n (dep l (i+1) -dep l m) ((i+1:Nat):Int):=by
  intro n i eA R K0 K1 oH;have hd:=Wat eA;have hb:=Wco l i;have gU:=Wco l m;have s1:Wj .i64 (dep l i-dep l m) 1=dep l i-dep l m+1:=WI (by unfold I64;omega);have s2:WV .i64 (dep l i-dep l m) 1=dep l i-dep l m-1:=WQ (by unfold I64;omega);simp only[Za3,WF eA,Wu eA,Ww eA,Wa,Wm (show i<4611686018427387904 by omega),s1,s2];by_cases g8:l[i].1=8
  .have b8:(l[i].1==8)=true:=by simp[g8]
   have b9:(l[i].1==9)=false:=by simp[g8]
   have e:dep l i-dep l m+1=dep l (i+1) -dep l m:=by grind [Wsa]
   grind
  .have b8:(l[i].1==8)=false:=by simp[g8]
   by_cases g9:l[i].1=9
   .have b9:(l[i].1==9)=true:=by simp[g9]
    have e:dep l i-dep l m-1=dep l (i+1) -dep l m:=by grind [WkE]
    grind
   .have b9:(l[i].1==9)=false:=by simp[g9]
    have e:dep l i-dep l m=dep l (i+1) -dep l m:=by grind [Wr1]
    simp only[b8,b9,Wa,Wc];rw[e,Wk5]
 have key:∀(c n i:Nat),k-i=c->m<=i->i<=k->l.length-i<n->∀{R:Type} (K0:Int->Option R) (K1:Int->Int->Bool->Option R),Za3 N l K0 K1 n (dep l i-dep l m) (i:Int)=K0 k:=by
  intro c
  induction c with
  |zero=>
   intro n i h1 h2 h3 h4 R K0 K1;have:i=k:=by omega
   subst this;cases n with
   |zero=>omega
   |succ n=>rw[step n i hm.len K0 K1 h2];simp[hm.eq]
  |succ c ih=>
   intro n i h1 h2 h3 h4 R K0 K1;cases n with
   |zero=>omega
   |succ n=>
    have hk:=hm.len;have hne:=hm.ne i h2 (by omega);rw[step n i (by omega) K0 K1 h2];simp only[hne,decide_false,Wc];exact ih n (i+1) (by omega) (by omega) (by omega) (by omega) K0 K1
 have:=key (k-m) N m rfl (Xl _) (by have:=hm.lt;omega) (by omega) (R:=Unit×Kh) (λaU=>some ((),(aU,()))) (λmt rU gz=>some ((),((-1:Int),())));simp_all
end
section
theorem WoM{N:Nat}{o:Opn}:∃t:Int,Zbc N o=ret t/\Zip N o=ret t:=by
 unfold Zbc Zip;rw[Wcz,WeN];simp only[ret,Xd];cases Wdx o
 .simp_all
 .cases o.1==5<;>cases o.1==6<;>cases o.1==12<;>cases o.1==13<;>cases o.1==14<;>cases o.1==15<;>cases o.1==16<;>exact⟨_,rfl,rfl⟩
noncomputable def Wjg(o:Opn):Int:=match Zbc 0 o with|some (_,(t,_))=>t|none=>0
theorem Wuf{N:Nat}{o:Opn}:Zbc N o=Zbc 0 o:=by
 unfold Zbc;rw[Wcz,Wcz]
theorem Wbz{N:Nat}{o:Opn}:Zbc N o=ret (Wjg o):=by
 rw[Wuf];obtain⟨t,h,_⟩:=WoM (N:=0) (o:=o);unfold Wjg;rw[h]
theorem Wgb{N:Nat}{o:Opn}:Zip N o=ret (Wjg o):=by
 obtain⟨t,h,h2⟩:=WoM (N:=N) (o:=o);rw[h2,←h,Wbz]
noncomputable def Wgg(o:Opn):Bool:=(o.1==11)||(Wjg o==2)
noncomputable def Wgx(l:List Opn):Bool:=Wpn l&& !l.any Wgg
theorem Wg0{N:Nat}{l:List Opn}(hl:l.length<=1048576)(hN:1048576<N):Zg3 N l=ret (l.any λo=>o.1==11):=by
 unfold Zg3;have h1:=Wy (l:=l) (V:=Unit) (R:=Unit×Kq) (lp:=λn j v=>Zcs N l (some ((),(true,()))) (λi8 t9=>some ((),(false,()))) n j) (n:=N) (by omega)
  (body:=λj x v k=>bif x.1==11 then some ((),(true,()))else k v) (K:=λ_ v=>some ((),(false,())))
  (λn i v hi=>by simp only[Zcs,WF hi,Wu hi,Ww hi,Wm (show i<4611686018427387904 by omega),Wa])
  (λn v=>by simp[Zcs,WO,Xl,Wc]) ()
 refine h1.trans ?_;rw[W4 (p:=λx:Opn=>x.1==11) (E:=λ_=>some ((),(true,()))) l 0 () (λj x v k _=>rfl)];cases l.any λo:Opn=>o.1==11<;>rfl
theorem Wng{N:Nat}{l:List Opn}(hl:l.length<=1048576)(hN:1048576<N):Zja N l=ret (Wgx l):=by
 unfold Zja Wgx;simp only[Whc hl hN,ret,Xd];cases Wpn l with
 |false=>rfl
 |true=>
  simp only[Wg0 hl hN,ret,Xd,Xo,Wc,Xbv];have h1:=Wy (l:=l) (V:=Unit) (R:=Unit×Kq) (lp:=λn j v=>Zey N l (some ((),(false,()))) (λi8 t9=>some ((),(true,()))) n j) (n:=N) (by omega)
   (body:=λj x v k=>bif Wjg x==2 then some ((),(false,()))else k v) (K:=λ_ v=>some ((),(true,())))
   (λn i v hi=>by simp only[Zey,WF hi,Wu hi,Ww hi,Wm (show i<4611686018427387904 by omega),Wa,Wbz,ret,Xd])
   (λn v=>by simp[Zey,WO,Xl,Wc]) ()
  (try simp only[]at h1)
  rw[h1,W4 (p:=λx=>Wjg x==2) (E:=λ_=>some ((),(false,()))) l 0 () (λj x v k _=>rfl)];have e:l.any Wgg=((l.any λo=>o.1==11)||l.any λo=>Wjg o==2):=by
   grind [Wgg,Wjg]
  rw[e];cases l.any λo:Opn=>o.1==11<;>cases l.any λo=>Wjg o==2<;>rfl
theorem Wm2{N:Nat}{l:List Opn}(hl:l.length<=1048576)(hN:1048576<N):Zjc N l=ret (Wgx l):=by
 unfold Zjc Wgx;have h1:=Wy (l:=l) (V:=Unit) (R:=Unit×Kq) (lp:=λn j v=>Ze0 N l (some ((),(false,()))) (λaw aB=>((Zde N l).bind λbL=>(some ((),(bL.2.1,()))))) n j) (n:=N) (by omega)
  (body:=λj x v k=>bif Wgg x then some ((),(false,()))else k v) (K:=λ_ v=>ret (Wpn l))
  (λn i v hi=>by
   simp only[Ze0,WF hi,Wu hi,Ww hi,Wm (show i<4611686018427387904 by omega),Wa,Wgb,ret,Xd,Wgg];cases l[i].1==11<;>rfl)
  (λn v=>by simp_all [Ze0,WO,Xl,Wc,Wg1,ret,Xd]) ()
 refine h1.trans ?_;rw[W4 (p:=Wgg) (E:=λ_=>some ((),(false,()))) l 0 () (λj x v k _=>rfl)];cases l.any Wgg<;>cases Wpn l<;>rfl
def Wcr(l:List Int):Bool:=decide (l.length=4)&&l.all Wa2
theorem Wc7{N:Nat}{l:List Int}(hl:l.length<=1048576)(hN:1048576<N):Zcc N l=ret (Wcr l):=by
 unfold Zcc Wcr;by_cases h:l.length=4
 .have e:(Wh l !=4)=false:=by simp[Wh,h]
  rw[e];simp only[Wc];have h1:=Wy (l:=l) (V:=Unit) (R:=Unit×Kq) (lp:=λn j v=>Zdv N l (some ((),(false,()))) (λi8 t9=>some ((),(true,()))) n j) (n:=N) (by omega)
   (body:=λj x v k=>bif !Wa2 x then some ((),(false,()))else k v) (K:=λ_ v=>some ((),(true,())))
   (λn i v hi=>by simp only[Zdv,WF hi,Wu hi,Ww hi,Wm (show i<4611686018427387904 by omega),Wa,Wae,ret,Xd])
   (λn v=>by simp[Zdv,WO,Xl,Wc]) ()
  refine h1.trans ?_;rw[W4 (p:=λx=>!Wa2 x) (E:=λ_=>some ((),(false,()))) l 0 () (λj x v k _=>rfl),Wa4];cases l.all Wa2<;>simp[h]
 grind [Wh]
theorem Wc3{N:Nat}{l:List Int}(hl:l.length<=1048576)(hN:1048576<N):Z8 N l 4=ret (Wcr l):=by
 unfold Z8 Wcr;have h1:=Wy (l:=l) (V:=Unit) (R:=Unit×Kq) (lp:=λn j v=>Zap N l 4 (some ((),(false,()))) (λi8 t9=>some ((),((Wh l)==(4:Int),()))) n j) (n:=N) (by omega)
  (body:=λj x v k=>bif !Wa2 x then some ((),(false,()))else k v) (K:=λ_ v=>some ((),((Wh l)==(4:Int),())))
  (λn i v hi=>by simp only[Zap,WF hi,Wu hi,Ww hi,Wm (show i<4611686018427387904 by omega),Wa,War,ret,Xd])
  (λn v=>by simp[Zap,WO,Xl,Wc]) ()
 refine h1.trans ?_;rw[W4 (p:=λx=>!Wa2 x) (E:=λ_=>some ((),(false,()))) l 0 () (λj x v k _=>rfl),Wa4];have e:((Wh l)==(4:Int))=decide (l.length=4):=by
  grind [Wh]
 rw[e];cases l.all Wa2<;>simp
end
section
section
variable{o:Opn}
theorem Wnt(h:Wdx o=true)(h1:1<=o.1)(h4:o.1<=4):W3 o.2.1=true/\(o.1=1->Wa2 o.2.2.1=true)/\(o.1≠1->W3 o.2.2.1=true/\W3 o.2.2.2=true):=by
 obtain⟨k,a,b,c⟩:=o;simp only at h1 h4;have:k=1\/k=2\/k=3\/k=4:=by omega
 rcases this with rfl|rfl|rfl|rfl
 .have:(W3 a&&Wa2 b&&(c==(0:Int)))=true:=h;simp_all
 all_goals
  have:(W3 a&&W3 b&&W3 c)=true:=h;simp_all
theorem Wt7(h:Wdx o=true)(h5:o.1=5):W3 o.2.1=true/\Wam o.2.2.1=true:=by
 obtain⟨k,a,b,c⟩:=o;simp only at h5;subst h5;have:(W3 a&&Wam b&&(c==(0:Int)))=true:=h;simp_all
theorem Wt8(h:Wdx o=true)(h5:o.1=6):Wam o.2.1=true/\W3 o.2.2.1=true:=by
 obtain⟨k,a,b,c⟩:=o;simp only at h5;subst h5;have:(Wam a&&W3 b&&(c==(0:Int)))=true:=h;simp_all
theorem Wt6(h:Wdx o=true)(h5:o.1=7):W3 o.2.1=true/\1<=o.2.2.1/\o.2.2.1<=20:=by
 obtain⟨k,a,b,c⟩:=o;simp only at h5;subst h5;have:(W3 a&&(decide (1<=b)&&decide (b<=20))&&(c==(0:Int)))=true:=h;simp_all
theorem WsX(h:Wdx o=true)(h5:o.1=8):W3 o.2.1=true:=by
 obtain⟨k,a,b,c⟩:=o;simp only at h5;subst h5;have:(W3 a&&(b==(0:Int))&&(c==(0:Int)))=true:=h;simp_all
theorem WiZ(h:Wdx o=true):1<=o.1/\o.1<=16:=by
 by_cases hk:1<=o.1/\o.1<=16
 .exact hk
 .exfalso;have e:∀n:Int,1<=n->n<=16->(o.1==n)=false:=λn h1 h2=>by simp;omega
  simp_all [Wdx]
end
theorem WR{x:Int}{l:List Int}(h:W3 x=true)(hl:l.length=4):inb x l.length=true:=by
 grind [W3,inb]
structure Vals(n:Nat)(l:List Int):Prop where
 len:l.length=n
 val:∀x∈l,0<=x/\x<=65535
theorem Vals.get{n:Nat}{l:List Int}(h:Vals n l)(i:Nat):0<=l.getD i 0/\l.getD i 0<=65535:=by
 by_cases hi:i<l.length
 .rw[WJ hi];exact h.val _ (Xab hi)
 simp_all
theorem Vals.set{n:Nat}{l:List Int}(h:Vals n l)(i:Nat){x:Int}(hx:0<=x/\x<=65535):Vals n (l.set i x):=
 ⟨by rw[Xav];exact h.len,λy hy=>by
  rcases List.mem_or_eq_of_mem_set hy with hy|hy
  .exact h.val y hy
  omega⟩
theorem Wag{x:Int}:Wa2 x=true↔0<=x/\x<=65535:=by unfold Wa2;simp
theorem Wb1{l:List Int}:Wcr l=true↔Vals 4 l:=by
 unfold Wcr;rw[Xi,Wi,Xae];exact⟨λh=>⟨h.1,λx hx=>Wag.1 (h.2 x hx)⟩,λh=>⟨h.len,λx hx=>Wag.2 (h.val x hx)⟩⟩
theorem WkN{l:List Int}:WcT l=true↔Vals 8 l:=by
 unfold WcT;rw[Xi,Wi,Xae];exact⟨λh=>⟨h.1,λx hx=>Wag.1 (h.2 x hx)⟩,λh=>⟨h.len,λx hx=>Wag.2 (h.val x hx)⟩⟩
def Wls(o:Opn)(r:List Int):List Int:=
 bif o.1==1 then r.set o.2.1.toNat o.2.2.1 else
 bif o.1==2 then r.set o.2.1.toNat ((r.getD o.2.2.1.toNat 0+r.getD o.2.2.2.toNat 0)%65536)else
 bif o.1==3 then r.set o.2.1.toNat ((r.getD o.2.2.1.toNat 0-r.getD o.2.2.2.toNat 0+65536)%65536)else
 bif decide (r.getD o.2.2.1.toNat 0<r.getD o.2.2.2.toNat 0)then r.set o.2.1.toNat 1 else r.set o.2.1.toNat 0
theorem Was{x:Int}(h:0<=x):Wgi x 65536=x%65536:=by grind [Wgi,Int.tmod_eq_emod_of_nonneg]
theorem WkA{o:Opn}{r:List Int}(h:Wdx o=true)(h1:1<=o.1)(h4:o.1<=4)(hr:Vals 4 r):Vals 4 (Wls o r):=by
 obtain⟨_,hv,_⟩:=Wnt h h1 h4;unfold Wls;cases e1:o.1==1
 .cases o.1==2
  .cases o.1==3
   .cases decide (r.getD o.2.2.1.toNat 0<r.getD o.2.2.2.toNat 0)
    .exact hr.set _ (by omega)
    .exact hr.set _ (by omega)
   .exact hr.set _ (by omega)
  .exact hr.set _ (by omega)
 .exact hr.set _ (Wag.1 (hv (by simp_all)))
section
variable{N:Nat}{o:Opn}{r:List Int}
theorem Wg7(hN:1048576<N)(h:Wdx o=true)(h1:1<=o.1)(h4:o.1<=4)(hr:Vals 4 r):Zrm N o r=some ((),(Wls o r,(true,()))):=by
 obtain⟨ha,hv,qL⟩:=Wnt h h1 h4;unfold Zrm Zm;have e0:Wz r.length=true:=Wt (by rw[hr.len];omega);have e4:decide (o.1>4)=false:=by simp;omega
 have e5:Wcr r=true:=Wb1.2 hr;have ea:=WR ha hr.len;have ez:inz 65536=true:=rfl;have gb:=hr.get o.2.2.1.toNat;have gc:=hr.get o.2.2.2.toNat;simp only[e0,Wa,Xd,WeN,ret,h,Xo,Wc,e4,Wc3 (l:=r) (by rw[hr.len];omega) hN,e5,ea,ez];unfold Wls;by_cases k1:o.1=1
 .simp_all
 .have b:(o.1==1)=false:=by simp[k1]
  obtain⟨hb,hc⟩:=qL k1;rw[b];simp only[Wc,WR hb hr.len,WR hc hr.len,Wa,Xav,ea];have s1:Wj .i64 (r.getD o.2.2.1.toNat 0) (r.getD o.2.2.2.toNat 0)=r.getD o.2.2.1.toNat 0+r.getD o.2.2.2.toNat 0:=WI (by unfold I64;omega);have s2:WV .i64 (r.getD o.2.2.1.toNat 0) (r.getD o.2.2.2.toNat 0)=r.getD o.2.2.1.toNat 0-r.getD o.2.2.2.toNat 0:=WQ (by unfold I64;omega);have s3:Wj .i64 (r.getD o.2.2.1.toNat 0-r.getD o.2.2.2.toNat 0) 65536=r.getD o.2.2.1.toNat 0-r.getD o.2.2.2.toNat 0+65536:=WI (by unfold I64;omega);rw[s1,s2,s3,Was (by omega),Was (by omega)];cases o.1==2
  .cases o.1==3
   .simp only[Wc,Ws,Xcq];cases decide (r.getD o.2.2.1.toNat 0<r.getD o.2.2.2.toNat 0)<;>rfl
   .rfl
  .rfl
theorem Whe(hN:1048576<N)(h:Wdx o=true)(h1:1<=o.1)(h4:o.1<=4)(hr:Vals 4 r):Zrl N o r=some ((),(Wls o r,(true,()))):=by
 obtain⟨ha,hv,qL⟩:=Wnt h h1 h4;unfold Zrl;have e0:Wz (([]:List Int).length+r.length)=true:=Wt (by rw[hr.len];simp);have e4:decide (o.1>4)=false:=by simp;omega
 have e5:Wcr r=true:=Wb1.2 hr;have ea:=WR ha hr.len;have ez:inz 65536=true:=rfl;have en:Xg ([]:List Int) r=r:=rfl;have gb:=hr.get o.2.2.1.toNat;have gc:=hr.get o.2.2.2.toNat;simp only[e0,Wa,Xd,Wcz,ret,h,Xo,Wc,e4,Wc7 (l:=r) (by rw[hr.len];omega) hN,e5,ea,ez,en];unfold Wls;by_cases k1:o.1=1
 .simp_all
 .have b:(o.1==1)=false:=by simp[k1]
  obtain⟨hb,hc⟩:=qL k1;rw[b];simp only[Wc,WR hb hr.len,WR hc hr.len,Wa,Xav,ea];have s1:Wj .i64 (r.getD o.2.2.1.toNat 0) (r.getD o.2.2.2.toNat 0)=r.getD o.2.2.1.toNat 0+r.getD o.2.2.2.toNat 0:=WI (by unfold I64;omega);have s2:WV .i64 (r.getD o.2.2.1.toNat 0) (r.getD o.2.2.2.toNat 0)=r.getD o.2.2.1.toNat 0-r.getD o.2.2.2.toNat 0:=WQ (by unfold I64;omega);have s3:Wj .i64 (r.getD o.2.2.1.toNat 0-r.getD o.2.2.2.toNat 0) 65536=r.getD o.2.2.1.toNat 0-r.getD o.2.2.2.toNat 0+65536:=WI (by unfold I64;omega);rw[s1,s2,s3,Was (by omega),Was (by omega)];cases o.1==2
  .cases o.1==3
   .simp only[Wc,Ws,Xcq];cases decide (r.getD o.2.2.1.toNat 0<r.getD o.2.2.2.toNat 0)<;>rfl
   .rfl
  .rfl
end
def Wjb(l:List Rw):Prop:=∀r∈l,(0<=r.1/\r.1<=7)/\0<=r.2/\r.2<=65535
theorem Whx{l:List Rw}:l.all Wh9=true↔Wjb l:=by
 simp[Xae,Wjb,Wh9,Wam,Wa2]
theorem Wk3{N:Nat}{l:List Int}(h:l.length<=1048576):Zha N l=ret l:=by
 simp_all [Zha,Xbq,Xat,Woc,Wa]
theorem Wb3{N:Nat}{l:List Int}(h:l.length<=1048576):Zm N l=ret l:=by
 simp_all [Zm,Woc,Wa]
end
section
structure Lin{α:Type}(cf:α->α->Int):Prop where
 irr:∀x,¬cf x x<0
 tr:∀x y z,cf x y<0->cf y z<0->cf x z<0
 nt:∀x y z,¬cf x y<0->¬cf y z<0->¬cf x z<0
theorem Ws2:Lin cfE:=⟨λx=>by unfold cfE;omega,λx y z=>by unfold cfE;omega,λx y z=>by unfold cfE;omega⟩
theorem WoB:Lin cfH:=⟨λx=>by rw[Wa3];omega,λx y z=>by simp only[Wa3];omega,λx y z=>by simp only[Wa3];omega⟩
def Ris{α:Type}(cf:α->α->Int)(l:List α):Prop:=l.Pairwise λa b=>cf a b<0
def Wbq{α:Type}(cf:α->α->Int):List α->α->List α
 | [],e=>[e]
 |x::l,e=>if cf x e<0 then x::Wbq cf l e else if cf e x<0 then e::x::l else e::l
def Ap{α:Type}(cf:α->α->Int)(x y:α):Prop:=cf x y<0\/cf y x<0
variable{α:Type}{cf:α->α->Int}
theorem Lin.ap(h:Lin cf){x y:α}(hn:¬Ap cf x y){z:α}:(cf x z<0↔cf y z<0)/\(cf z x<0↔cf z y<0):=by
 unfold Ap at hn;refine⟨⟨λa=>?_,λa=>?_⟩,⟨λa=>?_,λa=>?_⟩⟩
 .exact Classical.byContradiction λc=>h.nt x y z (λq=>hn (.inl q)) c a
 .exact Classical.byContradiction λc=>h.nt y x z (λq=>hn (.inr q)) c a
 .exact Classical.byContradiction λc=>h.nt z y x c (λq=>hn (.inr q)) a
 .exact Classical.byContradiction λc=>h.nt z x y c (λq=>hn (.inl q)) a
theorem Wmy:∀(l:List α) (e:α),(Wbq cf l e).length<=l.length+1
 | [],e=>by simp[Wbq]
 |x::l,e=>by
  have:=Wmy l e;unfold Wbq
  grind
theorem Wcc(hc:Lin cf){e x:α}:∀{l:List α},Ris cf l->(x∈Wbq cf l e↔x=e\/(x∈l/\Ap cf x e))
 | [],_=>by simp[Wbq]
 |y::l,h=>by
  have hl:=(Xt.1 h);unfold Wbq;by_cases h1:cf y e<0
  .rw[Wf h1,Xr,Wcc hc hl.2,Xr];refine⟨?_,?_⟩
   .rintro(rfl|h|h)
    .exact .inr ⟨.inl rfl,.inl h1⟩
    .grind
    simp_all
   grind
  .rw[Wb h1];by_cases h2:cf e y<0
   .rw[Wf h2];simp only[Xr];refine⟨?_,?_⟩
    .rintro(h|rfl|h)
     .grind
     .exact .inr ⟨.inl rfl,.inr h2⟩
     .exact .inr ⟨.inr h,.inr (hc.tr _ _ _ h2 (hl.1 x h))⟩
    grind
   .rw[Wb h2];simp only[Xr];have hn:¬Ap cf y e:=by unfold Ap;omega
    refine⟨?_,?_⟩
    .rintro(h|h)
     .grind
     .exact .inr ⟨.inr h,.inr ((hc.ap hn).1.1 (hl.1 x h))⟩
    grind
theorem Wb2(hc:Lin cf){e:α}:∀{l:List α},Ris cf l->Ris cf (Wbq cf l e)
 | [],_=>by simp[Wbq,Ris]
 |y::l,h=>by
  have hl:=(Xt.1 h);unfold Wbq;by_cases h1:cf y e<0
  .rw[Wf h1];refine Xt.2 ⟨λx hx=>?_,Wb2 hc hl.2⟩;rcases(Wcc hc hl.2).1 hx with rfl|hx
   .exact h1
   simp_all
  .rw[Wb h1];by_cases h2:cf e y<0
   .rw[Wf h2];refine Xt.2 ⟨λx hx=>?_,h⟩;rcases Xr.1 hx with rfl|hx
    .exact h2
    .exact hc.tr _ _ _ h2 (hl.1 x hx)
   .rw[Wb h2];have hn:¬Ap cf y e:=by unfold Ap;omega
    exact Xt.2 ⟨λx hx=>(hc.ap hn).1.1 (hl.1 x hx),hl.2⟩
theorem Wne(hc:Lin cf){L M:List α}(hM:Ris cf M)(hL:L.Pairwise (Ap cf))(hm:∀x,x∈L↔x∈M):sortBy cf L=M:=by
 have hn:∀{l:List α},l.Pairwise (Ap cf)->l.Nodup:=λh=>h.imp λ{a b} fL=>by
  rintro rfl;unfold Ap at fL;have:=hc.irr a;omega
 have hM':M.Pairwise (Ap cf):=hM.imp λh=>.inl h;have hp:L.Perm M:=(List.perm_ext_iff_of_nodup (hn hL) (hn hM')).2 hm;unfold sortBy;have h1:=List.pairwise_mergeSort (le:=λx y=>!lessBy cf y x) (λa b c=>by
  simp only[lessBy,Xao,Wp]
  exactλh1 h2=>hc.nt _ _ _ h2 h1) (λa b=>by
  simp only[lessBy,Xcr,Xao,Wp];rcases Classical.em (cf b a<0)with h|h
  .exact .inr λh'=>hc.irr _ (hc.tr _ _ _ h h')
  omega) L
 refine List.Perm.eq_of_pairwise ?_ h1 (hM.imp λ{a b} h=>?_) ((Xgi _ _).trans hp)
 .intro a b ha hb h1 h2;simp only[lessBy,Xao,Wp]at h1 h2;have tX:a∈M:=(hm a).1 ((Xgi _ _).mem_iff.1 ha);obtain⟨i,hi,rfl⟩:=Xbu tX;obtain⟨j,hj,rfl⟩:=Xbu hb;rcases Nat.lt_trichotomy i j with h|h|h
  .exact WC (Xap.1 hM i j hi hj h) h2
  .grind
  .exact WC (Xap.1 hM j i hj hi h) h1
 .simp only[lessBy,Xao,Wp]
  exactλh'=>hc.irr _ (hc.tr _ _ _ h h')
theorem WoK{r:α->α->Bool}{R:α->α->Prop}(hr:∀a b,R a b->r a b=true):∀{l:List α},l.Pairwise R->Wld r l=true
 | [],_=>rfl
 |x::l,h=>by
  have:=Xt.1 h;simp only[Wld,Xi,Xae];exact⟨λy hy=>hr _ _ (this.1 y hy),WoK hr this.2⟩
theorem WoW(hc:Lin cf){rng:α->Bool}{N:Nat}{L M:List α}(hM:Ris cf M)(hL:L.Pairwise (Ap cf))(hm:∀x,x∈L↔x∈M)(hr:∀x∈L,rng x=true)(hl:L.length<=1048576):
  Zr8 rng cf N L=some ((M,()),()):=by
 grind [Zr8,Xae,WoK,Ap,apart,lessBy,decide_eq_true,Wne]
theorem WmM(hc:Lin cf){L:List α}{e:α}{i:Nat}(hL:L.Pairwise (Ap cf))(hi:i<L.length)(hk:¬Ap cf L[i] e):(L.set i e).Pairwise (Ap cf)/\∀x,x∈L.set i e↔x=e\/(x∈L/\Ap cf x e):=by
 have qM:∀{z},Ap cf L[i] z↔Ap cf e z:=λ{z}=>by unfold Ap;rw[(hc.ap hk).1,(hc.ap hk).2]
 have tY:∀{a b:α},Ap cf a b->Ap cf b a:=λh=>h.symm;have hG:=Xap.1 hL;refine⟨?_,λx=>⟨λhx=>?_,?_⟩⟩
 .rw[Xap]
  grind
 .obtain⟨j,hj,rfl⟩:=Xbu hx
  grind
 .rintro(rfl|⟨hx,jj⟩)
  .grind [Xgg]
  .obtain⟨j,hj,rfl⟩:=Xbu hx;refine Xgg.2 ⟨j,by simp_all,?_⟩;rw[Xci,Wb]
   grind
theorem WjW{L:List α}{e:α}(hL:L.Pairwise (Ap cf))(hk:∀x∈L,Ap cf x e):(L++ [e]).Pairwise (Ap cf)/\∀x,x∈L++ [e]↔x=e\/(x∈L/\Ap cf x e):=by
 grind
end
section
abbrev KM:=Int×Int×List Int
structure Kd where
 phase:Int:=0
 pc:Int:=0
 since:Int:=0
 tries:Int:=0
 pos:Int:=0
 out:Int:=0
 regs:List Int:=[]
 seen:List En:=[]
 writes:List Rw:=[]
 marks:List KM:=[]
 busy:Bool:=false
 pb:Pb:=(0,0,0,0)
def Kd.e(x:Kd):Y_KidRun:=(x.phase,x.pc,x.since,x.tries,x.pos,x.out,x.regs,x.seen,x.writes,x.marks,x.busy,x.pb)
structure Fm where
 rv:Int:=0
 clock:Int:=0
 owner:Int:=0
 lost:Bool:=false
 regs:List Int:=[]
 start:List Rw:=[]
 buf:List En:=[]
 order:List Int:=[]
 reads:List Rw:=[]
 kids:List Kd:=[]
def Fm.e(f:Fm):Y_Family:=(f.rv,f.clock,f.owner,f.lost,f.regs,f.start,f.buf,f.order,f.reads,f.kids.map Kd.e)
def zOp:Opn:=(0,0,0,0)
def opN(code:List Opn)(i:Int):Opn:=Xc code i.toNat zOp
def Wbt{α:Type}(l:List α)(i:Int)(d:α):α:=Xc l i.toNat d
def WnD{α:Type}(l:List α)(i:Int)(x:α):List α:=Xe l i.toNat x
def WfO{α:Type}(l:List α)(d:α):α:=Xc l (l.length-1) d
def Wjc(l:List Opn)(m:Nat):Nat:=((Xcz l.length).find? λk=>decide (m<=k)&&decide (dep l (k+1)=dep l m)).getD 0
def Fm.again(f:Fm)(x:Kd):Kd:={since:=f.clock,tries:=x.tries+1,regs:=f.regs}
def Whn(m:Mm)(f:Fm)(x:Kd)(o:Opn):Fm×Kd:=
 match WbY x.writes o.2.2.1 with
 |some v=>(f,{x with regs:=WnD x.regs o.2.1 v,pc:=x.pc+1})
 |none=>match ent f.buf o.2.2.1 with
  |some r=>if r.2.2.2>x.since then(f,f.again x)else(f,{x with regs:=WnD x.regs o.2.1 r.2.2.1,seen:=x.seen++ [r.2],pc:=x.pc+1})
  |none=>
   let p:=WaD m f.rv (if x.busy then x.pb else(o.2.2.1,0,0,0))
   if p.2.1=4 then({f with lost:=true},{x with busy:=true,pb:=p})
   else if p.2.1=3 then(f,{x with regs:=WnD x.regs o.2.1 p.2.2.2,seen:=x.seen++ [(o.2.2.1,p.2.2.2,-1)],busy:=false,pb:=(0,0,0,0),pc:=x.pc+1})
   else(f,{x with busy:=true,pb:=p})
def WjS(x:Kd)(code:List Opn):Kd:=
 if x.marks.length=0 then{x with writes:=[],out:=2,phase:=1}else
 let q:=WfO x.marks (0,0,[])
 {x with marks:=x.marks.dropLast,regs:=WnD q.2.2 (opN code q.1).2.1 0,writes:=x.writes.take q.2.1.toNat,pc:=Wjc code q.1.toNat+1}
def Woo(m:Mm)(f:Fm)(x:Kd)(code:List Opn):Fm×Kd:=
 if x.pc>=code.length then(f,{x with out:=1,phase:=1})else
 let o:=opN code x.pc
 if o.1=5 then Whn m f x o else
 if o.1=10 then(f,WjS x code)else
 if o.1=6 then(f,{x with writes:=x.writes++ [(o.2.1,Wbt x.regs o.2.2.1 0)],pc:=x.pc+1})else
 if o.1=7 then(f,{x with pc:=(if Wbt x.regs o.2.1 0=0 then x.pc+o.2.2.1 else x.pc)+1})else
 if o.1=8 then(f,{x with marks:=x.marks++ [(x.pc,(x.writes.length:Int),x.regs)],pc:=x.pc+1})else
 if o.1=9 then(f,{x with marks:=x.marks.dropLast,regs:=WnD x.regs (opN code (WfO x.marks (0,0,[])).1).2.1 1,pc:=x.pc+1})else
 (f,{x with regs:=Wls o x.regs,pc:=x.pc+1})
def WcV(c:Int)(b:List En)(rows:List Rw):List En:=rows.foldl (λb r=>Wbq cfE b (r.1,r.2,c)) b
def Waz(l:List En):List Rw:=(l.filter λe=>decide (e.2.2= -1)).map λe=>(e.1,e.2.1)
def Wg8(f:Fm)(x:Kd)(k:Nat):Fm×Kd:=
 ({f with clock:=f.clock+1,buf:=WcV (f.clock+1) f.buf (Wcq x.writes),reads:=f.reads++Waz x.seen,order:=f.order++ [(k:Int)],owner:=0},{x with phase:=3,pos:=0,marks:=[]})
def WuX(b:List En)(c:Int):Int:=match ent b c with
 |some r=>r.2.2.2
 |none=>-1
def Wr2(m:Mm)(f:Fm)(x:Kd)(k:Nat)(code:List Opn):Fm×Kd:=
 if x.phase=0 then Woo m f x code else
 if x.phase=1 then(if f.owner=0 then({f with owner:=(k:Int)+1},{x with phase:=2})else(f,x))else
 if x.phase=2 then
  if x.pos=x.seen.length then Wg8 f x k else
  let s:=Wbt x.seen x.pos (0,0,0)
  if WuX f.buf s.1=s.2.2 then(f,{x with pos:=x.pos+1})else({f with owner:=0},f.again x)
 else(f,x)
def Fm.put(q:Fm×Kd)(k:Nat):Fm:={q.1 with kids:=q.1.kids.set k q.2}
def Wiz(m:Mm)(f:Fm)(k:Nat)(code:List Opn):Fm:=
 if f.lost then f else Fm.put (Wr2 m f (f.kids.getD k {}) k code) k
def WcW(rv:Int)(regs:List Int)(writes:List Rw)(kids:Nat):Fm:=
 {rv:=rv,regs:=regs,start:=Wcq writes,buf:=(Wcq writes).map λr=>(r.1,r.2,0),kids:=Xp kids {regs:=regs}}
def Wck(f:Fm):Bool:=f.kids.all λx=>decide (x.phase=3)
def Wgy(f:Fm):List Rw:=f.buf.map λe=>(e.1,e.2.1)
def Wth(x:Kd):Int:=if x.out=1/\Wcr x.regs=true then Wbt x.regs 0 0 else 0
def Wfo(f:Fm):List Int:=
 if Wcr f.regs=true/\f.kids.length<=3 then f.kids.map Wth++f.regs.drop f.kids.length else []
structure KMk(code:List Opn)(pc:Nat)(marks:List KM)(wl:Nat):Prop where
 pcs:marks.map (·.1)=(stk code pc).map λm:Nat=>(m:Int)
 each:∀q∈marks,Vals 4 q.2.2/\0<=q.2.1/\q.2.1<=q.1/\q.2.1<=wl
 up:marks.Pairwise λa b=>a.2.1<=b.2.1
structure KOk(code:List Opn)(c n:Int)(x:Kd):Prop where
 pc:0<=x.pc/\x.pc<=code.length
 regs:Vals 4 x.regs
 rows:Wjb x.writes
 wl:(x.writes.length:Int)<=x.pc
 sl:(x.seen.length:Int)<=x.pc
 since:0<=x.since/\x.since<=c
 tries:0<=x.tries/\x.tries<=n
 seen:∀e∈x.seen,(0<=e.1/\e.1<=7)/\(0<=e.2.1/\e.2.1<=65535)/\ -1<=e.2.2/\e.2.2<=x.since
 marks:x.phase=0->KMk code x.pc.toNat x.marks x.writes.length
 pos:0<=x.pos/\x.pos<=x.seen.length
 pb:x.busy=true->WiM x.pb=true
 phase:0<=x.phase/\x.phase<=3
 out:0<=x.out/\x.out<=2
structure FOk(codes:List (List Opn))(n:Int)(f:Fm):Prop where
 len:f.kids.length=codes.length
 regs:Vals 4 f.regs
 clock:0<=f.clock/\f.clock=f.order.length
 done:f.order.length=f.kids.countP λx=>decide (x.phase=3)
 bufR:Ris cfE f.buf
 bufE:∀e∈f.buf,(0<=e.1/\e.1<=7)/\(0<=e.2.1/\e.2.1<=65535)/\0<=e.2.2/\e.2.2<=f.clock
 readsL:f.reads.length<=24*f.order.length
 readsE:Wjb f.reads
 owner:0<=f.owner/\f.owner<=f.kids.length
 kid:∀(k:Nat) (h:k<f.kids.length),KOk (codes.getD k []) f.clock n f.kids[k]
end
section
structure CC(l:List Opn):Prop where
 len:l.length<=24
 up:Up l
 z:dep l l.length=0
 ok:∀i (h:i<l.length),Wdx l[i]=true/\1<=l[i].1/\l[i].1<=16
 sk:∀i (h:i<l.length),l[i].1=7->i+1+l[i].2.2.1.toNat<=l.length/\bal ((l.take (i+1+l[i].2.2.1.toNat)).drop (i+1))=true
 fk:∀i (h:i<l.length),l[i].1=11->dep l i=0/\frk l (i+1)<=1
structure KC(l:List Opn):Prop extends CC l where
 k10:∀i (h:i<l.length),l[i].1<=10
theorem Wk2{o:Opn}(h:Wdx o=true)(dQ:12<=o.1):Wjg o=2:=by
 have mz:=WiZ h;have key:=Wbz (N:=0) (o:=o);unfold Zbc at key;rw[Wcz,h]at key;simp only[ret,Xd,Xo,Wc]at key;have e5:(o.1==5)=false:=by simp;omega
 have e6:(o.1==6)=false:=by simp;omega
 rw[e5,e6]at key;simp only[Wc]at key;have:o.1=12\/o.1=13\/o.1=14\/o.1=15\/o.1=16:=by omega
 rcases this with hk|hk|hk|hk|hk<;> · simp_all
theorem Wuh{l:List Opn}(h:Wpn l=true):CC l:=by
 unfold Wpn at h;simp only[Xi,Wi,Xao]at h;obtain⟨h1,h2,h3⟩:=h;obtain⟨b1,b2⟩:=Wm7.1 h2;have hb:∀i (hi:i<l.length),WpA l i l[i]=false:=λi hi=>by
  rw[Bool.eq_false_iff];intro hb;have:Wm6 (WpA l) 0 l=true:=WfV.2 ⟨i,hi,by simp_all⟩;simp_all
 have ci:∀i (hi:i<l.length),Wdx l[i]=true:=λi hi=>by
  grind [WpA,Xdr,Xew]
 refine⟨h1,b1,b2,λi hi=>⟨ci i hi,WiZ (ci i hi)⟩,λi hi h7=>?_,λi hi fT=>?_⟩
 .grind [WpA,Xdr,Xew,Wid]
 grind [WpA,Xdr,Xew]
theorem Wu1{l:List Opn}(h:Wgx l=true):KC l:=by
 unfold Wgx at h;simp only[Xi,Xao]at h;have hc:=Wuh h.1;refine⟨hc,λi hi=>?_⟩;have iP:Wgg l[i]=false:=by
  grind
 unfold Wgg at iP;simp only[Xdr]at iP;by_cases cu:l[i].1<=10
 .exact cu
 .exfalso;by_cases fT:l[i].1=11
  .simp_all
  .have:=Wk2 (hc.ok i hi).1 (by omega);simp_all
theorem Wjs{l:List Opn}{m k:Nat}(h:Mate l m k):Wjc l m=k:=by
 unfold Wjc;have:(Xcz l.length).find? (λk=>decide (m<=k)&&decide (dep l (k+1)=dep l m))=some k:=by
  rw[List.find?_range_eq_some];have:=h.lt;refine⟨?_,List.mem_range.2 h.len,λj hj=>?_⟩
  .simp[h.eq];omega
  .simp only[Xao,Bool.and_eq_false_iff,Wp];by_cases hm:m<=j
   .exact .inr (h.ne j hm hj)
   omega
 grind
theorem WiK{l:List Opn}{i:Int}(h0:0<=i)(h:i<l.length):∃(n:Nat) (hn:n<l.length),i=n/\opN l i=l[n]:=by
 grind [opN,WJ]
theorem Wd6{l:List Opn}{n:Nat}(h:n<l.length):opN l (n:Int)=l[n]:=by
 grind [opN,WJ]
theorem Wpq{α:Type}(q:List α)(x d:α):WfO (q++ [x]) d=x:=by unfold WfO;simp
theorem Wh5{M:Type}{g:M->Int}{l:List Opn}{pc:Nat}{marks:List M}{d:M}(hc:CC l)(hp:pc<=l.length)(hm:marks.map g=(stk l pc).map λm:Nat=>(m:Int))(hne:marks.length≠0):
  ∃(m:Nat) (q:List M) (x:M),marks=q++ [x]/\WfO marks d=x/\g x=(m:Int)/\(∃hm:m<l.length,l[m].1=8)/\m<pc/\Mate l m (Wjc l m)/\pc<=Wjc l m/\stk l m=(stk l pc).dropLast/\q.map g=(stk l m).map λm:Nat=>(m:Int):=by
 rcases WbX marks with h0|⟨q,x,hq⟩
 .simp_all
 .rw[hq,Xy,Xaf,Xce]at hm;rcases WbX (stk l pc)with h0|⟨t,m,ht⟩
  .simp_all
  .rw[ht,Xy,Xaf,Xce]at hm;obtain⟨e1,e2⟩:=Xec hm rfl;injection e2 with e2;obtain⟨k,k1,k2,k3⟩:=Wtr hc.up hc.z hp ht;have k4:=Wjs k2;obtain⟨hlt,h8,_,_⟩:=Wj6 pc hp t [] m ht
   grind [Wpq,Xej]
end
section
theorem WhM{α β:Type}(g:α->β)(l:List α)(i:Nat)(d:α):Xc (l.map g) i (g d)=g (l.getD i d):=by
 simp_all
theorem kdP(x:Kd):x.e.1=x.phase/\x.e.2.1=x.pc/\x.e.2.2.1=x.since/\x.e.2.2.2.1=x.tries/\P4 x.e=x.pos/\P5 x.e=x.out/\P6 x.e=x.regs/\P7 x.e=x.seen/\P8 x.e=x.writes/\P9 x.e=x.marks/\P10 x.e=x.busy:=⟨rfl,rfl,rfl,rfl,rfl,rfl,rfl,rfl,rfl,rfl,rfl⟩
theorem fmP(f:Fm):f.e.1=f.rv/\f.e.2.1=f.clock/\f.e.2.2.1=f.owner/\f.e.2.2.2.1=f.lost/\P4 f.e=f.regs/\P5 f.e=f.start/\P6 f.e=f.buf/\P7 f.e=f.order/\P8 f.e=f.reads/\Q9 f.e=f.kids.map Kd.e:=⟨rfl,rfl,rfl,rfl,rfl,rfl,rfl,rfl,rfl,rfl⟩
theorem U9e(f:Fm)(k:Nat)(x:Kd):U9 (Xe (f.kids.map Kd.e) k x.e) f.e=Fm.e {f with kids:=f.kids.set k x}:=by
 unfold U9 Fm.e;rw[Xdw]
theorem Wp7{f f':Fm}{k:Nat}{x':Kd}{y:Y_KidRun}{g:Y_Family}(hy:y=x'.e)(hg:g=f'.e)(hf:f'.kids=f.kids):
  some ((U9 (Xe (f.kids.map Kd.e) k y) g,()),())=some (((Fm.put (f',x') k).e,()),()):=by
 subst hy hg;rw[←hf,U9e];rfl
theorem Wl3(m:Mm)(f:Fm)(x:Kd)(o:Opn):Wd8 m f.e x.e o=((Whn m f x o).1.e,(Whn m f x o).2.e):=by
 unfold Wd8 Whn;have h1:P8 x.e=x.writes:=rfl;have h2:P6 f.e=f.buf:=rfl;rw[h1,h2];rcases WbY x.writes o.2.2.1 with _|v
 .rcases ent f.buf o.2.2.1 with _|r
  .have h3:Wli x.e o.2.2.1=if x.busy then x.pb else(o.2.2.1,0,0,0):=by
    unfold Wli;have:P10 x.e=x.busy:=rfl;rw[this];cases x.busy<;>rfl
   simp only[h3];have h4:f.e.1=f.rv:=rfl;rw[h4];generalize WaD m f.rv (if x.busy then x.pb else(o.2.2.1,0,0,0))=p;by_cases e4:p.2.1=4
   .have:(p.2.1==4)=true:=by simp_all
    rw[Wf e4,this];rfl
   .have:(p.2.1==4)=false:=by simp_all
    rw[Wb e4,this];by_cases e3:p.2.1=3
    .have:(p.2.1==3)=true:=by simp_all
     rw[Wf e3,this];rfl
    .have:(p.2.1==3)=false:=by simp_all
     rw[Wb e3,this];rfl
  .simp only;have h5:x.e.2.2.1=x.since:=rfl;rw[h5];by_cases hv:r.2.2.2>x.since
   .rw[Wf hv,We hv];rfl
   .rw[Wb hv,Wk hv];rfl
 .rfl
theorem WjY(m:Mm)(f:Fm)(x:Kd)(o:Opn):(Whn m f x o).1.kids=f.kids:=by
 grind [Whn,WbY,ent,WaD]
variable{N:Nat}{codes:List (List Opn)}{n:Int}{f:Fm}{k:Nat}{code:List Opn}{m:Mm}{x:Kd}
theorem FOk.buf8(h:FOk codes n f):f.buf.length<=8:=by
 have:∀(l:List En) (c:Int),Ris cfE l->(∀e∈l,c<=e.1/\e.1<=7)->(l.length:Int)<=8-c\/l= []:=by
  intro l
  induction l with
  |nil=>simp_all
  |cons a l ih=>
   intro c hr hb;left;have h1:=Xt.1 hr;have ha:=hb a (Xj ..);rcases ih (a.1+1) h1.2 (λe he=>⟨by grind [cfE],(hb e (Xf _ he)).2⟩)with h|h
   .grind
   grind
 rcases this f.buf 0 h.bufR (λe he=>by have:=(h.bufE e he).1;omega)with h|h
 .omega
 simp_all
theorem WlQ(hF:FOk codes n f)(hx:KOk code f.clock n x)(bI:KC code)(hm:WY m=true)(hn:n<=100000){o:Opn}(hA:W3 o.2.1=true)(hB:Wam o.2.2.1=true):ReadOk m f.e x.e o where
 mem:=hm
 regs:=hx.regs.len
 famr:=hF.regs.len
 rA:=by grind [W3]
 cB:=hB
 seen:=by have:=hx.sl;have:=hx.pc;have:=bI.len;show x.seen.length<=1000;omega
 wr:=by have:=hx.wl;have:=hx.pc;have:=bI.len;show x.writes.length<=1000;omega
 buf:=by have:=hF.buf8;show f.buf.length<=1000;omega
 ver:=λe he=>(hF.bufE e he).2.2.1
 since:=hx.since.1
 pc:=by have:=hx.pc;have:=bI.len;show 0<=x.pc/\x.pc<=1000;omega
 tries:=by have:=hx.tries;show 0<=x.tries/\x.tries<=100000;omega
 pb:=hx.pb
theorem Wv{α:Type}{a b:Int}{x y:α}:(bif a==b then x else y)=if a=b then x else y:=by
 simp_all
theorem WT{α:Type}{p:Prop}[Decidable p]{x y:α}:(bif decide p then x else y)=if p then x else y:=by
 simp_all
theorem WkD(bI:KC code)(hx:KOk code f.clock n x)(h0:x.phase=0)(hN:1048576<N):Zju N x.e code=some (((WjS x code).e,()),()):=by
 unfold Zju WjS;obtain⟨k0,k1,k2,k3,k4,k5,k6,k7,k8,k9,k10⟩:=kdP x;have bp:=hx.pc;have hlen:=bI.len;have hM:=hx.marks h0;simp only[Ws,k9,k8,k1,Wv];by_cases hz:x.marks.length=0
 .rw[Wf (by unfold Wh;omega),Wf hz];rfl
 .rw[Wb (by unfold Wh;omega),Wb hz];obtain⟨j,q,y,e1,e2,e3,⟨hj,h8⟩,nS,cI,iw,e5,e6⟩:=Wh5 (d:=((0,0,[]):KM)) bI.toCC (show x.pc.toNat<=code.length by omega) hM.pcs hz;have lX:x.marks.length=q.length+1:=by grind
  have tZ:q.length<=24:=by
   have:=Wn Xb e6;simp only[Xx]at this;have h2:=WaT bI.up j (by omega);have h3:=(Wco code j).2;omega
  have i1:WV .i64 (Wh x.marks) 1=(q.length:Int):=by grind [Wh3]
  have hy:y∈x.marks:=by grind
  obtain⟨y1,y2,y3,y4⟩:=hM.each y hy;have g1:Xc x.marks (Xa (q.length:Int)) ((0,0,[]):KM)=y:=by grind
  have t1:Xaj (Xa (q.length:Int)) x.marks=x.marks.dropLast:=by rw[e1];simp
  have jJ:=hx.wl;rw[i1,WB,We (show q.length<x.marks.length by omega)];simp only[Wa,g1,t1,e2];have b1:((decide ((0:Int)<=(q.length:Int))&&decide ((q.length:Int)<=(x.marks.length:Int)))&&decide ((q.length:Int)<=((Xa (q.length:Int):Nat):Int)))=true:=by
   simp;omega
  rw[b1];simp only[Wa];rw[Wa9 (by rw[y1.len];omega)];simp only[ret,Xd];rw[e3,WB,We hj];have o1:Xc code (Xa ((j:Nat):Int)) ((0,0,0,0):Opn)=code[j]:=Ww hj _;have o2:opN code ((j:Nat):Int)=code[j]:=Wd6 hj;have hr:=WsX (bI.ok j hj).1 h8;simp only[Wa,o1,o2];rw[WR hr y1.len];have b2:(decide ((0:Int)<=y.2.1)&&decide (y.2.1<=(x.writes.length:Int)))=true:=by simp;omega
  rw[b2];simp only[Wa];rw[Wdl (by grind),Wii (by omega) hN ⟨hj,h8⟩ cI];simp only[ret,Xd];rw[Wai (by have:=cI.len;omega),Xk];rfl
theorem WnX(hk:k<f.kids.length)(hm:WY m=true)(bI:KC code)(hF:FOk codes n f)(aP:codes.getD k []=code)(aG:f.kids[k]=x)(h0:x.phase=0)(hn:n<=100000)(hN:1048576<N):
  Zlf N f.e (k:Int) code m=some (((Fm.put (Woo m f x code) k).e,()),()):=by
 have hx:=hF.kid k hk;rw[aP,aG]at hx;obtain⟨k0,k1,k2,k3,k4,k5,k6,k7,k8,k9,k10⟩:=kdP x;obtain⟨f0,f1,f2,f3,f4,f5,f6,f7,f8,f9⟩:=fmP f;have bp:=hx.pc;have hlen:=bI.len;have jJ:=hx.wl;have e2:Xc (f.kids.map Kd.e) (Xa (k:Int)) d_KidRun=x.e:=by
  simp_all
 have e3:U9 (Xe (f.kids.map Kd.e) (Xa (k:Int)) x.e) f.e=f.e:=by
  rw[Xk,U9e,←aG,Xba]
 unfold Zlf Woo;simp only[Ws,f9,Xx];rw[WB,We hk];simp only[Wa,e2,e3,k1,k6,k8,k9,WT,Wv,show Wh code=(code.length:Int)from rfl];by_cases cW:x.pc>=code.length
 .rw[Wf cW,Wf cW];rw[Xk];exact Wp7 rfl rfl rfl
 .rw[Wb cW,Wb cW];obtain⟨j,hj,ej,eo⟩:=WiK (l:=code) bp.1 (by omega);have lY:Xc code (Xa x.pc) ((0,0,0,0):Opn)=opN code x.pc:=rfl;have eK:inb x.pc code.length=true:=by grind [WB,decide_eq_true]
  rw[eK];obtain⟨ok,o1,gY⟩:=bI.ok j hj;have bn:=bI.k10 j hj;simp only[Wa,lY];rw[←eo]at ok o1 bn;generalize opN code x.pc=o at*;have bQ:=hx.regs.len;rw[Xk];rw[Wai (show 0<=x.pc/\x.pc<=1000000 by omega)];by_cases h5:o.1=5
  .rw[Wf h5,Wf h5];have:=Wt7 ok h5;have hY:=WlQ hF hx bI hm hn this.1 this.2;have e4:(Q9 f.e)[k]'(by simp_all)=x.e:=by
    simp_all
   have:=Wlu (m:=m) (o:=o) (f:=f.e) (k:=k) (by simp_all) (by simp_all) hN;rw[this];simp only[Xd,e4,Wl3];unfold WuW;have ib:=WjY m f x o;rw[show Q9 (Whn m f x o).1.e=f.kids.map Kd.e by rw[←ib];rfl];exact Wp7 rfl rfl ib
  .rw[Wb h5,Wb h5];by_cases cu:o.1=10
   .rw[Wf cu,Wf cu,WkD bI hx h0 hN];exact Wp7 rfl rfl rfl
   .rw[Wb cu,Wb cu];by_cases h6:o.1=6
    .rw[Wf h6,Wf h6];rw[WR (Wt8 ok h6).2 bQ,Wt (by simp;omega)];exact Wp7 rfl rfl rfl
    .rw[Wb h6,Wb h6];by_cases h7:o.1=7
     .rw[Wf h7,Wf h7];have h:=Wt6 ok h7;rw[WR h.1 bQ,WI (a:=x.pc) (b:=o.2.2.1) (by unfold I64;omega),Wai (a:=x.pc+o.2.2.1) (by omega)];by_cases hg:Xc x.regs (Xa o.2.1) 0=0
      .rw[Wf hg,Wf (show Wbt x.regs o.2.1 0=0 from hg)];simp only[Wa];exact Wp7 rfl rfl rfl
      .rw[Wb hg,Wb (show¬Wbt x.regs o.2.1 0=0 from hg)];simp only[Wa];exact Wp7 rfl rfl rfl
     .rw[Wb h7,Wb h7];by_cases h8:o.1=8
      .rw[Wf h8,Wf h8];rw[Wa9 (by omega)];have jW:x.marks.length<=24:=by
        have:=Wn Xb (hx.marks h0).pcs;simp only[Xx]at this;have h2:=WaT bI.up x.pc.toNat (by omega);have h3:=(Wco code x.pc.toNat).2;omega
       simp only[ret,Xd];rw[Wt (by simp;omega)];exact Wp7 rfl rfl rfl
      .rw[Wb h8,Wb h8];by_cases h9:o.1=9
       .rw[Wf h9,Wf h9];have hM:=hx.marks h0;have hz:x.marks.length≠0:=by
         intro hz;have h1:=Wn Xb hM.pcs;simp only[Xx,hz]at h1;have h2:=WaT bI.up j (by omega);have h3:=bI.up j hj
         grind [Wat,WkE,Xk]
        obtain⟨i,q,y,e1,nT,nU,⟨hi,mA⟩,nS,cI,iw,e5,e6⟩:=Wh5 (d:=((0,0,[]):KM)) bI.toCC (show x.pc.toNat<=code.length by omega) hM.pcs hz;have lX:x.marks.length=q.length+1:=by grind
        have jW:x.marks.length<=24:=by
         have:=Wn Xb (hx.marks h0).pcs;simp only[Xx]at this;have h2:=WaT bI.up x.pc.toNat (by omega);have h3:=(Wco code x.pc.toNat).2;omega
        have i1:WV .i64 (Wh x.marks) 1=(q.length:Int):=by grind [Wh3]
        have g1:Xc x.marks (Xa (q.length:Int)) ((0,0,[]):KM)=y:=by grind
        have t1:Xaj (Xa (q.length:Int)) x.marks=x.marks.dropLast:=by rw[e1];simp
        rw[i1,WB,We (show q.length<x.marks.length by omega)];have b1:(decide ((0:Int)<=(q.length:Int))&&decide ((q.length:Int)<=(x.marks.length:Int)))=true:=by simp;omega
        rw[b1];simp only[Wa,g1,t1,nT];rw[nU,WB,We hi];have o1:Xc code (Xa ((i:Nat):Int)) ((0,0,0,0):Opn)=opN code (i:Int):=rfl;have hr:=WsX (bI.ok i hi).1 mA;rw[←Wd6 hi]at hr;simp only[Wa,o1];rw[WR hr bQ];exact Wp7 rfl rfl rfl
       .rw[Wb h9,Wb h9];rw[Wg7 hN ok (by omega) (by omega) hx.regs];exact Wp7 rfl rfl rfl
end
section
theorem Wjt{l:List Rw}{c v:Int}:∀(i:Nat),i<=l.length->Wgm l c i=some v->(c,v)∈l
 |0,_,h=>by simp[Wgm]at h
 |i+1,hi,h=>by
  unfold Wgm at h;rw[WJ (show i<l.length by omega)]at h;by_cases hc:l[i].1=c
  .grind
  .rw[Wb hc]at h;exact Wjt i (by omega) h
theorem Wij{l:List Rw}{c v:Int}(h:WbY l c=some v):Wad l=true/\(c,v)∈l:=by
 unfold WbY at h;by_cases hr:Wad l=true
 .rw[Wf hr]at h;exact⟨hr,Wjt _ (Xl _) h⟩
 simp_all
theorem Wot(l:List Rw):∀(j c:Nat) (o:List Rw),WhQ l j c o=o++(Xfu c j).filterMap λc:Nat=>(WbY l (c:Int)).map λv=>((c:Int),v)
 |0,c,o=>by simp[WhQ]
 |j+1,c,o=>by
  rw[WhQ,Wot l j,List.range'_succ,List.filterMap_cons];unfold WhT;cases h:WbY l (c:Int)<;>simp
theorem Wnn(l:List Rw):Wcq l=(Xfu 0 8).filterMap λc:Nat=>(WbY l (c:Int)).map λv=>((c:Int),v):=by simp[Wcq,Wot]
theorem Wov{l:List Rw}{r:Rw}:r∈Wcq l↔(0<=r.1/\r.1<=7)/\WbY l r.1=some r.2:=by
 rw[Wnn,List.mem_filterMap];constructor
 .rintro⟨c,hc,h⟩;rw[Xff]at hc;cases hl:WbY l (c:Int)with
  |none=>simp_all
  |some v=>
   grind
 .rintro⟨h0,h⟩;refine⟨r.1.toNat,Xff.2 (by omega),?_⟩
  grind
theorem WnZ(l:List Rw):(Wcq l).Pairwise λa b=>a.1<b.1:=by
 rw[Wnn,List.pairwise_filterMap];refine List.Pairwise.imp ?_ (List.pairwise_lt_range' (s:=0) (n:=8));simp_all
theorem WcX(l:List Rw):(Wcq l).length<=8:=by
 grind [Wnn,Xbe,List.length_filterMap_le]
theorem Wgn{l:List Rw}:Wjb (Wcq l):=by
 intro r hr;obtain⟨h0,h1⟩:=Wov.1 hr;obtain⟨h2,h3⟩:=Wij h1;unfold Wad at h2;simp only[Xi]at h2;have:=(Whx.1 h2.2) _ h3;omega
end
section
theorem WeU{p:Pb}:WiM p=true↔(0<=p.1/\p.1<=7)/\(0<=p.2.1/\p.2.1<=4)/\(0<=p.2.2.1/\p.2.2.1<=1000000)/\0<=p.2.2.2/\p.2.2.2<=65535:=by
 simp[WiM,Wam,Wa2,Xi,Wi]
theorem Whf{c:Int}{w:Wd}:Wlt c w=true↔(0<=w.1/\w.1<=65535)/\(0<=w.2.1/\w.2.1<=c)/\0<=w.2.2/\w.2.2<=99:=by
 simp[Wlt,Wa2,Xi,Wi]
theorem Wrn{m:Mm}(h:WY m=true){c:Int}(hc:0<=c/\c<=7):Wlt m.1 (Wbt m.2 c (0,0,0))=true:=by
 grind [WE,Wbt,WJ,Xab]
theorem Wly{m:Mm}{rv:Int}{p:Pb}(hm:WY m=true)(hp:WiM p=true):WiM (WaD m rv p)=true/\(WaD m rv p).1=p.1:=by
 have dS:=WeU.1 hp;have hw:=Wrn hm dS.1;rw[Whf]at hw;obtain⟨h8,h0,h1,_⟩:=WE hm;unfold WaD;simp only[Wv,WT];have ua:Wlt m.1 (Xc m.2 (Xa p.1) (0,0,0))=true:=Wrn hm dS.1
 grind [Whf,WeU]
section
variable{code:List Opn}{pc ek wl jK:Nat}{ms q:List KM}{y:KM}{c c' n n':Int}{x:Kd}{f:Fm}{m:Mm}{codes:List (List Opn)}{k:Nat}
theorem KMk.mono(h:KMk code pc ms wl)(hs:stk code ek=stk code pc)(hw:wl<=jK):KMk code ek ms jK:=
 ⟨by rw[hs];exact h.pcs,λq hq=>by have:=h.each q hq;grind,h.up⟩
theorem KMk.begin(h:KMk code pc ms wl)(hp:pc<code.length)(h8:code[pc].1=8){regs:List Int}(hr:Vals 4 regs)(hw:wl<=pc):KMk code (pc+1) (ms++ [((pc:Int),(wl:Int),regs)]) wl:=by
 refine⟨?_,?_,?_⟩
 .rw[Wlb hp h8,Xy,Xy,h.pcs];rfl
 .intro q hq;rcases Xn.1 hq with hq|hq
  .exact h.each q hq
  simp_all
 .refine Xah.2 ⟨h.up,List.pairwise_singleton _ _,λa ha b hb=>?_⟩;rw[Xag]at hb;subst hb;exact(h.each a ha).2.2.2
theorem KMk.drop(h:KMk code pc ms wl)(mB:ms=q++ [y])(hs:stk code ek=(stk code pc).dropLast)(hw:y.2.1<=jK):KMk code ek q jK:=by
 subst mB;have h1:=h.pcs;refine⟨?_,λa ha=>?_,(Xah.1 h.up).1⟩
 .grind
 .have h2:=h.each a (List.mem_append_left _ ha);have h3:=(Xah.1 h.up).2.2 a ha y (by simp)
  grind
theorem KOk.wk(h:KOk code c n x)(hc:c<=c')(hn:n<=n'):KOk code c' n' x:=
 {h with since:=by have:=h.since;omega,tries:=by have:=h.tries;omega}
theorem WoQ(h:KOk code c n x)(hc:c=f.clock)(hf:Vals 4 f.regs)(h0:0<=f.clock):KOk code c (n+1) (f.again x) where
 pc:=⟨Xcs _,by show(0:Int)<=_;omega⟩
 regs:=hf
 rows:=λr hr=>by cases hr
 wl:=Xcs _
 sl:=Xcs _
 since:=by show 0<=f.clock/\f.clock<=c;omega
 tries:=by have:=h.tries;show 0<=x.tries+1/\x.tries+1<=n+1;omega
 seen:=λe he=>by cases he
 marks:=λ_=>⟨by show([]:List KM).map _=(stk code 0).map _;rfl,(λq hq=>by cases hq),List.Pairwise.nil⟩
 pos:=⟨Xcs _,Xcs _⟩
 pb:=λh=>by cases h
 phase:=by show(0:Int)<=0/\(0:Int)<=3;omega
 out:=by show(0:Int)<=0/\(0:Int)<=2;omega
theorem KMk.len(hc:CC code)(h:KMk code pc ms wl)(hp:pc<=code.length):(ms.length:Int)=dep code pc:=by
 have:=Wn Xb h.pcs;simp only[Xx]at this;rw[this,WaT hc.up pc hp]
theorem KOk.on(bS:CC code)(h:KOk code c n x)(h0:x.phase=0){i:Nat}(hi:i<code.length)(bp:x.pc=i){regs:List Int}{seen:List En}{writes:List Rw}{marks:List KM}{busy:Bool}{pb:Pb}{ek:Nat}(hp:ek<=code.length)(hlt:i<ek)(hr:Vals 4 regs)(hrow:Wjb writes)(jJ:writes.length<=x.writes.length+1)(hsl:seen.length<=x.seen.length+1)
  (hs:∀e∈seen,(0<=e.1/\e.1<=7)/\(0<=e.2.1/\e.2.1<=65535)/\ -1<=e.2.2/\e.2.2<=x.since) (hse:x.seen.length<=seen.length) (hm:KMk code ek marks writes.length) (hb:busy=true->WiM pb=true):
  KOk code c n {x with regs:=regs,seen:=seen,writes:=writes,marks:=marks,busy:=busy,pb:=pb,pc:=(ek:Int)}:=
 {h with
  pc:=by simp_all
  regs:=hr
  rows:=hrow
  wl:=by have:=h.wl;grind
  sl:=by have:=h.sl;grind
  seen:=hs
  marks:=λ_=>by simp_all
  pos:=by have:=h.pos;grind
  pb:=hb}
theorem WsA(bS:CC code)(hF:FOk codes n f)(h:KOk code f.clock n x)(h0:x.phase=0){i:Nat}(hi:i<code.length)(bp:x.pc=i)(h5:code[i].1=5)(hm:WY m=true):
  KOk code f.clock (n+1) (Whn m f x code[i]).2/\((Whn m f x code[i]).1=f\/(Whn m f x code[i]).1={f with lost:=true}):=by
 have ci:=Wt7 (bS.ok i hi).1 h5;have hB:0<=code[i].2.2.1/\code[i].2.2.1<=7:=by grind [Wam]
 have hM:=h.marks h0;rw[bp,Xk]at hM;have be:stk code (i+1)=stk code i:=Wf5 hi (by omega) (by omega);have ch:x.pc+1=((i+1:Nat):Int):=by omega
 unfold Whn;cases hl:WbY x.writes code[i].2.2.1 with
 |some v=>
  have hv:=h.rows _ (Wij hl).2;refine⟨?_,.inl rfl⟩;simp only[ch];exact(KOk.on bS h h0 hi bp (by omega) (by omega) (h.regs.set _ hv.2) h.rows (by omega) (by omega) h.seen (by omega) (hM.mono be (by omega)) h.pb).wk (by omega) (by omega)
 |none=>
  simp only;cases he:ent f.buf code[i].2.2.1 with
  |some r=>
   simp only;have hr:=Wcl he;have mn:r.2∈f.buf:=by
    grind
   have iB:=hF.bufE _ mn;split
   .exact⟨WoQ h rfl hF.regs hF.clock.1,.inl rfl⟩
   .refine⟨?_,.inl rfl⟩;simp only[ch];refine(KOk.on bS h h0 hi bp (by omega) (by omega) (h.regs.set _ iB.2.1) h.rows (by omega) (by simp) (λe iF=>?_) (by simp) (hM.mono be (by omega)) h.pb).wk (by omega) (by omega);rcases Xn.1 iF with iF|iF
    .exact h.seen e iF
    grind
  |none=>
   simp only;have fH:WiM (if x.busy=true then x.pb else(code[i].2.2.1,0,0,0))=true:=by
    split
    .exact h.pb ‹_›
    grind [WeU]
   have bT:=Wly (rv:=f.rv) hm fH;generalize WaD m f.rv (if x.busy=true then x.pb else(code[i].2.2.1,0,0,0))=p at*;have hp:=WeU.1 bT.1;split
   .refine⟨?_,.inr rfl⟩;exact KOk.wk (n:=n) {h with pb:=λ_=>bT.1} (by omega) (by omega)
   .split
    .refine⟨?_,.inl rfl⟩;simp only[ch];refine(KOk.on bS h h0 hi bp (by omega) (by omega) (h.regs.set _ hp.2.2.2) h.rows (by omega) (by simp) (λe iF=>?_) (by simp) (hM.mono be (by omega)) (λh=>by cases h)).wk (by omega) (by omega);rcases Xn.1 iF with iF|iF
     .exact h.seen e iF
     .rw[Xag]at iF;subst iF;exact⟨hB,hp.2.2.2,by simp,by have:=h.since;grind⟩
    .refine⟨?_,.inl rfl⟩;exact KOk.wk (n:=n) {h with pb:=λ_=>bT.1} (by omega) (by omega)
theorem WtR(bI:KC code)(hF:FOk codes n f)(h:KOk code f.clock n x)(h0:x.phase=0)(hm:WY m=true):
  KOk code f.clock (n+1) (Woo m f x code).2/\((Woo m f x code).1=f\/(Woo m f x code).1={f with lost:=true}):=by
 have bS:=bI.toCC;unfold Woo;split
 .refine⟨?_,.inl rfl⟩;exact KOk.wk (n:=n) {h with marks:=λh=>by simp_all,phase:=by simp_all,out:=by simp_all} (by omega) (by omega)
 .obtain⟨i,hi,bp,ho⟩:=WiK (l:=code) h.pc.1 (by omega);simp only[ho];obtain⟨ok,o1,gY⟩:=bI.ok i hi;have bn:=bI.k10 i hi;have hM:=h.marks h0;rw[bp,Xk]at hM;have ch:x.pc+1=((i+1:Nat):Int):=by omega
  have jJ:x.writes.length<=i:=by have:=h.wl;omega
  split
  .grind [WsA]
  .split
   .refine⟨?_,.inl rfl⟩;unfold WjS;split
    .refine KOk.wk (n:=n) {h with rows:=(λr hr=>by cases hr),wl:=by simp_all,marks:=λh=>by simp_all,phase:=by simp_all,out:=by simp_all} (by omega) (by omega)
    .obtain⟨j,q,y,e1,e2,e3,⟨hj,h8⟩,nS,cI,iw,e5,e6⟩:=Wh5 (d:=((0,0,[]):KM)) bS (show i<=code.length by omega) hM.pcs ‹_›;obtain⟨y1,y2,y3,y4⟩:=hM.each y (by grind);simp only[e2,e3,Xk,←Int.natCast_succ];have hl:=cI.len;have ht:(Xaj y.2.1.toNat x.writes).length=y.2.1.toNat:=by simp_all
     refine(KOk.on bS h h0 hi bp (ek:=Wjc code j+1) (by omega) (by omega) (y1.set _ (by omega)) (λr hr=>h.rows r (List.mem_of_mem_take hr)) (by omega) (by omega) h.seen (by omega) ?_ h.pb).wk (by omega) (by omega);rw[show x.marks.dropLast=q by grind];exact hM.drop e1 (by rw[cI.st];exact e5) (by omega)
   .split
    .refine⟨?_,.inl rfl⟩;have hk:=Wt8 ok ‹_›;have be:stk code (i+1)=stk code i:=Wf5 hi (by omega) (by omega);simp only[ch];refine(KOk.on bS h h0 hi bp (by omega) (by omega) h.regs (λr hr=>?_) (by simp) (by omega) h.seen (by omega) (hM.mono be (by simp)) h.pb).wk (by omega) (by omega);rcases Xn.1 hr with hr|hr
     .exact h.rows r hr
     .rw[Xag]at hr;subst hr;have:=hk.1;unfold Wam at this;exact⟨by simp_all,h.regs.get _⟩
    .split
     .refine⟨?_,.inl rfl⟩;obtain⟨s1,s2⟩:=bI.sk i hi ‹_›;have hk:=Wt6 ok ‹_›;have be:stk code (i+1)=stk code i:=Wf5 hi (by omega) (by omega);have lZ:stk code (i+1+code[i].2.2.1.toNat)=stk code i:=by grind [WoF]
      by_cases hg:Wbt x.regs code[i].2.1 0=0
      .simp only[Wf hg,show x.pc+code[i].2.2.1+1=((i+1+code[i].2.2.1.toNat:Nat):Int) by omega];exact(KOk.on bS h h0 hi bp s1 (by omega) h.regs h.rows (by omega) (by omega) h.seen (by omega) (hM.mono lZ (by omega)) h.pb).wk (by omega) (by omega)
      .simp only[Wb hg,ch];exact(KOk.on bS h h0 hi bp (by omega) (by omega) h.regs h.rows (by omega) (by omega) h.seen (by omega) (hM.mono be (by omega)) h.pb).wk (by omega) (by omega)
     .split
      .refine⟨?_,.inl rfl⟩;simp only[ch];rw[bp];exact(KOk.on bS h h0 hi bp (by omega) (by omega) h.regs h.rows (by omega) (by omega) h.seen (by omega) (hM.begin hi ‹_› h.regs jJ) h.pb).wk (by omega) (by omega)
      .split
       .refine⟨?_,.inl rfl⟩;have hz:x.marks.length≠0:=by
         have h1:=hM.len bS (by omega);have h3:=bS.up i hi
         grind [Wat,WkE]
        obtain⟨j,q,y,e1,e2,e3,⟨hj,h8⟩,nS,cI,iw,e5,e6⟩:=Wh5 (d:=((0,0,[]):KM)) bS (show i<=code.length by omega) hM.pcs hz;obtain⟨y1,y2,y3,y4⟩:=hM.each y (by grind);simp only[ch];refine(KOk.on bS h h0 hi bp (by omega) (by omega) (h.regs.set _ (by omega)) h.rows (by omega) (by omega) h.seen (by omega) ?_ h.pb).wk (by omega) (by omega);rw[show x.marks.dropLast=q by grind];exact hM.drop e1 (Wmo hi ‹_›) (by omega)
       .refine⟨?_,.inl rfl⟩;have be:stk code (i+1)=stk code i:=Wf5 hi (by omega) (by omega);simp only[ch];exact(KOk.on bS h h0 hi bp (by omega) (by omega) (WkA ok (by omega) (by omega) h.regs) h.rows (by omega) (by omega) h.seen (by omega) (hM.mono be (by omega)) h.pb).wk (by omega) (by omega)
end
end
section
def Wfi(c:Int)(v:List En)(r:Rw):List En:=match ent v r.1 with
 |some a=>v.set a.1 (r.1,r.2,c)
 |none=>v++ [(r.1,r.2,c)]
theorem WmJ(c:Int)(v:List En)(r:Rw):(Wfi c v r).length<=v.length+1:=by
 unfold Wfi;split<;>simp
theorem apE{a b:En}:Ap cfE a b↔a.1≠b.1:=by unfold Ap cfE;omega
theorem Wrv{c:Int}{L M:List En}{r:Rw}(hL:L.Pairwise (Ap cfE))(hM:Ris cfE M)(hm:∀x,x∈L↔x∈M):
  (Wfi c L r).Pairwise (Ap cfE)/\Ris cfE (Wbq cfE M (r.1,r.2,c))/\∀x,x∈Wfi c L r↔x∈Wbq cfE M (r.1,r.2,c):=by
 have key:(Wfi c L r).Pairwise (Ap cfE)/\∀x,x∈Wfi c L r↔x=(r.1,r.2,c)\/(x∈L/\Ap cfE x (r.1,r.2,c)):=by
  unfold Wfi ent;cases he:fnd (λe:En=>e.1==r.1) L 0 with
  |some a=>
   obtain⟨h1,h2,h3,h4⟩:=Wcl he;simp only[Xat,Xdf]at h3 h4
   grind [Xs,WmM,Ws2,apE]
  |none=>
   grind [Wgh,WjW,apE]
 refine⟨key.1,Wb2 Ws2 hM,λx=>?_⟩;rw[key.2 x,Wcc Ws2 hM,hm]
theorem Wqh{c:Int}:∀{rows:List Rw} {L M:List En},L.Pairwise (Ap cfE)->Ris cfE M->(∀x,x∈L↔x∈M)->
  (rows.foldl (Wfi c) L).Pairwise (Ap cfE)/\Ris cfE (WcV c M rows)/\∀x,x∈rows.foldl (Wfi c) L↔x∈WcV c M rows
 | [],_,_,hL,hM,hm=>⟨hL,hM,hm⟩
 |r::rows,L,M,hL,hM,hm=>by
  obtain⟨a,b,d⟩:=Wrv (c:=c) (r:=r) hL hM hm;exact Wqh (rows:=rows) a b d
theorem Wml{c:Int}:∀(rows:List Rw) (L:List En),(rows.foldl (Wfi c) L).length<=L.length+rows.length
 | [],L=>by simp
 |r::rows,L=>by
  have:=Wml (c:=c) rows (Wfi c L r)
  grind [WmJ,Xq]
theorem Wek{c:Int}{P:En->Prop}:∀{rows:List Rw} {M:List En},Ris cfE M->(∀x∈M,P x)->(∀r∈rows,P (r.1,r.2,c))->∀x∈WcV c M rows,P x
 | [],_,_,h,_=>h
 |r::rows,M,hM,h,hr=>by
  refine Wek (rows:=rows) (Wb2 Ws2 hM) (λx hx=>?_) λr' h'=>hr r' (Xf _ h');rcases(Wcc Ws2 hM).1 hx with rfl|h'
  .simp_all
  simp_all
theorem Wn8{R:Type}{N:Nat}{k4:Int}{b7 b8 b9:Int}{ac:Bool}{ca cE bE cj bk aC:Int}{gZ:Bool}{bb dL dI dJ:Int}{cy:List Kc}{fO:List Int}{dx:List Kc}{c7:List Int}{cg:List Kc}{cR:List Y_KidRun}{g0:Nat}{fP:List Int}{eU:List Kb}{cq:List Kc}{cV:List Kj}{K0:Int->Bool->Kr->Option R}(hN:1048576<N)(ub:cy.length<=8):
  ∀(d j n:Nat) (v:List En),j+d=cy.length->d<n->v.length<=100+j->
  Zam N k4 (Wh cy) b7 b8 b9 ac ca cE bE cj bk aC gZ bb dL dI dJ cy fO dx c7 cg cR g0 fP eU cq cV K0 n (j:Int) v=K0 (cy.length:Int) false ((cy.drop j).foldl (Wfi b8) v)
 |0,j,n+1,v,hj,hn,hv=>by
  simp_all [Zam,WO,Xl,Wc,Xbr,List.foldl_nil]
 |d+1,j,n+1,v,hj,hn,hv=>by
  have hlt:j<cy.length:=by omega
  have kE:=Wfy (N:=N) (f:=(b7,(b8,(b9,(ac,(fO,(dx,(v,(c7,(cg,Xe cR g0 (ca,(cE,(bE,(cj,(bk,(aC,(fP,(eU,(cq,(cV,(gZ,(bb,(dL,(dI,dJ)))))))))))))))))))))))) (c:=cy[j].1) (by grind) hN;have hs:=WmJ b8 v cy[j];have cx:∀v',v'=Wfi b8 v cy[j]->Zam N k4 (Wh cy) b7 b8 b9 ac ca cE bE cj bk aC gZ bb dL dI dJ cy fO dx c7 cg cR g0 fP eU cq cV K0 n ((j+1:Nat):Int) v'=K0 (cy.length:Int) false ((cy.drop j).foldl (Wfi b8) v):=λv' nV=>by
   subst nV;rw[Wn8 hN ub d (j+1) n _ (by omega) (by omega) (by omega),Xai hlt,List.foldl_cons]
  simp only[Zam,Ws,WF hlt,Wu hlt,Ww hlt,Wm (show j<4611686018427387904 by omega),Wa,kE,ret,Xd];have hd:ent v cy[j].1=ent v cy[j].1:=rfl;unfold Wfi at cx;cases he:ent v cy[j].1 with
  |some a=>
   rw[he]at cx;obtain⟨h1,h2,h3,h4⟩:=Wcl he;rw[Xat]at h3;simp only[We (show((a.1:Int)>=0) by omega),Wa];rw[WB,We h3];simp only[Wa,Xk];exact cx _ rfl
  |none=>
   rw[he]at cx;simp only[show decide ((-1:Int)>=0)=false from rfl,Wc];rw[Wt (by simp;omega)];simp only[Wa,Xaz];exact cx _ rfl
 |_,_,0,_,_,h,_=>by omega
theorem WkR{R:Type}{N:Nat}{eM eN eO eP:Int}{eQ:Bool}{eR eS eT bw iW iX:Int}{iY:Bool}{iZ ja jb gB:Int}{dg:List Kb}{jc:List Int}{jd:List Kc}{gD:List Kb}{gE:List Int}{gF:List Y_KidRun}{je:Nat}{dr:List Int}{dq:List Kc}{fD:List Kj}{K0:Int->Bool->Kv->Option R}(rZ:dg.length<=1000):
  ∀(d j n:Nat) (v:List Rw),j+d=dg.length->d<n->v.length<=1000+j->
  Zat N eM (Wh dg) eN eO eP eQ eR eS eT bw iW iX iY iZ ja jb gB dg jc jd gD gE gF je dr dq fD K0 n (j:Int) v=K0 (dg.length:Int) false (v++Waz (dg.drop j))
 |0,j,n+1,v,hj,hn,hv=>by
  have:j=dg.length:=by omega
  subst this;simp only[Zat,WO (Xl dg.length),Wc,Xbr,Waz,List.filter_nil,Xce,List.append_nil]
 |d+1,j,n+1,v,hj,hn,hv=>by
  have hlt:j<dg.length:=by omega
  have he:Waz (dg.drop j)=if dg[j].2.2= -1 then(dg[j].1,dg[j].2.1)::Waz (dg.drop (j+1))else Waz (dg.drop (j+1)):=by
   rw[Xai hlt];unfold Waz
   grind
  simp only[Zat,Ws,WF hlt,Wu hlt,Ww hlt,Wm (show j<4611686018427387904 by omega),Wa,Wv];rw[he];by_cases h:dg[j].2.2= -1
  .rw[Wf h,Wf h,Wt (by simp;omega)];simp only[Wa];rw[WkR rZ d (j+1) n _ (by omega) (by omega) (by simp;omega)];simp
  .rw[Wb h,Wb h];rw[WkR rZ d (j+1) n _ (by omega) (by omega) (by omega)]
 |_,_,0,_,_,h,_=>by omega
variable{N:Nat}{codes:List (List Opn)}{n:Int}{f:Fm}{k:Nat}{code:List Opn}{m:Mm}{x:Kd}
theorem Wud{l:List En}(h:Ris cfE l):l.Pairwise (Ap cfE):=h.imp λh=>.inl h
theorem Wke(hk:k<f.kids.length)(h3:f.kids.length<=3)(l0:code.length<=24)(hF:FOk codes n f)(aP:codes.getD k []=code)(aG:f.kids[k]=x)(hN:1048576<N):
  Zef N f.e (k:Int)=some (((Fm.put (Wg8 f x k) k).e,()),()):=by
 have hx:=hF.kid k hk;rw[aP,aG]at hx;obtain⟨f0,f1,f2,f3,f4,f5,f6,f7,f8,f9⟩:=fmP f;have bp:=hx.pc;have jJ:=hx.wl;have hsl:=hx.sl;have r9:=hF.buf8;have jL:f.order.length<=3:=by
  have h1:=hF.done
  grind
 have nW:=hF.readsL;have e2:Xc (f.kids.map Kd.e) (Xa (k:Int)) d_KidRun=x.e:=by
  simp_all
 unfold Zef;simp only[f9,Xx];rw[WB,We hk];simp only[Wa,e2];have en:Zhl N x.e.2.2.2.2.2.2.2.2.1=ret (Wcq x.writes):=WdG (show x.writes.length<=1048576 by omega) hN;rw[en];simp only[ret,Xd];have iQ:=WcX x.writes;rw[show(0:Int)=((0:Nat):Int)from rfl];rw[Wn8 (cy:=Wcq x.writes) hN iQ (Wcq x.writes).length 0 N _ (by omega) (by omega) (by grind)];simp only[Xak];have hP6:P6 f.e=f.buf:=rfl;have hcl:Wj .i64 f.e.2.1 1=f.clock+1:=Wai (by have:=hF.clock;omega);rw[hP6,hcl];obtain⟨i1,i2,i3⟩:=Wqh (c:=f.clock+1) (rows:=Wcq x.writes) (Wud hF.bufR) hF.bufR (λx=>Iff.rfl);unfold Zaa;have gu:=Wml (c:=f.clock+1) (Wcq x.writes) f.buf;rw[WoW (rng:=WuD) (N:=N) Ws2 i2 i1 i3 (λe he=>?_) (by omega)]
 .simp only[Xd];have hP7:P7 x.e=x.seen:=rfl;rw[show(Kd.e x).2.2.2.2.2.2.2.1=x.seen from rfl];rw[WkR (dg:=x.seen) (by omega) x.seen.length 0 N _ (by omega) (by omega) (by grind)];rw[Wt (by grind)];simp only[Wa,Xak];have hU:∀(g:Fm) (y:Kd),U6 (Xe (f.kids.map Kd.e) k y.e) (S5 (f.reads++Waz x.seen) (S4 (f.order++ [(k:Int)]) (S3 (WcV (f.clock+1) f.buf (Wcq x.writes)) f.e.2.2.2)))=(f.lost,f.regs,f.start,WcV (f.clock+1) f.buf (Wcq x.writes),f.order++ [(k:Int)],f.reads++Waz x.seen,(f.kids.set k y).map Kd.e):=λg y=>by
   rw[Xdw];rfl
  rw[Xk];exact Wn (λz=>some (((f.rv,(f.clock+1,((0:Int),z))),()),())) (hU f {x with phase:=3,pos:=0,marks:=[]})
 .have h1:=(i3 e).1 he;have:=Wek (P:=λe=>0<=e.1/\e.1<=7) hF.bufR (λe he=>(hF.bufE e he).1) (λr hr=>(Wov.1 hr).1) e h1
  grind [WuD,Ws5]
theorem WlL(hk:k<f.kids.length)(hF:FOk codes n f)(hx:KOk code f.clock n x)(aG:f.kids[k]=x)(hn:n<=100000)(o:Int):
  Zba N (Fm.e {f with owner:=o}) (k:Int)=some (((Fm.put ({f with owner:=o},f.again x) k).e,()),()):=by
 have h:=Wej (N:=N) (f:=Fm.e {f with owner:=o}) (k:=k) (x:=x.e) (by show k<(f.kids.map Kd.e).length;simp_all) hF.regs.len (by have:=hx.tries;show 0<=x.tries/\x.tries<=100000;omega);have e3:U9 (Xe (Q9 (Fm.e {f with owner:=o})) k x.e) (Fm.e {f with owner:=o})=Fm.e {f with owner:=o}:=by
  have:=U9e {f with owner:=o} k x;rw[←aG]at this;simp only[Xba]at this;rw[←aG];exact this
 rw[e3]at h;rw[h];exact Wn (λz=>some ((z,()),())) (U9e {f with owner:=o} k (f.again x))
theorem Wlg(hk:k<f.kids.length)(h3:f.kids.length<=3)(hm:WY m=true)(bI:KC code)(hF:FOk codes n f)(aP:codes.getD k []=code)(hn:n<=100000)(hN:1048576<N):
  Zkj N f.e (k:Int) code m=some (((Wiz m f k code).e,()),()):=by
 obtain⟨x,aG⟩:∃x,f.kids[k]=x:=⟨_,rfl⟩;have hx:=hF.kid k hk;rw[aP,aG]at hx;obtain⟨f0,f1,f2,f3,f4,f5,f6,f7,f8,f9⟩:=fmP f;obtain⟨k0,k1,k2,k3,k4,k5,k6,k7,k8,k9,k10⟩:=kdP x;have hsl:=hx.sl;have bp:=hx.pc;have l0:=bI.len;have e2:Xc (f.kids.map Kd.e) (Xa (k:Int)) d_KidRun=x.e:=by
  simp_all
 have e3:U9 (Xe (f.kids.map Kd.e) (Xa (k:Int)) x.e) f.e=f.e:=by
  rw[Xk,U9e,←aG,Xba]
 have e4:Fm.put (f,x) k=f:=by unfold Fm.put;simp only;rw[←aG,Xba]
 unfold Zkj Wiz Wr2;simp only[Ws,f9,f3,Xx];rw[Wc4];by_cases hlost:f.lost=true
 .rw[Wf hlost,Wf hlost]
 rw[Wb hlost,Wb hlost];rw[WB,We hk];simp only[Wa,Wc,e2,e3,k0,k4,k7,f2,Wv,WJ hk,aG];by_cases h0:x.phase=0
 .rw[Wf h0,Wf h0,WnX hk hm bI hF aP aG h0 hn hN];rfl
 .rw[Wb h0,Wb h0];by_cases h1:x.phase=1
  .rw[Wf h1,Wf h1];by_cases ho:f.owner=0
   .rw[Wf ho,Wf ho,Wai (by omega),Xk];exact Wp7 rfl rfl rfl
   simp_all
  .rw[Wb h1,Wb h1];by_cases h2:x.phase=2
   .rw[Wf h2,Wf h2];unfold Wh;by_cases hp:x.pos=(x.seen.length:Int)
    .rw[Wf hp,Wf hp,Wke hk h3 l0 hF aP aG hN];rfl
    .rw[Wb hp,Wb hp];have hpos:=hx.pos;have eK:inb x.pos x.seen.length=true:=by grind [inb]
     rw[eK];have hg:Xc x.seen (Xa x.pos) ((0,0,0):En)=Wbt x.seen x.pos (0,0,0):=rfl;simp only[Wa,hg];have kE:=Wfy (N:=N) (f:=f.e) (c:=(Wbt x.seen x.pos (0,0,0)).1) (by show f.buf.length<=1048576;have:=hF.buf8;omega) hN;rw[show f.e.2.2.2.2.2.2.1=f.buf from rfl]at kE;rw[kE];simp only[ret,Xd,f6];have hsz:S2 (0:Int) f.e=Fm.e {f with owner:=0}:=rfl;have gj:Zba N (U9 (Xe (f.kids.map Kd.e) (Xa (k:Int)) x.e) (S2 0 f.e)) (k:Int)=some (((Fm.put ({f with owner:=0},f.again x) k).e,()),()):=by
      grind [U9e,Xk,U9,Xe,Kd.e,Fm.e,Xba,WlL]
     unfold WuX;have nX:Wj .i64 x.pos 1=x.pos+1:=Wai (by omega);rw[nX];cases he:ent f.buf (Wbt x.seen x.pos (0,0,0)).1 with
     |some a=>
      obtain⟨g1,g2,g3,g4⟩:=Wcl he;rw[Xat]at g3;rw[Xdf,Xs g3]at g4;injection g4 with g4;simp only[We (show((a.1:Int)>=0) by omega),Wa];rw[WB,We g3];simp only[Wa,Ww g3,g4];by_cases hv:a.2.2.2=(Wbt x.seen x.pos (0,0,0)).2.2
      .rw[Wf hv,Wf hv,Xk];exact Wp7 rfl rfl rfl
      simp_all
     |none=>
      simp only[show decide ((-1:Int)>=0)=false from rfl,Wc];by_cases hv:(-1:Int)=(Wbt x.seen x.pos (0,0,0)).2.2
      .rw[Wf hv,Wf hv,Xk];exact Wp7 rfl rfl rfl
      simp_all
   simp_all
end
section
section
variable{codes:List (List Opn)}{n:Int}{f f':Fm}{k:Nat}{code:List Opn}{m:Mm}{x y:Kd}
theorem FOk.len3(h:FOk codes n f)(h3:codes.length<=3):f.order.length<=3:=by
 have h1:=h.done;have:=Xeg (p:=λx:Kd=>decide (x.phase=3)) (l:=f.kids);have:=h.len;omega
theorem FOk.put1(h:FOk codes n f)(hk:k<f.kids.length)(aP:codes.getD k []=code){o:Int}{l:Bool}(ho:0<=o/\o<=f.kids.length)(hy:KOk code f.clock (n+1) y)(hp:f.kids[k].phase≠3)(hyp:y.phase≠3):
  FOk codes (n+1) (Fm.put ({f with owner:=o,lost:=l},y) k) where
 len:=by show(f.kids.set k y).length=_;rw[Xav];exact h.len
 regs:=h.regs
 clock:=h.clock
 done:=by
  show f.order.length=(f.kids.set k y).countP _;rw[Xgt hk,Wb (by simp_all),Wb (by simp_all)];exact h.done
 bufR:=h.bufR
 bufE:=h.bufE
 readsL:=h.readsL
 readsE:=h.readsE
 owner:=by show 0<=o/\o<=((f.kids.set k y).length:Int);simp_all
 kid:=λi hi=>by
  change i<(f.kids.set k y).length at hi;rw[Xav]at hi;show KOk (codes.getD i []) f.clock (n+1) (f.kids.set k y)[i];rw[Xci];by_cases he:k=i
  .simp_all
  .rw[Wb he];exact(h.kid i hi).wk (by omega) (by omega)
theorem FOk.wk(h:FOk codes n f){n':Int}(hn:n<=n'):FOk codes n' f:=
 {h with kid:=λk hk=>(h.kid k hk).wk (by omega) hn}
theorem WkX(h:∀e∈x.seen,(0<=e.1/\e.1<=7)/\(0<=e.2.1/\e.2.1<=65535)/\ -1<=e.2.2/\e.2.2<=x.since):Wjb (Waz x.seen):=by
 intro r hr;unfold Waz at hr
 grind
theorem WmB(l:List En):(Waz l).length<=l.length:=by
 simp[Waz,Xx,List.length_filter_le]
theorem WgQ{c:Int}:∀{rows:List Rw} {M:List En},Ris cfE M->Ris cfE (WcV c M rows)
 | [],_,h=>h
 |r::rows,M,h=>WgQ (rows:=rows) (Wb2 Ws2 h)
theorem Wra(hF:FOk codes n f)(hk:k<f.kids.length)(bI:code.length<=24)(aP:codes.getD k []=code)(aG:f.kids[k]=x)(h2:x.phase=2):
  FOk codes (n+1) (Fm.put (Wg8 f x k) k):=by
 have hx:=hF.kid k hk;rw[aP,aG]at hx;have hc:=hF.clock;unfold Wg8 Fm.put;refine{len:=?_,regs:=hF.regs,clock:=?_,done:=?_,bufR:=WgQ hF.bufR,bufE:=?_,readsL:=?_,readsE:=?_,owner:=?_,kid:=?_}
 .simp only[Xav];exact hF.len
 .grind
 .simp only[Xw,Xgb];rw[Xgt hk,aG,Wb (by simp[h2]),Wf (by simp),←hF.done];rfl
 .simp only;refine Wek hF.bufR (λe he=>?_) λr hr=>?_
  .have:=hF.bufE e he;omega
  .have:=Wgn r hr;grind
 .have h1:=hF.readsL;have h2:=WmB x.seen;have h3:=hx.sl;have h4:=hx.pc
  grind
 .intro r hr;rcases Xn.1 hr with hr|hr
  .exact hF.readsE r hr
  .exact WkX hx.seen r hr
 .simp_all
 .intro i hi;simp only[Xav]at hi;simp only[Xci];by_cases he:k=i
  .subst he;rw[Wf rfl,aP];refine KOk.wk (c:=f.clock) (n:=n) ?_ (by omega) (by omega);exact{hx with marks:=(λh=>by simp_all),pos:=⟨Xcs _,by simp_all⟩,phase:=by simp_all}
  .rw[Wb he];exact(hF.kid i hi).wk (by omega) (by omega)
theorem WsG(hk:k<f.kids.length)(hm:WY m=true)(bI:KC code)(hF:FOk codes n f)(aP:codes.getD k []=code):FOk codes (n+1) (Wiz m f k code):=by
 obtain⟨x,aG⟩:∃x,f.kids[k]=x:=⟨_,rfl⟩;have hx:=hF.kid k hk;rw[aP,aG]at hx;have e4:Fm.put (f,x) k=f:=by unfold Fm.put;simp only;rw[←aG,Xba]
 have hFw:=hF.wk (show n<=n+1 by omega);unfold Wiz Wr2;split
 .exact hFw
 rw[WJ hk,aG];split
 .rename_i h0;obtain⟨h1,h2⟩:=WtR bI hF hx h0 hm;have hnp:(Woo m f x code).2.phase≠3:=by
   grind [Woo,Whn,WjS,Fm.again]
  have:=h1;have key:∀q:Fm×Kd,(q.1=f\/q.1={f with lost:=true})->KOk code f.clock (n+1) q.2->q.2.phase≠3->FOk codes (n+1) (Fm.put q k):=by
   rintro⟨g,y⟩ hg hy hp;simp only at hg hy hp;rcases hg with rfl|rfl
   .exact FOk.put1 (o:=g.owner) (l:=g.lost) hF hk aP hF.owner hy (by simp_all) hp
   .exact FOk.put1 (o:=f.owner) (l:=true) hF hk aP hF.owner hy (by simp_all) hp
  simp_all
 .split
  .rename_i h1;split
   .refine FOk.put1 (o:=(k:Int)+1) (l:=f.lost) hF hk aP (by omega) ?_ (by simp_all) (by simp_all);refine KOk.wk (c:=f.clock) (n:=n) ?_ (by omega) (by omega);exact{hx with marks:=(λh=>by simp_all),phase:=by simp_all}
   simp_all
  .split
   .rename_i h2;split
    .exact Wra hF hk bI.len aP aG h2
    .simp only;split
     .refine FOk.put1 (o:=f.owner) (l:=f.lost) hF hk aP hF.owner ?_ (by simp_all) (by simp_all);refine KOk.wk (c:=f.clock) (n:=n) ?_ (by omega) (by omega);exact{hx with pos:=by(have:=hx.pos;grind)}
     .refine FOk.put1 (o:=0) (l:=f.lost) hF hk aP (by omega) (WoQ hx rfl hF.regs hF.clock.1) (by simp_all) (by show(0:Int)≠3;omega)
   simp_all
theorem Wrt{rv:Int}{regs:List Int}{writes:List Rw}(hr:Vals 4 regs)(hn:0<=n):FOk codes n (WcW rv regs writes codes.length) where
 len:=by simp[WcW]
 regs:=hr
 clock:=by simp[WcW]
 done:=by
  simp only[WcW,Xbq];rw[List.countP_replicate,Wb (by simp)]
 bufR:=by
  grind [Ris,WcW,WnZ,cfE]
 bufE:=λe he=>by
  obtain⟨r,hr,rfl⟩:=Xv.1 he;have:=Wgn r hr
  grind [WcW]
 readsL:=by simp[WcW]
 readsE:=λr hr=>by cases hr
 owner:=by simp[WcW]
 kid:=λk hk=>by
  simp only[WcW,List.getElem_replicate];exact{pc:=by simp,regs:=hr,rows:=(λr hr=>by cases hr),wl:=by simp,sl:=by simp,since:=by simp,tries:=by simp;omega,seen:=(λe he=>by cases he),marks:=(λ_=>⟨by simp[stk],(λq hq=>by cases hq),List.Pairwise.nil⟩),pos:=by simp,pb:=(λh=>by cases h),phase:=by simp,out:=by simp}
end
end
section
theorem WeH{α β R:Type}{body:Int->α->List β->(List β->Option R)->Option R}{K:Int->List β->Option R}{f:α->β}:∀(l:List α) (d r:List β),l.length<=r.length->
  (∀(j:Nat) x (v:List β) k,x∈l->j<v.length->body j x v k=k (v.set j (f x)))->Wbm body K l d.length (d++r)=K ((d.length+l.length:Nat):Int) (d++(l.map f++r.drop l.length))
 | [],d,r,_,_=>by simp[Wbm]
 |x::l,d,[],h,_=>by simp at h
 |x::l,d,y::r,h,hb=>by
  rw[Wbm,hb d.length x _ _ (Xj ..) (by simp),Wfb];have:=WeH (body:=body) (K:=K) (f:=f) l (d++ [f x]) r (by grind) λj z v k hz=>hb j z v k (Xf _ hz);simp only[Xw,Xgb,Xaw,List.singleton_append]at this;rw[this];simp only[Xq,Xaf,List.drop_succ_cons,Xbb];rw[show d.length+1+l.length=d.length+(l.length+1) by omega]
theorem Wio{α:Type}{R:Type}{l:List α}{p:α->Bool}{lp:Nat->Int->Option R}{N:Nat}{K0:Int->Option R}{K1:Option R}(hl:l.length<N)(kG:l.length<=1048576)(hs:∀n (j:Nat) (h:j<l.length),lp (n+1) (j:Int)=bif p l[j]then K0 j else lp n ((j+1:Nat):Int))(he:∀n,lp (n+1) (l.length:Int)=K1):lp N 0=match fnd p l 0 with|some r=>K0 r.1|none=>K1:=by
 have h1:=Wy (l:=l) (V:=Unit) (lp:=λn j _=>lp n j) hl (body:=λj x v k=>bif p x then K0 j else k v) (K:=λ_ _=>K1) (λn j v h=>hs n j h) (λn v=>he n) ();refine(h1.trans (Wdq (p:=p) (E:=λj _=>K0 j) l 0 () λj x v k _=>rfl)).trans ?_;cases fnd p l 0<;>rfl
theorem Wkd{α:Type}{p:α->Bool}:∀(l:List α) (j:Nat),(fnd p l j).isSome=l.any p
 | [],_=>rfl
 |x::l,j=>by
  unfold fnd;rw[List.any_cons];cases p x
  .simp[Wkd l]
  .rfl
variable{N:Nat}
theorem WlF{f:Fm}(h3:f.kids.length<=3)(hN:1048576<N):Zqb N f.e=ret (Wck f):=by
 unfold Zqb Z9 Zn;have e:f.e.2.2.2.2.2.2.2.2.2=f.kids.map Kd.e:=rfl;rw[e];have hl:(f.kids.map Kd.e).length<=3:=by simpa using h3
 have h1:=Wio (l:=f.kids.map Kd.e) (p:=λx=>x.1 !=3) (N:=N) (lp:=λn j=>Zd N (f.kids.map Kd.e) (λaw=>(some ((),(aw,())))) (λaB aU=>(some ((),((-1:Int),())))) n j) (K0:=λj=>some ((),(j,()))) (K1:=some ((),((-1:Int),()))) (by omega) (by omega)
  (λn j hj=>by
   simp only[Zd,WF hj,Wu hj,Ww hj,Wm (show j<4611686018427387904 by omega),Wa,Zsa,Xd])
  (λn=>by simp only[Zd,WO (Xl _),Wc])
 rw[h1];have h2:=Wkd (p:=λx:Y_KidRun=>x.1 !=3) (f.kids.map Kd.e) 0;have h3:(f.kids.map Kd.e).any (λx=>x.1 !=3)= !Wck f:=by
  unfold Wck;rw[List.any_map,←Wa4];have:((λx:Y_KidRun=>x.1 !=3)∘Kd.e)= λx:Kd=>!decide (x.phase=3):=by
   funext x;show(x.phase !=3)= !decide (x.phase=3);by_cases h:x.phase=3<;>simp[h]
  rw[this]
 rw[h3]at h2;cases hf:fnd (λx:Y_KidRun=>x.1 !=3) (f.kids.map Kd.e) 0 with
 |some r=>
  rw[hf]at h2;simp only[Xd,We (show((r.1:Int)>=0) by omega),Xo,ret];rw[show Wck f=false by simpa using h2.symm]
 |none=>
  rw[hf]at h2;rw[show Wck f=true by simpa using h2.symm];rfl
theorem Wmb{f:Fm}(h:f.buf.length<=1000)(hN:1048576<N):Ziw N f.e=ret (Wgy f):=by
 unfold Ziw;have e:f.e.2.2.2.2.2.2.1=f.buf:=rfl;rw[e];have h1:=Wy (l:=f.buf) (V:=List Rw) (R:=Unit×(List Rw×Unit)) (lp:=λn j v=>Zcy N f.buf (Wh f.buf) (λt9 ar an=>(some ((),(an,())))) n j v) (n:=N) (by omega)
  (body:=λj x v k=>bif Wz (v.length+ [(x.1,x.2.1)].length)then k (Xg v [(x.1,x.2.1)])else none) (K:=λ_ v=>ret v)
  (λn i v hi=>by simp only[Zcy,WF hi,Wu hi,Ww hi,Wm (show i<4611686018427387904 by omega),Wa])
  (λn v=>by simp only[Zcy,WO (Xl f.buf.length),Wc]) []
 refine h1.trans ?_;rw[WbT (f:=λx:En=>(x.1,x.2.1)) f.buf 0 [] (by simp;omega) (λj x v k _=>rfl)];rfl
theorem Wk8{f:Fm}(hr:Vals 4 f.regs)(h3:f.kids.length<=3)(hx:∀x∈f.kids,x.regs.length<=1000)(hN:1048576<N):Ziv N f.e=ret (Wfo f):=by
 unfold Ziv Wfo;have e:f.e.2.2.2.2.1=f.regs:=rfl;have e2:f.e.2.2.2.2.2.2.2.2.2=f.kids.map Kd.e:=rfl;have jM:Wcr f.regs=true:=Wb1.2 hr;have hl:=hr.len;have hm:(f.kids.map Kd.e).length=f.kids.length:=by simp
 rw[e,e2,Wc3 (by omega) hN,Wf ⟨jM,h3⟩];simp only[ret,Xd,jM,Xo,Wc];rw[Wk (by unfold Wh;omega),Wa9 (by omega)];simp only[ret,Xd,Wc];have h1:=Wy (l:=f.kids.map Kd.e) (V:=List Int) (R:=Unit×(List Int×Unit)) (lp:=λn j v=>Zbh N (f.kids.map Kd.e) (Wh (f.kids.map Kd.e)) (λbR gz dZ=>(some ((),(dZ,())))) n j v) (n:=N) (by omega)
  (body:=λj x v k=>bif inb j v.length then(bif x.2.2.2.2.2.1==(1:Int)then((Z8 N (P6 x) (4:Int)).bind λbL=>(bif bL.2.1 then(bif inb 0 (P6 x).length then(bif inb j (Xe v j.toNat 0).length then k (Xe (Xe v j.toNat 0) j.toNat (Xc (P6 x) (Xa (0:Int)) 0))else none)else none)else k (Xe v j.toNat 0)))else k (Xe v j.toNat 0))else none) (K:=λ_ v=>ret v)
  (λn i v hi=>by simp only[Zbh,Ws,WF hi,Wu hi,Ww hi,Wm (show i<4611686018427387904 by omega),Wa];rfl)
  (λn v=>by simp only[Zbh,WO (Xl _),Wc]) f.regs
 refine h1.trans ?_;have h2:=WeH (β:=Int) (K:=λ_ v=>ret v) (f:=λx:Y_KidRun=>if P5 x=1/\Wcr (P6 x)=true then Wbt (P6 x) 0 0 else 0) (f.kids.map Kd.e) [] f.regs (by omega) (body:=λj x v k=>bif inb j v.length then(bif x.2.2.2.2.2.1==(1:Int)then((Z8 N (P6 x) (4:Int)).bind λbL=>(bif bL.2.1 then(bif inb 0 (P6 x).length then(bif inb j (Xe v j.toNat 0).length then k (Xe (Xe v j.toNat 0) j.toNat (Xc (P6 x) (Xa (0:Int)) 0))else none)else none)else k (Xe v j.toNat 0)))else k (Xe v j.toNat 0))else none)
  (λj x v k qN hj=>by
   obtain⟨y,hy,rfl⟩:=Xv.1 qN;have ud:=hx y hy;have p5:(Kd.e y).2.2.2.2.2.1=y.out:=rfl;have qO:P5 (Kd.e y)=y.out:=rfl;have p6:P6 (Kd.e y)=y.regs:=rfl;simp only[p5,qO,p6,WB,We hj,Wa,Wc3 (show y.regs.length<=1048576 by omega) hN,ret,Xd,Wv,Xk,Xav];by_cases h1:y.out=1
   .rw[Wf h1];cases jM:Wcr y.regs
    .rw[Wb (by simp)];rfl
    .have:y.regs.length=4:=(Wb1.1 jM).len;rw[Wf ⟨h1,rfl⟩,show inb (0:Int) y.regs.length=true by rw[this];rfl];simp only[Wa,Xcq];rfl
   .rw[Wb h1,Wb (λh=>h1 h.1)])
 simp only[Xbq,Xaq,Xx,List.map_map]at h2;exact h2
theorem WiQ{rv:Int}{regs:List Int}{writes:List Rw}{kids:Nat}(hr:regs.length<=1000)(hw:writes.length<=1000)(hk:kids<=3)(hN:1048576<N):
  Zhy N rv regs writes (kids:Int)=ret (WcW rv regs writes kids).e:=by
 unfold Zhy;rw[Wa9 (by omega),WdG (by omega) hN];have hn:=WcX writes;simp only[ret,Xd];have h1:=Wy (l:=Wcq writes) (V:=List En) (R:=Unit×(Y_Family×Unit)) (lp:=λn j v=>Zcl N regs kids (Wh (Wcq writes)) rv (Wcq writes) regs (λt25 qf cg=>
  (Za7 N regs kids rv regs (Wcq writes) cg
 (λlK t50 lL=>
  (some ((),((rv,((0:Int),((0:Int),(false,(regs,(Wcq writes,(cg,(([]:List Int),(([]:List Kc),lL))))))))),()))))
 N (0:Int) ([]:List Y_KidRun))) n j v) (n:=N) (by omega)
  (body:=λj x v k=>bif Wz (v.length+ [(x.1,(x.2,(0:Int)))].length)then k (Xg v [(x.1,(x.2,(0:Int)))])else none) (K:=λ_ cg=>(Za7 N regs kids rv regs (Wcq writes) cg
 (λlK t50 lL=>
  (some ((),((rv,((0:Int),((0:Int),(false,(regs,(Wcq writes,(cg,(([]:List Int),(([]:List Kc),lL))))))))),()))))
 N (0:Int) ([]:List Y_KidRun)))
  (λn i v hi=>by simp only[Zcl,WF hi,Wu hi,Ww hi,Wm (show i<4611686018427387904 by omega),Wa])
  (λn v=>by simp only[Zcl,WO (Xl _),Wc]) []
 refine h1.trans ?_;rw[WbT (f:=λx:Rw=>(x.1,(x.2,(0:Int)))) (Wcq writes) 0 [] (by simp;omega) (λj x v k _=>rfl)];simp only[Xaq];obtain⟨b,hb⟩:∃b,(Wcq writes).map (λx:Rw=>(x.1,(x.2,(0:Int))))=b:=⟨_,rfl⟩;rw[hb];have lp:∀(d j n:Nat) (v:List Y_KidRun),j+d=kids->d<n->v=Xp j (Kd.e {regs:=regs})->Za7 N regs kids rv regs (Wcq writes) b (λlK t50 lL=>(some ((),((rv,((0:Int),((0:Int),(false,(regs,(Wcq writes,(b,(([]:List Int),(([]:List Kc),lL))))))))),())))) n (j:Int) v=some ((),((rv,((0:Int),((0:Int),(false,(regs,(Wcq writes,(b,(([]:List Int),(([]:List Kc),Xp kids (Kd.e {regs:=regs})))))))))),())):=by
  intro d
  induction d with
  |zero=>
   intro j n v hj hn hv;obtain⟨n,rfl⟩:∃n',n=n'+1:=⟨n-1,by omega⟩;have:j=kids:=by omega
   subst this;simp only[Za7,Int.lt_irrefl,decide_false,Wc,hv]
  |succ d ih=>
   intro j n v hj hn hv;obtain⟨n,rfl⟩:∃n',n=n'+1:=⟨n-1,by omega⟩;have hlt:(j:Int)<(kids:Int):=by omega
   have kI:v.length=j:=by rw[hv];simp
   simp only[Za7,We hlt,Wa,Wa9 (show regs.length<=1048576 by omega),ret,Xd];rw[Wt (by simp;omega)];simp only[Wa];rw[Wm (by omega)];refine ih (j+1) n _ (by omega) (by omega) ?_;rw[hv,List.replicate_succ'];rfl
 have:=lp kids 0 N [] (by omega) (by omega) rfl;refine this.trans ?_;unfold WcW Fm.e;simp only[List.map_replicate,hb]
end
end Go.Sx
