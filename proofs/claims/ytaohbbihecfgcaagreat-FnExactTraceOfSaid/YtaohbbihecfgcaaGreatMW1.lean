/- Plain laws of the Lean functions. -/
import Derived.Test.YtaohbbihecfgcaaGreatT2
open Option renaming bind_some→Xd
open Nat renaming le_refl→Xl,zero_add→Xat,le_trans→Xbe,add_zero→Xbd,add_assoc→Xay,sub_zero→Xde
open List renaming mem_cons→Xr,append→Xg,length_cons→Xq,mem_cons_self→Xj,append_eq→Xaz,mem_cons_of_mem→Xf,all_eq_true→Xae,getD→Xc,set→Xe,set_set→Xcq,take_succ_eq_append_getElem→Xcc,countP_le_length→Xef,length→Xb,length_append→Xw,length_dropLast→Xcz,append_inj'→Xed,append_assoc→Xaw,cons_append→Xbb,dropLast_concat→Xem,getElem_mem→Xab,length_set→Xav,length_nil→Xbp,pairwise_cons→Xt,mergeSort_perm→Xgi,getElem_of_mem→Xbu,pairwise_iff_getElem→Xap,mem_iff_getElem→Xgh,getElem_set→Xci,range→Xdb,replicate→Xp,map_append→Xy,map_cons→Xaf,map_nil→Xce,map_set→Xdv,length_map→Xx,take→Xaj,set_getElem_self→Xba,range'→Xfu,mem_range'_1→Xfd,mem_append→Xn,pairwise_append→Xai,mem_singleton→Xag,getElem?_eq_getElem→Xs,drop_length→Xbr,drop_eq_getElem_cons→Xah,drop_zero→Xal,countP_set→Xgt,length_singleton→Xgc,mem_map→Xv,nil_append→Xaq
open Bool renaming not_true→Xo,and_eq_true→Xi,or_eq_true→Xcr,not_eq_true'→Xao,not_eq_true→Xfk,false_or→Xez,toNat_false→Xfj,false_and→Xeq,true_and→Xbv,or_eq_false_iff→Xdo,not_eq_false'→Xew
open Int renaming toNat→Xa,toNat_natCast→Xk,le_refl→Xcs
namespace Go.Sx
set_option linter.unusedVariables false
set_option linter.unusedSimpArgs false
section
abbrev Cur:=List Int×Int×Int
def Wt5(c:Cur):Prop:=0<=c.2.1/\c.2.1<=c.1.length/\c.1.length<=1048576
end
section

end
section
def WaZ(v:Int):Bool:=decide (0<=v)&&decide (v<=65535)
theorem Wcj{N:Nat}{x a b:Int}:Zf N x a b=ret (decide (a<=x)&&decide (x<=b)):=by
 unfold Zf;by_cases h:a<=x<;>simp[h]
theorem WX{N:Nat}{x a b:Int}:Zg N x a b=ret (decide (a<=x)&&decide (x<=b)):=by
 unfold Zg;by_cases h:a<=x<;>simp[h]
theorem Wa4{α:Type}{p:α->Bool}(l:List α):(l.any λx=>!p x)= !l.all p:=by
 grind
abbrev Rw:=Int×Int
def Wam(v:Int):Bool:=decide (0<=v)&&decide (v<=7)
def WiG(r:Rw):Bool:=Wam r.1&&WaZ r.2
def Wad(l:List Rw):Bool:=decide (l.length<=300)&&l.all WiG
def WcP(l:List Int):Bool:=decide (l.length=8)&&l.all WaZ
theorem Waf{N:Nat}{v:Int}:Zau N v=ret (WaZ v):=by
 unfold Zau;simp only[Wcj,ret,Xd];rfl
theorem Was{N:Nat}{v:Int}:Zan N v=ret (WaZ v):=by
 unfold Zan;simp only[WX,ret,Xd];rfl
theorem Wbs{N:Nat}{v:Int}:Zcd N v=ret (Wam v):=by
 unfold Zcd;simp only[Wcj,ret,Xd];rfl
theorem Waw{N:Nat}{v:Int}:Zbd N v=ret (Wam v):=by
 unfold Zbd;simp only[WX,ret,Xd];rfl
theorem Wg8{N:Nat}{l:List Int}(hl:l.length<=1048576)(hN:1048576<N):Zh9 N l=ret (WcP l):=by
 unfold Zh9 WcP;by_cases h:l.length=8
 .have e:(Wh l !=8)=false:=by simp[Wh,h]
  rw[e];simp only[Wc];have h1:=Wy (l:=l) (V:=Unit) (R:=Unit×Kq) (lp:=λn j v=>Zdu N l (some ((),(false,()))) (λi8 t9=>some ((),(true,()))) n j) (n:=N) (by omega)
   (body:=λj x v k=>bif !WaZ x then some ((),(false,()))else k v) (K:=λ_ v=>some ((),(true,())))
   (λn i v hi=>by simp only[Zdu,WG hi,Wu hi,Ww hi,Wm (show i<4611686018427387904 by omega),Wa,Waf,ret,Xd])
   (λn v=>by simp[Zdu,WP,Xl,Wc]) ()
  refine h1.trans ?_;rw[W3 (p:=λx=>!WaZ x) (E:=λ_=>some ((),(false,()))) l 0 () (λj x v k _=>rfl),Wa4];cases l.all WaZ<;>simp[h]
 grind [Wh]
theorem WgR{N:Nat}{l:List Int}(hl:l.length<=1048576)(hN:1048576<N):Z8 N l 8=ret (WcP l):=by
 unfold Z8 WcP;have h1:=Wy (l:=l) (V:=Unit) (R:=Unit×Kq) (lp:=λn j v=>Zap N l 8 (some ((),(false,()))) (λi8 t9=>some ((),((Wh l)==(8:Int),()))) n j) (n:=N) (by omega)
  (body:=λj x v k=>bif !WaZ x then some ((),(false,()))else k v) (K:=λ_ v=>some ((),((Wh l)==(8:Int),())))
  (λn i v hi=>by simp only[Zap,WG hi,Wu hi,Ww hi,Wm (show i<4611686018427387904 by omega),Wa,Was,ret,Xd])
  (λn v=>by simp[Zap,WP,Xl,Wc]) ()
 refine h1.trans ?_;rw[W3 (p:=λx=>!WaZ x) (E:=λ_=>some ((),(false,()))) l 0 () (λj x v k _=>rfl),Wa4];have e:((Wh l)==(8:Int))=decide (l.length=8):=by
  grind [Wh]
 rw[e];cases l.all WaZ<;>simp
theorem WcU{N:Nat}{l:List Rw}(hl:l.length<=1048576)(hN:1048576<N):Zeo N l=ret (Wad l):=by
 unfold Zeo Wad;by_cases h:l.length<=300
 .have e:decide (Wh l>300)=false:=by simp[Wh];omega
  rw[e];simp only[Wc];have h1:=Wy (l:=l) (V:=Unit) (R:=Unit×Kq) (lp:=λn j v=>Zdw N l (some ((),(false,()))) (λi8 t9=>some ((),(true,()))) n j) (n:=N) (by omega)
   (body:=λj x v k=>bif !WiG x then some ((),(false,()))else k v) (K:=λ_ v=>some ((),(true,())))
   (λn i v hi=>by
    simp only[Zdw,WG hi,Wu hi,Ww hi,Wm (show i<4611686018427387904 by omega),Wa,Waf,Wbs,ret,Xd,WiG];cases Wam l[i].1<;>rfl)
   (λn v=>by simp[Zdw,WP,Xl,Wc]) ()
  refine h1.trans ?_;rw[W3 (p:=λx=>!WiG x) (E:=λ_=>some ((),(false,()))) l 0 () (λj x v k _=>rfl),Wa4];cases l.all WiG<;>simp[h]
 grind [decide,Wh]
theorem Wb3{N:Nat}{l:List Rw}(hl:l.length<=1048576)(hN:1048576<N):Zdf N l=ret (Wad l):=by
 unfold Zdf Wad;have h1:=Wy (l:=l) (V:=Unit) (R:=Unit×Kq) (lp:=λn j v=>Zd0 N l (some ((),(false,()))) (λi8 t9=>some ((),(decide ((Wh l)<=(300:Int)),()))) n j) (n:=N) (by omega)
  (body:=λj x v k=>bif !WiG x then some ((),(false,()))else k v) (K:=λ_ v=>some ((),(decide ((Wh l)<=(300:Int)),())))
  (λn i v hi=>by
   simp only[Zd0,WG hi,Wu hi,Ww hi,Wm (show i<4611686018427387904 by omega),Wa,Was,Waw,ret,Xd,WiG];cases Wam l[i].1<;>rfl)
  (λn v=>by simp[Zd0,WP,Xl,Wc]) ()
 refine h1.trans ?_;rw[W3 (p:=λx=>!WiG x) (E:=λ_=>some ((),(false,()))) l 0 () (λj x v k _=>rfl),Wa4];have e:decide (Wh l<=300)=decide (l.length<=300):=by apply decide_eq_decide.2;simp[Wh];omega
 rw[e];cases l.all WiG<;>simp
theorem WoK{α:Type}{l:List α}(h:l.length<=1048576):Wz l.length=true:=by grind [Wz]
end
section
abbrev Opn:=Int×Int×Int×Int
def W4(v:Int):Bool:=decide (0<=v)&&decide (v<=3)
def Wef(v:Int):Bool:=decide (0<=v)&&decide (v<=7)
theorem Wn2{N:Nat}{v:Int}:Zbv N v=ret (W4 v):=by
 unfold Zbv;simp only[Wcj,ret,Xd];rfl
theorem WnD{N:Nat}{v:Int}:Zbw N v=ret (W4 v):=by
 unfold Zbw;simp only[WX,ret,Xd];rfl
theorem WnP{N:Nat}{v:Int}:Za4 N v=ret (Wef v):=by
 unfold Za4;simp only[WX,ret,Xd];rfl
def Wdx(o:Opn):Bool:=
 bif o.1==1 then W4 o.2.1&&WaZ o.2.2.1&&(o.2.2.2==(0:Int))else
 bif o.1==2 then W4 o.2.1&&W4 o.2.2.1&&W4 o.2.2.2 else
 bif o.1==3 then W4 o.2.1&&W4 o.2.2.1&&W4 o.2.2.2 else
 bif o.1==4 then W4 o.2.1&&W4 o.2.2.1&&W4 o.2.2.2 else
 bif o.1==5 then W4 o.2.1&&Wam o.2.2.1&&(o.2.2.2==(0:Int))else
 bif o.1==6 then Wam o.2.1&&W4 o.2.2.1&&(o.2.2.2==(0:Int))else
 bif o.1==7 then W4 o.2.1&&(decide (1<=o.2.2.1)&&decide (o.2.2.1<=20))&&(o.2.2.2==(0:Int))else
 bif o.1==8 then W4 o.2.1&&(o.2.2.1==(0:Int))&&(o.2.2.2==(0:Int))else
 bif o.1==9 then(o.2.1==(0:Int))&&(o.2.2.1==(0:Int))&&(o.2.2.2==(0:Int))else
 bif o.1==10 then(o.2.1==(0:Int))&&(o.2.2.1==(0:Int))&&(o.2.2.2==(0:Int))else
 bif o.1==11 then(o.2.1==(0:Int))&&(o.2.2.1==(0:Int))&&(o.2.2.2==(0:Int))else
 bif o.1==12 then Wef o.2.1&&W4 o.2.2.1&&W4 o.2.2.2 else
 bif o.1==13 then W4 o.2.1&&Wef o.2.2.1&&(o.2.2.2==(0:Int))else
 bif o.1==14 then Wef o.2.1&&W4 o.2.2.1&&(o.2.2.2==(0:Int))else
 bif o.1==15 then W4 o.2.1&&(o.2.2.1==(0:Int))&&(o.2.2.2==(0:Int))else
 bif o.1==16 then W4 o.2.1&&(o.2.2.1==(0:Int))&&(o.2.2.2==(0:Int))else
 false
abbrev Bo:=Option Ke
def oA(p k:Bo):Bo:=p.bind λo=>bif o.2.1 then k else some ((),(false,()))
def oB(p:Bo):Bo:=p.bind λo=>some ((),(o.2.1,()))
theorem o3{T P Q R:Bo}{p q r:Bool}(h:T=oA P (oA Q (oB R)))(hp:P=ret p)(hq:Q=ret q)(hr:R=ret r):T=ret (p&&q&&r):=by
 rw[h,hp,hq,hr];cases p<;>cases q<;>rfl
theorem z0(v:Int):(ret (v==(0:Int)):Bo)=ret (v==(0:Int)):=rfl
theorem sR(N:Nat)(v:Int):Zbv N v=ret (W4 v):=Wn2
theorem sV(N:Nat)(v:Int):Zau N v=ret (WaZ v):=Waf
theorem sC(N:Nat)(v:Int):Zcd N v=ret (Wam v):=Wbs
theorem sK(N:Nat)(v:Int):Zf N v 0 7=ret (Wef v):=Wcj
theorem sI(N:Nat)(v:Int):Zf N v 1 20=ret (decide (1<=v)&&decide (v<=20)):=Wcj
theorem iR(N:Nat)(v:Int):Zbw N v=ret (W4 v):=WnD
theorem iV(N:Nat)(v:Int):Zan N v=ret (WaZ v):=Was
theorem iC(N:Nat)(v:Int):Zbd N v=ret (Wam v):=Waw
theorem iK(N:Nat)(v:Int):Za4 N v=ret (Wef v):=WnP
theorem iI(N:Nat)(v:Int):Zg N v 1 20=ret (decide (1<=v)&&decide (v<=20)):=WX
def kds:List Int:=[1,2,3,4,5,6,7,8,9,10,11,12,13,14,15,16]
theorem Wuw{P:Int->Prop}(h1:P 1)(h2:P 2)(h3:P 3)(h4:P 4)(h5:P 5)(h6:P 6)(h7:P 7)(h8:P 8)(h9:P 9)(cu:P 10)(fT:P 11)(dQ:P 12)(rf:P 13)(h14:P 14)(h15:P 15)(mz:P 16)
  (h0:∀k,(∀i,i∈kds->(k==i)=false)->P k) (k:Int):P k:=by
 by_cases h:k∈kds
 .simp only[kds,Xr,List.not_mem_nil,or_false]at h;rcases h with h|h|h|h|h|h|h|h|h|h|h|h|h|h|h|h<;>rw[h]<;>assumption
 .exact h0 k λi hi=>by
   rw[beq_eq_false_iff_ne];intro e;exact h (e▸hi)
theorem Wcy{N:Nat}{o:Opn}:Zlb N o=ret (Wdx o):=by
 obtain⟨k,a,b,c⟩:=o;exact Wuw (P:=λk=>Zlb N (k,a,b,c)=ret (Wdx (k,a,b,c)))
  (o3 (by kernel_rfl) (sR N a) (sV N b) (z0 c))
  (o3 (by kernel_rfl) (sR N a) (sR N b) (sR N c))
  (o3 (by kernel_rfl) (sR N a) (sR N b) (sR N c))
  (o3 (by kernel_rfl) (sR N a) (sR N b) (sR N c))
  (o3 (by kernel_rfl) (sR N a) (sC N b) (z0 c))
  (o3 (by kernel_rfl) (sC N a) (sR N b) (z0 c))
  (o3 (by kernel_rfl) (sR N a) (sI N b) (z0 c))
  (o3 (by kernel_rfl) (sR N a) (z0 b) (z0 c))
  (o3 (by kernel_rfl) (z0 a) (z0 b) (z0 c))
  (o3 (by kernel_rfl) (z0 a) (z0 b) (z0 c))
  (o3 (by kernel_rfl) (z0 a) (z0 b) (z0 c))
  (o3 (by kernel_rfl) (sK N a) (sR N b) (sR N c))
  (o3 (by kernel_rfl) (sR N a) (sK N b) (z0 c))
  (o3 (by kernel_rfl) (sK N a) (sR N b) (z0 c))
  (o3 (by kernel_rfl) (sR N a) (z0 b) (z0 c))
  (o3 (by kernel_rfl) (sR N a) (z0 b) (z0 c))
  (λk e=>by unfold Zlb Wdx;simp(disch:=decide) only[e,Wc,Ws]) k
theorem WeO{N:Nat}{o:Opn}:Zin N o=ret (Wdx o):=by
 obtain⟨k,a,b,c⟩:=o;exact Wuw (P:=λk=>Zin N (k,a,b,c)=ret (Wdx (k,a,b,c)))
  (o3 (by kernel_rfl) (iR N a) (iV N b) (z0 c))
  (o3 (by kernel_rfl) (iR N a) (iR N b) (iR N c))
  (o3 (by kernel_rfl) (iR N a) (iR N b) (iR N c))
  (o3 (by kernel_rfl) (iR N a) (iR N b) (iR N c))
  (o3 (by kernel_rfl) (iR N a) (iC N b) (z0 c))
  (o3 (by kernel_rfl) (iC N a) (iR N b) (z0 c))
  (o3 (by kernel_rfl) (iR N a) (iI N b) (z0 c))
  (o3 (by kernel_rfl) (iR N a) (z0 b) (z0 c))
  (o3 (by kernel_rfl) (z0 a) (z0 b) (z0 c))
  (o3 (by kernel_rfl) (z0 a) (z0 b) (z0 c))
  (o3 (by kernel_rfl) (z0 a) (z0 b) (z0 c))
  (o3 (by kernel_rfl) (iK N a) (iR N b) (iR N c))
  (o3 (by kernel_rfl) (iR N a) (iK N b) (z0 c))
  (o3 (by kernel_rfl) (iK N a) (iR N b) (z0 c))
  (o3 (by kernel_rfl) (iR N a) (z0 b) (z0 c))
  (o3 (by kernel_rfl) (iR N a) (z0 b) (z0 c))
  (λk e=>by unfold Zin Wdx;simp(disch:=decide) only[e,Wc,Ws]) k
end
section
def Drw{ρ:Type}(P:ρ->Prop)(r:Option ((Cur×Unit)×ρ)):Prop:=∃c v,r=some ((c,()),v)/\Wt5 c/\P v
theorem Drw.bind{ρ σ:Type}{P:ρ->Prop}{Q:σ->Prop}{r:Option ((Cur×Unit)×ρ)}{k:(Cur×Unit)×ρ->Option ((Cur×Unit)×σ)}(h:Drw P r)(hk:∀c v,Wt5 c->P v->Drw Q (k ((c,()),v))):Drw Q (r.bind k):=by
 obtain⟨c,v,e,h1,h2⟩:=h;simp_all
theorem Drw.ok{ρ:Type}{P:ρ->Prop}{c:Cur}{v:ρ}(hc:Wt5 c)(hv:P v):Drw P (some ((c,()),v)):=⟨c,v,rfl,hc,hv⟩
theorem Drw.bif{ρ:Type}{P:ρ->Prop}{b:Bool}{x y:Option ((Cur×Unit)×ρ)}(h1:b=true->Drw P x)(h2:b=false->Drw P y):Drw P (bif b then x else y):=by
 grind
theorem Drw.mono{ρ:Type}{P Q:ρ->Prop}{r:Option ((Cur×Unit)×ρ)}(h:Drw P r)(hq:∀v,P v->Q v):Drw Q r:=by
 obtain⟨c,v,e,h1,h2⟩:=h;exact⟨c,v,e,h1,hq v h2⟩
section
variable{N:Nat}{c:Cur}
end
end
section
section
variable{N:Nat}{c:Cur}
end
end
section
abbrev Wd:=Int×Int×Int
abbrev Mm:=Int×List Wd
theorem Wag{α:Type}(a:Option α):WbI a a=a:=by unfold WbI;simp
def Wl9(clock:Int)(w:Wd):Bool:=WaZ w.1&&((decide (0<=w.2.1)&&decide (w.2.1<=clock))&&(decide (0<=w.2.2)&&decide (w.2.2<=99)))
def WY(m:Mm):Bool:=decide (m.2.length=8)&&((decide (0<=m.1)&&decide (m.1<=1000000))&&m.2.all (Wl9 m.1))
theorem Wa0{N:Nat}{m:Mm}(hl:m.2.length<=1048576)(hN:1048576<N):Zcu N m=ret (WY m):=by
 unfold Zcu WY;have h1:=Wy (l:=m.2) (V:=Unit) (R:=Unit×Kq) (lp:=λn j v=>Ze1 N m.2 m (some ((),(false,()))) (λfu fv=>
  (bif (Wh m.2)==(8:Int)then
  ((Zg N m.1 (0:Int) (1000000:Int)).bind λjA=>
  (some ((),(jA.2.1,()))))
  else
  (some ((),(false,()))))) n j) (n:=N) (by omega)
  (body:=λj x v k=>bif !Wl9 m.1 x then some ((),(false,()))else k v) (K:=λ_ v=>(bif (Wh m.2)==(8:Int)then
  ((Zg N m.1 (0:Int) (1000000:Int)).bind λjA=>
  (some ((),(jA.2.1,()))))
  else
  (some ((),(false,())))))
  (λn i v hi=>by
   simp only[Ze1,WG hi,Wu hi,Ww hi,Wm (show i<4611686018427387904 by omega),Wa,Was,WX,ret,Xd,Wl9];cases WaZ m.2[i].1<;>cases(decide (0<=m.2[i].2.1)&&decide (m.2[i].2.1<=m.1))<;>cases(decide (0<=m.2[i].2.2)&&decide (m.2[i].2.2<=99))<;>rfl)
  (λn v=>by simp[Ze1,WP,Xl,Wc]) ()
 refine h1.trans ?_;rw[W3 (p:=λx=>!Wl9 m.1 x) (E:=λ_=>some ((),(false,()))) m.2 0 () (λj x v k _=>rfl),Wa4];have e:((Wh m.2)==(8:Int))=decide (m.2.length=8):=by
  grind [Wh]
 simp only[e,WX,ret,Xd];cases m.2.all (Wl9 m.1)<;>cases decide (m.2.length=8)<;>simp
theorem WbF{N:Nat}{m:Mm}(hl:m.2.length<=1048576)(hN:1048576<N):Zei N m=ret (WY m):=by
 unfold Zei WY;have e:((Wh m.2) !=(8:Int))= !decide (m.2.length=8):=by
  grind [Wh]
 have h1:=Wy (l:=m.2) (V:=Unit) (R:=Unit×Kq) (lp:=λn j v=>Zct N m (some ((),(false,()))) (λiT dH=>(some ((),(true,())))) n j) (n:=N) (by omega)
  (body:=λj x v k=>bif !Wl9 m.1 x then some ((),(false,()))else k v) (K:=λ_ v=>some ((),(true,())))
  (λn i v hi=>by
   simp only[Zct,WG hi,Wu hi,Ww hi,Wm (show i<4611686018427387904 by omega),Wa,Waf,Wcj,ret,Xd,Wl9];cases WaZ m.2[i].1<;>cases(decide (0<=m.2[i].2.1)&&decide (m.2[i].2.1<=m.1))<;>cases(decide (0<=m.2[i].2.2)&&decide (m.2[i].2.2<=99))<;>rfl)
  (λn v=>by simp[Zct,WP,Xl,Wc]) ()
 have h2:Zct N m (some ((),(false,()))) (λiT dH=>(some ((),(true,())))) N 0=ret (m.2.all (Wl9 m.1)):=by
  refine h1.trans ?_;rw[W3 (p:=λx=>!Wl9 m.1 x) (E:=λ_=>some ((),(false,()))) m.2 0 () (λj x v k _=>rfl),Wa4];cases m.2.all (Wl9 m.1)<;>rfl
 rw[e,h2];simp only[Wcj,ret,Xd];cases decide (m.2.length=8)<;>cases(decide (0<=m.1)&&decide (m.1<=1000000))<;>simp
def wd0(v:Int):Wd:=(v,(0,0))
def WlN(l:List Int):Mm:=(0,l.map wd0)
theorem WbU{α β R:Type}{body:Int->α->List β->(List β->Option R)->Option R}{K:Int->List β->Option R}{f:α->β}:∀(l:List α) (j:Nat) (o:List β),o.length+l.length<=1000000->
  (∀(j:Nat) x (v:List β) k,x∈l->body j x v k=bif Wz (v.length+ [f x].length)then k (Xg v [f x])else none)->Wbq body K l j o=K ((j+l.length:Nat):Int) (o++l.map f)
 | [],j,o,_,_=>by simp[Wbq]
 |x::l,j,o,h,hb=>by
  rw[Xq]at h;rw[Wbq,hb j x o _ (Xj ..),Wt (by simp;omega)];simp only[Wa];rw[WbU l (j+1) _ (by grind [Xaz]) λj y v k hy=>hb j y v k (Xf _ hy)];rw[Xq,show j+1+l.length=j+(l.length+1) by omega];simp
theorem Wi2{N:Nat}{l:List Int}(h:WcP l=true)(hN:1048576<N):Zce N l=some ((),(WlN l,(true,()))):=by
 have hl:l.length=8:=by grind [WcP]
 unfold Zce;simp only[WgR (show l.length<=1048576 by omega) hN,ret,Xd,h,Xo,Wc];have h1:=Wy (l:=l) (V:=List Wd) (R:=Unit×(Mm×Kq)) (lp:=λn j v=>Zd1 N l (λaB aU bi=>(some ((),(((0:Int),bi),(true,()))))) n j v) (n:=N) (by omega)
  (body:=λj x v k=>bif Wz (v.length+ [wd0 x].length)then k (Xg v [wd0 x])else none) (K:=λ_ v=>some ((),(((0:Int),v),(true,()))))
  (λn i v hi=>by simp only[Zd1,WG hi,Wu hi,Ww hi,Wm (show i<4611686018427387904 by omega),Wa,wd0])
  (λn v=>by simp[Zd1,WP,Xl,Wc]) []
 refine h1.trans ?_;rw[WbU (f:=wd0) l 0 [] (by simp;omega) (λj x v k _=>rfl)];rfl
theorem WiQ{N:Nat}{l:List Int}(h:WcP l=true)(hN:1048576<N):Zj5 N l=some ((),(WlN l,(true,()))):=by
 have hl:l.length=8:=by grind [WcP]
 unfold Zj5;simp only[Wg8 (show l.length<=1048576 by omega) hN,ret,Xd,h,Xo,Wc];have h1:=Wy (l:=l) (V:=List Wd) (R:=Unit×(Mm×Kq)) (lp:=λn j v=>Zdx N l (λaB aU bi=>(some ((),(((0:Int),bi),(true,()))))) n j v) (n:=N) (by omega)
  (body:=λj x v k=>bif Wz (v.length+ [wd0 x].length)then k (Xg v [wd0 x])else none) (K:=λ_ v=>some ((),(((0:Int),v),(true,()))))
  (λn i v hi=>by simp only[Zdx,WG hi,Wu hi,Ww hi,Wm (show i<4611686018427387904 by omega),Wa,wd0])
  (λn v=>by simp[Zdx,WP,Xl,Wc]) []
 refine h1.trans ?_;rw[WbU (f:=wd0) l 0 [] (by simp;omega) (λj x v k _=>rfl)];rfl
theorem WE{m:Mm}(h:WY m=true):m.2.length=8/\0<=m.1/\m.1<=1000000/\∀w∈m.2,Wl9 m.1 w=true:=by
 simp_all [WY,Xi,Wi,Xae]
def tick(m:Mm):Mm×Int:=if m.1<1000000 then((m.1+1,m.2),m.1+1)else(m,0)
theorem WlJ{N:Nat}{m:Mm}(h:WY m=true)(hN:1048576<N):Zve N m=some ((),((tick m).1,((tick m).2,()))):=by
 obtain⟨h8,h0,h1,_⟩:=WE h;have e:Zcf N m=ret m:=by grind [Zcf,Wt]
 unfold Zve tick;simp only[e,Wa0 (show m.2.length<=1048576 by omega) hN,ret,Xd,h,Xo,Wc];by_cases hc:m.1<1000000
 .have e2:(m.1==1000000)=false:=by simp;omega
  have e3:Wj .i64 m.1 1=m.1+1:=WI (by unfold I64;omega)
  grind
 grind
theorem WlG{N:Nat}{m:Mm}(h:WY m=true)(hN:1048576<N):Zvd N m=some ((),((tick m).1,((tick m).2,()))):=by
 obtain⟨h8,h0,h1,_⟩:=WE h;have e:Zdd N m=ret m:=by simp_all [Zdd,Wt]
 unfold Zvd tick;simp only[e,WbF (show m.2.length<=1048576 by omega) hN,ret,Xd,h,Xo,Wc];by_cases hc:m.1<1000000
 .have e2:decide (m.1>=1000000)=false:=by simp;omega
  have e3:Wj .i64 m.1 1=m.1+1:=WI (by unfold I64;omega)
  grind
 grind
abbrev Pb:=Int×Int×Int×Int
def WiM(p:Pb):Bool:=Wam p.1&&((decide (0<=p.2.1)&&decide (p.2.1<=4))&&((decide (0<=p.2.2.1)&&decide (p.2.2.1<=1000000))&&WaZ p.2.2.2))
theorem WmD{N:Nat}{p:Pb}:Zp8 N p=ret (WiM p):=by
 unfold Zp8 WiM;simp only[Waw,WX,Was,ret,Xd];cases Wam p.1<;>cases(decide (0<=p.2.1)&&decide (p.2.1<=4))<;>cases(decide (0<=p.2.2.1)&&decide (p.2.2.1<=1000000))<;>simp
theorem WmA{N:Nat}{p:Pb}:Zp7 N p=ret (WiM p):=by
 unfold Zp7 WiM;simp only[Wbs,Wcj,Waf,ret,Xd];cases Wam p.1<;>cases(decide (0<=p.2.1)&&decide (p.2.1<=4))<;>cases(decide (0<=p.2.2.1)&&decide (p.2.2.1<=1000000))<;>simp
def WaD(m:Mm)(rv:Int)(p:Pb):Pb:=
 let w:=Xc m.2 (Xa p.1) (0,(0,0))
 bif p.2.1==0 then(bif w.2.2==0 then(bif decide (w.2.1<=rv)then(p.1,(1,(w.2.1,p.2.2.2)))else(p.1,(4,p.2.2)))else(p.1,(4,p.2.2)))
 else bif p.2.1==1 then(p.1,(2,(p.2.2.1,w.1)))
 else bif p.2.1==2 then(bif w.2.2==0 then(bif w.2.1==p.2.2.1 then(p.1,(3,p.2.2))else(p.1,(4,p.2.2)))else(p.1,(4,p.2.2)))
 else p
theorem Ws1{m:Mm}{p:Pb}(h:WY m=true)(hp:WiM p=true):inb p.1 m.2.length=true:=by
 grind [WE,WiM,Wam,inb]
theorem WeT{N:Nat}{m:Mm}{rv:Int}{p:Pb}(h:WY m=true)(hp:WiM p=true)(hN:1048576<N):Ze2 N m rv p=ret (WaD m rv p):=by
 have h1:=(WE h).1;unfold Ze2 WaD;simp only[Wa0 (show m.2.length<=1048576 by omega) hN,WmD,ret,Xd,h,hp,Xo,Wc,Ws1 h hp,Wa];generalize Xc m.2 (Xa p.1) (0,(0,0))=w;cases p.2.1==0<;>cases p.2.1==1<;>cases p.2.1==2<;>cases w.2.2==0<;>cases decide (w.2.1<=rv)<;>cases w.2.1==p.2.2.1<;>rfl
theorem WeQ{N:Nat}{m:Mm}{rv:Int}{p:Pb}(h:WY m=true)(hp:WiM p=true)(hN:1048576<N):Zez N m rv p=ret (WaD m rv p):=by
 have h1:=(WE h).1;unfold Zez WaD;simp only[WbF (show m.2.length<=1048576 by omega) hN,WmA,ret,Xd,h,hp,Xo,Wc,Ws1 h hp,Wa];generalize Xc m.2 (Xa p.1) (0,(0,0))=w;have e1:decide (w.2.1>rv)= !decide (w.2.1<=rv):=by
  grind
 rw[e1];unfold bne;cases p.2.1==0<;>cases p.2.1==1<;>cases p.2.1==2<;>cases w.2.2==0<;>cases decide (w.2.1<=rv)<;>cases w.2.1==p.2.2.1<;>rfl
def Wf6(l:List Rw)(c:Int):Nat->Option Int
 |0=>none
 |i+1=>if(Xc l i (0,0)).1=c then some (Xc l i (0,0)).2 else Wf6 l c i
def WbY(l:List Rw)(c:Int):Option Int:=if Wad l=true then Wf6 l c l.length else none
def opI(o:Option Int):Option (Unit×Kk):=match o with
 |none=>some ((),((0:Int),(false,())))
 |some v=>some ((),(v,(true,())))
theorem WhO{N:Nat}{l:List Rw}{c:Int}(hl:l.length<=1048576):∀(i n:Nat),i<n->i<=l.length->Zhx N l c (λar=>(some ((),(ar,(true,()))))) (λbZ aB=>(some ((),((0:Int),(false,()))))) n ((i:Int) -1)=opI (Wf6 l c i)
 |i,0,h,_=>by omega
 |0,n+1,h,_=>rfl
 |i+1,n+1,h,hi=>by
  have e:((i+1:Nat):Int) -1=(i:Int):=by omega
  have e1:decide ((i:Int)>=0)=true:=by simp
  have e2:WV .i64 (i:Int) 1=(i:Int) -1:=WQ (by unfold I64;omega);rw[e,Zhx,e1,Wu (show i<l.length by omega),e2,Wf6,Xk];simp only[Wa];by_cases hc:(Xc l i ((0:Int),(0:Int))).1=c
  .rw[Wf hc,beq_iff_eq.2 hc];rfl
  .rw[Wb hc,beq_eq_false_iff_ne.2 hc];exact WhO hl i n (by omega) (by omega)
theorem Wiu{N:Nat}{l:List Rw}{c:Int}(hl:l.length<=1048576):∀(i n:Nat),i<n->i<=l.length->Zhv N l c (λar=>(some ((),(ar,(true,()))))) (λbZ aB=>(some ((),((0:Int),(false,()))))) n ((i:Int) -1)=opI (Wf6 l c i)
 |i,0,h,_=>by omega
 |0,n+1,h,_=>rfl
 |i+1,n+1,h,hi=>by
  have e:((i+1:Nat):Int) -1=(i:Int):=by omega
  have e1:decide ((i:Int)>=0)=true:=by simp
  have e2:WV .i64 (i:Int) 1=(i:Int) -1:=WQ (by unfold I64;omega);rw[e,Zhv,e1,Wu (show i<l.length by omega),e2,Wf6,Xk];simp only[Wa];by_cases hc:(Xc l i ((0:Int),(0:Int))).1=c
  .rw[Wf hc,beq_iff_eq.2 hc];rfl
  .rw[Wb hc,beq_eq_false_iff_ne.2 hc];exact Wiu hl i n (by omega) (by omega)
theorem Wim{α:Type}{l:List α}(hl:l.length<=1048576):WV .i64 (Wh l) 1=((l.length:Nat):Int) -1:=by grind [Wh,WQ,I64]
theorem Wei{N:Nat}{l:List Rw}{c:Int}(hl:l.length<=1048576)(hN:1048576<N):Zio N l c=opI (WbY l c):=by
 unfold Zio WbY;simp only[Wb3 hl hN,ret,Xd];cases Wad l
 .rfl
 .simp only[Xo,Wc,W2,Wim hl];exact WhO hl l.length N (by omega) (Xl _)
theorem Wec{N:Nat}{l:List Rw}{c:Int}(hl:l.length<=1048576)(hN:1048576<N):Zim N l c=opI (WbY l c):=by
 unfold Zim WbY;simp only[WcU hl hN,ret,Xd];cases Wad l
 .rfl
 .simp only[Xo,Wc,W2,Wim hl];exact Wiu hl l.length N (by omega) (Xl _)
end
section
def WiK(l:List Rw)(o:List Rw)(c:Nat):List Rw:=match WbY l c with
 |none=>o
 |some v=>o++ [((c:Int),v)]
def Wih(l:List Rw):Nat->Nat->List Rw->List Rw
 |0,_,o=>o
 |j+1,c,o=>Wih l j (c+1) (WiK l o c)
def Wcr(l:List Rw):List Rw:=Wih l 8 0 []
theorem Wgv{N:Nat}{l:List Rw}(hl:l.length<=1048576)(hN:1048576<N):∀(j n c:Nat) (o:List Rw),c+j=8->j<n->o.length<=c->Zg5 N l (λaw aB aY=>(some ((),(aY,())))) n (c:Int) o=ret (Wih l j c o)
 |j,0,c,o,_,h,_=>by omega
 |0,n+1,c,o,h,_,_=>by
  have:c=8:=by omega
  subst this;rfl
 |j+1,n+1,c,o,h,h1,ho=>by
  have e:decide ((c:Int)<8)=true:=by simp;omega
  rw[Zg5,e,Wei hl hN,Wm (by omega),Wih,WiK];simp only[Wa];rcases WbY l c with _|v
  .exact Wgv hl hN j n (c+1) o (by omega) (by omega) (by omega)
  .have er:Wz (o.length+ [((c:Int),v)].length)=true:=Wt (by simp;omega);simp only[opI,Xd,Wa,er];exact Wgv hl hN j n (c+1) _ (by omega) (by omega) (by simp;omega)
theorem Wgy{N:Nat}{l:List Rw}(hl:l.length<=1048576)(hN:1048576<N):∀(j n c:Nat) (o:List Rw),c+j=8->j<n->o.length<=c->Zg4 N l (λaw aB aY=>(some ((),(aY,())))) n (c:Int) o=ret (Wih l j c o)
 |j,0,c,o,_,h,_=>by omega
 |0,n+1,c,o,h,_,_=>by
  have:c=8:=by omega
  subst this;rfl
 |j+1,n+1,c,o,h,h1,ho=>by
  have e:decide ((c:Int)<8)=true:=by simp;omega
  rw[Zg4,e,Wec hl hN,Wm (by omega),Wih,WiK];simp only[Wa];rcases WbY l c with _|v
  .exact Wgy hl hN j n (c+1) o (by omega) (by omega) (by omega)
  .have er:Wz (o.length+ [((c:Int),v)].length)=true:=Wt (by simp;omega);simp only[opI,Xd,Wa,er];exact Wgy hl hN j n (c+1) _ (by omega) (by omega) (by simp;omega)
theorem WdA{N:Nat}{l:List Rw}(hl:l.length<=1048576)(hN:1048576<N):Zhk N l=ret (Wcr l):=by
 unfold Zhk;exact Wgy hl hN 8 N 0 [] rfl (by omega) (by simp)
theorem Wls{l:List Rw}(h:Wad l=false):∀(j c:Nat) (o:List Rw),Wih l j c o=o
 |0,_,_=>rfl
 |j+1,c,o=>by
  have e:WbY l c=none:=by grind [WbY]
  rw[Wih,WiK,e];exact Wls h j (c+1) o
theorem WdI{N:Nat}{l:List Rw}(hl:l.length<=1048576)(hN:1048576<N):Zhl N l=ret (Wcr l):=by
 unfold Zhl;simp only[Wb3 hl hN,ret,Xd];cases h:Wad l
 .grind [Wcr,Wls]
 .exact Wgv hl hN 8 N 0 [] rfl (by omega) (by simp)
def fnd{α:Type}(p:α->Bool):List α->Nat->Option (Nat×α)
 | [],_=>none
 |x::l,j=>bif p x then some (j,x)else fnd p l (j+1)
theorem Wds{α V R:Type}{body:Int->α->V->(V->Option R)->Option R}{K:Int->V->Option R}{p:α->Bool}{E:Int->α->Option R}:∀(l:List α) (j:Nat) (v:V),(∀(j:Nat) x v k,x∈l->body j x v k=bif p x then E j x else k v)->
  Wbq body K l j v=match fnd p l j with|some r=>E r.1 r.2|none=>K ((j+l.length:Nat):Int) v
 | [],j,v,_=>rfl
 |x::l,j,v,h=>by
  rw[Wbq,h j x v _ (Xj ..),fnd,Wds l (j+1) v λj y v k hy=>h j y v k (Xf _ hy)]
  grind
theorem Wcl{α:Type}{p:α->Bool}:∀{l:List α} {j:Nat} {r:Nat×α},fnd p l j=some r->p r.2=true/\j<=r.1/\r.1<j+l.length/\l[r.1-j]?=some r.2
 | [],j,r,h=>by cases h
 |x::l,j,r,h=>by
  rw[fnd]at h;cases hp:p x
  .rw[hp]at h;obtain⟨h1,h2,h3,h4⟩:=Wcl (l:=l) h
   grind
  grind
theorem Wgd{α:Type}{p:α->Bool}:∀{l:List α} {j:Nat},fnd p l j=none->∀x∈l,p x=false
 | [],j,h=>by simp
 |x::l,j,h=>by
  rw[fnd]at h;cases hp:p x
  .rw[hp]at h;intro y hy;rcases Xr.1 hy with rfl|hy
   .exact hp
   .exact Wgd h y hy
  simp_all
abbrev En:=Int×Int×Int
def ent(b:List En)(c:Int):Option (Nat×En):=fnd (λe=>e.1==c) b 0
theorem WfG{N:Nat}{f:Y_Family}{c:Int}(hl:f.2.2.2.2.2.2.1.length<=1048576)(hN:1048576<N):Zcm N f c=ret (match ent f.2.2.2.2.2.2.1 c with|some r=>(r.1:Int)|none=>-1):=by
 unfold Zcm;show((Zi N f.2.2.2.2.2.2.1 c).bind _)=_;generalize f.2.2.2.2.2.2.1=b at hl;unfold Zi ent;have h1:=Wy (l:=b) (V:=Unit) (R:=Kh×Kh) (lp:=λn j v=>Zc N b (λbR aC=>(some ((aC,()),(bR,())))) (λfu fv dL=>(some ((dL,()),((-1:Int),())))) n j c) (n:=N) (by omega)
  (body:=λj x v k=>bif x.1==c then some ((c,()),(j,()))else k v) (K:=λ_ v=>some ((c,()),((-1:Int),())))
  (λn i v hi=>by simp only[Zc,Zl3,WG hi,Wu hi,Ww hi,Wm (show i<4611686018427387904 by omega),Wa,Xd])
  (λn v=>by simp[Zc,WP,Xl,Wc]) ()
 rw[h1,Wds (p:=λe=>e.1==c) (E:=λj x=>some ((c,()),(j,()))) b 0 () (λj x v k _=>rfl)];cases fnd (λe:En=>e.1==c) b 0<;>rfl
theorem WhY{N:Nat}{f:Y_Family}{c:Int}(hl:(P6 f).length<=1048576)(hN:1048576<N):Zf7 N f c=ret (match ent (P6 f) c with|some r=>r.2|none=>(c,(0,-1))):=by
 unfold Zf7 ent;have h1:=Wy (l:=P6 f) (V:=Unit) (R:=Unit×(En×Unit)) (lp:=λn j v=>Zcj N c f (λcE=>(some ((),(cE,())))) (λiT dH=>(some ((),((c,((0:Int),(-1:Int))),())))) n j) (n:=N) (by omega)
  (body:=λj x v k=>bif x.1==c then some ((),(x,()))else k v) (K:=λ_ v=>some ((),((c,((0:Int),(-1:Int))),())))
  (λn i v hi=>by simp only[Zcj,WG hi,Wu hi,Ww hi,Wm (show i<4611686018427387904 by omega),Wa])
  (λn v=>by simp only[Zcj,WP (Xl (P6 f).length),Wc]) ()
 refine h1.trans ?_;rw[Wds (p:=λe=>e.1==c) (E:=λj x=>some ((),(x,()))) (P6 f) 0 () (λj x v k _=>rfl)];cases fnd (λe:En=>e.1==c) (P6 f) 0<;>rfl
theorem Wcq{N:Nat}{l:List Int}(h:l.length<=1048576):Zj N l=ret l:=by
 unfold Zj;rw[Wt (by simp;omega)];rfl
theorem Wa9{N:Nat}{l:List Int}(h:l.length<=1048576):Zm N l=ret l:=by
 grind [Zm,Wt]
theorem Wdm{N:Nat}{l:List Rw}(h:l.length<=1048576):Zbf N l=ret l:=by
 grind [Zbf,Wt]
end
section
def WuT(f:Y_Family)(k:Nat)(x:Y_KidRun):Y_Family:=U9 (Xe (Q9 f) k x) f
def again(f:Y_Family)(x:Y_KidRun):Y_KidRun:=(0,(0,(f.2.1,(x.2.2.2.1+1,(0,(0,(P4 f,([],([],([],(false,(0,(0,(0,0))))))))))))))
def Wlh(x:Y_KidRun)(c:Int):Pb:=bif P10 x then Q11 x else(c,(0,(0,0)))
def Weh(m:Mm)(f:Y_Family)(x:Y_KidRun)(o:Int×Int×Int×Int):Y_Family×Y_KidRun:=
 match WbY (P8 x) o.2.2.1 with
 |some v=>(f,S6 (Xe (P6 x) (Xa o.2.1) v) (S1 (x.2.1+1) x))
 |none=>match ent (P6 f) o.2.2.1 with
  |some r=>bif decide (r.2.2.2>x.2.2.1)then(f,again f x)else(f,S7 (P7 x++ [r.2]) (S6 (Xe (P6 x) (Xa o.2.1) r.2.2.1) (S1 (x.2.1+1) x)))
  |none=>
   bif (WaD m f.1 (Wlh x o.2.2.1)).2.1==4 then(S3 true f,U11 (WaD m f.1 (Wlh x o.2.2.1)) (S10 true x))else
   bif (WaD m f.1 (Wlh x o.2.2.1)).2.1==3 then(f,U14 0 (S13 0 (S12 0 (S11 0 (S10 false (S7 (P7 x++ [(o.2.2.1,((WaD m f.1 (Wlh x o.2.2.1)).2.2.2,-1))]) (S6 (Xe (P6 x) (Xa o.2.1) (WaD m f.1 (Wlh x o.2.2.1)).2.2.2) (S1 (x.2.1+1) x))))))))else
   (f,U11 (WaD m f.1 (Wlh x o.2.2.1)) (S10 true x))
structure ReadOk(m:Mm)(f:Y_Family)(x:Y_KidRun)(o:Int×Int×Int×Int):Prop where
 mem:WY m=true
 regs:(P6 x).length=4
 famr:(P4 f).length=4
 rA:0<=o.2.1/\o.2.1<=3
 cB:Wam o.2.2.1=true
 seen:(P7 x).length<=1000
 wr:(P8 x).length<=1000
 buf:(P6 f).length<=1000
 ver:∀e∈P6 f,0<=e.2.2
 since:0<=x.2.2.1
 pc:0<=x.2.1/\x.2.1<=1000
 tries:0<=x.2.2.2.1/\x.2.2.2.1<=100000
 pb:P10 x=true->WiM (Q11 x)=true
theorem ReadOk.pbO{m:Mm}{f:Y_Family}{x:Y_KidRun}{o:Int×Int×Int×Int}(h:ReadOk m f x o):WiM (Wlh x o.2.2.1)=true:=by
 unfold Wlh;cases hb:P10 x
 .have:=h.cB
  grind [WiM,WaZ]
 .exact h.pb hb
theorem WoP{x:Y_KidRun}(h:P10 x=true):S10 true x=x:=by rw[←h];rfl
theorem Waj{a:Int}(h:0<=a/\a<=1000000):Wj .i64 a 1=a+1:=WI (by unfold I64;omega)
theorem rgI{r:List Int}{a:Int}(h:r.length=4)(ha:0<=a/\a<=3):inb a r.length=true:=by grind [inb]
theorem Wgf{N:Nat}{f:Y_Family}{x:Y_KidRun}(h:(P4 f).length=4)(ht:0<=x.2.2.2.1/\x.2.2.2.1<=100000):Zle N f x=some ((f,()),(again f x,())):=by
 unfold Zle again;have e:Zj N f.2.2.2.2.1=ret (P4 f):=Wcq (by grind [P4])
 grind [Waj]
theorem Wd7{N:Nat}{f:Y_Family}{k:Nat}{x:Y_KidRun}(hk:k<(Q9 f).length)(h:(P4 f).length=4)(ht:0<=x.2.2.2.1/\x.2.2.2.1<=100000):
  Zba N (U9 (Xe (Q9 f) k x) f) (k:Int)=some ((WuT f k (again f x),()),()):=by
 have e0:Zm N (P4 (U9 (Xe (Q9 f) k x) f))=ret (P4 f):=Wa9 (show(P4 f).length<=1048576 by omega);have e1:Q9 (U9 (Xe (Q9 f) k x) f)=Xe (Q9 f) k x:=rfl;have kg:k<(Xe (Q9 f) k x).length:=by simp_all
 unfold Zba;rw[e0,e1];have e2:Xc (Xe (Q9 f) k x) (Xa (k:Int)) d_KidRun=x:=by simp_all
 rw[e2,Wu kg,Waj (by omega),Xk];simp only[Wa,ret,Xd,Xcq];rfl
theorem WmC{N:Nat}{m:Mm}{f:Y_Family}{k:Nat}{o:Int×Int×Int×Int}(hk:k<(Q9 f).length)(h:ReadOk m f (Q9 f)[k] o)(hN:1048576<N):
  Zki N f (k:Int) o m=some ((WuT (Weh m f (Q9 f)[k] o).1 k (Weh m f (Q9 f)[k] o).2,()),()):=by
 generalize hx:(Q9 f)[k]=x at h;have hw:=h.wr;have hs:=h.seen;have hb:=h.buf;have hr:=h.regs;have ex:Xc (Q9 f) (Xa (k:Int)) d_KidRun=x:=by rw[Ww hk,hx]
 unfold Zki Weh;simp only[Ws];rw[Wu hk,ex,Xk,Wei (show(P8 x).length<=1048576 by omega) hN,Waj (by have:=h.pc;omega)];rcases WbY (P8 x) o.2.2.1 with _|v
 .simp only[opI,Xd,Wc,Wa];have hE:Zcm N (U9 (Xe (Q9 f) k x) f) o.2.2.1=ret (match ent (P6 f) o.2.2.1 with|some r=>(r.1:Int)|none=>-1):=WfG (f:=U9 (Xe (Q9 f) k x) f) (show(P6 f).length<=1048576 by omega) hN;rw[hE,Wd7 hk h.famr h.tries];rcases he:ent (P6 f) o.2.2.1 with _|r
  .simp only[ret,Xd,show decide ((-1:Int)>=0)=false from rfl,Wc];have hp:=h.pbO;cases hc:P10 x
   .have km:Wlh x o.2.2.1=(o.2.2.1,(0,(0,0))):=by grind [Wlh]
    have hn:Zf8 N o.2.2.1=some ((),((o.2.2.1,(0,(0,0))),(true,()))):=by
     unfold Zf8;simp only[Waw,ret,Xd,h.cB,Xo,Wc]
    rw[km]at hp⊢;simp only[Bool.not_false,Wa,hn,WeT h.mem hp hN,ret,Xd,rgI hr h.rA];generalize WaD m f.1 (o.2.2.1,(0,(0,0)))=q;rw[Wt (by simp;omega)];cases q.2.1==4<;>cases q.2.1==3<;>rfl
   .have km:Wlh x o.2.2.1=Q11 x:=by grind [Wlh]
    rw[km]at hp⊢;simp only[Xo,Wc,WeT h.mem hp hN,ret,Xd,rgI hr h.rA,Wa];generalize WaD m f.1 (Q11 x)=q;rw[Wt (by simp;omega),WoP hc];cases q.2.1==4<;>cases q.2.1==3<;>rfl
  .have hm:=Wcl he;have hi:r.1<(P6 f).length:=by omega
   have hg:(P6 f)[r.1]=r.2:=by
    simp_all
   have e2:decide (((r.1:Nat):Int)>=0)=true:=by simp
   simp only[ret,Xd,e2,Wa,Wu hi,rgI hr h.rA];rw[Ww hi,hg,Wt (by simp;omega)];cases decide (r.2.2.2>x.2.2.1)<;>rfl
 .simp only[opI,Xd,Wa,rgI hr h.rA];rfl
end
section
def Wnv{α:Type}(p:Nat->α->Bool):Nat->List α->Bool
 |_,[]=>false
 |j,x::l=>p j x||Wnv p (j+1) l
theorem Wdo{α V R:Type}{body:Int->α->V->(V->Option R)->Option R}{K:Int->V->Option R}{p:Nat->α->Bool}{E:V->Option R}:∀(l:List α) (j:Nat) (v:V),(∀(j:Nat) x v k,x∈l->body j x v k=bif p j x then E v else k v)->
  Wbq body K l j v=bif Wnv p j l then E v else K ((j+l.length:Nat):Int) v
 | [],j,v,_=>rfl
 |x::l,j,v,h=>by
  rw[Wbq,h j x v _ (Xj ..),Wdo l (j+1) v λj y v k hy=>h j y v k (Xf _ hy),Wnv]
  grind
theorem WfW{α:Type}{p:Nat->α->Bool}:∀{l:List α} {j:Nat},Wnv p j l=true↔∃i,∃h:i<l.length,p (j+i) l[i]=true
 | [],j=>by simp[Wnv]
 |x::l,j=>by
  rw[Wnv,Xcr,WfW];constructor
  .rintro(h|⟨i,hi,h⟩)
   .exact⟨0,by simp,by grind⟩
   .exact⟨i+1,by simp_all,by grind⟩
  grind
def opd(o:Opn):Int:=bif o.1==8 then 1 else bif o.1==9 then-1 else 0
theorem WiE(o:Opn):-1<=opd o/\opd o<=1:=by unfold opd;cases o.1==8<;>cases o.1==9<;>simp
def dep(l:List Opn)(j:Nat):Int:=((l.take j).map opd).sum
theorem WcX(l:List Opn):dep l 0=0:=by simp[dep]
theorem Wat{l:List Opn}{j:Nat}(h:j<l.length):dep l (j+1)=dep l j+opd l[j]:=by
 grind [dep,Xcc]
theorem WJ{α:Type}{l:List α}{j:Nat}(h:j<l.length)(d:α):Xc l j d=l[j]:=by simp[h]
theorem Wcs(l:List Opn):∀j:Nat,-(j:Int)<=dep l j/\dep l j<=j
 |0=>by simp[dep]
 |j+1=>by
  have ih:=Wcs l j;by_cases h:j<l.length
  .have:=WiE l[j]
   grind [Wat]
  grind [dep,List.take_of_length_le]
def bal(l:List Opn):Bool:=!Wnv (λj _=>decide (dep l (j+1)<0)) 0 l&&decide (dep l l.length=0)
theorem Wgc{N:Nat}{o:Opn}:Zl2 N o=ret (opd o):=by
 unfold Zl2 opd;cases o.1==8<;>cases o.1==9<;>rfl
theorem WuE(x:Int):(x==(0:Int))=decide (x=0):=by by_cases h:x=0<;>simp[h]
theorem WhX{N:Nat}{l:List Opn}(hl:l.length<=1048576)(hN:1048576<N):Zdz N l=ret (bal l):=by
 unfold Zdz bal;have h1:=Wy (l:=l) (V:=Unit) (R:=Unit×Kq) (lp:=λn j _=>Zbx N l (some ((),(false,()))) (λmr aU dH=>some ((),(mr==(0:Int),()))) n (dep l j.toNat) j) (n:=N) (by omega)
  (body:=λj _ v k=>bif decide (dep l (j.toNat+1)<0)then some ((),(false,()))else k v) (K:=λj _=>some ((),(dep l j.toNat==(0:Int),())))
  (λn i v hi=>by
   have hb:=Wcs l i;have hs:=Wat hi;have ho:=WiE l[i];have e:Wj .i64 (dep l i) (opd l[i])=dep l (i+1):=by rw[WI (by unfold I64;omega),hs]
   simp only[Zbx,WG hi,Wu hi,Ww hi,WJ hi,Wm (show i<4611686018427387904 by omega),Wa,Wgc,ret,Xd,Xk,e])
  (λn v=>by simp[Zbx,WP,Xl,Wc]) ()
 have e0:dep l (Xa 0)=0:=WcX l;simp only[e0]at h1;refine h1.trans ?_;rw[Wdo (p:=λj _=>decide (dep l (j+1)<0)) (E:=λ_=>some ((),(false,()))) l 0 () (λj x v k _=>rfl)];rw[Xat,Xk,WuE];cases Wnv (λj _=>decide (dep l (j+1)<0)) 0 l<;>rfl
theorem Wk6{N:Nat}{l:List Opn}(hl:l.length<=1048576)(hN:1048576<N){i:Nat}(hi:i<=l.length):Ziq N l (i:Int)=ret (dep l i):=by
 unfold Ziq;have h1:=Wy (l:=l) (V:=Unit) (R:=Unit×Kh) (lp:=λn j _=>Zb1 N (i:Int) l (λmt bR gz=>some ((),(mt,()))) n (dep l (min j.toNat i)) j) (n:=N) (by omega)
  (body:=λj _ v k=>k v) (K:=λj _=>some ((),(dep l (min j.toNat i),())))
  (λn j v hj=>by
   have hb:=Wcs l j;have ho:=WiE l[j];simp only[Zb1,WG hj,Wu hj,Ww hj,WJ hj,Wm (show j<4611686018427387904 by omega),Wa,Wgc,ret,Xd,Xk]
   grind [decide,min,Wj,dep,opd,WI,I64,Wat])
  (λn v=>by simp[Zb1,WP,Xl,Wc]) ()
 have e0:dep l (min (Xa 0) i)=0:=by
  simp[min,Xa,WcX]
 simp only[e0]at h1;refine h1.trans ?_;rw[Wjo (f:=λv _=>v) l 0 () (λj x v k _=>rfl),Xat,Xk,Nat.min_eq_right hi]
theorem Wno{N:Nat}{l:List Opn}{a b:Nat}(fL:a<=b)(hb:b<=l.length)(hl:l.length<=1048576)(hN:1048576<N):
  Zav N l (b:Int) (some ((),(false,()))) (λnB mi aB=>some ((),(nB==(0:Int),()))) N 0 (a:Int)=ret (bal ((l.take b).drop a)):=by
 have hlen:((l.take b).drop a).length=b-a:=by simp;omega
 unfold bal;have h1:=Wy (l:=(l.take b).drop a) (V:=Unit) (R:=Unit×Kq) (lp:=λn j _=>Zav N l (b:Int) (some ((),(false,()))) (λnB mi aB=>some ((),(nB==(0:Int),()))) n (dep ((l.take b).drop a) j.toNat) ((a+j.toNat:Nat):Int)) (n:=N) (by omega)
  (body:=λj _ v k=>bif decide (dep ((l.take b).drop a) (j.toNat+1)<0)then some ((),(false,()))else k v) (K:=λj _=>some ((),(dep ((l.take b).drop a) j.toNat==(0:Int),())))
  (λn i v hi=>by
   have hb':=Wcs ((l.take b).drop a) i;have hs:=Wat hi;have ei:((l.take b).drop a)[i]=l[a+i]:=by simp
   rw[ei]at hs;have eA:a+i<l.length:=by omega
   have e1:decide (((a+i:Nat):Int)<(b:Int))=true:=by simp;omega
   have e2:Wj .i64 ((a+i:Nat):Int) 1=((a+(i+1):Nat):Int):=by grind [WI,I64]
   have e3:Wj .i64 (dep ((l.take b).drop a) i) 1=dep ((l.take b).drop a) i+1:=WI (by unfold I64;omega);have e4:WV .i64 (dep ((l.take b).drop a) i) 1=dep ((l.take b).drop a) i+ -1:=by grind [WQ,I64]
   simp only[Zav,e1,Wu eA,Ww eA,WJ eA,e2,e3,e4,Wa,Xk];unfold opd at hs
   grind)
  (λn v=>by
   have e1:decide (((a+(((l.take b).drop a).length:Int).toNat:Nat):Int)<(b:Int))=false:=by simp_all
   simp only[Zav,e1,Wc]) ()
 have e0:dep ((l.take b).drop a) (Xa 0)=0:=WcX _;simp only[e0]at h1;refine h1.trans ?_;rw[Wdo (p:=λj _=>decide (dep ((l.take b).drop a) (j+1)<0)) (E:=λ_=>some ((),(false,()))) _ 0 () (λj x v k _=>rfl)];rw[Xat,Xk,WuE];cases Wnv (λj _=>decide (dep ((l.take b).drop a) (j+1)<0)) 0 ((l.take b).drop a)<;>rfl
def WhE(l:List Opn)(i:Nat)(o:Opn):Bool:=decide (i+1+o.2.2.1.toNat<=l.length)&&bal ((l.take (i+1+o.2.2.1.toNat)).drop (i+1))
def frk(l:List Opn)(j:Nat):Nat:=(l.take j).countP λo=>o.1==11
theorem Whz{l:List Opn}{j:Nat}(h:j<l.length):frk l (j+1)=frk l j+(l[j].1==11).toNat:=by
 unfold frk;rw[Xcc h,List.countP_append,List.countP_singleton];cases l[j].1==11<;>rfl
theorem Ws6(l:List Opn)(j:Nat):frk l j<=l.length:=Xbe Xef (by simp;omega)
def Wtc(l:List Opn)(i:Nat)(o:Opn):Bool:=
 !Wdx o||((o.1==7)&& !WhE l i o)||((o.1==11)&&(decide (dep l i>0)||decide (frk l (i+1)>1)))||decide (dep l (i+1)<0)
def WpD(l:List Opn)(i:Nat)(o:Opn):Bool:=
 !Wdx o||((o.1==7)&& !WhE l i o)||((o.1==11)&&(decide (frk l (i+1)>1)|| !decide (dep l i=0)))
def Wo3(l:List Opn):Bool:=decide (l.length<=24)&&(bal l&& !Wnv (WpD l) 0 l)
theorem Woa{l:List Opn}{i:Nat}{o:Opn}(hl:l.length<=24)(hi:i<l.length)(ho:Wdx o=true)(h7:o.1=7):
  Wj .i64 ((i+1:Nat):Int) o.2.2.1=((i+1+o.2.2.1.toNat:Nat):Int)/\1<=o.2.2.1/\o.2.2.1<=20:=by
 obtain⟨k,a,b,c⟩:=o;simp only at h7;subst h7;have:(W4 a&&(decide (1<=b)&&decide (b<=20))&&(c==(0:Int)))=true:=ho;simp only[Xi,Wi]at this
 grind [WI,I64]
theorem WlP{N:Nat}{l:List Opn}{i:Nat}(hl:l.length<=24)(hN:1048576<N)(hi:i<l.length)(ho:Wdx l[i]=true)(h7:l[i].1=7):Zj4 N l (i:Int)=ret (WhE l i l[i]):=by
 obtain⟨e1,h1,h2⟩:=Woa hl hi ho h7;unfold Zj4 WhE;simp only[Wu hi,Wa,Ww hi,WJ hi,e1,Wm (show i<4611686018427387904 by omega)];by_cases h:i+1+l[i].2.2.1.toNat<=l.length
 .have e:decide (((i+1+l[i].2.2.1.toNat:Nat):Int)>Wh l)=false:=by simp[Wh];omega
  rw[e];simp only[Wc];rw[Wno (by omega) h (by omega) hN];simp[h]
 grind [decide,Wh]
theorem Wne{l:List Opn}:bal l=true↔(∀i,i<l.length->0<=dep l (i+1))/\dep l l.length=0:=by
 unfold bal;rw[Xi,Xao,←Xfk,WfW,Wi];simp_all
theorem Wmm(l:List Opn):(!Wnv (Wtc l) 0 l&&decide (dep l l.length=0))=(bal l&& !Wnv (WpD l) 0 l):=by
 rw[Bool.eq_iff_iff,Xi,Xi,Xao,Xao,←Xfk,←Xfk,WfW,WfW,Wne,Wi];constructor
 .rintro⟨h1,h2⟩;have hd:∀i,i<l.length->0<=dep l (i+1):=λi hi=>by
   grind [dep,absurd,Wtc]
  refine⟨⟨hd,h2⟩,?_⟩;rintro⟨i,hi,h⟩;refine h1 ⟨i,hi,?_⟩;have hdi:0<=dep l i:=by
   cases i with
   |zero=>rw[WcX];omega
   |succ i=>grind
  rw[Xat]at h⊢;unfold WpD at h;unfold Wtc
  grind
 simp_all [Xat,Wtc,WpD,Xcr,Xi,Wi,Xao,Wp]
theorem Whf{N:Nat}{l:List Opn}(hl:l.length<=1048576)(hN:1048576<N):Zia N l=ret (Wo3 l):=by
 unfold Zia Wo3;by_cases h:l.length<=24
 .have e:decide (Wh l>24)=false:=by simp[Wh];omega
  rw[e];simp only[Wc];have h1:=Wy (l:=l) (V:=Unit) (R:=Unit×Kq) (lp:=λn j _=>Zaw N l (some ((),(false,()))) (λqb ku gy fu=>some ((),(qb==(0:Int),()))) n (dep l j.toNat) ((frk l j.toNat:Nat):Int) j) (n:=N) (by omega)
   (body:=λj x v k=>bif Wtc l j.toNat x then some ((),(false,()))else k v) (K:=λj _=>some ((),(dep l j.toNat==(0:Int),())))
   (λn i v hi=>by
    have hb:=Wcs l i;have hs:=Wat hi;have hf:=Whz hi;have gu:=Ws6 l i;have e3:Wj .i64 (dep l i) 1=dep l i+1:=WI (by unfold I64;omega);have e4:WV .i64 (dep l i) 1=dep l i+ -1:=by grind [WQ,I64]
    have e5:Wj .i64 ((frk l i:Nat):Int) 1=((frk l i+1:Nat):Int):=by grind [WI,I64]
    simp only[Zaw,WG hi,Wu hi,Ww hi,WJ hi,Wm (show i<4611686018427387904 by omega),Wa,Xk,Wcy,ret,Xd,e3,e4,e5];unfold Wtc;cases ho:Wdx l[i]with
    |false=>rfl
    |true=>
     unfold opd at hs;simp only[Xo,Wc,Xez];by_cases h8:l[i].1=8
     .simp_all
     .have b8:(l[i].1==8)=false:=by simp[h8]
      by_cases h9:l[i].1=9
      .simp_all
      .have b9:(l[i].1==9)=false:=by simp[h9]
       by_cases h7:l[i].1=7
       .have b7:(l[i].1==7)=true:=by simp[h7]
        have ca:(l[i].1==11)=false:=by simp[h7]
        have tS:=WlP h hN hi ho h7;simp only[b8,b9,b7,ca,Wa,Wc,Xfj,Xbd,Xeq,Xbv,Bool.or_false,Int.add_zero,tS,ret,Xd]at hs hf⊢;simp only[hs,hf];cases WhE l i l[i]<;>rfl
       grind)
   (λn v=>by simp[Zaw,WP,Xl,Wc]) ()
  have e0:dep l (Xa 0)=0:=WcX l;have e1:((frk l (Xa 0):Nat):Int)=0:=by simp[frk]
  simp only[e0,e1]at h1;refine h1.trans ?_;rw[Wdo (p:=Wtc l) (E:=λ_=>some ((),(false,()))) l 0 () (λj x v k _=>by rw[Xk])];rw[Xat,Xk,WuE,←Wmm];simp only[h,decide_true,Xbv];cases Wnv (Wtc l) 0 l<;>rfl
 grind [decide,Wh]
theorem WgQ{N:Nat}{l:List Opn}(hl:l.length<=1048576)(hN:1048576<N):Zde N l=ret (Wo3 l):=by
 unfold Zde Wo3;by_cases h:l.length<=24
 .have e:decide (Wh l>24)=false:=by simp[Wh];omega
  rw[e];simp only[Wc,WhX hl hN,ret,Xd,h,decide_true,Xbv];cases nR:bal l with
  |false=>rfl
  |true=>
   simp only[Xo,Wc,Xbv];have h1:=Wy (l:=l) (V:=Unit) (R:=Unit×Kq) (lp:=λn j _=>Zbu N l (some ((),(false,()))) (λkx oN t22=>some ((),(true,()))) n ((frk l j.toNat:Nat):Int) j) (n:=N) (by omega)
    (body:=λj x v k=>bif WpD l j.toNat x then some ((),(false,()))else k v) (K:=λj _=>some ((),(true,())))
    (λn i v hi=>by
     have hf:=Whz hi;have gu:=Ws6 l i;have e5:Wj .i64 ((frk l i:Nat):Int) 1=((frk l i+1:Nat):Int):=by grind [WI,I64]
     simp only[Zbu,WG hi,Wu hi,Ww hi,WJ hi,Wa,Xk,WeO,ret,Xd,e5];unfold WpD;cases ho:Wdx l[i]with
     |false=>rfl
     |true=>
      simp only[Xo,Wc,Xez];by_cases h7:l[i].1=7
      .have b7:(l[i].1==7)=true:=by simp[h7]
       have ca:(l[i].1==11)=false:=by simp[h7]
       obtain⟨en,h1,h2⟩:=Woa h hi ho h7;simp only[b7,ca,Wa,en,Wm (show i<4611686018427387904 by omega),Xfj,Xbd,Xeq,Xbv,Bool.or_false]at hf⊢;simp only[hf];unfold WhE;by_cases hq:i+1+l[i].2.2.1.toNat<=l.length
       .have q1:decide (((i+1+l[i].2.2.1.toNat:Nat):Int)>Wh l)=false:=by simp[Wh];omega
        have q2:(((decide ((0:Int)<=((i+1+l[i].2.2.1.toNat:Nat):Int)))&&(decide (((i+1+l[i].2.2.1.toNat:Nat):Int)<=((Xb l):Int))))&&(decide ((0:Int)<=((i+1:Nat):Int)))&&(decide (((i+1:Nat):Int)<=((i+1+l[i].2.2.1.toNat:Nat):Int))))=true:=by simp;omega
        rw[q1,q2];simp only[Wc,Wa,Xk];rw[WhX (by simp;omega) hN];simp_all
       grind [decide,Wh]
      .have b7:(l[i].1==7)=false:=by simp[h7]
       by_cases fT:l[i].1=11
       .have ca:(l[i].1==11)=true:=by simp[fT]
        simp only[b7,ca,Wa,Wc,Bool.toNat_true,Xeq,Xbv,Xez,Wk6 hl hN (Nat.le_of_lt hi),ret,Xd,Wm (show i<4611686018427387904 by omega)]at hf⊢;simp only[hf];have ef:decide (((frk l i+1:Nat):Int)>1)=decide (frk l i+1>1):=by grind
        have e0:(dep l i !=0)= !decide (dep l i=0):=by rw[bne,WuE]
        rw[ef,e0];cases decide (frk l i+1>1)<;>cases decide (dep l i=0)<;>rfl
       .have ca:(l[i].1==11)=false:=by simp[fT]
        simp only[b7,ca,Wa,Wc,Xfj,Xbd,Xeq,Xez,Wm (show i<4611686018427387904 by omega)]at hf⊢;simp_all)
    (λn v=>by simp[Zbu,WP,Xl,Wc]) ()
   have e1:((frk l (Xa 0):Nat):Int)=0:=by simp[frk]
   simp only[e1]at h1;refine h1.trans ?_;rw[Wdo (p:=WpD l) (E:=λ_=>some ((),(false,()))) l 0 () (λj x v k _=>by rw[Xk])];cases Wnv (WpD l) 0 l<;>rfl
 grind [decide,Wh]
end
section
def stk(l:List Opn):Nat->List Nat
 |0=>[]
 |j+1=>bif (l.getD j (0,0,0,0)).1==8 then stk l j++ [j]else bif (l.getD j (0,0,0,0)).1==9 then(stk l j).dropLast else stk l j
theorem WkI{l:List Opn}{j:Nat}(h:j<l.length)(h8:l[j].1=8):stk l (j+1)=stk l j++ [j]:=by
 grind [stk,WJ]
theorem WmF{l:List Opn}{j:Nat}(h:j<l.length)(h9:l[j].1=9):stk l (j+1)=(stk l j).dropLast:=by
 grind [stk,WJ]
theorem Wgj{l:List Opn}{j:Nat}(h:j<l.length)(h8:l[j].1≠8)(h9:l[j].1≠9):stk l (j+1)=stk l j:=by
 grind [stk,WJ]
theorem Wr5{o:Opn}(h:o.1=8):opd o=1:=by unfold opd;simp[h]
theorem Wka{o:Opn}(h:o.1=9):opd o= -1:=by unfold opd;simp[h]
theorem Wsr{o:Opn}(h8:o.1≠8)(h9:o.1≠9):opd o=0:=by
 grind [opd]
theorem WbP{α:Type}(l:List α):l= []\/∃q x,l=q++ [x]:=by
 rcases List.eq_nil_or_concat l with h|⟨q,x,h⟩
 .grind
 simp_all
def Up(l:List Opn):Prop:=∀i,i<l.length->0<=dep l (i+1)
theorem Up.at{l:List Opn}(h:Up l){j:Nat}(hj:j<=l.length):0<=dep l j:=by
 cases j with
 |zero=>rw[WcX];omega
 |succ j=>exact h j hj
theorem WaT{l:List Opn}(h:Up l):∀j,j<=l.length->((stk l j).length:Int)=dep l j
 |0,_=>by rw[WcX];rfl
 |j+1,hj=>by
  have hj':j<l.length:=hj;have ih:=WaT h j (by omega);have hd:=Wat hj';have hu:=h j hj'
  grind [WkI,Wr5,Xw,WmF,Wka,Xcz,Wgj,Wsr]
theorem WkG{l:List Opn}:∀(j:Nat),j<=l.length->∀(s t:List Nat) (m:Nat),stk l j=s++m::t->
  m<j/\(∃h:m<l.length,l[m].1=8)/\stk l m=s/\∀i,m<i->i<=j->∃t',stk l i=s++m::t'
 |0,_,s,t,m,h=>by simp[stk]at h
 |j+1,hj,s,t,m,h=>by
  have hj':j<l.length:=hj;have ih:=WkG (l:=l) j (by omega);have next:∀t0,stk l j=s++m::t0->m<j+1/\(∃h:m<l.length,l[m].1=8)/\stk l m=s/\∀i,m<i->i<=j+1->∃t',stk l i=s++m::t':=λt0 h0=>by
   grind
  by_cases h8:l[j].1=8
  .rw[WkI hj' h8]at h;rcases WbP t with rfl|⟨t0,x,rfl⟩
   .obtain⟨e1,e2⟩:=Xed (h:stk l j++ [j]=s++ [m]) rfl
    grind [WkI]
   .have h2:stk l j++ [j]=(s++m::t0)++ [x]:=by rw[h,Xaw,Xbb]
    obtain⟨e1,e2⟩:=Xed h2 rfl
    grind [stk,WkI]
  .by_cases h9:l[j].1=9
   .rw[WmF hj' h9]at h;rcases WbP (stk l j)with h0|⟨q,x,hq⟩
    .simp_all
    simp_all
   grind [Wgj]
theorem Woy{l:List Opn}{a b:Nat}(fL:a<=b)(hb:b<=l.length)(nR:bal ((l.take b).drop a)=true):stk l b=stk l a:=by
 obtain⟨h1,h2⟩:=Wne.1 nR;have hlen:((l.take b).drop a).length=b-a:=by simp;omega
 have key:∀i,i<=b-a->∃t,stk l (a+i)=stk l a++t/\(t.length:Int)=dep ((l.take b).drop a) i:=by
  intro i
  induction i with
  |zero=>simp[WcX]
  |succ i ih=>
   intro hi;obtain⟨t,tT,tU⟩:=ih (by omega);have eA:a+i<l.length:=by omega
   have pW:i<((l.take b).drop a).length:=by omega
   have hd:=Wat pW;have ei:((l.take b).drop a)[i]=l[a+i]:=by simp
   rw[ei]at hd;have hu:=h1 i pW;by_cases h8:l[a+i].1=8
   .grind [Xay,WkI,Wr5,Xw]
   .by_cases h9:l[a+i].1=9
    .grind [Wka,Xay,WmF,List.dropLast_append_of_ne_nil,Xcz]
    grind [Xay,Wgj,Wsr]
 obtain⟨t,tT,tU⟩:=key (b-a) (Xl _);simp_all
structure Mate(l:List Opn)(m k:Nat):Prop where
 lt:m<k
 len:k<l.length
 eq:dep l (k+1)=dep l m
 ne:∀i,m<=i->i<k->dep l (i+1)≠dep l m
 st:stk l (k+1)=stk l m
theorem Wtu{l:List Opn}(hu:Up l)(h0:dep l l.length=0){j m:Nat}{s:List Nat}(hj:j<=l.length)(hs:stk l j=s++ [m]):∃k,j<=k/\Mate l m k/\stk l m=s:=by
 obtain⟨a,⟨hm,h8⟩,c,d⟩:=WkG j hj s [] m hs;have lX:=WaT hu m (by omega);have low:∀i,m<=i->i<j->dep l (i+1)≠dep l m:=λi h1 h2=>by
  grind [WaT]
 have cW:=hu.at (show m<=l.length by omega);have ex:∀n i,l.length-i=n->j<=i->i<=l.length->(∀i',m<=i'->i'<i->dep l (i'+1)≠dep l m)->dep l m<dep l i->∃k,j<=k/\k<l.length/\dep l (k+1)=dep l m/\∀i',m<=i'->i'<k->dep l (i'+1)≠dep l m:=by
  intro n
  induction n with
  |zero=>grind
  |succ n ih=>
   intro i h1 h2 h3 h4 h5;have eA:i<l.length:=by omega
   by_cases he:dep l (i+1)=dep l m
   .grind
   .have hd:=Wat eA;have ho:=WiE l[i]
    grind
 have kh:dep l m<dep l j:=by
  grind [WaT]
 obtain⟨k,k1,k2,k3,k4⟩:=ex _ j rfl (Xl _) hj low kh;have mJ:m<k:=by omega
 have pre:∀n i,i=m+1+n->i<=k->∃t,stk l i=s++m::t:=by
  intro n
  induction n with
  |zero=>grind
  |succ n ih=>
   intro i h1 h2;obtain⟨t,ht⟩:=ih (m+1+n) rfl (by omega);have e:i=(m+1+n)+1:=by omega
   have eA:m+1+n<l.length:=by omega
   by_cases g8:l[m+1+n].1=8
   .grind [WkI]
   .by_cases g9:l[m+1+n].1=9
    .rcases WbP t with rfl|⟨t0,x,rfl⟩
     .grind [WmF,stk,WaT]
     grind [WmF,Xem]
    grind [Wgj]
 obtain⟨t,ht⟩:=pre (k-m-1) k (by omega) (Xl _);have rY:=WaT hu k (by omega);have tV:=Wat k2;rw[ht]at rY;rw[c]at lX;simp at rY;have ci:=WiE l[k];have g9:l[k].1=9:=by
  grind [Wr5,Wsr]
 have tW:t= []:=List.eq_nil_of_length_eq_zero (by omega);subst tW;refine⟨k,k1,⟨mJ,k2,k3,k4,?_⟩,c⟩
 grind [WmF]
theorem Wkn{l:List Opn}{m i:Nat}:((dep l (i+1) -dep l m)==(0:Int))=decide (dep l (i+1)=dep l m):=by
 grind
theorem WhG{N:Nat}{l:List Opn}{m k:Nat}(hl:l.length<=1048576)(hN:1048576<N)(h8:∃h:m<l.length,l[m].1=8)(hm:Mate l m k):Zjd N l (m:Int)=ret (k:Int):=by
 obtain⟨jW,h8⟩:=h8;unfold Zjd;have e1:WV .i64 (Wh l) 1=(l.length:Int) -1:=WQ (by unfold I64 Wh;omega);have e2:(decide (0<=(m:Int))&&decide ((m:Int)<=(l.length:Int) -1))=true:=by simp;omega
 have e3:(l[m].1 !=8)=false:=by simp[h8]
 simp only[WX,ret,Xd,e1,e2,Xo,Wc,Wu jW,Wa,Ww jW,e3];have key:∀(c n i:Nat),k-i=c->m<=i->i<=k->l.length-i<n->∀{R:Type} (K0:Int->Option R) (K1:Int->Int->Bool->Option R),Ze3 N l K0 K1 n (dep l i-dep l m) (i:Int)=K0 k:=by
  intro c
  induction c with
  |zero=>
   intro n i h1 h2 h3 h4 R K0 K1;have:i=k:=by omega
   subst this;cases n with
   |zero=>omega
   |succ n=>
    have eA:=hm.len;have hd:=Wat eA;have hb:=Wcs l i;have gU:=Wcs l m;have ho:=WiE l[i];have e:Wj .i64 (dep l i-dep l m) (opd l[i])=dep l (i+1) -dep l m:=by grind [WI,I64]
    simp only[Ze3,WG eA,Wu eA,Ww eA,Wa,Wgc,ret,Xd,e];rw[Wkn];simp[hm.eq]
  |succ c ih=>
   intro n i h1 h2 h3 h4 R K0 K1;cases n with
   |zero=>omega
   |succ n=>
    have hk:=hm.len;have eA:i<l.length:=by omega
    have hd:=Wat eA;have hb:=Wcs l i;have gU:=Wcs l m;have ho:=WiE l[i];have e:Wj .i64 (dep l i-dep l m) (opd l[i])=dep l (i+1) -dep l m:=by grind [WI,I64]
    have hne:=hm.ne i h2 (by omega);simp only[Ze3,WG eA,Wu eA,Ww eA,Wa,Wgc,ret,Xd,e,Wkn,hne,decide_false,Wc,Wm (show i<4611686018427387904 by omega)];exact ih n (i+1) (by omega) (by omega) (by omega) (by omega) K0 K1
 have:=key (k-m) N m rfl (Xl _) (by have:=hm.lt;omega) (by omega) (R:=Unit×Kh) (λaU=>some ((),(aU,()))) (λmt rU gz=>some ((),((-1:Int),())));simp_all
theorem Wh5{N:Nat}{l:List Opn}{m k:Nat}(hl:l.length<=1048576)(hN:1048576<N)(h8:∃h:m<l.length,l[m].1=8)(hm:Mate l m k):Zjb N l (m:Int)=ret (k:Int):=by
 obtain⟨jW,h8⟩:=h8;unfold Zjb;have e1:decide ((m:Int)<0)=false:=by simp
 have e2:decide ((m:Int)>=Wh l)=false:=by simp[Wh];omega
 have e3:(l[m].1 !=8)=false:=by simp[h8]
 simp only[e1,e2,Wc,Wu jW,Wa,Ww jW,e3];have step:∀(n i:Nat) (eA:i<l.length) {R:Type} (K0:Int->Option R) (K1:Int->Int->Bool->Option R),m<=i->Za3 N l K0 K1 (n+1) (dep l i-dep l m) (i:Int)=
   bif decide (dep l (i+1)=dep l m)then K0 i else Za3 N l K0 K1 n (dep l (i+1) -dep l m) ((i+1:Nat):Int):=by
  intro n i eA R K0 K1 oH;have hd:=Wat eA;have hb:=Wcs l i;have gU:=Wcs l m;have s1:Wj .i64 (dep l i-dep l m) 1=dep l i-dep l m+1:=WI (by unfold I64;omega);have s2:WV .i64 (dep l i-dep l m) 1=dep l i-dep l m-1:=WQ (by unfold I64;omega);simp only[Za3,WG eA,Wu eA,Ww eA,Wa,Wm (show i<4611686018427387904 by omega),s1,s2];by_cases g8:l[i].1=8
  .have b8:(l[i].1==8)=true:=by simp[g8]
   have b9:(l[i].1==9)=false:=by simp[g8]
   have e:dep l i-dep l m+1=dep l (i+1) -dep l m:=by grind [Wr5]
   grind
  .have b8:(l[i].1==8)=false:=by simp[g8]
   by_cases g9:l[i].1=9
   .have b9:(l[i].1==9)=true:=by simp[g9]
    have e:dep l i-dep l m-1=dep l (i+1) -dep l m:=by grind [Wka]
    grind
   .have b9:(l[i].1==9)=false:=by simp[g9]
    have e:dep l i-dep l m=dep l (i+1) -dep l m:=by grind [Wsr]
    simp only[b8,b9,Wa,Wc];rw[e,Wkn]
 have key:∀(c n i:Nat),k-i=c->m<=i->i<=k->l.length-i<n->∀{R:Type} (K0:Int->Option R) (K1:Int->Int->Bool->Option R),Za3 N l K0 K1 n (dep l i-dep l m) (i:Int)=K0 k:=by
  intro c
  induction c with
  |zero=>
   intro n i h1 h2 h3 h4 R K0 K1;have:i=k:=by omega
   subst this;cases n with
   |zero=>omega
   |succ n=>rw[step n i hm.len K0 K1 h2];simp[hm.eq]
  |succ c ih=>
   intro n i h1 h2 h3 h4 R K0 K1;cases n with
   |zero=>omega
   |succ n=>
    have hk:=hm.len;have hne:=hm.ne i h2 (by omega);rw[step n i (by omega) K0 K1 h2];simp only[hne,decide_false,Wc];exact ih n (i+1) (by omega) (by omega) (by omega) (by omega) K0 K1
 have:=key (k-m) N m rfl (Xl _) (by have:=hm.lt;omega) (by omega) (R:=Unit×Kh) (λaU=>some ((),(aU,()))) (λmt rU gz=>some ((),((-1:Int),())));simp_all
end
section
theorem Woz{N:Nat}{o:Opn}:∃t:Int,Zbc N o=ret t/\Zip N o=ret t:=by
 unfold Zbc Zip;rw[Wcy,WeO];simp only[ret,Xd];cases Wdx o
 .simp_all
 .cases o.1==5<;>cases o.1==6<;>cases o.1==12<;>cases o.1==13<;>cases o.1==14<;>cases o.1==15<;>cases o.1==16<;>exact⟨_,rfl,rfl⟩
noncomputable def Wi8(o:Opn):Int:=match Zbc 0 o with|some (_,(t,_))=>t|none=>0
theorem Wug{N:Nat}{o:Opn}:Zbc N o=Zbc 0 o:=by
 unfold Zbc;rw[Wcy,Wcy]
theorem Wby{N:Nat}{o:Opn}:Zbc N o=ret (Wi8 o):=by
 rw[Wug];obtain⟨t,h,_⟩:=Woz (N:=0) (o:=o);unfold Wi8;rw[h]
theorem WfL{N:Nat}{o:Opn}:Zip N o=ret (Wi8 o):=by
 obtain⟨t,h,h2⟩:=Woz (N:=N) (o:=o);rw[h2,←h,Wby]
noncomputable def WfR(o:Opn):Bool:=(o.1==11)||(Wi8 o==2)
noncomputable def Wgs(l:List Opn):Bool:=Wo3 l&& !l.any WfR
theorem WgX{N:Nat}{l:List Opn}(hl:l.length<=1048576)(hN:1048576<N):Zg3 N l=ret (l.any λo=>o.1==11):=by
 unfold Zg3;have h1:=Wy (l:=l) (V:=Unit) (R:=Unit×Kq) (lp:=λn j v=>Zcs N l (some ((),(true,()))) (λi8 t9=>some ((),(false,()))) n j) (n:=N) (by omega)
  (body:=λj x v k=>bif x.1==11 then some ((),(true,()))else k v) (K:=λ_ v=>some ((),(false,())))
  (λn i v hi=>by simp only[Zcs,WG hi,Wu hi,Ww hi,Wm (show i<4611686018427387904 by omega),Wa])
  (λn v=>by simp[Zcs,WP,Xl,Wc]) ()
 refine h1.trans ?_;rw[W3 (p:=λx:Opn=>x.1==11) (E:=λ_=>some ((),(true,()))) l 0 () (λj x v k _=>rfl)];cases l.any λo:Opn=>o.1==11<;>rfl
theorem WnL{N:Nat}{l:List Opn}(hl:l.length<=1048576)(hN:1048576<N):Zja N l=ret (Wgs l):=by
 unfold Zja Wgs;simp only[Whf hl hN,ret,Xd];cases Wo3 l with
 |false=>rfl
 |true=>
  simp only[WgX hl hN,ret,Xd,Xo,Wc,Xbv];have h1:=Wy (l:=l) (V:=Unit) (R:=Unit×Kq) (lp:=λn j v=>Zey N l (some ((),(false,()))) (λi8 t9=>some ((),(true,()))) n j) (n:=N) (by omega)
   (body:=λj x v k=>bif Wi8 x==2 then some ((),(false,()))else k v) (K:=λ_ v=>some ((),(true,())))
   (λn i v hi=>by simp only[Zey,WG hi,Wu hi,Ww hi,Wm (show i<4611686018427387904 by omega),Wa,Wby,ret,Xd])
   (λn v=>by simp[Zey,WP,Xl,Wc]) ()
  (try simp only[]at h1)
  rw[h1,W3 (p:=λx=>Wi8 x==2) (E:=λ_=>some ((),(false,()))) l 0 () (λj x v k _=>rfl)];have e:l.any WfR=((l.any λo=>o.1==11)||l.any λo=>Wi8 o==2):=by
   grind [WfR,Wi8]
  rw[e];cases l.any λo:Opn=>o.1==11<;>cases l.any λo=>Wi8 o==2<;>rfl
theorem Wm5{N:Nat}{l:List Opn}(hl:l.length<=1048576)(hN:1048576<N):Zjc N l=ret (Wgs l):=by
 unfold Zjc Wgs;have h1:=Wy (l:=l) (V:=Unit) (R:=Unit×Kq) (lp:=λn j v=>Ze0 N l (some ((),(false,()))) (λaw aB=>((Zde N l).bind λbL=>(some ((),(bL.2.1,()))))) n j) (n:=N) (by omega)
  (body:=λj x v k=>bif WfR x then some ((),(false,()))else k v) (K:=λ_ v=>ret (Wo3 l))
  (λn i v hi=>by
   simp only[Ze0,WG hi,Wu hi,Ww hi,Wm (show i<4611686018427387904 by omega),Wa,WfL,ret,Xd,WfR];cases l[i].1==11<;>rfl)
  (λn v=>by simp_all [Ze0,WP,Xl,Wc,WgQ,ret,Xd]) ()
 refine h1.trans ?_;rw[W3 (p:=WfR) (E:=λ_=>some ((),(false,()))) l 0 () (λj x v k _=>rfl)];cases l.any WfR<;>cases Wo3 l<;>rfl
def Wco(l:List Int):Bool:=decide (l.length=4)&&l.all WaZ
theorem Wc1{N:Nat}{l:List Int}(hl:l.length<=1048576)(hN:1048576<N):Zcc N l=ret (Wco l):=by
 unfold Zcc Wco;by_cases h:l.length=4
 .have e:(Wh l !=4)=false:=by simp[Wh,h]
  rw[e];simp only[Wc];have h1:=Wy (l:=l) (V:=Unit) (R:=Unit×Kq) (lp:=λn j v=>Zdv N l (some ((),(false,()))) (λi8 t9=>some ((),(true,()))) n j) (n:=N) (by omega)
   (body:=λj x v k=>bif !WaZ x then some ((),(false,()))else k v) (K:=λ_ v=>some ((),(true,())))
   (λn i v hi=>by simp only[Zdv,WG hi,Wu hi,Ww hi,Wm (show i<4611686018427387904 by omega),Wa,Waf,ret,Xd])
   (λn v=>by simp[Zdv,WP,Xl,Wc]) ()
  refine h1.trans ?_;rw[W3 (p:=λx=>!WaZ x) (E:=λ_=>some ((),(false,()))) l 0 () (λj x v k _=>rfl),Wa4];cases l.all WaZ<;>simp[h]
 grind [Wh]
theorem WcW{N:Nat}{l:List Int}(hl:l.length<=1048576)(hN:1048576<N):Z8 N l 4=ret (Wco l):=by
 unfold Z8 Wco;have h1:=Wy (l:=l) (V:=Unit) (R:=Unit×Kq) (lp:=λn j v=>Zap N l 4 (some ((),(false,()))) (λi8 t9=>some ((),((Wh l)==(4:Int),()))) n j) (n:=N) (by omega)
  (body:=λj x v k=>bif !WaZ x then some ((),(false,()))else k v) (K:=λ_ v=>some ((),((Wh l)==(4:Int),())))
  (λn i v hi=>by simp only[Zap,WG hi,Wu hi,Ww hi,Wm (show i<4611686018427387904 by omega),Wa,Was,ret,Xd])
  (λn v=>by simp[Zap,WP,Xl,Wc]) ()
 refine h1.trans ?_;rw[W3 (p:=λx=>!WaZ x) (E:=λ_=>some ((),(false,()))) l 0 () (λj x v k _=>rfl),Wa4];have e:((Wh l)==(4:Int))=decide (l.length=4):=by
  grind [Wh]
 rw[e];cases l.all WaZ<;>simp
end
section
section
variable{o:Opn}
theorem Wn3(h:Wdx o=true)(h1:1<=o.1)(h4:o.1<=4):W4 o.2.1=true/\(o.1=1->WaZ o.2.2.1=true)/\(o.1≠1->W4 o.2.2.1=true/\W4 o.2.2.2=true):=by
 obtain⟨k,a,b,c⟩:=o;simp only at h1 h4;have:k=1\/k=2\/k=3\/k=4:=by omega
 rcases this with rfl|rfl|rfl|rfl
 .have:(W4 a&&WaZ b&&(c==(0:Int)))=true:=h;simp_all
 all_goals
  have:(W4 a&&W4 b&&W4 c)=true:=h;simp_all
theorem Wt6(h:Wdx o=true)(h5:o.1=5):W4 o.2.1=true/\Wam o.2.2.1=true:=by
 obtain⟨k,a,b,c⟩:=o;simp only at h5;subst h5;have:(W4 a&&Wam b&&(c==(0:Int)))=true:=h;simp_all
theorem Wua(h:Wdx o=true)(h5:o.1=6):Wam o.2.1=true/\W4 o.2.2.1=true:=by
 obtain⟨k,a,b,c⟩:=o;simp only at h5;subst h5;have:(Wam a&&W4 b&&(c==(0:Int)))=true:=h;simp_all
theorem Wt9(h:Wdx o=true)(h5:o.1=7):W4 o.2.1=true/\1<=o.2.2.1/\o.2.2.1<=20:=by
 obtain⟨k,a,b,c⟩:=o;simp only at h5;subst h5;have:(W4 a&&(decide (1<=b)&&decide (b<=20))&&(c==(0:Int)))=true:=h;simp_all
theorem Wto(h:Wdx o=true)(h5:o.1=8):W4 o.2.1=true:=by
 obtain⟨k,a,b,c⟩:=o;simp only at h5;subst h5;have:(W4 a&&(b==(0:Int))&&(c==(0:Int)))=true:=h;simp_all
theorem Wjd(h:Wdx o=true):1<=o.1/\o.1<=16:=by
 by_cases hk:1<=o.1/\o.1<=16
 .exact hk
 .exfalso;have e:∀n:Int,1<=n->n<=16->(o.1==n)=false:=λn h1 h2=>by simp;omega
  simp_all [Wdx]
end
theorem WR{x:Int}{l:List Int}(h:W4 x=true)(hl:l.length=4):inb x l.length=true:=by
 grind [W4,inb]
structure Vals(n:Nat)(l:List Int):Prop where
 len:l.length=n
 val:∀x∈l,0<=x/\x<=65535
theorem Vals.get{n:Nat}{l:List Int}(h:Vals n l)(i:Nat):0<=l.getD i 0/\l.getD i 0<=65535:=by
 by_cases hi:i<l.length
 .rw[WJ hi];exact h.val _ (Xab hi)
 simp_all
theorem Vals.set{n:Nat}{l:List Int}(h:Vals n l)(i:Nat){x:Int}(hx:0<=x/\x<=65535):Vals n (l.set i x):=
 ⟨by rw[Xav];exact h.len,λy hy=>by
  rcases List.mem_or_eq_of_mem_set hy with hy|hy
  .exact h.val y hy
  omega⟩
theorem Wai{x:Int}:WaZ x=true↔0<=x/\x<=65535:=by unfold WaZ;simp
theorem WbZ{l:List Int}:Wco l=true↔Vals 4 l:=by
 unfold Wco;rw[Xi,Wi,Xae];exact⟨λh=>⟨h.1,λx hx=>Wai.1 (h.2 x hx)⟩,λh=>⟨h.len,λx hx=>Wai.2 (h.val x hx)⟩⟩
theorem Wj5{l:List Int}:WcP l=true↔Vals 8 l:=by
 unfold WcP;rw[Xi,Wi,Xae];exact⟨λh=>⟨h.1,λx hx=>Wai.1 (h.2 x hx)⟩,λh=>⟨h.len,λx hx=>Wai.2 (h.val x hx)⟩⟩
def WmG(o:Opn)(r:List Int):List Int:=
 bif o.1==1 then r.set o.2.1.toNat o.2.2.1 else
 bif o.1==2 then r.set o.2.1.toNat ((r.getD o.2.2.1.toNat 0+r.getD o.2.2.2.toNat 0)%65536)else
 bif o.1==3 then r.set o.2.1.toNat ((r.getD o.2.2.1.toNat 0-r.getD o.2.2.2.toNat 0+65536)%65536)else
 bif decide (r.getD o.2.2.1.toNat 0<r.getD o.2.2.2.toNat 0)then r.set o.2.1.toNat 1 else r.set o.2.1.toNat 0
theorem War{x:Int}(h:0<=x):Wgg x 65536=x%65536:=by grind [Wgg,Int.tmod_eq_emod_of_nonneg]
theorem WkB{o:Opn}{r:List Int}(h:Wdx o=true)(h1:1<=o.1)(h4:o.1<=4)(hr:Vals 4 r):Vals 4 (WmG o r):=by
 obtain⟨_,hv,_⟩:=Wn3 h h1 h4;unfold WmG;cases e1:o.1==1
 .cases o.1==2
  .cases o.1==3
   .cases decide (r.getD o.2.2.1.toNat 0<r.getD o.2.2.2.toNat 0)
    .exact hr.set _ (by omega)
    .exact hr.set _ (by omega)
   .exact hr.set _ (by omega)
  .exact hr.set _ (by omega)
 .exact hr.set _ (Wai.1 (hv (by simp_all)))
section
variable{N:Nat}{o:Opn}{r:List Int}
theorem WgZ(hN:1048576<N)(h:Wdx o=true)(h1:1<=o.1)(h4:o.1<=4)(hr:Vals 4 r):Zrm N o r=some ((),(WmG o r,(true,()))):=by
 obtain⟨ha,hv,qL⟩:=Wn3 h h1 h4;unfold Zrm Zm;have e0:Wz r.length=true:=Wt (by rw[hr.len];omega);have e4:decide (o.1>4)=false:=by simp;omega
 have e5:Wco r=true:=WbZ.2 hr;have ea:=WR ha hr.len;have ez:inz 65536=true:=rfl;have gb:=hr.get o.2.2.1.toNat;have gc:=hr.get o.2.2.2.toNat;simp only[e0,Wa,Xd,WeO,ret,h,Xo,Wc,e4,WcW (l:=r) (by rw[hr.len];omega) hN,e5,ea,ez];unfold WmG;by_cases k1:o.1=1
 .simp_all
 .have b:(o.1==1)=false:=by simp[k1]
  obtain⟨hb,hc⟩:=qL k1;rw[b];simp only[Wc,WR hb hr.len,WR hc hr.len,Wa,Xav,ea];have s1:Wj .i64 (r.getD o.2.2.1.toNat 0) (r.getD o.2.2.2.toNat 0)=r.getD o.2.2.1.toNat 0+r.getD o.2.2.2.toNat 0:=WI (by unfold I64;omega);have s2:WV .i64 (r.getD o.2.2.1.toNat 0) (r.getD o.2.2.2.toNat 0)=r.getD o.2.2.1.toNat 0-r.getD o.2.2.2.toNat 0:=WQ (by unfold I64;omega);have s3:Wj .i64 (r.getD o.2.2.1.toNat 0-r.getD o.2.2.2.toNat 0) 65536=r.getD o.2.2.1.toNat 0-r.getD o.2.2.2.toNat 0+65536:=WI (by unfold I64;omega);rw[s1,s2,s3,War (by omega),War (by omega)];cases o.1==2
  .cases o.1==3
   .simp only[Wc,Ws,Xcq];cases decide (r.getD o.2.2.1.toNat 0<r.getD o.2.2.2.toNat 0)<;>rfl
   .rfl
  .rfl
theorem Wg5(hN:1048576<N)(h:Wdx o=true)(h1:1<=o.1)(h4:o.1<=4)(hr:Vals 4 r):Zrl N o r=some ((),(WmG o r,(true,()))):=by
 obtain⟨ha,hv,qL⟩:=Wn3 h h1 h4;unfold Zrl;have e0:Wz (([]:List Int).length+r.length)=true:=Wt (by rw[hr.len];simp);have e4:decide (o.1>4)=false:=by simp;omega
 have e5:Wco r=true:=WbZ.2 hr;have ea:=WR ha hr.len;have ez:inz 65536=true:=rfl;have en:Xg ([]:List Int) r=r:=rfl;have gb:=hr.get o.2.2.1.toNat;have gc:=hr.get o.2.2.2.toNat;simp only[e0,Wa,Xd,Wcy,ret,h,Xo,Wc,e4,Wc1 (l:=r) (by rw[hr.len];omega) hN,e5,ea,ez,en];unfold WmG;by_cases k1:o.1=1
 .simp_all
 .have b:(o.1==1)=false:=by simp[k1]
  obtain⟨hb,hc⟩:=qL k1;rw[b];simp only[Wc,WR hb hr.len,WR hc hr.len,Wa,Xav,ea];have s1:Wj .i64 (r.getD o.2.2.1.toNat 0) (r.getD o.2.2.2.toNat 0)=r.getD o.2.2.1.toNat 0+r.getD o.2.2.2.toNat 0:=WI (by unfold I64;omega);have s2:WV .i64 (r.getD o.2.2.1.toNat 0) (r.getD o.2.2.2.toNat 0)=r.getD o.2.2.1.toNat 0-r.getD o.2.2.2.toNat 0:=WQ (by unfold I64;omega);have s3:Wj .i64 (r.getD o.2.2.1.toNat 0-r.getD o.2.2.2.toNat 0) 65536=r.getD o.2.2.1.toNat 0-r.getD o.2.2.2.toNat 0+65536:=WI (by unfold I64;omega);rw[s1,s2,s3,War (by omega),War (by omega)];cases o.1==2
  .cases o.1==3
   .simp only[Wc,Ws,Xcq];cases decide (r.getD o.2.2.1.toNat 0<r.getD o.2.2.2.toNat 0)<;>rfl
   .rfl
  .rfl
end
def Wjb(l:List Rw):Prop:=∀r∈l,(0<=r.1/\r.1<=7)/\0<=r.2/\r.2<=65535
theorem Whw{l:List Rw}:l.all WiG=true↔Wjb l:=by
 simp[Xae,Wjb,WiG,Wam,WaZ]
theorem Wkr{N:Nat}{l:List Int}(h:l.length<=1048576):Zha N l=ret l:=by
 simp_all [Zha,Xbp,Xat,WoK,Wa]
theorem Wcf{N:Nat}{l:List Int}(h:l.length<=1048576):Zm N l=ret l:=by
 simp_all [Zm,WoK,Wa]
end
section
structure Lin{α:Type}(cf:α->α->Int):Prop where
 irr:∀x,¬cf x x<0
 tr:∀x y z,cf x y<0->cf y z<0->cf x z<0
 nt:∀x y z,¬cf x y<0->¬cf y z<0->¬cf x z<0
theorem Ws7:Lin cfE:=⟨λx=>by unfold cfE;omega,λx y z=>by unfold cfE;omega,λx y z=>by unfold cfE;omega⟩
theorem Wn7:Lin cfH:=⟨λx=>by rw[Wa5];omega,λx y z=>by simp only[Wa5];omega,λx y z=>by simp only[Wa5];omega⟩
def Ris{α:Type}(cf:α->α->Int)(l:List α):Prop:=l.Pairwise λa b=>cf a b<0
def Wbl{α:Type}(cf:α->α->Int):List α->α->List α
 | [],e=>[e]
 |x::l,e=>if cf x e<0 then x::Wbl cf l e else if cf e x<0 then e::x::l else e::l
def Ap{α:Type}(cf:α->α->Int)(x y:α):Prop:=cf x y<0\/cf y x<0
variable{α:Type}{cf:α->α->Int}
theorem Lin.ap(h:Lin cf){x y:α}(hn:¬Ap cf x y){z:α}:(cf x z<0↔cf y z<0)/\(cf z x<0↔cf z y<0):=by
 unfold Ap at hn;refine⟨⟨λa=>?_,λa=>?_⟩,⟨λa=>?_,λa=>?_⟩⟩
 .exact Classical.byContradiction λc=>h.nt x y z (λq=>hn (.inl q)) c a
 .exact Classical.byContradiction λc=>h.nt y x z (λq=>hn (.inr q)) c a
 .exact Classical.byContradiction λc=>h.nt z y x c (λq=>hn (.inr q)) a
 .exact Classical.byContradiction λc=>h.nt z x y c (λq=>hn (.inl q)) a
theorem Wl3:∀(l:List α) (e:α),(Wbl cf l e).length<=l.length+1
 | [],e=>by simp[Wbl]
 |x::l,e=>by
  have:=Wl3 l e;unfold Wbl
  grind
theorem Wb4(hc:Lin cf){e x:α}:∀{l:List α},Ris cf l->(x∈Wbl cf l e↔x=e\/(x∈l/\Ap cf x e))
 | [],_=>by simp[Wbl]
 |y::l,h=>by
  have hl:=(Xt.1 h);unfold Wbl;by_cases h1:cf y e<0
  .rw[Wf h1,Xr,Wb4 hc hl.2,Xr];refine⟨?_,?_⟩
   .rintro(rfl|h|h)
    .exact .inr ⟨.inl rfl,.inl h1⟩
    .grind
    simp_all
   grind
  .rw[Wb h1];by_cases h2:cf e y<0
   .rw[Wf h2];simp only[Xr];refine⟨?_,?_⟩
    .rintro(h|rfl|h)
     .grind
     .exact .inr ⟨.inl rfl,.inr h2⟩
     .exact .inr ⟨.inr h,.inr (hc.tr _ _ _ h2 (hl.1 x h))⟩
    grind
   .rw[Wb h2];simp only[Xr];have hn:¬Ap cf y e:=by unfold Ap;omega
    refine⟨?_,?_⟩
    .rintro(h|h)
     .grind
     .exact .inr ⟨.inr h,.inr ((hc.ap hn).1.1 (hl.1 x h))⟩
    grind
theorem Wcd(hc:Lin cf){e:α}:∀{l:List α},Ris cf l->Ris cf (Wbl cf l e)
 | [],_=>by simp[Wbl,Ris]
 |y::l,h=>by
  have hl:=(Xt.1 h);unfold Wbl;by_cases h1:cf y e<0
  .rw[Wf h1];refine Xt.2 ⟨λx hx=>?_,Wcd hc hl.2⟩;rcases(Wb4 hc hl.2).1 hx with rfl|hx
   .exact h1
   simp_all
  .rw[Wb h1];by_cases h2:cf e y<0
   .rw[Wf h2];refine Xt.2 ⟨λx hx=>?_,h⟩;rcases Xr.1 hx with rfl|hx
    .exact h2
    .exact hc.tr _ _ _ h2 (hl.1 x hx)
   .rw[Wb h2];have hn:¬Ap cf y e:=by unfold Ap;omega
    exact Xt.2 ⟨λx hx=>(hc.ap hn).1.1 (hl.1 x hx),hl.2⟩
theorem Wny(hc:Lin cf){L M:List α}(hM:Ris cf M)(hL:L.Pairwise (Ap cf))(hm:∀x,x∈L↔x∈M):sortBy cf L=M:=by
 have hn:∀{l:List α},l.Pairwise (Ap cf)->l.Nodup:=λh=>h.imp λ{a b} fL=>by
  rintro rfl;unfold Ap at fL;have:=hc.irr a;omega
 have hM':M.Pairwise (Ap cf):=hM.imp λh=>.inl h;have hp:L.Perm M:=(List.perm_ext_iff_of_nodup (hn hL) (hn hM')).2 hm;unfold sortBy;have h1:=List.pairwise_mergeSort (le:=λx y=>!lessBy cf y x) (λa b c=>by
  simp only[lessBy,Xao,Wp]
  exactλh1 h2=>hc.nt _ _ _ h2 h1) (λa b=>by
  simp only[lessBy,Xcr,Xao,Wp];rcases Classical.em (cf b a<0)with h|h
  .exact .inr λh'=>hc.irr _ (hc.tr _ _ _ h h')
  omega) L
 refine List.Perm.eq_of_pairwise ?_ h1 (hM.imp λ{a b} h=>?_) ((Xgi _ _).trans hp)
 .intro a b ha hb h1 h2;simp only[lessBy,Xao,Wp]at h1 h2;have tX:a∈M:=(hm a).1 ((Xgi _ _).mem_iff.1 ha);obtain⟨i,hi,rfl⟩:=Xbu tX;obtain⟨j,hj,rfl⟩:=Xbu hb;rcases Nat.lt_trichotomy i j with h|h|h
  .exact WC (Xap.1 hM i j hi hj h) h2
  .grind
  .exact WC (Xap.1 hM j i hj hi h) h1
 .simp only[lessBy,Xao,Wp]
  exactλh'=>hc.irr _ (hc.tr _ _ _ h h')
theorem Wod{r:α->α->Bool}{R:α->α->Prop}(hr:∀a b,R a b->r a b=true):∀{l:List α},l.Pairwise R->Wle r l=true
 | [],_=>rfl
 |x::l,h=>by
  have:=Xt.1 h;simp only[Wle,Xi,Xae];exact⟨λy hy=>hr _ _ (this.1 y hy),Wod hr this.2⟩
theorem WoN(hc:Lin cf){rng:α->Bool}{N:Nat}{L M:List α}(hM:Ris cf M)(hL:L.Pairwise (Ap cf))(hm:∀x,x∈L↔x∈M)(hr:∀x∈L,rng x=true)(hl:L.length<=1048576):
  Zr8 rng cf N L=some ((M,()),()):=by
 grind [Zr8,Xae,Wod,Ap,apart,lessBy,decide_eq_true,Wny]
theorem WmJ(hc:Lin cf){L:List α}{e:α}{i:Nat}(hL:L.Pairwise (Ap cf))(hi:i<L.length)(hk:¬Ap cf L[i] e):(L.set i e).Pairwise (Ap cf)/\∀x,x∈L.set i e↔x=e\/(x∈L/\Ap cf x e):=by
 have qM:∀{z},Ap cf L[i] z↔Ap cf e z:=λ{z}=>by unfold Ap;rw[(hc.ap hk).1,(hc.ap hk).2]
 have tY:∀{a b:α},Ap cf a b->Ap cf b a:=λh=>h.symm;have hG:=Xap.1 hL;refine⟨?_,λx=>⟨λhx=>?_,?_⟩⟩
 .rw[Xap]
  grind
 .obtain⟨j,hj,rfl⟩:=Xbu hx
  grind
 .rintro(rfl|⟨hx,jj⟩)
  .grind [Xgh]
  .obtain⟨j,hj,rfl⟩:=Xbu hx;refine Xgh.2 ⟨j,by simp_all,?_⟩;rw[Xci,Wb]
   grind
theorem Wjw{L:List α}{e:α}(hL:L.Pairwise (Ap cf))(hk:∀x∈L,Ap cf x e):(L++ [e]).Pairwise (Ap cf)/\∀x,x∈L++ [e]↔x=e\/(x∈L/\Ap cf x e):=by
 grind
end
section
abbrev KM:=Int×Int×List Int
structure Kd where
 phase:Int:=0
 pc:Int:=0
 since:Int:=0
 tries:Int:=0
 pos:Int:=0
 out:Int:=0
 regs:List Int:=[]
 seen:List En:=[]
 writes:List Rw:=[]
 marks:List KM:=[]
 busy:Bool:=false
 pb:Pb:=(0,0,0,0)
def Kd.e(x:Kd):Y_KidRun:=(x.phase,x.pc,x.since,x.tries,x.pos,x.out,x.regs,x.seen,x.writes,x.marks,x.busy,x.pb)
structure Fm where
 rv:Int:=0
 clock:Int:=0
 owner:Int:=0
 lost:Bool:=false
 regs:List Int:=[]
 start:List Rw:=[]
 buf:List En:=[]
 order:List Int:=[]
 reads:List Rw:=[]
 kids:List Kd:=[]
def Fm.e(f:Fm):Y_Family:=(f.rv,f.clock,f.owner,f.lost,f.regs,f.start,f.buf,f.order,f.reads,f.kids.map Kd.e)
def zOp:Opn:=(0,0,0,0)
def opN(code:List Opn)(i:Int):Opn:=Xc code i.toNat zOp
def Wbt{α:Type}(l:List α)(i:Int)(d:α):α:=Xc l i.toNat d
def Wm2{α:Type}(l:List α)(i:Int)(x:α):List α:=Xe l i.toNat x
def Wga{α:Type}(l:List α)(d:α):α:=Xc l (l.length-1) d
def Wjc(l:List Opn)(m:Nat):Nat:=((Xdb l.length).find? λk=>decide (m<=k)&&decide (dep l (k+1)=dep l m)).getD 0
def Fm.again(f:Fm)(x:Kd):Kd:={since:=f.clock,tries:=x.tries+1,regs:=f.regs}
def Whn(m:Mm)(f:Fm)(x:Kd)(o:Opn):Fm×Kd:=
 match WbY x.writes o.2.2.1 with
 |some v=>(f,{x with regs:=Wm2 x.regs o.2.1 v,pc:=x.pc+1})
 |none=>match ent f.buf o.2.2.1 with
  |some r=>if r.2.2.2>x.since then(f,f.again x)else(f,{x with regs:=Wm2 x.regs o.2.1 r.2.2.1,seen:=x.seen++ [r.2],pc:=x.pc+1})
  |none=>
   let p:=WaD m f.rv (if x.busy then x.pb else(o.2.2.1,0,0,0))
   if p.2.1=4 then({f with lost:=true},{x with busy:=true,pb:=p})
   else if p.2.1=3 then(f,{x with regs:=Wm2 x.regs o.2.1 p.2.2.2,seen:=x.seen++ [(o.2.2.1,p.2.2.2,-1)],busy:=false,pb:=(0,0,0,0),pc:=x.pc+1})
   else(f,{x with busy:=true,pb:=p})
def Wjj(x:Kd)(code:List Opn):Kd:=
 if x.marks.length=0 then{x with writes:=[],out:=2,phase:=1}else
 let q:=Wga x.marks (0,0,[])
 {x with marks:=x.marks.dropLast,regs:=Wm2 q.2.2 (opN code q.1).2.1 0,writes:=x.writes.take q.2.1.toNat,pc:=Wjc code q.1.toNat+1}
def Woh(m:Mm)(f:Fm)(x:Kd)(code:List Opn):Fm×Kd:=
 if x.pc>=code.length then(f,{x with out:=1,phase:=1})else
 let o:=opN code x.pc
 if o.1=5 then Whn m f x o else
 if o.1=10 then(f,Wjj x code)else
 if o.1=6 then(f,{x with writes:=x.writes++ [(o.2.1,Wbt x.regs o.2.2.1 0)],pc:=x.pc+1})else
 if o.1=7 then(f,{x with pc:=(if Wbt x.regs o.2.1 0=0 then x.pc+o.2.2.1 else x.pc)+1})else
 if o.1=8 then(f,{x with marks:=x.marks++ [(x.pc,(x.writes.length:Int),x.regs)],pc:=x.pc+1})else
 if o.1=9 then(f,{x with marks:=x.marks.dropLast,regs:=Wm2 x.regs (opN code (Wga x.marks (0,0,[])).1).2.1 1,pc:=x.pc+1})else
 (f,{x with regs:=WmG o x.regs,pc:=x.pc+1})
def WcR(c:Int)(b:List En)(rows:List Rw):List En:=rows.foldl (λb r=>Wbl cfE b (r.1,r.2,c)) b
def WaA(l:List En):List Rw:=(l.filter λe=>decide (e.2.2= -1)).map λe=>(e.1,e.2.1)
def WgS(f:Fm)(x:Kd)(k:Nat):Fm×Kd:=
 ({f with clock:=f.clock+1,buf:=WcR (f.clock+1) f.buf (Wcr x.writes),reads:=f.reads++WaA x.seen,order:=f.order++ [(k:Int)],owner:=0},{x with phase:=3,pos:=0,marks:=[]})
def WuO(b:List En)(c:Int):Int:=match ent b c with
 |some r=>r.2.2.2
 |none=>-1
def Wr0(m:Mm)(f:Fm)(x:Kd)(k:Nat)(code:List Opn):Fm×Kd:=
 if x.phase=0 then Woh m f x code else
 if x.phase=1 then(if f.owner=0 then({f with owner:=(k:Int)+1},{x with phase:=2})else(f,x))else
 if x.phase=2 then
  if x.pos=x.seen.length then WgS f x k else
  let s:=Wbt x.seen x.pos (0,0,0)
  if WuO f.buf s.1=s.2.2 then(f,{x with pos:=x.pos+1})else({f with owner:=0},f.again x)
 else(f,x)
def Fm.put(q:Fm×Kd)(k:Nat):Fm:={q.1 with kids:=q.1.kids.set k q.2}
def Wib(m:Mm)(f:Fm)(k:Nat)(code:List Opn):Fm:=
 if f.lost then f else Fm.put (Wr0 m f (f.kids.getD k {}) k code) k
def Wc2(rv:Int)(regs:List Int)(writes:List Rw)(kids:Nat):Fm:=
 {rv:=rv,regs:=regs,start:=Wcr writes,buf:=(Wcr writes).map λr=>(r.1,r.2,0),kids:=Xp kids {regs:=regs}}
def Wcm(f:Fm):Bool:=f.kids.all λx=>decide (x.phase=3)
def WgP(f:Fm):List Rw:=f.buf.map λe=>(e.1,e.2.1)
def Ws0(x:Kd):Int:=if x.out=1/\Wco x.regs=true then Wbt x.regs 0 0 else 0
def WfC(f:Fm):List Int:=
 if Wco f.regs=true/\f.kids.length<=3 then f.kids.map Ws0++f.regs.drop f.kids.length else []
structure KMk(code:List Opn)(pc:Nat)(marks:List KM)(wl:Nat):Prop where
 pcs:marks.map (·.1)=(stk code pc).map λm:Nat=>(m:Int)
 each:∀q∈marks,Vals 4 q.2.2/\0<=q.2.1/\q.2.1<=q.1/\q.2.1<=wl
 up:marks.Pairwise λa b=>a.2.1<=b.2.1
structure KOk(code:List Opn)(c n:Int)(x:Kd):Prop where
 pc:0<=x.pc/\x.pc<=code.length
 regs:Vals 4 x.regs
 rows:Wjb x.writes
 wl:(x.writes.length:Int)<=x.pc
 sl:(x.seen.length:Int)<=x.pc
 since:0<=x.since/\x.since<=c
 tries:0<=x.tries/\x.tries<=n
 seen:∀e∈x.seen,(0<=e.1/\e.1<=7)/\(0<=e.2.1/\e.2.1<=65535)/\ -1<=e.2.2/\e.2.2<=x.since
 marks:x.phase=0->KMk code x.pc.toNat x.marks x.writes.length
 pos:0<=x.pos/\x.pos<=x.seen.length
 pb:x.busy=true->WiM x.pb=true
 phase:0<=x.phase/\x.phase<=3
 out:0<=x.out/\x.out<=2
structure FOk(codes:List (List Opn))(n:Int)(f:Fm):Prop where
 len:f.kids.length=codes.length
 regs:Vals 4 f.regs
 clock:0<=f.clock/\f.clock=f.order.length
 done:f.order.length=f.kids.countP λx=>decide (x.phase=3)
 bufR:Ris cfE f.buf
 bufE:∀e∈f.buf,(0<=e.1/\e.1<=7)/\(0<=e.2.1/\e.2.1<=65535)/\0<=e.2.2/\e.2.2<=f.clock
 readsL:f.reads.length<=24*f.order.length
 readsE:Wjb f.reads
 owner:0<=f.owner/\f.owner<=f.kids.length
 kid:∀(k:Nat) (h:k<f.kids.length),KOk (codes.getD k []) f.clock n f.kids[k]
end
section
structure CC(l:List Opn):Prop where
 len:l.length<=24
 up:Up l
 z:dep l l.length=0
 ok:∀i (h:i<l.length),Wdx l[i]=true/\1<=l[i].1/\l[i].1<=16
 sk:∀i (h:i<l.length),l[i].1=7->i+1+l[i].2.2.1.toNat<=l.length/\bal ((l.take (i+1+l[i].2.2.1.toNat)).drop (i+1))=true
 fk:∀i (h:i<l.length),l[i].1=11->dep l i=0/\frk l (i+1)<=1
structure KC(l:List Opn):Prop extends CC l where
 k10:∀i (h:i<l.length),l[i].1<=10
theorem WkE{o:Opn}(h:Wdx o=true)(dQ:12<=o.1):Wi8 o=2:=by
 have mz:=Wjd h;have key:=Wby (N:=0) (o:=o);unfold Zbc at key;rw[Wcy,h]at key;simp only[ret,Xd,Xo,Wc]at key;have e5:(o.1==5)=false:=by simp;omega
 have e6:(o.1==6)=false:=by simp;omega
 rw[e5,e6]at key;simp only[Wc]at key;have:o.1=12\/o.1=13\/o.1=14\/o.1=15\/o.1=16:=by omega
 rcases this with hk|hk|hk|hk|hk<;> · simp_all
theorem Wud{l:List Opn}(h:Wo3 l=true):CC l:=by
 unfold Wo3 at h;simp only[Xi,Wi,Xao]at h;obtain⟨h1,h2,h3⟩:=h;obtain⟨b1,b2⟩:=Wne.1 h2;have hb:∀i (hi:i<l.length),WpD l i l[i]=false:=λi hi=>by
  rw[Bool.eq_false_iff];intro hb;have:Wnv (WpD l) 0 l=true:=WfW.2 ⟨i,hi,by simp_all⟩;simp_all
 have ci:∀i (hi:i<l.length),Wdx l[i]=true:=λi hi=>by
  grind [WpD,Xdo,Xew]
 refine⟨h1,b1,b2,λi hi=>⟨ci i hi,Wjd (ci i hi)⟩,λi hi h7=>?_,λi hi fT=>?_⟩
 .grind [WpD,Xdo,Xew,WhE]
 grind [WpD,Xdo,Xew]
theorem WuY{l:List Opn}(h:Wgs l=true):KC l:=by
 unfold Wgs at h;simp only[Xi,Xao]at h;have hc:=Wud h.1;refine⟨hc,λi hi=>?_⟩;have iP:WfR l[i]=false:=by
  grind
 unfold WfR at iP;simp only[Xdo]at iP;by_cases cu:l[i].1<=10
 .exact cu
 .exfalso;by_cases fT:l[i].1=11
  .simp_all
  .have:=WkE (hc.ok i hi).1 (by omega);simp_all
theorem WjM{l:List Opn}{m k:Nat}(h:Mate l m k):Wjc l m=k:=by
 unfold Wjc;have:(Xdb l.length).find? (λk=>decide (m<=k)&&decide (dep l (k+1)=dep l m))=some k:=by
  rw[List.find?_range_eq_some];have:=h.lt;refine⟨?_,List.mem_range.2 h.len,λj hj=>?_⟩
  .simp[h.eq];omega
  .simp only[Xao,Bool.and_eq_false_iff,Wp];by_cases hm:m<=j
   .exact .inr (h.ne j hm hj)
   omega
 grind
theorem Wig{l:List Opn}{i:Int}(h0:0<=i)(h:i<l.length):∃(n:Nat) (hn:n<l.length),i=n/\opN l i=l[n]:=by
 grind [opN,WJ]
theorem Wem{l:List Opn}{n:Nat}(h:n<l.length):opN l (n:Int)=l[n]:=by
 grind [opN,WJ]
theorem WpI{α:Type}(q:List α)(x d:α):Wga (q++ [x]) d=x:=by unfold Wga;simp
theorem WhI{M:Type}{g:M->Int}{l:List Opn}{pc:Nat}{marks:List M}{d:M}(hc:CC l)(hp:pc<=l.length)(hm:marks.map g=(stk l pc).map λm:Nat=>(m:Int))(hne:marks.length≠0):
  ∃(m:Nat) (q:List M) (x:M),marks=q++ [x]/\Wga marks d=x/\g x=(m:Int)/\(∃hm:m<l.length,l[m].1=8)/\m<pc/\Mate l m (Wjc l m)/\pc<=Wjc l m/\stk l m=(stk l pc).dropLast/\q.map g=(stk l m).map λm:Nat=>(m:Int):=by
 rcases WbP marks with h0|⟨q,x,hq⟩
 .simp_all
 .rw[hq,Xy,Xaf,Xce]at hm;rcases WbP (stk l pc)with h0|⟨t,m,ht⟩
  .simp_all
  .rw[ht,Xy,Xaf,Xce]at hm;obtain⟨e1,e2⟩:=Xed hm rfl;injection e2 with e2;obtain⟨k,k1,k2,k3⟩:=Wtu hc.up hc.z hp ht;have k4:=WjM k2;obtain⟨hlt,h8,_,_⟩:=WkG pc hp t [] m ht
   grind [WpI,Xem]
end
section
theorem Wip{α β:Type}(g:α->β)(l:List α)(i:Nat)(d:α):Xc (l.map g) i (g d)=g (l.getD i d):=by
 simp_all
theorem kdP(x:Kd):x.e.1=x.phase/\x.e.2.1=x.pc/\x.e.2.2.1=x.since/\x.e.2.2.2.1=x.tries/\P4 x.e=x.pos/\P5 x.e=x.out/\P6 x.e=x.regs/\P7 x.e=x.seen/\P8 x.e=x.writes/\P9 x.e=x.marks/\P10 x.e=x.busy:=⟨rfl,rfl,rfl,rfl,rfl,rfl,rfl,rfl,rfl,rfl,rfl⟩
theorem fmP(f:Fm):f.e.1=f.rv/\f.e.2.1=f.clock/\f.e.2.2.1=f.owner/\f.e.2.2.2.1=f.lost/\P4 f.e=f.regs/\P5 f.e=f.start/\P6 f.e=f.buf/\P7 f.e=f.order/\P8 f.e=f.reads/\Q9 f.e=f.kids.map Kd.e:=⟨rfl,rfl,rfl,rfl,rfl,rfl,rfl,rfl,rfl,rfl⟩
theorem U9e(f:Fm)(k:Nat)(x:Kd):U9 (Xe (f.kids.map Kd.e) k x.e) f.e=Fm.e {f with kids:=f.kids.set k x}:=by
 unfold U9 Fm.e;rw[Xdv]
theorem Wp9{f f':Fm}{k:Nat}{x':Kd}{y:Y_KidRun}{g:Y_Family}(hy:y=x'.e)(hg:g=f'.e)(hf:f'.kids=f.kids):
  some ((U9 (Xe (f.kids.map Kd.e) k y) g,()),())=some (((Fm.put (f',x') k).e,()),()):=by
 subst hy hg;rw[←hf,U9e];rfl
theorem Wmz(m:Mm)(f:Fm)(x:Kd)(o:Opn):Weh m f.e x.e o=((Whn m f x o).1.e,(Whn m f x o).2.e):=by
 unfold Weh Whn;have h1:P8 x.e=x.writes:=rfl;have h2:P6 f.e=f.buf:=rfl;rw[h1,h2];rcases WbY x.writes o.2.2.1 with _|v
 .rcases ent f.buf o.2.2.1 with _|r
  .have h3:Wlh x.e o.2.2.1=if x.busy then x.pb else(o.2.2.1,0,0,0):=by
    unfold Wlh;have:P10 x.e=x.busy:=rfl;rw[this];cases x.busy<;>rfl
   simp only[h3];have h4:f.e.1=f.rv:=rfl;rw[h4];generalize WaD m f.rv (if x.busy then x.pb else(o.2.2.1,0,0,0))=p;by_cases e4:p.2.1=4
   .have:(p.2.1==4)=true:=by simp_all
    rw[Wf e4,this];rfl
   .have:(p.2.1==4)=false:=by simp_all
    rw[Wb e4,this];by_cases e3:p.2.1=3
    .have:(p.2.1==3)=true:=by simp_all
     rw[Wf e3,this];rfl
    .have:(p.2.1==3)=false:=by simp_all
     rw[Wb e3,this];rfl
  .simp only;have h5:x.e.2.2.1=x.since:=rfl;rw[h5];by_cases hv:r.2.2.2>x.since
   .rw[Wf hv,We hv];rfl
   .rw[Wb hv,Wk hv];rfl
 .rfl
theorem Wjv(m:Mm)(f:Fm)(x:Kd)(o:Opn):(Whn m f x o).1.kids=f.kids:=by
 grind [Whn,WbY,ent,WaD]
variable{N:Nat}{codes:List (List Opn)}{n:Int}{f:Fm}{k:Nat}{code:List Opn}{m:Mm}{x:Kd}
theorem FOk.buf8(h:FOk codes n f):f.buf.length<=8:=by
 have:∀(l:List En) (c:Int),Ris cfE l->(∀e∈l,c<=e.1/\e.1<=7)->(l.length:Int)<=8-c\/l= []:=by
  intro l
  induction l with
  |nil=>simp_all
  |cons a l ih=>
   intro c hr hb;left;have h1:=Xt.1 hr;have ha:=hb a (Xj ..);rcases ih (a.1+1) h1.2 (λe he=>⟨by grind [cfE],(hb e (Xf _ he)).2⟩)with h|h
   .grind
   grind
 rcases this f.buf 0 h.bufR (λe he=>by have:=(h.bufE e he).1;omega)with h|h
 .omega
 simp_all
theorem Wlz(hF:FOk codes n f)(hx:KOk code f.clock n x)(bI:KC code)(hm:WY m=true)(hn:n<=100000){o:Opn}(hA:W4 o.2.1=true)(hB:Wam o.2.2.1=true):ReadOk m f.e x.e o where
 mem:=hm
 regs:=hx.regs.len
 famr:=hF.regs.len
 rA:=by grind [W4]
 cB:=hB
 seen:=by have:=hx.sl;have:=hx.pc;have:=bI.len;show x.seen.length<=1000;omega
 wr:=by have:=hx.wl;have:=hx.pc;have:=bI.len;show x.writes.length<=1000;omega
 buf:=by have:=hF.buf8;show f.buf.length<=1000;omega
 ver:=λe he=>(hF.bufE e he).2.2.1
 since:=hx.since.1
 pc:=by have:=hx.pc;have:=bI.len;show 0<=x.pc/\x.pc<=1000;omega
 tries:=by have:=hx.tries;show 0<=x.tries/\x.tries<=100000;omega
 pb:=hx.pb
theorem Wv{α:Type}{a b:Int}{x y:α}:(bif a==b then x else y)=if a=b then x else y:=by
 simp_all
theorem WS{α:Type}{p:Prop}[Decidable p]{x y:α}:(bif decide p then x else y)=if p then x else y:=by
 simp_all
theorem Wj6(bI:KC code)(hx:KOk code f.clock n x)(h0:x.phase=0)(hN:1048576<N):Zju N x.e code=some (((Wjj x code).e,()),()):=by
 unfold Zju Wjj;obtain⟨k0,k1,k2,k3,k4,k5,k6,k7,k8,k9,k10⟩:=kdP x;have bp:=hx.pc;have hlen:=bI.len;have hM:=hx.marks h0;simp only[Ws,k9,k8,k1,Wv];by_cases hz:x.marks.length=0
 .rw[Wf (by unfold Wh;omega),Wf hz];rfl
 .rw[Wb (by unfold Wh;omega),Wb hz];obtain⟨j,q,y,e1,e2,e3,⟨hj,h8⟩,nS,cI,iw,e5,e6⟩:=WhI (d:=((0,0,[]):KM)) bI.toCC (show x.pc.toNat<=code.length by omega) hM.pcs hz;have lX:x.marks.length=q.length+1:=by grind
  have tZ:q.length<=24:=by
   have:=Wn Xb e6;simp only[Xx]at this;have h2:=WaT bI.up j (by omega);have h3:=(Wcs code j).2;omega
  have i1:WV .i64 (Wh x.marks) 1=(q.length:Int):=by grind [Wim]
  have hy:y∈x.marks:=by grind
  obtain⟨y1,y2,y3,y4⟩:=hM.each y hy;have g1:Xc x.marks (Xa (q.length:Int)) ((0,0,[]):KM)=y:=by grind
  have t1:Xaj (Xa (q.length:Int)) x.marks=x.marks.dropLast:=by rw[e1];simp
  have jJ:=hx.wl;rw[i1,WB,We (show q.length<x.marks.length by omega)];simp only[Wa,g1,t1,e2];have b1:((decide ((0:Int)<=(q.length:Int))&&decide ((q.length:Int)<=(x.marks.length:Int)))&&decide ((q.length:Int)<=((Xa (q.length:Int):Nat):Int)))=true:=by
   simp;omega
  rw[b1];simp only[Wa];rw[Wa9 (by rw[y1.len];omega)];simp only[ret,Xd];rw[e3,WB,We hj];have o1:Xc code (Xa ((j:Nat):Int)) ((0,0,0,0):Opn)=code[j]:=Ww hj _;have o2:opN code ((j:Nat):Int)=code[j]:=Wem hj;have hr:=Wto (bI.ok j hj).1 h8;simp only[Wa,o1,o2];rw[WR hr y1.len];have b2:(decide ((0:Int)<=y.2.1)&&decide (y.2.1<=(x.writes.length:Int)))=true:=by simp;omega
  rw[b2];simp only[Wa];rw[Wdm (by grind),WhG (by omega) hN ⟨hj,h8⟩ cI];simp only[ret,Xd];rw[Waj (by have:=cI.len;omega),Xk];rfl
theorem Wm7(hk:k<f.kids.length)(hm:WY m=true)(bI:KC code)(hF:FOk codes n f)(aP:codes.getD k []=code)(aG:f.kids[k]=x)(h0:x.phase=0)(hn:n<=100000)(hN:1048576<N):
  Zlf N f.e (k:Int) code m=some (((Fm.put (Woh m f x code) k).e,()),()):=by
 have hx:=hF.kid k hk;rw[aP,aG]at hx;obtain⟨k0,k1,k2,k3,k4,k5,k6,k7,k8,k9,k10⟩:=kdP x;obtain⟨f0,f1,f2,f3,f4,f5,f6,f7,f8,f9⟩:=fmP f;have bp:=hx.pc;have hlen:=bI.len;have jJ:=hx.wl;have e2:Xc (f.kids.map Kd.e) (Xa (k:Int)) d_KidRun=x.e:=by
  simp_all
 have e3:U9 (Xe (f.kids.map Kd.e) (Xa (k:Int)) x.e) f.e=f.e:=by
  rw[Xk,U9e,←aG,Xba]
 unfold Zlf Woh;simp only[Ws,f9,Xx];rw[WB,We hk];simp only[Wa,e2,e3,k1,k6,k8,k9,WS,Wv,show Wh code=(code.length:Int)from rfl];by_cases cW:x.pc>=code.length
 .rw[Wf cW,Wf cW];rw[Xk];exact Wp9 rfl rfl rfl
 .rw[Wb cW,Wb cW];obtain⟨j,hj,ej,eo⟩:=Wig (l:=code) bp.1 (by omega);have lY:Xc code (Xa x.pc) ((0,0,0,0):Opn)=opN code x.pc:=rfl;have eK:inb x.pc code.length=true:=by grind [WB,decide_eq_true]
  rw[eK];obtain⟨ok,o1,gY⟩:=bI.ok j hj;have bn:=bI.k10 j hj;simp only[Wa,lY];rw[←eo]at ok o1 bn;generalize opN code x.pc=o at*;have bQ:=hx.regs.len;rw[Xk];rw[Waj (show 0<=x.pc/\x.pc<=1000000 by omega)];by_cases h5:o.1=5
  .rw[Wf h5,Wf h5];have:=Wt6 ok h5;have hY:=Wlz hF hx bI hm hn this.1 this.2;have e4:(Q9 f.e)[k]'(by simp_all)=x.e:=by
    simp_all
   have:=WmC (m:=m) (o:=o) (f:=f.e) (k:=k) (by simp_all) (by simp_all) hN;rw[this];simp only[Xd,e4,Wmz];unfold WuT;have ib:=Wjv m f x o;rw[show Q9 (Whn m f x o).1.e=f.kids.map Kd.e by rw[←ib];rfl];exact Wp9 rfl rfl ib
  .rw[Wb h5,Wb h5];by_cases cu:o.1=10
   .rw[Wf cu,Wf cu,Wj6 bI hx h0 hN];exact Wp9 rfl rfl rfl
   .rw[Wb cu,Wb cu];by_cases h6:o.1=6
    .rw[Wf h6,Wf h6];rw[WR (Wua ok h6).2 bQ,Wt (by simp;omega)];exact Wp9 rfl rfl rfl
    .rw[Wb h6,Wb h6];by_cases h7:o.1=7
     .rw[Wf h7,Wf h7];have h:=Wt9 ok h7;rw[WR h.1 bQ,WI (a:=x.pc) (b:=o.2.2.1) (by unfold I64;omega),Waj (a:=x.pc+o.2.2.1) (by omega)];by_cases hg:Xc x.regs (Xa o.2.1) 0=0
      .rw[Wf hg,Wf (show Wbt x.regs o.2.1 0=0 from hg)];simp only[Wa];exact Wp9 rfl rfl rfl
      .rw[Wb hg,Wb (show¬Wbt x.regs o.2.1 0=0 from hg)];simp only[Wa];exact Wp9 rfl rfl rfl
     .rw[Wb h7,Wb h7];by_cases h8:o.1=8
      .rw[Wf h8,Wf h8];rw[Wa9 (by omega)];have jW:x.marks.length<=24:=by
        have:=Wn Xb (hx.marks h0).pcs;simp only[Xx]at this;have h2:=WaT bI.up x.pc.toNat (by omega);have h3:=(Wcs code x.pc.toNat).2;omega
       simp only[ret,Xd];rw[Wt (by simp;omega)];exact Wp9 rfl rfl rfl
      .rw[Wb h8,Wb h8];by_cases h9:o.1=9
       .rw[Wf h9,Wf h9];have hM:=hx.marks h0;have hz:x.marks.length≠0:=by
         intro hz;have h1:=Wn Xb hM.pcs;simp only[Xx,hz]at h1;have h2:=WaT bI.up j (by omega);have h3:=bI.up j hj
         grind [Wat,Wka,Xk]
        obtain⟨i,q,y,e1,nT,nU,⟨hi,mA⟩,nS,cI,iw,e5,e6⟩:=WhI (d:=((0,0,[]):KM)) bI.toCC (show x.pc.toNat<=code.length by omega) hM.pcs hz;have lX:x.marks.length=q.length+1:=by grind
        have jW:x.marks.length<=24:=by
         have:=Wn Xb (hx.marks h0).pcs;simp only[Xx]at this;have h2:=WaT bI.up x.pc.toNat (by omega);have h3:=(Wcs code x.pc.toNat).2;omega
        have i1:WV .i64 (Wh x.marks) 1=(q.length:Int):=by grind [Wim]
        have g1:Xc x.marks (Xa (q.length:Int)) ((0,0,[]):KM)=y:=by grind
        have t1:Xaj (Xa (q.length:Int)) x.marks=x.marks.dropLast:=by rw[e1];simp
        rw[i1,WB,We (show q.length<x.marks.length by omega)];have b1:(decide ((0:Int)<=(q.length:Int))&&decide ((q.length:Int)<=(x.marks.length:Int)))=true:=by simp;omega
        rw[b1];simp only[Wa,g1,t1,nT];rw[nU,WB,We hi];have o1:Xc code (Xa ((i:Nat):Int)) ((0,0,0,0):Opn)=opN code (i:Int):=rfl;have hr:=Wto (bI.ok i hi).1 mA;rw[←Wem hi]at hr;simp only[Wa,o1];rw[WR hr bQ];exact Wp9 rfl rfl rfl
       .rw[Wb h9,Wb h9];rw[WgZ hN ok (by omega) (by omega) hx.regs];exact Wp9 rfl rfl rfl
end
section
theorem Wjt{l:List Rw}{c v:Int}:∀(i:Nat),i<=l.length->Wf6 l c i=some v->(c,v)∈l
 |0,_,h=>by simp[Wf6]at h
 |i+1,hi,h=>by
  unfold Wf6 at h;rw[WJ (show i<l.length by omega)]at h;by_cases hc:l[i].1=c
  .grind
  .rw[Wb hc]at h;exact Wjt i (by omega) h
theorem Wix{l:List Rw}{c v:Int}(h:WbY l c=some v):Wad l=true/\(c,v)∈l:=by
 unfold WbY at h;by_cases hr:Wad l=true
 .rw[Wf hr]at h;exact⟨hr,Wjt _ (Xl _) h⟩
 simp_all
theorem WoB(l:List Rw):∀(j c:Nat) (o:List Rw),Wih l j c o=o++(Xfu c j).filterMap λc:Nat=>(WbY l (c:Int)).map λv=>((c:Int),v)
 |0,c,o=>by simp[Wih]
 |j+1,c,o=>by
  rw[Wih,WoB l j,List.range'_succ,List.filterMap_cons];unfold WiK;cases h:WbY l (c:Int)<;>simp
theorem Wna(l:List Rw):Wcr l=(Xfu 0 8).filterMap λc:Nat=>(WbY l (c:Int)).map λv=>((c:Int),v):=by simp[Wcr,WoB]
theorem Woe{l:List Rw}{r:Rw}:r∈Wcr l↔(0<=r.1/\r.1<=7)/\WbY l r.1=some r.2:=by
 rw[Wna,List.mem_filterMap];constructor
 .rintro⟨c,hc,h⟩;rw[Xfd]at hc;cases hl:WbY l (c:Int)with
  |none=>simp_all
  |some v=>
   grind
 .rintro⟨h0,h⟩;refine⟨r.1.toNat,Xfd.2 (by omega),?_⟩
  grind
theorem Wns(l:List Rw):(Wcr l).Pairwise λa b=>a.1<b.1:=by
 rw[Wna,List.pairwise_filterMap];refine List.Pairwise.imp ?_ (List.pairwise_lt_range' (s:=0) (n:=8));simp_all
theorem Wc3(l:List Rw):(Wcr l).length<=8:=by
 grind [Wna,Xbe,List.length_filterMap_le]
theorem Wgp{l:List Rw}:Wjb (Wcr l):=by
 intro r hr;obtain⟨h0,h1⟩:=Woe.1 hr;obtain⟨h2,h3⟩:=Wix h1;unfold Wad at h2;simp only[Xi]at h2;have:=(Whw.1 h2.2) _ h3;omega
end
section
theorem WeB{p:Pb}:WiM p=true↔(0<=p.1/\p.1<=7)/\(0<=p.2.1/\p.2.1<=4)/\(0<=p.2.2.1/\p.2.2.1<=1000000)/\0<=p.2.2.2/\p.2.2.2<=65535:=by
 simp[WiM,Wam,WaZ,Xi,Wi]
theorem Wg7{c:Int}{w:Wd}:Wl9 c w=true↔(0<=w.1/\w.1<=65535)/\(0<=w.2.1/\w.2.1<=c)/\0<=w.2.2/\w.2.2<=99:=by
 simp[Wl9,WaZ,Xi,Wi]
theorem WrE{m:Mm}(h:WY m=true){c:Int}(hc:0<=c/\c<=7):Wl9 m.1 (Wbt m.2 c (0,0,0))=true:=by
 grind [WE,Wbt,WJ,Xab]
theorem Wlu{m:Mm}{rv:Int}{p:Pb}(hm:WY m=true)(hp:WiM p=true):WiM (WaD m rv p)=true/\(WaD m rv p).1=p.1:=by
 have dS:=WeB.1 hp;have hw:=WrE hm dS.1;rw[Wg7]at hw;obtain⟨h8,h0,h1,_⟩:=WE hm;unfold WaD;simp only[Wv,WS];have ua:Wl9 m.1 (Xc m.2 (Xa p.1) (0,0,0))=true:=WrE hm dS.1
 grind [Wg7,WeB]
section
variable{code:List Opn}{pc ek wl jK:Nat}{ms q:List KM}{y:KM}{c c' n n':Int}{x:Kd}{f:Fm}{m:Mm}{codes:List (List Opn)}{k:Nat}
theorem KMk.mono(h:KMk code pc ms wl)(hs:stk code ek=stk code pc)(hw:wl<=jK):KMk code ek ms jK:=
 ⟨by rw[hs];exact h.pcs,λq hq=>by have:=h.each q hq;grind,h.up⟩
theorem KMk.begin(h:KMk code pc ms wl)(hp:pc<code.length)(h8:code[pc].1=8){regs:List Int}(hr:Vals 4 regs)(hw:wl<=pc):KMk code (pc+1) (ms++ [((pc:Int),(wl:Int),regs)]) wl:=by
 refine⟨?_,?_,?_⟩
 .rw[WkI hp h8,Xy,Xy,h.pcs];rfl
 .intro q hq;rcases Xn.1 hq with hq|hq
  .exact h.each q hq
  simp_all
 .refine Xai.2 ⟨h.up,List.pairwise_singleton _ _,λa ha b hb=>?_⟩;rw[Xag]at hb;subst hb;exact(h.each a ha).2.2.2
theorem KMk.drop(h:KMk code pc ms wl)(mB:ms=q++ [y])(hs:stk code ek=(stk code pc).dropLast)(hw:y.2.1<=jK):KMk code ek q jK:=by
 subst mB;have h1:=h.pcs;refine⟨?_,λa ha=>?_,(Xai.1 h.up).1⟩
 .grind
 .have h2:=h.each a (List.mem_append_left _ ha);have h3:=(Xai.1 h.up).2.2 a ha y (by simp)
  grind
theorem KOk.wk(h:KOk code c n x)(hc:c<=c')(hn:n<=n'):KOk code c' n' x:=
 {h with since:=by have:=h.since;omega,tries:=by have:=h.tries;omega}
theorem Wog(h:KOk code c n x)(hc:c=f.clock)(hf:Vals 4 f.regs)(h0:0<=f.clock):KOk code c (n+1) (f.again x) where
 pc:=⟨Xcs _,by show(0:Int)<=_;omega⟩
 regs:=hf
 rows:=λr hr=>by cases hr
 wl:=Xcs _
 sl:=Xcs _
 since:=by show 0<=f.clock/\f.clock<=c;omega
 tries:=by have:=h.tries;show 0<=x.tries+1/\x.tries+1<=n+1;omega
 seen:=λe he=>by cases he
 marks:=λ_=>⟨by show([]:List KM).map _=(stk code 0).map _;rfl,(λq hq=>by cases hq),List.Pairwise.nil⟩
 pos:=⟨Xcs _,Xcs _⟩
 pb:=λh=>by cases h
 phase:=by show(0:Int)<=0/\(0:Int)<=3;omega
 out:=by show(0:Int)<=0/\(0:Int)<=2;omega
theorem KMk.len(hc:CC code)(h:KMk code pc ms wl)(hp:pc<=code.length):(ms.length:Int)=dep code pc:=by
 have:=Wn Xb h.pcs;simp only[Xx]at this;rw[this,WaT hc.up pc hp]
theorem KOk.on(bS:CC code)(h:KOk code c n x)(h0:x.phase=0){i:Nat}(hi:i<code.length)(bp:x.pc=i){regs:List Int}{seen:List En}{writes:List Rw}{marks:List KM}{busy:Bool}{pb:Pb}{ek:Nat}(hp:ek<=code.length)(hlt:i<ek)(hr:Vals 4 regs)(hrow:Wjb writes)(jJ:writes.length<=x.writes.length+1)(hsl:seen.length<=x.seen.length+1)
  (hs:∀e∈seen,(0<=e.1/\e.1<=7)/\(0<=e.2.1/\e.2.1<=65535)/\ -1<=e.2.2/\e.2.2<=x.since) (hse:x.seen.length<=seen.length) (hm:KMk code ek marks writes.length) (hb:busy=true->WiM pb=true):
  KOk code c n {x with regs:=regs,seen:=seen,writes:=writes,marks:=marks,busy:=busy,pb:=pb,pc:=(ek:Int)}:=
 {h with
  pc:=by simp_all
  regs:=hr
  rows:=hrow
  wl:=by have:=h.wl;grind
  sl:=by have:=h.sl;grind
  seen:=hs
  marks:=λ_=>by simp_all
  pos:=by have:=h.pos;grind
  pb:=hb}
theorem Wsz(bS:CC code)(hF:FOk codes n f)(h:KOk code f.clock n x)(h0:x.phase=0){i:Nat}(hi:i<code.length)(bp:x.pc=i)(h5:code[i].1=5)(hm:WY m=true):
  KOk code f.clock (n+1) (Whn m f x code[i]).2/\((Whn m f x code[i]).1=f\/(Whn m f x code[i]).1={f with lost:=true}):=by
 have ci:=Wt6 (bS.ok i hi).1 h5;have hB:0<=code[i].2.2.1/\code[i].2.2.1<=7:=by grind [Wam]
 have hM:=h.marks h0;rw[bp,Xk]at hM;have be:stk code (i+1)=stk code i:=Wgj hi (by omega) (by omega);have ch:x.pc+1=((i+1:Nat):Int):=by omega
 unfold Whn;cases hl:WbY x.writes code[i].2.2.1 with
 |some v=>
  have hv:=h.rows _ (Wix hl).2;refine⟨?_,.inl rfl⟩;simp only[ch];exact(KOk.on bS h h0 hi bp (by omega) (by omega) (h.regs.set _ hv.2) h.rows (by omega) (by omega) h.seen (by omega) (hM.mono be (by omega)) h.pb).wk (by omega) (by omega)
 |none=>
  simp only;cases he:ent f.buf code[i].2.2.1 with
  |some r=>
   simp only;have hr:=Wcl he;have mn:r.2∈f.buf:=by
    grind
   have iB:=hF.bufE _ mn;split
   .exact⟨Wog h rfl hF.regs hF.clock.1,.inl rfl⟩
   .refine⟨?_,.inl rfl⟩;simp only[ch];refine(KOk.on bS h h0 hi bp (by omega) (by omega) (h.regs.set _ iB.2.1) h.rows (by omega) (by simp) (λe iF=>?_) (by simp) (hM.mono be (by omega)) h.pb).wk (by omega) (by omega);rcases Xn.1 iF with iF|iF
    .exact h.seen e iF
    grind
  |none=>
   simp only;have fH:WiM (if x.busy=true then x.pb else(code[i].2.2.1,0,0,0))=true:=by
    split
    .exact h.pb ‹_›
    grind [WeB]
   have bT:=Wlu (rv:=f.rv) hm fH;generalize WaD m f.rv (if x.busy=true then x.pb else(code[i].2.2.1,0,0,0))=p at*;have hp:=WeB.1 bT.1;split
   .refine⟨?_,.inr rfl⟩;exact KOk.wk (n:=n) {h with pb:=λ_=>bT.1} (by omega) (by omega)
   .split
    .refine⟨?_,.inl rfl⟩;simp only[ch];refine(KOk.on bS h h0 hi bp (by omega) (by omega) (h.regs.set _ hp.2.2.2) h.rows (by omega) (by simp) (λe iF=>?_) (by simp) (hM.mono be (by omega)) (λh=>by cases h)).wk (by omega) (by omega);rcases Xn.1 iF with iF|iF
     .exact h.seen e iF
     .rw[Xag]at iF;subst iF;exact⟨hB,hp.2.2.2,by simp,by have:=h.since;grind⟩
    .refine⟨?_,.inl rfl⟩;exact KOk.wk (n:=n) {h with pb:=λ_=>bT.1} (by omega) (by omega)
theorem WtJ(bI:KC code)(hF:FOk codes n f)(h:KOk code f.clock n x)(h0:x.phase=0)(hm:WY m=true):
  KOk code f.clock (n+1) (Woh m f x code).2/\((Woh m f x code).1=f\/(Woh m f x code).1={f with lost:=true}):=by
 have bS:=bI.toCC;unfold Woh;split
 .refine⟨?_,.inl rfl⟩;exact KOk.wk (n:=n) {h with marks:=λh=>by simp_all,phase:=by simp_all,out:=by simp_all} (by omega) (by omega)
 .obtain⟨i,hi,bp,ho⟩:=Wig (l:=code) h.pc.1 (by omega);simp only[ho];obtain⟨ok,o1,gY⟩:=bI.ok i hi;have bn:=bI.k10 i hi;have hM:=h.marks h0;rw[bp,Xk]at hM;have ch:x.pc+1=((i+1:Nat):Int):=by omega
  have jJ:x.writes.length<=i:=by have:=h.wl;omega
  split
  .grind [Wsz]
  .split
   .refine⟨?_,.inl rfl⟩;unfold Wjj;split
    .refine KOk.wk (n:=n) {h with rows:=(λr hr=>by cases hr),wl:=by simp_all,marks:=λh=>by simp_all,phase:=by simp_all,out:=by simp_all} (by omega) (by omega)
    .obtain⟨j,q,y,e1,e2,e3,⟨hj,h8⟩,nS,cI,iw,e5,e6⟩:=WhI (d:=((0,0,[]):KM)) bS (show i<=code.length by omega) hM.pcs ‹_›;obtain⟨y1,y2,y3,y4⟩:=hM.each y (by grind);simp only[e2,e3,Xk,←Int.natCast_succ];have hl:=cI.len;have ht:(Xaj y.2.1.toNat x.writes).length=y.2.1.toNat:=by simp_all
     refine(KOk.on bS h h0 hi bp (ek:=Wjc code j+1) (by omega) (by omega) (y1.set _ (by omega)) (λr hr=>h.rows r (List.mem_of_mem_take hr)) (by omega) (by omega) h.seen (by omega) ?_ h.pb).wk (by omega) (by omega);rw[show x.marks.dropLast=q by grind];exact hM.drop e1 (by rw[cI.st];exact e5) (by omega)
   .split
    .refine⟨?_,.inl rfl⟩;have hk:=Wua ok ‹_›;have be:stk code (i+1)=stk code i:=Wgj hi (by omega) (by omega);simp only[ch];refine(KOk.on bS h h0 hi bp (by omega) (by omega) h.regs (λr hr=>?_) (by simp) (by omega) h.seen (by omega) (hM.mono be (by simp)) h.pb).wk (by omega) (by omega);rcases Xn.1 hr with hr|hr
     .exact h.rows r hr
     .rw[Xag]at hr;subst hr;have:=hk.1;unfold Wam at this;exact⟨by simp_all,h.regs.get _⟩
    .split
     .refine⟨?_,.inl rfl⟩;obtain⟨s1,s2⟩:=bI.sk i hi ‹_›;have hk:=Wt9 ok ‹_›;have be:stk code (i+1)=stk code i:=Wgj hi (by omega) (by omega);have lZ:stk code (i+1+code[i].2.2.1.toNat)=stk code i:=by grind [Woy]
      by_cases hg:Wbt x.regs code[i].2.1 0=0
      .simp only[Wf hg,show x.pc+code[i].2.2.1+1=((i+1+code[i].2.2.1.toNat:Nat):Int) by omega];exact(KOk.on bS h h0 hi bp s1 (by omega) h.regs h.rows (by omega) (by omega) h.seen (by omega) (hM.mono lZ (by omega)) h.pb).wk (by omega) (by omega)
      .simp only[Wb hg,ch];exact(KOk.on bS h h0 hi bp (by omega) (by omega) h.regs h.rows (by omega) (by omega) h.seen (by omega) (hM.mono be (by omega)) h.pb).wk (by omega) (by omega)
     .split
      .refine⟨?_,.inl rfl⟩;simp only[ch];rw[bp];exact(KOk.on bS h h0 hi bp (by omega) (by omega) h.regs h.rows (by omega) (by omega) h.seen (by omega) (hM.begin hi ‹_› h.regs jJ) h.pb).wk (by omega) (by omega)
      .split
       .refine⟨?_,.inl rfl⟩;have hz:x.marks.length≠0:=by
         have h1:=hM.len bS (by omega);have h3:=bS.up i hi
         grind [Wat,Wka]
        obtain⟨j,q,y,e1,e2,e3,⟨hj,h8⟩,nS,cI,iw,e5,e6⟩:=WhI (d:=((0,0,[]):KM)) bS (show i<=code.length by omega) hM.pcs hz;obtain⟨y1,y2,y3,y4⟩:=hM.each y (by grind);simp only[ch];refine(KOk.on bS h h0 hi bp (by omega) (by omega) (h.regs.set _ (by omega)) h.rows (by omega) (by omega) h.seen (by omega) ?_ h.pb).wk (by omega) (by omega);rw[show x.marks.dropLast=q by grind];exact hM.drop e1 (WmF hi ‹_›) (by omega)
       .refine⟨?_,.inl rfl⟩;have be:stk code (i+1)=stk code i:=Wgj hi (by omega) (by omega);simp only[ch];exact(KOk.on bS h h0 hi bp (by omega) (by omega) (WkB ok (by omega) (by omega) h.regs) h.rows (by omega) (by omega) h.seen (by omega) (hM.mono be (by omega)) h.pb).wk (by omega) (by omega)
end
end
section
def Wfl(c:Int)(v:List En)(r:Rw):List En:=match ent v r.1 with
 |some a=>v.set a.1 (r.1,r.2,c)
 |none=>v++ [(r.1,r.2,c)]
theorem Wmn(c:Int)(v:List En)(r:Rw):(Wfl c v r).length<=v.length+1:=by
 unfold Wfl;split<;>simp
theorem apE{a b:En}:Ap cfE a b↔a.1≠b.1:=by unfold Ap cfE;omega
theorem Wrh{c:Int}{L M:List En}{r:Rw}(hL:L.Pairwise (Ap cfE))(hM:Ris cfE M)(hm:∀x,x∈L↔x∈M):
  (Wfl c L r).Pairwise (Ap cfE)/\Ris cfE (Wbl cfE M (r.1,r.2,c))/\∀x,x∈Wfl c L r↔x∈Wbl cfE M (r.1,r.2,c):=by
 have key:(Wfl c L r).Pairwise (Ap cfE)/\∀x,x∈Wfl c L r↔x=(r.1,r.2,c)\/(x∈L/\Ap cfE x (r.1,r.2,c)):=by
  unfold Wfl ent;cases he:fnd (λe:En=>e.1==r.1) L 0 with
  |some a=>
   obtain⟨h1,h2,h3,h4⟩:=Wcl he;simp only[Xat,Xde]at h3 h4
   grind [Xs,WmJ,Ws7,apE]
  |none=>
   grind [Wgd,Wjw,apE]
 refine⟨key.1,Wcd Ws7 hM,λx=>?_⟩;rw[key.2 x,Wb4 Ws7 hM,hm]
theorem Wqv{c:Int}:∀{rows:List Rw} {L M:List En},L.Pairwise (Ap cfE)->Ris cfE M->(∀x,x∈L↔x∈M)->
  (rows.foldl (Wfl c) L).Pairwise (Ap cfE)/\Ris cfE (WcR c M rows)/\∀x,x∈rows.foldl (Wfl c) L↔x∈WcR c M rows
 | [],_,_,hL,hM,hm=>⟨hL,hM,hm⟩
 |r::rows,L,M,hL,hM,hm=>by
  obtain⟨a,b,d⟩:=Wrh (c:=c) (r:=r) hL hM hm;exact Wqv (rows:=rows) a b d
theorem WmM{c:Int}:∀(rows:List Rw) (L:List En),(rows.foldl (Wfl c) L).length<=L.length+rows.length
 | [],L=>by simp
 |r::rows,L=>by
  have:=WmM (c:=c) rows (Wfl c L r)
  grind [Wmn,Xq]
theorem Wex{c:Int}{P:En->Prop}:∀{rows:List Rw} {M:List En},Ris cfE M->(∀x∈M,P x)->(∀r∈rows,P (r.1,r.2,c))->∀x∈WcR c M rows,P x
 | [],_,_,h,_=>h
 |r::rows,M,hM,h,hr=>by
  refine Wex (rows:=rows) (Wcd Ws7 hM) (λx hx=>?_) λr' h'=>hr r' (Xf _ h');rcases(Wb4 Ws7 hM).1 hx with rfl|h'
  .simp_all
  simp_all
theorem WoD{R:Type}{N:Nat}{k4:Int}{b7 b8 b9:Int}{ac:Bool}{ca cE bE cj bk aC:Int}{gZ:Bool}{bb dL dI dJ:Int}{cy:List Kc}{fO:List Int}{dx:List Kc}{c7:List Int}{cg:List Kc}{cR:List Y_KidRun}{g0:Nat}{fP:List Int}{eU:List Kb}{cq:List Kc}{cV:List Kj}{K0:Int->Bool->Kr->Option R}(hN:1048576<N)(ub:cy.length<=8):
  ∀(d j n:Nat) (v:List En),j+d=cy.length->d<n->v.length<=100+j->
  Zam N k4 (Wh cy) b7 b8 b9 ac ca cE bE cj bk aC gZ bb dL dI dJ cy fO dx c7 cg cR g0 fP eU cq cV K0 n (j:Int) v=K0 (cy.length:Int) false ((cy.drop j).foldl (Wfl b8) v)
 |0,j,n+1,v,hj,hn,hv=>by
  simp_all [Zam,WP,Xl,Wc,Xbr,List.foldl_nil]
 |d+1,j,n+1,v,hj,hn,hv=>by
  have hlt:j<cy.length:=by omega
  have kE:=WfG (N:=N) (f:=(b7,(b8,(b9,(ac,(fO,(dx,(v,(c7,(cg,Xe cR g0 (ca,(cE,(bE,(cj,(bk,(aC,(fP,(eU,(cq,(cV,(gZ,(bb,(dL,(dI,dJ)))))))))))))))))))))))) (c:=cy[j].1) (by grind) hN;have hs:=Wmn b8 v cy[j];have cx:∀v',v'=Wfl b8 v cy[j]->Zam N k4 (Wh cy) b7 b8 b9 ac ca cE bE cj bk aC gZ bb dL dI dJ cy fO dx c7 cg cR g0 fP eU cq cV K0 n ((j+1:Nat):Int) v'=K0 (cy.length:Int) false ((cy.drop j).foldl (Wfl b8) v):=λv' nV=>by
   subst nV;rw[WoD hN ub d (j+1) n _ (by omega) (by omega) (by omega),Xah hlt,List.foldl_cons]
  simp only[Zam,Ws,WG hlt,Wu hlt,Ww hlt,Wm (show j<4611686018427387904 by omega),Wa,kE,ret,Xd];have hd:ent v cy[j].1=ent v cy[j].1:=rfl;unfold Wfl at cx;cases he:ent v cy[j].1 with
  |some a=>
   rw[he]at cx;obtain⟨h1,h2,h3,h4⟩:=Wcl he;rw[Xat]at h3;simp only[We (show((a.1:Int)>=0) by omega),Wa];rw[WB,We h3];simp only[Wa,Xk];exact cx _ rfl
  |none=>
   rw[he]at cx;simp only[show decide ((-1:Int)>=0)=false from rfl,Wc];rw[Wt (by simp;omega)];simp only[Wa,Xaz];exact cx _ rfl
 |_,_,0,_,_,h,_=>by omega
theorem Wkh{R:Type}{N:Nat}{eM eN eO eP:Int}{eQ:Bool}{eR eS eT bw iW iX:Int}{iY:Bool}{iZ ja jb gB:Int}{dg:List Kb}{jc:List Int}{jd:List Kc}{gD:List Kb}{gE:List Int}{gF:List Y_KidRun}{je:Nat}{dr:List Int}{dq:List Kc}{fD:List Kj}{K0:Int->Bool->Kv->Option R}(rZ:dg.length<=1000):
  ∀(d j n:Nat) (v:List Rw),j+d=dg.length->d<n->v.length<=1000+j->
  Zat N eM (Wh dg) eN eO eP eQ eR eS eT bw iW iX iY iZ ja jb gB dg jc jd gD gE gF je dr dq fD K0 n (j:Int) v=K0 (dg.length:Int) false (v++WaA (dg.drop j))
 |0,j,n+1,v,hj,hn,hv=>by
  have:j=dg.length:=by omega
  subst this;simp only[Zat,WP (Xl dg.length),Wc,Xbr,WaA,List.filter_nil,Xce,List.append_nil]
 |d+1,j,n+1,v,hj,hn,hv=>by
  have hlt:j<dg.length:=by omega
  have he:WaA (dg.drop j)=if dg[j].2.2= -1 then(dg[j].1,dg[j].2.1)::WaA (dg.drop (j+1))else WaA (dg.drop (j+1)):=by
   rw[Xah hlt];unfold WaA
   grind
  simp only[Zat,Ws,WG hlt,Wu hlt,Ww hlt,Wm (show j<4611686018427387904 by omega),Wa,Wv];rw[he];by_cases h:dg[j].2.2= -1
  .rw[Wf h,Wf h,Wt (by simp;omega)];simp only[Wa];rw[Wkh rZ d (j+1) n _ (by omega) (by omega) (by simp;omega)];simp
  .rw[Wb h,Wb h];rw[Wkh rZ d (j+1) n _ (by omega) (by omega) (by omega)]
 |_,_,0,_,_,h,_=>by omega
variable{N:Nat}{codes:List (List Opn)}{n:Int}{f:Fm}{k:Nat}{code:List Opn}{m:Mm}{x:Kd}
theorem Wul{l:List En}(h:Ris cfE l):l.Pairwise (Ap cfE):=h.imp λh=>.inl h
theorem Wla(hk:k<f.kids.length)(h3:f.kids.length<=3)(l0:code.length<=24)(hF:FOk codes n f)(aP:codes.getD k []=code)(aG:f.kids[k]=x)(hN:1048576<N):
  Zef N f.e (k:Int)=some (((Fm.put (WgS f x k) k).e,()),()):=by
 have hx:=hF.kid k hk;rw[aP,aG]at hx;obtain⟨f0,f1,f2,f3,f4,f5,f6,f7,f8,f9⟩:=fmP f;have bp:=hx.pc;have jJ:=hx.wl;have hsl:=hx.sl;have r9:=hF.buf8;have jL:f.order.length<=3:=by
  have h1:=hF.done
  grind
 have nW:=hF.readsL;have e2:Xc (f.kids.map Kd.e) (Xa (k:Int)) d_KidRun=x.e:=by
  simp_all
 unfold Zef;simp only[f9,Xx];rw[WB,We hk];simp only[Wa,e2];have en:Zhl N x.e.2.2.2.2.2.2.2.2.1=ret (Wcr x.writes):=WdI (show x.writes.length<=1048576 by omega) hN;rw[en];simp only[ret,Xd];have iQ:=Wc3 x.writes;rw[show(0:Int)=((0:Nat):Int)from rfl];rw[WoD (cy:=Wcr x.writes) hN iQ (Wcr x.writes).length 0 N _ (by omega) (by omega) (by grind)];simp only[Xal];have hP6:P6 f.e=f.buf:=rfl;have hcl:Wj .i64 f.e.2.1 1=f.clock+1:=Waj (by have:=hF.clock;omega);rw[hP6,hcl];obtain⟨i1,i2,i3⟩:=Wqv (c:=f.clock+1) (rows:=Wcr x.writes) (Wul hF.bufR) hF.bufR (λx=>Iff.rfl);unfold Zaa;have gu:=WmM (c:=f.clock+1) (Wcr x.writes) f.buf;rw[WoN (rng:=Wuf) (N:=N) Ws7 i2 i1 i3 (λe he=>?_) (by omega)]
 .simp only[Xd];have hP7:P7 x.e=x.seen:=rfl;rw[show(Kd.e x).2.2.2.2.2.2.2.1=x.seen from rfl];rw[Wkh (dg:=x.seen) (by omega) x.seen.length 0 N _ (by omega) (by omega) (by grind)];rw[Wt (by grind)];simp only[Wa,Xal];have hU:∀(g:Fm) (y:Kd),U6 (Xe (f.kids.map Kd.e) k y.e) (S5 (f.reads++WaA x.seen) (S4 (f.order++ [(k:Int)]) (S3 (WcR (f.clock+1) f.buf (Wcr x.writes)) f.e.2.2.2)))=(f.lost,f.regs,f.start,WcR (f.clock+1) f.buf (Wcr x.writes),f.order++ [(k:Int)],f.reads++WaA x.seen,(f.kids.set k y).map Kd.e):=λg y=>by
   rw[Xdv];rfl
  rw[Xk];exact Wn (λz=>some (((f.rv,(f.clock+1,((0:Int),z))),()),())) (hU f {x with phase:=3,pos:=0,marks:=[]})
 .have h1:=(i3 e).1 he;have:=Wex (P:=λe=>0<=e.1/\e.1<=7) hF.bufR (λe he=>(hF.bufE e he).1) (λr hr=>(Woe.1 hr).1) e h1
  grind [Wuf,Wtl]
theorem Wmj(hk:k<f.kids.length)(hF:FOk codes n f)(hx:KOk code f.clock n x)(aG:f.kids[k]=x)(hn:n<=100000)(o:Int):
  Zba N (Fm.e {f with owner:=o}) (k:Int)=some (((Fm.put ({f with owner:=o},f.again x) k).e,()),()):=by
 have h:=Wd7 (N:=N) (f:=Fm.e {f with owner:=o}) (k:=k) (x:=x.e) (by show k<(f.kids.map Kd.e).length;simp_all) hF.regs.len (by have:=hx.tries;show 0<=x.tries/\x.tries<=100000;omega);have e3:U9 (Xe (Q9 (Fm.e {f with owner:=o})) k x.e) (Fm.e {f with owner:=o})=Fm.e {f with owner:=o}:=by
  have:=U9e {f with owner:=o} k x;rw[←aG]at this;simp only[Xba]at this;rw[←aG];exact this
 rw[e3]at h;rw[h];exact Wn (λz=>some ((z,()),())) (U9e {f with owner:=o} k (f.again x))
theorem Wkz(hk:k<f.kids.length)(h3:f.kids.length<=3)(hm:WY m=true)(bI:KC code)(hF:FOk codes n f)(aP:codes.getD k []=code)(hn:n<=100000)(hN:1048576<N):
  Zkj N f.e (k:Int) code m=some (((Wib m f k code).e,()),()):=by
 obtain⟨x,aG⟩:∃x,f.kids[k]=x:=⟨_,rfl⟩;have hx:=hF.kid k hk;rw[aP,aG]at hx;obtain⟨f0,f1,f2,f3,f4,f5,f6,f7,f8,f9⟩:=fmP f;obtain⟨k0,k1,k2,k3,k4,k5,k6,k7,k8,k9,k10⟩:=kdP x;have hsl:=hx.sl;have bp:=hx.pc;have l0:=bI.len;have e2:Xc (f.kids.map Kd.e) (Xa (k:Int)) d_KidRun=x.e:=by
  simp_all
 have e3:U9 (Xe (f.kids.map Kd.e) (Xa (k:Int)) x.e) f.e=f.e:=by
  rw[Xk,U9e,←aG,Xba]
 have e4:Fm.put (f,x) k=f:=by unfold Fm.put;simp only;rw[←aG,Xba]
 unfold Zkj Wib Wr0;simp only[Ws,f9,f3,Xx];rw[Wc8];by_cases hlost:f.lost=true
 .rw[Wf hlost,Wf hlost]
 rw[Wb hlost,Wb hlost];rw[WB,We hk];simp only[Wa,Wc,e2,e3,k0,k4,k7,f2,Wv,WJ hk,aG];by_cases h0:x.phase=0
 .rw[Wf h0,Wf h0,Wm7 hk hm bI hF aP aG h0 hn hN];rfl
 .rw[Wb h0,Wb h0];by_cases h1:x.phase=1
  .rw[Wf h1,Wf h1];by_cases ho:f.owner=0
   .rw[Wf ho,Wf ho,Waj (by omega),Xk];exact Wp9 rfl rfl rfl
   simp_all
  .rw[Wb h1,Wb h1];by_cases h2:x.phase=2
   .rw[Wf h2,Wf h2];unfold Wh;by_cases hp:x.pos=(x.seen.length:Int)
    .rw[Wf hp,Wf hp,Wla hk h3 l0 hF aP aG hN];rfl
    .rw[Wb hp,Wb hp];have hpos:=hx.pos;have eK:inb x.pos x.seen.length=true:=by grind [inb]
     rw[eK];have hg:Xc x.seen (Xa x.pos) ((0,0,0):En)=Wbt x.seen x.pos (0,0,0):=rfl;simp only[Wa,hg];have kE:=WfG (N:=N) (f:=f.e) (c:=(Wbt x.seen x.pos (0,0,0)).1) (by show f.buf.length<=1048576;have:=hF.buf8;omega) hN;rw[show f.e.2.2.2.2.2.2.1=f.buf from rfl]at kE;rw[kE];simp only[ret,Xd,f6];have hsz:S2 (0:Int) f.e=Fm.e {f with owner:=0}:=rfl;have gj:Zba N (U9 (Xe (f.kids.map Kd.e) (Xa (k:Int)) x.e) (S2 0 f.e)) (k:Int)=some (((Fm.put ({f with owner:=0},f.again x) k).e,()),()):=by
      grind [U9e,Xk,U9,Xe,Kd.e,Fm.e,Xba,Wmj]
     unfold WuO;have nX:Wj .i64 x.pos 1=x.pos+1:=Waj (by omega);rw[nX];cases he:ent f.buf (Wbt x.seen x.pos (0,0,0)).1 with
     |some a=>
      obtain⟨g1,g2,g3,g4⟩:=Wcl he;rw[Xat]at g3;rw[Xde,Xs g3]at g4;injection g4 with g4;simp only[We (show((a.1:Int)>=0) by omega),Wa];rw[WB,We g3];simp only[Wa,Ww g3,g4];by_cases hv:a.2.2.2=(Wbt x.seen x.pos (0,0,0)).2.2
      .rw[Wf hv,Wf hv,Xk];exact Wp9 rfl rfl rfl
      simp_all
     |none=>
      simp only[show decide ((-1:Int)>=0)=false from rfl,Wc];by_cases hv:(-1:Int)=(Wbt x.seen x.pos (0,0,0)).2.2
      .rw[Wf hv,Wf hv,Xk];exact Wp9 rfl rfl rfl
      simp_all
   simp_all
end
section
section
variable{codes:List (List Opn)}{n:Int}{f f':Fm}{k:Nat}{code:List Opn}{m:Mm}{x y:Kd}
theorem FOk.len3(h:FOk codes n f)(h3:codes.length<=3):f.order.length<=3:=by
 have h1:=h.done;have:=Xef (p:=λx:Kd=>decide (x.phase=3)) (l:=f.kids);have:=h.len;omega
theorem FOk.put1(h:FOk codes n f)(hk:k<f.kids.length)(aP:codes.getD k []=code){o:Int}{l:Bool}(ho:0<=o/\o<=f.kids.length)(hy:KOk code f.clock (n+1) y)(hp:f.kids[k].phase≠3)(hyp:y.phase≠3):
  FOk codes (n+1) (Fm.put ({f with owner:=o,lost:=l},y) k) where
 len:=by show(f.kids.set k y).length=_;rw[Xav];exact h.len
 regs:=h.regs
 clock:=h.clock
 done:=by
  show f.order.length=(f.kids.set k y).countP _;rw[Xgt hk,Wb (by simp_all),Wb (by simp_all)];exact h.done
 bufR:=h.bufR
 bufE:=h.bufE
 readsL:=h.readsL
 readsE:=h.readsE
 owner:=by show 0<=o/\o<=((f.kids.set k y).length:Int);simp_all
 kid:=λi hi=>by
  change i<(f.kids.set k y).length at hi;rw[Xav]at hi;show KOk (codes.getD i []) f.clock (n+1) (f.kids.set k y)[i];rw[Xci];by_cases he:k=i
  .simp_all
  .rw[Wb he];exact(h.kid i hi).wk (by omega) (by omega)
theorem FOk.wk(h:FOk codes n f){n':Int}(hn:n<=n'):FOk codes n' f:=
 {h with kid:=λk hk=>(h.kid k hk).wk (by omega) hn}
theorem WkY(h:∀e∈x.seen,(0<=e.1/\e.1<=7)/\(0<=e.2.1/\e.2.1<=65535)/\ -1<=e.2.2/\e.2.2<=x.since):Wjb (WaA x.seen):=by
 intro r hr;unfold WaA at hr
 grind
theorem Wmf(l:List En):(WaA l).length<=l.length:=by
 simp[WaA,Xx,List.length_filter_le]
theorem WgU{c:Int}:∀{rows:List Rw} {M:List En},Ris cfE M->Ris cfE (WcR c M rows)
 | [],_,h=>h
 |r::rows,M,h=>WgU (rows:=rows) (Wcd Ws7 h)
theorem Wrs(hF:FOk codes n f)(hk:k<f.kids.length)(bI:code.length<=24)(aP:codes.getD k []=code)(aG:f.kids[k]=x)(h2:x.phase=2):
  FOk codes (n+1) (Fm.put (WgS f x k) k):=by
 have hx:=hF.kid k hk;rw[aP,aG]at hx;have hc:=hF.clock;unfold WgS Fm.put;refine{len:=?_,regs:=hF.regs,clock:=?_,done:=?_,bufR:=WgU hF.bufR,bufE:=?_,readsL:=?_,readsE:=?_,owner:=?_,kid:=?_}
 .simp only[Xav];exact hF.len
 .grind
 .simp only[Xw,Xgc];rw[Xgt hk,aG,Wb (by simp[h2]),Wf (by simp),←hF.done];rfl
 .simp only;refine Wex hF.bufR (λe he=>?_) λr hr=>?_
  .have:=hF.bufE e he;omega
  .have:=Wgp r hr;grind
 .have h1:=hF.readsL;have h2:=Wmf x.seen;have h3:=hx.sl;have h4:=hx.pc
  grind
 .intro r hr;rcases Xn.1 hr with hr|hr
  .exact hF.readsE r hr
  .exact WkY hx.seen r hr
 .simp_all
 .intro i hi;simp only[Xav]at hi;simp only[Xci];by_cases he:k=i
  .subst he;rw[Wf rfl,aP];refine KOk.wk (c:=f.clock) (n:=n) ?_ (by omega) (by omega);exact{hx with marks:=(λh=>by simp_all),pos:=⟨Xcs _,by simp_all⟩,phase:=by simp_all}
  .rw[Wb he];exact(hF.kid i hi).wk (by omega) (by omega)
theorem WsQ(hk:k<f.kids.length)(hm:WY m=true)(bI:KC code)(hF:FOk codes n f)(aP:codes.getD k []=code):FOk codes (n+1) (Wib m f k code):=by
 obtain⟨x,aG⟩:∃x,f.kids[k]=x:=⟨_,rfl⟩;have hx:=hF.kid k hk;rw[aP,aG]at hx;have e4:Fm.put (f,x) k=f:=by unfold Fm.put;simp only;rw[←aG,Xba]
 have hFw:=hF.wk (show n<=n+1 by omega);unfold Wib Wr0;split
 .exact hFw
 rw[WJ hk,aG];split
 .rename_i h0;obtain⟨h1,h2⟩:=WtJ bI hF hx h0 hm;have hnp:(Woh m f x code).2.phase≠3:=by
   grind [Woh,Whn,Wjj,Fm.again]
  have:=h1;have key:∀q:Fm×Kd,(q.1=f\/q.1={f with lost:=true})->KOk code f.clock (n+1) q.2->q.2.phase≠3->FOk codes (n+1) (Fm.put q k):=by
   rintro⟨g,y⟩ hg hy hp;simp only at hg hy hp;rcases hg with rfl|rfl
   .exact FOk.put1 (o:=g.owner) (l:=g.lost) hF hk aP hF.owner hy (by simp_all) hp
   .exact FOk.put1 (o:=f.owner) (l:=true) hF hk aP hF.owner hy (by simp_all) hp
  simp_all
 .split
  .rename_i h1;split
   .refine FOk.put1 (o:=(k:Int)+1) (l:=f.lost) hF hk aP (by omega) ?_ (by simp_all) (by simp_all);refine KOk.wk (c:=f.clock) (n:=n) ?_ (by omega) (by omega);exact{hx with marks:=(λh=>by simp_all),phase:=by simp_all}
   simp_all
  .split
   .rename_i h2;split
    .exact Wrs hF hk bI.len aP aG h2
    .simp only;split
     .refine FOk.put1 (o:=f.owner) (l:=f.lost) hF hk aP hF.owner ?_ (by simp_all) (by simp_all);refine KOk.wk (c:=f.clock) (n:=n) ?_ (by omega) (by omega);exact{hx with pos:=by(have:=hx.pos;grind)}
     .refine FOk.put1 (o:=0) (l:=f.lost) hF hk aP (by omega) (Wog hx rfl hF.regs hF.clock.1) (by simp_all) (by show(0:Int)≠3;omega)
   simp_all
theorem Wqb{rv:Int}{regs:List Int}{writes:List Rw}(hr:Vals 4 regs)(hn:0<=n):FOk codes n (Wc2 rv regs writes codes.length) where
 len:=by simp[Wc2]
 regs:=hr
 clock:=by simp[Wc2]
 done:=by
  simp only[Wc2,Xbp];rw[List.countP_replicate,Wb (by simp)]
 bufR:=by
  grind [Ris,Wc2,Wns,cfE]
 bufE:=λe he=>by
  obtain⟨r,hr,rfl⟩:=Xv.1 he;have:=Wgp r hr
  grind [Wc2]
 readsL:=by simp[Wc2]
 readsE:=λr hr=>by cases hr
 owner:=by simp[Wc2]
 kid:=λk hk=>by
  simp only[Wc2,List.getElem_replicate];exact{pc:=by simp,regs:=hr,rows:=(λr hr=>by cases hr),wl:=by simp,sl:=by simp,since:=by simp,tries:=by simp;omega,seen:=(λe he=>by cases he),marks:=(λ_=>⟨by simp[stk],(λq hq=>by cases hq),List.Pairwise.nil⟩),pos:=by simp,pb:=(λh=>by cases h),phase:=by simp,out:=by simp}
end
end
section
theorem WeV{α β R:Type}{body:Int->α->List β->(List β->Option R)->Option R}{K:Int->List β->Option R}{f:α->β}:∀(l:List α) (d r:List β),l.length<=r.length->
  (∀(j:Nat) x (v:List β) k,x∈l->j<v.length->body j x v k=k (v.set j (f x)))->Wbq body K l d.length (d++r)=K ((d.length+l.length:Nat):Int) (d++(l.map f++r.drop l.length))
 | [],d,r,_,_=>by simp[Wbq]
 |x::l,d,[],h,_=>by simp at h
 |x::l,d,y::r,h,hb=>by
  rw[Wbq,hb d.length x _ _ (Xj ..) (by simp),We1];have:=WeV (body:=body) (K:=K) (f:=f) l (d++ [f x]) r (by grind) λj z v k hz=>hb j z v k (Xf _ hz);simp only[Xw,Xgc,Xaw,List.singleton_append]at this;rw[this];simp only[Xq,Xaf,List.drop_succ_cons,Xbb];rw[show d.length+1+l.length=d.length+(l.length+1) by omega]
theorem WhZ{α:Type}{R:Type}{l:List α}{p:α->Bool}{lp:Nat->Int->Option R}{N:Nat}{K0:Int->Option R}{K1:Option R}(hl:l.length<N)(kG:l.length<=1048576)(hs:∀n (j:Nat) (h:j<l.length),lp (n+1) (j:Int)=bif p l[j]then K0 j else lp n ((j+1:Nat):Int))(he:∀n,lp (n+1) (l.length:Int)=K1):lp N 0=match fnd p l 0 with|some r=>K0 r.1|none=>K1:=by
 have h1:=Wy (l:=l) (V:=Unit) (lp:=λn j _=>lp n j) hl (body:=λj x v k=>bif p x then K0 j else k v) (K:=λ_ _=>K1) (λn j v h=>hs n j h) (λn v=>he n) ();refine(h1.trans (Wds (p:=p) (E:=λj _=>K0 j) l 0 () λj x v k _=>rfl)).trans ?_;cases fnd p l 0<;>rfl
theorem Wj3{α:Type}{p:α->Bool}:∀(l:List α) (j:Nat),(fnd p l j).isSome=l.any p
 | [],_=>rfl
 |x::l,j=>by
  unfold fnd;rw[List.any_cons];cases p x
  .simp[Wj3 l]
  .rfl
variable{N:Nat}
theorem WlS{f:Fm}(h3:f.kids.length<=3)(hN:1048576<N):Zqb N f.e=ret (Wcm f):=by
 unfold Zqb Z9 Zn;have e:f.e.2.2.2.2.2.2.2.2.2=f.kids.map Kd.e:=rfl;rw[e];have hl:(f.kids.map Kd.e).length<=3:=by simpa using h3
 have h1:=WhZ (l:=f.kids.map Kd.e) (p:=λx=>x.1 !=3) (N:=N) (lp:=λn j=>Zd N (f.kids.map Kd.e) (λaw=>(some ((),(aw,())))) (λaB aU=>(some ((),((-1:Int),())))) n j) (K0:=λj=>some ((),(j,()))) (K1:=some ((),((-1:Int),()))) (by omega) (by omega)
  (λn j hj=>by
   simp only[Zd,WG hj,Wu hj,Ww hj,Wm (show j<4611686018427387904 by omega),Wa,Zsa,Xd])
  (λn=>by simp only[Zd,WP (Xl _),Wc])
 rw[h1];have h2:=Wj3 (p:=λx:Y_KidRun=>x.1 !=3) (f.kids.map Kd.e) 0;have h3:(f.kids.map Kd.e).any (λx=>x.1 !=3)= !Wcm f:=by
  unfold Wcm;rw[List.any_map,←Wa4];have:((λx:Y_KidRun=>x.1 !=3)∘Kd.e)= λx:Kd=>!decide (x.phase=3):=by
   funext x;show(x.phase !=3)= !decide (x.phase=3);by_cases h:x.phase=3<;>simp[h]
  rw[this]
 rw[h3]at h2;cases hf:fnd (λx:Y_KidRun=>x.1 !=3) (f.kids.map Kd.e) 0 with
 |some r=>
  rw[hf]at h2;simp only[Xd,We (show((r.1:Int)>=0) by omega),Xo,ret];rw[show Wcm f=false by simpa using h2.symm]
 |none=>
  rw[hf]at h2;rw[show Wcm f=true by simpa using h2.symm];rfl
theorem Wlx{f:Fm}(h:f.buf.length<=1000)(hN:1048576<N):Ziw N f.e=ret (WgP f):=by
 unfold Ziw;have e:f.e.2.2.2.2.2.2.1=f.buf:=rfl;rw[e];have h1:=Wy (l:=f.buf) (V:=List Rw) (R:=Unit×(List Rw×Unit)) (lp:=λn j v=>Zcy N f.buf (Wh f.buf) (λt9 ar an=>(some ((),(an,())))) n j v) (n:=N) (by omega)
  (body:=λj x v k=>bif Wz (v.length+ [(x.1,x.2.1)].length)then k (Xg v [(x.1,x.2.1)])else none) (K:=λ_ v=>ret v)
  (λn i v hi=>by simp only[Zcy,WG hi,Wu hi,Ww hi,Wm (show i<4611686018427387904 by omega),Wa])
  (λn v=>by simp only[Zcy,WP (Xl f.buf.length),Wc]) []
 refine h1.trans ?_;rw[WbU (f:=λx:En=>(x.1,x.2.1)) f.buf 0 [] (by simp;omega) (λj x v k _=>rfl)];rfl
theorem Wk3{f:Fm}(hr:Vals 4 f.regs)(h3:f.kids.length<=3)(hx:∀x∈f.kids,x.regs.length<=1000)(hN:1048576<N):Ziv N f.e=ret (WfC f):=by
 unfold Ziv WfC;have e:f.e.2.2.2.2.1=f.regs:=rfl;have e2:f.e.2.2.2.2.2.2.2.2.2=f.kids.map Kd.e:=rfl;have jM:Wco f.regs=true:=WbZ.2 hr;have hl:=hr.len;have hm:(f.kids.map Kd.e).length=f.kids.length:=by simp
 rw[e,e2,WcW (by omega) hN,Wf ⟨jM,h3⟩];simp only[ret,Xd,jM,Xo,Wc];rw[Wk (by unfold Wh;omega),Wa9 (by omega)];simp only[ret,Xd,Wc];have h1:=Wy (l:=f.kids.map Kd.e) (V:=List Int) (R:=Unit×(List Int×Unit)) (lp:=λn j v=>Zbh N (f.kids.map Kd.e) (Wh (f.kids.map Kd.e)) (λbR gz dZ=>(some ((),(dZ,())))) n j v) (n:=N) (by omega)
  (body:=λj x v k=>bif inb j v.length then(bif x.2.2.2.2.2.1==(1:Int)then((Z8 N (P6 x) (4:Int)).bind λbL=>(bif bL.2.1 then(bif inb 0 (P6 x).length then(bif inb j (Xe v j.toNat 0).length then k (Xe (Xe v j.toNat 0) j.toNat (Xc (P6 x) (Xa (0:Int)) 0))else none)else none)else k (Xe v j.toNat 0)))else k (Xe v j.toNat 0))else none) (K:=λ_ v=>ret v)
  (λn i v hi=>by simp only[Zbh,Ws,WG hi,Wu hi,Ww hi,Wm (show i<4611686018427387904 by omega),Wa];rfl)
  (λn v=>by simp only[Zbh,WP (Xl _),Wc]) f.regs
 refine h1.trans ?_;have h2:=WeV (β:=Int) (K:=λ_ v=>ret v) (f:=λx:Y_KidRun=>if P5 x=1/\Wco (P6 x)=true then Wbt (P6 x) 0 0 else 0) (f.kids.map Kd.e) [] f.regs (by omega) (body:=λj x v k=>bif inb j v.length then(bif x.2.2.2.2.2.1==(1:Int)then((Z8 N (P6 x) (4:Int)).bind λbL=>(bif bL.2.1 then(bif inb 0 (P6 x).length then(bif inb j (Xe v j.toNat 0).length then k (Xe (Xe v j.toNat 0) j.toNat (Xc (P6 x) (Xa (0:Int)) 0))else none)else none)else k (Xe v j.toNat 0)))else k (Xe v j.toNat 0))else none)
  (λj x v k qN hj=>by
   obtain⟨y,hy,rfl⟩:=Xv.1 qN;have ud:=hx y hy;have p5:(Kd.e y).2.2.2.2.2.1=y.out:=rfl;have qO:P5 (Kd.e y)=y.out:=rfl;have p6:P6 (Kd.e y)=y.regs:=rfl;simp only[p5,qO,p6,WB,We hj,Wa,WcW (show y.regs.length<=1048576 by omega) hN,ret,Xd,Wv,Xk,Xav];by_cases h1:y.out=1
   .rw[Wf h1];cases jM:Wco y.regs
    .rw[Wb (by simp)];rfl
    .have:y.regs.length=4:=(WbZ.1 jM).len;rw[Wf ⟨h1,rfl⟩,show inb (0:Int) y.regs.length=true by rw[this];rfl];simp only[Wa,Xcq];rfl
   .rw[Wb h1,Wb (λh=>h1 h.1)])
 simp only[Xbp,Xaq,Xx,List.map_map]at h2;exact h2
theorem WiT{rv:Int}{regs:List Int}{writes:List Rw}{kids:Nat}(hr:regs.length<=1000)(hw:writes.length<=1000)(hk:kids<=3)(hN:1048576<N):
  Zhy N rv regs writes (kids:Int)=ret (Wc2 rv regs writes kids).e:=by
 unfold Zhy;rw[Wa9 (by omega),WdI (by omega) hN];have hn:=Wc3 writes;simp only[ret,Xd];have h1:=Wy (l:=Wcr writes) (V:=List En) (R:=Unit×(Y_Family×Unit)) (lp:=λn j v=>Zcl N regs kids (Wh (Wcr writes)) rv (Wcr writes) regs (λt25 qf cg=>
  (Za7 N regs kids rv regs (Wcr writes) cg
 (λlK t50 lL=>
  (some ((),((rv,((0:Int),((0:Int),(false,(regs,(Wcr writes,(cg,(([]:List Int),(([]:List Kc),lL))))))))),()))))
 N (0:Int) ([]:List Y_KidRun))) n j v) (n:=N) (by omega)
  (body:=λj x v k=>bif Wz (v.length+ [(x.1,(x.2,(0:Int)))].length)then k (Xg v [(x.1,(x.2,(0:Int)))])else none) (K:=λ_ cg=>(Za7 N regs kids rv regs (Wcr writes) cg
 (λlK t50 lL=>
  (some ((),((rv,((0:Int),((0:Int),(false,(regs,(Wcr writes,(cg,(([]:List Int),(([]:List Kc),lL))))))))),()))))
 N (0:Int) ([]:List Y_KidRun)))
  (λn i v hi=>by simp only[Zcl,WG hi,Wu hi,Ww hi,Wm (show i<4611686018427387904 by omega),Wa])
  (λn v=>by simp only[Zcl,WP (Xl _),Wc]) []
 refine h1.trans ?_;rw[WbU (f:=λx:Rw=>(x.1,(x.2,(0:Int)))) (Wcr writes) 0 [] (by simp;omega) (λj x v k _=>rfl)];simp only[Xaq];obtain⟨b,hb⟩:∃b,(Wcr writes).map (λx:Rw=>(x.1,(x.2,(0:Int))))=b:=⟨_,rfl⟩;rw[hb];have lp:∀(d j n:Nat) (v:List Y_KidRun),j+d=kids->d<n->v=Xp j (Kd.e {regs:=regs})->Za7 N regs kids rv regs (Wcr writes) b (λlK t50 lL=>(some ((),((rv,((0:Int),((0:Int),(false,(regs,(Wcr writes,(b,(([]:List Int),(([]:List Kc),lL))))))))),())))) n (j:Int) v=some ((),((rv,((0:Int),((0:Int),(false,(regs,(Wcr writes,(b,(([]:List Int),(([]:List Kc),Xp kids (Kd.e {regs:=regs})))))))))),())):=by
  intro d
  induction d with
  |zero=>
   intro j n v hj hn hv;obtain⟨n,rfl⟩:∃n',n=n'+1:=⟨n-1,by omega⟩;have:j=kids:=by omega
   subst this;simp only[Za7,Int.lt_irrefl,decide_false,Wc,hv]
  |succ d ih=>
   intro j n v hj hn hv;obtain⟨n,rfl⟩:∃n',n=n'+1:=⟨n-1,by omega⟩;have hlt:(j:Int)<(kids:Int):=by omega
   have kI:v.length=j:=by rw[hv];simp
   simp only[Za7,We hlt,Wa,Wa9 (show regs.length<=1048576 by omega),ret,Xd];rw[Wt (by simp;omega)];simp only[Wa];rw[Wm (by omega)];refine ih (j+1) n _ (by omega) (by omega) ?_;rw[hv,List.replicate_succ'];rfl
 have:=lp kids 0 N [] (by omega) (by omega) rfl;refine this.trans ?_;unfold Wc2 Fm.e;simp only[List.map_replicate,hb]
end
end Go.Sx
