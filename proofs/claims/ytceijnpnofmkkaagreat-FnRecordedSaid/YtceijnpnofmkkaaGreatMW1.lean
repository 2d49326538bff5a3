/- Plain laws of the Lean functions. -/
import Derived.Test.YtceijnpnofmkkaaGreatT2
open Option renaming bind_some→Xc
open Nat renaming le_refl→Xm,zero_add→Xbc,le_trans→Xco,add_zero→Xaz,add_assoc→Xay,sub_zero→Xdj
open List renaming append→Xf,length_cons→Xr,mem_cons_self→Xg,append_eq→Xal,mem_cons_of_mem→Xe,all_eq_true→Xag,getD→Xd,mem_cons→Xq,set→Xk,set_set→Xdl,take_succ_eq_append_getElem→Xbf,countP_le_length→Xfb,length→Xa,length_append→Xs,length_dropLast→Xdt,append_inj'→Xdy,append_assoc→Xbo,cons_append→Xba,dropLast_concat→Xff,getElem_mem→Xo,length_set→Xah,pairwise_cons→Xv,mergeSort_perm→Xed,getElem_of_mem→Xao,pairwise_iff_getElem→Xak,mem_iff_getElem→Xcv,getElem_set→Xau,range→Xde,replicate→Xu,map_append→Xz,map_cons→Xae,map_nil→Xbt,map_set→Xgd,length_map→Xab,take→Xaf,set_getElem_self→Xbd,range'→Xhk,mem_range'_1→Xhj,mem_append→Xn,pairwise_append→Xam,mem_singleton→Xac,getElem?_eq_getElem→Xp,drop_length→Xdk,drop_eq_getElem_cons→Xbm,drop_zero→Xby,countP_set→Xht,length_singleton→Xgr,length_nil→Xcm,mem_map→Xw,nil_append→Xbn
open Bool renaming not_true→Xt,and_eq_true→Xi,or_eq_true→Xcb,not_eq_true'→Xar,not_eq_true→Xge,false_or→Xew,toNat_false→Xgf,false_and→Xen,true_and→Xce,or_false→Xft,or_eq_false_iff→Xdw,not_eq_false'→Xfo
open Int renaming toNat→Xb,toNat_natCast→Xj,le_refl→Xx
namespace Go.Sx
set_option linter.unusedVariables false
set_option linter.unusedSimpArgs false
section
def WbQ(v:Int):Bool:=decide (0<=v)&&decide (v<=65535)
theorem WrJ{N:Nat}{x a b:Int}:Zcj N x a b=ret (decide (a<=x)&&decide (x<=b)):=by
 unfold Zcj;by_cases h:a<=x<;>simp[h]
theorem WV{N:Nat}{x a b:Int}:Zi N x a b=ret (decide (a<=x)&&decide (x<=b)):=by
 unfold Zi;by_cases h:a<=x<;>simp[h]
theorem WcD{α:Type}{p:α->Bool}(l:List α):(l.any λx=>!p x)= !l.all p:=by
 grind
abbrev Rw:=Int×Int
def WaF(v:Int):Bool:=decide (0<=v)&&decide (v<=7)
def Wo6(r:Rw):Bool:=WaF r.1&&WbQ r.2
def Wav(l:List Rw):Bool:=decide (l.length<=300)&&l.all Wo6
def WeX(l:List Int):Bool:=decide (l.length=8)&&l.all WbQ
theorem WfY{N:Nat}{v:Int}:Zh8 N v=ret (WbQ v):=by
 unfold Zh8;simp only[WrJ,ret,Xc];rfl
theorem WaB{N:Nat}{v:Int}:Zaz N v=ret (WbQ v):=by
 unfold Zaz;simp only[WV,ret,Xc];rfl
theorem WmW{N:Nat}{v:Int}:Ziv N v=ret (WaF v):=by
 unfold Ziv;simp only[WrJ,ret,Xc];rfl
theorem WaQ{N:Nat}{v:Int}:Zbm N v=ret (WaF v):=by
 unfold Zbm;simp only[WV,ret,Xc];rfl
theorem WmD{N:Nat}{l:List Int}(hl:l.length<=1048576)(hN:1048576<N):Ziu N l=ret (WeX l):=by
 unfold Ziu WeX;by_cases h:l.length=8
 .have e:(Wj l !=8)=false:=by simp[Wj,h]
  rw[e];simp only[Wc];have h1:=WC (l:=l) (V:=Unit) (R:=Unit×Kq) (lp:=λn j v=>Zdk N l (some ((),(false,()))) (λi8 t9=>some ((),(true,()))) n j) (n:=N) (by omega)
   (body:=λj x v k=>bif !WbQ x then some ((),(false,()))else k v) (K:=λ_ v=>some ((),(true,())))
   (λn i v hi=>by simp only[Zdk,W4 hi,Ww hi,Wx hi,Wn (show i<4611686018427387904 by omega),We,WfY,ret,Xc])
   (λn v=>by simp[Zdk,Wae,Xm,Wc]) ()
  refine h1.trans ?_;rw[WaO (p:=λx=>!WbQ x) (E:=λ_=>some ((),(false,()))) l 0 () (λj x v k _=>rfl),WcD];cases l.all WbQ<;>simp[h]
 grind [Wj]
theorem Wdo{N:Nat}{l:List Int}(hl:l.length<=1048576)(hN:1048576<N):Zad N l 8=ret (WeX l):=by
 unfold Zad WeX;have h1:=WC (l:=l) (V:=Unit) (R:=Unit×Kq) (lp:=λn j v=>Za2 N l 8 (some ((),(false,()))) (λi8 t9=>some ((),((Wj l)==(8:Int),()))) n j) (n:=N) (by omega)
  (body:=λj x v k=>bif !WbQ x then some ((),(false,()))else k v) (K:=λ_ v=>some ((),((Wj l)==(8:Int),())))
  (λn i v hi=>by simp only[Za2,W4 hi,Ww hi,Wx hi,Wn (show i<4611686018427387904 by omega),We,WaB,ret,Xc])
  (λn v=>by simp[Za2,Wae,Xm,Wc]) ()
 refine h1.trans ?_;rw[WaO (p:=λx=>!WbQ x) (E:=λ_=>some ((),(false,()))) l 0 () (λj x v k _=>rfl),WcD];have e:((Wj l)==(8:Int))=decide (l.length=8):=by
  grind [Wj]
 rw[e];cases l.all WbQ<;>simp
theorem Wa5{N:Nat}{l:List Rw}(hl:l.length<=1048576)(hN:1048576<N):Za9 N l=ret (Wav l):=by
 unfold Za9 Wav;have h1:=WC (l:=l) (V:=Unit) (R:=Unit×Kq) (lp:=λn j v=>Zdm N l (some ((),(false,()))) (λi8 t9=>some ((),(decide ((Wj l)<=(300:Int)),()))) n j) (n:=N) (by omega)
  (body:=λj x v k=>bif !Wo6 x then some ((),(false,()))else k v) (K:=λ_ v=>some ((),(decide ((Wj l)<=(300:Int)),())))
  (λn i v hi=>by
   simp only[Zdm,W4 hi,Ww hi,Wx hi,Wn (show i<4611686018427387904 by omega),We,WaB,WaQ,ret,Xc,Wo6];cases WaF l[i].1<;>rfl)
  (λn v=>by simp[Zdm,Wae,Xm,Wc]) ()
 refine h1.trans ?_;rw[WaO (p:=λx=>!Wo6 x) (E:=λ_=>some ((),(false,()))) l 0 () (λj x v k _=>rfl),WcD];have e:decide (Wj l<=300)=decide (l.length<=300):=by apply decide_eq_decide.2;simp[Wj];omega
 rw[e];cases l.all Wo6<;>simp
theorem Wuv{α:Type}{l:List α}(h:l.length<=1048576):WM l.length=true:=by grind [WM]
end
section
abbrev Wd:=Int×Int×Int
abbrev Mm:=Int×List Wd
theorem WgX{α:Type}(a:Option α):WfS a a=a:=by unfold WfS;simp
def WrR(clock:Int)(w:Wd):Bool:=WbQ w.1&&((decide (0<=w.2.1)&&decide (w.2.1<=clock))&&(decide (0<=w.2.2)&&decide (w.2.2<=99)))
def W2(m:Mm):Bool:=decide (m.2.length=8)&&((decide (0<=m.1)&&decide (m.1<=1000000))&&m.2.all (WrR m.1))
theorem Wba{N:Nat}{m:Mm}(hl:m.2.length<=1048576)(hN:1048576<N):Zci N m=ret (W2 m):=by
 unfold Zci W2;have h1:=WC (l:=m.2) (V:=Unit) (R:=Unit×Kq) (lp:=λn j v=>Zen N m.2 m (some ((),(false,()))) (λcR fG=>
  (bif (Wj m.2)==(8:Int)then
  ((Zi N m.1 (0:Int) (1000000:Int)).bind λdX=>
  (some ((),(dX.2.1,()))))
  else
  (some ((),(false,()))))) n j) (n:=N) (by omega)
  (body:=λj x v k=>bif !WrR m.1 x then some ((),(false,()))else k v) (K:=λ_ v=>(bif (Wj m.2)==(8:Int)then
  ((Zi N m.1 (0:Int) (1000000:Int)).bind λdX=>
  (some ((),(dX.2.1,()))))
  else
  (some ((),(false,())))))
  (λn i v hi=>by
   simp only[Zen,W4 hi,Ww hi,Wx hi,Wn (show i<4611686018427387904 by omega),We,WaB,WV,ret,Xc,WrR];cases WbQ m.2[i].1<;>cases(decide (0<=m.2[i].2.1)&&decide (m.2[i].2.1<=m.1))<;>cases(decide (0<=m.2[i].2.2)&&decide (m.2[i].2.2<=99))<;>rfl)
  (λn v=>by simp[Zen,Wae,Xm,Wc]) ()
 refine h1.trans ?_;rw[WaO (p:=λx=>!WrR m.1 x) (E:=λ_=>some ((),(false,()))) m.2 0 () (λj x v k _=>rfl),WcD];have e:((Wj m.2)==(8:Int))=decide (m.2.length=8):=by
  grind [Wj]
 simp only[e,WV,ret,Xc];cases m.2.all (WrR m.1)<;>cases decide (m.2.length=8)<;>simp
def wd0(v:Int):Wd:=(v,(0,0))
def Wkh(l:List Int):Mm:=(0,l.map wd0)
theorem Wcg{α β R:Type}{body:Int->α->List β->(List β->Option R)->Option R}{K:Int->List β->Option R}{f:α->β}:∀(l:List α) (j:Nat) (o:List β),o.length+l.length<=1000000->
  (∀(j:Nat) x (v:List β) k,x∈l->body j x v k=bif WM (v.length+ [f x].length)then k (Xf v [f x])else none)->Wbw body K l j o=K ((j+l.length:Nat):Int) (o++l.map f)
 | [],j,o,_,_=>by simp[Wbw]
 |x::l,j,o,h,hb=>by
  rw[Xr]at h;rw[Wbw,hb j x o _ (Xg ..),WB (by simp;omega)];simp only[We];rw[Wcg l (j+1) _ (by grind [Xal]) λj y v k hy=>hb j y v k (Xe _ hy)];rw[Xr,show j+1+l.length=j+(l.length+1) by omega];simp
theorem WjR{N:Nat}{l:List Int}(h:WeX l=true)(hN:1048576<N):Zch N l=some ((),(Wkh l,(true,()))):=by
 have hl:l.length=8:=by grind [WeX]
 unfold Zch;simp only[Wdo (show l.length<=1048576 by omega) hN,ret,Xc,h,Xt,Wc];have h1:=WC (l:=l) (V:=List Wd) (R:=Unit×(Mm×Kq)) (lp:=λn j v=>Zdn N l (λaH ba aR=>(some ((),(((0:Int),aR),(true,()))))) n j v) (n:=N) (by omega)
  (body:=λj x v k=>bif WM (v.length+ [wd0 x].length)then k (Xf v [wd0 x])else none) (K:=λ_ v=>some ((),(((0:Int),v),(true,()))))
  (λn i v hi=>by simp only[Zdn,W4 hi,Ww hi,Wx hi,Wn (show i<4611686018427387904 by omega),We,wd0])
  (λn v=>by simp[Zdn,Wae,Xm,Wc]) []
 refine h1.trans ?_;rw[Wcg (f:=wd0) l 0 [] (by simp;omega) (λj x v k _=>rfl)];rfl
theorem WF{m:Mm}(h:W2 m=true):m.2.length=8/\0<=m.1/\m.1<=1000000/\∀w∈m.2,WrR m.1 w=true:=by
 simp_all [W2,Xi,Wh,Xag]
def tick(m:Mm):Mm×Int:=if m.1<1000000 then((m.1+1,m.2),m.1+1)else(m,0)
theorem WmF{N:Nat}{m:Mm}(h:W2 m=true)(hN:1048576<N):Zp1 N m=some ((),((tick m).1,((tick m).2,()))):=by
 obtain⟨h8,h0,h1,_⟩:=WF h;have e:Zcl N m=ret m:=by grind [Zcl,WB]
 unfold Zp1 tick;simp only[e,Wba (show m.2.length<=1048576 by omega) hN,ret,Xc,h,Xt,Wc];by_cases hc:m.1<1000000
 .have e2:(m.1==1000000)=false:=by simp;omega
  have e3:Wm .i64 m.1 1=m.1+1:=WJ (by unfold I64;omega)
  grind
 grind
abbrev Pb:=Int×Int×Int×Int
def Wlg(p:Pb):Bool:=WaF p.1&&((decide (0<=p.2.1)&&decide (p.2.1<=4))&&((decide (0<=p.2.2.1)&&decide (p.2.2.1<=1000000))&&WbQ p.2.2.2))
theorem Wm7{N:Nat}{p:Pb}:Zm1 N p=ret (Wlg p):=by
 unfold Zm1 Wlg;simp only[WaQ,WV,WaB,ret,Xc];cases WaF p.1<;>cases(decide (0<=p.2.1)&&decide (p.2.1<=4))<;>cases(decide (0<=p.2.2.1)&&decide (p.2.2.1<=1000000))<;>simp
def W5(m:Mm)(rv:Int)(p:Pb):Pb:=
 let w:=Xd m.2 (Xb p.1) (0,(0,0))
 bif p.2.1==0 then(bif w.2.2==0 then(bif decide (w.2.1<=rv)then(p.1,(1,(w.2.1,p.2.2.2)))else(p.1,(4,p.2.2)))else(p.1,(4,p.2.2)))
 else bif p.2.1==1 then(p.1,(2,(p.2.2.1,w.1)))
 else bif p.2.1==2 then(bif w.2.2==0 then(bif w.2.1==p.2.2.1 then(p.1,(3,p.2.2))else(p.1,(4,p.2.2)))else(p.1,(4,p.2.2)))
 else p
theorem Wx4{m:Mm}{p:Pb}(h:W2 m=true)(hp:Wlg p=true):inb p.1 m.2.length=true:=by
 grind [WF,Wlg,WaF,inb]
theorem Wfa{N:Nat}{m:Mm}{rv:Int}{p:Pb}(h:W2 m=true)(hp:Wlg p=true)(hN:1048576<N):Zeo N m rv p=ret (W5 m rv p):=by
 have h1:=(WF h).1;unfold Zeo W5;simp only[Wba (show m.2.length<=1048576 by omega) hN,Wm7,ret,Xc,h,hp,Xt,Wc,Wx4 h hp,We];generalize Xd m.2 (Xb p.1) (0,(0,0))=w;cases p.2.1==0<;>cases p.2.1==1<;>cases p.2.1==2<;>cases w.2.2==0<;>cases decide (w.2.1<=rv)<;>cases w.2.1==p.2.2.1<;>rfl
def Wjo(l:List Rw)(c:Int):Nat->Option Int
 |0=>none
 |i+1=>if(Xd l i (0,0)).1=c then some (Xd l i (0,0)).2 else Wjo l c i
def Wbv(l:List Rw)(c:Int):Option Int:=if Wav l=true then Wjo l c l.length else none
def opI(o:Option Int):Option (Unit×Km):=match o with
 |none=>some ((),((0:Int),(false,())))
 |some v=>some ((),(v,(true,())))
theorem WiX{N:Nat}{l:List Rw}{c:Int}(hl:l.length<=1048576):∀(i n:Nat),i<n->i<=l.length->Zhc N l c (λao=>(some ((),(ao,(true,()))))) (λsm aH=>(some ((),((0:Int),(false,()))))) n ((i:Int) -1)=opI (Wjo l c i)
 |i,0,h,_=>by omega
 |0,n+1,h,_=>rfl
 |i+1,n+1,h,hi=>by
  have e:((i+1:Nat):Int) -1=(i:Int):=by omega
  have e1:decide ((i:Int)>=0)=true:=by simp
  have e2:WZ .i64 (i:Int) 1=(i:Int) -1:=Wam (by unfold I64;omega);rw[e,Zhc,e1,Ww (show i<l.length by omega),e2,Wjo,Xj];simp only[We];by_cases hc:(Xd l i ((0:Int),(0:Int))).1=c
  .rw[Wb hc,beq_iff_eq.2 hc];rfl
  .rw[Wa hc,beq_eq_false_iff_ne.2 hc];exact WiX hl i n (by omega) (by omega)
theorem Wqi{α:Type}{l:List α}(hl:l.length<=1048576):WZ .i64 (Wj l) 1=((l.length:Nat):Int) -1:=by grind [Wj,Wam,I64]
theorem We4{N:Nat}{l:List Rw}{c:Int}(hl:l.length<=1048576)(hN:1048576<N):Zhx N l c=opI (Wbv l c):=by
 unfold Zhx Wbv;simp only[Wa5 hl hN,ret,Xc];cases Wav l
 .rfl
 .simp only[Xt,Wc,Waq,Wqi hl];exact WiX hl l.length N (by omega) (Xm _)
end
section
def Wla(l:List Rw)(o:List Rw)(c:Nat):List Rw:=match Wbv l c with
 |none=>o
 |some v=>o++ [((c:Int),v)]
def WlH(l:List Rw):Nat->Nat->List Rw->List Rw
 |0,_,o=>o
 |j+1,c,o=>WlH l j (c+1) (Wla l o c)
def WcT(l:List Rw):List Rw:=WlH l 8 0 []
theorem Whh{N:Nat}{l:List Rw}(hl:l.length<=1048576)(hN:1048576<N):∀(j n c:Nat) (o:List Rw),c+j=8->j<n->o.length<=c->Zgm N l (λaq aH aL=>(some ((),(aL,())))) n (c:Int) o=ret (WlH l j c o)
 |j,0,c,o,_,h,_=>by omega
 |0,n+1,c,o,h,_,_=>by
  have:c=8:=by omega
  subst this;rfl
 |j+1,n+1,c,o,h,h1,ho=>by
  have e:decide ((c:Int)<8)=true:=by simp;omega
  rw[Zgm,e,We4 hl hN,Wn (by omega),WlH,Wla];simp only[We];rcases Wbv l c with _|v
  .exact Whh hl hN j n (c+1) o (by omega) (by omega) (by omega)
  .have er:WM (o.length+ [((c:Int),v)].length)=true:=WB (by simp;omega);simp only[opI,Xc,We,er];exact Whh hl hN j n (c+1) _ (by omega) (by omega) (by simp;omega)
theorem Wnd{l:List Rw}(h:Wav l=false):∀(j c:Nat) (o:List Rw),WlH l j c o=o
 |0,_,_=>rfl
 |j+1,c,o=>by
  have e:Wbv l c=none:=by grind [Wbv]
  rw[WlH,Wla,e];exact Wnd h j (c+1) o
theorem Wd4{N:Nat}{l:List Rw}(hl:l.length<=1048576)(hN:1048576<N):Zg1 N l=ret (WcT l):=by
 unfold Zg1;simp only[Wa5 hl hN,ret,Xc];cases h:Wav l
 .grind [WcT,Wnd]
 .exact Whh hl hN 8 N 0 [] rfl (by omega) (by simp)
def fnd{α:Type}(p:α->Bool):List α->Nat->Option (Nat×α)
 | [],_=>none
 |x::l,j=>bif p x then some (j,x)else fnd p l (j+1)
theorem WgA{α V R:Type}{body:Int->α->V->(V->Option R)->Option R}{K:Int->V->Option R}{p:α->Bool}{E:Int->α->Option R}:∀(l:List α) (j:Nat) (v:V),(∀(j:Nat) x v k,x∈l->body j x v k=bif p x then E j x else k v)->
  Wbw body K l j v=match fnd p l j with|some r=>E r.1 r.2|none=>K ((j+l.length:Nat):Int) v
 | [],j,v,_=>rfl
 |x::l,j,v,h=>by
  rw[Wbw,h j x v _ (Xg ..),fnd,WgA l (j+1) v λj y v k hy=>h j y v k (Xe _ hy)]
  grind
theorem Wc3{α:Type}{p:α->Bool}:∀{l:List α} {j:Nat} {r:Nat×α},fnd p l j=some r->p r.2=true/\j<=r.1/\r.1<j+l.length/\l[r.1-j]?=some r.2
 | [],j,r,h=>by cases h
 |x::l,j,r,h=>by
  rw[fnd]at h;cases hp:p x
  .rw[hp]at h;obtain⟨h1,h2,h3,h4⟩:=Wc3 (l:=l) h
   grind
  grind
theorem Wie{α:Type}{p:α->Bool}:∀{l:List α} {j:Nat},fnd p l j=none->∀x∈l,p x=false
 | [],j,h=>by simp
 |x::l,j,h=>by
  rw[fnd]at h;cases hp:p x
  .rw[hp]at h;intro y hy;rcases Xq.1 hy with rfl|hy
   .exact hp
   .exact Wie h y hy
  simp_all
abbrev En:=Int×Int×Int
def ent(b:List En)(c:Int):Option (Nat×En):=fnd (λe=>e.1==c) b 0
theorem Wgf{N:Nat}{f:Y_Family}{c:Int}(hl:f.2.2.2.2.2.2.1.length<=1048576)(hN:1048576<N):Zcq N f c=ret (match ent f.2.2.2.2.2.2.1 c with|some r=>(r.1:Int)|none=>-1):=by
 unfold Zcq;show((Zo N f.2.2.2.2.2.2.1 c).bind _)=_;generalize f.2.2.2.2.2.2.1=b at hl;unfold Zo ent;have h1:=WC (l:=b) (V:=Unit) (R:=Kh×Kh) (lp:=λn j v=>Zf N b (λbf ax=>(some ((ax,()),(bf,())))) (λcR fG da=>(some ((da,()),((-1:Int),())))) n j c) (n:=N) (by omega)
  (body:=λj x v k=>bif x.1==c then some ((c,()),(j,()))else k v) (K:=λ_ v=>some ((c,()),((-1:Int),())))
  (λn i v hi=>by simp only[Zf,Zj6,W4 hi,Ww hi,Wx hi,Wn (show i<4611686018427387904 by omega),We,Xc])
  (λn v=>by simp[Zf,Wae,Xm,Wc]) ()
 rw[h1,WgA (p:=λe=>e.1==c) (E:=λj x=>some ((c,()),(j,()))) b 0 () (λj x v k _=>rfl)];cases fnd (λe:En=>e.1==c) b 0<;>rfl
theorem Wbe{N:Nat}{l:List Int}(h:l.length<=1048576):Zq N l=ret l:=by
 grind [Zq,WB]
theorem WdF{N:Nat}{l:List Rw}(h:l.length<=1048576):Zbn N l=ret l:=by
 grind [Zbn,WB]
end
section
def WyN(f:Y_Family)(k:Nat)(x:Y_KidRun):Y_Family:=U9 (Xk (Q9 f) k x) f
def again(f:Y_Family)(x:Y_KidRun):Y_KidRun:=(0,(0,(f.2.1,(x.2.2.2.1+1,(0,(0,(P4 f,([],([],([],(false,(0,(0,(0,0))))))))))))))
def WpD(x:Y_KidRun)(c:Int):Pb:=bif P10 x then Q11 x else(c,(0,(0,0)))
def Wjm(m:Mm)(f:Y_Family)(x:Y_KidRun)(o:Int×Int×Int×Int):Y_Family×Y_KidRun:=
 match Wbv (P8 x) o.2.2.1 with
 |some v=>(f,S6 (Xk (P6 x) (Xb o.2.1) v) (S1 (x.2.1+1) x))
 |none=>match ent (P6 f) o.2.2.1 with
  |some r=>bif decide (r.2.2.2>x.2.2.1)then(f,again f x)else(f,S7 (P7 x++ [r.2]) (S6 (Xk (P6 x) (Xb o.2.1) r.2.2.1) (S1 (x.2.1+1) x)))
  |none=>
   bif (W5 m f.1 (WpD x o.2.2.1)).2.1==4 then(S3 true f,U11 (W5 m f.1 (WpD x o.2.2.1)) (S10 true x))else
   bif (W5 m f.1 (WpD x o.2.2.1)).2.1==3 then(f,U14 0 (S13 0 (S12 0 (S11 0 (S10 false (S7 (P7 x++ [(o.2.2.1,((W5 m f.1 (WpD x o.2.2.1)).2.2.2,-1))]) (S6 (Xk (P6 x) (Xb o.2.1) (W5 m f.1 (WpD x o.2.2.1)).2.2.2) (S1 (x.2.1+1) x))))))))else
   (f,U11 (W5 m f.1 (WpD x o.2.2.1)) (S10 true x))
structure ReadOk(m:Mm)(f:Y_Family)(x:Y_KidRun)(o:Int×Int×Int×Int):Prop where
 mem:W2 m=true
 regs:(P6 x).length=4
 famr:(P4 f).length=4
 rA:0<=o.2.1/\o.2.1<=3
 cB:WaF o.2.2.1=true
 seen:(P7 x).length<=1000
 wr:(P8 x).length<=1000
 buf:(P6 f).length<=1000
 ver:∀e∈P6 f,0<=e.2.2
 since:0<=x.2.2.1
 pc:0<=x.2.1/\x.2.1<=1000
 tries:0<=x.2.2.2.1/\x.2.2.2.1<=100000
 pb:P10 x=true->Wlg (Q11 x)=true
theorem ReadOk.pbO{m:Mm}{f:Y_Family}{x:Y_KidRun}{o:Int×Int×Int×Int}(h:ReadOk m f x o):Wlg (WpD x o.2.2.1)=true:=by
 unfold WpD;cases hb:P10 x
 .have:=h.cB
  grind [Wlg,WbQ]
 .exact h.pb hb
theorem Wvb{x:Y_KidRun}(h:P10 x=true):S10 true x=x:=by rw[←h];rfl
theorem WcO{a:Int}(h:0<=a/\a<=1000000):Wm .i64 a 1=a+1:=WJ (by unfold I64;omega)
theorem rgI{r:List Int}{a:Int}(h:r.length=4)(ha:0<=a/\a<=3):inb a r.length=true:=by grind [inb]
theorem WeL{N:Nat}{f:Y_Family}{k:Nat}{x:Y_KidRun}(hk:k<(Q9 f).length)(h:(P4 f).length=4)(ht:0<=x.2.2.2.1/\x.2.2.2.1<=100000):
  Zbh N (U9 (Xk (Q9 f) k x) f) (k:Int)=some ((WyN f k (again f x),()),()):=by
 have e0:Zq N (P4 (U9 (Xk (Q9 f) k x) f))=ret (P4 f):=Wbe (show(P4 f).length<=1048576 by omega);have e1:Q9 (U9 (Xk (Q9 f) k x) f)=Xk (Q9 f) k x:=rfl;have gR:k<(Xk (Q9 f) k x).length:=by simp_all
 unfold Zbh;rw[e0,e1];have e2:Xd (Xk (Q9 f) k x) (Xb (k:Int)) d_KidRun=x:=by simp_all
 rw[e2,Ww gR,WcO (by omega),Xj];simp only[We,ret,Xc,Xdl];rfl
theorem Wm3{N:Nat}{m:Mm}{f:Y_Family}{k:Nat}{o:Int×Int×Int×Int}(hk:k<(Q9 f).length)(h:ReadOk m f (Q9 f)[k] o)(hN:1048576<N):
  Zi5 N f (k:Int) o m=some ((WyN (Wjm m f (Q9 f)[k] o).1 k (Wjm m f (Q9 f)[k] o).2,()),()):=by
 generalize hx:(Q9 f)[k]=x at h;have hw:=h.wr;have hs:=h.seen;have hb:=h.buf;have hr:=h.regs;have ex:Xd (Q9 f) (Xb (k:Int)) d_KidRun=x:=by rw[Wx hk,hx]
 unfold Zi5 Wjm;simp only[WD];rw[Ww hk,ex,Xj,We4 (show(P8 x).length<=1048576 by omega) hN,WcO (by have:=h.pc;omega)];rcases Wbv (P8 x) o.2.2.1 with _|v
 .simp only[opI,Xc,Wc,We];have hE:Zcq N (U9 (Xk (Q9 f) k x) f) o.2.2.1=ret (match ent (P6 f) o.2.2.1 with|some r=>(r.1:Int)|none=>-1):=Wgf (f:=U9 (Xk (Q9 f) k x) f) (show(P6 f).length<=1048576 by omega) hN;rw[hE,WeL hk h.famr h.tries];rcases he:ent (P6 f) o.2.2.1 with _|r
  .simp only[ret,Xc,show decide ((-1:Int)>=0)=false from rfl,Wc];have hp:=h.pbO;cases hc:P10 x
   .have eV:WpD x o.2.2.1=(o.2.2.1,(0,(0,0))):=by grind [WpD]
    have hn:Zfl N o.2.2.1=some ((),((o.2.2.1,(0,(0,0))),(true,()))):=by
     unfold Zfl;simp only[WaQ,ret,Xc,h.cB,Xt,Wc]
    rw[eV]at hp⊢;simp only[Bool.not_false,We,hn,Wfa h.mem hp hN,ret,Xc,rgI hr h.rA];generalize W5 m f.1 (o.2.2.1,(0,(0,0)))=q;rw[WB (by simp;omega)];cases q.2.1==4<;>cases q.2.1==3<;>rfl
   .have eV:WpD x o.2.2.1=Q11 x:=by grind [WpD]
    rw[eV]at hp⊢;simp only[Xt,Wc,Wfa h.mem hp hN,ret,Xc,rgI hr h.rA,We];generalize W5 m f.1 (Q11 x)=q;rw[WB (by simp;omega),Wvb hc];cases q.2.1==4<;>cases q.2.1==3<;>rfl
  .have hm:=Wc3 he;have hi:r.1<(P6 f).length:=by omega
   have hg:(P6 f)[r.1]=r.2:=by
    simp_all
   have e2:decide (((r.1:Nat):Int)>=0)=true:=by simp
   simp only[ret,Xc,e2,We,Ww hi,rgI hr h.rA];rw[Wx hi,hg,WB (by simp;omega)];cases decide (r.2.2.2>x.2.2.1)<;>rfl
 .simp only[opI,Xc,We,rgI hr h.rA];rfl
end
section
abbrev Opn:=Int×Int×Int×Int
def Wad(v:Int):Bool:=decide (0<=v)&&decide (v<=3)
def Wfu(v:Int):Bool:=decide (0<=v)&&decide (v<=7)
theorem Wo1{N:Nat}{v:Int}:Zb3 N v=ret (Wad v):=by
 unfold Zb3;simp only[WrJ,ret,Xc];rfl
theorem WoB{N:Nat}{v:Int}:Zb4 N v=ret (Wad v):=by
 unfold Zb4;simp only[WV,ret,Xc];rfl
theorem Woo{N:Nat}{v:Int}:Zbc N v=ret (Wfu v):=by
 unfold Zbc;simp only[WV,ret,Xc];rfl
def Wey(o:Opn):Bool:=
 bif o.1==1 then Wad o.2.1&&WbQ o.2.2.1&&(o.2.2.2==(0:Int))else
 bif o.1==2 then Wad o.2.1&&Wad o.2.2.1&&Wad o.2.2.2 else
 bif o.1==3 then Wad o.2.1&&Wad o.2.2.1&&Wad o.2.2.2 else
 bif o.1==4 then Wad o.2.1&&Wad o.2.2.1&&Wad o.2.2.2 else
 bif o.1==5 then Wad o.2.1&&WaF o.2.2.1&&(o.2.2.2==(0:Int))else
 bif o.1==6 then WaF o.2.1&&Wad o.2.2.1&&(o.2.2.2==(0:Int))else
 bif o.1==7 then Wad o.2.1&&(decide (1<=o.2.2.1)&&decide (o.2.2.1<=20))&&(o.2.2.2==(0:Int))else
 bif o.1==8 then Wad o.2.1&&(o.2.2.1==(0:Int))&&(o.2.2.2==(0:Int))else
 bif o.1==9 then(o.2.1==(0:Int))&&(o.2.2.1==(0:Int))&&(o.2.2.2==(0:Int))else
 bif o.1==10 then(o.2.1==(0:Int))&&(o.2.2.1==(0:Int))&&(o.2.2.2==(0:Int))else
 bif o.1==11 then(o.2.1==(0:Int))&&(o.2.2.1==(0:Int))&&(o.2.2.2==(0:Int))else
 bif o.1==12 then Wfu o.2.1&&Wad o.2.2.1&&Wad o.2.2.2 else
 bif o.1==13 then Wad o.2.1&&Wfu o.2.2.1&&(o.2.2.2==(0:Int))else
 bif o.1==14 then Wfu o.2.1&&Wad o.2.2.1&&(o.2.2.2==(0:Int))else
 bif o.1==15 then Wad o.2.1&&(o.2.2.1==(0:Int))&&(o.2.2.2==(0:Int))else
 bif o.1==16 then Wad o.2.1&&(o.2.2.1==(0:Int))&&(o.2.2.2==(0:Int))else
 false
abbrev Bo:=Option Ke
def oA(p k:Bo):Bo:=p.bind λo=>bif o.2.1 then k else some ((),(false,()))
def oB(p:Bo):Bo:=p.bind λo=>some ((),(o.2.1,()))
theorem o3{T P Q R:Bo}{p q r:Bool}(h:T=oA P (oA Q (oB R)))(hp:P=ret p)(hq:Q=ret q)(hr:R=ret r):T=ret (p&&q&&r):=by
 rw[h,hp,hq,hr];cases p<;>cases q<;>rfl
theorem z0(v:Int):(ret (v==(0:Int)):Bo)=ret (v==(0:Int)):=rfl
theorem sR(N:Nat)(v:Int):Zb3 N v=ret (Wad v):=Wo1
theorem sV(N:Nat)(v:Int):Zh8 N v=ret (WbQ v):=WfY
theorem sC(N:Nat)(v:Int):Ziv N v=ret (WaF v):=WmW
theorem sK(N:Nat)(v:Int):Zcj N v 0 7=ret (Wfu v):=WrJ
theorem sI(N:Nat)(v:Int):Zcj N v 1 20=ret (decide (1<=v)&&decide (v<=20)):=WrJ
theorem iR(N:Nat)(v:Int):Zb4 N v=ret (Wad v):=WoB
theorem iV(N:Nat)(v:Int):Zaz N v=ret (WbQ v):=WaB
theorem iC(N:Nat)(v:Int):Zbm N v=ret (WaF v):=WaQ
theorem iK(N:Nat)(v:Int):Zbc N v=ret (Wfu v):=Woo
theorem iI(N:Nat)(v:Int):Zi N v 1 20=ret (decide (1<=v)&&decide (v<=20)):=WV
def kds:List Int:=[1,2,3,4,5,6,7,8,9,10,11,12,13,14,15,16]
theorem Wx9{P:Int->Prop}(h1:P 1)(h2:P 2)(h3:P 3)(h4:P 4)(h5:P 5)(h6:P 6)(h7:P 7)(h8:P 8)(h9:P 9)(cN:P 10)(fz:P 11)(fO:P 12)(nC:P 13)(ww:P 14)(h15:P 15)(ui:P 16)
  (h0:∀k,(∀i,i∈kds->(k==i)=false)->P k) (k:Int):P k:=by
 by_cases h:k∈kds
 .simp only[kds,Xq,List.not_mem_nil,or_false]at h;rcases h with h|h|h|h|h|h|h|h|h|h|h|h|h|h|h|h<;>rw[h]<;>assumption
 .exact h0 k λi hi=>by
   rw[beq_eq_false_iff_ne];intro e;exact h (e▸hi)
theorem WdB{N:Nat}{o:Opn}:Zln N o=ret (Wey o):=by
 obtain⟨k,a,b,c⟩:=o;exact Wx9 (P:=λk=>Zln N (k,a,b,c)=ret (Wey (k,a,b,c)))
  (o3 (by kernel_rfl) (sR N a) (sV N b) (z0 c))
  (o3 (by kernel_rfl) (sR N a) (sR N b) (sR N c))
  (o3 (by kernel_rfl) (sR N a) (sR N b) (sR N c))
  (o3 (by kernel_rfl) (sR N a) (sR N b) (sR N c))
  (o3 (by kernel_rfl) (sR N a) (sC N b) (z0 c))
  (o3 (by kernel_rfl) (sC N a) (sR N b) (z0 c))
  (o3 (by kernel_rfl) (sR N a) (sI N b) (z0 c))
  (o3 (by kernel_rfl) (sR N a) (z0 b) (z0 c))
  (o3 (by kernel_rfl) (z0 a) (z0 b) (z0 c))
  (o3 (by kernel_rfl) (z0 a) (z0 b) (z0 c))
  (o3 (by kernel_rfl) (z0 a) (z0 b) (z0 c))
  (o3 (by kernel_rfl) (sK N a) (sR N b) (sR N c))
  (o3 (by kernel_rfl) (sR N a) (sK N b) (z0 c))
  (o3 (by kernel_rfl) (sK N a) (sR N b) (z0 c))
  (o3 (by kernel_rfl) (sR N a) (z0 b) (z0 c))
  (o3 (by kernel_rfl) (sR N a) (z0 b) (z0 c))
  (λk e=>by unfold Zln Wey;simp(disch:=decide) only[e,Wc,WD]) k
theorem Wfo{N:Nat}{o:Opn}:Zhw N o=ret (Wey o):=by
 obtain⟨k,a,b,c⟩:=o;exact Wx9 (P:=λk=>Zhw N (k,a,b,c)=ret (Wey (k,a,b,c)))
  (o3 (by kernel_rfl) (iR N a) (iV N b) (z0 c))
  (o3 (by kernel_rfl) (iR N a) (iR N b) (iR N c))
  (o3 (by kernel_rfl) (iR N a) (iR N b) (iR N c))
  (o3 (by kernel_rfl) (iR N a) (iR N b) (iR N c))
  (o3 (by kernel_rfl) (iR N a) (iC N b) (z0 c))
  (o3 (by kernel_rfl) (iC N a) (iR N b) (z0 c))
  (o3 (by kernel_rfl) (iR N a) (iI N b) (z0 c))
  (o3 (by kernel_rfl) (iR N a) (z0 b) (z0 c))
  (o3 (by kernel_rfl) (z0 a) (z0 b) (z0 c))
  (o3 (by kernel_rfl) (z0 a) (z0 b) (z0 c))
  (o3 (by kernel_rfl) (z0 a) (z0 b) (z0 c))
  (o3 (by kernel_rfl) (iK N a) (iR N b) (iR N c))
  (o3 (by kernel_rfl) (iR N a) (iK N b) (z0 c))
  (o3 (by kernel_rfl) (iK N a) (iR N b) (z0 c))
  (o3 (by kernel_rfl) (iR N a) (z0 b) (z0 c))
  (o3 (by kernel_rfl) (iR N a) (z0 b) (z0 c))
  (λk e=>by unfold Zhw Wey;simp(disch:=decide) only[e,Wc,WD]) k
end
section
def Wop{α:Type}(p:Nat->α->Bool):Nat->List α->Bool
 |_,[]=>false
 |j,x::l=>p j x||Wop p (j+1) l
theorem WdM{α V R:Type}{body:Int->α->V->(V->Option R)->Option R}{K:Int->V->Option R}{p:Nat->α->Bool}{E:V->Option R}:∀(l:List α) (j:Nat) (v:V),(∀(j:Nat) x v k,x∈l->body j x v k=bif p j x then E v else k v)->
  Wbw body K l j v=bif Wop p j l then E v else K ((j+l.length:Nat):Int) v
 | [],j,v,_=>rfl
 |x::l,j,v,h=>by
  rw[Wbw,h j x v _ (Xg ..),WdM l (j+1) v λj y v k hy=>h j y v k (Xe _ hy),Wop]
  grind
theorem WgY{α:Type}{p:Nat->α->Bool}:∀{l:List α} {j:Nat},Wop p j l=true↔∃i,∃h:i<l.length,p (j+i) l[i]=true
 | [],j=>by simp[Wop]
 |x::l,j=>by
  rw[Wop,Xcb,WgY];constructor
  .rintro(h|⟨i,hi,h⟩)
   .exact⟨0,by simp,by grind⟩
   .exact⟨i+1,by simp_all,by grind⟩
  grind
def opd(o:Opn):Int:=bif o.1==8 then 1 else bif o.1==9 then-1 else 0
theorem Whu(o:Opn):-1<=opd o/\opd o<=1:=by unfold opd;cases o.1==8<;>cases o.1==9<;>simp
def dep(l:List Opn)(j:Nat):Int:=((l.take j).map opd).sum
theorem Wdq(l:List Opn):dep l 0=0:=by simp[dep]
theorem WaJ{l:List Opn}{j:Nat}(h:j<l.length):dep l (j+1)=dep l j+opd l[j]:=by
 grind [dep,Xbf]
theorem Wp{α:Type}{l:List α}{j:Nat}(h:j<l.length)(d:α):Xd l j d=l[j]:=by simp[h]
theorem WdE(l:List Opn):∀j:Nat,-(j:Int)<=dep l j/\dep l j<=j
 |0=>by simp[dep]
 |j+1=>by
  have ih:=WdE l j;by_cases h:j<l.length
  .have:=Whu l[j]
   grind [WaJ]
  grind [dep,List.take_of_length_le]
def bal(l:List Opn):Bool:=!Wop (λj _=>decide (dep l (j+1)<0)) 0 l&&decide (dep l l.length=0)
theorem WgE{N:Nat}{o:Opn}:Zj5 N o=ret (opd o):=by
 unfold Zj5 opd;cases o.1==8<;>cases o.1==9<;>rfl
theorem Wys(x:Int):(x==(0:Int))=decide (x=0):=by by_cases h:x=0<;>simp[h]
theorem WiW{N:Nat}{l:List Opn}(hl:l.length<=1048576)(hN:1048576<N):Zdl N l=ret (bal l):=by
 unfold Zdl bal;have h1:=WC (l:=l) (V:=Unit) (R:=Unit×Kq) (lp:=λn j _=>Zb5 N l (some ((),(false,()))) (λvE ba dE=>some ((),(vE==(0:Int),()))) n (dep l j.toNat) j) (n:=N) (by omega)
  (body:=λj _ v k=>bif decide (dep l (j.toNat+1)<0)then some ((),(false,()))else k v) (K:=λj _=>some ((),(dep l j.toNat==(0:Int),())))
  (λn i v hi=>by
   have hb:=WdE l i;have hs:=WaJ hi;have ho:=Whu l[i];have e:Wm .i64 (dep l i) (opd l[i])=dep l (i+1):=by rw[WJ (by unfold I64;omega),hs]
   simp only[Zb5,W4 hi,Ww hi,Wx hi,Wp hi,Wn (show i<4611686018427387904 by omega),We,WgE,ret,Xc,Xj,e])
  (λn v=>by simp[Zb5,Wae,Xm,Wc]) ()
 have e0:dep l (Xb 0)=0:=Wdq l;simp only[e0]at h1;refine h1.trans ?_;rw[WdM (p:=λj _=>decide (dep l (j+1)<0)) (E:=λ_=>some ((),(false,()))) l 0 () (λj x v k _=>rfl)];rw[Xbc,Xj,Wys];cases Wop (λj _=>decide (dep l (j+1)<0)) 0 l<;>rfl
theorem Wlo{N:Nat}{l:List Opn}(hl:l.length<=1048576)(hN:1048576<N){i:Nat}(hi:i<=l.length):Zhz N l (i:Int)=ret (dep l i):=by
 unfold Zhz;have h1:=WC (l:=l) (V:=Unit) (R:=Unit×Kh) (lp:=λn j _=>Zb9 N (i:Int) l (λsj bf eY=>some ((),(sj,()))) n (dep l (min j.toNat i)) j) (n:=N) (by omega)
  (body:=λj _ v k=>k v) (K:=λj _=>some ((),(dep l (min j.toNat i),())))
  (λn j v hj=>by
   have hb:=WdE l j;have ho:=Whu l[j];simp only[Zb9,W4 hj,Ww hj,Wx hj,Wp hj,Wn (show j<4611686018427387904 by omega),We,WgE,ret,Xc,Xj]
   grind [decide,min,Wm,dep,opd,WJ,I64,WaJ])
  (λn v=>by simp[Zb9,Wae,Xm,Wc]) ()
 have e0:dep l (min (Xb 0) i)=0:=by
  simp[min,Xb,Wdq]
 simp only[e0]at h1;refine h1.trans ?_;rw[WdD (f:=λv _=>v) l 0 () (λj x v k _=>rfl),Xbc,Xj,Nat.min_eq_right hi]
theorem Wok{N:Nat}{l:List Opn}{a b:Nat}(fE:a<=b)(hb:b<=l.length)(hl:l.length<=1048576)(hN:1048576<N):
  Za6 N l (b:Int) (some ((),(false,()))) (λsh qy aH=>some ((),(sh==(0:Int),()))) N 0 (a:Int)=ret (bal ((l.take b).drop a)):=by
 have hlen:((l.take b).drop a).length=b-a:=by simp;omega
 unfold bal;have h1:=WC (l:=(l.take b).drop a) (V:=Unit) (R:=Unit×Kq) (lp:=λn j _=>Za6 N l (b:Int) (some ((),(false,()))) (λsh qy aH=>some ((),(sh==(0:Int),()))) n (dep ((l.take b).drop a) j.toNat) ((a+j.toNat:Nat):Int)) (n:=N) (by omega)
  (body:=λj _ v k=>bif decide (dep ((l.take b).drop a) (j.toNat+1)<0)then some ((),(false,()))else k v) (K:=λj _=>some ((),(dep ((l.take b).drop a) j.toNat==(0:Int),())))
  (λn i v hi=>by
   have hb':=WdE ((l.take b).drop a) i;have hs:=WaJ hi;have ei:((l.take b).drop a)[i]=l[a+i]:=by simp
   rw[ei]at hs;have gu:a+i<l.length:=by omega
   have e1:decide (((a+i:Nat):Int)<(b:Int))=true:=by simp;omega
   have e2:Wm .i64 ((a+i:Nat):Int) 1=((a+(i+1):Nat):Int):=by grind [WJ,I64]
   have e3:Wm .i64 (dep ((l.take b).drop a) i) 1=dep ((l.take b).drop a) i+1:=WJ (by unfold I64;omega);have e4:WZ .i64 (dep ((l.take b).drop a) i) 1=dep ((l.take b).drop a) i+ -1:=by grind [Wam,I64]
   simp only[Za6,e1,Ww gu,Wx gu,Wp gu,e2,e3,e4,We,Xj];unfold opd at hs
   grind)
  (λn v=>by
   have e1:decide (((a+(((l.take b).drop a).length:Int).toNat:Nat):Int)<(b:Int))=false:=by simp_all
   simp only[Za6,e1,Wc]) ()
 have e0:dep ((l.take b).drop a) (Xb 0)=0:=Wdq _;simp only[e0]at h1;refine h1.trans ?_;rw[WdM (p:=λj _=>decide (dep ((l.take b).drop a) (j+1)<0)) (E:=λ_=>some ((),(false,()))) _ 0 () (λj x v k _=>rfl)];rw[Xbc,Xj,Wys];cases Wop (λj _=>decide (dep ((l.take b).drop a) (j+1)<0)) 0 ((l.take b).drop a)<;>rfl
def Wi7(l:List Opn)(i:Nat)(o:Opn):Bool:=decide (i+1+o.2.2.1.toNat<=l.length)&&bal ((l.take (i+1+o.2.2.1.toNat)).drop (i+1))
def frk(l:List Opn)(j:Nat):Nat:=(l.take j).countP λo=>o.1==11
theorem Weg{l:List Opn}{j:Nat}(h:j<l.length):frk l (j+1)=frk l j+(l[j].1==11).toNat:=by
 unfold frk;rw[Xbf h,List.countP_append,List.countP_singleton];cases l[j].1==11<;>rfl
theorem Wwa(l:List Opn)(j:Nat):frk l j<=l.length:=Xco Xfb (by simp;omega)
def Wwd(l:List Opn)(i:Nat)(o:Opn):Bool:=
 !Wey o||((o.1==7)&& !Wi7 l i o)||((o.1==11)&&(decide (dep l i>0)||decide (frk l (i+1)>1)))||decide (dep l (i+1)<0)
def WqX(l:List Opn)(i:Nat)(o:Opn):Bool:=
 !Wey o||((o.1==7)&& !Wi7 l i o)||((o.1==11)&&(decide (frk l (i+1)>1)|| !decide (dep l i=0)))
def WrD(l:List Opn):Bool:=decide (l.length<=24)&&(bal l&& !Wop (WqX l) 0 l)
theorem WqI{l:List Opn}{i:Nat}{o:Opn}(hl:l.length<=24)(hi:i<l.length)(ho:Wey o=true)(h7:o.1=7):
  Wm .i64 ((i+1:Nat):Int) o.2.2.1=((i+1+o.2.2.1.toNat:Nat):Int)/\1<=o.2.2.1/\o.2.2.1<=20:=by
 obtain⟨k,a,b,c⟩:=o;simp only at h7;subst h7;have:(Wad a&&(decide (1<=b)&&decide (b<=20))&&(c==(0:Int)))=true:=ho;simp only[Xi,Wh]at this
 grind [WJ,I64]
theorem WnM{N:Nat}{l:List Opn}{i:Nat}(hl:l.length<=24)(hN:1048576<N)(hi:i<l.length)(ho:Wey l[i]=true)(h7:l[i].1=7):Ziw N l (i:Int)=ret (Wi7 l i l[i]):=by
 obtain⟨e1,h1,h2⟩:=WqI hl hi ho h7;unfold Ziw Wi7;simp only[Ww hi,We,Wx hi,Wp hi,e1,Wn (show i<4611686018427387904 by omega)];by_cases h:i+1+l[i].2.2.1.toNat<=l.length
 .have e:decide (((i+1+l[i].2.2.1.toNat:Nat):Int)>Wj l)=false:=by simp[Wj];omega
  rw[e];simp only[Wc];rw[Wok (by omega) h (by omega) hN];simp[h]
 grind [decide,Wj]
theorem WoM{l:List Opn}:bal l=true↔(∀i,i<l.length->0<=dep l (i+1))/\dep l l.length=0:=by
 unfold bal;rw[Xi,Xar,←Xge,WgY,Wh];simp_all
theorem WnW(l:List Opn):(!Wop (Wwd l) 0 l&&decide (dep l l.length=0))=(bal l&& !Wop (WqX l) 0 l):=by
 rw[Bool.eq_iff_iff,Xi,Xi,Xar,Xar,←Xge,←Xge,WgY,WgY,WoM,Wh];constructor
 .rintro⟨h1,h2⟩;have hd:∀i,i<l.length->0<=dep l (i+1):=λi hi=>by
   grind [dep,absurd,Wwd]
  refine⟨⟨hd,h2⟩,?_⟩;rintro⟨i,hi,h⟩;refine h1 ⟨i,hi,?_⟩;have hdi:0<=dep l i:=by
   cases i with
   |zero=>rw[Wdq];omega
   |succ i=>grind
  rw[Xbc]at h⊢;unfold WqX at h;unfold Wwd
  grind
 simp_all [Xbc,Wwd,WqX,Xcb,Xi,Wh,Xar,Wy]
theorem WhB{N:Nat}{l:List Opn}(hl:l.length<=1048576)(hN:1048576<N):Zhk N l=ret (WrD l):=by
 unfold Zhk WrD;by_cases h:l.length<=24
 .have e:decide (Wj l>24)=false:=by simp[Wj];omega
  rw[e];simp only[Wc];have h1:=WC (l:=l) (V:=Unit) (R:=Unit×Kq) (lp:=λn j _=>Za7 N l (some ((),(false,()))) (λvD lO si cR=>some ((),(vD==(0:Int),()))) n (dep l j.toNat) ((frk l j.toNat:Nat):Int) j) (n:=N) (by omega)
   (body:=λj x v k=>bif Wwd l j.toNat x then some ((),(false,()))else k v) (K:=λj _=>some ((),(dep l j.toNat==(0:Int),())))
   (λn i v hi=>by
    have hb:=WdE l i;have hs:=WaJ hi;have hf:=Weg hi;have gh:=Wwa l i;have e3:Wm .i64 (dep l i) 1=dep l i+1:=WJ (by unfold I64;omega);have e4:WZ .i64 (dep l i) 1=dep l i+ -1:=by grind [Wam,I64]
    have e5:Wm .i64 ((frk l i:Nat):Int) 1=((frk l i+1:Nat):Int):=by grind [WJ,I64]
    simp only[Za7,W4 hi,Ww hi,Wx hi,Wp hi,Wn (show i<4611686018427387904 by omega),We,Xj,WdB,ret,Xc,e3,e4,e5];unfold Wwd;cases ho:Wey l[i]with
    |false=>rfl
    |true=>
     unfold opd at hs;simp only[Xt,Wc,Xew];by_cases h8:l[i].1=8
     .simp_all
     .have b8:(l[i].1==8)=false:=by simp[h8]
      by_cases h9:l[i].1=9
      .simp_all
      .have b9:(l[i].1==9)=false:=by simp[h9]
       by_cases h7:l[i].1=7
       .have b7:(l[i].1==7)=true:=by simp[h7]
        have aX:(l[i].1==11)=false:=by simp[h7]
        have zR:=WnM h hN hi ho h7;simp only[b8,b9,b7,aX,We,Wc,Xgf,Xaz,Xen,Xce,Xft,Int.add_zero,zR,ret,Xc]at hs hf⊢;simp only[hs,hf];cases Wi7 l i l[i]<;>rfl
       grind)
   (λn v=>by simp[Za7,Wae,Xm,Wc]) ()
  have e0:dep l (Xb 0)=0:=Wdq l;have e1:((frk l (Xb 0):Nat):Int)=0:=by simp[frk]
  simp only[e0,e1]at h1;refine h1.trans ?_;rw[WdM (p:=Wwd l) (E:=λ_=>some ((),(false,()))) l 0 () (λj x v k _=>by rw[Xj])];rw[Xbc,Xj,Wys,←WnW];simp only[h,decide_true,Xce];cases Wop (Wwd l) 0 l<;>rfl
 grind [decide,Wj]
theorem WhS{N:Nat}{l:List Opn}(hl:l.length<=1048576)(hN:1048576<N):Zc9 N l=ret (WrD l):=by
 unfold Zc9 WrD;by_cases h:l.length<=24
 .have e:decide (Wj l>24)=false:=by simp[Wj];omega
  rw[e];simp only[Wc,WiW hl hN,ret,Xc,h,decide_true,Xce];cases ti:bal l with
  |false=>rfl
  |true=>
   simp only[Xt,Wc,Xce];have h1:=WC (l:=l) (V:=Unit) (R:=Unit×Kq) (lp:=λn j _=>Zb1 N l (some ((),(false,()))) (λlP d6 t22=>some ((),(true,()))) n ((frk l j.toNat:Nat):Int) j) (n:=N) (by omega)
    (body:=λj x v k=>bif WqX l j.toNat x then some ((),(false,()))else k v) (K:=λj _=>some ((),(true,())))
    (λn i v hi=>by
     have hf:=Weg hi;have gh:=Wwa l i;have e5:Wm .i64 ((frk l i:Nat):Int) 1=((frk l i+1:Nat):Int):=by grind [WJ,I64]
     simp only[Zb1,W4 hi,Ww hi,Wx hi,Wp hi,We,Xj,Wfo,ret,Xc,e5];unfold WqX;cases ho:Wey l[i]with
     |false=>rfl
     |true=>
      simp only[Xt,Wc,Xew];by_cases h7:l[i].1=7
      .have b7:(l[i].1==7)=true:=by simp[h7]
       have aX:(l[i].1==11)=false:=by simp[h7]
       obtain⟨en,h1,h2⟩:=WqI h hi ho h7;simp only[b7,aX,We,en,Wn (show i<4611686018427387904 by omega),Xgf,Xaz,Xen,Xce,Xft]at hf⊢;simp only[hf];unfold Wi7;by_cases hq:i+1+l[i].2.2.1.toNat<=l.length
       .have q1:decide (((i+1+l[i].2.2.1.toNat:Nat):Int)>Wj l)=false:=by simp[Wj];omega
        have q2:(((decide ((0:Int)<=((i+1+l[i].2.2.1.toNat:Nat):Int)))&&(decide (((i+1+l[i].2.2.1.toNat:Nat):Int)<=((Xa l):Int))))&&(decide ((0:Int)<=((i+1:Nat):Int)))&&(decide (((i+1:Nat):Int)<=((i+1+l[i].2.2.1.toNat:Nat):Int))))=true:=by simp;omega
        rw[q1,q2];simp only[Wc,We,Xj];rw[WiW (by simp;omega) hN];simp_all
       grind [decide,Wj]
      .have b7:(l[i].1==7)=false:=by simp[h7]
       by_cases fz:l[i].1=11
       .have aX:(l[i].1==11)=true:=by simp[fz]
        simp only[b7,aX,We,Wc,Bool.toNat_true,Xen,Xce,Xew,Wlo hl hN (Nat.le_of_lt hi),ret,Xc,Wn (show i<4611686018427387904 by omega)]at hf⊢;simp only[hf];have ef:decide (((frk l i+1:Nat):Int)>1)=decide (frk l i+1>1):=by grind
        have e0:(dep l i !=0)= !decide (dep l i=0):=by rw[bne,Wys]
        rw[ef,e0];cases decide (frk l i+1>1)<;>cases decide (dep l i=0)<;>rfl
       .have aX:(l[i].1==11)=false:=by simp[fz]
        simp only[b7,aX,We,Wc,Xgf,Xaz,Xen,Xew,Wn (show i<4611686018427387904 by omega)]at hf⊢;simp_all)
    (λn v=>by simp[Zb1,Wae,Xm,Wc]) ()
   have e1:((frk l (Xb 0):Nat):Int)=0:=by simp[frk]
   simp only[e1]at h1;refine h1.trans ?_;rw[WdM (p:=WqX l) (E:=λ_=>some ((),(false,()))) l 0 () (λj x v k _=>by rw[Xj])];cases Wop (WqX l) 0 l<;>rfl
 grind [decide,Wj]
end
section
def stk(l:List Opn):Nat->List Nat
 |0=>[]
 |j+1=>bif (l.getD j (0,0,0,0)).1==8 then stk l j++ [j]else bif (l.getD j (0,0,0,0)).1==9 then(stk l j).dropLast else stk l j
theorem Wlf{l:List Opn}{j:Nat}(h:j<l.length)(h8:l[j].1=8):stk l (j+1)=stk l j++ [j]:=by
 grind [stk,Wp]
theorem Wn0{l:List Opn}{j:Nat}(h:j<l.length)(h9:l[j].1=9):stk l (j+1)=(stk l j).dropLast:=by
 grind [stk,Wp]
theorem WgS{l:List Opn}{j:Nat}(h:j<l.length)(h8:l[j].1≠8)(h9:l[j].1≠9):stk l (j+1)=stk l j:=by
 grind [stk,Wp]
theorem Wvs{o:Opn}(h:o.1=8):opd o=1:=by unfold opd;simp[h]
theorem WrF{o:Opn}(h:o.1=9):opd o= -1:=by unfold opd;simp[h]
theorem WwR{o:Opn}(h8:o.1≠8)(h9:o.1≠9):opd o=0:=by
 grind [opd]
theorem Wcd{α:Type}(l:List α):l= []\/∃q x,l=q++ [x]:=by
 rcases List.eq_nil_or_concat l with h|⟨q,x,h⟩
 .grind
 simp_all
def Up(l:List Opn):Prop:=∀i,i<l.length->0<=dep l (i+1)
theorem Up.at{l:List Opn}(h:Up l){j:Nat}(hj:j<=l.length):0<=dep l j:=by
 cases j with
 |zero=>rw[Wdq];omega
 |succ j=>exact h j hj
theorem WbJ{l:List Opn}(h:Up l):∀j,j<=l.length->((stk l j).length:Int)=dep l j
 |0,_=>by rw[Wdq];rfl
 |j+1,hj=>by
  have hj':j<l.length:=hj;have ih:=WbJ h j (by omega);have hd:=WaJ hj';have hu:=h j hj'
  grind [Wlf,Wvs,Xs,Wn0,WrF,Xdt,WgS,WwR]
theorem Wme{l:List Opn}:∀(j:Nat),j<=l.length->∀(s t:List Nat) (m:Nat),stk l j=s++m::t->
  m<j/\(∃h:m<l.length,l[m].1=8)/\stk l m=s/\∀i,m<i->i<=j->∃t',stk l i=s++m::t'
 |0,_,s,t,m,h=>by simp[stk]at h
 |j+1,hj,s,t,m,h=>by
  have hj':j<l.length:=hj;have ih:=Wme (l:=l) j (by omega);have next:∀t0,stk l j=s++m::t0->m<j+1/\(∃h:m<l.length,l[m].1=8)/\stk l m=s/\∀i,m<i->i<=j+1->∃t',stk l i=s++m::t':=λt0 h0=>by
   grind
  by_cases h8:l[j].1=8
  .rw[Wlf hj' h8]at h;rcases Wcd t with rfl|⟨t0,x,rfl⟩
   .obtain⟨e1,e2⟩:=Xdy (h:stk l j++ [j]=s++ [m]) rfl
    grind [Wlf]
   .have h2:stk l j++ [j]=(s++m::t0)++ [x]:=by rw[h,Xbo,Xba]
    obtain⟨e1,e2⟩:=Xdy h2 rfl
    grind [stk,Wlf]
  .by_cases h9:l[j].1=9
   .rw[Wn0 hj' h9]at h;rcases Wcd (stk l j)with h0|⟨q,x,hq⟩
    .simp_all
    simp_all
   grind [WgS]
theorem Wp9{l:List Opn}{a b:Nat}(fE:a<=b)(hb:b<=l.length)(ti:bal ((l.take b).drop a)=true):stk l b=stk l a:=by
 obtain⟨h1,h2⟩:=WoM.1 ti;have hlen:((l.take b).drop a).length=b-a:=by simp;omega
 have key:∀i,i<=b-a->∃t,stk l (a+i)=stk l a++t/\(t.length:Int)=dep ((l.take b).drop a) i:=by
  intro i
  induction i with
  |zero=>simp[Wdq]
  |succ i ih=>
   intro hi;obtain⟨t,zS,yp⟩:=ih (by omega);have gu:a+i<l.length:=by omega
   have mS:i<((l.take b).drop a).length:=by omega
   have hd:=WaJ mS;have ei:((l.take b).drop a)[i]=l[a+i]:=by simp
   rw[ei]at hd;have hu:=h1 i mS;by_cases h8:l[a+i].1=8
   .grind [Xay,Wlf,Wvs,Xs]
   .by_cases h9:l[a+i].1=9
    .grind [WrF,Xay,Wn0,List.dropLast_append_of_ne_nil,Xdt]
    grind [Xay,WgS,WwR]
 obtain⟨t,zS,yp⟩:=key (b-a) (Xm _);simp_all
structure Mate(l:List Opn)(m k:Nat):Prop where
 lt:m<k
 len:k<l.length
 eq:dep l (k+1)=dep l m
 ne:∀i,m<=i->i<k->dep l (i+1)≠dep l m
 st:stk l (k+1)=stk l m
theorem Wxh{l:List Opn}(hu:Up l)(h0:dep l l.length=0){j m:Nat}{s:List Nat}(hj:j<=l.length)(hs:stk l j=s++ [m]):∃k,j<=k/\Mate l m k/\stk l m=s:=by
 obtain⟨a,⟨hm,h8⟩,c,d⟩:=Wme j hj s [] m hs;have wy:=WbJ hu m (by omega);have low:∀i,m<=i->i<j->dep l (i+1)≠dep l m:=λi h1 h2=>by
  grind [WbJ]
 have fB:=hu.at (show m<=l.length by omega);have ex:∀n i,l.length-i=n->j<=i->i<=l.length->(∀i',m<=i'->i'<i->dep l (i'+1)≠dep l m)->dep l m<dep l i->∃k,j<=k/\k<l.length/\dep l (k+1)=dep l m/\∀i',m<=i'->i'<k->dep l (i'+1)≠dep l m:=by
  intro n
  induction n with
  |zero=>grind
  |succ n ih=>
   intro i h1 h2 h3 h4 h5;have gu:i<l.length:=by omega
   by_cases he:dep l (i+1)=dep l m
   .grind
   .have hd:=WaJ gu;have ho:=Whu l[i]
    grind
 have lE:dep l m<dep l j:=by
  grind [WbJ]
 obtain⟨k,k1,k2,k3,k4⟩:=ex _ j rfl (Xm _) hj low lE;have rj:m<k:=by omega
 have pre:∀n i,i=m+1+n->i<=k->∃t,stk l i=s++m::t:=by
  intro n
  induction n with
  |zero=>grind
  |succ n ih=>
   intro i h1 h2;obtain⟨t,ht⟩:=ih (m+1+n) rfl (by omega);have e:i=(m+1+n)+1:=by omega
   have gu:m+1+n<l.length:=by omega
   by_cases g8:l[m+1+n].1=8
   .grind [Wlf]
   .by_cases g9:l[m+1+n].1=9
    .rcases Wcd t with rfl|⟨t0,x,rfl⟩
     .grind [Wn0,stk,WbJ]
     grind [Wn0,Xff]
    grind [WgS]
 obtain⟨t,ht⟩:=pre (k-m-1) k (by omega) (Xm _);have yq:=WbJ hu k (by omega);have zT:=WaJ k2;rw[ht]at yq;rw[c]at wy;simp at yq;have aG:=Whu l[k];have g9:l[k].1=9:=by
  grind [Wvs,WwR]
 have zU:t= []:=List.eq_nil_of_length_eq_zero (by omega);subst zU;refine⟨k,k1,⟨rj,k2,k3,k4,?_⟩,c⟩
 grind [Wn0]
theorem WqA{l:List Opn}{m i:Nat}:((dep l (i+1) -dep l m)==(0:Int))=decide (dep l (i+1)=dep l m):=by
 grind
theorem Wis{N:Nat}{l:List Opn}{m k:Nat}(hl:l.length<=1048576)(hN:1048576<N)(h8:∃h:m<l.length,l[m].1=8)(hm:Mate l m k):Zib N l (m:Int)=ret (k:Int):=by
 obtain⟨qG,h8⟩:=h8;unfold Zib;have e1:WZ .i64 (Wj l) 1=(l.length:Int) -1:=Wam (by unfold I64 Wj;omega);have e2:(decide (0<=(m:Int))&&decide ((m:Int)<=(l.length:Int) -1))=true:=by simp;omega
 have e3:(l[m].1 !=8)=false:=by simp[h8]
 simp only[WV,ret,Xc,e1,e2,Xt,Wc,Ww qG,We,Wx qG,e3];have key:∀(c n i:Nat),k-i=c->m<=i->i<=k->l.length-i<n->∀{R:Type} (K0:Int->Option R) (K1:Int->Int->Bool->Option R),Zep N l K0 K1 n (dep l i-dep l m) (i:Int)=K0 k:=by
  intro c
  induction c with
  |zero=>
   intro n i h1 h2 h3 h4 R K0 K1;have:i=k:=by omega
   subst this;cases n with
   |zero=>omega
   |succ n=>
    have gu:=hm.len;have hd:=WaJ gu;have hb:=WdE l i;have kn:=WdE l m;have ho:=Whu l[i];have e:Wm .i64 (dep l i-dep l m) (opd l[i])=dep l (i+1) -dep l m:=by grind [WJ,I64]
    simp only[Zep,W4 gu,Ww gu,Wx gu,We,WgE,ret,Xc,e];rw[WqA];simp[hm.eq]
  |succ c ih=>
   intro n i h1 h2 h3 h4 R K0 K1;cases n with
   |zero=>omega
   |succ n=>
    have hk:=hm.len;have gu:i<l.length:=by omega
    have hd:=WaJ gu;have hb:=WdE l i;have kn:=WdE l m;have ho:=Whu l[i];have e:Wm .i64 (dep l i-dep l m) (opd l[i])=dep l (i+1) -dep l m:=by grind [WJ,I64]
    have hne:=hm.ne i h2 (by omega);simp only[Zep,W4 gu,Ww gu,Wx gu,We,WgE,ret,Xc,e,WqA,hne,decide_false,Wc,Wn (show i<4611686018427387904 by omega)];exact ih n (i+1) (by omega) (by omega) (by omega) (by omega) K0 K1
 have:=key (k-m) N m rfl (Xm _) (by have:=hm.lt;omega) (by omega) (R:=Unit×Kh) (λba=>some ((),(ba,()))) (λsj zF eY=>some ((),((-1:Int),())));simp_all
end
section
theorem WqK{N:Nat}{o:Opn}:∃t:Int,Zck N o=ret t/\Zhy N o=ret t:=by
 unfold Zck Zhy;rw[WdB,Wfo];simp only[ret,Xc];cases Wey o
 .simp_all
 .cases o.1==5<;>cases o.1==6<;>cases o.1==12<;>cases o.1==13<;>cases o.1==14<;>cases o.1==15<;>cases o.1==16<;>exact⟨_,rfl,rfl⟩
noncomputable def WjT(o:Opn):Int:=match Zck 0 o with|some (_,(t,_))=>t|none=>0
theorem WxS{N:Nat}{o:Opn}:Zck N o=Zck 0 o:=by
 unfold Zck;rw[WdB,WdB]
theorem WdW{N:Nat}{o:Opn}:Zck N o=ret (WjT o):=by
 rw[WxS];obtain⟨t,h,_⟩:=WqK (N:=0) (o:=o);unfold WjT;rw[h]
theorem WgR{N:Nat}{o:Opn}:Zhy N o=ret (WjT o):=by
 obtain⟨t,h,h2⟩:=WqK (N:=N) (o:=o);rw[h2,←h,WdW]
noncomputable def WgT(o:Opn):Bool:=(o.1==11)||(WjT o==2)
noncomputable def Who(l:List Opn):Bool:=WrD l&& !l.any WgT
theorem WhK{N:Nat}{l:List Opn}(hl:l.length<=1048576)(hN:1048576<N):Zgl N l=ret (l.any λo=>o.1==11):=by
 unfold Zgl;have h1:=WC (l:=l) (V:=Unit) (R:=Unit×Kq) (lp:=λn j v=>Zcy N l (some ((),(true,()))) (λi8 t9=>some ((),(false,()))) n j) (n:=N) (by omega)
  (body:=λj x v k=>bif x.1==11 then some ((),(true,()))else k v) (K:=λ_ v=>some ((),(false,())))
  (λn i v hi=>by simp only[Zcy,W4 hi,Ww hi,Wx hi,Wn (show i<4611686018427387904 by omega),We])
  (λn v=>by simp[Zcy,Wae,Xm,Wc]) ()
 refine h1.trans ?_;rw[WaO (p:=λx:Opn=>x.1==11) (E:=λ_=>some ((),(true,()))) l 0 () (λj x v k _=>rfl)];cases l.any λo:Opn=>o.1==11<;>rfl
theorem Won{N:Nat}{l:List Opn}(hl:l.length<=1048576)(hN:1048576<N):Zh9 N l=ret (Who l):=by
 unfold Zh9 Who;simp only[WhB hl hN,ret,Xc];cases WrD l with
 |false=>rfl
 |true=>
  simp only[WhK hl hN,ret,Xc,Xt,Wc,Xce];have h1:=WC (l:=l) (V:=Unit) (R:=Unit×Kq) (lp:=λn j v=>Zel N l (some ((),(false,()))) (λi8 t9=>some ((),(true,()))) n j) (n:=N) (by omega)
   (body:=λj x v k=>bif WjT x==2 then some ((),(false,()))else k v) (K:=λ_ v=>some ((),(true,())))
   (λn i v hi=>by simp only[Zel,W4 hi,Ww hi,Wx hi,Wn (show i<4611686018427387904 by omega),We,WdW,ret,Xc])
   (λn v=>by simp[Zel,Wae,Xm,Wc]) ()
  (try simp only[]at h1)
  rw[h1,WaO (p:=λx=>WjT x==2) (E:=λ_=>some ((),(false,()))) l 0 () (λj x v k _=>rfl)];have e:l.any WgT=((l.any λo=>o.1==11)||l.any λo=>WjT o==2):=by
   grind [WgT,WjT]
  rw[e];cases l.any λo:Opn=>o.1==11<;>cases l.any λo=>WjT o==2<;>rfl
theorem Woj{N:Nat}{l:List Opn}(hl:l.length<=1048576)(hN:1048576<N):Zia N l=ret (Who l):=by
 unfold Zia Who;have h1:=WC (l:=l) (V:=Unit) (R:=Unit×Kq) (lp:=λn j v=>Zem N l (some ((),(false,()))) (λaq aH=>((Zc9 N l).bind λbX=>(some ((),(bX.2.1,()))))) n j) (n:=N) (by omega)
  (body:=λj x v k=>bif WgT x then some ((),(false,()))else k v) (K:=λ_ v=>ret (WrD l))
  (λn i v hi=>by
   simp only[Zem,W4 hi,Ww hi,Wx hi,Wn (show i<4611686018427387904 by omega),We,WgR,ret,Xc,WgT];cases l[i].1==11<;>rfl)
  (λn v=>by simp_all [Zem,Wae,Xm,Wc,WhS,ret,Xc]) ()
 refine h1.trans ?_;rw[WaO (p:=WgT) (E:=λ_=>some ((),(false,()))) l 0 () (λj x v k _=>rfl)];cases l.any WgT<;>cases WrD l<;>rfl
def WfH(l:List Int):Bool:=decide (l.length=4)&&l.all WbQ
theorem Wdp{N:Nat}{l:List Int}(hl:l.length<=1048576)(hN:1048576<N):Zad N l 4=ret (WfH l):=by
 unfold Zad WfH;have h1:=WC (l:=l) (V:=Unit) (R:=Unit×Kq) (lp:=λn j v=>Za2 N l 4 (some ((),(false,()))) (λi8 t9=>some ((),((Wj l)==(4:Int),()))) n j) (n:=N) (by omega)
  (body:=λj x v k=>bif !WbQ x then some ((),(false,()))else k v) (K:=λ_ v=>some ((),((Wj l)==(4:Int),())))
  (λn i v hi=>by simp only[Za2,W4 hi,Ww hi,Wx hi,Wn (show i<4611686018427387904 by omega),We,WaB,ret,Xc])
  (λn v=>by simp[Za2,Wae,Xm,Wc]) ()
 refine h1.trans ?_;rw[WaO (p:=λx=>!WbQ x) (E:=λ_=>some ((),(false,()))) l 0 () (λj x v k _=>rfl),WcD];have e:((Wj l)==(4:Int))=decide (l.length=4):=by
  grind [Wj]
 rw[e];cases l.all WbQ<;>simp
end
section
section
variable{o:Opn}
theorem Wsc(h:Wey o=true)(h1:1<=o.1)(h4:o.1<=4):Wad o.2.1=true/\(o.1=1->WbQ o.2.2.1=true)/\(o.1≠1->Wad o.2.2.1=true/\Wad o.2.2.2=true):=by
 obtain⟨k,a,b,c⟩:=o;simp only at h1 h4;have:k=1\/k=2\/k=3\/k=4:=by omega
 rcases this with rfl|rfl|rfl|rfl
 .have:(Wad a&&WbQ b&&(c==(0:Int)))=true:=h;simp_all
 all_goals
  have:(Wad a&&Wad b&&Wad c)=true:=h;simp_all
theorem Wxt(h:Wey o=true)(h5:o.1=5):Wad o.2.1=true/\WaF o.2.2.1=true:=by
 obtain⟨k,a,b,c⟩:=o;simp only at h5;subst h5;have:(Wad a&&WaF b&&(c==(0:Int)))=true:=h;simp_all
theorem Wyr(h:Wey o=true)(h5:o.1=6):WaF o.2.1=true/\Wad o.2.2.1=true:=by
 obtain⟨k,a,b,c⟩:=o;simp only at h5;subst h5;have:(WaF a&&Wad b&&(c==(0:Int)))=true:=h;simp_all
theorem Wxs(h:Wey o=true)(h5:o.1=7):Wad o.2.1=true/\1<=o.2.2.1/\o.2.2.1<=20:=by
 obtain⟨k,a,b,c⟩:=o;simp only at h5;subst h5;have:(Wad a&&(decide (1<=b)&&decide (b<=20))&&(c==(0:Int)))=true:=h;simp_all
theorem Wyp(h:Wey o=true)(h5:o.1=8):Wad o.2.1=true:=by
 obtain⟨k,a,b,c⟩:=o;simp only at h5;subst h5;have:(Wad a&&(b==(0:Int))&&(c==(0:Int)))=true:=h;simp_all
theorem WoN(h:Wey o=true):1<=o.1/\o.1<=16:=by
 by_cases hk:1<=o.1/\o.1<=16
 .exact hk
 .exfalso;have e:∀n:Int,1<=n->n<=16->(o.1==n)=false:=λn h1 h2=>by simp;omega
  simp_all [Wey]
end
theorem Wbg{x:Int}{l:List Int}(h:Wad x=true)(hl:l.length=4):inb x l.length=true:=by
 grind [Wad,inb]
structure Vals(n:Nat)(l:List Int):Prop where
 len:l.length=n
 val:∀x∈l,0<=x/\x<=65535
theorem Vals.get{n:Nat}{l:List Int}(h:Vals n l)(i:Nat):0<=l.getD i 0/\l.getD i 0<=65535:=by
 by_cases hi:i<l.length
 .rw[Wp hi];exact h.val _ (Xo hi)
 simp_all
theorem Vals.set{n:Nat}{l:List Int}(h:Vals n l)(i:Nat){x:Int}(hx:0<=x/\x<=65535):Vals n (l.set i x):=
 ⟨by rw[Xah];exact h.len,λy hy=>by
  rcases List.mem_or_eq_of_mem_set hy with hy|hy
  .exact h.val y hy
  omega⟩
theorem Wbo{x:Int}:WbQ x=true↔0<=x/\x<=65535:=by unfold WbQ;simp
theorem Wfh{l:List Int}:WfH l=true↔Vals 4 l:=by
 unfold WfH;rw[Xi,Wh,Xag];exact⟨λh=>⟨h.1,λx hx=>Wbo.1 (h.2 x hx)⟩,λh=>⟨h.len,λx hx=>Wbo.2 (h.val x hx)⟩⟩
theorem Wil{l:List Int}:WeX l=true↔Vals 8 l:=by
 unfold WeX;rw[Xi,Wh,Xag];exact⟨λh=>⟨h.1,λx hx=>Wbo.1 (h.2 x hx)⟩,λh=>⟨h.len,λx hx=>Wbo.2 (h.val x hx)⟩⟩
def Wo3(o:Opn)(r:List Int):List Int:=
 bif o.1==1 then r.set o.2.1.toNat o.2.2.1 else
 bif o.1==2 then r.set o.2.1.toNat ((r.getD o.2.2.1.toNat 0+r.getD o.2.2.2.toNat 0)%65536)else
 bif o.1==3 then r.set o.2.1.toNat ((r.getD o.2.2.1.toNat 0-r.getD o.2.2.2.toNat 0+65536)%65536)else
 bif decide (r.getD o.2.2.1.toNat 0<r.getD o.2.2.2.toNat 0)then r.set o.2.1.toNat 1 else r.set o.2.1.toNat 0
theorem Wcv{x:Int}(h:0<=x):WjJ x 65536=x%65536:=by grind [WjJ,Int.tmod_eq_emod_of_nonneg]
theorem Wk0{o:Opn}{r:List Int}(h:Wey o=true)(h1:1<=o.1)(h4:o.1<=4)(hr:Vals 4 r):Vals 4 (Wo3 o r):=by
 obtain⟨_,hv,_⟩:=Wsc h h1 h4;unfold Wo3;cases e1:o.1==1
 .cases o.1==2
  .cases o.1==3
   .cases decide (r.getD o.2.2.1.toNat 0<r.getD o.2.2.2.toNat 0)
    .exact hr.set _ (by omega)
    .exact hr.set _ (by omega)
   .exact hr.set _ (by omega)
  .exact hr.set _ (by omega)
 .exact hr.set _ (Wbo.1 (hv (by simp_all)))
section
variable{N:Nat}{o:Opn}{r:List Int}
theorem Whw(hN:1048576<N)(h:Wey o=true)(h1:1<=o.1)(h4:o.1<=4)(hr:Vals 4 r):Znu N o r=some ((),(Wo3 o r,(true,()))):=by
 obtain⟨ha,hv,zV⟩:=Wsc h h1 h4;unfold Znu Zq;have e0:WM r.length=true:=WB (by rw[hr.len];omega);have e4:decide (o.1>4)=false:=by simp;omega
 have e5:WfH r=true:=Wfh.2 hr;have ea:=Wbg ha hr.len;have ez:inz 65536=true:=rfl;have gb:=hr.get o.2.2.1.toNat;have gc:=hr.get o.2.2.2.toNat;simp only[e0,We,Xc,Wfo,ret,h,Xt,Wc,e4,Wdp (l:=r) (by rw[hr.len];omega) hN,e5,ea,ez];unfold Wo3;by_cases k1:o.1=1
 .simp_all
 .have b:(o.1==1)=false:=by simp[k1]
  obtain⟨hb,hc⟩:=zV k1;rw[b];simp only[Wc,Wbg hb hr.len,Wbg hc hr.len,We,Xah,ea];have s1:Wm .i64 (r.getD o.2.2.1.toNat 0) (r.getD o.2.2.2.toNat 0)=r.getD o.2.2.1.toNat 0+r.getD o.2.2.2.toNat 0:=WJ (by unfold I64;omega);have s2:WZ .i64 (r.getD o.2.2.1.toNat 0) (r.getD o.2.2.2.toNat 0)=r.getD o.2.2.1.toNat 0-r.getD o.2.2.2.toNat 0:=Wam (by unfold I64;omega);have s3:Wm .i64 (r.getD o.2.2.1.toNat 0-r.getD o.2.2.2.toNat 0) 65536=r.getD o.2.2.1.toNat 0-r.getD o.2.2.2.toNat 0+65536:=WJ (by unfold I64;omega);rw[s1,s2,s3,Wcv (by omega),Wcv (by omega)];cases o.1==2
  .cases o.1==3
   .simp only[Wc,WD,Xdl];cases decide (r.getD o.2.2.1.toNat 0<r.getD o.2.2.2.toNat 0)<;>rfl
   .rfl
  .rfl
end
def Wy2(c:List Int)(rows:List Rw):List Int:=rows.foldr (λr c=>c.set r.1.toNat r.2) c
def WdN(l:List Rw):Prop:=∀r∈l,(0<=r.1/\r.1<=7)/\0<=r.2/\r.2<=65535
theorem Wic{l:List Rw}:l.all Wo6=true↔WdN l:=by
 simp[Xag,WdN,Wo6,WaF,WbQ]
theorem Wcu{N:Nat}{l:List Int}(h:l.length<=1048576):Zq N l=ret l:=by
 simp_all [Zq,Wuv,We]
end
section
structure Lin{α:Type}(cf:α->α->Int):Prop where
 irr:∀x,¬cf x x<0
 tr:∀x y z,cf x y<0->cf y z<0->cf x z<0
 nt:∀x y z,¬cf x y<0->¬cf y z<0->¬cf x z<0
theorem Wvw:Lin cfE:=⟨λx=>by unfold cfE;omega,λx y z=>by unfold cfE;omega,λx y z=>by unfold cfE;omega⟩
theorem Wpp:Lin cfH:=⟨λx=>by rw[Wcf];omega,λx y z=>by simp only[Wcf];omega,λx y z=>by simp only[Wcf];omega⟩
def Ris{α:Type}(cf:α->α->Int)(l:List α):Prop:=l.Pairwise λa b=>cf a b<0
def Wdt{α:Type}(cf:α->α->Int):List α->α->List α
 | [],e=>[e]
 |x::l,e=>if cf x e<0 then x::Wdt cf l e else if cf e x<0 then e::x::l else e::l
def Ap{α:Type}(cf:α->α->Int)(x y:α):Prop:=cf x y<0\/cf y x<0
variable{α:Type}{cf:α->α->Int}
theorem Lin.ap(h:Lin cf){x y:α}(hn:¬Ap cf x y){z:α}:(cf x z<0↔cf y z<0)/\(cf z x<0↔cf z y<0):=by
 unfold Ap at hn;refine⟨⟨λa=>?_,λa=>?_⟩,⟨λa=>?_,λa=>?_⟩⟩
 .exact Classical.byContradiction λc=>h.nt x y z (λq=>hn (.inl q)) c a
 .exact Classical.byContradiction λc=>h.nt y x z (λq=>hn (.inr q)) c a
 .exact Classical.byContradiction λc=>h.nt z y x c (λq=>hn (.inr q)) a
 .exact Classical.byContradiction λc=>h.nt z x y c (λq=>hn (.inl q)) a
theorem Wbm(hc:Lin cf){e x:α}:∀{l:List α},Ris cf l->(x∈Wdt cf l e↔x=e\/(x∈l/\Ap cf x e))
 | [],_=>by simp[Wdt]
 |y::l,h=>by
  have hl:=(Xv.1 h);unfold Wdt;by_cases h1:cf y e<0
  .rw[Wb h1,Xq,Wbm hc hl.2,Xq];refine⟨?_,?_⟩
   .rintro(rfl|h|h)
    .exact .inr ⟨.inl rfl,.inl h1⟩
    .grind
    simp_all
   grind
  .rw[Wa h1];by_cases h2:cf e y<0
   .rw[Wb h2];simp only[Xq];refine⟨?_,?_⟩
    .rintro(h|rfl|h)
     .grind
     .exact .inr ⟨.inl rfl,.inr h2⟩
     .exact .inr ⟨.inr h,.inr (hc.tr _ _ _ h2 (hl.1 x h))⟩
    grind
   .rw[Wa h2];simp only[Xq];have hn:¬Ap cf y e:=by unfold Ap;omega
    refine⟨?_,?_⟩
    .rintro(h|h)
     .grind
     .exact .inr ⟨.inr h,.inr ((hc.ap hn).1.1 (hl.1 x h))⟩
    grind
theorem Wb4(hc:Lin cf){e:α}:∀{l:List α},Ris cf l->Ris cf (Wdt cf l e)
 | [],_=>by simp[Wdt,Ris]
 |y::l,h=>by
  have hl:=(Xv.1 h);unfold Wdt;by_cases h1:cf y e<0
  .rw[Wb h1];refine Xv.2 ⟨λx hx=>?_,Wb4 hc hl.2⟩;rcases(Wbm hc hl.2).1 hx with rfl|hx
   .exact h1
   simp_all
  .rw[Wa h1];by_cases h2:cf e y<0
   .rw[Wb h2];refine Xv.2 ⟨λx hx=>?_,h⟩;rcases Xq.1 hx with rfl|hx
    .exact h2
    .exact hc.tr _ _ _ h2 (hl.1 x hx)
   .rw[Wa h2];have hn:¬Ap cf y e:=by unfold Ap;omega
    exact Xv.2 ⟨λx hx=>(hc.ap hn).1.1 (hl.1 x hx),hl.2⟩
theorem Wi5(hc:Lin cf){L M:List α}(hM:Ris cf M)(hL:L.Pairwise (Ap cf))(hm:∀x,x∈L↔x∈M):sortBy cf L=M:=by
 have hn:∀{l:List α},l.Pairwise (Ap cf)->l.Nodup:=λh=>h.imp λ{a b} fE=>by
  rintro rfl;unfold Ap at fE;have:=hc.irr a;omega
 have hM':M.Pairwise (Ap cf):=hM.imp λh=>.inl h;have hp:L.Perm M:=(List.perm_ext_iff_of_nodup (hn hL) (hn hM')).2 hm;unfold sortBy;have h1:=List.pairwise_mergeSort (le:=λx y=>!lessBy cf y x) (λa b c=>by
  simp only[lessBy,Xar,Wy]
  exactλh1 h2=>hc.nt _ _ _ h2 h1) (λa b=>by
  simp only[lessBy,Xcb,Xar,Wy];rcases Classical.em (cf b a<0)with h|h
  .exact .inr λh'=>hc.irr _ (hc.tr _ _ _ h h')
  omega) L
 refine List.Perm.eq_of_pairwise ?_ h1 (hM.imp λ{a b} h=>?_) ((Xed _ _).trans hp)
 .intro a b ha hb h1 h2;simp only[lessBy,Xar,Wy]at h1 h2;have zW:a∈M:=(hm a).1 ((Xed _ _).mem_iff.1 ha);obtain⟨i,hi,rfl⟩:=Xao zW;obtain⟨j,hj,rfl⟩:=Xao hb;rcases Nat.lt_trichotomy i j with h|h|h
  .exact Wi (Xak.1 hM i j hi hj h) h2
  .grind
  .exact Wi (Xak.1 hM j i hj hi h) h1
 .simp only[lessBy,Xar,Wy]
  exactλh'=>hc.irr _ (hc.tr _ _ _ h h')
theorem WqG{r:α->α->Bool}{R:α->α->Prop}(hr:∀a b,R a b->r a b=true):∀{l:List α},l.Pairwise R->WlF r l=true
 | [],_=>rfl
 |x::l,h=>by
  have:=Xv.1 h;simp only[WlF,Xi,Xag];exact⟨λy hy=>hr _ _ (this.1 y hy),WqG hr this.2⟩
theorem WqE(hc:Lin cf){rng:α->Bool}{N:Nat}{L M:List α}(hM:Ris cf M)(hL:L.Pairwise (Ap cf))(hm:∀x,x∈L↔x∈M)(hr:∀x∈L,rng x=true)(hl:L.length<=1048576):
  Zn6 rng cf N L=some ((M,()),()):=by
 grind [Zn6,Xag,WqG,Ap,apart,lessBy,decide_eq_true,Wi5]
theorem Wnt(hc:Lin cf){L:List α}{e:α}{i:Nat}(hL:L.Pairwise (Ap cf))(hi:i<L.length)(hk:¬Ap cf L[i] e):(L.set i e).Pairwise (Ap cf)/\∀x,x∈L.set i e↔x=e\/(x∈L/\Ap cf x e):=by
 have wz:∀{z},Ap cf L[i] z↔Ap cf e z:=λ{z}=>by unfold Ap;rw[(hc.ap hk).1,(hc.ap hk).2]
 have zX:∀{a b:α},Ap cf a b->Ap cf b a:=λh=>h.symm;have hG:=Xak.1 hL;refine⟨?_,λx=>⟨λhx=>?_,?_⟩⟩
 .rw[Xak]
  grind
 .obtain⟨j,hj,rfl⟩:=Xao hx
  grind
 .rintro(rfl|⟨hx,kV⟩)
  .grind [Xcv]
  .obtain⟨j,hj,rfl⟩:=Xao hx;refine Xcv.2 ⟨j,by simp_all,?_⟩;rw[Xau,Wa]
   grind
theorem Wky{L:List α}{e:α}(hL:L.Pairwise (Ap cf))(hk:∀x∈L,Ap cf x e):(L++ [e]).Pairwise (Ap cf)/\∀x,x∈L++ [e]↔x=e\/(x∈L/\Ap cf x e):=by
 grind
end
section
abbrev KM:=Int×Int×List Int
structure Kd where
 phase:Int:=0
 pc:Int:=0
 since:Int:=0
 tries:Int:=0
 pos:Int:=0
 out:Int:=0
 regs:List Int:=[]
 seen:List En:=[]
 writes:List Rw:=[]
 marks:List KM:=[]
 busy:Bool:=false
 pb:Pb:=(0,0,0,0)
def Kd.e(x:Kd):Y_KidRun:=(x.phase,x.pc,x.since,x.tries,x.pos,x.out,x.regs,x.seen,x.writes,x.marks,x.busy,x.pb)
structure Fm where
 rv:Int:=0
 clock:Int:=0
 owner:Int:=0
 lost:Bool:=false
 regs:List Int:=[]
 start:List Rw:=[]
 buf:List En:=[]
 order:List Int:=[]
 reads:List Rw:=[]
 kids:List Kd:=[]
def Fm.e(f:Fm):Y_Family:=(f.rv,f.clock,f.owner,f.lost,f.regs,f.start,f.buf,f.order,f.reads,f.kids.map Kd.e)
def zOp:Opn:=(0,0,0,0)
def opN(code:List Opn)(i:Int):Opn:=Xd code i.toNat zOp
def Wcl{α:Type}(l:List α)(i:Int)(d:α):α:=Xd l i.toNat d
def Woc{α:Type}(l:List α)(i:Int)(x:α):List α:=Xk l i.toNat x
def Wh2{α:Type}(l:List α)(d:α):α:=Xd l (l.length-1) d
def WiD(l:List Opn)(m:Nat):Nat:=((Xde l.length).find? λk=>decide (m<=k)&&decide (dep l (k+1)=dep l m)).getD 0
def Fm.again(f:Fm)(x:Kd):Kd:={since:=f.clock,tries:=x.tries+1,regs:=f.regs}
def Weo(m:Mm)(f:Fm)(x:Kd)(o:Opn):Fm×Kd:=
 match Wbv x.writes o.2.2.1 with
 |some v=>(f,{x with regs:=Woc x.regs o.2.1 v,pc:=x.pc+1})
 |none=>match ent f.buf o.2.2.1 with
  |some r=>if r.2.2.2>x.since then(f,f.again x)else(f,{x with regs:=Woc x.regs o.2.1 r.2.2.1,seen:=x.seen++ [r.2],pc:=x.pc+1})
  |none=>
   let p:=W5 m f.rv (if x.busy then x.pb else(o.2.2.1,0,0,0))
   if p.2.1=4 then({f with lost:=true},{x with busy:=true,pb:=p})
   else if p.2.1=3 then(f,{x with regs:=Woc x.regs o.2.1 p.2.2.2,seen:=x.seen++ [(o.2.2.1,p.2.2.2,-1)],busy:=false,pb:=(0,0,0,0),pc:=x.pc+1})
   else(f,{x with busy:=true,pb:=p})
def Wjv(x:Kd)(code:List Opn):Kd:=
 if x.marks.length=0 then{x with writes:=[],out:=2,phase:=1}else
 let q:=Wh2 x.marks (0,0,[])
 {x with marks:=x.marks.dropLast,regs:=Woc q.2.2 (opN code q.1).2.1 0,writes:=x.writes.take q.2.1.toNat,pc:=WiD code q.1.toNat+1}
def WrZ(m:Mm)(f:Fm)(x:Kd)(code:List Opn):Fm×Kd:=
 if x.pc>=code.length then(f,{x with out:=1,phase:=1})else
 let o:=opN code x.pc
 if o.1=5 then Weo m f x o else
 if o.1=10 then(f,Wjv x code)else
 if o.1=6 then(f,{x with writes:=x.writes++ [(o.2.1,Wcl x.regs o.2.2.1 0)],pc:=x.pc+1})else
 if o.1=7 then(f,{x with pc:=(if Wcl x.regs o.2.1 0=0 then x.pc+o.2.2.1 else x.pc)+1})else
 if o.1=8 then(f,{x with marks:=x.marks++ [(x.pc,(x.writes.length:Int),x.regs)],pc:=x.pc+1})else
 if o.1=9 then(f,{x with marks:=x.marks.dropLast,regs:=Woc x.regs (opN code (Wh2 x.marks (0,0,[])).1).2.1 1,pc:=x.pc+1})else
 (f,{x with regs:=Wo3 o x.regs,pc:=x.pc+1})
def WbX(c:Int)(b:List En)(rows:List Rw):List En:=rows.foldl (λb r=>Wdt cfE b (r.1,r.2,c)) b
def Wbs(l:List En):List Rw:=(l.filter λe=>decide (e.2.2= -1)).map λe=>(e.1,e.2.1)
def Wdn(f:Fm)(x:Kd)(k:Nat):Fm×Kd:=
 ({f with clock:=f.clock+1,buf:=WbX (f.clock+1) f.buf (WcT x.writes),reads:=f.reads++Wbs x.seen,order:=f.order++ [(k:Int)],owner:=0},{x with phase:=3,pos:=0,marks:=[]})
def Wv6(b:List En)(c:Int):Int:=match ent b c with
 |some r=>r.2.2.2
 |none=>-1
def Weq(m:Mm)(f:Fm)(x:Kd)(k:Nat)(code:List Opn):Fm×Kd:=
 if x.phase=0 then WrZ m f x code else
 if x.phase=1 then(if f.owner=0 then({f with owner:=(k:Int)+1},{x with phase:=2})else(f,x))else
 if x.phase=2 then
  if x.pos=x.seen.length then Wdn f x k else
  let s:=Wcl x.seen x.pos (0,0,0)
  if Wv6 f.buf s.1=s.2.2 then(f,{x with pos:=x.pos+1})else({f with owner:=0},f.again x)
 else(f,x)
def Fm.put(q:Fm×Kd)(k:Nat):Fm:={q.1 with kids:=q.1.kids.set k q.2}
def WcE(m:Mm)(f:Fm)(k:Nat)(code:List Opn):Fm:=
 if f.lost then f else Fm.put (Weq m f (f.kids.getD k {}) k code) k
def WaE(rv:Int)(regs:List Int)(writes:List Rw)(kids:Nat):Fm:=
 {rv:=rv,regs:=regs,start:=WcT writes,buf:=(WcT writes).map λr=>(r.1,r.2,0),kids:=Xu kids {regs:=regs}}
def Wbj(f:Fm):Bool:=f.kids.all λx=>decide (x.phase=3)
def WiE(f:Fm):List Rw:=f.buf.map λe=>(e.1,e.2.1)
def Wwg(x:Kd):Int:=if x.out=1/\WfH x.regs=true then Wcl x.regs 0 0 else 0
def Wjs(f:Fm):List Int:=
 if WfH f.regs=true/\f.kids.length<=3 then f.kids.map Wwg++f.regs.drop f.kids.length else []
structure KMk(code:List Opn)(pc:Nat)(marks:List KM)(wl:Nat):Prop where
 pcs:marks.map (·.1)=(stk code pc).map λm:Nat=>(m:Int)
 each:∀q∈marks,Vals 4 q.2.2/\0<=q.2.1/\q.2.1<=q.1/\q.2.1<=wl
 up:marks.Pairwise λa b=>a.2.1<=b.2.1
structure KOk(code:List Opn)(c n:Int)(x:Kd):Prop where
 pc:0<=x.pc/\x.pc<=code.length
 regs:Vals 4 x.regs
 rows:WdN x.writes
 wl:(x.writes.length:Int)<=x.pc
 sl:(x.seen.length:Int)<=x.pc
 since:0<=x.since/\x.since<=c
 tries:0<=x.tries/\x.tries<=n
 seen:∀e∈x.seen,(0<=e.1/\e.1<=7)/\(0<=e.2.1/\e.2.1<=65535)/\ -1<=e.2.2/\e.2.2<=x.since
 marks:x.phase=0->KMk code x.pc.toNat x.marks x.writes.length
 pos:0<=x.pos/\x.pos<=x.seen.length
 pb:x.busy=true->Wlg x.pb=true
 phase:0<=x.phase/\x.phase<=3
 out:0<=x.out/\x.out<=2
structure FOk(codes:List (List Opn))(n:Int)(f:Fm):Prop where
 len:f.kids.length=codes.length
 regs:Vals 4 f.regs
 clock:0<=f.clock/\f.clock=f.order.length
 done:f.order.length=f.kids.countP λx=>decide (x.phase=3)
 bufR:Ris cfE f.buf
 bufE:∀e∈f.buf,(0<=e.1/\e.1<=7)/\(0<=e.2.1/\e.2.1<=65535)/\0<=e.2.2/\e.2.2<=f.clock
 readsL:f.reads.length<=24*f.order.length
 readsE:WdN f.reads
 owner:0<=f.owner/\f.owner<=f.kids.length
 kid:∀(k:Nat) (h:k<f.kids.length),KOk (codes.getD k []) f.clock n f.kids[k]
end
section
structure CC(l:List Opn):Prop where
 len:l.length<=24
 up:Up l
 z:dep l l.length=0
 ok:∀i (h:i<l.length),Wey l[i]=true/\1<=l[i].1/\l[i].1<=16
 sk:∀i (h:i<l.length),l[i].1=7->i+1+l[i].2.2.1.toNat<=l.length/\bal ((l.take (i+1+l[i].2.2.1.toNat)).drop (i+1))=true
 fk:∀i (h:i<l.length),l[i].1=11->dep l i=0/\frk l (i+1)<=1
structure KC(l:List Opn):Prop extends CC l where
 k10:∀i (h:i<l.length),l[i].1<=10
theorem Wt7{o:Opn}(h:Wey o=true)(fO:12<=o.1):WjT o=2:=by
 have ui:=WoN h;have key:=WdW (N:=0) (o:=o);unfold Zck at key;rw[WdB,h]at key;simp only[ret,Xc,Xt,Wc]at key;have e5:(o.1==5)=false:=by simp;omega
 have e6:(o.1==6)=false:=by simp;omega
 rw[e5,e6]at key;simp only[Wc]at key;have:o.1=12\/o.1=13\/o.1=14\/o.1=15\/o.1=16:=by omega
 rcases this with hk|hk|hk|hk|hk<;> · simp_all
theorem WxB{l:List Opn}(h:WrD l=true):CC l:=by
 unfold WrD at h;simp only[Xi,Wh,Xar]at h;obtain⟨h1,h2,h3⟩:=h;obtain⟨b1,b2⟩:=WoM.1 h2;have hb:∀i (hi:i<l.length),WqX l i l[i]=false:=λi hi=>by
  rw[Bool.eq_false_iff];intro hb;have:Wop (WqX l) 0 l=true:=WgY.2 ⟨i,hi,by simp_all⟩;simp_all
 have aG:∀i (hi:i<l.length),Wey l[i]=true:=λi hi=>by
  grind [WqX,Xdw,Xfo]
 refine⟨h1,b1,b2,λi hi=>⟨aG i hi,WoN (aG i hi)⟩,λi hi h7=>?_,λi hi fz=>?_⟩
 .grind [WqX,Xdw,Xfo,Wi7]
 grind [WqX,Xdw,Xfo]
theorem Wyz{l:List Opn}(h:Who l=true):KC l:=by
 unfold Who at h;simp only[Xi,Xar]at h;have hc:=WxB h.1;refine⟨hc,λi hi=>?_⟩;have cw:WgT l[i]=false:=by
  grind
 unfold WgT at cw;simp only[Xdw]at cw;by_cases cN:l[i].1<=10
 .exact cN
 .exfalso;by_cases fz:l[i].1=11
  .simp_all
  .have:=Wt7 (hc.ok i hi).1 (by omega);simp_all
theorem WrW{l:List Opn}{m k:Nat}(h:Mate l m k):WiD l m=k:=by
 unfold WiD;have:(Xde l.length).find? (λk=>decide (m<=k)&&decide (dep l (k+1)=dep l m))=some k:=by
  rw[List.find?_range_eq_some];have:=h.lt;refine⟨?_,List.mem_range.2 h.len,λj hj=>?_⟩
  .simp[h.eq];omega
  .simp only[Xar,Bool.and_eq_false_iff,Wy];by_cases hm:m<=j
   .exact .inr (h.ne j hm hj)
   omega
 grind
theorem WfI{l:List Opn}{i:Int}(h0:0<=i)(h:i<l.length):∃(n:Nat) (hn:n<l.length),i=n/\opN l i=l[n]:=by
 grind [opN,Wp]
theorem Wmf{l:List Opn}{n:Nat}(h:n<l.length):opN l (n:Int)=l[n]:=by
 grind [opN,Wp]
theorem Wrr{α:Type}(q:List α)(x d:α):Wh2 (q++ [x]) d=x:=by unfold Wh2;simp
theorem WhQ{M:Type}{g:M->Int}{l:List Opn}{pc:Nat}{marks:List M}{d:M}(hc:CC l)(hp:pc<=l.length)(hm:marks.map g=(stk l pc).map λm:Nat=>(m:Int))(hne:marks.length≠0):
  ∃(m:Nat) (q:List M) (x:M),marks=q++ [x]/\Wh2 marks d=x/\g x=(m:Int)/\(∃hm:m<l.length,l[m].1=8)/\m<pc/\Mate l m (WiD l m)/\pc<=WiD l m/\stk l m=(stk l pc).dropLast/\q.map g=(stk l m).map λm:Nat=>(m:Int):=by
 rcases Wcd marks with h0|⟨q,x,hq⟩
 .simp_all
 .rw[hq,Xz,Xae,Xbt]at hm;rcases Wcd (stk l pc)with h0|⟨t,m,ht⟩
  .simp_all
  .rw[ht,Xz,Xae,Xbt]at hm;obtain⟨e1,e2⟩:=Xdy hm rfl;injection e2 with e2;obtain⟨k,k1,k2,k3⟩:=Wxh hc.up hc.z hp ht;have k4:=WrW k2;obtain⟨hlt,h8,_,_⟩:=Wme pc hp t [] m ht
   grind [Wrr,Xff]
end
section
theorem Wsp{α β:Type}(g:α->β)(l:List α)(i:Nat)(d:α):Xd (l.map g) i (g d)=g (l.getD i d):=by
 simp_all
theorem kdP(x:Kd):x.e.1=x.phase/\x.e.2.1=x.pc/\x.e.2.2.1=x.since/\x.e.2.2.2.1=x.tries/\P4 x.e=x.pos/\P5 x.e=x.out/\P6 x.e=x.regs/\P7 x.e=x.seen/\P8 x.e=x.writes/\P9 x.e=x.marks/\P10 x.e=x.busy:=⟨rfl,rfl,rfl,rfl,rfl,rfl,rfl,rfl,rfl,rfl,rfl⟩
theorem fmP(f:Fm):f.e.1=f.rv/\f.e.2.1=f.clock/\f.e.2.2.1=f.owner/\f.e.2.2.2.1=f.lost/\P4 f.e=f.regs/\P5 f.e=f.start/\P6 f.e=f.buf/\P7 f.e=f.order/\P8 f.e=f.reads/\Q9 f.e=f.kids.map Kd.e:=⟨rfl,rfl,rfl,rfl,rfl,rfl,rfl,rfl,rfl,rfl⟩
theorem U9e(f:Fm)(k:Nat)(x:Kd):U9 (Xk (f.kids.map Kd.e) k x.e) f.e=Fm.e {f with kids:=f.kids.set k x}:=by
 unfold U9 Fm.e;rw[Xgd]
theorem Wr2{f f':Fm}{k:Nat}{x':Kd}{y:Y_KidRun}{g:Y_Family}(hy:y=x'.e)(hg:g=f'.e)(hf:f'.kids=f.kids):
  some ((U9 (Xk (f.kids.map Kd.e) k y) g,()),())=some (((Fm.put (f',x') k).e,()),()):=by
 subst hy hg;rw[←hf,U9e];rfl
theorem Wsl(m:Mm)(f:Fm)(x:Kd)(o:Opn):Wjm m f.e x.e o=((Weo m f x o).1.e,(Weo m f x o).2.e):=by
 unfold Wjm Weo;have h1:P8 x.e=x.writes:=rfl;have h2:P6 f.e=f.buf:=rfl;rw[h1,h2];rcases Wbv x.writes o.2.2.1 with _|v
 .rcases ent f.buf o.2.2.1 with _|r
  .have h3:WpD x.e o.2.2.1=if x.busy then x.pb else(o.2.2.1,0,0,0):=by
    unfold WpD;have:P10 x.e=x.busy:=rfl;rw[this];cases x.busy<;>rfl
   simp only[h3];have h4:f.e.1=f.rv:=rfl;rw[h4];generalize W5 m f.rv (if x.busy then x.pb else(o.2.2.1,0,0,0))=p;by_cases e4:p.2.1=4
   .have:(p.2.1==4)=true:=by simp_all
    rw[Wb e4,this];rfl
   .have:(p.2.1==4)=false:=by simp_all
    rw[Wa e4,this];by_cases e3:p.2.1=3
    .have:(p.2.1==3)=true:=by simp_all
     rw[Wb e3,this];rfl
    .have:(p.2.1==3)=false:=by simp_all
     rw[Wa e3,this];rfl
  .simp only;have h5:x.e.2.2.1=x.since:=rfl;rw[h5];by_cases hv:r.2.2.2>x.since
   .rw[Wb hv,Wf hv];rfl
   .rw[Wa hv,Wq hv];rfl
 .rfl
theorem Wrh(m:Mm)(f:Fm)(x:Kd)(o:Opn):(Weo m f x o).1.kids=f.kids:=by
 grind [Weo,Wbv,ent,W5]
variable{N:Nat}{codes:List (List Opn)}{n:Int}{f:Fm}{k:Nat}{code:List Opn}{m:Mm}{x:Kd}
theorem FOk.buf8(h:FOk codes n f):f.buf.length<=8:=by
 have:∀(l:List En) (c:Int),Ris cfE l->(∀e∈l,c<=e.1/\e.1<=7)->(l.length:Int)<=8-c\/l= []:=by
  intro l
  induction l with
  |nil=>simp_all
  |cons a l ih=>
   intro c hr hb;left;have h1:=Xv.1 hr;have ha:=hb a (Xg ..);rcases ih (a.1+1) h1.2 (λe he=>⟨by grind [cfE],(hb e (Xe _ he)).2⟩)with h|h
   .grind
   grind
 rcases this f.buf 0 h.bufR (λe he=>by have:=(h.bufE e he).1;omega)with h|h
 .omega
 simp_all
theorem Wtq(hF:FOk codes n f)(hx:KOk code f.clock n x)(bd:KC code)(hm:W2 m=true)(hn:n<=100000){o:Opn}(hA:Wad o.2.1=true)(hB:WaF o.2.2.1=true):ReadOk m f.e x.e o where
 mem:=hm
 regs:=hx.regs.len
 famr:=hF.regs.len
 rA:=by grind [Wad]
 cB:=hB
 seen:=by have:=hx.sl;have:=hx.pc;have:=bd.len;show x.seen.length<=1000;omega
 wr:=by have:=hx.wl;have:=hx.pc;have:=bd.len;show x.writes.length<=1000;omega
 buf:=by have:=hF.buf8;show f.buf.length<=1000;omega
 ver:=λe he=>(hF.bufE e he).2.2.1
 since:=hx.since.1
 pc:=by have:=hx.pc;have:=bd.len;show 0<=x.pc/\x.pc<=1000;omega
 tries:=by have:=hx.tries;show 0<=x.tries/\x.tries<=100000;omega
 pb:=hx.pb
theorem WH{α:Type}{a b:Int}{x y:α}:(bif a==b then x else y)=if a=b then x else y:=by
 simp_all
theorem WaV{α:Type}{p:Prop}[Decidable p]{x y:α}:(bif decide p then x else y)=if p then x else y:=by
 simp_all
theorem Wk2(bd:KC code)(hx:KOk code f.clock n x)(h0:x.phase=0)(hN:1048576<N):Zil N x.e code=some (((Wjv x code).e,()),()):=by
 unfold Zil Wjv;obtain⟨k0,k1,k2,k3,k4,k5,k6,k7,k8,k9,k10⟩:=kdP x;have aT:=hx.pc;have hlen:=bd.len;have hM:=hx.marks h0;simp only[WD,k9,k8,k1,WH];by_cases hz:x.marks.length=0
 .rw[Wb (by unfold Wj;omega),Wb hz];rfl
 .rw[Wa (by unfold Wj;omega),Wa hz];obtain⟨j,q,y,e1,e2,e3,⟨hj,h8⟩,qc,cM,fT,e5,e6⟩:=WhQ (d:=((0,0,[]):KM)) bd.toCC (show x.pc.toNat<=code.length by omega) hM.pcs hz;have wy:x.marks.length=q.length+1:=by grind
  have zY:q.length<=24:=by
   have:=Wk Xa e6;simp only[Xab]at this;have h2:=WbJ bd.up j (by omega);have h3:=(WdE code j).2;omega
  have i1:WZ .i64 (Wj x.marks) 1=(q.length:Int):=by grind [Wqi]
  have hy:y∈x.marks:=by grind
  obtain⟨y1,y2,y3,y4⟩:=hM.each y hy;have g1:Xd x.marks (Xb (q.length:Int)) ((0,0,[]):KM)=y:=by grind
  have t1:Xaf (Xb (q.length:Int)) x.marks=x.marks.dropLast:=by rw[e1];simp
  have qd:=hx.wl;rw[i1,Wag,Wf (show q.length<x.marks.length by omega)];simp only[We,g1,t1,e2];have b1:((decide ((0:Int)<=(q.length:Int))&&decide ((q.length:Int)<=(x.marks.length:Int)))&&decide ((q.length:Int)<=((Xb (q.length:Int):Nat):Int)))=true:=by
   simp;omega
  rw[b1];simp only[We];rw[Wbe (by rw[y1.len];omega)];simp only[ret,Xc];rw[e3,Wag,Wf hj];have o1:Xd code (Xb ((j:Nat):Int)) ((0,0,0,0):Opn)=code[j]:=Wx hj _;have o2:opN code ((j:Nat):Int)=code[j]:=Wmf hj;have hr:=Wyp (bd.ok j hj).1 h8;simp only[We,o1,o2];rw[Wbg hr y1.len];have b2:(decide ((0:Int)<=y.2.1)&&decide (y.2.1<=(x.writes.length:Int)))=true:=by simp;omega
  rw[b2];simp only[We];rw[WdF (by grind),Wis (by omega) hN ⟨hj,h8⟩ cM];simp only[ret,Xc];rw[WcO (by have:=cM.len;omega),Xj];rfl
theorem WoH(hk:k<f.kids.length)(hm:W2 m=true)(bd:KC code)(hF:FOk codes n f)(aS:codes.getD k []=code)(aQ:f.kids[k]=x)(h0:x.phase=0)(hn:n<=100000)(hN:1048576<N):
  Zjq N f.e (k:Int) code m=some (((Fm.put (WrZ m f x code) k).e,()),()):=by
 have hx:=hF.kid k hk;rw[aS,aQ]at hx;obtain⟨k0,k1,k2,k3,k4,k5,k6,k7,k8,k9,k10⟩:=kdP x;obtain⟨f0,f1,f2,f3,f4,f5,f6,f7,f8,f9⟩:=fmP f;have aT:=hx.pc;have hlen:=bd.len;have qd:=hx.wl;have e2:Xd (f.kids.map Kd.e) (Xb (k:Int)) d_KidRun=x.e:=by
  simp_all
 have e3:U9 (Xk (f.kids.map Kd.e) (Xb (k:Int)) x.e) f.e=f.e:=by
  rw[Xj,U9e,←aQ,Xbd]
 unfold Zjq WrZ;simp only[WD,f9,Xab];rw[Wag,Wf hk];simp only[We,e2,e3,k1,k6,k8,k9,WaV,WH,show Wj code=(code.length:Int)from rfl];by_cases fB:x.pc>=code.length
 .rw[Wb fB,Wb fB];rw[Xj];exact Wr2 rfl rfl rfl
 .rw[Wa fB,Wa fB];obtain⟨j,hj,ej,eo⟩:=WfI (l:=code) aT.1 (by omega);have wA:Xd code (Xb x.pc) ((0,0,0,0):Opn)=opN code x.pc:=rfl;have gV:inb x.pc code.length=true:=by grind [Wag,decide_eq_true]
  rw[gV];obtain⟨ok,o1,gD⟩:=bd.ok j hj;have cr:=bd.k10 j hj;simp only[We,wA];rw[←eo]at ok o1 cr;generalize opN code x.pc=o at*;have dj:=hx.regs.len;rw[Xj];rw[WcO (show 0<=x.pc/\x.pc<=1000000 by omega)];by_cases h5:o.1=5
  .rw[Wb h5,Wb h5];have:=Wxt ok h5;have mE:=Wtq hF hx bd hm hn this.1 this.2;have e4:(Q9 f.e)[k]'(by simp_all)=x.e:=by
    simp_all
   have:=Wm3 (m:=m) (o:=o) (f:=f.e) (k:=k) (by simp_all) (by simp_all) hN;rw[this];simp only[Xc,e4,Wsl];unfold WyN;have ka:=Wrh m f x o;rw[show Q9 (Weo m f x o).1.e=f.kids.map Kd.e by rw[←ka];rfl];exact Wr2 rfl rfl ka
  .rw[Wa h5,Wa h5];by_cases cN:o.1=10
   .rw[Wb cN,Wb cN,Wk2 bd hx h0 hN];exact Wr2 rfl rfl rfl
   .rw[Wa cN,Wa cN];by_cases h6:o.1=6
    .rw[Wb h6,Wb h6];rw[Wbg (Wyr ok h6).2 dj,WB (by simp;omega)];exact Wr2 rfl rfl rfl
    .rw[Wa h6,Wa h6];by_cases h7:o.1=7
     .rw[Wb h7,Wb h7];have h:=Wxs ok h7;rw[Wbg h.1 dj,WJ (a:=x.pc) (b:=o.2.2.1) (by unfold I64;omega),WcO (a:=x.pc+o.2.2.1) (by omega)];by_cases hg:Xd x.regs (Xb o.2.1) 0=0
      .rw[Wb hg,Wb (show Wcl x.regs o.2.1 0=0 from hg)];simp only[We];exact Wr2 rfl rfl rfl
      .rw[Wa hg,Wa (show¬Wcl x.regs o.2.1 0=0 from hg)];simp only[We];exact Wr2 rfl rfl rfl
     .rw[Wa h7,Wa h7];by_cases h8:o.1=8
      .rw[Wb h8,Wb h8];rw[Wbe (by omega)];have qG:x.marks.length<=24:=by
        have:=Wk Xa (hx.marks h0).pcs;simp only[Xab]at this;have h2:=WbJ bd.up x.pc.toNat (by omega);have h3:=(WdE code x.pc.toNat).2;omega
       simp only[ret,Xc];rw[WB (by simp;omega)];exact Wr2 rfl rfl rfl
      .rw[Wa h8,Wa h8];by_cases h9:o.1=9
       .rw[Wb h9,Wb h9];have hM:=hx.marks h0;have hz:x.marks.length≠0:=by
         intro hz;have h1:=Wk Xa hM.pcs;simp only[Xab,hz]at h1;have h2:=WbJ bd.up j (by omega);have h3:=bd.up j hj
         grind [WaJ,WrF,Xj]
        obtain⟨i,q,y,e1,zZ,z7,⟨hi,z8⟩,qc,cM,fT,e5,e6⟩:=WhQ (d:=((0,0,[]):KM)) bd.toCC (show x.pc.toNat<=code.length by omega) hM.pcs hz;have wy:x.marks.length=q.length+1:=by grind
        have qG:x.marks.length<=24:=by
         have:=Wk Xa (hx.marks h0).pcs;simp only[Xab]at this;have h2:=WbJ bd.up x.pc.toNat (by omega);have h3:=(WdE code x.pc.toNat).2;omega
        have i1:WZ .i64 (Wj x.marks) 1=(q.length:Int):=by grind [Wqi]
        have g1:Xd x.marks (Xb (q.length:Int)) ((0,0,[]):KM)=y:=by grind
        have t1:Xaf (Xb (q.length:Int)) x.marks=x.marks.dropLast:=by rw[e1];simp
        rw[i1,Wag,Wf (show q.length<x.marks.length by omega)];have b1:(decide ((0:Int)<=(q.length:Int))&&decide ((q.length:Int)<=(x.marks.length:Int)))=true:=by simp;omega
        rw[b1];simp only[We,g1,t1,zZ];rw[z7,Wag,Wf hi];have o1:Xd code (Xb ((i:Nat):Int)) ((0,0,0,0):Opn)=opN code (i:Int):=rfl;have hr:=Wyp (bd.ok i hi).1 z8;rw[←Wmf hi]at hr;simp only[We,o1];rw[Wbg hr dj];exact Wr2 rfl rfl rfl
       .rw[Wa h9,Wa h9];rw[Whw hN ok (by omega) (by omega) hx.regs];exact Wr2 rfl rfl rfl
end
section
theorem Wkk{l:List Rw}{c v:Int}:∀(i:Nat),i<=l.length->Wjo l c i=some v->(c,v)∈l
 |0,_,h=>by simp[Wjo]at h
 |i+1,hi,h=>by
  unfold Wjo at h;rw[Wp (show i<l.length by omega)]at h;by_cases hc:l[i].1=c
  .grind
  .rw[Wa hc]at h;exact Wkk i (by omega) h
theorem Wi2{l:List Rw}{c v:Int}(h:Wbv l c=some v):Wav l=true/\(c,v)∈l:=by
 unfold Wbv at h;by_cases hr:Wav l=true
 .rw[Wb hr]at h;exact⟨hr,Wkk _ (Xm _) h⟩
 simp_all
theorem Wqp(l:List Rw):∀(j c:Nat) (o:List Rw),WlH l j c o=o++(Xhk c j).filterMap λc:Nat=>(Wbv l (c:Int)).map λv=>((c:Int),v)
 |0,c,o=>by simp[WlH]
 |j+1,c,o=>by
  rw[WlH,Wqp l j,List.range'_succ,List.filterMap_cons];unfold Wla;cases h:Wbv l (c:Int)<;>simp
theorem Wpb(l:List Rw):WcT l=(Xhk 0 8).filterMap λc:Nat=>(Wbv l (c:Int)).map λv=>((c:Int),v):=by simp[WcT,Wqp]
theorem Wqn{l:List Rw}{r:Rw}:r∈WcT l↔(0<=r.1/\r.1<=7)/\Wbv l r.1=some r.2:=by
 rw[Wpb,List.mem_filterMap];constructor
 .rintro⟨c,hc,h⟩;rw[Xhj]at hc;cases hl:Wbv l (c:Int)with
  |none=>simp_all
  |some v=>
   grind
 .rintro⟨h0,h⟩;refine⟨r.1.toNat,Xhj.2 (by omega),?_⟩
  grind
theorem Wo0(l:List Rw):(WcT l).Pairwise λa b=>a.1<b.1:=by
 rw[Wpb,List.pairwise_filterMap];refine List.Pairwise.imp ?_ (List.pairwise_lt_range' (s:=0) (n:=8));simp_all
theorem Wfk(l:List Rw):(WcT l).length<=8:=by
 grind [Wpb,Xco,List.length_filterMap_le]
theorem WeE{l:List Rw}:WdN (WcT l):=by
 intro r hr;obtain⟨h0,h1⟩:=Wqn.1 hr;obtain⟨h2,h3⟩:=Wi2 h1;unfold Wav at h2;simp only[Xi]at h2;have:=(Wic.1 h2.2) _ h3;omega
end
section
theorem We9{p:Pb}:Wlg p=true↔(0<=p.1/\p.1<=7)/\(0<=p.2.1/\p.2.1<=4)/\(0<=p.2.2.1/\p.2.2.1<=1000000)/\0<=p.2.2.2/\p.2.2.2<=65535:=by
 simp[Wlg,WaF,WbQ,Xi,Wh]
theorem WeT{c:Int}{w:Wd}:WrR c w=true↔(0<=w.1/\w.1<=65535)/\(0<=w.2.1/\w.2.1<=c)/\0<=w.2.2/\w.2.2<=99:=by
 simp[WrR,WbQ,Xi,Wh]
theorem Wsj{m:Mm}(h:W2 m=true){c:Int}(hc:0<=c/\c<=7):WrR m.1 (Wcl m.2 c (0,0,0))=true:=by
 grind [WF,Wcl,Wp,Xo]
theorem Wny{m:Mm}{rv:Int}{p:Pb}(hm:W2 m=true)(hp:Wlg p=true):Wlg (W5 m rv p)=true/\(W5 m rv p).1=p.1:=by
 have dC:=We9.1 hp;have hw:=Wsj hm dC.1;rw[WeT]at hw;obtain⟨h8,h0,h1,_⟩:=WF hm;unfold W5;simp only[WH,WaV];have Aa:WrR m.1 (Xd m.2 (Xb p.1) (0,0,0))=true:=Wsj hm dC.1
 grind [WeT,We9]
section
variable{code:List Opn}{pc dU wl kI:Nat}{ms q:List KM}{y:KM}{c c' n n':Int}{x:Kd}{f:Fm}{m:Mm}{codes:List (List Opn)}{k:Nat}
theorem KMk.mono(h:KMk code pc ms wl)(hs:stk code dU=stk code pc)(hw:wl<=kI):KMk code dU ms kI:=
 ⟨by rw[hs];exact h.pcs,λq hq=>by have:=h.each q hq;grind,h.up⟩
theorem KMk.begin(h:KMk code pc ms wl)(hp:pc<code.length)(h8:code[pc].1=8){regs:List Int}(hr:Vals 4 regs)(hw:wl<=pc):KMk code (pc+1) (ms++ [((pc:Int),(wl:Int),regs)]) wl:=by
 refine⟨?_,?_,?_⟩
 .rw[Wlf hp h8,Xz,Xz,h.pcs];rfl
 .intro q hq;rcases Xn.1 hq with hq|hq
  .exact h.each q hq
  simp_all
 .refine Xam.2 ⟨h.up,List.pairwise_singleton _ _,λa ha b hb=>?_⟩;rw[Xac]at hb;subst hb;exact(h.each a ha).2.2.2
theorem KMk.drop(h:KMk code pc ms wl)(qX:ms=q++ [y])(hs:stk code dU=(stk code pc).dropLast)(hw:y.2.1<=kI):KMk code dU q kI:=by
 subst qX;have h1:=h.pcs;refine⟨?_,λa ha=>?_,(Xam.1 h.up).1⟩
 .grind
 .have h2:=h.each a (List.mem_append_left _ ha);have h3:=(Xam.1 h.up).2.2 a ha y (by simp)
  grind
theorem KOk.wk(h:KOk code c n x)(hc:c<=c')(hn:n<=n'):KOk code c' n' x:=
 {h with since:=by have:=h.since;omega,tries:=by have:=h.tries;omega}
theorem WpA(h:KOk code c n x)(hc:c=f.clock)(hf:Vals 4 f.regs)(h0:0<=f.clock):KOk code c (n+1) (f.again x) where
 pc:=⟨Xx _,by show(0:Int)<=_;omega⟩
 regs:=hf
 rows:=λr hr=>by cases hr
 wl:=Xx _
 sl:=Xx _
 since:=by show 0<=f.clock/\f.clock<=c;omega
 tries:=by have:=h.tries;show 0<=x.tries+1/\x.tries+1<=n+1;omega
 seen:=λe he=>by cases he
 marks:=λ_=>⟨by show([]:List KM).map _=(stk code 0).map _;rfl,(λq hq=>by cases hq),List.Pairwise.nil⟩
 pos:=⟨Xx _,Xx _⟩
 pb:=λh=>by cases h
 phase:=by show(0:Int)<=0/\(0:Int)<=3;omega
 out:=by show(0:Int)<=0/\(0:Int)<=2;omega
theorem KMk.len(hc:CC code)(h:KMk code pc ms wl)(hp:pc<=code.length):(ms.length:Int)=dep code pc:=by
 have:=Wk Xa h.pcs;simp only[Xab]at this;rw[this,WbJ hc.up pc hp]
theorem KOk.on(aK:CC code)(h:KOk code c n x)(h0:x.phase=0){i:Nat}(hi:i<code.length)(aT:x.pc=i){regs:List Int}{seen:List En}{writes:List Rw}{marks:List KM}{busy:Bool}{pb:Pb}{dU:Nat}(hp:dU<=code.length)(hlt:i<dU)(hr:Vals 4 regs)(hrow:WdN writes)(qd:writes.length<=x.writes.length+1)(hsl:seen.length<=x.seen.length+1)
  (hs:∀e∈seen,(0<=e.1/\e.1<=7)/\(0<=e.2.1/\e.2.1<=65535)/\ -1<=e.2.2/\e.2.2<=x.since) (hse:x.seen.length<=seen.length) (hm:KMk code dU marks writes.length) (hb:busy=true->Wlg pb=true):
  KOk code c n {x with regs:=regs,seen:=seen,writes:=writes,marks:=marks,busy:=busy,pb:=pb,pc:=(dU:Int)}:=
 {h with
  pc:=by simp_all
  regs:=hr
  rows:=hrow
  wl:=by have:=h.wl;grind
  sl:=by have:=h.sl;grind
  seen:=hs
  marks:=λ_=>by simp_all
  pos:=by have:=h.pos;grind
  pb:=hb}
theorem Wvv(aK:CC code)(hF:FOk codes n f)(h:KOk code f.clock n x)(h0:x.phase=0){i:Nat}(hi:i<code.length)(aT:x.pc=i)(h5:code[i].1=5)(hm:W2 m=true):
  KOk code f.clock (n+1) (Weo m f x code[i]).2/\((Weo m f x code[i]).1=f\/(Weo m f x code[i]).1={f with lost:=true}):=by
 have aG:=Wxt (aK.ok i hi).1 h5;have hB:0<=code[i].2.2.1/\code[i].2.2.1<=7:=by grind [WaF]
 have hM:=h.marks h0;rw[aT,Xj]at hM;have aM:stk code (i+1)=stk code i:=WgS hi (by omega) (by omega);have bZ:x.pc+1=((i+1:Nat):Int):=by omega
 unfold Weo;cases hl:Wbv x.writes code[i].2.2.1 with
 |some v=>
  have hv:=h.rows _ (Wi2 hl).2;refine⟨?_,.inl rfl⟩;simp only[bZ];exact(KOk.on aK h h0 hi aT (by omega) (by omega) (h.regs.set _ hv.2) h.rows (by omega) (by omega) h.seen (by omega) (hM.mono aM (by omega)) h.pb).wk (by omega) (by omega)
 |none=>
  simp only;cases he:ent f.buf code[i].2.2.1 with
  |some r=>
   simp only;have hr:=Wc3 he;have mO:r.2∈f.buf:=by
    grind
   have gX:=hF.bufE _ mO;split
   .exact⟨WpA h rfl hF.regs hF.clock.1,.inl rfl⟩
   .refine⟨?_,.inl rfl⟩;simp only[bZ];refine(KOk.on aK h h0 hi aT (by omega) (by omega) (h.regs.set _ gX.2.1) h.rows (by omega) (by simp) (λe dV=>?_) (by simp) (hM.mono aM (by omega)) h.pb).wk (by omega) (by omega);rcases Xn.1 dV with dV|dV
    .exact h.seen e dV
    grind
  |none=>
   simp only;have gI:Wlg (if x.busy=true then x.pb else(code[i].2.2.1,0,0,0))=true:=by
    split
    .exact h.pb ‹_›
    grind [We9]
   have ch:=Wny (rv:=f.rv) hm gI;generalize W5 m f.rv (if x.busy=true then x.pb else(code[i].2.2.1,0,0,0))=p at*;have hp:=We9.1 ch.1;split
   .refine⟨?_,.inr rfl⟩;exact KOk.wk (n:=n) {h with pb:=λ_=>ch.1} (by omega) (by omega)
   .split
    .refine⟨?_,.inl rfl⟩;simp only[bZ];refine(KOk.on aK h h0 hi aT (by omega) (by omega) (h.regs.set _ hp.2.2.2) h.rows (by omega) (by simp) (λe dV=>?_) (by simp) (hM.mono aM (by omega)) (λh=>by cases h)).wk (by omega) (by omega);rcases Xn.1 dV with dV|dV
     .exact h.seen e dV
     .rw[Xac]at dV;subst dV;exact⟨hB,hp.2.2.2,by simp,by have:=h.since;grind⟩
    .refine⟨?_,.inl rfl⟩;exact KOk.wk (n:=n) {h with pb:=λ_=>ch.1} (by omega) (by omega)
theorem Www(bd:KC code)(hF:FOk codes n f)(h:KOk code f.clock n x)(h0:x.phase=0)(hm:W2 m=true):
  KOk code f.clock (n+1) (WrZ m f x code).2/\((WrZ m f x code).1=f\/(WrZ m f x code).1={f with lost:=true}):=by
 have aK:=bd.toCC;unfold WrZ;split
 .refine⟨?_,.inl rfl⟩;exact KOk.wk (n:=n) {h with marks:=λh=>by simp_all,phase:=by simp_all,out:=by simp_all} (by omega) (by omega)
 .obtain⟨i,hi,aT,ho⟩:=WfI (l:=code) h.pc.1 (by omega);simp only[ho];obtain⟨ok,o1,gD⟩:=bd.ok i hi;have cr:=bd.k10 i hi;have hM:=h.marks h0;rw[aT,Xj]at hM;have bZ:x.pc+1=((i+1:Nat):Int):=by omega
  have qd:x.writes.length<=i:=by have:=h.wl;omega
  split
  .grind [Wvv]
  .split
   .refine⟨?_,.inl rfl⟩;unfold Wjv;split
    .refine KOk.wk (n:=n) {h with rows:=(λr hr=>by cases hr),wl:=by simp_all,marks:=λh=>by simp_all,phase:=by simp_all,out:=by simp_all} (by omega) (by omega)
    .obtain⟨j,q,y,e1,e2,e3,⟨hj,h8⟩,qc,cM,fT,e5,e6⟩:=WhQ (d:=((0,0,[]):KM)) aK (show i<=code.length by omega) hM.pcs ‹_›;obtain⟨y1,y2,y3,y4⟩:=hM.each y (by grind);simp only[e2,e3,Xj,←Int.natCast_succ];have hl:=cM.len;have ht:(Xaf y.2.1.toNat x.writes).length=y.2.1.toNat:=by simp_all
     refine(KOk.on aK h h0 hi aT (dU:=WiD code j+1) (by omega) (by omega) (y1.set _ (by omega)) (λr hr=>h.rows r (List.mem_of_mem_take hr)) (by omega) (by omega) h.seen (by omega) ?_ h.pb).wk (by omega) (by omega);rw[show x.marks.dropLast=q by grind];exact hM.drop e1 (by rw[cM.st];exact e5) (by omega)
   .split
    .refine⟨?_,.inl rfl⟩;have hk:=Wyr ok ‹_›;have aM:stk code (i+1)=stk code i:=WgS hi (by omega) (by omega);simp only[bZ];refine(KOk.on aK h h0 hi aT (by omega) (by omega) h.regs (λr hr=>?_) (by simp) (by omega) h.seen (by omega) (hM.mono aM (by simp)) h.pb).wk (by omega) (by omega);rcases Xn.1 hr with hr|hr
     .exact h.rows r hr
     .rw[Xac]at hr;subst hr;have:=hk.1;unfold WaF at this;exact⟨by simp_all,h.regs.get _⟩
    .split
     .refine⟨?_,.inl rfl⟩;obtain⟨s1,s2⟩:=bd.sk i hi ‹_›;have hk:=Wxs ok ‹_›;have aM:stk code (i+1)=stk code i:=WgS hi (by omega) (by omega);have qe:stk code (i+1+code[i].2.2.1.toNat)=stk code i:=by grind [Wp9]
      by_cases hg:Wcl x.regs code[i].2.1 0=0
      .simp only[Wb hg,show x.pc+code[i].2.2.1+1=((i+1+code[i].2.2.1.toNat:Nat):Int) by omega];exact(KOk.on aK h h0 hi aT s1 (by omega) h.regs h.rows (by omega) (by omega) h.seen (by omega) (hM.mono qe (by omega)) h.pb).wk (by omega) (by omega)
      .simp only[Wa hg,bZ];exact(KOk.on aK h h0 hi aT (by omega) (by omega) h.regs h.rows (by omega) (by omega) h.seen (by omega) (hM.mono aM (by omega)) h.pb).wk (by omega) (by omega)
     .split
      .refine⟨?_,.inl rfl⟩;simp only[bZ];rw[aT];exact(KOk.on aK h h0 hi aT (by omega) (by omega) h.regs h.rows (by omega) (by omega) h.seen (by omega) (hM.begin hi ‹_› h.regs qd) h.pb).wk (by omega) (by omega)
      .split
       .refine⟨?_,.inl rfl⟩;have hz:x.marks.length≠0:=by
         have h1:=hM.len aK (by omega);have h3:=aK.up i hi
         grind [WaJ,WrF]
        obtain⟨j,q,y,e1,e2,e3,⟨hj,h8⟩,qc,cM,fT,e5,e6⟩:=WhQ (d:=((0,0,[]):KM)) aK (show i<=code.length by omega) hM.pcs hz;obtain⟨y1,y2,y3,y4⟩:=hM.each y (by grind);simp only[bZ];refine(KOk.on aK h h0 hi aT (by omega) (by omega) (h.regs.set _ (by omega)) h.rows (by omega) (by omega) h.seen (by omega) ?_ h.pb).wk (by omega) (by omega);rw[show x.marks.dropLast=q by grind];exact hM.drop e1 (Wn0 hi ‹_›) (by omega)
       .refine⟨?_,.inl rfl⟩;have aM:stk code (i+1)=stk code i:=WgS hi (by omega) (by omega);simp only[bZ];exact(KOk.on aK h h0 hi aT (by omega) (by omega) (Wk0 ok (by omega) (by omega) h.regs) h.rows (by omega) (by omega) h.seen (by omega) (hM.mono aM (by omega)) h.pb).wk (by omega) (by omega)
end
end
section
def WfZ(c:Int)(v:List En)(r:Rw):List En:=match ent v r.1 with
 |some a=>v.set a.1 (r.1,r.2,c)
 |none=>v++ [(r.1,r.2,c)]
theorem Wna(c:Int)(v:List En)(r:Rw):(WfZ c v r).length<=v.length+1:=by
 unfold WfZ;split<;>simp
theorem apE{a b:En}:Ap cfE a b↔a.1≠b.1:=by unfold Ap cfE;omega
theorem WtR{c:Int}{L M:List En}{r:Rw}(hL:L.Pairwise (Ap cfE))(hM:Ris cfE M)(hm:∀x,x∈L↔x∈M):
  (WfZ c L r).Pairwise (Ap cfE)/\Ris cfE (Wdt cfE M (r.1,r.2,c))/\∀x,x∈WfZ c L r↔x∈Wdt cfE M (r.1,r.2,c):=by
 have key:(WfZ c L r).Pairwise (Ap cfE)/\∀x,x∈WfZ c L r↔x=(r.1,r.2,c)\/(x∈L/\Ap cfE x (r.1,r.2,c)):=by
  unfold WfZ ent;cases he:fnd (λe:En=>e.1==r.1) L 0 with
  |some a=>
   obtain⟨h1,h2,h3,h4⟩:=Wc3 he;simp only[Xbc,Xdj]at h3 h4
   grind [Xp,Wnt,Wvw,apE]
  |none=>
   grind [Wie,Wky,apE]
 refine⟨key.1,Wb4 Wvw hM,λx=>?_⟩;rw[key.2 x,Wbm Wvw hM,hm]
theorem Wt1{c:Int}:∀{rows:List Rw} {L M:List En},L.Pairwise (Ap cfE)->Ris cfE M->(∀x,x∈L↔x∈M)->
  (rows.foldl (WfZ c) L).Pairwise (Ap cfE)/\Ris cfE (WbX c M rows)/\∀x,x∈rows.foldl (WfZ c) L↔x∈WbX c M rows
 | [],_,_,hL,hM,hm=>⟨hL,hM,hm⟩
 |r::rows,L,M,hL,hM,hm=>by
  obtain⟨a,b,d⟩:=WtR (c:=c) (r:=r) hL hM hm;exact Wt1 (rows:=rows) a b d
theorem Wnm{c:Int}:∀(rows:List Rw) (L:List En),(rows.foldl (WfZ c) L).length<=L.length+rows.length
 | [],L=>by simp
 |r::rows,L=>by
  have:=Wnm (c:=c) rows (WfZ c L r)
  grind [Wna,Xr]
theorem We5{c:Int}{P:En->Prop}:∀{rows:List Rw} {M:List En},Ris cfE M->(∀x∈M,P x)->(∀r∈rows,P (r.1,r.2,c))->∀x∈WbX c M rows,P x
 | [],_,_,h,_=>h
 |r::rows,M,hM,h,hr=>by
  refine We5 (rows:=rows) (Wb4 Wvw hM) (λx hx=>?_) λr' h'=>hr r' (Xe _ h');rcases(Wbm Wvw hM).1 hx with rfl|h'
  .simp_all
  simp_all
theorem WpS{R:Type}{N:Nat}{k4:Int}{b7 b8 b9:Int}{au:Bool}{aX bw bp dy bD ax:Int}{hQ:Bool}{db da dz hY:Int}{bY:List Kc}{cJ:List Int}{cK:List Kc}{hZ:List Int}{cA:List Kc}{fH:List Y_KidRun}{ia:Nat}{fI:List Int}{ew:List Kb}{fJ:List Kc}{cV:List Kk}{K0:Int->Bool->Ks->Option R}(hN:1048576<N)(wB:bY.length<=8):
  ∀(d j n:Nat) (v:List En),j+d=bY.length->d<n->v.length<=100+j->
  Zax N k4 (Wj bY) b7 b8 b9 au aX bw bp dy bD ax hQ db da dz hY bY cJ cK hZ cA fH ia fI ew fJ cV K0 n (j:Int) v=K0 (bY.length:Int) false ((bY.drop j).foldl (WfZ b8) v)
 |0,j,n+1,v,hj,hn,hv=>by
  simp_all [Zax,Wae,Xm,Wc,Xdk,List.foldl_nil]
 |d+1,j,n+1,v,hj,hn,hv=>by
  have hlt:j<bY.length:=by omega
  have mm:=Wgf (N:=N) (f:=(b7,(b8,(b9,(au,(cJ,(cK,(v,(hZ,(cA,Xk fH ia (aX,(bw,(bp,(dy,(bD,(ax,(fI,(ew,(fJ,(cV,(hQ,(db,(da,(dz,hY)))))))))))))))))))))))) (c:=bY[j].1) (by grind) hN;have hs:=Wna b8 v bY[j];have bn:∀v',v'=WfZ b8 v bY[j]->Zax N k4 (Wj bY) b7 b8 b9 au aX bw bp dy bD ax hQ db da dz hY bY cJ cK hZ cA fH ia fI ew fJ cV K0 n ((j+1:Nat):Int) v'=K0 (bY.length:Int) false ((bY.drop j).foldl (WfZ b8) v):=λv' Ab=>by
   subst Ab;rw[WpS hN wB d (j+1) n _ (by omega) (by omega) (by omega),Xbm hlt,List.foldl_cons]
  simp only[Zax,WD,W4 hlt,Ww hlt,Wx hlt,Wn (show j<4611686018427387904 by omega),We,mm,ret,Xc];have hd:ent v bY[j].1=ent v bY[j].1:=rfl;unfold WfZ at bn;cases he:ent v bY[j].1 with
  |some a=>
   rw[he]at bn;obtain⟨h1,h2,h3,h4⟩:=Wc3 he;rw[Xbc]at h3;simp only[Wf (show((a.1:Int)>=0) by omega),We];rw[Wag,Wf h3];simp only[We,Xj];exact bn _ rfl
  |none=>
   rw[he]at bn;simp only[show decide ((-1:Int)>=0)=false from rfl,Wc];rw[WB (by simp;omega)];simp only[We,Xal];exact bn _ rfl
 |_,_,0,_,_,h,_=>by omega
theorem WlT{R:Type}{N:Nat}{jy cF eJ eK:Int}{eM:Bool}{eN eZ fa fb fe jz:Int}{jA:Bool}{jB jC jD jE:Int}{dh:List Kb}{jF:List Int}{jG:List Kc}{jH:List Kb}{jI:List Int}{jJ:List Y_KidRun}{jK:Nat}{eO:List Int}{eP:List Kc}{eQ:List Kk}{K0:Int->Bool->Kw->Option R}(yr:dh.length<=1000):
  ∀(d j n:Nat) (v:List Rw),j+d=dh.length->d<n->v.length<=1000+j->
  Za5 N jy (Wj dh) cF eJ eK eM eN eZ fa fb fe jz jA jB jC jD jE dh jF jG jH jI jJ jK eO eP eQ K0 n (j:Int) v=K0 (dh.length:Int) false (v++Wbs (dh.drop j))
 |0,j,n+1,v,hj,hn,hv=>by
  have:j=dh.length:=by omega
  subst this;simp only[Za5,Wae (Xm dh.length),Wc,Xdk,Wbs,List.filter_nil,Xbt,List.append_nil]
 |d+1,j,n+1,v,hj,hn,hv=>by
  have hlt:j<dh.length:=by omega
  have he:Wbs (dh.drop j)=if dh[j].2.2= -1 then(dh[j].1,dh[j].2.1)::Wbs (dh.drop (j+1))else Wbs (dh.drop (j+1)):=by
   rw[Xbm hlt];unfold Wbs
   grind
  simp only[Za5,WD,W4 hlt,Ww hlt,Wx hlt,Wn (show j<4611686018427387904 by omega),We,WH];rw[he];by_cases h:dh[j].2.2= -1
  .rw[Wb h,Wb h,WB (by simp;omega)];simp only[We];rw[WlT yr d (j+1) n _ (by omega) (by omega) (by simp;omega)];simp
  .rw[Wa h,Wa h];rw[WlT yr d (j+1) n _ (by omega) (by omega) (by omega)]
 |_,_,0,_,_,h,_=>by omega
variable{N:Nat}{codes:List (List Opn)}{n:Int}{f:Fm}{k:Nat}{code:List Opn}{m:Mm}{x:Kd}
theorem WxJ{l:List En}(h:Ris cfE l):l.Pairwise (Ap cfE):=h.imp λh=>.inl h
theorem WlZ(hk:k<f.kids.length)(h3:f.kids.length<=3)(mn:code.length<=24)(hF:FOk codes n f)(aS:codes.getD k []=code)(aQ:f.kids[k]=x)(hN:1048576<N):
  Zd1 N f.e (k:Int)=some (((Fm.put (Wdn f x k) k).e,()),()):=by
 have hx:=hF.kid k hk;rw[aS,aQ]at hx;obtain⟨f0,f1,f2,f3,f4,f5,f6,f7,f8,f9⟩:=fmP f;have aT:=hx.pc;have qd:=hx.wl;have hsl:=hx.sl;have hb8:=hF.buf8;have qf:f.order.length<=3:=by
  have h1:=hF.done
  grind
 have kJ:=hF.readsL;have e2:Xd (f.kids.map Kd.e) (Xb (k:Int)) d_KidRun=x.e:=by
  simp_all
 unfold Zd1;simp only[f9,Xab];rw[Wag,Wf hk];simp only[We,e2];have en:Zg1 N x.e.2.2.2.2.2.2.2.2.1=ret (WcT x.writes):=Wd4 (show x.writes.length<=1048576 by omega) hN;rw[en];simp only[ret,Xc];have ju:=Wfk x.writes;rw[show(0:Int)=((0:Nat):Int)from rfl];rw[WpS (bY:=WcT x.writes) hN ju (WcT x.writes).length 0 N _ (by omega) (by omega) (by grind)];simp only[Xby];have hP6:P6 f.e=f.buf:=rfl;have hcl:Wm .i64 f.e.2.1 1=f.clock+1:=WcO (by have:=hF.clock;omega);rw[hP6,hcl];obtain⟨i1,i2,i3⟩:=Wt1 (c:=f.clock+1) (rows:=WcT x.writes) (WxJ hF.bufR) hF.bufR (λx=>Iff.rfl);unfold Zak;have gh:=Wnm (c:=f.clock+1) (WcT x.writes) f.buf;rw[WqE (rng:=WxP) (N:=N) Wvw i2 i1 i3 (λe he=>?_) (by omega)]
 .simp only[Xc];have hP7:P7 x.e=x.seen:=rfl;rw[show(Kd.e x).2.2.2.2.2.2.2.1=x.seen from rfl];rw[WlT (dh:=x.seen) (by omega) x.seen.length 0 N _ (by omega) (by omega) (by grind)];rw[WB (by grind)];simp only[We,Xby];have hU:∀(g:Fm) (y:Kd),U6 (Xk (f.kids.map Kd.e) k y.e) (S5 (f.reads++Wbs x.seen) (S4 (f.order++ [(k:Int)]) (S3 (WbX (f.clock+1) f.buf (WcT x.writes)) f.e.2.2.2)))=(f.lost,f.regs,f.start,WbX (f.clock+1) f.buf (WcT x.writes),f.order++ [(k:Int)],f.reads++Wbs x.seen,(f.kids.set k y).map Kd.e):=λg y=>by
   rw[Xgd];rfl
  rw[Xj];exact Wk (λz=>some (((f.rv,(f.clock+1,((0:Int),z))),()),())) (hU f {x with phase:=3,pos:=0,marks:=[]})
 .have h1:=(i3 e).1 he;have:=We5 (P:=λe=>0<=e.1/\e.1<=7) hF.bufR (λe he=>(hF.bufE e he).1) (λr hr=>(Wqn.1 hr).1) e h1
  grind [WxP,Wv4]
theorem WnP(hk:k<f.kids.length)(hF:FOk codes n f)(hx:KOk code f.clock n x)(aQ:f.kids[k]=x)(hn:n<=100000)(o:Int):
  Zbh N (Fm.e {f with owner:=o}) (k:Int)=some (((Fm.put ({f with owner:=o},f.again x) k).e,()),()):=by
 have h:=WeL (N:=N) (f:=Fm.e {f with owner:=o}) (k:=k) (x:=x.e) (by show k<(f.kids.map Kd.e).length;simp_all) hF.regs.len (by have:=hx.tries;show 0<=x.tries/\x.tries<=100000;omega);have e3:U9 (Xk (Q9 (Fm.e {f with owner:=o})) k x.e) (Fm.e {f with owner:=o})=Fm.e {f with owner:=o}:=by
  have:=U9e {f with owner:=o} k x;rw[←aQ]at this;simp only[Xbd]at this;rw[←aQ];exact this
 rw[e3]at h;rw[h];exact Wk (λz=>some ((z,()),())) (U9e {f with owner:=o} k (f.again x))
theorem WlQ(hk:k<f.kids.length)(h3:f.kids.length<=3)(hm:W2 m=true)(bd:KC code)(hF:FOk codes n f)(aS:codes.getD k []=code)(hn:n<=100000)(hN:1048576<N):
  Zi6 N f.e (k:Int) code m=some (((WcE m f k code).e,()),()):=by
 obtain⟨x,aQ⟩:∃x,f.kids[k]=x:=⟨_,rfl⟩;have hx:=hF.kid k hk;rw[aS,aQ]at hx;obtain⟨f0,f1,f2,f3,f4,f5,f6,f7,f8,f9⟩:=fmP f;obtain⟨k0,k1,k2,k3,k4,k5,k6,k7,k8,k9,k10⟩:=kdP x;have hsl:=hx.sl;have aT:=hx.pc;have mn:=bd.len;have e2:Xd (f.kids.map Kd.e) (Xb (k:Int)) d_KidRun=x.e:=by
  simp_all
 have e3:U9 (Xk (f.kids.map Kd.e) (Xb (k:Int)) x.e) f.e=f.e:=by
  rw[Xj,U9e,←aQ,Xbd]
 have e4:Fm.put (f,x) k=f:=by unfold Fm.put;simp only;rw[←aQ,Xbd]
 unfold Zi6 WcE Weq;simp only[WD,f9,f3,Xab];rw[Wig];by_cases bI:f.lost=true
 .rw[Wb bI,Wb bI]
 rw[Wa bI,Wa bI];rw[Wag,Wf hk];simp only[We,Wc,e2,e3,k0,k4,k7,f2,WH,Wp hk,aQ];by_cases h0:x.phase=0
 .rw[Wb h0,Wb h0,WoH hk hm bd hF aS aQ h0 hn hN];rfl
 .rw[Wa h0,Wa h0];by_cases h1:x.phase=1
  .rw[Wb h1,Wb h1];by_cases ho:f.owner=0
   .rw[Wb ho,Wb ho,WcO (by omega),Xj];exact Wr2 rfl rfl rfl
   simp_all
  .rw[Wa h1,Wa h1];by_cases h2:x.phase=2
   .rw[Wb h2,Wb h2];unfold Wj;by_cases hp:x.pos=(x.seen.length:Int)
    .rw[Wb hp,Wb hp,WlZ hk h3 mn hF aS aQ hN];rfl
    .rw[Wa hp,Wa hp];have hpos:=hx.pos;have gV:inb x.pos x.seen.length=true:=by grind [inb]
     rw[gV];have hg:Xd x.seen (Xb x.pos) ((0,0,0):En)=Wcl x.seen x.pos (0,0,0):=rfl;simp only[We,hg];have mm:=Wgf (N:=N) (f:=f.e) (c:=(Wcl x.seen x.pos (0,0,0)).1) (by show f.buf.length<=1048576;have:=hF.buf8;omega) hN;rw[show f.e.2.2.2.2.2.2.1=f.buf from rfl]at mm;rw[mm];simp only[ret,Xc,f6];have hsz:S2 (0:Int) f.e=Fm.e {f with owner:=0}:=rfl;have gj:Zbh N (U9 (Xk (f.kids.map Kd.e) (Xb (k:Int)) x.e) (S2 0 f.e)) (k:Int)=some (((Fm.put ({f with owner:=0},f.again x) k).e,()),()):=by
      grind [U9e,Xj,U9,Xk,Kd.e,Fm.e,Xbd,WnP]
     unfold Wv6;have tj:Wm .i64 x.pos 1=x.pos+1:=WcO (by omega);rw[tj];cases he:ent f.buf (Wcl x.seen x.pos (0,0,0)).1 with
     |some a=>
      obtain⟨g1,g2,g3,g4⟩:=Wc3 he;rw[Xbc]at g3;rw[Xdj,Xp g3]at g4;injection g4 with g4;simp only[Wf (show((a.1:Int)>=0) by omega),We];rw[Wag,Wf g3];simp only[We,Wx g3,g4];by_cases hv:a.2.2.2=(Wcl x.seen x.pos (0,0,0)).2.2
      .rw[Wb hv,Wb hv,Xj];exact Wr2 rfl rfl rfl
      simp_all
     |none=>
      simp only[show decide ((-1:Int)>=0)=false from rfl,Wc];by_cases hv:(-1:Int)=(Wcl x.seen x.pos (0,0,0)).2.2
      .rw[Wb hv,Wb hv,Xj];exact Wr2 rfl rfl rfl
      simp_all
   simp_all
end
section
section
variable{codes:List (List Opn)}{n:Int}{f f':Fm}{k:Nat}{code:List Opn}{m:Mm}{x y:Kd}
theorem FOk.len3(h:FOk codes n f)(h3:codes.length<=3):f.order.length<=3:=by
 have h1:=h.done;have:=Xfb (p:=λx:Kd=>decide (x.phase=3)) (l:=f.kids);have:=h.len;omega
theorem FOk.put1(h:FOk codes n f)(hk:k<f.kids.length)(aS:codes.getD k []=code){o:Int}{l:Bool}(ho:0<=o/\o<=f.kids.length)(hy:KOk code f.clock (n+1) y)(hp:f.kids[k].phase≠3)(hyp:y.phase≠3):
  FOk codes (n+1) (Fm.put ({f with owner:=o,lost:=l},y) k) where
 len:=by show(f.kids.set k y).length=_;rw[Xah];exact h.len
 regs:=h.regs
 clock:=h.clock
 done:=by
  show f.order.length=(f.kids.set k y).countP _;rw[Xht hk,Wa (by simp_all),Wa (by simp_all)];exact h.done
 bufR:=h.bufR
 bufE:=h.bufE
 readsL:=h.readsL
 readsE:=h.readsE
 owner:=by show 0<=o/\o<=((f.kids.set k y).length:Int);simp_all
 kid:=λi hi=>by
  change i<(f.kids.set k y).length at hi;rw[Xah]at hi;show KOk (codes.getD i []) f.clock (n+1) (f.kids.set k y)[i];rw[Xau];by_cases he:k=i
  .simp_all
  .rw[Wa he];exact(h.kid i hi).wk (by omega) (by omega)
theorem FOk.wk(h:FOk codes n f){n':Int}(hn:n<=n'):FOk codes n' f:=
 {h with kid:=λk hk=>(h.kid k hk).wk (by omega) hn}
theorem Wmd(h:∀e∈x.seen,(0<=e.1/\e.1<=7)/\(0<=e.2.1/\e.2.1<=65535)/\ -1<=e.2.2/\e.2.2<=x.since):WdN (Wbs x.seen):=by
 intro r hr;unfold Wbs at hr
 grind
theorem Wnx(l:List En):(Wbs l).length<=l.length:=by
 simp[Wbs,Xab,List.length_filter_le]
theorem WhH{c:Int}:∀{rows:List Rw} {M:List En},Ris cfE M->Ris cfE (WbX c M rows)
 | [],_,h=>h
 |r::rows,M,h=>WhH (rows:=rows) (Wb4 Wvw h)
theorem Wt8(hF:FOk codes n f)(hk:k<f.kids.length)(bd:code.length<=24)(aS:codes.getD k []=code)(aQ:f.kids[k]=x)(h2:x.phase=2):
  FOk codes (n+1) (Fm.put (Wdn f x k) k):=by
 have hx:=hF.kid k hk;rw[aS,aQ]at hx;have hc:=hF.clock;unfold Wdn Fm.put;refine{len:=?_,regs:=hF.regs,clock:=?_,done:=?_,bufR:=WhH hF.bufR,bufE:=?_,readsL:=?_,readsE:=?_,owner:=?_,kid:=?_}
 .simp only[Xah];exact hF.len
 .grind
 .simp only[Xs,Xgr];rw[Xht hk,aQ,Wa (by simp[h2]),Wb (by simp),←hF.done];rfl
 .simp only;refine We5 hF.bufR (λe he=>?_) λr hr=>?_
  .have:=hF.bufE e he;omega
  .have:=WeE r hr;grind
 .have h1:=hF.readsL;have h2:=Wnx x.seen;have h3:=hx.sl;have h4:=hx.pc
  grind
 .intro r hr;rcases Xn.1 hr with hr|hr
  .exact hF.readsE r hr
  .exact Wmd hx.seen r hr
 .simp_all
 .intro i hi;simp only[Xah]at hi;simp only[Xau];by_cases he:k=i
  .subst he;rw[Wb rfl,aS];refine KOk.wk (c:=f.clock) (n:=n) ?_ (by omega) (by omega);exact{hx with marks:=(λh=>by simp_all),pos:=⟨Xx _,by simp_all⟩,phase:=by simp_all}
  .rw[Wa he];exact(hF.kid i hi).wk (by omega) (by omega)
theorem WkW(hk:k<f.kids.length)(hm:W2 m=true)(bd:KC code)(hF:FOk codes n f)(aS:codes.getD k []=code):FOk codes (n+1) (WcE m f k code):=by
 obtain⟨x,aQ⟩:∃x,f.kids[k]=x:=⟨_,rfl⟩;have hx:=hF.kid k hk;rw[aS,aQ]at hx;have e4:Fm.put (f,x) k=f:=by unfold Fm.put;simp only;rw[←aQ,Xbd]
 have hFw:=hF.wk (show n<=n+1 by omega);unfold WcE Weq;split
 .exact hFw
 rw[Wp hk,aQ];split
 .rename_i h0;obtain⟨h1,h2⟩:=Www bd hF hx h0 hm;have hnp:(WrZ m f x code).2.phase≠3:=by
   grind [WrZ,Weo,Wjv,Fm.again]
  have:=h1;have key:∀q:Fm×Kd,(q.1=f\/q.1={f with lost:=true})->KOk code f.clock (n+1) q.2->q.2.phase≠3->FOk codes (n+1) (Fm.put q k):=by
   rintro⟨g,y⟩ hg hy hp;simp only at hg hy hp;rcases hg with rfl|rfl
   .exact FOk.put1 (o:=g.owner) (l:=g.lost) hF hk aS hF.owner hy (by simp_all) hp
   .exact FOk.put1 (o:=f.owner) (l:=true) hF hk aS hF.owner hy (by simp_all) hp
  simp_all
 .split
  .rename_i h1;split
   .refine FOk.put1 (o:=(k:Int)+1) (l:=f.lost) hF hk aS (by omega) ?_ (by simp_all) (by simp_all);refine KOk.wk (c:=f.clock) (n:=n) ?_ (by omega) (by omega);exact{hx with marks:=(λh=>by simp_all),phase:=by simp_all}
   simp_all
  .split
   .rename_i h2;split
    .exact Wt8 hF hk bd.len aS aQ h2
    .simp only;split
     .refine FOk.put1 (o:=f.owner) (l:=f.lost) hF hk aS hF.owner ?_ (by simp_all) (by simp_all);refine KOk.wk (c:=f.clock) (n:=n) ?_ (by omega) (by omega);exact{hx with pos:=by(have:=hx.pos;grind)}
     .refine FOk.put1 (o:=0) (l:=f.lost) hF hk aS (by omega) (WpA hx rfl hF.regs hF.clock.1) (by simp_all) (by show(0:Int)≠3;omega)
   simp_all
theorem Wtl{rv:Int}{regs:List Int}{writes:List Rw}(hr:Vals 4 regs)(hn:0<=n):FOk codes n (WaE rv regs writes codes.length) where
 len:=by simp[WaE]
 regs:=hr
 clock:=by simp[WaE]
 done:=by
  simp only[WaE,Xcm];rw[List.countP_replicate,Wa (by simp)]
 bufR:=by
  grind [Ris,WaE,Wo0,cfE]
 bufE:=λe he=>by
  obtain⟨r,hr,rfl⟩:=Xw.1 he;have:=WeE r hr
  grind [WaE]
 readsL:=by simp[WaE]
 readsE:=λr hr=>by cases hr
 owner:=by simp[WaE]
 kid:=λk hk=>by
  simp only[WaE,List.getElem_replicate];exact{pc:=by simp,regs:=hr,rows:=(λr hr=>by cases hr),wl:=by simp,sl:=by simp,since:=by simp,tries:=by simp;omega,seen:=(λe he=>by cases he),marks:=(λ_=>⟨by simp[stk],(λq hq=>by cases hq),List.Pairwise.nil⟩),pos:=by simp,pb:=(λh=>by cases h),phase:=by simp,out:=by simp}
end
end
section
theorem WkK{α β R:Type}{body:Int->α->List β->(List β->Option R)->Option R}{K:Int->List β->Option R}{f:α->β}:∀(l:List α) (d r:List β),l.length<=r.length->
  (∀(j:Nat) x (v:List β) k,x∈l->j<v.length->body j x v k=k (v.set j (f x)))->Wbw body K l d.length (d++r)=K ((d.length+l.length:Nat):Int) (d++(l.map f++r.drop l.length))
 | [],d,r,_,_=>by simp[Wbw]
 |x::l,d,[],h,_=>by simp at h
 |x::l,d,y::r,h,hb=>by
  rw[Wbw,hb d.length x _ _ (Xg ..) (by simp),WjF];have:=WkK (body:=body) (K:=K) (f:=f) l (d++ [f x]) r (by grind) λj z v k hz=>hb j z v k (Xe _ hz);simp only[Xs,Xgr,Xbo,List.singleton_append]at this;rw[this];simp only[Xr,Xae,List.drop_succ_cons,Xba];rw[show d.length+1+l.length=d.length+(l.length+1) by omega]
theorem WlV{α:Type}{R:Type}{l:List α}{p:α->Bool}{lp:Nat->Int->Option R}{N:Nat}{K0:Int->Option R}{K1:Option R}(hl:l.length<N)(fR:l.length<=1048576)(hs:∀n (j:Nat) (h:j<l.length),lp (n+1) (j:Int)=bif p l[j]then K0 j else lp n ((j+1:Nat):Int))(he:∀n,lp (n+1) (l.length:Int)=K1):lp N 0=match fnd p l 0 with|some r=>K0 r.1|none=>K1:=by
 have h1:=WC (l:=l) (V:=Unit) (lp:=λn j _=>lp n j) hl (body:=λj x v k=>bif p x then K0 j else k v) (K:=λ_ _=>K1) (λn j v h=>hs n j h) (λn v=>he n) ();refine(h1.trans (WgA (p:=p) (E:=λj _=>K0 j) l 0 () λj x v k _=>rfl)).trans ?_;cases fnd p l 0<;>rfl
theorem Wlx{α:Type}{p:α->Bool}:∀(l:List α) (j:Nat),(fnd p l j).isSome=l.any p
 | [],_=>rfl
 |x::l,j=>by
  unfold fnd;rw[List.any_cons];cases p x
  .simp[Wlx l]
  .rfl
variable{N:Nat}
theorem Wmr{f:Fm}(h3:f.kids.length<=3)(hN:1048576<N):Zm4 N f.e=ret (Wbj f):=by
 unfold Zm4 Zaj Zt;have e:f.e.2.2.2.2.2.2.2.2.2=f.kids.map Kd.e:=rfl;rw[e];have hl:(f.kids.map Kd.e).length<=3:=by simpa using h3
 have h1:=WlV (l:=f.kids.map Kd.e) (p:=λx=>x.1 !=3) (N:=N) (lp:=λn j=>Zg N (f.kids.map Kd.e) (λaq=>(some ((),(aq,())))) (λaH ba=>(some ((),((-1:Int),())))) n j) (K0:=λj=>some ((),(j,()))) (K1:=some ((),((-1:Int),()))) (by omega) (by omega)
  (λn j hj=>by
   simp only[Zg,W4 hj,Ww hj,Wx hj,Wn (show j<4611686018427387904 by omega),We,Zn8,Xc])
  (λn=>by simp only[Zg,Wae (Xm _),Wc])
 rw[h1];have h2:=Wlx (p:=λx:Y_KidRun=>x.1 !=3) (f.kids.map Kd.e) 0;have h3:(f.kids.map Kd.e).any (λx=>x.1 !=3)= !Wbj f:=by
  unfold Wbj;rw[List.any_map,←WcD];have:((λx:Y_KidRun=>x.1 !=3)∘Kd.e)= λx:Kd=>!decide (x.phase=3):=by
   funext x;show(x.phase !=3)= !decide (x.phase=3);by_cases h:x.phase=3<;>simp[h]
  rw[this]
 rw[h3]at h2;cases hf:fnd (λx:Y_KidRun=>x.1 !=3) (f.kids.map Kd.e) 0 with
 |some r=>
  rw[hf]at h2;simp only[Xc,Wf (show((r.1:Int)>=0) by omega),Xt,ret];rw[show Wbj f=false by simpa using h2.symm]
 |none=>
  rw[hf]at h2;rw[show Wbj f=true by simpa using h2.symm];rfl
theorem Wni{f:Fm}(h:f.buf.length<=1000)(hN:1048576<N):Zh5 N f.e=ret (WiE f):=by
 unfold Zh5;have e:f.e.2.2.2.2.2.2.1=f.buf:=rfl;rw[e];have h1:=WC (l:=f.buf) (V:=List Rw) (R:=Unit×(List Rw×Unit)) (lp:=λn j v=>Zc2 N f.buf (Wj f.buf) (λt9 ao am=>(some ((),(am,())))) n j v) (n:=N) (by omega)
  (body:=λj x v k=>bif WM (v.length+ [(x.1,x.2.1)].length)then k (Xf v [(x.1,x.2.1)])else none) (K:=λ_ v=>ret v)
  (λn i v hi=>by simp only[Zc2,W4 hi,Ww hi,Wx hi,Wn (show i<4611686018427387904 by omega),We])
  (λn v=>by simp only[Zc2,Wae (Xm f.buf.length),Wc]) []
 refine h1.trans ?_;rw[Wcg (f:=λx:En=>(x.1,x.2.1)) f.buf 0 [] (by simp;omega) (λj x v k _=>rfl)];rfl
theorem Wl9{f:Fm}(hr:Vals 4 f.regs)(h3:f.kids.length<=3)(hx:∀x∈f.kids,x.regs.length<=1000)(hN:1048576<N):Zh4 N f.e=ret (Wjs f):=by
 unfold Zh4 Wjs;have e:f.e.2.2.2.2.1=f.regs:=rfl;have e2:f.e.2.2.2.2.2.2.2.2.2=f.kids.map Kd.e:=rfl;have nf:WfH f.regs=true:=Wfh.2 hr;have hl:=hr.len;have hm:(f.kids.map Kd.e).length=f.kids.length:=by simp
 rw[e,e2,Wdp (by omega) hN,Wb ⟨nf,h3⟩];simp only[ret,Xc,nf,Xt,Wc];rw[Wq (by unfold Wj;omega),Wbe (by omega)];simp only[ret,Xc,Wc];have h1:=WC (l:=f.kids.map Kd.e) (V:=List Int) (R:=Unit×(List Int×Unit)) (lp:=λn j v=>Zbq N (f.kids.map Kd.e) (Wj (f.kids.map Kd.e)) (λbf eY bN=>(some ((),(bN,())))) n j v) (n:=N) (by omega)
  (body:=λj x v k=>bif inb j v.length then(bif x.2.2.2.2.2.1==(1:Int)then((Zad N (P6 x) (4:Int)).bind λbX=>(bif bX.2.1 then(bif inb 0 (P6 x).length then(bif inb j (Xk v j.toNat 0).length then k (Xk (Xk v j.toNat 0) j.toNat (Xd (P6 x) (Xb (0:Int)) 0))else none)else none)else k (Xk v j.toNat 0)))else k (Xk v j.toNat 0))else none) (K:=λ_ v=>ret v)
  (λn i v hi=>by simp only[Zbq,WD,W4 hi,Ww hi,Wx hi,Wn (show i<4611686018427387904 by omega),We];rfl)
  (λn v=>by simp only[Zbq,Wae (Xm _),Wc]) f.regs
 refine h1.trans ?_;have h2:=WkK (β:=Int) (K:=λ_ v=>ret v) (f:=λx:Y_KidRun=>if P5 x=1/\WfH (P6 x)=true then Wcl (P6 x) 0 0 else 0) (f.kids.map Kd.e) [] f.regs (by omega) (body:=λj x v k=>bif inb j v.length then(bif x.2.2.2.2.2.1==(1:Int)then((Zad N (P6 x) (4:Int)).bind λbX=>(bif bX.2.1 then(bif inb 0 (P6 x).length then(bif inb j (Xk v j.toNat 0).length then k (Xk (Xk v j.toNat 0) j.toNat (Xd (P6 x) (Xb (0:Int)) 0))else none)else none)else k (Xk v j.toNat 0)))else k (Xk v j.toNat 0))else none)
  (λj x v k Ad hj=>by
   obtain⟨y,hy,rfl⟩:=Xw.1 Ad;have hyl:=hx y hy;have p5:(Kd.e y).2.2.2.2.2.1=y.out:=rfl;have Ae:P5 (Kd.e y)=y.out:=rfl;have p6:P6 (Kd.e y)=y.regs:=rfl;simp only[p5,Ae,p6,Wag,Wf hj,We,Wdp (show y.regs.length<=1048576 by omega) hN,ret,Xc,WH,Xj,Xah];by_cases h1:y.out=1
   .rw[Wb h1];cases nf:WfH y.regs
    .rw[Wa (by simp)];rfl
    .have:y.regs.length=4:=(Wfh.1 nf).len;rw[Wb ⟨h1,rfl⟩,show inb (0:Int) y.regs.length=true by rw[this];rfl];simp only[We,Xdl];rfl
   .rw[Wa h1,Wa (λh=>h1 h.1)])
 simp only[Xcm,Xbn,Xab,List.map_map]at h2;exact h2
theorem WjU{rv:Int}{regs:List Int}{writes:List Rw}{kids:Nat}(hr:regs.length<=1000)(hw:writes.length<=1000)(hk:kids<=3)(hN:1048576<N):
  Zhd N rv regs writes (kids:Int)=ret (WaE rv regs writes kids).e:=by
 unfold Zhd;rw[Wbe (by omega),Wd4 (by omega) hN];have hn:=Wfk writes;simp only[ret,Xc];have h1:=WC (l:=WcT writes) (V:=List En) (R:=Unit×(Y_Family×Unit)) (lp:=λn j v=>Zcp N regs kids (Wj (WcT writes)) rv (WcT writes) regs (λt25 oc cA=>
  (Zbf N regs kids rv regs (WcT writes) cA
 (λvF t50 od=>
  (some ((),((rv,((0:Int),((0:Int),(false,(regs,(WcT writes,(cA,(([]:List Int),(([]:List Kc),od))))))))),()))))
 N (0:Int) ([]:List Y_KidRun))) n j v) (n:=N) (by omega)
  (body:=λj x v k=>bif WM (v.length+ [(x.1,(x.2,(0:Int)))].length)then k (Xf v [(x.1,(x.2,(0:Int)))])else none) (K:=λ_ cA=>(Zbf N regs kids rv regs (WcT writes) cA
 (λvF t50 od=>
  (some ((),((rv,((0:Int),((0:Int),(false,(regs,(WcT writes,(cA,(([]:List Int),(([]:List Kc),od))))))))),()))))
 N (0:Int) ([]:List Y_KidRun)))
  (λn i v hi=>by simp only[Zcp,W4 hi,Ww hi,Wx hi,Wn (show i<4611686018427387904 by omega),We])
  (λn v=>by simp only[Zcp,Wae (Xm _),Wc]) []
 refine h1.trans ?_;rw[Wcg (f:=λx:Rw=>(x.1,(x.2,(0:Int)))) (WcT writes) 0 [] (by simp;omega) (λj x v k _=>rfl)];simp only[Xbn];obtain⟨b,hb⟩:∃b,(WcT writes).map (λx:Rw=>(x.1,(x.2,(0:Int))))=b:=⟨_,rfl⟩;rw[hb];have lp:∀(d j n:Nat) (v:List Y_KidRun),j+d=kids->d<n->v=Xu j (Kd.e {regs:=regs})->Zbf N regs kids rv regs (WcT writes) b (λvF t50 od=>(some ((),((rv,((0:Int),((0:Int),(false,(regs,(WcT writes,(b,(([]:List Int),(([]:List Kc),od))))))))),())))) n (j:Int) v=some ((),((rv,((0:Int),((0:Int),(false,(regs,(WcT writes,(b,(([]:List Int),(([]:List Kc),Xu kids (Kd.e {regs:=regs})))))))))),())):=by
  intro d
  induction d with
  |zero=>
   intro j n v hj hn hv;obtain⟨n,rfl⟩:∃n',n=n'+1:=⟨n-1,by omega⟩;have:j=kids:=by omega
   subst this;simp only[Zbf,Int.lt_irrefl,decide_false,Wc,hv]
  |succ d ih=>
   intro j n v hj hn hv;obtain⟨n,rfl⟩:∃n',n=n'+1:=⟨n-1,by omega⟩;have hlt:(j:Int)<(kids:Int):=by omega
   have tR:v.length=j:=by rw[hv];simp
   simp only[Zbf,Wf hlt,We,Wbe (show regs.length<=1048576 by omega),ret,Xc];rw[WB (by simp;omega)];simp only[We];rw[Wn (by omega)];refine ih (j+1) n _ (by omega) (by omega) ?_;rw[hv,List.replicate_succ'];rfl
 have:=lp kids 0 N [] (by omega) (by omega) rfl;refine this.trans ?_;unfold WaE Fm.e;simp only[List.map_replicate,hb]
end
section
def Wbz(x:Kd):Int:=if x.phase=0 then 75-3*x.pc-(if x.busy=true then x.pb.2.1 else 0)else 0
def Wbt(x:Kd):Int:=if x.phase=3 then 0 else if x.phase=2 then 25-x.pos else 26
structure KT(f:Fm)(k:Nat)(x:Kd):Prop where
 pb:x.busy=true->x.pb.2.1=1\/x.pb.2.1=2
 own:f.owner=(k:Int)+1↔x.phase=2
 seen:x.since=f.clock->∀e∈x.seen,Wv6 f.buf e.1=e.2.2
inductive KO (f:Fm) (k:Nat) (x:Kd):Fm×Kd->Prop
 |lost {q:Fm×Kd}:q.1.lost=true->KO f k x q
 |run {y:Kd}:x.phase=0->y.since=x.since->(y.phase=0\/y.phase=1)->Wbz y<Wbz x->(y.busy=true->y.pb.2.1=1\/y.pb.2.1=2)->
   (x.since=f.clock->∀e∈y.seen,Wv6 f.buf e.1=e.2.2)->KO f k x (f,y)
 |again:x.phase=0->x.since<f.clock->KO f k x (f,f.again x)
 |fail:x.phase=2->x.since<f.clock->KO f k x ({f with owner:=0},f.again x)
 |ask:x.phase=1->f.owner=0->KO f k x ({f with owner:=(k:Int)+1},{x with phase:=2})
 |wait:x.phase=1->f.owner≠0->KO f k x (f,x)
 |look:x.phase=2->x.pos<x.seen.length->KO f k x (f,{x with pos:=x.pos+1})
 |merge:x.phase=2->KO f k x (Wdn f x k)
 |done:x.phase=3->KO f k x (f,x)
variable{code:List Opn}{codes:List (List Opn)}{n:Int}{f:Fm}{x:Kd}{m:Mm}{k:Nat}{o:Opn}
theorem Wpm{rv:Int}{p:Pb}(h:0<=p.2.1/\p.2.1<=2):(W5 m rv p).2.1=4\/(W5 m rv p).2.1=p.2.1+1:=by
 unfold W5
 grind
theorem WwH(hF:FOk codes n f)(h:KOk code f.clock n x)(h0:x.phase=0)(ht:KT f k x)(aT:x.pc+1<=24):KO f k x (Weo m f x o):=by
 have hl:Wbz x=75-3*x.pc-(if x.busy=true then x.pb.2.1 else 0):=by unfold Wbz;rw[Wb h0]
 have gI:0<=(if x.busy=true then x.pb.2.1 else 0)/\(if x.busy=true then x.pb.2.1 else 0)<=2:=by
  split
  .have:=ht.pb ‹_›;omega
  .omega
 have dv:∀y:Kd,y.phase=0->y.pc=x.pc+1->y.busy=x.busy->y.pb=x.pb->Wbz y<Wbz x:=λy a b c d=>by
  unfold Wbz;grind
 unfold Weo;cases Wbv x.writes o.2.2.1 with
 |some v=>exact .run h0 rfl (.inl h0) (dv _ h0 rfl rfl rfl) ht.pb ht.seen
 |none=>
  simp only;cases he:ent f.buf o.2.2.1 with
  |some r=>
   simp only;have hr:=Wc3 he;have mO:r.2∈f.buf:=List.mem_of_getElem? hr.2.2.2;split
   .exact .again h0 (by have:=(hF.bufE _ mO).2.2;omega)
   .refine .run h0 rfl (.inl h0) (dv _ h0 rfl rfl rfl) ht.pb λhs e dV=>?_;rcases Xn.1 dV with dV|dV
    .exact ht.seen hs e dV
    simp_all [Xac,eq_of_beq,Wv6]
  |none=>
   simp only;have hp:0<=(if x.busy=true then x.pb else(o.2.2.1,0,0,0)).2.1/\(if x.busy=true then x.pb else(o.2.2.1,0,0,0)).2.1<=2:=by
    grind
   have fT:(if x.busy=true then x.pb else(o.2.2.1,0,0,0)).2.1=(if x.busy=true then x.pb.2.1 else 0):=by split<;>rfl
   have hs:=Wpm (m:=m) (rv:=f.rv) hp;rw[fT]at hs;generalize W5 m f.rv (if x.busy=true then x.pb else(o.2.2.1,0,0,0))=p at*;split
   .exact .lost rfl
   .split
    .refine .run h0 rfl (.inl h0) ?_ (λh=>by cases h) λAf e dV=>?_
     .rw[hl];show(if x.phase=0 then 75-3*(x.pc+1) -0 else 0)<_;omega
     .rcases Xn.1 dV with dV|dV
      .exact ht.seen Af e dV
      grind [Xac,Wv6]
    .refine .run h0 rfl (.inl h0) ?_ (λ_=>by grind) ht.seen;rw[hl];show(if x.phase=0 then 75-3*x.pc-p.2.1 else 0)<_;omega
theorem Wya(bd:KC code)(hF:FOk codes n f)(h:KOk code f.clock n x)(h0:x.phase=0)(ht:KT f k x):KO f k x (WrZ m f x code):=by
 have aK:=bd.toCC;have hlen:=aK.len;have hl:Wbz x=75-3*x.pc-(if x.busy=true then x.pb.2.1 else 0):=by unfold Wbz;rw[Wb h0]
 have gI:0<=(if x.busy=true then x.pb.2.1 else 0)/\(if x.busy=true then x.pb.2.1 else 0)<=2:=by
  split
  .have:=ht.pb ‹_›;omega
  .omega
 have Ag:=h.pc;have tm:∀y:Kd,y.phase=1->Wbz y<Wbz x:=λy a=>by unfold Wbz at*;omega
 have dv:∀y:Kd,y.phase=0->x.pc+1<=y.pc->y.busy=x.busy->y.pb=x.pb->Wbz y<Wbz x:=λy a b c d=>by
  unfold Wbz;grind
 unfold WrZ;split
 .exact .run h0 rfl (.inr rfl) (tm _ rfl) ht.pb ht.seen
 .obtain⟨i,hi,aT,ho⟩:=WfI (l:=code) h.pc.1 (by omega);simp only[ho];have hM:=h.marks h0;rw[aT,Xj]at hM;split
  .grind [WwH]
  .split
   .unfold Wjv;split
    .exact .run h0 rfl (.inr rfl) (tm _ rfl) ht.pb ht.seen
    .obtain⟨j,q,y,e1,e2,e3,⟨hj,h8⟩,qc,cM,fT,e5,e6⟩:=WhQ (d:=((0,0,[]):KM)) aK (show i<=code.length by omega) hM.pcs ‹_›;refine .run h0 rfl (.inl h0) (dv _ h0 ?_ rfl rfl) ht.pb ht.seen;simp_all
   .split
    .exact .run h0 rfl (.inl h0) (dv _ h0 (Xx _) rfl rfl) ht.pb ht.seen
    .split
     .have hk:=Wxs (bd.ok i hi).1 ‹_›;refine .run h0 rfl (.inl h0) (dv _ h0 ?_ rfl rfl) ht.pb ht.seen;show x.pc+1<=(if Wcl x.regs code[i].2.1 0=0 then x.pc+code[i].2.2.1 else x.pc)+1;split<;>omega
     .split
      .exact .run h0 rfl (.inl h0) (dv _ h0 (Xx _) rfl rfl) ht.pb ht.seen
      .split
       .exact .run h0 rfl (.inl h0) (dv _ h0 (Xx _) rfl rfl) ht.pb ht.seen
       .exact .run h0 rfl (.inl h0) (dv _ h0 (Xx _) rfl rfl) ht.pb ht.seen
theorem Wt6(bd:KC code)(hF:FOk codes n f)(h:KOk code f.clock n x)(ht:KT f k x):KO f k x (Weq m f x k code):=by
 have aW:=h.phase;unfold Weq;split
 .grind [Wya]
 .split
  .split
   .exact .ask ‹_› ‹_›
   .exact .wait ‹_› ‹_›
  .split
   .split
    .exact .merge ‹_›
    .have hp:=h.pos;have hlt:x.pos<x.seen.length:=by omega
     simp only;split
     .exact .look ‹_› hlt
     .rename_i hne;refine .fail ‹_› ?_;have hs:=h.since;by_cases he:x.since=f.clock
      .exfalso;apply hne;have hg:Wcl x.seen x.pos (0,0,0)=x.seen[x.pos.toNat]'(by omega):=Wp (by omega) _;rw[hg];exact ht.seen he _ (Xo _)
      .omega
   .exact .done (by omega)
end
section
def WaG(x:Kd):Int:=if x.phase=3 then 0 else 1
def WbW(c:Int)(x:Kd):Int:=if x.phase≠3/\x.since<c then 1 else 0
def W6(c:Int)(x:Kd):Int:=Wbt x+26*WbW c x
def Wdc(g:Kd->Int)(l:List Kd):Int:=(l.map g).sum
def tri(u:Int):Int:=if u<=1 then 0 else if u=2 then 1 else 3
def Wfx(f:Fm):Int:=Wdc WaG f.kids
def fQ(f:Fm):Int:=Wdc (W6 f.clock) f.kids+26*tri (Wfx f)
def fP(f:Fm)(x:Kd):Int:=Wbz x+75*(WbW f.clock x+(Wfx f-1))
theorem Wb3{g:Kd->Int}{y:Kd}:∀{l:List Kd} {k:Nat} (h:k<l.length),Wdc g (l.set k y)=Wdc g l-g l[k]+g y
 |x::l,0,h=>by simp[Wdc];omega
 |x::l,k+1,h=>by
  have:=Wb3 (g:=g) (y:=y) (l:=l) (k:=k) (by grind)
  grind [Wdc]
theorem Wjq{g h:Kd->Int}:∀{l:List Kd},(∀x∈l,g x<=h x)->Wdc g l<=Wdc h l
 | [],_=>by simp[Wdc]
 |x::l,hl=>by
  have:=Wjq (l:=l) λy hy=>hl y (Xe _ hy)
  grind [Xg,Wdc]
theorem Wlj{g h:Kd->Int}{a:Int}:∀{l:List Kd},Wdc (λx=>g x+a*h x) l=Wdc g l+a*Wdc h l
 | []=>by simp[Wdc]
 |x::l=>by
  have:=Wlj (g:=g) (h:=h) (a:=a) (l:=l)
  grind [Wdc,Int.mul_add]
theorem WuW(x:Kd):0<=WaG x/\WaG x<=1:=by unfold WaG;split<;>omega
theorem Wcm(c:Int)(x:Kd):0<=WbW c x/\WbW c x<=WaG x:=by
 unfold WbW WaG;omega
theorem Wln(f:Fm):0<=Wfx f/\Wfx f<=f.kids.length:=by
 unfold Wfx;have:∀l:List Kd,0<=Wdc WaG l/\Wdc WaG l<=l.length:=λl=>by
  induction l with
  |nil=>simp[Wdc]
  |cons x l ih=>
   have:=WuW x
   grind [Wdc,Xr]
 simp_all
theorem WeN{code:List Opn}{c n:Int}{x:Kd}(h:KOk code c n x)(hl:code.length<=24):0<=Wbt x/\Wbt x<=26/\(x.phase=2->1<=Wbt x/\Wbt x<=25)/\((x.phase=0\/x.phase=1)->Wbt x=26):=by
 have hp:=h.pos;have hs:=h.sl;have aT:=h.pc;grind [Wbt]
theorem WlA{code:List Opn}{c n:Int}{x:Kd}(h:KOk code c n x)(hl:code.length<=24)(hb:x.busy=true->x.pb.2.1=1\/x.pb.2.1=2):0<=Wbz x/\Wbz x<=75/\(x.phase=0->1<=Wbz x):=by
 have aT:=h.pc
 grind [Wbz]
structure KD(f:Fm)(k:Nat)(q:Fm×Kd):Prop where
 le:fQ (Fm.put q k)<=fQ f
 p:∀(j:Nat) (h:j<f.kids.length) (h':j<(Fm.put q k).kids.length),WaG (Fm.put q k).kids[j]=1->fP (Fm.put q k) (Fm.put q k).kids[j]<=fP f f.kids[j]/\WaG f.kids[j]=1
variable{codes:List (List Opn)}{n:Int}{f:Fm}{x y:Kd}{k:Nat}{q:Fm×Kd}{code:List Opn}
theorem Whk(h:k<f.kids.length)(hk:q.1.kids=f.kids){j:Nat}(hj:j<f.kids.length)(h':j<(Fm.put q k).kids.length):(Fm.put q k).kids[j]=if k=j then q.2 else f.kids[j]:=by
 show(q.1.kids.set k q.2)[j]=_
 grind
theorem Wf3(hk:k<f.kids.length)(h1:q.1.kids=f.kids)(hc:q.1.clock=f.clock)(hu:WaG q.2=WaG f.kids[k])(hs:W6 f.clock q.2<=W6 f.clock f.kids[k])(hp:WaG q.2=1->Wbz q.2+75*WbW f.clock q.2<=Wbz f.kids[k]+75*WbW f.clock f.kids[k]):
  KD f k q/\Wfx (Fm.put q k)=Wfx f/\fQ (Fm.put q k)=fQ f-W6 f.clock f.kids[k]+W6 f.clock q.2:=by
 have e1:(Fm.put q k).kids=f.kids.set k q.2:=by show q.1.kids.set k q.2=_;rw[h1]
 have e2:(Fm.put q k).clock=f.clock:=hc;have e3:Wfx (Fm.put q k)=Wfx f:=by grind [Wfx,Wb3]
 have e4:fQ (Fm.put q k)=fQ f-W6 f.clock f.kids[k]+W6 f.clock q.2:=by grind [fQ,Wb3]
 refine⟨⟨by omega,λj h h' hj=>?_⟩,e3,e4⟩;have hg:=Whk hk h1 h h';rw[hg]at hj⊢;unfold fP
 grind
end
end Go.Sx
