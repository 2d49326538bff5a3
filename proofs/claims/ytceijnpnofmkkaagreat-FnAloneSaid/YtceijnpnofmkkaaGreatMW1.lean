/- Plain laws of the Lean functions. -/
import Derived.Test.YtceijnpnofmkkaaGreatT2
open Option renaming bind_some→Xd
open Nat renaming le_refl→Xn,zero_add→Xaz,le_trans→Xcr,add_zero→Xbb,add_assoc→Xba,sub_zero→Xdt
open List renaming append→Xe,length_cons→Xr,mem_cons_self→Xk,append_eq→Xaw,mem_cons_of_mem→Xf,all_eq_true→Xah,getD→Xc,mem_cons→Xq,set→Xg,set_set→Xcq,take_succ_eq_append_getElem→Xbh,countP_le_length→Xgh,length→Xb,length_append→Xs,length_dropLast→Xdm,append_inj'→Xeg,append_assoc→Xbn,cons_append→Xax,dropLast_concat→Xdp,getElem_mem→Xw,length_set→Xy,pairwise_cons→Xaa,mergeSort_perm→Xgm,getElem_of_mem→Xbc,pairwise_iff_getElem→Xau,mem_iff_getElem→Xef,getElem_set→Xam,range→Xca,replicate→Xo,map_append→Xu,map_cons→Xag,map_nil→Xbd,map_set→Xfw,length_map→Xad,take→Xal,set_getElem_self→Xap,range'→Xgy,mem_range'_1→Xgx,mem_append→Xm,pairwise_append→Xai,mem_singleton→Xaf,getElem?_eq_getElem→Xp,drop_length→Xcn,drop_eq_getElem_cons→Xcj,drop_zero→Xbm,countP_set→Xhe,length_singleton→Xew,length_nil→Xbs,mem_map→Xx,nil_append→Xbu
open Bool renaming not_true→Xv,and_eq_true→Xj,or_eq_true→Xck,not_eq_true'→Xan,not_eq_true→Xfx,false_or→Xfk,toNat_false→Xfu,false_and→Xfd,true_and→Xch,or_eq_false_iff→Xco,not_eq_false'→Xdw
open Int renaming toNat→Xa,toNat_natCast→Xi,le_refl→Xab
namespace Go.Sx
set_option linter.unusedVariables false
set_option linter.unusedSimpArgs false
section
def Wby(v:Int):Bool:=decide (0<=v)&&decide (v<=65535)
theorem WqD{N:Nat}{x a b:Int}:Zb1 N x a b=ret (decide (a<=x)&&decide (x<=b)):=by
 unfold Zb1;by_cases h:a<=x<;>simp[h]
theorem W5{N:Nat}{x a b:Int}:Zo N x a b=ret (decide (a<=x)&&decide (x<=b)):=by
 unfold Zo;by_cases h:a<=x<;>simp[h]
theorem WcP{α:Type}{p:α->Bool}(l:List α):(l.any λx=>!p x)= !l.all p:=by
 grind
abbrev Rw:=Int×Int
def W8(v:Int):Bool:=decide (0<=v)&&decide (v<=7)
def WoB(r:Rw):Bool:=W8 r.1&&Wby r.2
def Wbm(l:List Rw):Bool:=decide (l.length<=300)&&l.all WoB
def WdL(l:List Int):Bool:=decide (l.length=8)&&l.all Wby
theorem WdR{N:Nat}{v:Int}:Zgm N v=ret (Wby v):=by
 unfold Zgm;simp only[WqD,ret,Xd];rfl
theorem WaC{N:Nat}{v:Int}:Zaw N v=ret (Wby v):=by
 unfold Zaw;simp only[W5,ret,Xd];rfl
theorem WmZ{N:Nat}{v:Int}:Zic N v=ret (W8 v):=by
 unfold Zic;simp only[WqD,ret,Xd];rfl
theorem WaM{N:Nat}{v:Int}:Zbj N v=ret (W8 v):=by
 unfold Zbj;simp only[W5,ret,Xd];rfl
theorem WmS{N:Nat}{l:List Int}(hl:l.length<=1048576)(hN:1048576<N):Zia N l=ret (WdL l):=by
 unfold Zia WdL;by_cases h:l.length=8
 .have e:(Wi l !=8)=false:=by simp[Wi,h]
  rw[e];simp only[Wc];have h1:=WR (l:=l) (V:=Unit) (R:=Unit×Kq) (lp:=λn j v=>Zc9 N l (some ((),(false,()))) (λi8 t9=>some ((),(true,()))) n j) (n:=N) (by omega)
   (body:=λj x v k=>bif !Wby x then some ((),(false,()))else k v) (K:=λ_ v=>some ((),(true,())))
   (λn i v hi=>by simp only[Zc9,W2 hi,Wq hi,Wt hi,Wp (show i<4611686018427387904 by omega),We,WdR,ret,Xd])
   (λn v=>by simp[Zc9,Wat,Xn,Wc]) ()
  refine h1.trans ?_;rw[WaK (p:=λx=>!Wby x) (E:=λ_=>some ((),(false,()))) l 0 () (λj x v k _=>rfl),WcP];cases l.all Wby<;>simp[h]
 grind [Wi]
theorem Wh2{N:Nat}{l:List Int}(hl:l.length<=1048576)(hN:1048576<N):Zag N l 8=ret (WdL l):=by
 unfold Zag WdL;have h1:=WR (l:=l) (V:=Unit) (R:=Unit×Kq) (lp:=λn j v=>Za0 N l 8 (some ((),(false,()))) (λi8 t9=>some ((),((Wi l)==(8:Int),()))) n j) (n:=N) (by omega)
  (body:=λj x v k=>bif !Wby x then some ((),(false,()))else k v) (K:=λ_ v=>some ((),((Wi l)==(8:Int),())))
  (λn i v hi=>by simp only[Za0,W2 hi,Wq hi,Wt hi,Wp (show i<4611686018427387904 by omega),We,WaC,ret,Xd])
  (λn v=>by simp[Za0,Wat,Xn,Wc]) ()
 refine h1.trans ?_;rw[WaK (p:=λx=>!Wby x) (E:=λ_=>some ((),(false,()))) l 0 () (λj x v k _=>rfl),WcP];have e:((Wi l)==(8:Int))=decide (l.length=8):=by
  grind [Wi]
 rw[e];cases l.all Wby<;>simp
theorem WcJ{N:Nat}{l:List Rw}(hl:l.length<=1048576)(hN:1048576<N):Zc1 N l=ret (Wbm l):=by
 unfold Zc1 Wbm;have h1:=WR (l:=l) (V:=Unit) (R:=Unit×Kq) (lp:=λn j v=>Zdc N l (some ((),(false,()))) (λi8 t9=>some ((),(decide ((Wi l)<=(300:Int)),()))) n j) (n:=N) (by omega)
  (body:=λj x v k=>bif !WoB x then some ((),(false,()))else k v) (K:=λ_ v=>some ((),(decide ((Wi l)<=(300:Int)),())))
  (λn i v hi=>by
   simp only[Zdc,W2 hi,Wq hi,Wt hi,Wp (show i<4611686018427387904 by omega),We,WaC,WaM,ret,Xd,WoB];cases W8 l[i].1<;>rfl)
  (λn v=>by simp[Zdc,Wat,Xn,Wc]) ()
 refine h1.trans ?_;rw[WaK (p:=λx=>!WoB x) (E:=λ_=>some ((),(false,()))) l 0 () (λj x v k _=>rfl),WcP];have e:decide (Wi l<=300)=decide (l.length<=300):=by apply decide_eq_decide.2;simp[Wi];omega
 rw[e];cases l.all WoB<;>simp
theorem Wur{α:Type}{l:List α}(h:l.length<=1048576):WB l.length=true:=by grind [WB]
end
section
abbrev Wd:=Int×Int×Int
abbrev Mm:=Int×List Wd
theorem WgK{α:Type}(a:Option α):WfB a a=a:=by unfold WfB;simp
def Wrq(clock:Int)(w:Wd):Bool:=Wby w.1&&((decide (0<=w.2.1)&&decide (w.2.1<=clock))&&(decide (0<=w.2.2)&&decide (w.2.2<=99)))
def W3(m:Mm):Bool:=decide (m.2.length=8)&&((decide (0<=m.1)&&decide (m.1<=1000000))&&m.2.all (Wrq m.1))
theorem Wbd{N:Nat}{m:Mm}(hl:m.2.length<=1048576)(hN:1048576<N):Zb9 N m=ret (W3 m):=by
 unfold Zb9 W3;have h1:=WR (l:=m.2) (V:=Unit) (R:=Unit×Kq) (lp:=λn j v=>Zd7 N m.2 m (some ((),(false,()))) (λeU je=>
  (bif (Wi m.2)==(8:Int)then
  ((Zo N m.1 (0:Int) (1000000:Int)).bind λgW=>
  (some ((),(gW.2.1,()))))
  else
  (some ((),(false,()))))) n j) (n:=N) (by omega)
  (body:=λj x v k=>bif !Wrq m.1 x then some ((),(false,()))else k v) (K:=λ_ v=>(bif (Wi m.2)==(8:Int)then
  ((Zo N m.1 (0:Int) (1000000:Int)).bind λgW=>
  (some ((),(gW.2.1,()))))
  else
  (some ((),(false,())))))
  (λn i v hi=>by
   simp only[Zd7,W2 hi,Wq hi,Wt hi,Wp (show i<4611686018427387904 by omega),We,WaC,W5,ret,Xd,Wrq];cases Wby m.2[i].1<;>cases(decide (0<=m.2[i].2.1)&&decide (m.2[i].2.1<=m.1))<;>cases(decide (0<=m.2[i].2.2)&&decide (m.2[i].2.2<=99))<;>rfl)
  (λn v=>by simp[Zd7,Wat,Xn,Wc]) ()
 refine h1.trans ?_;rw[WaK (p:=λx=>!Wrq m.1 x) (E:=λ_=>some ((),(false,()))) m.2 0 () (λj x v k _=>rfl),WcP];have e:((Wi m.2)==(8:Int))=decide (m.2.length=8):=by
  grind [Wi]
 simp only[e,W5,ret,Xd];cases m.2.all (Wrq m.1)<;>cases decide (m.2.length=8)<;>simp
def wd0(v:Int):Wd:=(v,(0,0))
def Wgt(l:List Int):Mm:=(0,l.map wd0)
theorem Wc6{α β R:Type}{body:Int->α->List β->(List β->Option R)->Option R}{K:Int->List β->Option R}{f:α->β}:∀(l:List α) (j:Nat) (o:List β),o.length+l.length<=1000000->
  (∀(j:Nat) x (v:List β) k,x∈l->body j x v k=bif WB (v.length+ [f x].length)then k (Xe v [f x])else none)->Wcf body K l j o=K ((j+l.length:Nat):Int) (o++l.map f)
 | [],j,o,_,_=>by simp[Wcf]
 |x::l,j,o,h,hb=>by
  rw[Xr]at h;rw[Wcf,hb j x o _ (Xk ..),Wx (by simp;omega)];simp only[We];rw[Wc6 l (j+1) _ (by grind [Xaw]) λj y v k hy=>hb j y v k (Xf _ hy)];rw[Xr,show j+1+l.length=j+(l.length+1) by omega];simp
theorem WjY{N:Nat}{l:List Int}(h:WdL l=true)(hN:1048576<N):Zb8 N l=some ((),(Wgt l,(true,()))):=by
 have hl:l.length=8:=by grind [WdL]
 unfold Zb8;simp only[Wh2 (show l.length<=1048576 by omega) hN,ret,Xd,h,Xv,Wc];have h1:=WR (l:=l) (V:=List Wd) (R:=Unit×(Mm×Kq)) (lp:=λn j v=>Zdd N l (λaT bi bH=>(some ((),(((0:Int),bH),(true,()))))) n j v) (n:=N) (by omega)
  (body:=λj x v k=>bif WB (v.length+ [wd0 x].length)then k (Xe v [wd0 x])else none) (K:=λ_ v=>some ((),(((0:Int),v),(true,()))))
  (λn i v hi=>by simp only[Zdd,W2 hi,Wq hi,Wt hi,Wp (show i<4611686018427387904 by omega),We,wd0])
  (λn v=>by simp[Zdd,Wat,Xn,Wc]) []
 refine h1.trans ?_;rw[Wc6 (f:=wd0) l 0 [] (by simp;omega) (λj x v k _=>rfl)];rfl
theorem WO{m:Mm}(h:W3 m=true):m.2.length=8/\0<=m.1/\m.1<=1000000/\∀w∈m.2,Wrq m.1 w=true:=by
 simp_all [W3,Xj,Wh,Xah]
def tick(m:Mm):Mm×Int:=if m.1<1000000 then((m.1+1,m.2),m.1+1)else(m,0)
theorem Wm8{N:Nat}{m:Mm}(h:W3 m=true)(hN:1048576<N):Zo2 N m=some ((),((tick m).1,((tick m).2,()))):=by
 obtain⟨h8,h0,h1,_⟩:=WO h;have e:Zca N m=ret m:=by grind [Zca,Wx]
 unfold Zo2 tick;simp only[e,Wbd (show m.2.length<=1048576 by omega) hN,ret,Xd,h,Xv,Wc];by_cases hc:m.1<1000000
 .have e2:(m.1==1000000)=false:=by simp;omega
  have e3:Wl .i64 m.1 1=m.1+1:=WH (by unfold I64;omega)
  grind
 grind
abbrev Pb:=Int×Int×Int×Int
def Wk7(p:Pb):Bool:=W8 p.1&&((decide (0<=p.2.1)&&decide (p.2.1<=4))&&((decide (0<=p.2.2.1)&&decide (p.2.2.1<=1000000))&&Wby p.2.2.2))
theorem Wmh{N:Nat}{p:Pb}:Zmg N p=ret (Wk7 p):=by
 unfold Zmg Wk7;simp only[WaM,W5,WaC,ret,Xd];cases W8 p.1<;>cases(decide (0<=p.2.1)&&decide (p.2.1<=4))<;>cases(decide (0<=p.2.2.1)&&decide (p.2.2.1<=1000000))<;>simp
def WM(m:Mm)(rv:Int)(p:Pb):Pb:=
 let w:=Xc m.2 (Xa p.1) (0,(0,0))
 bif p.2.1==0 then(bif w.2.2==0 then(bif decide (w.2.1<=rv)then(p.1,(1,(w.2.1,p.2.2.2)))else(p.1,(4,p.2.2)))else(p.1,(4,p.2.2)))
 else bif p.2.1==1 then(p.1,(2,(p.2.2.1,w.1)))
 else bif p.2.1==2 then(bif w.2.2==0 then(bif w.2.1==p.2.2.1 then(p.1,(3,p.2.2))else(p.1,(4,p.2.2)))else(p.1,(4,p.2.2)))
 else p
theorem Wxi{m:Mm}{p:Pb}(h:W3 m=true)(hp:Wk7 p=true):inb p.1 m.2.length=true:=by
 grind [WO,Wk7,W8,inb]
theorem Wfj{N:Nat}{m:Mm}{rv:Int}{p:Pb}(h:W3 m=true)(hp:Wk7 p=true)(hN:1048576<N):Zd8 N m rv p=ret (WM m rv p):=by
 have h1:=(WO h).1;unfold Zd8 WM;simp only[Wbd (show m.2.length<=1048576 by omega) hN,Wmh,ret,Xd,h,hp,Xv,Wc,Wxi h hp,We];generalize Xc m.2 (Xa p.1) (0,(0,0))=w;cases p.2.1==0<;>cases p.2.1==1<;>cases p.2.1==2<;>cases w.2.2==0<;>cases decide (w.2.1<=rv)<;>cases w.2.1==p.2.2.1<;>rfl
def WfF(l:List Rw)(c:Int):Nat->Option Int
 |0=>none
 |i+1=>if(Xc l i (0,0)).1=c then some (Xc l i (0,0)).2 else WfF l c i
def WaF(l:List Rw)(c:Int):Option Int:=if Wbm l=true then WfF l c l.length else none
def opI(o:Option Int):Option (Unit×Km):=match o with
 |none=>some ((),((0:Int),(false,())))
 |some v=>some ((),(v,(true,())))
theorem WiB{N:Nat}{l:List Rw}{c:Int}(hl:l.length<=1048576):∀(i n:Nat),i<n->i<=l.length->Zgu N l c (λaP=>(some ((),(aP,(true,()))))) (λaL aT=>(some ((),((0:Int),(false,()))))) n ((i:Int) -1)=opI (WfF l c i)
 |i,0,h,_=>by omega
 |0,n+1,h,_=>rfl
 |i+1,n+1,h,hi=>by
  have e:((i+1:Nat):Int) -1=(i:Int):=by omega
  have e1:decide ((i:Int)>=0)=true:=by simp
  have e2:Ws .i64 (i:Int) 1=(i:Int) -1:=Wah (by unfold I64;omega);rw[e,Zgu,e1,Wq (show i<l.length by omega),e2,WfF,Xi];simp only[We];by_cases hc:(Xc l i ((0:Int),(0:Int))).1=c
  .rw[Wb hc,beq_iff_eq.2 hc];rfl
  .rw[Wa hc,beq_eq_false_iff_ne.2 hc];exact WiB hl i n (by omega) (by omega)
theorem Wp2{α:Type}{l:List α}(hl:l.length<=1048576):Ws .i64 (Wi l) 1=((l.length:Nat):Int) -1:=by grind [Wi,Wah,I64]
theorem We3{N:Nat}{l:List Rw}{c:Int}(hl:l.length<=1048576)(hN:1048576<N):Zhd N l c=opI (WaF l c):=by
 unfold Zhd WaF;simp only[WcJ hl hN,ret,Xd];cases Wbm l
 .rfl
 .simp only[Xv,Wc,WaD,Wp2 hl];exact WiB hl l.length N (by omega) (Xn _)
end
section
def Wlp(l:List Rw)(o:List Rw)(c:Nat):List Rw:=match WaF l c with
 |none=>o
 |some v=>o++ [((c:Int),v)]
def WlB(l:List Rw):Nat->Nat->List Rw->List Rw
 |0,_,o=>o
 |j+1,c,o=>WlB l j (c+1) (Wlp l o c)
def WbF(l:List Rw):List Rw:=WlB l 8 0 []
theorem Wht{N:Nat}{l:List Rw}(hl:l.length<=1048576)(hN:1048576<N):∀(j n c:Nat) (o:List Rw),c+j=8->j<n->o.length<=c->Zf2 N l (λaX aT cj=>(some ((),(cj,())))) n (c:Int) o=ret (WlB l j c o)
 |j,0,c,o,_,h,_=>by omega
 |0,n+1,c,o,h,_,_=>by
  have:c=8:=by omega
  subst this;rfl
 |j+1,n+1,c,o,h,h1,ho=>by
  have e:decide ((c:Int)<8)=true:=by simp;omega
  rw[Zf2,e,We3 hl hN,Wp (by omega),WlB,Wlp];simp only[We];rcases WaF l c with _|v
  .exact Wht hl hN j n (c+1) o (by omega) (by omega) (by omega)
  .have er:WB (o.length+ [((c:Int),v)].length)=true:=Wx (by simp;omega);simp only[opI,Xd,We,er];exact Wht hl hN j n (c+1) _ (by omega) (by omega) (by simp;omega)
theorem Wnd{l:List Rw}(h:Wbm l=false):∀(j c:Nat) (o:List Rw),WlB l j c o=o
 |0,_,_=>rfl
 |j+1,c,o=>by
  have e:WaF l c=none:=by grind [WaF]
  rw[WlB,Wlp,e];exact Wnd h j (c+1) o
theorem Wd9{N:Nat}{l:List Rw}(hl:l.length<=1048576)(hN:1048576<N):Zgf N l=ret (WbF l):=by
 unfold Zgf;simp only[WcJ hl hN,ret,Xd];cases h:Wbm l
 .grind [WbF,Wnd]
 .exact Wht hl hN 8 N 0 [] rfl (by omega) (by simp)
def fnd{α:Type}(p:α->Bool):List α->Nat->Option (Nat×α)
 | [],_=>none
 |x::l,j=>bif p x then some (j,x)else fnd p l (j+1)
theorem Wgj{α V R:Type}{body:Int->α->V->(V->Option R)->Option R}{K:Int->V->Option R}{p:α->Bool}{E:Int->α->Option R}:∀(l:List α) (j:Nat) (v:V),(∀(j:Nat) x v k,x∈l->body j x v k=bif p x then E j x else k v)->
  Wcf body K l j v=match fnd p l j with|some r=>E r.1 r.2|none=>K ((j+l.length:Nat):Int) v
 | [],j,v,_=>rfl
 |x::l,j,v,h=>by
  rw[Wcf,h j x v _ (Xk ..),fnd,Wgj l (j+1) v λj y v k hy=>h j y v k (Xf _ hy)]
  grind
theorem WcS{α:Type}{p:α->Bool}:∀{l:List α} {j:Nat} {r:Nat×α},fnd p l j=some r->p r.2=true/\j<=r.1/\r.1<j+l.length/\l[r.1-j]?=some r.2
 | [],j,r,h=>by cases h
 |x::l,j,r,h=>by
  rw[fnd]at h;cases hp:p x
  .rw[hp]at h;obtain⟨h1,h2,h3,h4⟩:=WcS (l:=l) h
   grind
  grind
theorem WgH{α:Type}{p:α->Bool}:∀{l:List α} {j:Nat},fnd p l j=none->∀x∈l,p x=false
 | [],j,h=>by simp
 |x::l,j,h=>by
  rw[fnd]at h;cases hp:p x
  .rw[hp]at h;intro y hy;rcases Xq.1 hy with rfl|hy
   .exact hp
   .exact WgH h y hy
  simp_all
abbrev En:=Int×Int×Int
def ent(b:List En)(c:Int):Option (Nat×En):=fnd (λe=>e.1==c) b 0
theorem Wf0{N:Nat}{f:Y_Family}{c:Int}(hl:f.2.2.2.2.2.2.1.length<=1048576)(hN:1048576<N):Zci N f c=ret (match ent f.2.2.2.2.2.2.1 c with|some r=>(r.1:Int)|none=>-1):=by
 unfold Zci;show((Zr N f.2.2.2.2.2.2.1 c).bind _)=_;generalize f.2.2.2.2.2.2.1=b at hl;unfold Zr ent;have h1:=WR (l:=b) (V:=Unit) (R:=Kj×Kj) (lp:=λn j v=>Zi N b (λcn ak=>(some ((ak,()),(cn,())))) (λeU je ep=>(some ((ep,()),((-1:Int),())))) n j c) (n:=N) (by omega)
  (body:=λj x v k=>bif x.1==c then some ((c,()),(j,()))else k v) (K:=λ_ v=>some ((c,()),((-1:Int),())))
  (λn i v hi=>by simp only[Zi,Zjn,W2 hi,Wq hi,Wt hi,Wp (show i<4611686018427387904 by omega),We,Xd])
  (λn v=>by simp[Zi,Wat,Xn,Wc]) ()
 rw[h1,Wgj (p:=λe=>e.1==c) (E:=λj x=>some ((c,()),(j,()))) b 0 () (λj x v k _=>rfl)];cases fnd (λe:En=>e.1==c) b 0<;>rfl
theorem WbB{N:Nat}{l:List Int}(h:l.length<=1048576):Zh N l=ret l:=by
 grind [Zh,Wx]
theorem WdP{N:Nat}{l:List Rw}(h:l.length<=1048576):Zbk N l=ret l:=by
 grind [Zbk,Wx]
end
section
def Wxx(f:Y_Family)(k:Nat)(x:Y_KidRun):Y_Family:=U9 (Xg (Q9 f) k x) f
def again(f:Y_Family)(x:Y_KidRun):Y_KidRun:=(0,(0,(f.2.1,(x.2.2.2.1+1,(0,(0,(P4 f,([],([],([],(false,(0,(0,(0,0))))))))))))))
def Wqf(x:Y_KidRun)(c:Int):Pb:=bif P10 x then Q11 x else(c,(0,(0,0)))
def Wi3(m:Mm)(f:Y_Family)(x:Y_KidRun)(o:Int×Int×Int×Int):Y_Family×Y_KidRun:=
 match WaF (P8 x) o.2.2.1 with
 |some v=>(f,S6 (Xg (P6 x) (Xa o.2.1) v) (S1 (x.2.1+1) x))
 |none=>match ent (P6 f) o.2.2.1 with
  |some r=>bif decide (r.2.2.2>x.2.2.1)then(f,again f x)else(f,S7 (P7 x++ [r.2]) (S6 (Xg (P6 x) (Xa o.2.1) r.2.2.1) (S1 (x.2.1+1) x)))
  |none=>
   bif (WM m f.1 (Wqf x o.2.2.1)).2.1==4 then(S3 true f,U11 (WM m f.1 (Wqf x o.2.2.1)) (S10 true x))else
   bif (WM m f.1 (Wqf x o.2.2.1)).2.1==3 then(f,U14 0 (S13 0 (S12 0 (S11 0 (S10 false (S7 (P7 x++ [(o.2.2.1,((WM m f.1 (Wqf x o.2.2.1)).2.2.2,-1))]) (S6 (Xg (P6 x) (Xa o.2.1) (WM m f.1 (Wqf x o.2.2.1)).2.2.2) (S1 (x.2.1+1) x))))))))else
   (f,U11 (WM m f.1 (Wqf x o.2.2.1)) (S10 true x))
structure ReadOk(m:Mm)(f:Y_Family)(x:Y_KidRun)(o:Int×Int×Int×Int):Prop where
 mem:W3 m=true
 regs:(P6 x).length=4
 famr:(P4 f).length=4
 rA:0<=o.2.1/\o.2.1<=3
 cB:W8 o.2.2.1=true
 seen:(P7 x).length<=1000
 wr:(P8 x).length<=1000
 buf:(P6 f).length<=1000
 ver:∀e∈P6 f,0<=e.2.2
 since:0<=x.2.2.1
 pc:0<=x.2.1/\x.2.1<=1000
 tries:0<=x.2.2.2.1/\x.2.2.2.1<=100000
 pb:P10 x=true->Wk7 (Q11 x)=true
theorem ReadOk.pbO{m:Mm}{f:Y_Family}{x:Y_KidRun}{o:Int×Int×Int×Int}(h:ReadOk m f x o):Wk7 (Wqf x o.2.2.1)=true:=by
 unfold Wqf;cases hb:P10 x
 .have:=h.cB
  grind [Wk7,Wby]
 .exact h.pb hb
theorem WuK{x:Y_KidRun}(h:P10 x=true):S10 true x=x:=by rw[←h];rfl
theorem Wc2{a:Int}(h:0<=a/\a<=1000000):Wl .i64 a 1=a+1:=WH (by unfold I64;omega)
theorem rgI{r:List Int}{a:Int}(h:r.length=4)(ha:0<=a/\a<=3):inb a r.length=true:=by grind [inb]
theorem WeZ{N:Nat}{f:Y_Family}{k:Nat}{x:Y_KidRun}(hk:k<(Q9 f).length)(h:(P4 f).length=4)(ht:0<=x.2.2.2.1/\x.2.2.2.1<=100000):
  Zbf N (U9 (Xg (Q9 f) k x) f) (k:Int)=some ((Wxx f k (again f x),()),()):=by
 have e0:Zh N (P4 (U9 (Xg (Q9 f) k x) f))=ret (P4 f):=WbB (show(P4 f).length<=1048576 by omega);have e1:Q9 (U9 (Xg (Q9 f) k x) f)=Xg (Q9 f) k x:=rfl;have iO:k<(Xg (Q9 f) k x).length:=by simp_all
 unfold Zbf;rw[e0,e1];have e2:Xc (Xg (Q9 f) k x) (Xa (k:Int)) d_KidRun=x:=by simp_all
 rw[e2,Wq iO,Wc2 (by omega),Xi];simp only[We,ret,Xd,Xcq];rfl
theorem Wm6{N:Nat}{m:Mm}{f:Y_Family}{k:Nat}{o:Int×Int×Int×Int}(hk:k<(Q9 f).length)(h:ReadOk m f (Q9 f)[k] o)(hN:1048576<N):
  Zij N f (k:Int) o m=some ((Wxx (Wi3 m f (Q9 f)[k] o).1 k (Wi3 m f (Q9 f)[k] o).2,()),()):=by
 generalize hx:(Q9 f)[k]=x at h;have hw:=h.wr;have hs:=h.seen;have hb:=h.buf;have hr:=h.regs;have ex:Xc (Q9 f) (Xa (k:Int)) d_KidRun=x:=by rw[Wt hk,hx]
 unfold Zij Wi3;simp only[WA];rw[Wq hk,ex,Xi,We3 (show(P8 x).length<=1048576 by omega) hN,Wc2 (by have:=h.pc;omega)];rcases WaF (P8 x) o.2.2.1 with _|v
 .simp only[opI,Xd,Wc,We];have hE:Zci N (U9 (Xg (Q9 f) k x) f) o.2.2.1=ret (match ent (P6 f) o.2.2.1 with|some r=>(r.1:Int)|none=>-1):=Wf0 (f:=U9 (Xg (Q9 f) k x) f) (show(P6 f).length<=1048576 by omega) hN;rw[hE,WeZ hk h.famr h.tries];rcases he:ent (P6 f) o.2.2.1 with _|r
  .simp only[ret,Xd,show decide ((-1:Int)>=0)=false from rfl,Wc];have hp:=h.pbO;cases hc:P10 x
   .have dO:Wqf x o.2.2.1=(o.2.2.1,(0,(0,0))):=by grind [Wqf]
    have hn:Ze4 N o.2.2.1=some ((),((o.2.2.1,(0,(0,0))),(true,()))):=by
     unfold Ze4;simp only[WaM,ret,Xd,h.cB,Xv,Wc]
    rw[dO]at hp⊢;simp only[Bool.not_false,We,hn,Wfj h.mem hp hN,ret,Xd,rgI hr h.rA];generalize WM m f.1 (o.2.2.1,(0,(0,0)))=q;rw[Wx (by simp;omega)];cases q.2.1==4<;>cases q.2.1==3<;>rfl
   .have dO:Wqf x o.2.2.1=Q11 x:=by grind [Wqf]
    rw[dO]at hp⊢;simp only[Xv,Wc,Wfj h.mem hp hN,ret,Xd,rgI hr h.rA,We];generalize WM m f.1 (Q11 x)=q;rw[Wx (by simp;omega),WuK hc];cases q.2.1==4<;>cases q.2.1==3<;>rfl
  .have hm:=WcS he;have hi:r.1<(P6 f).length:=by omega
   have hg:(P6 f)[r.1]=r.2:=by
    simp_all
   have e2:decide (((r.1:Nat):Int)>=0)=true:=by simp
   simp only[ret,Xd,e2,We,Wq hi,rgI hr h.rA];rw[Wt hi,hg,Wx (by simp;omega)];cases decide (r.2.2.2>x.2.2.1)<;>rfl
 .simp only[opI,Xd,We,rgI hr h.rA];rfl
end
section
abbrev Opn:=Int×Int×Int×Int
def Wae(v:Int):Bool:=decide (0<=v)&&decide (v<=3)
def Weg(v:Int):Bool:=decide (0<=v)&&decide (v<=7)
theorem WnZ{N:Nat}{v:Int}:Zbx N v=ret (Wae v):=by
 unfold Zbx;simp only[WqD,ret,Xd];rfl
theorem Wom{N:Nat}{v:Int}:Zbz N v=ret (Wae v):=by
 unfold Zbz;simp only[W5,ret,Xd];rfl
theorem Wo1{N:Nat}{v:Int}:Zba N v=ret (Weg v):=by
 unfold Zba;simp only[W5,ret,Xd];rfl
def WcO(o:Opn):Bool:=
 bif o.1==1 then Wae o.2.1&&Wby o.2.2.1&&(o.2.2.2==(0:Int))else
 bif o.1==2 then Wae o.2.1&&Wae o.2.2.1&&Wae o.2.2.2 else
 bif o.1==3 then Wae o.2.1&&Wae o.2.2.1&&Wae o.2.2.2 else
 bif o.1==4 then Wae o.2.1&&Wae o.2.2.1&&Wae o.2.2.2 else
 bif o.1==5 then Wae o.2.1&&W8 o.2.2.1&&(o.2.2.2==(0:Int))else
 bif o.1==6 then W8 o.2.1&&Wae o.2.2.1&&(o.2.2.2==(0:Int))else
 bif o.1==7 then Wae o.2.1&&(decide (1<=o.2.2.1)&&decide (o.2.2.1<=20))&&(o.2.2.2==(0:Int))else
 bif o.1==8 then Wae o.2.1&&(o.2.2.1==(0:Int))&&(o.2.2.2==(0:Int))else
 bif o.1==9 then(o.2.1==(0:Int))&&(o.2.2.1==(0:Int))&&(o.2.2.2==(0:Int))else
 bif o.1==10 then(o.2.1==(0:Int))&&(o.2.2.1==(0:Int))&&(o.2.2.2==(0:Int))else
 bif o.1==11 then(o.2.1==(0:Int))&&(o.2.2.1==(0:Int))&&(o.2.2.2==(0:Int))else
 bif o.1==12 then Weg o.2.1&&Wae o.2.2.1&&Wae o.2.2.2 else
 bif o.1==13 then Wae o.2.1&&Weg o.2.2.1&&(o.2.2.2==(0:Int))else
 bif o.1==14 then Weg o.2.1&&Wae o.2.2.1&&(o.2.2.2==(0:Int))else
 bif o.1==15 then Wae o.2.1&&(o.2.2.1==(0:Int))&&(o.2.2.2==(0:Int))else
 bif o.1==16 then Wae o.2.1&&(o.2.2.1==(0:Int))&&(o.2.2.2==(0:Int))else
 false
abbrev Bo:=Option Kf
def oA(p k:Bo):Bo:=p.bind λo=>bif o.2.1 then k else some ((),(false,()))
def oB(p:Bo):Bo:=p.bind λo=>some ((),(o.2.1,()))
theorem o3{T P Q R:Bo}{p q r:Bool}(h:T=oA P (oA Q (oB R)))(hp:P=ret p)(hq:Q=ret q)(hr:R=ret r):T=ret (p&&q&&r):=by
 rw[h,hp,hq,hr];cases p<;>cases q<;>rfl
theorem z0(v:Int):(ret (v==(0:Int)):Bo)=ret (v==(0:Int)):=rfl
theorem sR(N:Nat)(v:Int):Zbx N v=ret (Wae v):=WnZ
theorem sV(N:Nat)(v:Int):Zgm N v=ret (Wby v):=WdR
theorem sC(N:Nat)(v:Int):Zic N v=ret (W8 v):=WmZ
theorem sK(N:Nat)(v:Int):Zb1 N v 0 7=ret (Weg v):=WqD
theorem sI(N:Nat)(v:Int):Zb1 N v 1 20=ret (decide (1<=v)&&decide (v<=20)):=WqD
theorem iR(N:Nat)(v:Int):Zbz N v=ret (Wae v):=Wom
theorem iV(N:Nat)(v:Int):Zaw N v=ret (Wby v):=WaC
theorem iC(N:Nat)(v:Int):Zbj N v=ret (W8 v):=WaM
theorem iK(N:Nat)(v:Int):Zba N v=ret (Weg v):=Wo1
theorem iI(N:Nat)(v:Int):Zo N v 1 20=ret (decide (1<=v)&&decide (v<=20)):=W5
def kds:List Int:=[1,2,3,4,5,6,7,8,9,10,11,12,13,14,15,16]
theorem Ww6{P:Int->Prop}(h1:P 1)(h2:P 2)(h3:P 3)(h4:P 4)(h5:P 5)(h6:P 6)(h7:P 7)(h8:P 8)(h9:P 9)(ci:P 10)(fA:P 11)(d9:P 12)(yv:P 13)(h14:P 14)(h15:P 15)(mZ:P 16)
  (h0:∀k,(∀i,i∈kds->(k==i)=false)->P k) (k:Int):P k:=by
 by_cases h:k∈kds
 .simp only[kds,Xq,List.not_mem_nil,or_false]at h;rcases h with h|h|h|h|h|h|h|h|h|h|h|h|h|h|h|h<;>rw[h]<;>assumption
 .exact h0 k λi hi=>by
   rw[beq_eq_false_iff_ne];intro e;exact h (e▸hi)
theorem Wcq{N:Nat}{o:Opn}:Zi4 N o=ret (WcO o):=by
 obtain⟨k,a,b,c⟩:=o;exact Ww6 (P:=λk=>Zi4 N (k,a,b,c)=ret (WcO (k,a,b,c)))
  (o3 (by kernel_rfl) (sR N a) (sV N b) (z0 c))
  (o3 (by kernel_rfl) (sR N a) (sR N b) (sR N c))
  (o3 (by kernel_rfl) (sR N a) (sR N b) (sR N c))
  (o3 (by kernel_rfl) (sR N a) (sR N b) (sR N c))
  (o3 (by kernel_rfl) (sR N a) (sC N b) (z0 c))
  (o3 (by kernel_rfl) (sC N a) (sR N b) (z0 c))
  (o3 (by kernel_rfl) (sR N a) (sI N b) (z0 c))
  (o3 (by kernel_rfl) (sR N a) (z0 b) (z0 c))
  (o3 (by kernel_rfl) (z0 a) (z0 b) (z0 c))
  (o3 (by kernel_rfl) (z0 a) (z0 b) (z0 c))
  (o3 (by kernel_rfl) (z0 a) (z0 b) (z0 c))
  (o3 (by kernel_rfl) (sK N a) (sR N b) (sR N c))
  (o3 (by kernel_rfl) (sR N a) (sK N b) (z0 c))
  (o3 (by kernel_rfl) (sK N a) (sR N b) (z0 c))
  (o3 (by kernel_rfl) (sR N a) (z0 b) (z0 c))
  (o3 (by kernel_rfl) (sR N a) (z0 b) (z0 c))
  (λk e=>by unfold Zi4 WcO;simp(disch:=decide) only[e,Wc,WA]) k
theorem Wfq{N:Nat}{o:Opn}:Zhc N o=ret (WcO o):=by
 obtain⟨k,a,b,c⟩:=o;exact Ww6 (P:=λk=>Zhc N (k,a,b,c)=ret (WcO (k,a,b,c)))
  (o3 (by kernel_rfl) (iR N a) (iV N b) (z0 c))
  (o3 (by kernel_rfl) (iR N a) (iR N b) (iR N c))
  (o3 (by kernel_rfl) (iR N a) (iR N b) (iR N c))
  (o3 (by kernel_rfl) (iR N a) (iR N b) (iR N c))
  (o3 (by kernel_rfl) (iR N a) (iC N b) (z0 c))
  (o3 (by kernel_rfl) (iC N a) (iR N b) (z0 c))
  (o3 (by kernel_rfl) (iR N a) (iI N b) (z0 c))
  (o3 (by kernel_rfl) (iR N a) (z0 b) (z0 c))
  (o3 (by kernel_rfl) (z0 a) (z0 b) (z0 c))
  (o3 (by kernel_rfl) (z0 a) (z0 b) (z0 c))
  (o3 (by kernel_rfl) (z0 a) (z0 b) (z0 c))
  (o3 (by kernel_rfl) (iK N a) (iR N b) (iR N c))
  (o3 (by kernel_rfl) (iR N a) (iK N b) (z0 c))
  (o3 (by kernel_rfl) (iK N a) (iR N b) (z0 c))
  (o3 (by kernel_rfl) (iR N a) (z0 b) (z0 c))
  (o3 (by kernel_rfl) (iR N a) (z0 b) (z0 c))
  (λk e=>by unfold Zhc WcO;simp(disch:=decide) only[e,Wc,WA]) k
end
section
def WnU{α:Type}(p:Nat->α->Bool):Nat->List α->Bool
 |_,[]=>false
 |j,x::l=>p j x||WnU p (j+1) l
theorem WdH{α V R:Type}{body:Int->α->V->(V->Option R)->Option R}{K:Int->V->Option R}{p:Nat->α->Bool}{E:V->Option R}:∀(l:List α) (j:Nat) (v:V),(∀(j:Nat) x v k,x∈l->body j x v k=bif p j x then E v else k v)->
  Wcf body K l j v=bif WnU p j l then E v else K ((j+l.length:Nat):Int) v
 | [],j,v,_=>rfl
 |x::l,j,v,h=>by
  rw[Wcf,h j x v _ (Xk ..),WdH l (j+1) v λj y v k hy=>h j y v k (Xf _ hy),WnU]
  grind
theorem We9{α:Type}{p:Nat->α->Bool}:∀{l:List α} {j:Nat},WnU p j l=true↔∃i,∃h:i<l.length,p (j+i) l[i]=true
 | [],j=>by simp[WnU]
 |x::l,j=>by
  rw[WnU,Xck,We9];constructor
  .rintro(h|⟨i,hi,h⟩)
   .exact⟨0,by simp,by grind⟩
   .exact⟨i+1,by simp_all,by grind⟩
  grind
def opd(o:Opn):Int:=bif o.1==8 then 1 else bif o.1==9 then-1 else 0
theorem WhL(o:Opn):-1<=opd o/\opd o<=1:=by unfold opd;cases o.1==8<;>cases o.1==9<;>simp
def dep(l:List Opn)(j:Nat):Int:=((l.take j).map opd).sum
theorem Wdr(l:List Opn):dep l 0=0:=by simp[dep]
theorem Waq{l:List Opn}{j:Nat}(h:j<l.length):dep l (j+1)=dep l j+opd l[j]:=by
 grind [dep,Xbh]
theorem Wn{α:Type}{l:List α}{j:Nat}(h:j<l.length)(d:α):Xc l j d=l[j]:=by simp[h]
theorem WcN(l:List Opn):∀j:Nat,-(j:Int)<=dep l j/\dep l j<=j
 |0=>by simp[dep]
 |j+1=>by
  have ih:=WcN l j;by_cases h:j<l.length
  .have:=WhL l[j]
   grind [Waq]
  grind [dep,List.take_of_length_le]
def bal(l:List Opn):Bool:=!WnU (λj _=>decide (dep l (j+1)<0)) 0 l&&decide (dep l l.length=0)
theorem Wgm{N:Nat}{o:Opn}:Zjm N o=ret (opd o):=by
 unfold Zjm opd;cases o.1==8<;>cases o.1==9<;>rfl
theorem Wxo(x:Int):(x==(0:Int))=decide (x=0):=by by_cases h:x=0<;>simp[h]
theorem WiD{N:Nat}{l:List Opn}(hl:l.length<=1048576)(hN:1048576<N):Zdb N l=ret (bal l):=by
 unfold Zdb bal;have h1:=WR (l:=l) (V:=Unit) (R:=Unit×Kq) (lp:=λn j _=>Zb0 N l (some ((),(false,()))) (λwm bi jL=>some ((),(wm==(0:Int),()))) n (dep l j.toNat) j) (n:=N) (by omega)
  (body:=λj _ v k=>bif decide (dep l (j.toNat+1)<0)then some ((),(false,()))else k v) (K:=λj _=>some ((),(dep l j.toNat==(0:Int),())))
  (λn i v hi=>by
   have hb:=WcN l i;have hs:=Waq hi;have ho:=WhL l[i];have e:Wl .i64 (dep l i) (opd l[i])=dep l (i+1):=by rw[WH (by unfold I64;omega),hs]
   simp only[Zb0,W2 hi,Wq hi,Wt hi,Wn hi,Wp (show i<4611686018427387904 by omega),We,Wgm,ret,Xd,Xi,e])
  (λn v=>by simp[Zb0,Wat,Xn,Wc]) ()
 have e0:dep l (Xa 0)=0:=Wdr l;simp only[e0]at h1;refine h1.trans ?_;rw[WdH (p:=λj _=>decide (dep l (j+1)<0)) (E:=λ_=>some ((),(false,()))) l 0 () (λj x v k _=>rfl)];rw[Xaz,Xi,Wxo];cases WnU (λj _=>decide (dep l (j+1)<0)) 0 l<;>rfl
theorem WlO{N:Nat}{l:List Opn}(hl:l.length<=1048576)(hN:1048576<N){i:Nat}(hi:i<=l.length):Zhf N l (i:Int)=ret (dep l i):=by
 unfold Zhf;have h1:=WR (l:=l) (V:=Unit) (R:=Unit×Kj) (lp:=λn j _=>Zb4 N (i:Int) l (λri cn jd=>some ((),(ri,()))) n (dep l (min j.toNat i)) j) (n:=N) (by omega)
  (body:=λj _ v k=>k v) (K:=λj _=>some ((),(dep l (min j.toNat i),())))
  (λn j v hj=>by
   have hb:=WcN l j;have ho:=WhL l[j];simp only[Zb4,W2 hj,Wq hj,Wt hj,Wn hj,Wp (show j<4611686018427387904 by omega),We,Wgm,ret,Xd,Xi]
   grind [decide,min,Wl,dep,opd,WH,I64,Waq])
  (λn v=>by simp[Zb4,Wat,Xn,Wc]) ()
 have e0:dep l (min (Xa 0) i)=0:=by
  simp[min,Xa,Wdr]
 simp only[e0]at h1;refine h1.trans ?_;rw[Whb (f:=λv _=>v) l 0 () (λj x v k _=>rfl),Xaz,Xi,Nat.min_eq_right hi]
theorem WnW{N:Nat}{l:List Opn}{a b:Nat}(fT:a<=b)(hb:b<=l.length)(hl:l.length<=1048576)(hN:1048576<N):
  Za4 N l (b:Int) (some ((),(false,()))) (λsO q7 aT=>some ((),(sO==(0:Int),()))) N 0 (a:Int)=ret (bal ((l.take b).drop a)):=by
 have hlen:((l.take b).drop a).length=b-a:=by simp;omega
 unfold bal;have h1:=WR (l:=(l.take b).drop a) (V:=Unit) (R:=Unit×Kq) (lp:=λn j _=>Za4 N l (b:Int) (some ((),(false,()))) (λsO q7 aT=>some ((),(sO==(0:Int),()))) n (dep ((l.take b).drop a) j.toNat) ((a+j.toNat:Nat):Int)) (n:=N) (by omega)
  (body:=λj _ v k=>bif decide (dep ((l.take b).drop a) (j.toNat+1)<0)then some ((),(false,()))else k v) (K:=λj _=>some ((),(dep ((l.take b).drop a) j.toNat==(0:Int),())))
  (λn i v hi=>by
   have hb':=WcN ((l.take b).drop a) i;have hs:=Waq hi;have ei:((l.take b).drop a)[i]=l[a+i]:=by simp
   rw[ei]at hs;have eY:a+i<l.length:=by omega
   have e1:decide (((a+i:Nat):Int)<(b:Int))=true:=by simp;omega
   have e2:Wl .i64 ((a+i:Nat):Int) 1=((a+(i+1):Nat):Int):=by grind [WH,I64]
   have e3:Wl .i64 (dep ((l.take b).drop a) i) 1=dep ((l.take b).drop a) i+1:=WH (by unfold I64;omega);have e4:Ws .i64 (dep ((l.take b).drop a) i) 1=dep ((l.take b).drop a) i+ -1:=by grind [Wah,I64]
   simp only[Za4,e1,Wq eY,Wt eY,Wn eY,e2,e3,e4,We,Xi];unfold opd at hs
   grind)
  (λn v=>by
   have e1:decide (((a+(((l.take b).drop a).length:Int).toNat:Nat):Int)<(b:Int))=false:=by simp_all
   simp only[Za4,e1,Wc]) ()
 have e0:dep ((l.take b).drop a) (Xa 0)=0:=Wdr _;simp only[e0]at h1;refine h1.trans ?_;rw[WdH (p:=λj _=>decide (dep ((l.take b).drop a) (j+1)<0)) (E:=λ_=>some ((),(false,()))) _ 0 () (λj x v k _=>rfl)];rw[Xaz,Xi,Wxo];cases WnU (λj _=>decide (dep ((l.take b).drop a) (j+1)<0)) 0 ((l.take b).drop a)<;>rfl
def Wgz(l:List Opn)(i:Nat)(o:Opn):Bool:=decide (i+1+o.2.2.1.toNat<=l.length)&&bal ((l.take (i+1+o.2.2.1.toNat)).drop (i+1))
def frk(l:List Opn)(j:Nat):Nat:=(l.take j).countP λo=>o.1==11
theorem Wc1{l:List Opn}{j:Nat}(h:j<l.length):frk l (j+1)=frk l j+(l[j].1==11).toNat:=by
 unfold frk;rw[Xbh h,List.countP_append,List.countP_singleton];cases l[j].1==11<;>rfl
theorem Wvg(l:List Opn)(j:Nat):frk l j<=l.length:=Xcr Xgh (by simp;omega)
def Wvp(l:List Opn)(i:Nat)(o:Opn):Bool:=
 !WcO o||((o.1==7)&& !Wgz l i o)||((o.1==11)&&(decide (dep l i>0)||decide (frk l (i+1)>1)))||decide (dep l (i+1)<0)
def Wno(l:List Opn)(i:Nat)(o:Opn):Bool:=
 !WcO o||((o.1==7)&& !Wgz l i o)||((o.1==11)&&(decide (frk l (i+1)>1)|| !decide (dep l i=0)))
def WpC(l:List Opn):Bool:=decide (l.length<=24)&&(bal l&& !WnU (Wno l) 0 l)
theorem WpJ{l:List Opn}{i:Nat}{o:Opn}(hl:l.length<=24)(hi:i<l.length)(ho:WcO o=true)(h7:o.1=7):
  Wl .i64 ((i+1:Nat):Int) o.2.2.1=((i+1+o.2.2.1.toNat:Nat):Int)/\1<=o.2.2.1/\o.2.2.1<=20:=by
 obtain⟨k,a,b,c⟩:=o;simp only at h7;subst h7;have:(Wae a&&(decide (1<=b)&&decide (b<=20))&&(c==(0:Int)))=true:=ho;simp only[Xj,Wh]at this
 grind [WH,I64]
theorem WmB{N:Nat}{l:List Opn}{i:Nat}(hl:l.length<=24)(hN:1048576<N)(hi:i<l.length)(ho:WcO l[i]=true)(h7:l[i].1=7):Zid N l (i:Int)=ret (Wgz l i l[i]):=by
 obtain⟨e1,h1,h2⟩:=WpJ hl hi ho h7;unfold Zid Wgz;simp only[Wq hi,We,Wt hi,Wn hi,e1,Wp (show i<4611686018427387904 by omega)];by_cases h:i+1+l[i].2.2.1.toNat<=l.length
 .have e:decide (((i+1+l[i].2.2.1.toNat:Nat):Int)>Wi l)=false:=by simp[Wi];omega
  rw[e];simp only[Wc];rw[WnW (by omega) h (by omega) hN];simp[h]
 grind [decide,Wi]
theorem WlA{l:List Opn}:bal l=true↔(∀i,i<l.length->0<=dep l (i+1))/\dep l l.length=0:=by
 unfold bal;rw[Xj,Xan,←Xfx,We9,Wh];simp_all
theorem Wmp(l:List Opn):(!WnU (Wvp l) 0 l&&decide (dep l l.length=0))=(bal l&& !WnU (Wno l) 0 l):=by
 rw[Bool.eq_iff_iff,Xj,Xj,Xan,Xan,←Xfx,←Xfx,We9,We9,WlA,Wh];constructor
 .rintro⟨h1,h2⟩;have hd:∀i,i<l.length->0<=dep l (i+1):=λi hi=>by
   grind [dep,absurd,Wvp]
  refine⟨⟨hd,h2⟩,?_⟩;rintro⟨i,hi,h⟩;refine h1 ⟨i,hi,?_⟩;have hdi:0<=dep l i:=by
   cases i with
   |zero=>rw[Wdr];omega
   |succ i=>grind
  rw[Xaz]at h⊢;unfold Wno at h;unfold Wvp
  grind
 simp_all [Xaz,Wvp,Wno,Xck,Xj,Wh,Xan,Wv]
theorem WhS{N:Nat}{l:List Opn}(hl:l.length<=1048576)(hN:1048576<N):Zg0 N l=ret (WpC l):=by
 unfold Zg0 WpC;by_cases h:l.length<=24
 .have e:decide (Wi l>24)=false:=by simp[Wi];omega
  rw[e];simp only[Wc];have h1:=WR (l:=l) (V:=Unit) (R:=Unit×Kq) (lp:=λn j _=>Za5 N l (some ((),(false,()))) (λwj mI yW eU=>some ((),(wj==(0:Int),()))) n (dep l j.toNat) ((frk l j.toNat:Nat):Int) j) (n:=N) (by omega)
   (body:=λj x v k=>bif Wvp l j.toNat x then some ((),(false,()))else k v) (K:=λj _=>some ((),(dep l j.toNat==(0:Int),())))
   (λn i v hi=>by
    have hb:=WcN l i;have hs:=Waq hi;have hf:=Wc1 hi;have iv:=Wvg l i;have e3:Wl .i64 (dep l i) 1=dep l i+1:=WH (by unfold I64;omega);have e4:Ws .i64 (dep l i) 1=dep l i+ -1:=by grind [Wah,I64]
    have e5:Wl .i64 ((frk l i:Nat):Int) 1=((frk l i+1:Nat):Int):=by grind [WH,I64]
    simp only[Za5,W2 hi,Wq hi,Wt hi,Wn hi,Wp (show i<4611686018427387904 by omega),We,Xi,Wcq,ret,Xd,e3,e4,e5];unfold Wvp;cases ho:WcO l[i]with
    |false=>rfl
    |true=>
     unfold opd at hs;simp only[Xv,Wc,Xfk];by_cases h8:l[i].1=8
     .simp_all
     .have b8:(l[i].1==8)=false:=by simp[h8]
      by_cases h9:l[i].1=9
      .simp_all
      .have b9:(l[i].1==9)=false:=by simp[h9]
       by_cases h7:l[i].1=7
       .have b7:(l[i].1==7)=true:=by simp[h7]
        have bN:(l[i].1==11)=false:=by simp[h7]
        have BJ:=WmB h hN hi ho h7;simp only[b8,b9,b7,bN,We,Wc,Xfu,Xbb,Xfd,Xch,Bool.or_false,Int.add_zero,BJ,ret,Xd]at hs hf⊢;simp only[hs,hf];cases Wgz l i l[i]<;>rfl
       grind)
   (λn v=>by simp[Za5,Wat,Xn,Wc]) ()
  have e0:dep l (Xa 0)=0:=Wdr l;have e1:((frk l (Xa 0):Nat):Int)=0:=by simp[frk]
  simp only[e0,e1]at h1;refine h1.trans ?_;rw[WdH (p:=Wvp l) (E:=λ_=>some ((),(false,()))) l 0 () (λj x v k _=>by rw[Xi])];rw[Xaz,Xi,Wxo,←Wmp];simp only[h,decide_true,Xch];cases WnU (Wvp l) 0 l<;>rfl
 grind [decide,Wi]
theorem WhG{N:Nat}{l:List Opn}(hl:l.length<=1048576)(hN:1048576<N):Zc0 N l=ret (WpC l):=by
 unfold Zc0 WpC;by_cases h:l.length<=24
 .have e:decide (Wi l>24)=false:=by simp[Wi];omega
  rw[e];simp only[Wc,WiD hl hN,ret,Xd,h,decide_true,Xch];cases tT:bal l with
  |false=>rfl
  |true=>
   simp only[Xv,Wc,Xch];have h1:=WR (l:=l) (V:=Unit) (R:=Unit×Kq) (lp:=λn j _=>Zbv N l (some ((),(false,()))) (λmK iA t22=>some ((),(true,()))) n ((frk l j.toNat:Nat):Int) j) (n:=N) (by omega)
    (body:=λj x v k=>bif Wno l j.toNat x then some ((),(false,()))else k v) (K:=λj _=>some ((),(true,())))
    (λn i v hi=>by
     have hf:=Wc1 hi;have iv:=Wvg l i;have e5:Wl .i64 ((frk l i:Nat):Int) 1=((frk l i+1:Nat):Int):=by grind [WH,I64]
     simp only[Zbv,W2 hi,Wq hi,Wt hi,Wn hi,We,Xi,Wfq,ret,Xd,e5];unfold Wno;cases ho:WcO l[i]with
     |false=>rfl
     |true=>
      simp only[Xv,Wc,Xfk];by_cases h7:l[i].1=7
      .have b7:(l[i].1==7)=true:=by simp[h7]
       have bN:(l[i].1==11)=false:=by simp[h7]
       obtain⟨en,h1,h2⟩:=WpJ h hi ho h7;simp only[b7,bN,We,en,Wp (show i<4611686018427387904 by omega),Xfu,Xbb,Xfd,Xch,Bool.or_false]at hf⊢;simp only[hf];unfold Wgz;by_cases hq:i+1+l[i].2.2.1.toNat<=l.length
       .have q1:decide (((i+1+l[i].2.2.1.toNat:Nat):Int)>Wi l)=false:=by simp[Wi];omega
        have q2:(((decide ((0:Int)<=((i+1+l[i].2.2.1.toNat:Nat):Int)))&&(decide (((i+1+l[i].2.2.1.toNat:Nat):Int)<=((Xb l):Int))))&&(decide ((0:Int)<=((i+1:Nat):Int)))&&(decide (((i+1:Nat):Int)<=((i+1+l[i].2.2.1.toNat:Nat):Int))))=true:=by simp;omega
        rw[q1,q2];simp only[Wc,We,Xi];rw[WiD (by simp;omega) hN];simp_all
       grind [decide,Wi]
      .have b7:(l[i].1==7)=false:=by simp[h7]
       by_cases fA:l[i].1=11
       .have bN:(l[i].1==11)=true:=by simp[fA]
        simp only[b7,bN,We,Wc,Bool.toNat_true,Xfd,Xch,Xfk,WlO hl hN (Nat.le_of_lt hi),ret,Xd,Wp (show i<4611686018427387904 by omega)]at hf⊢;simp only[hf];have ef:decide (((frk l i+1:Nat):Int)>1)=decide (frk l i+1>1):=by grind
        have e0:(dep l i !=0)= !decide (dep l i=0):=by rw[bne,Wxo]
        rw[ef,e0];cases decide (frk l i+1>1)<;>cases decide (dep l i=0)<;>rfl
       .have bN:(l[i].1==11)=false:=by simp[fA]
        simp only[b7,bN,We,Wc,Xfu,Xbb,Xfd,Xfk,Wp (show i<4611686018427387904 by omega)]at hf⊢;simp_all)
    (λn v=>by simp[Zbv,Wat,Xn,Wc]) ()
   have e1:((frk l (Xa 0):Nat):Int)=0:=by simp[frk]
   simp only[e1]at h1;refine h1.trans ?_;rw[WdH (p:=Wno l) (E:=λ_=>some ((),(false,()))) l 0 () (λj x v k _=>by rw[Xi])];cases WnU (Wno l) 0 l<;>rfl
 grind [decide,Wi]
end
section
def stk(l:List Opn):Nat->List Nat
 |0=>[]
 |j+1=>bif (l.getD j (0,0,0,0)).1==8 then stk l j++ [j]else bif (l.getD j (0,0,0,0)).1==9 then(stk l j).dropLast else stk l j
theorem WjH{l:List Opn}{j:Nat}(h:j<l.length)(h8:l[j].1=8):stk l (j+1)=stk l j++ [j]:=by
 grind [stk,Wn]
theorem WkN{l:List Opn}{j:Nat}(h:j<l.length)(h9:l[j].1=9):stk l (j+1)=(stk l j).dropLast:=by
 grind [stk,Wn]
theorem Wev{l:List Opn}{j:Nat}(h:j<l.length)(h8:l[j].1≠8)(h9:l[j].1≠9):stk l (j+1)=stk l j:=by
 grind [stk,Wn]
theorem WrA{o:Opn}(h:o.1=8):opd o=1:=by unfold opd;simp[h]
theorem WkV{o:Opn}(h:o.1=9):opd o= -1:=by unfold opd;simp[h]
theorem WuU{o:Opn}(h8:o.1≠8)(h9:o.1≠9):opd o=0:=by
 grind [opd]
theorem Wa8{α:Type}(l:List α):l= []\/∃q x,l=q++ [x]:=by
 rcases List.eq_nil_or_concat l with h|⟨q,x,h⟩
 .grind
 simp_all
def Up(l:List Opn):Prop:=∀i,i<l.length->0<=dep l (i+1)
theorem Up.at{l:List Opn}(h:Up l){j:Nat}(hj:j<=l.length):0<=dep l j:=by
 cases j with
 |zero=>rw[Wdr];omega
 |succ j=>exact h j hj
theorem WaV{l:List Opn}(h:Up l):∀j,j<=l.length->((stk l j).length:Int)=dep l j
 |0,_=>by rw[Wdr];rfl
 |j+1,hj=>by
  have hj':j<l.length:=hj;have ih:=WaV h j (by omega);have hd:=Waq hj';have hu:=h j hj'
  grind [WjH,WrA,Xs,WkN,WkV,Xdm,Wev,WuU]
theorem Wii{l:List Opn}:∀(j:Nat),j<=l.length->∀(s t:List Nat) (m:Nat),stk l j=s++m::t->
  m<j/\(∃h:m<l.length,l[m].1=8)/\stk l m=s/\∀i,m<i->i<=j->∃t',stk l i=s++m::t'
 |0,_,s,t,m,h=>by simp[stk]at h
 |j+1,hj,s,t,m,h=>by
  have hj':j<l.length:=hj;have ih:=Wii (l:=l) j (by omega);have next:∀t0,stk l j=s++m::t0->m<j+1/\(∃h:m<l.length,l[m].1=8)/\stk l m=s/\∀i,m<i->i<=j+1->∃t',stk l i=s++m::t':=λt0 h0=>by
   grind
  by_cases h8:l[j].1=8
  .rw[WjH hj' h8]at h;rcases Wa8 t with rfl|⟨t0,x,rfl⟩
   .obtain⟨e1,e2⟩:=Xeg (h:stk l j++ [j]=s++ [m]) rfl
    grind [WjH]
   .have h2:stk l j++ [j]=(s++m::t0)++ [x]:=by rw[h,Xbn,Xax]
    obtain⟨e1,e2⟩:=Xeg h2 rfl
    grind [stk,WjH]
  .by_cases h9:l[j].1=9
   .rw[WkN hj' h9]at h;rcases Wa8 (stk l j)with h0|⟨q,x,hq⟩
    .simp_all
    simp_all
   grind [Wev]
theorem Wk1{l:List Opn}{a b:Nat}(fT:a<=b)(hb:b<=l.length)(tT:bal ((l.take b).drop a)=true):stk l b=stk l a:=by
 obtain⟨h1,h2⟩:=WlA.1 tT;have hlen:((l.take b).drop a).length=b-a:=by simp;omega
 have key:∀i,i<=b-a->∃t,stk l (a+i)=stk l a++t/\(t.length:Int)=dep ((l.take b).drop a) i:=by
  intro i
  induction i with
  |zero=>simp[Wdr]
  |succ i ih=>
   intro hi;obtain⟨t,BK,BL⟩:=ih (by omega);have eY:a+i<l.length:=by omega
   have oM:i<((l.take b).drop a).length:=by omega
   have hd:=Waq oM;have ei:((l.take b).drop a)[i]=l[a+i]:=by simp
   rw[ei]at hd;have hu:=h1 i oM;by_cases h8:l[a+i].1=8
   .grind [Xba,WjH,WrA,Xs]
   .by_cases h9:l[a+i].1=9
    .grind [WkV,Xba,WkN,List.dropLast_append_of_ne_nil,Xdm]
    grind [Xba,Wev,WuU]
 obtain⟨t,BK,BL⟩:=key (b-a) (Xn _);simp_all
structure Mate(l:List Opn)(m k:Nat):Prop where
 lt:m<k
 len:k<l.length
 eq:dep l (k+1)=dep l m
 ne:∀i,m<=i->i<k->dep l (i+1)≠dep l m
 st:stk l (k+1)=stk l m
theorem WrN{l:List Opn}(hu:Up l)(h0:dep l l.length=0){j m:Nat}{s:List Nat}(hj:j<=l.length)(hs:stk l j=s++ [m]):∃k,j<=k/\Mate l m k/\stk l m=s:=by
 obtain⟨a,⟨hm,h8⟩,c,d⟩:=Wii j hj s [] m hs;have xG:=WaV hu m (by omega);have low:∀i,m<=i->i<j->dep l (i+1)≠dep l m:=λi h1 h2=>by
  grind [WaV]
 have fB:=hu.at (show m<=l.length by omega);have ex:∀n i,l.length-i=n->j<=i->i<=l.length->(∀i',m<=i'->i'<i->dep l (i'+1)≠dep l m)->dep l m<dep l i->∃k,j<=k/\k<l.length/\dep l (k+1)=dep l m/\∀i',m<=i'->i'<k->dep l (i'+1)≠dep l m:=by
  intro n
  induction n with
  |zero=>grind
  |succ n ih=>
   intro i h1 h2 h3 h4 h5;have eY:i<l.length:=by omega
   by_cases he:dep l (i+1)=dep l m
   .grind
   .have hd:=Waq eY;have ho:=WhL l[i]
    grind
 have mA:dep l m<dep l j:=by
  grind [WaV]
 obtain⟨k,k1,k2,k3,k4⟩:=ex _ j rfl (Xn _) hj low mA;have kz:m<k:=by omega
 have pre:∀n i,i=m+1+n->i<=k->∃t,stk l i=s++m::t:=by
  intro n
  induction n with
  |zero=>grind
  |succ n ih=>
   intro i h1 h2;obtain⟨t,ht⟩:=ih (m+1+n) rfl (by omega);have e:i=(m+1+n)+1:=by omega
   have eY:m+1+n<l.length:=by omega
   by_cases g8:l[m+1+n].1=8
   .grind [WjH]
   .by_cases g9:l[m+1+n].1=9
    .rcases Wa8 t with rfl|⟨t0,x,rfl⟩
     .grind [WkN,stk,WaV]
     grind [WkN,Xdp]
    grind [Wev]
 obtain⟨t,ht⟩:=pre (k-m-1) k (by omega) (Xn _);have zU:=WaV hu k (by omega);have BM:=Waq k2;rw[ht]at zU;rw[c]at xG;simp at zU;have aV:=WhL l[k];have g9:l[k].1=9:=by
  grind [WrA,WuU]
 have BN:t= []:=List.eq_nil_of_length_eq_zero (by omega);subst BN;refine⟨k,k1,⟨kz,k2,k3,k4,?_⟩,c⟩
 grind [WkN]
theorem WlD{l:List Opn}{m i:Nat}:((dep l (i+1) -dep l m)==(0:Int))=decide (dep l (i+1)=dep l m):=by
 grind
theorem Wi0{N:Nat}{l:List Opn}{m k:Nat}(hl:l.length<=1048576)(hN:1048576<N)(h8:∃h:m<l.length,l[m].1=8)(hm:Mate l m k):Zcs N l (m:Int)=ret (k:Int):=by
 obtain⟨ja,h8⟩:=h8;unfold Zcs;have e1:Ws .i64 (Wi l) 1=(l.length:Int) -1:=Wah (by unfold I64 Wi;omega);have e2:(decide (0<=(m:Int))&&decide ((m:Int)<=(l.length:Int) -1))=true:=by simp;omega
 have e3:(l[m].1 !=8)=false:=by simp[h8]
 simp only[W5,ret,Xd,e1,e2,Xv,Wc,Wq ja,We,Wt ja,e3];have key:∀(c n i:Nat),k-i=c->m<=i->i<=k->l.length-i<n->∀{R:Type} (K0:Int->Option R) (K1:Int->Int->Bool->Option R),Zd9 N l K0 K1 n (dep l i-dep l m) (i:Int)=K0 k:=by
  intro c
  induction c with
  |zero=>
   intro n i h1 h2 h3 h4 R K0 K1;have:i=k:=by omega
   subst this;cases n with
   |zero=>omega
   |succ n=>
    have eY:=hm.len;have hd:=Waq eY;have hb:=WcN l i;have kD:=WcN l m;have ho:=WhL l[i];have e:Wl .i64 (dep l i-dep l m) (opd l[i])=dep l (i+1) -dep l m:=by grind [WH,I64]
    simp only[Zd9,W2 eY,Wq eY,Wt eY,We,Wgm,ret,Xd,e];rw[WlD];simp[hm.eq]
  |succ c ih=>
   intro n i h1 h2 h3 h4 R K0 K1;cases n with
   |zero=>omega
   |succ n=>
    have hk:=hm.len;have eY:i<l.length:=by omega
    have hd:=Waq eY;have hb:=WcN l i;have kD:=WcN l m;have ho:=WhL l[i];have e:Wl .i64 (dep l i-dep l m) (opd l[i])=dep l (i+1) -dep l m:=by grind [WH,I64]
    have hne:=hm.ne i h2 (by omega);simp only[Zd9,W2 eY,Wq eY,Wt eY,We,Wgm,ret,Xd,e,WlD,hne,decide_false,Wc,Wp (show i<4611686018427387904 by omega)];exact ih n (i+1) (by omega) (by omega) (by omega) (by omega) K0 K1
 have:=key (k-m) N m rfl (Xn _) (by have:=hm.lt;omega) (by omega) (R:=Unit×Kj) (λbi=>some ((),(bi,()))) (λri nK jd=>some ((),((-1:Int),())));simp_all
theorem WiO{N:Nat}{l:List Opn}{m k:Nat}(hl:l.length<=1048576)(hN:1048576<N)(h8:∃h:m<l.length,l[m].1=8)(hm:Mate l m k):Zjl N l (m:Int)=ret (k:Int):=by
 obtain⟨ja,h8⟩:=h8;unfold Zjl;have e1:decide ((m:Int)<0)=false:=by simp
 have e2:decide ((m:Int)>=Wi l)=false:=by simp[Wi];omega
 have e3:(l[m].1 !=8)=false:=by simp[h8]
 simp only[e1,e2,Wc,Wq ja,We,Wt ja,e3];have step:∀(n i:Nat) (eY:i<l.length) {R:Type} (K0:Int->Option R) (K1:Int->Int->Bool->Option R),m<=i->Za9 N l K0 K1 (n+1) (dep l i-dep l m) (i:Int)=
   bif decide (dep l (i+1)=dep l m)then K0 i else Za9 N l K0 K1 n (dep l (i+1) -dep l m) ((i+1:Nat):Int):=by
  intro n i eY R K0 K1 uK;have hd:=Waq eY;have hb:=WcN l i;have kD:=WcN l m;have s1:Wl .i64 (dep l i-dep l m) 1=dep l i-dep l m+1:=WH (by unfold I64;omega);have s2:Ws .i64 (dep l i-dep l m) 1=dep l i-dep l m-1:=Wah (by unfold I64;omega);simp only[Za9,W2 eY,Wq eY,Wt eY,We,Wp (show i<4611686018427387904 by omega),s1,s2];by_cases g8:l[i].1=8
  .have b8:(l[i].1==8)=true:=by simp[g8]
   have b9:(l[i].1==9)=false:=by simp[g8]
   have e:dep l i-dep l m+1=dep l (i+1) -dep l m:=by grind [WrA]
   grind
  .have b8:(l[i].1==8)=false:=by simp[g8]
   by_cases g9:l[i].1=9
   .have b9:(l[i].1==9)=true:=by simp[g9]
    have e:dep l i-dep l m-1=dep l (i+1) -dep l m:=by grind [WkV]
    grind
   .have b9:(l[i].1==9)=false:=by simp[g9]
    have e:dep l i-dep l m=dep l (i+1) -dep l m:=by grind [WuU]
    simp only[b8,b9,We,Wc];rw[e,WlD]
 have key:∀(c n i:Nat),k-i=c->m<=i->i<=k->l.length-i<n->∀{R:Type} (K0:Int->Option R) (K1:Int->Int->Bool->Option R),Za9 N l K0 K1 n (dep l i-dep l m) (i:Int)=K0 k:=by
  intro c
  induction c with
  |zero=>
   intro n i h1 h2 h3 h4 R K0 K1;have:i=k:=by omega
   subst this;cases n with
   |zero=>omega
   |succ n=>rw[step n i hm.len K0 K1 h2];simp[hm.eq]
  |succ c ih=>
   intro n i h1 h2 h3 h4 R K0 K1;cases n with
   |zero=>omega
   |succ n=>
    have hk:=hm.len;have hne:=hm.ne i h2 (by omega);rw[step n i (by omega) K0 K1 h2];simp only[hne,decide_false,Wc];exact ih n (i+1) (by omega) (by omega) (by omega) (by omega) K0 K1
 have:=key (k-m) N m rfl (Xn _) (by have:=hm.lt;omega) (by omega) (R:=Unit×Kj) (λbi=>some ((),(bi,()))) (λri nK jd=>some ((),((-1:Int),())));simp_all
end
section
theorem WpO{N:Nat}{o:Opn}:∃t:Int,Zby N o=ret t/\Zhe N o=ret t:=by
 unfold Zby Zhe;rw[Wcq,Wfq];simp only[ret,Xd];cases WcO o
 .simp_all
 .cases o.1==5<;>cases o.1==6<;>cases o.1==12<;>cases o.1==13<;>cases o.1==14<;>cases o.1==15<;>cases o.1==16<;>exact⟨_,rfl,rfl⟩
noncomputable def WiT(o:Opn):Int:=match Zby 0 o with|some (_,(t,_))=>t|none=>0
theorem Wxf{N:Nat}{o:Opn}:Zby N o=Zby 0 o:=by
 unfold Zby;rw[Wcq,Wcq]
theorem WcX{N:Nat}{o:Opn}:Zby N o=ret (WiT o):=by
 rw[Wxf];obtain⟨t,h,_⟩:=WpO (N:=0) (o:=o);unfold WiT;rw[h]
theorem Wgs{N:Nat}{o:Opn}:Zhe N o=ret (WiT o):=by
 obtain⟨t,h,h2⟩:=WpO (N:=N) (o:=o);rw[h2,←h,WcX]
noncomputable def WeL(o:Opn):Bool:=(o.1==11)||(WiT o==2)
noncomputable def WcE(l:List Opn):Bool:=WpC l&& !l.any WeL
theorem Wh3{N:Nat}{l:List Opn}(hl:l.length<=1048576)(hN:1048576<N):Zf1 N l=ret (l.any λo=>o.1==11):=by
 unfold Zf1;have h1:=WR (l:=l) (V:=Unit) (R:=Unit×Kq) (lp:=λn j v=>Zcr N l (some ((),(true,()))) (λi8 t9=>some ((),(false,()))) n j) (n:=N) (by omega)
  (body:=λj x v k=>bif x.1==11 then some ((),(true,()))else k v) (K:=λ_ v=>some ((),(false,())))
  (λn i v hi=>by simp only[Zcr,W2 hi,Wq hi,Wt hi,Wp (show i<4611686018427387904 by omega),We])
  (λn v=>by simp[Zcr,Wat,Xn,Wc]) ()
 refine h1.trans ?_;rw[WaK (p:=λx:Opn=>x.1==11) (E:=λ_=>some ((),(true,()))) l 0 () (λj x v k _=>rfl)];cases l.any λo:Opn=>o.1==11<;>rfl
theorem Wo2{N:Nat}{l:List Opn}(hl:l.length<=1048576)(hN:1048576<N):Zhn N l=ret (WcE l):=by
 unfold Zhn WcE;simp only[WhS hl hN,ret,Xd];cases WpC l with
 |false=>rfl
 |true=>
  simp only[Wh3 hl hN,ret,Xd,Xv,Wc,Xch];have h1:=WR (l:=l) (V:=Unit) (R:=Unit×Kq) (lp:=λn j v=>Zd5 N l (some ((),(false,()))) (λi8 t9=>some ((),(true,()))) n j) (n:=N) (by omega)
   (body:=λj x v k=>bif WiT x==2 then some ((),(false,()))else k v) (K:=λ_ v=>some ((),(true,())))
   (λn i v hi=>by simp only[Zd5,W2 hi,Wq hi,Wt hi,Wp (show i<4611686018427387904 by omega),We,WcX,ret,Xd])
   (λn v=>by simp[Zd5,Wat,Xn,Wc]) ()
  (try simp only[]at h1)
  rw[h1,WaK (p:=λx=>WiT x==2) (E:=λ_=>some ((),(false,()))) l 0 () (λj x v k _=>rfl)];have e:l.any WeL=((l.any λo=>o.1==11)||l.any λo=>WiT o==2):=by
   grind [WeL,WiT]
  rw[e];cases l.any λo:Opn=>o.1==11<;>cases l.any λo=>WiT o==2<;>rfl
theorem WoU{N:Nat}{l:List Opn}(hl:l.length<=1048576)(hN:1048576<N):Zho N l=ret (WcE l):=by
 unfold Zho WcE;have h1:=WR (l:=l) (V:=Unit) (R:=Unit×Kq) (lp:=λn j v=>Zd6 N l (some ((),(false,()))) (λaX aT=>((Zc0 N l).bind λcL=>(some ((),(cL.2.1,()))))) n j) (n:=N) (by omega)
  (body:=λj x v k=>bif WeL x then some ((),(false,()))else k v) (K:=λ_ v=>ret (WpC l))
  (λn i v hi=>by
   simp only[Zd6,W2 hi,Wq hi,Wt hi,Wp (show i<4611686018427387904 by omega),We,Wgs,ret,Xd,WeL];cases l[i].1==11<;>rfl)
  (λn v=>by simp_all [Zd6,Wat,Xn,Wc,WhG,ret,Xd]) ()
 refine h1.trans ?_;rw[WaK (p:=WeL) (E:=λ_=>some ((),(false,()))) l 0 () (λj x v k _=>rfl)];cases l.any WeL<;>cases WpC l<;>rfl
def Wdk(l:List Int):Bool:=decide (l.length=4)&&l.all Wby
theorem Wm9{N:Nat}{l:List Int}(hl:l.length<=1048576)(hN:1048576<N):Zib N l=ret (Wdk l):=by
 unfold Zib Wdk;by_cases h:l.length=4
 .have e:(Wi l !=4)=false:=by simp[Wi,h]
  rw[e];simp only[Wc];have h1:=WR (l:=l) (V:=Unit) (R:=Unit×Kq) (lp:=λn j v=>Zda N l (some ((),(false,()))) (λi8 t9=>some ((),(true,()))) n j) (n:=N) (by omega)
   (body:=λj x v k=>bif !Wby x then some ((),(false,()))else k v) (K:=λ_ v=>some ((),(true,())))
   (λn i v hi=>by simp only[Zda,W2 hi,Wq hi,Wt hi,Wp (show i<4611686018427387904 by omega),We,WdR,ret,Xd])
   (λn v=>by simp[Zda,Wat,Xn,Wc]) ()
  refine h1.trans ?_;rw[WaK (p:=λx=>!Wby x) (E:=λ_=>some ((),(false,()))) l 0 () (λj x v k _=>rfl),WcP];cases l.all Wby<;>simp[h]
 grind [Wi]
theorem Wdq{N:Nat}{l:List Int}(hl:l.length<=1048576)(hN:1048576<N):Zag N l 4=ret (Wdk l):=by
 unfold Zag Wdk;have h1:=WR (l:=l) (V:=Unit) (R:=Unit×Kq) (lp:=λn j v=>Za0 N l 4 (some ((),(false,()))) (λi8 t9=>some ((),((Wi l)==(4:Int),()))) n j) (n:=N) (by omega)
  (body:=λj x v k=>bif !Wby x then some ((),(false,()))else k v) (K:=λ_ v=>some ((),((Wi l)==(4:Int),())))
  (λn i v hi=>by simp only[Za0,W2 hi,Wq hi,Wt hi,Wp (show i<4611686018427387904 by omega),We,WaC,ret,Xd])
  (λn v=>by simp[Za0,Wat,Xn,Wc]) ()
 refine h1.trans ?_;rw[WaK (p:=λx=>!Wby x) (E:=λ_=>some ((),(false,()))) l 0 () (λj x v k _=>rfl),WcP];have e:((Wi l)==(4:Int))=decide (l.length=4):=by
  grind [Wi]
 rw[e];cases l.all Wby<;>simp
end
section
section
variable{o:Opn}
theorem Wn1(h:WcO o=true)(h1:1<=o.1)(h4:o.1<=4):Wae o.2.1=true/\(o.1=1->Wby o.2.2.1=true)/\(o.1≠1->Wae o.2.2.1=true/\Wae o.2.2.2=true):=by
 obtain⟨k,a,b,c⟩:=o;simp only at h1 h4;have:k=1\/k=2\/k=3\/k=4:=by omega
 rcases this with rfl|rfl|rfl|rfl
 .have:(Wae a&&Wby b&&(c==(0:Int)))=true:=h;simp_all
 all_goals
  have:(Wae a&&Wae b&&Wae c)=true:=h;simp_all
theorem WpI(h:WcO o=true)(h5:o.1=5):Wae o.2.1=true/\W8 o.2.2.1=true:=by
 obtain⟨k,a,b,c⟩:=o;simp only at h5;subst h5;have:(Wae a&&W8 b&&(c==(0:Int)))=true:=h;simp_all
theorem Wwu(h:WcO o=true)(h5:o.1=6):W8 o.2.1=true/\Wae o.2.2.1=true:=by
 obtain⟨k,a,b,c⟩:=o;simp only at h5;subst h5;have:(W8 a&&Wae b&&(c==(0:Int)))=true:=h;simp_all
theorem WtB(h:WcO o=true)(h5:o.1=7):Wae o.2.1=true/\1<=o.2.2.1/\o.2.2.1<=20:=by
 obtain⟨k,a,b,c⟩:=o;simp only at h5;subst h5;have:(Wae a&&(decide (1<=b)&&decide (b<=20))&&(c==(0:Int)))=true:=h;simp_all
theorem WvA(h:WcO o=true)(h5:o.1=8):Wae o.2.1=true:=by
 obtain⟨k,a,b,c⟩:=o;simp only at h5;subst h5;have:(Wae a&&(b==(0:Int))&&(c==(0:Int)))=true:=h;simp_all
theorem Wjx(h:WcO o=true):1<=o.1/\o.1<=16:=by
 by_cases hk:1<=o.1/\o.1<=16
 .exact hk
 .exfalso;have e:∀n:Int,1<=n->n<=16->(o.1==n)=false:=λn h1 h2=>by simp;omega
  simp_all [WcO]
end
theorem WZ{x:Int}{l:List Int}(h:Wae x=true)(hl:l.length=4):inb x l.length=true:=by
 grind [Wae,inb]
theorem Win{x:Int}{l:List Int}(h:W8 x=true)(hl:l.length=8):inb x l.length=true:=by
 grind [W8,inb]
structure Vals(n:Nat)(l:List Int):Prop where
 len:l.length=n
 val:∀x∈l,0<=x/\x<=65535
theorem Vals.get{n:Nat}{l:List Int}(h:Vals n l)(i:Nat):0<=l.getD i 0/\l.getD i 0<=65535:=by
 by_cases hi:i<l.length
 .rw[Wn hi];exact h.val _ (Xw hi)
 simp_all
theorem Vals.set{n:Nat}{l:List Int}(h:Vals n l)(i:Nat){x:Int}(hx:0<=x/\x<=65535):Vals n (l.set i x):=
 ⟨by rw[Xy];exact h.len,λy hy=>by
  rcases List.mem_or_eq_of_mem_set hy with hy|hy
  .exact h.val y hy
  omega⟩
theorem Wbp{x:Int}:Wby x=true↔0<=x/\x<=65535:=by unfold Wby;simp
theorem WbL{l:List Int}:Wdk l=true↔Vals 4 l:=by
 unfold Wdk;rw[Xj,Wh,Xah];exact⟨λh=>⟨h.1,λx hx=>Wbp.1 (h.2 x hx)⟩,λh=>⟨h.len,λx hx=>Wbp.2 (h.val x hx)⟩⟩
theorem Wgp{l:List Int}:WdL l=true↔Vals 8 l:=by
 unfold WdL;rw[Xj,Wh,Xah];exact⟨λh=>⟨h.1,λx hx=>Wbp.1 (h.2 x hx)⟩,λh=>⟨h.len,λx hx=>Wbp.2 (h.val x hx)⟩⟩
def Wg9(o:Opn)(r:List Int):List Int:=
 bif o.1==1 then r.set o.2.1.toNat o.2.2.1 else
 bif o.1==2 then r.set o.2.1.toNat ((r.getD o.2.2.1.toNat 0+r.getD o.2.2.2.toNat 0)%65536)else
 bif o.1==3 then r.set o.2.1.toNat ((r.getD o.2.2.1.toNat 0-r.getD o.2.2.2.toNat 0+65536)%65536)else
 bif decide (r.getD o.2.2.1.toNat 0<r.getD o.2.2.2.toNat 0)then r.set o.2.1.toNat 1 else r.set o.2.1.toNat 0
theorem WbE{x:Int}(h:0<=x):WdF x 65536=x%65536:=by grind [WdF,Int.tmod_eq_emod_of_nonneg]
theorem Wih{o:Opn}{r:List Int}(h:WcO o=true)(h1:1<=o.1)(h4:o.1<=4)(hr:Vals 4 r):Vals 4 (Wg9 o r):=by
 obtain⟨_,hv,_⟩:=Wn1 h h1 h4;unfold Wg9;cases e1:o.1==1
 .cases o.1==2
  .cases o.1==3
   .cases decide (r.getD o.2.2.1.toNat 0<r.getD o.2.2.2.toNat 0)
    .exact hr.set _ (by omega)
    .exact hr.set _ (by omega)
   .exact hr.set _ (by omega)
  .exact hr.set _ (by omega)
 .exact hr.set _ (Wbp.1 (hv (by simp_all)))
section
variable{N:Nat}{o:Opn}{r:List Int}
theorem WhI(hN:1048576<N)(h:WcO o=true)(h1:1<=o.1)(h4:o.1<=4)(hr:Vals 4 r):Zgg N o r=some ((),(Wg9 o r,(true,()))):=by
 obtain⟨ha,hv,uS⟩:=Wn1 h h1 h4;unfold Zgg Zh;have e0:WB r.length=true:=Wx (by rw[hr.len];omega);have e4:decide (o.1>4)=false:=by simp;omega
 have e5:Wdk r=true:=WbL.2 hr;have ea:=WZ ha hr.len;have ez:inz 65536=true:=rfl;have gb:=hr.get o.2.2.1.toNat;have gc:=hr.get o.2.2.2.toNat;simp only[e0,We,Xd,Wfq,ret,h,Xv,Wc,e4,Wdq (l:=r) (by rw[hr.len];omega) hN,e5,ea,ez];unfold Wg9;by_cases k1:o.1=1
 .simp_all
 .have b:(o.1==1)=false:=by simp[k1]
  obtain⟨hb,hc⟩:=uS k1;rw[b];simp only[Wc,WZ hb hr.len,WZ hc hr.len,We,Xy,ea];have s1:Wl .i64 (r.getD o.2.2.1.toNat 0) (r.getD o.2.2.2.toNat 0)=r.getD o.2.2.1.toNat 0+r.getD o.2.2.2.toNat 0:=WH (by unfold I64;omega);have s2:Ws .i64 (r.getD o.2.2.1.toNat 0) (r.getD o.2.2.2.toNat 0)=r.getD o.2.2.1.toNat 0-r.getD o.2.2.2.toNat 0:=Wah (by unfold I64;omega);have s3:Wl .i64 (r.getD o.2.2.1.toNat 0-r.getD o.2.2.2.toNat 0) 65536=r.getD o.2.2.1.toNat 0-r.getD o.2.2.2.toNat 0+65536:=WH (by unfold I64;omega);rw[s1,s2,s3,WbE (by omega),WbE (by omega)];cases o.1==2
  .cases o.1==3
   .simp only[Wc,WA,Xcq];cases decide (r.getD o.2.2.1.toNat 0<r.getD o.2.2.2.toNat 0)<;>rfl
   .rfl
  .rfl
theorem Wh5(hN:1048576<N)(h:WcO o=true)(h1:1<=o.1)(h4:o.1<=4)(hr:Vals 4 r):Zo1 N o r=some ((),(Wg9 o r,(true,()))):=by
 obtain⟨ha,hv,uS⟩:=Wn1 h h1 h4;unfold Zo1;have e0:WB (([]:List Int).length+r.length)=true:=Wx (by rw[hr.len];simp);have e4:decide (o.1>4)=false:=by simp;omega
 have e5:Wdk r=true:=WbL.2 hr;have ea:=WZ ha hr.len;have ez:inz 65536=true:=rfl;have en:Xe ([]:List Int) r=r:=rfl;have gb:=hr.get o.2.2.1.toNat;have gc:=hr.get o.2.2.2.toNat;simp only[e0,We,Xd,Wcq,ret,h,Xv,Wc,e4,Wm9 (l:=r) (by rw[hr.len];omega) hN,e5,ea,ez,en];unfold Wg9;by_cases k1:o.1=1
 .simp_all
 .have b:(o.1==1)=false:=by simp[k1]
  obtain⟨hb,hc⟩:=uS k1;rw[b];simp only[Wc,WZ hb hr.len,WZ hc hr.len,We,Xy,ea];have s1:Wl .i64 (r.getD o.2.2.1.toNat 0) (r.getD o.2.2.2.toNat 0)=r.getD o.2.2.1.toNat 0+r.getD o.2.2.2.toNat 0:=WH (by unfold I64;omega);have s2:Ws .i64 (r.getD o.2.2.1.toNat 0) (r.getD o.2.2.2.toNat 0)=r.getD o.2.2.1.toNat 0-r.getD o.2.2.2.toNat 0:=Wah (by unfold I64;omega);have s3:Wl .i64 (r.getD o.2.2.1.toNat 0-r.getD o.2.2.2.toNat 0) 65536=r.getD o.2.2.1.toNat 0-r.getD o.2.2.2.toNat 0+65536:=WH (by unfold I64;omega);rw[s1,s2,s3,WbE (by omega),WbE (by omega)];cases o.1==2
  .cases o.1==3
   .simp only[Wc,WA,Xcq];cases decide (r.getD o.2.2.1.toNat 0<r.getD o.2.2.2.toNat 0)<;>rfl
   .rfl
  .rfl
end
def Wg3(c:List Int)(rows:List Rw):List Int:=rows.foldr (λr c=>c.set r.1.toNat r.2) c
def Weq(l:List Rw):Prop:=∀r∈l,(0<=r.1/\r.1<=7)/\0<=r.2/\r.2<=65535
theorem Wim{l:List Rw}:l.all WoB=true↔Weq l:=by
 simp[Xah,Weq,WoB,W8,Wby]
theorem WkR{c:List Int}(hc:Vals 8 c):∀{l:List Rw},Weq l->Vals 8 (Wg3 c l)
 | [],_=>hc
 |r::l,h=>by
  have ih:=WkR hc (l:=l) λx hx=>h x (Xf _ hx);exact ih.set _ (h r (Xk ..)).2
theorem WsZ(c:List Int)(l:List Rw)(r:Rw):Wg3 c (l++ [r])=Wg3 (c.set r.1.toNat r.2) l:=by
 simp[Wg3,List.foldr_append]
theorem WcM{N:Nat}{l:List Int}(h:l.length<=1048576):Zh N l=ret l:=by
 simp_all [Zh,Wur,We]
end
section
structure Lin{α:Type}(cf:α->α->Int):Prop where
 irr:∀x,¬cf x x<0
 tr:∀x y z,cf x y<0->cf y z<0->cf x z<0
 nt:∀x y z,¬cf x y<0->¬cf y z<0->¬cf x z<0
theorem Wui:Lin cfE:=⟨λx=>by unfold cfE;omega,λx y z=>by unfold cfE;omega,λx y z=>by unfold cfE;omega⟩
theorem Wo3:Lin cfH:=⟨λx=>by rw[Wce];omega,λx y z=>by simp only[Wce];omega,λx y z=>by simp only[Wce];omega⟩
def Ris{α:Type}(cf:α->α->Int)(l:List α):Prop:=l.Pairwise λa b=>cf a b<0
def Wes{α:Type}(cf:α->α->Int):List α->α->List α
 | [],e=>[e]
 |x::l,e=>if cf x e<0 then x::Wes cf l e else if cf e x<0 then e::x::l else e::l
def Ap{α:Type}(cf:α->α->Int)(x y:α):Prop:=cf x y<0\/cf y x<0
variable{α:Type}{cf:α->α->Int}
theorem Lin.ap(h:Lin cf){x y:α}(hn:¬Ap cf x y){z:α}:(cf x z<0↔cf y z<0)/\(cf z x<0↔cf z y<0):=by
 unfold Ap at hn;refine⟨⟨λa=>?_,λa=>?_⟩,⟨λa=>?_,λa=>?_⟩⟩
 .exact Classical.byContradiction λc=>h.nt x y z (λq=>hn (.inl q)) c a
 .exact Classical.byContradiction λc=>h.nt y x z (λq=>hn (.inr q)) c a
 .exact Classical.byContradiction λc=>h.nt z y x c (λq=>hn (.inr q)) a
 .exact Classical.byContradiction λc=>h.nt z x y c (λq=>hn (.inl q)) a
theorem WbA(hc:Lin cf){e x:α}:∀{l:List α},Ris cf l->(x∈Wes cf l e↔x=e\/(x∈l/\Ap cf x e))
 | [],_=>by simp[Wes]
 |y::l,h=>by
  have hl:=(Xaa.1 h);unfold Wes;by_cases h1:cf y e<0
  .rw[Wb h1,Xq,WbA hc hl.2,Xq];refine⟨?_,?_⟩
   .rintro(rfl|h|h)
    .exact .inr ⟨.inl rfl,.inl h1⟩
    .grind
    simp_all
   grind
  .rw[Wa h1];by_cases h2:cf e y<0
   .rw[Wb h2];simp only[Xq];refine⟨?_,?_⟩
    .rintro(h|rfl|h)
     .grind
     .exact .inr ⟨.inl rfl,.inr h2⟩
     .exact .inr ⟨.inr h,.inr (hc.tr _ _ _ h2 (hl.1 x h))⟩
    grind
   .rw[Wa h2];simp only[Xq];have hn:¬Ap cf y e:=by unfold Ap;omega
    refine⟨?_,?_⟩
    .rintro(h|h)
     .grind
     .exact .inr ⟨.inr h,.inr ((hc.ap hn).1.1 (hl.1 x h))⟩
    grind
theorem WcK(hc:Lin cf){e:α}:∀{l:List α},Ris cf l->Ris cf (Wes cf l e)
 | [],_=>by simp[Wes,Ris]
 |y::l,h=>by
  have hl:=(Xaa.1 h);unfold Wes;by_cases h1:cf y e<0
  .rw[Wb h1];refine Xaa.2 ⟨λx hx=>?_,WcK hc hl.2⟩;rcases(WbA hc hl.2).1 hx with rfl|hx
   .exact h1
   simp_all
  .rw[Wa h1];by_cases h2:cf e y<0
   .rw[Wb h2];refine Xaa.2 ⟨λx hx=>?_,h⟩;rcases Xq.1 hx with rfl|hx
    .exact h2
    .exact hc.tr _ _ _ h2 (hl.1 x hx)
   .rw[Wa h2];have hn:¬Ap cf y e:=by unfold Ap;omega
    exact Xaa.2 ⟨λx hx=>(hc.ap hn).1.1 (hl.1 x hx),hl.2⟩
theorem Woq(hc:Lin cf){L M:List α}(hM:Ris cf M)(hL:L.Pairwise (Ap cf))(hm:∀x,x∈L↔x∈M):sortBy cf L=M:=by
 have hn:∀{l:List α},l.Pairwise (Ap cf)->l.Nodup:=λh=>h.imp λ{a b} fT=>by
  rintro rfl;unfold Ap at fT;have:=hc.irr a;omega
 have hM':M.Pairwise (Ap cf):=hM.imp λh=>.inl h;have hp:L.Perm M:=(List.perm_ext_iff_of_nodup (hn hL) (hn hM')).2 hm;unfold sortBy;have h1:=List.pairwise_mergeSort (le:=λx y=>!lessBy cf y x) (λa b c=>by
  simp only[lessBy,Xan,Wv]
  exactλh1 h2=>hc.nt _ _ _ h2 h1) (λa b=>by
  simp only[lessBy,Xck,Xan,Wv];rcases Classical.em (cf b a<0)with h|h
  .exact .inr λh'=>hc.irr _ (hc.tr _ _ _ h h')
  omega) L
 refine List.Perm.eq_of_pairwise ?_ h1 (hM.imp λ{a b} h=>?_) ((Xgm _ _).trans hp)
 .intro a b ha hb h1 h2;simp only[lessBy,Xan,Wv]at h1 h2;have xH:a∈M:=(hm a).1 ((Xgm _ _).mem_iff.1 ha);obtain⟨i,hi,rfl⟩:=Xbc xH;obtain⟨j,hj,rfl⟩:=Xbc hb;rcases Nat.lt_trichotomy i j with h|h|h
  .exact Wj (Xau.1 hM i j hi hj h) h2
  .grind
  .exact Wj (Xau.1 hM j i hj hi h) h1
 .simp only[lessBy,Xan,Wv]
  exactλh'=>hc.irr _ (hc.tr _ _ _ h h')
theorem Wps{r:α->α->Bool}{R:α->α->Prop}(hr:∀a b,R a b->r a b=true):∀{l:List α},l.Pairwise R->Wk5 r l=true
 | [],_=>rfl
 |x::l,h=>by
  have:=Xaa.1 h;simp only[Wk5,Xj,Xah];exact⟨λy hy=>hr _ _ (this.1 y hy),Wps hr this.2⟩
theorem Wpc(hc:Lin cf){rng:α->Bool}{N:Nat}{L M:List α}(hM:Ris cf M)(hL:L.Pairwise (Ap cf))(hm:∀x,x∈L↔x∈M)(hr:∀x∈L,rng x=true)(hl:L.length<=1048576):
  Zna rng cf N L=some ((M,()),()):=by
 grind [Zna,Xah,Wps,Ap,apart,lessBy,decide_eq_true,Woq]
theorem WmK(hc:Lin cf){L:List α}{e:α}{i:Nat}(hL:L.Pairwise (Ap cf))(hi:i<L.length)(hk:¬Ap cf L[i] e):(L.set i e).Pairwise (Ap cf)/\∀x,x∈L.set i e↔x=e\/(x∈L/\Ap cf x e):=by
 have xI:∀{z},Ap cf L[i] z↔Ap cf e z:=λ{z}=>by unfold Ap;rw[(hc.ap hk).1,(hc.ap hk).2]
 have BO:∀{a b:α},Ap cf a b->Ap cf b a:=λh=>h.symm;have hG:=Xau.1 hL;refine⟨?_,λx=>⟨λhx=>?_,?_⟩⟩
 .rw[Xau]
  grind
 .obtain⟨j,hj,rfl⟩:=Xbc hx
  grind
 .rintro(rfl|⟨hx,lX⟩)
  .grind [Xef]
  .obtain⟨j,hj,rfl⟩:=Xbc hx;refine Xef.2 ⟨j,by simp_all,?_⟩;rw[Xam,Wa]
   grind
theorem Wkt{L:List α}{e:α}(hL:L.Pairwise (Ap cf))(hk:∀x∈L,Ap cf x e):(L++ [e]).Pairwise (Ap cf)/\∀x,x∈L++ [e]↔x=e\/(x∈L/\Ap cf x e):=by
 grind
end
section
abbrev KM:=Int×Int×List Int
structure Kd where
 phase:Int:=0
 pc:Int:=0
 since:Int:=0
 tries:Int:=0
 pos:Int:=0
 out:Int:=0
 regs:List Int:=[]
 seen:List En:=[]
 writes:List Rw:=[]
 marks:List KM:=[]
 busy:Bool:=false
 pb:Pb:=(0,0,0,0)
def Kd.e(x:Kd):Y_KidRun:=(x.phase,x.pc,x.since,x.tries,x.pos,x.out,x.regs,x.seen,x.writes,x.marks,x.busy,x.pb)
structure Fm where
 rv:Int:=0
 clock:Int:=0
 owner:Int:=0
 lost:Bool:=false
 regs:List Int:=[]
 start:List Rw:=[]
 buf:List En:=[]
 order:List Int:=[]
 reads:List Rw:=[]
 kids:List Kd:=[]
def Fm.e(f:Fm):Y_Family:=(f.rv,f.clock,f.owner,f.lost,f.regs,f.start,f.buf,f.order,f.reads,f.kids.map Kd.e)
def zOp:Opn:=(0,0,0,0)
def opN(code:List Opn)(i:Int):Opn:=Xc code i.toNat zOp
def Wa0{α:Type}(l:List α)(i:Int)(d:α):α:=Xc l i.toNat d
def WjD{α:Type}(l:List α)(i:Int)(x:α):List α:=Xg l i.toNat x
def Wct{α:Type}(l:List α)(d:α):α:=Xc l (l.length-1) d
def Wer(l:List Opn)(m:Nat):Nat:=((Xca l.length).find? λk=>decide (m<=k)&&decide (dep l (k+1)=dep l m)).getD 0
def Fm.again(f:Fm)(x:Kd):Kd:={since:=f.clock,tries:=x.tries+1,regs:=f.regs}
def Wbn(m:Mm)(f:Fm)(x:Kd)(o:Opn):Fm×Kd:=
 match WaF x.writes o.2.2.1 with
 |some v=>(f,{x with regs:=WjD x.regs o.2.1 v,pc:=x.pc+1})
 |none=>match ent f.buf o.2.2.1 with
  |some r=>if r.2.2.2>x.since then(f,f.again x)else(f,{x with regs:=WjD x.regs o.2.1 r.2.2.1,seen:=x.seen++ [r.2],pc:=x.pc+1})
  |none=>
   let p:=WM m f.rv (if x.busy then x.pb else(o.2.2.1,0,0,0))
   if p.2.1=4 then({f with lost:=true},{x with busy:=true,pb:=p})
   else if p.2.1=3 then(f,{x with regs:=WjD x.regs o.2.1 p.2.2.2,seen:=x.seen++ [(o.2.2.1,p.2.2.2,-1)],busy:=false,pb:=(0,0,0,0),pc:=x.pc+1})
   else(f,{x with busy:=true,pb:=p})
def Wel(x:Kd)(code:List Opn):Kd:=
 if x.marks.length=0 then{x with writes:=[],out:=2,phase:=1}else
 let q:=Wct x.marks (0,0,[])
 {x with marks:=x.marks.dropLast,regs:=WjD q.2.2 (opN code q.1).2.1 0,writes:=x.writes.take q.2.1.toNat,pc:=Wer code q.1.toNat+1}
def Wgw(m:Mm)(f:Fm)(x:Kd)(code:List Opn):Fm×Kd:=
 if x.pc>=code.length then(f,{x with out:=1,phase:=1})else
 let o:=opN code x.pc
 if o.1=5 then Wbn m f x o else
 if o.1=10 then(f,Wel x code)else
 if o.1=6 then(f,{x with writes:=x.writes++ [(o.2.1,Wa0 x.regs o.2.2.1 0)],pc:=x.pc+1})else
 if o.1=7 then(f,{x with pc:=(if Wa0 x.regs o.2.1 0=0 then x.pc+o.2.2.1 else x.pc)+1})else
 if o.1=8 then(f,{x with marks:=x.marks++ [(x.pc,(x.writes.length:Int),x.regs)],pc:=x.pc+1})else
 if o.1=9 then(f,{x with marks:=x.marks.dropLast,regs:=WjD x.regs (opN code (Wct x.marks (0,0,[])).1).2.1 1,pc:=x.pc+1})else
 (f,{x with regs:=Wg9 o x.regs,pc:=x.pc+1})
def WaR(c:Int)(b:List En)(rows:List Rw):List En:=rows.foldl (λb r=>Wes cfE b (r.1,r.2,c)) b
def Wbu(l:List En):List Rw:=(l.filter λe=>decide (e.2.2= -1)).map λe=>(e.1,e.2.1)
def Waf(f:Fm)(x:Kd)(k:Nat):Fm×Kd:=
 ({f with clock:=f.clock+1,buf:=WaR (f.clock+1) f.buf (WbF x.writes),reads:=f.reads++Wbu x.seen,order:=f.order++ [(k:Int)],owner:=0},{x with phase:=3,pos:=0,marks:=[]})
def Wqy(b:List En)(c:Int):Int:=match ent b c with
 |some r=>r.2.2.2
 |none=>-1
def WaN(m:Mm)(f:Fm)(x:Kd)(k:Nat)(code:List Opn):Fm×Kd:=
 if x.phase=0 then Wgw m f x code else
 if x.phase=1 then(if f.owner=0 then({f with owner:=(k:Int)+1},{x with phase:=2})else(f,x))else
 if x.phase=2 then
  if x.pos=x.seen.length then Waf f x k else
  let s:=Wa0 x.seen x.pos (0,0,0)
  if Wqy f.buf s.1=s.2.2 then(f,{x with pos:=x.pos+1})else({f with owner:=0},f.again x)
 else(f,x)
def Fm.put(q:Fm×Kd)(k:Nat):Fm:={q.1 with kids:=q.1.kids.set k q.2}
def Wax(m:Mm)(f:Fm)(k:Nat)(code:List Opn):Fm:=
 if f.lost then f else Fm.put (WaN m f (f.kids.getD k {}) k code) k
def Wad(rv:Int)(regs:List Int)(writes:List Rw)(kids:Nat):Fm:=
 {rv:=rv,regs:=regs,start:=WbF writes,buf:=(WbF writes).map λr=>(r.1,r.2,0),kids:=Xo kids {regs:=regs}}
def Wbe(f:Fm):Bool:=f.kids.all λx=>decide (x.phase=3)
def Wb1(f:Fm):List Rw:=f.buf.map λe=>(e.1,e.2.1)
def Wrw(x:Kd):Int:=if x.out=1/\Wdk x.regs=true then Wa0 x.regs 0 0 else 0
def Wee(f:Fm):List Int:=
 if Wdk f.regs=true/\f.kids.length<=3 then f.kids.map Wrw++f.regs.drop f.kids.length else []
structure KMk(code:List Opn)(pc:Nat)(marks:List KM)(wl:Nat):Prop where
 pcs:marks.map (·.1)=(stk code pc).map λm:Nat=>(m:Int)
 each:∀q∈marks,Vals 4 q.2.2/\0<=q.2.1/\q.2.1<=q.1/\q.2.1<=wl
 up:marks.Pairwise λa b=>a.2.1<=b.2.1
structure KOk(code:List Opn)(c n:Int)(x:Kd):Prop where
 pc:0<=x.pc/\x.pc<=code.length
 regs:Vals 4 x.regs
 rows:Weq x.writes
 wl:(x.writes.length:Int)<=x.pc
 sl:(x.seen.length:Int)<=x.pc
 since:0<=x.since/\x.since<=c
 tries:0<=x.tries/\x.tries<=n
 seen:∀e∈x.seen,(0<=e.1/\e.1<=7)/\(0<=e.2.1/\e.2.1<=65535)/\ -1<=e.2.2/\e.2.2<=x.since
 marks:x.phase=0->KMk code x.pc.toNat x.marks x.writes.length
 pos:0<=x.pos/\x.pos<=x.seen.length
 pb:x.busy=true->Wk7 x.pb=true
 phase:0<=x.phase/\x.phase<=3
 out:0<=x.out/\x.out<=2
structure FOk(codes:List (List Opn))(n:Int)(f:Fm):Prop where
 len:f.kids.length=codes.length
 regs:Vals 4 f.regs
 clock:0<=f.clock/\f.clock=f.order.length
 done:f.order.length=f.kids.countP λx=>decide (x.phase=3)
 bufR:Ris cfE f.buf
 bufE:∀e∈f.buf,(0<=e.1/\e.1<=7)/\(0<=e.2.1/\e.2.1<=65535)/\0<=e.2.2/\e.2.2<=f.clock
 readsL:f.reads.length<=24*f.order.length
 readsE:Weq f.reads
 owner:0<=f.owner/\f.owner<=f.kids.length
 kid:∀(k:Nat) (h:k<f.kids.length),KOk (codes.getD k []) f.clock n f.kids[k]
end
section
structure CC(l:List Opn):Prop where
 len:l.length<=24
 up:Up l
 z:dep l l.length=0
 ok:∀i (h:i<l.length),WcO l[i]=true/\1<=l[i].1/\l[i].1<=16
 sk:∀i (h:i<l.length),l[i].1=7->i+1+l[i].2.2.1.toNat<=l.length/\bal ((l.take (i+1+l[i].2.2.1.toNat)).drop (i+1))=true
 fk:∀i (h:i<l.length),l[i].1=11->dep l i=0/\frk l (i+1)<=1
structure KC(l:List Opn):Prop extends CC l where
 k10:∀i (h:i<l.length),l[i].1<=10
theorem Wr4{o:Opn}(h:WcO o=true)(d9:12<=o.1):WiT o=2:=by
 have mZ:=Wjx h;have key:=WcX (N:=0) (o:=o);unfold Zby at key;rw[Wcq,h]at key;simp only[ret,Xd,Xv,Wc]at key;have e5:(o.1==5)=false:=by simp;omega
 have e6:(o.1==6)=false:=by simp;omega
 rw[e5,e6]at key;simp only[Wc]at key;have:o.1=12\/o.1=13\/o.1=14\/o.1=15\/o.1=16:=by omega
 rcases this with hk|hk|hk|hk|hk<;> · simp_all
theorem WwW{l:List Opn}(h:WpC l=true):CC l:=by
 unfold WpC at h;simp only[Xj,Wh,Xan]at h;obtain⟨h1,h2,h3⟩:=h;obtain⟨b1,b2⟩:=WlA.1 h2;have hb:∀i (hi:i<l.length),Wno l i l[i]=false:=λi hi=>by
  rw[Bool.eq_false_iff];intro hb;have:WnU (Wno l) 0 l=true:=We9.2 ⟨i,hi,by simp_all⟩;simp_all
 have aV:∀i (hi:i<l.length),WcO l[i]=true:=λi hi=>by
  grind [Wno,Xco,Xdw]
 refine⟨h1,b1,b2,λi hi=>⟨aV i hi,Wjx (aV i hi)⟩,λi hi h7=>?_,λi hi fA=>?_⟩
 .grind [Wno,Xco,Xdw,Wgz]
 grind [Wno,Xco,Xdw]
theorem Wxw{l:List Opn}(h:WcE l=true):KC l:=by
 unfold WcE at h;simp only[Xj,Xan]at h;have hc:=WwW h.1;refine⟨hc,λi hi=>?_⟩;have dL:WeL l[i]=false:=by
  grind
 unfold WeL at dL;simp only[Xco]at dL;by_cases ci:l[i].1<=10
 .exact ci
 .exfalso;by_cases fA:l[i].1=11
  .simp_all
  .have:=Wr4 (hc.ok i hi).1 (by omega);simp_all
theorem Wkw{l:List Opn}{m k:Nat}(h:Mate l m k):Wer l m=k:=by
 unfold Wer;have:(Xca l.length).find? (λk=>decide (m<=k)&&decide (dep l (k+1)=dep l m))=some k:=by
  rw[List.find?_range_eq_some];have:=h.lt;refine⟨?_,List.mem_range.2 h.len,λj hj=>?_⟩
  .simp[h.eq];omega
  .simp only[Xan,Bool.and_eq_false_iff,Wv];by_cases hm:m<=j
   .exact .inr (h.ne j hm hj)
   omega
 grind
theorem Wdc{l:List Opn}{i:Int}(h0:0<=i)(h:i<l.length):∃(n:Nat) (hn:n<l.length),i=n/\opN l i=l[n]:=by
 grind [opN,Wn]
theorem Wk9{l:List Opn}{n:Nat}(h:n<l.length):opN l (n:Int)=l[n]:=by
 grind [opN,Wn]
theorem WkF{α:Type}(q:List α)(x d:α):Wct (q++ [x]) d=x:=by unfold Wct;simp
theorem WhQ{M:Type}{g:M->Int}{l:List Opn}{pc:Nat}{marks:List M}{d:M}(hc:CC l)(hp:pc<=l.length)(hm:marks.map g=(stk l pc).map λm:Nat=>(m:Int))(hne:marks.length≠0):
  ∃(m:Nat) (q:List M) (x:M),marks=q++ [x]/\Wct marks d=x/\g x=(m:Int)/\(∃hm:m<l.length,l[m].1=8)/\m<pc/\Mate l m (Wer l m)/\pc<=Wer l m/\stk l m=(stk l pc).dropLast/\q.map g=(stk l m).map λm:Nat=>(m:Int):=by
 rcases Wa8 marks with h0|⟨q,x,hq⟩
 .simp_all
 .rw[hq,Xu,Xag,Xbd]at hm;rcases Wa8 (stk l pc)with h0|⟨t,m,ht⟩
  .simp_all
  .rw[ht,Xu,Xag,Xbd]at hm;obtain⟨e1,e2⟩:=Xeg hm rfl;injection e2 with e2;obtain⟨k,k1,k2,k3⟩:=WrN hc.up hc.z hp ht;have k4:=Wkw k2;obtain⟨hlt,h8,_,_⟩:=Wii pc hp t [] m ht
   grind [WkF,Xdp]
end
section
theorem Wsb{α β:Type}(g:α->β)(l:List α)(i:Nat)(d:α):Xc (l.map g) i (g d)=g (l.getD i d):=by
 simp_all
theorem kdP(x:Kd):x.e.1=x.phase/\x.e.2.1=x.pc/\x.e.2.2.1=x.since/\x.e.2.2.2.1=x.tries/\P4 x.e=x.pos/\P5 x.e=x.out/\P6 x.e=x.regs/\P7 x.e=x.seen/\P8 x.e=x.writes/\P9 x.e=x.marks/\P10 x.e=x.busy:=⟨rfl,rfl,rfl,rfl,rfl,rfl,rfl,rfl,rfl,rfl,rfl⟩
theorem fmP(f:Fm):f.e.1=f.rv/\f.e.2.1=f.clock/\f.e.2.2.1=f.owner/\f.e.2.2.2.1=f.lost/\P4 f.e=f.regs/\P5 f.e=f.start/\P6 f.e=f.buf/\P7 f.e=f.order/\P8 f.e=f.reads/\Q9 f.e=f.kids.map Kd.e:=⟨rfl,rfl,rfl,rfl,rfl,rfl,rfl,rfl,rfl,rfl⟩
theorem U9e(f:Fm)(k:Nat)(x:Kd):U9 (Xg (f.kids.map Kd.e) k x.e) f.e=Fm.e {f with kids:=f.kids.set k x}:=by
 unfold U9 Fm.e;rw[Xfw]
theorem Wrp{f f':Fm}{k:Nat}{x':Kd}{y:Y_KidRun}{g:Y_Family}(hy:y=x'.e)(hg:g=f'.e)(hf:f'.kids=f.kids):
  some ((U9 (Xg (f.kids.map Kd.e) k y) g,()),())=some (((Fm.put (f',x') k).e,()),()):=by
 subst hy hg;rw[←hf,U9e];rfl
theorem Ws4(m:Mm)(f:Fm)(x:Kd)(o:Opn):Wi3 m f.e x.e o=((Wbn m f x o).1.e,(Wbn m f x o).2.e):=by
 unfold Wi3 Wbn;have h1:P8 x.e=x.writes:=rfl;have h2:P6 f.e=f.buf:=rfl;rw[h1,h2];rcases WaF x.writes o.2.2.1 with _|v
 .rcases ent f.buf o.2.2.1 with _|r
  .have h3:Wqf x.e o.2.2.1=if x.busy then x.pb else(o.2.2.1,0,0,0):=by
    unfold Wqf;have:P10 x.e=x.busy:=rfl;rw[this];cases x.busy<;>rfl
   simp only[h3];have h4:f.e.1=f.rv:=rfl;rw[h4];generalize WM m f.rv (if x.busy then x.pb else(o.2.2.1,0,0,0))=p;by_cases e4:p.2.1=4
   .have:(p.2.1==4)=true:=by simp_all
    rw[Wb e4,this];rfl
   .have:(p.2.1==4)=false:=by simp_all
    rw[Wa e4,this];by_cases e3:p.2.1=3
    .have:(p.2.1==3)=true:=by simp_all
     rw[Wb e3,this];rfl
    .have:(p.2.1==3)=false:=by simp_all
     rw[Wa e3,this];rfl
  .simp only;have h5:x.e.2.2.1=x.since:=rfl;rw[h5];by_cases hv:r.2.2.2>x.since
   .rw[Wb hv,Wf hv];rfl
   .rw[Wa hv,Wu hv];rfl
 .rfl
theorem Wqx(m:Mm)(f:Fm)(x:Kd)(o:Opn):(Wbn m f x o).1.kids=f.kids:=by
 grind [Wbn,WaF,ent,WM]
variable{N:Nat}{codes:List (List Opn)}{n:Int}{f:Fm}{k:Nat}{code:List Opn}{m:Mm}{x:Kd}
theorem FOk.buf8(h:FOk codes n f):f.buf.length<=8:=by
 have:∀(l:List En) (c:Int),Ris cfE l->(∀e∈l,c<=e.1/\e.1<=7)->(l.length:Int)<=8-c\/l= []:=by
  intro l
  induction l with
  |nil=>simp_all
  |cons a l ih=>
   intro c hr hb;left;have h1:=Xaa.1 hr;have ha:=hb a (Xk ..);rcases ih (a.1+1) h1.2 (λe he=>⟨by grind [cfE],(hb e (Xf _ he)).2⟩)with h|h
   .grind
   grind
 rcases this f.buf 0 h.bufR (λe he=>by have:=(h.bufE e he).1;omega)with h|h
 .omega
 simp_all
theorem Wsy(hF:FOk codes n f)(hx:KOk code f.clock n x)(aU:KC code)(hm:W3 m=true)(hn:n<=100000){o:Opn}(hA:Wae o.2.1=true)(hB:W8 o.2.2.1=true):ReadOk m f.e x.e o where
 mem:=hm
 regs:=hx.regs.len
 famr:=hF.regs.len
 rA:=by grind [Wae]
 cB:=hB
 seen:=by have:=hx.sl;have:=hx.pc;have:=aU.len;show x.seen.length<=1000;omega
 wr:=by have:=hx.wl;have:=hx.pc;have:=aU.len;show x.writes.length<=1000;omega
 buf:=by have:=hF.buf8;show f.buf.length<=1000;omega
 ver:=λe he=>(hF.bufE e he).2.2.1
 since:=hx.since.1
 pc:=by have:=hx.pc;have:=aU.len;show 0<=x.pc/\x.pc<=1000;omega
 tries:=by have:=hx.tries;show 0<=x.tries/\x.tries<=100000;omega
 pb:=hx.pb
theorem WC{α:Type}{a b:Int}{x y:α}:(bif a==b then x else y)=if a=b then x else y:=by
 simp_all
theorem WaP{α:Type}{p:Prop}[Decidable p]{x y:α}:(bif decide p then x else y)=if p then x else y:=by
 simp_all
theorem Wl5(aU:KC code)(hx:KOk code f.clock n x)(h0:x.phase=0)(hN:1048576<N):Zh0 N x.e code=some (((Wel x code).e,()),()):=by
 unfold Zh0 Wel;obtain⟨k0,k1,k2,k3,k4,k5,k6,k7,k8,k9,k10⟩:=kdP x;have aR:=hx.pc;have hlen:=aU.len;have hM:=hx.marks h0;simp only[WA,k9,k8,k1,WC];by_cases hz:x.marks.length=0
 .rw[Wb (by unfold Wi;omega),Wb hz];rfl
 .rw[Wa (by unfold Wi;omega),Wa hz];obtain⟨j,q,y,e1,e2,e3,⟨hj,h8⟩,qG,bq,gU,e5,e6⟩:=WhQ (d:=((0,0,[]):KM)) aU.toCC (show x.pc.toNat<=code.length by omega) hM.pcs hz;have xG:x.marks.length=q.length+1:=by grind
  have BP:q.length<=24:=by
   have:=Wm Xb e6;simp only[Xad]at this;have h2:=WaV aU.up j (by omega);have h3:=(WcN code j).2;omega
  have i1:Ws .i64 (Wi x.marks) 1=(q.length:Int):=by grind [Wp2]
  have hy:y∈x.marks:=by grind
  obtain⟨y1,y2,y3,y4⟩:=hM.each y hy;have g1:Xc x.marks (Xa (q.length:Int)) ((0,0,[]):KM)=y:=by grind
  have t1:Xal (Xa (q.length:Int)) x.marks=x.marks.dropLast:=by rw[e1];simp
  have g0:=hx.wl;rw[i1,W9,Wf (show q.length<x.marks.length by omega)];simp only[We,g1,t1,e2];have b1:((decide ((0:Int)<=(q.length:Int))&&decide ((q.length:Int)<=(x.marks.length:Int)))&&decide ((q.length:Int)<=((Xa (q.length:Int):Nat):Int)))=true:=by
   simp;omega
  rw[b1];simp only[We];rw[WbB (by rw[y1.len];omega)];simp only[ret,Xd];rw[e3,W9,Wf hj];have o1:Xc code (Xa ((j:Nat):Int)) ((0,0,0,0):Opn)=code[j]:=Wt hj _;have o2:opN code ((j:Nat):Int)=code[j]:=Wk9 hj;have hr:=WvA (aU.ok j hj).1 h8;simp only[We,o1,o2];rw[WZ hr y1.len];have b2:(decide ((0:Int)<=y.2.1)&&decide (y.2.1<=(x.writes.length:Int)))=true:=by simp;omega
  rw[b2];simp only[We];rw[WdP (by grind),Wi0 (by omega) hN ⟨hj,h8⟩ bq];simp only[ret,Xd];rw[Wc2 (by have:=bq.len;omega),Xi];rfl
theorem WoL(hk:k<f.kids.length)(hm:W3 m=true)(aU:KC code)(hF:FOk codes n f)(aA:codes.getD k []=code)(bg:f.kids[k]=x)(h0:x.phase=0)(hn:n<=100000)(hN:1048576<N):
  Zi5 N f.e (k:Int) code m=some (((Fm.put (Wgw m f x code) k).e,()),()):=by
 have hx:=hF.kid k hk;rw[aA,bg]at hx;obtain⟨k0,k1,k2,k3,k4,k5,k6,k7,k8,k9,k10⟩:=kdP x;obtain⟨f0,f1,f2,f3,f4,f5,f6,f7,f8,f9⟩:=fmP f;have aR:=hx.pc;have hlen:=aU.len;have g0:=hx.wl;have e2:Xc (f.kids.map Kd.e) (Xa (k:Int)) d_KidRun=x.e:=by
  simp_all
 have e3:U9 (Xg (f.kids.map Kd.e) (Xa (k:Int)) x.e) f.e=f.e:=by
  rw[Xi,U9e,←bg,Xap]
 unfold Zi5 Wgw;simp only[WA,f9,Xad];rw[W9,Wf hk];simp only[We,e2,e3,k1,k6,k8,k9,WaP,WC,show Wi code=(code.length:Int)from rfl];by_cases fB:x.pc>=code.length
 .rw[Wb fB,Wb fB];rw[Xi];exact Wrp rfl rfl rfl
 .rw[Wa fB,Wa fB];obtain⟨j,hj,ej,eo⟩:=Wdc (l:=code) aR.1 (by omega);have xJ:Xc code (Xa x.pc) ((0,0,0,0):Opn)=opN code x.pc:=rfl;have iT:inb x.pc code.length=true:=by grind [W9,decide_eq_true]
  rw[iT];obtain⟨ok,o1,fV⟩:=aU.ok j hj;have ch:=aU.k10 j hj;simp only[We,xJ];rw[←eo]at ok o1 ch;generalize opN code x.pc=o at*;have dN:=hx.regs.len;rw[Xi];rw[Wc2 (show 0<=x.pc/\x.pc<=1000000 by omega)];by_cases h5:o.1=5
  .rw[Wb h5,Wb h5];have:=WpI ok h5;have gj:=Wsy hF hx aU hm hn this.1 this.2;have e4:(Q9 f.e)[k]'(by simp_all)=x.e:=by
    simp_all
   have:=Wm6 (m:=m) (o:=o) (f:=f.e) (k:=k) (by simp_all) (by simp_all) hN;rw[this];simp only[Xd,e4,Ws4];unfold Wxx;have lq:=Wqx m f x o;rw[show Q9 (Wbn m f x o).1.e=f.kids.map Kd.e by rw[←lq];rfl];exact Wrp rfl rfl lq
  .rw[Wa h5,Wa h5];by_cases ci:o.1=10
   .rw[Wb ci,Wb ci,Wl5 aU hx h0 hN];exact Wrp rfl rfl rfl
   .rw[Wa ci,Wa ci];by_cases h6:o.1=6
    .rw[Wb h6,Wb h6];rw[WZ (Wwu ok h6).2 dN,Wx (by simp;omega)];exact Wrp rfl rfl rfl
    .rw[Wa h6,Wa h6];by_cases h7:o.1=7
     .rw[Wb h7,Wb h7];have h:=WtB ok h7;rw[WZ h.1 dN,WH (a:=x.pc) (b:=o.2.2.1) (by unfold I64;omega),Wc2 (a:=x.pc+o.2.2.1) (by omega)];by_cases hg:Xc x.regs (Xa o.2.1) 0=0
      .rw[Wb hg,Wb (show Wa0 x.regs o.2.1 0=0 from hg)];simp only[We];exact Wrp rfl rfl rfl
      .rw[Wa hg,Wa (show¬Wa0 x.regs o.2.1 0=0 from hg)];simp only[We];exact Wrp rfl rfl rfl
     .rw[Wa h7,Wa h7];by_cases h8:o.1=8
      .rw[Wb h8,Wb h8];rw[WbB (by omega)];have ja:x.marks.length<=24:=by
        have:=Wm Xb (hx.marks h0).pcs;simp only[Xad]at this;have h2:=WaV aU.up x.pc.toNat (by omega);have h3:=(WcN code x.pc.toNat).2;omega
       simp only[ret,Xd];rw[Wx (by simp;omega)];exact Wrp rfl rfl rfl
      .rw[Wa h8,Wa h8];by_cases h9:o.1=9
       .rw[Wb h9,Wb h9];have hM:=hx.marks h0;have hz:x.marks.length≠0:=by
         intro hz;have h1:=Wm Xb hM.pcs;simp only[Xad,hz]at h1;have h2:=WaV aU.up j (by omega);have h3:=aU.up j hj
         grind [Waq,WkV,Xi]
        obtain⟨i,q,y,e1,BQ,BR,⟨hi,BS⟩,qG,bq,gU,e5,e6⟩:=WhQ (d:=((0,0,[]):KM)) aU.toCC (show x.pc.toNat<=code.length by omega) hM.pcs hz;have xG:x.marks.length=q.length+1:=by grind
        have ja:x.marks.length<=24:=by
         have:=Wm Xb (hx.marks h0).pcs;simp only[Xad]at this;have h2:=WaV aU.up x.pc.toNat (by omega);have h3:=(WcN code x.pc.toNat).2;omega
        have i1:Ws .i64 (Wi x.marks) 1=(q.length:Int):=by grind [Wp2]
        have g1:Xc x.marks (Xa (q.length:Int)) ((0,0,[]):KM)=y:=by grind
        have t1:Xal (Xa (q.length:Int)) x.marks=x.marks.dropLast:=by rw[e1];simp
        rw[i1,W9,Wf (show q.length<x.marks.length by omega)];have b1:(decide ((0:Int)<=(q.length:Int))&&decide ((q.length:Int)<=(x.marks.length:Int)))=true:=by simp;omega
        rw[b1];simp only[We,g1,t1,BQ];rw[BR,W9,Wf hi];have o1:Xc code (Xa ((i:Nat):Int)) ((0,0,0,0):Opn)=opN code (i:Int):=rfl;have hr:=WvA (aU.ok i hi).1 BS;rw[←Wk9 hi]at hr;simp only[We,o1];rw[WZ hr dN];exact Wrp rfl rfl rfl
       .rw[Wa h9,Wa h9];rw[WhI hN ok (by omega) (by omega) hx.regs];exact Wrp rfl rfl rfl
end
section
theorem Wkb{l:List Rw}{c v:Int}:∀(i:Nat),i<=l.length->WfF l c i=some v->(c,v)∈l
 |0,_,h=>by simp[WfF]at h
 |i+1,hi,h=>by
  unfold WfF at h;rw[Wn (show i<l.length by omega)]at h;by_cases hc:l[i].1=c
  .grind
  .rw[Wa hc]at h;exact Wkb i (by omega) h
theorem WiJ{l:List Rw}{c v:Int}(h:WaF l c=some v):Wbm l=true/\(c,v)∈l:=by
 unfold WaF at h;by_cases hr:Wbm l=true
 .rw[Wb hr]at h;exact⟨hr,Wkb _ (Xn _) h⟩
 simp_all
theorem Wpz(l:List Rw):∀(j c:Nat) (o:List Rw),WlB l j c o=o++(Xgy c j).filterMap λc:Nat=>(WaF l (c:Int)).map λv=>((c:Int),v)
 |0,c,o=>by simp[WlB]
 |j+1,c,o=>by
  rw[WlB,Wpz l j,List.range'_succ,List.filterMap_cons];unfold Wlp;cases h:WaF l (c:Int)<;>simp
theorem Wot(l:List Rw):WbF l=(Xgy 0 8).filterMap λc:Nat=>(WaF l (c:Int)).map λv=>((c:Int),v):=by simp[WbF,Wpz]
theorem Wfv{l:List Rw}{r:Rw}:r∈WbF l↔(0<=r.1/\r.1<=7)/\WaF l r.1=some r.2:=by
 rw[Wot,List.mem_filterMap];constructor
 .rintro⟨c,hc,h⟩;rw[Xgx]at hc;cases hl:WaF l (c:Int)with
  |none=>simp_all
  |some v=>
   grind
 .rintro⟨h0,h⟩;refine⟨r.1.toNat,Xgx.2 (by omega),?_⟩
  grind
theorem Wga(l:List Rw):(WbF l).Pairwise λa b=>a.1<b.1:=by
 rw[Wot,List.pairwise_filterMap];refine List.Pairwise.imp ?_ (List.pairwise_lt_range' (s:=0) (n:=8));simp_all
theorem Wfc(l:List Rw):(WbF l).length<=8:=by
 grind [Wot,Xcr,List.length_filterMap_le]
theorem Wdg{l:List Rw}:Weq (WbF l):=by
 intro r hr;obtain⟨h0,h1⟩:=Wfv.1 hr;obtain⟨h2,h3⟩:=WiJ h1;unfold Wbm at h2;simp only[Xj]at h2;have:=(Wim.1 h2.2) _ h3;omega
end
section
theorem Wfu{p:Pb}:Wk7 p=true↔(0<=p.1/\p.1<=7)/\(0<=p.2.1/\p.2.1<=4)/\(0<=p.2.2.1/\p.2.2.1<=1000000)/\0<=p.2.2.2/\p.2.2.2<=65535:=by
 simp[Wk7,W8,Wby,Xj,Wh]
theorem WfP{c:Int}{w:Wd}:Wrq c w=true↔(0<=w.1/\w.1<=65535)/\(0<=w.2.1/\w.2.1<=c)/\0<=w.2.2/\w.2.2<=99:=by
 simp[Wrq,Wby,Xj,Wh]
theorem Wtc{m:Mm}(h:W3 m=true){c:Int}(hc:0<=c/\c<=7):Wrq m.1 (Wa0 m.2 c (0,0,0))=true:=by
 grind [WO,Wa0,Wn,Xw]
theorem WmH{m:Mm}{rv:Int}{p:Pb}(hm:W3 m=true)(hp:Wk7 p=true):Wk7 (WM m rv p)=true/\(WM m rv p).1=p.1:=by
 have eZ:=Wfu.1 hp;have hw:=Wtc hm eZ.1;rw[WfP]at hw;obtain⟨h8,h0,h1,_⟩:=WO hm;unfold WM;simp only[WC,WaP];have BT:Wrq m.1 (Xc m.2 (Xa p.1) (0,0,0))=true:=Wtc hm eZ.1
 grind [WfP,Wfu]
section
variable{code:List Opn}{pc cR wl lQ:Nat}{ms q:List KM}{y:KM}{c c' n n':Int}{x:Kd}{f:Fm}{m:Mm}{codes:List (List Opn)}{k:Nat}
theorem KMk.mono(h:KMk code pc ms wl)(hs:stk code cR=stk code pc)(hw:wl<=lQ):KMk code cR ms lQ:=
 ⟨by rw[hs];exact h.pcs,λq hq=>by have:=h.each q hq;grind,h.up⟩
theorem KMk.begin(h:KMk code pc ms wl)(hp:pc<code.length)(h8:code[pc].1=8){regs:List Int}(hr:Vals 4 regs)(hw:wl<=pc):KMk code (pc+1) (ms++ [((pc:Int),(wl:Int),regs)]) wl:=by
 refine⟨?_,?_,?_⟩
 .rw[WjH hp h8,Xu,Xu,h.pcs];rfl
 .intro q hq;rcases Xm.1 hq with hq|hq
  .exact h.each q hq
  simp_all
 .refine Xai.2 ⟨h.up,List.pairwise_singleton _ _,λa ha b hb=>?_⟩;rw[Xaf]at hb;subst hb;exact(h.each a ha).2.2.2
theorem KMk.drop(h:KMk code pc ms wl)(rF:ms=q++ [y])(hs:stk code cR=(stk code pc).dropLast)(hw:y.2.1<=lQ):KMk code cR q lQ:=by
 subst rF;have h1:=h.pcs;refine⟨?_,λa ha=>?_,(Xai.1 h.up).1⟩
 .grind
 .have h2:=h.each a (List.mem_append_left _ ha);have h3:=(Xai.1 h.up).2.2 a ha y (by simp)
  grind
theorem KOk.wk(h:KOk code c n x)(hc:c<=c')(hn:n<=n'):KOk code c' n' x:=
 {h with since:=by have:=h.since;omega,tries:=by have:=h.tries;omega}
theorem Wpb(h:KOk code c n x)(hc:c=f.clock)(hf:Vals 4 f.regs)(h0:0<=f.clock):KOk code c (n+1) (f.again x) where
 pc:=⟨Xab _,by show(0:Int)<=_;omega⟩
 regs:=hf
 rows:=λr hr=>by cases hr
 wl:=Xab _
 sl:=Xab _
 since:=by show 0<=f.clock/\f.clock<=c;omega
 tries:=by have:=h.tries;show 0<=x.tries+1/\x.tries+1<=n+1;omega
 seen:=λe he=>by cases he
 marks:=λ_=>⟨by show([]:List KM).map _=(stk code 0).map _;rfl,(λq hq=>by cases hq),List.Pairwise.nil⟩
 pos:=⟨Xab _,Xab _⟩
 pb:=λh=>by cases h
 phase:=by show(0:Int)<=0/\(0:Int)<=3;omega
 out:=by show(0:Int)<=0/\(0:Int)<=2;omega
theorem KMk.len(hc:CC code)(h:KMk code pc ms wl)(hp:pc<=code.length):(ms.length:Int)=dep code pc:=by
 have:=Wm Xb h.pcs;simp only[Xad]at this;rw[this,WaV hc.up pc hp]
theorem KOk.on(ba:CC code)(h:KOk code c n x)(h0:x.phase=0){i:Nat}(hi:i<code.length)(aR:x.pc=i){regs:List Int}{seen:List En}{writes:List Rw}{marks:List KM}{busy:Bool}{pb:Pb}{cR:Nat}(hp:cR<=code.length)(hlt:i<cR)(hr:Vals 4 regs)(hrow:Weq writes)(g0:writes.length<=x.writes.length+1)(hsl:seen.length<=x.seen.length+1)
  (hs:∀e∈seen,(0<=e.1/\e.1<=7)/\(0<=e.2.1/\e.2.1<=65535)/\ -1<=e.2.2/\e.2.2<=x.since) (hse:x.seen.length<=seen.length) (hm:KMk code cR marks writes.length) (hb:busy=true->Wk7 pb=true):
  KOk code c n {x with regs:=regs,seen:=seen,writes:=writes,marks:=marks,busy:=busy,pb:=pb,pc:=(cR:Int)}:=
 {h with
  pc:=by simp_all
  regs:=hr
  rows:=hrow
  wl:=by have:=h.wl;grind
  sl:=by have:=h.sl;grind
  seen:=hs
  marks:=λ_=>by simp_all
  pos:=by have:=h.pos;grind
  pb:=hb}
theorem Wuy(ba:CC code)(hF:FOk codes n f)(h:KOk code f.clock n x)(h0:x.phase=0){i:Nat}(hi:i<code.length)(aR:x.pc=i)(h5:code[i].1=5)(hm:W3 m=true):
  KOk code f.clock (n+1) (Wbn m f x code[i]).2/\((Wbn m f x code[i]).1=f\/(Wbn m f x code[i]).1={f with lost:=true}):=by
 have aV:=WpI (ba.ok i hi).1 h5;have hB:0<=code[i].2.2.1/\code[i].2.2.1<=7:=by grind [W8]
 have hM:=h.marks h0;rw[aR,Xi]at hM;have bb:stk code (i+1)=stk code i:=Wev hi (by omega) (by omega);have cA:x.pc+1=((i+1:Nat):Int):=by omega
 unfold Wbn;cases hl:WaF x.writes code[i].2.2.1 with
 |some v=>
  have hv:=h.rows _ (WiJ hl).2;refine⟨?_,.inl rfl⟩;simp only[cA];exact(KOk.on ba h h0 hi aR (by omega) (by omega) (h.regs.set _ hv.2) h.rows (by omega) (by omega) h.seen (by omega) (hM.mono bb (by omega)) h.pb).wk (by omega) (by omega)
 |none=>
  simp only;cases he:ent f.buf code[i].2.2.1 with
  |some r=>
   simp only;have hr:=WcS he;have nD:r.2∈f.buf:=by
    grind
   have iY:=hF.bufE _ nD;split
   .exact⟨Wpb h rfl hF.regs hF.clock.1,.inl rfl⟩
   .refine⟨?_,.inl rfl⟩;simp only[cA];refine(KOk.on ba h h0 hi aR (by omega) (by omega) (h.regs.set _ iY.2.1) h.rows (by omega) (by simp) (λe eQ=>?_) (by simp) (hM.mono bb (by omega)) h.pb).wk (by omega) (by omega);rcases Xm.1 eQ with eQ|eQ
    .exact h.seen e eQ
    grind
  |none=>
   simp only;have fR:Wk7 (if x.busy=true then x.pb else(code[i].2.2.1,0,0,0))=true:=by
    split
    .exact h.pb ‹_›
    grind [Wfu]
   have cJ:=WmH (rv:=f.rv) hm fR;generalize WM m f.rv (if x.busy=true then x.pb else(code[i].2.2.1,0,0,0))=p at*;have hp:=Wfu.1 cJ.1;split
   .refine⟨?_,.inr rfl⟩;exact KOk.wk (n:=n) {h with pb:=λ_=>cJ.1} (by omega) (by omega)
   .split
    .refine⟨?_,.inl rfl⟩;simp only[cA];refine(KOk.on ba h h0 hi aR (by omega) (by omega) (h.regs.set _ hp.2.2.2) h.rows (by omega) (by simp) (λe eQ=>?_) (by simp) (hM.mono bb (by omega)) (λh=>by cases h)).wk (by omega) (by omega);rcases Xm.1 eQ with eQ|eQ
     .exact h.seen e eQ
     .rw[Xaf]at eQ;subst eQ;exact⟨hB,hp.2.2.2,by simp,by have:=h.since;grind⟩
    .refine⟨?_,.inl rfl⟩;exact KOk.wk (n:=n) {h with pb:=λ_=>cJ.1} (by omega) (by omega)
theorem Wws(aU:KC code)(hF:FOk codes n f)(h:KOk code f.clock n x)(h0:x.phase=0)(hm:W3 m=true):
  KOk code f.clock (n+1) (Wgw m f x code).2/\((Wgw m f x code).1=f\/(Wgw m f x code).1={f with lost:=true}):=by
 have ba:=aU.toCC;unfold Wgw;split
 .refine⟨?_,.inl rfl⟩;exact KOk.wk (n:=n) {h with marks:=λh=>by simp_all,phase:=by simp_all,out:=by simp_all} (by omega) (by omega)
 .obtain⟨i,hi,aR,ho⟩:=Wdc (l:=code) h.pc.1 (by omega);simp only[ho];obtain⟨ok,o1,fV⟩:=aU.ok i hi;have ch:=aU.k10 i hi;have hM:=h.marks h0;rw[aR,Xi]at hM;have cA:x.pc+1=((i+1:Nat):Int):=by omega
  have g0:x.writes.length<=i:=by have:=h.wl;omega
  split
  .grind [Wuy]
  .split
   .refine⟨?_,.inl rfl⟩;unfold Wel;split
    .refine KOk.wk (n:=n) {h with rows:=(λr hr=>by cases hr),wl:=by simp_all,marks:=λh=>by simp_all,phase:=by simp_all,out:=by simp_all} (by omega) (by omega)
    .obtain⟨j,q,y,e1,e2,e3,⟨hj,h8⟩,qG,bq,gU,e5,e6⟩:=WhQ (d:=((0,0,[]):KM)) ba (show i<=code.length by omega) hM.pcs ‹_›;obtain⟨y1,y2,y3,y4⟩:=hM.each y (by grind);simp only[e2,e3,Xi,←Int.natCast_succ];have hl:=bq.len;have ht:(Xal y.2.1.toNat x.writes).length=y.2.1.toNat:=by simp_all
     refine(KOk.on ba h h0 hi aR (cR:=Wer code j+1) (by omega) (by omega) (y1.set _ (by omega)) (λr hr=>h.rows r (List.mem_of_mem_take hr)) (by omega) (by omega) h.seen (by omega) ?_ h.pb).wk (by omega) (by omega);rw[show x.marks.dropLast=q by grind];exact hM.drop e1 (by rw[bq.st];exact e5) (by omega)
   .split
    .refine⟨?_,.inl rfl⟩;have hk:=Wwu ok ‹_›;have bb:stk code (i+1)=stk code i:=Wev hi (by omega) (by omega);simp only[cA];refine(KOk.on ba h h0 hi aR (by omega) (by omega) h.regs (λr hr=>?_) (by simp) (by omega) h.seen (by omega) (hM.mono bb (by simp)) h.pb).wk (by omega) (by omega);rcases Xm.1 hr with hr|hr
     .exact h.rows r hr
     .rw[Xaf]at hr;subst hr;have:=hk.1;unfold W8 at this;exact⟨by simp_all,h.regs.get _⟩
    .split
     .refine⟨?_,.inl rfl⟩;obtain⟨s1,s2⟩:=aU.sk i hi ‹_›;have hk:=WtB ok ‹_›;have bb:stk code (i+1)=stk code i:=Wev hi (by omega) (by omega);have qH:stk code (i+1+code[i].2.2.1.toNat)=stk code i:=by grind [Wk1]
      by_cases hg:Wa0 x.regs code[i].2.1 0=0
      .simp only[Wb hg,show x.pc+code[i].2.2.1+1=((i+1+code[i].2.2.1.toNat:Nat):Int) by omega];exact(KOk.on ba h h0 hi aR s1 (by omega) h.regs h.rows (by omega) (by omega) h.seen (by omega) (hM.mono qH (by omega)) h.pb).wk (by omega) (by omega)
      .simp only[Wa hg,cA];exact(KOk.on ba h h0 hi aR (by omega) (by omega) h.regs h.rows (by omega) (by omega) h.seen (by omega) (hM.mono bb (by omega)) h.pb).wk (by omega) (by omega)
     .split
      .refine⟨?_,.inl rfl⟩;simp only[cA];rw[aR];exact(KOk.on ba h h0 hi aR (by omega) (by omega) h.regs h.rows (by omega) (by omega) h.seen (by omega) (hM.begin hi ‹_› h.regs g0) h.pb).wk (by omega) (by omega)
      .split
       .refine⟨?_,.inl rfl⟩;have hz:x.marks.length≠0:=by
         have h1:=hM.len ba (by omega);have h3:=ba.up i hi
         grind [Waq,WkV]
        obtain⟨j,q,y,e1,e2,e3,⟨hj,h8⟩,qG,bq,gU,e5,e6⟩:=WhQ (d:=((0,0,[]):KM)) ba (show i<=code.length by omega) hM.pcs hz;obtain⟨y1,y2,y3,y4⟩:=hM.each y (by grind);simp only[cA];refine(KOk.on ba h h0 hi aR (by omega) (by omega) (h.regs.set _ (by omega)) h.rows (by omega) (by omega) h.seen (by omega) ?_ h.pb).wk (by omega) (by omega);rw[show x.marks.dropLast=q by grind];exact hM.drop e1 (WkN hi ‹_›) (by omega)
       .refine⟨?_,.inl rfl⟩;have bb:stk code (i+1)=stk code i:=Wev hi (by omega) (by omega);simp only[cA];exact(KOk.on ba h h0 hi aR (by omega) (by omega) (Wih ok (by omega) (by omega) h.regs) h.rows (by omega) (by omega) h.seen (by omega) (hM.mono bb (by omega)) h.pb).wk (by omega) (by omega)
end
end
section
def Wgf(c:Int)(v:List En)(r:Rw):List En:=match ent v r.1 with
 |some a=>v.set a.1 (r.1,r.2,c)
 |none=>v++ [(r.1,r.2,c)]
theorem Wnp(c:Int)(v:List En)(r:Rw):(Wgf c v r).length<=v.length+1:=by
 unfold Wgf;split<;>simp
theorem apE{a b:En}:Ap cfE a b↔a.1≠b.1:=by unfold Ap cfE;omega
theorem Wr8{c:Int}{L M:List En}{r:Rw}(hL:L.Pairwise (Ap cfE))(hM:Ris cfE M)(hm:∀x,x∈L↔x∈M):
  (Wgf c L r).Pairwise (Ap cfE)/\Ris cfE (Wes cfE M (r.1,r.2,c))/\∀x,x∈Wgf c L r↔x∈Wes cfE M (r.1,r.2,c):=by
 have key:(Wgf c L r).Pairwise (Ap cfE)/\∀x,x∈Wgf c L r↔x=(r.1,r.2,c)\/(x∈L/\Ap cfE x (r.1,r.2,c)):=by
  unfold Wgf ent;cases he:fnd (λe:En=>e.1==r.1) L 0 with
  |some a=>
   obtain⟨h1,h2,h3,h4⟩:=WcS he;simp only[Xaz,Xdt]at h3 h4
   grind [Xp,WmK,Wui,apE]
  |none=>
   grind [WgH,Wkt,apE]
 refine⟨key.1,WcK Wui hM,λx=>?_⟩;rw[key.2 x,WbA Wui hM,hm]
theorem Wtj{c:Int}:∀{rows:List Rw} {L M:List En},L.Pairwise (Ap cfE)->Ris cfE M->(∀x,x∈L↔x∈M)->
  (rows.foldl (Wgf c) L).Pairwise (Ap cfE)/\Ris cfE (WaR c M rows)/\∀x,x∈rows.foldl (Wgf c) L↔x∈WaR c M rows
 | [],_,_,hL,hM,hm=>⟨hL,hM,hm⟩
 |r::rows,L,M,hL,hM,hm=>by
  obtain⟨a,b,d⟩:=Wr8 (c:=c) (r:=r) hL hM hm;exact Wtj (rows:=rows) a b d
theorem WmV{c:Int}:∀(rows:List Rw) (L:List En),(rows.foldl (Wgf c) L).length<=L.length+rows.length
 | [],L=>by simp
 |r::rows,L=>by
  have:=WmV (c:=c) rows (Wgf c L r)
  grind [Wnp,Xr]
theorem WeP{c:Int}{P:En->Prop}:∀{rows:List Rw} {M:List En},Ris cfE M->(∀x∈M,P x)->(∀r∈rows,P (r.1,r.2,c))->∀x∈WaR c M rows,P x
 | [],_,_,h,_=>h
 |r::rows,M,hM,h,hr=>by
  refine WeP (rows:=rows) (WcK Wui hM) (λx hx=>?_) λr' h'=>hr r' (Xf _ h');rcases(WbA Wui hM).1 hx with rfl|h'
  .simp_all
  simp_all
theorem Wqe{R:Type}{N:Nat}{k4:Int}{b7 b8 b9:Int}{bj:Bool}{bN eH aB dZ dp ak:Int}{jf:Bool}{fW ep jg dS:Int}{bS:List Kc}{dy:List Int}{gD:List Kc}{gE:List Int}{ff:List Kc}{jh:List Y_KidRun}{cN:Nat}{dr:List Int}{gF:List Kb}{gG:List Kc}{co:List Kl}{K0:Int->Bool->Ks->Option R}(hN:1048576<N)(BU:bS.length<=8):
  ∀(d j n:Nat) (v:List En),j+d=bS.length->d<n->v.length<=100+j->
  Zau N k4 (Wi bS) b7 b8 b9 bj bN eH aB dZ dp ak jf fW ep jg dS bS dy gD gE ff jh cN dr gF gG co K0 n (j:Int) v=K0 (bS.length:Int) false ((bS.drop j).foldl (Wgf b8) v)
 |0,j,n+1,v,hj,hn,hv=>by
  simp_all [Zau,Wat,Xn,Wc,Xcn,List.foldl_nil]
 |d+1,j,n+1,v,hj,hn,hv=>by
  have hlt:j<bS.length:=by omega
  have m0:=Wf0 (N:=N) (f:=(b7,(b8,(b9,(bj,(dy,(gD,(v,(gE,(ff,Xg jh cN (bN,(eH,(aB,(dZ,(dp,(ak,(dr,(gF,(gG,(co,(jf,(fW,(ep,(jg,dS)))))))))))))))))))))))) (c:=bS[j].1) (by grind) hN;have hs:=Wnp b8 v bS[j];have de:∀v',v'=Wgf b8 v bS[j]->Zau N k4 (Wi bS) b7 b8 b9 bj bN eH aB dZ dp ak jf fW ep jg dS bS dy gD gE ff jh cN dr gF gG co K0 n ((j+1:Nat):Int) v'=K0 (bS.length:Int) false ((bS.drop j).foldl (Wgf b8) v):=λv' BV=>by
   subst BV;rw[Wqe hN BU d (j+1) n _ (by omega) (by omega) (by omega),Xcj hlt,List.foldl_cons]
  simp only[Zau,WA,W2 hlt,Wq hlt,Wt hlt,Wp (show j<4611686018427387904 by omega),We,m0,ret,Xd];have hd:ent v bS[j].1=ent v bS[j].1:=rfl;unfold Wgf at de;cases he:ent v bS[j].1 with
  |some a=>
   rw[he]at de;obtain⟨h1,h2,h3,h4⟩:=WcS he;rw[Xaz]at h3;simp only[Wf (show((a.1:Int)>=0) by omega),We];rw[W9,Wf h3];simp only[We,Xi];exact de _ rfl
  |none=>
   rw[he]at de;simp only[show decide ((-1:Int)>=0)=false from rfl,Wc];rw[Wx (by simp;omega)];simp only[We,Xaw];exact de _ rfl
 |_,_,0,_,_,h,_=>by omega
theorem Wl4{R:Type}{N:Nat}{kE dE fF fG:Int}{fH:Bool}{fI fX fY fZ ga kF:Int}{kG:Bool}{kH kI kJ kK:Int}{dJ:List Kb}{fJ:List Int}{kL:List Kc}{kM:List Kb}{kN:List Int}{fK:List Y_KidRun}{kO:Nat}{dz:List Int}{dA:List Kc}{dB:List Kl}{K0:Int->Bool->Kz->Option R}(zV:dJ.length<=1000):
  ∀(d j n:Nat) (v:List Rw),j+d=dJ.length->d<n->v.length<=1000+j->
  Za3 N kE (Wi dJ) dE fF fG fH fI fX fY fZ ga kF kG kH kI kJ kK dJ fJ kL kM kN fK kO dz dA dB K0 n (j:Int) v=K0 (dJ.length:Int) false (v++Wbu (dJ.drop j))
 |0,j,n+1,v,hj,hn,hv=>by
  have:j=dJ.length:=by omega
  subst this;simp only[Za3,Wat (Xn dJ.length),Wc,Xcn,Wbu,List.filter_nil,Xbd,List.append_nil]
 |d+1,j,n+1,v,hj,hn,hv=>by
  have hlt:j<dJ.length:=by omega
  have he:Wbu (dJ.drop j)=if dJ[j].2.2= -1 then(dJ[j].1,dJ[j].2.1)::Wbu (dJ.drop (j+1))else Wbu (dJ.drop (j+1)):=by
   rw[Xcj hlt];unfold Wbu
   grind
  simp only[Za3,WA,W2 hlt,Wq hlt,Wt hlt,Wp (show j<4611686018427387904 by omega),We,WC];rw[he];by_cases h:dJ[j].2.2= -1
  .rw[Wb h,Wb h,Wx (by simp;omega)];simp only[We];rw[Wl4 zV d (j+1) n _ (by omega) (by omega) (by simp;omega)];simp
  .rw[Wa h,Wa h];rw[Wl4 zV d (j+1) n _ (by omega) (by omega) (by omega)]
 |_,_,0,_,_,h,_=>by omega
variable{N:Nat}{codes:List (List Opn)}{n:Int}{f:Fm}{k:Nat}{code:List Opn}{m:Mm}{x:Kd}
theorem Wxe{l:List En}(h:Ris cfE l):l.Pairwise (Ap cfE):=h.imp λh=>.inl h
theorem Wlw(hk:k<f.kids.length)(h3:f.kids.length<=3)(m6:code.length<=24)(hF:FOk codes n f)(aA:codes.getD k []=code)(bg:f.kids[k]=x)(hN:1048576<N):
  Zdq N f.e (k:Int)=some (((Fm.put (Waf f x k) k).e,()),()):=by
 have hx:=hF.kid k hk;rw[aA,bg]at hx;obtain⟨f0,f1,f2,f3,f4,f5,f6,f7,f8,f9⟩:=fmP f;have aR:=hx.pc;have g0:=hx.wl;have hsl:=hx.sl;have hb8:=hF.buf8;have qI:f.order.length<=3:=by
  have h1:=hF.done
  grind
 have jv:=hF.readsL;have e2:Xc (f.kids.map Kd.e) (Xa (k:Int)) d_KidRun=x.e:=by
  simp_all
 unfold Zdq;simp only[f9,Xad];rw[W9,Wf hk];simp only[We,e2];have en:Zgf N x.e.2.2.2.2.2.2.2.2.1=ret (WbF x.writes):=Wd9 (show x.writes.length<=1048576 by omega) hN;rw[en];simp only[ret,Xd];have jB:=Wfc x.writes;rw[show(0:Int)=((0:Nat):Int)from rfl];rw[Wqe (bS:=WbF x.writes) hN jB (WbF x.writes).length 0 N _ (by omega) (by omega) (by grind)];simp only[Xbm];have hP6:P6 f.e=f.buf:=rfl;have hcl:Wl .i64 f.e.2.1 1=f.clock+1:=Wc2 (by have:=hF.clock;omega);rw[hP6,hcl];obtain⟨i1,i2,i3⟩:=Wtj (c:=f.clock+1) (rows:=WbF x.writes) (Wxe hF.bufR) hF.bufR (λx=>Iff.rfl);unfold Zai;have iv:=WmV (c:=f.clock+1) (WbF x.writes) f.buf;rw[Wpc (rng:=WwO) (N:=N) Wui i2 i1 i3 (λe he=>?_) (by omega)]
 .simp only[Xd];have hP7:P7 x.e=x.seen:=rfl;rw[show(Kd.e x).2.2.2.2.2.2.2.1=x.seen from rfl];rw[Wl4 (dJ:=x.seen) (by omega) x.seen.length 0 N _ (by omega) (by omega) (by grind)];rw[Wx (by grind)];simp only[We,Xbm];have hU:∀(g:Fm) (y:Kd),U6 (Xg (f.kids.map Kd.e) k y.e) (S5 (f.reads++Wbu x.seen) (S4 (f.order++ [(k:Int)]) (S3 (WaR (f.clock+1) f.buf (WbF x.writes)) f.e.2.2.2)))=(f.lost,f.regs,f.start,WaR (f.clock+1) f.buf (WbF x.writes),f.order++ [(k:Int)],f.reads++Wbu x.seen,(f.kids.set k y).map Kd.e):=λg y=>by
   rw[Xfw];rfl
  rw[Xi];exact Wm (λz=>some (((f.rv,(f.clock+1,((0:Int),z))),()),())) (hU f {x with phase:=3,pos:=0,marks:=[]})
 .have h1:=(i3 e).1 he;have:=WeP (P:=λe=>0<=e.1/\e.1<=7) hF.bufR (λe he=>(hF.bufE e he).1) (λr hr=>(Wfv.1 hr).1) e h1
  grind [WwO,Wvu]
theorem Wnb(hk:k<f.kids.length)(hF:FOk codes n f)(hx:KOk code f.clock n x)(bg:f.kids[k]=x)(hn:n<=100000)(o:Int):
  Zbf N (Fm.e {f with owner:=o}) (k:Int)=some (((Fm.put ({f with owner:=o},f.again x) k).e,()),()):=by
 have h:=WeZ (N:=N) (f:=Fm.e {f with owner:=o}) (k:=k) (x:=x.e) (by show k<(f.kids.map Kd.e).length;simp_all) hF.regs.len (by have:=hx.tries;show 0<=x.tries/\x.tries<=100000;omega);have e3:U9 (Xg (Q9 (Fm.e {f with owner:=o})) k x.e) (Fm.e {f with owner:=o})=Fm.e {f with owner:=o}:=by
  have:=U9e {f with owner:=o} k x;rw[←bg]at this;simp only[Xap]at this;rw[←bg];exact this
 rw[e3]at h;rw[h];exact Wm (λz=>some ((z,()),())) (U9e {f with owner:=o} k (f.again x))
theorem Wlr(hk:k<f.kids.length)(h3:f.kids.length<=3)(hm:W3 m=true)(aU:KC code)(hF:FOk codes n f)(aA:codes.getD k []=code)(hn:n<=100000)(hN:1048576<N):
  Zik N f.e (k:Int) code m=some (((Wax m f k code).e,()),()):=by
 obtain⟨x,bg⟩:∃x,f.kids[k]=x:=⟨_,rfl⟩;have hx:=hF.kid k hk;rw[aA,bg]at hx;obtain⟨f0,f1,f2,f3,f4,f5,f6,f7,f8,f9⟩:=fmP f;obtain⟨k0,k1,k2,k3,k4,k5,k6,k7,k8,k9,k10⟩:=kdP x;have hsl:=hx.sl;have aR:=hx.pc;have m6:=aU.len;have e2:Xc (f.kids.map Kd.e) (Xa (k:Int)) d_KidRun=x.e:=by
  simp_all
 have e3:U9 (Xg (f.kids.map Kd.e) (Xa (k:Int)) x.e) f.e=f.e:=by
  rw[Xi,U9e,←bg,Xap]
 have e4:Fm.put (f,x) k=f:=by unfold Fm.put;simp only;rw[←bg,Xap]
 unfold Zik Wax WaN;simp only[WA,f9,f3,Xad];rw[Wic];by_cases ca:f.lost=true
 .rw[Wb ca,Wb ca]
 rw[Wa ca,Wa ca];rw[W9,Wf hk];simp only[We,Wc,e2,e3,k0,k4,k7,f2,WC,Wn hk,bg];by_cases h0:x.phase=0
 .rw[Wb h0,Wb h0,WoL hk hm aU hF aA bg h0 hn hN];rfl
 .rw[Wa h0,Wa h0];by_cases h1:x.phase=1
  .rw[Wb h1,Wb h1];by_cases ho:f.owner=0
   .rw[Wb ho,Wb ho,Wc2 (by omega),Xi];exact Wrp rfl rfl rfl
   simp_all
  .rw[Wa h1,Wa h1];by_cases h2:x.phase=2
   .rw[Wb h2,Wb h2];unfold Wi;by_cases hp:x.pos=(x.seen.length:Int)
    .rw[Wb hp,Wb hp,Wlw hk h3 m6 hF aA bg hN];rfl
    .rw[Wa hp,Wa hp];have hpos:=hx.pos;have iT:inb x.pos x.seen.length=true:=by grind [inb]
     rw[iT];have hg:Xc x.seen (Xa x.pos) ((0,0,0):En)=Wa0 x.seen x.pos (0,0,0):=rfl;simp only[We,hg];have m0:=Wf0 (N:=N) (f:=f.e) (c:=(Wa0 x.seen x.pos (0,0,0)).1) (by show f.buf.length<=1048576;have:=hF.buf8;omega) hN;rw[show f.e.2.2.2.2.2.2.1=f.buf from rfl]at m0;rw[m0];simp only[ret,Xd,f6];have hsz:S2 (0:Int) f.e=Fm.e {f with owner:=0}:=rfl;have ig:Zbf N (U9 (Xg (f.kids.map Kd.e) (Xa (k:Int)) x.e) (S2 0 f.e)) (k:Int)=some (((Fm.put ({f with owner:=0},f.again x) k).e,()),()):=by
      grind [U9e,Xi,U9,Xg,Kd.e,Fm.e,Xap,Wnb]
     unfold Wqy;have tU:Wl .i64 x.pos 1=x.pos+1:=Wc2 (by omega);rw[tU];cases he:ent f.buf (Wa0 x.seen x.pos (0,0,0)).1 with
     |some a=>
      obtain⟨g1,g2,g3,g4⟩:=WcS he;rw[Xaz]at g3;rw[Xdt,Xp g3]at g4;injection g4 with g4;simp only[Wf (show((a.1:Int)>=0) by omega),We];rw[W9,Wf g3];simp only[We,Wt g3,g4];by_cases hv:a.2.2.2=(Wa0 x.seen x.pos (0,0,0)).2.2
      .rw[Wb hv,Wb hv,Xi];exact Wrp rfl rfl rfl
      simp_all
     |none=>
      simp only[show decide ((-1:Int)>=0)=false from rfl,Wc];by_cases hv:(-1:Int)=(Wa0 x.seen x.pos (0,0,0)).2.2
      .rw[Wb hv,Wb hv,Xi];exact Wrp rfl rfl rfl
      simp_all
   simp_all
end
section
section
variable{codes:List (List Opn)}{n:Int}{f f':Fm}{k:Nat}{code:List Opn}{m:Mm}{x y:Kd}
theorem FOk.len3(h:FOk codes n f)(h3:codes.length<=3):f.order.length<=3:=by
 have h1:=h.done;have:=Xgh (p:=λx:Kd=>decide (x.phase=3)) (l:=f.kids);have:=h.len;omega
theorem FOk.put1(h:FOk codes n f)(hk:k<f.kids.length)(aA:codes.getD k []=code){o:Int}{l:Bool}(ho:0<=o/\o<=f.kids.length)(hy:KOk code f.clock (n+1) y)(hp:f.kids[k].phase≠3)(BW:y.phase≠3):
  FOk codes (n+1) (Fm.put ({f with owner:=o,lost:=l},y) k) where
 len:=by show(f.kids.set k y).length=_;rw[Xy];exact h.len
 regs:=h.regs
 clock:=h.clock
 done:=by
  show f.order.length=(f.kids.set k y).countP _;rw[Xhe hk,Wa (by simp_all),Wa (by simp_all)];exact h.done
 bufR:=h.bufR
 bufE:=h.bufE
 readsL:=h.readsL
 readsE:=h.readsE
 owner:=by show 0<=o/\o<=((f.kids.set k y).length:Int);simp_all
 kid:=λi hi=>by
  change i<(f.kids.set k y).length at hi;rw[Xy]at hi;show KOk (codes.getD i []) f.clock (n+1) (f.kids.set k y)[i];rw[Xam];by_cases he:k=i
  .simp_all
  .rw[Wa he];exact(h.kid i hi).wk (by omega) (by omega)
theorem FOk.wk(h:FOk codes n f){n':Int}(hn:n<=n'):FOk codes n' f:=
 {h with kid:=λk hk=>(h.kid k hk).wk (by omega) hn}
theorem WlH(h:∀e∈x.seen,(0<=e.1/\e.1<=7)/\(0<=e.2.1/\e.2.1<=65535)/\ -1<=e.2.2/\e.2.2<=x.since):Weq (Wbu x.seen):=by
 intro r hr;unfold Wbu at hr
 grind
theorem Wny(l:List En):(Wbu l).length<=l.length:=by
 simp[Wbu,Xad,List.length_filter_le]
theorem WhU{c:Int}:∀{rows:List Rw} {M:List En},Ris cfE M->Ris cfE (WaR c M rows)
 | [],_,h=>h
 |r::rows,M,h=>WhU (rows:=rows) (WcK Wui h)
theorem WrD(hF:FOk codes n f)(hk:k<f.kids.length)(aU:code.length<=24)(aA:codes.getD k []=code)(bg:f.kids[k]=x)(h2:x.phase=2):
  FOk codes (n+1) (Fm.put (Waf f x k) k):=by
 have hx:=hF.kid k hk;rw[aA,bg]at hx;have hc:=hF.clock;unfold Waf Fm.put;refine{len:=?_,regs:=hF.regs,clock:=?_,done:=?_,bufR:=WhU hF.bufR,bufE:=?_,readsL:=?_,readsE:=?_,owner:=?_,kid:=?_}
 .simp only[Xy];exact hF.len
 .grind
 .simp only[Xs,Xew];rw[Xhe hk,bg,Wa (by simp[h2]),Wb (by simp),←hF.done];rfl
 .simp only;refine WeP hF.bufR (λe he=>?_) λr hr=>?_
  .have:=hF.bufE e he;omega
  .have:=Wdg r hr;grind
 .have h1:=hF.readsL;have h2:=Wny x.seen;have h3:=hx.sl;have h4:=hx.pc
  grind
 .intro r hr;rcases Xm.1 hr with hr|hr
  .exact hF.readsE r hr
  .exact WlH hx.seen r hr
 .simp_all
 .intro i hi;simp only[Xy]at hi;simp only[Xam];by_cases he:k=i
  .subst he;rw[Wb rfl,aA];refine KOk.wk (c:=f.clock) (n:=n) ?_ (by omega) (by omega);exact{hx with marks:=(λh=>by simp_all),pos:=⟨Xab _,by simp_all⟩,phase:=by simp_all}
  .rw[Wa he];exact(hF.kid i hi).wk (by omega) (by omega)
theorem Wgv(hk:k<f.kids.length)(hm:W3 m=true)(aU:KC code)(hF:FOk codes n f)(aA:codes.getD k []=code):FOk codes (n+1) (Wax m f k code):=by
 obtain⟨x,bg⟩:∃x,f.kids[k]=x:=⟨_,rfl⟩;have hx:=hF.kid k hk;rw[aA,bg]at hx;have e4:Fm.put (f,x) k=f:=by unfold Fm.put;simp only;rw[←bg,Xap]
 have hFw:=hF.wk (show n<=n+1 by omega);unfold Wax WaN;split
 .exact hFw
 rw[Wn hk,bg];split
 .rename_i h0;obtain⟨h1,h2⟩:=Wws aU hF hx h0 hm;have hnp:(Wgw m f x code).2.phase≠3:=by
   grind [Wgw,Wbn,Wel,Fm.again]
  have:=h1;have key:∀q:Fm×Kd,(q.1=f\/q.1={f with lost:=true})->KOk code f.clock (n+1) q.2->q.2.phase≠3->FOk codes (n+1) (Fm.put q k):=by
   rintro⟨g,y⟩ hg hy hp;simp only at hg hy hp;rcases hg with rfl|rfl
   .exact FOk.put1 (o:=g.owner) (l:=g.lost) hF hk aA hF.owner hy (by simp_all) hp
   .exact FOk.put1 (o:=f.owner) (l:=true) hF hk aA hF.owner hy (by simp_all) hp
  simp_all
 .split
  .rename_i h1;split
   .refine FOk.put1 (o:=(k:Int)+1) (l:=f.lost) hF hk aA (by omega) ?_ (by simp_all) (by simp_all);refine KOk.wk (c:=f.clock) (n:=n) ?_ (by omega) (by omega);exact{hx with marks:=(λh=>by simp_all),phase:=by simp_all}
   simp_all
  .split
   .rename_i h2;split
    .exact WrD hF hk aU.len aA bg h2
    .simp only;split
     .refine FOk.put1 (o:=f.owner) (l:=f.lost) hF hk aA hF.owner ?_ (by simp_all) (by simp_all);refine KOk.wk (c:=f.clock) (n:=n) ?_ (by omega) (by omega);exact{hx with pos:=by(have:=hx.pos;grind)}
     .refine FOk.put1 (o:=0) (l:=f.lost) hF hk aA (by omega) (Wpb hx rfl hF.regs hF.clock.1) (by simp_all) (by show(0:Int)≠3;omega)
   simp_all
theorem WrI{rv:Int}{regs:List Int}{writes:List Rw}(hr:Vals 4 regs)(hn:0<=n):FOk codes n (Wad rv regs writes codes.length) where
 len:=by simp[Wad]
 regs:=hr
 clock:=by simp[Wad]
 done:=by
  simp only[Wad,Xbs];rw[List.countP_replicate,Wa (by simp)]
 bufR:=by
  grind [Ris,Wad,Wga,cfE]
 bufE:=λe he=>by
  obtain⟨r,hr,rfl⟩:=Xx.1 he;have:=Wdg r hr
  grind [Wad]
 readsL:=by simp[Wad]
 readsE:=λr hr=>by cases hr
 owner:=by simp[Wad]
 kid:=λk hk=>by
  simp only[Wad,List.getElem_replicate];exact{pc:=by simp,regs:=hr,rows:=(λr hr=>by cases hr),wl:=by simp,sl:=by simp,since:=by simp,tries:=by simp;omega,seen:=(λe he=>by cases he),marks:=(λ_=>⟨by simp[stk],(λq hq=>by cases hq),List.Pairwise.nil⟩),pos:=by simp,pb:=(λh=>by cases h),phase:=by simp,out:=by simp}
end
end
section
theorem Who{α β R:Type}{body:Int->α->List β->(List β->Option R)->Option R}{K:Int->List β->Option R}{f:α->β}:∀(l:List α) (d r:List β),l.length<=r.length->
  (∀(j:Nat) x (v:List β) k,x∈l->j<v.length->body j x v k=k (v.set j (f x)))->Wcf body K l d.length (d++r)=K ((d.length+l.length:Nat):Int) (d++(l.map f++r.drop l.length))
 | [],d,r,_,_=>by simp[Wcf]
 |x::l,d,[],h,_=>by simp at h
 |x::l,d,y::r,h,hb=>by
  rw[Wcf,hb d.length x _ _ (Xk ..) (by simp),WjN];have:=Who (body:=body) (K:=K) (f:=f) l (d++ [f x]) r (by grind) λj z v k hz=>hb j z v k (Xf _ hz);simp only[Xs,Xew,Xbn,List.singleton_append]at this;rw[this];simp only[Xr,Xag,List.drop_succ_cons,Xax];rw[show d.length+1+l.length=d.length+(l.length+1) by omega]
theorem Wlq{α:Type}{R:Type}{l:List α}{p:α->Bool}{lp:Nat->Int->Option R}{N:Nat}{K0:Int->Option R}{K1:Option R}(hl:l.length<N)(ky:l.length<=1048576)(hs:∀n (j:Nat) (h:j<l.length),lp (n+1) (j:Int)=bif p l[j]then K0 j else lp n ((j+1:Nat):Int))(he:∀n,lp (n+1) (l.length:Int)=K1):lp N 0=match fnd p l 0 with|some r=>K0 r.1|none=>K1:=by
 have h1:=WR (l:=l) (V:=Unit) (lp:=λn j _=>lp n j) hl (body:=λj x v k=>bif p x then K0 j else k v) (K:=λ_ _=>K1) (λn j v h=>hs n j h) (λn v=>he n) ();refine(h1.trans (Wgj (p:=p) (E:=λj _=>K0 j) l 0 () λj x v k _=>rfl)).trans ?_;cases fnd p l 0<;>rfl
theorem WlC{α:Type}{p:α->Bool}:∀(l:List α) (j:Nat),(fnd p l j).isSome=l.any p
 | [],_=>rfl
 |x::l,j=>by
  unfold fnd;rw[List.any_cons];cases p x
  .simp[WlC l]
  .rfl
variable{N:Nat}
theorem Wnm{f:Fm}(h3:f.kids.length<=3)(hN:1048576<N):Zmj N f.e=ret (Wbe f):=by
 unfold Zmj Zah Zu;have e:f.e.2.2.2.2.2.2.2.2.2=f.kids.map Kd.e:=rfl;rw[e];have hl:(f.kids.map Kd.e).length<=3:=by simpa using h3
 have h1:=Wlq (l:=f.kids.map Kd.e) (p:=λx=>x.1 !=3) (N:=N) (lp:=λn j=>Zk N (f.kids.map Kd.e) (λaX=>(some ((),(aX,())))) (λaT bi=>(some ((),((-1:Int),())))) n j) (K0:=λj=>some ((),(j,()))) (K1:=some ((),((-1:Int),()))) (by omega) (by omega)
  (λn j hj=>by
   simp only[Zk,W2 hj,Wq hj,Wt hj,Wp (show j<4611686018427387904 by omega),We,Znc,Xd])
  (λn=>by simp only[Zk,Wat (Xn _),Wc])
 rw[h1];have h2:=WlC (p:=λx:Y_KidRun=>x.1 !=3) (f.kids.map Kd.e) 0;have h3:(f.kids.map Kd.e).any (λx=>x.1 !=3)= !Wbe f:=by
  unfold Wbe;rw[List.any_map,←WcP];have:((λx:Y_KidRun=>x.1 !=3)∘Kd.e)= λx:Kd=>!decide (x.phase=3):=by
   funext x;show(x.phase !=3)= !decide (x.phase=3);by_cases h:x.phase=3<;>simp[h]
  rw[this]
 rw[h3]at h2;cases hf:fnd (λx:Y_KidRun=>x.1 !=3) (f.kids.map Kd.e) 0 with
 |some r=>
  rw[hf]at h2;simp only[Xd,Wf (show((r.1:Int)>=0) by omega),Xv,ret];rw[show Wbe f=false by simpa using h2.symm]
 |none=>
  rw[hf]at h2;rw[show Wbe f=true by simpa using h2.symm];rfl
theorem Wm4{f:Fm}(h:f.buf.length<=1000)(hN:1048576<N):Zhk N f.e=ret (Wb1 f):=by
 unfold Zhk;have e:f.e.2.2.2.2.2.2.1=f.buf:=rfl;rw[e];have h1:=WR (l:=f.buf) (V:=List Rw) (R:=Unit×(List Rw×Unit)) (lp:=λn j v=>Zcw N f.buf (Wi f.buf) (λt9 aP aF=>(some ((),(aF,())))) n j v) (n:=N) (by omega)
  (body:=λj x v k=>bif WB (v.length+ [(x.1,x.2.1)].length)then k (Xe v [(x.1,x.2.1)])else none) (K:=λ_ v=>ret v)
  (λn i v hi=>by simp only[Zcw,W2 hi,Wq hi,Wt hi,Wp (show i<4611686018427387904 by omega),We])
  (λn v=>by simp only[Zcw,Wat (Xn f.buf.length),Wc]) []
 refine h1.trans ?_;rw[Wc6 (f:=λx:En=>(x.1,x.2.1)) f.buf 0 [] (by simp;omega) (λj x v k _=>rfl)];rfl
theorem Wlv{f:Fm}(hr:Vals 4 f.regs)(h3:f.kids.length<=3)(hx:∀x∈f.kids,x.regs.length<=1000)(hN:1048576<N):Zhj N f.e=ret (Wee f):=by
 unfold Zhj Wee;have e:f.e.2.2.2.2.1=f.regs:=rfl;have e2:f.e.2.2.2.2.2.2.2.2.2=f.kids.map Kd.e:=rfl;have uT:Wdk f.regs=true:=WbL.2 hr;have hl:=hr.len;have hm:(f.kids.map Kd.e).length=f.kids.length:=by simp
 rw[e,e2,Wdq (by omega) hN,Wb ⟨uT,h3⟩];simp only[ret,Xd,uT,Xv,Wc];rw[Wu (by unfold Wi;omega),WbB (by omega)];simp only[ret,Xd,Wc];have h1:=WR (l:=f.kids.map Kd.e) (V:=List Int) (R:=Unit×(List Int×Unit)) (lp:=λn j v=>Zbm N (f.kids.map Kd.e) (Wi (f.kids.map Kd.e)) (λcn jd ae=>(some ((),(ae,())))) n j v) (n:=N) (by omega)
  (body:=λj x v k=>bif inb j v.length then(bif x.2.2.2.2.2.1==(1:Int)then((Zag N (P6 x) (4:Int)).bind λcL=>(bif cL.2.1 then(bif inb 0 (P6 x).length then(bif inb j (Xg v j.toNat 0).length then k (Xg (Xg v j.toNat 0) j.toNat (Xc (P6 x) (Xa (0:Int)) 0))else none)else none)else k (Xg v j.toNat 0)))else k (Xg v j.toNat 0))else none) (K:=λ_ v=>ret v)
  (λn i v hi=>by simp only[Zbm,WA,W2 hi,Wq hi,Wt hi,Wp (show i<4611686018427387904 by omega),We];rfl)
  (λn v=>by simp only[Zbm,Wat (Xn _),Wc]) f.regs
 refine h1.trans ?_;have h2:=Who (β:=Int) (K:=λ_ v=>ret v) (f:=λx:Y_KidRun=>if P5 x=1/\Wdk (P6 x)=true then Wa0 (P6 x) 0 0 else 0) (f.kids.map Kd.e) [] f.regs (by omega) (body:=λj x v k=>bif inb j v.length then(bif x.2.2.2.2.2.1==(1:Int)then((Zag N (P6 x) (4:Int)).bind λcL=>(bif cL.2.1 then(bif inb 0 (P6 x).length then(bif inb j (Xg v j.toNat 0).length then k (Xg (Xg v j.toNat 0) j.toNat (Xc (P6 x) (Xa (0:Int)) 0))else none)else none)else k (Xg v j.toNat 0)))else k (Xg v j.toNat 0))else none)
  (λj x v k tV hj=>by
   obtain⟨y,hy,rfl⟩:=Xx.1 tV;have hyl:=hx y hy;have p5:(Kd.e y).2.2.2.2.2.1=y.out:=rfl;have BX:P5 (Kd.e y)=y.out:=rfl;have p6:P6 (Kd.e y)=y.regs:=rfl;simp only[p5,BX,p6,W9,Wf hj,We,Wdq (show y.regs.length<=1048576 by omega) hN,ret,Xd,WC,Xi,Xy];by_cases h1:y.out=1
   .rw[Wb h1];cases uT:Wdk y.regs
    .rw[Wa (by simp)];rfl
    .have:y.regs.length=4:=(WbL.1 uT).len;rw[Wb ⟨h1,rfl⟩,show inb (0:Int) y.regs.length=true by rw[this];rfl];simp only[We,Xcq];rfl
   .rw[Wa h1,Wa (λh=>h1 h.1)])
 simp only[Xbs,Xbu,Xad,List.map_map]at h2;exact h2
theorem WjM{rv:Int}{regs:List Int}{writes:List Rw}{kids:Nat}(hr:regs.length<=1000)(hw:writes.length<=1000)(hk:kids<=3)(hN:1048576<N):
  Zgv N rv regs writes (kids:Int)=ret (Wad rv regs writes kids).e:=by
 unfold Zgv;rw[WbB (by omega),Wd9 (by omega) hN];have hn:=Wfc writes;simp only[ret,Xd];have h1:=WR (l:=WbF writes) (V:=List En) (R:=Unit×(Y_Family×Unit)) (lp:=λn j v=>Zch N regs kids (Wi (WbF writes)) rv (WbF writes) regs (λt25 Bn ff=>
  (Zbd N regs kids rv regs (WbF writes) ff
 (λoN t50 lB=>
  (some ((),((rv,((0:Int),((0:Int),(false,(regs,(WbF writes,(ff,(([]:List Int),(([]:List Kc),lB))))))))),()))))
 N (0:Int) ([]:List Y_KidRun))) n j v) (n:=N) (by omega)
  (body:=λj x v k=>bif WB (v.length+ [(x.1,(x.2,(0:Int)))].length)then k (Xe v [(x.1,(x.2,(0:Int)))])else none) (K:=λ_ ff=>(Zbd N regs kids rv regs (WbF writes) ff
 (λoN t50 lB=>
  (some ((),((rv,((0:Int),((0:Int),(false,(regs,(WbF writes,(ff,(([]:List Int),(([]:List Kc),lB))))))))),()))))
 N (0:Int) ([]:List Y_KidRun)))
  (λn i v hi=>by simp only[Zch,W2 hi,Wq hi,Wt hi,Wp (show i<4611686018427387904 by omega),We])
  (λn v=>by simp only[Zch,Wat (Xn _),Wc]) []
 refine h1.trans ?_;rw[Wc6 (f:=λx:Rw=>(x.1,(x.2,(0:Int)))) (WbF writes) 0 [] (by simp;omega) (λj x v k _=>rfl)];simp only[Xbu];obtain⟨b,hb⟩:∃b,(WbF writes).map (λx:Rw=>(x.1,(x.2,(0:Int))))=b:=⟨_,rfl⟩;rw[hb];have lp:∀(d j n:Nat) (v:List Y_KidRun),j+d=kids->d<n->v=Xo j (Kd.e {regs:=regs})->Zbd N regs kids rv regs (WbF writes) b (λoN t50 lB=>(some ((),((rv,((0:Int),((0:Int),(false,(regs,(WbF writes,(b,(([]:List Int),(([]:List Kc),lB))))))))),())))) n (j:Int) v=some ((),((rv,((0:Int),((0:Int),(false,(regs,(WbF writes,(b,(([]:List Int),(([]:List Kc),Xo kids (Kd.e {regs:=regs})))))))))),())):=by
  intro d
  induction d with
  |zero=>
   intro j n v hj hn hv;obtain⟨n,rfl⟩:∃n',n=n'+1:=⟨n-1,by omega⟩;have:j=kids:=by omega
   subst this;simp only[Zbd,Int.lt_irrefl,decide_false,Wc,hv]
  |succ d ih=>
   intro j n v hj hn hv;obtain⟨n,rfl⟩:∃n',n=n'+1:=⟨n-1,by omega⟩;have hlt:(j:Int)<(kids:Int):=by omega
   have og:v.length=j:=by rw[hv];simp
   simp only[Zbd,Wf hlt,We,WbB (show regs.length<=1048576 by omega),ret,Xd];rw[Wx (by simp;omega)];simp only[We];rw[Wp (by omega)];refine ih (j+1) n _ (by omega) (by omega) ?_;rw[hv,List.replicate_succ'];rfl
 have:=lp kids 0 N [] (by omega) (by omega) rfl;refine this.trans ?_;unfold Wad Fm.e;simp only[List.map_replicate,hb]
end
end Go.Sx
