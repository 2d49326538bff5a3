/- Plain laws of the Lean functions. -/
import Derived.Test.YtnddhmkccolneaaGreatT2
open Option renaming bind_some→Xd
open Nat renaming le_refl→Xj,zero_add→cb,le_trans→eO,add_zero→c9,and_le_right→Xhw,add_assoc→dN
open List renaming append→Xe,mem_cons_self→Xl,append_eq→cZ,mem_cons_of_mem→Xg,length_cons→Xs,all_eq_true→bH,getD→Xc,reverse_cons→Xhq,append_nil→iN,getElem?_eq_none→hQ,getElem?_set→ZY,getD_eq_getElem?_getD→l0,getElem?_eq_getElem→Xr,getElem?_set_ne→ZV,length_set→cY,nil_append→dn,mem_cons→Xq,not_mem_nil→mf,take_succ_eq_append_getElem→qh,take_of_length_le→wR,length→Xa,length_nil→kN,cons_append→dM,drop_eq_getElem_cons→d4,append_assoc→fX,drop→dC,drop_length→fo,all_cons→d6,length_take→ca,mem_map→Xx,filter_eq_self→A1,flatMap_cons→qp,map_cons→bn,length_append→Xv,getElem_mem→Xt,mem_of_mem_take→od,replicate→Xp,set→Xf,set_set→nk,length_dropLast→A5,append_inj'→Xfa,pairwise_cons→Xw,mergeSort_perm→Xhg,getElem_of_mem→md,pairwise_iff_getElem→hP,mem_iff_getElem→EU
open Bool renaming not_true→Xn,and_eq_true→Xh,false_and→qq,not_eq_true'→c5,or_eq_true→qj,not_eq_true→Pd,toNat_false→Pa,true_and→eI
open Int renaming toNat→Xb,toNat_natCast→Xk,eq_ofNat_of_zero_le→oc,tmod_eq_emod_of_nonneg→Ev
namespace Go.Sx
set_option linter.unusedVariables false
set_option linter.unusedSimpArgs false
section
def bR(v:Int):Bool:=decide (0<=v)&&decide (v<=65535)
theorem cC{N}{x a b}:Zc N x a b=ret (decide (a<=x)&&decide (x<=b)):=by
 unfold Zc;by_cases h:a<=x<;>simp[h]
theorem WK{N}{x a b}:Zd N x a b=ret (decide (a<=x)&&decide (x<=b)):=by
 unfold Zd;by_cases h:a<=x<;>simp[h]
theorem gW{α:Type}{p}(l:List α):(l.any λx=>!p x)= !l.all p:=by
 grind
abbrev Rw:=Int×Int
def bU(v:Int):Bool:=decide (0<=v)&&decide (v<=7)
def m7(r:Rw):Bool:=bU r.1&&bR r.2
def cd(l:List Rw):Bool:=decide (l.length<=300)&&l.all m7
def kp(l:List Int):Bool:=decide (l.length=8)&&l.all bR
theorem i0{N}{v}:fY N v=ret (bR v):=by
 unfold fY;simp only[cC,ret,Xd];rfl
theorem ka{N}{v}:gC N v=ret (bR v):=by
 unfold gC;simp only[WK,ret,Xd];rfl
theorem mD{N}{v}:li N v=ret (bU v):=by
 unfold li;simp only[cC,ret,Xd];rfl
theorem W2{N}{v}:iS N v=ret (bU v):=by
 unfold iS;simp only[WK,ret,Xd];rfl
theorem SH{N}{l}(d:l.length<=1048576)(c:1048576<N):zc N l=ret (kp l):=by
 unfold zc kp;by_cases h:l.length=8
 .have e:(Wi l !=8)=false:=by simp[Wi,h]
  rw[e];simp only[Wb];have b:=WC (l:=l) (V:=Unit) (R:=Unit×Ke) (lp:=λn j v=>xf N l (some ((),(false,()))) (λf g=>some ((),(true,()))) n j) (n:=N) (by omega)
   (body:=λj x v k=>bif !bR x then some ((),(false,()))else k v) (K:=λ_ v=>some ((),(true,())))
   (λn i v a=>by simp only[xf,WF a,Wq a,Wu a,Wl (show i<4611686018427387904 by omega),Wa,i0,ret,Xd])
   (λn v=>by simp[xf,WN,Xj,Wb]) ()
  refine b.trans ?_;rw[fG (p:=λx=>!bR x) (E:=λ_=>some ((),(false,()))) l 0 () (λj x v k _=>rfl),gW];cases l.all bR<;>simp[h]
 grind [Wi]
theorem Sv{N}{l}(d:l.length<=1048576)(c:1048576<N):iQ N l 8=ret (kp l):=by
 unfold iQ kp;have b:=WC (l:=l) (V:=Unit) (R:=Unit×Ke) (lp:=λn j v=>oj N l 8 (some ((),(false,()))) (λf g=>some ((),((Wi l)==(8:Int),()))) n j) (n:=N) (by omega)
  (body:=λj x v k=>bif !bR x then some ((),(false,()))else k v) (K:=λ_ v=>some ((),((Wi l)==(8:Int),())))
  (λn i v a=>by simp only[oj,WF a,Wq a,Wu a,Wl (show i<4611686018427387904 by omega),Wa,ka,ret,Xd])
  (λn v=>by simp[oj,WN,Xj,Wb]) ()
 refine b.trans ?_;rw[fG (p:=λx=>!bR x) (E:=λ_=>some ((),(false,()))) l 0 () (λj x v k _=>rfl),gW];have e:((Wi l)==(8:Int))=decide (l.length=8):=by
  grind [Wi]
 rw[e];cases l.all bR<;>simp
theorem Gg{N}{l:List Rw}(d:l.length<=1048576)(c:1048576<N):qV N l=ret (cd l):=by
 unfold qV cd;by_cases h:l.length<=300
 .have e:decide (Wi l>300)=false:=by simp[Wi];omega
  rw[e];simp only[Wb];have b:=WC (l:=l) (V:=Unit) (R:=Unit×Ke) (lp:=λn j v=>xh N l (some ((),(false,()))) (λf g=>some ((),(true,()))) n j) (n:=N) (by omega)
   (body:=λj x v k=>bif !m7 x then some ((),(false,()))else k v) (K:=λ_ v=>some ((),(true,())))
   (λn i v a=>by
    simp only[xh,WF a,Wq a,Wu a,Wl (show i<4611686018427387904 by omega),Wa,i0,mD,ret,Xd,m7];cases bU l[i].1<;>rfl)
   (λn v=>by simp[xh,WN,Xj,Wb]) ()
  refine b.trans ?_;rw[fG (p:=λx=>!m7 x) (E:=λ_=>some ((),(false,()))) l 0 () (λj x v k _=>rfl),gW];cases l.all m7<;>simp[h]
 grind [decide,Wi]
theorem C6{N}{l:List Rw}(d:l.length<=1048576)(c:1048576<N):oY N l=ret (cd l):=by
 unfold oY cd;have b:=WC (l:=l) (V:=Unit) (R:=Unit×Ke) (lp:=λn j v=>yi N l (some ((),(false,()))) (λf g=>some ((),(decide ((Wi l)<=(300:Int)),()))) n j) (n:=N) (by omega)
  (body:=λj x v k=>bif !m7 x then some ((),(false,()))else k v) (K:=λ_ v=>some ((),(decide ((Wi l)<=(300:Int)),())))
  (λn i v a=>by
   simp only[yi,WF a,Wq a,Wu a,Wl (show i<4611686018427387904 by omega),Wa,ka,W2,ret,Xd,m7];cases bU l[i].1<;>rfl)
  (λn v=>by simp[yi,WN,Xj,Wb]) ()
 refine b.trans ?_;rw[fG (p:=λx=>!m7 x) (E:=λ_=>some ((),(false,()))) l 0 () (λj x v k _=>rfl),gW];have e:decide (Wi l<=300)=decide (l.length<=300):=by apply decide_eq_decide.2;simp[Wi];omega
 rw[e];cases l.all m7<;>simp
theorem Vl{α:Type}{l:List α}(h:l.length<=1048576):Wx l.length=true:=by grind [Wx]
end
section
abbrev Wd:=Int×Int×Int
abbrev Mm:=Int×List Wd
theorem gI{α}(a:Option α):aa a a=a:=by unfold aa;simp
def fV(γ:Int)(w:Wd):Bool:=bR w.1&&((decide (0<=w.2.1)&&decide (w.2.1<=γ))&&(decide (0<=w.2.2)&&decide (w.2.2<=99)))
def W6(m:Mm):Bool:=decide (m.2.length=8)&&((decide (0<=m.1)&&decide (m.1<=1000000))&&m.2.all (fV m.1))
theorem zA{N}{m:Mm}(g:m.2.length<=1048576)(f:1048576<N):nG N m=ret (W6 m):=by
 unfold nG W6;have c:=WC (l:=m.2) (V:=Unit) (R:=Unit×Ke) (lp:=λn j v=>yd N m.2 m (some ((),(false,()))) (λd h=>
  (bif (Wi m.2)==(8:Int)then
  ((Zd N m.1 (0:Int) (1000000:Int)).bind λb=>
  (some ((),(b.2.1,()))))
  else
  (some ((),(false,()))))) n j) (n:=N) (by omega)
  (body:=λj x v k=>bif !fV m.1 x then some ((),(false,()))else k v) (K:=λ_ v=>(bif (Wi m.2)==(8:Int)then
  ((Zd N m.1 (0:Int) (1000000:Int)).bind λb=>
  (some ((),(b.2.1,()))))
  else
  (some ((),(false,())))))
  (λn i v a=>by
   simp only[yd,WF a,Wq a,Wu a,Wl (show i<4611686018427387904 by omega),Wa,ka,WK,ret,Xd,fV];cases bR m.2[i].1<;>cases(decide (0<=m.2[i].2.1)&&decide (m.2[i].2.1<=m.1))<;>cases(decide (0<=m.2[i].2.2)&&decide (m.2[i].2.2<=99))<;>rfl)
  (λn v=>by simp[yd,WN,Xj,Wb]) ()
 refine c.trans ?_;rw[fG (p:=λx=>!fV m.1 x) (E:=λ_=>some ((),(false,()))) m.2 0 () (λj x v k _=>rfl),gW];have e:((Wi m.2)==(8:Int))=decide (m.2.length=8):=by
  grind [Wi]
 simp only[e,WK,ret,Xd];cases m.2.all (fV m.1)<;>cases decide (m.2.length=8)<;>simp
theorem CV{N}{m:Mm}(h:m.2.length<=1048576)(g:1048576<N):oZ N m=ret (W6 m):=by
 unfold oZ W6;have e:((Wi m.2) !=(8:Int))= !decide (m.2.length=8):=by
  grind [Wi]
 have d:=WC (l:=m.2) (V:=Unit) (R:=Unit×Ke) (lp:=λn j v=>tg N m (some ((),(false,()))) (λc b=>(some ((),(true,())))) n j) (n:=N) (by omega)
  (body:=λj x v k=>bif !fV m.1 x then some ((),(false,()))else k v) (K:=λ_ v=>some ((),(true,())))
  (λn i v a=>by
   simp only[tg,WF a,Wq a,Wu a,Wl (show i<4611686018427387904 by omega),Wa,i0,cC,ret,Xd,fV];cases bR m.2[i].1<;>cases(decide (0<=m.2[i].2.1)&&decide (m.2[i].2.1<=m.1))<;>cases(decide (0<=m.2[i].2.2)&&decide (m.2[i].2.2<=99))<;>rfl)
  (λn v=>by simp[tg,WN,Xj,Wb]) ()
 have f:tg N m (some ((),(false,()))) (λc b=>(some ((),(true,())))) N 0=ret (m.2.all (fV m.1)):=by
  refine d.trans ?_;rw[fG (p:=λx=>!fV m.1 x) (E:=λ_=>some ((),(false,()))) m.2 0 () (λj x v k _=>rfl),gW];cases m.2.all (fV m.1)<;>rfl
 rw[e,f];simp only[cC,ret,Xd];cases decide (m.2.length=8)<;>cases(decide (0<=m.1)&&decide (m.1<=1000000))<;>simp
def wd0(v:Int):Wd:=(v,(0,0))
def D8(l:List Int):Mm:=(0,l.map wd0)
theorem vg{α β R}{body}{K:Int->List β->Option R}{f}:∀(l:List α) (j) (o),o.length+l.length<=1000000->
  (∀(j:Nat) x (v) k,x∈l->body j x v k=bif Wx (v.length+ [f x].length)then k (Xe v [f x])else none)->cX body K l j o=K ((j+l.length:Nat):Int) (o++l.map f)
 | [],j,o,_,_=>by simp[cX]
 |x::l,j,o,h,hb=>by
  rw[cX,hb j x o _ (Xl ..),Wp (by simp;omega)];simp only[Wa];rw[vg l (j+1) _ (by grind [cZ]) λj y v k a=>hb j y v k (Xg _ a)];rw[Xs,show j+1+l.length=j+(l.length+1) by omega];simp
theorem WjQ{N}{l}(h:kp l=true)(d:1048576<N):zd N l=some ((),(D8 l,(true,()))):=by
 have m:l.length=8:=by grind [kp]
 unfold zd;simp only[Sv (show l.length<=1048576 by omega) d,ret,Xd,h,Xn,Wb];have c:=WC (l:=l) (V:=List Wd) (R:=Unit×(Mm×Ke)) (lp:=λn j v=>yj N l (λe g b=>(some ((),(((0:Int),b),(true,()))))) n j v) (n:=N) (by omega)
  (body:=λj x v k=>bif Wx (v.length+ [wd0 x].length)then k (Xe v [wd0 x])else none) (K:=λ_ v=>some ((),(((0:Int),v),(true,()))))
  (λn i v a=>by simp only[yj,WF a,Wq a,Wu a,Wl (show i<4611686018427387904 by omega),Wa,wd0])
  (λn v=>by simp[yj,WN,Xj,Wb]) []
 refine c.trans ?_;rw[vg (f:=wd0) l 0 [] (by simp;omega) (λj x v k _=>rfl)];rfl
theorem WjX{N}{l}(h:kp l=true)(d:1048576<N):Ck N l=some ((),(D8 l,(true,()))):=by
 have m:l.length=8:=by grind [kp]
 unfold Ck;simp only[SH (show l.length<=1048576 by omega) d,ret,Xd,h,Xn,Wb];have c:=WC (l:=l) (V:=List Wd) (R:=Unit×(Mm×Ke)) (lp:=λn j v=>xi N l (λe g b=>(some ((),(((0:Int),b),(true,()))))) n j v) (n:=N) (by omega)
  (body:=λj x v k=>bif Wx (v.length+ [wd0 x].length)then k (Xe v [wd0 x])else none) (K:=λ_ v=>some ((),(((0:Int),v),(true,()))))
  (λn i v a=>by simp only[xi,WF a,Wq a,Wu a,Wl (show i<4611686018427387904 by omega),Wa,wd0])
  (λn v=>by simp[xi,WN,Xj,Wb]) []
 refine c.trans ?_;rw[vg (f:=wd0) l 0 [] (by simp;omega) (λj x v k _=>rfl)];rfl
theorem WE{m}(h:W6 m=true):m.2.length=8/\0<=m.1/\m.1<=1000000/\∀w∈m.2,fV m.1 w=true:=by
 simp_all [W6,Xh,Wh,bH]
def tick(m:Mm):Mm×Int:=if m.1<1000000 then((m.1+1,m.2),m.1+1)else(m,0)
theorem Wop{N}{m}(h:W6 m=true)(a:1048576<N):LO N m=some ((),((tick m).1,((tick m).2,()))):=by
 obtain⟨d,b,c,_⟩:=WE h;have e:oE N m=ret m:=by grind [oE,Wp]
 unfold LO tick;simp only[e,zA (show m.2.length<=1048576 by omega) a,ret,Xd,h,Xn,Wb];by_cases f:m.1<1000000
 .have e3:Wj .i64 m.1 1=m.1+1:=WA (by unfold I64;omega)
  grind
 grind
theorem WnS{N}{m}(h:W6 m=true)(a:1048576<N):LN N m=some ((),((tick m).1,((tick m).2,()))):=by
 obtain⟨d,b,c,_⟩:=WE h;have e:oN N m=ret m:=by simp_all [oN,Wp]
 unfold LN tick;simp only[e,CV (show m.2.length<=1048576 by omega) a,ret,Xd,h,Xn,Wb];by_cases f:m.1<1000000
 .have e3:Wj .i64 m.1 1=m.1+1:=WA (by unfold I64;omega)
  grind
 grind
abbrev Pb:=Int×Int×Int×Int
def ed(p:Pb):Bool:=bU p.1&&((decide (0<=p.2.1)&&decide (p.2.1<=4))&&((decide (0<=p.2.2.1)&&decide (p.2.2.1<=1000000))&&bR p.2.2.2))
theorem Wod{N}{p:Pb}:J1 N p=ret (ed p):=by
 unfold J1 ed;simp only[W2,WK,ka,ret,Xd];cases bU p.1<;>cases(decide (0<=p.2.1)&&decide (p.2.1<=4))<;>cases(decide (0<=p.2.2.1)&&decide (p.2.2.1<=1000000))<;>simp
theorem Wm4{N}{p:Pb}:J0 N p=ret (ed p):=by
 unfold J0 ed;simp only[mD,cC,i0,ret,Xd];cases bU p.1<;>cases(decide (0<=p.2.1)&&decide (p.2.1<=4))<;>cases(decide (0<=p.2.2.1)&&decide (p.2.2.1<=1000000))<;>simp
def cL(m:Mm)(rv:Int)(p:Pb):Pb:=
 let w:=Xc m.2 (Xb p.1) (0,(0,0))
 bif p.2.1==0 then(bif w.2.2==0 then(bif decide (w.2.1<=rv)then(p.1,(1,(w.2.1,p.2.2.2)))else(p.1,(4,p.2.2)))else(p.1,(4,p.2.2)))
 else bif p.2.1==1 then(p.1,(2,(p.2.2.1,w.1)))
 else bif p.2.1==2 then(bif w.2.2==0 then(bif w.2.1==p.2.2.1 then(p.1,(3,p.2.2))else(p.1,(4,p.2.2)))else(p.1,(4,p.2.2)))
 else p
theorem YV{m}{p}(h:W6 m=true)(a:ed p=true):inb p.1 m.2.length=true:=by
 grind [WE,ed,bU,inb]
theorem Gz{N}{m}{rv}{p}(h:W6 m=true)(a:ed p=true)(b:1048576<N):ye N m rv p=ret (cL m rv p):=by
 have c:=(WE h).1;unfold ye cL;simp only[zA (show m.2.length<=1048576 by omega) b,Wod,ret,Xd,h,a,Xn,Wb,YV h a,Wa];generalize Xc m.2 (Xb p.1) (0,(0,0))=w;cases p.2.1==0<;>cases p.2.1==1<;>cases p.2.1==2<;>cases w.2.2==0<;>cases decide (w.2.1<=rv)<;>cases w.2.1==p.2.2.1<;>rfl
theorem Gu{N}{m}{rv}{p}(h:W6 m=true)(a:ed p=true)(c:1048576<N):yb N m rv p=ret (cL m rv p):=by
 have d:=(WE h).1;unfold yb cL;simp only[CV (show m.2.length<=1048576 by omega) c,Wm4,ret,Xd,h,a,Xn,Wb,YV h a,Wa];generalize Xc m.2 (Xb p.1) (0,(0,0))=w;have b:decide (w.2.1>rv)= !decide (w.2.1<=rv):=by
  grind
 rw[b];unfold bne;cases p.2.1==0<;>cases p.2.1==1<;>cases p.2.1==2<;>cases w.2.2==0<;>cases decide (w.2.1<=rv)<;>cases w.2.1==p.2.2.1<;>rfl
def pU(l:List Rw)(c:Int):Nat->Option Int
 |0=>none
 |i+1=>if(Xc l i (0,0)).1=c then some (Xc l i (0,0)).2 else pU l c i
def df(l:List Rw)(c:Int):Option Int:=if cd l=true then pU l c l.length else none
def opI(o:Option Int):Option Kao:=match o with
 |none=>some ((),((0:Int),(false,())))
 |some v=>some ((),(v,(true,())))
theorem Ta{N}{l:List Rw}{c}(g:l.length<=1048576):∀(i n),i<n->i<=l.length->By N l c (λb=>(some ((),(b,(true,()))))) (λk j=>(some ((),((0:Int),(false,()))))) n ((i:Int) -1)=opI (pU l c i)
 |i,0,h,_=>by omega
 |0,n+1,h,_=>rfl
 |i+1,n+1,h,hi=>by
  have e:((i+1:Nat):Int) -1=(i:Int):=by omega
  have d:decide ((i:Int)>=0)=true:=by simp
  have f:Wz .i64 (i:Int) 1=(i:Int) -1:=WJ (by unfold I64;omega);rw[e,By,d,Wq (show i<l.length by omega),f,pU,Xk];simp only[Wa];by_cases a:(Xc l i ((0:Int),(0:Int))).1=c
  .rw[Wf a,beq_iff_eq.2 a];rfl
  .rw[We a,beq_eq_false_iff_ne.2 a];exact Ta g i n (by omega) (by omega)
theorem SQ{N}{l:List Rw}{c}(g:l.length<=1048576):∀(i n),i<n->i<=l.length->Bw N l c (λb=>(some ((),(b,(true,()))))) (λk j=>(some ((),((0:Int),(false,()))))) n ((i:Int) -1)=opI (pU l c i)
 |i,0,h,_=>by omega
 |0,n+1,h,_=>rfl
 |i+1,n+1,h,hi=>by
  have e:((i+1:Nat):Int) -1=(i:Int):=by omega
  have d:decide ((i:Int)>=0)=true:=by simp
  have f:Wz .i64 (i:Int) 1=(i:Int) -1:=WJ (by unfold I64;omega);rw[e,Bw,d,Wq (show i<l.length by omega),f,pU,Xk];simp only[Wa];by_cases a:(Xc l i ((0:Int),(0:Int))).1=c
  .rw[Wf a,beq_iff_eq.2 a];rfl
  .rw[We a,beq_eq_false_iff_ne.2 a];exact SQ g i n (by omega) (by omega)
theorem vX{α}{l:List α}(a:l.length<=1048576):Wz .i64 (Wi l) 1=((l.length:Nat):Int) -1:=by grind [Wi,WJ,I64]
theorem L0{N}{l:List Rw}{c}(a:l.length<=1048576)(b:1048576<N):va N l c=opI (df l c):=by
 unfold va df;simp only[C6 a b,ret,Xd];cases cd l
 .rfl
 .simp only[Xn,Wb,W1,vX a];exact Ta a l.length N (by omega) (Xj _)
theorem LZ{N}{l:List Rw}{c}(a:l.length<=1048576)(b:1048576<N):u9 N l c=opI (df l c):=by
 unfold u9 df;simp only[Gg a b,ret,Xd];cases cd l
 .rfl
 .simp only[Xn,Wb,W1,vX a];exact SQ a l.length N (by omega) (Xj _)
end
section
theorem Wru(m:Int)(b:Nat):m.tdiv b=if 0<=m then((m.natAbs/b:Nat):Int)else-((m.natAbs/b:Nat):Int):=by
 split
 .rename_i h;obtain⟨n,rfl⟩:=oc h;rfl
 .obtain⟨n,a⟩:=oc (show 0<= -m by omega);have:m= -(n:Int):=by omega
  subst this;rw[Int.neg_tdiv,Int.natAbs_neg];rfl
theorem WrS(m:Int)(b:Nat):m.tmod b=if 0<=m then((m.natAbs%b:Nat):Int)else-((m.natAbs%b:Nat):Int):=by
 split
 .rename_i h;obtain⟨n,rfl⟩:=oc h;rfl
 .obtain⟨n,a⟩:=oc (show 0<= -m by omega);have:m= -(n:Int):=by omega
  subst this;rw[Int.neg_tmod,Int.natAbs_neg];rfl
def bW:Nat->Nat->List Int
 |0,_=>[]
 |f+1,m=>if m=0 then []else(48+(m%10:Nat):Int)::bW f (m/10)
theorem He:∀(f m),(bW f m).length<=f
 |0,_=>by simp[bW]
 |f+1,m=>by
  rw[bW];split
  .simp
  .have:=He f (m/10);simp;omega
theorem Mz:∀f,bW f 0= []
 |0=>rfl
 |f+1=>by simp[bW]
theorem Yf{n}(h:0<=n/\n<=255):IntKind.wrap .u8 n=n:=by
 show(if(false&&decide (n%256>=128))=true then n%256-256 else n%256)=n;simp only[qq,Bool.false_eq_true,dO];omega
theorem XH:inz 10=true:=rfl
theorem kh{a b}(h:a.length+b.length<=1000000000000):W5 a b=true:=by
 unfold W5;have:IntKind.i64.max=9223372036854775807:=rfl;simp only[c5,Wn];omega
theorem Mi{m}(j:I64 m)(g:m≠0):
  ey .i64 m 10=(if 0<=m then((m.natAbs/10:Nat):Int)else-((m.natAbs/10:Nat):Int))/\
  (decide (ak m 10<0)=true->IntKind.wrap .u8 (Wj .i64 48 (Wz .i64 0 (ak m 10)))=48+((m.natAbs%10:Nat):Int))/\
  (decide (ak m 10<0)=false->IntKind.wrap .u8 (Wj .i64 48 (ak m 10))=48+((m.natAbs%10:Nat):Int)):=by
 have e:=Wru m 10;have b:=WrS m 10;have a:∀d:Int,0<=d/\d<=9->IntKind.wrap .u8 (Wj .i64 48 d)=48+d:=λd i=>by
  rw[WA (by unfold I64;omega),Yf (by omega)]
 have c:ak m 10=m.tmod (10:Nat):=rfl;have f:ey .i64 m 10=IntKind.wrap .i64 (m.tdiv (10:Nat)):=rfl;refine⟨?_,λh=>?_,λh=>?_⟩
 .rw[f,e];refine pt ?_;unfold I64 at*;split<;>omega
 .rw[c,b]at h⊢;simp only[Wh]at h;split at h
  .omega
  .rename_i hn;rw[We hn,WJ (by unfold I64;omega),a _ (by omega)];omega
 .rw[c,b]at h⊢;simp only[Wn]at h;split at h
  .rename_i hn;rw[Wf hn,a _ (by omega)]
  .rename_i hn;rw[We hn,a _ (by omega)];omega
def sgn(neg:Bool)(n:Nat):Int:=bif neg then-(n:Int)else(n:Int)
theorem Mj(neg)(n):(sgn neg n).natAbs=n:=by cases neg<;>simp[sgn]
theorem XR{neg}{n}(c:n<=9223372036854775808)(b:n≠0)(a:I64 (sgn neg n)):ey .i64 (sgn neg n) 10=sgn neg (n/10):=by
 have h:=(Mi a (by cases neg<;>simp[sgn]<;>omega)).1;rw[h,Mj];cases neg
 .simp[sgn]
 .have:¬(0<=sgn true n):=by simp[sgn];omega
  rw[We this];rfl
theorem X7{neg}{n}(h:I64 (sgn neg n)):I64 (sgn neg (n/10)):=by
 have:=Nat.div_le_self n 10;unfold I64 sgn at*;cases neg<;>simp at* <;>omega
theorem TX(N){R}(b neg)(K:Int->List UInt8->Bool->Option R):∀(f n m) (out),m<10^f->f<=20->f<n->out.length+f<=1000->I64 (sgn neg m)->
  y5 N b K n (sgn neg m) out=K 0 (WU (bW f m).reverse++out) false
 |f,0,m,out,_,_,h,_,_=>by omega
 |0,n+1,m,out,h,_,_,_,_=>by
  have:m=0:=by simpa using h
  subst this;cases neg<;>rfl
 |f+1,n+1,m,out,h,o,p,q,hI=>by
  rw[y5];by_cases a:m=0
  .subst a;rw[Mz];cases neg<;>rfl
  .have bP:sgn neg m≠0:=by cases neg<;>simp[sgn]<;>omega
   have j:(sgn neg m !=0)=true:=by simp[bP]
   have l:m<=9223372036854775808:=by unfold I64 sgn at hI;cases neg<;>simp at hI<;>omega
   obtain⟨_,c,d⟩:=Mi hI bP;rw[Mj]at c d;have i:m/10<10^f:=by omega
   have k:WU (bW (f+1) m).reverse++out=WU (bW f (m/10)).reverse++(WU [48+((m%10:Nat):Int)]++out):=by
    rw[bW,We a,Xhq];simp[WU]
   have e:W5 (WU [48+((m%10:Nat):Int)]) out=true:=kh (by simp[WU];omega);have g:=TX N b neg K f n (m/10) (WU [48+((m%10:Nat):Int)]++out) i (by omega) (by omega) (by simp[WU];omega) (X7 hI);rw[j,k];simp only[Wa,XH,XR l a hI];cases hd:decide (ak (sgn neg m) 10<0)with
   |true=>
    simp only[Wa,c hd,e];exact g
   |false=>
    simp only[Wb,d hd,e,Wa];exact g
theorem Tw(N){R}(n0)(neg)(K:Int->Bool->List Int->Option R):∀(f n m) (l),m<10^f->f<=20->f<n->l.length+f<=1000->I64 (sgn neg m)->
  y0 N n0 K n (sgn neg m) l=K 0 false (l++bW f m)
 |f,0,m,l,_,_,h,_,_=>by omega
 |0,n+1,m,l,h,_,_,_,_=>by
  have:m=0:=by simpa using h
  subst this;rw[bW,iN];cases neg<;>rfl
 |f+1,n+1,m,l,h,p,q,r,hI=>by
  rw[y0];by_cases a:m=0
  .subst a;rw[Mz,iN];cases neg<;>rfl
  .have bP:sgn neg m≠0:=by cases neg<;>simp[sgn]<;>omega
   have i:(sgn neg m !=0)=true:=by simp[bP]
   have o:m<=9223372036854775808:=by unfold I64 sgn at hI;cases neg<;>simp at hI<;>omega
   obtain⟨_,b,c⟩:=Mi hI bP;rw[Mj]at b c;have g:m/10<10^f:=by omega
   have j:l++bW (f+1) m=(Xe l [48+((m%10:Nat):Int)])++bW f (m/10):=by
    rw[bW,We a];show l++_=(l++_)++_;simp
   have k:∀d:Int,Wx (l.length+ [d].length)=true:=λd=>Wp (by simp;omega);have e:=Tw N n0 neg K f n (m/10) (Xe l [48+((m%10:Nat):Int)]) g (by omega) (by omega) (by simp;omega) (X7 hI);rw[i,j];simp only[Wa,XH,XR o a hI,k];cases hd:decide (ak (sgn neg m) 10<0)with
   |true=>
    simp only[Wa,b hd];exact e
   |false=>
    simp only[Wb,c hd];exact e
structure Half(l:List Int)(i:Nat)(m:List Int):Prop where
 len:m.length=l.length
 out:∀k,k<l.length->(k<i\/l.length<=k+i)->m[k]?=l[l.length-1-k]?
 inn:∀k,i<=k->k+i<l.length->m[k]?=l[k]?
theorem WuH{l m}{i}(h:Half l i m)(hi:l.length<=2*i+1):m=l.reverse:=by
 apply List.ext_getElem?;intro k;by_cases a:k<l.length
 .rw[List.getElem?_reverse a];by_cases b:k<i\/l.length<=k+i
  .exact h.out k a b
  .rw[h.inn k (by omega) (by omega)];congr 1;omega
 .rw[hQ (by rw[h.len];omega),hQ (by rw[List.length_reverse];omega)]
theorem WsP{l m}{i}(h:Half l i m)(hi:2*i+1<l.length):Half l (i+1) ((m.set i (m.getD (l.length-1-i) 0)).set (l.length-1-i) (m.getD i 0)):=by
 have a:=h.len;refine⟨by simp[a],λk f g=>?_,λk j n=>?_⟩
 .rw[ZY,ZY];have d:m.getD i 0=l[i]:=by
   have:=h.inn i (Xj _) (by omega);rw[l0,this,Xr (by omega)];rfl
  have e:m.getD (l.length-1-i) 0=l[l.length-1-i]:=by
   have:=h.inn (l.length-1-i) (by omega) (by omega);rw[l0,this,Xr (by omega)];rfl
  rw[d,e];by_cases b:l.length-1-i=k
  .subst b;rw[Wf rfl,Wf (by simp[a];omega)];have:l.length-1-(l.length-1-i)=i:=by omega
   rw[this,Xr (by omega)]
  .rw[We b];by_cases c:i=k
   .subst c;rw[Wf rfl,Wf (by omega),Xr (by omega)]
   .rw[We c];exact h.out k f (by omega)
 .rw[ZV (by omega),ZV (by omega)];exact h.inn k (by omega) (by omega)
theorem YB(N){R}(l:List Int)(j:l.length<=1000)(K:List Int->Option R):∀(n i) (m:List Int),Half l i m->l.length+1<n+i+i->i<=l.length->(0<i->2*i<=l.length+1)->
  y1 N (λ_ _ _ l=>K l) n (i:Int) (((l.length:Int) -1) -(i:Int)) m=K l.reverse
 |0,i,m,h,f,_,h3=>by omega
 |n+1,i,m,h,f,k,h3=>by
  rw[y1];by_cases g:2*i+1<l.length
  .have e1:decide ((i:Int)<((l.length:Int) -1) -(i:Int))=true:=by simp;omega
   have e:((l.length:Int) -1) -(i:Int)=((l.length-1-i:Nat):Int):=by omega
   have a:=h.len;rw[e1,e];simp only[Wa,WH,Xk,cY,a];have b:decide (l.length-1-i<l.length)=true:=by simp;omega
   have c:decide (i<l.length)=true:=by simp;omega
   have d:Wz .i64 ((l.length-1-i:Nat):Int) 1=((l.length:Int) -1) -((i+1:Nat):Int):=by
    rw[WJ (by unfold I64;omega)];omega
   rw[b,c,Wl (by omega),d];simp only[Wa];exact YB N l j K n (i+1) _ (WsP h g) (by omega) (by omega) (by omega)
  .have e1:decide ((i:Int)<((l.length:Int) -1) -(i:Int))=false:=by simp;omega
   rw[e1];simp only[Wb];rw[WuH h (by omega)]
def aL(n:Int):List UInt8:=if n=0 then [48]else(if n<0 then [45]else [])++WU (bW 20 n.natAbs).reverse
theorem ek(n):(aL n).length<=30:=by
 have:=He 20 n.natAbs;unfold aL;split
 .simp
 .split<;>simp[WU]<;>omega
theorem Dg{N}{n}(c:I64 n)(f:100<N):Zv N n=ret (aL n):=by
 unfold Zv aL;by_cases b:n=0
 .subst b;rfl
 .have e0:(n==0)=false:=by simpa using b
  have d:n=sgn (decide (n<0)) n.natAbs:=by
   unfold sgn;by_cases h:n<0<;>simp[h]<;>omega
  have e:n.natAbs<10^20:=by unfold I64 at c;omega
  have a:=λ{R:Type} (K:Int->List UInt8->Bool->Option R)=>TX N (decide (n<0)) (decide (n<0)) K 20 N n.natAbs [] e (by omega) (by omega) (by simp) (by rw[←d];exact c);rw[←d]at a;rw[e0,We b];simp only[Wb];rw[a];have g:=He 20 n.natAbs;by_cases h:n<0
  .have:W5 [45] (WU (bW 20 n.natAbs).reverse)=true:=kh (by simp[WU];omega);simp[h,this]
  .simp[h]
theorem L7{N}{n}(e:I64 n)(p:150<N):Z2 N n=ret (aL n):=by
 unfold Z2 aL;by_cases c:n=0
 .subst c;rfl
 .have e0:(n==0)=false:=by simpa using c
  have f:n=sgn (decide (n<0)) n.natAbs:=by
   unfold sgn;by_cases h:n<0<;>simp[h]<;>omega
  have m:n.natAbs<10^20:=by unfold I64 at e;omega
  have a:=λ{R:Type} (K:Int->Bool->List Int->Option R)=>Tw N n (decide (n<0)) K 20 N n.natAbs [] m (by omega) (by omega) (by simp) (by rw[←f];exact e);rw[←f]at a;rw[e0,We c];simp only[Wb];rw[a];have o:=He 20 n.natAbs;have g:=λ(l:List Int) (o:l.length<=100)=>YB N l (by omega) (λl=>(some ((),(WU l,())):Option (Unit×(List UInt8×Unit)))) N 0 l ⟨rfl,λk q h=>by omega,λk _ _=>rfl⟩ (by omega) (by omega) (by omega);by_cases h:n<0
  .have e1:decide (n<0)=true:=by simpa using h
   have i:Xe ([]++bW 20 n.natAbs) [(45:Int)]=bW 20 n.natAbs++ [45]:=by simp
   have j:Wx (([]++bW 20 n.natAbs).length+ [(45:Int)].length)=true:=Wp (by simp;omega);have d:=g (bW 20 n.natAbs++ [45]) (by simp;omega);have b:Wz .i64 (Wi (bW 20 n.natAbs++ [45])) 1=(((bW 20 n.natAbs++ [45]).length:Int) -1) -((0:Nat):Int):=by
    rw[WJ (by unfold I64 Wi;simp;omega)];simp[Wi]
   rw[e1,j,i,b];simp only[Wa];refine d.trans ?_;rw[Wf h,List.reverse_append];rfl
  .have e1:decide (n<0)=false:=by simpa using h
   have d:=g (bW 20 n.natAbs) (by omega);have b:Wz .i64 (Wi ([]++bW 20 n.natAbs)) 1=(((bW 20 n.natAbs).length:Int) -1) -((0:Nat):Int):=by
    rw[WJ (by unfold I64 Wi;simp;omega)];simp[Wi]
   rw[e1,b];simp only[Wb,dn];refine d.trans ?_;rw[We h];rfl
end
section
abbrev Opn:=Int×Int×Int×Int
def an(v:Int):Bool:=decide (0<=v)&&decide (v<=3)
def d9(v:Int):Bool:=decide (0<=v)&&decide (v<=7)
theorem Wpz{N}{v}:lg N v=ret (an v):=by
 unfold lg;simp only[cC,ret,Xd];rfl
theorem WoW{N}{v}:lh N v=ret (an v):=by
 unfold lh;simp only[WK,ret,Xd];rfl
theorem zF{N}{v}:gD N v=ret (d9 v):=by
 unfold gD;simp only[WK,ret,Xd];rfl
def aT(o:Opn):Bool:=
 bif o.1==1 then an o.2.1&&bR o.2.2.1&&(o.2.2.2==(0:Int))else
 bif o.1==2 then an o.2.1&&an o.2.2.1&&an o.2.2.2 else
 bif o.1==3 then an o.2.1&&an o.2.2.1&&an o.2.2.2 else
 bif o.1==4 then an o.2.1&&an o.2.2.1&&an o.2.2.2 else
 bif o.1==5 then an o.2.1&&bU o.2.2.1&&(o.2.2.2==(0:Int))else
 bif o.1==6 then bU o.2.1&&an o.2.2.1&&(o.2.2.2==(0:Int))else
 bif o.1==7 then an o.2.1&&(decide (1<=o.2.2.1)&&decide (o.2.2.1<=20))&&(o.2.2.2==(0:Int))else
 bif o.1==8 then an o.2.1&&(o.2.2.1==(0:Int))&&(o.2.2.2==(0:Int))else
 bif o.1==9 then(o.2.1==(0:Int))&&(o.2.2.1==(0:Int))&&(o.2.2.2==(0:Int))else
 bif o.1==10 then(o.2.1==(0:Int))&&(o.2.2.1==(0:Int))&&(o.2.2.2==(0:Int))else
 bif o.1==11 then(o.2.1==(0:Int))&&(o.2.2.1==(0:Int))&&(o.2.2.2==(0:Int))else
 bif o.1==12 then d9 o.2.1&&an o.2.2.1&&an o.2.2.2 else
 bif o.1==13 then an o.2.1&&d9 o.2.2.1&&(o.2.2.2==(0:Int))else
 bif o.1==14 then d9 o.2.1&&an o.2.2.1&&(o.2.2.2==(0:Int))else
 bif o.1==15 then an o.2.1&&(o.2.2.1==(0:Int))&&(o.2.2.2==(0:Int))else
 bif o.1==16 then an o.2.1&&(o.2.2.1==(0:Int))&&(o.2.2.2==(0:Int))else
 false
abbrev Bo:=Option Kq
def oA(p k:Bo):Bo:=p.bind λo=>bif o.2.1 then k else some ((),(false,()))
def oB(p:Bo):Bo:=p.bind λo=>some ((),(o.2.1,()))
theorem o3{T P Q R}{p q r}(h:T=oA P (oA Q (oB R)))(a:P=ret p)(b:Q=ret q)(c:R=ret r):T=ret (p&&q&&r):=by
 rw[h,a,b,c];cases p<;>cases q<;>rfl
theorem z0(v):(ret (v==(0:Int)):Bo)=ret (v==(0:Int)):=rfl
theorem sR(N)(v):lg N v=ret (an v):=Wpz
theorem sV(N)(v):fY N v=ret (bR v):=i0
theorem sC(N)(v):li N v=ret (bU v):=mD
theorem sK(N)(v):Zc N v 0 7=ret (d9 v):=cC
theorem sI(N)(v):Zc N v 1 20=ret (decide (1<=v)&&decide (v<=20)):=cC
theorem iR(N)(v):lh N v=ret (an v):=WoW
theorem iV(N)(v):gC N v=ret (bR v):=ka
theorem iC(N)(v):iS N v=ret (bU v):=W2
theorem iK(N)(v):gD N v=ret (d9 v):=zF
theorem iI(N)(v):Zd N v 1 20=ret (decide (1<=v)&&decide (v<=20)):=WK
def kds:List Int:=[1,2,3,4,5,6,7,8,9,10,11,12,13,14,15,16]
theorem YZ{P:Int->Prop}(l:P 1)(m:P 2)(n:P 3)(o:P 4)(p:P 5)(q:P 6)(r:P 7)(s:P 8)(t:P 9)(g:P 10)(u:P 11)(j:P 12)(f:P 13)(b:P 14)(c:P 15)(v:P 16)
  (a:∀k,(∀i,i∈kds->(k==i)=false)->P k) (k):P k:=by
 by_cases h:k∈kds
 .simp only[kds,Xq,mf,or_false]at h;rcases h with h|h|h|h|h|h|h|h|h|h|h|h|h|h|h|h<;>rw[h]<;>assumption
 .exact a k λi d=>by
   rw[beq_eq_false_iff_ne];intro e;exact h (e▸d)
theorem vm{N}{o:Opn}:u7 N o=ret (aT o):=by
 obtain⟨k,a,b,c⟩:=o;exact YZ (P:=λk=>u7 N (k,a,b,c)=ret (aT (k,a,b,c)))
  (o3 (by kernel_rfl) (sR N a) (sV N b) (z0 c))
  (o3 (by kernel_rfl) (sR N a) (sR N b) (sR N c))
  (o3 (by kernel_rfl) (sR N a) (sR N b) (sR N c))
  (o3 (by kernel_rfl) (sR N a) (sR N b) (sR N c))
  (o3 (by kernel_rfl) (sR N a) (sC N b) (z0 c))
  (o3 (by kernel_rfl) (sC N a) (sR N b) (z0 c))
  (o3 (by kernel_rfl) (sR N a) (sI N b) (z0 c))
  (o3 (by kernel_rfl) (sR N a) (z0 b) (z0 c))
  (o3 (by kernel_rfl) (z0 a) (z0 b) (z0 c))
  (o3 (by kernel_rfl) (z0 a) (z0 b) (z0 c))
  (o3 (by kernel_rfl) (z0 a) (z0 b) (z0 c))
  (o3 (by kernel_rfl) (sK N a) (sR N b) (sR N c))
  (o3 (by kernel_rfl) (sR N a) (sK N b) (z0 c))
  (o3 (by kernel_rfl) (sK N a) (sR N b) (z0 c))
  (o3 (by kernel_rfl) (sR N a) (z0 b) (z0 c))
  (o3 (by kernel_rfl) (sR N a) (z0 b) (z0 c))
  (λk e=>by unfold u7 aT;simp(disch:=decide) [e,Wb,Wk]) k
theorem Da{N}{o:Opn}:qX N o=ret (aT o):=by
 obtain⟨k,a,b,c⟩:=o;exact YZ (P:=λk=>qX N (k,a,b,c)=ret (aT (k,a,b,c)))
  (o3 (by kernel_rfl) (iR N a) (iV N b) (z0 c))
  (o3 (by kernel_rfl) (iR N a) (iR N b) (iR N c))
  (o3 (by kernel_rfl) (iR N a) (iR N b) (iR N c))
  (o3 (by kernel_rfl) (iR N a) (iR N b) (iR N c))
  (o3 (by kernel_rfl) (iR N a) (iC N b) (z0 c))
  (o3 (by kernel_rfl) (iC N a) (iR N b) (z0 c))
  (o3 (by kernel_rfl) (iR N a) (iI N b) (z0 c))
  (o3 (by kernel_rfl) (iR N a) (z0 b) (z0 c))
  (o3 (by kernel_rfl) (z0 a) (z0 b) (z0 c))
  (o3 (by kernel_rfl) (z0 a) (z0 b) (z0 c))
  (o3 (by kernel_rfl) (z0 a) (z0 b) (z0 c))
  (o3 (by kernel_rfl) (iK N a) (iR N b) (iR N c))
  (o3 (by kernel_rfl) (iR N a) (iK N b) (z0 c))
  (o3 (by kernel_rfl) (iK N a) (iR N b) (z0 c))
  (o3 (by kernel_rfl) (iR N a) (z0 b) (z0 c))
  (o3 (by kernel_rfl) (iR N a) (z0 b) (z0 c))
  (λk e=>by unfold qX aT;simp(disch:=decide) [e,Wb,Wk]) k
end
section
def iM{α:Type}(p:Nat->α->Bool):Nat->List α->Bool
 |_,[]=>false
 |j,x::l=>p j x||iM p (j+1) l
theorem De{α V R}{body}{K}{p}{E:V->Option R}:∀(l:List α) (j) (v),(∀(j:Nat) x v k,x∈l->body j x v k=bif p j x then E v else k v)->
  cX body K l j v=bif iM p j l then E v else K ((j+l.length:Nat):Int) v
 | [],j,v,_=>rfl
 |x::l,j,v,h=>by
  rw[cX,h j x v _ (Xl ..),De l (j+1) v λj y v k a=>h j y v k (Xg _ a),iM]
  grind
theorem DF{α}{p}:∀{l:List α} {j},iM p j l=true↔∃i,∃h:i<l.length,p (j+i) l[i]=true
 | [],j=>by simp[iM]
 |x::l,j=>by
  rw[iM,qj,DF];constructor
  .rintro(h|⟨i,a,h⟩)
   .exact⟨0,by simp,by grind⟩
   .exact⟨i+1,by simp_all,by grind⟩
  grind
def opd(o:Opn):Int:=bif o.1==8 then 1 else bif o.1==9 then-1 else 0
theorem As(o):-1<=opd o/\opd o<=1:=by unfold opd;cases o.1==8<;>cases o.1==9<;>simp
def dep(l:List Opn)(j:Nat):Int:=((l.take j).map opd).sum
theorem zW(l):dep l 0=0:=by simp[dep]
theorem fF{l}{j}(h):dep l (j+1)=dep l j+opd l[j]:=by
 grind [dep,qh]
theorem WB{α:Type}{l}{j}(h)(d:α):Xc l j d=l[j]:=by simp[h]
theorem gc(l):∀j:Nat,-(j:Int)<=dep l j/\dep l j<=j
 |0=>by simp[dep]
 |j+1=>by
  have a:=gc l j;by_cases h:j<l.length
  .have:=As l[j]
   grind [fF]
  grind [dep,wR]
def bal(l:List Opn):Bool:=!iM (λj _=>decide (dep l (j+1)<0)) 0 l&&decide (dep l l.length=0)
theorem GS{N}{o:Opn}:CI N o=ret (opd o):=by
 unfold CI opd;cases o.1==8<;>cases o.1==9<;>rfl
theorem H8(x):(x==(0:Int))=decide (x=0):=by by_cases h:x=0<;>simp[h]
theorem SS{N}{l:List Opn}(q:l.length<=1048576)(m:1048576<N):yh N l=ret (bal l):=by
 unfold yh bal;have b:=WC (l:=l) (V:=Unit) (R:=Unit×Ke) (lp:=λn j _=>w5 N l (some ((),(false,()))) (λf g h=>some ((),(f==(0:Int),()))) n (dep l j.toNat) j) (n:=N) (by omega)
  (body:=λj _ v k=>bif decide (dep l (j.toNat+1)<0)then some ((),(false,()))else k v) (K:=λj _=>some ((),(dep l j.toNat==(0:Int),())))
  (λn i v a=>by
   have o:=gc l i;have d:=fF a;have r:=As l[i];have e:Wj .i64 (dep l i) (opd l[i])=dep l (i+1):=by rw[WA (by unfold I64;omega),d]
   simp only[w5,WF a,Wq a,Wu a,WB a,Wl (show i<4611686018427387904 by omega),Wa,GS,ret,Xd,Xk,e])
  (λn v=>by simp[w5,WN,Xj,Wb]) ()
 have c:dep l (Xb 0)=0:=zW l;simp only[c]at b;refine b.trans ?_;rw[De (p:=λj _=>decide (dep l (j+1)<0)) (E:=λ_=>some ((),(false,()))) l 0 () (λj x v k _=>rfl)];rw[cb,Xk,H8];cases iM (λj _=>decide (dep l (j+1)<0)) 0 l<;>rfl
theorem WlR{N}{l:List Opn}(m:l.length<=1048576)(g:1048576<N){i}(hi:i<=l.length):BZ N l (i:Int)=ret (dep l i):=by
 unfold BZ;have b:=WC (l:=l) (V:=Unit) (R:=Unit×Kk) (lp:=λn j _=>th N (i:Int) l (λd e o=>some ((),(d,()))) n (dep l (min j.toNat i)) j) (n:=N) (by omega)
  (body:=λj _ v k=>k v) (K:=λj _=>some ((),(dep l (min j.toNat i),())))
  (λn j v a=>by
   have h:=gc l j;simp only[th,WF a,Wq a,Wu a,WB a,Wl (show j<4611686018427387904 by omega),Wa,GS,ret,Xd,Xk]
   grind [decide,min,Wj,dep,opd,WA,I64,fF])
  (λn v=>by simp[th,WN,Xj,Wb]) ()
 have c:dep l (min (Xb 0) i)=0:=by
  simp[min,Xb,zW]
 simp only[c]at b;refine b.trans ?_;rw[Dd (f:=λv _=>v) l 0 () (λj x v k _=>rfl),cb,Xk,Nat.min_eq_right hi]
theorem WoG{N}{l:List Opn}{a b}(B:a<=b)(z:b<=l.length)(A:l.length<=1048576)(y:1048576<N):
  nr N l (b:Int) (some ((),(false,()))) (λe t g=>some ((),(e==(0:Int),()))) N 0 (a:Int)=ret (bal ((l.take b).drop a)):=by
 have u:((l.take b).drop a).length=b-a:=by simp;omega
 unfold bal;have f:=WC (l:=(l.take b).drop a) (V:=Unit) (R:=Unit×Ke) (lp:=λn j _=>nr N l (b:Int) (some ((),(false,()))) (λe t g=>some ((),(e==(0:Int),()))) n (dep ((l.take b).drop a) j.toNat) ((a+j.toNat:Nat):Int)) (n:=N) (by omega)
  (body:=λj _ v k=>bif decide (dep ((l.take b).drop a) (j.toNat+1)<0)then some ((),(false,()))else k v) (K:=λj _=>some ((),(dep ((l.take b).drop a) j.toNat==(0:Int),())))
  (λn i v r=>by
   have w:=gc ((l.take b).drop a) i;have s:=fF r;have d:a+i<l.length:=by omega
   have c:decide (((a+i:Nat):Int)<(b:Int))=true:=by simp;omega
   have m:Wj .i64 ((a+i:Nat):Int) 1=((a+(i+1):Nat):Int):=by grind [WA,I64]
   have o:Wj .i64 (dep ((l.take b).drop a) i) 1=dep ((l.take b).drop a) i+1:=WA (by unfold I64;omega);have q:Wz .i64 (dep ((l.take b).drop a) i) 1=dep ((l.take b).drop a) i+ -1:=by grind [WJ,I64]
   simp only[nr,c,Wq d,Wu d,WB d,m,o,q,Wa,Xk];unfold opd at s
   grind)
  (λn v=>by
   have c:decide (((a+(((l.take b).drop a).length:Int).toNat:Nat):Int)<(b:Int))=false:=by simp_all
   simp only[nr,c,Wb]) ()
 have h:dep ((l.take b).drop a) (Xb 0)=0:=zW _;simp only[h]at f;refine f.trans ?_;rw[De (p:=λj _=>decide (dep ((l.take b).drop a) (j+1)<0)) (E:=λ_=>some ((),(false,()))) _ 0 () (λj x v k _=>rfl)];rw[cb,Xk,H8];cases iM (λj _=>decide (dep ((l.take b).drop a) (j+1)<0)) 0 ((l.take b).drop a)<;>rfl
def vK(l:List Opn)(i:Nat)(o:Opn):Bool:=decide (i+1+o.2.2.1.toNat<=l.length)&&bal ((l.take (i+1+o.2.2.1.toNat)).drop (i+1))
def frk(l:List Opn)(j:Nat):Nat:=(l.take j).countP λo=>o.1==11
theorem GZ{l}{j}(h):frk l (j+1)=frk l j+(l[j].1==11).toNat:=by
 unfold frk;rw[qh h,List.countP_append,List.countP_singleton];cases l[j].1==11<;>rfl
theorem YQ(l)(j):frk l j<=l.length:=eO List.countP_le_length (by simp;omega)
def sD(l:List Opn)(i:Nat)(o:Opn):Bool:=
 !aT o||((o.1==7)&& !vK l i o)||((o.1==11)&&(decide (dep l i>0)||decide (frk l (i+1)>1)))||decide (dep l (i+1)<0)
def kL(l:List Opn)(i:Nat)(o:Opn):Bool:=
 !aT o||((o.1==7)&& !vK l i o)||((o.1==11)&&(decide (frk l (i+1)>1)|| !decide (dep l i=0)))
def jJ(l:List Opn):Bool:=decide (l.length<=24)&&(bal l&& !iM (kL l) 0 l)
theorem Vf{l:List Opn}{i}{o}(f:l.length<=24)(hi:i<l.length)(e:aT o=true)(d:o.1=7):
  Wj .i64 ((i+1:Nat):Int) o.2.2.1=((i+1+o.2.2.1.toNat:Nat):Int)/\1<=o.2.2.1/\o.2.2.1<=20:=by
 obtain⟨k,a,b,c⟩:=o;subst d;have:(an a&&(decide (1<=b)&&decide (b<=20))&&(c==(0:Int)))=true:=e
 grind [WA,I64]
theorem WmN{N}{l:List Opn}{i}(d:l.length<=24)(c:1048576<N)(hi:i<l.length)(f:aT l[i]=true)(b:l[i].1=7):Cj N l (i:Int)=ret (vK l i l[i]):=by
 obtain⟨a,g,j⟩:=Vf d hi f b;unfold Cj vK;simp only[Wq hi,Wa,Wu hi,WB hi,a,Wl (show i<4611686018427387904 by omega)];by_cases h:i+1+l[i].2.2.1.toNat<=l.length
 .have e:decide (((i+1+l[i].2.2.1.toNat:Nat):Int)>Wi l)=false:=by simp[Wi];omega
  rw[e];simp only[Wb];rw[WoG (by omega) h (by omega) c];simp[h]
 grind [decide,Wi]
theorem NY{l}:bal l=true↔(∀i,i<l.length->0<=dep l (i+1))/\dep l l.length=0:=by
 unfold bal;rw[Xh,c5,←Pd,DF,Wh];simp_all
theorem WnA(l):(!iM (sD l) 0 l&&decide (dep l l.length=0))=(bal l&& !iM (kL l) 0 l):=by
 rw[Bool.eq_iff_iff,Xh,Xh,c5,c5,←Pd,←Pd,DF,DF,NY,Wh];constructor
 .rintro⟨b,c⟩;have d:∀i,i<l.length->0<=dep l (i+1):=λi a=>by
   grind [dep,absurd,sD]
  refine⟨⟨d,c⟩,?_⟩;rintro⟨i,a,h⟩;refine b ⟨i,a,?_⟩;have e:0<=dep l i:=by
   cases i with
   |zero=>rw[zW];omega
   |succ i=>grind
  unfold kL at h;unfold sD
  grind
 simp_all [cb,sD,kL,qj,Xh,Wh,c5,Wn]
theorem L2{N}{l:List Opn}(C:l.length<=1048576)(y:1048576<N):uG N l=ret (jJ l):=by
 unfold uG jJ;by_cases h:l.length<=24
 .have e:decide (Wi l>24)=false:=by simp[Wi];omega
  rw[e];simp only[Wb];have d:=WC (l:=l) (V:=Unit) (R:=Unit×Ke) (lp:=λn j _=>nv N l (some ((),(false,()))) (λz F G A=>some ((),(z==(0:Int),()))) n (dep l j.toNat) ((frk l j.toNat:Nat):Int) j) (n:=N) (by omega)
   (body:=λj x v k=>bif sD l j.toNat x then some ((),(false,()))else k v) (K:=λj _=>some ((),(dep l j.toNat==(0:Int),())))
   (λn i v a=>by
    have B:=gc l i;have c:=fF a;have f:=GZ a;have D:=YQ l i;have r:Wj .i64 (dep l i) 1=dep l i+1:=WA (by unfold I64;omega);have s:Wz .i64 (dep l i) 1=dep l i+ -1:=by grind [WJ,I64]
    have t:Wj .i64 ((frk l i:Nat):Int) 1=((frk l i+1:Nat):Int):=by grind [WA,I64]
    simp only[nv,WF a,Wq a,Wu a,WB a,Wl (show i<4611686018427387904 by omega),Wa,Xk,vm,ret,Xd,r,s,t];unfold sD;cases ho:aT l[i]with
    |false=>rfl
    |true=>
     unfold opd at c;by_cases u:l[i].1=8
     .simp_all
     .have b8:(l[i].1==8)=false:=by simp[u]
      by_cases w:l[i].1=9
      .simp_all
      .have b9:(l[i].1==9)=false:=by simp[w]
       by_cases b:l[i].1=7
       .have b7:(l[i].1==7)=true:=by simp[b]
        have m:(l[i].1==11)=false:=by simp[b]
        have g:=WmN h y a ho b;simp only[b8,b9,b7,m,Wa,Wb,Pa,c9,qq,eI,Bool.or_false,Int.add_zero,g,ret,Xd]at c f⊢;simp only[c,f];cases vK l i l[i]<;>rfl
       grind)
   (λn v=>by simp[nv,WN,Xj,Wb]) ()
  have o:dep l (Xb 0)=0:=zW l;have q:((frk l (Xb 0):Nat):Int)=0:=by simp[frk]
  simp only[o,q]at d;refine d.trans ?_;rw[De (p:=sD l) (E:=λ_=>some ((),(false,()))) l 0 () (λj x v k _=>by rw[Xk])];rw[cb,Xk,H8,←WnA];simp only[h,decide_true,eI];cases iM (sD l) 0 l<;>rfl
 grind [decide,Wi]
theorem Sy{N}{l:List Opn}(m:l.length<=1048576)(g:1048576<N):oU N l=ret (jJ l):=by
 unfold oU jJ;by_cases h:l.length<=24
 .have e:decide (Wi l>24)=false:=by simp[Wi];omega
  rw[e];simp only[Wb,SS m g,ret,Xd,h,decide_true,eI];cases vY:bal l with
  |false=>rfl
  |true=>
   simp only[Xn,Wb,eI];have f:=WC (l:=l) (V:=Unit) (R:=Unit×Ke) (lp:=λn j _=>qI N l (some ((),(false,()))) (λD B y=>some ((),(true,()))) n ((frk l j.toNat:Nat):Int) j) (n:=N) (by omega)
    (body:=λj x v k=>bif kL l j.toNat x then some ((),(false,()))else k v) (K:=λj _=>some ((),(true,())))
    (λn i v a=>by
     have c:=GZ a;have C:=YQ l i;have s:Wj .i64 ((frk l i:Nat):Int) 1=((frk l i+1:Nat):Int):=by grind [WA,I64]
     simp only[qI,WF a,Wq a,Wu a,WB a,Wa,Xk,Da,ret,Xd,s];unfold kL;cases ho:aT l[i]with
     |false=>rfl
     |true=>
      by_cases d:l[i].1=7
      .have b7:(l[i].1==7)=true:=by simp[d]
       have b:(l[i].1==11)=false:=by simp[d]
       obtain⟨u,f,z⟩:=Vf h a ho d;simp only[b7,b,Wa,u,Wl (show i<4611686018427387904 by omega),Pa,c9,qq,eI,Bool.or_false]at c⊢;simp only[c];unfold vK;by_cases A:i+1+l[i].2.2.1.toNat<=l.length
       .have q1:decide (((i+1+l[i].2.2.1.toNat:Nat):Int)>Wi l)=false:=by simp[Wi];omega
        have w:(((decide ((0:Int)<=((i+1+l[i].2.2.1.toNat:Nat):Int)))&&(decide (((i+1+l[i].2.2.1.toNat:Nat):Int)<=((Xa l):Int))))&&(decide ((0:Int)<=((i+1:Nat):Int)))&&(decide (((i+1:Nat):Int)<=((i+1+l[i].2.2.1.toNat:Nat):Int))))=true:=by simp;omega
        rw[q1,w];simp only[Wb,Wa,Xk];rw[SS (by simp;omega) g];simp_all
       grind [decide,Wi]
      .have b7:(l[i].1==7)=false:=by simp[d]
       by_cases o:l[i].1=11
       .have b:(l[i].1==11)=true:=by simp[o]
        simp only[b7,b,Wa,Wb,Bool.toNat_true,qq,eI,Bool.false_or,WlR m g (Nat.le_of_lt a),ret,Xd,Wl (show i<4611686018427387904 by omega)]at c⊢;simp only[c];have t:decide (((frk l i+1:Nat):Int)>1)=decide (frk l i+1>1):=by grind
        have q:(dep l i !=0)= !decide (dep l i=0):=by rw[bne,H8]
        rw[t,q];cases decide (frk l i+1>1)<;>cases decide (dep l i=0)<;>rfl
       .have b:(l[i].1==11)=false:=by simp[o]
        simp only[b7,b,Wa,Wb,Pa,c9,qq,Bool.false_or,Wl (show i<4611686018427387904 by omega)]at c⊢;simp_all)
    (λn v=>by simp[qI,WN,Xj,Wb]) ()
   have r:((frk l (Xb 0):Nat):Int)=0:=by simp[frk]
   simp only[r]at f;refine f.trans ?_;rw[De (p:=kL l) (E:=λ_=>some ((),(false,()))) l 0 () (λj x v k _=>by rw[Xk])];cases iM (kL l) 0 l<;>rfl
 grind [decide,Wi]
end
section
def kM(x:List UInt8):List Kg->List Kg
 | []=>[x]
 |h::t=>(x++h)::t
def spl(c:UInt8):List UInt8->List Kg
 | []=>[[]]
 |x::l=>if x=c then []::spl c l else kM [x] (spl c l)
theorem rX(c):∀l,spl c l≠ []
 | []=>by simp[spl]
 |x::l=>by
  rw[spl];split
  .simp
  .cases spl c l<;>simp[kM]
theorem Hv(c):∀l,(spl c l).length<=l.length+1
 | []=>by simp[spl]
 |x::l=>by
  have:=Hv c l;rw[spl];split
  .simp only[Xs];omega
  .cases h:spl c l<;>rw[h]at this<;>simp only[kM,Xs,kN]at* <;>omega
theorem Wsm(a b)(l):kM a (kM b l)=kM (a++b) l:=by cases l<;>simp[kM]
theorem V5{l}(h:l≠ []):kM [] l=l:=by cases l<;>simp_all [kM]
theorem HB{c}:∀{x} (y),c∉x->spl c (x++c::y)=x::spl c y
 | [],y,_=>by simp[spl]
 |z::x,y,h=>by
  simp only[Xq,not_or]at h;rw[dM,spl,We (λe=>h.1 e.symm),HB y h.2,kM];rfl
variable{N:Nat}
theorem Wvb{R}{s}{c}{K0:Int->Int->Bool->List Kg->Option R}(A:s.length<=1048576):∀(d i a n) (l:List Kg),i+d=s.length->d<n->a<=i->l.length<=i->
  ∃f g,ow N s (c.toNat:Int) K0 n (a:Int) (i:Int) l=K0 ((f:Nat):Int) (s.length:Int) false g/\f<=s.length/\g++ [s.drop f]=l++kM ((s.take i).drop a) (spl c (s.drop i))/\g.length<=s.length:=by
 intro d
 induction d with
 |zero=>
  intro i h n l w x t u;obtain⟨n,rfl⟩:∃m,n=m+1:=⟨n-1,by omega⟩;have b:i=s.length:=by omega
  subst b;refine⟨h,l,?_,t,?_,u⟩
  .simp[ow,WN (Xj _),Wb]
  .simp[spl,kM]
 |succ d ih=>
  intro i h n l w x t u;obtain⟨n,rfl⟩:∃m,n=m+1:=⟨n-1,by omega⟩;have b:i<s.length:=by omega
  have y:Xc s i (0:UInt8)=s[i]:=WB b _;have r:=d4 b;simp only[ow,WF b,Wq b,Wa,Wl (show i<4611686018427387904 by omega),Xk,y];by_cases j:s[i]=c
  .have hb:(((s[i].toNat:Nat):Int)==((c.toNat:Nat):Int))=true:=by rw[j];simp
   have z:((decide ((0:Int)<=(i:Int))&&decide ((i:Int)<=((s.length:Nat):Int)))&&decide ((0:Int)<=(h:Int))&&decide ((h:Int)<=(i:Int)))=true:=by simp;omega
   rw[hb,Wa,z,Wa,Wp (by simp;omega),Wa];obtain⟨f,g,k,o,p,q⟩:=ih (i+1) (i+1) n (l++ [(s.take i).drop h]) (by omega) (by omega) (Xj _) (by simp;omega);refine⟨f,g,k,o,?_,q⟩;rw[p,r,spl,Wf j];have v:(s.take (i+1)).drop (i+1)= []:=by simp
   rw[v,V5 (rX _ _),fX];simp[kM]
  .have hb:(((s[i].toNat:Nat):Int)==((c.toNat:Nat):Int))=false:=by
    rw[beq_eq_false_iff_ne];intro e;exact j (UInt8.toNat_inj.1 (by omega))
   rw[hb,Wb];obtain⟨f,g,k,o,p,q⟩:=ih (i+1) h n l (by omega) (by omega) (by omega) (by omega);refine⟨f,g,k,o,?_,q⟩;rw[p,r,spl,We j,Wsm];congr 2;rw[List.take_add_one,Xr b];simp only[Option.toList_some];rw[List.drop_append_of_le_length (by simp;omega)]
theorem GL{s}{c}(e:s.length<=1048576)(l:1048576<N):jZ N s (c.toNat:Int)=ret (spl c s):=by
 unfold jZ;obtain⟨f,b,h,m,i,n⟩:=Wvb (N:=N) (s:=s) (c:=c) (K0:=λa k j d=>
  (bif (decide ((0:Int)<=a))&&(decide (a<=((Xa s):Int)))then
 (bif Wx ((Xa d)+(Xa ([(dC (Xb a) s)])))then
 (some ((),(Xe d ([(dC (Xb a) s)]),())))else none)else none)) e s.length 0 0 N [] (by omega) (by omega) (by omega) (by simp)
 refine h.trans ?_;have g:(decide ((0:Int)<=(f:Int))&&decide ((f:Int)<=((s.length:Nat):Int)))=true:=by simp;omega
 simp only[g,Wa,Xk];rw[Wp (by simp;omega),Wa];have:b++ [s.drop f]=spl c s:=by
  rw[i];simp[V5 (rX _ _)]
 rw[show Xe b [dC f s]=b++ [s.drop f]from rfl,this]
end
section
theorem Mx{N}{s}{c}:uw N s c=jZ N s c:=by
 have h:∀{R:Type} (K0:Int->Int->Bool->List Kg->Option R) (n:Nat) (f i:Int) (l:List Kg),x4 N s c K0 n f i l=ow N s c K0 n f i l:=by
  intro R K0 n
  induction n with
  |zero=>intros;rfl
  |succ n ih=>intro f i l;simp[x4,ow,ih]
 unfold uw jZ;rw[h]
def isD(b:UInt8):Bool:=decide (48<=b.toNat)&&decide (b.toNat<=57)
def dB(n:Int)(l:List UInt8):Int:=l.foldl (λn b=>n*10+((b.toNat:Int) -48)) n
theorem vC{b}:isD b=true↔48<=b.toNat/\b.toNat<=57:=by simp[isD]
theorem Hn:∀{l} {n} {e},(∀b∈l,isD b=true)->0<=n->n<10^e->0<=dB n l/\dB n l<10^(e+l.length)
 | [],n,e,_,a,c=>⟨a,c⟩
 |b::l,n,e,h,a,c=>by
  have d:=vC.1 (h b (Xl ..));have:=Hn (l:=l) (n:=n*10+((b.toNat:Int) -48)) (e:=e+1) (λb d=>h b (Xg _ d)) (by omega) (by omega);rw[Xs,show e+(l.length+1)=e+1+l.length by omega];exact this
theorem XM{n}{b}(a:isD b=true)(e:0<=n)(f:n<1000000000000):Wj .i64 (bw .i64 10 n) (IntKind.wrap .i64 (Wz .u8 ((b.toNat:Nat):Int) 48))=n*10+((b.toNat:Int) -48)/\Wj .i64 (bw .i64 n 10) (IntKind.wrap .i64 (Wz .u8 ((b.toNat:Nat):Int) 48))=n*10+((b.toNat:Int) -48):=by
 have a:=vC.1 a;have c:Wz .u8 ((b.toNat:Nat):Int) 48=(b.toNat:Int) -48:=Yf (by omega);have d:IntKind.wrap .i64 ((b.toNat:Int) -48)=(b.toNat:Int) -48:=pt (by unfold I64;omega);rw[c,d,kk (by unfold I64;omega),kk (by unfold I64;omega),WA (by unfold I64;omega),WA (by unfold I64;omega)];omega
theorem Ed{e}(h:e<=11):(10:Int)^e<=100000000000:=by
 have:e=0\/e=1\/e=2\/e=3\/e=4\/e=5\/e=6\/e=7\/e=8\/e=9\/e=10\/e=11:=by omega
 rcases this with rfl|rfl|rfl|rfl|rfl|rfl|rfl|rfl|rfl|rfl|rfl|rfl<;>decide
section
variable{N:Nat}{s:List UInt8}{R:Type}
theorem Yy{a}{K0}{K1:Int->Int->Bool->Option R}(m:s.length<=1048576):∀(d i b) (n),i+d=s.length->d<b->d<=9->0<=n->n<10^(9-d)->
  ot N s a K0 K1 b n (i:Int)=if(s.drop i).all isD=true then K1 (dB n (s.drop i)) (s.length:Int) false else K0
 |0,i,b,n,j,k,l,e,h5=>by
  obtain⟨g,rfl⟩:∃g,b=g+1:=⟨b-1,by omega⟩;have:i=s.length:=by omega
  subst this;rw[ot,WN (Xj _),Wb,fo];rfl
 |d+1,i,b,n,j,k,l,e,h5=>by
  obtain⟨g,rfl⟩:∃g,b=g+1:=⟨b-1,by omega⟩;have c:i<s.length:=by omega
  have h:=d4 c;have q:(10:Int)^(9-d)=10^(9-(d+1))*10:=by rw[←Int.pow_succ];congr 1;omega
  have o:=Ed (show 9-(d+1)<=11 by omega);simp only[ot,WF c,Wq c,Wa,Wl (show i<4611686018427387904 by omega),Wu c];rw[h,d6];cases hd:isD s[i]with
  |false=>
   have:¬(48<=s[i].toNat/\s[i].toNat<=57):=λz=>by simp[vC.2 z]at hd
   rw[qq,We (by simp)];by_cases f:((s[i].toNat:Nat):Int)<48
   .rw[Wc f,Wa]
   .rw[Wg f,Wb,Wc (by omega),Wa]
  |true=>
   have p:=vC.1 hd;rw[Wg (by omega),Wb,Wg (by omega),Wb,(XM hd e (by omega)).1,eI];rw[Yy m d (i+1) g _ (by omega) (by omega) (by omega) (by omega) (by omega)];rfl
theorem Oj{K0:Int->Int->Int->Bool->Option R}:∀(d i a) (n k:Int),i+d=min 11 s.length->d<a->0<=n->n<10^i->0<=k->k<=i->
  ∃j t,oq N s K0 a n k (i:Int)=K0 (dB n (((s.take 11).drop i).filter isD)) (k+(((s.take 11).drop i).filter isD).length) j t
 |0,i,a,n,k,o,p,b,q,f,h6=>by
  obtain⟨g,rfl⟩:∃g,a=g+1:=⟨a-1,by omega⟩;have l:(s.take 11).drop i= []:=List.drop_eq_nil_of_le (by rw[ca];omega);rw[l];by_cases u:s.length<=i
  .exact⟨(i:Int),false,by rw[oq,WN u,Wb];simp[dB]⟩
  .refine⟨(i:Int),decide ((i:Int)<11),?_⟩;rw[oq,WF (by omega),Wa,Wg (by omega),Wb];simp[dB]
 |d+1,i,a,n,k,o,p,b,q,f,h6=>by
  obtain⟨g,rfl⟩:∃g,a=g+1:=⟨a-1,by omega⟩;have c:i<s.length:=by omega
  have v:i<(s.take 11).length:=by rw[ca];omega
  have m:(s.take 11).drop i=s[i]::(s.take 11).drop (i+1):=by rw[d4 v,List.getElem_take]
  have w:=Ed (show i<=11 by omega);simp only[oq,WF c,Wq c,Wa,Wc (show(i:Int)<11 by omega),Wl (show i<4611686018427387904 by omega),Wu c];rw[m,List.filter_cons];cases hd:isD s[i]with
  |false=>
   have r:¬(48<=s[i].toNat/\s[i].toNat<=57):=λz=>by simp[vC.2 z]at hd
   obtain⟨j,t,e⟩:=Oj (K0:=K0) d (i+1) g n k (by omega) (by omega) b (by omega) f (by omega);refine⟨j,t,?_⟩;by_cases h:((s[i].toNat:Nat):Int)>=48
   .rw[Wc h,Wa,Wg (by omega),Wb];exact e
   .rw[Wg h,Wb];exact e
  |true=>
   have r:=vC.1 hd;obtain⟨j,t,e⟩:=Oj (K0:=K0) d (i+1) g (n*10+((s[i].toNat:Int) -48)) (k+1) (by omega) (by omega) (by omega) (by omega) (by omega) (by omega);refine⟨j,t,?_⟩;rw[Wf rfl,Wc (by omega),Wa,Wc (by omega),Wa,(XM hd b (by omega)).2,WA (by unfold I64;omega),e,Xs];congr 1;omega
end
end
section
theorem Yo:∀(f m),∀x∈bW f m,48<=x/\x<=57
 |0,m,x,h=>by cases h
 |f+1,m,x,h=>by
  rw[bW]at h;split at h
  .cases h
  .rcases Xq.1 h with rfl|h
   .omega
   .exact Yo f _ x h
theorem ofd{x:Int}(h:48<=x/\x<=57):(UInt8.ofNat x.toNat).toNat=x.toNat:=by
 rw[UInt8.toNat_ofNat'];omega
theorem Wxf{l}(h:∀x∈l,48<=x/\x<=57):(WU l).all isD=true:=by
 rw[bH];intro b a;obtain⟨x,c,rfl⟩:=Xx.1 a;have:=h x c;rw[vC,ofd this];omega
theorem GI(n)(c:n.natAbs<10^20):∃D,D≠ []/\D.all isD=true/\aL n=(if n<0 then [45]else [])++D:=by
 unfold aL;by_cases a:n=0
 .subst a;exact⟨[48],by simp,rfl,rfl⟩
 .rw[We a];refine⟨_,?_,Wxf λx b=>Yo 20 n.natAbs x (List.mem_reverse.1 b),rfl⟩;have:bW 20 n.natAbs≠ []:=by rw[bW,We (by omega)];simp
  simp[WU,this]
theorem Wv9{n}{l m}:dB n (l++m)=dB (dB n l) m:=by simp[dB]
theorem Ur:∀(f m),m<10^f->dB 0 (WU (bW f m).reverse)=m
 |0,m,h=>by
  have:m=0:=by simpa using h
  subst this;rfl
 |f+1,m,h=>by
  rw[bW];split
  .rename_i e;subst e;rfl
  .rw[Xhq,WU,List.map_append];show dB 0 (WU (bW f (m/10)).reverse++_)=_;rw[Wv9,Ur f (m/10) (by omega)];show((m/10:Nat):Int)*10+(((UInt8.ofNat (48+((m%10:Nat):Int)).toNat).toNat:Int) -48)=m;rw[ofd (by omega)];omega
theorem XD:∀(j f m),m<10^j->(bW f m).length<=j
 |0,f,m,h=>by
  have:m=0:=by simpa using h
  subst this;rw[Mz];simp
 |j+1,0,m,h=>by simp[bW]
 |j+1,f+1,m,h=>by
  rw[bW];split
  .simp
  .have:=XD j f (m/10) (by omega);simp;omega
theorem Ys:∀e:Nat,(0:Int)<10^e
 |0=>by decide
 |e+1=>by have:=Ys e;omega
def sg(neg:Bool)(n:Int):Int:=bif neg then Wz .i64 0 n else n
theorem OK{neg}{n}(a:0<=n)(b:n<=100000000000):I64 (sg neg n):=by
 cases neg
 .show I64 n;unfold I64;omega
 .show I64 (Wz .i64 0 n);rw[WJ (by unfold I64;omega)];unfold I64;omega
def rdT(neg:Bool)(t s:List UInt8):Int×Bool:=if t.all isD=true/\1<=t.length/\t.length<=9/\aL (sg neg (dB 0 t))=s then(sg neg (dB 0 t),true)else(0,false)
def rd:List UInt8->Int×Bool
 | []=>(0,false)
 |b::t=>if b=45 then rdT true t (b::t)else rdT false (b::t) (b::t)
theorem Wyt{m}(j:0<=m)(k:m<1000000000):rd (aL m)=(m,true):=by
 by_cases d:m=0
 .subst d;rfl
 obtain⟨D,f,c,a⟩:=GI m (by omega);rw[We (by omega),dn]at a;have e:aL m=WU (bW 20 m.natAbs).reverse:=by unfold aL;rw[We d,We (by omega)];rfl
 have i:dB 0 (aL m)=m:=by rw[e,Ur 20 _ (by omega)];omega
 have h:(aL m).length<=9:=by rw[e];simpa [WU]using XD 9 20 m.natAbs (by omega)
 cases hD:aL m with
 |nil=>exact Wy (a.symm.trans hD) f
 |cons b t=>
  have g:isD b=true:=by rw[←a,hD,d6,Xh]at c;exact c.1
  have:b≠45:=λz=>by subst z;exact Wy g (by decide)
  show(if b=45 then rdT true t (b::t)else rdT false (b::t) (b::t))=_;rw[We this,←hD];unfold rdT;rw[i];exact Wf ⟨a▸c,by rw[hD];simp,h,rfl⟩
section
variable{N:Nat}{s:List UInt8}
theorem vo(q:s.length<=1048576)(w:1048576<N):lb N s=some ((),((rd s).1,((rd s).2,()))):=by
 have c:∀(neg:Bool) (a:Nat) (t:List UInt8),s.drop a=t->a+t.length=s.length->((Zd N (Wz .i64 (Wi s) (a:Int)) 1 9).bind λu=>
   (bif !u.2.1 then(some ((),((0:Int),(false,()))))else
    (ot N s (a:Int) (some ((),((0:Int),(false,())))) (λd m l=>((Z2 N (sg neg d)).bind λh=>(bif !(seq h.2.1 s)then(some ((),((0:Int),(false,()))))else(some ((),(sg neg d,(true,()))))))) N 0 (a:Int))))=some ((),((rdT neg t s).1,((rdT neg t s).2,()))):=λneg a t o v=>by
  rw[WK,WJ (by unfold I64 Wi;omega)];simp only[ret,Xd];unfold rdT;by_cases k:1<=t.length/\t.length<=9
  .rw[Wc (by unfold Wi;omega),Wc (by unfold Wi;omega),show(!(true&&true))=false from rfl,Wb];have:=Yy (N:=N) (a:=(a:Int)) (K0:=(some ((),((0:Int),(false,()))))) (K1:=(λd m l=>((Z2 N (sg neg d)).bind λh=>(bif !(seq h.2.1 s)then(some ((),((0:Int),(false,()))))else(some ((),(sg neg d,(true,())))))))) q t.length a N 0 (by omega) (by omega) (by omega) (by omega) (Ys _);rw[this,o];by_cases f:t.all isD=true
   .rw[Wf f];have r:=Hn (n:=0) (e:=0) (bH.1 f) (by omega) (by omega);have x:=Ed (show 0+t.length<=11 by omega);have p:I64 (sg neg (dB 0 t)):=OK r.1 (by omega);rw[L7 p (by omega)];simp only[ret,Xd];by_cases g:aL (sg neg (dB 0 t))=s
    .rw[Wf ⟨f,k.1,k.2,g⟩,show seq (aL (sg neg (dB 0 t))) s=true by unfold seq;simpa using g];rfl
    .rw[We (λz=>g z.2.2.2),show seq (aL (sg neg (dB 0 t))) s=false by unfold seq;simpa using g];rfl
   .rw[We f,We (λz=>f z.1)]
  .rw[We (λz=>k ⟨z.2.1,z.2.2.1⟩)];have:(!(decide ((1:Int)<=Wi s-a)&&decide (Wi s-a<=9)))=true:=by
    unfold Wi;simp only[c5,Bool.and_eq_false_iff,Wn];omega
   rw[this,Wa]
 unfold lb;cases s with
 |nil=>
  have:=c false 0 [] rfl rfl;exact this
 |cons b t=>
  rw[show decide (Wi (b::t)>0)=true by unfold Wi;simp,Wa,show inb 0 (Xa (b::t))=true from Wq (j:=0) (by simp),Wa,show Xc (b::t) (Xb 0) (0:UInt8)=b from rfl];by_cases i:b=45
  .subst i;have:=c true 1 t rfl (by simp;omega);exact this
  .rw[show(((b.toNat:Nat):Int)==45)=false by
    rw[beq_eq_false_iff_ne];intro z;exact i (UInt8.toNat_inj.1 (by show b.toNat=45;omega)),Wb]
   have:=c false 0 (b::t) rfl (by simp);show _=some ((),((if b=45 then rdT true t (b::t)else rdT false (b::t) (b::t)).1,((if b=45 then rdT true t (b::t)else rdT false (b::t) (b::t)).2,())));rw[We i];exact this
theorem vp(O:s.length<=1048576)(K:1048576<N):mB N s=some ((),((rd s).1,((rd s).2,()))):=by
 obtain⟨j,R,E⟩:=Oj (N:=N) (s:=s) (K0:=λg x Q J=>
  (bif decide ((Wi s)>(0:Int))then
 (bif inb (0:Int) (Xa s)then
 (bif (((UInt8.toNat (Xc s (Xb (0:Int)) (0:UInt8)):Nat):Int))==(45:Int)then
 (bif decide (x>(9:Int))then
 (some ((),((0:Int),(false,()))))
 else
 (bif decide ((Wi s)>(10:Int))then
 (some ((),((0:Int),(false,()))))
 else
 ((Zv N (Wz .i64 (0:Int) g)).bind λp=>
 (bif !(seq p.2.1 s)then
 (some ((),((0:Int),(false,()))))
 else
 (some ((),(Wz .i64 (0:Int) g,(true,()))))))))
 else
 (bif decide (x>(9:Int))then
 (some ((),((0:Int),(false,()))))
 else
 (bif decide ((Wi s)>(10:Int))then
 (some ((),((0:Int),(false,()))))
 else
 ((Zv N g).bind λH=>
 (bif !(seq H.2.1 s)then
 (some ((),((0:Int),(false,()))))
 else
 (some ((),(g,(true,())))))))))else none)
 else
 (bif decide (x>(9:Int))then
 (some ((),((0:Int),(false,()))))
 else
 (bif decide ((Wi s)>(10:Int))then
 (some ((),((0:Int),(false,()))))
 else
 ((Zv N g).bind λG=>
 (bif !(seq G.2.1 s)then
 (some ((),((0:Int),(false,()))))
 else
 (some ((),(g,(true,())))))))))) (min 11 s.length) 0 N 0 0 (by omega) (by omega) (by omega) (by omega) (by omega) (by omega)
 refine Eq.trans E ?_;have F:=Hn (l:=(s.take 11).filter isD) (n:=0) (e:=0) (λb h=>(List.mem_filter.1 h).2) (by omega) (by omega);have P:((s.take 11).filter isD).length<=11:=eO (List.length_filter_le _ _) (by rw[ca];omega);have M:=Ed (show 0+((s.take 11).filter isD).length<=11 by omega);have a:∀(neg:Bool) (t:List UInt8),(neg=true->s=45::t)->(neg=false->s=t/\∀u,s≠45::u)->
   (bif decide ((0:Int)+(((s.take 11).filter isD).length:Int)>9)then(some ((),((0:Int),(false,()))))else
    (bif decide (Wi s>10)then(some ((),((0:Int),(false,()))))else((Zv N (sg neg (dB 0 ((s.take 11).filter isD)))).bind λp=>
     (bif !(seq p.2.1 s)then(some ((),((0:Int),(false,()))))else(some ((),(sg neg (dB 0 ((s.take 11).filter isD)),(true,()))))))))=some ((),((rdT neg t s).1,((rdT neg t s).2,()))):=λneg t w k=>by
  have A:=OK (neg:=neg) F.1 (by omega);rw[Dg A (by omega)];simp only[ret,Xd];unfold rdT;by_cases f:t.all isD=true/\1<=t.length/\t.length<=9
  .have e1:(s.take 11).filter isD=t:=by
    cases neg with
    |true=>
     have:=w rfl;rw[this,List.take_succ_cons,wR (by omega),List.filter_cons_of_neg (by decide),A1.2 (bH.1 f.1)]
    |false=>rw[(k rfl).1,wR (by omega),A1.2 (bH.1 f.1)]
   have L:s.length<=10:=by
    cases neg with
    |true=>rw[w rfl,Xs];omega
    |false=>rw[(k rfl).1];omega
   rw[e1,Wg (by omega),Wb,Wg (by unfold Wi;omega),Wb];by_cases m:aL (sg neg (dB 0 t))=s
   .rw[Wf ⟨f.1,f.2.1,f.2.2,m⟩,show seq (aL (sg neg (dB 0 t))) s=true by unfold seq;simpa using m];rfl
   .rw[We (λz=>m z.2.2.2),show seq (aL (sg neg (dB 0 t))) s=false by unfold seq;simpa using m];rfl
  .rw[We (λz=>f ⟨z.1,z.2.1,z.2.2.1⟩)];by_cases q:(0:Int)+(((s.take 11).filter isD).length:Int)>9
   .rw[Wc q,Wa]
   .rw[Wg q,Wb];by_cases o:Wi s>10
    .rw[Wc o,Wa]
    .rw[Wg o,Wb];have:seq (aL (sg neg (dB 0 ((s.take 11).filter isD)))) s=false:=by
      unfold seq;rw[beq_eq_false_iff_ne];intro z;apply f;obtain⟨D,C,i,c⟩:=GI (sg neg (dB 0 ((s.take 11).filter isD))) (by unfold I64 at A;omega);rw[z]at c;have I:s.take 11=s:=wR (by unfold Wi at o;omega);rw[I]at q;have v:=A1.2 (bH.1 i);have r:1<=D.length:=by cases D with|nil=>exact Wy rfl C|cons _ _=>simp
      have e:t=D:=by
       cases neg with
       |true=>
        have y:=w rfl;split at c
        .rw[y]at c;exact(List.cons.inj c).2
        .rw[y,dn]at c;rw[←c]at i;exact Wy i (by simp[isD])
       |false=>
        split at c
        .exact Wy c ((k rfl).2 D)
        .rw[←(k rfl).1,c];rfl
      subst e;refine⟨i,r,?_⟩;have:(s.filter isD).length=t.length:=by
       rw[c,List.filter_append,v];split<;>simp[isD]
      omega
     rw[this];rfl
 cases d:s with
 |nil=>
  have:=a false [] (λz=>by cases z) (λ_=>⟨d,λu z=>by rw[d]at z;cases z⟩);rw[d]at this;exact this
 |cons b t=>
  have B:decide (Wi (b::t)>0)=true:=by unfold Wi;simp
  rw[←d]at B⊢;rw[B,Wa,show inb 0 s.length=true from by rw[d];exact Wq (j:=0) (by simp),Wa,show Xc s (Xb 0) (0:UInt8)=b by rw[d];rfl];by_cases h:b=45
  .subst h;have:=a true t (λ_=>d) (λz=>by cases z);refine Eq.trans this ?_;rw[d];rfl
  .rw[show(((b.toNat:Nat):Int)==45)=false by
    rw[beq_eq_false_iff_ne];intro z;exact h (UInt8.toNat_inj.1 (by show b.toNat=45;omega)),Wb]
   have:=a false s (λz=>by cases z) (λ_=>⟨rfl,λu z=>h (by rw[d]at z;exact(List.cons.inj z).1)⟩);refine Eq.trans this ?_;have:rd s=rdT false s s:=by rw[d];exact We h
   rw[this]
end
end
section
def wds:List Kg:=[([]:List UInt8),[115,101,116],[97,100,100],[115,117,98],[108,101,115,115],[114,101,97,100],[119,114,105,116,101],[115,107,105,112],[98,101,103,105,110],[101,110,100],[97,98,111,114,116],[102,111,114,107],[112,117,116],[103,101,116],[100,114,111,112],[98,117,109,112],[99,111,117,110,116]]
def d3(k:Int):Nat:=[2,2,3,3,3,2,2,2,1,0,0,0,3,2,2,1,1].getD k.toNat 2
theorem k16{k:Int}(h:1<=k/\k<=16):k=1\/k=2\/k=3\/k=4\/k=5\/k=6\/k=7\/k=8\/k=9\/k=10\/k=11\/k=12\/k=13\/k=14\/k=15\/k=16:=by omega
theorem Yr{N}{k}(h:1<=k/\k<=16):J5 N k=ret (wds.getD k.toNat []):=by
 rcases k16 h with rfl|rfl|rfl|rfl|rfl|rfl|rfl|rfl|rfl|rfl|rfl|rfl|rfl|rfl|rfl|rfl<;>rfl
theorem Vm{N}{k}(h:1<=k/\k<=16):J6 N k=ret (d3 k:Int):=by
 rcases k16 h with rfl|rfl|rfl|rfl|rfl|rfl|rfl|rfl|rfl|rfl|rfl|rfl|rfl|rfl|rfl|rfl<;>rfl
theorem VF{N}{k}(h:1<=k/\k<=16):Ls N k=ret (d3 k:Int):=by
 rcases k16 h with rfl|rfl|rfl|rfl|rfl|rfl|rfl|rfl|rfl|rfl|rfl|rfl|rfl|rfl|rfl|rfl<;>rfl
theorem Hw{k}(h:1<=k/\k<=16):d3 k<=3/\(32:UInt8)∉wds.getD k.toNat []/\(wds.getD k.toNat []).length<=5:=by
 rcases k16 h with rfl|rfl|rfl|rfl|rfl|rfl|rfl|rfl|rfl|rfl|rfl|rfl|rfl|rfl|rfl|rfl<;>exact⟨by decide,by decide,by decide⟩
theorem N3{c}:∀{x},c∉x->spl c x= [x]
 | [],_=>rfl
 |z::x,h=>by
  simp only[Xq,not_or]at h;rw[spl,We (λe=>h.1 e.symm),N3 h.2];rfl
theorem UF:∀{l} {w},(32:UInt8)∉w->(∀x∈l,(32:UInt8)∉x)->spl 32 (w++l.flatMap λx=>32::x)=w::l
 | [],w,h,_=>by rw[List.flatMap_nil,iN,N3 h]
 |x::l,w,h,hl=>by
  rw[qp,dM,HB _ h,UF (hl x (Xl ..)) λy a=>hl y (Xg _ a)]
theorem WxU{n}(c:n.natAbs<10^20):(32:UInt8)∉aL n:=λh=>by
 obtain⟨D,d,a,b⟩:=GI n c;rw[b]at h;rcases List.mem_append.1 h with h|h
 .split at h
  .simp at h
  .cases h
 .exact Wy (bH.1 a _ h) (by decide)
def shO(o:Opn):List UInt8:=if aT o=true then wds.getD o.1.toNat []++(([o.2.1,o.2.2.1,o.2.2.2].take (d3 o.1)).map aL).flatMap λx=>32::x else []
section
variable{N:Nat}{R:Type}
theorem N5:∀(l:List Int),((l.map aL).flatMap λx=>(32:UInt8)::x).length<=31*l.length
 | []=>by simp
 |x::l=>by
  have:=N5 l;have:=ek x;simp only[bn,qp,dM,Xs,Xv]at*;omega
theorem YT{l}{K0:List UInt8->Int->Bool->Option R}(j:1048576<N)(c:∀x∈l,I64 x)(k:l.length<=10):∀(d i a:Nat) (s),i+d=l.length->d<a->s.length+31*d<=1000->
  yp N (Wi l) l K0 a s (i:Int)=K0 (s++((l.drop i).map aL).flatMap λx=>32::x) (l.length:Int) false
 |0,i,a,s,f,h,h3=>by
  obtain⟨g,rfl⟩:∃g,a=g+1:=⟨a-1,by omega⟩;have:i=l.length:=by omega
  subst this;rw[yp,WN (Xj _),Wb,fo];simp
 |d+1,i,a,s,f,h,h3=>by
  obtain⟨g,rfl⟩:∃g,a=g+1:=⟨a-1,by omega⟩;have b:i<l.length:=by omega
  have e:=d4 b;have m:=ek l[i];rw[yp,WF b,Wa,Wq b,Wa,kh (by simp;omega),Wa,Wu b,L7 (c _ (Xt b)) (by omega)];simp only[ret,Xd];rw[kh (by simp;omega),Wa,Wl (by omega),YT j c k d (i+1) g _ (by omega) (by omega) (by simp;omega),e];simp only[bn,qp,fX,dM,dn]
theorem Wsy{o:Opn}(h:1<=o.1/\o.1<=16)(a:I64 o.2.1/\I64 o.2.2.1/\I64 o.2.2.2)(b:1048576<N):u4 N o=ret (shO o):=by
 obtain⟨f,g,j⟩:=Hw h;unfold u4 shO;rw[Da];cases aT o with
 |false=>rfl
 |true=>
  rw[Yr h,Vm h];simp only[ret,Xd,Xn,Wb,Xk,W1];have e:(decide ((0:Int)<=((d3 o.1:Nat):Int))&&decide (((d3 o.1:Nat):Int)<=(([o.2.1,o.2.2.1,o.2.2.2].length:Nat):Int)))=true:=by simp;omega
  rw[e,Wa];have c:([o.2.1,o.2.2.1,o.2.2.2].take (d3 o.1)).length<=3:=by rw[ca];exact eO (Nat.min_le_right ..) (by simp)
  refine Eq.trans (YT (i:=0) (l:=[o.2.1,o.2.2.1,o.2.2.2].take (d3 o.1)) b (λx d=>?_) (by omega) ([o.2.1,o.2.2.1,o.2.2.2].take (d3 o.1)).length N _ (by omega) (by omega) (by omega)) ?_
  .have:=od d;simp only[Xq,mf,or_false]at this;rcases this with rfl|rfl|rfl
   .exact a.1
   .exact a.2.1
   .exact a.2.2
  .rfl
theorem Us:K6 N=ret wds:=rfl
theorem UP{o:Opn}(h:1<=o.1/\o.1<=16)(e:I64 o.2.1/\I64 o.2.2.1/\I64 o.2.2.2)(n:1048576<N):zh N o=ret (shO o):=by
 obtain⟨s,t,u⟩:=Hw h;unfold zh shO;rw[vm,VF h,Us];simp only[ret,Xd,Wk];cases aT o with
 |false=>rfl
 |true=>
  have p:=ek o.2.1;have q:=ek o.2.2.1;have r:=ek o.2.2.2;have k:inb o.1 (Xa wds)=true:=by unfold inb;simp[wds];omega
  simp only[Xn,Wb,W1,Wk];rw[k,Wa,Dg e.1 (by omega),Dg e.2.1 (by omega),Dg e.2.2 (by omega)];simp only[ret,Xd,Wk];have c:d3 o.1=0\/d3 o.1=1\/d3 o.1=2\/d3 o.1=3:=by omega
  have d:∀a b:List UInt8,a.length+b.length<=1000->W5 a b=true:=λa b h=>kh (by omega);generalize Xc wds o.1.toNat []=w at*;have f:=d w [32] (by simp;omega);have g:=d (w++ [32]) (aL o.2.1) (by simp;omega);have i:=d (w++ [32]++aL o.2.1) [32] (by simp;omega);have j:=d (w++ [32]++aL o.2.1++ [32]) (aL o.2.2.1) (by simp;omega);have l:=d (w++ [32]++aL o.2.1++ [32]++aL o.2.2.1) [32] (by simp;omega);have m:=d (w++ [32]++aL o.2.1++ [32]++aL o.2.2.1++ [32]) (aL o.2.2.2) (by simp;omega);rcases c with c|c|c|c<;>rw[c]
  .simp
  .rw[f,g];simp
  .rw[f,g,i,j];simp
  .rw[f,g,i,j,l,m];simp
end
end
section
section
variable{N:Nat}{s:List UInt8}{l:List Kg}{R:Type}
def Kd0(l:List Kg)(b:Int):Prop:=b=0\/(1<=b/\b<=16)/\wds.getD b.toNat []=l.getD 0 []
theorem NR(h:0<l.length){K0 K1:Int->Bool->Int->Option R}:∀(d a:Nat) (k b:Int),k+d=17->1<=k->d<a->Kd0 l b->∃c,Kd0 l c/\ym N s l wds K0 a k b=K0 17 false c/\yq N s l K1 a k b=K1 17 false c
 |0,a,k,b,p,q,r,e=>by
  obtain⟨g,rfl⟩:∃g,a=g+1:=⟨a-1,by omega⟩;have:k=17:=by omega
  subst this;exact⟨b,e,rfl,rfl⟩
 |d+1,a,k,b,p,q,r,e=>by
  obtain⟨g,rfl⟩:∃g,a=g+1:=⟨a-1,by omega⟩;have f:1<=k/\k<=16:=by omega
  have t:inb (0:Int) l.length=true:=Wq (j:=0) h;have m:decide (k<Wi wds)=true:=Wc (by show k<17;omega);have n:inb k wds.length=true:=by show(decide (0<=k)&&decide (k<((17:Nat):Int)))=true;simp;omega
  have o:Wj .i64 k 1=k+1:=WA (by unfold I64;omega);rw[ym,yq,m,n,t,Wc f.2,Yr f,o];simp only[Wa,ret,Xd];by_cases i:wds.getD k.toNat []=l.getD 0 []
  .have:seq (wds.getD k.toNat []) (Xc l (Xb 0) [])=true:=by unfold seq;simpa using i
   rw[this,Wa,Wa];exact NR h d g (k+1) k (by omega) (by omega) (by omega) (.inr ⟨f,i⟩)
  .have:seq (wds.getD k.toNat []) (Xc l (Xb 0) [])=false:=by unfold seq;simpa using i
   rw[this,Wb,Wb];exact NR h d g (k+1) b (by omega) (by omega) (by omega) e
theorem XG{o}(a:1<=o.1/\o.1<=16)(h:aT o=true):(0<=o.2.1/\o.2.1<=65535)/\(0<=o.2.2.1/\o.2.2.1<=65535)/\(0<=o.2.2.2/\o.2.2.2<=65535):=by
 obtain⟨k,x,y,z⟩:=o;simp only at a⊢;rcases k16 a with rfl|rfl|rfl|rfl|rfl|rfl|rfl|rfl|rfl|rfl|rfl|rfl|rfl|rfl|rfl|rfl<;>(simp[aT,an,bR,bU,d9]at h;omega)
theorem AM{x}:I64 (rd x).1:=by
 have:∀(neg:Bool) (t s:List UInt8),I64 (rdT neg t s).1:=λneg t s=>by
  unfold rdT;split
  .rename_i h;have a:=Hn (n:=0) (e:=0) (bH.1 h.1) (by omega) (by omega);exact OK a.1 (by have:=Ed (show 0+t.length<=11 by omega);omega)
  .exact⟨by decide,by decide⟩
 cases x with
 |nil=>exact⟨by decide,by decide⟩
 |cons b t=>
  show I64 (if b=45 then rdT true t (b::t)else rdT false (b::t) (b::t)).1;split<;>exact this ..
theorem MU{o}{w}{r}(d:1<=o.1/\o.1<=16)(f:spl 32 s=w::r)(h:shO o=s)(k:w≠ []):r=([o.2.1,o.2.2.1,o.2.2.2].take (d3 o.1)).map aL/\∀x∈r,(rd x).2=true:=by
 unfold shO at h;split at h
 .rename_i aY;obtain⟨g,i,j⟩:=XG d aY;have c:∀v∈ [o.2.1,o.2.2.1,o.2.2.2].take (d3 o.1),0<=v/\v<=65535:=λv a=>by
   have:=od a;simp only[Xq,mf,or_false]at this;rcases this with rfl|rfl|rfl
   .exact g
   .exact i
   .exact j
  have:=UF (l:=([o.2.1,o.2.2.1,o.2.2.2].take (d3 o.1)).map aL) (Hw d).2.1 λx b=>by
   obtain⟨v,a,rfl⟩:=Xx.1 b;have:=c v a;exact WxU (by omega)
  rw[h,f]at this;have e:=(List.cons.inj this).2;refine⟨e,λx b=>?_⟩;rw[e]at b;obtain⟨v,a,rfl⟩:=Xx.1 b;have:=c v a;rw[Wyt (by omega) (by omega)]
 .subst h;have:w= []:=by
   have:=f.symm;simp[spl]at this;exact this.1
  exact Wy this k
abbrev RO:=Unit×(Opn×Ke)
theorem ZS{b x y z}(c:1<=b/\b<=16)(d:I64 x)(e:I64 y)(f:I64 z)(a:1048576<N):((zh N (b,(x,(y,z)))).bind λg=>
 (bif !(seq g.2.1 s)then(some ((),((0,(0,(0,0))),(false,()))):Option RO)else(some ((),((b,(x,(y,z))),(true,()))))))=some (if shO (b,(x,(y,z)))=s then((),((b,(x,(y,z))),(true,())))else((),((0,(0,(0,0))),(false,())))):=by
 rw[UP c ⟨d,e,f⟩ a];simp only[ret,Xd,seq];by_cases h:shO (b,(x,(y,z)))=s
 .rw[Wf h,show(shO (b,(x,(y,z)))==s)=true by simpa using h];rfl
 .rw[We h,show(shO (b,(x,(y,z)))==s)=false by simpa using h];rfl
theorem ZQ{b x y z}(c:1<=b/\b<=16)(d:I64 x)(e:I64 y)(f:I64 z)(a:1048576<N):((u4 N (b,(x,(y,z)))).bind λg=>
 (bif !(seq g.2.1 s)then(some ((),((0,(0,(0,0))),(false,()))):Option RO)else(some ((),((b,(x,(y,z))),(true,()))))))=some (if shO (b,(x,(y,z)))=s then((),((b,(x,(y,z))),(true,())))else((),((0,(0,(0,0))),(false,())))):=by
 rw[Wsy c ⟨d,e,f⟩ a];simp only[ret,Xd,seq];by_cases h:shO (b,(x,(y,z)))=s
 .rw[Wf h,show(shO (b,(x,(y,z)))==s)=true by simpa using h];rfl
 .rw[We h,show(shO (b,(x,(y,z)))==s)=false by simpa using h];rfl
theorem bb{α:Type}{a c}{F X:α}:(bif !a then F else bif !c then F else X)=bif !(a&&c)then F else X:=by cases a<;>cases c<;>rfl
theorem fin{b x y z}{ok}(f:1<=b/\b<=16)(g:I64 x)(i:I64 y)(j:I64 z)(e:1048576<N)(h:shO (b,(x,(y,z)))=s->ok=true):∃o d,(bif !ok then(some ((),((0,(0,(0,0))),(false,()))):Option RO)else((zh N (b,(x,(y,z)))).bind λc=>
 (bif !(seq c.2.1 s)then(some ((),((0,(0,(0,0))),(false,()))):Option RO)else(some ((),((b,(x,(y,z))),(true,())))))))=some ((),(o,(d,())))/\((u4 N (b,(x,(y,z)))).bind λc=>
 (bif !(seq c.2.1 s)then(some ((),((0,(0,(0,0))),(false,()))):Option RO)else(some ((),((b,(x,(y,z))),(true,()))))))=some ((),(o,(d,()))):=by
 rw[ZS f g i j e,ZQ f g i j e];by_cases a:shO (b,(x,(y,z)))=s
 .rw[h a,Wf a];exact⟨_,_,rfl,rfl⟩
 .rw[We a];refine⟨_,_,?_,rfl⟩;cases ok<;>rfl
section
variable{M:Nat}{w x y z:List UInt8}{b:Int}{K0:Option R}{K1:Int->Bool->Int->Int->Int->Option R}{K2:Int->Bool->List Int->Option R}
theorem u1:qJ (M+5) s [w,x] b K0 K1 (M+5) 1 0 0 0=((mB (M+5) x).bind λo=>bif !o.2.2.1 then K0 else K1 2 false o.2.1 0 0):=by kernel_rfl
theorem u2:qJ (M+5) s [w,x,y] b K0 K1 (M+5) 1 0 0 0=((mB (M+5) x).bind λo=>bif !o.2.2.1 then K0 else((mB (M+5) y).bind λp=>bif !p.2.2.1 then K0 else K1 3 false o.2.1 p.2.1 0)):=by kernel_rfl
theorem u3:qJ (M+5) s [w,x,y,z] b K0 K1 (M+5) 1 0 0 0=((mB (M+5) x).bind λo=>bif !o.2.2.1 then K0 else((mB (M+5) y).bind λp=>bif !p.2.2.1 then K0 else((mB (M+5) z).bind λq=>bif !q.2.2.1 then K0 else K1 4 false o.2.1 p.2.1 q.2.1))):=by kernel_rfl
theorem v1:yr (M+5) s (Xb 1) (Xa [w,x]) (((Xa [w,x] -Xb 1:Nat):Int)) b [w,x] K2 (M+5) 0 (Xp 3 0)=((lb (M+5) x).bind λo=>K2 1 false [o.2.1,0,0]):=by kernel_rfl
theorem v2:yr (M+5) s (Xb 1) (Xa [w,x,y]) (((Xa [w,x,y] -Xb 1:Nat):Int)) b [w,x,y] K2 (M+5) 0 (Xp 3 0)=((lb (M+5) x).bind λo=>(lb (M+5) y).bind λp=>K2 2 false [o.2.1,p.2.1,0]):=by kernel_rfl
theorem v3:yr (M+5) s (Xb 1) (Xa [w,x,y,z]) (((Xa [w,x,y,z] -Xb 1:Nat):Int)) b [w,x,y,z] K2 (M+5) 0 (Xp 3 0)=((lb (M+5) x).bind λo=>(lb (M+5) y).bind λp=>(lb (M+5) z).bind λq=>K2 3 false [o.2.1,p.2.1,q.2.1]):=by kernel_rfl
end
theorem rV{c}:∀{s x},x∈spl c s->x.length<=s.length
 | [],x,h=>by simp[spl]at h;simp[h]
 |y::s,x,h=>by
  rw[spl]at h;split at h
  .rcases Xq.1 h with rfl|h
   .simp
   .have:=rV h;simp;omega
  .cases hs:spl c s with
   |nil=>exact Wy hs (rX c s)
   |cons a t=>
    rw[hs]at h;rcases Xq.1 h with rfl|h
    .have:=rV (c:=c) (s:=s) (x:=a) (by rw[hs];exact Xl ..);simp;omega
    .have:=rV (c:=c) (s:=s) (x:=x) (by rw[hs];exact Xg _ h);simp;omega
theorem WrO(n:s.length<=1048576)(d:1048576<N):∃o b,zi N s=some ((),(o,(b,())))/\zj N s=some ((),(o,(b,()))):=by
 unfold zi zj;have A:jZ N s 32=ret (spl 32 s):=GL (c:=32) n d;rw[Mx,A,Us];simp only[ret,Xd];have t:=rX 32 s;have m:=Hv 32 s;cases hL:spl 32 s with
 |nil=>exact Wy hL t
 |cons w r=>
  rw[hL]at m;obtain⟨M,rfl⟩:∃M,N=M+5:=⟨N-5,by omega⟩;have E:=λ(K0 K1:Int->Bool->Int->Option (Unit×(Opn×Ke)))=>NR (N:=M+5) (s:=s) (l:=w::r) (by simp) (K0:=K0) (K1:=K1) 16 (M+5) 1 0 (by omega) (by omega) (by omega) (.inl rfl);obtain⟨b,B,u,v⟩:=E _ _;rw[u,v];rcases B with rfl|⟨f,p⟩
  .exact⟨_,_,rfl,rfl⟩
  .have tZ:(b==0)=false:=by rw[beq_eq_false_iff_ne];omega
   obtain⟨G,H,I⟩:=Hw f;have k:w≠ []:=λz=>by
    subst z;change wds.getD b.toNat []= []at p;rcases k16 f with rfl|rfl|rfl|rfl|rfl|rfl|rfl|rfl|rfl|rfl|rfl|rfl|rfl|rfl|rfl|rfl<;>cases p
   rw[tZ,VF f,Vm f];simp only[Wb,ret,Xd];have F:Wi (w::r)=(r.length:Int)+1:=by unfold Wi;simp
   rw[F,WJ (by unfold I64;simp at m;omega),WA (show I64 (1+((d3 b:Nat):Int)) by unfold I64;omega)];by_cases D:r.length=d3 b
   .rw[show((r.length:Int)+1 !=1+((d3 b:Nat):Int))=false by simp;omega,show((r.length:Int)+1-1 !=((d3 b:Nat):Int))=false by simp;omega];have a:I64 0:=⟨by decide,by decide⟩;have j:∀x∈r,x.length<=1048576:=λx g=>eO (rV (c:=32) (s:=s) (by rw[hL];exact Xg _ g)) n;have C:(decide ((0:Int)<=1)&&decide ((1:Int)<=(((w::r).length:Nat):Int)))=true:=by simp;omega
    simp only[Wb];rw[C,Wa];cases r with
    |nil=>
     exact⟨_,_,ZS f a a a d,ZQ f a a a d⟩
    |cons x r=>
    have g:=j x (by simp);cases r with
    |nil=>
     have e:=λh=>(MU (o:=(b,((rd x).1,(0,0)))) f hL h k).2;rw[u1,v1,vp g d,vo g d];exact fin f AM a a d λh=>e h x (by simp)
    |cons y r=>
    have i:=j y (by simp);cases r with
    |nil=>
     have e:=λh=>(MU (o:=(b,((rd x).1,((rd y).1,0)))) f hL h k).2;rw[u2,v2,vp g d,vo g d,vp i d,vo i d];simp only[Xd];rw[bb];exact fin f AM AM a d λh=>by rw[e h x (by simp),e h y (by simp)];rfl
    |cons z r=>
    have q:=j z (by simp);cases r with
    |nil=>
     have e:=λh=>(MU (o:=(b,((rd x).1,((rd y).1,(rd z).1)))) f hL h k).2;rw[u3,v3,vp g d,vo g d,vp i d,vo i d,vp q d,vo q d];simp only[Xd];rw[bb,bb];exact fin f AM AM AM d λh=>by rw[e h x (by simp),e h y (by simp),e h z (by simp)];rfl
    |cons _ _=>simp at D;omega
   .rw[show((r.length:Int)+1 !=1+((d3 b:Nat):Int))=true by simp;omega,show((r.length:Int)+1-1 !=((d3 b:Nat):Int))=true by simp;omega];exact⟨_,_,rfl,rfl⟩
end
end
section
abbrev Cur:=List Int×Int×Int
def bG(c:Cur):Prop:=0<=c.2.1/\c.2.1<=c.1.length/\c.1.length<=1048576
def Ef{α:Type}(P:α->Prop)(r:Option ((Cur×Unit)×(α×Unit))):Prop:=∃c v,r=some ((c,()),(v,()))/\bG c/\P v
theorem VB(x):∃n:Nat,n<=255/\sF .i64 x 255=n:=by
 refine⟨(BitVec.ofInt 64 x&&&BitVec.ofInt 64 255).toNat,?_,?_⟩
 .simp[BitVec.toNat_and,eO,Xhw]
 .unfold sF;have:(BitVec.ofInt 64 x&&&BitVec.ofInt 64 255).toNat<=255:=by
   simp[BitVec.toNat_and,eO,Xhw]
  exact pt (Wyl (p:=(BitVec.ofInt 64 x&&&BitVec.ofInt 64 255).toNat) (by omega))
theorem Wva{N}{μ}(h:μ.length<=1048576)(l:1048576<N):∃c,bG c/\CJ N μ=ret c:=by
 have f:∀(n j:Nat) (v:Int),j<=μ.length->μ.length-j<n->∃a i t,∀{R:Type} (K:Int->Int->Bool->Option R),tx N μ K n v (j:Int)=K a i t:=by
  intro n
  induction n with
  |zero=>omega
  |succ n ih=>
   intro j v g k;by_cases b:j<μ.length
   .by_cases h4:j<4000
    .obtain⟨a,i,t,e⟩:=ih (j+1) _ b (by omega);refine⟨a,i,t,λK=>?_⟩;have d:decide ((j:Int)<4000)=true:=by simp;omega
     simp only[tx,WF b,Wq b,d,Wa,Wl (show j<4611686018427387904 by omega)];exact e K
    .refine⟨v,j,decide ((j:Int)<4000),λK=>?_⟩;have d:decide ((j:Int)<4000)=false:=by simp;omega
     simp[tx,WF b,d,Wa,Wb]
   .refine⟨v,j,false,λK=>?_⟩;simp_all [tx,WN,Wb]
 obtain⟨a,i,t,e⟩:=f N 0 (Wj .i64 10101 (Wi μ)) (Nat.zero_le _) (by omega);refine⟨(μ,0,a),⟨by simp,by simp,h⟩,?_⟩
 grind [CJ]
theorem zQ{N}{c}(h:bG c):Ef (λv=>0<=v/\v<=255) (iT N c):=by
 unfold iT;obtain⟨j,k,a⟩:=h;have d:inn 33=true:=rfl;have f:inn 45=true:=rfl;simp only[d,f,Wa];by_cases b:c.2.1<c.1.length
 .have e3:decide (c.2.1<Wi c.1)=true:=Wc b;have g:inb c.2.1 c.1.length=true:=by grind [inb]
  have i:Wj .i64 c.2.1 1=c.2.1+1:=WA (by unfold I64;omega);rw[e3,g,i];simp only[Wa];obtain⟨n,l,e⟩:=VB (Wj .i64 (sF .i64 (kH .i64 (nf .i64 (Wj .i64 (bw .i64 c.2.2 (6364136223846793005:Int)) (1442695040888963407:Int)) (33:Int)) (nf .i64 (Wj .i64 (bw .i64 c.2.2 (6364136223846793005:Int)) (1442695040888963407:Int)) (45:Int))) (255:Int)) (IntKind.wrap .i64 (Xc c.1 (Xb c.2.1) (0:Int))));exact⟨_,_,rfl,⟨by simp;omega,by simp;omega,a⟩,by omega⟩
 .have e3:decide (c.2.1<Wi c.1)=false:=Wg b;rw[e3];simp only[Wb];obtain⟨n,l,e⟩:=VB (kH .i64 (nf .i64 (Wj .i64 (bw .i64 c.2.2 (6364136223846793005:Int)) (1442695040888963407:Int)) (33:Int)) (nf .i64 (Wj .i64 (bw .i64 c.2.2 (6364136223846793005:Int)) (1442695040888963407:Int)) (45:Int)));exact⟨_,_,rfl,⟨j,k,a⟩,by omega⟩
theorem Vn{v n}(b:0<=v)(a:0<n):0<=ak v n/\ak v n<n:=by
 have e:ak v n=v%n:=by grind [ak,Ev]
 rw[e];exact⟨Int.emod_nonneg v (by omega),Int.emod_lt_of_pos v a⟩
theorem Ml{N}{c}{n}(h:bG c):Ef (λv=>(n<=0->v=0)/\(0<n->0<=v/\v<n)) (Za N c n):=by
 unfold Za;by_cases E:n<=0
 .have e:decide (n<=0)=true:=by simp_all
  rw[e];exact⟨_,_,rfl,h,λ_=>rfl,λh=>by omega⟩
 .have e:decide (n<=0)=false:=by simp_all
  have o:inz n=true:=by grind [inz]
  rw[e];simp only[Wb,o,Wa];by_cases b:n<=256
  .have e:decide (n<=256)=true:=by simpa using b
   rw[e];obtain⟨j,v,a,p,q⟩:=zQ (N:=N) h;rw[a];have:=Vn q.1 (show 0<n by omega);exact⟨_,_,rfl,p,λh=>by omega,λ_=>this⟩
  .have e:decide (n<=256)=false:=by simpa using b
   rw[e];obtain⟨j,v1,a,y,A⟩:=zQ (N:=N) h;obtain⟨B,v2,k,t,F⟩:=zQ (N:=N) y;obtain⟨C,v3,l,z,r⟩:=zQ (N:=N) t;obtain⟨D,v4,m,d,s⟩:=zQ (N:=N) z;simp only[Wb,a,k,l,m,Xd];have u:bw .i64 v1 16777216=v1*16777216:=kk (by unfold I64;omega);have w:bw .i64 v2 65536=v2*65536:=kk (by unfold I64;omega);have x:bw .i64 v3 256=v3*256:=kk (by unfold I64;omega);have f:Wj .i64 (v1*16777216) (v2*65536)=v1*16777216+v2*65536:=WA (by unfold I64;omega);have g:Wj .i64 (v1*16777216+v2*65536) (v3*256)=v1*16777216+v2*65536+v3*256:=WA (by unfold I64;omega);have i:Wj .i64 (v1*16777216+v2*65536+v3*256) v4=v1*16777216+v2*65536+v3*256+v4:=WA (by unfold I64;omega);rw[u,w,x,f,g,i];have:=Vn (show 0<=v1*16777216+v2*65536+v3*256+v4 by omega) (show 0<n by omega);exact⟨_,_,rfl,d,λh=>by omega,λ_=>this⟩
end
section
theorem Ws6{N}{c}{n}(h:bG c):Ef (λ_=>True) (gB N c n):=by
 unfold gB;obtain⟨d,v,a,b,e⟩:=Ml (N:=N) (n:=n) h;rw[a];exact⟨_,_,rfl,b,trivial⟩
theorem Wum{N}{c}{l}(h:bG c)(g:0<l.length)(i:l.length<4611686018427387904):Ef (λv=>v∈l) (Bq N c l):=by
 unfold Bq;obtain⟨f,v,d,e,a⟩:=Ml (N:=N) (n:=Wi l) h;rw[d];have a:=a.2 (by unfold Wi;omega);unfold Wi at a;obtain⟨q,rfl⟩:=oc a.1;have b:q<l.length:=by omega
 simp only[Xd,Wq b,Wa,Wu b];exact⟨_,_,rfl,e,Xt b⟩
end
section
def Drw{ρ:Type}(P:ρ->Prop)(r:Option ((Cur×Unit)×ρ)):Prop:=∃c v,r=some ((c,()),v)/\bG c/\P v
theorem Drw.of{α}{P}{r}(h:Ef P r):Drw (λv:α×Unit=>P v.1) r:=by
 obtain⟨c,v,e,a,b⟩:=h;exact⟨c,(v,()),e,a,b⟩
theorem Drw.bind{ρ σ}{P}{Q}{r}{k:(Cur×Unit)×ρ->Option ((Cur×Unit)×σ)}(h:Drw P r)(d:∀c v,bG c->P v->Drw Q (k ((c,()),v))):Drw Q (r.bind k):=by
 obtain⟨c,v,e,a,b⟩:=h;simp_all
theorem Drw.ok{ρ}{P}{c}{v:ρ}(a:bG c)(b:P v):Drw P (some ((c,()),v)):=⟨c,v,rfl,a,b⟩
theorem Drw.bif{ρ}{P}{b}{x y:Option ((Cur×Unit)×ρ)}(a:b=true->Drw P x)(c:b=false->Drw P y):Drw P (bif b then x else y):=by
 grind
theorem Drw.bifT{ρ}{P}{b}{x y:Option ((Cur×Unit)×ρ)}(c:b=true)(a:Drw P x):Drw P (bif b then x else y):=by simp_all
theorem Drw.mono{ρ}{P Q}{r:Option ((Cur×Unit)×ρ)}(h:Drw P r)(d:∀v,P v->Q v):Drw Q r:=by
 obtain⟨c,v,e,a,b⟩:=h;exact⟨c,v,e,a,d v b⟩
section
variable{N:Nat}{c:Cur}
theorem d8(n)(h:bG c):Drw (λv:Int×Unit=>(n<=0->v.1=0)/\(0<n->0<=v.1/\v.1<n)) (Za N c n):=.of (Ml h)
theorem wm(n)(h:bG c):Drw (λ_:Bool×Unit=>True) (gB N c n):=.of (Ws6 h)
theorem ZJ(l)(h:bG c)(a:0<l.length)(b:l.length<1000):Drw (λv:Int×Unit=>v.1∈l) (Bq N c l):=.of (Wum h a (by omega))
theorem Wzz(h:bG c):Drw (λv:Int×Unit=>0<=v.1/\v.1<=3) (jX N c):=by
 exact(d8 4 h).bind λc v a b=>.ok a (by grind)
theorem OQ(h:bG c):Drw (λv:Int×Unit=>0<=v.1/\v.1<=65535) (FU N c):=by
 refine(wm 6 h).bind λc v a _=>.bif (λ_=>?_) λ_=>?_
 .refine(ZJ _ a (by decide) (by decide)).bind λc v a b=>.ok a ?_
  grind
 .exact(d8 9 a).bind λc v a b=>.ok a (by grind)
theorem Wzc(h:bG c):Drw (λv:Int×Unit=>0<=v.1/\v.1<=7) (IC N c):=by
 refine(wm 8 h).bind λc v a _=>.bif (λ_=>?_) λ_=>?_
 .exact(d8 8 a).bind λc v a b=>.ok a (by grind)
 .exact(d8 3 a).bind λc v a b=>.ok a (by grind)
theorem WzB(h:bG c):Drw (λv:Int×Unit=>True) (Fi N c):=by
 refine(wm 4 h).bind λc v a _=>.bif (λ_=>?_) λ_=>?_
 .exact(d8 8 a).bind λc v a b=>.ok a trivial
 .exact(ZJ _ a (by decide) (by decide)).bind λc v a b=>.ok a trivial
theorem N0(a:Int)(h:bG c):Drw (λ_:Opn×Unit=>True) (Zj N c a):=by
 unfold Zj;simp only[Wk]
 repeat' first
  |with_reducible refine Drw.bif (λ_=>?_) λ_=>?_
  |with_reducible refine(Wzz (by assumption)).bind λc v b d=>?_
  |with_reducible refine(OQ (by assumption)).bind λc v b d=>?_
  |with_reducible refine(Wzc (by assumption)).bind λc v b d=>?_
  |with_reducible refine(WzB (by assumption)).bind λc v b d=>?_
  |with_reducible refine(d8 _ (by assumption)).bind λc v b d=>?_
  |with_reducible exact .ok (by assumption) trivial
theorem X4{e:Cur->Int->Int->Bool->Option ((Cur×Unit)×(List Opn×Unit))}{most deep}{kid}(M:0<=most/\most<=100)
  (x:∀c (m d),bG c->0<=m->m<most->Drw (λv:List Opn×Unit=>(v.1.length:Int)<=m+2) (e c m d kid)):
  ∀(n i) (c) (l:List Opn),i<n->i<=1000->bG c->(l.length:Int)<=most+2->Drw (λv:List Opn×Unit=>(v.1.length:Int)<=most+2) (Zb N e most deep kid (λu w j g=>(some ((j,()),(g,())))) n (i:Int) c l)
 |0,i,c,l,h,_,_,_=>by omega
 |n+1,i,c,l,h,L,q,hl=>by
  have O:(0:Int)<i->Wz .i64 (i:Int) 1=((i-1:Nat):Int):=λr=>by grind [WJ,I64]
  have F:Wz .i64 most (Wi l)=most-(l.length:Int):=WJ (by unfold I64 Wi;omega);have Q:Wz .i64 (most-(l.length:Int)) 3=most-(l.length:Int) -3:=WJ (by unfold I64;omega);simp only[Zb,F,Q];refine .bif (λr=>?_) λ_=>.ok q hl;have r:=WV r;rw[O r];refine .bif (λs=>?_) λ_=>.ok q hl;have s:(l.length:Int)<most:=WV s;have next:∀f (t:List Opn),bG f->(t.length:Int)<=most+2->Drw (λv:List Opn×Unit=>(v.1.length:Int)<=most+2) (Zb N e most deep kid (λu w j g=>(some ((j,()),(g,())))) n ((i-1:Nat):Int) f t):=
   λf t s y=>X4 M x n (i-1) f t (by omega) (by omega) s y
  have B:∀(a:List Opn) (b:List Opn),(a.length:Int)+b.length<=1000->Wx (a.length+b.length)=true:=λa b h=>Wp (by omega);have G:∀f (o:Opn),bG f->Drw (λv:List Opn×Unit=>(v.1.length:Int)<=most+2) (bif Wx (l.length+ [o].length)then Zb N e most deep kid (λu w j g=>(some ((j,()),(g,())))) n ((i-1:Nat):Int) f (Xe l [o])else none):=
   λf o y=>.bifT (B _ _ (by simp;omega)) (next _ _ y (by grind [cZ]))
  have H:∀f,bG f->(4:Int)<=most-(l.length:Int)->Drw (λv:List Opn×Unit=>(v.1.length:Int)<=most+2) ((e f (most-(l.length:Int) -3) (Wz .i64 deep 1) kid).bind λp=>
          ((Zj N p.1.1 (8:Int)).bind λk=>
           (bif Wx ((Xa l)+(Xa ([k.2.1])))then
            (bif Wx ((Xa (Xe l ([k.2.1])))+(Xa p.2.1))then
             ((gB N k.1.1 (3:Int)).bind λA=>
              (bif A.2.1 then
               (bif Wx ((Xa (Xe (Xe l ([k.2.1])) p.2.1))+(Xa ([((10:Int),((0:Int),((0:Int),(0:Int))))])))then
                (bif Wx ((Xa (Xe (Xe (Xe l ([k.2.1])) p.2.1) ([((10:Int),((0:Int),((0:Int),(0:Int))))])))+(Xa ([((9:Int),((0:Int),((0:Int),(0:Int))))])))then
                 (Zb N e most deep kid (λu w j g=>(some ((j,()),(g,())))) n ((i-1:Nat):Int) A.1.1 (Xe (Xe (Xe (Xe l ([k.2.1])) p.2.1) ([((10:Int),((0:Int),((0:Int),(0:Int))))])) ([((9:Int),((0:Int),((0:Int),(0:Int))))])))else none)else none)
               else
               (bif Wx ((Xa (Xe (Xe l ([k.2.1])) p.2.1))+(Xa ([((9:Int),((0:Int),((0:Int),(0:Int))))])))then
                (Zb N e most deep kid (λu w j g=>(some ((j,()),(g,())))) n ((i-1:Nat):Int) A.1.1 (Xe (Xe (Xe l ([k.2.1])) p.2.1) ([((9:Int),((0:Int),((0:Int),(0:Int))))])))else none)))else none)else none))):=λf K T=>by
   refine(x f _ _ K (by omega) (by omega)).bind λI v2 z P=>(N0 8 z).bind λJ v3 E _=>?_;refine .bifT (B _ _ (by simp;omega)) (.bifT (B _ _ (by grind [cZ])) ((wm 3 E).bind λS U R _=>.bif (λ_=>?_) λ_=>?_))
   .grind [cZ]
   grind [cZ]
  repeat' first
   |with_reducible exact G _ _ (by assumption)
   |with_reducible refine Drw.bif (λ_=>?_) λ_=>?_
   |with_reducible refine(N0 _ (by assumption)).bind λc v q C=>?_
   |with_reducible refine(wm _ (by assumption)).bind λc v q C=>?_
   |with_reducible refine(d8 _ (by assumption)).bind λc v q C=>?_
   |exact H _ (by assumption) (by simp only[Wh,ge_iff_le]at*;omega)
  all_goals
   rename_i D;have D:=WV D;refine(x _ 2 0 (by assumption) (by omega) (by omega)).bind λI v2 z P=>(N0 7 z).bind λJ v3 E _=>?_
   grind [cZ]
theorem YP(h:1048576<N):∀(m:Nat) (c) (most deep:Int) (kid),bG c->0<=most->most<=100->most<m->Drw (λv:List Opn×Unit=>(v.1.length:Int)<=most+2) (yG N m c most deep kid)
 |0,c,most,deep,kid,a,b,f,h2=>by omega
 |m+1,c,most,deep,kid,a,b,f,h2=>by
  refine(d8 most a).bind λc v a k=>?_;have e:Wj .i64 1 v.1=(((1+v.1).toNat:Nat):Int):=by grind [WA,I64]
  simp only[e];exact X4 ⟨b,f⟩ (λc i d g j l=>YP h m c i d kid g j (by omega) (by omega)) N _ c [] (by omega) (by omega) a (by simp;omega)
theorem OM(d:1048576<N){most deep}{kid}(e:bG c)(a:0<=most)(b:most<=100):Drw (λv:List Opn×Unit=>v.1.length<=102) (LG N c most deep kid):=by
 exact(YP d N c most deep kid e a b (by omega)).mono λv f=>by omega
end
end
section
section
variable{N:Nat}{c:Cur}
end
end
section
def DP(l o:List Rw)(c:Nat):List Rw:=match df l c with
 |none=>o
 |some v=>o++ [((c:Int),v)]
def m9(l:List Rw):Nat->Nat->List Rw->List Rw
 |0,_,o=>o
 |j+1,c,o=>m9 l j (c+1) (DP l o c)
def aA(l:List Rw):List Rw:=m9 l 8 0 []
theorem Mb{N}{l:List Rw}(b:l.length<=1048576)(a:1048576<N):∀(j n c) (o:List Rw),c+j=8->j<n->o.length<=c->yF N l (λg f d=>(some ((),(d,())))) n (c:Int) o=ret (m9 l j c o)
 |j,0,c,o,_,h,_=>by omega
 |0,n+1,c,o,h,_,_=>by
  have:c=8:=by omega
  subst this;rfl
 |j+1,n+1,c,o,h,i,ho=>by
  have e:decide ((c:Int)<8)=true:=by simp;omega
  rw[yF,e,L0 b a,Wl (by omega),m9,DP];simp only[Wa];rcases df l c with _|v
  .exact Mb b a j n (c+1) o (by omega) (by omega) (by omega)
  .have er:Wx (o.length+ [((c:Int),v)].length)=true:=Wp (by simp;omega);simp only[opI,Xd,Wa,er];exact Mb b a j n (c+1) _ (by omega) (by omega) (by simp;omega)
theorem Md{N}{l:List Rw}(b:l.length<=1048576)(a:1048576<N):∀(j n c) (o:List Rw),c+j=8->j<n->o.length<=c->yE N l (λg f d=>(some ((),(d,())))) n (c:Int) o=ret (m9 l j c o)
 |j,0,c,o,_,h,_=>by omega
 |0,n+1,c,o,h,_,_=>by
  have:c=8:=by omega
  subst this;rfl
 |j+1,n+1,c,o,h,i,ho=>by
  have e:decide ((c:Int)<8)=true:=by simp;omega
  rw[yE,e,LZ b a,Wl (by omega),m9,DP];simp only[Wa];rcases df l c with _|v
  .exact Md b a j n (c+1) o (by omega) (by omega) (by omega)
  .have er:Wx (o.length+ [((c:Int),v)].length)=true:=Wp (by simp;omega);simp only[opI,Xd,Wa,er];exact Md b a j n (c+1) _ (by omega) (by omega) (by simp;omega)
theorem Gq{N}{l:List Rw}(b:l.length<=1048576)(a:1048576<N):o0 N l=ret (aA l):=by
 unfold o0;exact Md b a 8 N 0 [] rfl (by omega) (by simp)
theorem UR{l}(h:cd l=false):∀(j c) (o),m9 l j c o=o
 |0,_,_=>rfl
 |j+1,c,o=>by
  have e:df l c=none:=by grind [df]
  rw[m9,DP,e];exact UR h j (c+1) o
theorem Gn{N}{l:List Rw}(b:l.length<=1048576)(a:1048576<N):o4 N l=ret (aA l):=by
 unfold o4;simp only[C6 b a,ret,Xd];cases h:cd l
 .grind [aA,UR]
 .exact Mb b a 8 N 0 [] rfl (by omega) (by simp)
def fnd{α:Type}(p:α->Bool):List α->Nat->Option (Nat×α)
 | [],_=>none
 |x::l,j=>bif p x then some (j,x)else fnd p l (j+1)
theorem zN{α V R}{body:Int->α->V->(V->Option R)->Option R}{K:Int->V->Option R}{p:α->Bool}{E:Int->α->Option R}:∀(l:List α) (j) (v),(∀(j:Nat) x v k,x∈l->body j x v k=bif p x then E j x else k v)->
  cX body K l j v=match fnd p l j with|some r=>E r.1 r.2|none=>K ((j+l.length:Nat):Int) v
 | [],j,v,_=>rfl
 |x::l,j,v,h=>by
  rw[cX,h j x v _ (Xl ..),fnd,zN l (j+1) v λj y v k a=>h j y v k (Xg _ a)]
  grind
theorem lu{α}{p}:∀{l} {j} {r:Nat×α},fnd p l j=some r->p r.2=true/\j<=r.1/\r.1<j+l.length/\l[r.1-j]?=some r.2
 | [],j,r,h=>by cases h
 |x::l,j,r,h=>by
  rw[fnd]at h;cases hp:p x
  .rw[hp]at h;obtain⟨a,b,c,d⟩:=lu (l:=l) h
   grind
  grind
theorem Dw{α}{p}:∀{l:List α} {j},fnd p l j=none->∀x∈l,p x=false
 | [],j,h=>by simp
 |x::l,j,h=>by
  rw[fnd]at h;cases hp:p x
  .rw[hp]at h;intro y a;rcases Xq.1 a with rfl|a
   .exact hp
   .exact Dw h y a
  simp_all
abbrev En:=Int×Int×Int
def ent(b:List En)(c:Int):Option (Nat×En):=fnd (λe=>e.1==c) b 0
theorem L6{N}{f:Y_Family}{c}(o:f.2.2.2.2.2.2.1.length<=1048576)(s:1048576<N):w8 N f c=ret (match ent f.2.2.2.2.2.2.1 c with|some r=>(r.1:Int)|none=>-1):=by
 unfold w8;show((Zq N f.2.2.2.2.2.2.1 c).bind _)=_;generalize f.2.2.2.2.2.2.1=b at o;unfold Zq ent;have m:=WC (l:=b) (V:=Unit) (R:=Kk×Kk) (lp:=λn j v=>Zg N b (λg d=>(some ((d,()),(g,())))) (λq t h=>(some ((h,()),((-1:Int),())))) n j c) (n:=N) (by omega)
  (body:=λj x v k=>bif x.1==c then some ((c,()),(j,()))else k v) (K:=λ_ v=>some ((c,()),((-1:Int),())))
  (λn i v a=>by simp only[Zg,Rm,WF a,Wq a,Wu a,Wl (show i<4611686018427387904 by omega),Wa,Xd])
  (λn v=>by simp[Zg,WN,Xj,Wb]) ()
 rw[m,zN (p:=λe=>e.1==c) (E:=λj x=>some ((c,()),(j,()))) b 0 () (λj x v k _=>rfl)];cases fnd (λe:En=>e.1==c) b 0<;>rfl
theorem SZ{N}{f:Y_Family}{c}(o:(P6 f).length<=1048576)(m:1048576<N):yt N f c=ret (match ent (P6 f) c with|some r=>r.2|none=>(c,(0,-1))):=by
 unfold yt ent;have d:=WC (l:=P6 f) (V:=Unit) (R:=Unit×(En×Unit)) (lp:=λn j v=>xd N c f (λb=>(some ((),(b,())))) (λh g=>(some ((),((c,((0:Int),(-1:Int))),())))) n j) (n:=N) (by omega)
  (body:=λj x v k=>bif x.1==c then some ((),(x,()))else k v) (K:=λ_ v=>some ((),((c,((0:Int),(-1:Int))),())))
  (λn i v a=>by simp only[xd,WF a,Wq a,Wu a,Wl (show i<4611686018427387904 by omega),Wa])
  (λn v=>by simp[xd,WN (Xj (P6 f).length),Wb]) ()
 refine d.trans ?_;rw[zN (p:=λe=>e.1==c) (E:=λj x=>some ((),(x,()))) (P6 f) 0 () (λj x v k _=>rfl)];cases fnd (λe:En=>e.1==c) (P6 f) 0<;>rfl
theorem gZ{N}{l}(h:l.length<=1048576):Zs N l=ret l:=by
 unfold Zs;rw[Wp (by simp;omega)];rfl
theorem nM{N}{l}(h:l.length<=1048576):Zy N l=ret l:=by
 grind [Zy,Wp]
theorem zK{N}{l:List Rw}(h:l.length<=1048576):nC N l=ret l:=by
 grind [nC,Wp]
end
section
def OI(f:Y_Family)(k:Nat)(x:Y_KidRun):Y_Family:=U9 (Xf (Q9 f) k x) f
def again(f:Y_Family)(x:Y_KidRun):Y_KidRun:=(0,(0,(f.2.1,(x.2.2.2.1+1,(0,(0,(P4 f,([],([],([],(false,(0,(0,(0,0))))))))))))))
def fS(x:Y_KidRun)(c:Int):Pb:=bif P10 x then Q11 x else(c,(0,(0,0)))
def rT(m:Mm)(f:Y_Family)(x:Y_KidRun)(o:Int×Int×Int×Int):Y_Family×Y_KidRun:=
 match df (P8 x) o.2.2.1 with
 |some v=>(f,S6 (Xf (P6 x) (Xb o.2.1) v) (S1 (x.2.1+1) x))
 |none=>match ent (P6 f) o.2.2.1 with
  |some r=>bif decide (r.2.2.2>x.2.2.1)then(f,again f x)else(f,S7 (P7 x++ [r.2]) (S6 (Xf (P6 x) (Xb o.2.1) r.2.2.1) (S1 (x.2.1+1) x)))
  |none=>
   bif (cL m f.1 (fS x o.2.2.1)).2.1==4 then(S3 true f,U11 (cL m f.1 (fS x o.2.2.1)) (S10 true x))else
   bif (cL m f.1 (fS x o.2.2.1)).2.1==3 then(f,U14 0 (S13 0 (S12 0 (S11 0 (S10 false (S7 (P7 x++ [(o.2.2.1,((cL m f.1 (fS x o.2.2.1)).2.2.2,-1))]) (S6 (Xf (P6 x) (Xb o.2.1) (cL m f.1 (fS x o.2.2.1)).2.2.2) (S1 (x.2.1+1) x))))))))else
   (f,U11 (cL m f.1 (fS x o.2.2.1)) (S10 true x))
structure ReadOk(m:Mm)(f:Y_Family)(x:Y_KidRun)(o:Int×Int×Int×Int):Prop where
 mem:W6 m=true
 ξ:(P6 x).length=4
 famr:(P4 f).length=4
 rA:0<=o.2.1/\o.2.1<=3
 cB:bU o.2.2.1=true
 δ:(P7 x).length<=1000
 wr:(P8 x).length<=1000
 buf:(P6 f).length<=1000
 ver:∀e∈P6 f,0<=e.2.2
 EM:0<=x.2.2.1
 pc:0<=x.2.1/\x.2.1<=1000
 χ:0<=x.2.2.2.1/\x.2.2.2.1<=100000
 pb:P10 x=true->ed (Q11 x)=true
theorem ReadOk.pbO{m}{f}{x}{o}(h:ReadOk m f x o):ed (fS x o.2.2.1)=true:=by
 unfold fS;cases hb:P10 x
 .have:=h.cB
  grind [ed,bR]
 .exact h.pb hb
theorem Vr{x:Y_KidRun}(h:P10 x=true):S10 true x=x:=by rw[←h];rfl
theorem aw{a}(h:0<=a/\a<=1000000):Wj .i64 a 1=a+1:=WA (by unfold I64;omega)
theorem rgI{r:List Int}{a}(h:r.length=4)(b:0<=a/\a<=3):inb a r.length=true:=by grind [inb]
theorem Sg{N}{f}{x}(h:(P4 f).length=4)(a:0<=x.2.2.2.1/\x.2.2.2.1<=100000):Zlz N f x=some ((f,()),(again f x,())):=by
 unfold Zlz again;have e:Zs N f.2.2.2.2.1=ret (P4 f):=gZ (by grind [P4])
 grind [aw]
theorem RW{N}{f:Y_Family}{k}{x}(e:k<(Q9 f).length)(h:(P4 f).length=4)(g:0<=x.2.2.2.1/\x.2.2.2.1<=100000):
  sM N (U9 (Xf (Q9 f) k x) f) (k:Int)=some ((OI f k (again f x),()),()):=by
 have a:Zy N (P4 (U9 (Xf (Q9 f) k x) f))=ret (P4 f):=nM (show(P4 f).length<=1048576 by omega);have b:Q9 (U9 (Xf (Q9 f) k x) f)=Xf (Q9 f) k x:=rfl;have d:k<(Xf (Q9 f) k x).length:=by simp_all
 unfold sM;rw[a,b];have c:Xc (Xf (Q9 f) k x) (Xb (k:Int)) d_KidRun=x:=by simp_all
 rw[c,Wq d,aw (by omega),Xk];simp only[Wa,ret,Xd,nk];rfl
theorem Wn9{N}{m}{f}{k}{o}(d:k<(Q9 f).length)(h:ReadOk m f (Q9 f)[k] o)(a:1048576<N):
  IK N f (k:Int) o m=some ((OI (rT m f (Q9 f)[k] o).1 k (rT m f (Q9 f)[k] o).2,()),()):=by
 generalize p:(Q9 f)[k]=x at h;have u:=h.wr;have t:=h.δ;have s:=h.buf;have c:=h.ξ;have i:Xc (Q9 f) (Xb (k:Int)) d_KidRun=x:=by rw[Wu d,p]
 unfold IK rT;simp only[Wk];rw[Wq d,i,Xk,L0 (by omega) a,aw (by have:=h.pc;omega)];rcases df (P8 x) o.2.2.1 with _|v
 .simp only[opI,Xd,Wb,Wa];have j:w8 N (U9 (Xf (Q9 f) k x) f) o.2.2.1=ret (match ent (P6 f) o.2.2.1 with|some r=>(r.1:Int)|none=>-1):=L6 (f:=U9 (Xf (Q9 f) k x) f) (show(P6 f).length<=1048576 by omega) a;rw[j,RW d h.famr h.χ];rcases he:ent (P6 f) o.2.2.1 with _|r
  .simp only[ret,Xd,show decide ((-1:Int)>=0)=false from rfl,Wb];have b:=h.pbO;cases hc:P10 x
   .have pP:fS x o.2.2.1=(o.2.2.1,(0,(0,0))):=by grind [fS]
    have n:yu N o.2.2.1=some ((),((o.2.2.1,(0,(0,0))),(true,()))):=by
     unfold yu;simp[W2,ret,Xd,h.cB,Xn,Wb]
    rw[pP]at b⊢;simp only[Bool.not_false,Wa,n,Gz h.mem b a,ret,Xd,rgI c h.rA];generalize cL m f.1 (o.2.2.1,(0,(0,0)))=q;rw[Wp (by simp;omega)];cases q.2.1==4<;>cases q.2.1==3<;>rfl
   .have pP:fS x o.2.2.1=Q11 x:=by grind [fS]
    rw[pP]at b⊢;simp only[Xn,Wb,Gz h.mem b a,ret,Xd,rgI c h.rA,Wa];generalize cL m f.1 (Q11 x)=q;rw[Wp (by simp;omega),Vr hc];cases q.2.1==4<;>cases q.2.1==3<;>rfl
  .have hm:=lu he;have e:r.1<(P6 f).length:=by omega
   have l:(P6 f)[r.1]=r.2:=by
    simp_all
   have g:decide (((r.1:Nat):Int)>=0)=true:=by simp
   simp only[ret,Xd,g,Wa,Wq e,rgI c h.rA];rw[Wu e,l,Wp (by simp;omega)];cases decide (r.2.2.2>x.2.2.1)<;>rfl
 .simp only[opI,Xd,Wa,rgI c h.rA];rfl
end
section
def stk(l:List Opn):Nat->List Nat
 |0=>[]
 |j+1=>bif (l.getD j (0,0,0,0)).1==8 then stk l j++ [j]else bif (l.getD j (0,0,0,0)).1==9 then(stk l j).dropLast else stk l j
theorem qa{l}{j}(h)(a:l[j].1=8):stk l (j+1)=stk l j++ [j]:=by
 grind [stk,WB]
theorem so{l}{j}(h)(a:l[j].1=9):stk l (j+1)=(stk l j).dropLast:=by
 grind [stk,WB]
theorem ju{l}{j}(h)(a:l[j].1≠8)(b:l[j].1≠9):stk l (j+1)=stk l j:=by
 grind [stk,WB]
theorem H3{o}(h:o.1=8):opd o=1:=by unfold opd;simp[h]
theorem p5{o}(h:o.1=9):opd o= -1:=by unfold opd;simp[h]
theorem HV{o}(a:o.1≠8)(b:o.1≠9):opd o=0:=by
 grind [opd]
theorem zz{α:Type}(l:List α):l= []\/∃q x,l=q++ [x]:=by
 rcases List.eq_nil_or_concat l with h|⟨q,x,h⟩
 .grind
 simp_all
def Up(l:List Opn):Prop:=∀i,i<l.length->0<=dep l (i+1)
theorem eY{l}(h:Up l):∀j,j<=l.length->((stk l j).length:Int)=dep l j
 |0,_=>by rfl
 |j+1,hj=>by
  have a:=hj;have d:=eY h j (by omega);have b:=fF a;have c:=h j a
  grind [qa,H3,Xv,so,p5,A5,ju,HV]
theorem MY{l}:∀(j),j<=l.length->∀(s t) (m),stk l j=s++m::t->
  m<j/\(∃h:m<l.length,l[m].1=8)/\stk l m=s/\∀i,m<i->i<=j->∃t',stk l i=s++m::t'
 |0,_,s,t,m,h=>by simp[stk]at h
 |j+1,g,s,t,m,h=>by
  have b:=g;have n:=MY (l:=l) j (by omega);have next:∀a,stk l j=s++m::a->m<j+1/\(∃h:m<l.length,l[m].1=8)/\stk l m=s/\∀i,m<i->i<=j+1->∃t',stk l i=s++m::t':=λa e=>by
   grind
  by_cases f:l[j].1=8
  .rw[qa b f]at h;rcases zz t with rfl|⟨a,x,rfl⟩
   .obtain⟨c,d⟩:=Xfa (h:stk l j++ [j]=s++ [m]) rfl
    grind [qa]
   .have h2:stk l j++ [j]=(s++m::a)++ [x]:=by rw[h,fX,dM]
    obtain⟨c,d⟩:=Xfa h2 rfl
    grind [stk,qa]
  .by_cases h9:l[j].1=9
   .rw[so b h9]at h;rcases zz (stk l j)with e|⟨q,x,k⟩
    .simp_all
    simp_all
   grind [ju]
theorem VT{l}{a b}(r:a<=b)(n:b<=l.length)(f:bal ((l.take b).drop a)=true):stk l b=stk l a:=by
 obtain⟨j,k⟩:=NY.1 f;have h:((l.take b).drop a).length=b-a:=by simp;omega
 have c:∀i,i<=b-a->∃t,stk l (a+i)=stk l a++t/\(t.length:Int)=dep ((l.take b).drop a) i:=by
  intro i
  induction i with
  |zero=>simp[zW]
  |succ i ih=>
   intro p;obtain⟨t,d,e⟩:=ih (by omega);have q:a+i<l.length:=by omega
   have g:i<((l.take b).drop a).length:=by omega
   have o:=fF g;by_cases m:l[a+i].1=8
   .grind [dN,qa,H3,Xv]
   .by_cases h9:l[a+i].1=9
    .grind [p5,dN,so,List.dropLast_append_of_ne_nil,A5]
    grind [dN,ju,HV]
 obtain⟨t,d,e⟩:=c (b-a) (Xj _);simp_all
structure Mate(l:List Opn)(m k:Nat):Prop where
 lt:m<k
 len:k<l.length
 eq:dep l (k+1)=dep l m
 ne:∀i,m<=i->i<k->dep l (i+1)≠dep l m
 st:stk l (k+1)=stk l m
theorem WxQ{l}(r:Up l)(K:dep l l.length=0){j m}{s}(p:j<=l.length)(y:stk l j=s++ [m]):∃k,j<=k/\Mate l m k/\stk l m=s:=by
 obtain⟨a,⟨Q,O⟩,c,d⟩:=MY j p s [] m y;have F:=eY r m (by omega);have e:∀i,m<=i->i<j->dep l (i+1)≠dep l m:=λi h o=>by
  grind [eY]
 have v:∀n i,l.length-i=n->j<=i->i<=l.length->(∀b,m<=b->b<i->dep l (b+1)≠dep l m)->dep l m<dep l i->∃k,j<=k/\k<l.length/\dep l (k+1)=dep l m/\∀b,m<=b->b<k->dep l (b+1)≠dep l m:=by
  intro n
  induction n with
  |zero=>grind
  |succ n ih=>
   intro i h o L M N;have A:i<l.length:=by omega
   by_cases P:dep l (i+1)=dep l m
   .grind
   .have hd:=fF A;have R:=As l[i]
    grind
 have E:dep l m<dep l j:=by
  grind [eY]
 obtain⟨k,B,u,C,D⟩:=v _ j rfl (Xj _) p e E;have G:m<k:=by omega
 have f:∀n i,i=m+1+n->i<=k->∃t,stk l i=s++m::t:=by
  intro n
  induction n with
  |zero=>grind
  |succ n ih=>
   intro i h o;obtain⟨t,q⟩:=ih (m+1+n) rfl (by omega);by_cases J:l[m+1+n].1=8
   .grind [qa]
   .by_cases w:l[m+1+n].1=9
    .rcases zz t with rfl|⟨S,x,rfl⟩
     .grind [so,stk,eY]
     grind [so,List.dropLast_concat]
    grind [ju]
 obtain⟨t,q⟩:=f (k-m-1) k (by omega) (Xj _);have g:=eY r k (by omega);have H:=fF u;rw[q]at g;rw[c]at F;simp at g;have I:=As l[k];have w:l[k].1=9:=by
  grind [H3,HV]
 have z:t= []:=List.eq_nil_of_length_eq_zero (by omega);refine⟨k,B,⟨G,u,C,D,?_⟩,c⟩
 grind [so]
theorem Vd{l}{m i}:((dep l (i+1) -dep l m)==(0:Int))=decide (dep l (i+1)=dep l m):=by
 grind
theorem SV{N}{l}{m k}(D:l.length<=1048576)(B:1048576<N)(d:∃h:m<l.length,l[m].1=8)(b:Mate l m k):zu N l (m:Int)=ret (k:Int):=by
 obtain⟨j,d⟩:=d;unfold zu;have q:Wz .i64 (Wi l) 1=(l.length:Int) -1:=WJ (by unfold I64 Wi;omega);have r:(decide (0<=(m:Int))&&decide ((m:Int)<=(l.length:Int) -1))=true:=by simp;omega
 have s:(l[m].1 !=8)=false:=by simp[d]
 simp only[WK,ret,Xd,q,r,Xn,Wb,Wq j,Wa,Wu j,s];have f:∀(c n i:Nat),k-i=c->m<=i->i<=k->l.length-i<n->∀{R:Type} (K0:Int->Option R) (K1:Int->Int->Bool->Option R),yf N l K0 K1 n (dep l i-dep l m) (i:Int)=K0 k:=by
  intro c
  induction c with
  |zero=>
   intro n i t g u v R K0 K1;have:i=k:=by omega
   subst this;cases n with
   |zero=>omega
   |succ n=>
    have a:=b.len;have x:=fF a;have w:=gc l i;have z:=gc l m;have y:=As l[i];have e:Wj .i64 (dep l i-dep l m) (opd l[i])=dep l (i+1) -dep l m:=by grind [WA,I64]
    simp only[yf,WF a,Wq a,Wu a,Wa,GS,ret,Xd,e];simp[b.eq]
  |succ c ih=>
   intro n i t g u v R K0 K1;cases n with
   |zero=>omega
   |succ n=>
    have C:=b.len;have a:i<l.length:=by omega
    have x:=fF a;have w:=gc l i;have z:=gc l m;have y:=As l[i];have e:Wj .i64 (dep l i-dep l m) (opd l[i])=dep l (i+1) -dep l m:=by grind [WA,I64]
    have p:=b.ne i g (by omega);simp only[yf,WF a,Wq a,Wu a,Wa,GS,ret,Xd,e,Vd,p,decide_false,Wb,Wl (show i<4611686018427387904 by omega)];exact ih n (i+1) (by omega) (by omega) (by omega) (by omega) K0 K1
 have:=f (k-m) N m rfl (Xj _) (by have:=b.lt;omega) (by omega) (R:=Unit×Kk) (λo=>some ((),(o,()))) (λF A E=>some ((),((-1:Int),())));simp_all
theorem Tf{N}{l}{m k}(G:l.length<=1048576)(C:1048576<N)(g:∃h:m<l.length,l[m].1=8)(b:Mate l m k):zs N l (m:Int)=ret (k:Int):=by
 obtain⟨o,g⟩:=g;unfold zs;have r:decide ((m:Int)<0)=false:=by simp
 have s:decide ((m:Int)>=Wi l)=false:=by simp[Wi];omega
 have t:(l[m].1 !=8)=false:=by simp[g]
 simp only[r,s,Wb,Wq o,Wa,Wu o,t];have a:∀(n i:Nat) (d:i<l.length) {R:Type} (K0:Int->Option R) (K1:Int->Int->Bool->Option R),m<=i->nl N l K0 K1 (n+1) (dep l i-dep l m) (i:Int)=
   bif decide (dep l (i+1)=dep l m)then K0 i else nl N l K0 K1 n (dep l (i+1) -dep l m) ((i+1:Nat):Int):=by
  intro n i d R K0 K1 K;have E:=fF d;have D:=gc l i;have H:=gc l m;have z:Wj .i64 (dep l i-dep l m) 1=dep l i-dep l m+1:=WA (by unfold I64;omega);have A:Wz .i64 (dep l i-dep l m) 1=dep l i-dep l m-1:=WJ (by unfold I64;omega);simp only[nl,WF d,Wq d,Wu d,Wa,Wl (show i<4611686018427387904 by omega),z,A];by_cases u:l[i].1=8
  .have e:dep l i-dep l m+1=dep l (i+1) -dep l m:=by grind [H3]
   grind
  .have b8:(l[i].1==8)=false:=by simp[u]
   by_cases v:l[i].1=9
   .have e:dep l i-dep l m-1=dep l (i+1) -dep l m:=by grind [p5]
    grind
   .have b9:(l[i].1==9)=false:=by simp[v]
    have e:dep l i-dep l m=dep l (i+1) -dep l m:=by grind [HV]
    simp only[b8,b9,Wa,Wb];rw[e,Vd]
 have j:∀(c n i:Nat),k-i=c->m<=i->i<=k->l.length-i<n->∀{R:Type} (K0:Int->Option R) (K1:Int->Int->Bool->Option R),nl N l K0 K1 n (dep l i-dep l m) (i:Int)=K0 k:=by
  intro c
  induction c with
  |zero=>
   intro n i w f x y R K0 K1;have:i=k:=by omega
   subst this;cases n with
   |zero=>omega
   |succ n=>rw[a n i b.len K0 K1 f];simp[b.eq]
  |succ c ih=>
   intro n i w f x y R K0 K1;cases n with
   |zero=>omega
   |succ n=>
    have F:=b.len;have q:=b.ne i f (by omega);rw[a n i (by omega) K0 K1 f];simp only[q,decide_false,Wb];exact ih n (i+1) (by omega) (by omega) (by omega) (by omega) K0 K1
 have:=j (k-m) N m rfl (Xj _) (by have:=b.lt;omega) (by omega) (R:=Unit×Kk) (λp=>some ((),(p,()))) (λJ B I=>some ((),((-1:Int),())));simp_all
end
section
theorem VX{N}{o:Opn}:∃t:Int,mu N o=ret t/\BS N o=ret t:=by
 unfold mu BS;rw[vm,Da];simp only[ret,Xd];cases aT o
 .simp_all
 .cases o.1==5<;>cases o.1==6<;>cases o.1==12<;>cases o.1==13<;>cases o.1==14<;>cases o.1==15<;>cases o.1==16<;>exact⟨_,rfl,rfl⟩
noncomputable def nZ(o:Opn):Int:=match mu 0 o with|some (_,(t,_))=>t|none=>0
theorem Wya{N}{o:Opn}:mu N o=mu 0 o:=by
 unfold mu;rw[vm,vm]
theorem CW{N}{o:Opn}:mu N o=ret (nZ o):=by
 rw[Wya];obtain⟨t,h,_⟩:=VX (N:=0) (o:=o);unfold nZ;rw[h]
theorem Se{N}{o:Opn}:BS N o=ret (nZ o):=by
 obtain⟨t,h,a⟩:=VX (N:=N) (o:=o);rw[a,←h,CW]
noncomputable def pX(o:Opn):Bool:=(o.1==11)||(nZ o==2)
noncomputable def ku(l:List Opn):Bool:=jJ l&& !l.any pX
theorem SC{N}{l:List Opn}(d:l.length<=1048576)(c:1048576<N):yD N l=ret (l.any λo=>o.1==11):=by
 unfold yD;have b:=WC (l:=l) (V:=Unit) (R:=Unit×Ke) (lp:=λn j v=>xc N l (some ((),(true,()))) (λe f=>some ((),(false,()))) n j) (n:=N) (by omega)
  (body:=λj x v k=>bif x.1==11 then some ((),(true,()))else k v) (K:=λ_ v=>some ((),(false,())))
  (λn i v a=>by simp only[xc,WF a,Wq a,Wu a,Wl (show i<4611686018427387904 by omega),Wa])
  (λn v=>by simp[xc,WN,Xj,Wb]) ()
 refine b.trans ?_;rw[fG (p:=λx:Opn=>x.1==11) (E:=λ_=>some ((),(true,()))) l 0 () (λj x v k _=>rfl)];cases l.any λo:Opn=>o.1==11<;>rfl
theorem Wph{N}{l:List Opn}(d:l.length<=1048576)(c:1048576<N):zl N l=ret (ku l):=by
 unfold zl ku;simp only[L2 d c,ret,Xd];cases jJ l with
 |false=>rfl
 |true=>
  simp only[SC d c,ret,Xd,Xn,Wb,eI];have b:=WC (l:=l) (V:=Unit) (R:=Unit×Ke) (lp:=λn j v=>x8 N l (some ((),(false,()))) (λf g=>some ((),(true,()))) n j) (n:=N) (by omega)
   (body:=λj x v k=>bif nZ x==2 then some ((),(false,()))else k v) (K:=λ_ v=>some ((),(true,())))
   (λn i v a=>by simp only[x8,WF a,Wq a,Wu a,Wl (show i<4611686018427387904 by omega),Wa,CW,ret,Xd])
   (λn v=>by simp[x8,WN,Xj,Wb]) ()
  (try simp only[]at b)
  rw[b,fG (p:=λx=>nZ x==2) (E:=λ_=>some ((),(false,()))) l 0 () (λj x v k _=>rfl)];have e:l.any pX=((l.any λo=>o.1==11)||l.any λo=>nZ o==2):=by
   grind [pX,nZ]
  rw[e];cases l.any λo:Opn=>o.1==11<;>cases l.any λo=>nZ o==2<;>rfl
theorem WoX{N}{l:List Opn}(g:l.length<=1048576)(f:1048576<N):zt N l=ret (ku l):=by
 unfold zt ku;have c:=WC (l:=l) (V:=Unit) (R:=Unit×Ke) (lp:=λn j v=>yc N l (some ((),(false,()))) (λe d=>((oU N l).bind λb=>(some ((),(b.2.1,()))))) n j) (n:=N) (by omega)
  (body:=λj x v k=>bif pX x then some ((),(false,()))else k v) (K:=λ_ v=>ret (jJ l))
  (λn i v a=>by
   simp only[yc,WF a,Wq a,Wu a,Wl (show i<4611686018427387904 by omega),Wa,Se,ret,Xd,pX];cases l[i].1==11<;>rfl)
  (λn v=>by simp_all [yc,WN,Xj,Wb,Sy,ret,Xd]) ()
 refine c.trans ?_;rw[fG (p:=pX) (E:=λ_=>some ((),(false,()))) l 0 () (λj x v k _=>rfl)];cases l.any pX<;>cases jJ l<;>rfl
def lK(l:List Int):Bool:=decide (l.length=4)&&l.all bR
theorem Gh{N}{l}(d:l.length<=1048576)(c:1048576<N):nF N l=ret (lK l):=by
 unfold nF lK;by_cases h:l.length=4
 .have e:(Wi l !=4)=false:=by simp[Wi,h]
  rw[e];simp only[Wb];have b:=WC (l:=l) (V:=Unit) (R:=Unit×Ke) (lp:=λn j v=>xg N l (some ((),(false,()))) (λf g=>some ((),(true,()))) n j) (n:=N) (by omega)
   (body:=λj x v k=>bif !bR x then some ((),(false,()))else k v) (K:=λ_ v=>some ((),(true,())))
   (λn i v a=>by simp only[xg,WF a,Wq a,Wu a,Wl (show i<4611686018427387904 by omega),Wa,i0,ret,Xd])
   (λn v=>by simp[xg,WN,Xj,Wb]) ()
  refine b.trans ?_;rw[fG (p:=λx=>!bR x) (E:=λ_=>some ((),(false,()))) l 0 () (λj x v k _=>rfl),gW];cases l.all bR<;>simp[h]
 grind [Wi]
theorem Ge{N}{l}(d:l.length<=1048576)(c:1048576<N):iQ N l 4=ret (lK l):=by
 unfold iQ lK;have b:=WC (l:=l) (V:=Unit) (R:=Unit×Ke) (lp:=λn j v=>oj N l 4 (some ((),(false,()))) (λf g=>some ((),((Wi l)==(4:Int),()))) n j) (n:=N) (by omega)
  (body:=λj x v k=>bif !bR x then some ((),(false,()))else k v) (K:=λ_ v=>some ((),((Wi l)==(4:Int),())))
  (λn i v a=>by simp only[oj,WF a,Wq a,Wu a,Wl (show i<4611686018427387904 by omega),Wa,ka,ret,Xd])
  (λn v=>by simp[oj,WN,Xj,Wb]) ()
 refine b.trans ?_;rw[fG (p:=λx=>!bR x) (E:=λ_=>some ((),(false,()))) l 0 () (λj x v k _=>rfl),gW];have e:((Wi l)==(4:Int))=decide (l.length=4):=by
  grind [Wi]
 rw[e];cases l.all bR<;>simp
end
section
section
variable{o:Opn}
theorem NA(h:aT o=true)(d:1<=o.1)(e:o.1<=4):an o.2.1=true/\(o.1=1->bR o.2.2.1=true)/\(o.1≠1->an o.2.2.1=true/\an o.2.2.2=true):=by
 obtain⟨k,a,b,c⟩:=o;have:k=1\/k=2\/k=3\/k=4:=by omega
 rcases this with rfl|rfl|rfl|rfl
 .have:(an a&&bR b&&(c==(0:Int)))=true:=h;simp_all
 all_goals
  have:(an a&&an b&&an c)=true:=h;simp_all
theorem AQ(h:aT o=true)(d:o.1=5):an o.2.1=true/\bU o.2.2.1=true:=by
 obtain⟨k,a,b,c⟩:=o;subst d;have:(an a&&bU b&&(c==(0:Int)))=true:=h;simp_all
theorem AX(h:aT o=true)(d:o.1=6):bU o.2.1=true/\an o.2.2.1=true:=by
 obtain⟨k,a,b,c⟩:=o;subst d;have:(bU a&&an b&&(c==(0:Int)))=true:=h;simp_all
theorem AJ(h:aT o=true)(d:o.1=7):an o.2.1=true/\1<=o.2.2.1/\o.2.2.1<=20:=by
 obtain⟨k,a,b,c⟩:=o;subst d;have:(an a&&(decide (1<=b)&&decide (b<=20))&&(c==(0:Int)))=true:=h;simp_all
theorem sA(h:aT o=true)(d:o.1=8):an o.2.1=true:=by
 obtain⟨k,a,b,c⟩:=o;subst d;have:(an a&&(b==(0:Int))&&(c==(0:Int)))=true:=h;simp_all
theorem p6(h:aT o=true):1<=o.1/\o.1<=16:=by
 by_cases a:1<=o.1/\o.1<=16
 .exact a
 .have e:∀n:Int,1<=n->n<=16->(o.1==n)=false:=λn b c=>by simp;omega
  simp_all [aT]
end
theorem WW{x}{l:List Int}(h:an x=true)(a:l.length=4):inb x l.length=true:=by
 grind [an,inb]
structure Vals(n:Nat)(l:List Int):Prop where
 len:l.length=n
 val:∀x∈l,0<=x/\x<=65535
theorem Vals.get{n}{l}(h:Vals n l)(i):0<=l.getD i 0/\l.getD i 0<=65535:=by
 by_cases a:i<l.length
 .rw[WB a];exact h.val _ (Xt a)
 simp_all
theorem Vals.set{n}{l}(h:Vals n l)(i){x}(b:0<=x/\x<=65535):Vals n (l.set i x):=
 ⟨by rw[cY];exact h.len,λy a=>by
  rcases List.mem_or_eq_of_mem_set a with a|a
  .exact h.val y a
  omega⟩
theorem gH{x}:bR x=true↔0<=x/\x<=65535:=by unfold bR;simp
theorem nP{l}:lK l=true↔Vals 4 l:=by
 unfold lK;rw[Xh,Wh,bH];exact⟨λh=>⟨h.1,λx a=>gH.1 (h.2 x a)⟩,λh=>⟨h.len,λx a=>gH.2 (h.val x a)⟩⟩
theorem Nj{l}:kp l=true↔Vals 8 l:=by
 unfold kp;rw[Xh,Wh,bH];exact⟨λh=>⟨h.1,λx a=>gH.1 (h.2 x a)⟩,λh=>⟨h.len,λx a=>gH.2 (h.val x a)⟩⟩
def sn(o:Opn)(r:List Int):List Int:=
 bif o.1==1 then r.set o.2.1.toNat o.2.2.1 else
 bif o.1==2 then r.set o.2.1.toNat ((r.getD o.2.2.1.toNat 0+r.getD o.2.2.2.toNat 0)%65536)else
 bif o.1==3 then r.set o.2.1.toNat ((r.getD o.2.2.1.toNat 0-r.getD o.2.2.2.toNat 0+65536)%65536)else
 bif decide (r.getD o.2.2.1.toNat 0<r.getD o.2.2.2.toNat 0)then r.set o.2.1.toNat 1 else r.set o.2.1.toNat 0
theorem ie{x}(h:0<=x):ak x 65536=x%65536:=by grind [ak,Ev]
theorem Nh{o}{r}(h:aT o=true)(b:1<=o.1)(c:o.1<=4)(a:Vals 4 r):Vals 4 (sn o r):=by
 obtain⟨_,d,_⟩:=NA h b c;unfold sn;cases e1:o.1==1
 .cases o.1==2
  .cases o.1==3
   .cases decide (r.getD o.2.2.1.toNat 0<r.getD o.2.2.2.toNat 0)
    .exact a.set _ (by omega)
    .exact a.set _ (by omega)
   .exact a.set _ (by omega)
  .exact a.set _ (by omega)
 .exact a.set _ (gH.1 (d (by simp_all)))
section
variable{N:Nat}{o:Opn}{r:List Int}
theorem SA(n:1048576<N)(h:aT o=true)(k:1<=o.1)(m:o.1<=4)(a:Vals 4 r):F0 N o r=some ((),(sn o r,(true,()))):=by
 obtain⟨p,y,e⟩:=NA h k m;unfold F0 Zy;have f:Wx r.length=true:=Wp (by rw[a.len];omega);have g:decide (o.1>4)=false:=by simp;omega
 have i:=nP.2 a;have c:=WW p a.len;have j:inz 65536=true:=rfl;have w:=a.get o.2.2.1.toNat;have x:=a.get o.2.2.2.toNat;simp only[f,Wa,Xd,Da,ret,h,Xn,Wb,g,Ge (l:=r) (by rw[a.len];omega) n,i,c,j];unfold sn;by_cases d:o.1=1
 .simp_all
 .have b:(o.1==1)=false:=by simp[d]
  obtain⟨q,s⟩:=e d;rw[b];simp only[Wb,WW q a.len,WW s a.len,Wa,cY,c];have t:Wj .i64 (r.getD o.2.2.1.toNat 0) (r.getD o.2.2.2.toNat 0)=r.getD o.2.2.1.toNat 0+r.getD o.2.2.2.toNat 0:=WA (by unfold I64;omega);have u:Wz .i64 (r.getD o.2.2.1.toNat 0) (r.getD o.2.2.2.toNat 0)=r.getD o.2.2.1.toNat 0-r.getD o.2.2.2.toNat 0:=WJ (by unfold I64;omega);have v:Wj .i64 (r.getD o.2.2.1.toNat 0-r.getD o.2.2.2.toNat 0) 65536=r.getD o.2.2.1.toNat 0-r.getD o.2.2.2.toNat 0+65536:=WA (by unfold I64;omega);rw[t,u,v,ie (by omega),ie (by omega)];cases o.1==2
  .cases o.1==3
   .simp only[Wb,Wk,nk];cases decide (r.getD o.2.2.1.toNat 0<r.getD o.2.2.2.toNat 0)<;>rfl
   .rfl
  .rfl
theorem Sq(p:1048576<N)(h:aT o=true)(m:1<=o.1)(n:o.1<=4)(a:Vals 4 r):FZ N o r=some ((),(sn o r,(true,()))):=by
 obtain⟨q,z,e⟩:=NA h m n;unfold FZ;have f:Wx (([]:List Int).length+r.length)=true:=Wp (by rw[a.len];simp);have g:decide (o.1>4)=false:=by simp;omega
 have i:=nP.2 a;have c:=WW q a.len;have k:inz 65536=true:=rfl;have j:Xe ([]:List Int) r=r:=rfl;have x:=a.get o.2.2.1.toNat;have y:=a.get o.2.2.2.toNat;simp only[f,Wa,Xd,vm,ret,h,Xn,Wb,g,Gh (l:=r) (by rw[a.len];omega) p,i,c,k,j];unfold sn;by_cases d:o.1=1
 .simp_all
 .have b:(o.1==1)=false:=by simp[d]
  obtain⟨s,t⟩:=e d;rw[b];simp only[Wb,WW s a.len,WW t a.len,Wa,cY,c];have u:Wj .i64 (r.getD o.2.2.1.toNat 0) (r.getD o.2.2.2.toNat 0)=r.getD o.2.2.1.toNat 0+r.getD o.2.2.2.toNat 0:=WA (by unfold I64;omega);have v:Wz .i64 (r.getD o.2.2.1.toNat 0) (r.getD o.2.2.2.toNat 0)=r.getD o.2.2.1.toNat 0-r.getD o.2.2.2.toNat 0:=WJ (by unfold I64;omega);have w:Wj .i64 (r.getD o.2.2.1.toNat 0-r.getD o.2.2.2.toNat 0) 65536=r.getD o.2.2.1.toNat 0-r.getD o.2.2.2.toNat 0+65536:=WA (by unfold I64;omega);rw[u,v,w,ie (by omega),ie (by omega)];cases o.1==2
  .cases o.1==3
   .simp only[Wb,Wk,nk];cases decide (r.getD o.2.2.1.toNat 0<r.getD o.2.2.2.toNat 0)<;>rfl
   .rfl
  .rfl
end
def iD(l:List Rw):Prop:=∀r∈l,(0<=r.1/\r.1<=7)/\0<=r.2/\r.2<=65535
theorem G9{l}:l.all m7=true↔iD l:=by
 simp[bH,iD,m7,bU,bR]
theorem Ho{N}{l}(h:l.length<=1048576):y6 N l=ret l:=by
 simp_all [y6,kN,cb,Vl,Wa]
theorem C7{N}{l}(h:l.length<=1048576):Zy N l=ret l:=by
 simp_all [Zy,Vl,Wa]
end
section
structure Lin{α:Type}(cf:α->α->Int):Prop where
 irr:∀x,¬cf x x<0
 tr:∀x y z,cf x y<0->cf y z<0->cf x z<0
 nt:∀x y z,¬cf x y<0->¬cf y z<0->¬cf x z<0
theorem ss:Lin cfE:=⟨λx=>by unfold cfE;omega,λx y z=>by unfold cfE;omega,λx y z=>by unfold cfE;omega⟩
theorem jC:Lin cfH:=⟨λx=>by rw[gY];omega,λx y z=>by simp only[gY];omega,λx y z=>by simp only[gY];omega⟩
def Ris{α:Type}(cf:α->α->Int)(l:List α):Prop:=l.Pairwise λa b=>cf a b<0
def ch{α:Type}(cf:α->α->Int):List α->α->List α
 | [],e=>[e]
 |x::l,e=>if cf x e<0 then x::ch cf l e else if cf e x<0 then e::x::l else e::l
def Ap{α:Type}(cf:α->α->Int)(x y:α):Prop:=cf x y<0\/cf y x<0
variable{α:Type}{cf:α->α->Int}
theorem Lin.ap(h:Lin cf){x y}(b:¬Ap cf x y){z}:(cf x z<0↔cf y z<0)/\(cf z x<0↔cf z y<0):=by
 unfold Ap at b;refine⟨⟨λa=>?_,λa=>?_⟩,⟨λa=>?_,λa=>?_⟩⟩
 .exact Classical.byContradiction λc=>h.nt x y z (λq=>b (.inl q)) c a
 .exact Classical.byContradiction λc=>h.nt y x z (λq=>b (.inr q)) c a
 .exact Classical.byContradiction λc=>h.nt z y x c (λq=>b (.inr q)) a
 .exact Classical.byContradiction λc=>h.nt z x y c (λq=>b (.inl q)) a
theorem Uh:∀(l) (e),(ch cf l e).length<=l.length+1
 | [],e=>by simp[ch]
 |x::l,e=>by
  have:=Uh l e;unfold ch
  grind
theorem pk(c:Lin cf){e x}:∀{l},Ris cf l->(x∈ch cf l e↔x=e\/(x∈l/\Ap cf x e))
 | [],_=>by simp[ch]
 |y::l,h=>by
  have d:=(Xw.1 h);unfold ch;by_cases b:cf y e<0
  .rw[Wf b,Xq,pk c d.2,Xq];refine⟨?_,?_⟩
   .rintro(rfl|h|h)
    .exact .inr ⟨.inl rfl,.inl b⟩
    .grind
    simp_all
   grind
  .rw[We b];by_cases a:cf e y<0
   .rw[Wf a];simp only[Xq];refine⟨?_,?_⟩
    .rintro(h|rfl|h)
     .grind
     .exact .inr ⟨.inl rfl,.inr a⟩
     .exact .inr ⟨.inr h,.inr (c.tr _ _ _ a (d.1 x h))⟩
    grind
   .rw[We a];simp only[Xq];have f:¬Ap cf y e:=by unfold Ap;omega
    refine⟨?_,?_⟩
    .rintro(h|h)
     .grind
     .exact .inr ⟨.inr h,.inr ((c.ap f).1.1 (d.1 x h))⟩
    grind
theorem o9(d:Lin cf){e}:∀{l},Ris cf l->Ris cf (ch cf l e)
 | [],_=>by simp[ch,Ris]
 |y::l,h=>by
  have b:=(Xw.1 h);unfold ch;by_cases f:cf y e<0
  .rw[Wf f];refine Xw.2 ⟨λx a=>?_,o9 d b.2⟩;rcases(pk d b.2).1 a with rfl|a
   .exact f
   simp_all
  .rw[We f];by_cases c:cf e y<0
   .rw[Wf c];refine Xw.2 ⟨λx a=>?_,h⟩;rcases Xq.1 a with rfl|a
    .exact c
    .exact d.tr _ _ _ c (b.1 x a)
   .rw[We c];have g:¬Ap cf y e:=by unfold Ap;omega
    exact Xw.2 ⟨λx a=>(d.ap g).1.1 (b.1 x a),b.2⟩
theorem DX(e:Lin cf){L M}(g:Ris cf M)(s:L.Pairwise (Ap cf))(p:∀x,x∈L↔x∈M):lz cf L=M:=by
 have q:∀{l:List α},l.Pairwise (Ap cf)->l.Nodup:=λh=>h.imp λ{a b} jn=>by
  rintro rfl;unfold Ap at jn;have:=e.irr a;omega
 have m:M.Pairwise (Ap cf):=g.imp λh=>.inl h;have t:=(List.perm_ext_iff_of_nodup (q s) (q m)).2 p;unfold lz;have d:=List.pairwise_mergeSort (le:=λx y=>!mZ cf y x) (λa b c=>by
  simp only[mZ,c5,Wn]
  exactλd f=>e.nt _ _ _ f d) (λa b=>by
  simp only[mZ,qj,c5,Wn];rcases Classical.em (cf b a<0)with h|h
  .exact .inr λk=>e.irr _ (e.tr _ _ _ h k)
  omega) L
 refine List.Perm.eq_of_pairwise ?_ d (g.imp λ{a b} h=>?_) ((Xhg _ _).trans t)
 .intro a b ha hb d f;simp only[mZ,c5,Wn]at d f;have r:=(p a).1 ((Xhg _ _).mem_iff.1 ha);obtain⟨i,n,rfl⟩:=md r;obtain⟨j,o,rfl⟩:=md hb;rcases Nat.lt_trichotomy i j with h|h|h
  .exact Wy (hP.1 g i j n o h) f
  .grind
  .exact Wy (hP.1 g j i o n h) d
 .simp only[mZ,c5,Wn]
  exactλk=>e.irr _ (e.tr _ _ _ h k)
theorem Vc{r}{R}(c:∀a b,R a b->r a b=true):∀{l:List α},l.Pairwise R->qc r l=true
 | [],_=>rfl
 |x::l,h=>by
  have:=Xw.1 h;simp only[qc,Xh,bH];exact⟨λy d=>c _ _ (this.1 y d),Vc c this.2⟩
theorem VJ(c:Lin cf){rng}{N}{L M}(b:Ris cf M)(a:L.Pairwise (Ap cf))(e:∀x,x∈L↔x∈M)(f:∀x∈L,rng x=true)(d:L.length<=1048576):
  zy rng cf N L=some ((M,()),()):=by
 grind [zy,bH,Vc,Ap,nb,mZ,decide_eq_true,DX]
theorem Ug(d:Lin cf){L:List α}{e}{i}(g:L.Pairwise (Ap cf))(hi)(f:¬Ap cf L[i] e):(L.set i e).Pairwise (Ap cf)/\∀x,x∈L.set i e↔x=e\/(x∈L/\Ap cf x e):=by
 have l:∀{z},Ap cf L[i] z↔Ap cf e z:=λ{z}=>by unfold Ap;rw[(d.ap f).1,(d.ap f).2]
 have m:∀{a b:α},Ap cf a b->Ap cf b a:=λh=>h.symm;have n:=hP.1 g;refine⟨?_,λx=>⟨λc=>?_,?_⟩⟩
 .rw[hP]
  grind
 .obtain⟨j,k,rfl⟩:=md c
  grind
 .rintro(rfl|⟨c,o⟩)
  .grind [EU]
  .obtain⟨j,k,rfl⟩:=md c;refine EU.2 ⟨j,by simp_all,?_⟩;rw[List.getElem_set,We]
   grind
theorem TU{L}{e}(a:L.Pairwise (Ap cf))(b:∀x∈L,Ap cf x e):(L++ [e]).Pairwise (Ap cf)/\∀x,x∈L++ [e]↔x=e\/(x∈L/\Ap cf x e):=by
 grind
end
end Go.Sx
