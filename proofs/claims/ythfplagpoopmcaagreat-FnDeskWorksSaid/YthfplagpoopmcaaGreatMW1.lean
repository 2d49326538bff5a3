/- Plain laws of the Lean functions. -/
import Derived.Test.YthfplagpoopmcaaGreatT
open Option renaming bind_some→Xd
open Nat renaming le_refl→Xm,zero_add→Xbh,le_trans→Xcr,add_zero→Xay,add_assoc→Xav,sub_zero→Xda
open List renaming mem_cons→Xq,append→Xt,length_cons→Xn,mem_cons_self→Xh,append_eq→Xdv,mem_cons_of_mem→Xe,all_eq_true→Xab,getD→Xc,set→Xi,set_set→Xdt,take_succ_eq_append_getElem→Xby,countP_le_length→Xfq,length→Xb,length_append→Xo,length_dropLast→Xek,append_inj'→Xeb,append_assoc→Xax,cons_append→Xaq,dropLast_concat→Xej,getElem_mem→Xar,length_set→Xbb,pairwise_cons→Xw,mergeSort_perm→Xfw,getElem_of_mem→Xcd,pairwise_iff_getElem→Xaw,mem_iff_getElem→Xfs,getElem_set→Xci,range→Xbt,replicate→Xr,map_append→Xy,map_cons→Xag,map_nil→Xbu,map_set→Xfd,length_map→Xad,take→Xal,set_getElem_self→Xbi,range'→Xgi,mem_range'_1→Xge,mem_append→Xl,pairwise_append→Xah,mem_singleton→Xaf,getElem?_eq_getElem→Xp,drop_length→Xcz,drop_eq_getElem_cons→Xbm,drop_zero→Xca,countP_set→Xgr,length_singleton→Xfk,length_nil→Xae,mem_map→Xv,getElem_replicate→Xdd,nil_append→Xbn
open Bool renaming not_true→Xx,and_eq_true→Xg,or_eq_true→Xcg,not_eq_true'→Xak,true_and→Xcp,false_or→Xfu,toNat_false→Xgk,false_and→Xfn,eq_false_iff→Xgf,or_eq_false_iff→Xdn,not_eq_false'→Xes,and_self→Xbj
open Int renaming toNat→Xa,toNat_natCast→Xk,tmod_eq_emod_of_nonneg→Xdp,le_refl→Xcv,tdiv_eq_ediv_of_nonneg→Xeu
namespace Go.Sx
set_option linter.unusedVariables false
set_option linter.unusedSimpArgs false
section
abbrev Cur:=List Int×Int×Int
end
section

end
section
def WbE(v:Int):Bool:=decide (0<=v)&&decide (v<=65535)
theorem WpI{N:Nat}{x a b:Int}:Zb8 N x a b=ret (decide (a<=x)&&decide (x<=b)):=by
 unfold Zb8;by_cases h:a<=x<;>simp[h]
theorem WM{N:Nat}{x a b:Int}:Zc N x a b=ret (decide (a<=x)&&decide (x<=b)):=by
 unfold Zc;by_cases h:a<=x<;>simp[h]
theorem Wdk{α:Type}{p:α->Bool}(l:List α):(l.any λx=>!p x)= !l.all p:=by
 grind
abbrev Rw:=Int×Int
def Wal(v:Int):Bool:=decide (0<=v)&&decide (v<=7)
def Wmi(r:Rw):Bool:=Wal r.1&&WbE r.2
def WaD(l:List Rw):Bool:=decide (l.length<=300)&&l.all Wmi
def WfI(l:List Int):Bool:=decide (l.length=8)&&l.all WbE
theorem Wl4{N:Nat}{v:Int}:Zif N v=ret (WbE v):=by
 unfold Zif;simp only[WpI,ret,Xd];rfl
theorem Wad{N:Nat}{v:Int}:Z7 N v=ret (WbE v):=by
 unfold Z7;simp only[WM,ret,Xd];rfl
theorem Wky{N:Nat}{v:Int}:Zg0 N v=ret (Wal v):=by
 unfold Zg0;simp only[WpI,ret,Xd];rfl
theorem Wai{N:Nat}{v:Int}:Zaa N v=ret (Wal v):=by
 unfold Zaa;simp only[WM,ret,Xd];rfl
theorem WfR{N:Nat}{l:List Int}(hl:l.length<=1048576)(hN:1048576<N):Z5 N l 8=ret (WfI l):=by
 unfold Z5 WfI;have h1:=WT (l:=l) (V:=Unit) (R:=Unit×Kr) (lp:=λn j v=>Zai N l 8 (some ((),(false,()))) (λi8 t9=>some ((),((Wh l)==(8:Int),()))) n j) (n:=N) (by omega)
  (body:=λj x v k=>bif !WbE x then some ((),(false,()))else k v) (K:=λ_ v=>some ((),((Wh l)==(8:Int),())))
  (λn i v hi=>by simp only[Zai,Wan hi,WD hi,WH hi,Wt (show i<4611686018427387904 by omega),Wa,Wad,ret,Xd])
  (λn v=>by simp[Zai,WaC,Xm,Wf]) ()
 refine h1.trans ?_;rw[WbH (p:=λx=>!WbE x) (E:=λ_=>some ((),(false,()))) l 0 () (λj x v k _=>rfl),Wdk];have e:((Wh l)==(8:Int))=decide (l.length=8):=by
  grind [Wh]
 rw[e];cases l.all WbE<;>simp
theorem WbF{N:Nat}{l:List Rw}(hl:l.length<=1048576)(hN:1048576<N):Zbo N l=ret (WaD l):=by
 unfold Zbo WaD;have h1:=WT (l:=l) (V:=Unit) (R:=Unit×Kr) (lp:=λn j v=>Zbx N l (some ((),(false,()))) (λi8 t9=>some ((),(decide ((Wh l)<=(300:Int)),()))) n j) (n:=N) (by omega)
  (body:=λj x v k=>bif !Wmi x then some ((),(false,()))else k v) (K:=λ_ v=>some ((),(decide ((Wh l)<=(300:Int)),())))
  (λn i v hi=>by
   simp only[Zbx,Wan hi,WD hi,WH hi,Wt (show i<4611686018427387904 by omega),Wa,Wad,Wai,ret,Xd,Wmi];cases Wal l[i].1<;>rfl)
  (λn v=>by simp[Zbx,WaC,Xm,Wf]) ()
 refine h1.trans ?_;rw[WbH (p:=λx=>!Wmi x) (E:=λ_=>some ((),(false,()))) l 0 () (λj x v k _=>rfl),Wdk];have e:decide (Wh l<=300)=decide (l.length<=300):=by apply decide_eq_decide.2;simp[Wh];omega
 rw[e];cases l.all Wmi<;>simp
theorem WqK{α:Type}{l:List α}(h:l.length<=1048576):WV l.length=true:=by grind [WV]
end
section
abbrev Opn:=Int×Int×Int×Int
def WU(v:Int):Bool:=decide (0<=v)&&decide (v<=3)
def Wd5(v:Int):Bool:=decide (0<=v)&&decide (v<=7)
theorem Wmc{N:Nat}{v:Int}:Za9 N v=ret (WU v):=by
 unfold Za9;simp only[WpI,ret,Xd];rfl
theorem WlS{N:Nat}{v:Int}:Za1 N v=ret (WU v):=by
 unfold Za1;simp only[WM,ret,Xd];rfl
theorem WlT{N:Nat}{v:Int}:Zaf N v=ret (Wd5 v):=by
 unfold Zaf;simp only[WM,ret,Xd];rfl
def Wd9(o:Opn):Bool:=
 bif o.1==1 then WU o.2.1&&WbE o.2.2.1&&(o.2.2.2==(0:Int))else
 bif o.1==2 then WU o.2.1&&WU o.2.2.1&&WU o.2.2.2 else
 bif o.1==3 then WU o.2.1&&WU o.2.2.1&&WU o.2.2.2 else
 bif o.1==4 then WU o.2.1&&WU o.2.2.1&&WU o.2.2.2 else
 bif o.1==5 then WU o.2.1&&Wal o.2.2.1&&(o.2.2.2==(0:Int))else
 bif o.1==6 then Wal o.2.1&&WU o.2.2.1&&(o.2.2.2==(0:Int))else
 bif o.1==7 then WU o.2.1&&(decide (1<=o.2.2.1)&&decide (o.2.2.1<=20))&&(o.2.2.2==(0:Int))else
 bif o.1==8 then WU o.2.1&&(o.2.2.1==(0:Int))&&(o.2.2.2==(0:Int))else
 bif o.1==9 then(o.2.1==(0:Int))&&(o.2.2.1==(0:Int))&&(o.2.2.2==(0:Int))else
 bif o.1==10 then(o.2.1==(0:Int))&&(o.2.2.1==(0:Int))&&(o.2.2.2==(0:Int))else
 bif o.1==11 then(o.2.1==(0:Int))&&(o.2.2.1==(0:Int))&&(o.2.2.2==(0:Int))else
 bif o.1==12 then Wd5 o.2.1&&WU o.2.2.1&&WU o.2.2.2 else
 bif o.1==13 then WU o.2.1&&Wd5 o.2.2.1&&(o.2.2.2==(0:Int))else
 bif o.1==14 then Wd5 o.2.1&&WU o.2.2.1&&(o.2.2.2==(0:Int))else
 bif o.1==15 then WU o.2.1&&(o.2.2.1==(0:Int))&&(o.2.2.2==(0:Int))else
 bif o.1==16 then WU o.2.1&&(o.2.2.1==(0:Int))&&(o.2.2.2==(0:Int))else
 false
abbrev Bo:=Option Ke
def oA(p k:Bo):Bo:=p.bind λo=>bif o.2.1 then k else some ((),(false,()))
def oB(p:Bo):Bo:=p.bind λo=>some ((),(o.2.1,()))
theorem o3{T P Q R:Bo}{p q r:Bool}(h:T=oA P (oA Q (oB R)))(hp:P=ret p)(hq:Q=ret q)(hr:R=ret r):T=ret (p&&q&&r):=by
 rw[h,hp,hq,hr];cases p<;>cases q<;>rfl
theorem z0(v:Int):(ret (v==(0:Int)):Bo)=ret (v==(0:Int)):=rfl
theorem sR(N:Nat)(v:Int):Za9 N v=ret (WU v):=Wmc
theorem sV(N:Nat)(v:Int):Zif N v=ret (WbE v):=Wl4
theorem sC(N:Nat)(v:Int):Zg0 N v=ret (Wal v):=Wky
theorem sK(N:Nat)(v:Int):Zb8 N v 0 7=ret (Wd5 v):=WpI
theorem sI(N:Nat)(v:Int):Zb8 N v 1 20=ret (decide (1<=v)&&decide (v<=20)):=WpI
theorem iR(N:Nat)(v:Int):Za1 N v=ret (WU v):=WlS
theorem iV(N:Nat)(v:Int):Z7 N v=ret (WbE v):=Wad
theorem iC(N:Nat)(v:Int):Zaa N v=ret (Wal v):=Wai
theorem iK(N:Nat)(v:Int):Zaf N v=ret (Wd5 v):=WlT
theorem iI(N:Nat)(v:Int):Zc N v 1 20=ret (decide (1<=v)&&decide (v<=20)):=WM
def kds:List Int:=[1,2,3,4,5,6,7,8,9,10,11,12,13,14,15,16]
theorem Wsu{P:Int->Prop}(h1:P 1)(h2:P 2)(h3:P 3)(h4:P 4)(h5:P 5)(h6:P 6)(h7:P 7)(h8:P 8)(h9:P 9)(cG:P 10)(gR:P 11)(fK:P 12)(r9:P 13)(h14:P 14)(h15:P 15)(pO:P 16)
  (h0:∀k,(∀i,i∈kds->(k==i)=false)->P k) (k:Int):P k:=by
 by_cases h:k∈kds
 .simp only[kds,Xq,List.not_mem_nil,or_false]at h;rcases h with h|h|h|h|h|h|h|h|h|h|h|h|h|h|h|h<;>rw[h]<;>assumption
 .exact h0 k λi hi=>by
   rw[beq_eq_false_iff_ne];intro e;exact h (e▸hi)
theorem WdI{N:Nat}{o:Opn}:Ziu N o=ret (Wd9 o):=by
 obtain⟨k,a,b,c⟩:=o;exact Wsu (P:=λk=>Ziu N (k,a,b,c)=ret (Wd9 (k,a,b,c)))
  (o3 (by kernel_rfl) (sR N a) (sV N b) (z0 c))
  (o3 (by kernel_rfl) (sR N a) (sR N b) (sR N c))
  (o3 (by kernel_rfl) (sR N a) (sR N b) (sR N c))
  (o3 (by kernel_rfl) (sR N a) (sR N b) (sR N c))
  (o3 (by kernel_rfl) (sR N a) (sC N b) (z0 c))
  (o3 (by kernel_rfl) (sC N a) (sR N b) (z0 c))
  (o3 (by kernel_rfl) (sR N a) (sI N b) (z0 c))
  (o3 (by kernel_rfl) (sR N a) (z0 b) (z0 c))
  (o3 (by kernel_rfl) (z0 a) (z0 b) (z0 c))
  (o3 (by kernel_rfl) (z0 a) (z0 b) (z0 c))
  (o3 (by kernel_rfl) (z0 a) (z0 b) (z0 c))
  (o3 (by kernel_rfl) (sK N a) (sR N b) (sR N c))
  (o3 (by kernel_rfl) (sR N a) (sK N b) (z0 c))
  (o3 (by kernel_rfl) (sK N a) (sR N b) (z0 c))
  (o3 (by kernel_rfl) (sR N a) (z0 b) (z0 c))
  (o3 (by kernel_rfl) (sR N a) (z0 b) (z0 c))
  (λk e=>by unfold Ziu Wd9;simp(disch:=decide) only[e,Wf,Wn]) k
theorem Wd3{N:Nat}{o:Opn}:Zeg N o=ret (Wd9 o):=by
 obtain⟨k,a,b,c⟩:=o;exact Wsu (P:=λk=>Zeg N (k,a,b,c)=ret (Wd9 (k,a,b,c)))
  (o3 (by kernel_rfl) (iR N a) (iV N b) (z0 c))
  (o3 (by kernel_rfl) (iR N a) (iR N b) (iR N c))
  (o3 (by kernel_rfl) (iR N a) (iR N b) (iR N c))
  (o3 (by kernel_rfl) (iR N a) (iR N b) (iR N c))
  (o3 (by kernel_rfl) (iR N a) (iC N b) (z0 c))
  (o3 (by kernel_rfl) (iC N a) (iR N b) (z0 c))
  (o3 (by kernel_rfl) (iR N a) (iI N b) (z0 c))
  (o3 (by kernel_rfl) (iR N a) (z0 b) (z0 c))
  (o3 (by kernel_rfl) (z0 a) (z0 b) (z0 c))
  (o3 (by kernel_rfl) (z0 a) (z0 b) (z0 c))
  (o3 (by kernel_rfl) (z0 a) (z0 b) (z0 c))
  (o3 (by kernel_rfl) (iK N a) (iR N b) (iR N c))
  (o3 (by kernel_rfl) (iR N a) (iK N b) (z0 c))
  (o3 (by kernel_rfl) (iK N a) (iR N b) (z0 c))
  (o3 (by kernel_rfl) (iR N a) (z0 b) (z0 c))
  (o3 (by kernel_rfl) (iR N a) (z0 b) (z0 c))
  (λk e=>by unfold Zeg Wd9;simp(disch:=decide) only[e,Wf,Wn]) k
end
section
section
variable{N:Nat}{c:Cur}
end
end
section
section
variable{N:Nat}{c:Cur}
end
end
section
abbrev Wd:=Int×Int×Int
abbrev Mm:=Int×List Wd
theorem WcD{α:Type}(a:Option α):Wf3 a a=a:=by unfold Wf3;simp
def Wod(clock:Int)(w:Wd):Bool:=WbE w.1&&((decide (0<=w.2.1)&&decide (w.2.1<=clock))&&(decide (0<=w.2.2)&&decide (w.2.2<=99)))
def Waf(m:Mm):Bool:=decide (m.2.length=8)&&((decide (0<=m.1)&&decide (m.1<=1000000))&&m.2.all (Wod m.1))
theorem WaO{N:Nat}{m:Mm}(hl:m.2.length<=1048576)(hN:1048576<N):Zbg N m=ret (Waf m):=by
 unfold Zbg Waf;have h1:=WT (l:=m.2) (V:=Unit) (R:=Unit×Kr) (lp:=λn j v=>Zco N m.2 m (some ((),(false,()))) (λdH eC=>
  (bif (Wh m.2)==(8:Int)then
  ((Zc N m.1 (0:Int) (1000000:Int)).bind λeV=>
  (some ((),(eV.2.1,()))))
  else
  (some ((),(false,()))))) n j) (n:=N) (by omega)
  (body:=λj x v k=>bif !Wod m.1 x then some ((),(false,()))else k v) (K:=λ_ v=>(bif (Wh m.2)==(8:Int)then
  ((Zc N m.1 (0:Int) (1000000:Int)).bind λeV=>
  (some ((),(eV.2.1,()))))
  else
  (some ((),(false,())))))
  (λn i v hi=>by
   simp only[Zco,Wan hi,WD hi,WH hi,Wt (show i<4611686018427387904 by omega),Wa,Wad,WM,ret,Xd,Wod];cases WbE m.2[i].1<;>cases(decide (0<=m.2[i].2.1)&&decide (m.2[i].2.1<=m.1))<;>cases(decide (0<=m.2[i].2.2)&&decide (m.2[i].2.2<=99))<;>rfl)
  (λn v=>by simp[Zco,WaC,Xm,Wf]) ()
 refine h1.trans ?_;rw[WbH (p:=λx=>!Wod m.1 x) (E:=λ_=>some ((),(false,()))) m.2 0 () (λj x v k _=>rfl),Wdk];have e:((Wh m.2)==(8:Int))=decide (m.2.length=8):=by
  grind [Wh]
 simp only[e,WM,ret,Xd];cases m.2.all (Wod m.1)<;>cases decide (m.2.length=8)<;>simp
def wd0(v:Int):Wd:=(v,(0,0))
def WmF(l:List Int):Mm:=(0,l.map wd0)
theorem Wcv{α β R:Type}{body:Int->α->List β->(List β->Option R)->Option R}{K:Int->List β->Option R}{f:α->β}:∀(l:List α) (j:Nat) (o:List β),o.length+l.length<=1000000->
  (∀(j:Nat) x (v:List β) k,x∈l->body j x v k=bif WV (v.length+ [f x].length)then k (Xt v [f x])else none)->Wbt body K l j o=K ((j+l.length:Nat):Int) (o++l.map f)
 | [],j,o,_,_=>by simp[Wbt]
 |x::l,j,o,h,hb=>by
  rw[Xn]at h;rw[Wbt,hb j x o _ (Xh ..),WK (by simp;omega)];simp only[Wa];rw[Wcv l (j+1) _ (by grind [Xdv]) λj y v k hy=>hb j y v k (Xe _ hy)];rw[Xn,show j+1+l.length=j+(l.length+1) by omega];simp
theorem WhG{N:Nat}{l:List Int}(h:WfI l=true)(hN:1048576<N):Zev N l=some ((),(WmF l,(true,()))):=by
 have hl:l.length=8:=by grind [WfI]
 unfold Zev;simp only[WfR (show l.length<=1048576 by omega) hN,ret,Xd,h,Xx,Wf];have h1:=WT (l:=l) (V:=List Wd) (R:=Unit×(Mm×Kr)) (lp:=λn j v=>Zby N l (λaC aZ aU=>(some ((),(((0:Int),aU),(true,()))))) n j v) (n:=N) (by omega)
  (body:=λj x v k=>bif WV (v.length+ [wd0 x].length)then k (Xt v [wd0 x])else none) (K:=λ_ v=>some ((),(((0:Int),v),(true,()))))
  (λn i v hi=>by simp only[Zby,Wan hi,WD hi,WH hi,Wt (show i<4611686018427387904 by omega),Wa,wd0])
  (λn v=>by simp[Zby,WaC,Xm,Wf]) []
 refine h1.trans ?_;rw[Wcv (f:=wd0) l 0 [] (by simp;omega) (λj x v k _=>rfl)];rfl
theorem WL{m:Mm}(h:Waf m=true):m.2.length=8/\0<=m.1/\m.1<=1000000/\∀w∈m.2,Wod m.1 w=true:=by
 simp_all [Waf,Xg,Wg,Xab]
def tick(m:Mm):Mm×Int:=if m.1<1000000 then((m.1+1,m.2),m.1+1)else(m,0)
theorem Wkb{N:Nat}{m:Mm}(h:Waf m=true)(hN:1048576<N):Ziv N m=some ((),((tick m).1,((tick m).2,()))):=by
 obtain⟨h8,h0,h1,_⟩:=WL h;have e:Zba N m=ret m:=by grind [Zba,WK]
 unfold Ziv tick;simp only[e,WaO (show m.2.length<=1048576 by omega) hN,ret,Xd,h,Xx,Wf];by_cases hc:m.1<1000000
 .have e2:(m.1==1000000)=false:=by simp;omega
  have e3:Wl .i64 m.1 1=m.1+1:=W3 (by unfold I64;omega)
  grind
 grind
abbrev Pb:=Int×Int×Int×Int
def Wi3(p:Pb):Bool:=Wal p.1&&((decide (0<=p.2.1)&&decide (p.2.1<=4))&&((decide (0<=p.2.2.1)&&decide (p.2.2.1<=1000000))&&WbE p.2.2.2))
theorem Wlh{N:Nat}{p:Pb}:Zhg N p=ret (Wi3 p):=by
 unfold Zhg Wi3;simp only[Wai,WM,Wad,ret,Xd];cases Wal p.1<;>cases(decide (0<=p.2.1)&&decide (p.2.1<=4))<;>cases(decide (0<=p.2.2.1)&&decide (p.2.2.1<=1000000))<;>simp
def WaU(m:Mm)(rv:Int)(p:Pb):Pb:=
 let w:=Xc m.2 (Xa p.1) (0,(0,0))
 bif p.2.1==0 then(bif w.2.2==0 then(bif decide (w.2.1<=rv)then(p.1,(1,(w.2.1,p.2.2.2)))else(p.1,(4,p.2.2)))else(p.1,(4,p.2.2)))
 else bif p.2.1==1 then(p.1,(2,(p.2.2.1,w.1)))
 else bif p.2.1==2 then(bif w.2.2==0 then(bif w.2.1==p.2.2.1 then(p.1,(3,p.2.2))else(p.1,(4,p.2.2)))else(p.1,(4,p.2.2)))
 else p
theorem WsN{m:Mm}{p:Pb}(h:Waf m=true)(hp:Wi3 p=true):inb p.1 m.2.length=true:=by
 grind [WL,Wi3,Wal,inb]
theorem WdJ{N:Nat}{m:Mm}{rv:Int}{p:Pb}(h:Waf m=true)(hp:Wi3 p=true)(hN:1048576<N):Zcp N m rv p=ret (WaU m rv p):=by
 have h1:=(WL h).1;unfold Zcp WaU;simp only[WaO (show m.2.length<=1048576 by omega) hN,Wlh,ret,Xd,h,hp,Xx,Wf,WsN h hp,Wa];generalize Xc m.2 (Xa p.1) (0,(0,0))=w;cases p.2.1==0<;>cases p.2.1==1<;>cases p.2.1==2<;>cases w.2.2==0<;>cases decide (w.2.1<=rv)<;>cases w.2.1==p.2.2.1<;>rfl
def Wfa(l:List Rw)(c:Int):Nat->Option Int
 |0=>none
 |i+1=>if(Xc l i (0,0)).1=c then some (Xc l i (0,0)).2 else Wfa l c i
def Wb1(l:List Rw)(c:Int):Option Int:=if WaD l=true then Wfa l c l.length else none
def opI(o:Option Int):Option (Unit×Kl):=match o with
 |none=>some ((),((0:Int),(false,())))
 |some v=>some ((),(v,(true,())))
theorem Wg4{N:Nat}{l:List Rw}{c:Int}(hl:l.length<=1048576):∀(i n:Nat),i<n->i<=l.length->Zer N l c (λaw=>(some ((),(aw,(true,()))))) (λeB aC=>(some ((),((0:Int),(false,()))))) n ((i:Int) -1)=opI (Wfa l c i)
 |i,0,h,_=>by omega
 |0,n+1,h,_=>rfl
 |i+1,n+1,h,hi=>by
  have e:((i+1:Nat):Int) -1=(i:Int):=by omega
  have e1:decide ((i:Int)>=0)=true:=by simp
  have e2:WC .i64 (i:Int) 1=(i:Int) -1:=WaA (by unfold I64;omega);rw[e,Zer,e1,WD (show i<l.length by omega),e2,Wfa,Xk];simp only[Wa];by_cases hc:(Xc l i ((0:Int),(0:Int))).1=c
  .rw[We hc,beq_iff_eq.2 hc];rfl
  .rw[Wc hc,beq_eq_false_iff_ne.2 hc];exact Wg4 hl i n (by omega) (by omega)
theorem WmX{α:Type}{l:List α}(hl:l.length<=1048576):WC .i64 (Wh l) 1=((l.length:Nat):Int) -1:=by grind [Wh,WaA,I64]
theorem Wdj{N:Nat}{l:List Rw}{c:Int}(hl:l.length<=1048576)(hN:1048576<N):Ze2 N l c=opI (Wb1 l c):=by
 unfold Ze2 Wb1;simp only[WbF hl hN,ret,Xd];cases WaD l
 .rfl
 .simp only[Xx,Wf,W9,WmX hl];exact Wg4 hl l.length N (by omega) (Xm _)
end
section
def Who(l:List Rw)(o:List Rw)(c:Nat):List Rw:=match Wb1 l c with
 |none=>o
 |some v=>o++ [((c:Int),v)]
def WgC(l:List Rw):Nat->Nat->List Rw->List Rw
 |0,_,o=>o
 |j+1,c,o=>WgC l j (c+1) (Who l o c)
def WcI(l:List Rw):List Rw:=WgC l 8 0 []
theorem Wfy{N:Nat}{l:List Rw}(hl:l.length<=1048576)(hN:1048576<N):∀(j n c:Nat) (o:List Rw),c+j=8->j<n->o.length<=c->Zd7 N l (λaL aC bb=>(some ((),(bb,())))) n (c:Int) o=ret (WgC l j c o)
 |j,0,c,o,_,h,_=>by omega
 |0,n+1,c,o,h,_,_=>by
  have:c=8:=by omega
  subst this;rfl
 |j+1,n+1,c,o,h,h1,ho=>by
  have e:decide ((c:Int)<8)=true:=by simp;omega
  rw[Zd7,e,Wdj hl hN,Wt (by omega),WgC,Who];simp only[Wa];rcases Wb1 l c with _|v
  .exact Wfy hl hN j n (c+1) o (by omega) (by omega) (by omega)
  .have er:WV (o.length+ [((c:Int),v)].length)=true:=WK (by simp;omega);simp only[opI,Xd,Wa,er];exact Wfy hl hN j n (c+1) _ (by omega) (by omega) (by simp;omega)
theorem Wkx{l:List Rw}(h:WaD l=false):∀(j c:Nat) (o:List Rw),WgC l j c o=o
 |0,_,_=>rfl
 |j+1,c,o=>by
  have e:Wb1 l c=none:=by grind [Wb1]
  rw[WgC,Who,e];exact Wkx h j (c+1) o
theorem WcN{N:Nat}{l:List Rw}(hl:l.length<=1048576)(hN:1048576<N):Zeh N l=ret (WcI l):=by
 unfold Zeh;simp only[WbF hl hN,ret,Xd];cases h:WaD l
 .grind [WcI,Wkx]
 .exact Wfy hl hN 8 N 0 [] rfl (by omega) (by simp)
def fnd{α:Type}(p:α->Bool):List α->Nat->Option (Nat×α)
 | [],_=>none
 |x::l,j=>bif p x then some (j,x)else fnd p l (j+1)
theorem WeY{α V R:Type}{body:Int->α->V->(V->Option R)->Option R}{K:Int->V->Option R}{p:α->Bool}{E:Int->α->Option R}:∀(l:List α) (j:Nat) (v:V),(∀(j:Nat) x v k,x∈l->body j x v k=bif p x then E j x else k v)->
  Wbt body K l j v=match fnd p l j with|some r=>E r.1 r.2|none=>K ((j+l.length:Nat):Int) v
 | [],j,v,_=>rfl
 |x::l,j,v,h=>by
  rw[Wbt,h j x v _ (Xh ..),fnd,WeY l (j+1) v λj y v k hy=>h j y v k (Xe _ hy)]
  grind
theorem Wcs{α:Type}{p:α->Bool}:∀{l:List α} {j:Nat} {r:Nat×α},fnd p l j=some r->p r.2=true/\j<=r.1/\r.1<j+l.length/\l[r.1-j]?=some r.2
 | [],j,r,h=>by cases h
 |x::l,j,r,h=>by
  rw[fnd]at h;cases hp:p x
  .rw[hp]at h;obtain⟨h1,h2,h3,h4⟩:=Wcs (l:=l) h
   grind
  grind
theorem Wgc{α:Type}{p:α->Bool}:∀{l:List α} {j:Nat},fnd p l j=none->∀x∈l,p x=false
 | [],j,h=>by simp
 |x::l,j,h=>by
  rw[fnd]at h;cases hp:p x
  .rw[hp]at h;intro y hy;rcases Xq.1 hy with rfl|hy
   .exact hp
   .exact Wgc h y hy
  simp_all
abbrev En:=Int×Int×Int
def ent(b:List En)(c:Int):Option (Nat×En):=fnd (λe=>e.1==c) b 0
theorem Wet{N:Nat}{f:Y_Family}{c:Int}(hl:f.2.2.2.2.2.2.1.length<=1048576)(hN:1048576<N):Zbe N f c=ret (match ent f.2.2.2.2.2.2.1 c with|some r=>(r.1:Int)|none=>-1):=by
 unfold Zbe;show((Zj N f.2.2.2.2.2.2.1 c).bind _)=_;generalize f.2.2.2.2.2.2.1=b at hl;unfold Zj ent;have h1:=WT (l:=b) (V:=Unit) (R:=Ki×Ki) (lp:=λn j v=>Ze N b (λbD aP=>(some ((aP,()),(bD,())))) (λdH eC dm=>(some ((dm,()),((-1:Int),())))) n j c) (n:=N) (by omega)
  (body:=λj x v k=>bif x.1==c then some ((c,()),(j,()))else k v) (K:=λ_ v=>some ((c,()),((-1:Int),())))
  (λn i v hi=>by simp only[Ze,Zgf,Wan hi,WD hi,WH hi,Wt (show i<4611686018427387904 by omega),Wa,Xd])
  (λn v=>by simp[Ze,WaC,Xm,Wf]) ()
 rw[h1,WeY (p:=λe=>e.1==c) (E:=λj x=>some ((c,()),(j,()))) b 0 () (λj x v k _=>rfl)];cases fnd (λe:En=>e.1==c) b 0<;>rfl
theorem WaQ{N:Nat}{l:List Int}(h:l.length<=1048576):Zl N l=ret l:=by
 grind [Zl,WK]
theorem WcB{N:Nat}{l:List Rw}(h:l.length<=1048576):Zau N l=ret l:=by
 grind [Zau,WK]
end
section
def Ws3(f:Y_Family)(k:Nat)(x:Y_KidRun):Y_Family:=U9 (Xi (Q9 f) k x) f
def again(f:Y_Family)(x:Y_KidRun):Y_KidRun:=(0,(0,(f.2.1,(x.2.2.2.1+1,(0,(0,(P4 f,([],([],([],(false,(0,(0,(0,0))))))))))))))
def Wmp(x:Y_KidRun)(c:Int):Pb:=bif P10 x then Q11 x else(c,(0,(0,0)))
def Wht(m:Mm)(f:Y_Family)(x:Y_KidRun)(o:Int×Int×Int×Int):Y_Family×Y_KidRun:=
 match Wb1 (P8 x) o.2.2.1 with
 |some v=>(f,S6 (Xi (P6 x) (Xa o.2.1) v) (S1 (x.2.1+1) x))
 |none=>match ent (P6 f) o.2.2.1 with
  |some r=>bif decide (r.2.2.2>x.2.2.1)then(f,again f x)else(f,S7 (P7 x++ [r.2]) (S6 (Xi (P6 x) (Xa o.2.1) r.2.2.1) (S1 (x.2.1+1) x)))
  |none=>
   bif (WaU m f.1 (Wmp x o.2.2.1)).2.1==4 then(S3 true f,U11 (WaU m f.1 (Wmp x o.2.2.1)) (S10 true x))else
   bif (WaU m f.1 (Wmp x o.2.2.1)).2.1==3 then(f,U14 0 (S13 0 (S12 0 (S11 0 (S10 false (S7 (P7 x++ [(o.2.2.1,((WaU m f.1 (Wmp x o.2.2.1)).2.2.2,-1))]) (S6 (Xi (P6 x) (Xa o.2.1) (WaU m f.1 (Wmp x o.2.2.1)).2.2.2) (S1 (x.2.1+1) x))))))))else
   (f,U11 (WaU m f.1 (Wmp x o.2.2.1)) (S10 true x))
structure ReadOk(m:Mm)(f:Y_Family)(x:Y_KidRun)(o:Int×Int×Int×Int):Prop where
 mem:Waf m=true
 regs:(P6 x).length=4
 famr:(P4 f).length=4
 rA:0<=o.2.1/\o.2.1<=3
 cB:Wal o.2.2.1=true
 seen:(P7 x).length<=1000
 wr:(P8 x).length<=1000
 buf:(P6 f).length<=1000
 ver:∀e∈P6 f,0<=e.2.2
 since:0<=x.2.2.1
 pc:0<=x.2.1/\x.2.1<=1000
 tries:0<=x.2.2.2.1/\x.2.2.2.1<=100000
 pb:P10 x=true->Wi3 (Q11 x)=true
theorem ReadOk.pbO{m:Mm}{f:Y_Family}{x:Y_KidRun}{o:Int×Int×Int×Int}(h:ReadOk m f x o):Wi3 (Wmp x o.2.2.1)=true:=by
 unfold Wmp;cases hb:P10 x
 .have:=h.cB
  grind [Wi3,WbE]
 .exact h.pb hb
theorem Wqu{x:Y_KidRun}(h:P10 x=true):S10 true x=x:=by rw[←h];rfl
theorem WbU{a:Int}(h:0<=a/\a<=1000000):Wl .i64 a 1=a+1:=W3 (by unfold I64;omega)
theorem rgI{r:List Int}{a:Int}(h:r.length=4)(ha:0<=a/\a<=3):inb a r.length=true:=by grind [inb]
theorem Wdl{N:Nat}{f:Y_Family}{k:Nat}{x:Y_KidRun}(hk:k<(Q9 f).length)(h:(P4 f).length=4)(ht:0<=x.2.2.2.1/\x.2.2.2.1<=100000):
  Zar N (U9 (Xi (Q9 f) k x) f) (k:Int)=some ((Ws3 f k (again f x),()),()):=by
 have e0:Zl N (P4 (U9 (Xi (Q9 f) k x) f))=ret (P4 f):=WaQ (show(P4 f).length<=1048576 by omega);have e1:Q9 (U9 (Xi (Q9 f) k x) f)=Xi (Q9 f) k x:=rfl;have j8:k<(Xi (Q9 f) k x).length:=by simp_all
 unfold Zar;rw[e0,e1];have e2:Xc (Xi (Q9 f) k x) (Xa (k:Int)) d_KidRun=x:=by simp_all
 rw[e2,WD j8,WbU (by omega),Xk];simp only[Wa,ret,Xd,Xdt];rfl
theorem Wj6{N:Nat}{m:Mm}{f:Y_Family}{k:Nat}{o:Int×Int×Int×Int}(hk:k<(Q9 f).length)(h:ReadOk m f (Q9 f)[k] o)(hN:1048576<N):
  Zfw N f (k:Int) o m=some ((Ws3 (Wht m f (Q9 f)[k] o).1 k (Wht m f (Q9 f)[k] o).2,()),()):=by
 generalize hx:(Q9 f)[k]=x at h;have hw:=h.wr;have hs:=h.seen;have hb:=h.buf;have hr:=h.regs;have ex:Xc (Q9 f) (Xa (k:Int)) d_KidRun=x:=by rw[WH hk,hx]
 unfold Zfw Wht;simp only[Wn];rw[WD hk,ex,Xk,Wdj (show(P8 x).length<=1048576 by omega) hN,WbU (by have:=h.pc;omega)];rcases Wb1 (P8 x) o.2.2.1 with _|v
 .simp only[opI,Xd,Wf,Wa];have hE:Zbe N (U9 (Xi (Q9 f) k x) f) o.2.2.1=ret (match ent (P6 f) o.2.2.1 with|some r=>(r.1:Int)|none=>-1):=Wet (f:=U9 (Xi (Q9 f) k x) f) (show(P6 f).length<=1048576 by omega) hN;rw[hE,Wdl hk h.famr h.tries];rcases he:ent (P6 f) o.2.2.1 with _|r
  .simp only[ret,Xd,show decide ((-1:Int)>=0)=false from rfl,Wf];have hp:=h.pbO;cases hc:P10 x
   .have nR:Wmp x o.2.2.1=(o.2.2.1,(0,(0,0))):=by grind [Wmp]
    have hn:Zdk N o.2.2.1=some ((),((o.2.2.1,(0,(0,0))),(true,()))):=by
     unfold Zdk;simp only[Wai,ret,Xd,h.cB,Xx,Wf]
    rw[nR]at hp⊢;simp only[Bool.not_false,Wa,hn,WdJ h.mem hp hN,ret,Xd,rgI hr h.rA];generalize WaU m f.1 (o.2.2.1,(0,(0,0)))=q;rw[WK (by simp;omega)];cases q.2.1==4<;>cases q.2.1==3<;>rfl
   .have nR:Wmp x o.2.2.1=Q11 x:=by grind [Wmp]
    rw[nR]at hp⊢;simp only[Xx,Wf,WdJ h.mem hp hN,ret,Xd,rgI hr h.rA,Wa];generalize WaU m f.1 (Q11 x)=q;rw[WK (by simp;omega),Wqu hc];cases q.2.1==4<;>cases q.2.1==3<;>rfl
  .have hm:=Wcs he;have hi:r.1<(P6 f).length:=by omega
   have hg:(P6 f)[r.1]=r.2:=by
    simp_all
   have e2:decide (((r.1:Nat):Int)>=0)=true:=by simp
   simp only[ret,Xd,e2,Wa,WD hi,rgI hr h.rA];rw[WH hi,hg,WK (by simp;omega)];cases decide (r.2.2.2>x.2.2.1)<;>rfl
 .simp only[opI,Xd,Wa,rgI hr h.rA];rfl
end
section
def WoI{α:Type}(p:Nat->α->Bool):Nat->List α->Bool
 |_,[]=>false
 |j,x::l=>p j x||WoI p (j+1) l
theorem Wfu{α V R:Type}{body:Int->α->V->(V->Option R)->Option R}{K:Int->V->Option R}{p:Nat->α->Bool}{E:V->Option R}:∀(l:List α) (j:Nat) (v:V),(∀(j:Nat) x v k,x∈l->body j x v k=bif p j x then E v else k v)->
  Wbt body K l j v=bif WoI p j l then E v else K ((j+l.length:Nat):Int) v
 | [],j,v,_=>rfl
 |x::l,j,v,h=>by
  rw[Wbt,h j x v _ (Xh ..),Wfu l (j+1) v λj y v k hy=>h j y v k (Xe _ hy),WoI]
  grind
theorem WjP{α:Type}{p:Nat->α->Bool}:∀{l:List α} {j:Nat},WoI p j l=true↔∃i,∃h:i<l.length,p (j+i) l[i]=true
 | [],j=>by simp[WoI]
 |x::l,j=>by
  rw[WoI,Xcg,WjP];constructor
  .rintro(h|⟨i,hi,h⟩)
   .exact⟨0,by simp,by grind⟩
   .exact⟨i+1,by simp_all,by grind⟩
  grind
def opd(o:Opn):Int:=bif o.1==8 then 1 else bif o.1==9 then-1 else 0
theorem Whq(o:Opn):-1<=opd o/\opd o<=1:=by unfold opd;cases o.1==8<;>cases o.1==9<;>simp
def dep(l:List Opn)(j:Nat):Int:=((l.take j).map opd).sum
theorem WeJ(l:List Opn):dep l 0=0:=by simp[dep]
theorem WaL{l:List Opn}{j:Nat}(h:j<l.length):dep l (j+1)=dep l j+opd l[j]:=by
 grind [dep,Xby]
theorem WP{α:Type}{l:List α}{j:Nat}(h:j<l.length)(d:α):Xc l j d=l[j]:=by simp[h]
theorem Wdv(l:List Opn):∀j:Nat,-(j:Int)<=dep l j/\dep l j<=j
 |0=>by simp[dep]
 |j+1=>by
  have ih:=Wdv l j;by_cases h:j<l.length
  .have:=Whq l[j]
   grind [WaL]
  grind [dep,List.take_of_length_le]
def bal(l:List Opn):Bool:=!WoI (λj _=>decide (dep l (j+1)<0)) 0 l&&decide (dep l l.length=0)
theorem Wfg{N:Nat}{o:Opn}:Zge N o=ret (opd o):=by
 unfold Zge opd;cases o.1==8<;>cases o.1==9<;>rfl
theorem Wtl(x:Int):(x==(0:Int))=decide (x=0):=by by_cases h:x=0<;>simp[h]
theorem Wgs{N:Nat}{l:List Opn}(hl:l.length<=1048576)(hN:1048576<N):Zbw N l=ret (bal l):=by
 unfold Zbw bal;have h1:=WT (l:=l) (V:=Unit) (R:=Unit×Kr) (lp:=λn j _=>Za2 N l (some ((),(false,()))) (λqV aZ eJ=>some ((),(qV==(0:Int),()))) n (dep l j.toNat) j) (n:=N) (by omega)
  (body:=λj _ v k=>bif decide (dep l (j.toNat+1)<0)then some ((),(false,()))else k v) (K:=λj _=>some ((),(dep l j.toNat==(0:Int),())))
  (λn i v hi=>by
   have hb:=Wdv l i;have hs:=WaL hi;have ho:=Whq l[i];have e:Wl .i64 (dep l i) (opd l[i])=dep l (i+1):=by rw[W3 (by unfold I64;omega),hs]
   simp only[Za2,Wan hi,WD hi,WH hi,WP hi,Wt (show i<4611686018427387904 by omega),Wa,Wfg,ret,Xd,Xk,e])
  (λn v=>by simp[Za2,WaC,Xm,Wf]) ()
 have e0:dep l (Xa 0)=0:=WeJ l;simp only[e0]at h1;refine h1.trans ?_;rw[Wfu (p:=λj _=>decide (dep l (j+1)<0)) (E:=λ_=>some ((),(false,()))) l 0 () (λj x v k _=>rfl)];rw[Xbh,Xk,Wtl];cases WoI (λj _=>decide (dep l (j+1)<0)) 0 l<;>rfl
theorem WiS{N:Nat}{l:List Opn}(hl:l.length<=1048576)(hN:1048576<N){i:Nat}(hi:i<=l.length):Ze4 N l (i:Int)=ret (dep l i):=by
 unfold Ze4;have h1:=WT (l:=l) (V:=Unit) (R:=Unit×Ki) (lp:=λn j _=>Za5 N (i:Int) l (λoC bD gL=>some ((),(oC,()))) n (dep l (min j.toNat i)) j) (n:=N) (by omega)
  (body:=λj _ v k=>k v) (K:=λj _=>some ((),(dep l (min j.toNat i),())))
  (λn j v hj=>by
   have hb:=Wdv l j;have ho:=Whq l[j];simp only[Za5,Wan hj,WD hj,WH hj,WP hj,Wt (show j<4611686018427387904 by omega),Wa,Wfg,ret,Xd,Xk]
   grind [decide,min,Wl,dep,opd,W3,I64,WaL])
  (λn v=>by simp[Za5,WaC,Xm,Wf]) ()
 have e0:dep l (min (Xa 0) i)=0:=by
  simp[min,Xa,WeJ]
 simp only[e0]at h1;refine h1.trans ?_;rw[Wii (f:=λv _=>v) l 0 () (λj x v k _=>rfl),Xbh,Xk,Nat.min_eq_right hi]
def Wop(l:List Opn)(i:Nat)(o:Opn):Bool:=decide (i+1+o.2.2.1.toNat<=l.length)&&bal ((l.take (i+1+o.2.2.1.toNat)).drop (i+1))
def frk(l:List Opn)(j:Nat):Nat:=(l.take j).countP λo=>o.1==11
theorem WiK{l:List Opn}{j:Nat}(h:j<l.length):frk l (j+1)=frk l j+(l[j].1==11).toNat:=by
 unfold frk;rw[Xby h,List.countP_append,List.countP_singleton];cases l[j].1==11<;>rfl
theorem Wsv(l:List Opn)(j:Nat):frk l j<=l.length:=Xcr Xfq (by simp;omega)
def Wp3(l:List Opn)(i:Nat)(o:Opn):Bool:=
 !Wd9 o||((o.1==7)&& !Wop l i o)||((o.1==11)&&(decide (frk l (i+1)>1)|| !decide (dep l i=0)))
def Wqy(l:List Opn):Bool:=decide (l.length<=24)&&(bal l&& !WoI (Wp3 l) 0 l)
theorem Wqw{l:List Opn}{i:Nat}{o:Opn}(hl:l.length<=24)(hi:i<l.length)(ho:Wd9 o=true)(h7:o.1=7):
  Wl .i64 ((i+1:Nat):Int) o.2.2.1=((i+1+o.2.2.1.toNat:Nat):Int)/\1<=o.2.2.1/\o.2.2.1<=20:=by
 obtain⟨k,a,b,c⟩:=o;simp only at h7;subst h7;have:(WU a&&(decide (1<=b)&&decide (b<=20))&&(c==(0:Int)))=true:=ho;simp only[Xg,Wg]at this
 grind [W3,I64]
theorem Wom{l:List Opn}:bal l=true↔(∀i,i<l.length->0<=dep l (i+1))/\dep l l.length=0:=by
 unfold bal;rw[Xg,Xak,←Bool.not_eq_true,WjP,Wg];simp_all
theorem WfU{N:Nat}{l:List Opn}(hl:l.length<=1048576)(hN:1048576<N):Zbn N l=ret (Wqy l):=by
 unfold Zbn Wqy;by_cases h:l.length<=24
 .have e:decide (Wh l>24)=false:=by simp[Wh];omega
  rw[e];simp only[Wf,Wgs hl hN,ret,Xd,h,decide_true,Xcp];cases oU:bal l with
  |false=>rfl
  |true=>
   simp only[Xx,Wf,Xcp];have h1:=WT (l:=l) (V:=Unit) (R:=Unit×Kr) (lp:=λn j _=>Za0 N l (some ((),(false,()))) (λkm gd t22=>some ((),(true,()))) n ((frk l j.toNat:Nat):Int) j) (n:=N) (by omega)
    (body:=λj x v k=>bif Wp3 l j.toNat x then some ((),(false,()))else k v) (K:=λj _=>some ((),(true,())))
    (λn i v hi=>by
     have hf:=WiK hi;have fT:=Wsv l i;have e5:Wl .i64 ((frk l i:Nat):Int) 1=((frk l i+1:Nat):Int):=by grind [W3,I64]
     simp only[Za0,Wan hi,WD hi,WH hi,WP hi,Wa,Xk,Wd3,ret,Xd,e5];unfold Wp3;cases ho:Wd9 l[i]with
     |false=>rfl
     |true=>
      simp only[Xx,Wf,Xfu];by_cases h7:l[i].1=7
      .have b7:(l[i].1==7)=true:=by simp[h7]
       have bP:(l[i].1==11)=false:=by simp[h7]
       obtain⟨en,h1,h2⟩:=Wqw h hi ho h7;simp only[b7,bP,Wa,en,Wt (show i<4611686018427387904 by omega),Xgk,Xay,Xfn,Xcp,Bool.or_false]at hf⊢;simp only[hf];unfold Wop;by_cases hq:i+1+l[i].2.2.1.toNat<=l.length
       .have q1:decide (((i+1+l[i].2.2.1.toNat:Nat):Int)>Wh l)=false:=by simp[Wh];omega
        have q2:(((decide ((0:Int)<=((i+1+l[i].2.2.1.toNat:Nat):Int)))&&(decide (((i+1+l[i].2.2.1.toNat:Nat):Int)<=((Xb l):Int))))&&(decide ((0:Int)<=((i+1:Nat):Int)))&&(decide (((i+1:Nat):Int)<=((i+1+l[i].2.2.1.toNat:Nat):Int))))=true:=by simp;omega
        rw[q1,q2];simp only[Wf,Wa,Xk];rw[Wgs (by simp;omega) hN];simp_all
       grind [decide,Wh]
      .have b7:(l[i].1==7)=false:=by simp[h7]
       by_cases gR:l[i].1=11
       .have bP:(l[i].1==11)=true:=by simp[gR]
        simp only[b7,bP,Wa,Wf,Bool.toNat_true,Xfn,Xcp,Xfu,WiS hl hN (Nat.le_of_lt hi),ret,Xd,Wt (show i<4611686018427387904 by omega)]at hf⊢;simp only[hf];have ef:decide (((frk l i+1:Nat):Int)>1)=decide (frk l i+1>1):=by grind
        have e0:(dep l i !=0)= !decide (dep l i=0):=by rw[bne,Wtl]
        rw[ef,e0];cases decide (frk l i+1>1)<;>cases decide (dep l i=0)<;>rfl
       .have bP:(l[i].1==11)=false:=by simp[gR]
        simp only[b7,bP,Wa,Wf,Xgk,Xay,Xfn,Xfu,Wt (show i<4611686018427387904 by omega)]at hf⊢;simp_all)
    (λn v=>by simp[Za0,WaC,Xm,Wf]) ()
   have e1:((frk l (Xa 0):Nat):Int)=0:=by simp[frk]
   simp only[e1]at h1;refine h1.trans ?_;rw[Wfu (p:=Wp3 l) (E:=λ_=>some ((),(false,()))) l 0 () (λj x v k _=>by rw[Xk])];cases WoI (Wp3 l) 0 l<;>rfl
 grind [decide,Wh]
end
section
def stk(l:List Opn):Nat->List Nat
 |0=>[]
 |j+1=>bif (l.getD j (0,0,0,0)).1==8 then stk l j++ [j]else bif (l.getD j (0,0,0,0)).1==9 then(stk l j).dropLast else stk l j
theorem WjL{l:List Opn}{j:Nat}(h:j<l.length)(h8:l[j].1=8):stk l (j+1)=stk l j++ [j]:=by
 grind [stk,WP]
theorem Wkg{l:List Opn}{j:Nat}(h:j<l.length)(h9:l[j].1=9):stk l (j+1)=(stk l j).dropLast:=by
 grind [stk,WP]
theorem WeX{l:List Opn}{j:Nat}(h:j<l.length)(h8:l[j].1≠8)(h9:l[j].1≠9):stk l (j+1)=stk l j:=by
 grind [stk,WP]
theorem Wrz{o:Opn}(h:o.1=8):opd o=1:=by unfold opd;simp[h]
theorem WnP{o:Opn}(h:o.1=9):opd o= -1:=by unfold opd;simp[h]
theorem WrP{o:Opn}(h8:o.1≠8)(h9:o.1≠9):opd o=0:=by
 grind [opd]
theorem Wbs{α:Type}(l:List α):l= []\/∃q x,l=q++ [x]:=by
 rcases List.eq_nil_or_concat l with h|⟨q,x,h⟩
 .grind
 simp_all
def Up(l:List Opn):Prop:=∀i,i<l.length->0<=dep l (i+1)
theorem Up.at{l:List Opn}(h:Up l){j:Nat}(hj:j<=l.length):0<=dep l j:=by
 cases j with
 |zero=>rw[WeJ];omega
 |succ j=>exact h j hj
theorem Wa5{l:List Opn}(h:Up l):∀j,j<=l.length->((stk l j).length:Int)=dep l j
 |0,_=>by rw[WeJ];rfl
 |j+1,hj=>by
  have d4:j<l.length:=hj;have ih:=Wa5 h j (by omega);have hd:=WaL d4;have hu:=h j d4
  grind [WjL,Wrz,Xo,Wkg,WnP,Xek,WeX,WrP]
theorem Wi0{l:List Opn}:∀(j:Nat),j<=l.length->∀(s t:List Nat) (m:Nat),stk l j=s++m::t->
  m<j/\(∃h:m<l.length,l[m].1=8)/\stk l m=s/\∀i,m<i->i<=j->∃t',stk l i=s++m::t'
 |0,_,s,t,m,h=>by simp[stk]at h
 |j+1,hj,s,t,m,h=>by
  have d4:j<l.length:=hj;have ih:=Wi0 (l:=l) j (by omega);have next:∀t0,stk l j=s++m::t0->m<j+1/\(∃h:m<l.length,l[m].1=8)/\stk l m=s/\∀i,m<i->i<=j+1->∃t',stk l i=s++m::t':=λt0 h0=>by
   grind
  by_cases h8:l[j].1=8
  .rw[WjL d4 h8]at h;rcases Wbs t with rfl|⟨t0,x,rfl⟩
   .obtain⟨e1,e2⟩:=Xeb (h:stk l j++ [j]=s++ [m]) rfl
    grind [WjL]
   .have h2:stk l j++ [j]=(s++m::t0)++ [x]:=by rw[h,Xax,Xaq]
    obtain⟨e1,e2⟩:=Xeb h2 rfl
    grind [stk,WjL]
  .by_cases h9:l[j].1=9
   .rw[Wkg d4 h9]at h;rcases Wbs (stk l j)with h0|⟨q,x,hq⟩
    .simp_all
    simp_all
   grind [WeX]
theorem WmK{l:List Opn}{a b:Nat}(eU:a<=b)(hb:b<=l.length)(oU:bal ((l.take b).drop a)=true):stk l b=stk l a:=by
 obtain⟨h1,h2⟩:=Wom.1 oU;have aa:((l.take b).drop a).length=b-a:=by simp;omega
 have key:∀i,i<=b-a->∃t,stk l (a+i)=stk l a++t/\(t.length:Int)=dep ((l.take b).drop a) i:=by
  intro i
  induction i with
  |zero=>simp[WeJ]
  |succ i ih=>
   intro hi;obtain⟨t,uT,uU⟩:=ih (by omega);have ia:a+i<l.length:=by omega
   have qM:i<((l.take b).drop a).length:=by omega
   have hd:=WaL qM;have ei:((l.take b).drop a)[i]=l[a+i]:=by simp
   rw[ei]at hd;have hu:=h1 i qM;by_cases h8:l[a+i].1=8
   .grind [Xav,WjL,Wrz,Xo]
   .by_cases h9:l[a+i].1=9
    .grind [WnP,Xav,Wkg,List.dropLast_append_of_ne_nil,Xek]
    grind [Xav,WeX,WrP]
 obtain⟨t,uT,uU⟩:=key (b-a) (Xm _);simp_all
structure Mate(l:List Opn)(m k:Nat):Prop where
 lt:m<k
 len:k<l.length
 eq:dep l (k+1)=dep l m
 ne:∀i,m<=i->i<k->dep l (i+1)≠dep l m
 st:stk l (k+1)=stk l m
theorem WrV{l:List Opn}(hu:Up l)(h0:dep l l.length=0){j m:Nat}{s:List Nat}(hj:j<=l.length)(hs:stk l j=s++ [m]):∃k,j<=k/\Mate l m k/\stk l m=s:=by
 obtain⟨a,⟨hm,h8⟩,c,d⟩:=Wi0 j hj s [] m hs;have rN:=Wa5 hu m (by omega);have low:∀i,m<=i->i<j->dep l (i+1)≠dep l m:=λi h1 h2=>by
  grind [Wa5]
 have eS:=hu.at (show m<=l.length by omega);have ex:∀n i,l.length-i=n->j<=i->i<=l.length->(∀i',m<=i'->i'<i->dep l (i'+1)≠dep l m)->dep l m<dep l i->∃k,j<=k/\k<l.length/\dep l (k+1)=dep l m/\∀i',m<=i'->i'<k->dep l (i'+1)≠dep l m:=by
  intro n
  induction n with
  |zero=>grind
  |succ n ih=>
   intro i h1 h2 h3 h4 h5;have ia:i<l.length:=by omega
   by_cases he:dep l (i+1)=dep l m
   .grind
   .have hd:=WaL ia;have ho:=Whq l[i]
    grind
 have j9:dep l m<dep l j:=by
  grind [Wa5]
 obtain⟨k,k1,k2,k3,k4⟩:=ex _ j rfl (Xm _) hj low j9;have nC:m<k:=by omega
 have pre:∀n i,i=m+1+n->i<=k->∃t,stk l i=s++m::t:=by
  intro n
  induction n with
  |zero=>grind
  |succ n ih=>
   intro i h1 h2;obtain⟨t,ht⟩:=ih (m+1+n) rfl (by omega);have e:i=(m+1+n)+1:=by omega
   have ia:m+1+n<l.length:=by omega
   by_cases g8:l[m+1+n].1=8
   .grind [WjL]
   .by_cases g9:l[m+1+n].1=9
    .rcases Wbs t with rfl|⟨t0,x,rfl⟩
     .grind [Wkg,stk,Wa5]
     grind [Wkg,Xej]
    grind [WeX]
 obtain⟨t,ht⟩:=pre (k-m-1) k (by omega) (Xm _);have sX:=Wa5 hu k (by omega);have uV:=WaL k2;rw[ht]at sX;rw[c]at rN;simp at sX;have bv:=Whq l[k];have g9:l[k].1=9:=by
  grind [Wrz,WrP]
 have uW:t= []:=List.eq_nil_of_length_eq_zero (by omega);subst uW;refine⟨k,k1,⟨nC,k2,k3,k4,?_⟩,c⟩
 grind [Wkg]
theorem WmJ{l:List Opn}{m i:Nat}:((dep l (i+1) -dep l m)==(0:Int))=decide (dep l (i+1)=dep l m):=by
 grind
theorem WgU{N:Nat}{l:List Opn}{m k:Nat}(hl:l.length<=1048576)(hN:1048576<N)(h8:∃h:m<l.length,l[m].1=8)(hm:Mate l m k):Zfc N l (m:Int)=ret (k:Int):=by
 obtain⟨ni,h8⟩:=h8;unfold Zfc;have e1:WC .i64 (Wh l) 1=(l.length:Int) -1:=WaA (by unfold I64 Wh;omega);have e2:(decide (0<=(m:Int))&&decide ((m:Int)<=(l.length:Int) -1))=true:=by simp;omega
 have e3:(l[m].1 !=8)=false:=by simp[h8]
 simp only[WM,ret,Xd,e1,e2,Xx,Wf,WD ni,Wa,WH ni,e3];have key:∀(c n i:Nat),k-i=c->m<=i->i<=k->l.length-i<n->∀{R:Type} (K0:Int->Option R) (K1:Int->Int->Bool->Option R),Zcq N l K0 K1 n (dep l i-dep l m) (i:Int)=K0 k:=by
  intro c
  induction c with
  |zero=>
   intro n i h1 h2 h3 h4 R K0 K1;have:i=k:=by omega
   subst this;cases n with
   |zero=>omega
   |succ n=>
    have ia:=hm.len;have hd:=WaL ia;have hb:=Wdv l i;have je:=Wdv l m;have ho:=Whq l[i];have e:Wl .i64 (dep l i-dep l m) (opd l[i])=dep l (i+1) -dep l m:=by grind [W3,I64]
    simp only[Zcq,Wan ia,WD ia,WH ia,Wa,Wfg,ret,Xd,e];rw[WmJ];simp[hm.eq]
  |succ c ih=>
   intro n i h1 h2 h3 h4 R K0 K1;cases n with
   |zero=>omega
   |succ n=>
    have hk:=hm.len;have ia:i<l.length:=by omega
    have hd:=WaL ia;have hb:=Wdv l i;have je:=Wdv l m;have ho:=Whq l[i];have e:Wl .i64 (dep l i-dep l m) (opd l[i])=dep l (i+1) -dep l m:=by grind [W3,I64]
    have bZ:=hm.ne i h2 (by omega);simp only[Zcq,Wan ia,WD ia,WH ia,Wa,Wfg,ret,Xd,e,WmJ,bZ,decide_false,Wf,Wt (show i<4611686018427387904 by omega)];exact ih n (i+1) (by omega) (by omega) (by omega) (by omega) K0 K1
 have:=key (k-m) N m rfl (Xm _) (by have:=hm.lt;omega) (by omega) (R:=Unit×Ki) (λaZ=>some ((),(aZ,()))) (λoC uu gL=>some ((),((-1:Int),())));simp_all
end
section
theorem Wm1{N:Nat}{o:Opn}:∃t:Int,Zc0 N o=ret t/\Ze3 N o=ret t:=by
 unfold Zc0 Ze3;rw[WdI,Wd3];simp only[ret,Xd];cases Wd9 o
 .simp_all
 .cases o.1==5<;>cases o.1==6<;>cases o.1==12<;>cases o.1==13<;>cases o.1==14<;>cases o.1==15<;>cases o.1==16<;>exact⟨_,rfl,rfl⟩
noncomputable def WpS(o:Opn):Int:=match Zc0 0 o with|some (_,(t,_))=>t|none=>0
theorem WsM{N:Nat}{o:Opn}:Zc0 N o=Zc0 0 o:=by
 unfold Zc0;rw[WdI,WdI]
theorem We3{N:Nat}{o:Opn}:Zc0 N o=ret (WpS o):=by
 rw[WsM];obtain⟨t,h,_⟩:=Wm1 (N:=0) (o:=o);unfold WpS;rw[h]
theorem Wfb{N:Nat}{o:Opn}:Ze3 N o=ret (WpS o):=by
 obtain⟨t,h,h2⟩:=Wm1 (N:=N) (o:=o);rw[h2,←h,We3]
noncomputable def Whd(o:Opn):Bool:=(o.1==11)||(WpS o==2)
noncomputable def WlM(l:List Opn):Bool:=Wqy l&& !l.any Whd
theorem Wlr{N:Nat}{l:List Opn}(hl:l.length<=1048576)(hN:1048576<N):Zfb N l=ret (WlM l):=by
 unfold Zfb WlM;have h1:=WT (l:=l) (V:=Unit) (R:=Unit×Kr) (lp:=λn j v=>Zcn N l (some ((),(false,()))) (λaL aC=>((Zbn N l).bind λbW=>(some ((),(bW.2.1,()))))) n j) (n:=N) (by omega)
  (body:=λj x v k=>bif Whd x then some ((),(false,()))else k v) (K:=λ_ v=>ret (Wqy l))
  (λn i v hi=>by
   simp only[Zcn,Wan hi,WD hi,WH hi,Wt (show i<4611686018427387904 by omega),Wa,Wfb,ret,Xd,Whd];cases l[i].1==11<;>rfl)
  (λn v=>by simp_all [Zcn,WaC,Xm,Wf,WfU,ret,Xd]) ()
 refine h1.trans ?_;rw[WbH (p:=Whd) (E:=λ_=>some ((),(false,()))) l 0 () (λj x v k _=>rfl)];cases l.any Whd<;>cases Wqy l<;>rfl
def Wek(l:List Int):Bool:=decide (l.length=4)&&l.all WbE
theorem Wcf{N:Nat}{l:List Int}(hl:l.length<=1048576)(hN:1048576<N):Z5 N l 4=ret (Wek l):=by
 unfold Z5 Wek;have h1:=WT (l:=l) (V:=Unit) (R:=Unit×Kr) (lp:=λn j v=>Zai N l 4 (some ((),(false,()))) (λi8 t9=>some ((),((Wh l)==(4:Int),()))) n j) (n:=N) (by omega)
  (body:=λj x v k=>bif !WbE x then some ((),(false,()))else k v) (K:=λ_ v=>some ((),((Wh l)==(4:Int),())))
  (λn i v hi=>by simp only[Zai,Wan hi,WD hi,WH hi,Wt (show i<4611686018427387904 by omega),Wa,Wad,ret,Xd])
  (λn v=>by simp[Zai,WaC,Xm,Wf]) ()
 refine h1.trans ?_;rw[WbH (p:=λx=>!WbE x) (E:=λ_=>some ((),(false,()))) l 0 () (λj x v k _=>rfl),Wdk];have e:((Wh l)==(4:Int))=decide (l.length=4):=by
  grind [Wh]
 rw[e];cases l.all WbE<;>simp
end
section
section
variable{o:Opn}
theorem WpG(h:Wd9 o=true)(h1:1<=o.1)(h4:o.1<=4):WU o.2.1=true/\(o.1=1->WbE o.2.2.1=true)/\(o.1≠1->WU o.2.2.1=true/\WU o.2.2.2=true):=by
 obtain⟨k,a,b,c⟩:=o;simp only at h1 h4;have:k=1\/k=2\/k=3\/k=4:=by omega
 rcases this with rfl|rfl|rfl|rfl
 .have:(WU a&&WbE b&&(c==(0:Int)))=true:=h;simp_all
 all_goals
  have:(WU a&&WU b&&WU c)=true:=h;simp_all
theorem Ws1(h:Wd9 o=true)(h5:o.1=5):WU o.2.1=true/\Wal o.2.2.1=true:=by
 obtain⟨k,a,b,c⟩:=o;simp only at h5;subst h5;have:(WU a&&Wal b&&(c==(0:Int)))=true:=h;simp_all
theorem WsT(h:Wd9 o=true)(h5:o.1=6):Wal o.2.1=true/\WU o.2.2.1=true:=by
 obtain⟨k,a,b,c⟩:=o;simp only at h5;subst h5;have:(Wal a&&WU b&&(c==(0:Int)))=true:=h;simp_all
theorem WsV(h:Wd9 o=true)(h5:o.1=7):WU o.2.1=true/\1<=o.2.2.1/\o.2.2.1<=20:=by
 obtain⟨k,a,b,c⟩:=o;simp only at h5;subst h5;have:(WU a&&(decide (1<=b)&&decide (b<=20))&&(c==(0:Int)))=true:=h;simp_all
theorem WsS(h:Wd9 o=true)(h5:o.1=8):WU o.2.1=true:=by
 obtain⟨k,a,b,c⟩:=o;simp only at h5;subst h5;have:(WU a&&(b==(0:Int))&&(c==(0:Int)))=true:=h;simp_all
theorem Wl9(h:Wd9 o=true):1<=o.1/\o.1<=16:=by
 by_cases hk:1<=o.1/\o.1<=16
 .exact hk
 .exfalso;have e:∀n:Int,1<=n->n<=16->(o.1==n)=false:=λn h1 h2=>by simp;omega
  simp_all [Wd9]
end
theorem Waz{x:Int}{l:List Int}(h:WU x=true)(hl:l.length=4):inb x l.length=true:=by
 grind [WU,inb]
structure Vals(n:Nat)(l:List Int):Prop where
 len:l.length=n
 val:∀x∈l,0<=x/\x<=65535
theorem Vals.get{n:Nat}{l:List Int}(h:Vals n l)(i:Nat):0<=l.getD i 0/\l.getD i 0<=65535:=by
 by_cases hi:i<l.length
 .rw[WP hi];exact h.val _ (Xar hi)
 simp_all
theorem Vals.set{n:Nat}{l:List Int}(h:Vals n l)(i:Nat){x:Int}(hx:0<=x/\x<=65535):Vals n (l.set i x):=
 ⟨by rw[Xbb];exact h.len,λy hy=>by
  rcases List.mem_or_eq_of_mem_set hy with hy|hy
  .exact h.val y hy
  omega⟩
theorem WaJ{x:Int}:WbE x=true↔0<=x/\x<=65535:=by unfold WbE;simp
theorem WdM{l:List Int}:Wek l=true↔Vals 4 l:=by
 unfold Wek;rw[Xg,Wg,Xab];exact⟨λh=>⟨h.1,λx hx=>WaJ.1 (h.2 x hx)⟩,λh=>⟨h.len,λx hx=>WaJ.2 (h.val x hx)⟩⟩
theorem WmC{l:List Int}:WfI l=true↔Vals 8 l:=by
 unfold WfI;rw[Xg,Wg,Xab];exact⟨λh=>⟨h.1,λx hx=>WaJ.1 (h.2 x hx)⟩,λh=>⟨h.len,λx hx=>WaJ.2 (h.val x hx)⟩⟩
def Wnp(o:Opn)(r:List Int):List Int:=
 bif o.1==1 then r.set o.2.1.toNat o.2.2.1 else
 bif o.1==2 then r.set o.2.1.toNat ((r.getD o.2.2.1.toNat 0+r.getD o.2.2.2.toNat 0)%65536)else
 bif o.1==3 then r.set o.2.1.toNat ((r.getD o.2.2.1.toNat 0-r.getD o.2.2.2.toNat 0+65536)%65536)else
 bif decide (r.getD o.2.2.1.toNat 0<r.getD o.2.2.2.toNat 0)then r.set o.2.1.toNat 1 else r.set o.2.1.toNat 0
theorem WbC{x:Int}(h:0<=x):Wfi x 65536=x%65536:=by grind [Wfi,Xdp]
theorem WiU{o:Opn}{r:List Int}(h:Wd9 o=true)(h1:1<=o.1)(h4:o.1<=4)(hr:Vals 4 r):Vals 4 (Wnp o r):=by
 obtain⟨_,hv,_⟩:=WpG h h1 h4;unfold Wnp;cases e1:o.1==1
 .cases o.1==2
  .cases o.1==3
   .cases decide (r.getD o.2.2.1.toNat 0<r.getD o.2.2.2.toNat 0)
    .exact hr.set _ (by omega)
    .exact hr.set _ (by omega)
   .exact hr.set _ (by omega)
  .exact hr.set _ (by omega)
 .exact hr.set _ (WaJ.1 (hv (by simp_all)))
section
variable{N:Nat}{o:Opn}{r:List Int}
theorem WfF(hN:1048576<N)(h:Wd9 o=true)(h1:1<=o.1)(h4:o.1<=4)(hr:Vals 4 r):Zhs N o r=some ((),(Wnp o r,(true,()))):=by
 obtain⟨ha,hv,uX⟩:=WpG h h1 h4;unfold Zhs Zl;have e0:WV r.length=true:=WK (by rw[hr.len];omega);have e4:decide (o.1>4)=false:=by simp;omega
 have e5:Wek r=true:=WdM.2 hr;have ea:=Waz ha hr.len;have ez:inz 65536=true:=rfl;have gb:=hr.get o.2.2.1.toNat;have gc:=hr.get o.2.2.2.toNat;simp only[e0,Wa,Xd,Wd3,ret,h,Xx,Wf,e4,Wcf (l:=r) (by rw[hr.len];omega) hN,e5,ea,ez];unfold Wnp;by_cases k1:o.1=1
 .simp_all
 .have b:(o.1==1)=false:=by simp[k1]
  obtain⟨hb,hc⟩:=uX k1;rw[b];simp only[Wf,Waz hb hr.len,Waz hc hr.len,Wa,Xbb,ea];have s1:Wl .i64 (r.getD o.2.2.1.toNat 0) (r.getD o.2.2.2.toNat 0)=r.getD o.2.2.1.toNat 0+r.getD o.2.2.2.toNat 0:=W3 (by unfold I64;omega);have s2:WC .i64 (r.getD o.2.2.1.toNat 0) (r.getD o.2.2.2.toNat 0)=r.getD o.2.2.1.toNat 0-r.getD o.2.2.2.toNat 0:=WaA (by unfold I64;omega);have s3:Wl .i64 (r.getD o.2.2.1.toNat 0-r.getD o.2.2.2.toNat 0) 65536=r.getD o.2.2.1.toNat 0-r.getD o.2.2.2.toNat 0+65536:=W3 (by unfold I64;omega);rw[s1,s2,s3,WbC (by omega),WbC (by omega)];cases o.1==2
  .cases o.1==3
   .simp only[Wf,Wn,Xdt];cases decide (r.getD o.2.2.1.toNat 0<r.getD o.2.2.2.toNat 0)<;>rfl
   .rfl
  .rfl
end
def Whb(l:List Rw):Prop:=∀r∈l,(0<=r.1/\r.1<=7)/\0<=r.2/\r.2<=65535
theorem WjN{l:List Rw}:l.all Wmi=true↔Whb l:=by
 simp[Xab,Whb,Wmi,Wal,WbE]
theorem WbD{N:Nat}{l:List Int}(h:l.length<=1048576):Zl N l=ret l:=by
 simp_all [Zl,WqK,Wa]
end
section
structure Lin{α:Type}(cf:α->α->Int):Prop where
 irr:∀x,¬cf x x<0
 tr:∀x y z,cf x y<0->cf y z<0->cf x z<0
 nt:∀x y z,¬cf x y<0->¬cf y z<0->¬cf x z<0
theorem WrM:Lin cfE:=⟨λx=>by unfold cfE;omega,λx y z=>by unfold cfE;omega,λx y z=>by unfold cfE;omega⟩
theorem Wmr:Lin cfH:=⟨λx=>by rw[Wbx];omega,λx y z=>by simp only[Wbx];omega,λx y z=>by simp only[Wbx];omega⟩
def Ris{α:Type}(cf:α->α->Int)(l:List α):Prop:=l.Pairwise λa b=>cf a b<0
def Wes{α:Type}(cf:α->α->Int):List α->α->List α
 | [],e=>[e]
 |x::l,e=>if cf x e<0 then x::Wes cf l e else if cf e x<0 then e::x::l else e::l
def Ap{α:Type}(cf:α->α->Int)(x y:α):Prop:=cf x y<0\/cf y x<0
variable{α:Type}{cf:α->α->Int}
theorem Lin.ap(h:Lin cf){x y:α}(hn:¬Ap cf x y){z:α}:(cf x z<0↔cf y z<0)/\(cf z x<0↔cf z y<0):=by
 unfold Ap at hn;refine⟨⟨λa=>?_,λa=>?_⟩,⟨λa=>?_,λa=>?_⟩⟩
 .exact Classical.byContradiction λc=>h.nt x y z (λq=>hn (.inl q)) c a
 .exact Classical.byContradiction λc=>h.nt y x z (λq=>hn (.inr q)) c a
 .exact Classical.byContradiction λc=>h.nt z y x c (λq=>hn (.inr q)) a
 .exact Classical.byContradiction λc=>h.nt z x y c (λq=>hn (.inl q)) a
theorem WbI(hc:Lin cf){e x:α}:∀{l:List α},Ris cf l->(x∈Wes cf l e↔x=e\/(x∈l/\Ap cf x e))
 | [],_=>by simp[Wes]
 |y::l,h=>by
  have hl:=(Xw.1 h);unfold Wes;by_cases h1:cf y e<0
  .rw[We h1,Xq,WbI hc hl.2,Xq];refine⟨?_,?_⟩
   .rintro(rfl|h|h)
    .exact .inr ⟨.inl rfl,.inl h1⟩
    .grind
    simp_all
   grind
  .rw[Wc h1];by_cases h2:cf e y<0
   .rw[We h2];simp only[Xq];refine⟨?_,?_⟩
    .rintro(h|rfl|h)
     .grind
     .exact .inr ⟨.inl rfl,.inr h2⟩
     .exact .inr ⟨.inr h,.inr (hc.tr _ _ _ h2 (hl.1 x h))⟩
    grind
   .rw[Wc h2];simp only[Xq];have hn:¬Ap cf y e:=by unfold Ap;omega
    refine⟨?_,?_⟩
    .rintro(h|h)
     .grind
     .exact .inr ⟨.inr h,.inr ((hc.ap hn).1.1 (hl.1 x h))⟩
    grind
theorem Wb3(hc:Lin cf){e:α}:∀{l:List α},Ris cf l->Ris cf (Wes cf l e)
 | [],_=>by simp[Wes,Ris]
 |y::l,h=>by
  have hl:=(Xw.1 h);unfold Wes;by_cases h1:cf y e<0
  .rw[We h1];refine Xw.2 ⟨λx hx=>?_,Wb3 hc hl.2⟩;rcases(WbI hc hl.2).1 hx with rfl|hx
   .exact h1
   simp_all
  .rw[Wc h1];by_cases h2:cf e y<0
   .rw[We h2];refine Xw.2 ⟨λx hx=>?_,h⟩;rcases Xq.1 hx with rfl|hx
    .exact h2
    .exact hc.tr _ _ _ h2 (hl.1 x hx)
   .rw[Wc h2];have hn:¬Ap cf y e:=by unfold Ap;omega
    exact Xw.2 ⟨λx hx=>(hc.ap hn).1.1 (hl.1 x hx),hl.2⟩
theorem WlA(hc:Lin cf){L M:List α}(hM:Ris cf M)(hL:L.Pairwise (Ap cf))(hm:∀x,x∈L↔x∈M):Wdc cf L=M:=by
 have hn:∀{l:List α},l.Pairwise (Ap cf)->l.Nodup:=λh=>h.imp λ{a b} eU=>by
  rintro rfl;unfold Ap at eU;have:=hc.irr a;omega
 have hM':M.Pairwise (Ap cf):=hM.imp λh=>.inl h;have hp:L.Perm M:=(List.perm_ext_iff_of_nodup (hn hL) (hn hM')).2 hm;unfold Wdc;have h1:=List.pairwise_mergeSort (le:=λx y=>!WdF cf y x) (λa b c=>by
  simp only[WdF,Xak,Wp]
  exactλh1 h2=>hc.nt _ _ _ h2 h1) (λa b=>by
  simp only[WdF,Xcg,Xak,Wp];rcases Classical.em (cf b a<0)with h|h
  .exact .inr λh'=>hc.irr _ (hc.tr _ _ _ h h')
  omega) L
 refine List.Perm.eq_of_pairwise ?_ h1 (hM.imp λ{a b} h=>?_) ((Xfw _ _).trans hp)
 .intro a b ha hb h1 h2;simp only[WdF,Xak,Wp]at h1 h2;have uY:a∈M:=(hm a).1 ((Xfw _ _).mem_iff.1 ha);obtain⟨i,hi,rfl⟩:=Xcd uY;obtain⟨j,hj,rfl⟩:=Xcd hb;rcases Nat.lt_trichotomy i j with h|h|h
  .exact Ww (Xaw.1 hM i j hi hj h) h2
  .grind
  .exact Ww (Xaw.1 hM j i hj hi h) h1
 .simp only[WdF,Xak,Wp]
  exactλh'=>hc.irr _ (hc.tr _ _ _ h h')
theorem WmB{r:α->α->Bool}{R:α->α->Prop}(hr:∀a b,R a b->r a b=true):∀{l:List α},l.Pairwise R->WiF r l=true
 | [],_=>rfl
 |x::l,h=>by
  have:=Xw.1 h;simp only[WiF,Xg,Xab];exact⟨λy hy=>hr _ _ (this.1 y hy),WmB hr this.2⟩
theorem WmH(hc:Lin cf){rng:α->Bool}{N:Nat}{L M:List α}(hM:Ris cf M)(hL:L.Pairwise (Ap cf))(hm:∀x,x∈L↔x∈M)(hr:∀x∈L,rng x=true)(hl:L.length<=1048576):
  Zh5 rng cf N L=some ((M,()),()):=by
 grind [Zh5,Xab,WmB,Ap,Whl,WdF,decide_eq_true,WlA]
theorem Wj8(hc:Lin cf){L:List α}{e:α}{i:Nat}(hL:L.Pairwise (Ap cf))(hi:i<L.length)(hk:¬Ap cf L[i] e):(L.set i e).Pairwise (Ap cf)/\∀x,x∈L.set i e↔x=e\/(x∈L/\Ap cf x e):=by
 have rO:∀{z},Ap cf L[i] z↔Ap cf e z:=λ{z}=>by unfold Ap;rw[(hc.ap hk).1,(hc.ap hk).2]
 have uZ:∀{a b:α},Ap cf a b->Ap cf b a:=λh=>h.symm;have hG:=Xaw.1 hL;refine⟨?_,λx=>⟨λhx=>?_,?_⟩⟩
 .rw[Xaw]
  grind
 .obtain⟨j,hj,rfl⟩:=Xcd hx
  grind
 .rintro(rfl|⟨hx,jT⟩)
  .grind [Xfs]
  .obtain⟨j,hj,rfl⟩:=Xcd hx;refine Xfs.2 ⟨j,by simp_all,?_⟩;rw[Xci,Wc]
   grind
theorem Wik{L:List α}{e:α}(hL:L.Pairwise (Ap cf))(hk:∀x∈L,Ap cf x e):(L++ [e]).Pairwise (Ap cf)/\∀x,x∈L++ [e]↔x=e\/(x∈L/\Ap cf x e):=by
 grind
end
section
abbrev KM:=Int×Int×List Int
structure Kd where
 phase:Int:=0
 pc:Int:=0
 since:Int:=0
 tries:Int:=0
 pos:Int:=0
 out:Int:=0
 regs:List Int:=[]
 seen:List En:=[]
 writes:List Rw:=[]
 marks:List KM:=[]
 busy:Bool:=false
 pb:Pb:=(0,0,0,0)
def Kd.e(x:Kd):Y_KidRun:=(x.phase,x.pc,x.since,x.tries,x.pos,x.out,x.regs,x.seen,x.writes,x.marks,x.busy,x.pb)
structure Fm where
 rv:Int:=0
 clock:Int:=0
 owner:Int:=0
 lost:Bool:=false
 regs:List Int:=[]
 start:List Rw:=[]
 buf:List En:=[]
 order:List Int:=[]
 reads:List Rw:=[]
 kids:List Kd:=[]
def Fm.e(f:Fm):Y_Family:=(f.rv,f.clock,f.owner,f.lost,f.regs,f.start,f.buf,f.order,f.reads,f.kids.map Kd.e)
def zOp:Opn:=(0,0,0,0)
def opN(code:List Opn)(i:Int):Opn:=Xc code i.toNat zOp
def Wcu{α:Type}(l:List α)(i:Int)(d:α):α:=Xc l i.toNat d
def Wll{α:Type}(l:List α)(i:Int)(x:α):List α:=Xi l i.toNat x
def Wf5{α:Type}(l:List α)(d:α):α:=Xc l (l.length-1) d
def WhF(l:List Opn)(m:Nat):Nat:=((Xbt l.length).find? λk=>decide (m<=k)&&decide (dep l (k+1)=dep l m)).getD 0
def Fm.again(f:Fm)(x:Kd):Kd:={since:=f.clock,tries:=x.tries+1,regs:=f.regs}
def Wf9(m:Mm)(f:Fm)(x:Kd)(o:Opn):Fm×Kd:=
 match Wb1 x.writes o.2.2.1 with
 |some v=>(f,{x with regs:=Wll x.regs o.2.1 v,pc:=x.pc+1})
 |none=>match ent f.buf o.2.2.1 with
  |some r=>if r.2.2.2>x.since then(f,f.again x)else(f,{x with regs:=Wll x.regs o.2.1 r.2.2.1,seen:=x.seen++ [r.2],pc:=x.pc+1})
  |none=>
   let p:=WaU m f.rv (if x.busy then x.pb else(o.2.2.1,0,0,0))
   if p.2.1=4 then({f with lost:=true},{x with busy:=true,pb:=p})
   else if p.2.1=3 then(f,{x with regs:=Wll x.regs o.2.1 p.2.2.2,seen:=x.seen++ [(o.2.2.1,p.2.2.2,-1)],busy:=false,pb:=(0,0,0,0),pc:=x.pc+1})
   else(f,{x with busy:=true,pb:=p})
def Wk8(x:Kd)(code:List Opn):Kd:=
 if x.marks.length=0 then{x with writes:=[],out:=2,phase:=1}else
 let q:=Wf5 x.marks (0,0,[])
 {x with marks:=x.marks.dropLast,regs:=Wll q.2.2 (opN code q.1).2.1 0,writes:=x.writes.take q.2.1.toNat,pc:=WhF code q.1.toNat+1}
def Wqe(m:Mm)(f:Fm)(x:Kd)(code:List Opn):Fm×Kd:=
 if x.pc>=code.length then(f,{x with out:=1,phase:=1})else
 let o:=opN code x.pc
 if o.1=5 then Wf9 m f x o else
 if o.1=10 then(f,Wk8 x code)else
 if o.1=6 then(f,{x with writes:=x.writes++ [(o.2.1,Wcu x.regs o.2.2.1 0)],pc:=x.pc+1})else
 if o.1=7 then(f,{x with pc:=(if Wcu x.regs o.2.1 0=0 then x.pc+o.2.2.1 else x.pc)+1})else
 if o.1=8 then(f,{x with marks:=x.marks++ [(x.pc,(x.writes.length:Int),x.regs)],pc:=x.pc+1})else
 if o.1=9 then(f,{x with marks:=x.marks.dropLast,regs:=Wll x.regs (opN code (Wf5 x.marks (0,0,[])).1).2.1 1,pc:=x.pc+1})else
 (f,{x with regs:=Wnp o x.regs,pc:=x.pc+1})
def Wc3(c:Int)(b:List En)(rows:List Rw):List En:=rows.foldl (λb r=>Wes cfE b (r.1,r.2,c)) b
def WaK(l:List En):List Rw:=(l.filter λe=>decide (e.2.2= -1)).map λe=>(e.1,e.2.1)
def Wnb(f:Fm)(x:Kd)(k:Nat):Fm×Kd:=
 ({f with clock:=f.clock+1,buf:=Wc3 (f.clock+1) f.buf (WcI x.writes),reads:=f.reads++WaK x.seen,order:=f.order++ [(k:Int)],owner:=0},{x with phase:=3,pos:=0,marks:=[]})
def Wtj(b:List En)(c:Int):Int:=match ent b c with
 |some r=>r.2.2.2
 |none=>-1
def WrX(m:Mm)(f:Fm)(x:Kd)(k:Nat)(code:List Opn):Fm×Kd:=
 if x.phase=0 then Wqe m f x code else
 if x.phase=1 then(if f.owner=0 then({f with owner:=(k:Int)+1},{x with phase:=2})else(f,x))else
 if x.phase=2 then
  if x.pos=x.seen.length then Wnb f x k else
  let s:=Wcu x.seen x.pos (0,0,0)
  if Wtj f.buf s.1=s.2.2 then(f,{x with pos:=x.pos+1})else({f with owner:=0},f.again x)
 else(f,x)
def Fm.put(q:Fm×Kd)(k:Nat):Fm:={q.1 with kids:=q.1.kids.set k q.2}
def Wl1(m:Mm)(f:Fm)(k:Nat)(code:List Opn):Fm:=
 if f.lost then f else Fm.put (WrX m f (f.kids.getD k {}) k code) k
def Wdb(rv:Int)(regs:List Int)(writes:List Rw)(kids:Nat):Fm:=
 {rv:=rv,regs:=regs,start:=WcI writes,buf:=(WcI writes).map λr=>(r.1,r.2,0),kids:=Xr kids {regs:=regs}}
def Weo(f:Fm):Bool:=f.kids.all λx=>decide (x.phase=3)
def Wgu(f:Fm):List Rw:=f.buf.map λe=>(e.1,e.2.1)
def Wrh(x:Kd):Int:=if x.out=1/\Wek x.regs=true then Wcu x.regs 0 0 else 0
def Whe(f:Fm):List Int:=
 if Wek f.regs=true/\f.kids.length<=3 then f.kids.map Wrh++f.regs.drop f.kids.length else []
structure KMk(code:List Opn)(pc:Nat)(marks:List KM)(wl:Nat):Prop where
 pcs:marks.map (·.1)=(stk code pc).map λm:Nat=>(m:Int)
 each:∀q∈marks,Vals 4 q.2.2/\0<=q.2.1/\q.2.1<=q.1/\q.2.1<=wl
 up:marks.Pairwise λa b=>a.2.1<=b.2.1
structure KOk(code:List Opn)(c n:Int)(x:Kd):Prop where
 pc:0<=x.pc/\x.pc<=code.length
 regs:Vals 4 x.regs
 rows:Whb x.writes
 wl:(x.writes.length:Int)<=x.pc
 sl:(x.seen.length:Int)<=x.pc
 since:0<=x.since/\x.since<=c
 tries:0<=x.tries/\x.tries<=n
 seen:∀e∈x.seen,(0<=e.1/\e.1<=7)/\(0<=e.2.1/\e.2.1<=65535)/\ -1<=e.2.2/\e.2.2<=x.since
 marks:x.phase=0->KMk code x.pc.toNat x.marks x.writes.length
 pos:0<=x.pos/\x.pos<=x.seen.length
 pb:x.busy=true->Wi3 x.pb=true
 phase:0<=x.phase/\x.phase<=3
 out:0<=x.out/\x.out<=2
structure FOk(codes:List (List Opn))(n:Int)(f:Fm):Prop where
 len:f.kids.length=codes.length
 regs:Vals 4 f.regs
 clock:0<=f.clock/\f.clock=f.order.length
 done:f.order.length=f.kids.countP λx=>decide (x.phase=3)
 bufR:Ris cfE f.buf
 bufE:∀e∈f.buf,(0<=e.1/\e.1<=7)/\(0<=e.2.1/\e.2.1<=65535)/\0<=e.2.2/\e.2.2<=f.clock
 readsL:f.reads.length<=24*f.order.length
 readsE:Whb f.reads
 owner:0<=f.owner/\f.owner<=f.kids.length
 kid:∀(k:Nat) (h:k<f.kids.length),KOk (codes.getD k []) f.clock n f.kids[k]
end
section
structure CC(l:List Opn):Prop where
 len:l.length<=24
 up:Up l
 z:dep l l.length=0
 ok:∀i (h:i<l.length),Wd9 l[i]=true/\1<=l[i].1/\l[i].1<=16
 sk:∀i (h:i<l.length),l[i].1=7->i+1+l[i].2.2.1.toNat<=l.length/\bal ((l.take (i+1+l[i].2.2.1.toNat)).drop (i+1))=true
 fk:∀i (h:i<l.length),l[i].1=11->dep l i=0/\frk l (i+1)<=1
structure KC(l:List Opn):Prop extends CC l where
 k10:∀i (h:i<l.length),l[i].1<=10
theorem Wo7{o:Opn}(h:Wd9 o=true)(fK:12<=o.1):WpS o=2:=by
 have pO:=Wl9 h;have key:=We3 (N:=0) (o:=o);unfold Zc0 at key;rw[WdI,h]at key;simp only[ret,Xd,Xx,Wf]at key;have e5:(o.1==5)=false:=by simp;omega
 have e6:(o.1==6)=false:=by simp;omega
 rw[e5,e6]at key;simp only[Wf]at key;have:o.1=12\/o.1=13\/o.1=14\/o.1=15\/o.1=16:=by omega
 rcases this with hk|hk|hk|hk|hk<;> · simp_all
theorem Wst{l:List Opn}(h:Wqy l=true):CC l:=by
 unfold Wqy at h;simp only[Xg,Wg,Xak]at h;obtain⟨h1,h2,h3⟩:=h;obtain⟨b1,b2⟩:=Wom.1 h2;have hb:∀i (hi:i<l.length),Wp3 l i l[i]=false:=λi hi=>by
  rw[Xgf];intro hb;have:WoI (Wp3 l) 0 l=true:=WjP.2 ⟨i,hi,by simp_all⟩;simp_all
 have bv:∀i (hi:i<l.length),Wd9 l[i]=true:=λi hi=>by
  grind [Wp3,Xdn,Xes]
 refine⟨h1,b1,b2,λi hi=>⟨bv i hi,Wl9 (bv i hi)⟩,λi hi h7=>?_,λi hi gR=>?_⟩
 .grind [Wp3,Xdn,Xes,Wop]
 grind [Wp3,Xdn,Xes]
theorem Ws6{l:List Opn}(h:WlM l=true):KC l:=by
 unfold WlM at h;simp only[Xg,Xak]at h;have hc:=Wst h.1;refine⟨hc,λi hi=>?_⟩;have ik:Whd l[i]=false:=by
  grind
 unfold Whd at ik;simp only[Xdn]at ik;by_cases cG:l[i].1<=10
 .exact cG
 .exfalso;by_cases gR:l[i].1=11
  .simp_all
  .have:=Wo7 (hc.ok i hi).1 (by omega);simp_all
theorem WnG{l:List Opn}{m k:Nat}(h:Mate l m k):WhF l m=k:=by
 unfold WhF;have:(Xbt l.length).find? (λk=>decide (m<=k)&&decide (dep l (k+1)=dep l m))=some k:=by
  rw[List.find?_range_eq_some];have:=h.lt;refine⟨?_,List.mem_range.2 h.len,λj hj=>?_⟩
  .simp[h.eq];omega
  .simp only[Xak,Bool.and_eq_false_iff,Wp];by_cases hm:m<=j
   .exact .inr (h.ne j hm hj)
   omega
 grind
theorem Wj9{l:List Opn}{i:Int}(h0:0<=i)(h:i<l.length):∃(n:Nat) (hn:n<l.length),i=n/\opN l i=l[n]:=by
 grind [opN,WP]
theorem WiZ{l:List Opn}{n:Nat}(h:n<l.length):opN l (n:Int)=l[n]:=by
 grind [opN,WP]
theorem Wnk{α:Type}(q:List α)(x d:α):Wf5 (q++ [x]) d=x:=by unfold Wf5;simp
theorem WkU{M:Type}{g:M->Int}{l:List Opn}{pc:Nat}{marks:List M}{d:M}(hc:CC l)(hp:pc<=l.length)(hm:marks.map g=(stk l pc).map λm:Nat=>(m:Int))(bZ:marks.length≠0):
  ∃(m:Nat) (q:List M) (x:M),marks=q++ [x]/\Wf5 marks d=x/\g x=(m:Int)/\(∃hm:m<l.length,l[m].1=8)/\m<pc/\Mate l m (WhF l m)/\pc<=WhF l m/\stk l m=(stk l pc).dropLast/\q.map g=(stk l m).map λm:Nat=>(m:Int):=by
 rcases Wbs marks with h0|⟨q,x,hq⟩
 .simp_all
 .rw[hq,Xy,Xag,Xbu]at hm;rcases Wbs (stk l pc)with h0|⟨t,m,ht⟩
  .simp_all
  .rw[ht,Xy,Xag,Xbu]at hm;obtain⟨e1,e2⟩:=Xeb hm rfl;injection e2 with e2;obtain⟨k,k1,k2,k3⟩:=WrV hc.up hc.z hp ht;have k4:=WnG k2;obtain⟨ad,h8,_,_⟩:=Wi0 pc hp t [] m ht
   grind [Wnk,Xej]
end
section
theorem WpD{α β:Type}(g:α->β)(l:List α)(i:Nat)(d:α):Xc (l.map g) i (g d)=g (l.getD i d):=by
 simp_all
theorem kdP(x:Kd):x.e.1=x.phase/\x.e.2.1=x.pc/\x.e.2.2.1=x.since/\x.e.2.2.2.1=x.tries/\P4 x.e=x.pos/\P5 x.e=x.out/\P6 x.e=x.regs/\P7 x.e=x.seen/\P8 x.e=x.writes/\P9 x.e=x.marks/\P10 x.e=x.busy:=⟨rfl,rfl,rfl,rfl,rfl,rfl,rfl,rfl,rfl,rfl,rfl⟩
theorem fmP(f:Fm):f.e.1=f.rv/\f.e.2.1=f.clock/\f.e.2.2.1=f.owner/\f.e.2.2.2.1=f.lost/\P4 f.e=f.regs/\P5 f.e=f.start/\P6 f.e=f.buf/\P7 f.e=f.order/\P8 f.e=f.reads/\Q9 f.e=f.kids.map Kd.e:=⟨rfl,rfl,rfl,rfl,rfl,rfl,rfl,rfl,rfl,rfl⟩
theorem U9e(f:Fm)(k:Nat)(x:Kd):U9 (Xi (f.kids.map Kd.e) k x.e) f.e=Fm.e {f with kids:=f.kids.set k x}:=by
 unfold U9 Fm.e;rw[Xfd]
theorem Woc{f f':Fm}{k:Nat}{x':Kd}{y:Y_KidRun}{g:Y_Family}(hy:y=x'.e)(hg:g=f'.e)(hf:f'.kids=f.kids):
  some ((U9 (Xi (f.kids.map Kd.e) k y) g,()),())=some (((Fm.put (f',x') k).e,()),()):=by
 subst hy hg;rw[←hf,U9e];rfl
theorem Wok(m:Mm)(f:Fm)(x:Kd)(o:Opn):Wht m f.e x.e o=((Wf9 m f x o).1.e,(Wf9 m f x o).2.e):=by
 unfold Wht Wf9;have h1:P8 x.e=x.writes:=rfl;have h2:P6 f.e=f.buf:=rfl;rw[h1,h2];rcases Wb1 x.writes o.2.2.1 with _|v
 .rcases ent f.buf o.2.2.1 with _|r
  .have h3:Wmp x.e o.2.2.1=if x.busy then x.pb else(o.2.2.1,0,0,0):=by
    unfold Wmp;have:P10 x.e=x.busy:=rfl;rw[this];cases x.busy<;>rfl
   simp only[h3];have h4:f.e.1=f.rv:=rfl;rw[h4];generalize WaU m f.rv (if x.busy then x.pb else(o.2.2.1,0,0,0))=p;by_cases e4:p.2.1=4
   .have:(p.2.1==4)=true:=by simp_all
    rw[We e4,this];rfl
   .have:(p.2.1==4)=false:=by simp_all
    rw[Wc e4,this];by_cases e3:p.2.1=3
    .have:(p.2.1==3)=true:=by simp_all
     rw[We e3,this];rfl
    .have:(p.2.1==3)=false:=by simp_all
     rw[Wc e3,this];rfl
  .simp only;have h5:x.e.2.2.1=x.since:=rfl;rw[h5];by_cases hv:r.2.2.2>x.since
   .rw[We hv,Wb hv];rfl
   .rw[Wc hv,Ws hv];rfl
 .rfl
theorem Wn0(m:Mm)(f:Fm)(x:Kd)(o:Opn):(Wf9 m f x o).1.kids=f.kids:=by
 grind [Wf9,Wb1,ent,WaU]
variable{N:Nat}{codes:List (List Opn)}{n:Int}{f:Fm}{k:Nat}{code:List Opn}{m:Mm}{x:Kd}
theorem FOk.buf8(h:FOk codes n f):f.buf.length<=8:=by
 have:∀(l:List En) (c:Int),Ris cfE l->(∀e∈l,c<=e.1/\e.1<=7)->(l.length:Int)<=8-c\/l= []:=by
  intro l
  induction l with
  |nil=>simp_all
  |cons a l ih=>
   intro c hr hb;left;have h1:=Xw.1 hr;have ha:=hb a (Xh ..);rcases ih (a.1+1) h1.2 (λe he=>⟨by grind [cfE],(hb e (Xe _ he)).2⟩)with h|h
   .grind
   grind
 rcases this f.buf 0 h.bufR (λe he=>by have:=(h.bufE e he).1;omega)with h|h
 .omega
 simp_all
theorem Wox(hF:FOk codes n f)(hx:KOk code f.clock n x)(ct:KC code)(hm:Waf m=true)(hn:n<=100000){o:Opn}(hA:WU o.2.1=true)(hB:Wal o.2.2.1=true):ReadOk m f.e x.e o where
 mem:=hm
 regs:=hx.regs.len
 famr:=hF.regs.len
 rA:=by grind [WU]
 cB:=hB
 seen:=by have:=hx.sl;have:=hx.pc;have:=ct.len;show x.seen.length<=1000;omega
 wr:=by have:=hx.wl;have:=hx.pc;have:=ct.len;show x.writes.length<=1000;omega
 buf:=by have:=hF.buf8;show f.buf.length<=1000;omega
 ver:=λe he=>(hF.bufE e he).2.2.1
 since:=hx.since.1
 pc:=by have:=hx.pc;have:=ct.len;show 0<=x.pc/\x.pc<=1000;omega
 tries:=by have:=hx.tries;show 0<=x.tries/\x.tries<=100000;omega
 pb:=hx.pb
theorem Wy{α:Type}{a b:Int}{x y:α}:(bif a==b then x else y)=if a=b then x else y:=by
 simp_all
theorem WaF{α:Type}{p:Prop}[Decidable p]{x y:α}:(bif decide p then x else y)=if p then x else y:=by
 simp_all
theorem Wi7(ct:KC code)(hx:KOk code f.clock n x)(h0:x.phase=0)(hN:1048576<N):Zfn N x.e code=some (((Wk8 x code).e,()),()):=by
 unfold Zfn Wk8;obtain⟨k0,k1,k2,k3,k4,k5,k6,k7,k8,k9,k10⟩:=kdP x;have bA:=hx.pc;have aa:=ct.len;have hM:=hx.marks h0;simp only[Wn,k9,k8,k1,Wy];by_cases hz:x.marks.length=0
 .rw[We (by unfold Wh;omega),We hz];rfl
 .rw[Wc (by unfold Wh;omega),Wc hz];obtain⟨j,q,y,e1,e2,e3,⟨hj,h8⟩,rP,dV,jB,e5,e6⟩:=WkU (d:=((0,0,[]):KM)) ct.toCC (show x.pc.toNat<=code.length by omega) hM.pcs hz;have rN:x.marks.length=q.length+1:=by grind
  have u0:q.length<=24:=by
   have:=Wk Xb e6;simp only[Xad]at this;have h2:=Wa5 ct.up j (by omega);have h3:=(Wdv code j).2;omega
  have i1:WC .i64 (Wh x.marks) 1=(q.length:Int):=by grind [WmX]
  have hy:y∈x.marks:=by grind
  obtain⟨y1,y2,y3,y4⟩:=hM.each y hy;have g1:Xc x.marks (Xa (q.length:Int)) ((0,0,[]):KM)=y:=by grind
  have t1:Xal (Xa (q.length:Int)) x.marks=x.marks.dropLast:=by rw[e1];simp
  have mU:=hx.wl;rw[i1,WW,Wb (show q.length<x.marks.length by omega)];simp only[Wa,g1,t1,e2];have b1:((decide ((0:Int)<=(q.length:Int))&&decide ((q.length:Int)<=(x.marks.length:Int)))&&decide ((q.length:Int)<=((Xa (q.length:Int):Nat):Int)))=true:=by
   simp;omega
  rw[b1];simp only[Wa];rw[WaQ (by rw[y1.len];omega)];simp only[ret,Xd];rw[e3,WW,Wb hj];have o1:Xc code (Xa ((j:Nat):Int)) ((0,0,0,0):Opn)=code[j]:=WH hj _;have o2:opN code ((j:Nat):Int)=code[j]:=WiZ hj;have hr:=WsS (ct.ok j hj).1 h8;simp only[Wa,o1,o2];rw[Waz hr y1.len];have b2:(decide ((0:Int)<=y.2.1)&&decide (y.2.1<=(x.writes.length:Int)))=true:=by simp;omega
  rw[b2];simp only[Wa];rw[WcB (by grind),WgU (by omega) hN ⟨hj,h8⟩ dV];simp only[ret,Xd];rw[WbU (by have:=dV.len;omega),Xk];rfl
theorem WlK(hk:k<f.kids.length)(hm:Waf m=true)(ct:KC code)(hF:FOk codes n f)(bh:codes.getD k []=code)(aI:f.kids[k]=x)(h0:x.phase=0)(hn:n<=100000)(hN:1048576<N):
  Zf8 N f.e (k:Int) code m=some (((Fm.put (Wqe m f x code) k).e,()),()):=by
 have hx:=hF.kid k hk;rw[bh,aI]at hx;obtain⟨k0,k1,k2,k3,k4,k5,k6,k7,k8,k9,k10⟩:=kdP x;obtain⟨f0,f1,f2,f3,f4,f5,f6,f7,f8,f9⟩:=fmP f;have bA:=hx.pc;have aa:=ct.len;have mU:=hx.wl;have e2:Xc (f.kids.map Kd.e) (Xa (k:Int)) d_KidRun=x.e:=by
  simp_all
 have e3:U9 (Xi (f.kids.map Kd.e) (Xa (k:Int)) x.e) f.e=f.e:=by
  rw[Xk,U9e,←aI,Xbi]
 unfold Zf8 Wqe;simp only[Wn,f9,Xad];rw[WW,Wb hk];simp only[Wa,e2,e3,k1,k6,k8,k9,WaF,Wy,show Wh code=(code.length:Int)from rfl];by_cases eS:x.pc>=code.length
 .rw[We eS,We eS];rw[Xk];exact Woc rfl rfl rfl
 .rw[Wc eS,Wc eS];obtain⟨j,hj,ej,eo⟩:=Wj9 (l:=code) bA.1 (by omega);have rQ:Xc code (Xa x.pc) ((0,0,0,0):Opn)=opN code x.pc:=rfl;have di:inb x.pc code.length=true:=by grind [WW,decide_eq_true]
  rw[di];obtain⟨ok,o1,gN⟩:=ct.ok j hj;have bF:=ct.k10 j hj;simp only[Wa,rQ];rw[←eo]at ok o1 bF;generalize opN code x.pc=o at*;have cU:=hx.regs.len;rw[Xk];rw[WbU (show 0<=x.pc/\x.pc<=1000000 by omega)];by_cases h5:o.1=5
  .rw[We h5,We h5];have:=Ws1 ok h5;have kE:=Wox hF hx ct hm hn this.1 this.2;have e4:(Q9 f.e)[k]'(by simp_all)=x.e:=by
    simp_all
   have:=Wj6 (m:=m) (o:=o) (f:=f.e) (k:=k) (by simp_all) (by simp_all) hN;rw[this];simp only[Xd,e4,Wok];unfold Ws3;have iU:=Wn0 m f x o;rw[show Q9 (Wf9 m f x o).1.e=f.kids.map Kd.e by rw[←iU];rfl];exact Woc rfl rfl iU
  .rw[Wc h5,Wc h5];by_cases cG:o.1=10
   .rw[We cG,We cG,Wi7 ct hx h0 hN];exact Woc rfl rfl rfl
   .rw[Wc cG,Wc cG];by_cases h6:o.1=6
    .rw[We h6,We h6];rw[Waz (WsT ok h6).2 cU,WK (by simp;omega)];exact Woc rfl rfl rfl
    .rw[Wc h6,Wc h6];by_cases h7:o.1=7
     .rw[We h7,We h7];have h:=WsV ok h7;rw[Waz h.1 cU,W3 (a:=x.pc) (b:=o.2.2.1) (by unfold I64;omega),WbU (a:=x.pc+o.2.2.1) (by omega)];by_cases hg:Xc x.regs (Xa o.2.1) 0=0
      .rw[We hg,We (show Wcu x.regs o.2.1 0=0 from hg)];simp only[Wa];exact Woc rfl rfl rfl
      .rw[Wc hg,Wc (show¬Wcu x.regs o.2.1 0=0 from hg)];simp only[Wa];exact Woc rfl rfl rfl
     .rw[Wc h7,Wc h7];by_cases h8:o.1=8
      .rw[We h8,We h8];rw[WaQ (by omega)];have ni:x.marks.length<=24:=by
        have:=Wk Xb (hx.marks h0).pcs;simp only[Xad]at this;have h2:=Wa5 ct.up x.pc.toNat (by omega);have h3:=(Wdv code x.pc.toNat).2;omega
       simp only[ret,Xd];rw[WK (by simp;omega)];exact Woc rfl rfl rfl
      .rw[Wc h8,Wc h8];by_cases h9:o.1=9
       .rw[We h9,We h9];have hM:=hx.marks h0;have hz:x.marks.length≠0:=by
         intro hz;have h1:=Wk Xb hM.pcs;simp only[Xad,hz]at h1;have h2:=Wa5 ct.up j (by omega);have h3:=ct.up j hj
         grind [WaL,WnP,Xk]
        obtain⟨i,q,y,e1,u3,u4,⟨hi,u5⟩,rP,dV,jB,e5,e6⟩:=WkU (d:=((0,0,[]):KM)) ct.toCC (show x.pc.toNat<=code.length by omega) hM.pcs hz;have rN:x.marks.length=q.length+1:=by grind
        have ni:x.marks.length<=24:=by
         have:=Wk Xb (hx.marks h0).pcs;simp only[Xad]at this;have h2:=Wa5 ct.up x.pc.toNat (by omega);have h3:=(Wdv code x.pc.toNat).2;omega
        have i1:WC .i64 (Wh x.marks) 1=(q.length:Int):=by grind [WmX]
        have g1:Xc x.marks (Xa (q.length:Int)) ((0,0,[]):KM)=y:=by grind
        have t1:Xal (Xa (q.length:Int)) x.marks=x.marks.dropLast:=by rw[e1];simp
        rw[i1,WW,Wb (show q.length<x.marks.length by omega)];have b1:(decide ((0:Int)<=(q.length:Int))&&decide ((q.length:Int)<=(x.marks.length:Int)))=true:=by simp;omega
        rw[b1];simp only[Wa,g1,t1,u3];rw[u4,WW,Wb hi];have o1:Xc code (Xa ((i:Nat):Int)) ((0,0,0,0):Opn)=opN code (i:Int):=rfl;have hr:=WsS (ct.ok i hi).1 u5;rw[←WiZ hi]at hr;simp only[Wa,o1];rw[Waz hr cU];exact Woc rfl rfl rfl
       .rw[Wc h9,Wc h9];rw[WfF hN ok (by omega) (by omega) hx.regs];exact Woc rfl rfl rfl
end
section
theorem WhT{l:List Rw}{c v:Int}:∀(i:Nat),i<=l.length->Wfa l c i=some v->(c,v)∈l
 |0,_,h=>by simp[Wfa]at h
 |i+1,hi,h=>by
  unfold Wfa at h;rw[WP (show i<l.length by omega)]at h;by_cases hc:l[i].1=c
  .grind
  .rw[Wc hc]at h;exact WhT i (by omega) h
theorem Whc{l:List Rw}{c v:Int}(h:Wb1 l c=some v):WaD l=true/\(c,v)∈l:=by
 unfold Wb1 at h;by_cases hr:WaD l=true
 .rw[We hr]at h;exact⟨hr,WhT _ (Xm _) h⟩
 simp_all
theorem WmV(l:List Rw):∀(j c:Nat) (o:List Rw),WgC l j c o=o++(Xgi c j).filterMap λc:Nat=>(Wb1 l (c:Int)).map λv=>((c:Int),v)
 |0,c,o=>by simp[WgC]
 |j+1,c,o=>by
  rw[WgC,WmV l j,List.range'_succ,List.filterMap_cons];unfold Who;cases h:Wb1 l (c:Int)<;>simp
theorem Wmb(l:List Rw):WcI l=(Xgi 0 8).filterMap λc:Nat=>(Wb1 l (c:Int)).map λv=>((c:Int),v):=by simp[WcI,WmV]
theorem WmO{l:List Rw}{r:Rw}:r∈WcI l↔(0<=r.1/\r.1<=7)/\Wb1 l r.1=some r.2:=by
 rw[Wmb,List.mem_filterMap];constructor
 .rintro⟨c,hc,h⟩;rw[Xge]at hc;cases hl:Wb1 l (c:Int)with
  |none=>simp_all
  |some v=>
   grind
 .rintro⟨h0,h⟩;refine⟨r.1.toNat,Xge.2 (by omega),?_⟩
  grind
theorem Wlq(l:List Rw):(WcI l).Pairwise λa b=>a.1<b.1:=by
 rw[Wmb,List.pairwise_filterMap];refine List.Pairwise.imp ?_ (List.pairwise_lt_range' (s:=0) (n:=8));simp_all
theorem We9(l:List Rw):(WcI l).length<=8:=by
 grind [Wmb,Xcr,List.length_filterMap_le]
theorem WeP{l:List Rw}:Whb (WcI l):=by
 intro r hr;obtain⟨h0,h1⟩:=WmO.1 hr;obtain⟨h2,h3⟩:=Whc h1;unfold WaD at h2;simp only[Xg]at h2;have:=(WjN.1 h2.2) _ h3;omega
end
section
theorem WdZ{p:Pb}:Wi3 p=true↔(0<=p.1/\p.1<=7)/\(0<=p.2.1/\p.2.1<=4)/\(0<=p.2.2.1/\p.2.2.1<=1000000)/\0<=p.2.2.2/\p.2.2.2<=65535:=by
 simp[Wi3,Wal,WbE,Xg,Wg]
theorem WfP{c:Int}{w:Wd}:Wod c w=true↔(0<=w.1/\w.1<=65535)/\(0<=w.2.1/\w.2.1<=c)/\0<=w.2.2/\w.2.2<=99:=by
 simp[Wod,WbE,Xg,Wg]
theorem Wpz{m:Mm}(h:Waf m=true){c:Int}(hc:0<=c/\c<=7):Wod m.1 (Wcu m.2 c (0,0,0))=true:=by
 grind [WL,Wcu,WP,Xar]
theorem Wku{m:Mm}{rv:Int}{p:Pb}(hm:Waf m=true)(hp:Wi3 p=true):Wi3 (WaU m rv p)=true/\(WaU m rv p).1=p.1:=by
 have dI:=WdZ.1 hp;have hw:=Wpz hm dI.1;rw[WfP]at hw;obtain⟨h8,h0,h1,_⟩:=WL hm;unfold WaU;simp only[Wy,WaF];have hw2:Wod m.1 (Xc m.2 (Xa p.1) (0,0,0))=true:=Wpz hm dI.1
 grind [WfP,WdZ]
section
variable{code:List Opn}{pc dF wl jt:Nat}{ms q:List KM}{y:KM}{c c' n n':Int}{x:Kd}{f:Fm}{m:Mm}{codes:List (List Opn)}{k:Nat}
theorem KMk.mono(h:KMk code pc ms wl)(hs:stk code dF=stk code pc)(hw:wl<=jt):KMk code dF ms jt:=
 ⟨by rw[hs];exact h.pcs,λq hq=>by have:=h.each q hq;grind,h.up⟩
theorem KMk.begin(h:KMk code pc ms wl)(hp:pc<code.length)(h8:code[pc].1=8){regs:List Int}(hr:Vals 4 regs)(hw:wl<=pc):KMk code (pc+1) (ms++ [((pc:Int),(wl:Int),regs)]) wl:=by
 refine⟨?_,?_,?_⟩
 .rw[WjL hp h8,Xy,Xy,h.pcs];rfl
 .intro q hq;rcases Xl.1 hq with hq|hq
  .exact h.each q hq
  simp_all
 .refine Xah.2 ⟨h.up,List.pairwise_singleton _ _,λa ha b hb=>?_⟩;rw[Xaf]at hb;subst hb;exact(h.each a ha).2.2.2
theorem KMk.drop(h:KMk code pc ms wl)(nq:ms=q++ [y])(hs:stk code dF=(stk code pc).dropLast)(hw:y.2.1<=jt):KMk code dF q jt:=by
 subst nq;have h1:=h.pcs;refine⟨?_,λa ha=>?_,(Xah.1 h.up).1⟩
 .grind
 .have h2:=h.each a (List.mem_append_left _ ha);have h3:=(Xah.1 h.up).2.2 a ha y (by simp)
  grind
theorem KOk.wk(h:KOk code c n x)(hc:c<=c')(hn:n<=n'):KOk code c' n' x:=
 {h with since:=by have:=h.since;omega,tries:=by have:=h.tries;omega}
theorem WmT(h:KOk code c n x)(hc:c=f.clock)(hf:Vals 4 f.regs)(h0:0<=f.clock):KOk code c (n+1) (f.again x) where
 pc:=⟨Xcv _,by show(0:Int)<=_;omega⟩
 regs:=hf
 rows:=λr hr=>by cases hr
 wl:=Xcv _
 sl:=Xcv _
 since:=by show 0<=f.clock/\f.clock<=c;omega
 tries:=by have:=h.tries;show 0<=x.tries+1/\x.tries+1<=n+1;omega
 seen:=λe he=>by cases he
 marks:=λ_=>⟨by show([]:List KM).map _=(stk code 0).map _;rfl,(λq hq=>by cases hq),List.Pairwise.nil⟩
 pos:=⟨Xcv _,Xcv _⟩
 pb:=λh=>by cases h
 phase:=by show(0:Int)<=0/\(0:Int)<=3;omega
 out:=by show(0:Int)<=0/\(0:Int)<=2;omega
theorem KMk.len(hc:CC code)(h:KMk code pc ms wl)(hp:pc<=code.length):(ms.length:Int)=dep code pc:=by
 have:=Wk Xb h.pcs;simp only[Xad]at this;rw[this,Wa5 hc.up pc hp]
theorem KOk.on(bG:CC code)(h:KOk code c n x)(h0:x.phase=0){i:Nat}(hi:i<code.length)(bA:x.pc=i){regs:List Int}{seen:List En}{writes:List Rw}{marks:List KM}{busy:Bool}{pb:Pb}{dF:Nat}(hp:dF<=code.length)(ad:i<dF)(hr:Vals 4 regs)(aJ:Whb writes)(mU:writes.length<=x.writes.length+1)(gz:seen.length<=x.seen.length+1)
  (hs:∀e∈seen,(0<=e.1/\e.1<=7)/\(0<=e.2.1/\e.2.1<=65535)/\ -1<=e.2.2/\e.2.2<=x.since) (sT:x.seen.length<=seen.length) (hm:KMk code dF marks writes.length) (hb:busy=true->Wi3 pb=true):
  KOk code c n {x with regs:=regs,seen:=seen,writes:=writes,marks:=marks,busy:=busy,pb:=pb,pc:=(dF:Int)}:=
 {h with
  pc:=by simp_all
  regs:=hr
  rows:=aJ
  wl:=by have:=h.wl;grind
  sl:=by have:=h.sl;grind
  seen:=hs
  marks:=λ_=>by simp_all
  pos:=by have:=h.pos;grind
  pb:=hb}
theorem WqJ(bG:CC code)(hF:FOk codes n f)(h:KOk code f.clock n x)(h0:x.phase=0){i:Nat}(hi:i<code.length)(bA:x.pc=i)(h5:code[i].1=5)(hm:Waf m=true):
  KOk code f.clock (n+1) (Wf9 m f x code[i]).2/\((Wf9 m f x code[i]).1=f\/(Wf9 m f x code[i]).1={f with lost:=true}):=by
 have bv:=Ws1 (bG.ok i hi).1 h5;have hB:0<=code[i].2.2.1/\code[i].2.2.1<=7:=by grind [Wal]
 have hM:=h.marks h0;rw[bA,Xk]at hM;have bs:stk code (i+1)=stk code i:=WeX hi (by omega) (by omega);have bQ:x.pc+1=((i+1:Nat):Int):=by omega
 unfold Wf9;cases hl:Wb1 x.writes code[i].2.2.1 with
 |some v=>
  have hv:=h.rows _ (Whc hl).2;refine⟨?_,.inl rfl⟩;simp only[bQ];exact(KOk.on bG h h0 hi bA (by omega) (by omega) (h.regs.set _ hv.2) h.rows (by omega) (by omega) h.seen (by omega) (hM.mono bs (by omega)) h.pb).wk (by omega) (by omega)
 |none=>
  simp only;cases he:ent f.buf code[i].2.2.1 with
  |some r=>
   simp only;have hr:=Wcs he;have nf:r.2∈f.buf:=by
    grind
   have gX:=hF.bufE _ nf;split
   .exact⟨WmT h rfl hF.regs hF.clock.1,.inl rfl⟩
   .refine⟨?_,.inl rfl⟩;simp only[bQ];refine(KOk.on bG h h0 hi bA (by omega) (by omega) (h.regs.set _ gX.2.1) h.rows (by omega) (by simp) (λe g0=>?_) (by simp) (hM.mono bs (by omega)) h.pb).wk (by omega) (by omega);rcases Xl.1 g0 with g0|g0
    .exact h.seen e g0
    grind
  |none=>
   simp only;have ie:Wi3 (if x.busy=true then x.pb else(code[i].2.2.1,0,0,0))=true:=by
    split
    .exact h.pb ‹_›
    grind [WdZ]
   have cq:=Wku (rv:=f.rv) hm ie;generalize WaU m f.rv (if x.busy=true then x.pb else(code[i].2.2.1,0,0,0))=p at*;have hp:=WdZ.1 cq.1;split
   .refine⟨?_,.inr rfl⟩;exact KOk.wk (n:=n) {h with pb:=λ_=>cq.1} (by omega) (by omega)
   .split
    .refine⟨?_,.inl rfl⟩;simp only[bQ];refine(KOk.on bG h h0 hi bA (by omega) (by omega) (h.regs.set _ hp.2.2.2) h.rows (by omega) (by simp) (λe g0=>?_) (by simp) (hM.mono bs (by omega)) (λh=>by cases h)).wk (by omega) (by omega);rcases Xl.1 g0 with g0|g0
     .exact h.seen e g0
     .rw[Xaf]at g0;subst g0;exact⟨hB,hp.2.2.2,by simp,by have:=h.since;grind⟩
    .refine⟨?_,.inl rfl⟩;exact KOk.wk (n:=n) {h with pb:=λ_=>cq.1} (by omega) (by omega)
theorem Wsb(ct:KC code)(hF:FOk codes n f)(h:KOk code f.clock n x)(h0:x.phase=0)(hm:Waf m=true):
  KOk code f.clock (n+1) (Wqe m f x code).2/\((Wqe m f x code).1=f\/(Wqe m f x code).1={f with lost:=true}):=by
 have bG:=ct.toCC;unfold Wqe;split
 .refine⟨?_,.inl rfl⟩;exact KOk.wk (n:=n) {h with marks:=λh=>by simp_all,phase:=by simp_all,out:=by simp_all} (by omega) (by omega)
 .obtain⟨i,hi,bA,ho⟩:=Wj9 (l:=code) h.pc.1 (by omega);simp only[ho];obtain⟨ok,o1,gN⟩:=ct.ok i hi;have bF:=ct.k10 i hi;have hM:=h.marks h0;rw[bA,Xk]at hM;have bQ:x.pc+1=((i+1:Nat):Int):=by omega
  have mU:x.writes.length<=i:=by have:=h.wl;omega
  split
  .grind [WqJ]
  .split
   .refine⟨?_,.inl rfl⟩;unfold Wk8;split
    .refine KOk.wk (n:=n) {h with rows:=(λr hr=>by cases hr),wl:=by simp_all,marks:=λh=>by simp_all,phase:=by simp_all,out:=by simp_all} (by omega) (by omega)
    .obtain⟨j,q,y,e1,e2,e3,⟨hj,h8⟩,rP,dV,jB,e5,e6⟩:=WkU (d:=((0,0,[]):KM)) bG (show i<=code.length by omega) hM.pcs ‹_›;obtain⟨y1,y2,y3,y4⟩:=hM.each y (by grind);simp only[e2,e3,Xk,←Int.natCast_succ];have hl:=dV.len;have ht:(Xal y.2.1.toNat x.writes).length=y.2.1.toNat:=by simp_all
     refine(KOk.on bG h h0 hi bA (dF:=WhF code j+1) (by omega) (by omega) (y1.set _ (by omega)) (λr hr=>h.rows r (List.mem_of_mem_take hr)) (by omega) (by omega) h.seen (by omega) ?_ h.pb).wk (by omega) (by omega);rw[show x.marks.dropLast=q by grind];exact hM.drop e1 (by rw[dV.st];exact e5) (by omega)
   .split
    .refine⟨?_,.inl rfl⟩;have hk:=WsT ok ‹_›;have bs:stk code (i+1)=stk code i:=WeX hi (by omega) (by omega);simp only[bQ];refine(KOk.on bG h h0 hi bA (by omega) (by omega) h.regs (λr hr=>?_) (by simp) (by omega) h.seen (by omega) (hM.mono bs (by simp)) h.pb).wk (by omega) (by omega);rcases Xl.1 hr with hr|hr
     .exact h.rows r hr
     .rw[Xaf]at hr;subst hr;have:=hk.1;unfold Wal at this;exact⟨by simp_all,h.regs.get _⟩
    .split
     .refine⟨?_,.inl rfl⟩;obtain⟨s1,s2⟩:=ct.sk i hi ‹_›;have hk:=WsV ok ‹_›;have bs:stk code (i+1)=stk code i:=WeX hi (by omega) (by omega);have mV:stk code (i+1+code[i].2.2.1.toNat)=stk code i:=by grind [WmK]
      by_cases hg:Wcu x.regs code[i].2.1 0=0
      .simp only[We hg,show x.pc+code[i].2.2.1+1=((i+1+code[i].2.2.1.toNat:Nat):Int) by omega];exact(KOk.on bG h h0 hi bA s1 (by omega) h.regs h.rows (by omega) (by omega) h.seen (by omega) (hM.mono mV (by omega)) h.pb).wk (by omega) (by omega)
      .simp only[Wc hg,bQ];exact(KOk.on bG h h0 hi bA (by omega) (by omega) h.regs h.rows (by omega) (by omega) h.seen (by omega) (hM.mono bs (by omega)) h.pb).wk (by omega) (by omega)
     .split
      .refine⟨?_,.inl rfl⟩;simp only[bQ];rw[bA];exact(KOk.on bG h h0 hi bA (by omega) (by omega) h.regs h.rows (by omega) (by omega) h.seen (by omega) (hM.begin hi ‹_› h.regs mU) h.pb).wk (by omega) (by omega)
      .split
       .refine⟨?_,.inl rfl⟩;have hz:x.marks.length≠0:=by
         have h1:=hM.len bG (by omega);have h3:=bG.up i hi
         grind [WaL,WnP]
        obtain⟨j,q,y,e1,e2,e3,⟨hj,h8⟩,rP,dV,jB,e5,e6⟩:=WkU (d:=((0,0,[]):KM)) bG (show i<=code.length by omega) hM.pcs hz;obtain⟨y1,y2,y3,y4⟩:=hM.each y (by grind);simp only[bQ];refine(KOk.on bG h h0 hi bA (by omega) (by omega) (h.regs.set _ (by omega)) h.rows (by omega) (by omega) h.seen (by omega) ?_ h.pb).wk (by omega) (by omega);rw[show x.marks.dropLast=q by grind];exact hM.drop e1 (Wkg hi ‹_›) (by omega)
       .refine⟨?_,.inl rfl⟩;have bs:stk code (i+1)=stk code i:=WeX hi (by omega) (by omega);simp only[bQ];exact(KOk.on bG h h0 hi bA (by omega) (by omega) (WiU ok (by omega) (by omega) h.regs) h.rows (by omega) (by omega) h.seen (by omega) (hM.mono bs (by omega)) h.pb).wk (by omega) (by omega)
end
end
section
def Wem(c:Int)(v:List En)(r:Rw):List En:=match ent v r.1 with
 |some a=>v.set a.1 (r.1,r.2,c)
 |none=>v++ [(r.1,r.2,c)]
theorem Wle(c:Int)(v:List En)(r:Rw):(Wem c v r).length<=v.length+1:=by
 unfold Wem;split<;>simp
theorem apE{a b:En}:Ap cfE a b↔a.1≠b.1:=by unfold Ap cfE;omega
theorem WoJ{c:Int}{L M:List En}{r:Rw}(hL:L.Pairwise (Ap cfE))(hM:Ris cfE M)(hm:∀x,x∈L↔x∈M):
  (Wem c L r).Pairwise (Ap cfE)/\Ris cfE (Wes cfE M (r.1,r.2,c))/\∀x,x∈Wem c L r↔x∈Wes cfE M (r.1,r.2,c):=by
 have key:(Wem c L r).Pairwise (Ap cfE)/\∀x,x∈Wem c L r↔x=(r.1,r.2,c)\/(x∈L/\Ap cfE x (r.1,r.2,c)):=by
  unfold Wem ent;cases he:fnd (λe:En=>e.1==r.1) L 0 with
  |some a=>
   obtain⟨h1,h2,h3,h4⟩:=Wcs he;simp only[Xbh,Xda]at h3 h4
   grind [Xp,Wj8,WrM,apE]
  |none=>
   grind [Wgc,Wik,apE]
 refine⟨key.1,Wb3 WrM hM,λx=>?_⟩;rw[key.2 x,WbI WrM hM,hm]
theorem Wpw{c:Int}:∀{rows:List Rw} {L M:List En},L.Pairwise (Ap cfE)->Ris cfE M->(∀x,x∈L↔x∈M)->
  (rows.foldl (Wem c) L).Pairwise (Ap cfE)/\Ris cfE (Wc3 c M rows)/\∀x,x∈rows.foldl (Wem c) L↔x∈Wc3 c M rows
 | [],_,_,hL,hM,hm=>⟨hL,hM,hm⟩
 |r::rows,L,M,hL,hM,hm=>by
  obtain⟨a,b,d⟩:=WoJ (c:=c) (r:=r) hL hM hm;exact Wpw (rows:=rows) a b d
theorem WkH{c:Int}:∀(rows:List Rw) (L:List En),(rows.foldl (Wem c) L).length<=L.length+rows.length
 | [],L=>by simp
 |r::rows,L=>by
  have:=WkH (c:=c) rows (Wem c L r)
  grind [Wle,Xn]
theorem Wdo{c:Int}{P:En->Prop}:∀{rows:List Rw} {M:List En},Ris cfE M->(∀x∈M,P x)->(∀r∈rows,P (r.1,r.2,c))->∀x∈Wc3 c M rows,P x
 | [],_,_,h,_=>h
 |r::rows,M,hM,h,hr=>by
  refine Wdo (rows:=rows) (Wb3 WrM hM) (λx hx=>?_) λr' h'=>hr r' (Xe _ h');rcases(WbI WrM hM).1 hx with rfl|h'
  .simp_all
  simp_all
theorem Wne{R:Type}{N:Nat}{k4:Int}{b7 b8 b9:Int}{aQ:Bool}{bP dA bK ch bB aP:Int}{cN:Bool}{cA dm ge gg:Int}{cO:List Kc}{fu:List Int}{cZ:List Kc}{fv:List Int}{db:List Kc}{fw:List Y_KidRun}{gh:Nat}{eK:List Int}{eM:List Kb}{eN:List Kc}{dc:List Kk}{K0:Int->Bool->Ks->Option R}(hN:1048576<N)(u6:cO.length<=8):
  ∀(d j n:Nat) (v:List En),j+d=cO.length->d<n->v.length<=100+j->
  Zae N k4 (Wh cO) b7 b8 b9 aQ bP dA bK ch bB aP cN cA dm ge gg cO fu cZ fv db fw gh eK eM eN dc K0 n (j:Int) v=K0 (cO.length:Int) false ((cO.drop j).foldl (Wem b8) v)
 |0,j,n+1,v,hj,hn,hv=>by
  simp_all [Zae,WaC,Xm,Wf,Xcz,List.foldl_nil]
 |d+1,j,n+1,v,hj,hn,hv=>by
  have ad:j<cO.length:=by omega
  have ky:=Wet (N:=N) (f:=(b7,(b8,(b9,(aQ,(fu,(cZ,(v,(fv,(db,Xi fw gh (bP,(dA,(bK,(ch,(bB,(aP,(eK,(eM,(eN,(dc,(cN,(cA,(dm,(ge,gg)))))))))))))))))))))))) (c:=cO[j].1) (by grind) hN;have hs:=Wle b8 v cO[j];have cV:∀v',v'=Wem b8 v cO[j]->Zae N k4 (Wh cO) b7 b8 b9 aQ bP dA bK ch bB aP cN cA dm ge gg cO fu cZ fv db fw gh eK eM eN dc K0 n ((j+1:Nat):Int) v'=K0 (cO.length:Int) false ((cO.drop j).foldl (Wem b8) v):=λv' u7=>by
   subst u7;rw[Wne hN u6 d (j+1) n _ (by omega) (by omega) (by omega),Xbm ad,List.foldl_cons]
  simp only[Zae,Wn,Wan ad,WD ad,WH ad,Wt (show j<4611686018427387904 by omega),Wa,ky,ret,Xd];have hd:ent v cO[j].1=ent v cO[j].1:=rfl;unfold Wem at cV;cases he:ent v cO[j].1 with
  |some a=>
   rw[he]at cV;obtain⟨h1,h2,h3,h4⟩:=Wcs he;rw[Xbh]at h3;simp only[Wb (show((a.1:Int)>=0) by omega),Wa];rw[WW,Wb h3];simp only[Wa,Xk];exact cV _ rfl
  |none=>
   rw[he]at cV;simp only[show decide ((-1:Int)>=0)=false from rfl,Wf];rw[WK (by simp;omega)];simp only[Wa,Xdv];exact cV _ rfl
 |_,_,0,_,_,h,_=>by omega
theorem WjO{R:Type}{N:Nat}{im cP de df:Int}{c7:Bool}{dg d6 d7 d8 d9 ip:Int}{iq:Bool}{ir it iu iv:Int}{cS:List Kb}{iw:List Int}{iy:List Kc}{iz:List Kb}{iA:List Int}{iB:List Y_KidRun}{iD:Nat}{eX:List Int}{eY:List Kc}{eZ:List Kk}{K0:Int->Bool->Kx->Option R}(sY:cS.length<=1000):
  ∀(d j n:Nat) (v:List Rw),j+d=cS.length->d<n->v.length<=1000+j->
  Zaj N im (Wh cS) cP de df c7 dg d6 d7 d8 d9 ip iq ir it iu iv cS iw iy iz iA iB iD eX eY eZ K0 n (j:Int) v=K0 (cS.length:Int) false (v++WaK (cS.drop j))
 |0,j,n+1,v,hj,hn,hv=>by
  have:j=cS.length:=by omega
  subst this;simp only[Zaj,WaC (Xm cS.length),Wf,Xcz,WaK,List.filter_nil,Xbu,List.append_nil]
 |d+1,j,n+1,v,hj,hn,hv=>by
  have ad:j<cS.length:=by omega
  have he:WaK (cS.drop j)=if cS[j].2.2= -1 then(cS[j].1,cS[j].2.1)::WaK (cS.drop (j+1))else WaK (cS.drop (j+1)):=by
   rw[Xbm ad];unfold WaK
   grind
  simp only[Zaj,Wn,Wan ad,WD ad,WH ad,Wt (show j<4611686018427387904 by omega),Wa,Wy];rw[he];by_cases h:cS[j].2.2= -1
  .rw[We h,We h,WK (by simp;omega)];simp only[Wa];rw[WjO sY d (j+1) n _ (by omega) (by omega) (by simp;omega)];simp
  .rw[Wc h,Wc h];rw[WjO sY d (j+1) n _ (by omega) (by omega) (by omega)]
 |_,_,0,_,_,h,_=>by omega
variable{N:Nat}{codes:List (List Opn)}{n:Int}{f:Fm}{k:Nat}{code:List Opn}{m:Mm}{x:Kd}
theorem Wsw{l:List En}(h:Ris cfE l):l.Pairwise (Ap cfE):=h.imp λh=>.inl h
theorem WiV(hk:k<f.kids.length)(h3:f.kids.length<=3)(oV:code.length<=24)(hF:FOk codes n f)(bh:codes.getD k []=code)(aI:f.kids[k]=x)(hN:1048576<N):
  Zb6 N f.e (k:Int)=some (((Fm.put (Wnb f x k) k).e,()),()):=by
 have hx:=hF.kid k hk;rw[bh,aI]at hx;obtain⟨f0,f1,f2,f3,f4,f5,f6,f7,f8,f9⟩:=fmP f;have bA:=hx.pc;have mU:=hx.wl;have gz:=hx.sl;have hb8:=hF.buf8;have mW:f.order.length<=3:=by
  have h1:=hF.done
  grind
 have rR:=hF.readsL;have e2:Xc (f.kids.map Kd.e) (Xa (k:Int)) d_KidRun=x.e:=by
  simp_all
 unfold Zb6;simp only[f9,Xad];rw[WW,Wb hk];simp only[Wa,e2];have en:Zeh N x.e.2.2.2.2.2.2.2.2.1=ret (WcI x.writes):=WcN (show x.writes.length<=1048576 by omega) hN;rw[en];simp only[ret,Xd];have jC:=We9 x.writes;rw[show(0:Int)=((0:Nat):Int)from rfl];rw[Wne (cO:=WcI x.writes) hN jC (WcI x.writes).length 0 N _ (by omega) (by omega) (by grind)];simp only[Xca];have hP6:P6 f.e=f.buf:=rfl;have cK:Wl .i64 f.e.2.1 1=f.clock+1:=WbU (by have:=hF.clock;omega);rw[hP6,cK];obtain⟨i1,i2,i3⟩:=Wpw (c:=f.clock+1) (rows:=WcI x.writes) (Wsw hF.bufR) hF.bufR (λx=>Iff.rfl);unfold Z8;have fT:=WkH (c:=f.clock+1) (WcI x.writes) f.buf;rw[WmH (rng:=WsL) (N:=N) WrM i2 i1 i3 (λe he=>?_) (by omega)]
 .simp only[Xd];have hP7:P7 x.e=x.seen:=rfl;rw[show(Kd.e x).2.2.2.2.2.2.2.1=x.seen from rfl];rw[WjO (cS:=x.seen) (by omega) x.seen.length 0 N _ (by omega) (by omega) (by grind)];rw[WK (by grind)];simp only[Wa,Xca];have hU:∀(g:Fm) (y:Kd),U6 (Xi (f.kids.map Kd.e) k y.e) (S5 (f.reads++WaK x.seen) (S4 (f.order++ [(k:Int)]) (S3 (Wc3 (f.clock+1) f.buf (WcI x.writes)) f.e.2.2.2)))=(f.lost,f.regs,f.start,Wc3 (f.clock+1) f.buf (WcI x.writes),f.order++ [(k:Int)],f.reads++WaK x.seen,(f.kids.set k y).map Kd.e):=λg y=>by
   rw[Xfd];rfl
  rw[Xk];exact Wk (λz=>some (((f.rv,(f.clock+1,((0:Int),z))),()),())) (hU f {x with phase:=3,pos:=0,marks:=[]})
 .have h1:=(i3 e).1 he;have:=Wdo (P:=λe=>0<=e.1/\e.1<=7) hF.bufR (λe he=>(hF.bufE e he).1) (λr hr=>(WmO.1 hr).1) e h1
  grind [WsL,Wrf]
theorem Wk1(hk:k<f.kids.length)(hF:FOk codes n f)(hx:KOk code f.clock n x)(aI:f.kids[k]=x)(hn:n<=100000)(o:Int):
  Zar N (Fm.e {f with owner:=o}) (k:Int)=some (((Fm.put ({f with owner:=o},f.again x) k).e,()),()):=by
 have h:=Wdl (N:=N) (f:=Fm.e {f with owner:=o}) (k:=k) (x:=x.e) (by show k<(f.kids.map Kd.e).length;simp_all) hF.regs.len (by have:=hx.tries;show 0<=x.tries/\x.tries<=100000;omega);have e3:U9 (Xi (Q9 (Fm.e {f with owner:=o})) k x.e) (Fm.e {f with owner:=o})=Fm.e {f with owner:=o}:=by
  have:=U9e {f with owner:=o} k x;rw[←aI]at this;simp only[Xbi]at this;rw[←aI];exact this
 rw[e3]at h;rw[h];exact Wk (λz=>some ((z,()),())) (U9e {f with owner:=o} k (f.again x))
theorem WjG(hk:k<f.kids.length)(h3:f.kids.length<=3)(hm:Waf m=true)(ct:KC code)(hF:FOk codes n f)(bh:codes.getD k []=code)(hn:n<=100000)(hN:1048576<N):
  Zfx N f.e (k:Int) code m=some (((Wl1 m f k code).e,()),()):=by
 obtain⟨x,aI⟩:∃x,f.kids[k]=x:=⟨_,rfl⟩;have hx:=hF.kid k hk;rw[bh,aI]at hx;obtain⟨f0,f1,f2,f3,f4,f5,f6,f7,f8,f9⟩:=fmP f;obtain⟨k0,k1,k2,k3,k4,k5,k6,k7,k8,k9,k10⟩:=kdP x;have gz:=hx.sl;have bA:=hx.pc;have oV:=ct.len;have e2:Xc (f.kids.map Kd.e) (Xa (k:Int)) d_KidRun=x.e:=by
  simp_all
 have e3:U9 (Xi (f.kids.map Kd.e) (Xa (k:Int)) x.e) f.e=f.e:=by
  rw[Xk,U9e,←aI,Xbi]
 have e4:Fm.put (f,x) k=f:=by unfold Fm.put;simp only;rw[←aI,Xbi]
 unfold Zfx Wl1 WrX;simp only[Wn,f9,f3,Xad];rw[Wgi];by_cases hlost:f.lost=true
 .rw[We hlost,We hlost]
 rw[Wc hlost,Wc hlost];rw[WW,Wb hk];simp only[Wa,Wf,e2,e3,k0,k4,k7,f2,Wy,WP hk,aI];by_cases h0:x.phase=0
 .rw[We h0,We h0,WlK hk hm ct hF bh aI h0 hn hN];rfl
 .rw[Wc h0,Wc h0];by_cases h1:x.phase=1
  .rw[We h1,We h1];by_cases ho:f.owner=0
   .rw[We ho,We ho,WbU (by omega),Xk];exact Woc rfl rfl rfl
   simp_all
  .rw[Wc h1,Wc h1];by_cases h2:x.phase=2
   .rw[We h2,We h2];unfold Wh;by_cases hp:x.pos=(x.seen.length:Int)
    .rw[We hp,We hp,WiV hk h3 oV hF bh aI hN];rfl
    .rw[Wc hp,Wc hp];have eE:=hx.pos;have di:inb x.pos x.seen.length=true:=by grind [inb]
     rw[di];have hg:Xc x.seen (Xa x.pos) ((0,0,0):En)=Wcu x.seen x.pos (0,0,0):=rfl;simp only[Wa,hg];have ky:=Wet (N:=N) (f:=f.e) (c:=(Wcu x.seen x.pos (0,0,0)).1) (by show f.buf.length<=1048576;have:=hF.buf8;omega) hN;rw[show f.e.2.2.2.2.2.2.1=f.buf from rfl]at ky;rw[ky];simp only[ret,Xd,f6];have bE:S2 (0:Int) f.e=Fm.e {f with owner:=0}:=rfl;have fi:Zar N (U9 (Xi (f.kids.map Kd.e) (Xa (k:Int)) x.e) (S2 0 f.e)) (k:Int)=some (((Fm.put ({f with owner:=0},f.again x) k).e,()),()):=by
      grind [U9e,Xk,U9,Xi,Kd.e,Fm.e,Xbi,Wk1]
     unfold Wtj;have oW:Wl .i64 x.pos 1=x.pos+1:=WbU (by omega);rw[oW];cases he:ent f.buf (Wcu x.seen x.pos (0,0,0)).1 with
     |some a=>
      obtain⟨g1,g2,g3,g4⟩:=Wcs he;rw[Xbh]at g3;rw[Xda,Xp g3]at g4;injection g4 with g4;simp only[Wb (show((a.1:Int)>=0) by omega),Wa];rw[WW,Wb g3];simp only[Wa,WH g3,g4];by_cases hv:a.2.2.2=(Wcu x.seen x.pos (0,0,0)).2.2
      .rw[We hv,We hv,Xk];exact Woc rfl rfl rfl
      simp_all
     |none=>
      simp only[show decide ((-1:Int)>=0)=false from rfl,Wf];by_cases hv:(-1:Int)=(Wcu x.seen x.pos (0,0,0)).2.2
      .rw[We hv,We hv,Xk];exact Woc rfl rfl rfl
      simp_all
   simp_all
end
section
section
variable{codes:List (List Opn)}{n:Int}{f f':Fm}{k:Nat}{code:List Opn}{m:Mm}{x y:Kd}
theorem FOk.len3(h:FOk codes n f)(h3:codes.length<=3):f.order.length<=3:=by
 have h1:=h.done;have:=Xfq (p:=λx:Kd=>decide (x.phase=3)) (l:=f.kids);have:=h.len;omega
theorem FOk.put1(h:FOk codes n f)(hk:k<f.kids.length)(bh:codes.getD k []=code){o:Int}{l:Bool}(ho:0<=o/\o<=f.kids.length)(hy:KOk code f.clock (n+1) y)(hp:f.kids[k].phase≠3)(hyp:y.phase≠3):
  FOk codes (n+1) (Fm.put ({f with owner:=o,lost:=l},y) k) where
 len:=by show(f.kids.set k y).length=_;rw[Xbb];exact h.len
 regs:=h.regs
 clock:=h.clock
 done:=by
  show f.order.length=(f.kids.set k y).countP _;rw[Xgr hk,Wc (by simp_all),Wc (by simp_all)];exact h.done
 bufR:=h.bufR
 bufE:=h.bufE
 readsL:=h.readsL
 readsE:=h.readsE
 owner:=by show 0<=o/\o<=((f.kids.set k y).length:Int);simp_all
 kid:=λi hi=>by
  change i<(f.kids.set k y).length at hi;rw[Xbb]at hi;show KOk (codes.getD i []) f.clock (n+1) (f.kids.set k y)[i];rw[Xci];by_cases he:k=i
  .simp_all
  .rw[Wc he];exact(h.kid i hi).wk (by omega) (by omega)
theorem FOk.wk(h:FOk codes n f){n':Int}(hn:n<=n'):FOk codes n' f:=
 {h with kid:=λk hk=>(h.kid k hk).wk (by omega) hn}
theorem WiI(h:∀e∈x.seen,(0<=e.1/\e.1<=7)/\(0<=e.2.1/\e.2.1<=65535)/\ -1<=e.2.2/\e.2.2<=x.since):Whb (WaK x.seen):=by
 intro r hr;unfold WaK at hr
 grind
theorem WjW(l:List En):(WaK l).length<=l.length:=by
 simp[WaK,Xad,List.length_filter_le]
theorem WfW{c:Int}:∀{rows:List Rw} {M:List En},Ris cfE M->Ris cfE (Wc3 c M rows)
 | [],_,h=>h
 |r::rows,M,h=>WfW (rows:=rows) (Wb3 WrM h)
theorem WoE(hF:FOk codes n f)(hk:k<f.kids.length)(ct:code.length<=24)(bh:codes.getD k []=code)(aI:f.kids[k]=x)(h2:x.phase=2):
  FOk codes (n+1) (Fm.put (Wnb f x k) k):=by
 have hx:=hF.kid k hk;rw[bh,aI]at hx;have hc:=hF.clock;unfold Wnb Fm.put;refine{len:=?_,regs:=hF.regs,clock:=?_,done:=?_,bufR:=WfW hF.bufR,bufE:=?_,readsL:=?_,readsE:=?_,owner:=?_,kid:=?_}
 .simp only[Xbb];exact hF.len
 .grind
 .simp only[Xo,Xfk];rw[Xgr hk,aI,Wc (by simp[h2]),We (by simp),←hF.done];rfl
 .simp only;refine Wdo hF.bufR (λe he=>?_) λr hr=>?_
  .have:=hF.bufE e he;omega
  .have:=WeP r hr;grind
 .have h1:=hF.readsL;have h2:=WjW x.seen;have h3:=hx.sl;have h4:=hx.pc
  grind
 .intro r hr;rcases Xl.1 hr with hr|hr
  .exact hF.readsE r hr
  .exact WiI hx.seen r hr
 .simp_all
 .intro i hi;simp only[Xbb]at hi;simp only[Xci];by_cases he:k=i
  .subst he;rw[We rfl,bh];refine KOk.wk (c:=f.clock) (n:=n) ?_ (by omega) (by omega);exact{hx with marks:=(λh=>by simp_all),pos:=⟨Xcv _,by simp_all⟩,phase:=by simp_all}
  .rw[Wc he];exact(hF.kid i hi).wk (by omega) (by omega)
theorem Wqd(hk:k<f.kids.length)(hm:Waf m=true)(ct:KC code)(hF:FOk codes n f)(bh:codes.getD k []=code):FOk codes (n+1) (Wl1 m f k code):=by
 obtain⟨x,aI⟩:∃x,f.kids[k]=x:=⟨_,rfl⟩;have hx:=hF.kid k hk;rw[bh,aI]at hx;have e4:Fm.put (f,x) k=f:=by unfold Fm.put;simp only;rw[←aI,Xbi]
 have hFw:=hF.wk (show n<=n+1 by omega);unfold Wl1 WrX;split
 .exact hFw
 rw[WP hk,aI];split
 .rename_i h0;obtain⟨h1,h2⟩:=Wsb ct hF hx h0 hm;have hnp:(Wqe m f x code).2.phase≠3:=by
   grind [Wqe,Wf9,Wk8,Fm.again]
  have:=h1;have key:∀q:Fm×Kd,(q.1=f\/q.1={f with lost:=true})->KOk code f.clock (n+1) q.2->q.2.phase≠3->FOk codes (n+1) (Fm.put q k):=by
   rintro⟨g,y⟩ hg hy hp;simp only at hg hy hp;rcases hg with rfl|rfl
   .exact FOk.put1 (o:=g.owner) (l:=g.lost) hF hk bh hF.owner hy (by simp_all) hp
   .exact FOk.put1 (o:=f.owner) (l:=true) hF hk bh hF.owner hy (by simp_all) hp
  simp_all
 .split
  .rename_i h1;split
   .refine FOk.put1 (o:=(k:Int)+1) (l:=f.lost) hF hk bh (by omega) ?_ (by simp_all) (by simp_all);refine KOk.wk (c:=f.clock) (n:=n) ?_ (by omega) (by omega);exact{hx with marks:=(λh=>by simp_all),phase:=by simp_all}
   simp_all
  .split
   .rename_i h2;split
    .exact WoE hF hk ct.len bh aI h2
    .simp only;split
     .refine FOk.put1 (o:=f.owner) (l:=f.lost) hF hk bh hF.owner ?_ (by simp_all) (by simp_all);refine KOk.wk (c:=f.clock) (n:=n) ?_ (by omega) (by omega);exact{hx with pos:=by(have:=hx.pos;grind)}
     .refine FOk.put1 (o:=0) (l:=f.lost) hF hk bh (by omega) (WmT hx rfl hF.regs hF.clock.1) (by simp_all) (by show(0:Int)≠3;omega)
   simp_all
theorem WpU{rv:Int}{regs:List Int}{writes:List Rw}(hr:Vals 4 regs)(hn:0<=n):FOk codes n (Wdb rv regs writes codes.length) where
 len:=by simp[Wdb]
 regs:=hr
 clock:=by simp[Wdb]
 done:=by
  simp only[Wdb,Xae];rw[List.countP_replicate,Wc (by simp)]
 bufR:=by
  grind [Ris,Wdb,Wlq,cfE]
 bufE:=λe he=>by
  obtain⟨r,hr,rfl⟩:=Xv.1 he;have:=WeP r hr
  grind [Wdb]
 readsL:=by simp[Wdb]
 readsE:=λr hr=>by cases hr
 owner:=by simp[Wdb]
 kid:=λk hk=>by
  simp only[Wdb,Xdd];exact{pc:=by simp,regs:=hr,rows:=(λr hr=>by cases hr),wl:=by simp,sl:=by simp,since:=by simp,tries:=by simp;omega,seen:=(λe he=>by cases he),marks:=(λ_=>⟨by simp[stk],(λq hq=>by cases hq),List.Pairwise.nil⟩),pos:=by simp,pb:=(λh=>by cases h),phase:=by simp,out:=by simp}
end
end
section
theorem Wix{α β R:Type}{body:Int->α->List β->(List β->Option R)->Option R}{K:Int->List β->Option R}{f:α->β}:∀(l:List α) (d r:List β),l.length<=r.length->
  (∀(j:Nat) x (v:List β) k,x∈l->j<v.length->body j x v k=k (v.set j (f x)))->Wbt body K l d.length (d++r)=K ((d.length+l.length:Nat):Int) (d++(l.map f++r.drop l.length))
 | [],d,r,_,_=>by simp[Wbt]
 |x::l,d,[],h,_=>by simp at h
 |x::l,d,y::r,h,hb=>by
  rw[Wbt,hb d.length x _ _ (Xh ..) (by simp),WhP];have:=Wix (body:=body) (K:=K) (f:=f) l (d++ [f x]) r (by grind) λj z v k hz=>hb j z v k (Xe _ hz);simp only[Xo,Xfk,Xax,List.singleton_append]at this;rw[this];simp only[Xn,Xag,List.drop_succ_cons,Xaq];rw[show d.length+1+l.length=d.length+(l.length+1) by omega]
theorem Wjq{α:Type}{R:Type}{l:List α}{p:α->Bool}{lp:Nat->Int->Option R}{N:Nat}{K0:Int->Option R}{K1:Option R}(hl:l.length<N)(kF:l.length<=1048576)(hs:∀n (j:Nat) (h:j<l.length),lp (n+1) (j:Int)=bif p l[j]then K0 j else lp n ((j+1:Nat):Int))(he:∀n,lp (n+1) (l.length:Int)=K1):lp N 0=match fnd p l 0 with|some r=>K0 r.1|none=>K1:=by
 have h1:=WT (l:=l) (V:=Unit) (lp:=λn j _=>lp n j) hl (body:=λj x v k=>bif p x then K0 j else k v) (K:=λ_ _=>K1) (λn j v h=>hs n j h) (λn v=>he n) ();refine(h1.trans (WeY (p:=p) (E:=λj _=>K0 j) l 0 () λj x v k _=>rfl)).trans ?_;cases fnd p l 0<;>rfl
theorem WiT{α:Type}{p:α->Bool}:∀(l:List α) (j:Nat),(fnd p l j).isSome=l.any p
 | [],_=>rfl
 |x::l,j=>by
  unfold fnd;rw[List.any_cons];cases p x
  .simp[WiT l]
  .rfl
variable{N:Nat}
theorem WkX{f:Fm}(h3:f.kids.length<=3)(hN:1048576<N):Zhj N f.e=ret (Weo f):=by
 unfold Zhj Z6 Zn;have e:f.e.2.2.2.2.2.2.2.2.2=f.kids.map Kd.e:=rfl;rw[e];have hl:(f.kids.map Kd.e).length<=3:=by simpa using h3
 have h1:=Wjq (l:=f.kids.map Kd.e) (p:=λx=>x.1 !=3) (N:=N) (lp:=λn j=>Zf N (f.kids.map Kd.e) (λaL=>(some ((),(aL,())))) (λaC aZ=>(some ((),((-1:Int),())))) n j) (K0:=λj=>some ((),(j,()))) (K1:=some ((),((-1:Int),()))) (by omega) (by omega)
  (λn j hj=>by
   simp only[Zf,Wan hj,WD hj,WH hj,Wt (show j<4611686018427387904 by omega),Wa,Zh7,Xd])
  (λn=>by simp only[Zf,WaC (Xm _),Wf])
 rw[h1];have h2:=WiT (p:=λx:Y_KidRun=>x.1 !=3) (f.kids.map Kd.e) 0;have h3:(f.kids.map Kd.e).any (λx=>x.1 !=3)= !Weo f:=by
  unfold Weo;rw[List.any_map,←Wdk];have:((λx:Y_KidRun=>x.1 !=3)∘Kd.e)= λx:Kd=>!decide (x.phase=3):=by
   funext x;show(x.phase !=3)= !decide (x.phase=3);by_cases h:x.phase=3<;>simp[h]
  rw[this]
 rw[h3]at h2;cases hf:fnd (λx:Y_KidRun=>x.1 !=3) (f.kids.map Kd.e) 0 with
 |some r=>
  rw[hf]at h2;simp only[Xd,Wb (show((r.1:Int)>=0) by omega),Xx,ret];rw[show Weo f=false by simpa using h2.symm]
 |none=>
  rw[hf]at h2;rw[show Weo f=true by simpa using h2.symm];rfl
theorem WkE{f:Fm}(h:f.buf.length<=1000)(hN:1048576<N):Ze9 N f.e=ret (Wgu f):=by
 unfold Ze9;have e:f.e.2.2.2.2.2.2.1=f.buf:=rfl;rw[e];have h1:=WT (l:=f.buf) (V:=List Rw) (R:=Unit×(List Rw×Unit)) (lp:=λn j v=>Zbj N f.buf (Wh f.buf) (λt9 aw ci=>(some ((),(ci,())))) n j v) (n:=N) (by omega)
  (body:=λj x v k=>bif WV (v.length+ [(x.1,x.2.1)].length)then k (Xt v [(x.1,x.2.1)])else none) (K:=λ_ v=>ret v)
  (λn i v hi=>by simp only[Zbj,Wan hi,WD hi,WH hi,Wt (show i<4611686018427387904 by omega),Wa])
  (λn v=>by simp only[Zbj,WaC (Xm f.buf.length),Wf]) []
 refine h1.trans ?_;rw[Wcv (f:=λx:En=>(x.1,x.2.1)) f.buf 0 [] (by simp;omega) (λj x v k _=>rfl)];rfl
theorem Wi4{f:Fm}(hr:Vals 4 f.regs)(h3:f.kids.length<=3)(hx:∀x∈f.kids,x.regs.length<=1000)(hN:1048576<N):Ze8 N f.e=ret (Whe f):=by
 unfold Ze8 Whe;have e:f.e.2.2.2.2.1=f.regs:=rfl;have e2:f.e.2.2.2.2.2.2.2.2.2=f.kids.map Kd.e:=rfl;have pP:Wek f.regs=true:=WdM.2 hr;have hl:=hr.len;have hm:(f.kids.map Kd.e).length=f.kids.length:=by simp
 rw[e,e2,Wcf (by omega) hN,We ⟨pP,h3⟩];simp only[ret,Xd,pP,Xx,Wf];rw[Ws (by unfold Wh;omega),WaQ (by omega)];simp only[ret,Xd,Wf];have h1:=WT (l:=f.kids.map Kd.e) (V:=List Int) (R:=Unit×(List Int×Unit)) (lp:=λn j v=>Zaw N (f.kids.map Kd.e) (Wh (f.kids.map Kd.e)) (λbD gL dq=>(some ((),(dq,())))) n j v) (n:=N) (by omega)
  (body:=λj x v k=>bif inb j v.length then(bif x.2.2.2.2.2.1==(1:Int)then((Z5 N (P6 x) (4:Int)).bind λbW=>(bif bW.2.1 then(bif inb 0 (P6 x).length then(bif inb j (Xi v j.toNat 0).length then k (Xi (Xi v j.toNat 0) j.toNat (Xc (P6 x) (Xa (0:Int)) 0))else none)else none)else k (Xi v j.toNat 0)))else k (Xi v j.toNat 0))else none) (K:=λ_ v=>ret v)
  (λn i v hi=>by simp only[Zaw,Wn,Wan hi,WD hi,WH hi,Wt (show i<4611686018427387904 by omega),Wa];rfl)
  (λn v=>by simp only[Zaw,WaC (Xm _),Wf]) f.regs
 refine h1.trans ?_;have h2:=Wix (β:=Int) (K:=λ_ v=>ret v) (f:=λx:Y_KidRun=>if P5 x=1/\Wek (P6 x)=true then Wcu (P6 x) 0 0 else 0) (f.kids.map Kd.e) [] f.regs (by omega) (body:=λj x v k=>bif inb j v.length then(bif x.2.2.2.2.2.1==(1:Int)then((Z5 N (P6 x) (4:Int)).bind λbW=>(bif bW.2.1 then(bif inb 0 (P6 x).length then(bif inb j (Xi v j.toNat 0).length then k (Xi (Xi v j.toNat 0) j.toNat (Xc (P6 x) (Xa (0:Int)) 0))else none)else none)else k (Xi v j.toNat 0)))else k (Xi v j.toNat 0))else none)
  (λj x v k u9 hj=>by
   obtain⟨y,hy,rfl⟩:=Xv.1 u9;have hyl:=hx y hy;have p5:(Kd.e y).2.2.2.2.2.1=y.out:=rfl;have vc:P5 (Kd.e y)=y.out:=rfl;have p6:P6 (Kd.e y)=y.regs:=rfl;simp only[p5,vc,p6,WW,Wb hj,Wa,Wcf (show y.regs.length<=1048576 by omega) hN,ret,Xd,Wy,Xk,Xbb];by_cases h1:y.out=1
   .rw[We h1];cases pP:Wek y.regs
    .rw[Wc (by simp)];rfl
    .have:y.regs.length=4:=(WdM.1 pP).len;rw[We ⟨h1,rfl⟩,show inb (0:Int) y.regs.length=true by rw[this];rfl];simp only[Wa,Xdt];rfl
   .rw[Wc h1,Wc (λh=>h1 h.1)])
 simp only[Xae,Xbn,Xad,List.map_map]at h2;exact h2
theorem WhD{rv:Int}{regs:List Int}{writes:List Rw}{kids:Nat}(hr:regs.length<=1000)(hw:writes.length<=1000)(hk:kids<=3)(hN:1048576<N):
  Zes N rv regs writes (kids:Int)=ret (Wdb rv regs writes kids).e:=by
 unfold Zes;rw[WaQ (by omega),WcN (by omega) hN];have hn:=We9 writes;simp only[ret,Xd];have h1:=WT (l:=WcI writes) (V:=List En) (R:=Unit×(Y_Family×Unit)) (lp:=λn j v=>Zbd N regs kids (Wh (WcI writes)) rv (WcI writes) regs (λt25 hI db=>
  (Zap N regs kids rv regs (WcI writes) db
 (λqW t50 kS=>
  (some ((),((rv,((0:Int),((0:Int),(false,(regs,(WcI writes,(db,(([]:List Int),(([]:List Kc),kS))))))))),()))))
 N (0:Int) ([]:List Y_KidRun))) n j v) (n:=N) (by omega)
  (body:=λj x v k=>bif WV (v.length+ [(x.1,(x.2,(0:Int)))].length)then k (Xt v [(x.1,(x.2,(0:Int)))])else none) (K:=λ_ db=>(Zap N regs kids rv regs (WcI writes) db
 (λqW t50 kS=>
  (some ((),((rv,((0:Int),((0:Int),(false,(regs,(WcI writes,(db,(([]:List Int),(([]:List Kc),kS))))))))),()))))
 N (0:Int) ([]:List Y_KidRun)))
  (λn i v hi=>by simp only[Zbd,Wan hi,WD hi,WH hi,Wt (show i<4611686018427387904 by omega),Wa])
  (λn v=>by simp only[Zbd,WaC (Xm _),Wf]) []
 refine h1.trans ?_;rw[Wcv (f:=λx:Rw=>(x.1,(x.2,(0:Int)))) (WcI writes) 0 [] (by simp;omega) (λj x v k _=>rfl)];simp only[Xbn];obtain⟨b,hb⟩:∃b,(WcI writes).map (λx:Rw=>(x.1,(x.2,(0:Int))))=b:=⟨_,rfl⟩;rw[hb];have lp:∀(d j n:Nat) (v:List Y_KidRun),j+d=kids->d<n->v=Xr j (Kd.e {regs:=regs})->Zap N regs kids rv regs (WcI writes) b (λqW t50 kS=>(some ((),((rv,((0:Int),((0:Int),(false,(regs,(WcI writes,(b,(([]:List Int),(([]:List Kc),kS))))))))),())))) n (j:Int) v=some ((),((rv,((0:Int),((0:Int),(false,(regs,(WcI writes,(b,(([]:List Int),(([]:List Kc),Xr kids (Kd.e {regs:=regs})))))))))),())):=by
  intro d
  induction d with
  |zero=>
   intro j n v hj hn hv;obtain⟨n,rfl⟩:∃n',n=n'+1:=⟨n-1,by omega⟩;have:j=kids:=by omega
   subst this;simp only[Zap,Int.lt_irrefl,decide_false,Wf,hv]
  |succ d ih=>
   intro j n v hj hn hv;obtain⟨n,rfl⟩:∃n',n=n'+1:=⟨n-1,by omega⟩;have ad:(j:Int)<(kids:Int):=by omega
   have pm:v.length=j:=by rw[hv];simp
   simp only[Zap,Wb ad,Wa,WaQ (show regs.length<=1048576 by omega),ret,Xd];rw[WK (by simp;omega)];simp only[Wa];rw[Wt (by omega)];refine ih (j+1) n _ (by omega) (by omega) ?_;rw[hv,List.replicate_succ'];rfl
 have:=lp kids 0 N [] (by omega) (by omega) rfl;refine this.trans ?_;unfold Wdb Fm.e;simp only[List.map_replicate,hb]
end
section
def Wb7(s:Int):Int:=(s-1)/65536
def Wbe(k:Int):Int:=(7*k+3)%4
structure SlOk(l:List Int):Prop where
 len:l.length=16
 each:∀i (h:i<l.length),l[i]=0\/((1<=l[i]/\l[i]<=524288)/\Wbe (Wb7 l[i])=((i/4:Nat):Int))
 one:∀i j (hi:i<l.length) (hj:j<l.length),i<j->l[i]≠0->l[j]≠0->Wb7 l[i]≠Wb7 l[j]
def Wn6(k s:Int):Bool:=decide (s>0)&&decide (Wb7 s=k)
def WmR(l:List Int)(k:Int):Option (Nat×Int):=fnd (Wn6 k) l 0
def We0(l:List Int)(k:Int):Nat:=if Wcu l (4*Wbe k) 0=0 then(4*Wbe k).toNat else(4*Wbe k).toNat+1
def Wmm(l:List Int)(k v:Int):List Int:=match WmR l k with
 |some r=>l.set r.1 (1+65536*k+v)
 |none=>l.set (We0 l k) (1+65536*k+v)
def WdC(l:List Int)(k:Int):Int:=match WmR l k with
 |some r=>(r.2-1)%65536+1
 |none=>0
def WhQ(l:List Int)(k:Int):List Int:=match WmR l k with
 |some r=>l.set r.1 0
 |none=>l
variable{N:Nat}{l:List Int}{k v:Int}
theorem WsR{n:Int}(h:I64 n):IntKind.wrap .i64 n=n:=WdK h
theorem WkR{s:Int}(h:1<=s/\s<=524288):Zfe N s=ret (Wb7 s):=by
 unfold Zfe;rw[WaA (by unfold I64;omega)];have:Woi .i64 (s-1) 65536=Wb7 s:=by
  unfold Woi Wb7;rw[Xeu (by omega),WsR (by unfold I64;omega)]
 rw[this];rfl
theorem WjK{s:Int}(h:1<=s/\s<=524288):0<=Wb7 s/\Wb7 s<=7:=by unfold Wb7;omega
theorem Wdr:Zaf N k=ret (decide (0<=k)&&decide (k<=7)):=by simp[Zaf,WM]
theorem Wh7(hk:0<=k/\k<=7)(hv:0<=v/\v<=65535):Zfs N k v=ret (1+65536*k+v):=by
 unfold Zfs;rw[Wg0 (by unfold I64;omega),W3 (a:=1) (by unfold I64;omega),W3 (by unfold I64;omega)]
theorem Wio(hk:0<=k/\k<=7):Zfy N k=ret (Wbe k):=by
 unfold Zfy;rw[Wdr,Wg0 (by unfold I64;omega),W3 (by unfold I64;omega)];have:Wfi (7*k+3) 4=Wbe k:=by grind [Wfi,Wbe,Xdp]
 simp only[ret,Xd,Wb hk.1,Wb hk.2,Xbj,Xx,Wf,this];rfl
theorem SlOk.val(h:SlOk l){i:Nat}(hi:i<l.length)(hn:l[i]≠0):1<=l[i]/\l[i]<=524288:=by
 rcases h.each i hi with h0|h0
 .omega
 omega
theorem Wdp(h:SlOk l)(hN:1048576<N):Zei N l k=ret (match WmR l k with|some r=>(r.1:Int)|none=>-1):=by
 unfold Zei WmR;have hl:=h.len;have h1:=Wjq (l:=l) (p:=Wn6 k) (N:=N) (lp:=λn j=>Zb2 N k l (λaZ=>(some ((),(aZ,())))) (λeJ bD=>(some ((),((-1:Int),())))) n j) (K0:=λj=>some ((),(j,()))) (K1:=some ((),((-1:Int),()))) (by omega) (by omega)
  (λn j hj=>by
   simp only[Zb2,Wan hj,WD hj,WH hj,Wt (show j<4611686018427387904 by omega),Wa];unfold Wn6;by_cases h0:l[j]>0
   .rw[WkR (h.val hj (by omega))]
    grind
   grind)
  (λn=>by simp[Zb2,WaC,Xm,Wf])
 rw[h1];cases fnd (Wn6 k) l 0<;>rfl
theorem Wbk(h:SlOk l)(hN:1048576<N):Zbb N l=ret true:=by
 have hl:=h.len;have lp:∀(d j n:Nat) (s:List Bool),j+d=16->d<n->s.length=8->(∀c:Nat,s.getD c false=true->∃i,∃hi:i<l.length,i<j/\l[i]≠0/\Wb7 l[i]=c)->
   Za6 N l (some ((),(false,()))) (λhQ fE qX=>(some ((),(true,())))) n (j:Int) s=ret true:=by
  intro d
  induction d with
  |zero=>
   intro j n s hj hn _ _;obtain⟨n,rfl⟩:∃n',n=n'+1:=⟨n-1,by omega⟩;have:j=l.length:=by omega
   subst this;simp[Za6,WaC,Xm,Wf]
  |succ d ih=>
   intro j n s hj hn hs hb;obtain⟨n,rfl⟩:∃n',n=n'+1:=⟨n-1,by omega⟩;have ad:j<l.length:=by omega
   simp only[Za6,Wan ad,WD ad,WH ad,Wt (show j<4611686018427387904 by omega),Wa,Wy];by_cases h0:l[j]=0
   .rw[We h0];exact ih (j+1) n s (by omega) (by omega) hs λc hc=>by
     grind
   .rw[Wc h0];have hv:=h.val ad h0;have hk:=WjK hv;have vd:Wbe (Wb7 l[j])=((j/4:Nat):Int):=by
     rcases h.each j ad with h1|h1
     .omega
     omega
    have hq:Woi .i64 (j:Int) 4=((j/4:Nat):Int):=by
     unfold Woi;rw[Xeu (by omega),WsR (by unfold I64;omega)];omega
    have cE:s.getD (Xa (Wb7 l[j])) false=false:=by
     rw[Xgf];intro hc;obtain⟨i,hi,h1,h2,h3⟩:=hb _ hc;exact h.one i j hi ad h1 h2 h0 (by omega)
    rw[Wh7 (k:=7) (v:=65535) (by omega) (by omega),WkR hv];simp only[ret,Xd,WM,show(1:Int)+65536*7+65535=524288 from rfl,Wb hv.1,Wb hv.2,Xbj,Xx,Wf,Wio hk,vd,hq,bne_self_eq_false];rw[show inz (4:Int)=true from rfl];simp only[Wa];rw[show inb (Wb7 l[j]) 8=true by grind [inb],hs,Wb rfl,cE];simp only[Xbj,Wa,Wf];refine ih (j+1) n _ (by omega) (by omega) (by simp_all) λc hc=>?_;by_cases hcj:c=(Wb7 l[j]).toNat
    .grind
    .have:s.getD c false=true:=by
      grind
     grind
 unfold Zbb;rw[show((Wh l) !=(16:Int))=false by grind [Wh]];simp only[Wf];refine lp 16 0 N _ (by omega) (by omega) (by simp) λc hc=>?_;rw[List.getD_eq_getElem?_getD]at hc;by_cases h8:c<8
 .grind
 simp_all
theorem Wds(h:SlOk l){r:Nat×Int}(hr:WmR l k=some r):∃hi:r.1<l.length,l[r.1]=r.2/\1<=r.2/\r.2<=524288/\Wb7 r.2=k/\Wbe k=((r.1/4:Nat):Int):=by
 obtain⟨h1,h2,h3,h4⟩:=Wcs hr;rw[Xbh]at h3;rw[Xda,Xp h3]at h4;injection h4 with h4;unfold Wn6 at h1;simp only[Xg,Wg]at h1;have h5:=h.val h3 (by omega);rcases h.each r.1 h3 with h6|h6
 .omega
 simp_all
theorem Wg2(h:SlOk l)(hr:WmR l k=none)(i:Nat)(hi:i<l.length)(hn:l[i]≠0):Wb7 l[i]≠k:=by
 have:=Wgc hr l[i] (Xar hi);unfold Wn6 at this;have h1:=h.val hi hn
 grind
theorem Wrs(k:Int):0<=Wbe k/\Wbe k<=3:=by unfold Wbe;omega
theorem WjZ(h:SlOk l)(hk:0<=k/\k<=7)(hr:WmR l k=none):∃hi:We0 l k<l.length,l[We0 l k]=0/\Wbe k=((We0 l k/4:Nat):Int)/\(We0 l k=(4*Wbe k).toNat\/(We0 l k=(4*Wbe k).toNat+1/\Wcu l (4*Wbe k) 0≠0)):=by
 have hl:=h.len;have hb:=Wrs k;unfold We0;have h1:(4*Wbe k).toNat<l.length:=by omega
 have hg:Wcu l (4*Wbe k) 0=l[(4*Wbe k).toNat]:=WP h1 _;by_cases h0:Wcu l (4*Wbe k) 0=0
 .grind
 .simp only[Wc h0];have h2:(4*Wbe k).toNat+1<l.length:=by omega
  refine⟨h2,?_,by omega,.inr ⟨trivial,h0⟩⟩;refine Classical.byContradiction λhn=>?_;rw[hg]at h0;have a1:=Wg2 h hr _ h1 h0;have a2:=Wg2 h hr _ h2 hn;have a3:=h.one _ _ h1 h2 (by omega) h0 hn;have b1:=WjK (h.val h1 h0);have b2:=WjK (h.val h2 hn);rcases h.each _ h1 with c1|c1
  .exact h0 c1
  .rcases h.each _ h2 with c2|c2
   .exact hn c2
   grind [Wb7,Wbe]
theorem Wp5(hk:0<=k/\k<=7)(hv:0<=v/\v<=65535):(1<=1+65536*k+v/\1+65536*k+v<=524288)/\Wb7 (1+65536*k+v)=k:=by unfold Wb7;omega
theorem WiH(h:SlOk l){i:Nat}(hi:i<l.length){s:Int}(hs:s=0\/((1<=s/\s<=524288)/\Wbe (Wb7 s)=((i/4:Nat):Int)))(ho:s≠0->∀j (hj:j<l.length),j≠i->l[j]≠0->Wb7 l[j]≠Wb7 s):SlOk (l.set i s) where
 len:=by rw[Xbb];exact h.len
 each:=λj hj=>by
  rw[Xbb]at hj;rw[Xci];by_cases he:i=j
  .simp_all
  .rw[Wc he];exact h.each j hj
 one:=λa b ha hb eU=>by
  rw[Xbb]at ha hb;rw[Xci,Xci];by_cases h1:i=a
  .grind
  .rw[Wc h1];by_cases h2:i=b
   .grind
   .rw[Wc h2];exact h.one a b ha hb eU
theorem Wgg(h:SlOk l)(hk:0<=k/\k<=7)(hv:0<=v/\v<=65535):SlOk (Wmm l k v):=by
 obtain⟨k1,k2⟩:=Wp5 hk hv;unfold Wmm;cases hr:WmR l k with
 |some r=>
  obtain⟨hi,h1,h2,h3,h4,h5⟩:=Wds h hr;refine WiH h hi (.inr ⟨k1,by simp_all⟩) λ_ j hj bZ hn=>?_;rw[k2,←h4,←h1];rcases Nat.lt_or_gt_of_ne bZ with ad|ad
  .exact h.one j r.1 hj hi ad hn (by omega)
  .exactλe=>h.one r.1 j hi hj ad (by omega) hn e.symm
 |none=>
  grind [WjZ,WiH,Wg2]
theorem Wk4(h:SlOk l):SlOk (WhQ l k):=by
 unfold WhQ;cases hr:WmR l k with
 |some r=>
  obtain⟨hi,h1,_⟩:=Wds h hr;exact WiH h hi (.inl rfl) λh=>Ww rfl h
 |none=>exact h
theorem We1(l:List Int)(k:Int):0<=WdC l k/\WdC l k<=65536:=by
 unfold WdC;cases WmR l k<;>simp only<;>omega
theorem Wb6(h:SlOk l)(hk:0<=k/\k<=7)(hN:1048576<N):Zd8 N l k=some ((),((if WdC l k=0 then 0 else WdC l k-1),(decide (WdC l k≠0),()))):=by
 unfold Zd8 WdC;rw[Wbk h hN,Wdr,Wdp h hN];simp only[ret,Xd,Xx,Wf,Wb hk.1,Wb hk.2,Xbj];cases hr:WmR l k with
 |none=>rfl
 |some r=>
  obtain⟨hi,h1,h2,h3,h4,h5⟩:=Wds h hr;simp only[Ws (show¬((r.1:Int)<0) by omega),Wf,WW,Wb hi,Wa,WH hi,h1];rw[WaA (by unfold I64;omega),WbC (by omega),Wc (by omega),Wb (by omega)];simp only[Int.add_sub_cancel];rfl
theorem Wb0(h:SlOk l)(hk:0<=k/\k<=7)(hv:0<=v/\v<=65535)(hN:1048576<N):Zc1 N l k v=some ((),(Wmm l k v,(WdC l k,(true,())))):=by
 have hl:=h.len;unfold Zc1;rw[WbD (by omega),Wbk h hN,Wdr,Wad,Wdp h hN,Wb6 h hk hN,Wh7 hk hv,Wio hk];simp only[ret,Xd,Xx,Wf,Wb hk.1,Wb hk.2,Xbj,WaJ.2 hv];unfold Wmm WdC;cases hr:WmR l k with
 |some r=>
  obtain⟨hi,h1,h2,h3,h4,h5⟩:=Wds h hr;simp only[Wb (show((r.1:Int)>=0) by omega),Wa,WW,Wb hi,Xk];rw[Wc (by omega),W3 (by unfold I64;omega)];simp_all
 |none=>
  simp only[show decide ((-1:Int)>=0)=false from rfl,Wf];have hb:=Wrs k;obtain⟨hi,h1,h2,h3⟩:=WjZ h hk hr;rw[Wg0 (by unfold I64;omega)];obtain⟨N',rfl⟩:∃N',N=N'+1+1:=⟨N-2,by omega⟩;have je:4*Wbe k=(((4*Wbe k).toNat:Nat):Int):=by omega
  have eH:∀n,Zbh (N'+1+1) k v l (λjh eO=>(bif inb jh (Xb l)then(some ((),(Xi l (Xa jh) (1+65536*k+v),(0,(true,())))))else none)) (n+1) (We0 l k:Int)=some ((),(l.set (We0 l k) (1+65536*k+v),((0:Int),(true,())))):=λn=>by
   simp only[Zbh,WD hi,WH hi,h1,Wa,bne_self_eq_false,Wf];rw[Xk]
  rcases h3 with h3|⟨h3,h4⟩
  .grind
  .have ad:(4*Wbe k).toNat<l.length:=by omega
   have hg:Wcu l (4*Wbe k) 0=l[(4*Wbe k).toNat]:=WP ad _;rw[hg]at h4;have jb:=eH N';rw[je];rw[Zbh];simp only[WD ad,WH ad,Wa];rw[show(l[(4*Wbe k).toNat] !=0)=true by grind,Wt (by omega),←h3]
   grind
theorem Wda(h:SlOk l)(hk:0<=k/\k<=7)(hN:1048576<N):Zfz N l k=some ((),(WhQ l k,(WdC l k,(true,())))):=by
 have hl:=h.len;unfold Zfz;rw[WbD (by omega),Wbk h hN,Wdr,Wdp h hN,Wb6 h hk hN];simp only[ret,Xd,Xx,Wf,Wb hk.1,Wb hk.2,Xbj];unfold WhQ WdC;cases hr:WmR l k with
 |some r=>
  obtain⟨hi,h1,h2,h3,h4,h5⟩:=Wds h hr;simp only[Ws (show¬((r.1:Int)<0) by omega),Wa,Wf,WW,Wb hi,Xk];rw[Wc (by omega),W3 (by unfold I64;omega)];simp_all
 |none=>rfl
end
section
abbrev Shf:=List Int×Int
abbrev Un:=Int×Int×Int
structure ShOk(s:Shf):Prop where
 slots:SlOk s.1
 cnt:0<=s.2/\s.2<=65535
def UnV(u:Un):Prop:=(u.1=1/\(0<=u.2.1/\u.2.1<=7)/\0<=u.2.2/\u.2.2<=65535)\/(u.1=2/\(0<=u.2.1/\u.2.1<=7)/\u.2.2=0)\/(u.1=3/\u.2.1=0/\0<=u.2.2/\u.2.2<=65535)
def Wg9(s:Shf)(u:Un):Shf:=
 if u.1=1 then(Wmm s.1 u.2.1 u.2.2,s.2)else if u.1=2 then(WhQ s.1 u.2.1,s.2)else if u.1=3 then(s.1,(s.2-u.2.2+65536)%65536)else s
def WfV(k e:Int):Un:=if e=0 then(2,k,0)else(1,k,e-1)
def Wbc(s:Shf)(o:Opn)(r:List Int):Shf×List Int×Un:=
 if o.1=12 then((Wmm s.1 o.2.1 (Wcu r o.2.2.1 0),s.2),Wll r o.2.2.2 (WdC s.1 o.2.1%65536),WfV o.2.1 (WdC s.1 o.2.1))else
 if o.1=13 then(s,Wll r o.2.1 (WdC s.1 o.2.2.1%65536),(0,0,0))else
 if o.1=14 then((WhQ s.1 o.2.1,s.2),Wll r o.2.2.1 (WdC s.1 o.2.1%65536),WfV o.2.1 (WdC s.1 o.2.1))else
 if o.1=15 then((s.1,(s.2+Wcu r o.2.1 0)%65536),r,(3,0,Wcu r o.2.1 0))else
 (s,Wll r o.2.1 s.2,(0,0,0))
def WcM(o:Opn):Int×Int:=
 if o.1=12\/o.1=14 then(o.2.1,2)else if o.1=13 then(o.2.2.1,1)else if o.1=15 then(8,1)else(8,2)
section
variable{o:Opn}
theorem Wq3(h:Wd9 o=true)(h5:o.1=12):Wd5 o.2.1=true/\WU o.2.2.1=true/\WU o.2.2.2=true:=by
 obtain⟨k,a,b,c⟩:=o;simp only at h5;subst h5;have:(Wd5 a&&WU b&&WU c)=true:=h;simp_all
theorem WrY(h:Wd9 o=true)(h5:o.1=13):WU o.2.1=true/\Wd5 o.2.2.1=true:=by
 obtain⟨k,a,b,c⟩:=o;simp only at h5;subst h5;have:(WU a&&Wd5 b&&(c==(0:Int)))=true:=h;simp_all
theorem WqZ(h:Wd9 o=true)(h5:o.1=14):Wd5 o.2.1=true/\WU o.2.2.1=true:=by
 obtain⟨k,a,b,c⟩:=o;simp only at h5;subst h5;have:(Wd5 a&&WU b&&(c==(0:Int)))=true:=h;simp_all
theorem Ws9(h:Wd9 o=true)(h5:o.1=15):WU o.2.1=true:=by
 obtain⟨k,a,b,c⟩:=o;simp only at h5;subst h5;have:(WU a&&(b==(0:Int))&&(c==(0:Int)))=true:=h;simp_all
theorem Wss(h:Wd9 o=true)(h5:o.1=16):WU o.2.1=true:=by
 obtain⟨k,a,b,c⟩:=o;simp only at h5;subst h5;have:(WU a&&(b==(0:Int))&&(c==(0:Int)))=true:=h;simp_all
end
theorem Wb4{x:Int}:Wd5 x=true↔0<=x/\x<=7:=by unfold Wd5;simp
variable{N:Nat}{s:Shf}{u:Un}{o:Opn}{r:List Int}
theorem WkV{k e:Int}(hk:0<=k/\k<=7)(he:0<=e/\e<=65536):UnV (WfV k e):=by
 unfold WfV UnV
 grind
theorem WnJ(h:ShOk s)(hu:UnV u):ShOk (Wg9 s u):=by
 unfold Wg9;rcases hu with⟨h1,h2,h3⟩|⟨h1,h2,h3⟩|⟨h1,h2,h3⟩
 .rw[We h1];exact⟨Wgg h.slots h2 h3,h.cnt⟩
 .rw[Wc (by omega),We h1];exact⟨Wk4 h.slots,h.cnt⟩
 .rw[Wc (by omega),Wc (by omega),We h1];exact⟨h.slots,by omega⟩
theorem Wnr(h:ShOk s)(hr:Vals 4 r)(ho:Wd9 o=true)(fK:12<=o.1):ShOk (Wbc s o r).1/\Vals 4 (Wbc s o r).2.1/\((Wbc s o r).2.2.1≠0->UnV (Wbc s o r).2.2)/\((Wbc s o r).2.2.1=0->(Wbc s o r).1=s):=by
 have pO:=Wl9 ho;unfold Wbc;split
 .obtain⟨a,b,c⟩:=Wq3 ho ‹_›;rw[Wb4]at a;have hg:=We1 s.1 o.2.1;exact⟨⟨Wgg h.slots a (hr.get _),h.cnt⟩,hr.set _ (by omega),λ_=>WkV a hg,λh=>by unfold WfV at h;split at h<;>(simp_all)⟩
 .split
  .exact⟨h,hr.set _ (by omega),λh=>Ww rfl h,λ_=>rfl⟩
  .split
   .obtain⟨a,b⟩:=WqZ ho ‹_›;rw[Wb4]at a;have hg:=We1 s.1 o.2.1;exact⟨⟨Wk4 h.slots,h.cnt⟩,hr.set _ (by omega),λ_=>WkV a hg,λh=>by unfold WfV at h;split at h<;>(simp_all)⟩
   .split
    .have:=hr.get o.2.1.toNat;have:=h.cnt;refine⟨⟨h.slots,by grind⟩,hr,λ_=>.inr (.inr ⟨rfl,rfl,hr.get _⟩),λh=>by simp_all⟩
    .exact⟨h,hr.set _ h.cnt,λh=>Ww rfl h,λ_=>rfl⟩
theorem Wdt(h:ShOk s)(hN:1048576<N):Zgg N s=ret true:=by
 unfold Zgg;rw[Wbk h.slots hN,Wad,WaJ.2 h.cnt];rfl
theorem We4(h:ShOk s):Zff N s=ret s:=by
 unfold Zff;rw[WbD (by have:=h.slots.len;omega)];rfl
theorem WhM(hu:UnV u):Zhx N u=ret true:=by
 unfold Zhx;simp only[Wy,Wdr,Wad,ret,Xd];rcases hu with⟨h1,h2,h3⟩|⟨h1,h2,h3⟩|⟨h1,h2,h3⟩
 .simp_all [Wc,We,WaJ]
 .simp_all
 simp_all [Wc,We,WaJ]
theorem WgB(h:ShOk s)(hu:UnV u)(hN:1048576<N):Zhh N s u=some ((),(Wg9 s u,(true,()))):=by
 unfold Zhh Wg9;rw[We4 h,WhM hu];simp only[ret,Xd];rw[Wdt h hN];simp only[ret,Xd,Xx,Wf,Wy];have hc:=h.cnt;rcases hu with⟨h1,h2,h3⟩|⟨h1,h2,h3⟩|⟨h1,h2,h3⟩
 .rw[We h1,We h1,Wb0 h.slots h2 h3 hN];rfl
 .rw[Wc (by omega),We h1,Wc (by omega),We h1,Wda h.slots h2 hN];rfl
 .rw[Wc (by omega),Wc (by omega),We h1,Wc (by omega),Wc (by omega),We h1];rw[WaA (by unfold I64;omega),W3 (by unfold I64;omega),WbC (by omega)];rfl
theorem Wd7{k e:Int}(he:0<=e/\e<=65536):Zg1 N k e=ret (WfV k e):=by
 unfold Zg1 WfV;rw[Wy,WaA (by unfold I64;omega)];split<;>rfl
theorem Wjx(ho:Wd9 o=true)(fK:12<=o.1):Zgn N o=some ((),((WcM o).1,((WcM o).2,()))):=by
 have pO:=Wl9 ho;unfold Zgn WcM;rw[Wd3,ho];simp only[ret,Xd,Xx,Wf,Wy];have:o.1=12\/o.1=13\/o.1=14\/o.1=15\/o.1=16:=by omega
 rcases this with h|h|h|h|h<;>simp[h]
theorem Wgy(h:ShOk s)(hr:Vals 4 r)(ho:Wd9 o=true)(fK:12<=o.1)(hN:1048576<N):
  Zhi N s o r=some ((),((Wbc s o r).1,((Wbc s o r).2.1,((Wbc s o r).2.2,(true,()))))):=by
 have pO:=Wl9 ho;have cU:=hr.len;have hc:=h.cnt;unfold Zhi Wbc;rw[We4 h,WbD (by omega)];simp only[ret,Xd];rw[Wdt h hN,Wcf (by omega) hN,WdM.2 hr,Wfb,Wo7 ho fK];simp only[ret,Xd,Xx,Wf,bne_self_eq_false,Wy,show inz (65536:Int)=true from rfl,Wa,Wn,Xbb];by_cases e1:o.1=12
 .obtain⟨a,b,c⟩:=Wq3 ho e1;rw[Wb4]at a;rw[We e1,We e1,Waz b cU,Waz c cU];have hg:=We1 s.1 o.2.1;rw[Wb0 h.slots a (hr.get _) hN];simp only[Wa,Xd,Wd7 hg,ret];rw[WbC (by omega)];rfl
 .rw[Wc e1,Wc e1];by_cases e2:o.1=13
  .obtain⟨a,b⟩:=WrY ho e2;rw[Wb4]at b;have hg:=We1 s.1 o.2.2.1;rw[We e2,We e2,Waz a cU,Wb6 h.slots b hN];simp only[Wa,Xd];by_cases hz:WdC s.1 o.2.2.1=0
   .rw[hz];rfl
   .rw[Wc hz,Wb hz,W3 (by unfold I64;omega),WbC (by omega),Int.sub_add_cancel];simp only[Wa,Xdt];rfl
  .rw[Wc e2,Wc e2];by_cases e3:o.1=14
   .obtain⟨a,b⟩:=WqZ ho e3;rw[Wb4]at a;have hg:=We1 s.1 o.2.1;rw[We e3,We e3,Waz b cU,Wda h.slots a hN];simp only[Wa,Xd,Wd7 hg,ret];rw[WbC (by omega)];rfl
   .rw[Wc e3,Wc e3];by_cases e4:o.1=15
    .have a:=Ws9 ho e4;have hv:=hr.get o.2.1.toNat;rw[We e4,We e4,Waz a cU];simp only[Wa];rw[W3 (by unfold I64;omega),WbC (by omega)];rfl
    .have a:=Wss ho (by omega);rw[Wc e4,Wc e4,Waz a cU];rfl
def WlD(l:List Int):Bool:=decide (l.length=8)&&l.all λx=>decide (0<=x)&&decide (x<=65536)
structure ThOk(t:List Int×List Int×Int):Prop where
 cells:Vals 8 t.1
 map:t.2.1.length=8/\∀x∈t.2.1,0<=x/\x<=65536
 cnt:0<=t.2.2/\t.2.2<=65535
def WrZ(t:List Int×List Int×Int):Bool:=WfI t.1&&(WlD t.2.1&&WbE t.2.2)
theorem WqW{t:List Int×List Int×Int}:WrZ t=true↔ThOk t:=by
 unfold WrZ WlD;simp only[Xg,WmC,WaJ,Wg,Xab];exact⟨λh=>⟨h.1,h.2.1,h.2.2⟩,λh=>⟨h.cells,h.map,h.cnt⟩⟩
theorem Whs{l:List Int}(hl:l.length<=1048576)(hN:1048576<N):Zfd N l=ret (WlD l):=by
 unfold Zfd WlD;have h1:=WT (l:=l) (V:=Unit) (R:=Unit×Kr) (lp:=λn j v=>Zcr N l (some ((),(false,()))) (λaL aC=>(some ((),((Wh l)==(8:Int),())))) n j) (n:=N) (by omega)
  (body:=λj x v k=>bif !(decide (0<=x)&&decide (x<=65536))then some ((),(false,()))else k v) (K:=λ_ v=>some ((),((Wh l)==(8:Int),())))
  (λn i v hi=>by simp only[Zcr,Wan hi,WD hi,WH hi,Wt (show i<4611686018427387904 by omega),Wa,WM,ret,Xd])
  (λn v=>by simp[Zcr,WaC,Xm,Wf]) ()
 refine h1.trans ?_;rw[WbH (p:=λx=>!(decide (0<=x)&&decide (x<=65536))) (E:=λ_=>some ((),(false,()))) l 0 () (λj x v k _=>rfl),Wdk];have e:((Wh l)==(8:Int))=decide (l.length=8):=by
  grind [Wh]
 rw[e];cases l.all _<;>cases decide (l.length=8)<;>rfl
theorem Whx{t:List Int×List Int×Int}(h1:t.1.length<=1048576)(h2:t.2.1.length<=1048576)(hN:1048576<N):Zg4 N t=ret (WrZ t):=by
 unfold Zg4 WrZ;rw[WfR h1 hN,Whs h2 hN,Wad];cases WfI t.1<;>cases WlD t.2.1<;>rfl
def WdV:List Int->Nat->List Int->List Int
 | [],_,l=>l
 |x::m,k,l=>WdV m (k+1) (if x>0 then Wmm l k (x-1)else l)
def Wmt(m:List Int):List Int:=WdV m 0 (Xr 16 0)
theorem WkJ:SlOk (Xr 16 0) where
 len:=by simp
 each:=λi h=>.inl (Xdd ..)
 one:=λi j hi hj _ h=>Ww (Xdd ..) h
theorem WgK:∀(m:List Int) (k:Nat) (l:List Int),k+m.length<=8->(∀x∈m,0<=x/\x<=65536)->SlOk l->SlOk (WdV m k l)
 | [],_,l,_,_,h=>h
 |x::m,k,l,hk,hx,h=>by
  have h0:=hx x (Xh ..);rw[Xn]at hk;refine WgK m (k+1) _ (by omega) (λy hy=>hx y (Xe _ hy)) ?_
  grind [Wgg]
theorem WpT{m:List Int}(hl:m.length=8)(hx:∀x∈m,0<=x/\x<=65536):SlOk (Wmt m):=WgK m 0 _ (by omega) hx WkJ
theorem WfB{m:List Int}(hl:m.length=8)(hx:∀x∈m,0<=x/\x<=65536)(hN:1048576<N):Zcs N m=ret (Wmt m):=by
 have hm:WlD m=true:=by simp_all [WlD,Xg,Wg,Xab]
 unfold Zcs Wmt;rw[Whs (by omega) hN,hm];simp only[ret,Xd,Xx,Wf];rw[show Zir N=ret (Xr 16 0)from rfl];simp only[ret,Xd];have lp:∀(d j n:Nat) (l:List Int),j+d=m.length->d<n->SlOk l->Zav N m (λeJ bD bR=>(some ((),(bR,())))) n (j:Int) l=ret (WdV (m.drop j) j l):=by
  intro d
  induction d with
  |zero=>
   intro j n l hj hn hs;obtain⟨n,rfl⟩:∃n',n=n'+1:=⟨n-1,by omega⟩;have:j=m.length:=by omega
   subst this;simp[Zav,WaC,Xm,Wf,Xcz,WdV]
  |succ d ih=>
   intro j n l hj hn hs;obtain⟨n,rfl⟩:∃n',n=n'+1:=⟨n-1,by omega⟩;have ad:j<m.length:=by omega
   have hb:=hx m[j] (Xar ad);simp only[Zav,Wan ad,WD ad,WH ad,Wt (show j<4611686018427387904 by omega),Wa,WaF];rw[Xbm ad,WdV];by_cases h0:m[j]>0
   .rw[We h0,We h0,WaA (by unfold I64;omega),Wb0 hs (by omega) (by omega) hN]
    grind [Wgg]
   grind
 have:=lp m.length 0 N (Xr 16 0) (by omega) (by omega) WkJ;simp_all
end
end Go.Sx
