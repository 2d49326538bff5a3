/- Plain laws of the Lean functions. -/
import Derived.Test.YthfplagpoopmcaaGreatMW1
open List renaming pairwise_iff_getElem→Xaw,length_set→Xbb,getElem_set→Xci,getElem_mem→Xar,length_cons→Xn,mem_cons_self→Xh,filter_cons→Xbc,mem_cons_of_mem→Xe,append→Xt,append_eq→Xdv,length→Xb,getElem?_eq_getElem→Xp,mem_append→Xl,mem_singleton→Xaf,eq_nil_of_length_eq_zero→Xu,mem_map→Xv,mem_filter→Xat,getElem_of_mem→Xcd,getD→Xc,length_append→Xo,length_nil→Xae,take→Xal,replicate→Xr,filter_eq_self→Xfv,all_eq_true→Xab,length_map→Xad,set_set→Xdt,set→Xi,map_set→Xfd,set_getElem_self→Xbi,dropLast_eq_take→Xfo,drop_length→Xcz,drop_eq_getElem_cons→Xbm,drop_zero→Xca,length_take→Xbe,pairwise_append→Xah,map_append→Xy,mem_of_mem_take→Xcj,foldl_cons→Xct,all_cons→Xbk
open Bool renaming and_eq_true→Xg,not_true→Xx,and_self→Xbj,and_eq_false_iff→Xdh,not_false→Xcm,false_eq_true→Xap,true_and→Xcp
open Option renaming bind_some→Xd,getD_some→Xea,isSome_some→Xga
open Nat renaming le_refl→Xm,zero_add→Xbh,sub_zero→Xda,lt_trichotomy→Xex
open Int renaming toNat_natCast→Xk,toNat→Xa,le_refl→Xcv
namespace Go.Sx
set_option linter.unusedVariables false
set_option linter.unusedSimpArgs false
section
abbrev Hd:=Int×Int×Int
def HdV(h:Hd):Prop:=(1<=h.1/\h.1<=9)/\(0<=h.2.1/\h.2.1<=8)/\1<=h.2.2/\h.2.2<=2
def HdB(a b:Hd):Prop:=cfH a b<0/\(a.2.1=b.2.1->a.2.2≠2/\b.2.2≠2)
structure HOk(l:List Hd):Prop where
 val:∀h∈l,HdV h
 up:l.Pairwise HdB
theorem HOk.ris{l:List Hd}(h:HOk l):Ris cfH l:=h.up.imp λh=>h.1
def Wft(l:List Hd)(who:Int):List Int:=(l.filter λh=>decide (h.1=who)).map (·.2.1)
def blk(who what mode:Int)(h:Hd):Bool:=decide (h.2.1=what)&&(decide (h.1≠who)&&(decide (mode=2)||decide (h.2.2=2)))
def Whf(l:List Hd)(who what mode:Int):List Int:=(l.filter (blk who what mode)).map (·.1)
def Wq0(who what:Int)(h:Hd):Bool:=decide (h.1=who)&&decide (h.2.1=what)
def Wob(l:List Hd)(who what:Int):Int:=match fnd (Wq0 who what) l 0 with
 |some r=>r.2.2.2
 |none=>0
def Wng(a b:Int):Int:=if a<=b then b else a
def WjM(l:List Hd)(who what mode:Int):List Hd:=Wes cfH l (who,what,Wng (Wob l who what) mode)
def WeD(l:List Hd)(who what mode:Int):Option (List Hd):=if Whf l who what mode= []then some (WjM l who what mode)else none
def W6(l:List Hd)(who:Int):List Hd:=l.filter λh=>!(h.1==who)
theorem Wcl{α:Type}{a b:Int}{x y:α}:(bif a !=b then x else y)=if a=b then y else x:=by
 simp_all
theorem WrH{α:Type}{cf:α->α->Int}(hc:Lin cf){L M:List α}(hL:Ris cf L)(hM:Ris cf M)(hm:∀x,x∈L↔x∈M):L=M:=by
 rw[←WlA hc hM (hL.imp λh=>.inl h) hm,WlA hc hL (hL.imp λh=>.inl h) λx=>Iff.rfl]
theorem apH{a b:Hd}:Ap cfH a b↔¬(a.1=b.1/\a.2.1=b.2.1):=by grind [Ap,Wbx]
theorem WkA{a b c d:Hd}(h1:a.1=c.1)(h2:a.2.1=c.2.1)(h3:b.1=d.1)(h4:b.2.1=d.2.1):cfH a b<0↔cfH c d<0:=by simp_all [Wbx]
variable{N:Nat}{l:List Hd}{who what mode:Int}
theorem Wp9(h:Ris cfH l){i:Nat}(hi:i<l.length){e:Hd}(h1:e.1=l[i].1)(h2:e.2.1=l[i].2.1):Ris cfH (l.set i e):=by
 unfold Ris at*;rw[Xaw]at*;intro a b ha hb eU;rw[Xbb]at ha hb;rw[Xci,Xci];have:=h a b ha hb eU;by_cases c1:i=a
 .subst c1;rw[We rfl,Wc (by omega)];exact(WkA h1 h2 rfl rfl).2 this
 .rw[Wc c1];by_cases c2:i=b
  .subst c2;rw[We rfl];exact(WkA rfl rfl h1 h2).2 this
  simp_all
theorem WrR(h:Ris cfH l){i:Nat}(hi:i<l.length){e:Hd}(h1:e.1=l[i].1)(h2:e.2.1=l[i].2.1):l.set i e=Wes cfH l e:=by
 refine WrH Wmr (Wp9 h hi h1 h2) (Wb3 Wmr h) λx=>?_;rw[(Wj8 Wmr (h.imp λh=>.inl h) hi (by grind [apH])).2 x,WbI Wmr h]
theorem Wr1{h:Hd}:(decide (1<=h.1)&&decide (h.1<=9))=true/\(decide (0<=h.2.1)&&decide (h.2.1<=8))=true/\(decide (1<=h.2.2)&&decide (h.2.2<=2))=true↔HdV h:=by
 simp[HdV,Xg,Wg]
theorem Wei{h:Hd}(hv:HdV h):Zft N h.1 h.2.1 h.2.2=ret true:=by
 obtain⟨a,b,c⟩:=Wr1.2 hv;simp_all [Zft,WM,ret,Xd,Wa]
theorem WkC{a b:Hd}(ha:HdV a)(hb:HdV b):Zfo N a b=ret (cfH a b):=by
 obtain⟨a1,a2,a3⟩:=ha;obtain⟨b1,b2,b3⟩:=hb
 grind [Zfo,cfH,WaA,I64]
theorem Wbb(h:HOk l)(hl:l.length<=1048576)(hN:1048576<N):Zc2 N l=ret true:=by
 have lp:∀(d j n:Nat),j+d=l.length->d<n->Zab N l (some ((),(false,()))) (λeJ bD=>(some ((),(true,())))) n (j:Int)=ret true:=by
  intro d
  induction d with
  |zero=>
   intro j n hj hn;obtain⟨n,rfl⟩:∃n',n=n'+1:=⟨n-1,by omega⟩;simp_all [Zab,WaC,Xm,Wf]
  |succ d ih=>
   intro j n hj hn;obtain⟨n,rfl⟩:∃n',n=n'+1:=⟨n-1,by omega⟩;have ad:j<l.length:=by omega
   have hv:=h.val l[j] (Xar ad);have cV:=ih (j+1) n (by omega) (by omega);simp only[Zab,Wan ad,WD ad,WH ad,Wt (show j<4611686018427387904 by omega),Wa,Wei hv,ret,Xd,Xx,Wf,cV];by_cases h0:j=0
   .grind
   .have e1:decide ((j:Int)>0)=true:=by simp;omega
    have e2:WC .i64 (j:Int) 1=((j-1:Nat):Int):=by grind [WaA,I64]
    have bz:j-1<l.length:=by omega
    have hw:=h.val l[j-1] (Xar bz);have hb:=Xaw.1 h.up (j-1) j bz ad (by omega);simp only[e1,e2,Wa,WD bz,WH bz,WkC hw hv,ret,Xd];rw[Ws (show¬(cfH l[j-1] l[j]>=0) by have:=hb.1;omega)];simp only[Wf,Wy];by_cases hs:l[j-1].2.1=l[j].2.1
    .rw[We hs,Wc (hb.2 hs).2,Wc (hb.2 hs).1]
    simp_all
 exact lp l.length 0 N (by omega) (by omega)
theorem WgY{α β R:Type}{body:Int->α->List β->(List β->Option R)->Option R}{K:Int->List β->Option R}{p:α->Bool}{f:α->β}:∀(l:List α) (j:Nat) (o:List β),o.length+l.length<=2000000->
  (∀(j:Nat) x (v:List β) k,x∈l->v.length<=2000000->body j x v k=bif p x then k (v++ [f x])else k v)->Wbt body K l j o=K ((j+l.length:Nat):Int) (o++(l.filter p).map f)
 | [],j,o,_,_=>by simp[Wbt]
 |x::l,j,o,h,hb=>by
  rw[Xn]at h;rw[Wbt,hb j x o _ (Xh ..) (by omega),Xbc];have ih:=λo' gW=>WgY (body:=body) (K:=K) (p:=p) (f:=f) l (j+1) o' gW λj y v k hy=>hb j y v k (Xe _ hy)
  grind
theorem WgN(h:HOk l)(hl:l.length<=1048576)(hN:1048576<N):Zd9 N l who=ret (Wft l who):=by
 unfold Zd9 Wft;rw[Wbb h hl hN];simp only[ret,Xd,Xx,Wf];have h1:=WT (l:=l) (V:=List Int) (R:=Unit×(List Int×Unit)) (lp:=λn j v=>Za7 N who l (λaC aZ aU=>(some ((),(aU,())))) n j v) (n:=N) (by omega)
  (body:=λj x v k=>bif x.1==who then(bif WV (v.length+ [x.2.1].length)then k (Xt v [x.2.1])else none)else k v) (K:=λ_ v=>ret v)
  (λn i v hi=>by simp only[Za7,Wan hi,WD hi,WH hi,Wt (show i<4611686018427387904 by omega),Wa])
  (λn v=>by simp[Za7,WaC,Xm,Wf]) []
 refine h1.trans ?_;rw[WgY (p:=λh=>decide (h.1=who)) (f:=(·.2.1)) l 0 [] (by simp;omega) (λj x v k _ hv=>by rw[WK (by simp;omega)];simp only[Wy,WaF,Wa,Xdv])];rfl
theorem WhN(h:HOk l)(hm:1<=mode/\mode<=2)(hl:l.length<=1048576)(hN:1048576<N):Zfu N l who what mode=ret (Whf l who what mode):=by
 unfold Zfu Whf;rw[Wbb h hl hN];simp only[ret,Xd,Xx,Wf,WM,Wb hm.1,Wb hm.2,Xbj];have h1:=WT (l:=l) (V:=List Int) (R:=Unit×(List Int×Unit)) (lp:=λn j v=>Zak N who what mode l (λdH eC cM=>(some ((),(cM,())))) n j v) (n:=N) (by omega)
  (body:=λj x v k=>bif x.2.1==what then(bif x.1 !=who then(bif mode==2 then(bif WV (v.length+ [x.1].length)then k (Xt v [x.1])else none)else(bif x.2.2==2 then(bif WV (v.length+ [x.1].length)then k (Xt v [x.1])else none)else k v))else k v)else k v) (K:=λ_ v=>ret v)
  (λn i v hi=>by simp only[Zak,Wan hi,WD hi,WH hi,Wt (show i<4611686018427387904 by omega),Wa])
  (λn v=>by simp[Zak,WaC,Xm,Wf]) []
 refine h1.trans ?_;rw[WgY (p:=blk who what mode) (f:=(·.1)) l 0 [] (by simp;omega) (λj x v k _ hv=>by
  rw[WK (by simp;omega)];unfold blk;simp only[Wy,Wcl,Wa,Xdv];by_cases c1:x.2.1=what<;>by_cases c2:x.1=who<;>by_cases c3:mode=2<;>by_cases c4:x.2.2=2<;>simp[c1,c2,c3,c4])]
 rfl
theorem Wsd(h:HOk l):0<=Wob l who what/\Wob l who what<=2:=by
 unfold Wob;cases hf:fnd (Wq0 who what) l 0 with
 |none=>simp
 |some r=>
  have:=Wcs hf;have:=h.val r.2 (List.mem_of_getElem? this.2.2.2)
  grind [HdV]
theorem Wgx(h:HOk l)(hw:1<=who/\who<=9)(ht:0<=what/\what<=8)(hm:1<=mode/\mode<=2)(hl:l.length<=1048000)(hN:1048576<N):
  Ze7 N l who what mode=some ((),((WeD l who what mode).getD l,((WeD l who what mode).isSome,()))):=by
 unfold Ze7 WeD;have oX:Zcu N l=ret l:=by grind [Zcu,WK]
 have ve:Zft N who what mode=ret true:=Wei (h:=(who,what,mode)) ⟨hw,ht,hm⟩;rw[oX,Wbb h (by omega) hN,ve,WhN h hm (by omega) hN];simp only[ret,Xd,Xx,Wf,WaF];by_cases hb:Whf l who what mode= []
 .rw[Wc (by rw[hb];simp[Wh]),We hb];have h1:=Wjq (l:=l) (p:=Wq0 who what) (N:=N) (lp:=λn j=>Za8 N who what mode (Wh l) l (λbC=>(some ((),(bC,(true,()))))) (λeO oH=>
  (bif WV ((Xb l)+(Xb ([(who,(what,mode))])))then
 ((Zo N (Xt l ([(who,(what,mode))]))).bind λcJ=>
 (some ((),(cJ.1.1,(true,())))))else none)) n j)
   (K0:=λj=>some ((),(l.set j.toNat ((l.getD j.toNat (0,0,0)).1,(l.getD j.toNat (0,0,0)).2.1,Wsj (l.getD j.toNat (0,0,0)).2.2 mode),(true,())))) (K1:=(bif WV ((Xb l)+(Xb ([(who,(what,mode))])))then
 ((Zo N (Xt l ([(who,(what,mode))]))).bind λcJ=>
 (some ((),(cJ.1.1,(true,())))))else none)) (by omega) (by omega)
   (λn j hj=>by
    simp only[Za8,Wan hj,WD hj,WH hj,Wt (show j<4611686018427387904 by omega),Wa];simp[Wq0,Wy,WqV,WaF])
   (λn=>by simp[Za8,WaC,Xm,Wf])
  rw[h1];unfold WjM Wob;cases hf:fnd (Wq0 who what) l 0 with
  |some r=>
   obtain⟨g1,g2,g3,g4⟩:=Wcs hf;rw[Xbh]at g3;rw[Xda,Xp g3]at g4;injection g4 with g4;unfold Wq0 at g1;simp only[Xg,Wg]at g1;simp only[WH g3,g4,Xea,Xga];rw[Xk];have:Wsj r.2.2.2 mode=Wng r.2.2.2 mode:=by grind [Wsj,Wng]
   rw[this,g1.1,g1.2,WrR h.ris g3 (e:=(who,what,Wng r.2.2.2 mode)) (by simp_all) (by simp_all)]
  |none=>
   have hn:=Wgc hf;simp only;rw[WK (by simp;omega)];have hmx:Wng 0 mode=mode:=by unfold Wng;rw[We (by omega)]
   have rO:=Wik (cf:=cfH) (L:=l) (e:=(who,what,mode)) (h.ris.imp λh=>.inl h) (λx hx=>by
    grind [apH,Wq0,Xdh,decide_eq_false_iff_not])
   unfold Zo;simp only[Wa,Xdv];rw[WmH (rng:=Wr2) (N:=N) Wmr (M:=Wes cfH l (who,what,mode)) (Wb3 Wmr h.ris) rO.1 (λx=>by rw[rO.2 x,WbI Wmr h.ris]) (λx hx=>by
    rcases Xl.1 hx with hx|hx
    .have:=h.val x hx
     grind [HdV,Wr2,Wrf]
    grind [Xaf,Wr2,Wrf]) (by simp;omega)]
   simp_all
 .rw[We (by
   simp_all [Whf,Xu,Wh]),Wc hb]
  rfl
theorem Wn8(h:HOk l)(hw:1<=who/\who<=9)(ht:0<=what/\what<=8)(hm:1<=mode/\mode<=2)(hb:Whf l who what mode= []):HOk (WjM l who what mode):=by
 have ke:=Wsd (who:=who) (what:=what) h;have fL:∀x∈l,x.2.1=what->x.1≠who->mode≠2/\x.2.2≠2:=λx hx h1 h2=>by
  refine Classical.byContradiction λhc=>?_;have:x.1∈Whf l who what mode:=Xv.2 ⟨x,Xat.2 ⟨hx,by grind [blk]⟩,rfl⟩;simp_all
 have lz:∀x∈l,x.2.1=what->x.1≠who->Wob l who what≠2:=λx hx h1 h2=>by
  unfold Wob;cases hf:fnd (Wq0 who what) l 0 with
  |none=>simp
  |some r=>
   obtain⟨g1,g2,g3,g4⟩:=Wcs hf;rw[Xbh]at g3;rw[Xda,Xp g3]at g4;injection g4 with g4;unfold Wq0 at g1;simp only[Xg,Wg]at g1;obtain⟨j,hj,rfl⟩:=Xcd hx;have hp:=Xaw.1 h.up;simp only;rw[←g4]at g1⊢;rcases Xex r.1 j with ad|heq|ad
   .exact((hp r.1 j g3 hj ad).2 (by rw[h1,g1.2])).1
   .simp_all
   .exact((hp j r.1 hj g3 ad).2 (by rw[h1,g1.2])).2
 unfold WjM;refine⟨λx hx=>?_,?_⟩
 .rcases(WbI Wmr h.ris).1 hx with rfl|hx
  .refine⟨hw,ht,?_⟩;simp only;unfold Wng;split<;>omega
  .exact h.val x hx.1
 .have hr:=Wb3 (e:=(who,what,Wng (Wob l who what) mode)) Wmr h.ris;have ay:=λx=>WbI (e:=(who,what,Wng (Wob l who what) mode)) (x:=x) Wmr h.ris;have hmj:∀x∈l,x.2.1=what->x.1≠who->Wng (Wob l who what) mode≠2:=λx hx h1 h2=>by
   have:=lz x hx h1 h2;have:=(fL x hx h1 h2).1;unfold Wng;split<;>omega
  unfold Ris at hr;rw[Xaw]at hr⊢;intro i j hi hj nj;refine⟨hr i j hi hj nj,λhs=>?_⟩;have ad:=hr i j hi hj nj;have m1:=(ay _).1 (Xar hi);have m2:=(ay _).1 (Xar hj);generalize (Wes cfH l (who,what,Wng (Wob l who what) mode))[i]=x at*;generalize (Wes cfH l (who,what,Wng (Wob l who what) mode))[j]=y at*;rcases m1 with rfl|m1<;>rcases m2 with rfl|m2
  .exact Ww ad (Wmr.irr _)
  .grind [apH]
  .grind [apH]
  .obtain⟨a,ha,rfl⟩:=Xcd m1.1;obtain⟨b,bV,rfl⟩:=Xcd m2.1;have hp:=Xaw.1 h.up;rcases Xex a b with eU|eU|eU
   .exact(hp a b ha bV eU).2 hs
   .subst eU;exact Ww ad (Wmr.irr _)
   .exact Ww (Wmr.tr _ _ _ ad (hp b a bV ha eU).1) (Wmr.irr _)
theorem WgF(h:HOk l):HOk (W6 l who):=⟨λx hx=>h.val x (Xat.1 hx).1,h.up.filter _⟩
theorem WjI(h:HOk l):l.length<=81:=by
 have key:∀(l:List Hd) (c:Int),Ris cfH l->(∀e∈l,HdV e/\c<=9*e.2.1+e.1)->1<=c->(l.length:Int)<=82-c\/l= []:=by
  intro l
  induction l with
  |nil=>simp_all
  |cons a l ih=>
   intro c hr hb hc;left;have h1:=List.pairwise_cons.1 hr;have ha:=hb a (Xh ..);unfold HdV at ha;rcases ih (9*a.2.1+a.1+1) h1.2 (λe he=>⟨(hb e (Xe _ he)).1,by
    grind [Wbx,Xe,HdV]⟩) (by omega)with h|h
   .grind
   grind
 rcases key l 1 h.ris (λe he=>⟨h.val e he,by have:=h.val e he;grind [HdV]⟩) (by omega)with h|h
 .omega
 simp_all
theorem WgZ{α V R:Type}{body:Int->α->V->(V->Option R)->Option R}{K:Int->V->Option R}{p:α->Bool}{E:Int->V->Option R}:∀(l:List α) (j:Nat) (v:V),(∀(j:Nat) x v k,x∈l->body j x v k=bif p x then E j v else k v)->
  (∃a x r,l=a++x::r/\(∀y∈a,p y=false)/\p x=true/\Wbt body K l j v=E ((j+a.length:Nat):Int) v)\/((∀y∈l,p y=false)/\Wbt body K l j v=K ((j+l.length:Nat):Int) v)
 | [],j,v,_=>.inr ⟨by simp,rfl⟩
 |x::l,j,v,h=>by
  rw[Wbt,h j x v _ (Xh ..)];cases hp:p x
  .simp only[Wf];rcases WgZ (E:=E) l (j+1) v λj y v k hy=>h j y v k (Xe _ hy)with⟨a,y,r,h1,h2,h3,h4⟩|⟨h1,h2⟩
   .refine .inl ⟨x::a,y,r,by rw[h1];rfl,λz hz=>?_,h3,?_⟩
    .rcases List.mem_cons.1 hz with rfl|hz
     .exact hp
     .exact h2 z hz
    .rw[h4,Xn,show j+1+a.length=j+(a.length+1) by omega]
   grind
  .exact .inl ⟨[],x,l,rfl,by simp,hp,rfl⟩
theorem Woq{N:Nat}(a0:Int){R:Type}(K:Int->Int->Bool->List Hd->Int->Option R):
  ∀(r a m:List Hd) (n:Nat),r.length<n->a.length+m.length+r.length<=1048576->∃m',
   Zb N K n (a.length:Int) ((a.length+m.length:Nat):Int) (a++m++r) a0=
    K ((a++r.filter λx=>!(x.1==a0)).length:Int) ((a.length+m.length+r.length:Nat):Int) false ((a++r.filter λx=>!(x.1==a0))++m') a0
 | [],a,m,0,h,_=>by simp at h
 | [],a,m,n+1,h,_=>by
  refine⟨m,?_⟩;have e1:decide (((a.length+m.length:Nat):Int)<Wh (a++m++ []))=false:=by simp[Wh]
  simp only[Zb,e1,Wf];simp
 |x::r,a,m,0,h,_=>by simp at h
 |x::r,a,m,n+1,h,hb=>by
  simp only[Xn]at h hb;have hj:a.length+m.length<(a++m++x::r).length:=by simp
  have hi:a.length<(a++m++x::r).length:=by simp;omega
  have hx:Xc (a++m++x::r) (a.length+m.length) ((0:Int),((0:Int),(0:Int)))=x:=by
   simp_all
  cases hp:x.1==a0
  .obtain⟨m2,pr,sf⟩:∃m2:List Hd,m2.length=m.length/\(a++m++x::r).set a.length x=(a++ [x])++m2++r:=by
    cases m with
    |nil=>simp_all
    |cons y m=>grind
   obtain⟨m',ih⟩:=Woq (N:=N) a0 K r (a++ [x]) m2 n (by omega) (by simp;omega);refine⟨m',?_⟩;simp only[Zb,Zdw,Wan hj,WD hj,WD hi,Xk,hx,hp,Xd,Wa,Xcm,Xk,sf,
    Wt (show a.length<4611686018427387904 by omega),Wt (show a.length+m.length<4611686018427387904 by omega)]
   have l1:(a++ [x]).length=a.length+1:=by simp
   rw[l1,pr,show a.length+1+m.length=a.length+m.length+1 by omega]at ih;rw[ih];simp only[Xbc,hp,Xcm,W9,List.append_assoc,List.singleton_append,Xn];rw[show a.length+m.length+1+r.length=a.length+m.length+(r.length+1) by omega]
  .obtain⟨m',ih⟩:=Woq (N:=N) a0 K r a (m++ [x]) n (by omega) (by simp;omega);refine⟨m',?_⟩;simp only[Zb,Zdw,Wan hj,WD hj,WD hi,Xk,hx,hp,Xd,Wa,Wf,Xx,
    Wt (show a.length+m.length<4611686018427387904 by omega)]
   simp only[Xo,Xn,Xae,Xbh]at ih;rw[show a.length+(m.length+1)=a.length+m.length+1 by omega,show a++(m++ [x])++r=a++m++x::r by simp]at ih;rw[ih];simp only[Xbc,hp,Xx,Wae,Xap,Xn];simp only[Xo];rw[show a.length+m.length+1+r.length=a.length+m.length+(r.length+1) by omega]
theorem WnV{N:Nat}{s:List Hd}{a0:Int}(hN:1048576<N)(hs:s.length<=100000):
  Zk N s a0=some ((a0,()),(s.filter λx=>!(x.1==a0),())):=by
 unfold Zk;have h1:=WT (l:=s) (V:={v:Int//v=a0}) (R:=Ki×Ki) (lp:=λn j v=>Zg N s (λbD aP=>some ((aP,()),(bD,()))) (λdH eC dm=>some ((dm,()),((-1:Int),()))) n j v.1) (n:=N) (by omega)
  (body:=λj x v k=>bif x.1==a0 then some ((v.1,()),(j,()))else k v) (K:=λ_ v=>some ((v.1,()),((-1:Int),())))
  (λn i v hi=>by
   obtain⟨v,rfl⟩:=v;simp only[Zg,Wan hi,WD hi,WH hi,Wt (show i<4611686018427387904 by omega),Wa,Zdw,Xd])
  (λn v=>by simp[Zg,WaC,Xm,Wf]) ⟨a0,rfl⟩
 simp only[]at h1;unfold Zq;rw[h1];rcases WgZ (body:=λj x (v:{v:Int//v=a0}) k=>bif x.1==a0 then some ((v.1,()),(j,()))else k v) (K:=λ_ v=>(some ((v.1,()),((-1:Int),())):Option (Ki×Ki))) (p:=λx=>x.1==a0)
  (E:=λj v=>some ((v.1,()),(j,()))) s 0 ⟨a0,rfl⟩ (λj x v k _=>rfl)with⟨a,x,r,cu,ha,hx,hr⟩|⟨ha,hr⟩
 .rw[hr];simp only[Xd,Xbh];have e0:((a.length:Int)== -1)=false:=by simp
  rw[e0,Wt (show a.length<4611686018427387904 by grind)];simp only[Wf];obtain⟨m',hd⟩:=Woq (N:=N) a0 (λdS oK dH bC dm=>
     (bif (decide ((0:Int)<=dS))&&(decide (dS<=((Xb bC):Int)))then
      (bif (decide ((0:Int)<=dS))&&(decide (dS<=((Xb ((Xal (Xa dS) bC)++Xr ((Xb bC) -(Xa dS)) ((0:Int),((0:Int),(0:Int)))++(List.drop (Xb bC) bC))):Int)))then
       (some ((dm,()),(Xal (Xa dS) ((Xal (Xa dS) bC)++Xr ((Xb bC) -(Xa dS)) ((0:Int),((0:Int),(0:Int)))++(List.drop (Xb bC) bC)),())))else none)else none)) r a [x] N (by grind) (by grind)
  rw[show a++ [x]++r=s by simp_all]at hd;simp only[Xn,Xae,Xbh]at hd;rw[hd];have hf:(s.filter λx=>!(x.1==a0))=a++r.filter λx=>!(x.1==a0):=by
   rw[cu,List.filter_append,Xbc];have:(a.filter λx=>!(x.1==a0))=a:=Xfv.2 λy hy=>by grind
   grind
  grind
 grind [Xfv]
theorem Wf8(h:HOk l)(hl:l.length<=100000)(hN:1048576<N):Zg5 N l who=ret (W6 l who):=by
 have oX:Zcu N l=ret l:=by grind [Zcu,WK]
 unfold Zg5;rw[oX,Wbb h (by omega) hN];simp only[ret,Xd,Xx,Wf];rw[WnV hN hl];rfl
end
section
def zWd:Wd:=(0,0,0)
def Wbg(m:Mm)(i:Int):Wd:=Wcu m.2 i zWd
def WsD(m:Mm)(i:Int)(w:Wd):Mm:=(m.1,Wll m.2 i w)
variable{m:Mm}
theorem Wlx(hm:Waf m=true){i:Int}{w:Wd}(hw:Wod m.1 w=true):Waf (WsD m i w)=true:=by
 obtain⟨h8,h0,h1,rS⟩:=WL hm;unfold Waf WsD Wll
 grind
theorem Wjd(hm:Waf m=true){i:Int}(hi:0<=i/\i<=7):Wod m.1 (Wbg m i)=true:=Wpz hm hi
theorem WrD(hm:Waf m=true):Waf (tick m).1=true/\0<=(tick m).2/\(tick m).2<=1000000/\((tick m).2≠0->(tick m).2=m.1+1/\(tick m).1=(m.1+1,m.2))/\((tick m).2=0->(tick m).1=m):=by
 obtain⟨h8,h0,h1,rS⟩:=WL hm;unfold tick;split
 .refine⟨?_,by omega,by omega,λ_=>⟨rfl,rfl⟩,λh=>by omega⟩;unfold Waf;simp only[Xg,Wg,Xab]
  grind [WfP]
 simp_all
end
section
structure Cm where
 who:Int:=0
 rv:Int:=0
 phase:Int:=0
 pos:Int:=0
 wv:Int:=0
 puts:List Rw:=[]
 reads:List Int:=[]
def Cm.e(c:Cm):Int×Int×Int×Int×Int×List Kc×List Int:=(c.who,c.rv,c.phase,c.pos,c.wv,c.puts,c.reads)
def Cm.steps(c:Cm):Int:=
 if c.phase=1\/c.phase=4\/c.phase=5\/c.phase=7 then c.puts.length else if c.phase=3 then c.reads.length else 1
def Wee(c:Cm)(n:Int):Cm:=if n=0 then{c with phase:=8,pos:=0}else{c with phase:=7,pos:=n-1}
def Wnw(c:Cm)(ph:Int):Int:=
 if(ph=3/\c.reads.length=0\/ph=4)/\c.puts.length=0 then 6 else if ph=3/\c.reads.length=0 then 4 else ph
def WnH(c:Cm)(ph:Int):Cm:={c with phase:=Wnw c ph,pos:=0}
def WfG(c:Cm)(ph:Int):Cm:=if c.pos+1=c.steps then WnH c ph else{c with pos:=c.pos+1}
def Wr3(m:Mm)(i who:Int):Mm:=WsD m i ((Wbg m i).1,(Wbg m i).2.1,who)
def Wkt(m:Mm)(i who v:Int):Mm:=if(Wbg m i).2.2=who then WsD m i (v,(Wbg m i).2)else m
def Wfl(m:Mm)(i who ver:Int):Mm:=if(Wbg m i).2.2=who/\(Wbg m i).2.1<=ver/\ver<=m.1 then WsD m i ((Wbg m i).1,ver,0)else m
def WeU(m:Mm)(c:Cm):Mm×Cm:=
 let p:=Wcu c.puts c.pos (0,0)
 if c.phase=1 then(if(Wbg m p.1).2.2=0 then(Wr3 m p.1 c.who,WfG c 2)else(m,Wee c c.pos))else
 if c.phase=2 then(if(tick m).2=0 then((tick m).1,Wee c c.puts.length)else((tick m).1,WnH {c with wv:=(tick m).2} 3))else
 if c.phase=3 then
  let w:=Wbg m (Wcu c.reads c.pos 0)
  if(w.2.2≠0/\w.2.2≠c.who)\/w.2.1>c.rv then(m,Wee c c.puts.length)else(m,WfG c 4)
 else
 if c.phase=4 then(Wkt m p.1 c.who p.2,WfG c 5)else
 if c.phase=5 then(Wfl m p.1 c.who c.wv,WfG c 6)else
 if c.phase=7 then(Wfl m p.1 c.who (Wbg m p.1).2.1,Wee c c.pos)else
 (m,c)
def Wcb(c:Cm):Cm:=
 if c.phase=1 then Wee c c.pos else if c.phase=2\/c.phase=3 then Wee c c.puts.length else c
def Wgb(who rv:Int)(puts reads:List Rw):Cm:=
 {who:=who,rv:=rv,phase:=if(WcI puts).length=0 then 2 else 1,puts:=WcI puts,reads:=(WcI reads).map (·.1)}
structure CmOk(c:Cm):Prop where
 who:1<=c.who/\c.who<=99
 rv:0<=c.rv/\c.rv<=1000000
 wv:0<=c.wv/\c.wv<=1000000
 phase:1<=c.phase/\c.phase<=8
 rows:Whb c.puts
 pup:c.puts.Pairwise λa b=>a.1<b.1
 plen:c.puts.length<=8
 rd:∀x∈c.reads,0<=x/\x<=7
 rup:c.reads.Pairwise (· < ·)
 rlen:c.reads.length<=8
 pos:0<=c.pos/\c.pos<c.steps
section
variable{N:Nat}{c:Cm}{m:Mm}
theorem CmOk.back(h:CmOk c){n:Int}(hn:0<=n/\n<=c.puts.length):CmOk (Wee c n):=by
 unfold Wee;split
 .exact{h with phase:=by simp_all,pos:=by simp[Cm.steps]}
 .exact{h with phase:=by simp_all,pos:=by grind [Cm.steps]}
theorem Wqt(c:Cm){ph:Int}(h:2<=ph/\ph<=6):2<=Wnw c ph/\Wnw c ph<=6:=by unfold Wnw;split<;>(try split)<;>omega
theorem CmOk.adv(h:CmOk c){ph:Int}(hp:2<=ph/\ph<=6)(h5:ph=5->c.puts.length≠0):CmOk (WnH c ph):=by
 unfold WnH;have:=Wqt c hp;refine{h with phase:=by grind,pos:=⟨Xcv _,?_⟩}
 grind [Cm.steps,Wnw]
theorem CmOk.next(h:CmOk c){ph:Int}(hp:2<=ph/\ph<=6)(h5:ph=5->c.puts.length≠0):CmOk (WfG c ph):=by
 unfold WfG;split
 .exact h.adv hp h5
 .have:=h.pos;exact{h with pos:=⟨by grind,by show c.pos+1<c.steps;omega⟩}
theorem Wqg(hm:Waf m=true){i who:Int}(hi:0<=i/\i<=7)(hw:0<=who/\who<=99):Waf (Wr3 m i who)=true:=by
 have:=WfP.1 (Wjd hm hi);exact Wlx hm (by grind [WfP])
theorem WoW(hm:Waf m=true){i who v:Int}(hi:0<=i/\i<=7)(hv:0<=v/\v<=65535):Waf (Wkt m i who v)=true:=by
 grind [WfP,Wjd,Wkt,Wlx]
theorem Wid(hm:Waf m=true){i who ver:Int}(hi:0<=i/\i<=7):Waf (Wfl m i who ver)=true:=by
 grind [WfP,Wjd,Wfl,Wlx]
theorem CmOk.put(h:CmOk c)(hp:c.phase=1\/c.phase=4\/c.phase=5\/c.phase=7):∃(j:Nat) (hj:j<c.puts.length),c.pos=j/\Wcu c.puts c.pos (0,0)=c.puts[j]/\(0<=c.puts[j].1/\c.puts[j].1<=7)/\0<=c.puts[j].2/\c.puts[j].2<=65535:=by
 have:=h.pos;unfold Cm.steps at this;rw[We hp]at this;have hj:c.pos.toNat<c.puts.length:=by omega
 have hr:=h.rows _ (Xar hj);exact⟨c.pos.toNat,hj,by omega,WP hj _,hr.1,hr.2⟩
theorem CmOk.read(h:CmOk c)(hp:c.phase=3):∃(j:Nat) (hj:j<c.reads.length),c.pos=j/\Wcu c.reads c.pos 0=c.reads[j]/\0<=c.reads[j]/\c.reads[j]<=7:=by
 have:=h.pos;unfold Cm.steps at this;rw[Wc (by omega),We hp]at this;have hj:c.pos.toNat<c.reads.length:=by omega
 have hr:=h.rd _ (Xar hj);exact⟨c.pos.toNat,hj,by omega,WP hj _,hr⟩
theorem WkM(h:CmOk c)(hm:Waf m=true):CmOk (WeU m c).2/\Waf (WeU m c).1=true:=by
 have cq:=h.pos;have hl:c.phase=1\/c.phase=4\/c.phase=5\/c.phase=7->c.puts.length≠0:=λhp=>by obtain⟨j,hj,_⟩:=h.put hp;omega
 have bs:c.phase=1\/c.phase=4\/c.phase=5\/c.phase=7->c.pos<c.puts.length:=λhp=>by simp_all [Cm.steps,We]
 have hw:=h.who;unfold WeU;simp only;split
 .obtain⟨j,hj,e1,e2,e3,e4⟩:=h.put (by omega);rw[e2];split
  .exact⟨h.next (by omega) (by omega),Wqg hm e3 (by omega)⟩
  .exact⟨h.back (by omega),hm⟩
 .split
  .have ht:=WrD hm;split
   .exact⟨h.back (by omega),ht.1⟩
   .refine⟨?_,ht.1⟩;have h':CmOk {c with wv:=(tick m).2}:={h with wv:=⟨ht.2.1,ht.2.2.1⟩};exact h'.adv (by omega) (by omega)
  .split
   .split
    .exact⟨h.back (by omega),hm⟩
    .exact⟨h.next (by omega) (by omega),hm⟩
   .split
    .obtain⟨j,hj,e1,e2,e3,e4⟩:=h.put (by omega);rw[e2];exact⟨h.next (by omega) (λ_=>hl (by omega)),WoW hm e3 e4⟩
    .split
     .obtain⟨j,hj,e1,e2,e3,e4⟩:=h.put (by omega);rw[e2];exact⟨h.next (by omega) (by omega),Wid hm e3⟩
     .split
      .obtain⟨j,hj,e1,e2,e3,e4⟩:=h.put (by omega);have:=bs (by omega);rw[e2];exact⟨h.back (by omega),Wid hm e3⟩
      simp_all
theorem Wny(h:CmOk c):CmOk (Wcb c):=by
 have cq:=h.pos;unfold Wcb;split
 .have:c.pos<c.puts.length:=by simp_all [Cm.steps,We]
  exact h.back (by omega)
 .split
  .exact h.back (by omega)
  .exact h
theorem WqG{who rv:Int}{puts reads:List Rw}(hw:1<=who/\who<=99)(hr:0<=rv/\rv<=1000000):CmOk (Wgb who rv puts reads) where
 who:=hw
 rv:=hr
 wv:=by simp[Wgb]
 phase:=by unfold Wgb;simp only;split<;>omega
 rows:=WeP
 pup:=Wlq puts
 plen:=We9 puts
 rd:=λx hx=>by
  obtain⟨r,hr,rfl⟩:=Xv.1 hx;exact(WeP r hr).1
 rup:=by
  simp[Wgb,List.pairwise_map,Wlq]
 rlen:=by simp[Wgb,Xad,We9]
 pos:=by
  unfold Wgb Cm.steps
  grind
theorem cmP(c:Cm):c.e.1=c.who/\c.e.2.1=c.rv/\c.e.2.2.1=c.phase/\c.e.2.2.2.1=c.pos/\c.e.2.2.2.2.1=c.wv/\c.e.2.2.2.2.2.1=c.puts/\c.e.2.2.2.2.2.2=c.reads:=⟨rfl,rfl,rfl,rfl,rfl,rfl,rfl⟩
theorem Wbi{who:Int}:Zc3 N who=ret (decide (1<=who)&&decide (who<=99)):=by simp[Zc3,WM]
theorem WcK(hm:Waf m=true):Zba N m=ret m:=by
 grind [WL,Zba,WK]
theorem WiC(h:CmOk c):Zew N c.e=ret c.e:=by
 unfold Zew;have:=h.plen;have:=h.rlen;rw[show Zau N c.e.2.2.2.2.2.1=ret c.puts from WcB (show c.puts.length<=1048576 by omega),show Zl N c.e.2.2.2.2.2.2=ret c.reads from WbD (show c.reads.length<=1048576 by omega)];rfl
theorem Wkh:Zbt N c.e=ret c.steps:=by
 unfold Zbt Cm.steps;obtain⟨c0,c1,c2,c3,c4,c5,c6⟩:=cmP c;simp only[Wy,c2,c5,c6,Wh]
 grind
theorem Wf0(h:CmOk c)(hN:1048576<N):Zdl N c.e=ret true:=by
 obtain⟨c0,c1,c2,c3,c4,c5,c6⟩:=cmP c;have ec:=h.plen;have cU:=h.rlen;have hw:=h.who;have kR:=h.rv;have sZ:=h.wv;have lq:=h.phase;have cq:=h.pos;have kE:WaD c.puts=true:=by unfold WaD;rw[WjN.2 h.rows,Wb (by omega)];rfl
 unfold Zdl;simp only[c0,c1,c2,c3,c4,c5,c6,Wbi,WM,WbF (show c.puts.length<=1048576 by omega) hN,Wkh,ret,Xd,Wb hw.1,Wb hw.2,Wb kR.1,Wb kR.2,Wb sZ.1,Wb sZ.2,Wb lq.1,Wb lq.2,kE,Xbj,Xx,Wf];have rT:c.steps<=8:=by unfold Cm.steps;split<;>(try split)<;>omega
 have vf:WC .i64 c.steps 1=c.steps-1:=WaA (by unfold I64;omega);rw[vf,Wb cq.1,Wb (show c.pos<=c.steps-1 by omega)];have s0:∀(d j n:Nat),j+d=c.reads.length->d<n->Zaq N c.reads c.e (some ((),(false,()))) (λt22 dR=>(some ((),(true&&true,())))) n (j:Int)=ret true:=by
  intro d
  induction d with
  |zero=>
   intro j n hj hn;obtain⟨n,rfl⟩:∃n',n=n'+1:=⟨n-1,by omega⟩;simp_all [Zaq,WaC,Xm,Wf]
  |succ d ih=>
   intro j n hj hn;obtain⟨n,rfl⟩:∃n',n=n'+1:=⟨n-1,by omega⟩;have ad:j<c.reads.length:=by omega
   have cV:=ih (j+1) n (by omega) (by omega);have hv:=h.rd _ (Xar ad);have ba:Wal c.reads[j]=true:=by grind [Wal]
   simp only[Zaq,c6,Wan ad,WD ad,WH ad,Wt (show j<4611686018427387904 by omega),Wa,Wai,ret,Xd,ba,Xx,Wf,cV];by_cases h0:j=0
   .grind
   .have e1:decide ((j:Int)>0)=true:=by simp;omega
    have e2:WC .i64 (j:Int) 1=((j-1:Nat):Int):=by grind [WaA,I64]
    have bz:j-1<c.reads.length:=by omega
    have hb:=Xaw.1 h.rup (j-1) j bz ad (by omega);simp_all [Wa,WD,WH,Ws]
 have vg:∀(d j n:Nat),j+d=c.puts.length->d<n->1<=j->Zaz N c.e (some ((),(false,()))) (λeB aC=>(Zaq N c.reads c.e (some ((),(false,()))) (λt22 dR=>(some ((),(true&&true,())))) N (0:Int))) n (j:Int)=ret true:=by
  intro d
  induction d with
  |zero=>
   intro j n hj hn _;obtain⟨n,rfl⟩:∃n',n=n'+1:=⟨n-1,by omega⟩;have:j=c.puts.length:=by omega
   subst this;simp only[Zaz,c5,WaC (Xm _),Wf];exact s0 c.reads.length 0 N (by omega) (by omega)
  |succ d ih=>
   intro j n hj hn h1j;obtain⟨n,rfl⟩:∃n',n=n'+1:=⟨n-1,by omega⟩;have ad:j<c.puts.length:=by omega
   have cV:=ih (j+1) n (by omega) (by omega) (by omega);have e2:WC .i64 (j:Int) 1=((j-1:Nat):Int):=by grind [WaA,I64]
   have bz:j-1<c.puts.length:=by omega
   have hb:=Xaw.1 h.pup (j-1) j bz ad (by omega);simp only[Zaz,c5,Wan ad,WD ad,WH ad,Wt (show j<4611686018427387904 by omega),Wa,e2,WD bz,WH bz]
   grind
 by_cases hz:c.puts.length=0
 .obtain⟨N',rfl⟩:∃N',N=N'+1:=⟨N-1,by omega⟩;rw[Zaz,c5,Ws (by unfold Wh;omega)];exact s0 c.reads.length 0 _ (by omega) (by omega)
 .exact vg (c.puts.length-1) 1 N (by omega) (by omega) (by omega)
theorem Wgk(h:CmOk c){n:Int}(hn:0<=n/\n<=8):Zy N c.e n=some (((Wee c n).e,()),()):=by
 unfold Zy Wee;rw[Wy,WaA (by unfold I64;omega)];split<;>rfl
theorem WpM{ph:Int}:Zc4 N c.e ph=some (((WnH c ph).e,()),()):=by
 obtain⟨c0,c1,c2,c3,c4,c5,c6⟩:=cmP c;unfold Zc4 WnH Wnw;simp only[Wy,c5,c6,Wh];by_cases h3:ph=3
 .subst h3;by_cases hr:c.reads.length=0<;>by_cases hp:c.puts.length=0<;>simp[hr,hp]<;>rfl
 .by_cases h4:ph=4
  .subst h4;by_cases hp:c.puts.length=0<;>simp[hp]<;>rfl
  .simp[h3,h4];rfl
theorem Wqv(h:CmOk c){ph:Int}:Zax N c.e ph=some (((WfG c ph).e,()),()):=by
 obtain⟨c0,c1,c2,c3,c4,c5,c6⟩:=cmP c;have cq:=h.pos;have rT:c.steps<=8:=by have:=h.plen;have:=h.rlen;unfold Cm.steps;split<;>(try split)<;>omega
 have bs:Zbt N (Cm.e {c with pos:=c.pos+1})=ret c.steps:=Wkh;unfold Zax WfG;rw[c3,W3 (by unfold I64;omega)];rw[show(c.e.1,(c.e.2.1,(c.e.2.2.1,(c.pos+1,c.e.2.2.2.2))))=Cm.e {c with pos:=c.pos+1}from rfl,bs];simp only[ret,Xd,Wy,WpM];split<;>rfl
theorem Wov(h:CmOk c)(hN:1048576<N):∃b,Zf1 N c.e=some ((),((Wcb c).e,(b,()))):=by
 obtain⟨c0,c1,c2,c3,c4,c5,c6⟩:=cmP c;have cq:=h.pos;have ec:=h.plen;have rT:c.steps<=8:=by have:=h.plen;have:=h.rlen;unfold Cm.steps;split<;>(try split)<;>omega
 unfold Zf1 Wcb;rw[WiC h];simp only[ret,Xd];rw[Wf0 h hN];simp only[ret,Xd,Xx,Wf,Wy,c2,c3,c5,Wgk h (show 0<=c.pos/\c.pos<=8 by omega),Wgk h (show 0<=Wh c.puts/\Wh c.puts<=8 by unfold Wh;omega)];by_cases h1:c.phase=1
 .simp_all
 .rw[Wc h1,Wc h1];by_cases h2:c.phase=2
  .rw[We h2,We h2,We (.inl h2)];exact⟨_,rfl⟩
  .rw[Wc h2];by_cases h3:c.phase=3
   .rw[We h3,We (.inr h3)];exact⟨_,rfl⟩
   simp_all
theorem Wls{l:List Rw}(hl:l.length<=1048576)(hN:1048576<N):Ze6 N l=ret ((WcI l).map (·.1)):=by
 unfold Ze6;rw[WcN hl hN];have hn:=We9 l;simp only[ret,Xd];have h1:=WT (l:=WcI l) (V:=List Int) (R:=Unit×(List Int×Unit)) (lp:=λn j v=>Zbi N (Wh (WcI l)) (WcI l) (λaw aL ca=>(some ((),(ca,())))) n j v) (n:=N) (by omega)
  (body:=λj x v k=>bif WV (v.length+ [x.1].length)then k (Xt v [x.1])else none) (K:=λ_ v=>ret v)
  (λn i v hi=>by simp only[Zbi,Wan hi,WD hi,WH hi,Wt (show i<4611686018427387904 by omega),Wa])
  (λn v=>by simp[Zbi,WaC,Xm,Wf]) []
 refine h1.trans ?_;rw[Wcv (f:=λx:Rw=>x.1) (WcI l) 0 [] (by simp;omega) (λj x v k _=>rfl)];rfl
theorem WrB{who rv:Int}{puts reads:List Rw}(hw:1<=who/\who<=99)(hr:0<=rv/\rv<=1000000)(hp:WaD puts=true)(hd:WaD reads=true)(hN:1048576<N):
  Zct N who rv puts reads=some ((),((Wgb who rv puts reads).e,(true,()))):=by
 have l1:puts.length<=300:=by grind [WaD]
 have l2:reads.length<=300:=by grind [WaD]
 unfold Zct;simp only[Wbi,WM,WbF (show puts.length<=1048576 by omega) hN,WbF (show reads.length<=1048576 by omega) hN,WcN (show puts.length<=1048576 by omega) hN,Wls (show reads.length<=1048576 by omega) hN,ret,Xd,Wb hw.1,Wb hw.2,Wb hr.1,Wb hr.2,hp,hd,Xbj,Xx,Wf,Wy];unfold Wgb Cm.e;by_cases hz:(WcI puts).length=0
 .simp_all [We,Wh]
 simp_all [Wc,Wh]
theorem Wgl{m:Mm}{i:Int}:Xc m.2 (Xa i) ((0:Int),((0:Int),(0:Int)))=Wbg m i:=rfl
theorem Wfq(hm:Waf m=true){i:Int}(hi:0<=i/\i<=7):inb i m.2.length=true:=by
 grind [WL,inb]
theorem Whg{i:Int}(hi:0<=i/\i<=7):Wal i=true:=by grind [Wal]
theorem WjR(hm:Waf m=true){i who:Int}(hi:0<=i/\i<=7)(hw:1<=who/\who<=99)(hN:1048576<N):
  Zht N m i who=some ((),((if(Wbg m i).2.2=0 then Wr3 m i who else m),(decide ((Wbg m i).2.2=0),()))):=by
 unfold Zht;rw[WcK hm,WaO (by grind [WL]) hN,hm];simp only[ret,Xd,Xx,Wf,Wai,Whg hi,Wbi,Wb hw.1,Wb hw.2,Xbj,Wfq hm hi,Wa,Wgl,Wcl];by_cases h:(Wbg m i).2.2=0
 .rw[We h,We h,Wb h];rfl
 simp_all
theorem Wjw(hm:Waf m=true){i who v:Int}(hi:0<=i/\i<=7)(hw:1<=who/\who<=99)(hv:0<=v/\v<=65535)(hN:1048576<N):
  ∃b,Zig N m i who v=some ((),(Wkt m i who v,(b,()))):=by
 unfold Zig Wkt;rw[WcK hm,WaO (by grind [WL]) hN,hm];simp only[ret,Xd,Xx,Wf,Wai,Whg hi,Wbi,Wad,WaJ.2 hv,Wb hw.1,Wb hw.2,Xbj,Wfq hm hi,Wa,Wgl,Wcl];by_cases h:(Wbg m i).2.2=who
 .rw[We h,We h];exact⟨_,rfl⟩
 simp_all
theorem Wed(hm:Waf m=true){i who ver:Int}(hi:0<=i/\i<=7)(hw:1<=who/\who<=99)(hN:1048576<N):
  ∃b,Zg2 N m i who ver=some ((),(Wfl m i who ver,(b,()))):=by
 have h8:=(WL hm).1;unfold Zg2 Wfl;rw[WcK hm,WaO (by omega) hN,hm];simp only[ret,Xd,Xx,Wf,Wai,Whg hi,Wbi,WM,Wb hw.1,Wb hw.2,Xbj,Wfq hm hi,Wa,Wgl,Wcl,Xbb,Wn];by_cases h:(Wbg m i).2.2=who
 .rw[We h];by_cases h2:(Wbg m i).2.1<=ver/\ver<=m.1
  .rw[We ⟨h,h2.1,h2.2⟩,Wb h2.1,Wb h2.2];refine⟨true,?_⟩;have:i.toNat<m.2.length:=by omega
   simp only[Xbj,Xx,Wf,WjB this,Xdt];rfl
  .rw[Wc (by omega)];refine⟨false,?_⟩
   grind
 simp_all
theorem Wkf(h:CmOk c)(hm:Waf m=true)(hN:1048576<N):Zgb N m c.e=some ((),((WeU m c).1,((WeU m c).2.e,()))):=by
 obtain⟨c0,c1,c2,c3,c4,c5,c6⟩:=cmP c;have cq:=h.pos;have ec:=h.plen;have hw:=h.who;have rT:c.steps<=8:=by have:=h.plen;have:=h.rlen;unfold Cm.steps;split<;>(try split)<;>omega
 have b1:=Wgk (N:=N) h (show 0<=c.pos/\c.pos<=8 by omega);have b2:=Wgk (N:=N) h (show 0<=Wh c.puts/\Wh c.puts<=8 by unfold Wh;omega);unfold Zgb WeU;rw[WcK hm,WiC h];simp only[ret,Xd];rw[WaO (by grind [WL]) hN,Wf0 h hN,hm];simp only[ret,Xd,Xx,Wf,Wy,c0,c1,c2,c3,c4,c5,c6,WcD,b1,b2,Wqv h];by_cases h1:c.phase=1
 .rw[We h1,We h1];obtain⟨j,hj,e1,e2,e3,e4⟩:=h.put (by omega);rw[show Xc c.puts (Xa c.pos) ((0:Int),(0:Int))=c.puts[j]from e2,e2,e1,WW,Wb hj,WjR hm e3 hw hN,←e1]
  grind
 .rw[Wc h1,Wc h1];by_cases h2:c.phase=2
  .rw[We h2,We h2,Wkb hm hN];simp only[Xd];by_cases ht:(tick m).2=0
   .rw[We ht,We ht];rfl
   .rw[Wc ht,Wc ht];rw[show(c.who,(c.rv,(c.phase,(c.pos,((tick m).2,c.e.2.2.2.2.2)))))=Cm.e {c with wv:=(tick m).2}from rfl,WpM];rfl
  .rw[Wc h2,Wc h2];by_cases h3:c.phase=3
   .rw[We h3,We h3];obtain⟨j,hj,e1,e2,e3,e4⟩:=h.read h3;rw[show Xc c.reads (Xa c.pos) (0:Int)=c.reads[j]from e2,e2,e1,WW,Wb hj,Wfq hm ⟨e3,e4⟩];simp only[Wa,Wcl,WaF];rw[show Xc m.2 (Xa c.reads[j]) ((0:Int),((0:Int),(0:Int)))=Wbg m c.reads[j]from rfl];by_cases a:(Wbg m c.reads[j]).2.2=0
    .rw[We a];by_cases b:(Wbg m c.reads[j]).2.1>c.rv
     .rw[We b,We (.inr b)];rfl
     grind
    .rw[Wc a];by_cases a':(Wbg m c.reads[j]).2.2=c.who
     .rw[We a'];by_cases b:(Wbg m c.reads[j]).2.1>c.rv
      .rw[We b,We (.inr b)];rfl
      grind
     .rw[Wc a',We (.inl ⟨a,a'⟩)];rfl
   .rw[Wc h3,Wc h3];by_cases h4:c.phase=4
    .rw[We h4,We h4];obtain⟨j,hj,e1,e2,e3,e4⟩:=h.put (by omega)
     grind [Wjw,Xc,Xa,WW,decide_eq_true]
    .rw[Wc h4,Wc h4];by_cases h5:c.phase=5
     .rw[We h5,We h5];obtain⟨j,hj,e1,e2,e3,e4⟩:=h.put (by omega);obtain⟨b,hb⟩:=Wed (ver:=c.wv) hm e3 hw hN
      grind [Xc,Xa,WW,decide_eq_true]
     .rw[Wc h5,Wc h5];by_cases h7:c.phase=7
      .rw[We h7,We h7];obtain⟨j,hj,e1,e2,e3,e4⟩:=h.put (by omega);obtain⟨b,hb⟩:=Wed (ver:=(Wbg m c.puts[j].1).2.1) hm e3 hw hN;rw[show Xc c.puts (Xa c.pos) ((0:Int),(0:Int))=c.puts[j]from e2,e2,e1,WW,Wb hj,Wfq hm e3];simp only[Wa,Wgl,hb,←e1];rfl
      simp_all
end
end
section
abbrev RM:=Int×Int×Int×Int×List Int
abbrev Wr:=Int×Int×List Rw
abbrev Pg:=List Opn×List (List Opn)
abbrev Ac:=Int×Int×Int
abbrev Sc:=Kf×List Pg×List Ac
structure Rt where
 phase:Int:=0
 tries:Int:=0
 spare:Int:=0
 pc:Int:=0
 rv:Int:=0
 newRv:Int:=0
 pos:Int:=0
 fate:Int:=0
 stamp:Int:=0
 began:Int:=0
 ended:Int:=0
 doomed:Bool:=false
 regs:List Int:=[]
 reads:List Rw:=[]
 writes:List Rw:=[]
 marks:List RM:=[]
 undos:List Un:=[]
 order:List Int:=[]
 busy:Bool:=false
 pb:Pb:=(0,0,0,0)
 cm:Cm:={}
 fam:Fm:={}
def Rt.e(r:Rt):Y_Root:=(r.phase,r.tries,r.spare,r.pc,r.rv,r.newRv,r.pos,r.fate,r.stamp,r.began,r.ended,r.doomed,r.regs,r.reads,r.writes,r.marks,r.undos,r.order,r.busy,r.pb,r.cm.e,r.fam.e)
structure Wo where
 now:Int:=0
 token:Int:=0
 mem:Mm:=(0,[])
 shelf:Shf:=([],0)
 holds:List Hd:=[]
 roots:List Rt:=[]
 hist:List Wr:=[]
def Wo.e(w:Wo):Y_World:=(w.now,w.token,w.mem,w.shelf,w.holds,w.roots.map Rt.e,w.hist)
def zRM:RM:=(0,0,0,0,[])
def Rt.last(x:Rt):RM:=Wf5 x.marks zRM
def WiM(x:Rt):Rt:={phase:=6,tries:=x.tries,undos:=x.undos}
def WcC(x:Rt):Rt:=
 if x.marks.length=0\/x.spare=2 then WiM x else{x with spare:=x.spare+1,busy:=false,pb:=(0,0,0,0),phase:=3}
def WhH(w:Wo)(x:Rt):Wo×Rt:=({w with shelf:=Wg9 w.shelf (Wf5 x.undos (0,0,0))},{x with undos:=x.undos.dropLast})
def WnQ(w:Wo)(x:Rt)(k:Nat):Wo×Rt:=
 ({w with token:=if w.token=(k:Int)+1 then 0 else w.token},{x with phase:=8,ended:=w.now,undos:=[],doomed:=false})
def Wg1(w:Wo)(x:Rt)(k:Nat)(out:Int):Wo×Rt:=
 let rows:=if out=2 then []else x.writes
 if rows.length=0/\(Wft w.holds ((k:Int)+1)).length=0 then WnQ w {x with fate:=out,stamp:=x.rv} k
 else(w,{x with fate:=out,cm:=Wgb ((k:Int)+1) x.rv rows x.reads,phase:=5})
def WpP(w:Wo)(x:Rt)(o:Opn):Rt:=
 match Wb1 x.writes o.2.2.1 with
 |some v=>{x with regs:=Wll x.regs o.2.1 v,pc:=x.pc+1}
 |none=>
  let p:=WaU w.mem x.rv (if x.busy then x.pb else(o.2.2.1,0,0,0))
  if p.2.1=4 then WcC {x with busy:=true,pb:=p}
  else if p.2.1=3 then{x with regs:=Wll x.regs o.2.1 p.2.2.2,reads:=x.reads++ [(o.2.2.1,p.2.2.2)],busy:=false,pb:=(0,0,0,0),pc:=x.pc+1}
  else{x with busy:=true,pb:=p}
def Wkq(w:Wo)(x:Rt)(k:Nat)(code:List Opn):Wo×Rt:=
 if x.marks.length=0 then Wg1 w x k 2 else
 if(x.undos.length:Int)>x.last.2.2.2.1 then WhH w x else
 (w,{x with marks:=x.marks.dropLast,regs:=Wll x.last.2.2.2.2 (opN code x.last.1).2.1 0,writes:=x.writes.take x.last.2.2.1.toNat,pc:=WhF code x.last.1.toNat+1})
def WhS(w:Wo)(x:Rt)(k:Nat)(o:Opn):Wo×Rt:=
 match WeD w.holds ((k:Int)+1) (WcM o).1 (WcM o).2 with
 |none=>(w,WcC x)
 |some hs=>
  let b:=Wbc w.shelf o x.regs
  ({w with holds:=hs,shelf:=b.1},{x with regs:=b.2.1,undos:=if b.2.2.1=0 then x.undos else x.undos++ [b.2.2],pc:=x.pc+1})
def Wqa(w:Wo)(x:Rt)(k:Nat)(p:Pg):Wo×Rt:=
 if x.pc>=p.1.length then Wg1 w x k 1 else
 let o:=opN p.1 x.pc
 if o.1=5 then(w,WpP w x o)else
 if o.1=10 then Wkq w x k p.1 else
 if o.1=11 then(w,{x with phase:=2,fam:=Wdb x.rv x.regs x.writes p.2.length})else
 if o.1>=12 then WhS w x k o else
 if o.1=6 then(w,{x with writes:=x.writes++ [(o.2.1,Wcu x.regs o.2.2.1 0)],pc:=x.pc+1})else
 if o.1=7 then(w,{x with pc:=(if Wcu x.regs o.2.1 0=0 then x.pc+o.2.2.1 else x.pc)+1})else
 if o.1=8 then(w,{x with marks:=x.marks++ [(x.pc,(x.reads.length:Int),(x.writes.length:Int),(x.undos.length:Int),x.regs)],pc:=x.pc+1})else
 if o.1=9 then(w,{x with marks:=x.marks.dropLast,regs:=Wll x.regs (opN p.1 x.last.1).2.1 1,pc:=x.pc+1})else
 (w,{x with regs:=Wnp o x.regs,pc:=x.pc+1})
def WcH(k:Nat):List Rt->Nat->Bool
 | [],_=>true
 |x::l,i=>(decide (i=k)||(decide (x.phase=0)||decide (x.phase=8)))&&WcH k l (i+1)
def Wji(w:Wo)(x:Rt)(k:Nat):Wo×Rt:=
 if w.token≠0/\w.token≠(k:Int)+1 then(w,x)else
 if x.tries>=3/\w.token=0 then({w with token:=(k:Int)+1},x)else
 if w.token=(k:Int)+1/\WcH k w.roots 0=false then(w,x)else
 (w,{phase:=1,tries:=x.tries,rv:=w.mem.1,began:=w.now,regs:=[0,0,0,0]})
def Wlg(x:Rt):Rt:=
 if x.fam.lost then WiM x else
 if Weo x.fam then{x with regs:=Whe x.fam,writes:=Wgu x.fam,reads:=x.reads++x.fam.reads,order:=x.fam.order,fam:={},phase:=1,pc:=x.pc+1}
 else x
def Wey(w:Wo)(x:Rt):Wo×Rt:=
 if(x.undos.length:Int)>x.last.2.2.2.1 then WhH w x else(w,{x with newRv:=w.mem.1,pos:=0,phase:=4})
def WdB(w:Wo)(x:Rt):Rt:=
 if x.pos<x.last.2.1 then
  let c:=Wbg w.mem (Wcu x.reads x.pos (0,0)).1
  if c.2.2≠0\/c.2.1>x.rv then WiM x else{x with pos:=x.pos+1}
 else{x with rv:=x.newRv,newRv:=0,pos:=0,reads:=x.reads.take x.last.2.1.toNat,writes:=x.writes.take x.last.2.2.1.toNat,regs:=x.last.2.2.2.2,pc:=x.last.1+1,phase:=1}
def Wot(x:Rt):Rt:=
 if x.cm.phase=8 then WiM x else
 if x.cm.phase=6 then{x with stamp:=x.cm.wv,cm:={},phase:=if x.fate=2 then 6 else 7}else x
def Wdz(w:Wo)(x:Rt)(k:Nat):Wo×Rt:=
 if x.doomed then(w,if(Wcb x.cm).phase=8 then WiM x else{x with cm:=Wcb x.cm,doomed:=false})else
 let q:=WeU w.mem x.cm
 ({w with mem:=q.1,hist:=if x.cm.phase<=3/\q.2.phase=4 then w.hist++ [(q.2.wv,(k:Int)+1,q.2.puts)]else w.hist},Wot {x with cm:=q.2})
def WiQ(w:Wo)(x:Rt)(k:Nat)(p:Pg):Wo×Rt:=
 if x.doomed=true/\1<=x.phase/\x.phase<=4 then(w,WiM x)else
 if x.phase=0 then Wji w x k else
 if x.phase=1 then Wqa w x k p else
 if x.phase=2 then(w,Wlg x)else
 if x.phase=3 then Wey w x else
 if x.phase=4 then(w,WdB w x)else
 if x.phase=5 then Wdz w x k else
 if x.phase=6 then(if x.undos.length>0 then WhH w x else(w,{x with phase:=7}))else
 if x.phase=7 then
  (if x.fate=0 then({w with holds:=W6 w.holds ((k:Int)+1)},{tries:=x.tries+1})
   else WnQ {w with holds:=W6 w.holds ((k:Int)+1)} x k)
 else(w,x)
def Wo.put(q:Wo×Rt)(k:Nat):Wo:={q.1 with roots:=q.1.roots.set k q.2}
def rt0:Rt:={}
def pg0:Pg:=([],[])
def Wp7(w:Wo)(k:Nat)(p:Pg):Wo:=Wo.put (WiQ w (w.roots.getD k rt0) k p) k
def Wtg(w:Wo)(x:Rt)(k j:Nat)(p:Pg):Wo:=Wo.put (w,{x with fam:=Wl1 w.mem x.fam j (p.2.getD j [])}) k
def Wnu(s:Sc)(w0:Wo)(a:Ac):Wo:=
 let w:={w0 with now:=w0.now+1}
 if 0<=a.2.1/\a.2.1<w.roots.length then
  let k:=a.2.1.toNat
  let x:=w.roots.getD k rt0
  let p:=s.2.1.getD k pg0
  if a.1=1 then Wp7 w k p else
  if a.1=2 then(if x.phase=2/\0<=a.2.2/\a.2.2<p.2.length then Wtg w x k a.2.2.toNat p else w)else
  if a.1=3 then(if(1<=x.phase/\x.phase<=4)\/(x.phase=5/\x.cm.phase<=3)then Wo.put (w,{x with doomed:=true}) k else w)else w
 else w
def Wp2(s:Sc):Wo:={mem:=WmF s.1.1,shelf:=(Wmt s.1.2.1,s.1.2.2),roots:=Xr s.2.1.length {}}
def Wn3(s:Sc):Wo:=s.2.2.foldl (Wnu s) (Wp2 s)
structure RMk(code:List Opn)(pc:Nat)(marks:List RM)(rl wl ul:Nat):Prop where
 pcs:marks.map (·.1)=(stk code pc).map λm:Nat=>(m:Int)
 each:∀q∈marks,Vals 4 q.2.2.2.2/\(0<=q.2.1/\q.2.1<=q.1+72*frk code q.1.toNat/\q.2.1<=rl)/\(0<=q.2.2.1/\q.2.2.1<=q.1+8/\q.2.2.1<=wl)/\0<=q.2.2.2.1/\q.2.2.2.1<=q.1/\q.2.2.2.1<=ul
 up:marks.Pairwise λa b=>a.2.1<=b.2.1/\a.2.2.1<=b.2.2.1/\a.2.2.2.1<=b.2.2.2.1
structure RLive(p:Pg)(n:Int)(x:Rt):Prop where
 pc:0<=x.pc/\x.pc<=p.1.length
 spare:0<=x.spare/\x.spare<=2
 rv:0<=x.rv/\x.rv<=1000000
 regs:Vals 4 x.regs
 reads:Whb x.reads
 rl:(x.reads.length:Int)<=x.pc+72*frk p.1 x.pc.toNat
 writes:Whb x.writes
 wl:(x.writes.length:Int)<=x.pc+8
 ul:(x.undos.length:Int)<=x.pc
 marks:RMk p.1 x.pc.toNat x.marks x.reads.length x.writes.length x.undos.length
 pb:x.busy=true->Wi3 x.pb=true
 fork:x.phase=2->x.pc<p.1.length/\(opN p.1 x.pc).1=11/\FOk p.2 n x.fam
 back:x.phase=3\/x.phase=4->x.marks.length≠0
 newRv:0<=x.newRv/\x.newRv<=1000000
 pos:x.phase=4->0<=x.pos/\x.pos<=x.last.2.1
 unw:x.phase=4->(x.undos.length:Int)<=x.last.2.2.2.1
structure ROk(p:Pg)(n:Int)(x:Rt):Prop where
 phase:0<=x.phase/\x.phase<=8
 tries:0<=x.tries/\x.tries<=n
 live:1<=x.phase/\x.phase<=4->RLive p n x
 comm:x.phase=5->CmOk x.cm
 undos:∀u∈x.undos,UnV u
 ul:x.undos.length<=24
 rg:x.regs.length<=4
 ord:x.order.length<=3
structure POk(p:Pg):Prop where
 code:CC p.1
 kids:∀c∈p.2,KC c
 k3:p.2.length<=3
def HE(h:Wr):Prop:=h.2.2.length<=8/\Whb h.2.2/\1<=h.2.1/\h.2.1<=9
structure WOk(ps:List Pg)(n:Int)(w:Wo):Prop where
 len:w.roots.length=ps.length
 l4:ps.length<=4
 progs:∀p∈ps,POk p
 now:w.now=n
 n0:0<=n
 mem:Waf w.mem=true
 shelf:ShOk w.shelf
 holds:HOk w.holds
 hist:(w.hist.length:Int)<=n
 histE:∀h∈w.hist,HE h
 root:∀(k:Nat) (h:k<w.roots.length),ROk (ps.getD k pg0) n w.roots[k]
end
section
theorem rtP(x:Rt):x.e.1=x.phase/\x.e.2.1=x.tries/\x.e.2.2.1=x.spare/\x.e.2.2.2.1=x.pc/\P4 x.e=x.rv/\P5 x.e=x.newRv/\P6 x.e=x.pos/\P7 x.e=x.fate/\P8 x.e=x.stamp/\P11 x.e=x.doomed/\P12 x.e=x.regs/\P13 x.e=x.reads/\P14 x.e=x.writes/\P15 x.e=x.marks/\P16 x.e=x.undos/\P18 x.e=x.busy/\P19 x.e=x.pb/\P20 x.e=x.cm.e/\Q21 x.e=x.fam.e/\P24 x.e=x.fam.lost/\P28 x.e=x.fam.order/\P29 x.e=x.fam.reads:=
 ⟨rfl,rfl,rfl,rfl,rfl,rfl,rfl,rfl,rfl,rfl,rfl,rfl,rfl,rfl,rfl,rfl,rfl,rfl,rfl,rfl,rfl,rfl⟩
theorem S5e(w:Wo)(k:Nat)(x:Rt):S5 (Xi (w.roots.map Rt.e) k x.e) w.e=Wo.e {w with roots:=w.roots.set k x}:=by
 unfold S5 Wo.e;rw[Xfd]
theorem Wce{w w':Wo}{k:Nat}{x':Rt}{y:Y_Root}{g:Y_World}(hy:y=x'.e)(hg:g=w'.e)(hr:w'.roots=w.roots):
  some ((S5 (Xi (w.roots.map Rt.e) k y) g,()),())=some (((Wo.put (w',x') k).e,()),()):=by
 subst hy hg;rw[←hr,S5e];rfl
variable{N:Nat}{w:Wo}{k:Nat}{x:Rt}{o:Opn}{p:Pg}{n:Int}{code:List Opn}
theorem woG(hk:k<w.roots.length)(aI:w.roots[k]=x):Xc (w.roots.map Rt.e) k d_Root=x.e/\Xc (w.roots.map Rt.e) (Xa (k:Int)) d_Root=x.e/\S5 (Xi (w.roots.map Rt.e) (Xa (k:Int)) x.e) w.e=w.e/\inb (k:Int) (w.roots.map Rt.e).length=true/\S5 (Xi (w.roots.map Rt.e) k x.e) w.e=w.e:=by
 have h1:Xc (w.roots.map Rt.e) k d_Root=x.e:=by
  have:=WpD Rt.e w.roots k {};rw[WP hk,aI]at this;exact this
 have h2:S5 (Xi (w.roots.map Rt.e) k x.e) w.e=w.e:=by rw[S5e,←aI,Xbi]
 rw[Xk];refine⟨h1,h1,h2,?_,h2⟩;rw[WW,Xad];exact Wb hk
theorem Wnd(hk:k<w.roots.length)(aI:w.roots[k]=x):Wo.put (w,x) k=w:=by
 unfold Wo.put;simp only;rw[←aI,Xbi]
theorem WdU:Zan N x.e=some (((WiM x).e,()),()):=rfl
theorem WdD(hs:0<=x.spare/\x.spare<=2):Zbs N x.e=some (((WcC x).e,()),()):=by
 obtain⟨r0,r1,r2,r3,r4,r5,r6,r7,r8,iJ,ib,gu,gv,gw,gS,ju,jv,iL,iM,jw,jx,jy⟩:=rtP x;unfold Zbs WcC;simp only[Wy,gw,r2,Wh,WdU,Xd];by_cases h1:x.marks.length=0
 .rw[We (by omega),We (.inl h1)]
 .rw[Wc (by omega)];by_cases h2:x.spare=2
  .rw[We h2,We (.inr h2)]
  .rw[Wc h2,Wc (by omega),W3 (by unfold I64;omega)];rfl
theorem Wdu{α:Type}{l:List α}(h:l.length≠0)(hl:l.length<=1000)(d:α):inb (WC .i64 (Wh l) 1) l.length=true/\Xc l (Xa (WC .i64 (Wh l) 1)) d=Wf5 l d/\Xal (Xa (WC .i64 (Wh l) 1)) l=l.dropLast/\(decide ((0:Int)<=WC .i64 (Wh l) 1)&&decide (WC .i64 (Wh l) 1<=(l.length:Int)))=true:=by
 have e:WC .i64 (Wh l) 1=((l.length-1:Nat):Int):=by rw[WmX (by omega)];omega
 rw[e];refine⟨by rw[WW];exact Wb (by omega),by rw[Xk];rfl,by rw[Xk,Xfo],by simp⟩
theorem Wk9(h:x.marks.length≠0)(hl:x.marks.length<=1000):Zb7 N x.e=some ((),((x.last.1,(x.last.2.1,(x.last.2.2.1,x.last.2.2.2.1))),())):=by
 obtain⟨a,b,c,d⟩:=Wdu h hl zRM;unfold Zb7;simp only[Wn];rw[show P15 x.e=x.marks from rfl,a];simp only[Wa];rw[show((0:Int),((0:Int),((0:Int),((0:Int),([]:List Int)))))=zRM from rfl,b];rfl
theorem Wjj(hk:k<w.roots.length)(aI:w.roots[k]=x)(hz:x.undos.length≠0)(hl:x.undos.length<=1000)(hu:∀u∈x.undos,UnV u)(hs:ShOk w.shelf)(hN:1048576<N):
  Zbc N w.e k=some (((Wo.put (WhH w x) k).e,()),()):=by
 obtain⟨g1,g2,g3,g4,g5⟩:=woG hk aI;obtain⟨a,b,c,d⟩:=Wdu hz hl ((0,0,0):Un);have ay:Wf5 x.undos ((0,0,0):Un)∈x.undos:=by
  unfold Wf5;rw[WP (show x.undos.length-1<x.undos.length by omega)];exact Xar _
 unfold Zbc WhH;simp only[Wn];rw[show P5 w.e=w.roots.map Rt.e from rfl,g1];rw[show x.e.2.2.2.2.2.2.2.2.2.2.2.2.2.2.2.2.1=x.undos from rfl,a,b,show w.e.2.2.2.1=w.shelf from rfl,WgB hs (hu _ ay) hN,c];simp only[Wa,Xd,d];exact Wce rfl rfl rfl
theorem WoR(hk:k<w.roots.length)(aI:w.roots[k]=x)(kz:k<=1000):Zea N w.e (k:Int)=some (((Wo.put (WnQ w x k) k).e,()),()):=by
 obtain⟨g1,g2,g3,g4,g5⟩:=woG hk aI;unfold Zea WnQ;simp only[Wn];rw[show P5 w.e=w.roots.map Rt.e from rfl,g4,g2,WbU (by omega),Xk];simp only[Wa,Wy];rw[show w.e.2.1=w.token from rfl];by_cases h:w.token=(k:Int)+1
 .rw[We h];simp only[We h];exact Wce rfl rfl rfl
 .rw[Wc h];simp only[Wc h];exact Wce rfl rfl rfl
theorem Wk2(hk:k<w.roots.length)(aI:w.roots[k]=x)(kz:k<=8)(hh:HOk w.holds)(kR:0<=x.rv/\x.rv<=1000000)(hr:WaD x.reads=true)(hw:WaD x.writes=true){out:Int}(hN:1048576<N):
  Zem N w.e (k:Int) out=some (((Wo.put (Wg1 w x k out) k).e,()),()):=by
 obtain⟨g1,g2,g3,g4,g5⟩:=woG hk aI;obtain⟨r0,r1,r2,r3,r4,r5,r6,r7,r8,iJ,ib,gu,gv,gw,gS,ju,jv,iL,iM,jw,jx,jy⟩:=rtP x;have qe:=WjI hh;have p0:∀y:Rt,Zea N (S5 (Xi (w.roots.map Rt.e) (Xa (k:Int)) y.e) w.e) (k:Int)=some (((Wo.put (WnQ w y k) k).e,()),()):=λy=>by
  rw[Xk,S5e];have h1:k<({w with roots:=w.roots.set k y}:Wo).roots.length:=by simpa using hk
  rw[WoR (x:=y) h1 (by simp) (by omega)];unfold WnQ Wo.put;simp only[Xdt]
 unfold Zem Wg1;simp only[Wn];rw[show P5 w.e=w.roots.map Rt.e from rfl,g4,g2,WbU (by omega),show P4 w.e=w.holds from rfl];have vi:∀{α:Type} (a b:α),(bif ((0:Int)==(0:Int))then a else b)=a:=λ_ _=>rfl;have vk:∀{α:Type} (a b:α),(bif ((0:Nat)==(0:Nat))then a else b)=a:=λ_ _=>rfl;simp only[vi,vk];simp only[Wa,Wy,r4,gu,gv,WgN (who:=(k:Int)+1) hh (by omega) hN,ret,Xd,Wh];have s7:∀rows,WaD rows=true->Zct N ((k:Int)+1) x.rv rows x.reads=some ((),((Wgb ((k:Int)+1) x.rv rows x.reads).e,(true,()))):=λrows kE=>WrB (by omega) kR kE hr hN;have bt:Zct N ((k:Int)+1) x.rv ([]:List Kc) x.reads=some ((),((Wgb ((k:Int)+1) x.rv [] x.reads).e,(true,()))):=s7 [] rfl;have bs:(S8 x.rv (S7 out x.e))=Rt.e {x with fate:=out,stamp:=x.rv}:=rfl;rw[bt,s7 _ hw,bs,p0];simp only[Xd];by_cases ho:out=2
 .rw[We ho,We ho];by_cases hz:(Wft w.holds ((k:Int)+1)).length=0
  .rw[We (by omega),We ⟨rfl,hz⟩]
  .rw[Wc (by omega),Wc (λh=>hz h.2),Xk];exact Wce rfl rfl rfl
 .rw[Wc ho,Wc ho];by_cases hy:x.writes.length=0
  .rw[We (by omega)];by_cases hz:(Wft w.holds ((k:Int)+1)).length=0
   .rw[We (by omega),We ⟨hy,hz⟩]
   .rw[Wc (by omega),Wc (λh=>hz h.2),Xk];exact Wce rfl rfl rfl
  .rw[Wc (by omega),Wc (λh=>hy h.1),Xk];exact Wce rfl rfl rfl
theorem Wkw{l:List Rw}(h:Whb l)(hl:l.length<=300):WaD l=true:=by
 unfold WaD;rw[WjN.2 h,Wb hl];rfl
theorem Wpu(hc:CC code):∀j,j<=code.length->frk code j<=1
 |0,_=>by simp[frk]
 |j+1,h=>by
  have hj:j<code.length:=by omega
  by_cases gR:code[j].1=11
  .exact(hc.fk j hj gR).2
  .rw[WiK hj,show(code[j].1==11)=false by simpa using gR];have:=Wpu hc j (by omega);simpa using this
theorem RLive.sz(hc:CC p.1)(h:RLive p n x):x.reads.length<=96/\x.writes.length<=32/\x.undos.length<=24/\x.marks.length<=24/\WaD x.reads=true/\WaD x.writes=true:=by
 have h1:=h.pc;have h2:=hc.len;have h3:=Wpu hc x.pc.toNat (by omega);have h4:=h.rl;have h5:=h.wl;have h6:=h.ul;have h7:=Wk Xb h.marks.pcs;simp only[Xad]at h7;have h8:=Wa5 hc.up x.pc.toNat (by omega);have h9:=(Wdv p.1 x.pc.toNat).2;exact⟨by omega,by omega,by omega,by omega,Wkw h.reads (by omega),Wkw h.writes (by omega)⟩
theorem Wo9(hb:x.busy=true->Wi3 x.pb=true){c:Int}(hc:0<=c/\c<=7):Wi3 (if x.busy then x.pb else(c,0,0,0))=true:=by
 split
 .exact hb ‹_›
 .rw[WdZ];simp only;omega
theorem Wq5(hk:k<w.roots.length)(aI:w.roots[k]=x)(hc:CC p.1)(hx:RLive p n x)(hm:Waf w.mem=true)(h5:o.1=5)(ho:Wd9 o=true)(hN:1048576<N):
  Zga N w.e k o=some (((Wo.put (w,WpP w x o) k).e,()),()):=by
 obtain⟨g1,g2,g3,g4,g5⟩:=woG hk aI;obtain⟨r0,r1,r2,r3,r4,r5,r6,r7,r8,iJ,ib,gu,gv,gw,gS,ju,jv,iL,iM,jw,jx,jy⟩:=rtP x;obtain⟨z1,z2,z3,z4,z5,z6⟩:=hx.sz hc;obtain⟨hA,hB⟩:=Ws1 ho h5;have hB':0<=o.2.2.1/\o.2.2.1<=7:=by unfold Wal at hB;simpa using hB
 have cU:=hx.regs.len;have bA:=hx.pc;have cK:=hc.len;have ic:=hx.spare;unfold Zga WpP;simp only[Wn];rw[show P5 w.e=w.roots.map Rt.e from rfl,g1,show w.e.2.2.1=w.mem from rfl];simp only[r3,r4,ib,gu,gv,ju,jv];rw[Wdj (by omega) hN,Waz hA cU,WbU (by omega)];cases hl:Wb1 x.writes o.2.2.1 with
 |some v=>
  simp only[opI,Xd,Wa];exact Wce rfl rfl rfl
 |none=>
  have aq:WV (x.reads.length+ [(o.2.2.1,(0:Int))].length)=true:=WK (by simp;omega);have jU:Zdk N o.2.2.1=some ((),((o.2.2.1,0,0,0),(true,()))):=by
   unfold Zdk;rw[Wai,hB];rfl
  have ie:=Wo9 hx.pb hB';have oY:S18 true x.e=Rt.e {x with busy:=true}:=rfl;simp only[opI,Xd,Wf,Wy,jU,oY];have fO:∀q:Pb,S19 q (Rt.e {x with busy:=true})=Rt.e {x with busy:=true,pb:=q}:=λq=>rfl;simp only[fO,WdD (x:={x with busy:=true,pb:=_}) ic];cases hb:x.busy with
  |false=>
   rw[hb]at ie;simp only[Xap,Wae]at ie;rw[WdJ hm ie hN];simp only[Xcm,Wa,ret,Xd,Xap,Wae];generalize WaU w.mem x.rv (o.2.2.1,0,0,0)=q;by_cases h4:q.2.1=4
   .rw[We h4,We h4];exact Wce rfl rfl rfl
   .rw[Wc h4,Wc h4];by_cases h3:q.2.1=3
    .rw[We h3,We h3,WK (by simp;omega)];exact Wce rfl rfl rfl
    .rw[Wc h3,Wc h3];exact Wce rfl rfl rfl
  |true=>
   have cw:∀q:Pb,S19 q x.e=Rt.e {x with busy:=true,pb:=q}:=λq=>by
    have:S19 q x.e=Rt.e {x with pb:=q}:=rfl;rw[this]
    conv=>lhs;rw[show({x with pb:=q}:Rt)={x with busy:=x.busy,pb:=q}from rfl,hb]
   rw[hb]at ie;simp only[W9]at ie;rw[WdJ hm ie hN];simp only[Xx,Wf,ret,Xd,W9,cw,WdD (x:={x with busy:=true,pb:=_}) ic];generalize WaU w.mem x.rv x.pb=q;by_cases h4:q.2.1=4
   .rw[We h4,We h4];exact Wce rfl rfl rfl
   .rw[Wc h4,Wc h4];by_cases h3:q.2.1=3
    .rw[We h3,We h3,WK (by simp;omega)];exact Wce rfl rfl rfl
    .rw[Wc h3,Wc h3];exact Wce rfl rfl rfl
end
section
variable{N:Nat}{w:Wo}{k:Nat}{x:Rt}{o:Opn}{p:Pg}{n:Int}{code:List Opn}
theorem RLive.mk24(hc:CC p.1)(h:RLive p n x)(hz:x.marks.length≠0):∃(m:Nat) (q:List RM),x.marks=q++ [x.last]/\x.last.1=(m:Int)/\(∃hm:m<p.1.length,p.1[m].1=8)/\(m:Int)<x.pc/\Mate p.1 m (WhF p.1 m)/\x.pc<=WhF p.1 m/\stk p.1 m=(stk p.1 x.pc.toNat).dropLast/\x.marks.dropLast=q/\
  Vals 4 x.last.2.2.2.2/\(0<=x.last.2.1/\x.last.2.1<=x.last.1+72*frk p.1 x.last.1.toNat/\x.last.2.1<=x.reads.length)/\(0<=x.last.2.2.1/\x.last.2.2.1<=x.last.1+8/\x.last.2.2.1<=x.writes.length)/\0<=x.last.2.2.2.1/\x.last.2.2.2.1<=x.last.1/\x.last.2.2.2.1<=x.undos.length:=by
 have hp:=h.pc;obtain⟨m,q,y,e1,e2,e3,e4,e5,e6,e7,e8,e9⟩:=WkU (d:=zRM) hc (show x.pc.toNat<=p.1.length by omega) h.marks.pcs hz;have hl:x.last=y:=e2;have hy:=h.marks.each y (by grind)
 grind
theorem Wsr(h:x.marks.length≠0)(hl:x.marks.length<=1000):(inb (WC .i64 (x.marks.length:Int) 1) x.marks.length&&true)=true/\(inb (WC .i64 (x.marks.length:Int) 1) x.marks.length&&Nat.beq (Xa (WC .i64 (x.marks.length:Int) 1)) (Xa (WC .i64 (x.marks.length:Int) 1)))=true/\
  Xc x.marks (Xa (WC .i64 (x.marks.length:Int) 1)) ((0:Int),((0:Int),((0:Int),((0:Int),([]:List Int)))))=x.last/\Xi x.marks (Xa (WC .i64 (x.marks.length:Int) 1)) x.last=x.marks/\decide (WC .i64 (x.marks.length:Int) 1<=((Xa (WC .i64 (x.marks.length:Int) 1):Nat):Int))=true:=by
 obtain⟨a,b,c,d⟩:=Wdu h hl zRM;have a':inb (WC .i64 (x.marks.length:Int) 1) x.marks.length=true:=a;have b':Xc x.marks (Xa (WC .i64 (x.marks.length:Int) 1)) zRM=x.last:=b;refine⟨by rw[a'];rfl,by rw[a'];simp,b',?_,Wb (Int.self_le_toNat _)⟩;rw[←b',List.getD_eq_getElem?_getD];apply List.ext_getElem?;intro i;rw[List.getElem?_set];split
 .rename_i e;subst e;split
  .rename_i ad;rw[Xp ad];rfl
  .rename_i ad;rw[List.getElem?_eq_none (by omega)]
 .rfl
theorem Wpx(hk:k<w.roots.length)(aI:w.roots[k]=x)(kz:k<=8)(hc:CC p.1)(hx:RLive p n x)(hu:∀u∈x.undos,UnV u)(hs:ShOk w.shelf)(hh:HOk w.holds)(hN:1048576<N):
  Zf0 N w.e (k:Int) p.1=some (((Wo.put (Wkq w x k p.1) k).e,()),()):=by
 obtain⟨g1,g2,g3,g4,g5⟩:=woG hk aI;obtain⟨r0,r1,r2,r3,r4,r5,r6,r7,r8,iJ,ib,gu,gv,gw,gS,ju,jv,iL,iM,jw,jx,jy⟩:=rtP x;obtain⟨z1,z2,z3,z4,z5,z6⟩:=hx.sz hc;have cK:=hc.len;unfold Zf0 Wkq;simp only[Wn];rw[show P5 w.e=w.roots.map Rt.e from rfl,g4,g2];simp only[Wa,Wy,gw,Wh];by_cases hz:x.marks.length=0
 .rw[We (by omega),We hz,g3,Wk2 hk aI kz hh hx.rv z5 z6 hN];rfl
 .rw[Wc (by omega),Wc hz];obtain⟨i1,i2,i3,i4,i5⟩:=Wsr hz (by omega);rw[i1,Wa,i2,Wa,i3,i4,show S15 x.marks x.e=x.e from rfl];simp only[Xd,gS,WaF];obtain⟨m,q,e1,e2,⟨hm,jz⟩,e4,e5,e6,e7,e8,e9,kA,lr,mX,mY,kB⟩:=hx.mk24 hc hz;by_cases hgt:(x.undos.length:Int)>x.last.2.2.2.1
  .rw[We hgt,We hgt,g3,Xk,Wjj hk aI (by omega) (by omega) hu hs hN];rfl
  .rw[Wc hgt,Wc hgt];simp only[gv,gw];obtain⟨a,b,c,d⟩:=Wdu hz (by omega) zRM;have d':(decide ((0:Int)<=WC .i64 (x.marks.length:Int) 1)&&decide (WC .i64 (x.marks.length:Int) 1<=(x.marks.length:Int))&&decide (WC .i64 (x.marks.length:Int) 1<=((Xa (WC .i64 (x.marks.length:Int) 1):Nat):Int)))=true:=by
    have d0:(decide ((0:Int)<=WC .i64 (x.marks.length:Int) 1)&&decide (WC .i64 (x.marks.length:Int) 1<=(x.marks.length:Int)))=true:=d;rw[d0,i5];rfl
   have c':Xal (Xa (WC .i64 (x.marks.length:Int) 1)) x.marks=x.marks.dropLast:=c;rw[d',c',WaQ (by rw[e9.len];omega),e2,WW,Wb hm];have o1:Xc p.1 (Xa ((m:Nat):Int)) ((0,0,0,0):Opn)=opN p.1 (m:Int):=rfl;have hr:=WsS (hc.ok m hm).1 jz;rw[←WiZ hm]at hr;simp only[Wa,ret,Xd,o1];rw[Waz hr e9.len];have b2:(decide ((0:Int)<=x.last.2.2.1)&&decide (x.last.2.2.1<=(x.writes.length:Int)))=true:=by simp;omega
   rw[b2];simp only[Wa];rw[WcB (by grind),WgU (by omega) hN ⟨hm,jz⟩ e5];simp only[ret,Xd];rw[WbU (by have:=e5.len;omega),Xk];exact Wce rfl rfl rfl
theorem Wph(hk:k<w.roots.length)(aI:w.roots[k]=x)(kz:k<=8)(hc:CC p.1)(hx:RLive p n x)(ho:Wd9 o=true)(fK:12<=o.1)(hs:ShOk w.shelf)(hh:HOk w.holds)(hN:1048576<N):
  Zen N w.e (k:Int) o=some (((Wo.put (WhS w x k o) k).e,()),()):=by
 obtain⟨g1,g2,g3,g4,g5⟩:=woG hk aI;obtain⟨r0,r1,r2,r3,r4,r5,r6,r7,r8,iJ,ib,gu,gv,gw,gS,ju,jv,iL,iM,jw,jx,jy⟩:=rtP x;obtain⟨z1,z2,z3,z4,z5,z6⟩:=hx.sz hc;have qe:=WjI hh;have bA:=hx.pc;have cK:=hc.len;have oZ:(0<=(WcM o).1/\(WcM o).1<=8)/\1<=(WcM o).2/\(WcM o).2<=2:=by
  grind [WcM,Wl9,Wd5,Wq3,WqZ,Wb4,WrY]
 unfold Zen WhS;simp only[Wn,WcD];rw[show P5 w.e=w.roots.map Rt.e from rfl,g4,g2,WbU (by omega),Wjx ho fK,show P4 w.e=w.holds from rfl,show w.e.2.2.2.1=w.shelf from rfl];simp only[Wa,Xd,Wgx hh (show 1<=(k:Int)+1/\(k:Int)+1<=9 by omega) oZ.1 oZ.2 (by omega) hN,r3,ib,gS,WdD hx.spare];cases ha:WeD w.holds ((k:Int)+1) (WcM o).1 (WcM o).2 with
 |none=>
  simp only[Option.isSome_none,Xcm,Wa,Xk];exact Wce rfl rfl rfl
 |some cu=>
  simp only[Xga,Xx,Wf,Xea,Xk,Wgy hs hx.regs ho fK hN,Xd,Wcl];rw[WbU (by omega),WK (by simp;omega)];by_cases hz:(Wbc w.shelf o x.regs).2.2.1=0
  .rw[We hz,We hz];exact Wce rfl rfl rfl
  .rw[Wc hz,Wc hz];exact Wce rfl rfl rfl
theorem Wr9(hk:k<w.roots.length)(aI:w.roots[k]=x)(kz:k<=8)(hp:POk p)(hx:RLive p n x)(hu:∀u∈x.undos,UnV u)(hm:Waf w.mem=true)(hs:ShOk w.shelf)(hh:HOk w.holds)(hN:1048576<N):
  Zfg N w.e (k:Int) p=some (((Wo.put (Wqa w x k p) k).e,()),()):=by
 obtain⟨g1,g2,g3,g4,g5⟩:=woG hk aI;obtain⟨r0,r1,r2,r3,r4,r5,r6,r7,r8,iJ,ib,gu,gv,gw,gS,ju,jv,iL,iM,jw,jx,jy⟩:=rtP x;have hc:=hp.code;obtain⟨z1,z2,z3,z4,z5,z6⟩:=hx.sz hc;have bA:=hx.pc;have cK:=hc.len;have cU:=hx.regs.len;unfold Zfg Wqa;simp only[Wn];rw[show P5 w.e=w.roots.map Rt.e from rfl,g4,g2,g3];simp only[Wa,r3,r4,ib,gu,gv,gw,gS,WaF,Wy,show Wh p.1=(p.1.length:Int)from rfl];by_cases eS:x.pc>=p.1.length
 .rw[We eS,We eS,Wk2 hk aI kz hh hx.rv z5 z6 hN];rfl
 .rw[Wc eS,Wc eS];obtain⟨j,hj,ej,eo⟩:=Wj9 (l:=p.1) bA.1 (by omega);have rQ:Xc p.1 (Xa x.pc) ((0,0,0,0):Opn)=opN p.1 x.pc:=rfl;have di:inb x.pc p.1.length=true:=by grind [WW,decide_eq_true]
  rw[di];obtain⟨ok,o1,gN⟩:=hc.ok j hj;simp only[Wa,rQ];rw[←eo]at ok o1 gN;rw[WbU (show 0<=x.pc/\x.pc<=1000000 by omega)];have o0:(opN p.1 x.pc).1=9->x.marks.length≠0:=λh9 hz=>by
   have h1:=Wk Xb hx.marks.pcs;simp only[Xad,hz]at h1;have h2:=Wa5 hc.up j (by omega);have h3:=hc.up j hj
   grind [WaL,WnP,Xk]
  generalize opN p.1 x.pc=o at*;have vm:o.1>=12->Zen N w.e (k:Int) o=some (((Wo.put (WhS w x k o) k).e,()),()):=λfK=>Wph hk aI kz hc hx ok fK hs hh hN;by_cases h5:o.1=5
  .rw[We h5,We h5,Xk,Wq5 hk aI hc hx hm h5 ok hN];rfl
  .rw[Wc h5,Wc h5];by_cases cG:o.1=10
   .rw[We cG,We cG,Wpx hk aI kz hc hx hu hs hh hN];rfl
   .rw[Wc cG,Wc cG];by_cases gR:o.1=11
    .rw[We gR,We gR,show Wh p.2=((p.2.length:Nat):Int)from rfl,WhD (by omega) (by omega) hp.k3 hN,Xk];exact Wce rfl rfl rfl
    .rw[Wc gR,Wc gR];by_cases fK:o.1>=12
     .rw[We fK];have hb:=vm fK;have:o.1=12\/o.1=13\/o.1=14\/o.1=15\/o.1=16:=by omega
      rcases this with h|h|h|h|h
      .rw[We h,We h,hb];rfl
      .rw[Wc (by omega),We h,We h,hb];rfl
      .rw[Wc (by omega),Wc (by omega),We h,We h,hb];rfl
      .rw[Wc (by omega),Wc (by omega),Wc (by omega),We h,We h,hb];rfl
      .rw[Wc (by omega),Wc (by omega),Wc (by omega),Wc (by omega),We h,hb];rfl
     .rw[Wc fK,Wc (show¬o.1=12 by omega),Wc (show¬o.1=13 by omega),Wc (show¬o.1=14 by omega),Wc (show¬o.1=15 by omega),Wc (show¬o.1=16 by omega)];by_cases h6:o.1=6
      .rw[We h6,We h6,Waz (WsT ok h6).2 cU,WK (by simp;omega),Xk];exact Wce rfl rfl rfl
      .rw[Wc h6,Wc h6];by_cases h7:o.1=7
       .rw[We h7,We h7];have h:=WsV ok h7;rw[Waz h.1 cU,W3 (a:=x.pc) (b:=o.2.2.1) (by unfold I64;omega),WbU (a:=x.pc+o.2.2.1) (by omega),Xk];by_cases hg:Xc x.regs (Xa o.2.1) 0=0
        .rw[We hg,We (show Wcu x.regs o.2.1 0=0 from hg)];exact Wce rfl rfl rfl
        .rw[Wc hg,Wc (show¬Wcu x.regs o.2.1 0=0 from hg)];exact Wce rfl rfl rfl
       .rw[Wc h7,Wc h7];by_cases h8:o.1=8
        .rw[We h8,We h8,WaQ (by omega)];simp only[ret,Xd];rw[WK (by simp;omega),Xk];exact Wce rfl rfl rfl
        .rw[Wc h8,Wc h8];by_cases h9:o.1=9
         .rw[We h9,We h9];have hz:=o0 h9;obtain⟨a,b,c,d⟩:=Wdu hz (by omega) zRM;obtain⟨m,q,e1,e2,⟨fU,jz⟩,e4,e5,e6,e7,e8,e9,kA,lr,mX,mY,kB⟩:=hx.mk24 hc hz;rw[Wk9 hz (by omega)];simp only[Xd];rw[d,c,e2,WW,Wb fU];have o1:Xc p.1 (Xa ((m:Nat):Int)) ((0,0,0,0):Opn)=opN p.1 (m:Int):=rfl;have hr:=WsS (hc.ok m fU).1 jz;rw[←WiZ fU]at hr;simp only[Wa,o1];rw[Waz hr cU,Xk];exact Wce rfl rfl rfl
         .rw[Wc h9,Wc h9,WfF hN ok (by omega) (by omega) hx.regs,Xk];exact Wce rfl rfl rfl
theorem Wp8(hk:k<w.roots.length)(aI:w.roots[k]=x)(kC:w.roots.length<=8)(hN:1048576<N):
  Zdv N w.e (k:Int)=some (((Wo.put (Wji w x k) k).e,()),()):=by
 obtain⟨g1,g2,g3,g4,g5⟩:=woG hk aI;have fz:=Wnd hk aI;have cU:(w.roots.map Rt.e).length=w.roots.length:=by simp
 unfold Zdv;rw[show P5 w.e=w.roots.map Rt.e from rfl,g4,g2,WbU (by omega),Xk];simp only[Wa,Wcl,Wy,WaF,show w.e.2.1=w.token from rfl,show x.e.2.1=x.tries from rfl,show w.e.1=w.now from rfl,show w.e.2.2.1.1=w.mem.1 from rfl];have lD:∀(K0:Bool->Int->Bool->Option ((Y_World×Unit)×Unit)) (d j n:Nat) (al:Bool),j+d=w.roots.length->d<n->
   Zad N (k:Int) k (Wh (w.roots.map Rt.e)) w.now w.token w.mem.1 w.e.2.2.2.1.2 (w.roots.map Rt.e) w.e.2.2.1.2 w.e.2.2.2.1.1 (P4 w.e) (Q6 w.e) K0 n al (j:Int)=K0 (al&&WcH k (w.roots.drop j) j) (w.roots.length:Int) false:=by
  intro K0 d
  induction d with
  |zero=>
   intro j n al hj hn;obtain⟨n,rfl⟩:∃n',n=n'+1:=⟨n-1,by omega⟩;have:j=(w.roots.map Rt.e).length:=by omega
   rw[Zad,this,WaC (Xm _),cU,Xcz];simp[WcH]
  |succ d ih=>
   intro j n al hj hn;obtain⟨n,rfl⟩:∃n',n=n'+1:=⟨n-1,by omega⟩;have ad:j<(w.roots.map Rt.e).length:=by omega
   have rU:j<w.roots.length:=by omega
   rw[Zad];simp only[Wan ad,WD ad,WH ad,Wt (show j<4611686018427387904 by omega),Wa,ih (j+1) n _ (by omega) (by omega),List.getElem_map];rw[Xbm rU,WcH];generalize WcH k (w.roots.drop (j+1)) (j+1)=b;have hp:(Rt.e w.roots[j]).1=w.roots[j].phase:=rfl;rw[hp];simp only[Wy];cases al with
   |false=>simp
   |true=>
    simp only[Wa,Xcp];by_cases h1:j=k
    .rw[We (by omega),Wb h1];simp
    .rw[Wc (by omega),Ws h1];by_cases h2:w.roots[j].phase=0
     .rw[We h2,Wb h2];simp
     .rw[Wc h2,Ws h2];have:(w.roots[j].phase==8)=decide (w.roots[j].phase=8):=by
       by_cases h3:w.roots[j].phase=8<;>simp[h3]
      rw[this];simp
 have:=lD;refine(lD _ w.roots.length 0 N true (by omega) (by omega)).trans ?_;rw[Xca,Xcp];unfold Wji;have cE:some ((S5 (Xi (w.roots.map Rt.e) k ((1:Int),(x.tries,((0:Int),((0:Int),(w.mem.1,((0:Int),((0:Int),((0:Int),((0:Int),(w.now,((0:Int),(false,(Xr (Xa (4:Int)) (0:Int),(([]:List Kc),(([]:List Kc),(([]:List Kj),(([]:List Kb),(([]:List Int),(false,(((0:Int),((0:Int),((0:Int),(0:Int)))),(((0:Int),((0:Int),((0:Int),((0:Int),((0:Int),(([]:List Kc),([]:List Int))))))),d_Family)))))))))))))))))))))) w.e,()),())=some (((Wo.put (w,{phase:=1,tries:=x.tries,rv:=w.mem.1,began:=w.now,regs:=[0,0,0,0]}) k).e,()),()):=Wce (x':={phase:=1,tries:=x.tries,rv:=w.mem.1,began:=w.now,regs:=[0,0,0,0]}) (w':=w) rfl rfl rfl;have rV:some (((w.now,((k:Int)+1,w.e.2.2)),()),())=some (((Wo.put ({w with token:=(k:Int)+1},x) k).e,()),()):=by
  have:Wo.put ({w with token:=(k:Int)+1},x) k={w with token:=(k:Int)+1}:=by unfold Wo.put;simp only;rw[←aI,Xbi]
  rw[this];rfl
 have aq:(((decide ((0:Int)<=(4:Int)))&&(decide ((4:Int)<=(4:Int))))&&(WV (Xa (4:Int))))=true:=rfl;have cw:some ((w.e,()),())=some (((Wo.put (w,x) k).e,()),()):=by rw[fz]
 rw[aq];simp only[Wa,cE];by_cases t0:w.token=0
 .rw[We t0];rw[Wc (show¬(w.token≠0/\w.token≠(k:Int)+1) by omega)];by_cases ht:x.tries>=3
  .rw[We ht,We t0,We ⟨ht,t0⟩];exact rV
  .rw[Wc ht,Wc (show¬w.token=(k:Int)+1 by omega),Wc (λh=>ht h.1),Wc (by omega)]
 .rw[Wc t0];by_cases t1:w.token=(k:Int)+1
  .rw[We t1,Wc (show¬(w.token≠0/\w.token≠(k:Int)+1) by omega),Wc (show¬(x.tries>=3/\w.token=0) by omega)];have eH:∀b:Bool,(bif !b then some ((w.e,()),())else some (((Wo.put (w,{phase:=1,tries:=x.tries,rv:=w.mem.1,began:=w.now,regs:=[0,0,0,0]}) k).e,()),()))=some (((Wo.put (if w.token=(k:Int)+1/\b=false then(w,x)else(w,{phase:=1,tries:=x.tries,rv:=w.mem.1,began:=w.now,regs:=[0,0,0,0]})) k).e,()),()):=λb=>by
    cases b with
    |false=>rw[We ⟨t1,rfl⟩];exact cw
    |true=>rw[Wc (by simp)];rfl
   by_cases ht:x.tries>=3
   .rw[We ht,Wc t0,We t1];exact eH _
   .rw[Wc ht,We t1];exact eH _
  .rw[Wc t1,We ⟨t0,t1⟩];exact cw
theorem Wqi(hp:POk p)(hx:RLive p n x)(h2:x.phase=2)(hN:1048576<N):Zfh N x.e=some (((Wlg x).e,()),()):=by
 obtain⟨r0,r1,r2,r3,r4,r5,r6,r7,r8,iJ,ib,gu,gv,gw,gS,ju,jv,iL,iM,jw,jx,jy⟩:=rtP x;have hc:=hp.code;obtain⟨z1,z2,z3,z4,z5,z6⟩:=hx.sz hc;obtain⟨f1,f2,f3⟩:=hx.fork h2;have bA:=hx.pc;have cK:=hc.len;have s8:x.fam.kids.length<=3:=by have:=f3.len;have:=hp.k3;omega
 have mW:=f3.len3 hp.k3;have rR:=f3.readsL;unfold Zfh Wlg;simp only[r3,gu,iM,jw,jx,jy,WdU,Xd];rw[WkX s8 hN,Wi4 f3.regs s8 (λy hy=>by
  obtain⟨i,hi,rfl⟩:=Xcd hy;rw[(f3.kid i hi).regs.len];omega) hN,WkE (by have:=f3.buf8;omega) hN,WK (by omega),WaQ (by omega),WbU (by omega),Wgi]
 by_cases hl:x.fam.lost=true
 .rw[We hl,We hl]
 .rw[Wc hl,Wc hl];simp only[ret,Xd,Wa];cases ho:Weo x.fam
  .rw[Wc (by simp)];rfl
  .rw[We rfl];rfl
theorem WnU(hk:k<w.roots.length)(aI:w.roots[k]=x)(hp:POk p)(hx:RLive p n x)(h4:x.phase=4)(hm:Waf w.mem=true):
  Zd5 N w.e k=some (((Wo.put (w,WdB w x) k).e,()),()):=by
 obtain⟨g1,g2,g3,g4,g5⟩:=woG hk aI;obtain⟨r0,r1,r2,r3,r4,r5,r6,r7,r8,iJ,ib,gu,gv,gw,gS,ju,jv,iL,iM,jw,jx,jy⟩:=rtP x;have hc:=hp.code;obtain⟨z1,z2,z3,z4,z5,z6⟩:=hx.sz hc;have hz:=hx.back (.inr h4);obtain⟨m,q,e1,e2,⟨fU,jz⟩,e4,e5,e6,e7,e8,e9,kA,lr,mX,mY,kB⟩:=hx.mk24 hc hz;have cq:=hx.pos h4;have bA:=hx.pc;have cK:=hc.len;unfold Zd5 WdB;simp only[Wn];obtain⟨i1,i2,i3,i4,i5⟩:=Wsr hz (by omega);rw[show P5 w.e=w.roots.map Rt.e from rfl,g1,gw];simp only[Wh];rw[i1,Wa,i2,Wa];simp only[i3,i4,show S15 x.marks x.e=x.e from rfl];simp only[Xd,r4,r5,r6,gu,gv,WaF,WdU,show w.e.2.2.1.2=w.mem.2 from rfl];by_cases ad:x.pos<x.last.2.1
 .rw[We ad,We ad];have hj:x.pos.toNat<x.reads.length:=by omega
  have di:inb x.pos x.reads.length=true:=by unfold inb;simp;omega
  have hg:Xc x.reads (Xa x.pos) ((0:Int),(0:Int))=Wcu x.reads x.pos (0,0):=rfl;have hv:0<=(Wcu x.reads x.pos (0,0)).1/\(Wcu x.reads x.pos (0,0)).1<=7:=by
   unfold Wcu;rw[WP hj];exact(hx.reads _ (Xar hj)).1
  rw[di,hg,Wfq hm hv,show Xc w.mem.2 (Xa (Wcu x.reads x.pos (0,0)).1) ((0:Int),((0:Int),(0:Int)))=Wbg w.mem (Wcu x.reads x.pos (0,0)).1 from rfl,WbU (by omega)];simp only[Wa,Wcl];by_cases a:(Wbg w.mem (Wcu x.reads x.pos (0,0)).1).2.2=0
  .rw[We a];by_cases b:(Wbg w.mem (Wcu x.reads x.pos (0,0)).1).2.1>x.rv
   .rw[We b,We (.inr b)];exact Wce rfl rfl rfl
   .rw[Wc b,Wc (by omega)];exact Wce rfl rfl rfl
  .rw[Wc a,We (.inl a)];exact Wce rfl rfl rfl
 .rw[Wc ad,Wc ad];have b1:(decide ((0:Int)<=x.last.2.1)&&decide (x.last.2.1<=(x.reads.length:Int)))=true:=by simp;omega
  have b2:(decide ((0:Int)<=x.last.2.2.1)&&decide (x.last.2.2.1<=(x.writes.length:Int)))=true:=by simp;omega
  rw[b1,b2,WcB (by rw[Xbe];omega),WcB (by rw[Xbe];omega),WaQ (by rw[e9.len];omega),WbU (by omega)];simp only[Wa,ret,Xd];exact Wce rfl rfl rfl
theorem Wno(hk:k<w.roots.length)(aI:w.roots[k]=x)(kz:k<=8)(jZ:CmOk x.cm)(hm:Waf w.mem=true)(hh:w.hist.length<=500000)(hN:1048576<N):
  Zd6 N w.e (k:Int)=some (((Wo.put (Wdz w x k) k).e,()),()):=by
 obtain⟨g1,g2,g3,g4,g5⟩:=woG hk aI;obtain⟨r0,r1,r2,r3,r4,r5,r6,r7,r8,iJ,ib,gu,gv,gw,gS,ju,jv,iL,iM,jw,jx,jy⟩:=rtP x;have bs:=WkM jZ hm;unfold Zd6 Wdz;simp only[Wn,WcD];rw[show P5 w.e=w.roots.map Rt.e from rfl,g4,g2,WbU (by omega),Xk];simp only[Wa,r7,iJ,iL,show w.e.2.2.1=w.mem from rfl,show Q6 w.e=w.hist from rfl];rw[Wgi];by_cases hd:x.doomed=true
 .rw[We hd,We hd];obtain⟨b,hb⟩:=Wov (N:=N) jZ hN;rw[hb];simp only[Xd,Wy,show(Wcb x.cm).e.2.2.1=(Wcb x.cm).phase from rfl];by_cases h8:(Wcb x.cm).phase=8
  .rw[We h8,We h8];have:S20 (Wcb x.cm).e (S11 false x.e)=Rt.e {x with cm:=Wcb x.cm,doomed:=false}:=rfl;rw[this,WdU];exact Wce rfl rfl rfl
  .rw[Wc h8,Wc h8];exact Wce rfl rfl rfl
 .rw[Wc hd,Wc hd,Wkf jZ hm hN];simp only[Xd];obtain⟨m',c',hq⟩:∃m' c',WeU w.mem x.cm=(m',c'):=⟨_,_,rfl⟩;rw[hq]at bs⊢;simp only at bs⊢;have oX:Zau N (P5 c'.e)=ret c'.puts:=WcB (by have:=bs.1.plen;show c'.puts.length<=1048576;omega);have hS:S20 c'.e x.e=Rt.e {x with cm:=c'}:=rfl;rw[oX,hS,WdU];simp only[ret,Xd];rw[WK (by simp;omega)];simp only[Wa,Wy,WaF,show c'.e.2.2.1=c'.phase from rfl,show(Cm.e x.cm).2.2.1=x.cm.phase from rfl,show P4 c'.e=c'.wv from rfl];unfold Wot;simp only;by_cases h3:x.cm.phase<=3
  .rw[We h3];by_cases h4:c'.phase=4
   .rw[We h4,Wc (by omega),Wc (by omega),We (show x.cm.phase<=3/\c'.phase=4 from⟨h3,h4⟩),Wc (by omega),Wc (by omega)];exact Wce (w':={w with mem:=m',hist:=w.hist++ [(c'.wv,(k:Int)+1,c'.puts)]}) rfl rfl rfl
   .rw[Wc h4,Wc (show¬(x.cm.phase<=3/\c'.phase=4)fromλh=>h4 h.2)];by_cases h8:c'.phase=8
    .rw[We h8,We h8];exact Wce (w':={w with mem:=m'}) rfl rfl rfl
    .rw[Wc h8,Wc h8];by_cases h6:c'.phase=6
     .rw[We h6,We h6];by_cases h2:x.fate=2
      .rw[We h2,We h2];exact Wce (w':={w with mem:=m'}) rfl rfl rfl
      .rw[Wc h2,Wc h2];exact Wce (w':={w with mem:=m'}) rfl rfl rfl
     .rw[Wc h6,Wc h6];exact Wce (w':={w with mem:=m'}) rfl rfl rfl
  .rw[Wc h3,Wc (show¬(x.cm.phase<=3/\c'.phase=4)fromλh=>h3 h.1)];by_cases h8:c'.phase=8
   .rw[We h8,We h8];exact Wce (w':={w with mem:=m'}) rfl rfl rfl
   .rw[Wc h8,Wc h8];by_cases h6:c'.phase=6
    .rw[We h6,We h6];by_cases h2:x.fate=2
     .rw[We h2,We h2];exact Wce (w':={w with mem:=m'}) rfl rfl rfl
     .rw[Wc h2,Wc h2];exact Wce (w':={w with mem:=m'}) rfl rfl rfl
    .rw[Wc h6,Wc h6];exact Wce (w':={w with mem:=m'}) rfl rfl rfl
end
section
section
variable{code:List Opn}{pc dF rl wl ul nr jt nv:Nat}{ms q:List RM}{y:RM}{n n':Int}{x:Rt}{w:Wo}{p:Pg}{k:Nat}{o:Opn}
theorem Wm9(code:List Opn){a b:Nat}(h:a<=b):frk code a<=frk code b:=by
 simp_all [frk,List.Sublist.countP_le,List.take_sublist_take_left]
theorem RMk.mono(h:RMk code pc ms rl wl ul)(hs:stk code dF=stk code pc)(h1:rl<=nr)(h2:wl<=jt)(h3:ul<=nv):RMk code dF ms nr jt nv:=
 ⟨by rw[hs];exact h.pcs,λq hq=>by obtain⟨a,b,c,d⟩:=h.each q hq;grind,h.up⟩
theorem RMk.cut(h:RMk code pc ms rl wl ul)(nq:ms=q++ [y])(h1:y.2.1<=nr)(h2:y.2.2.1<=jt)(h3:y.2.2.2.1<=nv):RMk code pc ms nr jt nv:=by
 refine⟨h.pcs,λa ha=>?_,h.up⟩;obtain⟨c1,c2,c3,c4⟩:=h.each a ha;have aG:a.2.1<=y.2.1/\a.2.2.1<=y.2.2.1/\a.2.2.2.1<=y.2.2.2.1:=by
  have hu:=h.up;rw[nq]at ha hu;rcases Xl.1 ha with ha|ha
  .exact(Xah.1 hu).2.2 a ha y (by simp)
  simp_all
 grind
theorem RMk.begin(h:RMk code pc ms rl wl ul)(hp:pc<code.length)(h8:code[pc].1=8){regs:List Int}(hr:Vals 4 regs)(h1:rl<=pc+72*frk code pc)(h2:wl<=pc+8)(h3:ul<=pc):
  RMk code (pc+1) (ms++ [((pc:Int),(rl:Int),(wl:Int),(ul:Int),regs)]) rl wl ul:=by
 refine⟨?_,?_,?_⟩
 .rw[WjL hp h8,Xy,Xy,h.pcs];rfl
 .intro q hq;rcases Xl.1 hq with hq|hq
  .exact h.each q hq
  grind
 .refine Xah.2 ⟨h.up,List.pairwise_singleton _ _,λa ha b hb=>?_⟩;rw[Xaf]at hb;subst hb;obtain⟨c1,c2,c3,c4⟩:=h.each a ha;simp_all
theorem RMk.drop(h:RMk code pc ms rl wl ul)(nq:ms=q++ [y])(hs:stk code dF=(stk code pc).dropLast)(h1:y.2.1<=nr)(h2:y.2.2.1<=jt)(h3:y.2.2.2.1<=nv):RMk code dF q nr jt nv:=by
 have h':=h.cut nq h1 h2 h3;subst nq;have e:=h.pcs;refine⟨?_,λa ha=>h'.each a (List.mem_append_left _ ha),(Xah.1 h.up).1⟩
 grind
theorem RLive.wk(h:RLive p n x)(hn:n<=n'):RLive p n' x:={h with fork:=λh2=>by obtain⟨a,b,c⟩:=h.fork h2;exact⟨a,b,c.wk hn⟩}
theorem ROk.wk(h:ROk p n x)(hn:n<=n'):ROk p n' x:={h with tries:=by have:=h.tries;omega,live:=λhl=>(h.live hl).wk hn}
theorem RLive.on(bG:CC p.1)(h:RLive p n x)(h1:x.phase=1){i:Nat}(hi:i<p.1.length)(bA:x.pc=i){regs:List Int}{reads writes:List Rw}{marks:List RM}{undos:List Un}{busy:Bool}{pb:Pb}{dF:Nat}
  (hp:dF<=p.1.length) (ad:i<dF) (hr:Vals 4 regs) (rR:Whb reads) (cU:reads.length<=x.reads.length+1) (vn:Whb writes) (mU:writes.length<=x.writes.length+1) (cH:undos.length<=x.undos.length+1) (hm:RMk p.1 dF marks reads.length writes.length undos.length) (hb:busy=true->Wi3 pb=true):
  RLive p n {x with regs:=regs,reads:=reads,writes:=writes,marks:=marks,undos:=undos,busy:=busy,pb:=pb,pc:=(dF:Int)} where
 pc:=by simp_all
 spare:=h.spare
 rv:=h.rv
 regs:=hr
 reads:=rR
 rl:=by
  have h2:=h.rl;have h3:=Wm9 p.1 (show i<=dF by omega)
  grind
 writes:=vn
 wl:=by have:=h.wl;grind
 ul:=by have:=h.ul;grind
 marks:=by simp_all
 pb:=hb
 fork:=λh2=>by simp_all
 back:=λh2=>by simp_all
 newRv:=h.newRv
 pos:=λh2=>by simp_all
 unw:=λh2=>by simp_all
theorem Vals.le4{r:List Int}(h:Vals 4 r):r.length<=4:=Nat.le_of_eq h.len
theorem Wd1(h:ROk p n x):ROk p n (WiM x) where
 phase:=by show(0:Int)<=6/\(6:Int)<=8;omega
 tries:=h.tries
 live:=λh=>by(change (1:Int)<=6/\(6:Int)<=4 at h;omega)
 comm:=λh=>by(change (6:Int)=5 at h;omega)
 undos:=h.undos
 ul:=h.ul
 rg:=by show([]:List Int).length<=4;simp
 ord:=by show([]:List Int).length<=3;simp
theorem WfM(h:ROk p n x)(hl:RLive p n x):ROk p n (WcC x):=by
 unfold WcC;split
 .exact Wd1 h
 .rename_i hc;exact{h with
   phase:=by simp_all
   live:=λ_=>{hl with
    spare:=by have:=hl.spare;grind
    pb:=λh=>by cases h
    fork:=λh=>by simp_all
    back:=λ_=>by simp_all
    pos:=λh=>by simp_all
    unw:=λh=>by simp_all}
   comm:=λh=>by simp_all}
structure QOk(p:Pg)(n:Int)(w:Wo)(q:Wo×Rt):Prop where
 root:ROk p n q.2
 mem:Waf q.1.mem=true
 shelf:ShOk q.1.shelf
 holds:HOk q.1.holds
 hist:q.1.hist.length<=w.hist.length+1
 histE:∀h∈q.1.hist,h∈w.hist\/HE h
 roots:q.1.roots=w.roots
 now:q.1.now=w.now
structure GOk(w:Wo):Prop where
 mem:Waf w.mem=true
 shelf:ShOk w.shelf
 holds:HOk w.holds
theorem GOk.st(h:GOk w){y:Rt}(hy:ROk p n y):QOk p n w (w,y):=⟨hy,h.mem,h.shelf,h.holds,by simp,λ_ hh=>.inl hh,rfl,rfl⟩
theorem GOk.qt(h:GOk w){y:Rt}(hy:ROk p n y)(t:Int):QOk p n w ({w with token:=t},y):=⟨hy,h.mem,h.shelf,h.holds,by simp,λ_ hh=>.inl hh,rfl,rfl⟩
theorem WpJ(h:GOk w)(hx:ROk p n x):QOk p n w (WnQ w x k):=by
 unfold WnQ;refine h.qt ?_ _;exact{hx with
  phase:=by simp_all
  live:=λh=>by simp_all
  comm:=λh=>by simp_all
  undos:=λu hu=>by cases hu
  ul:=by simp}
theorem Wkd(h:GOk w)(hx:ROk p n x)(kR:0<=x.rv/\x.rv<=1000000)(hk:k<=8){out:Int}:QOk p n w (Wg1 w x k out):=by
 unfold Wg1;simp only;generalize (if out=2 then []else x.writes)=rows;split
 .exact WpJ (x:={x with fate:=out,stamp:=x.rv}) h
   {phase:=hx.phase,tries:=hx.tries,live:=λhh=>{hx.live hh with},comm:=hx.comm,undos:=hx.undos,ul:=hx.ul,rg:=hx.rg,ord:=hx.ord}
 .refine h.st ?_;exact{hx with
   phase:=by simp_all
   live:=λh=>by simp_all
   comm:=λ_=>WqG (by omega) kR}
theorem Wo1{α:Type}{l:List α}(h:l.length≠0)(d:α):Wf5 l d∈l:=by
 grind [Wf5,WP,Xar]
theorem Wi8(h:GOk w)(hx:ROk p n x)(hz:x.undos.length≠0)(bG:1<=x.phase/\x.phase<=4->CC p.1/\(x.marks.length≠0->x.last.2.2.2.1<x.undos.length)):QOk p n w (WhH w x):=by
 unfold WhH;refine⟨?_,h.mem,WnJ h.shelf (hx.undos _ (Wo1 hz _)),h.holds,by simp,λ_ hh=>.inl hh,rfl,rfl⟩;have lm:x.undos.dropLast.length=x.undos.length-1:=List.length_dropLast;exact{hx with
  live:=λhh=>by
   have hl:=hx.live hh;obtain⟨c1,c2⟩:=bG hh;exact{hl with
    ul:=by have:=hl.ul;grind
    unw:=λh4=>by have:=hl.unw h4;show(x.undos.dropLast.length:Int)<=x.last.2.2.2.1;omega
    marks:=by
     show RMk p.1 x.pc.toNat x.marks x.reads.length x.writes.length x.undos.dropLast.length;by_cases hm:x.marks.length=0
     .have:x.marks= []:=Xu hm;have hM:=hl.marks;rw[this]at hM⊢;exact⟨hM.pcs,(λq hq=>by cases hq),hM.up⟩
     .obtain⟨m,q,e1,e2,⟨fU,jz⟩,e4,e5,e6,e7,e8,e9,kA,lr,mX,mY,kB⟩:=hl.mk24 c1 hm;have:=c2 hm;exact hl.marks.cut e1 kA.2.2 lr.2.2 (by omega)}
  undos:=λu hu=>hx.undos u (by grind [Xfo,Xcj])
  ul:=by have:=hx.ul;grind}
theorem Wqc(bG:CC p.1)(h:GOk w)(hx:ROk p n x)(hl:RLive p n x)(h1:x.phase=1){i:Nat}(hi:i<p.1.length)(bA:x.pc=i)(h5:p.1[i].1=5):ROk p n (WpP w x p.1[i]):=by
 have bv:=Ws1 (bG.ok i hi).1 h5;have hB:0<=p.1[i].2.2.1/\p.1[i].2.2.1<=7:=by grind [Wal]
 have hM:=hl.marks;rw[bA,Xk]at hM;have bs:stk p.1 (i+1)=stk p.1 i:=WeX hi (by omega) (by omega);have bQ:x.pc+1=((i+1:Nat):Int):=by omega
 unfold WpP;cases hlr:Wb1 x.writes p.1[i].2.2.1 with
 |some v=>
  have hv:=hl.writes _ (Whc hlr).2;simp only[bQ];exact{hx with rg:=Vals.le4 (hl.regs.set _ hv.2),live:=λ_=>RLive.on bG hl h1 hi bA (by omega) (by omega) (hl.regs.set _ hv.2) hl.reads (by omega) hl.writes (by omega) (by omega) (hM.mono bs (by omega) (by omega) (by omega)) hl.pb}
 |none=>
  simp only;have cq:=Wku (rv:=x.rv) h.mem (Wo9 hl.pb hB);generalize WaU w.mem x.rv (if x.busy=true then x.pb else(p.1[i].2.2.1,0,0,0))=b at*;have hp:=WdZ.1 cq.1;have vo:RLive p n {x with busy:=true,pb:=b}:={hl with pb:=λ_=>cq.1};have hbo:ROk p n {x with busy:=true,pb:=b}:={hx with live:=λ_=>vo};split
  .grind [WfM]
  .split
   .simp only[bQ];refine{hx with rg:=Vals.le4 (hl.regs.set _ hp.2.2.2),live:=λ_=>RLive.on bG hl h1 hi bA (by omega) (by omega) (hl.regs.set _ hp.2.2.2) (λr hr=>?_) (by simp) hl.writes (by omega) (by omega) (hM.mono bs (by simp) (by omega) (by omega)) (λh=>by cases h)};rcases Xl.1 hr with hr|hr
    .exact hl.reads r hr
    simp_all
   omega
theorem WpR(bG:CC p.1)(h:GOk w)(hx:ROk p n x)(hl:RLive p n x)(h1:x.phase=1)(hk:k<=8){i:Nat}(hi:i<p.1.length)(bA:x.pc=i):QOk p n w (Wkq w x k p.1):=by
 have hM:=hl.marks;rw[bA,Xk]at hM;unfold Wkq;split
 .exact Wkd h hx hl.rv hk
 .rename_i hz;obtain⟨m,q,e1,e2,⟨fU,jz⟩,e4,e5,e6,e7,e8,e9,kA,lr,mX,mY,kB⟩:=hl.mk24 bG hz;split
  .grind [Wi8]
  .refine h.st ?_;rw[e8];simp only[e2,Xk,←Int.natCast_succ];have aa:=e5.len;have ht:(Xal x.last.2.2.1.toNat x.writes).length=x.last.2.2.1.toNat:=by simp_all
   refine{hx with rg:=Vals.le4 (e9.set _ (by omega)),live:=λ_=>RLive.on bG hl h1 hi bA (dF:=WhF p.1 m+1) (by omega) (by omega) (e9.set _ (by omega)) hl.reads (by omega) (λr hr=>hl.writes r (Xcj hr)) (by omega) (by omega) ?_ hl.pb};exact hM.drop e1 (by rw[e5.st,e7,bA];rfl) (by omega) (by omega) (by omega)
theorem Wpb(bG:CC p.1)(h:GOk w)(hx:ROk p n x)(hl:RLive p n x)(h1:x.phase=1)(hk:k<=8){i:Nat}(hi:i<p.1.length)(bA:x.pc=i)(fK:12<=p.1[i].1):QOk p n w (WhS w x k p.1[i]):=by
 have ho:=(bG.ok i hi).1;have hM:=hl.marks;rw[bA,Xk]at hM;have bs:stk p.1 (i+1)=stk p.1 i:=WeX hi (by omega) (by omega);have bQ:x.pc+1=((i+1:Nat):Int):=by omega
 have cH:=hl.ul;have cK:=bG.len;have oZ:(0<=(WcM p.1[i]).1/\(WcM p.1[i]).1<=8)/\1<=(WcM p.1[i]).2/\(WcM p.1[i]).2<=2:=by
  grind [WcM,Wl9,Wd5,Wq3,WqZ,Wb4,WrY]
 unfold WhS;cases ha:WeD w.holds ((k:Int)+1) (WcM p.1[i]).1 (WcM p.1[i]).2 with
 |none=>exact h.st (WfM hx hl)
 |some hs=>
  have vp:HOk hs:=by
   unfold WeD at ha;split at ha
   .injection ha with ha;subst ha;exact Wn8 h.holds (by omega) oZ.1 oZ.2 ‹_›
   .cases ha
  obtain⟨b1,b2,b3,b4⟩:=Wnr h.shelf hl.regs ho fK;simp only[bQ];refine⟨?_,h.mem,b1,vp,by simp,λ_ hh=>.inl hh,rfl,rfl⟩;by_cases hz:(Wbc w.shelf p.1[i] x.regs).2.2.1=0
  .simp only[We hz];exact{hx with rg:=Vals.le4 b2,live:=λ_=>RLive.on bG hl h1 hi bA (by omega) (by omega) b2 hl.reads (by omega) hl.writes (by omega) (by omega) (hM.mono bs (by omega) (by omega) (by omega)) hl.pb}
  .simp only[Wc hz];refine{hx with rg:=Vals.le4 b2,live:=λ_=>RLive.on bG hl h1 hi bA (by omega) (by omega) b2 hl.reads (by omega) hl.writes (by omega) (by simp) (hM.mono bs (by omega) (by omega) (by simp)) hl.pb,undos:=λu hu=>?_,ul:=by simp;omega};rcases Xl.1 hu with hu|hu
   .exact hx.undos u hu
   simp_all
theorem Wr7(hp:POk p)(h:GOk w)(hx:ROk p n x)(h1:x.phase=1)(hk:k<=8)(hn:0<=n):QOk p n w (Wqa w x k p):=by
 have hl:=hx.live (by omega);have bG:=hp.code;unfold Wqa;split
 .exact Wkd h hx hl.rv hk
 .obtain⟨i,hi,bA,ho⟩:=Wj9 (l:=p.1) hl.pc.1 (by omega);simp only[ho];obtain⟨ok,o1,gN⟩:=bG.ok i hi;have hM:=hl.marks;rw[bA,Xk]at hM;have bQ:x.pc+1=((i+1:Nat):Int):=by omega
  have cU:=hl.rl;have mU:=hl.wl;have cH:=hl.ul;rw[bA,Xk]at cU;split
  .exact h.st (Wqc bG h hx hl h1 hi bA ‹_›)
  .split
   .grind [WpR]
   .split
    .rename_i gR;refine h.st ?_;exact{hx with
      phase:=by simp_all
      live:=λ_=>{hl with
       fork:=λ_=>⟨by simp_all,by simp_all,WpU hl.regs hn⟩
       back:=λh=>by simp_all
       pos:=λh=>by simp_all
       unw:=λh=>by simp_all}
      comm:=λh=>by simp_all}
    .split
     .grind [Wpb]
     .split
      .refine h.st ?_;have hk:=WsT ok ‹_›;have bs:stk p.1 (i+1)=stk p.1 i:=WeX hi (by omega) (by omega);simp only[bQ];refine{hx with live:=λ_=>RLive.on bG hl h1 hi bA (by omega) (by omega) hl.regs hl.reads (by omega) (λr hr=>?_) (by simp) (by omega) (hM.mono bs (by omega) (by simp) (by omega)) hl.pb};rcases Xl.1 hr with hr|hr
       .exact hl.writes r hr
       .rw[Xaf]at hr;subst hr;have:=hk.1;unfold Wal at this;exact⟨by simp_all,hl.regs.get _⟩
      .split
       .refine h.st ?_;obtain⟨s1,s2⟩:=bG.sk i hi ‹_›;have hk:=WsV ok ‹_›;have bs:stk p.1 (i+1)=stk p.1 i:=WeX hi (by omega) (by omega);have mV:stk p.1 (i+1+p.1[i].2.2.1.toNat)=stk p.1 i:=by grind [WmK]
        by_cases hg:Wcu x.regs p.1[i].2.1 0=0
        .simp only[We hg,show x.pc+p.1[i].2.2.1+1=((i+1+p.1[i].2.2.1.toNat:Nat):Int) by omega];exact{hx with live:=λ_=>RLive.on bG hl h1 hi bA s1 (by omega) hl.regs hl.reads (by omega) hl.writes (by omega) (by omega) (hM.mono mV (by omega) (by omega) (by omega)) hl.pb}
        .simp only[Wc hg,bQ];exact{hx with live:=λ_=>RLive.on bG hl h1 hi bA (by omega) (by omega) hl.regs hl.reads (by omega) hl.writes (by omega) (by omega) (hM.mono bs (by omega) (by omega) (by omega)) hl.pb}
       .split
        .refine h.st ?_;simp only[bQ];rw[bA];exact{hx with live:=λ_=>RLive.on bG hl h1 hi bA (by omega) (by omega) hl.regs hl.reads (by omega) hl.writes (by omega) (by omega) (hM.begin hi ‹_› hl.regs (by omega) (by omega) (by omega)) hl.pb}
        .split
         .rename_i h9;refine h.st ?_;have hz:x.marks.length≠0:=λhz=>by
           have h1:=Wk Xb hM.pcs;simp only[Xad,hz]at h1;have h2:=Wa5 bG.up i (by omega);have h3:=bG.up i hi
           grind [WaL,WnP]
          obtain⟨m,q,e1,e2,⟨fU,jz⟩,e4,e5,e6,e7,e8,e9,kA,lr,mX,mY,kB⟩:=hl.mk24 bG hz;simp only[bQ];rw[e8];exact{hx with rg:=Vals.le4 (hl.regs.set _ (by omega)),live:=λ_=>RLive.on bG hl h1 hi bA (by omega) (by omega) (hl.regs.set _ (by omega)) hl.reads (by omega) hl.writes (by omega) (by omega) (hM.drop e1 (Wkg hi h9) (by omega) (by omega) (by omega)) hl.pb}
         .refine h.st ?_;have bs:stk p.1 (i+1)=stk p.1 i:=WeX hi (by omega) (by omega);simp only[bQ];exact{hx with rg:=Vals.le4 (WiU ok (by omega) (by omega) hl.regs),live:=λ_=>RLive.on bG hl h1 hi bA (by omega) (by omega) (WiU ok (by omega) (by omega) hl.regs) hl.reads (by omega) hl.writes (by omega) (by omega) (hM.mono bs (by omega) (by omega) (by omega)) hl.pb}
theorem WqM(h:GOk w)(hx:ROk p n x)(hu:x.phase=0)(cK:0<=(p.1.length:Int)):QOk p n w (Wji w x k):=by
 have j7:=WL h.mem;unfold Wji;split
 .exact h.st hx
 .split
  .exact h.qt hx _
  .split
   .exact h.st hx
   .refine h.st ?_;exact{
     phase:=by simp_all
     tries:=hx.tries
     live:=λ_=>{
      pc:=by simp_all
      spare:=by simp_all
      rv:=⟨j7.2.1,j7.2.2.1⟩
      regs:=⟨rfl,λv hv=>by simp_all⟩
      reads:=λr hr=>by cases hr
      rl:=by simp;omega
      writes:=λr hr=>by cases hr
      wl:=by simp
      ul:=by simp
      marks:=⟨by simp[stk],(λq hq=>by cases hq),List.Pairwise.nil⟩
      pb:=λh=>by cases h
      fork:=λh=>by simp_all
      back:=λh=>by simp_all
      newRv:=by simp_all
      pos:=λh=>by simp_all
      unw:=λh=>by simp_all}
     comm:=λh=>by simp_all
     undos:=λu hu=>by cases hu
     ul:=by simp
     rg:=by simp
     ord:=by simp}
theorem Wko{codes:List (List Opn)}{f:Fm}(h:FOk codes n f):Whb (Wgu f)/\(Wgu f).length<=8:=by
 refine⟨λr hr=>?_,by unfold Wgu;rw[Xad];exact h.buf8⟩;obtain⟨e,he,rfl⟩:=Xv.1 hr;have:=h.bufE e he;omega
theorem WiB{codes:List (List Opn)}{f:Fm}(h:FOk codes n f)(h3:codes.length<=3):Vals 4 (Whe f):=by
 have hl:=h.len;have hr:=h.regs;unfold Whe;rw[We ⟨WdM.2 hr,by omega⟩];refine⟨by simp[hr.len];omega,λv hv=>?_⟩;rcases Xl.1 hv with hv|hv
 .obtain⟨y,hy,rfl⟩:=Xv.1 hv;unfold Wrh;split
  .rename_i hc;exact(WdM.1 hc.2).get _
  .omega
 .exact hr.val v (List.mem_of_mem_drop hv)
theorem Wqp(hp:POk p)(hx:ROk p n x)(h2:x.phase=2):ROk p n (Wlg x):=by
 have hl:=hx.live (by omega);have bG:=hp.code;obtain⟨f1,f2,f3⟩:=hl.fork h2;obtain⟨i,hi,bA,ho⟩:=Wj9 (l:=p.1) hl.pc.1 f1;rw[ho]at f2;have hM:=hl.marks;have cU:=hl.rl;have cH:=hl.ul;rw[bA,Xk]at hM cU;unfold Wlg;split
 .exact Wd1 hx
 .split
  .have hz:x.marks= []:=by
    have h1:=Wk Xb hM.pcs;simp only[Xad]at h1;have h3:=Wa5 bG.up i (by omega);have h4:=(bG.fk i hi f2).1;simp_all
   have bs:stk p.1 (i+1)=stk p.1 i:=WeX hi (by omega) (by omega);have vq:=Wko f3;have mW:=f3.len3 hp.k3;have vr:=f3.readsL;have hfk:frk p.1 (i+1)=frk p.1 i+1:=by grind [WiK]
   exact{hx with
    phase:=by simp_all
    rg:=(WiB f3 hp.k3).le4
    ord:=mW
    live:=λ_=>{hl with
     pc:=by grind
     regs:=WiB f3 hp.k3
     reads:=λr hr=>by
      rcases Xl.1 hr with hr|hr
      .exact hl.reads r hr
      .exact f3.readsE r hr
     rl:=by
      grind
     writes:=vq.1
     wl:=by grind
     ul:=by grind
     marks:=by
      show RMk p.1 (x.pc+1).toNat x.marks _ _ _;rw[show(x.pc+1).toNat=i+1 by omega];rw[hz]at hM⊢;exact⟨by rw[bs];exact hM.pcs,(λq hq=>by cases hq),List.Pairwise.nil⟩
     fork:=λh=>by simp_all
     back:=λh=>by simp_all
     pos:=λh=>by simp_all
     unw:=λh=>by simp_all}
    comm:=λh=>by simp_all}
  .exact hx
theorem WnA(hp:POk p)(h:GOk w)(hx:ROk p n x)(h3:x.phase=3):QOk p n w (Wey w x):=by
 have hl:=hx.live (by omega);have hz:=hl.back (.inl h3);obtain⟨m,q,e1,e2,⟨fU,jz⟩,e4,e5,e6,e7,e8,e9,kA,lr,mX,mY,kB⟩:=hl.mk24 hp.code hz;have j7:=WL h.mem;unfold Wey;split
 .exact Wi8 h hx (by omega) λ_=>⟨hp.code,λ_=>by omega⟩
 .refine h.st ?_;exact{hx with
   phase:=by simp_all
   live:=λ_=>{hl with
    fork:=λh=>by simp_all
    back:=λ_=>hz
    newRv:=⟨j7.2.1,j7.2.2.1⟩
    pos:=λ_=>by(show(0:Int)<=0/\(0:Int)<=x.last.2.1;omega)
    unw:=λ_=>by(show(x.undos.length:Int)<=x.last.2.2.2.1;omega)}
   comm:=λh=>by simp_all}
theorem WnB(hp:POk p)(h:GOk w)(hx:ROk p n x)(h4:x.phase=4):ROk p n (WdB w x):=by
 have hl:=hx.live (by omega);have hz:=hl.back (.inr h4);have cq:=hl.pos h4;obtain⟨m,q,e1,e2,⟨fU,jz⟩,e4,e5,e6,e7,e8,e9,kA,lr,mX,mY,kB⟩:=hl.mk24 hp.code hz;unfold WdB;split
 .simp only;split
  .exact Wd1 hx
  .exact{hx with live:=λ_=>{hl with pos:=λ_=>by(show 0<=x.pos+1/\x.pos+1<=x.last.2.1;omega)}}
 .rename_i eS;have bs:stk p.1 (m+1)=stk p.1 x.pc.toNat:=by
   have vt:=hl.pc;rw[WjL fU jz,e7];rcases Wbs (stk p.1 x.pc.toNat)with h0|⟨t,j,ht⟩
   .have h1:=Wk Xb hl.marks.pcs;simp_all
   .have h1:=hl.marks.pcs;rw[e1,ht]at h1;simp only[Xy,List.map_cons,List.map_nil]at h1;have h2:=(List.append_inj' h1 rfl).2;injection h2 with h2;rw[e2]at h2;rw[ht,List.dropLast_concat,show m=j by omega]
  have sy:=Wm9 p.1 (show m<=m+1 by omega);rw[e2,Xk]at kA;have bQ:x.last.1+1=((m+1:Nat):Int):=by omega
  have t1:(Xal x.last.2.1.toNat x.reads).length=x.last.2.1.toNat:=by simp_all
  have t2:(Xal x.last.2.2.1.toNat x.writes).length=x.last.2.2.1.toNat:=by simp_all
  exact{hx with
   phase:=by simp_all
   rg:=e9.le4
   live:=λ_=>{hl with
    pc:=by grind
    rv:=hl.newRv
    regs:=e9
    reads:=λr hr=>hl.reads r (Xcj hr)
    rl:=by
     grind
    writes:=λr hr=>hl.writes r (Xcj hr)
    wl:=by grind
    ul:=by
     show(x.undos.length:Int)<=x.last.1+1;have:=hl.unw h4;omega
    marks:=by
     show RMk p.1 (x.last.1+1).toNat x.marks (Xal x.last.2.1.toNat x.reads).length (Xal x.last.2.2.1.toNat x.writes).length x.undos.length;rw[bQ,Xk,t1,t2];exact(hl.marks.cut e1 (by omega) (by omega) kB).mono bs (Xm _) (Xm _) (Xm _)
    fork:=λh=>by simp_all
    back:=λh=>by omega
    newRv:=by simp_all
    pos:=λh=>by simp_all
    unw:=λh=>by simp_all}
   comm:=λh=>by simp_all}
end
end
section
section
variable{N:Nat}{w:Wo}{k:Nat}{x:Rt}{p:Pg}{n:Int}{ps:List Pg}
theorem WnD(h:GOk w)(hx:ROk p n x)(h5:x.phase=5)(hk:k<=8):QOk p n w (Wdz w x k):=by
 have hc:=hx.comm h5;unfold Wdz;split
 .split
  .exact h.st (Wd1 hx)
  .refine h.st ?_;exact{hx with live:=λhh=>by simp_all,comm:=λ_=>Wny hc}
 .have bs:=WkM hc h.mem;obtain⟨m',c',hq⟩:∃m' c',WeU w.mem x.cm=(m',c'):=⟨_,_,rfl⟩;simp only[hq]at bs⊢;refine⟨?_,bs.2,h.shelf,h.holds,?_,?_,rfl,rfl⟩
  .have hy:ROk p n {x with cm:=c'}:={hx with live:=λhh=>by simp_all,comm:=λ_=>bs.1};unfold Wot;simp only;split
   .exact Wd1 hy
   .split
    .have lq:(if x.fate=2 then(6:Int)else 7)=6\/(if x.fate=2 then(6:Int)else 7)=7:=by split<;>simp
     generalize (if x.fate=2 then(6:Int)else 7)=ph at*;exact{hx with
      phase:=by grind
      live:=λhh=>by grind
      comm:=λhh=>by simp_all}
    .exact hy
  .simp only;split<;>simp
  .simp only;intro h hh;split at hh
   .rcases Xl.1 hh with hh|hh
    .grind
    .rw[Xaf]at hh;subst hh;exact .inr ⟨bs.1.plen,bs.1.rows,by grind,by grind⟩
   simp_all
theorem Wq2(hp:POk p)(h:GOk w)(hx:ROk p n x)(hk:k<=8)(hn:0<=n):QOk p (n+1) w (WiQ w x k p):=by
 have jT:=hx.wk (show n<=n+1 by omega);unfold WiQ;by_cases hd:x.doomed=true/\1<=x.phase/\x.phase<=4
 .rw[We hd];exact h.st (Wd1 jT)
 rw[Wc hd];by_cases h0:x.phase=0
 .simp_all [We,WqM]
 rw[Wc h0];by_cases h1:x.phase=1
 .rw[We h1];grind [Wr7]
 rw[Wc h1];by_cases h2:x.phase=2
 .rw[We h2];exact h.st (Wqp hp jT h2)
 rw[Wc h2];by_cases h3:x.phase=3
 .simp_all [We,WnA]
 rw[Wc h3];by_cases h4:x.phase=4
 .rw[We h4];exact h.st (WnB hp h jT h4)
 rw[Wc h4];by_cases h5:x.phase=5
 .simp_all [We,WnD]
 rw[Wc h5];by_cases h6:x.phase=6
 .rw[We h6];by_cases hz:x.undos.length>0
  .rw[We hz];grind [Wi8]
  .rw[Wc hz];refine h.st ?_;exact{jT with
    phase:=by simp_all
    live:=λhh=>by simp_all
    comm:=λhh=>by simp_all}
 rw[Wc h6];by_cases h7:x.phase=7
 .rw[We h7];have hg:GOk {w with holds:=W6 w.holds ((k:Int)+1)}:=⟨h.mem,h.shelf,WgF h.holds⟩;by_cases hf:x.fate=0
  .rw[We hf];refine⟨?_,h.mem,h.shelf,WgF h.holds,by simp,λ_ hh=>.inl hh,rfl,rfl⟩;exact{
    phase:=by simp_all
    tries:=by have:=hx.tries;grind
    live:=λhh=>by simp_all
    comm:=λhh=>by simp_all
    undos:=λu hu=>by cases hu
    ul:=by simp
    rg:=by simp
    ord:=by simp}
  .rw[Wc hf];have:=WpJ (k:=k) hg jT;exact⟨this.root,this.mem,this.shelf,this.holds,this.hist,this.histE,this.roots,this.now⟩
 .rw[Wc h7];exact h.st jT
theorem Wp6(hk:k<w.roots.length)(aI:w.roots[k]=x)(kC:w.roots.length<=8)(hp:POk p)(h:GOk w)(hx:ROk p n x)(hn:n<=200000)(hh:w.hist.length<=500000)(hN:1048576<N):
  Zex N w.e (k:Int) p=some (((Wo.put (WiQ w x k p) k).e,()),()):=by
 obtain⟨g1,g2,g3,g4,g5⟩:=woG hk aI;obtain⟨r0,r1,r2,r3,r4,r5,r6,r7,r8,iJ,ib,gu,gv,gw,gS,ju,jv,iL,iM,jw,jx,jy⟩:=rtP x;have s9:k<=8:=by omega
 have fz:=Wnd hk aI;have htr:=hx.tries;have vu:=hx.ul;have qe:=WjI h.holds;unfold Zex WiQ;simp only[Wn];rw[show P5 w.e=w.roots.map Rt.e from rfl,g4,g2,WbU (by omega),WbU (show 0<=x.e.2.1/\x.e.2.1<=1000000 by omega)];simp(maxSteps:=4000000) only[g3,r0,r7,iJ,gS,Wa,WM,ret,Xd,WdU,Wy,WaF,show w.e.2.2.1.1=w.mem.1 from rfl,Wh,show P4 w.e=w.holds from rfl];rw[Wf8 h.holds (by omega) hN];simp only[ret,Xd];have hS4:S4 (W6 w.holds ((k:Int)+1)) w.e=Wo.e {w with holds:=W6 w.holds ((k:Int)+1)}:=rfl;have vv:S5 (Xi (w.roots.map Rt.e) (Xa (k:Int)) x.e) (S4 (W6 w.holds ((k:Int)+1)) w.e)=Wo.e {w with holds:=W6 w.holds ((k:Int)+1)}:=(woG (w:={w with holds:=W6 w.holds ((k:Int)+1)}) hk aI).2.2.1;rw[vv,WoR (w:={w with holds:=W6 w.holds ((k:Int)+1)}) hk aI (by omega),Wp8 hk aI kC hN];have fi:∀(A:Option ((Y_World×Unit)×Unit)),A=some (((Wo.put (
   if x.phase=0 then Wji w x k else
   if x.phase=1 then Wqa w x k p else
   if x.phase=2 then(w,Wlg x)else
   if x.phase=3 then Wey w x else
   if x.phase=4 then(w,WdB w x)else
   if x.phase=5 then Wdz w x k else
   if x.phase=6 then(if x.undos.length>0 then WhH w x else(w,{x with phase:=7}))else
   if x.phase=7 then
    (if x.fate=0 then({w with holds:=W6 w.holds ((k:Int)+1)},{tries:=x.tries+1})
     else WnQ {w with holds:=W6 w.holds ((k:Int)+1)} x k)
   else(w,x)) k).e,()),())->¬(x.doomed=true/\1<=x.phase/\x.phase<=4)->A=some (((Wo.put (
   if x.doomed=true/\1<=x.phase/\x.phase<=4 then(w,WiM x)else
   if x.phase=0 then Wji w x k else
   if x.phase=1 then Wqa w x k p else
   if x.phase=2 then(w,Wlg x)else
   if x.phase=3 then Wey w x else
   if x.phase=4 then(w,WdB w x)else
   if x.phase=5 then Wdz w x k else
   if x.phase=6 then(if x.undos.length>0 then WhH w x else(w,{x with phase:=7}))else
   if x.phase=7 then
    (if x.fate=0 then({w with holds:=W6 w.holds ((k:Int)+1)},{tries:=x.tries+1})
     else WnQ {w with holds:=W6 w.holds ((k:Int)+1)} x k)
   else(w,x)) k).e,()),()):=λA hA hn=>by grind
 have pd:(if x.phase=0 then(some (((Wo.put (Wji w x k) k).e,()),()):Option ((Y_World×Unit)×Unit)).bind (λo6=>some ((o6.1.1,()),()))
   else if x.phase=1 then(Zfg N w.e (k:Int) p).bind (λo7=>some ((o7.1.1,()),()))
   else if x.phase=2 then(Zfh N x.e).bind (λo8=>some ((S5 (Xi (w.roots.map Rt.e) (Xa (k:Int)) o8.1.1) w.e,()),()))
   else if x.phase=3 then(Zb7 N x.e).bind (λo9=>if(x.undos.length:Int)>o9.2.1.2.2.2 then(Zbc N w.e (Xa (k:Int))).bind (λbF=>some ((bF.1.1,()),()))else some ((S5 (Xi (w.roots.map Rt.e) (Xa (k:Int)) (S6 0 (S5 w.mem.1 (S0 4 x.e)))) w.e,()),()))
   else if x.phase=4 then(Zd5 N w.e (Xa (k:Int))).bind (λd5=>some ((d5.1.1,()),()))
   else if x.phase=5 then(Zd6 N w.e (k:Int)).bind (λdJ=>some ((dJ.1.1,()),()))
   else if x.phase=6 then(if(x.undos.length:Int)>0 then(Zbc N w.e (Xa (k:Int))).bind (λbW=>some ((bW.1.1,()),()))else some ((S5 (Xi (w.roots.map Rt.e) (Xa (k:Int)) (7,x.e.2)) w.e,()),()))
   else if x.phase=7 then(if x.fate=0 then some ((S5 (Xi (w.roots.map Rt.e) (Xa (k:Int)) ((0:Int),(x.e.2.1+1,((0:Int),((0:Int),((0:Int),((0:Int),((0:Int),((0:Int),((0:Int),((0:Int),((0:Int),(false,(([]:List Int),(([]:List Kc),(([]:List Kc),(([]:List Kj),(([]:List Kb),(([]:List Int),(false,(((0:Int),((0:Int),((0:Int),(0:Int)))),(((0:Int),((0:Int),((0:Int),((0:Int),((0:Int),(([]:List Kc),([]:List Int))))))),d_Family)))))))))))))))))))))) (S4 (W6 w.holds ((k:Int)+1)) w.e),()),())else(some (((Wo.put (WnQ {w with holds:=W6 w.holds ((k:Int)+1)} x k) k).e,()),()):Option ((Y_World×Unit)×Unit)).bind (λhJ=>some ((hJ.1.1,()),())))
   else some ((w.e,()),()))=some (((Wo.put (
   if x.phase=0 then Wji w x k else
   if x.phase=1 then Wqa w x k p else
   if x.phase=2 then(w,Wlg x)else
   if x.phase=3 then Wey w x else
   if x.phase=4 then(w,WdB w x)else
   if x.phase=5 then Wdz w x k else
   if x.phase=6 then(if x.undos.length>0 then WhH w x else(w,{x with phase:=7}))else
   if x.phase=7 then
    (if x.fate=0 then({w with holds:=W6 w.holds ((k:Int)+1)},{tries:=x.tries+1})
     else WnQ {w with holds:=W6 w.holds ((k:Int)+1)} x k)
   else(w,x)) k).e,()),()):=by
  rw[Xk];by_cases h0:x.phase=0
  .simp_all
  .rw[Wc h0,Wc h0];by_cases h1:x.phase=1
   .rw[We h1,We h1,Wr9 hk aI s9 hp (hx.live (by omega)) hx.undos h.mem h.shelf h.holds hN];rfl
   .rw[Wc h1,Wc h1];by_cases h2:x.phase=2
    .rw[We h2,We h2,Wqi hp (hx.live (by omega)) h2 hN];exact Wce rfl rfl rfl
    .rw[Wc h2,Wc h2];by_cases h3:x.phase=3
     .have hl:=hx.live (by omega);obtain⟨z1,z2,z3,z4,z5,z6⟩:=hl.sz hp.code;rw[We h3,We h3,Wk9 (hl.back (.inl h3)) (by omega)];simp only[Xd];have pe:=(hl.mk24 hp.code (hl.back (.inl h3)));obtain⟨m,q,e1,e2,_,_,_,_,_,_,_,_,_,kB⟩:=pe;unfold Wey;by_cases hgt:(x.undos.length:Int)>x.last.2.2.2.1
      .rw[We hgt,We hgt,Wjj hk aI (by omega) (by omega) hx.undos h.shelf hN];rfl
      .rw[Wc hgt,Wc hgt];exact Wce rfl rfl rfl
     .rw[Wc h3,Wc h3];by_cases h4:x.phase=4
      .rw[We h4,We h4,WnU hk aI hp (hx.live (by omega)) h4 h.mem];rfl
      .rw[Wc h4,Wc h4];by_cases h5:x.phase=5
       .rw[We h5,We h5,Wno hk aI s9 (hx.comm h5) h.mem hh hN];rfl
       .rw[Wc h5,Wc h5];by_cases h6:x.phase=6
        .rw[We h6,We h6];by_cases hz:x.undos.length>0
         .rw[We (by omega),We hz,Wjj hk aI (by omega) (by omega) hx.undos h.shelf hN];rfl
         .rw[Wc (by omega),Wc hz];exact Wce rfl rfl rfl
        .rw[Wc h6,Wc h6];by_cases h7:x.phase=7
         .rw[We h7,We h7];by_cases hf:x.fate=0
          .rw[We hf,We hf,hS4];exact Wce (w:=w) (w':={w with holds:=W6 w.holds ((k:Int)+1)}) (x':={tries:=x.tries+1}) rfl rfl rfl
          .rw[Wc hf,Wc hf];rfl
         simp_all
 rw[Wgi];by_cases hd:x.doomed=true
 .rw[We hd];by_cases lq:1<=x.phase/\x.phase<=4
  .rw[Wb lq.1,Wb lq.2,We (show x.doomed=true/\1<=x.phase/\x.phase<=4 from⟨hd,lq⟩),Xk];exact Wce rfl rfl rfl
  .have hb:(decide (1<=x.phase)&&decide (x.phase<=4))=false:=by
    rw[Xdh,Wp,Wp];omega
   rw[hb];exact fi _ pd (λhc=>lq hc.2)
 grind
end
end
section
noncomputable def Wof(p:Pg):Bool:=p.2.all WlM&&(Wqy p.1&&(decide (p.2.length<=3)&&beq (p.1.any λo=>o.1==11) (decide (p.2.length>0))))
noncomputable def Wm8(s:Sc):Bool:=WrZ s.1&&(decide (s.2.1.length<=4)&&(decide (s.2.2.length<=400)&&s.2.1.all Wof))
structure PB(p:Pg):Prop where
 code:p.1.length<=1048576
 kids:p.2.length<=1048576
 each:∀c∈p.2,c.length<=1048576
structure SB(s:Sc):Prop where
 cells:s.1.1.length<=1048576
 map:s.1.2.1.length<=1048576
 progs:s.2.1.length<=1048576
 each:∀p∈s.2.1,PB p
 acts:s.2.2.length<=1048576
variable{N:Nat}{s:Sc}{p:Pg}{w:Wo}{n:Int}{a:Ac}
theorem WrI(h:Wof p=true):POk p:=by
 unfold Wof at h;simp only[Xg,Xab,Wg]at h;exact⟨Wst h.2.1,λc hc=>Ws6 (h.1 c hc),h.2.2.1⟩
theorem Wl0(h:Wm8 s=true):ThOk s.1/\s.2.1.length<=4/\s.2.2.length<=400/\∀p∈s.2.1,POk p:=by
 simp_all [Wm8,Xg,Xab,Wg,WqW,WrI]
theorem Wma{α:Type}(l:List α)(k:Nat):decide ((Wh l)<=(k:Int))=decide (l.length<=k):=by
 simp[Wh,Wb,Ws]
theorem Wrw{α:Type}(l:List α)(k:Nat):decide ((Wh l)>(k:Int))=decide (l.length>k):=by
 simp[Wh,Wb,Ws]
theorem Wk3{l:List Opn}(hl:l.length<=1048576)(hN:1048576<N):Ze5 N l=ret (l.any λo=>o.1==11):=by
 unfold Ze5 Zah Zw;have h1:=Wjq (l:=l) (p:=λo=>o.1==11) (N:=N) (lp:=λn j=>Zi N l (λaL=>(some ((),(aL,())))) (λaC aZ=>(some ((),((-1:Int),())))) n j) (K0:=λj=>some ((),(j,()))) (K1:=some ((),((-1:Int),()))) (by omega) (by omega)
  (λn j hj=>by
   simp only[Zi,Wan hj,WD hj,WH hj,Wt (show j<4611686018427387904 by omega),Wa,Zh6,Xd])
  (λn=>by simp[Zi,WaC,Xm,Wf])
 rw[h1];have h2:=WiT (p:=λo:Opn=>o.1==11) l 0;cases hf:fnd (λo:Opn=>o.1==11) l 0 with
 |some r=>
  simp_all
 |none=>
  grind
theorem Wkc(h:PB p)(hN:1048576<N):Zfr N p=ret (Wof p):=by
 have hc:=h.code;have hk:=h.kids;unfold Zfr Wof;have h1:=WT (l:=p.2) (V:=Unit) (R:=Unit×Kr) (lp:=λn j v=>Zbz N p.2 p (some ((),(false,()))) (λaL aC=>
  ((Zbn N p.1).bind λbW=>
 (bif bW.2.1 then
 (bif decide ((Wh p.2)<=(3:Int))then
 ((Ze5 N p.1).bind λcF=>
 (some ((),(beq cF.2.1 (decide ((Wh p.2)>(0:Int))),()))))
 else
 (some ((),(false,()))))
 else
 (some ((),(false,())))))) n j) (n:=N) (by omega)
  (body:=λj x v k=>(Zfb N x).bind λo=>bif !o.2.1 then some ((),(false,()))else k v) (K:=λ_ v=>((Zbn N p.1).bind λbW=>
 (bif bW.2.1 then
 (bif decide ((Wh p.2)<=(3:Int))then
 ((Ze5 N p.1).bind λcF=>
 (some ((),(beq cF.2.1 (decide ((Wh p.2)>(0:Int))),()))))
 else
 (some ((),(false,()))))
 else
 (some ((),(false,()))))))
  (λn i v hi=>by simp only[Zbz,Wan hi,WD hi,WH hi,Wt (show i<4611686018427387904 by omega),Wa])
  (λn v=>by simp[Zbz,WaC,Xm,Wf]) ()
 refine h1.trans ?_;rw[WbH (p:=λx=>!WlM x) (E:=λ_=>some ((),(false,()))) p.2 0 () (λj x v k hx=>by rw[Wlr (by have:=h.each x hx;omega) hN];rfl),Wdk,WfU (by omega) hN,Wk3 (by omega) hN];simp only[ret,Xd];rw[show(3:Int)=((3:Nat):Int)from rfl,Wma,show(0:Int)=((0:Nat):Int)from rfl,Wrw];cases p.2.all WlM<;>cases Wqy p.1<;>cases decide (p.2.length<=3)<;>rfl
theorem Wcp(h:SB s)(hN:1048576<N):Zs N s=ret (Wm8 s):=by
 have h1:=h.cells;have h2:=h.map;have h3:=h.progs;unfold Zs Wm8 Z9 Zp;have h4:=WT (l:=s.2.1) (V:=Unit) (R:=Unit×Ki) (lp:=λn j v=>Zd N s.2.1 (λaL=>(some ((),(aL,())))) (λaC aZ=>(some ((),((-1:Int),())))) n j) (n:=N) (by omega)
  (body:=λj x v k=>(Zf9 N x).bind λo=>bif o.2.1 then some ((),(j,()))else k v) (K:=λ_ v=>some ((),((-1:Int),())))
  (λn i v hi=>by simp only[Zd,Wan hi,WD hi,WH hi,Wt (show i<4611686018427387904 by omega),Wa])
  (λn v=>by simp[Zd,WaC,Xm,Wf]) ()
 have h5:((Zd N s.2.1 (λaL=>(some ((),(aL,())))) (λaC aZ=>(some ((),((-1:Int),())))) N 0).bind λo2=>some ((),(decide (o2.2.1>=(0:Int)),())))=ret (!s.2.1.all Wof):=by
  have h6:=h4;rw[h6,WeY (p:=λx=>!Wof x) (E:=λj _=>some ((),(j,()))) s.2.1 0 () (λj x v k hx=>by unfold Zf9;rw[Wkc (h.each x hx) hN];rfl)];have h7:=WiT (p:=λx=>!Wof x) s.2.1 0;rw[Wdk]at h7;rw[←h7];cases hf:fnd (λx=>!Wof x) s.2.1 0 with
  |some r=>simp_all
  |none=>rfl
 rw[Whx (by omega) (by omega) hN];simp only[ret,Xd];rw[h5,show(4:Int)=((4:Nat):Int)from rfl,Wma,show(400:Int)=((400:Nat):Int)from rfl,Wma];cases WrZ s.1<;>cases decide (s.2.1.length<=4)<;>cases decide (s.2.2.length<=400)<;>cases s.2.1.all Wof<;>rfl
end
section
variable{N:Nat}{s:Sc}{p:Pg}{w:Wo}{n:Int}{a:Ac}{k:Nat}
theorem WmD{ps:List Pg}(h:∀p∈ps,POk p)(hk:k<ps.length):POk (ps.getD k pg0):=by
 grind
theorem WOk.tick(h:WOk s.2.1 n w):WOk s.2.1 (n+1) {w with now:=w.now+1}:=
 {h with now:=by(have:=h.now;simp_all),n0:=by have:=h.n0;omega,hist:=by(have:=h.hist;grind),root:=λk hk=>(h.root k hk).wk (by omega)}
theorem WOk.putQ{q:Wo×Rt}{w0:Wo}(h:WOk s.2.1 (n+1) {w0 with now:=w0.now+1})(hh:(w0.hist.length:Int)<=n)(hk:k<w0.roots.length)(hq:QOk (s.2.1.getD k pg0) (n+1) {w0 with now:=w0.now+1} q):WOk s.2.1 (n+1) (Wo.put q k):=by
 have hr:q.1.roots=w0.roots:=hq.roots;exact{
  len:=by show(q.1.roots.set k q.2).length=_;rw[Xbb,hr];exact h.len
  l4:=h.l4
  progs:=h.progs
  now:=hq.now.trans h.now
  n0:=h.n0
  mem:=hq.mem
  shelf:=hq.shelf
  holds:=hq.holds
  histE:=λe he=>(hq.histE e he).elim (h.histE e) id
  hist:=by have:=hq.hist;show(q.1.hist.length:Int)<=n+1;grind
  root:=λi hi=>by
   change i<(q.1.roots.set k q.2).length at hi;rw[Xbb,hr]at hi;show ROk _ _ ((q.1.roots.set k q.2)[i]);rw[Xci];by_cases he:k=i
   .subst he;rw[We rfl];exact hq.root
   .rw[Wc he];have:=h.root i hi;simp_all}
theorem Wcq(h:WOk s.2.1 n w):WOk s.2.1 (n+1) (Wnu s w a):=by
 have ht:=h.tick;unfold Wnu;simp only;split
 .rename_i hb;have hk:a.2.1.toNat<w.roots.length:=by omega
  have hx:=ht.root a.2.1.toNat hk;have ta:=h.root a.2.1.toNat hk;have hg:GOk {w with now:=w.now+1}:=⟨h.mem,h.shelf,h.holds⟩;have hp:=WmD h.progs (show a.2.1.toNat<s.2.1.length by rw[←h.len];exact hk);have kC:w.roots.length<=4:=by rw[h.len];exact h.l4
  rw[WP hk];split
  .unfold Wp7;rw[WP (show a.2.1.toNat<({w with now:=w.now+1}:Wo).roots.length from hk)];exact ht.putQ h.hist hk (Wq2 hp hg ta (by omega) h.n0)
  .split
   .split
    .rename_i hf;refine ht.putQ h.hist hk (hg.st ?_);have hl:=ta.live (by omega);obtain⟨f1,f2,f3⟩:=hl.fork hf.1;have hj:a.2.2.toNat<(s.2.1.getD a.2.1.toNat pg0).2.length:=by omega
     have kd:a.2.2.toNat<w.roots[a.2.1.toNat].fam.kids.length:=by rw[f3.len];exact hj
     have ct:KC ((s.2.1.getD a.2.1.toNat pg0).2.getD a.2.2.toNat []):=by rw[WP hj];exact hp.kids _ (Xar hj)
     exact{hx with live:=λ_=>{hl.wk (show n<=n+1 by omega)with fork:=λ_=>⟨f1,f2,Wqd kd h.mem ct f3 rfl⟩}}
    .exact ht
   .split
    .split
     .refine ht.putQ h.hist hk (hg.st ?_);exact{hx with live:=λhh=>{hx.live hh with}}
     .exact ht
    .exact ht
 .exact ht
theorem Wmh(h:WOk s.2.1 n w)(hn:n<=99999)(hN:1048576<N):Zeb N w.e s a=some (((Wnu s w a).e,()),()):=by
 have ht:=h.tick;have vx:=h.now;have pX:=h.n0;have kC:w.roots.length<=4:=by rw[h.len];exact h.l4
 unfold Zeb Wnu;simp only[Wn];rw[show P5 w.e=w.roots.map Rt.e from rfl,show w.e.1=w.now from rfl,WbU (by omega)];have aa:Wh (w.roots.map Rt.e)=(w.roots.length:Int):=by unfold Wh;simp
 rw[aa,WaA (by unfold I64;omega)];simp only[WM,ret,Xd];by_cases hb:0<=a.2.1/\a.2.1<w.roots.length
 .rw[We hb,Wb hb.1,Wb (show a.2.1<=(w.roots.length:Int) -1 by omega)];obtain⟨k,vy⟩:∃k:Nat,a.2.1=k:=⟨a.2.1.toNat,by omega⟩;have hk:k<w.roots.length:=by omega
  obtain⟨x,aI⟩:∃x,w.roots[k]=x:=⟨_,rfl⟩;have hx:=h.root k hk;rw[aI]at hx;have jE:k<s.2.1.length:=by rw[←h.len];exact hk
  have hp:=WmD h.progs jE;obtain⟨g1,g2,g3,g4,g5⟩:=woG hk aI;obtain⟨r0,r1,r2,r3,r4,r5,r6,r7,r8,iJ,ib,gu,gv,gw,gS,ju,jv,iL,iM,jw,jx,jy⟩:=rtP x;have fz:∀y:Rt,(w.now+1,S4 (Xi (w.roots.map Rt.e) k y.e) w.e.2)=Wo.e (Wo.put ({w with now:=w.now+1},y) k):=λy=>by
   unfold Wo.put Wo.e;simp only[Xfd];rfl
  have cw:Wo.put ({w with now:=w.now+1},x) k={w with now:=w.now+1}:=by unfold Wo.put;simp only;rw[←aI,Xbi]
  simp only[vy,Xk,Xbj,Xx,Wf];rw[g1,g4,WP hk,aI];simp only[Wa,r0,iL,iM,fz,cw,show w.e.2.2.1=w.mem from rfl];rw[WW,Wb jE];have vz:Xc s.2.1 k (([]:List Ka),([]:List Ky))=s.2.1.getD k pg0:=rfl;rw[vz];generalize jB:s.2.1.getD k pg0=p at*;have hg:GOk {w with now:=w.now+1}:=⟨h.mem,h.shelf,h.holds⟩;simp only[Wa,Wy];have bs:Zex N (Wo.e {w with now:=w.now+1}) (k:Int) p=some (((Wo.put (WiQ {w with now:=w.now+1} x k p) k).e,()),()):=
   Wp6 (w:={w with now:=w.now+1}) hk aI (by grind) hp hg hx (by omega) (by have:=h.hist;grind) hN
  rw[bs];by_cases h1:a.1=1
  .simp_all [We,Wp7,WP,Xd]
  .rw[Wc h1,Wc h1];by_cases h2:a.1=2
   .rw[We h2,We h2];by_cases hf:x.phase=2
    .rw[We hf,WaA (by have:=hp.k3;unfold I64 Wh;omega),show Wh p.2=(p.2.length:Int)from rfl];by_cases hj:0<=a.2.2/\a.2.2<p.2.length
     .rw[Wb hj.1,Wb (show a.2.2<=(p.2.length:Int) -1 by omega),We (show x.phase=2/\0<=a.2.2/\a.2.2<p.2.length from⟨hf,hj⟩)];obtain⟨j,m9⟩:∃j:Nat,a.2.2=j:=⟨a.2.2.toNat,by omega⟩;have d4:j<p.2.length:=by omega
      simp only[m9,Xk,Xbj,Wa];rw[WW,Wb d4];obtain⟨f1,f2,f3⟩:=(hx.live (by omega)).fork hf;have ct:KC (p.2.getD j []):=by rw[WP d4];exact hp.kids _ (Xar d4)
      rw[WjG (code:=p.2.getD j []) (by rw[f3.len];exact d4) (by rw[f3.len];exact hp.k3) h.mem ct f3 rfl (by omega) hN];simp only[Xd,Wa];have:U21 (Wl1 w.mem x.fam j (p.2.getD j [])).e x.e=Rt.e {x with fam:=Wl1 w.mem x.fam j (p.2.getD j [])}:=rfl
      grind [Wtg]
     grind
    simp_all
   .rw[Wc h2,Wc h2];by_cases h3:a.1=3
    .rw[We h3,We h3];have hd:S11 true x.e=Rt.e {x with doomed:=true}:=rfl;simp only[hd,fz,show(Cm.e x.cm).2.2.1=x.cm.phase from rfl,WaF]
     grind
    simp_all
 .rw[Wc hb];have pW:(decide (0<=a.2.1)&&decide (a.2.1<=(w.roots.length:Int) -1))=false:=by
   rw[Xdh,Wp,Wp];omega
  rw[pW];rfl
theorem WlC(h:Wm8 s=true):WOk s.2.1 0 (Wp2 s):=by
 obtain⟨h1,h2,h3,h4⟩:=Wl0 h;exact{
  len:=by simp[Wp2]
  l4:=h2
  progs:=h4
  now:=rfl
  n0:=Xcv _
  mem:=by
   show Waf (WmF s.1.1)=true;have:=h1.cells.len;unfold Waf WmF;simp only[Xad,this,decide_true,Xcp,Xg,Wg,Xab];refine⟨by omega,λw hw=>?_⟩;obtain⟨v,hv,rfl⟩:=Xv.1 hw;have:=h1.cells.val v hv;rw[WfP];unfold wd0;simp only;omega
  shelf:=⟨WpT h1.map.1 h1.map.2,h1.cnt⟩
  holds:=⟨(λh hh=>by cases hh),List.Pairwise.nil⟩
  hist:=by simp[Wp2]
  histE:=λh hh=>by cases hh
  root:=λk hk=>by
   simp only[Wp2,List.getElem_replicate];exact{
    phase:=by simp
    tries:=by simp
    live:=λhh=>by simp at hh
    comm:=λhh=>by simp at hh
    undos:=λu hu=>by cases hu
    ul:=by simp
    rg:=by simp
    ord:=by simp}}
theorem WpB:∀(l:List Ac) (n:Int) (w:Wo),WOk s.2.1 n w->WOk s.2.1 (n+l.length) (l.foldl (Wnu s) w)
 | [],n,w,h=>by simpa using h
 |a::l,n,w,h=>by
  have:=WpB l (n+1) _ (Wcq (a:=a) h);rw[Xct,Xn];rw[show n+((l.length+1:Nat):Int)=n+1+l.length by omega];exact this
theorem Wm0(h:Wm8 s=true):WOk s.2.1 s.2.2.length (Wn3 s):=by
 have:=WpB s.2.2 0 _ (WlC h);rw[Int.zero_add]at this;exact this
end
section
section
variable{N:Nat}{c:Cur}
end
end
section
section
variable{w:Wo}{x y z:Rt}{k:Nat}{p:Pg}{n:Int}{o:Opn}
end
section
variable{s:Sc}{w v u:Wo}{n:Int}{a:Ac}{k:Nat}
end
end
section
def owner(m:Mm)(i:Int):Int:=(Wbg m i).2.2
section
variable{m:Mm}{c c':Cm}{i j:Int}{w:Wd}
end
end
section
section
variable{w:Wo}{x:Rt}{k:Nat}{p:Pg}{q:Wo×Rt}{o:Opn}{n:Int}
end
section
variable{s:Sc}{w v:Wo}{n:Int}{a:Ac}{k:Nat}{q:Wo×Rt}
end
end
section
variable{N:Nat}{s:Sc}{w:Wo}{n:Int}
end
section
variable{N:Nat}{l:List Int}{k v:Int}{s:Shf}{u:Un}{o:Opn}{r:List Int}
end
section
variable{N:Nat}{l:List Hd}{who what mode b:Int}
end
section
variable{N:Nat}{c:Cm}{m:Mm}
end
section
variable{N:Nat}{w:Wo}{x:Rt}{k:Nat}{p:Pg}{n:Int}{o:Opn}
end
section
variable{N:Nat}{m:Mm}{f g:Fm}{x y:Kd}{k:Nat}{n:Int}{code:List Opn}{codes:List (List Opn)}
end
section
variable{N:Nat}{m:Mm}{f g:Fm}{x y:Kd}{k:Nat}{n:Int}{code:List Opn}{codes:List (List Opn)}{e:En}
end
section
abbrev FSc:=List Int×List Int×List Rw×List (List Opn)×List Int
variable{N:Nat}{s:FSc}{m:Mm}{f:Fm}{n:Int}
end
section
variable{N:Nat}{w:Wo}{x:Rt}{k:Nat}{p:Pg}{n:Int}{o:Opn}{f:Fm}
end
section
variable{N:Nat}{w:Wo}{x:Rt}{k:Nat}{p:Pg}{n:Int}{o:Opn}{f:Fm}{s:Sc}{a:Ac}
end
section
variable{N:Nat}{w:Wo}{x:Rt}{k:Nat}{p:Pg}{n:Int}{o:Opn}{f:Fm}{s:Sc}{a:Ac}
end
section
theorem WlJ{a b:List UInt8}(h:a.length+b.length<=1000000000000):Wdh a b=true:=by
 unfold Wdh;have:IntKind.i64.max=9223372036854775807:=rfl;rw[this];simp only[Bool.not_eq_true',Wp];omega
end
section
section
variable{N:Nat}{s:Sc}{p:Pg}{w:Wo}{n:Int}{a:Ac}{k:Nat}
end
variable{N:Nat}{s:Sc}{w:Wo}{n:Int}{a:Ac}
end
section
variable{N:Nat}{w:Wo}{x:Rt}{k:Nat}{p:Pg}{n:Int}{o:Opn}{f:Fm}{s:Sc}{a:Ac}{m:Mm}
end
section
variable{N:Nat}{s:Sc}
theorem WqF{R:Type}{K0:Int->Bool->Int->Int->Int->Int->Ks->Kg->Ks->(List Y_Root)->Kaa->Option R}(hl:s.2.2.length<=1000)(hN:1048576<N):
  ∀(d j n:Nat) (m:Int) (w:Wo),j+d=s.2.2.length->d<n->WOk s.2.1 m w->m+d<=90000->
  Zb3 N s.2.2 s K0 n (j:Int) w.now w.token w.mem.1 w.shelf.2 w.mem.2 w.shelf.1 w.holds (w.roots.map Rt.e) w.hist=
   (λv:Wo=>K0 (s.2.2.length:Int) false v.now v.token v.mem.1 v.shelf.2 v.mem.2 v.shelf.1 v.holds (v.roots.map Rt.e) v.hist) ((s.2.2.drop j).foldl (Wnu s) w):=by
 intro d
 induction d with
 |zero=>
  intro j n m w hj hn h hm;obtain⟨n,rfl⟩:∃n',n=n'+1:=⟨n-1,by omega⟩;have:j=s.2.2.length:=by omega
  subst this;simp only[Zb3,WaC (Xm _),Wf,Xcz,List.foldl_nil]
 |succ d ih=>
  intro j n m w hj hn h hm;obtain⟨n,rfl⟩:∃n',n=n'+1:=⟨n-1,by omega⟩;have ad:j<s.2.2.length:=by omega
  have hw:(w.now,(w.token,((w.mem.1,w.mem.2),((w.shelf.1,w.shelf.2),(w.holds,(w.roots.map Rt.e,w.hist))))))=w.e:=rfl;simp only[Zb3,Wan ad,WD ad,WH ad,Wt (show j<4611686018427387904 by omega),Wa,hw];rw[Wmh h (by omega) hN,Xbm ad,Xct];exact ih (j+1) n (m+1) _ (by omega) (by omega) (Wcq h) (by omega)
theorem Wpp(hb:SB s)(hN:1048576<N):Zbp N s=ret (if Wm8 s=true then(Wn3 s).e else d_World):=by
 unfold Zbp;rw[Wcp hb hN];simp only[ret,Xd,Wn];cases hs:Wm8 s with
 |false=>rfl
 |true=>
  obtain⟨h1,h2,h3,h4⟩:=Wl0 hs;have h0:=WlC hs;have nC:=WrE s.2.1 (by omega);simp only[Xx,Wf,W9];rw[WfB h1.map.1 h1.map.2 hN,WhG (WmC.2 h1.cells) hN];simp only[ret,Xd,nC,Wa,WcD];have eT:=WqF (s:=s) (N:=N) (K0:=λoL uy lT qZ q7 pE gM kW pF pG q8=>(some ((),((lT,(qZ,((q7,gM),((kW,pE),(pF,(pG,q8)))))),())):Option (Unit×(Y_World×Unit)))) (by omega) hN s.2.2.length 0 N 0 (Wp2 s) (by omega) (by omega) h0 (by omega);rw[WnM];have mZ:((Wp2 s).roots.map Rt.e)=Xr s.2.1.length d_Root:=by
   unfold Wp2;simp only[List.map_replicate];rfl
  rw[mZ]at eT;refine eT.trans ?_;rw[Xca];rfl
end
section
variable{n:Int}{w:Wo}{x y:Rt}{k:Nat}{p:Pg}{s:Sc}{a:Ac}
end
section
set_option synthInstance.maxSize 20000
set_option synthInstance.maxHeartbeats 4000000
end
section

end
section

end
section

end
section
variable{n:Int}{w:Wo}{x:Rt}{p:Pg}{ps:List Pg}
end
section
def Wdg(s:Sc)(k:Nat):Nat->Nat->Wo->Wo
 |0,_,w=>w
 |d+1,j,w=>Wdg s k d (j+1) (Wnu s w (2,(k:Int),(j:Int)))
def WaY(s:Sc):Nat->Nat->Wo->Wo
 |0,_,w=>w
 |d+1,i,w=>WaY s d (i+1) (Wdg s i (s.2.1.getD i pg0).2.length 0 (Wnu s w (1,(i:Int),0)))
def Wmg(w:Wo):Bool:=w.roots.all λx=>decide (x.phase=8)
def Wc9(s:Sc):Nat->Wo->Wo×Nat
 |0,w=>(w,0)
 |d+1,w=>if Wmg w=true then(w,0)else((Wc9 s d (WaY s s.2.1.length 0 w)).1,(Wc9 s d (WaY s s.2.1.length 0 w)).2+1)
variable{s:Sc}{w v:Wo}{n:Int}{k:Nat}{N:Nat}
theorem Wgf:∀(d j:Nat) (n:Int) (w:Wo),WOk s.2.1 n w->WOk s.2.1 (n+d) (Wdg s k d j w)
 |0,_,n,w,h=>by rw[Wdg];simpa using h
 |d+1,j,n,w,h=>by
  have:=Wgf d (j+1) (n+1) _ (Wcq (a:=(2,(k:Int),(j:Int))) h);rw[Wdg,show n+((d+1:Nat):Int)=n+1+(d:Int) by omega];exact this
theorem Wrx{R:Type}{rounds:Int}{b1 b2 b3 b4:Int}{fJ:Int}{K0:Int->Bool->Int->Int->Int->Int->List Kb->List Int->List Kb->List Y_Root->List Ko->Option R}(hN:1048576<N)(hk:k<s.2.1.length)(h3:s.2.1[k].2.length<=3):
  ∀(d j fuel:Nat) (n:Int) (w:Wo),j+d=s.2.1[k].2.length->d<fuel->WOk s.2.1 n w->n+d<=99999->
  Zcv N rounds (k:Int) s.2.1 fJ s b1 b2 b3 b4 K0 fuel (j:Int) w.now w.token w.mem.1 w.shelf.2 w.mem.2 w.shelf.1 w.holds (w.roots.map Rt.e) w.hist=
  K0 (s.2.1[k].2.length:Int) false (Wdg s k d j w).now (Wdg s k d j w).token (Wdg s k d j w).mem.1 (Wdg s k d j w).shelf.2 (Wdg s k d j w).mem.2 (Wdg s k d j w).shelf.1 (Wdg s k d j w).holds ((Wdg s k d j w).roots.map Rt.e) (Wdg s k d j w).hist:=by
 intro d;have gZ:Xc s.2.1 (Xa (k:Int)) (([]:List Ka),([]:List Ky))=s.2.1[k]:=WH hk _
 induction d with
 |zero=>
  intro j fuel n w hj hf hw hn;obtain⟨f,rfl⟩:∃f,fuel=f+1:=⟨fuel-1,by omega⟩;have:decide ((j:Int)<Wh s.2.1[k].2)=false:=Ws (by unfold Wh;omega);simp only[Zcv,Wn,gZ,this,Wf,Wdg];rw[show(j:Int)=(s.2.1[k].2.length:Int) by omega]
 |succ d ih=>
  intro j fuel n w hj hf hw hn;obtain⟨f,rfl⟩:∃f,fuel=f+1:=⟨fuel-1,by omega⟩;have:decide ((j:Int)<Wh s.2.1[k].2)=true:=Wb (by unfold Wh;omega);have hr:=Wmh (a:=(2,(k:Int),(j:Int))) hw (by omega) hN;simp only[Zcv,Wn,gZ,this,Wa];rw[show((w.now,(w.token,((w.mem.1,w.mem.2),((w.shelf.1,w.shelf.2),(w.holds,(w.roots.map Rt.e,w.hist)))))):Y_World)=w.e from rfl,hr];simp only[Xd,Wt (show j<4611686018427387904 by omega)];rw[Wdg];exact ih (j+1) f (n+1) _ (by omega) (by omega) (Wcq hw) (by omega)
theorem pk3(h:WOk s.2.1 n w){i:Nat}(hi:i<s.2.1.length):(s.2.1.getD i pg0).2.length<=3:=(WmD h.progs hi).k3
theorem WgE:∀(d i:Nat) (n:Int) (w:Wo),i+d=s.2.1.length->WOk s.2.1 n w->∃n',n<=n'/\n'<=n+4*d/\WOk s.2.1 n' (WaY s d i w)
 |0,_,n,w,hi,h=>⟨n,by omega,by omega,by rw[WaY];exact h⟩
 |d+1,i,n,w,hi,h=>by
  have h1:=Wgf (k:=i) (s.2.1.getD i pg0).2.length 0 (n+1) _ (Wcq (a:=(1,(i:Int),0)) h);have h3:=pk3 h (i:=i) (by omega);obtain⟨n',a,b,c⟩:=WgE d (i+1) _ _ (by omega) h1;exact⟨n',by omega,by omega,by rw[WaY];exact c⟩
theorem WqN{R:Type}{rounds:Int}{b1 b2 b3 b4:Int}{K0:Int->Bool->Int->Int->Int->Int->List Kb->List Int->List Kb->List Y_Root->List Ko->Option R}(hN:1048576<N)(kC:s.2.1.length<=4):
  ∀(d i fuel:Nat) (n:Int) (w:Wo),i+d=s.2.1.length->d<fuel->WOk s.2.1 n w->n+4*d<=99999->
  Zbk N rounds s.2.1 s b1 b2 b3 b4 K0 fuel (i:Int) w.now w.token w.mem.1 w.shelf.2 w.mem.2 w.shelf.1 w.holds (w.roots.map Rt.e) w.hist=
  K0 (s.2.1.length:Int) false (WaY s d i w).now (WaY s d i w).token (WaY s d i w).mem.1 (WaY s d i w).shelf.2 (WaY s d i w).mem.2 (WaY s d i w).shelf.1 (WaY s d i w).holds ((WaY s d i w).roots.map Rt.e) (WaY s d i w).hist:=by
 intro d
 induction d with
 |zero=>
  intro i fuel n w hi hf hw hn;obtain⟨f,rfl⟩:∃f,fuel=f+1:=⟨fuel-1,by omega⟩;have:i=s.2.1.length:=by omega
  subst this;simp only[Zbk,WaC (Xm _),Wf,WaY]
 |succ d ih=>
  intro i fuel n w hi hf hw hn;obtain⟨f,rfl⟩:∃f,fuel=f+1:=⟨fuel-1,by omega⟩;have ad:i<s.2.1.length:=by omega
  have hr:=Wmh (a:=(1,(i:Int),0)) hw (by omega) hN;have hg:s.2.1.getD i pg0=s.2.1[i]:=WP ad _;have h3:=pk3 hw ad;rw[hg]at h3;have tc:=Wcq (a:=(1,(i:Int),0)) hw;have hk:=Wrx (R:=R) (rounds:=rounds) (b1:=b1) (b2:=b2) (b3:=b3) (b4:=b4) (fJ:=Wh s.2.1)
   (K0:=λra rb lV lW lX lY lZ l0 ma mb mc=>(Zbk N rounds s.2.1 s b1 b2 b3 b4 K0 f (Wl .i64 (i:Int) (1:Int)) lV lW lX lY lZ l0 ma mb mc)) hN ad h3 s.2.1[i].2.length 0 N (n+1) _ (by omega) (by omega) tc (by omega)
  have bv:=Wgf (k:=i) s.2.1[i].2.length 0 (n+1) _ tc;simp only[Zbk,Wan ad,WD ad,Wa];rw[show((w.now,(w.token,((w.mem.1,w.mem.2),((w.shelf.1,w.shelf.2),(w.holds,(w.roots.map Rt.e,w.hist)))))):Y_World)=w.e from rfl,hr];simp only[Xd];refine hk.trans ?_;simp only[Wt (show i<4611686018427387904 by omega)];rw[WaY,hg];exact ih (i+1) f _ _ (by omega) (by omega) bv (by omega)
theorem WmY(hl:w.roots.length<=4)(hN:1048576<N):Ziw N w.e=ret (Wmg w):=by
 unfold Ziw Zag Zu;have e1:w.e.2.2.2.2.2.1=w.roots.map Rt.e:=rfl;rw[e1];have hb:(w.roots.map Rt.e).length<=4:=by simpa using hl
 have h1:=WT (l:=w.roots.map Rt.e) (V:=Unit) (R:=Unit×Ki) (lp:=λn j _=>Zh N (w.roots.map Rt.e) (λaL=>(some ((),(aL,())))) (λaC aZ=>(some ((),((-1:Int),())))) n j) (n:=N) (by omega)
  (body:=λj x v k=>bif (x.1 !=8)then some ((),(j,()))else k v) (K:=λ_ v=>some ((),((-1:Int),())))
  (λn i u hi=>by
   simp only[Zh,Zi2,Wan hi,WD hi,WH hi,Wt (show i<4611686018427387904 by omega),Wa,Xd])
  (λn u=>by simp only[Zh,WaC (Xm _),Wf]) ()
 have h2:∀(l:List Y_Root) (j:Nat),∃r:Int,Wbt (λ(j:Int) (x:Y_Root) (v:Unit) (k:Unit->Option Ku)=>bif (x.1 !=8)then some ((),(j,()))else k v) (λ_ v=>some ((),((-1:Int),()))) l j ()=some ((),(r,()))/\(decide (r>=0)= !(l.all λx=>x.1==8)):=λl=>by
  induction l with
  |nil=>intro j;exact⟨-1,rfl,rfl⟩
  |cons x l ih=>
   intro j;rw[Wbt];cases hx:x.1==8 with
   |true=>
    have:(x.1 !=8)=false:=by rw[bne,hx];rfl
    simp only[this,Wf];obtain⟨r,a,b⟩:=ih (j+1);exact⟨r,a,by rw[b,Xbk,hx];rfl⟩
   |false=>
    have:(x.1 !=8)=true:=by rw[bne,hx];rfl
    simp only[this,Wa];exact⟨j,rfl,by rw[Xbk,hx];simp⟩
 obtain⟨r,a,b⟩:=h2 (w.roots.map Rt.e) 0;rw[h1.trans a];simp only[Xd,b,Bool.not_not];have:((w.roots.map Rt.e).all λx=>x.1==8)=Wmg w:=by
  unfold Wmg;rw[List.all_map];congr 1
 rw[this]
theorem Wqn{R:Type}{K0:Int->Bool->Int->Int->Int->Int->List Kb->List Int->List Kb->List Y_Root->List Ko->Option R}(hN:1048576<N)(kC:s.2.1.length<=4):
  ∀(d r fuel:Nat) (n:Int) (w:Wo),r+d=6000->d<fuel->WOk s.2.1 n w->n+16*d<=99999->
  Zbl N s K0 fuel (r:Int) w.now w.token w.mem.1 w.shelf.2 w.mem.2 w.shelf.1 w.holds (w.roots.map Rt.e) w.hist=
  (λv:Wo×Nat=>K0 ((r+v.2:Nat):Int) false v.1.now v.1.token v.1.mem.1 v.1.shelf.2 v.1.mem.2 v.1.shelf.1 v.1.holds (v.1.roots.map Rt.e) v.1.hist) (Wc9 s d w):=by
 intro d
 induction d with
 |zero=>
  intro r fuel n w hr hf hw hn;obtain⟨f,rfl⟩:∃f,fuel=f+1:=⟨fuel-1,by omega⟩;have hl:w.roots.length<=4:=by rw[hw.len];exact kC
  simp only[Zbl];rw[show((w.now,(w.token,((w.mem.1,w.mem.2),((w.shelf.1,w.shelf.2),(w.holds,(w.roots.map Rt.e,w.hist)))))):Y_World)=w.e from rfl,WmY hl hN];have h6:decide ((r:Int)<6000)=false:=Ws (by omega);simp only[ret,Xd,h6,Wf,Wc9,Nat.add_zero];cases Wmg w<;>rfl
 |succ d ih=>
  intro r fuel n w hr hf hw hn;obtain⟨f,rfl⟩:∃f,fuel=f+1:=⟨fuel-1,by omega⟩;have hl:w.roots.length<=4:=by rw[hw.len];exact kC
  simp only[Zbl];rw[show((w.now,(w.token,((w.mem.1,w.mem.2),((w.shelf.1,w.shelf.2),(w.holds,(w.roots.map Rt.e,w.hist)))))):Y_World)=w.e from rfl,WmY hl hN];have h6:decide ((r:Int)<6000)=true:=Wb (by omega);simp only[ret,Xd,h6,Wa,Wc9];cases ho:Wmg w with
  |true=>rfl
  |false=>
   simp only[Xcm,Wa,Xap,Wae];obtain⟨n',a,b,c⟩:=WgE s.2.1.length 0 n w (by omega) hw;have eT:=WqN (s:=s) (R:=R) (rounds:=Wl .i64 (r:Int) 1) (b1:=0) (b2:=0) (b3:=0) (b4:=0)
    (K0:=λre rf md me mf mg mh mi mj ml mm=>(Zbl N s K0 f (Wl .i64 (r:Int) (1:Int)) md me mf mg mh mi mj ml mm)) hN kC s.2.1.length 0 N n w (by omega) (by omega) hw (by omega)
   refine eT.trans ?_;simp only[Wt (show r<4611686018427387904 by omega)];rw[ih (r+1) f n' _ (by omega) (by omega) c (by omega)];simp only[show r+1+(Wc9 s d (WaY s s.2.1.length 0 w)).2=r+((Wc9 s d (WaY s s.2.1.length 0 w)).2+1) by omega]
noncomputable def dr(s:Sc):Y_World×Int:=if Wm8 s=true then((Wc9 s 6000 (Wn3 s)).1.e,((Wc9 s 6000 (Wn3 s)).2:Int))else(d_World,0)
theorem WnW(hb:SB s)(hN:1048576<N):Zal N s=some ((),((dr s).1,((dr s).2,()))):=by
 unfold Zal;rw[Wcp hb hN,Wpp hb hN];unfold dr;simp only[ret,Xd];cases bv:Wm8 s with
 |false=>rfl
 |true=>
  obtain⟨h1,h2,h3,h4⟩:=Wl0 bv;have hW:=Wm0 bv;simp only[Xx,Wf,W9];have:=Wqn (s:=s) (N:=N) (K0:=λdt rh mn mo mp mq mr mt mw mx my=>(some ((),((mn,(mo,((mp,mr),((mt,mq),(mw,(mx,my)))))),(dt,()))):Option (Unit×(Y_World×Ki)))) hN (by omega) 6000 0 N _ (Wn3 s) (by omega) (by omega) hW (by omega);refine this.trans ?_;simp only[Xbh];rfl
end
end Go.Sx
