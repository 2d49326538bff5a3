/- Plain laws of the Lean functions. -/
import Derived.Test.YtpfdembammnpcaaGreatMW2
open Int renaming toNat→Xa,toNat_natCast→Xj,tdiv_eq_ediv_of_nonneg→D5,tmod_eq_emod_of_nonneg→Ya
open List renaming getD→Xc,set→Xe,getD_eq_getElem?_getD→lg,getElem?_eq_none→gw,take→aj,length→Xb,length_map→Xt,set_getElem_self→je,getElem_mem→Xy,length_take→dA,mem_append→Xp,pairwise_append→d0,map_append→Xx,mem_singleton→cw,length_dropLast→AC,mem_of_mem_take→nI,mem_map→Xv,all_eq_true→bA,length_set→cZ,length_cons→Xs,eq_nil_or_concat→NH,concat_eq_append→Av,length_append→Xz,length_nil→j0,append→Xf,pairwise_iff_getElem→gu,set_set→mC,mem_of_getElem?→fN,append_eq→d1,length_eq_zero_iff→Yf,filter_eq_nil_iff→YE,pairwise_cons→Xu
open Option renaming bind_some→Xd,isSome_some→Yt,getD_some→D8
open Bool renaming not_false→bS,not_true→Xn,true_and→d3,and_eq_false_iff→pL,and_eq_true→Xh,and_self→c3,and_true→NX,false_eq_true→dq
open Nat renaming le_refl→Xm,beq_refl→N2,zero_add→bX
namespace Go.Sx
set_option linter.unusedVariables false
set_option linter.unusedSimpArgs false
section
variable{N:Nat}{w:Wo}{k:Nat}{x:Rt}{o:Opn}{p:Pg}{n:Int}{ξ:List Opn}
theorem RLive.mk24(b:CC p.1)(h:RLive p n x)(c:x.θ.length≠0):∃(m:Nat) (q:List RM),x.θ=q++ [x.last]/\x.last.1=(m:Int)/\(∃s:m<p.1.length,p.1[m].1=8)/\(m:Int)<x.pc/\Mate p.1 m (ny p.1 m)/\x.pc<=ny p.1 m/\stk p.1 m=(stk p.1 x.pc.toNat).dropLast/\x.θ.dropLast=q/\
  Vals 4 x.last.2.2.2.2/\(0<=x.last.2.1/\x.last.2.1<=x.last.1+72*frk p.1 x.last.1.toNat/\x.last.2.1<=x.κ.length)/\(0<=x.last.2.2.1/\x.last.2.2.1<=x.last.1+8/\x.last.2.2.1<=x.ι.length)/\0<=x.last.2.2.2.1/\x.last.2.2.2.1<=x.last.1/\x.last.2.2.2.1<=x.υ.length:=by
 have t:=h.pc;obtain⟨m,q,y,e,a,f,g,i,j,k,l,o⟩:=u9 (d:=zRM) b (show x.pc.toNat<=p.1.length by omega) h.θ.pcs c;have r:x.last=y:=a;have u:=h.θ.each y (by grind)
 grind
theorem X6(h:x.θ.length≠0)(j:x.θ.length<=1000):(inb (Wv .i64 (x.θ.length:Int) 1) x.θ.length&&true)=true/\(inb (Wv .i64 (x.θ.length:Int) 1) x.θ.length&&Nat.beq (Xa (Wv .i64 (x.θ.length:Int) 1)) (Xa (Wv .i64 (x.θ.length:Int) 1)))=true/\
  Xc x.θ (Xa (Wv .i64 (x.θ.length:Int) 1)) ((0:Int),((0:Int),((0:Int),((0:Int),([]:List Int)))))=x.last/\Xe x.θ (Xa (Wv .i64 (x.θ.length:Int) 1)) x.last=x.θ/\decide (Wv .i64 (x.θ.length:Int) 1<=((Xa (Wv .i64 (x.θ.length:Int) 1):Nat):Int))=true:=by
 obtain⟨a,b,c,d⟩:=mV h j zRM;have f:inb (Wv .i64 (x.θ.length:Int) 1) x.θ.length=true:=a;have g:Xc x.θ (Xa (Wv .i64 (x.θ.length:Int) 1)) zRM=x.last:=b;refine⟨by rw[f];rfl,by rw[f];simp,g,?_,Wc (Int.self_le_toNat _)⟩;rw[←g,lg];apply List.ext_getElem?;intro i;rw[List.getElem?_set];split
 .rename_i e;subst e;split
  .rename_i ae;rw[List.getElem?_eq_getElem ae];rfl
  .rename_i ae;rw[gw (by omega)]
 .rfl
theorem WsB(o:k<w.η.length)(j:w.η[k]=x)(S:k<=8)(h:CC p.1)(r:RLive p n x)(L:∀u∈x.υ,UnV u)(K:ShOk w.π)(J:HOk w.holds)(l:1048576<N):
  HL N w.e (k:Int) p.1=some (((Wo.put (q5 w x k p.1) k).e,()),()):=by
 obtain⟨g1,H,y,I,g5⟩:=woG o j;obtain⟨r0,r1,r2,r3,r4,r5,r6,r7,r8,ga,fy,eG,F,v,G,gB,gD,fj,gd,gE,gF,gG⟩:=rtP x;obtain⟨z1,z2,z3,z4,U,V⟩:=r.sz h;have W:=h.len;unfold HL q5;simp only[Wp];rw[show P5 w.e=w.η.map Rt.e from rfl,I,H];simp only[Wa,Wu,v,Wh];by_cases f:x.θ.length=0
 .rw[Wf (by omega),Wf f,y,TD o j S J r.rv U V l];rfl
 .rw[We (by omega),We f];obtain⟨M,O,P,Q,R⟩:=X6 f (by omega);rw[M,Wa,O,Wa,P,Q,show S15 x.θ x.e=x.e from rfl];simp only[Xd,G,WX];obtain⟨m,q,X,E,⟨i,A⟩,Y,s,Z,e7,e8,t,kC,lV,nd,nf,lC⟩:=r.mk24 h f;by_cases g:(x.υ.length:Int)>x.last.2.2.2.1
  .rw[Wf g,Wf g,y,Xj,Md o j (by omega) (by omega) L K l];rfl
  .rw[We g,We g];simp only[F,v];obtain⟨a,b,c,d⟩:=mV f (by omega) zRM;have C:(decide ((0:Int)<=Wv .i64 (x.θ.length:Int) 1)&&decide (Wv .i64 (x.θ.length:Int) 1<=(x.θ.length:Int))&&decide (Wv .i64 (x.θ.length:Int) 1<=((Xa (Wv .i64 (x.θ.length:Int) 1):Nat):Int)))=true:=by
    have D:(decide ((0:Int)<=Wv .i64 (x.θ.length:Int) 1)&&decide (Wv .i64 (x.θ.length:Int) 1<=(x.θ.length:Int)))=true:=d;rw[D,R];rfl
   have c':aj (Xa (Wv .i64 (x.θ.length:Int) 1)) x.θ=x.θ.dropLast:=c;rw[C,c',mX (by rw[t.len];omega),E,WH,Wc i];have T:Xc p.1 (Xa ((m:Nat):Int)) ((0,0,0,0):Opn)=opN p.1 (m:Int):=rfl;have z:=rK (h.ok m i).1 A;rw[←qM i]at z;simp only[Wa,ret,Xd,T];rw[WV z t.len];have B:(decide ((0:Int)<=x.last.2.2.1)&&decide (x.last.2.2.1<=(x.ι.length:Int)))=true:=by simp;omega
   rw[B];simp only[Wa];rw[yY (by grind),RS (by omega) l ⟨i,A⟩ s];simp only[ret,Xd];rw[au (by have:=s.len;omega),Xj];exact bf rfl rfl rfl
theorem WtR(s:k<w.η.length)(j:w.η[k]=x)(O:k<=8)(f:CC p.1)(a:RLive p n x)(h:bj o=true)(c:12<=o.1)(t:ShOk w.π)(g:HOk w.holds)(d:1048576<N):
  Ev N w.e (k:Int) o=some (((Wo.put (iN w x k o) k).e,()),()):=by
 obtain⟨D,q,E,r,F⟩:=woG s j;obtain⟨P,Q,R,u,S,T,U,V,W,L,m,z,A,B,l,G,H,C,M,I,J,K⟩:=rtP x;obtain⟨Y,Z,z3,z4,z5,z6⟩:=a.sz f;have X:=tU g;have v:=a.pc;have y:=f.len;have i:(0<=(cV o).1/\(cV o).1<=8)/\1<=(cV o).2/\(cV o).2<=2:=by
  grind [cV,nE,dH,zV,zD,lU,DT]
 unfold Ev iN;simp only[Wp,fV];rw[show P5 w.e=w.η.map Rt.e from rfl,r,q,au (by omega),Wlz h c,show P4 w.e=w.holds from rfl,show w.e.2.2.2.1=w.π from rfl];simp only[Wa,Xd,WiL g (show 1<=(k:Int)+1/\(k:Int)+1<=9 by omega) i.1 i.2 (by omega) d,u,m,l,KY a.Cr];cases ha:mb w.holds ((k:Int)+1) (cV o).1 (cV o).2 with
 |none=>
  simp only[Option.isSome_none,bS,Wa,Xj];exact bf rfl rfl rfl
 |some dT=>
  simp only[Yt,Xn,Wb,D8,Xj,WiH t a.μ h c d,Xd,eJ];rw[au (by omega),Wn (by simp;omega)];by_cases b:(eF w.π o x.μ).2.2.1=0
  .rw[Wf b,Wf b];exact bf rfl rfl rfl
  .rw[We b,We b];exact bf rfl rfl rfl
theorem WwL(C:k<w.η.length)(t:w.η[k]=x)(M:k<=8)(Q:POk p)(g:RLive p n x)(hu:∀u∈x.υ,UnV u)(hm:W2 w.mem=true)(S:ShOk w.π)(L:HOk w.holds)(r:1048576<N):
  EA N w.e (k:Int) p=some (((Wo.put (fL w x k p) k).e,()),()):=by
 obtain⟨g1,g2,g3,g4,g5⟩:=woG C t;obtain⟨r0,r1,r2,r3,r4,r5,r6,r7,r8,ga,fy,X,Y,Z,eS,gB,gD,fj,gd,gE,gF,gG⟩:=rtP x;have f:=Q.ξ;obtain⟨z1,z2,z3,z4,z5,z6⟩:=g.sz f;have U:=g.pc;have dz:=f.len;have J:=g.μ.len;unfold EA fL;simp only[Wp];rw[show P5 w.e=w.η.map Rt.e from rfl,g4,g2,g3];simp only[Wa,r3,r4,fy,X,Y,Z,eS,WX,Wu,show Wh p.1=(p.1.length:Int)from rfl];by_cases F:x.pc>=p.1.length
 .rw[Wf F,Wf F,TD C t M L g.rv z5 z6 r];rfl
 .rw[We F,We F];obtain⟨j,P,ej,eo⟩:=u7 (l:=p.1) U.1 (by omega);have qP:Xc p.1 (Xa x.pc) ((0,0,0,0):Opn)=opN p.1 x.pc:=rfl;have V:inb x.pc p.1.length=true:=by grind [WH,decide_eq_true]
  rw[V];obtain⟨s,O,gL⟩:=f.ok j P;simp only[Wa,qP];rw[←eo]at s O gL;rw[au (show 0<=x.pc/\x.pc<=1000000 by omega)];have ng:(opN p.1 x.pc).1=9->x.θ.length≠0:=λi D=>by
   have h1:=Wq Xb g.θ.pcs;simp only[Xt,D]at h1;have h2:=eD f.up j (by omega);have h3:=f.up j P
   grind [fa,pt,Xj]
  generalize opN p.1 x.pc=o at*;have T:o.1>=12->Ev N w.e (k:Int) o=some (((Wo.put (iN w x k o) k).e,()),()):=λv=>WtR C t M f g s v S L r;by_cases y:o.1=5
  .rw[Wf y,Wf y,Xj,Wve C t f g hm y s r];rfl
  .rw[We y,We y];by_cases E:o.1=10
   .rw[Wf E,Wf E,WsB C t M f g hu S L r];rfl
   .rw[We E,We E];by_cases I:o.1=11
    .rw[Wf I,Wf I,show Wh p.2=((p.2.length:Nat):Int)from rfl,Wj3 (by omega) (by omega) Q.k3 r,Xj];exact bf rfl rfl rfl
    .rw[We I,We I];by_cases v:o.1>=12
     .rw[Wf v];have B:=T v;have:o.1=12\/o.1=13\/o.1=14\/o.1=15\/o.1=16:=by omega
      rcases this with h|h|h|h|h
      .rw[Wf h,Wf h,B];rfl
      .rw[We (by omega),Wf h,Wf h,B];rfl
      .rw[We (by omega),We (by omega),Wf h,Wf h,B];rfl
      .rw[We (by omega),We (by omega),We (by omega),Wf h,Wf h,B];rfl
      .rw[We (by omega),We (by omega),We (by omega),We (by omega),Wf h,B];rfl
     .rw[We v,We (show¬o.1=12 by omega),We (show¬o.1=13 by omega),We (show¬o.1=14 by omega),We (show¬o.1=15 by omega),We (show¬o.1=16 by omega)];by_cases z:o.1=6
      .rw[Wf z,Wf z,WV (Aj s z).2 J,Wn (by simp;omega),Xj];exact bf rfl rfl rfl
      .rw[We z,We z];by_cases A:o.1=7
       .rw[Wf A,Wf A];have h:=Al s A;rw[WV h.1 J,WD (a:=x.pc) (b:=o.2.2.1) (by unfold I64;omega),au (a:=x.pc+o.2.2.1) (by omega),Xj];by_cases H:Xc x.μ (Xa o.2.1) 0=0
        .rw[Wf H,Wf (show al x.μ o.2.1 0=0 from H)];exact bf rfl rfl rfl
        .rw[We H,We (show¬al x.μ o.2.1 0=0 from H)];exact bf rfl rfl rfl
       .rw[We A,We A];by_cases G:o.1=8
        .rw[Wf G,Wf G,mX (by omega)];simp only[ret,Xd];rw[Wn (by simp;omega),Xj];exact bf rfl rfl rfl
        .rw[We G,We G];by_cases i:o.1=9
         .rw[Wf i,Wf i];have D:=ng i;obtain⟨a,b,c,d⟩:=mV D (by omega) zRM;obtain⟨m,q,e1,W,⟨K,jg⟩,e4,e5,e6,e7,e8,e9,kC,lV,nd,nf,lC⟩:=g.mk24 f D;rw[SW D (by omega)];simp only[Xd];rw[d,c,W,WH,Wc K];have O:Xc p.1 (Xa ((m:Nat):Int)) ((0,0,0,0):Opn)=opN p.1 (m:Int):=rfl;have R:=rK (f.ok m K).1 jg;rw[←qM K]at R;simp only[Wa,O];rw[WV R J,Xj];exact bf rfl rfl rfl
         .rw[We i,We i,Rx r s (by omega) (by omega) g.μ,Xj];exact bf rfl rfl rfl
theorem Wur(r:k<w.η.length)(l:w.η[k]=x)(L:w.η.length<=8)(K:1048576<N):
  AR N w.e (k:Int)=some (((Wo.put (fI w x k) k).e,()),()):=by
 obtain⟨H,A,I,B,J⟩:=woG r l;have z:=Ml r l;have u:(w.η.map Rt.e).length=w.η.length:=by simp
 unfold AR;rw[show P5 w.e=w.η.map Rt.e from rfl,B,A,au (by omega),Xj];simp only[Wa,eJ,Wu,WX,show w.e.2.1=w.ω from rfl,show x.e.2.1=x.χ from rfl,show w.e.1=w.now from rfl,show w.e.2.2.1.1=w.mem.1 from rfl];have s:∀(K0:Bool->Int->Bool->Option ((Y_World×Unit)×Unit)) (d j n:Nat) (g:Bool),j+d=w.η.length->d<n->
   n5 N (k:Int) k (Wh (w.η.map Rt.e)) w.now w.ω w.mem.1 w.e.2.2.2.1.2 (w.η.map Rt.e) w.e.2.2.1.2 w.e.2.2.2.1.1 (P4 w.e) (Q6 w.e) K0 n g (j:Int)=K0 (g&&ii k (w.η.drop j) j) (w.η.length:Int) false:=by
  intro K0 d
  induction d with
  |zero=>
   intro j n g D E;obtain⟨n,rfl⟩:∃n',n=n'+1:=⟨n-1,by omega⟩;have:j=(w.η.map Rt.e).length:=by omega
   rw[n5,this,WP (Xm _),u,List.drop_length];simp[ii]
  |succ d ih=>
   intro j n g D E;obtain⟨n,rfl⟩:∃n',n=n'+1:=⟨n-1,by omega⟩;have m:j<(w.η.map Rt.e).length:=by omega
   have v:j<w.η.length:=by omega
   rw[n5];simp only[WG m,Ws m,Ww m,Wk (show j<4611686018427387904 by omega),Wa,ih (j+1) n _ (by omega) (by omega),List.getElem_map];rw[List.drop_eq_getElem_cons v,ii];generalize ii k (w.η.drop (j+1)) (j+1)=b;have F:(Rt.e w.η[j]).1=w.η[j].ζ:=rfl;rw[F];simp only[Wu];cases g with
   |false=>simp
   |true=>
    simp only[Wa,d3];by_cases q:j=k
    .rw[Wf (by omega),Wc q];simp
    .rw[We (by omega),Wi q];by_cases i:w.η[j].ζ=0
     .rw[Wf i,Wc i];simp
     .rw[We i,Wi i];have:(w.η[j].ζ==8)=decide (w.η[j].ζ=8):=by
       by_cases C:w.η[j].ζ=8<;>simp[C]
      rw[this];simp
 have:=s;refine(s _ w.η.length 0 N true (by omega) (by omega)).trans ?_;rw[List.drop_zero,d3];unfold fI;have y:some ((S5 (Xe (w.η.map Rt.e) k ((1:Int),(x.χ,((0:Int),((0:Int),(w.mem.1,((0:Int),((0:Int),((0:Int),((0:Int),(w.now,((0:Int),(false,(List.replicate (Xa (4:Int)) (0:Int),(([]:List Kc),(([]:List Kc),(([]:List Ki),(([]:List Kb),(([]:List Int),(false,(((0:Int),((0:Int),((0:Int),(0:Int)))),(((0:Int),((0:Int),((0:Int),((0:Int),((0:Int),(([]:List Kc),([]:List Int))))))),d_Family)))))))))))))))))))))) w.e,()),())=some (((Wo.put (w,{ζ:=1,χ:=x.χ,rv:=w.mem.1,Cz:=w.now,μ:=[0,0,0,0]}) k).e,()),()):=bf (x':={ζ:=1,χ:=x.χ,rv:=w.mem.1,Cz:=w.now,μ:=[0,0,0,0]}) (w':=w) rfl rfl rfl;have G:some (((w.now,((k:Int)+1,w.e.2.2)),()),())=some (((Wo.put ({w with ω:=(k:Int)+1},x) k).e,()),()):=by
  have:Wo.put ({w with ω:=(k:Int)+1},x) k={w with ω:=(k:Int)+1}:=by unfold Wo.put;simp only;rw[←l,je]
  rw[this];rfl
 have t:(((decide ((0:Int)<=(4:Int)))&&(decide ((4:Int)<=(4:Int))))&&(Wx (Xa (4:Int))))=true:=rfl;have o:some ((w.e,()),())=some (((Wo.put (w,x) k).e,()),()):=by rw[z]
 rw[t];simp only[Wa,y];by_cases c:w.ω=0
 .rw[Wf c];rw[We (show¬(w.ω≠0/\w.ω≠(k:Int)+1) by omega)];by_cases a:x.χ>=3
  .rw[Wf a,Wf c,Wf ⟨a,c⟩];exact G
  .rw[We a,We (show¬w.ω=(k:Int)+1 by omega),We (λh=>a h.1),We (by omega)]
 .rw[We c];by_cases f:w.ω=(k:Int)+1
  .rw[Wf f,We (show¬(w.ω≠0/\w.ω≠(k:Int)+1) by omega),We (show¬(x.χ>=3/\w.ω=0) by omega)];have p:∀b:Bool,(bif !b then some ((w.e,()),())else some (((Wo.put (w,{ζ:=1,χ:=x.χ,rv:=w.mem.1,Cz:=w.now,μ:=[0,0,0,0]}) k).e,()),()))=some (((Wo.put (if w.ω=(k:Int)+1/\b=false then(w,x)else(w,{ζ:=1,χ:=x.χ,rv:=w.mem.1,Cz:=w.now,μ:=[0,0,0,0]})) k).e,()),()):=λb=>by
    cases b with
    |false=>rw[Wf ⟨f,rfl⟩];exact o
    |true=>rw[We (by simp)];rfl
   by_cases a:x.χ>=3
   .rw[Wf a,We c,Wf f];exact p _
   .rw[We a,Wf f];exact p _
  .rw[We f,Wf ⟨c,f⟩];exact o
theorem WvB(d:POk p)(f:RLive p n x)(q:x.ζ=2)(c:1048576<N):EB N x.e=some (((jP x).e,()),()):=by
 obtain⟨I,J,K,s,L,M,O,P,Q,G,D,j,v,w,z,E,F,C,o,k,l,m⟩:=rtP x;have g:=d.ξ;obtain⟨S,T,U,V,W,X⟩:=f.sz g;obtain⟨A,B,a⟩:=f.fork q;have t:=f.pc;have u:=g.len;have h:x.fam.ο.length<=3:=by have:=a.len;have:=d.k3;omega
 have H:=a.len3 d.k3;have R:=a.readsL;unfold EB jP;simp only[s,j,o,k,l,m,yZ,Xd];rw[WnK h c,Wl8 a.μ h (λy r=>by
  obtain⟨i,hi,rfl⟩:=List.getElem_of_mem r;rw[(a.kid i hi).μ.len];omega) c,WnE (by have:=a.buf8;omega) c,Wn (by omega),mX (by omega),au (by omega),qF]
 by_cases b:x.fam.Cv=true
 .rw[Wf b,Wf b]
 .rw[We b,We b];simp only[ret,Xd,Wa];cases ho:kw x.fam
  .rw[We (by simp)];rfl
  .rw[Wf rfl];rfl
theorem WrL(A:k<w.η.length)(j:w.η[k]=x)(C:POk p)(c:RLive p n x)(g:x.ζ=4)(B:W2 w.mem=true):
  Em N w.e k=some (((Wo.put (w,io w x) k).e,()),()):=by
 obtain⟨y,g2,g3,g4,g5⟩:=woG A j;obtain⟨r0,r1,r2,r3,I,J,K,r7,r8,ga,Z,t,u,v,W,gB,gD,Y,gd,gE,gF,gG⟩:=rtP x;have f:=C.ξ;obtain⟨z1,z2,z3,z4,z5,z6⟩:=c.sz f;have i:=c.back (.inr g);obtain⟨m,q,P,Q,⟨X,jg⟩,R,S,T,U,V,s,kC,lV,nd,nf,lC⟩:=c.mk24 f i;have M:=c.pos g;have L:=c.pc;have O:=f.len;unfold Em io;simp only[Wp];obtain⟨E,F,G,H,i5⟩:=X6 i (by omega);rw[show P5 w.e=w.η.map Rt.e from rfl,y,v];simp only[Wh];rw[E,Wa,F,Wa];simp only[G,H,show S15 x.θ x.e=x.e from rfl];simp only[Xd,I,J,K,t,u,WX,yZ,show w.e.2.2.1.2=w.mem.2 from rfl];by_cases d:x.pos<x.last.2.1
 .rw[Wf d,Wf d];have h:x.pos.toNat<x.κ.length:=by omega
  have r:inb x.pos x.κ.length=true:=by unfold inb;simp;omega
  have z:Xc x.κ (Xa x.pos) ((0:Int),(0:Int))=al x.κ x.pos (0,0):=rfl;have D:0<=(al x.κ x.pos (0,0)).1/\(al x.κ x.pos (0,0)).1<=7:=by
   unfold al;rw[WA h];exact(c.κ _ (Xy h)).1
  rw[r,z,jE B D,show Xc w.mem.2 (Xa (al x.κ x.pos (0,0)).1) ((0:Int),((0:Int),(0:Int)))=aK w.mem (al x.κ x.pos (0,0)).1 from rfl,au (by omega)];simp only[Wa,eJ];by_cases a:(aK w.mem (al x.κ x.pos (0,0)).1).2.2=0
  .rw[Wf a];by_cases b:(aK w.mem (al x.κ x.pos (0,0)).1).2.1>x.rv
   .rw[Wf b,Wf (.inr b)];exact bf rfl rfl rfl
   .rw[We b,We (by omega)];exact bf rfl rfl rfl
  .rw[We a,Wf (.inl a)];exact bf rfl rfl rfl
 .rw[We d,We d];have l:(decide ((0:Int)<=x.last.2.1)&&decide (x.last.2.1<=(x.κ.length:Int)))=true:=by simp;omega
  have o:(decide ((0:Int)<=x.last.2.2.1)&&decide (x.last.2.2.1<=(x.ι.length:Int)))=true:=by simp;omega
  rw[l,o,yY (by rw[dA];omega),yY (by rw[dA];omega),mX (by rw[s.len];omega),au (by omega)];simp only[Wa,ret,Xd];exact bf rfl rfl rfl
theorem WqP(y:k<w.η.length)(p:w.η[k]=x)(S:k<=8)(m:CmOk x.cm)(o:W2 w.mem=true)(R:w.Ck.length<=500000)(n:1048576<N):
  Eo N w.e (k:Int)=some (((Wo.put (gb w x k) k).e,()),()):=by
 obtain⟨H,r,I,s,J⟩:=woG y p;obtain⟨T,U,V,W,X,Y,Z,A,r8,t,G,C,D,E,F,K,L,q,Q,M,O,P⟩:=rtP x;have l:=LK m o;unfold Eo gb;simp only[Wp,fV];rw[show P5 w.e=w.η.map Rt.e from rfl,s,r,au (by omega),Xj];simp only[Wa,A,t,q,show w.e.2.2.1=w.mem from rfl,show Q6 w.e=w.Ck from rfl];rw[qF];by_cases j:x.Cp=true
 .rw[Wf j,Wf j];obtain⟨b,v⟩:=Wto (N:=N) m n;rw[v];simp only[Xd,Wu,show(fY x.cm).e.2.2.1=(fY x.cm).ζ from rfl];by_cases a:(fY x.cm).ζ=8
  .rw[Wf a,Wf a];have:S20 (fY x.cm).e (S11 false x.e)=Rt.e {x with cm:=fY x.cm,Cp:=false}:=rfl;rw[this,yZ];exact bf rfl rfl rfl
  .rw[We a,We a];exact bf rfl rfl rfl
 .rw[We j,We j,WnU m o n];simp only[Xd];obtain⟨c,c',z⟩:∃c c',iP w.mem x.cm=(c,c'):=⟨_,_,rfl⟩;rw[z]at l⊢;simp only at l⊢;have B:mE N (P5 c'.e)=ret c'.ψ:=yY (by have:=l.1.plen;show c'.ψ.length<=1048576;omega);have u:S20 c'.e x.e=Rt.e {x with cm:=c'}:=rfl;rw[B,u,yZ];simp only[ret,Xd];rw[Wn (by simp;omega)];simp only[Wa,Wu,WX,show c'.e.2.2.1=c'.ζ from rfl,show(Cm.e x.cm).2.2.1=x.cm.ζ from rfl,show P4 c'.e=c'.wv from rfl];unfold zv;simp only;by_cases g:x.cm.ζ<=3
  .rw[Wf g];by_cases i:c'.ζ=4
   .rw[Wf i,We (by omega),We (by omega),Wf (show x.cm.ζ<=3/\c'.ζ=4 from⟨g,i⟩),We (by omega),We (by omega)];exact bf (w':={w with mem:=c,Ck:=w.Ck++ [(c'.wv,(k:Int)+1,c'.ψ)]}) rfl rfl rfl
   .rw[We i,We (show¬(x.cm.ζ<=3/\c'.ζ=4)fromλh=>i h.2)];by_cases a:c'.ζ=8
    .rw[Wf a,Wf a];exact bf (w':={w with mem:=c}) rfl rfl rfl
    .rw[We a,We a];by_cases f:c'.ζ=6
     .rw[Wf f,Wf f];by_cases d:x.Ct=2
      .rw[Wf d,Wf d];exact bf (w':={w with mem:=c}) rfl rfl rfl
      .rw[We d,We d];exact bf (w':={w with mem:=c}) rfl rfl rfl
     .rw[We f,We f];exact bf (w':={w with mem:=c}) rfl rfl rfl
  .rw[We g,We (show¬(x.cm.ζ<=3/\c'.ζ=4)fromλh=>g h.1)];by_cases a:c'.ζ=8
   .rw[Wf a,Wf a];exact bf (w':={w with mem:=c}) rfl rfl rfl
   .rw[We a,We a];by_cases f:c'.ζ=6
    .rw[Wf f,Wf f];by_cases d:x.Ct=2
     .rw[Wf d,Wf d];exact bf (w':={w with mem:=c}) rfl rfl rfl
     .rw[We d,We d];exact bf (w':={w with mem:=c}) rfl rfl rfl
    .rw[We f,We f];exact bf (w':={w with mem:=c}) rfl rfl rfl
end
section
section
variable{ξ:List Opn}{pc gk rl wl ul rL na rM:Nat}{ms q:List RM}{y:RM}{n n':Int}{x:Rt}{w:Wo}{p:Pg}{k:Nat}{o:Opn}
theorem UC(ξ:List Opn){a b:Nat}(h:a<=b):frk ξ a<=frk ξ b:=by
 simp_all [frk,List.Sublist.countP_le,List.take_sublist_take_left]
theorem RMk.mono(h:RMk ξ pc ms rl wl ul)(f:stk ξ gk=stk ξ pc)(g:rl<=rL)(i:wl<=na)(j:ul<=rM):RMk ξ gk ms rL na rM:=
 ⟨by rw[f];exact h.pcs,λq e=>by obtain⟨a,b,c,d⟩:=h.each q e;grind,h.up⟩
theorem RMk.cut(h:RMk ξ pc ms rl wl ul)(d:ms=q++ [y])(k:y.2.1<=rL)(l:y.2.2.1<=na)(m:y.2.2.2.1<=rM):RMk ξ pc ms rL na rM:=by
 refine⟨h.pcs,λa b=>?_,h.up⟩;obtain⟨f,g,i,j⟩:=h.each a b;have e:a.2.1<=y.2.1/\a.2.2.1<=y.2.2.1/\a.2.2.2.1<=y.2.2.2.1:=by
  have c:=h.up;rw[d]at b c;rcases Xp.1 b with b|b
  .exact(d0.1 c).2.2 a b y (by simp)
  simp_all
 grind
theorem RMk.begin(h:RMk ξ pc ms rl wl ul)(g:pc<ξ.length)(e:ξ[pc].1=8){μ:List Int}(p:Vals 4 μ)(m:rl<=pc+72*frk ξ pc)(n:wl<=pc+8)(o:ul<=pc):
  RMk ξ (pc+1) (ms++ [((pc:Int),(rl:Int),(wl:Int),(ul:Int),μ)]) rl wl ul:=by
 refine⟨?_,?_,?_⟩
 .rw[pw g e,Xx,Xx,h.pcs];rfl
 .intro q c;rcases Xp.1 c with c|c
  .exact h.each q c
  grind
 .refine d0.2 ⟨h.up,List.pairwise_singleton _ _,λa f b d=>?_⟩;rw[cw]at d;subst d;obtain⟨i,j,k,l⟩:=h.each a f;simp_all
theorem RMk.drop(h:RMk ξ pc ms rl wl ul)(b:ms=q++ [y])(j:stk ξ gk=(stk ξ pc).dropLast)(d:y.2.1<=rL)(f:y.2.2.1<=na)(g:y.2.2.2.1<=rM):RMk ξ gk q rL na rM:=by
 have c:=h.cut b d f g;subst b;have e:=h.pcs;refine⟨?_,λa i=>c.each a (List.mem_append_left _ i),(d0.1 h.up).1⟩
 grind
theorem RLive.wk(h:RLive p n x)(e:n<=n'):RLive p n' x:={h with fork:=λd=>by obtain⟨a,b,c⟩:=h.fork d;exact⟨a,b,c.wk e⟩}
theorem ROk.wk(h:ROk p n x)(b:n<=n'):ROk p n' x:={h with χ:=by have:=h.χ;omega,Cn:=λa=>(h.Cn a).wk b}
theorem RLive.on(j:CC p.1)(h:RLive p n x)(m:x.ζ=1){i:Nat}(hi:i<p.1.length)(g:x.pc=i){μ:List Int}{κ ι:List Rw}{θ:List RM}{υ:List Un}{Co:Bool}{pb:Pb}{gk:Nat}
  (r:gk<=p.1.length) (f:i<gk) (d:Vals 4 μ) (e:hG κ) (k:κ.length<=x.κ.length+1) (b:hG ι) (s:ι.length<=x.ι.length+1) (l:υ.length<=x.υ.length+1) (q:RMk p.1 gk θ κ.length ι.length υ.length) (c:Co=true->dR pb=true):
  RLive p n {x with μ:=μ,κ:=κ,ι:=ι,θ:=θ,υ:=υ,Co:=Co,pb:=pb,pc:=(gk:Int)} where
 pc:=by simp_all
 Cr:=h.Cr
 rv:=h.rv
 μ:=d
 κ:=e
 rl:=by
  have a:=h.rl;have o:=UC p.1 (show i<=gk by omega)
  grind
 ι:=b
 wl:=by have:=h.wl;grind
 ul:=by have:=h.ul;grind
 θ:=by simp_all
 pb:=c
 fork:=λa=>by simp_all
 back:=λa=>by simp_all
 Cw:=h.Cw
 pos:=λa=>by simp_all
 unw:=λa=>by simp_all
theorem Vals.le4{r:List Int}(h:Vals 4 r):r.length<=4:=Nat.le_of_eq h.len
theorem y5(h:ROk p n x):ROk p n (gq x) where
 ζ:=by show(0:Int)<=6/\(6:Int)<=8;omega
 χ:=h.χ
 Cn:=λh=>by(change (1:Int)<=6/\(6:Int)<=4 at h;omega)
 comm:=λh=>by(change (6:Int)=5 at h;omega)
 υ:=h.υ
 ul:=h.ul
 rg:=by show([]:List Int).length<=4;simp
 ord:=by show([]:List Int).length<=3;simp
theorem Rs(h:ROk p n x)(a:RLive p n x):ROk p n (kp x):=by
 unfold kp;split
 .exact y5 h
 .rename_i hc;exact{h with
   ζ:=by simp_all
   Cn:=λ_=>{a with
    Cr:=by have:=a.Cr;grind
    pb:=λh=>by cases h
    fork:=λh=>by simp_all
    back:=λ_=>by simp_all
    pos:=λh=>by simp_all
    unw:=λh=>by simp_all}
   comm:=λh=>by simp_all}
structure QOk(p:Pg)(n:Int)(w:Wo)(q:Wo×Rt):Prop where
 root:ROk p n q.2
 mem:W2 q.1.mem=true
 π:ShOk q.1.π
 holds:HOk q.1.holds
 Ck:q.1.Ck.length<=w.Ck.length+1
 histE:∀h∈q.1.Ck,h∈w.Ck\/HE h
 η:q.1.η=w.η
 now:q.1.now=w.now
structure GOk(w:Wo):Prop where
 mem:W2 w.mem=true
 π:ShOk w.π
 holds:HOk w.holds
theorem GOk.st(h:GOk w){y:Rt}(b:ROk p n y):QOk p n w (w,y):=⟨b,h.mem,h.π,h.holds,by simp,λ_ a=>.inl a,rfl,rfl⟩
theorem GOk.qt(h:GOk w){y:Rt}(b:ROk p n y)(t:Int):QOk p n w ({w with ω:=t},y):=⟨b,h.mem,h.π,h.holds,by simp,λ_ a=>.inl a,rfl,rfl⟩
theorem Vx(h:GOk w)(b:ROk p n x):QOk p n w (eA w x k):=by
 unfold eA;refine h.qt ?_ _;exact{b with
  ζ:=by simp_all
  Cn:=λh=>by simp_all
  comm:=λh=>by simp_all
  υ:=λu a=>by cases a
  ul:=by simp}
theorem Tn(h:GOk w)(a:ROk p n x)(d:0<=x.rv/\x.rv<=1000000)(e:k<=8){b:Int}:QOk p n w (iM w x k b):=by
 unfold iM;simp only;generalize (if b=2 then []else x.ι)=ε;split
 .exact Vx (x:={x with Ct:=b,Cy:=x.rv}) h
   {ζ:=a.ζ,χ:=a.χ,Cn:=λc=>{a.Cn c with},comm:=a.comm,υ:=a.υ,ul:=a.ul,rg:=a.rg,ord:=a.ord}
 .refine h.st ?_;exact{a with
   ζ:=by simp_all
   Cn:=λh=>by simp_all
   comm:=λ_=>Wud (by omega) d}
theorem Wsp{α:Type}{l:List α}(h:l.length≠0)(d:α):iW l d∈l:=by
 grind [iW,WA,Xy]
theorem Mg(h:GOk w)(b:ROk p n x)(o:x.υ.length≠0)(i:1<=x.ζ/\x.ζ<=4->CC p.1/\(x.θ.length≠0->x.last.2.2.2.1<x.υ.length)):QOk p n w (fH w x):=by
 unfold fH;refine⟨?_,h.mem,Wrl h.π (b.υ _ (Wsp o _)),h.holds,by simp,λ_ c=>.inl c,rfl,rfl⟩;have H:x.υ.dropLast.length=x.υ.length-1:=AC;exact{b with
  Cn:=λc=>by
   have a:=b.Cn c;obtain⟨f,g⟩:=i c;exact{a with
    ul:=by have:=a.ul;grind
    unw:=λk=>by have:=a.unw k;show(x.υ.dropLast.length:Int)<=x.last.2.2.2.1;omega
    θ:=by
     show RMk p.1 x.pc.toNat x.θ x.κ.length x.ι.length x.υ.dropLast.length;by_cases e:x.θ.length=0
     .have:x.θ= []:=List.eq_nil_of_length_eq_zero e;have d:=a.θ;rw[this]at d⊢;exact⟨d.pcs,(λq l=>by cases l),d.up⟩
     .obtain⟨m,q,j,t,⟨D,F⟩,v,y,z,A,B,C,r,s,I,J,G⟩:=a.mk24 f e;have:=g e;exact a.θ.cut j r.2.2 s.2.2 (by omega)}
  υ:=λu E=>b.υ u (by grind [List.dropLast_eq_take,nI])
  ul:=by have:=b.ul;grind}
theorem Wut(e:CC p.1)(h:GOk w)(g:ROk p n x)(a:RLive p n x)(m:x.ζ=1){i:Nat}(hi:i<p.1.length)(d:x.pc=i)(t:p.1[i].1=5):ROk p n (mn w x p.1[i]):=by
 have z:=As (e.ok i hi).1 t;have u:0<=p.1[i].2.2.1/\p.1[i].2.2.1<=7:=by grind [bO]
 have f:=a.θ;rw[d,Xj]at f;have j:stk p.1 (i+1)=stk p.1 i:=iQ hi (by omega) (by omega);have l:x.pc+1=((i+1:Nat):Int):=by omega
 unfold mn;cases hlr:c9 x.ι p.1[i].2.2.1 with
 |some v=>
  have q:=a.ι _ (Lz hlr).2;simp only[l];exact{g with rg:=Vals.le4 (a.μ.set _ q.2),Cn:=λ_=>RLive.on e a m hi d (by omega) (by omega) (a.μ.set _ q.2) a.κ (by omega) a.ι (by omega) (by omega) (f.mono j (by omega) (by omega) (by omega)) a.pb}
 |none=>
  simp only;have k:=TQ (rv:=x.rv) h.mem (MN a.pb u);generalize cS w.mem x.rv (if x.Co=true then x.pb else(p.1[i].2.2.1,0,0,0))=b at*;have o:=y1.1 k.1;have s:RLive p n {x with Co:=true,pb:=b}:={a with pb:=λ_=>k.1};have y:ROk p n {x with Co:=true,pb:=b}:={g with Cn:=λ_=>s};split
  .grind [Rs]
  .split
   .simp only[l];refine{g with rg:=Vals.le4 (a.μ.set _ o.2.2.2),Cn:=λ_=>RLive.on e a m hi d (by omega) (by omega) (a.μ.set _ o.2.2.2) (λr c=>?_) (by simp) a.ι (by omega) (by omega) (f.mono j (by simp) (by omega) (by omega)) (λh=>by cases h)};rcases Xp.1 c with c|c
    .exact a.κ r c
    simp_all
   omega
theorem WtT(c:CC p.1)(h:GOk w)(g:ROk p n x)(a:RLive p n x)(t:x.ζ=1)(u:k<=8){i:Nat}(hi:i<p.1.length)(b:x.pc=i):QOk p n w (q5 w x k p.1):=by
 have f:=a.θ;rw[b,Xj]at f;unfold q5;split
 .exact Tn h g a.rv u
 .rename_i hz;obtain⟨m,q,j,l,⟨B,D⟩,z,d,A,o,s,e,E,G,H,I,F⟩:=a.mk24 c hz;split
  .grind [Mg]
  .refine h.st ?_;rw[s];simp only[l,Xj,←Int.natCast_succ];have y:=d.len;have C:(aj x.last.2.2.1.toNat x.ι).length=x.last.2.2.1.toNat:=by simp_all
   refine{g with rg:=Vals.le4 (e.set _ (by omega)),Cn:=λ_=>RLive.on c a t hi b (gk:=ny p.1 m+1) (by omega) (by omega) (e.set _ (by omega)) a.κ (by omega) (λr v=>a.ι r (nI v)) (by omega) (by omega) ?_ a.pb};exact f.drop j (by rw[d.st,o,b];rfl) (by omega) (by omega) (by omega)
theorem WsZ(d:CC p.1)(h:GOk w)(f:ROk p n x)(a:RLive p n x)(m:x.ζ=1)(E:k<=8){i:Nat}(hi:i<p.1.length)(g:x.pc=i)(v:12<=p.1[i].1):QOk p n w (iN w x k p.1[i]):=by
 have z:=(d.ok i hi).1;have j:=a.θ;rw[g,Xj]at j;have l:stk p.1 (i+1)=stk p.1 i:=iQ hi (by omega) (by omega);have t:x.pc+1=((i+1:Nat):Int):=by omega
 have D:=a.ul;have C:=d.len;have q:(0<=(cV p.1[i]).1/\(cV p.1[i]).1<=8)/\1<=(cV p.1[i]).2/\(cV p.1[i]).2<=2:=by
  grind [cV,nE,dH,zV,zD,lU,DT]
 unfold iN;cases b:mb w.holds ((k:Int)+1) (cV p.1[i]).1 (cV p.1[i]).2 with
 |none=>exact h.st (Rs f a)
 |some hs=>
  have r:HOk hs:=by
   unfold mb at b;split at b
   .injection b with b;subst b;exact Wq1 h.holds (by omega) q.1 q.2 ‹_›
   .cases b
  obtain⟨s,c,A,B⟩:=Wrc h.π a.μ z v;simp only[t];refine⟨?_,h.mem,s,r,by simp,λ_ y=>.inl y,rfl,rfl⟩;by_cases o:(eF w.π p.1[i] x.μ).2.2.1=0
  .simp only[Wf o];exact{f with rg:=Vals.le4 c,Cn:=λ_=>RLive.on d a m hi g (by omega) (by omega) c a.κ (by omega) a.ι (by omega) (by omega) (j.mono l (by omega) (by omega) (by omega)) a.pb}
  .simp only[We o];refine{f with rg:=Vals.le4 c,Cn:=λ_=>RLive.on d a m hi g (by omega) (by omega) c a.κ (by omega) a.ι (by omega) (by simp) (j.mono l (by omega) (by omega) (by simp)) a.pb,υ:=λu e=>?_,ul:=by simp;omega};rcases Xp.1 e with e|e
   .exact f.υ u e
   simp_all
theorem Va(E:POk p)(h:GOk w)(e:ROk p n x)(f:x.ζ=1)(t:k<=8)(C:0<=n):QOk p n w (fL w x k p):=by
 have a:=e.Cn (by omega);have c:=E.ξ;unfold fL;split
 .exact Tn h e a.rv t
 .obtain⟨i,b,d,D⟩:=u7 (l:=p.1) a.pc.1 (by omega);simp only[D];obtain⟨u,Y,P⟩:=c.ok i b;have g:=a.θ;rw[d,Xj]at g;have s:x.pc+1=((i+1:Nat):Int):=by omega
  have z:=a.rl;have Z:=a.wl;have N:=a.ul;rw[d,Xj]at z;split
  .exact h.st (Wut c h e a f b d ‹_›)
  .split
   .grind [WtT]
   .split
    .rename_i iU;refine h.st ?_;exact{e with
      ζ:=by simp_all
      Cn:=λ_=>{a with
       fork:=λ_=>⟨by simp_all,by simp_all,Wtc a.μ C⟩
       back:=λh=>by simp_all
       pos:=λh=>by simp_all
       unw:=λh=>by simp_all}
      comm:=λh=>by simp_all}
    .split
     .grind [WsZ]
     .split
      .refine h.st ?_;have t:=Aj u ‹_›;have o:stk p.1 (i+1)=stk p.1 i:=iQ b (by omega) (by omega);simp only[s];refine{e with Cn:=λ_=>RLive.on c a f b d (by omega) (by omega) a.μ a.κ (by omega) (λr j=>?_) (by simp) (by omega) (g.mono o (by omega) (by simp) (by omega)) a.pb};rcases Xp.1 j with j|j
       .exact a.ι r j
       .rw[cw]at j;subst j;have:=t.1;unfold bO at this;exact⟨by simp_all,a.μ.get _⟩
      .split
       .refine h.st ?_;obtain⟨G,s2⟩:=c.sk i b ‹_›;have t:=Al u ‹_›;have o:stk p.1 (i+1)=stk p.1 i:=iQ b (by omega) (by omega);have F:stk p.1 (i+1+p.1[i].2.2.1.toNat)=stk p.1 i:=by grind [Ug]
        by_cases y:al x.μ p.1[i].2.1 0=0
        .simp only[Wf y,show x.pc+p.1[i].2.2.1+1=((i+1+p.1[i].2.2.1.toNat:Nat):Int) by omega];exact{e with Cn:=λ_=>RLive.on c a f b d G (by omega) a.μ a.κ (by omega) a.ι (by omega) (by omega) (g.mono F (by omega) (by omega) (by omega)) a.pb}
        .simp only[We y,s];exact{e with Cn:=λ_=>RLive.on c a f b d (by omega) (by omega) a.μ a.κ (by omega) a.ι (by omega) (by omega) (g.mono o (by omega) (by omega) (by omega)) a.pb}
       .split
        .refine h.st ?_;simp only[s];rw[d];exact{e with Cn:=λ_=>RLive.on c a f b d (by omega) (by omega) a.μ a.κ (by omega) a.ι (by omega) (by omega) (g.begin b ‹_› a.μ (by omega) (by omega) (by omega)) a.pb}
        .split
         .rename_i h9;refine h.st ?_;have v:x.θ.length≠0:=λv=>by
           have f:=Wq Xb g.pcs;simp only[Xt,v]at f;have Q:=eD c.up i (by omega);have R:=c.up i b
           grind [fa,pt]
          obtain⟨m,q,A,H,⟨O,S⟩,I,J,K,L,B,M,T,V,W,X,U⟩:=a.mk24 c v;simp only[s];rw[B];exact{e with rg:=Vals.le4 (a.μ.set _ (by omega)),Cn:=λ_=>RLive.on c a f b d (by omega) (by omega) (a.μ.set _ (by omega)) a.κ (by omega) a.ι (by omega) (by omega) (g.drop A (rq b h9) (by omega) (by omega) (by omega)) a.pb}
         .refine h.st ?_;have o:stk p.1 (i+1)=stk p.1 i:=iQ b (by omega) (by omega);simp only[s];exact{e with rg:=Vals.le4 (Mk u (by omega) (by omega) a.μ),Cn:=λ_=>RLive.on c a f b d (by omega) (by omega) (Mk u (by omega) (by omega) a.μ) a.κ (by omega) a.ι (by omega) (by omega) (g.mono o (by omega) (by omega) (by omega)) a.pb}
theorem Wvt(h:GOk w)(a:ROk p n x)(c:x.ζ=0)(f:0<=(p.1.length:Int)):QOk p n w (fI w x k):=by
 have d:=WE h.mem;unfold fI;split
 .exact h.st a
 .split
  .exact h.qt a _
  .split
   .exact h.st a
   .refine h.st ?_;exact{
     ζ:=by simp_all
     χ:=a.χ
     Cn:=λ_=>{
      pc:=by simp_all
      Cr:=by simp_all
      rv:=⟨d.2.1,d.2.2.1⟩
      μ:=⟨rfl,λv g=>by simp_all⟩
      κ:=λr b=>by cases b
      rl:=by simp;omega
      ι:=λr b=>by cases b
      wl:=by simp
      ul:=by simp
      θ:=⟨by simp[stk],(λq e=>by cases e),List.Pairwise.nil⟩
      pb:=λh=>by cases h
      fork:=λh=>by simp_all
      back:=λh=>by simp_all
      Cw:=by simp_all
      pos:=λh=>by simp_all
      unw:=λh=>by simp_all}
     comm:=λh=>by simp_all
     υ:=λu c=>by cases c
     ul:=by simp
     rg:=by simp
     ord:=by simp}
theorem WnF{codes:List (List Opn)}{f:Fm}(h:FOk codes n f):hG (y9 f)/\(y9 f).length<=8:=by
 refine⟨λr b=>?_,by unfold y9;rw[Xt];exact h.buf8⟩;obtain⟨e,a,rfl⟩:=Xv.1 b;have:=h.bufE e a;omega
theorem Sz{codes:List (List Opn)}{f:Fm}(h:FOk codes n f)(c:codes.length<=3):Vals 4 (ui f):=by
 have d:=h.len;have b:=h.μ;unfold ui;rw[Wf ⟨m0.2 b,by omega⟩];refine⟨by simp[b.len];omega,λv a=>?_⟩;rcases Xp.1 a with a|a
 .obtain⟨y,e,rfl⟩:=Xv.1 a;unfold VV;split
  .rename_i hc;exact(m0.1 hc.2).get _
  .omega
 .exact b.val v (List.mem_of_mem_drop a)
theorem Wuo(e:POk p)(f:ROk p n x)(w:x.ζ=2):ROk p n (jP x):=by
 have a:=f.Cn (by omega);have g:=e.ξ;obtain⟨u,j,b⟩:=a.fork w;obtain⟨i,k,s,z⟩:=u7 (l:=p.1) a.pc.1 u;rw[z]at j;have d:=a.θ;have t:=a.rl;have D:=a.ul;rw[s,Xj]at d t;unfold jP;split
 .exact y5 f
 .split
  .have hz:x.θ= []:=by
    have v:=Wq Xb d.pcs;simp only[Xt]at v;have E:=eD g.up i (by omega);have F:=(g.fk i k j).1;simp_all
   have o:stk p.1 (i+1)=stk p.1 i:=iQ k (by omega) (by omega);have m:=WnF b;have B:=b.len3 e.k3;have C:=b.readsL;have y:frk p.1 (i+1)=frk p.1 i+1:=by grind [F1]
   exact{f with
    ζ:=by simp_all
    rg:=(Sz b e.k3).le4
    ord:=B
    Cn:=λ_=>{a with
     pc:=by grind
     μ:=Sz b e.k3
     κ:=λr c=>by
      rcases Xp.1 c with c|c
      .exact a.κ r c
      .exact b.readsE r c
     rl:=by
      grind
     ι:=m.1
     wl:=by grind
     ul:=by grind
     θ:=by
      show RMk p.1 (x.pc+1).toNat x.θ _ _ _;rw[show(x.pc+1).toNat=i+1 by omega];rw[hz]at d⊢;exact⟨by rw[o];exact d.pcs,(λq A=>by cases A),List.Pairwise.nil⟩
     fork:=λh=>by simp_all
     back:=λh=>by simp_all
     pos:=λh=>by simp_all
     unw:=λh=>by simp_all}
    comm:=λh=>by simp_all}
  .exact f
theorem WrD(c:POk p)(h:GOk w)(b:ROk p n x)(f:x.ζ=3):QOk p n w (gU w x):=by
 have a:=b.Cn (by omega);have d:=a.back (.inl f);obtain⟨m,q,g,i,⟨t,u⟩,j,k,l,o,r,s,v,z,A,B,y⟩:=a.mk24 c.ξ d;have e:=WE h.mem;unfold gU;split
 .exact Mg h b (by omega) λ_=>⟨c.ξ,λ_=>by omega⟩
 .refine h.st ?_;exact{b with
   ζ:=by simp_all
   Cn:=λ_=>{a with
    fork:=λh=>by simp_all
    back:=λ_=>d
    Cw:=⟨e.2.1,e.2.2.1⟩
    pos:=λ_=>by(show(0:Int)<=0/\(0:Int)<=x.last.2.1;omega)
    unw:=λ_=>by(show(x.υ.length:Int)<=x.last.2.2.2.1;omega)}
   comm:=λh=>by simp_all}
theorem WqR(v:POk p)(h:GOk w)(b:ROk p n x)(d:x.ζ=4):ROk p n (io w x):=by
 have a:=b.Cn (by omega);have y:=a.back (.inr d);have F:=a.pos d;obtain⟨m,q,f,g,⟨u,z⟩,G,H,I,s,J,i,A,L,M,N,B⟩:=a.mk24 v.ξ y;unfold io;split
 .simp only;split
  .exact y5 b
  .exact{b with Cn:=λ_=>{a with pos:=λ_=>by(show 0<=x.pos+1/\x.pos+1<=x.last.2.1;omega)}}
 .rename_i eh;have l:stk p.1 (m+1)=stk p.1 x.pc.toNat:=by
   have E:=a.pc;rw[pw u z,s];rcases yt (stk p.1 x.pc.toNat)with K|⟨t,j,k⟩
   .have h1:=Wq Xb a.θ.pcs;simp_all
   .have h1:=a.θ.pcs;rw[f,k]at h1;simp only[Xx,List.map_cons,List.map_nil]at h1;have c:=(List.append_inj' h1 rfl).2;injection c with c;rw[g]at c;rw[k,List.dropLast_concat,show m=j by omega]
  have O:=UC p.1 (show m<=m+1 by omega);rw[g,Xj]at A;have o:x.last.1+1=((m+1:Nat):Int):=by omega
  have C:(aj x.last.2.1.toNat x.κ).length=x.last.2.1.toNat:=by simp_all
  have D:(aj x.last.2.2.1.toNat x.ι).length=x.last.2.2.1.toNat:=by simp_all
  exact{b with
   ζ:=by simp_all
   rg:=i.le4
   Cn:=λ_=>{a with
    pc:=by grind
    rv:=a.Cw
    μ:=i
    κ:=λr e=>a.κ r (nI e)
    rl:=by
     grind
    ι:=λr e=>a.ι r (nI e)
    wl:=by grind
    ul:=by
     show(x.υ.length:Int)<=x.last.1+1;have:=a.unw d;omega
    θ:=by
     show RMk p.1 (x.last.1+1).toNat x.θ (aj x.last.2.1.toNat x.κ).length (aj x.last.2.2.1.toNat x.ι).length x.υ.length;rw[o,Xj,C,D];exact(a.θ.cut f (by omega) (by omega) B).mono l (Xm _) (Xm _) (Xm _)
    fork:=λh=>by simp_all
    back:=λh=>by omega
    Cw:=by simp_all
    pos:=λh=>by simp_all
    unw:=λh=>by simp_all}
   comm:=λh=>by simp_all}
end
end
section
section
variable{N:Nat}{w:Wo}{k:Nat}{x:Rt}{p:Pg}{n:Int}{ps:List Pg}
theorem Wrb(h:GOk w)(b:ROk p n x)(e:x.ζ=5)(g:k<=8):QOk p n w (gb w x k):=by
 have c:=b.comm e;unfold gb;split
 .split
  .exact h.st (y5 b)
  .refine h.st ?_;exact{b with Cn:=λa=>by simp_all,comm:=λ_=>Wrm c}
 .have bL:=LK c h.mem;obtain⟨d,c',f⟩:∃d c',iP w.mem x.cm=(d,c'):=⟨_,_,rfl⟩;simp only[f]at bL⊢;refine⟨?_,bL.2,h.π,h.holds,?_,?_,rfl,rfl⟩
  .have hy:ROk p n {x with cm:=c'}:={b with Cn:=λa=>by simp_all,comm:=λ_=>bL.1};unfold zv;simp only;split
   .exact y5 hy
   .split
    .have iw:(if x.Ct=2 then(6:Int)else 7)=6\/(if x.Ct=2 then(6:Int)else 7)=7:=by split<;>simp
     generalize (if x.Ct=2 then(6:Int)else 7)=ph at*;exact{b with
      ζ:=by grind
      Cn:=λa=>by grind
      comm:=λa=>by simp_all}
    .exact hy
  .simp only;split<;>simp
  .simp only;intro h a;split at a
   .rcases Xp.1 a with a|a
    .grind
    .rw[cw]at a;subst a;exact .inr ⟨bL.1.plen,bL.1.ε,by grind,by grind⟩
   simp_all
theorem TY(l:POk p)(h:GOk w)(m:ROk p n x)(y:k<=8)(z:0<=n):QOk p (n+1) w (hF w x k p):=by
 have a:=m.wk (show n<=n+1 by omega);unfold hF;by_cases i:x.Cp=true/\1<=x.ζ/\x.ζ<=4
 .rw[Wf i];exact h.st (y5 a)
 rw[We i];by_cases q:x.ζ=0
 .simp_all [Wf,Wvt]
 rw[We q];by_cases e:x.ζ=1
 .rw[Wf e];grind [Va]
 rw[We e];by_cases c:x.ζ=2
 .rw[Wf c];exact h.st (Wuo l a c)
 rw[We c];by_cases r:x.ζ=3
 .simp_all [Wf,WrD]
 rw[We r];by_cases d:x.ζ=4
 .rw[Wf d];exact h.st (WqR l h a d)
 rw[We d];by_cases s:x.ζ=5
 .simp_all [Wf,Wrb]
 rw[We s];by_cases f:x.ζ=6
 .rw[Wf f];by_cases o:x.υ.length>0
  .rw[Wf o];grind [Mg]
  .rw[We o];refine h.st ?_;exact{a with
    ζ:=by simp_all
    Cn:=λb=>by simp_all
    comm:=λb=>by simp_all}
 rw[We f];by_cases g:x.ζ=7
 .rw[Wf g];have t:GOk {w with holds:=WW w.holds ((k:Int)+1)}:=⟨h.mem,h.π,RX h.holds⟩;by_cases j:x.Ct=0
  .rw[Wf j];refine⟨?_,h.mem,h.π,RX h.holds,by simp,λ_ b=>.inl b,rfl,rfl⟩;exact{
    ζ:=by simp_all
    χ:=by have:=m.χ;grind
    Cn:=λb=>by simp_all
    comm:=λb=>by simp_all
    υ:=λu v=>by cases v
    ul:=by simp
    rg:=by simp
    ord:=by simp}
  .rw[We j];have:=Vx (k:=k) t a;exact⟨this.root,this.mem,this.π,this.holds,this.Ck,this.histE,this.η,this.now⟩
 .rw[We g];exact h.st a
theorem Wuu(b:k<w.η.length)(a:w.η[k]=x)(T:w.η.length<=8)(l:POk p)(h:GOk w)(c:ROk p n x)(R:n<=200000)(Q:w.Ck.length<=500000)(d:1048576<N):
  Er N w.e (k:Int) p=some (((Wo.put (hF w x k p) k).e,()),()):=by
 obtain⟨g1,K,L,M,g5⟩:=woG b a;obtain⟨r0,r1,r2,r3,r4,r5,r6,r7,r8,O,fy,eG,eN,eO,J,gB,gD,fj,gd,gE,gF,gG⟩:=rtP x;have D:k<=8:=by omega
 have eH:=Ml b a;have Ce:=c.χ;have yq:=c.ul;have re:=tU h.holds;unfold Er hF;simp only[Wp];rw[show P5 w.e=w.η.map Rt.e from rfl,M,K,au (by omega),au (show 0<=x.e.2.1/\x.e.2.1<=1000000 by omega)];simp(maxSteps:=4000000) only[L,r0,r7,O,J,Wa,WK,ret,Xd,yZ,Wu,WX,show w.e.2.2.1.1=w.mem.1 from rfl,Wh,show P4 w.e=w.holds from rfl];rw[WhV h.holds (by omega) d];simp only[ret,Xd];have v:S4 (WW w.holds ((k:Int)+1)) w.e=Wo.e {w with holds:=WW w.holds ((k:Int)+1)}:=rfl;have E:S5 (Xe (w.η.map Rt.e) (Xa (k:Int)) x.e) (S4 (WW w.holds ((k:Int)+1)) w.e)=Wo.e {w with holds:=WW w.holds ((k:Int)+1)}:=(woG (w:={w with holds:=WW w.holds ((k:Int)+1)}) b a).2.2.1;rw[E,Vk (w:={w with holds:=WW w.holds ((k:Int)+1)}) b a (by omega),Wur b a T d];have U:∀(A:Option ((Y_World×Unit)×Unit)),A=some (((Wo.put (
   if x.ζ=0 then fI w x k else
   if x.ζ=1 then fL w x k p else
   if x.ζ=2 then(w,jP x)else
   if x.ζ=3 then gU w x else
   if x.ζ=4 then(w,io w x)else
   if x.ζ=5 then gb w x k else
   if x.ζ=6 then(if x.υ.length>0 then fH w x else(w,{x with ζ:=7}))else
   if x.ζ=7 then
    (if x.Ct=0 then({w with holds:=WW w.holds ((k:Int)+1)},{χ:=x.χ+1})
     else eA {w with holds:=WW w.holds ((k:Int)+1)} x k)
   else(w,x)) k).e,()),())->¬(x.Cp=true/\1<=x.ζ/\x.ζ<=4)->A=some (((Wo.put (
   if x.Cp=true/\1<=x.ζ/\x.ζ<=4 then(w,gq x)else
   if x.ζ=0 then fI w x k else
   if x.ζ=1 then fL w x k p else
   if x.ζ=2 then(w,jP x)else
   if x.ζ=3 then gU w x else
   if x.ζ=4 then(w,io w x)else
   if x.ζ=5 then gb w x k else
   if x.ζ=6 then(if x.υ.length>0 then fH w x else(w,{x with ζ:=7}))else
   if x.ζ=7 then
    (if x.Ct=0 then({w with holds:=WW w.holds ((k:Int)+1)},{χ:=x.χ+1})
     else eA {w with holds:=WW w.holds ((k:Int)+1)} x k)
   else(w,x)) k).e,()),()):=λA hA R=>by grind
 have V:(if x.ζ=0 then(some (((Wo.put (fI w x k) k).e,()),()):Option ((Y_World×Unit)×Unit)).bind (λW=>some ((W.1.1,()),()))
   else if x.ζ=1 then(EA N w.e (k:Int) p).bind (λX=>some ((X.1.1,()),()))
   else if x.ζ=2 then(EB N x.e).bind (λY=>some ((S5 (Xe (w.η.map Rt.e) (Xa (k:Int)) Y.1.1) w.e,()),()))
   else if x.ζ=3 then(AJ N x.e).bind (λZ=>if(x.υ.length:Int)>Z.2.1.2.2.2 then(sA N w.e (Xa (k:Int))).bind (λG=>some ((G.1.1,()),()))else some ((S5 (Xe (w.η.map Rt.e) (Xa (k:Int)) (S6 0 (S5 w.mem.1 (S0 4 x.e)))) w.e,()),()))
   else if x.ζ=4 then(Em N w.e (Xa (k:Int))).bind (λH=>some ((H.1.1,()),()))
   else if x.ζ=5 then(Eo N w.e (k:Int)).bind (λI=>some ((I.1.1,()),()))
   else if x.ζ=6 then(if(x.υ.length:Int)>0 then(sA N w.e (Xa (k:Int))).bind (λF=>some ((F.1.1,()),()))else some ((S5 (Xe (w.η.map Rt.e) (Xa (k:Int)) (7,x.e.2)) w.e,()),()))
   else if x.ζ=7 then(if x.Ct=0 then some ((S5 (Xe (w.η.map Rt.e) (Xa (k:Int)) ((0:Int),(x.e.2.1+1,((0:Int),((0:Int),((0:Int),((0:Int),((0:Int),((0:Int),((0:Int),((0:Int),((0:Int),(false,(([]:List Int),(([]:List Kc),(([]:List Kc),(([]:List Ki),(([]:List Kb),(([]:List Int),(false,(((0:Int),((0:Int),((0:Int),(0:Int)))),(((0:Int),((0:Int),((0:Int),((0:Int),((0:Int),(([]:List Kc),([]:List Int))))))),d_Family)))))))))))))))))))))) (S4 (WW w.holds ((k:Int)+1)) w.e),()),())else(some (((Wo.put (eA {w with holds:=WW w.holds ((k:Int)+1)} x k) k).e,()),()):Option ((Y_World×Unit)×Unit)).bind (λS=>some ((S.1.1,()),())))
   else some ((w.e,()),()))=some (((Wo.put (
   if x.ζ=0 then fI w x k else
   if x.ζ=1 then fL w x k p else
   if x.ζ=2 then(w,jP x)else
   if x.ζ=3 then gU w x else
   if x.ζ=4 then(w,io w x)else
   if x.ζ=5 then gb w x k else
   if x.ζ=6 then(if x.υ.length>0 then fH w x else(w,{x with ζ:=7}))else
   if x.ζ=7 then
    (if x.Ct=0 then({w with holds:=WW w.holds ((k:Int)+1)},{χ:=x.χ+1})
     else eA {w with holds:=WW w.holds ((k:Int)+1)} x k)
   else(w,x)) k).e,()),()):=by
  rw[Xj];by_cases y:x.ζ=0
  .simp_all
  .rw[We y,We y];by_cases r:x.ζ=1
   .rw[Wf r,Wf r,WwL b a D l (c.Cn (by omega)) c.υ h.mem h.π h.holds d];rfl
   .rw[We r,We r];by_cases g:x.ζ=2
    .rw[Wf g,Wf g,WvB l (c.Cn (by omega)) g d];exact bf rfl rfl rfl
    .rw[We g,We g];by_cases f:x.ζ=3
     .have hl:=c.Cn (by omega);obtain⟨z1,z2,z3,z4,z5,z6⟩:=hl.sz l.ξ;rw[Wf f,Wf f,SW (hl.back (.inl f)) (by omega)];simp only[Xd];have uz:=(hl.mk24 l.ξ (hl.back (.inl f)));obtain⟨m,q,e1,e2,_,_,_,_,_,_,_,_,_,lC⟩:=uz;unfold gU;by_cases o:(x.υ.length:Int)>x.last.2.2.2.1
      .rw[Wf o,Wf o,Md b a (by omega) (by omega) c.υ h.π d];rfl
      .rw[We o,We o];exact bf rfl rfl rfl
     .rw[We f,We f];by_cases i:x.ζ=4
      .rw[Wf i,Wf i,WrL b a l (c.Cn (by omega)) i h.mem];rfl
      .rw[We i,We i];by_cases j:x.ζ=5
       .rw[Wf j,Wf j,WqP b a D (c.comm j) h.mem Q d];rfl
       .rw[We j,We j];by_cases s:x.ζ=6
        .rw[Wf s,Wf s];by_cases C:x.υ.length>0
         .rw[Wf (by omega),Wf C,Md b a (by omega) (by omega) c.υ h.π d];rfl
         .rw[We (by omega),We C];exact bf rfl rfl rfl
        .rw[We s,We s];by_cases z:x.ζ=7
         .rw[Wf z,Wf z];by_cases t:x.Ct=0
          .rw[Wf t,Wf t,v];exact bf (w:=w) (w':={w with holds:=WW w.holds ((k:Int)+1)}) (x':={χ:=x.χ+1}) rfl rfl rfl
          .rw[We t,We t];rfl
         simp_all
 rw[qF];by_cases B:x.Cp=true
 .rw[Wf B];by_cases u:1<=x.ζ/\x.ζ<=4
  .rw[Wc u.1,Wc u.2,Wf (show x.Cp=true/\1<=x.ζ/\x.ζ<=4 from⟨B,u⟩),Xj];exact bf rfl rfl rfl
  .have hb:(decide (1<=x.ζ)&&decide (x.ζ<=4))=false:=by
    rw[pL,Wm,Wm];omega
   rw[hb];exact U _ V (λP=>u P.2)
 grind
end
end
section
noncomputable def hJ(p:Pg):Bool:=p.2.all jO&&(jX p.1&&(decide (p.2.length<=3)&&beq (p.1.any λo=>o.1==11) (decide (p.2.length>0))))
noncomputable def cI(s:Sc):Bool:=pB s.1&&(decide (s.2.1.length<=4)&&(decide (s.2.2.length<=400)&&s.2.1.all hJ))
structure PB(p:Pg):Prop where
 ξ:p.1.length<=1048576
 ο:p.2.length<=1048576
 each:∀c∈p.2,c.length<=1048576
structure SB(s:Sc):Prop where
 Cx:s.1.1.length<=1048576
 map:s.1.2.1.length<=1048576
 progs:s.2.1.length<=1048576
 each:∀p∈s.2.1,PB p
 acts:s.2.2.length<=1048576
variable{N:Nat}{s:Sc}{p:Pg}{w:Wo}{n:Int}{a:Ac}
theorem Wwx(h:hJ p=true):POk p:=by
 unfold hJ at h;simp only[Xh,bA,Wg]at h;exact⟨XZ h.2.1,λc a=>WyB (h.1 c a),h.2.2.1⟩
theorem qQ(h:cI s=true):ThOk s.1/\s.2.1.length<=4/\s.2.2.length<=400/\∀p∈s.2.1,POk p:=by
 simp_all [cI,Xh,bA,Wg,WvA,Wwx]
theorem ML{α:Type}(l:List α)(k:Nat):decide ((Wh l)<=(k:Int))=decide (l.length<=k):=by
 simp[Wh,Wc,Wi]
theorem Dp{α:Type}(l:List α)(k:Nat):decide ((Wh l)>(k:Int))=decide (l.length>k):=by
 simp[Wh,Wc,Wi]
theorem LC(l k:Nat):decide (l>k)= !decide (l<=k):=by
 grind
theorem Wnn{l:List Opn}(h:l.length<=1048576)(g:1048576<N):BH N l=ret (l.any λo=>o.1==11):=by
 unfold BH N5 Eg;have c:=Dy (l:=l) (p:=λo=>o.1==11) (N:=N) (lp:=λn j=>Zm N l (λb=>(some ((),(b,())))) (λd e=>(some ((),((-1:Int),())))) n j) (K0:=λj=>some ((),(j,()))) (K1:=some ((),((-1:Int),()))) (by omega) (by omega)
  (λn j a=>by
   simp only[Zm,WG a,Ws a,Ww a,Wk (show j<4611686018427387904 by omega),Wa,Qo,Xd])
  (λn=>by simp[Zm,WP,Xm,Wb])
 rw[c];have f:=Gt (p:=λo:Opn=>o.1==11) l 0;cases hf:fnd (λo:Opn=>o.1==11) l 0 with
 |some r=>
  simp_all
 |none=>
  grind
theorem WnH(h:PB p)(c:1048576<N):B9 N p=ret (hJ p):=by
 have q:=h.ξ;have r:=h.ο;unfold B9 hJ;have e:=WB (l:=p.2) (V:=Unit) (R:=Unit×Kf) (lp:=λn j v=>w6 N p.2 p (some ((),(false,()))) (λm g=>
  ((oD N p.1).bind λa=>
 (bif a.2.1 then
 (bif decide ((Wh p.2)<=(3:Int))then
 ((BH N p.1).bind λb=>
 (some ((),(beq b.2.1 (decide ((Wh p.2)>(0:Int))),()))))
 else
 (some ((),(false,()))))
 else
 (some ((),(false,())))))) n j) (n:=N) (by omega)
  (body:=λj x v k=>(yg N x).bind λo=>bif !o.2.1 then some ((),(false,()))else k v) (K:=λ_ v=>((oD N p.1).bind λa=>
 (bif a.2.1 then
 (bif decide ((Wh p.2)<=(3:Int))then
 ((BH N p.1).bind λb=>
 (some ((),(beq b.2.1 (decide ((Wh p.2)>(0:Int))),()))))
 else
 (some ((),(false,()))))
 else
 (some ((),(false,()))))))
  (λn i v d=>by simp only[w6,WG d,Ws d,Ww d,Wk (show i<4611686018427387904 by omega),Wa])
  (λn v=>by simp[w6,WP,Xm,Wb]) ()
 refine e.trans ?_;rw[fb (p:=λx=>!jO x) (E:=λ_=>some ((),(false,()))) p.2 0 () (λj x v k f=>by rw[WoR (by have:=h.each x f;omega) c];rfl),ge,Ru (by omega) c,Wnn (by omega) c];simp only[ret,Xd];rw[show(3:Int)=((3:Nat):Int)from rfl,ML,show(0:Int)=((0:Nat):Int)from rfl,Dp];cases p.2.all jO<;>cases jX p.1<;>cases decide (p.2.length<=3)<;>rfl
theorem Wnt(h:PB p)(a:1048576<N):yf N p=ret (hJ p):=by
 have q:=h.ξ;have r:=h.ο;unfold yf hJ;have f:=WB (l:=p.2) (V:=Unit) (R:=Unit×Kf) (lp:=λn j v=>sy N p (some ((),(false,()))) (λe d=>(some ((),(true,())))) n j) (n:=N) (by omega)
  (body:=λj x v k=>(yl N x).bind λo=>bif !o.2.1 then some ((),(false,()))else k v) (K:=λ_ v=>some ((),(true,())))
  (λn i v c=>by simp only[sy,WG c,Ws c,Ww c,Wk (show i<4611686018427387904 by omega),Wa])
  (λn v=>by simp[sy,WP,Xm,Wb]) ()
 have g:sy N p (some ((),(false,()))) (λe d=>(some ((),(true,())))) N 0=ret (p.2.all jO):=by
  refine f.trans ?_;rw[fb (p:=λx=>!jO x) (E:=λ_=>some ((),(false,()))) p.2 0 () (λj x v k m=>by rw[Wpb (by have:=h.each x m;omega) a];rfl),ge];cases p.2.all jO<;>rfl
 rw[g,Rn (by omega) a,Ry (by omega) a];simp only[ret,Xd];rw[show(3:Int)=((3:Nat):Int)from rfl,Dp,LC,show(0:Int)=((0:Nat):Int)from rfl,Dp];generalize beq (p.1.any λo=>o.1==11) (decide (p.2.length>0))=b;cases p.2.all jO<;>cases jX p.1<;>cases decide (p.2.length<=3)<;>cases b<;>rfl
theorem Wkg{t:List Int×List Int×Int}(d:t.1.length<=1048576)(m:t.2.1.length<=1048576)(h:1048576<N):A4 N t=ret (pB t):=by
 unfold A4 pB rm;have e:((Wh t.2.1) !=(8:Int))= !decide (t.2.1.length=8):=by
  grind [Wh]
 have f:=WB (l:=t.2.1) (V:=Unit) (R:=Unit×Kf) (lp:=λn j v=>sD N t (some ((),(false,()))) (λc b=>(some ((),(true,())))) n j) (n:=N) (by omega)
  (body:=λj x v k=>bif !(decide (0<=x)&&decide (x<=65536))then some ((),(false,()))else k v) (K:=λ_ v=>some ((),(true,())))
  (λn i v a=>by simp only[sD,WG a,Ws a,Ww a,Wk (show i<4611686018427387904 by omega),Wa,ct,ret,Xd])
  (λn v=>by simp[sD,WP,Xm,Wb]) ()
 have g:sD N t (some ((),(false,()))) (λc b=>(some ((),(true,())))) N 0=ret (t.2.1.all λx=>decide (0<=x)&&decide (x<=65536)):=by
  refine f.trans ?_;rw[fb (p:=λx=>!(decide (0<=x)&&decide (x<=65536))) (E:=λ_=>some ((),(false,()))) t.2.1 0 () (λj x v k _=>rfl),ge];cases t.2.1.all _<;>rfl
 rw[RD d h,e,W8,g];cases iL t.1<;>cases decide (t.2.1.length=8)<;>cases bH t.2.2<;>cases t.2.1.all _<;>rfl
theorem W6(h:SB s)(b:1048576<N):Ze N s=ret (cI s):=by
 have m:=h.Cx;have q:=h.map;have r:=h.progs;unfold Ze cI;have d:=WB (l:=s.2.1) (V:=Unit) (R:=Unit×Kf) (lp:=λn j v=>sE N s (some ((),(false,()))) (λg c=>(some ((),(true,())))) n j) (n:=N) (by omega)
  (body:=λj x v k=>(yf N x).bind λo=>bif !o.2.1 then some ((),(false,()))else k v) (K:=λ_ v=>some ((),(true,())))
  (λn i v a=>by simp only[sE,WG a,Ws a,Ww a,Wk (show i<4611686018427387904 by omega),Wa])
  (λn v=>by simp[sE,WP,Xm,Wb]) ()
 have e:sE N s (some ((),(false,()))) (λg c=>(some ((),(true,())))) N 0=ret (s.2.1.all hJ):=by
  refine d.trans ?_;rw[fb (p:=λx=>!hJ x) (E:=λ_=>some ((),(false,()))) s.2.1 0 () (λj x v k f=>by rw[Wnt (h.each x f) b];rfl),ge];cases s.2.1.all hJ<;>rfl
 rw[e,Wkg (by omega) (by omega) b];simp only[ret,Xd];rw[show(4:Int)=((4:Nat):Int)from rfl,Dp,LC,show(400:Int)=((400:Nat):Int)from rfl,Dp,LC];cases pB s.1<;>cases decide (s.2.1.length<=4)<;>cases decide (s.2.2.length<=400)<;>rfl
theorem WS(h:SB s)(d:1048576<N):ia N s=ret (cI s):=by
 have w:=h.Cx;have y:=h.map;have z:=h.progs;unfold ia cI Qh Z4;have g:=WB (l:=s.2.1) (V:=Unit) (R:=Unit×Kj) (lp:=λn j v=>Zd N s.2.1 (λa=>(some ((),(a,())))) (λe f=>(some ((),((-1:Int),())))) n j) (n:=N) (by omega)
  (body:=λj x v k=>(HY N x).bind λo=>bif o.2.1 then some ((),(j,()))else k v) (K:=λ_ v=>some ((),((-1:Int),())))
  (λn i v b=>by simp only[Zd,WG b,Ws b,Ww b,Wk (show i<4611686018427387904 by omega),Wa])
  (λn v=>by simp[Zd,WP,Xm,Wb]) ()
 have m:((Zd N s.2.1 (λa=>(some ((),(a,())))) (λe f=>(some ((),((-1:Int),())))) N 0).bind λu=>some ((),(decide (u.2.1>=(0:Int)),())))=ret (!s.2.1.all hJ):=by
  have q:=g;rw[q,yM (p:=λx=>!hJ x) (E:=λj _=>some ((),(j,()))) s.2.1 0 () (λj x v k t=>by unfold HY;rw[WnH (h.each x t) d];rfl)];have c:=Gt (p:=λx=>!hJ x) s.2.1 0;rw[ge]at c;rw[←c];cases hf:fnd (λx=>!hJ x) s.2.1 0 with
  |some r=>simp_all
  |none=>rfl
 rw[Wkb (by omega) (by omega) d];simp only[ret,Xd];rw[m,show(4:Int)=((4:Nat):Int)from rfl,ML,show(400:Int)=((400:Nat):Int)from rfl,ML];cases pB s.1<;>cases decide (s.2.1.length<=4)<;>cases decide (s.2.2.length<=400)<;>cases s.2.1.all hJ<;>rfl
end
section
variable{N:Nat}{s:Sc}{p:Pg}{w:Wo}{n:Int}{a:Ac}{k:Nat}
theorem zu{ps:List Pg}(h:∀p∈ps,POk p)(a:k<ps.length):POk (ps.getD k pg0):=by
 grind
theorem WOk.tick(h:WOk s.2.1 n w):WOk s.2.1 (n+1) {w with now:=w.now+1}:=
 {h with now:=by(have:=h.now;simp_all),n0:=by have:=h.n0;omega,Ck:=by(have:=h.Ck;grind),root:=λk a=>(h.root k a).wk (by omega)}
theorem WOk.putQ{q:Wo×Rt}{w0:Wo}(h:WOk s.2.1 (n+1) {w0 with now:=w0.now+1})(f:(w0.Ck.length:Int)<=n)(g:k<w0.η.length)(a:QOk (s.2.1.getD k pg0) (n+1) {w0 with now:=w0.now+1} q):WOk s.2.1 (n+1) (Wo.put q k):=by
 have d:q.1.η=w0.η:=a.η;exact{
  len:=by show(q.1.η.set k q.2).length=_;rw[cZ,d];exact h.len
  l4:=h.l4
  progs:=h.progs
  now:=a.now.trans h.now
  n0:=h.n0
  mem:=a.mem
  π:=a.π
  holds:=a.holds
  histE:=λe b=>(a.histE e b).elim (h.histE e) id
  Ck:=by have:=a.Ck;show(q.1.Ck.length:Int)<=n+1;grind
  root:=λi c=>by
   change i<(q.1.η.set k q.2).length at c;rw[cZ,d]at c;show ROk _ _ ((q.1.η.set k q.2)[i]);rw[List.getElem_set];by_cases b:k=i
   .subst b;rw[Wf rfl];exact a.root
   .rw[We b];have:=h.root i c;simp_all}
theorem ip(h:WOk s.2.1 n w):WOk s.2.1 (n+1) (ef s w a):=by
 have c:=h.tick;unfold ef;simp only;split
 .rename_i hb;have b:a.2.1.toNat<w.η.length:=by omega
  have f:=c.root a.2.1.toNat b;have k:=h.root a.2.1.toNat b;have d:GOk {w with now:=w.now+1}:=⟨h.mem,h.π,h.holds⟩;have j:=zu h.progs (show a.2.1.toNat<s.2.1.length by rw[←h.len];exact b);have r:w.η.length<=4:=by rw[h.len];exact h.l4
  rw[WA b];split
  .unfold Ad;rw[WA (show a.2.1.toNat<({w with now:=w.now+1}:Wo).η.length from b)];exact c.putQ h.Ck b (TY j d k (by omega) h.n0)
  .split
   .split
    .rename_i hf;refine c.putQ h.Ck b (d.st ?_);have i:=k.Cn (by omega);obtain⟨m,o,g⟩:=i.fork hf.1;have e:a.2.2.toNat<(s.2.1.getD a.2.1.toNat pg0).2.length:=by omega
     have q:a.2.2.toNat<w.η[a.2.1.toNat].fam.ο.length:=by rw[g.len];exact e
     have l:KC ((s.2.1.getD a.2.1.toNat pg0).2.getD a.2.2.toNat []):=by rw[WA e];exact j.ο _ (Xy e)
     exact{f with Cn:=λ_=>{i.wk (show n<=n+1 by omega)with fork:=λ_=>⟨m,o,UY q h.mem l g rfl⟩}}
    .exact c
   .split
    .split
     .refine c.putQ h.Ck b (d.st ?_);exact{f with Cn:=λp=>{f.Cn p with}}
     .exact c
    .exact c
 .exact c
theorem Mr(h:WOk s.2.1 n w)(hn:n<=99999)(u:1048576<N):AY N w.e s a=some (((ef s w a).e,()),()):=by
 have ht:=h.tick;have yr:=h.now;have uI:=h.n0;have jh:w.η.length<=4:=by rw[h.len];exact h.l4
 unfold AY ef;simp only[Wp];rw[show P5 w.e=w.η.map Rt.e from rfl,show w.e.1=w.now from rfl,au (by omega)];have A:Wh (w.η.map Rt.e)=(w.η.length:Int):=by unfold Wh;simp
 rw[A,WM (by unfold I64;omega)];simp only[WK,ret,Xd];by_cases l:0<=a.2.1/\a.2.1<w.η.length
 .rw[Wf l,Wc l.1,Wc (show a.2.1<=(w.η.length:Int) -1 by omega)];obtain⟨k,O⟩:∃k:Nat,a.2.1=k:=⟨a.2.1.toNat,by omega⟩;have c:k<w.η.length:=by omega
  obtain⟨x,b⟩:∃x,w.η[k]=x:=⟨_,rfl⟩;have o:=h.root k c;rw[b]at o;have z:k<s.2.1.length:=by rw[←h.len];exact c
  have g:=zu h.progs z;obtain⟨F,X,Y,G,Z⟩:=woG c b;obtain⟨L,r1,r2,r3,r4,r5,r6,r7,r8,ga,W,Q,R,S,T,gB,gD,E,H,gE,gF,gG⟩:=rtP x;have q:∀y:Rt,(w.now+1,S4 (Xe (w.η.map Rt.e) k y.e) w.e.2)=Wo.e (Wo.put ({w with now:=w.now+1},y) k):=λy=>by
   unfold Wo.put Wo.e;simp only[List.map_set];rfl
  have C:Wo.put ({w with now:=w.now+1},x) k={w with now:=w.now+1}:=by unfold Wo.put;simp only;rw[←b,je]
  simp only[O,Xj,c3,Xn,Wb];rw[F,G,WA c,b];simp only[Wa,L,E,H,q,C,show w.e.2.2.1=w.mem from rfl];rw[WH,Wc z];have P:Xc s.2.1 k (([]:List Ka),([]:List Kaa))=s.2.1.getD k pg0:=rfl;rw[P];generalize kW:s.2.1.getD k pg0=p at*;have J:GOk {w with now:=w.now+1}:=⟨h.mem,h.π,h.holds⟩;simp only[Wa,Wu];have B:Er N (Wo.e {w with now:=w.now+1}) (k:Int) p=some (((Wo.put (hF {w with now:=w.now+1} x k p) k).e,()),()):=
   Wuu (w:={w with now:=w.now+1}) c b (by grind) g J o (by omega) (by have:=h.Ck;grind) u
  rw[B];by_cases r:a.1=1
  .simp_all [Wf,Ad,WA,Xd]
  .rw[We r,We r];by_cases f:a.1=2
   .rw[Wf f,Wf f];by_cases m:x.ζ=2
    .rw[Wf m,WM (by have:=g.k3;unfold I64 Wh;omega),show Wh p.2=(p.2.length:Int)from rfl];by_cases v:0<=a.2.2/\a.2.2<p.2.length
     .rw[Wc v.1,Wc (show a.2.2<=(p.2.length:Int) -1 by omega),Wf (show x.ζ=2/\0<=a.2.2/\a.2.2<p.2.length from⟨m,v⟩)];obtain⟨j,K⟩:∃j:Nat,a.2.2=j:=⟨a.2.2.toNat,by omega⟩;have d:j<p.2.length:=by omega
      simp only[K,Xj,c3,Wa];rw[WH,Wc d];obtain⟨U,V,i⟩:=(o.Cn (by omega)).fork m;have D:KC (p.2.getD j []):=by rw[WA d];exact g.ο _ (Xy d)
      rw[Wlq (ξ:=p.2.getD j []) (by rw[i.len];exact d) (by rw[i.len];exact g.k3) h.mem D i rfl (by omega) u];simp only[Xd,Wa];have:U21 (i0 w.mem x.fam j (p.2.getD j [])).e x.e=Rt.e {x with fam:=i0 w.mem x.fam j (p.2.getD j [])}:=rfl
      grind [Nx]
     grind
    simp_all
   .rw[We f,We f];by_cases t:a.1=3
    .rw[Wf t,Wf t];have I:S11 true x.e=Rt.e {x with Cp:=true}:=rfl;simp only[I,q,show(Cm.e x.cm).2.2.1=x.cm.ζ from rfl,WX]
     grind
    simp_all
 .rw[We l];have M:(decide (0<=a.2.1)&&decide (a.2.1<=(w.η.length:Int) -1))=false:=by
   rw[pL,Wm,Wm];omega
  rw[M];rfl
theorem zl(h:cI s=true):WOk s.2.1 0 (kZ s):=by
 obtain⟨b,c,i,d⟩:=qQ h;exact{
  len:=by simp[kZ]
  l4:=c
  progs:=d
  now:=rfl
  n0:=Int.le_refl _
  mem:=by
   show W2 (DL s.1.1)=true;have:=b.Cx.len;unfold W2 DL;simp only[Xt,this,decide_true,d3,Xh,Wg,bA];refine⟨by omega,λw g=>?_⟩;obtain⟨v,f,rfl⟩:=Xv.1 g;have:=b.Cx.val v f;rw[ri];unfold wd0;simp only;omega
  π:=⟨WtX b.map.1 b.map.2,b.cnt⟩
  holds:=⟨(λh a=>by cases a),List.Pairwise.nil⟩
  Ck:=by simp[kZ]
  histE:=λh a=>by cases a
  root:=λk j=>by
   simp only[kZ,List.getElem_replicate];exact{
    ζ:=by simp
    χ:=by simp
    Cn:=λa=>by simp at a
    comm:=λa=>by simp at a
    υ:=λu e=>by cases e
    ul:=by simp
    rg:=by simp
    ord:=by simp}}
theorem Mu:∀(l:List Ac) (n:Int) (w:Wo),WOk s.2.1 n w->WOk s.2.1 (n+l.length) (l.foldl (ef s) w)
 | [],n,w,h=>by simpa using h
 |a::l,n,w,h=>by
  have:=Mu l (n+1) _ (ip (a:=a) h);rw[List.foldl_cons,Xs];rw[show n+((l.length+1:Nat):Int)=n+1+l.length by omega];exact this
theorem F0(h:cI s=true):WOk s.2.1 s.2.2.length (dI s):=by
 have:=Mu s.2.2 0 _ (zl h);rw[Int.zero_add]at this;exact this
end
section
section
variable{N:Nat}{c:Cur}
end
end
section
structure SI(d:Sc):Prop where
 c8:d.1.1.length=8
 m8:d.1.2.1.length=8
 p4:d.2.1.length<=4
 pg:∀p∈d.2.1,p.1.length<=24/\p.2.length<=3/\∀c∈p.2,c.length<=24
 ac:d.2.2.length<=400
def SmD(b:Option (Unit×(Sc×(List UInt8×Unit))))(a:Option ((Sc×Unit)×(List UInt8×Unit))):Prop:=
 ∃d t,b=some ((),(d,(t,())))/\a=some ((d,()),(t,()))/\SI d/\t.length<=300
section
variable{α:Type}{l:List α}{a b:α}
theorem Ns(h:l.length<=1000):Wv .i64 (Wh (l++ [a])) 1=(l.length:Int):=by
 rw[WM (by unfold I64 Wh;simp;omega)];unfold Wh;simp
theorem GZ:inb (l.length:Int) (l++ [a]).length=true:=Ws (by simp)
theorem GK{d:α}:Xc (l++ [a]) l.length d=a:=by simp
theorem MZ:Xe (l++ [a]) l.length b=l++ [b]:=by simp
theorem Nm:decide ((l.length:Int)<0)=false:=Wi (by omega)
theorem X8:decide (Wh (l++ [a])>0)=true:=Wc (by unfold Wh;simp)
end
variable{N:Nat}{d:Sc}{o:Opn}
theorem Wyq(h:SI d):SmD (JU N d o) (In N d o):=by
 obtain⟨⟨i,l,j⟩,ps,as⟩:=d;have same:SI ((i,l,j),ps,as):=h;unfold JU In;rcases NH ps with rfl|⟨P,p,rfl⟩
 .exact⟨_,_,rfl,rfl,h,by simp⟩
 .have h4:=h.p4;simp only[Av,Xz,Xs,j0]at h4;simp only[Av];have b:=h.pg p (by simp);have f:∀q,(q.1.length<=24/\q.2.length<=3/\∀c∈q.2,c.length<=24)->SI ((i,l,j),P++ [q],as):=λq r=>⟨h.c8,h.m8,by simp;omega,λx a=>by
   rcases Xp.1 a with a|a
   .exact h.pg x (by simp[a])
   .rw[cw.1 a];exact r,h.ac⟩
  rw[Ns (by omega),Nm];simp only[Wb];by_cases k:as= []
  .subst k;rw[show decide (Wh ([]:List Ac)>0)=false from rfl,Wb,Wb];obtain⟨pc,g⟩:=p;have b:pc.length<=24/\g.length<=3/\∀c∈g,c.length<=24:=b;simp only[GZ,Xj,GK,MZ,N2,NX,Wa,d3];rcases NH g with rfl|⟨K,c,rfl⟩
   .have e1:decide (Wv .i64 (Wh ([]:List (List Opn))) 1<0)=true:=rfl;have m:decide (Wh ([]:List (List Opn))>0)=false:=rfl;simp only[e1,m,Wa,Wb];by_cases e:Wh pc>=24
    .rw[Wc e,Wa,Wa];exact⟨_,_,rfl,rfl,f _ b,by simp⟩
    .rw[Wi e,Wb,Wb,Wn (by simp;omega),Wa,Wa];exact⟨_,_,rfl,rfl,f _ ⟨by unfold Wh at e;simp;omega,b.2⟩,by simp⟩
   .simp only[Av]at b⊢;have n:=b.2.1;simp only[Xz,Xs,j0]at n;have s:=b.2.2 c (by simp);simp only[Ns (show K.length<=1000 by omega),Nm,X8,Wa,Wb,GZ,Xj,GK,MZ,N2,NX,d3];by_cases e:Wh c>=24
    .rw[Wc e,Wa,Wa];exact⟨_,_,rfl,rfl,f _ b,by simp⟩
    .rw[Wi e,Wb,Wb,Wn (by simp;omega),Wa,Wa];refine⟨_,_,rfl,rfl,f _ ⟨b.1,by simp;omega,λx a=>?_⟩,by simp⟩;rcases Xp.1 a with a|a
     .exact b.2.2 x (by simp[a])
     .rw[cw.1 a];unfold Wh at e;simp;omega
  .have:decide (Wh as>0)=true:=Wc (by unfold Wh;cases as with|nil=>exact Wz rfl k|cons _ _=>simp);rw[this,Wa,Wa];refine⟨_,_,rfl,rfl,?_,by simp⟩;simpa only[Av]using same
def yn(b:Bool):List UInt8:=bif b then [111,107]else [110,111]
theorem eI{b:Bool}:Zj N b=ret (yn b):=by cases b<;>rfl
theorem jD{b:Bool}:ic N b=ret (yn b):=by cases b<;>rfl
noncomputable def bY(r:Option (Unit×(Sc×Kf)))(N:Nat):Option (Unit×(Sc×(List UInt8×Unit))):=r.bind λo=>(Zj N o.2.2.1).bind λp=>some ((),(o.2.1,(p.2.1,())))
theorem Wx8(h:SI d)(b:d.2.1.length<4):SI (d.1,d.2.1++ [([],[])],d.2.2):=⟨h.c8,h.m8,by simp;omega,λp a=>by
 rcases Xp.1 a with a|a
 .exact h.pg p a
 .rw[cw.1 a];simp,h.ac⟩
theorem GV{α:Type}{l:List α}:decide (Wh l>0)= !l.isEmpty:=by cases l<;>simp[Wh]
theorem XX{α:Type}{l:List α}:(Wh l==(0:Int))=l.isEmpty:=by cases l<;>simp[Wh];omega
theorem Wxt(h:SI d){n:List Int}:SmD (bY (Z7 N d [114,111,111,116] n) N) (Zw N d [114,111,111,116]):=by
 unfold Z7 Zw bY;have b:seq [114,111,111,116] ([114,111,111,116]:List UInt8)=true:=rfl;simp only[b,Wa,GV];cases he:d.2.2.isEmpty with
 |false=>
  simp only[bS,Wa,Xd,eI,ret];exact⟨_,_,rfl,rfl,h,by simp[yn]⟩
 |true=>
  simp only[Xn,Wb];by_cases a:Wh d.2.1>=4
  .simp only[Wc a,Wa,Xd,eI,ret];exact⟨_,_,rfl,rfl,h,by simp[yn]⟩
  .have:d.2.1.length<4:=by unfold Wh at a;omega
   simp only[Wi a,Wb,Wn (show d.2.1.length+Xb [(([]:List Opn),([]:List (List Opn)))]<=1073741824 by simp;omega),Wa,Xd,eI,ret];exact⟨_,_,rfl,rfl,Wx8 h this,by simp[yn]⟩
theorem WxI(h:SI d){n:List Int}:SmD (bY (Z7 N d [107,105,100] n) N) (Zw N d [107,105,100]):=by
 unfold Z7 Zw bY;have m:seq [107,105,100] ([114,111,111,116]:List UInt8)=false:=rfl;have o:seq [107,105,100] ([107,105,100]:List UInt8)=true:=rfl;simp only[m,o,Wa,Wb,GV];obtain⟨⟨i,l,j⟩,ps,as⟩:=d;cases he:as.isEmpty with
 |false=>
  simp only[he,bS,Wa,Xd,eI,ret];exact⟨_,_,rfl,rfl,h,by simp[yn]⟩
 |true=>
  simp only[he,Xn,Wb];rcases NH ps with rfl|⟨P,p,rfl⟩
  .exact⟨_,_,rfl,rfl,h,by simp[yn]⟩
  .have h4:=h.p4;simp only[Av,Xz,Xs,j0]at h4;simp only[Av];have b:=h.pg p (by simp);have g:∀q,(q.1.length<=24/\q.2.length<=3/\∀c∈q.2,c.length<=24)->SI ((i,l,j),P++ [q],as):=λq k=>⟨h.c8,h.m8,by simp;omega,λx a=>by
    rcases Xp.1 a with a|a
    .exact h.pg x (by simp[a])
    .rw[cw.1 a];exact k,h.ac⟩
   obtain⟨pc,e⟩:=p;have b:pc.length<=24/\e.length<=3/\∀c∈e,c.length<=24:=b;simp only[Ns (show P.length<=1000 by omega),Nm,GZ,Xj,GK,MZ,N2,NX,Wa,Wb,d3];by_cases f:Wh e>=3
   .simp only[Wc f,Wa,Xd,eI,ret];exact⟨_,_,rfl,rfl,g _ b,by simp[yn]⟩
   .simp only[Wi f,Wb,Wn (show e.length+Xb [([]:List Opn)]<=1073741824 by simp;omega),Wa,Xd,eI,ret];refine⟨_,_,rfl,rfl,g _ ⟨b.1,by unfold Wh at f;simp;omega,λx a=>?_⟩,by simp[yn]⟩;rcases Xp.1 a with a|a
    .exact b.2.2 x a
    .rw[cw.1 a];simp
theorem C0{v:Int}:jl N v=ret (dH v):=by
 unfold jl;simp only[ct,ret,Xd];rfl
theorem Wxq(h:SI d){a b:Int}:SmD (bY (Z7 N d [99,101,108,108] [a,b]) N) (lI N d [99,101,108,108] a b):=by
 unfold Z7 lI bY;have j:seq [99,101,108,108] ([114,111,111,116]:List UInt8)=false:=rfl;have k:seq [99,101,108,108] ([107,105,100]:List UInt8)=false:=rfl;have l:seq [99,101,108,108] ([99,101,108,108]:List UInt8)=true:=rfl;have g:inb 0 (Xb [a,b])=true:=rfl;have i:inb 1 (Xb [a,b])=true:=rfl;have c:Xc [a,b] (Xa 0) 0=a:=rfl;have e:Xc [a,b] (Xa 1) 0=b:=rfl;simp only[j,k,l,g,i,c,e,Wa,Wb,GV,XX,lO,W0,W8,jy,ret,Xd];cases he:d.2.2.isEmpty with
 |false=>
  simp only[bS,Wa,Wb,Xd,eI,jD,ret];exact⟨_,_,rfl,rfl,h,by simp[yn]⟩
 |true=>
  cases hc:bO a with
  |false=>
   simp only[Xn,bS,Wa,Wb,Xd,eI,jD,ret];exact⟨_,_,rfl,rfl,h,by simp[yn]⟩
  |true=>
   have f:inb a d.1.1.length=true:=by
    rw[h.c8];unfold bO at hc;unfold inb;simp only[Xh,Wg]at hc⊢;omega
   cases hv:bH b with
   |false=>
    simp only[Xn,bS,Wa,Wb,Xd,eI,jD,ret];exact⟨_,_,rfl,rfl,h,by simp[yn]⟩
   |true=>
    simp only[f,Xn,bS,Wa,Wb,Xd,eI,jD,ret];exact⟨_,_,rfl,rfl,⟨by simpa using h.c8,h.m8,h.p4,h.pg,h.ac⟩,by simp[yn]⟩
theorem WxF(h:SI d){a b:Int}:SmD (bY (Z7 N d [107,101,121] [a,b]) N) (lI N d [107,101,121] a b):=by
 unfold Z7 lI bY;have j:seq [107,101,121] ([114,111,111,116]:List UInt8)=false:=rfl;have k:seq [107,101,121] ([107,105,100]:List UInt8)=false:=rfl;have l:seq [107,101,121] ([99,101,108,108]:List UInt8)=false:=rfl;have m:seq [107,101,121] ([107,101,121]:List UInt8)=true:=rfl;have g:inb 0 (Xb [a,b])=true:=rfl;have i:inb 1 (Xb [a,b])=true:=rfl;have c:Xc [a,b] (Xa 0) 0=a:=rfl;have e:Xc [a,b] (Xa 1) 0=b:=rfl;simp only[j,k,l,m,g,i,c,e,Wa,Wb,GV,XX,C0,yz,W8,jy,ret,Xd];cases he:d.2.2.isEmpty with
 |false=>
  simp only[bS,Wa,Wb,Xd,eI,jD,ret];exact⟨_,_,rfl,rfl,h,by simp[yn]⟩
 |true=>
  cases hc:dH a with
  |false=>
   simp only[Xn,bS,Wa,Wb,Xd,eI,jD,ret];exact⟨_,_,rfl,rfl,h,by simp[yn]⟩
  |true=>
   have f:inb a d.1.2.1.length=true:=by
    rw[h.m8];unfold dH at hc;unfold inb;simp only[Xh,Wg]at hc⊢;omega
   cases hv:bH b with
   |false=>
    simp only[Xn,bS,Wa,Wb,Xd,eI,jD,ret];exact⟨_,_,rfl,rfl,h,by simp[yn]⟩
   |true=>
    simp only[f,Xn,bS,Wa,Wb,Xd,eI,jD,ret];exact⟨_,_,rfl,rfl,⟨h.c8,by simpa using h.m8,h.p4,h.pg,h.ac⟩,by simp[yn]⟩
theorem aG(h:SI d):SB d:=⟨by have:=h.c8;omega,by have:=h.m8;omega,by have:=h.p4;omega,λp e=>by
 obtain⟨a,b,c⟩:=h.pg p e;exact⟨by omega,by omega,λx f=>by have:=c x f;omega⟩,by have:=h.ac;omega⟩
theorem M6(h:SI d)(b:1048576<N){k r j:Int}:SmD (bY ((Ze N d).bind λc=>
 (bif !c.2.1 then
 (some ((),(d,(false,()))))
 else
 ((Za N r (0:Int) (Wv .i64 (Wh d.2.1) (1:Int))).bind λe=>
 (bif !e.2.1 then
 (some ((),(d,(false,()))))
 else
 ((Za N j (0:Int) (2:Int)).bind λf=>
 (bif !f.2.1 then
 (some ((),(d,(false,()))))
 else
 (bif decide ((Wh d.2.2)>=(400:Int))then
 (some ((),(d,(false,()))))
 else
 (bif Wx ((Xb d.2.2)+(Xb ([(k,(r,j))])))then
 (some ((),((d.1,(d.2.1,Xf d.2.2 ([(k,(r,j))]))),(true,()))))else none)))))))) N) (mK N d (k,(r,j))):=by
 unfold mK bY;simp only[W6 (aG h) b,WS (aG h) b,ct,WK,ret,Xd];cases cI d with
 |false=>
  simp only[bS,Wa,Wb,Xd,eI,jD,ret];exact⟨_,_,rfl,rfl,h,by simp[yn]⟩
 |true=>
  cases(decide ((0:Int)<=r)&&decide (r<=Wv .i64 (Wh d.2.1) 1))with
  |false=>
   simp only[Xn,bS,Wa,Wb,Xd,eI,jD,ret];exact⟨_,_,rfl,rfl,h,by simp[yn]⟩
  |true=>
   cases(decide ((0:Int)<=j)&&decide (j<=2))with
   |false=>
    simp only[Xn,bS,Wa,Wb,Xd,eI,jD,ret];exact⟨_,_,rfl,rfl,h,by simp[yn]⟩
   |true=>
    by_cases a:Wh d.2.2>=400
    .simp only[Wc a,Wi (show¬Wh d.2.2<400 by omega),Xn,Wa,Wb,Xd,eI,jD,ret];exact⟨_,_,rfl,rfl,h,by simp[yn]⟩
    .have ha:=h.ac;simp only[Wi a,Wc (show Wh d.2.2<400 by omega),Wn (show d.2.2.length+Xb [(k,r,j)]<=1073741824 by simp;omega),Xn,Wa,Wb,Xd,eI,jD,ret];exact⟨_,_,rfl,rfl,⟨h.c8,h.m8,h.p4,h.pg,by unfold Wh at a;simp;omega⟩,by simp[yn]⟩
end
section
def stl(x:Rt):Bool:=decide (x.ζ=8)||((decide (x.ζ=5)&&(decide (x.cm.ζ=4)||decide (x.cm.ζ=5)))||((decide (x.ζ=6)||decide (x.ζ=7))&&decide (x.Ct≠0)))
def cN(x:Rt):Int:=if stl x=true then(if x.ζ=5 then x.cm.wv else x.Cy)else 0
section
variable{w:Wo}{x y z:Rt}{k:Nat}{p:Pg}{n:Int}{o:Opn}
end
section
variable{s:Sc}{w v u:Wo}{n:Int}{a:Ac}{k:Nat}
theorem Wx6(h:WOk s.2.1 n w)(a:k<w.η.length):(hF {w with now:=w.now+1} w.η[k] k (s.2.1.getD k pg0)).1.η=w.η:=
 (TY (w:={w with now:=w.now+1}) (k:=k) (zu h.progs (by rw[←h.len];exact a)) ⟨h.mem,h.π,h.holds⟩ (h.root k a) (by have:=h.l4;have:=h.len;omega) h.n0).η
end
end
section
def Cl(m:Mm)(i:Int):Int:=(aK m i).2.2
section
variable{m:Mm}{c c':Cm}{i j:Int}{w:Wd}
end
end
section
section
variable{w:Wo}{x:Rt}{k:Nat}{p:Pg}{q:Wo×Rt}{o:Opn}{n:Int}
end
section
variable{s:Sc}{w v:Wo}{n:Int}{a:Ac}{k:Nat}{q:Wo×Rt}
end
end
section
variable{N:Nat}{s:Sc}{w:Wo}{n:Int}
theorem CT{v:Int}(a:v≠0)(e:1<=v/\v<=524288):mQ N v=some ((),(cj v,((v-1)%65536,()))):=by
 unfold mQ;rw[show(v==(0:Int))=false by simpa using a];have b:Wv .i64 v 1=v-1:=WM (by unfold I64;omega);have c:d9 .i64 (v-1) 65536=cj v:=by
  unfold d9 cj;rw[D5 (by omega),GY (by unfold I64;omega)]
 have d:aP (v-1) 65536=(v-1)%65536:=by unfold aP;exact Ya (by omega)
 simp only[Wb,show inz (65536:Int)=true from rfl,Wa,b,c,d]
theorem QW{k:Int}(a:0<=k/\k<=7):EG N k=ret (bK k):=by
 unfold EG jl bK;have b:Wj .i64 (ea .i64 k 7) 3=7*k+3:=by
  rw[qK (by unfold I64;omega),WD (by unfold I64;omega)];omega
 have c:aP (7*k+3) 4=(7*k+3)%4:=by unfold aP;exact Ya (by omega)
 simp only[ct,ret,Xd,Wc a.1,Wc a.2,c3,Xn,Wb,show inz (4:Int)=true from rfl,Wa,b,c]
theorem CK{l:List Int}(h:SlOk l)(I:1048576<N):oj N l=ret true:=by
 have z:=h.len;have D:∀(d j n:Nat) (s:List Bool),j+d=16->d<n->s.length=8->(∀c:Nat,s.getD c false=true->∃i,∃g:i<l.length,i<j/\l[i]≠0/\cj l[i]=c)->
   sU N l (some ((),(false,()))) (λH G F=>(some ((),(true,())))) n (j:Int) s=ret true:=by
  intro d
  induction d with
  |zero=>
   intro j n s x A _ _;obtain⟨n,rfl⟩:∃n',n=n'+1:=⟨n-1,by omega⟩;have:j=l.length:=by omega
   subst this;simp only[sU,WP (Xm _),Wb]
  |succ d ih=>
   intro j n s x A q p;obtain⟨n,rfl⟩:∃n',n=n'+1:=⟨n-1,by omega⟩;have b:j<l.length:=by omega
   simp only[sU,WG b,Ws b,Ww b,Wk (show j<4611686018427387904 by omega),Wa,ct,ret,Xd];by_cases e:l[j]=0
   .have e1:mQ N l[j]=some ((),((-1:Int),((0:Int),()))):=by rw[e];rfl
    have o:(decide ((0:Int)<=l[j])&&decide (l[j]<=524288))=true:=by rw[e];rfl
    rw[e1,o];simp only[Xd,Xn,Wb,show decide ((-1:Int)<0)=true from rfl,Wa];exact ih (j+1) n s (by omega) (by omega) q λc a=>by
     obtain⟨i,g,f,k,m⟩:=p c a;exact⟨i,g,by omega,k,m⟩
   .have hv:=h.val b e;have y:=Gg hv;have E:bK (cj l[j])=((j/4:Nat):Int):=by
     rcases h.each j b with f|f
     .exact Wz f e
     .exact f.2
    have B:d9 .i64 (j:Int) 4=((j/4:Nat):Int):=by
     unfold d9;rw[D5 (by omega),GY (by unfold I64;omega)];omega
    have r:s.getD (Xa (cj l[j])) false=false:=by
     rw[Bool.eq_false_iff];intro a;obtain⟨i,g,f,k,m⟩:=p _ a;exact h.one i j g b f k e (by omega)
    have o:(decide ((0:Int)<=l[j])&&decide (l[j]<=524288))=true:=by simp;omega
    have t:decide (cj l[j]<(0:Int))=false:=Wi (by omega);have u:inb (cj l[j]) s.length=true:=by unfold inb;rw[q];simp;omega
    rw[CT e hv,o];simp only[Xd,Xn,Wb,t,u,Wa,r,QW y,ret,E,B,bne_self_eq_false,show inz (4:Int)=true from rfl];refine ih (j+1) n _ (by omega) (by omega) (by simpa using q) λc a=>?_;by_cases w:c=(cj l[j]).toNat
    .exact⟨j,b,by omega,e,by omega⟩
    .have:s.getD c false=true:=by
      rw[lg,List.getElem?_set_ne (by omega),←lg]at a;exact a
     obtain⟨i,g,f,k,m⟩:=p c this;exact⟨i,g,by omega,k,m⟩
 unfold oj;rw[show((Wh l) !=(16:Int))=false by unfold Wh;rw[z];rfl];have C:(((decide ((0:Int)<=(8:Int)))&&(decide ((8:Int)<=(8:Int))))&&(Wx (Xa (8:Int))))=true:=by rw[Wn (by omega)];rfl
 rw[C];simp only[Wb,Wa];refine D 16 0 N _ (by omega) (by omega) (by simp) λc a=>?_;rw[lg]at a;by_cases v:c<8
 .rw[List.getElem?_replicate,Wf (show c<Xa 8 from v)]at a;simp at a
 .rw[gw (by simp;omega)]at a;simp at a
theorem QO{h:Shf}(a:ShOk h)(b:1048576<N):EN N h=ret true:=by
 unfold EN;rw[CK a.slots b,W8,fR.2 a.cnt];rfl
theorem Fb{l:List Hd}(h:HOk l)(w:l.length<=1048576)(v:1048576<N):tB N l=ret true:=by
 have r:∀(d j n:Nat),j+d=l.length->d<n->p7 N l (some ((),(false,()))) (λy u=>(some ((),(true,())))) n (j:Int)=ret true:=by
  intro d
  induction d with
  |zero=>
   intro j n o p;obtain⟨n,rfl⟩:∃n',n=n'+1:=⟨n-1,by omega⟩;have:j=l.length:=by omega
   subst this;simp only[p7,WP (Xm _),Wb]
  |succ d ih=>
   intro j n o p;obtain⟨n,rfl⟩:∃n',n=n'+1:=⟨n-1,by omega⟩;have a:j<l.length:=by omega
   have q:=h.val l[j] (Xy a);have i:=ih (j+1) n (by omega) (by omega);obtain⟨v1,v2,v3⟩:=Vv.2 q;simp only[p7,WG a,Ws a,Ww a,Wk (show j<4611686018427387904 by omega),Wa,ct,v1,v2,v3,ret,Xd,Xn,Wb,i];by_cases m:j=0
   .subst m;rfl
   .have e1:decide ((j:Int)>0)=true:=by simp;omega
    have g:Wv .i64 (j:Int) 1=((j-1:Nat):Int):=by rw[WM (by unfold I64;omega)];omega
    have b:j-1<l.length:=by omega
    have x:=h.val l[j-1] (Xy b);have f:=gu.1 h.up (j-1) j b a (by omega);simp only[e1,g,Wa,Ws b,Ww b];have e:=f.1;unfold cfH at e;by_cases c:l[j-1].2.1=l[j].2.1
    .rw[show(l[j-1].2.1==l[j].2.1)=true by simpa using c]at*;have k:¬l[j-1].1>=l[j].1:=by
      simp only[Wa]at e;omega
     obtain⟨s,t⟩:=f.2 c;rw[Wi (show¬l[j-1].2.1>l[j].2.1 by omega),Wi k,show(l[j].2.2==2)=false by simpa using t,show(l[j-1].2.2==2)=false by simpa using s];rfl
    .have gV:¬l[j-1].2.1>l[j].2.1:=by
      rw[show(l[j-1].2.1==l[j].2.1)=false by simpa using c]at e;simp only[Wb]at e;omega
     rw[Wi gV,show(l[j-1].2.1==l[j].2.1)=false by simpa using c];rfl
 exact r l.length 0 N (by omega) (by omega)
end
section
variable{N:Nat}{l:List Int}{k v:Int}{s:Shf}{u:Un}{o:Opn}{r:List Int}
theorem LD(h:SlOk l)(g:0<=k)(m:1048576<N):qk N l k=ret (match eM l k with|some r=>(r.1:Int)|none=>-1):=by
 unfold qk eM;have o:=h.len;have f:=Dy (l:=l) (p:=pu k) (N:=N) (lp:=λn j=>tf N l k (λc=>some ((),(c,()))) (λq i=>some ((),((-1:Int),()))) n j) (K0:=λj=>some ((),(j,()))) (K1:=some ((),((-1:Int),()))) (by omega) (by omega)
  (λn j b=>by
   simp only[tf,WG b,Ws b,Ww b,Wk (show j<4611686018427387904 by omega),Wa];unfold pu;by_cases a:l[j]=0
   .have e:mQ N l[j]=some ((),((-1:Int),((0:Int),()))):=by unfold mQ;rw[a];rfl
    have d:((-1:Int)==k)=false:=by simp;omega
    rw[e];simp only[Xd,d,Wb,a];rfl
   .have hv:=h.val b a;rw[CT a hv];simp only[Xd,Wc (show k>=0 from g),Wa,Wc (show l[j]>0 by omega),d3];by_cases e:cj l[j]=k
    .simp[e]
    .rw[show(cj l[j]==k)=false by simpa using e,Wi e])
  (λn=>by simp[tf,WP,Xm,Wb])
 rw[f];cases fnd (pu k) l 0<;>rfl
theorem CW(a:0<=k/\k<=7):jl N k=ret true:=by
 unfold jl;rw[ct,Wc a.1,Wc a.2];rfl
theorem QS(h:SlOk l)(c:0<=k/\k<=7)(a:1048576<N):EM N l k=some ((),((if aX l k=0 then 0 else aX l k-1),(decide (aX l k≠0),()))):=by
 unfold EM aX;rw[CK h a,CW c,LD h c.1 a];simp only[ret,Xd,Xn,Wb];cases hr:eM l k with
 |none=>rfl
 |some r=>
  obtain⟨b,d,e,f,g,i⟩:=qu h hr;simp only[Wi (show¬((r.1:Int)<0) by omega),Wb,WH,Wc b,Wa,Ww b,d];rw[CT (by omega) ⟨e,f⟩,We (by omega),Wc (by omega)];simp only[Int.add_sub_cancel];rfl
theorem Vt(c:0<=k/\k<=7)(d:0<=v/\v<=65535):Wj .i64 (Wj .i64 1 (ea .i64 k 65536)) v=1+65536*k+v:=by
 have a:ea .i64 k 65536=k*65536:=qK (by unfold I64;omega);have b:Wj .i64 1 (k*65536)=1+k*65536:=WD (by unfold I64;omega);rw[a,b,WD (by unfold I64;omega)];omega
theorem KQ(h:SlOk l)(d:0<=k/\k<=7)(i:0<=v/\v<=65535)(o:1048576<N):tC N l k v=some ((),(pn l k v,(aX l k,(true,())))):=by
 have x:=h.len;unfold tC;rw[Gr (by omega),CK h o,CW d,W8,LD h d.1 o,QW d,Vt d i];simp only[ret,Xd,Xn,Wb,fR.2 i];unfold pn aX;cases hr:eM l k with
 |some r=>
  obtain⟨c,e,m,b,g,u⟩:=qu h hr;simp only[Wc (show((r.1:Int)>=0) by omega),Wa,WH,Wc c,Xj,Ww c,e];rw[WA c,e,CT (by omega) ⟨m,b⟩,Xd];simp only;rw[WD (a:=1) (by unfold I64;omega),Int.add_comm 1 ((r.2-1)%65536)]
 |none=>
  simp only[show decide ((-1:Int)>=0)=false from rfl,Wb];have w:=MY k;obtain⟨c,e,m,b⟩:=LN h d hr;rw[qK (by unfold I64;omega)];obtain⟨f,rfl⟩:∃f,N=f+1+1:=⟨N-2,by omega⟩;have p:4*bK k=(((4*bK k).toNat:Nat):Int):=by omega
  have j:∀n,wR (f+1+1) l k v l (λq=>some ((),(q,((0:Int),(true,()))))) (λy t=>some ((),(l,((0:Int),(false,()))))) (n+1) (mm l k:Int)=some ((),(l.set (mm l k) (1+65536*k+v),((0:Int),(true,())))):=λn=>by
   simp only[wR,WG c,Ws c,Ww c,e,Wa,beq_self_eq_true];rw[Xj,Vt d i]
  rcases b with b|⟨b,g⟩
  .rw[p,←b];exact j _
  .have ae:(4*bK k).toNat<l.length:=by omega
   have s:al l (4*bK k) 0=l[(4*bK k).toNat]:=WA ae _;rw[s]at g;rw[p,wR];simp only[WG ae,Ws ae,Ww ae,Wa];rw[show(l[(4*bK k).toNat]==0)=false by simpa using g,Wk (by omega),←b];exact j _
theorem QJ(h:SlOk l)(d:0<=k/\k<=7)(b:1048576<N):EU N l k=some ((),(q6 l k,(aX l k,(true,())))):=by
 have m:=h.len;unfold EU;rw[Gr (by omega),CK h b,CW d,LD h d.1 b];simp only[ret,Xd,Xn,Wb];unfold q6 aX;cases hr:eM l k with
 |none=>rfl
 |some r=>
  obtain⟨c,e,f,g,i,j⟩:=qu h hr;simp only[Wi (show¬((r.1:Int)<0) by omega),Wb,WH,Wc c,Wa,Xj];rw[WA c,e,CT (by omega) ⟨f,g⟩,Xd];simp only;rw[WD (a:=1) (by unfold I64;omega),Int.add_comm 1 ((r.2-1)%65536)]
theorem RH(h:ShOk s):EO N s=ret s:=by
 unfold EO;rw[Gr (by have:=h.slots.len;omega)];rfl
theorem Wle(d:UnV u):J0 N u=ret true:=by
 unfold J0;rcases d with⟨a,b,c⟩|⟨a,b,c⟩|⟨a,b,c⟩
 .rw[a,CW b,W8,fR.2 c];rfl
 .rw[a,CW b,c];rfl
 .rw[a,b,W8,fR.2 c];rfl
theorem Wki(h:ShOk s)(e:UnV u)(d:1048576<N):JB N s u=some ((),(ux s u,(true,()))):=by
 unfold JB ux;rw[RH h,QO h d,Wle e];simp only[ret,Xd,Xn,Wb];have i:=h.cnt;rcases e with⟨a,b,c⟩|⟨a,b,c⟩|⟨a,b,c⟩
 .rw[a,KQ h.slots b c d];rfl
 .rw[a,QJ h.slots b d];rfl
 .have e1:Wv .i64 s.2 u.2.2=s.2-u.2.2:=WM (by unfold I64;omega);have f:Wj .i64 (s.2-u.2.2) 65536=s.2-u.2.2+65536:=WD (by unfold I64;omega);have g:aP (s.2-u.2.2+65536) 65536=(s.2-u.2.2+65536)%65536:=gQ (by omega);rw[a,e1,f,g];rfl
theorem R3{e:Int}(a:0<=e/\e<=65536):EP N k e=ret (nb k e):=by
 unfold EP nb;by_cases h:e=0
 .rw[h];rfl
 .rw[show(e==0)=false by simpa using h,We h,WM (by unfold I64;omega)];rfl
theorem Wm6(a:bj o=true)(b:12<=o.1):Ik N o=some ((),((cV o).1,((cV o).2,()))):=by
 have c:=nE a;unfold Ik cV;rw[CI,Gu a b];simp only[ret,Xd,bne_self_eq_false,Wb,Wu];have:o.1=12\/o.1=13\/o.1=14\/o.1=15\/o.1=16:=by omega
 rcases this with h|h|h|h|h<;>simp[h]
theorem WjR(h:ShOk s)(m:Vals 4 r)(d:bj o=true)(p:12<=o.1)(k:1048576<N):
  JC N s o r=some ((),((eF s o r).1,((eF s o r).2.1,((eF s o r).2.2,(true,()))))):=by
 have u:=nE d;have e:=m.len;have q:=h.cnt;unfold JC eF;rw[RH h,Gr (by omega)];simp only[ret,Xd];rw[QO h k,Fq (by omega) k,m0.2 m,CI,Gu d p];simp only[ret,Xd,Xn,Wb,bne_self_eq_false,Wu,show inz (65536:Int)=true from rfl,Wa,Wp,cZ];by_cases f:o.1=12
 .obtain⟨a,b,c⟩:=zV d f;rw[lU]at a;rw[Wf f,Wf f,WV b e,WV c e];have l:=lQ s.1 o.2.1;rw[KQ h.slots a (m.get _) k];simp only[Wa,Xd,R3 l,ret];rw[gQ (by omega)];rfl
 rw[We f,We f];by_cases i:o.1=14
 .obtain⟨a,b⟩:=zD d i;rw[lU]at a;have l:=lQ s.1 o.2.1;rw[Wf i,We (by omega),Wf i,WV b e,QJ h.slots a k];simp only[Wa,Xd,R3 l,ret];rw[gQ (by omega)];rfl
 rw[We i];by_cases g:o.1=13
 .obtain⟨a,b⟩:=DT d g;rw[lU]at b;have l:=lQ s.1 o.2.2.1;rw[Wf g,Wf g,WV a e,QS h.slots b k];simp only[Wa,Xd];by_cases n:aX s.1 o.2.2.1=0
  .rw[n];rfl
  .rw[We n,Wc n,WD (by unfold I64;omega),gQ (by omega),Int.sub_add_cancel];simp only[Wa,mC];rfl
 rw[We g,We g,We i];by_cases j:o.1=15
 .have a:=XR d j;have t:=m.get o.2.1.toNat;rw[Wf j,Wf j,WV a e];simp only[Wa];rw[WD (by unfold I64;omega),gQ (by omega)];rfl
 .rw[We j,We j,WV (XK d (by omega)) e];rfl
end
section
variable{N:Nat}{l:List Hd}{who what mode b:Int}
theorem Rh(h:HOk l)(g:l.length<=1048576)(f:1048576<N):x7 N l who what=ret (dK l who what):=by
 unfold x7 dK;rw[Fb h g f];simp only[ret,Xd,Xn,Wb];have e:=WB (l:=l) (V:=Unit) (R:=Unit×Kj) (lp:=λn j v=>s9 N l who what (λb=>some ((),(b,()))) (λo m=>some ((),((0:Int),()))) n j) (n:=N) (by omega)
  (body:=λj x v k=>bif fJ who what x then some ((),(x.2.2,()))else k v) (K:=λ_ v=>some ((),((0:Int),())))
  (λn i v a=>by
   simp only[s9,WG a,Ws a,Ww a,Wk (show i<4611686018427387904 by omega),Wa];unfold fJ;by_cases c:l[i].1=who<;>by_cases d:l[i].2.1=what<;>simp[Wu,c,d])
  (λn v=>by simp[s9,WP,Xm,Wb]) ()
 refine(e.trans (yM (p:=fJ who what) (E:=λ_ x=>some ((),(x.2.2,()))) l 0 () λj x v k _=>rfl)).trans ?_;cases fnd (fJ who what) l 0<;>rfl
theorem Ud(h:HOk l):dK l who what>0↔∃x∈l,x.1=who/\x.2.1=what:=by
 unfold dK;cases hf:fnd (fJ who what) l 0 with
 |none=>
  refine⟨λz=>by simp at z,λ⟨x,e,c,d⟩=>?_⟩;have:=Db hf x e;simp[fJ,c,d]at this
 |some r=>
  have g:=kr hf;have b:=fN g.2.2.2;have a:fJ who what r.2=true:=g.1;unfold fJ at a;simp only[Xh,Wg]at a;exact⟨λ_=>⟨r.2,b,a.1,a.2⟩,λ_=>by have:=(h.val _ b).2.2;show r.2.2.2>0;omega⟩
def qJ(l:List Hd)(who:Int)(c:Nat):List Int:=((List.range' c (9-c)).filter λw:Nat=>decide (dK l who (w:Int)>0)).map λw:Nat=>(w:Int)
theorem KR(h:HOk l)(e:l.length<=1048576)(b:1048576<N):∀(d c n:Nat) (o:List Int),c+d=9->d<n->o.length<=c->
  s0 N l who (λk m f=>some ((),(f,()))) n (c:Int) o=ret (o++qJ l who c)
 |d,c,0,o,_,p,_=>by omega
 |0,c,n+1,o,j,_,_=>by
  have:c=9:=by omega
  subst this;simp[s0,qJ,ret]
 |d+1,c,n+1,o,j,q,ho=>by
  have g:decide ((c:Int)<9)=true:=by simp;omega
  have i:qJ l who c=(if dK l who (c:Int)>0 then [(c:Int)]else [])++qJ l who (c+1):=by
   unfold qJ;rw[show 9-c=(9-(c+1))+1 by omega,List.range'_succ];by_cases a:dK l who (c:Int)>0
   .rw[Wf a,List.filter_cons_of_pos (by simpa using a)];rfl
   .rw[We a,List.filter_cons_of_neg (by simpa using a)];rfl
  rw[s0,g,Wa,Rh h e b];simp only[ret,Xd,WX];rw[i,Wk (show c<4611686018427387904 by omega)];by_cases a:dK l who (c:Int)>0
  .rw[Wf a,Wf a,Wn (by simp;omega)];simp only[Wa,d1];rw[KR h e b d (c+1) n _ (by omega) (by omega) (by simp;omega)];simp
  .rw[We a,We a,KR h e b d (c+1) n _ (by omega) (by omega) (by omega)];simp
theorem Wkh(h:HOk l)(b:l.length<=1048576)(a:1048576<N):xT N l who=ret (qJ l who 0):=by
 unfold xT;exact KR h b a 9 0 N [] (by omega) (by omega) (by simp)
theorem WoL(h:HOk l):(qJ l who 0).length=0↔(o7 l who).length=0:=by
 unfold qJ o7;rw[Xt,Xt,Yf,Yf,YE,YE];constructor
 .intro z x a e;have b:=h.val x a;refine z x.2.1.toNat (by rw[List.mem_range'_1];have:=b.2.1;omega) ?_;rw[Wg,Int.toNat_of_nonneg b.2.1.1,Ud h];exact⟨x,a,by simpa using e,rfl⟩
 .intro z w hw e;rw[Wg,Ud h]at e;obtain⟨x,a,c,d⟩:=e;exact z x a (by simpa using c)
theorem Wmf(h:HOk l)(b:1<=mode/\mode<=2)(r:l.length<=1048576)(q:1048576<N):B3 N l who what mode=ret (m6 l who what mode):=by
 unfold B3 m6;rw[Fb h r q,ct];simp only[ret,Xd,Xn,Wb,Wc b.1,Wc b.2,c3];have o:=WB (l:=l) (V:=List Int) (R:=Unit×(List Int×Unit)) (lp:=λn j v=>mJ N l who what mode (λu s c=>(some ((),(c,())))) n j v) (n:=N) (by omega)
  (body:=λj x v k=>bif x.2.1==what then(bif x.1 !=who then(bif mode==2 then(bif Wx (v.length+ [x.1].length)then k (Xf v [x.1])else none)else(bif x.2.2==2 then(bif Wx (v.length+ [x.1].length)then k (Xf v [x.1])else none)else k v))else k v)else k v) (K:=λ_ v=>ret v)
  (λn i v a=>by simp only[mJ,WG a,Ws a,Ww a,Wk (show i<4611686018427387904 by omega),Wa])
  (λn v=>by simp[mJ,WP,Xm,Wb]) []
 refine o.trans ?_;rw[yQ (p:=blk who what mode) (f:=(·.1)) l 0 [] (by simp;omega) (λj x v k _ t=>by
  rw[Wn (by simp;omega)];unfold blk;simp only[Wu,eJ,Wa,d1];by_cases d:x.2.1=what<;>by_cases e:x.1=who<;>by_cases g:mode=2<;>by_cases m:x.2.2=2<;>simp[d,e,g,m])]
 rfl
theorem WjG(h:HOk l)(e:l.length<=1048576)(d:1048576<N):A5 N l who=ret (WW l who):=by
 unfold A5 WW;rw[Fb h e d];simp only[ret,Xd];have c:=WB (l:=l) (V:=List Hd) (R:=Unit×(List Hd×Unit)) (lp:=λn j v=>qb N l who true (λo g b=>(some ((),(b,())))) n j v) (n:=N) (by omega)
  (body:=λj x v k=>bif x.1 !=who then(bif Wx (v.length+ [x].length)then k (Xf v [x])else none)else k v) (K:=λ_ v=>ret v)
  (λn i v a=>by simp only[qb,WG a,Ws a,Ww a,Wk (show i<4611686018427387904 by omega),Wa,Xn,Wb])
  (λn v=>by simp[qb,WP,Xm,Wb]) []
 refine c.trans ?_;rw[yQ (p:=λh=>!(h.1==who)) (f:=λh=>h) l 0 [] (by simp;omega) (λj x v k _ m=>by
  rw[Wn (by simp;omega)];rfl)]
 simp[ret]
theorem GL{e:Hd}{who what b:Int}(g:e=(who,what,b)):∀(r a o:List Hd) (h:Bool) (n:Nat),l=a++r->r.length<n->l.length<=1000->o.length+2*r.length<=5000->Ris cfH r->(h=true->∀x∈r,¬(x.1=who/\x.2.1=what))->
  Zp N l who what b (λR U W B=>
  (bif !R then
 (bif Wx ((Xb B)+(Xb ([(who,(what,b))])))then
 (some ((),(Xf B ([(who,(what,b))]),(true,()))))else none)
 else
 (some ((),(B,(true,())))))) n h (a.length:Int) o=some ((),(o++(if h=true then r else cd cfH r e),(true,())))
 |r,a,o,h,0,_,G,_,_,_,_=>by omega
 | [],a,o,h,n+1,m,_,t,H,_,_=>by
  have J:decide ((a.length:Int)<Wh l)=false:=by rw[m];simp[Wh]
  rw[Zp,J,Wb];cases h
  .simp only[bS,Wa];rw[Wn (by simp;omega),g];rfl
  .simp
 |x::r,a,o,h,n+1,m,O,t,H,I,hd=>by
  have w:a.length<l.length:=by rw[m];simp
  have P:l[a.length]=x:=by simp[m]
  have C:l=(a++ [x])++r:=by rw[m];simp
  have A:Ris cfH r:=(Xu.1 I).2;have S:∀y∈r,cfH x y<0:=(Xu.1 I).1;have K:(a.length:Int)+1=((a++ [x]).length:Int):=by simp
  have u:∀v:List Hd,v.length<=6000->∀y:Hd,Wx (v.length+ [y].length)=true:=λv V y=>Wn (by simp;omega);have Q:Wj .i64 (a.length:Int) 1=((a++ [x]).length:Int):=by rw[WD (by unfold I64;omega),K]
  rw[Zp];simp only[WG w,Ws w,Ww w,P,Wa,Q,d1];simp only[Xs]at O H;cases h with
  |true=>
   have M:=hd rfl x (List.mem_cons_self ..);simp only[Xn,Wb];have D:=GL g r (a++ [x]) (o++ [x]) true n C (by omega) t (by simp;omega) A λ_ y p=>hd rfl y (List.mem_cons_of_mem _ p);rw[u o (by omega) x];simp only[eJ,Wa];have fin:o++ [x]++(if true=true then r else cd cfH r e)=o++(if true=true then x::r else cd cfH (x::r) e):=by simp
   rw[fin]at D;by_cases c:x.2.1=what
   .rw[Wf c,We (λz=>M ⟨z,c⟩)];exact D
   .rw[We c];exact D
  |false=>
   simp only[bS,Wa,WX];rw[u o (by omega) x,u o (by omega) (who,what,b),u (o++ [(who,what,b)]) (by simp;omega) x];simp only[eJ,Wa];have F:=GL g r (a++ [x]) (o++ [x]) false n C (by omega) t (by simp;omega) A (λz=>by cases z);have E:∀y∈r,¬cfH x e<0->¬(y.1=who/\y.2.1=what):=λy p j z=>by
    have:=S y p;have G:cfH x y<0↔cfH x e<0:=Lr rfl rfl (by rw[g];exact z.1) (by rw[g];exact z.2);exact j (G.1 this)
   have f:cfH x e<0↔¬(x.2.1>what)/\¬(x.2.1=what/\x.1>=who):=by
    rw[g,gg];simp only;omega
   have d:¬cfH x e<0->(cfH e x<0↔¬(x.1=who/\x.2.1=what)):=by
    rw[g,gg,gg];simp only;omega
   have T:¬cfH x e<0->Zp N l who what b _ n true ((a++ [x]).length:Int) (if x.1=who/\x.2.1=what then o++ [(who,what,b)]else o++ [(who,what,b)]++ [x])=some ((),(o++(if false=true then x::r else cd cfH (x::r) e),(true,()))):=λj=>by
    rw[GL g r (a++ [x]) _ true n C (by omega) t (by split<;>(simp;omega)) A λ_ y p=>E y p j];have L:cd cfH (x::r) e=if x.1=who/\x.2.1=what then e::r else e::x::r:=by
     rw[cd,We j];by_cases c:x.1=who/\x.2.1=what
     .rw[Wf c,We (λz=>(d j).1 z c)]
     .rw[We c,Wf ((d j).2 c)]
    simp only[reduceIte,dq];rw[L,g];by_cases c:x.1=who/\x.2.1=what
    .rw[Wf c,Wf c];simp
    .rw[We c,We c];simp
   by_cases s:cfH x e<0
   .obtain⟨k,i⟩:=f.1 s;have fin:o++ [x]++(if false=true then r else cd cfH r e)=o++(if false=true then x::r else cd cfH (x::r) e):=by
     rw[We (by simp),We (by simp),cd,Wf s];simp
    rw[fin]at F;rw[We k];simp only[Wu];by_cases c:x.2.1=what
    .rw[Wf c,We (λz=>i ⟨c,z⟩),Wf c,We (λz=>i ⟨c,by omega⟩)];exact F
    .rw[We c,We c];exact F
   .have hh:=T s;by_cases k:x.2.1>what
    .rw[We (by omega)]at hh;rw[Wf k,We (by omega)];exact hh
    .rw[We k];have i:x.2.1=what/\x.1>=who:=by
      apply Classical.byContradiction;intro z;exact s (f.2 ⟨k,z⟩)
     simp only[Wu];rw[Wf i.1,Wf i.2,Wf i.1];by_cases q:x.1=who
     .rw[Wf ⟨q,i.1⟩]at hh;rw[Wf q];exact hh
     .rw[We (λz=>q z.1)]at hh;rw[We q];exact hh
theorem Wj5(h:HOk l)(f:1<=who/\who<=9)(d:0<=what/\what<=8)(c:1<=mode/\mode<=2)(i:l.length<=1000)(b:1048576<N):
  BX N l who what mode=some ((),((mb l who what mode).getD l,((mb l who what mode).isSome,()))):=by
 unfold BX mb;rw[Fb h (by omega) b,ct,ct,ct,Wmf h c (by omega) b];simp only[ret,Xd,Xn,Wb,Wc f.1,Wc f.2,Wc d.1,Wc d.2,Wc c.1,Wc c.2,c3,WX];by_cases a:m6 l who what mode= []
 .rw[We (by rw[a];simp[Wh]),Wf a,Rh h (by omega) b];simp only[ret,Xd];have g:mz mode (dK l who what)=gt (dK l who what) mode:=by unfold mz gt;split<;>split<;>omega
  rw[g];have:=GL (N:=N) (l:=l) (e:=(who,what,gt (dK l who what) mode)) rfl l [] [] false N (by simp) (by omega) i (by simp;omega) h.ris (λz=>by cases z);refine this.trans ?_;rfl
 .rw[Wf (by
   have:=List.length_pos_iff.2 a;unfold Wh;omega),We a,Wn (by simp;omega)]
  rfl
end
section
variable{N:Nat}{c:Cm}{m:Mm}
theorem Fo(a:W2 m=true):oC N m=ret m:=by
 have:=(WE a).1;simp_all [oC,Wn]
theorem Rv(h:CmOk c):EQ N c.e=ret c.e:=by
 have k:=h.plen;have l:=h.rlen;obtain⟨d,f,g,i,j,a,b⟩:=cmP c;unfold EQ;simp only[a,b,j0,bX,Wn (show c.ψ.length<=1073741824 by omega),Wn (show c.κ.length<=1073741824 by omega),Wa];rfl
theorem Rj{l:List Int}(f:l.Pairwise (· < ·))(c:∀x∈l,0<=x/\x<=7)(k:l.length<=8){X Y:Option Kq}:∀(d i n:Nat),i+d=l.length->d<n->sf N l X (λ_ _=>Y) n (i:Int)=Y
 |d,i,0,_,h=>by omega
 |0,i,n+1,h,_=>by
  rw[sf,WP (by omega),Wb]
 |d+1,i,n+1,h,hn=>by
  have a:i<l.length:=by omega
  have m:=Rj f c k (X:=X) (Y:=Y) d (i+1) n (by omega) (by omega);have o:bO l[i]=true:=yX (c _ (Xy a));rw[sf];simp only[WG a,Ws a,Ww a,Wk (show i<4611686018427387904 by omega),Wa,lO,o,ret,Xd,Xn,Wb,m];by_cases g:i=0
  .subst g;rfl
  .obtain⟨j,rfl⟩:∃j,i=j+1:=⟨i-1,by omega⟩;have b:j<l.length:=by omega
   have e:Wv .i64 ((j+1:Nat):Int) 1=(j:Int):=by rw[WM (by unfold I64;omega)];omega
   have p:=(gu.1 f) j (j+1) b a (by omega);rw[e,Ws b,Ww b,Wi (show¬l[j+1]<=l[j] by omega)];simp
theorem R7(k:c.ψ.Pairwise λa b=>a.1<b.1)(o:c.ψ.length<=8){X Y:Option Kq}:∀(d i n:Nat),1<=i->c.ψ.length<=i+d->d<n->AK N c.e X (λ_ _=>Y) n (i:Int)=Y
 |d,i,0,_,_,h=>by omega
 |d,i,n+1,x,h,hn=>by
  obtain⟨r,s,t,u,v,l,w⟩:=cmP c;rw[AK];simp only[l];by_cases f:i<c.ψ.length
  .obtain⟨d,rfl⟩:∃m,d=m+1:=⟨d-1,by omega⟩;have p:=R7 k o (X:=X) (Y:=Y) d (i+1) n (by omega) (by omega) (by omega);obtain⟨j,rfl⟩:∃j,i=j+1:=⟨i-1,by omega⟩;have g:j<c.ψ.length:=by omega
   have e:Wv .i64 ((j+1:Nat):Int) 1=(j:Int):=by rw[WM (by unfold I64;omega)];omega
   have q:=(gu.1 k) j (j+1) g f (by omega);simp only[WG f,Ws f,Ww f,e,Ws g,Ww g,Wa,Wi (show¬c.ψ[j+1].1<=c.ψ[j].1 by omega),Wb,Wk (show j+1<4611686018427387904 by omega)];exact p
  .rw[show decide ((i:Int)<Wh c.ψ)=false by unfold Wh;simp;omega,Wb]
theorem WrA:J2 N c.e=ret c.steps:=by
 obtain⟨f,g,a,h,i,b,d⟩:=cmP c;unfold J2 Cm.steps;simp only[a,b,d,Wu]
 repeat' split
 all_goals first
  |rfl
  |omega
theorem R6(h:CmOk c)(n:1048576<N):xR N c.e=ret true:=by
 obtain⟨a,b,d,f,g,i,j⟩:=cmP c;have l:=h.plen;have m:=h.rlen;have q:c.steps<=8:=by unfold Cm.steps;split<;>(try split)<;>omega
 have k:=h.pos;unfold xR;have o:EC N c.κ=ret true:=Rj h.rup h.rd m c.κ.length 0 N (by omega) (by omega);have p:cb c.ψ=true:=by
  unfold cb;rw[F9.2 h.ε,Wc (by omega)];rfl
 simp only[a,b,d,f,g,i,j,ct,ret,Xd,Wc h.who.1,Wc h.who.2,Wc h.rv.1,Wc h.rv.2,Wc h.wv.1,Wc h.wv.2,Wc h.ζ.1,Wc h.ζ.2,c3,Xn,Wb,Fp (show c.ψ.length<=1048576 by omega) n,p,o,WrA];refine(R7 h.pup l 8 1 N (by omega) (by omega) (by omega)).trans ?_;rw[WM (by unfold I64;omega),Wc k.1,Wc (by omega)];rfl
theorem Fk(h:CmOk c){n:Int}(a:0<=n/\n<=8):ki N c.e n=ret (kJ c n).e:=by
 unfold ki kJ;by_cases e:n=0
 .rw[e];rfl
 .rw[show(n==0)=false by simpa using e,We e,Wb,WM (by unfold I64;omega)];rfl
theorem WnM(h:CmOk c)(l:1048576<N):∃b,HS N c.e=some ((),((fY c).e,(b,()))):=by
 obtain⟨m,n,i,j,o,k,p⟩:=cmP c;have r:=h.plen;have q:=h.pos;have t:c.steps<=8:=by have:=h.plen;have:=h.rlen;unfold Cm.steps;split<;>(try split)<;>omega
 have s:=h.ζ;unfold HS fY;rw[Rv h,R6 h l];simp only[ret,Xd,Xn,Wb,WX,Wu,i,j,k];have f:=Fk (N:=N) h (show 0<=c.pos/\c.pos<=8 by omega);have g:=Fk (N:=N) h (show 0<=Wh c.ψ/\Wh c.ψ<=8 by unfold Wh;omega);rw[f,g];by_cases d:c.ζ>3
 .rw[Wf d,We (by omega),We (by omega)];exact⟨_,rfl⟩
 .rw[We d];by_cases a:c.ζ=1
  .rw[Wf a,Wf a];exact⟨_,rfl⟩
  .rw[We a,We a,Wf (by omega)];exact⟨_,rfl⟩
theorem Wj4{l:List Rw}(e:l.length<=1048576)(d:1048576<N):BW N l=ret ((aA l).map (·.1)):=by
 unfold BW;rw[Fz e d];simp only[ret,Xd];have h:=o0 l;have c:=WB (l:=aA l) (V:=List Int) (R:=Unit×(List Int×Unit)) (lp:=λn j v=>wS N (aA l) (λo g b=>(some ((),(b,())))) n j v) (n:=N) (by omega)
  (body:=λj x v k=>bif Wx (v.length+ [x.1].length)then k (Xf v [x.1])else none) (K:=λ_ v=>ret v)
  (λn i v a=>by simp only[wS,WG a,Ws a,Ww a,Wk (show i<4611686018427387904 by omega),Wa])
  (λn v=>by simp[wS,WP,Xm,Wb]) []
 refine c.trans ?_;rw[yQ (p:=λ_=>true) (f:=(·.1)) (aA l) 0 [] (by simp;omega) (λj x v k _ m=>by rw[Wn (by simp;omega)];rfl),show(aA l).filter (λ_=>true)=aA l from List.filter_eq_self.2 λ_ _=>rfl];rfl
theorem WqX{who rv:Int}{ψ κ:List Rw}(f:1<=who/\who<=99)(d:0<=rv/\rv<=1000000)(c:cb ψ=true)(b:cb κ=true)(a:1048576<N):xJ N who rv ψ κ=some ((),((g0 who rv ψ κ).e,(true,()))):=by
 have g:ψ.length<=300:=by unfold cb at c;simp at c;exact c.1
 have h:κ.length<=300:=by unfold cb at b;simp at b;exact b.1
 unfold xJ g0;simp only[ct,ret,Xd,Wc f.1,Wc f.2,Wc d.1,Wc d.2,c3,Xn,Wb,Fp (show ψ.length<=1048576 by omega) a,Fp (show κ.length<=1048576 by omega) a,c,b,Fz (show ψ.length<=1048576 by omega) a,Wj4 (show κ.length<=1048576 by omega) a,Wu];by_cases e:(aA ψ).length=0
 .rw[Wf (by unfold Wh;omega),Wf e];rfl
 .rw[We (by unfold Wh;omega),We e];rfl
theorem Wpf(a:W2 m=true){i who:Int}(hi:0<=i/\i<=7)(b:1<=who/\who<=99)(c:1048576<N):
  E8 N m i who=some ((),((if(aK m i).2.2=0 then G7 m i who else m),(decide ((aK m i).2.2=0),()))):=by
 unfold E8;rw[Fo a,CH (by grind [WE]) c,a];simp only[ret,Xd,Xn,Wb,lO,yX hi,ct,Wc b.1,Wc b.2,c3,jE a hi,Wa,qG,eJ];by_cases h:(aK m i).2.2=0
 .rw[Wf h,Wf h,Wc h];rfl
 simp_all
theorem RT(a:W2 m=true){i who:Int}(hi:0<=i/\i<=7)(b:1<=who/\who<=99)(c:1048576<N):E3 N m i who=ret ((aK m i).2.2==who):=by
 unfold E3;rw[CH (by grind [WE]) c,a];simp only[ret,Xd,lO,yX hi,ct,Wc b.1,Wc b.2,c3,jE a hi,Wa,qG]
theorem Wod(a:W2 m=true){i who v:Int}(hi:0<=i/\i<=7)(e:1<=who/\who<=99)(d:0<=v/\v<=65535)(c:1048576<N):
  ∃b,E0 N m i who v=some ((),(u6 m i who v,(b,()))):=by
 unfold E0 u6;rw[Fo a,RT a hi e c];simp only[ret,Xd,W8,fR.2 d,Xn,Wb,jE a hi,Wa,qG];by_cases h:(aK m i).2.2=who
 .rw[Wf h,beq_iff_eq.2 h];exact⟨true,rfl⟩
 .rw[We h,beq_eq_false_iff_ne.2 h];exact⟨false,rfl⟩
theorem Rf(c:W2 m=true){i who ver:Int}(hi:0<=i/\i<=7)(e:1<=who/\who<=99)(d:1048576<N):
  ∃b,x9 N m i who ver=some ((),(qT m i who ver,(b,()))):=by
 have f:=(WE c).1;unfold x9 qT;rw[Fo c,RT c hi e d];simp only[ret,Xd,ct,jE c hi,Wa,qG,cZ,Wp];by_cases h:(aK m i).2.2=who
 .rw[beq_iff_eq.2 h];simp only[Xn,Wb];by_cases a:(aK m i).2.1<=ver/\ver<=m.1
  .rw[Wf ⟨h,a.1,a.2⟩,Wc a.1,Wc a.2];refine⟨true,?_⟩;have:i.toNat<m.2.length:=by omega
   simp only[c3,Xn,Wb,Ra this,mC];rfl
  .rw[We (by omega)];refine⟨false,?_⟩
   grind
 .rw[We (λz=>h z.1),beq_eq_false_iff_ne.2 h];exact⟨false,rfl⟩
theorem Ta{a:Int}:mS N c.e a=ret (pr c a).e:=by
 obtain⟨i,j,k,l,m,f,g⟩:=cmP c;unfold mS pr pp;simp only[Wu,f,g,Wh];by_cases d:a=3
 .subst d;by_cases h:c.κ.length=0<;>by_cases b:c.ψ.length=0<;>simp[h,b]<;>rfl
 .by_cases h4:a=4
  .subst h4;by_cases b:c.ψ.length=0<;>simp[b]<;>rfl
  .simp[d,h4];rfl
theorem Woy(h:CmOk c)(g:W2 m=true)(l:1048576<N):H1 N m c.e=some ((),((iP m c).1,((iP m c).2.e,()))):=by
 obtain⟨J,K,L,O,P,Q,R⟩:=cmP c;have T:=h.pos;have U:=h.plen;have C:=h.who;have W:c.steps<=8:=by have:=h.plen;have:=h.rlen;unfold Cm.steps;split<;>(try split)<;>omega
 have H:=Fk (N:=N) h (show 0<=c.pos/\c.pos<=8 by omega);have I:=Fk (N:=N) h (show 0<=Wh c.ψ/\Wh c.ψ<=8 by unfold Wh;omega);have S:Wj .i64 c.pos 1=c.pos+1:=WD (by unfold I64;omega);have D:∀(M:Mm) (E n:Int),n=c.steps->(bif (c.pos+1)==n then((mS N (c.who,(c.rv,(c.ζ,(c.pos+1,c.e.2.2.2.2)))) E).bind λo=>(some ((),(M,(o.2.1,()))):Option (Unit×(Mm×(_×Unit)))))else some ((),(M,((c.who,(c.rv,(c.ζ,(c.pos+1,c.e.2.2.2.2)))),()))))=some ((),(M,((mj c E).e,()))):=λM E n V=>by
  unfold mj;rw[show(c.who,(c.rv,(c.ζ,(c.pos+1,c.e.2.2.2.2))))=Cm.e {c with pos:=c.pos+1}from rfl,Ta];simp only[ret,Xd,Wu];by_cases e:c.pos+1=c.steps
  .rw[Wf (by omega),Wf e];rfl
  .rw[We (by omega),We e]
 unfold H1 iP;rw[Fo g,Rv h];simp only[ret,Xd];rw[CH (by grind [WE]) l,R6 h l,g];simp only[ret,Xd,Xn,Wb,J,K,L,O,P,Q,R,fV,H,I,S];by_cases u:c.ζ=1
 .rw[beq_iff_eq.2 u,Wa,Wf u];obtain⟨j,k,i,d,f,r⟩:=h.put (by omega);have q:c.steps=Wh c.ψ:=by unfold Cm.steps Wh;rw[Wf (.inl u)]
  rw[show Xc c.ψ (Xa c.pos) ((0:Int),(0:Int))=c.ψ[j]from d,d,show inb c.pos c.ψ.length=true by rw[i,WH,Wc k],Wpf g f C l];simp only[Xd,Wa];by_cases t:(aK m c.ψ[j].1).2.2=0
  .rw[Wf t,Wf t,Wc t];exact D _ 2 _ q.symm
  .rw[We t,We t,Wi t];rfl
 rw[beq_eq_false_iff_ne.2 u,Wb,We u];by_cases x:c.ζ=2
 .rw[beq_iff_eq.2 x,Wa,Wf x,WnQ g l];simp only[Xd,Wu];by_cases p:(tick m).2=0
  .have h0:=(WE g).2.1;have:(tick m).1=m:=by
    unfold tick at p⊢;by_cases F:m.1<1000000
    .rw[Wf F]at p;simp only at p;omega
    .rw[We F]
   rw[Wf p,Wf p,this];rfl
  .rw[We p,We p];rw[show(c.who,(c.rv,(c.ζ,(c.pos,((tick m).2,c.e.2.2.2.2.2)))))=Cm.e {c with wv:=(tick m).2}from rfl,Ta];rfl
 rw[beq_eq_false_iff_ne.2 x,Wb,We x];by_cases s:c.ζ=3
 .rw[beq_iff_eq.2 s,Wa,Wf s];obtain⟨j,k,i,d,f,r⟩:=h.read s;have q:c.steps=Wh c.κ:=by unfold Cm.steps Wh;rw[We (by omega),Wf s]
  rw[show Xc c.κ (Xa c.pos) (0:Int)=c.κ[j]from d,d,show inb c.pos c.κ.length=true by rw[i,WH,Wc k],jE g ⟨f,r⟩];simp only[Wa,eJ,WX];rw[show Xc m.2 (Xa c.κ[j]) ((0:Int),((0:Int),(0:Int)))=aK m c.κ[j]from rfl];have G:=D m 4 _ q.symm;by_cases a:(aK m c.κ[j]).2.2=0
  .rw[Wf a];by_cases b:(aK m c.κ[j]).2.1>c.rv
   .rw[Wf b,Wf (.inr b)];rfl
   .rw[We b,We (λz=>z.elim (λz=>z.1 a) b)];exact G
  .rw[We a];by_cases w:(aK m c.κ[j]).2.2=c.who
   .rw[Wf w];by_cases b:(aK m c.κ[j]).2.1>c.rv
    .rw[Wf b,Wf (.inr b)];rfl
    .rw[We b,We (λz=>z.elim (λz=>z.2 w) b)];exact G
   .rw[We w,Wf (.inl ⟨a,w⟩)];rfl
 rw[beq_eq_false_iff_ne.2 s,Wb,We s];by_cases y:c.ζ=4
 .rw[beq_iff_eq.2 y,Wa,Wf y];obtain⟨j,k,i,d,f,r⟩:=h.put (by omega);have q:c.steps=Wh c.ψ:=by unfold Cm.steps Wh;rw[Wf (by omega)]
  obtain⟨b,v⟩:=Wod g f C r l;rw[show Xc c.ψ (Xa c.pos) ((0:Int),(0:Int))=c.ψ[j]from d,d,show inb c.pos c.ψ.length=true by rw[i,WH,Wc k],v];exact D _ 5 _ q.symm
 rw[beq_eq_false_iff_ne.2 y,Wb,We y];by_cases A:c.ζ=5
 .rw[beq_iff_eq.2 A,Wa,Wf A];obtain⟨j,k,i,d,f,r⟩:=h.put (by omega);have q:c.steps=Wh c.ψ:=by unfold Cm.steps Wh;rw[Wf (by omega)]
  obtain⟨b,v⟩:=Rf (ver:=c.wv) g f C l;rw[show Xc c.ψ (Xa c.pos) ((0:Int),(0:Int))=c.ψ[j]from d,d,show inb c.pos c.ψ.length=true by rw[i,WH,Wc k],v];simp only[Xd,Wa,Wu];unfold mj;by_cases e:c.pos+1=c.steps
  .rw[Wf (by omega),Wf e];unfold pr;rw[show pp c 6=6 by unfold pp;rw[We (by omega),We (by omega)]];rfl
  .rw[We (by omega),We e];rfl
 rw[beq_eq_false_iff_ne.2 A,Wb,We A];by_cases B:c.ζ=7
 .rw[beq_iff_eq.2 B,Wa,Wf B];obtain⟨j,k,i,d,f,r⟩:=h.put (by omega);obtain⟨b,v⟩:=Rf (ver:=(aK m c.ψ[j].1).2.1) g f C l;rw[show Xc c.ψ (Xa c.pos) ((0:Int),(0:Int))=c.ψ[j]from d,d,show inb c.pos c.ψ.length=true by rw[i,WH,Wc k],jE g f,show Xc m.2 (Xa c.ψ[j].1) ((0:Int),((0:Int),(0:Int)))=aK m c.ψ[j].1 from rfl,v];rfl
 .rw[beq_eq_false_iff_ne.2 B,Wb,We B]
end
section
variable{N:Nat}{w:Wo}{x:Rt}{k:Nat}{p:Pg}{n:Int}{o:Opn}
theorem Df:lM N x.e=ret (gq x).e:=rfl
theorem L1(r:0<=x.Cr/\x.Cr<=2):AN N x.e=ret (kp x).e:=by
 obtain⟨s,t,d,u,v,w,y,z,A,p,j,f,g,a,h,k,l,i,q,m,n,o⟩:=rtP x;unfold AN kp;simp only[Wu,WX,a,d,Wh,Df,ret,Xd];by_cases b:x.θ.length=0
 .rw[Wf (by omega),Wf (.inl b)]
 .rw[We (by omega)];by_cases c:x.Cr=2
  .rw[Wf (by omega),Wf (.inr c)]
  .rw[We (by omega),We (by omega),WD (by unfold I64;omega)];rfl
theorem L5(k:x.υ.length≠0)(h:x.υ.length<=1000)(j:∀u∈x.υ,UnV u)(i:ShOk w.π)(g:1048576<N):
  AO N w.e x.e=some ((),((fH w x).1.e,((fH w x).2.e,()))):=by
 obtain⟨a,b,c,d⟩:=mV k h ((0,0,0):Un);have f:iW x.υ ((0,0,0):Un)∈x.υ:=by
  unfold iW;rw[WA (show x.υ.length-1<x.υ.length by omega)];exact Xy _
 unfold AO fH;simp only[Wp,fV];rw[show P16 x.e=x.υ from rfl,a,b,show w.e.2.2.2.1=w.π from rfl,Wki i (j _ f) g,c,d];simp only[Wa,Xd];rw[Wn (by simp;omega)];rfl
theorem Vc(a:k<=1000):x8 N w.e x.e (k:Int)=some ((),((eA w x k).1.e,((eA w x k).2.e,()))):=by
 unfold x8 eA;rw[au (by omega),show w.e.2.1=w.ω from rfl];simp only[Wu];by_cases h:w.ω=(k:Int)+1
 .rw[Wf h];simp only[Wf h];rfl
 .rw[We h];simp only[We h];rfl
theorem TV(M:k<=8)(i:HOk w.holds)(u:0<=x.rv/\x.rv<=1000000)(r:cb x.κ=true)(s:cb x.ι=true){c:Int}(j:1048576<N):
  ET N w.e x.e (k:Int) c=some ((),((iM w x k c).1.e,((iM w x k c).2.e,()))):=by
 obtain⟨O,P,Q,R,v,S,T,U,V,K,E,p,q,B,C,F,G,D,L,H,I,J⟩:=rtP x;have W:=tU i;have y:x8 N w.e (S8 x.rv (S7 c x.e)) (k:Int)=_:=Vc (w:=w) (x:={x with Ct:=c,Cy:=x.rv}) (k:=k) (by omega);have n:∀ε,cb ε=true->xJ N ((k:Int)+1) x.rv ε x.κ=some ((),((g0 ((k:Int)+1) x.rv ε x.κ).e,(true,()))):=λm t=>WqX (by omega) u t r j;have o:xJ N ((k:Int)+1) x.rv ([]:List Kc) x.κ=some ((),((g0 ((k:Int)+1) x.rv [] x.κ).e,(true,()))):=n [] rfl;have g:=WoL (who:=(k:Int)+1) i;have A:∀{α:Type} (a b:α),(bif ((0:Int)==(0:Int))then a else b)=a:=λ_ _=>rfl;unfold ET iM;simp only[Wp,A];rw[au (by omega),show P4 w.e=w.holds from rfl];simp only[Wu,v,p,q,Wkh (who:=(k:Int)+1) i (by omega) j,ret,Xd,Wh];rw[o,n _ s,y];simp only[Xd];by_cases f:c=2
 .rw[Wf f,Wf f];by_cases d:(o7 w.holds ((k:Int)+1)).length=0
  .rw[Wf (by have:=g.2 d;omega),Wf ⟨rfl,d⟩]
  .rw[We (λz=>d (g.1 (by omega))),We (λh=>d h.2)];rfl
 .rw[We f,We f];by_cases l:x.ι.length=0
  .rw[Wf (by omega)];by_cases d:(o7 w.holds ((k:Int)+1)).length=0
   .rw[Wf (by have:=g.2 d;omega),Wf ⟨l,d⟩]
   .rw[We (λz=>d (g.1 (by omega))),We (λh=>d h.2)];rfl
  .rw[We (by omega),We (λh=>l h.1)];rfl
theorem WtF(G:k<=8)(f:CC p.1)(a:RLive p n x)(h:bj o=true)(c:12<=o.1)(m:ShOk w.π)(g:HOk w.holds)(d:1048576<N):
  IT N w.e x.e (k:Int) o=some ((),((iN w x k o).1.e,((iN w x k o).2.e,()))):=by
 obtain⟨H,I,J,q,K,L,M,O,P,E,l,t,u,v,j,z,A,y,F,B,C,D⟩:=rtP x;obtain⟨R,S,T,U,V,W⟩:=a.sz f;have Q:=tU g;have r:=a.pc;have s:=f.len;have i:(0<=(cV o).1/\(cV o).1<=8)/\1<=(cV o).2/\(cV o).2<=2:=by
  grind [cV,nE,dH,zV,zD,lU,DT]
 unfold IT iN;simp only[Wp,fV];rw[au (by omega),Wm6 h c,show P4 w.e=w.holds from rfl,show w.e.2.2.2.1=w.π from rfl];simp only[Xd,Wj5 g (show 1<=(k:Int)+1/\(k:Int)+1<=9 by omega) i.1 i.2 (by omega) d,q,l,j,L1 a.Cr];cases ha:mb w.holds ((k:Int)+1) (cV o).1 (cV o).2 with
 |none=>rfl
 |some dT=>
  simp only[Yt,Xn,Wb,D8,WjR m a.μ h c d,Xd,eJ];rw[au (by omega),Wn (by simp;omega),Wn (by simp;omega)];by_cases b:(eF w.π o x.μ).2.2.1=0
  .rw[Wf b];simp only[Wf b];rfl
  .rw[We b];simp only[We b];rfl
theorem Wu9(j:CC p.1)(d:RLive p n x)(k:W2 w.mem=true)(z:o.1=5)(B:bj o=true)(g:1048576<N):
  HD N w.e x.e o=some ((w.e,()),((mn w x o).e,())):=by
 obtain⟨Q,R,S,D,E,T,U,V,W,O,t,r,s,H,I,u,y,J,P,K,L,M⟩:=rtP x;obtain⟨X,Y,Z,z4,z5,z6⟩:=d.sz j;obtain⟨A,i⟩:=As B z;have f:0<=o.2.2.1/\o.2.2.1<=7:=by unfold bO at i;simpa using i
 have m:=d.μ.len;have F:=d.pc;have G:=j.len;have h:=d.Cr;unfold HD mn;simp only[Wp,fV];rw[show w.e.2.2.1=w.mem from rfl];simp only[D,E,t,r,s,u,y];rw[KS (by omega) g,gj (by omega),au (by omega)];simp only[ret,Xd];rw[WV A m];cases hl:c9 x.ι o.2.2.1 with
 |some v=>rfl
 |none=>
  have c:=MN d.pb f;simp only[opI,Xd,bS,Wa,d1,List.nil_append,j0,bX];rw[Wn (show x.κ.length<=1073741824 by omega)];cases hb:x.Co with
  |false=>
   rw[hb]at c;simp only[dq,W4]at c;have C:∀q:Pb,S19 q (S18 true x.e)=Rt.e {x with Co:=true,pb:=q}:=λq=>rfl;simp only[bS,Wa,dq,W4,FC k c g,ret,Xd,C,L1 (x:={x with Co:=true,pb:=_}) h,Wu,eJ];generalize cS w.mem x.rv (o.2.2.1,0,0,0)=q;by_cases b:q.2.1=4
   .rw[Wf b,Wf b]
   .rw[We b,We b];by_cases a:q.2.1=3
    .rw[Wf a,Wf a,Wn (by simp;omega)];rfl
    .rw[We a,We a]
  |true=>
   have l:∀q:Pb,S19 q x.e=Rt.e {x with Co:=true,pb:=q}:=λq=>by
    have:S19 q x.e=Rt.e {x with pb:=q}:=rfl;rw[this]
    conv=>lhs;rw[show({x with pb:=q}:Rt)={x with Co:=x.Co,pb:=q}from rfl,hb]
   rw[hb]at c;simp only[WN]at c;simp only[Xn,Wb,WN,FC k c g,ret,Xd,l,L1 (x:={x with Co:=true,pb:=_}) h,Wu,eJ];generalize cS w.mem x.rv x.pb=q;by_cases b:q.2.1=4
   .rw[Wf b,Wf b]
   .rw[We b,We b];by_cases a:q.2.1=3
    .rw[Wf a,Wf a,Wn (by simp;omega)];rfl
    .rw[We a,We a]
end
section
theorem WjZ{N:Nat}{f:Y_Family}{x:Y_KidRun}(a:(P4 f).length=4)(b:0<=x.2.2.2.1/\x.2.2.2.1<=100000):Ek N f x=some ((f,()),(again f x,())):=Rg a b
theorem WmD{N:Nat}{m:Mm}{f:Y_Family}{x:Y_KidRun}{o:Int×Int×Int×Int}(h:ReadOk m f x o)(c:1048576<N):
  HF N m f x o=some ((m,()),((qR m f x o).1,((qR m f x o).2,()))):=by
 have t:=h.wr;have p:=h.δ;have n:=h.buf;have e:=h.μ;unfold HF qR;simp only[Wp,fV];rw[KS (show(P8 x).length<=1048576 by omega) c];rcases c9 (P8 x) o.2.2.1 with _|v
 .simp only[opI,Xd,Wb];rw[RY (show(P6 f).length<=1048576 by omega) c,WjZ h.famr h.χ,gj (show(P6 x).length<=1048576 by omega)];rw[au (by have:=h.pc;omega)];rcases he:ent (P6 f) o.2.2.1 with _|r
  .have e1:decide ((-1:Int)>x.2.2.1)=false:=by have:=h.Cs;simp;omega
   simp only[ret,Xd,e1,Wb,show decide ((-1:Int)<0)=true from rfl,Wa];have d:=h.pbO;have j:∀(a b:Nat),a<=1000->b<=1000->Wx (a+b)=true:=λa b k l=>Wn (by omega);cases hc:P10 x
   .have nT:ff x o.2.2.1=(o.2.2.1,(0,(0,0))):=by unfold ff;rw[hc];rfl
    rw[nT]at d⊢;simp only[bS,Wa,FC h.mem d c,ret,Xd,rgI e h.rA];generalize cS m f.1 (o.2.2.1,(0,(0,0)))=q;rw[Wn (by simp;omega),Wn (by simp;omega)];unfold bne;cases q.2.1==4<;>cases q.2.1==3<;>rfl
   .have nT:ff x o.2.2.1=Q11 x:=by unfold ff;rw[hc];rfl
    rw[nT]at d⊢;simp only[Xn,Wb,FC h.mem d c,ret,Xd,rgI e h.rA,Wa];generalize cS m f.1 (Q11 x)=q;rw[Wn (by simp;omega),Wn (by simp;omega),Uo hc];unfold bne;cases q.2.1==4<;>cases q.2.1==3<;>rfl
  .have hm:=kr he;have g:r.2∈P6 f:=by
    have:=hm.2.2.2;exact fN this
   have s:=h.ver _ g;have i:decide (r.2.2.2<0)=false:=by simp;omega
   simp only[ret,Xd,i,Wb,rgI e h.rA,Wa];rw[Wn (by simp;omega),Wn (by simp;omega)];cases decide (r.2.2.2>x.2.2.1)<;>rfl
 .simp only[opI,Xd,Wa];rw[gj (show(P6 x).length<=1048576 by omega),au (by have:=h.pc;omega)];simp only[ret,Xd,rgI e h.rA,Wa]
variable{N:Nat}{m:Mm}{f g:Fm}{x y:Kd}{k:Nat}{n:Int}{ξ:List Opn}{codes:List (List Opn)}
theorem Wox(hk:k<f.ο.length)(hm:W2 m=true)(c:KC ξ)(Y:FOk codes n f)(bm:codes.getD k []=ξ)(aU:f.ο[k]=x)(t:x.ζ=0)(hn:n<=100000)(L:1048576<N):
  HI N m f.e x.e ξ=some ((m,()),((hN m f x ξ).1.e,((hN m f x ξ).2.e,()))):=by
 have g:=Y.kid k hk;rw[bm,aU]at g;obtain⟨k0,k1,k2,k3,k4,k5,k6,k7,k8,k9,k10⟩:=kdP x;have bU:=g.pc;have af:=c.len;have oI:=g.wl;unfold HI hN;simp only[Wp,fV,k1,k6,k8,k9,show Wh ξ=(ξ.length:Int)from rfl,Wu];by_cases T:x.pc>=ξ.length
 .rw[Wf (by omega),Wf T];rfl
 .rw[We (by omega),We T];obtain⟨j,A,U,V⟩:=u7 (l:=ξ) bU.1 (by omega);have qP:Xc ξ (Xa x.pc) ((0,0,0,0):Opn)=opN ξ x.pc:=rfl;have dN:inb x.pc ξ.length=true:=by rw[U,WH];exact Wc A
  rw[dN];obtain⟨C,O,gL⟩:=c.ok j A;have bo:=c.k10 j A;simp only[Wa,qP];rw[←V]at C O bo;generalize opN ξ x.pc=o at*;have J:=g.μ.len;rw[au (show 0<=x.pc/\x.pc<=1000000 by omega)];by_cases u:o.1=5
  .rw[Wf u,Wf u];have:=As C u;have lG:=TI Y g c hm hn this.1 this.2;rw[WmD lG L];simp only[Xd,TK]
  rw[We u,We u];have nr:x.θ.length<=24:=by
   have:=Wq Xb (g.θ t).pcs;simp only[Xt]at this;have h2:=eD c.up x.pc.toNat (by omega);have X:=(fE ξ x.pc.toNat).2;omega
  by_cases D:o.1=10
  .rw[Wf D,We (by omega),We (by omega),We (by omega),We (by omega),Wf D];unfold uD;by_cases s:x.θ.length=0
   .rw[Wf (show Wh x.θ=0 by unfold Wh;omega),Wf s];rfl
   rw[We (show¬Wh x.θ=0 by unfold Wh;omega),We s];obtain⟨i,q,y,p,R,S,⟨r,H⟩,um,E,kW,e5,e6⟩:=u9 (d:=((0,0,[]):KM)) c.toCC (show x.pc.toNat<=ξ.length by omega) (g.θ t).pcs s;have P:x.θ.length=q.length+1:=by rw[p];simp
   have M:Wv .i64 (Wh x.θ) 1=(q.length:Int):=by rw[uZ (by omega),P];omega
   have K:Xc x.θ (Xa (q.length:Int)) ((0,0,[]):KM)=y:=by rw[p];simp
   have Q:aj (Xa (q.length:Int)) x.θ=x.θ.dropLast:=by rw[p];simp
   have I:(decide ((0:Int)<=(q.length:Int))&&decide ((q.length:Int)<=(x.θ.length:Int)))=true:=by simp;omega
   have nG:x.θ.dropLast.length<=24:=by rw[AC];omega
   have hy:y∈x.θ:=by rw[p];simp
   obtain⟨Z,y2,y3,y4⟩:=(g.θ t).each y hy;rw[M,WH,Wc (show q.length<x.θ.length by omega),I];simp only[Wa,K,Q,R];rw[Wn (by simp;omega),gj (by rw[Z.len];omega)];simp only[ret,Xd,Wa];rw[S,WH,Wc r];have uQ:Xc ξ (Xa ((i:Nat):Int)) ((0,0,0,0):Opn)=opN ξ (i:Int):=rfl;have B:=rK (c.ok i r).1 H;rw[←qM r]at B;simp only[Wa,uQ];rw[WV B Z.len];have b2:(decide ((0:Int)<=y.2.1)&&decide (y.2.1<=(x.ι.length:Int)))=true:=by simp;omega
   rw[b2,Wn (by rw[dA];simp;omega),R5 (by omega) L ⟨r,H⟩ E];simp only[ret,Xd,Wa];rw[au (by have:=E.len;omega),Xj];rw[Sl E];rfl
  rw[We D,We D];by_cases v:o.1=6
  .rw[Wf v,Wf v];rw[WV (Aj C v).2 J,Wn (by simp;omega),Wn (by simp;omega)];simp only[Wa,fV];rfl
  rw[We v,We v];by_cases w:o.1=7
  .rw[Wf w,Wf w];have h:=Al C w;rw[WV h.1 J,WD (a:=x.pc) (b:=o.2.2.1) (by unfold I64;omega),au (a:=x.pc+o.2.2.1) (by omega)];simp only[Wa,Wu];by_cases G:Xc x.μ (Xa o.2.1) 0=0
   .rw[Wf G,Wf (show al x.μ o.2.1 0=0 from G)];rfl
   .rw[We G,We (show¬al x.μ o.2.1 0=0 from G)];rfl
  rw[We w,We w];by_cases F:o.1=8
  .rw[Wf F,Wf F];rw[gj (show x.μ.length<=1048576 by omega),Wn (by simp;omega)];simp only[ret,Xd,Wa];rw[Wn (by simp;omega)];rfl
  rw[We F,We F];by_cases z:o.1=9
  .rw[Wf z,Wf z];have s:x.θ.length≠0:=by
    intro s;have W:=Wq Xb (g.θ t).pcs;simp only[Xt,s]at W;have h2:=eD c.up j (by omega);have X:=c.up j A;rw[fa A,pt (by rw[←V];exact z)]at X;rw[U,Xj]at W;omega
   obtain⟨i,q,y,p,R,S,⟨r,H⟩,um,E,kW,e5,e6⟩:=u9 (d:=((0,0,[]):KM)) c.toCC (show x.pc.toNat<=ξ.length by omega) (g.θ t).pcs s;have P:x.θ.length=q.length+1:=by rw[p];simp
   have M:Wv .i64 (Wh x.θ) 1=(q.length:Int):=by rw[uZ (by omega),P];omega
   have K:Xc x.θ (Xa (q.length:Int)) ((0,0,[]):KM)=y:=by rw[p];simp
   have Q:aj (Xa (q.length:Int)) x.θ=x.θ.dropLast:=by rw[p];simp
   have I:(decide ((0:Int)<=(q.length:Int))&&decide ((q.length:Int)<=(x.θ.length:Int)))=true:=by simp;omega
   have nG:x.θ.dropLast.length<=24:=by rw[AC];omega
   rw[M,WH,Wc (show q.length<x.θ.length by omega),I];simp only[Wa,K,Q,R];rw[Wn (by simp;omega),gj (show x.μ.length<=1048576 by omega)];simp only[ret,Xd,Wa];rw[S,WH,Wc r];have O:Xc ξ (Xa ((i:Nat):Int)) ((0,0,0,0):Opn)=opN ξ (i:Int):=rfl;have B:=rK (c.ok i r).1 H;rw[←qM r]at B;simp only[Wa,O];rw[WV B J];rfl
  rw[We z,We z];have:=Ro L C (by omega) (by omega) g.μ;rw[this];rfl
end
end Go.Sx
