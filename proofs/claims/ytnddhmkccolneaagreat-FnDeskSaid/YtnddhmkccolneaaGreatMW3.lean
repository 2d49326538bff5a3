/- Plain laws of the Lean functions. -/
import Derived.Test.YtnddhmkccolneaaGreatMW2
open Int renaming toNat→Xb,toNat_natCast→Xk,tdiv_eq_ediv_of_nonneg→Ez,tmod_eq_emod_of_nonneg→Ev
open List renaming getD→Xc,set→Xf,getD_eq_getElem?_getD→l0,getElem?_eq_none→hQ,take→ah,length→Xa,set_getElem_self→jT,getElem_mem→Xt,length_take→ca,mem_append→Xo,pairwise_append→ef,map_append→Xy,length_dropLast→A5,mem_of_mem_take→od,mem_singleton→cq,length_map→Xu,mem_map→Xx,all_eq_true→bH,length_set→cY,length_cons→Xs,eq_nil_or_concat→OS,concat_eq_append→AZ,length_append→Xv,length_nil→kN,append→Xe,pairwise_iff_getElem→hP,set_set→nk,mem_of_getElem?→gz,append_eq→cZ,length_eq_zero_iff→EA,filter_eq_nil_iff→Xgs,pairwise_cons→Xw
open Option renaming bind_some→Xd,isSome_some→Xft,getD_some→ED
open Bool renaming not_true→Xn,and_eq_false_iff→qi,and_eq_true→Xh,and_self→c6,true_and→eI,and_true→O8,not_false→fx,false_eq_true→dL
open Nat renaming le_refl→Xj,beq_refl→Pe,zero_add→cb
namespace Go.Sx
set_option linter.unusedVariables false
set_option linter.unusedSimpArgs false
section
variable{N:Nat}{w:Wo}{k:Nat}{x:Rt}{o:Opn}{p:Pg}{n:Int}{μ:List Opn}
theorem RLive.mk24(b:CC p.1)(h:RLive p n x)(c:x.θ.length≠0):∃(m:Nat) (q:List RM),x.θ=q++ [x.last]/\x.last.1=(m:Int)/\(∃s:m<p.1.length,p.1[m].1=8)/\(m:Int)<x.pc/\Mate p.1 m (nY p.1 m)/\x.pc<=nY p.1 m/\stk p.1 m=(stk p.1 x.pc.toNat).dropLast/\x.θ.dropLast=q/\
  Vals 4 x.last.2.2.2.2/\(0<=x.last.2.1/\x.last.2.1<=x.last.1+72*frk p.1 x.last.1.toNat/\x.last.2.1<=x.κ.length)/\(0<=x.last.2.2.1/\x.last.2.2.1<=x.last.1+8/\x.last.2.2.1<=x.ι.length)/\0<=x.last.2.2.2.1/\x.last.2.2.2.1<=x.last.1/\x.last.2.2.2.1<=x.υ.length:=by
 have t:=h.pc;obtain⟨m,q,y,e,a,f,g,i,j,k,l,o⟩:=wc (d:=zRM) b (by omega) h.θ.pcs c;have r:x.last=y:=a;have u:=h.θ.each y (by grind)
 grind
theorem ZD(h:x.θ.length≠0)(j:x.θ.length<=1000):(inb (Wz .i64 (x.θ.length:Int) 1) x.θ.length&&true)=true/\(inb (Wz .i64 (x.θ.length:Int) 1) x.θ.length&&Nat.beq (Xb (Wz .i64 (x.θ.length:Int) 1)) (Xb (Wz .i64 (x.θ.length:Int) 1)))=true/\
  Xc x.θ (Xb (Wz .i64 (x.θ.length:Int) 1)) ((0:Int),((0:Int),((0:Int),((0:Int),([]:List Int)))))=x.last/\Xf x.θ (Xb (Wz .i64 (x.θ.length:Int) 1)) x.last=x.θ/\decide (Wz .i64 (x.θ.length:Int) 1<=((Xb (Wz .i64 (x.θ.length:Int) 1):Nat):Int))=true:=by
 obtain⟨a,b,c,d⟩:=nK h j zRM;have f:inb (Wz .i64 (x.θ.length:Int) 1) x.θ.length=true:=a;have g:Xc x.θ (Xb (Wz .i64 (x.θ.length:Int) 1)) zRM=x.last:=b;refine⟨by rw[f];rfl,by rw[f];simp,g,?_,Wc (Int.self_le_toNat _)⟩;rw[←g,l0];apply List.ext_getElem?;intro i;rw[List.getElem?_set];split
 .rename_i e;subst e;split
  .rename_i ab;rw[List.getElem?_eq_getElem ab];rfl
  .rename_i ab;rw[hQ (by omega)]
 .rfl
theorem WsZ(o:k<w.η.length)(j:w.η[k]=x)(S:k<=8)(g:CC p.1)(r:RLive p n x)(L:∀u∈x.υ,UnV u)(K:ShOk w.ο)(J:HOk w.holds)(l:1048576<N):
  IM N w.e (k:Int) p.1=some (((Wo.put (sa w x k p.1) k).e,()),()):=by
 obtain⟨g1,H,y,I,g5⟩:=woG o j;obtain⟨r0,r1,r2,r3,r4,r5,r6,r7,r8,gk,fQ,fe,F,v,G,gQ,gR,fI,gl,gS,gT,gU⟩:=rtP x;obtain⟨z1,z2,z3,z4,U,V⟩:=r.sz g;have W:=g.len;unfold IM sa;simp only[Wk];rw[show P5 w.e=w.η.map Rt.e from rfl,I,H];simp only[Wa,Wv,v,Wi];by_cases f:x.θ.length=0
 .rw[Wf (by omega),Wf f,y,UI o j S J r.rv U V l];rfl
 .rw[We (by omega),We f];obtain⟨M,O,P,Q,R⟩:=ZD f (by omega);rw[M,Wa,O,Wa,P,Q,show S15 x.θ x.e=x.e from rfl];simp only[Xd,G,W0];obtain⟨m,q,X,E,⟨h,A⟩,Y,s,Z,e7,e8,t,lC,mJ,oJ,oK,mi⟩:=r.mk24 g f;by_cases i:(x.υ.length:Int)>x.last.2.2.2.1
  .rw[Wf i,Wf i,y,Xk,M9 o j (by omega) (by omega) L K l];rfl
  .rw[We i,We i];simp only[F,v];obtain⟨a,b,c,d⟩:=nK f (by omega) zRM;have C:(decide ((0:Int)<=Wz .i64 (x.θ.length:Int) 1)&&decide (Wz .i64 (x.θ.length:Int) 1<=(x.θ.length:Int))&&decide (Wz .i64 (x.θ.length:Int) 1<=((Xb (Wz .i64 (x.θ.length:Int) 1):Nat):Int)))=true:=by
    have D:(decide ((0:Int)<=Wz .i64 (x.θ.length:Int) 1)&&decide (Wz .i64 (x.θ.length:Int) 1<=(x.θ.length:Int)))=true:=d;rw[D,R];rfl
   have c':ah (Xb (Wz .i64 (x.θ.length:Int) 1)) x.θ=x.θ.dropLast:=c;rw[C,c',nM (by rw[t.len];omega),E,WH,Wc h];have T:Xc p.1 (Xb ((m:Nat):Int)) ((0,0,0,0):Opn)=opN p.1 (m:Int):=rfl;have z:=sA (g.ok m h).1 A;rw[←rQ h]at z;simp only[Wa,ret,Xd,T];rw[WW z t.len];have B:(decide ((0:Int)<=x.last.2.2.1)&&decide (x.last.2.2.1<=(x.ι.length:Int)))=true:=by simp;omega
   rw[B];simp only[Wa];rw[zK (by grind),SV (by omega) l ⟨h,A⟩ s];simp only[ret,Xd];rw[aw (by have:=s.len;omega),Xk];exact aN rfl rfl rfl
theorem Wuj(hk)(j:w.η[k]=x)(M:k<=8)(f:CC p.1)(a:RLive p n x)(h:aT o=true)(c:12<=o.1)(s:ShOk w.ο)(g:HOk w.holds)(d:1048576<N):
  E8 N w.e (k:Int) o=some (((Wo.put (jq w x k o) k).e,()),()):=by
 obtain⟨C,q,D,r,E⟩:=woG hk j;obtain⟨O,P,Q,t,R,S,T,U,V,K,l,z,A,B,m,F,G,y,L,H,I,J⟩:=rtP x;obtain⟨X,Y,Z,z4,z5,z6⟩:=a.sz f;have W:=vn g;have u:=a.pc;have v:=f.len;have i:(0<=(cQ o).1/\(cQ o).1<=8)/\1<=(cQ o).2/\(cQ o).2<=2:=by
  grind [cQ,p6,d9,Az,AC,mK,Eb]
 unfold E8 jq;simp only[Wk,gI];rw[show P5 w.e=w.η.map Rt.e from rfl,r,q,aw (by omega),Wlw h c,show P4 w.e=w.holds from rfl,show w.e.2.2.2.1=w.ο from rfl];simp only[Wa,Xd,WiR g (show 1<=(k:Int)+1/\(k:Int)+1<=9 by omega) i.1 i.2 (by omega) d,t,l,m,LY a.EL];cases ha:mX w.holds ((k:Int)+1) (cQ o).1 (cQ o).2 with
 |none=>
  exact aN rfl rfl rfl
 |some eJ=>
  simp only[Xft,Xn,Wb,ED,Xk,WiN s a.ξ h c d,Xd,eZ];rw[aw (by omega),Wp (by simp;omega)];by_cases b:(eX w.ο o x.ξ).2.2.1=0
  .rw[Wf b,Wf b];exact aN rfl rfl rfl
  .rw[We b,We b];exact aN rfl rfl rfl
theorem Wxg(hk)(t:w.η[k]=x)(L:k<=8)(P:POk p)(g:RLive p n x)(hu:∀u∈x.υ,UnV u)(hm:W6 w.mem=true)(R:ShOk w.ο)(K:HOk w.holds)(r:1048576<N):
  Fk N w.e (k:Int) p=some (((Wo.put (gw w x k p) k).e,()),()):=by
 obtain⟨g1,g2,g3,g4,g5⟩:=woG hk t;obtain⟨r0,r1,r2,r3,r4,r5,r6,r7,r8,gk,X,Y,Z,fu,fz,gQ,gR,fI,gl,gS,gT,gU⟩:=rtP x;have f:=P.μ;obtain⟨z1,z2,z3,z4,z5,z6⟩:=g.sz f;have T:=g.pc;have dw:=f.len;have I:=g.ξ.len;unfold Fk gw;simp only[Wk];rw[show P5 w.e=w.η.map Rt.e from rfl,g4,g2,g3];simp only[Wa,r3,r4,X,Y,Z,fu,fz,W0,Wv,show Wi p.1=(p.1.length:Int)from rfl];by_cases D:x.pc>=p.1.length
 .rw[Wf D,Wf D,UI hk t L K g.rv z5 z6 r];rfl
 .rw[We D,We D];obtain⟨j,O,ej,W⟩:=wa (l:=p.1) T.1 (by omega);have sH:Xc p.1 (Xb x.pc) ((0,0,0,0):Opn)=opN p.1 x.pc:=rfl;have U:inb x.pc p.1.length=true:=by grind [WH,decide_eq_true]
  rw[U];obtain⟨s,M,iw⟩:=f.ok j O;simp only[Wa,sH];rw[←W]at s M iw;rw[aw (show 0<=x.pc/\x.pc<=1000000 by omega)];have oL:(opN p.1 x.pc).1=9->x.θ.length≠0:=λi G=>by
   have h1:=Ws Xa g.θ.pcs;have h2:=eY f.up j (by omega);have h3:=f.up j O
   grind [fF,p5,Xk]
  generalize opN p.1 x.pc=o at*;have S:o.1>=12->E8 N w.e (k:Int) o=some (((Wo.put (jq w x k o) k).e,()),()):=λv=>Wuj hk t L f g s v R K r;by_cases y:o.1=5
  .rw[Wf y,Wf y,Xk,WvJ hk t f g hm y s r];rfl
  .rw[We y,We y];by_cases C:o.1=10
   .rw[Wf C,Wf C,WsZ hk t L f g hu R K r];rfl
   .rw[We C,We C];by_cases H:o.1=11
    .rw[Wf H,Wf H,show Wi p.2=((p.2.length:Nat):Int)from rfl,Wj2 (by omega) (by omega) P.k3 r,Xk];exact aN rfl rfl rfl
    .rw[We H,We H];by_cases v:o.1>=12
     .rw[Wf v];have B:=S v;have:o.1=12\/o.1=13\/o.1=14\/o.1=15\/o.1=16:=by omega
      rcases this with h|h|h|h|h
      .rw[Wf h,Wf h,B];rfl
      .rw[We (by omega),Wf h,Wf h,B];rfl
      .rw[We (by omega),We (by omega),Wf h,Wf h,B];rfl
      .rw[We (by omega),We (by omega),We (by omega),Wf h,Wf h,B];rfl
      .rw[We (by omega),We (by omega),We (by omega),We (by omega),Wf h,B];rfl
     .rw[We v,We (show¬o.1=12 by omega),We (show¬o.1=13 by omega),We (show¬o.1=14 by omega),We (show¬o.1=15 by omega),We (show¬o.1=16 by omega)];by_cases z:o.1=6
      .rw[Wf z,Wf z,WW (AX s z).2 I,Wp (by simp;omega),Xk];exact aN rfl rfl rfl
      .rw[We z,We z];by_cases A:o.1=7
       .rw[Wf A,Wf A];have h:=AJ s A;rw[WW h.1 I,WA (a:=x.pc) (b:=o.2.2.1) (by unfold I64;omega),aw (a:=x.pc+o.2.2.1) (by omega),Xk];by_cases F:Xc x.ξ (Xb o.2.1) 0=0
        .rw[Wf F,Wf (show al x.ξ o.2.1 0=0 from F)];exact aN rfl rfl rfl
        .rw[We F,We (show¬al x.ξ o.2.1 0=0 from F)];exact aN rfl rfl rfl
       .rw[We A,We A];by_cases E:o.1=8
        .rw[Wf E,Wf E,nM (by omega)];simp only[ret,Xd];rw[Wp (by simp;omega),Xk];exact aN rfl rfl rfl
        .rw[We E,We E];by_cases i:o.1=9
         .rw[Wf i,Wf i];have G:=oL i;obtain⟨a,b,c,d⟩:=nK G (by omega) zRM;obtain⟨m,q,e1,V,⟨J,jD⟩,e4,e5,e6,e7,e8,e9,lC,mJ,oJ,oK,mi⟩:=g.mk24 f G;rw[Ua G (by omega)];simp only[Xd];rw[d,c,V,WH,Wc J];have M:Xc p.1 (Xb ((m:Nat):Int)) ((0,0,0,0):Opn)=opN p.1 (m:Int):=rfl;have Q:=sA (f.ok m J).1 jD;rw[←rQ J]at Q;simp only[Wa,M];rw[WW Q I,Xk];exact aN rfl rfl rfl
         .rw[We i,We i,SA r s (by omega) (by omega) g.ξ,Xk];exact aN rfl rfl rfl
theorem WuX(hk)(l:w.η[k]=x)(K:w.η.length<=8)(J:1048576<N):
  Br N w.e (k:Int)=some (((Wo.put (gj w x k) k).e,()),()):=by
 obtain⟨G,z,H,A,I⟩:=woG hk l;have y:=Ni hk l;have t:(w.η.map Rt.e).length=w.η.length:=by simp
 unfold Br;rw[show P5 w.e=w.η.map Rt.e from rfl,A,z,aw (by omega),Xk];simp only[Wa,eZ,Wv,W0,show w.e.2.1=w.ω from rfl,show x.e.2.1=x.χ from rfl,show w.e.1=w.now from rfl,show w.e.2.2.1.1=w.mem.1 from rfl];have F:∀(K0:Bool->Int->Bool->Option ((Y_World×Unit)×Unit)) (d j n:Nat) (g:Bool),j+d=w.η.length->d<n->
   og N (k:Int) k (Wi (w.η.map Rt.e)) w.now w.ω w.mem.1 w.e.2.2.2.1.2 (w.η.map Rt.e) w.e.2.2.1.2 w.e.2.2.2.1.1 (P4 w.e) (Q6 w.e) K0 n g (j:Int)=K0 (g&&j8 k (w.η.drop j) j) (w.η.length:Int) false:=by
  intro K0 d
  induction d with
  |zero=>
   intro j n g C D;obtain⟨n,rfl⟩:∃n',n=n'+1:=⟨n-1,by omega⟩;have:j=(w.η.map Rt.e).length:=by omega
   rw[og,this,WN (Xj _),t,List.drop_length];simp[j8]
  |succ d ih=>
   intro j n g C D;obtain⟨n,rfl⟩:∃n',n=n'+1:=⟨n-1,by omega⟩;have m:j<(w.η.map Rt.e).length:=by omega
   have v:j<w.η.length:=by omega
   rw[og];simp only[WF m,Wq m,Wu m,Wl (show j<4611686018427387904 by omega),Wa,ih (j+1) n _ (by omega) (by omega),List.getElem_map];rw[List.drop_eq_getElem_cons v,j8];have E:(Rt.e w.η[j]).1=w.η[j].ζ:=rfl;rw[E];simp only[Wv];cases g with
   |false=>simp
   |true=>
    by_cases q:j=k
    .rw[Wf (by omega),Wc q];simp
    .rw[We (by omega),Wg q];by_cases i:w.η[j].ζ=0
     .rw[Wf i,Wc i];simp
     .rw[We i,Wg i];have:(w.η[j].ζ==8)=decide (w.η[j].ζ=8):=by
       by_cases B:w.η[j].ζ=8<;>simp[B]
      rw[this];simp
 refine(F _ w.η.length 0 N true (by omega) (by omega)).trans ?_;unfold gj;have u:some ((S5 (Xf (w.η.map Rt.e) k ((1:Int),(x.χ,((0:Int),((0:Int),(w.mem.1,((0:Int),((0:Int),((0:Int),((0:Int),(w.now,((0:Int),(false,(List.replicate (Xb (4:Int)) (0:Int),(([]:List Kc),(([]:List Kc),(([]:List Kj),(([]:List Kb),(([]:List Int),(false,(((0:Int),((0:Int),((0:Int),(0:Int)))),(((0:Int),((0:Int),((0:Int),((0:Int),((0:Int),(([]:List Kc),([]:List Int))))))),d_Family)))))))))))))))))))))) w.e,()),())=some (((Wo.put (w,{ζ:=1,χ:=x.χ,rv:=w.mem.1,ET:=w.now,ξ:=[0,0,0,0]}) k).e,()),()):=aN (x':={ζ:=1,χ:=x.χ,rv:=w.mem.1,ET:=w.now,ξ:=[0,0,0,0]}) (w':=w) rfl rfl rfl;have r:some (((w.now,((k:Int)+1,w.e.2.2)),()),())=some (((Wo.put ({w with ω:=(k:Int)+1},x) k).e,()),()):=by
  have:Wo.put ({w with ω:=(k:Int)+1},x) k={w with ω:=(k:Int)+1}:=by unfold Wo.put;simp only;rw[←l,jT]
  rw[this];rfl
 have s:(((decide ((0:Int)<=(4:Int)))&&(decide ((4:Int)<=(4:Int))))&&(Wx (Xb (4:Int))))=true:=rfl;have o:some ((w.e,()),())=some (((Wo.put (w,x) k).e,()),()):=by rw[y]
 rw[s];simp only[Wa,u];by_cases c:w.ω=0
 .rw[Wf c];rw[We (show¬(w.ω≠0/\w.ω≠(k:Int)+1) by omega)];by_cases a:x.χ>=3
  .rw[Wf a,Wf c,Wf ⟨a,c⟩];exact r
  .rw[We a,We (show¬w.ω=(k:Int)+1 by omega),We (λh=>a h.1),We (by omega)]
 .rw[We c];by_cases f:w.ω=(k:Int)+1
  .rw[Wf f,We (show¬(w.ω≠0/\w.ω≠(k:Int)+1) by omega),We (show¬(x.χ>=3/\w.ω=0) by omega)];have p:∀b:Bool,(bif !b then some ((w.e,()),())else some (((Wo.put (w,{ζ:=1,χ:=x.χ,rv:=w.mem.1,ET:=w.now,ξ:=[0,0,0,0]}) k).e,()),()))=some (((Wo.put (if w.ω=(k:Int)+1/\b=false then(w,x)else(w,{ζ:=1,χ:=x.χ,rv:=w.mem.1,ET:=w.now,ξ:=[0,0,0,0]})) k).e,()),()):=λb=>by
    cases b with
    |false=>rw[Wf ⟨f,rfl⟩];exact o
    |true=>rw[We (by simp)];rfl
   by_cases a:x.χ>=3
   .rw[Wf a,We c,Wf f];exact p _
   .rw[We a,Wf f];exact p _
  .rw[We f,Wf ⟨c,f⟩];exact o
theorem Wv5(d:POk p)(f:RLive p n x)(q:x.ζ=2)(c:1048576<N):Fl N x.e=some (((kB x).e,()),()):=by
 obtain⟨I,J,K,s,L,M,O,P,Q,G,A,j,B,C,D,E,F,z,o,k,l,m⟩:=rtP x;have g:=d.μ;obtain⟨S,T,U,V,W,X⟩:=f.sz g;obtain⟨v,w,a⟩:=f.fork q;have t:=f.pc;have u:=g.len;have h:x.fam.π.length<=3:=by have:=a.len;have:=d.k3;omega
 have H:=a.len3 d.k3;have R:=a.readsL;unfold Fl kB;simp only[s,j,o,k,l,m,zU,Xd];rw[WnM h c,Wl5 a.ξ h (λy r=>by
  obtain⟨i,hi,rfl⟩:=List.getElem_of_mem r;rw[(a.kid i hi).ξ.len];omega) c,WnF (by have:=a.buf8;omega) c,Wp (by omega),nM (by omega),aw (by omega),rL]
 by_cases b:x.fam.EP=true
 .rw[Wf b,Wf b]
 .rw[We b,We b];simp only[ret,Xd,Wa];cases ho:lx x.fam
  .rfl
  .rfl
theorem WrZ(A:k<w.η.length)(j:w.η[k]=x)(C:POk p)(c:RLive p n x)(g:x.ζ=4)(B:W6 w.mem=true):
  E6 N w.e k=some (((Wo.put (w,ja w x) k).e,()),()):=by
 obtain⟨y,g2,g3,g4,g5⟩:=woG A j;obtain⟨r0,r1,r2,r3,I,J,K,r7,r8,gk,X,t,u,v,Z,gQ,gR,W,gl,gS,gT,gU⟩:=rtP x;have f:=C.μ;obtain⟨z1,z2,z3,z4,z5,z6⟩:=c.sz f;have i:=c.back (.inr g);obtain⟨m,q,P,Q,⟨Y,jD⟩,R,S,T,U,V,s,lC,mJ,oJ,oK,mi⟩:=c.mk24 f i;have M:=c.pos g;have L:=c.pc;have O:=f.len;unfold E6 ja;simp only[Wk];obtain⟨E,F,G,H,i5⟩:=ZD i (by omega);rw[show P5 w.e=w.η.map Rt.e from rfl,y,v];simp only[Wi];rw[E,Wa,F,Wa];simp only[G,H,show S15 x.θ x.e=x.e from rfl];simp only[Xd,I,J,K,t,u,W0,zU,show w.e.2.2.1.2=w.mem.2 from rfl];by_cases d:x.pos<x.last.2.1
 .rw[Wf d,Wf d];have h:x.pos.toNat<x.κ.length:=by omega
  have r:inb x.pos x.κ.length=true:=by unfold inb;simp;omega
  have z:Xc x.κ (Xb x.pos) ((0:Int),(0:Int))=al x.κ x.pos (0,0):=rfl;have D:0<=(al x.κ x.pos (0,0)).1/\(al x.κ x.pos (0,0)).1<=7:=by
   unfold al;rw[WB h];exact(c.κ _ (Xt h)).1
  rw[r,z,kb B D,show Xc w.mem.2 (Xb (al x.κ x.pos (0,0)).1) ((0:Int),((0:Int),(0:Int)))=aF w.mem (al x.κ x.pos (0,0)).1 from rfl,aw (by omega)];simp only[Wa,eZ];by_cases a:(aF w.mem (al x.κ x.pos (0,0)).1).2.2=0
  .rw[Wf a];by_cases b:(aF w.mem (al x.κ x.pos (0,0)).1).2.1>x.rv
   .rw[Wf b,Wf (.inr b)];exact aN rfl rfl rfl
   .rw[We b,We (by omega)];exact aN rfl rfl rfl
  .rw[We a,Wf (.inl a)];exact aN rfl rfl rfl
 .rw[We d,We d];have l:(decide ((0:Int)<=x.last.2.1)&&decide (x.last.2.1<=(x.κ.length:Int)))=true:=by simp;omega
  have o:(decide ((0:Int)<=x.last.2.2.1)&&decide (x.last.2.2.1<=(x.ι.length:Int)))=true:=by simp;omega
  rw[l,o,zK (by rw[ca];omega),zK (by rw[ca];omega),nM (by rw[s.len];omega),aw (by omega)];simp only[Wa,ret,Xd];exact aN rfl rfl rfl
theorem Wq4(hk)(p:w.η[k]=x)(R:k<=8)(m:CmOk x.cm)(o:W6 w.mem=true)(Q:w.EF.length<=500000)(n:1048576<N):
  E7 N w.e (k:Int)=some (((Wo.put (gM w x k) k).e,()),()):=by
 obtain⟨G,r,H,s,I⟩:=woG hk p;obtain⟨S,T,U,V,W,X,Y,z,Z,t,B,C,D,E,F,J,K,q,P,L,M,O⟩:=rtP x;have l:=MN m o;unfold E7 gM;simp only[Wk,gI];rw[show P5 w.e=w.η.map Rt.e from rfl,s,r,aw (by omega),Xk];simp only[Wa,z,t,q,show w.e.2.2.1=w.mem from rfl,show Q6 w.e=w.EF from rfl];rw[rL];by_cases j:x.EJ=true
 .rw[Wf j,Wf j];obtain⟨b,v⟩:=WtO (N:=N) m n;rw[v];simp only[Xd,Wv,show(gK x.cm).e.2.2.1=(gK x.cm).ζ from rfl];by_cases a:(gK x.cm).ζ=8
  .rw[Wf a,Wf a];have:S20 (gK x.cm).e (S11 false x.e)=Rt.e {x with cm:=gK x.cm,EJ:=false}:=rfl;rw[this,zU];exact aN rfl rfl rfl
  .rw[We a,We a];exact aN rfl rfl rfl
 .rw[We j,We j,WnW m o n];simp only[Xd];obtain⟨c,c',y⟩:∃c c',ko w.mem x.cm=(c,c'):=⟨_,_,rfl⟩;rw[y]at l⊢;simp only at l⊢;have A:nC N (P5 c'.e)=ret c'.ψ:=zK (by have:=l.1.plen;show c'.ψ.length<=1048576;omega);have u:S20 c'.e x.e=Rt.e {x with cm:=c'}:=rfl;rw[A,u,zU];simp only[ret,Xd];rw[Wp (by simp;omega)];simp only[Wa,Wv,W0,show c'.e.2.2.1=c'.ζ from rfl,show(Cm.e x.cm).2.2.1=x.cm.ζ from rfl,show P4 c'.e=c'.wv from rfl];unfold Al;simp only;by_cases g:x.cm.ζ<=3
  .rw[Wf g];by_cases i:c'.ζ=4
   .rw[Wf i,We (by omega),We (by omega),Wf (show x.cm.ζ<=3/\c'.ζ=4 from⟨g,i⟩),We (by omega),We (by omega)];exact aN (w':={w with mem:=c,EF:=w.EF++ [(c'.wv,(k:Int)+1,c'.ψ)]}) rfl rfl rfl
   .rw[We i,We (show¬(x.cm.ζ<=3/\c'.ζ=4)fromλh=>i h.2)];by_cases a:c'.ζ=8
    .rw[Wf a,Wf a];exact aN (w':={w with mem:=c}) rfl rfl rfl
    .rw[We a,We a];by_cases f:c'.ζ=6
     .rw[Wf f,Wf f];by_cases d:x.EN=2
      .rw[Wf d,Wf d];exact aN (w':={w with mem:=c}) rfl rfl rfl
      .rw[We d,We d];exact aN (w':={w with mem:=c}) rfl rfl rfl
     .rw[We f,We f];exact aN (w':={w with mem:=c}) rfl rfl rfl
  .rw[We g,We (show¬(x.cm.ζ<=3/\c'.ζ=4)fromλh=>g h.1)];by_cases a:c'.ζ=8
   .rw[Wf a,Wf a];exact aN (w':={w with mem:=c}) rfl rfl rfl
   .rw[We a,We a];by_cases f:c'.ζ=6
    .rw[Wf f,Wf f];by_cases d:x.EN=2
     .rw[Wf d,Wf d];exact aN (w':={w with mem:=c}) rfl rfl rfl
     .rw[We d,We d];exact aN (w':={w with mem:=c}) rfl rfl rfl
    .rw[We f,We f];exact aN (w':={w with mem:=c}) rfl rfl rfl
end
section
section
variable{μ:List Opn}{pc gv rl wl ul tD oG tE:Nat}{ms q:List RM}{y:RM}{n n':Int}{x:Rt}{w:Wo}{p:Pg}{k:Nat}{o:Opn}
theorem VH(μ){a b}(h:a<=b):frk μ a<=frk μ b:=by
 simp_all [frk,List.Sublist.countP_le,List.take_sublist_take_left]
theorem RMk.mono(h:RMk μ pc ms rl wl ul)(f:stk μ gv=stk μ pc)(g:rl<=tD)(i:wl<=oG)(j:ul<=tE):RMk μ gv ms tD oG tE:=
 ⟨by rw[f];exact h.pcs,λq e=>by obtain⟨a,b,c,d⟩:=h.each q e;grind,h.up⟩
theorem RMk.cut(h:RMk μ pc ms rl wl ul)(d:ms=q++ [y])(k:y.2.1<=tD)(l:y.2.2.1<=oG)(m:y.2.2.2.1<=tE):RMk μ pc ms tD oG tE:=by
 refine⟨h.pcs,λa b=>?_,h.up⟩;obtain⟨f,g,i,j⟩:=h.each a b;have e:a.2.1<=y.2.1/\a.2.2.1<=y.2.2.1/\a.2.2.2.1<=y.2.2.2.1:=by
  have c:=h.up;rw[d]at b c;rcases Xo.1 b with b|b
  .exact(ef.1 c).2.2 a b y (by simp)
  simp_all
 grind
theorem RMk.begin(h:RMk μ pc ms rl wl ul)(hp)(d:μ[pc].1=8){ξ}(o:Vals 4 ξ)(k:rl<=pc+72*frk μ pc)(l:wl<=pc+8)(m:ul<=pc):
  RMk μ (pc+1) (ms++ [((pc:Int),(rl:Int),(wl:Int),(ul:Int),ξ)]) rl wl ul:=by
 refine⟨?_,?_,?_⟩
 .rw[qa hp d,Xy,Xy,h.pcs];rfl
 .intro q c;rcases Xo.1 c with c|c
  .exact h.each q c
  grind
 .refine ef.2 ⟨h.up,List.pairwise_singleton _ _,λa e b n=>?_⟩;obtain⟨f,g,i,j⟩:=h.each a e;simp_all
theorem RMk.drop(h:RMk μ pc ms rl wl ul)(b:ms=q++ [y])(j:stk μ gv=(stk μ pc).dropLast)(d:y.2.1<=tD)(f:y.2.2.1<=oG)(g:y.2.2.2.1<=tE):RMk μ gv q tD oG tE:=by
 have c:=h.cut b d f g;subst b;have e:=h.pcs;refine⟨?_,λa i=>c.each a (List.mem_append_left _ i),(ef.1 h.up).1⟩
 grind
theorem RLive.wk(h:RLive p n x)(e:n<=n'):RLive p n' x:={h with fork:=λd=>by obtain⟨a,b,c⟩:=h.fork d;exact⟨a,b,c.wk e⟩}
theorem ROk.wk(h:ROk p n x)(b:n<=n'):ROk p n' x:={h with χ:=by have:=h.χ;omega,EH:=λa=>(h.EH a).wk b}
theorem RLive.on(k:CC p.1)(h:RLive p n x)(m:x.ζ=1){i}(hi:i<p.1.length)(g:x.pc=i){ξ}{κ ι}{θ}{υ}{EI}{pb}{gv}
  (r:gv<=p.1.length) (f:i<gv) (d:Vals 4 ξ) (e:iD κ) (j:κ.length<=x.κ.length+1) (b:iD ι) (s:ι.length<=x.ι.length+1) (l:υ.length<=x.υ.length+1) (q:RMk p.1 gv θ κ.length ι.length υ.length) (c:EI=true->ed pb=true):
  RLive p n {x with ξ:=ξ,κ:=κ,ι:=ι,θ:=θ,υ:=υ,EI:=EI,pb:=pb,pc:=(gv:Int)} where
 pc:=by simp_all
 EL:=h.EL
 rv:=h.rv
 ξ:=d
 κ:=e
 rl:=by
  have a:=h.rl;have o:=VH p.1 (show i<=gv by omega)
  grind
 ι:=b
 wl:=by have:=h.wl;grind
 ul:=by have:=h.ul;grind
 θ:=by simp_all
 pb:=c
 fork:=λa=>by simp_all
 back:=λa=>by simp_all
 EQ:=h.EQ
 pos:=λa=>by simp_all
 unw:=λa=>by simp_all
theorem Vals.le4{r}(h:Vals 4 r):r.length<=4:=Nat.le_of_eq h.len
theorem zX(h:ROk p n x):ROk p n (hF x) where
 ζ:=by show(0:Int)<=6/\(6:Int)<=8;omega
 χ:=h.χ
 EH:=λh=>by(change (1:Int)<=6/\(6:Int)<=4 at h;omega)
 comm:=λh=>by(change (6:Int)=5 at h;omega)
 υ:=h.υ
 ul:=h.ul
 rg:=by show([]:List Int).length<=4;simp
 ord:=by show([]:List Int).length<=3;simp
theorem Sw(h:ROk p n x)(a:RLive p n x):ROk p n (lr x):=by
 unfold lr;split
 .exact zX h
 .exact{h with
   ζ:=by simp_all
   EH:=λ_=>{a with
    EL:=by have:=a.EL;grind
    pb:=λh=>by cases h
    fork:=λh=>by simp_all
    back:=λ_=>by simp_all
    pos:=λh=>by simp_all
    unw:=λh=>by simp_all}
   comm:=λh=>by simp_all}
structure QOk(p:Pg)(n:Int)(w:Wo)(q:Wo×Rt):Prop where
 root:ROk p n q.2
 mem:W6 q.1.mem=true
 ο:ShOk q.1.ο
 holds:HOk q.1.holds
 EF:q.1.EF.length<=w.EF.length+1
 histE:∀h∈q.1.EF,h∈w.EF\/HE h
 η:q.1.η=w.η
 now:q.1.now=w.now
structure GOk(w:Wo):Prop where
 mem:W6 w.mem=true
 ο:ShOk w.ο
 holds:HOk w.holds
theorem GOk.st(h:GOk w){y}(b:ROk p n y):QOk p n w (w,y):=⟨b,h.mem,h.ο,h.holds,by simp,λ_ a=>.inl a,rfl,rfl⟩
theorem GOk.qt(h:GOk w){y}(b:ROk p n y)(t):QOk p n w ({w with ω:=t},y):=⟨b,h.mem,h.ο,h.holds,by simp,λ_ a=>.inl a,rfl,rfl⟩
theorem XO(h:GOk w)(b:ROk p n x):QOk p n w (fg w x k):=by
 refine h.qt ?_ _;exact{b with
  ζ:=by simp_all
  EH:=λh=>by simp_all
  comm:=λh=>by simp_all
  υ:=λu a=>by cases a
  ul:=by simp}
theorem Ut(h:GOk w)(a:ROk p n x)(c:0<=x.rv/\x.rv<=1000000)(d:k<=8){out}:QOk p n w (jg w x k out):=by
 unfold jg;simp only;generalize (if out=2 then []else x.ι)=ε;split
 .exact XO (x:={x with EN:=out,ES:=x.rv}) h
   {ζ:=a.ζ,χ:=a.χ,EH:=λb=>{a.EH b with},comm:=a.comm,υ:=a.υ,ul:=a.ul,rg:=a.rg,ord:=a.ord}
 .refine h.st ?_;exact{a with
   ζ:=by simp_all
   EH:=λh=>by simp_all
   comm:=λ_=>WuJ (by omega) c}
theorem WsJ{α}{l}(h:l.length≠0)(d:α):jx l d∈l:=by
 grind [jx,WB,Xt]
theorem Nc(h:GOk w)(b:ROk p n x)(l:x.υ.length≠0)(g:1<=x.ζ/\x.ζ<=4->CC p.1/\(x.θ.length≠0->x.last.2.2.2.1<x.υ.length)):QOk p n w (gq w x):=by
 unfold gq;refine⟨?_,h.mem,WrA h.ο (b.υ _ (WsJ l _)),h.holds,by simp,λ_ c=>.inl c,rfl,rfl⟩;have J:x.υ.dropLast.length=x.υ.length-1:=A5;exact{b with
  EH:=λc=>by
   have a:=b.EH c;obtain⟨f,s⟩:=g c;exact{a with
    ul:=by have:=a.ul;grind
    unw:=λj=>by have:=a.unw j;show(x.υ.dropLast.length:Int)<=x.last.2.2.2.1;omega
    θ:=by
     show RMk p.1 x.pc.toNat x.θ x.κ.length x.ι.length x.υ.dropLast.length;by_cases e:x.θ.length=0
     .have:=List.eq_nil_of_length_eq_zero e;have d:=a.θ;rw[this]at d⊢;exact⟨d.pcs,(λq k=>by cases k),d.up⟩
     .obtain⟨m,q,i,t,⟨D,F⟩,v,y,z,A,B,C,o,r,H,I,G⟩:=a.mk24 f e;exact a.θ.cut i o.2.2 r.2.2 (by omega)}
  υ:=λu E=>b.υ u (by grind [List.dropLast_eq_take,od])
  ul:=by have:=b.ul;grind}
theorem WuZ(e:CC p.1)(h:GOk w)(g:ROk p n x)(a:RLive p n x)(m:x.ζ=1){i}(hi:i<p.1.length)(d:x.pc=i)(t:p.1[i].1=5):ROk p n (m6 w x p.1[i]):=by
 have z:=AQ (e.ok i hi).1 t;have u:0<=p.1[i].2.2.1/\p.1[i].2.2.1<=7:=by grind [bU]
 have f:=a.θ;rw[d,Xk]at f;have j:=ju hi (by omega) (by omega);have l:x.pc+1=((i+1:Nat):Int):=by omega
 unfold m6;cases hlr:df x.ι p.1[i].2.2.1 with
 |some v=>
  have q:=a.ι _ (Ms hlr).2;simp only[l];exact{g with rg:=Vals.le4 (a.ξ.set _ q.2),EH:=λ_=>RLive.on e a m hi d (by omega) (by omega) (a.ξ.set _ q.2) a.κ (by omega) a.ι (by omega) (by omega) (f.mono j (by omega) (by omega) (by omega)) a.pb}
 |none=>
  simp only;have k:=UU (rv:=x.rv) h.mem (NP a.pb u);generalize cL w.mem x.rv (if x.EI=true then x.pb else(p.1[i].2.2.1,0,0,0))=b at*;have o:=zV.1 k.1;have s:RLive p n {x with EI:=true,pb:=b}:={a with pb:=λ_=>k.1};have y:ROk p n {x with EI:=true,pb:=b}:={g with EH:=λ_=>s};split
  .grind [Sw]
  .split
   .simp only[l];refine{g with rg:=Vals.le4 (a.ξ.set _ o.2.2.2),EH:=λ_=>RLive.on e a m hi d (by omega) (by omega) (a.ξ.set _ o.2.2.2) (λr c=>?_) (by simp) a.ι (by omega) (by omega) (f.mono j (by simp) (by omega) (by omega)) (λh=>by cases h)};rcases Xo.1 c with c|c
    .exact a.κ r c
    simp_all
   omega
theorem Wun(c:CC p.1)(h:GOk w)(g:ROk p n x)(a:RLive p n x)(t:x.ζ=1)(u:k<=8){i}(hi:i<p.1.length)(b:x.pc=i):QOk p n w (sa w x k p.1):=by
 have f:=a.θ;rw[b,Xk]at f;unfold sa;split
 .exact Ut h g a.rv u
 .rename_i hz;obtain⟨m,q,j,l,⟨B,D⟩,z,d,A,o,s,e,E,F,H,I,G⟩:=a.mk24 c hz;split
  .grind [Nc]
  .refine h.st ?_;rw[s];simp only[l,Xk,←Int.natCast_succ];have y:=d.len;have C:(ah x.last.2.2.1.toNat x.ι).length=x.last.2.2.1.toNat:=by simp_all
   refine{g with rg:=Vals.le4 (e.set _ (by omega)),EH:=λ_=>RLive.on c a t hi b (gv:=nY p.1 m+1) (by omega) (by omega) (e.set _ (by omega)) a.κ (by omega) (λr v=>a.ι r (od v)) (by omega) (by omega) ?_ a.pb};exact f.drop j (by rw[d.st,o,b];rfl) (by omega) (by omega) (by omega)
theorem Wtp(d:CC p.1)(h:GOk w)(f:ROk p n x)(a:RLive p n x)(m:x.ζ=1)(E:k<=8){i}(hi:i<p.1.length)(g:x.pc=i)(v:12<=p.1[i].1):QOk p n w (jq w x k p.1[i]):=by
 have z:=(d.ok i hi).1;have j:=a.θ;rw[g,Xk]at j;have l:=ju hi (by omega) (by omega);have t:x.pc+1=((i+1:Nat):Int):=by omega
 have D:=a.ul;have C:=d.len;have q:(0<=(cQ p.1[i]).1/\(cQ p.1[i]).1<=8)/\1<=(cQ p.1[i]).2/\(cQ p.1[i]).2<=2:=by
  grind [cQ,p6,d9,Az,AC,mK,Eb]
 unfold jq;cases b:mX w.holds ((k:Int)+1) (cQ p.1[i]).1 (cQ p.1[i]).2 with
 |none=>exact h.st (Sw f a)
 |some hs=>
  have r:HOk hs:=by
   unfold mX at b;split at b
   .injection b with b;subst b;exact Wrg h.holds (by omega) q.1 q.2 ‹_›
   .cases b
  obtain⟨s,c,A,B⟩:=Wrr h.ο a.ξ z v;simp only[t];refine⟨?_,h.mem,s,r,by simp,λ_ y=>.inl y,rfl,rfl⟩;by_cases o:(eX w.ο p.1[i] x.ξ).2.2.1=0
  .simp only[Wf o];exact{f with rg:=Vals.le4 c,EH:=λ_=>RLive.on d a m hi g (by omega) (by omega) c a.κ (by omega) a.ι (by omega) (by omega) (j.mono l (by omega) (by omega) (by omega)) a.pb}
  .simp only[We o];refine{f with rg:=Vals.le4 c,EH:=λ_=>RLive.on d a m hi g (by omega) (by omega) c a.κ (by omega) a.ι (by omega) (by simp) (j.mono l (by omega) (by omega) (by simp)) a.pb,υ:=λu e=>?_,ul:=by simp;omega};rcases Xo.1 e with e|e
   .exact f.υ u e
   simp_all
theorem XI(E:POk p)(h:GOk w)(e:ROk p n x)(f:x.ζ=1)(t:k<=8)(C:0<=n):QOk p n w (gw w x k p):=by
 have a:=e.EH (by omega);have c:=E.μ;unfold gw;split
 .exact Ut h e a.rv t
 .obtain⟨i,b,d,D⟩:=wa (l:=p.1) a.pc.1 (by omega);simp only[D];obtain⟨u,W,R⟩:=c.ok i b;have g:=a.θ;rw[d,Xk]at g;have s:x.pc+1=((i+1:Nat):Int):=by omega
  have z:=a.rl;have Z:=a.wl;have N:=a.ul;rw[d,Xk]at z;split
  .exact h.st (WuZ c h e a f b d ‹_›)
  .split
   .grind [Wun]
   .split
    .refine h.st ?_;exact{e with
      ζ:=by simp_all
      EH:=λ_=>{a with
       fork:=λ_=>⟨by simp_all,by simp_all,WtD a.ξ C⟩
       back:=λh=>by simp_all
       pos:=λh=>by simp_all
       unw:=λh=>by simp_all}
      comm:=λh=>by simp_all}
    .split
     .grind [Wtp]
     .split
      .refine h.st ?_;have t:=AX u ‹_›;have o:=ju b (by omega) (by omega);simp only[s];refine{e with EH:=λ_=>RLive.on c a f b d (by omega) (by omega) a.ξ a.κ (by omega) (λr j=>?_) (by simp) (by omega) (g.mono o (by omega) (by simp) (by omega)) a.pb};rcases Xo.1 j with j|j
       .exact a.ι r j
       .rw[cq]at j;subst j;have:=t.1;unfold bU at this;exact⟨by simp_all,a.ξ.get _⟩
      .split
       .refine h.st ?_;obtain⟨F,s2⟩:=c.sk i b ‹_›;have t:=AJ u ‹_›;have o:=ju b (by omega) (by omega);have G:stk p.1 (i+1+p.1[i].2.2.1.toNat)=stk p.1 i:=by grind [VT]
        by_cases v:al x.ξ p.1[i].2.1 0=0
        .simp only[Wf v,show x.pc+p.1[i].2.2.1+1=((i+1+p.1[i].2.2.1.toNat:Nat):Int) by omega];exact{e with EH:=λ_=>RLive.on c a f b d F (by omega) a.ξ a.κ (by omega) a.ι (by omega) (by omega) (g.mono G (by omega) (by omega) (by omega)) a.pb}
        .simp only[We v,s];exact{e with EH:=λ_=>RLive.on c a f b d (by omega) (by omega) a.ξ a.κ (by omega) a.ι (by omega) (by omega) (g.mono o (by omega) (by omega) (by omega)) a.pb}
       .split
        .refine h.st ?_;simp only[s];rw[d];exact{e with EH:=λ_=>RLive.on c a f b d (by omega) (by omega) a.ξ a.κ (by omega) a.ι (by omega) (by omega) (g.begin b ‹_› a.ξ (by omega) (by omega) (by omega)) a.pb}
        .split
         .rename_i h9;refine h.st ?_;have y:x.θ.length≠0:=λy=>by
           have f:=Ws Xa g.pcs;have P:=eY c.up i (by omega);have Q:=c.up i b
           grind [fF,p5]
          obtain⟨m,q,A,H,⟨O,S⟩,I,J,K,L,B,M,T,U,X,Y,V⟩:=a.mk24 c y;simp only[s];rw[B];exact{e with rg:=Vals.le4 (a.ξ.set _ (by omega)),EH:=λ_=>RLive.on c a f b d (by omega) (by omega) (a.ξ.set _ (by omega)) a.κ (by omega) a.ι (by omega) (by omega) (g.drop A (so b h9) (by omega) (by omega) (by omega)) a.pb}
         .refine h.st ?_;have o:=ju b (by omega) (by omega);simp only[s];exact{e with rg:=Vals.le4 (Nh u (by omega) (by omega) a.ξ),EH:=λ_=>RLive.on c a f b d (by omega) (by omega) (Nh u (by omega) (by omega) a.ξ) a.κ (by omega) a.ι (by omega) (by omega) (g.mono o (by omega) (by omega) (by omega)) a.pb}
theorem WvZ(h:GOk w)(a:ROk p n x)(c:x.ζ=0)(f:0<=(p.1.length:Int)):QOk p n w (gj w x k):=by
 have d:=WE h.mem;unfold gj;split
 .exact h.st a
 .split
  .exact h.qt a _
  .split
   .exact h.st a
   .refine h.st ?_;exact{
     ζ:=by simp_all
     χ:=a.χ
     EH:=λ_=>{
      pc:=by simp_all
      EL:=by simp_all
      rv:=⟨d.2.1,d.2.2.1⟩
      ξ:=⟨rfl,λv g=>by simp_all⟩
      κ:=λr b=>by cases b
      rl:=by simp;omega
      ι:=λr b=>by cases b
      wl:=by simp
      ul:=by simp
      θ:=⟨by simp[stk],(λq e=>by cases e),List.Pairwise.nil⟩
      pb:=λh=>by cases h
      fork:=λh=>by simp_all
      back:=λh=>by simp_all
      EQ:=by simp_all
      pos:=λh=>by simp_all
      unw:=λh=>by simp_all}
     comm:=λh=>by simp_all
     υ:=λu c=>by cases c
     ul:=by simp
     rg:=by simp
     ord:=by simp}
theorem WnH{codes}{f}(h:FOk codes n f):iD (z7 f)/\(z7 f).length<=8:=by
 refine⟨λr b=>?_,by unfold z7;rw[Xu];exact h.buf8⟩;obtain⟨e,a,rfl⟩:=Xx.1 b;have:=h.bufE e a;omega
theorem TH{codes}{f}(h:FOk codes n f)(c:codes.length<=3):Vals 4 (vD f):=by
 have d:=h.len;have b:=h.ξ;unfold vD;rw[Wf ⟨nP.2 b,by omega⟩];refine⟨by simp[b.len];omega,λv a=>?_⟩;rcases Xo.1 a with a|a
 .obtain⟨y,e,rfl⟩:=Xx.1 a;unfold YW;split
  .rename_i hc;exact(nP.1 hc.2).get _
  .omega
 .exact b.val v (List.mem_of_mem_drop a)
theorem WuU(e:POk p)(f:ROk p n x)(v:x.ζ=2):ROk p n (kB x):=by
 have a:=f.EH (by omega);have g:=e.μ;obtain⟨u,j,b⟩:=a.fork v;obtain⟨i,k,s,y⟩:=wa (l:=p.1) a.pc.1 u;rw[y]at j;have d:=a.θ;have t:=a.rl;have C:=a.ul;rw[s,Xk]at d t;unfold kB;split
 .exact zX f
 .split
  .have hz:x.θ= []:=by
    have D:=Ws Xa d.pcs;have E:=eY g.up i (by omega);have F:=(g.fk i k j).1;simp_all
   have o:stk p.1 (i+1)=stk p.1 i:=ju k (by omega) (by omega);have m:=WnH b;have A:=b.len3 e.k3;have B:=b.readsL;have w:frk p.1 (i+1)=frk p.1 i+1:=by grind [GZ]
   exact{f with
    ζ:=by simp_all
    rg:=(TH b e.k3).le4
    ord:=A
    EH:=λ_=>{a with
     pc:=by grind
     ξ:=TH b e.k3
     κ:=λr c=>by
      rcases Xo.1 c with c|c
      .exact a.κ r c
      .exact b.readsE r c
     rl:=by
      grind
     ι:=m.1
     wl:=by grind
     ul:=by grind
     θ:=by
      rw[show(x.pc+1).toNat=i+1 by omega];rw[hz]at d⊢;exact⟨by rw[o];exact d.pcs,(λq z=>by cases z),List.Pairwise.nil⟩
     fork:=λh=>by simp_all
     back:=λh=>by simp_all
     pos:=λh=>by simp_all
     unw:=λh=>by simp_all}
    comm:=λh=>by simp_all}
  .exact f
theorem WrQ(c:POk p)(h:GOk w)(b:ROk p n x)(f:x.ζ=3):QOk p n w (ij w x):=by
 have a:=b.EH (by omega);have d:=a.back (.inl f);obtain⟨m,q,g,i,⟨t,u⟩,j,k,l,o,r,s,v,y,A,B,z⟩:=a.mk24 c.μ d;have e:=WE h.mem;unfold ij;split
 .exact Nc h b (by omega) λ_=>⟨c.μ,λ_=>by omega⟩
 .refine h.st ?_;exact{b with
   ζ:=by simp_all
   EH:=λ_=>{a with
    fork:=λh=>by simp_all
    back:=λ_=>d
    EQ:=⟨e.2.1,e.2.2.1⟩
    pos:=λ_=>by(show(0:Int)<=0/\(0:Int)<=x.last.2.1;omega)
    unw:=λ_=>by(show(x.υ.length:Int)<=x.last.2.2.2.1;omega)}
   comm:=λh=>by simp_all}
theorem Wq6(u:POk p)(h:GOk w)(b:ROk p n x)(d:x.ζ=4):ROk p n (ja w x):=by
 have a:=b.EH (by omega);have v:=a.back (.inr d);have D:=a.pos d;obtain⟨m,q,f,l,⟨s,y⟩,E,F,G,o,H,g,J,K,L,M,z⟩:=a.mk24 u.μ v;unfold ja;split
 .simp only;split
  .exact zX b
  .exact{b with EH:=λ_=>{a with pos:=λ_=>by(show 0<=x.pos+1/\x.pos+1<=x.last.2.1;omega)}}
 .have bI:stk p.1 (m+1)=stk p.1 x.pc.toNat:=by
   rw[qa s y,o];rcases zz (stk p.1 x.pc.toNat)with I|⟨t,j,i⟩
   .have h1:=Ws Xa a.θ.pcs;simp_all
   .have h1:=a.θ.pcs;rw[f,i]at h1;simp only[Xy,List.map_cons,List.map_nil]at h1;have c:=(List.append_inj' h1 rfl).2;injection c with c;rw[l]at c;rw[i,List.dropLast_concat,show m=j by omega]
  have C:=VH p.1 (show m<=m+1 by omega);have k:x.last.1+1=((m+1:Nat):Int):=by omega
  have A:(ah x.last.2.1.toNat x.κ).length=x.last.2.1.toNat:=by simp_all
  have B:(ah x.last.2.2.1.toNat x.ι).length=x.last.2.2.1.toNat:=by simp_all
  exact{b with
   ζ:=by simp_all
   rg:=g.le4
   EH:=λ_=>{a with
    pc:=by grind
    rv:=a.EQ
    ξ:=g
    κ:=λr e=>a.κ r (od e)
    rl:=by
     grind
    ι:=λr e=>a.ι r (od e)
    wl:=by grind
    ul:=by
     show(x.υ.length:Int)<=x.last.1+1;have:=a.unw d;omega
    θ:=by
     rw[k,Xk,A,B];exact(a.θ.cut f (by omega) (by omega) z).mono bI (Xj _) (Xj _) (Xj _)
    fork:=λh=>by simp_all
    back:=λh=>by omega
    EQ:=by simp_all
    pos:=λh=>by simp_all
    unw:=λh=>by simp_all}
   comm:=λh=>by simp_all}
end
end
section
section
variable{N:Nat}{w:Wo}{k:Nat}{x:Rt}{p:Pg}{n:Int}{ps:List Pg}
theorem Wrq(h:GOk w)(b:ROk p n x)(e:x.ζ=5)(g:k<=8):QOk p n w (gM w x k):=by
 have c:=b.comm e;unfold gM;split
 .split
  .exact h.st (zX b)
  .refine h.st ?_;exact{b with EH:=λa=>by simp_all,comm:=λ_=>WrB c}
 .have bI:=MN c h.mem;obtain⟨d,c',f⟩:∃d c',ko w.mem x.cm=(d,c'):=⟨_,_,rfl⟩;simp only[f]at bI⊢;refine⟨?_,bI.2,h.ο,h.holds,?_,?_,rfl,rfl⟩
  .have hy:ROk p n {x with cm:=c'}:={b with EH:=λa=>by simp_all,comm:=λ_=>bI.1};unfold Al;simp only;split
   .exact zX hy
   .split
    .have jh:(if x.EN=2 then(6:Int)else 7)=6\/(if x.EN=2 then(6:Int)else 7)=7:=by split<;>simp
     generalize (if x.EN=2 then(6:Int)else 7)=ph at*;exact{b with
      ζ:=by grind
      EH:=λa=>by grind
      comm:=λa=>by simp_all}
    .exact hy
  .simp only;split<;>simp
  .simp only;intro h a;split at a
   .rcases Xo.1 a with a|a
    .grind
    .rw[cq]at a;subst a;exact .inr ⟨bI.1.plen,bI.1.ε,by grind,by grind⟩
   simp_all
theorem VL(l:POk p)(h:GOk w)(m:ROk p n x)(y:k<=8)(z:0<=n):QOk p (n+1) w (iz w x k p):=by
 have a:=m.wk (show n<=n+1 by omega);unfold iz;by_cases i:x.EJ=true/\1<=x.ζ/\x.ζ<=4
 .rw[Wf i];exact h.st (zX a)
 rw[We i];by_cases q:x.ζ=0
 .simp_all [Wf,WvZ]
 rw[We q];by_cases e:x.ζ=1
 .rw[Wf e];grind [XI]
 rw[We e];by_cases c:x.ζ=2
 .rw[Wf c];exact h.st (WuU l a c)
 rw[We c];by_cases r:x.ζ=3
 .simp_all [Wf,WrQ]
 rw[We r];by_cases d:x.ζ=4
 .rw[Wf d];exact h.st (Wq6 l h a d)
 rw[We d];by_cases s:x.ζ=5
 .simp_all [Wf,Wrq]
 rw[We s];by_cases f:x.ζ=6
 .rw[Wf f];by_cases o:x.υ.length>0
  .rw[Wf o];grind [Nc]
  .rw[We o];refine h.st ?_;exact{a with
    ζ:=by simp_all
    EH:=λb=>by simp_all
    comm:=λb=>by simp_all}
 rw[We f];by_cases g:x.ζ=7
 .rw[Wf g];have t:GOk {w with holds:=WX w.holds ((k:Int)+1)}:=⟨h.mem,h.ο,SY h.holds⟩;by_cases j:x.EN=0
  .rw[Wf j];refine⟨?_,h.mem,h.ο,SY h.holds,by simp,λ_ b=>.inl b,rfl,rfl⟩;exact{
    ζ:=by simp_all
    χ:=by have:=m.χ;grind
    EH:=λb=>by simp_all
    comm:=λb=>by simp_all
    υ:=λu v=>by cases v
    ul:=by simp
    rg:=by simp
    ord:=by simp}
  .rw[We j];have:=XO (k:=k) t a;exact⟨this.root,this.mem,this.ο,this.holds,this.EF,this.histE,this.η,this.now⟩
 .rw[We g];exact h.st a
theorem Wu0(hk)(a:w.η[k]=x)(R:w.η.length<=8)(j:POk p)(h:GOk w)(b:ROk p n x)(Q:n<=200000)(P:w.EF.length<=500000)(c:1048576<N):
  Fe N w.e (k:Int) p=some (((Wo.put (iz w x k p) k).e,()),()):=by
 obtain⟨g1,J,K,L,g5⟩:=woG hk a;obtain⟨Z,r1,r2,r3,r4,r5,r6,r7,r8,M,fQ,fe,fq,fu,I,gQ,gR,fI,gl,gS,gT,gU⟩:=rtP x;have C:k<=8:=by omega
 have ff:=Ni hk a;have Eu:=b.χ;have Am:=b.ul;have s0:=vn h.holds;unfold Fe iz;simp only[Wk];rw[show P5 w.e=w.η.map Rt.e from rfl,L,J,aw (by omega),aw (by omega)];simp(maxSteps:=4000000) only[K,Z,r7,M,I,Wa,WK,ret,Xd,zU,Wv,W0,show w.e.2.2.1.1=w.mem.1 from rfl,Wi,show P4 w.e=w.holds from rfl];rw[Wh0 h.holds (by omega) c];simp only[ret,Xd];have u:S4 (WX w.holds ((k:Int)+1)) w.e=Wo.e {w with holds:=WX w.holds ((k:Int)+1)}:=rfl;have D:S5 (Xf (w.η.map Rt.e) (Xb (k:Int)) x.e) (S4 (WX w.holds ((k:Int)+1)) w.e)=Wo.e {w with holds:=WX w.holds ((k:Int)+1)}:=(woG (w:={w with holds:=WX w.holds ((k:Int)+1)}) hk a).2.2.1;rw[D,X1 (w:={w with holds:=WX w.holds ((k:Int)+1)}) hk a (by omega),WuX hk a R c];have S:∀(A:Option ((Y_World×Unit)×Unit)),A=some (((Wo.put (
   if x.ζ=0 then gj w x k else
   if x.ζ=1 then gw w x k p else
   if x.ζ=2 then(w,kB x)else
   if x.ζ=3 then ij w x else
   if x.ζ=4 then(w,ja w x)else
   if x.ζ=5 then gM w x k else
   if x.ζ=6 then(if x.υ.length>0 then gq w x else(w,{x with ζ:=7}))else
   if x.ζ=7 then
    (if x.EN=0 then({w with holds:=WX w.holds ((k:Int)+1)},{χ:=x.χ+1})
     else fg {w with holds:=WX w.holds ((k:Int)+1)} x k)
   else(w,x)) k).e,()),())->¬(x.EJ=true/\1<=x.ζ/\x.ζ<=4)->A=some (((Wo.put (
   if x.EJ=true/\1<=x.ζ/\x.ζ<=4 then(w,hF x)else
   if x.ζ=0 then gj w x k else
   if x.ζ=1 then gw w x k p else
   if x.ζ=2 then(w,kB x)else
   if x.ζ=3 then ij w x else
   if x.ζ=4 then(w,ja w x)else
   if x.ζ=5 then gM w x k else
   if x.ζ=6 then(if x.υ.length>0 then gq w x else(w,{x with ζ:=7}))else
   if x.ζ=7 then
    (if x.EN=0 then({w with holds:=WX w.holds ((k:Int)+1)},{χ:=x.χ+1})
     else fg {w with holds:=WX w.holds ((k:Int)+1)} x k)
   else(w,x)) k).e,()),()):=λA hA Q=>by grind
 have Y:(if x.ζ=0 then(some (((Wo.put (gj w x k) k).e,()),()):Option ((Y_World×Unit)×Unit)).bind (λU=>some ((U.1.1,()),()))
   else if x.ζ=1 then(Fk N w.e (k:Int) p).bind (λV=>some ((V.1.1,()),()))
   else if x.ζ=2 then(Fl N x.e).bind (λW=>some ((S5 (Xf (w.η.map Rt.e) (Xb (k:Int)) W.1.1) w.e,()),()))
   else if x.ζ=3 then(Bi N x.e).bind (λX=>if(x.υ.length:Int)>X.2.1.2.2.2 then(tv N w.e (Xb (k:Int))).bind (λE=>some ((E.1.1,()),()))else some ((S5 (Xf (w.η.map Rt.e) (Xb (k:Int)) (S6 0 (S5 w.mem.1 (S0 4 x.e)))) w.e,()),()))
   else if x.ζ=4 then(E6 N w.e (Xb (k:Int))).bind (λH=>some ((H.1.1,()),()))
   else if x.ζ=5 then(E7 N w.e (k:Int)).bind (λG=>some ((G.1.1,()),()))
   else if x.ζ=6 then(if(x.υ.length:Int)>0 then(tv N w.e (Xb (k:Int))).bind (λF=>some ((F.1.1,()),()))else some ((S5 (Xf (w.η.map Rt.e) (Xb (k:Int)) (7,x.e.2)) w.e,()),()))
   else if x.ζ=7 then(if x.EN=0 then some ((S5 (Xf (w.η.map Rt.e) (Xb (k:Int)) ((0:Int),(x.e.2.1+1,((0:Int),((0:Int),((0:Int),((0:Int),((0:Int),((0:Int),((0:Int),((0:Int),((0:Int),(false,(([]:List Int),(([]:List Kc),(([]:List Kc),(([]:List Kj),(([]:List Kb),(([]:List Int),(false,(((0:Int),((0:Int),((0:Int),(0:Int)))),(((0:Int),((0:Int),((0:Int),((0:Int),((0:Int),(([]:List Kc),([]:List Int))))))),d_Family)))))))))))))))))))))) (S4 (WX w.holds ((k:Int)+1)) w.e),()),())else(some (((Wo.put (fg {w with holds:=WX w.holds ((k:Int)+1)} x k) k).e,()),()):Option ((Y_World×Unit)×Unit)).bind (λT=>some ((T.1.1,()),())))
   else some ((w.e,()),()))=some (((Wo.put (
   if x.ζ=0 then gj w x k else
   if x.ζ=1 then gw w x k p else
   if x.ζ=2 then(w,kB x)else
   if x.ζ=3 then ij w x else
   if x.ζ=4 then(w,ja w x)else
   if x.ζ=5 then gM w x k else
   if x.ζ=6 then(if x.υ.length>0 then gq w x else(w,{x with ζ:=7}))else
   if x.ζ=7 then
    (if x.EN=0 then({w with holds:=WX w.holds ((k:Int)+1)},{χ:=x.χ+1})
     else fg {w with holds:=WX w.holds ((k:Int)+1)} x k)
   else(w,x)) k).e,()),()):=by
  rw[Xk];by_cases v:x.ζ=0
  .simp_all
  .rw[We v,We v];by_cases l:x.ζ=1
   .rw[Wf l,Wf l,Wxg hk a C j (b.EH (by omega)) b.υ h.mem h.ο h.holds c];rfl
   .rw[We l,We l];by_cases f:x.ζ=2
    .rw[Wf f,Wf f,Wv5 j (b.EH (by omega)) f c];exact aN rfl rfl rfl
    .rw[We f,We f];by_cases d:x.ζ=3
     .have hl:=b.EH (by omega);obtain⟨z1,z2,z3,z4,z5,z6⟩:=hl.sz j.μ;rw[Wf d,Wf d,Ua (hl.back (.inl d)) (by omega)];simp only[Xd];have wj:=(hl.mk24 j.μ (hl.back (.inl d)));obtain⟨m,q,e1,e2,_,_,_,_,_,_,_,_,_,mi⟩:=wj;unfold ij;by_cases s:(x.υ.length:Int)>x.last.2.2.2.1
      .rw[Wf s,Wf s,M9 hk a (by omega) (by omega) b.υ h.ο c];rfl
      .rw[We s,We s];exact aN rfl rfl rfl
     .rw[We d,We d];by_cases g:x.ζ=4
      .rw[Wf g,Wf g,WrZ hk a j (b.EH (by omega)) g h.mem];rfl
      .rw[We g,We g];by_cases i:x.ζ=5
       .rw[Wf i,Wf i,Wq4 hk a C (b.comm i) h.mem P c];rfl
       .rw[We i,We i];by_cases o:x.ζ=6
        .rw[Wf o,Wf o];by_cases B:x.υ.length>0
         .rw[Wf (by omega),Wf B,M9 hk a (by omega) (by omega) b.υ h.ο c];rfl
         .rw[We (by omega),We B];exact aN rfl rfl rfl
        .rw[We o,We o];by_cases y:x.ζ=7
         .rw[Wf y,Wf y];by_cases r:x.EN=0
          .rw[Wf r,Wf r,u];exact aN (w:=w) (w':={w with holds:=WX w.holds ((k:Int)+1)}) (x':={χ:=x.χ+1}) rfl rfl rfl
          .rw[We r,We r];rfl
         simp_all
 rw[rL];by_cases z:x.EJ=true
 .rw[Wf z];by_cases t:1<=x.ζ/\x.ζ<=4
  .rw[Wc t.1,Wc t.2,Wf (show x.EJ=true/\1<=x.ζ/\x.ζ<=4 from⟨z,t⟩),Xk];exact aN rfl rfl rfl
  .have hb:(decide (1<=x.ζ)&&decide (x.ζ<=4))=false:=by
    rw[qi,Wn,Wn];omega
   rw[hb];exact S _ Y (λO=>t O.2)
 grind
end
end
section
noncomputable def hG(p:Pg):Bool:=p.2.all ku&&(jJ p.1&&(decide (p.2.length<=3)&&beq (p.1.any λo=>o.1==11) (decide (p.2.length>0))))
noncomputable def cI(s:Sc):Bool:=qg s.1&&(decide (s.2.1.length<=4)&&(decide (s.2.2.length<=400)&&s.2.1.all hG))
structure PB(p:Pg):Prop where
 μ:p.1.length<=1048576
 π:p.2.length<=1048576
 each:∀c∈p.2,c.length<=1048576
structure SB(s:Sc):Prop where
 ER:s.1.1.length<=1048576
 map:s.1.2.1.length<=1048576
 progs:s.2.1.length<=1048576
 each:∀p∈s.2.1,PB p
 acts:s.2.2.length<=1048576
variable{N:Nat}{s:Sc}{p:Pg}{w:Wo}{n:Int}{a:Ac}
theorem XA(h:hG p=true):POk p:=by
 unfold hG at h;simp only[Xh,bH,Wh]at h;exact⟨Ow h.2.1,λc a=>Wzm (h.1 c a),h.2.2.1⟩
theorem rS(h:cI s=true):ThOk s.1/\s.2.1.length<=4/\s.2.2.length<=400/\∀p∈s.2.1,POk p:=by
 simp_all [cI,Xh,bH,Wh,Wv4,XA]
theorem NN{α}(l:List α)(k:Nat):decide ((Wi l)<=(k:Int))=decide (l.length<=k):=by
 simp[Wi,Wc,Wg]
theorem DL{α}(l:List α)(k:Nat):decide ((Wi l)>(k:Int))=decide (l.length>k):=by
 simp[Wi,Wc,Wg]
theorem MG(l k:Nat):decide (l>k)= !decide (l<=k):=by
 grind
theorem Wno{l:List Opn}(h:l.length<=1048576)(g:1048576<N):B0 N l=ret (l.any λo=>o.1==11):=by
 unfold B0 Pi E0;have c:=DV (l:=l) (p:=λo=>o.1==11) (N:=N) (lp:=λn j=>Zp N l (λb=>(some ((),(b,())))) (λd e=>(some ((),((-1:Int),())))) n j) (K0:=λj=>some ((),(j,()))) (K1:=some ((),((-1:Int),()))) (by omega) (by omega)
  (λn j a=>by
   simp only[Zp,WF a,Wq a,Wu a,Wl (show j<4611686018427387904 by omega),Wa,Rr,Xd])
  (λn=>by simp[Zp,WN,Xj,Wb])
 rw[c];have f:=Hq (p:=λo:Opn=>o.1==11) l 0;cases hf:fnd (λo:Opn=>o.1==11) l 0 with
 |some r=>
  simp_all
 |none=>
  grind
theorem WnJ(h:PB p)(c:1048576<N):CB N p=ret (hG p):=by
 have q:=h.μ;have r:=h.π;unfold CB hG;have e:=WC (l:=p.2) (V:=Unit) (R:=Unit×Ke) (lp:=λn j v=>yl N p.2 p (some ((),(false,()))) (λm g=>
  ((oU N p.1).bind λa=>
 (bif a.2.1 then
 (bif decide ((Wi p.2)<=(3:Int))then
 ((B0 N p.1).bind λb=>
 (some ((),(beq b.2.1 (decide ((Wi p.2)>(0:Int))),()))))
 else
 (some ((),(false,()))))
 else
 (some ((),(false,())))))) n j) (n:=N) (by omega)
  (body:=λj x v k=>(zt N x).bind λo=>bif !o.2.1 then some ((),(false,()))else k v) (K:=λ_ v=>((oU N p.1).bind λa=>
 (bif a.2.1 then
 (bif decide ((Wi p.2)<=(3:Int))then
 ((B0 N p.1).bind λb=>
 (some ((),(beq b.2.1 (decide ((Wi p.2)>(0:Int))),()))))
 else
 (some ((),(false,()))))
 else
 (some ((),(false,()))))))
  (λn i v d=>by simp only[yl,WF d,Wq d,Wu d,Wl (show i<4611686018427387904 by omega),Wa])
  (λn v=>by simp[yl,WN,Xj,Wb]) ()
 refine e.trans ?_;rw[fG (p:=λx=>!ku x) (E:=λ_=>some ((),(false,()))) p.2 0 () (λj x v k f=>by rw[WoX (by have:=h.each x f;omega) c];rfl),gW,Sy (by omega) c,Wno (by omega) c];simp only[ret,Xd];rw[show(3:Int)=((3:Nat):Int)from rfl,NN,show(0:Int)=((0:Nat):Int)from rfl,DL];cases p.2.all ku<;>cases jJ p.1<;>cases decide (p.2.length<=3)<;>rfl
theorem Sp(h:PB p)(a:1048576<N):uZ N p=ret (hG p):=by
 have q:=h.μ;have r:=h.π;unfold uZ hG;have f:=WC (l:=p.2) (V:=Unit) (R:=Unit×Ke) (lp:=λn j v=>tu N p (some ((),(false,()))) (λe d=>(some ((),(true,())))) n j) (n:=N) (by omega)
  (body:=λj x v k=>(zl N x).bind λo=>bif !o.2.1 then some ((),(false,()))else k v) (K:=λ_ v=>some ((),(true,())))
  (λn i v c=>by simp only[tu,WF c,Wq c,Wu c,Wl (show i<4611686018427387904 by omega),Wa])
  (λn v=>by simp[tu,WN,Xj,Wb]) ()
 have g:tu N p (some ((),(false,()))) (λe d=>(some ((),(true,())))) N 0=ret (p.2.all ku):=by
  refine f.trans ?_;rw[fG (p:=λx=>!ku x) (E:=λ_=>some ((),(false,()))) p.2 0 () (λj x v k m=>by rw[Wph (by have:=h.each x m;omega) a];rfl),gW];cases p.2.all ku<;>rfl
 rw[g,L2 (by omega) a,SC (by omega) a];simp only[ret,Xd];rw[show(3:Int)=((3:Nat):Int)from rfl,DL,MG,show(0:Int)=((0:Nat):Int)from rfl,DL];generalize beq (p.1.any λo=>o.1==11) (decide (p.2.length>0))=b;cases p.2.all ku<;>cases jJ p.1<;>cases decide (p.2.length<=3)<;>cases b<;>rfl
theorem Wke{t}(d:t.1.length<=1048576)(m:t.2.1.length<=1048576)(h:1048576<N):B5 N t=ret (qg t):=by
 unfold B5 qg sm;have e:((Wi t.2.1) !=(8:Int))= !decide (t.2.1.length=8):=by
  grind [Wi]
 have f:=WC (l:=t.2.1) (V:=Unit) (R:=Unit×Ke) (lp:=λn j v=>tf N t (some ((),(false,()))) (λc b=>(some ((),(true,())))) n j) (n:=N) (by omega)
  (body:=λj x v k=>bif !(decide (0<=x)&&decide (x<=65536))then some ((),(false,()))else k v) (K:=λ_ v=>some ((),(true,())))
  (λn i v a=>by simp only[tf,WF a,Wq a,Wu a,Wl (show i<4611686018427387904 by omega),Wa,cC,ret,Xd])
  (λn v=>by simp[tf,WN,Xj,Wb]) ()
 have g:tf N t (some ((),(false,()))) (λc b=>(some ((),(true,())))) N 0=ret (t.2.1.all λx=>decide (0<=x)&&decide (x<=65536)):=by
  refine f.trans ?_;rw[fG (p:=λx=>!(decide (0<=x)&&decide (x<=65536))) (E:=λ_=>some ((),(false,()))) t.2.1 0 () (λj x v k _=>rfl),gW];cases t.2.1.all _<;>rfl
 rw[SH d h,e,i0,g];cases kp t.1<;>cases decide (t.2.1.length=8)<;>cases bR t.2.2<;>cases t.2.1.all _<;>rfl
theorem W8(h:SB s)(b:1048576<N):Zh N s=ret (cI s):=by
 have m:=h.ER;have q:=h.map;have r:=h.progs;unfold Zh cI;have d:=WC (l:=s.2.1) (V:=Unit) (R:=Unit×Ke) (lp:=λn j v=>sQ N s (some ((),(false,()))) (λg c=>(some ((),(true,())))) n j) (n:=N) (by omega)
  (body:=λj x v k=>(uZ N x).bind λo=>bif !o.2.1 then some ((),(false,()))else k v) (K:=λ_ v=>some ((),(true,())))
  (λn i v a=>by simp only[sQ,WF a,Wq a,Wu a,Wl (show i<4611686018427387904 by omega),Wa])
  (λn v=>by simp[sQ,WN,Xj,Wb]) ()
 have e:sQ N s (some ((),(false,()))) (λg c=>(some ((),(true,())))) N 0=ret (s.2.1.all hG):=by
  refine d.trans ?_;rw[fG (p:=λx=>!hG x) (E:=λ_=>some ((),(false,()))) s.2.1 0 () (λj x v k f=>by rw[Sp (h.each x f) b];rfl),gW];cases s.2.1.all hG<;>rfl
 rw[e,Wke (by omega) (by omega) b];simp only[ret,Xd];rw[show(4:Int)=((4:Nat):Int)from rfl,DL,MG,show(400:Int)=((400:Nat):Int)from rfl,DL,MG];cases qg s.1<;>cases decide (s.2.1.length<=4)<;>cases decide (s.2.2.length<=400)<;>rfl
theorem WR(h:SB s)(d:1048576<N):kV N s=ret (cI s):=by
 have w:=h.ER;have y:=h.map;have z:=h.progs;unfold kV cI Rk Z6;have g:=WC (l:=s.2.1) (V:=Unit) (R:=Unit×Kk) (lp:=λn j v=>Zf N s.2.1 (λa=>(some ((),(a,())))) (λe f=>(some ((),((-1:Int),())))) n j) (n:=N) (by omega)
  (body:=λj x v k=>(ID N x).bind λo=>bif o.2.1 then some ((),(j,()))else k v) (K:=λ_ v=>some ((),((-1:Int),())))
  (λn i v b=>by simp only[Zf,WF b,Wq b,Wu b,Wl (show i<4611686018427387904 by omega),Wa])
  (λn v=>by simp[Zf,WN,Xj,Wb]) ()
 have m:((Zf N s.2.1 (λa=>(some ((),(a,())))) (λe f=>(some ((),((-1:Int),())))) N 0).bind λu=>some ((),(decide (u.2.1>=(0:Int)),())))=ret (!s.2.1.all hG):=by
  have q:=g;rw[q,zN (p:=λx=>!hG x) (E:=λj _=>some ((),(j,()))) s.2.1 0 () (λj x v k t=>by unfold ID;rw[WnJ (h.each x t) d];rfl)];have c:=Hq (p:=λx=>!hG x) s.2.1 0;rw[gW]at c;rw[←c];cases hf:fnd (λx=>!hG x) s.2.1 0 with
  |some r=>simp_all
  |none=>rfl
 rw[Wka (by omega) (by omega) d];simp only[ret,Xd];rw[m,show(4:Int)=((4:Nat):Int)from rfl,NN,show(400:Int)=((400:Nat):Int)from rfl,NN];cases qg s.1<;>cases decide (s.2.1.length<=4)<;>cases decide (s.2.2.length<=400)<;>cases s.2.1.all hG<;>rfl
end
section
variable{N:Nat}{s:Sc}{p:Pg}{w:Wo}{n:Int}{a:Ac}{k:Nat}
theorem Ak{ps:List Pg}(h:∀p∈ps,POk p)(a:k<ps.length):POk (ps.getD k pg0):=by
 grind
theorem WOk.tick(h:WOk s.2.1 n w):WOk s.2.1 (n+1) {w with now:=w.now+1}:=
 {h with now:=by(have:=h.now;simp_all),n0:=by have:=h.n0;omega,EF:=by(have:=h.EF;grind),root:=λk a=>(h.root k a).wk (by omega)}
theorem WOk.putQ{q}{w0:Wo}(h:WOk s.2.1 (n+1) {w0 with now:=w0.now+1})(f:(w0.EF.length:Int)<=n)(g:k<w0.η.length)(a:QOk (s.2.1.getD k pg0) (n+1) {w0 with now:=w0.now+1} q):WOk s.2.1 (n+1) (Wo.put q k):=by
 have d:=a.η;exact{
  len:=by show(q.1.η.set k q.2).length=_;rw[cY,d];exact h.len
  l4:=h.l4
  progs:=h.progs
  now:=a.now.trans h.now
  n0:=h.n0
  mem:=a.mem
  ο:=a.ο
  holds:=a.holds
  histE:=λe b=>(a.histE e b).elim (h.histE e) id
  EF:=by have:=a.EF;show(q.1.EF.length:Int)<=n+1;grind
  root:=λi c=>by
   change i<(q.1.η.set k q.2).length at c;rw[cY,d]at c;show ROk _ _ ((q.1.η.set k q.2)[i]);rw[List.getElem_set];by_cases b:k=i
   .subst b;rw[Wf rfl];exact a.root
   .rw[We b];have:=h.root i c;simp_all}
theorem jb(h:WOk s.2.1 n w):WOk s.2.1 (n+1) (eD s w a):=by
 have c:=h.tick;unfold eD;simp only;split
 .rename_i hb;have b:a.2.1.toNat<w.η.length:=by omega
  have f:=c.root a.2.1.toNat b;have k:=h.root a.2.1.toNat b;have d:GOk {w with now:=w.now+1}:=⟨h.mem,h.ο,h.holds⟩;have j:=Ak h.progs (by rw[←h.len];exact b);have r:w.η.length<=4:=by rw[h.len];exact h.l4
  rw[WB b];split
  .unfold Ee;rw[WB (b)];exact c.putQ h.EF b (VL j d k (by omega) h.n0)
  .split
   .split
    .rename_i hf;refine c.putQ h.EF b (d.st ?_);have i:=k.EH (by omega);obtain⟨m,o,g⟩:=i.fork hf.1;have e:a.2.2.toNat<(s.2.1.getD a.2.1.toNat pg0).2.length:=by omega
     have q:a.2.2.toNat<w.η[a.2.1.toNat].fam.π.length:=by rw[g.len];exact e
     have l:KC ((s.2.1.getD a.2.1.toNat pg0).2.getD a.2.2.toNat []):=by rw[WB e];exact j.π _ (Xt e)
     exact{f with EH:=λ_=>{i.wk (show n<=n+1 by omega)with fork:=λ_=>⟨m,o,VC q h.mem l g rfl⟩}}
    .exact c
   .split
    .split
     .refine c.putQ h.EF b (d.st ?_);exact{f with EH:=λp=>{f.EH p with}}
     .exact c
    .exact c
 .exact c
theorem Nr(h:WOk s.2.1 n w)(hn:n<=99999)(u:1048576<N):BC N w.e s a=some (((eD s w a).e,()),()):=by
 have ht:=h.tick;have Q:=h.now;have wy:=h.n0;have jE:w.η.length<=4:=by rw[h.len];exact h.l4
 unfold BC eD;simp only[Wk];rw[show P5 w.e=w.η.map Rt.e from rfl,show w.e.1=w.now from rfl,aw (by omega)];have C:Wi (w.η.map Rt.e)=(w.η.length:Int):=by unfold Wi;simp
 rw[C,WJ (by unfold I64;omega)];simp only[WK,ret,Xd];by_cases l:0<=a.2.1/\a.2.1<w.η.length
 .rw[Wf l,Wc l.1,Wc (show a.2.1<=(w.η.length:Int) -1 by omega)];obtain⟨k,A⟩:∃k:Nat,a.2.1=k:=⟨a.2.1.toNat,by omega⟩;have c:k<w.η.length:=by omega
  obtain⟨x,b⟩:∃x,w.η[k]=x:=⟨_,rfl⟩;have o:=h.root k c;rw[b]at o;have z:k<s.2.1.length:=by rw[←h.len];exact c
  have g:=Ak h.progs z;obtain⟨H,Y,Z,I,g5⟩:=woG c b;obtain⟨O,r1,r2,r3,r4,r5,r6,r7,r8,gk,T,U,V,W,X,gQ,gR,G,J,gS,gT,gU⟩:=rtP x;have q:∀y:Rt,(w.now+1,S4 (Xf (w.η.map Rt.e) k y.e) w.e.2)=Wo.e (Wo.put ({w with now:=w.now+1},y) k):=λy=>by
   unfold Wo.put Wo.e;simp only[List.map_set];rfl
  have E:Wo.put ({w with now:=w.now+1},x) k={w with now:=w.now+1}:=by unfold Wo.put;simp only;rw[←b,jT]
  simp only[A,Xk,c6,Xn,Wb];rw[H,I,WB c,b];simp only[Wa,O,G,J,q,E,show w.e.2.2.1=w.mem from rfl];rw[WH,Wc z];have B:Xc s.2.1 k (([]:List Ka),([]:List Kae))=s.2.1.getD k pg0:=rfl;rw[B];generalize lG:s.2.1.getD k pg0=p at*;have L:GOk {w with now:=w.now+1}:=⟨h.mem,h.ο,h.holds⟩;simp only[Wa,Wv];have D:Fe N (Wo.e {w with now:=w.now+1}) (k:Int) p=some (((Wo.put (iz {w with now:=w.now+1} x k p) k).e,()),()):=
   Wu0 (w:={w with now:=w.now+1}) c b (by grind) g L o (by omega) (by have:=h.EF;grind) u
  rw[D];by_cases r:a.1=1
  .simp_all [Wf,Ee,WB,Xd]
  .rw[We r,We r];by_cases f:a.1=2
   .rw[Wf f,Wf f];by_cases m:x.ζ=2
    .rw[Wf m,WJ (by have:=g.k3;unfold I64 Wi;omega),show Wi p.2=(p.2.length:Int)from rfl];by_cases v:0<=a.2.2/\a.2.2<p.2.length
     .rw[Wc v.1,Wc (show a.2.2<=(p.2.length:Int) -1 by omega),Wf (show x.ζ=2/\0<=a.2.2/\a.2.2<p.2.length from⟨m,v⟩)];obtain⟨j,M⟩:∃j:Nat,a.2.2=j:=⟨a.2.2.toNat,by omega⟩;have d:j<p.2.length:=by omega
      simp only[M,Xk,c6,Wa];rw[WH,Wc d];obtain⟨R,S,i⟩:=(o.EH (by omega)).fork m;have F:KC (p.2.getD j []):=by rw[WB d];exact g.π _ (Xt d)
      rw[Wln (μ:=p.2.getD j []) (by rw[i.len];exact d) (by rw[i.len];exact g.k3) h.mem F i rfl (by omega) u];simp only[Xd,Wa];have:U21 (jz w.mem x.fam j (p.2.getD j [])).e x.e=Rt.e {x with fam:=jz w.mem x.fam j (p.2.getD j [])}:=rfl
      grind [ZO]
     grind
    simp_all
   .rw[We f,We f];by_cases t:a.1=3
    .rw[Wf t,Wf t];have K:S11 true x.e=Rt.e {x with EJ:=true}:=rfl;simp only[K,q,show(Cm.e x.cm).2.2.1=x.cm.ζ from rfl,W0]
     grind
    simp_all
 .rw[We l];have P:(decide (0<=a.2.1)&&decide (a.2.1<=(w.η.length:Int) -1))=false:=by
   rw[qi,Wn,Wn];omega
  rw[P];rfl
theorem Ae(h:cI s=true):WOk s.2.1 0 (lW s):=by
 obtain⟨b,c,i,d⟩:=rS h;exact{
  len:=by simp[lW]
  l4:=c
  progs:=d
  now:=rfl
  n0:=Int.le_refl _
  mem:=by
   show W6 (D8 s.1.1)=true;have:=b.ER.len;unfold W6 D8;simp only[Xu,this,decide_true,eI,Xh,Wh,bH];refine⟨by omega,λw g=>?_⟩;obtain⟨v,f,rfl⟩:=Xx.1 g;have:=b.ER.val v f;rw[vM];unfold wd0;simp only;omega
  ο:=⟨Wus b.map.1 b.map.2,b.cnt⟩
  holds:=⟨(λh a=>by cases a),List.Pairwise.nil⟩
  EF:=by simp[lW]
  histE:=λh a=>by cases a
  root:=λk j=>by
   simp only[lW,List.getElem_replicate];exact{
    ζ:=by simp
    χ:=by simp
    EH:=λa=>by simp at a
    comm:=λa=>by simp at a
    υ:=λu e=>by cases e
    ul:=by simp
    rg:=by simp
    ord:=by simp}}
theorem NS:∀(l:List Ac) (n) (w),WOk s.2.1 n w->WOk s.2.1 (n+l.length) (l.foldl (eD s) w)
 | [],n,w,h=>by simpa using h
 |a::l,n,w,h=>by
  have:=NS l (n+1) _ (jb (a:=a) h);rw[List.foldl_cons,Xs];rw[show n+((l.length+1:Nat):Int)=n+1+l.length by omega];exact this
theorem GY(h:cI s=true):WOk s.2.1 s.2.2.length (ea s):=by
 have:=NS s.2.2 0 _ (Ae h);rw[Int.zero_add]at this;exact this
end
section
section
variable{N:Nat}{c:Cur}
end
end
section
structure SI(d:Sc):Prop where
 c8:d.1.1.length=8
 m8:d.1.2.1.length=8
 p4:d.2.1.length<=4
 pg:∀p∈d.2.1,p.1.length<=24/\p.2.length<=3/\∀c∈p.2,c.length<=24
 ac:d.2.2.length<=400
def SmD(b:Option (Unit×(Sc×(List UInt8×Unit))))(a:Option ((Sc×Unit)×(List UInt8×Unit))):Prop:=
 ∃d t,b=some ((),(d,(t,())))/\a=some ((d,()),(t,()))/\SI d/\t.length<=300/\(10:UInt8)∉t
section
variable{α:Type}{l:List α}{a b:α}
theorem Oz(h:l.length<=1000):Wz .i64 (Wi (l++ [a])) 1=(l.length:Int):=by
 rw[WJ (by unfold I64 Wi;simp;omega)];unfold Wi;simp
theorem HP:inb (l.length:Int) (l++ [a]).length=true:=Wq (by simp)
theorem HG{d}:Xc (l++ [a]) l.length d=a:=by simp
theorem N9:Xf (l++ [a]) l.length b=l++ [b]:=by simp
theorem OB:decide ((l.length:Int)<0)=false:=Wg (by omega)
theorem ZF:decide (Wi (l++ [a])>0)=true:=Wc (by unfold Wi;simp)
end
variable{N:Nat}{d:Sc}{o:Opn}
theorem Wy7(h:SI d):SmD (LI N d o) (IZ N d o):=by
 obtain⟨⟨i,l,j⟩,ps,as⟩:=d;have same:SI ((i,l,j),ps,as):=h;unfold LI IZ;simp only[Wk];rcases OS ps with rfl|⟨P,p,rfl⟩
 .exact⟨_,_,rfl,rfl,h,by simp⟩
 .have h4:=h.p4;simp only[AZ,Xv,Xs,kN]at h4;simp only[AZ];have b:=h.pg p (by simp);have f:∀q,(q.1.length<=24/\q.2.length<=3/\∀c∈q.2,c.length<=24)->SI ((i,l,j),P++ [q],as):=λq r=>⟨h.c8,h.m8,by simp;omega,λx a=>by
   rcases Xo.1 a with a|a
   .exact h.pg x (by simp[a])
   .rw[cq.1 a];exact r,h.ac⟩
  rw[Oz (by omega),OB];simp only[Wb];by_cases k:as= []
  .subst k;rw[show decide (Wi ([]:List Ac)>0)=false from rfl,Wb,Wb];obtain⟨pc,g⟩:=p;have b:pc.length<=24/\g.length<=3/\∀c∈g,c.length<=24:=b;simp only[HP,Xk,HG,N9,Pe,O8,Wa,eI];rcases OS g with rfl|⟨K,c,rfl⟩
   .have e1:decide (Wz .i64 (Wi ([]:List (List Opn))) 1<0)=true:=rfl;have m:decide (Wi ([]:List (List Opn))>0)=false:=rfl;simp only[e1,m,Wa,Wb];by_cases e:Wi pc>=24
    .rw[Wc e,Wa,Wa];exact⟨_,_,rfl,rfl,f _ b,by simp⟩
    .rw[Wg e,Wb,Wb,Wp (by simp;omega),Wa,Wa];exact⟨_,_,rfl,rfl,f _ ⟨by unfold Wi at e;simp;omega,b.2⟩,by simp⟩
   .simp only[AZ]at b⊢;have n:=b.2.1;simp only[Xv,Xs,kN]at n;have s:=b.2.2 c (by simp);simp only[Oz (show K.length<=1000 by omega),OB,ZF,Wa,Wb,HP,Xk,HG,N9,Pe,O8,eI];by_cases e:Wi c>=24
    .rw[Wc e,Wa,Wa];exact⟨_,_,rfl,rfl,f _ b,by simp⟩
    .rw[Wg e,Wb,Wb,Wp (by simp;omega),Wa,Wa];refine⟨_,_,rfl,rfl,f _ ⟨b.1,by simp;omega,λx a=>?_⟩,by simp⟩;rcases Xo.1 a with a|a
     .exact b.2.2 x (by simp[a])
     .rw[cq.1 a];unfold Wi at e;simp;omega
  .have:decide (Wi as>0)=true:=Wc (by unfold Wi;cases as with|nil=>exact Wy rfl k|cons _ _=>simp);rw[this,Wa,Wa];refine⟨_,_,rfl,rfl,?_,by simp⟩;simpa only[AZ]using same
def yn(b:Bool):List UInt8:=bif b then [111,107]else [110,111]
theorem px{b}:Zm N b=ret (yn b):=by cases b<;>rfl
theorem Hf{b}:iU N b=ret (yn b):=by cases b<;>rfl
noncomputable def bY(r:Option (Unit×(Sc×Ke)))(N:Nat):Option (Unit×(Sc×(List UInt8×Unit))):=r.bind λo=>(Zm N o.2.2.1).bind λp=>some ((),(o.2.1,(p.2.1,())))
theorem WyQ(h:SI d)(b:d.2.1.length<4):SI (d.1,d.2.1++ [([],[])],d.2.2):=⟨h.c8,h.m8,by simp;omega,λp a=>by
 rcases Xo.1 a with a|a
 .exact h.pg p a
 .rw[cq.1 a];simp,h.ac⟩
theorem H0{α}{l:List α}:decide (Wi l>0)= !l.isEmpty:=by cases l<;>simp[Wi]
theorem OF{α}{l:List α}:(Wi l==(0:Int))=l.isEmpty:=by cases l<;>simp[Wi];omega
theorem Wx1(h:SI d){n}:SmD (bY (fE N d [114,111,111,116] n) N) (Zx N d [114,111,111,116]):=by
 unfold fE Zx bY;have b:seq [114,111,111,116] ([114,111,111,116]:List UInt8)=true:=rfl;simp only[b,Wa,H0];cases he:d.2.2.isEmpty with
 |false=>
  exact⟨_,_,rfl,rfl,h,by simp[yn]⟩
 |true=>
  by_cases a:Wi d.2.1>=4
  .simp only[Wc a,Wa,Xd,px,ret];exact⟨_,_,rfl,rfl,h,by simp[yn]⟩
  .have:d.2.1.length<4:=by unfold Wi at a;omega
   simp only[Wg a,Wb,Wp (show d.2.1.length+Xa [(([]:List Opn),([]:List (List Opn)))]<=1073741824 by simp;omega),Wa,Xd,px,ret];exact⟨_,_,rfl,rfl,WyQ h this,by simp[yn]⟩
theorem Wyn(h:SI d){n:List Int}:SmD (bY (fE N d [107,105,100] n) N) (Zx N d [107,105,100]):=by
 unfold fE Zx bY;have m:seq [107,105,100] ([114,111,111,116]:List UInt8)=false:=rfl;have o:seq [107,105,100] ([107,105,100]:List UInt8)=true:=rfl;simp only[m,o,Wa,Wb,H0];obtain⟨⟨i,l,j⟩,ps,as⟩:=d;cases he:as.isEmpty with
 |false=>
  simp only[he,fx,Wa,Xd,px,ret];exact⟨_,_,rfl,rfl,h,by simp[yn]⟩
 |true=>
  simp only[he,Xn,Wb];rcases OS ps with rfl|⟨P,p,rfl⟩
  .exact⟨_,_,rfl,rfl,h,by simp[yn]⟩
  .have h4:=h.p4;simp only[AZ,Xv,Xs,kN]at h4;simp only[AZ];have b:=h.pg p (by simp);have g:∀q,(q.1.length<=24/\q.2.length<=3/\∀c∈q.2,c.length<=24)->SI ((i,l,j),P++ [q],as):=λq k=>⟨h.c8,h.m8,by simp;omega,λx a=>by
    rcases Xo.1 a with a|a
    .exact h.pg x (by simp[a])
    .rw[cq.1 a];exact k,h.ac⟩
   obtain⟨pc,e⟩:=p;have b:pc.length<=24/\e.length<=3/\∀c∈e,c.length<=24:=b;simp only[Wk,Oz (show P.length<=1000 by omega),OB,HP,Xk,HG,N9,Pe,O8,Wa,Wb,eI];by_cases f:Wi e>=3
   .simp only[Wc f,Wa,Xd,px,ret];exact⟨_,_,rfl,rfl,g _ b,by simp[yn]⟩
   .simp only[Wg f,Wb,Wp (show e.length+Xa [([]:List Opn)]<=1073741824 by simp;omega),Wa,Xd,px,ret];refine⟨_,_,rfl,rfl,g _ ⟨b.1,by unfold Wi at f;simp;omega,λx a=>?_⟩,by simp[yn]⟩;rcases Xo.1 a with a|a
    .exact b.2.2 x a
    .rw[cq.1 a];simp
theorem Df{v}:jY N v=ret (d9 v):=by
 unfold jY;simp only[cC,ret,Xd];rfl
theorem WxY(h:SI d){a b}:SmD (bY (fE N d [99,101,108,108] [a,b]) N) (nB N d [99,101,108,108] a b):=by
 unfold fE nB bY;have j:seq [99,101,108,108] ([114,111,111,116]:List UInt8)=false:=rfl;have k:seq [99,101,108,108] ([107,105,100]:List UInt8)=false:=rfl;have l:seq [99,101,108,108] ([99,101,108,108]:List UInt8)=true:=rfl;have g:inb 0 (Xa [a,b])=true:=rfl;have i:inb 1 (Xa [a,b])=true:=rfl;have c:Xc [a,b] (Xb 0) 0=a:=rfl;have e:Xc [a,b] (Xb 1) 0=b:=rfl;simp only[j,k,l,g,i,c,e,Wa,Wb,H0,OF,mD,W2,i0,ka,ret,Xd];cases he:d.2.2.isEmpty with
 |false=>
  exact⟨_,_,rfl,rfl,h,by simp[yn]⟩
 |true=>
  cases hc:bU a with
  |false=>
   exact⟨_,_,rfl,rfl,h,by simp[yn]⟩
  |true=>
   have f:inb a d.1.1.length=true:=by
    rw[h.c8];unfold bU at hc;unfold inb;simp only[Xh,Wh]at hc⊢;omega
   cases hv:bR b with
   |false=>
    exact⟨_,_,rfl,rfl,h,by simp[yn]⟩
   |true=>
    simp only[f,Xn,fx,Wa,Wb,Xd,px,Hf,ret];exact⟨_,_,rfl,rfl,⟨by simpa using h.c8,h.m8,h.p4,h.pg,h.ac⟩,by simp[yn]⟩
theorem Wyg(h:SI d){a b}:SmD (bY (fE N d [107,101,121] [a,b]) N) (nB N d [107,101,121] a b):=by
 unfold fE nB bY;have j:seq [107,101,121] ([114,111,111,116]:List UInt8)=false:=rfl;have k:seq [107,101,121] ([107,105,100]:List UInt8)=false:=rfl;have l:seq [107,101,121] ([99,101,108,108]:List UInt8)=false:=rfl;have m:seq [107,101,121] ([107,101,121]:List UInt8)=true:=rfl;have g:inb 0 (Xa [a,b])=true:=rfl;have i:inb 1 (Xa [a,b])=true:=rfl;have c:Xc [a,b] (Xb 0) 0=a:=rfl;have e:Xc [a,b] (Xb 1) 0=b:=rfl;simp only[j,k,l,m,g,i,c,e,Wa,Wb,H0,OF,Df,zF,i0,ka,ret,Xd];cases he:d.2.2.isEmpty with
 |false=>
  exact⟨_,_,rfl,rfl,h,by simp[yn]⟩
 |true=>
  cases hc:d9 a with
  |false=>
   exact⟨_,_,rfl,rfl,h,by simp[yn]⟩
  |true=>
   have f:inb a d.1.2.1.length=true:=by
    rw[h.m8];unfold d9 at hc;unfold inb;simp only[Xh,Wh]at hc⊢;omega
   cases hv:bR b with
   |false=>
    exact⟨_,_,rfl,rfl,h,by simp[yn]⟩
   |true=>
    simp only[f,Xn,fx,Wa,Wb,Xd,px,Hf,ret];exact⟨_,_,rfl,rfl,⟨h.c8,by simpa using h.m8,h.p4,h.pg,h.ac⟩,by simp[yn]⟩
theorem aB(h:SI d):SB d:=⟨by have:=h.c8;omega,by have:=h.m8;omega,by have:=h.p4;omega,λp e=>by
 obtain⟨a,b,c⟩:=h.pg p e;exact⟨by omega,by omega,λx f=>by have:=c x f;omega⟩,by have:=h.ac;omega⟩
theorem N1(h:SI d)(b:1048576<N){k r j}:SmD (bY ((Zh N d).bind λc=>
 (bif !c.2.1 then
 (some ((),(d,(false,()))))
 else
 ((Zc N r (0:Int) (Wz .i64 (Wi d.2.1) (1:Int))).bind λe=>
 (bif !e.2.1 then
 (some ((),(d,(false,()))))
 else
 ((Zc N j (0:Int) (2:Int)).bind λf=>
 (bif !f.2.1 then
 (some ((),(d,(false,()))))
 else
 (bif decide ((Wi d.2.2)>=(400:Int))then
 (some ((),(d,(false,()))))
 else
 (bif Wx ((Xa d.2.2)+(Xa ([(k,(r,j))])))then
 (some ((),((d.1,(d.2.1,Xe d.2.2 ([(k,(r,j))]))),(true,()))))else none)))))))) N) (oi N d (k,(r,j))):=by
 unfold oi bY;simp only[W8 (aB h) b,WR (aB h) b,cC,WK,ret,Xd];cases cI d with
 |false=>
  exact⟨_,_,rfl,rfl,h,by simp[yn]⟩
 |true=>
  cases(decide ((0:Int)<=r)&&decide (r<=Wz .i64 (Wi d.2.1) 1))with
  |false=>
   exact⟨_,_,rfl,rfl,h,by simp[yn]⟩
  |true=>
   cases(decide ((0:Int)<=j)&&decide (j<=2))with
   |false=>
    exact⟨_,_,rfl,rfl,h,by simp[yn]⟩
   |true=>
    by_cases a:Wi d.2.2>=400
    .simp only[Wc a,Wg (show¬Wi d.2.2<400 by omega),Xn,Wa,Wb,Xd,px,Hf,ret];exact⟨_,_,rfl,rfl,h,by simp[yn]⟩
    .have ha:=h.ac;simp only[Wg a,Wc (show Wi d.2.2<400 by omega),Wp (show d.2.2.length+Xa [(k,r,j)]<=1073741824 by simp;omega),Xn,Wa,Wb,Xd,px,Hf,ret];exact⟨_,_,rfl,rfl,⟨h.c8,h.m8,h.p4,h.pg,by unfold Wi at a;simp;omega⟩,by simp[yn]⟩
end
section
def stl(x:Rt):Bool:=decide (x.ζ=8)||((decide (x.ζ=5)&&(decide (x.cm.ζ=4)||decide (x.cm.ζ=5)))||((decide (x.ζ=6)||decide (x.ζ=7))&&decide (x.EN≠0)))
def c0(x:Rt):Int:=if stl x=true then(if x.ζ=5 then x.cm.wv else x.ES)else 0
section
variable{w:Wo}{x y z:Rt}{k:Nat}{p:Pg}{n:Int}{o:Opn}
end
section
variable{s:Sc}{w v u:Wo}{n:Int}{a:Ac}{k:Nat}
theorem WyO(h:WOk s.2.1 n w)(hk):(iz {w with now:=w.now+1} w.η[k] k (s.2.1.getD k pg0)).1.η=w.η:=
 (VL (w:={w with now:=w.now+1}) (k:=k) (Ak h.progs (by rw[←h.len];exact hk)) ⟨h.mem,h.ο,h.holds⟩ (h.root k hk) (by have:=h.l4;have:=h.len;omega) h.n0).η
end
end
section
def EG(m:Mm)(i:Int):Int:=(aF m i).2.2
section
variable{m:Mm}{c c':Cm}{i j:Int}{w:Wd}
end
end
section
section
variable{w:Wo}{x:Rt}{k:Nat}{p:Pg}{q:Wo×Rt}{o:Opn}{n:Int}
end
section
variable{s:Sc}{w v:Wo}{n:Int}{a:Ac}{k:Nat}{q:Wo×Rt}
end
end
section
variable{N:Nat}{s:Sc}{w:Wo}{n:Int}
theorem C8{v}(a:v≠0)(e:1<=v/\v<=524288):nE N v=some ((),(co v,((v-1)%65536,()))):=by
 unfold nE;rw[show(v==(0:Int))=false by simpa using a];have b:Wz .i64 v 1=v-1:=WJ (by unfold I64;omega);have c:ey .i64 (v-1) 65536=co v:=by
  unfold ey co;rw[Ez (by omega),H2 (by unfold I64;omega)]
 have d:ak (v-1) 65536=(v-1)%65536:=by exact Ev (by omega)
 simp[Wb,show inz (65536:Int)=true from rfl,Wa,b,c,d]
theorem R1{k}(a:0<=k/\k<=7):Fx N k=ret (bS k):=by
 unfold Fx jY bS;have b:Wj .i64 (bw .i64 k 7) 3=7*k+3:=by
  rw[kk (by unfold I64;omega),WA (by unfold I64;omega)];omega
 have c:ak (7*k+3) 4=(7*k+3)%4:=by exact Ev (by omega)
 simp[cC,ret,Xd,Wc a.1,Wc a.2,c6,Xn,Wb,show inz (4:Int)=true from rfl,Wa,b,c]
theorem CZ{l}(h:SlOk l)(H:1048576<N):oI N l=ret true:=by
 have A:=h.len;have D:∀(d j n:Nat) (s:List Bool),j+d=16->d<n->s.length=8->(∀c:Nat,s.getD c false=true->∃i,∃g:i<l.length,i<j/\l[i]≠0/\co l[i]=c)->
   tm N l (some ((),(false,()))) (λG F E=>(some ((),(true,())))) n (j:Int) s=ret true:=by
  intro d
  induction d with
  |zero=>
   intro j n s y B _ _;obtain⟨n,rfl⟩:∃n',n=n'+1:=⟨n-1,by omega⟩;have:j=l.length:=by omega
   subst this;simp[tm,WN (Xj _),Wb]
  |succ d ih=>
   intro j n s y B q p;obtain⟨n,rfl⟩:∃n',n=n'+1:=⟨n-1,by omega⟩;have b:j<l.length:=by omega
   simp only[tm,WF b,Wq b,Wu b,Wl (show j<4611686018427387904 by omega),Wa,cC,ret,Xd];by_cases e:l[j]=0
   .have e1:nE N l[j]=some ((),((-1:Int),((0:Int),()))):=by rw[e];rfl
    have o:(decide ((0:Int)<=l[j])&&decide (l[j]<=524288))=true:=by rw[e];rfl
    rw[e1,o];simp only[Xd,Xn,Wb,show decide ((-1:Int)<0)=true from rfl,Wa];exact ih (j+1) n s (by omega) (by omega) q λc a=>by
     obtain⟨i,g,f,k,m⟩:=p c a;exact⟨i,g,by omega,k,m⟩
   .have hv:=h.val b e;have z:=VI hv;have r:bS (co l[j])=((j/4:Nat):Int):=by
     rcases h.each j b with f|f
     .exact Wy f e
     .exact f.2
    have C:ey .i64 (j:Int) 4=((j/4:Nat):Int):=by
     unfold ey;rw[Ez (by omega),H2 (by unfold I64;omega)];omega
    have t:s.getD (Xb (co l[j])) false=false:=by
     rw[Bool.eq_false_iff];intro a;obtain⟨i,g,f,k,m⟩:=p _ a;exact h.one i j g b f k e (by omega)
    have o:(decide ((0:Int)<=l[j])&&decide (l[j]<=524288))=true:=by simp;omega
    have u:decide (co l[j]<(0:Int))=false:=Wg (by omega);have v:inb (co l[j]) s.length=true:=by unfold inb;simp;omega
    rw[C8 e hv,o];simp only[Xd,Xn,Wb,u,v,Wa,t,R1 z,ret,r,C,bne_self_eq_false,show inz (4:Int)=true from rfl];refine ih (j+1) n _ (by omega) (by omega) (by simpa using q) λc a=>?_;by_cases x:c=(co l[j]).toNat
    .exact⟨j,b,by omega,e,by omega⟩
    .have:s.getD c false=true:=by
      rw[l0,List.getElem?_set_ne (by omega),←l0]at a;exact a
     obtain⟨i,g,f,k,m⟩:=p c this;exact⟨i,g,by omega,k,m⟩
 unfold oI;rw[show((Wi l) !=(16:Int))=false by unfold Wi;rw[A];rfl];refine D 16 0 N _ (by omega) (by omega) (by simp) λc a=>?_;rw[l0]at a;by_cases w:c<8
 .rw[List.getElem?_replicate,Wf (show c<Xb 8 from w)]at a;simp at a
 .rw[hQ (by simp;omega)]at a;simp at a
theorem RR{h}(a:ShOk h)(b:1048576<N):FF N h=ret true:=by
 unfold FF;rw[CZ a.slots b,i0,gH.2 a.cnt];rfl
theorem F4{l}(h:HOk l)(w:l.length<=1048576)(v:1048576<N):ut N l=ret true:=by
 have r:∀(d j n:Nat),j+d=l.length->d<n->qN N l (some ((),(false,()))) (λy u=>(some ((),(true,())))) n (j:Int)=ret true:=by
  intro d
  induction d with
  |zero=>
   intro j n o p;obtain⟨n,rfl⟩:∃n',n=n'+1:=⟨n-1,by omega⟩;have:j=l.length:=by omega
   subst this;simp[qN,WN (Xj _),Wb]
  |succ d ih=>
   intro j n o p;obtain⟨n,rfl⟩:∃n',n=n'+1:=⟨n-1,by omega⟩;have a:j<l.length:=by omega
   have q:=h.val l[j] (Xt a);have g:=ih (j+1) n (by omega) (by omega);obtain⟨v1,v2,v3⟩:=Ya.2 q;simp only[qN,WF a,Wq a,Wu a,Wl (show j<4611686018427387904 by omega),Wa,cC,v1,v2,v3,ret,Xd,Xn,Wb,g];by_cases m:j=0
   .subst m;rfl
   .have e1:decide ((j:Int)>0)=true:=by simp;omega
    have i:Wz .i64 (j:Int) 1=((j-1:Nat):Int):=by rw[WJ (by unfold I64;omega)];omega
    have b:j-1<l.length:=by omega
    have x:=h.val l[j-1] (Xt b);have f:=hP.1 h.up (j-1) j b a (by omega);simp only[e1,i,Wa,Wq b,Wu b];have e:=f.1;unfold cfH at e;by_cases c:l[j-1].2.1=l[j].2.1
    .rw[show(l[j-1].2.1==l[j].2.1)=true by simpa using c]at*;have k:¬l[j-1].1>=l[j].1:=by
      simp only[Wa]at e;omega
     obtain⟨s,t⟩:=f.2 c;rw[Wg (show¬l[j-1].2.1>l[j].2.1 by omega),Wg k,show(l[j].2.2==2)=false by simpa using t,show(l[j-1].2.2==2)=false by simpa using s];rfl
    .have io:¬l[j-1].2.1>l[j].2.1:=by
      rw[show(l[j-1].2.1==l[j].2.1)=false by simpa using c]at e;simp only[Wb]at e;omega
     rw[Wg io,show(l[j-1].2.1==l[j].2.1)=false by simpa using c];rfl
 exact r l.length 0 N (by omega) (by omega)
end
section
variable{N:Nat}{l:List Int}{k v:Int}{s:Shf}{u:Un}{o:Opn}{r:List Int}
theorem MH(h:SlOk l)(g:0<=k)(m:1048576<N):qW N l k=ret (match fc l k with|some r=>(r.1:Int)|none=>-1):=by
 unfold qW fc;have o:=h.len;have f:=DV (l:=l) (p:=p9 k) (N:=N) (lp:=λn j=>tA N l k (λc=>some ((),(c,()))) (λq i=>some ((),((-1:Int),()))) n j) (K0:=λj=>some ((),(j,()))) (K1:=some ((),((-1:Int),()))) (by omega) (by omega)
  (λn j b=>by
   simp only[tA,WF b,Wq b,Wu b,Wl (show j<4611686018427387904 by omega),Wa];unfold p9;by_cases a:l[j]=0
   .have e:nE N l[j]=some ((),((-1:Int),((0:Int),()))):=by unfold nE;rw[a];rfl
    have d:((-1:Int)==k)=false:=by simp;omega
    rw[e];simp only[Xd,d,Wb,a];rfl
   .have hv:=h.val b a;rw[C8 a hv];simp only[Xd,Wc (g),Wa,Wc (show l[j]>0 by omega),eI];by_cases e:co l[j]=k
    .simp[e]
    .rw[show(co l[j]==k)=false by simpa using e,Wg e])
  (λn=>by simp[tA,WN,Xj,Wb])
 rw[f];cases fnd (p9 k) l 0<;>rfl
theorem Dc(a:0<=k/\k<=7):jY N k=ret true:=by
 unfold jY;rw[cC,Wc a.1,Wc a.2];rfl
theorem R4(h:SlOk l)(c:0<=k/\k<=7)(a:1048576<N):FE N l k=some ((),((if aH l k=0 then 0 else aH l k-1),(decide (aH l k≠0),()))):=by
 unfold FE aH;rw[CZ h a,Dc c,MH h c.1 a];simp only[ret,Xd,Xn,Wb];cases hr:fc l k with
 |none=>rfl
 |some r=>
  obtain⟨b,d,e,f,g,i⟩:=ru h hr;simp only[Wg (show¬((r.1:Int)<0) by omega),Wb,WH,Wc b,Wa,Wu b,d];rw[C8 (by omega) ⟨e,f⟩,We (by omega),Wc (by omega)];simp only[Int.add_sub_cancel];rfl
theorem XE(c:0<=k/\k<=7)(d:0<=v/\v<=65535):Wj .i64 (Wj .i64 1 (bw .i64 k 65536)) v=1+65536*k+v:=by
 have a:bw .i64 k 65536=k*65536:=kk (by unfold I64;omega);have b:Wj .i64 1 (k*65536)=1+k*65536:=WA (by unfold I64;omega);rw[a,b,WA (by unfold I64;omega)];omega
theorem LV(h:SlOk l)(d:0<=k/\k<=7)(i:0<=v/\v<=65535)(o:1048576<N):uu N l k v=some ((),(p7 l k v,(aH l k,(true,())))):=by
 have w:=h.len;unfold uu;rw[Ho (by omega),CZ h o,Dc d,i0,MH h d.1 o,R1 d,XE d i];simp only[ret,Xd,Xn,Wb,gH.2 i];unfold p7 aH;cases hr:fc l k with
 |some r=>
  obtain⟨c,e,m,b,g,t⟩:=ru h hr;simp only[Wc (show((r.1:Int)>=0) by omega),Wa,WH,Wc c,Xk,Wu c,e];rw[WB c,e,C8 (by omega) ⟨m,b⟩,Xd];simp only;rw[WA (a:=1) (by unfold I64;omega),Int.add_comm 1 ((r.2-1)%65536)]
 |none=>
  simp only[show decide ((-1:Int)>=0)=false from rfl,Wb];have u:=YF k;obtain⟨c,e,m,b⟩:=MD h d hr;rw[kk (by unfold I64;omega)];obtain⟨f,rfl⟩:∃f,N=f+1+1:=⟨N-2,by omega⟩;have p:4*bS k=(((4*bS k).toNat:Nat):Int):=by omega
  have j:∀n,xX (f+1+1) l k v l (λq=>some ((),(q,((0:Int),(true,()))))) (λy x=>some ((),(l,((0:Int),(false,()))))) (n+1) (m4 l k:Int)=some ((),(l.set (m4 l k) (1+65536*k+v),((0:Int),(true,())))):=λn=>by
   simp only[xX,WF c,Wq c,Wu c,e,Wa,beq_self_eq_true];rw[Xk,XE d i]
  rcases b with b|⟨b,g⟩
  .rw[p,←b];exact j _
  .have ab:(4*bS k).toNat<l.length:=by omega
   have s:al l (4*bS k) 0=l[(4*bS k).toNat]:=WB ab _;rw[s]at g;rw[p,xX];simp only[WF ab,Wq ab,Wu ab,Wa];rw[show(l[(4*bS k).toNat]==0)=false by simpa using g,Wl (by omega),←b];exact j _
theorem RU(h:SlOk l)(d:0<=k/\k<=7)(b:1048576<N):Fz N l k=some ((),(sb l k,(aH l k,(true,())))):=by
 have m:=h.len;unfold Fz;rw[Ho (by omega),CZ h b,Dc d,MH h d.1 b];simp only[ret,Xd,Xn,Wb];unfold sb aH;cases hr:fc l k with
 |none=>rfl
 |some r=>
  obtain⟨c,e,f,g,i,j⟩:=ru h hr;simp only[Wg (show¬((r.1:Int)<0) by omega),Wb,WH,Wc c,Wa,Xk];rw[WB c,e,C8 (by omega) ⟨f,g⟩,Xd];simp only;rw[WA (a:=1) (by unfold I64;omega),Int.add_comm 1 ((r.2-1)%65536)]
theorem Sm(h:ShOk s):FG N s=ret s:=by
 unfold FG;rw[Ho (by have:=h.slots.len;omega)];rfl
theorem Wlb(d:UnV u):Lp N u=ret true:=by
 unfold Lp;rcases d with⟨a,b,c⟩|⟨a,b,c⟩|⟨a,b,c⟩
 .rw[a,Dc b,i0,gH.2 c];rfl
 .rw[a,Dc b,c];rfl
 .rw[a,b,i0,gH.2 c];rfl
theorem Wkg(h:ShOk s)(e:UnV u)(d:1048576<N):K3 N s u=some ((),(vJ s u,(true,()))):=by
 unfold K3 vJ;rw[Sm h,RR h d,Wlb e];simp only[ret,Xd,Xn,Wb];have i:=h.cnt;rcases e with⟨a,b,c⟩|⟨a,b,c⟩|⟨a,b,c⟩
 .rw[a,LV h.slots b c d];rfl
 .rw[a,RU h.slots b d];rfl
 .have e1:Wz .i64 s.2 u.2.2=s.2-u.2.2:=WJ (by unfold I64;omega);have f:Wj .i64 (s.2-u.2.2) 65536=s.2-u.2.2+65536:=WA (by unfold I64;omega);have g:ak (s.2-u.2.2+65536) 65536=(s.2-u.2.2+65536)%65536:=ie (by omega);rw[a,e1,f,g];rfl
theorem Tc{e}(a:0<=e/\e<=65536):FH N k e=ret (nX k e):=by
 unfold FH nX;by_cases h:e=0
 .rw[h];rfl
 .rw[show(e==0)=false by simpa using h,We h,WJ (by unfold I64;omega)];rfl
theorem Wm5(a:aT o=true)(b:12<=o.1):IW N o=some ((),((cQ o).1,((cQ o).2,()))):=by
 have c:=p6 a;unfold IW cQ;rw[CW,Hr a b];simp only[ret,Xd,bne_self_eq_false,Wb,Wv];have:o.1=12\/o.1=13\/o.1=14\/o.1=15\/o.1=16:=by omega
 rcases this with h|h|h|h|h<;>simp[h]
theorem WjS(h:ShOk s)(m:Vals 4 r)(d:aT o=true)(p:12<=o.1)(k:1048576<N):
  K4 N s o r=some ((),((eX s o r).1,((eX s o r).2.1,((eX s o r).2.2,(true,()))))):=by
 have u:=p6 d;have e:=m.len;have q:=h.cnt;unfold K4 eX;rw[Sm h,Ho (by omega)];simp only[ret,Xd];rw[RR h k,Gh (by omega) k,nP.2 m,CW,Hr d p];simp only[ret,Xd,Xn,Wb,bne_self_eq_false,Wv,show inz (65536:Int)=true from rfl,Wa,Wk,cY];by_cases f:o.1=12
 .obtain⟨a,b,c⟩:=Az d f;rw[mK]at a;rw[Wf f,Wf f,WW b e,WW c e];have l:=mG s.1 o.2.1;rw[LV h.slots a (m.get _) k];simp only[Wa,Xd,Tc l,ret];rw[ie (by omega)];rfl
 rw[We f,We f];by_cases i:o.1=14
 .obtain⟨a,b⟩:=AC d i;rw[mK]at a;have l:=mG s.1 o.2.1;rw[Wf i,We (by omega),Wf i,WW b e,RU h.slots a k];simp only[Wa,Xd,Tc l,ret];rw[ie (by omega)];rfl
 rw[We i];by_cases g:o.1=13
 .obtain⟨a,b⟩:=Eb d g;rw[mK]at b;have l:=mG s.1 o.2.2.1;rw[Wf g,Wf g,WW a e,R4 h.slots b k];simp only[Wa,Xd];by_cases n:aH s.1 o.2.2.1=0
  .rw[n];rfl
  .rw[We n,Wc n,WA (by unfold I64;omega),ie (by omega),Int.sub_add_cancel];simp only[Wa,nk];rfl
 rw[We g,We g,We i];by_cases j:o.1=15
 .have a:=ZA d j;have t:=m.get o.2.1.toNat;rw[Wf j,Wf j,WW a e];simp only[Wa];rw[WA (by unfold I64;omega),ie (by omega)];rfl
 .rw[We j,We j,WW (Yw d (by omega)) e];rfl
end
section
variable{N:Nat}{l:List Hd}{who what mode b:Int}
theorem Sh(h:HOk l)(g:l.length<=1048576)(f:1048576<N):ze N l who what=ret (eb l who what):=by
 unfold ze eb;rw[F4 h g f];simp only[ret,Xd,Xn,Wb];have e:=WC (l:=l) (V:=Unit) (R:=Unit×Kk) (lp:=λn j v=>tw N l who what (λb=>some ((),(b,()))) (λo m=>some ((),((0:Int),()))) n j) (n:=N) (by omega)
  (body:=λj x v k=>bif gu who what x then some ((),(x.2.2,()))else k v) (K:=λ_ v=>some ((),((0:Int),())))
  (λn i v a=>by
   simp only[tw,WF a,Wq a,Wu a,Wl (show i<4611686018427387904 by omega),Wa];unfold gu;by_cases c:l[i].1=who<;>by_cases d:l[i].2.1=what<;>simp[Wv,c,d])
  (λn v=>by simp[tw,WN,Xj,Wb]) ()
 refine(e.trans (zN (p:=gu who what) (E:=λ_ x=>some ((),(x.2.2,()))) l 0 () λj x v k _=>rfl)).trans ?_;cases fnd (gu who what) l 0<;>rfl
theorem VQ(h:HOk l):eb l who what>0↔∃x∈l,x.1=who/\x.2.1=what:=by
 unfold eb;cases hf:fnd (gu who what) l 0 with
 |none=>
  refine⟨λz=>by simp at z,λ⟨x,e,c,d⟩=>?_⟩;have:=Dw hf x e;simp[gu,c,d]at this
 |some r=>
  have g:=lu hf;have b:=gz g.2.2.2;have a:gu who what r.2=true:=g.1;unfold gu at a;simp only[Xh,Wh]at a;exact⟨λ_=>⟨r.2,b,a.1,a.2⟩,λ_=>by have:=(h.val _ b).2.2;show r.2.2.2>0;omega⟩
def rN(l:List Hd)(who:Int)(c:Nat):List Int:=((List.range' c (9-c)).filter λw:Nat=>decide (eb l who (w:Int)>0)).map λw:Nat=>(w:Int)
theorem LW(h:HOk l)(e:l.length<=1048576)(b:1048576<N):∀(d c n:Nat) (o:List Int),c+d=9->d<n->o.length<=c->
  tt N l who (λk m f=>some ((),(f,()))) n (c:Int) o=ret (o++rN l who c)
 |d,c,0,o,_,p,_=>by omega
 |0,c,n+1,o,j,_,_=>by
  have:c=9:=by omega
  subst this;simp[tt,rN,ret]
 |d+1,c,n+1,o,j,q,ho=>by
  have g:decide ((c:Int)<9)=true:=by simp;omega
  have i:rN l who c=(if eb l who (c:Int)>0 then [(c:Int)]else [])++rN l who (c+1):=by
   unfold rN;rw[show 9-c=(9-(c+1))+1 by omega,List.range'_succ];by_cases a:eb l who (c:Int)>0
   .rw[Wf a,List.filter_cons_of_pos (by simpa using a)];rfl
   .rw[We a,List.filter_cons_of_neg (by simpa using a)];rfl
  rw[tt,g,Wa,Sh h e b];simp only[ret,Xd,W0];rw[i,Wl (show c<4611686018427387904 by omega)];by_cases a:eb l who (c:Int)>0
  .rw[Wf a,Wf a,Wp (by simp;omega)];simp only[Wa,cZ];rw[LW h e b d (c+1) n _ (by omega) (by omega) (by simp;omega)];simp
  .rw[We a,We a,LW h e b d (c+1) n _ (by omega) (by omega) (by omega)];simp
theorem Wkf(h:HOk l)(b:l.length<=1048576)(a:1048576<N):y7 N l who=ret (rN l who 0):=by
 unfold y7;exact LW h b a 9 0 N [] (by omega) (by omega) (by simp)
theorem WoR(h:HOk l):(rN l who 0).length=0↔(pu l who).length=0:=by
 unfold rN pu;rw[Xu,Xu,EA,EA,Xgs,Xgs];constructor
 .intro z x a e;have b:=h.val x a;refine z x.2.1.toNat (by rw[List.mem_range'_1];have:=b.2.1;omega) ?_;rw[Wh,Int.toNat_of_nonneg b.2.1.1,VQ h];exact⟨x,a,by simpa using e,rfl⟩
 .intro z w hw e;rw[Wh,VQ h]at e;obtain⟨x,a,c,d⟩:=e;exact z x a (by simpa using c)
theorem Wmc(h:HOk l)(b:1<=mode/\mode<=2)(r:l.length<=1048576)(q:1048576<N):CH N l who what mode=ret (nU l who what mode):=by
 unfold CH nU;rw[F4 h r q,cC];simp only[ret,Xd,Xn,Wb,Wc b.1,Wc b.2,c6];have o:=WC (l:=l) (V:=List Int) (R:=Unit×(List Int×Unit)) (lp:=λn j v=>nA N l who what mode (λu s c=>(some ((),(c,())))) n j v) (n:=N) (by omega)
  (body:=λj x v k=>bif x.2.1==what then(bif x.1 !=who then(bif mode==2 then(bif Wx (v.length+ [x.1].length)then k (Xe v [x.1])else none)else(bif x.2.2==2 then(bif Wx (v.length+ [x.1].length)then k (Xe v [x.1])else none)else k v))else k v)else k v) (K:=λ_ v=>ret v)
  (λn i v a=>by simp only[nA,WF a,Wq a,Wu a,Wl (show i<4611686018427387904 by omega),Wa])
  (λn v=>by simp[nA,WN,Xj,Wb]) []
 refine o.trans ?_;rw[zR (p:=blk who what mode) (f:=(·.1)) l 0 [] (by simp;omega) (λj x v k _ t=>by
  rw[Wp (by simp;omega)];unfold blk;simp only[Wv,eZ,Wa,cZ];by_cases d:x.2.1=what<;>by_cases e:x.1=who<;>by_cases g:mode=2<;>by_cases m:x.2.2=2<;>simp[d,e,g,m])]
 rfl
theorem WjK(h:HOk l)(e:l.length<=1048576)(d:1048576<N):B6 N l who=ret (WX l who):=by
 unfold B6 WX;rw[F4 h e d];simp only[ret,Xd];have c:=WC (l:=l) (V:=List Hd) (R:=Unit×(List Hd×Unit)) (lp:=λn j v=>qG N l who true (λo g b=>(some ((),(b,())))) n j v) (n:=N) (by omega)
  (body:=λj x v k=>bif x.1 !=who then(bif Wx (v.length+ [x].length)then k (Xe v [x])else none)else k v) (K:=λ_ v=>ret v)
  (λn i v a=>by simp only[qG,WF a,Wq a,Wu a,Wl (show i<4611686018427387904 by omega),Wa,Xn,Wb])
  (λn v=>by simp[qG,WN,Xj,Wb]) []
 refine c.trans ?_;rw[zR (p:=λh=>!(h.1==who)) (f:=λh=>h) l 0 [] (by simp;omega) (λj x v k _ m=>by
  rw[Wp (by simp;omega)];rfl)]
 simp[ret]
theorem HH{e:Hd}{who what b:Int}(g:e=(who,what,b)):∀(r a o:List Hd) (h:Bool) (n:Nat),l=a++r->r.length<n->l.length<=1000->o.length+2*r.length<=5000->Ris cfH r->(h=true->∀x∈r,¬(x.1=who/\x.2.1=what))->
  Zt N l who what b (λS W V C=>
  (bif !S then
 (bif Wx ((Xa C)+(Xa ([(who,(what,b))])))then
 (some ((),(Xe C ([(who,(what,b))]),(true,()))))else none)
 else
 (some ((),(C,(true,())))))) n h (a.length:Int) o=some ((),(o++(if h=true then r else ch cfH r e),(true,())))
 |r,a,o,h,0,_,G,_,_,_,_=>by omega
 | [],a,o,h,n+1,m,_,t,H,_,_=>by
  have K:decide ((a.length:Int)<Wi l)=false:=by rw[m];simp[Wi]
  rw[Zt,K,Wb];cases h
  .simp only[fx,Wa];rw[Wp (by simp;omega),g];rfl
  .simp
 |x::r,a,o,h,n+1,m,P,t,H,I,hd=>by
  have A:a.length<l.length:=by rw[m];simp
  have Q:l[a.length]=x:=by simp[m]
  have D:l=(a++ [x])++r:=by rw[m];simp
  have B:Ris cfH r:=(Xw.1 I).2;have T:∀y∈r,cfH x y<0:=(Xw.1 I).1;have L:(a.length:Int)+1=((a++ [x]).length:Int):=by simp
  have u:∀v:List Hd,v.length<=6000->∀y:Hd,Wx (v.length+ [y].length)=true:=λv U y=>Wp (by simp;omega);have R:Wj .i64 (a.length:Int) 1=((a++ [x]).length:Int):=by rw[WA (by unfold I64;omega),L]
  rw[Zt];simp only[WF A,Wq A,Wu A,Q,Wa,R,cZ];simp only[Xs]at P H;cases h with
  |true=>
   have O:=hd rfl x (List.mem_cons_self ..);simp only[Xn,Wb];have E:=HH g r (a++ [x]) (o++ [x]) true n D (by omega) t (by simp;omega) B λ_ y p=>hd rfl y (List.mem_cons_of_mem _ p);rw[u o (by omega) x];simp only[eZ,Wa];have fin:o++ [x]++(if true=true then r else ch cfH r e)=o++(if true=true then x::r else ch cfH (x::r) e):=by simp
   rw[fin]at E;by_cases c:x.2.1=what
   .rw[Wf c,We (λz=>O ⟨z,c⟩)];exact E
   .rw[We c];exact E
  |false=>
   simp only[fx,Wa,W0];rw[u o (by omega) x,u o (by omega) (who,what,b),u (o++ [(who,what,b)]) (by simp;omega) x];simp only[eZ,Wa];have w:=HH g r (a++ [x]) (o++ [x]) false n D (by omega) t (by simp;omega) B (λz=>by cases z);have F:∀y∈r,¬cfH x e<0->¬(y.1=who/\y.2.1=what):=λy p j z=>by
    have:=T y p;have G:cfH x y<0↔cfH x e<0:=Mw rfl rfl (by rw[g];exact z.1) (by rw[g];exact z.2);exact j (G.1 this)
   have f:cfH x e<0↔¬(x.2.1>what)/\¬(x.2.1=what/\x.1>=who):=by
    rw[g,gY];simp only;omega
   have d:¬cfH x e<0->(cfH e x<0↔¬(x.1=who/\x.2.1=what)):=by
    rw[g,gY,gY];simp only;omega
   have J:¬cfH x e<0->Zt N l who what b _ n true ((a++ [x]).length:Int) (if x.1=who/\x.2.1=what then o++ [(who,what,b)]else o++ [(who,what,b)]++ [x])=some ((),(o++(if false=true then x::r else ch cfH (x::r) e),(true,()))):=λj=>by
    rw[HH g r (a++ [x]) _ true n D (by omega) t (by split<;>(simp;omega)) B λ_ y p=>F y p j];have M:ch cfH (x::r) e=if x.1=who/\x.2.1=what then e::r else e::x::r:=by
     rw[ch,We j];by_cases c:x.1=who/\x.2.1=what
     .rw[Wf c,We (λz=>(d j).1 z c)]
     .rw[We c,Wf ((d j).2 c)]
    simp only[reduceIte,dL];rw[M,g];by_cases c:x.1=who/\x.2.1=what
    .rw[Wf c,Wf c];simp
    .rw[We c,We c];simp
   by_cases s:cfH x e<0
   .obtain⟨k,i⟩:=f.1 s;have fin:o++ [x]++(if false=true then r else ch cfH r e)=o++(if false=true then x::r else ch cfH (x::r) e):=by
     rw[We (by simp),We (by simp),ch,Wf s];simp
    rw[fin]at w;rw[We k];simp only[Wv];by_cases c:x.2.1=what
    .rw[Wf c,We (λz=>i ⟨c,z⟩),Wf c,We (λz=>i ⟨c,by omega⟩)];exact w
    .rw[We c,We c];exact w
   .have hh:=J s;by_cases k:x.2.1>what
    .rw[We (by omega)]at hh;rw[Wf k,We (by omega)];exact hh
    .rw[We k];have i:x.2.1=what/\x.1>=who:=by
      apply Classical.byContradiction;intro z;exact s (f.2 ⟨k,z⟩)
     simp only[Wv];rw[Wf i.1,Wf i.2,Wf i.1];by_cases q:x.1=who
     .rw[Wf ⟨q,i.1⟩]at hh;rw[Wf q];exact hh
     .rw[We (λz=>q z.1)]at hh;rw[We q];exact hh
theorem Wj4(h:HOk l)(f:1<=who/\who<=9)(d:0<=what/\what<=8)(c:1<=mode/\mode<=2)(i:l.length<=1000)(b:1048576<N):
  Cu N l who what mode=some ((),((mX l who what mode).getD l,((mX l who what mode).isSome,()))):=by
 unfold Cu mX;rw[F4 h (by omega) b,cC,cC,cC,Wmc h c (by omega) b];simp only[ret,Xd,Xn,Wb,Wc f.1,Wc f.2,Wc d.1,Wc d.2,Wc c.1,Wc c.2,c6,W0];by_cases a:nU l who what mode= []
 .rw[We (by rw[a];simp[Wi]),Wf a,Sh h (by omega) b];simp only[ret,Xd];have g:nd mode (eb l who what)=hN (eb l who what) mode:=by unfold nd hN;split<;>split<;>omega
  rw[g];have:=HH (N:=N) (l:=l) (e:=(who,what,hN (eb l who what) mode)) rfl l [] [] false N (by simp) (by omega) i (by simp;omega) h.ris (λz=>by cases z);refine this.trans ?_;rfl
 .rw[Wf (by
   have:=List.length_pos_iff.2 a;unfold Wi;omega),We a,Wp (by simp;omega)]
  rfl
end
section
variable{N:Nat}{c:Cm}{m:Mm}
theorem Gf(a:W6 m=true):oN N m=ret m:=by
 have:=(WE a).1;simp_all [oN,Wp]
theorem Sz(h:CmOk c):FJ N c.e=ret c.e:=by
 have k:=h.plen;have l:=h.rlen;obtain⟨d,f,g,i,j,a,b⟩:=cmP c;unfold FJ;simp only[a,b,kN,cb,Wp (show c.ψ.length<=1073741824 by omega),Wp (show c.κ.length<=1073741824 by omega),Wa];rfl
theorem Sj{l:List Int}(f:l.Pairwise (· < ·))(c:∀x∈l,0<=x/\x<=7)(m:l.length<=8){X Y:Option Kq}:∀(d i n:Nat),i+d=l.length->d<n->tc N l X (λ_ _=>Y) n (i:Int)=Y
 |d,i,0,_,h=>by omega
 |0,i,n+1,h,_=>by
  rw[tc,WN (by omega),Wb]
 |d+1,i,n+1,h,hn=>by
  have a:i<l.length:=by omega
  have o:=Sj f c m (X:=X) (Y:=Y) d (i+1) n (by omega) (by omega);have g:bU l[i]=true:=zT (c _ (Xt a));rw[tc];simp only[WF a,Wq a,Wu a,Wl (show i<4611686018427387904 by omega),Wa,mD,g,ret,Xd,Xn,Wb,o];by_cases k:i=0
  .subst k;rfl
  .obtain⟨j,rfl⟩:∃j,i=j+1:=⟨i-1,by omega⟩;have b:j<l.length:=by omega
   have e:Wz .i64 ((j+1:Nat):Int) 1=(j:Int):=by rw[WJ (by unfold I64;omega)];omega
   have p:=(hP.1 f) j (j+1) b a (by omega);rw[e,Wq b,Wu b,Wg (show¬l[j+1]<=l[j] by omega)];simp
theorem Th(k:c.ψ.Pairwise λa b=>a.1<b.1)(o:c.ψ.length<=8){X Y:Option Kq}:∀(d i n:Nat),1<=i->c.ψ.length<=i+d->d<n->Bj N c.e X (λ_ _=>Y) n (i:Int)=Y
 |d,i,0,_,_,h=>by omega
 |d,i,n+1,x,h,hn=>by
  obtain⟨r,s,t,u,v,l,w⟩:=cmP c;rw[Bj];simp only[l];by_cases f:i<c.ψ.length
  .obtain⟨d,rfl⟩:∃m,d=m+1:=⟨d-1,by omega⟩;have p:=Th k o (X:=X) (Y:=Y) d (i+1) n (by omega) (by omega) (by omega);obtain⟨j,rfl⟩:∃j,i=j+1:=⟨i-1,by omega⟩;have g:j<c.ψ.length:=by omega
   have e:Wz .i64 ((j+1:Nat):Int) 1=(j:Int):=by rw[WJ (by unfold I64;omega)];omega
   have q:=(hP.1 k) j (j+1) g f (by omega);simp only[WF f,Wq f,Wu f,e,Wq g,Wu g,Wa,Wg (show¬c.ψ[j+1].1<=c.ψ[j].1 by omega),Wb,Wl (show j+1<4611686018427387904 by omega)];exact p
  .rw[show decide ((i:Int)<Wi c.ψ)=false by unfold Wi;simp;omega,Wb]
theorem WrN:Lr N c.e=ret c.steps:=by
 obtain⟨f,g,a,h,i,b,d⟩:=cmP c;unfold Lr Cm.steps;simp only[a,b,d,Wv]
 repeat' split
 all_goals first
  |rfl
  |omega
theorem Tg(h:CmOk c)(n:1048576<N):yJ N c.e=ret true:=by
 obtain⟨a,b,d,f,g,i,j⟩:=cmP c;have l:=h.plen;have m:=h.rlen;have q:c.steps<=8:=by unfold Cm.steps;split<;>(try split)<;>omega
 have k:=h.pos;unfold yJ;have o:Fo N c.κ=ret true:=Sj h.rup h.rd m c.κ.length 0 N (by omega) (by omega);have p:cd c.ψ=true:=by
  unfold cd;rw[G9.2 h.ε,Wc (by omega)];rfl
 simp only[a,b,d,f,g,i,j,cC,ret,Xd,Wc h.who.1,Wc h.who.2,Wc h.rv.1,Wc h.rv.2,Wc h.wv.1,Wc h.wv.2,Wc h.ζ.1,Wc h.ζ.2,c6,Xn,Wb,Gg (show c.ψ.length<=1048576 by omega) n,p,o,WrN];refine(Th h.pup l 8 1 N (by omega) (by omega) (by omega)).trans ?_;rw[WJ (by unfold I64;omega),Wc k.1,Wc (by omega)];rfl
theorem Gc(h:CmOk c){n:Int}(a:0<=n/\n<=8):la N c.e n=ret (lJ c n).e:=by
 unfold la lJ;by_cases e:n=0
 .rw[e];rfl
 .rw[show(n==0)=false by simpa using e,We e,Wb,WJ (by unfold I64;omega)];rfl
theorem WnO(h:CmOk c)(l:1048576<N):∃b,IP N c.e=some ((),((gK c).e,(b,()))):=by
 obtain⟨m,n,i,j,o,k,p⟩:=cmP c;have r:=h.plen;have q:=h.pos;have t:c.steps<=8:=by have:=h.plen;have:=h.rlen;unfold Cm.steps;split<;>(try split)<;>omega
 have s:=h.ζ;unfold IP gK;rw[Sz h,Tg h l];simp only[ret,Xd,Xn,Wb,W0,Wv,i,j,k];have f:=Gc (N:=N) h (show 0<=c.pos/\c.pos<=8 by omega);have g:=Gc (N:=N) h (show 0<=Wi c.ψ/\Wi c.ψ<=8 by unfold Wi;omega);rw[f,g];by_cases d:c.ζ>3
 .rw[Wf d,We (by omega),We (by omega)];exact⟨_,rfl⟩
 .rw[We d];by_cases a:c.ζ=1
  .rw[Wf a,Wf a];exact⟨_,rfl⟩
  .rw[We a,We a,Wf (by omega)];exact⟨_,rfl⟩
theorem Wj3{l:List Rw}(e:l.length<=1048576)(d:1048576<N):Ct N l=ret ((aA l).map (·.1)):=by
 unfold Ct;rw[Gq e d];simp only[ret,Xd];have h:=po l;have c:=WC (l:=aA l) (V:=List Int) (R:=Unit×(List Int×Unit)) (lp:=λn j v=>xY N (aA l) (λo g b=>(some ((),(b,())))) n j v) (n:=N) (by omega)
  (body:=λj x v k=>bif Wx (v.length+ [x.1].length)then k (Xe v [x.1])else none) (K:=λ_ v=>ret v)
  (λn i v a=>by simp only[xY,WF a,Wq a,Wu a,Wl (show i<4611686018427387904 by omega),Wa])
  (λn v=>by simp[xY,WN,Xj,Wb]) []
 refine c.trans ?_;rw[zR (p:=λ_=>true) (f:=(·.1)) (aA l) 0 [] (by simp;omega) (λj x v k _ m=>by rw[Wp (by simp;omega)];rfl),show(aA l).filter (λ_=>true)=aA l from List.filter_eq_self.2 λ_ _=>rfl];rfl
theorem Wrc{who rv:Int}{ψ κ:List Rw}(f:1<=who/\who<=99)(d:0<=rv/\rv<=1000000)(c:cd ψ=true)(b:cd κ=true)(a:1048576<N):BE N who rv ψ κ=some ((),((kt who rv ψ κ).e,(true,()))):=by
 have g:ψ.length<=300:=by unfold cd at c;simp at c;exact c.1
 have h:κ.length<=300:=by unfold cd at b;simp at b;exact b.1
 unfold BE kt;simp only[cC,ret,Xd,Wc f.1,Wc f.2,Wc d.1,Wc d.2,c6,Xn,Wb,Gg (show ψ.length<=1048576 by omega) a,Gg (show κ.length<=1048576 by omega) a,c,b,Gq (show ψ.length<=1048576 by omega) a,Wj3 (show κ.length<=1048576 by omega) a,Wv];by_cases e:(aA ψ).length=0
 .rw[Wf (by unfold Wi;omega),Wf e];rfl
 .rw[We (by unfold Wi;omega),We e];rfl
theorem Wpm(a:W6 m=true){i who:Int}(hi:0<=i/\i<=7)(b:1<=who/\who<=99)(c:1048576<N):
  F2 N m i who=some ((),((if(aF m i).2.2=0 then HW m i who else m),(decide ((aF m i).2.2=0),()))):=by
 unfold F2;rw[Gf a,CV (by grind [WE]) c,a];simp only[ret,Xd,Xn,Wb,mD,zT hi,cC,Wc b.1,Wc b.2,c6,kb a hi,Wa,rM,eZ];by_cases h:(aF m i).2.2=0
 .rw[Wf h,Wf h,Wc h];rfl
 simp_all
theorem SM(a:W6 m=true){i who:Int}(hi:0<=i/\i<=7)(b:1<=who/\who<=99)(c:1048576<N):FQ N m i who=ret ((aF m i).2.2==who):=by
 unfold FQ;rw[CV (by grind [WE]) c,a];simp only[ret,Xd,mD,zT hi,cC,Wc b.1,Wc b.2,c6,kb a hi,Wa,rM]
theorem Wof(a:W6 m=true){i who v:Int}(hi:0<=i/\i<=7)(e:1<=who/\who<=99)(d:0<=v/\v<=65535)(c:1048576<N):
  ∃b,FW N m i who v=some ((),(v8 m i who v,(b,()))):=by
 unfold FW v8;rw[Gf a,SM a hi e c];simp only[ret,Xd,i0,gH.2 d,Xn,Wb,kb a hi,Wa,rM];by_cases h:(aF m i).2.2=who
 .rw[Wf h,beq_iff_eq.2 h];exact⟨true,rfl⟩
 .rw[We h,beq_eq_false_iff_ne.2 h];exact⟨false,rfl⟩
theorem Sf(c:W6 m=true){i who ver:Int}(hi:0<=i/\i<=7)(e:1<=who/\who<=99)(d:1048576<N):
  ∃b,zg N m i who ver=some ((),(rU m i who ver,(b,()))):=by
 have f:=(WE c).1;unfold zg rU;rw[Gf c,SM c hi e d];simp only[ret,Xd,cC,kb c hi,Wa,rM,cY,Wk];by_cases h:(aF m i).2.2=who
 .rw[beq_iff_eq.2 h];simp only[Xn,Wb];by_cases a:(aF m i).2.1<=ver/\ver<=m.1
  .rw[Wf ⟨h,a.1,a.2⟩,Wc a.1,Wc a.2];refine⟨true,?_⟩;have:i.toNat<m.2.length:=by omega
   simp only[c6,Xn,Wb,Sa this,nk];rfl
  .rw[We (by omega)];refine⟨false,?_⟩
   grind
 .rw[We (λz=>h z.1),beq_eq_false_iff_ne.2 h];exact⟨false,rfl⟩
theorem Ue{a:Int}:nH N c.e a=ret (p3 c a).e:=by
 obtain⟨i,j,k,l,m,f,g⟩:=cmP c;unfold nH p3 pZ;simp only[Wv,f,g,Wi];by_cases d:a=3
 .subst d;by_cases h:c.κ.length=0<;>by_cases b:c.ψ.length=0<;>simp[h,b]<;>rfl
 .by_cases h4:a=4
  .subst h4;by_cases b:c.ψ.length=0<;>simp[b]<;>rfl
  .simp[d,h4];rfl
theorem WoC(h:CmOk c)(g:W6 m=true)(l:1048576<N):IG N m c.e=some ((),((ko m c).1,((ko m c).2.e,()))):=by
 obtain⟨J,K,L,O,P,Q,R⟩:=cmP c;have T:=h.pos;have U:=h.plen;have C:=h.who;have W:c.steps<=8:=by have:=h.plen;have:=h.rlen;unfold Cm.steps;split<;>(try split)<;>omega
 have H:=Gc (N:=N) h (show 0<=c.pos/\c.pos<=8 by omega);have I:=Gc (N:=N) h (show 0<=Wi c.ψ/\Wi c.ψ<=8 by unfold Wi;omega);have S:Wj .i64 c.pos 1=c.pos+1:=WA (by unfold I64;omega);have D:∀(M:Mm) (E n:Int),n=c.steps->(bif (c.pos+1)==n then((nH N (c.who,(c.rv,(c.ζ,(c.pos+1,c.e.2.2.2.2)))) E).bind λo=>(some ((),(M,(o.2.1,()))):Option (Unit×(Mm×(_×Unit)))))else some ((),(M,((c.who,(c.rv,(c.ζ,(c.pos+1,c.e.2.2.2.2)))),()))))=some ((),(M,((m0 c E).e,()))):=λM E n V=>by
  unfold m0;rw[show(c.who,(c.rv,(c.ζ,(c.pos+1,c.e.2.2.2.2))))=Cm.e {c with pos:=c.pos+1}from rfl,Ue];simp only[ret,Xd,Wv];by_cases e:c.pos+1=c.steps
  .rw[Wf (by omega),Wf e];rfl
  .rw[We (by omega),We e]
 unfold IG ko;rw[Gf g,Sz h];simp only[ret,Xd];rw[CV (by grind [WE]) l,Tg h l,g];simp only[ret,Xd,Xn,Wb,J,K,L,O,P,Q,R,gI,H,I,S];by_cases u:c.ζ=1
 .rw[beq_iff_eq.2 u,Wa,Wf u];obtain⟨j,k,i,d,f,r⟩:=h.put (by omega);have q:c.steps=Wi c.ψ:=by unfold Cm.steps Wi;rw[Wf (.inl u)]
  rw[show Xc c.ψ (Xb c.pos) ((0:Int),(0:Int))=c.ψ[j]from d,d,show inb c.pos c.ψ.length=true by rw[i,WH,Wc k],Wpm g f C l];simp only[Xd,Wa];by_cases t:(aF m c.ψ[j].1).2.2=0
  .rw[Wf t,Wf t,Wc t];exact D _ 2 _ q.symm
  .rw[We t,We t,Wg t];rfl
 rw[beq_eq_false_iff_ne.2 u,Wb,We u];by_cases x:c.ζ=2
 .rw[beq_iff_eq.2 x,Wa,Wf x,WnS g l];simp only[Xd,Wv];by_cases p:(tick m).2=0
  .have h0:=(WE g).2.1;have:(tick m).1=m:=by
    unfold tick at p⊢;by_cases G:m.1<1000000
    .rw[Wf G]at p;simp only at p;omega
    .rw[We G]
   rw[Wf p,Wf p,this];rfl
  .rw[We p,We p];rw[show(c.who,(c.rv,(c.ζ,(c.pos,((tick m).2,c.e.2.2.2.2.2)))))=Cm.e {c with wv:=(tick m).2}from rfl,Ue];rfl
 rw[beq_eq_false_iff_ne.2 x,Wb,We x];by_cases s:c.ζ=3
 .rw[beq_iff_eq.2 s,Wa,Wf s];obtain⟨j,k,i,d,f,r⟩:=h.read s;have q:c.steps=Wi c.κ:=by unfold Cm.steps Wi;rw[We (by omega),Wf s]
  rw[show Xc c.κ (Xb c.pos) (0:Int)=c.κ[j]from d,d,show inb c.pos c.κ.length=true by rw[i,WH,Wc k],kb g ⟨f,r⟩];simp only[Wa,eZ,W0];rw[show Xc m.2 (Xb c.κ[j]) ((0:Int),((0:Int),(0:Int)))=aF m c.κ[j]from rfl];have F:=D m 4 _ q.symm;by_cases a:(aF m c.κ[j]).2.2=0
  .rw[Wf a];by_cases b:(aF m c.κ[j]).2.1>c.rv
   .rw[Wf b,Wf (.inr b)];rfl
   .rw[We b,We (λz=>z.elim (λz=>z.1 a) b)];exact F
  .rw[We a];by_cases w:(aF m c.κ[j]).2.2=c.who
   .rw[Wf w];by_cases b:(aF m c.κ[j]).2.1>c.rv
    .rw[Wf b,Wf (.inr b)];rfl
    .rw[We b,We (λz=>z.elim (λz=>z.2 w) b)];exact F
   .rw[We w,Wf (.inl ⟨a,w⟩)];rfl
 rw[beq_eq_false_iff_ne.2 s,Wb,We s];by_cases y:c.ζ=4
 .rw[beq_iff_eq.2 y,Wa,Wf y];obtain⟨j,k,i,d,f,r⟩:=h.put (by omega);have q:c.steps=Wi c.ψ:=by unfold Cm.steps Wi;rw[Wf (by omega)]
  obtain⟨b,v⟩:=Wof g f C r l;rw[show Xc c.ψ (Xb c.pos) ((0:Int),(0:Int))=c.ψ[j]from d,d,show inb c.pos c.ψ.length=true by rw[i,WH,Wc k],v];exact D _ 5 _ q.symm
 rw[beq_eq_false_iff_ne.2 y,Wb,We y];by_cases A:c.ζ=5
 .rw[beq_iff_eq.2 A,Wa,Wf A];obtain⟨j,k,i,d,f,r⟩:=h.put (by omega);have q:c.steps=Wi c.ψ:=by unfold Cm.steps Wi;rw[Wf (by omega)]
  obtain⟨b,v⟩:=Sf (ver:=c.wv) g f C l;rw[show Xc c.ψ (Xb c.pos) ((0:Int),(0:Int))=c.ψ[j]from d,d,show inb c.pos c.ψ.length=true by rw[i,WH,Wc k],v];simp only[Xd,Wa,Wv];unfold m0;by_cases e:c.pos+1=c.steps
  .rw[Wf (by omega),Wf e];unfold p3;rw[show pZ c 6=6 by unfold pZ;rw[We (by omega),We (by omega)]];rfl
  .rw[We (by omega),We e];rfl
 rw[beq_eq_false_iff_ne.2 A,Wb,We A];by_cases B:c.ζ=7
 .rw[beq_iff_eq.2 B,Wa,Wf B];obtain⟨j,k,i,d,f,r⟩:=h.put (by omega);obtain⟨b,v⟩:=Sf (ver:=(aF m c.ψ[j].1).2.1) g f C l;rw[show Xc c.ψ (Xb c.pos) ((0:Int),(0:Int))=c.ψ[j]from d,d,show inb c.pos c.ψ.length=true by rw[i,WH,Wc k],kb g f,show Xc m.2 (Xb c.ψ[j].1) ((0:Int),((0:Int),(0:Int)))=aF m c.ψ[j].1 from rfl,v];rfl
 .rw[beq_eq_false_iff_ne.2 B,Wb,We B]
end
section
variable{N:Nat}{w:Wo}{x:Rt}{k:Nat}{p:Pg}{n:Int}{o:Opn}
theorem DA:mw N x.e=ret (hF x).e:=rfl
theorem MZ(r:0<=x.EL/\x.EL<=2):Bn N x.e=ret (lr x).e:=by
 obtain⟨s,t,d,u,v,w,y,z,A,p,g,h,i,a,j,k,l,f,q,m,n,o⟩:=rtP x;unfold Bn lr;simp only[Wv,W0,a,d,Wi,DA,ret,Xd];by_cases b:x.θ.length=0
 .rw[Wf (by omega),Wf (.inl b)]
 .rw[We (by omega)];by_cases c:x.EL=2
  .rw[Wf (by omega),Wf (.inr c)]
  .rw[We (by omega),We (by omega),WA (by unfold I64;omega)];rfl
theorem M3(k:x.υ.length≠0)(h:x.υ.length<=1000)(j:∀u∈x.υ,UnV u)(i:ShOk w.ο)(g:1048576<N):
  Bp N w.e x.e=some ((),((gq w x).1.e,((gq w x).2.e,()))):=by
 obtain⟨a,b,c,d⟩:=nK k h ((0,0,0):Un);have f:jx x.υ ((0,0,0):Un)∈x.υ:=by
  unfold jx;rw[WB (by omega)];exact Xt _
 unfold Bp gq;simp only[Wk,gI];rw[show P16 x.e=x.υ from rfl,a,b,show w.e.2.2.2.1=w.ο from rfl,Wkg i (j _ f) g,c,d];rw[Wp (by simp;omega)];rfl
theorem X6(a:k<=1000):zf N w.e x.e (k:Int)=some ((),((fg w x k).1.e,((fg w x k).2.e,()))):=by
 unfold zf fg;rw[aw (by omega),show w.e.2.1=w.ω from rfl];simp only[Wv];by_cases h:w.ω=(k:Int)+1
 .simp only[Wf h];rfl
 .simp only[We h];rfl
theorem UZ(L:k<=8)(f:HOk w.holds)(u:0<=x.rv/\x.rv<=1000000)(r:cd x.κ=true)(s:cd x.ι=true){out}(i:1048576<N):
  Fy N w.e x.e (k:Int) out=some ((),((jg w x k out).1.e,((jg w x k out).2.e,()))):=by
 obtain⟨M,O,P,Q,v,R,S,T,U,J,B,p,q,C,D,E,F,A,K,G,H,I⟩:=rtP x;have V:=vn f;have y:zf N w.e (S8 x.rv (S7 out x.e)) (k:Int)=_:=X6 (w:=w) (x:={x with EN:=out,ES:=x.rv}) (k:=k) (by omega);have l:∀ε,cd ε=true->BE N ((k:Int)+1) x.rv ε x.κ=some ((),((kt ((k:Int)+1) x.rv ε x.κ).e,(true,()))):=λm t=>Wrc (by omega) u t r i;have o:=l [] rfl;have g:=WoR (who:=(k:Int)+1) f;have n:∀{α:Type} (a b:α),(bif ((0:Int)==(0:Int))then a else b)=a:=λ_ _=>rfl;unfold Fy jg;simp only[Wk,n];rw[aw (by omega),show P4 w.e=w.holds from rfl];simp only[Wv,v,p,q,Wkf (who:=(k:Int)+1) f (by omega) i,ret,Xd,Wi];rw[o,l _ s,y];simp only[Xd];by_cases d:out=2
 .rw[Wf d,Wf d];by_cases c:(pu w.holds ((k:Int)+1)).length=0
  .rw[Wf (by omega),Wf ⟨rfl,c⟩]
  .rw[We (λz=>c (g.1 (by omega))),We (λh=>c h.2)];rfl
 .rw[We d,We d];by_cases j:x.ι.length=0
  .rw[Wf (by omega)];by_cases c:(pu w.holds ((k:Int)+1)).length=0
   .rw[Wf (by omega),Wf ⟨j,c⟩]
   .rw[We (λz=>c (g.1 (by omega))),We (λh=>c h.2)];rfl
  .rw[We (by omega),We (λh=>j h.1)];rfl
theorem Wt8(G:k<=8)(d:CC p.1)(a:RLive p n x)(g:aT o=true)(b:12<=o.1)(m:ShOk w.ο)(f:HOk w.holds)(c:1048576<N):
  J4 N w.e x.e (k:Int) o=some ((),((jq w x k o).1.e,((jq w x k o).2.e,()))):=by
 obtain⟨H,I,J,q,K,L,M,O,P,E,j,u,v,y,l,z,A,t,F,B,C,D⟩:=rtP x;obtain⟨R,S,T,U,V,W⟩:=a.sz d;have Q:=vn f;have r:=a.pc;have s:=d.len;have i:(0<=(cQ o).1/\(cQ o).1<=8)/\1<=(cQ o).2/\(cQ o).2<=2:=by
  grind [cQ,p6,d9,Az,AC,mK,Eb]
 unfold J4 jq;simp only[Wk,gI];rw[aw (by omega),Wm5 g b,show P4 w.e=w.holds from rfl,show w.e.2.2.2.1=w.ο from rfl];simp only[Xd,Wj4 f (show 1<=(k:Int)+1/\(k:Int)+1<=9 by omega) i.1 i.2 (by omega) c,q,j,l,MZ a.EL];cases ha:mX w.holds ((k:Int)+1) (cQ o).1 (cQ o).2 with
 |none=>rfl
 |some eJ=>
  simp only[Xft,Xn,Wb,ED,WjS m a.ξ g b c,Xd,eZ];rw[aw (by omega),Wp (by simp;omega),Wp (by simp;omega)];by_cases h:(eX w.ο o x.ξ).2.2.1=0
  .simp only[Wf h];rfl
  .simp only[We h];rfl
theorem WvE(j:CC p.1)(d:RLive p n x)(k:W6 w.mem=true)(z:o.1=5)(B:aT o=true)(g:1048576<N):
  It N w.e x.e o=some ((w.e,()),((m6 w x o).e,())):=by
 obtain⟨Q,R,S,D,E,T,U,V,W,O,r,s,t,I,J,u,y,H,P,K,L,M⟩:=rtP x;obtain⟨X,Y,Z,z4,z5,z6⟩:=d.sz j;obtain⟨A,i⟩:=AQ B z;have f:0<=o.2.2.1/\o.2.2.1<=7:=by unfold bU at i;simpa using i
 have l:=d.ξ.len;have F:=d.pc;have G:=j.len;have h:=d.EL;unfold It m6;simp only[Wk,gI];rw[show w.e.2.2.1=w.mem from rfl];simp only[D,E,r,s,t,u,y];rw[LZ (by omega) g,gZ (by omega),aw (by omega)];simp only[ret,Xd];rw[WW A l];cases hl:df x.ι o.2.2.1 with
 |some v=>rfl
 |none=>
  have c:=NP d.pb f;simp only[opI,Xd,fx,Wa,cZ,List.nil_append,kN,cb];rw[Wp (by omega)];cases hb:x.EI with
  |false=>
   rw[hb]at c;simp only[dL,dO]at c;have C:∀q:Pb,S19 q (S18 true x.e)=Rt.e {x with EI:=true,pb:=q}:=λq=>rfl;simp only[fx,Wa,dL,dO,Gu k c g,ret,Xd,C,MZ (x:={x with EI:=true,pb:=_}) h,Wv,eZ];generalize cL w.mem x.rv (o.2.2.1,0,0,0)=q;by_cases b:q.2.1=4
   .rw[Wf b,Wf b]
   .rw[We b,We b];by_cases a:q.2.1=3
    .rw[Wf a,Wf a,Wp (by simp;omega)];rfl
    .rw[We a,We a]
  |true=>
   have m:∀q:Pb,S19 q x.e=Rt.e {x with EI:=true,pb:=q}:=λq=>by
    have:S19 q x.e=Rt.e {x with pb:=q}:=rfl;rw[this]
    conv=>lhs;rw[show({x with pb:=q}:Rt)={x with EI:=x.EI,pb:=q}from rfl,hb]
   rw[hb]at c;simp only[W1]at c;simp only[Xn,Wb,W1,Gu k c g,ret,Xd,m,MZ (x:={x with EI:=true,pb:=_}) h,Wv,eZ];generalize cL w.mem x.rv x.pb=q;by_cases b:q.2.1=4
   .rw[Wf b,Wf b]
   .rw[We b,We b];by_cases a:q.2.1=3
    .rw[Wf a,Wf a,Wp (by simp;omega)];rfl
    .rw[We a,We a]
end
section
theorem WjY{N:Nat}{f:Y_Family}{x:Y_KidRun}(a:(P4 f).length=4)(b:0<=x.2.2.2.1/\x.2.2.2.1<=100000):E4 N f x=some ((f,()),(again f x,())):=Sg a b
theorem WmB{N:Nat}{m:Mm}{f:Y_Family}{x:Y_KidRun}{o:Int×Int×Int×Int}(h:ReadOk m f x o)(c:1048576<N):
  Iw N m f x o=some ((m,()),((rT m f x o).1,((rT m f x o).2,()))):=by
 have t:=h.wr;have p:=h.δ;have n:=h.buf;have e:=h.ξ;unfold Iw rT;simp only[Wk,gI];rw[LZ (show(P8 x).length<=1048576 by omega) c];rcases df (P8 x) o.2.2.1 with _|v
 .simp only[opI,Xd,Wb];rw[SZ (show(P6 f).length<=1048576 by omega) c,WjY h.famr h.χ,gZ (show(P6 x).length<=1048576 by omega)];rw[aw (by have:=h.pc;omega)];rcases he:ent (P6 f) o.2.2.1 with _|r
  .have e1:decide ((-1:Int)>x.2.2.1)=false:=by have:=h.EM;simp;omega
   simp only[ret,Xd,e1,Wb,show decide ((-1:Int)<0)=true from rfl,Wa];have d:=h.pbO;have j:∀(a b:Nat),a<=1000->b<=1000->Wx (a+b)=true:=λa b k l=>Wp (by omega);cases hc:P10 x
   .have pP:fS x o.2.2.1=(o.2.2.1,(0,(0,0))):=by unfold fS;rw[hc];rfl
    rw[pP]at d⊢;simp only[fx,Wa,Gu h.mem d c,ret,Xd,rgI e h.rA];generalize cL m f.1 (o.2.2.1,(0,(0,0)))=q;rw[Wp (by simp;omega),Wp (by simp;omega)];unfold bne;cases q.2.1==4<;>cases q.2.1==3<;>rfl
   .have pP:fS x o.2.2.1=Q11 x:=by unfold fS;rw[hc];rfl
    rw[pP]at d⊢;simp only[Xn,Wb,Gu h.mem d c,ret,Xd,rgI e h.rA,Wa];generalize cL m f.1 (Q11 x)=q;rw[Wp (by simp;omega),Wp (by simp;omega),Vr hc];unfold bne;cases q.2.1==4<;>cases q.2.1==3<;>rfl
  .have hm:=lu he;have g:r.2∈P6 f:=by
    have:=hm.2.2.2;exact gz this
   have s:=h.ver _ g;have i:decide (r.2.2.2<0)=false:=by simp;omega
   simp only[ret,Xd,i,Wb,rgI e h.rA,Wa];rw[Wp (by simp;omega),Wp (by simp;omega)];cases decide (r.2.2.2>x.2.2.1)<;>rfl
 .simp only[opI,Xd,Wa];rw[gZ (show(P6 x).length<=1048576 by omega),aw (by have:=h.pc;omega)];simp only[ret,Xd,rgI e h.rA,Wa]
variable{N:Nat}{m:Mm}{f g:Fm}{x y:Kd}{k:Nat}{n:Int}{μ:List Opn}{codes:List (List Opn)}
theorem WoB(hk)(hm:W6 m=true)(c:KC μ)(Y:FOk codes n f)(bj:codes.getD k []=μ)(aR:f.π[k]=x)(t:x.ζ=0)(hn:n<=100000)(L:1048576<N):
  IJ N m f.e x.e μ=some ((m,()),((iL m f x μ).1.e,((iL m f x μ).2.e,()))):=by
 have g:=Y.kid k hk;rw[bj,aR]at g;obtain⟨k0,k1,k2,k3,k4,k5,k6,k7,k8,k9,k10⟩:=kdP x;have bV:=g.pc;have ad:=c.len;have ql:=g.wl;unfold IJ iL;simp only[Wk,gI,k1,k6,k8,k9,show Wi μ=(μ.length:Int)from rfl,Wv];by_cases V:x.pc>=μ.length
 .rw[Wf (by omega),Wf V];rfl
 .rw[We (by omega),We V];obtain⟨j,A,T,U⟩:=wa (l:=μ) bV.1 (by omega);have sH:Xc μ (Xb x.pc) ((0,0,0,0):Opn)=opN μ x.pc:=rfl;have dT:inb x.pc μ.length=true:=by rw[T,WH];exact Wc A
  rw[dT];obtain⟨C,O,iw⟩:=c.ok j A;have bo:=c.k10 j A;simp only[Wa,sH];rw[←U]at C O bo;generalize opN μ x.pc=o at*;have J:=g.ξ.len;rw[aw (show 0<=x.pc/\x.pc<=1000000 by omega)];by_cases u:o.1=5
  .rw[Wf u,Wf u];have:=AQ C u;have mo:=UL Y g c hm hn this.1 this.2;rw[WmB mo L];simp only[Xd,UN]
  rw[We u,We u];have oW:x.θ.length<=24:=by
   have:=Ws Xa (g.θ t).pcs;simp only[Xu]at this;have h2:=eY c.up x.pc.toNat (by omega);have X:=(gc μ x.pc.toNat).2;omega
  by_cases D:o.1=10
  .rw[Wf D,We (by omega),We (by omega),We (by omega),We (by omega),Wf D];unfold vS;by_cases s:x.θ.length=0
   .rw[Wf (show Wi x.θ=0 by unfold Wi;omega),Wf s];rfl
   rw[We (show¬Wi x.θ=0 by unfold Wi;omega),We s];obtain⟨i,q,y,p,R,S,⟨r,H⟩,vZ,E,lG,e5,e6⟩:=wc (d:=((0,0,[]):KM)) c.toCC (show x.pc.toNat<=μ.length by omega) (g.θ t).pcs s;have P:x.θ.length=q.length+1:=by rw[p];simp
   have M:Wz .i64 (Wi x.θ) 1=(q.length:Int):=by rw[vX (by omega),P];omega
   have K:Xc x.θ (Xb (q.length:Int)) ((0,0,[]):KM)=y:=by rw[p];simp
   have Q:ah (Xb (q.length:Int)) x.θ=x.θ.dropLast:=by rw[p];simp
   have I:(decide ((0:Int)<=(q.length:Int))&&decide ((q.length:Int)<=(x.θ.length:Int)))=true:=by simp;omega
   have pC:x.θ.dropLast.length<=24:=by rw[A5];omega
   have hy:y∈x.θ:=by rw[p];simp
   obtain⟨Z,y2,y3,y4⟩:=(g.θ t).each y hy;rw[M,WH,Wc (show q.length<x.θ.length by omega),I];simp only[Wa,K,Q,R];rw[Wp (by simp;omega),gZ (by rw[Z.len];omega)];simp only[ret,Xd,Wa];rw[S,WH,Wc r];have wH:Xc μ (Xb ((i:Nat):Int)) ((0,0,0,0):Opn)=opN μ (i:Int):=rfl;have B:=sA (c.ok i r).1 H;rw[←rQ r]at B;simp only[Wa,wH];rw[WW B Z.len];have b2:(decide ((0:Int)<=y.2.1)&&decide (y.2.1<=(x.ι.length:Int)))=true:=by simp;omega
   rw[b2,Wp (by rw[ca];simp;omega),Tf (by omega) L ⟨r,H⟩ E];simp only[ret,Xd,Wa];rw[aw (by have:=E.len;omega),Xk];rw[Tt E];rfl
  rw[We D,We D];by_cases v:o.1=6
  .rw[Wf v,Wf v];rw[WW (AX C v).2 J,Wp (by simp;omega),Wp (by simp;omega)];simp only[Wa,gI];rfl
  rw[We v,We v];by_cases w:o.1=7
  .rw[Wf w,Wf w];have h:=AJ C w;rw[WW h.1 J,WA (a:=x.pc) (b:=o.2.2.1) (by unfold I64;omega),aw (a:=x.pc+o.2.2.1) (by omega)];simp only[Wa,Wv];by_cases G:Xc x.ξ (Xb o.2.1) 0=0
   .rw[Wf G,Wf (show al x.ξ o.2.1 0=0 from G)];rfl
   .rw[We G,We (show¬al x.ξ o.2.1 0=0 from G)];rfl
  rw[We w,We w];by_cases F:o.1=8
  .rw[Wf F,Wf F];rw[gZ (show x.ξ.length<=1048576 by omega),Wp (by simp;omega)];simp only[ret,Xd,Wa];rw[Wp (by simp;omega)];rfl
  rw[We F,We F];by_cases z:o.1=9
  .rw[Wf z,Wf z];have s:x.θ.length≠0:=by
    intro s;have W:=Ws Xa (g.θ t).pcs;simp only[Xu,s]at W;have h2:=eY c.up j (by omega);have X:=c.up j A;rw[fF A,p5 (by rw[←U];exact z)]at X;rw[T,Xk]at W;omega
   obtain⟨i,q,y,p,R,S,⟨r,H⟩,vZ,E,lG,e5,e6⟩:=wc (d:=((0,0,[]):KM)) c.toCC (show x.pc.toNat<=μ.length by omega) (g.θ t).pcs s;have P:x.θ.length=q.length+1:=by rw[p];simp
   have M:Wz .i64 (Wi x.θ) 1=(q.length:Int):=by rw[vX (by omega),P];omega
   have K:Xc x.θ (Xb (q.length:Int)) ((0,0,[]):KM)=y:=by rw[p];simp
   have Q:ah (Xb (q.length:Int)) x.θ=x.θ.dropLast:=by rw[p];simp
   have I:(decide ((0:Int)<=(q.length:Int))&&decide ((q.length:Int)<=(x.θ.length:Int)))=true:=by simp;omega
   have pC:x.θ.dropLast.length<=24:=by rw[A5];omega
   rw[M,WH,Wc (show q.length<x.θ.length by omega),I];simp only[Wa,K,Q,R];rw[Wp (by simp;omega),gZ (show x.ξ.length<=1048576 by omega)];simp only[ret,Xd,Wa];rw[S,WH,Wc r];have O:Xc μ (Xb ((i:Nat):Int)) ((0,0,0,0):Opn)=opN μ (i:Int):=rfl;have B:=sA (c.ok i r).1 H;rw[←rQ r]at B;simp only[Wa,O];rw[WW B J];rfl
  rw[We z,We z];have:=Sq L C (by omega) (by omega) g.ξ;rw[this];rfl
end
end Go.Sx
