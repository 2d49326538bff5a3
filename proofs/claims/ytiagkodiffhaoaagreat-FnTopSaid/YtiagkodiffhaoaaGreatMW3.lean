/- Plain laws of the Lean functions. -/
import Derived.Test.YtiagkodiffhaoaaGreatMW2
open List renaming set->Xi,getD->Xc,set_getElem_self->jt,length_map->aP,take->bM,dropLast_eq_take->yj,set_set->mz,length->Xa,append->Xh,length_append->bX,map_congr_left->vk,map_append->Xw,map_cons->bo,map_nil->d6,drop_length->p6,length_nil->kp,length_cons->Xv,pairwise_append->dZ,mem_of_mem_drop->Xfn,getElem_mem->Xm,append_eq->eK,mem_cons->Xr,not_mem_nil->D9,ext_getElem->D6,mem_map->Xy,replicate->Xp,length_set->Xx,map->AN,foldl->SC,getElem_set->fE,getElem?_eq_getElem->Xq,mem_cons_self->Xg,mem_cons_of_mem->Xe,range->bJ,getElem_map->eZ,mem_append->Xo,mem_singleton->dq,length_take->gv,mem_of_mem_take->lv
open Int renaming toNat->Xb,toNat_natCast->Xf,tmod_eq_emod_of_nonneg->HM,eq_ofNat_of_zero_le->Xgw,le_refl->Xt,le_trans->EF
open Option renaming bind_some->Xd
open Bool renaming false_eq_true->my,not_true->Xu
open Nat renaming le_refl->Xj,zero_add->d4,add_sub_cancel->Xgb,le_trans->mA,and_le_right->Xib,lt_trichotomy->D4
namespace Go.Sx
set_option linter.defProp false
set_option linter.unusedVariables false
set_option linter.unusedSimpArgs false
section
def rtP(x:Rt):x.e.1=x.g/\x.e.2.1=x.G/\x.e.2.2.1=x.Ez/\x.e.2.2.2.1=x.k/\P4 x.e=x.u/\P5 x.e=x.EC/\P6 x.e=x.pos/\P7 x.e=x.H/\P8 x.e=x.ED/\P11 x.e=x.U/\P12 x.e=x.t/\P13 x.e=x.o/\P14 x.e=x.A/\P15 x.e=x.m/\P16 x.e=x.y/\P18 x.e=x.L/\P19 x.e=x.E/\P20 x.e=x.l.e/\Q21 x.e=x.n.e/\P24 x.e=x.n.Ey/\P28 x.e=x.n.B/\P29 x.e=x.n.o:=
 ⟨rfl,rfl,rfl,rfl,rfl,rfl,rfl,rfl,rfl,rfl,rfl,rfl,rfl,rfl,rfl,rfl,rfl,rfl,rfl,rfl,rfl,rfl⟩
def S5e(w:Wo)(k)(x):S5 (Xi (w.c.map Rt.e) k x.e) w.e=Wo.e {w with c:=w.c.set k x}:=by
 unfold S5 Wo.e;rw[List.map_set]
def bU{w b:Wo}{k}{c}{y}{g}(e:y=c.e)(a:g=b.e)(d:b.c=w.c):
  some ((S5 (Xi (w.c.map Rt.e) k y) g,()),())=some (((Wo.put (b,c) k).e,()),()):=by
 subst e a;rw[<-d,S5e];rfl
variable{N:Nat}{w:Wo}{k:Nat}{x:Rt}{o:Opn}{p:Pg}{n:Int}{a:List Opn}
theorem woG(hk)(a:w.c[k]=x):Xc (w.c.map Rt.e) k d_Root=x.e/\Xc (w.c.map Rt.e) (Xb (k:Int)) d_Root=x.e/\S5 (Xi (w.c.map Rt.e) (Xb (k:Int)) x.e) w.e=w.e/\inb (k:Int) (w.c.map Rt.e).length=true/\S5 (Xi (w.c.map Rt.e) k x.e) w.e=w.e:=by
 have b:Xc (w.c.map Rt.e) k d_Root=x.e:=by
  simp_all
 have c:S5 (Xi (w.c.map Rt.e) k x.e) w.e=w.e:=by rw[S5e,<-a,jt]
 grind [Xf,d8,aP,decide_eq_true]
theorem ZV(hk)(a:w.c[k]=x):Wo.put (w,x) k=w:=by
 unfold Wo.put;simp only;rw[<-a,jt]
theorem De:ru N x.e=some (((dE x).e,()),()):=rfl
theorem OT(f:0<=x.Ez/\x.Ez<=2):EK N x.e=some (((WA x).e,()),()):=by
 obtain⟨s,t,d,u,v,w,y,z,A,m,l,h,i,c,g,n,o,j,k,p,q,r⟩:=rtP x;unfold EK WA;simp only[WJ,c,d,Wi,De,Xd];by_cases b:x.m.length=0
 .rw[Wb Ω,Wb (.inl b)]
 .rw[Wa Ω];by_cases a:x.Ez=2
  .rw[Wb a,Wb (.inr a)]
  .rw[Wa a,Wa Ω,WB Λ];rfl
theorem GM{b}{l}(h:l.length≠0)(a:l.length<=1000)(d:b):inb (ah .i64 (Wi l) 1) l.length=true/\Xc l (Xb (ah .i64 (Wi l) 1)) d=eQ l d/\bM (Xb (ah .i64 (Wi l) 1)) l=l.dropLast/\(decide ((0:Int)<=ah .i64 (Wi l) 1)&&decide (ah .i64 (Wi l) 1<=(l.length:Int)))=true:=by
 have e:ah .i64 (Wi l) 1=((l.length-1:Nat):Int):=by grind [LA]
 rw[e];refine⟨by exact Wf Ω,by rfl,by rw[Xf,yj],Δ⟩
theorem ZJ(h:x.m.length≠0)(f:x.m.length<=1000):Ip N x.e=some ((x.e,()),(x.last,())):=by
 obtain⟨a,b,c,d⟩:=GM h f zRM;unfold Ip;rw[show x.e.2.2.2.2.2.2.2.2.2.2.2.2.2.2.2.1=x.m from rfl,a];rw[show((0:Int),((0:Int),((0:Int),((0:Int),([]:List Int)))))=zRM from rfl,b];rfl
theorem X8(h:x.m.length≠0)(f:x.m.length<=1000):EP N x.e=some ((),((x.last.1,(x.last.2.1,(x.last.2.2.1,x.last.2.2.2.1))),())):=by
 obtain⟨a,b,c,d⟩:=GM h f zRM;unfold EP;rw[show P15 x.e=x.m from rfl,a];rw[show((0:Int),((0:Int),((0:Int),((0:Int),([]:List Int)))))=zRM from rfl,b];rfl
theorem QX(hk)(g:w.c[k]=x)(n:x.y.length≠0)(j:x.y.length<=1000)(m:∀u∈x.y,UnV u)(l:ShOk w.D)(i:1048576<N):
  yL N w.e k=some (((Wo.put (ez w x) k).e,()),()):=by
 obtain⟨h,o,p,q,r⟩:=woG hk g;obtain⟨a,b,c,d⟩:=GM n j ((0,0,0):Un);have f:eQ x.y ((0,0,0):Un)∈x.y:=by
  grind
 unfold yL ez;simp only[Wm];rw[show P5 w.e=w.c.map Rt.e from rfl,h];rw[show x.e.2.2.2.2.2.2.2.2.2.2.2.2.2.2.2.2.1=x.y from rfl,a,b,show w.e.2.2.2.1=w.D from rfl,WkX l (m _ f) i,c];simp only[We,Xd,d];exact bU rfl rfl rfl
theorem Wvg(hk)(a:w.c[k]=x)(i:k<=1000):EQ N w.e (k:Int)=some (((Wo.put (gi w x k) k).e,()),()):=by
 obtain⟨d,b,f,c,g⟩:=woG hk a;unfold EQ gi;rw[show P5 w.e=w.c.map Rt.e from rfl,c,b,gC Ω,Xf];simp only[We,WJ];rw[show w.e.2.1=w.N from rfl];by_cases h:w.N=(k:Int)+1
 .simp only[Wb h];exact bU rfl rfl rfl
 .simp only[Wa h];exact bU rfl rfl rfl
theorem Yh(hk)(o:w.c[k]=x)(V:k<=8)(i:HOk w.a)(t:0<=x.u/\x.u<=1000000)(v:fO x.o=true)(z:fO x.A=true){out}(g:1048576<N):
  Ii N w.e (k:Int) out=some (((Wo.put (W9 w x k out) k).e,()),()):=by
 obtain⟨G,r,H,s,I⟩:=woG hk o;obtain⟨W,X,Y,Z,C,r5,r6,r7,r8,P,O,A,B,J,K,Q,R,L,M,S,T,U⟩:=rtP x;have xi:=Qf i;have D:∀y:Rt,EQ N (S5 (Xi (w.c.map Rt.e) (Xb (k:Int)) y.e) w.e) (k:Int)=some (((Wo.put (gi w y k) k).e,()),()):=λy=>by
  rw[Xf,S5e];have u:k<({w with c:=w.c.set k y}:Wo).c.length:=by simpa using hk
  rw[Wvg (x:=y) u Δ Ω]
  grind [gi,Wo.put,mz]
 unfold Ii W9;simp only[Wm];rw[show P5 w.e=w.c.map Rt.e from rfl,s,r,gC Ω,show P4 w.e=w.a from rfl];have E:∀{b:Type} (a e:b),(bif ((0:Int)==(0:Int))then a else e)=a:=λ_ _=>rfl;have F:∀{b:Type} (a e:b),(bif ((0:Nat)==(0:Nat))then a else e)=a:=λ_ _=>rfl;simp only[E,F];simp only[We,WJ,C,A,B,Wj5 (a:=(k:Int)+1) i Ω g,ret,Xd,Wi];have l:∀f,fO f=true->ER N ((k:Int)+1) x.u f x.o=some ((),((cx ((k:Int)+1) x.u f x.o).e,(true,()))):=λm p=>WA2 Ω t p v g;have q:=l [] rfl;have n:(S8 x.u (S7 out x.e))=Rt.e {x with H:=out,ED:=x.u}:=rfl;rw[q,l _ z,n,D];simp only[Xd];by_cases d:out=2
 .rw[Wb d,Wb d];by_cases c:(w9 w.a ((k:Int)+1)).length=0
  .rw[Wb Ω,Wb ⟨rfl,c⟩]
  .rw[Wa Ω,Wa (λh=>c h.2),Xf];exact bU rfl rfl rfl
 .rw[Wa d,Wa d];by_cases j:x.A.length=0
  .rw[Wb Ω];by_cases c:(w9 w.a ((k:Int)+1)).length=0
   .rw[Wb Ω,Wb ⟨j,c⟩]
   .rw[Wa Ω,Wa (λh=>c h.2),Xf];exact bU rfl rfl rfl
  .rw[Wa Ω,Wa (λh=>j h.1),Xf];exact bU rfl rfl rfl
theorem Yf{l}(h:bT l)(a:l.length<=300):fO l=true:=by
 grind [fO,J9,decide_eq_true]
theorem rS(b:CC a):∀j,j<=a.length->frk a j<=1
 |0,_=>by simp[frk]
 |j+1,h=>by
  have c:j<a.length:=Ω
  by_cases d:a[j].1=11
  .exact(b.fk j c d).2
  .rw[uA c,show(a[j].1==11)=false by simpa using d];have:=rS b j Ω;simpa using this
theorem RLive.sz(a:CC p.1)(h:RLive p n x):x.o.length<=96/\x.A.length<=32/\x.y.length<=24/\x.m.length<=24/\fO x.o=true/\fO x.A=true:=by
 have c:=h.k;have d:=a.len;have e:=rS a x.k.toNat Ω;have f:=h.rl;have g:=h.wl;have i:=h.ul;have b:=Wq Xa h.m.Z;simp only[aP]at b;have j:=gZ a.up x.k.toNat Ω;have k:=(jR p.1 x.k.toNat).2;exact⟨Ω,Ω,Ω,Ω,Yf h.o Ω,Yf h.A Ω⟩
theorem Wxq(a:x.L=true->jn x.E=true){c}(b:0<=c/\c<=7):jn (if x.L then x.E else(c,0,0,0))=true:=by
 grind [Di]
theorem WyM(hk)(l:w.c[k]=x)(h:CC p.1)(d:RLive p n x)(i:W4 w.i=true)(t:o.1=5)(y:aj o=true)(g:1048576<N):
  MD N w.e k o=some (((Wo.put (w,dX w x o) k).e,()),()):=by
 obtain⟨s,L,M,O,P⟩:=woG hk l;obtain⟨Z,r1,r2,G,H,r5,r6,r7,r8,V,C,A,B,R,S,D,E,T,U,W,X,Y⟩:=rtP x;obtain⟨z1,z2,z3,z4,z5,z6⟩:=d.sz h;obtain⟨u,Q⟩:=nh y t;have f:0<=o.2.2.1/\o.2.2.1<=7:=by grind [cp]
 have r:=d.t.len;have J:=d.k;have K:=h.len;have j:=d.Ez;unfold MD dX;simp only[Wm];rw[show P5 w.e=w.c.map Rt.e from rfl,s,show w.e.2.2.1=w.i from rfl];simp only[G,H,C,A,B,D,E];rw[O0 Ω g,d7 u r,gC Ω];cases hl:bf x.A o.2.2.1 with
 |some v=>
  exact bU rfl rfl rfl
 |none=>
  have F:B7 N o.2.2.1=some ((),((o.2.2.1,0,0,0),(true,()))):=by
   grind [B7,tO]
  have c:=Wxq d.E f;have I:S18 true x.e=Rt.e {x with L:=true}:=rfl;simp only[opI,Xd,Wc,WJ,F,I];have z:∀q:Pb,S19 q (Rt.e {x with L:=true})=Rt.e {x with L:=true,E:=q}:=λq=>rfl;simp only[z,OT (x:={x with L:=true,E:=_}) j];cases hb:x.L with
  |false=>
   rw[hb]at c;simp only[my,jN]at c;rw[JO i c g];simp only[Bool.not_false,We,ret,Xd,my,jN];generalize WU w.i x.u (o.2.2.1,0,0,0)=q;by_cases b:q.2.1=4
   .rw[Wb b,Wb b];exact bU rfl rfl rfl
   .rw[Wa b,Wa b];by_cases a:q.2.1=3
    .rw[Wb a,Wb a,Ww Φ];exact bU rfl rfl rfl
    .rw[Wa a,Wa a];exact bU rfl rfl rfl
  |true=>
   have m:∀q:Pb,S19 q x.e=Rt.e {x with L:=true,E:=q}:=λq=>by
    have:S19 q x.e=Rt.e {x with E:=q}:=rfl;simp_all
   rw[hb]at c;simp only[gp]at c;rw[JO i c g];simp only[Xu,Wc,ret,Xd,gp,m,OT (x:={x with L:=true,E:=_}) j];generalize WU w.i x.u x.E=q;by_cases b:q.2.1=4
   .rw[Wb b,Wb b];exact bU rfl rfl rfl
   .rw[Wa b,Wa b];by_cases a:q.2.1=3
    .rw[Wb a,Wb a,Ww Φ];exact bU rfl rfl rfl
    .rw[Wa a,Wa a];exact bU rfl rfl rfl
end
section
abbrev M7:=Int×List Int×List Int×List Int×Int
abbrev Ka4(R:Type):=Int->Bool->List Int->Int->List M7->List Int->List Int->Option R
section
variable{R:Type}{N:Nat}{Q:Kaf->Kab->Ki->Ki->Kg->Option Ky}{a:List Opn}{S:List (List Opn)}{U:List Int}{X:Int}{Z V:List Int}{W:Ka6 R}{O:Ka4 R}
 {n P:Nat} {r c m:List Int} {Y:Int} {mk q:List M7} {x:M7}
noncomputable def wk(N:Nat)(Q:Kaf->Kab->Ki->Ki->Kg->Option Ky)(a:List Opn)(S:List (List Opn))(U:List Int)(X:Int)(Z V:List Int)(W:Ka6 R)(O:Ka4 R)(n:Nat)(P:Int)(r:List Int)(Y:Int)(mk:List M7)(c m:List Int):Option R:=
 Za N Q a S U X Z V W O n P r Y mk c m
theorem TR:wk N Q a S U X Z V W O (n+1) (a.length:Int) r Y mk c m=O (a.length:Int) false r Y mk c m:=by
 simp[wk,Za,W0,Xj,Wc]
theorem ws5(hp)(h:a.length<=24)(i:a[P].1=5)(d:aj a[P]=true)(e:r.length=4)(b:c.length=8):wk N Q a S U X Z V W O (n+1) (P:Int) r Y mk c m=wk N Q a S U X Z V W O n ((P+1:Nat):Int) (r.set a[P].2.1.toNat (c.getD a[P].2.2.1.toNat 0)) Y mk c m:=by
 obtain⟨f,g⟩:=nh d i;simp only[wk,Za,Wm,WM hp,Wp hp,Wu hp,We,Wc,i,Wsj g b,d7 f e,Wl (j:=P),beq_self_eq_true]
theorem ws6(hp)(h:a.length<=24)(i:a[P].1=6)(d:aj a[P]=true)(e:r.length=4)(b:c.length=8):wk N Q a S U X Z V W O (n+1) (P:Int) r Y mk c m=wk N Q a S U X Z V W O n ((P+1:Nat):Int) r Y mk (c.set a[P].2.1.toNat (r.getD a[P].2.2.1.toNat 0)) m:=by
 obtain⟨f,g⟩:=CH d i;simp only[wk,Za,Wm,WM hp,Wp hp,Wu hp,We,Wc,i,Wsj f b,d7 g e,Wl (j:=P),beq_self_eq_true,show((6:Int)==5)=false from rfl]
theorem ws7(hp)(g:a.length<=24)(i:a[P].1=7)(d:aj a[P]=true)(e:r.length=4):wk N Q a S U X Z V W O (n+1) (P:Int) r Y mk c m=wk N Q a S U X Z V W O n (((if r.getD a[P].2.1.toNat 0=0 then(P:Int)+a[P].2.2.1 else P)+1)) r Y mk c m:=by
 obtain⟨f,h,o3⟩:=pM d i;have b:Ws .i64 ((P+1:Nat):Int) a[P].2.2.1=(P:Int)+a[P].2.2.1+1:=by grind [WB,I64]
 simp only[wk,Za,Wm,WM hp,Wp hp,Wu hp,We,Wc,i,d7 f e,Wl (j:=P),beq_self_eq_true,show((7:Int)==5)=false from rfl,show((7:Int)==6)=false from rfl,WJ,b]
 grind
theorem ws8(hp)(f:a.length<=24)(b:a[P].1=8)(k:r.length=4)(g:c.length=8)(h:m.length=8)(i:mk.length<=1000):wk N Q a S U X Z V W O (n+1) (P:Int) r Y mk c m=wk N Q a S U X Z V W O n ((P+1:Nat):Int) r Y (mk++ [((P:Int),(r,(c,(m,Y))))]) c m:=by
 have d:WH (([]:List Int).length+r.length)=true:=Ww Θ;have e:WH (mk.length+ [((P:Int),(r,(c,(m,Y))))].length)=true:=Ww Φ;have l:∀x:List Int,Xh ([]:List Int) x=x:=λx=>rfl;simp only[wk,Za,Wm,WM hp,Wp hp,Wu hp,We,Wc,b,d,Do (N:=N) (a:=Y) (Ω:c.length<=1000) (Ω:m.length<=1000),ret,Xd,l,e,Wl (j:=P),beq_self_eq_true,show((8:Int)==5)=false from rfl,show((8:Int)==6)=false from rfl,show((8:Int)==7)=false from rfl];rfl
theorem ws9(hp)(i:a.length<=24)(d:a[P].1=9){j}(k:j<a.length)(b:a[j].1=8)(h:aj a[j]=true)(g:x.1=(j:Int))(f:r.length=4)(e:q.length<1000):wk N Q a S U X Z V W O (n+1) (P:Int) r Y (q++ [x]) c m=wk N Q a S U X Z V W O n ((P+1:Nat):Int) (r.set a[j].2.1.toNat 1) Y q c m:=by
 simp only[wk,Za,Wm,WM hp,Wp hp,Wu hp,We,Wc,d,Wl (j:=P),beq_self_eq_true,show((9:Int)==5)=false from rfl,show((9:Int)==6)=false from rfl,show((9:Int)==7)=false from rfl,show((9:Int)==8)=false from rfl,WsG e,KQ,Qa];simp only[Xf,KA,C5,g,Wp k,Wk k,d7 (CI h b) f,We]
theorem TG(hp)(b:a[P].1=10):wk N Q a S U X Z V W O (n+1) (P:Int) r Y [] c m=W r:=by
 simp only[wk,Za,Wm,WM hp,Wp hp,Wu hp,We,Wc,b,beq_self_eq_true,show((10:Int)==5)=false from rfl,show((10:Int)==6)=false from rfl,show((10:Int)==7)=false from rfl,show((10:Int)==8)=false from rfl,show((10:Int)==9)=false from rfl];rfl
theorem TI(i:1048576<N)(hp)(v:a.length<=24)(k:a[P].1=10){j e}(hj)(d:a[j].1=8)(t:aj a[j]=true)(A:Mate a j e)(s:x.1=(j:Int))(p:x.2.1.length=4)(w:x.2.2.1.length=8)(y:x.2.2.2.1.length=8)(o:q.length<1000):wk N Q a S U X Z V W O (n+1) (P:Int) r Y (q++ [x]) c m=wk N Q a S U X Z V W O n ((e+1:Nat):Int) (x.2.1.set a[j].2.1.toNat 0) x.2.2.2.2 q x.2.2.1 x.2.2.2.1:=by
 have g:(Wi (q++ [x])==0)=false:=by
  grind [Wi,bX]
 have z:=A.len;have u:WH (([]:List Int).length+x.2.1.length)=true:=Ww Θ;have h:∀x:List Int,Xh ([]:List Int) x=x:=λx=>rfl;have f:x.2.2=(x.2.2.1,(x.2.2.2.1,x.2.2.2.2)):=rfl;have b:=Do (N:=N) (a:=x.2.2.2.2) (Ω:x.2.2.1.length<=1000) (Ω:x.2.2.2.1.length<=1000);rw[<-f]at b;simp only[wk,Za,Wm,WM hp,Wp hp,Wu hp,We,Wc,k,beq_self_eq_true,show((10:Int)==5)=false from rfl,show((10:Int)==6)=false from rfl,show((10:Int)==7)=false from rfl,show((10:Int)==8)=false from rfl,show((10:Int)==9)=false from rfl,g,WsG o,KQ,Qa];simp only[Xf,KA,C5,u,b,ret,Xd,s,Wp hj,Wk hj,h,d7 (CI t d) p,Wq5 (N:=N) (l:=a) Ω i ⟨hj,d⟩ A,Wl (j:=e),We]
theorem WDz(hp)(h:a.length<=24)(o:a[P].1=12)(f:aj a[P]=true)(b:r.length=4)(i:m.length=8)(k:0<=r.getD a[P].2.2.1.toNat 0/\r.getD a[P].2.2.1.toNat 0<=65535):wk N Q a S U X Z V W O (n+1) (P:Int) r Y mk c m=wk N Q a S U X Z V W O n ((P+1:Nat):Int) (r.set a[P].2.2.2.toNat (cj (m.getD a[P].2.1.toNat 0) 65536)) Y mk c (m.set a[P].2.1.toNat (1+r.getD a[P].2.2.1.toNat 0)):=by
 obtain⟨l,g,o3⟩:=u3 f o;have e:inb a[P].2.1 m.length=true:=by grind [jg,inb]
 have d:Ws .i64 1 (r.getD a[P].2.2.1.toNat 0)=1+r.getD a[P].2.2.1.toNat 0:=WB Λ;simp only[wk,Za,Wm,WM hp,Wp hp,Wu hp,We,Wc,o,e,d,d7 g b,d7 o3 b,show inz (65536:Int)=true from rfl,Wl (j:=P),beq_self_eq_true,show((12:Int)==5)=false from rfl,show((12:Int)==6)=false from rfl,show((12:Int)==7)=false from rfl,show((12:Int)==8)=false from rfl,show((12:Int)==9)=false from rfl,show((12:Int)==10)=false from rfl,show((12:Int)==11)=false from rfl]
theorem WDL(hp)(g:a.length<=24)(k:a[P].1=13)(d:aj a[P]=true)(e:r.length=4)(h:m.length=8):wk N Q a S U X Z V W O (n+1) (P:Int) r Y mk c m=wk N Q a S U X Z V W O n ((P+1:Nat):Int) (r.set a[P].2.1.toNat (cj (m.getD a[P].2.2.1.toNat 0) 65536)) Y mk c m:=by
 obtain⟨f,i⟩:=D2 d k;have b:inb a[P].2.2.1 m.length=true:=by grind [jg,inb]
 simp only[wk,Za,Wm,WM hp,Wp hp,Wu hp,We,Wc,k,b,d7 f e,show inz (65536:Int)=true from rfl,Wl (j:=P),beq_self_eq_true,show((13:Int)==5)=false from rfl,show((13:Int)==6)=false from rfl,show((13:Int)==7)=false from rfl,show((13:Int)==8)=false from rfl,show((13:Int)==9)=false from rfl,show((13:Int)==10)=false from rfl,show((13:Int)==11)=false from rfl,show((13:Int)==12)=false from rfl]
theorem WDE(hp)(g:a.length<=24)(k:a[P].1=14)(d:aj a[P]=true)(e:r.length=4)(h:m.length=8):wk N Q a S U X Z V W O (n+1) (P:Int) r Y mk c m=wk N Q a S U X Z V W O n ((P+1:Nat):Int) (r.set a[P].2.2.1.toNat (cj (m.getD a[P].2.1.toNat 0) 65536)) Y mk c (m.set a[P].2.1.toNat 0):=by
 obtain⟨i,f⟩:=u5 d k;have b:inb a[P].2.1 m.length=true:=by grind [jg,inb]
 simp only[wk,Za,Wm,WM hp,Wp hp,Wu hp,We,Wc,k,b,d7 f e,show inz (65536:Int)=true from rfl,Wl (j:=P),beq_self_eq_true,show((14:Int)==5)=false from rfl,show((14:Int)==6)=false from rfl,show((14:Int)==7)=false from rfl,show((14:Int)==8)=false from rfl,show((14:Int)==9)=false from rfl,show((14:Int)==10)=false from rfl,show((14:Int)==11)=false from rfl,show((14:Int)==12)=false from rfl,show((14:Int)==13)=false from rfl]
theorem WDI(hp)(h:a.length<=24)(k:a[P].1=15)(d:aj a[P]=true)(e:r.length=4)(i:0<=r.getD a[P].2.1.toNat 0/\r.getD a[P].2.1.toNat 0<=65535)(g:0<=Y/\Y<=65535):wk N Q a S U X Z V W O (n+1) (P:Int) r Y mk c m=wk N Q a S U X Z V W O n ((P+1:Nat):Int) r ((Y+r.getD a[P].2.1.toNat 0)%65536) mk c m:=by
 have f:=TO d k;have b:cj (Ws .i64 Y (r.getD a[P].2.1.toNat 0)) 65536=(Y+r.getD a[P].2.1.toNat 0)%65536:=by
  grind [WB,I64,cj,HM]
 simp only[wk,Za,Wm,WM hp,Wp hp,Wu hp,We,Wc,k,b,d7 f e,show inz (65536:Int)=true from rfl,Wl (j:=P),beq_self_eq_true,show((15:Int)==5)=false from rfl,show((15:Int)==6)=false from rfl,show((15:Int)==7)=false from rfl,show((15:Int)==8)=false from rfl,show((15:Int)==9)=false from rfl,show((15:Int)==10)=false from rfl,show((15:Int)==11)=false from rfl,show((15:Int)==12)=false from rfl,show((15:Int)==13)=false from rfl,show((15:Int)==14)=false from rfl]
theorem WDA(hp)(f:a.length<=24)(g:a[P].1=16)(b:aj a[P]=true)(d:r.length=4):wk N Q a S U X Z V W O (n+1) (P:Int) r Y mk c m=wk N Q a S U X Z V W O n ((P+1:Nat):Int) (r.set a[P].2.1.toNat Y) Y mk c m:=by
 have e:=WzX b g;simp only[wk,Za,Wm,WM hp,Wp hp,Wu hp,We,Wc,g,d7 e d,Wl (j:=P),beq_self_eq_true,show((16:Int)==5)=false from rfl,show((16:Int)==6)=false from rfl,show((16:Int)==7)=false from rfl,show((16:Int)==8)=false from rfl,show((16:Int)==9)=false from rfl,show((16:Int)==10)=false from rfl,show((16:Int)==11)=false from rfl,show((16:Int)==12)=false from rfl,show((16:Int)==13)=false from rfl,show((16:Int)==14)=false from rfl,show((16:Int)==15)=false from rfl]
theorem wsC(b:1048576<N)(hp)(g:a.length<=24)(h:1<=a[P].1/\a[P].1<=4)(d:aj a[P]=true)(f:Vals 4 r):wk N Q a S U X Z V W O (n+1) (P:Int) r Y mk c m=wk N Q a S U X Z V W O n ((P+1:Nat):Int) (oJ a[P] r) Y mk c m:=by
 have e:∀k:Int,5<=k->(a[P].1==k)=false:=λk h=>Φ
 simp only[wk,Za,Wm,WM hp,Wp hp,Wu hp,We,Wc,e 5 Ω,e 6 Ω,e 7 Ω,e 8 Ω,e 9 Ω,e 10 Ω,e 11 Ω,e 12 Ω,e 13 Ω,e 14 Ω,e 15 Ω,e 16 Ω,UT b d h.1 h.2 f,Xd,Wl (j:=P)]
theorem WvK{l:List Opn}{L Z V:List Int}(G:1048576<N)(i:KCe l)(J:L.length=8)(W:Ka6 R)(O:List Int->Int->List Int->List Int->Option R):
  ∀(n P) (s),KI l P s->l.length-P<n->wk N Q l S U X Z V W (λ_ _ r b _ c m=>O r b c m) n ((P:Nat):Int) s.t Y (s.m.map (cmk L Y s)) s.S L=
   (λf:Bool×KS=>bif f.1 then W f.2.t else O f.2.t Y f.2.S L) (cZ l n P s)
 |0,P,s,h,hn=>Ω
 |n+1,P,s,h,hn=>by
  have t:=i.len;have qb1:=h.pcl;by_cases g:P<l.length
  .have nG:=GS i h g;have qa9:=WvK G i (Z:=Z) (V:=V) J W O n;have a:∀K j,eR l P s=(true,K,j)->wk N Q l S U X Z V W (λ_ _ r b _ c m=>O r b c m) n ((K:Nat):Int) j.t Y (j.m.map (cmk L Y j)) j.S L=(λf:Bool×KS=>bif f.1 then W f.2.t else O f.2.t Y f.2.S L) (cZ l (n+1) P s):=λK j p=>by
    rw[p]at nG;obtain⟨T,qa5⟩:=nG.1 rfl;rw[qa9 K j qa5 (by simp only[]at T;omega),cZ,p];simp[g]
   have d:∀K j,eR l P s=(false,K,j)->W j.t=(λf:Bool×KS=>bif f.1 then W f.2.t else O f.2.t Y f.2.S L) (cZ l (n+1) P s):=λK j p=>by
    rw[cZ,p];simp[g]
   obtain⟨A,k1,k2⟩:=i.ok P g;have u:=h.rg.len;have I:=h.cl.len;have E:s.m.length<=24:=by
    have D:=Wq Xa h.mp;simp only[aP]at D;have qa2:=gZ i.up P qb1;have:=jR l P;omega
   unfold eR at a d;rw[DJ g]at a d;unfold oj at a d;have qa6:l[P].1=5\/l[P].1=6\/l[P].1=7\/l[P].1=8\/l[P].1=9\/l[P].1=10\/l[P].1<=4:=Ω
   rcases qa6 with k|k|k|k|k|k|k
   .rw[k]at a;exact(ws5 g t k A u I).trans (a _ _ rfl)
   .rw[k]at a;refine(ws6 g t k A u I).trans (Eq.trans ?_ (a _ _ rfl));congr 1;refine vk λm o=>?_;unfold cmk;simp only[];rw[Po (by have:=h.mr m o;omega)]
   .rw[k]at a;obtain⟨_,o2,o3⟩:=pM A k;refine(ws7 g t k A u).trans (Eq.trans ?_ (a _ _ rfl));have e:((if s.t.getD l[P].2.1.toNat 0=0 then(P:Int)+l[P].2.2.1 else P)+1:Int)=((bif s.t.getD l[P].2.1.toNat 0==0 then P+1+l[P].2.2.1.toNat else P+1:Nat):Int):=by
     generalize s.t.getD l[P].2.1.toNat 0=y;by_cases z:y=0
     .subst z;show(P:Int)+l[P].2.2.1+1=((P+1+l[P].2.2.1.toNat:Nat):Int);omega
     .rw[Wa z,show(y==0)=false by simpa using z];rfl
    rw[e]
   .rw[k]at a;refine(ws8 g t k u I J (by simpa using by omega)).trans (Eq.trans ?_ (a _ _ rfl));simp only[Xw,bo,d6,cmk,Xf,p6];rfl
   .rw[k]at a;have v:s.m≠ []:=λqa4=>by
     have D:=Wq Xa h.mp;rw[qa4]at D;simp only[aP,kp]at D;have qa2:=gZ i.up P qb1;have e3:=i.up P g;have qa3:=iw g;rw[u2 k]at qa3;omega
    obtain⟨m,q,x,w,H,B,⟨o,F⟩,qb0,qa8,M,mW⟩:=G9 i h v;rw[H]at a;rw[w]at a E|-;rw[bX]at E;rw[Xw];refine(ws9 g t k o F (i.ok m o).1 (show(cmk L Y s x).1=_ from B) u Φ).trans (Eq.trans ?_ (a _ _ rfl));simp only[B,Xf,DJ o,bX,Xv,kp,d4,Xgb,C5];rfl
   .rw[k]at a d;by_cases v:s.m= []
    .have p:s.m.isEmpty=true:=by rw[v];rfl
     rw[p]at d;rw[v];exact(TG g k).trans (d P {s with S:=gu s.S s.P,P:=[],back:=s.back+s.P.length} rfl)
    .have p:s.m.isEmpty=false:=by simpa using v
     rw[p]at a;obtain⟨m,q,x,w,H,B,⟨o,F⟩,qb0,qa8,M,mW⟩:=G9 i h v;obtain⟨x1,x2,x3⟩:=h.mr x (by rw[w];simp);have qa1:∀y∈q,y.2.1<=x.2.1:=by
      have:=h.mo;rw[w]at this
      exactλy C=>(dZ.1 this).2.2 y C x Δ
     have qa0:∀y∈q,0<=y.2.1:=λy C=>(h.mr y (by rw[w];simp[C])).2.1;have qa7:=Lh h.cl (l:=s.P.drop x.2.1.toNat) λr u=>h.lg.1 r (Xfn u);rw[H]at a;rw[w]at a E|-;rw[bX]at E;rw[Xw];refine(TI G g t k o F (i.ok m o).1 qb0 (show(cmk L Y s x).1=_ from B) x1.len qa7.len J Φ).trans (Eq.trans ?_ (a _ _ rfl));simp only[B,Xf,DJ o,bX,Xv,kp,d4,Xgb,C5];unfold wk;congr 1;refine vk λy C=>?_;unfold cmk;simp only[];rw[Wst (by have:=qa1 y C;omega) Ω]
   .have e:∀c:Int,5<=c->(l[P].1==c)=false:=λc i=>Φ
    simp only[e 5 Ω,e 6 Ω,e 7 Ω,e 8 Ω,e 9 Ω,e 10 Ω,Wc]at a;exact(wsC G g t ⟨k1,k⟩ A h.rg).trans (a _ _ rfl)
  .have e:P=l.length:=Ω
   subst e;rw[TR,cZ];simp
theorem WA0{l}{b d e}{k}(n:1048576<N)(h:ff l=true)(i:oz b=true)(j:oD d=true)(y:e.length=8):
  Ze N (k+1) l [] [] b (d,(e,Y))=some ((),(((x7 l b d).1,((x7 l b d).2.1,((x7 l b d).2.2.1,(e,Y)))),())):=by
 have a:=WzO h;have q:=nC.1 i;have t:=uy.1 j;have K:=Rv (l:=l) q t;have v:=Do (N:=N) (c:=d) (b:=e) (a:=Y) (by rw[t.len];omega) Ω;have z:WH (([]:List Int).length+b.length)=true:=Ww (by rw[q.len];simp);have w:Xh ([]:List Int) b=b:=rfl;unfold Ze;simp only[v,ret,Xd,z,We];have J:=WvK (N:=N) (l:=l) (R:=Unit×(Ke×Unit)) n a (Q:=Ze N k) (S:=[]) (U:=[]) (L:=e) (Y:=Y) (X:=Y) (Z:=d) (V:=e) y
  (λg=>(some ((),(((2:Int),(g,(d,(e,Y)))),())))) (λr I c m=>(some ((),(((1:Int),(r,(c,(m,I)))),())))) N 0 (ks0 b d) K (by have:=a.len;omega)
 have p:=ZF a (l.length+1) 0 _ K;have o:=(YL a (l.length+1) 0 _ K).2.2.2.2.1;rw[TC a K n]at J;have D:Za N (Ze N k) l [] [] Y d e (λg=>(some ((),(((2:Int),(g,(d,(e,Y)))),())):Option Ky)) (λG H x A E B C=>(some ((),(((1:Int),(x,(B,(C,A)))),())))) N 0 b Y [] d e=_:=J;simp only[w,D];unfold x7;simp only[h,i,j,Bool.and_true,We];generalize cZ l (l.length+1) 0 (ks0 b d)=f at p o;obtain⟨I,s⟩:=f;cases I
 .rfl
 .have fT:=o rfl;have u:=p;rw[fT]at u;have F:s.S=d:=u;simp_all
end
end
section
variable{N:Nat}{m:Mm}{f g:Fm}{x y:Kd}{k:Nat}{n:Int}{b:List Opn}{a:List (List Opn)}
end
section
variable{N:Nat}{m:Mm}{f g:Fm}{x y:Kd}{k:Nat}{n:Int}{b:List Opn}{a:List (List Opn)}{e:En}
end
section
abbrev FSc:=List Int×List Int×List Rw×List (List Opn)×List Int
variable{N:Nat}{s:FSc}{m:Mm}{f:Fm}{n:Int}
end
section
set_option synthInstance.maxSize 20000
set_option synthInstance.maxHeartbeats 4000000
end
section

end
section
variable{N:Nat}{s:FSc}{m:Mm}{f:Fm}{n:Int}{x:Kd}{a:List (List Opn)}{b:List Opn}
end
section
variable{N:Nat}{s:FSc}{m:Mm}{f:Fm}{n:Int}
end
section
abbrev Cur:=List Int×Int×Int
def bY(c:Cur):Prop:=0<=c.2.1/\c.2.1<=c.1.length/\c.1.length<=1048576
def HJ{a:Type}(P:a->Prop)(r:Option ((Cur×Unit)×(a×Unit))):Prop:=∃c v,r=some ((c,()),(v,()))/\bY c/\P v
def Wsx(x):∃n:Nat,n<=255/\x8 .i64 x 255=n:=by
 refine⟨(BitVec.ofInt 64 x&&&BitVec.ofInt 64 255).toNat,?_,?_⟩
 .simp[BitVec.toNat_and,mA,Xib]
 .unfold x8;have:(BitVec.ofInt 64 x&&&BitVec.ofInt 64 255).toNat<=255:=by
   simp[BitVec.toNat_and,mA,Xib]
  exact Dq (WBQ (p:=(BitVec.ofInt 64 x&&&BitVec.ofInt 64 255).toNat) Ω)
def Wyf{N}{a}(h:a.length<=1048576)(l:1048576<N):∃c,bY c/\FQ N a=ret c:=by
 have f:∀(n j:Nat) (v:Int),j<=a.length->a.length-j<n->∃m i t,∀{R:Type} (K:Ka7 R),yx N a K n v (j:Int)=K m i t:=by
  intro n
  induction n with
  |zero=>omega
  |succ n ih=>
   intro j v g k;by_cases b:j<a.length
   .by_cases h4:j<4000
    .obtain⟨m,i,t,e⟩:=ih (j+1) _ b Ω;refine⟨m,i,t,λK=>?_⟩;have d:decide ((j:Int)<4000)=true:=Φ
     simp only[yx,WM b,Wp b,d,We,Wl (j:=j)];exact e K
    .refine⟨v,j,decide ((j:Int)<4000),λK=>?_⟩;have d:decide ((j:Int)<4000)=false:=Φ
     simp[yx,WM b,d,We,Wc]
   .refine⟨v,j,false,λK=>?_⟩;simp_all [yx,W0,Wc]
 obtain⟨m,i,t,e⟩:=f N 0 (Ws .i64 10101 (Wi a)) (Nat.zero_le _) Ω;refine⟨(a,0,m),⟨Δ,Δ,h⟩,?_⟩
 grind [FQ]
def GD{N}{c}(h:bY c):HJ (λv=>0<=v/\v<=255) (y8 N c):=by
 unfold y8;obtain⟨j,k,a⟩:=h;have d:inn 33=true:=rfl;have f:inn 45=true:=rfl;simp only[d,f,We];by_cases b:c.2.1<c.1.length
 .have e3:decide (c.2.1<Wi c.1)=true:=Wf b;have g:inb c.2.1 c.1.length=true:=by grind [inb]
  have i:Ws .i64 c.2.1 1=c.2.1+1:=WB Λ;rw[e3,g,i];simp only[We];obtain⟨n,l,e⟩:=Wsx (Ws .i64 (x8 .i64 (F9 .i64 (q7 .i64 (Ws .i64 (fg .i64 c.2.2 (6364136223846793005:Int)) (1442695040888963407:Int)) (33:Int)) (q7 .i64 (Ws .i64 (fg .i64 c.2.2 (6364136223846793005:Int)) (1442695040888963407:Int)) (45:Int))) (255:Int)) (IntKind.wrap .i64 (Xc c.1 (Xb c.2.1) (0:Int))));exact⟨_,_,rfl,⟨Φ,Φ,a⟩,Ω⟩
 .have e3:decide (c.2.1<Wi c.1)=false:=Wj b;rw[e3];simp only[Wc];obtain⟨n,l,e⟩:=Wsx (F9 .i64 (q7 .i64 (Ws .i64 (fg .i64 c.2.2 (6364136223846793005:Int)) (1442695040888963407:Int)) (33:Int)) (q7 .i64 (Ws .i64 (fg .i64 c.2.2 (6364136223846793005:Int)) (1442695040888963407:Int)) (45:Int)));exact⟨_,_,rfl,⟨j,k,a⟩,Ω⟩
def ZL{v n}(b:0<=v)(a:0<n):0<=cj v n/\cj v n<n:=by
 have e:cj v n=v%n:=by grind [cj,HM]
 rw[e];exact⟨Int.emod_nonneg v Ω,Int.emod_lt_of_pos v a⟩
def Pw{N}{c}{n}(h:bY c):HJ (λv=>(n<=0->v=0)/\(0<n->0<=v/\v<n)) (Zc N c n):=by
 unfold Zc;by_cases F:n<=0
 .have e:decide (n<=0)=true:=Ψ
  rw[e];exact⟨_,_,rfl,h,λ_=>rfl,λh=>Ω⟩
 .have e:decide (n<=0)=false:=Ψ
  have q:inz n=true:=by grind [inz]
  rw[e];simp only[Wc,q,We];by_cases g:n<=256
  .have e:decide (n<=256)=true:=by simpa using g
   rw[e];obtain⟨l,v,f,s,t⟩:=GD (N:=N) h;rw[f];have:=ZL t.1 (Ω:0<n);exact⟨_,_,rfl,s,λh=>Ω,λ_=>this⟩
  .have e:decide (n<=256)=false:=by simpa using g
   rw[e];obtain⟨l,a,f,z,H⟩:=GD (N:=N) h;obtain⟨C,b,m,r,G⟩:=GD (N:=N) z;obtain⟨D,d,o,A,I⟩:=GD (N:=N) r;obtain⟨E,v4,p,B,u⟩:=GD (N:=N) A;simp only[Wc,f,m,o,p,Xd];have w:fg .i64 a 16777216=a*16777216:=Aj Λ;have x:fg .i64 b 65536=b*65536:=Aj Λ;have y:fg .i64 d 256=d*256:=Aj Λ;have i:Ws .i64 (a*16777216) (b*65536)=a*16777216+b*65536:=WB Λ;have j:Ws .i64 (a*16777216+b*65536) (d*256)=a*16777216+b*65536+d*256:=WB Λ;have k:Ws .i64 (a*16777216+b*65536+d*256) v4=a*16777216+b*65536+d*256+v4:=WB Λ;rw[w,x,y,i,j,k];have:=ZL (Ω:0<=a*16777216+b*65536+d*256+v4) (Ω:0<n);exact⟨_,_,rfl,B,λh=>Ω,λ_=>this⟩
end
section
def Wu1{N}{c}{n}(h:bY c):HJ (λ_=>True) (Zz N c n):=by
 unfold Zz;obtain⟨d,v,a,b,e⟩:=Pw (N:=N) (n:=n) h;rw[a];exact⟨_,_,rfl,b,trivial⟩
def WwR{N}{c}{l}(h:bY c)(g:0<l.length)(i:l.length<4611686018427387904):HJ (λv=>v∈l) (td N c l):=by
 unfold td;obtain⟨f,v,d,e,a⟩:=Pw (N:=N) (n:=Wi l) h;rw[d];have a:=a.2 (by unfold Wi;omega);unfold Wi at a;obtain⟨q,rfl⟩:=Xgw a.1;have b:q<l.length:=Ω
 simp only[Xd,Wp b,We,Wu b];exact⟨_,_,rfl,e,Xm b⟩
end
section
def Drw{ρ:Type}(P:ρ->Prop)(r:Option ((Cur×Unit)×ρ)):Prop:=∃c v,r=some ((c,()),v)/\bY c/\P v
def Drw.of{a}{P}{r}(h:HJ P r):Drw (λv:a×Unit=>P v.1) r:=by
 obtain⟨c,v,e,d,b⟩:=h;exact⟨c,(v,()),e,d,b⟩
def Drw.bind{ρ σ}{P}{Q}{r}{k:(Cur×Unit)×ρ->Option ((Cur×Unit)×σ)}(h:Drw P r)(d:∀c v,bY c->P v->Drw Q (k ((c,()),v))):Drw Q (r.bind k):=by
 obtain⟨c,v,e,a,b⟩:=h;simp_all
def Drw.ok{ρ}{P}{c}{v:ρ}(a:bY c)(b:P v):Drw P (some ((c,()),v)):=⟨c,v,rfl,a,b⟩
def Drw.bif{ρ}{P}{b}{x y:Option ((Cur×Unit)×ρ)}(a:b=true->Drw P x)(c:b=false->Drw P y):Drw P (bif b then x else y):=by
 grind
def Drw.bifT{ρ}{P}{b}{x y:Option ((Cur×Unit)×ρ)}(c:b=true)(a:Drw P x):Drw P (bif b then x else y):=Ψ
def Drw.mono{ρ}{P Q}{r:Option ((Cur×Unit)×ρ)}(h:Drw P r)(d:∀v,P v->Q v):Drw Q r:=by
 obtain⟨c,v,e,a,b⟩:=h;exact⟨c,v,e,a,d v b⟩
section
variable{N:Nat}{c:Cur}
theorem ed(n)(h:bY c):Drw (λv:Int×Unit=>(n<=0->v.1=0)/\(0<n->0<=v.1/\v.1<n)) (Zc N c n):=.of (Pw h)
theorem iG(n)(h:bY c):Drw (λ_:Bool×Unit=>True) (Zz N c n):=.of (Wu1 h)
theorem Oo(l)(h:bY c)(a:0<l.length)(b:l.length<1000):Drw (λv:Int×Unit=>v.1∈l) (td N c l):=.of (WwR h a Ω)
theorem WDC(h:bY c):Drw (λv:Int×Unit=>0<=v.1/\v.1<=3) (ny N c):=by
 exact(ed 4 h).bind λc v a b=>.ok a Θ
theorem IR(h:bY c):Drw (λv:Int×Unit=>0<=v.1/\v.1<=65535) (FG N c):=by
 refine(iG 6 h).bind λc v a _=>.bif (λ_=>?_) λ_=>?_
 .refine(Oo _ a (by decide) (by decide)).bind λc v a b=>.ok a ?_
  grind
 .exact(ed 9 a).bind λc v a b=>.ok a Θ
theorem WC5(h:bY c):Drw (λv:Int×Unit=>0<=v.1/\v.1<=7) (MB N c):=by
 refine(iG 8 h).bind λc v a _=>.bif (λ_=>?_) λ_=>?_
 .exact(ed 8 a).bind λc v a b=>.ok a Θ
 .exact(ed 3 a).bind λc v a b=>.ok a Θ
theorem WDH(h:bY c):Drw (λv:Int×Unit=>True) (In N c):=by
 refine(iG 4 h).bind λc v a _=>.bif (λ_=>?_) λ_=>?_
 .exact(ed 8 a).bind λc v a b=>.ok a trivial
 .exact(Oo _ a (by decide) (by decide)).bind λc v a b=>.ok a trivial
theorem Ly(kind)(h:bY c):Drw (λ_:Opn×Unit=>True) (nA N c kind):=by
 unfold nA;simp only[Wm]
 repeat' first
  |with_reducible refine Drw.bif (λ_=>?_) λ_=>?_
  |with_reducible refine(WDC (by assumption)).bind λc v a b=>?_
  |with_reducible refine(IR (by assumption)).bind λc v a b=>?_
  |with_reducible refine(WC5 (by assumption)).bind λc v a b=>?_
  |with_reducible refine(WDH (by assumption)).bind λc v a b=>?_
  |with_reducible refine(ed _ (by assumption)).bind λc v a b=>?_
  |with_reducible exact .ok (by assumption) trivial
theorem Wvr{X:Cur->Int->Int->Bool->Option ((Cur×Unit)×(List Opn×Unit))}{Y deep}{a}(I:0<=Y/\Y<=100)
  (w:∀c (m d),bY c->0<=m->m<Y->Drw (λv:List Opn×Unit=>(v.1.length:Int)<=m+2) (X c m d a)):
  ∀(n i) (c) (l:List Opn),i<n->i<=1000->bY c->(l.length:Int)<=Y+2->Drw (λv:List Opn×Unit=>(v.1.length:Int)<=Y+2) (Zw N X Y deep a (λu s f g=>(some ((f,()),(g,())))) n (i:Int) c l)
 |0,i,c,l,h,_,_,_=>Ω
 |n+1,i,c,l,h,H,p,hl=>by
  have J:(0:Int)<i->ah .i64 (i:Int) 1=((i-1:Nat):Int):=λq=>by grind [eh,I64]
  have E:ah .i64 Y (Wi l)=Y-(l.length:Int):=eh (by unfold I64 Wi;omega);have M:ah .i64 (Y-(l.length:Int)) 3=Y-(l.length:Int) -3:=eh Λ;simp only[Zw,Wm,E,M];refine .bif (λq=>?_) λ_=>.ok p hl;have q:=Wx q;rw[J q];refine .bif (λr=>?_) λ_=>.ok p hl;have r:(l.length:Int)<Y:=Wx r;have next:∀e (t:List Opn),bY e->(t.length:Int)<=Y+2->Drw (λv:List Opn×Unit=>(v.1.length:Int)<=Y+2) (Zw N X Y deep a (λu s f g=>(some ((f,()),(g,())))) n ((i-1:Nat):Int) e t):=
   λe t r y=>Wvr I w n (i-1) e t Ω Ω r y
  have z:∀(W:List Opn) (b:List Opn),(W.length:Int)+b.length<=1000->WH (W.length+b.length)=true:=λW b h=>Ww Ω;have Q:∀e (o:Opn),bY e->Drw (λv:List Opn×Unit=>(v.1.length:Int)<=Y+2) (bif WH (l.length+ [o].length)then Zw N X Y deep a (λu s f g=>(some ((f,()),(g,())))) n ((i-1:Nat):Int) e (Xh l [o])else none):=
   λe o y=>.bifT (z _ _ Φ) (next _ _ y (by grind [eK]))
  have R:∀e,bY e->(4:Int)<=Y-(l.length:Int)->Drw (λv:List Opn×Unit=>(v.1.length:Int)<=Y+2) ((X e (Y-(l.length:Int) -3) (ah .i64 deep 1) a).bind λk=>
          ((nA N k.1.1 (8:Int)).bind λj=>
           (bif WH ((Xa l)+(Xa ([j.2.1])))then
            (bif WH ((Xa (Xh l ([j.2.1])))+(Xa k.2.1))then
             ((Zz N j.1.1 (3:Int)).bind λA=>
              (bif A.2.1 then
               (bif WH ((Xa (Xh (Xh l ([j.2.1])) k.2.1))+(Xa ([((10:Int),((0:Int),((0:Int),(0:Int))))])))then
                (bif WH ((Xa (Xh (Xh (Xh l ([j.2.1])) k.2.1) ([((10:Int),((0:Int),((0:Int),(0:Int))))])))+(Xa ([((9:Int),((0:Int),((0:Int),(0:Int))))])))then
                 (Zw N X Y deep a (λu s f g=>(some ((f,()),(g,())))) n ((i-1:Nat):Int) A.1.1 (Xh (Xh (Xh (Xh l ([j.2.1])) k.2.1) ([((10:Int),((0:Int),((0:Int),(0:Int))))])) ([((9:Int),((0:Int),((0:Int),(0:Int))))])))else none)else none)
               else
               (bif WH ((Xa (Xh (Xh l ([j.2.1])) k.2.1))+(Xa ([((9:Int),((0:Int),((0:Int),(0:Int))))])))then
                (Zw N X Y deep a (λu s f g=>(some ((f,()),(g,())))) n ((i-1:Nat):Int) A.1.1 (Xh (Xh (Xh l ([j.2.1])) k.2.1) ([((9:Int),((0:Int),((0:Int),(0:Int))))])))else none)))else none)else none))):=λe K T=>by
   refine(w e _ _ K Ω Ω).bind λF O x L=>(Ly 8 x).bind λG P D _=>?_;refine .bifT (z _ _ Φ) (.bifT (z _ _ (by grind [eK])) ((iG 3 D).bind λS U V _=>.bif (λ_=>?_) λ_=>?_))
   .grind [eK]
   grind [eK]
  repeat' first
   |with_reducible exact Q _ _ (by assumption)
   |with_reducible refine Drw.bif (λ_=>?_) λ_=>?_
   |with_reducible refine(Ly _ (by assumption)).bind λc v p B=>?_
   |with_reducible refine(iG _ (by assumption)).bind λc v p B=>?_
   |with_reducible refine(ed _ (by assumption)).bind λc v p B=>?_
   |exact R _ (by assumption) (by simp only[Wg,ge_iff_le]at*;omega)
  all_goals
   rename_i C;have C:=Wx C;refine(w _ 2 0 (by assumption) Ω Ω).bind λF O x L=>(Ly 7 x).bind λG P D _=>?_
   grind [eK]
theorem Wzx(h:1048576<N):∀(m:Nat) (c) (p o:Int) (a),bY c->0<=p->p<=100->p<m->Drw (λv:List Opn×Unit=>(v.1.length:Int)<=p+2) (Cf N m c p o a)
 |0,c,p,o,a,b,f,g,h2=>Ω
 |m+1,c,p,o,a,b,f,g,h2=>by
  refine(ed p b).bind λc v b l=>?_;have e:Ws .i64 1 v.1=(((1+v.1).toNat:Nat):Int):=by grind [WB,I64]
  simp only[e];exact Wvr ⟨f,g⟩ (λc j d i k n=>Wzx h m c j d a i k Ω Ω) N _ c [] Ω Ω b Φ
theorem IQ(d:1048576<N){h deep}{a}(e:bY c)(g:0<=h)(b:h<=100):Drw (λv:List Opn×Unit=>v.1.length<=102) (IL N c h deep a):=by
 exact(Wzx d N c h deep a e g b Ω).mono λv f=>Ω
theorem YT(f:1048576<N):∀(n i) (c) (l:List Int),8-i<n->i<=8->bY c->l.length=i->
  Drw (λv:List Int×Unit=>v.1.length=8) (Ib N (λj g d e=>(some ((d,()),(e,())))) n (i:Int) c l)
 |0,i,c,l,h,_,_,_=>Ω
 |n+1,i,c,l,h,k,a,hl=>by
  refine .bif (λb=>?_) λb=>.ok a Θ;have b:=Wx b;rw[Wl];refine(IR a).bind λc v a m=>.bifT (Ww Φ) ?_;exact YT f n (i+1) c _ Ω Ω a Ψ
theorem WDk(a:1048576<N)(b:bY c):Drw (λv:List Int×Unit=>v.1.length=8) (Ig N c):=by
 exact YT a N 0 c [] Ω Ω b rfl
end
end
section
def Wtc{a}{c b:Option a}(h:c=b):dL c b=c:=by unfold dL;rw[Wb h]
section
variable{N:Nat}{c:Cur}
theorem YF(g:1048576<N){b:List Opn}(d:b.length<=300):∀(n i) (c) (l:List (List Opn)),i<n->i<=100->bY c->l.length+i<=100->(∀x∈l,x.length<=200)->
  Drw (λv:(List Opn×List (List Opn))×Unit=>v.1.1.length<=300/\v.1.2.length<=100/\∀x∈v.1.2,x.length<=200) (EV N b (λq r p o=>(some ((p,()),((b,o),())))) n (i:Int) c l)
 |0,i,c,l,h,_,_,_,_=>Ω
 |n+1,i,c,l,h,s,a,t,m=>by
  unfold EV;refine .bif (λf=>?_) λ_=>.ok a ⟨d,Ψ,m⟩;have f:=Wx f;have e:ah .i64 (i:Int) 1=((i-1:Nat):Int):=by grind [eh,I64]
  rw[e];refine(ed 5 a).bind λc v a j=>?_;have j:=j.2 (by decide);have k:Ws .i64 2 v.1=2+v.1:=WB Λ;simp only[k];refine(IQ g a Ω Ω).bind λc w a u=>.bifT (Ww Φ) ?_;refine YF g d n (i-1) c _ Ω Ω a (by grind [eK]) λx y=>?_
  grind [eK]
theorem N9(f:1048576<N){b}(a:bY c):Drw (λv:(List Opn×List (List Opn))×Unit=>v.1.1.length<=300/\v.1.2.length<=100/\∀x∈v.1.2,x.length<=200) (vZ N c b):=by
 unfold vZ;refine .bif (λ_=>?_) λ_=>?_
 .refine(ed 8 a).bind λc v a d=>?_;have d:=d.2 (by decide);have e:Ws .i64 3 v.1=3+v.1:=WB Λ;simp only[e];exact(IQ f a Ω Ω).bind λc w a l=>.ok a ⟨Θ,Δ,Δ⟩
 .refine(ed 4 a).bind λc v a d=>?_;have d:=d.2 (by decide);have e:Ws .i64 1 v.1=1+v.1:=WB Λ;simp only[e];refine(IQ f a Ω Ω).bind λc w a l=>(ed 4 a).bind λc h a g=>?_;have g:=g.2 (by decide);have k:Ws .i64 1 h.1=1+h.1:=WB Λ;simp only[k];refine(IQ f a Ω Ω).bind λc o a m=>.bifT (Ww Φ) (.bifT (Ww (by grind [eK])) ((ed 3 a).bind λc i a j=>?_));have j:=j.2 (by decide);have n:Ws .i64 1 i.1=(((1+i.1).toNat:Nat):Int):=by grind [WB,I64]
  grind [YF,eK]
theorem WDl(a:bY c):Drw (λv:Opn×Unit=>True) (N4 N c):=by
 unfold N4;refine(ed 16 a).bind λc v a b=>(Ly _ a).bind λc w a _=>(ed 16 a).bind λc v a b=>.bif (λ_=>?_) λ_=>.bif (λ_=>?_) λ_=>.bif (λ_=>?_) λ_=>.bif (λ_=>?_) λ_=>.ok a trivial
 all_goals exact(Oo _ a (by decide) (by decide)).bind λc v a b=>.ok a trivial
theorem Wsk:∀(n) (c) (l:List Opn),600-l.length<n->bY c->l.length<=500->
  Drw (λv:List Opn×Unit=>v.1.length<=600) (EW N (λi g f=>(some ((g,()),(f,())))) n c l)
 |0,c,l,h,_,_=>Ω
 |n+1,c,l,h,a,hl=>by
  unfold EW;refine(ed 2 a).bind λc v a d=>?_;have d:=d.2 (by decide);have e:Ws .i64 24 v.1=24+v.1:=WB Λ;simp only[e];refine .bif (λb=>?_) λ_=>.ok a Θ;have b:(l.length:Int)<24+v.1:=Wx b;exact .bifT (Ww Φ) (Wsk n c _ (by grind [eK]) a (by grind [eK]))
theorem Tv(q:1048576<N){l:List Opn}(d:bY c)(r:l.length<=500):Drw (λv:List Opn×Unit=>v.1.length<=600) (Ci N c l):=by
 unfold Ci;simp only[Wm];have m:Xh ([]:List Opn) l=l:=rfl;simp only[m];refine .bifT (Ww Φ) (.bif (λ_=>.ok d Δ) λn=>?_);have p:0<l.length:=by
  cases l with
  |nil=>exact Wh n (by decide)
  |cons a b=>simp
 refine(ed (Wi l) d).bind λc k d e=>?_;have e:=e.2 (by unfold Wi;omega);unfold Wi at e;obtain⟨k,u⟩:=k;simp only at e;obtain⟨j,rfl⟩:=Xgw e.1;have o:j<l.length:=Ω
 have i:=Wp o;have h:Ws .i64 (j:Int) 1=((j+1:Nat):Int):=Wl;have f:((decide ((0:Int)<=(j:Int)))&&(decide ((j:Int)<=((Xa l):Int))))=true:=Φ
 have g:((decide ((0:Int)<=((j+1:Nat):Int)))&&(decide (((j+1:Nat):Int)<=((Xa l):Int))))=true:=Φ
 refine(ed 6 d).bind λc v d s=>?_;simp only[h,i,f,g,We,Wtc rfl];refine .bif (λ_=>?_) λ_=>.bif (λ_=>.ok d Φ) λ_=>.bif (λ_=>?_) λ_=>.bif (λ_=>?_) λ_=>.bif (λ_=>.ok d Φ) λ_=>?_
 .exact(WDl d).bind λc w d _=>.ok d Φ
 .have aa:(List.drop (Xb ((j+1:Nat):Int)) (bM l.length l)).length=l.length-(j+1):=Ψ
  have t:(bM (Xb (j:Int)) l).length=j:=Ψ
  exact .bifT (Ww Ω) (.ok d (by grind [eK,bX]))
 .grind [Wsk]
 .exact(ed 2 d).bind λc w d _=>.ok d Φ
end
end
section
section
variable{N:Nat}{c:Cur}
end
end
section
section
variable{N:Nat}{s:FSc}{n:Int}{f:Fm}{m:Mm}{c:List Int}{a:List (List Opn)}{b:List Opn}
def MF(c:List Int)(d v:Int):Prop:=c.getD d.toNat 0=v
theorem WBi{Z}(D:FOk a n f)(h:FA (MF c) Z a f)(g:FZ f)(o:Vals 8 c)(r:Vals 4 f.t){i}(I)(k:(f.B[i]).toNat<f.κ.length)(l:ff (a.getD (f.B[i]).toNat [])=true):
  (x7 (a.getD (f.B[i]).toNat []) f.t (ovl c (WR f i))).1=f.κ[(f.B[i]).toNat].out/\
  (f.κ[(f.B[i]).toNat].out=1->(x7 (a.getD (f.B[i]).toNat []) f.t (ovl c (WR f i))).2.1=f.κ[(f.B[i]).toNat].t)/\
  (x7 (a.getD (f.B[i]).toNat []) f.t (ovl c (WR f i))).2.2.1=ovl c (WR f (i+1)):=by
 obtain⟨B,w,C⟩:=g.kid I;have j:=lY o (g.Eo i);have m:=WzO l;have A:=m.len;obtain⟨_,E,F⟩:=h.ft.ord _ (Xm I);have x:=h.fv.sim (f.B[i]).toNat k (ovl c (WR f i)) j (λe p=>by
  obtain⟨s,u⟩:=(g.sn _ (Xm k)).2.2.2 e p;rw[qj o (g.Eo i) s u];have v:=h.fv.mrg i I e (by rw[sw k];exact p);rcases v with q|⟨y,z⟩
  .rw[q]
  .rw[y];exact z.2) 1048577 Ω
 rw[Vi I,Wuk,w];unfold x7;rw[l,nC.2 r,uy.2 j];simp only[Bool.and_self,We];rw[<-TC m (Rv r j) (N:=1048577) Ω];rcases x with⟨G,_⟩|⟨_,⟨G,t,b,H,d⟩|⟨G,b,t,H,d⟩⟩
 .omega
 .rw[d,G];exact⟨rfl,λ_=>b,H⟩
 .rw[d,G,b];exact⟨rfl,λq=>Ω,H⟩
end
end
section
section
variable{N:Nat}{s:FSc}{n:Int}{f:Fm}{m:Mm}{b:List Int}{a:List (List Opn)}
def gQ:List (Nat×List Int):=[(0,[]),(1,[0]),(2,[0,1]),(2,[1,0]),(3,[0,1,2]),(3,[0,2,1]),(3,[1,0,2]),(3,[1,2,0]),(3,[2,0,1]),(3,[2,1,0])]
theorem Wul{l:List Int}{k}(j:k<=3)(n:l.length=k)(g:l.Nodup)(f:∀x∈l,0<=x/\x<k):(k,l)∈gQ:=by
 subst n
 match l,j,g,f with
 | [],_,_,_=>simp[gQ]
 | [a],_,_,f=>
  have:=f a Δ;simp only[List.length_singleton]at this;have:a=0:=Ω
  subst this;simp[gQ]
 | [a,b],_,g,f=>
  have h:=f a Δ;have i:=f b Δ;simp only[Xv,kp]at h i;have o:a≠b:=by intro e;subst e;simp at g
  have:(a=0/\b=1)\/(a=1/\b=0):=Ω
  rcases this with⟨rfl,rfl⟩|⟨rfl,rfl⟩<;>simp[gQ]
 | [a,b,c],_,g,f=>
  have h:=f a Δ;have i:=f b Δ;have m:=f c Δ;simp only[Xv,kp]at h i m;have o:a≠b:=by intro e;subst e;simp at g
  have q:a≠c:=by intro e;subst e;simp at g
  have p:b≠c:=by intro e;subst e;simp at g
  have:(a=0/\b=1/\c=2)\/(a=0/\b=2/\c=1)\/(a=1/\b=0/\c=2)\/(a=1/\b=2/\c=0)\/(a=2/\b=0/\c=1)\/(a=2/\b=1/\c=0):=Ω
  rcases this with⟨rfl,rfl,rfl⟩|⟨rfl,rfl,rfl⟩|⟨rfl,rfl,rfl⟩|⟨rfl,rfl,rfl⟩|⟨rfl,rfl,rfl⟩|⟨rfl,rfl,rfl⟩<;>simp[gQ]
 |a::b::c::d::l,j,_,_=>simp at j
theorem Wvx{l}{k}(h:(k,l)∈gQ)(a:1048576<N):vW N l (k:Int)=some ((),(l,(true,()))):=by
 obtain⟨M,rfl⟩:∃M,N=M+10:=⟨N-10,Ω⟩;simp only[gQ,Xr,D9,or_false,Prod.mk.injEq]at h;rcases h with⟨rfl,rfl⟩|⟨rfl,rfl⟩|⟨rfl,rfl⟩|⟨rfl,rfl⟩|⟨rfl,rfl⟩|⟨rfl,rfl⟩|⟨rfl,rfl⟩|⟨rfl,rfl⟩|⟨rfl,rfl⟩|⟨rfl,rfl⟩<;>rfl
theorem Wu7{A B}(d:Vals 8 A)(e:Vals 8 B)(h:∀c:Int,0<=c->c<=7->A.getD c.toNat 0=B.getD c.toNat 0):A=B:=by
 have f:=d.len;have g:=e.len;refine D6 Ω λi a b=>?_;have:=h (i:Int) Ω Ω;rw[Xf,Wk a,Wk b]at this;exact this
theorem Wzh{l}{c}(h:bT l)(a:l.length<=300)(b:0<=c)(d:c<=7):lst (al l) c=lst l c:=by
 cases hv:lst l c with
 |some v=>exact Hy (r:=(c,v)) (Ax l) (zG.2 ⟨⟨b,d⟩,by rw[C1 h a];exact hv⟩)
 |none=>
  cases hw:lst (al l) c with
  |none=>rfl
  |some w=>
   have:=(zG.1 (Dx hw)).2;rw[C1 h a,hv]at this;cases this
theorem WuS{w}(a:Vals 8 b)(h:bT w)(e:w.length<=300):ovl b (al w)=ovl b w:=
 Wu7 (lY a zA) (lY a h) λc g d=>by rw[qj a zA g d,qj a h g d,Wzh h e g d]
theorem WxE{M}(g:FOk a n f)(h:FT M f)(l:FZ f)(i:Vals 8 b):ovl b (m5 f)=ovl b (WR f f.B.length)/\bT (m5 f):=by
 have ae:bT (m5 f):=λr o=>by
  obtain⟨e,d,rfl⟩:=Xy.1 o;obtain⟨t,u,_⟩:=g.bufE e d;exact⟨t,u⟩
 refine⟨Wu7 (lY i ae) (lY i (l.Eo _)) λc j k=>?_,ae⟩;have p:(m5 f).Pairwise λt u=>t.1<u.1:=by
  unfold m5;rw[List.pairwise_map];exact g.bufR.imp λ{t u} h=>by unfold cfE at h;omega
 have s:=g.K;have e:lst (m5 f) c=lst (WR f f.B.length) c:=by
  by_cases m:∃e∈f.buf,e.1=c
  .obtain⟨e,d,rfl⟩:=m;rw[h.buf e d f.B.length (by have:=(g.bufE e d).2.2.2;omega) (Xj _)];exact Hy (r:=(e.1,e.2.1)) p (Xy.2 ⟨e,d,rfl⟩)
  .have bV:=λe d q=>m ⟨e,d,q⟩;rw[h.non c j k bV _ (Xj _)];cases hw:lst (m5 f) c with
   |none=>rfl
   |some w=>
    obtain⟨e,d,q⟩:=Xy.1 (Dx hw);exact Wh (Wq Prod.fst q) (bV e d)
 rw[qj i ae j k,qj i (l.Eo _) j k,e]
end
end
section
section
variable{R:Type}{N k:Nat}{V:List Opn}{U:List (List Opn)}{X:Int}{Z W:List Int}{l:Ka6 R}{K:Ka4 R}
 {n Q:Nat} {r c m E:List Int} {Y u:Int} {mk q:List M7} {x:M7} {f:Fm}
def su(a:List Kd)(r:List Int)(i:Int):List Int:=if(a.getD i.toNat {}).out=1 then r.set i.toNat (ac (a.getD i.toNat {}).t 0 0)else r
def qI(f:Fm)(a j:Nat):List Int:=(f.B.take j).foldl (su f.κ) (Xp a 0)
theorem Ws3{nk j}(h):qI f nk (j+1)=su f.κ (qI f nk j) f.B[j]:=by
 grind [qI,List.take_succ_eq_append_getElem]
theorem Wzc{ks}{r}{i}:(su ks r i).length=r.length:=by
 grind [su,Xx]
theorem WvF{nk}:∀j,(qI f nk j).length=nk:=λj=>by
 unfold qI;generalize f.B.take j=l;have:∀(l:List Int) (r:List Int),(l.foldl (su f.κ) r).length=r.length:=by
  intro l
  induction l with
  |nil=>grind
  |cons a l ih=>intro r;rw[List.foldl_cons,ih,Wzc]
 rw[this,List.length_replicate]
def sA(x:Kd):Int:=if x.out=1 then ac x.t 0 0 else 0
theorem WAD{l}{nk}(h:(nk,l)∈gQ){ks}(e:ks.length=nk):l.foldl (su ks) (Xp nk 0)=ks.map sA:=by
 simp only[gQ,Xr,D9,or_false,Prod.mk.injEq]at h
 match ks,e with
 | [],e=>
  grind
 | [a],e=>
  subst e;simp at h;subst h;simp only[AN,sA,SC,su];by_cases f:a.out=1<;>simp[f]
 | [a,b],e=>
  subst e;simp at h;rcases h with rfl|rfl<;>simp only[AN,sA,SC,su]<;>by_cases f:a.out=1<;>by_cases g:b.out=1<;>simp[f,g]
 | [a,b,c],e=>
  subst e;simp at h;rcases h with rfl|rfl|rfl|rfl|rfl|rfl<;>simp only[AN,sA,SC,su]<;>by_cases f:a.out=1<;>by_cases g:b.out=1<;>by_cases i:c.out=1<;>simp[f,g,i]
 |a::b::c::d::ks,e=>
  grind
structure FX(U:List (List Opn))(E:List Int)(f:Fm):Prop where
 ok:∃n,FOk U n f
 fa:∃Z,FA (MF E) Z U f
 ov:ig f=true
 st:∃a,f.start=al a
theorem FX.ord(h:FX U E f)(i:U.length<=3):(U.length,f.B)∈gQ/\f.B.length=U.length:=by
 obtain⟨n,d⟩:=h.ok;obtain⟨Z,c⟩:=h.fa;have k:=h.ov;have g:=d.len;have e:f.B.length=U.length:=by
  rw[d.done,<-g,List.countP_eq_length]
  grind [ig,List.all_eq_true]
 exact⟨Wul i e c.ft.nod λx j=>by
  obtain⟨a,b,_⟩:=c.ft.ord x j;omega,e⟩
theorem Wvw{Q:Int->Bool->Int->List Int->List Int->List Int->Option R}{next l e d}{K:List M7}{a b}(t:1048576<N)(T:FOk U u f){Z}(s:FA (MF E) Z U f)(h:FZ f)(n:Vals 8 E)(q:∀c∈U,ff c=true)(B:m.length=8):∀(S j O),j+S=f.B.length->S<O->
  rm N (Ze N (k+1)) V U f.B next f.t l e d K a b Q O (j:Int) Y (qI f U.length j) (ovl E (WR f j)) m=Q (f.B.length:Int) false Y (qI f U.length f.B.length) (ovl E (WR f f.B.length)) m
 |0,j,O,A,hf=>by
  obtain⟨g,rfl⟩:∃g,O=g+1:=⟨O-1,Ω⟩;simp_all [rm,W0,Xj,Wc]
 |S+1,j,O,A,hf=>by
  obtain⟨g,rfl⟩:∃g,O=g+1:=⟨O-1,Ω⟩;have P:j<f.B.length:=Ω
  obtain⟨o,I,H⟩:=h.kid P;have i:=Wvw (Q:=Q) (next:=next) (l:=l) (e:=e) (d:=d) (K:=K) (a:=a) (b:=b) t T s h n q B S (j+1) g Ω Ω;have G:=T.len;have J:U.getD (f.B[j]).toNat []=U[(f.B[j]).toNat]'Ω:=Wk Ω _;have C:=q _ (Xm (show(f.B[j]).toNat<U.length by omega));obtain⟨w,x,y⟩:=WBi T s h n T.t P o Ψ;have v:Xc f.B (Xb (j:Int)) (0:Int)=f.B[j]:=Wu P _;have L:inb f.B[j] U.length=true:=by grind [inb]
  have F:inb f.B[j] (qI f U.length j).length=true:=by grind [inb,WvF]
  have z:=h.ord.1;have r:=WA0 (N:=N) (k:=k) (Y:=Y) (e:=m) (l:=U.getD (f.B[j]).toNat []) (b:=f.t) (d:=ovl E (WR f j)) t Ψ (nC.2 T.t) (uy.2 (lY n (h.Eo j))) Ω;rw[w,y]at r;rw[Ws3 P]at i;have M:=(T.kid _ o).t;have D:=r;simp only[rm,Wm,WM P,Wp P,v,We,L,F,Wl (j:=j),CY,D,Xd];unfold su at i;rw[sw o]at i;by_cases p:f.κ[(f.B[j]).toNat].out=1
  .rw[Wb p]at i;rw[p,x p];simp only[beq_self_eq_true,We,show inb (0:Int) (f.κ[(f.B[j]).toNat].t).length=true by unfold inb;rw[M.len];rfl];exact i
  grind
theorem WDG(z:1048576<N)(hp)(dO:V.length<=24)(C:V[Q].1=11)(o:U.length<=3)(a:FX U E f)(A:Vals 8 E)(h:∀c∈U,ff c=true/\c.length<=24)(D:m.length=8):
  wk N (Ze N (k+1)) V U f.B X Z W l K (n+1) (Q:Int) f.t Y mk (ovl E f.start) m=wk N (Ze N (k+1)) V U f.B X Z W l K n ((Q+1:Nat):Int) (rN f) Y mk (ovl E (WR f f.B.length)) m:=by
 obtain⟨qa3,qa0⟩:=a.ord o;obtain⟨u,b⟩:=a.ok;obtain⟨qa5,q⟩:=a.fa;obtain⟨qa2,qa6⟩:=a.st;have F:FZ f:=FZ.of q.ft b o (λc e=>(h c e).2) qa6;have qa4:=b.len;have H:(((decide ((0:Int)<=(Wi U)))&&(decide ((Wi U)<=(Wi U))))&&(WH (Xb (Wi U))))=true:=Rh U Ω;have S:Xp (Xb (Wi U)) (0:Int)=qI f U.length 0:=by rw[Pu];rfl
 have G:WR f 0=f.start:=by unfold WR;simp
 have M:qI f U.length f.B.length=f.κ.map sA:=by
  grind [qI,List.take_length,WAD]
 have I:rN f=f.κ.map sA++f.t.drop f.κ.length:=by
  unfold rN;rw[Wb ⟨nC.2 b.t,Ω⟩];congr 1;refine vk λx a=>?_;obtain⟨i,d,rfl⟩:=List.mem_iff_getElem.1 a;unfold R3 sA;have:=nC.2 (b.kid i d).t;simp_all
 unfold wk;rw[Za];simp only[Wm,WM hp,Wp hp,Wu hp,We,Wc,C,H,Wl (j:=Q),beq_self_eq_true,show((11:Int)==5)=false from rfl,show((11:Int)==6)=false from rfl,show((11:Int)==7)=false from rfl,show((11:Int)==8)=false from rfl,show((11:Int)==9)=false from rfl,show((11:Int)==10)=false from rfl];rw[S,<-G];have w:=Wvw (R:=R) (k:=k) (V:=V) (Y:=Y) (m:=m) (Q:=λT qa1 r J s t=>
  (p8 N (Ze N (k+1)) V U f.B ((Q+1:Nat):Int) r (0:Int) (0:Int) X mk J s t Z W
 (λO P g=>
  (Za N (Ze N (k+1)) V U f.B X Z W l K n ((Q+1:Nat):Int) g r mk s t))
 N (0:Int) f.t)) (next:=((Q+1:Nat):Int)) (l:=0) (e:=0) (d:=X) (K:=mk) (a:=Z) (b:=W) z b q F A (λc e=>(h c e).1) D f.B.length 0 N Ω Ω
 refine Eq.trans w ?_;rw[M];have y:=WF (l:=f.κ.map sA) (V:=List Int) (R:=R) (c:=λu j v=>p8 N (Ze N (k+1)) V U f.B ((Q+1:Nat):Int) Y (0:Int) (0:Int) X mk (f.κ.map sA) (ovl E (WR f f.B.length)) m Z W
 (λO P g=>
  (Za N (Ze N (k+1)) V U f.B X Z W l K n ((Q+1:Nat):Int) g Y mk (ovl E (WR f f.B.length)) m)) u j v) (n:=N) Θ
  (b:=λj x v k=>bif inb j v.length then k (v.set j.toNat x)else none) (K:=λ_ v=>Za N (Ze N (k+1)) V U f.B X Z W l K n ((Q+1:Nat):Int) v Y mk (ovl E (WR f f.B.length)) m)
  (λu i v d=>by
   have L:i<4611686018427387904:=Θ
   simp only[p8,WM d,Wp d,Wu d,Wl L,We])
  (λu v=>by simp[p8,W0,Xj,Wc]) f.t
 refine y.trans ?_;have h4:=b.t.len;have p:=JJ (b:=Int) (f:=λx:Int=>x) (a:=λ(j:Int) (x:Int) v (k:List Int->Option R)=>bif inb j v.length then k (v.set j.toNat x)else none) (K:=λ_ v=>Za N (Ze N (k+1)) V U f.B X Z W l K n ((Q+1:Nat):Int) v Y mk (ovl E (WR f f.B.length)) m) (f.κ.map sA) [] f.t Θ (λj x v k a B=>by rw[d8,Wf B];rfl);simp only[kp,List.nil_append,List.map_id']at p;refine Eq.trans p ?_;rw[I,aP]
theorem Wun{a:Nat}(h:a<=3)(b:1048576<N):∃l,vW N [] (a:Int)=some ((),(l,(true,()))):=by
 obtain⟨M,rfl⟩:∃M,N=M+10:=⟨N-10,Ω⟩;have:a=0\/a=1\/a=2\/a=3:=Ω
 rcases this with rfl|rfl|rfl|rfl<;>exact⟨_,rfl⟩
end
end
section
variable{l:List Int}{k i v:Int}
theorem Qz(h:SlOk l){j}(c:j<l.length)(e:l[j]≠0)(d:cE l[j]=i):WE l i=(l[j] -1)%65536+1:=by
 unfold WE;cases a:ik l i with
 |none=>exact Wh d (JW h a j c e)
 |some r=>
  obtain⟨f,b,k,m,g,_⟩:=rJ h a;have:r.1=j:=by
   rcases D4 r.1 j with n|n|n
   .exact Wh (by rw[b,g,d]) (h.one r.1 j f c n Ω e)
   .exact n
   .exact Wh (by rw[b,g,d]) (h.one j r.1 c f n e Ω)
  subst this;simp only;rw[b]
theorem KB(h:SlOk l)(m:∀(j) (g:j<l.length),l[j]≠0->cE l[j]≠i):WE l i=0:=by
 unfold WE;cases a:ik l i with
 |none=>rfl
 |some r=>
  obtain⟨b,c,e,f,d,_⟩:=rJ h a;exact Wh (by rw[c,d]) (m r.1 b Ω)
theorem ZT(h:SlOk l){p}{s}(f:SlOk (l.set p s))(hp)(m:l[p]=0\/cE l[p]≠i)(n:s=0\/cE s≠i):WE (l.set p s) i=WE l i:=by
 by_cases d:∃(j:Nat) (c:j<l.length),l[j]≠0/\cE l[j]=i
 .obtain⟨j,c,a,b⟩:=d;have g:p≠j:=λe=>by
   subst e;rcases m with o|o
   .exact a o
   .exact o b
  have k:j<(l.set p s).length:=by rw[Xx];exact c
  have e:(l.set p s)[j]=l[j]:=by rw[fE,Wa g]
  rw[Qz h c a b,Qz f k (by rw[e];exact a) (by rw[e];exact b),e]
 .rw[KB h (λj c a b=>d ⟨j,c,a,b⟩)];refine KB f λj c a b=>?_;have q:j<l.length:=by rw[Xx]at c;exact c
  rw[fE]at a b;by_cases e:p=j
  .subst e;rw[Wb rfl]at a b;rcases n with z|z
   .exact a z
   .exact z b
  .rw[Wa e]at a b;exact d ⟨j,q,a,b⟩
theorem CZ(h:SlOk l)(j:0<=k/\k<=7)(s:0<=v/\v<=65535):WE (kN l k v) i=if i=k then v+1 else WE l i:=by
 have d:=Dk h j s;obtain⟨B,t⟩:=ZE j s;have c:∀p:Nat,p<l.length->(l[p]?=some 0\/∃y,l[p]?=some y/\cE y=k)->kN l k v=l.set p (1+65536*k+v)->WE (kN l k v) i=if i=k then v+1 else WE l i:=λp m n e=>by
  rw[e]at d|-;by_cases b:i=k
  .rw[Wb b];have w:p<(l.set p (1+65536*k+v)).length:=by rw[Xx];exact m
   have f:(l.set p (1+65536*k+v))[p]=1+65536*k+v:=List.getElem_set_self ..;rw[Qz d w (by rw[f];omega) (by rw[f,t,b]),f];omega
  .rw[Wa b];refine ZT h d m ?_ (.inr (by rw[t];exactλz=>b z.symm));rw[Xq m]at n;rcases n with o|⟨y,o,q⟩
   .left;injection o
   .right;injection o with o;rw[o,q];exactλz=>b z.symm
 cases a:ik l k with
 |some r=>
  obtain⟨C,g,x,A,u,_⟩:=rJ h a;exact c r.1 C (.inr ⟨r.2,by rw[Xq C,g],u⟩) (by unfold kN;rw[a])
 |none=>
  obtain⟨C,g,_⟩:=PH h j a;exact c _ C (.inl (by rw[Xq C,g])) (by unfold kN;rw[a])
theorem Gq(h:SlOk l):WE (sc l k) i=if i=k then 0 else WE l i:=by
 have d:=PQ (k:=k) h;unfold sc at d|-;cases a:ik l k with
 |none=>
  simp only;by_cases c:i=k
  .rw[Wb c,c];unfold WE;rw[a]
  .rw[Wa c]
 |some r=>
  rw[a]at d;simp only at d|-;obtain⟨g,m,q,s,n,_⟩:=rJ h a;by_cases c:i=k
  .rw[Wb c];refine KB d λj o t b=>?_;have p:j<l.length:=by rw[Xx]at o;exact o
   rw[fE]at t b;by_cases e:r.1=j
   .rw[Wb e]at t;exact t rfl
   .rw[Wa e]at t b;rcases D4 r.1 j with f|f|f
    .exact Wh (by rw[m,n,b,c]) (h.one r.1 j g p f Ω t)
    .exact e f
    .exact Wh (by rw[m,n,b,c]) (h.one j r.1 p g f t Ω)
  .rw[Wa c];exact ZT h d g (.inr (by rw[m,n];exactλz=>c z.symm)) (.inl rfl)
theorem WsU:WE (Xp 16 0) i=0:=KB JQ λj b a=>Wh (List.getElem_replicate ..) a
theorem UK:∀(m) (j) (l),j+m.length<=8->(∀x∈m,0<=x/\x<=65536)->SlOk l->(∀i:Nat,j<=i->WE l (i:Int)=0)->∀i:Nat,i<j+m.length->WE (uz m j l) (i:Int)=if i<j then WE l (i:Int)else m.getD (i-j) 0
 | [],j,l,_,_,_,_,i,a=>by rw[uz,Wb (by simpa using a)]
 |x::m,j,l,n,f,h,g,i,a=>by
  rw[Xv]at n a;have q:=f x (Xg ..);have b:∀r:Nat,WE (if x>0 then kN l (j:Int) (x-1)else l) (r:Int)=if r=j then x else WE l (r:Int):=λr=>by
   by_cases d:x>0
   .rw[Wb d,CZ h Ω Ω];by_cases e:r=j
    .rw[Wb Ω,Wb e];omega
    .rw[Wa Ω,Wa e]
   .rw[Wa d];by_cases e:r=j
    .rw[Wb e,g r Ω];omega
    .rw[Wa e]
  have k:SlOk (if x>0 then kN l (j:Int) (x-1)else l):=by
   split
   .exact Dk h Ω Ω
   .exact h
  rw[uz,UK m (j+1) _ Ω (λy o=>f y (Xe _ o)) k (λr p=>by rw[b,Wa Ω];exact g r Ω) i Ω];by_cases e:i<j
  .rw[Wb Ω,Wb e,b,Wa Ω]
  .rw[Wa e];by_cases c:i=j
   .rw[Wb Ω,b,Wb c,c,Nat.sub_self];rfl
   .rw[Wa Ω,show i-j=(i-(j+1))+1 by omega];rfl
theorem Wty{m}(b:m.length=8)(c:∀x∈m,0<=x/\x<=65536){i:Nat}(a:i<8):WE (DT m) (i:Int)=m.getD i 0:=by
 have:=UK m 0 (Xp 16 0) Ω c JQ (λ_ _=>WsU) i Ω;rw[Wa Ω]at this;exact this
theorem WuF{N}(h:SlOk l)(e:1048576<N):FW N l=ret ((bJ 8).map λi:Nat=>WE l (i:Int)):=by
 unfold FW;rw[Gf h e];simp only[ret,Xd,Xu,Wc];have u:∀(A j n:Nat) (o:List Int),j+A=8->A<n->o=(bJ j).map (λi:Nat=>WE l (i:Int))->
   yP N l (λv w f=>(some ((),(f,())))) n (j:Int) o=(some ((),((bJ 8).map λi:Nat=>WE l (i:Int),())):Option (Unit×(List Int×Unit))):=by
  intro A
  induction A with
  |zero=>
   intro j n o r s c;obtain⟨n,rfl⟩:∃a,n=a+1:=⟨n-1,Ω⟩;have:j=8:=Ω
   subst this;rw[yP,show decide (((8:Nat):Int)<8)=false from rfl,Wc,c]
  |succ A ih=>
   intro j n o r s c;obtain⟨n,rfl⟩:∃a,n=a+1:=⟨n-1,Ω⟩;have m:decide ((j:Int)<8)=true:=Wf Ω;have q:=IZ (k:=(j:Int)) h Ω e;have y:=Dd l (j:Int);have g:∀x:Int,WH (o.length+ [x].length)=true:=λx=>Ww (by rw[c];simp;omega);simp only[yP,m,We,q,Xd,g,Wl (j:=j),eK];have d:∀x:Int,x=WE l (j:Int)->o++ [x]=(bJ (j+1)).map (λi:Nat=>WE l (i:Int)):=λx t=>by
    rw[c,t,List.range_succ,Xw];rfl
   by_cases b:WE l (j:Int)=0
   .rw[Wb b,Wj (show¬WE l (j:Int)≠0 fromλz=>z b),Wc];exact ih (j+1) n _ Ω Ω (d 0 b.symm)
   .rw[Wa b,Wf (show WE l (j:Int)≠0 from b),We];have p:Ws .i64 (WE l (j:Int) -1) 1=WE l (j:Int):=by rw[WB Λ];omega
    rw[p];exact ih (j+1) n _ Ω Ω (d _ rfl)
 exact u 8 0 N [] Ω Ω rfl
end
section
section
variable{l:List Int}{k v i e:Int}{s:Shf}{u:Un}{S:List Int×Int}{o:Opn}{r:List Int}
def mpS(l:List Int):List Int:=(bJ 8).map λi:Nat=>WE l (i:Int)
def shS(s:Shf):List Int×Int:=(mpS s.1,s.2)
theorem K8:(mpS l).length=8:=by unfold mpS;simp
theorem RW{i}(h:i<(mpS l).length):(mpS l)[i]=WE l (i:Int):=by
 have:=eZ (λi:Nat=>WE l (i:Int)) (l:=bJ 8) (i:=i) (h:=h);rw[List.getElem_range]at this;exact this
theorem Wvp(h:0<=i/\i<=7):(mpS l).getD i.toNat 0=WE l i:=by
 rw[Wk (show i.toNat<(mpS l).length by rw[K8];omega),RW,show((i.toNat:Nat):Int)=i by omega]
theorem JZ(l)(i):0<=WE l i/\WE l i<=65536:=by
 grind [WE]
theorem WuG(h:0<=k/\k<=7){a}(b:∀i,WE a i=if i=k then e else WE l i):mpS a=(mpS l).set k.toNat e:=by
 refine D6 (by rw[Xx,K8,K8]) λi c d=>?_;rw[fE,RW,b];by_cases f:(i:Int)=k
 .rw[Wb f,Wb Ω]
 .rw[Wa f,Wa Ω,RW]
theorem WA3(h:SlOk l)(a:0<=k/\k<=7)(b:0<=v/\v<=65535):mpS (kN l k v)=(mpS l).set k.toNat (v+1):=WuG a λi=>CZ h a b
theorem Wze(h:SlOk l)(a:0<=k/\k<=7):mpS (sc l k)=(mpS l).set k.toNat 0:=WuG a λi=>Gq h
def jj(S:List Int×Int)(u:Un):List Int×Int:=
 if u.1=1 then(S.1.set u.2.1.toNat (u.2.2+1),S.2)else if u.1=2 then(S.1.set u.2.1.toNat 0,S.2)else if u.1=3 then(S.1,(S.2-u.2.2+65536)%65536)else S
def la(S:List Int×Int)(l:List Un):List Int×Int:=l.foldr (λu S=>jj S u) S
theorem XX{l}:la S (l++ [u])=la (jj S u) l:=by simp[la,List.foldr_append]
theorem WAF(h:ShOk s)(d:UnV u):shS (gL s u)=jj (shS s) u:=by
 unfold gL jj shS;rcases d with⟨a,b,c⟩|⟨a,b,c⟩|⟨a,b,c⟩
 .rw[Wb a,Wb a];simp only;rw[WA3 h.Q b c]
 .rw[Wa Ω,Wb a,Wa Ω,Wb a];simp only;rw[Wze h.Q b]
 simp_all
theorem ZI{z}(c:0<=e)(h:S.1.getD k.toNat 0=e)(d:0<=k/\k<=7)(f:S.1.length=8):jj (S.1.set k.toNat z,S.2) (jX k e)=S/\(jX k e).1≠0:=by
 have b:S.1.set k.toNat e=S.1:=by
  grind [Wk,jt]
 unfold jX jj;by_cases a:e=0
 .rw[Wb a];refine⟨?_,Δ⟩;rw[Wa Δ,Wb rfl];show((S.1.set k.toNat z).set k.toNat 0,S.2)=S;rw[mz,<-a,b]
 simp_all
end
section
variable{R:Type}{N:Nat}{f:Kaf->Kab->Ki->Ki->Kg->Option Ky}{d:List Opn}{g:List (List Opn)}{h:List Int}{j:Int}{k i:List Int}{a:Ka6 R}{b:Ka4 R}
 {n e:Nat} {r c:List Int} {mk:List M7} {s:Shf}
end
end
section
def eb(x:Kd):Int:=if x.g=0 then 75-3*x.k-(if x.L=true then x.E.2.1 else 0)else 0
def hJ(x:Kd):Int:=if x.g=3 then 0 else if x.g=2 then 25-x.pos else 26
structure KT(f:Fm)(k:Nat)(x:Kd):Prop where
 E:x.L=true->x.E.2.1=1\/x.E.2.1=2
 T:f.Ep=(k:Int)+1↔x.g=2
 M:x.Ew=f.K->∀e∈x.M,oY f.buf e.1=e.2.2
inductive KO (f:Fm) (k:Nat) (x:Kd):Fm×Kd->Prop
 |Ey {q:Fm×Kd}:q.1.Ey=true->KO f k x q
 |run {y:Kd}:x.g=0->y.Ew=x.Ew->(y.g=0\/y.g=1)->eb y<eb x->(y.L=true->y.E.2.1=1\/y.E.2.1=2)->
   (x.Ew=f.K->∀e∈y.M,oY f.buf e.1=e.2.2)->KO f k x (f,y)
 |again:x.g=0->x.Ew<f.K->KO f k x (f,f.again x)
 |fail:x.g=2->x.Ew<f.K->KO f k x ({f with Ep:=0},f.again x)
 |ask:x.g=1->f.Ep=0->KO f k x ({f with Ep:=(k:Int)+1},{x with g:=2})
 |wait:x.g=1->f.Ep≠0->KO f k x (f,x)
 |look:x.g=2->x.pos<x.M.length->KO f k x (f,{x with pos:=x.pos+1})
 |merge:x.g=2->KO f k x (dr f x k)
 |done:x.g=3->KO f k x (f,x)
variable{b:List Opn}{a:List (List Opn)}{n:Int}{f:Fm}{x:Kd}{m:Mm}{k:Nat}{o:Opn}
theorem Rj{a}{p}(h:0<=p.2.1/\p.2.1<=2):(WU m a p).2.1=4\/(WU m a p).2.1=p.2.1+1:=by
 unfold WU
 grind
theorem WBm(u:FOk a n f)(h:KOk b f.K n x)(g:x.g=0)(j:KT f k x)(C:x.k+1<=24):KO f k x (c3 m f x o):=by
 have s:eb x=75-3*x.k-(if x.L=true then x.E.2.1 else 0):=by unfold eb;rw[Wb g]
 have D:0<=(if x.L=true then x.E.2.1 else 0)/\(if x.L=true then x.E.2.1 else 0)<=2:=by
  split
  .have:=j.E ‹_›;omega
  .omega
 have q:∀y:Kd,y.g=0->y.k=x.k+1->y.L=x.L->y.E=x.E->eb y<eb x:=λy E F c d=>by
  unfold eb;grind
 unfold c3;cases bf x.A o.2.2.1 with
 |some v=>exact .run g rfl (.inl g) (q _ g rfl rfl rfl) j.E j.M
 |none=>
  simp only;cases he:ent f.buf o.2.2.1 with
  |some r=>
   simp only;have z:=m4 he;have B:=List.mem_of_getElem? z.2.2.2;split
   .exact .again g (by have:=(u.bufE _ B).2.2;omega)
   .refine .run g rfl (.inl g) (q _ g rfl rfl rfl) j.E λl e i=>?_;rcases Xo.1 i with i|i
    .exact j.M l e i
    simp_all [dq,eq_of_beq,oY]
  |none=>
   simp only;have w:0<=(if x.L=true then x.E else(o.2.2.1,0,0,0)).2.1/\(if x.L=true then x.E else(o.2.2.1,0,0,0)).2.1<=2:=by
    grind
   have A:(if x.L=true then x.E else(o.2.2.1,0,0,0)).2.1=(if x.L=true then x.E.2.1 else 0):=by split<;>rfl
   have l:=Rj (m:=m) (a:=f.u) w;rw[A]at l;generalize WU m f.u (if x.L=true then x.E else(o.2.2.1,0,0,0))=p at*;split
   .exact .Ey rfl
   .split
    .refine .run g rfl (.inl g) ?_ (λh=>by cases h) λt e i=>?_
     .rw[s];show(if x.g=0 then 75-3*(x.k+1) -0 else 0)<_;omega
     .rcases Xo.1 i with i|i
      .exact j.M t e i
      grind [dq,oY]
    .refine .run g rfl (.inl g) ?_ (λ_=>Θ) j.M;rw[s];show(if x.g=0 then 75-3*x.k-p.2.1 else 0)<_;omega
theorem WCx(p:KC b)(I:FOk a n f)(h:KOk b f.K n x)(e:x.g=0)(g:KT f k x):KO f k x (eI m f x b):=by
 have r:=p.toCC;have A:=r.len;have K:eb x=75-3*x.k-(if x.L=true then x.E.2.1 else 0):=by unfold eb;rw[Wb e]
 have L:0<=(if x.L=true then x.E.2.1 else 0)/\(if x.L=true then x.E.2.1 else 0)<=2:=by
  split
  .have:=g.E ‹_›;omega
  .omega
 have z:=h.k;have t:∀y:Kd,y.g=1->eb y<eb x:=λy O=>by unfold eb at*;omega
 have o:∀y:Kd,y.g=0->x.k+1<=y.k->y.L=x.L->y.E=x.E->eb y<eb x:=λy O P c d=>by
  unfold eb;grind
 unfold eI;split
 .exact .run e rfl (.inr rfl) (t _ rfl) g.E g.M
 .obtain⟨i,v,u,w⟩:=jV (l:=b) h.k.1 Ω;simp only[w];have s:=h.m e;rw[u,Xf]at s;split
  .grind [WBm]
  .split
   .unfold pu;split
    .exact .run e rfl (.inr rfl) (t _ rfl) g.E g.M
    .obtain⟨j,q,y,C,D,E,⟨J,H⟩,N,B,M,F,G⟩:=xQ (d:=((0,0,[]):KM)) r Ω s.Z ‹_›;refine .run e rfl (.inl e) (o _ e ?_ rfl rfl) g.E g.M;simp_all
   .split
    .exact .run e rfl (.inl e) (o _ e (Xt _) rfl rfl) g.E g.M
    .split
     .have hk:=pM (p.ok i v).1 ‹_›;refine .run e rfl (.inl e) (o _ e ?_ rfl rfl) g.E g.M;show x.k+1<=(if ac x.t b[i].2.1 0=0 then x.k+b[i].2.2.1 else x.k)+1;split<;>omega
     .split
      .exact .run e rfl (.inl e) (o _ e (Xt _) rfl rfl) g.E g.M
      .split
       .exact .run e rfl (.inl e) (o _ e (Xt _) rfl rfl) g.E g.M
       .exact .run e rfl (.inl e) (o _ e (Xt _) rfl rfl) g.E g.M
theorem Wuw(g:KC b)(i:FOk a n f)(h:KOk b f.K n x)(d:KT f k x):KO f k x (bn m f x k b):=by
 have e:=h.g;unfold bn;split
 .grind [WCx]
 .split
  .split
   .exact .ask ‹_› ‹_›
   .exact .wait ‹_› ‹_›
  .split
   .split
    .exact .merge ‹_›
    .have hp:=h.pos;have l:x.pos<x.M.length:=Ω
     simp only;split
     .exact .look ‹_› l
     .rename_i ar;refine .fail ‹_› ?_;have j:=h.Ew;by_cases p:x.Ew=f.K
      .exfalso;apply ar;have c:ac x.M x.pos (0,0,0)=x.M[x.pos.toNat]'Ω:=Wk Ω _;rw[c];exact d.M p _ (Xm _)
      .omega
   .exact .done Ω
end
section
def cd(x:Kd):Int:=if x.g=3 then 0 else 1
def eV(c:Int)(x:Kd):Int:=if x.g≠3/\x.Ew<c then 1 else 0
def cy(c:Int)(x:Kd):Int:=hJ x+26*eV c x
def bF(g:Kd->Int)(l:List Kd):Int:=(l.map g).sum
def tri(u:Int):Int:=if u<=1 then 0 else if u=2 then 1 else 3
def dY(f:Fm):Int:=bF cd f.κ
def fQ(f:Fm):Int:=bF (cy f.K) f.κ+26*tri (dY f)
def fP(f:Fm)(x:Kd):Int:=eb x+75*(eV f.K x+(dY f-1))
theorem qg{g}{y}:∀{l} {k} (h),bF g (l.set k y)=bF g l-g l[k]+g y
 |x::l,0,h=>by simp[bF];omega
 |x::l,k+1,h=>by
  have:=qg (g:=g) (y:=y) (l:=l) (k:=k) Θ
  grind [bF]
def Hh{g h}:∀{l},(∀x∈l,g x<=h x)->bF g l<=bF h l
 | [],_=>by simp[bF]
 |x::l,hl=>by
  have:=Hh (l:=l) λy a=>hl y (Xe _ a)
  grind [Xg,bF]
def Qi{g h}{a}:∀{l},bF (λx=>g x+a*h x) l=bF g l+a*bF h l
 | []=>by simp[bF]
 |x::l=>by
  have:=Qi (g:=g) (h:=h) (a:=a) (l:=l)
  grind [bF,Int.mul_add]
def WxT(x):0<=cd x/\cd x<=1:=by unfold cd;split<;>omega
def rM(c)(x):0<=eV c x/\eV c x<=cd x:=by
 unfold eV cd;omega
def K7(f):0<=dY f/\dY f<=f.κ.length:=by
 unfold dY;have:∀l:List Kd,0<=bF cd l/\bF cd l<=l.length:=λl=>by
  induction l with
  |nil=>simp[bF]
  |cons x l ih=>
   have:=WxT x
   grind [bF,Xv]
 simp_all
def Gy{b}{c n}{x}(h:KOk b c n x)(g:b.length<=24):0<=hJ x/\hJ x<=26/\(x.g=2->1<=hJ x/\hJ x<=25)/\((x.g=0\/x.g=1)->hJ x=26):=by
 have d:=h.pos;have e:=h.sl;have a:=h.k;grind [hJ]
def Qu{b}{c n}{x}(h:KOk b c n x)(d:b.length<=24)(e:x.L=true->x.E.2.1=1\/x.E.2.1=2):0<=eb x/\eb x<=75/\(x.g=0->1<=eb x):=by
 have a:=h.k
 grind [eb]
structure KD(f:Fm)(k:Nat)(q:Fm×Kd):Prop where
 le:fQ (Fm.put q k)<=fQ f
 p:∀(j:Nat) (h:j<f.κ.length) (h':j<(Fm.put q k).κ.length),cd (Fm.put q k).κ[j]=1->fP (Fm.put q k) (Fm.put q k).κ[j]<=fP f f.κ[j]/\cd f.κ[j]=1
variable{a:List (List Opn)}{n:Int}{f:Fm}{x y:Kd}{k:Nat}{q:Fm×Kd}{b:List Opn}
theorem DE(h:k<f.κ.length)(a:q.1.κ=f.κ){j}(hj)(h'):(Fm.put q k).κ[j]=if k=j then q.2 else f.κ[j]:=by
 show(q.1.κ.set k q.2)[j]=_
 grind
theorem As(hk)(a:q.1.κ=f.κ)(e:q.1.K=f.K)(p:cd q.2=cd f.κ[k])(o:cy f.K q.2<=cy f.K f.κ[k])(n:cd q.2=1->eb q.2+75*eV f.K q.2<=eb f.κ[k]+75*eV f.K f.κ[k]):
  KD f k q/\dY (Fm.put q k)=dY f/\fQ (Fm.put q k)=fQ f-cy f.K f.κ[k]+cy f.K q.2:=by
 have l:(Fm.put q k).κ=f.κ.set k q.2:=by show q.1.κ.set k q.2=_;rw[a]
 have m:(Fm.put q k).K=f.K:=e;have b:dY (Fm.put q k)=dY f:=by grind [dY,qg]
 have c:fQ (Fm.put q k)=fQ f-cy f.K f.κ[k]+cy f.K q.2:=by grind [fQ,qg]
 refine⟨⟨Ω,λj h d i=>?_⟩,b,c⟩;have g:=DE hk a h d;rw[g]at i|-;unfold fP
 grind
end
section
structure KE(f:Fm)(k:Nat)(x:Kd)(q:Fm×Kd):Prop where
 d:KD f k q
 s0:x.g=0->cd q.2=1->fP (Fm.put q k) q.2<fP f x
 s2:x.g=2->fQ (Fm.put q k)<fQ f
 s1:x.g=1->f.Ep=0->fQ (Fm.put q k)<fQ f
 T:q.1.Ep=f.Ep\/q.1.Ep=0\/(q.1.Ep=(k:Int)+1/\x.g=1/\f.Ep=0)
 κ:q.1.κ=f.κ
 kt:∀(j:Nat) (h:j<(Fm.put q k).κ.length),KT (Fm.put q k) j (Fm.put q k).κ[j]
variable{l:List (List Opn)}{n:Int}{f:Fm}{x y:Kd}{k:Nat}{q:Fm×Kd}{a:List Opn}{m:Mm}
theorem Ll(h:q.1.κ=f.κ):(Fm.put q k).κ.length=f.κ.length:=by show(q.1.κ.set k q.2).length=_;rw[h,Xx]
theorem Ae(o:k<f.κ.length)(l:∀(j) (h),KT f j f.κ[j])(i:q.1.κ=f.κ)(n:q.1.K=f.K)(m:q.1.buf=f.buf)(p:∀j:Nat,j≠k->(q.1.Ep=(j:Int)+1↔f.Ep=(j:Int)+1))(c:KT q.1 k q.2):
  ∀(j) (h),KT (Fm.put q k) j (Fm.put q k).κ[j]:=λj h=>by
 have d:j<f.κ.length:=by grind [Ll]
 rw[DE o i d h];by_cases a:k=j
 .subst a;rw[Wb rfl];exact⟨c.E,c.T,c.M⟩
 .rw[Wa a];have b:=l j d;refine⟨b.E,?_,λr e g=>?_⟩
  .show q.1.Ep=(j:Int)+1↔_;rw[p j (λh=>a h.symm)];exact b.T
  .show oY q.1.buf e.1=e.2.2;rw[m];exact b.M (r.trans n) e g
theorem ux(h:x.g≠3):cd x=1:=by unfold cd;rw[Wa h]
theorem QG(h:x.g≠3)(b:y.g≠3)(a:y.Ew=x.Ew)(c):eV c y=eV c x:=by
 simp_all [eV,Wb,Wa]
theorem CT:eV f.K (f.again x)=0:=by unfold eV Fm.again;simp
theorem Pe:eb (f.again x)=75:=by unfold eb Fm.again;simp
theorem OY:hJ (f.again x)=26:=by unfold hJ Fm.again;simp
theorem Wuj(h:x.g≠3)(a:x.Ew<f.K):eV f.K x=1:=by unfold eV;rw[Wb ⟨h,a⟩]
theorem YH{c}:∀{l},bF (cy (c+1)) l<=bF (cy c) l+26*bF cd l:=λ{l}=>by
 have d:bF (cy (c+1)) l<=bF (λx=>cy c x+26*cd x) l:=Hh λx _=>by
  have a:=rM (c+1) x;have b:=rM c x;unfold cy;omega
 simp_all [Qi]
theorem Wye{u}(h:1<=u/\u<=3):tri u=tri (u-1)+(u-1):=by
 unfold tri;have:u=1\/u=2\/u=3:=Ω
 rcases this with rfl|rfl|rfl<;>decide
theorem Tz(hk)(h3:f.κ.length<=3)(hl:∀c∈l,c.length<=24)(D:FOk l n f)(m:∀(j) (h),KT f j f.κ[j])(r:f.κ[k]=x)(S:KO f k x q):
  q.1.Ey=true\/KE f k x q:=by
 have H:(l.getD k []).length<=24:=by
  have cI:k<l.length:=by rw[<-D.len];exact hk
  simp_all
 have B:=D.kid k hk;rw[r]at B;have g:=m k hk;rw[r]at g;obtain⟨c1,c2,I,O⟩:=Gy B H;obtain⟨l1,l2,l3⟩:=Qu B H g.E;have AZ:=rM f.K x;cases S with
 |Ey h=>grind
 |run A p T ab R wQ=>
  rename_i y;refine .inr ?_;have E:y.g≠3:=Ω
  have d:x.g≠3:=Ω
  have G:=QG d E p f.K;have N:hJ y=26:=by unfold hJ;rw[Wa E,Wa Ω]
  obtain⟨i,s,v⟩:=As (q:=(f,y)) hk rfl rfl (by grind [ux]) (by grind [cy]) (λ_=>Θ);refine⟨i,λ_ _=>?_,λh=>Ω,λh=>Ω,.inl rfl,rfl,Ae hk m rfl rfl rfl (λ_ _=>Iff.rfl) ⟨R,?_,λh=>wQ (p▸h)⟩⟩
  .unfold fP;rw[s];show eb y+75*(eV f.K y+_)<_;omega
  .show f.Ep=(k:Int)+1↔y.g=2;rw[g.T];omega
 |again A p=>
  refine .inr ?_;have d:x.g≠3:=Ω
  have X:=Wuj d p;obtain⟨i,s,v⟩:=As (q:=(f,f.again x)) hk rfl rfl (by rw[r];rw[ux d];exact ux (by show(0:Int)≠3;omega)) (by grind [cy,CT,OY]) (λ_=>by grind [eb,eV,CT,Pe]);refine⟨i,λ_ _=>?_,λh=>Ω,λh=>Ω,.inl rfl,rfl,Ae hk m rfl rfl rfl (λ_ _=>Iff.rfl) ⟨(λh=>by cases h),?_,(λh e t=>by cases t)⟩⟩
  .unfold fP;rw[s];show eb (f.again x)+75*(eV f.K (f.again x)+_)<_
   grind [CT,Pe]
  .show f.Ep=(k:Int)+1↔(0:Int)=2;rw[g.T];omega
 |fail h2 p=>
  refine .inr ?_;have d:x.g≠3:=Ω
  have X:=Wuj d p;have c:=I h2;obtain⟨i,s,v⟩:=As (q:=({f with Ep:=0},f.again x)) hk rfl rfl (by rw[r];rw[ux d];exact ux (by show(0:Int)≠3;omega)) (by grind [cy,CT,OY]) (λ_=>by grind [eb,eV,CT,Pe]);have W:=g.T.2 h2;refine⟨i,λh=>Ω,λ_=>?_,λh=>Ω,.inr (.inl rfl),rfl,Ae hk m rfl rfl rfl (λj o=>?_) ⟨(λh=>by cases h),?_,(λh e t=>by cases t)⟩⟩
  .grind [fQ,cy,CT,OY]
  .grind
  .show(0:Int)=(k:Int)+1↔(0:Int)=2;omega
 |ask w A=>
  refine .inr ?_;have d:x.g≠3:=Ω
  have G:eV f.K ({x with g:=2}:Kd)=eV f.K x:=QG (x:=x) (y:={x with g:=2}) d Ψ rfl _;have T:=B.pos;have N:hJ ({x with g:=2}:Kd)=25-x.pos:=rfl;have Du:=O (.inr w);have U:eb ({x with g:=2}:Kd)=0:=rfl;obtain⟨i,s,v⟩:=As (q:=({f with Ep:=(k:Int)+1},{x with g:=2})) hk rfl rfl (by grind [ux]) (by grind [cy]) (λ_=>Θ);refine⟨i,λh=>Ω,λh=>Ω,λ_ _=>?_,.inr (.inr ⟨rfl,w,A⟩),rfl,Ae hk m rfl rfl rfl (λj o=>?_) ⟨g.E,?_,g.M⟩⟩
  .grind [fQ,cy]
  .grind
  simp_all
 |wait w A=>
  refine .inr ?_;have d:x.g≠3:=Ω
  obtain⟨i,s,v⟩:=As (q:=(f,x)) hk rfl rfl (by rw[r]) Ψ (λ_=>Ψ);exact⟨i,λh=>Ω,λh=>Ω,λ_ h=>Wh h A,.inl rfl,rfl,Ae hk m rfl rfl rfl (λ_ _=>Iff.rfl) g⟩
 |done eO=>
  refine .inr ?_;obtain⟨i,s,v⟩:=As (q:=(f,x)) hk rfl rfl (by rw[r]) Ψ (λ_=>Ψ);exact⟨i,λh=>Ω,λh=>Ω,λh=>Ω,.inl rfl,rfl,Ae hk m rfl rfl rfl (λ_ _=>Iff.rfl) g⟩
 |look h2 ab=>
  refine .inr ?_;have d:x.g≠3:=Ω
  have G:eV f.K ({x with pos:=x.pos+1}:Kd)=eV f.K x:=QG d d rfl _;have N:hJ ({x with pos:=x.pos+1}:Kd)=hJ x-1:=by
   unfold hJ
   grind
  have U:eb ({x with pos:=x.pos+1}:Kd)=eb x:=rfl;obtain⟨i,s,v⟩:=As (q:=(f,{x with pos:=x.pos+1})) hk rfl rfl (by rw[r];rfl) (by grind [cy]) (λ_=>Ψ);refine⟨i,λh=>Ω,λ_=>?_,λh=>Ω,.inl rfl,rfl,Ae hk m rfl rfl rfl (λ_ _=>Iff.rfl) ⟨g.E,g.T,g.M⟩⟩
  grind [fQ,cy]
 |merge h2=>
  refine .inr ?_;have d:x.g≠3:=Ω
  have c:=I h2;obtain⟨z,L⟩:∃z,z=(dr f x k).2:=⟨_,rfl⟩;have z3:z.g=3:=by rw[L];rfl
  have V:cd z=0:=by unfold cd;rw[Wb z3]
  have Z:=ux d;have P:(Fm.put (dr f x k) k).κ=f.κ.set k z:=by rw[L];rfl
  have J:(Fm.put (dr f x k) k).K=f.K+1:=rfl;have C:dY (Fm.put (dr f x k) k)=dY f-1:=by grind [dY,qg]
  have M:cy (f.K+1) z=0:=by simp_all [cy,hJ,eV,Wb,Wa]
  have Dv:=K7 f;have zC:=K7 (Fm.put (dr f x k) k);rw[C]at zC;have K:fQ (Fm.put (dr f x k) k)<fQ f:=by
   unfold fQ;rw[P,J,C,qg hk,M,r];have Dw:=YH (c:=f.K) (l:=f.κ);have w:=YH (c:=f.K) (l:=f.κ.set k z);rw[qg hk,qg hk,qg hk,r,M,V,Z]at w;have Y:cy f.K z=0:=by simp_all [cy,hJ,eV,Wb,Wa]
   rw[Y]at w;have sJ:=Wye (u:=dY f) Ω;have nJ:1<=cy f.K x:=by unfold cy;omega
   have fj:bF cd f.κ=dY f:=rfl;omega
  refine⟨⟨Int.le_of_lt K,λj h Q o=>?_⟩,λh=>Ω,λ_=>K,λh=>Ω,.inr (.inl rfl),rfl,λj h=>?_⟩
  .have hg:=DE (q:=dr f x k) hk rfl h Q;rw[hg]at o|-;by_cases t:k=j
   .simp_all
   .rw[Wa t]at o|-;refine⟨?_,o⟩;unfold fP;rw[J,C];have a:=rM (f.K+1) f.κ[j];have b:=rM f.K f.κ[j];omega
  .have o:j<f.κ.length:=by rw[Ll (q:=dr f x k) rfl]at h;exact h
   rw[DE (q:=dr f x k) hk rfl o h];have W:=g.T.2 h2;by_cases t:k=j
   .subst t;rw[Wb rfl];refine⟨g.E,?_,λp=>?_⟩
    .show(0:Int)=(k:Int)+1↔(3:Int)=2;omega
    .have:=B.Ew;change x.Ew=f.K+1 at p;omega
   .rw[Wa t];have F:=m j o;refine⟨F.E,?_,λp=>?_⟩
    .show(0:Int)=(j:Int)+1↔_;rw[<-F.T];omega
    .have:=(D.kid j o).Ew;omega
end
section
def kK(m:Mm)(o:List (List Opn)):Nat->Nat->Fm->Fm
 |0,_,f=>f
 |d+1,i,f=>kK m o d (i+1) (aC m f i (o.getD i []))
structure FmR(f:Fm)(i:Nat)(g:Fm):Prop where
 len:g.κ.length=f.κ.length
 le:fQ g<=fQ f
 kt:∀(j:Nat) (h:j<g.κ.length),KT g j g.κ[j]
 p:∀(j:Nat) (h:j<f.κ.length) (h':j<g.κ.length),cd g.κ[j]=1->cd f.κ[j]=1/\fP g g.κ[j]<=fP f f.κ[j]/\
  (i<=j->fP g g.κ[j]+fQ g<fP f f.κ[j]+fQ f\/(f.κ[j].g=1/\∃k:Nat,k<i/\f.Ep=(k:Int)+1))
 chk:∀(k:Nat) (h:k<f.κ.length),i<=k->f.κ[k].g=2->fQ g<fQ f
variable{o:List (List Opn)}{n:Int}{f g:Fm}{m:Mm}{k:Nat}
theorem Pm{a}(h:f.Ey=true):aC m f k a=f:=by unfold aC;rw[Wb h]
theorem I7:∀(d i) (f),f.Ey=true->kK m o d i f=f
 |0,_,_,_=>rfl
 |d+1,i,f,h=>by rw[kK,Pm h];exact I7 d (i+1) f h
theorem Wu2(U:W4 m=true)(z:∀c∈o,KC c)(H:o.length<=3):∀(d i) (n) (f),i+d=o.length->FOk o n f->(∀(j) (h),KT f j f.κ[j])->
  (kK m o d i f).Ey=true\/FmR f i (kK m o d i f)
 |0,i,n,f,T,b,r=>.inr ⟨rfl,Xt _,r,λj h G v=>⟨v,Xt _,λW=>by have:=b.len;omega⟩,λk h Y=>by have:=b.len;omega⟩
 |d+1,i,n,f,T,b,r=>by
  have aa:=b.len;have s:i<f.κ.length:=Ω
  have J:i<o.length:=Ω
  by_cases P:f.Ey=true
  .grind [I7]
  rw[kK];have E:o.getD i []=o[i]:=Wk J _;have B:=z _ (Xm J);have g:=b.kid i s;rw[E]at g;have V:=Wuw (m:=m) B b g (r i s);obtain hE:=Tz s Ω (λc S=>(z c S).toCC.len) b r rfl V;have M:aC m f i (o.getD i [])=Fm.put (bn m f f.κ[i] i o[i]) i:=by
   unfold aC;rw[Wa P,E,show f.κ.getD i {}=f.κ[i]from Wk s _]
  have t:FOk o (n+1) (aC m f i (o.getD i [])):=by
   grind [KG]
  rw[M]at t|-;rcases hE with hE|hE
  .grind [Fm.put,bn,I7]
  generalize bn m f f.κ[i] i o[i]=q at*;have Q:(Fm.put q i).κ.length=f.κ.length:=Ll hE.κ;have x:=λ(j:Nat) (v:j<f.κ.length)=>DE (q:=q) s hE.κ v Ω;have K:(Fm.put q i).Ep=q.1.Ep:=rfl;rcases Wu2 U z H d (i+1) (n+1) (Fm.put q i) Ω t hE.kt with a|a
  .grind
  right;refine⟨a.len.trans Q,EF a.le hE.d.le,a.kt,λj h G v=>?_,λk h Y R=>?_⟩
  .have A4:j<(Fm.put q i).κ.length:=Ω
   obtain⟨y,D,L⟩:=a.p j A4 G v;obtain⟨F,O⟩:=hE.d.p j h A4 y;refine⟨O,EF D F,λW=>?_⟩;have aO:=a.le;have ui:=hE.d.le;by_cases u:i=j
   .subst u;have l:=x i h;rw[Wb rfl]at l;rw[l]at y D F;have bN:=g.g;have ic:f.κ[i].g≠3:=λH=>by simp_all [cd,Wb]
    by_cases p0:f.κ[i].g=0
    .have:=hE.s0 p0 y;left;omega
    by_cases p2:f.κ[i].g=2
    .have:=hE.s2 p2;left;omega
    have C:f.κ[i].g=1:=Ω
    by_cases Z:f.Ep=0
    .have:=hE.s1 C Z;left;omega
    have tH:=b.Ep;obtain⟨k,w⟩:∃k:Nat,f.Ep=(k:Int)+1:=⟨(f.Ep-1).toNat,Ω⟩;by_cases X:k<i
    .grind
    have I:k<f.κ.length:=Ω
    have fH:=(r k I).T.1 w;have N:k≠i:=λe=>Ψ
    have xJ:=x k I;rw[Wa (λe=>N e.symm)]at xJ;have:=a.chk k Ω Ω Ψ;left;omega
   .have l:=x j h;rw[Wa u]at l;rcases L Ω with ab|⟨C,k,oQ,w⟩
    .left;omega
    .rw[l]at C;rw[K]at w;rcases hE.T with A|A|⟨A,p,qa0⟩
     .rw[A]at w;by_cases X:k<i
      .grind
      .have:k=i:=Ω
       subst this;have:=hE.s2 ((r k s).T.1 w);left;omega
     .omega
     .have:=hE.s1 p qa0;left;omega
  .by_cases u:i=k
   .subst u;exact Int.lt_of_le_of_lt a.le (hE.s2 R)
   .have l:=x k h;rw[Wa u]at l;exact Int.lt_of_lt_of_le (a.chk k Ω Ω Ψ) hE.d.le
end
section
variable{N:Nat}{w:Wo}{k:Nat}{x:Rt}{o:Opn}{p:Pg}{n:Int}{a:List Opn}
theorem RLive.mk24(b:CC p.1)(h:RLive p n x)(c:x.m.length≠0):∃(m:Nat) (q:List RM),x.m=q++ [x.last]/\x.last.1=(m:Int)/\(∃s:m<p.1.length,p.1[m].1=8)/\(m:Int)<x.k/\Mate p.1 m (kR p.1 m)/\x.k<=kR p.1 m/\stk p.1 m=(stk p.1 x.k.toNat).dropLast/\x.m.dropLast=q/\
  Vals 4 x.last.2.2.2.2/\(0<=x.last.2.1/\x.last.2.1<=x.last.1+72*frk p.1 x.last.1.toNat/\x.last.2.1<=x.o.length)/\(0<=x.last.2.2.1/\x.last.2.2.1<=x.last.1+8/\x.last.2.2.1<=x.A.length)/\0<=x.last.2.2.2.1/\x.last.2.2.2.1<=x.last.1/\x.last.2.2.2.1<=x.y.length:=by
 have t:=h.k;obtain⟨m,q,y,e,a,f,g,i,j,k,l,o⟩:=xQ (d:=zRM) b Ω h.m.Z c;have r:x.last=y:=a;have u:=h.m.I y Θ
 grind
theorem WuO(hk)(j:w.c[k]=x)(L:k<=8)(h:CC p.1)(o:RLive p n x)(I:∀u∈x.y,UnV u)(H:ShOk w.D)(G:HOk w.a)(l:1048576<N):
  Mh N w.e (k:Int) p.1=some (((Wo.put (fV w x k p.1) k).e,()),()):=by
 obtain⟨W,E,t,F,X⟩:=woG hk j;obtain⟨b,r1,r2,r3,r4,r5,r6,r7,r8,lZ,lD,Y,K,z,J,mD,mE,Z,l0,mF,mG,mH⟩:=rtP x;obtain⟨z1,z2,z3,z4,O,P⟩:=o.sz h;have Q:=h.len;unfold Mh fV;simp only[Wm];rw[show P5 w.e=w.c.map Rt.e from rfl,F,E];simp only[We,WJ,z,Wi];by_cases g:x.m.length=0
 .rw[Wb Ω,Wb g,t,Yh hk j L G o.u O P l];rfl
 .rw[Wa Ω,Wa g,ZJ g Ω];simp only[Xd,J,jP];obtain⟨m,q,R,D,⟨i,y⟩,S,r,T,U,V,s,lF,oL,sL,nL,pJ⟩:=o.mk24 h g;by_cases f:(x.y.length:Int)>x.last.2.2.2.1
  .rw[Wb f,Wb f,t,Xf,QX hk j Ω Ω I H l];rfl
  .rw[Wa f,Wa f];simp only[K,z];obtain⟨a,e,c,d⟩:=GM g Ω zRM;have C:(decide ((0:Int)<=ah .i64 (x.m.length:Int) 1)&&decide (ah .i64 (x.m.length:Int) 1<=(x.m.length:Int)))=true:=d;have B:bM (Xb (ah .i64 (x.m.length:Int) 1)) x.m=x.m.dropLast:=c;rw[C,B,rK (by rw[s.len];omega),D,d8,Wf i];have M:Xc p.1 (Xb ((m:Nat):Int)) ((0,0,0,0):Opn)=opN p.1 (m:Int):=rfl;have v:=CI (h.ok m i).1 y;rw[<-uQ i]at v;simp only[We,ret,Xd,M];rw[d7 v s.len];have A:(decide ((0:Int)<=x.last.2.2.1)&&decide (x.last.2.2.1<=(x.A.length:Int)))=true:=Φ
   rw[A];simp only[We];rw[C0 Θ,Vn Ω l ⟨i,y⟩ r];simp only[ret,Xd];rw[gC (by have:=r.len;omega),Xf];exact bU rfl rfl rfl
theorem WwJ(hk)(j:w.c[k]=x)(M:k<=8)(f:CC p.1)(a:RLive p n x)(h:aj o=true)(c:12<=o.1)(q:ShOk w.D)(g:HOk w.a)(d:1048576<N):
  Ij N w.e (k:Int) o=some (((Wo.put (eN w x k o) k).e,()),()):=by
 obtain⟨y,l,z,m,A⟩:=woG hk j;obtain⟨O,P,Q,t,R,S,T,U,V,G,s,C,D,B,r,H,I,E,F,J,K,L⟩:=rtP x;obtain⟨X,Y,Z,z4,z5,z6⟩:=a.sz f;have W:=Qf g;have u:=a.k;have v:=f.len;have i:(0<=(WO o).1/\(WO o).1<=8)/\1<=(WO o).2/\(WO o).2<=2:=by
  grind [WO,qy,jg,u3,u5,kE,D2]
 unfold Ij eN;simp only[Wm,C8];rw[show P5 w.e=w.c.map Rt.e from rfl,m,l,gC Ω,WmX h c,show P4 w.e=w.a from rfl,show w.e.2.2.2.1=w.D from rfl];simp only[We,Xd,Wkh g (Ω:1<=(k:Int)+1/\(k:Int)+1<=9) i.1 i.2 Ω d,t,s,r,OT a.Ez];cases ha:fN w.a ((k:Int)+1) (WO o).1 (WO o).2 with
 |none=>
  exact bU rfl rfl rfl
 |some dP=>
  simp only[Option.isSome_some,Xu,Wc,Option.getD_some,Xf,Wke q a.t h c d,Xd,wP];rw[gC Ω,Ww Φ];by_cases b:(WN w.D o x.t).2.2.1=0
  .rw[Wb b,Wb b];exact bU rfl rfl rfl
  .rw[Wa b,Wa b];exact bU rfl rfl rfl
theorem WAE(hk)(t:w.c[k]=x)(L:k<=8)(P:POk p)(g:RLive p n x)(hu:∀u∈x.y,UnV u)(Z:W4 w.i=true)(R:ShOk w.D)(J:HOk w.a)(r:1048576<N):
  Ir N w.e (k:Int) p=some (((Wo.put (am w x k p) k).e,()),()):=by
 obtain⟨g1,W,X,Y,g5⟩:=woG hk t;obtain⟨b,r1,r2,r3,r4,r5,r6,r7,r8,lZ,lD,kb,kd,kO,kP,mD,mE,ke,l0,mF,mG,mH⟩:=rtP x;have f:=P.Y;obtain⟨z1,z2,z3,z4,z5,z6⟩:=g.sz f;have S:=g.k;have bQ:=f.len;have I:=g.t.len;unfold Ir am;simp only[Wm];rw[show P5 w.e=w.c.map Rt.e from rfl,Y,W,X];simp only[We,r3,r4,lD,kb,kd,kO,kP,jP,WJ,show Wi p.1=(p.1.length:Int)from rfl];by_cases H:x.k>=p.1.length
 .rw[Wb H,Wb H,Yh hk t L J g.u z5 z6 r];rfl
 .rw[Wa H,Wa H];obtain⟨j,O,ej,V⟩:=jV (l:=p.1) S.1 Ω;have zh:Xc p.1 (Xb x.k) ((0,0,0,0):Opn)=opN p.1 x.k:=rfl;have U:inb x.k p.1.length=true:=by grind [d8,decide_eq_true]
  rw[U];obtain⟨s,M,mn⟩:=f.ok j O;simp only[We,zh];rw[<-V]at s M mn;rw[gC (Ω:0<=x.k/\x.k<=1000000)];have vN:(opN p.1 x.k).1=9->x.m.length≠0:=λi G=>by
   have h1:=Wq Xa g.m.Z;have h2:=gZ f.up j Ω;have h3:=f.up j O
   grind [iw,u2,Xf]
  generalize opN p.1 x.k=o at*;have zu:o.1>=12->Ij N w.e (k:Int) o=some (((Wo.put (eN w x k o) k).e,()),()):=λv=>WwJ hk t L f g s v R J r;by_cases y:o.1=5
  .rw[Wb y,Wb y,Xf,WyM hk t f g Z y s r];rfl
  .rw[Wa y,Wa y];by_cases C:o.1=10
   .rw[Wb C,Wb C,WuO hk t L f g hu R J r];rfl
   .rw[Wa C,Wa C];by_cases D:o.1=11
    .rw[Wb D,Wb D,show Wi p.2=((p.2.length:Nat):Int)from rfl,Wlr Ω Ω P.k3 r,Xf];exact bU rfl rfl rfl
    .rw[Wa D,Wa D];by_cases v:o.1>=12
     .rw[Wb v];have B:=zu v;have:o.1=12\/o.1=13\/o.1=14\/o.1=15\/o.1=16:=Ω
      rcases this with h|h|h|h|h
      .rw[Wb h,Wb h,B];rfl
      .rw[Wa Ω,Wb h,Wb h,B];rfl
      .rw[Wa Ω,Wa Ω,Wb h,Wb h,B];rfl
      .rw[Wa Ω,Wa Ω,Wa Ω,Wb h,Wb h,B];rfl
      .rw[Wa Ω,Wa Ω,Wa Ω,Wa Ω,Wb h,B];rfl
     .rw[Wa v,Wa (show¬o.1=12 by omega),Wa (show¬o.1=13 by omega),Wa (show¬o.1=14 by omega),Wa (show¬o.1=15 by omega),Wa (show¬o.1=16 by omega)];by_cases z:o.1=6
      .rw[Wb z,Wb z,d7 (CH s z).2 I,Ww Φ,Xf];exact bU rfl rfl rfl
      .rw[Wa z,Wa z];by_cases A:o.1=7
       .rw[Wb A,Wb A];have h:=pM s A;rw[d7 h.1 I,WB (a:=x.k) (b:=o.2.2.1) Λ,gC (a:=x.k+o.2.2.1) Ω,Xf];by_cases F:Xc x.t (Xb o.2.1) 0=0
        .rw[Wb F,Wb (show ac x.t o.2.1 0=0 from F)];exact bU rfl rfl rfl
        .rw[Wa F,Wa (show¬ac x.t o.2.1 0=0 from F)];exact bU rfl rfl rfl
       .rw[Wa A,Wa A];by_cases E:o.1=8
        .rw[Wb E,Wb E,rK Ω];simp only[ret,Xd];rw[Ww Φ,Xf];exact bU rfl rfl rfl
        .rw[Wa E,Wa E];by_cases i:o.1=9
         .rw[Wb i,Wb i];have G:=vN i;obtain⟨a,e,c,d⟩:=GM G Ω zRM;obtain⟨m,q,e1,T,⟨K,jT⟩,e4,e5,e6,e7,e8,e9,lF,oL,sL,nL,pJ⟩:=g.mk24 f G;rw[X8 G Ω];simp only[Xd];rw[d,c,T,d8,Wf K];have M:Xc p.1 (Xb ((m:Nat):Int)) ((0,0,0,0):Opn)=opN p.1 (m:Int):=rfl;have Q:=CI (f.ok m K).1 jT;rw[<-uQ K]at Q;simp only[We,M];rw[d7 Q I,Xf];exact bU rfl rfl rfl
         .rw[Wa i,Wa i,OS r s Ω Ω g.t,Xf];exact bU rfl rfl rfl
theorem WxX(hk)(m:w.c[k]=x)(K:w.c.length<=8)(J:1048576<N):
  EX N w.e (k:Int)=some (((Wo.put (gH w x k) k).e,()),()):=by
 obtain⟨G,v,H,y,I⟩:=woG hk m;have D:=ZV hk m;have u:(w.c.map Rt.e).length=w.c.length:=Δ
 unfold EX;rw[show P5 w.e=w.c.map Rt.e from rfl,y,v,gC Ω,Xf];simp only[We,wP,WJ,jP,show w.e.2.1=w.N from rfl,show x.e.2.1=x.G from rfl,show w.e.1=w.j from rfl,show w.e.2.2.1.1=w.i.1 from rfl];have E:∀(a:Bool->Int->Bool->Option ((Y_World×Unit)×Unit)) (d j n:Nat) (g:Bool),j+d=w.c.length->d<n->
   sQ N (k:Int) k (Wi (w.c.map Rt.e)) w.j w.N w.i.1 w.e.2.2.2.1.2 (w.c.map Rt.e) w.e.2.2.1.2 w.e.2.2.2.1.1 (P4 w.e) (Q6 w.e) a n g (j:Int)=a (g&&lA k (w.c.drop j) j) (w.c.length:Int) false:=by
  intro a d
  induction d with
  |zero=>
   intro j n g A B;obtain⟨n,rfl⟩:∃b,n=b+1:=⟨n-1,Ω⟩;have:j=(w.c.map Rt.e).length:=Ω
   rw[sQ,this,W0 (Xj _),u,p6];simp[lA]
  |succ d ih=>
   intro j n g A B;obtain⟨n,rfl⟩:∃b,n=b+1:=⟨n-1,Ω⟩;have l:j<(w.c.map Rt.e).length:=Ω
   have s:j<w.c.length:=Ω
   rw[sQ];simp only[WM l,Wp l,Wu l,Wl (j:=j),We,ih (j+1) n _ Ω Ω,eZ];rw[List.drop_eq_getElem_cons s,lA];have C:(Rt.e w.c[j]).1=w.c[j].g:=rfl;rw[C];simp only[WJ];cases g with
   |false=>simp
   |true=>
    by_cases p:j=k
    .rw[Wb Ω,Wf p];simp
    .rw[Wa Ω,Wj p];by_cases i:w.c[j].g=0
     .rw[Wb i,Wf i];simp
     .rw[Wa i,Wj i];have:(w.c[j].g==8)=decide (w.c[j].g=8):=by
       by_cases z:w.c[j].g=8<;>simp[z]
      rw[this];simp
 refine(E _ w.c.length 0 N true Ω Ω).trans ?_;unfold gH;have t:some ((S5 (Xi (w.c.map Rt.e) k ((1:Int),(x.G,((0:Int),((0:Int),(w.i.1,((0:Int),((0:Int),((0:Int),((0:Int),(w.j,((0:Int),(false,(Xp (Xb (4:Int)) (0:Int),(([]:List Kf),(([]:List Kf),(([]:List Kl),(([]:List Kb),(([]:List Int),(false,(((0:Int),((0:Int),((0:Int),(0:Int)))),(((0:Int),((0:Int),((0:Int),((0:Int),((0:Int),(([]:List Kf),([]:List Int))))))),d_Family)))))))))))))))))))))) w.e,()),())=some (((Wo.put (w,{g:=1,G:=x.G,u:=w.i.1,EA:=w.j,t:=[0,0,0,0]}) k).e,()),()):=bU (c:={g:=1,G:=x.G,u:=w.i.1,EA:=w.j,t:=[0,0,0,0]}) (b:=w) rfl rfl rfl;have F:some (((w.j,((k:Int)+1,w.e.2.2)),()),())=some (((Wo.put ({w with N:=(k:Int)+1},x) k).e,()),()):=by
  have:Wo.put ({w with N:=(k:Int)+1},x) k={w with N:=(k:Int)+1}:=by unfold Wo.put;simp only;rw[<-m,jt]
  rw[this];rfl
 have r:(((decide ((0:Int)<=(4:Int)))&&(decide ((4:Int)<=(4:Int))))&&(WH (Xb (4:Int))))=true:=rfl;have o:some ((w.e,()),())=some (((Wo.put (w,x) k).e,()),()):=by rw[D]
 rw[r];simp only[We,t];by_cases c:w.N=0
 .rw[Wb c];rw[Wa (show¬(w.N≠0/\w.N≠(k:Int)+1) by omega)];by_cases e:x.G>=3
  .rw[Wb e,Wb c,Wb ⟨e,c⟩];exact F
  .rw[Wa e,Wa (show¬w.N=(k:Int)+1 by omega),Wa (λh=>e h.1),Wa Ω]
 .rw[Wa c];by_cases f:w.N=(k:Int)+1
  .rw[Wb f,Wa (show¬(w.N≠0/\w.N≠(k:Int)+1) by omega),Wa (show¬(x.G>=3/\w.N=0) by omega)];have q:∀L:Bool,(bif !L then some ((w.e,()),())else some (((Wo.put (w,{g:=1,G:=x.G,u:=w.i.1,EA:=w.j,t:=[0,0,0,0]}) k).e,()),()))=some (((Wo.put (if w.N=(k:Int)+1/\L=false then(w,x)else(w,{g:=1,G:=x.G,u:=w.i.1,EA:=w.j,t:=[0,0,0,0]})) k).e,()),()):=λL=>by
    cases L with
    |false=>rw[Wb ⟨f,rfl⟩];exact o
    |true=>rw[Wa Δ];rfl
   by_cases e:x.G>=3
   .rw[Wb e,Wa c,Wb f];exact q _
   .rw[Wa e,Wb f];exact q _
  .rw[Wa f,Wb ⟨c,f⟩];exact o
theorem Wy7(d:POk p)(f:RLive p n x)(j:x.g=2)(c:1048576<N):Is N x.e=some (((ch x).e,()),()):=by
 obtain⟨I,J,K,s,L,M,O,P,Q,F,E,l,C,A,B,G,H,D,m,o,q,r⟩:=rtP x;have g:=d.Y;obtain⟨S,T,U,V,W,X⟩:=f.sz g;obtain⟨v,w,a⟩:=f.V j;have t:=f.k;have u:=g.len;have h:x.n.κ.length<=3:=by have:=a.len;have:=d.k3;omega
 have R:=a.len3 d.k3;have z:=a.readsL;unfold Is ch;simp only[s,l,m,o,q,r,De,Xd];rw[Wpp h c,WnB a.t h (λy k=>by
  obtain⟨i,b,rfl⟩:=List.getElem_of_mem k;rw[(a.kid i b).t.len];omega) c,Wpk (by have:=a.buf8;omega) c,Ww Ω,rK Ω,gC Ω,K2]
 by_cases e:x.n.Ey=true
 .rw[Wb e,Wb e]
 .rw[Wa e,Wa e];simp only[ret,Xd,We];cases ho:ig x.n
  .rfl
  .rfl
theorem WtO(hk)(o:w.c[k]=x)(y:POk p)(c:RLive p n x)(g:x.g=4)(v:W4 w.i=true):
  Ie N w.e k=some (((Wo.put (w,W6 w x) k).e,()),()):=by
 obtain⟨t,P,Q,R,S⟩:=woG hk o;obtain⟨b,r1,r2,r3,C,D,E,r7,r8,lZ,Z,A,B,V,W,mD,mE,X,Y,mF,mG,mH⟩:=rtP x;have f:=y.Y;obtain⟨z1,z2,z3,z4,z5,z6⟩:=c.sz f;have i:=c.back (.inr g);obtain⟨m,q,H,I,⟨U,T⟩,J,K,L,M,O,r,lF,oL,sL,nL,pJ⟩:=c.mk24 f i;have G:=c.pos g;have F:=f.len;unfold Ie W6;simp only[Wm];rw[show P5 w.e=w.c.map Rt.e from rfl,t,ZJ i Ω];simp only[Xd,C,D,E,A,B,jP,De,show w.e.2.2.1.2=w.i.2 from rfl];by_cases d:x.pos<x.last.2.1
 .rw[Wb d,Wb d];have h:x.pos.toNat<x.o.length:=Ω
  have s:inb x.pos x.o.length=true:=by unfold inb;simp;omega
  have u:Xc x.o (Xb x.pos) ((0:Int),(0:Int))=ac x.o x.pos (0,0):=rfl;have z:0<=(ac x.o x.pos (0,0)).1/\(ac x.o x.pos (0,0)).1<=7:=by
   unfold ac;rw[Wk h];exact(c.o _ (Xm h)).1
  rw[s,u,Dz v z,show Xc w.i.2 (Xb (ac x.o x.pos (0,0)).1) ((0:Int),((0:Int),(0:Int)))=Wy w.i (ac x.o x.pos (0,0)).1 from rfl,gC Ω];simp only[We,wP];by_cases a:(Wy w.i (ac x.o x.pos (0,0)).1).2.2=0
  .rw[Wb a];by_cases e:(Wy w.i (ac x.o x.pos (0,0)).1).2.1>x.u
   .rw[Wb e,Wb (.inr e)];exact bU rfl rfl rfl
   .rw[Wa e,Wa Ω];exact bU rfl rfl rfl
  .rw[Wa a,Wb (.inl a)];exact bU rfl rfl rfl
 .rw[Wa d,Wa d];have j:(decide ((0:Int)<=x.last.2.1)&&decide (x.last.2.1<=(x.o.length:Int)))=true:=Φ
  have l:(decide ((0:Int)<=x.last.2.2.1)&&decide (x.last.2.2.1<=(x.A.length:Int)))=true:=Φ
  rw[j,l,C0 (by rw[gv];omega),C0 (by rw[gv];omega),rK (by rw[r.len];omega),gC Ω];simp only[We,ret,Xd];exact bU rfl rfl rfl
theorem WsX(hk)(q:w.c[k]=x)(S:k<=8)(n:CmOk x.l)(p:W4 w.i=true)(F:w.C.length<=500000)(o:1048576<N):
  If N w.e (k:Int)=some (((Wo.put (W7 w x k) k).e,()),()):=by
 obtain⟨C,r,D,s,E⟩:=woG hk q;obtain⟨T,U,V,W,X,Y,Z,B,r8,z,L,I,J,G,H,M,O,y,K,P,Q,R⟩:=rtP x;have m:=Yi n p;unfold If W7;simp only[Wm,C8];rw[show P5 w.e=w.c.map Rt.e from rfl,s,r,gC Ω,Xf];simp only[We,B,z,y,show w.e.2.2.1=w.i from rfl,show Q6 w.e=w.C from rfl];rw[K2];by_cases l:x.U=true
 .rw[Wb l,Wb l];obtain⟨b,u⟩:=Wv1 (N:=N) n o;rw[u];simp only[Xd,WJ,show(WY x.l).e.2.2.1=(WY x.l).g from rfl];by_cases c:(WY x.l).g=8
  .rw[Wb c,Wb c];have:S20 (WY x.l).e (S11 false x.e)=Rt.e {x with l:=WY x.l,U:=false}:=rfl;rw[this,De];exact bU rfl rfl rfl
  .rw[Wa c,Wa c];exact bU rfl rfl rfl
 .rw[Wa l,Wa l,Wpz n p o];simp only[Xd];obtain⟨d,a,v⟩:∃d a,Wv w.i x.l=(d,a):=⟨_,_,rfl⟩;rw[v]at m|-;simp only at m|-;have A:ry N (P5 a.e)=ret a.w:=C0 (by have:=m.1.plen;show a.w.length<=1048576;omega);have t:S20 a.e x.e=Rt.e {x with l:=a}:=rfl;rw[A,t,De];simp only[ret,Xd];rw[Ww Φ];simp only[We,WJ,jP,show a.e.2.2.1=a.g from rfl,show(Cm.e x.l).2.2.1=x.l.g from rfl,show P4 a.e=a.F from rfl];unfold cX;simp only;by_cases i:x.l.g<=3
  .rw[Wb i];by_cases j:a.g=4
   .rw[Wb j,Wa Ω,Wa Ω,Wb (show x.l.g<=3/\a.g=4 from⟨i,j⟩),Wa Ω,Wa Ω];exact bU (b:={w with i:=d,C:=w.C++ [(a.F,(k:Int)+1,a.w)]}) rfl rfl rfl
   .rw[Wa j,Wa (show¬(x.l.g<=3/\a.g=4)fromλh=>j h.2)];by_cases c:a.g=8
    .rw[Wb c,Wb c];exact bU (b:={w with i:=d}) rfl rfl rfl
    .rw[Wa c,Wa c];by_cases g:a.g=6
     .rw[Wb g,Wb g];by_cases f:x.H=2
      .rw[Wb f,Wb f];exact bU (b:={w with i:=d}) rfl rfl rfl
      .rw[Wa f,Wa f];exact bU (b:={w with i:=d}) rfl rfl rfl
     .rw[Wa g,Wa g];exact bU (b:={w with i:=d}) rfl rfl rfl
  .rw[Wa i,Wa (show¬(x.l.g<=3/\a.g=4)fromλh=>i h.1)];by_cases c:a.g=8
   .rw[Wb c,Wb c];exact bU (b:={w with i:=d}) rfl rfl rfl
   .rw[Wa c,Wa c];by_cases g:a.g=6
    .rw[Wb g,Wb g];by_cases f:x.H=2
     .rw[Wb f,Wb f];exact bU (b:={w with i:=d}) rfl rfl rfl
     .rw[Wa f,Wa f];exact bU (b:={w with i:=d}) rfl rfl rfl
    .rw[Wa g,Wa g];exact bU (b:={w with i:=d}) rfl rfl rfl
end
section
section
variable{a:List Opn}{b v g e f tI h tJ:Nat}{c q:List RM}{y:RM}{n d:Int}{x:Rt}{w:Wo}{p:Pg}{k:Nat}{o:Opn}
theorem GP(a){c b}(h:c<=b):frk a c<=frk a b:=by
 simp_all [frk,List.Sublist.countP_le,List.take_sublist_take_left]
theorem RMk.mono(z:RMk a b c g e f)(t:stk a v=stk a b)(u:g<=tI)(i:e<=h)(j:f<=tJ):RMk a v c tI h tJ:=
 ⟨by rw[t];exact z.Z,λq s=>by obtain⟨l,m,r,d⟩:=z.I q s;grind,z.up⟩
theorem RMk.cut(A:RMk a b c g e f)(d:c=q++ [y])(k:y.2.1<=tI)(l:y.2.2.1<=h)(m:y.2.2.2.1<=tJ):RMk a b c tI h tJ:=by
 refine⟨A.Z,λr s=>?_,A.up⟩;obtain⟨v,z,i,j⟩:=A.I r s;have u:r.2.1<=y.2.1/\r.2.2.1<=y.2.2.1/\r.2.2.2.1<=y.2.2.2.1:=by
  have t:=A.up;rw[d]at s t;rcases Xo.1 s with s|s
  .exact(dZ.1 t).2.2 r s y Δ
  simp_all
 grind
theorem RMk.begin(h:RMk a b c g e f)(hp)(d:a[b].1=8){u}(o:Vals 4 u)(k:g<=b+72*frk a b)(l:e<=b+8)(m:f<=b):
  RMk a (b+1) (c++ [((b:Int),(g:Int),(e:Int),(f:Int),u)]) g e f:=by
 refine⟨?_,?_,?_⟩
 .rw[ss hp d,Xw,Xw,h.Z];rfl
 .intro q t;rcases Xo.1 t with t|t
  .exact h.I q t
  grind
 .refine dZ.2 ⟨h.up,List.pairwise_singleton _ _,λr v s n=>?_⟩;obtain⟨z,A,i,j⟩:=h.I r v;simp_all
theorem RMk.drop(z:RMk a b c g e f)(m:c=q++ [y])(j:stk a v=(stk a b).dropLast)(d:y.2.1<=tI)(t:y.2.2.1<=h)(u:y.2.2.2.1<=tJ):RMk a v q tI h tJ:=by
 have r:=z.cut m d t u;subst m;have s:=z.Z;refine⟨?_,λl i=>r.I l (List.mem_append_left _ i),(dZ.1 z.up).1⟩
 grind
theorem RLive.wk(h:RLive p n x)(e:n<=d):RLive p d x:={h with V:=λf=>by obtain⟨a,b,c⟩:=h.V f;exact⟨a,b,c.wk e⟩}
theorem ROk.wk(h:ROk p n x)(b:n<=d):ROk p d x:={h with G:=by have:=h.G;omega,Ev:=λa=>(h.Ev a).wk b}
theorem RLive.on(j:CC p.1)(h:RLive p n x)(m:x.g=1){i}(t:i<p.1.length)(f:x.k=i){u}{ξ θ}{μ}{π}{Eu}{pb}{v}
  (r:v<=p.1.length) (g:i<v) (e:Vals 4 u) (c:bT ξ) (l:ξ.length<=x.o.length+1) (b:bT θ) (s:θ.length<=x.A.length+1) (k:π.length<=x.y.length+1) (q:RMk p.1 v μ ξ.length θ.length π.length) (d:Eu=true->jn pb=true):
  RLive p n {x with t:=u,o:=ξ,A:=θ,m:=μ,y:=π,L:=Eu,E:=pb,k:=(v:Int)} where
 k:=Ψ
 Ez:=h.Ez
 u:=h.u
 t:=e
 o:=c
 rl:=by
  have a:=h.rl;have o:=GP p.1 (Ω:i<=v)
  grind
 A:=b
 wl:=by have:=h.wl;grind
 ul:=by have:=h.ul;grind
 m:=Ψ
 E:=d
 V:=λa=>Ψ
 back:=λa=>Ψ
 EC:=h.EC
 pos:=λa=>Ψ
 unw:=λa=>Ψ
theorem Vals.le4{r}(h:Vals 4 r):r.length<=4:=Nat.le_of_eq h.len
theorem Dn(h:ROk p n x):ROk p n (dE x) where
 g:=by show(0:Int)<=6/\(6:Int)<=8;omega
 G:=h.G
 Ev:=λh=>by(change (1:Int)<=6/\(6:Int)<=4 at h;omega)
 R:=λh=>by(change (6:Int)=5 at h;omega)
 y:=h.y
 ul:=h.ul
 rg:=by show([]:List Int).length<=4;simp
 ord:=by show([]:List Int).length<=3;simp
theorem UG(h:ROk p n x)(a:RLive p n x):ROk p n (WA x):=by
 unfold WA;split
 .exact Dn h
 .exact{h with
   g:=Ψ
   Ev:=λ_=>{a with
    Ez:=by have:=a.Ez;grind
    E:=λh=>by cases h
    V:=λh=>Ψ
    back:=λ_=>Ψ
    pos:=λh=>Ψ
    unw:=λh=>Ψ}
   R:=λh=>Ψ}
structure QOk(p:Pg)(n:Int)(w:Wo)(q:Wo×Rt):Prop where
 x:ROk p n q.2
 i:W4 q.1.i=true
 D:ShOk q.1.D
 a:HOk q.1.a
 C:q.1.C.length<=w.C.length+1
 histE:∀h∈q.1.C,h∈w.C\/HE h
 c:q.1.c=w.c
 j:q.1.j=w.j
structure GOk(w:Wo):Prop where
 i:W4 w.i=true
 D:ShOk w.D
 a:HOk w.a
theorem GOk.st(h:GOk w){y}(b:ROk p n y):QOk p n w (w,y):=⟨b,h.i,h.D,h.a,Δ,λ_ a=>.inl a,rfl,rfl⟩
theorem GOk.qt(h:GOk w){y}(b:ROk p n y)(t):QOk p n w ({w with N:=t},y):=⟨b,h.i,h.D,h.a,Δ,λ_ a=>.inl a,rfl,rfl⟩
theorem Wwe(h:GOk w)(b:ROk p n x):QOk p n w (gi w x k):=by
 refine h.qt ?_ _;exact{b with
  g:=Ψ
  Ev:=λh=>Ψ
  R:=λh=>Ψ
  y:=λu a=>by cases a
  ul:=Δ}
theorem Yl(h:GOk w)(a:ROk p n x)(b:0<=x.u/\x.u<=1000000)(d:k<=8){out}:QOk p n w (W9 w x k out):=by
 unfold W9;simp only;generalize (if out=2 then []else x.A)=c;split
 .exact Wwe (x:={x with H:=out,ED:=x.u}) h
   {g:=a.g,G:=a.G,Ev:=λe=>{a.Ev e with},R:=a.R,y:=a.y,ul:=a.ul,rg:=a.rg,ord:=a.ord}
 .refine h.st ?_;exact{a with
   g:=Ψ
   Ev:=λh=>Ψ
   R:=λ_=>Qp Ω b}
theorem J4{a}{l}(h:l.length≠0)(d:a):eQ l d∈l:=by
 grind [eQ,Wk,Xm]
theorem QE(h:GOk w)(b:ROk p n x)(l:x.y.length≠0)(f:1<=x.g/\x.g<=4->CC p.1/\(x.m.length≠0->x.last.2.2.2.1<x.y.length)):QOk p n w (ez w x):=by
 unfold ez;refine⟨?_,h.i,Wtr h.D (b.y _ (J4 l _)),h.a,Δ,λ_ c=>.inl c,rfl,rfl⟩;have I:x.y.dropLast.length=x.y.length-1:=List.length_dropLast;exact{b with
  Ev:=λc=>by
   have a:=b.Ev c;obtain⟨g,s⟩:=f c;exact{a with
    ul:=by have:=a.ul;grind
    unw:=λj=>by have:=a.unw j;show(x.y.dropLast.length:Int)<=x.last.2.2.2.1;omega
    m:=by
     show RMk p.1 x.k.toNat x.m x.o.length x.A.length x.y.dropLast.length;by_cases e:x.m.length=0
     .have:=List.eq_nil_of_length_eq_zero e;have d:=a.m;rw[this]at d|-;exact⟨d.Z,(λq k=>by cases k),d.up⟩
     .obtain⟨m,q,i,t,⟨F,E⟩,v,y,z,A,B,C,o,r,J,G,H⟩:=a.mk24 g e;exact a.m.cut i o.2.2 r.2.2 Ω}
  y:=λu D=>b.y u (by grind [yj,lv])
  ul:=by have:=b.ul;grind}
theorem Wx2(e:CC p.1)(h:GOk w)(g:ROk p n x)(a:RLive p n x)(m:x.g=1){i}(b:i<p.1.length)(d:x.k=i)(t:p.1[i].1=5):ROk p n (dX w x p.1[i]):=by
 have z:=nh (e.ok i b).1 t;have u:0<=p.1[i].2.2.1/\p.1[i].2.2.1<=7:=by grind [cp]
 have f:=a.m;rw[d,Xf]at f;have j:=jZ b Ω Ω;have k:x.k+1=((i+1:Nat):Int):=Ω
 unfold dX;cases oI:bf x.A p.1[i].2.2.1 with
 |some v=>
  have q:=a.A _ (Px oI).2;simp only[k];exact{g with rg:=Vals.le4 (a.t.set _ q.2),Ev:=λ_=>RLive.on e a m b d Ω Ω (a.t.set _ q.2) a.o Ω a.A Ω Ω (f.mono j Ω Ω Ω) a.E}
 |none=>
  simp only;have l:=Yq (a:=x.u) h.i (Wxq a.E u);generalize WU w.i x.u (if x.L=true then x.E else(p.1[i].2.2.1,0,0,0))=A at*;have o:=Di.1 l.1;have s:RLive p n {x with L:=true,E:=A}:={a with E:=λ_=>l.1};have y:ROk p n {x with L:=true,E:=A}:={g with Ev:=λ_=>s};split
  .grind [UG]
  .split
   .simp only[k];refine{g with rg:=Vals.le4 (a.t.set _ o.2.2.2),Ev:=λ_=>RLive.on e a m b d Ω Ω (a.t.set _ o.2.2.2) (λr c=>?_) Δ a.A Ω Ω (f.mono j Δ Ω Ω) (λh=>by cases h)};rcases Xo.1 c with c|c
    .exact a.o r c
    simp_all
   omega
theorem WwS(c:CC p.1)(h:GOk w)(g:ROk p n x)(a:RLive p n x)(t:x.g=1)(u:k<=8){i}(b:i<p.1.length)(J:x.k=i):QOk p n w (fV w x k p.1):=by
 have f:=a.m;rw[J,Xf]at f;unfold fV;split
 .exact Yl h g a.u u
 .rename_i hz;obtain⟨m,q,j,l,⟨D,C⟩,z,d,A,o,s,e,E,G,I,F,H⟩:=a.mk24 c hz;split
  .grind [QE]
  .refine h.st ?_;rw[s];simp only[l,Xf,<-Int.natCast_succ];have y:=d.len;have B:(bM x.last.2.2.1.toNat x.A).length=x.last.2.2.1.toNat:=Ψ
   refine{g with rg:=Vals.le4 (e.set _ Ω),Ev:=λ_=>RLive.on c a t b J (v:=kR p.1 m+1) Ω Ω (e.set _ Ω) a.o Ω (λr v=>a.A r (lv v)) Ω Ω ?_ a.E};exact f.drop j (by rw[d.st,o,J];rfl) Ω Ω Ω
theorem Wvz(d:CC p.1)(h:GOk w)(f:ROk p n x)(a:RLive p n x)(m:x.g=1)(E:k<=8){i}(b:i<p.1.length)(g:x.k=i)(t:12<=p.1[i].1):QOk p n w (eN w x k p.1[i]):=by
 have z:=(d.ok i b).1;have j:=a.m;rw[g,Xf]at j;have l:=jZ b Ω Ω;have v:x.k+1=((i+1:Nat):Int):=Ω
 have D:=a.ul;have C:=d.len;have q:(0<=(WO p.1[i]).1/\(WO p.1[i]).1<=8)/\1<=(WO p.1[i]).2/\(WO p.1[i]).2<=2:=by
  grind [WO,qy,jg,u3,u5,kE,D2]
 unfold eN;cases F:fN w.a ((k:Int)+1) (WO p.1[i]).1 (WO p.1[i]).2 with
 |none=>exact h.st (UG f a)
 |some c=>
  have r:HOk c:=by
   unfold fN at F;split at F
   .injection F with F;subst F;exact Ws8 h.a Ω q.1 q.2 ‹_›
   .cases F
  obtain⟨s,G,A,B⟩:=Wtl h.D a.t z t;simp only[v];refine⟨?_,h.i,s,r,Δ,λ_ y=>.inl y,rfl,rfl⟩;by_cases o:(WN w.D p.1[i] x.t).2.2.1=0
  .simp only[Wb o];exact{f with rg:=Vals.le4 G,Ev:=λ_=>RLive.on d a m b g Ω Ω G a.o Ω a.A Ω Ω (j.mono l Ω Ω Ω) a.E}
  .simp only[Wa o];refine{f with rg:=Vals.le4 G,Ev:=λ_=>RLive.on d a m b g Ω Ω G a.o Ω a.A Ω Δ (j.mono l Ω Ω Δ) a.E,y:=λu e=>?_,ul:=Φ};rcases Xo.1 e with e|e
   .exact f.y u e
   simp_all
theorem WAa(E:POk p)(h:GOk w)(e:ROk p n x)(f:x.g=1)(t:k<=8)(C:0<=n):QOk p n w (am w x k p):=by
 have a:=e.Ev Ω;have c:=E.Y;unfold am;split
 .exact Yl h e a.u t
 .obtain⟨i,b,d,D⟩:=jV (l:=p.1) a.k.1 Ω;simp only[D];obtain⟨u,W,U⟩:=c.ok i b;have g:=a.m;rw[d,Xf]at g;have s:x.k+1=((i+1:Nat):Int):=Ω
  have B:=a.rl;have Q:=a.wl;have N:=a.ul;rw[d,Xf]at B;split
  .exact h.st (Wx2 c h e a f b d ‹_›)
  .split
   .grind [WwS]
   .split
    .refine h.st ?_;exact{e with
      g:=Ψ
      Ev:=λ_=>{a with
       V:=λ_=>⟨Ψ,Ψ,WvO a.t C⟩
       back:=λh=>Ψ
       pos:=λh=>Ψ
       unw:=λh=>Ψ}
      R:=λh=>Ψ}
    .split
     .grind [Wvz]
     .split
      .refine h.st ?_;have t:=CH u ‹_›;have o:=jZ b Ω Ω;simp only[s];refine{e with Ev:=λ_=>RLive.on c a f b d Ω Ω a.t a.o Ω (λr j=>?_) Δ Ω (g.mono o Ω Δ Ω) a.E};rcases Xo.1 j with j|j
       .exact a.A r j
       .rw[dq]at j;subst j;have:=t.1;unfold cp at this;exact⟨Ψ,a.t.get _⟩
      .split
       .refine h.st ?_;obtain⟨F,Z⟩:=c.sk i b ‹_›;have t:=pM u ‹_›;have o:=jZ b Ω Ω;have G:stk p.1 (i+1+p.1[i].2.2.1.toNat)=stk p.1 i:=by grind [QM]
        by_cases v:ac x.t p.1[i].2.1 0=0
        .simp only[Wb v,show x.k+p.1[i].2.2.1+1=((i+1+p.1[i].2.2.1.toNat:Nat):Int) by omega];exact{e with Ev:=λ_=>RLive.on c a f b d F Ω a.t a.o Ω a.A Ω Ω (g.mono G Ω Ω Ω) a.E}
        .simp only[Wa v,s];exact{e with Ev:=λ_=>RLive.on c a f b d Ω Ω a.t a.o Ω a.A Ω Ω (g.mono o Ω Ω Ω) a.E}
       .split
        .refine h.st ?_;simp only[s];rw[d];exact{e with Ev:=λ_=>RLive.on c a f b d Ω Ω a.t a.o Ω a.A Ω Ω (g.begin b ‹_› a.t Ω Ω Ω) a.E}
        .split
         .rename_i h9;refine h.st ?_;have y:x.m.length≠0:=λy=>by
           have f:=Wq Xa g.Z;have O:=gZ c.up i Ω;have P:=c.up i b
           grind [iw,u2]
          obtain⟨m,q,z,H,⟨S,R⟩,I,J,K,L,A,M,T,X,sL,V,Y⟩:=a.mk24 c y;simp only[s];rw[A];exact{e with rg:=Vals.le4 (a.t.set _ Ω),Ev:=λ_=>RLive.on c a f b d Ω Ω (a.t.set _ Ω) a.o Ω a.A Ω Ω (g.drop z (u9 b h9) Ω Ω Ω) a.E}
         .refine h.st ?_;have o:=jZ b Ω Ω;simp only[s];exact{e with rg:=Vals.le4 (GY u Ω Ω a.t),Ev:=λ_=>RLive.on c a f b d Ω Ω (GY u Ω Ω a.t) a.o Ω a.A Ω Ω (g.mono o Ω Ω Ω) a.E}
theorem Wy2(h:GOk w)(a:ROk p n x)(c:x.g=0)(f:0<=(p.1.length:Int)):QOk p n w (gH w x k):=by
 have d:=WK h.i;unfold gH;split
 .exact h.st a
 .split
  .exact h.qt a _
  .split
   .exact h.st a
   .refine h.st ?_;exact{
     g:=Ψ
     G:=a.G
     Ev:=λ_=>{
      k:=Ψ
      Ez:=Ψ
      u:=⟨d.2.1,d.2.2.1⟩
      t:=⟨rfl,λv g=>Ψ⟩
      o:=λr b=>by cases b
      rl:=Φ
      A:=λr b=>by cases b
      wl:=Δ
      ul:=Δ
      m:=⟨by simp[stk],(λq e=>by cases e),List.Pairwise.nil⟩
      E:=λh=>by cases h
      V:=λh=>Ψ
      back:=λh=>Ψ
      EC:=Ψ
      pos:=λh=>Ψ
      unw:=λh=>Ψ}
     R:=λh=>Ψ
     y:=λu c=>by cases c
     ul:=Δ
     rg:=Δ
     ord:=Δ}
theorem Wpm{a}{f}(h:FOk a n f):bT (m5 f)/\(m5 f).length<=8:=by
 refine⟨λr b=>?_,by unfold m5;rw[aP];exact h.buf8⟩;obtain⟨e,c,rfl⟩:=Xy.1 b;have:=h.bufE e c;omega
theorem Vz{a}{f}(h:FOk a n f)(c:a.length<=3):Vals 4 (rN f):=by
 have d:=h.len;have b:=h.t;unfold rN;rw[Wb ⟨nC.2 b,Ω⟩];refine⟨by simp[b.len];omega,λv g=>?_⟩;rcases Xo.1 g with g|g
 .obtain⟨y,e,rfl⟩:=Xy.1 g;unfold R3;split
  .rename_i hc;exact(nC.1 hc.2).get _
  .omega
 .exact b.val v (Xfn g)
theorem WxR(e:POk p)(f:ROk p n x)(v:x.g=2):ROk p n (ch x):=by
 have a:=f.Ev Ω;have g:=e.Y;obtain⟨u,j,b⟩:=a.V v;obtain⟨i,k,s,w⟩:=jV (l:=p.1) a.k.1 u;rw[w]at j;have d:=a.m;have t:=a.rl;have B:=a.ul;rw[s,Xf]at d t;unfold ch;split
 .exact Dn f
 .split
  .have hz:x.m= []:=by
    have C:=Wq Xa d.Z;have D:=gZ g.up i Ω;have E:=(g.fk i k j).1;simp_all
   have o:stk p.1 (i+1)=stk p.1 i:=jZ k Ω Ω;have m:=Wpm b;have z:=b.len3 e.k3;have A:=b.readsL;have F:frk p.1 (i+1)=frk p.1 i+1:=by grind [uA]
   exact{f with
    g:=Ψ
    rg:=(Vz b e.k3).le4
    ord:=z
    Ev:=λ_=>{a with
     k:=Θ
     t:=Vz b e.k3
     o:=λr c=>by
      rcases Xo.1 c with c|c
      .exact a.o r c
      .exact b.readsE r c
     rl:=by
      grind
     A:=m.1
     wl:=Θ
     ul:=Θ
     m:=by
      rw[show(x.k+1).toNat=i+1 by omega];rw[hz]at d|-;exact⟨by rw[o];exact d.Z,(λq y=>by cases y),List.Pairwise.nil⟩
     V:=λh=>Ψ
     back:=λh=>Ψ
     pos:=λh=>Ψ
     unw:=λh=>Ψ}
    R:=λh=>Ψ}
  .exact f
theorem WtF(c:POk p)(h:GOk w)(b:ROk p n x)(f:x.g=3):QOk p n w (fK w x):=by
 have a:=b.Ev Ω;have d:=a.back (.inl f);obtain⟨m,q,g,i,⟨u,t⟩,j,k,l,o,r,s,v,z,B,y,A⟩:=a.mk24 c.Y d;have e:=WK h.i;unfold fK;split
 .exact QE h b Ω λ_=>⟨c.Y,λ_=>Ω⟩
 .refine h.st ?_;exact{b with
   g:=Ψ
   Ev:=λ_=>{a with
    V:=λh=>Ψ
    back:=λ_=>d
    EC:=⟨e.2.1,e.2.2.1⟩
    pos:=λ_=>by(show(0:Int)<=0/\(0:Int)<=x.last.2.1;omega)
    unw:=λ_=>by(show(x.y.length:Int)<=x.last.2.2.2.1;omega)}
   R:=λh=>Ψ}
theorem WsZ(s:POk p)(h:GOk w)(b:ROk p n x)(d:x.g=4):ROk p n (W6 w x):=by
 have a:=b.Ev Ω;have u:=a.back (.inr d);have C:=a.pos d;obtain⟨m,q,f,l,⟨y,v⟩,D,E,F,o,G,g,I,K,L,J,z⟩:=a.mk24 s.Y u;unfold W6;split
 .simp only;split
  .exact Dn b
  .exact{b with Ev:=λ_=>{a with pos:=λ_=>by(show 0<=x.pos+1/\x.pos+1<=x.last.2.1;omega)}}
 .have aG:stk p.1 (m+1)=stk p.1 x.k.toNat:=by
   rw[ss y v,o];rcases tV (stk p.1 x.k.toNat)with H|⟨t,j,i⟩
   .have h1:=Wq Xa a.m.Z;simp_all
   .have h1:=a.m.Z;rw[f,i]at h1;simp only[Xw,bo,d6]at h1;have c:=(List.append_inj' h1 rfl).2;injection c with c;rw[l]at c;rw[i,List.dropLast_concat,show m=j by omega]
  have M:=GP p.1 (Ω:m<=m+1);have k:x.last.1+1=((m+1:Nat):Int):=Ω
  have A:(bM x.last.2.1.toNat x.o).length=x.last.2.1.toNat:=Ψ
  have B:(bM x.last.2.2.1.toNat x.A).length=x.last.2.2.1.toNat:=Ψ
  exact{b with
   g:=Ψ
   rg:=g.le4
   Ev:=λ_=>{a with
    k:=Θ
    u:=a.EC
    t:=g
    o:=λr e=>a.o r (lv e)
    rl:=by
     grind
    A:=λr e=>a.A r (lv e)
    wl:=Θ
    ul:=by
     show(x.y.length:Int)<=x.last.1+1;have:=a.unw d;omega
    m:=by
     rw[k,Xf,A,B];exact(a.m.cut f Ω Ω z).mono aG (Xj _) (Xj _) (Xj _)
    V:=λh=>Ψ
    back:=λh=>Ω
    EC:=Ψ
    pos:=λh=>Ψ
    unw:=λh=>Ψ}
   R:=λh=>Ψ}
end
end
end Go.Sx
