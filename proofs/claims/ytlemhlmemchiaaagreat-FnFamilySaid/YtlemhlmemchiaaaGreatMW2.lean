/- Plain laws of the Lean functions. -/
import Derived.Test.YtlemhlmemchiaaaGreatMW1
open Nat renaming zero_add→Xbd,sub_zero→Xec,le_refl→Xl,le_trans→Xck,and_le_right→Xgm,zero_le→Xbk,add_sub_cancel→Xgd
open List renaming getElem?_eq_getElem→Xq,foldl_cons→Xcq,length_cons→Xt,mem_cons_of_mem→Xe,mem_cons_self→Xh,drop_length→Xdu,set→Xo,drop_eq_getElem_cons→Xcn,append_eq→Xao,map_nil→Xbh,countP_le_length→Xdr,getD→Xc,length_map→Xz,drop_zero→Xce,set_getElem_self→Xbn,length_set→Xad,countP_set→Xgs,getElem_set→Xbi,mem_map→Xu,length_append→Xs,length_singleton→Xdb,mem_append→Xk,length_nil→Xbx,getElem_replicate→Xeg,append_assoc→Xbo,map_cons→Xaj,cons_append→Xaw,append→Xf,set_set→Xdq,nil_append→Xbv,replicate→Xag,getElem_mem→Xac,mem_cons→Xm,length→Xa,take→Xbs,length_take→Xau,getElem_set_self→Xem,mem_singleton→Xab,getD_eq_getElem?_getD→Xv,all_eq_true→Xai,take_length→Xct,pairwise_cons→Xy,map_congr_left→Xci,mem_of_mem_take→Xcf,getElem?_set_ne→Xcr,getElem?_set_self→Xdp,take_append_of_le_length→Xcs,take_of_length_le→Xbr,map_append→Xn,dropLast_concat→Xdw,pairwise_append→Xaa,dropLast_eq_take→Xft,mem_of_mem_drop→Xdx,drop_append_of_le_length→Xet,foldl_append→Xfb,take_succ_cons→Xeu,eq_nil_of_length_eq_zero→Xx,mem_append_left→Xj
open Option renaming bind_some→Xd
open Int renaming toNat_natCast→Xp,toNat→Xb,le_refl→Xco,tmod_eq_emod_of_nonneg→Xdy,eq_ofNat_of_zero_le→Xfn
open Bool renaming not_true→Xah,true_and→Xca,and_eq_true→Xi,eq_false_iff→Xdd,or_eq_false_iff→Xcd,not_eq_false'→Xdo
namespace Go.Sx
set_option linter.unusedVariables false
set_option linter.unusedSimpArgs false
section
def WdW(c:Int)(v:List En)(r:Rw):List En:=match ent v r.1 with
 |some a=>v.set a.1 (r.1,r.2,c)
 |none=>v++ [(r.1,r.2,c)]
theorem WiV(c:Int)(v:List En)(r:Rw):(WdW c v r).length<=v.length+1:=by
 unfold WdW;split<;>simp
theorem apE{a b:En}:Ap cfE a b↔a.1≠b.1:=by unfold Ap cfE;omega
theorem WmV{c:Int}{L M:List En}{r:Rw}(hL:L.Pairwise (Ap cfE))(hM:Ris cfE M)(hm:∀x,x∈L↔x∈M):
  (WdW c L r).Pairwise (Ap cfE)/\Ris cfE (WfY cfE M (r.1,r.2,c))/\∀x,x∈WdW c L r↔x∈WfY cfE M (r.1,r.2,c):=by
 have key:(WdW c L r).Pairwise (Ap cfE)/\∀x,x∈WdW c L r↔x=(r.1,r.2,c)\/(x∈L/\Ap cfE x (r.1,r.2,c)):=by
  unfold WdW ent;cases he:fnd (λe:En=>e.1==r.1) L 0 with
  |some a=>
   obtain⟨h1,h2,h3,h4⟩:=WdP he;simp only[Xbd,Xec]at h3 h4;have h5:L[a.1]=a.2:=by rw[Xq h3]at h4;injection h4
   exact Wm2 Wpg hL h3 (by rw[apE,h5];simpa using h1)
  |none=>
   have:=Wh5 he;exact Wml hL λx hx=>by rw[apE];simpa using this x hx
 refine⟨key.1,WcP Wpg hM,λx=>?_⟩;rw[key.2 x,WcO Wpg hM,hm]
theorem Wnd{c:Int}:∀{rows:List Rw} {L M:List En},L.Pairwise (Ap cfE)->Ris cfE M->(∀x,x∈L↔x∈M)->
  (rows.foldl (WdW c) L).Pairwise (Ap cfE)/\Ris cfE (Wab c M rows)/\∀x,x∈rows.foldl (WdW c) L↔x∈Wab c M rows
 | [],_,_,hL,hM,hm=>⟨hL,hM,hm⟩
 |r::rows,L,M,hL,hM,hm=>by
  obtain⟨a,b,d⟩:=WmV (c:=c) (r:=r) hL hM hm;exact Wnd (rows:=rows) a b d
theorem Wjt{c:Int}:∀(rows:List Rw) (L:List En),(rows.foldl (WdW c) L).length<=L.length+rows.length
 | [],L=>by simp
 |r::rows,L=>by
  have:=Wjt (c:=c) rows (WdW c L r);have:=WiV c L r;rw[Xcq,Xt];omega
theorem WcY{c:Int}{P:En->Prop}:∀{rows:List Rw} {M:List En},Ris cfE M->(∀x∈M,P x)->(∀r∈rows,P (r.1,r.2,c))->∀x∈Wab c M rows,P x
 | [],_,_,h,_=>h
 |r::rows,M,hM,h,hr=>by
  refine WcY (rows:=rows) (WcP Wpg hM) (λx hx=>?_) λr' h'=>hr r' (Xe _ h');rcases(WcO Wpg hM).1 hx with rfl|h'
  .exact hr r (Xh ..)
  .exact h x h'.1
theorem Wly{R:Type}{N:Nat}{k4:Int}{b7 b8 b9:Int}{bH:Bool}{aI bD aW cF bM aT:Int}{aU:Bool}{dc ek fT fU:Int}{bb:List Kb}{bj:List Int}{cH:List Kb}{ep:List Int}{cZ:List Kb}{fV:List Y_KidRun}{bR:Nat}{cI:List Int}{fW:List Kc}{fX:List Kb}{fY:List Ki}{K0:Int->Bool->Kr->Option R}(hN:1048576<N)(vE:bb.length<=8):
  ∀(d j n:Nat) (v:List En),j+d=bb.length->d<n->v.length<=100+j->
  Z0 N k4 (We bb) b7 b8 b9 bH aI bD aW cF bM aT aU dc ek fT fU bb bj cH ep cZ fV bR cI fW fX fY K0 n (j:Int) v=K0 (bb.length:Int) false ((bb.drop j).foldl (WdW b8) v)
 |0,j,n+1,v,hj,hn,hv=>by
  have:j=bb.length:=by omega
  subst this;simp only[Z0,Was (Xl bb.length),cond_false,Xdu,List.foldl_nil]
 |d+1,j,n+1,v,hj,hn,hv=>by
  have hlt:j<bb.length:=by omega
  have jY:=WdN (N:=N) (f:=(b7,(b8,(b9,(bH,(bj,(cH,(v,(ep,(cZ,Xo fV bR (aI,(bD,(aW,(cF,(bM,(aT,(cI,(fW,(fX,(fY,(aU,(dc,(ek,(fT,fU)))))))))))))))))))))))) (c:=bb[j].1) (by show v.length<=1048576;omega) hN;have hs:=WiV b8 v bb[j];have cD:∀v',v'=WdW b8 v bb[j]->Z0 N k4 (We bb) b7 b8 b9 bH aI bD aW cF bM aT aU dc ek fT fU bb bj cH ep cZ fV bR cI fW fX fY K0 n ((j+1:Nat):Int) v'=K0 (bb.length:Int) false ((bb.drop j).foldl (WdW b8) v):=λv' po=>by
   subst po;rw[Wly hN vE d (j+1) n _ (by omega) (by omega) (by omega),Xcn hlt,Xcq]
  simp only[Z0,WJ,Waa hlt,Wt hlt,Wz hlt,Wj (show j<4611686018427387904 by omega),cond_true,jY,ret,Xd];have hd:ent v bb[j].1=ent v bb[j].1:=rfl;unfold WdW at cD;cases he:ent v bb[j].1 with
  |some a=>
   rw[he]at cD;obtain⟨h1,h2,h3,h4⟩:=WdP he;rw[Xbd]at h3;simp only[decide_eq_true (show((a.1:Int)>=0) by omega),cond_true];rw[Wbe,decide_eq_true h3];simp only[cond_true,Xp];exact cD _ rfl
  |none=>
   rw[he]at cD;simp only[show decide ((-1:Int)>=0)=false from rfl,cond_false];rw[Wy (by simp;omega)];simp only[cond_true,Xao];exact cD _ rfl
 |_,_,0,_,_,h,_=>by omega
theorem Wic{R:Type}{N:Nat}{fq hD hI hJ:Int}{hP:Bool}{hQ eJ hY hZ ia ib:Int}{ic:Bool}{fu fw fx fy:Int}{cG:List Kc}{de:List Int}{fz:List Kb}{fA:List Kc}{fB:List Int}{df:List Y_KidRun}{ig:Nat}{dF:List Int}{dG:List Kb}{dH:List Ki}{K0:Int->Bool->Kq->Option R}(tJ:cG.length<=1000):
  ∀(d j n:Nat) (v:List Rw),j+d=cG.length->d<n->v.length<=1000+j->
  Z5 N fq (We cG) hD hI hJ hP hQ eJ hY hZ ia ib ic fu fw fx fy cG de fz fA fB df ig dF dG dH K0 n (j:Int) v=K0 (cG.length:Int) false (v++WaB (cG.drop j))
 |0,j,n+1,v,hj,hn,hv=>by
  have:j=cG.length:=by omega
  subst this;simp only[Z5,Was (Xl cG.length),cond_false,Xdu,WaB,List.filter_nil,Xbh,List.append_nil]
 |d+1,j,n+1,v,hj,hn,hv=>by
  have hlt:j<cG.length:=by omega
  have he:WaB (cG.drop j)=if cG[j].2.2= -1 then(cG[j].1,cG[j].2.1)::WaB (cG.drop (j+1))else WaB (cG.drop (j+1)):=by
   rw[Xcn hlt];unfold WaB;rw[List.filter_cons];by_cases h:cG[j].2.2= -1
   .rw[if_pos h,if_pos (decide_eq_true h)];rfl
   .rw[if_neg h,if_neg (by simpa using h)]
  simp only[Z5,WJ,Waa hlt,Wt hlt,Wz hlt,Wj (show j<4611686018427387904 by omega),cond_true,Wdl];rw[he];by_cases h:cG[j].2.2= -1
  .rw[if_pos h,if_pos h,Wy (by simp;omega)];simp only[cond_true];rw[Wic tJ d (j+1) n _ (by omega) (by omega) (by simp;omega)];simp
  .rw[if_neg h,if_neg h];rw[Wic tJ d (j+1) n _ (by omega) (by omega) (by omega)]
 |_,_,0,_,_,h,_=>by omega
variable{N:Nat}{codes:List (List Opn)}{n:Int}{f:Fm}{k:Nat}{code:List Opn}{m:Mm}{x:Kd}
theorem WqG{l:List En}(h:Ris cfE l):l.Pairwise (Ap cfE):=h.imp λh=>.inl h
theorem WhX(hk:k<f.kids.length)(h3:f.kids.length<=3)(oB:code.length<=24)(hF:FOk codes n f)(aq:codes.getD k []=code)(bK:f.kids[k]=x)(hN:1048576<N):
  Zb0 N f.e (k:Int)=some (((Fm.put (Wad f x k) k).e,()),()):=by
 have hx:=hF.kid k hk;rw[aq,bK]at hx;obtain⟨f0,f1,f2,f3,f4,f5,f6,f7,f8,f9⟩:=fmP f;have bV:=hx.pc;have jX:=hx.wl;have hsl:=hx.sl;have hb8:=hF.buf8;have vF:f.order.length<=3:=by
  have h1:=hF.done;have:=Xdr (p:=λx:Kd=>decide (x.phase=3)) (l:=f.kids);omega
 have lS:=hF.readsL;have e2:Xc (f.kids.map Kd.e) (Xb (k:Int)) d_KidRun=x.e:=by
  have:=Wf3 Kd.e f.kids k {};rw[WE hk,bK]at this;exact this
 unfold Zb0;simp only[f9,Xz];rw[Wbe,decide_eq_true hk];simp only[cond_true,e2];have en:Zd8 N x.e.2.2.2.2.2.2.2.2.1=ret (WbI x.writes):=Wgg (show x.writes.length<=1048576 by omega) hN;rw[en];simp only[ret,Xd];have gk:=Wfr x.writes;rw[show(0:Int)=((0:Nat):Int)from rfl];rw[Wly (bb:=WbI x.writes) hN gk (WbI x.writes).length 0 N _ (by omega) (by omega) (by show f.buf.length<=_;omega)];simp only[Xce];have hP6:P6 f.e=f.buf:=rfl;have hcl:Wf .i64 f.e.2.1 1=f.clock+1:=WjB (by have:=hF.clock;show 0<=f.clock/\_;omega);rw[hP6,hcl];obtain⟨i1,i2,i3⟩:=Wnd (c:=f.clock+1) (rows:=WbI x.writes) (WqG hF.bufR) hF.bufR (λx=>Iff.rfl);unfold Zx;have dQ:=Wjt (c:=f.clock+1) (WbI x.writes) f.buf;rw[WoI (rng:=WqF) (N:=N) Wpg i2 i1 i3 (λe he=>?_) (by omega)]
 .simp only[Xd];have hP7:P7 x.e=x.seen:=rfl;rw[show(Kd.e x).2.2.2.2.2.2.2.1=x.seen from rfl];rw[Wic (cG:=x.seen) (by omega) x.seen.length 0 N _ (by omega) (by omega) (by show f.reads.length<=_;omega)];rw[Wy (by show f.order.length+1<=_;omega)];simp only[cond_true,Xce];have hU:∀(g:Fm) (y:Kd),U6 (Xo (f.kids.map Kd.e) k y.e) (S5 (f.reads++WaB x.seen) (S4 (f.order++ [(k:Int)]) (S3 (Wab (f.clock+1) f.buf (WbI x.writes)) f.e.2.2.2)))=(f.lost,f.regs,f.start,Wab (f.clock+1) f.buf (WbI x.writes),f.order++ [(k:Int)],f.reads++WaB x.seen,(f.kids.set k y).map Kd.e):=λg y=>by
   rw[List.map_set];rfl
  rw[Xp];exact congrArg (λz=>some (((f.rv,(f.clock+1,((0:Int),z))),()),())) (hU f {x with phase:=3,pos:=0,marks:=[]})
 .have h1:=(i3 e).1 he;have:=WcY (P:=λe=>0<=e.1/\e.1<=7) hF.bufR (λe he=>(hF.bufE e he).1) (λr hr=>(Wdj.1 hr).1) e h1;unfold WqF WqQ;simp;omega
theorem Wiz(hk:k<f.kids.length)(hF:FOk codes n f)(hx:KOk code f.clock n x)(bK:f.kids[k]=x)(hn:n<=100000)(o:Int):
  Zac N (Fm.e {f with owner:=o}) (k:Int)=some (((Fm.put ({f with owner:=o},f.again x) k).e,()),()):=by
 have h:=Wc3 (N:=N) (f:=Fm.e {f with owner:=o}) (k:=k) (x:=x.e) (by show k<(f.kids.map Kd.e).length;simpa using hk) hF.regs.len (by have:=hx.tries;show 0<=x.tries/\x.tries<=100000;omega);have e3:U9 (Xo (Q9 (Fm.e {f with owner:=o})) k x.e) (Fm.e {f with owner:=o})=Fm.e {f with owner:=o}:=by
  have:=U9e {f with owner:=o} k x;rw[←bK]at this;simp only[Xbn]at this;rw[←bK];exact this
 rw[e3]at h;rw[h];exact congrArg (λz=>some ((z,()),())) (U9e {f with owner:=o} k (f.again x))
theorem Who(hk:k<f.kids.length)(h3:f.kids.length<=3)(hm:WaL m=true)(bi:KC code)(hF:FOk codes n f)(aq:codes.getD k []=code)(hn:n<=100000)(hN:1048576<N):
  Zc8 N f.e (k:Int) code m=some (((WaY m f k code).e,()),()):=by
 obtain⟨x,bK⟩:∃x,f.kids[k]=x:=⟨_,rfl⟩;have hx:=hF.kid k hk;rw[aq,bK]at hx;obtain⟨f0,f1,f2,f3,f4,f5,f6,f7,f8,f9⟩:=fmP f;obtain⟨k0,k1,k2,k3,k4,k5,k6,k7,k8,k9,k10⟩:=kdP x;have hsl:=hx.sl;have bV:=hx.pc;have oB:=bi.len;have e2:Xc (f.kids.map Kd.e) (Xb (k:Int)) d_KidRun=x.e:=by
  have:=Wf3 Kd.e f.kids k {};rw[WE hk,bK]at this;exact this
 have e3:U9 (Xo (f.kids.map Kd.e) (Xb (k:Int)) x.e) f.e=f.e:=by
  rw[Xp,U9e,←bK,Xbn]
 have e4:Fm.put (f,x) k=f:=by unfold Fm.put;simp only;rw[←bK,Xbn]
 unfold Zc8 WaY WaA;simp only[WJ,f9,f3,Xz];rw[Wpd];by_cases hlost:f.lost=true
 .rw[if_pos hlost,if_pos hlost]
 rw[if_neg hlost,if_neg hlost];rw[Wbe,decide_eq_true hk];simp only[cond_true,cond_false,e2,e3,k0,k4,k7,f2,Wdl,WE hk,bK];by_cases h0:x.phase=0
 .rw[if_pos h0,if_pos h0,Wj7 hk hm bi hF aq bK h0 hn hN];rfl
 .rw[if_neg h0,if_neg h0];by_cases h1:x.phase=1
  .rw[if_pos h1,if_pos h1];by_cases ho:f.owner=0
   .rw[if_pos ho,if_pos ho,WjB (by omega),Xp];exact Wmq rfl rfl rfl
   .rw[if_neg ho,if_neg ho,e4]
  .rw[if_neg h1,if_neg h1];by_cases h2:x.phase=2
   .rw[if_pos h2,if_pos h2];unfold We;by_cases hp:x.pos=(x.seen.length:Int)
    .rw[if_pos hp,if_pos hp,WhX hk h3 oB hF aq bK hN];rfl
    .rw[if_neg hp,if_neg hp];have hpos:=hx.pos;have gP:inb x.pos x.seen.length=true:=by unfold inb;simp;omega
     rw[gP];have hg:Xc x.seen (Xb x.pos) ((0,0,0):En)=WdD x.seen x.pos (0,0,0):=rfl;simp only[cond_true,hg];have jY:=WdN (N:=N) (f:=f.e) (c:=(WdD x.seen x.pos (0,0,0)).1) (by show f.buf.length<=1048576;have:=hF.buf8;omega) hN;rw[show f.e.2.2.2.2.2.2.1=f.buf from rfl]at jY;rw[jY];simp only[ret,Xd,f6];have hsz:S2 (0:Int) f.e=Fm.e {f with owner:=0}:=rfl;have eS:Zac N (U9 (Xo (f.kids.map Kd.e) (Xb (k:Int)) x.e) (S2 0 f.e)) (k:Int)=some (((Fm.put ({f with owner:=0},f.again x) k).e,()),()):=by
      rw[hsz];have h:=U9e {f with owner:=0} k x;rw[Xp];rw[show(U9 (Xo (f.kids.map Kd.e) k x.e) (Fm.e {f with owner:=0}))=Fm.e {f with owner:=0} by
       rw[h,←bK];simp only[Xbn]]
      exact Wiz hk hF hx bK hn 0
     unfold WpH;have oC:Wf .i64 x.pos 1=x.pos+1:=WjB (by omega);rw[oC];cases he:ent f.buf (WdD x.seen x.pos (0,0,0)).1 with
     |some a=>
      obtain⟨g1,g2,g3,g4⟩:=WdP he;rw[Xbd]at g3;rw[Xec,Xq g3]at g4;injection g4 with g4;simp only[decide_eq_true (show((a.1:Int)>=0) by omega),cond_true];rw[Wbe,decide_eq_true g3];simp only[cond_true,Wz g3,g4];by_cases hv:a.2.2.2=(WdD x.seen x.pos (0,0,0)).2.2
      .rw[if_pos hv,if_pos hv,Xp];exact Wmq rfl rfl rfl
      .rw[if_neg hv,if_neg hv,eS];rfl
     |none=>
      simp only[show decide ((-1:Int)>=0)=false from rfl,cond_false];by_cases hv:(-1:Int)=(WdD x.seen x.pos (0,0,0)).2.2
      .rw[if_pos hv,if_pos hv,Xp];exact Wmq rfl rfl rfl
      .rw[if_neg hv,if_neg hv,eS];rfl
   .rw[if_neg h2,if_neg h2,e4]
end
section
section
variable{codes:List (List Opn)}{n:Int}{f f':Fm}{k:Nat}{code:List Opn}{m:Mm}{x y:Kd}
theorem FOk.len3(h:FOk codes n f)(h3:codes.length<=3):f.order.length<=3:=by
 have h1:=h.done;have:=Xdr (p:=λx:Kd=>decide (x.phase=3)) (l:=f.kids);have:=h.len;omega
theorem FOk.put1(h:FOk codes n f)(hk:k<f.kids.length)(aq:codes.getD k []=code){o:Int}{l:Bool}(ho:0<=o/\o<=f.kids.length)(hy:KOk code f.clock (n+1) y)(hp:f.kids[k].phase≠3)(tK:y.phase≠3):
  FOk codes (n+1) (Fm.put ({f with owner:=o,lost:=l},y) k) where
 len:=by show(f.kids.set k y).length=_;rw[Xad];exact h.len
 regs:=h.regs
 clock:=h.clock
 done:=by
  show f.order.length=(f.kids.set k y).countP _;rw[Xgs hk,if_neg (by simpa using hp),if_neg (by simpa using tK)];exact h.done
 bufR:=h.bufR
 bufE:=h.bufE
 readsL:=h.readsL
 readsE:=h.readsE
 owner:=by show 0<=o/\o<=((f.kids.set k y).length:Int);rw[Xad];exact ho
 kid:=λi hi=>by
  change i<(f.kids.set k y).length at hi;rw[Xad]at hi;show KOk (codes.getD i []) f.clock (n+1) (f.kids.set k y)[i];rw[Xbi];by_cases he:k=i
  .subst he;rw[if_pos rfl,aq];exact hy
  .rw[if_neg he];exact(h.kid i hi).wk (by omega) (by omega)
theorem FOk.wk(h:FOk codes n f){n':Int}(hn:n<=n'):FOk codes n' f:=
 {h with kid:=λk hk=>(h.kid k hk).wk (by omega) hn}
theorem WhW(h:∀e∈x.seen,(0<=e.1/\e.1<=7)/\(0<=e.2.1/\e.2.1<=65535)/\ -1<=e.2.2/\e.2.2<=x.since):WdJ (WaB x.seen):=by
 intro r hr;unfold WaB at hr;obtain⟨e,he,rfl⟩:=Xu.1 hr;have:=h e (List.mem_filter.1 he).1;exact⟨this.1,this.2.1⟩
theorem WiT(l:List En):(WaB l).length<=l.length:=by
 unfold WaB;rw[Xz];exact List.length_filter_le _ _
theorem We6{c:Int}:∀{rows:List Rw} {M:List En},Ris cfE M->Ris cfE (Wab c M rows)
 | [],_,h=>h
 |r::rows,M,h=>We6 (rows:=rows) (WcP Wpg h)
theorem WnK(hF:FOk codes n f)(hk:k<f.kids.length)(bi:code.length<=24)(aq:codes.getD k []=code)(bK:f.kids[k]=x)(h2:x.phase=2):
  FOk codes (n+1) (Fm.put (Wad f x k) k):=by
 have hx:=hF.kid k hk;rw[aq,bK]at hx;have hc:=hF.clock;unfold Wad Fm.put;refine{len:=?_,regs:=hF.regs,clock:=?_,done:=?_,bufR:=We6 hF.bufR,bufE:=?_,readsL:=?_,readsE:=?_,owner:=?_,kid:=?_}
 .simp only[Xad];exact hF.len
 .simp only[Xs,Xdb];omega
 .simp only[Xs,Xdb];rw[Xgs hk,bK,if_neg (by simp[h2]),if_pos (by simp),←hF.done];rfl
 .simp only;refine WcY hF.bufR (λe he=>?_) λr hr=>?_
  .have:=hF.bufE e he;exact⟨this.1,this.2.1,this.2.2.1,by omega⟩
  .have:=Wc8 r hr;exact⟨this.1,this.2,by simp only;omega,by simp only;omega⟩
 .have h1:=hF.readsL;have h2:=WiT x.seen;have h3:=hx.sl;have h4:=hx.pc;simp only[Xs,Xdb];omega
 .intro r hr;rcases Xk.1 hr with hr|hr
  .exact hF.readsE r hr
  .exact WhW hx.seen r hr
 .simp only[Xad];omega
 .intro i hi;simp only[Xad]at hi;simp only[Xbi];by_cases he:k=i
  .subst he;rw[if_pos rfl,aq];refine KOk.wk (c:=f.clock) (n:=n) ?_ (by omega) (by omega);exact{hx with marks:=(λh=>by(change (3:Int)=0 at h;omega)),pos:=⟨Xco _,by show(0:Int)<=_;omega⟩,phase:=by(show(0:Int)<=3/\(3:Int)<=3;omega)}
  .rw[if_neg he];exact(hF.kid i hi).wk (by omega) (by omega)
theorem Wlg(hk:k<f.kids.length)(hm:WaL m=true)(bi:KC code)(hF:FOk codes n f)(aq:codes.getD k []=code):FOk codes (n+1) (WaY m f k code):=by
 obtain⟨x,bK⟩:∃x,f.kids[k]=x:=⟨_,rfl⟩;have hx:=hF.kid k hk;rw[aq,bK]at hx;have e4:Fm.put (f,x) k=f:=by unfold Fm.put;simp only;rw[←bK,Xbn]
 have hFw:=hF.wk (show n<=n+1 by omega);unfold WaY WaA;split
 .exact hFw
 rw[WE hk,bK];split
 .rename_i h0;obtain⟨h1,h2⟩:=Wqa bi hF hx h0 hm;have vG:(WeL m f x code).2.phase≠3:=by
   unfold WeL WaG Wdd;simp only
   repeat' split
   all_goals simp[h0,Fm.again]
  have:=h1;have key:∀q:Fm×Kd,(q.1=f\/q.1={f with lost:=true})->KOk code f.clock (n+1) q.2->q.2.phase≠3->FOk codes (n+1) (Fm.put q k):=by
   rintro⟨g,y⟩ hg hy hp;simp only at hg hy hp;rcases hg with rfl|rfl
   .exact FOk.put1 (o:=g.owner) (l:=g.lost) hF hk aq hF.owner hy (by rw[bK,h0];omega) hp
   .exact FOk.put1 (o:=f.owner) (l:=true) hF hk aq hF.owner hy (by rw[bK,h0];omega) hp
  exact key _ h2 h1 vG
 .split
  .rename_i h1;split
   .refine FOk.put1 (o:=(k:Int)+1) (l:=f.lost) hF hk aq (by omega) ?_ (by rw[bK,h1];omega) (by show(2:Int)≠3;omega);refine KOk.wk (c:=f.clock) (n:=n) ?_ (by omega) (by omega);exact{hx with marks:=(λh=>by(change (2:Int)=0 at h;omega)),phase:=by(show(0:Int)<=2/\(2:Int)<=3;omega)}
   .rw[e4];exact hFw
  .split
   .rename_i h2;split
    .exact WnK hF hk bi.len aq bK h2
    .simp only;split
     .refine FOk.put1 (o:=f.owner) (l:=f.lost) hF hk aq hF.owner ?_ (by rw[bK,h2];omega) (by show x.phase≠3;omega);refine KOk.wk (c:=f.clock) (n:=n) ?_ (by omega) (by omega);exact{hx with pos:=by(have:=hx.pos;show 0<=x.pos+1/\x.pos+1<=(x.seen.length:Int);omega)}
     .refine FOk.put1 (o:=0) (l:=f.lost) hF hk aq (by omega) (Wls hx rfl hF.regs hF.clock.1) (by rw[bK,h2];omega) (by show(0:Int)≠3;omega)
   .rw[e4];exact hFw
theorem WnJ{rv:Int}{regs:List Int}{writes:List Rw}(hr:Vals 4 regs)(hn:0<=n):FOk codes n (WaE rv regs writes codes.length) where
 len:=by simp[WaE]
 regs:=hr
 clock:=by simp[WaE]
 done:=by
  simp only[WaE,Xbx];rw[List.countP_replicate,if_neg (by simp)]
 bufR:=by
  unfold Ris WaE;simp only[List.pairwise_map];exact(Wgf writes).imp λ{a b} h=>by unfold cfE;simp only;omega
 bufE:=λe he=>by
  obtain⟨r,hr,rfl⟩:=Xu.1 he;have:=Wc8 r hr;exact⟨this.1,this.2,by simp[WaE]⟩
 readsL:=by simp[WaE]
 readsE:=λr hr=>by cases hr
 owner:=by simp[WaE]
 kid:=λk hk=>by
  simp only[WaE,Xeg];exact{pc:=by simp,regs:=hr,rows:=(λr hr=>by cases hr),wl:=by simp,sl:=by simp,since:=by simp,tries:=by simp;omega,seen:=(λe he=>by cases he),marks:=(λ_=>⟨by simp[stk],(λq hq=>by cases hq),List.Pairwise.nil⟩),pos:=by simp,pb:=(λh=>by cases h),phase:=by simp,out:=by simp}
end
end
section
theorem Whc{α β R:Type}{body:Int->α->List β->(List β->Option R)->Option R}{K:Int->List β->Option R}{f:α->β}:∀(l:List α) (d r:List β),l.length<=r.length->
  (∀(j:Nat) x (v:List β) k,x∈l->j<v.length->body j x v k=k (v.set j (f x)))->WbL body K l d.length (d++r)=K ((d.length+l.length:Nat):Int) (d++(l.map f++r.drop l.length))
 | [],d,r,_,_=>by simp[WbL]
 |x::l,d,[],h,_=>by simp at h
 |x::l,d,y::r,h,hb=>by
  rw[WbL,hb d.length x _ _ (Xh ..) (by simp),WgE];have:=Whc (body:=body) (K:=K) (f:=f) l (d++ [f x]) r (by simpa using h) λj z v k hz=>hb j z v k (Xe _ hz);simp only[Xs,Xdb,Xbo,List.singleton_append]at this;rw[this];simp only[Xt,Xaj,List.drop_succ_cons,Xaw];rw[show d.length+1+l.length=d.length+(l.length+1) by omega]
theorem WpX{α:Type}{R:Type}{l:List α}{p:α->Bool}{lp:Nat->Int->Option R}{N:Nat}{K0:Int->Option R}{K1:Option R}(hl:l.length<N)(gh:l.length<=1048576)(hs:∀n (j:Nat) (h:j<l.length),lp (n+1) (j:Int)=bif p l[j]then K0 j else lp n ((j+1:Nat):Int))(he:∀n,lp (n+1) (l.length:Int)=K1):lp N 0=match fnd p l 0 with|some r=>K0 r.1|none=>K1:=by
 have h1:=WG (l:=l) (V:=Unit) (lp:=λn j _=>lp n j) hl (body:=λj x v k=>bif p x then K0 j else k v) (K:=λ_ _=>K1) (λn j v h=>hs n j h) (λn v=>he n) ();refine h1.trans ?_;rw[Wfz (p:=p) (E:=λj _=>K0 j) l 0 () (λj x v k _=>rfl)];cases fnd p l 0<;>rfl
theorem WmQ{α:Type}{p:α->Bool}:∀(l:List α) (j:Nat),(fnd p l j).isSome=l.any p
 | [],_=>rfl
 |x::l,j=>by
  unfold fnd;rw[List.any_cons];cases p x
  .simp[WmQ l]
  .rfl
variable{N:Nat}
theorem WiA{f:Fm}(h3:f.kids.length<=3)(hN:1048576<N):Zgc N f.e=ret (WcE f):=by
 unfold Zgc Zw Zn;have e:f.e.2.2.2.2.2.2.2.2.2=f.kids.map Kd.e:=rfl;rw[e];have hl:(f.kids.map Kd.e).length<=3:=by simpa using h3
 have h1:=WpX (l:=f.kids.map Kd.e) (p:=λx=>x.1 !=3) (N:=N) (lp:=λn j=>Ze N (f.kids.map Kd.e) (λaV=>(some ((),(aV,())))) (λbG bQ=>(some ((),((-1:Int),())))) n j) (K0:=λj=>some ((),(j,()))) (K1:=some ((),((-1:Int),()))) (by omega) (by omega)
  (λn j hj=>by
   simp only[Ze,Waa hj,Wt hj,Wz hj,Wj (show j<4611686018427387904 by omega),cond_true,Zg1,Xd])
  (λn=>by simp only[Ze,Was (Xl _),cond_false])
 rw[h1];have h2:=WmQ (p:=λx:Y_KidRun=>x.1 !=3) (f.kids.map Kd.e) 0;have h3:(f.kids.map Kd.e).any (λx=>x.1 !=3)= !WcE f:=by
  unfold WcE;rw[List.any_map,←Wdc];have:((λx:Y_KidRun=>x.1 !=3)∘Kd.e)= λx:Kd=>!decide (x.phase=3):=by
   funext x;show(x.phase !=3)= !decide (x.phase=3);by_cases h:x.phase=3<;>simp[h]
  rw[this]
 rw[h3]at h2;cases hf:fnd (λx:Y_KidRun=>x.1 !=3) (f.kids.map Kd.e) 0 with
 |some r=>
  rw[hf]at h2;simp only[Xd,decide_eq_true (show((r.1:Int)>=0) by omega),Xah,ret];rw[show WcE f=false by simpa using h2.symm]
 |none=>
  rw[hf]at h2;rw[show WcE f=true by simpa using h2.symm];rfl
theorem Wi6{f:Fm}(h:f.buf.length<=1000)(hN:1048576<N):Zdm N f.e=ret (Wct f):=by
 unfold Zdm;have e:f.e.2.2.2.2.2.2.1=f.buf:=rfl;rw[e];have h1:=WG (l:=f.buf) (V:=List Rw) (R:=Unit×(List Rw×Unit)) (lp:=λn j v=>Za4 N f.buf (We f.buf) (λt9 aN au=>(some ((),(au,())))) n j v) (n:=N) (by omega)
  (body:=λj x v k=>bif WB (v.length+ [(x.1,x.2.1)].length)then k (Xf v [(x.1,x.2.1)])else none) (K:=λ_ v=>ret v)
  (λn i v hi=>by simp only[Za4,Waa hi,Wt hi,Wz hi,Wj (show i<4611686018427387904 by omega),cond_true])
  (λn v=>by simp only[Za4,Was (Xl f.buf.length),cond_false]) []
 refine h1.trans ?_;rw[Wdq (f:=λx:En=>(x.1,x.2.1)) f.buf 0 [] (by simp;omega) (λj x v k _=>rfl)];rfl
theorem Whz{f:Fm}(hr:Vals 4 f.regs)(h3:f.kids.length<=3)(hx:∀x∈f.kids,x.regs.length<=1000)(hN:1048576<N):Zdl N f.e=ret (Wd2 f):=by
 unfold Zdl Wd2;have e:f.e.2.2.2.2.1=f.regs:=rfl;have e2:f.e.2.2.2.2.2.2.2.2.2=f.kids.map Kd.e:=rfl;have pp:Wa4 f.regs=true:=WbE.2 hr;have hl:=hr.len;have hm:(f.kids.map Kd.e).length=f.kids.length:=by simp
 rw[e,e2,WbZ (by omega) hN,if_pos ⟨pp,h3⟩];simp only[ret,Xd,pp,Xah,cond_false];rw[decide_eq_false (by unfold We;omega),WbT (by omega)];simp only[ret,Xd,cond_false];have h1:=WG (l:=f.kids.map Kd.e) (V:=List Int) (R:=Unit×(List Int×Unit)) (lp:=λn j v=>Zaf N (f.kids.map Kd.e) (We (f.kids.map Kd.e)) (λfo cE aJ=>(some ((),(aJ,())))) n j v) (n:=N) (by omega)
  (body:=λj x v k=>bif inb j v.length then(bif x.2.2.2.2.2.1==(1:Int)then((Zq N (P6 x) (4:Int)).bind λcX=>(bif cX.2.1 then(bif inb 0 (P6 x).length then(bif inb j (Xo v j.toNat 0).length then k (Xo (Xo v j.toNat 0) j.toNat (Xc (P6 x) (Xb (0:Int)) 0))else none)else none)else k (Xo v j.toNat 0)))else k (Xo v j.toNat 0))else none) (K:=λ_ v=>ret v)
  (λn i v hi=>by simp only[Zaf,WJ,Waa hi,Wt hi,Wz hi,Wj (show i<4611686018427387904 by omega),cond_true];rfl)
  (λn v=>by simp only[Zaf,Was (Xl _),cond_false]) f.regs
 refine h1.trans ?_;have h2:=Whc (β:=Int) (K:=λ_ v=>ret v) (f:=λx:Y_KidRun=>if P5 x=1/\Wa4 (P6 x)=true then WdD (P6 x) 0 0 else 0) (f.kids.map Kd.e) [] f.regs (by omega) (body:=λj x v k=>bif inb j v.length then(bif x.2.2.2.2.2.1==(1:Int)then((Zq N (P6 x) (4:Int)).bind λcX=>(bif cX.2.1 then(bif inb 0 (P6 x).length then(bif inb j (Xo v j.toNat 0).length then k (Xo (Xo v j.toNat 0) j.toNat (Xc (P6 x) (Xb (0:Int)) 0))else none)else none)else k (Xo v j.toNat 0)))else k (Xo v j.toNat 0))else none)
  (λj x v k oD hj=>by
   obtain⟨y,hy,rfl⟩:=Xu.1 oD;have hyl:=hx y hy;have p5:(Kd.e y).2.2.2.2.2.1=y.out:=rfl;have vH:P5 (Kd.e y)=y.out:=rfl;have p6:P6 (Kd.e y)=y.regs:=rfl;simp only[p5,vH,p6,Wbe,decide_eq_true hj,cond_true,WbZ (show y.regs.length<=1048576 by omega) hN,ret,Xd,Wdl,Xp,Xad];by_cases h1:y.out=1
   .rw[if_pos h1];cases pp:Wa4 y.regs
    .rw[if_neg (by simp)];rfl
    .have:y.regs.length=4:=(WbE.1 pp).len;rw[if_pos ⟨h1,rfl⟩,show inb (0:Int) y.regs.length=true by rw[this];rfl];simp only[cond_true,Xdq];rfl
   .rw[if_neg h1,if_neg (λh=>h1 h.1)])
 simp only[Xbx,Xbv,Xz,List.map_map]at h2;exact h2
theorem WgA{rv:Int}{regs:List Int}{writes:List Rw}{kids:Nat}(hr:regs.length<=1000)(hw:writes.length<=1000)(hk:kids<=3)(hN:1048576<N):
  Zdc N rv regs writes (kids:Int)=ret (WaE rv regs writes kids).e:=by
 unfold Zdc;rw[WbT (by omega),Wgg (by omega) hN];have hn:=Wfr writes;simp only[ret,Xd];have h1:=WG (l:=WbI writes) (V:=List En) (R:=Unit×(Y_Family×Unit)) (lp:=λn j v=>Zav N regs kids (We (WbI writes)) rv (WbI writes) regs (λt25 ml cZ=>
  (Zab N regs kids rv regs (WbI writes) cZ
 (λqu t50 ld=>
  (some ((),((rv,((0:Int),((0:Int),(false,(regs,(WbI writes,(cZ,(([]:List Int),(([]:List Kb),ld))))))))),()))))
 N (0:Int) ([]:List Y_KidRun))) n j v) (n:=N) (by omega)
  (body:=λj x v k=>bif WB (v.length+ [(x.1,(x.2,(0:Int)))].length)then k (Xf v [(x.1,(x.2,(0:Int)))])else none) (K:=λ_ cZ=>(Zab N regs kids rv regs (WbI writes) cZ
 (λqu t50 ld=>
  (some ((),((rv,((0:Int),((0:Int),(false,(regs,(WbI writes,(cZ,(([]:List Int),(([]:List Kb),ld))))))))),()))))
 N (0:Int) ([]:List Y_KidRun)))
  (λn i v hi=>by simp only[Zav,Waa hi,Wt hi,Wz hi,Wj (show i<4611686018427387904 by omega),cond_true])
  (λn v=>by simp only[Zav,Was (Xl _),cond_false]) []
 refine h1.trans ?_;rw[Wdq (f:=λx:Rw=>(x.1,(x.2,(0:Int)))) (WbI writes) 0 [] (by simp;omega) (λj x v k _=>rfl)];simp only[Xbv];obtain⟨b,hb⟩:∃b,(WbI writes).map (λx:Rw=>(x.1,(x.2,(0:Int))))=b:=⟨_,rfl⟩;rw[hb];have lp:∀(d j n:Nat) (v:List Y_KidRun),j+d=kids->d<n->v=Xag j (Kd.e {regs:=regs})->Zab N regs kids rv regs (WbI writes) b (λqu t50 ld=>(some ((),((rv,((0:Int),((0:Int),(false,(regs,(WbI writes,(b,(([]:List Int),(([]:List Kb),ld))))))))),())))) n (j:Int) v=some ((),((rv,((0:Int),((0:Int),(false,(regs,(WbI writes,(b,(([]:List Int),(([]:List Kb),Xag kids (Kd.e {regs:=regs})))))))))),())):=by
  intro d
  induction d with
  |zero=>
   intro j n v hj hn hv;obtain⟨n,rfl⟩:∃n',n=n'+1:=⟨n-1,by omega⟩;have:j=kids:=by omega
   subst this;simp only[Zab,Int.lt_irrefl,decide_false,cond_false,hv]
  |succ d ih=>
   intro j n v hj hn hv;obtain⟨n,rfl⟩:∃n',n=n'+1:=⟨n-1,by omega⟩;have hlt:(j:Int)<(kids:Int):=by omega
   have iU:v.length=j:=by rw[hv];simp
   simp only[Zab,decide_eq_true hlt,cond_true,WbT (show regs.length<=1048576 by omega),ret,Xd];rw[Wy (by simp;omega)];simp only[cond_true];rw[Wj (by omega)];refine ih (j+1) n _ (by omega) (by omega) ?_;rw[hv,List.replicate_succ'];rfl
 have:=lp kids 0 N [] (by omega) (by omega) rfl;refine this.trans ?_;unfold WaE Fm.e;simp only[List.map_replicate,hb]
end
section
abbrev Cur:=List Int×Int×Int
def Wam(c:Cur):Prop:=0<=c.2.1/\c.2.1<=c.1.length/\c.1.length<=1048576
def WnD{α:Type}(P:α->Prop)(r:Option ((Cur×Unit)×(α×Unit))):Prop:=∃c v,r=some ((c,()),(v,()))/\Wam c/\P v
theorem WlB(x:Int):∃n:Nat,n<=255/\Wpr .i64 x 255=n:=by
 refine⟨(BitVec.ofInt 64 x&&&BitVec.ofInt 64 255).toNat,?_,?_⟩
 .rw[BitVec.toNat_and];exact Xck Xgm (by decide)
 .unfold Wpr;have:(BitVec.ofInt 64 x&&&BitVec.ofInt 64 255).toNat<=255:=by
   rw[BitVec.toNat_and];exact Xck Xgm (by decide)
  exact wrap_i64 (Wqu (p:=(BitVec.ofInt 64 x&&&BitVec.ofInt 64 255).toNat) (by omega))
theorem Wo7{N:Nat}{code:List Int}(h:code.length<=1048576)(hN:1048576<N):∃c,Wam c/\Zev N code=ret c:=by
 have key:∀(n j:Nat) (v:Int),j<=code.length->code.length-j<n->∃hh i t,∀{R:Type} (K:Int->Int->Bool->Option R),Za3 N code K n v (j:Int)=K hh i t:=by
  intro n
  induction n with
  |zero=>intro j v _ h2;omega
  |succ n ih=>
   intro j v h1 h2;by_cases hj:j<code.length
   .by_cases h4:j<4000
    .obtain⟨hh,i,t,e⟩:=ih (j+1) _ hj (by omega);refine⟨hh,i,t,λK=>?_⟩;have e1:decide ((j:Int)<4000)=true:=by simp;omega
     simp only[Za3,Waa hj,Wt hj,e1,cond_true,Wj (show j<4611686018427387904 by omega)];exact e K
    .refine⟨v,j,decide ((j:Int)<4000),λK=>?_⟩;have e1:decide ((j:Int)<4000)=false:=by simp;omega
     simp only[Za3,Waa hj,e1,cond_true,cond_false]
   .refine⟨v,j,false,λK=>?_⟩;simp only[Za3,Was (show code.length<=j by omega),cond_false]
 obtain⟨hh,i,t,e⟩:=key N 0 (Wf .i64 10101 (We code)) (Xbk _) (by omega);refine⟨(code,0,hh),⟨by simp,by simp,h⟩,?_⟩;unfold Zev;exact e _
theorem WcR{N:Nat}{c:Cur}(h:Wam c):WnD (λv=>0<=v/\v<=255) (Zcv N c):=by
 unfold Zcv;obtain⟨h1,h2,h3⟩:=h;have e1:inn 33=true:=rfl;have e2:inn 45=true:=rfl;simp only[e1,e2,cond_true];by_cases hi:c.2.1<c.1.length
 .have e3:decide (c.2.1<We c.1)=true:=decide_eq_true hi;have e4:inb c.2.1 c.1.length=true:=by unfold inb;simp;exact⟨h1,hi⟩
  have e5:Wf .i64 c.2.1 1=c.2.1+1:=WI (by unfold I64;omega);rw[e3,e4,e5];simp only[cond_true];obtain⟨n,hn,e⟩:=WlB (Wf .i64 (Wpr .i64 (Wqs .i64 (Woe .i64 (Wf .i64 (Wia .i64 c.2.2 (6364136223846793005:Int)) (1442695040888963407:Int)) (33:Int)) (Woe .i64 (Wf .i64 (Wia .i64 c.2.2 (6364136223846793005:Int)) (1442695040888963407:Int)) (45:Int))) (255:Int)) (IntKind.wrap .i64 (Xc c.1 (Xb c.2.1) (0:Int))));exact⟨_,_,rfl,⟨by simp;omega,by simp;omega,h3⟩,by rw[e];omega⟩
 .have e3:decide (c.2.1<We c.1)=false:=decide_eq_false hi;rw[e3];simp only[cond_false];obtain⟨n,hn,e⟩:=WlB (Wqs .i64 (Woe .i64 (Wf .i64 (Wia .i64 c.2.2 (6364136223846793005:Int)) (1442695040888963407:Int)) (33:Int)) (Woe .i64 (Wf .i64 (Wia .i64 c.2.2 (6364136223846793005:Int)) (1442695040888963407:Int)) (45:Int)));exact⟨_,_,rfl,⟨h1,h2,h3⟩,by rw[e];omega⟩
theorem Wlt{v n:Int}(hv:0<=v)(hn:0<n):0<=WgB v n/\WgB v n<n:=by
 have e:WgB v n=v%n:=by unfold WgB;exact Xdy hv
 rw[e];exact⟨Int.emod_nonneg v (by omega),Int.emod_lt_of_pos v hn⟩
theorem WeP{N:Nat}{c:Cur}{n:Int}(h:Wam c):WnD (λv=>(n<=0->v=0)/\(0<n->0<=v/\v<n)) (Zb N c n):=by
 unfold Zb;by_cases h0:n<=0
 .have e:decide (n<=0)=true:=by simpa using h0
  rw[e];exact⟨_,_,rfl,h,λ_=>rfl,λh=>by omega⟩
 .have e:decide (n<=0)=false:=by simpa using h0
  have ez:inz n=true:=by unfold inz;simp;omega
  rw[e];simp only[cond_false,ez,cond_true];by_cases h1:n<=256
  .have e:decide (n<=256)=true:=by simpa using h1
   rw[e];obtain⟨c1,v,e1,hc,hv⟩:=WcR (N:=N) h;rw[e1];have:=Wlt hv.1 (show 0<n by omega);exact⟨_,_,rfl,hc,λh=>by omega,λ_=>this⟩
  .have e:decide (n<=256)=false:=by simpa using h1
   rw[e];obtain⟨c1,v1,e1,kF,rV⟩:=WcR (N:=N) h;obtain⟨c2,v2,e2,fG,iB⟩:=WcR (N:=N) kF;obtain⟨c3,v3,e3,oE,hv3⟩:=WcR (N:=N) fG;obtain⟨c4,v4,e4,pq,hv4⟩:=WcR (N:=N) oE;simp only[cond_false,e1,e2,e3,e4,Xd];have m1:Wia .i64 v1 16777216=v1*16777216:=Wks (by unfold I64;omega);have m2:Wia .i64 v2 65536=v2*65536:=Wks (by unfold I64;omega);have m3:Wia .i64 v3 256=v3*256:=Wks (by unfold I64;omega);have a1:Wf .i64 (v1*16777216) (v2*65536)=v1*16777216+v2*65536:=WI (by unfold I64;omega);have a2:Wf .i64 (v1*16777216+v2*65536) (v3*256)=v1*16777216+v2*65536+v3*256:=WI (by unfold I64;omega);have a3:Wf .i64 (v1*16777216+v2*65536+v3*256) v4=v1*16777216+v2*65536+v3*256+v4:=WI (by unfold I64;omega);rw[m1,m2,m3,a1,a2,a3];have:=Wlt (show 0<=v1*16777216+v2*65536+v3*256+v4 by omega) (show 0<n by omega);exact⟨_,_,rfl,pq,λh=>by omega,λ_=>this⟩
end
section
theorem WnF{N:Nat}{c:Cur}{n:Int}(h:Wam c):WnD (λ_=>True) (Zs N c n):=by
 unfold Zs;obtain⟨c1,v,e1,hc,hv⟩:=WeP (N:=N) (n:=n) h;rw[e1];exact⟨_,_,rfl,hc,trivial⟩
theorem WnO{N:Nat}{c:Cur}{l:List Int}(h:Wam c)(hl:0<l.length)(gh:l.length<4611686018427387904):WnD (λv=>v∈l) (Zaj N c l):=by
 unfold Zaj;obtain⟨c1,v,e1,hc,hv⟩:=WeP (N:=N) (n:=We l) h;rw[e1];have hv:=hv.2 (by unfold We;omega);unfold We at hv;obtain⟨q,rfl⟩:=Xfn hv.1;have hq:q<l.length:=by omega
 simp only[Xd,Wt hq,cond_true,Wz hq];exact⟨_,_,rfl,hc,Xac hq⟩
end
section
def Drw{ρ:Type}(P:ρ->Prop)(r:Option ((Cur×Unit)×ρ)):Prop:=∃c v,r=some ((c,()),v)/\Wam c/\P v
theorem Drw.of{α:Type}{P:α->Prop}{r:Option ((Cur×Unit)×(α×Unit))}(h:WnD P r):Drw (λv:α×Unit=>P v.1) r:=by
 obtain⟨c,v,e,h1,h2⟩:=h;exact⟨c,(v,()),e,h1,h2⟩
theorem Drw.bind{ρ σ:Type}{P:ρ->Prop}{Q:σ->Prop}{r:Option ((Cur×Unit)×ρ)}{k:(Cur×Unit)×ρ->Option ((Cur×Unit)×σ)}(h:Drw P r)(hk:∀c v,Wam c->P v->Drw Q (k ((c,()),v))):Drw Q (r.bind k):=by
 obtain⟨c,v,e,h1,h2⟩:=h;rw[e];exact hk c v h1 h2
theorem Drw.ok{ρ:Type}{P:ρ->Prop}{c:Cur}{v:ρ}(hc:Wam c)(hv:P v):Drw P (some ((c,()),v)):=⟨c,v,rfl,hc,hv⟩
theorem Drw.bif{ρ:Type}{P:ρ->Prop}{b:Bool}{x y:Option ((Cur×Unit)×ρ)}(h1:b=true->Drw P x)(h2:b=false->Drw P y):Drw P (bif b then x else y):=by
 cases b
 .exact h2 rfl
 .exact h1 rfl
theorem Drw.bifT{ρ:Type}{P:ρ->Prop}{b:Bool}{x y:Option ((Cur×Unit)×ρ)}(hb:b=true)(h1:Drw P x):Drw P (bif b then x else y):=by rw[hb];exact h1
theorem Drw.mono{ρ:Type}{P Q:ρ->Prop}{r:Option ((Cur×Unit)×ρ)}(h:Drw P r)(hq:∀v,P v->Q v):Drw Q r:=by
 obtain⟨c,v,e,h1,h2⟩:=h;exact⟨c,v,e,h1,hq v h2⟩
section
variable{N:Nat}{c:Cur}
theorem Wat(n:Int)(h:Wam c):Drw (λv:Int×Unit=>(n<=0->v.1=0)/\(0<n->0<=v.1/\v.1<n)) (Zb N c n):=.of (WeP h)
theorem Wi8(n:Int)(h:Wam c):Drw (λ_:Bool×Unit=>True) (Zs N c n):=.of (WnF h)
theorem WpV(l:List Int)(h:Wam c)(hl:0<l.length)(gh:l.length<1000):Drw (λv:Int×Unit=>v.1∈l) (Zaj N c l):=.of (WnO h hl (by omega))
theorem Wrn(h:Wam c):Drw (λv:Int×Unit=>0<=v.1/\v.1<=3) (Za N c):=by
 unfold Za;exact(Wat 4 h).bind λc v hc hv=>.ok hc (by have:=hv.2 (by decide);simp only[];omega)
theorem WpU(h:Wam c):Drw (λv:Int×Unit=>0<=v.1/\v.1<=65535) (Zbd N c):=by
 unfold Zbd;refine(Wi8 6 h).bind λc v hc _=>.bif (λ_=>?_) λ_=>?_
 .refine(WpV _ hc (by decide) (by decide)).bind λc v hc hv=>.ok hc ?_;simp only[Xm,List.not_mem_nil,or_false]at hv⊢;omega
 .exact(Wat 9 hc).bind λc v hc hv=>.ok hc (by have:=hv.2 (by decide);simp only[];omega)
theorem WpY(h:Wam c):Drw (λv:Int×Unit=>0<=v.1/\v.1<=7) (Z8 N c):=by
 unfold Z8;refine(Wi8 8 h).bind λc v hc _=>.bif (λ_=>?_) λ_=>?_
 .exact(Wat 8 hc).bind λc v hc hv=>.ok hc (by have:=hv.2 (by decide);simp only[];omega)
 .exact(Wat 3 hc).bind λc v hc hv=>.ok hc (by have:=hv.2 (by decide);simp only[];omega)
theorem Wrm(h:Wam c):Drw (λv:Int×Unit=>True) (Zg N c):=by
 unfold Zg;refine(Wi8 4 h).bind λc v hc _=>.bif (λ_=>?_) λ_=>?_
 .exact(Wat 8 hc).bind λc v hc hv=>.ok hc trivial
 .exact(WpV _ hc (by decide) (by decide)).bind λc v hc hv=>.ok hc trivial
theorem WkI(kind:Int)(h:Wam c):Drw (λ_:Opn×Unit=>True) (Zf N c kind):=by
 unfold Zf
 repeat' first
  |with_reducible refine Drw.bif (λ_=>?_) λ_=>?_
  |with_reducible refine(Wrn (by assumption)).bind λc v hc hv=>?_
  |with_reducible refine(WpU (by assumption)).bind λc v hc hv=>?_
  |with_reducible refine(WpY (by assumption)).bind λc v hc hv=>?_
  |with_reducible refine(Wrm (by assumption)).bind λc v hc hv=>?_
  |with_reducible refine(Wat _ (by assumption)).bind λc v hc hv=>?_
  |with_reducible exact .ok (by assumption) trivial
theorem WmS{rec:Cur->Int->Int->Bool->Option ((Cur×Unit)×(List Opn×Unit))}{most deep:Int}{kid:Bool}(hm:0<=most/\most<=100)
  (cD:∀c (m d:Int),Wam c->0<=m->m<most->Drw (λv:List Opn×Unit=>(v.1.length:Int)<=m+2) (rec c m d kid)):
  ∀(n i:Nat) (c:Cur) (l:List Opn),i<n->i<=1000->Wam c->(l.length:Int)<=most+2->Drw (λv:List Opn×Unit=>(v.1.length:Int)<=most+2) (Zc N rec most deep kid (λiJ iK dy dz=>(some ((dy,()),(dz,())))) n (i:Int) c l)
 |0,i,c,l,h,_,_,_=>by omega
 |n+1,i,c,l,h,hib,hc,hl=>by
  have hs:(0:Int)<i->WN .i64 (i:Int) 1=((i-1:Nat):Int):=λh0=>by rw[Wax (by unfold I64;omega)];omega
  have jA:WN .i64 most (We l)=most-(l.length:Int):=Wax (by unfold I64 We;omega);have jB:WN .i64 (most-(l.length:Int)) 3=most-(l.length:Int) -3:=Wax (by unfold I64;omega);simp only[Zc,jA,jB];refine .bif (λh0=>?_) λ_=>.ok hc hl;have h0:(i:Int)>0:=of_decide_eq_true h0;rw[hs h0];refine .bif (λh1=>?_) λ_=>.ok hc hl;have h1:(l.length:Int)<most:=of_decide_eq_true h1;have next:∀c' (l':List Opn),Wam c'->(l'.length:Int)<=most+2->Drw (λv:List Opn×Unit=>(v.1.length:Int)<=most+2) (Zc N rec most deep kid (λiJ iK dy dz=>(some ((dy,()),(dz,())))) n ((i-1:Nat):Int) c' l'):=
   λc' l' h1 h2=>WmS hm cD n (i-1) c' l' (by omega) (by omega) h1 h2
  have rm:∀(a:List Opn) (b:List Opn),(a.length:Int)+b.length<=1000->WB (a.length+b.length)=true:=λa b h=>Wy (by omega);have rz:∀c' (o:Opn),Wam c'->Drw (λv:List Opn×Unit=>(v.1.length:Int)<=most+2) (bif WB (l.length+ [o].length)then Zc N rec most deep kid (λiJ iK dy dz=>(some ((dy,()),(dz,())))) n ((i-1:Nat):Int) c' (Xf l [o])else none):=
   λc' o h2=>.bifT (rm _ _ (by simp;omega)) (next _ _ h2 (by simp[Xao];omega))
  refine(Wat 20 hc).bind λc v hc hv=>?_;have vJ:∀c',Wam c'->(4:Int)<=most-(l.length:Int)->Drw (λv:List Opn×Unit=>(v.1.length:Int)<=most+2) ((rec c' (most-(l.length:Int) -3) (WN .i64 deep 1) kid).bind λeK=>
           ((Zf N eK.1.1 (8:Int)).bind λdX=>
            (bif WB ((Xa l)+(Xa ([dX.2.1])))then
             (bif WB ((Xa (Xf l ([dX.2.1])))+(Xa eK.2.1))then
              ((Zs N dX.1.1 (3:Int)).bind λje=>
               (bif je.2.1 then
                (bif WB ((Xa (Xf (Xf l ([dX.2.1])) eK.2.1))+(Xa ([((10:Int),((0:Int),((0:Int),(0:Int))))])))then
                 (bif WB ((Xa (Xf (Xf (Xf l ([dX.2.1])) eK.2.1) ([((10:Int),((0:Int),((0:Int),(0:Int))))])))+(Xa ([((9:Int),((0:Int),((0:Int),(0:Int))))])))then
                  (Zc N rec most deep kid (λiJ iK dy dz=>(some ((dy,()),(dz,())))) n ((i-1:Nat):Int) je.1.1 (Xf (Xf (Xf (Xf l ([dX.2.1])) eK.2.1) ([((10:Int),((0:Int),((0:Int),(0:Int))))])) ([((9:Int),((0:Int),((0:Int),(0:Int))))])))else none)else none)
                else
                (bif WB ((Xa (Xf (Xf l ([dX.2.1])) eK.2.1))+(Xa ([((9:Int),((0:Int),((0:Int),(0:Int))))])))then
                 (Zc N rec most deep kid (λiJ iK dy dz=>(some ((dy,()),(dz,())))) n ((i-1:Nat):Int) je.1.1 (Xf (Xf (Xf l ([dX.2.1])) eK.2.1) ([((9:Int),((0:Int),((0:Int),(0:Int))))])))else none)))else none)else none))):=λc' eE h4=>by
   refine(cD c' _ _ eE (by omega) (by omega)).bind λc2 v2 fG iB=>(WkI 8 fG).bind λc3 v3 oE _=>?_;simp only[];refine .bifT (rm _ _ (by simp;omega)) (.bifT (rm _ _ (by simp[Xao];omega)) ((Wi8 3 oE).bind λc4 v4 pq _=>.bif (λ_=>?_) λ_=>?_))
   .exact .bifT (rm _ _ (by simp[Xao];omega)) (.bifT (rm _ _ (by simp[Xao];omega)) (next _ _ pq (by simp[Xao];omega)))
   .exact .bifT (rm _ _ (by simp[Xao];omega)) (next _ _ pq (by simp[Xao];omega))
  repeat' first
   |with_reducible exact rz _ _ (by assumption)
   |with_reducible refine Drw.bif (λ_=>?_) λ_=>?_
   |with_reducible refine(WkI _ (by assumption)).bind λc v hc hv=>?_
   |with_reducible refine(Wi8 _ (by assumption)).bind λc v hc hv=>?_
   |with_reducible refine(Wat _ (by assumption)).bind λc v hc hv=>?_
   |exact vJ _ (by assumption) (by simp only[decide_eq_true_eq,ge_iff_le]at*;omega)
  all_goals
   rename_i hx;have hx:=of_decide_eq_true hx;refine(cD _ 2 0 (by assumption) (by omega) (by omega)).bind λc2 v2 fG iB=>(WkI 7 fG).bind λc3 v3 oE _=>?_;simp only[];exact .bifT (rm _ _ (by simp;omega)) (.bifT (rm _ _ (by simp[Xao];omega)) (next _ _ oE (by simp[Xao];omega)))
theorem WpI(hN:1048576<N):∀(m:Nat) (c:Cur) (most deep:Int) (kid:Bool),Wam c->0<=most->most<=100->most<m->Drw (λv:List Opn×Unit=>(v.1.length:Int)<=most+2) (Zcd N m c most deep kid)
 |0,c,most,deep,kid,hc,h0,h1,h2=>by omega
 |m+1,c,most,deep,kid,hc,h0,h1,h2=>by
  unfold Zcd;refine(Wat most hc).bind λc v hc hv=>?_;have iB:0<=v.1/\v.1<=100:=by
   by_cases hm:most<=0
   .have:=hv.1 hm;omega
   .have:=hv.2 (by omega);omega
  have e:Wf .i64 1 v.1=(((1+v.1).toNat:Nat):Int):=by rw[WI (by unfold I64;omega)];omega
  simp only[e];exact WmS ⟨h0,h1⟩ (λc m' d eE q0 q1=>WpI hN m c m' d kid eE q0 (by omega) (by omega)) N _ c [] (by omega) (by omega) hc (by simp;omega)
theorem Wrl(hN:1048576<N){most deep:Int}{kid:Bool}(hc:Wam c)(h0:0<=most)(h1:most<=100):Drw (λv:List Opn×Unit=>v.1.length<=102) (Zim N c most deep kid):=by
 unfold Zim;exact(WpI hN N c most deep kid hc h0 h1 (by omega)).mono λv hv=>by omega
theorem Wk2(hN:1048576<N):∀(n i:Nat) (c:Cur) (l:List Int),8-i<n->i<=8->Wam c->l.length=i->
  Drw (λv:List Int×Unit=>v.1.length=8) (Zaz N (λpf bG aW cO=>(some ((aW,()),(cO,())))) n (i:Int) c l)
 |0,i,c,l,h,_,_,_=>by omega
 |n+1,i,c,l,h,hi,hc,hl=>by
  unfold Zaz;refine .bif (λh0=>?_) λh0=>.ok hc (by have h0:=of_decide_eq_false h0;simp only[];omega);have h0:(i:Int)<8:=of_decide_eq_true h0;rw[Wj (show i<4611686018427387904 by omega)];refine(WpU hc).bind λc v hc hv=>.bifT (Wy (by simp;omega)) ?_;exact Wk2 hN n (i+1) c _ (by omega) (by omega) hc (by simp[Xao];omega)
theorem Wq2(hN:1048576<N)(hc:Wam c):Drw (λv:List Int×Unit=>v.1.length=8) (Zco N c):=by
 unfold Zco;exact Wk2 hN N 0 c [] (by omega) (by omega) hc rfl
end
end
section
theorem Wl6{α:Type}{a b:Option α}(h:a=b):Wmo a b=a:=by unfold Wmo;rw[if_pos h]
section
variable{N:Nat}{c:Cur}
theorem Wrd(hc:Wam c):Drw (λv:Opn×Unit=>True) (Zhh N c):=by
 unfold Zhh;refine(Wat 16 hc).bind λc v hc hv=>(WkI _ hc).bind λc w hc _=>(Wat 16 hc).bind λc v hc hv=>.bif (λ_=>?_) λ_=>.bif (λ_=>?_) λ_=>.bif (λ_=>?_) λ_=>.bif (λ_=>?_) λ_=>.ok hc trivial
 all_goals exact(WpV _ hc (by decide) (by decide)).bind λc v hc hv=>.ok hc trivial
theorem WkT:∀(n:Nat) (c:Cur) (l:List Opn),600-l.length<n->Wam c->l.length<=500->
  Drw (λv:List Opn×Unit=>v.1.length<=600) (Zcp N (λbQ cF cr=>(some ((cF,()),(cr,())))) n c l)
 |0,c,l,h,_,_=>by omega
 |n+1,c,l,h,hc,hl=>by
  unfold Zcp;refine(Wat 2 hc).bind λc v hc hv=>?_;have hv:=hv.2 (by decide);have e:Wf .i64 24 v.1=24+v.1:=WI (by unfold I64;omega);simp only[e];refine .bif (λh0=>?_) λ_=>.ok hc (by simp only[];omega);have h0:(l.length:Int)<24+v.1:=of_decide_eq_true h0;exact .bifT (Wy (by simp;omega)) (WkT n c _ (by simp[Xao];omega) hc (by simp[Xao];omega))
theorem Wq8(hN:1048576<N){l:List Opn}(hc:Wam c)(hl:l.length<=500):Drw (λv:List Opn×Unit=>v.1.length<=600) (Zd4 N c l):=by
 unfold Zd4;have en:Xf ([]:List Opn) l=l:=rfl;simp only[en];refine .bifT (Wy (by simp;omega)) (.bif (λ_=>.ok hc (by simp)) λh0=>?_);have hpos:0<l.length:=by
  cases l with
  |nil=>exact absurd h0 (by decide)
  |cons a b=>simp
 refine(Wat (We l) hc).bind λc k hc hk=>?_;have hk:=hk.2 (by unfold We;omega);unfold We at hk;obtain⟨k,u⟩:=k;simp only at hk;obtain⟨j,rfl⟩:=Xfn hk.1;have hj:j<l.length:=by omega
 have ei:inb (j:Int) l.length=true:=Wt hj;have e1:Wf .i64 (j:Int) 1=((j+1:Nat):Int):=Wj (by omega);have c1:((decide ((0:Int)<=(j:Int)))&&(decide ((j:Int)<=((Xa l):Int))))=true:=by simp;omega
 have c2:((decide ((0:Int)<=((j+1:Nat):Int)))&&(decide (((j+1:Nat):Int)<=((Xa l):Int))))=true:=by simp;omega
 refine(Wat 6 hc).bind λc v hc hv=>?_;simp only[e1,ei,c1,c2,cond_true,Wl6 rfl];refine .bif (λ_=>?_) λ_=>.bif (λ_=>.ok hc (by simp;omega)) λ_=>.bif (λ_=>?_) λ_=>.bif (λ_=>?_) λ_=>.bif (λ_=>.ok hc (by simp;omega)) λ_=>?_
 .exact(Wrd hc).bind λc w hc _=>.ok hc (by simp;omega)
 .have hlen:(List.drop (Xb ((j+1:Nat):Int)) (Xbs l.length l)).length=l.length-(j+1):=by rw[Xp,List.length_drop,Xau];omega
  have gq:(Xbs (Xb (j:Int)) l).length=j:=by rw[Xp,Xau];omega
  exact .bifT (Wy (by rw[Xp];omega)) (.ok hc (by simp only[Xao,Xs];omega))
 .exact WkT N c l (by omega) hc hl
 .exact(Wat 2 hc).bind λc w hc _=>.ok hc (by simp;omega)
end
end
section
variable{N:Nat}{m:Mm}{f g:Fm}{x y:Kd}{k:Nat}{n:Int}{code:List Opn}{codes:List (List Opn)}
end
section
variable{N:Nat}{m:Mm}{f g:Fm}{x y:Kd}{k:Nat}{n:Int}{code:List Opn}{codes:List (List Opn)}{e:En}
end
section
abbrev FSc:=List Int×List Int×List Rw×List (List Opn)×List Int
noncomputable def WjN(s:FSc):Bool:=WbS s.1&&(Wa4 s.2.1&&(Wa1 s.2.2.1&&((decide (1<=(We s.2.2.2.1))&&decide ((We s.2.2.2.1)<=3))&&(decide (We s.2.2.2.2<=300)&&s.2.2.2.1.all Wce))))
structure FSB(s:FSc):Prop where
 a:s.1.length<=1048576
 b:s.2.1.length<=1048576
 c:s.2.2.1.length<=1048576
 d:s.2.2.2.1.length<=1048576
 e:∀l∈s.2.2.2.1,l.length<=1048576
 f:s.2.2.2.2.length<=1048576
variable{N:Nat}{s:FSc}{m:Mm}{f:Fm}{n:Int}
theorem WfA{α V R:Type}{body:Int->α->V->(V->Option R)->Option R}{K:Int->V->Option R}{E:Option R}(p:α->Bool):∀(l:List α) (j:Nat) (v:V),(∀(j:Nat) x v k,x∈l->body j x v k=bif !p x then E else k v)->WbL body K l j v=bif l.all p then K ((j+l.length:Nat):Int) v else E
 | [],j,v,_=>rfl
 |x::l,j,v,h=>by
  rw[WbL,h j x v _ (Xh ..),WfA p l (j+1) v λj y v k hy=>h j y v k (Xe _ hy),List.all_cons];cases p x
  .rfl
  .simp only[Xah,cond_false,Xca,Xt];rw[show j+1+l.length=j+(l.length+1) by omega]
theorem Wfg(h:FSB s)(hN:1048576<N):Zdq N s=ret (WjN s):=by
 unfold Zdq WjN;rw[Wbv h.a hN,Wc2 h.b hN,Wbq h.c hN,Wb8];have h1:=WG (l:=s.2.2.2.1) (V:=Unit) (R:=Unit×Km) (lp:=λn j v=>Za2 N s (some ((),(false,()))) (λgS bQ=>(some ((),(true,())))) n j) (n:=N) (by have:=h.d;omega)
  (body:=λj x v k=>(Zc7 N x).bind λo=>bif !o.2.1 then some ((),(false,()))else k v) (K:=λ_ v=>some ((),(true,())))
  (λn i v hi=>by simp only[Za2,Waa hi,Wt hi,Wz hi,Wj (show i<4611686018427387904 by have:=h.d;omega),cond_true])
  (λn v=>by simp only[Za2,Was (Xl _),cond_false]) ()
 rw[WfA Wce (E:=some ((),(false,()))) _ 0 () (λj x v k hx=>by rw[Wgp (h.e x hx) hN];rfl)]at h1;have dP:Za2 N s (some ((),(false,()))) (λgS bQ=>(some ((),(true,())))) N 0=(bif s.2.2.2.1.all Wce then some ((),(true,()))else some ((),(false,())):Option Kf):=h1;rw[dP];have hd:decide (We s.2.2.2.2>300)= !decide (We s.2.2.2.2<=300):=by by_cases z:We s.2.2.2.2<=300<;>simp[z]<;>omega
 rw[hd];simp only[ret,Xd];cases WbS s.1<;>cases Wa4 s.2.1<;>cases Wa1 s.2.2.1<;>cases(decide (1<=We s.2.2.2.1)&&decide (We s.2.2.2.1<=3))<;>cases decide (We s.2.2.2.2<=300)<;>cases s.2.2.2.1.all Wce<;>rfl
theorem Wiv(h:FSB s)(hN:1048576<N):Zes N s=ret (WjN s):=by
 unfold Zes WjN;rw[Wb4 h.a hN,WbZ h.b hN,Wa3 h.c hN,Wp];have h1:=WG (l:=s.2.2.2.1) (V:=Unit) (R:=Unit×Km) (lp:=λn j v=>Zb9 N s.2.2.2.1 s (some ((),(false,()))) (λaV bG=>
  ((ret (WbS s.1)).bind λcX=>
 (bif cX.2.1 then
 ((ret (Wa4 s.2.1)).bind λdE=>
 (bif dE.2.1 then
 ((ret (Wa1 s.2.2.1)).bind λeV=>
 (bif eV.2.1 then
 ((ret (decide (1<=We s.2.2.2.1)&&decide (We s.2.2.2.1<=3))).bind λeW=>
 (bif eW.2.1 then
 (some ((),(decide ((We s.2.2.2.2)<=(300:Int)),())))
 else
 (some ((),(false,())))))
 else
 (some ((),(false,())))))
 else
 (some ((),(false,())))))
 else
 (some ((),(false,())))))) n j) (n:=N) (by have:=h.d;omega)
  (body:=λj x v k=>(Zdr N x).bind λo=>bif !o.2.1 then some ((),(false,()))else k v) (K:=λ_ v=>((ret (WbS s.1)).bind λcX=>
 (bif cX.2.1 then
 ((ret (Wa4 s.2.1)).bind λdE=>
 (bif dE.2.1 then
 ((ret (Wa1 s.2.2.1)).bind λeV=>
 (bif eV.2.1 then
 ((ret (decide (1<=We s.2.2.2.1)&&decide (We s.2.2.2.1<=3))).bind λeW=>
 (bif eW.2.1 then
 (some ((),(decide ((We s.2.2.2.2)<=(300:Int)),())))
 else
 (some ((),(false,())))))
 else
 (some ((),(false,())))))
 else
 (some ((),(false,())))))
 else
 (some ((),(false,()))))))
  (λn i v hi=>by simp only[Zb9,Waa hi,Wt hi,Wz hi,Wj (show i<4611686018427387904 by have:=h.d;omega),cond_true])
  (λn v=>by simp only[Zb9,Was (Xl _),cond_false]) ()
 rw[WfA Wce (E:=some ((),(false,()))) _ 0 () (λj x v k hx=>by rw[Wkl (h.e x hx) hN];rfl)]at h1;refine h1.trans ?_;simp only[ret,Xd];cases WbS s.1<;>cases Wa4 s.2.1<;>cases Wa1 s.2.2.1<;>cases(decide (1<=We s.2.2.2.1)&&decide (We s.2.2.2.1<=3))<;>cases decide (We s.2.2.2.2<=300)<;>cases s.2.2.2.1.all Wce<;>rfl
def Wge(m:Mm)(i:Int):Mm:=((WeE m).1.1,Wn5 (WeE m).1.2 i (((WdD (WeE m).1.2 i zWd).1+1)%65536,((WeE m).2,(WdD (WeE m).1.2 i zWd).2.2)))
def Wip(codes:List (List Opn))(p:Mm×Fm)(a:Int):Mm×Fm:=
 if 10<=a/\a<=17 then(Wge p.1 (a-10),p.2)else
 if 0<=a/\a<codes.length then(p.1,WaY p.1 p.2 a.toNat (codes.getD a.toNat []))else p
structure PI(codes:List (List Opn))(n:Int)(p:Mm×Fm):Prop where
 mem:WaL p.1=true
 clk:p.1.1<=n
 fam:FOk codes n p.2
theorem Wqj(h:WaL m=true)(hc:m.1<1000000){i:Int}(hi:0<=i/\i<=7):WaL (Wge m i)=true/\(Wge m i).1=m.1+1:=by
 have et:WeE m=((m.1+1,m.2),m.1+1):=by unfold WeE;rw[if_pos hc]
 obtain⟨t1,t2,t3,t4,t5⟩:=WpO h;unfold Wge;rw[et]at t1⊢;simp only at t1⊢;refine⟨?_,trivial⟩;have h0:=(W2 h).2.1;have hw:=Wed.1 (WhV t1 hi);have:=WpR t1 (i:=i) (w:=(((WdD m.2 i zWd).1+1)%65536,(m.1+1,(WdD m.2 i zWd).2.2))) (Wed.2 (by
  have e:WaU (m.1+1,m.2) i=WdD m.2 i zWd:=rfl;rw[e]at hw;refine⟨by omega,by simp only;omega,hw.2.2⟩))
 exact this
theorem WkC{codes:List (List Opn)}{p:Mm×Fm}{a:Int}(hk:∀c∈codes,KC c)(h:PI codes n p)(hn:n<1000000):PI codes (n+1) (Wip codes p a):=by
 unfold Wip;split
 .have:=Wqj h.mem (by have:=h.clk;omega) (i:=a-10) (by omega);exact⟨this.1,by rw[this.2];have:=h.clk;omega,h.fam.wk (by omega)⟩
 .split
  .rename_i ha;have hl:=h.fam.len;have ky:codes.getD a.toNat []=codes[a.toNat]'(by omega):=WE (by omega) _;refine⟨h.mem,by have:=h.clk;show p.1.1<=n+1;omega,?_⟩;exact Wlg (by omega) h.mem (by rw[ky];exact hk _ (Xac _)) h.fam rfl
  .exact⟨h.mem,by have:=h.clk;omega,h.fam.wk (by omega)⟩
theorem WlF{i:Int}(h:WaL m=true)(hc:m.1<1000000)(hi:0<=i/\i<=7):inb i (WeE m).1.2.length=true/\WgB (Wf .i64 (Xc (WeE m).1.2 (Xb i) ((0:Int),((0:Int),(0:Int)))).1 (1:Int)) (65536:Int)=((WdD (WeE m).1.2 i zWd).1+1)%65536:=by
 have et:WeE m=((m.1+1,m.2),m.1+1):=by unfold WeE;rw[if_pos hc]
 rw[et];have h8:=(W2 h).1;have hw:=Wed.1 (WhV h hi);have e:Xc m.2 (Xb i) ((0:Int),((0:Int),(0:Int)))=WaU m i:=rfl;have e':WdD m.2 i zWd=WaU m i:=rfl;refine⟨by unfold inb;simp;omega,?_⟩;simp only;rw[e,e',WI (by unfold I64;omega)];unfold WgB;exact Xdy (by omega)
theorem Wrp{l:List Wd}{i:Nat}{u:Int}{r:Int×Int}{b:Int}(h:i<l.length):Xo (Xo l i (u,r)) i ((Xc (Xo l i (u,r)) i ((0:Int),((0:Int),(0:Int)))).1,(b,(Xc (Xo l i (u,r)) i ((0:Int),((0:Int),(0:Int)))).2.2))=Xo l i (u,(b,r.2)):=by
 have:Xc (Xo l i (u,r)) i ((0:Int),((0:Int),(0:Int)))=(u,r):=by
  rw[WE (by rw[Xad];exact h)];exact Xem ..
 rw[this,Xdq]
end
section
set_option synthInstance.maxSize 20000
set_option synthInstance.maxHeartbeats 4000000
end
section

end
section
variable{N:Nat}{s:FSc}{m:Mm}{f:Fm}{n:Int}{x:Kd}{codes:List (List Opn)}{code:List Opn}
def MB(n:Int)(l:List KM):Prop:=(l.length:Int)<=n/\∀y∈l,y.2.2.length<=4
theorem MB.wk{n n':Int}{l:List KM}(h:MB n l)(hn:n<=n'):MB n' l:=⟨Int.le_trans h.1 hn,h.2⟩
theorem MB.dl{l:List KM}(h:MB n l):MB n l.dropLast:=⟨by have:=h.1;rw[List.length_dropLast];omega,λy hy=>h.2 y (List.dropLast_subset _ hy)⟩
theorem MB.nil(h:0<=n):MB n []:=⟨h,λy hy=>by cases hy⟩
theorem MB.sn{l:List KM}{y:KM}(h:MB n l)(hy:y.2.2.length<=4):MB (n+1) (l++ [y]):=⟨by have:=h.1;simp;omega,λz hz=>by
 rcases Xk.1 hz with h1|h1
 .exact h.2 z h1
 .rw[Xab.1 h1];exact hy⟩
theorem Wk9{o:Opn}(h:MB n x.marks)(h0:0<=n):MB n (WaG m f x o).2.marks/\(WaG m f x o).1.start=f.start:=by
 unfold WaG;cases WaF x.writes o.2.2.1 with
 |some v=>exact⟨h,rfl⟩
 |none=>
  cases ent f.buf o.2.2.1 with
  |some r=>
   simp only;split
   .exact⟨MB.nil h0,rfl⟩
   .exact⟨h,rfl⟩
  |none=>
   simp only;generalize WM m f.rv _=p
   repeat' split
   all_goals exact⟨h,rfl⟩
theorem WoU{k:Nat}(h:MB n x.marks)(hr:x.regs.length<=4)(h0:0<=n):MB (n+1) (WaA m f x k code).2.marks/\(WaA m f x k code).1.start=f.start/\(WaA m f x k code).1.kids=f.kids:=by
 have hw:MB (n+1) x.marks:=h.wk (by omega);unfold WaA;split
 .unfold WeL;split
  .exact⟨hw,rfl,rfl⟩
  .simp only;split
   .exact⟨(Wk9 h h0).1.wk (by omega),(Wk9 h h0).2,Whh ..⟩
   .split
    .refine⟨?_,rfl,rfl⟩;unfold Wdd;split
     .exact hw
     .exact hw.dl
    .split
     .exact⟨hw,rfl,rfl⟩
     .split
      .exact⟨hw,rfl,rfl⟩
      .split
       .exact⟨h.sn hr,rfl,rfl⟩
       .split
        .exact⟨hw.dl,rfl,rfl⟩
        .exact⟨hw,rfl,rfl⟩
 .split
  .split
   .exact⟨hw,rfl,rfl⟩
   .exact⟨hw,rfl,rfl⟩
  .split
   .split
    .exact⟨MB.nil (by omega),rfl,rfl⟩
    .simp only;split
     .exact⟨hw,rfl,rfl⟩
     .exact⟨MB.nil (by omega),rfl,rfl⟩
   .exact⟨hw,rfl,rfl⟩
structure PZ(n:Int)(f:Fm):Prop where
 st:f.start.length<=8
 mks:∀x∈f.kids,MB n x.marks
theorem Wqk{p:Mm×Fm}{a:Int}(h:PI codes n p)(hz:PZ n p.2)(h0:0<=n):PZ (n+1) (Wip codes p a).2:=by
 have hw:PZ (n+1) p.2:=⟨hz.st,λx hx=>(hz.mks x hx).wk (by omega)⟩;unfold Wip;split
 .exact hw
 .split
  .rename_i ha;show PZ (n+1) (WaY p.1 p.2 a.toNat (codes.getD a.toNat []));unfold WaY;split
   .exact hw
   .have hl:=h.fam.len;have hk:a.toNat<p.2.kids.length:=by omega
    have eD:p.2.kids.getD a.toNat {}=p.2.kids[a.toNat]:=by rw[Xv,Xq hk];rfl
    rw[eD];have cu:=h.fam.kid a.toNat hk;obtain⟨k1,k2,k3⟩:=WoU (m:=p.1) (f:=p.2) (code:=codes.getD a.toNat []) (k:=a.toNat) (hz.mks _ (Xac hk)) (by have:=cu.regs.len;omega) h0;refine⟨by show Xa (WaA ..).1.start<=8;rw[k2];exact hz.st,λx hx=>?_⟩;have lV:x∈(WaA p.1 p.2 p.2.kids[a.toNat] a.toNat (codes.getD a.toNat [])).1.kids.set a.toNat (WaA p.1 p.2 p.2.kids[a.toNat] a.toNat (codes.getD a.toNat [])).2:=hx;rw[k3]at lV;rcases List.mem_or_eq_of_mem_set lV with h1|h1
    .exact(hz.mks x h1).wk (by omega)
    .rw[h1];exact k1
  .exact hw
theorem WnY(hk:∀c∈codes,KC c):∀(l:List Int) (n:Int) (p:Mm×Fm),PI codes n p->PZ n p.2->0<=n->n+l.length<=90000->PI codes (n+l.length) (l.foldl (Wip codes) p)/\PZ (n+l.length) (l.foldl (Wip codes) p).2
 | [],n,p,h,hz,_,_=>by simpa using⟨h,hz⟩
 |a::l,n,p,h,hz,h0,h1=>by
  rw[Xt]at h1⊢;have:=WnY hk l (n+1) _ (WkC (a:=a) hk h (by omega)) (Wqk (a:=a) h hz h0) (by omega) (by push_cast at h1;omega);rw[show n+((l.length+1:Nat):Int)=n+1+l.length by push_cast;omega];exact this
noncomputable def WhI(s:FSc):Mm×Fm:=s.2.2.2.2.foldl (Wip s.2.2.2.1) (WfR s.1,WaE 0 s.2.1 s.2.2.1 s.2.2.2.1.length)
theorem Wcf(h:WjN s=true):Vals 8 s.1/\Vals 4 s.2.1/\s.2.2.1.length<=300/\s.2.2.2.1.length<=3/\s.2.2.2.2.length<=300/\∀c∈s.2.2.2.1,KC c:=by
 unfold WjN at h;simp only[Xi,decide_eq_true_eq,Xai]at h;obtain⟨h1,h2,h3,⟨h4,h5⟩,h6,h7⟩:=h;refine⟨WbC.1 h1,WbE.1 h2,?_,by unfold We at h5;omega,by unfold We at h6;omega,λc hc=>Wqt (h7 c hc)⟩;unfold Wa1 at h3;simp only[Xi,decide_eq_true_eq]at h3;exact h3.1
theorem WfX(h:WjN s=true):PI s.2.2.2.1 0 (WfR s.1,WaE 0 s.2.1 s.2.2.1 s.2.2.2.1.length)/\PZ 0 (WaE 0 s.2.1 s.2.2.1 s.2.2.2.1.length):=by
 obtain⟨h1,h2,h3,h4,h5,h6⟩:=Wcf h;refine⟨⟨?_,Xco _,WnJ h2 (Xco _)⟩,?_,?_⟩
 .have:=h1.len;unfold WaL WfR;simp only[Xz,this,decide_true,Xca,Xi,decide_eq_true_eq,Xai];refine⟨by omega,λw hw=>?_⟩;obtain⟨v,hv,rfl⟩:=Xu.1 hw;have:=h1.val v hv;rw[Wed];unfold wd0;simp only;omega
 .exact Wfr _
 .intro x hx;have:=List.eq_of_mem_replicate hx;rw[this];exact MB.nil (Xco _)
theorem Wlu(h:WjN s=true):PI s.2.2.2.1 300 (WhI s)/\PZ 300 (WhI s).2:=by
 obtain⟨h1,h2,h3,h4,h5,h6⟩:=Wcf h;obtain⟨p,q⟩:=WfX h;obtain⟨p',q'⟩:=WnY h6 s.2.2.2.2 0 _ p q (Xco _) (by omega);refine⟨⟨p'.mem,by have:=p'.clk;unfold WhI;omega,p'.fam.wk (by omega)⟩,q'.st,λx hx=>(q'.mks x hx).wk (by omega)⟩
noncomputable def WfO(s:FSc):Kt×Y_Family:=if WjN s=true then((WhI s).1,(WhI s).2.e)else((0,[]),d_Family)
end
section
def lst:List Rw->Int->Option Int
 | [],_=>none
 |r::l,c=>match lst l c with
  |some v=>some v
  |none=>if r.1=c then some r.2 else none
theorem WhO(a:List Rw)(b:List Rw)(c:Int):lst (a++b) c=match lst b c with|some v=>some v|none=>lst a c:=by
 induction a with
 |nil=>rw[Xbv];cases lst b c<;>rfl
 |cons r a ih=>
  rw[Xaw,lst,ih];cases lst b c<;>rfl
theorem WgN{l:List Rw}{c:Int}:∀i,i<=l.length->Wdx l c i=lst (l.take i) c
 |0,_=>by simp[Wdx,lst]
 |i+1,h=>by
  rw[Wdx,List.take_succ_eq_append_getElem (by omega),WhO,WgN i (by omega),WE (show i<l.length by omega)];show _=match(if l[i].1=c then some l[i].2 else none)with|some v=>some v|none=>_
  by_cases h:l[i].1=c
  .rw[if_pos h,if_pos h]
  .rw[if_neg h,if_neg h]
theorem Wbt{l:List Rw}(h:WdJ l)(hl:l.length<=300):Wa1 l=true:=by
 unfold Wa1;rw[Xi];exact⟨decide_eq_true hl,Wij.2 h⟩
theorem Wet{l:List Rw}{c:Int}(h:WdJ l)(hl:l.length<=300):WaF l c=lst l c:=by
 unfold WaF;rw[if_pos (Wbt h hl),WgN _ (Xl _),Xct]
theorem WfG{c v:Int}:∀{l:List Rw},lst l c=some v->(c,v)∈l
 | [],h=>by cases h
 |r::l,h=>by
  rw[lst]at h;cases hl:lst l c with
  |some w=>rw[hl]at h;cases h;exact Xe _ (WfG hl)
  |none=>
   rw[hl]at h;by_cases hc:r.1=c
   .simp only[if_pos hc]at h;cases h;rw[←hc];exact Xh ..
   .simp only[if_neg hc]at h;cases h
theorem Wez{b:List En}{c:Int}{r:Nat×En}(h:ent b c=some r):r.2∈b/\r.2.1=c:=by
 obtain⟨h1,h2,h3,h4⟩:=WdP h;exact⟨List.mem_of_getElem? h4,by simpa using h1⟩
theorem Whr{b:List En}{c:Int}(h:ent b c=none):∀e∈b,e.1≠c:=λe he=>by
 have:=Wh5 h e he;simpa using this
theorem Wf5{c:Int}{e:En}:∀{rows:List Rw} {b:List En},Ris cfE b->rows.Pairwise (λa b=>a.1<b.1)->
  (e∈Wab c b rows↔(∃r∈rows,e=(r.1,r.2,c))\/(e∈b/\∀r∈rows,r.1≠e.1))
 | [],b,_,_=>by unfold Wab;simp
 |r::rows,b,hb,hr=>by
  obtain⟨fM,eT⟩:=Xy.1 hr;have:=Wf5 (c:=c) (e:=e) (rows:=rows) (b:=WfY cfE b (r.1,r.2,c)) (WcP Wpg hb) eT;unfold Wab at this⊢;rw[Xcq,this,WcO Wpg hb];constructor
  .rintro(⟨r',h1,h2⟩|⟨h1|⟨h1,h2⟩,h3⟩)
   .exact .inl ⟨r',Xe _ h1,h2⟩
   .exact .inl ⟨r,Xh ..,h1⟩
   .refine .inr ⟨h1,λr' aS=>?_⟩;rcases Xm.1 aS with rfl|aS
    .rw[apE]at h2;exactλq=>h2 q.symm
    .exact h3 r' aS
  .rintro(⟨r',h1,h2⟩|⟨h1,h2⟩)
   .rcases Xm.1 h1 with rfl|h1
    .refine .inr ⟨.inl h2,λr'' rD=>?_⟩;have:=fM r'' rD;rw[h2];simp only;omega
    .exact .inl ⟨r',h1,h2⟩
   .refine .inr ⟨.inr ⟨h1,?_⟩,λr' aS=>h2 r' (Xe _ aS)⟩;rw[apE];exactλq=>h2 r (Xh ..) q.symm
def WiB(f:Fm)(k:Int):List Rw:=(f.kids.getD k.toNat {}).writes
def Wh(f:Fm)(n:Nat):List Rw:=f.start++((f.order.take n).map (WiB f)).flatten
theorem Wep{f f':Fm}{n:Nat}(hs:f'.start=f.start)(ho:f'.order.take n=f.order.take n)(hw:∀k∈f.order,WiB f' k=WiB f k):Wh f' n=Wh f n:=by
 unfold Wh;rw[hs,ho];congr 2;exact Xci λk hk=>hw k (Xcf hk)
def SN(M:Int->Int->Prop)(f:Fm)(x:Kd):Prop:=∀e∈x.seen,
 (e.2.2= -1/\lst (Wh f x.since.toNat) e.1=none/\M e.1 e.2.1)\/
 (0<=e.2.2/\e.2.2<=x.since/\lst (Wh f e.2.2.toNat) e.1=some e.2.1/\lst (Wh f x.since.toNat) e.1=some e.2.1)
structure FT(M:Int->Int->Prop)(f:Fm):Prop where
 buf:∀e∈f.buf,∀n:Nat,e.2.2<=(n:Int)->n<=f.order.length->lst (Wh f n) e.1=some e.2.1
 non:∀c:Int,0<=c->c<=7->(∀e∈f.buf,e.1≠c)->∀n:Nat,n<=f.order.length->lst (Wh f n) c=none
 sn:∀(k:Nat) (h:k<f.kids.length),SN M f f.kids[k]
 nod:f.order.Nodup
 ord:∀k∈f.order,0<=k/\∃h:k.toNat<f.kids.length,f.kids[k.toNat].phase=3
theorem FT.wk{M M':Int->Int->Prop}{f:Fm}(h:FT M f)(hM:∀c v,M c v->M' c v):FT M' f:=
 ⟨h.buf,h.non,λk hk e he=>(h.sn k hk e he).imp (λ⟨a,b,c⟩=>⟨a,b,hM _ _ c⟩) id,h.nod,h.ord⟩
section
variable{M:Int->Int->Prop}{N:Nat}{codes:List (List Opn)}{n:Int}{f:Fm}{k:Nat}{code:List Opn}{m:Mm}{x y:Kd}
theorem Wp3(hk:k<f.kids.length):f.kids.getD k {}=f.kids[k]:=by rw[Xv,Xq hk];rfl
theorem FT.put(h:FT M f)(hk:k<f.kids.length)(hp:f.kids[k].phase≠3){g:Fm}(hs:g.start=f.start)(ho:g.order=f.order)(hb:g.buf=f.buf)(hg:g.kids=f.kids.set k y)(hy:SN M f y):FT M g:=by
 have hw:∀j∈f.order,WiB g j=WiB f j:=λj hj=>by
  obtain⟨j0,j1,j2⟩:=h.ord j hj;unfold WiB;have hne:k≠j.toNat:=λe=>by subst e;exact hp j2
  rw[hg,Xv,Xv,Xcr hne]
 have hr:∀n,Wh g n=Wh f n:=λn=>Wep hs (by rw[ho]) hw;refine⟨λe he n h1 h2=>?_,λc c0 c7 hc n hn=>?_,λj hj e he=>?_,by rw[ho];exact h.nod,λj hj=>?_⟩
 .rw[hr];exact h.buf e (by rw[←hb];exact he) n h1 (by rw[←ho];exact h2)
 .rw[hr];exact h.non c c0 c7 (by rw[←hb];exact hc) n (by rw[←ho];exact hn)
 .rw[hr,hr];have hj':j<f.kids.length:=by rw[hg,Xad]at hj;exact hj
  have bB:g.kids[j]=if k=j then y else f.kids[j]:=by simp only[hg,Xbi]
  rw[bB]at he⊢;split at he
  .rename_i e1;rw[if_pos e1];exact hy e he
  .rename_i e1;rw[if_neg e1];exact h.sn j hj' e he
 .rw[ho]at hj;obtain⟨j0,j1,j2⟩:=h.ord j hj;refine⟨j0,by rw[hg,Xad];exact j1,?_⟩;simp only[hg,Xbi];split
  .rename_i e;subst e;exact absurd j2 hp
  .exact j2
theorem SN.nil(h:x.seen= []):SN M f x:=λe he=>by rw[h]at he;cases he
theorem SN.same(h:SN M f x)(hs:y.seen=x.seen)(hq:y.since=x.since):SN M f y:=λe he=>by rw[hq];exact h e (by rw[←hs];exact he)
theorem SN.snoc(h:SN M f x){e:En}(hs:y.seen=x.seen++ [e])(hq:y.since=x.since)(he:(e.2.2= -1/\lst (Wh f x.since.toNat) e.1=none/\M e.1 e.2.1)\/(0<=e.2.2/\e.2.2<=x.since/\lst (Wh f e.2.2.toNat) e.1=some e.2.1/\lst (Wh f x.since.toNat) e.1=some e.2.1)):SN M f y:=λz hz=>by
 rw[hs]at hz;rw[hq];rcases Xk.1 hz with hz|hz
 .exact h z hz
 .rw[Xab.1 hz];exact he
def RdM(M:Int->Int->Prop)(m:Mm)(rv:Int)(x:Kd)(c:Int):Prop:=(WM m rv (if x.busy then x.pb else(c,0,0,0))).2.1=3->M c (WM m rv (if x.busy then x.pb else(c,0,0,0))).2.2.2
theorem WoB(h:FT M f)(hF:FOk codes n f)(hk:k<f.kids.length)(hx:f.kids[k]=x){o:Opn}(ho:0<=o.2.2.1/\o.2.2.1<=7)(lS:RdM M m f.rv x o.2.2.1):SN M f (WaG m f x o).2:=by
 unfold RdM at lS;have hs:SN M f x:=hx▸h.sn k hk;have cu:=hF.kid k hk;rw[hx]at cu;have hcl:=hF.clock;have pr:=cu.since;unfold WaG;cases hl:WaF x.writes o.2.2.1 with
 |some v=>exact hs.same rfl rfl
 |none=>
  cases he:ent f.buf o.2.2.1 with
  |some r=>
   simp only;split
   .exact SN.nil rfl
   .rename_i hv;obtain⟨e1,e2⟩:=Wez he;have pt:=hF.bufE _ e1;refine hs.snoc (e:=r.2) rfl rfl (.inr ⟨pt.2.2.1,by omega,?_,?_⟩)
    .exact h.buf _ e1 _ (by omega) (by omega)
    .exact h.buf _ e1 _ (by omega) (by omega)
  |none=>
   simp only;generalize WM m f.rv (if x.busy then x.pb else(o.2.2.1,0,0,0))=pb at lS;split
   .exact hs.same rfl rfl
   .split
    .rename_i h3;exact hs.snoc (e:=(o.2.2.1,_,-1)) rfl rfl (.inl ⟨rfl,h.non _ ho.1 ho.2 (Whr he) _ (by omega),lS h3⟩)
    .exact hs.same rfl rfl
theorem Wm1(hs:SN M f x):SN M f (Wdd x code):=by
 unfold Wdd;split
 .exact hs.same rfl rfl
 .exact hs.same rfl rfl
theorem Wmr(h:FT M f)(hF:FOk codes n f)(hk:k<f.kids.length)(hx:f.kids[k]=x)(h2:x.phase=2)(bi:code.length<=24)(aq:codes.getD k []=code):FT M (Fm.put (Wad f x k) k):=by
 have cu:=hF.kid k hk;rw[hx,aq]at cu;have hcl:=hF.clock;have jX:x.writes.length<=300:=by have:=cu.wl;have:=cu.pc;omega
 have kz:∀c,WaF x.writes c=lst x.writes c:=λc=>Wet cu.rows jX;have vK:(k:Int)∉f.order:=λhmem=>by
  obtain⟨_,j1,j2⟩:=h.ord _ hmem;simp only[Xp]at j2;rw[hx]at j2;omega
 let g:=Fm.put (Wad f x k) k
 have g1:g.start=f.start:=rfl;have g2:g.order=f.order++ [(k:Int)]:=rfl;have g3:g.kids=f.kids.set k {x with phase:=3,pos:=0,marks:=[]}:=rfl;have g4:g.buf=Wab (f.clock+1) f.buf (WbI x.writes):=rfl;have hw:∀j∈f.order,WiB g j=WiB f j:=λj hj=>by
  obtain⟨j0,j1,j2⟩:=h.ord j hj;unfold WiB;have hne:k≠j.toNat:=λe=>by subst e;rw[hx]at j2;omega
  rw[g3,Xv,Xv,Xcr hne]
 have vL:WiB g k=x.writes:=by
  unfold WiB;rw[Xp,g3,Xv,Xdp hk];rfl
 have hr:∀n,n<=f.order.length->Wh g n=Wh f n:=λn hn=>Wep g1 (by rw[g2,Xcs hn]) hw;have fM:Wh g (f.order.length+1)=Wh f f.order.length++x.writes:=by
  unfold Wh;rw[g1,g2,Xbr (by simp),Xct,Xn,List.flatten_append,Xbo];congr 2
  .congr 1;exact Xci hw
  .simp[vL]
 have oF:=Wgf x.writes;have hne:∀c,0<=c->c<=7->(∀r∈WbI x.writes,r.1≠c)->lst x.writes c=none:=λc h0 h7 gv=>by
  cases hl:lst x.writes c with
  |none=>rfl
  |some v=>exact absurd rfl (gv (c,v) (Wdj.2 ⟨⟨h0,h7⟩,by rw[kz];exact hl⟩))
 refine⟨λe he n h1 h2=>?_,λc c0 c7 hc n hn=>?_,λj hj e he=>?_,?_,λj hj=>?_⟩
 .have gk:n<=f.order.length+1:=by change n<=g.order.length at h2;rw[g2]at h2;simpa using h2
  show lst (Wh g n) e.1=_;have fg:e∈Wab (f.clock+1) f.buf (WbI x.writes):=he;rcases(Wf5 hF.bufR oF).1 fg with⟨r,aS,rfl⟩|⟨hb,gv⟩
  .simp only at h1;have:n=f.order.length+1:=by omega
   subst this;rw[fM,WhO];have:=(Wdj.1 aS).2;rw[kz]at this;simp only[this]
  .by_cases hn:n<=f.order.length
   .rw[hr n hn];exact h.buf e hb n h1 hn
   .have:n=f.order.length+1:=by omega
    subst this;have pt:=hF.bufE e hb;rw[fM,WhO,hne e.1 pt.1.1 pt.1.2 gv];exact h.buf e hb _ (by omega) (Xl _)
 .have gk:n<=f.order.length+1:=by change n<=g.order.length at hn;rw[g2]at hn;simpa using hn
  show lst (Wh g n) c=_;have eE:∀e∈Wab (f.clock+1) f.buf (WbI x.writes),e.1≠c:=hc;have gv:∀r∈WbI x.writes,r.1≠c:=λr aS=>eE _ ((Wf5 (e:=(r.1,r.2,f.clock+1)) hF.bufR oF).2 (.inl ⟨r,aS,rfl⟩));have lT:∀e∈f.buf,e.1≠c:=λe he q=>eE e ((Wf5 hF.bufR oF).2 (.inr ⟨he,λr aS=>by rw[q];exact gv r aS⟩)) q;by_cases pF:n<=f.order.length
  .rw[hr n pF];exact h.non c c0 c7 lT n pF
  .have:n=f.order.length+1:=by omega
   subst this;rw[fM,WhO,hne c c0 c7 gv];exact h.non c c0 c7 lT _ (Xl _)
 .have hj':j<f.kids.length:=by
   have:(Fm.put (Wad f x k) k).kids.length=f.kids.length:=by show(f.kids.set k _).length=_;rw[Xad]
   omega
  have bB:(Fm.put (Wad f x k) k).kids[j]=if k=j then{x with phase:=3,pos:=0,marks:=[]}else f.kids[j]:=by
   have hq:(Fm.put (Wad f x k) k).kids=f.kids.set k {x with phase:=3,pos:=0,marks:=[]}:=rfl;simp only[hq,Xbi]
  have mD:SN M f ((Fm.put (Wad f x k) k).kids[j])/\((Fm.put (Wad f x k) k).kids[j]).since<=f.clock:=by
   rw[bB];split
   .exact⟨(hx▸h.sn k hk:SN M f x).same rfl rfl,cu.since.2⟩
   .exact⟨h.sn j hj',(hF.kid j hj').since.2⟩
  generalize (Fm.put (Wad f x k) k).kids[j]=z at*;show _\/(_/\_/\lst (Wh g e.2.2.toNat) _=_/\lst (Wh g z.since.toNat) _=_);have rE:=mD.1 e he;rcases rE with⟨a,b,c⟩|⟨a,b,c,d⟩
  .left;refine⟨a,?_,c⟩;show lst (Wh g _) _=_;rw[hr _ (by omega)];exact b
  .right;rw[hr _ (by omega),hr _ (by omega)];exact⟨a,b,c,d⟩
 .show(f.order++ [(k:Int)]).Nodup;rw[List.nodup_append];refine⟨h.nod,by simp,λa ha b hb=>?_⟩;rw[Xab.1 hb]
  exactλq=>vK (q▸ha)
 .have hj':j∈f.order++ [(k:Int)]:=hj;have hlen:(Fm.put (Wad f x k) k).kids=f.kids.set k {x with phase:=3,pos:=0,marks:=[]}:=rfl;rcases Xk.1 hj' with hj'|hj'
  .obtain⟨j0,j1,j2⟩:=h.ord j hj';refine⟨j0,by rw[hlen,Xad];exact j1,?_⟩;simp only[hlen,Xbi];split
   .rfl
   .exact j2
  .rw[Xab.1 hj'];refine⟨by omega,by rw[hlen,Xad];exact hk,?_⟩;simp only[hlen,Xp,Xem]
theorem Wph(h:FT M f)(hF:FOk codes n f)(hk:k<f.kids.length)(bi:KC code)(aq:codes.getD k []=code)
  (lS:f.kids[k].phase=0->f.kids[k].pc<code.length->(opN code f.kids[k].pc).1=5->RdM M m f.rv f.kids[k] (opN code f.kids[k].pc).2.2.1):FT M (WaY m f k code):=by
 unfold WaY;split
 .exact h
 .rw[Wp3 hk];obtain⟨x,hx⟩:∃x,f.kids[k]=x:=⟨_,rfl⟩;have hs:SN M f x:=hx▸h.sn k hk;have cu:=hF.kid k hk;rw[hx]at lS⊢;rw[hx,aq]at cu;unfold WaA;by_cases h0:x.phase=0
  .rw[if_pos h0];have hp:f.kids[k].phase≠3:=by rw[hx];omega
   unfold WeL;split
   .exact h.put hk hp rfl rfl rfl rfl (hs.same rfl rfl)
   .rename_i bV;have bV:=Int.not_le.1 bV;simp only;split
    .rename_i h5;have ay:0<=(opN code x.pc).2.2.1/\(opN code x.pc).2.2.1<=7:=by
      obtain⟨i,hi,e1,e2⟩:=Wjd cu.pc.1 bV;have:=(WpC (bi.ok i hi).1 (by rw[←e2];exact h5)).2;rw[←e2]at this;unfold WO at this;simp at this;exact this
     have mD:=WoB (o:=opN code x.pc) h hF hk hx ay (lS h0 (by omega) h5);have ch:(WaG m f x (opN code x.pc)).1.start=f.start/\(WaG m f x (opN code x.pc)).1.order=f.order/\(WaG m f x (opN code x.pc)).1.buf=f.buf/\(WaG m f x (opN code x.pc)).1.kids=f.kids:=by
      unfold WaG;cases WaF x.writes (opN code x.pc).2.2.1 with
      |some v=>exact⟨rfl,rfl,rfl,rfl⟩
      |none=>
       cases ent f.buf (opN code x.pc).2.2.1 with
       |some r=>simp only;split<;>exact⟨rfl,rfl,rfl,rfl⟩
       |none=>
        simp only;generalize WM m f.rv _=pb;split
        .exact⟨rfl,rfl,rfl,rfl⟩
        .split<;>exact⟨rfl,rfl,rfl,rfl⟩
     exact h.put hk hp ch.1 ch.2.1 ch.2.2.1 (by show Xo (WaG ..).1.kids _ _=_;rw[ch.2.2.2]) mD
    .split
     .exact h.put hk hp rfl rfl rfl rfl (Wm1 hs)
     .repeat' split
      all_goals exact h.put hk hp rfl rfl rfl rfl (hs.same rfl rfl)
  .rw[if_neg h0];split
   .have hp:f.kids[k].phase≠3:=by rw[hx];omega
    split
    .exact h.put hk hp rfl rfl rfl rfl (hs.same rfl rfl)
    .exact h.put hk hp rfl rfl rfl rfl (hs.same rfl rfl)
   .split
    .rename_i h2;have hp:f.kids[k].phase≠3:=by rw[hx];omega
     split
     .exact Wmr h hF hk hx h2 bi.len aq
     .simp only;split
      .exact h.put hk hp rfl rfl rfl rfl (hs.same rfl rfl)
      .exact h.put hk hp rfl rfl rfl rfl (SN.nil rfl)
    .have e:Fm.put (f,x) k=f:=by
      unfold Fm.put;simp only;rw[←hx,Xbn hk]
     rw[e];exact h
theorem Wk5{r:Rw}:∀{l:List Rw},l.Pairwise (λa b=>a.1<b.1)->r∈l->lst l r.1=some r.2
 | [],_,h=>by cases h
 |a::l,hp,hm=>by
  obtain⟨p1,p2⟩:=Xy.1 hp;rw[lst];rcases Xm.1 hm with rfl|hm
  .cases hl:lst l r.1 with
   |some v=>have:=p1 _ (WfG hl);simp only at this;omega
   |none=>simp
  .rw[Wk5 p2 hm]
theorem Wnh{rv:Int}{regs:List Int}{writes:List Rw}{kids:Nat}:FT M (WaE rv regs writes kids):=by
 have hr:∀n,Wh (WaE rv regs writes kids) n=WbI writes:=λn=>by
  unfold Wh WaE;simp
 have rF:∀r∈WbI writes,lst (WbI writes) r.1=some r.2:=λr aS=>Wk5 (Wgf writes) aS;refine⟨λe he n h1 h2=>?_,λc c0 c7 hc n hn=>?_,λj hj e he=>?_,List.nodup_nil,λk hk=>by cases hk⟩
 .rw[hr];obtain⟨r,h3,rfl⟩:=Xu.1 (show e∈(WbI writes).map λr=>((r.1,r.2,0):En)from he);exact rF r h3
 .rw[hr];cases hl:lst (WbI writes) c with
  |none=>rfl
  |some v=>exact absurd rfl (hc (c,v,0) (Xu.2 ⟨(c,v),WfG hl,rfl⟩))
 .have:(WaE rv regs writes kids).kids[j]={regs:=regs}:=Xeg ..;rw[this]at he;cases he
end
end
section
structure KCe(l:List Opn):Prop where
 len:l.length<=24
 up:Up l
 z:dep l l.length=0
 ok:∀i (h:i<l.length),W3 l[i]=true/\1<=l[i].1/\l[i].1<=10
 sk:∀i (h:i<l.length),l[i].1=7->i+1+l[i].2.2.1.toNat<=l.length/\bal ((l.take (i+1+l[i].2.2.1.toNat)).drop (i+1))=true
theorem Won{o:Opn}(h:W3 o=true)(lQ:12<=o.1):Wgn o=2:=by
 have gZ:=WoG h;have key:=WbB (N:=0) (o:=o);unfold Zao at key;rw[Wbf,h]at key;simp only[ret,Xd,Xah,cond_false]at key;have e5:(o.1==5)=false:=by simp;omega
 have e6:(o.1==6)=false:=by simp;omega
 rw[e5,e6]at key;simp only[cond_false]at key;have:o.1=12\/o.1=13\/o.1=14\/o.1=15\/o.1=16:=by omega
 rcases this with hk|hk|hk|hk|hk<;> · rw[hk]at key;simpa using key.symm
theorem Wpl{l:List Opn}(h:Wce l=true):KCe l:=by
 unfold Wce WnV at h;simp only[Xi,decide_eq_true_eq,Bool.not_eq_true']at h;obtain⟨⟨h1,h2,h3⟩,h4⟩:=h;obtain⟨b1,b2⟩:=WhY.1 h2;have hb:∀i (hi:i<l.length),WiP l i l[i]=false:=λi hi=>by
  rw[Xdd];intro hb;have:WjO (WiP l) 0 l=true:=Wdi.2 ⟨i,hi,by rw[Xbd];exact hb⟩;rw[h3]at this;cases this
 have hk:∀i (hi:i<l.length),Wc4 l[i]=false:=λi hi=>by
  rw[Xdd];intro hb;have:=List.any_eq_true.2 ⟨l[i],Xac hi,hb⟩;rw[h4]at this;cases this
 have bm:∀i (hi:i<l.length),W3 l[i]=true:=λi hi=>by
  have:=hb i hi;unfold WiP at this;simp only[Xcd,Xdo]at this;exact this.1.1
 refine⟨h1,b1,b2,λi hi=>?_,λi hi h7=>?_⟩
 .have ho:=bm i hi;have dp:=hk i hi;unfold Wc4 at dp;simp only[Xcd]at dp;have gZ:=WoG ho;refine⟨ho,gZ.1,?_⟩;by_cases bq:l[i].1<=10
  .exact bq
  .exfalso;by_cases fb:l[i].1=11
   .simp[fb]at dp
   .have:=Won ho (by omega);rw[this]at dp;simp at dp
 .have:=hb i hi;unfold WiP at this;simp only[Xcd,Xdo]at this;have h8:=this.1.2;rw[h7]at h8;have:WdB l i l[i]=true:=by simpa using h8
  unfold WdB at this;simpa using this
noncomputable def mt(l:List Opn)(m:Nat):Nat:=@dite _ (∃k,Mate l m k) (Classical.propDecidable _) (λh=>Classical.choose h) λ_=>0
theorem WpL{l:List Opn}{m k:Nat}(h:Mate l m k):Mate l m (mt l m):=by
 have hx:∃k,Mate l m k:=⟨k,h⟩;unfold mt;rw[dif_pos hx];exact Classical.choose_spec hx
theorem Mate.uniq{l:List Opn}{m k k':Nat}(h:Mate l m k)(h':Mate l m k'):k=k':=by
 rcases Nat.lt_trichotomy k k' with hl|hl|hl
 .exact absurd h.eq (h'.ne k (by have:=h.lt;omega) hl)
 .exact hl
 .exact absurd h'.eq (h.ne k' (by have:=h'.lt;omega) hl)
theorem Wq7{l:List Opn}{m k:Nat}(h:Mate l m k):mt l m=k:=(WpL h).uniq h
abbrev Mk:=Int×Int×List Int
structure KS where
 regs:List Int
 cells:List Int
 log:List Rw
 back:Int
 marks:List Mk
 reads:List Int
def zMk:Mk:=(0,0,[])
def Wl4(s:KS):Mk:=s.marks.getD (s.marks.length-1) zMk
def WpG(l:List Opn)(i:Nat):Opn:=l.getD i (0,0,0,0)
noncomputable def Wcb(l:List Opn)(pc:Nat)(s:KS)(o:Opn):Bool×Nat×KS:=
 bif o.1==5 then(true,pc+1,{s with regs:=s.regs.set o.2.1.toNat (s.cells.getD o.2.2.1.toNat 0),reads:=bif s.log.any (λr=>r.1==o.2.2.1)then s.reads else s.reads++ [o.2.2.1]})else
 bif o.1==6 then(true,pc+1,{s with cells:=s.cells.set o.2.1.toNat (s.regs.getD o.2.2.1.toNat 0),log:=s.log++ [(o.2.1,s.cells.getD o.2.1.toNat 0)]})else
 bif o.1==7 then(true,bif s.regs.getD o.2.1.toNat 0==0 then pc+1+o.2.2.1.toNat else pc+1,s)else
 bif o.1==8 then(true,pc+1,{s with marks:=s.marks++ [((pc:Int),(s.log.length:Int),s.regs)]})else
 bif o.1==9 then(true,pc+1,{s with marks:=s.marks.take (s.marks.length-1),regs:=s.regs.set (WpG l (Wl4 s).1.toNat).2.1.toNat 1})else
 bif o.1==10 then
  (bif s.marks.isEmpty then(false,pc,{s with cells:=WeC s.cells s.log,log:=[],back:=s.back+s.log.length})
  else(true,mt l (Wl4 s).1.toNat+1,{s with cells:=WeC s.cells (s.log.drop (Wl4 s).2.1.toNat),log:=s.log.take (Wl4 s).2.1.toNat,back:=s.back+s.log.length-(Wl4 s).2.1,marks:=s.marks.take (s.marks.length-1),regs:=(Wl4 s).2.2.set (WpG l (Wl4 s).1.toNat).2.1.toNat 0}))
 else(true,pc+1,{s with regs:=WfW o s.regs})
noncomputable def Wa8(l:List Opn)(pc:Nat)(s:KS):Bool×Nat×KS:=Wcb l pc s (WpG l pc)
structure KI(l:List Opn)(pc:Nat)(s:KS):Prop where
 pcl:pc<=l.length
 rg:Vals 4 s.regs
 cl:Vals 8 s.cells
 lg:WdJ s.log/\s.log.length<=pc
 mp:s.marks.map (·.1)=(stk l pc).map λm:Nat=>(m:Int)
 mr:∀m∈s.marks,Vals 4 m.2.2/\0<=m.2.1/\m.2.1<=s.log.length
 mo:s.marks.Pairwise λa b=>a.2.1<=b.2.1
 bk:0<=s.back/\s.back<=24*pc
 rd:s.reads.length<=pc/\∀x∈s.reads,0<=x/\x<=7
theorem WcZ{l:List Opn}{i:Nat}(h:i<l.length):WpG l i=l[i]:=WE h _
section
variable{l:List Opn}{pc:Nat}{s:KS}
theorem Wf1(hc:KCe l)(h:KI l pc s)(hne:s.marks≠ []):∃(m:Nat) (q:List Mk) (x:Mk),s.marks=q++ [x]/\Wl4 s=x/\x.1=(m:Int)/\(∃hm:m<l.length,l[m].1=8)/\Mate l m (mt l m)/\pc<=mt l m/\stk l m=(stk l pc).dropLast/\q.map (·.1)=(stk l m).map λm:Nat=>(m:Int):=by
 rcases Wav s.marks with h0|⟨q,x,hq⟩
 .exact absurd h0 hne
 .have hm:=h.mp;rw[hq,Xn,Xaj,Xbh]at hm;rcases Wav (stk l pc)with h0|⟨t,m,ht⟩
  .rw[h0]at hm;simp at hm
  .rw[ht,Xn,Xaj,Xbh]at hm;obtain⟨e1,e2⟩:=List.append_inj' hm rfl;injection e2 with e2;obtain⟨k,k1,k2,k3⟩:=Wmz hc.up hc.z h.pcl ht;have k4:=Wq7 k2;obtain⟨_,h8,_,_⟩:=Wfw pc h.pcl t [] m ht;refine⟨m,q,x,hq,?_,e2,h8,by rw[k4];exact k2,by omega,by rw[ht,Xdw];exact k3,by rw[k3];exact e1⟩;unfold Wl4;rw[hq];simp
theorem Wee(hc:KCe l)(h:KI l pc s)(hp:pc<l.length):
  ((Wa8 l pc s).1=true->pc<(Wa8 l pc s).2.1/\KI l (Wa8 l pc s).2.1 (Wa8 l pc s).2.2)/\
  ((Wa8 l pc s).1=false->(Wa8 l pc s).2.2.log= []/\Vals 8 (Wa8 l pc s).2.2.cells/\Vals 4 (Wa8 l pc s).2.2.regs/\(Wa8 l pc s).2.2.reads.length<=24/\∀x∈(Wa8 l pc s).2.2.reads,0<=x/\x<=7):=by
 obtain⟨ho,k1,k2⟩:=hc.ok pc hp;have ha:=WcZ hp;have hlen:=hc.len;unfold Wa8;rw[ha];unfold Wcb;by_cases k5:l[pc].1=5
 .have b:(l[pc].1==5)=true:=by simp[k5]
  obtain⟨o1,o2⟩:=WpC ho k5;have ay:0<=l[pc].2.2.1/\l[pc].2.2.1<=7:=by unfold WO at o2;simpa using o2
  simp only[b,cond_true];refine⟨λ_=>⟨by omega,⟨hp,h.rg.set _ (h.cl.get _),h.cl,⟨h.lg.1,by have:=h.lg.2;simp only[];omega⟩,by simp only[];rw[Wfj hp (by omega) (by omega)];exact h.mp,h.mr,h.mo,⟨h.bk.1,by have:=h.bk.2;simp only[];omega⟩,?_⟩⟩,λh=>by simp at h⟩;have hr:=h.rd;simp only[];cases s.log.any λr=>r.1==l[pc].2.2.1
  .simp only[cond_false,Xs,Xt,Xbx];refine⟨by omega,λx hx=>?_⟩;rcases Xk.1 hx with hx|hx
   .exact hr.2 x hx
   .have:x=l[pc].2.2.1:=by simpa using hx
    rw[this];exact ay
  .exact⟨by simp only[cond_true];omega,hr.2⟩
 .have b5:(l[pc].1==5)=false:=by simp[k5]
  rw[b5];by_cases k6:l[pc].1=6
  .have b:(l[pc].1==6)=true:=by simp[k6]
   obtain⟨o1,o2⟩:=WqW ho k6;have ay:0<=l[pc].2.1/\l[pc].2.1<=7:=by unfold WO at o1;simpa using o1
   simp only[b,cond_true,cond_false];refine⟨λ_=>⟨by omega,⟨hp,h.rg,h.cl.set _ (h.rg.get _),⟨λr hr=>?_,?_⟩,by simp only[];rw[Wfj hp (by omega) (by omega)];exact h.mp,λm hm=>?_,h.mo,⟨h.bk.1,by have:=h.bk.2;simp only[];omega⟩,⟨by have:=h.rd.1;simp only[];omega,h.rd.2⟩⟩⟩,λh=>by simp at h⟩
   .rcases Xk.1 hr with hr|hr
    .exact h.lg.1 r hr
    .have:r=(l[pc].2.1,s.cells.getD l[pc].2.1.toNat 0):=by simpa using hr
     rw[this];exact⟨ay,h.cl.get _⟩
   .have:=h.lg.2;simp only[Xs,Xt,Xbx];omega
   .have:=h.mr m hm;refine⟨this.1,this.2.1,?_⟩;simp only[Xs,Xt,Xbx];omega
  .have b6:(l[pc].1==6)=false:=by simp[k6]
   rw[b6];by_cases k7:l[pc].1=7
   .have b:(l[pc].1==7)=true:=by simp[k7]
    obtain⟨o1,o2,o3⟩:=WqA ho k7;obtain⟨s1,s2⟩:=hc.sk pc hp k7;simp only[b,cond_true,cond_false];refine⟨λ_=>?_,λh=>by simp at h⟩;have e1:stk l (pc+1)=stk l pc:=Wfj hp (by omega) (by omega);cases s.regs.getD l[pc].2.1.toNat 0==0
    .simp only[cond_false];exact⟨by omega,⟨hp,h.rg,h.cl,⟨h.lg.1,by have:=h.lg.2;omega⟩,by rw[e1];exact h.mp,h.mr,h.mo,⟨h.bk.1,by have:=h.bk.2;omega⟩,⟨by have:=h.rd.1;omega,h.rd.2⟩⟩⟩
    .simp only[cond_true];exact⟨by omega,⟨s1,h.rg,h.cl,⟨h.lg.1,by have:=h.lg.2;omega⟩,by rw[WkX (by omega) s1 s2,e1];exact h.mp,h.mr,h.mo,⟨h.bk.1,by have:=h.bk.2;omega⟩,⟨by have:=h.rd.1;omega,h.rd.2⟩⟩⟩
   .have b7:(l[pc].1==7)=false:=by simp[k7]
    rw[b7];by_cases k8:l[pc].1=8
    .have b:(l[pc].1==8)=true:=by simp[k8]
     simp only[b,cond_true,cond_false];refine⟨λ_=>⟨by omega,⟨hp,h.rg,h.cl,⟨h.lg.1,by have:=h.lg.2;simp only[];omega⟩,?_,λm hm=>?_,?_,⟨h.bk.1,by have:=h.bk.2;simp only[];omega⟩,⟨by have:=h.rd.1;simp only[];omega,h.rd.2⟩⟩⟩,λh=>by simp at h⟩
     .simp only[Xn,Xaj,Xbh,h.mp,WhR hp k8]
     .rcases Xk.1 hm with hm|hm
      .exact h.mr m hm
      .have:m=((pc:Int),(s.log.length:Int),s.regs):=by simpa using hm
       rw[this];exact⟨h.rg,by simp only[];omega,by simp only[];omega⟩
     .refine Xaa.2 ⟨h.mo,List.pairwise_singleton ..,λa ha b hb=>?_⟩;have:b=((pc:Int),(s.log.length:Int),s.regs):=by simpa using hb
      rw[this];exact(h.mr a ha).2.2
    .have b8:(l[pc].1==8)=false:=by simp[k8]
     rw[b8];by_cases k9:l[pc].1=9
     .have b:(l[pc].1==9)=true:=by simp[k9]
      simp only[b,cond_true,cond_false];have bO:∀m,m∈s.marks.take (s.marks.length-1)->m∈s.marks:=λm hm=>Xcf hm;refine⟨λ_=>⟨by omega,⟨hp,h.rg.set _ (by omega),h.cl,⟨h.lg.1,by have:=h.lg.2;simp only[];omega⟩,?_,λm hm=>h.mr m (bO m hm),h.mo.sublist (List.take_sublist _ _),⟨h.bk.1,by have:=h.bk.2;simp only[];omega⟩,⟨by have:=h.rd.1;simp only[];omega,h.rd.2⟩⟩⟩,λh=>by simp at h⟩;simp only[];rw[WhZ hp k9,List.map_take,h.mp,←List.map_take];congr 1;have:s.marks.length=(stk l pc).length:=by have:=congrArg Xa h.mp;simpa using this
      rw[this,Xft]
     .have b9:(l[pc].1==9)=false:=by simp[k9]
      rw[b9];by_cases k10:l[pc].1=10
      .have b:(l[pc].1==10)=true:=by simp[k10]
       simp only[b,cond_true,cond_false];by_cases hne:s.marks= []
       .have:s.marks.isEmpty=true:=by rw[hne];rfl
        rw[this];refine⟨λh=>by simp at h,λ_=>⟨rfl,Whj h.cl h.lg.1,h.rg,by have:=h.rd.1;simp only[cond_true];omega,h.rd.2⟩⟩
       .have:s.marks.isEmpty=false:=by cases hm:s.marks with|nil=>exact absurd hm hne|cons a b=>rfl
        rw[this];obtain⟨m,q,x,hq,ht,hx,⟨hm,h8⟩,bv,eD,ch,kg⟩:=Wf1 hc h hne;have oD:x∈s.marks:=by rw[hq];simp
        obtain⟨x1,x2,x3⟩:=h.mr x oD;have fe:∀y∈q,y.2.1<=x.2.1:=by
         have:=h.mo;rw[hq]at this
         exactλy hy=>(Xaa.1 this).2.2 y hy x (by simp)
        have kZ:s.marks.take (s.marks.length-1)=q:=by rw[hq];simp
        simp only[cond_false,ht,hx,kZ,Xp];have rG:((s.log.take x.2.1.toNat).length:Int)=x.2.1:=by rw[Xau];omega
        have hbk:=h.bk;have tL:=h.lg.2;refine⟨λ_=>⟨by omega,⟨bv.len,x1.set _ (by omega),Whj h.cl λr hr=>h.lg.1 r (Xdx hr),⟨λr hr=>h.lg.1 r (Xcf hr),?_⟩,?_,λy hy=>?_,?_,⟨by simp only[];omega,by simp only[];omega⟩,⟨by have:=h.rd.1;simp only[];omega,h.rd.2⟩⟩⟩,λh=>by simp at h⟩
        .simp only[];rw[Xau];omega
        .simp only[];rw[kg,bv.st]
        .obtain⟨y1,y2,y3⟩:=h.mr y (by rw[hq];simp[hy]);exact⟨y1,y2,by rw[rG];exact fe y hy⟩
        .have:=h.mo;rw[hq]at this;exact(Xaa.1 this).1
      .have bH:(l[pc].1==10)=false:=by simp[k10]
       rw[bH];simp only[cond_false];exact⟨λ_=>⟨by omega,⟨hp,Wk0 ho k1 (by omega) h.rg,h.cl,⟨h.lg.1,by have:=h.lg.2;simp only[];omega⟩,by simp only[];rw[Wfj hp (by omega) (by omega)];exact h.mp,h.mr,h.mo,⟨h.bk.1,by have:=h.bk.2;simp only[];omega⟩,⟨by have:=h.rd.1;simp only[];omega,h.rd.2⟩⟩⟩,λh=>by simp at h⟩
end
noncomputable def Wcp(l:List Opn):Nat->Nat->KS->Bool×KS
 |0,_,s=>(false,s)
 |n+1,pc,s=>bif decide (pc<l.length)then(bif (Wa8 l pc s).1 then Wcp l n (Wa8 l pc s).2.1 (Wa8 l pc s).2.2 else(true,(Wa8 l pc s).2.2))else(false,s)
theorem Wk7{α:Type}{q:List α}{x:α}(h:q.length<1000):WN .i64 (We (q++ [x])) 1=(q.length:Int):=by
 rw[Wax (by unfold I64 We;rw[Xs];simp;omega)];unfold We;rw[Xs];simp
theorem Wln{α:Type}{q:List α}{x:α}:inb (q.length:Int) (q++ [x]).length=true:=by rw[Wbe];simp
theorem WkP{α:Type}{q:List α}{x d:α}:Xc (q++ [x]) q.length d=x:=by simp
theorem Wd7{α:Type}{q:List α}{x:α}:Xbs q.length (q++ [x])=q:=by simp
theorem WkV{α:Type}{q:List α}{x:α}:((decide ((0:Int)<=(q.length:Int)))&&(decide ((q.length:Int)<=((Xa (q++ [x])):Int))))=true:=by rw[Xs];simp;omega
theorem WkO{l:List Opn}{m:Nat}:Xc l m ((0:Int),((0:Int),((0:Int),(0:Int))))=WpG l m:=rfl
theorem Wlx{l:List Opn}(hc:KCe l):∀(n pc:Nat) (s:KS),KI l pc s->Vals 4 (Wcp l n pc s).2.regs/\Vals 8 (Wcp l n pc s).2.cells/\WdJ (Wcp l n pc s).2.log/\(Wcp l n pc s).2.log.length<=24/\((Wcp l n pc s).1=true->(Wcp l n pc s).2.log= [])/\
  (Wcp l n pc s).2.reads.length<=24/\∀x∈(Wcp l n pc s).2.reads,0<=x/\x<=7
 |0,pc,s,h=>by
  have:=h.pcl;have:=hc.len;have:=h.lg.2;have:=h.rd.1;exact⟨h.rg,h.cl,h.lg.1,by simp only[Wcp];omega,λh=>by simp[Wcp]at h,by simp only[Wcp];omega,h.rd.2⟩
 |n+1,pc,s,h=>by
  have hlen:=hc.len;have h1:=h.pcl;have h2:=h.lg.2;have h3:=h.rd.1;rw[Wcp];by_cases hp:pc<l.length
  .have e:decide (pc<l.length)=true:=by simpa using hp
   obtain⟨s1,s2⟩:=Wee hc h hp;rw[e];cases hb:(Wa8 l pc s).1
   .obtain⟨a,b,c,d,f⟩:=s2 hb;simp only[cond_true,cond_false];exact⟨c,b,by rw[a];exactλr hr=>by simp at hr,by rw[a];simp,λ_=>a,d,f⟩
   .simp only[cond_true];exact Wlx hc n _ _ (s1 hb).2
  .have e:decide (pc<l.length)=false:=by simpa using hp
   rw[e];exact⟨h.rg,h.cl,h.lg.1,by simp only[cond_false];omega,λh=>by simp at h,by simp only[cond_false];omega,h.rd.2⟩
def ks0(regs cells:List Int):KS:=⟨regs,cells,[],0,[],[]⟩
theorem Wkj{l:List Opn}{regs cells:List Int}(hr:Vals 4 regs)(hc:Vals 8 cells):KI l 0 (ks0 regs cells) where
 pcl:=Xbk _
 rg:=hr
 cl:=hc
 lg:=⟨λr h=>by simp[ks0]at h,by simp[ks0]⟩
 mp:=by simp[ks0,stk]
 mr:=λm h=>by simp[ks0]at h
 mo:=List.Pairwise.nil
 bk:=by simp[ks0]
 rd:=⟨by simp[ks0],λx h=>by simp[ks0]at h⟩
abbrev Egr:=Int×List Int×List Int×List Rw×Int
noncomputable def Wjk(l:List Opn)(regs cells:List Int):Egr:=
 bif Wce l&&(Wa4 regs&&WbS cells)then
  (λf:Bool×KS=>(bif f.1 then 2 else 1,f.2.regs,f.2.cells,f.2.log,f.2.back)) (Wcp l (l.length+1) 0 (ks0 regs cells))
 else(0,[],[],[],0)
theorem WiI{l:List Opn}(hc:KCe l):∀(n k pc:Nat) (s:KS),KI l pc s->l.length-pc<n->Wcp l (n+k) pc s=Wcp l n pc s
 |0,k,pc,s,h,hn=>by omega
 |n+1,k,pc,s,h,hn=>by
  rw[show n+1+k=(n+k)+1 by omega,Wcp,Wcp];by_cases hp:pc<l.length
  .obtain⟨s1,s2⟩:=Wee hc h hp;cases hb:(Wa8 l pc s).1
   .rfl
   .obtain⟨a,b⟩:=s1 hb;rw[WiI hc n k _ _ b (by omega)]
  .have e:decide (pc<l.length)=false:=by simpa using hp
   rw[e];rfl
section
variable{N:Nat}{l:List Opn}{regs cells:List Int}
theorem WqB(hc:KCe l){s:KS}(h:KI l 0 s)(hN:1048576<N):Wcp l N 0 s=Wcp l (l.length+1) 0 s:=by
 have:=hc.len;obtain⟨k,hk⟩:∃k,N=l.length+1+k:=⟨N-(l.length+1),by omega⟩;rw[hk];exact WiI hc _ _ _ _ h (by omega)
end
theorem Wmk{α:Type}(a:Option α):Wmo a a=a:=by unfold Wmo;rw[if_pos rfl]
theorem WjR(c:List Int)(a b:List Rw):WeC c (a++b)=WeC (WeC c b) a:=by unfold WeC;rw[List.foldr_append]
theorem Wo4{c:List Int}{a:Nat}{v:Int}:(c.set a v).set a (c.getD a 0)=c:=by
 rw[Xdq];by_cases h:a<c.length
 .rw[WE h];exact Xbn h
 .rw[List.set_eq_of_length_le (by omega)]
theorem WeI{c:List Int}{log:List Rw}{a:Int}{v:Int}{n:Nat}(h:n<=log.length):WeC (c.set a.toNat v) ((log++ [(a,c.getD a.toNat 0)]).drop n)=WeC c (log.drop n):=by
 rw[Xet h,Wng];simp only[];rw[Wo4]
theorem Wll{c:List Int}{log:List Rw}{n k:Nat}(h:n<=k)(hk:k<=log.length):WeC (WeC c (log.drop k)) ((log.take k).drop n)=WeC c (log.drop n):=by
 rw[←WjR];congr 1;rw[←Xet (by rw[Xau];omega),List.take_append_drop]
def cmk(mp:List Int)(ct:Int)(s:KS)(m:Mk):Int×List Int×List Int×List Int×Int:=(m.1,(m.2.2,(WeC s.cells (s.log.drop m.2.1.toNat),(mp,ct))))
theorem Wne{l:List Opn}{pc:Nat}{s:KS}(hc:KCe l)(h:KI l pc s)(hp:pc<l.length):WeC (Wa8 l pc s).2.2.cells (Wa8 l pc s).2.2.log=WeC s.cells s.log:=by
 have ha:=WcZ hp;unfold Wa8;rw[ha];unfold Wcb;cases l[pc].1==5
 .cases l[pc].1==6
  .cases l[pc].1==7
   .cases l[pc].1==8
    .cases l[pc].1==9
     .cases l[pc].1==10
      .rfl
      .by_cases hne:s.marks= []
       .have:s.marks.isEmpty=true:=by rw[hne];rfl
        rw[this];rfl
       .have:s.marks.isEmpty=false:=by cases hm:s.marks with|nil=>exact absurd hm hne|cons a b=>rfl
        rw[this];obtain⟨m,q,x,hq,ht,hx,_⟩:=Wf1 hc h hne;obtain⟨x1,x2,x3⟩:=h.mr x (by rw[hq];simp);simp only[cond_true,cond_false,ht];have:=Wll (c:=s.cells) (log:=s.log) (n:=0) (k:=x.2.1.toNat) (by omega) (by omega);simpa using this
     .rfl
    .rfl
   .rfl
  .have:=WeI (c:=s.cells) (log:=s.log) (a:=l[pc].2.1) (v:=s.regs.getD l[pc].2.2.1.toNat 0) (n:=0) (by omega);simp only[cond_true,cond_false];simpa using this
 .rfl
theorem Wlr{l:List Opn}(hc:KCe l):∀(n pc:Nat) (s:KS),KI l pc s->WeC (Wcp l n pc s).2.cells (Wcp l n pc s).2.log=WeC s.cells s.log
 |0,pc,s,h=>rfl
 |n+1,pc,s,h=>by
  rw[Wcp];by_cases hp:pc<l.length
  .have e:decide (pc<l.length)=true:=by simpa using hp
   have hu:=Wne hc h hp;rw[e];cases hb:(Wa8 l pc s).1
   .exact hu
   .simp only[cond_true];rw[Wlr hc n _ _ ((Wee hc h hp).1 hb).2,hu]
  .have e:decide (pc<l.length)=false:=by simpa using hp
   rw[e];rfl
theorem WhP{N:Nat}{c mp:List Int}{ct:Int}(h1:c.length<=1000)(h2:mp.length<=1000):Zdi N (c,(mp,ct))=ret (c,(mp,ct)):=by
 unfold Zdi;have r1:WB (([]:List Int).length+c.length)=true:=Wy (by simp;omega);have r2:WB (([]:List Int).length+mp.length)=true:=Wy (by simp;omega);simp only[r1,r2,cond_true,Wmk];rfl
section
variable{N:Nat}{l:List Opn}{R:Type}
theorem Wnc(hN:1048576<N)(hc:KCe l){rec:List Opn->List (List Opn)->List Int->List Int->Kk->Option Ks}{kids:List (List Opn)}{order:List Int}
  {mp:List Int} {ct aT:Int} {be bf:List Int} (jw:mp.length<=1000) (K0:List Int->Option R) (K1:List Int->Int->List Int->List Int->Option R):
  ∀(n pc:Nat) (s:KS),KI l pc s->l.length-pc<n->Zm N rec l kids order aT be bf K0 (λ_ _ r b _ c m=>K1 r b c m) n (pc:Int) s.regs ct (s.marks.map (cmk mp ct s)) s.cells mp=
   (λf:Bool×KS=>bif f.1 then K0 f.2.regs else K1 f.2.regs ct f.2.cells mp) (Wcp l n pc s)
 |0,pc,s,h,hn=>by omega
 |n+1,pc,s,h,hn=>by
  have hlen:=hc.len;have dI:=h.pcl;by_cases hp:pc<l.length
  .have g0:=Wee hc h hp;have ih:=Wnc hN hc (rec:=rec) (kids:=kids) (order:=order) (mp:=mp) (ct:=ct) (aT:=aT) (be:=be) (bf:=bf) jw K0 K1 n;have go:∀cN s',Wa8 l pc s=(true,cN,s')->Zm N rec l kids order aT be bf K0 (λ_ _ r b _ c m=>K1 r b c m) n (cN:Int) s'.regs ct (s'.marks.map (cmk mp ct s')) s'.cells mp=(λf:Bool×KS=>bif f.1 then K0 f.2.regs else K1 f.2.regs ct f.2.cells mp) (Wcp l (n+1) pc s):=λcN s' he=>by
    rw[he]at g0;obtain⟨h1,h2⟩:=g0.1 rfl;rw[ih cN s' h2 (by simp only[]at h1;omega),Wcp,he];simp[hp]
   have stop:∀cN s',Wa8 l pc s=(false,cN,s')->K0 s'.regs=(λf:Bool×KS=>bif f.1 then K0 f.2.regs else K1 f.2.regs ct f.2.cells mp) (Wcp l (n+1) pc s):=λcN s' he=>by
    rw[Wcp,he];simp[hp]
   obtain⟨ho,k1,k2⟩:=hc.ok pc hp;have ha:=WcZ hp;have tL:=h.lg;have gD:s.marks.length<=24:=by
    have e1:=congrArg Xa h.mp;simp only[Xz]at e1;have e2:=Wbb hc.up pc dI;have:=WbV l pc;omega
   have r0:WB (([]:List Int).length+s.regs.length)=true:=Wy (by rw[h.rg.len];simp);have en:∀x:List Int,Xf ([]:List Int) x=x:=λx=>rfl;simp only[Zm,Waa hp,Wt hp,Wz hp,cond_true,Wj (show pc<4611686018427387904 by omega)];unfold Wa8 at go stop;rw[ha]at go stop;unfold Wcb at go stop;by_cases k5:l[pc].1=5
   .have b:(l[pc].1==5)=true:=by simp[k5]
    obtain⟨o1,o2⟩:=WpC ho k5;rw[b]at go;simp only[b,cond_true,WlA o2 h.cl.len,WaZ o1 h.rg.len];exact go _ _ rfl
   .have b5:(l[pc].1==5)=false:=by simp[k5]
    rw[b5]at go stop;by_cases k6:l[pc].1=6
    .have b:(l[pc].1==6)=true:=by simp[k6]
     obtain⟨o1,o2⟩:=WqW ho k6;rw[b]at go;simp only[b5,b,cond_true,cond_false,WlA o1 h.cl.len,WaZ o2 h.rg.len];refine Eq.trans ?_ (go _ _ rfl);congr 1;apply Xci;intro m hm;unfold cmk;simp only[];rw[WeI (by have:=h.mr m hm;omega)]
    .have b6:(l[pc].1==6)=false:=by simp[k6]
     rw[b6]at go stop;by_cases k7:l[pc].1=7
     .have b:(l[pc].1==7)=true:=by simp[k7]
      obtain⟨o1,o2,o3⟩:=WqA ho k7;rw[b]at go;simp only[b5,b6,b,cond_true,cond_false,WaZ o1 h.rg.len];have e2:Wf .i64 ((pc+1:Nat):Int) l[pc].2.2.1=((pc+1+l[pc].2.2.1.toNat:Nat):Int):=by rw[WI (by unfold I64;omega)];omega
      rw[e2];refine Eq.trans ?_ (go _ _ rfl);cases s.regs.getD l[pc].2.1.toNat 0==0<;>rfl
     .have b7:(l[pc].1==7)=false:=by simp[k7]
      rw[b7]at go stop;by_cases k8:l[pc].1=8
      .have b:(l[pc].1==8)=true:=by simp[k8]
       rw[b]at go;have r1:WB ((s.marks.map (cmk mp ct s)).length+ [((pc:Int),(s.regs,(s.cells,(mp,ct))))].length)=true:=Wy (by simp;omega);simp only[b5,b6,b7,b,cond_true,cond_false,r0,WhP (ct:=ct) (show s.cells.length<=1000 by rw[h.cl.len];omega) jw,ret,Xd,en,r1];refine Eq.trans ?_ (go _ _ rfl);simp only[Xn,Xaj,Xbh,cmk,Xp,Xdu];rfl
      .have b8:(l[pc].1==8)=false:=by simp[k8]
       rw[b8]at go stop;by_cases k9:l[pc].1=9
       .have b:(l[pc].1==9)=true:=by simp[k9]
        rw[b]at go;have hne:s.marks≠ []:=λh0=>by
         have e1:=congrArg Xa h.mp;rw[h0]at e1;simp only[Xz,Xbx]at e1;have e2:=Wbb hc.up pc dI;have e3:=hc.up pc hp;have e4:=Wal hp;rw[WhM k9]at e4;omega
        obtain⟨m,q,x,hq,ht,hx,⟨hm,h8⟩,bv,eD,ch,kg⟩:=Wf1 hc h hne;have o8:=WqY (hc.ok m hm).1 h8;rw[ht]at go;rw[hq]at go⊢;rw[hq]at gD;have rH:(q.map (cmk mp ct s)).length<1000:=by rw[Xs]at gD;simp;omega
        have c1:(cmk mp ct s x).1=(m:Int):=hx;simp only[b5,b6,b7,b8,b,cond_true,cond_false,Xn,Xaj,Xbh,Wk7 rH,Wln,Xp,WkP,Wd7,WkV,c1,Wt hm,WkO,WcZ hm,WaZ o8 h.rg.len];refine Eq.trans ?_ (go _ _ rfl);simp only[hx,Xp,WcZ hm,Xs,Xt,Xbx,Xbd,Xgd,Wd7];rfl
       .have b9:(l[pc].1==9)=false:=by simp[k9]
        rw[b9]at go stop;by_cases k10:l[pc].1=10
        .have b:(l[pc].1==10)=true:=by simp[k10]
         rw[b]at go stop;simp only[b5,b6,b7,b8,b9,b,cond_true,cond_false];by_cases hne:s.marks= []
         .have he:s.marks.isEmpty=true:=by rw[hne];rfl
          rw[he]at stop;have e3:(We (s.marks.map (cmk mp ct s))==0)=true:=by rw[hne];rfl
          rw[e3];exact stop pc {s with cells:=WeC s.cells s.log,log:=[],back:=s.back+s.log.length} rfl
         .have he:s.marks.isEmpty=false:=by cases hm:s.marks with|nil=>exact absurd hm hne|cons a b=>rfl
          rw[he]at go;obtain⟨m,q,x,hq,ht,hx,⟨hm,h8⟩,bv,eD,ch,kg⟩:=Wf1 hc h hne;have oD:x∈s.marks:=by rw[hq];simp
          obtain⟨x1,x2,x3⟩:=h.mr x oD;have o8:=WqY (hc.ok m hm).1 h8;have fe:∀y∈q,y.2.1<=x.2.1:=by
           have:=h.mo;rw[hq]at this
           exactλy hy=>(Xaa.1 this).2.2 y hy x (by simp)
          have hqy:∀y∈q,0<=y.2.1:=λy hy=>(h.mr y (by rw[hq];simp[hy])).2.1;rw[ht]at go;rw[hq]at go⊢;rw[hq]at gD;have rH:(q.map (cmk mp ct s)).length<1000:=by rw[Xs]at gD;simp;omega
          have e3:(We (q.map (cmk mp ct s)++ [cmk mp ct s x])==0)=false:=by
           have:We (q.map (cmk mp ct s)++ [cmk mp ct s x])≠0:=by unfold We;rw[Xs];simp;omega
           simpa using this
          have vM:=bv.len;have hu:=Whj h.cl (l:=s.log.drop x.2.1.toNat) λr hr=>tL.1 r (Xdx hr);have c1:(cmk mp ct s x).1=(m:Int):=hx;have c2:(cmk mp ct s x).2.1=x.2.2:=rfl;have c3:(cmk mp ct s x).2.2=(WeC s.cells (s.log.drop x.2.1.toNat),(mp,ct)):=rfl;have r1:WB (([]:List Int).length+x.2.2.length)=true:=Wy (by rw[x1.len];simp);simp only[Xn,Xaj,Xbh];simp only[e3,Wk7 rH,cond_false,Wln,Xp,WkP,Wd7,WkV,cond_true,c1,c2,c3,r1,WhP (ct:=ct) (show(WeC s.cells (s.log.drop x.2.1.toNat)).length<=1000 by rw[hu.len];omega) jw,Xd,Wt hm,WkO,WcZ hm,en,WaZ o8 x1.len,
           WkB (N:=N) (l:=l) (by omega) hN ⟨hm,h8⟩ bv,ret,Wj (show mt l m<4611686018427387904 by omega)]
          refine Eq.trans ?_ (go _ _ rfl);simp only[hx,Xp,WcZ hm,Xs,Xt,Xbx,Xbd,Xgd,Wd7];congr 1;apply Xci;intro y hy;unfold cmk;simp only[];rw[Wll (by have:=fe y hy;omega) (by omega)]
        .have bH:(l[pc].1==10)=false:=by simp[k10]
         rw[bH]at go stop;have e:∀k:Int,11<=k->(l[pc].1==k)=false:=λk hk=>by simp;omega
         simp only[b5,b6,b7,b8,b9,bH,e 11 (by omega),e 12 (by omega),e 13 (by omega),e 14 (by omega),e 15 (by omega),e 16 (by omega),cond_false,WiQ hN ho k1 (by omega) h.rg,Xd];exact go _ _ rfl
  .have e:pc=l.length:=by omega
   subst e;simp only[Zm,Was (Xl l.length),cond_false];rw[Wcp];simp
theorem WlQ{regs cells:List Int}(hN:1048576<N)(hl:l.length<=1048576)(hr:regs.length<=1048576)(hc:cells.length<=1048576):
  Ze2 N l regs cells=some ((),((Wjk l regs cells).1,((Wjk l regs cells).2.1,((Wjk l regs cells).2.2.1,())))):=by
 unfold Ze2 Wjk;simp only[Wgp hl hN,Wc2 hr hN,Wbv hc hN,ret,Xd];cases h1:Wce l
 .rfl
 .cases h2:Wa4 regs
  .rfl
  .cases h3:WbS cells
   .rfl
   .have kc:=Wpl h1;have v2:=WbE.1 h2;have v3:=WbC.1 h3;have ki:=Wkj (l:=l) v2 v3;obtain⟨M,rfl⟩:∃M,N=M+1:=⟨N-1,by omega⟩;have e8:(((decide ((0:Int)<=(8:Int)))&&(decide ((8:Int)<=(8:Int))))&&(WB (Xb (8:Int))))=true:=rfl;have jw:(Xag (Xb 8) (0:Int)).length<=1000:=by decide
    have cp:=WhP (N:=M+1) (c:=cells) (mp:=Xag (Xb 8) (0:Int)) (ct:=0) (by rw[v3.len];omega) jw;have r0:WB (([]:List Int).length+regs.length)=true:=Wy (by rw[v2.len];simp);simp only[Xah,cond_false,e8,cond_true];unfold Zl5 Zag;simp only[cp,ret,Xd,r0,cond_true];have key:=Wnc (N:=M+1) (l:=l) (R:=Unit×(Kg×Unit)) hN kc (rec:=Zag (M+1) M) (kids:=[]) (order:=[]) (mp:=Xag (Xb 8) (0:Int)) (ct:=0) (aT:=0) (be:=cells) (bf:=Xag (Xb 8) (0:Int)) jw
     (λiM=>(some ((),(((2:Int),(iM,(cells,(Xag (Xb 8) (0:Int),0)))),())))) (λr b c m=>(some ((),(((1:Int),(r,(c,(m,b)))),())))) (M+1) 0 (ks0 regs cells) ki (by have:=kc.len;omega)
    have hu:=Wlr kc (l.length+1) 0 _ ki;have hi:=(Wlx kc (l.length+1) 0 _ ki).2.2.2.2.1;rw[WqB kc ki hN]at key;have rI:Zm (M+1) (Zag (M+1) M) l [] [] 0 cells (Xag (Xb 8) (0:Int)) (λiM=>(some ((),(((2:Int),(iM,(cells,(Xag (Xb 8) (0:Int),0)))),())):Option Ks)) (λou qy lG lH qz lI lJ=>(some ((),(((1:Int),(lG,(lI,(lJ,lH)))),())))) (M+1) 0 regs 0 [] cells (Xag (Xb 8) (0:Int))=_:=key;have en:Xf ([]:List Int) regs=regs:=rfl;simp only[en,rI,Bool.and_true,cond_true];generalize Wcp l (l.length+1) 0 (ks0 regs cells)=f at hu hi;obtain⟨b,s⟩:=f;cases b
    .rfl
    .have jz:s.log= []:=hi rfl;have tM:WeC s.cells s.log=cells:=hu;rw[jz]at tM;have pe:s.cells=cells:=tM;simp only[cond_true,Xd,pe]
end
end
section
theorem Wn6{l:List Opn}(h:KC l):KCe l:=⟨h.len,h.up,h.z,λi hi=>⟨(h.ok i hi).1,(h.ok i hi).2.1,h.k10 i hi⟩,h.sk⟩
def ovl(c:List Int)(rows:List Rw):List Int:=rows.foldl (λc r=>c.set r.1.toNat r.2) c
theorem Wk6(c:List Int)(l:List Rw)(r:Rw):ovl c (l++ [r])=(ovl c l).set r.1.toNat r.2:=by unfold ovl;rw[Xfb];rfl
theorem Wku(c:List Int)(a b:List Rw):ovl c (a++b)=ovl (ovl c a) b:=by unfold ovl;rw[Xfb]
theorem WaD:∀{l:List Rw} {c:List Int},Vals 8 c->WdJ l->Vals 8 (ovl c l)
 | [],c,h,_=>h
 |r::l,c,h,hr=>WaD (l:=l) (h.set r.1.toNat (hr r (Xh ..)).2) λx hx=>hr x (Xe _ hx)
theorem WcS{c:Int}:∀{l:List Rw} {A:List Int},Vals 8 A->WdJ l->0<=c->c<=7->(ovl A l).getD c.toNat 0=match lst l c with|some v=>v|none=>A.getD c.toNat 0
 | [],A,_,_,_,_=>rfl
 |r::l,A,hA,hr,h0,h7=>by
  have qk:=hr r (Xh ..);have ih:=WcS (c:=c) (l:=l) (A:=A.set r.1.toNat r.2) (hA.set r.1.toNat qk.2) (λx hx=>hr x (Xe _ hx)) h0 h7;show(ovl (A.set r.1.toNat r.2) l).getD c.toNat 0=_;rw[ih,lst];cases lst l c with
  |some v=>rfl
  |none=>
   simp only;by_cases hc:r.1=c
   .rw[if_pos hc,←hc,Xv,Xdp (by rw[hA.len];omega)];rfl
   .rw[if_neg hc,Xv,Xv,Xcr (by omega)]
def Wjz:List Int->List Rw->List Rw
 |_,[]=>[]
 |A,r::l=>(r.1,A.getD r.1.toNat 0)::Wjz (A.set r.1.toNat r.2) l
theorem Wfv:∀{l:List Rw} {A:List Int},(Wjz A l).length=l.length
 | [],_=>rfl
 |r::l,A=>by rw[Wjz,Xt,Xt,Wfv]
theorem Wgc(r:Rw):∀(l:List Rw) (A:List Int),Wjz A (l++ [r])=Wjz A l++ [(r.1,(ovl A l).getD r.1.toNat 0)]
 | [],_=>rfl
 |x::l,A=>by
  rw[Xaw,Wjz,Wjz,Wgc r l,Xaw];rfl
theorem Woh(n:Nat):∀(l:List Rw) (A:List Int),(Wjz A l).take n=Wjz A (l.take n):=by
 induction n with
 |zero=>intro l A;simp[Wjz]
 |succ n ih=>
  intro l A;cases l with
  |nil=>rfl
  |cons r l=>rw[Wjz,Xeu,Xeu,Wjz,ih]
theorem Wi1{A:List Int}{n:Nat}:∀{l:List Rw},WeC (ovl A l) ((Wjz A l).drop n)=ovl A (l.take n):=by
 intro l;generalize hk:l.length=k
 induction k generalizing l with
 |zero=>
  have:l= []:=Xx hk;subst this;simp[Wjz,WeC,ovl]
 |succ k ih=>
  rcases Wav l with rfl|⟨q,r,rfl⟩
  .simp at hk
  .have hq:q.length=k:=by simpa using hk
   by_cases hn:n<=q.length
   .rw[Wk6,Wgc,WeI (by rw[Wfv];exact hn),ih hq,Xcs hn]
   .rw[List.drop_eq_nil_of_le (by rw[Wfv];simp;omega),Xbr (by simp;omega)];rfl
structure EM(A:List Int)(x:Kd)(s:KS):Prop where
 regs:s.regs=x.regs
 cells:s.cells=ovl A x.writes
 log:s.log=Wjz A x.writes
 marks:s.marks=x.marks
def Sim(code:List Opn)(r0:List Int)(x:Kd):Prop:=∀A:List Int,Vals 8 A->(∀e∈x.seen,A.getD e.1.toNat 0=e.2.1)->∀F:Nat,25<=F->
 (x.phase=0/\∃(j:Nat) (s:KS),(j:Int)<=x.pc/\EM A x s/\KI code x.pc.toNat s/\Wcp code F 0 (ks0 r0 A)=Wcp code (F-j) x.pc.toNat s)\/
 (x.phase≠0/\((x.out=1/\∃s:KS,s.regs=x.regs/\s.cells=ovl A x.writes/\Wcp code F 0 (ks0 r0 A)=(false,s))\/(x.out=2/\x.writes= []/\∃s,s.cells=A/\Wcp code F 0 (ks0 r0 A)=(true,s))))
section
variable{M:Int->Int->Prop}{N:Nat}{codes:List (List Opn)}{n:Int}{f:Fm}{k:Nat}{code:List Opn}{m:Mm}{x y:Kd}{r0:List Int}
theorem Sim.new(hr:Vals 4 r0)(h0:x.phase=0)(hp:x.pc=0)(hg:x.regs=r0)(hw:x.writes= [])(hm:x.marks= []):Sim code r0 x:=λA hA _ F hF=>by
 refine .inl ⟨h0,0,ks0 r0 A,by rw[hp];exact Xco _,⟨by rw[hg];rfl,by rw[hw];rfl,by rw[hw];rfl,by rw[hm];rfl⟩,?_,?_⟩
 .rw[hp];exact Wkj hr hA
 .rw[hp];rfl
theorem Sim.same(h:Sim code r0 x)(h0:y.phase=x.phase)(hp:y.pc=x.pc)(hg:y.regs=x.regs)(hw:y.writes=x.writes)(hm:y.marks=x.marks)(hs:y.seen=x.seen)(ho:y.out=x.out):Sim code r0 y:=λA hA cT F hF=>by
 rcases h A hA (λe he=>cT e (by rw[hs];exact he)) F hF with⟨a,j,s,b,c,d,e⟩|⟨a,⟨b,s,c,c',d⟩|⟨b,c,s,d,e⟩⟩
 .exact .inl ⟨by rw[h0];exact a,j,s,by rw[hp];exact b,⟨by rw[hg];exact c.regs,by rw[hw];exact c.cells,by rw[hw];exact c.log,by rw[hm];exact c.marks⟩,by rw[hp];exact d,by rw[hp];exact e⟩
 .exact .inr ⟨by rw[h0];exact a,.inl ⟨by rw[ho];exact b,s,by rw[hg];exact c,by rw[hw];exact c',d⟩⟩
 .exact .inr ⟨by rw[h0];exact a,.inr ⟨by rw[ho];exact b,by rw[hw];exact c,s,d,e⟩⟩
theorem Sim.fin(h:Sim code r0 x)(h0:x.phase≠0)(h1:y.phase≠0)(hg:y.regs=x.regs)(hw:y.writes=x.writes)(hs:y.seen=x.seen)(ho:y.out=x.out):Sim code r0 y:=λA hA cT F hF=>by
 rcases h A hA (λe he=>cT e (by rw[hs];exact he)) F hF with⟨a,_⟩|⟨a,⟨b,s,c,c',d⟩|⟨b,c,s,d,e⟩⟩
 .exact absurd a h0
 .exact .inr ⟨h1,.inl ⟨by rw[ho];exact b,s,by rw[hg];exact c,by rw[hw];exact c',d⟩⟩
 .exact .inr ⟨h1,.inr ⟨by rw[ho];exact b,by rw[hw];exact c,s,d,e⟩⟩
theorem Wp0{F j pc:Nat}{s s':KS}{cN:Nat}(hF:j+1<=F)(hp:pc<code.length)(h:Wa8 code pc s=(true,cN,s')):Wcp code (F-j) pc s=Wcp code (F-(j+1)) cN s':=by
 rw[show F-j=(F-(j+1))+1 by omega,Wcp,h];simp[hp]
theorem Sim.go(hc:KCe code)(h:Sim code r0 x)(h0:x.phase=0)(fD:0<=x.pc)(hp:x.pc.toNat<code.length)(oG:y.phase=0)(tK:0<=y.pc)(bO:∀e∈x.seen,e∈y.seen)
  (dT:∀A s,Vals 8 A->(∀e∈y.seen,A.getD e.1.toNat 0=e.2.1)->EM A x s->KI code x.pc.toNat s->∃s',Wa8 code x.pc.toNat s=(true,y.pc.toNat,s')/\EM A y s'):Sim code r0 y:=λA hA cT F hF=>by
 rcases h A hA (λe he=>cT e (bO e he)) F hF with⟨_,j,s,b,c,d,e⟩|⟨a,_⟩
 .obtain⟨s',e1,e2⟩:=dT A s hA cT c d;have g0:=(Wee hc d hp).1 (by rw[e1]);rw[e1]at g0;have hlen:=hc.len;refine .inl ⟨oG,j+1,s',?_,e2,g0.2,?_⟩
  .have:=g0.1;simp only at this;omega
  .rw[e,Wp0 (by omega) hp e1]
 .exact absurd h0 a
theorem Sim.stop(hc:KCe code)(h:Sim code r0 x)(h0:x.phase=0)(fD:0<=x.pc)(hp:x.pc.toNat<code.length)(oG:y.phase≠0)(rJ:y.out=2)(hw:y.writes= [])(hs:y.seen=x.seen)
  (dT:∀A s,Vals 8 A->EM A x s->KI code x.pc.toNat s->∃q s',Wa8 code x.pc.toNat s=(false,q,s')/\s'.cells=A):Sim code r0 y:=λA hA cT F hF=>by
 rcases h A hA (λe he=>cT e (by rw[hs];exact he)) F hF with⟨_,j,s,b,c,d,e⟩|⟨a,_⟩
 .obtain⟨q,s',e1,e2⟩:=dT A s hA c d;have hlen:=hc.len;refine .inr ⟨oG,.inr ⟨rJ,hw,s',e2,?_⟩⟩;rw[e,show F-j=(F-(j+1))+1 by omega,Wcp,e1];simp[hp]
 .exact absurd h0 a
theorem Sim.over(hc:KCe code)(h:Sim code r0 x)(h0:x.phase=0)(fD:0<=x.pc)(dI:x.pc<=code.length)(hp:code.length<=x.pc)(oG:y.phase≠0)(rJ:y.out=1)(hg:y.regs=x.regs)(hw:y.writes=x.writes)(hs:y.seen=x.seen):Sim code r0 y:=λA hA cT F hF=>by
 rcases h A hA (λe he=>cT e (by rw[hs];exact he)) F hF with⟨_,j,s,b,c,d,e⟩|⟨a,_⟩
 .have hlen:=hc.len;refine .inr ⟨oG,.inl ⟨rJ,s,by rw[hg];exact c.regs,by rw[hw];exact c.cells,?_⟩⟩;rw[e,show F-j=(F-(j+1))+1 by omega,Wcp,decide_eq_false (show¬x.pc.toNat<code.length by omega)];rfl
 .exact absurd h0 a
theorem WkR{i:Int}:opN code i=WpG code i.toNat:=rfl
theorem EM.cell{A:List Int}{s:KS}(h:EM A x s)(hA:Vals 8 A)(hr:WdJ x.writes){c:Int}(h0:0<=c)(h7:c<=7):s.cells.getD c.toNat 0=match lst x.writes c with|some v=>v|none=>A.getD c.toNat 0:=by
 rw[h.cells,WcS hA hr h0 h7]
theorem WoK(bi:KC code)(hF:FOk codes n f)(cu:KOk code f.clock n x)(h0:x.phase=0)(h:Sim code f.regs x):Sim code f.regs (WeL m f x code).2:=by
 have hc:=Wn6 bi;have hlen:=bi.len;have bV:=cu.pc;have jX:x.writes.length<=300:=by have:=cu.wl;omega
 have cC:Sim code f.regs (f.again x):=Sim.new hF.regs rfl rfl rfl rfl rfl;unfold WeL;by_cases hp:x.pc>=code.length
 .rw[if_pos hp];exact h.over hc h0 bV.1 bV.2 hp (by show(1:Int)≠0;omega) rfl rfl rfl rfl
 .rw[if_neg hp];have hlt:x.pc.toNat<code.length:=by omega
  have vN:opN code x.pc=code[x.pc.toNat]:=by rw[WkR];exact WcZ hlt
  have bm:=bi.ok _ hlt;have rK:=bi.k10 _ hlt;rw[←vN]at bm rK;have gi:∀s,Wa8 code x.pc.toNat s=Wcb code x.pc.toNat s (opN code x.pc):=λs=>by unfold Wa8;rw[WkR]
  have kM:(x.pc+1).toNat=x.pc.toNat+1:=by omega
  simp only;generalize ho:opN code x.pc=o at*;by_cases h5:o.1=5
  .rw[if_pos h5];have ay:=(WpC bm.1 h5).2;unfold WO at ay;simp at ay;have rd:∀(v:Int) (sn:List En) (y:Kd),(∀e∈x.seen,e∈sn)->(∀A:List Int,Vals 8 A->(∀e∈sn,A.getD e.1.toNat 0=e.2.1)->(match lst x.writes o.2.2.1 with|some v=>v|none=>A.getD o.2.2.1.toNat 0)=v)->
     y.phase=0->y.pc=x.pc+1->y.regs=Wn5 x.regs o.2.1 v->y.writes=x.writes->y.marks=x.marks->y.seen=sn->Sim code f.regs y:=λv sn y bO hv y0 y1 y2 y3 y4 y5=>by
    refine h.go hc h0 bV.1 hlt y0 (by omega) (by rw[y5];exact bO) λA s hA cT hE hK=>?_;refine⟨_,by rw[gi];unfold Wcb;rw[h5,y1,kM];rfl,?_,?_,?_,?_⟩
    .show s.regs.set o.2.1.toNat (s.cells.getD o.2.2.1.toNat 0)=_;rw[hE.cell hA cu.rows ay.1 ay.2,hv A hA (by rw[←y5];exact cT),hE.regs,y2];rfl
    .show s.cells=_;rw[hE.cells,y3]
    .show s.log=_;rw[hE.log,y3]
    .show s.marks=_;rw[hE.marks,y4]
   have kz:=Wet (c:=o.2.2.1) cu.rows jX;unfold WaG;cases hl:WaF x.writes o.2.2.1 with
   |some v=>
    exact rd v x.seen _ (λe he=>he) (λA _ _=>by rw[←kz,hl]) h0 rfl rfl rfl rfl rfl
   |none=>
    have mD:∀e:En,e.1=o.2.2.1->∀A:List Int,Vals 8 A->(∀z∈x.seen++ [e],A.getD z.1.toNat 0=z.2.1)->(match lst x.writes o.2.2.1 with|some v=>v|none=>A.getD o.2.2.1.toNat 0)=e.2.1:=λe he A hA cT=>by
     rw[←kz,hl,←he];exact cT e (by simp)
    cases he:ent f.buf o.2.2.1 with
    |some r=>
     simp only;split
     .exact cC
     .exact rd r.2.2.1 (x.seen++ [r.2]) _ (λe he=>Xj _ he) (mD r.2 (Wez he).2) h0 rfl rfl rfl rfl rfl
    |none=>
     simp only;generalize WM m f.rv _=pb;split
     .exact h.same rfl rfl rfl rfl rfl rfl rfl
     .split
      .exact rd pb.2.2.2 (x.seen++ [(o.2.2.1,pb.2.2.2,-1)]) _ (λe he=>Xj _ he) (mD (o.2.2.1,pb.2.2.2,-1) rfl) h0 rfl rfl rfl rfl rfl
      .exact h.same rfl rfl rfl rfl rfl rfl rfl
  .rw[if_neg h5];have n5:(o.1==5)=false:=by simpa using h5
   by_cases bq:o.1=10
   .rw[if_pos bq];have bH:(o.1==10)=true:=by simpa using bq
    have e6:(o.1==6)=false:=by simp;omega
    have e7:(o.1==7)=false:=by simp;omega
    have e8:(o.1==8)=false:=by simp;omega
    have e9:(o.1==9)=false:=by simp;omega
    unfold Wdd;by_cases hm:x.marks.length=0
    .rw[if_pos hm];have rL:x.marks= []:=Xx hm;refine h.stop hc h0 bV.1 hlt (by show(1:Int)≠0;omega) rfl rfl rfl λA s hA hE hK=>?_;have he:s.marks.isEmpty=true:=by rw[hE.marks,rL];rfl
     refine⟨_,_,by rw[gi];unfold Wcb;rw[n5,e6,e7,e8,e9,bH,he];rfl,?_⟩;show WeC s.cells s.log=A;have:=Wi1 (A:=A) (n:=0) (l:=x.writes);rw[Xce]at this;rw[hE.cells,hE.log,this];rfl
    .rw[if_neg hm];have rL:x.marks≠ []:=λz=>hm (by rw[z];rfl);have vQ:0<=Wgt code (Wf8 x.marks (0,0,[])).1.toNat+1:=by omega
     refine h.go hc h0 bV.1 hlt h0 (by show(0:Int)<=((Wgt code (Wf8 x.marks (0,0,[])).1.toNat:Nat):Int)+1;omega) (λe he=>he) λA s hA cT hE hK=>?_;have hne:s.marks≠ []:=by rw[hE.marks];exact rL
     have he:s.marks.isEmpty=false:=by cases hq:s.marks with|nil=>exact absurd hq hne|cons a b=>rfl
     obtain⟨mm,q,z,hq,ht,hx,⟨oO,h8⟩,bv,eD,ch,kg⟩:=Wf1 hc hK hne;obtain⟨z1,z2,z3⟩:=hK.mr z (by rw[hq];simp);have fe:Wf8 x.marks (0,0,[])=z:=by rw[←hE.marks,hq];exact WgX q z _
     have hdl:x.marks.dropLast=q:=by rw[←hE.marks,hq,Xdw]
     have rM:Wgt code z.1.toNat=mt code z.1.toNat:=by rw[hx,Xp];exact WgP bv
     have kZ:s.marks.take (s.marks.length-1)=q:=by rw[hq];simp
     rw[fe];refine⟨_,by rw[gi];unfold Wcb;rw[n5,e6,e7,e8,e9,bH,he,ht,kZ];simp only[cond_false,cond_true];refine congrArg (λu:Nat=>(true,u,_)) ?_;show mt code z.1.toNat+1=(((Wgt code z.1.toNat:Nat):Int)+1).toNat;rw[rM];omega,?_,?_,?_,?_⟩
     .rfl
     .show WeC s.cells (s.log.drop z.2.1.toNat)=ovl A (x.writes.take z.2.1.toNat);rw[hE.cells,hE.log,Wi1]
     .show s.log.take z.2.1.toNat=Wjz A (x.writes.take z.2.1.toNat);rw[hE.log,Woh]
     .show q=x.marks.dropLast;rw[hdl]
   .rw[if_neg bq];have oz:(o.1==10)=false:=by simpa using bq
    by_cases h6:o.1=6
    .rw[if_pos h6];have b6:(o.1==6)=true:=by simpa using h6
     refine h.go hc h0 bV.1 hlt h0 (by show 0<=x.pc+1;omega) (λe he=>he) λA s hA cT hE hK=>?_;refine⟨_,by rw[gi];unfold Wcb;rw[n5,b6];show _=(true,(x.pc+1).toNat,_);rw[kM];rfl,?_,?_,?_,?_⟩
     .exact hE.regs
     .show s.cells.set o.2.1.toNat (s.regs.getD o.2.2.1.toNat 0)=ovl A (x.writes++ [(o.2.1,WdD x.regs o.2.2.1 0)]);rw[Wk6,hE.cells,hE.regs];rfl
     .show s.log++ [(o.2.1,s.cells.getD o.2.1.toNat 0)]=Wjz A (x.writes++ [(o.2.1,WdD x.regs o.2.2.1 0)]);rw[Wgc,hE.log,hE.cells]
     .exact hE.marks
    .rw[if_neg h6];have n6:(o.1==6)=false:=by simpa using h6
     by_cases h7:o.1=7
     .rw[if_pos h7];have b7:(o.1==7)=true:=by simpa using h7
      have o7:=WqA bm.1 h7;refine h.go hc h0 bV.1 hlt h0 (by show 0<=(if WdD x.regs o.2.1 0=0 then x.pc+o.2.2.1 else x.pc)+1;split<;>omega) (λe he=>he) λA s hA cT hE hK=>?_;refine⟨s,?_,hE.regs,hE.cells,hE.log,hE.marks⟩;rw[gi];unfold Wcb;rw[n5,n6,b7,hE.regs];show(true,(bif x.regs.getD o.2.1.toNat 0==0 then x.pc.toNat+1+o.2.2.1.toNat else x.pc.toNat+1),s)=(true,((if WdD x.regs o.2.1 0=0 then x.pc+o.2.2.1 else x.pc)+1).toNat,s);have vR:WdD x.regs o.2.1 0=x.regs.getD o.2.1.toNat 0:=rfl;rw[vR];by_cases hz:x.regs.getD o.2.1.toNat 0=0
      .have bz:(x.regs.getD o.2.1.toNat 0==0)=true:=by simpa using hz
       rw[if_pos hz,bz];refine congrArg (λu:Nat=>(true,u,s)) ?_;simp only[cond_true];omega
      .have bz:(x.regs.getD o.2.1.toNat 0==0)=false:=by simpa using hz
       rw[if_neg hz,bz];refine congrArg (λu:Nat=>(true,u,s)) ?_;simp only[cond_false];omega
     .rw[if_neg h7];have n7:(o.1==7)=false:=by simpa using h7
      by_cases h8:o.1=8
      .rw[if_pos h8];have b8:(o.1==8)=true:=by simpa using h8
       refine h.go hc h0 bV.1 hlt h0 (by show 0<=x.pc+1;omega) (λe he=>he) λA s hA cT hE hK=>?_;refine⟨{s with marks:=s.marks++ [((x.pc.toNat:Int),(s.log.length:Int),s.regs)]},by rw[gi];unfold Wcb;rw[n5,n6,n7,b8];simp only[cond_false,cond_true];show _=(true,(x.pc+1).toNat,_);rw[kM],hE.regs,hE.cells,hE.log,?_⟩;show s.marks++ [((x.pc.toNat:Int),(s.log.length:Int),s.regs)]=x.marks++ [(x.pc,(x.writes.length:Int),x.regs)];rw[hE.marks,hE.log,hE.regs,Wfv,show((x.pc.toNat:Nat):Int)=x.pc by omega]
      .rw[if_neg h8];have n8:(o.1==8)=false:=by simpa using h8
       by_cases h9:o.1=9
       .rw[if_pos h9];have b9:(o.1==9)=true:=by simpa using h9
        refine h.go hc h0 bV.1 hlt h0 (by show 0<=x.pc+1;omega) (λe he=>he) λA s hA cT hE hK=>?_;refine⟨{s with marks:=s.marks.take (s.marks.length-1),regs:=s.regs.set (WpG code (Wl4 s).1.toNat).2.1.toNat 1},by rw[gi];unfold Wcb;rw[n5,n6,n7,n8,b9];simp only[cond_false,cond_true];show _=(true,(x.pc+1).toNat,_);rw[kM],?_,hE.cells,hE.log,?_⟩
        .show s.regs.set (WpG code (Wl4 s).1.toNat).2.1.toNat 1=Wn5 x.regs (opN code (Wf8 x.marks (0,0,[])).1).2.1 1;have:Wl4 s=Wf8 x.marks (0,0,[]):=by unfold Wl4 Wf8;rw[hE.marks];rfl
         rw[this,hE.regs];rfl
        .show s.marks.take (s.marks.length-1)=x.marks.dropLast;rw[hE.marks,Xft]
       .rw[if_neg h9];have n9:(o.1==9)=false:=by simpa using h9
        refine h.go hc h0 bV.1 hlt h0 (by show 0<=x.pc+1;omega) (λe he=>he) λA s hA cT hE hK=>?_;refine⟨{s with regs:=WfW o s.regs},by rw[gi];unfold Wcb;rw[n5,n6,n7,n8,n9,oz];simp only[cond_false];show _=(true,(x.pc+1).toNat,_);rw[kM],?_,hE.cells,hE.log,hE.marks⟩;show WfW o s.regs=WfW o x.regs;rw[hE.regs]
end
end
section
section
variable{M:Int->Int->Prop}{N:Nat}{codes:List (List Opn)}{n:Int}{f g:Fm}{k:Nat}{code:List Opn}{m:Mm}{x y:Kd}{r0:List Int}
def VL(f:Fm)(x:Kd):Prop:=∀j:Nat,(j:Int)<x.pos->∀h:j<x.seen.length,WpH f.buf x.seen[j].1=x.seen[j].2.2
structure FV(M:Int->Int->Prop)(codes:List (List Opn))(f:Fm):Prop where
 sim:∀(k:Nat) (h:k<f.kids.length),Sim (codes.getD k []) f.regs f.kids[k]
 own:∀(k:Nat) (h:k<f.kids.length),f.kids[k].phase=2->f.owner=(k:Int)+1
 val:∀(k:Nat) (h:k<f.kids.length),f.kids[k].phase=2->VL f f.kids[k]
 pz:∀(k:Nat) (h:k<f.kids.length),f.kids[k].phase≠2->f.kids[k].pos=0
 mrg:∀(i:Nat) (h:i<f.order.length),∀e∈(f.kids.getD f.order[i].toNat {}).seen,lst (Wh f i) e.1=some e.2.1\/(lst (Wh f i) e.1=none/\M e.1 e.2.1)
theorem Wnw{b:List En}{c t:Int}(h:WpH b c=t)(ht:0<=t):∃r:Nat×En,ent b c=some r/\r.2.2.2=t:=by
 unfold WpH at h;cases he:ent b c with
 |none=>rw[he]at h;simp only at h;omega
 |some r=>rw[he]at h;exact⟨r,rfl,h⟩
theorem WmW{b:List En}{c:Int}(h:WpH b c= -1)(hb:∀e∈b,0<=e.2.2):ent b c=none:=by
 unfold WpH at h;cases he:ent b c with
 |none=>rfl
 |some r=>rw[he]at h;simp only at h;have:=hb _ (Wez he).1;omega
theorem Wou(h:FT M f)(hF:FOk codes n f)(hx:x.since<=f.clock)(hs:SN M f x)(hk:∀e∈x.seen,0<=e.1/\e.1<=7){e:En}(he:e∈x.seen)(hv:WpH f.buf e.1=e.2.2):
  lst (Wh f f.order.length) e.1=some e.2.1\/(lst (Wh f f.order.length) e.1=none/\M e.1 e.2.1):=by
 have hcl:=hF.clock;rcases hs e he with⟨a,b,c⟩|⟨a,b,c,d⟩
 .right;have hn:=WmW (hv.trans a) λz hz=>(hF.bufE z hz).2.2.1;have:=hk e he;exact⟨h.non _ this.1 this.2 (Whr hn) _ (Xl _),c⟩
 .left;obtain⟨r,h1,h2⟩:=Wnw hv a;obtain⟨h3,h4⟩:=Wez h1;have e1:=h.buf r.2 h3 e.2.2.toNat (by omega) (by omega);have e2:=h.buf r.2 h3 f.order.length (by omega) (Xl _);rw[h4]at e1 e2;rw[c]at e1;rw[e2];exact e1.symm
theorem FV.put(hv:FV M codes f)(h:FT M f)(hk:k<f.kids.length)(hp:f.kids[k].phase≠3)(hs:g.start=f.start)(ho:g.order=f.order)(hb:g.buf=f.buf)(hg:g.kids=f.kids.set k y)(hr:g.regs=f.regs)
  (dN:Sim (codes.getD k []) f.regs y) (hown:∀(j:Nat) (hj:j<f.kids.length),j≠k->f.kids[j].phase=2->g.owner=(j:Int)+1) (hy:y.phase=2->g.owner=(k:Int)+1/\VL f y) (lU:y.phase≠2->y.pos=0):FV M codes g:=by
 have bB:∀(j:Nat) (hj:j<g.kids.length) (hj':j<f.kids.length),g.kids[j]=if k=j then y else f.kids[j]:=λj hj hj'=>by simp only[hg,Xbi]
 have hlen:g.kids.length=f.kids.length:=by rw[hg,Xad]
 have hne:∀j∈f.order,k≠j.toNat:=λj hj e=>by
  obtain⟨j0,j1,j2⟩:=h.ord j hj;subst e;exact hp j2
 have jZ:∀j∈f.order,g.kids.getD j.toNat {}=f.kids.getD j.toNat {}:=λj hj=>by
  rw[hg,Xv,Xv,Xcr (hne j hj)]
 have pu:∀n,Wh g n=Wh f n:=λn=>Wep hs (by rw[ho]) λj hj=>by unfold WiB;rw[jZ j hj]
 refine⟨λj hj=>?_,λj hj cV=>?_,λj hj cV=>?_,λj hj cV=>?_,λi hi e he=>?_⟩
 .rw[bB j hj (by omega),hr];split
  .rename_i e;subst e;exact dN
  .exact hv.sim j (by omega)
 .rw[bB j hj (by omega)]at cV;split at cV
  .rename_i e;subst e;exact(hy cV).1
  .rename_i e;exact hown j (by omega) (λq=>e q.symm) cV
 .rw[bB j hj (by omega)]at cV⊢;unfold VL;rw[hb];split at cV
  .rename_i e;rw[if_pos e];exact(hy cV).2
  .rename_i e;rw[if_neg e];exact hv.val j (by omega) cV
 .rw[bB j hj (by omega)]at cV⊢;split at cV
  .rename_i e;rw[if_pos e];exact lU cV
  .rename_i e;rw[if_neg e];exact hv.pz j (by omega) cV
 .have jz:i<f.order.length:=by rw[←ho];exact hi
  have e1:g.order[i]=f.order[i]:=by simp only[ho]
  rw[e1,jZ _ (Xac jz)]at he;rw[pu];exact hv.mrg i jz e he
theorem Wnj(hv:FV M codes f)(h:FT M f)(hF:FOk codes n f)(hk:k<f.kids.length)(hx:f.kids[k]=x)(h2:x.phase=2)(hpos:x.pos=x.seen.length):FV M codes (Fm.put (Wad f x k) k):=by
 have cu:=hF.kid k hk;rw[hx]at cu;have hcl:=hF.clock;have jg:(Fm.put (Wad f x k) k).kids=f.kids.set k {x with phase:=3,pos:=0,marks:=[]}:=rfl;have hlen:(Fm.put (Wad f x k) k).kids.length=f.kids.length:=by rw[jg,Xad]
 have jt:(Fm.put (Wad f x k) k).order=f.order++ [(k:Int)]:=rfl;have vS:(Fm.put (Wad f x k) k).regs=f.regs:=rfl;have qp:(Fm.put (Wad f x k) k).start=f.start:=rfl;have bB:∀(j:Nat) (hj:j<(Fm.put (Wad f x k) k).kids.length) (hj':j<f.kids.length),(Fm.put (Wad f x k) k).kids[j]=if k=j then{x with phase:=3,pos:=0,marks:=[]}else f.kids[j]:=λj hj hj'=>by simp only[jg,Xbi]
 have hne:∀j∈f.order,k≠j.toNat:=λj hj e=>by
  obtain⟨j0,j1,j2⟩:=h.ord j hj;subst e;rw[hx]at j2;omega
 have jZ:∀j∈f.order,(Fm.put (Wad f x k) k).kids.getD j.toNat {}=f.kids.getD j.toNat {}:=λj hj=>by
  rw[jg,Xv,Xv,Xcr (hne j hj)]
 have pu:∀n,n<=f.order.length->Wh (Fm.put (Wad f x k) k) n=Wh f n:=λn hn=>Wep qp (by rw[jt,Xcs hn]) λj hj=>by unfold WiB;rw[jZ j hj]
 have gv:∀(j:Nat) (hj:j<f.kids.length),j≠k->f.kids[j].phase≠2:=λj hj iC hp=>by
  have a:=hv.own j hj hp;have b:=hv.own k hk (by rw[hx];exact h2);omega
 have oH:∀(j:Nat) (hj:j<(Fm.put (Wad f x k) k).kids.length),(Fm.put (Wad f x k) k).kids[j].phase≠2:=λj hj=>by
  rw[bB j hj (by omega)];split
  .show(3:Int)≠2;omega
  .rename_i e;exact gv j (by omega) λq=>e q.symm
 refine⟨λj hj=>?_,λj hj cV=>absurd cV (oH j hj),λj hj cV=>absurd cV (oH j hj),λj hj _=>?_,λi hi e he=>?_⟩
 .rw[bB j hj (by omega),vS];split
  .rename_i e;subst e;have:=hv.sim k hk;rw[hx]at this;exact this.fin (by omega) (by show(3:Int)≠0;omega) rfl rfl rfl rfl
  .exact hv.sim j (by omega)
 .rw[bB j hj (by omega)];split
  .rfl
  .rename_i e;exact hv.pz j (by omega) (gv j (by omega) λq=>e q.symm)
 .have jz:i<f.order.length+1:=by rw[jt]at hi;simpa using hi
  by_cases hlt:i<f.order.length
  .have e1:(Fm.put (Wad f x k) k).order[i]=f.order[i]:=by simp only[jt];rw[List.getElem_append_left hlt]
   rw[e1,jZ _ (Xac hlt)]at he;rw[pu i (by omega)];exact hv.mrg i hlt e he
  .have ie:i=f.order.length:=by omega
   subst ie;have e1:(Fm.put (Wad f x k) k).order[f.order.length]=(k:Int):=by simp only[jt];simp
   rw[e1,Xp,jg,Xv,Xdp hk]at he;have fg:e∈x.seen:=he;rw[pu _ (Xl _)];obtain⟨j,hj,vT⟩:=List.getElem_of_mem fg;have iU:=hv.val k hk (by rw[hx];exact h2);rw[hx]at iU;have:=iU j (by omega) hj;rw[vT]at this;exact Wou h hF cu.since.2 (hx▸h.sn k hk) (λz hz=>(cu.seen z hz).1) fg this
theorem Wpf(hv:FV M codes f)(h:FT M f)(hF:FOk codes n f)(hk:k<f.kids.length)(bi:KC code)(aq:codes.getD k []=code):FV M codes (WaY m f k code):=by
 unfold WaY;split
 .exact hv
 .rw[Wp3 hk];obtain⟨x,hx⟩:∃x,f.kids[k]=x:=⟨_,rfl⟩;have dN:=hv.sim k hk;have cu:=hF.kid k hk;have hown:=hv.own k hk;have dv:=hv.val k hk;have lU:=hv.pz k hk;rw[hx]at dN hown dv lU⊢;rw[hx,aq]at cu;rw[aq]at dN;have oth:∀(o:Int),(o=f.owner\/f.owner=0\/x.phase=2)->∀(j:Nat) (hj:j<f.kids.length),j≠k->f.kids[j].phase=2->o=(j:Int)+1:=λo ho j hj iC cV=>by
   have a:=hv.own j hj cV;rcases ho with rfl|h0|h2
   .exact a
   .omega
   .have:=hown h2;omega
  unfold WaA;by_cases h0:x.phase=0
  .rw[if_pos h0];have hp:f.kids[k].phase≠3:=by rw[hx];omega
   have iZ:(WeL m f x code).1.start=f.start/\(WeL m f x code).1.order=f.order/\(WeL m f x code).1.buf=f.buf/\(WeL m f x code).1.kids=f.kids/\(WeL m f x code).1.regs=f.regs/\(WeL m f x code).1.owner=f.owner/\(WeL m f x code).2.phase≠2/\(WeL m f x code).2.pos=0:=by
    have fD:=lU (by omega);unfold WeL;split
    .exact⟨rfl,rfl,rfl,rfl,rfl,rfl,by show(1:Int)≠2;omega,fD⟩
    .simp only;split
     .unfold WaG;cases WaF x.writes (opN code x.pc).2.2.1 with
      |some v=>exact⟨rfl,rfl,rfl,rfl,rfl,rfl,by show x.phase≠2;omega,fD⟩
      |none=>
       cases ent f.buf (opN code x.pc).2.2.1 with
       |some r=>
        simp only;split
        .exact⟨rfl,rfl,rfl,rfl,rfl,rfl,by show(0:Int)≠2;omega,rfl⟩
        .exact⟨rfl,rfl,rfl,rfl,rfl,rfl,by show x.phase≠2;omega,fD⟩
       |none=>
        simp only;generalize WM m f.rv _=pb;split
        .exact⟨rfl,rfl,rfl,rfl,rfl,rfl,by show x.phase≠2;omega,fD⟩
        .split<;>exact⟨rfl,rfl,rfl,rfl,rfl,rfl,by show x.phase≠2;omega,fD⟩
     .split
      .unfold Wdd;split
       .exact⟨rfl,rfl,rfl,rfl,rfl,rfl,by show(1:Int)≠2;omega,fD⟩
       .exact⟨rfl,rfl,rfl,rfl,rfl,rfl,by show x.phase≠2;omega,fD⟩
      .repeat' split
       all_goals exact⟨rfl,rfl,rfl,rfl,rfl,rfl,by show x.phase≠2;omega,fD⟩
   obtain⟨a1,a2,a3,a4,a5,a6,a7,a8⟩:=iZ;exact hv.put h hk hp a1 a2 a3 (by show Xo (WeL m f x code).1.kids _ _=_;rw[a4]) a5 (by rw[aq];exact WoK bi hF cu h0 dN) (λj hj iC cV=>oth _ (.inl a6) j hj iC cV) (λq=>absurd q a7) λ_=>a8
  .rw[if_neg h0];split
   .rename_i h1;have dP:x.phase≠2:=by omega
    have hp:f.kids[k].phase≠3:=by rw[hx];omega
    split
    .rename_i hz;exact hv.put h hk hp rfl rfl rfl rfl rfl (by rw[aq];exact dN.fin h0 (by show(2:Int)≠0;omega) rfl rfl rfl rfl) (oth _ (.inr (.inl hz))) (λ_=>⟨rfl,λj hj hjl=>by
      have hj:(j:Int)<x.pos:=hj;rw[lU dP]at hj;omega⟩) λq=>absurd rfl q
    .exact hv.put h hk hp rfl rfl rfl rfl rfl (by rw[aq];exact dN) (oth _ (.inl rfl)) (λq=>absurd q dP) lU
   .split
    .rename_i h1 h2;have hp:f.kids[k].phase≠3:=by rw[hx];omega
     split
     .rename_i hpos;exact Wnj hv h hF hk hx h2 hpos
     .rename_i hpos;simp only;split
      .rename_i oM;refine hv.put h hk hp rfl rfl rfl rfl rfl (by rw[aq];exact dN.fin h0 h0 rfl rfl rfl rfl) (oth _ (.inl rfl)) (λ_=>⟨hown h2,λj hj hjl=>?_⟩) (λq=>absurd h2 q);have hj:(j:Int)<x.pos+1:=hj;have hjl:j<x.seen.length:=hjl;by_cases e:(j:Int)=x.pos
       .have:WdD x.seen x.pos (0,0,0)=x.seen[j]:=by
         unfold WdD;rw[←e,Xp,Xv,Xq hjl];rfl
        rw[this]at oM;exact oM
       .exact dv h2 j (by omega) hjl
      .exact hv.put h hk hp rfl rfl rfl rfl rfl (by rw[aq];exact Sim.new hF.regs rfl rfl rfl rfl rfl) (oth _ (.inr (.inr h2))) (λq=>(by change (0:Int)=2 at q;omega)) λ_=>rfl
    .have e:Fm.put (f,x) k=f:=by
      unfold Fm.put;simp only;rw[←hx,Xbn hk]
     rw[e];exact hv
end
end
end Go.Sx
