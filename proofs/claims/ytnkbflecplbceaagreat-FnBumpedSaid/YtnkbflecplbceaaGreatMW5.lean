/- Plain laws of the Lean functions. -/
import Derived.Test.YtnkbflecplbceaaGreatMW4
open Nat renaming le_refl→Xn,zero_le→Xbk,lt_trichotomy→Xda,add_zero→Xat,zero_add→Xaw
open List renaming countP_cons→Xeb,getElem_set→Xam,getElem_set_self→Xdf,getElem_set_ne→Xfa,all_eq_true→Xae,getElem_of_mem→Xaq,foldl_append→Xfk,length_set→Xaa,getElem_mem→Xx,mem_cons_self→Xi,getElem?_eq_getElem→Xq,replicate→Xt,getElem_replicate→Xbg,length_cons→Xr,range→Xbt,append_eq→Xaf,range_succ→Xhd,map_append→Xp,mem_map→Xu,mem_filter→Xar,length→Xa,getD→Xd,getElem_map→Xed,getElem_range→Xgr
open Int renaming le_refl→Xv,toNat_natCast→Xj,tmod_eq_emod_of_nonneg→Xbr,toNat→Xb
open Option renaming bind_some→Xc
open Bool renaming not_true→Xab,and_eq_true→Xh,or_eq_true→Xbs
namespace Go.Sx
set_option linter.unusedVariables false
set_option linter.unusedSimpArgs false
section
variable{s:Sc}{w v:Wo}{n:Int}{x y:Rt}{k i:Nat}{p:Pg}
theorem Woy(h0:WI s n w):∀(d i:Nat) (n':Int) (v:Wo),i+d=s.2.1.length->WI s n' v->n'+4*d<=99999->Rd s w v i->Rd s w (WaL s d i v) s.2.1.length/\∃m,m<=n'+4*d/\WI s m (WaL s d i v)
 |0,i,n',v,hi,hV,hn,hR=>by
  rw[WaL,show s.2.1.length=i by omega];exact⟨hR,n',by omega,hV⟩
 |d+1,i,n',v,hi,hV,hn,hR=>by
  have z7:=h0.ok.len;have hB:=hR.step h0 ⟨n',by omega,hV⟩ (by omega);have h3:=pk3 hV.ok (i:=i) (by omega);have hW:=hV.blk (k:=i);obtain⟨a,m,hm,b⟩:=Woy h0 d (i+1) _ _ (by omega) hW (by omega) hB;rw[WaL];exact⟨a,m,by omega,b⟩
def WgI(x:Rt):Bool:=decide (x.phase≠8)
def WiY(l:List Rt):Int:=(l.countP WgI:Nat)
theorem WsK:∀(l l':List Rt),l'.length=l.length->(∀(j:Nat) (h:j<l.length) (h':j<l'.length),WgI l'[j]=true->WgI l[j]=true)->l'.countP WgI<=l.countP WgI
 | [],[],_,_=>Xn _
 | [],_::_,h,_=>by simp at h
 |_::_,[],h,_=>by simp at h
 |x::l,y::l',h,hp=>by
  have ih:=WsK l l' (by simpa using h) λj h1 h2 hu=>hp (j+1) (by simpa using h1) (by simpa using h2) hu;have h0:WgI y=true->WgI x=true:=hp 0 (by simp) (by simp);rw[Xeb,Xeb];by_cases hy:WgI y=true
  .rw[if_pos hy,if_pos (h0 hy)];omega
  .rw[if_neg hy];omega
theorem Wrp:∀(l l':List Rt),l'.length=l.length->(∀(j:Nat) (h:j<l.length) (h':j<l'.length),WgI l'[j]=true->WgI l[j]=true)->∀(k:Nat) (h:k<l.length) (h':k<l'.length),WgI l[k]=true->WgI l'[k]=false->l'.countP WgI+1<=l.countP WgI
 | [],_,_,_,k,h,_,_,_=>by simp at h
 |_::_,[],h,_,_,_,_,_,_=>by simp at h
 |x::l,y::l',h,hp,k,hk,ct,h1,h2=>by
  have h0:WgI y=true->WgI x=true:=hp 0 (by simp) (by simp);have hq:∀(j:Nat) (h:j<l.length) (h':j<l'.length),WgI l'[j]=true->WgI l[j]=true:=λj h1 h2 hu=>hp (j+1) (by simpa using h1) (by simpa using h2) hu;rw[Xeb,Xeb];cases k with
  |zero=>
   have hx:WgI x=true:=h1;have hy:WgI y=false:=h2;have:=WsK l l' (by simpa using h) hq;rw[if_pos hx,hy];simp;omega
  |succ k=>
   have ih:=Wrp l l' (by simpa using h) hq k (by simpa using hk) (by simpa using ct) h1 h2;by_cases hy:WgI y=true
   .rw[if_pos hy,if_pos (h0 hy)];omega
   .rw[if_neg hy];omega
theorem Wla{l:List Rt}{k:Nat}(h:k<l.length)(hu:l[k].phase≠8):WiY (l.set k {phase:=8})+1<=WiY l:=by
 have:=Wrp l (l.set k {phase:=8}) (by simp) (λj h1 h2 hu=>by
  rw[Xam]at hu;split at hu
  .cases hu
  .exact hu) k h (by simpa using h) (by unfold WgI;simpa using hu) (by rw[Xdf];rfl)
 unfold WiY;omega
theorem WqU(l:List Rt):0<=WiY l:=Int.natCast_nonneg _
theorem Wvk{l:List Rt}{k:Nat}(h:k<l.length)(hu:l[k].phase≠8):1<=WiY l:=by
 have:=Wla h hu;have:=WqU (l.set k {phase:=8});omega
theorem WuS{l:List Rt}{k j:Nat}(h:k<l.length)(hj:j<l.length)(hne:k≠j)(hu:l[k].phase≠8)(hv:l[j].phase≠8):2<=WiY l:=by
 have:=Wla h hu;have:=Wvk (l:=l.set k {phase:=8}) (k:=j) (by simpa using hj) (by rw[Xfa hne];exact hv);omega
theorem Ww4{l:List Rt}{k j i:Nat}(h:k<l.length)(hj:j<l.length)(hi:i<l.length)(h1:k≠j)(h2:k≠i)(h3:j≠i)(hu:l[k].phase≠8)(hv:l[j].phase≠8)(hw:l[i].phase≠8):3<=WiY l:=by
 have:=Wla h hu;have:=WuS (l:=l.set k {phase:=8}) (k:=j) (j:=i) (by simpa using hj) (by simpa using hi) h3 (by rw[Xfa h1];exact hv) (by rw[Xfa h2];exact hw);omega
theorem Wwx(l:List Rt)(h:l.length<=4):WiY l<=4:=by
 have:l.countP WgI<=l.length:=List.countP_le_length;unfold WiY;omega
def tr2(x:Rt):Int:=if x.tries<=2 then 786*(2-x.tries)else 0
def tr3(x:Rt):Int:=if x.tries<=3 then 786*(3-x.tries)else 0
def Bpt(p:Pg)(x:Rt):Int:=if x.phase=0 then tr3 x else if x.phase=8 then 0 else Wi p x+tr2 x
def KP(m:Mm)(p:Pg)(x:Rt)(K:Int):Prop:=(x.phase=0->494<=K)/\(x.phase≠0->Wi p x+494<=K\/(RGd m x/\WcR p x<=K))
def ex3(u:Int):Int:=if u>=3 then 808*(u-2)else 0
def ex4(u:Int):Int:=if u>=4 then 808*(u-3)else 0
def exD(u D:Int):Int:=if u>=3 then D else 0
structure Bd(s:Sc)(N:Int)(w:Wo):Prop where
 free:w.token=0->∀(r:Nat) (h:r<w.roots.length),w.roots[r].phase≠8->Bpt (WhN s r) w.roots[r]+495*WiY w.roots+ex3 (WiY w.roots)<=N
 held:∀(k:Nat) (h:k<w.roots.length),w.token=(k:Int)+1->∃K D:Int,KP w.mem (WhN s k) w.roots[k] K/\0<=D/\K<=N/\
  (∀(j:Nat) (h:j<w.roots.length),j≠k->1<=w.roots[j].phase->w.roots[j].phase<=7->Wi (WhN s j) w.roots[j]<=D)/\
  ∀(r:Nat) (h:r<w.roots.length),r≠k->w.roots[r].phase≠8->Bpt (WhN s r) w.roots[r]+K+exD (WiY w.roots) D+495*(WiY w.roots-1)+ex4 (WiY w.roots)<=N
theorem Wpd(hp:POk p)(hx:ROk p n x)(ht:RT x):0<=Bpt p x/\Bpt p x<=2380/\(x.phase=0->Bpt p x<=2358)/\(1<=x.phase->x.phase<=7->1<=Bpt p x):=by
 have h8:=WbO hp hx ht;have nf:=hx.tries;have aV:=hx.phase;unfold Bpt tr2 tr3;by_cases h0:x.phase=0
 .rw[if_pos h0];split<;>omega
 .rw[if_neg h0];by_cases mx:x.phase=8
  .rw[if_pos mx];omega
  .rw[if_neg mx];have:=h8.2.2 (by omega);split<;>omega
theorem RJ.b{j:Nat}(h:RJ w p j x y)(hp:POk p)(hx:ROk p n x)(ht:RT x)(hw:w.token≠(j:Int)+1):Bpt p y<=Bpt p x/\(1<=x.phase->x.phase<=7->Bpt p y<Bpt p x)/\(y.phase=1->x.phase=0->Bpt p y<Bpt p x):=by
 have h8:=WbO hp hx ht;have nf:=hx.tries;have aV:=hx.phase;have e0:∀z:Rt,z.phase=0->Bpt p z=tr3 z:=λz h=>by unfold Bpt;rw[if_pos h]
 have e8:∀z:Rt,z.phase=8->Bpt p z=0:=λz h=>by unfold Bpt;rw[if_neg (by omega),if_pos h]
 have el:∀z:Rt,1<=z.phase->z.phase<=7->Bpt p z=Wi p z+tr2 z:=λz h h'=>by unfold Bpt;rw[if_neg (by omega),if_neg (by omega)]
 have wi:=(Wpd hp hx ht).1;by_cases h0:x.phase=0
 .rcases h.idle h0 with e|⟨e1,e2,e3,e4⟩
  .subst e;exact⟨Xv _,λh=>by omega,λh=>by omega⟩
  .rw[e0 x h0,el y (by omega) (by omega)];have:x.tries<3:=by omega
   unfold tr2 tr3;rw[e3];split<;>split<;>omega
 by_cases mx:x.phase=8
 .have e:=h.done mx;subst e;exact⟨Xv _,λ_ h=>by omega,λh=>by omega⟩
 .have hl:=h.live (by omega);have:=h8.2.2 (by omega);rw[el x (by omega) (by omega)];have tN:0<=tr2 x:=by unfold tr2;split<;>omega
  rcases hl with e|⟨e1,e2⟩|⟨e1,e2,e3⟩
  .rw[e8 y e];omega
  .rw[e0 y e1];have:tr3 y=tr2 x:=by unfold tr2 tr3;rw[e2];split<;>split<;>omega
   omega
  .rw[el y e1.1 e1.2];have:tr2 y=tr2 x:=by unfold tr2;rw[e2]
   omega
end
section
variable{s:Sc}{w v:Wo}{n m N:Int}{x y:Rt}{k i:Nat}{p:Pg}
theorem wpg(h:WI s n w){j:Nat}(hj:j<w.roots.length):POk (WhN s j)/\ROk (WhN s j) n w.roots[j]/\RT w.roots[j]:=
 ⟨WgA h.ok.progs (by rw[←h.ok.len];exact hj),h.ok.root j hj,h.wt.root j hj⟩
theorem Bd.round(h0:WI s n w)(hv:WI s m v)(hR:Rd s w v s.2.1.length)(hb:Bd s N w):Bd s (N-1) v:=by
 have z7:=h0.ok.len;have aw:=hv.ok.len;have dH:∀{j:Nat},j<v.roots.length->j<w.roots.length:=λh=>by omega
 have z8:∀{j:Nat},j<w.roots.length->j<v.roots.length:=λh=>by omega
 have hJ:∀(j:Nat) (h:j<v.roots.length),RJ w (WhN s j) j (w.roots[j]'(dH h)) v.roots[j]:=λj h=>hR.did j (dH h) h (by omega);have eP:∀(j:Nat) (h:j<v.roots.length),v.roots[j].phase≠8->(w.roots[j]'(dH h)).phase≠8:=λj h hu hd=>hu (by rw[(hJ j h).done hd];exact hd);have nk:∀(j:Nat) (h:j<w.roots.length) (h':j<v.roots.length),WgI v.roots[j]=true->WgI w.roots[j]=true:=λj h h' hu=>by
  unfold WgI at hu⊢;simp only[decide_eq_true_eq]at hu⊢;exact eP j h' hu
 have Aa:WiY v.roots<=WiY w.roots:=by have:=WsK w.roots v.roots (by omega) nk;unfold WiY;omega
 have wm:∀(k:Nat) (h:k<v.roots.length),(w.roots[k]'(dH h)).phase≠8->v.roots[k].phase=8->WiY v.roots+1<=WiY w.roots:=λk h a b=>by
  have:=Wrp w.roots v.roots (by omega) nk k (dH h) h (by unfold WgI;simpa using a) (by unfold WgI;simpa using b);unfold WiY;omega
 have qM:=Wwx w.roots (by have:=h0.ok.l4;omega);have hcv0:=WqU v.roots;have hB:∀(j:Nat) (h:j<v.roots.length),w.token≠(j:Int)+1->Bpt (WhN s j) v.roots[j]<=Bpt (WhN s j) (w.roots[j]'(dH h))/\(1<=(w.roots[j]'(dH h)).phase->(w.roots[j]'(dH h)).phase<=7->Bpt (WhN s j) v.roots[j]<Bpt (WhN s j) (w.roots[j]'(dH h)))/\(v.roots[j].phase=1->(w.roots[j]'(dH h)).phase=0->Bpt (WhN s j) v.roots[j]<Bpt (WhN s j) (w.roots[j]'(dH h))):=λj h ht=>by
  obtain⟨a,b,c⟩:=wpg h0 (dH h);exact(hJ j h).b a b c ht
 have hB0:∀(j:Nat) (h:j<w.roots.length),0<=Bpt (WhN s j) w.roots[j]/\(1<=w.roots[j].phase->w.roots[j].phase<=7->1<=Bpt (WhN s j) w.roots[j]):=λj h=>by
  obtain⟨a,b,c⟩:=wpg h0 h;have:=Wpd a b c;exact⟨this.1,this.2.2.2⟩
 have iD:∀(j:Nat) (h:j<v.roots.length),Wi (WhN s j) v.roots[j]<=808:=λj h=>by
  obtain⟨a,b,c⟩:=wpg hv h;exact(WbO a b c).2.1
 have tn:∀(k:Nat) (h:k<v.roots.length),v.roots[k].phase=0->KP v.mem (WhN s k) v.roots[k] 494:=λk h hz=>⟨λ_=>Xv _,λh=>absurd hz h⟩;have aV:∀(j:Nat) (h:j<w.roots.length),0<=w.roots[j].phase/\w.roots[j].phase<=8:=λj h=>(h0.ok.root j h).phase;by_cases kQ:w.token=0
 .have hF:=hb.free kQ;rcases hR.tk0 kQ with⟨a,b⟩|⟨k,hk,ct,_,a,b,c⟩
  .refine⟨λ_ r hr hu=>?_,λk hk nl=>by omega⟩;have h1:=hF r (dH hr) (eP r hr hu);obtain⟨g1,g2,g3⟩:=hB r hr (by omega);have hlt:Bpt (WhN s r) v.roots[r]<Bpt (WhN s r) (w.roots[r]'(dH hr)):=by
    by_cases hz:(w.roots[r]'(dH hr)).phase=0
    .exact g3 (b r (dH hr) hr (by omega) hz) hz
    .have:=aV r (dH hr);exact g2 (by omega) (by have:=eP r hr hu;omega)
   unfold ex3 at h1⊢;split at h1<;>split<;>omega
  .have tP:=hF k hk (by omega);have xP:=(hB0 k hk).1;have qp:=Wvk hk (show w.roots[k].phase≠8 by omega);refine⟨λhz=>by omega,λk' mr nl=>?_⟩;have:k'=k:=by omega
   subst this;refine⟨494,808,tn k' mr c,by omega,?_,λj hj _ _ _=>iD j hj,λr hr hne hu=>?_⟩
   .unfold ex3 at tP;split at tP<;>omega
   .have h1:=hF r (dH hr) (eP r hr hu);have g1:=(hB r hr (by omega)).1;unfold ex3 at h1;unfold exD ex4;split at h1<;>split<;>split<;>omega
 .obtain⟨k,hk,nj⟩:=h0.lx.tk.resolve_left kQ;have kR:k<v.roots.length:=z8 hk;obtain⟨K,D,hK,hD0,hKN,hD,hS⟩:=hb.held k hk nj;have mp:w.roots[k].phase≠8:=((h0.lx.root k hk).tk nj).2;have hKP:=hJ k kR;rcases hR.tk1 k hk kR nj with⟨a,b,_,c⟩|⟨_,a1,a2,a3⟩
  .have tp:w.roots[k].phase≠0->1<=w.roots[k].phase/\w.roots[k].phase<=7:=λh=>by have:=aV k hk;omega
   obtain⟨c1,c2⟩:=c (by omega);have Ab:v.roots[k].phase≠8:=((hv.lx.root k kR).tk a).2;refine⟨λhz=>by omega,λk' mr nl=>?_⟩;have:k'=k:=by omega
   subst this;have hBr:∀(r:Nat) (h:r<v.roots.length),r≠k'->_:=λr h hne=>hB r h (by omega);by_cases cA:∃(j:Nat) (h:j<w.roots.length),j≠k'/\1<=w.roots[j].phase/\w.roots[j].phase<=7
   .obtain⟨j,hj,dp,j1,j7⟩:=cA;have hD1:1<=D:=by
     have h1:=hD j hj dp j1 j7;obtain⟨e1,e2,e3⟩:=wpg h0 hj;have:=(WbO e1 e2 e3).2.2 ⟨j1,j7⟩;omega
    have hz:w.roots[k'].phase=0:=by
     apply Classical.byContradiction;intro kb;rcases h0.tx.t2 k' hk nj kb j hj dp with e|e<;>omega
    have tJ:2<=WiY w.roots:=WuS hk hj (λe=>dp e.symm) (by omega) (by omega);have hSj:=hS j hj dp (by omega);have hBj:=(hB0 j hj).2 j1 j7;refine⟨K,D-1,?_,by omega,?_,λi hi kP i1 i7=>?_,λr hr hne hu=>?_⟩
    .have hK0:=hK.1 hz;rcases c1 hz with⟨e,_⟩|⟨e1,e2,e3⟩
     .rw[e];exact⟨λ_=>hK0,λh=>absurd hz h⟩
     .exact⟨λh=>by omega,λ_=>.inr ⟨e2,by omega⟩⟩
    .unfold exD ex4 at hSj;split at hSj<;>split at hSj<;>omega
    .have qS:i<w.roots.length:=dH hi;have hzi:w.roots[i].phase≠0:=λh=>by
      have:=b i qS hi kP h;rw[this]at i1;omega
     have h8i:w.roots[i].phase≠8:=eP i hi (by omega);have hp:=aV i qS;have hd:=hD i qS kP (by omega) (by omega);rcases(hJ i hi).live (by omega)with e|⟨e,_⟩|⟨_,_,e⟩
     .omega
     .omega
     .omega
    .have h1:=hS r (dH hr) hne (eP r hr hu);obtain⟨g1,g2,g3⟩:=hBr r hr hne;by_cases hrj:r=j
     .subst hrj;have:=g2 j1 j7;unfold exD ex4 at h1⊢;split at h1<;>split at h1<;>split<;>split<;>omega
     .have wR:=Ww4 hk hj (dH hr) (λe=>dp e.symm) (λe=>hne e.symm) (λe=>hrj e.symm) mp (by omega) (eP r hr hu);unfold exD ex4 at h1⊢;split at h1<;>split at h1<;>split<;>split<;>omega
   .have dQ:∀(j:Nat) (h:j<w.roots.length),j≠k'->w.roots[j].phase=0\/w.roots[j].phase=8:=λj h hne=>by
     have hp:=aV j h;by_cases h1:w.roots[j].phase=0\/w.roots[j].phase=8
     .exact h1
     .exact absurd ⟨j,h,hne,by omega,by omega⟩ cA
    refine⟨K-1,D,?_,hD0,by omega,λi hi kP i1 i7=>?_,λr hr hne hu=>?_⟩
    .by_cases hz:w.roots[k'].phase=0
     .have hK0:=hK.1 hz;rcases c1 hz with⟨_,e⟩|⟨e1,e2,e3⟩
      .exact absurd e cA
      .exact⟨λh=>by omega,λ_=>.inr ⟨e2,by omega⟩⟩
     .have gt:=hKP.live (tp hz);obtain⟨e1,e2,e3⟩:=wpg h0 hk;have h1:=(WbO e1 e2 e3).2.2 (tp hz);by_cases hg:RGd w.mem w.roots[k']
      .obtain⟨d1,d2⟩:=c2 hz hg;have hdp:=d1.ph;refine⟨λh=>by omega,λ_=>?_⟩;rcases hK.2 hz with kW|⟨_,kW⟩
       .rcases gt with e|⟨e,_⟩|⟨_,_,e⟩
        .omega
        .omega
        .exact .inl (by omega)
       .exact .inr ⟨d1,by omega⟩
      .have kW:=(hK.2 hz).resolve_right (λh=>hg h.1);rcases gt with e|⟨e,_⟩|⟨e0,_,e⟩
       .exact absurd e Ab
       .exact⟨λ_=>by omega,λh=>absurd e h⟩
       .exact⟨λh=>by omega,λ_=>.inl (by omega)⟩
    .exfalso;have qS:i<w.roots.length:=dH hi;rcases dQ i qS kP with e|e
     .have:=b i qS hi kP e;rw[this]at i1;omega
     .have:=(hJ i hi).done e;rw[this]at i7;omega
    .have h1:=hS r (dH hr) hne (eP r hr hu);have g1:=(hBr r hr hne).1;unfold exD ex4 at h1⊢;split at h1<;>split at h1<;>split<;>split<;>omega
  .have hK1:1<=K:=by
    obtain⟨e1,e2,e3⟩:=wpg h0 hk;have h1:=(WbO e1 e2 e3).1;rcases hK.2 a1 with h|⟨h,h'⟩
    .omega
    .have:=WqK e1 e2 e3 h;omega
   have hcl:=wm k kR mp a2;rcases a3 with a3|⟨j,hj,hj',_,dp,a4,a5,a6⟩
   .refine⟨λ_ r hr hu=>?_,λk' ct nl=>by omega⟩;have nd:r≠k:=λe=>by subst e;exact hu a2
    have h1:=hS r (dH hr) nd (eP r hr hu);have g1:=(hB r hr (by omega)).1;unfold exD ex4 at h1;unfold ex3;split at h1<;>split at h1<;>split<;>omega
   .refine⟨λhz=>by omega,λk' mr nl=>?_⟩;have:k'=j:=by omega
    subst this;have hSj:=hS k' hj dp a6;have hBj:=(hB0 k' hj).1;have tJ:2<=WiY w.roots:=WuS hk hj (λe=>dp e.symm) mp a6;refine⟨494,808,tn k' mr a5,by omega,?_,λi hi _ _ _=>iD i hi,λr hr hne hu=>?_⟩
    .unfold exD ex4 at hSj;split at hSj<;>split at hSj<;>omega
    .have nd:r≠k:=λe=>by subst e;exact hu a2
     have h1:=hS r (dH hr) nd (eP r hr hu);have g1:=(hB r hr (by omega)).1;unfold exD ex4 at h1⊢;split at h1<;>split at h1<;>split<;>split<;>omega
theorem Bd.start(h0:WI s n w):Bd s 5976 w:=by
 have qM:=Wwx w.roots (by have:=h0.ok.l4;have:=h0.ok.len;omega);have nC:=WqU w.roots;have hBd:∀(j:Nat) (h:j<w.roots.length),_:=λj h=>Wpd (wpg h0 h).1 (wpg h0 h).2.1 (wpg h0 h).2.2;have iD:∀(j:Nat) (h:j<w.roots.length),Wi (WhN s j) w.roots[j]<=808:=λj h=>(WbO (wpg h0 h).1 (wpg h0 h).2.1 (wpg h0 h).2.2).2.1;refine⟨λ_ r hr hu=>?_,λk hk nl=>?_⟩
 .have:=(hBd r hr).2.1;unfold ex3;split<;>omega
 .by_cases hz:w.roots[k].phase=0
  .refine⟨494,808,⟨λ_=>Xv _,λh=>absurd hz h⟩,by omega,by omega,λj hj _ _ _=>iD j hj,λr hr hne hu=>?_⟩;have:=(hBd r hr).2.1;unfold exD ex4;split<;>split<;>omega
  .have tV:=h0.tx.t2 k hk nl hz;refine⟨1302,0,⟨λh=>absurd h hz,λ_=>.inl (by have:=iD k hk;omega)⟩,by omega,by omega,λj hj hne j1 j7=>?_,λr hr hne hu=>?_⟩
   .rcases tV j hj hne with e|e<;>omega
   .have uS:w.roots[r].phase=0:=(tV r hr hne).resolve_right hu;have:=(hBd r hr).2.2.1 uS;unfold exD ex4;split<;>split<;>omega
theorem Bd.pos(h0:WI s n w)(hb:Bd s N w)(ho:WfA w≠true):1<=N:=by
 have jj:∃(r:Nat) (h:r<w.roots.length),w.roots[r].phase≠8:=by
  apply Classical.byContradiction;intro dQ;apply ho;unfold WfA;rw[Xae];intro z hz;obtain⟨j,hj,he⟩:=Xaq hz;by_cases h8:z.phase=8
  .simpa using h8
  .exact absurd ⟨j,hj,by rw[he];exact h8⟩ dQ
 obtain⟨r,hr,hu⟩:=jj;have hBd:∀(j:Nat) (h:j<w.roots.length),_:=λj h=>Wpd (wpg h0 h).1 (wpg h0 h).2.1 (wpg h0 h).2.2;have qp:=Wvk hr hu;by_cases kQ:w.token=0
 .have:=hb.free kQ r hr hu;have h1:=(hBd r hr).1;unfold ex3 at this;split at this<;>omega
 .obtain⟨k,hk,nj⟩:=h0.lx.tk.resolve_left kQ;obtain⟨K,D,hK,hD0,hKN,hD,hS⟩:=hb.held k hk nj;have:1<=K:=by
   by_cases hz:w.roots[k].phase=0
   .have:=hK.1 hz;omega
   .obtain⟨e1,e2,e3⟩:=wpg h0 hk;have h1:=(WbO e1 e2 e3).1;rcases hK.2 hz with h|⟨h,h'⟩
    .omega
    .have:=WqK e1 e2 e3 h;omega
  omega
theorem WjD:∀(d:Nat) (n:Int) (w:Wo),WI s n w->n+16*d<=99999->Bd s d w->WfA (WaI s d w).1=true/\(WaI s d w).2<=d/\∃m,WI s m (WaI s d w).1
 |0,n,w,h,hn,hb=>by
  have ho:WfA w=true:=by
   apply Classical.byContradiction;intro ho;have:=hb.pos h ho;omega
  rw[WaI];exact⟨ho,Xn _,n,h⟩
 |d+1,n,w,h,hn,hb=>by
  rw[WaI];by_cases ho:WfA w=true
  .rw[if_pos ho];exact⟨ho,Xbk _,n,h⟩
  .rw[if_neg ho];have iY:=h.ok.l4;obtain⟨hR,m,hm,hW⟩:=Woy h s.2.1.length 0 n w (by omega) h (by omega) Rd.refl;have hb':=hb.round h hW hR;obtain⟨a,b,c⟩:=WjD d m _ hW (by omega) (by rw[show(d:Int)=((d+1:Nat):Int) -1 by omega];exact hb');exact⟨a,by show _+1<=d+1;omega,c⟩
theorem Bd.mono(h:Bd s n w)(hN:n<=N):Bd s N w:=⟨λh0 r hr hu=>by have:=h.free h0 r hr hu;omega,λk hk nl=>by
 obtain⟨K,D,a,b,c,d,e⟩:=h.held k hk nl;exact⟨K,D,a,b,by omega,d,λr hr hne hu=>by have:=e r hr hne hu;omega⟩⟩
theorem Wti(aH:WjB s=true):WI s s.2.2.length (Web s):=by
 have hN:=WiG aH;have hX:WX (WfH s):=WuF;have hL:=Wrc aH;have hT:WT (WfH s):=WsB;have h:=WqY s.2.2 _ _ hN hX hL;exact⟨WkA aH,(Wm2 s.2.2 _ _ hN hX).1,h,WqQ s.2.2 _ _ hN hT,WrB s.2.2 _ _ hN hX hL Wss⟩
theorem Wqm(aH:WjB s=true):WfA (WaI s 6000 (Web s)).1=true/\(WaI s 6000 (Web s)).2<=6000/\∃m,WI s m (WaI s 6000 (Web s)).1:=by
 obtain⟨h1,h2,h3,h4⟩:=WeG aH;have h:=Wti aH;exact WjD 6000 _ _ h (by have:=h4;omega) ((Bd.start h).mono (by omega))
end
section
variable{s:Sc}{w v:Wo}{n m:Int}{x y:Rt}{k i:Nat}{p:Pg}{a:Ac}{N:Nat}{o:Opn}
theorem Wj4:∀(d j:Nat) (w:Wo),∃l:List Ac,l.length=d/\Wcm s k d j w=l.foldl (Wc6 s) w
 |0,_,w=>⟨[],rfl,rfl⟩
 |d+1,j,w=>by
  obtain⟨l,h,e⟩:=Wj4 d (j+1) (Wc6 s w (2,(k:Int),(j:Int)));exact⟨(2,(k:Int),(j:Int))::l,by simp[h],by rw[Wcm,e];rfl⟩
theorem Wif:∀(d i:Nat) (w:Wo),(∀j:Nat,j<i+d->(s.2.1.getD j pg0).2.length<=3)->∃l:List Ac,l.length<=4*d/\WaL s d i w=l.foldl (Wc6 s) w
 |0,_,w,_=>⟨[],Xn _,rfl⟩
 |d+1,i,w,h=>by
  obtain⟨l1,h1,e1⟩:=Wj4 (s:=s) (k:=i) (s.2.1.getD i pg0).2.length 0 (Wc6 s w (1,(i:Int),0));obtain⟨l2,h2,e2⟩:=Wif d (i+1) (Wcm s i (s.2.1.getD i pg0).2.length 0 (Wc6 s w (1,(i:Int),0))) (λj hj=>h j (by omega));have h3:=h i (by omega);refine⟨(1,(i:Int),0)::l1++l2,by simp;omega,?_⟩;rw[WaL,e2,e1,List.cons_append,List.foldl_cons,Xfk]
theorem WiT(hl:s.2.1.length<=4)(h3:∀j:Nat,j<s.2.1.length->(s.2.1.getD j pg0).2.length<=3):∀(d:Nat) (w:Wo),∃l:List Ac,l.length<=16*d/\(WaI s d w).1=l.foldl (Wc6 s) w
 |0,w=>⟨[],Xbk _,rfl⟩
 |d+1,w=>by
  rw[WaI];split
  .exact⟨[],Xbk _,rfl⟩
  .obtain⟨l1,a1,e1⟩:=Wif s.2.1.length 0 w (λj hj=>h3 j (by omega));obtain⟨l2,a2,e2⟩:=WiT hl h3 d (WaL s s.2.1.length 0 w);refine⟨l1++l2,by simp;omega,?_⟩;show(WaI s d (WaL s s.2.1.length 0 w)).1=_;rw[e2,e1,Xfk]
theorem Wjq(aH:WjB s=true):∃l:List Ac,(s.2.2++l).length<=99999/\(WaI s 6000 (Web s)).1=(s.2.2++l).foldl (Wc6 s) (WfH s):=by
 obtain⟨h1,h2,h3,h4⟩:=WeG aH;have hW:=WkA aH;obtain⟨l,a,e⟩:=WiT (s:=s) (by omega) (λj hj=>(WgA hW.progs hj).k3) 6000 (Web s);refine⟨l,by simp;omega,?_⟩;rw[e,Xfk];rfl
theorem WuU(h8:x.phase≠8)(hz:(W2 w x k p).2.phase=8):(W2 w x k p).2.undos= []:=by
 unfold W2 at hz⊢;by_cases hd:x.doomed=true/\1<=x.phase/\x.phase<=4
 .rw[if_pos hd]at hz;exact absurd (show(6:Int)=8 from hz) (by omega)
 rw[if_neg hd]at hz⊢;have cf:∀z:Rt,(WA z).phase≠8:=λz=>WdP.2.2;by_cases h0:x.phase=0
 .rw[if_pos h0]at hz;have:(Wdk w x k).2.phase≠8:=by
   unfold Wdk;split
   .exact h8
   .split
    .exact h8
    .split
     .exact h8
     .show(1:Int)≠8;omega
  exact absurd hz this
 rw[if_neg h0]at hz⊢;by_cases h1:x.phase=1
 .rw[if_pos h1]at hz⊢;have cl:∀out,(Wao w x k out).2.phase=8->(Wao w x k out).2.undos= []:=λout=>by
   unfold Wao;simp only;generalize (if out=2 then []else x.writes)=rows;split
   .exactλ_=>rfl
   .intro h;exact absurd (show(5:Int)=8 from h) (by omega)
  revert hz;unfold Wfi;split
  .exact cl _
  .simp only;generalize opN p.1 x.pc=o;split
   .intro h;exact absurd h (Wnj h1).2.2
   .split
    .unfold WbT;split
     .exact cl _
     .split
      .intro h;exact absurd h h8
      .intro h;exact absurd h h8
    .split
     .intro h;exact absurd (show(2:Int)=8 from h) (by omega)
     .split
      .unfold Wbr;cases Wak w.holds ((k:Int)+1) (Waz o).1 (Waz o).2 with
       |none=>intro h;exact absurd h (cf _)
       |some hs=>intro h;exact absurd h h8
      .repeat' split
       all_goals(intro h;exact absurd h h8)
 rw[if_neg h1]at hz⊢;by_cases h2:x.phase=2
 .rw[if_pos h2]at hz;have:(WbY x).phase≠8:=by
   unfold WbY;split
   .show(6:Int)≠8;omega
   .split
    .show(1:Int)≠8;omega
    .exact h8
  exact absurd hz this
 rw[if_neg h2]at hz⊢;by_cases h3:x.phase=3
 .rw[if_pos h3]at hz;have:(WaT w x).2.phase≠8:=by
   unfold WaT;split
   .exact h8
   .show(4:Int)≠8;omega
  exact absurd hz this
 rw[if_neg h3]at hz⊢;by_cases h4:x.phase=4
 .rw[if_pos h4]at hz;have:(WaG w x).phase≠8:=by
   unfold WaG;simp only;split
   .split
    .show(6:Int)≠8;omega
    .exact h8
   .show(1:Int)≠8;omega
  exact absurd hz this
 rw[if_neg h4]at hz⊢;by_cases h5:x.phase=5
 .rw[if_pos h5]at hz;have:(Wal w x k).2.phase≠8:=by
   unfold Wal;split
   .simp only;split
    .show(6:Int)≠8;omega
    .exact h8
   .show(Wbh {x with cm:=(WB w.mem x.cm).2}).phase≠8;unfold Wbh;split
    .show(6:Int)≠8;omega
    .split
     .show(if x.fate=2 then(6:Int)else 7)≠8;split<;>omega
     .exact h8
  exact absurd hz this
 rw[if_neg h5]at hz⊢;by_cases h6:x.phase=6
 .rw[if_pos h6]at hz;split at hz
  .exact absurd hz h8
  .exact absurd (show(7:Int)=8 from hz) (by omega)
 rw[if_neg h6]at hz⊢;by_cases h7:x.phase=7
 .rw[if_pos h7]at hz⊢;split at hz
  .exact absurd (show(0:Int)=8 from hz) (by omega)
  .rw[if_neg ‹_›];rfl
 .rw[if_neg h7]at hz;exact absurd hz h8
def DX(w:Wo):Prop:=∀(k:Nat) (h:k<w.roots.length),w.roots[k].phase=8->w.roots[k].undos= []
theorem WrF{q:Wo×Rt}{w0:Wo}(hx:DX w0)(hr:q.1.roots=w0.roots)(hq:q.2.phase=8->q.2.undos= []):DX (Wo.put q k):=λi hi=>by
 change i<(q.1.roots.set k q.2).length at hi;have gT:i<w0.roots.length:=by rw[Xaa,hr]at hi;exact hi
 show((q.1.roots.set k q.2)[i]'hi).phase=8->((q.1.roots.set k q.2)[i]'hi).undos= [];rw[Xam];split
 .exact hq
 .simp only[hr];exact hx i gT
theorem Wu0(h:WOk s.2.1 n w)(hx:DX w):DX (Wc6 s w a):=by
 have cC:DX {w with now:=w.now+1}:=hx;unfold Wc6;simp only;split
 .rename_i hb;have hk:a.2.1.toNat<w.roots.length:=by omega
  rw[Wf hk];split
  .unfold Wje;rw[Wf (show a.2.1.toNat<({w with now:=w.now+1}:Wo).roots.length from hk)];refine WrF (w0:={w with now:=w.now+1}) cC (Wh0 h hk) λhz=>?_;by_cases h8:w.roots[a.2.1.toNat].phase=8
   .have:=(Wky (w:={w with now:=w.now+1}) (x:=w.roots[a.2.1.toNat]) (k:=a.2.1.toNat) (p:=s.2.1.getD a.2.1.toNat pg0)).done h8;change (W2 {w with now:=w.now+1} w.roots[a.2.1.toNat] a.2.1.toNat (s.2.1.getD a.2.1.toNat pg0)).2.undos= [];rw[this];exact hx _ hk h8
   .exact WuU h8 hz
  .split
   .split
    .exact WrF (w0:={w with now:=w.now+1}) cC rfl (λhz=>hx _ hk hz)
    .exact cC
   .split
    .split
     .exact WrF (w0:={w with now:=w.now+1}) cC rfl (λhz=>hx _ hk hz)
     .exact cC
    .exact cC
 .exact cC
theorem Wr9:∀(l:List Ac) (n:Int) (w:Wo),WOk s.2.1 n w->DX w->DX (l.foldl (Wc6 s) w)
 | [],n,w,h,hx=>hx
 |a::l,n,w,h,hx=>Wr9 l (n+1) _ (Wcy (a:=a) h) (Wu0 (a:=a) h hx)
structure Rest(w:Wo):Prop where
 done:∀x∈w.roots,x.phase=8
 mem:WZ w.mem=true
 own:∀c∈w.mem.2,c.2.2=0
 holds:w.holds= []
 token:w.token=0
 undos:∀x∈w.roots,x.undos= []
theorem Wvs(h:WI s n w)(hd:DX w)(ho:WfA w=true):Rest w:=by
 have h8:∀(k:Nat) (h:k<w.roots.length),w.roots[k].phase=8:=λk hk=>by
  unfold WfA at ho;rw[Xae]at ho;simpa using ho _ (Xx hk)
 have mx:∀x∈w.roots,x.phase=8:=λx hx=>by
  obtain⟨j,hj,e⟩:=Xaq hx;rw[←e];exact h8 j hj
 obtain⟨m8,_,_,_⟩:=WD h.ok.mem;refine⟨mx,h.ok.mem,λc hc=>?_,?_,?_,λx hx=>?_⟩
 .obtain⟨j,hj,e⟩:=Xaq hc;have pZ:owner w.mem (j:Int)=w.mem.2[j].2.2:=by unfold owner WN WbL;rw[Xj,Wf hj]
  rw[←e,←pZ];rcases h.lx.ow (j:Int) (by omega) (by omega)with e|⟨k,hk,e⟩
  .exact e
  .exact absurd e ((h.lx.root k hk).no (by rw[h8 k hk];omega) (j:Int) (by omega) (by omega))
 .cases hh:w.holds with
  |nil=>rfl
  |cons e l=>
   obtain⟨k,hk,e1⟩:=h.lx.hd e (by rw[hh];exact Xi ..);exact absurd (h8 k hk) ((h.lx.root k hk).hd e (by rw[hh];exact Xi ..) e1).2
 .rcases h.lx.tk with e|⟨k,hk,e⟩
  .exact e
  .exact absurd (h8 k hk) ((h.lx.root k hk).tk e).2
 .obtain⟨j,hj,e⟩:=Xaq hx;rw[←e];exact hd j hj (h8 j hj)
theorem WqA(aH:WjB s=true):Rest (WaI s 6000 (Web s)).1/\WfA (WaI s 6000 (Web s)).1=true/\(WaI s 6000 (Web s)).2<=6000/\∃m,WI s m (WaI s 6000 (Web s)).1:=by
 obtain⟨a,b,m,c⟩:=Wqm aH;obtain⟨l,_,e⟩:=Wjq aH;have hd:DX (WaI s 6000 (Web s)).1:=by
  rw[e];exact Wr9 _ 0 _ (WiG aH) λk h h8=>by simp[WfH]
 exact⟨Wvs c hd a,a,b,m,c⟩
end
section
variable{l:List Int}{k i v:Int}
theorem Wk6(h:SlOk l){j:Nat}(hj:j<l.length)(hn:l[j]≠0)(hk:WbK l[j]=i):WP l i=(l[j] -1)%65536+1:=by
 unfold WP;cases hs:WlB l i with
 |none=>exact absurd hk (Wgc h hs j hj hn)
 |some r=>
  obtain⟨h1,h2,h3,h4,h5,_⟩:=WbM h hs;have:r.1=j:=by
   rcases Xda r.1 j with hl|hl|hl
   .exact absurd (by rw[h2,h5,hk]) (h.one r.1 j h1 hj hl (by omega) hn)
   .exact hl
   .exact absurd (by rw[h2,h5,hk]) (h.one j r.1 hj h1 hl hn (by omega))
  subst this;simp only;rw[h2]
theorem WhW(h:SlOk l)(dQ:∀(j:Nat) (hj:j<l.length),l[j]≠0->WbK l[j]≠i):WP l i=0:=by
 unfold WP;cases hs:WlB l i with
 |none=>rfl
 |some r=>
  obtain⟨h1,h2,h3,h4,h5,_⟩:=WbM h hs;exact absurd (by rw[h2,h5]) (dQ r.1 h1 (by omega))
theorem Wos(h:SlOk l){p:Nat}{s:Int}(h':SlOk (l.set p s))(hp:p<l.length)(ho:l[p]=0\/WbK l[p]≠i)(hs:s=0\/WbK s≠i):WP (l.set p s) i=WP l i:=by
 by_cases jj:∃(j:Nat) (hj:j<l.length),l[j]≠0/\WbK l[j]=i
 .obtain⟨j,hj,a,b⟩:=jj;have hne:p≠j:=λe=>by
   subst e;rcases ho with o|o
   .exact a o
   .exact o b
  have hj':j<(l.set p s).length:=by rw[Xaa];exact hj
  have e:(l.set p s)[j]=l[j]:=by rw[Xam,if_neg hne]
  rw[Wk6 h hj a b,Wk6 h' hj' (by rw[e];exact a) (by rw[e];exact b),e]
 .rw[WhW h (λj hj a b=>jj ⟨j,hj,a,b⟩)];refine WhW h' λj hj a b=>?_;have ga:j<l.length:=by rw[Xaa]at hj;exact hj
  rw[Xam]at a b;by_cases e:p=j
  .subst e;rw[if_pos rfl]at a b;rcases hs with z|z
   .exact a z
   .exact z b
  .rw[if_neg e]at a b;exact jj ⟨j,ga,a,b⟩
theorem Wiq(h:SlOk l)(hk:0<=k/\k<=7)(hv:0<=v/\v<=65535):WP (Wef l k v) i=if i=k then v+1 else WP l i:=by
 have aH:=Wfb h hk hv;obtain⟨k1,k2⟩:=Wo9 hk hv;have key:∀p:Nat,p<l.length->(l[p]?=some 0\/∃y,l[p]?=some y/\WbK y=k)->Wef l k v=l.set p (1+65536*k+v)->WP (Wef l k v) i=if i=k then v+1 else WP l i:=λp hp ho e=>by
  rw[e]at aH⊢;by_cases hi:i=k
  .rw[if_pos hi];have hj:p<(l.set p (1+65536*k+v)).length:=by rw[Xaa];exact hp
   have eg:(l.set p (1+65536*k+v))[p]=1+65536*k+v:=Xdf ..;rw[Wk6 aH hj (by rw[eg];omega) (by rw[eg,k2,hi]),eg];omega
  .rw[if_neg hi];refine Wos h aH hp ?_ (.inr (by rw[k2];exactλz=>hi z.symm));rw[Xq hp]at ho;rcases ho with o|⟨y,o,q⟩
   .left;injection o
   .right;injection o with o;rw[o,q];exactλz=>hi z.symm
 cases hs:WlB l k with
 |some r=>
  obtain⟨h1,h2,h3,h4,h5,_⟩:=WbM h hs;exact key r.1 h1 (.inr ⟨r.2,by rw[Xq h1,h2],h5⟩) (by unfold Wef;rw[hs])
 |none=>
  obtain⟨h1,h2,_⟩:=WiC h hk hs;exact key _ h1 (.inl (by rw[Xq h1,h2])) (by unfold Wef;rw[hs])
theorem Wqy(h:SlOk l):WP (Wf4 l k) i=if i=k then 0 else WP l i:=by
 have aH:=WhZ (k:=k) h;unfold Wf4 at aH⊢;cases hs:WlB l k with
 |none=>
  simp only;by_cases hi:i=k
  .rw[if_pos hi,hi];unfold WP;rw[hs]
  .rw[if_neg hi]
 |some r=>
  rw[hs]at aH;simp only at aH⊢;obtain⟨h1,h2,h3,h4,h5,_⟩:=WbM h hs;by_cases hi:i=k
  .rw[if_pos hi];refine WhW aH λj hj a b=>?_;have ga:j<l.length:=by rw[Xaa]at hj;exact hj
   rw[Xam]at a b;by_cases e:r.1=j
   .rw[if_pos e]at a;exact a rfl
   .rw[if_neg e]at a b;rcases Xda r.1 j with hl|hl|hl
    .exact absurd (by rw[h2,h5,b,hi]) (h.one r.1 j h1 ga hl (by omega) a)
    .exact e hl
    .exact absurd (by rw[h2,h5,b,hi]) (h.one j r.1 ga h1 hl a (by omega))
  .rw[if_neg hi];exact Wos h aH h1 (.inr (by rw[h2,h5];exactλz=>hi z.symm)) (.inl rfl)
theorem Wqc:WP (Xt 16 0) i=0:=WhW Wgx λj hj a=>absurd (Xbg ..) a
theorem Whn:∀(m:List Int) (j:Nat) (l:List Int),j+m.length<=8->(∀x∈m,0<=x/\x<=65536)->SlOk l->(∀i:Nat,j<=i->WP l (i:Int)=0)->∀i:Nat,i<j+m.length->WP (WcF m j l) (i:Int)=if i<j then WP l (i:Int)else m.getD (i-j) 0
 | [],j,l,_,_,_,_,i,hi=>by rw[WcF,if_pos (by simpa using hi)]
 |x::m,j,l,hl,hx,h,hz,i,hi=>by
  rw[Xr]at hl hi;have h0:=hx x (Xi ..);have hg:∀i':Nat,WP (if x>0 then Wef l (j:Int) (x-1)else l) (i':Int)=if i'=j then x else WP l (i':Int):=λi'=>by
   by_cases hp:x>0
   .rw[if_pos hp,Wiq h (by omega) (by omega)];by_cases e:i'=j
    .rw[if_pos (by omega),if_pos e];omega
    .rw[if_neg (by omega),if_neg e]
   .rw[if_neg hp];by_cases e:i'=j
    .rw[if_pos e,hz i' (by omega)];omega
    .rw[if_neg e]
  have aH:SlOk (if x>0 then Wef l (j:Int) (x-1)else l):=by
   split
   .exact Wfb h (by omega) (by omega)
   .exact h
  rw[WcF,Whn m (j+1) _ (by omega) (λy hy=>hx y (List.mem_cons_of_mem _ hy)) aH (λi' jk=>by rw[hg,if_neg (by omega)];exact hz i' (by omega)) i (by omega)];by_cases e:i<j
  .rw[if_pos (by omega),if_pos e,hg,if_neg (by omega)]
  .rw[if_neg e];by_cases e2:i=j
   .rw[if_pos (by omega),hg,if_pos e2,e2,Nat.sub_self];rfl
   .rw[if_neg (by omega),show i-j=(i-(j+1))+1 by omega];rfl
theorem Wqz{m:List Int}(hl:m.length=8)(hx:∀x∈m,0<=x/\x<=65536){i:Nat}(hi:i<8):WP (WjP m) (i:Int)=m.getD i 0:=by
 have:=Whn m 0 (Xt 16 0) (by omega) hx Wgx (λ_ _=>Wqc) i (by omega);rw[if_neg (by omega)]at this;exact this
theorem Wsq{N:Nat}(h:SlOk l)(hN:1048576<N):Zhi N l=ret ((Xbt 8).map λi:Nat=>WP l (i:Int)):=by
 unfold Zhi;rw[Wa7 h hN];simp only[ret,Xc,Xab,cond_false];have lp:∀(dd j n:Nat) (o:List Int),j+dd=8->dd<n->o=(Xbt j).map (λi:Nat=>WP l (i:Int))->
   Zcr N l (λaL aO aK=>(some ((),(aK,())))) n (j:Int) o=(some ((),((Xbt 8).map λi:Nat=>WP l (i:Int),())):Option (Unit×(List Int×Unit))):=by
  intro dd
  induction dd with
  |zero=>
   intro j n o hj hn ho;obtain⟨n,rfl⟩:∃n',n=n'+1:=⟨n-1,by omega⟩;have:j=8:=by omega
   subst this;rw[Zcr,show decide (((8:Nat):Int)<8)=false from rfl,cond_false,ho]
  |succ dd ih=>
   intro j n o hj hn ho;obtain⟨n,rfl⟩:∃n',n=n'+1:=⟨n-1,by omega⟩;have e1:decide ((j:Int)<8)=true:=decide_eq_true (by omega);have hg:=WbN (k:=(j:Int)) h (by omega) hN;have hb:=Wdc l (j:Int);have an:∀x:Int,Wy (o.length+ [x].length)=true:=λx=>Ws (by rw[ho];simp;omega);simp only[Zcr,e1,cond_true,hg,Xc,an,Wg (show j<4611686018427387904 by omega),Xaf];have bY:∀x:Int,x=WP l (j:Int)->o++ [x]=(Xbt (j+1)).map (λi:Nat=>WP l (i:Int)):=λx hx=>by
    rw[ho,hx,Xhd,Xp];rfl
   by_cases hz:WP l (j:Int)=0
   .rw[if_pos hz,decide_eq_false (show¬WP l (j:Int)≠0 fromλz=>z hz),cond_false];exact ih (j+1) n _ (by omega) (by omega) (bY 0 hz.symm)
   .rw[if_neg hz,decide_eq_true (show WP l (j:Int)≠0 from hz),cond_true];have ea:We .i64 (WP l (j:Int) -1) 1=WP l (j:Int):=by rw[Wp (by unfold I64;omega)];omega
    rw[ea];exact ih (j+1) n _ (by omega) (by omega) (bY _ rfl)
 exact lp 8 0 N [] (by omega) (by omega) rfl
end
section
def bpC(n key:Int)(ab:Bool):List Opn:=[(1,1,n,0),(15,1,0,0),(12,key,1,2)]++(if ab then [(10,0,0,0)]else [])
def WjC(ab:Bool):Int:=if ab then 2 else 1
structure VR(n key:Int)(ab:Bool)(k:Nat)(hs:List Hd)(x:Rt):Prop where
 wr:x.writes= []
 rd:x.reads= []
 mrk:x.marks= []
 un:x.undos= []\/x.undos= [(3,0,n)]\/∃e:Int,(0<=e/\e<=65536)/\x.undos= [(3,0,n),WaZ key e]
 ph:x.phase=0\/x.phase=1\/x.phase=5\/x.phase=6\/x.phase=7\/x.phase=8
 p0:x.phase=0->x.undos= []
 p1:x.phase=1->(x.pc=0/\x.undos= []/\x.regs.length=4)\/(x.pc=1/\x.undos= []/\WbL x.regs 1 0=n)\/(x.pc=2/\x.undos= [(3,0,n)]/\WbL x.regs 1 0=n)\/(x.pc=3/\x.undos.length=2)
 p5:x.phase=5->x.undos.length=2/\x.fate=WjC ab/\x.cm.puts= []/\x.cm.reads= []/\x.cm.phase=2
 p6:x.phase=6->x.fate=0\/(x.fate=2/\ab=true)
 p7:x.phase=7->(x.fate=0/\x.undos= [])\/(x.fate=2/\ab=true/\x.undos= [])\/(x.fate=1/\ab=false/\x.undos.length=2)
 p8:x.phase=8->x.undos= []/\x.fate=WjC ab
 h1:x.undos≠ []->∃md:Int,((k:Int)+1,8,md)∈hs
 h2:x.undos.length=2->((k:Int)+1,key,2)∈hs
def cm8(x:Rt):Prop:=x.phase=8/\x.fate=1
def BEf(n key:Int)(k:Nat)(hs:List Hd)(s s':Shf)(x y:Rt):Prop:=
 (s'=s/\y.undos=x.undos/\(cm8 y↔cm8 x))\/
 (¬cm8 x/\¬cm8 y/\x.undos= []/\y.undos= [(3,0,n)]/\s'=(s.1,(s.2+n)%65536))\/
 (¬cm8 x/\¬cm8 y/\x.undos= [(3,0,n)]/\y.undos= [(3,0,n),WaZ key (WP s.1 key)]/\s'=(Wef s.1 key n,s.2)/\∀e∈hs,e.2.1=key->e.1=(k:Int)+1)\/
 (¬cm8 x/\¬cm8 y/\∃e:Int,(0<=e/\e<=65536)/\x.undos= [(3,0,n),WaZ key e]/\y.undos= [(3,0,n)]/\s'=WbF s (WaZ key e))\/
 (¬cm8 x/\¬cm8 y/\x.undos= [(3,0,n)]/\y.undos= []/\s'=(s.1,(s.2-n+65536)%65536))\/
 (¬cm8 x/\cm8 y/\x.undos.length=2/\y.undos= []/\s'=s)
def HRl(k:Nat)(hs bH:List Hd):Prop:=∀e:Hd,e.1≠(k:Int)+1->(e∈bH↔e∈hs)
structure VS(n key:Int)(ab:Bool)(k:Nat)(w:Wo)(x:Rt)(q:Wo×Rt):Prop where
 vr:VR n key ab k q.1.holds q.2
 hr:HRl k w.holds q.1.holds
 mem:q.1.mem.2=w.mem.2
 eff:BEf n key k w.holds w.shelf q.1.shelf x q.2
variable{n key:Int}{ab:Bool}{w v:Wo}{x y:Rt}{k:Nat}{hs bH:List Hd}{q:Wo×Rt}{m:Int}
theorem no8(h:x.phase≠8):¬cm8 x:=λz=>h z.1
theorem WbV(h:VR n key ab k w.holds x)(hm:v.mem.2=w.mem.2)(hh:v.holds=w.holds)(hs:v.shelf=w.shelf)(hy:VR n key ab k w.holds y)(hu:y.undos=x.undos)(hc:cm8 y↔cm8 x):VS n key ab k w x (v,y):=
 ⟨by show VR n key ab k v.holds y;rw[hh];exact hy,λe _=>by show e∈v.holds↔_;rw[hh],hm,.inl ⟨hs,hu,hc⟩⟩
theorem Wvj(h:VR n key ab k hs x):VR n key ab k hs (WcI x):=
 ⟨rfl,rfl,rfl,h.un,.inr (.inr (.inr (.inl rfl))),λz=>by(change (6:Int)=0 at z;omega),λz=>by(change (6:Int)=1 at z;omega),λz=>by(change (6:Int)=5 at z;omega),λ_=>.inl rfl,λz=>by(change (6:Int)=7 at z;omega),λz=>by(change (6:Int)=8 at z;omega),h.h1,h.h2⟩
theorem WkN(h:VR n key ab k w.holds x)(h8:x.phase≠8)(hm:v.mem.2=w.mem.2)(hh:v.holds=w.holds)(hs:v.shelf=w.shelf):VS n key ab k w x (v,WcI x):=
 WbV h hm hh hs (Wvj h) rfl ⟨λz=>absurd z (no8 (by show(6:Int)≠8;omega)),λz=>absurd z (no8 h8)⟩
theorem Wj6(h:x.marks= []):WA x=WcI x:=by unfold WA;rw[if_pos (.inl (by rw[h];rfl))]
theorem WoR(h:VR n key ab k w.holds x)(h1:x.phase=1)(hu:x.undos.length=2){out:Int}(ho:out=WjC ab):VS n key ab k w x (Wao w x k out):=by
 obtain⟨md,qT⟩:=h.h1 (λz=>by rw[z]at hu;simp at hu);have lr:(WeO w.holds ((k:Int)+1)).length≠0:=λz=>WiS z _ qT rfl;have Ad:(if out=2 then []else x.writes)= []:=by rw[h.wr];split<;>rfl
 have e:Wao w x k out=(w,{x with fate:=out,cm:={who:=(k:Int)+1,rv:=x.rv,phase:=2,puts:=[],reads:=[]},phase:=5}):=by
  unfold Wao;simp only[Ad];rw[if_neg (λz=>lr z.2)];have:Wbc ((k:Int)+1) x.rv [] x.reads={who:=(k:Int)+1,rv:=x.rv,phase:=2,puts:=[],reads:=[]}:=by rw[h.rd];rfl
  rw[this]
 rw[e];refine WbV h rfl rfl rfl ⟨h.wr,h.rd,h.mrk,h.un,.inr (.inr (.inl rfl)),λz=>by(change (5:Int)=0 at z;omega),λz=>by(change (5:Int)=1 at z;omega),λ_=>⟨hu,ho,rfl,rfl,rfl⟩,λz=>by(change (5:Int)=6 at z;omega),λz=>by(change (5:Int)=7 at z;omega),λz=>by(change (5:Int)=8 at z;omega),h.h1,h.h2⟩ rfl ⟨λz=>absurd z (no8 (by show(5:Int)≠8;omega)),λz=>absurd z (no8 (by omega))⟩
theorem Wro(hH:HOk w.holds){what mode:Int}(ha:Wak w.holds ((k:Int)+1) what mode=some hs)(hm:1<=mode/\mode<=2):
  HRl k w.holds hs/\(∃md:Int,mode<=md/\((k:Int)+1,what,md)∈hs)/\(∀e∈w.holds,e.2.1≠what->e∈hs)/\(mode=2->∀e∈w.holds,e.2.1=what->e.1=(k:Int)+1):=by
 unfold Wak at ha;split at ha
 .rename_i hb;injection ha with ha;subst ha;have hmem:∀e:Hd,e∈WfL w.holds ((k:Int)+1) what mode↔e=((k:Int)+1,what,WlD (Woh w.holds ((k:Int)+1) what) mode)\/(e∈w.holds/\Ap cfH e ((k:Int)+1,what,WlD (Woh w.holds ((k:Int)+1) what) mode)):=λe=>Wbu Wni hH.ris;have lj:∀e:Hd,e.1≠(k:Int)+1\/e.2.1≠what->Ap cfH e ((k:Int)+1,what,WlD (Woh w.holds ((k:Int)+1) what) mode):=λe he=>by
   unfold Ap cfH;by_cases hw:e.2.1=what
   .have hne:=he.resolve_right (λz=>z hw);rw[show(e.2.1==what)=true by simpa using hw,show(what==e.2.1)=true by simpa using hw.symm];simp only[cond_true];omega
   .rw[show(e.2.1==what)=false by simpa using hw,show(what==e.2.1)=false by simpa usingλz=>hw z.symm];simp only[cond_false];omega
  refine⟨λe he=>?_,⟨_,?_,(hmem _).2 (.inl rfl)⟩,λe he hne=>(hmem e).2 (.inr ⟨he,lj e (.inr hne)⟩),λh2 e he hw=>?_⟩
  .rw[hmem];exact⟨λz=>by
    rcases z with z|z
    .rw[z]at he;exact absurd rfl he
    .exact z.1,λz=>.inr ⟨z,lj e (.inl he)⟩⟩
  .unfold WlD;split<;>omega
  .apply Classical.byContradiction;intro hne;have:e.1∈Wev w.holds ((k:Int)+1) what mode:=by
    unfold Wev;refine Xu.2 ⟨e,Xar.2 ⟨he,?_⟩,rfl⟩;unfold blk;simp only[Xh,decide_eq_true_eq,Xbs];exact⟨hw,hne,.inl h2⟩
   rw[hb]at this;cases this
 .cases ha
end
section
variable{n key:Int}{ab:Bool}{w v:Wo}{x y:Rt}{k:Nat}{hs bH:List Hd}{q:Wo×Rt}{m:Int}
theorem WoS(h:VR n key ab k hs x)(hy:y.phase=1)(hw:y.writes= [])(hr:y.reads= [])(hm:y.marks= [])(hu:y.undos= []\/y.undos= [(3,0,n)]\/∃e:Int,(0<=e/\e<=65536)/\y.undos= [(3,0,n),WaZ key e])
  (h1:(y.pc=0/\y.undos= []/\y.regs.length=4)\/(y.pc=1/\y.undos= []/\WbL y.regs 1 0=n)\/(y.pc=2/\y.undos= [(3,0,n)]/\WbL y.regs 1 0=n)\/(y.pc=3/\y.undos.length=2)) (a1:y.undos≠ []->∃md:Int,((k:Int)+1,8,md)∈bH) (a2:y.undos.length=2->((k:Int)+1,key,2)∈bH):VR n key ab k bH y:=
 ⟨hw,hr,hm,hu,.inr (.inl hy),λz=>by omega,λ_=>h1,λz=>by omega,λz=>by omega,λz=>by omega,λz=>by omega,a1,a2⟩
theorem Wv6(hn:0<n+1/\n<=65535)(tq:0<=key/\key<=7)(mp:k<=8)(hH:HOk w.holds)(hSh:ShOk w.shelf)(h:VR n key ab k w.holds x)(h1:x.phase=1):VS n key ab k w x (Wfi w x k (bpC n key ab,[])):=by
 have no:¬cm8 x:=no8 (by omega);have hlen:(bpC n key ab).length=if ab=true then 4 else 3:=by cases ab<;>rfl
 have one:∀y:Rt,y.phase=1->y.undos=x.undos->VR n key ab k w.holds y->VS n key ab k w x (w,y):=λy hy hu hv=>WbV h rfl rfl rfl hv hu ⟨λz=>absurd z (no8 (by omega)),λz=>absurd z no⟩;have gJ:∀(l:List Opn) (o:Opn),Wfi w x k (bpC n key ab,[])=Wfi w x k (bpC n key ab,[]):=λ_ _=>rfl;unfold Wfi;simp only;rcases h.p1 h1 with⟨e1,e2,e3⟩|⟨e1,e2,e3⟩|⟨e1,e2,e3⟩|⟨e1,e2⟩
 .have ho:opN (bpC n key ab) x.pc=(1,1,n,0):=by rw[e1];rfl
  rw[if_neg (by rw[hlen,e1];split<;>simp),ho];rw[if_neg (by simp),if_neg (by simp),if_neg (by simp),if_neg (by simp),if_neg (by simp),if_neg (by simp),if_neg (by simp),if_neg (by simp)];refine one _ h1 rfl (WoS h h1 h.wr h.rd h.mrk h.un (.inr (.inl ⟨by show x.pc+1=1;omega,e2,?_⟩)) h.h1 h.h2);show WbL (Wmx (1,1,n,0) x.regs) 1 0=n;have:Wmx (1,1,n,0) x.regs=x.regs.set 1 n:=rfl;rw[this];unfold WbL;rw[Wf (show(1:Int).toNat<(x.regs.set 1 n).length by rw[Xaa,e3];simp)];exact Xdf ..
 .have ho:opN (bpC n key ab) x.pc=(15,1,0,0):=by rw[e1];rfl
  rw[if_neg (by rw[hlen,e1];split<;>simp),ho];rw[if_neg (by simp),if_neg (by simp),if_neg (by simp),if_pos (by simp)];unfold Wbr;have eb:Waz (15,1,0,0)=(8,1):=rfl;rw[eb];cases ha:Wak w.holds ((k:Int)+1) 8 1 with
  |none=>rw[Wj6 h.mrk];exact WkN h (by omega) rfl rfl rfl
  |some hs=>
   obtain⟨b1,⟨md,_,b2⟩,b3,_⟩:=Wro hH ha (by omega);have ed:WaN w.shelf (15,1,0,0) x.regs=((w.shelf.1,(w.shelf.2+n)%65536),x.regs,(3,0,n)):=by
    unfold WaN;simp only;rw[if_neg (by omega),if_neg (by omega),if_neg (by omega),if_pos trivial,e3]
   simp only[ed];rw[if_neg (show¬(3:Int)=0 by omega),e2,List.nil_append];refine⟨WoS h h1 h.wr h.rd h.mrk (.inr (.inl rfl)) (.inr (.inr (.inl ⟨by show x.pc+1=2;omega,rfl,e3⟩))) (λ_=>⟨md,b2⟩) (λz=>by(change (1:Nat)=2 at z;omega)),b1,rfl,.inr (.inl ⟨no,no8 (by show x.phase≠8;omega),e2,rfl,rfl⟩)⟩
 .have ho:opN (bpC n key ab) x.pc=(12,key,1,2):=by rw[e1];rfl
  rw[if_neg (by rw[hlen,e1];split<;>simp),ho];rw[if_neg (by simp),if_neg (by simp),if_neg (by simp),if_pos (by simp)];unfold Wbr;have eb:Waz (12,key,1,2)=(key,2):=rfl;rw[eb];cases ha:Wak w.holds ((k:Int)+1) key 2 with
  |none=>rw[Wj6 h.mrk];exact WkN h (by omega) rfl rfl rfl
  |some hs=>
   obtain⟨b1,⟨md,qT,b2⟩,b3,b4⟩:=Wro hH ha (by omega);have Ae:md=2:=by
    have aH:=Wjv hH (who:=(k:Int)+1) (what:=key) (mode:=2) (by omega) (by omega) (by omega);unfold Wak at ha;split at ha
    .rename_i hb;injection ha with ha;rw[←ha]at b2;have:=((aH hb).val _ b2).2.2;simp only at this;omega
    .cases ha
   subst Ae;have gb:=Wdc w.shelf.1 key;have ed:WaN w.shelf (12,key,1,2) x.regs=((Wef w.shelf.1 key n,w.shelf.2),WlR x.regs 2 (WP w.shelf.1 key%65536),WaZ key (WP w.shelf.1 key)):=by
    unfold WaN;simp only;rw[if_pos trivial,e3]
   have nE:¬(WaZ key (WP w.shelf.1 key)).1=0:=by unfold WaZ;split<;>simp
   simp only[ed];rw[if_neg nE,e2];obtain⟨Af,iC⟩:=h.h1 (by rw[e2];simp);refine⟨WoS h h1 h.wr h.rd h.mrk (.inr (.inr ⟨_,gb,rfl⟩)) (.inr (.inr (.inr ⟨by show x.pc+1=3;omega,rfl⟩))) (λ_=>⟨Af,b3 _ iC (by show(8:Int)≠key;omega)⟩) (λ_=>b2),b1,rfl,.inr (.inr (.inl ⟨no,no8 (by show x.phase≠8;omega),e2,rfl,rfl,b4 rfl⟩))⟩
 .cases cu:ab with
  |false=>
   have hl:(bpC n key false).length=3:=rfl;rw[cu]at h;rw[if_pos (by rw[hl,e1];simp)];exact WoR h h1 e2 rfl
  |true=>
   have hl:(bpC n key true).length=4:=rfl;have ho:opN (bpC n key true) x.pc=(10,0,0,0):=by rw[e1];rfl
   rw[cu]at h;rw[if_neg (by rw[hl,e1];simp),ho,if_neg (by simp),if_pos (by simp)];unfold WbT;rw[if_pos (by rw[h.mrk];rfl)];exact WoR h h1 e2 rfl
theorem WvP(hn:0<n+1/\n<=65535)(tq:0<=key/\key<=7)(mp:k<=8)(hH:HOk w.holds)(hSh:ShOk w.shelf)(eQ:w.mem.1<1000000)(h0:0<=w.mem.1)(h:VR n key ab k w.holds x):VS n key ab k w x (W2 w x k (bpC n key ab,[])):=by
 have hp:=h.ph;unfold W2;by_cases hd:x.doomed=true/\1<=x.phase/\x.phase<=4
 .rw[if_pos hd];exact WkN h (by omega) rfl rfl rfl
 rw[if_neg hd];by_cases p0:x.phase=0
 .rw[if_pos p0];have hu:=h.p0 p0;unfold Wdk;split
  .exact WbV h rfl rfl rfl h rfl Iff.rfl
  .split
   .exact WbV h rfl rfl rfl h rfl Iff.rfl
   .split
    .exact WbV h rfl rfl rfl h rfl Iff.rfl
    .exact WbV h rfl rfl rfl (WoS h rfl rfl rfl rfl (.inl rfl) (.inl ⟨rfl,rfl,rfl⟩) (λz=>absurd rfl z) (λz=>by(change (0:Nat)=2 at z;omega))) hu.symm ⟨λz=>absurd z (no8 (by show(1:Int)≠8;omega)),λz=>absurd z (no8 (by omega))⟩
 rw[if_neg p0];by_cases p1:x.phase=1
 .rw[if_pos p1];exact Wv6 hn tq mp hH hSh h p1
 rw[if_neg p1,if_neg (by omega),if_neg (by omega),if_neg (by omega)];by_cases p5:x.phase=5
 .rw[if_pos p5];obtain⟨a1,a2,a3,a4,a5⟩:=h.p5 p5;unfold Wal;by_cases hdm:x.doomed=true
  .have hb:(Wag x.cm).phase=8:=by
    unfold Wag;rw[if_neg (by omega),if_pos (.inl a5),a3];rfl
   rw[if_pos hdm,if_pos hb];exact WkN h (by omega) rfl rfl rfl
  .rw[if_neg hdm];have et:tick w.mem=((w.mem.1+1,w.mem.2),w.mem.1+1):=by unfold tick;rw[if_pos eQ]
   have ec:WB w.mem x.cm=((w.mem.1+1,w.mem.2),{x.cm with wv:=w.mem.1+1,phase:=6,pos:=0}):=by
    unfold WB;simp only;rw[if_neg (by omega),if_pos a5,et];simp only;rw[if_neg (by omega)];have ea:Wa9 {x.cm with wv:=w.mem.1+1} 3=6:=by
     unfold Wa9;rw[if_pos ⟨.inl ⟨rfl,by show x.cm.reads.length=0;rw[a4];rfl⟩,by show x.cm.puts.length=0;rw[a3];rfl⟩]
    unfold Wdm;rw[ea]
   simp only[ec];have ed:Wbh {x with cm:={x.cm with wv:=w.mem.1+1,phase:=6,pos:=0}}={x with stamp:=w.mem.1+1,cm:={},phase:=if x.fate=2 then 6 else 7}:=by
    unfold Wbh;rw[if_neg (by show¬(6:Int)=8;omega),if_pos rfl]
   rw[ed];have aV:(if x.fate=2 then(6:Int)else 7)≠8:=by split<;>omega
   refine WbV h rfl rfl rfl ⟨h.wr,h.rd,h.mrk,h.un,?_,λz=>?_,λz=>?_,λz=>?_,λz=>?_,λz=>?_,λz=>absurd z aV,h.h1,h.h2⟩ rfl ⟨λz=>absurd z (no8 aV),λz=>absurd z (no8 (by omega))⟩
   .show(if x.fate=2 then(6:Int)else 7)=0\/_;split
    .exact .inr (.inr (.inr (.inl rfl)))
    .exact .inr (.inr (.inr (.inr (.inl rfl))))
   .change (if x.fate=2 then(6:Int)else 7)=0 at z;split at z<;>omega
   .change (if x.fate=2 then(6:Int)else 7)=1 at z;split at z<;>omega
   .change (if x.fate=2 then(6:Int)else 7)=5 at z;split at z<;>omega
   .change (if x.fate=2 then(6:Int)else 7)=6 at z;split at z
    .rename_i hf;refine .inr ⟨hf,?_⟩;rw[hf]at a2;cases ab with
     |true=>rfl
     |false=>exact absurd a2 (by unfold WjC;simp)
    .omega
   .change (if x.fate=2 then(6:Int)else 7)=7 at z;split at z
    .omega
    .rename_i hf;cases cu:ab with
     |true=>rw[cu]at a2;exact absurd a2 hf
     |false=>rw[cu]at a2;exact .inr (.inr ⟨a2,rfl,a1⟩)
 rw[if_neg p5];by_cases p6:x.phase=6
 .rw[if_pos p6];have hf:=h.p6 p6;by_cases hu:x.undos.length>0
  .rw[if_pos hu];unfold Wdv;rcases h.un with e|e|⟨e,he,eu⟩
   .rw[e]at hu;simp at hu
   .rw[e];have e1:WbF w.shelf (Wg2 [((3:Int),(0:Int),n)] (0,0,0))=(w.shelf.1,(w.shelf.2-n+65536)%65536):=by
     show WbF w.shelf (3,0,n)=_;unfold WbF;simp only;rw[if_neg (by omega),if_neg (by omega),if_pos trivial]
    rw[e1];exact⟨⟨h.wr,h.rd,h.mrk,.inl rfl,h.ph,λ_=>rfl,λz=>by(change x.phase=1 at z;omega),λz=>by(change x.phase=5 at z;omega),λ_=>hf,λz=>by(change x.phase=7 at z;omega),λz=>by(change x.phase=8 at z;omega),λz=>absurd rfl z,λz=>by(change (0:Nat)=2 at z;omega)⟩,λ_ _=>Iff.rfl,rfl,.inr (.inr (.inr (.inr (.inl ⟨no8 (by omega),no8 (by show x.phase≠8;omega),e,rfl,rfl⟩))))⟩
   .rw[eu];obtain⟨md,qT⟩:=h.h1 (by rw[eu];simp);exact⟨⟨h.wr,h.rd,h.mrk,.inr (.inl rfl),h.ph,λz=>by(change x.phase=0 at z;omega),λz=>by(change x.phase=1 at z;omega),λz=>by(change x.phase=5 at z;omega),λ_=>hf,λz=>by(change x.phase=7 at z;omega),λz=>by(change x.phase=8 at z;omega),λ_=>⟨md,qT⟩,λz=>by(change (1:Nat)=2 at z;omega)⟩,λ_ _=>Iff.rfl,rfl,.inr (.inr (.inr (.inl ⟨no8 (by omega),no8 (by show x.phase≠8;omega),e,he,eu,rfl,rfl⟩)))⟩
  .rw[if_neg hu];have p9:x.undos= []:=List.eq_nil_of_length_eq_zero (by omega);refine WbV h rfl rfl rfl ⟨h.wr,h.rd,h.mrk,h.un,.inr (.inr (.inr (.inr (.inl rfl)))),λz=>by(change (7:Int)=0 at z;omega),λz=>by(change (7:Int)=1 at z;omega),λz=>by(change (7:Int)=5 at z;omega),λz=>by(change (7:Int)=6 at z;omega),λ_=>?_,λz=>by(change (7:Int)=8 at z;omega),h.h1,h.h2⟩ rfl ⟨λz=>absurd z (no8 (by show(7:Int)≠8;omega)),λz=>absurd z (no8 (by omega))⟩;rcases hf with hf|hf
   .exact .inl ⟨hf,p9⟩
   .exact .inr (.inl ⟨hf.1,hf.2,p9⟩)
 rw[if_neg p6];by_cases p7:x.phase=7
 .rw[if_pos p7];have mE:HRl k w.holds (WV w.holds ((k:Int)+1)):=λe he=>by
   unfold WV;rw[Xar];exact⟨λz=>z.1,λz=>⟨z,by simpa using he⟩⟩
  have hy:∀(y:Rt),y.undos= []->y.writes= []->y.reads= []->y.marks= []->(y.phase=0\/(y.phase=8/\y.fate=WjC ab))->VR n key ab k (WV w.holds ((k:Int)+1)) y:=λy u a b c aV=>
   ⟨a,b,c,.inl u,by omega,λ_=>u,λz=>by omega,λz=>by omega,λz=>by omega,λz=>by omega,λz=>⟨u,(aV.resolve_left (by omega)).2⟩,λz=>absurd u z,λz=>by rw[u]at z;simp at z⟩
  rcases h.p7 p7 with⟨f1,f2⟩|⟨f1,f2,f3⟩|⟨f1,f2,f3⟩
  .rw[if_pos f1];exact⟨hy _ rfl rfl rfl rfl (.inl rfl),mE,rfl,.inl ⟨rfl,f2.symm,⟨λz=>absurd z (no8 (by show(0:Int)≠8;omega)),λz=>absurd z (no8 (by omega))⟩⟩⟩
  .rw[if_neg (by omega)];exact⟨hy _ rfl h.wr h.rd h.mrk (.inr ⟨rfl,by show x.fate=_;rw[f1,f2];rfl⟩),mE,rfl,.inl ⟨rfl,f3.symm,⟨λz=>by have:=z.2;(change x.fate=1 at this;omega),λz=>absurd z (no8 (by omega))⟩⟩⟩
  .rw[if_neg (by omega)];exact⟨hy _ rfl h.wr h.rd h.mrk (.inr ⟨rfl,by show x.fate=_;rw[f1,f2];rfl⟩),mE,rfl,.inr (.inr (.inr (.inr (.inr ⟨no8 (by omega),⟨rfl,f1⟩,f3,rfl,rfl⟩))))⟩
 .rw[if_neg p7];exact WbV h rfl rfl rfl h rfl Iff.rfl
end
section
def WnY(f:Nat->Rt->Int):List Rt->Nat->Int
 | [],_=>0
 |x::l,i=>f i x+WnY f l (i+1)
theorem Wpi{f:Nat->Rt->Int}{y:Rt}:∀(l:List Rt) (i k:Nat) (h:k<l.length),WnY f (l.set k y) i=WnY f l i-f (i+k) l[k]+f (i+k) y
 |x::l,i,0,_=>by simp only[List.set_cons_zero,WnY,List.getElem_cons_zero,Xat];omega
 |x::l,i,k+1,h=>by
  have:=Wpi (f:=f) (y:=y) l (i+1) k (by simpa using h);simp only[List.set_cons_succ,WnY,List.getElem_cons_succ];rw[this,show i+1+k=i+(k+1) by omega];omega
structure VP where
 n:Nat->Int
 key:Nat->Int
 ab:Nat->Bool
structure VPok(p:VP):Prop where
 n:∀k,0<=p.n k/\p.n k<=65535
 key:∀k,0<=p.key k/\p.key k<=7
def cfV(p:VP)(k:Nat)(x:Rt):Int:=if x.undos= []/\¬(x.phase=8/\x.fate=1)then 0 else p.n k
def Wt9(p:VP)(m0:Int->Int)(l:List Rt)(i b:Int):Prop:=
 (∃(k:Nat) (h:k<l.length),cm8 l[k]/\p.key k=i/\b=p.n k+1)\/((∀(k:Nat) (h:k<l.length),cm8 l[k]->p.key k≠i)/\b=m0 i)
def WwD(p:VP)(l:List Rt)(s:Shf)(i b:Int):Prop:=
 (∃(k:Nat) (h:k<l.length),l[k].undos= [(3,0,p.n k),WaZ i b]/\(0<=b/\b<=65536)/\p.key k=i/\WP s.1 i=p.n k+1)\/((∀(k:Nat) (h:k<l.length),p.key k=i->l[k].undos.length<=1)/\WP s.1 i=b)
structure VW(p:VP)(c0:Int)(m0:Int->Int)(mm:List Wd)(w:Wo):Prop where
 root:∀(k:Nat) (h:k<w.roots.length),VR (p.n k) (p.key k) (p.ab k) k w.holds w.roots[k]
 mem:w.mem.2=mm
 cnt:(w.shelf.2-c0-WnY (cfV p) w.roots 0)%65536=0
 map:∀i,0<=i->i<=7->∃b,Wt9 p m0 w.roots i b/\WwD p w.roots w.shelf i b
variable{p:VP}{c0:Int}{m0:Int->Int}{mm:List Wd}{s:Sc}{n:Int}{w v:Wo}{x y:Rt}{k:Nat}{q:Wo×Rt}{a:Ac}
theorem WtM{i b e:Int}(hb:0<=b)(he:0<=e)(h:WaZ i b=WaZ i e):b=e:=by
 unfold WaZ at h;split at h<;>split at h
 .omega
 .have:=congrArg Prod.fst h;simp at this
 .have:=congrArg Prod.fst h;simp at this
 .have:=congrArg (λz=>z.2.2) h;simp only at this;omega
theorem Wps{i k e:Int}{s:Shf}(hs:SlOk s.1)(hk:0<=k/\k<=7)(he:0<=e/\e<=65536):(WbF s (WaZ k e)).2=s.2/\WP (WbF s (WaZ k e)).1 i=if i=k then e else WP s.1 i:=by
 unfold WaZ;by_cases h0:e=0
 .rw[if_pos h0];have:WbF s (2,k,0)=(Wf4 s.1 k,s.2):=by unfold WbF;simp only;rw[if_neg (by omega),if_pos trivial]
  rw[this];exact⟨rfl,by rw[Wqy hs,h0]⟩
 .rw[if_neg h0];have:WbF s (1,k,e-1)=(Wef s.1 k (e-1),s.2):=by unfold WbF;simp only;rw[if_pos trivial]
  rw[this];refine⟨rfl,?_⟩;show WP (Wef s.1 k (e-1)) i=_;rw[Wiq hs hk (by omega),show e-1+1=e by omega]
theorem WwO(h:VW p c0 m0 mm w)(hH:HOk w.holds){j k:Nat}(hj:j<w.roots.length)(hk:k<w.roots.length)(hne:j≠k)(e:p.key j=p.key k)(h2:w.roots[j].undos.length=2):w.roots[k].undos.length<=1:=by
 have fA:=(h.root k hk).un;apply Classical.byContradiction;intro hc;have hl:w.roots[k].undos.length=2:=by
  rcases fA with z|z|⟨e,_,z⟩<;>rw[z]at hc⊢ <;>simp at hc⊢
 have a1:=(h.root j hj).h2 h2;have a2:=(h.root k hk).h2 hl;rw[e]at a1;obtain⟨i1,g1,z1⟩:=Xaq a1;obtain⟨i2,g2,z2⟩:=Xaq a2;have hp:=List.pairwise_iff_getElem.1 hH.up;rcases Xda i1 i2 with hl|hl|hl
 .have:=(hp i1 i2 g1 g2 hl).2;rw[z1,z2]at this;exact(this rfl).1 rfl
 .subst hl;rw[z1]at z2;have:=congrArg Prod.fst z2;simp only at this;omega
 .have:=(hp i2 i1 g2 g1 hl).2;rw[z1,z2]at this;exact(this rfl).1 rfl
theorem WuA(hp:VPok p)(h:VW p c0 m0 mm w)(hH:HOk w.holds)(hSh:ShOk w.shelf)(hk:k<w.roots.length)(hr:q.1.roots=w.roots)(hq:VS (p.n k) (p.key k) (p.ab k) k w w.roots[k] q):VW p c0 m0 mm (Wo.put q k):=by
 have hlen:(q.1.roots.set k q.2).length=w.roots.length:=by rw[Xaa,hr]
 have bZ:∀(i:Nat) (hi:i<w.roots.length),(q.1.roots.set k q.2)[i]'(by rw[hlen];exact hi)=if k=i then q.2 else w.roots[i]:=λi hi=>by
  rw[Xam];simp only[hr]
 have nm:(q.1.roots.set k q.2)[k]'(by rw[hlen];exact hk)=q.2:=by rw[bZ k hk,if_pos rfl]
 have gl:∀(i:Nat) (hi:i<w.roots.length),i≠k->(q.1.roots.set k q.2)[i]'(by rw[hlen];exact hi)=w.roots[i]:=λi hi hne=>by rw[bZ i hi,if_neg (λz=>hne z.symm)]
 obtain⟨Ag,ye,hmem,tt⟩:=hq;have Ah:=hp.n k;have hQ:=hp.key k;have tc:WnY (cfV p) (q.1.roots.set k q.2) 0=WnY (cfV p) w.roots 0-cfV p k w.roots[k]+cfV p k q.2:=by
  rw[hr];have:=Wpi (f:=cfV p) (y:=q.2) w.roots 0 k hk;rw[Xaw]at this;exact this
 have vU:=h.cnt;have baseSame:(cm8 q.2↔cm8 w.roots[k])->∀i b,Wt9 p m0 w.roots i b->Wt9 p m0 (q.1.roots.set k q.2) i b:=λhc i b hb=>by
  have nL:∀(j:Nat) (hj:j<w.roots.length),cm8 ((q.1.roots.set k q.2)[j]'(by rw[hlen];exact hj))↔cm8 w.roots[j]:=λj hj=>by
   by_cases e:j=k
   .subst e;rw[nm];exact hc
   .rw[gl j hj e]
  rcases hb with⟨j,hj,a1,a2⟩|⟨a1,a2⟩
  .exact .inl ⟨j,by rw[hlen];exact hj,(nL j hj).2 a1,a2⟩
  .exact .inr ⟨λj hj iG=>by
    have ga:j<w.roots.length:=by rw[hlen]at hj;exact hj
    exact a1 j ga ((nL j ga).1 iG),a2⟩
 have curSame:∀i b,WP q.1.shelf.1 i=WP w.shelf.1 i->(w.roots[k].undos=q.2.undos\/(w.roots[k].undos.length<=1/\q.2.undos.length<=1)\/p.key k≠i)->WwD p w.roots w.shelf i b->WwD p (q.1.roots.set k q.2) q.1.shelf i b:=λi b hg hu hb=>by
  rcases hb with⟨j,hj,a1,a2,a3,a4⟩|⟨a1,a2⟩
  .refine .inl ⟨j,by rw[hlen];exact hj,?_,a2,a3,by rw[hg];exact a4⟩;by_cases e:j=k
   .subst e;rw[nm];rcases hu with u|u|u
    .rw[←u];exact a1
    .rw[a1]at u;have:=u.1;simp at this
    .exact absurd a3 u
   .rw[gl j hj e];exact a1
  .refine .inr ⟨λj hj qR=>?_,by rw[hg];exact a2⟩;have ga:j<w.roots.length:=by rw[hlen]at hj;exact hj
   by_cases e:j=k
   .subst e;rw[nm];rcases hu with u|u|u
    .rw[←u];exact a1 j ga qR
    .exact u.2
    .exact absurd qR u
   .rw[gl j ga e];exact a1 j ga qR
 have tW:∀y:Rt,y.undos= []->¬cm8 y->cfV p k y=0:=λy hu hc=>by unfold cfV;rw[if_pos ⟨hu,hc⟩]
 have lm:∀y:Rt,y.undos≠ []\/cm8 y->cfV p k y=p.n k:=λy hu=>by
  unfold cfV;rw[if_neg (λz=>by
   rcases hu with u|u
   .exact u z.1
   .exact z.2 u)]
 refine⟨λi hi=>?_,hmem.trans h.mem,?_,?_⟩
 .change i<(q.1.roots.set k q.2).length at hi;have gT:i<w.roots.length:=by rw[←hlen];exact hi
  show VR _ _ _ i q.1.holds ((q.1.roots.set k q.2)[i]'hi);by_cases e:i=k
  .subst e;rw[nm];exact Ag
  .rw[gl i gT e];have hv:=h.root i gT;refine{hv with h1:=λz=>?_,h2:=λz=>?_}
   .obtain⟨md,qT⟩:=hv.h1 z;exact⟨md,(ye _ (by show(i:Int)+1≠(k:Int)+1;omega)).2 qT⟩
   .exact(ye _ (by show(i:Int)+1≠(k:Int)+1;omega)).2 (hv.h2 z)
 .show(q.1.shelf.2-c0-WnY (cfV p) (q.1.roots.set k q.2) 0)%65536=0;rw[tc];rcases tt with⟨e1,e2,e3⟩|⟨c1,c2,u1,u2,e⟩|⟨c1,c2,u1,u2,e,_⟩|⟨c1,c2,e,he,u1,u2,e'⟩|⟨c1,c2,u1,u2,e⟩|⟨c1,c2,u1,u2,e⟩
  .have:cfV p k q.2=cfV p k w.roots[k]:=by
    by_cases z:w.roots[k].undos= []/\¬cm8 w.roots[k]
    .rw[tW _ z.1 z.2,tW _ (by rw[e2];exact z.1) (λy=>z.2 (e3.1 y))]
    .have z':w.roots[k].undos≠ []\/cm8 w.roots[k]:=by
      by_cases q1:w.roots[k].undos= []
      .right;apply Classical.byContradiction
       exactλq2=>z ⟨q1,q2⟩
      .exact .inl q1
     rw[lm _ z',lm _ (by rw[e2];exact z'.imp_right e3.2)]
   rw[this,e1];omega
  .rw[tW _ u1 c1,lm _ (.inl (by rw[u2];simp)),e];show((w.shelf.2+p.n k)%65536-c0-_)%65536=0;omega
  .rw[lm _ (.inl (by rw[u1];simp)),lm _ (.inl (by rw[u2];simp)),e];show(w.shelf.2-c0-_)%65536=0;omega
  .rw[lm _ (.inl (by rw[u1];simp)),lm _ (.inl (by rw[u2];simp)),e',(Wps (i:=0) hSh.slots hQ he).1];omega
  .rw[lm _ (.inl (by rw[u1];simp)),tW _ u2 c2,e];show((w.shelf.2-p.n k+65536)%65536-c0-_)%65536=0;omega
  .rw[lm _ (.inl (λz=>by rw[z]at u1;simp at u1)),lm _ (.inr c2),e];omega
 .intro i i0 i7;obtain⟨b,hB,hC⟩:=h.map i i0 i7;show∃b,Wt9 p m0 (q.1.roots.set k q.2) i b/\WwD p (q.1.roots.set k q.2) q.1.shelf i b;rcases tt with⟨e1,e2,e3⟩|⟨c1,c2,u1,u2,e⟩|⟨c1,c2,u1,u2,e,jj⟩|⟨c1,c2,e,he,u1,u2,e'⟩|⟨c1,c2,u1,u2,e⟩|⟨c1,c2,u1,u2,e⟩
  .exact⟨b,baseSame e3 i b hB,curSame i b (by rw[e1]) (.inl e2.symm) hC⟩
  .exact⟨b,baseSame ⟨λz=>absurd z c2,λz=>absurd z c1⟩ i b hB,curSame i b (by rw[e]) (.inr (.inl ⟨by rw[u1];simp,by rw[u2];simp⟩)) hC⟩
  .refine⟨b,baseSame ⟨λz=>absurd z c2,λz=>absurd z c1⟩ i b hB,?_⟩;have hg:WP q.1.shelf.1 i=if i=p.key k then p.n k+1 else WP w.shelf.1 i:=by rw[e];exact Wiq hSh.slots hQ Ah
   by_cases hi:p.key k=i
   .rcases hC with⟨j,hj,a1,a2,a3,a4⟩|⟨a1,a2⟩
    .exfalso;have dp:j≠k:=λz=>by subst z;rw[u1]at a1;simp at a1
     have hm:=(h.root j hj).h2 (by rw[a1];rfl);have:=jj _ hm (by show p.key j=p.key k;omega);simp only at this;omega
    .refine .inl ⟨k,by rw[hlen];exact hk,?_,?_,hi,by rw[hg,if_pos hi.symm]⟩
     .rw[nm,u2,hi,a2]
     .rw[←a2];exact Wdc _ _
   .exact curSame i b (by rw[hg,if_neg (λz=>hi z.symm)]) (.inr (.inr hi)) hC
  .refine⟨b,baseSame ⟨λz=>absurd z c2,λz=>absurd z c1⟩ i b hB,?_⟩;have hg:WP q.1.shelf.1 i=if i=p.key k then e else WP w.shelf.1 i:=by rw[e'];exact(Wps hSh.slots hQ he).2
   by_cases hi:p.key k=i
   .rcases hC with⟨j,hj,a1,a2,a3,a4⟩|⟨a1,a2⟩
    .have dp:j=k:=by
      apply Classical.byContradiction;intro z;have:=WwO h hH hj hk z (by omega) (by rw[a1];rfl);rw[u1]at this;simp at this
     subst dp;rw[u1,hi]at a1;have Ai:b=e:=by
      have:WaZ i e=WaZ i b:=by injection a1 with _ q2;injection q2
      exact WtM a2.1 he.1 this.symm
     refine .inr ⟨λl hl iJ=>?_,by rw[hg,if_pos hi.symm,Ai]⟩;have hl0:l<w.roots.length:=by rw[hlen]at hl;exact hl
     by_cases z:l=j
     .subst z;rw[nm,u2];simp
     .rw[gl l hl0 z];exact WwO h hH hj hl0 (λq=>z q.symm) (by omega) (by rw[u1];rfl)
    .have:=a1 k hk hi;rw[u1]at this;simp at this
   .exact curSame i b (by rw[hg,if_neg (λz=>hi z.symm)]) (.inr (.inr hi)) hC
  .exact⟨b,baseSame ⟨λz=>absurd z c2,λz=>absurd z c1⟩ i b hB,curSame i b (by rw[e]) (.inr (.inl ⟨by rw[u1];simp,by rw[u2];simp⟩)) hC⟩
  .by_cases hi:p.key k=i
   .rcases hC with⟨j,hj,a1,a2,a3,a4⟩|⟨a1,a2⟩
    .have dp:j=k:=by
      apply Classical.byContradiction;intro z;have:=WwO h hH hj hk z (by omega) (by rw[a1];rfl);omega
     subst dp;refine⟨p.n j+1,.inl ⟨j,by rw[hlen];exact hj,by rw[nm];exact c2,hi,rfl⟩,.inr ⟨λl hl iJ=>?_,by rw[e];exact a4⟩⟩;have hl0:l<w.roots.length:=by rw[hlen]at hl;exact hl
     by_cases z:l=j
     .subst z;rw[nm,u2];simp
     .rw[gl l hl0 z];exact WwO h hH hj hl0 (λq=>z q.symm) (by omega) u1
    .have:=a1 k hk hi;omega
   .refine⟨b,?_,curSame i b (by rw[e]) (.inr (.inr hi)) hC⟩;rcases hB with⟨j,hj,a1,a2⟩|⟨a1,a2⟩
    .have dp:j≠k:=λz=>by subst z;exact c1 a1
     exact .inl ⟨j,by rw[hlen];exact hj,by rw[gl j hj dp];exact a1,a2⟩
    .refine .inr ⟨λj hj iG=>?_,a2⟩;have ga:j<w.roots.length:=by rw[hlen]at hj;exact hj
     by_cases z:j=k
     .subst z;exact hi
     .rw[gl j ga z]at iG;exact a1 j ga iG
theorem Wmj(h:VW p c0 m0 mm w):VW p c0 m0 mm {w with now:=w.now+1}:=⟨h.root,h.mem,h.cnt,h.map⟩
theorem WvN{key:Int}(h:VR n key (p.ab k) k w.holds x):VS n key (p.ab k) k w x ({w with now:=w.now+1},{x with doomed:=true}):=
 WbV h rfl rfl rfl ⟨h.wr,h.rd,h.mrk,h.un,h.ph,h.p0,h.p1,h.p5,h.p6,h.p7,h.p8,h.h1,h.h2⟩ rfl Iff.rfl
theorem WuQ(hp:VPok p)(hP:∀k,k<s.2.1.length->s.2.1.getD k pg0=(bpC (p.n k) (p.key k) (p.ab k),[]))(hW:WI s n w)(hn:n<=99999)(h:VW p c0 m0 mm w):VW p c0 m0 mm (Wc6 s w a):=by
 have hlen:=hW.ok.len;have iY:=hW.ok.l4;have eQ:w.mem.1<1000000:=by have:=hW.wt.clk;have:=hW.ok.now;omega
 have h0:=(WD hW.ok.mem).2.1;unfold Wc6;simp only;split
 .rename_i hb;have hk:a.2.1.toNat<w.roots.length:=by omega
  rw[Wf hk];split
  .unfold Wje;rw[Wf (show a.2.1.toNat<({w with now:=w.now+1}:Wo).roots.length from hk)];generalize a.2.1.toNat=k at*;have hr:=Wh0 hW.ok hk;rw[hP k (by omega)]at hr⊢;exact WuA (w:={w with now:=w.now+1}) hp (Wmj h) hW.ok.holds hW.ok.shelf hk hr (WvP (w:={w with now:=w.now+1}) (by have:=hp.n k;omega) (hp.key k) (by omega) hW.ok.holds hW.ok.shelf eQ h0 (h.root k hk))
  .split
   .split
    .rename_i hc;have:=(h.root _ hk).ph;omega
    .exact Wmj h
   .split
    .split
     .exact WuA hp h hW.ok.holds hW.ok.shelf hk rfl (WvN (h.root _ hk))
     .exact Wmj h
    .exact Wmj h
 .exact Wmj h
theorem WsL(hp:VPok p)(hP:∀k,k<s.2.1.length->s.2.1.getD k pg0=(bpC (p.n k) (p.key k) (p.ab k),[])):∀(l:List Ac) (n:Int) (w:Wo),WI s n w->n+l.length<=99999->VW p c0 m0 mm w->VW p c0 m0 mm (l.foldl (Wc6 s) w)
 | [],n,w,_,_,h=>h
 |e::l,n,w,hW,hn,h=>by
  simp only[Xr]at hn
  push_cast at hn
  exact WsL hp hP l (n+1) _ (hW.act e) (by omega) (WuQ (a:=e) hp hP hW (by omega) h)
end
section
variable{p:VP}{c0:Int}{m0:Int->Int}{mm:List Wd}{s:Sc}{n:Int}{w v:Wo}{x y:Rt}{k:Nat}{q:Wo×Rt}{a:Ac}{N:Nat}
theorem Wwf{n key:Int}{ab:Bool}(h:0<=n/\n<=65535)(hk:0<=key/\key<=7):Wmc (bpC n key ab,[])=true:=by
 have hv:Wbi n=true:=Wa0.2 h;have ct:WbZ key=true:=Wbs.2 hk;cases ab<;>simp[Wmc,WoX,bal,Wnh,Wpo,Wap,opd,dep,frk,bpC,Wh,W5,hv,ct,beq]
def pgV(p:VP)(k:Nat):Pg:=(bpC (p.n k) (p.key k) (p.ab k),[])
def WcH(p:VP)(c0:Int):Nat->Int
 |0=>c0
 |j+1=>if p.ab j=true then WcH p c0 j else(WcH p c0 j+p.n j)%65536
def isB(p:VP)(i:Int)(k:Nat):Bool:=decide (p.key k=i)&& !p.ab k
def Wp7(p:VP)(i:Int):Nat->Bool
 |0=>false
 |j+1=>Wp7 p i j||isB p i j
def okB(p:VP)(i m:Int):Nat->Bool
 |0=>false
 |j+1=>okB p i m j||(isB p i j&&decide (m=1+p.n j))
theorem Wlo{i:Int}:∀j:Nat,Wp7 p i j=true↔∃k,k<j/\isB p i k=true
 |0=>⟨(λh=>by cases h),λ⟨k,h,_⟩=>absurd h (by omega)⟩
 |j+1=>by
  rw[Wp7,Xbs,Wlo j];exact⟨λh=>by
   rcases h with⟨k,a,b⟩|h
   .exact⟨k,by omega,b⟩
   .exact⟨j,by omega,h⟩,λ⟨k,a,b⟩=>by
   by_cases e:k=j
   .subst e;exact .inr b
   .exact .inl ⟨k,by omega,b⟩⟩
theorem Wuq{i m:Int}:∀j k:Nat,k<j->isB p i k=true->m=1+p.n k->okB p i m j=true
 |0,_,h,_,_=>by omega
 |j+1,k,h,h1,h2=>by
  rw[okB,Xbs];by_cases e:k=j
  .subst e;right;rw[h1,Bool.true_and];simpa using h2
  .exact .inl (Wuq j k (by omega) h1 h2)
structure AtV(N:Nat)(code:List Int)(p:VP)(f:Nat->Int):Prop where
 at1:∀i:Nat,i<=1000->Zej N code (i:Int)=ret (f i)
 bd:∀i:Nat,0<=f i/\f i<=255
 n:∀k,p.n k=f k*3
 key:∀k,p.key k=f (k+4)%8
 ab:∀k,p.ab k=decide (f (k+8)%3=0)
theorem Wvw{code:List Int}{f:Nat->Int}(h:AtV N code p f){R:Type}(K0:Int->Int->Bool->List Pg->Option R)(hc:0<=c0/\c0<=65535):∀(d j fuel:Nat) (l:List Pg),j+d=4->d<fuel->l=(Xbt j).map (pgV p)->
  Zbw N code s s.1.1 s.1.2.1 s.1.2.2 s.2.2 K0 fuel (WcH p c0 j) (j:Int) l=K0 (WcH p c0 4) 4 false ((Xbt 4).map (pgV p)):=by
 have hw:∀j,0<=WcH p c0 j/\WcH p c0 j<=65535:=λj=>by
  induction j with
  |zero=>exact hc
  |succ j ih=>rw[WcH];split<;>omega
 intro d
 induction d with
 |zero=>
  intro j fuel l hj hf hl;obtain⟨g,rfl⟩:∃g,fuel=g+1:=⟨fuel-1,by omega⟩;have:j=4:=by omega
  subst this;rw[Zbw,show decide (((4:Nat):Int)<4)=false from rfl,cond_false,hl];rfl
 |succ d ih=>
  intro j fuel l hj hf hl;obtain⟨g,rfl⟩:∃g,fuel=g+1:=⟨fuel-1,by omega⟩;have e1:decide ((j:Int)<4)=true:=decide_eq_true (by omega);have a4:We .i64 (j:Int) 4=((j+4:Nat):Int):=by rw[Wp (by unfold I64;omega)];omega
  have a8:We .i64 (j:Int) 8=((j+8:Nat):Int):=by rw[Wp (by unfold I64;omega)];omega
  have b0:=h.bd j;have b4:=h.bd (j+4);have b8:=h.bd (j+8);have m3:Weg .i64 (f j) 3=p.n j:=by rw[Wdi (by unfold I64;omega),h.n]
  have r8:WcC (f (j+4)) 8=p.key j:=by rw[h.key];unfold WcC;exact Xbr (by omega)
  have r3:(WcC (f (j+8)) 3==0)=p.ab j:=by
   have:WcC (f (j+8)) 3=f (j+8)%3:=by unfold WcC;exact Xbr (by omega)
   rw[this,h.ab];by_cases z:f (j+8)%3=0
   .rw[z];rfl
   .rw[decide_eq_false z];simpa using z
  have hlen:l.length=j:=by rw[hl];simp
  have hn:=h.n j;have hwj:=hw j;rw[Zbw,e1,cond_true,h.at1 j (by omega),a4,h.at1 (j+4) (by omega),a8,h.at1 (j+8) (by omega)];simp only[ret,Xc,show inz (8:Int)=true from rfl,show inz (3:Int)=true from rfl,show inz (65536:Int)=true from rfl,cond_true,m3,r8,r3,Wg (show j<4611686018427387904 by omega),Xaf];have an:∀x:Pg,Wy (l.length+ [x].length)=true:=λx=>Ws (by rw[hlen];simp;omega);have bY:∀x:Pg,x=pgV p j->l++ [x]=(Xbt (j+1)).map (pgV p):=λx hx=>by
   rw[hl,hx,Xhd,Xp];rfl
  cases cu:p.ab j with
  |true=>
   rw[cond_true,show Wy (([((1:Int),((1:Int),(p.n j,(0:Int)))),((15:Int),((1:Int),((0:Int),(0:Int)))),((12:Int),(p.key j,((1:Int),(2:Int))))]:List Opn).length+([((10:Int),((0:Int),((0:Int),(0:Int))))]:List Opn).length)=true from Ws (by simp),cond_true,an,cond_true];have wn:WcH p c0 (j+1)=WcH p c0 j:=by rw[WcH,if_pos cu]
   rw[←wn];exact ih (j+1) g _ (by omega) (by omega) (bY _ (by unfold pgV bpC;rw[cu];rfl))
  |false=>
   rw[cond_false,an,cond_true];have wn:WcH p c0 (j+1)=WcC (We .i64 (WcH p c0 j) (p.n j)) 65536:=by
    rw[WcH,if_neg (by rw[cu];simp),Wp (by unfold I64;omega)];unfold WcC;exact(Xbr (by omega)).symm
   rw[←wn];exact ih (j+1) g _ (by omega) (by omega) (bY _ (by unfold pgV bpC;rw[cu];rfl))
theorem Wvq{code:List Int}{f:Nat->Int}(h:AtV N code p f){R:Type}(K0:Bool->Bool->Int->Bool->Option R){i:Nat}{l:List Int}(hi:i<l.length){W:Y_World}:∀(d j fuel:Nat),j+d=4->d<fuel->
  Z2 N code (i:Int) s W l K0 fuel (okB p (i:Int) l[i] j) (Wp7 p (i:Int) j) (j:Int)=K0 (okB p (i:Int) l[i] 4) (Wp7 p (i:Int) 4) 4 false:=by
 intro d
 induction d with
 |zero=>
  intro j fuel hj hf;obtain⟨g,rfl⟩:∃g,fuel=g+1:=⟨fuel-1,by omega⟩;have:j=4:=by omega
  subst this;rw[Z2,show decide (((4:Nat):Int)<4)=false from rfl,cond_false];rfl
 |succ d ih=>
  intro j fuel hj hf;obtain⟨g,rfl⟩:∃g,fuel=g+1:=⟨fuel-1,by omega⟩;have e1:decide ((j:Int)<4)=true:=decide_eq_true (by omega);have a4:We .i64 (j:Int) 4=((j+4:Nat):Int):=by rw[Wp (by unfold I64;omega)];omega
  have a8:We .i64 (j:Int) 8=((j+8:Nat):Int):=by rw[Wp (by unfold I64;omega)];omega
  have b0:=h.bd j;have b4:=h.bd (j+4);have b8:=h.bd (j+8);have hn:=h.n j;have m3:Weg .i64 (f j) 3=p.n j:=by rw[Wdi (by unfold I64;omega),h.n]
  have i1:We .i64 1 (p.n j)=1+p.n j:=Wp (by unfold I64;omega);have r8:(WcC (f (j+4)) 8==(i:Int))=decide (p.key j=(i:Int)):=by
   have:WcC (f (j+4)) 8=p.key j:=by rw[h.key];unfold WcC;exact Xbr (by omega)
   rw[this];by_cases z:p.key j=(i:Int)<;>simp[z]
  have r3:(WcC (f (j+8)) 3 !=0)= !p.ab j:=by
   have:WcC (f (j+8)) 3=f (j+8)%3:=by unfold WcC;exact Xbr (by omega)
   rw[this,h.ab];by_cases z:f (j+8)%3=0
   .rw[z];rfl
   .rw[decide_eq_false z];simpa using z
  have rm:(l[i]==1+p.n j)=decide (l[i]=1+p.n j):=by by_cases z:l[i]=1+p.n j<;>simp[z]
  have aW:=ih (j+1) g (by omega) (by omega);rw[okB,Wp7]at aW;unfold isB at aW;rw[Z2,e1,cond_true,a4,h.at1 (j+4) (by omega),a8,h.at1 (j+8) (by omega),h.at1 j (by omega)];simp only[ret,Wt,Xc,show inz (8:Int)=true from rfl,show inz (3:Int)=true from rfl,cond_true,r8,r3,Wn hi,Wq hi,m3,i1,rm,Wg (show j<4611686018427387904 by omega)];generalize okB p (i:Int) l[i] j=o at*;generalize Wp7 p (i:Int) j=u at*;generalize decide (l[i]=1+p.n j)=z at*;cases hk:decide (p.key j=(i:Int))<;>cases ha:p.ab j<;>rw[hk,ha]at aW<;>cases o<;>cases u<;>cases z<;>exact aW
theorem Wu6{code:List Int}{f:Nat->Int}(h:AtV N code p f){R:Type}{E:Option R}(K1:Int->Bool->Option R){l:List Int}{W:Y_World}(hl:l.length=8)(hm:s.1.2.1.length=8)(hN:1048576<N)(gB:∀(i:Nat) (hi:i<l.length),(Wp7 p (i:Int) 4=true->okB p (i:Int) l[i] 4=true)/\(Wp7 p (i:Int) 4=false->l[i]=s.1.2.1.getD i 0)):
  Z3 N code s W l E K1 N 0=K1 8 false:=by
 have h1:=WE (l:=l) (V:=Unit) (R:=R) (lp:=λn j _=>Z3 N code s W l E K1 n j) (n:=N) (by omega)
  (body:=λj x v k=>k v) (K:=λj _=>K1 (j:Int) false)
  (λn i u hi=>by
   obtain⟨g1,g2⟩:=gB i hi;have pS:i<s.1.2.1.length:=by omega
   have ep:=Wvq (s:=s) h (K0:=λpu eN zg zh=>
  (bif eN then
 (bif !pu then
 E
 else
 (bif !eN then
 (bif inb (i:Int) (Xa l)then
 (bif inb (i:Int) (Xa s.1.2.1)then
 (bif (Xd l (Xb (i:Int)) (0:Int)) !=(Xd s.1.2.1 (Xb (i:Int)) (0:Int))then
 E
 else
 (Z3 N code s W l E K1 n (We .i64 (i:Int) (1:Int))))else none)else none)
 else
 (Z3 N code s W l E K1 n (We .i64 (i:Int) (1:Int)))))
 else
 (bif !eN then
 (bif inb (i:Int) (Xa l)then
 (bif inb (i:Int) (Xa s.1.2.1)then
 (bif (Xd l (Xb (i:Int)) (0:Int)) !=(Xd s.1.2.1 (Xb (i:Int)) (0:Int))then
 E
 else
 (Z3 N code s W l E K1 n (We .i64 (i:Int) (1:Int))))else none)else none)
 else
 (Z3 N code s W l E K1 n (We .i64 (i:Int) (1:Int)))))) hi (W:=W) 4 0 N (by omega) (by omega)
   simp only[Z3,Waf hi,cond_true];refine ep.trans ?_;simp only[Wg (show i<4611686018427387904 by omega),Wn hi,Wn pS,Wq hi,Wq pS,cond_true];cases hp:Wp7 p (i:Int) 4 with
   |true=>rw[g1 hp];rfl
   |false=>
    have e:=g2 hp;rw[Wf pS]at e;rw[show(l[i] !=s.1.2.1[i])=false by rw[e];simp];rfl)
  (λn v=>by simp only[Z3,Waw (Xn _),cond_false]) ()
 refine h1.trans ?_;rw[WeX (f:=λv _=>v) _ 0 () (λj x v k _=>rfl),hl];rfl
theorem Wqn{N:Nat}{m:Mm}(hm:WZ m=true)(hN:1048576<N):Zfn N m=ret (m.2.map (·.1)):=by
 obtain⟨m8,_,_,_⟩:=WD hm;unfold Zfn;rw[WaX (by omega) hN,hm];simp only[ret,Xc,Xab,cond_false];have lp:∀(dd j n:Nat) (l:List Int),j+dd=m.2.length->dd<n->l=(m.2.take j).map (·.1)->
   Zc8 N m.2 (Wb m.2) (λaA aL bq=>(some ((),(bq,())))) n (j:Int) l=(some ((),(m.2.map (·.1),())):Option (Unit×(List Int×Unit))):=by
  intro dd
  induction dd with
  |zero=>
   intro j n l hj hn hl;obtain⟨n,rfl⟩:∃n',n=n'+1:=⟨n-1,by omega⟩;have:j=m.2.length:=by omega
   subst this;simp only[Zc8,Waw (Xn _),cond_false];rw[hl,List.take_length]
  |succ dd ih=>
   intro j n l hj hn hl;obtain⟨n,rfl⟩:∃n',n=n'+1:=⟨n-1,by omega⟩;have hlt:j<m.2.length:=by omega
   have bZ:Xd m.2 (Xb (j:Int)) ((0:Int),((0:Int),(0:Int)))=m.2[j]:=Wq hlt _;have an:Wy (l.length+ [m.2[j].1].length)=true:=Ws (by rw[hl];simp;omega);simp only[Zc8,Waf hlt,Wn hlt,bZ,an,Wg (show j<4611686018427387904 by omega),cond_true,Xaf];refine ih (j+1) n _ (by omega) (by omega) ?_;rw[hl,List.take_succ_eq_append_getElem hlt,Xp];rfl
 exact lp m.2.length 0 N [] (by omega) (by omega) (by simp)
theorem Wmt{f:Nat->Rt->Int}{x:Rt}(h:∀i,f i x=0):∀(u i:Nat),WnY f (Xt u x) i=0
 |0,_=>rfl
 |u+1,i=>by rw[List.replicate_succ,WnY,h,Wmt h u (i+1)];rfl
theorem Wwv(aH:WjB s=true):VW p s.1.2.2 (λi=>s.1.2.1.getD i.toNat 0) (s.1.1.map wd0) (WfH s):=by
 have ht:=(WeG aH).1;have h0:∀(k:Nat) (h:k<(WfH s).roots.length),(WfH s).roots[k]={}:=λk h=>by simp only[WfH,Xbg]
 refine⟨λk hk=>?_,rfl,?_,λi i0 i7=>?_⟩
 .rw[h0 k hk];exact⟨rfl,rfl,rfl,.inl rfl,.inl rfl,λ_=>rfl,λz=>by(change (0:Int)=1 at z;omega),λz=>by(change (0:Int)=5 at z;omega),λz=>by(change (0:Int)=6 at z;omega),λz=>by(change (0:Int)=7 at z;omega),λz=>by(change (0:Int)=8 at z;omega),λz=>absurd rfl z,λz=>by(change (0:Nat)=2 at z;omega)⟩
 .have:WnY (cfV p) (WfH s).roots 0=0:=Wmt (λi=>by unfold cfV;rw[if_pos ⟨rfl,λz=>by have:=z.1;(change (0:Int)=8 at this;omega)⟩]) _ 0;rw[this];show(s.1.2.2-s.1.2.2-0)%65536=0;omega
 .refine⟨s.1.2.1.getD i.toNat 0,.inr ⟨λk hk hc=>?_,rfl⟩,.inr ⟨λk hk _=>?_,?_⟩⟩
  .rw[h0 k hk]at hc;have:=hc.1
   (change (0:Int)=8 at this;omega)
  .rw[h0 k hk];exact Xbk _
  .show WP (WjP s.1.2.1) i=_;have:=Wqz ht.map.1 ht.map.2 (i:=i.toNat) (by omega);rw[show((i.toNat:Nat):Int)=i by omega]at this;exact this
def gV(p:VP)(k:Nat):Int:=if p.ab k=true then 0 else p.n k
def WwE(g:Nat->Int):Nat->Nat->Int
 |0,_=>0
 |u+1,i=>g i+WwE g u (i+1)
theorem Wuo{f:Nat->Rt->Int}{g:Nat->Int}:∀(l:List Rt) (i:Nat),(∀(k:Nat) (h:k<l.length),f (i+k) l[k]=g (i+k))->WnY f l i=WwE g l.length i
 | [],_,_=>rfl
 |x::l,i,h=>by
  rw[WnY,Xr,WwE,Wuo l (i+1) (λk hk=>?_)]
  .have h0:=h 0 (by simp);rw[Xat]at h0;have e:f i x=g i:=h0;rw[e]
  .have:=h (k+1) (by simpa using hk);rw[show i+1+k=i+(k+1) by omega];exact this
theorem Wwn{f:Nat->Rt->Int}{g:Nat->Int}(l:List Rt)(hl:l.length=4)(h:∀(k:Nat) (h:k<l.length),f k l[k]=g k):WnY f l 0=g 0+g 1+g 2+g 3:=by
 rw[Wuo l 0 (λk hk=>by rw[Xaw];exact h k hk),hl];simp only[WwE,Xaw,Nat.reduceAdd];omega
theorem Wfa(hp:VPok p)(j:Nat)(h:0<=WcH p c0 j/\WcH p c0 j<=65535):(WcH p c0 (j+1) -WcH p c0 j-gV p j)%65536=0/\0<=WcH p c0 (j+1)/\WcH p c0 (j+1)<=65535:=by
 have hn:=hp.n j;rw[WcH];unfold gV;cases p.ab j with
 |true=>rw[if_pos rfl,if_pos rfl];omega
 |false=>rw[if_neg (by simp),if_neg (by simp)];omega
theorem WsZ(hp:VPok p)(h:VW p c0 m0 mm w)(hR:Rest w)(hSh:ShOk w.shelf)(hlen:w.roots.length=4)(hc:0<=c0/\c0<=65535):
  w.shelf.2=WcH p c0 4/\∀i:Nat,i<8->(Wp7 p (i:Int) 4=true->okB p (i:Int) (WP w.shelf.1 (i:Int)) 4=true)/\(Wp7 p (i:Int) 4=false->WP w.shelf.1 (i:Int)=m0 (i:Int)):=by
 have h8:∀(k:Nat) (hk:k<w.roots.length),w.roots[k].phase=8:=λk hk=>hR.done _ (Xx hk);have hu:∀(k:Nat) (hk:k<w.roots.length),w.roots[k].undos= []/\(cm8 w.roots[k]↔p.ab k=false):=λk hk=>by
  obtain⟨a,b⟩:=(h.root k hk).p8 (h8 k hk);refine⟨a,⟨λz=>?_,λz=>⟨h8 k hk,by rw[b,z];rfl⟩⟩⟩;cases cu:p.ab k with
  |false=>rfl
  |true=>rw[cu]at b;have:=z.2;rw[b]at this;exact absurd this (by unfold WjC;simp)
 have Aj:∀(k:Nat) (hk:k<w.roots.length),cfV p k w.roots[k]=gV p k:=λk hk=>by
  obtain⟨a,b⟩:=hu k hk;unfold cfV gV;cases cu:p.ab k with
  |true=>rw[if_pos ⟨a,λz=>by have:=b.1 z;rw[cu]at this;cases this⟩];rfl
  |false=>rw[if_neg (λz=>z.2 (b.2 cu))];rfl
 refine⟨?_,λi hi=>?_⟩
 .have wo:=h.cnt;have hs:=hSh.cnt;rw[Wwn w.roots hlen Aj]at wo;have w1:=Wfa (c0:=c0) hp 0 hc;have w2:=Wfa (c0:=c0) hp 1 w1.2;have w3:=Wfa (c0:=c0) hp 2 w2.2;have w4:=Wfa (c0:=c0) hp 3 w3.2;have e0:WcH p c0 0=c0:=rfl;rw[e0]at w1;simp only[Xaw,Nat.reduceAdd]at w1 w2 w3 w4;omega
 .obtain⟨b,hB,hC⟩:=h.map (i:Int) (by omega) (by omega);have hM:WP w.shelf.1 (i:Int)=b:=by
   rcases hC with⟨k,hk,a1,_⟩|⟨_,a2⟩
   .rw[(hu k hk).1]at a1;cases a1
   .exact a2
  rw[hM];rcases hB with⟨k,hk,a1,a2,a3⟩|⟨a1,a2⟩
  .have qc:isB p (i:Int) k=true:=by unfold isB;rw[(hu k hk).2.1 a1,decide_eq_true a2];rfl
   exact⟨λ_=>Wuq 4 k (by omega) qc (by omega),λz=>by rw[(Wlo 4).2 ⟨k,by omega,qc⟩]at z;cases z⟩
  .have dQ:Wp7 p (i:Int) 4=false:=by
    rw[Bool.eq_false_iff];intro z;obtain⟨k,hk,qc⟩:=(Wlo 4).1 z;unfold isB at qc;simp only[Xh,decide_eq_true_eq,Bool.not_eq_true']at qc;exact a1 k (by omega) ((hu k (by omega)).2.2 qc.2) qc.1
   exact⟨(λz=>by rw[dQ]at z;cases z),λ_=>a2⟩
theorem WlJ{code:List Int}(hw:∀x∈code,0<=x/\x<=255)(hN:1048576<N):Zez N code=ret true:=by
 unfold Zez Zr5;simp only[Xc];by_cases hb:code.length<=1048576
 .have e0:decide (Wb code>1048576)=false:=by simp[Wb];omega
  obtain⟨s,es,hs⟩:=Wm1 hN hb;rw[e0,es];simp only[cond_false,ret,Xc];rw[Wi8 hs hN];cases aH:WjB s with
  |false=>rfl
  |true=>
   obtain⟨f,x8,yf⟩:∃f:Nat->Int,(∀i:Nat,i<=1000->Zej N code (i:Int)=ret (f i))/\∀i,0<=f i/\f i<=255:=by
    have jj:∀i:Nat,∃v:Int,(i<=1000->Zej N code (i:Int)=ret v)/\0<=v/\v<=255:=λi=>by
     by_cases h:i<=1000
     .obtain⟨v,a,b⟩:=Wwj (N:=N) hw hb (i:=i) h;exact⟨v,λ_=>a,b⟩
     .exact⟨0,λz=>absurd z h,by omega,by omega⟩
    exact⟨λi=>(jj i).choose,λi h=>(jj i).choose_spec.1 h,λi=>(jj i).choose_spec.2⟩
   obtain⟨p,rE⟩:∃p:VP,p=⟨λk=>f k*3,λk=>f (k+4)%8,λk=>decide (f (k+8)%3=0)⟩:=⟨_,rfl⟩;have hA:AtV N code p f:=⟨x8,yf,λk=>by rw[rE],λk=>by rw[rE],λk=>by rw[rE]⟩;have qb:VPok p:=⟨λk=>by have:=yf k;rw[hA.n];omega,λk=>by rw[hA.key];omega⟩;obtain⟨t1,t2,t3,t4⟩:=WeG aH;have wq:=Wvw (s:=s) hA (c0:=s.1.2.2) (R:=Unit×Ko) (K0:=λiw sT nZ cY=>
  ((Zdd N (s.1,(cY,s.2.2))).bind λgj=>
 (bif (Wb gj.2.1.2.2.2.2.2.1) !=(4:Int)then
 (some ((),(false,())))
 else
 (bif gj.2.1.2.2.2.1.2 !=iw then
 (some ((),(false,())))
 else
 ((Zhi N gj.2.1.2.2.2.1.1).bind λiq=>
 (Z3 N code s gj.2.1 iq.2.1
 (some ((),(false,())))
 (λxL t66=>
  (bif (Wb iq.2.1)==(8:Int)then
 ((Zfn N gj.2.1.2.2.1).bind λmR=>
 ((Zde N mR.2.1 s.1.1).bind λmS=>
 (some ((),(mS.2.1,())))))
 else
 (some ((),(false,())))))
 N (0:Int))))))) t1.cnt 4 0 N [] (by omega) (by omega) rfl
   refine wq.trans ?_;generalize bH:((s.1,(Xbt 4).map (pgV p),s.2.2):Sc)=s';have cQ:s'.2.1=(Xbt 4).map (pgV p):=by rw[←bH]
   have hmem:∀q∈s'.2.1,∃k,q=pgV p k:=λq hq=>by
    rw[cQ]at hq;obtain⟨k,_,e⟩:=Xu.1 hq;exact⟨k,e.symm⟩
   have iY:s'.2.1.length=4:=by rw[cQ];simp
   have eD:s'.1=s.1:=by rw[←bH]
   have gK:s'.2.2=s.2.2:=by rw[←bH]
   have jx:WjB s'=true:=by
    unfold WjB;simp only[Xh,decide_eq_true_eq,Xae];refine⟨by rw[eD];exact Wpf.2 t1,by omega,by rw[gK];exact t3,λq hq=>?_⟩;obtain⟨k,e⟩:=hmem q hq;rw[e];exact Wwf (qb.n k) (qb.key k)
   have tO:SB s':=by
    refine{cells:=by rw[eD];exact hs.cells,map:=by rw[eD];exact hs.map,progs:=by omega,each:=λq hq=>?_,acts:=by rw[gK];exact hs.acts};obtain⟨k,e⟩:=hmem q hq;rw[e];refine⟨?_,Xbk _,λc hc=>by cases hc⟩;show(bpC (p.n k) (p.key k) (p.ab k)).length<=1000;unfold bpC;cases p.ab k<;>simp
   have hP:∀k,k<s'.2.1.length->s'.2.1.getD k pg0=(bpC (p.n k) (p.key k) (p.ab k),[]):=λk hk=>by
    rw[Wf hk];simp only[cQ,Xed,Xgr];rfl
   obtain⟨hR,hO,hn,m,hW⟩:=WqA jx;obtain⟨l,kS,hl⟩:=Wjq jx;have hWI:WI s' 0 (WfH s'):=⟨WiG jx,WuF,Wrc jx,WsB,Wss⟩;have hV:=WsL qb hP (s'.2.2++l) 0 _ hWI (by omega) (Wwv jx);rw[←hl]at hV;have nq:(WaI s' 6000 (Web s')).1.roots.length=4:=by rw[hW.ok.len,iY]
   obtain⟨f1,f2⟩:=WsZ qb hV hR hW.ok.shelf nq (by rw[eD];exact t1.cnt);have hdr:=WsM tO hN jx;have Ak:=hV.mem;show((Zdd N s').bind _)=_;rw[hdr];have hSh:=hW.ok.shelf;generalize WaI s' 6000 (Web s')=q at*;have eR:q.1.e.2.2.2.2.2.1=q.1.roots.map Rt.e:=rfl;have eM:q.1.e.2.2.1=q.1.mem:=rfl;have eS:q.1.e.2.2.2.1=q.1.shelf:=rfl;have l4:Wb (q.1.roots.map Rt.e)=4:=by unfold Wb;rw[List.length_map,nq];rfl
   have gu:WcH p s'.1.2.2 4=WcH p s.1.2.2 4:=by rw[eD]
   rw[gu]at f1;simp only[Xc,eR,eM,eS,l4,f1,bne_self_eq_false,cond_false,Wsq hSh.slots hN,ret];have iC:=t1.map.1;have ws:=Wu6 (s:=s) hA (R:=Unit×Ko) (E:=some ((),(false,()))) (l:=(Xbt 8).map λi:Nat=>WP q.1.shelf.1 (i:Int)) (W:=q.1.e) (K1:=λxL t66=>
  (bif (Wb ((Xbt 8).map λi:Nat=>WP q.1.shelf.1 (i:Int)))==(8:Int)then
 ((Zfn N q.1.mem).bind λmR=>
 ((Zde N mR.2.1 s.1.1).bind λmS=>
 (some ((),(mS.2.1,())))))
 else
 (some ((),(false,()))))) (by simp) iC hN (λi hi=>by
    have pS:i<8:=by simpa using hi
    obtain⟨g1,g2⟩:=f2 i pS;simp only[Xed,Xgr];refine⟨g1,λz=>?_⟩;rw[g2 z];show s'.1.2.1.getD ((i:Int)).toNat 0=_;rw[eD,Xj])
   refine ws.trans ?_;have Al:Wb ((Xbt 8).map λi:Nat=>WP q.1.shelf.1 (i:Int))=8:=by unfold Wb;simp
   have hv:q.1.mem.2.map (·.1)=s.1.1:=by
    rw[Ak,eD,List.map_map];have:((λx:Wd=>x.1)∘wd0)=id:=by funext z;rfl
    rw[this,List.map_id]
   have hcl:s.1.1.length<=1048576:=by have:=t1.cells.len;omega
   simp only[Al,beq_self_eq_true,cond_true,Wqn hR.mem hN,hv,Wlq hcl hN,ret,Xc]
 .have e0:decide (Wb code>1048576)=true:=by simp[Wb];omega
  rw[e0];rfl
theorem law_FnBumped(d:Wfk [.v (.slice (.int .u8)) false])(hw:Wo4 [.v (.slice (.int .u8)) false] d):∃N o,Zez N d.1=some (o,(true,())):=
 ⟨1048577,(),WlJ (N:=1048577) (λx hx=>bounds_u8 (hw.1.2 x hx)) (by omega)⟩
end
end Go.Sx
