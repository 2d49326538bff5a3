/- Plain laws of the Lean functions. -/
import Derived.Test.YtnkbflecplbceaaGreatMW4
open Nat renaming le_refl→Xn,zero_le→Xbk
open List renaming countP_cons→Xcn,getElem_set→Xao,getElem_set_ne→Xfb,all_eq_true→Xae,getElem_of_mem→Xam,foldl_cons→Xce,foldl_append→Xek,length_set→Xad,getElem_mem→Xq,mem_cons_self→Xi,mem_cons_of_mem→Xe,mem_append→Xm,mem_singleton→Xz,getElem?_eq_getElem→Xs,getD→Xc,countP→Xfz,length_cons→Xu,getElem_replicate→Xbj,getElem_map→Xdx,mem_cons→Xo,not_mem_nil→Xfw,length_map→Xaf,length→Xa
open Int renaming le_refl→Xp,toNat_natCast→Xj,toNat→Xb
open Option renaming bind_some→Xd
open Bool renaming not_true→Xab
namespace Go.Sx
set_option linter.unusedVariables false
set_option linter.unusedSimpArgs false
section
variable{s:Sc}{w v:Wo}{n:Int}{x y:Rt}{k i:Nat}{p:Pg}
theorem Wpw(h0:WI s n w):∀(d i:Nat) (n':Int) (v:Wo),i+d=s.2.1.length->WI s n' v->n'+4*d<=99999->Rd s w v i->Rd s w (WaP s d i v) s.2.1.length/\∃m,m<=n'+4*d/\WI s m (WaP s d i v)
 |0,i,n',v,hi,hV,hn,hR=>by
  rw[WaP,show s.2.1.length=i by omega];exact⟨hR,n',by omega,hV⟩
 |d+1,i,n',v,hi,hV,hn,hR=>by
  have Ak:=h0.ok.len;have hB:=hR.step h0 ⟨n',by omega,hV⟩ (by omega);have h3:=pk3 hV.ok (i:=i) (by omega);have hW:=hV.blk (k:=i);obtain⟨a,m,hm,b⟩:=Wpw h0 d (i+1) _ _ (by omega) hW (by omega) hB;rw[WaP];exact⟨a,m,by omega,b⟩
def WgH(x:Rt):Bool:=decide (x.phase≠8)
def Wi0(l:List Rt):Int:=(l.countP WgH:Nat)
theorem Wrd:∀(l l':List Rt),l'.length=l.length->(∀(j:Nat) (h:j<l.length) (h':j<l'.length),WgH l'[j]=true->WgH l[j]=true)->l'.countP WgH<=l.countP WgH
 | [],[],_,_=>Xn _
 | [],_::_,h,_=>by simp at h
 |_::_,[],h,_=>by simp at h
 |x::l,y::l',h,hp=>by
  have ih:=Wrd l l' (by simpa using h) λj h1 h2 hu=>hp (j+1) (by simpa using h1) (by simpa using h2) hu;have h0:WgH y=true->WgH x=true:=hp 0 (by simp) (by simp);rw[Xcn,Xcn];by_cases hy:WgH y=true
  .rw[if_pos hy,if_pos (h0 hy)];omega
  .rw[if_neg hy];omega
theorem WrV:∀(l l':List Rt),l'.length=l.length->(∀(j:Nat) (h:j<l.length) (h':j<l'.length),WgH l'[j]=true->WgH l[j]=true)->∀(k:Nat) (h:k<l.length) (h':k<l'.length),WgH l[k]=true->WgH l'[k]=false->l'.countP WgH+1<=l.countP WgH
 | [],_,_,_,k,h,_,_,_=>by simp at h
 |_::_,[],h,_,_,_,_,_,_=>by simp at h
 |x::l,y::l',h,hp,k,hk,cy,h1,h2=>by
  have h0:WgH y=true->WgH x=true:=hp 0 (by simp) (by simp);have hq:∀(j:Nat) (h:j<l.length) (h':j<l'.length),WgH l'[j]=true->WgH l[j]=true:=λj h1 h2 hu=>hp (j+1) (by simpa using h1) (by simpa using h2) hu;rw[Xcn,Xcn];cases k with
  |zero=>
   have hx:WgH x=true:=h1;have hy:WgH y=false:=h2;have:=Wrd l l' (by simpa using h) hq;rw[if_pos hx,hy];simp;omega
  |succ k=>
   have ih:=WrV l l' (by simpa using h) hq k (by simpa using hk) (by simpa using cy) h1 h2;by_cases hy:WgH y=true
   .rw[if_pos hy,if_pos (h0 hy)];omega
   .rw[if_neg hy];omega
theorem WkZ{l:List Rt}{k:Nat}(h:k<l.length)(hu:l[k].phase≠8):Wi0 (l.set k {phase:=8})+1<=Wi0 l:=by
 have:=WrV l (l.set k {phase:=8}) (by simp) (λj h1 h2 hu=>by
  rw[Xao]at hu;split at hu
  .cases hu
  .exact hu) k h (by simpa using h) (by unfold WgH;simpa using hu) (by rw[List.getElem_set_self];rfl)
 unfold Wi0;omega
theorem Wse(l:List Rt):0<=Wi0 l:=Int.natCast_nonneg _
theorem Wvg{l:List Rt}{k:Nat}(h:k<l.length)(hu:l[k].phase≠8):1<=Wi0 l:=by
 have:=WkZ h hu;have:=Wse (l.set k {phase:=8});omega
theorem Wvf{l:List Rt}{k j:Nat}(h:k<l.length)(hj:j<l.length)(hne:k≠j)(hu:l[k].phase≠8)(hv:l[j].phase≠8):2<=Wi0 l:=by
 have:=WkZ h hu;have:=Wvg (l:=l.set k {phase:=8}) (k:=j) (by simpa using hj) (by rw[Xfb hne];exact hv);omega
theorem Wxf{l:List Rt}{k j i:Nat}(h:k<l.length)(hj:j<l.length)(hi:i<l.length)(h1:k≠j)(h2:k≠i)(h3:j≠i)(hu:l[k].phase≠8)(hv:l[j].phase≠8)(hw:l[i].phase≠8):3<=Wi0 l:=by
 have:=WkZ h hu;have:=Wvf (l:=l.set k {phase:=8}) (k:=j) (j:=i) (by simpa using hj) (by simpa using hi) h3 (by rw[Xfb h1];exact hv) (by rw[Xfb h2];exact hw);omega
theorem WwH(l:List Rt)(h:l.length<=4):Wi0 l<=4:=by
 have:l.countP WgH<=l.length:=List.countP_le_length;unfold Wi0;omega
def tr2(x:Rt):Int:=if x.tries<=2 then 786*(2-x.tries)else 0
def tr3(x:Rt):Int:=if x.tries<=3 then 786*(3-x.tries)else 0
def Bpt(p:Pg)(x:Rt):Int:=if x.phase=0 then tr3 x else if x.phase=8 then 0 else Wl p x+tr2 x
def KP(m:Mm)(p:Pg)(x:Rt)(K:Int):Prop:=(x.phase=0->494<=K)/\(x.phase≠0->Wl p x+494<=K\/(RGd m x/\WcT p x<=K))
def ex3(u:Int):Int:=if u>=3 then 808*(u-2)else 0
def ex4(u:Int):Int:=if u>=4 then 808*(u-3)else 0
def exD(u D:Int):Int:=if u>=3 then D else 0
structure Bd(s:Sc)(N:Int)(w:Wo):Prop where
 free:w.token=0->∀(r:Nat) (h:r<w.roots.length),w.roots[r].phase≠8->Bpt (WhN s r) w.roots[r]+495*Wi0 w.roots+ex3 (Wi0 w.roots)<=N
 held:∀(k:Nat) (h:k<w.roots.length),w.token=(k:Int)+1->∃K D:Int,KP w.mem (WhN s k) w.roots[k] K/\0<=D/\K<=N/\
  (∀(j:Nat) (h:j<w.roots.length),j≠k->1<=w.roots[j].phase->w.roots[j].phase<=7->Wl (WhN s j) w.roots[j]<=D)/\
  ∀(r:Nat) (h:r<w.roots.length),r≠k->w.roots[r].phase≠8->Bpt (WhN s r) w.roots[r]+K+exD (Wi0 w.roots) D+495*(Wi0 w.roots-1)+ex4 (Wi0 w.roots)<=N
theorem Wpq(hp:POk p)(hx:ROk p n x)(ht:RT x):0<=Bpt p x/\Bpt p x<=2380/\(x.phase=0->Bpt p x<=2358)/\(1<=x.phase->x.phase<=7->1<=Bpt p x):=by
 have h8:=WbV hp hx ht;have lK:=hx.tries;have aR:=hx.phase;unfold Bpt tr2 tr3;by_cases h0:x.phase=0
 .rw[if_pos h0];split<;>omega
 .rw[if_neg h0];by_cases mQ:x.phase=8
  .rw[if_pos mQ];omega
  .rw[if_neg mQ];have:=h8.2.2 (by omega);split<;>omega
theorem RJ.b{j:Nat}(h:RJ w p j x y)(hp:POk p)(hx:ROk p n x)(ht:RT x)(hw:w.token≠(j:Int)+1):Bpt p y<=Bpt p x/\(1<=x.phase->x.phase<=7->Bpt p y<Bpt p x)/\(y.phase=1->x.phase=0->Bpt p y<Bpt p x):=by
 have h8:=WbV hp hx ht;have lK:=hx.tries;have aR:=hx.phase;have e0:∀z:Rt,z.phase=0->Bpt p z=tr3 z:=λz h=>by unfold Bpt;rw[if_pos h]
 have e8:∀z:Rt,z.phase=8->Bpt p z=0:=λz h=>by unfold Bpt;rw[if_neg (by omega),if_pos h]
 have el:∀z:Rt,1<=z.phase->z.phase<=7->Bpt p z=Wl p z+tr2 z:=λz h h'=>by unfold Bpt;rw[if_neg (by omega),if_neg (by omega)]
 have wP:=(Wpq hp hx ht).1;by_cases h0:x.phase=0
 .rcases h.idle h0 with e|⟨e1,e2,e3,e4⟩
  .subst e;exact⟨Xp _,λh=>by omega,λh=>by omega⟩
  .rw[e0 x h0,el y (by omega) (by omega)];have:x.tries<3:=by omega
   unfold tr2 tr3;rw[e3];split<;>split<;>omega
 by_cases mQ:x.phase=8
 .have e:=h.done mQ;subst e;exact⟨Xp _,λ_ h=>by omega,λh=>by omega⟩
 .have hl:=h.live (by omega);have:=h8.2.2 (by omega);rw[el x (by omega) (by omega)];have uu:0<=tr2 x:=by unfold tr2;split<;>omega
  rcases hl with e|⟨e1,e2⟩|⟨e1,e2,e3⟩
  .rw[e8 y e];omega
  .rw[e0 y e1];have:tr3 y=tr2 x:=by unfold tr2 tr3;rw[e2];split<;>split<;>omega
   omega
  .rw[el y e1.1 e1.2];have:tr2 y=tr2 x:=by unfold tr2;rw[e2]
   omega
end
section
variable{s:Sc}{w v:Wo}{n m N:Int}{x y:Rt}{k i:Nat}{p:Pg}
theorem wpg(h:WI s n w){j:Nat}(hj:j<w.roots.length):POk (WhN s j)/\ROk (WhN s j) n w.roots[j]/\RT w.roots[j]:=
 ⟨Wf2 h.ok.progs (by rw[←h.ok.len];exact hj),h.ok.root j hj,h.wt.root j hj⟩
theorem Bd.round(h0:WI s n w)(hv:WI s m v)(hR:Rd s w v s.2.1.length)(hb:Bd s N w):Bd s (N-1) v:=by
 have Ak:=h0.ok.len;have aw:=hv.ok.len;have dD:∀{j:Nat},j<v.roots.length->j<w.roots.length:=λh=>by omega
 have Al:∀{j:Nat},j<w.roots.length->j<v.roots.length:=λh=>by omega
 have hJ:∀(j:Nat) (h:j<v.roots.length),RJ w (WhN s j) j (w.roots[j]'(dD h)) v.roots[j]:=λj h=>hR.did j (dD h) h (by omega);have eF:∀(j:Nat) (h:j<v.roots.length),v.roots[j].phase≠8->(w.roots[j]'(dD h)).phase≠8:=λj h hu hd=>hu (by rw[(hJ j h).done hd];exact hd);have nL:∀(j:Nat) (h:j<w.roots.length) (h':j<v.roots.length),WgH v.roots[j]=true->WgH w.roots[j]=true:=λj h h' hu=>by
  unfold WgH at hu⊢;simp only[decide_eq_true_eq]at hu⊢;exact eF j h' hu
 have Am:Wi0 v.roots<=Wi0 w.roots:=by have:=Wrd w.roots v.roots (by omega) nL;unfold Wi0;omega
 have wR:∀(k:Nat) (h:k<v.roots.length),(w.roots[k]'(dD h)).phase≠8->v.roots[k].phase=8->Wi0 v.roots+1<=Wi0 w.roots:=λk h a b=>by
  have:=WrV w.roots v.roots (by omega) nL k (dD h) h (by unfold WgH;simpa using a) (by unfold WgH;simpa using b);unfold Wi0;omega
 have q9:=WwH w.roots (by have:=h0.ok.l4;omega);have hcv0:=Wse v.roots;have hB:∀(j:Nat) (h:j<v.roots.length),w.token≠(j:Int)+1->Bpt (WhN s j) v.roots[j]<=Bpt (WhN s j) (w.roots[j]'(dD h))/\(1<=(w.roots[j]'(dD h)).phase->(w.roots[j]'(dD h)).phase<=7->Bpt (WhN s j) v.roots[j]<Bpt (WhN s j) (w.roots[j]'(dD h)))/\(v.roots[j].phase=1->(w.roots[j]'(dD h)).phase=0->Bpt (WhN s j) v.roots[j]<Bpt (WhN s j) (w.roots[j]'(dD h))):=λj h ht=>by
  obtain⟨a,b,c⟩:=wpg h0 (dD h);exact(hJ j h).b a b c ht
 have hB0:∀(j:Nat) (h:j<w.roots.length),0<=Bpt (WhN s j) w.roots[j]/\(1<=w.roots[j].phase->w.roots[j].phase<=7->1<=Bpt (WhN s j) w.roots[j]):=λj h=>by
  obtain⟨a,b,c⟩:=wpg h0 h;have:=Wpq a b c;exact⟨this.1,this.2.2.2⟩
 have iH:∀(j:Nat) (h:j<v.roots.length),Wl (WhN s j) v.roots[j]<=808:=λj h=>by
  obtain⟨a,b,c⟩:=wpg hv h;exact(WbV a b c).2.1
 have tE:∀(k:Nat) (h:k<v.roots.length),v.roots[k].phase=0->KP v.mem (WhN s k) v.roots[k] 494:=λk h hz=>⟨λ_=>Xp _,λh=>absurd hz h⟩;have aR:∀(j:Nat) (h:j<w.roots.length),0<=w.roots[j].phase/\w.roots[j].phase<=8:=λj h=>(h0.ok.root j h).phase;by_cases jA:w.token=0
 .have hF:=hb.free jA;rcases hR.tk0 jA with⟨a,b⟩|⟨k,hk,cy,_,a,b,c⟩
  .refine⟨λ_ r hr hu=>?_,λk hk nM=>by omega⟩;have h1:=hF r (dD hr) (eF r hr hu);obtain⟨g1,g2,g3⟩:=hB r hr (by omega);have hlt:Bpt (WhN s r) v.roots[r]<Bpt (WhN s r) (w.roots[r]'(dD hr)):=by
    by_cases hz:(w.roots[r]'(dD hr)).phase=0
    .exact g3 (b r (dD hr) hr (by omega) hz) hz
    .have:=aR r (dD hr);exact g2 (by omega) (by have:=eF r hr hu;omega)
   unfold ex3 at h1⊢;split at h1<;>split<;>omega
  .have ux:=hF k hk (by omega);have yc:=(hB0 k hk).1;have qR:=Wvg hk (show w.roots[k].phase≠8 by omega);refine⟨λhz=>by omega,λk' mL nM=>?_⟩;have:k'=k:=by omega
   subst this;refine⟨494,808,tE k' mL c,by omega,?_,λj hj _ _ _=>iH j hj,λr hr hne hu=>?_⟩
   .unfold ex3 at ux;split at ux<;>omega
   .have h1:=hF r (dD hr) (eF r hr hu);have g1:=(hB r hr (by omega)).1;unfold ex3 at h1;unfold exD ex4;split at h1<;>split<;>split<;>omega
 .obtain⟨k,hk,nK⟩:=h0.lx.tk.resolve_left jA;have lm:k<v.roots.length:=Al hk;obtain⟨K,D,hK,hD0,hKN,hD,hS⟩:=hb.held k hk nK;have li:w.roots[k].phase≠8:=((h0.lx.root k hk).tk nK).2;have hKP:=hJ k lm;rcases hR.tk1 k hk lm nK with⟨a,b,_,c⟩|⟨_,a1,a2,a3⟩
  .have tF:w.roots[k].phase≠0->1<=w.roots[k].phase/\w.roots[k].phase<=7:=λh=>by have:=aR k hk;omega
   obtain⟨c1,c2⟩:=c (by omega);have Ao:v.roots[k].phase≠8:=((hv.lx.root k lm).tk a).2;refine⟨λhz=>by omega,λk' mL nM=>?_⟩;have:k'=k:=by omega
   subst this;have hBr:∀(r:Nat) (h:r<v.roots.length),r≠k'->_:=λr h hne=>hB r h (by omega);by_cases cz:∃(j:Nat) (h:j<w.roots.length),j≠k'/\1<=w.roots[j].phase/\w.roots[j].phase<=7
   .obtain⟨j,hj,ee,j1,j7⟩:=cz;have hD1:1<=D:=by
     have h1:=hD j hj ee j1 j7;obtain⟨e1,e2,e3⟩:=wpg h0 hj;have:=(WbV e1 e2 e3).2.2 ⟨j1,j7⟩;omega
    have hz:w.roots[k'].phase=0:=by
     apply Classical.byContradiction;intro kr;rcases h0.tx.t2 k' hk nK kr j hj ee with e|e<;>omega
    have ub:2<=Wi0 w.roots:=Wvf hk hj (λe=>ee e.symm) (by omega) (by omega);have hSj:=hS j hj ee (by omega);have hBj:=(hB0 j hj).2 j1 j7;refine⟨K,D-1,?_,by omega,?_,λi hi lj i1 i7=>?_,λr hr hne hu=>?_⟩
    .have hK0:=hK.1 hz;rcases c1 hz with⟨e,_⟩|⟨e1,e2,e3⟩
     .rw[e];exact⟨λ_=>hK0,λh=>absurd hz h⟩
     .exact⟨λh=>by omega,λ_=>.inr ⟨e2,by omega⟩⟩
    .unfold exD ex4 at hSj;split at hSj<;>split at hSj<;>omega
    .have rj:i<w.roots.length:=dD hi;have hzi:w.roots[i].phase≠0:=λh=>by
      have:=b i rj hi lj h;rw[this]at i1;omega
     have h8i:w.roots[i].phase≠8:=eF i hi (by omega);have hp:=aR i rj;have hd:=hD i rj lj (by omega) (by omega);rcases(hJ i hi).live (by omega)with e|⟨e,_⟩|⟨_,_,e⟩
     .omega
     .omega
     .omega
    .have h1:=hS r (dD hr) hne (eF r hr hu);obtain⟨g1,g2,g3⟩:=hBr r hr hne;by_cases hrj:r=j
     .subst hrj;have:=g2 j1 j7;unfold exD ex4 at h1⊢;split at h1<;>split at h1<;>split<;>split<;>omega
     .have xo:=Wxf hk hj (dD hr) (λe=>ee e.symm) (λe=>hne e.symm) (λe=>hrj e.symm) li (by omega) (eF r hr hu);unfold exD ex4 at h1⊢;split at h1<;>split at h1<;>split<;>split<;>omega
   .have bZ:∀(j:Nat) (h:j<w.roots.length),j≠k'->w.roots[j].phase=0\/w.roots[j].phase=8:=λj h hne=>by
     have hp:=aR j h;by_cases h1:w.roots[j].phase=0\/w.roots[j].phase=8
     .exact h1
     .exact absurd ⟨j,h,hne,by omega,by omega⟩ cz
    refine⟨K-1,D,?_,hD0,by omega,λi hi lj i1 i7=>?_,λr hr hne hu=>?_⟩
    .by_cases hz:w.roots[k'].phase=0
     .have hK0:=hK.1 hz;rcases c1 hz with⟨_,e⟩|⟨e1,e2,e3⟩
      .exact absurd e cz
      .exact⟨λh=>by omega,λ_=>.inr ⟨e2,by omega⟩⟩
     .have gw:=hKP.live (tF hz);obtain⟨e1,e2,e3⟩:=wpg h0 hk;have h1:=(WbV e1 e2 e3).2.2 (tF hz);by_cases hg:RGd w.mem w.roots[k']
      .obtain⟨d1,d2⟩:=c2 hz hg;have hdp:=d1.ph;refine⟨λh=>by omega,λ_=>?_⟩;rcases hK.2 hz with jg|⟨_,jg⟩
       .rcases gw with e|⟨e,_⟩|⟨_,_,e⟩
        .omega
        .omega
        .exact .inl (by omega)
       .exact .inr ⟨d1,by omega⟩
      .have jg:=(hK.2 hz).resolve_right (λh=>hg h.1);rcases gw with e|⟨e,_⟩|⟨e0,_,e⟩
       .exact absurd e Ao
       .exact⟨λ_=>by omega,λh=>absurd e h⟩
       .exact⟨λh=>by omega,λ_=>.inl (by omega)⟩
    .exfalso;have rj:i<w.roots.length:=dD hi;rcases bZ i rj lj with e|e
     .have:=b i rj hi lj e;rw[this]at i1;omega
     .have:=(hJ i hi).done e;rw[this]at i7;omega
    .have h1:=hS r (dD hr) hne (eF r hr hu);have g1:=(hBr r hr hne).1;unfold exD ex4 at h1⊢;split at h1<;>split at h1<;>split<;>split<;>omega
  .have hK1:1<=K:=by
    obtain⟨e1,e2,e3⟩:=wpg h0 hk;have h1:=(WbV e1 e2 e3).1;rcases hK.2 a1 with h|⟨h,h'⟩
    .omega
    .have:=Wrv e1 e2 e3 h;omega
   have hcl:=wR k lm li a2;rcases a3 with a3|⟨j,hj,hj',_,ee,a4,a5,a6⟩
   .refine⟨λ_ r hr hu=>?_,λk' cy nM=>by omega⟩;have nG:r≠k:=λe=>by subst e;exact hu a2
    have h1:=hS r (dD hr) nG (eF r hr hu);have g1:=(hB r hr (by omega)).1;unfold exD ex4 at h1;unfold ex3;split at h1<;>split at h1<;>split<;>omega
   .refine⟨λhz=>by omega,λk' mL nM=>?_⟩;have:k'=j:=by omega
    subst this;have hSj:=hS k' hj ee a6;have hBj:=(hB0 k' hj).1;have ub:2<=Wi0 w.roots:=Wvf hk hj (λe=>ee e.symm) li a6;refine⟨494,808,tE k' mL a5,by omega,?_,λi hi _ _ _=>iH i hi,λr hr hne hu=>?_⟩
    .unfold exD ex4 at hSj;split at hSj<;>split at hSj<;>omega
    .have nG:r≠k:=λe=>by subst e;exact hu a2
     have h1:=hS r (dD hr) nG (eF r hr hu);have g1:=(hB r hr (by omega)).1;unfold exD ex4 at h1⊢;split at h1<;>split at h1<;>split<;>split<;>omega
theorem Bd.start(h0:WI s n w):Bd s 5976 w:=by
 have q9:=WwH w.roots (by have:=h0.ok.l4;have:=h0.ok.len;omega);have nX:=Wse w.roots;have hBd:∀(j:Nat) (h:j<w.roots.length),_:=λj h=>Wpq (wpg h0 h).1 (wpg h0 h).2.1 (wpg h0 h).2.2;have iH:∀(j:Nat) (h:j<w.roots.length),Wl (WhN s j) w.roots[j]<=808:=λj h=>(WbV (wpg h0 h).1 (wpg h0 h).2.1 (wpg h0 h).2.2).2.1;refine⟨λ_ r hr hu=>?_,λk hk nM=>?_⟩
 .have:=(hBd r hr).2.1;unfold ex3;split<;>omega
 .by_cases hz:w.roots[k].phase=0
  .refine⟨494,808,⟨λ_=>Xp _,λh=>absurd hz h⟩,by omega,by omega,λj hj _ _ _=>iH j hj,λr hr hne hu=>?_⟩;have:=(hBd r hr).2.1;unfold exD ex4;split<;>split<;>omega
  .have uF:=h0.tx.t2 k hk nM hz;refine⟨1302,0,⟨λh=>absurd h hz,λ_=>.inl (by have:=iH k hk;omega)⟩,by omega,by omega,λj hj hne j1 j7=>?_,λr hr hne hu=>?_⟩
   .rcases uF j hj hne with e|e<;>omega
   .have mc:w.roots[r].phase=0:=(uF r hr hne).resolve_right hu;have:=(hBd r hr).2.2.1 mc;unfold exD ex4;split<;>split<;>omega
theorem Bd.pos(h0:WI s n w)(hb:Bd s N w)(ho:WfO w≠true):1<=N:=by
 have vo:∃(r:Nat) (h:r<w.roots.length),w.roots[r].phase≠8:=by
  apply Classical.byContradiction;intro bZ;apply ho;unfold WfO;rw[Xae];intro z hz;obtain⟨j,hj,he⟩:=Xam hz;by_cases h8:z.phase=8
  .simpa using h8
  .exact absurd ⟨j,hj,by rw[he];exact h8⟩ bZ
 obtain⟨r,hr,hu⟩:=vo;have hBd:∀(j:Nat) (h:j<w.roots.length),_:=λj h=>Wpq (wpg h0 h).1 (wpg h0 h).2.1 (wpg h0 h).2.2;have qR:=Wvg hr hu;by_cases jA:w.token=0
 .have:=hb.free jA r hr hu;have h1:=(hBd r hr).1;unfold ex3 at this;split at this<;>omega
 .obtain⟨k,hk,nK⟩:=h0.lx.tk.resolve_left jA;obtain⟨K,D,hK,hD0,hKN,hD,hS⟩:=hb.held k hk nK;have:1<=K:=by
   by_cases hz:w.roots[k].phase=0
   .have:=hK.1 hz;omega
   .obtain⟨e1,e2,e3⟩:=wpg h0 hk;have h1:=(WbV e1 e2 e3).1;rcases hK.2 hz with h|⟨h,h'⟩
    .omega
    .have:=Wrv e1 e2 e3 h;omega
  omega
theorem WjQ:∀(d:Nat) (n:Int) (w:Wo),WI s n w->n+16*d<=99999->Bd s d w->WfO (WaM s d w).1=true/\(WaM s d w).2<=d/\∃m,WI s m (WaM s d w).1
 |0,n,w,h,hn,hb=>by
  have ho:WfO w=true:=by
   apply Classical.byContradiction;intro ho;have:=hb.pos h ho;omega
  rw[WaM];exact⟨ho,Xn _,n,h⟩
 |d+1,n,w,h,hn,hb=>by
  rw[WaM];by_cases ho:WfO w=true
  .rw[if_pos ho];exact⟨ho,Xbk _,n,h⟩
  .rw[if_neg ho];have kp:=h.ok.l4;obtain⟨hR,m,hm,hW⟩:=Wpw h s.2.1.length 0 n w (by omega) h (by omega) Rd.refl;have hb':=hb.round h hW hR;obtain⟨a,b,c⟩:=WjQ d m _ hW (by omega) (by rw[show(d:Int)=((d+1:Nat):Int) -1 by omega];exact hb');exact⟨a,by show _+1<=d+1;omega,c⟩
theorem Bd.mono(h:Bd s n w)(hN:n<=N):Bd s N w:=⟨λh0 r hr hu=>by have:=h.free h0 r hr hu;omega,λk hk nM=>by
 obtain⟨K,D,a,b,c,d,e⟩:=h.held k hk nM;exact⟨K,D,a,b,by omega,d,λr hr hne hu=>by have:=e r hr hne hu;omega⟩⟩
theorem Wty(aI:WjV s=true):WI s s.2.2.length (Wek s):=by
 have hN:=WiP aI;have hX:WX (Wee s):=WuR;have hL:=WsJ aI;have hT:WT (Wee s):=Wsn;have h:=WrH s.2.2 _ _ hN hX hL;exact⟨Wli aI,(Wml s.2.2 _ _ hN hX).1,h,Wsk s.2.2 _ _ hN hT,Wrz s.2.2 _ _ hN hX hL Wsd⟩
theorem Wqw(aI:WjV s=true):WfO (WaM s 6000 (Wek s)).1=true/\(WaM s 6000 (Wek s)).2<=6000/\∃m,WI s m (WaM s 6000 (Wek s)).1:=by
 obtain⟨h1,h2,h3,h4⟩:=WeH aI;have h:=Wty aI;exact WjQ 6000 _ _ h (by have:=h4;omega) ((Bd.start h).mono (by omega))
end
section
variable{s:Sc}{w v:Wo}{n m:Int}{x y:Rt}{k i:Nat}{p:Pg}{a:Ac}{N:Nat}{o:Opn}
theorem Wj6:∀(d j:Nat) (w:Wo),∃l:List Ac,l.length=d/\Wcv s k d j w=l.foldl (Wc4 s) w
 |0,_,w=>⟨[],rfl,rfl⟩
 |d+1,j,w=>by
  obtain⟨l,h,e⟩:=Wj6 d (j+1) (Wc4 s w (2,(k:Int),(j:Int)));exact⟨(2,(k:Int),(j:Int))::l,by simp[h],by rw[Wcv,e];rfl⟩
theorem Wh5:∀(d i:Nat) (w:Wo),(∀j:Nat,j<i+d->(s.2.1.getD j pg0).2.length<=3)->∃l:List Ac,l.length<=4*d/\WaP s d i w=l.foldl (Wc4 s) w
 |0,_,w,_=>⟨[],Xn _,rfl⟩
 |d+1,i,w,h=>by
  obtain⟨l1,h1,e1⟩:=Wj6 (s:=s) (k:=i) (s.2.1.getD i pg0).2.length 0 (Wc4 s w (1,(i:Int),0));obtain⟨l2,h2,e2⟩:=Wh5 d (i+1) (Wcv s i (s.2.1.getD i pg0).2.length 0 (Wc4 s w (1,(i:Int),0))) (λj hj=>h j (by omega));have h3:=h i (by omega);refine⟨(1,(i:Int),0)::l1++l2,by simp;omega,?_⟩;rw[WaP,e2,e1,List.cons_append,Xce,Xek]
theorem WiW(hl:s.2.1.length<=4)(h3:∀j:Nat,j<s.2.1.length->(s.2.1.getD j pg0).2.length<=3):∀(d:Nat) (w:Wo),∃l:List Ac,l.length<=16*d/\(WaM s d w).1=l.foldl (Wc4 s) w
 |0,w=>⟨[],Xbk _,rfl⟩
 |d+1,w=>by
  rw[WaM];split
  .exact⟨[],Xbk _,rfl⟩
  .obtain⟨l1,a1,e1⟩:=Wh5 s.2.1.length 0 w (λj hj=>h3 j (by omega));obtain⟨l2,a2,e2⟩:=WiW hl h3 d (WaP s s.2.1.length 0 w);refine⟨l1++l2,by simp;omega,?_⟩;show(WaM s d (WaP s s.2.1.length 0 w)).1=_;rw[e2,e1,Xek]
theorem WjT(aI:WjV s=true):∃l:List Ac,(s.2.2++l).length<=99999/\(WaM s 6000 (Wek s)).1=(s.2.2++l).foldl (Wc4 s) (Wee s):=by
 obtain⟨h1,h2,h3,h4⟩:=WeH aI;have hW:=Wli aI;obtain⟨l,a,e⟩:=WiW (s:=s) (by omega) (λj hj=>(Wf2 hW.progs hj).k3) 6000 (Wek s);refine⟨l,by simp;omega,?_⟩;rw[e,Xek];rfl
theorem WvJ(h8:x.phase≠8)(hz:(Wq w x k p).2.phase=8):(Wq w x k p).2.undos= []:=by
 unfold Wq at hz⊢;by_cases hd:x.doomed=true/\1<=x.phase/\x.phase<=4
 .rw[if_pos hd]at hz;exact absurd (show(6:Int)=8 from hz) (by omega)
 rw[if_neg hd]at hz⊢;have cf:∀z:Rt,(Wy z).phase≠8:=λz=>WcW.2.2;by_cases h0:x.phase=0
 .rw[if_pos h0]at hz;have:(Wc9 w x k).2.phase≠8:=by
   unfold Wc9;split
   .exact h8
   .split
    .exact h8
    .split
     .exact h8
     .show(1:Int)≠8;omega
  exact absurd hz this
 rw[if_neg h0]at hz⊢;by_cases h1:x.phase=1
 .rw[if_pos h1]at hz⊢;have cl:∀out,(W6 w x k out).2.phase=8->(W6 w x k out).2.undos= []:=λout=>by
   unfold W6;simp only;generalize (if out=2 then []else x.writes)=rows;split
   .exactλ_=>rfl
   .intro h;exact absurd (show(5:Int)=8 from h) (by omega)
  revert hz;unfold Wdx;split
  .exact cl _
  .simp only;generalize opN p.1 x.pc=o;split
   .intro h;exact absurd h (WlE h1).2.2
   .split
    .unfold WbL;split
     .exact cl _
     .split
      .intro h;exact absurd h h8
      .intro h;exact absurd h h8
    .split
     .intro h;exact absurd (show(2:Int)=8 from h) (by omega)
     .split
      .unfold Wbs;cases WaT w.holds ((k:Int)+1) (WaC o).1 (WaC o).2 with
       |none=>intro h;exact absurd h (cf _)
       |some hs=>intro h;exact absurd h h8
      .repeat' split
       all_goals(intro h;exact absurd h h8)
 rw[if_neg h1]at hz⊢;by_cases h2:x.phase=2
 .rw[if_pos h2]at hz;have:(WbN x).phase≠8:=by
   unfold WbN;split
   .show(6:Int)≠8;omega
   .split
    .show(1:Int)≠8;omega
    .exact h8
  exact absurd hz this
 rw[if_neg h2]at hz⊢;by_cases h3:x.phase=3
 .rw[if_pos h3]at hz;have:(WaR w x).2.phase≠8:=by
   unfold WaR;split
   .exact h8
   .show(4:Int)≠8;omega
  exact absurd hz this
 rw[if_neg h3]at hz⊢;by_cases h4:x.phase=4
 .rw[if_pos h4]at hz;have:(Waz w x).phase≠8:=by
   unfold Waz;simp only;split
   .split
    .show(6:Int)≠8;omega
    .exact h8
   .show(1:Int)≠8;omega
  exact absurd hz this
 rw[if_neg h4]at hz⊢;by_cases h5:x.phase=5
 .rw[if_pos h5]at hz;have:(W4 w x k).2.phase≠8:=by
   unfold W4;split
   .simp only;split
    .show(6:Int)≠8;omega
    .exact h8
   .show(Wab {x with cm:=(Wi w.mem x.cm).2}).phase≠8;unfold Wab;split
    .show(6:Int)≠8;omega
    .split
     .show(if x.fate=2 then(6:Int)else 7)≠8;split<;>omega
     .exact h8
  exact absurd hz this
 rw[if_neg h5]at hz⊢;by_cases h6:x.phase=6
 .rw[if_pos h6]at hz;split at hz
  .exact absurd hz h8
  .exact absurd (show(7:Int)=8 from hz) (by omega)
 rw[if_neg h6]at hz⊢;by_cases h7:x.phase=7
 .rw[if_pos h7]at hz⊢;split at hz
  .exact absurd (show(0:Int)=8 from hz) (by omega)
  .rw[if_neg ‹_›];rfl
 .rw[if_neg h7]at hz;exact absurd hz h8
def DX(w:Wo):Prop:=∀(k:Nat) (h:k<w.roots.length),w.roots[k].phase=8->w.roots[k].undos= []
theorem WqX{q:Wo×Rt}{w0:Wo}(hx:DX w0)(hr:q.1.roots=w0.roots)(hq:q.2.phase=8->q.2.undos= []):DX (Wo.put q k):=λi hi=>by
 change i<(q.1.roots.set k q.2).length at hi;have d9:i<w0.roots.length:=by rw[Xad,hr]at hi;exact hi
 show((q.1.roots.set k q.2)[i]'hi).phase=8->((q.1.roots.set k q.2)[i]'hi).undos= [];rw[Xao];split
 .exact hq
 .simp only[hr];exact hx i d9
theorem Wvv(h:WOk s.2.1 n w)(hx:DX w):DX (Wc4 s w a):=by
 have cA:DX {w with now:=w.now+1}:=hx;unfold Wc4;simp only;split
 .rename_i hb;have hk:a.2.1.toNat<w.roots.length:=by omega
  rw[Wf hk];split
  .unfold Wh6;rw[Wf (show a.2.1.toNat<({w with now:=w.now+1}:Wo).roots.length from hk)];refine WqX (w0:={w with now:=w.now+1}) cA (Whg h hk) λhz=>?_;by_cases h8:w.roots[a.2.1.toNat].phase=8
   .have:=(WkB (w:={w with now:=w.now+1}) (x:=w.roots[a.2.1.toNat]) (k:=a.2.1.toNat) (p:=s.2.1.getD a.2.1.toNat pg0)).done h8;change (Wq {w with now:=w.now+1} w.roots[a.2.1.toNat] a.2.1.toNat (s.2.1.getD a.2.1.toNat pg0)).2.undos= [];rw[this];exact hx _ hk h8
   .exact WvJ h8 hz
  .split
   .split
    .exact WqX (w0:={w with now:=w.now+1}) cA rfl (λhz=>hx _ hk hz)
    .exact cA
   .split
    .split
     .exact WqX (w0:={w with now:=w.now+1}) cA rfl (λhz=>hx _ hk hz)
     .exact cA
    .exact cA
 .exact cA
theorem Wq8:∀(l:List Ac) (n:Int) (w:Wo),WOk s.2.1 n w->DX w->DX (l.foldl (Wc4 s) w)
 | [],n,w,h,hx=>hx
 |a::l,n,w,h,hx=>Wq8 l (n+1) _ (Wcy (a:=a) h) (Wvv (a:=a) h hx)
structure Rest(w:Wo):Prop where
 done:∀x∈w.roots,x.phase=8
 mem:WY w.mem=true
 own:∀c∈w.mem.2,c.2.2=0
 holds:w.holds= []
 token:w.token=0
 undos:∀x∈w.roots,x.undos= []
theorem WvP(h:WI s n w)(hd:DX w)(ho:WfO w=true):Rest w:=by
 have h8:∀(k:Nat) (h:k<w.roots.length),w.roots[k].phase=8:=λk hk=>by
  unfold WfO at ho;rw[Xae]at ho;simpa using ho _ (Xq hk)
 have mQ:∀x∈w.roots,x.phase=8:=λx hx=>by
  obtain⟨j,hj,e⟩:=Xam hx;rw[←e];exact h8 j hj
 obtain⟨m8,_,_,_⟩:=Wt h.ok.mem;refine⟨mQ,h.ok.mem,λc hc=>?_,?_,?_,λx hx=>?_⟩
 .obtain⟨j,hj,e⟩:=Xam hc;have qx:owner w.mem (j:Int)=w.mem.2[j].2.2:=by unfold owner Wg Wbi;rw[Xj,Wf hj]
  rw[←e,←qx];rcases h.lx.ow (j:Int) (by omega) (by omega)with e|⟨k,hk,e⟩
  .exact e
  .exact absurd e ((h.lx.root k hk).no (by rw[h8 k hk];omega) (j:Int) (by omega) (by omega))
 .cases hh:w.holds with
  |nil=>rfl
  |cons e l=>
   obtain⟨k,hk,e1⟩:=h.lx.hd e (by rw[hh];exact Xi ..);exact absurd (h8 k hk) ((h.lx.root k hk).hd e (by rw[hh];exact Xi ..) e1).2
 .rcases h.lx.tk with e|⟨k,hk,e⟩
  .exact e
  .exact absurd (h8 k hk) ((h.lx.root k hk).tk e).2
 .obtain⟨j,hj,e⟩:=Xam hx;rw[←e];exact hd j hj (h8 j hj)
theorem Wqy(aI:WjV s=true):Rest (WaM s 6000 (Wek s)).1/\WfO (WaM s 6000 (Wek s)).1=true/\(WaM s 6000 (Wek s)).2<=6000/\∃m,WI s m (WaM s 6000 (Wek s)).1:=by
 obtain⟨a,b,m,c⟩:=Wqw aI;obtain⟨l,_,e⟩:=WjT aI;have hd:DX (WaM s 6000 (Wek s)).1:=by
  rw[e];exact Wq8 _ 0 _ (WiP aI) λk h h8=>by simp[Wee]
 exact⟨WvP c hd a,a,b,m,c⟩
end
section
def pick(l:List Rw)(i:Int):Option Int:=(l.find? λr=>decide (r.1=i)).map (·.2)
def WhI(i v:Int)(r:Int×Int)(h:Wr):Int×Int:=match pick h.2.2 i with
 |some x=>if h.1<=v/\r.1<h.1 then(h.1,x)else r
 |none=>r
def bst(b i v:Int)(H:List Wr):Int×Int:=H.foldl (WhI i v) (0,b)
def top(b i:Int)(H:List Wr):Int×Int:=bst b i 2000000 H
section
variable{b i v v':Int}{H:List Wr}{h:Wr}{l:List Rw}
theorem Wla:bst b i v (H++ [h])=WhI i v (bst b i v H) h:=by unfold bst;rw[Xek];rfl
theorem Wjt(r:Int×Int):WhI i v r h=r\/(∃x,pick h.2.2 i=some x/\h.1<=v/\r.1<h.1/\WhI i v r h=(h.1,x)):=by
 unfold WhI;cases hp:pick h.2.2 i with
 |none=>exact .inl rfl
 |some x=>
  simp only;split
  .rename_i hc;exact .inr ⟨x,rfl,hc.1,hc.2,rfl⟩
  .exact .inl rfl
theorem Wwm(hv:0<=v):0<=(bst b i v H).1/\(bst b i v H).1<=v/\((bst b i v H).1=0\/∃h∈H,h.1=(bst b i v H).1):=by
 have key:∀(l:List Wr) (r:Int×Int),0<=r.1->r.1<=v->0<=(l.foldl (WhI i v) r).1/\(l.foldl (WhI i v) r).1<=v/\((l.foldl (WhI i v) r).1=r.1\/∃h∈l,h.1=(l.foldl (WhI i v) r).1):=by
  intro l
  induction l with
  |nil=>intro r h0 h1;exact⟨h0,h1,.inl rfl⟩
  |cons h l ih=>
   intro r h0 h1;rw[Xce];rcases Wjt (i:=i) (v:=v) (h:=h) r with e|⟨x,_,e1,e2,e3⟩
   .rw[e];obtain⟨a,c,d⟩:=ih r h0 h1;refine⟨a,c,d.imp_right λ⟨g,hg,e⟩=>⟨g,Xe _ hg,e⟩⟩
   .rw[e3];obtain⟨a,c,d⟩:=ih (h.1,x) (by show 0<=h.1;omega) e1;refine⟨a,c,.inr ?_⟩;rcases d with d|⟨g,hg,e⟩
    .exact⟨h,Xi ..,d.symm⟩
    .exact⟨g,Xe _ hg,e⟩
 exact key H (0,b) (Xp _) hv
theorem Wlm(hv:v<=v'):∀(H:List Wr),(bst b i v' H).1<=v->bst b i v H=bst b i v' H:=by
 have key:∀(l:List Wr) (r r':Int×Int),(r.1<=r'.1)->(r'.1<=v->r=r')->(l.foldl (WhI i v') r').1<=v->l.foldl (WhI i v) r=l.foldl (WhI i v') r':=by
  intro l
  induction l with
  |nil=>intro r r' _ h hle;exact h hle
  |cons h l ih=>
   intro r r' h1 h2 hle;rw[Xce,Xce];rw[Xce]at hle;refine ih _ _ ?_ ?_ hle
   .unfold WhI;cases pick h.2.2 i with
    |none=>exact h1
    |some x=>
     simp only;split<;>split<;>(try simp only)<;>omega
   .unfold WhI;cases pick h.2.2 i with
    |none=>exact h2
    |some x=>
     simp only;intro hle;split at hle
     .rename_i hc;simp only at hle;rw[if_pos hc,if_pos ⟨hle,by omega⟩]
     .rename_i hc;rw[if_neg hc,if_neg (by have:=h2 hle;rw[this];intro hz;exact hc ⟨by omega,hz.2⟩)];exact h2 hle
 intro H hle;exact key H (0,b) (0,b) (Xp _) (λ_=>rfl) hle
theorem WhL{x:Int}(h:pick l i=some x):(i,x)∈l:=by
 unfold pick at h;cases hf:l.find? λr=>decide (r.1=i)with
 |none=>rw[hf]at h;cases h
 |some r=>
  rw[hf]at h;have h1:=List.find?_some hf;have h2:=List.mem_of_find?_eq_some hf;simp only[decide_eq_true_eq]at h1;cases h;obtain⟨a,d⟩:=r;simp only at h1;subst h1;exact h2
structure CmR(c:Cm):Prop where
 rows:Wi1 c.puts
 pup:c.puts.Pairwise λa b=>a.1<b.1
theorem CmOk.r{c:Cm}(h:CmOk c):CmR c:=⟨h.rows,h.pup⟩
theorem CmR.inj{c:Cm}(h:CmR c){a b:Nat}(ha:a<c.puts.length)(hb:b<c.puts.length)(e:c.puts[a].1=c.puts[b].1):a=b:=by
 have hp:=List.pairwise_iff_getElem.1 h.pup;rcases Nat.lt_trichotomy a b with h1|h1|h1
 .have:=hp a b ha hb h1;omega
 .exact h1
 .have:=hp b a hb ha h1;omega
theorem Wvd{c:Cm}(h:CmR c){j:Nat}(hj:j<c.puts.length):pick c.puts c.puts[j].1=some c.puts[j].2:=by
 cases hp:pick c.puts c.puts[j].1 with
 |none=>
  unfold pick at hp;rw[Option.map_eq_none_iff,List.find?_eq_none]at hp;exact absurd (by simp) (hp _ (Xq hj))
 |some x=>
  obtain⟨l,hl,e⟩:=Xam (WhL hp);have:=h.inj hl hj (by rw[e]);subst this;rw[e]
end
structure MI(b:Int->Int)(m:Mm)(H:List Wr)(C:Nat->Option Cm):Prop where
 st:∀h∈H,1<=h.1/\h.1<=m.1
 fr:∀k c,C k=some c->c.phase=3->1<=c.wv/\c.wv<=m.1/\∀h∈H,h.1≠c.wv
 fr2:∀k k' c c',k≠k'->C k=some c->C k'=some c'->c.phase=3->c'.phase=3->c.wv≠c'.wv
 cell:∀i,0<=i->i<=7->(∀k c,C k=some c->c.phase=4\/c.phase=5->¬lkd c i)->(Wg m i).1=(top (b i) i H).2/\(Wg m i).2.1=(top (b i) i H).1
 sto:∀k c,C k=some c->c.phase=4\/c.phase=5->∀(j:Nat) (hj:j<c.puts.length),lkA c j->top (b c.puts[j].1) c.puts[j].1 H=(c.wv,c.puts[j].2)/\(Wg m c.puts[j].1).2.1<c.wv/\(c.phase=5\/(j:Int)<c.pos->(Wg m c.puts[j].1).1=c.puts[j].2)
def CL2(m:Mm)(C:Nat->Option Cm):Prop:=∀k c,C k=some c->CmR c/\c.who=(k:Int)+1/\CmLk m c
structure RC(b:Int->Int)(m:Mm)(H:List Wr)(C:Nat->Option Cm)(v i x:Int):Prop where
 val:x=(bst (b i) i v H).2
 clk:v<=m.1
 no:∀k c,C k=some c->c.phase=3->c.wv<=v->pick c.puts i=none
def Wdm(C:Nat->Option Cm)(k:Nat)(o:Option Cm):Nat->Option Cm:=λj=>if j=k then o else C j
section
variable{b:Int->Int}{m m':Mm}{H:List Wr}{C:Nat->Option Cm}{k:Nat}{c c':Cm}{o:Option Cm}{v i x:Int}
theorem WaB:Wdm C k o k=o:=if_pos rfl
theorem WU{j:Nat}(h:j≠k):Wdm C k o j=C j:=if_neg h
theorem MI.k1(h:MI b m H C)(hc:∀c,C k=some c->c.phase≠4/\c.phase≠5)(ho:∀c',o=some c'->c'.phase≠3/\c'.phase≠4/\c'.phase≠5)
  (h1:m'.1=m.1) (hm:∀i,0<=i->i<=7->(Wg m' i).1=(Wg m i).1/\(Wg m' i).2.1=(Wg m i).2.1) (hr:∀k c,C k=some c->CmR c):MI b m' H (Wdm C k o):=by
 have key:∀j d,Wdm C k o j=some d->d.phase=3\/d.phase=4\/d.phase=5->j≠k/\C j=some d:=λj d hj hp=>by
  by_cases e:j=k
  .subst e;rw[WaB]at hj;have:=ho d hj;omega
  .rw[WU e]at hj;exact⟨e,hj⟩
 refine⟨λg hg=>by rw[h1];exact h.st g hg,λj d hj h3=>?_,λj j' d d' hne hj hj' h3 cS=>?_,λi h0 h7 bZ=>?_,λj d hj hp l hl ha=>?_⟩
 .rw[h1];exact h.fr j d (key j d hj (.inl h3)).2 h3
 .exact h.fr2 j j' d d' hne (key j d hj (.inl h3)).2 (key j' d' hj' (.inl cS)).2 h3 cS
 .obtain⟨e1,e2⟩:=hm i h0 h7;rw[e1,e2];refine h.cell i h0 h7 λj d hj hp=>?_;by_cases e:j=k
  .subst e;have:=hc d hj;omega
  .exact bZ j d (by rw[WU e];exact hj) hp
 .have hk:=(key j d hj (.inr hp)).2;have hrow:=(hr j d hk).rows _ (Xq hl);obtain⟨e1,e2⟩:=hm _ hrow.1.1 hrow.1.2;rw[e1,e2];exact h.sto j d hk hp l hl ha
theorem RC.k1(h:RC b m H C v i x)(ho:∀c',o=some c'->c'.phase≠3)(h1:m'.1=m.1):RC b m' H (Wdm C k o) v i x:=
 ⟨h.val,by rw[h1];exact h.clk,λj d hj h3 hw=>by
  by_cases e:j=k
  .subst e;rw[WaB]at hj;exact absurd h3 (ho d hj)
  .rw[WU e]at hj;exact h.no j d hj h3 hw⟩
theorem MI.k2(h:MI b m H C)(hc:C k=some c)(h2:c.phase=2)(h3:c'.phase=3)(hw:c'.wv=m.1+1)(h0:0<=m.1):MI b (m.1+1,m.2) H (Wdm C k (some c')):=by
 have an:∀i,Wg (m.1+1,m.2) i=Wg m i:=λ_=>rfl;refine⟨λg hg=>by have:=h.st g hg;show 1<=g.1/\g.1<=m.1+1;omega,λj d hj cS=>?_,λj j' d d' hne hj hj' h3 cS=>?_,λi h0 h7 bZ=>?_,λj d hj hp l hl ha=>?_⟩
 .by_cases e:j=k
  .subst e;rw[WaB]at hj;cases hj;refine⟨by omega,by show c'.wv<=m.1+1;omega,λg hg=>by have:=h.st g hg;omega⟩
  .rw[WU e]at hj;have:=h.fr j d hj cS;exact⟨this.1,by show d.wv<=m.1+1;omega,this.2.2⟩
 .have w1:∀j d,Wdm C k (some c') j=some d->d.phase=3->j≠k->d.wv<=m.1:=λj d hj h3 e=>by
   rw[WU e]at hj;exact(h.fr j d hj h3).2.1
  by_cases e:j=k
  .have e':j'≠k:=λz=>hne (e.trans z.symm);have:=w1 j' d' hj' cS e';subst e;rw[WaB]at hj;cases hj;omega
  .by_cases e':j'=k
   .have:=w1 j d hj h3 e;subst e';rw[WaB]at hj';cases hj';omega
   .rw[WU e]at hj;rw[WU e']at hj';exact h.fr2 j j' d d' hne hj hj' h3 cS
 .rw[an];refine h.cell i h0 h7 λj d hj hp=>?_;by_cases e:j=k
  .subst e;rw[hc]at hj;cases hj;omega
  .exact bZ j d (by rw[WU e];exact hj) hp
 .by_cases e:j=k
  .subst e;rw[WaB]at hj;cases hj;omega
  .rw[WU e]at hj;rw[an];exact h.sto j d hj hp l hl ha
theorem RC.k2(h:RC b m H C v i x)(hw:c'.wv=m.1+1):RC b (m.1+1,m.2) H (Wdm C k (some c')) v i x:=
 ⟨h.val,by have:=h.clk;show v<=m.1+1;omega,λj d hj h3 hv=>by
  by_cases e:j=k
  .subst e;rw[WaB]at hj;cases hj;have:=h.clk;omega
  .rw[WU e]at hj;exact h.no j d hj h3 hv⟩
theorem MI.k3(h:MI b m H C)(hc:C k=some c)(h2:c.phase=3)(h3:c'.phase=3)(hw:c'.wv=c.wv):MI b m H (Wdm C k (some c')):=by
 refine⟨h.st,λj d hj cS=>?_,λj j' d d' hne hj hj' h3 cS=>?_,λi h0 h7 bZ=>?_,λj d hj hp l hl ha=>?_⟩
 .by_cases e:j=k
  .subst e;rw[WaB]at hj;cases hj;rw[hw];exact h.fr j c hc h2
  .rw[WU e]at hj;exact h.fr j d hj cS
 .by_cases e:j=k
  .have e':j'≠k:=λz=>hne (e.trans z.symm);rw[WU e']at hj';subst e;rw[WaB]at hj;cases hj;rw[hw];exact h.fr2 j j' c d' hne hc hj' h2 cS
  .rw[WU e]at hj;by_cases e':j'=k
   .subst e';rw[WaB]at hj';cases hj';rw[hw];exact h.fr2 j j' d c hne hj hc h3 h2
   .rw[WU e']at hj';exact h.fr2 j j' d d' hne hj hj' h3 cS
 .refine h.cell i h0 h7 λj d hj hp=>?_;by_cases e:j=k
  .subst e;rw[hc]at hj;cases hj;omega
  .exact bZ j d (by rw[WU e];exact hj) hp
 .by_cases e:j=k
  .subst e;rw[WaB]at hj;cases hj;omega
  .rw[WU e]at hj;exact h.sto j d hj hp l hl ha
theorem RC.k3(h:RC b m H C v i x)(hc:C k=some c)(h2:c.phase=3)(hw:c'.wv=c.wv)(hp:c'.puts=c.puts):RC b m H (Wdm C k (some c')) v i x:=
 ⟨h.val,h.clk,λj d hj h3 hv=>by
  by_cases e:j=k
  .subst e;rw[WaB]at hj;cases hj;rw[hp];exact h.no j c hc h2 (by omega)
  .rw[WU e]at hj;exact h.no j d hj h3 hv⟩
theorem MI.k4(h:MI b m H C)(hl:CL2 m C)(hm:m.1<=1000000)(hc:C k=some c)(h2:c.phase=3)(h3:c'.phase=4)(gu:c'.pos=0)(hw:c'.wv=c.wv)(hp:c'.puts=c.puts){who:Int}:MI b m (H++ [(c.wv,who,c.puts)]) (Wdm C k (some c')):=by
 obtain⟨ok,fY,gL⟩:=hl k c hc;obtain⟨f1,f2,f3⟩:=h.fr k c hc h2;have fX:∀l:Nat,lkA c l:=λl=>by unfold lkA;omega
 have bZ:∀i,0<=i->i<=7->(∃(j:Nat) (hj:j<c.puts.length),c.puts[j].1=i)->∀j d,C j=some d->d.phase=4\/d.phase=5->¬lkd d i:=λi h0 h7 ⟨l,bH,e⟩ j d hj jB fZ=>by
  obtain⟨yv,tG,jC⟩:=hl j d hj;have o1:=(gL.own i h0 h7).2 ⟨l,bH,e,fX l⟩;have o2:=(jC.own i h0 h7).2 fZ;have:j=k:=by omega
  subst this;rw[hc]at hj;cases hj;omega
 have tH:∀i,pick c.puts i=none->top (b i) i (H++ [(c.wv,who,c.puts)])=top (b i) i H:=λi hn=>by
  unfold top;rw[Wla];unfold WhI;simp only[hn]
 have tI:∀(l:Nat) (hl:l<c.puts.length),(Wg m c.puts[l].1).2.1<c.wv/\top (b c.puts[l].1) c.puts[l].1 (H++ [(c.wv,who,c.puts)])=(c.wv,c.puts[l].2):=λl bH=>by
  have hrow:=(ok.rows _ (Xq bH)).1;obtain⟨c1,c2⟩:=h.cell _ hrow.1 hrow.2 (bZ _ hrow.1 hrow.2 ⟨l,bH,rfl⟩);have hv:=(gL.ver (.inl h2)).2 c.puts[l].1 ⟨l,bH,rfl,fX l⟩;have hb:=(Wwm (b:=b c.puts[l].1) (i:=c.puts[l].1) (v:=2000000) (H:=H) (by omega)).2.2;have hlt:(top (b c.puts[l].1) c.puts[l].1 H).1<c.wv:=by
   unfold top at c2⊢;rcases hb with e|⟨g,hg,e⟩
   .omega
   .have:=f3 g hg;omega
  refine⟨by omega,?_⟩;unfold top at hlt⊢;rw[Wla];unfold WhI;simp only[Wvd ok bH];rw[if_pos ⟨by omega,hlt⟩]
 have nN:∀i x,pick c.puts i=some x->∃(j:Nat) (hj:j<c.puts.length),c.puts[j].1=i:=λi x hx=>by
  obtain⟨l,hl,e⟩:=Xam (WhL hx);exact⟨l,hl,by rw[e]⟩
 refine⟨λg hg=>?_,λj d hj cS=>?_,λj j' d d' hne hj hj' h3 cS=>?_,λi h0 h7 hn=>?_,λj d hj jB l bH ha=>?_⟩
 .rcases Xm.1 hg with hg|hg
  .exact h.st g hg
  .rw[Xz]at hg;subst hg;exact⟨f1,f2⟩
 .by_cases e:j=k
  .subst e;rw[WaB]at hj;cases hj;omega
  .rw[WU e]at hj;obtain⟨g1,g2,g3⟩:=h.fr j d hj cS;refine⟨g1,g2,λg hg=>?_⟩;rcases Xm.1 hg with hg|hg
   .exact g3 g hg
   .rw[Xz]at hg;subst hg;exact h.fr2 k j c d (λz=>e z.symm) hc hj h2 cS
 .by_cases e:j=k
  .subst e;rw[WaB]at hj;cases hj;omega
  .rw[WU e]at hj;by_cases e':j'=k
   .subst e';rw[WaB]at hj';cases hj';omega
   .rw[WU e']at hj';exact h.fr2 j j' d d' hne hj hj' h3 cS
 .have re:pick c.puts i=none:=by
   cases hx:pick c.puts i with
   |none=>rfl
   |some x=>
    obtain⟨l,bH,e⟩:=nN i x hx;refine absurd ⟨l,by rw[hp];exact bH,by simp only[hp];exact e,?_⟩ (hn k c' WaB (.inl h3));unfold lkA;omega
  rw[tH i re];refine h.cell i h0 h7 λj d hj jB=>?_;by_cases e:j=k
  .subst e;rw[hc]at hj;cases hj;omega
  .exact hn j d (by rw[WU e];exact hj) jB
 .by_cases e:j=k
  .subst e;rw[WaB]at hj;cases hj;have eZ:l<c.puts.length:=by rw[←hp];exact bH
   obtain⟨t1,t2⟩:=tI l eZ;simp only[hp,hw];exact⟨t2,t1,λhz=>by omega⟩
  .rw[WU e]at hj;obtain⟨yv,tG,jC⟩:=hl j d hj;have hrow:=(yv.rows _ (Xq bH)).1;have re:pick c.puts d.puts[l].1=none:=by
    cases hx:pick c.puts d.puts[l].1 with
    |none=>rfl
    |some x=>
     obtain⟨l2,eZ,e2⟩:=nN _ x hx;exact absurd ⟨l,bH,rfl,ha⟩ (bZ d.puts[l].1 hrow.1 hrow.2 ⟨l2,eZ,e2⟩ j d hj jB)
   rw[tH _ re];exact h.sto j d hj jB l bH ha
theorem RC.k4(h:RC b m H C v i x)(hc:C k=some c)(h2:c.phase=3)(h3:c'.phase=4){who:Int}:RC b m (H++ [(c.wv,who,c.puts)]) (Wdm C k (some c')) v i x:=by
 refine⟨?_,h.clk,λj d hj cS hv=>?_⟩
 .rw[Wla,h.val];unfold WhI;by_cases hv:c.wv<=v
  .simp only[h.no k c hc h2 hv]
  .cases pick c.puts i with
   |none=>rfl
   |some y=>simp only;rw[if_neg (λhz=>hv hz.1)]
 .by_cases e:j=k
  .subst e;rw[WaB]at hj;cases hj;omega
  .rw[WU e]at hj;exact h.no j d hj cS hv
theorem MI.k5(h:MI b m H C)(hl:CL2 m C)(hm:WY m=true)(hc:C k=some c)(h4:c.phase=4){j:Nat}(hj:j<c.puts.length)(hpos:c.pos=j)(hp:c'.puts=c.puts)(hw:c'.wv=c.wv)(aR:c'.phase=4/\c'.pos=j+1\/c'.phase=5/\c'.pos=0/\j+1=c.puts.length):
  MI b (Wb1 m c.puts[j].1 c.who c.puts[j].2) H (Wdm C k (some c')):=by
 obtain⟨ok,fY,gL⟩:=hl k c hc;have fX:∀l:Nat,lkA c l:=λl=>by unfold lkA;omega
 have nO:∀l:Nat,lkA c' l:=λl=>by unfold lkA;omega
 have hrow:=(ok.rows _ (Xq hj)).1;have hown:=(gL.own _ hrow.1 hrow.2).2 ⟨j,hj,rfl,fX j⟩;have ay:Wb1 m c.puts[j].1 c.who c.puts[j].2=Wnr m c.puts[j].1 (c.puts[j].2,(Wg m c.puts[j].1).2):=by
  unfold Wb1;rw[if_pos (show(Wg m c.puts[j].1).2.2=c.who from hown)]
 rw[ay];have an:∀i,0<=i->i<=7->Wg (Wnr m c.puts[j].1 (c.puts[j].2,(Wg m c.puts[j].1).2)) i=if i=c.puts[j].1 then(c.puts[j].2,(Wg m c.puts[j].1).2)else Wg m i:=λi h0 h7=>Wbl hm hrow ⟨h0,h7⟩;have qz:∀l d,l≠k->C l=some d->∀(a:Nat) (ha:a<d.puts.length),lkA d a->d.puts[a].1≠c.puts[j].1:=λl d hne hd a ha lN he=>by
  obtain⟨Aq,tJ,jC⟩:=hl l d hd;have:=(jC.own _ hrow.1 hrow.2).2 ⟨a,ha,he,lN⟩;omega
 refine⟨h.st,λl d hd cS=>?_,λl l' d d' hne hd cO h3 cS=>?_,λi h0 h7 hn=>?_,λl d hd jB a ha lN=>?_⟩
 .by_cases e:l=k
  .subst e;rw[WaB]at hd;cases hd;omega
  .rw[WU e]at hd;exact h.fr l d hd cS
 .by_cases e:l=k
  .subst e;rw[WaB]at hd;cases hd;omega
  .rw[WU e]at hd;by_cases e':l'=k
   .subst e';rw[WaB]at cO;cases cO;omega
   .rw[WU e']at cO;exact h.fr2 l l' d d' hne hd cO h3 cS
 .have ve:i≠c.puts[j].1:=λhe=>hn k c' WaB (by omega) ⟨j,by rw[hp];exact hj,by simp only[hp];exact he.symm,nO j⟩;rw[an i h0 h7,if_neg ve];refine h.cell i h0 h7 λl d hd jB fZ=>?_;by_cases e:l=k
  .subst e;rw[hc]at hd;cases hd;obtain⟨a,ha,e1,e2⟩:=fZ;exact hn l c' WaB (by omega) ⟨a,by rw[hp];exact ha,by simp only[hp];exact e1,nO a⟩
  .exact hn l d (by rw[WU e];exact hd) jB fZ
 .by_cases e:l=k
  .subst e;rw[WaB]at hd;cases hd;have lA:a<c.puts.length:=by rw[←hp];exact ha
   obtain⟨s1,s2,s3⟩:=h.sto l c hc (.inl h4) a lA (fX a);have ln:=(ok.rows _ (Xq lA)).1;simp only[hp,hw];rw[an _ ln.1 ln.2];by_cases haj:c.puts[a].1=c.puts[j].1
   .have:a=j:=ok.inj lA hj haj;subst this;rw[if_pos rfl];exact⟨s1,s2,λ_=>rfl⟩
   .rw[if_neg haj];have hne:a≠j:=λe=>haj (by subst e;rfl);exact⟨s1,s2,λhz=>s3 (.inr (by omega))⟩
  .rw[WU e]at hd;have ln:=((hl l d hd).1.rows _ (Xq ha)).1;rw[an _ ln.1 ln.2,if_neg (qz l d e hd a ha lN)];exact h.sto l d hd jB a ha lN
theorem MI.k6(h:MI b m H C)(hl:CL2 m C)(hm:WY m=true)(hc:C k=some c)(h5:c.phase=5){j:Nat}(hj:j<c.puts.length)(hpos:c.pos=j)(ho:(∃c',o=some c'/\c'.puts=c.puts/\c'.wv=c.wv/\c'.phase=5/\c'.pos=j+1)\/(o=none/\j+1=c.puts.length)):
  MI b (Way m c.puts[j].1 c.who c.wv) H (Wdm C k o):=by
 obtain⟨ok,fY,gL⟩:=hl k c hc;have hrow:=(ok.rows _ (Xq hj)).1;have lL:lkA c j:=by unfold lkA;omega
 have hown:=(gL.own _ hrow.1 hrow.2).2 ⟨j,hj,rfl,lL⟩;obtain⟨v1,v2⟩:=gL.ver (.inr (.inr h5));obtain⟨Ar,sj2,As⟩:=h.sto k c hc (.inr h5) j hj lL;have ay:Way m c.puts[j].1 c.who c.wv=Wnr m c.puts[j].1 ((Wg m c.puts[j].1).1,c.wv,0):=by
  unfold Way;rw[if_pos ⟨hown,v2 _ ⟨j,hj,rfl,lL⟩,v1⟩]
 rw[ay];have an:∀i,0<=i->i<=7->Wg (Wnr m c.puts[j].1 ((Wg m c.puts[j].1).1,c.wv,0)) i=if i=c.puts[j].1 then((Wg m c.puts[j].1).1,c.wv,0)else Wg m i:=λi h0 h7=>Wbl hm hrow ⟨h0,h7⟩;have qz:∀l d,l≠k->C l=some d->∀(a:Nat) (ha:a<d.puts.length),lkA d a->d.puts[a].1≠c.puts[j].1:=λl d hne hd a ha lN he=>by
  obtain⟨Aq,tJ,jC⟩:=hl l d hd;have:=(jC.own _ hrow.1 hrow.2).2 ⟨a,ha,he,lN⟩;omega
 have qu:∀d,Wdm C k o k=some d->d.phase=5/\d.puts=c.puts/\d.wv=c.wv/\d.pos=j+1:=λd hd=>by
  rw[WaB]at hd;rcases ho with⟨c',e,e1,e2,e3,e4⟩|⟨e,_⟩
  .rw[e]at hd;cases hd;exact⟨e3,e1,e2,e4⟩
  .rw[e]at hd;cases hd
 refine⟨h.st,λl d hd cS=>?_,λl l' d d' hne hd cO h3 cS=>?_,λi h0 h7 hn=>?_,λl d hd jB a ha lN=>?_⟩
 .by_cases e:l=k
  .subst e;have:=qu d hd;omega
  .rw[WU e]at hd;exact h.fr l d hd cS
 .by_cases e:l=k
  .subst e;have:=qu d hd;omega
  .rw[WU e]at hd;by_cases e':l'=k
   .subst e';have:=qu d' cO;omega
   .rw[WU e']at cO;exact h.fr2 l l' d d' hne hd cO h3 cS
 .rw[an i h0 h7];by_cases hi:i=c.puts[j].1
  .subst hi;rw[if_pos rfl,Ar];exact⟨As (.inl h5),rfl⟩
  .rw[if_neg hi];refine h.cell i h0 h7 λl d hd jB fZ=>?_;by_cases e:l=k
   .subst e;rw[hc]at hd;cases hd;obtain⟨a,ha,e1,e2⟩:=fZ;have hne:a≠j:=λe=>hi (by subst e;exact e1.symm);have fH:(c.pos<=a):=by unfold lkA at e2;omega
    rcases ho with⟨c',eo,q1,q2,q3,q4⟩|⟨eo,q1⟩
    .refine hn l c' (by rw[WaB];exact eo) (.inr q3) ⟨a,by rw[q1];exact ha,by simp only[q1];exact e1,?_⟩;unfold lkA;omega
    .omega
   .exact hn l d (by rw[WU e];exact hd) jB fZ
 .by_cases e:l=k
  .subst e;obtain⟨q3,q1,q2,q4⟩:=qu d hd;have lA:a<c.puts.length:=by rw[←q1];exact ha
   have tK:lkA c a/\a≠j:=by unfold lkA at lN⊢;omega
   obtain⟨s1,s2,s3⟩:=h.sto l c hc (.inr h5) a lA tK.1;have ln:=(ok.rows _ (Xq lA)).1;simp only[q1,q2];rw[an _ ln.1 ln.2,if_neg (λhe=>tK.2 (ok.inj lA hj he))];exact⟨s1,s2,λ_=>s3 (.inl h5)⟩
  .rw[WU e]at hd;have ln:=((hl l d hd).1.rows _ (Xq ha)).1;rw[an _ ln.1 ln.2,if_neg (qz l d e hd a ha lN)];exact h.sto l d hd jB a ha lN
end
end
section
variable{b:Int->Int}{m m':Mm}{H:List Wr}{C:Nat->Option Cm}{k:Nat}{c c':Cm}{o o':Option Cm}{v i x:Int}
def cmO(c:Cm):Option Cm:=if c.phase=6\/c.phase=8 then none else some c
def WaZ(k:Nat)(c:Cm)(q:Cm)(H:List Wr):List Wr:=if c.phase<=3/\q.phase=4 then H++ [(q.wv,(k:Int)+1,q.puts)]else H
theorem WmK:Wdm (Wdm C k o) k o'=Wdm C k o':=by
 funext j;unfold Wdm;split<;>rfl
theorem Wlr(h:cmO c=some c'):c'=c/\c.phase≠6/\c.phase≠8:=by
 unfold cmO at h;split at h
 .cases h
 .cases h;exact⟨rfl,by omega,by omega⟩
def Keep(b:Int->Int)(m:Mm)(H:List Wr)(C:Nat->Option Cm)(m':Mm)(H':List Wr)(C':Nat->Option Cm):Prop:=MI b m' H' C'/\∀v i x,RC b m H C v i x->RC b m' H' C' v i x
theorem Keep.k1(h:MI b m H C)(hc:∀c,C k=some c->c.phase≠4/\c.phase≠5)(ho:∀c',o=some c'->c'.phase≠3/\c'.phase≠4/\c'.phase≠5)
  (h1:m'.1=m.1) (hm:∀i,0<=i->i<=7->(Wg m' i).1=(Wg m i).1/\(Wg m' i).2.1=(Wg m i).2.1) (hr:∀k c,C k=some c->CmR c):Keep b m H C m' H (Wdm C k o):=
 ⟨h.k1 hc ho h1 hm hr,λv i x hx=>hx.k1 (λc' e=>(ho c' e).1) h1⟩
theorem MI.step(h:MI b m H C)(hl:CL2 m C)(aI:CmOk c)(hm:WY m=true)(cn:m.1<1000000)(hc:C k=some c)(h68:c.phase≠6/\c.phase≠8):
  Keep b m H C (Wi m c).1 (WaZ k c (Wi m c).2 H) (Wdm C k (cmO (Wi m c).2)):=by
 have hr:∀k c,C k=some c->CmR c:=λk c e=>(hl k c e).1;have mI:∀d,C k=some d->d=c:=λd e=>by rw[hc]at e;cases e;rfl
 obtain⟨okr,fY,gL⟩:=hl k c hc;have aR:=aI.phase;have ay:c.phase=1\/c.phase=4\/c.phase=5\/c.phase=7->c.steps=c.puts.length:=λhp=>by unfold Cm.steps;rw[if_pos hp]
 have h0:=(Wt hm).2.1;have back:∀n:Int,c.phase≠4/\c.phase≠5->Keep b m H C m (WaZ k c (WS c n) H) (Wdm C k (cmO (WS c n))):=λn hp=>by
  have e:WaZ k c (WS c n) H=H:=by unfold WaZ;rw[if_neg (by rcases Wdl c n with e|e<;>omega)]
  rw[e];refine Keep.k1 h (λd hd=>by rw[mI d hd];exact hp) (λd hd=>?_) rfl (λ_ _ _=>⟨rfl,rfl⟩) hr;obtain⟨e,_⟩:=Wlr hd;subst e;rcases Wdl c n with e|e<;>omega
 by_cases h1:c.phase=1
 .unfold Wi;simp only;rw[if_pos h1];obtain⟨j,hj,e1,e2,e3,e4⟩:=aI.put (by omega);rw[e2];split
  .have hp:(Wh c 2).phase=1\/(Wh c 2).phase=2:=by
    unfold Wh;split
    .right;show Wal c 2=2;unfold Wal;rw[if_neg (by omega),if_neg (by omega)]
    .left;exact h1
   have e:WaZ k c (Wh c 2) H=H:=by unfold WaZ;rw[if_neg (λz=>by have:=z.2;omega)]
   show Keep b m H C _ (WaZ k c (Wh c 2) H) _;rw[e];refine Keep.k1 h (λd hd=>by rw[mI d hd];omega) (λd hd=>?_) rfl (λi a z=>?_) hr
   .obtain⟨e,_⟩:=Wlr hd;rw[show d=Wh c 2 from e];omega
   .show(Wg (Wiu m c.puts[j].1 c.who) i).1=_/\_;unfold Wiu;rw[Wbl hm e3 ⟨a,z⟩];split
    .rename_i he;subst he;exact⟨rfl,rfl⟩
    .exact⟨rfl,rfl⟩
  .exact back _ (by omega)
 by_cases h2:c.phase=2
 .have et:tick m=((m.1+1,m.2),m.1+1):=by unfold tick;rw[if_pos cn]
  unfold Wi;simp only;rw[if_neg h1,if_pos h2,et];simp only;rw[if_neg (by omega)];generalize fa:({c with wv:=m.1+1,phase:=3,pos:=0}:Cm)=c2;have p3:c2.phase=3:=by rw[←fa]
  have pw:c2.wv=m.1+1:=by rw[←fa]
  have pp:c2.puts=c.puts:=by rw[←fa]
  have pwho:c2.who=c.who:=by rw[←fa]
  have k2:MI b (m.1+1,m.2) H (Wdm C k (some c2)):=h.k2 hc h2 p3 pw h0;have wS:∀v i x,RC b m H C v i x->RC b (m.1+1,m.2) H (Wdm C k (some c2)) v i x:=λv i x hx=>hx.k2 pw;have eZ:CL2 (m.1+1,m.2) (Wdm C k (some c2)):=λj d hd=>by
   by_cases e:j=k
   .subst e;rw[WaB]at hd;cases hd;have tL:∀i,lkd c2 i↔lkd c i:=λi=>Wdt pp λj hj=>by unfold lkA;omega
    refine⟨⟨by rw[pp];exact okr.rows,by rw[pp];exact okr.pup⟩,by rw[pwho];exact fY,λi a z=>?_,λ_=>⟨by rw[pw];exact Xp _,λi hi=>?_⟩⟩
    .rw[pwho,tL];exact gL.own i a z
    .rw[pw];obtain⟨l,bH,a,_⟩:=(tL i).1 hi;have Au:=(okr.rows _ (Xq bH)).1;have hcl:=Wde.1 (WdT hm Au);rw[←a];show(Wg m c.puts[l].1).2.1<=m.1+1;omega
   .rw[WU e]at hd;obtain⟨a,z,q⟩:=hl j d hd;exact⟨a,z,q.own,λhz=>⟨by have:=(q.ver hz).1;show d.wv<=m.1+1;omega,(q.ver hz).2⟩⟩
  have hq:∀a,Wal {c with wv:=m.1+1} 3=a->Wco {c with wv:=m.1+1} 3={c with wv:=m.1+1,phase:=a,pos:=0}:=λa e=>by unfold Wco;rw[e]
  by_cases mc:c.reads.length=0
  .by_cases gu:c.puts.length=0
   .rw[hq 6 (by unfold Wal;rw[if_pos ⟨.inl ⟨rfl,mc⟩,gu⟩])];have e:WaZ k c {c with wv:=m.1+1,phase:=6,pos:=0} H=H:=by unfold WaZ;rw[if_neg (λz=>by have:=z.2;simp only at this;omega)]
    have eo:cmO {c with wv:=m.1+1,phase:=6,pos:=0}=none:=by unfold cmO;rw[if_pos (.inl rfl)]
    rw[e,eo,←WmK (C:=C) (k:=k) (o:=some c2)];refine⟨k2.k1 (λd hd=>?_) (λd hd=>by cases hd) rfl (λ_ _ _=>⟨rfl,rfl⟩) (λj d hd=>(eZ j d hd).1),λv i x hx=>(wS v i x hx).k1 (λd hd=>by cases hd) rfl⟩;rw[WaB]at hd;cases hd;omega
   .rw[hq 4 (by unfold Wal;rw[if_neg (λz=>gu z.2),if_pos ⟨rfl,mc⟩])];have e:WaZ k c {c with wv:=m.1+1,phase:=4,pos:=0} H=H++ [(c2.wv,(k:Int)+1,c2.puts)]:=by unfold WaZ;rw[if_pos ⟨by omega,rfl⟩,pw,pp]
    have eo:cmO {c with wv:=m.1+1,phase:=4,pos:=0}=some {c with wv:=m.1+1,phase:=4,pos:=0}:=by unfold cmO;rw[if_neg (by simp)]
    rw[e,eo,←WmK (C:=C) (k:=k) (o:=some c2)];exact⟨k2.k4 (c':={c with wv:=m.1+1,phase:=4,pos:=0}) eZ (by show m.1+1<=1000000;omega) WaB p3 rfl rfl pw.symm pp.symm,λv i x hx=>(wS v i x hx).k4 WaB p3 rfl⟩
  .have e3:Wco {c with wv:=m.1+1} 3=c2:=by
    rw[hq 3 (by unfold Wal;rw[if_neg (λz=>by rcases z.1 with y|y;exact mc y.2;omega),if_neg (λz=>mc z.2)]),←fa]
   rw[e3];have e:WaZ k c c2 H=H:=by unfold WaZ;rw[if_neg (λz=>by have:=z.2;omega)]
   have eo:cmO c2=some c2:=by unfold cmO;rw[if_neg (by omega)]
   rw[e,eo];exact⟨k2,wS⟩
 by_cases h3:c.phase=3
 .unfold Wi;simp only;rw[if_neg h1,if_neg h2,if_pos h3];split
  .exact back _ (by omega)
  .by_cases cg:c.pos+1=c.steps
   .have en:Wh c 4={c with phase:=Wal c 4,pos:=0}:=by unfold Wh;rw[if_pos cg];rfl
    by_cases gu:c.puts.length=0
    .have ea:Wal c 4=6:=by unfold Wal;rw[if_pos ⟨.inr rfl,gu⟩]
     rw[en,ea];have e:WaZ k c {c with phase:=6,pos:=0} H=H:=by unfold WaZ;rw[if_neg (λz=>by have:=z.2;simp only at this;omega)]
     have eo:cmO {c with phase:=6,pos:=0}=none:=by unfold cmO;rw[if_pos (.inl rfl)]
     show Keep b m H C m (WaZ k c {c with phase:=6,pos:=0} H) (Wdm C k (cmO {c with phase:=6,pos:=0}));rw[e,eo];exact Keep.k1 h (λd hd=>by rw[mI d hd];omega) (λd hd=>by cases hd) rfl (λ_ _ _=>⟨rfl,rfl⟩) hr
    .have ea:Wal c 4=4:=by unfold Wal;rw[if_neg (λz=>gu z.2),if_neg (by omega)]
     rw[en,ea];have e:WaZ k c {c with phase:=4,pos:=0} H=H++ [(c.wv,(k:Int)+1,c.puts)]:=by unfold WaZ;rw[if_pos ⟨by omega,rfl⟩]
     have eo:cmO {c with phase:=4,pos:=0}=some {c with phase:=4,pos:=0}:=by unfold cmO;rw[if_neg (by simp)]
     show Keep b m H C m (WaZ k c {c with phase:=4,pos:=0} H) (Wdm C k (cmO {c with phase:=4,pos:=0}));rw[e,eo];exact⟨h.k4 (c':={c with phase:=4,pos:=0}) hl (by omega) hc h3 rfl rfl rfl rfl,λv i x hx=>hx.k4 hc h3 rfl⟩
   .have en:Wh c 4={c with pos:=c.pos+1}:=by unfold Wh;rw[if_neg cg]
    rw[en];have e:WaZ k c {c with pos:=c.pos+1} H=H:=by unfold WaZ;rw[if_neg (λz=>by have:=z.2;simp only at this;omega)]
    have eo:cmO {c with pos:=c.pos+1}=some {c with pos:=c.pos+1}:=by unfold cmO;rw[if_neg (by simp only;omega)]
    show Keep b m H C m (WaZ k c {c with pos:=c.pos+1} H) (Wdm C k (cmO {c with pos:=c.pos+1}));rw[e,eo];exact⟨h.k3 hc h3 h3 rfl,λv i x hx=>hx.k3 hc h3 rfl rfl⟩
 by_cases h4:c.phase=4
 .obtain⟨j,hj,e1,e2,e3,e4⟩:=aI.put (by omega);have hs:=ay (by omega);unfold Wi;simp only;rw[if_neg h1,if_neg h2,if_neg h3,if_pos h4,e2];have e:WaZ k c (Wh c 5) H=H:=by unfold WaZ;rw[if_neg (λz=>by have:=z.1;omega)]
  obtain⟨p1,p2,p3⟩:=Wat c 5;have aR:(Wh c 5).phase=4/\(Wh c 5).pos=(j:Int)+1\/(Wh c 5).phase=5/\(Wh c 5).pos=0/\j+1=c.puts.length:=by
   unfold Wh;split
   .exact .inr ⟨WoC c,rfl,by omega⟩
   .exact .inl ⟨h4,by show c.pos+1=_;omega⟩
  have eo:cmO (Wh c 5)=some (Wh c 5):=by unfold cmO;rw[if_neg (by omega)]
  show Keep b m H C (Wb1 m c.puts[j].1 c.who c.puts[j].2) (WaZ k c (Wh c 5) H) (Wdm C k (cmO (Wh c 5)));rw[e,eo];refine⟨h.k5 hl hm hc h4 hj e1 p1 p3 aR,λv i x hx=>hx.k1 (λd hd=>by cases hd;omega) ?_⟩;unfold Wb1;split<;>rfl
 by_cases h5:c.phase=5
 .obtain⟨j,hj,e1,e2,e3,e4⟩:=aI.put (by omega);have hs:=ay (by omega);unfold Wi;simp only;rw[if_neg h1,if_neg h2,if_neg h3,if_neg h4,if_pos h5,e2];have e:WaZ k c (Wh c 6) H=H:=by unfold WaZ;rw[if_neg (λz=>by have:=z.1;omega)]
  obtain⟨p1,p2,p3⟩:=Wat c 6;have ho:(∃c',cmO (Wh c 6)=some c'/\c'.puts=c.puts/\c'.wv=c.wv/\c'.phase=5/\c'.pos=(j:Int)+1)\/(cmO (Wh c 6)=none/\j+1=c.puts.length):=by
   by_cases cg:c.pos+1=c.steps
   .right;have:(Wh c 6).phase=6:=by unfold Wh;rw[if_pos cg];exact Wo8 c
    exact⟨by unfold cmO;rw[if_pos (.inl this)],by omega⟩
   .left;have en:Wh c 6={c with pos:=c.pos+1}:=by unfold Wh;rw[if_neg cg]
    refine⟨Wh c 6,by unfold cmO;rw[if_neg (by rw[en];simp only;omega)],p1,p3,by rw[en];exact h5,by rw[en];show c.pos+1=_;omega⟩
  show Keep b m H C (Way m c.puts[j].1 c.who c.wv) (WaZ k c (Wh c 6) H) (Wdm C k (cmO (Wh c 6)));rw[e];refine⟨h.k6 hl hm hc h5 hj e1 ho,λv i x hx=>hx.k1 (λd hd=>?_) ?_⟩
  .rcases ho with⟨c',q,_,_,q3,_⟩|⟨q,_⟩
   .rw[q]at hd;cases hd;omega
   .rw[q]at hd;cases hd
  .unfold Way;split<;>rfl
 .have h7:c.phase=7:=by omega
  obtain⟨j,hj,e1,e2,e3,e4⟩:=aI.put (by omega);unfold Wi;simp only;rw[if_neg h1,if_neg h2,if_neg h3,if_neg h4,if_neg h5,if_pos h7,e2];have e:WaZ k c (WS c c.pos) H=H:=by unfold WaZ;rw[if_neg (λz=>by have:=z.1;omega)]
  show Keep b m H C (Way m c.puts[j].1 c.who (Wg m c.puts[j].1).2.1) (WaZ k c (WS c c.pos) H) (Wdm C k (cmO (WS c c.pos)));rw[e];refine Keep.k1 h (λd hd=>by rw[mI d hd];omega) (λd hd=>?_) (by unfold Way;split<;>rfl) (λi a z=>?_) hr
  .obtain⟨e,_⟩:=Wlr hd;subst e;rcases Wdl c c.pos with e|e<;>omega
  .unfold Way;split
   .rw[Wbl hm e3 ⟨a,z⟩];split
    .rename_i he;subst he;exact⟨rfl,rfl⟩
    .exact⟨rfl,rfl⟩
   .exact⟨rfl,rfl⟩
end
section
variable{b:Int->Int}{s:Sc}{w v:Wo}{n:Int}{x y:Rt}{k:Nat}{p:Pg}{o:Opn}{a:Ac}
def cmX(x:Rt):Option Cm:=if x.phase=5 then some x.cm else none
def Wcq(l:List Rt)(k:Nat):Option Cm:=(l[k]?).bind cmX
theorem WkG(h:k<w.roots.length):Wcq w.roots k=cmX w.roots[k]:=by unfold Wcq;rw[Xs h];rfl
theorem Wgo{l:List Rt}(h:k<l.length):Wcq (l.set k y)=Wdm (Wcq l) k (cmX y):=by
 funext j;unfold Wcq Wdm;by_cases e:j=k
 .subst e;rw[if_pos rfl,List.getElem?_set_self h];rfl
 .rw[if_neg e,List.getElem?_set_ne (λz=>e z.symm)]
theorem WlA{c:Cm}(h:cmX x=some c):x.phase=5/\c=x.cm:=by
 unfold cmX at h;split at h
 .cases h;exact⟨‹_›,rfl⟩
 .cases h
theorem Wng{l:List Rt}{c:Cm}(h:Wcq l k=some c):∃hk:k<l.length,l[k].phase=5/\c=l[k].cm:=by
 by_cases hk:k<l.length
 .unfold Wcq at h;rw[Xs hk]at h;exact⟨hk,WlA h⟩
 .unfold Wcq at h;rw[List.getElem?_eq_none (by omega)]at h;cases h
theorem Wsb(h:WOk s.2.1 n w)(hl:LX w):CL2 w.mem (Wcq w.roots):=λk c hc=>by
 obtain⟨hk,h5,e⟩:=Wng hc;subst e;exact⟨((h.root k hk).comm h5).r,((hl.root k hk).cm h5).1,((hl.root k hk).cm h5).2⟩
structure RN(w:Wo)(x:Rt)(q:Wo×Rt):Prop where
 mem:q.1.mem=w.mem
 hist:q.1.hist=w.hist
 cm:q.2.phase=5->q.2.cm.phase=1\/q.2.cm.phase=2
theorem Wc7{q:Wo×Rt}(h1:q.1.mem=w.mem)(h2:q.1.hist=w.hist)(h5:q.2.phase≠5):RN w x q:=⟨h1,h2,λh=>absurd h h5⟩
theorem Wmu{out:Int}:RN w x (W6 w x k out):=by
 unfold W6;simp only;generalize (if out=2 then []else x.writes)=rows;split
 .exact Wc7 rfl rfl (by show(8:Int)≠5;omega)
 .refine⟨rfl,rfl,λ_=>?_⟩;show(Wa5 ((k:Int)+1) x.rv rows x.reads).phase=1\/_;unfold Wa5;simp only;split<;>simp
theorem Wle(h5:x.phase≠5):RN w x (Wq w x k p):=by
 have cf:∀z:Rt,(Wy z).phase≠5:=λz=>WcW.2.1;unfold Wq;split
 .exact Wc7 rfl rfl (by show(6:Int)≠5;omega)
 split
 .unfold Wc9;split
  .exact Wc7 rfl rfl h5
  .split
   .exact Wc7 rfl rfl h5
   .split
    .exact Wc7 rfl rfl h5
    .exact Wc7 rfl rfl (by show(1:Int)≠5;omega)
 split
 .rename_i h1;unfold Wdx;split
  .exact Wmu
  .simp only;generalize opN p.1 x.pc=o;split
   .exact Wc7 rfl rfl (WlE h1).2.1
   .split
    .unfold WbL;split
     .exact Wmu
     .split
      .exact Wc7 rfl rfl h5
      .exact Wc7 rfl rfl h5
    .split
     .exact Wc7 rfl rfl (by show(2:Int)≠5;omega)
     .split
      .unfold Wbs;cases WaT w.holds ((k:Int)+1) (WaC o).1 (WaC o).2 with
       |none=>exact Wc7 rfl rfl (cf _)
       |some hs=>exact Wc7 rfl rfl h5
      .repeat' split
       all_goals exact Wc7 rfl rfl h5
 split
 .refine Wc7 rfl rfl ?_;show(WbN x).phase≠5;unfold WbN;split
  .show(6:Int)≠5;omega
  .split
   .show(1:Int)≠5;omega
   .exact h5
 split
 .unfold WaR;split
  .exact Wc7 rfl rfl h5
  .exact Wc7 rfl rfl (by show(4:Int)≠5;omega)
 split
 .refine Wc7 rfl rfl ?_;show(Waz w x).phase≠5;unfold Waz;simp only;split
  .split
   .show(6:Int)≠5;omega
   .exact h5
  .show(1:Int)≠5;omega
 split
 .split
  .exact Wc7 rfl rfl h5
  .exact Wc7 rfl rfl (by show(7:Int)≠5;omega)
 split
 .split
  .exact Wc7 rfl rfl (by show(0:Int)≠5;omega)
  .exact Wc7 rfl rfl (by show(8:Int)≠5;omega)
 .exact Wc7 rfl rfl h5
theorem Wls(h5:x.phase=5)(hd:x.doomed=false):(Wq w x k p).1.mem=(Wi w.mem x.cm).1/\(Wq w x k p).1.hist=WaZ k x.cm (Wi w.mem x.cm).2 w.hist/\(Wq w x k p).2=Wab {x with cm:=(Wi w.mem x.cm).2}:=by
 have e:Wq w x k p=W4 w x k:=by
  unfold Wq;rw[if_neg (by omega),if_neg (by omega),if_neg (by omega),if_neg (by omega),if_neg (by omega),if_neg (by omega),if_pos h5]
 rw[e];unfold W4;rw[if_neg (by rw[hd];simp)];exact⟨rfl,rfl,rfl⟩
theorem WuG{z:Rt}(h:z.phase≠5):cmX z=none:=by unfold cmX;rw[if_neg h]
theorem Wuc(c:Cm):cmX (Wab {x with cm:=c,phase:=5})=cmO c:=by
 by_cases h8:c.phase=8
 .have e:cmO c=none:=by unfold cmO;rw[if_pos (.inr h8)]
  rw[e];unfold Wab;rw[if_pos h8];exact WuG (by show(6:Int)≠5;omega)
 .by_cases h6:c.phase=6
  .have e:cmO c=none:=by unfold cmO;rw[if_pos (.inl h6)]
   rw[e];unfold Wab;rw[if_neg h8,if_pos h6];exact WuG (by show(if x.fate=2 then(6:Int)else 7)≠5;split<;>omega)
  .have e:cmO c=some c:=by unfold cmO;rw[if_neg (by omega)]
   rw[e];unfold Wab;rw[if_neg h8,if_neg h6];rfl
def WtX(b:Int->Int)(w v:Wo):Prop:=Keep b w.mem w.hist (Wcq w.roots) v.mem v.hist (Wcq v.roots)
theorem WdD{l:List Rt}(h:MI b w.mem w.hist (Wcq w.roots))(e:Wcq l=Wcq w.roots):Keep b w.mem w.hist (Wcq w.roots) w.mem w.hist (Wcq l):=by
 rw[e];exact⟨h,λ_ _ _ hx=>hx⟩
theorem Wo2{q:Wo×Rt}(h:WOk s.2.1 n w)(hl:LX w)(hx:WX w)(ht:WT w)(hn:n<1000000)(hM:MI b w.mem w.hist (Wcq w.roots))(hk:k<w.roots.length)(hq:q=Wq {w with now:=w.now+1} w.roots[k] k p)(hr:q.1.roots=w.roots):WtX b w (Wo.put q k):=by
 have hcl:=Wsb h hl;have cn:w.mem.1<1000000:=by have:=ht.clk;have:=h.now;omega
 unfold WtX;show Keep b w.mem w.hist (Wcq w.roots) q.1.mem q.1.hist (Wcq (q.1.roots.set k q.2));rw[hr,Wgo hk];have ri:=hx k hk;have hCk:=WkG (w:=w) hk;by_cases h5:w.roots[k].phase=5
 .have hC:Wcq w.roots k=some w.roots[k].cm:=by rw[hCk];unfold cmX;rw[if_pos h5]
  have jx:=(ht.root k hk).cm h5;by_cases hd:w.roots[k].doomed=false
  .obtain⟨e1,e2,e3⟩:=Wls (w:={w with now:=w.now+1}) (x:=w.roots[k]) (k:=k) (p:=p) h5 hd;rw[hq,e1,e2,e3];have ex:({w.roots[k]with cm:=(Wi w.mem w.roots[k].cm).2}:Rt)={w.roots[k]with cm:=(Wi w.mem w.roots[k].cm).2,phase:=5}:=by rw[←h5]
   show Keep b w.mem w.hist (Wcq w.roots) (Wi w.mem w.roots[k].cm).1 (WaZ k w.roots[k].cm (Wi w.mem w.roots[k].cm).2 w.hist) (Wdm (Wcq w.roots) k (cmX (Wab {w.roots[k]with cm:=(Wi w.mem w.roots[k].cm).2})));rw[ex,Wuc];exact hM.step hcl ((h.root k hk).comm h5) h.mem cn hC jx
  .have cO:w.roots[k].doomed=true:=by simpa using hd
   have qm:w.roots[k].cm.phase<=3:=by
    rcases ri.doom cO with e|e
    .omega
    .exact e.2
   have mP:=((h.root k hk).comm h5).phase;have e:Wq {w with now:=w.now+1} w.roots[k] k p=({w with now:=w.now+1},if(Wx w.roots[k].cm).phase=8 then WbZ w.roots[k]else{w.roots[k]with cm:=Wx w.roots[k].cm,doomed:=false}):=by
    unfold Wq;rw[if_neg (by omega),if_neg (by omega),if_neg (by omega),if_neg (by omega),if_neg (by omega),if_neg (by omega),if_pos h5];unfold W4;rw[if_pos cO]
   rw[hq,e];refine Keep.k1 hM (λd ig=>by rw[hC]at ig;cases ig;omega) (λd ig=>?_) rfl (λ_ _ _=>⟨rfl,rfl⟩) (λj d e=>(hcl j d e).1);obtain⟨f1,f2⟩:=WlA ig;by_cases h8:(Wx w.roots[k].cm).phase=8
   .simp only[if_pos h8]at f1;exact absurd (show(6:Int)=5 from f1) (by omega)
   .simp only[if_neg h8]at f2;have:d=Wx w.roots[k].cm:=f2;rw[this];unfold Wx at h8⊢;split
    .rcases Wdl w.roots[k].cm w.roots[k].cm.pos with e|e<;>omega
    .split
     .rcases Wdl w.roots[k].cm w.roots[k].cm.puts.length with e|e<;>omega
     .omega
 .have hC:Wcq w.roots k=none:=by rw[hCk];unfold cmX;rw[if_neg h5]
  obtain⟨r1,r2,r3⟩:=Wle (w:={w with now:=w.now+1}) (k:=k) (p:=p) h5;rw[hq,r1,r2];refine Keep.k1 hM (λd ig=>by rw[hC]at ig;cases ig) (λd ig=>?_) rfl (λ_ _ _=>⟨rfl,rfl⟩) (λj d e=>(hcl j d e).1);obtain⟨f1,f2⟩:=WlA ig;have:=r3 f1;rw[f2];omega
theorem WsQ(h:WOk s.2.1 n w)(hl:LX w)(hx:WX w)(ht:WT w)(hn:n<1000000)(hM:MI b w.mem w.hist (Wcq w.roots)):WtX b w (Wc4 s w a):=by
 have same:∀(k:Nat) (hk:k<w.roots.length) (y:Rt),cmX y=cmX w.roots[k]->Wcq (w.roots.set k y)=Wcq w.roots:=λk hk y e=>by
  rw[Wgo hk,e,←WkG hk];funext j;unfold Wdm;split
  .rename_i e;rw[e]
  .rfl
 unfold Wc4;simp only;split
 .rename_i hb;have hk:a.2.1.toNat<w.roots.length:=by omega
  rw[Wf hk];split
  .unfold Wh6;rw[Wf (show a.2.1.toNat<({w with now:=w.now+1}:Wo).roots.length from hk)];exact Wo2 h hl hx ht hn hM hk rfl (Whg h hk)
  .split
   .split
    .exact WdD hM (same _ hk _ rfl)
    .exact WdD hM rfl
   .split
    .split
     .exact WdD hM (same _ hk _ rfl)
     .exact WdD hM rfl
    .exact WdD hM rfl
 .exact WdD hM rfl
end
section
variable{b:Int->Int}{s:Sc}{w v:Wo}{n:Int}{x y:Rt}{k:Nat}{p:Pg}{o:Opn}{a:Ac}{m m':Mm}{H H':List Wr}{C:Nat->Option Cm}{c:Cm}{i:Int}
structure Mono(b:Int->Int)(m:Mm)(H:List Wr)(m':Mm)(H':List Wr):Prop where
 ver:∀i,0<=i->i<=7->(Wg m i).2.1<=(Wg m' i).2.1
 top:∀i,(top (b i) i H).1<(top (b i) i H').1\/top (b i) i H'=top (b i) i H
theorem Mono.refl:Mono b m H m H:=⟨λ_ _ _=>Xp _,λ_=>.inr rfl⟩
theorem Wqv(aI:CmOk c)(hm:WY m=true):∀i,0<=i->i<=7->(Wg m i).2.1<=(Wg (Wi m c).1 i).2.1:=λi h0 h7=>by
 have aR:=aI.phase;have ll:c.phase=1\/c.phase=4\/c.phase=5\/c.phase=7->0<=(Wbi c.puts c.pos (0,0)).1/\(Wbi c.puts c.pos (0,0)).1<=7:=λh=>by
  obtain⟨j,hj,e1,e2,e3,e4⟩:=aI.put h;rw[e2];exact e3
 unfold Wi;simp only;split
 .split
  .show _<=(Wg (Wiu m _ _) i).2.1;unfold Wiu;rw[Wbl hm (ll (by omega)) ⟨h0,h7⟩];split
   .rename_i e;rw[e];exact Xp _
   .exact Xp _
  .exact Xp _
 split
 .have ht:=Wlt hm;have e:∀i,Wg (tick m).1 i=Wg m i:=λi=>by unfold tick;split<;>rfl
  split
  .show _<=(Wg (tick m).1 i).2.1;rw[e];exact Xp _
  .show _<=(Wg (tick m).1 i).2.1;rw[e];exact Xp _
 split
 .split<;>exact Xp _
 split
 .show _<=(Wg (Wb1 m _ _ _) i).2.1;unfold Wb1;split
  .rw[Wbl hm (ll (by omega)) ⟨h0,h7⟩];split
   .rename_i e;rw[e];exact Xp _
   .exact Xp _
  .exact Xp _
 have unl:∀ver,(c.phase=5\/c.phase=7)->(Wg m i).2.1<=(Wg (Way m (Wbi c.puts c.pos (0,0)).1 c.who ver) i).2.1:=λver h=>by
  unfold Way;split
  .rename_i hc;rw[Wbl hm (ll (by omega)) ⟨h0,h7⟩];split
   .rename_i e;rw[e];exact hc.2.1
   .exact Xp _
  .exact Xp _
 split
 .exact unl _ (.inl ‹_›)
 split
 .exact unl _ (.inr ‹_›)
 .exact Xp _
theorem WsE{q:Cm}:∀i,(top (b i) i H).1<(top (b i) i (WaZ k c q H)).1\/top (b i) i (WaZ k c q H)=top (b i) i H:=λi=>by
 unfold WaZ;split
 .unfold top;rw[Wla];rcases Wjt (i:=i) (v:=2000000) (h:=(q.wv,(k:Int)+1,q.puts)) (bst (b i) i 2000000 H)with e|⟨x,_,_,e2,e3⟩
  .exact .inr e
  .rw[e3];exact .inl e2
 .exact .inr rfl
theorem WtA{q:Wo×Rt}(h:WOk s.2.1 n w)(hx:WX w)(hk:k<w.roots.length)(hq:q=Wq {w with now:=w.now+1} w.roots[k] k p):Mono b w.mem w.hist q.1.mem q.1.hist:=by
 by_cases h5:w.roots[k].phase=5
 .by_cases hd:w.roots[k].doomed=false
  .obtain⟨e1,e2,e3⟩:=Wls (w:={w with now:=w.now+1}) (x:=w.roots[k]) (k:=k) (p:=p) h5 hd;rw[hq,e1,e2];exact⟨Wqv ((h.root k hk).comm h5) h.mem,WsE⟩
  .have cO:w.roots[k].doomed=true:=by simpa using hd
   have e:(Wq {w with now:=w.now+1} w.roots[k] k p).1={w with now:=w.now+1}:=by
    unfold Wq;rw[if_neg (by omega),if_neg (by omega),if_neg (by omega),if_neg (by omega),if_neg (by omega),if_neg (by omega),if_pos h5];unfold W4;rw[if_pos cO]
   rw[hq,e];exact Mono.refl
 .obtain⟨r1,r2,_⟩:=Wle (w:={w with now:=w.now+1}) (k:=k) (p:=p) h5;rw[hq,r1,r2];exact Mono.refl
theorem Wk0(hM:MI b m H C)(hl:CL2 m C)(h0:0<=i)(h7:i<=7)(ho:owner m i=0):(Wg m i).1=(top (b i) i H).2/\(Wg m i).2.1=(top (b i) i H).1/\∀k c,C k=some c->c.phase=3->pick c.puts i=none:=by
 have bZ:∀k c,C k=some c->¬lkd c i:=λk c hc gL=>by
  obtain⟨_,e,q⟩:=hl k c hc;have:=(q.own i h0 h7).2 gL;omega
 obtain⟨e1,e2⟩:=hM.cell i h0 h7 λk c hc _=>bZ k c hc;refine⟨e1,e2,λk c hc h3=>?_⟩;cases hp:pick c.puts i with
 |none=>rfl
 |some x=>
  obtain⟨l,bH,e⟩:=Xam (WhL hp);refine absurd ⟨l,bH,by rw[e],?_⟩ (bZ k c hc);unfold lkA;omega
structure PBs(b:Int->Int)(m:Mm)(H:List Wr)(x:Rt):Prop where
 cell:x.busy=true->0<=x.pb.1/\x.pb.1<=7
 rv:x.busy=true->x.pb.2.2.1<=x.rv
 one:x.busy=true->x.pb.2.1=1->x.pb.2.2.1<=(Wg m x.pb.1).2.1
 two:x.busy=true->x.pb.2.1=2->x.pb.2.2.1<=(top (b x.pb.1) x.pb.1 H).1/\((top (b x.pb.1) x.pb.1 H).1=x.pb.2.2.1->x.pb.2.2.2=(top (b x.pb.1) x.pb.1 H).2)
theorem PBs.no(h:x.busy=false):PBs b m H x:=⟨λe=>(by rw[h]at e;cases e),λe=>(by rw[h]at e;cases e),λe=>(by rw[h]at e;cases e),λe=>(by rw[h]at e;cases e)⟩
theorem PBs.mono(h:PBs b m H x)(hm:Mono b m H m' H'):PBs b m' H' x:=by
 refine⟨h.cell,h.rv,λe h1=>?_,λe h2=>?_⟩
 .have:=h.cell e;have:=h.one e h1;have:=hm.ver x.pb.1 (by omega) (by omega);omega
 .obtain⟨a,d⟩:=h.two e h2;rcases hm.top x.pb.1 with t|t
  .exact⟨by omega,λz=>by omega⟩
  .rw[t];exact⟨a,d⟩
theorem Wtp(hM:MI b w.mem w.hist C)(hl:CL2 w.mem C)(cn:w.mem.1<=1000000)(hP:PBs b w.mem w.hist x)(ht:x.busy=true->x.pb.2.1=1\/x.pb.2.1=2)(aF:x.busy=true->x.pb.1=o.2.2.1)(jM:0<=x.rv/\x.rv<=w.mem.1)(ho:0<=o.2.2.1/\o.2.2.1<=7)(hw:Wbc x.writes o.2.2.1=none):
  Wci w x o=Wy {x with busy:=true,pb:=(WV w.mem x.rv (if x.busy then x.pb else(o.2.2.1,0,0,0)))}\/
  (∃pb,Wci w x o={x with busy:=true,pb:=pb}/\PBs b w.mem w.hist {x with busy:=true,pb:=pb}/\pb.1=o.2.2.1)\/
  (∃val,Wci w x o={x with regs:=Wlw x.regs o.2.1 val,reads:=x.reads++ [(o.2.2.1,val)],busy:=false,pb:=(0,0,0,0),pc:=x.pc+1}/\RC b w.mem w.hist C x.rv o.2.2.1 val):=by
 unfold Wci;rw[hw];simp only;have gu:∃ga:Pb,(if x.busy=true then x.pb else(o.2.2.1,0,0,0))=ga/\ga.1=o.2.2.1/\(ga.2.1=0\/ga.2.1=1/\ga.2.2.1<=x.rv/\ga.2.2.1<=(Wg w.mem o.2.2.1).2.1\/ga.2.1=2/\ga.2.2.1<=x.rv/\ga.2.2.1<=(top (b o.2.2.1) o.2.2.1 w.hist).1/\((top (b o.2.2.1) o.2.2.1 w.hist).1=ga.2.2.1->ga.2.2.2=(top (b o.2.2.1) o.2.2.1 w.hist).2)):=by
  by_cases hb:x.busy=true
  .rw[if_pos hb];refine⟨_,rfl,aF hb,?_⟩;have e:=aF hb;rcases ht hb with h1|h2
   .exact .inr (.inl ⟨h1,hP.rv hb,by rw[←e];exact hP.one hb h1⟩)
   .have:=hP.two hb h2;rw[e]at this;exact .inr (.inr ⟨h2,hP.rv hb,this⟩)
  .rw[if_neg hb];exact⟨_,rfl,rfl,.inl rfl⟩
 obtain⟨ga,e0,e1,e2⟩:=gu;rw[e0];have ec:Xc w.mem.2 (Xb ga.1) (0,(0,0))=Wg w.mem o.2.2.1:=by rw[e1];rfl
 have hfree:=λhz=>Wk0 (i:=o.2.2.1) hM hl ho.1 ho.2 hz;unfold owner at hfree;have bK:∀q:Pb,WV w.mem x.rv ga=q->(q.2.1=4\/(q.2.1=1/\q.1=o.2.2.1/\q.2.2.1<=x.rv/\q.2.2.1<=(Wg w.mem o.2.2.1).2.1)\/(q.2.1=2/\q.1=o.2.2.1/\q.2.2.1<=x.rv/\q.2.2.1<=(top (b o.2.2.1) o.2.2.1 w.hist).1/\((top (b o.2.2.1) o.2.2.1 w.hist).1=q.2.2.1->q.2.2.2=(top (b o.2.2.1) o.2.2.1 w.hist).2))\/
   (q.2.1=3/\RC b w.mem w.hist C x.rv o.2.2.1 q.2.2.2)):=by
  intro q hq;rw[←hq];unfold WV;simp only[ec,Wu,War];rcases e2 with h0|⟨h1,uG,yx⟩|⟨h2,wT,yy,wU⟩
  .rw[if_pos h0];split
   .split
    .exact .inr (.inl ⟨rfl,e1,‹_›,Xp _⟩)
    .exact .inl rfl
   .exact .inl rfl
  .rw[if_neg (by omega),if_pos h1];refine .inr (.inr (.inl ⟨rfl,e1,uG,?_⟩));show ga.2.2.1<=_/\(_=ga.2.2.1->(Wg w.mem o.2.2.1).1=_);by_cases ay:∀k c,C k=some c->c.phase=4\/c.phase=5->¬lkd c o.2.2.1
   .obtain⟨a1,a2⟩:=hM.cell o.2.2.1 ho.1 ho.2 ay;exact⟨by omega,λ_=>a1⟩
   .have:∃k c,C k=some c/\(c.phase=4\/c.phase=5)/\lkd c o.2.2.1:=by
     apply Classical.byContradiction;intro bZ;exact ay λk c hc hp gL=>bZ ⟨k,c,hc,hp,gL⟩
    obtain⟨k,c,hc,hp,j,hj,ej,lL⟩:=this;obtain⟨s1,s2,_⟩:=hM.sto k c hc hp j hj lL;rw[ej]at s1 s2;rw[s1];exact⟨by simp only;omega,λz=>by simp only at z;omega⟩
  .rw[if_neg (by omega),if_neg (by omega),if_pos h2];split
   .rename_i hown;split
    .rename_i wV;right;right;right;obtain⟨a1,a2,a3⟩:=hfree hown;refine⟨rfl,⟨?_,by omega,λk c hc h3 _=>a3 k c hc h3⟩⟩;show ga.2.2.2=_;have hle:(bst (b o.2.2.1) o.2.2.1 2000000 w.hist).1<=x.rv:=by
      have:(top (b o.2.2.1) o.2.2.1 w.hist).1=ga.2.2.1:=by omega
      unfold top at this;omega
     rw[Wlm (v':=2000000) (by omega) w.hist hle];exact wU (by omega)
    .exact .inl rfl
   .exact .inl rfl
 have hq:=bK _ rfl;generalize WV w.mem x.rv ga=q at*;rcases hq with h4|⟨h1,uG,yx,h1c⟩|⟨h2,wT,yy,wU,Av⟩|⟨h3,Aw⟩
 .rw[if_pos h4];exact .inl rfl
 .rw[if_neg (by omega),if_neg (by omega)];refine .inr (.inl ⟨q,rfl,⟨λ_=>by show 0<=q.1/\q.1<=7;omega,λ_=>yx,λ_ _=>by show q.2.2.1<=(Wg w.mem q.1).2.1;rw[uG];exact h1c,λ_ h=>by(change q.2.1=2 at h;omega)⟩,uG⟩)
 .rw[if_neg (by omega),if_neg (by omega)];refine .inr (.inl ⟨q,rfl,⟨λ_=>by show 0<=q.1/\q.1<=7;omega,λ_=>yy,λ_ h=>by(change q.2.1=1 at h;omega),λ_ _=>?_⟩,wT⟩);show q.2.2.1<=(top (b q.1) q.1 w.hist).1/\((top (b q.1) q.1 w.hist).1=q.2.2.1->q.2.2.2=(top (b q.1) q.1 w.hist).2);rw[wT];exact⟨wU,Av⟩
 .rw[if_neg (by omega),if_pos h3];exact .inr (.inr ⟨q.2.2.2,rfl,Aw⟩)
theorem WuI(cn:m.1<=1000000)(hM:MI b m H C)(hl:CL2 m C){k:Nat}{c:Cm}(hC:C k=some c)(h3:c.phase=3)(jM:c.rv<c.wv)(mc:0<=c.rv)(h0:0<=i)(h7:i<=7)(hown:owner m i=0\/owner m i=c.who)(wV:(Wg m i).2.1<=c.rv){v:Int}(hR:RC b m H C c.rv i v):RC b m H C (c.wv-1) i v:=by
 obtain⟨_,fY,gL⟩:=hl k c hC;have bZ:∀j d,C j=some d->j≠k->¬lkd d i:=λj d hd hne fZ=>by
  obtain⟨_,e,q⟩:=hl j d hd;have:=(q.own i h0 h7).2 fZ;omega
 obtain⟨e1,e2⟩:=hM.cell i h0 h7 λj d hd hp=>by
  by_cases e:j=k
  .subst e;rw[hC]at hd;cases hd;omega
  .exact bZ j d hd e
 have hf:=hM.fr k c hC h3;have hle:(bst (b i) i 2000000 H).1<=c.rv:=by unfold top at e2;omega
 refine⟨?_,by omega,λj d hd hp hw=>?_⟩
 .have hv:=hR.val;have hk:=hR.clk;rw[hv,Wlm (v':=2000000) (by omega) H hle,Wlm (v:=c.wv-1) (v':=2000000) (by omega) H (by omega)]
 .by_cases e:j=k
  .subst e;rw[hC]at hd;cases hd;omega
  .cases uC:pick d.puts i with
   |none=>rfl
   |some x=>
    obtain⟨l,bH,e'⟩:=Xam (WhL uC);refine absurd ⟨l,bH,by rw[e'],?_⟩ (bZ j d hd e);unfold lkA;omega
end
section
abbrev BSt:=List Int×List Rw×List Rw
structure BD where
 p:Pg
 st:Int->Int->Nat->BSt
 len:Nat
 wr:Bool
structure BDok(d:BD):Prop where
 pl:d.p.1.length=d.len
 l2:2<=d.len
 o0:opN d.p.1 0=(5,0,0,0)
 o1:opN d.p.1 1=(5,1,1,0)
 h0:∀a c,d.st a c 0=([0,0,0,0],[],[])
 h1:∀a c,d.st a c 1=([a,0,0,0],[(0,a)],[])
 h2:∀a c,d.st a c 2=([a,c,0,0],[(0,a),(1,c)],[])
 hr:∀a c pc,2<=pc->pc<=d.len->(d.st a c pc).2.1= [(0,a),(1,c)]
 hc:∀(w:Wo) (x:Rt) (k:Nat) (a c:Int) (pc:Nat),2<=pc->pc<d.len->x.pc=pc->x.regs=(d.st a c pc).1->x.writes=(d.st a c pc).2.2->Wdx w x k d.p=(w,{x with regs:=(d.st a c (pc+1)).1,writes:=(d.st a c (pc+1)).2.2,pc:=x.pc+1})
 nw:∀a c,d.wr=false->(d.st a c d.len).2.2= []
 yw:∀a c,d.wr=true->∃u v,(d.st a c d.len).2.2= [(0,u),(1,v)]/\(0<=u/\u<=65535)/\0<=v/\v<=65535
variable{b:Int->Int}{s:Sc}{w v:Wo}{n:Int}{x y:Rt}{k:Nat}{m m':Mm}{H H':List Wr}{C C':Nat->Option Cm}{d:BD}{a c:Int}
theorem WwO(ha:0<=a/\a<=65535)(hc:0<=c/\c<=65535):WcN [(0,a),(1,c)]= [(0,a),(1,c)]:=by
 have hr:Wbb [(0,a),(1,c)]=true:=by
  unfold Wbb Wmq W7 Wbg;simp;omega
 have e:∀i:Int,Wbc [(0,a),(1,c)] i=if i=1 then some c else if i=0 then some a else none:=λi=>by
  unfold Wbc;rw[if_pos hr];show WdF [(0,a),(1,c)] i 2=_;unfold WdF;show(if(1:Int)=i then some c else WdF [(0,a),(1,c)] i 1)=_;unfold WdF;show(if(1:Int)=i then some c else if(0:Int)=i then some a else WdF [(0,a),(1,c)] i 0)=_;unfold WdF;by_cases h1:i=1
  .rw[if_pos h1.symm,if_pos h1]
  .rw[if_neg (λh=>h1 h.symm),if_neg h1];by_cases h0:i=0
   .rw[if_pos h0.symm,if_pos h0]
   .rw[if_neg (λh=>h0 h.symm),if_neg h0]
 rw[Wkg];simp only[e];rfl
def cmt(d:BD)(x:Rt):Prop:=d.wr=true/\((x.phase=5/\(x.cm.phase=4\/x.cm.phase=5))\/(x.phase=7/\x.fate=1)\/x.phase=8)
structure BR(b:Int->Int)(m:Mm)(H:List Wr)(C:Nat->Option Cm)(d:BD)(x:Rt):Prop where
 mrk:x.marks= []
 un:x.undos= []
 ph:x.phase=0\/x.phase=1\/x.phase=5\/x.phase=6\/x.phase=7\/x.phase=8
 run:x.phase=1->∃(a c:Int) (pc:Nat),pc<=d.len/\x.pc=pc/\x.regs=(d.st a c pc).1/\x.reads=(d.st a c pc).2.1/\x.writes=(d.st a c pc).2.2/\(1<=pc->RC b m H C x.rv 0 a)/\(2<=pc->RC b m H C x.rv 1 c)/\PBs b m H x/\(x.busy=true->pc<=1/\x.pb.1=pc)/\(0<=x.rv/\x.rv<=m.1)
 cm:x.phase=5->d.wr=true/\x.fate=1/\∃a c:Int,x.cm.puts=(d.st a c d.len).2.2/\x.cm.reads= [0,1]/\RC b m H C x.cm.rv 0 a/\RC b m H C x.cm.rv 1 c/\0<=x.cm.rv/\(x.cm.phase=3->x.cm.rv<x.cm.wv/\(1<=x.cm.pos->RC b m H C (x.cm.wv-1) 0 a))
 f6:x.phase=6->x.fate=0
 f7:x.phase=7->x.fate=0\/(x.fate=1/\d.wr=true)
 f8:x.phase=8->x.fate=1/\(d.wr=false->∃a c:Int,x.regs=(d.st a c d.len).1/\RC b m H C x.rv 0 a/\RC b m H C x.rv 1 c)
theorem BR.keep(h:BR b m H C d x)(hK:∀v i x,RC b m H C v i x->RC b m' H' C' v i x)(hm:Mono b m H m' H')(h1:m.1<=m'.1):BR b m' H' C' d x:=by
 refine⟨h.mrk,h.un,h.ph,λgy=>?_,λh5=>?_,h.f6,h.f7,λh8=>?_⟩
 .obtain⟨a,c,pc,e1,e2,e3,e4,e5,e6,e7,e8,e9,eD⟩:=h.run gy;exact⟨a,c,pc,e1,e2,e3,e4,e5,λz=>hK _ _ _ (e6 z),λz=>hK _ _ _ (e7 z),e8.mono hm,e9,by omega⟩
 .obtain⟨e0,Ax,a,c,e1,e2,e3,e4,e5,e6⟩:=h.cm h5;exact⟨e0,Ax,a,c,e1,e2,hK _ _ _ e3,hK _ _ _ e4,e5,λz=>⟨(e6 z).1,λy=>hK _ _ _ ((e6 z).2 y)⟩⟩
 .obtain⟨e1,e2⟩:=h.f8 h8;exact⟨e1,λz=>by
   obtain⟨a,c,f1,f2,f3⟩:=e2 z;exact⟨a,c,f1,hK _ _ _ f2,hK _ _ _ f3⟩⟩
theorem Wrc:BR b m H C d (WbZ x)↔x.undos= []:=
 ⟨λh=>h.un,λhu=>⟨rfl,hu,.inr (.inr (.inr (.inl rfl))),λh=>by(change (6:Int)=1 at h;omega),λh=>by(change (6:Int)=5 at h;omega),λ_=>rfl,λh=>by(change (6:Int)=7 at h;omega),λh=>by(change (6:Int)=8 at h;omega)⟩⟩
def BH(b:Int->Int)(w:Wo)(x:Rt)(k:Nat)(d:BD)(q:Wo×Rt)(C':Nat->Option Cm):Prop:=
 (q.1.hist=w.hist/\(cmt d q.2↔cmt d x))\/
 (∃a c wv:Int,q.1.hist=w.hist++ [(wv,(k:Int)+1,(d.st a c d.len).2.2)]/\RC b q.1.mem q.1.hist C' (wv-1) 0 a/\RC b q.1.mem q.1.hist C' (wv-1) 1 c/\¬cmt d x/\cmt d q.2/\d.wr=true/\∀h∈w.hist,h.1≠wv)
theorem WoM(h:¬(x.phase=5/\(x.cm.phase=4\/x.cm.phase=5)))(h7:¬(x.phase=7/\x.fate=1))(h8:x.phase≠8):¬cmt d x:=λhc=>by
 rcases hc.2 with z|z|z
 .exact h z
 .exact h7 z
 .exact h8 z
theorem Wt0(ok:BDok d)(hh:w.holds= [])(h:BR b w.mem w.hist C d x)(h1:x.phase=1){pc:Nat}(aF:x.pc=pc)(hL:d.len<=pc)(hK:∀v i z,RC b w.mem w.hist C v i z->RC b w.mem w.hist C' v i z)(li:k<=8)(jb:∀r∈x.reads,0<=r.2/\r.2<=65535):
  (W6 w x k 1).1.holds= []/\BR b w.mem w.hist C' d (W6 w x k 1).2/\(W6 w x k 1).1.hist=w.hist/\(d.wr=true->¬cmt d (W6 w x k 1).2):=by
 obtain⟨a,c,cu,e1,e2,e3,e4,e5,e6,e7,e8,e9,eD⟩:=h.run h1;have hp:cu=d.len:=by omega
 subst hp;have h2:=ok.l2;have jJ:=hK _ _ _ (e6 (by omega));have gi:=hK _ _ _ (e7 (by omega));have qC:=ok.hr a c d.len h2 (Xn _);rw[qC]at e4;cases fo:d.wr with
 |false=>
  have hw:=ok.nw a c fo;rw[hw]at e5;have e:W6 w x k 1=Wjh w {x with fate:=1,stamp:=x.rv} k:=by
   unfold W6;simp only;rw[if_neg (show¬(1:Int)=2 by omega),if_pos ⟨by rw[e5];rfl,by rw[hh];rfl⟩]
  rw[e];refine⟨hh,⟨h.mrk,rfl,.inr (.inr (.inr (.inr (.inr rfl)))),λh=>by(change (8:Int)=1 at h;omega),λh=>by(change (8:Int)=5 at h;omega),λh=>by(change (8:Int)=6 at h;omega),λh=>by(change (8:Int)=7 at h;omega),λ_=>⟨rfl,λ_=>⟨a,c,e3,jJ,gi⟩⟩⟩,rfl,λh=>by cases h⟩
 |true=>
  obtain⟨u,v,f1,f2,f3⟩:=ok.yw a c fo;have e:W6 w x k 1=(w,{x with fate:=1,cm:=Wa5 ((k:Int)+1) x.rv x.writes x.reads,phase:=5}):=by
   unfold W6;simp only;rw[if_neg (show¬(1:Int)=2 by omega),if_neg (λz=>by have:=z.1;rw[e5,f1]at this;simp at this)]
  rw[e];have va:0<=a/\a<=65535:=jb (0,a) (by rw[e4];simp);have vc:0<=c/\c<=65535:=jb (1,c) (by rw[e4];simp);have n1:WcN x.writes= [(0,u),(1,v)]:=by rw[e5,f1];exact WwO f2 f3
  have n2:WcN x.reads= [(0,a),(1,c)]:=by rw[e4];exact WwO va vc
  have ec:Wa5 ((k:Int)+1) x.rv x.writes x.reads={who:=(k:Int)+1,rv:=x.rv,phase:=1,puts:=[(0,u),(1,v)],reads:=[0,1]}:=by
   unfold Wa5;rw[n1,n2];rfl
  rw[ec];refine⟨hh,⟨h.mrk,h.un,.inr (.inr (.inl rfl)),λh=>by(change (5:Int)=1 at h;omega),λ_=>⟨fo,rfl,a,c,f1.symm,rfl,jJ,gi,eD.1,λz=>by(change (1:Int)=3 at z;omega)⟩,λh=>by(change (5:Int)=6 at h;omega),λh=>by(change (5:Int)=7 at h;omega),λh=>by(change (5:Int)=8 at h;omega)⟩,rfl,λ_=>?_⟩;exact WoM (λz=>by have:=z.2;(change (1:Int)=4\/(1:Int)=5 at this;omega)) (λz=>by have:=z.1;(change (5:Int)=7 at this;omega)) (by show(5:Int)≠8;omega)
end
section
variable{b:Int->Int}{s:Sc}{w v:Wo}{n:Int}{x y:Rt}{k:Nat}{m m':Mm}{H H':List Wr}{C C':Nat->Option Cm}{d:BD}{a c:Int}
def BQ(b:Int->Int)(w:Wo)(x:Rt)(k:Nat)(d:BD)(q:Wo×Rt)(C':Nat->Option Cm):Prop:=
 q.1.holds= []/\BR b q.1.mem q.1.hist C' d q.2/\BH b w x k d q C'
theorem WqZ(h:x.marks= []):Wy x=WbZ x:=by unfold Wy;rw[if_pos (.inl (by rw[h];rfl))]
theorem WtK{z:Int}(h:x.phase=z)(h5:z≠5)(h7:z≠7)(h8:z≠8):¬cmt d x:=WoM (λq=>by omega) (λq=>by omega) (by omega)
theorem Wns(hh:w.holds= [])(hu:x.undos= [])(hc:¬cmt d x)(hw:v.holds= [])(hm:v.hist=w.hist):BQ b w x k d (v,WbZ x) C':=
 ⟨hw,Wrc.2 hu,.inl ⟨hm,⟨λh=>absurd h (WtK (z:=6) rfl (by omega) (by omega) (by omega)),λh=>absurd h hc⟩⟩⟩
theorem Wwi(ok:BDok d)(hh:w.holds= [])(h:BR b w.mem w.hist C d x)(h1:x.phase=1)(hM:MI b w.mem w.hist C)(hl:CL2 w.mem C)(cn:w.mem.1<=1000000)(ht:RT x)(hK:∀v i z,RC b w.mem w.hist C v i z->RC b w.mem w.hist C' v i z)(li:k<=8)(jb:∀r∈x.reads,0<=r.2/\r.2<=65535):
  BQ b w x k d (Wdx w x k d.p) C':=by
 obtain⟨a,c,pc,e1,e2,e3,e4,e5,e6,e7,e8,e9,eD⟩:=h.run h1;have h2:=ok.l2;have ku:¬cmt d x:=WtK h1 (by omega) (by omega) (by omega);have one:∀y:Rt,y.phase=1->BR b w.mem w.hist C' d y->BQ b w x k d (w,y) C':=λy hy hb=>⟨hh,hb,.inl ⟨rfl,⟨λh=>absurd h (WtK hy (by omega) (by omega) (by omega)),λh=>absurd h ku⟩⟩⟩;have n1:∀y:Rt,y.phase=1->∀z:Int,z≠1->y.phase≠z:=λy hy z hz=>by omega
 unfold Wdx;by_cases cg:x.pc>=d.p.1.length
 .rw[if_pos cg];obtain⟨c1,c2,c3,c4⟩:=Wt0 ok hh h h1 e2 (by have:=ok.pl;omega) hK li jb;refine⟨c1,?_,.inl ⟨c3,⟨λhc=>absurd hc (c4 hc.1),λhc=>absurd hc ku⟩⟩⟩;have em:(W6 w x k 1).1.mem=w.mem:=WgK;rw[em,c3];exact c2
 .have dX:=ok.pl;have rd:∀(o:Opn),o.1=5->o.2.2.1=pc->o.2.1=pc->pc<=1->opN d.p.1 x.pc=o->(∀val:Int,RC b w.mem w.hist C x.rv pc val->∃a' c':Int,Wlw x.regs o.2.1 val=(d.st a' c' (pc+1)).1/\x.reads++ [(o.2.2.1,val)]=(d.st a' c' (pc+1)).2.1/\x.writes=(d.st a' c' (pc+1)).2.2/\RC b w.mem w.hist C x.rv 0 a'/\(1<=pc->RC b w.mem w.hist C x.rv 1 c'))->x.writes= []->
    BQ b w x k d (let o:=opN d.p.1 x.pc
     if o.1=5 then(w,Wci w x o)else if o.1=10 then WbL w x k d.p.1 else if o.1=11 then(w,{x with phase:=2,fam:=WaA x.rv x.regs x.writes d.p.2.length})else if o.1>=12 then Wbs w x k o else if o.1=6 then(w,{x with writes:=x.writes++ [(o.2.1,Wbi x.regs o.2.2.1 0)],pc:=x.pc+1})else if o.1=7 then(w,{x with pc:=(if Wbi x.regs o.2.1 0=0 then x.pc+o.2.2.1 else x.pc)+1})else if o.1=8 then(w,{x with marks:=x.marks++ [(x.pc,(x.reads.length:Int),(x.writes.length:Int),(x.undos.length:Int),x.regs)],pc:=x.pc+1})else if o.1=9 then(w,{x with marks:=x.marks.dropLast,regs:=Wlw x.regs (opN d.p.1 x.last.1).2.1 1,pc:=x.pc+1})else(w,{x with regs:=WkD o x.regs,pc:=x.pc+1})) C':=λo Ay yz hor od Az cM jA=>by
   simp only[Az];rw[if_pos Ay];have AA:=Wtp (x:=x) (o:=o) hM hl cn e8 ht.pb (λhb=>by rw[(e9 hb).2,yz]) eD (by omega) (by rw[jA];rfl);rcases AA with e|⟨pb,e,eP,ec⟩|⟨val,e,eR⟩
   .have ecf:Wy {x with busy:=true,pb:=(WV w.mem x.rv (if x.busy then x.pb else(o.2.2.1,0,0,0)))}=WbZ x:=WqZ h.mrk;rw[e,ecf];exact Wns hh h.un ku hh rfl
   .rw[e];refine one _ h1 ⟨h.mrk,h.un,.inr (.inl h1),λ_=>⟨a,c,pc,e1,e2,e3,e4,e5,λz=>hK _ _ _ (e6 z),λz=>hK _ _ _ (e7 z),eP,λ_=>⟨od,by show pb.1=_;omega⟩,eD⟩,λz=>absurd z (n1 _ h1 5 (by omega)),λz=>absurd z (n1 _ h1 6 (by omega)),λz=>absurd z (n1 _ h1 7 (by omega)),λz=>absurd z (n1 _ h1 8 (by omega))⟩
   .rw[e];rw[yz]at eR;obtain⟨a',c',f1,f2,f3,f4,f5⟩:=cM val eR;refine one _ h1 ⟨h.mrk,h.un,.inr (.inl h1),λ_=>⟨a',c',pc+1,by omega,by show x.pc+1=_;omega,f1,f2,f3,λ_=>hK _ _ _ f4,λz=>hK _ _ _ (f5 (by omega)),PBs.no rfl,(λz=>by cases z),eD⟩,λz=>absurd z (n1 _ h1 5 (by omega)),λz=>absurd z (n1 _ h1 6 (by omega)),λz=>absurd z (n1 _ h1 7 (by omega)),λz=>absurd z (n1 _ h1 8 (by omega))⟩
  by_cases gu:pc=0
  .subst gu;rw[if_neg cg];rw[ok.h0]at e3 e4 e5;refine rd (5,0,0,0) rfl rfl rfl (by omega) (by rw[e2];exact ok.o0) (λval hv=>⟨val,0,?_,?_,?_,hv,λz=>by omega⟩) e5
   .rw[ok.h1,e3];rfl
   .rw[ok.h1,e4];rfl
   .rw[ok.h1,e5]
  .by_cases od:pc=1
   .subst od;rw[if_neg cg];rw[ok.h1]at e3 e4 e5;refine rd (5,1,1,0) rfl rfl rfl (by omega) (by rw[e2];exact ok.o1) (λval hv=>⟨a,val,?_,?_,?_,e6 (by omega),λ_=>hv⟩) e5
    .rw[ok.h2,e3];rfl
    .rw[ok.h2,e4];rfl
    .rw[ok.h2,e5]
   .have hs:=ok.hc w x k a c pc (by omega) (by omega) e2 e3 e5;unfold Wdx at hs;rw[hs];have AB:¬x.busy=true:=λhb=>by have:=(e9 hb).1;omega
    refine one _ h1 ⟨h.mrk,h.un,.inr (.inl h1),λ_=>⟨a,c,pc+1,by omega,by show x.pc+1=_;omega,rfl,?_,rfl,λz=>hK _ _ _ (e6 (by omega)),λz=>hK _ _ _ (e7 (by omega)),⟨e8.cell,e8.rv,e8.one,e8.two⟩,λz=>absurd z AB,eD⟩,λz=>absurd z (n1 _ h1 5 (by omega)),λz=>absurd z (n1 _ h1 6 (by omega)),λz=>absurd z (n1 _ h1 7 (by omega)),λz=>absurd z (n1 _ h1 8 (by omega))⟩;show x.reads=_;rw[e4,ok.hr a c pc (by omega) (by omega),ok.hr a c (pc+1) (by omega) (by omega)]
end
section
variable{b:Int->Int}{s:Sc}{w v:Wo}{n:Int}{x y:Rt}{k:Nat}{m m':Mm}{H H':List Wr}{C C':Nat->Option Cm}{d:BD}{a c:Int}
theorem Wnw(h:BR b m H C d x)(h5:x.phase=5){c':Cm}{a c:Int}(fo:d.wr=true)(hf:x.fate=1)(hp:c'.puts=(d.st a c d.len).2.2)(hr:c'.reads= [0,1])(hv:c'.rv=x.cm.rv)(hv0:0<=x.cm.rv)(ra:RC b m' H' C' x.cm.rv 0 a)(rc:RC b m' H' C' x.cm.rv 1 c)(h3:c'.phase=3->c'.rv<c'.wv/\(1<=c'.pos->RC b m' H' C' (c'.wv-1) 0 a)):
  BR b m' H' C' d (Wab {x with cm:=c'})/\(cmt d (Wab {x with cm:=c'})↔c'.phase=4\/c'.phase=5\/c'.phase=6):=by
 by_cases h8:c'.phase=8
 .have e:Wab {x with cm:=c'}=WbZ x:=by unfold Wab;rw[if_pos h8];rfl
  rw[e];exact⟨Wrc.2 h.un,⟨λz=>absurd z (WtK (z:=6) rfl (by omega) (by omega) (by omega)),λz=>by omega⟩⟩
 .by_cases h6:c'.phase=6
  .have e:Wab {x with cm:=c'}={x with stamp:=c'.wv,cm:={},phase:=7}:=by
    unfold Wab;rw[if_neg h8,if_pos h6];simp only[hf,if_neg (show¬(1:Int)=2 by omega)]
   rw[e];refine⟨⟨h.mrk,h.un,.inr (.inr (.inr (.inr (.inl rfl)))),λz=>by(change (7:Int)=1 at z;omega),λz=>by(change (7:Int)=5 at z;omega),λz=>by(change (7:Int)=6 at z;omega),λ_=>.inr ⟨hf,fo⟩,λz=>by(change (7:Int)=8 at z;omega)⟩,⟨λ_=>.inr (.inr h6),λ_=>⟨fo,.inr (.inl ⟨rfl,hf⟩)⟩⟩⟩
  .have e:Wab {x with cm:=c'}={x with cm:=c'}:=by unfold Wab;rw[if_neg h8,if_neg h6]
   rw[e];refine⟨⟨h.mrk,h.un,h.ph,λz=>by(change x.phase=1 at z;omega),λ_=>⟨fo,hf,a,c,hp,hr,by show RC b m' H' C' c'.rv 0 a;rw[hv];exact ra,by show RC b m' H' C' c'.rv 1 c;rw[hv];exact rc,by show 0<=c'.rv;omega,h3⟩,λz=>by(change x.phase=6 at z;omega),λz=>by(change x.phase=7 at z;omega),λz=>by(change x.phase=8 at z;omega)⟩,⟨λz=>?_,λz=>⟨fo,.inl ⟨h5,?_⟩⟩⟩⟩
   .rcases z.2 with z|z|z
    .rcases z.2 with q|q
     .exact .inl q
     .exact .inr (.inl q)
    .have:=z.1;(change x.phase=7 at this;omega)
    ·(change x.phase=8 at z;omega)
   .show c'.phase=4\/c'.phase=5;omega
theorem WwA(ok:BDok d)(hh:w.holds= [])(h:BR b w.mem w.hist C d x)(h5:x.phase=5)(hM:MI b w.mem w.hist C)(hl:CL2 w.mem C)(hm:WY w.mem=true)(cn:w.mem.1<1000000)(aI:CmOk x.cm)(hC:C k=some x.cm)(jx:x.cm.phase≠6/\x.cm.phase≠8)(lM:RX x)
  (hK:∀v i z,RC b w.mem w.hist C v i z->RC b (Wq w x k d.p).1.mem (Wq w x k d.p).1.hist C' v i z):BQ b w x k d (Wq w x k d.p) C':=by
 obtain⟨fo,hf,a,c,e1,e2,ra,rc,e5,e6⟩:=h.cm h5;have AC:=aI.phase;have e0:Wq w x k d.p=W4 w x k:=by
  unfold Wq;rw[if_neg (by omega),if_neg (by omega),if_neg (by omega),if_neg (by omega),if_neg (by omega),if_neg (by omega),if_pos h5]
 have uH:cmt d x↔x.cm.phase=4\/x.cm.phase=5:=by
  refine⟨λz=>?_,λz=>⟨fo,.inl ⟨h5,z⟩⟩⟩;rcases z.2 with z|z|z
  .exact z.2
  .omega
  .omega
 by_cases hd:x.doomed=false
 .obtain⟨q1,q2,q3⟩:=Wls (w:=w) (x:=x) (k:=k) (p:=d.p) h5 hd;have lq:(Wq w x k d.p).1.holds= []:=by
   rw[e0];unfold W4;rw[if_neg (by rw[hd];simp)];exact hh
  have wW:=hK _ _ _ ra;have wX:=hK _ _ _ rc;have back:∀n:Int,(Wi w.mem x.cm).2=WS x.cm n->¬(x.cm.phase=4\/x.cm.phase=5)->BQ b w x k d (Wq w x k d.p) C':=λn en bZ=>by
   obtain⟨p1,p2,p3⟩:=WbM x.cm n;have pr:(WS x.cm n).reads=x.cm.reads/\(WS x.cm n).rv=x.cm.rv:=by unfold WS;split<;>exact⟨rfl,rfl⟩
   have pb:=Wdl x.cm n;obtain⟨b1,b2⟩:=Wnw (C':=C') (m':=(Wq w x k d.p).1.mem) (H':=(Wq w x k d.p).1.hist) h h5 (c':=WS x.cm n) fo hf (by rw[p1];exact e1) (by rw[pr.1];exact e2) pr.2 e5 wW wX (λz=>by omega);have eh:(Wq w x k d.p).1.hist=w.hist:=by rw[q2,en];unfold WaZ;rw[if_neg (λz=>by have:=z.2;omega)]
   have jw:(Wq w x k d.p).2=Wab {x with cm:=WS x.cm n}:=by rw[q3,en]
   refine⟨lq,by rw[jw];exact b1,.inl ⟨eh,?_⟩⟩;rw[jw,b2,uH];exact⟨λz=>by omega,λz=>absurd z bZ⟩
  have same:∀c':Cm,(Wi w.mem x.cm).2=c'->c'.puts=x.cm.puts->c'.reads=x.cm.reads->c'.rv=x.cm.rv->¬(x.cm.phase<=3/\c'.phase=4)->(c'.phase=3->c'.rv<c'.wv/\(1<=c'.pos->RC b (Wq w x k d.p).1.mem (Wq w x k d.p).1.hist C' (c'.wv-1) 0 a))->((c'.phase=4\/c'.phase=5\/c'.phase=6)↔(x.cm.phase=4\/x.cm.phase=5))->BQ b w x k d (Wq w x k d.p) C':=λc' en p1 p2 p3 hn h3 wY=>by
   obtain⟨b1,b2⟩:=Wnw (C':=C') (m':=(Wq w x k d.p).1.mem) (H':=(Wq w x k d.p).1.hist) h h5 (c':=c') fo hf (by rw[p1];exact e1) (by rw[p2];exact e2) p3 e5 wW wX h3;have eh:(Wq w x k d.p).1.hist=w.hist:=by rw[q2,en];unfold WaZ;rw[if_neg hn]
   have jw:(Wq w x k d.p).2=Wab {x with cm:=c'}:=by rw[q3,en]
   refine⟨lq,by rw[jw];exact b1,.inl ⟨eh,?_⟩⟩;rw[jw,b2,uH];exact wY
  have npr:∀ph,(Wh x.cm ph).reads=x.cm.reads/\(Wh x.cm ph).rv=x.cm.rv:=λph=>by unfold Wh Wco;split<;>exact⟨rfl,rfl⟩
  obtain⟨u,vv,f1,f2,f3⟩:=ok.yw a c fo;have dX:x.cm.puts.length=2:=by rw[e1,f1];rfl
  have cZ:x.cm.reads.length=2:=by rw[e2];rfl
  have bK:=aI.pos;by_cases h1:x.cm.phase=1
  .by_cases hfree:(Wg w.mem (Wbi x.cm.puts x.cm.pos (0,0)).1).2.2=0
   .have en:(Wi w.mem x.cm).2=Wh x.cm 2:=by unfold Wi;simp only;rw[if_pos h1,if_pos hfree]
    have hp:(Wh x.cm 2).phase=1\/(Wh x.cm 2).phase=2:=by
     unfold Wh;split
     .right;show Wal x.cm 2=2;unfold Wal;rw[if_neg (by omega),if_neg (by omega)]
     .left;exact h1
    exact same _ en (Wat x.cm 2).1 (npr 2).1 (npr 2).2 (λz=>by have:=z.2;omega) (λz=>by omega) ⟨λz=>by omega,λz=>by omega⟩
   .exact back x.cm.pos (by unfold Wi;simp only;rw[if_pos h1,if_neg hfree]) (by omega)
  by_cases h2:x.cm.phase=2
  .have et:tick w.mem=((w.mem.1+1,w.mem.2),w.mem.1+1):=by unfold tick;rw[if_pos cn]
   have h0:=(Wt hm).2.1;have en:(Wi w.mem x.cm).2={x.cm with wv:=w.mem.1+1,phase:=3,pos:=0}:=by
    unfold Wi;simp only;rw[if_neg h1,if_pos h2,et];simp only;rw[if_neg (by omega)];unfold Wco;have:Wal {x.cm with wv:=w.mem.1+1} 3=3:=by
     unfold Wal;rw[if_neg (λz=>by have:=z.2;simp only at this;omega),if_neg (λz=>by have:=z.2;simp only at this;omega)]
    rw[this]
   refine same _ en rfl rfl rfl (λz=>by have:=z.2;simp only at this;omega) (λ_=>⟨?_,λz=>?_⟩) ⟨λz=>by simp only at z;omega,λz=>by omega⟩
   .show x.cm.rv<w.mem.1+1;have:=ra.clk;omega
   .simp only at z;omega
  by_cases h3:x.cm.phase=3
  .obtain⟨g1,g2⟩:=e6 h3;have ay:x.cm.steps=2:=by unfold Cm.steps;rw[if_neg (by omega),if_pos h3,cZ];rfl
   by_cases hbad:((Wg w.mem (Wbi x.cm.reads x.cm.pos 0)).2.2≠0/\(Wg w.mem (Wbi x.cm.reads x.cm.pos 0)).2.2≠x.cm.who)\/(Wg w.mem (Wbi x.cm.reads x.cm.pos 0)).2.1>x.cm.rv
   .exact back x.cm.puts.length (by unfold Wi;simp only;rw[if_neg h1,if_neg h2,if_pos h3,if_pos hbad]) (by omega)
   .have en:(Wi w.mem x.cm).2=Wh x.cm 4:=by unfold Wi;simp only;rw[if_neg h1,if_neg h2,if_pos h3,if_neg hbad]
    by_cases gu:x.cm.pos=0
    .have eg:Wbi x.cm.reads x.cm.pos 0=0:=by rw[gu,e2];rfl
     rw[eg]at hbad;have hr:=WuI (i:=0) (by omega) hM hl hC h3 g1 e5 (by omega) (by omega) (by unfold owner;omega) (by omega) ra;have e4:Wh x.cm 4={x.cm with pos:=1}:=by unfold Wh;rw[if_neg (by omega),gu];rfl
     rw[e4]at en;exact same _ en rfl rfl rfl (λz=>by have:=z.2;simp only at this;omega) (λ_=>⟨g1,λ_=>hK _ _ _ hr⟩) ⟨λz=>by simp only at z;omega,λz=>by omega⟩
    .have od:x.cm.pos=1:=by omega
     have eg:Wbi x.cm.reads x.cm.pos 0=1:=by rw[od,e2];rfl
     rw[eg]at hbad;have hr:=WuI (i:=1) (by omega) hM hl hC h3 g1 e5 (by omega) (by omega) (by unfold owner;omega) (by omega) rc;have e4:Wh x.cm 4={x.cm with phase:=4,pos:=0}:=by
      unfold Wh;rw[if_pos (by omega)];unfold Wco;have:Wal x.cm 4=4:=by unfold Wal;rw[if_neg (λz=>by have:=z.2;omega),if_neg (by omega)]
      rw[this]
     rw[e4]at en;obtain⟨b1,b2⟩:=Wnw (C':=C') (m':=(Wq w x k d.p).1.mem) (H':=(Wq w x k d.p).1.hist) h h5 (c':={x.cm with phase:=4,pos:=0}) fo hf e1 e2 rfl e5 wW wX (λz=>by(change (4:Int)=3 at z;omega));have jw:(Wq w x k d.p).2=Wab {x with cm:={x.cm with phase:=4,pos:=0}}:=by rw[q3,en]
     refine⟨lq,by rw[jw];exact b1,.inr ⟨a,c,x.cm.wv,?_,hK _ _ _ (g2 (by omega)),hK _ _ _ hr,by rw[uH];omega,by rw[jw,b2];exact .inl rfl,fo,(hM.fr k x.cm hC h3).2.2⟩⟩;rw[q2,en];unfold WaZ;rw[if_pos ⟨by omega,rfl⟩,←e1]
  by_cases h4:x.cm.phase=4
  .have en:(Wi w.mem x.cm).2=Wh x.cm 5:=by unfold Wi;simp only;rw[if_neg h1,if_neg h2,if_neg h3,if_pos h4]
   have hp:(Wh x.cm 5).phase=4\/(Wh x.cm 5).phase=5:=by
    unfold Wh;split
    .right;exact WoC x.cm
    .left;exact h4
   exact same _ en (Wat x.cm 5).1 (npr 5).1 (npr 5).2 (λz=>by have:=z.1;omega) (λz=>by omega) ⟨λ_=>.inl h4,λ_=>by omega⟩
  by_cases qG:x.cm.phase=5
  .have en:(Wi w.mem x.cm).2=Wh x.cm 6:=by unfold Wi;simp only;rw[if_neg h1,if_neg h2,if_neg h3,if_neg h4,if_pos qG]
   have hp:(Wh x.cm 6).phase=5\/(Wh x.cm 6).phase=6:=by
    unfold Wh;split
    .right;exact Wo8 x.cm
    .left;exact qG
   exact same _ en (Wat x.cm 6).1 (npr 6).1 (npr 6).2 (λz=>by have:=z.1;omega) (λz=>by omega) ⟨λ_=>.inr qG,λ_=>by omega⟩
  .have h7:x.cm.phase=7:=by omega
   exact back x.cm.pos (by unfold Wi;simp only;rw[if_neg h1,if_neg h2,if_neg h3,if_neg h4,if_neg qG,if_pos h7]) (by omega)
 .have cO:x.doomed=true:=by simpa using hd
  have qm:x.cm.phase<=3:=by
   rcases lM.doom cO with e|e
   .omega
   .exact e.2
  have ku:¬cmt d x:=by rw[uH];omega
  have e:Wq w x k d.p=(w,if(Wx x.cm).phase=8 then WbZ x else{x with cm:=Wx x.cm,doomed:=false}):=by
   rw[e0];unfold W4;rw[if_pos cO]
  rw[e]at hK⊢;by_cases h8:(Wx x.cm).phase=8
  .rw[if_pos h8];exact Wns hh h.un ku hh rfl
  .rw[if_neg h8];have AD:(Wx x.cm).phase=7/\(Wx x.cm).puts=x.cm.puts/\(Wx x.cm).reads=x.cm.reads/\(Wx x.cm).rv=x.cm.rv:=by
    have key:∀n:Int,Wx x.cm=WS x.cm n->(Wx x.cm).phase=7/\(Wx x.cm).puts=x.cm.puts/\(Wx x.cm).reads=x.cm.reads/\(Wx x.cm).rv=x.cm.rv:=λn en=>by
     rw[en]at h8⊢;have:=Wdl x.cm n;refine⟨by omega,?_⟩;unfold WS;split<;>exact⟨rfl,rfl,rfl⟩
    by_cases h1:x.cm.phase=1
    .exact key x.cm.pos (by unfold Wx;rw[if_pos h1])
    .exact key x.cm.puts.length (by unfold Wx;rw[if_neg h1,if_pos (by omega)])
   obtain⟨b7,bp,br,bv⟩:=AD;refine⟨hh,⟨h.mrk,h.un,h.ph,λz=>by(change x.phase=1 at z;omega),λ_=>⟨fo,hf,a,c,by rw[←e1];exact bp,by rw[←e2];exact br,by show RC b w.mem w.hist C' (Wx x.cm).rv 0 a;rw[bv];exact hK _ _ _ ra,by show RC b w.mem w.hist C' (Wx x.cm).rv 1 c;rw[bv];exact hK _ _ _ rc,by show 0<=(Wx x.cm).rv;omega,λz=>by(change (Wx x.cm).phase=3 at z;omega)⟩,λz=>by(change x.phase=6 at z;omega),λz=>by(change x.phase=7 at z;omega),λz=>by(change x.phase=8 at z;omega)⟩,.inl ⟨rfl,⟨λz=>?_,λz=>absurd z ku⟩⟩⟩;rcases z.2 with z|z|z
   .have:=z.2;(change (Wx x.cm).phase=4\/(Wx x.cm).phase=5 at this;omega)
   .have:=z.1;(change x.phase=7 at this;omega)
   ·(change x.phase=8 at z;omega)
end
section
variable{b:Int->Int}{s:Sc}{w v:Wo}{n:Int}{x y:Rt}{k:Nat}{m m':Mm}{H H':List Wr}{C C':Nat->Option Cm}{d:BD}{D:Nat->BD}{a:Ac}
theorem Wvr(ok:BDok d)(hh:w.holds= [])(h:BR b w.mem w.hist C d x)(hM:MI b w.mem w.hist C)(hl:CL2 w.mem C)(hm:WY w.mem=true)(cn:w.mem.1<1000000)(hx:ROk d.p n x)(ht:RT x)(hC:x.phase=5->C k=some x.cm)(lM:RX x)(li:k<=8)
  (hK:∀v i z,RC b w.mem w.hist C v i z->RC b (Wq w x k d.p).1.mem (Wq w x k d.p).1.hist C' v i z):BQ b w x k d (Wq w x k d.p) C':=by
 have AE:=(Wt hm).2.1;by_cases h5:x.phase=5
 .exact WwA ok hh h h5 hM hl hm cn (hx.comm h5) (hC h5) (ht.cm h5) lM hK
 revert hK;have eu:=h.un;unfold Wq;by_cases hd:x.doomed=true/\1<=x.phase/\x.phase<=4
 .rw[if_pos hd];intro hK;exact Wns hh eu (WoM (λz=>by omega) (λz=>by omega) (by omega)) hh rfl
 rw[if_neg hd];by_cases h0:x.phase=0
 .rw[if_pos h0];have ku:¬cmt d x:=WtK h0 (by omega) (by omega) (by omega);have stay:∀v:Wo,v.holds= []->v.mem=w.mem->v.hist=w.hist->(∀u i z,RC b w.mem w.hist C u i z->RC b v.mem v.hist C' u i z)->BQ b w x k d (v,x) C':=λv v1 v2 v3 hK=>⟨v1,h.keep hK (by rw[v2,v3];exact Mono.refl) (by rw[v2];exact Xp _),.inl ⟨v3,Iff.rfl⟩⟩;unfold Wc9;split
  .intro hK;exact stay w hh rfl rfl hK
  .split
   .intro hK;exact stay _ hh rfl rfl hK
   .split
    .intro hK;exact stay w hh rfl rfl hK
    .intro hK;refine⟨hh,⟨rfl,rfl,.inr (.inl rfl),λ_=>⟨0,0,0,by omega,rfl,by rw[ok.h0],by rw[ok.h0],by rw[ok.h0],λz=>by omega,λz=>by omega,PBs.no rfl,(λz=>by cases z),AE,Xp _⟩,λz=>by(change (1:Int)=5 at z;omega),λz=>by(change (1:Int)=6 at z;omega),λz=>by(change (1:Int)=7 at z;omega),λz=>by(change (1:Int)=8 at z;omega)⟩,.inl ⟨rfl,⟨λz=>absurd z (WtK (z:=1) rfl (by omega) (by omega) (by omega)),λz=>absurd z ku⟩⟩⟩
 rw[if_neg h0];by_cases h1:x.phase=1
 .rw[if_pos h1];intro hK;have e:=(Wle (w:=w) (x:=x) (k:=k) (p:=d.p) (by omega));have e2:Wq w x k d.p=Wdx w x k d.p:=by
   unfold Wq;rw[if_neg hd,if_neg h0,if_pos h1]
  rw[e2]at e;rw[e.mem,e.hist]at hK;exact Wwi ok hh h h1 hM hl (by omega) ht hK li (λr hr=>((hx.live (by omega)).reads r hr).2)
 have hp:=h.ph;rw[if_neg h1,if_neg (by omega),if_neg (by omega),if_neg (by omega),if_neg h5];by_cases h6:x.phase=6
 .rw[if_pos h6,if_neg (by rw[eu];simp)];intro hK;have ku:¬cmt d x:=WtK h6 (by omega) (by omega) (by omega);have hf:=h.f6 h6;refine⟨hh,⟨h.mrk,eu,.inr (.inr (.inr (.inr (.inl rfl)))),λz=>by(change (7:Int)=1 at z;omega),λz=>by(change (7:Int)=5 at z;omega),λz=>by(change (7:Int)=6 at z;omega),λ_=>.inl hf,λz=>by(change (7:Int)=8 at z;omega)⟩,.inl ⟨rfl,⟨λz=>?_,λz=>absurd z ku⟩⟩⟩;rcases z.2 with z|z|z
  .have:=z.1;(change (7:Int)=5 at this;omega)
  .have:=z.2;(change x.fate=1 at this;omega)
  ·(change (7:Int)=8 at z;omega)
 rw[if_neg h6];by_cases h7:x.phase=7
 .rw[if_pos h7];have oa:W2 w.holds ((k:Int)+1)= []:=by rw[hh];rfl
  by_cases hf:x.fate=0
  .rw[if_pos hf];intro hK;have ku:¬cmt d x:=WoM (λz=>by omega) (λz=>by omega) (by omega);exact⟨oa,⟨rfl,rfl,.inl rfl,λz=>by(change (0:Int)=1 at z;omega),λz=>by(change (0:Int)=5 at z;omega),λz=>by(change (0:Int)=6 at z;omega),λz=>by(change (0:Int)=7 at z;omega),λz=>by(change (0:Int)=8 at z;omega)⟩,.inl ⟨rfl,⟨λz=>absurd z (WtK (z:=0) rfl (by omega) (by omega) (by omega)),λz=>absurd z ku⟩⟩⟩
  .rw[if_neg hf];intro hK;obtain⟨f1,f2⟩:=(h.f7 h7).resolve_left hf;refine⟨oa,⟨h.mrk,rfl,.inr (.inr (.inr (.inr (.inr rfl)))),λz=>by(change (8:Int)=1 at z;omega),λz=>by(change (8:Int)=5 at z;omega),λz=>by(change (8:Int)=6 at z;omega),λz=>by(change (8:Int)=7 at z;omega),λ_=>⟨f1,λz=>by rw[f2]at z;cases z⟩⟩,.inl ⟨rfl,⟨λ_=>⟨f2,.inr (.inl ⟨h7,f1⟩)⟩,λ_=>⟨f2,.inr (.inr rfl)⟩⟩⟩⟩
 .rw[if_neg h7];intro hK;exact⟨hh,h.keep hK Mono.refl (Xp _),.inl ⟨rfl,Iff.rfl⟩⟩
structure BW(b:Int->Int)(D:Nat->BD)(w:Wo):Prop where
 root:∀(k:Nat) (h:k<w.roots.length),BR b w.mem w.hist (Wcq w.roots) (D k) w.roots[k]
 holds:w.holds= []
 hist:∀h∈w.hist,∃(k:Nat) (a c:Int),k<w.roots.length/\(D k).wr=true/\h.2.1=(k:Int)+1/\h.2.2=((D k).st a c (D k).len).2.2/\RC b w.mem w.hist (Wcq w.roots) (h.1-1) 0 a/\RC b w.mem w.hist (Wcq w.roots) (h.1-1) 1 c
 cnt:∀(k:Nat) (h:k<w.roots.length),(cmt (D k) w.roots[k]->w.hist.countP (λh=>decide (h.2.1=(k:Int)+1))=1)/\(¬cmt (D k) w.roots[k]->w.hist.countP (λh=>decide (h.2.1=(k:Int)+1))=0)
 dist:w.hist.Pairwise λa c=>a.1≠c.1
theorem Wwz{q:Wo×Rt}(h:BW b D w)(hk:k<w.roots.length)(hr:q.1.roots=w.roots)(hK:Keep b w.mem w.hist (Wcq w.roots) q.1.mem q.1.hist (Wdm (Wcq w.roots) k (cmX q.2)))(hm:Mono b w.mem w.hist q.1.mem q.1.hist)(h1:w.mem.1<=q.1.mem.1)(hq:BQ b w w.roots[k] k (D k) q (Wdm (Wcq w.roots) k (cmX q.2))):BW b D (Wo.put q k):=by
 have hlen:(q.1.roots.set k q.2).length=w.roots.length:=by rw[Xad,hr]
 have ie:Wcq (Wo.put q k).roots=Wdm (Wcq w.roots) k (cmX q.2):=by
  show Wcq (q.1.roots.set k q.2)=_;rw[hr,Wgo hk]
 have ca:∀(i:Nat) (hi:i<w.roots.length),(q.1.roots.set k q.2)[i]'(by rw[hlen];exact hi)=if k=i then q.2 else w.roots[i]:=λi hi=>by
  rw[Xao];simp only[hr]
 obtain⟨q1,q2,q3⟩:=hq;refine⟨λi hi=>?_,q1,λe he=>?_,λi hi=>?_,?_⟩
 .change i<(q.1.roots.set k q.2).length at hi;have d9:i<w.roots.length:=by rw[←hlen];exact hi
  rw[ie];show BR b q.1.mem q.1.hist _ (D i) ((q.1.roots.set k q.2)[i]'hi);rw[ca i d9];by_cases e:k=i
  .subst e;rw[if_pos rfl];exact q2
  .rw[if_neg e];exact(h.root i d9).keep hK.2 hm h1
 .rw[ie];show∃(j:Nat) (a c:Int),j<(q.1.roots.set k q.2).length/\_;rw[hlen];have old:e∈w.hist->∃(j:Nat) (a c:Int),j<w.roots.length/\(D j).wr=true/\e.2.1=(j:Int)+1/\e.2.2=((D j).st a c (D j).len).2.2/\RC b q.1.mem q.1.hist (Wdm (Wcq w.roots) k (cmX q.2)) (e.1-1) 0 a/\RC b q.1.mem q.1.hist (Wdm (Wcq w.roots) k (cmX q.2)) (e.1-1) 1 c:=λhe=>by
   obtain⟨j,a,c,e1,e2,e3,e4,e5,e6⟩:=h.hist e he;exact⟨j,a,c,e1,e2,e3,e4,hK.2 _ _ _ e5,hK.2 _ _ _ e6⟩
  change e∈q.1.hist at he;rcases q3 with⟨g1,g2⟩|⟨a,c,wv,g1,g2,g3,g4,g5,g6,g7⟩
  .rw[g1]at he;exact old he
  .rw[g1]at he;rcases Xm.1 he with he|he
   .exact old he
   .rw[Xz]at he;subst he;exact⟨k,a,c,hk,g6,rfl,rfl,g2,g3⟩
 .change i<(q.1.roots.set k q.2).length at hi;have d9:i<w.roots.length:=by rw[←hlen];exact hi
  show(cmt (D i) ((q.1.roots.set k q.2)[i]'hi)->Xfz (λh=>decide (h.2.1=(i:Int)+1)) q.1.hist=1)/\(¬cmt (D i) ((q.1.roots.set k q.2)[i]'hi)->Xfz (λh=>decide (h.2.1=(i:Int)+1)) q.1.hist=0);rw[ca i d9];obtain⟨o1,o2⟩:=h.cnt i d9;rcases q3 with⟨g1,g2⟩|⟨a,c,wv,g1,g2,g3,g4,g5,g6,g7⟩
  .rw[g1];by_cases e:k=i
   .subst e;rw[if_pos rfl,g2];exact⟨o1,o2⟩
   .rw[if_neg e];exact⟨o1,o2⟩
  .rw[g1,List.countP_append,List.countP_singleton];by_cases e:k=i
   .subst e;rw[if_pos rfl];simp only[decide_true,if_true];exact⟨λ_=>by rw[o2 g4],λz=>absurd g5 z⟩
   .rw[if_neg e];have:decide ((k:Int)+1=(i:Int)+1)=false:=decide_eq_false (by omega);simp only[this,Bool.false_eq_true,if_false,Nat.add_zero];exact⟨o1,o2⟩
 .show q.1.hist.Pairwise λa c=>a.1≠c.1;rcases q3 with⟨g1,g2⟩|⟨a,c,wv,g1,g2,g3,g4,g5,g6,g7⟩
  .rw[g1];exact h.dist
  .rw[g1,List.pairwise_append];refine⟨h.dist,List.pairwise_singleton ..,λe he e' jG=>?_⟩;rw[Xz]at jG;subst jG;exact g7 e he
theorem WvI(h:BW b D w)(hk:k<w.roots.length)(hy:y={w.roots[k]with doomed:=true}):BW b D (Wo.put ({w with now:=w.now+1},y) k):=by
 have hx:=h.root k hk;have hb:BR b w.mem w.hist (Wcq w.roots) (D k) y:=by rw[hy];exact⟨hx.mrk,hx.un,hx.ph,λz=>by
  obtain⟨a,c,pc,e1,e2,e3,e4,e5,e6,e7,e8,e9,eD⟩:=hx.run z;exact⟨a,c,pc,e1,e2,e3,e4,e5,e6,e7,⟨e8.cell,e8.rv,e8.one,e8.two⟩,e9,eD⟩,hx.cm,hx.f6,hx.f7,hx.f8⟩
 have hc:cmX y=cmX w.roots[k]:=by rw[hy];rfl
 have hs:Wdm (Wcq w.roots) k (cmX y)=Wcq w.roots:=by
  rw[hc,←WkG hk];funext j;unfold Wdm;split
  .rename_i e;rw[e]
  .rfl
 have ie:Wcq (w.roots.set k y)=Wcq w.roots:=by rw[Wgo hk,hs]
 refine⟨λi hi=>?_,h.holds,λe he=>?_,λi hi=>?_,h.dist⟩
 .change i<(w.roots.set k y).length at hi;have d9:i<w.roots.length:=by rw[Xad]at hi;exact hi
  show BR b w.mem w.hist (Wcq (w.roots.set k y)) (D i) ((w.roots.set k y)[i]'hi);rw[ie,Xao];by_cases e:k=i
  .subst e;rw[if_pos rfl];exact hb
  .rw[if_neg e];exact h.root i d9
 .obtain⟨j,a,c,e1,e2⟩:=h.hist e he;show∃(j:Nat) (a c:Int),j<(w.roots.set k y).length/\_/\_/\_/\RC b w.mem w.hist (Wcq (w.roots.set k y)) _ _ _/\RC b w.mem w.hist (Wcq (w.roots.set k y)) _ _ _;rw[ie,Xad];exact⟨j,a,c,e1,e2⟩
 .change i<(w.roots.set k y).length at hi;have d9:i<w.roots.length:=by rw[Xad]at hi;exact hi
  show(cmt (D i) ((w.roots.set k y)[i]'hi)->_)/\(¬cmt (D i) ((w.roots.set k y)[i]'hi)->_);rw[Xao];by_cases e:k=i
  .subst e;rw[if_pos rfl];have:cmt (D k) y↔cmt (D k) w.roots[k]:=by rw[hy];exact Iff.rfl
   rw[this];exact h.cnt k d9
  .rw[if_neg e];exact h.cnt i d9
theorem WlX(h:BW b D w):BW b D {w with now:=w.now+1}:=⟨h.root,h.holds,h.hist,h.cnt,h.dist⟩
structure BA(b:Int->Int)(D:Nat->BD)(s:Sc)(n:Int)(w:Wo):Prop where
 wi:WI s n w
 mi:MI b w.mem w.hist (Wcq w.roots)
 bw:BW b D w
theorem WvY(hD:∀k,k<s.2.1.length->BDok (D k)/\s.2.1.getD k pg0=(D k).p)(h:BA b D s n w)(hn:n<=99999):BA b D s (n+1) (Wc4 s w a):=by
 have hW:=h.wi;refine⟨hW.act a,(WsQ hW.ok hW.lx hW.wx hW.wt (by omega) h.mi).1,?_⟩;have hlen:=hW.ok.len;have kp:=hW.ok.l4;have cn:w.mem.1<1000000:=by have:=hW.wt.clk;have:=hW.ok.now;omega
 unfold Wc4;simp only;split
 .rename_i hb;have hk:a.2.1.toNat<w.roots.length:=by omega
  rw[Wf hk];split
  .unfold Wh6;rw[Wf (show a.2.1.toNat<({w with now:=w.now+1}:Wo).roots.length from hk)];generalize a.2.1.toNat=k at*;obtain⟨d1,d2⟩:=hD k (by omega);rw[d2];have hx:=hW.ok.root k hk;rw[d2]at hx;have hr:=Whg hW.ok hk;rw[d2]at hr;have jm:=Wo2 (p:=(D k).p) hW.ok hW.lx hW.wx hW.wt (by omega) h.mi hk rfl hr;unfold WtX at jm;change Keep b w.mem w.hist (Wcq w.roots) (Wq {w with now:=w.now+1} w.roots[k] k (D k).p).1.mem (Wq {w with now:=w.now+1} w.roots[k] k (D k).p).1.hist (Wcq ((Wq {w with now:=w.now+1} w.roots[k] k (D k).p).1.roots.set k (Wq {w with now:=w.now+1} w.roots[k] k (D k).p).2))at jm;rw[hr,Wgo hk]at jm;have vi:=WtA (b:=b) (p:=(D k).p) hW.ok hW.wx hk rfl;have h1:w.mem.1<=(Wq {w with now:=w.now+1} w.roots[k] k (D k).p).1.mem.1:=(Wr7 (n:=n) (hW.wx k hk) hx ⟨hW.ok.mem,hW.ok.shelf,hW.ok.holds⟩ (w:={w with now:=w.now+1}) (k:=k) ⟨(hW.lx.root k hk).cm,(hW.lx.root k hk).no,(hW.lx.root k hk).hd,(hW.lx.root k hk).tk⟩).clk;have hcl:CL2 w.mem (Wcq w.roots):=Wsb hW.ok hW.lx;have ay:=Wvr (w:={w with now:=w.now+1}) (C:=Wcq w.roots) (C':=Wdm (Wcq w.roots) k (cmX (Wq {w with now:=w.now+1} w.roots[k] k (D k).p).2)) (k:=k) d1 h.bw.holds (h.bw.root k hk) h.mi hcl hW.ok.mem cn hx (hW.wt.root k hk) (λh5=>by rw[WkG hk];unfold cmX;rw[if_pos h5]) (hW.wx k hk) (by omega) jm.2;have uz:=Wwz (w:={w with now:=w.now+1}) (q:=Wq {w with now:=w.now+1} w.roots[k] k (D k).p) (WlX h.bw) hk hr jm vi h1 ay;exact uz
  .split
   .split
    .rename_i hc;have:=(h.bw.root _ hk).ph;omega
    .exact WlX h.bw
   .split
    .split
     .exact WvI h.bw hk rfl
     .exact WlX h.bw
    .exact WlX h.bw
 .exact WlX h.bw
theorem Ws7(hD:∀k,k<s.2.1.length->BDok (D k)/\s.2.1.getD k pg0=(D k).p):∀(l:List Ac) (n:Int) (w:Wo),BA b D s n w->n+l.length<=99999->BA b D s (n+l.length) (l.foldl (Wc4 s) w)
 | [],n,w,h,_=>by simpa using h
 |e::l,n,w,h,hn=>by
  simp only[Xu]at hn
  push_cast at hn
  have:=Ws7 hD l (n+1) _ (WvY (a:=e) hD h (by omega)) (by omega);rw[show n+((e::l).length:Int)=n+1+(l.length:Int) by simp;omega];exact this
end
section
def trP(n:Int):Pg:=([(5,0,0,0),(5,1,1,0),(1,2,n,0),(3,0,0,2),(2,1,1,2),(6,0,0,0),(6,1,1,0)],[])
def lkP:Pg:=([(5,0,0,0),(5,1,1,0),(2,2,0,1)],[])
def trU(n a:Int):Int:=(a-n+65536)%65536
def Wsq(n c:Int):Int:=(c+n)%65536
def WqF(n a c:Int):Nat->BSt
 |0=>([0,0,0,0],[],[])
 |1=>([a,0,0,0],[(0,a)],[])
 |2=>([a,c,0,0],[(0,a),(1,c)],[])
 |3=>([a,c,n,0],[(0,a),(1,c)],[])
 |4=>([trU n a,c,n,0],[(0,a),(1,c)],[])
 |5=>([trU n a,Wsq n c,n,0],[(0,a),(1,c)],[])
 |6=>([trU n a,Wsq n c,n,0],[(0,a),(1,c)],[(0,trU n a)])
 |_=>([trU n a,Wsq n c,n,0],[(0,a),(1,c)],[(0,trU n a),(1,Wsq n c)])
def Wws(a c:Int):Nat->BSt
 |0=>([0,0,0,0],[],[])
 |1=>([a,0,0,0],[(0,a)],[])
 |2=>([a,c,0,0],[(0,a),(1,c)],[])
 |_=>([a,c,(a+c)%65536,0],[(0,a),(1,c)],[])
def trD(n:Int):BD:=⟨trP n,WqF n,7,true⟩
def lkD:BD:=⟨lkP,Wws,3,false⟩
theorem Wwc:BDok lkD where
 pl:=rfl
 l2:=by show 2<=3;omega
 o0:=rfl
 o1:=rfl
 h0:=λ_ _=>rfl
 h1:=λ_ _=>rfl
 h2:=λ_ _=>rfl
 hr:=λa c pc h2 h3=>by
  change pc<=3 at h3;have:pc=2\/pc=3:=by omega
  rcases this with e|e<;>subst e<;>rfl
 hc:=λw x k a c pc h2 h3 aF hr hw=>by
  change pc<3 at h3;have:pc=2:=by omega
  subst this;have er:WkD (2,2,0,1) x.regs=(Wws a c 3).1:=by rw[hr];rfl
  have ew:x.writes=(Wws a c 3).2.2:=by rw[hw];rfl
  have e:opN lkP.1 x.pc=(2,2,0,1):=by rw[aF];rfl
  show Wdx w x k lkP=(w,{x with regs:=(Wws a c 3).1,writes:=(Wws a c 3).2.2,pc:=x.pc+1});unfold Wdx;rw[if_neg (by rw[aF];show¬((2:Nat):Int)>=((3:Nat):Int);omega)];simp only[e];rw[if_neg (by omega),if_neg (by omega),if_neg (by omega),if_neg (by omega),if_neg (by omega),if_neg (by omega),if_neg (by omega),if_neg (by omega),er,←ew]
 nw:=λ_ _ _=>rfl
 yw:=λ_ _ h=>by cases h
theorem WuX(n:Int):BDok (trD n) where
 pl:=rfl
 l2:=by show 2<=7;omega
 o0:=rfl
 o1:=rfl
 h0:=λ_ _=>rfl
 h1:=λ_ _=>rfl
 h2:=λ_ _=>rfl
 hr:=λa c pc h2 h3=>by
  change pc<=7 at h3;have:pc=2\/pc=3\/pc=4\/pc=5\/pc=6\/pc=7:=by omega
  rcases this with e|e|e|e|e|e<;>subst e<;>rfl
 hc:=λw x k a c pc h2 h3 aF hr hw=>by
  change pc<7 at h3;have hlt:¬x.pc>=((trP n).1.length:Int):=by show¬x.pc>=((7:Nat):Int);omega
  have lr:∀(o:Opn),opN (trP n).1 x.pc=o->1<=o.1->o.1<=4->WkD o x.regs=(WqF n a c (pc+1)).1->x.writes=(WqF n a c (pc+1)).2.2->Wdx w x k (trP n)=(w,{x with regs:=(WqF n a c (pc+1)).1,writes:=(WqF n a c (pc+1)).2.2,pc:=x.pc+1}):=λo ho h1 h4 er ew=>by
   unfold Wdx;rw[if_neg hlt];simp only[ho];rw[if_neg (by omega),if_neg (by omega),if_neg (by omega),if_neg (by omega),if_neg (by omega),if_neg (by omega),if_neg (by omega),if_neg (by omega),er,←ew]
  have fo:∀(o:Opn),opN (trP n).1 x.pc=o->o.1=6->x.regs=(WqF n a c (pc+1)).1->x.writes++ [(o.2.1,Wbi x.regs o.2.2.1 0)]=(WqF n a c (pc+1)).2.2->Wdx w x k (trP n)=(w,{x with regs:=(WqF n a c (pc+1)).1,writes:=(WqF n a c (pc+1)).2.2,pc:=x.pc+1}):=λo ho h6 er ew=>by
   unfold Wdx;rw[if_neg hlt];simp only[ho];rw[if_neg (by omega),if_neg (by omega),if_neg (by omega),if_neg (by omega),if_pos h6,ew,←er]
  show Wdx w x k (trP n)=(w,{x with regs:=(WqF n a c (pc+1)).1,writes:=(WqF n a c (pc+1)).2.2,pc:=x.pc+1});change x.regs=(WqF n a c pc).1 at hr;change x.writes=(WqF n a c pc).2.2 at hw;have:pc=2\/pc=3\/pc=4\/pc=5\/pc=6:=by omega
  rcases this with e|e|e|e|e<;>subst e
  .exact lr (1,2,n,0) (by rw[aF];rfl) (by simp) (by simp) (by rw[hr];rfl) (by rw[hw];rfl)
  .exact lr (3,0,0,2) (by rw[aF];rfl) (by simp) (by simp) (by rw[hr];rfl) (by rw[hw];rfl)
  .exact lr (2,1,1,2) (by rw[aF];rfl) (by simp) (by simp) (by rw[hr];rfl) (by rw[hw];rfl)
  .exact fo (6,0,0,0) (by rw[aF];rfl) rfl (by rw[hr];rfl) (by rw[hw,hr];rfl)
  .exact fo (6,1,1,0) (by rw[aF];rfl) rfl (by rw[hr];rfl) (by rw[hw,hr];rfl)
 nw:=λ_ _ h=>by cases h
 yw:=λa c _=>⟨trU n a,Wsq n c,rfl,by unfold trU;omega,by unfold Wsq;omega⟩
theorem WwS:WlF lkP=true:=by
 simp[WlF,WnX,bal,WlO,WnN,Was,opd,dep,frk,lkP,Wj,W7,Wbg,beq]
theorem WuN{n:Int}(h:0<=n/\n<=65535):WlF (trP n)=true:=by
 have hv:Wbg n=true:=Wa4.2 h;simp[WlF,WnX,bal,WlO,WnN,Was,opd,dep,frk,trP,Wj,W7,hv,beq]
theorem Wwh{s:Sc}(hc:Vals 8 s.1.1):MI (λi=>s.1.1.getD i.toNat 0) (Wee s).mem (Wee s).hist (Wcq (Wee s).roots):=by
 have bZ:∀k c,Wcq (Wee s).roots k=some c->False:=λk c h=>by
  obtain⟨hk,h5,_⟩:=Wng h;have:(Wee s).roots[k].phase=0:=by simp only[Wee,Xbj]
  omega
 refine⟨(λh hh=>by cases hh),λk c h=>absurd h (λh=>bZ k c h),λk k' c c' _ h=>absurd h (λh=>bZ k c h),λi h0 h7 _=>?_,λk c h=>absurd h (λh=>bZ k c h)⟩;have hl:=hc.len;have hi:i.toNat<s.1.1.length:=by omega
 have e:Wg (Wee s).mem i=(s.1.1.getD i.toNat 0,0,0):=by
  unfold Wg Wbi Wee Wj4;simp only;rw[Wf (by simpa using hi),Wf hi,Xdx];rfl
 rw[e];exact⟨rfl,rfl⟩
theorem WwG{s:Sc}{b:Int->Int}{D:Nat->BD}:BW b D (Wee s):=by
 have h0:∀(k:Nat) (h:k<(Wee s).roots.length),(Wee s).roots[k]={}:=λk h=>by simp only[Wee,Xbj]
 refine⟨λk h=>?_,rfl,(λh hh=>by cases hh),λk h=>?_,List.Pairwise.nil⟩
 .rw[h0 k h];exact⟨rfl,rfl,.inl rfl,λz=>by(change (0:Int)=1 at z;omega),λz=>by(change (0:Int)=5 at z;omega),λz=>by(change (0:Int)=6 at z;omega),λz=>by(change (0:Int)=7 at z;omega),λz=>by(change (0:Int)=8 at z;omega)⟩
 .rw[h0 k h];exact⟨λz=>absurd z (WtK (z:=0) rfl (by omega) (by omega) (by omega)),λ_=>rfl⟩
theorem Www{s:Sc}{D:Nat->BD}(aI:WjV s=true):BA (λi=>s.1.1.getD i.toNat 0) D s 0 (Wee s):=
 ⟨⟨WiP aI,WuR,WsJ aI,Wsn,Wsd⟩,Wwh (WeH aI).1.cells,WwG⟩
theorem WwD{b i:Int}{H:List Wr}{g1 g2:Wr}{x1 x2:Int}(hH:H= [g1,g2]\/H= [g2,g1])(h1:1<=g1.1)(dv:g1.1<g2.1)(p1:pick g1.2.2 i=some x1)(p2:pick g2.2.2 i=some x2)(v:Int):
  (bst b i v H).2=if v<g1.1 then b else if v<g2.1 then x1 else x2:=by
 have u1:∀r,WhI i v r g1=if g1.1<=v/\r.1<g1.1 then(g1.1,x1)else r:=λr=>by unfold WhI;rw[p1]
 have u2:∀r,WhI i v r g2=if g2.1<=v/\r.1<g2.1 then(g2.1,x2)else r:=λr=>by unfold WhI;rw[p2]
 rcases hH with e|e
 .rw[e];show(WhI i v (WhI i v (0,b) g1) g2).2=_;rw[u1,u2];by_cases a:v<g1.1
  .rw[if_neg (λz=>by have:=z.1;omega),if_neg (λz=>by have:=z.1;omega),if_pos a]
  .rw[if_pos (show g1.1<=v/\(0:Int)<g1.1 from⟨by omega,by omega⟩),if_neg a];by_cases c:v<g2.1
   .rw[if_neg (λz=>by have:=z.1;omega),if_pos c]
   .rw[if_pos (show g2.1<=v/\g1.1<g2.1 from⟨by omega,dv⟩),if_neg c]
 .rw[e];show(WhI i v (WhI i v (0,b) g2) g1).2=_;rw[u2,u1];by_cases a:v<g1.1
  .rw[if_neg (λz=>by have:=z.1;omega),if_neg (λz=>by have:=z.1;omega),if_pos a]
  .rw[if_neg a];by_cases c:v<g2.1
   .rw[if_neg (show¬(g2.1<=v/\(0:Int)<g2.1)fromλz=>by have:=z.1;omega),if_pos (show g1.1<=v/\(0:Int)<g1.1 from⟨by omega,by omega⟩),if_pos c]
   .rw[if_pos (show g2.1<=v/\(0:Int)<g2.1 from⟨by omega,by omega⟩),if_neg (show¬(g1.1<=v/\g2.1<g1.1)fromλz=>by have:=z.2;omega),if_neg c]
theorem Wh3{p q:Wr->Bool}:∀{H:List Wr},(∀h∈H,p h=true/\q h=false\/p h=false/\q h=true)->H.length=H.countP p+H.countP q
 | [],_=>rfl
 |h::H,hh=>by
  have ih:=Wh3 λg hg=>hh g (Xe _ hg);rw[Xu,Xcn,Xcn,ih];rcases hh h (Xi ..)with⟨e1,e2⟩|⟨e1,e2⟩<;>rw[e1,e2]<;>simp<;>omega
def bkD(n0 n2:Int)(k:Nat):BD:=if k=0 then trD n0 else if k=1 then lkD else trD n2
theorem Wul{b:Int->Int}{s:Sc}{n n0 n2:Int}{w:Wo}(h:BA b (bkD n0 n2) s n w)(hR:Rest w)(hlen:w.roots.length=3)(qJ:0<=b 0/\b 0<=65535)(xn:0<=b 1/\b 1<=65535)(qH:0<=n0/\n0<=65535)(tQ:0<=n2/\n2<=65535):
  ((Wg w.mem 0).1+(Wg w.mem 1).1)%65536=(b 0+b 1)%65536/\(Wg w.mem 1).1=(b 1+(n0+n2)%65536)%65536/\(0<=(Wg w.mem 0).1/\(Wg w.mem 0).1<=65535)/\
  ∃x:Rt,w.roots[1]?=some x/\x.fate=1/\x.regs.length=4/\x.regs.getD 2 0=(b 0+b 1)%65536:=by
 have h8:∀(k:Nat) (hk:k<w.roots.length),w.roots[k].phase=8:=λk hk=>hR.done _ (Xq hk);have fY:∀e∈w.hist,∃(k:Nat) (nn a c:Int),(k=0/\nn=n0\/k=2/\nn=n2)/\e.2.1=(k:Int)+1/\e.2.2= [(0,trU nn a),(1,Wsq nn c)]/\a=(bst (b 0) 0 (e.1-1) w.hist).2/\c=(bst (b 1) 1 (e.1-1) w.hist).2:=λe he=>by
  obtain⟨k,a,c,k1,k2,k3,k4,k5,k6⟩:=h.bw.hist e he;have hk:k=0\/k=1\/k=2:=by omega
  rcases hk with z|z|z
  .subst z;exact⟨0,n0,a,c,.inl ⟨rfl,rfl⟩,k3,k4,k5.val,k6.val⟩
  .subst z;cases k2
  .subst z;exact⟨2,n2,a,c,.inr ⟨rfl,rfl⟩,k3,k4,k5.val,k6.val⟩
 have c0:=(h.bw.cnt 0 (by omega)).1 ⟨rfl,.inr (.inr (h8 0 (by omega)))⟩;have c2:=(h.bw.cnt 2 (by omega)).1 ⟨rfl,.inr (.inr (h8 2 (by omega)))⟩;have hL:w.hist.length=2:=by
  rw[Wh3 (p:=λh=>decide (h.2.1=((0:Nat):Int)+1)) (q:=λh=>decide (h.2.1=((2:Nat):Int)+1)) (λe he=>?_),c0,c2];obtain⟨k,nn,a,c,hk,k3,_⟩:=fY e he;rcases hk with⟨z,_⟩|⟨z,_⟩<;>subst z<;>rw[k3]<;>simp
 have nP:=h.bw.dist;have ay:=h.mi.st;generalize hH:w.hist=H at*
 match H,hL with
 | [e1,e2],_=>
  have hne:e1.1≠e2.1:=by
   rw[List.pairwise_cons]at nP;exact nP.1 e2 (by simp)
  have s1:=ay e1 (by simp);have s2:=ay e2 (by simp);obtain⟨k1,m1,a1,d1,jg,w1,p1,r1,t1⟩:=fY e1 (by simp);obtain⟨k2,m2,a2,d2,fv,w2,p2,r2,t2⟩:=fY e2 (by simp);have jI:k1≠k2:=λz=>by
   subst z;have q1:Xfz (λh:Wr=>decide (h.2.1=((0:Nat):Int)+1)) [e1,e2]=1:=c0;have q2:Xfz (λh:Wr=>decide (h.2.1=((2:Nat):Int)+1)) [e1,e2]=1:=c2;rw[Xcn,Xcn,List.countP_nil,w1,w2]at q1 q2;rcases jg with⟨z,_⟩|⟨z,_⟩<;>subst z<;>simp at q1 q2
  have gN:(n0+n2)%65536=(m1+m2)%65536/\(0<=m1/\m1<=65535)/\(0<=m2/\m2<=65535):=by
   rcases jg with⟨z,y⟩|⟨z,y⟩<;>rcases fv with⟨z',y'⟩|⟨z',y'⟩
   .omega
   .subst y;subst y';exact⟨rfl,qH,tQ⟩
   .subst y;subst y';exact⟨by rw[Int.add_comm],tQ,qH⟩
   .omega
  have yA:∀u v:Int,pick [(0,u),(1,v)] 0=some u:=λu v=>rfl;have yB:∀u v:Int,pick [(0,u),(1,v)] 1=some v:=λu v=>rfl;have key:∀(g1 g2:Wr) (m1 m2 a1 d1 a2 d2:Int),([e1,e2]= [g1,g2]\/ [e1,e2]= [g2,g1])->1<=g1.1->g1.1<g2.1->g2.1<=1000000->g1.2.2= [(0,trU m1 a1),(1,Wsq m1 d1)]->g2.2.2= [(0,trU m2 a2),(1,Wsq m2 d2)]->
    a1=(bst (b 0) 0 (g1.1-1) [e1,e2]).2->d1=(bst (b 1) 1 (g1.1-1) [e1,e2]).2->a2=(bst (b 0) 0 (g2.1-1) [e1,e2]).2->d2=(bst (b 1) 1 (g2.1-1) [e1,e2]).2->(n0+n2)%65536=(m1+m2)%65536->(0<=m1/\m1<=65535)->(0<=m2/\m2<=65535)->
    ((top (b 0) 0 [e1,e2]).2+(top (b 1) 1 [e1,e2]).2)%65536=(b 0+b 1)%65536/\(top (b 1) 1 [e1,e2]).2=(b 1+(n0+n2)%65536)%65536/\(0<=(top (b 0) 0 [e1,e2]).2/\(top (b 0) 0 [e1,e2]).2<=65535)/\∀v,((bst (b 0) 0 v [e1,e2]).2+(bst (b 1) 1 v [e1,e2]).2)%65536=(b 0+b 1)%65536:=by
   intro g1 g2 m1 m2 a1 d1 a2 d2 hH h1 dv yd p1 p2 r1 t1 r2 t2 hs tT nZ;have f0:=λv=>WwD (b:=b 0) (i:=0) hH h1 dv (by rw[p1];exact yA _ _) (by rw[p2];exact yA _ _) v;have f1:=λv=>WwD (b:=b 1) (i:=1) hH h1 dv (by rw[p1];exact yB _ _) (by rw[p2];exact yB _ _) v;rw[f0,if_pos (by omega)]at r1;rw[f1,if_pos (by omega)]at t1;rw[f0,if_neg (by omega),if_pos (by omega)]at r2;rw[f1,if_neg (by omega),if_pos (by omega)]at t2;unfold top;rw[f0,f1,if_neg (by omega),if_neg (by omega),if_neg (by omega),if_neg (by omega)];subst r1 t1 r2 t2;unfold trU Wsq;refine⟨by omega,by omega,by omega,λv=>?_⟩;rw[f0,f1];unfold trU Wsq;split
   .omega
   .split<;>omega
  have fe:((top (b 0) 0 [e1,e2]).2+(top (b 1) 1 [e1,e2]).2)%65536=(b 0+b 1)%65536/\(top (b 1) 1 [e1,e2]).2=(b 1+(n0+n2)%65536)%65536/\(0<=(top (b 0) 0 [e1,e2]).2/\(top (b 0) 0 [e1,e2]).2<=65535)/\∀v,((bst (b 0) 0 v [e1,e2]).2+(bst (b 1) 1 v [e1,e2]).2)%65536=(b 0+b 1)%65536:=by
   have mI:=h.wi.wt.clk;have hmc:=(Wt h.wi.ok.mem).2.2.1;by_cases hlt:e1.1<e2.1
   .exact key e1 e2 m1 m2 a1 d1 a2 d2 (.inl rfl) s1.1 hlt (by omega) p1 p2 r1 t1 r2 t2 gN.1 gN.2.1 gN.2.2
   .exact key e2 e1 m2 m1 a2 d2 a1 d1 (.inr rfl) s2.1 (by omega) (by omega) p2 p1 r2 t2 r1 t1 (by rw[gN.1,Int.add_comm]) gN.2.2 gN.2.1
  obtain⟨y1,y2,y3,y4⟩:=fe;have hcl:=Wsb h.wi.ok h.wi.lx;obtain⟨m8,_,_,_⟩:=Wt h.wi.ok.mem;have hown:∀i:Int,0<=i->i<=7->owner w.mem i=0:=λi i0 i7=>by
   unfold owner Wg Wbi;rw[Wf (show i.toNat<w.mem.2.length by omega)];exact hR.own _ (Xq _)
  have oA:=h.mi;rw[hH]at oA;have t0:=Wk0 (i:=0) oA hcl (by omega) (by omega) (hown 0 (by omega) (by omega));have AF:=Wk0 (i:=1) oA hcl (by omega) (by omega) (hown 1 (by omega) (by omega));rw[t0.1,AF.1];refine⟨y1,y2,y3,w.roots[1]'(by omega),Xs (by omega),?_⟩;obtain⟨g1,g2⟩:=(h.bw.root 1 (by omega)).f8 (h8 1 (by omega));obtain⟨a,c,q1,q2,q3⟩:=g2 rfl;refine⟨g1,by rw[q1];rfl,?_⟩;rw[q1];show(a+c)%65536=_;have jw:=q2.val;have uv:=q3.val;rw[hH]at jw uv;rw[jw,uv];exact y4 _
theorem WpM{N:Nat}{m:Mm}(hm:WY m=true)(hN:1048576<N):Zb8 N m=ret (m.2.map (·.1)):=by
 obtain⟨m8,_,_,_⟩:=Wt hm;unfold Zb8;rw[Wa2 (by omega) hN,hm];simp only[ret,Xd,Xab,cond_false];have lp:∀(dd j n:Nat) (l:List Int),j+dd=m.2.length->dd<n->l=(m.2.take j).map (·.1)->
   Zc6 N m.2 (Wb m.2) (λaB aL bm=>(some ((),(bm,())))) n (j:Int) l=(some ((),(m.2.map (·.1),())):Option (Unit×(List Int×Unit))):=by
  intro dd
  induction dd with
  |zero=>
   intro j n l hj hn hl;obtain⟨n,rfl⟩:∃n',n=n'+1:=⟨n-1,by omega⟩;have:j=m.2.length:=by omega
   subst this;simp only[Zc6,WaH (Xn _),cond_false];rw[hl,List.take_length]
  |succ dd ih=>
   intro j n l hj hn hl;obtain⟨n,rfl⟩:∃n',n=n'+1:=⟨n-1,by omega⟩;have hlt:j<m.2.length:=by omega
   have ca:Xc m.2 (Xb (j:Int)) ((0:Int),((0:Int),(0:Int)))=m.2[j]:=WB hlt _;have aq:WG (l.length+ [m.2[j].1].length)=true:=WC (by rw[hl];simp;omega);simp only[Zc6,Wao hlt,Wv hlt,ca,aq,Wk (show j<4611686018427387904 by omega),cond_true,List.append_eq];refine ih (j+1) n _ (by omega) (by omega) ?_;rw[hl,List.take_succ_eq_append_getElem hlt,List.map_append];rfl
 exact lp m.2.length 0 N [] (by omega) (by omega) (by simp)
theorem Wvy{α:Type}(a:Option α):Wft a a=a:=by unfold Wft;simp
theorem Wqh{N:Nat}{code:List Int}(hw:∀x∈code,0<=x/\x<=255)(hN:1048576<N):Zjw N code=ret true:=by
 unfold Zjw Zrh;simp only[Xd];by_cases hb:code.length<=1048576
 .have e0:decide (Wb code>1048576)=false:=by simp[Wb];omega
  obtain⟨s,es,hs⟩:=Wmv hN hb;rw[e0,es];simp only[cond_false,ret,Xd];rw[Wjk hs hN];cases aI:WjV s with
  |false=>rfl
  |true=>
   obtain⟨v0,a0,b0,c0⟩:=Wu0 (N:=N) hw hb (i:=0) (by omega);obtain⟨v1,a1,b1,c1⟩:=Wu0 (N:=N) hw hb (i:=1) (by omega);have AG:Zag N code 0=ret v0:=a0;have AH:Zag N code 1=ret v1:=a1;have gZ:WdQ .i64 v1 200=v1*200:=WdN (by unfold I64;omega);have lK:∀n,Zay N n=ret (trP n):=λ_=>rfl;obtain⟨t1,t2,t3,t4⟩:=WeH aI;generalize bP:((s.1,[trP v0,lkP,trP (v1*200)],s.2.2):Sc)=s';have cR:s'.2.1= [trP v0,lkP,trP (v1*200)]:=by rw[←bP]
   have mM:WjV s'=true:=by
    rw[←bP];unfold WjV;simp only[Bool.and_eq_true,decide_eq_true_eq,Xae];refine⟨Wpt.2 t1,by simp,t3,λp hp=>?_⟩;simp only[Xo,Xfw,or_false]at hp;rcases hp with e|e|e
    .rw[e];exact WuN (by omega)
    .rw[e];exact WwS
    .rw[e];exact WuN (by omega)
   have uw:SB s':=by
    rw[←bP];refine{cells:=hs.cells,map:=hs.map,progs:=by simp,each:=λp hp=>?_,acts:=hs.acts};simp only[Xo,Xfw,or_false]at hp;rcases hp with e|e|e
    .rw[e];exact⟨by show 7<=1000;omega,Xbk _,λc hc=>by cases hc⟩
    .rw[e];exact⟨by show 3<=1000;omega,Xbk _,λc hc=>by cases hc⟩
    .rw[e];exact⟨by show 7<=1000;omega,Xbk _,λc hc=>by cases hc⟩
   have hD:∀k,k<s'.2.1.length->BDok (bkD v0 (v1*200) k)/\s'.2.1.getD k pg0=(bkD v0 (v1*200) k).p:=λk hk=>by
    rw[cR]at hk⊢;change k<3 at hk;have:k=0\/k=1\/k=2:=by omega
    rcases this with e|e|e<;>subst e
    .exact⟨WuX _,rfl⟩
    .exact⟨Wwc,rfl⟩
    .exact⟨WuX _,rfl⟩
   obtain⟨hR,hO,hn,m,hW⟩:=Wqy mM;obtain⟨l,lu,hl⟩:=WjT mM;have hA:=Ws7 hD (s'.2.2++l) 0 _ (Www mM) (by omega);rw[←hl]at hA;have an:=t1.cells;have ay:s'.1=s.1:=by rw[←bP]
   have ls:(WaM s' 6000 (Wek s')).1.roots.length=3:=by rw[hA.wi.ok.len,cR];rfl
   have v8:∀i:Nat,0<=s'.1.1.getD i 0/\s'.1.1.getD i 0<=65535:=λi=>by rw[ay];exact an.get i
   obtain⟨f1,f2,f3,x,f4,f5,f6,f7⟩:=Wul hA hR ls (v8 0) (v8 1) (by omega) (by omega);obtain⟨m8,_,_,_⟩:=Wt hR.mem;have hdr:=WrJ uw hN mM;simp only[AG,AH,ret,Xd,lK,gZ,Wvy,Xab,cond_false];have AI:(s.1,([trP v0,([((5:Int),((0:Int),((0:Int),(0:Int)))),((5:Int),((1:Int),((1:Int),(0:Int)))),((2:Int),((2:Int),((0:Int),(1:Int))))],([]:List Kx)),trP (v1*200)],s.2.2))=s':=bP;rw[AI,hdr];generalize WaM s' 6000 (Wek s')=q at*;have AJ:=WpM (N:=N) hR.mem hN;have eR:q.1.e.2.2.2.2.2.1=q.1.roots.map Rt.e:=rfl;have eM:q.1.e.2.2.1=q.1.mem:=rfl;simp only[Xd,eR,eM,AJ,ret];have l3:Wb (q.1.roots.map Rt.e)=3:=by unfold Wb;rw[Xaf,ls];rfl
   have lv:Wb (q.1.mem.2.map (·.1))=8:=by unfold Wb;rw[Xaf,m8];rfl
   have c8:=an.len;have i0:inb (0:Int) (Xa s.1.1)=true:=by unfold inb;rw[c8];rfl
   have i1:inb (1:Int) (Xa s.1.1)=true:=by unfold inb;rw[c8];rfl
   have j0:inb (0:Int) (Xa (q.1.mem.2.map (·.1)))=true:=by unfold inb;rw[Xaf,m8];rfl
   have j1:inb (1:Int) (Xa (q.1.mem.2.map (·.1)))=true:=by unfold inb;rw[Xaf,m8];rfl
   have k1:inb (1:Int) (Xa (q.1.roots.map Rt.e))=true:=by unfold inb;rw[Xaf,ls];rfl
   have gv:∀i:Nat,i<8->Xc (q.1.mem.2.map (·.1)) (Xb (i:Int)) 0=(Wg q.1.mem (i:Int)).1:=λi hi=>by
    unfold Wg Wbi;rw[Xj,Wf (by rw[Xaf];omega),Wf (show i<q.1.mem.2.length by omega),Xdx]
   have g0:=gv 0 (by omega);have g1:=gv 1 (by omega);have gr:Xc (q.1.roots.map Rt.e) (Xb (1:Int)) d_Root=x.e:=by
    have:(q.1.roots.map Rt.e)[1]?=some x.e:=by rw[List.getElem?_map,f4];rfl
    show Xc (q.1.roots.map Rt.e) 1 d_Root=x.e;rw[List.getD_eq_getElem?_getD,this];rfl
   have w0:=v8 0;have w1:=v8 1;have AK:Xc s.1.1 (Xb (0:Int)) 0=s'.1.1.getD 0 0:=by rw[ay];rfl
   have AL:Xc s.1.1 (Xb (1:Int)) 0=s'.1.1.getD 1 0:=by rw[ay];rfl
   have AM:((Wg q.1.mem 0).1+(Wg q.1.mem 1).1)%65536=(s'.1.1.getD 0 0+s'.1.1.getD 1 0)%65536:=f1;have AN:(Wg q.1.mem 1).1=(s'.1.1.getD 1 0+(v0+v1*200)%65536)%65536:=f2;have AO:x.regs.getD 2 0=(s'.1.1.getD 0 0+s'.1.1.getD 1 0)%65536:=f7;have r1:∀z:Int,0<=z->Wb7 z 65536=z%65536:=λz h=>WbT h;have a1:We .i64 (Wg q.1.mem 0).1 (Wg q.1.mem 1).1=(Wg q.1.mem 0).1+(Wg q.1.mem 1).1:=Ww (by unfold I64;omega);have a2:We .i64 (s'.1.1.getD 0 0) (s'.1.1.getD 1 0)=s'.1.1.getD 0 0+s'.1.1.getD 1 0:=Ww (by unfold I64;omega);have a3:We .i64 v0 (v1*200)=v0+v1*200:=Ww (by unfold I64;omega);have a4:We .i64 (s'.1.1.getD 1 0) ((v0+v1*200)%65536)=s'.1.1.getD 1 0+(v0+v1*200)%65536:=Ww (by unfold I64;omega);have ez:inz (65536:Int)=true:=rfl;have x1:x.e.2.2.2.2.2.2.2.1=x.fate:=rfl;have x2:x.e.2.2.2.2.2.2.2.2.2.2.2.2.1=x.regs:=rfl;have l4:Wb x.regs=4:=by unfold Wb;rw[f6];rfl
   have i2:inb (2:Int) (Xa x.regs)=true:=by unfold inb;rw[f6];rfl
   have AP:Xc (q.1.mem.2.map (·.1)) (Xb (0:Int)) 0=(Wg q.1.mem 0).1:=g0;have AQ:Xc (q.1.mem.2.map (·.1)) (Xb (1:Int)) 0=(Wg q.1.mem 1).1:=g1;have AR:Xc x.regs (Xb (2:Int)) 0=x.regs.getD 2 0:=rfl;have m1:=r1 ((Wg q.1.mem 0).1+(Wg q.1.mem 1).1) (by omega);have m2:=r1 (s'.1.1.getD 0 0+s'.1.1.getD 1 0) (by omega);have m3:=r1 (v0+v1*200) (by omega);have m4:=r1 (s'.1.1.getD 1 0+(v0+v1*200)%65536) (by omega);simp only[l3,lv,i0,i1,j0,j1,k1,AP,AQ,AR,gr,x1,x2,f5,l4,i2,ez,AK,AL,bne_self_eq_false,cond_false,cond_true,beq_self_eq_true,a1,a2,a3,m1,m2,m3,a4,m4,AM,AO,←AN]
 .have e0:decide (Wb code>1048576)=true:=by simp[Wb];omega
  rw[e0];rfl
theorem law_FnBank(d:Wfr [.v (.slice (.int .u8)) false])(hw:WoV [.v (.slice (.int .u8)) false] d):∃N o,Zjw N d.1=some (o,(true,())):=
 ⟨1048577,(),Wqh (N:=1048577) (λx hx=>bounds_u8 (hw.1.2 x hx)) (by omega)⟩
end
end Go.Sx
