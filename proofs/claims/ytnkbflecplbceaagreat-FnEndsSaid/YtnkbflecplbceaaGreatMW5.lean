/- Plain laws of the Lean functions. -/
import Derived.Test.YtnkbflecplbceaaGreatMW4
open Nat renaming le_refl→Xm,zero_le→Xbo
open List renaming countP_cons→Xdz,getElem_set→Xaq,getElem_set_ne→Xfa,all_eq_true→Xae,getElem_of_mem→Xat,foldl_append→Xfj,getElem_mem→Xt,mem_cons_self→Xi,length_map→Xaf,getElem_map→Xdo
open Int renaming le_refl→Xw
open Option renaming bind_some→Xc
open Bool renaming not_true→Xaa
namespace Go.Sx
set_option linter.unusedVariables false
set_option linter.unusedSimpArgs false
section
variable{s:Sc}{w v:Wo}{n:Int}{x y:Rt}{k i:Nat}{p:Pg}
theorem roots_rd(h0:WI s n w):∀(d i:Nat) (n':Int) (v:Wo),i+d=s.2.1.length→WI s n' v→n'+4*d≤99999→Rd s w v i→Rd s w (Wcl s d i v) s.2.1.length∧∃m,m≤n'+4*d∧WI s m (Wcl s d i v)
 |0,i,n',v,hi,hV,hn,hR=>by
  rw[Wcl,show s.2.1.length=i by omega]
  exact⟨hR,n',by omega,hV⟩
 |d+1,i,n',v,hi,hV,hn,hR=>by
  have hlw:=h0.ok.len
  have hB:=hR.step h0 ⟨n',by omega,hV⟩ (by omega)
  have h3:=pk3 hV.ok (i:=i) (by omega)
  have hW:=hV.blk (k:=i)
  obtain⟨a,m,hm,b⟩:=roots_rd h0 d (i+1) _ _ (by omega) hW (by omega) hB
  rw[Wcl]
  exact⟨a,m,by omega,b⟩
def undR(x:Rt):Bool:=decide (x.phase≠8)
def cntU(l:List Rt):Int:=(l.countP undR:Nat)
theorem cnt_le:∀(l l':List Rt),l'.length=l.length→(∀(j:Nat) (h:j<l.length) (h':j<l'.length),undR l'[j]=true→undR l[j]=true)→l'.countP undR≤l.countP undR
 | [],[],_,_=>Xm _
 | [],_::_,h,_=>by simp at h
 |_::_,[],h,_=>by simp at h
 |x::l,y::l',h,hp=>by
  have ih:=cnt_le l l' (by simpa using h) λj h1 h2 hu=>hp (j+1) (by simpa using h1) (by simpa using h2) hu
  have h0:undR y=true→undR x=true:=hp 0 (by simp) (by simp)
  rw[Xdz,Xdz]
  by_cases hy:undR y=true
  ·rw[if_pos hy,if_pos (h0 hy)];omega
  ·rw[if_neg hy];omega
theorem cnt_lt:∀(l l':List Rt),l'.length=l.length→(∀(j:Nat) (h:j<l.length) (h':j<l'.length),undR l'[j]=true→undR l[j]=true)→∀(k:Nat) (h:k<l.length) (h':k<l'.length),undR l[k]=true→undR l'[k]=false→l'.countP undR+1≤l.countP undR
 | [],_,_,_,k,h,_,_,_=>by simp at h
 |_::_,[],h,_,_,_,_,_,_=>by simp at h
 |x::l,y::l',h,hp,k,hk,hk',h1,h2=>by
  have h0:undR y=true→undR x=true:=hp 0 (by simp) (by simp)
  have hq:∀(j:Nat) (h:j<l.length) (h':j<l'.length),undR l'[j]=true→undR l[j]=true:=λj h1 h2 hu=>hp (j+1) (by simpa using h1) (by simpa using h2) hu
  rw[Xdz,Xdz]
  cases k with
  |zero=>
   have hx:undR x=true:=h1
   have hy:undR y=false:=h2
   have:=cnt_le l l' (by simpa using h) hq
   rw[if_pos hx,hy]
   simp;omega
  |succ k=>
   have ih:=cnt_lt l l' (by simpa using h) hq k (by simpa using hk) (by simpa using hk') h1 h2
   by_cases hy:undR y=true
   ·rw[if_pos hy,if_pos (h0 hy)];omega
   ·rw[if_neg hy];omega
theorem Wye{l:List Rt}{k:Nat}(h:k<l.length)(hu:l[k].phase≠8):cntU (l.set k {phase:=8})+1≤cntU l:=by
 have:=cnt_lt l (l.set k {phase:=8}) (by simp) (λj h1 h2 hu=>by
  rw[Xaq]at hu
  split at hu
  ·cases hu
  ·exact hu) k h (by simpa using h) (by unfold undR;simpa using hu) (by rw[List.getElem_set_self];rfl)
 unfold cntU;omega
theorem cntU_0(l:List Rt):0≤cntU l:=Int.natCast_nonneg _
theorem cnt_1{l:List Rt}{k:Nat}(h:k<l.length)(hu:l[k].phase≠8):1≤cntU l:=by
 have:=Wye h hu
 have:=cntU_0 (l.set k {phase:=8});omega
theorem cnt_2{l:List Rt}{k j:Nat}(h:k<l.length)(hj:j<l.length)(hne:k≠j)(hu:l[k].phase≠8)(hv:l[j].phase≠8):2≤cntU l:=by
 have:=Wye h hu
 have:=cnt_1 (l:=l.set k {phase:=8}) (k:=j) (by simpa using hj) (by rw[Xfa hne];exact hv)
 omega
theorem cnt_3{l:List Rt}{k j i:Nat}(h:k<l.length)(hj:j<l.length)(hi:i<l.length)(h1:k≠j)(h2:k≠i)(h3:j≠i)(hu:l[k].phase≠8)(hv:l[j].phase≠8)(hw:l[i].phase≠8):3≤cntU l:=by
 have:=Wye h hu
 have:=cnt_2 (l:=l.set k {phase:=8}) (k:=j) (j:=i) (by simpa using hj) (by simpa using hi) h3 (by rw[Xfa h1];exact hv) (by rw[Xfa h2];exact hw)
 omega
theorem cnt_4(l:List Rt)(h:l.length≤4):cntU l≤4:=by
 have:l.countP undR≤l.length:=List.countP_le_length
 unfold cntU;omega
def tr2(x:Rt):Int:=if x.tries≤2 then 786*(2-x.tries)else 0
def tr3(x:Rt):Int:=if x.tries≤3 then 786*(3-x.tries)else 0
def Bpt(p:Pg)(x:Rt):Int:=if x.phase=0 then tr3 x else if x.phase=8 then 0 else Wg p x+tr2 x
def KP(m:Mm)(p:Pg)(x:Rt)(K:Int):Prop:=(x.phase=0→494≤K)∧(x.phase≠0→Wg p x+494≤K∨(RGd m x∧Whg p x≤K))
def ex3(u:Int):Int:=if u≥3 then 808*(u-2)else 0
def ex4(u:Int):Int:=if u≥4 then 808*(u-3)else 0
def exD(u D:Int):Int:=if u≥3 then D else 0
structure Bd(s:Sc)(N:Int)(w:Wo):Prop where
 free:w.token=0→∀(r:Nat) (h:r<w.roots.length),w.roots[r].phase≠8→Bpt (pgOf s r) w.roots[r]+495*cntU w.roots+ex3 (cntU w.roots)≤N
 held:∀(k:Nat) (h:k<w.roots.length),w.token=(k:Int)+1→∃K D:Int,KP w.mem (pgOf s k) w.roots[k] K∧0≤D∧K≤N∧
  (∀(j:Nat) (h:j<w.roots.length),j≠k→1≤w.roots[j].phase→w.roots[j].phase≤7→Wg (pgOf s j) w.roots[j]≤D)∧
  ∀(r:Nat) (h:r<w.roots.length),r≠k→w.roots[r].phase≠8→Bpt (pgOf s r) w.roots[r]+K+exD (cntU w.roots) D+495*(cntU w.roots-1)+ex4 (cntU w.roots)≤N
theorem Bpt_bd(hp:POk p)(hx:ROk p n x)(ht:RT x):0≤Bpt p x∧Bpt p x≤2380∧(x.phase=0→Bpt p x≤2358)∧(1≤x.phase→x.phase≤7→1≤Bpt p x):=by
 have h8:=Wep hp hx ht
 have htr:=hx.tries
 have hph:=hx.phase
 unfold Bpt tr2 tr3
 by_cases h0:x.phase=0
 ·rw[if_pos h0]
  split<;>omega
 ·rw[if_neg h0]
  by_cases h8':x.phase=8
  ·rw[if_pos h8'];omega
  ·rw[if_neg h8']
   have:=h8.2.2 (by omega)
   split<;>omega
theorem RJ.b{j:Nat}(h:RJ w p j x y)(hp:POk p)(hx:ROk p n x)(ht:RT x)(hw:w.token≠(j:Int)+1):Bpt p y≤Bpt p x∧(1≤x.phase→x.phase≤7→Bpt p y<Bpt p x)∧(y.phase=1→x.phase=0→Bpt p y<Bpt p x):=by
 have h8:=Wep hp hx ht
 have htr:=hx.tries
 have hph:=hx.phase
 have e0:∀z:Rt,z.phase=0→Bpt p z=tr3 z:=λz h=>by unfold Bpt;rw[if_pos h]
 have e8:∀z:Rt,z.phase=8→Bpt p z=0:=λz h=>by unfold Bpt;rw[if_neg (by omega),if_pos h]
 have el:∀z:Rt,1≤z.phase→z.phase≤7→Bpt p z=Wg p z+tr2 z:=λz h h'=>by unfold Bpt;rw[if_neg (by omega),if_neg (by omega)]
 have hy0:=(Bpt_bd hp hx ht).1
 by_cases h0:x.phase=0
 ·rcases h.idle h0 with e|⟨e1,e2,e3,e4⟩
  ·subst e;exact⟨Xw _,λh=>by omega,λh=>by omega⟩
  ·rw[e0 x h0,el y (by omega) (by omega)]
   have:x.tries<3:=by omega
   unfold tr2 tr3
   rw[e3]
   split<;>split<;>omega
 by_cases h8':x.phase=8
 ·have e:=h.done h8'
  subst e;exact⟨Xw _,λ_ h=>by omega,λh=>by omega⟩
 ·have hl:=h.live (by omega)
  have:=h8.2.2 (by omega)
  rw[el x (by omega) (by omega)]
  have ht2:0≤tr2 x:=by unfold tr2;split<;>omega
  rcases hl with e|⟨e1,e2⟩|⟨e1,e2,e3⟩
  ·rw[e8 y e];omega
  ·rw[e0 y e1]
   have:tr3 y=tr2 x:=by unfold tr2 tr3;rw[e2];split<;>split<;>omega
   omega
  ·rw[el y e1.1 e1.2]
   have:tr2 y=tr2 x:=by unfold tr2;rw[e2]
   omega
end
section
variable{s:Sc}{w v:Wo}{n m N:Int}{x y:Rt}{k i:Nat}{p:Pg}
theorem wpg(h:WI s n w){j:Nat}(hj:j<w.roots.length):POk (pgOf s j)∧ROk (pgOf s j) n w.roots[j]∧RT w.roots[j]:=
 ⟨Wpb h.ok.progs (by rw[←h.ok.len];exact hj),h.ok.root j hj,h.wt.root j hj⟩
theorem Bd.round(h0:WI s n w)(hv:WI s m v)(hR:Rd s w v s.2.1.length)(hb:Bd s N w):Bd s (N-1) v:=by
 have hlw:=h0.ok.len
 have hlv:=hv.ok.len
 have hwv:∀{j:Nat},j<v.roots.length→j<w.roots.length:=λh=>by omega
 have hvw:∀{j:Nat},j<w.roots.length→j<v.roots.length:=λh=>by omega
 have hJ:∀(j:Nat) (h:j<v.roots.length),RJ w (pgOf s j) j (w.roots[j]'(hwv h)) v.roots[j]:=λj h=>hR.did j (hwv h) h (by omega)
 have hund:∀(j:Nat) (h:j<v.roots.length),v.roots[j].phase≠8→(w.roots[j]'(hwv h)).phase≠8:=λj h hu hd=>hu (by rw[(hJ j h).done hd];exact hd)
 have hundR:∀(j:Nat) (h:j<w.roots.length) (h':j<v.roots.length),undR v.roots[j]=true→undR w.roots[j]=true:=λj h h' hu=>by
  unfold undR at hu⊢
  simp only[decide_eq_true_eq]at hu⊢
  exact hund j h' hu
 have hcle:cntU v.roots≤cntU w.roots:=by have:=cnt_le w.roots v.roots (by omega) hundR;unfold cntU;omega
 have hclt:∀(k:Nat) (h:k<v.roots.length),(w.roots[k]'(hwv h)).phase≠8→v.roots[k].phase=8→cntU v.roots+1≤cntU w.roots:=λk h a b=>by
  have:=cnt_lt w.roots v.roots (by omega) hundR k (hwv h) h (by unfold undR;simpa using a) (by unfold undR;simpa using b)
  unfold cntU;omega
 have hc4:=cnt_4 w.roots (by have:=h0.ok.l4;omega)
 have hcv0:=cntU_0 v.roots
 have hB:∀(j:Nat) (h:j<v.roots.length),w.token≠(j:Int)+1→Bpt (pgOf s j) v.roots[j]≤Bpt (pgOf s j) (w.roots[j]'(hwv h))∧(1≤(w.roots[j]'(hwv h)).phase→(w.roots[j]'(hwv h)).phase≤7→Bpt (pgOf s j) v.roots[j]<Bpt (pgOf s j) (w.roots[j]'(hwv h)))∧(v.roots[j].phase=1→(w.roots[j]'(hwv h)).phase=0→Bpt (pgOf s j) v.roots[j]<Bpt (pgOf s j) (w.roots[j]'(hwv h))):=λj h ht=>by
  obtain⟨a,b,c⟩:=wpg h0 (hwv h)
  exact(hJ j h).b a b c ht
 have hB0:∀(j:Nat) (h:j<w.roots.length),0≤Bpt (pgOf s j) w.roots[j]∧(1≤w.roots[j].phase→w.roots[j].phase≤7→1≤Bpt (pgOf s j) w.roots[j]):=λj h=>by
  obtain⟨a,b,c⟩:=wpg h0 h
  have:=Bpt_bd a b c
  exact⟨this.1,this.2.2.2⟩
 have h808:∀(j:Nat) (h:j<v.roots.length),Wg (pgOf s j) v.roots[j]≤808:=λj h=>by
  obtain⟨a,b,c⟩:=wpg hv h
  exact(Wep a b c).2.1
 have hkp0:∀(k:Nat) (h:k<v.roots.length),v.roots[k].phase=0→KP v.mem (pgOf s k) v.roots[k] 494:=λk h hz=>⟨λ_=>Xw _,λh=>absurd hz h⟩
 have hph:∀(j:Nat) (h:j<w.roots.length),0≤w.roots[j].phase∧w.roots[j].phase≤8:=λj h=>(h0.ok.root j h).phase
 by_cases hw0:w.token=0
 ·have hF:=hb.free hw0
  rcases hR.tk0 hw0 with⟨a,b⟩|⟨k,hk,hk',_,a,b,c⟩
  ·refine⟨λ_ r hr hu=>?_,λk hk hkt=>by omega⟩
   have h1:=hF r (hwv hr) (hund r hr hu)
   obtain⟨g1,g2,g3⟩:=hB r hr (by omega)
   have hlt:Bpt (pgOf s r) v.roots[r]<Bpt (pgOf s r) (w.roots[r]'(hwv hr)):=by
    by_cases hz:(w.roots[r]'(hwv hr)).phase=0
    ·exact g3 (b r (hwv hr) hr (by omega) hz) hz
    ·have:=hph r (hwv hr)
     exact g2 (by omega) (by have:=hund r hr hu;omega)
   unfold ex3 at h1⊢
   split at h1<;>split<;>omega
  ·have hfk:=hF k hk (by omega)
   have hbk:=(hB0 k hk).1
   have hu1:=cnt_1 hk (show w.roots[k].phase≠8 by omega)
   refine⟨λhz=>by omega,λk' hk'' hkt=>?_⟩
   have:k'=k:=by omega
   subst this
   refine⟨494,808,hkp0 k' hk'' c,by omega,?_,λj hj _ _ _=>h808 j hj,λr hr hne hu=>?_⟩
   ·unfold ex3 at hfk
    split at hfk<;>omega
   ·have h1:=hF r (hwv hr) (hund r hr hu)
    have g1:=(hB r hr (by omega)).1
    unfold ex3 at h1
    unfold exD ex4
    split at h1<;>split<;>split<;>omega
 ·obtain⟨k,hk,hwk⟩:=h0.lx.tk.resolve_left hw0
  have hkv:k<v.roots.length:=hvw hk
  obtain⟨K,D,hK,hD0,hKN,hD,hS⟩:=hb.held k hk hwk
  have hk8:w.roots[k].phase≠8:=((h0.lx.root k hk).tk hwk).2
  have hKP:=hJ k hkv
  rcases hR.tk1 k hk hkv hwk with⟨a,b,_,c⟩|⟨_,a1,a2,a3⟩
  ·have hlvb:w.roots[k].phase≠0→1≤w.roots[k].phase∧w.roots[k].phase≤7:=λh=>by have:=hph k hk;omega
   obtain⟨c1,c2⟩:=c (by omega)
   have hv8:v.roots[k].phase≠8:=((hv.lx.root k hkv).tk a).2
   refine⟨λhz=>by omega,λk' hk'' hkt=>?_⟩
   have:k'=k:=by omega
   subst this
   have hBr:∀(r:Nat) (h:r<v.roots.length),r≠k'→_:=λr h hne=>hB r h (by omega)
   by_cases hlive:∃(j:Nat) (h:j<w.roots.length),j≠k'∧1≤w.roots[j].phase∧w.roots[j].phase≤7
   ·obtain⟨j,hj,hjk,j1,j7⟩:=hlive
    have hD1:1≤D:=by
     have h1:=hD j hj hjk j1 j7
     obtain⟨e1,e2,e3⟩:=wpg h0 hj
     have:=(Wep e1 e2 e3).2.2 ⟨j1,j7⟩
     omega
    have hz:w.roots[k'].phase=0:=by
     apply Classical.byContradiction
     intro hnz
     rcases h0.tx.t2 k' hk hwk hnz j hj hjk with e|e<;>omega
    have hu2:2≤cntU w.roots:=cnt_2 hk hj (λe=>hjk e.symm) (by omega) (by omega)
    have hSj:=hS j hj hjk (by omega)
    have hBj:=(hB0 j hj).2 j1 j7
    refine⟨K,D-1,?_,by omega,?_,λi hi hik i1 i7=>?_,λr hr hne hu=>?_⟩
    ·have hK0:=hK.1 hz
     rcases c1 hz with⟨e,_⟩|⟨e1,e2,e3⟩
     ·rw[e];exact⟨λ_=>hK0,λh=>absurd hz h⟩
     ·exact⟨λh=>by omega,λ_=>.inr ⟨e2,by omega⟩⟩
    ·unfold exD ex4 at hSj
     split at hSj<;>split at hSj<;>omega
    ·have hiw:i<w.roots.length:=hwv hi
     have hzi:w.roots[i].phase≠0:=λh=>by
      have:=b i hiw hi hik h
      rw[this]at i1;omega
     have h8i:w.roots[i].phase≠8:=hund i hi (by omega)
     have hp:=hph i hiw
     have hd:=hD i hiw hik (by omega) (by omega)
     rcases(hJ i hi).live (by omega)with e|⟨e,_⟩|⟨_,_,e⟩
     ·omega
     ·omega
     ·omega
    ·have h1:=hS r (hwv hr) hne (hund r hr hu)
     obtain⟨g1,g2,g3⟩:=hBr r hr hne
     by_cases hrj:r=j
     ·subst hrj
      have:=g2 j1 j7
      unfold exD ex4 at h1⊢
      split at h1<;>split at h1<;>split<;>split<;>omega
     ·have hu3:=cnt_3 hk hj (hwv hr) (λe=>hjk e.symm) (λe=>hne e.symm) (λe=>hrj e.symm) hk8 (by omega) (hund r hr hu)
      unfold exD ex4 at h1⊢
      split at h1<;>split at h1<;>split<;>split<;>omega
   ·have hno:∀(j:Nat) (h:j<w.roots.length),j≠k'→w.roots[j].phase=0∨w.roots[j].phase=8:=λj h hne=>by
     have hp:=hph j h
     by_cases h1:w.roots[j].phase=0∨w.roots[j].phase=8
     ·exact h1
     ·exact absurd ⟨j,h,hne,by omega,by omega⟩ hlive
    refine⟨K-1,D,?_,hD0,by omega,λi hi hik i1 i7=>?_,λr hr hne hu=>?_⟩
    ·by_cases hz:w.roots[k'].phase=0
     ·have hK0:=hK.1 hz
      rcases c1 hz with⟨_,e⟩|⟨e1,e2,e3⟩
      ·exact absurd e hlive
      ·exact⟨λh=>by omega,λ_=>.inr ⟨e2,by omega⟩⟩
     ·have hlv':=hKP.live (hlvb hz)
      obtain⟨e1,e2,e3⟩:=wpg h0 hk
      have h1:=(Wep e1 e2 e3).2.2 (hlvb hz)
      by_cases hg:RGd w.mem w.roots[k']
      ·obtain⟨d1,d2⟩:=c2 hz hg
       have hdp:=d1.ph
       refine⟨λh=>by omega,λ_=>?_⟩
       rcases hK.2 hz with hk1|⟨_,hk1⟩
       ·rcases hlv' with e|⟨e,_⟩|⟨_,_,e⟩
        ·omega
        ·omega
        ·exact .inl (by omega)
       ·exact .inr ⟨d1,by omega⟩
      ·have hk1:=(hK.2 hz).resolve_right (λh=>hg h.1)
       rcases hlv' with e|⟨e,_⟩|⟨e0,_,e⟩
       ·exact absurd e hv8
       ·exact⟨λ_=>by omega,λh=>absurd e h⟩
       ·exact⟨λh=>by omega,λ_=>.inl (by omega)⟩
    ·exfalso
     have hiw:i<w.roots.length:=hwv hi
     rcases hno i hiw hik with e|e
     ·have:=b i hiw hi hik e
      rw[this]at i1;omega
     ·have:=(hJ i hi).done e
      rw[this]at i7;omega
    ·have h1:=hS r (hwv hr) hne (hund r hr hu)
     have g1:=(hBr r hr hne).1
     unfold exD ex4 at h1⊢
     split at h1<;>split at h1<;>split<;>split<;>omega
  ·have hK1:1≤K:=by
    obtain⟨e1,e2,e3⟩:=wpg h0 hk
    have h1:=(Wep e1 e2 e3).1
    rcases hK.2 a1 with h|⟨h,h'⟩
    ·omega
    ·have:=gLeft_0 e1 e2 e3 h;omega
   have hcl:=hclt k hkv hk8 a2
   rcases a3 with a3|⟨j,hj,hj',_,hjk,a4,a5,a6⟩
   ·refine⟨λ_ r hr hu=>?_,λk' hk' hkt=>by omega⟩
    have hrk:r≠k:=λe=>by subst e;exact hu a2
    have h1:=hS r (hwv hr) hrk (hund r hr hu)
    have g1:=(hB r hr (by omega)).1
    unfold exD ex4 at h1
    unfold ex3
    split at h1<;>split at h1<;>split<;>omega
   ·refine⟨λhz=>by omega,λk' hk'' hkt=>?_⟩
    have:k'=j:=by omega
    subst this
    have hSj:=hS k' hj hjk a6
    have hBj:=(hB0 k' hj).1
    have hu2:2≤cntU w.roots:=cnt_2 hk hj (λe=>hjk e.symm) hk8 a6
    refine⟨494,808,hkp0 k' hk'' a5,by omega,?_,λi hi _ _ _=>h808 i hi,λr hr hne hu=>?_⟩
    ·unfold exD ex4 at hSj
     split at hSj<;>split at hSj<;>omega
    ·have hrk:r≠k:=λe=>by subst e;exact hu a2
     have h1:=hS r (hwv hr) hrk (hund r hr hu)
     have g1:=(hB r hr (by omega)).1
     unfold exD ex4 at h1⊢
     split at h1<;>split at h1<;>split<;>split<;>omega
theorem Bd.start(h0:WI s n w):Bd s 5976 w:=by
 have hc4:=cnt_4 w.roots (by have:=h0.ok.l4;have:=h0.ok.len;omega)
 have hc0:=cntU_0 w.roots
 have hBd:∀(j:Nat) (h:j<w.roots.length),_:=λj h=>Bpt_bd (wpg h0 h).1 (wpg h0 h).2.1 (wpg h0 h).2.2
 have h808:∀(j:Nat) (h:j<w.roots.length),Wg (pgOf s j) w.roots[j]≤808:=λj h=>(Wep (wpg h0 h).1 (wpg h0 h).2.1 (wpg h0 h).2.2).2.1
 refine⟨λ_ r hr hu=>?_,λk hk hkt=>?_⟩
 ·have:=(hBd r hr).2.1
  unfold ex3
  split<;>omega
 ·by_cases hz:w.roots[k].phase=0
  ·refine⟨494,808,⟨λ_=>Xw _,λh=>absurd hz h⟩,by omega,by omega,λj hj _ _ _=>h808 j hj,λr hr hne hu=>?_⟩
   have:=(hBd r hr).2.1
   unfold exD ex4
   split<;>split<;>omega
  ·have hot:=h0.tx.t2 k hk hkt hz
   refine⟨1302,0,⟨λh=>absurd h hz,λ_=>.inl (by have:=h808 k hk;omega)⟩,by omega,by omega,λj hj hne j1 j7=>?_,λr hr hne hu=>?_⟩
   ·rcases hot j hj hne with e|e<;>omega
   ·have hr0:w.roots[r].phase=0:=(hot r hr hne).resolve_right hu
    have:=(hBd r hr).2.2.1 hr0
    unfold exD ex4
    split<;>split<;>omega
theorem Bd.pos(h0:WI s n w)(hb:Bd s N w)(ho:Wna w≠true):1≤N:=by
 have hex:∃(r:Nat) (h:r<w.roots.length),w.roots[r].phase≠8:=by
  apply Classical.byContradiction
  intro hno
  apply ho
  unfold Wna
  rw[Xae]
  intro z hz
  obtain⟨j,hj,he⟩:=Xat hz
  by_cases h8:z.phase=8
  ·simpa using h8
  ·exact absurd ⟨j,hj,by rw[he];exact h8⟩ hno
 obtain⟨r,hr,hu⟩:=hex
 have hBd:∀(j:Nat) (h:j<w.roots.length),_:=λj h=>Bpt_bd (wpg h0 h).1 (wpg h0 h).2.1 (wpg h0 h).2.2
 have hu1:=cnt_1 hr hu
 by_cases hw0:w.token=0
 ·have:=hb.free hw0 r hr hu
  have h1:=(hBd r hr).1
  unfold ex3 at this
  split at this<;>omega
 ·obtain⟨k,hk,hwk⟩:=h0.lx.tk.resolve_left hw0
  obtain⟨K,D,hK,hD0,hKN,hD,hS⟩:=hb.held k hk hwk
  have:1≤K:=by
   by_cases hz:w.roots[k].phase=0
   ·have:=hK.1 hz;omega
   ·obtain⟨e1,e2,e3⟩:=wpg h0 hk
    have h1:=(Wep e1 e2 e3).1
    rcases hK.2 hz with h|⟨h,h'⟩
    ·omega
    ·have:=gLeft_0 e1 e2 e3 h;omega
  omega
theorem Www:∀(d:Nat) (n:Int) (w:Wo),WI s n w→n+16*d≤99999→Bd s d w→Wna (Wch s d w).1=true∧(Wch s d w).2≤d∧∃m,WI s m (Wch s d w).1
 |0,n,w,h,hn,hb=>by
  have ho:Wna w=true:=by
   apply Classical.byContradiction
   intro ho
   have:=hb.pos h ho
   omega
  rw[Wch]
  exact⟨ho,Xm _,n,h⟩
 |d+1,n,w,h,hn,hb=>by
  rw[Wch]
  by_cases ho:Wna w=true
  ·rw[if_pos ho];exact⟨ho,Xbo _,n,h⟩
  ·rw[if_neg ho]
   have hl4:=h.ok.l4
   obtain⟨hR,m,hm,hW⟩:=roots_rd h s.2.1.length 0 n w (by omega) h (by omega) Rd.refl
   have hb':=hb.round h hW hR
   obtain⟨a,b,c⟩:=Www d m _ hW (by omega) (by rw[show(d:Int)=((d+1:Nat):Int) -1 by omega];exact hb')
   exact⟨a,by show _+1≤d+1;omega,c⟩
theorem Bd.mono(h:Bd s n w)(hN:n≤N):Bd s N w:=⟨λh0 r hr hu=>by have:=h.free h0 r hr hu;omega,λk hk hkt=>by
 obtain⟨K,D,a,b,c,d,e⟩:=h.held k hk hkt
 exact⟨K,D,a,b,by omega,d,λr hr hne hu=>by have:=e r hr hne hu;omega⟩⟩
theorem wPlay_wi(hok:scOk s=true):WI s s.2.2.length (Wkc s):=by
 have hN:=Wyl hok
 have hX:WX (wNew s):=wNew_x
 have hL:=wNew_lx hok
 have hT:WT (wNew s):=wNew_wt
 have h:=acts_lx s.2.2 _ _ hN hX hL
 exact⟨wPlay_ok hok,(acts_stay s.2.2 _ _ hN hX).1,h,acts_wt s.2.2 _ _ hN hT,acts_tx s.2.2 _ _ hN hX hL wNew_tx⟩
theorem wPlay_ends(hok:scOk s=true):Wna (Wch s 6000 (Wkc s)).1=true∧(Wch s 6000 (Wkc s)).2≤6000∧∃m,WI s m (Wch s 6000 (Wkc s)).1:=by
 obtain⟨h1,h2,h3,h4⟩:=Wpr hok
 have h:=wPlay_wi hok
 exact Www 6000 _ _ h (by have:=h4;omega) ((Bd.start h).mono (by omega))
end
section
variable{s:Sc}{w v:Wo}{n m:Int}{x y:Rt}{k i:Nat}{p:Pg}{a:Ac}{N:Nat}{o:Opn}
theorem Wvu:∀(d j:Nat) (w:Wo),∃l:List Ac,l.length=d∧Wga s k d j w=l.foldl (wAct s) w
 |0,_,w=>⟨[],rfl,rfl⟩
 |d+1,j,w=>by
  obtain⟨l,h,e⟩:=Wvu d (j+1) (wAct s w (2,(k:Int),(j:Int)))
  exact⟨(2,(k:Int),(j:Int))::l,by simp[h],by rw[Wga,e];rfl⟩
theorem Wta:∀(d i:Nat) (w:Wo),(∀j:Nat,j<i+d→(s.2.1.getD j pg0).2.length≤3)→∃l:List Ac,l.length≤4*d∧Wcl s d i w=l.foldl (wAct s) w
 |0,_,w,_=>⟨[],Xm _,rfl⟩
 |d+1,i,w,h=>by
  obtain⟨l1,h1,e1⟩:=Wvu (s:=s) (k:=i) (s.2.1.getD i pg0).2.length 0 (wAct s w (1,(i:Int),0))
  obtain⟨l2,h2,e2⟩:=Wta d (i+1) (Wga s i (s.2.1.getD i pg0).2.length 0 (wAct s w (1,(i:Int),0))) (λj hj=>h j (by omega))
  have h3:=h i (by omega)
  refine⟨(1,(i:Int),0)::l1++l2,by simp;omega,?_⟩
  rw[Wcl,e2,e1,List.cons_append,List.foldl_cons,Xfj]
theorem Wsr(hl:s.2.1.length≤4)(h3:∀j:Nat,j<s.2.1.length→(s.2.1.getD j pg0).2.length≤3):∀(d:Nat) (w:Wo),∃l:List Ac,l.length≤16*d∧(Wch s d w).1=l.foldl (wAct s) w
 |0,w=>⟨[],Xbo _,rfl⟩
 |d+1,w=>by
  rw[Wch]
  split
  ·exact⟨[],Xbo _,rfl⟩
  ·obtain⟨l1,a1,e1⟩:=Wta s.2.1.length 0 w (λj hj=>h3 j (by omega))
   obtain⟨l2,a2,e2⟩:=Wsr hl h3 d (Wcl s s.2.1.length 0 w)
   refine⟨l1++l2,by simp;omega,?_⟩
   show(Wch s d (Wcl s s.2.1.length 0 w)).1=_
   rw[e2,e1,Xfj]
theorem drain_acts(hok:scOk s=true):∃l:List Ac,(s.2.2++l).length≤99999∧(Wch s 6000 (Wkc s)).1=(s.2.2++l).foldl (wAct s) (wNew s):=by
 obtain⟨h1,h2,h3,h4⟩:=Wpr hok
 have hW:=wPlay_ok hok
 obtain⟨l,a,e⟩:=Wsr (s:=s) (by omega) (λj hj=>(Wpb hW.progs hj).k3) 6000 (Wkc s)
 refine⟨l,by simp;omega,?_⟩
 rw[e,Xfj];rfl
theorem rStep_8(h8:x.phase≠8)(hz:(Wav w x k p).2.phase=8):(Wav w x k p).2.undos= []:=by
 unfold Wav at hz⊢
 by_cases hd:x.doomed=true∧1≤x.phase∧x.phase≤4
 ·rw[if_pos hd]at hz;exact absurd (show(6:Int)=8 from hz) (by omega)
 rw[if_neg hd]at hz⊢
 have cf:∀z:Rt,(Wad z).phase≠8:=λz=>Wjk.2.2
 by_cases h0:x.phase=0
 ·rw[if_pos h0]at hz
  have:(Wik w x k).2.phase≠8:=by
   unfold Wik
   split
   ·exact h8
   ·split
    ·exact h8
    ·split
     ·exact h8
     ·show(1:Int)≠8;omega
  exact absurd hz this
 rw[if_neg h0]at hz⊢
 by_cases h1:x.phase=1
 ·rw[if_pos h1]at hz⊢
  have cl:∀out,(Wcd w x k out).2.phase=8→(Wcd w x k out).2.undos= []:=λout=>by
   unfold Wcd
   simp only
   generalize (if out=2 then []else x.writes)=rows
   split
   ·exactλ_=>rfl
   ·intro h;exact absurd (show(5:Int)=8 from h) (by omega)
  revert hz
  unfold rRun
  split
  ·exact cl _
  ·simp only
   generalize opN p.1 x.pc=o
   split
   ·intro h;exact absurd h (rRead_k h1).2.2
   ·split
    ·unfold Wfc
     split
     ·exact cl _
     ·split
      ·intro h;exact absurd h h8
      ·intro h;exact absurd h h8
    ·split
     ·intro h;exact absurd (show(2:Int)=8 from h) (by omega)
     ·split
      ·unfold Wer
       cases Wcs w.holds ((k:Int)+1) (Wcf o).1 (Wcf o).2 with
       |none=>intro h;exact absurd h (cf _)
       |some hs=>intro h;exact absurd h h8
      ·repeat' split
       all_goals(intro h;exact absurd h h8)
 rw[if_neg h1]at hz⊢
 by_cases h2:x.phase=2
 ·rw[if_pos h2]at hz
  have:(Wfa x).phase≠8:=by
   unfold Wfa
   split
   ·show(6:Int)≠8;omega
   ·split
    ·show(1:Int)≠8;omega
    ·exact h8
  exact absurd hz this
 rw[if_neg h2]at hz⊢
 by_cases h3:x.phase=3
 ·rw[if_pos h3]at hz
  have:(Wcv w x).2.phase≠8:=by
   unfold Wcv
   split
   ·exact h8
   ·show(4:Int)≠8;omega
  exact absurd hz this
 rw[if_neg h3]at hz⊢
 by_cases h4:x.phase=4
 ·rw[if_pos h4]at hz
  have:(Wcg w x).phase≠8:=by
   unfold Wcg
   simp only
   split
   ·split
    ·show(6:Int)≠8;omega
    ·exact h8
   ·show(1:Int)≠8;omega
  exact absurd hz this
 rw[if_neg h4]at hz⊢
 by_cases h5:x.phase=5
 ·rw[if_pos h5]at hz
  have:(Wbu w x k).2.phase≠8:=by
   unfold Wbu
   split
   ·simp only
    split
    ·show(6:Int)≠8;omega
    ·exact h8
   ·show(Wen {x with cm:=(Waa w.mem x.cm).2}).phase≠8
    unfold Wen
    split
    ·show(6:Int)≠8;omega
    ·split
     ·show(if x.fate=2 then(6:Int)else 7)≠8
      split<;>omega
     ·exact h8
  exact absurd hz this
 rw[if_neg h5]at hz⊢
 by_cases h6:x.phase=6
 ·rw[if_pos h6]at hz
  split at hz
  ·exact absurd hz h8
  ·exact absurd (show(7:Int)=8 from hz) (by omega)
 rw[if_neg h6]at hz⊢
 by_cases h7:x.phase=7
 ·rw[if_pos h7]at hz⊢
  split at hz
  ·exact absurd (show(0:Int)=8 from hz) (by omega)
  ·rw[if_neg ‹_›];rfl
 ·rw[if_neg h7]at hz;exact absurd hz h8
def DX(w:Wo):Prop:=∀(k:Nat) (h:k<w.roots.length),w.roots[k].phase=8→w.roots[k].undos= []
theorem put_dx{q:Wo×Rt}{w0:Wo}(hx:DX w0)(hr:q.1.roots=w0.roots)(hq:q.2.phase=8→q.2.undos= []):DX (Wo.put q k):=λi hi=>by
 change i<(q.1.roots.set k q.2).length at hi
 have hi0:i<w0.roots.length:=by rw[List.length_set,hr]at hi;exact hi
 show((q.1.roots.set k q.2)[i]'hi).phase=8→((q.1.roots.set k q.2)[i]'hi).undos= []
 rw[Xaq]
 split
 ·exact hq
 ·simp only[hr];exact hx i hi0
theorem wAct_dx(h:WOk s.2.1 n w)(hx:DX w):DX (wAct s w a):=by
 have hx1:DX {w with now:=w.now+1}:=hx
 unfold wAct
 simp only
 split
 ·rename_i hb
  have hk:a.2.1.toNat<w.roots.length:=by omega
  rw[Wc hk]
  split
  ·unfold Wzd
   rw[Wc (show a.2.1.toNat<({w with now:=w.now+1}:Wo).roots.length from hk)]
   refine put_dx (w0:={w with now:=w.now+1}) hx1 (Wxe h hk) λhz=>?_
   by_cases h8:w.roots[a.2.1.toNat].phase=8
   ·have:=(rStep_tq (w:={w with now:=w.now+1}) (x:=w.roots[a.2.1.toNat]) (k:=a.2.1.toNat) (p:=s.2.1.getD a.2.1.toNat pg0)).done h8
    change (Wav {w with now:=w.now+1} w.roots[a.2.1.toNat] a.2.1.toNat (s.2.1.getD a.2.1.toNat pg0)).2.undos= []
    rw[this];exact hx _ hk h8
   ·exact rStep_8 h8 hz
  ·split
   ·split
    ·exact put_dx (w0:={w with now:=w.now+1}) hx1 rfl (λhz=>hx _ hk hz)
    ·exact hx1
   ·split
    ·split
     ·exact put_dx (w0:={w with now:=w.now+1}) hx1 rfl (λhz=>hx _ hk hz)
     ·exact hx1
    ·exact hx1
 ·exact hx1
theorem acts_dx:∀(l:List Ac) (n:Int) (w:Wo),WOk s.2.1 n w→DX w→DX (l.foldl (wAct s) w)
 | [],n,w,h,hx=>hx
 |a::l,n,w,h,hx=>acts_dx l (n+1) _ (Wgl (a:=a) h) (wAct_dx (a:=a) h hx)
structure Rest(w:Wo):Prop where
 done:∀x∈w.roots,x.phase=8
 mem:Waq w.mem=true
 own:∀c∈w.mem.2,c.2.2=0
 holds:w.holds= []
 token:w.token=0
 undos:∀x∈w.roots,x.undos= []
theorem rest_of(h:WI s n w)(hd:DX w)(ho:Wna w=true):Rest w:=by
 have h8:∀(k:Nat) (h:k<w.roots.length),w.roots[k].phase=8:=λk hk=>by
  unfold Wna at ho
  rw[Xae]at ho
  simpa using ho _ (Xt hk)
 have h8':∀x∈w.roots,x.phase=8:=λx hx=>by
  obtain⟨j,hj,e⟩:=Xat hx
  rw[←e];exact h8 j hj
 obtain⟨m8,_,_,_⟩:=Wz h.ok.mem
 refine⟨h8',h.ok.mem,λc hc=>?_,?_,?_,λx hx=>?_⟩
 ·obtain⟨j,hj,e⟩:=Xat hc
  have how:owner w.mem (j:Int)=w.mem.2[j].2.2:=by unfold owner Wak getI;rw[Int.toNat_natCast,Wc hj]
  rw[←e,←how]
  rcases h.lx.ow (j:Int) (by omega) (by omega)with e|⟨k,hk,e⟩
  ·exact e
  ·exact absurd e ((h.lx.root k hk).no (by rw[h8 k hk];omega) (j:Int) (by omega) (by omega))
 ·cases hh:w.holds with
  |nil=>rfl
  |cons e l=>
   obtain⟨k,hk,e1⟩:=h.lx.hd e (by rw[hh];exact Xi ..)
   exact absurd (h8 k hk) ((h.lx.root k hk).hd e (by rw[hh];exact Xi ..) e1).2
 ·rcases h.lx.tk with e|⟨k,hk,e⟩
  ·exact e
  ·exact absurd (h8 k hk) ((h.lx.root k hk).tk e).2
 ·obtain⟨j,hj,e⟩:=Xat hx
  rw[←e];exact hd j hj (h8 j hj)
theorem drain_rest(hok:scOk s=true):Rest (Wch s 6000 (Wkc s)).1∧Wna (Wch s 6000 (Wkc s)).1=true∧(Wch s 6000 (Wkc s)).2≤6000∧∃m,WI s m (Wch s 6000 (Wkc s)).1:=by
 obtain⟨a,b,m,c⟩:=wPlay_ends hok
 obtain⟨l,_,e⟩:=drain_acts hok
 have hd:DX (Wch s 6000 (Wkc s)).1:=by
  rw[e]
  exact acts_dx _ 0 _ (Wyl hok) λk h h8=>by simp[wNew]
 exact⟨rest_of c hd a,a,b,m,c⟩
theorem Wuw(h:Rest w)(hl:w.roots.length≤4)(hN:1048576<N):Zio N w.e=ret true:=by
 obtain⟨m8,_,_,_⟩:=Wz h.mem
 have e1:w.e.2.2.2.2.2.1=w.roots.map Rt.e:=rfl
 have e2:w.e.2.2.1.2=w.mem.2:=rfl
 have e3:w.e.2.2.1=w.mem:=rfl
 have e4:w.e.2.2.2.2.1= []:=h.holds
 have e5:w.e.2.1=0:=h.token
 have lp0:∀(K1:Int→Bool→Option (Unit×(Bool×Unit))),Zcm N w.e (some ((),(false,()))) (λi t=>K1 8 false) N 0=K1 8 false:=λK1=>by
  have h1:=Wv (l:=w.mem.2) (V:=Unit) (R:=Unit×(Bool×Unit)) (lp:=λn j _=>Zcm N w.e (some ((),(false,()))) (λi t=>K1 8 false) n j) (n:=N) (by omega)
   (body:=λj x v k=>k v) (K:=λ_ v=>K1 8 false)
   (λn i u hi=>by
    have h0:(w.mem.2[i].2.2 !=0)=false:=by simpa using h.own _ (Xt hi)
    simp only[Zcm,e2,Wbb hi,Wk hi,Wm hi,We (show i<4611686018427387904 by omega),cond_true,h0,cond_false])
   (λn u=>by simp only[Zcm,e2,Wbl (Xm _),cond_false]) ()
  refine h1.trans ?_
  rw[Wff (f:=λv _=>v) _ 0 () (λj x v k _=>rfl)]
 have lp1:Zb8 N w.e (some ((),(false,()))) (λi t=>(some ((),(true,())))) N 0=(ret true:Option (Unit×(Bool×Unit))):=by
  have h1:=Wv (l:=w.roots.map Rt.e) (V:=Unit) (R:=Unit×(Bool×Unit)) (lp:=λn j _=>Zb8 N w.e (some ((),(false,()))) (λi t=>(some ((),(true,())))) n j) (n:=N) (by rw[Xaf];omega)
   (body:=λj x v k=>k v) (K:=λ_ v=>some ((),(true,())))
   (λn i u hi=>by
    have hi':i<w.roots.length:=by simpa using hi
    have eu:(w.roots[i].e).2.2.2.2.2.2.2.2.2.2.2.2.2.2.2.2.1=w.roots[i].undos:=rfl
    have h0:decide (ilen w.roots[i].undos>0)=false:=by rw[h.undos _ (Xt hi')];rfl
    simp only[Zb8,e1,Wbb hi,Wk hi,Wm hi,We (show i<4611686018427387904 by omega),cond_true,Xdo,eu,h0,cond_false])
   (λn u=>by simp only[Zb8,e1,Wbl (Xm _),cond_false]) ()
  refine h1.trans ?_
  rw[Wff (f:=λv _=>v) _ 0 () (λj x v k _=>rfl)]
 unfold Zio
 rw[e3,Wxx (by omega) hN,e4,e5,h.mem]
 simp only[ret,Xc,Xaa,cond_false,show decide (ilen ([]:List Hd)>0)=false from rfl,show((0:Int) !=0)=false from rfl]
 exact(lp0 (λ_ _=>Zb8 N w.e (some ((),(false,()))) (λi t=>(some ((),(true,())))) N 0)).trans lp1
theorem Wvf(h:Rest w)(hl:w.roots.length≤4)(hN:1048576<N):Zm2 N w.e=ret true:=by
 obtain⟨m8,_,_,_⟩:=Wz h.mem
 have e1:w.e.2.2.2.2.2.1=w.roots.map Rt.e:=rfl
 have e2:w.e.2.2.1.2=w.mem.2:=rfl
 have e3:w.e.2.2.1=w.mem:=rfl
 have e4:w.e.2.2.2.2.1= []:=h.holds
 have e5:w.e.2.1=0:=h.token
 have c1:Zaf N w.mem.2=ret false:=by
  unfold Zaf Z2
  have h1:=Wv (l:=w.mem.2) (V:=Unit) (R:=Unit×(Int×Unit)) (lp:=λn j _=>Zg N w.mem.2 (λt11=>(some ((),(t11,())))) (λt12 t13=>(some ((),((-1:Int),())))) n j) (n:=N) (by omega)
   (body:=λj x v k=>k v) (K:=λ_ v=>some ((),((-1:Int),())))
   (λn i u hi=>by
    have h0:(w.mem.2[i].2.2 !=0)=false:=by simpa using h.own _ (Xt hi)
    simp only[Zg,Znx,Wbb hi,Wk hi,Wm hi,We (show i<4611686018427387904 by omega),cond_true,Xc,h0,cond_false])
   (λn u=>by simp only[Zg,Wbl (Xm _),cond_false]) ()
  rw[Wff (f:=λv _=>v) _ 0 () (λj x v k _=>rfl)]at h1
  have h1':Zg N w.mem.2 (λt11=>(some ((),(t11,())))) (λt12 t13=>(some ((),((-1:Int),())))) N 0=(some ((),((-1:Int),())):Option (Unit×(Int×Unit))):=h1
  rw[h1'];rfl
 have c2:Zag N (w.roots.map Rt.e)=ret false:=by
  unfold Zag Z3
  have h1:=Wv (l:=w.roots.map Rt.e) (V:=Unit) (R:=Unit×(Int×Unit)) (lp:=λn j _=>Zh N (w.roots.map Rt.e) (λt11=>(some ((),(t11,())))) (λt12 t13=>(some ((),((-1:Int),())))) n j) (n:=N) (by rw[Xaf];omega)
   (body:=λj x v k=>k v) (K:=λ_ v=>some ((),((-1:Int),())))
   (λn i u hi=>by
    have hi':i<w.roots.length:=by simpa using hi
    have eu:(w.roots[i].e).2.2.2.2.2.2.2.2.2.2.2.2.2.2.2.2.1=w.roots[i].undos:=rfl
    have h0:decide (ilen w.roots[i].undos>0)=false:=by rw[h.undos _ (Xt hi')];rfl
    simp only[Zh,Zny,Wbb hi,Wk hi,Wm hi,We (show i<4611686018427387904 by omega),cond_true,Xdo,Xc,eu,h0,cond_false])
   (λn u=>by simp only[Zh,Wbl (Xm _),cond_false]) ()
  rw[Wff (f:=λv _=>v) _ 0 () (λj x v k _=>rfl)]at h1
  have h1':Zh N (w.roots.map Rt.e) (λt11=>(some ((),(t11,())))) (λt12 t13=>(some ((),((-1:Int),())))) N 0=(some ((),((-1:Int),())):Option (Unit×(Int×Unit))):=h1
  rw[h1'];rfl
 unfold Zm2
 rw[e3,e1,Wcx (by omega) hN,e4,e5,h.mem,c1,c2]
 rfl
theorem liveNil_run(h:∀x∈w.roots,x.phase=8)(hl:w.roots.length≤4)(hN:1048576<N):Zkx N w.e=ret []:=by
 have e1:w.e.2.2.2.2.2.1=w.roots.map Rt.e:=rfl
 unfold Zkx
 rw[e1]
 have h1:=Wv (l:=w.roots.map Rt.e) (V:=Unit) (R:=Unit×(List Int×Unit)) (lp:=λn j _=>Zcs N (w.roots.map Rt.e) (ilen (w.roots.map Rt.e)) (λt9 t10 l11=>(some ((),(l11,())))) n j []) (n:=N) (by rw[Xaf];omega)
  (body:=λj x v k=>k v) (K:=λ_ v=>some ((),([],())))
  (λn i u hi=>by
   have hi':i<w.roots.length:=by simpa using hi
   have eu:(w.roots[i].e).1=w.roots[i].phase:=rfl
   have h8:=h _ (Xt hi')
   simp only[Zcs,Wbb hi,Wk hi,Wm hi,We (show i<4611686018427387904 by omega),cond_true,Xdo,eu,h8]
   rfl)
  (λn u=>by simp only[Zcs,Wbl (Xm _),cond_false]) ()
 refine h1.trans ?_
 rw[Wff (f:=λv _=>v) _ 0 () (λj x v k _=>rfl)]
theorem drain_no(hb:SB s)(hN:1048576<N)(hok:scOk s=false):Zdm N s=some ((),(d_World,((0:Int),()))):=by
 unfold Zdm
 rw[Wia hb hN,hok]
 rfl
theorem Wyg(hN:1048576<N){code:List Int}(h:code.length≤1048576):∃s:Sc,Zj2 N code=ret s∧SB s:=by
 unfold Zj2
 obtain⟨c,hc,e0⟩:=new_draw h hN
 obtain⟨v,e1,hv⟩:=size_run (N:=N) h
 have e2:iadd .i64 40 v=40+v:=Wx (by unfold I64;omega)
 obtain⟨c1,s,e3,hc1,hs⟩:=dAny17 (most:=40+v) hN (by omega) hc
 simp only[e0,e1,ret,Xc,e2,e3]
 exact⟨_,rfl,hs⟩
end
section
theorem fnEnds_run{N:Nat}{code:List Int}(hN:1048576<N):Zkt N code=ret true:=by
 unfold Zkt Zsk
 simp only[Xc]
 by_cases hb:code.length≤1048576
 ·have e0:decide (ilen code>1048576)=false:=by simp[ilen];omega
  obtain⟨s,es,hs⟩:=Wyg hN hb
  rw[e0,es]
  simp only[cond_false,ret,Xc]
  rw[Wvg hs hN]
  cases hok:scOk s with
  |false=>
   rw[drain_no hs hN hok]
   rfl
  |true=>
   obtain⟨hR,hO,hn,m,hW⟩:=drain_rest hok
   have hl4:(Wch s 6000 (Wkc s)).1.roots.length≤4:=by rw[hW.ok.len];exact hW.ok.l4
   have hlen:=hW.ok.len
   rw[drain_run hs hN hok]
   generalize Wch s 6000 (Wkc s)=q at*
   have e1:q.1.e.2.2.2.2.2.1=q.1.roots.map Rt.e:=rfl
   have e2:(ilen (q.1.roots.map Rt.e)==ilen s.2.1)=true:=by unfold ilen;rw[Xaf,hlen];simp
   have e3:decide ((q.2:Int)≤6000)=true:=decide_eq_true (by omega)
   simp only[ret,Xc,Xaa,cond_false,Wyz hl4 hN,hO,cond_true,e1,e2,e3,Wuw hR hl4 hN,Wvf hR hl4 hN,liveNil_run hR.done hl4 hN]
   rfl
 ·have e0:decide (ilen code>1048576)=true:=by simp[ilen];omega
  rw[e0]
  rfl
theorem law_FnEnds(d:PDen [.v (.slice (.int .u8)) false])(hw:WfArgs [.v (.slice (.int .u8)) false] d):∃N o,Zkt N d.1=some (o,(true,())):=
 ⟨1048577,(),fnEnds_run (N:=1048577) (by omega)⟩
end
end Go.Sx
