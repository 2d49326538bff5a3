/- Plain laws of the Lean functions. -/
import Derived.Test.YtnkbflecplbceaaGreatMW4
open Int renaming toNat_natCast→Xj,le_refl→Xv,natCast_nonneg→Xeh,zero_add→Xgs
open List renaming length_set→Xab,getElem_set_self→Xes,getElem_set→Xaq,countP_cons→Xbi,getElem_set_ne→Xff,countP_le_length→Xdh,all_eq_true→Xae,getElem_of_mem→Xas,foldl_cons→Xcm,foldl_append→Xen,getElem_mem→Xw,mem_cons_self→Xi,length_cons→Xr,length_map→Xaf,getElem_map→Xdp,countP→Xgc
open Bool renaming and_eq_true→Xh,true_and→Xbf,false_and→Xbw,false_eq_true→Xam
open Nat renaming zero_le→Xbq,le_refl→Xm,zero_add→Xbb
open Option renaming bind_some→Xc
namespace Go.Sx
set_option linter.unusedVariables false
set_option linter.unusedSimpArgs false
section
variable{s:Sc}{w v:Wo}{n:Int}{x y:Rt}{k:Nat}{p:Pg}{f g:Fm}{m:Mm}{o:Opn}
theorem Wj2(h0:x.phase≠0)(hz:(WY w x k p).2.phase=0):(WY w x k p).2.tries=x.tries+1:=by
 unfold WY at hz⊢;by_cases hd:x.doomed=true/\1<=x.phase/\x.phase<=4
 .rw[if_pos hd]at hz;exact absurd (show(6:Int)=0 from hz) (by omega)
 rw[if_neg hd,if_neg h0]at hz⊢;by_cases h1:x.phase=1
 .rw[if_pos h1]at hz;have cl:∀out,(Waz w x k out).2.phase≠0:=λout=>by
   unfold Waz;simp only;generalize (if out=2 then []else x.writes)=rows;split
   .show(8:Int)≠0;omega
   .show(5:Int)≠0;omega
  have:(WgG w x k p).2.phase≠0:=by
   unfold WgG;split
   .exact cl _
   .simp only;generalize opN p.1 x.pc=o;split
    .exact(WnE h1).1
    .split
     .unfold WbW;split
      .exact cl _
      .split<;>(show x.phase≠0;omega)
     .split
      .show(2:Int)≠0;omega
      .split
       .unfold WbR;cases WaS w.holds ((k:Int)+1) (WaH o).1 (WaH o).2 with
        |none=>exact WdI.1
        |some hs=>exact h0
       .repeat' split
        all_goals exact h0
  exact absurd hz this
 rw[if_neg h1]at hz⊢;by_cases h2:x.phase=2
 .rw[if_pos h2]at hz;have:(WbT x).phase≠0:=by
   unfold WbT;split
   .show(6:Int)≠0;omega
   .split
    .show(1:Int)≠0;omega
    .exact h0
  exact absurd hz this
 rw[if_neg h2]at hz⊢;by_cases h3:x.phase=3
 .rw[if_pos h3]at hz;have:(WaT w x).2.phase≠0:=by
   unfold WaT;split
   .exact h0
   .show(4:Int)≠0;omega
  exact absurd hz this
 rw[if_neg h3]at hz⊢;by_cases h4:x.phase=4
 .rw[if_pos h4]at hz;have:(WaG w x).phase≠0:=by
   unfold WaG;simp only;split
   .split
    .show(6:Int)≠0;omega
    .exact h0
   .show(1:Int)≠0;omega
  exact absurd hz this
 rw[if_neg h4]at hz⊢;by_cases h5:x.phase=5
 .rw[if_pos h5]at hz;have:(Was w x k).2.phase≠0:=by
   unfold Was;split
   .simp only;split
    .show(6:Int)≠0;omega
    .exact h0
   .show(WbD {x with cm:=(WC w.mem x.cm).2}).phase≠0;unfold WbD;split
    .show(6:Int)≠0;omega
    .split
     .show(if x.fate=2 then(6:Int)else 7)≠0;split<;>omega
     .exact h0
  exact absurd hz this
 rw[if_neg h5]at hz⊢;by_cases h6:x.phase=6
 .rw[if_pos h6]at hz;split at hz
  .exact absurd hz h0
  .exact absurd (show(7:Int)=0 from hz) (by omega)
 rw[if_neg h6]at hz⊢;by_cases h7:x.phase=7
 .rw[if_pos h7]at hz⊢;split at hz
  .rw[if_pos ‹_›]
  .exact absurd (show(8:Int)=0 from hz) (by omega)
 .rw[if_neg h7]at hz;exact absurd hz h0
structure WI(s:Sc)(n:Int)(w:Wo):Prop where
 ok:WOk s.2.1 n w
 wx:WX w
 lx:LX w
 wt:WT w
 tx:TX w
theorem WI.act(h:WI s n w)(a:Ac):WI s (n+1) (Wc2 s w a):=
 ⟨WbO h.ok,(WfZ h.ok h.wx).1,Wnm h.ok h.wx h.lx,Ws3 h.ok h.wt,WrM h.ok h.lx h.tx⟩
theorem WI.kids:∀(d j:Nat) (n:Int) (w:Wo),WI s n w->WI s (n+d) (Wcl s k d j w)
 |0,_,n,w,h=>by rw[Wcl];simpa using h
 |d+1,j,n,w,h=>by
  have:=WI.kids d (j+1) (n+1) _ (h.act (2,(k:Int),(j:Int)));rw[Wcl,show n+((d+1:Nat):Int)=n+1+(d:Int) by omega];exact this
def Ws7(s:Sc)(k:Nat)(w:Wo):Wo:=Wcl s k (s.2.1.getD k pg0).2.length 0 (Wc2 s w (1,(k:Int),0))
theorem WI.blk(h:WI s n w):WI s (n+1+(s.2.1.getD k pg0).2.length) (Ws7 s k w):=WI.kids _ _ _ _ (h.act _)
theorem WwB(h:WOk s.2.1 n w)(hk:k<w.roots.length):Ws7 s k w=
  (λq:Wo×Rt=>{q.1 with now:=q.1.now+(s.2.1.getD k pg0).2.length,roots:=w.roots.set k (Wah q.1.mem (s.2.1.getD k pg0) (s.2.1.getD k pg0).2.length 0 q.2)}) (WY {w with now:=w.now+1} w.roots[k] k (s.2.1.getD k pg0)):=by
 have hr:=Wi0 h hk;have hb:0<=(k:Int)/\(k:Int)<w.roots.length:=by omega
 have e:Wc2 s w (1,(k:Int),0)=Wo.put (WY {w with now:=w.now+1} w.roots[k] k (s.2.1.getD k pg0)) k:=by
  unfold Wc2;simp only[Xj];rw[if_pos hb,if_pos trivial];unfold Wi5;rw[Wf (show k<({w with now:=w.now+1}:Wo).roots.length from hk)]
 unfold Ws7;rw[e];generalize WY {w with now:=w.now+1} w.roots[k] k (s.2.1.getD k pg0)=q at*;have cu:k<(Wo.put q k).roots.length:=by show k<(q.1.roots.set k q.2).length;rw[Xab,hr];exact hk
 rw[Wpa _ _ _ cu (by omega)];have e1:(Wo.put q k).roots[k]=q.2:=Xes ..;rw[e1];unfold Wo.put;simp only[List.set_set,hr]
theorem Wnd{d i:Nat}:(Wah m p d i x).phase=x.phase/\(Wah m p d i x).tries=x.tries:=by
 unfold Wah;split<;>exact⟨rfl,rfl⟩
theorem WcT{d i:Nat}(h:x.phase≠2):Wah m p d i x=x:=by unfold Wah;rw[if_neg h]
theorem WqM(hp:POk p)(hx:ROk p n x)(ht:RT x)(hm:W0 m=true):Wi p (Wah m p p.2.length 0 x)<=Wi p x:=by
 by_cases h2:x.phase=2
 .obtain⟨f1,f2,f3⟩:=(hx.live (by omega)).fork h2;unfold Wah;rw[if_pos h2];by_cases hl:x.fam.lost=true
  .rw[WdL _ _ _ hl];exact Xv _
  by_cases ho:Wa4 x.fam=true
  .rw[Wic ho _ _ (by rw[f3.len];omega)];exact Xv _
  .have:=Wig hp hx ht h2 hl ho hm;omega
 .rw[WcT h2];exact Xv _
structure BK(w v:Wo)(k:Nat)(p:Pg)(x y:Rt):Prop where
 tok:v.token=w.token\/(v.token=(k:Int)+1/\w.token=0/\x.phase=0/\y.phase=0)\/(w.token=(k:Int)+1/\v.token=0/\y.phase=8)
 mem:x.phase≠5->v.mem=w.mem
 done:x.phase=8->y=x
 idle:x.phase=0->(y=x/\(w.token=0->v.token=(k:Int)+1)/\(w.token=(k:Int)+1->W6 k w.roots 0=false))\/
  (y.phase=1/\Wi p y=785/\y.tries=x.tries/\v.token=w.token/\(w.token=0/\x.tries<3\/w.token=(k:Int)+1/\W6 k w.roots 0=true/\RGd v.mem y/\WcR p y=493))
 live:1<=x.phase/\x.phase<=7->y.phase=8\/(y.phase=0/\y.tries=x.tries+1)\/((1<=y.phase/\y.phase<=7)/\y.tries=x.tries/\Wi p y<Wi p x)
 keep:x.phase≠0->x.phase≠8->y.phase≠0->y.tries=x.tries
 good:x.phase≠0->x.phase≠8->RGd w.mem x->(∀e∈w.holds,e.1=(k:Int)+1)->y.phase=8\/(RGd v.mem y/\WcR p y<WcR p x)
theorem WpA(h:WI s n w)(hk:k<w.roots.length)(h0:w.roots[k].phase=0)(ho:W6 k w.roots 0=true){t b:Int}{r:List Int}:
  RGd w.mem {phase:=1,tries:=t,rv:=w.mem.1,began:=b,regs:=r}:=by
 refine⟨rfl,rfl,.inl rfl,λ_=>⟨λi a c=>⟨?_,?_⟩,λh=>by cases h⟩,λh=>by(change (1:Int)=2 at h;omega),λh=>by(change (1:Int)=5 at h;omega),λh=>by(change (1:Int)=5\/(1:Int)=6\/(1:Int)=7 at h;omega)⟩
 .rcases h.lx.ow i a c with e|⟨j,hj,e⟩
  .exact e
  .have h5:w.roots[j].phase≠5:=by
    by_cases dg:j=k
    .subst dg;omega
    .rcases WdJ ho j hj (by omega)with e|e<;>omega
   exact absurd e ((h.lx.root j hj).no h5 i a c)
 .have:=We5 h.ok.mem ⟨a,c⟩;unfold WqD at this;simp only[Xh,decide_eq_true_eq]at this;exact this.2.1.2
theorem WuE(h:WI s n w)(hk:k<w.roots.length)(hn:n<=99999):∃y,(Ws7 s k w).roots=w.roots.set k y/\BK w (Ws7 s k w) k (s.2.1.getD k pg0) w.roots[k] y:=by
 have iN:=h.ok.l4;have hlen:=h.ok.len;have hp:POk (s.2.1.getD k pg0):=Wgv h.ok.progs (by omega);have hx:=h.ok.root k hk;have qs:=h.wx k hk;have ht:=h.wt.root k hk;have ir:=h.wt.clk;have pA:=h.ok.now;have vQ:=hx.phase;have aD:0<=(s.2.1.getD k pg0).2.length:=Xbq _;rw[WwB h.ok hk];generalize c8:s.2.1.getD k pg0=p at*;have hq:=WhT (w:={w with now:=w.now+1}) (k:=k) hp ⟨h.ok.mem,h.ok.shelf,h.ok.holds⟩ hx (by omega) h.ok.n0;have xP:=Wo4 (w:={w with now:=w.now+1}) (k:=k) (p:=p) ht;have nr:=Wmt (w:={w with now:=w.now+1}) (x:=w.roots[k]) (k:=k) (p:=p);have tE:=Wgk (w:={w with now:=w.now+1}) (x:=w.roots[k]) (k:=k) (p:=p);have hz:=Wj2 (w:={w with now:=w.now+1}) (x:=w.roots[k]) (k:=k) (p:=p);have sK:=Wkc (w:={w with now:=w.now+1}) (k:=k) hp hx qs ht (by omega);have iQ:LB {w with now:=w.now+1} k w.roots[k]:=⟨(h.lx.root k hk).cm,(h.lx.root k hk).no,(h.lx.root k hk).hd,(h.lx.root k hk).tk⟩;have uF:=λhg hh=>Ww3 (w:={w with now:=w.now+1}) (k:=k) hp hx qs ht (by omega) hg hh h.ok.mem iQ (show w.mem.1<1000000 by omega);have bv:w.roots[k].phase=0->WY {w with now:=w.now+1} w.roots[k] k p=Wdd {w with now:=w.now+1} w.roots[k] k:=λh0=>by
  unfold WY;rw[if_neg (by omega),if_pos h0]
 refine⟨_,rfl,?_⟩;have aY:=Wnd (m:=(WY {w with now:=w.now+1} w.roots[k] k p).1.mem) (p:=p) (x:=(WY {w with now:=w.now+1} w.roots[k] k p).2) (d:=p.2.length) (i:=0);have hle:=WqM hp hq.root xP hq.mem;have hne:=WcT (m:=(WY {w with now:=w.now+1} w.roots[k] k p).1.mem) (p:=p) (x:=(WY {w with now:=w.now+1} w.roots[k] k p).2) (d:=p.2.length) (i:=0);constructor
 .show(WY {w with now:=w.now+1} w.roots[k] k p).1.token=w.token\/_;rcases tE.tok with e|⟨e1,e2,e3,e4⟩|⟨e1,e2,e3⟩
  .exact .inl e
  .exact .inr (.inl ⟨e1,e2,e3,by rw[aY.1];exact e4⟩)
  .exact .inr (.inr ⟨e1,e2,by rw[aY.1];exact e3⟩)
 .intro h5;rcases nr with e|e
  .exact e
  .exact absurd e.1 h5
 .intro h8;have e:=tE.done h8;rw[e];exact WcT (by show w.roots[k].phase≠2;omega)
 .intro h0;rw[bv h0];unfold Wdd;by_cases a1:w.token≠0/\w.token≠(k:Int)+1
  .rw[if_pos a1];exact .inl ⟨WcT (by show w.roots[k].phase≠2;omega),λh=>absurd h a1.1,λh=>absurd h a1.2⟩
  rw[if_neg a1];by_cases a2:w.roots[k].tries>=3/\w.token=0
  .rw[if_pos a2];exact .inl ⟨WcT (by show w.roots[k].phase≠2;omega),λ_=>rfl,λh=>by have:=a2.2;omega⟩
  rw[if_neg a2];by_cases a3:w.token=(k:Int)+1/\W6 k w.roots 0=false
  .rw[if_pos a3];exact .inl ⟨WcT (by show w.roots[k].phase≠2;omega),λh=>by have:=a3.1;omega,λ_=>a3.2⟩
  rw[if_neg a3];right;have e:∀m,Wah m p p.2.length 0 ({phase:=1,tries:=w.roots[k].tries,rv:=w.mem.1,began:=w.now+1,regs:=[0,0,0,0]}:Rt)={phase:=1,tries:=w.roots[k].tries,rv:=w.mem.1,began:=w.now+1,regs:=[0,0,0,0]}:=λm=>WcT (by show(1:Int)≠2;omega);have sL:Wi p ({phase:=1,tries:=w.roots[k].tries,rv:=w.mem.1,began:=w.now+1,regs:=[0,0,0,0]}:Rt)=785:=by
   rw[Wcb rfl];have:Wd9 p 0=382:=by
    have e0:frk p.1 0=0:=rfl;unfold Wd9;rw[show(0:Int).toNat=0 from rfl,e0];rfl
   have e1:WaV ({phase:=1,tries:=w.roots[k].tries,rv:=w.mem.1,began:=w.now+1,regs:=[0,0,0,0]}:Rt)=328:=rfl;rw[e1];show 75-3*0-0+Wd9 p 0+328=785;omega
  refine⟨?_,?_,?_,rfl,?_⟩
  .show(Wah w.mem p p.2.length 0 ({phase:=1,tries:=w.roots[k].tries,rv:=w.mem.1,began:=w.now+1,regs:=[0,0,0,0]}:Rt)).phase=1;rw[e]
  .show Wi p (Wah w.mem p p.2.length 0 ({phase:=1,tries:=w.roots[k].tries,rv:=w.mem.1,began:=w.now+1,regs:=[0,0,0,0]}:Rt))=785;rw[e];exact sL
  .show(Wah w.mem p p.2.length 0 ({phase:=1,tries:=w.roots[k].tries,rv:=w.mem.1,began:=w.now+1,regs:=[0,0,0,0]}:Rt)).tries=_;rw[e]
  .by_cases h0:w.token=0
   .exact .inl ⟨h0,by omega⟩
   .have kP:w.token=(k:Int)+1:=by omega
    have nC:W6 k w.roots 0=true:=by
     cases hc:W6 k w.roots 0 with
     |true=>rfl
     |false=>exact absurd ⟨kP,hc⟩ a3
    refine .inr ⟨kP,nC,?_,?_⟩
    .show RGd w.mem (Wah w.mem p p.2.length 0 ({phase:=1,tries:=w.roots[k].tries,rv:=w.mem.1,began:=w.now+1,regs:=[0,0,0,0]}:Rt));rw[e];exact WpA h hk ‹_› nC
    .show WcR p (Wah w.mem p p.2.length 0 ({phase:=1,tries:=w.roots[k].tries,rv:=w.mem.1,began:=w.now+1,regs:=[0,0,0,0]}:Rt))=493;rw[e];unfold WcR;rw[if_pos (by show(1:Int)<=4;omega),sL];rfl
 .intro ar;show(Wah (WY {w with now:=w.now+1} w.roots[k] k p).1.mem p p.2.length 0 (WY {w with now:=w.now+1} w.roots[k] k p).2).phase=8\/_;rw[aY.1,aY.2];have zF:=hq.root.phase;by_cases pz:(WY {w with now:=w.now+1} w.roots[k] k p).2.phase=0
  .exact .inr (.inl ⟨pz,hz (by omega) pz⟩)
  by_cases hz8:(WY {w with now:=w.now+1} w.roots[k] k p).2.phase=8
  .exact .inl hz8
  refine .inr (.inr ⟨by omega,tE.try1 (by omega) (by omega) pz,?_⟩);rcases sK ar with hl|⟨h2,hl,ho,e⟩
  .omega
  .rw[e];rcases nr with em|em
   .rw[em];have:=Wig hp hx ht h2 hl ho h.ok.mem;unfold Wah;rw[if_pos h2];exact this
   .omega
 .intro h0 h8 vR;simp only[aY.1]at vR;rw[aY.2];exact tE.try1 h0 h8 vR
 .intro h0 h8 hg hh;rcases uF hg hh with e8|⟨gq,jZ⟩
  .exact .inl (by rw[aY.1];exact e8)
  right;generalize WY {w with now:=w.now+1} w.roots[k] k p=q at*;show RGd q.1.mem (Wah q.1.mem p p.2.length 0 q.2)/\WcR p (Wah q.1.mem p p.2.length 0 q.2)<WcR p w.roots[k];refine⟨?_,?_⟩
  .by_cases h2:q.2.phase=2
   .unfold Wah;rw[if_pos h2];obtain⟨f1,f2,f3⟩:=(hq.root.live (by omega)).fork h2;have hT:=(xP.fam h2).resolve_left (by rw[(gq.fam h2).lost];simp);exact⟨gq.dm,gq.sp,gq.ph,gq.run,λ_=>WlQ hq.mem hp.kids hp.k3 _ _ _ _ (by omega) f3 hT (gq.fam h2),λh5=>gq.cm h5,gq.ft⟩
   .rw[hne h2];exact gq
  .have zG:WcR p (Wah q.1.mem p p.2.length 0 q.2)<=WcR p q.2:=by
    unfold WcR;rw[aY.1];split<;>omega
   rcases jZ with hl|⟨h2,hl,ho,e⟩
   .omega
   .rw[e]at zG⊢;rcases nr with em|em
    .rw[em];have:=Wig hp hx ht h2 hl ho h.ok.mem;have ek:Wah w.mem p p.2.length 0 w.roots[k]={w.roots[k]with fam:=WbV w.mem p.2 p.2.length 0 w.roots[k].fam}:=by unfold Wah;rw[if_pos h2]
     show WcR p (Wah w.mem p p.2.length 0 w.roots[k])<_;unfold WcR;rw[Wnd.1,if_pos (by omega),if_pos (by omega),ek];exact Int.sub_lt_sub_right this 292
    .omega
end
section
variable{s:Sc}{w v:Wo}{n:Int}{x y:Rt}{k i:Nat}{p:Pg}
def Wh1(s:Sc)(j:Nat):Pg:=s.2.1.getD j pg0
structure RJ(w:Wo)(p:Pg)(j:Nat)(x y:Rt):Prop where
 done:x.phase=8->y=x
 idle:x.phase=0->y=x\/(y.phase=1/\Wi p y=785/\y.tries=x.tries/\(x.tries<3\/w.token=(j:Int)+1))
 live:1<=x.phase/\x.phase<=7->y.phase=8\/(y.phase=0/\y.tries=x.tries+1)\/((1<=y.phase/\y.phase<=7)/\y.tries=x.tries/\Wi p y<Wi p x)
def Wwq(w v:Wo)(p:Pg)(k i:Nat)(x y:Rt):Prop:=
 (i<=k->x.phase≠0->RGd w.mem x->RGd v.mem x)/\
 (k<i->(x.phase=0->(y=x/\∃(j:Nat) (h:j<w.roots.length),j≠k/\1<=w.roots[j].phase/\w.roots[j].phase<=7)\/(y.phase=1/\RGd v.mem y/\WcR p y=493))/\(x.phase≠0->RGd w.mem x->RGd v.mem y/\WcR p y<WcR p x))
structure Rd(s:Sc)(w v:Wo)(i:Nat):Prop where
 len:v.roots.length=w.roots.length
 rest:∀(j:Nat) (h:j<w.roots.length) (h':j<v.roots.length),i<=j->v.roots[j]=w.roots[j]
 did:∀(j:Nat) (h:j<w.roots.length) (h':j<v.roots.length),j<i->RJ w (Wh1 s j) j w.roots[j] v.roots[j]
 tk0:w.token=0->(v.token=0/\∀(j:Nat) (h:j<w.roots.length) (h':j<v.roots.length),j<i->w.roots[j].phase=0->v.roots[j].phase=1)\/
  ∃(k:Nat) (h:k<w.roots.length) (h':k<v.roots.length),k<i/\v.token=(k:Int)+1/\w.roots[k].phase=0/\v.roots[k].phase=0
 tk1:∀(k:Nat) (h:k<w.roots.length) (h':k<v.roots.length),w.token=(k:Int)+1->
  (v.token=(k:Int)+1/\(∀(j:Nat) (h:j<w.roots.length) (h':j<v.roots.length),j≠k->w.roots[j].phase=0->v.roots[j]=w.roots[j])/\Wwq w v (Wh1 s k) k i w.roots[k] v.roots[k])\/
  (k<i/\w.roots[k].phase≠0/\v.roots[k].phase=8/\(v.token=0\/∃(j:Nat) (h:j<w.roots.length) (h':j<v.roots.length),j<i/\j≠k/\v.token=(j:Int)+1/\v.roots[j].phase=0/\w.roots[j].phase≠8))
theorem Rd.refl:Rd s w w 0:=
 ⟨rfl,λ_ _ _ _=>rfl,λj _ _ h=>absurd h (by omega),λh=>.inl ⟨h,λj _ _ h=>absurd h (by omega)⟩,λk h _ ht=>.inl ⟨ht,λ_ _ _ _ _=>rfl,λ_ _ h=>h,λh=>absurd h (by omega)⟩⟩
theorem Wez:∀{l:List Rt} {i:Nat},W6 k l i=false->∃(j:Nat) (h:j<l.length),i+j≠k/\l[j].phase≠0/\l[j].phase≠8
 | [],i,h=>by cases h
 |x::l,i,h=>by
  rw[W6]at h;by_cases hx:i≠k/\x.phase≠0/\x.phase≠8
  .exact⟨0,by simp,by simpa using hx.1,hx.2.1,hx.2.2⟩
  .have:(decide (i=k)||(decide (x.phase=0)||decide (x.phase=8)))=true:=by
    simp only[Bool.or_eq_true,decide_eq_true_eq];by_cases h1:i=k
    .exact .inl h1
    .by_cases h2:x.phase=0
     .exact .inr (.inl h2)
     .by_cases h3:x.phase=8
      .exact .inr (.inr h3)
      .exact absurd ⟨h1,h2,h3⟩ hx
   rw[this,Xbf]at h;obtain⟨j,hj,a,b⟩:=Wez h;exact⟨j+1,by simpa using hj,by omega,by simpa using b⟩
theorem WmJ(h:LX w)(ho:∀(j:Nat) (hj:j<w.roots.length),j≠k->w.roots[j].phase=0\/w.roots[j].phase=8):∀e∈w.holds,e.1=(k:Int)+1:=λe he=>by
 obtain⟨j,hj,e1⟩:=h.hd e he;by_cases dg:j=k
 .subst dg;exact e1
 .have:=(h.root j hj).hd e he e1;rcases ho j hj dg with h0|h8
  .exact absurd h0 this.1
  .exact absurd h8 this.2
theorem Rd.step(h0:WI s n w)(hv:∃n',n'<=99999/\WI s n' v)(hR:Rd s w v i)(hi:i<w.roots.length):Rd s w (Ws7 s i v) (i+1):=by
 obtain⟨n',vZ,hV⟩:=hv;have ar:=hR.len;have sM:i<v.roots.length:=by omega
 obtain⟨y,hy,hB⟩:=WuE hV sM vZ;change BK v (Ws7 s i v) i (Wh1 s i) v.roots[i] y at hB;have vS:=hR.rest i hi sM (Xm _);have vQ:=(hV.ok.root i sM).phase;have gR:=hV.lx.tk;have hUl:=(hV.blk (k:=i)).lx;generalize Ws7 s i v=u at*;have hlu:u.roots.length=v.roots.length:=by rw[hy,Xab]
 have hg:∀(j:Nat) (h:j<u.roots.length) (h':j<v.roots.length),u.roots[j]=if i=j then y else v.roots[j]:=λj h h'=>by
  simp only[hy,Xaq]
 have mW:∀(h:i<u.roots.length),u.roots[i]=y:=λh=>by rw[hg i h sM,if_pos rfl]
 have mg:∀(j:Nat) (h:j<u.roots.length) (h':j<v.roots.length),j≠i->u.roots[j]=v.roots[j]:=λj h h' hne=>by rw[hg j h h',if_neg (λe=>hne e.symm)]
 rw[vS]at hB;have hRJ:RJ w (Wh1 s i) i w.roots[i] y:=by
  refine⟨hB.done,λtw=>?_,hB.live⟩;rcases hB.idle tw with⟨e,_⟩|⟨e1,e2,e3,e4,e5⟩
  .exact .inl e
  .refine .inr ⟨e1,e2,e3,?_⟩;rcases e5 with⟨_,e5⟩|⟨e5,_⟩
   .exact .inl e5
   .right;by_cases kJ:w.token=0
    .rcases hR.tk0 kJ with⟨a,_⟩|⟨k,a1,a2,a3,a4,a5,a6⟩
     .omega
     .omega
    .obtain⟨k,hk,ek⟩:=h0.lx.tk.resolve_left kJ;rcases hR.tk1 k hk (by omega) ek with⟨a,_⟩|⟨_,_,_,a|⟨j,_,_,a0,_,a,_⟩⟩
     .omega
     .omega
     .omega
 constructor
 .omega
 .intro j h h' hij;rw[mg j h' (by omega) (by omega)];exact hR.rest j h (by omega) (by omega)
 .intro j h h' hij;by_cases hj:j=i
  .subst hj;rw[mW h'];exact hRJ
  .rw[mg j h' (by omega) hj];exact hR.did j h (by omega) (by omega)
 .intro kJ;rcases hR.tk0 kJ with⟨a,b⟩|⟨k,a1,a2,a3,a4,a5,a6⟩
  .rcases hB.tok with e|⟨e1,e2,e3,e4⟩|⟨e1,_⟩
   .refine .inl ⟨by omega,λj h h' lF hz=>?_⟩;by_cases hj:j=i
    .subst hj;rw[mW h'];rcases hB.idle hz with⟨_,e2,_⟩|⟨e1,_⟩
     .have:=e2 a;omega
     .exact e1
    .rw[mg j h' (by omega) hj];exact b j h (by omega) (by omega) hz
   .exact .inr ⟨i,hi,by omega,by omega,e1,e3,by rw[mW];exact e4⟩
   .omega
  .right;have jk:k≠i:=by omega
   refine⟨k,a1,by omega,by omega,?_,a5,by rw[mg k _ a2 jk];exact a6⟩;rcases hB.tok with e|⟨e1,e2,e3,e4⟩|⟨e1,_⟩
   .omega
   .omega
   .omega
 .intro k hk cu mX;have kK:k<v.roots.length:=by omega
  rcases hR.tk1 k hk kK mX with⟨a,b,c1,c2⟩|⟨a1,a2,a3,a4⟩
  .by_cases kI:i=k
   .subst kI;rw[mW cu];rcases hB.tok with e|⟨_,e2,_⟩|⟨e1,e2,e3⟩
    .refine .inl ⟨by omega,λj h h' hne hz=>by rw[mg j h' (by omega) hne];exact b j h (by omega) hne hz,λh=>absurd h (by omega),λ_=>⟨λhz=>?_,λjV hg0=>?_⟩⟩
     .rcases hB.idle hz with⟨f1,_,f3⟩|⟨f1,f2,f3,f4,f5⟩
      .obtain⟨j,hj,j1,j2,j3⟩:=Wez (f3 a);have sN:j<w.roots.length:=by omega
       refine .inl ⟨f1,j,sN,by omega,?_⟩;have aY:=(h0.ok.root j sN).phase;have n0:w.roots[j].phase≠0:=λhz=>j2 (by rw[b j sN hj (by omega) hz];exact hz);have n8:w.roots[j].phase≠8:=λhz=>by
        by_cases lF:j<i
        .have:=(hR.did j sN hj lF).done hz;exact j3 (by rw[this];exact hz)
        .have:=hR.rest j sN hj (by omega);exact j3 (by rw[this];exact hz)
       omega
      .right;rcases f5 with⟨f5,_⟩|⟨_,_,f5,f6⟩
       .omega
       .exact⟨f1,f5,f6⟩
     .have n8:w.roots[i].phase≠8:=λh8=>by
       have:=(hUl.root i cu).tk (by omega);rw[mW cu,hB.done h8]at this;exact this.2 h8
      have pD:=WmJ (k:=i) hV.lx (λj hj hne=>hV.tx.t2 i kK a (by rw[vS];exact jV) j hj hne);rcases hB.good jV n8 (c1 (Xm _) jV hg0) pD with h8|sS
      .have:=(hUl.root i cu).tk (by omega);rw[mW cu]at this;exact absurd h8 this.2
      .exact sS
    .omega
    .refine .inr ⟨by omega,λhz=>?_,e3,.inl e2⟩;rcases hB.idle hz with⟨f1,_⟩|⟨f1,_⟩
     .rw[f1]at e3;omega
     .omega
   .have jk:k≠i:=λe=>kI e.symm;have gR:u.token=(k:Int)+1:=by
     rcases hB.tok with e|⟨_,e2,_⟩|⟨e1,e2,e3⟩<;>omega
    have hmem:v.roots[k].phase≠0->u.mem=v.mem:=λjV=>by
     have:=hV.tx.t2 k kK a jV i sM kI;rw[vS]at this;exact hB.mem (by omega)
    rw[mg k cu kK jk];refine .inl ⟨gR,λj h h' hne hz=>?_,λhle jV hg0=>?_,λhlt=>?_⟩
    .by_cases hj:j=i
     .subst hj;rw[mW h'];rcases hB.idle hz with⟨f1,_⟩|⟨f1,f2,f3,f4,f5⟩
      .exact f1
      .omega
     .rw[mg j h' (by omega) hj];exact b j h (by omega) hne hz
    .have e:=hR.rest k hk kK (by omega);rw[hmem (by rw[e];exact jV)];exact c1 (by omega) jV hg0
    .obtain⟨d1,d2⟩:=c2 (by omega);refine⟨λhz=>?_,λjV hg0=>?_⟩
     .rcases d1 hz with d|⟨d3,d4,d5⟩
      .exact .inl d
      .exact .inr ⟨d3,by rw[hmem (by omega)];exact d4,d5⟩
     .obtain⟨d3,d4⟩:=d2 jV hg0;have:=d3.ph;exact⟨by rw[hmem (by omega)];exact d3,d4⟩
  .right;have jk:k≠i:=by omega
   refine⟨by omega,a2,by rw[mg k cu kK jk];exact a3,?_⟩;rcases a4 with a4|⟨j,j1,j2,j3,j4,j5,j6,j7⟩
   .rcases hB.tok with e|⟨e1,e2,e3,e4⟩|⟨e1,e2,e3⟩
    .exact .inl (by omega)
    .exact .inr ⟨i,hi,by omega,by omega,λe=>jk e.symm,e1,by rw[mW];exact e4,by omega⟩
    .omega
   .right;refine⟨j,j1,by omega,by omega,j4,?_,by rw[mg j _ j2 (by omega)];exact j6,j7⟩;rcases hB.tok with e|⟨e1,e2,e3,e4⟩|⟨e1,e2,e3⟩<;>omega
end
section
variable{s:Sc}{w v:Wo}{n:Int}{x y:Rt}{k i:Nat}{p:Pg}
theorem Wky(h0:WI s n w):∀(d i:Nat) (n':Int) (v:Wo),i+d=s.2.1.length->WI s n' v->n'+4*d<=99999->Rd s w v i->Rd s w (Wav s d i v) s.2.1.length/\∃m,m<=n'+4*d/\WI s m (Wav s d i v)
 |0,i,n',v,hi,hV,hn,hR=>by
  rw[Wav,show s.2.1.length=i by omega];exact⟨hR,n',by omega,hV⟩
 |d+1,i,n',v,hi,hV,hn,hR=>by
  have xQ:=h0.ok.len;have hB:=hR.step h0 ⟨n',by omega,hV⟩ (by omega);have h3:=pk3 hV.ok (i:=i) (by omega);have hW:=hV.blk (k:=i);obtain⟨a,m,hm,b⟩:=Wky h0 d (i+1) _ _ (by omega) hW (by omega) hB;rw[Wav];exact⟨a,m,by omega,b⟩
def WgF(x:Rt):Bool:=decide (x.phase≠8)
def Wi3(l:List Rt):Int:=(l.countP WgF:Nat)
theorem WsO:∀(l l':List Rt),l'.length=l.length->(∀(j:Nat) (h:j<l.length) (h':j<l'.length),WgF l'[j]=true->WgF l[j]=true)->l'.countP WgF<=l.countP WgF
 | [],[],_,_=>Xm _
 | [],_::_,h,_=>by simp at h
 |_::_,[],h,_=>by simp at h
 |x::l,y::l',h,hp=>by
  have ih:=WsO l l' (by simpa using h) λj h1 h2 hu=>hp (j+1) (by simpa using h1) (by simpa using h2) hu;have h0:WgF y=true->WgF x=true:=hp 0 (by simp) (by simp);rw[Xbi,Xbi];by_cases hy:WgF y=true
  .rw[if_pos hy,if_pos (h0 hy)];omega
  .rw[if_neg hy];omega
theorem Wsy:∀(l l':List Rt),l'.length=l.length->(∀(j:Nat) (h:j<l.length) (h':j<l'.length),WgF l'[j]=true->WgF l[j]=true)->∀(k:Nat) (h:k<l.length) (h':k<l'.length),WgF l[k]=true->WgF l'[k]=false->l'.countP WgF+1<=l.countP WgF
 | [],_,_,_,k,h,_,_,_=>by simp at h
 |_::_,[],h,_,_,_,_,_,_=>by simp at h
 |x::l,y::l',h,hp,k,hk,cu,h1,h2=>by
  have h0:WgF y=true->WgF x=true:=hp 0 (by simp) (by simp);have hq:∀(j:Nat) (h:j<l.length) (h':j<l'.length),WgF l'[j]=true->WgF l[j]=true:=λj h1 h2 hu=>hp (j+1) (by simpa using h1) (by simpa using h2) hu;rw[Xbi,Xbi];cases k with
  |zero=>
   have hx:WgF x=true:=h1;have hy:WgF y=false:=h2;have:=WsO l l' (by simpa using h) hq;rw[if_pos hx,hy];simp;omega
  |succ k=>
   have ih:=Wsy l l' (by simpa using h) hq k (by simpa using hk) (by simpa using cu) h1 h2;by_cases hy:WgF y=true
   .rw[if_pos hy,if_pos (h0 hy)];omega
   .rw[if_neg hy];omega
theorem Wkt{l:List Rt}{k:Nat}(h:k<l.length)(hu:l[k].phase≠8):Wi3 (l.set k {phase:=8})+1<=Wi3 l:=by
 have:=Wsy l (l.set k {phase:=8}) (by simp) (λj h1 h2 hu=>by
  rw[Xaq]at hu;split at hu
  .cases hu
  .exact hu) k h (by simpa using h) (by unfold WgF;simpa using hu) (by rw[Xes];rfl)
 unfold Wi3;omega
theorem Wq6(l:List Rt):0<=Wi3 l:=Xeh _
theorem Wvc{l:List Rt}{k:Nat}(h:k<l.length)(hu:l[k].phase≠8):1<=Wi3 l:=by
 have:=Wkt h hu;have:=Wq6 (l.set k {phase:=8});omega
theorem Wu1{l:List Rt}{k j:Nat}(h:k<l.length)(hj:j<l.length)(hne:k≠j)(hu:l[k].phase≠8)(hv:l[j].phase≠8):2<=Wi3 l:=by
 have:=Wkt h hu;have:=Wvc (l:=l.set k {phase:=8}) (k:=j) (by simpa using hj) (by rw[Xff hne];exact hv);omega
theorem Ww4{l:List Rt}{k j i:Nat}(h:k<l.length)(hj:j<l.length)(hi:i<l.length)(h1:k≠j)(h2:k≠i)(h3:j≠i)(hu:l[k].phase≠8)(hv:l[j].phase≠8)(hw:l[i].phase≠8):3<=Wi3 l:=by
 have:=Wkt h hu;have:=Wu1 (l:=l.set k {phase:=8}) (k:=j) (j:=i) (by simpa using hj) (by simpa using hi) h3 (by rw[Xff h1];exact hv) (by rw[Xff h2];exact hw);omega
theorem Wwu(l:List Rt)(h:l.length<=4):Wi3 l<=4:=by
 have:l.countP WgF<=l.length:=Xdh;unfold Wi3;omega
def tr2(x:Rt):Int:=if x.tries<=2 then 786*(2-x.tries)else 0
def tr3(x:Rt):Int:=if x.tries<=3 then 786*(3-x.tries)else 0
def Bpt(p:Pg)(x:Rt):Int:=if x.phase=0 then tr3 x else if x.phase=8 then 0 else Wi p x+tr2 x
def KP(m:Mm)(p:Pg)(x:Rt)(K:Int):Prop:=(x.phase=0->494<=K)/\(x.phase≠0->Wi p x+494<=K\/(RGd m x/\WcR p x<=K))
def ex3(u:Int):Int:=if u>=3 then 808*(u-2)else 0
def ex4(u:Int):Int:=if u>=4 then 808*(u-3)else 0
def exD(u D:Int):Int:=if u>=3 then D else 0
structure Bd(s:Sc)(N:Int)(w:Wo):Prop where
 free:w.token=0->∀(r:Nat) (h:r<w.roots.length),w.roots[r].phase≠8->Bpt (Wh1 s r) w.roots[r]+495*Wi3 w.roots+ex3 (Wi3 w.roots)<=N
 held:∀(k:Nat) (h:k<w.roots.length),w.token=(k:Int)+1->∃K D:Int,KP w.mem (Wh1 s k) w.roots[k] K/\0<=D/\K<=N/\
  (∀(j:Nat) (h:j<w.roots.length),j≠k->1<=w.roots[j].phase->w.roots[j].phase<=7->Wi (Wh1 s j) w.roots[j]<=D)/\
  ∀(r:Nat) (h:r<w.roots.length),r≠k->w.roots[r].phase≠8->Bpt (Wh1 s r) w.roots[r]+K+exD (Wi3 w.roots) D+495*(Wi3 w.roots-1)+ex4 (Wi3 w.roots)<=N
theorem Wpi(hp:POk p)(hx:ROk p n x)(ht:RT x):0<=Bpt p x/\Bpt p x<=2380/\(x.phase=0->Bpt p x<=2358)/\(1<=x.phase->x.phase<=7->1<=Bpt p x):=by
 have h8:=WbG hp hx ht;have mT:=hx.tries;have aY:=hx.phase;unfold Bpt tr2 tr3;by_cases h0:x.phase=0
 .rw[if_pos h0];split<;>omega
 .rw[if_neg h0];by_cases ml:x.phase=8
  .rw[if_pos ml];omega
  .rw[if_neg ml];have:=h8.2.2 (by omega);split<;>omega
theorem RJ.b{j:Nat}(h:RJ w p j x y)(hp:POk p)(hx:ROk p n x)(ht:RT x)(hw:w.token≠(j:Int)+1):Bpt p y<=Bpt p x/\(1<=x.phase->x.phase<=7->Bpt p y<Bpt p x)/\(y.phase=1->x.phase=0->Bpt p y<Bpt p x):=by
 have h8:=WbG hp hx ht;have mT:=hx.tries;have aY:=hx.phase;have e0:∀z:Rt,z.phase=0->Bpt p z=tr3 z:=λz h=>by unfold Bpt;rw[if_pos h]
 have e8:∀z:Rt,z.phase=8->Bpt p z=0:=λz h=>by unfold Bpt;rw[if_neg (by omega),if_pos h]
 have el:∀z:Rt,1<=z.phase->z.phase<=7->Bpt p z=Wi p z+tr2 z:=λz h h'=>by unfold Bpt;rw[if_neg (by omega),if_neg (by omega)]
 have vR:=(Wpi hp hx ht).1;by_cases h0:x.phase=0
 .rcases h.idle h0 with e|⟨e1,e2,e3,e4⟩
  .subst e;exact⟨Xv _,λh=>by omega,λh=>by omega⟩
  .rw[e0 x h0,el y (by omega) (by omega)];have:x.tries<3:=by omega
   unfold tr2 tr3;rw[e3];split<;>split<;>omega
 by_cases ml:x.phase=8
 .have e:=h.done ml;subst e;exact⟨Xv _,λ_ h=>by omega,λh=>by omega⟩
 .have hl:=h.live (by omega);have:=h8.2.2 (by omega);rw[el x (by omega) (by omega)];have tt:0<=tr2 x:=by unfold tr2;split<;>omega
  rcases hl with e|⟨e1,e2⟩|⟨e1,e2,e3⟩
  .rw[e8 y e];omega
  .rw[e0 y e1];have:tr3 y=tr2 x:=by unfold tr2 tr3;rw[e2];split<;>split<;>omega
   omega
  .rw[el y e1.1 e1.2];have:tr2 y=tr2 x:=by unfold tr2;rw[e2]
   omega
end
section
variable{s:Sc}{w v:Wo}{n m N:Int}{x y:Rt}{k i:Nat}{p:Pg}
theorem wpg(h:WI s n w){j:Nat}(hj:j<w.roots.length):POk (Wh1 s j)/\ROk (Wh1 s j) n w.roots[j]/\RT w.roots[j]:=
 ⟨Wgv h.ok.progs (by rw[←h.ok.len];exact hj),h.ok.root j hj,h.wt.root j hj⟩
theorem Bd.round(h0:WI s n w)(hv:WI s m v)(hR:Rd s w v s.2.1.length)(hb:Bd s N w):Bd s (N-1) v:=by
 have xQ:=h0.ok.len;have ar:=hv.ok.len;have dD:∀{j:Nat},j<v.roots.length->j<w.roots.length:=λh=>by omega
 have zH:∀{j:Nat},j<w.roots.length->j<v.roots.length:=λh=>by omega
 have hJ:∀(j:Nat) (h:j<v.roots.length),RJ w (Wh1 s j) j (w.roots[j]'(dD h)) v.roots[j]:=λj h=>hR.did j (dD h) h (by omega);have eP:∀(j:Nat) (h:j<v.roots.length),v.roots[j].phase≠8->(w.roots[j]'(dD h)).phase≠8:=λj h hu hd=>hu (by rw[(hJ j h).done hd];exact hd);have mY:∀(j:Nat) (h:j<w.roots.length) (h':j<v.roots.length),WgF v.roots[j]=true->WgF w.roots[j]=true:=λj h h' hu=>by
  unfold WgF at hu⊢;simp only[decide_eq_true_eq]at hu⊢;exact eP j h' hu
 have zI:Wi3 v.roots<=Wi3 w.roots:=by have:=WsO w.roots v.roots (by omega) mY;unfold Wi3;omega
 have vT:∀(k:Nat) (h:k<v.roots.length),(w.roots[k]'(dD h)).phase≠8->v.roots[k].phase=8->Wi3 v.roots+1<=Wi3 w.roots:=λk h a b=>by
  have:=Wsy w.roots v.roots (by omega) mY k (dD h) h (by unfold WgF;simpa using a) (by unfold WgF;simpa using b);unfold Wi3;omega
 have qn:=Wwu w.roots (by have:=h0.ok.l4;omega);have hcv0:=Wq6 v.roots;have hB:∀(j:Nat) (h:j<v.roots.length),w.token≠(j:Int)+1->Bpt (Wh1 s j) v.roots[j]<=Bpt (Wh1 s j) (w.roots[j]'(dD h))/\(1<=(w.roots[j]'(dD h)).phase->(w.roots[j]'(dD h)).phase<=7->Bpt (Wh1 s j) v.roots[j]<Bpt (Wh1 s j) (w.roots[j]'(dD h)))/\(v.roots[j].phase=1->(w.roots[j]'(dD h)).phase=0->Bpt (Wh1 s j) v.roots[j]<Bpt (Wh1 s j) (w.roots[j]'(dD h))):=λj h ht=>by
  obtain⟨a,b,c⟩:=wpg h0 (dD h);exact(hJ j h).b a b c ht
 have hB0:∀(j:Nat) (h:j<w.roots.length),0<=Bpt (Wh1 s j) w.roots[j]/\(1<=w.roots[j].phase->w.roots[j].phase<=7->1<=Bpt (Wh1 s j) w.roots[j]):=λj h=>by
  obtain⟨a,b,c⟩:=wpg h0 h;have:=Wpi a b c;exact⟨this.1,this.2.2.2⟩
 have it:∀(j:Nat) (h:j<v.roots.length),Wi (Wh1 s j) v.roots[j]<=808:=λj h=>by
  obtain⟨a,b,c⟩:=wpg hv h;exact(WbG a b c).2.1
 have sO:∀(k:Nat) (h:k<v.roots.length),v.roots[k].phase=0->KP v.mem (Wh1 s k) v.roots[k] 494:=λk h hz=>⟨λ_=>Xv _,λh=>absurd hz h⟩;have aY:∀(j:Nat) (h:j<w.roots.length),0<=w.roots[j].phase/\w.roots[j].phase<=8:=λj h=>(h0.ok.root j h).phase;by_cases kJ:w.token=0
 .have hF:=hb.free kJ;rcases hR.tk0 kJ with⟨a,b⟩|⟨k,hk,cu,_,a,b,c⟩
  .refine⟨λ_ r hr hu=>?_,λk hk mZ=>by omega⟩;have h1:=hF r (dD hr) (eP r hr hu);obtain⟨g1,g2,g3⟩:=hB r hr (by omega);have hlt:Bpt (Wh1 s r) v.roots[r]<Bpt (Wh1 s r) (w.roots[r]'(dD hr)):=by
    by_cases hz:(w.roots[r]'(dD hr)).phase=0
    .exact g3 (b r (dD hr) hr (by omega) hz) hz
    .have:=aY r (dD hr);exact g2 (by omega) (by have:=eP r hr hu;omega)
   unfold ex3 at h1⊢;split at h1<;>split<;>omega
  .have tv:=hF k hk (by omega);have xw:=(hB0 k hk).1;have pS:=Wvc hk (show w.roots[k].phase≠8 by omega);refine⟨λhz=>by omega,λk' mh mZ=>?_⟩;have:k'=k:=by omega
   subst this;refine⟨494,808,sO k' mh c,by omega,?_,λj hj _ _ _=>it j hj,λr hr hne hu=>?_⟩
   .unfold ex3 at tv;split at tv<;>omega
   .have h1:=hF r (dD hr) (eP r hr hu);have g1:=(hB r hr (by omega)).1;unfold ex3 at h1;unfold exD ex4;split at h1<;>split<;>split<;>omega
 .obtain⟨k,hk,mX⟩:=h0.lx.tk.resolve_left kJ;have kK:k<v.roots.length:=zH hk;obtain⟨K,D,hK,hD0,hKN,hD,hS⟩:=hb.held k hk mX;have qr:w.roots[k].phase≠8:=((h0.lx.root k hk).tk mX).2;have hKP:=hJ k kK;rcases hR.tk1 k hk kK mX with⟨a,b,_,c⟩|⟨_,a1,a2,a3⟩
  .have sP:w.roots[k].phase≠0->1<=w.roots[k].phase/\w.roots[k].phase<=7:=λh=>by have:=aY k hk;omega
   obtain⟨c1,c2⟩:=c (by omega);have zJ:v.roots[k].phase≠8:=((hv.lx.root k kK).tk a).2;refine⟨λhz=>by omega,λk' mh mZ=>?_⟩;have:k'=k:=by omega
   subst this;have hBr:∀(r:Nat) (h:r<v.roots.length),r≠k'->_:=λr h hne=>hB r h (by omega);by_cases cw:∃(j:Nat) (h:j<w.roots.length),j≠k'/\1<=w.roots[j].phase/\w.roots[j].phase<=7
   .obtain⟨j,hj,dg,j1,j7⟩:=cw;have hD1:1<=D:=by
     have h1:=hD j hj dg j1 j7;obtain⟨e1,e2,e3⟩:=wpg h0 hj;have:=(WbG e1 e2 e3).2.2 ⟨j1,j7⟩;omega
    have hz:w.roots[k'].phase=0:=by
     apply Classical.byContradiction;intro jV;rcases h0.tx.t2 k' hk mX jV j hj dg with e|e<;>omega
    have tj:2<=Wi3 w.roots:=Wu1 hk hj (λe=>dg e.symm) (by omega) (by omega);have hSj:=hS j hj dg (by omega);have hBj:=(hB0 j hj).2 j1 j7;refine⟨K,D-1,?_,by omega,?_,λi hi kI i1 i7=>?_,λr hr hne hu=>?_⟩
    .have hK0:=hK.1 hz;rcases c1 hz with⟨e,_⟩|⟨e1,e2,e3⟩
     .rw[e];exact⟨λ_=>hK0,λh=>absurd hz h⟩
     .exact⟨λh=>by omega,λ_=>.inr ⟨e2,by omega⟩⟩
    .unfold exD ex4 at hSj;split at hSj<;>split at hSj<;>omega
    .have qu:i<w.roots.length:=dD hi;have hzi:w.roots[i].phase≠0:=λh=>by
      have:=b i qu hi kI h;rw[this]at i1;omega
     have h8i:w.roots[i].phase≠8:=eP i hi (by omega);have hp:=aY i qu;have hd:=hD i qu kI (by omega) (by omega);rcases(hJ i hi).live (by omega)with e|⟨e,_⟩|⟨_,_,e⟩
     .omega
     .omega
     .omega
    .have h1:=hS r (dD hr) hne (eP r hr hu);obtain⟨g1,g2,g3⟩:=hBr r hr hne;by_cases hrj:r=j
     .subst hrj;have:=g2 j1 j7;unfold exD ex4 at h1⊢;split at h1<;>split at h1<;>split<;>split<;>omega
     .have wy:=Ww4 hk hj (dD hr) (λe=>dg e.symm) (λe=>hne e.symm) (λe=>hrj e.symm) qr (by omega) (eP r hr hu);unfold exD ex4 at h1⊢;split at h1<;>split at h1<;>split<;>split<;>omega
   .have eU:∀(j:Nat) (h:j<w.roots.length),j≠k'->w.roots[j].phase=0\/w.roots[j].phase=8:=λj h hne=>by
     have hp:=aY j h;by_cases h1:w.roots[j].phase=0\/w.roots[j].phase=8
     .exact h1
     .exact absurd ⟨j,h,hne,by omega,by omega⟩ cw
    refine⟨K-1,D,?_,hD0,by omega,λi hi kI i1 i7=>?_,λr hr hne hu=>?_⟩
    .by_cases hz:w.roots[k'].phase=0
     .have hK0:=hK.1 hz;rcases c1 hz with⟨_,e⟩|⟨e1,e2,e3⟩
      .exact absurd e cw
      .exact⟨λh=>by omega,λ_=>.inr ⟨e2,by omega⟩⟩
     .have fW:=hKP.live (sP hz);obtain⟨e1,e2,e3⟩:=wpg h0 hk;have h1:=(WbG e1 e2 e3).2.2 (sP hz);by_cases hg:RGd w.mem w.roots[k']
      .obtain⟨d1,d2⟩:=c2 hz hg;have hdp:=d1.ph;refine⟨λh=>by omega,λ_=>?_⟩;rcases hK.2 hz with kP|⟨_,kP⟩
       .rcases fW with e|⟨e,_⟩|⟨_,_,e⟩
        .omega
        .omega
        .exact .inl (by omega)
       .exact .inr ⟨d1,by omega⟩
      .have kP:=(hK.2 hz).resolve_right (λh=>hg h.1);rcases fW with e|⟨e,_⟩|⟨e0,_,e⟩
       .exact absurd e zJ
       .exact⟨λ_=>by omega,λh=>absurd e h⟩
       .exact⟨λh=>by omega,λ_=>.inl (by omega)⟩
    .exfalso;have qu:i<w.roots.length:=dD hi;rcases eU i qu kI with e|e
     .have:=b i qu hi kI e;rw[this]at i1;omega
     .have:=(hJ i hi).done e;rw[this]at i7;omega
    .have h1:=hS r (dD hr) hne (eP r hr hu);have g1:=(hBr r hr hne).1;unfold exD ex4 at h1⊢;split at h1<;>split at h1<;>split<;>split<;>omega
  .have hK1:1<=K:=by
    obtain⟨e1,e2,e3⟩:=wpg h0 hk;have h1:=(WbG e1 e2 e3).1;rcases hK.2 a1 with h|⟨h,h'⟩
    .omega
    .have:=WsC e1 e2 e3 h;omega
   have hcl:=vT k kK qr a2;rcases a3 with a3|⟨j,hj,hj',_,dg,a4,a5,a6⟩
   .refine⟨λ_ r hr hu=>?_,λk' cu mZ=>by omega⟩;have mS:r≠k:=λe=>by subst e;exact hu a2
    have h1:=hS r (dD hr) mS (eP r hr hu);have g1:=(hB r hr (by omega)).1;unfold exD ex4 at h1;unfold ex3;split at h1<;>split at h1<;>split<;>omega
   .refine⟨λhz=>by omega,λk' mh mZ=>?_⟩;have:k'=j:=by omega
    subst this;have hSj:=hS k' hj dg a6;have hBj:=(hB0 k' hj).1;have tj:2<=Wi3 w.roots:=Wu1 hk hj (λe=>dg e.symm) qr a6;refine⟨494,808,sO k' mh a5,by omega,?_,λi hi _ _ _=>it i hi,λr hr hne hu=>?_⟩
    .unfold exD ex4 at hSj;split at hSj<;>split at hSj<;>omega
    .have mS:r≠k:=λe=>by subst e;exact hu a2
     have h1:=hS r (dD hr) mS (eP r hr hu);have g1:=(hB r hr (by omega)).1;unfold exD ex4 at h1⊢;split at h1<;>split at h1<;>split<;>split<;>omega
theorem Bd.start(h0:WI s n w):Bd s 5976 w:=by
 have qn:=Wwu w.roots (by have:=h0.ok.l4;have:=h0.ok.len;omega);have ng:=Wq6 w.roots;have hBd:∀(j:Nat) (h:j<w.roots.length),_:=λj h=>Wpi (wpg h0 h).1 (wpg h0 h).2.1 (wpg h0 h).2.2;have it:∀(j:Nat) (h:j<w.roots.length),Wi (Wh1 s j) w.roots[j]<=808:=λj h=>(WbG (wpg h0 h).1 (wpg h0 h).2.1 (wpg h0 h).2.2).2.1;refine⟨λ_ r hr hu=>?_,λk hk mZ=>?_⟩
 .have:=(hBd r hr).2.1;unfold ex3;split<;>omega
 .by_cases hz:w.roots[k].phase=0
  .refine⟨494,808,⟨λ_=>Xv _,λh=>absurd hz h⟩,by omega,by omega,λj hj _ _ _=>it j hj,λr hr hne hu=>?_⟩;have:=(hBd r hr).2.1;unfold exD ex4;split<;>split<;>omega
  .have pD:=h0.tx.t2 k hk mZ hz;refine⟨1302,0,⟨λh=>absurd h hz,λ_=>.inl (by have:=it k hk;omega)⟩,by omega,by omega,λj hj hne j1 j7=>?_,λr hr hne hu=>?_⟩
   .rcases pD j hj hne with e|e<;>omega
   .have uB:w.roots[r].phase=0:=(pD r hr hne).resolve_right hu;have:=(hBd r hr).2.2.1 uB;unfold exD ex4;split<;>split<;>omega
theorem Bd.pos(h0:WI s n w)(hb:Bd s N w)(ho:WfE w≠true):1<=N:=by
 have uu:∃(r:Nat) (h:r<w.roots.length),w.roots[r].phase≠8:=by
  apply Classical.byContradiction;intro eU;apply ho;unfold WfE;rw[Xae];intro z hz;obtain⟨j,hj,he⟩:=Xas hz;by_cases h8:z.phase=8
  .simpa using h8
  .exact absurd ⟨j,hj,by rw[he];exact h8⟩ eU
 obtain⟨r,hr,hu⟩:=uu;have hBd:∀(j:Nat) (h:j<w.roots.length),_:=λj h=>Wpi (wpg h0 h).1 (wpg h0 h).2.1 (wpg h0 h).2.2;have pS:=Wvc hr hu;by_cases kJ:w.token=0
 .have:=hb.free kJ r hr hu;have h1:=(hBd r hr).1;unfold ex3 at this;split at this<;>omega
 .obtain⟨k,hk,mX⟩:=h0.lx.tk.resolve_left kJ;obtain⟨K,D,hK,hD0,hKN,hD,hS⟩:=hb.held k hk mX;have:1<=K:=by
   by_cases hz:w.roots[k].phase=0
   .have:=hK.1 hz;omega
   .obtain⟨e1,e2,e3⟩:=wpg h0 hk;have h1:=(WbG e1 e2 e3).1;rcases hK.2 hz with h|⟨h,h'⟩
    .omega
    .have:=WsC e1 e2 e3 h;omega
  omega
theorem Wjy:∀(d:Nat) (n:Int) (w:Wo),WI s n w->n+16*d<=99999->Bd s d w->WfE (Wag s d w).1=true/\(Wag s d w).2<=d/\∃m,WI s m (Wag s d w).1
 |0,n,w,h,hn,hb=>by
  have ho:WfE w=true:=by
   apply Classical.byContradiction;intro ho;have:=hb.pos h ho;omega
  rw[Wag];exact⟨ho,Xm _,n,h⟩
 |d+1,n,w,h,hn,hb=>by
  rw[Wag];by_cases ho:WfE w=true
  .rw[if_pos ho];exact⟨ho,Xbq _,n,h⟩
  .rw[if_neg ho];have iN:=h.ok.l4;obtain⟨hR,m,hm,hW⟩:=Wky h s.2.1.length 0 n w (by omega) h (by omega) Rd.refl;have hb':=hb.round h hW hR;obtain⟨a,b,c⟩:=Wjy d m _ hW (by omega) (by rw[show(d:Int)=((d+1:Nat):Int) -1 by omega];exact hb');exact⟨a,by show _+1<=d+1;omega,c⟩
theorem Bd.mono(h:Bd s n w)(hN:n<=N):Bd s N w:=⟨λh0 r hr hu=>by have:=h.free h0 r hr hu;omega,λk hk mZ=>by
 obtain⟨K,D,a,b,c,d,e⟩:=h.held k hk mZ;exact⟨K,D,a,b,by omega,d,λr hr hne hu=>by have:=e r hr hne hu;omega⟩⟩
theorem Wlq(aM:Wjw s=true):WI s s.2.2.length (WbU s):=by
 have hN:=Wg3 aM;have hX:WX (Wge s):=Wwv;have hL:=Wvk aM;have hT:WT (Wge s):=WvF;have h:=WrE s.2.2 _ _ hN hX hL;exact⟨Wkl aM,(WiD s.2.2 _ _ hN hX).1,h,Wrj s.2.2 _ _ hN hT,WrA s.2.2 _ _ hN hX hL WvV⟩
theorem Wql(aM:Wjw s=true):WfE (Wag s 6000 (WbU s)).1=true/\(Wag s 6000 (WbU s)).2<=6000/\∃m,WI s m (Wag s 6000 (WbU s)).1:=by
 obtain⟨h1,h2,h3,h4⟩:=Wed aM;have h:=Wlq aM;exact Wjy 6000 _ _ h (by have:=h4;omega) ((Bd.start h).mono (by omega))
end
section
variable{s:Sc}{w v:Wo}{n m:Int}{x y:Rt}{k i:Nat}{p:Pg}{a:Ac}{N:Nat}{o:Opn}
theorem Wj4:∀(d j:Nat) (w:Wo),∃l:List Ac,l.length=d/\Wcl s k d j w=l.foldl (Wc2 s) w
 |0,_,w=>⟨[],rfl,rfl⟩
 |d+1,j,w=>by
  obtain⟨l,h,e⟩:=Wj4 d (j+1) (Wc2 s w (2,(k:Int),(j:Int)));exact⟨(2,(k:Int),(j:Int))::l,by simp[h],by rw[Wcl,e];rfl⟩
theorem WiJ:∀(d i:Nat) (w:Wo),(∀j:Nat,j<i+d->(s.2.1.getD j pg0).2.length<=3)->∃l:List Ac,l.length<=4*d/\Wav s d i w=l.foldl (Wc2 s) w
 |0,_,w,_=>⟨[],Xm _,rfl⟩
 |d+1,i,w,h=>by
  obtain⟨l1,h1,e1⟩:=Wj4 (s:=s) (k:=i) (s.2.1.getD i pg0).2.length 0 (Wc2 s w (1,(i:Int),0));obtain⟨l2,h2,e2⟩:=WiJ d (i+1) (Wcl s i (s.2.1.getD i pg0).2.length 0 (Wc2 s w (1,(i:Int),0))) (λj hj=>h j (by omega));have h3:=h i (by omega);refine⟨(1,(i:Int),0)::l1++l2,by simp;omega,?_⟩;rw[Wav,e2,e1,List.cons_append,Xcm,Xen]
theorem Wix(hl:s.2.1.length<=4)(h3:∀j:Nat,j<s.2.1.length->(s.2.1.getD j pg0).2.length<=3):∀(d:Nat) (w:Wo),∃l:List Ac,l.length<=16*d/\(Wag s d w).1=l.foldl (Wc2 s) w
 |0,w=>⟨[],Xbq _,rfl⟩
 |d+1,w=>by
  rw[Wag];split
  .exact⟨[],Xbq _,rfl⟩
  .obtain⟨l1,a1,e1⟩:=WiJ s.2.1.length 0 w (λj hj=>h3 j (by omega));obtain⟨l2,a2,e2⟩:=Wix hl h3 d (Wav s s.2.1.length 0 w);refine⟨l1++l2,by simp;omega,?_⟩;show(Wag s d (Wav s s.2.1.length 0 w)).1=_;rw[e2,e1,Xen]
theorem WjF(aM:Wjw s=true):∃l:List Ac,(s.2.2++l).length<=99999/\(Wag s 6000 (WbU s)).1=(s.2.2++l).foldl (Wc2 s) (Wge s):=by
 obtain⟨h1,h2,h3,h4⟩:=Wed aM;have hW:=Wkl aM;obtain⟨l,a,e⟩:=Wix (s:=s) (by omega) (λj hj=>(Wgv hW.progs hj).k3) 6000 (WbU s);refine⟨l,by simp;omega,?_⟩;rw[e,Xen];rfl
theorem WvY(h8:x.phase≠8)(hz:(WY w x k p).2.phase=8):(WY w x k p).2.undos= []:=by
 unfold WY at hz⊢;by_cases hd:x.doomed=true/\1<=x.phase/\x.phase<=4
 .rw[if_pos hd]at hz;exact absurd (show(6:Int)=8 from hz) (by omega)
 rw[if_neg hd]at hz⊢;have cf:∀z:Rt,(WE z).phase≠8:=λz=>WdI.2.2;by_cases h0:x.phase=0
 .rw[if_pos h0]at hz;have:(Wdd w x k).2.phase≠8:=by
   unfold Wdd;split
   .exact h8
   .split
    .exact h8
    .split
     .exact h8
     .show(1:Int)≠8;omega
  exact absurd hz this
 rw[if_neg h0]at hz⊢;by_cases h1:x.phase=1
 .rw[if_pos h1]at hz⊢;have cl:∀out,(Waz w x k out).2.phase=8->(Waz w x k out).2.undos= []:=λout=>by
   unfold Waz;simp only;generalize (if out=2 then []else x.writes)=rows;split
   .exactλ_=>rfl
   .intro h;exact absurd (show(5:Int)=8 from h) (by omega)
  revert hz;unfold WgG;split
  .exact cl _
  .simp only;generalize opN p.1 x.pc=o;split
   .intro h;exact absurd h (WnE h1).2.2
   .split
    .unfold WbW;split
     .exact cl _
     .split
      .intro h;exact absurd h h8
      .intro h;exact absurd h h8
    .split
     .intro h;exact absurd (show(2:Int)=8 from h) (by omega)
     .split
      .unfold WbR;cases WaS w.holds ((k:Int)+1) (WaH o).1 (WaH o).2 with
       |none=>intro h;exact absurd h (cf _)
       |some hs=>intro h;exact absurd h h8
      .repeat' split
       all_goals(intro h;exact absurd h h8)
 rw[if_neg h1]at hz⊢;by_cases h2:x.phase=2
 .rw[if_pos h2]at hz;have:(WbT x).phase≠8:=by
   unfold WbT;split
   .show(6:Int)≠8;omega
   .split
    .show(1:Int)≠8;omega
    .exact h8
  exact absurd hz this
 rw[if_neg h2]at hz⊢;by_cases h3:x.phase=3
 .rw[if_pos h3]at hz;have:(WaT w x).2.phase≠8:=by
   unfold WaT;split
   .exact h8
   .show(4:Int)≠8;omega
  exact absurd hz this
 rw[if_neg h3]at hz⊢;by_cases h4:x.phase=4
 .rw[if_pos h4]at hz;have:(WaG w x).phase≠8:=by
   unfold WaG;simp only;split
   .split
    .show(6:Int)≠8;omega
    .exact h8
   .show(1:Int)≠8;omega
  exact absurd hz this
 rw[if_neg h4]at hz⊢;by_cases h5:x.phase=5
 .rw[if_pos h5]at hz;have:(Was w x k).2.phase≠8:=by
   unfold Was;split
   .simp only;split
    .show(6:Int)≠8;omega
    .exact h8
   .show(WbD {x with cm:=(WC w.mem x.cm).2}).phase≠8;unfold WbD;split
    .show(6:Int)≠8;omega
    .split
     .show(if x.fate=2 then(6:Int)else 7)≠8;split<;>omega
     .exact h8
  exact absurd hz this
 rw[if_neg h5]at hz⊢;by_cases h6:x.phase=6
 .rw[if_pos h6]at hz;split at hz
  .exact absurd hz h8
  .exact absurd (show(7:Int)=8 from hz) (by omega)
 rw[if_neg h6]at hz⊢;by_cases h7:x.phase=7
 .rw[if_pos h7]at hz⊢;split at hz
  .exact absurd (show(0:Int)=8 from hz) (by omega)
  .rw[if_neg ‹_›];rfl
 .rw[if_neg h7]at hz;exact absurd hz h8
def DX(w:Wo):Prop:=∀(k:Nat) (h:k<w.roots.length),w.roots[k].phase=8->w.roots[k].undos= []
theorem Wre{q:Wo×Rt}{w0:Wo}(hx:DX w0)(hr:q.1.roots=w0.roots)(hq:q.2.phase=8->q.2.undos= []):DX (Wo.put q k):=λi hi=>by
 change i<(q.1.roots.set k q.2).length at hi;have iq:i<w0.roots.length:=by rw[Xab,hr]at hi;exact hi
 show((q.1.roots.set k q.2)[i]'hi).phase=8->((q.1.roots.set k q.2)[i]'hi).undos= [];rw[Xaq];split
 .exact hq
 .simp only[hr];exact hx i iq
theorem Wvs(h:WOk s.2.1 n w)(hx:DX w):DX (Wc2 s w a):=by
 have ce:DX {w with now:=w.now+1}:=hx;unfold Wc2;simp only;split
 .rename_i hb;have hk:a.2.1.toNat<w.roots.length:=by omega
  rw[Wf hk];split
  .unfold Wi5;rw[Wf (show a.2.1.toNat<({w with now:=w.now+1}:Wo).roots.length from hk)];refine Wre (w0:={w with now:=w.now+1}) ce (Wi0 h hk) λhz=>?_;by_cases h8:w.roots[a.2.1.toNat].phase=8
   .have:=(Wgk (w:={w with now:=w.now+1}) (x:=w.roots[a.2.1.toNat]) (k:=a.2.1.toNat) (p:=s.2.1.getD a.2.1.toNat pg0)).done h8;change (WY {w with now:=w.now+1} w.roots[a.2.1.toNat] a.2.1.toNat (s.2.1.getD a.2.1.toNat pg0)).2.undos= [];rw[this];exact hx _ hk h8
   .exact WvY h8 hz
  .split
   .split
    .exact Wre (w0:={w with now:=w.now+1}) ce rfl (λhz=>hx _ hk hz)
    .exact ce
   .split
    .split
     .exact Wre (w0:={w with now:=w.now+1}) ce rfl (λhz=>hx _ hk hz)
     .exact ce
    .exact ce
 .exact ce
theorem Wsr:∀(l:List Ac) (n:Int) (w:Wo),WOk s.2.1 n w->DX w->DX (l.foldl (Wc2 s) w)
 | [],n,w,h,hx=>hx
 |a::l,n,w,h,hx=>Wsr l (n+1) _ (WbO (a:=a) h) (Wvs (a:=a) h hx)
structure Rest(w:Wo):Prop where
 done:∀x∈w.roots,x.phase=8
 mem:W0 w.mem=true
 own:∀c∈w.mem.2,c.2.2=0
 holds:w.holds= []
 token:w.token=0
 undos:∀x∈w.roots,x.undos= []
theorem Wvb(h:WI s n w)(hd:DX w)(ho:WfE w=true):Rest w:=by
 have h8:∀(k:Nat) (h:k<w.roots.length),w.roots[k].phase=8:=λk hk=>by
  unfold WfE at ho;rw[Xae]at ho;simpa using ho _ (Xw hk)
 have ml:∀x∈w.roots,x.phase=8:=λx hx=>by
  obtain⟨j,hj,e⟩:=Xas hx;rw[←e];exact h8 j hj
 obtain⟨m8,_,_,_⟩:=WB h.ok.mem;refine⟨ml,h.ok.mem,λc hc=>?_,?_,?_,λx hx=>?_⟩
 .obtain⟨j,hj,e⟩:=Xas hc;have pB:owner w.mem (j:Int)=w.mem.2[j].2.2:=by unfold owner WO Wce;rw[Xj,Wf hj]
  rw[←e,←pB];rcases h.lx.ow (j:Int) (by omega) (by omega)with e|⟨k,hk,e⟩
  .exact e
  .exact absurd e ((h.lx.root k hk).no (by rw[h8 k hk];omega) (j:Int) (by omega) (by omega))
 .cases hh:w.holds with
  |nil=>rfl
  |cons e l=>
   obtain⟨k,hk,e1⟩:=h.lx.hd e (by rw[hh];exact Xi ..);exact absurd (h8 k hk) ((h.lx.root k hk).hd e (by rw[hh];exact Xi ..) e1).2
 .rcases h.lx.tk with e|⟨k,hk,e⟩
  .exact e
  .exact absurd (h8 k hk) ((h.lx.root k hk).tk e).2
 .obtain⟨j,hj,e⟩:=Xas hx;rw[←e];exact hd j hj (h8 j hj)
theorem WqF(aM:Wjw s=true):Rest (Wag s 6000 (WbU s)).1/\WfE (Wag s 6000 (WbU s)).1=true/\(Wag s 6000 (WbU s)).2<=6000/\∃m,WI s m (Wag s 6000 (WbU s)).1:=by
 obtain⟨a,b,m,c⟩:=Wql aM;obtain⟨l,_,e⟩:=WjF aM;have hd:DX (Wag s 6000 (WbU s)).1:=by
  rw[e];exact Wsr _ 0 _ (Wg3 aM) λk h h8=>by simp[Wge]
 exact⟨Wvb c hd a,a,b,m,c⟩
theorem Wkr(hN:1048576<N){code:List Int}(h:code.length<=1048576):∃s:Sc,Zji N code=ret s/\SB s:=by
 unfold Zji;obtain⟨c,hc,e0⟩:=Wuk h hN;obtain⟨v,e1,hv⟩:=Wtu (N:=N) h;have e2:We .i64 40 v=40+v:=Wm (by unfold I64;omega);obtain⟨c1,s,e3,m9,hs⟩:=Wwt (most:=40+v) hN (by omega) hc;simp only[e0,e1,ret,Xc,e2,e3];exact⟨_,rfl,hs⟩
end
section
variable{s:Sc}{w v:Wo}{n m:Int}{x y:Rt}{k i:Nat}{p:Pg}{a:Ac}{N:Nat}
theorem Wof(h0:x.phase=0):(WY w x k p).2.tries=x.tries:=by
 unfold WY;rw[if_neg (by omega),if_pos h0];unfold Wdd;split
 .rfl
 .split
  .rfl
  .split<;>rfl
def trE(n:Int)(x:Rt):Prop:=2*x.tries+(if x.phase=0 then 0 else 1)<=n
def TrE(n:Int)(w:Wo):Prop:=∀(k:Nat) (h:k<w.roots.length),trE n w.roots[k]
theorem trE.up(h:trE n x)(hn:n<=m):trE m x:=Int.le_trans h hn
theorem WrD(h:trE n x):trE (n+1) (WY w x k p).2:=by
 unfold trE at*;by_cases h0:x.phase=0
 .rw[Wof h0];rw[if_pos h0]at h;split<;>omega
 .rw[if_neg h0]at h;by_cases hz:(WY w x k p).2.phase=0
  .rw[Wj2 h0 hz,if_pos hz];omega
  .rw[if_neg hz];by_cases h8:x.phase=8
   .rw[(Wgk (w:=w) (k:=k) (p:=p)).done h8];show 2*x.tries+1<=n+1;omega
   .rw[(Wgk (w:=w) (k:=k) (p:=p)).try1 h0 h8 hz];omega
theorem Wsl{q:Wo×Rt}{w0:Wo}(hx:TrE n w0)(hr:q.1.roots=w0.roots)(hq:trE (n+1) q.2):TrE (n+1) (Wo.put q k):=λi hi=>by
 change i<(q.1.roots.set k q.2).length at hi;have iq:i<w0.roots.length:=by rw[Xab,hr]at hi;exact hi
 show trE (n+1) ((q.1.roots.set k q.2)[i]'hi);rw[Xaq];split
 .exact hq
 .simp only[hr];exact(hx i iq).up (by omega)
theorem Wvo(h:WOk s.2.1 n w)(hx:TrE n w):TrE (n+1) (Wc2 s w a):=by
 have ce:TrE n {w with now:=w.now+1}:=hx;have nH:TrE (n+1) {w with now:=w.now+1}:=λk hk=>(hx k hk).up (by omega);unfold Wc2;simp only;split
 .rename_i hb;have hk:a.2.1.toNat<w.roots.length:=by omega
  rw[Wf hk];split
  .unfold Wi5;rw[Wf (show a.2.1.toNat<({w with now:=w.now+1}:Wo).roots.length from hk)];exact Wsl (w0:={w with now:=w.now+1}) ce (Wi0 h hk) (WrD (hx _ hk))
  .split
   .split
    .exact Wsl (w0:={w with now:=w.now+1}) ce rfl ((hx _ hk).up (by omega))
    .exact nH
   .split
    .split
     .exact Wsl (w0:={w with now:=w.now+1}) ce rfl ((hx _ hk).up (by omega))
     .exact nH
    .exact nH
 .exact nH
theorem Wr8:∀(l:List Ac) (n:Int) (w:Wo),WOk s.2.1 n w->TrE n w->TrE (n+l.length) (l.foldl (Wc2 s) w)
 | [],n,w,h,hx=>by simpa using hx
 |a::l,n,w,h,hx=>by
  have:=Wr8 l (n+1) _ (WbO (a:=a) h) (Wvo (a:=a) h hx);rw[show n+((a::l).length:Int)=n+1+(l.length:Int) by simp;omega];exact this
def JR(m:Mm)(x:Rt):Prop:=x.tries<=3\/((x.phase=0\/x.phase=8)/\x.tries<=201)\/((1<=x.phase/\x.phase<=7)/\x.tries<=200)\/(RGd m x/\x.tries<=201)
def JW(w:Wo):Prop:=∀(k:Nat) (h:k<w.roots.length),JR w.mem w.roots[k]
theorem Wxa(h:WI s n w)(hn:n<=99999)(hk:i<w.roots.length)(hj:JW w):JW (Ws7 s i w):=by
 obtain⟨y,hy,hB⟩:=WuE h hk hn;have aY:=(h.ok.root i hk).phase;generalize Ws7 s i w=u at*;intro k xR;have pE:k<w.roots.length:=by rw[hy,Xab]at xR;exact xR
 have dg:=hj k pE;have fm:u.roots[k]=if i=k then y else w.roots[k]:=by simp only[hy,Xaq]
 rw[fm];by_cases he:i=k
 .subst he;rw[if_pos rfl];have pF:w.roots[i].tries<=3\/4<=w.roots[i].tries:=by omega
  by_cases h0:w.roots[i].phase=0
  .rcases hB.idle h0 with⟨e,_⟩|⟨e1,_,e3,_,e5⟩
   .rw[e];rcases dg with j|j|j|j
    .exact .inl j
    .exact .inr (.inl j)
    .omega
    .have:=j.1.ph;omega
   .rcases e5 with⟨_,e5⟩|⟨_,_,e5,_⟩
    .exact .inl (by omega)
    .refine .inr (.inr (.inr ⟨e5,?_⟩));rcases dg with j|j|j|j
     .omega
     .omega
     .omega
     .have:=j.1.ph;omega
  by_cases h8:w.roots[i].phase=8
  .rw[hB.done h8];rcases dg with j|j|j|j
   .exact .inl j
   .exact .inr (.inl j)
   .omega
   .have:=j.1.ph;omega
  .have jp:=hB.keep h0 h8;have ar:=hB.live (by omega);rcases pF with t3|t4
   .rcases ar with e|⟨e1,e2⟩|⟨e1,e2,_⟩
    .have:=jp (by omega);exact .inr (.inl ⟨.inr e,by omega⟩)
    .exact .inr (.inl ⟨.inl e1,by omega⟩)
    .exact .inl (by omega)
   .rcases dg with j|j|j|j
    .omega
    .omega
    .rcases ar with e|⟨e1,e2⟩|⟨e1,e2,_⟩
     .have:=jp (by omega);exact .inr (.inl ⟨.inr e,by omega⟩)
     .exact .inr (.inl ⟨.inl e1,by omega⟩)
     .exact .inr (.inr (.inl ⟨e1,by omega⟩))
    .have gR:=h.tx.t1 i hk h0 h8 (by omega);have pD:=WmJ (k:=i) h.lx (λj hj hne=>h.tx.t2 i hk gR h0 j hj hne);rcases hB.good h0 h8 j.1 pD with e|⟨g,_⟩
     .have:=jp (by omega);exact .inr (.inl ⟨.inr e,by omega⟩)
     .have:=g.ph;have:=jp (by omega);exact .inr (.inr (.inr ⟨g,by omega⟩))
 .rw[if_neg he];rcases dg with j|j|j|j
  .exact .inl j
  .exact .inr (.inl j)
  .exact .inr (.inr (.inl j))
  .by_cases t3:w.roots[k].tries<=3
   .exact .inl t3
   .have hp:=j.1.ph;have gR:=h.tx.t1 k pE (by omega) (by omega) (by omega);have pD:=h.tx.t2 k pE gR (by omega) i hk he;rw[hB.mem (by omega)];exact .inr (.inr (.inr j))
theorem WsQ:∀(d i:Nat) (n:Int) (w:Wo),i+d=s.2.1.length->WI s n w->n+4*d<=99999->JW w->JW (Wav s d i w)
 |0,i,n,w,hi,h,hn,hj=>by rw[Wav];exact hj
 |d+1,i,n,w,hi,h,hn,hj=>by
  have xQ:=h.ok.len;have h3:=pk3 h.ok (i:=i) (by omega);rw[Wav];exact WsQ d (i+1) _ _ (by omega) (h.blk (k:=i)) (by omega) (Wxa h (by omega) (by omega) hj)
theorem Wq0:∀(d:Nat) (n:Int) (w:Wo),WI s n w->n+16*d<=99999->JW w->JW (Wag s d w).1
 |0,n,w,h,hn,hj=>by rw[Wag];exact hj
 |d+1,n,w,h,hn,hj=>by
  rw[Wag];split
  .exact hj
  .have iN:=h.ok.l4;obtain⟨hR,m,hm,hW⟩:=Wky h s.2.1.length 0 n w (by omega) h (by omega) Rd.refl;exact Wq0 d m _ hW (by omega) (WsQ _ 0 n w (by omega) h (by omega) hj)
theorem Woy(aM:Wjw s=true):∀x∈(Wag s 6000 (WbU s)).1.roots,x.tries<=201:=by
 obtain⟨h1,h2,h3,h4⟩:=Wed aM;have h:=Wlq aM;have bw:TrE (0+s.2.2.length) (WbU s):=Wr8 s.2.2 0 _ (Wg3 aM) λk hk=>by
  unfold trE;simp only[Wge,List.getElem_replicate];show(2*0+0:Int)<=0;omega
 have hj:JW (WbU s):=λk hk=>by
  have:=bw k hk;have hp:=(h.ok.root k hk).phase;unfold trE at this;by_cases h0:(WbU s).roots[k].phase=0
  .rw[if_pos h0]at this;exact .inr (.inl ⟨.inl h0,by omega⟩)
  .rw[if_neg h0]at this;by_cases h8:(WbU s).roots[k].phase=8
   .exact .inr (.inl ⟨.inr h8,by omega⟩)
   .exact .inr (.inr (.inl ⟨by omega,by omega⟩))
 have hd:=Wq0 6000 _ _ h (by omega) hj;intro x hx;obtain⟨j,hj,e⟩:=Xas hx;rw[←e];rcases hd j hj with j|j|j|j<;>omega
def WbP(x:Rt):Bool:=decide (x.phase=0)
def Wkh(x:Rt):Bool:=decide (x.phase≠0)&&decide (x.phase≠8)
def WhJ(x:Rt):Bool:=decide (x.phase=8)&&decide (x.fate=1)
def WlG(x:Rt):Bool:=decide (x.phase=8)&&decide (x.fate≠1)
def trV(t:Int):Int:=if 1<=t/\t<=400 then t else 0
def trS:List Rt->Int
 | []=>0
 |x::l=>trV x.tries+trS l
def cnt(f:Rt->Bool)(l:List Rt):Int:=(l.countP f:Nat)
def Wwb(w:Wo):Int×Int×Int×Int×Int×Int×Int:=
 (cnt WbP w.roots,cnt Wkh w.roots,cnt WhJ w.roots,cnt WlG w.roots,trS w.roots,((w.mem.2.countP λc=>c.2.2 !=0:Nat):Int),(w.holds.length:Int))
theorem WuD(t:Int):0<=trV t/\trV t<=400:=by unfold trV;split<;>omega
theorem WuO:∀l:List Rt,0<=trS l/\trS l<=400*l.length
 | []=>by simp[trS]
 |x::l=>by have:=WuO l;have:=WuD x.tries;rw[trS,Xr];push_cast;omega
def tlE(e:Int)(r:Y_Root):Int:=bif decide (1<=r.2.1)&&decide (r.2.1<=400)then We .i64 e r.2.1 else e
def tlI(v:Int×Int×Int×Int)(r:Y_Root):Int×Int×Int×Int:=
 bif r.1==0 then(We .i64 v.1 1,v.2.1,v.2.2.1,tlE v.2.2.2 r)
 else bif r.1 !=8 then(v.1,v.2.1,v.2.2.1,tlE v.2.2.2 r)
 else bif r.2.2.2.2.2.2.2.1==1 then(v.1,We .i64 v.2.1 1,v.2.2.1,tlE v.2.2.2 r)
 else(v.1,v.2.1,We .i64 v.2.2.1 1,tlE v.2.2.2 r)
theorem Wwf{e:Int}(he:0<=e/\e<=1000000):tlE e x.e=e+trV x.tries:=by
 have e1:x.e.2.1=x.tries:=rfl;unfold tlE trV;rw[e1];by_cases h:1<=x.tries/\x.tries<=400
 .rw[if_pos h,decide_eq_true h.1,decide_eq_true h.2];exact Wm (by unfold I64;omega)
 .rw[if_neg h];have:(decide (1<=x.tries)&&decide (x.tries<=400))=false:=by
   rw[Bool.eq_false_iff];simp only[ne_eq,Xh,decide_eq_true_eq];exact h
  rw[this];show e=e+0;omega
theorem WrF:∀(l:List Rt) (a c d e:Int),0<=a->0<=c->0<=d->0<=e->a+c+d+l.length<=1000->e+400*l.length<=100000->
  (l.map Rt.e).foldl tlI (a,c,d,e)=(a+cnt WbP l,c+cnt WhJ l,d+cnt WlG l,e+trS l)
 | [],a,c,d,e,_,_,_,_,_,_=>by simp[cnt,trS]
 |x::l,a,c,d,e,ha,hc,hd,he,h1,h2=>by
  simp only[Xr]at h1 h2
  push_cast at h1 h2
  have e1:x.e.1=x.phase:=rfl;have e2:x.e.2.2.2.2.2.2.2.1=x.fate:=rfl;have hE:=Wwf (x:=x) (e:=e) (by omega);have htv:=WuD x.tries;have i1:We .i64 a 1=a+1:=Wm (by unfold I64;omega);have i2:We .i64 c 1=c+1:=Wm (by unfold I64;omega);have i3:We .i64 d 1=d+1:=Wm (by unfold I64;omega);rw[List.map_cons,Xcm];unfold cnt;rw[trS,Xbi,Xbi,Xbi];have ih:=λa c d e h1 h2 h3 h4 h5 h6=>WrF l a c d e h1 h2 h3 h4 h5 h6;unfold cnt at ih;unfold tlI WbP WhJ WlG;rw[e1,e2,hE,i1,i2,i3];unfold tlI WbP WhJ WlG at ih;by_cases h0:x.phase=0
  .have n8:¬x.phase=8:=by omega
   rw[show(x.phase==0)=true by simpa using h0];simp only[cond_true];rw[ih _ _ _ _ (by omega) hc hd (by omega) (by omega) (by omega)];simp only[h0,decide_true,if_true,show¬((0:Int)=8) by omega,decide_false,Xbw,Xam,if_false];refine Prod.ext ?_ (Prod.ext ?_ (Prod.ext ?_ ?_))<;>simp only<;>push_cast<;>omega
  .rw[show(x.phase==0)=false by simpa using h0];by_cases h8:x.phase=8
   .rw[show(x.phase !=8)=false by simpa using h8];by_cases hf:x.fate=1
    .rw[show(x.fate==1)=true by simpa using hf];simp only[cond_true,cond_false];rw[ih _ _ _ _ ha (by omega) hd (by omega) (by omega) (by omega)];simp only[h8,hf,decide_true,if_true,show¬((8:Int)=0) by omega,decide_false,Xbf,Xam,if_false,ne_eq,not_true_eq_false];refine Prod.ext ?_ (Prod.ext ?_ (Prod.ext ?_ ?_))<;>simp only<;>push_cast<;>omega
    .rw[show(x.fate==1)=false by simpa using hf];simp only[cond_false];rw[ih _ _ _ _ ha hc (by omega) (by omega) (by omega) (by omega)];simp only[h8,hf,decide_true,if_true,show¬((8:Int)=0) by omega,decide_false,Xbf,Xam,if_false,ne_eq,not_false_eq_true];refine Prod.ext ?_ (Prod.ext ?_ (Prod.ext ?_ ?_))<;>simp only<;>push_cast<;>omega
   .rw[show(x.phase !=8)=true by simpa using h8];simp only[cond_true,cond_false];rw[ih _ _ _ _ ha hc hd (by omega) (by omega) (by omega)];simp only[h0,h8,decide_false,Xbw,Xam,if_false];refine Prod.ext ?_ (Prod.ext ?_ (Prod.ext ?_ ?_))<;>simp only<;>push_cast<;>omega
end
section
variable{s:Sc}{w v:Wo}{n m:Int}{x y:Rt}{k i:Nat}{N:Nat}
theorem Wrl{α:Type}(a:Option α):Wfc a a=a:=by unfold Wfc;simp
theorem We8{rs:List Rt}(hr:rs.length<=1048576):∀(n j:Nat) (l:List Int),j<=rs.length->rs.length-j<n->l.length<=j->
  ∃l':List Int,l'.length=l.length+(rs.drop j).countP Wkh/\∀{R:Type} (K:Int->Bool->List Int->Option R),Zbq N (rs.map Rt.e) (Wb (rs.map Rt.e)) K n (j:Int) l=K rs.length false l'
 |0,j,l,_,h,_=>by omega
 |n+1,j,l,h1,h2,h3=>by
  by_cases hj:j<rs.length
  .have hj':j<(rs.map Rt.e).length:=by rw[Xaf];exact hj
   have p1:∀x:Rt,x.e.1=x.phase:=λ_=>rfl;rw[List.drop_eq_getElem_cons hj,Xbi];have ao:Ww (l.length+ [(j:Int)].length)=true:=by unfold Ww;simp;omega
   have hl:Wkh rs[j]=(decide (rs[j].phase≠0)&&decide (rs[j].phase≠8)):=rfl;rw[hl];by_cases ha:rs[j].phase=0
   .obtain⟨l',e1,e2⟩:=We8 hr n (j+1) l hj (by omega) (by omega);refine⟨l',by simpa [ha]using e1,λK=>?_⟩;have e3:(rs[j].phase !=0)=false:=by simp[ha]
    simp only[Zbq,Waa hj',Wn hj',Ws hj',Xdp,p1,cond_true,e3,cond_false,Wg (show j<4611686018427387904 by omega)];exact e2 K
   .have e3:(rs[j].phase !=0)=true:=by simp[ha]
    by_cases hb:rs[j].phase=8
    .obtain⟨l',e1,e2⟩:=We8 hr n (j+1) l hj (by omega) (by omega);refine⟨l',by simpa [hb]using e1,λK=>?_⟩;have e4:(rs[j].phase !=8)=false:=by simp[hb]
     simp only[Zbq,Waa hj',Wn hj',Ws hj',Xdp,p1,cond_true,e3,e4,cond_false,Wg (show j<4611686018427387904 by omega)];exact e2 K
    .have e4:(rs[j].phase !=8)=true:=by simp[hb]
     obtain⟨l',e1,e2⟩:=We8 hr n (j+1) (l++ [(j:Int)]) hj (by omega) (by simp;omega);refine⟨l',?_,λK=>?_⟩
     .rw[e1];simp[ha,hb];omega
     .simp only[Zbq,Waa hj',Wn hj',Ws hj',Xdp,p1,cond_true,e3,e4,ao,Wg (show j<4611686018427387904 by omega)];exact e2 K
  .have e:j=rs.length:=by omega
   subst e;refine⟨l,by simp,λK=>?_⟩;have hg:decide ((rs.length:Int)<Wb (rs.map Rt.e))=false:=decide_eq_false (by unfold Wb;rw[Xaf];omega);simp only[Zbq,hg,cond_false]
theorem Wox(hr:w.roots.length<=4)(hN:1048576<N):∃l:List Int,(l.length:Int)=cnt Wkh w.roots/\Zin N w.e=ret l:=by
 obtain⟨l,h1,h2⟩:=We8 (N:=N) (rs:=w.roots) (by omega) N 0 [] (Xbq _) (by omega) (Xm _);refine⟨l,?_,?_⟩
 .unfold cnt;rw[h1];simp
 .have e1:w.e.2.2.2.2.2.1=w.roots.map Rt.e:=rfl;unfold Zin;rw[e1];exact h2 _
theorem WiP:∀(l:List Wd) (v:Int),0<=v->v+l.length<=1000->l.foldl (λv x=>bif x.2.2 !=0 then We .i64 v 1 else v) v=v+((l.countP λc=>c.2.2 !=0:Nat):Int)
 | [],v,_,_=>by simp
 |x::l,v,h0,h1=>by
  simp only[Xr]at h1
  push_cast at h1
  have i1:We .i64 v 1=v+1:=Wm (by unfold I64;omega);rw[Xcm,Xbi];cases hx:x.2.2 !=0 with
  |true=>
   simp only[cond_true,i1];rw[WiP l (v+1) (by omega) (by omega)];simp;omega
  |false=>
   simp only[cond_false];rw[WiP l v h0 (by omega)];simp
theorem Wm1(h4:w.roots.length<=4)(h8:w.mem.2.length=8)(hN:1048576<N):Zfw N w.e=ret (Wwb w):=by
 obtain⟨L,h1,h2⟩:=Wox h4 hN;have e5:P5 w.e=w.roots.map Rt.e:=rfl;have eh:Wb (P4 w.e)=(w.holds.length:Int):=rfl;have em:w.e.2.2.1.2=w.mem.2:=rfl;have tu:∀{R:Type} {b1 b2 b3 b4 b5 b6:Int} (K0:Int->Bool->Int->Option R),Zbc N w.mem.2 (Wb w.mem.2) b1 b2 b3 b4 b5 b6 K0 N 0 0=K0 w.mem.2.length false ((w.mem.2.countP λc=>c.2.2 !=0:Nat):Int):=λ{R b1 b2 b3 b4 b5 b6} K0=>by
  have hl:=WD (l:=w.mem.2) (V:=Int) (R:=R) (lp:=λn j v=>Zbc N w.mem.2 (Wb w.mem.2) b1 b2 b3 b4 b5 b6 K0 n j v) (n:=N) (by omega)
   (body:=λj x v k=>k (bif x.2.2 !=0 then We .i64 v 1 else v)) (K:=λj v=>K0 j false v)
   (λn i v hi=>by
    simp only[Zbc,Waa hi,Wn hi,Ws hi,Wg (show i<4611686018427387904 by omega),cond_true];cases w.mem.2[i].2.2 !=0<;>rfl)
   (λn v=>by simp only[Zbc,Wau (Xm w.mem.2.length),cond_false]) 0
  refine hl.trans ?_;rw[WeQ (f:=λv x=>bif x.2.2 !=0 then We .i64 v 1 else v) _ 0 _ (λj x v k _=>rfl),Xbb,WiP _ _ (by omega) (by omega),Xgs]
 have vy:∀{R:Type} {b:Int} (K0:Int->Bool->Int->Int->Int->Int->Option R),Z6 N (w.roots.map Rt.e) w.e b K0 N 0 0 0 0 0=K0 w.roots.length false (cnt WbP w.roots) (cnt WhJ w.roots) (cnt WlG w.roots) (trS w.roots):=λ{R b} K0=>by
  have hl:=WD (l:=w.roots.map Rt.e) (V:=Int×Int×Int×Int) (R:=R) (lp:=λn j v=>Z6 N (w.roots.map Rt.e) w.e b K0 n j v.1 v.2.1 v.2.2.1 v.2.2.2) (n:=N) (by rw[Xaf];omega)
   (body:=λj x v k=>k (tlI v x)) (K:=λj v=>K0 j false v.1 v.2.1 v.2.2.1 v.2.2.2)
   (λn i v hi=>by
    have e7:∀r:Y_Root,P7 r=r.2.2.2.2.2.2.2.1:=λ_=>rfl;have hi4:i<4:=by rw[Xaf]at hi;omega
    simp only[Z6,Wq,e5,e7,Waa hi,Wn hi,Ws hi,Wg (show i<4611686018427387904 by omega),cond_true,Wk,ret,Xc];generalize (w.roots.map Rt.e)[i]=r;unfold tlI tlE bne;cases r.1==0<;>cases r.1==8<;>cases r.2.2.2.2.2.2.2.1==1<;>cases decide (1<=r.2.1)&&decide (r.2.1<=400)<;>rfl)
   (λn v=>by simp only[Z6,e5,Wau (Xm (w.roots.map Rt.e).length),cond_false]) (0,0,0,0)
  refine hl.trans ?_;rw[WeQ (f:=tlI) _ 0 _ (λj x v k _=>rfl),Xbb,WrF _ _ _ _ _ (by omega) (by omega) (by omega) (by omega) (by omega) (by omega)];simp only[Xgs,Xaf]
 have eL:Wb L=cnt Wkh w.roots:=h1;unfold Zfw;rw[Wrl,h2];simp only[ret,Xc,e5,em,eh,eL];rw[vy,tu];rfl
theorem WnP:∀l:List Rt,cnt WbP l+cnt Wkh l+cnt WhJ l+cnt WlG l=l.length
 | []=>rfl
 |x::l=>by
  have ih:=WnP l;unfold cnt at*;rw[Xbi,Xbi,Xbi,Xbi,Xr];generalize Xgc WbP l=p1 at*;generalize Xgc Wkh l=p2 at*;generalize Xgc WhJ l=p3 at*;generalize Xgc WlG l=p4 at*;unfold WbP Wkh WhJ WlG;by_cases h0:x.phase=0
  .simp only[h0,decide_true,if_true,show¬((0:Int)=8) by omega,decide_false,Xbw,Xam,if_false,ne_eq,not_true_eq_false]
   push_cast;omega
  .by_cases h8:x.phase=8
   .by_cases hf:x.fate=1
    .simp only[h8,hf,decide_true,if_true,show¬((8:Int)=0) by omega,decide_false,Xbf,Bool.and_false,Xam,if_false,ne_eq,not_true_eq_false,not_false_eq_true]
     push_cast;omega
    .simp only[h8,hf,decide_true,if_true,show¬((8:Int)=0) by omega,decide_false,Xbf,Bool.and_false,Xam,if_false,ne_eq,not_true_eq_false,not_false_eq_true]
     push_cast;omega
   .simp only[h0,h8,decide_true,if_true,decide_false,Xbf,Xbw,Xam,if_false,ne_eq,not_false_eq_true]
    push_cast;omega
theorem WkE{f:Rt->Bool}:∀l:List Rt,(∀x∈l,f x=false)->cnt f l=0
 | [],_=>rfl
 |x::l,h=>by
  have:=WkE l λy hy=>h y (List.mem_cons_of_mem _ hy);unfold cnt at*;rw[Xbi,h x (Xi ..)];simpa using this
theorem WuV{f:Rt->Bool}:∀(l l':List Rt),l.length=l'.length->(∀(j:Nat) (h:j<l.length) (h':j<l'.length),f l[j]=true->f l'[j]=true)->cnt f l<=cnt f l'
 | [],[],_,_=>Xv _
 | [],_::_,h,_=>by simp at h
 |_::_,[],h,_=>by simp at h
 |x::l,y::l',h,hp=>by
  have ih:=WuV l l' (by simpa using h) λj h1 h2 hu=>hp (j+1) (by simpa using h1) (by simpa using h2) hu;have h0:f x=true->f y=true:=hp 0 (by simp) (by simp);unfold cnt at*;rw[Xbi,Xbi];by_cases hx:f x=true
  .rw[if_pos hx,if_pos (h0 hx)];omega
  .rw[if_neg hx];split<;>omega
theorem Wuu:∀(l l':List Rt),l.length=l'.length->(∀(j:Nat) (h:j<l.length) (h':j<l'.length),l[j].tries<=l'[j].tries/\l'[j].tries<=400)->trS l<=trS l'
 | [],[],_,_=>Xv _
 | [],_::_,h,_=>by simp at h
 |_::_,[],h,_=>by simp at h
 |x::l,y::l',h,hp=>by
  have ih:=Wuu l l' (by simpa using h) λj h1 h2=>hp (j+1) (by simpa using h1) (by simpa using h2);have h0:x.tries<=y.tries/\y.tries<=400:=hp 0 (by simp) (by simp);rw[trS,trS];have:trV x.tries<=trV y.tries:=by unfold trV;split<;>split<;>omega
  omega
theorem WtV{a b c d e f g:Int}(ha:I64 a)(hb:I64 b)(hc:I64 c)(hd:I64 d)(he:I64 e)(hf:I64 f)(hg:I64 g)(hN:1048576<N):∃s,Zjk N (a,b,c,d,e,f,g)=ret s/\Zjj N (a,b,c,d,e,f,g)=ret s:=by
 have la:=WdC a;have lb:=WdC b;have lc:=WdC c;have ld:=WdC d;have le:=WdC e;have lf:=WdC f;have lg:=WdC g;unfold Zjk Zjj;simp only[WbB ha (show 100<N by omega),WbB hb (show 100<N by omega),WbB hc (show 100<N by omega),WbB hd (show 100<N by omega),WbB he (show 100<N by omega),WbB hf (show 100<N by omega),WbB hg (show 100<N by omega),
  WbA ha (show 150<N by omega),WbA hb (show 150<N by omega),WbA hc (show 150<N by omega),WbA hd (show 150<N by omega),WbA he (show 150<N by omega),WbA hf (show 150<N by omega),WbA hg (show 150<N by omega),ret,Xc]
 generalize WpV a=ta at*;generalize WpV b=tb at*;generalize WpV c=tc at*;generalize WpV d=td at*;generalize WpV e=te at*;generalize WpV f=tf at*;generalize WpV g=tg at*
 repeat rw[Wnv (by simp;omega)]
 exact⟨_,rfl,rfl⟩
theorem WnX{code:List Int}(hN:1048576<N):Zi5 N code=ret true:=by
 unfold Zi5 Zr4;simp only[Xc];by_cases hb:code.length<=1048576
 .have e0:decide (Wb code>1048576)=false:=by simp[Wb];omega
  obtain⟨s,es,hs⟩:=Wkr hN hb;rw[e0,es];simp only[cond_false,ret,Xc];rw[Wje hs hN];cases aM:Wjw s with
  |false=>rfl
  |true=>
   obtain⟨hR,hO,hn,m,hW⟩:=WqF aM;obtain⟨l,kL,hl⟩:=WjF aM;have hP:=Wlq aM;have aJ:WStay (WbU s) (Wag s 6000 (WbU s)).1:=by
    rw[hl,Xen];exact(WiD l _ _ hP.ok hP.wx).2
   have zK:=Woy aM;have iN:(Wag s 6000 (WbU s)).1.roots.length<=4:=by rw[hW.ok.len];exact hW.ok.l4
   have vU:(WbU s).roots.length<=4:=by rw[hP.ok.len];exact hP.ok.l4
   have hlen:=hW.ok.len;have sQ:=hP.ok.len;obtain⟨m8,_,_,_⟩:=WB hW.ok.mem;obtain⟨p8,_,_,_⟩:=WB hP.ok.mem;rw[WrQ hs hN aM,Wud hs hN,if_pos aM];generalize Wag s 6000 (WbU s)=q at*;generalize WbU s=w at*;simp only[ret,Xc,Bool.not_true,cond_false,Wm1 vU p8 hN,Wm1 iN m8 hN];have c1:=WnP w.roots;have c2:=WnP q.1.roots;have hh:=WhY hP.ok.holds;have vG:((w.mem.2.countP λc=>c.2.2 !=0:Nat):Int)<=8:=by have:w.mem.2.countP (λc=>c.2.2 !=0)<=w.mem.2.length:=Xdh;omega
   have z1:cnt WbP q.1.roots=0:=WkE _ λx hx=>by unfold WbP;rw[hR.done x hx];rfl
   have z2:cnt Wkh q.1.roots=0:=WkE _ λx hx=>by unfold Wkh;rw[hR.done x hx];rfl
   have z3:((q.1.mem.2.countP λc=>c.2.2 !=0:Nat):Int)=0:=by
    have:q.1.mem.2.countP (λc=>c.2.2 !=0)=0:=List.countP_eq_zero.2 λc hc=>by rw[hR.own c hc];simp
    omega
   have z4:(q.1.holds.length:Int)=0:=by rw[hR.holds];rfl
   have p0:∀f:Rt->Bool,0<=cnt f w.roots:=λf=>Xeh _;have xS:∀f:Rt->Bool,0<=cnt f q.1.roots:=λf=>Xeh _;have g1:=p0 WbP;have g2:=p0 Wkh;have g3:=p0 WhJ;have g4:=p0 WlG;have g5:=xS WhJ;have g6:=xS WlG;have t1:=WuO w.roots;have u1:trS w.roots<=trS q.1.roots:=Wuu _ _ (by omega) λj h h'=>⟨(aJ.root j h h').tries,by have:=zK _ (Xw h');omega⟩;have u2:cnt WhJ w.roots<=cnt WhJ q.1.roots:=WuV _ _ (by omega) λj h h' hd=>by
    unfold WhJ at hd⊢;simp only[Xh,decide_eq_true_eq]at hd⊢;have hs:=((aJ.root j h h').st (by unfold stl;rw[hd.1];rfl)).2.2.1;exact⟨hR.done _ (Xw h'),by rw[hs];exact hd.2⟩
   unfold Wwb;simp only;have a1:We .i64 (cnt WbP w.roots) (cnt Wkh w.roots)=cnt WbP w.roots+cnt Wkh w.roots:=Wm (by unfold I64;omega);have a2:We .i64 (cnt WbP w.roots+cnt Wkh w.roots) (cnt WhJ w.roots)=cnt WbP w.roots+cnt Wkh w.roots+cnt WhJ w.roots:=Wm (by unfold I64;omega);have a3:We .i64 (cnt WbP w.roots+cnt Wkh w.roots+cnt WhJ w.roots) (cnt WlG w.roots)=cnt WbP w.roots+cnt Wkh w.roots+cnt WhJ w.roots+cnt WlG w.roots:=Wm (by unfold I64;omega);have a4:We .i64 (cnt WhJ q.1.roots) (cnt WlG q.1.roots)=cnt WhJ q.1.roots+cnt WlG q.1.roots:=Wm (by unfold I64;omega);have b1:(cnt WbP w.roots+cnt Wkh w.roots+cnt WhJ w.roots+cnt WlG w.roots==Wb s.2.1)=true:=by rw[c1,sQ];unfold Wb;simp
   have b2:(cnt WhJ q.1.roots+cnt WlG q.1.roots==Wb s.2.1)=true:=by
    rw[show cnt WhJ q.1.roots+cnt WlG q.1.roots=q.1.roots.length by omega,hlen];unfold Wb;simp
   have b3:decide (trS q.1.roots>=trS w.roots)=true:=decide_eq_true u1;have b4:decide (cnt WhJ q.1.roots>=cnt WhJ w.roots)=true:=decide_eq_true u2;obtain⟨t,s1,s2⟩:=WtV (N:=N) (a:=cnt WbP w.roots) (b:=cnt Wkh w.roots) (c:=cnt WhJ w.roots) (d:=cnt WlG w.roots) (e:=trS w.roots) (f:=((w.mem.2.countP λc=>c.2.2 !=0:Nat):Int)) (g:=(w.holds.length:Int))
    (by unfold I64;omega) (by unfold I64;omega) (by unfold I64;omega) (by unfold I64;omega) (by unfold I64;omega) (by unfold I64;omega) (by unfold I64;omega) hN
   rw[a1,a2,a3,a4,b1,b2,z3,z4,b3,b4,s1,s2];simp[seq,ret]
 .have e0:decide (Wb code>1048576)=true:=by simp[Wb];omega
  rw[e0];rfl
theorem law_FnTally(d:Wfp [.v (.slice (.int .u8)) false])(hw:Wpe [.v (.slice (.int .u8)) false] d):∃N o,Zi5 N d.1=some (o,(true,())):=
 ⟨1048577,(),WnX (N:=1048577) (by omega)⟩
end
end Go.Sx
