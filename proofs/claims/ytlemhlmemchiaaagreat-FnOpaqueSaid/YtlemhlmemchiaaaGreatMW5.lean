/- Plain laws of the Lean functions. -/
import Derived.Test.YtlemhlmemchiaaaGreatMW4
open List renaming mem_append→Xl,mem_singleton→Xx,getD_eq_getElem?_getD→Xac,getElem?_eq_getElem→Xp,getElem_mem→Xo,mem_iff_getElem→Xco,length_take→Xal,getElem_take→Xgq,mem_cons_self→Xh,mem_map→Xv,length_set→Xaf,getElem_set→Xao,foldl_cons→Xau,mem_cons_of_mem→Xe,pairwise_cons→Xz,mem_cons→Xq,pairwise_iff_getElem→Xaq,take_of_length_le→Xbx,length_map→Xy,append→Xf,take_succ_eq_append_getElem→Xbk,getElem_map→Xcn,foldl_append→Xen,getElem_replicate→Xbh
open Int renaming le_refl→Xu,toNat_natCast→Xj
open Option renaming bind_some→Xd
open Bool renaming not_true→Xs
open Nat renaming le_refl→Xn,zero_add→Xba,zero_le→Xbr
namespace Go.Sx
set_option linter.unusedVariables false
set_option linter.unusedSimpArgs false
section
section
variable{b:Int->Int}{s:Sc}{w v:Wo}{n:Int}{x y:Rt}{k:Nat}{p:Pg}{o:Opn}{m m':Mm}{H H':List Wr}{C C':Nat->Option Cm}{c:Cm}{i rv:Int}{f:Fm}{codes:List (List Opn)}{code:List Opn}
theorem WuA(h:RO b w.mem w.hist C p x)(h':RO b w.mem w.hist C' p x)(hM:MI b w.mem w.hist C)(hl:CL2 w.mem C)(cA:w.mem.1<=1000000)(h0:0<=w.mem.1)(h1:x.phase=1)(bf:x.pc<p.1.length)(h5:(opN p.1 x.pc).1=5)(ho:0<=(opN p.1 x.pc).2.2.1/\(opN p.1 x.pc).2.2.1<=7)
  (hK:∀v i z,RC b w.mem w.hist C v i z->RC b w.mem w.hist C' v i z):RO b w.mem w.hist C' p (Weu w x (opN p.1 x.pc)):=by
 have n1:¬(x.phase=0\/5<=x.phase):=by omega
 unfold Weu;cases kK:WaH x.writes (opN p.1 x.pc).2.2.1 with
 |some val=>
  have hb:x.busy=false:=by
   by_cases hb:x.busy=true
   .have:=(h.pb hb).2.2.2.2.2;rw[kK]at this;cases this
   .simpa using hb
  exact h'.mk1 rfl rfl hb (by show x.phase≠2;omega) (by show x.phase≠4;omega) (h.fam0 (by omega)) (λz=>absurd z n1)
 |none=>
  simp only;have hz:=WwB (rv:=x.rv) hM hl cA h.rv (opN p.1 x.pc).2.2.1 (if x.busy=true then x.pb else((opN p.1 x.pc).2.2.1,0,0,0)) ho.1 ho.2 (by
   by_cases hb:x.busy=true
   .rw[if_pos hb];obtain⟨_,_,_,a,c,_⟩:=h.pb hb;exact .inr ⟨a,c⟩
   .rw[if_neg hb];exact .inl rfl)
  generalize WO w.mem x.rv _=q at*;by_cases h4:q.2.1=4
  .rw[if_pos h4];exact WhC h' h1 h0 ⟨rfl,rfl,rfl⟩
  .rw[if_neg h4];by_cases h3:q.2.1=3
   .rw[if_pos h3];have hr:RC b w.mem w.hist C x.rv (opN p.1 x.pc).2.2.1 q.2.2.2:=by
     rcases hz with z|⟨_,z⟩|⟨z,_⟩
     .exact absurd z h4
     .exact z
     .exact absurd h3 z
    refine⟨h'.rv,λz=>absurd z n1,λr bh=>?_,λz=>(by cases z),λz=>?_,λz=>?_,λ_=>h.fam0 (by omega)⟩
    .rcases Xl.1 bh with bh|bh
     .exact h'.rd r bh
     .rw[Xx.1 bh];exact hK _ _ _ hr
    ·(change x.phase=4 at z;omega)
    ·(change x.phase=2 at z;omega)
   .rw[if_neg h3];refine⟨h'.rv,λz=>absurd z n1,h'.rd,λ_=>?_,λz=>?_,λz=>?_,λ_=>h.fam0 (by omega)⟩
    .rcases hz with z|⟨z,_⟩|⟨_,z,e⟩
     .exact absurd z h4
     .exact absurd z h3
     .exact⟨h1,bf,h5,z,e,kK⟩
    ·(change x.phase=4 at z;omega)
    ·(change x.phase=2 at z;omega)
theorem Wrm(h:RO b m H C p x)(h2:x.phase≠2)(h4:x.phase≠4)(hb:x.busy=false)(hr:x.phase=0\/5<=x.phase->WcP x.reads/\x.reads.length<=300):RO b m H C p (Wd3 w x).2:=
 h.mk1 rfl rfl hb h2 h4 (h.fam0 h2) hr
theorem Wvo(hp:POk p)(h:RO b w.mem w.hist C p x)(h':RO b w.mem w.hist C' p x)(hM:MI b w.mem w.hist C)(hl:CL2 w.mem C)(cA:w.mem.1<=1000000)(h0:0<=w.mem.1)(h1:x.phase=1)(hx:ROk p n x)
  (hK:∀v i z,RC b w.mem w.hist C v i z->RC b w.mem w.hist C' v i z):RO b w.mem w.hist C' p (Wk5 w x k p).2:=by
 have aB:=hx.live (by omega);have n1:¬(x.phase=0\/5<=x.phase):=by omega
 have r9:=Wlr aB hp.code;have uJ:=h.fam0 (by omega);unfold Wk5;by_cases bf:x.pc>=p.1.length
 .rw[if_pos bf];have hb:x.busy=false:=by
   by_cases hb:x.busy=true
   .have:=(h.pb hb).2.1;omega
   .simpa using hb
  exact WnZ h' h1 hb r9
 .rw[if_neg bf];simp only;obtain⟨i,hi,e1,e2⟩:=We5 (l:=p.1) aB.pc.1 (by omega);by_cases h5:(opN p.1 x.pc).1=5
  .rw[if_pos h5];have aq:0<=(opN p.1 x.pc).2.2.1/\(opN p.1 x.pc).2.2.1<=7:=by
    have:=(WtZ (hp.code.ok i hi).1 (by rw[←e2];exact h5)).2;rw[←e2]at this;unfold W2 at this;simp at this;exact this
   exact WuA h h' hM hl cA h0 h1 (by omega) h5 aq hK
  rw[if_neg h5];have hb:x.busy=false:=by
   by_cases hb:x.busy=true
   .exact absurd (h.pb hb).2.2.1 h5
   .simpa using hb
  have st:∀y:Rt,y.rv=x.rv->y.reads=x.reads->y.busy=x.busy->y.phase=x.phase->y.fam=x.fam->RO b w.mem w.hist C' p y:=λy y1 y2 y3 y4 y5=>
   h'.mk1 y1 y2 (y3.trans hb) (by omega) (by omega) (y5.trans uJ) (λz=>by omega)
  by_cases ca:(opN p.1 x.pc).1=10
  .rw[if_pos ca];unfold Wdg;split
   .exact WnZ h' h1 hb r9
   .split
    .exact st _ rfl rfl rfl rfl rfl
    .exact st _ rfl rfl rfl rfl rfl
  rw[if_neg ca];by_cases dr:(opN p.1 x.pc).1=11
  .rw[if_pos dr];refine⟨h'.rv,λz=>(by(change (2:Int)=0\/5<=(2:Int)at z);omega),h'.rd,λz=>(by(change x.busy=true at z);rw[hb]at z;cases z),λz=>(by(change (2:Int)=4 at z);omega),λ_=>⟨rfl,⟨x.writes,rfl⟩,⟨Wr3,λr hr=>by cases hr⟩⟩,λz=>absurd rfl z⟩
  rw[if_neg dr];by_cases dM:(opN p.1 x.pc).1>=12
  .rw[if_pos dM];unfold Wc4;split
   .exact WhC h' h1 h0 ⟨rfl,rfl,rfl⟩
   .exact st _ rfl rfl rfl rfl rfl
  rw[if_neg dM]
  repeat' split
  all_goals exact st _ rfl rfl rfl rfl rfl
theorem WuM(h:RO b m H C p x)(h2:x.phase=2)(h0:0<=m.1):RO b m H C p (Wd5 x):=by
 unfold Wd5;split
 .exact WgC h0
 .split
  .obtain⟨a,_,c⟩:=h.fam h2;refine⟨h.rv,λz=>(by(change (1:Int)=0\/5<=(1:Int)at z);omega),λr hr=>?_,λz=>?_,λz=>(by(change (1:Int)=4 at z);omega),λz=>(by(change (1:Int)=2 at z);omega),λ_=>rfl⟩
   .rcases Xl.1 hr with hr|hr
    .exact h.rd r hr
    .exact c.rd r hr
   .have:=(h.pb z).1;omega
  .exact h
theorem Wsd(hp:POk p)(h:RO b w.mem w.hist C p x)(h':RO b w.mem w.hist C' p x)(hM:MI b w.mem w.hist C)(hl:CL2 w.mem C)(cA:w.mem.1<=1000000)(h0:0<=w.mem.1)(h4:x.phase=4)(hx:ROk p n x)
  (hK:∀v i z,RC b w.mem w.hist C v i z->RC b w.mem w.hist C' v i z):RO b w.mem w.hist C' p (Wa5 w x):=by
 have aB:=hx.live (by omega);have n1:¬(x.phase=0\/5<=x.phase):=by omega
 have hpos:=aB.pos h4;have hb:x.busy=false:=by
  by_cases hb:x.busy=true
  .have:=(h.pb hb).1;omega
  .simpa using hb
 obtain⟨e1,e2,e3⟩:=h.ext h4;have oi:x.last.2.1<=x.reads.length:=by
  have hne:=aB.back (.inr h4);have:x.last∈x.marks:=by
   unfold Rt.last Wgx;rw[Xac,Xp (by omega)];exact Xo _
  exact(aB.marks.each _ this).2.1.2.2
 unfold Wa5;split
 .rename_i hlt;simp only;have hi:x.pos.toNat<x.reads.length:=by omega
  have hg:Wci x.reads x.pos (0,0)=x.reads[x.pos.toNat]:=by unfold Wci;exact Wh hi _
  have hrow:=aB.reads _ (Xo hi);split
  .exact WgC h0
  .rename_i hc;rw[hg]at hc;have kx:owner w.mem x.reads[x.pos.toNat].1=0:=by
    unfold owner;exact Classical.byContradiction λz=>hc (.inl z)
   have ep:(Wm w.mem x.reads[x.pos.toNat].1).2.1<=x.rv:=by
    rcases Int.lt_or_le x.rv (Wm w.mem x.reads[x.pos.toNat].1).2.1 with z|z
    .exact absurd (Or.inr z) hc
    .exact z
   refine⟨h'.rv,λz=>absurd z n1,h'.rd,λz=>?_,λ_=>⟨e1,(h'.ext h4).2.1,λi dy li=>?_⟩,λz=>?_,λ_=>h.fam0 (by omega)⟩
   ·(change x.busy=true at z;rw[hb]at z;cases z)
   .by_cases he:(i:Int)<x.pos
    .exact hK _ _ _ (e3 i dy he)
    .have yB:(i:Int)<x.pos+1:=li;have:i=x.pos.toNat:=by omega
     subst this;exact hK _ _ _ (WvL hM hl cA hrow.1.1 hrow.1.2 kx ep (h.rd _ (Xo hi)) e1 e2)
   ·(change x.phase=2 at z;omega)
 .rename_i fb;refine⟨⟨by have:=h.rv;show 0<=x.newRv;omega,(h'.ext h4).2.1⟩,λz=>(by(change (1:Int)=0\/5<=(1:Int)at z);omega),λr hr=>?_,λz=>?_,λz=>(by(change (1:Int)=4 at z);omega),λz=>(by(change (1:Int)=2 at z);omega),λ_=>h.fam0 (by omega)⟩
  .obtain⟨i,hi,rfl⟩:=Xco.1 hr;rw[Xal]at hi;have jV:i<x.reads.length:=by omega
   have:(x.reads.take x.last.2.1.toNat)[i]'(by rw[Xal];exact hi)=x.reads[i]:=Xgq ..;show RC b w.mem w.hist C' x.newRv (x.reads.take x.last.2.1.toNat)[i].1 (x.reads.take x.last.2.1.toNat)[i].2;rw[this];exact hK _ _ _ (e3 i jV (by omega))
  ·(change x.busy=true at z;rw[hb]at z;cases z)
theorem WuY(h:RO b m H C p x)(h5:x.phase=5)(h0:0<=m.1)(hb:x.busy=false){c:Cm}:RO b m H C p (Wbm {x with cm:=c}):=by
 have hf:=h.fam0 (by omega);have hr:=h.rows (.inr (by omega));unfold Wbm;split
 .exact WgC h0
 .split
  .exact h.mk1 rfl rfl hb (by show(if x.fate=2 then(6:Int)else 7)≠2;split<;>omega) (by show(if x.fate=2 then(6:Int)else 7)≠4;split<;>omega) hf λ_=>hr
  .exact h.mk1 rfl rfl hb (by show x.phase≠2;omega) (by show x.phase≠4;omega) hf λ_=>hr
theorem WuH(hp:POk p)(h:RO b w.mem w.hist C p x)(hM:MI b w.mem w.hist C)(hl:CL2 w.mem C)(hm:WZ w.mem=true)(cA:w.mem.1<1000000)(hx:ROk p n x)
  (hK:∀v i z,RC b w.mem w.hist C v i z->RC b (Wai w x k p).1.mem (Wai w x k p).1.hist C' v i z) (ou:Mono b w.mem w.hist (Wai w x k p).1.mem (Wai w x k p).1.hist) (h1:w.mem.1<=(Wai w x k p).1.mem.1):
  RO b (Wai w x k p).1.mem (Wai w x k p).1.hist C' p (Wai w x k p).2:=by
 have h0:=(WK hm).2.1;have h':=h.keep hK ou h1;have wy:0<=(Wai w x k p).1.mem.1:=by omega
 have nb:x.phase≠1->x.busy=false:=λhn=>by
  by_cases hb:x.busy=true
  .exact absurd (h.pb hb).1 hn
  .simpa using hb
 by_cases h5:x.phase=5
 .by_cases hd:x.doomed=false
  .obtain⟨e1,e2,e3⟩:=Whv (w:=w) (x:=x) (k:=k) (p:=p) h5 hd;rw[e3];exact WuY h' h5 wy (nb (by omega))
  .have cP:x.doomed=true:=by simpa using hd
   have e:Wai w x k p=(w,if(W6 x.cm).phase=8 then Wdd x else{x with cm:=W6 x.cm,doomed:=false}):=by
    unfold Wai;rw[if_neg (by omega),if_neg (by omega),if_neg (by omega),if_neg (by omega),if_neg (by omega),if_neg (by omega),if_pos h5];unfold Waz;rw[if_pos cP]
   have e2:(Wai w x k p).2=if(W6 x.cm).phase=8 then Wdd x else{x with cm:=W6 x.cm,doomed:=false}:=by rw[e]
   rw[e2];split
   .exact WgC wy
   .exact h'.mk1 rfl rfl (nb (by omega)) (by show x.phase≠2;omega) (by show x.phase≠4;omega) (h.fam0 (by omega)) λ_=>h.rows (.inr (by omega))
 .obtain⟨r1,r2,_⟩:=Whx (w:=w) (k:=k) (p:=p) h5;rw[r1,r2]at hK h'⊢;unfold Wai;by_cases hd:x.doomed=true/\1<=x.phase/\x.phase<=4
  .rw[if_pos hd];exact WgC h0
  rw[if_neg hd];by_cases iC:x.phase=0
  .rw[if_pos iC];unfold Weh;split
   .exact h'
   .split
    .exact h'
    .split
     .exact h'
     .exact RO.nil h0 ⟨h0,Xu _⟩ rfl rfl (by show(1:Int)≠2;omega) (by show(1:Int)≠4;omega) rfl
  rw[if_neg iC];by_cases om:x.phase=1
  .rw[if_pos om];exact Wvo hp h h' hM hl (by omega) h0 om hx hK
  rw[if_neg om];have hb:=nb om;by_cases dI:x.phase=2
  .rw[if_pos dI];exact WuM h' dI h0
  rw[if_neg dI];have hf:=h.fam0 dI;by_cases hp3:x.phase=3
  .rw[if_pos hp3];unfold WbG;split
   .exact Wrm h' dI (by omega) hb (λz=>by omega)
   .exact⟨h'.rv,λz=>(by(change (4:Int)=0\/5<=(4:Int)at z);omega),h'.rd,λz=>(by(change x.busy=true at z);rw[hb]at z;cases z),λ_=>⟨h.rv.2,Xu _,λi hi li=>(by(change (i:Int)<0 at li);omega)⟩,λz=>(by(change (4:Int)=2 at z);omega),λ_=>hf⟩
  rw[if_neg hp3];by_cases mH:x.phase=4
  .rw[if_pos mH];exact Wsd hp h h' hM hl (by omega) h0 mH hx hK
  rw[if_neg mH,if_neg h5];have bQ:=hx.phase;have hr:=h.rows (.inr (by omega));by_cases hp6:x.phase=6
  .rw[if_pos hp6];split
   .exact Wrm h' dI mH hb λ_=>hr
   .exact h'.mk1 rfl rfl hb (by show(7:Int)≠2;omega) (by show(7:Int)≠4;omega) hf λ_=>hr
  rw[if_neg hp6];by_cases hp7:x.phase=7
  .rw[if_pos hp7];split
   .exact RO.nil h0 ⟨Xu _,h0⟩ rfl rfl (by show(0:Int)≠2;omega) (by show(0:Int)≠4;omega) rfl
   .exact h'.mk1 rfl rfl hb (by show(8:Int)≠2;omega) (by show(8:Int)≠4;omega) hf λ_=>hr
  .rw[if_neg hp7];exact h'
end
end
section
section
variable{b:Int->Int}{s:Sc}{w v:Wo}{n:Int}{x y:Rt}{k:Nat}{p:Pg}{o:Opn}{m m':Mm}{H H':List Wr}{C C':Nat->Option Cm}{c:Cm}{a:Ac}
theorem WvV(hM:MI b m H C)(aX:CmOk c)(hm:WZ m=true)(cA:m.1<1000000)(hC:C k=some c)(h3:c.phase<=3)(h4:(Ws m c).2.phase=4):(Ws m c).2.puts=c.puts/\∀h∈H,h.1≠(Ws m c).2.wv:=by
 have bQ:=aX.phase;revert h4;unfold Ws;simp only;by_cases h1:c.phase=1
 .rw[if_pos h1];split
  .intro h4;have:(Wu c 2).phase=1\/(Wu c 2).phase=2:=by
    unfold Wu;split
    .right;show Wa6 c 2=2;unfold Wa6;rw[if_neg (by omega),if_neg (by omega)]
    .left;exact h1
   simp only at h4;omega
  .intro h4;simp only at h4;have:=Wdc c c.pos;omega
 rw[if_neg h1];by_cases h2:c.phase=2
 .have et:tick m=((m.1+1,m.2),m.1+1):=by unfold tick;rw[if_pos cA]
  have h0:=(WK hm).2.1;rw[if_pos h2,et];simp only;rw[if_neg (by omega)];intro _;refine⟨rfl,λh hh=>?_⟩;have:=hM.st h hh;show h.1≠m.1+1;omega
 rw[if_neg h2,if_pos (by omega)];split
 .intro h4;simp only at h4;have:=Wdc c c.puts.length;omega
 .intro _;obtain⟨e1,_,e3⟩:=WaN c 4;refine⟨e1,λh hh=>?_⟩;show h.1≠(Wu c 4).wv;rw[e3];exact(hM.fr k c hC (by omega)).2.2 h hh
theorem Wrv:∀(n:Nat) (l:List Int),l.Nodup->(∀x∈l,1<=x/\x<=n)->l.length<=n
 |0,l,_,h=>by
  cases l with
  |nil=>simp
  |cons a l=>have:=h a (Xh ..);omega
 |n+1,l,hn,h=>by
  by_cases hm:((n+1:Nat):Int)∈l
  .have:=Wrv n (l.erase ((n+1:Nat):Int)) (hn.erase _) λx hx=>by
    obtain⟨h1,h2⟩:=(List.Nodup.mem_erase_iff hn).1 hx;have:=h x h2;omega
   rw[List.length_erase_of_mem hm]at this;omega
  .have:=Wrv n l hn λx hx=>by
    have:=h x hx;have hne:x≠((n+1:Nat):Int):=λe=>hm (e▸hx);omega
   omega
structure HW(l:List Rt)(H:List Wr):Prop where
 who:∀h∈H,∃k:Nat,∃hk:k<l.length,h.2.1=(k:Int)+1/\stl l[k]=true
 nod:(H.map (·.2.1)).Nodup
 dist:H.Pairwise λa b=>a.1≠b.1
 up:∀h∈H,h.2.2.Pairwise λa b=>a.1<b.1
theorem HW.stay{l l':List Rt}(h:HW l H)(hl:l.length=l'.length)(hs:∀(i:Nat) (h:i<l.length) (h':i<l'.length),stl l[i]=true->stl l'[i]=true):HW l' H:=
 ⟨λe he=>by
  obtain⟨k,hk,e1,e2⟩:=h.who e he;exact⟨k,by omega,e1,hs k hk (by omega) e2⟩,h.nod,h.dist,h.up⟩
theorem HW.len{l:List Rt}(h:HW l H)(hl:l.length<=4):H.length<=4:=by
 have h1:=Wrv 4 (H.map (·.2.1)) h.nod λz hz=>by
  obtain⟨e,he,rfl⟩:=Xv.1 hz;obtain⟨k,hk,e1,_⟩:=h.who e he;omega
 simpa using h1
theorem HW.app{l l':List Rt}(h:HW l H)(hk:k<l.length)(hl:l'.length=l.length)(hs:∀(i:Nat) (h:i<l.length) (h':i<l'.length),stl l[i]=true->stl l'[i]=true){e:Wr}(he:e.2.1=(k:Int)+1)(h0:stl l[k]=false)(h1:stl (l'[k]'(by omega))=true)(hd:∀z∈H,z.1≠e.1)(hu:e.2.2.Pairwise λa b=>a.1<b.1):HW l' (H++ [e]):=by
 refine⟨λz hz=>?_,?_,?_,λz hz=>?_⟩
 .rcases Xl.1 hz with hz|hz
  .obtain⟨j,hj,e1,e2⟩:=h.who z hz;exact⟨j,by omega,e1,hs j hj (by omega) e2⟩
  .rw[Xx.1 hz];exact⟨k,by omega,he,h1⟩
 .rw[List.map_append,List.nodup_append];refine⟨h.nod,by simp,λz hz u uy=>?_⟩;obtain⟨z',yC,rfl⟩:=Xv.1 hz;simp only[List.map_cons,List.map_nil,Xx]at uy;obtain⟨j,hj,e1,e2⟩:=h.who z' yC;intro q;have:j=k:=by omega
  subst this;rw[h0]at e2;cases e2
 .rw[List.pairwise_append];refine⟨h.dist,List.pairwise_singleton ..,λz hz u uy=>?_⟩;rw[Xx.1 uy];exact hd z hz
 .rcases Xl.1 hz with hz|hz
  .exact h.up z hz
  .rw[Xx.1 hz];exact hu
theorem Wu5(aX:WOk s.2.1 n w)(yD:WX w)(yE:WT w)(pS:MI b w.mem w.hist (Wdu w.roots))(wz:HW w.roots w.hist)(hn:n<=99999):HW (Wgu s w a).roots (Wgu s w a).hist:=by
 have iA:=Wl8 (a:=a) aX yD;have hlen:=iA.2.len;have aM:∀(i:Nat) (h:i<w.roots.length) (h':i<(Wgu s w a).roots.length),stl w.roots[i]=true->stl (Wgu s w a).roots[i]=true:=λi h1 h2 hs=>((iA.2.root i h1 h2).st hs).1;have cA:w.mem.1<1000000:=by have:=yE.clk;have:=aX.now;omega
 have jU:(Wgu s w a).hist=w.hist\/∃k:Nat,∃hk:k<w.roots.length,(w.roots[k].phase=5/\w.roots[k].doomed=false/\w.roots[k].cm.phase<=3/\(Ws w.mem w.roots[k].cm).2.phase=4)/\(Wgu s w a).hist=w.hist++ [((Ws w.mem w.roots[k].cm).2.wv,(k:Int)+1,(Ws w.mem w.roots[k].cm).2.puts)]/\(Wgu s w a).roots[k]?=some (Wbm {w.roots[k]with cm:=(Ws w.mem w.roots[k].cm).2}):=by
  unfold Wgu;simp only;split
  .rename_i hb;have hk:a.2.1.toNat<w.roots.length:=by omega
   rw[Wh hk];generalize a.2.1.toNat=k at*;split
   .unfold Wkx;rw[Wh (show k<({w with now:=w.now+1}:Wo).roots.length from hk)];have hr:=Wjo aX hk;show(Wai {w with now:=w.now+1} w.roots[k] k (s.2.1.getD k pg0)).1.hist=_\/_;by_cases h5:w.roots[k].phase=5
    .by_cases hd:w.roots[k].doomed=false
     .obtain⟨e1,e2,e3⟩:=Whv (w:={w with now:=w.now+1}) (x:=w.roots[k]) (k:=k) (p:=s.2.1.getD k pg0) h5 hd;by_cases hc:w.roots[k].cm.phase<=3/\(Ws w.mem w.roots[k].cm).2.phase=4
      .right;refine⟨k,hk,⟨h5,hd,hc.1,hc.2⟩,?_,?_⟩
       .show(Wai {w with now:=w.now+1} w.roots[k] k (s.2.1.getD k pg0)).1.hist=_;rw[e2];unfold WaU;rw[if_pos hc]
       .show((Wai {w with now:=w.now+1} w.roots[k] k (s.2.1.getD k pg0)).1.roots.set k _)[k]?=_;rw[hr,List.getElem?_set_self hk,e3]
      .left;rw[e2];unfold WaU;rw[if_neg hc]
     .left;have cP:w.roots[k].doomed=true:=by simpa using hd
      unfold Wai;rw[if_neg (by omega),if_neg (by omega),if_neg (by omega),if_neg (by omega),if_neg (by omega),if_neg (by omega),if_pos h5];unfold Waz;rw[if_pos cP]
    .left;obtain⟨_,r2,_⟩:=Whx (w:={w with now:=w.now+1}) (k:=k) (p:=s.2.1.getD k pg0) h5;exact r2
   .left;split
    .split<;>rfl
    .split
     .split<;>rfl
     .rfl
  .left;rfl
 rcases jU with e|⟨k,hk,⟨c1,c2,c3,c4⟩,e,er⟩
 .rw[e];exact wz.stay hlen aM
 .rw[e];obtain⟨p1,p2⟩:=WvV (k:=k) pS ((aX.root k hk).comm c1) aX.mem cA (by rw[WjO hk];unfold cmX;rw[if_pos c1]) c3 c4;have d6:k<(Wgu s w a).roots.length:=by omega
  rw[Xp d6]at er;have er:=Option.some.inj er;refine wz.app (k:=k) (e:=((Ws w.mem w.roots[k].cm).2.wv,(k:Int)+1,(Ws w.mem w.roots[k].cm).2.puts)) hk (by omega) aM rfl ?_ ?_ p2 (by show(Ws w.mem w.roots[k].cm).2.puts.Pairwise _;rw[p1];exact((aX.root k hk).comm c1).pup)
  .rw[Bool.eq_false_iff];intro z;rcases Wbv.1 z with z|z|z<;>omega
  .rw[er];have e2:Wbm {w.roots[k]with cm:=(Ws w.mem w.roots[k].cm).2}={w.roots[k]with cm:=(Ws w.mem w.roots[k].cm).2}:=by
    unfold Wbm;rw[if_neg (by simp only;omega),if_neg (by simp only;omega)]
   rw[e2];exact Wbv.2 (.inr (.inl ⟨c1,.inl c4⟩))
def ROs(b:Int->Int)(s:Sc)(w:Wo):Prop:=∀(k:Nat) (h:k<w.roots.length),RO b w.mem w.hist (Wdu w.roots) (s.2.1.getD k pg0) w.roots[k]
structure OA(b:Int->Int)(s:Sc)(n:Int)(w:Wo):Prop where
 ok:WOk s.2.1 n w
 wx:WX w
 lx:LX w
 wt:WT w
 mi:MI b w.mem w.hist (Wdu w.roots)
 ro:ROs b s w
 hw:HW w.roots w.hist
theorem Wus(h:OA b s n w)(hn:n<=99999):OA b s (n+1) (Wgu s w a):=by
 have iA:=Wl8 (a:=a) h.ok h.wx;have uz:=WrQ (a:=a) h.ok;have se:=WrZ (a:=a) h.ok h.lx h.wx h.wt (by omega) h.mi;refine⟨uz,iA.1,WuR h.ok h.wx h.lx,Wvc h.ok h.wt,se.1,?_,?_⟩
 .have hlen:=h.ok.len;have cA:w.mem.1<1000000:=by have:=h.wt.clk;have:=h.ok.now;omega
  have hcl:CL2 w.mem (Wdu w.roots):=Wt5 h.ok h.lx;revert se;unfold WsV Wgu;simp only;split
  .rename_i hb;have hk:a.2.1.toNat<w.roots.length:=by omega
   rw[Wh hk];generalize a.2.1.toNat=k at*;split
   .unfold Wkx;rw[Wh (show k<({w with now:=w.now+1}:Wo).roots.length from hk)];have hx:=h.ok.root k hk;have hr:=Wjo h.ok hk;have ou:=WsS (b:=b) (p:=s.2.1.getD k pg0) h.ok h.wx hk rfl;have h1:w.mem.1<=(Wai {w with now:=w.now+1} w.roots[k] k (s.2.1.getD k pg0)).1.mem.1:=(WpV (n:=n) (h.wx k hk) hx ⟨h.ok.mem,h.ok.shelf,h.ok.holds⟩ (w:={w with now:=w.now+1}) (k:=k) ⟨(h.lx.root k hk).cm,(h.lx.root k hk).no,(h.lx.root k hk).hd,(h.lx.root k hk).tk⟩).clk;have jI:POk (s.2.1.getD k pg0):=h.ok.progs _ (by rw[Wh (show k<s.2.1.length by omega)];exact Xo _);generalize hq:Wai {w with now:=w.now+1} w.roots[k] k (s.2.1.getD k pg0)=q at*;intro se;have rq:∀v i z,RC b w.mem w.hist (Wdu w.roots) v i z->RC b q.1.mem q.1.hist (Wdu (Wo.put q k).roots) v i z:=se.2;intro j hj;change j<(q.1.roots.set k q.2).length at hj;have hj':j<w.roots.length:=by rw[Xaf,hr]at hj;exact hj
    show RO b q.1.mem q.1.hist (Wdu (Wo.put q k).roots) _ ((q.1.roots.set k q.2)[j]'hj);rw[Xao];split
    .rename_i e;subst e;have:=WuH (w:={w with now:=w.now+1}) (k:=k) (C':=Wdu (Wo.put q k).roots) jI (h.ro k hk) h.mi hcl h.ok.mem cA hx (by rw[hq];exact rq) (by rw[hq];exact ou) (by rw[hq];exact h1);rw[hq]at this;exact this
    .simp only[hr];exact(h.ro j hj').keep rq ou h1
   .have same:∀y:Rt,cmX y=cmX w.roots[k]->RO b w.mem w.hist (Wdu w.roots) (s.2.1.getD k pg0) y->ROs b s (Wo.put ({w with now:=w.now+1},y) k):=λy hy dn j hj=>by
     have eK:(Wo.put ({w with now:=w.now+1},y) k).roots=w.roots.set k y:=rfl;have hC:Wdu (Wo.put ({w with now:=w.now+1},y) k).roots=Wdu w.roots:=by
      rw[eK,Wk0 hk,hy,←WjO hk];funext i;unfold WdX;split
      .rename_i e;rw[e]
      .rfl
     show RO b w.mem w.hist (Wdu (Wo.put ({w with now:=w.now+1},y) k).roots) _ _;rw[hC];simp only[eK,Xao];split
     .rename_i e;subst e;exact dn
     .exact h.ro j (by rw[eK,Xaf]at hj;exact hj)
    split
    .split
     .rename_i hc;intro _;have h2:=hc.1;have hx:=h.ok.root k hk;have aB:=hx.live (by omega);obtain⟨_,_,hF⟩:=aB.fork h2;obtain⟨f1,f2,f3⟩:=(h.ro k hk).fam h2;have jI:POk (s.2.1.getD k pg0):=h.ok.progs _ (by rw[Wh (show k<s.2.1.length by omega)];exact Xo _);have iZ:a.2.2.toNat<(s.2.1.getD k pg0).2.length:=by omega
      have yF:(s.2.1.getD k pg0).2.getD a.2.2.toNat []=(s.2.1.getD k pg0).2[a.2.2.toNat]:=Wh iZ _;obtain⟨g1,g2,g3,g4⟩:=WsF (m:=w.mem) (k:=a.2.2.toNat) (code:=(s.2.1.getD k pg0).2.getD a.2.2.toNat []) f3 hF (by rw[hF.len];exact iZ) h.ok.mem (by rw[yF];exact jI.kids _ (Xo _)) rfl (by rw[f1];exact WwB h.mi hcl (by omega) (h.ro k hk).rv);have dn:=h.ro k hk;refine same {w.roots[k]with fam:=WaI w.mem w.roots[k].fam a.2.2.toNat ((s.2.1.getD k pg0).2.getD a.2.2.toNat [])} rfl ⟨dn.rv,dn.rows,dn.rd,dn.pb,dn.ext,λ_=>⟨g2.trans f1,?_,g1⟩,λz=>absurd h2 z⟩;obtain⟨rows,er⟩:=f2;exact⟨rows,g4.trans er⟩
     .intro _;exact h.ro
    .split
     .split
      .intro _;have dn:=h.ro k hk;exact same {w.roots[k]with doomed:=true} rfl ⟨dn.rv,dn.rows,dn.rd,dn.pb,dn.ext,dn.fam,dn.fam0⟩
      .intro _;exact h.ro
     .intro _;exact h.ro
  .intro _;exact h.ro
 .exact Wu5 h.ok h.wx h.wt h.mi h.hw hn
theorem WqX:∀(l:List Ac) (n:Int) (w:Wo),OA b s n w->n+l.length<=99999->OA b s (n+l.length) (l.foldl (Wgu s) w)
 | [],n,w,h,_=>by simpa using h
 |e::l,n,w,h,hn=>by
  simp only[List.length_cons]at hn
  push_cast at hn
  have:=WqX l (n+1) _ (Wus (a:=e) h (by omega)) (by omega);rw[show n+((e::l).length:Int)=n+1+(l.length:Int) by simp;omega];exact this
end
end
section
section
variable{N:Nat}{b i v:Int}{H S:List Wr}{h e:Wr}{l:List Rw}{cells:List Int}
theorem Wv7:Lin cfW:=⟨λx=>by unfold cfW;omega,λx y z=>by unfold cfW;omega,λx y z=>by unfold cfW;omega⟩
theorem Wwn{x y:Wr}:Ap cfW x y↔x.1≠y.1:=by unfold Ap cfW;omega
theorem WsY{x y:Wr}(hn:x.1≠y.1)(r:Int×Int):Wei i v (Wei i v r x) y=Wei i v (Wei i v r y) x:=by
 unfold Wei;cases pick x.2.2 i with
 |none=>cases pick y.2.2 i<;>rfl
 |some p=>
  cases pick y.2.2 i with
  |none=>rfl
  |some q=>
   simp only;by_cases h1:x.1<=v/\r.1<x.1
   .rw[if_pos h1];by_cases h2:y.1<=v/\r.1<y.1
    .rw[if_pos h2];by_cases h3:x.1<y.1
     .rw[if_pos (show y.1<=v/\x.1<y.1 from⟨h2.1,h3⟩),if_neg (by simp only;omega)]
     .rw[if_neg (by simp only;omega),if_pos (show x.1<=v/\y.1<x.1 from⟨h1.1,by omega⟩)]
    .rw[if_neg h2,if_neg (by simp only;omega),if_pos h1]
   .rw[if_neg h1];by_cases h2:y.1<=v/\r.1<y.1
    .rw[if_pos h2,if_neg (by simp only;omega)]
    .rw[if_neg h2,if_neg h1]
theorem WkR:∀(S:List Wr) (r:Int×Int),(∀z∈S,z.1≠e.1)->S.foldl (Wei i v) (Wei i v r e)=Wei i v (S.foldl (Wei i v) r) e
 | [],r,_=>rfl
 |z::S,r,h=>by
  rw[Xau,Xau,WsY (h z (Xh ..)).symm,WkR S _ λy hy=>h y (Xe _ hy)]
theorem WqU:∀(S:List Wr) (r:Int×Int),(∀z∈S,z.1≠e.1)->(Wc9 cfW S e).foldl (Wei i v) r=Wei i v (S.foldl (Wei i v) r) e
 | [],r,_=>rfl
 |z::S,r,h=>by
  have hz:=h z (Xh ..);have hS:∀y∈S,y.1≠e.1:=λy hy=>h y (Xe _ hy);rw[Wc9];split
  .rw[Xau,WqU S _ hS,Xau]
  .split
   .rw[Xau,WkR (z::S) r h]
   .rename_i a c;unfold cfW at a c;omega
def Wa7(H:List Wr):List Wr:=H.foldr (λh l=>Wc9 cfW l h) []
theorem Wg5:∀{H:List Wr},H.Pairwise (λa b=>a.1≠b.1)->Ris cfW (Wa7 H)/\(∀x,x∈Wa7 H↔x∈H)
 | [],_=>⟨List.Pairwise.nil,λx=>Iff.rfl⟩
 |h::H,hp=>by
  obtain⟨h1,h2⟩:=Xz.1 hp;obtain⟨a,c⟩:=Wg5 h2;refine⟨WbI Wv7 a,λx=>?_⟩;show x∈Wc9 cfW (Wa7 H) h↔_;rw[Wa3 Wv7 a,c,Xq];refine or_congr Iff.rfl ⟨λz=>z.1,λz=>⟨z,Wwn.2 (h1 x z).symm⟩⟩
theorem WgH(hp:H.Pairwise λa b=>a.1≠b.1):(Wa7 H).length=H.length:=by
 obtain⟨a,c⟩:=Wg5 hp;rw[←Wkz Wv7 a (hp.imp λz=>Wwn.2 z) λx=>(c x).symm];unfold sortBy;exact List.length_mergeSort _
theorem Wp2:∀(H:List Wr) (r:Int×Int),H.Pairwise (λa b=>a.1≠b.1)->(Wa7 H).foldl (Wei i v) r=H.foldl (Wei i v) r
 | [],r,_=>rfl
 |h::H,r,hp=>by
  obtain⟨h1,h2⟩:=Xz.1 hp;show(Wc9 cfW (Wa7 H) h).foldl (Wei i v) r=_;rw[WqU _ _ λz hz=>(h1 z ((Wg5 h2).2 z|>.1 hz)).symm,Wp2 H r h2,Xau,WkR H r λz hz=>(h1 z hz).symm]
theorem Wte(hu:l.Pairwise λa b=>a.1<b.1):pick l i=lst l i:=by
 cases hp:pick l i with
 |some x=>exact(Wrz (r:=(i,x)) hu (Whr hp)).symm
 |none=>
  cases hl:lst l i with
  |none=>rfl
  |some x=>
   unfold pick at hp;have df:l.find? (λr=>decide (r.1=i))=none:=by
    cases hf:l.find? (λr=>decide (r.1=i))with
    |none=>rfl
    |some r=>rw[hf]at hp;cases hp
   have:=List.find?_eq_none.1 df _ (Wkc hl);simp at this
structure HG(H:List Wr):Prop where
 len:H.length<=4
 each:∀h∈H,(1<=h.1/\h.1<=1000000)/\(1<=h.2.1/\h.2.1<=99)/\WcP h.2.2/\h.2.2.length<=300
 up:∀h∈H,h.2.2.Pairwise λa b=>a.1<b.1
 dist:H.Pairwise λa b=>a.1≠b.1
def ovW(v:Int)(l:List Int)(h:Wr):List Int:=if h.1<=v then ovl l h.2.2 else l
def stA(cells:List Int)(H:List Wr)(v:Int):List Int:=(Wa7 H).foldl (ovW v) cells
theorem WjQ{A:List Int}(hA:Vals 8 A)(hr:WcP h.2.2):Vals 8 (ovW v A h):=by
 unfold ovW;split
 .exact Wc3 hA hr
 .exact hA
theorem WrS{c:Int}(h0:0<=c)(h7:c<=7):∀(S:List Wr) (A:List Int) (r:Int×Int),Vals 8 A->Ris cfW S->(∀h∈S,WcP h.2.2/\h.2.2.Pairwise λa b=>a.1<b.1)->(∀h∈S,r.1<h.1)->A.getD c.toNat 0=r.2->Vals 8 (S.foldl (ovW v) A)/\(S.foldl (ovW v) A).getD c.toNat 0=(S.foldl (Wei c v) r).2
 | [],A,r,hA,_,_,_,e=>⟨hA,e⟩
 |h::S,A,r,hA,hs,hr,hlt,e=>by
  obtain⟨s1,s2⟩:=Xz.1 hs;obtain⟨r1,r2⟩:=hr h (Xh ..);have hl:=hlt h (Xh ..);rw[Xau,Xau];refine WrS h0 h7 S _ _ (WjQ hA r1) s2 (λy hy=>hr y (Xe _ hy)) (λy hy=>?_) ?_
  .have h1:=s1 y hy;have h2:=hlt y (Xe _ hy);unfold cfW at h1;unfold Wei;split
   .split
    .simp only;omega
    .exact h2
   .exact h2
  .unfold ovW Wei;rw[Wte r2];by_cases hv:h.1<=v
   .rw[if_pos hv,WkA hA r1 h0 h7];cases lst h.2.2 c with
    |some x=>simp only;rw[if_pos ⟨hv,hl⟩]
    |none=>exact e
   .rw[if_neg hv];cases lst h.2.2 c with
    |some x=>simp only;rw[if_neg (λz=>hv z.1)];exact e
    |none=>exact e
theorem WhI(hH:HG H)(hc:Vals 8 cells):Vals 8 (stA cells H v)/\∀c:Int,0<=c->c<=7->(stA cells H v).getD c.toNat 0=(bst (cells.getD c.toNat 0) c v H).2:=by
 obtain⟨s1,s2⟩:=Wg5 hH.dist;have key:∀c:Int,0<=c->c<=7->_:=λc h0 h7=>WrS (v:=v) h0 h7 (Wa7 H) cells (0,cells.getD c.toNat 0) hc s1 (λh hh=>⟨(hH.each h ((s2 h).1 hh)).2.2.1,hH.up h ((s2 h).1 hh)⟩) (λh hh=>by have:=(hH.each h ((s2 h).1 hh)).1;simp only;omega) rfl;refine⟨(key 0 (by omega) (by omega)).1,λc h0 h7=>?_⟩;have:=(key c h0 h7).2;rw[Wp2 H _ hH.dist]at this;exact this
end
end
section
section
variable{N:Nat}{b i v:Int}{H S:List Wr}{h e:Wr}{l:List Rw}{cells:List Int}
theorem Wqq(hp:H.Pairwise λa b=>a.1≠b.1){i k:Nat}(hi:i<H.length)(hk:k<i):H[k].1≠H[i].1:=Xaq.1 hp k i (by omega) hi hk
theorem WtU{R:Type}{K0:Option R}{K1:Int->Bool->Option R}(hp:H.Pairwise λa b=>a.1≠b.1){i:Nat}(hi:i<H.length)(hl:H.length<=1000):∀(d j fuel:Nat),j+d=i->d<fuel->Zdq N H (i:Int) K0 K1 fuel (j:Int)=K1 (i:Int) false
 |0,j,fuel,hj,hf=>by
  obtain⟨g,rfl⟩:∃g,fuel=g+1:=⟨fuel-1,by omega⟩;have:j=i:=by omega
  subst this;simp only[Zdq,decide_eq_false (show¬(j:Int)<(j:Int) by omega),cond_false]
 |d+1,j,fuel,hj,hf=>by
  obtain⟨g,rfl⟩:∃g,fuel=g+1:=⟨fuel-1,by omega⟩;have hlt:j<i:=by omega
  have hne:=Wqq hp hi hlt;have ih:=WtU (K0:=K0) (K1:=K1) hp hi hl d (j+1) g (by omega) (by omega);simp only[Zdq,decide_eq_true (show(j:Int)<(i:Int) by omega),cond_true,Wg (show j<H.length by omega),Wg hi,Wj (show j<H.length by omega),Wj hi,Wf (show j<4611686018427387904 by omega)];rw[show(H[j].1==H[i].1)=false by simpa using hne,cond_false];exact ih
theorem Web(hH:HG H)(hN:1048576<N):Zge N H=ret true:=by
 unfold Zge;have hl:=hH.len;rw[decide_eq_false (show¬Wb H>200 by unfold Wb;omega),cond_false];have h1:=Wq (l:=H) (V:=Unit) (R:=Unit×Ko) (lp:=λn j v=>Zdr N H (some ((),(false,()))) (λvY t22=>some ((),(true,()))) n j) (n:=N) (by omega)
  (body:=λj x v k=>k v) (K:=λ_ v=>some ((),(true,())))
  (λn i v hi=>by
   obtain⟨⟨a1,a2⟩,⟨a3,a4⟩,a5,a6⟩:=hH.each _ (Xo hi);have e1:(decide (1<=H[i].1)&&decide (H[i].1<=1000000))=true:=by simp;omega
   have e2:(decide (1<=H[i].2.1)&&decide (H[i].2.1<=99))=true:=by simp;omega
   simp only[Zdr,WN hi,Wg hi,Wj hi,Wf (show i<4611686018427387904 by omega),cond_true,WcS,e1,e2,ret,Xd,Xs,cond_false,WbE (show H[i].2.2.length<=1048576 by omega) hN,Wav a5 a6];rw[show(0:Int)=((0:Nat):Int)from rfl,WtU hH.dist hi (by omega) i 0 N (by omega) (by omega)])
  (λn v=>by simp only[Zdr,WV (Xn _),cond_false]) ()
 refine h1.trans ?_;rw[Wa9 (f:=λv _=>v) H 0 () (λj x v k _=>rfl)]
theorem WvS(hp:H.Pairwise λa b=>a.1≠b.1){i:Nat}(hi:i<H.length)(hl:H.length<=1000)(hN:1048576<N):Z9 N (H.take i) H[i]=some ((H[i],()),(false,())):=by
 unfold Z9 Zz;have kP:(H.take i).length<=1000:=by rw[Xal];omega
 have h1:=Wq (l:=H.take i) (V:=Unit) (R:=(Wr×Unit)×Ki) (lp:=λn j v=>Zk N (H.take i) (λaY bc=>(some ((bc,()),(aY,())))) (λcd eV bv=>(some ((bv,()),((-1:Int),())))) n j H[i]) (n:=N) (by omega)
  (body:=λj x v k=>k v) (K:=λ_ v=>some ((H[i],()),((-1:Int),())))
  (λn j v hj=>by
   have hj':j<i:=by rw[Xal]at hj;omega
   have hne:=Wqq hp hi hj';have hg:(H.take i)[j]=H[j]:=Xgq ..;simp only[Zk,WN hj,Wg hj,Wj hj,Wf (show j<4611686018427387904 by omega),cond_true,Zon,Xd];rw[hg,show(H[j].1==H[i].1)=false by simpa using hne,cond_false])
  (λn v=>by simp only[Zk,WV (Xn _),cond_false]) ()
 rw[Wa9 (f:=λv _=>v) (H.take i) 0 () (λj x v k _=>rfl)]at h1;rw[h1];rfl
theorem Wg1(hH:HG H)(hN:1048576<N):Zhs N H=ret true:=by
 unfold Zhs;have hl:=hH.len;have h1:=Wq (l:=H) (V:=Unit) (R:=Unit×Ko) (lp:=λn j v=>Zdv N H (some ((),(false,()))) (λfY fO=>some ((),(decide ((Wb H)<=(200:Int)),()))) n j) (n:=N) (by omega)
  (body:=λj x v k=>k v) (K:=λ_ v=>some ((),(decide ((Wb H)<=(200:Int)),())))
  (λn i v hi=>by
   obtain⟨⟨a1,a2⟩,⟨a3,a4⟩,a5,a6⟩:=hH.each _ (Xo hi);have e1:(decide (1<=H[i].1)&&decide (H[i].1<=1000000))=true:=by simp;omega
   have e2:(decide (1<=H[i].2.1)&&decide (H[i].2.1<=99))=true:=by simp;omega
   have e3:((decide ((0:Int)<=(i:Int)))&&(decide ((i:Int)<=((List.length H):Int))))=true:=by simp;omega
   simp only[Zdv,WN hi,Wg hi,Wj hi,Wf (show i<4611686018427387904 by omega),cond_true,Wk,Wbe,e1,e2,e3,ret,Xd,Xs,cond_false,Wak (show H[i].2.2.length<=1048576 by omega) hN,Wav a5 a6];simp only[Xj,WvS hH.dist hi (by omega) hN,Xd,cond_false])
  (λn v=>by simp only[Zdv,WV (Xn _),cond_false]) ()
 refine h1.trans ?_;rw[Wa9 (f:=λv _=>v) H 0 () (λj x v k _=>rfl),decide_eq_true (show Wb H<=200 by unfold Wb;omega)]
def mnW(last best:Int)(x:Wr):Int:=if x.1>last then(if x.1<best then x.1 else best)else best
theorem WvQ{last:Int}:∀(H:List Wr) (best:Int),H.foldl (mnW last) best<=best/\(∀x∈H,x.1>last->H.foldl (mnW last) best<=x.1)/\(H.foldl (mnW last) best=best\/∃x∈H,x.1=H.foldl (mnW last) best/\x.1>last)
 | [],best=>⟨Xu _,(λx hx=>by cases hx),.inl rfl⟩
 |y::H,best=>by
  obtain⟨a,c,d⟩:=WvQ (last:=last) H (mnW last best y);rw[Xau];have hm:mnW last best y<=best/\(y.1>last->mnW last best y<=y.1)/\(mnW last best y=best\/(y.1=mnW last best y/\y.1>last)):=by
   unfold mnW;split
   .split
    .exact⟨by omega,λ_=>Xu _,.inr ⟨rfl,‹_›⟩⟩
    .exact⟨Xu _,λ_=>by omega,.inl rfl⟩
   .exact⟨Xu _,λz=>absurd z ‹_›,.inl rfl⟩
  obtain⟨m1,m2,m3⟩:=hm;refine⟨by omega,λx hx hl=>?_,?_⟩
  .rcases Xq.1 hx with rfl|hx
   .have:=m2 hl;omega
   .exact c x hx hl
  .rcases d with d|⟨x,hx,d⟩
   .rcases m3 with m3|⟨m3,m4⟩
    .exact .inl (d.trans m3)
    .exact .inr ⟨y,Xh ..,by omega,m4⟩
   .exact .inr ⟨x,Xe _ hx,d⟩
def lsW(S:List Wr)(j:Nat):Int:=if j=0 then 0 else(S.getD (j-1) (0,0,[])).1
theorem Wuo(hH:HG H){j:Nat}(hj:j<(Wa7 H).length):H.foldl (mnW (lsW (Wa7 H) j)) 1000001=(Wa7 H)[j].1:=by
 obtain⟨s1,s2⟩:=Wg5 hH.dist;have hlt:∀(a c:Nat) (ha:a<(Wa7 H).length) (hc:c<(Wa7 H).length),a<c->(Wa7 H)[a].1<(Wa7 H)[c].1:=λa c ha hc h=>by
  have:=Xaq.1 s1 a c ha hc h;unfold cfW at this;omega
 have hm:=(s2 _).1 (Xo hj);have hb:=(hH.each _ hm).1;have hls:lsW (Wa7 H) j<(Wa7 H)[j].1:=by
  unfold lsW;split
  .omega
  .rw[Xac,Xp (show j-1<(Wa7 H).length by omega)];exact hlt (j-1) j (by omega) hj (by omega)
 obtain⟨a,c,d⟩:=WvQ (last:=lsW (Wa7 H) j) H 1000001;have h1:=c _ hm (by omega);rcases d with d|⟨x,hx,d1,d2⟩
 .omega
 .obtain⟨k,hk,rfl⟩:=Xco.1 ((s2 x).2 hx);by_cases hkj:j<=k
  .by_cases e:j=k
   .subst e;exact d1.symm
   .have:=hlt j k hj hk (by omega);omega
  .have:(Wa7 H)[k].1<=lsW (Wa7 H) j:=by
    unfold lsW;rw[if_neg (by omega),Xac,Xp (show j-1<(Wa7 H).length by omega)];by_cases e:k=j-1
    .subst e;exact Xu _
    .have:=hlt k (j-1) hk (by omega) (by omega);show(Wa7 H)[k].1<=(Wa7 H)[j-1].1;omega
   omega
theorem Wue{R:Type}{bz:List Int}{K0:Int->Int->Bool->Option R}{last:Int}(hl:H.length<=1000)(hN:1048576<N):Zbl N H last bz K0 N 1000001 0=K0 (H.foldl (mnW last) 1000001) (H.length:Int) false:=by
 have h1:=Wq (l:=H) (V:=Int) (R:=R) (lp:=λn j v=>Zbl N H last bz K0 n v j) (n:=N) (by omega)
  (body:=λj x v k=>k (mnW last v x)) (K:=λj v=>K0 v j false)
  (λn i v hi=>by
   simp only[Zbl,WN hi,Wg hi,Wj hi,Wf (show i<4611686018427387904 by omega),cond_true,Waa];unfold mnW;split
   .split<;>rfl
   .rfl)
  (λn v=>by simp only[Zbl,WV (Xn _),cond_false]) 1000001
 refine h1.trans ?_;rw[Wa9 (f:=λv x=>mnW last v x) H 0 1000001 (λj x v k _=>rfl),Xba]
theorem Wqk(hH:HG H)(hN:1048576<N):∀(d j fuel:Nat),j+d=(Wa7 H).length->d<fuel->Zds N H (λnO nP fj=>(some ((),(fj,())))) fuel (lsW (Wa7 H) j) (((Wa7 H).map (·.1)).take j)=ret ((Wa7 H).map (·.1))
 |0,j,fuel,hj,hf=>by
  obtain⟨g,rfl⟩:∃g,fuel=g+1:=⟨fuel-1,by omega⟩;have hs:=WgH hH.dist;have e:((Wa7 H).map (·.1)).take j=(Wa7 H).map (·.1):=Xbx (by rw[Xy];omega);rw[Zds,e,decide_eq_false (show¬Wb ((Wa7 H).map (·.1))<Wb H by unfold Wb;rw[Xy];omega)];rfl
 |d+1,j,fuel,hj,hf=>by
  obtain⟨g,rfl⟩:∃g,fuel=g+1:=⟨fuel-1,by omega⟩;have hs:=WgH hH.dist;have hl:=hH.len;have hlt:j<(Wa7 H).length:=by omega
  have dN:j<((Wa7 H).map (·.1)).length:=by rw[Xy];exact hlt
  have kP:(((Wa7 H).map (·.1)).take j).length=j:=by rw[Xal,Xy];omega
  have ih:=Wqk hH hN d (j+1) g (by omega) (by omega);rw[Zds,decide_eq_true (show Wb (((Wa7 H).map (·.1)).take j)<Wb H by unfold Wb;rw[kP];omega),cond_true,Wue (by omega) hN,Wuo hH hlt];rw[Ww (by rw[kP];simp;omega),cond_true];have e1:lsW (Wa7 H) (j+1)=(Wa7 H)[j].1:=by
   unfold lsW;rw[if_neg (by omega),Xac,Nat.add_sub_cancel,Xp hlt];rfl
  have e2:((Wa7 H).map (·.1)).take (j+1)=Xf (((Wa7 H).map (·.1)).take j) [(Wa7 H)[j].1]:=by
   rw[Xbk dN,Xcn];rfl
  rw[e1,e2]at ih;exact ih
theorem Wiy(hH:HG H)(hN:1048576<N):Zi3 N H=ret ((Wa7 H).map (·.1)):=by
 unfold Zi3;rw[Web hH hN];simp only[ret,Xd,Xs,cond_false];have hs:=WgH hH.dist;have hl:=hH.len;exact Wqk hH hN (Wa7 H).length 0 N (by omega) (by omega)
theorem Woo:∀(H:List Wr) (A:List Int),H.Pairwise (λa b=>a.1≠b.1)->e∈H->H.foldl (λv x=>if x.1=e.1 then ovl v x.2.2 else v) A=ovl A e.2.2
 | [],_,_,h=>by cases h
 |y::H,A,hp,h=>by
  obtain⟨h1,h2⟩:=Xz.1 hp;have none:∀(H:List Wr) (A:List Int),(∀z∈H,z.1≠e.1)->H.foldl (λv x=>if x.1=e.1 then ovl v x.2.2 else v) A=A:=by
   intro H
   induction H with
   |nil=>intro A _;rfl
   |cons z H ih=>
    intro A hz;rw[Xau,if_neg (hz z (Xh ..))];exact ih A λu hu=>hz u (Xe _ hu)
  rw[Xau];rcases Xq.1 h with rfl|h
  .rw[if_pos rfl];exact none H _ λz hz=>(h1 z hz).symm
  .rw[if_neg (h1 e h)];exact Woo H A h2 h
theorem WvE{R:Type}{K0:Int->Bool->List Int->Option R}(hH:HG H)(hN:1048576<N){j:Nat}(hj:j<(Wa7 H).length){A:List Int}(hA:Vals 8 A):Zbr N H v (j:Int) ((Wa7 H).map (·.1)) K0 N 0 A=K0 (H.length:Int) false (ovl A (Wa7 H)[j].2.2):=by
 have hl:=hH.len;have hj':j<((Wa7 H).map (·.1)).length:=by rw[Xy];exact hj
 have hg:((Wa7 H).map (·.1))[j]=(Wa7 H)[j].1:=Xcn ..;obtain⟨s1,s2⟩:=Wg5 hH.dist;have h1:=Wq (l:=H) (V:=List Int) (R:=R) (lp:=λn k l=>Zbr N H v (j:Int) ((Wa7 H).map (·.1)) K0 n k l) (n:=N) (by omega)
  (body:=λk x l kk=>bif x.1==(Wa7 H)[j].1 then(Zdg N l x.2.2).bind (λo=>kk o.2.1)else kk l) (K:=λk l=>K0 k false l)
  (λn i l hi=>by simp only[Zbr,WN hi,Wg hi,Wj hi,Wg hj',Wj hj',hg,Wf (show i<4611686018427387904 by omega),cond_true])
  (λn l=>by simp only[Zbr,WV (Xn _),cond_false]) A
 refine h1.trans ?_;rw[WfE (β:=Unit) (f:=λl x=>if x.1=(Wa7 H)[j].1 then ovl l x.2.2 else l) (λl=>Vals 8 l) H 0 A hA (λx hx l hl=>by
   split
   .exact Wc3 hl (hH.each x hx).2.2.1
   .exact hl) (λk x l kk hx hl=>by
   simp only[Wv];split
   .rw[Wfh hl (hH.each x hx).2.2.1 (hH.each x hx).2.2.2 hN];rfl
   .rfl),Xba,Woo H A hH.dist ((s2 _).1 (Xo hj))]
theorem Wqs:∀(S:List Wr) (A:List Int),(∀z∈S,¬z.1<=v)->S.foldl (ovW v) A=A
 | [],_,_=>rfl
 |z::S,A,h=>by
  rw[Xau,show ovW v A z=A by unfold ovW;rw[if_neg (h z (Xh ..))]];exact Wqs S A λy hy=>h y (Xe _ hy)
theorem Wrf(hH:HG H)(hc:Vals 8 cells)(S:List Wr)(hs:∀z∈S,z∈H):Vals 8 (S.foldl (ovW v) cells):=by
 induction S generalizing cells with
 |nil=>exact hc
 |cons z S ih=>
  rw[Xau];exact ih (WjQ hc (hH.each z (hs z (Xh ..))).2.2.1) λy hy=>hs y (Xe _ hy)
theorem WtW(hH:HG H)(hc:Vals 8 cells)(hN:1048576<N):∀(d j fuel:Nat),j+d=(Wa7 H).length->d<fuel->Zc0 N H v ((Wa7 H).map (·.1)) (λtv rR nQ=>(some ((),(nQ,())))) fuel (j:Int) (((Wa7 H).take j).foldl (ovW v) cells)=ret (stA cells H v)
 |0,j,fuel,hj,hf=>by
  obtain⟨g,rfl⟩:∃g,fuel=g+1:=⟨fuel-1,by omega⟩;rw[Zc0,WV (show((Wa7 H).map (·.1)).length<=j by rw[Xy];omega),Xbx (by omega)];rfl
 |d+1,j,fuel,hj,hf=>by
  obtain⟨g,rfl⟩:∃g,fuel=g+1:=⟨fuel-1,by omega⟩;have hlt:j<(Wa7 H).length:=by omega
  have dN:j<((Wa7 H).map (·.1)).length:=by rw[Xy];exact hlt
  have hg:((Wa7 H).map (·.1))[j]=(Wa7 H)[j].1:=Xcn ..;obtain⟨s1,s2⟩:=Wg5 hH.dist;have hs:=WgH hH.dist;have hl:=hH.len;rw[Zc0,WN dN,Wg dN,Wj dN,hg];simp only[cond_true,Waa];by_cases hv:(Wa7 H)[j].1<=v
  .have ih:=WtW hH hc hN d (j+1) g (by omega) (by omega);rw[if_pos hv,WvE hH hN hlt (Wrf hH hc _ λz hz=>(s2 z).1 (List.mem_of_mem_take hz)),Wf (show j<4611686018427387904 by omega)];rw[Xbk hlt,Xen]at ih;have e:[(Wa7 H)[j]].foldl (ovW v) (((Wa7 H).take j).foldl (ovW v) cells)=ovl (((Wa7 H).take j).foldl (ovW v) cells) (Wa7 H)[j].2.2:=by
    show ovW v _ _=_;unfold ovW;rw[if_pos hv]
   rw[e]at ih;exact ih
  .rw[if_neg hv];unfold stA
   conv=>rhs;rw[←List.take_append_drop j (Wa7 H),Xen]
   rw[Wqs ((Wa7 H).drop j) _ λz hz=>by
    obtain⟨k,hk,rfl⟩:=Xco.1 hz;rw[List.length_drop]at hk;rw[List.getElem_drop];by_cases e:k=0
    .subst e;exact hv
    .have:=Xaq.1 s1 j (j+k) hlt (by omega) (by omega);unfold cfW at this;omega]
theorem WfK(hH:HG H)(hc:Vals 8 cells)(hN:1048576<N):Ze6 N cells H v=ret (stA cells H v):=by
 unfold Ze6;have hcl:=hc.len;have hs:=WgH hH.dist;have hl:=hH.len;rw[Wcm (by omega) hN,Wct.2 hc,Web hH hN];simp only[ret,Xd,Xs,cond_false];rw[Ww (by simp;omega),cond_true,Wiy hH hN];simp only[ret,Xd];exact WtW hH hc hN (Wa7 H).length 0 N (by omega) (by omega)
theorem Wmk(hH:HG H)(hN:1048576<N):Zhg N H=ret H:=by
 unfold Zhg;have hl:=hH.len;have h1:=Wq (l:=H) (V:=List Wr) (R:=Unit×(List Wr×Unit)) (lp:=λn j v=>Zcn N H (λai aG bn=>(some ((),(bn,())))) n j v) (n:=N) (by omega)
  (body:=λj x v k=>(Za6 N x.2.2).bind λo=>bif WA (v.length+ [((x.1,x.2.1,o.2.1):Wr)].length)then k (Xf v [((x.1,x.2.1,o.2.1):Wr)])else none) (K:=λ_ v=>ret v)
  (λn i v hi=>by simp only[Zcn,WN hi,Wg hi,Wj hi,Wf (show i<4611686018427387904 by omega),cond_true])
  (λn v=>by simp only[Zcn,WV (Xn _),cond_false]) []
 refine h1.trans ?_;rw[Wcy (f:=λx:Wr=>x) H 0 [] (by simp;omega) (λj x v k hx=>by
  rw[WcC (by have:=(hH.each x hx).2.2.2;omega)];rfl)]
 simp
theorem WjG(hH:HG H)(hc:Vals 8 cells)(hN:1048576<N):Zgu N cells H v=ret (stA cells H v):=by
 unfold Zgu Za2;have hcl:=hc.len;have hs:=WgH hH.dist;have hl:=hH.len;obtain⟨s1,s2⟩:=Wg5 hH.dist;rw[Wcb (by omega) hN,Wct.2 hc,Wg1 hH hN];simp only[ret,Xd,Xs,cond_false];rw[Wmk hH hN];simp only[ret,Xd];rw[WkO Wv7 s1 (hH.dist.imp λz=>Wwn.2 z) (λx=>(s2 x).symm) (λx hx=>by
  have:=(hH.each x hx).1;unfold Wv4 Wse;simp;omega) (by omega),WaV (by omega)]
 simp only[ret,Xd];have h1:=Wq (l:=Wa7 H) (V:=List Int) (R:=Unit×(List Int×Unit)) (lp:=λn j l=>Zca N v (Wb (Wa7 H)) (Wa7 H) (λeG fY bA=>(some ((),(bA,())))) n j l) (n:=N) (by omega)
  (body:=λk x l kk=>bif decide (x.1<=v)then(Zdh N l x.2.2).bind (λo=>kk o.2.1)else kk l) (K:=λk l=>ret l)
  (λn i l hi=>by simp only[Zca,WN hi,Wg hi,Wj hi,Wf (show i<4611686018427387904 by omega),cond_true])
  (λn l=>by simp only[Zca,WV (Xn _),cond_false]) cells
 refine h1.trans ?_;rw[WfE (β:=Unit) (f:=ovW v) (λl=>Vals 8 l) (Wa7 H) 0 cells hc (λx hx l hl=>WjQ hl (hH.each x ((s2 x).1 hx)).2.2.1) (λk x l kk hx hl=>by
   simp only[Waa];unfold ovW;split
   .rw[Wfj hl (hH.each x ((s2 x).1 hx)).2.2.1 (hH.each x ((s2 x).1 hx)).2.2.2 hN];rfl
   .rfl)]
 rfl
end
end
section
section
variable{N:Nat}{s:Sc}{w:Wo}{n:Int}{x:Rt}{k:Nat}{p:Pg}{m:Mm}{H:List Wr}{C:Nat->Option Cm}{cells:List Int}{b:Int->Int}
theorem Wsf{s:Sc}(hc:Vals 8 s.1.1):MI (λi=>s.1.1.getD i.toNat 0) (Wgg s).mem (Wgg s).hist (Wdu (Wgg s).roots):=by
 have cG:∀k c,Wdu (Wgg s).roots k=some c->False:=λk c h=>by
  obtain⟨hk,h5,_⟩:=WmG h;have:(Wgg s).roots[k].phase=0:=by simp only[Wgg,Xbh]
  omega
 refine⟨(λh hh=>by cases hh),λk c h=>absurd h (λh=>cG k c h),λk k' c c' _ h=>absurd h (λh=>cG k c h),λi h0 h7 _=>?_,λk c h=>absurd h (λh=>cG k c h)⟩;have hl:=hc.len;have hi:i.toNat<s.1.1.length:=by omega
 have e:Wm (Wgg s).mem i=(s.1.1.getD i.toNat 0,0,0):=by
  unfold Wm Wci Wgg Wjg;simp only;rw[Wh (by simpa using hi),Wh hi,Xcn];rfl
 rw[e];exact⟨rfl,rfl⟩
theorem WvT(aX:Wov s=true):OA (λi=>s.1.1.getD i.toNat 0) s 0 (Wgg s):=by
 refine⟨WqT aX,Wvp,Wuz aX,WuZ,Wsf (Wgh aX).1.cells,λk hk=>?_,⟨(λh hh=>by cases hh),List.nodup_nil,List.Pairwise.nil,(λh hh=>by cases hh)⟩⟩;have e:(Wgg s).roots[k]={}:=by simp only[Wgg,Xbh]
 rw[e];exact RO.nil (Xu _) ⟨Xu _,Xu _⟩ rfl rfl (by show(0:Int)≠2;omega) (by show(0:Int)≠4;omega) rfl
theorem Wst(aX:Wov s=true):OA (λi=>s.1.1.getD i.toNat 0) s s.2.2.length (Wu6 s):=by
 obtain⟨h1,h2,h3,h4⟩:=Wgh aX;have:=WqX s.2.2 0 _ (WvT aX) (by omega);rw[Int.zero_add]at this;exact this
theorem OA.hg(h:OA b s n w)(hn:n<=1000000):HG w.hist:=by
 have nX:w.roots.length<=4:=by rw[h.ok.len];exact h.ok.l4
 have hl:=h.hw.len nX;refine⟨hl,λe he=>?_,h.hw.up,h.hw.dist⟩;obtain⟨a1,a2,a3,a4⟩:=h.ok.histE e he;obtain⟨c1,c2⟩:=h.mi.st e he;have:=h.wt.clk;have:=h.ok.now;exact⟨by omega,by omega,a2,by omega⟩
structure LK(cells:List Int)(H:List Wr)(x:Rt):Prop where
 rows:WcP x.reads/\x.reads.length<=300
 rd:∀r∈x.reads,(stA cells H x.rv).getD r.1.toNat 0=r.2
 fz:FZ x.fam
 ft:WhP (stA cells H x.fam.rv) x.fam
theorem WvJ{v i z:Int}(hH:HG H)(hc:Vals 8 cells)(h0:0<=i)(h7:i<=7)(h:RC (λi=>cells.getD i.toNat 0) m H C v i z):(stA cells H v).getD i.toNat 0=z:=by
 rw[(WhI hH hc).2 i h0 h7,h.val]
theorem Wul(h:OA (λi=>s.1.1.getD i.toNat 0) s n w)(hn:n<=1000000)(hc:Vals 8 s.1.1)(hk:k<w.roots.length):LK s.1.1 w.hist w.roots[k]:=by
 have hg:=h.hg hn;have dn:=h.ro k hk;have hx:=h.ok.root k hk;have jI:POk (s.2.1.getD k pg0):=h.ok.progs _ (by rw[Wh (show k<s.2.1.length by rw[←h.ok.len];exact hk)];exact Xo _);have bQ:=hx.phase;have kw:WcP w.roots[k].reads/\w.roots[k].reads.length<=300:=by
  by_cases hp:1<=w.roots[k].phase/\w.roots[k].phase<=4
  .exact Wlr (hx.live hp) jI.code
  .exact dn.rows (by omega)
 suffices hf:FZ w.roots[k].fam/\WhP (stA s.1.1 w.hist w.roots[k].fam.rv) w.roots[k].fam from⟨kw,λr hr=>WvJ hg hc (kw.1 r hr).1.1 (kw.1 r hr).1.2 (dn.rd r hr),hf.1,hf.2⟩
 by_cases h2:w.roots[k].phase=2
 .obtain⟨f1,⟨rows,f2⟩,f3⟩:=dn.fam h2;obtain⟨_,_,hF⟩:=(hx.live (by omega)).fork h2;refine⟨FZ.of f3.fp.ft hF jI.k3 (λc hc=>(jI.kids c hc).len) f2,?_⟩;rw[f1];exact WpY f3.fp.ft (FZ.of f3.fp.ft hF jI.k3 (λc hc=>(jI.kids c hc).len) f2) (WhI hg hc).1 λc v c0 c7 hM=>WvJ hg hc c0 c7 hM
 .rw[dn.fam0 h2];refine⟨⟨⟨(λr hr=>by cases hr),Xbr _⟩,Xbr _,(λr hr=>by cases hr),(λr hr=>by cases hr),Xbr _,(λr hr=>by cases hr)⟩,λr hr=>by cases hr⟩
section
variable{R:Type}{s1:Sc}{K0:Option R}{K1:Int->Bool->Option R}{A:List Int}
theorem Wsi(hk:k<w.roots.length):List.getD (w.roots.map Rt.e) (Int.toNat (k:Int)) d_Root=Rt.e w.roots[k]:=by
 rw[Xj,Wh (show k<(w.roots.map Rt.e).length by simpa using hk),Xcn]
theorem Wrt(hk:k<w.roots.length)(hA:Vals 8 A)(hr:WcP w.roots[k].reads/\w.roots[k].reads.length<=300)(hv:∀r∈w.roots[k].reads,A.getD r.1.toNat 0=r.2):∀(d j fuel:Nat),j+d=w.roots[k].reads.length->d<fuel->Zdt N (k:Int) s1 w.e A K0 K1 fuel (j:Int)=K1 (w.roots[k].reads.length:Int) false
 |0,j,fuel,hj,hf=>by
  obtain⟨g,rfl⟩:∃g,fuel=g+1:=⟨fuel-1,by omega⟩;have:j=w.roots[k].reads.length:=by omega
  subst this;have e5:P5 w.e=w.roots.map Rt.e:=rfl;have eI:P13 (Rt.e w.roots[k])=w.roots[k].reads:=rfl;simp only[Zdt,Wl,e5,Wsi hk,eI,WV (Xn _),cond_false]
 |d+1,j,fuel,hj,hf=>by
  obtain⟨g,rfl⟩:∃g,fuel=g+1:=⟨fuel-1,by omega⟩;have hlt:j<w.roots[k].reads.length:=by omega
  have e5:P5 w.e=w.roots.map Rt.e:=rfl;have eI:P13 (Rt.e w.roots[k])=w.roots[k].reads:=rfl;have wA:=hr.1 _ (Xo hlt);have eT:inb w.roots[k].reads[j].1 A.length=true:=by unfold inb;rw[hA.len];simp;omega
  have ih:=Wrt hk hA hr hv d (j+1) g (by omega) (by omega);simp only[Zdt,Wl,e5,Wsi hk,eI,WN hlt,Wg hlt,Wj hlt,cond_true,eT,Wf (show j<4611686018427387904 by omega)];rw[hv _ (Xo hlt),bne_self_eq_false,cond_false];exact ih
theorem WrR(aG:Int)(hk:k<w.roots.length)(hA:Vals 8 A)(hr:WcP w.roots[k].reads/\w.roots[k].reads.length<=300)(hv:∀r∈w.roots[k].reads,A.getD r.1.toNat 0=r.2):∀(d j fuel:Nat),j+d=w.roots[k].reads.length->d<fuel->Zdw N (w.roots.map Rt.e) aG (k:Int) w.roots[k].reads s1 w.e A K0 K1 fuel (j:Int)=K1 (w.roots[k].reads.length:Int) false
 |0,j,fuel,hj,hf=>by
  obtain⟨g,rfl⟩:∃g,fuel=g+1:=⟨fuel-1,by omega⟩;have:j=w.roots[k].reads.length:=by omega
  subst this;have eI:(Rt.e w.roots[k]).2.2.2.2.2.2.2.2.2.2.2.2.2.1=w.roots[k].reads:=rfl;simp only[Zdw,Wl,Wsi hk,eI,WV (Xn _),cond_false]
 |d+1,j,fuel,hj,hf=>by
  obtain⟨g,rfl⟩:∃g,fuel=g+1:=⟨fuel-1,by omega⟩;have hlt:j<w.roots[k].reads.length:=by omega
  have eI:(Rt.e w.roots[k]).2.2.2.2.2.2.2.2.2.2.2.2.2.1=w.roots[k].reads:=rfl;have wA:=hr.1 _ (Xo hlt);have eT:inb w.roots[k].reads[j].1 A.length=true:=by unfold inb;rw[hA.len];simp;omega
  have ih:=WrR aG hk hA hr hv d (j+1) g (by omega) (by omega);simp only[Zdw,Wl,Wsi hk,eI,WN hlt,Wg hlt,Wj hlt,cond_true,eT,Wf (show j<4611686018427387904 by omega)];rw[hv _ (Xo hlt),bne_self_eq_false,cond_false];exact ih
theorem WtI(hk:k<w.roots.length)(hA:Vals 8 A)(hr:WcP w.roots[k].reads/\w.roots[k].reads.length<=300)(hv:∀r∈w.roots[k].reads,A.getD r.1.toNat 0=r.2):∀(d j fuel:Nat),j+d=w.roots[k].reads.length->d<fuel->Zco N (k:Int) s1 w.e A K0 K1 fuel (j:Int)=K1 (w.roots[k].reads.length:Int) false
 |0,j,fuel,hj,hf=>by
  obtain⟨g,rfl⟩:∃g,fuel=g+1:=⟨fuel-1,by omega⟩;have:j=w.roots[k].reads.length:=by omega
  subst this;have e5:P5 w.e=w.roots.map Rt.e:=rfl;have eI:P13 (Rt.e w.roots[k])=w.roots[k].reads:=rfl;simp only[Zco,Wl,e5,Wsi hk,eI,WV (Xn _),cond_false]
 |d+1,j,fuel,hj,hf=>by
  obtain⟨g,rfl⟩:∃g,fuel=g+1:=⟨fuel-1,by omega⟩;have hlt:j<w.roots[k].reads.length:=by omega
  have e5:P5 w.e=w.roots.map Rt.e:=rfl;have eI:P13 (Rt.e w.roots[k])=w.roots[k].reads:=rfl;have wA:=hr.1 _ (Xo hlt);have eT:inb w.roots[k].reads[j].1 A.length=true:=by unfold inb;rw[hA.len];simp;omega
  have ih:=WtI hk hA hr hv d (j+1) g (by omega) (by omega);simp only[Zco,Wl,e5,Wsi hk,eI,WN hlt,Wg hlt,Wj hlt,cond_true,eT,Wf (show j<4611686018427387904 by omega),decide_eq_false (show¬w.roots[k].reads[j].1<0 by omega),decide_eq_false (show¬w.roots[k].reads[j].1>=Wb A by unfold Wb;rw[hA.len];omega),cond_false];rw[hv _ (Xo hlt),bne_self_eq_false,cond_false];exact ih
end
theorem Wll{code:List Int}(hN:1048576<N):Zfo N code=ret true:=by
 unfold Zfo Ztr;simp only[Xd];by_cases hb:code.length<=1048576
 .have e0:decide (Wb code>1048576)=false:=by simp[Wb];omega
  obtain⟨s,es,hs⟩:=Wlf hN hb;rw[e0,es];simp only[cond_false,ret,Xd];rw[Wsm hs hN,WiD hs hN];simp only[ret,Xd];by_cases aX:Wov s=true
  .rw[if_pos aX,aX];simp only[Xs,cond_false];have oY:=Wst aX;obtain⟨h1,h2,h3,h4⟩:=Wgh aX;obtain⟨w,hw⟩:∃w,Wu6 s=w:=⟨_,rfl⟩;rw[hw]at oY⊢;have hc:=h1.cells;have hg:=oY.hg (by omega);have nX:w.roots.length<=4:=by rw[oY.ok.len];exact oY.ok.l4
   have fv:=λk hk=>Wul (k:=k) oY (by omega) hc hk;have gi:(w.roots.map Rt.e).length=w.roots.length:=Xy ..;have e5:P5 w.e=w.roots.map Rt.e:=rfl;have e6:Q6 w.e=w.hist:=rfl;have wB:w.e.2.2.2.2.2.2=w.hist:=rfl;have wC:w.e.2.2.2.2.2.1=w.roots.map Rt.e:=rfl;have q4:∀x:Rt,x.e.2.2.2.2.1=x.rv:=λ_=>rfl;have wD:∀x:Rt,x.e.2.2.2.2.2.2.2.2.2.2.2.2.2.1=x.reads:=λ_=>rfl;have wE:∀x:Rt,x.fam.e.1=x.fam.rv:=λ_=>rfl;have rr:∀x:Rt,x.e.2.2.2.2.2.2.2.2.2.2.2.2.2.2.2.2.2.2.2.2.2=x.fam.e:=λ_=>rfl;have rt:Zhr N s w.e=ret true:=by
    unfold Zhr;rw[We8 (by have:=hs.cells;omega) (by have:=hs.map;omega) hN,WkB.2 h1,wB,Web hg hN];simp only[ret,Xd,Xs,cond_false];have l1:=Wq (l:=w.roots.map Rt.e) (V:=Unit) (R:=Unit×Ko) (lp:=λn j v=>Zdu N s w.e (some ((),(false,()))) (λvZ rS=>(some ((),(true,())))) n j) (n:=N) (by omega)
     (body:=λj x v k=>k v) (K:=λ_ v=>some ((),(true,())))
     (λn i v hi=>by
      have dy:i<w.roots.length:=by omega
      obtain⟨a1,a2,a3,a4⟩:=fv i dy;simp only[Zdu,Wl,e5,e6,WN hi,Wg hi,Wsi dy,cond_true,q4,wD,wE,rr,Wf (show i<4611686018427387904 by omega),WbE (show w.roots[i].reads.length<=1048576 by omega) hN,Wav a1.1 a1.2,ret,Xd,Xs,cond_false,WfK hg hc hN];rw[show(0:Int)=((0:Nat):Int)from rfl,Wrt dy (WhI hg hc).1 a1 a2 w.roots[i].reads.length 0 N (by omega) (by omega)];simp only[Wmv a3 (WhI hg hc).1 a4 hN,ret,Xd,Xs,cond_false])
     (λn v=>by simp only[Zdu,e5,WV (Xn _),cond_false]) ()
    refine l1.trans ?_;rw[Wa9 (f:=λv _=>v) _ 0 () (λj x v k _=>rfl)]
   have ru:Zht N s w.e=ret true:=by
    unfold Zht;rw[We3 (by have:=hs.cells;omega) (by have:=hs.map;omega) hN,WkB.2 h1,wB,wC,Wg1 hg hN];simp only[ret,Xd,Xs,cond_false];have l1:=Wq (l:=w.roots.map Rt.e) (V:=Unit) (R:=Unit×Ko) (lp:=λn j v=>Zdx N (w.roots.map Rt.e) s w.e (some ((),(false,()))) (λvZ rS=>(some ((),(true,())))) n j) (n:=N) (by omega)
     (body:=λj x v k=>k v) (K:=λ_ v=>some ((),(true,())))
     (λn i v hi=>by
      have dy:i<w.roots.length:=by omega
      obtain⟨a1,a2,a3,a4⟩:=fv i dy;simp only[Zdx,Wl,e5,e6,WN hi,Wg hi,Wsi dy,cond_true,q4,wD,wE,rr,Wf (show i<4611686018427387904 by omega),Wak (show w.roots[i].reads.length<=1048576 by omega) hN,Wav a1.1 a1.2,ret,Xd,Xs,cond_false,WjG hg hc hN];rw[show(0:Int)=((0:Nat):Int)from rfl,WrR _ dy (WhI hg hc).1 a1 a2 w.roots[i].reads.length 0 N (by omega) (by omega)];simp only[Wmy a3 (WhI hg hc).1 a4 hN,ret,Xd,Xs,cond_false])
     (λn v=>by simp only[Zdx,e5,WV (Xn _),cond_false]) ()
    refine l1.trans ?_;rw[Wa9 (f:=λv _=>v) _ 0 () (λj x v k _=>rfl)]
   have l1:=Wq (l:=w.roots.map Rt.e) (V:=Unit) (R:=Unit×Ko) (lp:=λn j v=>Zcp N s w.e (some ((),(false,()))) (λmx jb=>
  (bif (Wb w.e.2.2.2.2.2.1)==(Wb s.2.1)then
 ((Zhr N s w.e).bind λoF=>
 (bif oF.2.1 then
 ((Zht N s w.e).bind λjA=>
 (some ((),(jA.2.1,()))))
 else
 (some ((),(false,())))))
 else
 (some ((),(false,()))))) n j) (n:=N) (by omega)
    (body:=λj x v k=>k v) (K:=λ_ v=>some ((),(true,())))
    (λn i v hi=>by
     have dy:i<w.roots.length:=by omega
     obtain⟨a1,a2,a3,a4⟩:=fv i dy;simp only[Zcp,Wl,e5,e6,WN hi,Wg hi,Wsi dy,cond_true,q4,Wf (show i<4611686018427387904 by omega),WfK hg hc hN,ret,Xd];rw[show(0:Int)=((0:Nat):Int)from rfl,WtI dy (WhI hg hc).1 a1 a2 w.roots[i].reads.length 0 N (by omega) (by omega)])
    (λn v=>by
     simp only[Zcp,e5,WV (Xn _),cond_false];rw[show(Wb w.e.2.2.2.2.2.1==Wb s.2.1)=true by rw[wC];unfold Wb;rw[gi,oY.ok.len];simp,cond_true,rt];simp only[ret,Xd,cond_true,ru]) ()
   refine l1.trans ?_;rw[Wa9 (f:=λv _=>v) _ 0 () (λj x v k _=>rfl)]
  .rw[if_neg aX,show Wov s=false by simpa using aX];rfl
 .have e0:decide (Wb code>1048576)=true:=by simp[Wb];omega
  rw[e0];rfl
theorem law_FnOpaque(d:WeW [.v (.slice (.int .u8)) false])(hw:WnT [.v (.slice (.int .u8)) false] d):∃N o,Zfo N d.1=some (o,(true,())):=
 ⟨1048577,(),Wll (N:=1048577) (by omega)⟩
end
end
end Go.Sx
