/- Plain laws of the Lean functions. -/
import Derived.Test.YtnkbflecplbceaaGreatMW1
open Bool renaming and_eq_true→Xh,not_true→Xaa,and_self→Xbr,true_and→Xbp,false_eq_true→Xbm,and_eq_false_iff→Xck,not_false→Xdj
open List renaming getElem_mem→Xt,getD→Xd,map_append→Xp,mem_append→Xn,mem_singleton→Xac,pairwise_append→Xag,length→Xa,length_map→Xaf,mem_of_getElem?→Xav,take→Xar,getElem?_eq_getElem→Xs,foldl_cons→Xdd,length_cons→Xr,mem_cons_of_mem→Xe,mem_cons_self→Xi,drop_length→Xdk,set→Xl,drop_eq_getElem_cons→Xby,append_eq→Xah,append_nil→Xcw,filter_cons→Xbh,countP_le_length→Xdt,drop_zero→Xcc,map_set→Xft,set_getElem_self→Xbe,length_set→Xad,countP_set→Xgx,getElem_set→Xaq,mem_map→Xu,mem_filter→Xas,length_append→Xz,length_singleton→Xdr,length_nil→Xed,pairwise_map→Xej,getElem_replicate→Xbq,append_assoc→Xbs,singleton_append→Xen,append→Xf,set_set→Xdm,nil_append→Xcd,replicate→Xv,getD_eq_getElem?_getD→Xbc,all_eq_true→Xae,pairwise_iff_getElem→Xay,getElem_of_mem→Xat,mem_cons→Xo,drop→Xcz,filter_eq_self→Xgh
open Int renaming toNat→Xb,le_refl→Xw,toNat_natCast→Xj,tdiv_eq_ediv_of_nonneg→Xeb
open Nat renaming zero_add→Xbb,sub_zero→Xda,le_refl→Xm,lt_trichotomy→Xei
open Option renaming bind_some→Xc,getD_some→Xdy,isSome_some→Xfg
namespace Go.Sx
set_option linter.unusedVariables false
set_option linter.unusedSimpArgs false
section
theorem Wmi{p:Pb}:pbOk p=true↔(0≤p.1∧p.1≤7)∧(0≤p.2.1∧p.2.1≤4)∧(0≤p.2.2.1∧p.2.2.1≤1000000)∧0≤p.2.2.2∧p.2.2.2≤65535:=by
 unfold pbOk Waz Wds
 simp only[Xh,decide_eq_true_eq]
theorem Wit{c:Int}{w:Wd}:isWd c w=true↔(0≤w.1∧w.1≤65535)∧(0≤w.2.1∧w.2.1≤c)∧0≤w.2.2∧w.2.2≤99:=by
 unfold isWd Wds
 simp only[Xh,decide_eq_true_eq]
theorem mem_wd{m:Mm}(h:Waq m=true){c:Int}(hc:0≤c∧c≤7):isWd m.1 (getI m.2 c (0,0,0))=true:=by
 obtain⟨h8,h0,h1,hw⟩:=Wz h
 unfold getI
 rw[Wc (show c.toNat<m.2.length by omega)]
 exact hw _ (Xt _)
theorem pbStep_ok{m:Mm}{rv:Int}{p:Pb}(hm:Waq m=true)(hp:pbOk p=true):pbOk (Was m rv p)=true∧(Was m rv p).1=p.1:=by
 have hp':=Wmi.1 hp
 have hw:=mem_wd hm hp'.1
 rw[Wit]at hw
 obtain⟨h8,h0,h1,_⟩:=Wz hm
 unfold Was
 simp only[Wn,Wbv]
 have hw2:isWd m.1 (Xd m.2 (Xb p.1) (0,0,0))=true:=mem_wd hm hp'.1
 rw[Wit]at hw2
 refine⟨?_,?_⟩
 ·rw[Wmi]
  repeat' split
  all_goals(try simp only);omega
 ·repeat' split
  all_goals rfl
section
variable{code:List Opn}{pc pc' wl wl':Nat}{ms q:List KM}{y:KM}{c c' n n':Int}{x:Kd}{f:Fm}{m:Mm}{codes:List (List Opn)}{k:Nat}
theorem KMk.mono(h:KMk code pc ms wl)(hs:stk code pc'=stk code pc)(hw:wl≤wl'):KMk code pc' ms wl':=
 ⟨by rw[hs];exact h.pcs,λq hq=>by have:=h.each q hq;exact⟨this.1,this.2.1,this.2.2.1,by omega⟩,h.up⟩
theorem KMk.begin(h:KMk code pc ms wl)(hp:pc<code.length)(h8:code[pc].1=8){regs:List Int}(hr:Vals 4 regs)(hw:wl≤pc):KMk code (pc+1) (ms++ [((pc:Int),(wl:Int),regs)]) wl:=by
 refine⟨?_,?_,?_⟩
 ·rw[Wva hp h8,Xp,Xp,h.pcs];rfl
 ·intro q hq
  rcases Xn.1 hq with hq|hq
  ·exact h.each q hq
  ·rw[Xac]at hq;subst hq;exact⟨hr,by simp,by simpa using hw,by simp⟩
 ·refine Xag.2 ⟨h.up,List.pairwise_singleton _ _,λa ha b hb=>?_⟩
  rw[Xac]at hb;subst hb;exact(h.each a ha).2.2.2
theorem KMk.drop(h:KMk code pc ms wl)(hms:ms=q++ [y])(hs:stk code pc'=(stk code pc).dropLast)(hw:y.2.1≤wl'):KMk code pc' q wl':=by
 subst hms
 have h1:=h.pcs
 refine⟨?_,λa ha=>?_,(Xag.1 h.up).1⟩
 ·rw[hs,List.map_dropLast,←h1,Xp];simp
 ·have h2:=h.each a (List.mem_append_left _ ha)
  have h3:=(Xag.1 h.up).2.2 a ha y (by simp)
  exact⟨h2.1,h2.2.1,h2.2.2.1,by omega⟩
theorem KOk.wk(h:KOk code c n x)(hc:c≤c')(hn:n≤n'):KOk code c' n' x:=
 {h with since:=by have:=h.since;omega,tries:=by have:=h.tries;omega}
theorem again_ok(h:KOk code c n x)(hc:c=f.clock)(hf:Vals 4 f.regs)(h0:0≤f.clock):KOk code c (n+1) (f.again x) where
 pc:=⟨Xw _,by show(0:Int)≤_;omega⟩
 regs:=hf
 rows:=λr hr=>by cases hr
 wl:=Xw _
 sl:=Xw _
 since:=by show 0≤f.clock∧f.clock≤c;omega
 tries:=by have:=h.tries;show 0≤x.tries+1∧x.tries+1≤n+1;omega
 seen:=λe he=>by cases he
 marks:=λ_=>⟨by show([]:List KM).map _=(stk code 0).map _;rfl,(λq hq=>by cases hq),List.Pairwise.nil⟩
 pos:=⟨Xw _,Xw _⟩
 pb:=λh=>by cases h
 phase:=by show(0:Int)≤0∧(0:Int)≤3;omega
 out:=by show(0:Int)≤0∧(0:Int)≤2;omega
theorem KMk.len(hc:CC code)(h:KMk code pc ms wl)(hp:pc≤code.length):(ms.length:Int)=dep code pc:=by
 have:=congrArg Xa h.pcs
 simp only[Xaf]at this
 rw[this,Weg hc.up pc hp]
theorem KOk.on(hcc:CC code)(h:KOk code c n x)(h0:x.phase=0){i:Nat}(hi:i<code.length)(hpc:x.pc=i){regs:List Int}{seen:List En}{writes:List Rw}{marks:List KM}{busy:Bool}{pb:Pb}{pc':Nat}(hp:pc'≤code.length)(hlt:i<pc')(hr:Vals 4 regs)(hrow:Rows writes)(hwl:writes.length≤x.writes.length+1)(hsl:seen.length≤x.seen.length+1)
  (hs:∀e∈seen,(0≤e.1∧e.1≤7)∧(0≤e.2.1∧e.2.1≤65535)∧ -1≤e.2.2∧e.2.2≤x.since) (hse:x.seen.length≤seen.length) (hm:KMk code pc' marks writes.length) (hb:busy=true→pbOk pb=true):
  KOk code c n {x with regs:=regs,seen:=seen,writes:=writes,marks:=marks,busy:=busy,pb:=pb,pc:=(pc':Int)}:=
 {h with
  pc:=by show(0:Int)≤(pc':Int)∧(pc':Int)≤_;omega
  regs:=hr
  rows:=hrow
  wl:=by have:=h.wl;show(writes.length:Int)≤(pc':Int);omega
  sl:=by have:=h.sl;show(seen.length:Int)≤(pc':Int);omega
  seen:=hs
  marks:=λ_=>by show KMk code ((pc':Nat):Int).toNat marks writes.length;rw[Xj];exact hm
  pos:=by have:=h.pos;show 0≤x.pos∧x.pos≤(seen.length:Int);omega
  pb:=hb}
theorem kRead_ok(hcc:CC code)(hF:FOk codes n f)(h:KOk code f.clock n x)(h0:x.phase=0){i:Nat}(hi:i<code.length)(hpc:x.pc=i)(h5:code[i].1=5)(hm:Waq m=true):
  KOk code f.clock (n+1) (Wkd m f x code[i]).2∧((Wkd m f x code[i]).1=f∨(Wkd m f x code[i]).1={f with lost:=true}):=by
 have hok:=ok_5 (hcc.ok i hi).1 h5
 have hB:0≤code[i].2.2.1∧code[i].2.2.1≤7:=by have:=hok.2;unfold Waz at this;simpa using this
 have hM:=h.marks h0
 rw[hpc,Xj]at hM
 have hst:stk code (i+1)=stk code i:=Wpi hi (by omega) (by omega)
 have hpc1:x.pc+1=((i+1:Nat):Int):=by omega
 unfold Wkd
 cases hl:Wdr x.writes code[i].2.2.1 with
 |some v=>
  have hv:=h.rows _ (Wua hl).2
  refine⟨?_,.inl rfl⟩
  simp only[hpc1]
  exact(KOk.on hcc h h0 hi hpc (by omega) (by omega) (h.regs.set _ hv.2) h.rows (by omega) (by omega) h.seen (by omega) (hM.mono hst (by omega)) h.pb).wk (by omega) (by omega)
 |none=>
  simp only
  cases he:ent f.buf code[i].2.2.1 with
  |some r=>
   simp only
   have hr:=Whj he
   have hre:r.2∈f.buf:=by
    have:=hr.2.2.2
    exact Xav this
   have hr2:=hF.bufE _ hre
   split
   ·exact⟨again_ok h rfl hF.regs hF.clock.1,.inl rfl⟩
   ·refine⟨?_,.inl rfl⟩
    simp only[hpc1]
    refine(KOk.on hcc h h0 hi hpc (by omega) (by omega) (h.regs.set _ hr2.2.1) h.rows (by omega) (by simp) (λe hee=>?_) (by simp) (hM.mono hst (by omega)) h.pb).wk (by omega) (by omega)
    rcases Xn.1 hee with hee|hee
    ·exact h.seen e hee
    ·rw[Xac]at hee;subst hee;exact⟨hr2.1,hr2.2.1,by omega,by omega⟩
  |none=>
   simp only
   have hpb:pbOk (if x.busy=true then x.pb else(code[i].2.2.1,0,0,0))=true:=by
    split
    ·exact h.pb ‹_›
    ·rw[Wmi];simp only;omega
   have hps:=pbStep_ok (rv:=f.rv) hm hpb
   generalize Was m f.rv (if x.busy=true then x.pb else(code[i].2.2.1,0,0,0))=p at*
   have hp:=Wmi.1 hps.1
   split
   ·refine⟨?_,.inr rfl⟩
    exact KOk.wk (n:=n) {h with pb:=λ_=>hps.1} (by omega) (by omega)
   ·split
    ·refine⟨?_,.inl rfl⟩
     simp only[hpc1]
     refine(KOk.on hcc h h0 hi hpc (by omega) (by omega) (h.regs.set _ hp.2.2.2) h.rows (by omega) (by simp) (λe hee=>?_) (by simp) (hM.mono hst (by omega)) (λh=>by cases h)).wk (by omega) (by omega)
     rcases Xn.1 hee with hee|hee
     ·exact h.seen e hee
     ·rw[Xac]at hee;subst hee;exact⟨hB,hp.2.2.2,by simp,by have:=h.since;simp only;omega⟩
    ·refine⟨?_,.inl rfl⟩
     exact KOk.wk (n:=n) {h with pb:=λ_=>hps.1} (by omega) (by omega)
theorem kRun_ok(hkc:KC code)(hF:FOk codes n f)(h:KOk code f.clock n x)(h0:x.phase=0)(hm:Waq m=true):
  KOk code f.clock (n+1) (kRun m f x code).2∧((kRun m f x code).1=f∨(kRun m f x code).1={f with lost:=true}):=by
 have hcc:=hkc.toCC
 unfold kRun
 split
 ·refine⟨?_,.inl rfl⟩
  exact KOk.wk (n:=n) {h with marks:=λh=>by(change (1:Int)=0 at h;omega),phase:=by(show(0:Int)≤1∧(1:Int)≤3;omega),out:=by(show(0:Int)≤1∧(1:Int)≤2;omega)} (by omega) (by omega)
 ·obtain⟨i,hi,hpc,ho⟩:=Wml (l:=code) h.pc.1 (by have:=h.pc;omega)
  simp only[ho]
  obtain⟨ok,o1,o16⟩:=hkc.ok i hi
  have o10:=hkc.k10 i hi
  have hM:=h.marks h0
  rw[hpc,Xj]at hM
  have hpc1:x.pc+1=((i+1:Nat):Int):=by omega
  have hwl:x.writes.length≤i:=by have:=h.wl;omega
  split
  ·exact kRead_ok hcc hF h h0 hi hpc ‹_› hm
  ·split
   ·refine⟨?_,.inl rfl⟩
    unfold Wsx
    split
    ·refine KOk.wk (n:=n) {h with rows:=(λr hr=>by cases hr),wl:=by(have:=h.pc;show(0:Int)≤x.pc;omega),marks:=λh=>by(change (1:Int)=0 at h;omega),phase:=by(show(0:Int)≤1∧(1:Int)≤3;omega),out:=by(show(0:Int)≤2∧(2:Int)≤2;omega)} (by omega) (by omega)
    ·obtain⟨j,q,y,e1,e2,e3,⟨hj,h8⟩,hjp,hmate,hpe,e5,e6⟩:=Wrp (d:=((0,0,[]):KM)) hcc (show i≤code.length by omega) hM.pcs ‹_›
     obtain⟨y1,y2,y3,y4⟩:=hM.each y (by rw[e1];simp)
     simp only[e2,e3,Xj,←Int.natCast_succ]
     have hl:=hmate.len
     have ht:(Xar y.2.1.toNat x.writes).length=y.2.1.toNat:=by rw[List.length_take];omega
     refine(KOk.on hcc h h0 hi hpc (pc':=Wsn code j+1) (by omega) (by omega) (y1.set _ (by omega)) (λr hr=>h.rows r (List.mem_of_mem_take hr)) (by omega) (by omega) h.seen (by omega) ?_ h.pb).wk (by omega) (by omega)
     rw[show x.marks.dropLast=q by rw[e1];simp]
     exact hM.drop e1 (by rw[hmate.st];exact e5) (by rw[ht];omega)
   ·split
    ·refine⟨?_,.inl rfl⟩
     have hk:=ok_6 ok ‹_›
     have hst:stk code (i+1)=stk code i:=Wpi hi (by omega) (by omega)
     simp only[hpc1]
     refine(KOk.on hcc h h0 hi hpc (by omega) (by omega) h.regs (λr hr=>?_) (by simp) (by omega) h.seen (by omega) (hM.mono hst (by simp)) h.pb).wk (by omega) (by omega)
     rcases Xn.1 hr with hr|hr
     ·exact h.rows r hr
     ·rw[Xac]at hr;subst hr
      have:=hk.1;unfold Waz at this
      exact⟨by simpa using this,h.regs.get _⟩
    ·split
     ·refine⟨?_,.inl rfl⟩
      obtain⟨s1,s2⟩:=hkc.sk i hi ‹_›
      have hk:=ok_7 ok ‹_›
      have hst:stk code (i+1)=stk code i:=Wpi hi (by omega) (by omega)
      have hst2:stk code (i+1+code[i].2.2.1.toNat)=stk code i:=by rw[←hst];exact stk_part (by omega) s1 s2
      by_cases hg:getI x.regs code[i].2.1 0=0
      ·simp only[if_pos hg,show x.pc+code[i].2.2.1+1=((i+1+code[i].2.2.1.toNat:Nat):Int) by omega]
       exact(KOk.on hcc h h0 hi hpc s1 (by omega) h.regs h.rows (by omega) (by omega) h.seen (by omega) (hM.mono hst2 (by omega)) h.pb).wk (by omega) (by omega)
      ·simp only[if_neg hg,hpc1]
       exact(KOk.on hcc h h0 hi hpc (by omega) (by omega) h.regs h.rows (by omega) (by omega) h.seen (by omega) (hM.mono hst (by omega)) h.pb).wk (by omega) (by omega)
     ·split
      ·refine⟨?_,.inl rfl⟩
       simp only[hpc1]
       rw[hpc]
       exact(KOk.on hcc h h0 hi hpc (by omega) (by omega) h.regs h.rows (by omega) (by omega) h.seen (by omega) (hM.begin hi ‹_› h.regs hwl) h.pb).wk (by omega) (by omega)
      ·split
       ·refine⟨?_,.inl rfl⟩
        have hz:x.marks.length≠0:=by
         have h1:=hM.len hcc (by omega)
         have h3:=hcc.up i hi
         rw[Wbz hi,Wzk ‹_›]at h3
         omega
        obtain⟨j,q,y,e1,e2,e3,⟨hj,h8⟩,hjp,hmate,hpe,e5,e6⟩:=Wrp (d:=((0,0,[]):KM)) hcc (show i≤code.length by omega) hM.pcs hz
        obtain⟨y1,y2,y3,y4⟩:=hM.each y (by rw[e1];simp)
        simp only[hpc1]
        refine(KOk.on hcc h h0 hi hpc (by omega) (by omega) (h.regs.set _ (by omega)) h.rows (by omega) (by omega) h.seen (by omega) ?_ h.pb).wk (by omega) (by omega)
        rw[show x.marks.dropLast=q by rw[e1];simp]
        exact hM.drop e1 (Wxy hi ‹_›) (by omega)
       ·refine⟨?_,.inl rfl⟩
        have hst:stk code (i+1)=stk code i:=Wpi hi (by omega) (by omega)
        simp only[hpc1]
        exact(KOk.on hcc h h0 hi hpc (by omega) (by omega) (Wzb ok (by omega) (by omega) h.regs) h.rows (by omega) (by omega) h.seen (by omega) (hM.mono hst (by omega)) h.pb).wk (by omega) (by omega)
end
end
section
def Wnf(c:Int)(v:List En)(r:Rw):List En:=match ent v r.1 with
 |some a=>v.set a.1 (r.1,r.2,c)
 |none=>v++ [(r.1,r.2,c)]
theorem stepL_len(c:Int)(v:List En)(r:Rw):(Wnf c v r).length≤v.length+1:=by
 unfold Wnf
 split<;>simp
theorem apE{a b:En}:Ap cfE a b↔a.1≠b.1:=by unfold Ap cfE;omega
theorem stepL_inv{c:Int}{L M:List En}{r:Rw}(hL:L.Pairwise (Ap cfE))(hM:Ris cfE M)(hm:∀x,x∈L↔x∈M):
  (Wnf c L r).Pairwise (Ap cfE)∧Ris cfE (Wnt cfE M (r.1,r.2,c))∧∀x,x∈Wnf c L r↔x∈Wnt cfE M (r.1,r.2,c):=by
 have key:(Wnf c L r).Pairwise (Ap cfE)∧∀x,x∈Wnf c L r↔x=(r.1,r.2,c)∨(x∈L∧Ap cfE x (r.1,r.2,c)):=by
  unfold Wnf ent
  cases he:fnd (λe:En=>e.1==r.1) L 0 with
  |some a=>
   obtain⟨h1,h2,h3,h4⟩:=Whj he
   simp only[Xbb,Xda]at h3 h4
   have h5:L[a.1]=a.2:=by rw[Xs h3]at h4;injection h4
   exact apart_set linE hL h3 (by rw[apE,h5];simpa using h1)
  |none=>
   have:=Wsa he
   exact Wxg hL λx hx=>by rw[apE];simpa using this x hx
 refine⟨key.1,Whf linE hM,λx=>?_⟩
 rw[key.2 x,Wes linE hM,hm]
theorem mrg_inv{c:Int}:∀{rows:List Rw} {L M:List En},L.Pairwise (Ap cfE)→Ris cfE M→(∀x,x∈L↔x∈M)→
  (rows.foldl (Wnf c) L).Pairwise (Ap cfE)∧Ris cfE (Wjh c M rows)∧∀x,x∈rows.foldl (Wnf c) L↔x∈Wjh c M rows
 | [],_,_,hL,hM,hm=>⟨hL,hM,hm⟩
 |r::rows,L,M,hL,hM,hm=>by
  obtain⟨a,b,d⟩:=stepL_inv (c:=c) (r:=r) hL hM hm
  exact mrg_inv (rows:=rows) a b d
theorem foldL_len{c:Int}:∀(rows:List Rw) (L:List En),(rows.foldl (Wnf c) L).length≤L.length+rows.length
 | [],L=>by simp
 |r::rows,L=>by
  have:=foldL_len (c:=c) rows (Wnf c L r)
  have:=stepL_len c L r
  rw[Xdd,Xr];omega
theorem Wla{c:Int}{P:En→Prop}:∀{rows:List Rw} {M:List En},Ris cfE M→(∀x∈M,P x)→(∀r∈rows,P (r.1,r.2,c))→∀x∈Wjh c M rows,P x
 | [],_,_,h,_=>h
 |r::rows,M,hM,h,hr=>by
  refine Wla (rows:=rows) (Whf linE hM) (λx hx=>?_) λr' h'=>hr r' (Xe _ h')
  rcases(Wes linE hM).1 hx with rfl|h'
  ·exact hr r (Xi ..)
  ·exact h x h'.1
theorem mrg0_run{R:Type}{N:Nat}{k4:Int}{b7 b8 b9:Int}{b10:Bool}{b11 b12 b13 b14 b15 b16:Int}{b17:Bool}{b18 b19 b20 b21:Int}{l22:List (Int×Int)}{l23:List Int}{l24:List (Int×Int)}{l26:List Int}{l27:List (Int×Int)}{l28:List Y_KidRun}{i29:Nat}{l30:List Int}{l31:List (Int×Int×Int)}{l32:List (Int×Int)}{l33:List (Int×Int×List Int)}{K0:Int→Bool→(List (Int×Int×Int))→Option R}(hN:1048576<N)(h22:l22.length≤8):
  ∀(d j n:Nat) (v:List En),j+d=l22.length→d<n→v.length≤100+j→
  Za7 N k4 (ilen l22) b7 b8 b9 b10 b11 b12 b13 b14 b15 b16 b17 b18 b19 b20 b21 l22 l23 l24 l26 l27 l28 i29 l30 l31 l32 l33 K0 n (j:Int) v=K0 (l22.length:Int) false ((l22.drop j).foldl (Wnf b8) v)
 |0,j,n+1,v,hj,hn,hv=>by
  have:j=l22.length:=by omega
  subst this
  simp only[Za7,Wbl (Xm l22.length),cond_false,Xdk,List.foldl_nil]
 |d+1,j,n+1,v,hj,hn,hv=>by
  have hlt:j<l22.length:=by omega
  have hent:=Wne (N:=N) (f:=(b7,(b8,(b9,(b10,(l23,(l24,(v,(l26,(l27,Xl l28 i29 (b11,(b12,(b13,(b14,(b15,(b16,(l30,(l31,(l32,(l33,(b17,(b18,(b19,(b20,b21)))))))))))))))))))))))) (c:=l22[j].1) (by show v.length≤1048576;omega) hN
  have hs:=stepL_len b8 v l22[j]
  have hrec:∀v',v'=Wnf b8 v l22[j]→Za7 N k4 (ilen l22) b7 b8 b9 b10 b11 b12 b13 b14 b15 b16 b17 b18 b19 b20 b21 l22 l23 l24 l26 l27 l28 i29 l30 l31 l32 l33 K0 n ((j+1:Nat):Int) v'=K0 (l22.length:Int) false ((l22.drop j).foldl (Wnf b8) v):=λv' hv'=>by
   subst hv'
   rw[mrg0_run hN h22 d (j+1) n _ (by omega) (by omega) (by omega),Xby hlt,Xdd]
  simp only[Za7,Wq,Wbb hlt,Wk hlt,Wm hlt,We (show j<4611686018427387904 by omega),cond_true,hent,ret,Xc]
  have hd:ent v l22[j].1=ent v l22[j].1:=rfl
  unfold Wnf at hrec
  cases he:ent v l22[j].1 with
  |some a=>
   rw[he]at hrec
   obtain⟨h1,h2,h3,h4⟩:=Whj he
   rw[Xbb]at h3
   simp only[decide_eq_true (show((a.1:Int)≥0) by omega),cond_true]
   rw[Way,decide_eq_true h3]
   simp only[cond_true,Xj]
   exact hrec _ rfl
  |none=>
   rw[he]at hrec
   simp only[show decide ((-1:Int)≥0)=false from rfl,cond_false]
   rw[Ww (by simp;omega)]
   simp only[cond_true,Xah]
   exact hrec _ rfl
 |_,_,0,_,_,h,_=>by omega
theorem Wyk{R:Type}{N:Nat}{k43 b46 b47 b48:Int}{b49:Bool}{b50 b51 b52 b53 b54 b55:Int}{b56:Bool}{b57 b58 b59 b60:Int}{l61:List (Int×Int×Int)}{l62:List Int}{l63:List (Int×Int)}{l64:List (Int×Int×Int)}{l65:List Int}{l67:List Y_KidRun}{i68:Nat}{l69:List Int}{l70:List (Int×Int)}{l71:List (Int×Int×List Int)}{K0:Int→Bool→(List (Int×Int))→Option R}(h61:l61.length≤1000):
  ∀(d j n:Nat) (v:List Rw),j+d=l61.length→d<n→v.length≤1000+j→
  Zbh N k43 (ilen l61) b46 b47 b48 b49 b50 b51 b52 b53 b54 b55 b56 b57 b58 b59 b60 l61 l62 l63 l64 l65 l67 i68 l69 l70 l71 K0 n (j:Int) v=K0 (l61.length:Int) false (v++Wdi (l61.drop j))
 |0,j,n+1,v,hj,hn,hv=>by
  have:j=l61.length:=by omega
  subst this
  simp only[Zbh,Wbl (Xm l61.length),cond_false,Xdk,Wdi,List.filter_nil,List.map_nil,Xcw]
 |d+1,j,n+1,v,hj,hn,hv=>by
  have hlt:j<l61.length:=by omega
  have he:Wdi (l61.drop j)=if l61[j].2.2= -1 then(l61[j].1,l61[j].2.1)::Wdi (l61.drop (j+1))else Wdi (l61.drop (j+1)):=by
   rw[Xby hlt]
   unfold Wdi
   rw[Xbh]
   by_cases h:l61[j].2.2= -1
   ·rw[if_pos h,if_pos (decide_eq_true h)];rfl
   ·rw[if_neg h,if_neg (by simpa using h)]
  simp only[Zbh,Wq,Wbb hlt,Wk hlt,Wm hlt,We (show j<4611686018427387904 by omega),cond_true,Wn]
  rw[he]
  by_cases h:l61[j].2.2= -1
  ·rw[if_pos h,if_pos h,Ww (by simp;omega)]
   simp only[cond_true]
   rw[Wyk h61 d (j+1) n _ (by omega) (by omega) (by simp;omega)]
   simp
  ·rw[if_neg h,if_neg h]
   rw[Wyk h61 d (j+1) n _ (by omega) (by omega) (by omega)]
 |_,_,0,_,_,h,_=>by omega
variable{N:Nat}{codes:List (List Opn)}{n:Int}{f:Fm}{k:Nat}{code:List Opn}{m:Mm}{x:Kd}
theorem ris_ap{l:List En}(h:Ris cfE l):l.Pairwise (Ap cfE):=h.imp λh=>.inl h
theorem implMerge_run(hk:k<f.kids.length)(h3:f.kids.length≤3)(hl24:code.length≤24)(hF:FOk codes n f)(hcode:codes.getD k []=code)(hxe:f.kids[k]=x)(hN:1048576<N):
  Zdr N f.e (k:Int)=some (((Fm.put (Whr f x k) k).e,()),()):=by
 have hx:=hF.kid k hk
 rw[hcode,hxe]at hx
 obtain⟨f0,f1,f2,f3,f4,f5,f6,f7,f8,f9⟩:=fmP f
 have hpc:=hx.pc
 have hwl:=hx.wl
 have hsl:=hx.sl
 have hb8:=hF.buf8
 have hord:f.order.length≤3:=by
  have h1:=hF.done
  have:=Xdt (p:=λx:Kd=>decide (x.phase=3)) (l:=f.kids)
  omega
 have hrd:=hF.readsL
 have e2:Xd (f.kids.map Kd.e) (Xb (k:Int)) d_KidRun=x.e:=by
  have:=Woy Kd.e f.kids k {}
  rw[Wc hk,hxe]at this
  exact this
 unfold Zdr
 simp only[f9,Xaf]
 rw[Way,decide_eq_true hk]
 simp only[cond_true,e2]
 have en:Zgr N x.e.2.2.2.2.2.2.2.2.1=ret (netR x.writes):=Wjm (show x.writes.length≤1048576 by omega) hN
 rw[en]
 simp only[ret,Xc]
 have hnl:=Wpa x.writes
 rw[show(0:Int)=((0:Nat):Int)from rfl]
 rw[mrg0_run (l22:=netR x.writes) hN hnl (netR x.writes).length 0 N _ (by omega) (by omega) (by show f.buf.length≤_;omega)]
 simp only[Xcc]
 have hP6:P6 f.e=f.buf:=rfl
 have hcl:iadd .i64 f.e.2.1 1=f.clock+1:=Wgr (by have:=hF.clock;show 0≤f.clock∧_;omega)
 rw[hP6,hcl]
 obtain⟨i1,i2,i3⟩:=mrg_inv (c:=f.clock+1) (rows:=netR x.writes) (ris_ap hF.bufR) hF.bufR (λx=>Iff.rfl)
 unfold Zas
 have hfl:=foldL_len (c:=f.clock+1) (netR x.writes) f.buf
 rw[sort_run (rng:=rngE) (N:=N) linE i2 i1 i3 (λe he=>?_) (by omega)]
 ·simp only[Xc]
  have hP7:P7 x.e=x.seen:=rfl
  rw[show(Kd.e x).2.2.2.2.2.2.2.1=x.seen from rfl]
  rw[Wyk (l61:=x.seen) (by omega) x.seen.length 0 N _ (by omega) (by omega) (by show f.reads.length≤_;omega)]
  rw[Ww (by show f.order.length+1≤_;omega)]
  simp only[cond_true,Xcc]
  have hU:∀(g:Fm) (y:Kd),U6 (Xl (f.kids.map Kd.e) k y.e) (S5 (f.reads++Wdi x.seen) (S4 (f.order++ [(k:Int)]) (S3 (Wjh (f.clock+1) f.buf (netR x.writes)) f.e.2.2.2)))=(f.lost,f.regs,f.start,Wjh (f.clock+1) f.buf (netR x.writes),f.order++ [(k:Int)],f.reads++Wdi x.seen,(f.kids.set k y).map Kd.e):=λg y=>by
   rw[Xft];rfl
  rw[Xj]
  exact congrArg (λz=>some (((f.rv,(f.clock+1,((0:Int),z))),()),())) (hU f {x with phase:=3,pos:=0,marks:=[]})
 ·have h1:=(i3 e).1 he
  have:=Wla (P:=λe=>0≤e.1∧e.1≤7) hF.bufR (λe he=>(hF.bufE e he).1) (λr hr=>(mem_netR.1 hr).1) e h1
  unfold rngE rngI
  simp;omega
theorem implRest_run(hk:k<f.kids.length)(hF:FOk codes n f)(hx:KOk code f.clock n x)(hxe:f.kids[k]=x)(hn:n≤100000)(o:Int):
  Zbs N (Fm.e {f with owner:=o}) (k:Int)=some (((Fm.put ({f with owner:=o},f.again x) k).e,()),()):=by
 have h:=Wkt (N:=N) (f:=Fm.e {f with owner:=o}) (k:=k) (x:=x.e) (by show k<(f.kids.map Kd.e).length;simpa using hk) hF.regs.len (by have:=hx.tries;show 0≤x.tries∧x.tries≤100000;omega)
 have e3:U9 (Xl (Q9 (Fm.e {f with owner:=o})) k x.e) (Fm.e {f with owner:=o})=Fm.e {f with owner:=o}:=by
  have:=U9e {f with owner:=o} k x
  rw[←hxe]at this
  simp only[Xbe]at this
  rw[←hxe]
  exact this
 rw[e3]at h
 rw[h]
 exact congrArg (λz=>some ((z,()),())) (U9e {f with owner:=o} k (f.again x))
theorem implFStep_run(hk:k<f.kids.length)(h3:f.kids.length≤3)(hm:Waq m=true)(hkc:KC code)(hF:FOk codes n f)(hcode:codes.getD k []=code)(hn:n≤100000)(hN:1048576<N):
  Zis N f.e (k:Int) code m=some (((Wgo m f k code).e,()),()):=by
 obtain⟨x,hxe⟩:∃x,f.kids[k]=x:=⟨_,rfl⟩
 have hx:=hF.kid k hk
 rw[hcode,hxe]at hx
 obtain⟨f0,f1,f2,f3,f4,f5,f6,f7,f8,f9⟩:=fmP f
 obtain⟨k0,k1,k2,k3,k4,k5,k6,k7,k8,k9,k10⟩:=kdP x
 have hsl:=hx.sl
 have hpc:=hx.pc
 have hl24:=hkc.len
 have e2:Xd (f.kids.map Kd.e) (Xb (k:Int)) d_KidRun=x.e:=by
  have:=Woy Kd.e f.kids k {}
  rw[Wc hk,hxe]at this
  exact this
 have e3:U9 (Xl (f.kids.map Kd.e) (Xb (k:Int)) x.e) f.e=f.e:=by
  rw[Xj,U9e,←hxe,Xbe]
 have e4:Fm.put (f,x) k=f:=by unfold Fm.put;simp only;rw[←hxe,Xbe]
 unfold Zis Wgo Wke
 simp only[Wq,f9,f3,Xaf]
 rw[Wsb]
 by_cases hlost:f.lost=true
 ·rw[if_pos hlost,if_pos hlost]
 rw[if_neg hlost,if_neg hlost]
 rw[Way,decide_eq_true hk]
 simp only[cond_true,cond_false,e2,e3,k0,k4,k7,f2,Wn,Wc hk,hxe]
 by_cases h0:x.phase=0
 ·rw[if_pos h0,if_pos h0,implRun_run hk hm hkc hF hcode hxe h0 hn hN]
  rfl
 ·rw[if_neg h0,if_neg h0]
  by_cases h1:x.phase=1
  ·rw[if_pos h1,if_pos h1]
   by_cases ho:f.owner=0
   ·rw[if_pos ho,if_pos ho,Wgr (by omega),Xj]
    exact fin9 rfl rfl rfl
   ·rw[if_neg ho,if_neg ho,e4]
  ·rw[if_neg h1,if_neg h1]
   by_cases h2:x.phase=2
   ·rw[if_pos h2,if_pos h2]
    unfold ilen
    by_cases hp:x.pos=(x.seen.length:Int)
    ·rw[if_pos hp,if_pos hp,implMerge_run hk h3 hl24 hF hcode hxe hN]
     rfl
    ·rw[if_neg hp,if_neg hp]
     have hpos:=hx.pos
     have hin:inb x.pos x.seen.length=true:=by unfold inb;simp;omega
     rw[hin]
     have hg:Xd x.seen (Xb x.pos) ((0,0,0):En)=getI x.seen x.pos (0,0,0):=rfl
     simp only[cond_true,hg]
     have hent:=Wne (N:=N) (f:=f.e) (c:=(getI x.seen x.pos (0,0,0)).1) (by show f.buf.length≤1048576;have:=hF.buf8;omega) hN
     rw[show f.e.2.2.2.2.2.2.1=f.buf from rfl]at hent
     rw[hent]
     simp only[ret,Xc,f6]
     have hsz:S2 (0:Int) f.e=Fm.e {f with owner:=0}:=rfl
     have hrest:Zbs N (U9 (Xl (f.kids.map Kd.e) (Xb (k:Int)) x.e) (S2 0 f.e)) (k:Int)=some (((Fm.put ({f with owner:=0},f.again x) k).e,()),()):=by
      rw[hsz]
      have h:=U9e {f with owner:=0} k x
      rw[Xj]
      rw[show(U9 (Xl (f.kids.map Kd.e) k x.e) (Fm.e {f with owner:=0}))=Fm.e {f with owner:=0} by
       rw[h,←hxe];simp only[Xbe]]
      exact implRest_run hk hF hx hxe hn 0
     unfold entV
     have hiadd:iadd .i64 x.pos 1=x.pos+1:=Wgr (by omega)
     rw[hiadd]
     cases he:ent f.buf (getI x.seen x.pos (0,0,0)).1 with
     |some a=>
      obtain⟨g1,g2,g3,g4⟩:=Whj he
      rw[Xbb]at g3
      rw[Xda,Xs g3]at g4
      injection g4 with g4
      simp only[decide_eq_true (show((a.1:Int)≥0) by omega),cond_true]
      rw[Way,decide_eq_true g3]
      simp only[cond_true,Wm g3,g4]
      by_cases hv:a.2.2.2=(getI x.seen x.pos (0,0,0)).2.2
      ·rw[if_pos hv,if_pos hv,Xj]
       exact fin9 rfl rfl rfl
      ·rw[if_neg hv,if_neg hv,hrest]
       rfl
     |none=>
      simp only[show decide ((-1:Int)≥0)=false from rfl,cond_false]
      by_cases hv:(-1:Int)=(getI x.seen x.pos (0,0,0)).2.2
      ·rw[if_pos hv,if_pos hv,Xj]
       exact fin9 rfl rfl rfl
      ·rw[if_neg hv,if_neg hv,hrest]
       rfl
   ·rw[if_neg h2,if_neg h2,e4]
end
section
section
variable{codes:List (List Opn)}{n:Int}{f f':Fm}{k:Nat}{code:List Opn}{m:Mm}{x y:Kd}
theorem FOk.len3(h:FOk codes n f)(h3:codes.length≤3):f.order.length≤3:=by
 have h1:=h.done
 have:=Xdt (p:=λx:Kd=>decide (x.phase=3)) (l:=f.kids)
 have:=h.len
 omega
theorem FOk.put1(h:FOk codes n f)(hk:k<f.kids.length)(hcode:codes.getD k []=code){o:Int}{l:Bool}(ho:0≤o∧o≤f.kids.length)(hy:KOk code f.clock (n+1) y)(hp:f.kids[k].phase≠3)(hyp:y.phase≠3):
  FOk codes (n+1) (Fm.put ({f with owner:=o,lost:=l},y) k) where
 len:=by show(f.kids.set k y).length=_;rw[Xad];exact h.len
 regs:=h.regs
 clock:=h.clock
 done:=by
  show f.order.length=(f.kids.set k y).countP _
  rw[Xgx hk,if_neg (by simpa using hp),if_neg (by simpa using hyp)]
  exact h.done
 bufR:=h.bufR
 bufE:=h.bufE
 readsL:=h.readsL
 readsE:=h.readsE
 owner:=by show 0≤o∧o≤((f.kids.set k y).length:Int);rw[Xad];exact ho
 kid:=λi hi=>by
  change i<(f.kids.set k y).length at hi
  rw[Xad]at hi
  show KOk (codes.getD i []) f.clock (n+1) (f.kids.set k y)[i]
  rw[Xaq]
  by_cases he:k=i
  ·subst he;rw[if_pos rfl,hcode];exact hy
  ·rw[if_neg he];exact(h.kid i hi).wk (by omega) (by omega)
theorem FOk.wk(h:FOk codes n f){n':Int}(hn:n≤n'):FOk codes n' f:=
 {h with kid:=λk hk=>(h.kid k hk).wk (by omega) hn}
theorem Wzh(h:∀e∈x.seen,(0≤e.1∧e.1≤7)∧(0≤e.2.1∧e.2.1≤65535)∧ -1≤e.2.2∧e.2.2≤x.since):Rows (Wdi x.seen):=by
 intro r hr
 unfold Wdi at hr
 obtain⟨e,he,rfl⟩:=Xu.1 hr
 have:=h e (Xas.1 he).1
 exact⟨this.1,this.2.1⟩
theorem seenRows_len(l:List En):(Wdi l).length≤l.length:=by
 unfold Wdi;rw[Xaf];exact List.length_filter_le _ _
theorem Wqz{c:Int}:∀{rows:List Rw} {M:List En},Ris cfE M→Ris cfE (Wjh c M rows)
 | [],_,h=>h
 |r::rows,M,h=>Wqz (rows:=rows) (Whf linE h)
theorem kMerge_ok(hF:FOk codes n f)(hk:k<f.kids.length)(hkc:code.length≤24)(hcode:codes.getD k []=code)(hxe:f.kids[k]=x)(h2:x.phase=2):
  FOk codes (n+1) (Fm.put (Whr f x k) k):=by
 have hx:=hF.kid k hk
 rw[hcode,hxe]at hx
 have hc:=hF.clock
 unfold Whr Fm.put
 refine{len:=?_,regs:=hF.regs,clock:=?_,done:=?_,bufR:=Wqz hF.bufR,bufE:=?_,readsL:=?_,readsE:=?_,owner:=?_,kid:=?_}
 ·simp only[Xad];exact hF.len
 ·simp only[Xz,Xdr];omega
 ·simp only[Xz,Xdr]
  rw[Xgx hk,hxe,if_neg (by simp[h2]),if_pos (by simp),←hF.done];rfl
 ·simp only
  refine Wla hF.bufR (λe he=>?_) λr hr=>?_
  ·have:=hF.bufE e he;exact⟨this.1,this.2.1,this.2.2.1,by omega⟩
  ·have:=Wof r hr;exact⟨this.1,this.2,by simp only;omega,by simp only;omega⟩
 ·have h1:=hF.readsL
  have h2:=seenRows_len x.seen
  have h3:=hx.sl
  have h4:=hx.pc
  simp only[Xz,Xdr];omega
 ·intro r hr
  rcases Xn.1 hr with hr|hr
  ·exact hF.readsE r hr
  ·exact Wzh hx.seen r hr
 ·simp only[Xad];omega
 ·intro i hi
  simp only[Xad]at hi
  simp only[Xaq]
  by_cases he:k=i
  ·subst he;rw[if_pos rfl,hcode]
   refine KOk.wk (c:=f.clock) (n:=n) ?_ (by omega) (by omega)
   exact{hx with marks:=(λh=>by(change (3:Int)=0 at h;omega)),pos:=⟨Xw _,by show(0:Int)≤_;omega⟩,phase:=by(show(0:Int)≤3∧(3:Int)≤3;omega)}
  ·rw[if_neg he];exact(hF.kid i hi).wk (by omega) (by omega)
theorem Wxo(hk:k<f.kids.length)(hm:Waq m=true)(hkc:KC code)(hF:FOk codes n f)(hcode:codes.getD k []=code):FOk codes (n+1) (Wgo m f k code):=by
 obtain⟨x,hxe⟩:∃x,f.kids[k]=x:=⟨_,rfl⟩
 have hx:=hF.kid k hk
 rw[hcode,hxe]at hx
 have e4:Fm.put (f,x) k=f:=by unfold Fm.put;simp only;rw[←hxe,Xbe]
 have hFw:=hF.wk (show n≤n+1 by omega)
 unfold Wgo Wke
 split
 ·exact hFw
 rw[Wc hk,hxe]
 split
 ·rename_i h0
  obtain⟨h1,h2⟩:=kRun_ok hkc hF hx h0 hm
  have hnp:(kRun m f x code).2.phase≠3:=by
   unfold kRun Wkd Wsx
   simp only
   repeat' split
   all_goals simp[h0,Fm.again]
  have:=h1
  have key:∀q:Fm×Kd,(q.1=f∨q.1={f with lost:=true})→KOk code f.clock (n+1) q.2→q.2.phase≠3→FOk codes (n+1) (Fm.put q k):=by
   rintro⟨g,y⟩ hg hy hp
   simp only at hg hy hp
   rcases hg with rfl|rfl
   ·exact FOk.put1 (o:=g.owner) (l:=g.lost) hF hk hcode hF.owner hy (by rw[hxe,h0];omega) hp
   ·exact FOk.put1 (o:=f.owner) (l:=true) hF hk hcode hF.owner hy (by rw[hxe,h0];omega) hp
  exact key _ h2 h1 hnp
 ·split
  ·rename_i h1
   split
   ·refine FOk.put1 (o:=(k:Int)+1) (l:=f.lost) hF hk hcode (by omega) ?_ (by rw[hxe,h1];omega) (by show(2:Int)≠3;omega)
    refine KOk.wk (c:=f.clock) (n:=n) ?_ (by omega) (by omega)
    exact{hx with marks:=(λh=>by(change (2:Int)=0 at h;omega)),phase:=by(show(0:Int)≤2∧(2:Int)≤3;omega)}
   ·rw[e4];exact hFw
  ·split
   ·rename_i h2
    split
    ·exact kMerge_ok hF hk hkc.len hcode hxe h2
    ·simp only
     split
     ·refine FOk.put1 (o:=f.owner) (l:=f.lost) hF hk hcode hF.owner ?_ (by rw[hxe,h2];omega) (by show x.phase≠3;omega)
      refine KOk.wk (c:=f.clock) (n:=n) ?_ (by omega) (by omega)
      exact{hx with pos:=by(have:=hx.pos;show 0≤x.pos+1∧x.pos+1≤(x.seen.length:Int);omega)}
     ·refine FOk.put1 (o:=0) (l:=f.lost) hF hk hcode (by omega) (again_ok hx rfl hF.regs hF.clock.1) (by rw[hxe,h2];omega) (by show(0:Int)≠3;omega)
   ·rw[e4];exact hFw
theorem famNew_ok{rv:Int}{regs:List Int}{writes:List Rw}(hr:Vals 4 regs)(hn:0≤n):FOk codes n (Wbw rv regs writes codes.length) where
 len:=by simp[Wbw]
 regs:=hr
 clock:=by simp[Wbw]
 done:=by
  simp only[Wbw,Xed]
  rw[List.countP_replicate,if_neg (by simp)]
 bufR:=by
  unfold Ris Wbw
  simp only[Xej]
  exact(netR_up writes).imp λ{a b} h=>by unfold cfE;simp only;omega
 bufE:=λe he=>by
  obtain⟨r,hr,rfl⟩:=Xu.1 he
  have:=Wof r hr
  exact⟨this.1,this.2,by simp[Wbw]⟩
 readsL:=by simp[Wbw]
 readsE:=λr hr=>by cases hr
 owner:=by simp[Wbw]
 kid:=λk hk=>by
  simp only[Wbw,Xbq]
  exact{pc:=by simp,regs:=hr,rows:=(λr hr=>by cases hr),wl:=by simp,sl:=by simp,since:=by simp,tries:=by simp;omega,seen:=(λe he=>by cases he),marks:=(λ_=>⟨by simp[stk],(λq hq=>by cases hq),List.Pairwise.nil⟩),pos:=by simp,pb:=(λh=>by cases h),phase:=by simp,out:=by simp}
end
end
section
theorem Wws{α β R:Type}{body:Int→α→List β→(List β→Option R)→Option R}{K:Int→List β→Option R}{f:α→β}:∀(l:List α) (d r:List β),l.length≤r.length→
  (∀(j:Nat) x (v:List β) k,x∈l→j<v.length→body j x v k=k (v.set j (f x)))→Wfk body K l d.length (d++r)=K ((d.length+l.length:Nat):Int) (d++(l.map f++r.drop l.length))
 | [],d,r,_,_=>by simp[Wfk]
 |x::l,d,[],h,_=>by simp at h
 |x::l,d,y::r,h,hb=>by
  rw[Wfk,hb d.length x _ _ (Xi ..) (by simp),Wie]
  have:=Wws (body:=body) (K:=K) (f:=f) l (d++ [f x]) r (by simpa using h) λj z v k hz=>hb j z v k (Xe _ hz)
  simp only[Xz,Xdr,Xbs,Xen]at this
  rw[this]
  simp only[Xr,List.map_cons,List.drop_succ_cons,List.cons_append]
  rw[show d.length+1+l.length=d.length+(l.length+1) by omega]
theorem Wxk{α:Type}{R:Type}{l:List α}{p:α→Bool}{lp:Nat→Int→Option R}{N:Nat}{K0:Int→Option R}{K1:Option R}(hl:l.length<N)(hl2:l.length≤1048576)(hs:∀n (j:Nat) (h:j<l.length),lp (n+1) (j:Int)=bif p l[j]then K0 j else lp n ((j+1:Nat):Int))(he:∀n,lp (n+1) (l.length:Int)=K1):lp N 0=match fnd p l 0 with|some r=>K0 r.1|none=>K1:=by
 have h1:=Wv (l:=l) (V:=Unit) (lp:=λn j _=>lp n j) hl (body:=λj x v k=>bif p x then K0 j else k v) (K:=λ_ _=>K1) (λn j v h=>hs n j h) (λn v=>he n) ()
 refine h1.trans ?_
 rw[Wpp (p:=p) (E:=λj _=>K0 j) l 0 () (λj x v k _=>rfl)]
 cases fnd p l 0<;>rfl
theorem Wyw{α:Type}{p:α→Bool}:∀(l:List α) (j:Nat),(fnd p l j).isSome=l.any p
 | [],_=>rfl
 |x::l,j=>by
  unfold fnd
  rw[List.any_cons]
  cases p x
  ·simp[Wyw l]
  ·rfl
variable{N:Nat}
theorem implOver_run{f:Fm}(h3:f.kids.length≤3)(hN:1048576<N):Zl8 N f.e=ret (Wdh f):=by
 unfold Zl8 Zar Zx
 have e:f.e.2.2.2.2.2.2.2.2.2=f.kids.map Kd.e:=rfl
 rw[e]
 have hl:(f.kids.map Kd.e).length≤3:=by simpa using h3
 have h1:=Wxk (l:=f.kids.map Kd.e) (p:=λx=>x.1 !=3) (N:=N) (lp:=λn j=>Zi N (f.kids.map Kd.e) (λt11=>(some ((),(t11,())))) (λt12 t13=>(some ((),((-1:Int),())))) n j) (K0:=λj=>some ((),(j,()))) (K1:=some ((),((-1:Int),()))) (by omega) (by omega)
  (λn j hj=>by
   simp only[Zi,Wbb hj,Wk hj,Wm hj,We (show j<4611686018427387904 by omega),cond_true,Znd,Xc])
  (λn=>by simp only[Zi,Wbl (Xm _),cond_false])
 rw[h1]
 have h2:=Wyw (p:=λx:Y_KidRun=>x.1 !=3) (f.kids.map Kd.e) 0
 have h3:(f.kids.map Kd.e).any (λx=>x.1 !=3)= !Wdh f:=by
  unfold Wdh
  rw[List.any_map,←Wfu]
  have:((λx:Y_KidRun=>x.1 !=3)∘Kd.e)= λx:Kd=>!decide (x.phase=3):=by
   funext x
   show(x.phase !=3)= !decide (x.phase=3)
   by_cases h:x.phase=3<;>simp[h]
  rw[this]
 rw[h3]at h2
 cases hf:fnd (λx:Y_KidRun=>x.1 !=3) (f.kids.map Kd.e) 0 with
 |some r=>
  rw[hf]at h2
  simp only[Xc,decide_eq_true (show((r.1:Int)≥0) by omega),Xaa,ret]
  rw[show Wdh f=false by simpa using h2.symm]
 |none=>
  rw[hf]at h2
  rw[show Wdh f=true by simpa using h2.symm]
  rfl
theorem implPuts_run{f:Fm}(h:f.buf.length≤1000)(hN:1048576<N):Zhs N f.e=ret (Wqc f):=by
 unfold Zhs
 have e:f.e.2.2.2.2.2.2.1=f.buf:=rfl
 rw[e]
 have h1:=Wv (l:=f.buf) (V:=List Rw) (R:=Unit×(List Rw×Unit)) (lp:=λn j v=>Zc0 N f.buf (ilen f.buf) (λt9 t10 l11=>(some ((),(l11,())))) n j v) (n:=N) (by omega)
  (body:=λj x v k=>bif room (v.length+ [(x.1,x.2.1)].length)then k (Xf v [(x.1,x.2.1)])else none) (K:=λ_ v=>ret v)
  (λn i v hi=>by simp only[Zc0,Wbb hi,Wk hi,Wm hi,We (show i<4611686018427387904 by omega),cond_true])
  (λn v=>by simp only[Zc0,Wbl (Xm f.buf.length),cond_false]) []
 refine h1.trans ?_
 rw[Wip (f:=λx:En=>(x.1,x.2.1)) f.buf 0 [] (by simp;omega) (λj x v k _=>rfl)]
 rfl
theorem Wzo{f:Fm}(hr:Vals 4 f.regs)(h3:f.kids.length≤3)(hx:∀x∈f.kids,x.regs.length≤1000)(hN:1048576<N):Zhr N f.e=ret (Wtk f):=by
 unfold Zhr Wtk
 have e:f.e.2.2.2.2.1=f.regs:=rfl
 have e2:f.e.2.2.2.2.2.2.2.2.2=f.kids.map Kd.e:=rfl
 have hrk:Wmm f.regs=true:=Wmg.2 hr
 have hl:=hr.len
 have hm:(f.kids.map Kd.e).length=f.kids.length:=by simp
 rw[e,e2,Whx (by omega) hN,if_pos ⟨hrk,h3⟩]
 simp only[ret,Xc,hrk,Xaa,cond_false]
 rw[decide_eq_false (by unfold ilen;omega),Wdx (by omega)]
 simp only[ret,Xc,cond_false]
 have h1:=Wv (l:=f.kids.map Kd.e) (V:=List Int) (R:=Unit×(List Int×Unit)) (lp:=λn j v=>Zbx N (f.kids.map Kd.e) (ilen (f.kids.map Kd.e)) (λt15 t16 l17=>(some ((),(l17,())))) n j v) (n:=N) (by omega)
  (body:=λj x v k=>bif inb j v.length then(bif x.2.2.2.2.2.1==(1:Int)then((Zaq N (P6 x) (4:Int)).bind λo13=>(bif o13.2.1 then(bif inb 0 (P6 x).length then(bif inb j (Xl v j.toNat 0).length then k (Xl (Xl v j.toNat 0) j.toNat (Xd (P6 x) (Xb (0:Int)) 0))else none)else none)else k (Xl v j.toNat 0)))else k (Xl v j.toNat 0))else none) (K:=λ_ v=>ret v)
  (λn i v hi=>by simp only[Zbx,Wq,Wbb hi,Wk hi,Wm hi,We (show i<4611686018427387904 by omega),cond_true];rfl)
  (λn v=>by simp only[Zbx,Wbl (Xm _),cond_false]) f.regs
 refine h1.trans ?_
 have h2:=Wws (β:=Int) (K:=λ_ v=>ret v) (f:=λx:Y_KidRun=>if P5 x=1∧Wmm (P6 x)=true then getI (P6 x) 0 0 else 0) (f.kids.map Kd.e) [] f.regs (by omega) (body:=λj x v k=>bif inb j v.length then(bif x.2.2.2.2.2.1==(1:Int)then((Zaq N (P6 x) (4:Int)).bind λo13=>(bif o13.2.1 then(bif inb 0 (P6 x).length then(bif inb j (Xl v j.toNat 0).length then k (Xl (Xl v j.toNat 0) j.toNat (Xd (P6 x) (Xb (0:Int)) 0))else none)else none)else k (Xl v j.toNat 0)))else k (Xl v j.toNat 0))else none)
  (λj x v k hxm hj=>by
   obtain⟨y,hy,rfl⟩:=Xu.1 hxm
   have hyl:=hx y hy
   have p5:(Kd.e y).2.2.2.2.2.1=y.out:=rfl
   have p5':P5 (Kd.e y)=y.out:=rfl
   have p6:P6 (Kd.e y)=y.regs:=rfl
   simp only[p5,p5',p6,Way,decide_eq_true hj,cond_true,Whx (show y.regs.length≤1048576 by omega) hN,ret,Xc,Wn,Xj,Xad]
   by_cases h1:y.out=1
   ·rw[if_pos h1]
    cases hrk:Wmm y.regs
    ·rw[if_neg (by simp)];rfl
    ·have:y.regs.length=4:=(Wmg.1 hrk).len
     rw[if_pos ⟨h1,rfl⟩,show inb (0:Int) y.regs.length=true by rw[this];rfl]
     simp only[cond_true,Xdm]
     rfl
   ·rw[if_neg h1,if_neg (λh=>h1 h.1)])
 simp only[Xed,Xcd,Xaf,List.map_map]at h2
 exact h2
theorem Wvn{rv:Int}{regs:List Int}{writes:List Rw}{kids:Nat}(hr:regs.length≤1000)(hw:writes.length≤1000)(hk:kids≤3)(hN:1048576<N):
  Zg4 N rv regs writes (kids:Int)=ret (Wbw rv regs writes kids).e:=by
 unfold Zg4
 rw[Wdx (by omega),Wjm (by omega) hN]
 have hn:=Wpa writes
 simp only[ret,Xc]
 have h1:=Wv (l:=netR writes) (V:=List En) (R:=Unit×(Y_Family×Unit)) (lp:=λn j v=>Zco N regs kids (ilen (netR writes)) rv (netR writes) regs (λt25 t26 l27=>
  (Zbq N regs kids rv regs (netR writes) l27
 (λt49 t50 l51=>
  (some ((),((rv,((0:Int),((0:Int),(false,(regs,(netR writes,(l27,(([]:List Int),(([]:List (Int×Int)),l51))))))))),()))))
 N (0:Int) ([]:List Y_KidRun))) n j v) (n:=N) (by omega)
  (body:=λj x v k=>bif room (v.length+ [(x.1,(x.2,(0:Int)))].length)then k (Xf v [(x.1,(x.2,(0:Int)))])else none) (K:=λ_ l27=>(Zbq N regs kids rv regs (netR writes) l27
 (λt49 t50 l51=>
  (some ((),((rv,((0:Int),((0:Int),(false,(regs,(netR writes,(l27,(([]:List Int),(([]:List (Int×Int)),l51))))))))),()))))
 N (0:Int) ([]:List Y_KidRun)))
  (λn i v hi=>by simp only[Zco,Wbb hi,Wk hi,Wm hi,We (show i<4611686018427387904 by omega),cond_true])
  (λn v=>by simp only[Zco,Wbl (Xm _),cond_false]) []
 refine h1.trans ?_
 rw[Wip (f:=λx:Rw=>(x.1,(x.2,(0:Int)))) (netR writes) 0 [] (by simp;omega) (λj x v k _=>rfl)]
 simp only[Xcd]
 obtain⟨b,hb⟩:∃b,(netR writes).map (λx:Rw=>(x.1,(x.2,(0:Int))))=b:=⟨_,rfl⟩
 rw[hb]
 have lp:∀(d j n:Nat) (v:List Y_KidRun),j+d=kids→d<n→v=Xv j (Kd.e {regs:=regs})→Zbq N regs kids rv regs (netR writes) b (λt49 t50 l51=>(some ((),((rv,((0:Int),((0:Int),(false,(regs,(netR writes,(b,(([]:List Int),(([]:List (Int×Int)),l51))))))))),())))) n (j:Int) v=some ((),((rv,((0:Int),((0:Int),(false,(regs,(netR writes,(b,(([]:List Int),(([]:List (Int×Int)),Xv kids (Kd.e {regs:=regs})))))))))),())):=by
  intro d
  induction d with
  |zero=>
   intro j n v hj hn hv
   obtain⟨n,rfl⟩:∃n',n=n'+1:=⟨n-1,by omega⟩
   have:j=kids:=by omega
   subst this
   simp only[Zbq,Int.lt_irrefl,decide_false,cond_false,hv]
  |succ d ih=>
   intro j n v hj hn hv
   obtain⟨n,rfl⟩:∃n',n=n'+1:=⟨n-1,by omega⟩
   have hlt:(j:Int)<(kids:Int):=by omega
   have hvl:v.length=j:=by rw[hv];simp
   simp only[Zbq,decide_eq_true hlt,cond_true,Wdx (show regs.length≤1048576 by omega),ret,Xc]
   rw[Ww (by simp;omega)]
   simp only[cond_true]
   rw[We (by omega)]
   refine ih (j+1) n _ (by omega) (by omega) ?_
   rw[hv,List.replicate_succ']
   rfl
 have:=lp kids 0 N [] (by omega) (by omega) rfl
 refine this.trans ?_
 unfold Wbw Fm.e
 simp only[List.map_replicate,hb]
end
section
def Wgu(s:Int):Int:=(s-1)/65536
def Weh(k:Int):Int:=(7*k+3)%4
structure SlOk(l:List Int):Prop where
 len:l.length=16
 each:∀i (h:i<l.length),l[i]=0∨((1≤l[i]∧l[i]≤524288)∧Weh (Wgu l[i])=((i/4:Nat):Int))
 one:∀i j (hi:i<l.length) (hj:j<l.length),i<j→l[i]≠0→l[j]≠0→Wgu l[i]≠Wgu l[j]
def slHas(k s:Int):Bool:=decide (s>0)&&decide (Wgu s=k)
def slAt(l:List Int)(k:Int):Option (Nat×Int):=fnd (slHas k) l 0
def Wpg(l:List Int)(k:Int):Nat:=if getI l (4*Weh k) 0=0 then(4*Weh k).toNat else(4*Weh k).toNat+1
def slPut(l:List Int)(k v:Int):List Int:=match slAt l k with
 |some r=>l.set r.1 (1+65536*k+v)
 |none=>l.set (Wpg l k) (1+65536*k+v)
def Wlj(l:List Int)(k:Int):Int:=match slAt l k with
 |some r=>(r.2-1)%65536+1
 |none=>0
def Wwz(l:List Int)(k:Int):List Int:=match slAt l k with
 |some r=>l.set r.1 0
 |none=>l
variable{N:Nat}{l:List Int}{k v:Int}
theorem wrapI{n:Int}(h:I64 n):IntKind.wrap .i64 n=n:=wrap_i64 h
theorem keyIn_run{s:Int}(h:1≤s∧s≤524288):Zhz N s=ret (Wgu s):=by
 unfold Zhz
 rw[Wbm (by unfold I64;omega)]
 have:iquo .i64 (s-1) 65536=Wgu s:=by
  unfold iquo Wgu
  rw[Xeb (by omega),wrapI (by unfold I64;omega)]
 rw[this];rfl
theorem Wxw{s:Int}(h:1≤s∧s≤524288):0≤Wgu s∧Wgu s≤7:=by unfold Wgu;omega
theorem Wlk:Zbe N k=ret (decide (0≤k)&&decide (k≤7)):=by unfold Zbe;rw[Wj];rfl
theorem Wxh(hk:0≤k∧k≤7)(hv:0≤v∧v≤65535):Zil N k v=ret (1+65536*k+v):=by
 unfold Zil
 rw[Wqh (by unfold I64;omega),Wx (a:=1) (by unfold I64;omega),Wx (by unfold I64;omega)]
theorem Wxa(hk:0≤k∧k≤7):Ziv N k=ret (Weh k):=by
 unfold Ziv
 rw[Wlk,Wqh (by unfold I64;omega),Wx (by unfold I64;omega)]
 have:irem (7*k+3) 4=Weh k:=by unfold irem Weh;exact Int.tmod_eq_emod_of_nonneg (by omega)
 simp only[ret,Xc,decide_eq_true hk.1,decide_eq_true hk.2,Xbr,Xaa,cond_false,this]
 rfl
theorem SlOk.val(h:SlOk l){i:Nat}(hi:i<l.length)(hn:l[i]≠0):1≤l[i]∧l[i]≤524288:=by
 rcases h.each i hi with h0|h0
 ·exact absurd h0 hn
 ·exact h0.1
theorem Wkn(h:SlOk l)(hN:1048576<N):Zgs N l k=ret (match slAt l k with|some r=>(r.1:Int)|none=>-1):=by
 unfold Zgs slAt
 have hl:=h.len
 have h1:=Wxk (l:=l) (p:=slHas k) (N:=N) (lp:=λn j=>Zdl N k l (λt13=>(some ((),(t13,())))) (λt14 t15=>(some ((),((-1:Int),())))) n j) (K0:=λj=>some ((),(j,()))) (K1:=some ((),((-1:Int),()))) (by omega) (by omega)
  (λn j hj=>by
   simp only[Zdl,Wbb hj,Wk hj,Wm hj,We (show j<4611686018427387904 by omega),cond_true]
   unfold slHas
   by_cases h0:l[j]>0
   ·rw[keyIn_run (h.val hj (by omega))]
    simp only[decide_eq_true h0,cond_true,Xbp,ret,Xc,Wn,Wbv]
   ·simp only[decide_eq_false h0,cond_false,Bool.false_and])
  (λn=>by simp only[Zdl,Wbl (Xm _),cond_false])
 rw[h1]
 cases fnd (slHas k) l 0<;>rfl
theorem Weo(h:SlOk l)(hN:1048576<N):Zc7 N l=ret true:=by
 have hl:=h.len
 have lp:∀(d j n:Nat) (s:List Bool),j+d=16→d<n→s.length=8→(∀c:Nat,s.getD c false=true→∃i,∃hi:i<l.length,i<j∧l[i]≠0∧Wgu l[i]=c)→
   Zcd N l (some ((),(false,()))) (λt27 t28 l29=>(some ((),(true,())))) n (j:Int) s=ret true:=by
  intro d
  induction d with
  |zero=>
   intro j n s hj hn _ _
   obtain⟨n,rfl⟩:∃n',n=n'+1:=⟨n-1,by omega⟩
   have:j=l.length:=by omega
   subst this
   simp only[Zcd,Wbl (Xm _),cond_false]
  |succ d ih=>
   intro j n s hj hn hs hb
   obtain⟨n,rfl⟩:∃n',n=n'+1:=⟨n-1,by omega⟩
   have hlt:j<l.length:=by omega
   simp only[Zcd,Wbb hlt,Wk hlt,Wm hlt,We (show j<4611686018427387904 by omega),cond_true,Wn]
   by_cases h0:l[j]=0
   ·rw[if_pos h0]
    exact ih (j+1) n s (by omega) (by omega) hs λc hc=>by
     obtain⟨i,hi,h1,h2,h3⟩:=hb c hc
     exact⟨i,hi,by omega,h2,h3⟩
   ·rw[if_neg h0]
    have hv:=h.val hlt h0
    have hk:=Wxw hv
    have hbk:Weh (Wgu l[j])=((j/4:Nat):Int):=by
     rcases h.each j hlt with h1|h1
     ·exact absurd h1 h0
     ·exact h1.2
    have hq:iquo .i64 (j:Int) 4=((j/4:Nat):Int):=by
     unfold iquo
     rw[Xeb (by omega),wrapI (by unfold I64;omega)]
     omega
    have hnew:s.getD (Xb (Wgu l[j])) false=false:=by
     rw[Bool.eq_false_iff]
     intro hc
     obtain⟨i,hi,h1,h2,h3⟩:=hb _ hc
     exact h.one i j hi hlt h1 h2 h0 (by omega)
    rw[Wxh (k:=7) (v:=65535) (by omega) (by omega),keyIn_run hv]
    simp only[ret,Xc,Wj,show(1:Int)+65536*7+65535=524288 from rfl,decide_eq_true hv.1,decide_eq_true hv.2,Xbr,Xaa,cond_false,Wxa hk,hbk,hq,bne_self_eq_false]
    rw[show inz (4:Int)=true from rfl]
    simp only[cond_true]
    rw[show inb (Wgu l[j]) 8=true by unfold inb;simp;omega,hs,decide_eq_true rfl,hnew]
    simp only[Xbr,cond_true,cond_false]
    refine ih (j+1) n _ (by omega) (by omega) (by simpa using hs) λc hc=>?_
    by_cases hcj:c=(Wgu l[j]).toNat
    ·exact⟨j,hlt,by omega,h0,by omega⟩
    ·have:s.getD c false=true:=by
      rw[Xbc,List.getElem?_set_ne (by omega),←Xbc]at hc
      exact hc
     obtain⟨i,hi,h1,h2,h3⟩:=hb c this
     exact⟨i,hi,by omega,h2,h3⟩
 unfold Zc7
 rw[show((ilen l) !=(16:Int))=false by unfold ilen;rw[hl];rfl]
 simp only[cond_false]
 refine lp 16 0 N _ (by omega) (by omega) (by simp) λc hc=>?_
 rw[Xbc]at hc
 by_cases h8:c<8
 ·rw[List.getElem?_replicate,if_pos h8]at hc;simp at hc
 ·rw[List.getElem?_eq_none (by simp;omega)]at hc;simp at hc
theorem Wlh(h:SlOk l){r:Nat×Int}(hr:slAt l k=some r):∃hi:r.1<l.length,l[r.1]=r.2∧1≤r.2∧r.2≤524288∧Wgu r.2=k∧Weh k=((r.1/4:Nat):Int):=by
 obtain⟨h1,h2,h3,h4⟩:=Whj hr
 rw[Xbb]at h3
 rw[Xda,Xs h3]at h4
 injection h4 with h4
 unfold slHas at h1
 simp only[Xh,decide_eq_true_eq]at h1
 have h5:=h.val h3 (by omega)
 rcases h.each r.1 h3 with h6|h6
 ·omega
 ·rw[h4]at h6 h5;rw[h1.2]at h6
  exact⟨h3,h4,h5.1,h5.2,h1.2,h6.2⟩
theorem Wum(h:SlOk l)(hr:slAt l k=none)(i:Nat)(hi:i<l.length)(hn:l[i]≠0):Wgu l[i]≠k:=by
 have:=Wsa hr l[i] (Xt hi)
 unfold slHas at this
 have h1:=h.val hi hn
 rw[decide_eq_true (show l[i]>0 by omega),Xbp]at this
 simpa using this
theorem bkt_bd(k:Int):0≤Weh k∧Weh k≤3:=by unfold Weh;omega
theorem slFree_ok(h:SlOk l)(hk:0≤k∧k≤7)(hr:slAt l k=none):∃hi:Wpg l k<l.length,l[Wpg l k]=0∧Weh k=((Wpg l k/4:Nat):Int)∧(Wpg l k=(4*Weh k).toNat∨(Wpg l k=(4*Weh k).toNat+1∧getI l (4*Weh k) 0≠0)):=by
 have hl:=h.len
 have hb:=bkt_bd k
 unfold Wpg
 have h1:(4*Weh k).toNat<l.length:=by omega
 have hg:getI l (4*Weh k) 0=l[(4*Weh k).toNat]:=Wc h1 _
 by_cases h0:getI l (4*Weh k) 0=0
 ·simp only[if_pos h0]
  exact⟨h1,by rw[←hg];exact h0,by omega,.inl trivial⟩
 ·simp only[if_neg h0]
  have h2:(4*Weh k).toNat+1<l.length:=by omega
  refine⟨h2,?_,by omega,.inr ⟨trivial,h0⟩⟩
  refine Classical.byContradiction λhn=>?_
  rw[hg]at h0
  have a1:=Wum h hr _ h1 h0
  have a2:=Wum h hr _ h2 hn
  have a3:=h.one _ _ h1 h2 (by omega) h0 hn
  have b1:=Wxw (h.val h1 h0)
  have b2:=Wxw (h.val h2 hn)
  rcases h.each _ h1 with c1|c1
  ·exact h0 c1
  ·rcases h.each _ h2 with c2|c2
   ·exact hn c2
   ·have d1:=c1.2
    have d2:=c2.2
    generalize Wgu l[(4*Weh k).toNat]=x at*
    generalize Wgu l[(4*Weh k).toNat+1]=y at*
    unfold Weh at*
    omega
theorem slot_key(hk:0≤k∧k≤7)(hv:0≤v∧v≤65535):(1≤1+65536*k+v∧1+65536*k+v≤524288)∧Wgu (1+65536*k+v)=k:=by unfold Wgu;omega
theorem Wzj(h:SlOk l){i:Nat}(hi:i<l.length){s:Int}(hs:s=0∨((1≤s∧s≤524288)∧Weh (Wgu s)=((i/4:Nat):Int)))(ho:s≠0→∀j (hj:j<l.length),j≠i→l[j]≠0→Wgu l[j]≠Wgu s):SlOk (l.set i s) where
 len:=by rw[Xad];exact h.len
 each:=λj hj=>by
  rw[Xad]at hj
  rw[Xaq]
  by_cases he:i=j
  ·subst he;rw[if_pos rfl];exact hs
  ·rw[if_neg he];exact h.each j hj
 one:=λa b ha hb hab=>by
  rw[Xad]at ha hb
  rw[Xaq,Xaq]
  by_cases h1:i=a
  ·subst h1
   rw[if_pos rfl,if_neg (by omega)]
   exactλhn hb0 he=>ho hn b hb (by omega) hb0 he.symm
  ·rw[if_neg h1];by_cases h2:i=b
   ·subst h2;rw[if_pos rfl];exactλha0 hn=>ho hn a ha (by omega) ha0
   ·rw[if_neg h2];exact h.one a b ha hb hab
theorem Wsl(h:SlOk l)(hk:0≤k∧k≤7)(hv:0≤v∧v≤65535):SlOk (slPut l k v):=by
 obtain⟨k1,k2⟩:=slot_key hk hv
 unfold slPut
 cases hr:slAt l k with
 |some r=>
  obtain⟨hi,h1,h2,h3,h4,h5⟩:=Wlh h hr
  refine Wzj h hi (.inr ⟨k1,by rw[k2];exact h5⟩) λ_ j hj hne hn=>?_
  rw[k2,←h4,←h1]
  rcases Nat.lt_or_gt_of_ne hne with hlt|hlt
  ·exact h.one j r.1 hj hi hlt hn (by rw[h1];omega)
  ·exactλe=>h.one r.1 j hi hj hlt (by rw[h1];omega) hn e.symm
 |none=>
  obtain⟨hi,h1,h2,_⟩:=slFree_ok h hk hr
  refine Wzj h hi (.inr ⟨k1,by rw[k2];exact h2⟩) λ_ j hj hne hn=>?_
  rw[k2];exact Wum h hr j hj hn
theorem slDrop_ok(h:SlOk l):SlOk (Wwz l k):=by
 unfold Wwz
 cases hr:slAt l k with
 |some r=>
  obtain⟨hi,h1,_⟩:=Wlh h hr
  exact Wzj h hi (.inl rfl) λh=>absurd rfl h
 |none=>exact h
theorem Woz(l:List Int)(k:Int):0≤Wlj l k∧Wlj l k≤65536:=by
 unfold Wlj
 cases slAt l k<;>simp only<;>omega
theorem Whh(h:SlOk l)(hk:0≤k∧k≤7)(hN:1048576<N):Zho N l k=some ((),((if Wlj l k=0 then 0 else Wlj l k-1),(decide (Wlj l k≠0),()))):=by
 unfold Zho Wlj
 rw[Weo h hN,Wlk,Wkn h hN]
 simp only[ret,Xc,Xaa,cond_false,decide_eq_true hk.1,decide_eq_true hk.2,Xbr]
 cases hr:slAt l k with
 |none=>rfl
 |some r=>
  obtain⟨hi,h1,h2,h3,h4,h5⟩:=Wlh h hr
  simp only[decide_eq_false (show¬((r.1:Int)<0) by omega),cond_false,Way,decide_eq_true hi,cond_true,Wm hi,h1]
  rw[Wbm (by unfold I64;omega),Wgg (by omega),if_neg (by omega),decide_eq_true (by omega)]
  simp only[Int.add_sub_cancel]
  rfl
theorem Whe(h:SlOk l)(hk:0≤k∧k≤7)(hv:0≤v∧v≤65535)(hN:1048576<N):Zem N l k v=some ((),(slPut l k v,(Wlj l k,(true,())))):=by
 have hl:=h.len
 unfold Zem
 rw[Wgk (by omega),Weo h hN,Wlk,Wi,Wkn h hN,Whh h hk hN,Wxh hk hv,Wxa hk]
 simp only[ret,Xc,Xaa,cond_false,decide_eq_true hk.1,decide_eq_true hk.2,Xbr,Wdf.2 hv]
 unfold slPut Wlj
 cases hr:slAt l k with
 |some r=>
  obtain⟨hi,h1,h2,h3,h4,h5⟩:=Wlh h hr
  simp only[decide_eq_true (show((r.1:Int)≥0) by omega),cond_true,Way,decide_eq_true hi,Xj]
  rw[if_neg (by omega),Wx (by unfold I64;omega)]
  simp only[show(r.2-1)%65536+1-1+1=(r.2-1)%65536+1 by omega]
 |none=>
  simp only[show decide ((-1:Int)≥0)=false from rfl,cond_false]
  have hb:=bkt_bd k
  obtain⟨hi,h1,h2,h3⟩:=slFree_ok h hk hr
  rw[Wqh (by unfold I64;omega)]
  obtain⟨N',rfl⟩:∃N',N=N'+1+1:=⟨N-2,by omega⟩
  have hb2:4*Weh k=(((4*Weh k).toNat:Nat):Int):=by omega
  have hfin:∀n,Zcy (N'+1+1) k v l (λat18 t19=>(bif inb at18 (Xa l)then(some ((),(Xl l (Xb at18) (1+65536*k+v),(0,(true,())))))else none)) (n+1) (Wpg l k:Int)=some ((),(l.set (Wpg l k) (1+65536*k+v),((0:Int),(true,())))):=λn=>by
   simp only[Zcy,Wk hi,Wm hi,h1,cond_true,bne_self_eq_false,cond_false]
   rw[Xj]
  rcases h3 with h3|⟨h3,h4⟩
  ·rw[hb2,←h3];exact hfin _
  ·have hlt:(4*Weh k).toNat<l.length:=by omega
   have hg:getI l (4*Weh k) 0=l[(4*Weh k).toNat]:=Wc hlt _
   rw[hg]at h4
   have hstep:=hfin N'
   rw[hb2]
   rw[Zcy]
   simp only[Wk hlt,Wm hlt,cond_true]
   rw[show(l[(4*Weh k).toNat] !=0)=true by simpa using h4,We (by omega),←h3]
   simp only[cond_true]
   exact hstep
theorem Wjw(h:SlOk l)(hk:0≤k∧k≤7)(hN:1048576<N):Ziw N l k=some ((),(Wwz l k,(Wlj l k,(true,())))):=by
 have hl:=h.len
 unfold Ziw
 rw[Wgk (by omega),Weo h hN,Wlk,Wkn h hN,Whh h hk hN]
 simp only[ret,Xc,Xaa,cond_false,decide_eq_true hk.1,decide_eq_true hk.2,Xbr]
 unfold Wwz Wlj
 cases hr:slAt l k with
 |some r=>
  obtain⟨hi,h1,h2,h3,h4,h5⟩:=Wlh h hr
  simp only[decide_eq_false (show¬((r.1:Int)<0) by omega),cond_true,cond_false,Way,decide_eq_true hi,Xj]
  rw[if_neg (by omega),Wx (by unfold I64;omega)]
  simp only[show(r.2-1)%65536+1-1+1=(r.2-1)%65536+1 by omega]
 |none=>rfl
end
section
abbrev Shf:=List Int×Int
abbrev Un:=Int×Int×Int
structure ShOk(s:Shf):Prop where
 slots:SlOk s.1
 cnt:0≤s.2∧s.2≤65535
def UnV(u:Un):Prop:=(u.1=1∧(0≤u.2.1∧u.2.1≤7)∧0≤u.2.2∧u.2.2≤65535)∨(u.1=2∧(0≤u.2.1∧u.2.1≤7)∧u.2.2=0)∨(u.1=3∧u.2.1=0∧0≤u.2.2∧u.2.2≤65535)
def Wtv(s:Shf)(u:Un):Shf:=
 if u.1=1 then(slPut s.1 u.2.1 u.2.2,s.2)else if u.1=2 then(Wwz s.1 u.2.1,s.2)else if u.1=3 then(s.1,(s.2-u.2.2+65536)%65536)else s
def Wra(k e:Int):Un:=if e=0 then(2,k,0)else(1,k,e-1)
def Wdo(s:Shf)(o:Opn)(r:List Int):Shf×List Int×Un:=
 if o.1=12 then((slPut s.1 o.2.1 (getI r o.2.2.1 0),s.2),setI r o.2.2.2 (Wlj s.1 o.2.1%65536),Wra o.2.1 (Wlj s.1 o.2.1))else
 if o.1=13 then(s,setI r o.2.1 (Wlj s.1 o.2.2.1%65536),(0,0,0))else
 if o.1=14 then((Wwz s.1 o.2.1,s.2),setI r o.2.2.1 (Wlj s.1 o.2.1%65536),Wra o.2.1 (Wlj s.1 o.2.1))else
 if o.1=15 then((s.1,(s.2+getI r o.2.1 0)%65536),r,(3,0,getI r o.2.1 0))else
 (s,setI r o.2.1 s.2,(0,0,0))
def Wcf(o:Opn):Int×Int:=
 if o.1=12∨o.1=14 then(o.2.1,2)else if o.1=13 then(o.2.2.1,1)else if o.1=15 then(8,1)else(8,2)
section
variable{o:Opn}
theorem ok_12(h:opOk o=true)(h5:o.1=12):Wfe o.2.1=true∧Wf o.2.2.1=true∧Wf o.2.2.2=true:=by
 obtain⟨k,a,b,c⟩:=o
 simp only at h5;subst h5
 have:(Wfe a&&Wf b&&Wf c)=true:=h
 simp only[Xh]at this
 exact⟨this.1.1,this.1.2,this.2⟩
theorem ok_13(h:opOk o=true)(h5:o.1=13):Wf o.2.1=true∧Wfe o.2.2.1=true:=by
 obtain⟨k,a,b,c⟩:=o
 simp only at h5;subst h5
 have:(Wf a&&Wfe b&&(c==(0:Int)))=true:=h
 simp only[Xh]at this
 exact this.1
theorem ok_14(h:opOk o=true)(h5:o.1=14):Wfe o.2.1=true∧Wf o.2.2.1=true:=by
 obtain⟨k,a,b,c⟩:=o
 simp only at h5;subst h5
 have:(Wfe a&&Wf b&&(c==(0:Int)))=true:=h
 simp only[Xh]at this
 exact this.1
theorem ok_15(h:opOk o=true)(h5:o.1=15):Wf o.2.1=true:=by
 obtain⟨k,a,b,c⟩:=o
 simp only at h5;subst h5
 have:(Wf a&&(b==(0:Int))&&(c==(0:Int)))=true:=h
 simp only[Xh]at this
 exact this.1.1
theorem ok_16r(h:opOk o=true)(h5:o.1=16):Wf o.2.1=true:=by
 obtain⟨k,a,b,c⟩:=o
 simp only at h5;subst h5
 have:(Wf a&&(b==(0:Int))&&(c==(0:Int)))=true:=h
 simp only[Xh]at this
 exact this.1.1
end
theorem Wey{x:Int}:Wfe x=true↔0≤x∧x≤7:=by unfold Wfe;simp
variable{N:Nat}{s:Shf}{u:Un}{o:Opn}{r:List Int}
theorem backTo_ok{k e:Int}(hk:0≤k∧k≤7)(he:0≤e∧e≤65536):UnV (Wra k e):=by
 unfold Wra UnV
 split
 ·exact .inr (.inl ⟨rfl,hk,rfl⟩)
 ·exact .inl ⟨rfl,hk,by simp only;omega⟩
theorem undoOne_ok(h:ShOk s)(hu:UnV u):ShOk (Wtv s u):=by
 unfold Wtv
 rcases hu with⟨h1,h2,h3⟩|⟨h1,h2,h3⟩|⟨h1,h2,h3⟩
 ·rw[if_pos h1];exact⟨Wsl h.slots h2 h3,h.cnt⟩
 ·rw[if_neg (by omega),if_pos h1];exact⟨slDrop_ok h.slots,h.cnt⟩
 ·rw[if_neg (by omega),if_neg (by omega),if_pos h1];exact⟨h.slots,by simp only;omega⟩
theorem boostDo_ok(h:ShOk s)(hr:Vals 4 r)(ho:opOk o=true)(h12:12≤o.1):ShOk (Wdo s o r).1∧Vals 4 (Wdo s o r).2.1∧((Wdo s o r).2.2.1≠0→UnV (Wdo s o r).2.2)∧((Wdo s o r).2.2.1=0→(Wdo s o r).1=s):=by
 have h16:=ok_16 ho
 unfold Wdo
 split
 ·obtain⟨a,b,c⟩:=ok_12 ho ‹_›
  rw[Wey]at a
  have hg:=Woz s.1 o.2.1
  exact⟨⟨Wsl h.slots a (hr.get _),h.cnt⟩,hr.set _ (by omega),λ_=>backTo_ok a hg,λh=>by unfold Wra at h;split at h<;>(simp only at h;omega)⟩
 ·split
  ·exact⟨h,hr.set _ (by omega),λh=>absurd rfl h,λ_=>rfl⟩
  ·split
   ·obtain⟨a,b⟩:=ok_14 ho ‹_›
    rw[Wey]at a
    have hg:=Woz s.1 o.2.1
    exact⟨⟨slDrop_ok h.slots,h.cnt⟩,hr.set _ (by omega),λ_=>backTo_ok a hg,λh=>by unfold Wra at h;split at h<;>(simp only at h;omega)⟩
   ·split
    ·have:=hr.get o.2.1.toNat
     have:=h.cnt
     refine⟨⟨h.slots,by simp only;unfold getI;omega⟩,hr,λ_=>.inr (.inr ⟨rfl,rfl,hr.get _⟩),λh=>by(simp only at h;omega)⟩
    ·exact⟨h,hr.set _ h.cnt,λh=>absurd rfl h,λ_=>rfl⟩
theorem Wlg(h:ShOk s)(hN:1048576<N):Zjr N s=ret true:=by
 unfold Zjr
 rw[Weo h.slots hN,Wi,Wdf.2 h.cnt];rfl
theorem Woi(h:ShOk s):Zh1 N s=ret s:=by
 unfold Zh1
 rw[Wgk (by have:=h.slots.len;omega)];rfl
theorem Wvi(hu:UnV u):Zm1 N u=ret true:=by
 unfold Zm1
 simp only[Wn,Wlk,Wi,ret,Xc]
 rcases hu with⟨h1,h2,h3⟩|⟨h1,h2,h3⟩|⟨h1,h2,h3⟩
 ·rw[if_neg (by omega),if_pos h1,Wdf.2 h3]
  simp[h2]
 ·rw[if_neg (by omega),if_neg (by omega),if_pos h1]
  simp[h2,h3]
 ·rw[if_neg (by omega),if_neg (by omega),if_neg (by omega),if_pos h1,if_pos h2,Wdf.2 h3]
theorem Wsq(h:ShOk s)(hu:UnV u)(hN:1048576<N):Zl6 N s u=some ((),(Wtv s u,(true,()))):=by
 unfold Zl6 Wtv
 rw[Woi h,Wvi hu]
 simp only[ret,Xc]
 rw[Wlg h hN]
 simp only[ret,Xc,Xaa,cond_false,Wn]
 have hc:=h.cnt
 rcases hu with⟨h1,h2,h3⟩|⟨h1,h2,h3⟩|⟨h1,h2,h3⟩
 ·rw[if_pos h1,if_pos h1,Whe h.slots h2 h3 hN];rfl
 ·rw[if_neg (by omega),if_pos h1,if_neg (by omega),if_pos h1,Wjw h.slots h2 hN];rfl
 ·rw[if_neg (by omega),if_neg (by omega),if_pos h1,if_neg (by omega),if_neg (by omega),if_pos h1]
  rw[Wbm (by unfold I64;omega),Wx (by unfold I64;omega),Wgg (by omega)];rfl
theorem Wmu{k e:Int}(he:0≤e∧e≤65536):Zkr N k e=ret (Wra k e):=by
 unfold Zkr Wra
 rw[Wn,Wbm (by unfold I64;omega)]
 split<;>rfl
theorem Wyt(ho:opOk o=true)(h12:12≤o.1):Zj1 N o=some ((),((Wcf o).1,((Wcf o).2,()))):=by
 have h16:=ok_16 ho
 unfold Zj1 Wcf
 rw[Wmc,ho]
 simp only[ret,Xc,Xaa,cond_false,Wn]
 have:o.1=12∨o.1=13∨o.1=14∨o.1=15∨o.1=16:=by omega
 rcases this with h|h|h|h|h<;>simp[h]
theorem Wtu(h:ShOk s)(hr:Vals 4 r)(ho:opOk o=true)(h12:12≤o.1)(hN:1048576<N):
  Zl7 N s o r=some ((),((Wdo s o r).1,((Wdo s o r).2.1,((Wdo s o r).2.2,(true,()))))):=by
 have h16:=ok_16 ho
 have hrl:=hr.len
 have hc:=h.cnt
 unfold Zl7 Wdo
 rw[Woi h,Wgk (by omega)]
 simp only[ret,Xc]
 rw[Wlg h hN,Whx (by omega) hN,Wmg.2 hr,Wor,touch_2 ho h12]
 simp only[ret,Xc,Xaa,cond_false,bne_self_eq_false,Wn,show inz (65536:Int)=true from rfl,cond_true,Wq,Xad]
 by_cases e1:o.1=12
 ·obtain⟨a,b,c⟩:=ok_12 ho e1
  rw[Wey]at a
  rw[if_pos e1,if_pos e1,Wcz b hrl,Wcz c hrl]
  have hg:=Woz s.1 o.2.1
  rw[Whe h.slots a (hr.get _) hN]
  simp only[cond_true,Xc,Wmu hg,ret]
  rw[Wgg (by omega)];rfl
 ·rw[if_neg e1,if_neg e1]
  by_cases e2:o.1=13
  ·obtain⟨a,b⟩:=ok_13 ho e2
   rw[Wey]at b
   have hg:=Woz s.1 o.2.2.1
   rw[if_pos e2,if_pos e2,Wcz a hrl,Whh h.slots b hN]
   simp only[cond_true,Xc]
   by_cases hz:Wlj s.1 o.2.2.1=0
   ·rw[hz];rfl
   ·rw[if_neg hz,decide_eq_true hz,Wx (by unfold I64;omega),Wgg (by omega),Int.sub_add_cancel]
    simp only[cond_true,Xdm];rfl
  ·rw[if_neg e2,if_neg e2]
   by_cases e3:o.1=14
   ·obtain⟨a,b⟩:=ok_14 ho e3
    rw[Wey]at a
    have hg:=Woz s.1 o.2.1
    rw[if_pos e3,if_pos e3,Wcz b hrl,Wjw h.slots a hN]
    simp only[cond_true,Xc,Wmu hg,ret]
    rw[Wgg (by omega)];rfl
   ·rw[if_neg e3,if_neg e3]
    by_cases e4:o.1=15
    ·have a:=ok_15 ho e4
     have hv:=hr.get o.2.1.toNat
     rw[if_pos e4,if_pos e4,Wcz a hrl]
     simp only[cond_true]
     rw[Wx (by unfold I64;omega),Wgg (by omega)];rfl
    ·have a:=ok_16r ho (by omega)
     rw[if_neg e4,if_neg e4,Wcz a hrl];rfl
def mapOk(l:List Int):Bool:=decide (l.length=8)&&l.all λx=>decide (0≤x)&&decide (x≤65536)
structure ThOk(t:List Int×List Int×Int):Prop where
 cells:Vals 8 t.1
 map:t.2.1.length=8∧∀x∈t.2.1,0≤x∧x≤65536
 cnt:0≤t.2.2∧t.2.2≤65535
def thOk(t:List Int×List Int×Int):Bool:=Wkp t.1&&(mapOk t.2.1&&Wds t.2.2)
theorem thOk_iff{t:List Int×List Int×Int}:thOk t=true↔ThOk t:=by
 unfold thOk mapOk
 simp only[Xh,vals_iff,Wdf,decide_eq_true_eq,Xae]
 exact⟨λh=>⟨h.1,h.2.1,h.2.2⟩,λh=>⟨h.cells,h.map,h.cnt⟩⟩
theorem Wuh{l:List Int}(hl:l.length≤1048576)(hN:1048576<N):Zhy N l=ret (mapOk l):=by
 unfold Zhy mapOk
 have h1:=Wv (l:=l) (V:=Unit) (R:=Unit×(Bool×Unit)) (lp:=λn j v=>Zec N l (some ((),(false,()))) (λt11 t12=>(some ((),((ilen l)==(8:Int),())))) n j) (n:=N) (by omega)
  (body:=λj x v k=>bif !(decide (0≤x)&&decide (x≤65536))then some ((),(false,()))else k v) (K:=λ_ v=>some ((),((ilen l)==(8:Int),())))
  (λn i v hi=>by simp only[Zec,Wbb hi,Wk hi,Wm hi,We (show i<4611686018427387904 by omega),cond_true,Wj,ret,Xc])
  (λn v=>by simp only[Zec,Wbl (Xm l.length),cond_false]) ()
 refine h1.trans ?_
 rw[Wbs (p:=λx=>!(decide (0≤x)&&decide (x≤65536))) (E:=λ_=>some ((),(false,()))) l 0 () (λj x v k _=>rfl),Wfu]
 have e:((ilen l)==(8:Int))=decide (l.length=8):=by
  by_cases h:l.length=8
  ·simp[ilen,h]
  ·simp[ilen,h];omega
 rw[e]
 cases l.all _<;>cases decide (l.length=8)<;>rfl
theorem Wvm{t:List Int×List Int×Int}(h1:t.1.length≤1048576)(h2:t.2.1.length≤1048576)(hN:1048576<N):Zk7 N t=ret (thOk t):=by
 unfold Zk7 thOk
 rw[Wrr h1 hN,Wuh h2 hN,Wi]
 cases Wkp t.1<;>cases mapOk t.2.1<;>rfl
def Wmb:List Int→Nat→List Int→List Int
 | [],_,l=>l
 |x::m,k,l=>Wmb m (k+1) (if x>0 then slPut l k (x-1)else l)
def slFrom(m:List Int):List Int:=Wmb m 0 (Xv 16 0)
theorem slZero_ok:SlOk (Xv 16 0) where
 len:=by simp
 each:=λi h=>.inl (Xbq ..)
 one:=λi j hi hj _ h=>absurd (Xbq ..) h
theorem Wte:∀(m:List Int) (k:Nat) (l:List Int),k+m.length≤8→(∀x∈m,0≤x∧x≤65536)→SlOk l→SlOk (Wmb m k l)
 | [],_,l,_,_,h=>h
 |x::m,k,l,hk,hx,h=>by
  have h0:=hx x (Xi ..)
  rw[Xr]at hk
  refine Wte m (k+1) _ (by omega) (λy hy=>hx y (Xe _ hy)) ?_
  split
  ·exact Wsl h (by omega) (by omega)
  ·exact h
theorem slFrom_ok{m:List Int}(hl:m.length=8)(hx:∀x∈m,0≤x∧x≤65536):SlOk (slFrom m):=Wte m 0 _ (by omega) hx slZero_ok
theorem Wqp{m:List Int}(hl:m.length=8)(hx:∀x∈m,0≤x∧x≤65536)(hN:1048576<N):Zbo N m=ret (slFrom m):=by
 have hm:mapOk m=true:=by unfold mapOk;simp only[Xh,decide_eq_true_eq,Xae];exact⟨hl,hx⟩
 unfold Zbo slFrom
 rw[Wuh (by omega) hN,hm]
 simp only[ret,Xc,Xaa,cond_false]
 rw[show Zon N=ret (Xv 16 0)from rfl]
 simp only[ret,Xc]
 have lp:∀(d j n:Nat) (l:List Int),j+d=m.length→d<n→SlOk l→Zbw N m (λt14 t15 l16=>(some ((),(l16,())))) n (j:Int) l=ret (Wmb (m.drop j) j l):=by
  intro d
  induction d with
  |zero=>
   intro j n l hj hn hs
   obtain⟨n,rfl⟩:∃n',n=n'+1:=⟨n-1,by omega⟩
   have:j=m.length:=by omega
   subst this
   simp only[Zbw,Wbl (Xm _),cond_false,Xdk,Wmb]
  |succ d ih=>
   intro j n l hj hn hs
   obtain⟨n,rfl⟩:∃n',n=n'+1:=⟨n-1,by omega⟩
   have hlt:j<m.length:=by omega
   have hb:=hx m[j] (Xt hlt)
   simp only[Zbw,Wbb hlt,Wk hlt,Wm hlt,We (show j<4611686018427387904 by omega),cond_true,Wbv]
   rw[Xby hlt,Wmb]
   by_cases h0:m[j]>0
   ·rw[if_pos h0,if_pos h0,Wbm (by unfold I64;omega),Whe hs (by omega) (by omega) hN]
    exact ih (j+1) n _ (by omega) (by omega) (Wsl hs (by omega) (by omega))
   ·rw[if_neg h0,if_neg h0]
    exact ih (j+1) n _ (by omega) (by omega) hs
 have:=lp m.length 0 N (Xv 16 0) (by omega) (by omega) slZero_ok
 rw[Xcc]at this
 exact this
end
section
abbrev Hd:=Int×Int×Int
def HdV(h:Hd):Prop:=(1≤h.1∧h.1≤9)∧(0≤h.2.1∧h.2.1≤8)∧1≤h.2.2∧h.2.2≤2
def HdB(a b:Hd):Prop:=cfH a b<0∧(a.2.1=b.2.1→a.2.2≠2∧b.2.2≠2)
structure HOk(l:List Hd):Prop where
 val:∀h∈l,HdV h
 up:l.Pairwise HdB
theorem HOk.ris{l:List Hd}(h:HOk l):Ris cfH l:=h.up.imp λh=>h.1
def Wnb(l:List Hd)(who:Int):List Int:=(l.filter λh=>decide (h.1=who)).map (·.2.1)
def blk(who what mode:Int)(h:Hd):Bool:=decide (h.2.1=what)&&(decide (h.1≠who)&&(decide (mode=2)||decide (h.2.2=2)))
def Wop(l:List Hd)(who what mode:Int):List Int:=(l.filter (blk who what mode)).map (·.1)
def hdIs(who what:Int)(h:Hd):Bool:=decide (h.1=who)&&decide (h.2.1=what)
def hdOf(l:List Hd)(who what:Int):Int:=match fnd (hdIs who what) l 0 with
 |some r=>r.2.2.2
 |none=>0
def maxJ(a b:Int):Int:=if a≤b then b else a
def Wqa(l:List Hd)(who what mode:Int):List Hd:=Wnt cfH l (who,what,maxJ (hdOf l who what) mode)
def Wcs(l:List Hd)(who what mode:Int):Option (List Hd):=if Wop l who what mode= []then some (Wqa l who what mode)else none
def Wat(l:List Hd)(who:Int):List Hd:=l.filter λh=>!(h.1==who)
theorem Why{α:Type}{a b:Int}{x y:α}:(bif a !=b then x else y)=if a=b then y else x:=by
 by_cases h:a=b
 ·have:(a !=b)=false:=by simpa using h
  rw[this,if_pos h];rfl
 ·have:(a !=b)=true:=by simpa using h
  rw[this,if_neg h];rfl
theorem ris_ext{α:Type}{cf:α→α→Int}(hc:Lin cf){L M:List α}(hL:Ris cf L)(hM:Ris cf M)(hm:∀x,x∈L↔x∈M):L=M:=by
 rw[←sort_eq hc hM (hL.imp λh=>.inl h) hm,sort_eq hc hL (hL.imp λh=>.inl h) λx=>Iff.rfl]
theorem apH{a b:Hd}:Ap cfH a b↔¬(a.1=b.1∧a.2.1=b.2.1):=by unfold Ap;rw[Wek,Wek];omega
theorem cfH_congr{a b c d:Hd}(h1:a.1=c.1)(h2:a.2.1=c.2.1)(h3:b.1=d.1)(h4:b.2.1=d.2.1):cfH a b<0↔cfH c d<0:=by rw[Wek,Wek];omega
variable{N:Nat}{l:List Hd}{who what mode:Int}
theorem ris_setH(h:Ris cfH l){i:Nat}(hi:i<l.length){e:Hd}(h1:e.1=l[i].1)(h2:e.2.1=l[i].2.1):Ris cfH (l.set i e):=by
 unfold Ris at*
 rw[Xay]at*
 intro a b ha hb hab
 rw[Xad]at ha hb
 rw[Xaq,Xaq]
 have:=h a b ha hb hab
 by_cases c1:i=a
 ·subst c1
  rw[if_pos rfl,if_neg (by omega)]
  exact(cfH_congr h1 h2 rfl rfl).2 this
 ·rw[if_neg c1];by_cases c2:i=b
  ·subst c2;rw[if_pos rfl];exact(cfH_congr rfl rfl h1 h2).2 this
  ·rw[if_neg c2];exact this
theorem set_put(h:Ris cfH l){i:Nat}(hi:i<l.length){e:Hd}(h1:e.1=l[i].1)(h2:e.2.1=l[i].2.1):l.set i e=Wnt cfH l e:=by
 refine ris_ext linH (ris_setH h hi h1 h2) (Whf linH h) λx=>?_
 rw[(apart_set linH (h.imp λh=>.inl h) hi (by rw[apH];intro h;exact h ⟨h1.symm,h2.symm⟩)).2 x,Wes linH h]
theorem hdV_iff{h:Hd}:(decide (1≤h.1)&&decide (h.1≤9))=true∧(decide (0≤h.2.1)&&decide (h.2.1≤8))=true∧(decide (1≤h.2.2)&&decide (h.2.2≤2))=true↔HdV h:=by
 unfold HdV;simp only[Xh,decide_eq_true_eq]
theorem Wmo{h:Hd}(hv:HdV h):Zim N h.1 h.2.1 h.2.2=ret true:=by
 obtain⟨a,b,c⟩:=hdV_iff.2 hv
 unfold Zim
 simp only[Wj,ret,Xc,a,b,c,cond_true]
theorem implCmpH_run{a b:Hd}(ha:HdV a)(hb:HdV b):Zh9 N a b=ret (cfH a b):=by
 obtain⟨a1,a2,a3⟩:=ha
 obtain⟨b1,b2,b3⟩:=hb
 unfold Zh9 cfH
 rw[Wbm (by unfold I64;omega),Wbm (by unfold I64;omega)]
 by_cases h:a.2.1=b.2.1
 ·rw[show(a.2.1 !=b.2.1)=false by simpa using h,show(a.2.1==b.2.1)=true by simpa using h];rfl
 ·rw[show(a.2.1 !=b.2.1)=true by simpa using h,show(a.2.1==b.2.1)=false by simpa using h];rfl
theorem Weu(h:HOk l)(hl:l.length≤1048576)(hN:1048576<N):Zen N l=ret true:=by
 have lp:∀(d j n:Nat),j+d=l.length→d<n→Za2 N l (some ((),(false,()))) (λt14 t15=>(some ((),(true,())))) n (j:Int)=ret true:=by
  intro d
  induction d with
  |zero=>
   intro j n hj hn
   obtain⟨n,rfl⟩:∃n',n=n'+1:=⟨n-1,by omega⟩
   have:j=l.length:=by omega
   subst this
   simp only[Za2,Wbl (Xm _),cond_false]
  |succ d ih=>
   intro j n hj hn
   obtain⟨n,rfl⟩:∃n',n=n'+1:=⟨n-1,by omega⟩
   have hlt:j<l.length:=by omega
   have hv:=h.val l[j] (Xt hlt)
   have hrec:=ih (j+1) n (by omega) (by omega)
   simp only[Za2,Wbb hlt,Wk hlt,Wm hlt,We (show j<4611686018427387904 by omega),cond_true,Wmo hv,ret,Xc,Xaa,cond_false,hrec]
   by_cases h0:j=0
   ·subst h0;rfl
   ·have e1:decide ((j:Int)>0)=true:=by simp;omega
    have e2:isub .i64 (j:Int) 1=((j-1:Nat):Int):=by rw[Wbm (by unfold I64;omega)];omega
    have hl1:j-1<l.length:=by omega
    have hw:=h.val l[j-1] (Xt hl1)
    have hb:=Xay.1 h.up (j-1) j hl1 hlt (by omega)
    simp only[e1,e2,cond_true,Wk hl1,Wm hl1,implCmpH_run hw hv,ret,Xc]
    rw[decide_eq_false (show¬(cfH l[j-1] l[j]≥0) by have:=hb.1;omega)]
    simp only[cond_false,Wn]
    by_cases hs:l[j-1].2.1=l[j].2.1
    ·rw[if_pos hs,if_neg (hb.2 hs).2,if_neg (hb.2 hs).1]
    ·rw[if_neg hs]
 exact lp l.length 0 N (by omega) (by omega)
theorem Wth{α β R:Type}{body:Int→α→List β→(List β→Option R)→Option R}{K:Int→List β→Option R}{p:α→Bool}{f:α→β}:∀(l:List α) (j:Nat) (o:List β),o.length+l.length≤2000000→
  (∀(j:Nat) x (v:List β) k,x∈l→v.length≤2000000→body j x v k=bif p x then k (v++ [f x])else k v)→Wfk body K l j o=K ((j+l.length:Nat):Int) (o++(l.filter p).map f)
 | [],j,o,_,_=>by simp[Wfk]
 |x::l,j,o,h,hb=>by
  rw[Xr]at h
  rw[Wfk,hb j x o _ (Xi ..) (by omega),Xbh]
  have ih:=λo' ho'=>Wth (body:=body) (K:=K) (p:=p) (f:=f) l (j+1) o' ho' λj y v k hy=>hb j y v k (Xe _ hy)
  cases hp:p x
  ·simp only[cond_false,Xbm,if_false]
   rw[ih o (by omega),Xr,show j+1+l.length=j+(l.length+1) by omega]
  ·simp only[cond_true,if_true]
   rw[ih _ (by simp;omega),Xr,show j+1+l.length=j+(l.length+1) by omega]
   simp
theorem Wue(h:HOk l)(hl:l.length≤1048576)(hN:1048576<N):Zgj N l who=ret (Wnb l who):=by
 unfold Zgj Wnb
 rw[Weu h hl hN]
 simp only[ret,Xc,Xaa,cond_false]
 have h1:=Wv (l:=l) (V:=List Int) (R:=Unit×(List Int×Unit)) (lp:=λn j v=>Zce N who l (λt12 t13 l14=>(some ((),(l14,())))) n j v) (n:=N) (by omega)
  (body:=λj x v k=>bif x.1==who then(bif room (v.length+ [x.2.1].length)then k (Xf v [x.2.1])else none)else k v) (K:=λ_ v=>ret v)
  (λn i v hi=>by simp only[Zce,Wbb hi,Wk hi,Wm hi,We (show i<4611686018427387904 by omega),cond_true])
  (λn v=>by simp only[Zce,Wbl (Xm l.length),cond_false]) []
 refine h1.trans ?_
 rw[Wth (p:=λh=>decide (h.1=who)) (f:=(·.2.1)) l 0 [] (by simp;omega) (λj x v k _ hv=>by rw[Ww (by simp;omega)];simp only[Wn,Wbv,cond_true,Xah])]
 rfl
theorem Wuv(h:HOk l)(hm:1≤mode∧mode≤2)(hl:l.length≤1048576)(hN:1048576<N):Zin N l who what mode=ret (Wop l who what mode):=by
 unfold Zin Wop
 rw[Weu h hl hN]
 simp only[ret,Xc,Xaa,cond_false,Wj,decide_eq_true hm.1,decide_eq_true hm.2,Xbr]
 have h1:=Wv (l:=l) (V:=List Int) (R:=Unit×(List Int×Unit)) (lp:=λn j v=>Zbk N who what mode l (λt17 t18 l19=>(some ((),(l19,())))) n j v) (n:=N) (by omega)
  (body:=λj x v k=>bif x.2.1==what then(bif x.1 !=who then(bif mode==2 then(bif room (v.length+ [x.1].length)then k (Xf v [x.1])else none)else(bif x.2.2==2 then(bif room (v.length+ [x.1].length)then k (Xf v [x.1])else none)else k v))else k v)else k v) (K:=λ_ v=>ret v)
  (λn i v hi=>by simp only[Zbk,Wbb hi,Wk hi,Wm hi,We (show i<4611686018427387904 by omega),cond_true])
  (λn v=>by simp only[Zbk,Wbl (Xm l.length),cond_false]) []
 refine h1.trans ?_
 rw[Wth (p:=blk who what mode) (f:=(·.1)) l 0 [] (by simp;omega) (λj x v k _ hv=>by
  rw[Ww (by simp;omega)]
  unfold blk
  simp only[Wn,Why,cond_true,Xah]
  by_cases c1:x.2.1=what<;>by_cases c2:x.1=who<;>by_cases c3:mode=2<;>by_cases c4:x.2.2=2<;>simp[c1,c2,c3,c4])]
 rfl
theorem hdOf_bd(h:HOk l):0≤hdOf l who what∧hdOf l who what≤2:=by
 unfold hdOf
 cases hf:fnd (hdIs who what) l 0 with
 |none=>simp
 |some r=>
  have:=Whj hf
  have:=h.val r.2 (Xav this.2.2.2)
  unfold HdV at this
  simp only
  omega
theorem Wts(h:HOk l)(hw:1≤who∧who≤9)(ht:0≤what∧what≤8)(hm:1≤mode∧mode≤2)(hl:l.length≤1048000)(hN:1048576<N):
  Zhq N l who what mode=some ((),((Wcs l who what mode).getD l,((Wcs l who what mode).isSome,()))):=by
 unfold Zhq Wcs
 have hcp:Zee N l=ret l:=by unfold Zee;rw[Ww (by omega)];rfl
 have hih:Zim N who what mode=ret true:=Wmo (h:=(who,what,mode)) ⟨hw,ht,hm⟩
 rw[hcp,Weu h (by omega) hN,hih,Wuv h hm (by omega) hN]
 simp only[ret,Xc,Xaa,cond_false,Wbv]
 by_cases hb:Wop l who what mode= []
 ·rw[if_neg (by rw[hb];simp[ilen]),if_pos hb]
  have h1:=Wxk (l:=l) (p:=hdIs who what) (N:=N) (lp:=λn j=>Zcf N who what mode (ilen l) l (λl18=>(some ((),(l18,(true,()))))) (λt19 t20=>
  (bif room ((Xa l)+(Xa ([(who,(what,mode))])))then
 ((Zy N (Xf l ([(who,(what,mode))]))).bind λo21=>
 (some ((),(o21.1.1,(true,())))))else none)) n j)
   (K0:=λj=>some ((),(l.set j.toNat ((l.getD j.toNat (0,0,0)).1,(l.getD j.toNat (0,0,0)).2.1,maxI (l.getD j.toNat (0,0,0)).2.2 mode),(true,())))) (K1:=(bif room ((Xa l)+(Xa ([(who,(what,mode))])))then
 ((Zy N (Xf l ([(who,(what,mode))]))).bind λo21=>
 (some ((),(o21.1.1,(true,())))))else none)) (by omega) (by omega)
   (λn j hj=>by
    simp only[Zcf,Wbb hj,Wk hj,Wm hj,We (show j<4611686018427387904 by omega),cond_true]
    unfold hdIs
    simp only[Wn,cond_and,Wbv])
   (λn=>by simp only[Zcf,Wbl (Xm _),cond_false])
  rw[h1]
  unfold Wqa hdOf
  cases hf:fnd (hdIs who what) l 0 with
  |some r=>
   obtain⟨g1,g2,g3,g4⟩:=Whj hf
   rw[Xbb]at g3
   rw[Xda,Xs g3]at g4
   injection g4 with g4
   unfold hdIs at g1
   simp only[Xh,decide_eq_true_eq]at g1
   simp only[Wm g3,g4,Xdy,Xfg]
   rw[Xj]
   have:maxI r.2.2.2 mode=maxJ r.2.2.2 mode:=by unfold maxI maxJ;first|rfl|omega|(split<;>split<;>omega)
   rw[this,g1.1,g1.2,set_put h.ris g3 (e:=(who,what,maxJ r.2.2.2 mode)) (by rw[g4];exact g1.1.symm) (by rw[g4];exact g1.2.symm)]
  |none=>
   have hn:=Wsa hf
   simp only
   rw[Ww (by simp;omega)]
   have hmx:maxJ 0 mode=mode:=by unfold maxJ;rw[if_pos (by omega)]
   have hap:=Wxg (cf:=cfH) (L:=l) (e:=(who,what,mode)) (h.ris.imp λh=>.inl h) (λx hx=>by
    rw[apH]
    have:=hn x hx
    unfold hdIs at this
    simp only[Xck,decide_eq_false_iff_not]at this
    simp only
    omega)
   unfold Zy
   simp only[cond_true,Xah]
   rw[sort_run (rng:=rngH) (N:=N) linH (M:=Wnt cfH l (who,what,mode)) (Whf linH h.ris) hap.1 (λx=>by rw[hap.2 x,Wes linH h.ris]) (λx hx=>by
    rcases Xn.1 hx with hx|hx
    ·have:=h.val x hx
     unfold HdV at this
     unfold rngH rngI;simp;omega
    ·rw[Xac]at hx;subst hx
     unfold rngH rngI;simp;omega) (by simp;omega)]
   simp only[Xc,hmx,Xdy,Xfg]
 ·rw[if_pos (by
   have:(Wop l who what mode).length≠0:=λh=>hb (List.eq_nil_of_length_eq_zero h)
   unfold ilen;omega),if_neg hb]
  rfl
theorem holdPut_ok(h:HOk l)(hw:1≤who∧who≤9)(ht:0≤what∧what≤8)(hm:1≤mode∧mode≤2)(hb:Wop l who what mode= []):HOk (Wqa l who what mode):=by
 have hbd:=hdOf_bd (who:=who) (what:=what) h
 have hbl:∀x∈l,x.2.1=what→x.1≠who→mode≠2∧x.2.2≠2:=λx hx h1 h2=>by
  refine Classical.byContradiction λhc=>?_
  have:x.1∈Wop l who what mode:=Xu.2 ⟨x,Xas.2 ⟨hx,by unfold blk;simp[h1,h2];omega⟩,rfl⟩
  rw[hb]at this;cases this
 have hof:∀x∈l,x.2.1=what→x.1≠who→hdOf l who what≠2:=λx hx h1 h2=>by
  unfold hdOf
  cases hf:fnd (hdIs who what) l 0 with
  |none=>simp
  |some r=>
   obtain⟨g1,g2,g3,g4⟩:=Whj hf
   rw[Xbb]at g3
   rw[Xda,Xs g3]at g4
   injection g4 with g4
   unfold hdIs at g1
   simp only[Xh,decide_eq_true_eq]at g1
   obtain⟨j,hj,rfl⟩:=Xat hx
   have hp:=Xay.1 h.up
   simp only
   rw[←g4]at g1⊢
   rcases Xei r.1 j with hlt|heq|hlt
   ·exact((hp r.1 j g3 hj hlt).2 (by rw[h1,g1.2])).1
   ·subst heq;exact absurd g1.1 h2
   ·exact((hp j r.1 hj g3 hlt).2 (by rw[h1,g1.2])).2
 unfold Wqa
 refine⟨λx hx=>?_,?_⟩
 ·rcases(Wes linH h.ris).1 hx with rfl|hx
  ·refine⟨hw,ht,?_⟩
   simp only;unfold maxJ;split<;>omega
  ·exact h.val x hx.1
 ·have hr:=Whf (e:=(who,what,maxJ (hdOf l who what) mode)) linH h.ris
  have hmem:=λx=>Wes (e:=(who,what,maxJ (hdOf l who what) mode)) (x:=x) linH h.ris
  have hmj:∀x∈l,x.2.1=what→x.1≠who→maxJ (hdOf l who what) mode≠2:=λx hx h1 h2=>by
   have:=hof x hx h1 h2
   have:=(hbl x hx h1 h2).1
   unfold maxJ;split<;>omega
  unfold Ris at hr
  rw[Xay]at hr⊢
  intro i j hi hj hij
  refine⟨hr i j hi hj hij,λhs=>?_⟩
  have hlt:=hr i j hi hj hij
  have m1:=(hmem _).1 (Xt hi)
  have m2:=(hmem _).1 (Xt hj)
  generalize (Wnt cfH l (who,what,maxJ (hdOf l who what) mode))[i]=x at*
  generalize (Wnt cfH l (who,what,maxJ (hdOf l who what) mode))[j]=y at*
  rcases m1 with rfl|m1<;>rcases m2 with rfl|m2
  ·exact absurd hlt (linH.irr _)
  ·have hk:=apH.1 m2.2
   simp only at hk hs
   exact⟨hmj y m2.1 hs.symm (λe=>hk ⟨e,hs.symm⟩),(hbl y m2.1 hs.symm (λe=>hk ⟨e,hs.symm⟩)).2⟩
  ·have hk:=apH.1 m1.2
   simp only at hk hs
   exact⟨(hbl x m1.1 hs (λe=>hk ⟨e,hs⟩)).2,hmj x m1.1 hs (λe=>hk ⟨e,hs⟩)⟩
  ·obtain⟨a,ha,rfl⟩:=Xat m1.1
   obtain⟨b,hb',rfl⟩:=Xat m2.1
   have hp:=Xay.1 h.up
   rcases Xei a b with hab|hab|hab
   ·exact(hp a b ha hb' hab).2 hs
   ·subst hab;exact absurd hlt (linH.irr _)
   ·exact absurd (linH.tr _ _ _ hlt (hp b a hb' ha hab).1) (linH.irr _)
theorem Wuf(h:HOk l):HOk (Wat l who):=⟨λx hx=>h.val x (Xas.1 hx).1,h.up.filter _⟩
theorem hold_len(h:HOk l):l.length≤81:=by
 have key:∀(l:List Hd) (c:Int),Ris cfH l→(∀e∈l,HdV e∧c≤9*e.2.1+e.1)→1≤c→(l.length:Int)≤82-c∨l= []:=by
  intro l
  induction l with
  |nil=>intro c _ _ _;exact .inr rfl
  |cons a l ih=>
   intro c hr hb hc
   left
   have h1:=List.pairwise_cons.1 hr
   have ha:=hb a (Xi ..)
   unfold HdV at ha
   rcases ih (9*a.2.1+a.1+1) h1.2 (λe he=>⟨(hb e (Xe _ he)).1,by
    have:=h1.1 e he
    rw[Wek]at this
    have hv:=(hb e (Xe _ he)).1
    unfold HdV at hv
    omega⟩) (by omega)with h|h
   ·rw[Xr];omega
   ·subst h;simp;omega
 rcases key l 1 h.ris (λe he=>⟨h.val e he,by have:=h.val e he;unfold HdV at this;omega⟩) (by omega)with h|h
 ·omega
 ·rw[h];simp
theorem Wus{α V R:Type}{body:Int→α→V→(V→Option R)→Option R}{K:Int→V→Option R}{p:α→Bool}{E:Int→V→Option R}:∀(l:List α) (j:Nat) (v:V),(∀(j:Nat) x v k,x∈l→body j x v k=bif p x then E j v else k v)→
  (∃a x r,l=a++x::r∧(∀y∈a,p y=false)∧p x=true∧Wfk body K l j v=E ((j+a.length:Nat):Int) v)∨((∀y∈l,p y=false)∧Wfk body K l j v=K ((j+l.length:Nat):Int) v)
 | [],j,v,_=>.inr ⟨by simp,rfl⟩
 |x::l,j,v,h=>by
  rw[Wfk,h j x v _ (Xi ..)]
  cases hp:p x
  ·simp only[cond_false]
   rcases Wus (E:=E) l (j+1) v λj y v k hy=>h j y v k (Xe _ hy)with⟨a,y,r,h1,h2,h3,h4⟩|⟨h1,h2⟩
   ·refine .inl ⟨x::a,y,r,by rw[h1];rfl,λz hz=>?_,h3,?_⟩
    ·rcases Xo.1 hz with rfl|hz
     ·exact hp
     ·exact h2 z hz
    ·rw[h4,Xr,show j+1+a.length=j+(a.length+1) by omega]
   ·refine .inr ⟨λz hz=>?_,?_⟩
    ·rcases Xo.1 hz with rfl|hz
     ·exact hp
     ·exact h1 z hz
    ·rw[h2,Xr,show j+1+l.length=j+(l.length+1) by omega]
  ·exact .inl ⟨[],x,l,rfl,by simp,hp,rfl⟩
theorem del_lp{N:Nat}(a0:Int){R:Type}(K:Int→Int→Bool→List Hd→Int→Option R):
  ∀(r a m:List Hd) (n:Nat),r.length<n→a.length+m.length+r.length≤1048576→∃m',
   Zd N K n (a.length:Int) ((a.length+m.length:Nat):Int) (a++m++r) a0=
    K ((a++r.filter λx=>!(x.1==a0)).length:Int) ((a.length+m.length+r.length:Nat):Int) false ((a++r.filter λx=>!(x.1==a0))++m') a0
 | [],a,m,0,h,_=>by simp at h
 | [],a,m,n+1,h,_=>by
  refine⟨m,?_⟩
  have e1:decide (((a.length+m.length:Nat):Int)<ilen (a++m++ []))=false:=by simp[ilen]
  simp only[Zd,e1,cond_false]
  simp
 |x::r,a,m,0,h,_=>by simp at h
 |x::r,a,m,n+1,h,hb=>by
  simp only[Xr]at h hb
  have hj:a.length+m.length<(a++m++x::r).length:=by simp
  have hi:a.length<(a++m++x::r).length:=by simp;omega
  have hx:Xd (a++m++x::r) (a.length+m.length) ((0:Int),((0:Int),(0:Int)))=x:=by
   have:a.length+m.length=(a++m).length:=by simp
   rw[this,Xbc,List.getElem?_append_right (Xm _)]
   simp
  cases hp:x.1==a0
  ·obtain⟨m2,hm2,hm3⟩:∃m2:List Hd,m2.length=m.length∧(a++m++x::r).set a.length x=(a++ [x])++m2++r:=by
    cases m with
    |nil=>exact⟨[],rfl,by rw[Xcw,Wie];simp⟩
    |cons y m=>exact⟨m++ [x],by simp,by rw[show a++(y::m)++x::r=a++y::(m++x::r) by simp,Wie];simp⟩
   obtain⟨m',ih⟩:=del_lp (N:=N) a0 K r (a++ [x]) m2 n (by omega) (by simp;omega)
   refine⟨m',?_⟩
   simp only[Zd,Zfw,Wbb hj,Wk hj,Wk hi,Xj,hx,hp,Xc,cond_true,Xdj,Xj,hm3,
    We (show a.length<4611686018427387904 by omega),We (show a.length+m.length<4611686018427387904 by omega)]
   have l1:(a++ [x]).length=a.length+1:=by simp
   rw[l1,hm2,show a.length+1+m.length=a.length+m.length+1 by omega]at ih
   rw[ih]
   simp only[Xbh,hp,Xdj,if_true,Xbs,Xen,Xr]
   rw[show a.length+m.length+1+r.length=a.length+m.length+(r.length+1) by omega]
  ·obtain⟨m',ih⟩:=del_lp (N:=N) a0 K r a (m++ [x]) n (by omega) (by simp;omega)
   refine⟨m',?_⟩
   simp only[Zd,Zfw,Wbb hj,Wk hj,Wk hi,Xj,hx,hp,Xc,cond_true,cond_false,Xaa,
    We (show a.length+m.length<4611686018427387904 by omega)]
   simp only[Xz,Xr,Xed,Xbb]at ih
   rw[show a.length+(m.length+1)=a.length+m.length+1 by omega,show a++(m++ [x])++r=a++m++x::r by simp]at ih
   rw[ih]
   simp only[Xbh,hp,Xaa,if_false,Xbm,Xr]
   simp only[Xz]
   rw[show a.length+m.length+1+r.length=a.length+m.length+(r.length+1) by omega]
theorem delete_run{N:Nat}{s:List Hd}{a0:Int}(hN:1048576<N)(hs:s.length≤100000):
  Zs N s a0=some ((a0,()),(s.filter λx=>!(x.1==a0),())):=by
 unfold Zs
 have h1:=Wv (l:=s) (V:={v:Int//v=a0}) (R:=(Int×Unit)×(Int×Unit)) (lp:=λn j v=>Zl N s (λt15 b16=>some ((b16,()),(t15,()))) (λt17 t18 b19=>some ((b19,()),((-1:Int),()))) n j v.1) (n:=N) (by omega)
  (body:=λj x v k=>bif x.1==a0 then some ((v.1,()),(j,()))else k v) (K:=λ_ v=>some ((v.1,()),((-1:Int),())))
  (λn i v hi=>by
   obtain⟨v,rfl⟩:=v
   simp only[Zl,Wbb hi,Wk hi,Wm hi,We (show i<4611686018427387904 by omega),cond_true,Zfw,Xc])
  (λn v=>by simp only[Zl,Wbl (Xm s.length),cond_false]) ⟨a0,rfl⟩
 simp only[]at h1
 unfold Z0
 rw[h1]
 rcases Wus (body:=λj x (v:{v:Int//v=a0}) k=>bif x.1==a0 then some ((v.1,()),(j,()))else k v) (K:=λ_ v=>(some ((v.1,()),((-1:Int),())):Option ((Int×Unit)×(Int×Unit)))) (p:=λx=>x.1==a0)
  (E:=λj v=>some ((v.1,()),(j,()))) s 0 ⟨a0,rfl⟩ (λj x v k _=>rfl)with⟨a,x,r,hs',ha,hx,hr⟩|⟨ha,hr⟩
 ·rw[hr]
  simp only[Xc,Xbb]
  have e0:((a.length:Int)== -1)=false:=by simp
  rw[e0,We (show a.length<4611686018427387904 by rw[hs']at hs;simp at hs;omega)]
  simp only[cond_false]
  obtain⟨m',hd⟩:=del_lp (N:=N) a0 (λi15 j16 t17 l18 b19=>
     (bif (decide ((0:Int)≤i15))&&(decide (i15≤((Xa l18):Int)))then
      (bif (decide ((0:Int)≤i15))&&(decide (i15≤((Xa ((Xar (Xb i15) l18)++Xv ((Xa l18) -(Xb i15)) ((0:Int),((0:Int),(0:Int)))++(Xcz (Xa l18) l18))):Int)))then
       (some ((b19,()),(Xar (Xb i15) ((Xar (Xb i15) l18)++Xv ((Xa l18) -(Xb i15)) ((0:Int),((0:Int),(0:Int)))++(Xcz (Xa l18) l18)),())))else none)else none)) r a [x] N (by rw[hs']at hs;simp at hs;omega) (by rw[hs']at hs;simp at hs;simp;omega)
  rw[show a++ [x]++r=s by rw[hs'];simp]at hd
  simp only[Xr,Xed,Xbb]at hd
  rw[hd]
  have hf:(s.filter λx=>!(x.1==a0))=a++r.filter λx=>!(x.1==a0):=by
   rw[hs',List.filter_append,Xbh]
   have:(a.filter λx=>!(x.1==a0))=a:=Xgh.2 λy hy=>by simp[ha y hy]
   rw[this]
   simp[hx]
  rw[←hf]
  generalize (s.filter λx=>!(x.1==a0))=f
  have c1:(decide ((0:Int)≤(f.length:Int))&&decide ((f.length:Int)≤((Xa (f++m')):Int)))=true:=by
   rw[Xh]
   refine⟨by simp,decide_eq_true ?_⟩
   rw[Xz];omega
  rw[c1]
  simp only[cond_true,Xj,List.take_left',List.take_append_of_le_length (Xm f.length),List.take_length]
  have c2:(decide ((0:Int)≤(f.length:Int))&&decide ((f.length:Int)≤((Xa (f++Xv ((f++m').length-f.length) ((0:Int),((0:Int),(0:Int)))++Xcz (f++m').length (f++m'))):Int)))=true:=by
   rw[Xh]
   refine⟨by simp,decide_eq_true ?_⟩
   rw[Xz,Xz];omega
  rw[c2]
  simp[Xbs]
 ·rw[hr]
  simp only[Xc]
  have:(s.filter λx=>!(x.1==a0))=s:=Xgh.2 λy hy=>by simp[ha y hy]
  rw[this]
  rfl
theorem Wry(h:HOk l)(hl:l.length≤100000)(hN:1048576<N):Zk8 N l who=ret (Wat l who):=by
 have hcp:Zee N l=ret l:=by unfold Zee;rw[Ww (by omega)];rfl
 unfold Zk8
 rw[hcp,Weu h (by omega) hN]
 simp only[ret,Xc,Xaa,cond_false]
 rw[delete_run hN hl]
 rfl
end
section
structure Cm where
 who:Int:=0
 rv:Int:=0
 phase:Int:=0
 pos:Int:=0
 wv:Int:=0
 puts:List Rw:=[]
 reads:List Int:=[]
def Cm.e(c:Cm):Int×Int×Int×Int×Int×List (Int×Int)×List Int:=(c.who,c.rv,c.phase,c.pos,c.wv,c.puts,c.reads)
def Cm.steps(c:Cm):Int:=
 if c.phase=1∨c.phase=4∨c.phase=5∨c.phase=7 then c.puts.length else if c.phase=3 then c.reads.length else 1
def Wbn(c:Cm)(n:Int):Cm:=if n=0 then{c with phase:=8,pos:=0}else{c with phase:=7,pos:=n-1}
def Wdn(c:Cm)(ph:Int):Int:=
 if(ph=3∧c.reads.length=0∨ph=4)∧c.puts.length=0 then 6 else if ph=3∧c.reads.length=0 then 4 else ph
def Wif(c:Cm)(ph:Int):Cm:={c with phase:=Wdn c ph,pos:=0}
def Wal(c:Cm)(ph:Int):Cm:=if c.pos+1=c.steps then Wif c ph else{c with pos:=c.pos+1}
def zWd:Wd:=(0,0,0)
def Wak(m:Mm)(i:Int):Wd:=getI m.2 i zWd
def setW(m:Mm)(i:Int)(w:Wd):Mm:=(m.1,setI m.2 i w)
def mLock(m:Mm)(i who:Int):Mm:=setW m i ((Wak m i).1,(Wak m i).2.1,who)
def Wko(m:Mm)(i who v:Int):Mm:=if(Wak m i).2.2=who then setW m i (v,(Wak m i).2)else m
def Wfh(m:Mm)(i who ver:Int):Mm:=if(Wak m i).2.2=who∧(Wak m i).2.1≤ver∧ver≤m.1 then setW m i ((Wak m i).1,ver,0)else m
def Waa(m:Mm)(c:Cm):Mm×Cm:=
 let p:=getI c.puts c.pos (0,0)
 if c.phase=1 then(if(Wak m p.1).2.2=0 then(mLock m p.1 c.who,Wal c 2)else(m,Wbn c c.pos))else
 if c.phase=2 then(if(tick m).2=0 then((tick m).1,Wbn c c.puts.length)else((tick m).1,Wif {c with wv:=(tick m).2} 3))else
 if c.phase=3 then
  let w:=Wak m (getI c.reads c.pos 0)
  if(w.2.2≠0∧w.2.2≠c.who)∨w.2.1>c.rv then(m,Wbn c c.puts.length)else(m,Wal c 4)
 else
 if c.phase=4 then(Wko m p.1 c.who p.2,Wal c 5)else
 if c.phase=5 then(Wfh m p.1 c.who c.wv,Wal c 6)else
 if c.phase=7 then(Wfh m p.1 c.who (Wak m p.1).2.1,Wbn c c.pos)else
 (m,c)
def Wbt(c:Cm):Cm:=
 if c.phase=1 then Wbn c c.pos else if c.phase=2∨c.phase=3 then Wbn c c.puts.length else c
def Wdm(who rv:Int)(puts reads:List Rw):Cm:=
 {who:=who,rv:=rv,phase:=if(netR puts).length=0 then 2 else 1,puts:=netR puts,reads:=(netR reads).map (·.1)}
structure CmOk(c:Cm):Prop where
 who:1≤c.who∧c.who≤99
 rv:0≤c.rv∧c.rv≤1000000
 wv:0≤c.wv∧c.wv≤1000000
 phase:1≤c.phase∧c.phase≤8
 rows:Rows c.puts
 pup:c.puts.Pairwise λa b=>a.1<b.1
 plen:c.puts.length≤8
 rd:∀x∈c.reads,0≤x∧x≤7
 rup:c.reads.Pairwise (· < ·)
 rlen:c.reads.length≤8
 pos:0≤c.pos∧c.pos<c.steps
section
variable{N:Nat}{c:Cm}{m:Mm}
theorem CmOk.back(h:CmOk c){n:Int}(hn:0≤n∧n≤c.puts.length):CmOk (Wbn c n):=by
 unfold Wbn
 split
 ·exact{h with phase:=by(show(1:Int)≤8∧(8:Int)≤8;omega),pos:=by(unfold Cm.steps;simp)}
 ·exact{h with phase:=by(show(1:Int)≤7∧(7:Int)≤8;omega),pos:=by(unfold Cm.steps;simp;omega)}
theorem advTo_le(c:Cm){ph:Int}(h:2≤ph∧ph≤6):2≤Wdn c ph∧Wdn c ph≤6:=by unfold Wdn;split<;>(try split)<;>omega
theorem CmOk.adv(h:CmOk c){ph:Int}(hp:2≤ph∧ph≤6)(h5:ph=5→c.puts.length≠0):CmOk (Wif c ph):=by
 unfold Wif
 have:=advTo_le c hp
 refine{h with phase:=by(show 1≤Wdn c ph∧Wdn c ph≤8;omega),pos:=⟨Xw _,?_⟩}
 unfold Cm.steps
 simp only
 unfold Wdn
 split
 ·split
  ·omega
  ·split<;>omega
 ·split
  ·split<;>(try split)<;>omega
  ·split
   ·omega
   ·split<;>omega
theorem CmOk.next(h:CmOk c){ph:Int}(hp:2≤ph∧ph≤6)(h5:ph=5→c.puts.length≠0):CmOk (Wal c ph):=by
 unfold Wal
 split
 ·exact h.adv hp h5
 ·have:=h.pos
  exact{h with pos:=⟨by show 0≤c.pos+1;omega,by show c.pos+1<c.steps;omega⟩}
theorem setW_ok(hm:Waq m=true){i:Int}{w:Wd}(hw:isWd m.1 w=true):Waq (setW m i w)=true:=by
 obtain⟨h8,h0,h1,hall⟩:=Wz hm
 unfold Waq setW setI
 simp only[Xh,decide_eq_true_eq,Xae,Xad]
 refine⟨h8,⟨h0,h1⟩,λx hx=>?_⟩
 rcases List.mem_or_eq_of_mem_set hx with h|h
 ·exact hall x h
 ·subst h;exact hw
theorem Wlo(hm:Waq m=true){i:Int}(hi:0≤i∧i≤7):isWd m.1 (Wak m i)=true:=mem_wd hm hi
theorem tick_ok(hm:Waq m=true):Waq (tick m).1=true∧0≤(tick m).2∧(tick m).2≤1000000∧((tick m).2≠0→(tick m).2=m.1+1∧(tick m).1=(m.1+1,m.2))∧((tick m).2=0→(tick m).1=m):=by
 obtain⟨h8,h0,h1,hall⟩:=Wz hm
 unfold tick
 split
 ·refine⟨?_,by simp only;omega,by simp only;omega,λ_=>⟨rfl,rfl⟩,λh=>by simp only at h;omega⟩
  unfold Waq
  simp only[Xh,decide_eq_true_eq,Xae]
  refine⟨h8,⟨by omega,by omega⟩,λw hw=>?_⟩
  have:=Wit.1 (hall w hw)
  rw[Wit];omega
 ·exact⟨hm,by simp,by simp,λh=>absurd rfl h,λ_=>rfl⟩
theorem mLock_ok(hm:Waq m=true){i who:Int}(hi:0≤i∧i≤7)(hw:0≤who∧who≤99):Waq (mLock m i who)=true:=by
 have:=Wit.1 (Wlo hm hi)
 exact setW_ok hm (by rw[Wit];simp only;omega)
theorem mStore_ok(hm:Waq m=true){i who v:Int}(hi:0≤i∧i≤7)(hv:0≤v∧v≤65535):Waq (Wko m i who v)=true:=by
 have:=Wit.1 (Wlo hm hi)
 unfold Wko
 split
 ·exact setW_ok hm (by rw[Wit];simp only;omega)
 ·exact hm
theorem Wwy(hm:Waq m=true){i who ver:Int}(hi:0≤i∧i≤7):Waq (Wfh m i who ver)=true:=by
 have:=Wit.1 (Wlo hm hi)
 unfold Wfh
 split
 ·exact setW_ok hm (by rw[Wit];simp only;omega)
 ·exact hm
theorem CmOk.put(h:CmOk c)(hp:c.phase=1∨c.phase=4∨c.phase=5∨c.phase=7):∃(j:Nat) (hj:j<c.puts.length),c.pos=j∧getI c.puts c.pos (0,0)=c.puts[j]∧(0≤c.puts[j].1∧c.puts[j].1≤7)∧0≤c.puts[j].2∧c.puts[j].2≤65535:=by
 have:=h.pos
 unfold Cm.steps at this
 rw[if_pos hp]at this
 have hj:c.pos.toNat<c.puts.length:=by omega
 have hr:=h.rows _ (Xt hj)
 exact⟨c.pos.toNat,hj,by omega,Wc hj _,hr.1,hr.2⟩
theorem CmOk.read(h:CmOk c)(hp:c.phase=3):∃(j:Nat) (hj:j<c.reads.length),c.pos=j∧getI c.reads c.pos 0=c.reads[j]∧0≤c.reads[j]∧c.reads[j]≤7:=by
 have:=h.pos
 unfold Cm.steps at this
 rw[if_neg (by omega),if_pos hp]at this
 have hj:c.pos.toNat<c.reads.length:=by omega
 have hr:=h.rd _ (Xt hj)
 exact⟨c.pos.toNat,hj,by omega,Wc hj _,hr⟩
theorem cmStep_ok(h:CmOk c)(hm:Waq m=true):CmOk (Waa m c).2∧Waq (Waa m c).1=true:=by
 have hps:=h.pos
 have hl:c.phase=1∨c.phase=4∨c.phase=5∨c.phase=7→c.puts.length≠0:=λhp=>by obtain⟨j,hj,_⟩:=h.put hp;omega
 have hst:c.phase=1∨c.phase=4∨c.phase=5∨c.phase=7→c.pos<c.puts.length:=λhp=>by unfold Cm.steps at hps;rw[if_pos hp]at hps;exact hps.2
 have hw:=h.who
 unfold Waa
 simp only
 split
 ·obtain⟨j,hj,e1,e2,e3,e4⟩:=h.put (by omega)
  rw[e2]
  split
  ·exact⟨h.next (by omega) (by omega),mLock_ok hm e3 (by omega)⟩
  ·exact⟨h.back (by omega),hm⟩
 ·split
  ·have ht:=tick_ok hm
   split
   ·exact⟨h.back (by omega),ht.1⟩
   ·refine⟨?_,ht.1⟩
    have h':CmOk {c with wv:=(tick m).2}:={h with wv:=⟨ht.2.1,ht.2.2.1⟩}
    exact h'.adv (by omega) (by omega)
  ·split
   ·split
    ·exact⟨h.back (by omega),hm⟩
    ·exact⟨h.next (by omega) (by omega),hm⟩
   ·split
    ·obtain⟨j,hj,e1,e2,e3,e4⟩:=h.put (by omega)
     rw[e2]
     exact⟨h.next (by omega) (λ_=>hl (by omega)),mStore_ok hm e3 e4⟩
    ·split
     ·obtain⟨j,hj,e1,e2,e3,e4⟩:=h.put (by omega)
      rw[e2]
      exact⟨h.next (by omega) (by omega),Wwy hm e3⟩
     ·split
      ·obtain⟨j,hj,e1,e2,e3,e4⟩:=h.put (by omega)
       have:=hst (by omega)
       rw[e2]
       exact⟨h.back (by omega),Wwy hm e3⟩
      ·exact⟨h,hm⟩
theorem cmBreak_ok(h:CmOk c):CmOk (Wbt c):=by
 have hps:=h.pos
 unfold Wbt
 split
 ·have:c.pos<c.puts.length:=by unfold Cm.steps at hps;rw[if_pos (by omega)]at hps;exact hps.2
  exact h.back (by omega)
 ·split
  ·exact h.back (by omega)
  ·exact h
theorem Wxp{who rv:Int}{puts reads:List Rw}(hw:1≤who∧who≤99)(hr:0≤rv∧rv≤1000000):CmOk (Wdm who rv puts reads) where
 who:=hw
 rv:=hr
 wv:=by simp[Wdm]
 phase:=by unfold Wdm;simp only;split<;>omega
 rows:=Wof
 pup:=netR_up puts
 plen:=Wpa puts
 rd:=λx hx=>by
  obtain⟨r,hr,rfl⟩:=Xu.1 hx
  exact(Wof r hr).1
 rup:=by
  unfold Wdm
  simp only[Xej]
  exact netR_up reads
 rlen:=by unfold Wdm;simp only[Xaf];exact Wpa reads
 pos:=by
  unfold Wdm Cm.steps
  simp only
  refine⟨Xw _,?_⟩
  split
  ·simp
  ·simp;omega
theorem cmP(c:Cm):c.e.1=c.who∧c.e.2.1=c.rv∧c.e.2.2.1=c.phase∧c.e.2.2.2.1=c.pos∧c.e.2.2.2.2.1=c.wv∧c.e.2.2.2.2.2.1=c.puts∧c.e.2.2.2.2.2.2=c.reads:=⟨rfl,rfl,rfl,rfl,rfl,rfl,rfl⟩
theorem Wet{who:Int}:Zeo N who=ret (decide (1≤who)&&decide (who≤99)):=by unfold Zeo;rw[Wj];rfl
theorem Wjg(hm:Waq m=true):Zcj N m=ret m:=by
 have:=(Wz hm).1
 unfold Zcj;rw[Ww (by omega)];rfl
theorem Wwi(h:CmOk c):Zhg N c.e=ret c.e:=by
 unfold Zhg
 have:=h.plen
 have:=h.rlen
 rw[show Zbu N c.e.2.2.2.2.2.1=ret c.puts from Wig (show c.puts.length≤1048576 by omega),show Zw N c.e.2.2.2.2.2.2=ret c.reads from Wgk (show c.reads.length≤1048576 by omega)]
 rfl
theorem steps_run:Zc9 N c.e=ret c.steps:=by
 unfold Zc9 Cm.steps
 obtain⟨c0,c1,c2,c3,c4,c5,c6⟩:=cmP c
 simp only[Wn,c2,c5,c6,ilen]
 by_cases h1:c.phase=1
 ·simp[h1]
 ·by_cases h3:c.phase=3
  ·simp[h3]
  ·by_cases h4:c.phase=4
   ·simp[h4]
   ·by_cases h5:c.phase=5
    ·simp[h5]
    ·by_cases h7:c.phase=7
     ·simp[h7]
     ·simp[h1,h3,h4,h5,h7]
theorem Wqy(h:CmOk c)(hN:1048576<N):Zfg N c.e=ret true:=by
 obtain⟨c0,c1,c2,c3,c4,c5,c6⟩:=cmP c
 have hpl:=h.plen
 have hrl:=h.rlen
 have hw:=h.who
 have hrv:=h.rv
 have hwv:=h.wv
 have hph:=h.phase
 have hps:=h.pos
 have hro:Wdk c.puts=true:=by unfold Wdk;rw[Wzn.2 h.rows,decide_eq_true (by omega)];rfl
 unfold Zfg
 simp only[c0,c1,c2,c3,c4,c5,c6,Wet,Wj,Wgi (show c.puts.length≤1048576 by omega) hN,steps_run,ret,Xc,decide_eq_true hw.1,decide_eq_true hw.2,decide_eq_true hrv.1,decide_eq_true hrv.2,decide_eq_true hwv.1,decide_eq_true hwv.2,decide_eq_true hph.1,decide_eq_true hph.2,hro,Xbr,Xaa,cond_false]
 have hs8:c.steps≤8:=by unfold Cm.steps;split<;>(try split)<;>omega
 have hsb:isub .i64 c.steps 1=c.steps-1:=Wbm (by unfold I64;omega)
 rw[hsb,decide_eq_true hps.1,decide_eq_true (show c.pos≤c.steps-1 by omega)]
 have lp1:∀(d j n:Nat),j+d=c.reads.length→d<n→Zbr N c.reads c.e (some ((),(false,()))) (λt22 t23=>(some ((),(true&&true,())))) n (j:Int)=ret true:=by
  intro d
  induction d with
  |zero=>
   intro j n hj hn
   obtain⟨n,rfl⟩:∃n',n=n'+1:=⟨n-1,by omega⟩
   have:j=c.reads.length:=by omega
   subst this
   simp only[Zbr,c6,Wbl (Xm _),cond_false];rfl
  |succ d ih=>
   intro j n hj hn
   obtain⟨n,rfl⟩:∃n',n=n'+1:=⟨n-1,by omega⟩
   have hlt:j<c.reads.length:=by omega
   have hrec:=ih (j+1) n (by omega) (by omega)
   have hv:=h.rd _ (Xt hlt)
   have hcell:Waz c.reads[j]=true:=by unfold Waz;simpa using hv
   simp only[Zbr,c6,Wbb hlt,Wk hlt,Wm hlt,We (show j<4611686018427387904 by omega),cond_true,Wh,ret,Xc,hcell,Xaa,cond_false,hrec]
   by_cases h0:j=0
   ·subst h0;rfl
   ·have e1:decide ((j:Int)>0)=true:=by simp;omega
    have e2:isub .i64 (j:Int) 1=((j-1:Nat):Int):=by rw[Wbm (by unfold I64;omega)];omega
    have hl1:j-1<c.reads.length:=by omega
    have hb:=Xay.1 h.rup (j-1) j hl1 hlt (by omega)
    simp only[e1,e2,cond_true,Wk hl1,Wm hl1]
    rw[decide_eq_false (by omega)]
    rfl
 have lp0:∀(d j n:Nat),j+d=c.puts.length→d<n→1≤j→Zb3 N c.e (some ((),(false,()))) (λi11 t12=>(Zbr N c.reads c.e (some ((),(false,()))) (λt22 t23=>(some ((),(true&&true,())))) N (0:Int))) n (j:Int)=ret true:=by
  intro d
  induction d with
  |zero=>
   intro j n hj hn _
   obtain⟨n,rfl⟩:∃n',n=n'+1:=⟨n-1,by omega⟩
   have:j=c.puts.length:=by omega
   subst this
   simp only[Zb3,c5,Wbl (Xm _),cond_false]
   exact lp1 c.reads.length 0 N (by omega) (by omega)
  |succ d ih=>
   intro j n hj hn h1j
   obtain⟨n,rfl⟩:∃n',n=n'+1:=⟨n-1,by omega⟩
   have hlt:j<c.puts.length:=by omega
   have hrec:=ih (j+1) n (by omega) (by omega) (by omega)
   have e2:isub .i64 (j:Int) 1=((j-1:Nat):Int):=by rw[Wbm (by unfold I64;omega)];omega
   have hl1:j-1<c.puts.length:=by omega
   have hb:=Xay.1 h.pup (j-1) j hl1 hlt (by omega)
   simp only[Zb3,c5,Wbb hlt,Wk hlt,Wm hlt,We (show j<4611686018427387904 by omega),cond_true,e2,Wk hl1,Wm hl1]
   rw[decide_eq_false (by omega)]
   exact hrec
 by_cases hz:c.puts.length=0
 ·obtain⟨N',rfl⟩:∃N',N=N'+1:=⟨N-1,by omega⟩
  rw[Zb3,c5,decide_eq_false (by unfold ilen;omega)]
  exact lp1 c.reads.length 0 _ (by omega) (by omega)
 ·exact lp0 (c.puts.length-1) 1 N (by omega) (by omega) (by omega)
theorem Wsj(h:CmOk c){n:Int}(hn:0≤n∧n≤8):Z9 N c.e n=some (((Wbn c n).e,()),()):=by
 unfold Z9 Wbn
 rw[Wn,Wbm (by unfold I64;omega)]
 split<;>rfl
theorem adv_run{ph:Int}:Zep N c.e ph=some (((Wif c ph).e,()),()):=by
 obtain⟨c0,c1,c2,c3,c4,c5,c6⟩:=cmP c
 unfold Zep Wif Wdn
 simp only[Wn,c5,c6,ilen]
 by_cases h3:ph=3
 ·subst h3
  by_cases hr:c.reads.length=0<;>by_cases hp:c.puts.length=0<;>simp[hr,hp]<;>rfl
 ·by_cases h4:ph=4
  ·subst h4
   by_cases hp:c.puts.length=0<;>simp[hp]<;>rfl
  ·simp[h3,h4];rfl
theorem next_run(h:CmOk c){ph:Int}:Zby N c.e ph=some (((Wal c ph).e,()),()):=by
 obtain⟨c0,c1,c2,c3,c4,c5,c6⟩:=cmP c
 have hps:=h.pos
 have hs8:c.steps≤8:=by have:=h.plen;have:=h.rlen;unfold Cm.steps;split<;>(try split)<;>omega
 have hst:Zc9 N (Cm.e {c with pos:=c.pos+1})=ret c.steps:=steps_run
 unfold Zby Wal
 rw[c3,Wx (by unfold I64;omega)]
 rw[show(c.e.1,(c.e.2.1,(c.e.2.2.1,(c.pos+1,c.e.2.2.2.2))))=Cm.e {c with pos:=c.pos+1}from rfl,hst]
 simp only[ret,Xc,Wn,adv_run]
 split<;>rfl
theorem break_run(h:CmOk c)(hN:1048576<N):∃b,Ziy N c.e=some ((),((Wbt c).e,(b,()))):=by
 obtain⟨c0,c1,c2,c3,c4,c5,c6⟩:=cmP c
 have hps:=h.pos
 have hpl:=h.plen
 have hs8:c.steps≤8:=by have:=h.plen;have:=h.rlen;unfold Cm.steps;split<;>(try split)<;>omega
 unfold Ziy Wbt
 rw[Wwi h]
 simp only[ret,Xc]
 rw[Wqy h hN]
 simp only[ret,Xc,Xaa,cond_false,Wn,c2,c3,c5,Wsj h (show 0≤c.pos∧c.pos≤8 by omega),Wsj h (show 0≤ilen c.puts∧ilen c.puts≤8 by unfold ilen;omega)]
 by_cases h1:c.phase=1
 ·rw[if_pos h1,if_pos h1];exact⟨_,rfl⟩
 ·rw[if_neg h1,if_neg h1]
  by_cases h2:c.phase=2
  ·rw[if_pos h2,if_pos h2,if_pos (.inl h2)];exact⟨_,rfl⟩
  ·rw[if_neg h2]
   by_cases h3:c.phase=3
   ·rw[if_pos h3,if_pos (.inr h3)];exact⟨_,rfl⟩
   ·rw[if_neg h3,if_neg (by omega)];exact⟨_,rfl⟩
theorem cellsOf_run{l:List Rw}(hl:l.length≤1048576)(hN:1048576<N):Zhp N l=ret ((netR l).map (·.1)):=by
 unfold Zhp
 rw[Wjm hl hN]
 have hn:=Wpa l
 simp only[ret,Xc]
 have h1:=Wv (l:=netR l) (V:=List Int) (R:=Unit×(List Int×Unit)) (lp:=λn j v=>Zcz N (ilen (netR l)) (netR l) (λt10 t11 l12=>(some ((),(l12,())))) n j v) (n:=N) (by omega)
  (body:=λj x v k=>bif room (v.length+ [x.1].length)then k (Xf v [x.1])else none) (K:=λ_ v=>ret v)
  (λn i v hi=>by simp only[Zcz,Wbb hi,Wk hi,Wm hi,We (show i<4611686018427387904 by omega),cond_true])
  (λn v=>by simp only[Zcz,Wbl (Xm _),cond_false]) []
 refine h1.trans ?_
 rw[Wip (f:=λx:Rw=>x.1) (netR l) 0 [] (by simp;omega) (λj x v k _=>rfl)]
 rfl
theorem new_run{who rv:Int}{puts reads:List Rw}(hw:1≤who∧who≤99)(hr:0≤rv∧rv≤1000000)(hp:Wdk puts=true)(hd:Wdk reads=true)(hN:1048576<N):
  Zed N who rv puts reads=some ((),((Wdm who rv puts reads).e,(true,()))):=by
 have l1:puts.length≤300:=by unfold Wdk at hp;simp at hp;exact hp.1
 have l2:reads.length≤300:=by unfold Wdk at hd;simp at hd;exact hd.1
 unfold Zed
 simp only[Wet,Wj,Wgi (show puts.length≤1048576 by omega) hN,Wgi (show reads.length≤1048576 by omega) hN,Wjm (show puts.length≤1048576 by omega) hN,cellsOf_run (show reads.length≤1048576 by omega) hN,ret,Xc,decide_eq_true hw.1,decide_eq_true hw.2,decide_eq_true hr.1,decide_eq_true hr.2,hp,hd,Xbr,Xaa,cond_false,Wn]
 unfold Wdm Cm.e
 by_cases hz:(netR puts).length=0
 ·rw[if_pos (by unfold ilen;omega)];simp only[if_pos hz]
 ·rw[if_neg (by unfold ilen;omega)];simp only[if_neg hz]
theorem Wsi{m:Mm}{i:Int}:Xd m.2 (Xb i) ((0:Int),((0:Int),(0:Int)))=Wak m i:=rfl
theorem Wpx(hm:Waq m=true){i:Int}(hi:0≤i∧i≤7):inb i m.2.length=true:=by
 have:=(Wz hm).1
 unfold inb;simp;omega
theorem Wuq{i:Int}(hi:0≤i∧i≤7):Waz i=true:=by unfold Waz;simpa using hi
theorem implLock_run(hm:Waq m=true){i who:Int}(hi:0≤i∧i≤7)(hw:1≤who∧who≤99)(hN:1048576<N):
  Zmw N m i who=some ((),((if(Wak m i).2.2=0 then mLock m i who else m),(decide ((Wak m i).2.2=0),()))):=by
 unfold Zmw
 rw[Wjg hm,Wcx (by have:=(Wz hm).1;omega) hN,hm]
 simp only[ret,Xc,Xaa,cond_false,Wh,Wuq hi,Wet,decide_eq_true hw.1,decide_eq_true hw.2,Xbr,Wpx hm hi,cond_true,Wsi,Why]
 by_cases h:(Wak m i).2.2=0
 ·rw[if_pos h,if_pos h,decide_eq_true h];rfl
 ·rw[if_neg h,if_neg h,decide_eq_false h]
theorem implStore_run(hm:Waq m=true){i who v:Int}(hi:0≤i∧i≤7)(hw:1≤who∧who≤99)(hv:0≤v∧v≤65535)(hN:1048576<N):
  ∃b,Znw N m i who v=some ((),(Wko m i who v,(b,()))):=by
 unfold Znw Wko
 rw[Wjg hm,Wcx (by have:=(Wz hm).1;omega) hN,hm]
 simp only[ret,Xc,Xaa,cond_false,Wh,Wuq hi,Wet,Wi,Wdf.2 hv,decide_eq_true hw.1,decide_eq_true hw.2,Xbr,Wpx hm hi,cond_true,Wsi,Why]
 by_cases h:(Wak m i).2.2=who
 ·rw[if_pos h,if_pos h];exact⟨_,rfl⟩
 ·rw[if_neg h,if_neg h];exact⟨_,rfl⟩
theorem Wms(hm:Waq m=true){i who ver:Int}(hi:0≤i∧i≤7)(hw:1≤who∧who≤99)(hN:1048576<N):
  ∃b,Zks N m i who ver=some ((),(Wfh m i who ver,(b,()))):=by
 have h8:=(Wz hm).1
 unfold Zks Wfh
 rw[Wjg hm,Wcx (by omega) hN,hm]
 simp only[ret,Xc,Xaa,cond_false,Wh,Wuq hi,Wet,Wj,decide_eq_true hw.1,decide_eq_true hw.2,Xbr,Wpx hm hi,cond_true,Wsi,Why,Xad,Wq]
 by_cases h:(Wak m i).2.2=who
 ·rw[if_pos h]
  by_cases h2:(Wak m i).2.1≤ver∧ver≤m.1
  ·rw[if_pos ⟨h,h2.1,h2.2⟩,decide_eq_true h2.1,decide_eq_true h2.2]
   refine⟨true,?_⟩
   have:i.toNat<m.2.length:=by omega
   simp only[Xbr,Xaa,cond_false,Wxt this,Xdm]
   rfl
  ·rw[if_neg (by omega)]
   refine⟨false,?_⟩
   have:(decide ((Wak m i).2.1≤ver)&&decide (ver≤m.1))=false:=by
    rw[Xck,decide_eq_false_iff_not,decide_eq_false_iff_not];omega
   rw[this];rfl
 ·rw[if_neg h,if_neg (by omega)];exact⟨_,rfl⟩
theorem implStep_run(h:CmOk c)(hm:Waq m=true)(hN:1048576<N):Zjc N m c.e=some ((),((Waa m c).1,((Waa m c).2.e,()))):=by
 obtain⟨c0,c1,c2,c3,c4,c5,c6⟩:=cmP c
 have hps:=h.pos
 have hpl:=h.plen
 have hw:=h.who
 have hs8:c.steps≤8:=by have:=h.plen;have:=h.rlen;unfold Cm.steps;split<;>(try split)<;>omega
 have b1:=Wsj (N:=N) h (show 0≤c.pos∧c.pos≤8 by omega)
 have b2:=Wsj (N:=N) h (show 0≤ilen c.puts∧ilen c.puts≤8 by unfold ilen;omega)
 unfold Zjc Waa
 rw[Wjg hm,Wwi h]
 simp only[ret,Xc]
 rw[Wcx (by have:=(Wz hm).1;omega) hN,Wqy h hN,hm]
 simp only[ret,Xc,Xaa,cond_false,Wn,c0,c1,c2,c3,c4,c5,c6,Wpc,b1,b2,next_run h]
 by_cases h1:c.phase=1
 ·rw[if_pos h1,if_pos h1]
  obtain⟨j,hj,e1,e2,e3,e4⟩:=h.put (by omega)
  rw[show Xd c.puts (Xb c.pos) ((0:Int),(0:Int))=c.puts[j]from e2,e2,e1,Way,decide_eq_true hj,implLock_run hm e3 hw hN,←e1]
  by_cases ho:(Wak m c.puts[j].1).2.2=0
  ·rw[if_pos ho,if_pos ho,decide_eq_true ho];rfl
  ·rw[if_neg ho,if_neg ho,decide_eq_false ho];rfl
 ·rw[if_neg h1,if_neg h1]
  by_cases h2:c.phase=2
  ·rw[if_pos h2,if_pos h2,implTick_run hm hN]
   simp only[Xc]
   by_cases ht:(tick m).2=0
   ·rw[if_pos ht,if_pos ht];rfl
   ·rw[if_neg ht,if_neg ht]
    rw[show(c.who,(c.rv,(c.phase,(c.pos,((tick m).2,c.e.2.2.2.2.2)))))=Cm.e {c with wv:=(tick m).2}from rfl,adv_run]
    rfl
  ·rw[if_neg h2,if_neg h2]
   by_cases h3:c.phase=3
   ·rw[if_pos h3,if_pos h3]
    obtain⟨j,hj,e1,e2,e3,e4⟩:=h.read h3
    rw[show Xd c.reads (Xb c.pos) (0:Int)=c.reads[j]from e2,e2,e1,Way,decide_eq_true hj,Wpx hm ⟨e3,e4⟩]
    simp only[cond_true,Why,Wbv]
    rw[show Xd m.2 (Xb c.reads[j]) ((0:Int),((0:Int),(0:Int)))=Wak m c.reads[j]from rfl]
    by_cases a:(Wak m c.reads[j]).2.2=0
    ·rw[if_pos a]
     by_cases b:(Wak m c.reads[j]).2.1>c.rv
     ·rw[if_pos b,if_pos (.inr b)];rfl
     ·rw[if_neg b,if_neg (by omega)]
    ·rw[if_neg a]
     by_cases a':(Wak m c.reads[j]).2.2=c.who
     ·rw[if_pos a']
      by_cases b:(Wak m c.reads[j]).2.1>c.rv
      ·rw[if_pos b,if_pos (.inr b)];rfl
      ·rw[if_neg b,if_neg (by omega)]
     ·rw[if_neg a',if_pos (.inl ⟨a,a'⟩)];rfl
   ·rw[if_neg h3,if_neg h3]
    by_cases h4:c.phase=4
    ·rw[if_pos h4,if_pos h4]
     obtain⟨j,hj,e1,e2,e3,e4⟩:=h.put (by omega)
     obtain⟨b,hb⟩:=implStore_run hm e3 hw e4 hN
     rw[show Xd c.puts (Xb c.pos) ((0:Int),(0:Int))=c.puts[j]from e2,e2,e1,Way,decide_eq_true hj,hb]
     rfl
    ·rw[if_neg h4,if_neg h4]
     by_cases h5:c.phase=5
     ·rw[if_pos h5,if_pos h5]
      obtain⟨j,hj,e1,e2,e3,e4⟩:=h.put (by omega)
      obtain⟨b,hb⟩:=Wms (ver:=c.wv) hm e3 hw hN
      rw[show Xd c.puts (Xb c.pos) ((0:Int),(0:Int))=c.puts[j]from e2,e2,e1,Way,decide_eq_true hj,hb]
      rfl
     ·rw[if_neg h5,if_neg h5]
      by_cases h7:c.phase=7
      ·rw[if_pos h7,if_pos h7]
       obtain⟨j,hj,e1,e2,e3,e4⟩:=h.put (by omega)
       obtain⟨b,hb⟩:=Wms (ver:=(Wak m c.puts[j].1).2.1) hm e3 hw hN
       rw[show Xd c.puts (Xb c.pos) ((0:Int),(0:Int))=c.puts[j]from e2,e2,e1,Way,decide_eq_true hj,Wpx hm e3]
       simp only[cond_true,Wsi,hb,←e1]
       rfl
      ·rw[if_neg h7,if_neg h7]
end
end
section
abbrev RM:=Int×Int×Int×Int×List Int
abbrev Wr:=Int×Int×List Rw
abbrev Pg:=List Opn×List (List Opn)
abbrev Ac:=Int×Int×Int
abbrev Sc:=(List Int×List Int×Int)×List Pg×List Ac
structure Rt where
 phase:Int:=0
 tries:Int:=0
 spare:Int:=0
 pc:Int:=0
 rv:Int:=0
 newRv:Int:=0
 pos:Int:=0
 fate:Int:=0
 stamp:Int:=0
 began:Int:=0
 ended:Int:=0
 doomed:Bool:=false
 regs:List Int:=[]
 reads:List Rw:=[]
 writes:List Rw:=[]
 marks:List RM:=[]
 undos:List Un:=[]
 order:List Int:=[]
 busy:Bool:=false
 pb:Pb:=(0,0,0,0)
 cm:Cm:={}
 fam:Fm:={}
def Rt.e(r:Rt):Y_Root:=(r.phase,r.tries,r.spare,r.pc,r.rv,r.newRv,r.pos,r.fate,r.stamp,r.began,r.ended,r.doomed,r.regs,r.reads,r.writes,r.marks,r.undos,r.order,r.busy,r.pb,r.cm.e,r.fam.e)
structure Wo where
 now:Int:=0
 token:Int:=0
 mem:Mm:=(0,[])
 shelf:Shf:=([],0)
 holds:List Hd:=[]
 roots:List Rt:=[]
 hist:List Wr:=[]
def Wo.e(w:Wo):Y_World:=(w.now,w.token,w.mem,w.shelf,w.holds,w.roots.map Rt.e,w.hist)
def zRM:RM:=(0,0,0,0,[])
def Rt.last(x:Rt):RM:=Wrw x.marks zRM
def Wid(x:Rt):Rt:={phase:=6,tries:=x.tries,undos:=x.undos}
def Wad(x:Rt):Rt:=
 if x.marks.length=0∨x.spare=2 then Wid x else{x with spare:=x.spare+1,busy:=false,pb:=(0,0,0,0),phase:=3}
def Wjo(w:Wo)(x:Rt):Wo×Rt:=({w with shelf:=Wtv w.shelf (Wrw x.undos (0,0,0))},{x with undos:=x.undos.dropLast})
def rEnd(w:Wo)(x:Rt)(k:Nat):Wo×Rt:=
 ({w with token:=if w.token=(k:Int)+1 then 0 else w.token},{x with phase:=8,ended:=w.now,undos:=[],doomed:=false})
def Wcd(w:Wo)(x:Rt)(k:Nat)(out:Int):Wo×Rt:=
 let rows:=if out=2 then []else x.writes
 if rows.length=0∧(Wnb w.holds ((k:Int)+1)).length=0 then rEnd w {x with fate:=out,stamp:=x.rv} k
 else(w,{x with fate:=out,cm:=Wdm ((k:Int)+1) x.rv rows x.reads,phase:=5})
def Whp(w:Wo)(x:Rt)(o:Opn):Rt:=
 match Wdr x.writes o.2.2.1 with
 |some v=>{x with regs:=setI x.regs o.2.1 v,pc:=x.pc+1}
 |none=>
  let p:=Was w.mem x.rv (if x.busy then x.pb else(o.2.2.1,0,0,0))
  if p.2.1=4 then Wad {x with busy:=true,pb:=p}
  else if p.2.1=3 then{x with regs:=setI x.regs o.2.1 p.2.2.2,reads:=x.reads++ [(o.2.2.1,p.2.2.2)],busy:=false,pb:=(0,0,0,0),pc:=x.pc+1}
  else{x with busy:=true,pb:=p}
def Wfc(w:Wo)(x:Rt)(k:Nat)(code:List Opn):Wo×Rt:=
 if x.marks.length=0 then Wcd w x k 2 else
 if(x.undos.length:Int)>x.last.2.2.2.1 then Wjo w x else
 (w,{x with marks:=x.marks.dropLast,regs:=setI x.last.2.2.2.2 (opN code x.last.1).2.1 0,writes:=x.writes.take x.last.2.2.1.toNat,pc:=Wsn code x.last.1.toNat+1})
def Wer(w:Wo)(x:Rt)(k:Nat)(o:Opn):Wo×Rt:=
 match Wcs w.holds ((k:Int)+1) (Wcf o).1 (Wcf o).2 with
 |none=>(w,Wad x)
 |some hs=>
  let b:=Wdo w.shelf o x.regs
  ({w with holds:=hs,shelf:=b.1},{x with regs:=b.2.1,undos:=if b.2.2.1=0 then x.undos else x.undos++ [b.2.2],pc:=x.pc+1})
def rRun(w:Wo)(x:Rt)(k:Nat)(p:Pg):Wo×Rt:=
 if x.pc≥p.1.length then Wcd w x k 1 else
 let o:=opN p.1 x.pc
 if o.1=5 then(w,Whp w x o)else
 if o.1=10 then Wfc w x k p.1 else
 if o.1=11 then(w,{x with phase:=2,fam:=Wbw x.rv x.regs x.writes p.2.length})else
 if o.1≥12 then Wer w x k o else
 if o.1=6 then(w,{x with writes:=x.writes++ [(o.2.1,getI x.regs o.2.2.1 0)],pc:=x.pc+1})else
 if o.1=7 then(w,{x with pc:=(if getI x.regs o.2.1 0=0 then x.pc+o.2.2.1 else x.pc)+1})else
 if o.1=8 then(w,{x with marks:=x.marks++ [(x.pc,(x.reads.length:Int),(x.writes.length:Int),(x.undos.length:Int),x.regs)],pc:=x.pc+1})else
 if o.1=9 then(w,{x with marks:=x.marks.dropLast,regs:=setI x.regs (opN p.1 x.last.1).2.1 1,pc:=x.pc+1})else
 (w,{x with regs:=calcF o x.regs,pc:=x.pc+1})
def Waw(k:Nat):List Rt→Nat→Bool
 | [],_=>true
 |x::l,i=>(decide (i=k)||(decide (x.phase=0)||decide (x.phase=8)))&&Waw k l (i+1)
def Wik(w:Wo)(x:Rt)(k:Nat):Wo×Rt:=
 if w.token≠0∧w.token≠(k:Int)+1 then(w,x)else
 if x.tries≥3∧w.token=0 then({w with token:=(k:Int)+1},x)else
 if w.token=(k:Int)+1∧Waw k w.roots 0=false then(w,x)else
 (w,{phase:=1,tries:=x.tries,rv:=w.mem.1,began:=w.now,regs:=[0,0,0,0]})
def Wfa(x:Rt):Rt:=
 if x.fam.lost then Wid x else
 if Wdh x.fam then{x with regs:=Wtk x.fam,writes:=Wqc x.fam,reads:=x.reads++x.fam.reads,order:=x.fam.order,fam:={},phase:=1,pc:=x.pc+1}
 else x
def Wcv(w:Wo)(x:Rt):Wo×Rt:=
 if(x.undos.length:Int)>x.last.2.2.2.1 then Wjo w x else(w,{x with newRv:=w.mem.1,pos:=0,phase:=4})
def Wcg(w:Wo)(x:Rt):Rt:=
 if x.pos<x.last.2.1 then
  let c:=Wak w.mem (getI x.reads x.pos (0,0)).1
  if c.2.2≠0∨c.2.1>x.rv then Wid x else{x with pos:=x.pos+1}
 else{x with rv:=x.newRv,newRv:=0,pos:=0,reads:=x.reads.take x.last.2.1.toNat,writes:=x.writes.take x.last.2.2.1.toNat,regs:=x.last.2.2.2.2,pc:=x.last.1+1,phase:=1}
def Wen(x:Rt):Rt:=
 if x.cm.phase=8 then Wid x else
 if x.cm.phase=6 then{x with stamp:=x.cm.wv,cm:={},phase:=if x.fate=2 then 6 else 7}else x
def Wbu(w:Wo)(x:Rt)(k:Nat):Wo×Rt:=
 if x.doomed then(w,if(Wbt x.cm).phase=8 then Wid x else{x with cm:=Wbt x.cm,doomed:=false})else
 let q:=Waa w.mem x.cm
 ({w with mem:=q.1,hist:=if x.cm.phase≤3∧q.2.phase=4 then w.hist++ [(q.2.wv,(k:Int)+1,q.2.puts)]else w.hist},Wen {x with cm:=q.2})
def Wav(w:Wo)(x:Rt)(k:Nat)(p:Pg):Wo×Rt:=
 if x.doomed=true∧1≤x.phase∧x.phase≤4 then(w,Wid x)else
 if x.phase=0 then Wik w x k else
 if x.phase=1 then rRun w x k p else
 if x.phase=2 then(w,Wfa x)else
 if x.phase=3 then Wcv w x else
 if x.phase=4 then(w,Wcg w x)else
 if x.phase=5 then Wbu w x k else
 if x.phase=6 then(if x.undos.length>0 then Wjo w x else(w,{x with phase:=7}))else
 if x.phase=7 then
  (if x.fate=0 then({w with holds:=Wat w.holds ((k:Int)+1)},{tries:=x.tries+1})
   else rEnd {w with holds:=Wat w.holds ((k:Int)+1)} x k)
 else(w,x)
def Wo.put(q:Wo×Rt)(k:Nat):Wo:={q.1 with roots:=q.1.roots.set k q.2}
def rt0:Rt:={}
def pg0:Pg:=([],[])
def Wzd(w:Wo)(k:Nat)(p:Pg):Wo:=Wo.put (Wav w (w.roots.getD k rt0) k p) k
def wKid(w:Wo)(x:Rt)(k j:Nat)(p:Pg):Wo:=Wo.put (w,{x with fam:=Wgo w.mem x.fam j (p.2.getD j [])}) k
def wAct(s:Sc)(w0:Wo)(a:Ac):Wo:=
 let w:={w0 with now:=w0.now+1}
 if 0≤a.2.1∧a.2.1<w.roots.length then
  let k:=a.2.1.toNat
  let x:=w.roots.getD k rt0
  let p:=s.2.1.getD k pg0
  if a.1=1 then Wzd w k p else
  if a.1=2 then(if x.phase=2∧0≤a.2.2∧a.2.2<p.2.length then wKid w x k a.2.2.toNat p else w)else
  if a.1=3 then(if(1≤x.phase∧x.phase≤4)∨(x.phase=5∧x.cm.phase≤3)then Wo.put (w,{x with doomed:=true}) k else w)else w
 else w
def wNew(s:Sc):Wo:={mem:=memNew s.1.1,shelf:=(slFrom s.1.2.1,s.1.2.2),roots:=Xv s.2.1.length {}}
def Wkc(s:Sc):Wo:=s.2.2.foldl (wAct s) (wNew s)
structure RMk(code:List Opn)(pc:Nat)(marks:List RM)(rl wl ul:Nat):Prop where
 pcs:marks.map (·.1)=(stk code pc).map λm:Nat=>(m:Int)
 each:∀q∈marks,Vals 4 q.2.2.2.2∧(0≤q.2.1∧q.2.1≤q.1+72*frk code q.1.toNat∧q.2.1≤rl)∧(0≤q.2.2.1∧q.2.2.1≤q.1+8∧q.2.2.1≤wl)∧0≤q.2.2.2.1∧q.2.2.2.1≤q.1∧q.2.2.2.1≤ul
 up:marks.Pairwise λa b=>a.2.1≤b.2.1∧a.2.2.1≤b.2.2.1∧a.2.2.2.1≤b.2.2.2.1
structure RLive(p:Pg)(n:Int)(x:Rt):Prop where
 pc:0≤x.pc∧x.pc≤p.1.length
 spare:0≤x.spare∧x.spare≤2
 rv:0≤x.rv∧x.rv≤1000000
 regs:Vals 4 x.regs
 reads:Rows x.reads
 rl:(x.reads.length:Int)≤x.pc+72*frk p.1 x.pc.toNat
 writes:Rows x.writes
 wl:(x.writes.length:Int)≤x.pc+8
 ul:(x.undos.length:Int)≤x.pc
 marks:RMk p.1 x.pc.toNat x.marks x.reads.length x.writes.length x.undos.length
 pb:x.busy=true→pbOk x.pb=true
 fork:x.phase=2→x.pc<p.1.length∧(opN p.1 x.pc).1=11∧FOk p.2 n x.fam
 back:x.phase=3∨x.phase=4→x.marks.length≠0
 newRv:0≤x.newRv∧x.newRv≤1000000
 pos:x.phase=4→0≤x.pos∧x.pos≤x.last.2.1
 unw:x.phase=4→(x.undos.length:Int)≤x.last.2.2.2.1
structure ROk(p:Pg)(n:Int)(x:Rt):Prop where
 phase:0≤x.phase∧x.phase≤8
 tries:0≤x.tries∧x.tries≤n
 live:1≤x.phase∧x.phase≤4→RLive p n x
 comm:x.phase=5→CmOk x.cm
 undos:∀u∈x.undos,UnV u
 ul:x.undos.length≤24
 rg:x.regs.length≤4
 ord:x.order.length≤3
structure POk(p:Pg):Prop where
 code:CC p.1
 kids:∀c∈p.2,KC c
 k3:p.2.length≤3
def HE(h:Wr):Prop:=h.2.2.length≤8∧Rows h.2.2∧1≤h.2.1∧h.2.1≤9
structure WOk(ps:List Pg)(n:Int)(w:Wo):Prop where
 len:w.roots.length=ps.length
 l4:ps.length≤4
 progs:∀p∈ps,POk p
 now:w.now=n
 n0:0≤n
 mem:Waq w.mem=true
 shelf:ShOk w.shelf
 holds:HOk w.holds
 hist:(w.hist.length:Int)≤n
 histE:∀h∈w.hist,HE h
 root:∀(k:Nat) (h:k<w.roots.length),ROk (ps.getD k pg0) n w.roots[k]
end
section
theorem rtP(x:Rt):x.e.1=x.phase∧x.e.2.1=x.tries∧x.e.2.2.1=x.spare∧x.e.2.2.2.1=x.pc∧P4 x.e=x.rv∧P5 x.e=x.newRv∧P6 x.e=x.pos∧P7 x.e=x.fate∧P8 x.e=x.stamp∧P11 x.e=x.doomed∧P12 x.e=x.regs∧P13 x.e=x.reads∧P14 x.e=x.writes∧P15 x.e=x.marks∧P16 x.e=x.undos∧P18 x.e=x.busy∧P19 x.e=x.pb∧P20 x.e=x.cm.e∧Q21 x.e=x.fam.e∧P24 x.e=x.fam.lost∧P28 x.e=x.fam.order∧P29 x.e=x.fam.reads:=
 ⟨rfl,rfl,rfl,rfl,rfl,rfl,rfl,rfl,rfl,rfl,rfl,rfl,rfl,rfl,rfl,rfl,rfl,rfl,rfl,rfl,rfl,rfl⟩
theorem S5e(w:Wo)(k:Nat)(x:Rt):S5 (Xl (w.roots.map Rt.e) k x.e) w.e=Wo.e {w with roots:=w.roots.set k x}:=by
 unfold S5 Wo.e;rw[Xft]
theorem finW{w w':Wo}{k:Nat}{x':Rt}{y:Y_Root}{g:Y_World}(hy:y=x'.e)(hg:g=w'.e)(hr:w'.roots=w.roots):
  some ((S5 (Xl (w.roots.map Rt.e) k y) g,()),())=some (((Wo.put (w',x') k).e,()),()):=by
 subst hy hg
 rw[←hr,S5e];rfl
variable{N:Nat}{w:Wo}{k:Nat}{x:Rt}{o:Opn}{p:Pg}{n:Int}{code:List Opn}
theorem woG(hk:k<w.roots.length)(hxe:w.roots[k]=x):Xd (w.roots.map Rt.e) k d_Root=x.e∧Xd (w.roots.map Rt.e) (Xb (k:Int)) d_Root=x.e∧S5 (Xl (w.roots.map Rt.e) (Xb (k:Int)) x.e) w.e=w.e∧inb (k:Int) (w.roots.map Rt.e).length=true∧S5 (Xl (w.roots.map Rt.e) k x.e) w.e=w.e:=by
 have h1:Xd (w.roots.map Rt.e) k d_Root=x.e:=by
  have:=Woy Rt.e w.roots k {}
  rw[Wc hk,hxe]at this
  exact this
 have h2:S5 (Xl (w.roots.map Rt.e) k x.e) w.e=w.e:=by rw[S5e,←hxe,Xbe]
 rw[Xj]
 refine⟨h1,h1,h2,?_,h2⟩
 rw[Way,Xaf]
 exact decide_eq_true hk
theorem put_self(hk:k<w.roots.length)(hxe:w.roots[k]=x):Wo.put (w,x) k=w:=by
 unfold Wo.put;simp only;rw[←hxe,Xbe]
theorem Wma:Zbp N x.e=some (((Wid x).e,()),()):=rfl
theorem Wkl(hs:0≤x.spare∧x.spare≤2):Zc8 N x.e=some (((Wad x).e,()),()):=by
 obtain⟨r0,r1,r2,r3,r4,r5,r6,r7,r8,r11,r12,r13,r14,r15,r16,r18,r19,r20,r21,r24,r28,r29⟩:=rtP x
 unfold Zc8 Wad
 simp only[Wn,r15,r2,ilen,Wma,Xc]
 by_cases h1:x.marks.length=0
 ·rw[if_pos (by omega),if_pos (.inl h1)]
 ·rw[if_neg (by omega)]
  by_cases h2:x.spare=2
  ·rw[if_pos h2,if_pos (.inr h2)]
  ·rw[if_neg h2,if_neg (by omega),Wx (by unfold I64;omega)];rfl
theorem Wkw{α:Type}{l:List α}(h:l.length≠0)(hl:l.length≤1000)(d:α):inb (isub .i64 (ilen l) 1) l.length=true∧Xd l (Xb (isub .i64 (ilen l) 1)) d=Wrw l d∧Xar (Xb (isub .i64 (ilen l) 1)) l=l.dropLast∧(decide ((0:Int)≤isub .i64 (ilen l) 1)&&decide (isub .i64 (ilen l) 1≤(l.length:Int)))=true:=by
 have e:isub .i64 (ilen l) 1=((l.length-1:Nat):Int):=by rw[len_m1 (by omega)];omega
 rw[e]
 refine⟨by rw[Way];exact decide_eq_true (by omega),by rw[Xj];rfl,by rw[Xj,List.dropLast_eq_take],by simp⟩
theorem last_run(h:x.marks.length≠0)(hl:x.marks.length≤1000):Zh0 N x.e=some ((x.e,()),(x.last,())):=by
 obtain⟨a,b,c,d⟩:=Wkw h hl zRM
 unfold Zh0
 rw[show x.e.2.2.2.2.2.2.2.2.2.2.2.2.2.2.2.1=x.marks from rfl,a]
 simp only[cond_true]
 rw[show((0:Int),((0:Int),((0:Int),((0:Int),([]:List Int)))))=zRM from rfl,b];rfl
theorem lastj_run(h:x.marks.length≠0)(hl:x.marks.length≤1000):Zds N x.e=some ((),((x.last.1,(x.last.2.1,(x.last.2.2.1,x.last.2.2.2.1))),())):=by
 obtain⟨a,b,c,d⟩:=Wkw h hl zRM
 unfold Zds
 simp only[Wq]
 rw[show P15 x.e=x.marks from rfl,a]
 simp only[cond_true]
 rw[show((0:Int),((0:Int),((0:Int),((0:Int),([]:List Int)))))=zRM from rfl,b];rfl
theorem Wyo(hk:k<w.roots.length)(hxe:w.roots[k]=x)(hz:x.undos.length≠0)(hl:x.undos.length≤1000)(hu:∀u∈x.undos,UnV u)(hs:ShOk w.shelf)(hN:1048576<N):
  Zcl N w.e k=some (((Wo.put (Wjo w x) k).e,()),()):=by
 obtain⟨g1,g2,g3,g4,g5⟩:=woG hk hxe
 obtain⟨a,b,c,d⟩:=Wkw hz hl ((0,0,0):Un)
 have hmem:Wrw x.undos ((0,0,0):Un)∈x.undos:=by
  unfold Wrw;rw[Wc (show x.undos.length-1<x.undos.length by omega)];exact Xt _
 unfold Zcl Wjo
 simp only[Wq]
 rw[show P5 w.e=w.roots.map Rt.e from rfl,g1]
 rw[show x.e.2.2.2.2.2.2.2.2.2.2.2.2.2.2.2.2.1=x.undos from rfl,a,b,show w.e.2.2.2.1=w.shelf from rfl,Wsq hs (hu _ hmem) hN,c]
 simp only[cond_true,Xc,d]
 exact finW rfl rfl rfl
theorem end_run(hk:k<w.roots.length)(hxe:w.roots[k]=x)(hk4:k≤1000):Zgk N w.e (k:Int)=some (((Wo.put (rEnd w x k) k).e,()),()):=by
 obtain⟨g1,g2,g3,g4,g5⟩:=woG hk hxe
 unfold Zgk rEnd
 simp only[Wq]
 rw[show P5 w.e=w.roots.map Rt.e from rfl,g4,g2,Wgr (by omega),Xj]
 simp only[cond_true,Wn]
 rw[show w.e.2.1=w.token from rfl]
 by_cases h:w.token=(k:Int)+1
 ·rw[if_pos h];simp only[if_pos h];exact finW rfl rfl rfl
 ·rw[if_neg h];simp only[if_neg h];exact finW rfl rfl rfl
theorem close_run(hk:k<w.roots.length)(hxe:w.roots[k]=x)(hk4:k≤8)(hh:HOk w.holds)(hrv:0≤x.rv∧x.rv≤1000000)(hr:Wdk x.reads=true)(hw:Wdk x.writes=true){out:Int}(hN:1048576<N):
  Zgy N w.e (k:Int) out=some (((Wo.put (Wcd w x k out) k).e,()),()):=by
 obtain⟨g1,g2,g3,g4,g5⟩:=woG hk hxe
 obtain⟨r0,r1,r2,r3,r4,r5,r6,r7,r8,r11,r12,r13,r14,r15,r16,r18,r19,r20,r21,r24,r28,r29⟩:=rtP x
 have hhl:=hold_len hh
 have hen:∀y:Rt,Zgk N (S5 (Xl (w.roots.map Rt.e) (Xb (k:Int)) y.e) w.e) (k:Int)=some (((Wo.put (rEnd w y k) k).e,()),()):=λy=>by
  rw[Xj,S5e]
  have h1:k<({w with roots:=w.roots.set k y}:Wo).roots.length:=by simpa using hk
  rw[end_run (x:=y) h1 (by simp) (by omega)]
  unfold rEnd Wo.put
  simp only[Xdm]
 unfold Zgy Wcd
 simp only[Wq]
 rw[show P5 w.e=w.roots.map Rt.e from rfl,g4,g2,Wgr (by omega),show P4 w.e=w.holds from rfl]
 have hz0:∀{α:Type} (a b:α),(bif ((0:Int)==(0:Int))then a else b)=a:=λ_ _=>rfl
 have hz1:∀{α:Type} (a b:α),(bif ((0:Nat)==(0:Nat))then a else b)=a:=λ_ _=>rfl
 simp only[hz0,hz1]
 simp only[cond_true,Wn,r4,r13,r14,Wue (who:=(k:Int)+1) hh (by omega) hN,ret,Xc,ilen]
 have hcn:∀rows,Wdk rows=true→Zed N ((k:Int)+1) x.rv rows x.reads=some ((),((Wdm ((k:Int)+1) x.rv rows x.reads).e,(true,()))):=λrows hro=>new_run (by omega) hrv hro hr hN
 have hnil:Zed N ((k:Int)+1) x.rv ([]:List (Int×Int)) x.reads=some ((),((Wdm ((k:Int)+1) x.rv [] x.reads).e,(true,()))):=hcn [] rfl
 have hst:(S8 x.rv (S7 out x.e))=Rt.e {x with fate:=out,stamp:=x.rv}:=rfl
 rw[hnil,hcn _ hw,hst,hen]
 simp only[Xc]
 by_cases ho:out=2
 ·rw[if_pos ho,if_pos ho]
  by_cases hz:(Wnb w.holds ((k:Int)+1)).length=0
  ·rw[if_pos (by omega),if_pos ⟨rfl,hz⟩]
  ·rw[if_neg (by omega),if_neg (λh=>hz h.2),Xj]
   exact finW rfl rfl rfl
 ·rw[if_neg ho,if_neg ho]
  by_cases hy:x.writes.length=0
  ·rw[if_pos (by omega)]
   by_cases hz:(Wnb w.holds ((k:Int)+1)).length=0
   ·rw[if_pos (by omega),if_pos ⟨hy,hz⟩]
   ·rw[if_neg (by omega),if_neg (λh=>hz h.2),Xj]
    exact finW rfl rfl rfl
  ·rw[if_neg (by omega),if_neg (λh=>hy h.1),Xj]
   exact finW rfl rfl rfl
theorem rowsOk_of{l:List Rw}(h:Rows l)(hl:l.length≤300):Wdk l=true:=by
 unfold Wdk;rw[Wzn.2 h,decide_eq_true hl];rfl
theorem Wnk(hc:CC code):∀j,j≤code.length→frk code j≤1
 |0,_=>by simp[frk]
 |j+1,h=>by
  have hj:j<code.length:=by omega
  by_cases h11:code[j].1=11
  ·exact(hc.fk j hj h11).2
  ·rw[Wjr hj,show(code[j].1==11)=false by simpa using h11]
   have:=Wnk hc j (by omega)
   simpa using this
theorem RLive.sz(hc:CC p.1)(h:RLive p n x):x.reads.length≤96∧x.writes.length≤32∧x.undos.length≤24∧x.marks.length≤24∧Wdk x.reads=true∧Wdk x.writes=true:=by
 have h1:=h.pc
 have h2:=hc.len
 have h3:=Wnk hc x.pc.toNat (by omega)
 have h4:=h.rl
 have h5:=h.wl
 have h6:=h.ul
 have h7:=congrArg Xa h.marks.pcs
 simp only[Xaf]at h7
 have h8:=Weg hc.up x.pc.toNat (by omega)
 have h9:=(Wij p.1 x.pc.toNat).2
 exact⟨by omega,by omega,by omega,by omega,rowsOk_of h.reads (by omega),rowsOk_of h.writes (by omega)⟩
theorem pbIf_ok(hb:x.busy=true→pbOk x.pb=true){c:Int}(hc:0≤c∧c≤7):pbOk (if x.busy then x.pb else(c,0,0,0))=true:=by
 split
 ·exact hb ‹_›
 ·rw[Wmi];simp only;omega
theorem read_run(hk:k<w.roots.length)(hxe:w.roots[k]=x)(hc:CC p.1)(hx:RLive p n x)(hm:Waq w.mem=true)(h5:o.1=5)(ho:opOk o=true)(hN:1048576<N):
  Zjb N w.e k o=some (((Wo.put (w,Whp w x o) k).e,()),()):=by
 obtain⟨g1,g2,g3,g4,g5⟩:=woG hk hxe
 obtain⟨r0,r1,r2,r3,r4,r5,r6,r7,r8,r11,r12,r13,r14,r15,r16,r18,r19,r20,r21,r24,r28,r29⟩:=rtP x
 obtain⟨z1,z2,z3,z4,z5,z6⟩:=hx.sz hc
 obtain⟨hA,hB⟩:=ok_5 ho h5
 have hB':0≤o.2.2.1∧o.2.2.1≤7:=by unfold Waz at hB;simpa using hB
 have hrl:=hx.regs.len
 have hpc:=hx.pc
 have hcl:=hc.len
 have hsp:=hx.spare
 unfold Zjb Whp
 simp only[Wq]
 rw[show P5 w.e=w.roots.map Rt.e from rfl,g1,show w.e.2.2.1=w.mem from rfl]
 simp only[r3,r4,r12,r13,r14,r18,r19]
 rw[Wkm (by omega) hN,Wcz hA hrl,Wgr (by omega)]
 cases hl:Wdr x.writes o.2.2.1 with
 |some v=>
  simp only[opI,Xc,cond_true]
  exact finW rfl rfl rfl
 |none=>
  have hroom:room (x.reads.length+ [(o.2.2.1,(0:Int))].length)=true:=Ww (by simp;omega)
  have hpn:Zfe N o.2.2.1=some ((),((o.2.2.1,0,0,0),(true,()))):=by
   unfold Zfe;rw[Wh,hB];rfl
  have hpb:=pbIf_ok hx.pb hB'
  have hbusy:S18 true x.e=Rt.e {x with busy:=true}:=rfl
  simp only[opI,Xc,cond_false,Wn,hpn,hbusy]
  have hset:∀q:Pb,S19 q (Rt.e {x with busy:=true})=Rt.e {x with busy:=true,pb:=q}:=λq=>rfl
  simp only[hset,Wkl (x:={x with busy:=true,pb:=_}) hsp]
  cases hb:x.busy with
  |false=>
   rw[hb]at hpb
   simp only[Xbm,if_false]at hpb
   rw[Wlw hm hpb hN]
   simp only[Xdj,cond_true,ret,Xc,Xbm,if_false]
   generalize Was w.mem x.rv (o.2.2.1,0,0,0)=q
   by_cases h4:q.2.1=4
   ·rw[if_pos h4,if_pos h4];exact finW rfl rfl rfl
   ·rw[if_neg h4,if_neg h4]
    by_cases h3:q.2.1=3
    ·rw[if_pos h3,if_pos h3,Ww (by simp;omega)];exact finW rfl rfl rfl
    ·rw[if_neg h3,if_neg h3];exact finW rfl rfl rfl
  |true=>
   have hsame:∀q:Pb,S19 q x.e=Rt.e {x with busy:=true,pb:=q}:=λq=>by
    have:S19 q x.e=Rt.e {x with pb:=q}:=rfl
    rw[this]
    conv=>lhs;rw[show({x with pb:=q}:Rt)={x with busy:=x.busy,pb:=q}from rfl,hb]
   rw[hb]at hpb
   simp only[if_true]at hpb
   rw[Wlw hm hpb hN]
   simp only[Xaa,cond_false,ret,Xc,if_true,hsame,Wkl (x:={x with busy:=true,pb:=_}) hsp]
   generalize Was w.mem x.rv x.pb=q
   by_cases h4:q.2.1=4
   ·rw[if_pos h4,if_pos h4];exact finW rfl rfl rfl
   ·rw[if_neg h4,if_neg h4]
    by_cases h3:q.2.1=3
    ·rw[if_pos h3,if_pos h3,Ww (by simp;omega)];exact finW rfl rfl rfl
    ·rw[if_neg h3,if_neg h3];exact finW rfl rfl rfl
end
end Go.Sx
