/- Plain laws of the Lean functions. -/
import Derived.Test.YtnkbflecplbceaaGreatMW1
open Bool renaming and_eq_true→Xh,not_true→Xab,and_self→Xbr,true_and→Xbq,false_eq_true→Xbi,and_eq_false_iff→Xcm,not_false→Xdl
open List renaming getElem_mem→Xq,getD→Xc,map_append→Xr,mem_append→Xm,mem_singleton→Xz,pairwise_append→Xag,length→Xa,length_map→Xaf,mem_of_getElem?→Xax,take→Xas,getElem?_eq_getElem→Xs,foldl_cons→Xce,length_cons→Xu,mem_cons_of_mem→Xe,mem_cons_self→Xi,drop_length→Xdo,set→Xl,drop_eq_getElem_cons→Xby,append_eq→Xah,append_nil→Xcy,filter_cons→Xbm,countP_le_length→Xdv,drop_zero→Xcc,map_set→Xfv,set_getElem_self→Xbf,length_set→Xad,countP_set→Xhc,getElem_set→Xao,mem_map→Xv,mem_filter→Xav,length_append→Xaa,length_singleton→Xdu,length_nil→Xee,pairwise_map→Xel,getElem_replicate→Xbj,append_assoc→Xbs,singleton_append→Xer,append→Xf,set_set→Xdp,nil_append→Xcf,replicate→Xw,getD_eq_getElem?_getD→Xba,all_eq_true→Xae,pairwise_iff_getElem→Xat,getElem_of_mem→Xam,mem_cons→Xo,drop→Xda,filter_eq_self→Xgm
open Int renaming toNat→Xb,le_refl→Xp,toNat_natCast→Xj,tdiv_eq_ediv_of_nonneg→Xed
open Nat renaming zero_add→Xbc,sub_zero→Xdc,le_refl→Xn,lt_trichotomy→Xds
open Option renaming bind_some→Xd,getD_some→Xdz,isSome_some→Xff
namespace Go.Sx
set_option linter.unusedVariables false
set_option linter.unusedSimpArgs false
section
theorem WeY{p:Pb}:Wlp p=true↔(0<=p.1/\p.1<=7)/\(0<=p.2.1/\p.2.1<=4)/\(0<=p.2.2.1/\p.2.2.1<=1000000)/\0<=p.2.2.2/\p.2.2.2<=65535:=by
 unfold Wlp W7 Wbg;simp only[Xh,decide_eq_true_eq]
theorem Wde{c:Int}{w:Wd}:Wqs c w=true↔(0<=w.1/\w.1<=65535)/\(0<=w.2.1/\w.2.1<=c)/\0<=w.2.2/\w.2.2<=99:=by
 unfold Wqs Wbg;simp only[Xh,decide_eq_true_eq]
theorem Wrs{m:Mm}(h:WY m=true){c:Int}(hc:0<=c/\c<=7):Wqs m.1 (Wbi m.2 c (0,0,0))=true:=by
 obtain⟨h8,h0,h1,hw⟩:=Wt h;unfold Wbi;rw[Wf (show c.toNat<m.2.length by omega)];exact hw _ (Xq _)
theorem WlL{m:Mm}{rv:Int}{p:Pb}(hm:WY m=true)(hp:Wlp p=true):Wlp (WV m rv p)=true/\(WV m rv p).1=p.1:=by
 have cR:=WeY.1 hp;have hw:=Wrs hm cR.1;rw[Wde]at hw;obtain⟨h8,h0,h1,_⟩:=Wt hm;unfold WV;simp only[Wu,War];have ya:Wqs m.1 (Xc m.2 (Xb p.1) (0,0,0))=true:=Wrs hm cR.1;rw[Wde]at ya;refine⟨?_,?_⟩
 .rw[WeY]
  repeat' split
  all_goals(try simp only);omega
 .repeat' split
  all_goals rfl
section
variable{code:List Opn}{pc cu wl kY:Nat}{ms q:List KM}{y:KM}{c c' n n':Int}{x:Kd}{f:Fm}{m:Mm}{codes:List (List Opn)}{k:Nat}
theorem KMk.mono(h:KMk code pc ms wl)(hs:stk code cu=stk code pc)(hw:wl<=kY):KMk code cu ms kY:=
 ⟨by rw[hs];exact h.pcs,λq hq=>by have:=h.each q hq;exact⟨this.1,this.2.1,this.2.2.1,by omega⟩,h.up⟩
theorem KMk.begin(h:KMk code pc ms wl)(hp:pc<code.length)(h8:code[pc].1=8){regs:List Int}(hr:Vals 4 regs)(hw:wl<=pc):KMk code (pc+1) (ms++ [((pc:Int),(wl:Int),regs)]) wl:=by
 refine⟨?_,?_,?_⟩
 .rw[Wi3 hp h8,Xr,Xr,h.pcs];rfl
 .intro q hq;rcases Xm.1 hq with hq|hq
  .exact h.each q hq
  .rw[Xz]at hq;subst hq;exact⟨hr,by simp,by simpa using hw,by simp⟩
 .refine Xag.2 ⟨h.up,List.pairwise_singleton _ _,λa ha b hb=>?_⟩;rw[Xz]at hb;subst hb;exact(h.each a ha).2.2.2
theorem KMk.drop(h:KMk code pc ms wl)(rb:ms=q++ [y])(hs:stk code cu=(stk code pc).dropLast)(hw:y.2.1<=kY):KMk code cu q kY:=by
 subst rb;have h1:=h.pcs;refine⟨?_,λa ha=>?_,(Xag.1 h.up).1⟩
 .rw[hs,List.map_dropLast,←h1,Xr];simp
 .have h2:=h.each a (List.mem_append_left _ ha);have h3:=(Xag.1 h.up).2.2 a ha y (by simp);exact⟨h2.1,h2.2.1,h2.2.2.1,by omega⟩
theorem KOk.wk(h:KOk code c n x)(hc:c<=c')(hn:n<=n'):KOk code c' n' x:=
 {h with since:=by have:=h.since;omega,tries:=by have:=h.tries;omega}
theorem Wo4(h:KOk code c n x)(hc:c=f.clock)(hf:Vals 4 f.regs)(h0:0<=f.clock):KOk code c (n+1) (f.again x) where
 pc:=⟨Xp _,by show(0:Int)<=_;omega⟩
 regs:=hf
 rows:=λr hr=>by cases hr
 wl:=Xp _
 sl:=Xp _
 since:=by show 0<=f.clock/\f.clock<=c;omega
 tries:=by have:=h.tries;show 0<=x.tries+1/\x.tries+1<=n+1;omega
 seen:=λe he=>by cases he
 marks:=λ_=>⟨by show([]:List KM).map _=(stk code 0).map _;rfl,(λq hq=>by cases hq),List.Pairwise.nil⟩
 pos:=⟨Xp _,Xp _⟩
 pb:=λh=>by cases h
 phase:=by show(0:Int)<=0/\(0:Int)<=3;omega
 out:=by show(0:Int)<=0/\(0:Int)<=2;omega
theorem KMk.len(hc:CC code)(h:KMk code pc ms wl)(hp:pc<=code.length):(ms.length:Int)=dep code pc:=by
 have:=congrArg Xa h.pcs;simp only[Xaf]at this;rw[this,WbE hc.up pc hp]
theorem KOk.on(aG:CC code)(h:KOk code c n x)(h0:x.phase=0){i:Nat}(hi:i<code.length)(aF:x.pc=i){regs:List Int}{seen:List En}{writes:List Rw}{marks:List KM}{busy:Bool}{pb:Pb}{cu:Nat}(hp:cu<=code.length)(hlt:i<cu)(hr:Vals 4 regs)(hrow:Wi1 writes)(qp:writes.length<=x.writes.length+1)(hsl:seen.length<=x.seen.length+1)
  (hs:∀e∈seen,(0<=e.1/\e.1<=7)/\(0<=e.2.1/\e.2.1<=65535)/\ -1<=e.2.2/\e.2.2<=x.since) (hse:x.seen.length<=seen.length) (hm:KMk code cu marks writes.length) (hb:busy=true->Wlp pb=true):
  KOk code c n {x with regs:=regs,seen:=seen,writes:=writes,marks:=marks,busy:=busy,pb:=pb,pc:=(cu:Int)}:=
 {h with
  pc:=by show(0:Int)<=(cu:Int)/\(cu:Int)<=_;omega
  regs:=hr
  rows:=hrow
  wl:=by have:=h.wl;show(writes.length:Int)<=(cu:Int);omega
  sl:=by have:=h.sl;show(seen.length:Int)<=(cu:Int);omega
  seen:=hs
  marks:=λ_=>by show KMk code ((cu:Nat):Int).toNat marks writes.length;rw[Xj];exact hm
  pos:=by have:=h.pos;show 0<=x.pos/\x.pos<=(seen.length:Int);omega
  pb:=hb}
theorem WtG(aG:CC code)(hF:FOk codes n f)(h:KOk code f.clock n x)(h0:x.phase=0){i:Nat}(hi:i<code.length)(aF:x.pc=i)(h5:code[i].1=5)(hm:WY m=true):
  KOk code f.clock (n+1) (Wej m f x code[i]).2/\((Wej m f x code[i]).1=f\/(Wej m f x code[i]).1={f with lost:=true}):=by
 have aI:=Wwb (aG.ok i hi).1 h5;have hB:0<=code[i].2.2.1/\code[i].2.2.1<=7:=by have:=aI.2;unfold W7 at this;simpa using this
 have hM:=h.marks h0;rw[aF,Xj]at hM;have ay:stk code (i+1)=stk code i:=Wga hi (by omega) (by omega);have bY:x.pc+1=((i+1:Nat):Int):=by omega
 unfold Wej;cases hl:Wbc x.writes code[i].2.2.1 with
 |some v=>
  have hv:=h.rows _ (WiF hl).2;refine⟨?_,.inl rfl⟩;simp only[bY];exact(KOk.on aG h h0 hi aF (by omega) (by omega) (h.regs.set _ hv.2) h.rows (by omega) (by omega) h.seen (by omega) (hM.mono ay (by omega)) h.pb).wk (by omega) (by omega)
 |none=>
  simp only;cases he:ent f.buf code[i].2.2.1 with
  |some r=>
   simp only;have hr:=WcZ he;have mZ:r.2∈f.buf:=by
    have:=hr.2.2.2;exact Xax this
   have gi:=hF.bufE _ mZ;split
   .exact⟨Wo4 h rfl hF.regs hF.clock.1,.inl rfl⟩
   .refine⟨?_,.inl rfl⟩;simp only[bY];refine(KOk.on aG h h0 hi aF (by omega) (by omega) (h.regs.set _ gi.2.1) h.rows (by omega) (by simp) (λe c7=>?_) (by simp) (hM.mono ay (by omega)) h.pb).wk (by omega) (by omega);rcases Xm.1 c7 with c7|c7
    .exact h.seen e c7
    .rw[Xz]at c7;subst c7;exact⟨gi.1,gi.2.1,by omega,by omega⟩
  |none=>
   simp only;have hQ:Wlp (if x.busy=true then x.pb else(code[i].2.2.1,0,0,0))=true:=by
    split
    .exact h.pb ‹_›
    .rw[WeY];simp only;omega
   have bK:=WlL (rv:=f.rv) hm hQ;generalize WV m f.rv (if x.busy=true then x.pb else(code[i].2.2.1,0,0,0))=p at*;have hp:=WeY.1 bK.1;split
   .refine⟨?_,.inr rfl⟩;exact KOk.wk (n:=n) {h with pb:=λ_=>bK.1} (by omega) (by omega)
   .split
    .refine⟨?_,.inl rfl⟩;simp only[bY];refine(KOk.on aG h h0 hi aF (by omega) (by omega) (h.regs.set _ hp.2.2.2) h.rows (by omega) (by simp) (λe c7=>?_) (by simp) (hM.mono ay (by omega)) (λh=>by cases h)).wk (by omega) (by omega);rcases Xm.1 c7 with c7|c7
     .exact h.seen e c7
     .rw[Xz]at c7;subst c7;exact⟨hB,hp.2.2.2,by simp,by have:=h.since;simp only;omega⟩
    .refine⟨?_,.inl rfl⟩;exact KOk.wk (n:=n) {h with pb:=λ_=>bK.1} (by omega) (by omega)
theorem Wu7(bb:KC code)(hF:FOk codes n f)(h:KOk code f.clock n x)(h0:x.phase=0)(hm:WY m=true):
  KOk code f.clock (n+1) (WqK m f x code).2/\((WqK m f x code).1=f\/(WqK m f x code).1={f with lost:=true}):=by
 have aG:=bb.toCC;unfold WqK;split
 .refine⟨?_,.inl rfl⟩;exact KOk.wk (n:=n) {h with marks:=λh=>by(change (1:Int)=0 at h;omega),phase:=by(show(0:Int)<=1/\(1:Int)<=3;omega),out:=by(show(0:Int)<=1/\(1:Int)<=2;omega)} (by omega) (by omega)
 .obtain⟨i,hi,aF,ho⟩:=Wfk (l:=code) h.pc.1 (by have:=h.pc;omega);simp only[ho];obtain⟨ok,o1,gV⟩:=bb.ok i hi;have bT:=bb.k10 i hi;have hM:=h.marks h0;rw[aF,Xj]at hM;have bY:x.pc+1=((i+1:Nat):Int):=by omega
  have qp:x.writes.length<=i:=by have:=h.wl;omega
  split
  .exact WtG aG hF h h0 hi aF ‹_› hm
  .split
   .refine⟨?_,.inl rfl⟩;unfold Wh9;split
    .refine KOk.wk (n:=n) {h with rows:=(λr hr=>by cases hr),wl:=by(have:=h.pc;show(0:Int)<=x.pc;omega),marks:=λh=>by(change (1:Int)=0 at h;omega),phase:=by(show(0:Int)<=1/\(1:Int)<=3;omega),out:=by(show(0:Int)<=2/\(2:Int)<=2;omega)} (by omega) (by omega)
    .obtain⟨j,q,y,e1,e2,e3,⟨hj,h8⟩,qo,cL,ge,e5,e6⟩:=Who (d:=((0,0,[]):KM)) aG (show i<=code.length by omega) hM.pcs ‹_›;obtain⟨y1,y2,y3,y4⟩:=hM.each y (by rw[e1];simp);simp only[e2,e3,Xj,←Int.natCast_succ];have hl:=cL.len;have ht:(Xas y.2.1.toNat x.writes).length=y.2.1.toNat:=by rw[List.length_take];omega
     refine(KOk.on aG h h0 hi aF (cu:=WiA code j+1) (by omega) (by omega) (y1.set _ (by omega)) (λr hr=>h.rows r (List.mem_of_mem_take hr)) (by omega) (by omega) h.seen (by omega) ?_ h.pb).wk (by omega) (by omega);rw[show x.marks.dropLast=q by rw[e1];simp];exact hM.drop e1 (by rw[cL.st];exact e5) (by rw[ht];omega)
   .split
    .refine⟨?_,.inl rfl⟩;have hk:=Ww2 ok ‹_›;have ay:stk code (i+1)=stk code i:=Wga hi (by omega) (by omega);simp only[bY];refine(KOk.on aG h h0 hi aF (by omega) (by omega) h.regs (λr hr=>?_) (by simp) (by omega) h.seen (by omega) (hM.mono ay (by simp)) h.pb).wk (by omega) (by omega);rcases Xm.1 hr with hr|hr
     .exact h.rows r hr
     .rw[Xz]at hr;subst hr;have:=hk.1;unfold W7 at this;exact⟨by simpa using this,h.regs.get _⟩
    .split
     .refine⟨?_,.inl rfl⟩;obtain⟨s1,s2⟩:=bb.sk i hi ‹_›;have hk:=Wv8 ok ‹_›;have ay:stk code (i+1)=stk code i:=Wga hi (by omega) (by omega);have qq:stk code (i+1+code[i].2.2.1.toNat)=stk code i:=by rw[←ay];exact WoH (by omega) s1 s2
      by_cases hg:Wbi x.regs code[i].2.1 0=0
      .simp only[if_pos hg,show x.pc+code[i].2.2.1+1=((i+1+code[i].2.2.1.toNat:Nat):Int) by omega];exact(KOk.on aG h h0 hi aF s1 (by omega) h.regs h.rows (by omega) (by omega) h.seen (by omega) (hM.mono qq (by omega)) h.pb).wk (by omega) (by omega)
      .simp only[if_neg hg,bY];exact(KOk.on aG h h0 hi aF (by omega) (by omega) h.regs h.rows (by omega) (by omega) h.seen (by omega) (hM.mono ay (by omega)) h.pb).wk (by omega) (by omega)
     .split
      .refine⟨?_,.inl rfl⟩;simp only[bY];rw[aF];exact(KOk.on aG h h0 hi aF (by omega) (by omega) h.regs h.rows (by omega) (by omega) h.seen (by omega) (hM.begin hi ‹_› h.regs qp) h.pb).wk (by omega) (by omega)
      .split
       .refine⟨?_,.inl rfl⟩;have hz:x.marks.length≠0:=by
         have h1:=hM.len aG (by omega);have h3:=aG.up i hi;rw[WaG hi,Wk3 ‹_›]at h3;omega
        obtain⟨j,q,y,e1,e2,e3,⟨hj,h8⟩,qo,cL,ge,e5,e6⟩:=Who (d:=((0,0,[]):KM)) aG (show i<=code.length by omega) hM.pcs hz;obtain⟨y1,y2,y3,y4⟩:=hM.each y (by rw[e1];simp);simp only[bY];refine(KOk.on aG h h0 hi aF (by omega) (by omega) (h.regs.set _ (by omega)) h.rows (by omega) (by omega) h.seen (by omega) ?_ h.pb).wk (by omega) (by omega);rw[show x.marks.dropLast=q by rw[e1];simp];exact hM.drop e1 (Wku hi ‹_›) (by omega)
       .refine⟨?_,.inl rfl⟩;have ay:stk code (i+1)=stk code i:=Wga hi (by omega) (by omega);simp only[bY];exact(KOk.on aG h h0 hi aF (by omega) (by omega) (Wlk ok (by omega) (by omega) h.regs) h.rows (by omega) (by omega) h.seen (by omega) (hM.mono ay (by omega)) h.pb).wk (by omega) (by omega)
end
end
section
def WfG(c:Int)(v:List En)(r:Rw):List En:=match ent v r.1 with
 |some a=>v.set a.1 (r.1,r.2,c)
 |none=>v++ [(r.1,r.2,c)]
theorem WmA(c:Int)(v:List En)(r:Rw):(WfG c v r).length<=v.length+1:=by
 unfold WfG;split<;>simp
theorem apE{a b:En}:Ap cfE a b↔a.1≠b.1:=by unfold Ap cfE;omega
theorem WrP{c:Int}{L M:List En}{r:Rw}(hL:L.Pairwise (Ap cfE))(hM:Ris cfE M)(hm:∀x,x∈L↔x∈M):
  (WfG c L r).Pairwise (Ap cfE)/\Ris cfE (WfT cfE M (r.1,r.2,c))/\∀x,x∈WfG c L r↔x∈WfT cfE M (r.1,r.2,c):=by
 have key:(WfG c L r).Pairwise (Ap cfE)/\∀x,x∈WfG c L r↔x=(r.1,r.2,c)\/(x∈L/\Ap cfE x (r.1,r.2,c)):=by
  unfold WfG ent;cases he:fnd (λe:En=>e.1==r.1) L 0 with
  |some a=>
   obtain⟨h1,h2,h3,h4⟩:=WcZ he;simp only[Xbc,Xdc]at h3 h4;have h5:L[a.1]=a.2:=by rw[Xs h3]at h4;injection h4
   exact Wnl WvM hL h3 (by rw[apE,h5];simpa using h1)
  |none=>
   have:=WhU he;exact WjW hL λx hx=>by rw[apE];simpa using this x hx
 refine⟨key.1,WcS WvM hM,λx=>?_⟩;rw[key.2 x,WbP WvM hM,hm]
theorem Ws8{c:Int}:∀{rows:List Rw} {L M:List En},L.Pairwise (Ap cfE)->Ris cfE M->(∀x,x∈L↔x∈M)->
  (rows.foldl (WfG c) L).Pairwise (Ap cfE)/\Ris cfE (Wd6 c M rows)/\∀x,x∈rows.foldl (WfG c) L↔x∈Wd6 c M rows
 | [],_,_,hL,hM,hm=>⟨hL,hM,hm⟩
 |r::rows,L,M,hL,hM,hm=>by
  obtain⟨a,b,d⟩:=WrP (c:=c) (r:=r) hL hM hm;exact Ws8 (rows:=rows) a b d
theorem Wl1{c:Int}:∀(rows:List Rw) (L:List En),(rows.foldl (WfG c) L).length<=L.length+rows.length
 | [],L=>by simp
 |r::rows,L=>by
  have:=Wl1 (c:=c) rows (WfG c L r);have:=WmA c L r;rw[Xce,Xu];omega
theorem WeR{c:Int}{P:En->Prop}:∀{rows:List Rw} {M:List En},Ris cfE M->(∀x∈M,P x)->(∀r∈rows,P (r.1,r.2,c))->∀x∈Wd6 c M rows,P x
 | [],_,_,h,_=>h
 |r::rows,M,hM,h,hr=>by
  refine WeR (rows:=rows) (WcS WvM hM) (λx hx=>?_) λr' h'=>hr r' (Xe _ h');rcases(WbP WvM hM).1 hx with rfl|h'
  .exact hr r (Xi ..)
  .exact h x h'.1
theorem WoS{R:Type}{N:Nat}{k4:Int}{b7 b8 b9:Int}{aQ:Bool}{bc cp bM dA cQ ba:Int}{it:Bool}{da dE dB iu:Int}{bV:List Kc}{cJ:List Int}{db:List Kc}{iv:List Int}{dy:List Kc}{fM:List Y_KidRun}{iw:Nat}{fN:List Int}{fO:List Kb}{fR:List Kc}{cW:List Kk}{K0:Int->Bool->Kr->Option R}(hN:1048576<N)(wD:bV.length<=8):
  ∀(d j n:Nat) (v:List En),j+d=bV.length->d<n->v.length<=100+j->
  Zaw N k4 (Wb bV) b7 b8 b9 aQ bc cp bM dA cQ ba it da dE dB iu bV cJ db iv dy fM iw fN fO fR cW K0 n (j:Int) v=K0 (bV.length:Int) false ((bV.drop j).foldl (WfG b8) v)
 |0,j,n+1,v,hj,hn,hv=>by
  have:j=bV.length:=by omega
  subst this;simp only[Zaw,WaH (Xn bV.length),cond_false,Xdo,List.foldl_nil]
 |d+1,j,n+1,v,hj,hn,hv=>by
  have hlt:j<bV.length:=by omega
  have mF:=Wfy (N:=N) (f:=(b7,(b8,(b9,(aQ,(cJ,(db,(v,(iv,(dy,Xl fM iw (bc,(cp,(bM,(dA,(cQ,(ba,(fN,(fO,(fR,(cW,(it,(da,(dE,(dB,iu)))))))))))))))))))))))) (c:=bV[j].1) (by show v.length<=1048576;omega) hN;have hs:=WmA b8 v bV[j];have bd:∀v',v'=WfG b8 v bV[j]->Zaw N k4 (Wb bV) b7 b8 b9 aQ bc cp bM dA cQ ba it da dE dB iu bV cJ db iv dy fM iw fN fO fR cW K0 n ((j+1:Nat):Int) v'=K0 (bV.length:Int) false ((bV.drop j).foldl (WfG b8) v):=λv' zI=>by
   subst zI;rw[WoS hN wD d (j+1) n _ (by omega) (by omega) (by omega),Xby hlt,Xce]
  simp only[Zaw,Wz,Wao hlt,Wv hlt,WB hlt,Wk (show j<4611686018427387904 by omega),cond_true,mF,ret,Xd];have hd:ent v bV[j].1=ent v bV[j].1:=rfl;unfold WfG at bd;cases he:ent v bV[j].1 with
  |some a=>
   rw[he]at bd;obtain⟨h1,h2,h3,h4⟩:=WcZ he;rw[Xbc]at h3;simp only[decide_eq_true (show((a.1:Int)>=0) by omega),cond_true];rw[Wac,decide_eq_true h3];simp only[cond_true,Xj];exact bd _ rfl
  |none=>
   rw[he]at bd;simp only[show decide ((-1:Int)>=0)=false from rfl,cond_false];rw[WC (by simp;omega)];simp only[cond_true,Xah];exact bd _ rfl
 |_,_,0,_,_,h,_=>by omega
theorem WkX{R:Type}{N:Nat}{jN cE eO eQ:Int}{eS:Bool}{eT ff fg fh fi jP:Int}{jQ:Bool}{jR jS jT jU:Int}{dc:List Kb}{jV:List Int}{jW:List Kc}{jX:List Kb}{jY:List Int}{jZ:List Y_KidRun}{j8:Nat}{eU:List Int}{eV:List Kc}{eW:List Kk}{K0:Int->Bool->Kw->Option R}(yb:dc.length<=1000):
  ∀(d j n:Nat) (v:List Rw),j+d=dc.length->d<n->v.length<=1000+j->
  Za6 N jN (Wb dc) cE eO eQ eS eT ff fg fh fi jP jQ jR jS jT jU dc jV jW jX jY jZ j8 eU eV eW K0 n (j:Int) v=K0 (dc.length:Int) false (v++Wbj (dc.drop j))
 |0,j,n+1,v,hj,hn,hv=>by
  have:j=dc.length:=by omega
  subst this;simp only[Za6,WaH (Xn dc.length),cond_false,Xdo,Wbj,List.filter_nil,List.map_nil,Xcy]
 |d+1,j,n+1,v,hj,hn,hv=>by
  have hlt:j<dc.length:=by omega
  have he:Wbj (dc.drop j)=if dc[j].2.2= -1 then(dc[j].1,dc[j].2.1)::Wbj (dc.drop (j+1))else Wbj (dc.drop (j+1)):=by
   rw[Xby hlt];unfold Wbj;rw[Xbm];by_cases h:dc[j].2.2= -1
   .rw[if_pos h,if_pos (decide_eq_true h)];rfl
   .rw[if_neg h,if_neg (by simpa using h)]
  simp only[Za6,Wz,Wao hlt,Wv hlt,WB hlt,Wk (show j<4611686018427387904 by omega),cond_true,Wu];rw[he];by_cases h:dc[j].2.2= -1
  .rw[if_pos h,if_pos h,WC (by simp;omega)];simp only[cond_true];rw[WkX yb d (j+1) n _ (by omega) (by omega) (by simp;omega)];simp
  .rw[if_neg h,if_neg h];rw[WkX yb d (j+1) n _ (by omega) (by omega) (by omega)]
 |_,_,0,_,_,h,_=>by omega
variable{N:Nat}{codes:List (List Opn)}{n:Int}{f:Fm}{k:Nat}{code:List Opn}{m:Mm}{x:Kd}
theorem Wwl{l:List En}(h:Ris cfE l):l.Pairwise (Ap cfE):=h.imp λh=>.inl h
theorem Wkl(hk:k<f.kids.length)(h3:f.kids.length<=3)(mG:code.length<=24)(hF:FOk codes n f)(aK:codes.getD k []=code)(aD:f.kids[k]=x)(hN:1048576<N):
  Zdf N f.e (k:Int)=some (((Fm.put (Wdb f x k) k).e,()),()):=by
 have hx:=hF.kid k hk;rw[aK,aD]at hx;obtain⟨f0,f1,f2,f3,f4,f5,f6,f7,f8,f9⟩:=fmP f;have aF:=hx.pc;have qp:=hx.wl;have hsl:=hx.sl;have hb8:=hF.buf8;have qr:f.order.length<=3:=by
  have h1:=hF.done;have:=Xdv (p:=λx:Kd=>decide (x.phase=3)) (l:=f.kids);omega
 have nF:=hF.readsL;have e2:Xc (f.kids.map Kd.e) (Xb (k:Int)) d_KidRun=x.e:=by
  have:=Wgt Kd.e f.kids k {};rw[Wf hk,aD]at this;exact this
 unfold Zdf;simp only[f9,Xaf];rw[Wac,decide_eq_true hk];simp only[cond_true,e2];have en:Zfy N x.e.2.2.2.2.2.2.2.2.1=ret (WcN x.writes):=WdO (show x.writes.length<=1048576 by omega) hN;rw[en];simp only[ret,Xd];have iJ:=Wf0 x.writes;rw[show(0:Int)=((0:Nat):Int)from rfl];rw[WoS (bV:=WcN x.writes) hN iJ (WcN x.writes).length 0 N _ (by omega) (by omega) (by show f.buf.length<=_;omega)];simp only[Xcc];have hP6:P6 f.e=f.buf:=rfl;have hcl:We .i64 f.e.2.1 1=f.clock+1:=WcG (by have:=hF.clock;show 0<=f.clock/\_;omega);rw[hP6,hcl];obtain⟨i1,i2,i3⟩:=Ws8 (c:=f.clock+1) (rows:=WcN x.writes) (Wwl hF.bufR) hF.bufR (λx=>Iff.rfl);unfold Zal;have gh:=Wl1 (c:=f.clock+1) (WcN x.writes) f.buf;rw[Wpv (rng:=Wwe) (N:=N) WvM i2 i1 i3 (λe he=>?_) (by omega)]
 .simp only[Xd];have hP7:P7 x.e=x.seen:=rfl;rw[show(Kd.e x).2.2.2.2.2.2.2.1=x.seen from rfl];rw[WkX (dc:=x.seen) (by omega) x.seen.length 0 N _ (by omega) (by omega) (by show f.reads.length<=_;omega)];rw[WC (by show f.order.length+1<=_;omega)];simp only[cond_true,Xcc];have hU:∀(g:Fm) (y:Kd),U6 (Xl (f.kids.map Kd.e) k y.e) (S5 (f.reads++Wbj x.seen) (S4 (f.order++ [(k:Int)]) (S3 (Wd6 (f.clock+1) f.buf (WcN x.writes)) f.e.2.2.2)))=(f.lost,f.regs,f.start,Wd6 (f.clock+1) f.buf (WcN x.writes),f.order++ [(k:Int)],f.reads++Wbj x.seen,(f.kids.set k y).map Kd.e):=λg y=>by
   rw[Xfv];rfl
  rw[Xj];exact congrArg (λz=>some (((f.rv,(f.clock+1,((0:Int),z))),()),())) (hU f {x with phase:=3,pos:=0,marks:=[]})
 .have h1:=(i3 e).1 he;have:=WeR (P:=λe=>0<=e.1/\e.1<=7) hF.bufR (λe he=>(hF.bufE e he).1) (λr hr=>(WoK.1 hr).1) e h1;unfold Wwe WuZ;simp;omega
theorem WmX(hk:k<f.kids.length)(hF:FOk codes n f)(hx:KOk code f.clock n x)(aD:f.kids[k]=x)(hn:n<=100000)(o:Int):
  Zbh N (Fm.e {f with owner:=o}) (k:Int)=some (((Fm.put ({f with owner:=o},f.again x) k).e,()),()):=by
 have h:=WeL (N:=N) (f:=Fm.e {f with owner:=o}) (k:=k) (x:=x.e) (by show k<(f.kids.map Kd.e).length;simpa using hk) hF.regs.len (by have:=hx.tries;show 0<=x.tries/\x.tries<=100000;omega);have e3:U9 (Xl (Q9 (Fm.e {f with owner:=o})) k x.e) (Fm.e {f with owner:=o})=Fm.e {f with owner:=o}:=by
  have:=U9e {f with owner:=o} k x;rw[←aD]at this;simp only[Xbf]at this;rw[←aD];exact this
 rw[e3]at h;rw[h];exact congrArg (λz=>some ((z,()),())) (U9e {f with owner:=o} k (f.again x))
theorem Wkk(hk:k<f.kids.length)(h3:f.kids.length<=3)(hm:WY m=true)(bb:KC code)(hF:FOk codes n f)(aK:codes.getD k []=code)(hn:n<=100000)(hN:1048576<N):
  Zhw N f.e (k:Int) code m=some (((WcD m f k code).e,()),()):=by
 obtain⟨x,aD⟩:∃x,f.kids[k]=x:=⟨_,rfl⟩;have hx:=hF.kid k hk;rw[aK,aD]at hx;obtain⟨f0,f1,f2,f3,f4,f5,f6,f7,f8,f9⟩:=fmP f;obtain⟨k0,k1,k2,k3,k4,k5,k6,k7,k8,k9,k10⟩:=kdP x;have hsl:=hx.sl;have aF:=hx.pc;have mG:=bb.len;have e2:Xc (f.kids.map Kd.e) (Xb (k:Int)) d_KidRun=x.e:=by
  have:=Wgt Kd.e f.kids k {};rw[Wf hk,aD]at this;exact this
 have e3:U9 (Xl (f.kids.map Kd.e) (Xb (k:Int)) x.e) f.e=f.e:=by
  rw[Xj,U9e,←aD,Xbf]
 have e4:Fm.put (f,x) k=f:=by unfold Fm.put;simp only;rw[←aD,Xbf]
 unfold Zhw WcD Wei;simp only[Wz,f9,f3,Xaf];rw[WhP];by_cases bz:f.lost=true
 .rw[if_pos bz,if_pos bz]
 rw[if_neg bz,if_neg bz];rw[Wac,decide_eq_true hk];simp only[cond_true,cond_false,e2,e3,k0,k4,k7,f2,Wu,Wf hk,aD];by_cases h0:x.phase=0
 .rw[if_pos h0,if_pos h0,Wof hk hm bb hF aK aD h0 hn hN];rfl
 .rw[if_neg h0,if_neg h0];by_cases h1:x.phase=1
  .rw[if_pos h1,if_pos h1];by_cases ho:f.owner=0
   .rw[if_pos ho,if_pos ho,WcG (by omega),Xj];exact WqL rfl rfl rfl
   .rw[if_neg ho,if_neg ho,e4]
  .rw[if_neg h1,if_neg h1];by_cases h2:x.phase=2
   .rw[if_pos h2,if_pos h2];unfold Wb;by_cases hp:x.pos=(x.seen.length:Int)
    .rw[if_pos hp,if_pos hp,Wkl hk h3 mG hF aK aD hN];rfl
    .rw[if_neg hp,if_neg hp];have hpos:=hx.pos;have il:inb x.pos x.seen.length=true:=by unfold inb;simp;omega
     rw[il];have hg:Xc x.seen (Xb x.pos) ((0,0,0):En)=Wbi x.seen x.pos (0,0,0):=rfl;simp only[cond_true,hg];have mF:=Wfy (N:=N) (f:=f.e) (c:=(Wbi x.seen x.pos (0,0,0)).1) (by show f.buf.length<=1048576;have:=hF.buf8;omega) hN;rw[show f.e.2.2.2.2.2.2.1=f.buf from rfl]at mF;rw[mF];simp only[ret,Xd,f6];have hsz:S2 (0:Int) f.e=Fm.e {f with owner:=0}:=rfl;have dL:Zbh N (U9 (Xl (f.kids.map Kd.e) (Xb (k:Int)) x.e) (S2 0 f.e)) (k:Int)=some (((Fm.put ({f with owner:=0},f.again x) k).e,()),()):=by
      rw[hsz];have h:=U9e {f with owner:=0} k x;rw[Xj];rw[show(U9 (Xl (f.kids.map Kd.e) k x.e) (Fm.e {f with owner:=0}))=Fm.e {f with owner:=0} by
       rw[h,←aD];simp only[Xbf]]
      exact WmX hk hF hx aD hn 0
     unfold WvZ;have tj:We .i64 x.pos 1=x.pos+1:=WcG (by omega);rw[tj];cases he:ent f.buf (Wbi x.seen x.pos (0,0,0)).1 with
     |some a=>
      obtain⟨g1,g2,g3,g4⟩:=WcZ he;rw[Xbc]at g3;rw[Xdc,Xs g3]at g4;injection g4 with g4;simp only[decide_eq_true (show((a.1:Int)>=0) by omega),cond_true];rw[Wac,decide_eq_true g3];simp only[cond_true,WB g3,g4];by_cases hv:a.2.2.2=(Wbi x.seen x.pos (0,0,0)).2.2
      .rw[if_pos hv,if_pos hv,Xj];exact WqL rfl rfl rfl
      .rw[if_neg hv,if_neg hv,dL];rfl
     |none=>
      simp only[show decide ((-1:Int)>=0)=false from rfl,cond_false];by_cases hv:(-1:Int)=(Wbi x.seen x.pos (0,0,0)).2.2
      .rw[if_pos hv,if_pos hv,Xj];exact WqL rfl rfl rfl
      .rw[if_neg hv,if_neg hv,dL];rfl
   .rw[if_neg h2,if_neg h2,e4]
end
section
section
variable{codes:List (List Opn)}{n:Int}{f f':Fm}{k:Nat}{code:List Opn}{m:Mm}{x y:Kd}
theorem FOk.len3(h:FOk codes n f)(h3:codes.length<=3):f.order.length<=3:=by
 have h1:=h.done;have:=Xdv (p:=λx:Kd=>decide (x.phase=3)) (l:=f.kids);have:=h.len;omega
theorem FOk.put1(h:FOk codes n f)(hk:k<f.kids.length)(aK:codes.getD k []=code){o:Int}{l:Bool}(ho:0<=o/\o<=f.kids.length)(hy:KOk code f.clock (n+1) y)(hp:f.kids[k].phase≠3)(zJ:y.phase≠3):
  FOk codes (n+1) (Fm.put ({f with owner:=o,lost:=l},y) k) where
 len:=by show(f.kids.set k y).length=_;rw[Xad];exact h.len
 regs:=h.regs
 clock:=h.clock
 done:=by
  show f.order.length=(f.kids.set k y).countP _;rw[Xhc hk,if_neg (by simpa using hp),if_neg (by simpa using zJ)];exact h.done
 bufR:=h.bufR
 bufE:=h.bufE
 readsL:=h.readsL
 readsE:=h.readsE
 owner:=by show 0<=o/\o<=((f.kids.set k y).length:Int);rw[Xad];exact ho
 kid:=λi hi=>by
  change i<(f.kids.set k y).length at hi;rw[Xad]at hi;show KOk (codes.getD i []) f.clock (n+1) (f.kids.set k y)[i];rw[Xao];by_cases he:k=i
  .subst he;rw[if_pos rfl,aK];exact hy
  .rw[if_neg he];exact(h.kid i hi).wk (by omega) (by omega)
theorem FOk.wk(h:FOk codes n f){n':Int}(hn:n<=n'):FOk codes n' f:=
 {h with kid:=λk hk=>(h.kid k hk).wk (by omega) hn}
theorem Wlb(h:∀e∈x.seen,(0<=e.1/\e.1<=7)/\(0<=e.2.1/\e.2.1<=65535)/\ -1<=e.2.2/\e.2.2<=x.since):Wi1 (Wbj x.seen):=by
 intro r hr;unfold Wbj at hr;obtain⟨e,he,rfl⟩:=Xv.1 hr;have:=h e (Xav.1 he).1;exact⟨this.1,this.2.1⟩
theorem Wnk(l:List En):(Wbj l).length<=l.length:=by
 unfold Wbj;rw[Xaf];exact List.length_filter_le _ _
theorem Whe{c:Int}:∀{rows:List Rw} {M:List En},Ris cfE M->Ris cfE (Wd6 c M rows)
 | [],_,h=>h
 |r::rows,M,h=>Whe (rows:=rows) (WcS WvM h)
theorem WsX(hF:FOk codes n f)(hk:k<f.kids.length)(bb:code.length<=24)(aK:codes.getD k []=code)(aD:f.kids[k]=x)(h2:x.phase=2):
  FOk codes (n+1) (Fm.put (Wdb f x k) k):=by
 have hx:=hF.kid k hk;rw[aK,aD]at hx;have hc:=hF.clock;unfold Wdb Fm.put;refine{len:=?_,regs:=hF.regs,clock:=?_,done:=?_,bufR:=Whe hF.bufR,bufE:=?_,readsL:=?_,readsE:=?_,owner:=?_,kid:=?_}
 .simp only[Xad];exact hF.len
 .simp only[Xaa,Xdu];omega
 .simp only[Xaa,Xdu];rw[Xhc hk,aD,if_neg (by simp[h2]),if_pos (by simp),←hF.done];rfl
 .simp only;refine WeR hF.bufR (λe he=>?_) λr hr=>?_
  .have:=hF.bufE e he;exact⟨this.1,this.2.1,this.2.2.1,by omega⟩
  .have:=Wf1 r hr;exact⟨this.1,this.2,by simp only;omega,by simp only;omega⟩
 .have h1:=hF.readsL;have h2:=Wnk x.seen;have h3:=hx.sl;have h4:=hx.pc;simp only[Xaa,Xdu];omega
 .intro r hr;rcases Xm.1 hr with hr|hr
  .exact hF.readsE r hr
  .exact Wlb hx.seen r hr
 .simp only[Xad];omega
 .intro i hi;simp only[Xad]at hi;simp only[Xao];by_cases he:k=i
  .subst he;rw[if_pos rfl,aK];refine KOk.wk (c:=f.clock) (n:=n) ?_ (by omega) (by omega);exact{hx with marks:=(λh=>by(change (3:Int)=0 at h;omega)),pos:=⟨Xp _,by show(0:Int)<=_;omega⟩,phase:=by(show(0:Int)<=3/\(3:Int)<=3;omega)}
  .rw[if_neg he];exact(hF.kid i hi).wk (by omega) (by omega)
theorem Wlx(hk:k<f.kids.length)(hm:WY m=true)(bb:KC code)(hF:FOk codes n f)(aK:codes.getD k []=code):FOk codes (n+1) (WcD m f k code):=by
 obtain⟨x,aD⟩:∃x,f.kids[k]=x:=⟨_,rfl⟩;have hx:=hF.kid k hk;rw[aK,aD]at hx;have e4:Fm.put (f,x) k=f:=by unfold Fm.put;simp only;rw[←aD,Xbf]
 have hFw:=hF.wk (show n<=n+1 by omega);unfold WcD Wei;split
 .exact hFw
 rw[Wf hk,aD];split
 .rename_i h0;obtain⟨h1,h2⟩:=Wu7 bb hF hx h0 hm;have zK:(WqK m f x code).2.phase≠3:=by
   unfold WqK Wej Wh9;simp only
   repeat' split
   all_goals simp[h0,Fm.again]
  have:=h1;have key:∀q:Fm×Kd,(q.1=f\/q.1={f with lost:=true})->KOk code f.clock (n+1) q.2->q.2.phase≠3->FOk codes (n+1) (Fm.put q k):=by
   rintro⟨g,y⟩ hg hy hp;simp only at hg hy hp;rcases hg with rfl|rfl
   .exact FOk.put1 (o:=g.owner) (l:=g.lost) hF hk aK hF.owner hy (by rw[aD,h0];omega) hp
   .exact FOk.put1 (o:=f.owner) (l:=true) hF hk aK hF.owner hy (by rw[aD,h0];omega) hp
  exact key _ h2 h1 zK
 .split
  .rename_i h1;split
   .refine FOk.put1 (o:=(k:Int)+1) (l:=f.lost) hF hk aK (by omega) ?_ (by rw[aD,h1];omega) (by show(2:Int)≠3;omega);refine KOk.wk (c:=f.clock) (n:=n) ?_ (by omega) (by omega);exact{hx with marks:=(λh=>by(change (2:Int)=0 at h;omega)),phase:=by(show(0:Int)<=2/\(2:Int)<=3;omega)}
   .rw[e4];exact hFw
  .split
   .rename_i h2;split
    .exact WsX hF hk bb.len aK aD h2
    .simp only;split
     .refine FOk.put1 (o:=f.owner) (l:=f.lost) hF hk aK hF.owner ?_ (by rw[aD,h2];omega) (by show x.phase≠3;omega);refine KOk.wk (c:=f.clock) (n:=n) ?_ (by omega) (by omega);exact{hx with pos:=by(have:=hx.pos;show 0<=x.pos+1/\x.pos+1<=(x.seen.length:Int);omega)}
     .refine FOk.put1 (o:=0) (l:=f.lost) hF hk aK (by omega) (Wo4 hx rfl hF.regs hF.clock.1) (by rw[aD,h2];omega) (by show(0:Int)≠3;omega)
   .rw[e4];exact hFw
theorem WsT{rv:Int}{regs:List Int}{writes:List Rw}(hr:Vals 4 regs)(hn:0<=n):FOk codes n (WaA rv regs writes codes.length) where
 len:=by simp[WaA]
 regs:=hr
 clock:=by simp[WaA]
 done:=by
  simp only[WaA,Xee];rw[List.countP_replicate,if_neg (by simp)]
 bufR:=by
  unfold Ris WaA;simp only[Xel];exact(WnT writes).imp λ{a b} h=>by unfold cfE;simp only;omega
 bufE:=λe he=>by
  obtain⟨r,hr,rfl⟩:=Xv.1 he;have:=Wf1 r hr;exact⟨this.1,this.2,by simp[WaA]⟩
 readsL:=by simp[WaA]
 readsE:=λr hr=>by cases hr
 owner:=by simp[WaA]
 kid:=λk hk=>by
  simp only[WaA,Xbj];exact{pc:=by simp,regs:=hr,rows:=(λr hr=>by cases hr),wl:=by simp,sl:=by simp,since:=by simp,tries:=by simp;omega,seen:=(λe he=>by cases he),marks:=(λ_=>⟨by simp[stk],(λq hq=>by cases hq),List.Pairwise.nil⟩),pos:=by simp,pb:=(λh=>by cases h),phase:=by simp,out:=by simp}
end
end
section
theorem Wj8{α β R:Type}{body:Int->α->List β->(List β->Option R)->Option R}{K:Int->List β->Option R}{f:α->β}:∀(l:List α) (d r:List β),l.length<=r.length->
  (∀(j:Nat) x (v:List β) k,x∈l->j<v.length->body j x v k=k (v.set j (f x)))->Wcg body K l d.length (d++r)=K ((d.length+l.length:Nat):Int) (d++(l.map f++r.drop l.length))
 | [],d,r,_,_=>by simp[Wcg]
 |x::l,d,[],h,_=>by simp at h
 |x::l,d,y::r,h,hb=>by
  rw[Wcg,hb d.length x _ _ (Xi ..) (by simp),Wdk];have:=Wj8 (body:=body) (K:=K) (f:=f) l (d++ [f x]) r (by simpa using h) λj z v k hz=>hb j z v k (Xe _ hz);simp only[Xaa,Xdu,Xbs,Xer]at this;rw[this];simp only[Xu,List.map_cons,List.drop_succ_cons,List.cons_append];rw[show d.length+1+l.length=d.length+(l.length+1) by omega]
theorem WlG{α:Type}{R:Type}{l:List α}{p:α->Bool}{lp:Nat->Int->Option R}{N:Nat}{K0:Int->Option R}{K1:Option R}(hl:l.length<N)(eZ:l.length<=1048576)(hs:∀n (j:Nat) (h:j<l.length),lp (n+1) (j:Int)=bif p l[j]then K0 j else lp n ((j+1:Nat):Int))(he:∀n,lp (n+1) (l.length:Int)=K1):lp N 0=match fnd p l 0 with|some r=>K0 r.1|none=>K1:=by
 have h1:=WO (l:=l) (V:=Unit) (lp:=λn j _=>lp n j) hl (body:=λj x v k=>bif p x then K0 j else k v) (K:=λ_ _=>K1) (λn j v h=>hs n j h) (λn v=>he n) ();refine h1.trans ?_;rw[Wgb (p:=p) (E:=λj _=>K0 j) l 0 () (λj x v k _=>rfl)];cases fnd p l 0<;>rfl
theorem Wkw{α:Type}{p:α->Bool}:∀(l:List α) (j:Nat),(fnd p l j).isSome=l.any p
 | [],_=>rfl
 |x::l,j=>by
  unfold fnd;rw[List.any_cons];cases p x
  .simp[Wkw l]
  .rfl
variable{N:Nat}
theorem WmR{f:Fm}(h3:f.kids.length<=3)(hN:1048576<N):Zlc N f.e=ret (Wbd f):=by
 unfold Zlc Zak Zv;have e:f.e.2.2.2.2.2.2.2.2.2=f.kids.map Kd.e:=rfl;rw[e];have hl:(f.kids.map Kd.e).length<=3:=by simpa using h3
 have h1:=WlG (l:=f.kids.map Kd.e) (p:=λx=>x.1 !=3) (N:=N) (lp:=λn j=>Zg N (f.kids.map Kd.e) (λaL=>(some ((),(aL,())))) (λaM be=>(some ((),((-1:Int),())))) n j) (K0:=λj=>some ((),(j,()))) (K1:=some ((),((-1:Int),()))) (by omega) (by omega)
  (λn j hj=>by
   simp only[Zg,Wao hj,Wv hj,WB hj,Wk (show j<4611686018427387904 by omega),cond_true,Zmb,Xd])
  (λn=>by simp only[Zg,WaH (Xn _),cond_false])
 rw[h1];have h2:=Wkw (p:=λx:Y_KidRun=>x.1 !=3) (f.kids.map Kd.e) 0;have h3:(f.kids.map Kd.e).any (λx=>x.1 !=3)= !Wbd f:=by
  unfold Wbd;rw[List.any_map,←WcC];have:((λx:Y_KidRun=>x.1 !=3)∘Kd.e)= λx:Kd=>!decide (x.phase=3):=by
   funext x;show(x.phase !=3)= !decide (x.phase=3);by_cases h:x.phase=3<;>simp[h]
  rw[this]
 rw[h3]at h2;cases hf:fnd (λx:Y_KidRun=>x.1 !=3) (f.kids.map Kd.e) 0 with
 |some r=>
  rw[hf]at h2;simp only[Xd,decide_eq_true (show((r.1:Int)>=0) by omega),Xab,ret];rw[show Wbd f=false by simpa using h2.symm]
 |none=>
  rw[hf]at h2;rw[show Wbd f=true by simpa using h2.symm];rfl
theorem Wm3{f:Fm}(h:f.buf.length<=1000)(hN:1048576<N):Zgy N f.e=ret (WgP f):=by
 unfold Zgy;have e:f.e.2.2.2.2.2.2.1=f.buf:=rfl;rw[e];have h1:=WO (l:=f.buf) (V:=List Rw) (R:=Unit×(List Rw×Unit)) (lp:=λn j v=>Zco N f.buf (Wb f.buf) (λt9 aB am=>(some ((),(am,())))) n j v) (n:=N) (by omega)
  (body:=λj x v k=>bif WG (v.length+ [(x.1,x.2.1)].length)then k (Xf v [(x.1,x.2.1)])else none) (K:=λ_ v=>ret v)
  (λn i v hi=>by simp only[Zco,Wao hi,Wv hi,WB hi,Wk (show i<4611686018427387904 by omega),cond_true])
  (λn v=>by simp only[Zco,WaH (Xn f.buf.length),cond_false]) []
 refine h1.trans ?_;rw[Wds (f:=λx:En=>(x.1,x.2.1)) f.buf 0 [] (by simp;omega) (λj x v k _=>rfl)];rfl
theorem WlB{f:Fm}(hr:Vals 4 f.regs)(h3:f.kids.length<=3)(hx:∀x∈f.kids,x.regs.length<=1000)(hN:1048576<N):Zgx N f.e=ret (WiQ f):=by
 unfold Zgx WiQ;have e:f.e.2.2.2.2.1=f.regs:=rfl;have e2:f.e.2.2.2.2.2.2.2.2.2=f.kids.map Kd.e:=rfl;have nG:Wfw f.regs=true:=We8.2 hr;have hl:=hr.len;have hm:(f.kids.map Kd.e).length=f.kids.length:=by simp
 rw[e,e2,Wdf (by omega) hN,if_pos ⟨nG,h3⟩];simp only[ret,Xd,nG,Xab,cond_false];rw[decide_eq_false (by unfold Wb;omega),Wbt (by omega)];simp only[ret,Xd,cond_false];have h1:=WO (l:=f.kids.map Kd.e) (V:=List Int) (R:=Unit×(List Int×Unit)) (lp:=λn j v=>Zbm N (f.kids.map Kd.e) (Wb (f.kids.map Kd.e)) (λbS iq de=>(some ((),(de,())))) n j v) (n:=N) (by omega)
  (body:=λj x v k=>bif inb j v.length then(bif x.2.2.2.2.2.1==(1:Int)then((Zaj N (P6 x) (4:Int)).bind λcw=>(bif cw.2.1 then(bif inb 0 (P6 x).length then(bif inb j (Xl v j.toNat 0).length then k (Xl (Xl v j.toNat 0) j.toNat (Xc (P6 x) (Xb (0:Int)) 0))else none)else none)else k (Xl v j.toNat 0)))else k (Xl v j.toNat 0))else none) (K:=λ_ v=>ret v)
  (λn i v hi=>by simp only[Zbm,Wz,Wao hi,Wv hi,WB hi,Wk (show i<4611686018427387904 by omega),cond_true];rfl)
  (λn v=>by simp only[Zbm,WaH (Xn _),cond_false]) f.regs
 refine h1.trans ?_;have h2:=Wj8 (β:=Int) (K:=λ_ v=>ret v) (f:=λx:Y_KidRun=>if P5 x=1/\Wfw (P6 x)=true then Wbi (P6 x) 0 0 else 0) (f.kids.map Kd.e) [] f.regs (by omega) (body:=λj x v k=>bif inb j v.length then(bif x.2.2.2.2.2.1==(1:Int)then((Zaj N (P6 x) (4:Int)).bind λcw=>(bif cw.2.1 then(bif inb 0 (P6 x).length then(bif inb j (Xl v j.toNat 0).length then k (Xl (Xl v j.toNat 0) j.toNat (Xc (P6 x) (Xb (0:Int)) 0))else none)else none)else k (Xl v j.toNat 0)))else k (Xl v j.toNat 0))else none)
  (λj x v k zL hj=>by
   obtain⟨y,hy,rfl⟩:=Xv.1 zL;have hyl:=hx y hy;have p5:(Kd.e y).2.2.2.2.2.1=y.out:=rfl;have zM:P5 (Kd.e y)=y.out:=rfl;have p6:P6 (Kd.e y)=y.regs:=rfl;simp only[p5,zM,p6,Wac,decide_eq_true hj,cond_true,Wdf (show y.regs.length<=1048576 by omega) hN,ret,Xd,Wu,Xj,Xad];by_cases h1:y.out=1
   .rw[if_pos h1];cases nG:Wfw y.regs
    .rw[if_neg (by simp)];rfl
    .have:y.regs.length=4:=(We8.1 nG).len;rw[if_pos ⟨h1,rfl⟩,show inb (0:Int) y.regs.length=true by rw[this];rfl];simp only[cond_true,Xdp];rfl
   .rw[if_neg h1,if_neg (λh=>h1 h.1)])
 simp only[Xee,Xcf,Xaf,List.map_map]at h2;exact h2
theorem Wje{rv:Int}{regs:List Int}{writes:List Rw}{kids:Nat}(hr:regs.length<=1000)(hw:writes.length<=1000)(hk:kids<=3)(hN:1048576<N):
  Zga N rv regs writes (kids:Int)=ret (WaA rv regs writes kids).e:=by
 unfold Zga;rw[Wbt (by omega),WdO (by omega) hN];have hn:=Wf0 writes;simp only[ret,Xd];have h1:=WO (l:=WcN writes) (V:=List En) (R:=Unit×(Y_Family×Unit)) (lp:=λn j v=>Zce N regs kids (Wb (WcN writes)) rv (WcN writes) regs (λt25 sB dy=>
  (Zbf N regs kids rv regs (WcN writes) dy
 (λvK t50 oE=>
  (some ((),((rv,((0:Int),((0:Int),(false,(regs,(WcN writes,(dy,(([]:List Int),(([]:List Kc),oE))))))))),()))))
 N (0:Int) ([]:List Y_KidRun))) n j v) (n:=N) (by omega)
  (body:=λj x v k=>bif WG (v.length+ [(x.1,(x.2,(0:Int)))].length)then k (Xf v [(x.1,(x.2,(0:Int)))])else none) (K:=λ_ dy=>(Zbf N regs kids rv regs (WcN writes) dy
 (λvK t50 oE=>
  (some ((),((rv,((0:Int),((0:Int),(false,(regs,(WcN writes,(dy,(([]:List Int),(([]:List Kc),oE))))))))),()))))
 N (0:Int) ([]:List Y_KidRun)))
  (λn i v hi=>by simp only[Zce,Wao hi,Wv hi,WB hi,Wk (show i<4611686018427387904 by omega),cond_true])
  (λn v=>by simp only[Zce,WaH (Xn _),cond_false]) []
 refine h1.trans ?_;rw[Wds (f:=λx:Rw=>(x.1,(x.2,(0:Int)))) (WcN writes) 0 [] (by simp;omega) (λj x v k _=>rfl)];simp only[Xcf];obtain⟨b,hb⟩:∃b,(WcN writes).map (λx:Rw=>(x.1,(x.2,(0:Int))))=b:=⟨_,rfl⟩;rw[hb];have lp:∀(d j n:Nat) (v:List Y_KidRun),j+d=kids->d<n->v=Xw j (Kd.e {regs:=regs})->Zbf N regs kids rv regs (WcN writes) b (λvK t50 oE=>(some ((),((rv,((0:Int),((0:Int),(false,(regs,(WcN writes,(b,(([]:List Int),(([]:List Kc),oE))))))))),())))) n (j:Int) v=some ((),((rv,((0:Int),((0:Int),(false,(regs,(WcN writes,(b,(([]:List Int),(([]:List Kc),Xw kids (Kd.e {regs:=regs})))))))))),())):=by
  intro d
  induction d with
  |zero=>
   intro j n v hj hn hv;obtain⟨n,rfl⟩:∃n',n=n'+1:=⟨n-1,by omega⟩;have:j=kids:=by omega
   subst this;simp only[Zbf,Int.lt_irrefl,decide_false,cond_false,hv]
  |succ d ih=>
   intro j n v hj hn hv;obtain⟨n,rfl⟩:∃n',n=n'+1:=⟨n-1,by omega⟩;have hlt:(j:Int)<(kids:Int):=by omega
   have tO:v.length=j:=by rw[hv];simp
   simp only[Zbf,decide_eq_true hlt,cond_true,Wbt (show regs.length<=1048576 by omega),ret,Xd];rw[WC (by simp;omega)];simp only[cond_true];rw[Wk (by omega)];refine ih (j+1) n _ (by omega) (by omega) ?_;rw[hv,List.replicate_succ'];rfl
 have:=lp kids 0 N [] (by omega) (by omega) rfl;refine this.trans ?_;unfold WaA Fm.e;simp only[List.map_replicate,hb]
end
section
def WcH(s:Int):Int:=(s-1)/65536
def WbH(k:Int):Int:=(7*k+3)%4
structure SlOk(l:List Int):Prop where
 len:l.length=16
 each:∀i (h:i<l.length),l[i]=0\/((1<=l[i]/\l[i]<=524288)/\WbH (WcH l[i])=((i/4:Nat):Int))
 one:∀i j (hi:i<l.length) (hj:j<l.length),i<j->l[i]≠0->l[j]≠0->WcH l[i]≠WcH l[j]
def WpT(k s:Int):Bool:=decide (s>0)&&decide (WcH s=k)
def Wo5(l:List Int)(k:Int):Option (Nat×Int):=fnd (WpT k) l 0
def Wf4(l:List Int)(k:Int):Nat:=if Wbi l (4*WbH k) 0=0 then(4*WbH k).toNat else(4*WbH k).toNat+1
def Wov(l:List Int)(k v:Int):List Int:=match Wo5 l k with
 |some r=>l.set r.1 (1+65536*k+v)
 |none=>l.set (Wf4 l k) (1+65536*k+v)
def Wev(l:List Int)(k:Int):Int:=match Wo5 l k with
 |some r=>(r.2-1)%65536+1
 |none=>0
def Wjy(l:List Int)(k:Int):List Int:=match Wo5 l k with
 |some r=>l.set r.1 0
 |none=>l
variable{N:Nat}{l:List Int}{k v:Int}
theorem Wve{n:Int}(h:I64 n):IntKind.wrap .i64 n=n:=wrap_i64 h
theorem WmD{s:Int}(h:1<=s/\s<=524288):Zg5 N s=ret (WcH s):=by
 unfold Zg5;rw[Waq (by unfold I64;omega)];have:WqM .i64 (s-1) 65536=WcH s:=by
  unfold WqM WcH;rw[Xed (by omega),Wve (by unfold I64;omega)]
 rw[this];rfl
theorem Wkn{s:Int}(h:1<=s/\s<=524288):0<=WcH s/\WcH s<=7:=by unfold WcH;omega
theorem WeK:Za4 N k=ret (decide (0<=k)&&decide (k<=7)):=by unfold Za4;rw[Wn];rfl
theorem Wjx(hk:0<=k/\k<=7)(hv:0<=v/\v<=65535):Zhr N k v=ret (1+65536*k+v):=by
 unfold Zhr;rw[WdN (by unfold I64;omega),Ww (a:=1) (by unfold I64;omega),Ww (by unfold I64;omega)]
theorem WjX(hk:0<=k/\k<=7):Zhz N k=ret (WbH k):=by
 unfold Zhz;rw[WeK,WdN (by unfold I64;omega),Ww (by unfold I64;omega)];have:Wb7 (7*k+3) 4=WbH k:=by unfold Wb7 WbH;exact Int.tmod_eq_emod_of_nonneg (by omega)
 simp only[ret,Xd,decide_eq_true hk.1,decide_eq_true hk.2,Xbr,Xab,cond_false,this];rfl
theorem SlOk.val(h:SlOk l){i:Nat}(hi:i<l.length)(hn:l[i]≠0):1<=l[i]/\l[i]<=524288:=by
 rcases h.each i hi with h0|h0
 .exact absurd h0 hn
 .exact h0.1
theorem WeO(h:SlOk l)(hN:1048576<N):Zfz N l k=ret (match Wo5 l k with|some r=>(r.1:Int)|none=>-1):=by
 unfold Zfz Wo5;have hl:=h.len;have h1:=WlG (l:=l) (p:=WpT k) (N:=N) (lp:=λn j=>Zda N k l (λbe=>(some ((),(be,())))) (λgG bS=>(some ((),((-1:Int),())))) n j) (K0:=λj=>some ((),(j,()))) (K1:=some ((),((-1:Int),()))) (by omega) (by omega)
  (λn j hj=>by
   simp only[Zda,Wao hj,Wv hj,WB hj,Wk (show j<4611686018427387904 by omega),cond_true];unfold WpT;by_cases h0:l[j]>0
   .rw[WmD (h.val hj (by omega))];simp only[decide_eq_true h0,cond_true,Xbq,ret,Xd,Wu,War]
   .simp only[decide_eq_false h0,cond_false,Bool.false_and])
  (λn=>by simp only[Zda,WaH (Xn _),cond_false])
 rw[h1];cases fnd (WpT k) l 0<;>rfl
theorem WbX(h:SlOk l)(hN:1048576<N):Zcv N l=ret true:=by
 have hl:=h.len;have lp:∀(d j n:Nat) (s:List Bool),j+d=16->d<n->s.length=8->(∀c:Nat,s.getD c false=true->∃i,∃hi:i<l.length,i<j/\l[i]≠0/\WcH l[i]=c)->
   Zb3 N l (some ((),(false,()))) (λs8 zt s9=>(some ((),(true,())))) n (j:Int) s=ret true:=by
  intro d
  induction d with
  |zero=>
   intro j n s hj hn _ _;obtain⟨n,rfl⟩:∃n',n=n'+1:=⟨n-1,by omega⟩;have:j=l.length:=by omega
   subst this;simp only[Zb3,WaH (Xn _),cond_false]
  |succ d ih=>
   intro j n s hj hn hs hb;obtain⟨n,rfl⟩:∃n',n=n'+1:=⟨n-1,by omega⟩;have hlt:j<l.length:=by omega
   simp only[Zb3,Wao hlt,Wv hlt,WB hlt,Wk (show j<4611686018427387904 by omega),cond_true,Wu];by_cases h0:l[j]=0
   .rw[if_pos h0];exact ih (j+1) n s (by omega) (by omega) hs λc hc=>by
     obtain⟨i,hi,h1,h2,h3⟩:=hb c hc;exact⟨i,hi,by omega,h2,h3⟩
   .rw[if_neg h0];have hv:=h.val hlt h0;have hk:=Wkn hv;have yc:WbH (WcH l[j])=((j/4:Nat):Int):=by
     rcases h.each j hlt with h1|h1
     .exact absurd h1 h0
     .exact h1.2
    have hq:WqM .i64 (j:Int) 4=((j/4:Nat):Int):=by
     unfold WqM;rw[Xed (by omega),Wve (by unfold I64;omega)];omega
    have cF:s.getD (Xb (WcH l[j])) false=false:=by
     rw[Bool.eq_false_iff];intro hc;obtain⟨i,hi,h1,h2,h3⟩:=hb _ hc;exact h.one i j hi hlt h1 h2 h0 (by omega)
    rw[Wjx (k:=7) (v:=65535) (by omega) (by omega),WmD hv];simp only[ret,Xd,Wn,show(1:Int)+65536*7+65535=524288 from rfl,decide_eq_true hv.1,decide_eq_true hv.2,Xbr,Xab,cond_false,WjX hk,yc,hq,bne_self_eq_false];rw[show inz (4:Int)=true from rfl];simp only[cond_true];rw[show inb (WcH l[j]) 8=true by unfold inb;simp;omega,hs,decide_eq_true rfl,cF];simp only[Xbr,cond_true,cond_false];refine ih (j+1) n _ (by omega) (by omega) (by simpa using hs) λc hc=>?_;by_cases hcj:c=(WcH l[j]).toNat
    .exact⟨j,hlt,by omega,h0,by omega⟩
    .have:s.getD c false=true:=by
      rw[Xba,List.getElem?_set_ne (by omega),←Xba]at hc;exact hc
     obtain⟨i,hi,h1,h2,h3⟩:=hb c this;exact⟨i,hi,by omega,h2,h3⟩
 unfold Zcv;rw[show((Wb l) !=(16:Int))=false by unfold Wb;rw[hl];rfl];simp only[cond_false];refine lp 16 0 N _ (by omega) (by omega) (by simp) λc hc=>?_;rw[Xba]at hc;by_cases h8:c<8
 .rw[List.getElem?_replicate,if_pos h8]at hc;simp at hc
 .rw[List.getElem?_eq_none (by simp;omega)]at hc;simp at hc
theorem Wew(h:SlOk l){r:Nat×Int}(hr:Wo5 l k=some r):∃hi:r.1<l.length,l[r.1]=r.2/\1<=r.2/\r.2<=524288/\WcH r.2=k/\WbH k=((r.1/4:Nat):Int):=by
 obtain⟨h1,h2,h3,h4⟩:=WcZ hr;rw[Xbc]at h3;rw[Xdc,Xs h3]at h4;injection h4 with h4;unfold WpT at h1;simp only[Xh,decide_eq_true_eq]at h1;have h5:=h.val h3 (by omega);rcases h.each r.1 h3 with h6|h6
 .omega
 .rw[h4]at h6 h5;rw[h1.2]at h6;exact⟨h3,h4,h5.1,h5.2,h1.2,h6.2⟩
theorem WiY(h:SlOk l)(hr:Wo5 l k=none)(i:Nat)(hi:i<l.length)(hn:l[i]≠0):WcH l[i]≠k:=by
 have:=WhU hr l[i] (Xq hi);unfold WpT at this;have h1:=h.val hi hn;rw[decide_eq_true (show l[i]>0 by omega),Xbq]at this;simpa using this
theorem WuP(k:Int):0<=WbH k/\WbH k<=3:=by unfold WbH;omega
theorem WmP(h:SlOk l)(hk:0<=k/\k<=7)(hr:Wo5 l k=none):∃hi:Wf4 l k<l.length,l[Wf4 l k]=0/\WbH k=((Wf4 l k/4:Nat):Int)/\(Wf4 l k=(4*WbH k).toNat\/(Wf4 l k=(4*WbH k).toNat+1/\Wbi l (4*WbH k) 0≠0)):=by
 have hl:=h.len;have hb:=WuP k;unfold Wf4;have h1:(4*WbH k).toNat<l.length:=by omega
 have hg:Wbi l (4*WbH k) 0=l[(4*WbH k).toNat]:=Wf h1 _;by_cases h0:Wbi l (4*WbH k) 0=0
 .simp only[if_pos h0];exact⟨h1,by rw[←hg];exact h0,by omega,.inl trivial⟩
 .simp only[if_neg h0];have h2:(4*WbH k).toNat+1<l.length:=by omega
  refine⟨h2,?_,by omega,.inr ⟨trivial,h0⟩⟩;refine Classical.byContradiction λhn=>?_;rw[hg]at h0;have a1:=WiY h hr _ h1 h0;have a2:=WiY h hr _ h2 hn;have a3:=h.one _ _ h1 h2 (by omega) h0 hn;have b1:=Wkn (h.val h1 h0);have b2:=Wkn (h.val h2 hn);rcases h.each _ h1 with c1|c1
  .exact h0 c1
  .rcases h.each _ h2 with c2|c2
   .exact hn c2
   .have d1:=c1.2;have d2:=c2.2;generalize WcH l[(4*WbH k).toNat]=x at*;generalize WcH l[(4*WbH k).toNat+1]=y at*;unfold WbH at*;omega
theorem Wuu(hk:0<=k/\k<=7)(hv:0<=v/\v<=65535):(1<=1+65536*k+v/\1+65536*k+v<=524288)/\WcH (1+65536*k+v)=k:=by unfold WcH;omega
theorem Wk8(h:SlOk l){i:Nat}(hi:i<l.length){s:Int}(hs:s=0\/((1<=s/\s<=524288)/\WbH (WcH s)=((i/4:Nat):Int)))(ho:s≠0->∀j (hj:j<l.length),j≠i->l[j]≠0->WcH l[j]≠WcH s):SlOk (l.set i s) where
 len:=by rw[Xad];exact h.len
 each:=λj hj=>by
  rw[Xad]at hj;rw[Xao];by_cases he:i=j
  .subst he;rw[if_pos rfl];exact hs
  .rw[if_neg he];exact h.each j hj
 one:=λa b ha hb dY=>by
  rw[Xad]at ha hb;rw[Xao,Xao];by_cases h1:i=a
  .subst h1;rw[if_pos rfl,if_neg (by omega)]
   exactλhn qJ he=>ho hn b hb (by omega) qJ he.symm
  .rw[if_neg h1];by_cases h2:i=b
   .subst h2;rw[if_pos rfl];exactλzN hn=>ho hn a ha (by omega) zN
   .rw[if_neg h2];exact h.one a b ha hb dY
theorem WhR(h:SlOk l)(hk:0<=k/\k<=7)(hv:0<=v/\v<=65535):SlOk (Wov l k v):=by
 obtain⟨k1,k2⟩:=Wuu hk hv;unfold Wov;cases hr:Wo5 l k with
 |some r=>
  obtain⟨hi,h1,h2,h3,h4,h5⟩:=Wew h hr;refine Wk8 h hi (.inr ⟨k1,by rw[k2];exact h5⟩) λ_ j hj hne hn=>?_;rw[k2,←h4,←h1];rcases Nat.lt_or_gt_of_ne hne with hlt|hlt
  .exact h.one j r.1 hj hi hlt hn (by rw[h1];omega)
  .exactλe=>h.one r.1 j hi hj hlt (by rw[h1];omega) hn e.symm
 |none=>
  obtain⟨hi,h1,h2,_⟩:=WmP h hk hr;refine Wk8 h hi (.inr ⟨k1,by rw[k2];exact h2⟩) λ_ j hj hne hn=>?_;rw[k2];exact WiY h hr j hj hn
theorem Wm6(h:SlOk l):SlOk (Wjy l k):=by
 unfold Wjy;cases hr:Wo5 l k with
 |some r=>
  obtain⟨hi,h1,_⟩:=Wew h hr;exact Wk8 h hi (.inl rfl) λh=>absurd rfl h
 |none=>exact h
theorem Wgs(l:List Int)(k:Int):0<=Wev l k/\Wev l k<=65536:=by
 unfold Wev;cases Wo5 l k<;>simp only<;>omega
theorem Wc1(h:SlOk l)(hk:0<=k/\k<=7)(hN:1048576<N):Zgu N l k=some ((),((if Wev l k=0 then 0 else Wev l k-1),(decide (Wev l k≠0),()))):=by
 unfold Zgu Wev;rw[WbX h hN,WeK,WeO h hN];simp only[ret,Xd,Xab,cond_false,decide_eq_true hk.1,decide_eq_true hk.2,Xbr];cases hr:Wo5 l k with
 |none=>rfl
 |some r=>
  obtain⟨hi,h1,h2,h3,h4,h5⟩:=Wew h hr;simp only[decide_eq_false (show¬((r.1:Int)<0) by omega),cond_false,Wac,decide_eq_true hi,cond_true,WB hi,h1];rw[Waq (by unfold I64;omega),WbT (by omega),if_neg (by omega),decide_eq_true (by omega)];simp only[Int.add_sub_cancel];rfl
theorem WcP(h:SlOk l)(hk:0<=k/\k<=7)(hv:0<=v/\v<=65535)(hN:1048576<N):Zea N l k v=some ((),(Wov l k v,(Wev l k,(true,())))):=by
 have hl:=h.len;unfold Zea;rw[Wcx (by omega),WbX h hN,WeK,Wp,WeO h hN,Wc1 h hk hN,Wjx hk hv,WjX hk];simp only[ret,Xd,Xab,cond_false,decide_eq_true hk.1,decide_eq_true hk.2,Xbr,Wa4.2 hv];unfold Wov Wev;cases hr:Wo5 l k with
 |some r=>
  obtain⟨hi,h1,h2,h3,h4,h5⟩:=Wew h hr;simp only[decide_eq_true (show((r.1:Int)>=0) by omega),cond_true,Wac,decide_eq_true hi,Xj];rw[if_neg (by omega),Ww (by unfold I64;omega)];simp only[show(r.2-1)%65536+1-1+1=(r.2-1)%65536+1 by omega]
 |none=>
  simp only[show decide ((-1:Int)>=0)=false from rfl,cond_false];have hb:=WuP k;obtain⟨hi,h1,h2,h3⟩:=WmP h hk hr;rw[WdN (by unfold I64;omega)];obtain⟨N',rfl⟩:∃N',N=N'+1+1:=⟨N-2,by omega⟩;have jK:4*WbH k=(((4*WbH k).toNat:Nat):Int):=by omega
  have fe:∀n,Zcm (N'+1+1) k v l (λkQ iB=>(bif inb kQ (Xa l)then(some ((),(Xl l (Xb kQ) (1+65536*k+v),(0,(true,())))))else none)) (n+1) (Wf4 l k:Int)=some ((),(l.set (Wf4 l k) (1+65536*k+v),((0:Int),(true,())))):=λn=>by
   simp only[Zcm,Wv hi,WB hi,h1,cond_true,bne_self_eq_false,cond_false];rw[Xj]
  rcases h3 with h3|⟨h3,h4⟩
  .rw[jK,←h3];exact fe _
  .have hlt:(4*WbH k).toNat<l.length:=by omega
   have hg:Wbi l (4*WbH k) 0=l[(4*WbH k).toNat]:=Wf hlt _;rw[hg]at h4;have iP:=fe N';rw[jK];rw[Zcm];simp only[Wv hlt,WB hlt,cond_true];rw[show(l[(4*WbH k).toNat] !=0)=true by simpa using h4,Wk (by omega),←h3];simp only[cond_true];exact iP
theorem Web(h:SlOk l)(hk:0<=k/\k<=7)(hN:1048576<N):Zh0 N l k=some ((),(Wjy l k,(Wev l k,(true,())))):=by
 have hl:=h.len;unfold Zh0;rw[Wcx (by omega),WbX h hN,WeK,WeO h hN,Wc1 h hk hN];simp only[ret,Xd,Xab,cond_false,decide_eq_true hk.1,decide_eq_true hk.2,Xbr];unfold Wjy Wev;cases hr:Wo5 l k with
 |some r=>
  obtain⟨hi,h1,h2,h3,h4,h5⟩:=Wew h hr;simp only[decide_eq_false (show¬((r.1:Int)<0) by omega),cond_true,cond_false,Wac,decide_eq_true hi,Xj];rw[if_neg (by omega),Ww (by unfold I64;omega)];simp only[show(r.2-1)%65536+1-1+1=(r.2-1)%65536+1 by omega]
 |none=>rfl
end
section
abbrev Shf:=List Int×Int
abbrev Un:=Int×Int×Int
structure ShOk(s:Shf):Prop where
 slots:SlOk s.1
 cnt:0<=s.2/\s.2<=65535
def UnV(u:Un):Prop:=(u.1=1/\(0<=u.2.1/\u.2.1<=7)/\0<=u.2.2/\u.2.2<=65535)\/(u.1=2/\(0<=u.2.1/\u.2.1<=7)/\u.2.2=0)\/(u.1=3/\u.2.1=0/\0<=u.2.2/\u.2.2<=65535)
def Wia(s:Shf)(u:Un):Shf:=
 if u.1=1 then(Wov s.1 u.2.1 u.2.2,s.2)else if u.1=2 then(Wjy s.1 u.2.1,s.2)else if u.1=3 then(s.1,(s.2-u.2.2+65536)%65536)else s
def Whs(k e:Int):Un:=if e=0 then(2,k,0)else(1,k,e-1)
def Wbo(s:Shf)(o:Opn)(r:List Int):Shf×List Int×Un:=
 if o.1=12 then((Wov s.1 o.2.1 (Wbi r o.2.2.1 0),s.2),Wlw r o.2.2.2 (Wev s.1 o.2.1%65536),Whs o.2.1 (Wev s.1 o.2.1))else
 if o.1=13 then(s,Wlw r o.2.1 (Wev s.1 o.2.2.1%65536),(0,0,0))else
 if o.1=14 then((Wjy s.1 o.2.1,s.2),Wlw r o.2.2.1 (Wev s.1 o.2.1%65536),Whs o.2.1 (Wev s.1 o.2.1))else
 if o.1=15 then((s.1,(s.2+Wbi r o.2.1 0)%65536),r,(3,0,Wbi r o.2.1 0))else
 (s,Wlw r o.2.1 s.2,(0,0,0))
def WaC(o:Opn):Int×Int:=
 if o.1=12\/o.1=14 then(o.2.1,2)else if o.1=13 then(o.2.2.1,1)else if o.1=15 then(8,1)else(8,2)
section
variable{o:Opn}
theorem Wt7(h:Was o=true)(h5:o.1=12):Wb6 o.2.1=true/\Wj o.2.2.1=true/\Wj o.2.2.2=true:=by
 obtain⟨k,a,b,c⟩:=o;simp only at h5;subst h5;have:(Wb6 a&&Wj b&&Wj c)=true:=h;simp only[Xh]at this;exact⟨this.1.1,this.1.2,this.2⟩
theorem Wv1(h:Was o=true)(h5:o.1=13):Wj o.2.1=true/\Wb6 o.2.2.1=true:=by
 obtain⟨k,a,b,c⟩:=o;simp only at h5;subst h5;have:(Wj a&&Wb6 b&&(c==(0:Int)))=true:=h;simp only[Xh]at this;exact this.1
theorem Wtb(h:Was o=true)(h5:o.1=14):Wb6 o.2.1=true/\Wj o.2.2.1=true:=by
 obtain⟨k,a,b,c⟩:=o;simp only at h5;subst h5;have:(Wb6 a&&Wj b&&(c==(0:Int)))=true:=h;simp only[Xh]at this;exact this.1
theorem Wxk(h:Was o=true)(h5:o.1=15):Wj o.2.1=true:=by
 obtain⟨k,a,b,c⟩:=o;simp only at h5;subst h5;have:(Wj a&&(b==(0:Int))&&(c==(0:Int)))=true:=h;simp only[Xh]at this;exact this.1.1
theorem Wwf(h:Was o=true)(h5:o.1=16):Wj o.2.1=true:=by
 obtain⟨k,a,b,c⟩:=o;simp only at h5;subst h5;have:(Wj a&&(b==(0:Int))&&(c==(0:Int)))=true:=h;simp only[Xh]at this;exact this.1.1
end
theorem WbR{x:Int}:Wb6 x=true↔0<=x/\x<=7:=by unfold Wb6;simp
variable{N:Nat}{s:Shf}{u:Un}{o:Opn}{r:List Int}
theorem Wl8{k e:Int}(hk:0<=k/\k<=7)(he:0<=e/\e<=65536):UnV (Whs k e):=by
 unfold Whs UnV;split
 .exact .inr (.inl ⟨rfl,hk,rfl⟩)
 .exact .inl ⟨rfl,hk,by simp only;omega⟩
theorem Wqa(h:ShOk s)(hu:UnV u):ShOk (Wia s u):=by
 unfold Wia;rcases hu with⟨h1,h2,h3⟩|⟨h1,h2,h3⟩|⟨h1,h2,h3⟩
 .rw[if_pos h1];exact⟨WhR h.slots h2 h3,h.cnt⟩
 .rw[if_neg (by omega),if_pos h1];exact⟨Wm6 h.slots,h.cnt⟩
 .rw[if_neg (by omega),if_neg (by omega),if_pos h1];exact⟨h.slots,by simp only;omega⟩
theorem WqI(h:ShOk s)(hr:Vals 4 r)(ho:Was o=true)(dv:12<=o.1):ShOk (Wbo s o r).1/\Vals 4 (Wbo s o r).2.1/\((Wbo s o r).2.2.1≠0->UnV (Wbo s o r).2.2)/\((Wbo s o r).2.2.1=0->(Wbo s o r).1=s):=by
 have kU:=Wou ho;unfold Wbo;split
 .obtain⟨a,b,c⟩:=Wt7 ho ‹_›;rw[WbR]at a;have hg:=Wgs s.1 o.2.1;exact⟨⟨WhR h.slots a (hr.get _),h.cnt⟩,hr.set _ (by omega),λ_=>Wl8 a hg,λh=>by unfold Whs at h;split at h<;>(simp only at h;omega)⟩
 .split
  .exact⟨h,hr.set _ (by omega),λh=>absurd rfl h,λ_=>rfl⟩
  .split
   .obtain⟨a,b⟩:=Wtb ho ‹_›;rw[WbR]at a;have hg:=Wgs s.1 o.2.1;exact⟨⟨Wm6 h.slots,h.cnt⟩,hr.set _ (by omega),λ_=>Wl8 a hg,λh=>by unfold Whs at h;split at h<;>(simp only at h;omega)⟩
   .split
    .have:=hr.get o.2.1.toNat;have:=h.cnt;refine⟨⟨h.slots,by simp only;unfold Wbi;omega⟩,hr,λ_=>.inr (.inr ⟨rfl,rfl,hr.get _⟩),λh=>by(simp only at h;omega)⟩
    .exact⟨h,hr.set _ h.cnt,λh=>absurd rfl h,λ_=>rfl⟩
theorem WeS(h:ShOk s)(hN:1048576<N):Ziu N s=ret true:=by
 unfold Ziu;rw[WbX h.slots hN,Wp,Wa4.2 h.cnt];rfl
theorem Wgx(h:ShOk s):Zg7 N s=ret s:=by
 unfold Zg7;rw[Wcx (by have:=h.slots.len;omega)];rfl
theorem Wjd(hu:UnV u):Zl2 N u=ret true:=by
 unfold Zl2;simp only[Wu,WeK,Wp,ret,Xd];rcases hu with⟨h1,h2,h3⟩|⟨h1,h2,h3⟩|⟨h1,h2,h3⟩
 .rw[if_neg (by omega),if_pos h1,Wa4.2 h3];simp[h2]
 .rw[if_neg (by omega),if_neg (by omega),if_pos h1];simp[h2,h3]
 .rw[if_neg (by omega),if_neg (by omega),if_neg (by omega),if_pos h1,if_pos h2,Wa4.2 h3]
theorem Wic(h:ShOk s)(hu:UnV u)(hN:1048576<N):Zla N s u=some ((),(Wia s u,(true,()))):=by
 unfold Zla Wia;rw[Wgx h,Wjd hu];simp only[ret,Xd];rw[WeS h hN];simp only[ret,Xd,Xab,cond_false,Wu];have hc:=h.cnt;rcases hu with⟨h1,h2,h3⟩|⟨h1,h2,h3⟩|⟨h1,h2,h3⟩
 .rw[if_pos h1,if_pos h1,WcP h.slots h2 h3 hN];rfl
 .rw[if_neg (by omega),if_pos h1,if_neg (by omega),if_pos h1,Web h.slots h2 hN];rfl
 .rw[if_neg (by omega),if_neg (by omega),if_pos h1,if_neg (by omega),if_neg (by omega),if_pos h1];rw[Waq (by unfold I64;omega),Ww (by unfold I64;omega),WbT (by omega)];rfl
theorem Wfq{k e:Int}(he:0<=e/\e<=65536):Zju N k e=ret (Whs k e):=by
 unfold Zju Whs;rw[Wu,Waq (by unfold I64;omega)];split<;>rfl
theorem Wlq(ho:Was o=true)(dv:12<=o.1):Zi5 N o=some ((),((WaC o).1,((WaC o).2,()))):=by
 have kU:=Wou ho;unfold Zi5 WaC;rw[We5,ho];simp only[ret,Xd,Xab,cond_false,Wu];have:o.1=12\/o.1=13\/o.1=14\/o.1=15\/o.1=16:=by omega
 rcases this with h|h|h|h|h<;>simp[h]
theorem WiB(h:ShOk s)(hr:Vals 4 r)(ho:Was o=true)(dv:12<=o.1)(hN:1048576<N):
  Zlb N s o r=some ((),((Wbo s o r).1,((Wbo s o r).2.1,((Wbo s o r).2.2,(true,()))))):=by
 have kU:=Wou ho;have cZ:=hr.len;have hc:=h.cnt;unfold Zlb Wbo;rw[Wgx h,Wcx (by omega)];simp only[ret,Xd];rw[WeS h hN,Wdf (by omega) hN,We8.2 hr,Wgk,WrQ ho dv];simp only[ret,Xd,Xab,cond_false,bne_self_eq_false,Wu,show inz (65536:Int)=true from rfl,cond_true,Wz,Xad];by_cases e1:o.1=12
 .obtain⟨a,b,c⟩:=Wt7 ho e1;rw[WbR]at a;rw[if_pos e1,if_pos e1,Wa9 b cZ,Wa9 c cZ];have hg:=Wgs s.1 o.2.1;rw[WcP h.slots a (hr.get _) hN];simp only[cond_true,Xd,Wfq hg,ret];rw[WbT (by omega)];rfl
 .rw[if_neg e1,if_neg e1];by_cases e2:o.1=13
  .obtain⟨a,b⟩:=Wv1 ho e2;rw[WbR]at b;have hg:=Wgs s.1 o.2.2.1;rw[if_pos e2,if_pos e2,Wa9 a cZ,Wc1 h.slots b hN];simp only[cond_true,Xd];by_cases hz:Wev s.1 o.2.2.1=0
   .rw[hz];rfl
   .rw[if_neg hz,decide_eq_true hz,Ww (by unfold I64;omega),WbT (by omega),Int.sub_add_cancel];simp only[cond_true,Xdp];rfl
  .rw[if_neg e2,if_neg e2];by_cases e3:o.1=14
   .obtain⟨a,b⟩:=Wtb ho e3;rw[WbR]at a;have hg:=Wgs s.1 o.2.1;rw[if_pos e3,if_pos e3,Wa9 b cZ,Web h.slots a hN];simp only[cond_true,Xd,Wfq hg,ret];rw[WbT (by omega)];rfl
   .rw[if_neg e3,if_neg e3];by_cases e4:o.1=15
    .have a:=Wxk ho e4;have hv:=hr.get o.2.1.toNat;rw[if_pos e4,if_pos e4,Wa9 a cZ];simp only[cond_true];rw[Ww (by unfold I64;omega),WbT (by omega)];rfl
    .have a:=Wwf ho (by omega);rw[if_neg e4,if_neg e4,Wa9 a cZ];rfl
def Wmw(l:List Int):Bool:=decide (l.length=8)&&l.all λx=>decide (0<=x)&&decide (x<=65536)
structure ThOk(t:List Int×List Int×Int):Prop where
 cells:Vals 8 t.1
 map:t.2.1.length=8/\∀x∈t.2.1,0<=x/\x<=65536
 cnt:0<=t.2.2/\t.2.2<=65535
def Wtx(t:List Int×List Int×Int):Bool:=Weo t.1&&(Wmw t.2.1&&Wbg t.2.2)
theorem Wpt{t:List Int×List Int×Int}:Wtx t=true↔ThOk t:=by
 unfold Wtx Wmw;simp only[Xh,WpD,Wa4,decide_eq_true_eq,Xae];exact⟨λh=>⟨h.1,h.2.1,h.2.2⟩,λh=>⟨h.cells,h.map,h.cnt⟩⟩
theorem Wiv{l:List Int}(hl:l.length<=1048576)(hN:1048576<N):Zg4 N l=ret (Wmw l):=by
 unfold Zg4 Wmw;have h1:=WO (l:=l) (V:=Unit) (R:=Unit×Ko) (lp:=λn j v=>Zd0 N l (some ((),(false,()))) (λaL aM=>(some ((),((Wb l)==(8:Int),())))) n j) (n:=N) (by omega)
  (body:=λj x v k=>bif !(decide (0<=x)&&decide (x<=65536))then some ((),(false,()))else k v) (K:=λ_ v=>some ((),((Wb l)==(8:Int),())))
  (λn i v hi=>by simp only[Zd0,Wao hi,Wv hi,WB hi,Wk (show i<4611686018427387904 by omega),cond_true,Wn,ret,Xd])
  (λn v=>by simp only[Zd0,WaH (Xn l.length),cond_false]) ()
 refine h1.trans ?_;rw[WaK (p:=λx=>!(decide (0<=x)&&decide (x<=65536))) (E:=λ_=>some ((),(false,()))) l 0 () (λj x v k _=>rfl),WcC];have e:((Wb l)==(8:Int))=decide (l.length=8):=by
  by_cases h:l.length=8
  .simp[Wb,h]
  .simp[Wb,h];omega
 rw[e];cases l.all _<;>cases decide (l.length=8)<;>rfl
theorem Wi4{t:List Int×List Int×Int}(h1:t.1.length<=1048576)(h2:t.2.1.length<=1048576)(hN:1048576<N):Zkb N t=ret (Wtx t):=by
 unfold Zkb Wtx;rw[Whz h1 hN,Wiv h2 hN,Wp];cases Weo t.1<;>cases Wmw t.2.1<;>rfl
def We7:List Int->Nat->List Int->List Int
 | [],_,l=>l
 |x::m,k,l=>We7 m (k+1) (if x>0 then Wov l k (x-1)else l)
def Wox(m:List Int):List Int:=We7 m 0 (Xw 16 0)
theorem WmT:SlOk (Xw 16 0) where
 len:=by simp
 each:=λi h=>.inl (Xbj ..)
 one:=λi j hi hj _ h=>absurd (Xbj ..) h
theorem Wh4:∀(m:List Int) (k:Nat) (l:List Int),k+m.length<=8->(∀x∈m,0<=x/\x<=65536)->SlOk l->SlOk (We7 m k l)
 | [],_,l,_,_,h=>h
 |x::m,k,l,hk,hx,h=>by
  have h0:=hx x (Xi ..);rw[Xu]at hk;refine Wh4 m (k+1) _ (by omega) (λy hy=>hx y (Xe _ hy)) ?_;split
  .exact WhR h (by omega) (by omega)
  .exact h
theorem Wsl{m:List Int}(hl:m.length=8)(hx:∀x∈m,0<=x/\x<=65536):SlOk (Wox m):=Wh4 m 0 _ (by omega) hx WmT
theorem WgW{m:List Int}(hl:m.length=8)(hx:∀x∈m,0<=x/\x<=65536)(hN:1048576<N):Zbd N m=ret (Wox m):=by
 have hm:Wmw m=true:=by unfold Wmw;simp only[Xh,decide_eq_true_eq,Xae];exact⟨hl,hx⟩
 unfold Zbd Wox;rw[Wiv (by omega) hN,hm];simp only[ret,Xd,Xab,cond_false];rw[show Zni N=ret (Xw 16 0)from rfl];simp only[ret,Xd];have lp:∀(d j n:Nat) (l:List Int),j+d=m.length->d<n->SlOk l->Zbl N m (λgG bS df=>(some ((),(df,())))) n (j:Int) l=ret (We7 (m.drop j) j l):=by
  intro d
  induction d with
  |zero=>
   intro j n l hj hn hs;obtain⟨n,rfl⟩:∃n',n=n'+1:=⟨n-1,by omega⟩;have:j=m.length:=by omega
   subst this;simp only[Zbl,WaH (Xn _),cond_false,Xdo,We7]
  |succ d ih=>
   intro j n l hj hn hs;obtain⟨n,rfl⟩:∃n',n=n'+1:=⟨n-1,by omega⟩;have hlt:j<m.length:=by omega
   have hb:=hx m[j] (Xq hlt);simp only[Zbl,Wao hlt,Wv hlt,WB hlt,Wk (show j<4611686018427387904 by omega),cond_true,War];rw[Xby hlt,We7];by_cases h0:m[j]>0
   .rw[if_pos h0,if_pos h0,Waq (by unfold I64;omega),WcP hs (by omega) (by omega) hN];exact ih (j+1) n _ (by omega) (by omega) (WhR hs (by omega) (by omega))
   .rw[if_neg h0,if_neg h0];exact ih (j+1) n _ (by omega) (by omega) hs
 have:=lp m.length 0 N (Xw 16 0) (by omega) (by omega) WmT;rw[Xcc]at this;exact this
end
section
abbrev Hd:=Int×Int×Int
def HdV(h:Hd):Prop:=(1<=h.1/\h.1<=9)/\(0<=h.2.1/\h.2.1<=8)/\1<=h.2.2/\h.2.2<=2
def HdB(a b:Hd):Prop:=cfH a b<0/\(a.2.1=b.2.1->a.2.2≠2/\b.2.2≠2)
structure HOk(l:List Hd):Prop where
 val:∀h∈l,HdV h
 up:l.Pairwise HdB
theorem HOk.ris{l:List Hd}(h:HOk l):Ris cfH l:=h.up.imp λh=>h.1
def WfJ(l:List Hd)(who:Int):List Int:=(l.filter λh=>decide (h.1=who)).map (·.2.1)
def blk(who what mode:Int)(h:Hd):Bool:=decide (h.2.1=what)&&(decide (h.1≠who)&&(decide (mode=2)||decide (h.2.2=2)))
def Wgf(l:List Hd)(who what mode:Int):List Int:=(l.filter (blk who what mode)).map (·.1)
def Wtu(who what:Int)(h:Hd):Bool:=decide (h.1=who)&&decide (h.2.1=what)
def WqO(l:List Hd)(who what:Int):Int:=match fnd (Wtu who what) l 0 with
 |some r=>r.2.2.2
 |none=>0
def Wp0(a b:Int):Int:=if a<=b then b else a
def WgN(l:List Hd)(who what mode:Int):List Hd:=WfT cfH l (who,what,Wp0 (WqO l who what) mode)
def WaT(l:List Hd)(who what mode:Int):Option (List Hd):=if Wgf l who what mode= []then some (WgN l who what mode)else none
def W2(l:List Hd)(who:Int):List Hd:=l.filter λh=>!(h.1==who)
theorem Wdj{α:Type}{a b:Int}{x y:α}:(bif a !=b then x else y)=if a=b then y else x:=by
 by_cases h:a=b
 .have:(a !=b)=false:=by simpa using h
  rw[this,if_pos h];rfl
 .have:(a !=b)=true:=by simpa using h
  rw[this,if_neg h];rfl
theorem Wvt{α:Type}{cf:α->α->Int}(hc:Lin cf){L M:List α}(hL:Ris cf L)(hM:Ris cf M)(hm:∀x,x∈L↔x∈M):L=M:=by
 rw[←Woo hc hM (hL.imp λh=>.inl h) hm,Woo hc hL (hL.imp λh=>.inl h) λx=>Iff.rfl]
theorem apH{a b:Hd}:Ap cfH a b↔¬(a.1=b.1/\a.2.1=b.2.1):=by unfold Ap;rw[WbJ,WbJ];omega
theorem Wm5{a b c d:Hd}(h1:a.1=c.1)(h2:a.2.1=c.2.1)(h3:b.1=d.1)(h4:b.2.1=d.2.1):cfH a b<0↔cfH c d<0:=by rw[WbJ,WbJ];omega
variable{N:Nat}{l:List Hd}{who what mode:Int}
theorem WtR(h:Ris cfH l){i:Nat}(hi:i<l.length){e:Hd}(h1:e.1=l[i].1)(h2:e.2.1=l[i].2.1):Ris cfH (l.set i e):=by
 unfold Ris at*;rw[Xat]at*;intro a b ha hb dY;rw[Xad]at ha hb;rw[Xao,Xao];have:=h a b ha hb dY;by_cases c1:i=a
 .subst c1;rw[if_pos rfl,if_neg (by omega)];exact(Wm5 h1 h2 rfl rfl).2 this
 .rw[if_neg c1];by_cases c2:i=b
  .subst c2;rw[if_pos rfl];exact(Wm5 rfl rfl h1 h2).2 this
  .rw[if_neg c2];exact this
theorem WvE(h:Ris cfH l){i:Nat}(hi:i<l.length){e:Hd}(h1:e.1=l[i].1)(h2:e.2.1=l[i].2.1):l.set i e=WfT cfH l e:=by
 refine Wvt Wor (WtR h hi h1 h2) (WcS Wor h) λx=>?_;rw[(Wnl Wor (h.imp λh=>.inl h) hi (by rw[apH];intro h;exact h ⟨h1.symm,h2.symm⟩)).2 x,WbP Wor h]
theorem Wvw{h:Hd}:(decide (1<=h.1)&&decide (h.1<=9))=true/\(decide (0<=h.2.1)&&decide (h.2.1<=8))=true/\(decide (1<=h.2.2)&&decide (h.2.2<=2))=true↔HdV h:=by
 unfold HdV;simp only[Xh,decide_eq_true_eq]
theorem Wfj{h:Hd}(hv:HdV h):Zhs N h.1 h.2.1 h.2.2=ret true:=by
 obtain⟨a,b,c⟩:=Wvw.2 hv;unfold Zhs;simp only[Wn,ret,Xd,a,b,c,cond_true]
theorem Wmf{a b:Hd}(ha:HdV a)(hb:HdV b):Zhf N a b=ret (cfH a b):=by
 obtain⟨a1,a2,a3⟩:=ha;obtain⟨b1,b2,b3⟩:=hb;unfold Zhf cfH;rw[Waq (by unfold I64;omega),Waq (by unfold I64;omega)];by_cases h:a.2.1=b.2.1
 .rw[show(a.2.1 !=b.2.1)=false by simpa using h,show(a.2.1==b.2.1)=true by simpa using h];rfl
 .rw[show(a.2.1 !=b.2.1)=true by simpa using h,show(a.2.1==b.2.1)=false by simpa using h];rfl
theorem WbS(h:HOk l)(hl:l.length<=1048576)(hN:1048576<N):Zeb N l=ret true:=by
 have lp:∀(d j n:Nat),j+d=l.length->d<n->Zat N l (some ((),(false,()))) (λgG bS=>(some ((),(true,())))) n (j:Int)=ret true:=by
  intro d
  induction d with
  |zero=>
   intro j n hj hn;obtain⟨n,rfl⟩:∃n',n=n'+1:=⟨n-1,by omega⟩;have:j=l.length:=by omega
   subst this;simp only[Zat,WaH (Xn _),cond_false]
  |succ d ih=>
   intro j n hj hn;obtain⟨n,rfl⟩:∃n',n=n'+1:=⟨n-1,by omega⟩;have hlt:j<l.length:=by omega
   have hv:=h.val l[j] (Xq hlt);have bd:=ih (j+1) n (by omega) (by omega);simp only[Zat,Wao hlt,Wv hlt,WB hlt,Wk (show j<4611686018427387904 by omega),cond_true,Wfj hv,ret,Xd,Xab,cond_false,bd];by_cases h0:j=0
   .subst h0;rfl
   .have e1:decide ((j:Int)>0)=true:=by simp;omega
    have e2:W5 .i64 (j:Int) 1=((j-1:Nat):Int):=by rw[Waq (by unfold I64;omega)];omega
    have aT:j-1<l.length:=by omega
    have hw:=h.val l[j-1] (Xq aT);have hb:=Xat.1 h.up (j-1) j aT hlt (by omega);simp only[e1,e2,cond_true,Wv aT,WB aT,Wmf hw hv,ret,Xd];rw[decide_eq_false (show¬(cfH l[j-1] l[j]>=0) by have:=hb.1;omega)];simp only[cond_false,Wu];by_cases hs:l[j-1].2.1=l[j].2.1
    .rw[if_pos hs,if_neg (hb.2 hs).2,if_neg (hb.2 hs).1]
    .rw[if_neg hs]
 exact lp l.length 0 N (by omega) (by omega)
theorem WiH{α β R:Type}{body:Int->α->List β->(List β->Option R)->Option R}{K:Int->List β->Option R}{p:α->Bool}{f:α->β}:∀(l:List α) (j:Nat) (o:List β),o.length+l.length<=2000000->
  (∀(j:Nat) x (v:List β) k,x∈l->v.length<=2000000->body j x v k=bif p x then k (v++ [f x])else k v)->Wcg body K l j o=K ((j+l.length:Nat):Int) (o++(l.filter p).map f)
 | [],j,o,_,_=>by simp[Wcg]
 |x::l,j,o,h,hb=>by
  rw[Xu]at h;rw[Wcg,hb j x o _ (Xi ..) (by omega),Xbm];have ih:=λo' gO=>WiH (body:=body) (K:=K) (p:=p) (f:=f) l (j+1) o' gO λj y v k hy=>hb j y v k (Xe _ hy);cases hp:p x
  .simp only[cond_false,Xbi,if_false];rw[ih o (by omega),Xu,show j+1+l.length=j+(l.length+1) by omega]
  .simp only[cond_true,if_true];rw[ih _ (by simp;omega),Xu,show j+1+l.length=j+(l.length+1) by omega];simp
theorem WiD(h:HOk l)(hl:l.length<=1048576)(hN:1048576<N):Zfq N l who=ret (WfJ l who):=by
 unfold Zfq WfJ;rw[WbS h hl hN];simp only[ret,Xd,Xab,cond_false];have h1:=WO (l:=l) (V:=List Int) (R:=Unit×(List Int×Unit)) (lp:=λn j v=>Zb4 N who l (λaM be aW=>(some ((),(aW,())))) n j v) (n:=N) (by omega)
  (body:=λj x v k=>bif x.1==who then(bif WG (v.length+ [x.2.1].length)then k (Xf v [x.2.1])else none)else k v) (K:=λ_ v=>ret v)
  (λn i v hi=>by simp only[Zb4,Wao hi,Wv hi,WB hi,Wk (show i<4611686018427387904 by omega),cond_true])
  (λn v=>by simp only[Zb4,WaH (Xn l.length),cond_false]) []
 refine h1.trans ?_;rw[WiH (p:=λh=>decide (h.1=who)) (f:=(·.2.1)) l 0 [] (by simp;omega) (λj x v k _ hv=>by rw[WC (by simp;omega)];simp only[Wu,War,cond_true,Xah])];rfl
theorem Wjf(h:HOk l)(hm:1<=mode/\mode<=2)(hl:l.length<=1048576)(hN:1048576<N):Zht N l who what mode=ret (Wgf l who what mode):=by
 unfold Zht Wgf;rw[WbS h hl hN];simp only[ret,Xd,Xab,cond_false,Wn,decide_eq_true hm.1,decide_eq_true hm.2,Xbr];have h1:=WO (l:=l) (V:=List Int) (R:=Unit×(List Int×Unit)) (lp:=λn j v=>Za9 N who what mode l (λep ir c9=>(some ((),(c9,())))) n j v) (n:=N) (by omega)
  (body:=λj x v k=>bif x.2.1==what then(bif x.1 !=who then(bif mode==2 then(bif WG (v.length+ [x.1].length)then k (Xf v [x.1])else none)else(bif x.2.2==2 then(bif WG (v.length+ [x.1].length)then k (Xf v [x.1])else none)else k v))else k v)else k v) (K:=λ_ v=>ret v)
  (λn i v hi=>by simp only[Za9,Wao hi,Wv hi,WB hi,Wk (show i<4611686018427387904 by omega),cond_true])
  (λn v=>by simp only[Za9,WaH (Xn l.length),cond_false]) []
 refine h1.trans ?_;rw[WiH (p:=blk who what mode) (f:=(·.1)) l 0 [] (by simp;omega) (λj x v k _ hv=>by
  rw[WC (by simp;omega)];unfold blk;simp only[Wu,Wdj,cond_true,Xah];by_cases c1:x.2.1=what<;>by_cases c2:x.1=who<;>by_cases c3:mode=2<;>by_cases c4:x.2.2=2<;>simp[c1,c2,c3,c4])]
 rfl
theorem WvF(h:HOk l):0<=WqO l who what/\WqO l who what<=2:=by
 unfold WqO;cases hf:fnd (Wtu who what) l 0 with
 |none=>simp
 |some r=>
  have:=WcZ hf;have:=h.val r.2 (Xax this.2.2.2);unfold HdV at this;simp only;omega
theorem WiI(h:HOk l)(hw:1<=who/\who<=9)(ht:0<=what/\what<=8)(hm:1<=mode/\mode<=2)(hl:l.length<=1048000)(hN:1048576<N):
  Zgw N l who what mode=some ((),((WaT l who what mode).getD l,((WaT l who what mode).isSome,()))):=by
 unfold Zgw WaT;have jx:Zd2 N l=ret l:=by unfold Zd2;rw[WC (by omega)];rfl
 have zO:Zhs N who what mode=ret true:=Wfj (h:=(who,what,mode)) ⟨hw,ht,hm⟩;rw[jx,WbS h (by omega) hN,zO,Wjf h hm (by omega) hN];simp only[ret,Xd,Xab,cond_false,War];by_cases hb:Wgf l who what mode= []
 .rw[if_neg (by rw[hb];simp[Wb]),if_pos hb];have h1:=WlG (l:=l) (p:=Wtu who what) (N:=N) (lp:=λn j=>Zb5 N who what mode (Wb l) l (λck=>(some ((),(ck,(true,()))))) (λiB td=>
  (bif WG ((Xa l)+(Xa ([(who,(what,mode))])))then
 ((Zw N (Xf l ([(who,(what,mode))]))).bind λfz=>
 (some ((),(fz.1.1,(true,())))))else none)) n j)
   (K0:=λj=>some ((),(l.set j.toNat ((l.getD j.toNat (0,0,0)).1,(l.getD j.toNat (0,0,0)).2.1,Wv9 (l.getD j.toNat (0,0,0)).2.2 mode),(true,())))) (K1:=(bif WG ((Xa l)+(Xa ([(who,(what,mode))])))then
 ((Zw N (Xf l ([(who,(what,mode))]))).bind λfz=>
 (some ((),(fz.1.1,(true,())))))else none)) (by omega) (by omega)
   (λn j hj=>by
    simp only[Zb5,Wao hj,Wv hj,WB hj,Wk (show j<4611686018427387904 by omega),cond_true];unfold Wtu;simp only[Wu,Wuo,War])
   (λn=>by simp only[Zb5,WaH (Xn _),cond_false])
  rw[h1];unfold WgN WqO;cases hf:fnd (Wtu who what) l 0 with
  |some r=>
   obtain⟨g1,g2,g3,g4⟩:=WcZ hf;rw[Xbc]at g3;rw[Xdc,Xs g3]at g4;injection g4 with g4;unfold Wtu at g1;simp only[Xh,decide_eq_true_eq]at g1;simp only[WB g3,g4,Xdz,Xff];rw[Xj];have:Wv9 r.2.2.2 mode=Wp0 r.2.2.2 mode:=by unfold Wv9 Wp0;first|rfl|omega|(split<;>split<;>omega)
   rw[this,g1.1,g1.2,WvE h.ris g3 (e:=(who,what,Wp0 r.2.2.2 mode)) (by rw[g4];exact g1.1.symm) (by rw[g4];exact g1.2.symm)]
  |none=>
   have hn:=WhU hf;simp only;rw[WC (by simp;omega)];have yd:Wp0 0 mode=mode:=by unfold Wp0;rw[if_pos (by omega)]
   have qn:=WjW (cf:=cfH) (L:=l) (e:=(who,what,mode)) (h.ris.imp λh=>.inl h) (λx hx=>by
    rw[apH];have:=hn x hx;unfold Wtu at this;simp only[Xcm,decide_eq_false_iff_not]at this;simp only;omega)
   unfold Zw;simp only[cond_true,Xah];rw[Wpv (rng:=WvU) (N:=N) Wor (M:=WfT cfH l (who,what,mode)) (WcS Wor h.ris) qn.1 (λx=>by rw[qn.2 x,WbP Wor h.ris]) (λx hx=>by
    rcases Xm.1 hx with hx|hx
    .have:=h.val x hx;unfold HdV at this;unfold WvU WuZ;simp;omega
    .rw[Xz]at hx;subst hx;unfold WvU WuZ;simp;omega) (by simp;omega)]
   simp only[Xd,yd,Xdz,Xff]
 .rw[if_pos (by
   have:(Wgf l who what mode).length≠0:=λh=>hb (List.eq_nil_of_length_eq_zero h);unfold Wb;omega),if_neg hb]
  rfl
theorem WpF(h:HOk l)(hw:1<=who/\who<=9)(ht:0<=what/\what<=8)(hm:1<=mode/\mode<=2)(hb:Wgf l who what mode= []):HOk (WgN l who what mode):=by
 have lX:=WvF (who:=who) (what:=what) h;have hbl:∀x∈l,x.2.1=what->x.1≠who->mode≠2/\x.2.2≠2:=λx hx h1 h2=>by
  refine Classical.byContradiction λhc=>?_;have:x.1∈Wgf l who what mode:=Xv.2 ⟨x,Xav.2 ⟨hx,by unfold blk;simp[h1,h2];omega⟩,rfl⟩;rw[hb]at this;cases this
 have oh:∀x∈l,x.2.1=what->x.1≠who->WqO l who what≠2:=λx hx h1 h2=>by
  unfold WqO;cases hf:fnd (Wtu who what) l 0 with
  |none=>simp
  |some r=>
   obtain⟨g1,g2,g3,g4⟩:=WcZ hf;rw[Xbc]at g3;rw[Xdc,Xs g3]at g4;injection g4 with g4;unfold Wtu at g1;simp only[Xh,decide_eq_true_eq]at g1;obtain⟨j,hj,rfl⟩:=Xam hx;have hp:=Xat.1 h.up;simp only;rw[←g4]at g1⊢;rcases Xds r.1 j with hlt|heq|hlt
   .exact((hp r.1 j g3 hj hlt).2 (by rw[h1,g1.2])).1
   .subst heq;exact absurd g1.1 h2
   .exact((hp j r.1 hj g3 hlt).2 (by rw[h1,g1.2])).2
 unfold WgN;refine⟨λx hx=>?_,?_⟩
 .rcases(WbP Wor h.ris).1 hx with rfl|hx
  .refine⟨hw,ht,?_⟩;simp only;unfold Wp0;split<;>omega
  .exact h.val x hx.1
 .have hr:=WcS (e:=(who,what,Wp0 (WqO l who what) mode)) Wor h.ris;have hmem:=λx=>WbP (e:=(who,what,Wp0 (WqO l who what) mode)) (x:=x) Wor h.ris;have ye:∀x∈l,x.2.1=what->x.1≠who->Wp0 (WqO l who what) mode≠2:=λx hx h1 h2=>by
   have:=oh x hx h1 h2;have:=(hbl x hx h1 h2).1;unfold Wp0;split<;>omega
  unfold Ris at hr;rw[Xat]at hr⊢;intro i j hi hj hij;refine⟨hr i j hi hj hij,λhs=>?_⟩;have hlt:=hr i j hi hj hij;have m1:=(hmem _).1 (Xq hi);have m2:=(hmem _).1 (Xq hj);generalize (WfT cfH l (who,what,Wp0 (WqO l who what) mode))[i]=x at*;generalize (WfT cfH l (who,what,Wp0 (WqO l who what) mode))[j]=y at*;rcases m1 with rfl|m1<;>rcases m2 with rfl|m2
  .exact absurd hlt (Wor.irr _)
  .have hk:=apH.1 m2.2;simp only at hk hs;exact⟨ye y m2.1 hs.symm (λe=>hk ⟨e,hs.symm⟩),(hbl y m2.1 hs.symm (λe=>hk ⟨e,hs.symm⟩)).2⟩
  .have hk:=apH.1 m1.2;simp only at hk hs;exact⟨(hbl x m1.1 hs (λe=>hk ⟨e,hs⟩)).2,ye x m1.1 hs (λe=>hk ⟨e,hs⟩)⟩
  .obtain⟨a,ha,rfl⟩:=Xam m1.1;obtain⟨b,hb',rfl⟩:=Xam m2.1;have hp:=Xat.1 h.up;rcases Xds a b with dY|dY|dY
   .exact(hp a b ha hb' dY).2 hs
   .subst dY;exact absurd hlt (Wor.irr _)
   .exact absurd (Wor.tr _ _ _ hlt (hp b a hb' ha dY).1) (Wor.irr _)
theorem WiN(h:HOk l):HOk (W2 l who):=⟨λx hx=>h.val x (Xav.1 hx).1,h.up.filter _⟩
theorem WkQ(h:HOk l):l.length<=81:=by
 have key:∀(l:List Hd) (c:Int),Ris cfH l->(∀e∈l,HdV e/\c<=9*e.2.1+e.1)->1<=c->(l.length:Int)<=82-c\/l= []:=by
  intro l
  induction l with
  |nil=>intro c _ _ _;exact .inr rfl
  |cons a l ih=>
   intro c hr hb hc;left;have h1:=List.pairwise_cons.1 hr;have ha:=hb a (Xi ..);unfold HdV at ha;rcases ih (9*a.2.1+a.1+1) h1.2 (λe he=>⟨(hb e (Xe _ he)).1,by
    have:=h1.1 e he;rw[WbJ]at this;have hv:=(hb e (Xe _ he)).1;unfold HdV at hv;omega⟩) (by omega)with h|h
   .rw[Xu];omega
   .subst h;simp;omega
 rcases key l 1 h.ris (λe he=>⟨h.val e he,by have:=h.val e he;unfold HdV at this;omega⟩) (by omega)with h|h
 .omega
 .rw[h];simp
theorem WiE{α V R:Type}{body:Int->α->V->(V->Option R)->Option R}{K:Int->V->Option R}{p:α->Bool}{E:Int->V->Option R}:∀(l:List α) (j:Nat) (v:V),(∀(j:Nat) x v k,x∈l->body j x v k=bif p x then E j v else k v)->
  (∃a x r,l=a++x::r/\(∀y∈a,p y=false)/\p x=true/\Wcg body K l j v=E ((j+a.length:Nat):Int) v)\/((∀y∈l,p y=false)/\Wcg body K l j v=K ((j+l.length:Nat):Int) v)
 | [],j,v,_=>.inr ⟨by simp,rfl⟩
 |x::l,j,v,h=>by
  rw[Wcg,h j x v _ (Xi ..)];cases hp:p x
  .simp only[cond_false];rcases WiE (E:=E) l (j+1) v λj y v k hy=>h j y v k (Xe _ hy)with⟨a,y,r,h1,h2,h3,h4⟩|⟨h1,h2⟩
   .refine .inl ⟨x::a,y,r,by rw[h1];rfl,λz hz=>?_,h3,?_⟩
    .rcases Xo.1 hz with rfl|hz
     .exact hp
     .exact h2 z hz
    .rw[h4,Xu,show j+1+a.length=j+(a.length+1) by omega]
   .refine .inr ⟨λz hz=>?_,?_⟩
    .rcases Xo.1 hz with rfl|hz
     .exact hp
     .exact h1 z hz
    .rw[h2,Xu,show j+1+l.length=j+(l.length+1) by omega]
  .exact .inl ⟨[],x,l,rfl,by simp,hp,rfl⟩
theorem Wsj{N:Nat}(a0:Int){R:Type}(K:Int->Int->Bool->List Hd->Int->Option R):
  ∀(r a m:List Hd) (n:Nat),r.length<n->a.length+m.length+r.length<=1048576->∃m',
   Zd N K n (a.length:Int) ((a.length+m.length:Nat):Int) (a++m++r) a0=
    K ((a++r.filter λx=>!(x.1==a0)).length:Int) ((a.length+m.length+r.length:Nat):Int) false ((a++r.filter λx=>!(x.1==a0))++m') a0
 | [],a,m,0,h,_=>by simp at h
 | [],a,m,n+1,h,_=>by
  refine⟨m,?_⟩;have e1:decide (((a.length+m.length:Nat):Int)<Wb (a++m++ []))=false:=by simp[Wb]
  simp only[Zd,e1,cond_false];simp
 |x::r,a,m,0,h,_=>by simp at h
 |x::r,a,m,n+1,h,hb=>by
  simp only[Xu]at h hb;have hj:a.length+m.length<(a++m++x::r).length:=by simp
  have hi:a.length<(a++m++x::r).length:=by simp;omega
  have hx:Xc (a++m++x::r) (a.length+m.length) ((0:Int),((0:Int),(0:Int)))=x:=by
   have:a.length+m.length=(a++m).length:=by simp
   rw[this,Xba,List.getElem?_append_right (Xn _)];simp
  cases hp:x.1==a0
  .obtain⟨m2,nZ,xa⟩:∃m2:List Hd,m2.length=m.length/\(a++m++x::r).set a.length x=(a++ [x])++m2++r:=by
    cases m with
    |nil=>exact⟨[],rfl,by rw[Xcy,Wdk];simp⟩
    |cons y m=>exact⟨m++ [x],by simp,by rw[show a++(y::m)++x::r=a++y::(m++x::r) by simp,Wdk];simp⟩
   obtain⟨m',ih⟩:=Wsj (N:=N) a0 K r (a++ [x]) m2 n (by omega) (by simp;omega);refine⟨m',?_⟩;simp only[Zd,Ze8,Wao hj,Wv hj,Wv hi,Xj,hx,hp,Xd,cond_true,Xdl,Xj,xa,
    Wk (show a.length<4611686018427387904 by omega),Wk (show a.length+m.length<4611686018427387904 by omega)]
   have l1:(a++ [x]).length=a.length+1:=by simp
   rw[l1,nZ,show a.length+1+m.length=a.length+m.length+1 by omega]at ih;rw[ih];simp only[Xbm,hp,Xdl,if_true,Xbs,Xer,Xu];rw[show a.length+m.length+1+r.length=a.length+m.length+(r.length+1) by omega]
  .obtain⟨m',ih⟩:=Wsj (N:=N) a0 K r a (m++ [x]) n (by omega) (by simp;omega);refine⟨m',?_⟩;simp only[Zd,Ze8,Wao hj,Wv hj,Wv hi,Xj,hx,hp,Xd,cond_true,cond_false,Xab,
    Wk (show a.length+m.length<4611686018427387904 by omega)]
   simp only[Xaa,Xu,Xee,Xbc]at ih;rw[show a.length+(m.length+1)=a.length+m.length+1 by omega,show a++(m++ [x])++r=a++m++x::r by simp]at ih;rw[ih];simp only[Xbm,hp,Xab,if_false,Xbi,Xu];simp only[Xaa];rw[show a.length+m.length+1+r.length=a.length+m.length+(r.length+1) by omega]
theorem WpK{N:Nat}{s:List Hd}{a0:Int}(hN:1048576<N)(hs:s.length<=100000):
  Zq N s a0=some ((a0,()),(s.filter λx=>!(x.1==a0),())):=by
 unfold Zq;have h1:=WO (l:=s) (V:={v:Int//v=a0}) (R:=Kh×Kh) (lp:=λn j v=>Zj N s (λbS ba=>some ((ba,()),(bS,()))) (λep ir dE=>some ((dE,()),((-1:Int),()))) n j v.1) (n:=N) (by omega)
  (body:=λj x v k=>bif x.1==a0 then some ((v.1,()),(j,()))else k v) (K:=λ_ v=>some ((v.1,()),((-1:Int),())))
  (λn i v hi=>by
   obtain⟨v,rfl⟩:=v;simp only[Zj,Wao hi,Wv hi,WB hi,Wk (show i<4611686018427387904 by omega),cond_true,Ze8,Xd])
  (λn v=>by simp only[Zj,WaH (Xn s.length),cond_false]) ⟨a0,rfl⟩
 simp only[]at h1;unfold Zy;rw[h1];rcases WiE (body:=λj x (v:{v:Int//v=a0}) k=>bif x.1==a0 then some ((v.1,()),(j,()))else k v) (K:=λ_ v=>(some ((v.1,()),((-1:Int),())):Option (Kh×Kh))) (p:=λx=>x.1==a0)
  (E:=λj v=>some ((v.1,()),(j,()))) s 0 ⟨a0,rfl⟩ (λj x v k _=>rfl)with⟨a,x,r,bP,ha,hx,hr⟩|⟨ha,hr⟩
 .rw[hr];simp only[Xd,Xbc];have e0:((a.length:Int)== -1)=false:=by simp
  rw[e0,Wk (show a.length<4611686018427387904 by rw[bP]at hs;simp at hs;omega)];simp only[cond_false];obtain⟨m',hd⟩:=Wsj (N:=N) a0 (λfU zw ep ck dE=>
     (bif (decide ((0:Int)<=fU))&&(decide (fU<=((Xa ck):Int)))then
      (bif (decide ((0:Int)<=fU))&&(decide (fU<=((Xa ((Xas (Xb fU) ck)++Xw ((Xa ck) -(Xb fU)) ((0:Int),((0:Int),(0:Int)))++(Xda (Xa ck) ck))):Int)))then
       (some ((dE,()),(Xas (Xb fU) ((Xas (Xb fU) ck)++Xw ((Xa ck) -(Xb fU)) ((0:Int),((0:Int),(0:Int)))++(Xda (Xa ck) ck)),())))else none)else none)) r a [x] N (by rw[bP]at hs;simp at hs;omega) (by rw[bP]at hs;simp at hs;simp;omega)
  rw[show a++ [x]++r=s by rw[bP];simp]at hd;simp only[Xu,Xee,Xbc]at hd;rw[hd];have hf:(s.filter λx=>!(x.1==a0))=a++r.filter λx=>!(x.1==a0):=by
   rw[bP,List.filter_append,Xbm];have:(a.filter λx=>!(x.1==a0))=a:=Xgm.2 λy hy=>by simp[ha y hy]
   rw[this];simp[hx]
  rw[←hf];generalize (s.filter λx=>!(x.1==a0))=f;have c1:(decide ((0:Int)<=(f.length:Int))&&decide ((f.length:Int)<=((Xa (f++m')):Int)))=true:=by
   rw[Xh];refine⟨by simp,decide_eq_true ?_⟩;rw[Xaa];omega
  rw[c1];simp only[cond_true,Xj,List.take_left',List.take_append_of_le_length (Xn f.length),List.take_length];have c2:(decide ((0:Int)<=(f.length:Int))&&decide ((f.length:Int)<=((Xa (f++Xw ((f++m').length-f.length) ((0:Int),((0:Int),(0:Int)))++Xda (f++m').length (f++m'))):Int)))=true:=by
   rw[Xh];refine⟨by simp,decide_eq_true ?_⟩;rw[Xaa,Xaa];omega
  rw[c2];simp[Xbs]
 .rw[hr];simp only[Xd];have:(s.filter λx=>!(x.1==a0))=s:=Xgm.2 λy hy=>by simp[ha y hy]
  rw[this];rfl
theorem WhF(h:HOk l)(hl:l.length<=100000)(hN:1048576<N):Zkc N l who=ret (W2 l who):=by
 have jx:Zd2 N l=ret l:=by unfold Zd2;rw[WC (by omega)];rfl
 unfold Zkc;rw[jx,WbS h (by omega) hN];simp only[ret,Xd,Xab,cond_false];rw[WpK hN hl];rfl
end
section
structure Cm where
 who:Int:=0
 rv:Int:=0
 phase:Int:=0
 pos:Int:=0
 wv:Int:=0
 puts:List Rw:=[]
 reads:List Int:=[]
def Cm.e(c:Cm):Int×Int×Int×Int×Int×List Kc×List Int:=(c.who,c.rv,c.phase,c.pos,c.wv,c.puts,c.reads)
def Cm.steps(c:Cm):Int:=
 if c.phase=1\/c.phase=4\/c.phase=5\/c.phase=7 then c.puts.length else if c.phase=3 then c.reads.length else 1
def WS(c:Cm)(n:Int):Cm:=if n=0 then{c with phase:=8,pos:=0}else{c with phase:=7,pos:=n-1}
def Wal(c:Cm)(ph:Int):Int:=
 if(ph=3/\c.reads.length=0\/ph=4)/\c.puts.length=0 then 6 else if ph=3/\c.reads.length=0 then 4 else ph
def Wco(c:Cm)(ph:Int):Cm:={c with phase:=Wal c ph,pos:=0}
def Wh(c:Cm)(ph:Int):Cm:=if c.pos+1=c.steps then Wco c ph else{c with pos:=c.pos+1}
def zWd:Wd:=(0,0,0)
def Wg(m:Mm)(i:Int):Wd:=Wbi m.2 i zWd
def Wnr(m:Mm)(i:Int)(w:Wd):Mm:=(m.1,Wlw m.2 i w)
def Wiu(m:Mm)(i who:Int):Mm:=Wnr m i ((Wg m i).1,(Wg m i).2.1,who)
def Wb1(m:Mm)(i who v:Int):Mm:=if(Wg m i).2.2=who then Wnr m i (v,(Wg m i).2)else m
def Way(m:Mm)(i who ver:Int):Mm:=if(Wg m i).2.2=who/\(Wg m i).2.1<=ver/\ver<=m.1 then Wnr m i ((Wg m i).1,ver,0)else m
def Wi(m:Mm)(c:Cm):Mm×Cm:=
 let p:=Wbi c.puts c.pos (0,0)
 if c.phase=1 then(if(Wg m p.1).2.2=0 then(Wiu m p.1 c.who,Wh c 2)else(m,WS c c.pos))else
 if c.phase=2 then(if(tick m).2=0 then((tick m).1,WS c c.puts.length)else((tick m).1,Wco {c with wv:=(tick m).2} 3))else
 if c.phase=3 then
  let w:=Wg m (Wbi c.reads c.pos 0)
  if(w.2.2≠0/\w.2.2≠c.who)\/w.2.1>c.rv then(m,WS c c.puts.length)else(m,Wh c 4)
 else
 if c.phase=4 then(Wb1 m p.1 c.who p.2,Wh c 5)else
 if c.phase=5 then(Way m p.1 c.who c.wv,Wh c 6)else
 if c.phase=7 then(Way m p.1 c.who (Wg m p.1).2.1,WS c c.pos)else
 (m,c)
def Wx(c:Cm):Cm:=
 if c.phase=1 then WS c c.pos else if c.phase=2\/c.phase=3 then WS c c.puts.length else c
def Wa5(who rv:Int)(puts reads:List Rw):Cm:=
 {who:=who,rv:=rv,phase:=if(WcN puts).length=0 then 2 else 1,puts:=WcN puts,reads:=(WcN reads).map (·.1)}
structure CmOk(c:Cm):Prop where
 who:1<=c.who/\c.who<=99
 rv:0<=c.rv/\c.rv<=1000000
 wv:0<=c.wv/\c.wv<=1000000
 phase:1<=c.phase/\c.phase<=8
 rows:Wi1 c.puts
 pup:c.puts.Pairwise λa b=>a.1<b.1
 plen:c.puts.length<=8
 rd:∀x∈c.reads,0<=x/\x<=7
 rup:c.reads.Pairwise (· < ·)
 rlen:c.reads.length<=8
 pos:0<=c.pos/\c.pos<c.steps
section
variable{N:Nat}{c:Cm}{m:Mm}
theorem CmOk.back(h:CmOk c){n:Int}(hn:0<=n/\n<=c.puts.length):CmOk (WS c n):=by
 unfold WS;split
 .exact{h with phase:=by(show(1:Int)<=8/\(8:Int)<=8;omega),pos:=by(unfold Cm.steps;simp)}
 .exact{h with phase:=by(show(1:Int)<=7/\(7:Int)<=8;omega),pos:=by(unfold Cm.steps;simp;omega)}
theorem Wue(c:Cm){ph:Int}(h:2<=ph/\ph<=6):2<=Wal c ph/\Wal c ph<=6:=by unfold Wal;split<;>(try split)<;>omega
theorem CmOk.adv(h:CmOk c){ph:Int}(hp:2<=ph/\ph<=6)(h5:ph=5->c.puts.length≠0):CmOk (Wco c ph):=by
 unfold Wco;have:=Wue c hp;refine{h with phase:=by(show 1<=Wal c ph/\Wal c ph<=8;omega),pos:=⟨Xp _,?_⟩};unfold Cm.steps;simp only;unfold Wal;split
 .split
  .omega
  .split<;>omega
 .split
  .split<;>(try split)<;>omega
  .split
   .omega
   .split<;>omega
theorem CmOk.next(h:CmOk c){ph:Int}(hp:2<=ph/\ph<=6)(h5:ph=5->c.puts.length≠0):CmOk (Wh c ph):=by
 unfold Wh;split
 .exact h.adv hp h5
 .have:=h.pos;exact{h with pos:=⟨by show 0<=c.pos+1;omega,by show c.pos+1<c.steps;omega⟩}
theorem Wom(hm:WY m=true){i:Int}{w:Wd}(hw:Wqs m.1 w=true):WY (Wnr m i w)=true:=by
 obtain⟨h8,h0,h1,fX⟩:=Wt hm;unfold WY Wnr Wlw;simp only[Xh,decide_eq_true_eq,Xae,Xad];refine⟨h8,⟨h0,h1⟩,λx hx=>?_⟩;rcases List.mem_or_eq_of_mem_set hx with h|h
 .exact fX x h
 .subst h;exact hw
theorem WdT(hm:WY m=true){i:Int}(hi:0<=i/\i<=7):Wqs m.1 (Wg m i)=true:=Wrs hm hi
theorem Wlt(hm:WY m=true):WY (tick m).1=true/\0<=(tick m).2/\(tick m).2<=1000000/\((tick m).2≠0->(tick m).2=m.1+1/\(tick m).1=(m.1+1,m.2))/\((tick m).2=0->(tick m).1=m):=by
 obtain⟨h8,h0,h1,fX⟩:=Wt hm;unfold tick;split
 .refine⟨?_,by simp only;omega,by simp only;omega,λ_=>⟨rfl,rfl⟩,λh=>by simp only at h;omega⟩;unfold WY;simp only[Xh,decide_eq_true_eq,Xae];refine⟨h8,⟨by omega,by omega⟩,λw hw=>?_⟩;have:=Wde.1 (fX w hw);rw[Wde];omega
 .exact⟨hm,by simp,by simp,λh=>absurd rfl h,λ_=>rfl⟩
theorem Wtf(hm:WY m=true){i who:Int}(hi:0<=i/\i<=7)(hw:0<=who/\who<=99):WY (Wiu m i who)=true:=by
 have:=Wde.1 (WdT hm hi);exact Wom hm (by rw[Wde];simp only;omega)
theorem Wrw(hm:WY m=true){i who v:Int}(hi:0<=i/\i<=7)(hv:0<=v/\v<=65535):WY (Wb1 m i who v)=true:=by
 have:=Wde.1 (WdT hm hi);unfold Wb1;split
 .exact Wom hm (by rw[Wde];simp only;omega)
 .exact hm
theorem WjZ(hm:WY m=true){i who ver:Int}(hi:0<=i/\i<=7):WY (Way m i who ver)=true:=by
 have:=Wde.1 (WdT hm hi);unfold Way;split
 .exact Wom hm (by rw[Wde];simp only;omega)
 .exact hm
theorem CmOk.put(h:CmOk c)(hp:c.phase=1\/c.phase=4\/c.phase=5\/c.phase=7):∃(j:Nat) (hj:j<c.puts.length),c.pos=j/\Wbi c.puts c.pos (0,0)=c.puts[j]/\(0<=c.puts[j].1/\c.puts[j].1<=7)/\0<=c.puts[j].2/\c.puts[j].2<=65535:=by
 have:=h.pos;unfold Cm.steps at this;rw[if_pos hp]at this;have hj:c.pos.toNat<c.puts.length:=by omega
 have hr:=h.rows _ (Xq hj);exact⟨c.pos.toNat,hj,by omega,Wf hj _,hr.1,hr.2⟩
theorem CmOk.read(h:CmOk c)(hp:c.phase=3):∃(j:Nat) (hj:j<c.reads.length),c.pos=j/\Wbi c.reads c.pos 0=c.reads[j]/\0<=c.reads[j]/\c.reads[j]<=7:=by
 have:=h.pos;unfold Cm.steps at this;rw[if_neg (by omega),if_pos hp]at this;have hj:c.pos.toNat<c.reads.length:=by omega
 have hr:=h.rd _ (Xq hj);exact⟨c.pos.toNat,hj,by omega,Wf hj _,hr⟩
theorem WlZ(h:CmOk c)(hm:WY m=true):CmOk (Wi m c).2/\WY (Wi m c).1=true:=by
 have bK:=h.pos;have hl:c.phase=1\/c.phase=4\/c.phase=5\/c.phase=7->c.puts.length≠0:=λhp=>by obtain⟨j,hj,_⟩:=h.put hp;omega
 have ay:c.phase=1\/c.phase=4\/c.phase=5\/c.phase=7->c.pos<c.puts.length:=λhp=>by unfold Cm.steps at bK;rw[if_pos hp]at bK;exact bK.2
 have hw:=h.who;unfold Wi;simp only;split
 .obtain⟨j,hj,e1,e2,e3,e4⟩:=h.put (by omega);rw[e2];split
  .exact⟨h.next (by omega) (by omega),Wtf hm e3 (by omega)⟩
  .exact⟨h.back (by omega),hm⟩
 .split
  .have ht:=Wlt hm;split
   .exact⟨h.back (by omega),ht.1⟩
   .refine⟨?_,ht.1⟩;have h':CmOk {c with wv:=(tick m).2}:={h with wv:=⟨ht.2.1,ht.2.2.1⟩};exact h'.adv (by omega) (by omega)
  .split
   .split
    .exact⟨h.back (by omega),hm⟩
    .exact⟨h.next (by omega) (by omega),hm⟩
   .split
    .obtain⟨j,hj,e1,e2,e3,e4⟩:=h.put (by omega);rw[e2];exact⟨h.next (by omega) (λ_=>hl (by omega)),Wrw hm e3 e4⟩
    .split
     .obtain⟨j,hj,e1,e2,e3,e4⟩:=h.put (by omega);rw[e2];exact⟨h.next (by omega) (by omega),WjZ hm e3⟩
     .split
      .obtain⟨j,hj,e1,e2,e3,e4⟩:=h.put (by omega);have:=ay (by omega);rw[e2];exact⟨h.back (by omega),WjZ hm e3⟩
      .exact⟨h,hm⟩
theorem WpW(h:CmOk c):CmOk (Wx c):=by
 have bK:=h.pos;unfold Wx;split
 .have:c.pos<c.puts.length:=by unfold Cm.steps at bK;rw[if_pos (by omega)]at bK;exact bK.2
  exact h.back (by omega)
 .split
  .exact h.back (by omega)
  .exact h
theorem Wke{who rv:Int}{puts reads:List Rw}(hw:1<=who/\who<=99)(hr:0<=rv/\rv<=1000000):CmOk (Wa5 who rv puts reads) where
 who:=hw
 rv:=hr
 wv:=by simp[Wa5]
 phase:=by unfold Wa5;simp only;split<;>omega
 rows:=Wf1
 pup:=WnT puts
 plen:=Wf0 puts
 rd:=λx hx=>by
  obtain⟨r,hr,rfl⟩:=Xv.1 hx;exact(Wf1 r hr).1
 rup:=by
  unfold Wa5;simp only[Xel];exact WnT reads
 rlen:=by unfold Wa5;simp only[Xaf];exact Wf0 reads
 pos:=by
  unfold Wa5 Cm.steps;simp only;refine⟨Xp _,?_⟩;split
  .simp
  .simp;omega
theorem cmP(c:Cm):c.e.1=c.who/\c.e.2.1=c.rv/\c.e.2.2.1=c.phase/\c.e.2.2.2.1=c.pos/\c.e.2.2.2.2.1=c.wv/\c.e.2.2.2.2.2.1=c.puts/\c.e.2.2.2.2.2.2=c.reads:=⟨rfl,rfl,rfl,rfl,rfl,rfl,rfl⟩
theorem WbU{who:Int}:Zec N who=ret (decide (1<=who)&&decide (who<=99)):=by unfold Zec;rw[Wn];rfl
theorem WdS(hm:WY m=true):Zca N m=ret m:=by
 have:=(Wt hm).1;unfold Zca;rw[WC (by omega)];rfl
theorem Wjw(h:CmOk c):Zgm N c.e=ret c.e:=by
 unfold Zgm;have:=h.plen;have:=h.rlen;rw[show Zbj N c.e.2.2.2.2.2.1=ret c.puts from WdB (show c.puts.length<=1048576 by omega),show Zu N c.e.2.2.2.2.2.2=ret c.reads from Wcx (show c.reads.length<=1048576 by omega)];rfl
theorem WmM:Zcx N c.e=ret c.steps:=by
 unfold Zcx Cm.steps;obtain⟨c0,c1,c2,c3,c4,c5,c6⟩:=cmP c;simp only[Wu,c2,c5,c6,Wb];by_cases h1:c.phase=1
 .simp[h1]
 .by_cases h3:c.phase=3
  .simp[h3]
  .by_cases h4:c.phase=4
   .simp[h4]
   .by_cases h5:c.phase=5
    .simp[h5]
    .by_cases h7:c.phase=7
     .simp[h7]
     .simp[h1,h3,h4,h5,h7]
theorem Whd(h:CmOk c)(hN:1048576<N):Zes N c.e=ret true:=by
 obtain⟨c0,c1,c2,c3,c4,c5,c6⟩:=cmP c;have dX:=h.plen;have cZ:=h.rlen;have hw:=h.who;have jM:=h.rv;have dD:=h.wv;have aR:=h.phase;have bK:=h.pos;have lP:Wbb c.puts=true:=by unfold Wbb;rw[Wkc.2 h.rows,decide_eq_true (by omega)];rfl
 unfold Zes;simp only[c0,c1,c2,c3,c4,c5,c6,WbU,Wn,Wcs (show c.puts.length<=1048576 by omega) hN,WmM,ret,Xd,decide_eq_true hw.1,decide_eq_true hw.2,decide_eq_true jM.1,decide_eq_true jM.2,decide_eq_true dD.1,decide_eq_true dD.2,decide_eq_true aR.1,decide_eq_true aR.2,lP,Xbr,Xab,cond_false];have wE:c.steps<=8:=by unfold Cm.steps;split<;>(try split)<;>omega
 have uw:W5 .i64 c.steps 1=c.steps-1:=Waq (by unfold I64;omega);rw[uw,decide_eq_true bK.1,decide_eq_true (show c.pos<=c.steps-1 by omega)];have yf:∀(d j n:Nat),j+d=c.reads.length->d<n->Zbg N c.reads c.e (some ((),(false,()))) (λt22 eX=>(some ((),(true&&true,())))) n (j:Int)=ret true:=by
  intro d
  induction d with
  |zero=>
   intro j n hj hn;obtain⟨n,rfl⟩:∃n',n=n'+1:=⟨n-1,by omega⟩;have:j=c.reads.length:=by omega
   subst this;simp only[Zbg,c6,WaH (Xn _),cond_false];rfl
  |succ d ih=>
   intro j n hj hn;obtain⟨n,rfl⟩:∃n',n=n'+1:=⟨n-1,by omega⟩;have hlt:j<c.reads.length:=by omega
   have bd:=ih (j+1) n (by omega) (by omega);have hv:=h.rd _ (Xq hlt);have an:W7 c.reads[j]=true:=by unfold W7;simpa using hv
   simp only[Zbg,c6,Wao hlt,Wv hlt,WB hlt,Wk (show j<4611686018427387904 by omega),cond_true,Wm,ret,Xd,an,Xab,cond_false,bd];by_cases h0:j=0
   .subst h0;rfl
   .have e1:decide ((j:Int)>0)=true:=by simp;omega
    have e2:W5 .i64 (j:Int) 1=((j-1:Nat):Int):=by rw[Waq (by unfold I64;omega)];omega
    have aT:j-1<c.reads.length:=by omega
    have hb:=Xat.1 h.rup (j-1) j aT hlt (by omega);simp only[e1,e2,cond_true,Wv aT,WB aT];rw[decide_eq_false (by omega)];rfl
 have zP:∀(d j n:Nat),j+d=c.puts.length->d<n->1<=j->Zbu N c.e (some ((),(false,()))) (λsA aM=>(Zbg N c.reads c.e (some ((),(false,()))) (λt22 eX=>(some ((),(true&&true,())))) N (0:Int))) n (j:Int)=ret true:=by
  intro d
  induction d with
  |zero=>
   intro j n hj hn _;obtain⟨n,rfl⟩:∃n',n=n'+1:=⟨n-1,by omega⟩;have:j=c.puts.length:=by omega
   subst this;simp only[Zbu,c5,WaH (Xn _),cond_false];exact yf c.reads.length 0 N (by omega) (by omega)
  |succ d ih=>
   intro j n hj hn h1j;obtain⟨n,rfl⟩:∃n',n=n'+1:=⟨n-1,by omega⟩;have hlt:j<c.puts.length:=by omega
   have bd:=ih (j+1) n (by omega) (by omega) (by omega);have e2:W5 .i64 (j:Int) 1=((j-1:Nat):Int):=by rw[Waq (by unfold I64;omega)];omega
   have aT:j-1<c.puts.length:=by omega
   have hb:=Xat.1 h.pup (j-1) j aT hlt (by omega);simp only[Zbu,c5,Wao hlt,Wv hlt,WB hlt,Wk (show j<4611686018427387904 by omega),cond_true,e2,Wv aT,WB aT];rw[decide_eq_false (by omega)];exact bd
 by_cases hz:c.puts.length=0
 .obtain⟨N',rfl⟩:∃N',N=N'+1:=⟨N-1,by omega⟩;rw[Zbu,c5,decide_eq_false (by unfold Wb;omega)];exact yf c.reads.length 0 _ (by omega) (by omega)
 .exact zP (c.puts.length-1) 1 N (by omega) (by omega) (by omega)
theorem WhX(h:CmOk c){n:Int}(hn:0<=n/\n<=8):Z5 N c.e n=some (((WS c n).e,()),()):=by
 unfold Z5 WS;rw[Wu,Waq (by unfold I64;omega)];split<;>rfl
theorem Ws5{ph:Int}:Zed N c.e ph=some (((Wco c ph).e,()),()):=by
 obtain⟨c0,c1,c2,c3,c4,c5,c6⟩:=cmP c;unfold Zed Wco Wal;simp only[Wu,c5,c6,Wb];by_cases h3:ph=3
 .subst h3;by_cases hr:c.reads.length=0<;>by_cases hp:c.puts.length=0<;>simp[hr,hp]<;>rfl
 .by_cases h4:ph=4
  .subst h4;by_cases hp:c.puts.length=0<;>simp[hp]<;>rfl
  .simp[h3,h4];rfl
theorem WtF(h:CmOk c){ph:Int}:Zbn N c.e ph=some (((Wh c ph).e,()),()):=by
 obtain⟨c0,c1,c2,c3,c4,c5,c6⟩:=cmP c;have bK:=h.pos;have wE:c.steps<=8:=by have:=h.plen;have:=h.rlen;unfold Cm.steps;split<;>(try split)<;>omega
 have ay:Zcx N (Cm.e {c with pos:=c.pos+1})=ret c.steps:=WmM;unfold Zbn Wh;rw[c3,Ww (by unfold I64;omega)];rw[show(c.e.1,(c.e.2.1,(c.e.2.2.1,(c.pos+1,c.e.2.2.2.2))))=Cm.e {c with pos:=c.pos+1}from rfl,ay];simp only[ret,Xd,Wu,Ws5];split<;>rfl
theorem Wsy(h:CmOk c)(hN:1048576<N):∃b,Zh2 N c.e=some ((),((Wx c).e,(b,()))):=by
 obtain⟨c0,c1,c2,c3,c4,c5,c6⟩:=cmP c;have bK:=h.pos;have dX:=h.plen;have wE:c.steps<=8:=by have:=h.plen;have:=h.rlen;unfold Cm.steps;split<;>(try split)<;>omega
 unfold Zh2 Wx;rw[Wjw h];simp only[ret,Xd];rw[Whd h hN];simp only[ret,Xd,Xab,cond_false,Wu,c2,c3,c5,WhX h (show 0<=c.pos/\c.pos<=8 by omega),WhX h (show 0<=Wb c.puts/\Wb c.puts<=8 by unfold Wb;omega)];by_cases h1:c.phase=1
 .rw[if_pos h1,if_pos h1];exact⟨_,rfl⟩
 .rw[if_neg h1,if_neg h1];by_cases h2:c.phase=2
  .rw[if_pos h2,if_pos h2,if_pos (.inl h2)];exact⟨_,rfl⟩
  .rw[if_neg h2];by_cases h3:c.phase=3
   .rw[if_pos h3,if_pos (.inr h3)];exact⟨_,rfl⟩
   .rw[if_neg h3,if_neg (by omega)];exact⟨_,rfl⟩
theorem Wn4{l:List Rw}(hl:l.length<=1048576)(hN:1048576<N):Zgv N l=ret ((WcN l).map (·.1)):=by
 unfold Zgv;rw[WdO hl hN];have hn:=Wf0 l;simp only[ret,Xd];have h1:=WO (l:=WcN l) (V:=List Int) (R:=Unit×(List Int×Unit)) (lp:=λn j v=>Zcn N (Wb (WcN l)) (WcN l) (λaB aL bm=>(some ((),(bm,())))) n j v) (n:=N) (by omega)
  (body:=λj x v k=>bif WG (v.length+ [x.1].length)then k (Xf v [x.1])else none) (K:=λ_ v=>ret v)
  (λn i v hi=>by simp only[Zcn,Wao hi,Wv hi,WB hi,Wk (show i<4611686018427387904 by omega),cond_true])
  (λn v=>by simp only[Zcn,WaH (Xn _),cond_false]) []
 refine h1.trans ?_;rw[Wds (f:=λx:Rw=>x.1) (WcN l) 0 [] (by simp;omega) (λj x v k _=>rfl)];rfl
theorem Wva{who rv:Int}{puts reads:List Rw}(hw:1<=who/\who<=99)(hr:0<=rv/\rv<=1000000)(hp:Wbb puts=true)(hd:Wbb reads=true)(hN:1048576<N):
  Zd1 N who rv puts reads=some ((),((Wa5 who rv puts reads).e,(true,()))):=by
 have l1:puts.length<=300:=by unfold Wbb at hp;simp at hp;exact hp.1
 have l2:reads.length<=300:=by unfold Wbb at hd;simp at hd;exact hd.1
 unfold Zd1;simp only[WbU,Wn,Wcs (show puts.length<=1048576 by omega) hN,Wcs (show reads.length<=1048576 by omega) hN,WdO (show puts.length<=1048576 by omega) hN,Wn4 (show reads.length<=1048576 by omega) hN,ret,Xd,decide_eq_true hw.1,decide_eq_true hw.2,decide_eq_true hr.1,decide_eq_true hr.2,hp,hd,Xbr,Xab,cond_false,Wu];unfold Wa5 Cm.e;by_cases hz:(WcN puts).length=0
 .rw[if_pos (by unfold Wb;omega)];simp only[if_pos hz]
 .rw[if_neg (by unfold Wb;omega)];simp only[if_neg hz]
theorem WhO{m:Mm}{i:Int}:Xc m.2 (Xb i) ((0:Int),((0:Int),(0:Int)))=Wg m i:=rfl
theorem Wg9(hm:WY m=true){i:Int}(hi:0<=i/\i<=7):inb i m.2.length=true:=by
 have:=(Wt hm).1;unfold inb;simp;omega
theorem Wim{i:Int}(hi:0<=i/\i<=7):W7 i=true:=by unfold W7;simpa using hi
theorem Wl5(hm:WY m=true){i who:Int}(hi:0<=i/\i<=7)(hw:1<=who/\who<=99)(hN:1048576<N):
  Zly N m i who=some ((),((if(Wg m i).2.2=0 then Wiu m i who else m),(decide ((Wg m i).2.2=0),()))):=by
 unfold Zly;rw[WdS hm,Wa2 (by have:=(Wt hm).1;omega) hN,hm];simp only[ret,Xd,Xab,cond_false,Wm,Wim hi,WbU,decide_eq_true hw.1,decide_eq_true hw.2,Xbr,Wg9 hm hi,cond_true,WhO,Wdj];by_cases h:(Wg m i).2.2=0
 .rw[if_pos h,if_pos h,decide_eq_true h];rfl
 .rw[if_neg h,if_neg h,decide_eq_false h]
theorem Wkd(hm:WY m=true){i who v:Int}(hi:0<=i/\i<=7)(hw:1<=who/\who<=99)(hv:0<=v/\v<=65535)(hN:1048576<N):
  ∃b,Zmu N m i who v=some ((),(Wb1 m i who v,(b,()))):=by
 unfold Zmu Wb1;rw[WdS hm,Wa2 (by have:=(Wt hm).1;omega) hN,hm];simp only[ret,Xd,Xab,cond_false,Wm,Wim hi,WbU,Wp,Wa4.2 hv,decide_eq_true hw.1,decide_eq_true hw.2,Xbr,Wg9 hm hi,cond_true,WhO,Wdj];by_cases h:(Wg m i).2.2=who
 .rw[if_pos h,if_pos h];exact⟨_,rfl⟩
 .rw[if_neg h,if_neg h];exact⟨_,rfl⟩
theorem Wfo(hm:WY m=true){i who ver:Int}(hi:0<=i/\i<=7)(hw:1<=who/\who<=99)(hN:1048576<N):
  ∃b,Zjv N m i who ver=some ((),(Way m i who ver,(b,()))):=by
 have h8:=(Wt hm).1;unfold Zjv Way;rw[WdS hm,Wa2 (by omega) hN,hm];simp only[ret,Xd,Xab,cond_false,Wm,Wim hi,WbU,Wn,decide_eq_true hw.1,decide_eq_true hw.2,Xbr,Wg9 hm hi,cond_true,WhO,Wdj,Xad,Wz];by_cases h:(Wg m i).2.2=who
 .rw[if_pos h];by_cases h2:(Wg m i).2.1<=ver/\ver<=m.1
  .rw[if_pos ⟨h,h2.1,h2.2⟩,decide_eq_true h2.1,decide_eq_true h2.2];refine⟨true,?_⟩;have:i.toNat<m.2.length:=by omega
   simp only[Xbr,Xab,cond_false,WkK this,Xdp];rfl
  .rw[if_neg (by omega)];refine⟨false,?_⟩;have:(decide ((Wg m i).2.1<=ver)&&decide (ver<=m.1))=false:=by
    rw[Xcm,decide_eq_false_iff_not,decide_eq_false_iff_not];omega
   rw[this];rfl
 .rw[if_neg h,if_neg (by omega)];exact⟨_,rfl⟩
theorem WmO(h:CmOk c)(hm:WY m=true)(hN:1048576<N):Zig N m c.e=some ((),((Wi m c).1,((Wi m c).2.e,()))):=by
 obtain⟨c0,c1,c2,c3,c4,c5,c6⟩:=cmP c;have bK:=h.pos;have dX:=h.plen;have hw:=h.who;have wE:c.steps<=8:=by have:=h.plen;have:=h.rlen;unfold Cm.steps;split<;>(try split)<;>omega
 have b1:=WhX (N:=N) h (show 0<=c.pos/\c.pos<=8 by omega);have b2:=WhX (N:=N) h (show 0<=Wb c.puts/\Wb c.puts<=8 by unfold Wb;omega);unfold Zig Wi;rw[WdS hm,Wjw h];simp only[ret,Xd];rw[Wa2 (by have:=(Wt hm).1;omega) hN,Whd h hN,hm];simp only[ret,Xd,Xab,cond_false,Wu,c0,c1,c2,c3,c4,c5,c6,WgF,b1,b2,WtF h];by_cases h1:c.phase=1
 .rw[if_pos h1,if_pos h1];obtain⟨j,hj,e1,e2,e3,e4⟩:=h.put (by omega);rw[show Xc c.puts (Xb c.pos) ((0:Int),(0:Int))=c.puts[j]from e2,e2,e1,Wac,decide_eq_true hj,Wl5 hm e3 hw hN,←e1];by_cases ho:(Wg m c.puts[j].1).2.2=0
  .rw[if_pos ho,if_pos ho,decide_eq_true ho];rfl
  .rw[if_neg ho,if_neg ho,decide_eq_false ho];rfl
 .rw[if_neg h1,if_neg h1];by_cases h2:c.phase=2
  .rw[if_pos h2,if_pos h2,WlN hm hN];simp only[Xd];by_cases ht:(tick m).2=0
   .rw[if_pos ht,if_pos ht];rfl
   .rw[if_neg ht,if_neg ht];rw[show(c.who,(c.rv,(c.phase,(c.pos,((tick m).2,c.e.2.2.2.2.2)))))=Cm.e {c with wv:=(tick m).2}from rfl,Ws5];rfl
  .rw[if_neg h2,if_neg h2];by_cases h3:c.phase=3
   .rw[if_pos h3,if_pos h3];obtain⟨j,hj,e1,e2,e3,e4⟩:=h.read h3;rw[show Xc c.reads (Xb c.pos) (0:Int)=c.reads[j]from e2,e2,e1,Wac,decide_eq_true hj,Wg9 hm ⟨e3,e4⟩];simp only[cond_true,Wdj,War];rw[show Xc m.2 (Xb c.reads[j]) ((0:Int),((0:Int),(0:Int)))=Wg m c.reads[j]from rfl];by_cases a:(Wg m c.reads[j]).2.2=0
    .rw[if_pos a];by_cases b:(Wg m c.reads[j]).2.1>c.rv
     .rw[if_pos b,if_pos (.inr b)];rfl
     .rw[if_neg b,if_neg (by omega)]
    .rw[if_neg a];by_cases a':(Wg m c.reads[j]).2.2=c.who
     .rw[if_pos a'];by_cases b:(Wg m c.reads[j]).2.1>c.rv
      .rw[if_pos b,if_pos (.inr b)];rfl
      .rw[if_neg b,if_neg (by omega)]
     .rw[if_neg a',if_pos (.inl ⟨a,a'⟩)];rfl
   .rw[if_neg h3,if_neg h3];by_cases h4:c.phase=4
    .rw[if_pos h4,if_pos h4];obtain⟨j,hj,e1,e2,e3,e4⟩:=h.put (by omega);obtain⟨b,hb⟩:=Wkd hm e3 hw e4 hN;rw[show Xc c.puts (Xb c.pos) ((0:Int),(0:Int))=c.puts[j]from e2,e2,e1,Wac,decide_eq_true hj,hb];rfl
    .rw[if_neg h4,if_neg h4];by_cases h5:c.phase=5
     .rw[if_pos h5,if_pos h5];obtain⟨j,hj,e1,e2,e3,e4⟩:=h.put (by omega);obtain⟨b,hb⟩:=Wfo (ver:=c.wv) hm e3 hw hN;rw[show Xc c.puts (Xb c.pos) ((0:Int),(0:Int))=c.puts[j]from e2,e2,e1,Wac,decide_eq_true hj,hb];rfl
     .rw[if_neg h5,if_neg h5];by_cases h7:c.phase=7
      .rw[if_pos h7,if_pos h7];obtain⟨j,hj,e1,e2,e3,e4⟩:=h.put (by omega);obtain⟨b,hb⟩:=Wfo (ver:=(Wg m c.puts[j].1).2.1) hm e3 hw hN;rw[show Xc c.puts (Xb c.pos) ((0:Int),(0:Int))=c.puts[j]from e2,e2,e1,Wac,decide_eq_true hj,Wg9 hm e3];simp only[cond_true,WhO,hb,←e1];rfl
      .rw[if_neg h7,if_neg h7]
end
end
section
abbrev RM:=Int×Int×Int×Int×List Int
abbrev Wr:=Int×Int×List Rw
abbrev Pg:=List Opn×List (List Opn)
abbrev Ac:=Int×Int×Int
abbrev Sc:=Kg×List Pg×List Ac
structure Rt where
 phase:Int:=0
 tries:Int:=0
 spare:Int:=0
 pc:Int:=0
 rv:Int:=0
 newRv:Int:=0
 pos:Int:=0
 fate:Int:=0
 stamp:Int:=0
 began:Int:=0
 ended:Int:=0
 doomed:Bool:=false
 regs:List Int:=[]
 reads:List Rw:=[]
 writes:List Rw:=[]
 marks:List RM:=[]
 undos:List Un:=[]
 order:List Int:=[]
 busy:Bool:=false
 pb:Pb:=(0,0,0,0)
 cm:Cm:={}
 fam:Fm:={}
def Rt.e(r:Rt):Y_Root:=(r.phase,r.tries,r.spare,r.pc,r.rv,r.newRv,r.pos,r.fate,r.stamp,r.began,r.ended,r.doomed,r.regs,r.reads,r.writes,r.marks,r.undos,r.order,r.busy,r.pb,r.cm.e,r.fam.e)
structure Wo where
 now:Int:=0
 token:Int:=0
 mem:Mm:=(0,[])
 shelf:Shf:=([],0)
 holds:List Hd:=[]
 roots:List Rt:=[]
 hist:List Wr:=[]
def Wo.e(w:Wo):Y_World:=(w.now,w.token,w.mem,w.shelf,w.holds,w.roots.map Rt.e,w.hist)
def zRM:RM:=(0,0,0,0,[])
def Rt.last(x:Rt):RM:=WhH x.marks zRM
def WbZ(x:Rt):Rt:={phase:=6,tries:=x.tries,undos:=x.undos}
def Wy(x:Rt):Rt:=
 if x.marks.length=0\/x.spare=2 then WbZ x else{x with spare:=x.spare+1,busy:=false,pb:=(0,0,0,0),phase:=3}
def Wd1(w:Wo)(x:Rt):Wo×Rt:=({w with shelf:=Wia w.shelf (WhH x.undos (0,0,0))},{x with undos:=x.undos.dropLast})
def Wjh(w:Wo)(x:Rt)(k:Nat):Wo×Rt:=
 ({w with token:=if w.token=(k:Int)+1 then 0 else w.token},{x with phase:=8,ended:=w.now,undos:=[],doomed:=false})
def W6(w:Wo)(x:Rt)(k:Nat)(out:Int):Wo×Rt:=
 let rows:=if out=2 then []else x.writes
 if rows.length=0/\(WfJ w.holds ((k:Int)+1)).length=0 then Wjh w {x with fate:=out,stamp:=x.rv} k
 else(w,{x with fate:=out,cm:=Wa5 ((k:Int)+1) x.rv rows x.reads,phase:=5})
def Wci(w:Wo)(x:Rt)(o:Opn):Rt:=
 match Wbc x.writes o.2.2.1 with
 |some v=>{x with regs:=Wlw x.regs o.2.1 v,pc:=x.pc+1}
 |none=>
  let p:=WV w.mem x.rv (if x.busy then x.pb else(o.2.2.1,0,0,0))
  if p.2.1=4 then Wy {x with busy:=true,pb:=p}
  else if p.2.1=3 then{x with regs:=Wlw x.regs o.2.1 p.2.2.2,reads:=x.reads++ [(o.2.2.1,p.2.2.2)],busy:=false,pb:=(0,0,0,0),pc:=x.pc+1}
  else{x with busy:=true,pb:=p}
def WbL(w:Wo)(x:Rt)(k:Nat)(code:List Opn):Wo×Rt:=
 if x.marks.length=0 then W6 w x k 2 else
 if(x.undos.length:Int)>x.last.2.2.2.1 then Wd1 w x else
 (w,{x with marks:=x.marks.dropLast,regs:=Wlw x.last.2.2.2.2 (opN code x.last.1).2.1 0,writes:=x.writes.take x.last.2.2.1.toNat,pc:=WiA code x.last.1.toNat+1})
def Wbs(w:Wo)(x:Rt)(k:Nat)(o:Opn):Wo×Rt:=
 match WaT w.holds ((k:Int)+1) (WaC o).1 (WaC o).2 with
 |none=>(w,Wy x)
 |some hs=>
  let b:=Wbo w.shelf o x.regs
  ({w with holds:=hs,shelf:=b.1},{x with regs:=b.2.1,undos:=if b.2.2.1=0 then x.undos else x.undos++ [b.2.2],pc:=x.pc+1})
def Wdx(w:Wo)(x:Rt)(k:Nat)(p:Pg):Wo×Rt:=
 if x.pc>=p.1.length then W6 w x k 1 else
 let o:=opN p.1 x.pc
 if o.1=5 then(w,Wci w x o)else
 if o.1=10 then WbL w x k p.1 else
 if o.1=11 then(w,{x with phase:=2,fam:=WaA x.rv x.regs x.writes p.2.length})else
 if o.1>=12 then Wbs w x k o else
 if o.1=6 then(w,{x with writes:=x.writes++ [(o.2.1,Wbi x.regs o.2.2.1 0)],pc:=x.pc+1})else
 if o.1=7 then(w,{x with pc:=(if Wbi x.regs o.2.1 0=0 then x.pc+o.2.2.1 else x.pc)+1})else
 if o.1=8 then(w,{x with marks:=x.marks++ [(x.pc,(x.reads.length:Int),(x.writes.length:Int),(x.undos.length:Int),x.regs)],pc:=x.pc+1})else
 if o.1=9 then(w,{x with marks:=x.marks.dropLast,regs:=Wlw x.regs (opN p.1 x.last.1).2.1 1,pc:=x.pc+1})else
 (w,{x with regs:=WkD o x.regs,pc:=x.pc+1})
def Waa(k:Nat):List Rt->Nat->Bool
 | [],_=>true
 |x::l,i=>(decide (i=k)||(decide (x.phase=0)||decide (x.phase=8)))&&Waa k l (i+1)
def Wc9(w:Wo)(x:Rt)(k:Nat):Wo×Rt:=
 if w.token≠0/\w.token≠(k:Int)+1 then(w,x)else
 if x.tries>=3/\w.token=0 then({w with token:=(k:Int)+1},x)else
 if w.token=(k:Int)+1/\Waa k w.roots 0=false then(w,x)else
 (w,{phase:=1,tries:=x.tries,rv:=w.mem.1,began:=w.now,regs:=[0,0,0,0]})
def WbN(x:Rt):Rt:=
 if x.fam.lost then WbZ x else
 if Wbd x.fam then{x with regs:=WiQ x.fam,writes:=WgP x.fam,reads:=x.reads++x.fam.reads,order:=x.fam.order,fam:={},phase:=1,pc:=x.pc+1}
 else x
def WaR(w:Wo)(x:Rt):Wo×Rt:=
 if(x.undos.length:Int)>x.last.2.2.2.1 then Wd1 w x else(w,{x with newRv:=w.mem.1,pos:=0,phase:=4})
def Waz(w:Wo)(x:Rt):Rt:=
 if x.pos<x.last.2.1 then
  let c:=Wg w.mem (Wbi x.reads x.pos (0,0)).1
  if c.2.2≠0\/c.2.1>x.rv then WbZ x else{x with pos:=x.pos+1}
 else{x with rv:=x.newRv,newRv:=0,pos:=0,reads:=x.reads.take x.last.2.1.toNat,writes:=x.writes.take x.last.2.2.1.toNat,regs:=x.last.2.2.2.2,pc:=x.last.1+1,phase:=1}
def Wab(x:Rt):Rt:=
 if x.cm.phase=8 then WbZ x else
 if x.cm.phase=6 then{x with stamp:=x.cm.wv,cm:={},phase:=if x.fate=2 then 6 else 7}else x
def W4(w:Wo)(x:Rt)(k:Nat):Wo×Rt:=
 if x.doomed then(w,if(Wx x.cm).phase=8 then WbZ x else{x with cm:=Wx x.cm,doomed:=false})else
 let q:=Wi w.mem x.cm
 ({w with mem:=q.1,hist:=if x.cm.phase<=3/\q.2.phase=4 then w.hist++ [(q.2.wv,(k:Int)+1,q.2.puts)]else w.hist},Wab {x with cm:=q.2})
def Wq(w:Wo)(x:Rt)(k:Nat)(p:Pg):Wo×Rt:=
 if x.doomed=true/\1<=x.phase/\x.phase<=4 then(w,WbZ x)else
 if x.phase=0 then Wc9 w x k else
 if x.phase=1 then Wdx w x k p else
 if x.phase=2 then(w,WbN x)else
 if x.phase=3 then WaR w x else
 if x.phase=4 then(w,Waz w x)else
 if x.phase=5 then W4 w x k else
 if x.phase=6 then(if x.undos.length>0 then Wd1 w x else(w,{x with phase:=7}))else
 if x.phase=7 then
  (if x.fate=0 then({w with holds:=W2 w.holds ((k:Int)+1)},{tries:=x.tries+1})
   else Wjh {w with holds:=W2 w.holds ((k:Int)+1)} x k)
 else(w,x)
def Wo.put(q:Wo×Rt)(k:Nat):Wo:={q.1 with roots:=q.1.roots.set k q.2}
def rt0:Rt:={}
def pg0:Pg:=([],[])
def Wh6(w:Wo)(k:Nat)(p:Pg):Wo:=Wo.put (Wq w (w.roots.getD k rt0) k p) k
def Wxn(w:Wo)(x:Rt)(k j:Nat)(p:Pg):Wo:=Wo.put (w,{x with fam:=WcD w.mem x.fam j (p.2.getD j [])}) k
def Wc4(s:Sc)(w0:Wo)(a:Ac):Wo:=
 let w:={w0 with now:=w0.now+1}
 if 0<=a.2.1/\a.2.1<w.roots.length then
  let k:=a.2.1.toNat
  let x:=w.roots.getD k rt0
  let p:=s.2.1.getD k pg0
  if a.1=1 then Wh6 w k p else
  if a.1=2 then(if x.phase=2/\0<=a.2.2/\a.2.2<p.2.length then Wxn w x k a.2.2.toNat p else w)else
  if a.1=3 then(if(1<=x.phase/\x.phase<=4)\/(x.phase=5/\x.cm.phase<=3)then Wo.put (w,{x with doomed:=true}) k else w)else w
 else w
def Wee(s:Sc):Wo:={mem:=Wj4 s.1.1,shelf:=(Wox s.1.2.1,s.1.2.2),roots:=Xw s.2.1.length {}}
def Wek(s:Sc):Wo:=s.2.2.foldl (Wc4 s) (Wee s)
structure RMk(code:List Opn)(pc:Nat)(marks:List RM)(rl wl ul:Nat):Prop where
 pcs:marks.map (·.1)=(stk code pc).map λm:Nat=>(m:Int)
 each:∀q∈marks,Vals 4 q.2.2.2.2/\(0<=q.2.1/\q.2.1<=q.1+72*frk code q.1.toNat/\q.2.1<=rl)/\(0<=q.2.2.1/\q.2.2.1<=q.1+8/\q.2.2.1<=wl)/\0<=q.2.2.2.1/\q.2.2.2.1<=q.1/\q.2.2.2.1<=ul
 up:marks.Pairwise λa b=>a.2.1<=b.2.1/\a.2.2.1<=b.2.2.1/\a.2.2.2.1<=b.2.2.2.1
structure RLive(p:Pg)(n:Int)(x:Rt):Prop where
 pc:0<=x.pc/\x.pc<=p.1.length
 spare:0<=x.spare/\x.spare<=2
 rv:0<=x.rv/\x.rv<=1000000
 regs:Vals 4 x.regs
 reads:Wi1 x.reads
 rl:(x.reads.length:Int)<=x.pc+72*frk p.1 x.pc.toNat
 writes:Wi1 x.writes
 wl:(x.writes.length:Int)<=x.pc+8
 ul:(x.undos.length:Int)<=x.pc
 marks:RMk p.1 x.pc.toNat x.marks x.reads.length x.writes.length x.undos.length
 pb:x.busy=true->Wlp x.pb=true
 fork:x.phase=2->x.pc<p.1.length/\(opN p.1 x.pc).1=11/\FOk p.2 n x.fam
 back:x.phase=3\/x.phase=4->x.marks.length≠0
 newRv:0<=x.newRv/\x.newRv<=1000000
 pos:x.phase=4->0<=x.pos/\x.pos<=x.last.2.1
 unw:x.phase=4->(x.undos.length:Int)<=x.last.2.2.2.1
structure ROk(p:Pg)(n:Int)(x:Rt):Prop where
 phase:0<=x.phase/\x.phase<=8
 tries:0<=x.tries/\x.tries<=n
 live:1<=x.phase/\x.phase<=4->RLive p n x
 comm:x.phase=5->CmOk x.cm
 undos:∀u∈x.undos,UnV u
 ul:x.undos.length<=24
 rg:x.regs.length<=4
 ord:x.order.length<=3
structure POk(p:Pg):Prop where
 code:CC p.1
 kids:∀c∈p.2,KC c
 k3:p.2.length<=3
def HE(h:Wr):Prop:=h.2.2.length<=8/\Wi1 h.2.2/\1<=h.2.1/\h.2.1<=9
structure WOk(ps:List Pg)(n:Int)(w:Wo):Prop where
 len:w.roots.length=ps.length
 l4:ps.length<=4
 progs:∀p∈ps,POk p
 now:w.now=n
 n0:0<=n
 mem:WY w.mem=true
 shelf:ShOk w.shelf
 holds:HOk w.holds
 hist:(w.hist.length:Int)<=n
 histE:∀h∈w.hist,HE h
 root:∀(k:Nat) (h:k<w.roots.length),ROk (ps.getD k pg0) n w.roots[k]
end
section
theorem rtP(x:Rt):x.e.1=x.phase/\x.e.2.1=x.tries/\x.e.2.2.1=x.spare/\x.e.2.2.2.1=x.pc/\P4 x.e=x.rv/\P5 x.e=x.newRv/\P6 x.e=x.pos/\P7 x.e=x.fate/\P8 x.e=x.stamp/\P11 x.e=x.doomed/\P12 x.e=x.regs/\P13 x.e=x.reads/\P14 x.e=x.writes/\P15 x.e=x.marks/\P16 x.e=x.undos/\P18 x.e=x.busy/\P19 x.e=x.pb/\P20 x.e=x.cm.e/\Q21 x.e=x.fam.e/\P24 x.e=x.fam.lost/\P28 x.e=x.fam.order/\P29 x.e=x.fam.reads:=
 ⟨rfl,rfl,rfl,rfl,rfl,rfl,rfl,rfl,rfl,rfl,rfl,rfl,rfl,rfl,rfl,rfl,rfl,rfl,rfl,rfl,rfl,rfl⟩
theorem S5e(w:Wo)(k:Nat)(x:Rt):S5 (Xl (w.roots.map Rt.e) k x.e) w.e=Wo.e {w with roots:=w.roots.set k x}:=by
 unfold S5 Wo.e;rw[Xfv]
theorem Wc8{w w':Wo}{k:Nat}{x':Rt}{y:Y_Root}{g:Y_World}(hy:y=x'.e)(hg:g=w'.e)(hr:w'.roots=w.roots):
  some ((S5 (Xl (w.roots.map Rt.e) k y) g,()),())=some (((Wo.put (w',x') k).e,()),()):=by
 subst hy hg;rw[←hr,S5e];rfl
variable{N:Nat}{w:Wo}{k:Nat}{x:Rt}{o:Opn}{p:Pg}{n:Int}{code:List Opn}
theorem woG(hk:k<w.roots.length)(aD:w.roots[k]=x):Xc (w.roots.map Rt.e) k d_Root=x.e/\Xc (w.roots.map Rt.e) (Xb (k:Int)) d_Root=x.e/\S5 (Xl (w.roots.map Rt.e) (Xb (k:Int)) x.e) w.e=w.e/\inb (k:Int) (w.roots.map Rt.e).length=true/\S5 (Xl (w.roots.map Rt.e) k x.e) w.e=w.e:=by
 have h1:Xc (w.roots.map Rt.e) k d_Root=x.e:=by
  have:=Wgt Rt.e w.roots k {};rw[Wf hk,aD]at this;exact this
 have h2:S5 (Xl (w.roots.map Rt.e) k x.e) w.e=w.e:=by rw[S5e,←aD,Xbf]
 rw[Xj];refine⟨h1,h1,h2,?_,h2⟩;rw[Wac,Xaf];exact decide_eq_true hk
theorem Wo9(hk:k<w.roots.length)(aD:w.roots[k]=x):Wo.put (w,x) k=w:=by
 unfold Wo.put;simp only;rw[←aD,Xbf]
theorem We1:Zbe N x.e=some (((WbZ x).e,()),()):=rfl
theorem Wex(hs:0<=x.spare/\x.spare<=2):Zcw N x.e=some (((Wy x).e,()),()):=by
 obtain⟨r0,r1,r2,r3,r4,r5,r6,r7,r8,km,jy,iF,iG,iX,iY,kZ,la,kn,ko,lb,ld,lg⟩:=rtP x;unfold Zcw Wy;simp only[Wu,iX,r2,Wb,We1,Xd];by_cases h1:x.marks.length=0
 .rw[if_pos (by omega),if_pos (.inl h1)]
 .rw[if_neg (by omega)];by_cases h2:x.spare=2
  .rw[if_pos h2,if_pos (.inr h2)]
  .rw[if_neg h2,if_neg (by omega),Ww (by unfold I64;omega)];rfl
theorem Wez{α:Type}{l:List α}(h:l.length≠0)(hl:l.length<=1000)(d:α):inb (W5 .i64 (Wb l) 1) l.length=true/\Xc l (Xb (W5 .i64 (Wb l) 1)) d=WhH l d/\Xas (Xb (W5 .i64 (Wb l) 1)) l=l.dropLast/\(decide ((0:Int)<=W5 .i64 (Wb l) 1)&&decide (W5 .i64 (Wb l) 1<=(l.length:Int)))=true:=by
 have e:W5 .i64 (Wb l) 1=((l.length-1:Nat):Int):=by rw[Wpd (by omega)];omega
 rw[e];refine⟨by rw[Wac];exact decide_eq_true (by omega),by rw[Xj];rfl,by rw[Xj,List.dropLast_eq_take],by simp⟩
theorem WoJ(h:x.marks.length≠0)(hl:x.marks.length<=1000):Zg6 N x.e=some ((x.e,()),(x.last,())):=by
 obtain⟨a,b,c,d⟩:=Wez h hl zRM;unfold Zg6;rw[show x.e.2.2.2.2.2.2.2.2.2.2.2.2.2.2.2.1=x.marks from rfl,a];simp only[cond_true];rw[show((0:Int),((0:Int),((0:Int),((0:Int),([]:List Int)))))=zRM from rfl,b];rfl
theorem WlW(h:x.marks.length≠0)(hl:x.marks.length<=1000):Zdg N x.e=some ((),((x.last.1,(x.last.2.1,(x.last.2.2.1,x.last.2.2.2.1))),())):=by
 obtain⟨a,b,c,d⟩:=Wez h hl zRM;unfold Zdg;simp only[Wz];rw[show P15 x.e=x.marks from rfl,a];simp only[cond_true];rw[show((0:Int),((0:Int),((0:Int),((0:Int),([]:List Int)))))=zRM from rfl,b];rfl
theorem Wlf(hk:k<w.roots.length)(aD:w.roots[k]=x)(hz:x.undos.length≠0)(hl:x.undos.length<=1000)(hu:∀u∈x.undos,UnV u)(hs:ShOk w.shelf)(hN:1048576<N):
  Zcc N w.e k=some (((Wo.put (Wd1 w x) k).e,()),()):=by
 obtain⟨g1,g2,g3,g4,g5⟩:=woG hk aD;obtain⟨a,b,c,d⟩:=Wez hz hl ((0,0,0):Un);have hmem:WhH x.undos ((0,0,0):Un)∈x.undos:=by
  unfold WhH;rw[Wf (show x.undos.length-1<x.undos.length by omega)];exact Xq _
 unfold Zcc Wd1;simp only[Wz];rw[show P5 w.e=w.roots.map Rt.e from rfl,g1];rw[show x.e.2.2.2.2.2.2.2.2.2.2.2.2.2.2.2.2.1=x.undos from rfl,a,b,show w.e.2.2.2.1=w.shelf from rfl,Wic hs (hu _ hmem) hN,c];simp only[cond_true,Xd,d];exact Wc8 rfl rfl rfl
theorem Wrg(hk:k<w.roots.length)(aD:w.roots[k]=x)(mH:k<=1000):Zfr N w.e (k:Int)=some (((Wo.put (Wjh w x k) k).e,()),()):=by
 obtain⟨g1,g2,g3,g4,g5⟩:=woG hk aD;unfold Zfr Wjh;simp only[Wz];rw[show P5 w.e=w.roots.map Rt.e from rfl,g4,g2,WcG (by omega),Xj];simp only[cond_true,Wu];rw[show w.e.2.1=w.token from rfl];by_cases h:w.token=(k:Int)+1
 .rw[if_pos h];simp only[if_pos h];exact Wc8 rfl rfl rfl
 .rw[if_neg h];simp only[if_neg h];exact Wc8 rfl rfl rfl
theorem WlU(hk:k<w.roots.length)(aD:w.roots[k]=x)(mH:k<=8)(hh:HOk w.holds)(jM:0<=x.rv/\x.rv<=1000000)(hr:Wbb x.reads=true)(hw:Wbb x.writes=true){out:Int}(hN:1048576<N):
  Zf4 N w.e (k:Int) out=some (((Wo.put (W6 w x k out) k).e,()),()):=by
 obtain⟨g1,g2,g3,g4,g5⟩:=woG hk aD;obtain⟨r0,r1,r2,r3,r4,r5,r6,r7,r8,km,jy,iF,iG,iX,iY,kZ,la,kn,ko,lb,ld,lg⟩:=rtP x;have tS:=WkQ hh;have uO:∀y:Rt,Zfr N (S5 (Xl (w.roots.map Rt.e) (Xb (k:Int)) y.e) w.e) (k:Int)=some (((Wo.put (Wjh w y k) k).e,()),()):=λy=>by
  rw[Xj,S5e];have h1:k<({w with roots:=w.roots.set k y}:Wo).roots.length:=by simpa using hk
  rw[Wrg (x:=y) h1 (by simp) (by omega)];unfold Wjh Wo.put;simp only[Xdp]
 unfold Zf4 W6;simp only[Wz];rw[show P5 w.e=w.roots.map Rt.e from rfl,g4,g2,WcG (by omega),show P4 w.e=w.holds from rfl];have qs:∀{α:Type} (a b:α),(bif ((0:Int)==(0:Int))then a else b)=a:=λ_ _=>rfl;have zQ:∀{α:Type} (a b:α),(bif ((0:Nat)==(0:Nat))then a else b)=a:=λ_ _=>rfl;simp only[qs,zQ];simp only[cond_true,Wu,r4,iF,iG,WiD (who:=(k:Int)+1) hh (by omega) hN,ret,Xd,Wb];have re:∀rows,Wbb rows=true->Zd1 N ((k:Int)+1) x.rv rows x.reads=some ((),((Wa5 ((k:Int)+1) x.rv rows x.reads).e,(true,()))):=λrows lP=>Wva (by omega) jM lP hr hN;have bB:Zd1 N ((k:Int)+1) x.rv ([]:List Kc) x.reads=some ((),((Wa5 ((k:Int)+1) x.rv [] x.reads).e,(true,()))):=re [] rfl;have ay:(S8 x.rv (S7 out x.e))=Rt.e {x with fate:=out,stamp:=x.rv}:=rfl;rw[bB,re _ hw,ay,uO];simp only[Xd];by_cases ho:out=2
 .rw[if_pos ho,if_pos ho];by_cases hz:(WfJ w.holds ((k:Int)+1)).length=0
  .rw[if_pos (by omega),if_pos ⟨rfl,hz⟩]
  .rw[if_neg (by omega),if_neg (λh=>hz h.2),Xj];exact Wc8 rfl rfl rfl
 .rw[if_neg ho,if_neg ho];by_cases hy:x.writes.length=0
  .rw[if_pos (by omega)];by_cases hz:(WfJ w.holds ((k:Int)+1)).length=0
   .rw[if_pos (by omega),if_pos ⟨hy,hz⟩]
   .rw[if_neg (by omega),if_neg (λh=>hz h.2),Xj];exact Wc8 rfl rfl rfl
  .rw[if_neg (by omega),if_neg (λh=>hy h.1),Xj];exact Wc8 rfl rfl rfl
theorem Wni{l:List Rw}(h:Wi1 l)(hl:l.length<=300):Wbb l=true:=by
 unfold Wbb;rw[Wkc.2 h,decide_eq_true hl];rfl
theorem WfU(hc:CC code):∀j,j<=code.length->frk code j<=1
 |0,_=>by simp[frk]
 |j+1,h=>by
  have hj:j<code.length:=by omega
  by_cases dg:code[j].1=11
  .exact(hc.fk j hj dg).2
  .rw[Wd2 hj,show(code[j].1==11)=false by simpa using dg];have:=WfU hc j (by omega);simpa using this
theorem RLive.sz(hc:CC p.1)(h:RLive p n x):x.reads.length<=96/\x.writes.length<=32/\x.undos.length<=24/\x.marks.length<=24/\Wbb x.reads=true/\Wbb x.writes=true:=by
 have h1:=h.pc;have h2:=hc.len;have h3:=WfU hc x.pc.toNat (by omega);have h4:=h.rl;have h5:=h.wl;have h6:=h.ul;have h7:=congrArg Xa h.marks.pcs;simp only[Xaf]at h7;have h8:=WbE hc.up x.pc.toNat (by omega);have h9:=(Wdq p.1 x.pc.toNat).2;exact⟨by omega,by omega,by omega,by omega,Wni h.reads (by omega),Wni h.writes (by omega)⟩
theorem Wq1(hb:x.busy=true->Wlp x.pb=true){c:Int}(hc:0<=c/\c<=7):Wlp (if x.busy then x.pb else(c,0,0,0))=true:=by
 split
 .exact hb ‹_›
 .rw[WeY];simp only;omega
theorem WtN(hk:k<w.roots.length)(aD:w.roots[k]=x)(hc:CC p.1)(hx:RLive p n x)(hm:WY w.mem=true)(h5:o.1=5)(ho:Was o=true)(hN:1048576<N):
  Zif N w.e k o=some (((Wo.put (w,Wci w x o) k).e,()),()):=by
 obtain⟨g1,g2,g3,g4,g5⟩:=woG hk aD;obtain⟨r0,r1,r2,r3,r4,r5,r6,r7,r8,km,jy,iF,iG,iX,iY,kZ,la,kn,ko,lb,ld,lg⟩:=rtP x;obtain⟨z1,z2,z3,z4,z5,z6⟩:=hx.sz hc;obtain⟨hA,hB⟩:=Wwb ho h5;have hB':0<=o.2.2.1/\o.2.2.1<=7:=by unfold W7 at hB;simpa using hB
 have cZ:=hx.regs.len;have aF:=hx.pc;have hcl:=hc.len;have jD:=hx.spare;unfold Zif Wci;simp only[Wz];rw[show P5 w.e=w.roots.map Rt.e from rfl,g1,show w.e.2.2.1=w.mem from rfl];simp only[r3,r4,jy,iF,iG,kZ,la];rw[Wey (by omega) hN,Wa9 hA cZ,WcG (by omega)];cases hl:Wbc x.writes o.2.2.1 with
 |some v=>
  simp only[opI,Xd,cond_true];exact Wc8 rfl rfl rfl
 |none=>
  have aq:WG (x.reads.length+ [(o.2.2.1,(0:Int))].length)=true:=WC (by simp;omega);have lO:Zeq N o.2.2.1=some ((),((o.2.2.1,0,0,0),(true,()))):=by
   unfold Zeq;rw[Wm,hB];rfl
  have hQ:=Wq1 hx.pb hB';have tm:S18 true x.e=Rt.e {x with busy:=true}:=rfl;simp only[opI,Xd,cond_false,Wu,lO,tm];have dR:∀q:Pb,S19 q (Rt.e {x with busy:=true})=Rt.e {x with busy:=true,pb:=q}:=λq=>rfl;simp only[dR,Wex (x:={x with busy:=true,pb:=_}) jD];cases hb:x.busy with
  |false=>
   rw[hb]at hQ;simp only[Xbi,if_false]at hQ;rw[We3 hm hQ hN];simp only[Xdl,cond_true,ret,Xd,Xbi,if_false];generalize WV w.mem x.rv (o.2.2.1,0,0,0)=q;by_cases h4:q.2.1=4
   .rw[if_pos h4,if_pos h4];exact Wc8 rfl rfl rfl
   .rw[if_neg h4,if_neg h4];by_cases h3:q.2.1=3
    .rw[if_pos h3,if_pos h3,WC (by simp;omega)];exact Wc8 rfl rfl rfl
    .rw[if_neg h3,if_neg h3];exact Wc8 rfl rfl rfl
  |true=>
   have bj:∀q:Pb,S19 q x.e=Rt.e {x with busy:=true,pb:=q}:=λq=>by
    have:S19 q x.e=Rt.e {x with pb:=q}:=rfl;rw[this]
    conv=>lhs;rw[show({x with pb:=q}:Rt)={x with busy:=x.busy,pb:=q}from rfl,hb]
   rw[hb]at hQ;simp only[if_true]at hQ;rw[We3 hm hQ hN];simp only[Xab,cond_false,ret,Xd,if_true,bj,Wex (x:={x with busy:=true,pb:=_}) jD];generalize WV w.mem x.rv x.pb=q;by_cases h4:q.2.1=4
   .rw[if_pos h4,if_pos h4];exact Wc8 rfl rfl rfl
   .rw[if_neg h4,if_neg h4];by_cases h3:q.2.1=3
    .rw[if_pos h3,if_pos h3,WC (by simp;omega)];exact Wc8 rfl rfl rfl
    .rw[if_neg h3,if_neg h3];exact Wc8 rfl rfl rfl
end
end Go.Sx
