/- Plain laws of the Lean functions. -/
import Derived.Test.YtnkbflecplbceaaGreatMW1
open Bool renaming and_eq_true→Xh,not_true→Xab,and_self→Xbu,true_and→Xbq,false_eq_true→Xbm,and_eq_false_iff→Xcn,not_false→Xdm
open List renaming getElem_mem→Xx,getD→Xd,map_append→Xp,mem_append→Xm,mem_singleton→Xac,pairwise_append→Xag,length→Xa,length_map→Xaj,mem_of_getElem?→Xay,take→Xau,getElem?_eq_getElem→Xq,foldl_cons→Xdh,length_cons→Xr,mem_cons_of_mem→Xf,mem_cons_self→Xi,drop_length→Xdp,set→Xl,drop_eq_getElem_cons→Xcc,append_eq→Xaf,append_nil→Xcy,filter_cons→Xbi,countP_le_length→Xdv,drop_zero→Xce,map_set→Xfs,set_getElem_self→Xbe,length_set→Xaa,countP_set→Xhe,getElem_set→Xam,mem_map→Xu,mem_filter→Xar,length_append→Xz,length_singleton→Xdw,length_nil→Xeh,pairwise_map→Xel,getElem_replicate→Xbg,append_assoc→Xbv,singleton_append→Xeo,append→Xe,set_set→Xdo,nil_append→Xca,replicate→Xt,getD_eq_getElem?_getD→Xbc,all_eq_true→Xae,pairwise_iff_getElem→Xav,getElem_of_mem→Xaq,mem_cons→Xo,drop→Xdd,filter_eq_self→Xgk
open Int renaming toNat→Xb,le_refl→Xv,toNat_natCast→Xj,tdiv_eq_ediv_of_nonneg→Xef
open Nat renaming zero_add→Xaw,sub_zero→Xdc,le_refl→Xn,lt_trichotomy→Xda
open Option renaming bind_some→Xc,getD_some→Xdz,isSome_some→Xfh
namespace Go.Sx
set_option linter.unusedVariables false
set_option linter.unusedSimpArgs false
section
theorem We7{p:Pb}:Wll p=true↔(0<=p.1/\p.1<=7)/\(0<=p.2.1/\p.2.1<=4)/\(0<=p.2.2.1/\p.2.2.1<=1000000)/\0<=p.2.2.2/\p.2.2.2<=65535:=by
 unfold Wll W5 Wbi;simp only[Xh,decide_eq_true_eq]
theorem Wdt{c:Int}{w:Wd}:Wp5 c w=true↔(0<=w.1/\w.1<=65535)/\(0<=w.2.1/\w.2.1<=c)/\0<=w.2.2/\w.2.2<=99:=by
 unfold Wp5 Wbi;simp only[Xh,decide_eq_true_eq]
theorem WrV{m:Mm}(h:WZ m=true){c:Int}(hc:0<=c/\c<=7):Wp5 m.1 (WbL m.2 c (0,0,0))=true:=by
 obtain⟨h8,h0,h1,hw⟩:=WD h;unfold WbL;rw[Wf (show c.toNat<m.2.length by omega)];exact hw _ (Xx _)
theorem WmL{m:Mm}{rv:Int}{p:Pb}(hm:WZ m=true)(hp:Wll p=true):Wll (W0 m rv p)=true/\(W0 m rv p).1=p.1:=by
 have cQ:=We7.1 hp;have hw:=WrV hm cQ.1;rw[Wdt]at hw;obtain⟨h8,h0,h1,_⟩:=WD hm;unfold W0;simp only[Wu,Wav];have xN:Wp5 m.1 (Xd m.2 (Xb p.1) (0,0,0))=true:=WrV hm cQ.1;rw[Wdt]at xN;refine⟨?_,?_⟩
 .rw[We7]
  repeat' split
  all_goals(try simp only);omega
 .repeat' split
  all_goals rfl
section
variable{code:List Opn}{pc cF wl kJ:Nat}{ms q:List KM}{y:KM}{c c' n n':Int}{x:Kd}{f:Fm}{m:Mm}{codes:List (List Opn)}{k:Nat}
theorem KMk.mono(h:KMk code pc ms wl)(hs:stk code cF=stk code pc)(hw:wl<=kJ):KMk code cF ms kJ:=
 ⟨by rw[hs];exact h.pcs,λq hq=>by have:=h.each q hq;exact⟨this.1,this.2.1,this.2.2.1,by omega⟩,h.up⟩
theorem KMk.begin(h:KMk code pc ms wl)(hp:pc<code.length)(h8:code[pc].1=8){regs:List Int}(hr:Vals 4 regs)(hw:wl<=pc):KMk code (pc+1) (ms++ [((pc:Int),(wl:Int),regs)]) wl:=by
 refine⟨?_,?_,?_⟩
 .rw[Wjj hp h8,Xp,Xp,h.pcs];rfl
 .intro q hq;rcases Xm.1 hq with hq|hq
  .exact h.each q hq
  .rw[Xac]at hq;subst hq;exact⟨hr,by simp,by simpa using hw,by simp⟩
 .refine Xag.2 ⟨h.up,List.pairwise_singleton _ _,λa ha b hb=>?_⟩;rw[Xac]at hb;subst hb;exact(h.each a ha).2.2.2
theorem KMk.drop(h:KMk code pc ms wl)(qN:ms=q++ [y])(hs:stk code cF=(stk code pc).dropLast)(hw:y.2.1<=kJ):KMk code cF q kJ:=by
 subst qN;have h1:=h.pcs;refine⟨?_,λa ha=>?_,(Xag.1 h.up).1⟩
 .rw[hs,List.map_dropLast,←h1,Xp];simp
 .have h2:=h.each a (List.mem_append_left _ ha);have h3:=(Xag.1 h.up).2.2 a ha y (by simp);exact⟨h2.1,h2.2.1,h2.2.2.1,by omega⟩
theorem KOk.wk(h:KOk code c n x)(hc:c<=c')(hn:n<=n'):KOk code c' n' x:=
 {h with since:=by have:=h.since;omega,tries:=by have:=h.tries;omega}
theorem WoY(h:KOk code c n x)(hc:c=f.clock)(hf:Vals 4 f.regs)(h0:0<=f.clock):KOk code c (n+1) (f.again x) where
 pc:=⟨Xv _,by show(0:Int)<=_;omega⟩
 regs:=hf
 rows:=λr hr=>by cases hr
 wl:=Xv _
 sl:=Xv _
 since:=by show 0<=f.clock/\f.clock<=c;omega
 tries:=by have:=h.tries;show 0<=x.tries+1/\x.tries+1<=n+1;omega
 seen:=λe he=>by cases he
 marks:=λ_=>⟨by show([]:List KM).map _=(stk code 0).map _;rfl,(λq hq=>by cases hq),List.Pairwise.nil⟩
 pos:=⟨Xv _,Xv _⟩
 pb:=λh=>by cases h
 phase:=by show(0:Int)<=0/\(0:Int)<=3;omega
 out:=by show(0:Int)<=0/\(0:Int)<=2;omega
theorem KMk.len(hc:CC code)(h:KMk code pc ms wl)(hp:pc<=code.length):(ms.length:Int)=dep code pc:=by
 have:=congrArg Xa h.pcs;simp only[Xaj]at this;rw[this,WbI hc.up pc hp]
theorem KOk.on(aD:CC code)(h:KOk code c n x)(h0:x.phase=0){i:Nat}(hi:i<code.length)(aS:x.pc=i){regs:List Int}{seen:List En}{writes:List Rw}{marks:List KM}{busy:Bool}{pb:Pb}{cF:Nat}(hp:cF<=code.length)(hlt:i<cF)(hr:Vals 4 regs)(hrow:Wi5 writes)(pR:writes.length<=x.writes.length+1)(hsl:seen.length<=x.seen.length+1)
  (hs:∀e∈seen,(0<=e.1/\e.1<=7)/\(0<=e.2.1/\e.2.1<=65535)/\ -1<=e.2.2/\e.2.2<=x.since) (hse:x.seen.length<=seen.length) (hm:KMk code cF marks writes.length) (hb:busy=true->Wll pb=true):
  KOk code c n {x with regs:=regs,seen:=seen,writes:=writes,marks:=marks,busy:=busy,pb:=pb,pc:=(cF:Int)}:=
 {h with
  pc:=by show(0:Int)<=(cF:Int)/\(cF:Int)<=_;omega
  regs:=hr
  rows:=hrow
  wl:=by have:=h.wl;show(writes.length:Int)<=(cF:Int);omega
  sl:=by have:=h.sl;show(seen.length:Int)<=(cF:Int);omega
  seen:=hs
  marks:=λ_=>by show KMk code ((cF:Nat):Int).toNat marks writes.length;rw[Xj];exact hm
  pos:=by have:=h.pos;show 0<=x.pos/\x.pos<=(seen.length:Int);omega
  pb:=hb}
theorem Wud(aD:CC code)(hF:FOk codes n f)(h:KOk code f.clock n x)(h0:x.phase=0){i:Nat}(hi:i<code.length)(aS:x.pc=i)(h5:code[i].1=5)(hm:WZ m=true):
  KOk code f.clock (n+1) (Wec m f x code[i]).2/\((Wec m f x code[i]).1=f\/(Wec m f x code[i]).1={f with lost:=true}):=by
 have aH:=WvX (aD.ok i hi).1 h5;have hB:0<=code[i].2.2.1/\code[i].2.2.1<=7:=by have:=aH.2;unfold W5 at this;simpa using this
 have hM:=h.marks h0;rw[aS,Xj]at hM;have aQ:stk code (i+1)=stk code i:=Wgh hi (by omega) (by omega);have bX:x.pc+1=((i+1:Nat):Int):=by omega
 unfold Wec;cases hl:Wbk x.writes code[i].2.2.1 with
 |some v=>
  have hv:=h.rows _ (Wih hl).2;refine⟨?_,.inl rfl⟩;simp only[bX];exact(KOk.on aD h h0 hi aS (by omega) (by omega) (h.regs.set _ hv.2) h.rows (by omega) (by omega) h.seen (by omega) (hM.mono aQ (by omega)) h.pb).wk (by omega) (by omega)
 |none=>
  simp only;cases he:ent f.buf code[i].2.2.1 with
  |some r=>
   simp only;have hr:=WcU he;have mH:r.2∈f.buf:=by
    have:=hr.2.2.2;exact Xay this
   have ie:=hF.bufE _ mH;split
   .exact⟨WoY h rfl hF.regs hF.clock.1,.inl rfl⟩
   .refine⟨?_,.inl rfl⟩;simp only[bX];refine(KOk.on aD h h0 hi aS (by omega) (by omega) (h.regs.set _ ie.2.1) h.rows (by omega) (by simp) (λe c9=>?_) (by simp) (hM.mono aQ (by omega)) h.pb).wk (by omega) (by omega);rcases Xm.1 c9 with c9|c9
    .exact h.seen e c9
    .rw[Xac]at c9;subst c9;exact⟨ie.1,ie.2.1,by omega,by omega⟩
  |none=>
   simp only;have gU:Wll (if x.busy=true then x.pb else(code[i].2.2.1,0,0,0))=true:=by
    split
    .exact h.pb ‹_›
    .rw[We7];simp only;omega
   have bQ:=WmL (rv:=f.rv) hm gU;generalize W0 m f.rv (if x.busy=true then x.pb else(code[i].2.2.1,0,0,0))=p at*;have hp:=We7.1 bQ.1;split
   .refine⟨?_,.inr rfl⟩;exact KOk.wk (n:=n) {h with pb:=λ_=>bQ.1} (by omega) (by omega)
   .split
    .refine⟨?_,.inl rfl⟩;simp only[bX];refine(KOk.on aD h h0 hi aS (by omega) (by omega) (h.regs.set _ hp.2.2.2) h.rows (by omega) (by simp) (λe c9=>?_) (by simp) (hM.mono aQ (by omega)) (λh=>by cases h)).wk (by omega) (by omega);rcases Xm.1 c9 with c9|c9
     .exact h.seen e c9
     .rw[Xac]at c9;subst c9;exact⟨hB,hp.2.2.2,by simp,by have:=h.since;simp only;omega⟩
    .refine⟨?_,.inl rfl⟩;exact KOk.wk (n:=n) {h with pb:=λ_=>bQ.1} (by omega) (by omega)
theorem WvA(bg:KC code)(hF:FOk codes n f)(h:KOk code f.clock n x)(h0:x.phase=0)(hm:WZ m=true):
  KOk code f.clock (n+1) (WqG m f x code).2/\((WqG m f x code).1=f\/(WqG m f x code).1={f with lost:=true}):=by
 have aD:=bg.toCC;unfold WqG;split
 .refine⟨?_,.inl rfl⟩;exact KOk.wk (n:=n) {h with marks:=λh=>by(change (1:Int)=0 at h;omega),phase:=by(show(0:Int)<=1/\(1:Int)<=3;omega),out:=by(show(0:Int)<=1/\(1:Int)<=2;omega)} (by omega) (by omega)
 .obtain⟨i,hi,aS,ho⟩:=Wft (l:=code) h.pc.1 (by have:=h.pc;omega);simp only[ho];obtain⟨ok,o1,iT⟩:=bg.ok i hi;have ca:=bg.k10 i hi;have hM:=h.marks h0;rw[aS,Xj]at hM;have bX:x.pc+1=((i+1:Nat):Int):=by omega
  have pR:x.writes.length<=i:=by have:=h.wl;omega
  split
  .exact Wud aD hF h h0 hi aS ‹_› hm
  .split
   .refine⟨?_,.inl rfl⟩;unfold Wh1;split
    .refine KOk.wk (n:=n) {h with rows:=(λr hr=>by cases hr),wl:=by(have:=h.pc;show(0:Int)<=x.pc;omega),marks:=λh=>by(change (1:Int)=0 at h;omega),phase:=by(show(0:Int)<=1/\(1:Int)<=3;omega),out:=by(show(0:Int)<=2/\(2:Int)<=2;omega)} (by omega) (by omega)
    .obtain⟨j,q,y,e1,e2,e3,⟨hj,h8⟩,pQ,cO,gg,e5,e6⟩:=Whf (d:=((0,0,[]):KM)) aD (show i<=code.length by omega) hM.pcs ‹_›;obtain⟨y1,y2,y3,y4⟩:=hM.each y (by rw[e1];simp);simp only[e2,e3,Xj,←Int.natCast_succ];have hl:=cO.len;have ht:(Xau y.2.1.toNat x.writes).length=y.2.1.toNat:=by rw[List.length_take];omega
     refine(KOk.on aD h h0 hi aS (cF:=Wie code j+1) (by omega) (by omega) (y1.set _ (by omega)) (λr hr=>h.rows r (List.mem_of_mem_take hr)) (by omega) (by omega) h.seen (by omega) ?_ h.pb).wk (by omega) (by omega);rw[show x.marks.dropLast=q by rw[e1];simp];exact hM.drop e1 (by rw[cO.st];exact e5) (by rw[ht];omega)
   .split
    .refine⟨?_,.inl rfl⟩;have hk:=WwQ ok ‹_›;have aQ:stk code (i+1)=stk code i:=Wgh hi (by omega) (by omega);simp only[bX];refine(KOk.on aD h h0 hi aS (by omega) (by omega) h.regs (λr hr=>?_) (by simp) (by omega) h.seen (by omega) (hM.mono aQ (by simp)) h.pb).wk (by omega) (by omega);rcases Xm.1 hr with hr|hr
     .exact h.rows r hr
     .rw[Xac]at hr;subst hr;have:=hk.1;unfold W5 at this;exact⟨by simpa using this,h.regs.get _⟩
    .split
     .refine⟨?_,.inl rfl⟩;obtain⟨s1,s2⟩:=bg.sk i hi ‹_›;have hk:=WvV ok ‹_›;have aQ:stk code (i+1)=stk code i:=Wgh hi (by omega) (by omega);have pT:stk code (i+1+code[i].2.2.1.toNat)=stk code i:=by rw[←aQ];exact Wpp (by omega) s1 s2
      by_cases hg:WbL x.regs code[i].2.1 0=0
      .simp only[if_pos hg,show x.pc+code[i].2.2.1+1=((i+1+code[i].2.2.1.toNat:Nat):Int) by omega];exact(KOk.on aD h h0 hi aS s1 (by omega) h.regs h.rows (by omega) (by omega) h.seen (by omega) (hM.mono pT (by omega)) h.pb).wk (by omega) (by omega)
      .simp only[if_neg hg,bX];exact(KOk.on aD h h0 hi aS (by omega) (by omega) h.regs h.rows (by omega) (by omega) h.seen (by omega) (hM.mono aQ (by omega)) h.pb).wk (by omega) (by omega)
     .split
      .refine⟨?_,.inl rfl⟩;simp only[bX];rw[aS];exact(KOk.on aD h h0 hi aS (by omega) (by omega) h.regs h.rows (by omega) (by omega) h.seen (by omega) (hM.begin hi ‹_› h.regs pR) h.pb).wk (by omega) (by omega)
      .split
       .refine⟨?_,.inl rfl⟩;have hz:x.marks.length≠0:=by
         have h1:=hM.len aD (by omega);have h3:=aD.up i hi;rw[WaF hi,Wlp ‹_›]at h3;omega
        obtain⟨j,q,y,e1,e2,e3,⟨hj,h8⟩,pQ,cO,gg,e5,e6⟩:=Whf (d:=((0,0,[]):KM)) aD (show i<=code.length by omega) hM.pcs hz;obtain⟨y1,y2,y3,y4⟩:=hM.each y (by rw[e1];simp);simp only[bX];refine(KOk.on aD h h0 hi aS (by omega) (by omega) (h.regs.set _ (by omega)) h.rows (by omega) (by omega) h.seen (by omega) ?_ h.pb).wk (by omega) (by omega);rw[show x.marks.dropLast=q by rw[e1];simp];exact hM.drop e1 (Wkn hi ‹_›) (by omega)
       .refine⟨?_,.inl rfl⟩;have aQ:stk code (i+1)=stk code i:=Wgh hi (by omega) (by omega);simp only[bX];exact(KOk.on aD h h0 hi aS (by omega) (by omega) (WkD ok (by omega) (by omega) h.regs) h.rows (by omega) (by omega) h.seen (by omega) (hM.mono aQ (by omega)) h.pb).wk (by omega) (by omega)
end
end
section
def WfV(c:Int)(v:List En)(r:Rw):List En:=match ent v r.1 with
 |some a=>v.set a.1 (r.1,r.2,c)
 |none=>v++ [(r.1,r.2,c)]
theorem WlO(c:Int)(v:List En)(r:Rw):(WfV c v r).length<=v.length+1:=by
 unfold WfV;split<;>simp
theorem apE{a b:En}:Ap cfE a b↔a.1≠b.1:=by unfold Ap cfE;omega
theorem WrS{c:Int}{L M:List En}{r:Rw}(hL:L.Pairwise (Ap cfE))(hM:Ris cfE M)(hm:∀x,x∈L↔x∈M):
  (WfV c L r).Pairwise (Ap cfE)/\Ris cfE (WfJ cfE M (r.1,r.2,c))/\∀x,x∈WfV c L r↔x∈WfJ cfE M (r.1,r.2,c):=by
 have key:(WfV c L r).Pairwise (Ap cfE)/\∀x,x∈WfV c L r↔x=(r.1,r.2,c)\/(x∈L/\Ap cfE x (r.1,r.2,c)):=by
  unfold WfV ent;cases he:fnd (λe:En=>e.1==r.1) L 0 with
  |some a=>
   obtain⟨h1,h2,h3,h4⟩:=WcU he;simp only[Xaw,Xdc]at h3 h4;have h5:L[a.1]=a.2:=by rw[Xq h3]at h4;injection h4
   exact WmD WvC hL h3 (by rw[apE,h5];simpa using h1)
  |none=>
   have:=WhQ he;exact Wjp hL λx hx=>by rw[apE];simpa using this x hx
 refine⟨key.1,WcN WvC hM,λx=>?_⟩;rw[key.2 x,Wbu WvC hM,hm]
theorem Wsv{c:Int}:∀{rows:List Rw} {L M:List En},L.Pairwise (Ap cfE)->Ris cfE M->(∀x,x∈L↔x∈M)->
  (rows.foldl (WfV c) L).Pairwise (Ap cfE)/\Ris cfE (WdN c M rows)/\∀x,x∈rows.foldl (WfV c) L↔x∈WdN c M rows
 | [],_,_,hL,hM,hm=>⟨hL,hM,hm⟩
 |r::rows,L,M,hL,hM,hm=>by
  obtain⟨a,b,d⟩:=WrS (c:=c) (r:=r) hL hM hm;exact Wsv (rows:=rows) a b d
theorem Wm9{c:Int}:∀(rows:List Rw) (L:List En),(rows.foldl (WfV c) L).length<=L.length+rows.length
 | [],L=>by simp
 |r::rows,L=>by
  have:=Wm9 (c:=c) rows (WfV c L r);have:=WlO c L r;rw[Xdh,Xr];omega
theorem Weu{c:Int}{P:En->Prop}:∀{rows:List Rw} {M:List En},Ris cfE M->(∀x∈M,P x)->(∀r∈rows,P (r.1,r.2,c))->∀x∈WdN c M rows,P x
 | [],_,_,h,_=>h
 |r::rows,M,hM,h,hr=>by
  refine Weu (rows:=rows) (WcN WvC hM) (λx hx=>?_) λr' h'=>hr r' (Xf _ h');rcases(Wbu WvC hM).1 hx with rfl|h'
  .exact hr r (Xi ..)
  .exact h x h'.1
theorem Wpu{R:Type}{N:Nat}{k4:Int}{b7 b8 b9:Int}{aI:Bool}{aU bK bM dE cT bf:Int}{il:Bool}{db dI dF im:Int}{bU:List Kc}{cM:List Int}{dc:List Kc}{io:List Int}{cY:List Kc}{fR:List Y_KidRun}{ip:Nat}{fS:List Int}{fT:List Kb}{fU:List Kc}{cZ:List Kk}{K0:Int->Bool->Kr->Option R}(hN:1048576<N)(vS:bU.length<=8):
  ∀(d j n:Nat) (v:List En),j+d=bU.length->d<n->v.length<=100+j->
  Zax N k4 (Wb bU) b7 b8 b9 aI aU bK bM dE cT bf il db dI dF im bU cM dc io cY fR ip fS fT fU cZ K0 n (j:Int) v=K0 (bU.length:Int) false ((bU.drop j).foldl (WfV b8) v)
 |0,j,n+1,v,hj,hn,hv=>by
  have:j=bU.length:=by omega
  subst this;simp only[Zax,Waw (Xn bU.length),cond_false,Xdp,List.foldl_nil]
 |d+1,j,n+1,v,hj,hn,hv=>by
  have hlt:j<bU.length:=by omega
  have ml:=WfQ (N:=N) (f:=(b7,(b8,(b9,(aI,(cM,(dc,(v,(io,(cY,Xl fR ip (aU,(bK,(bM,(dE,(cT,(bf,(fS,(fT,(fU,(cZ,(il,(db,(dI,(dF,im)))))))))))))))))))))))) (c:=bU[j].1) (by show v.length<=1048576;omega) hN;have hs:=WlO b8 v bU[j];have aW:∀v',v'=WfV b8 v bU[j]->Zax N k4 (Wb bU) b7 b8 b9 aI aU bK bM dE cT bf il db dI dF im bU cM dc io cY fR ip fS fT fU cZ K0 n ((j+1:Nat):Int) v'=K0 (bU.length:Int) false ((bU.drop j).foldl (WfV b8) v):=λv' zu=>by
   subst zu;rw[Wpu hN vS d (j+1) n _ (by omega) (by omega) (by omega),Xcc hlt,Xdh]
  simp only[Zax,Wt,Waf hlt,Wn hlt,Wq hlt,Wg (show j<4611686018427387904 by omega),cond_true,ml,ret,Xc];have hd:ent v bU[j].1=ent v bU[j].1:=rfl;unfold WfV at aW;cases he:ent v bU[j].1 with
  |some a=>
   rw[he]at aW;obtain⟨h1,h2,h3,h4⟩:=WcU he;rw[Xaw]at h3;simp only[decide_eq_true (show((a.1:Int)>=0) by omega),cond_true];rw[W7,decide_eq_true h3];simp only[cond_true,Xj];exact aW _ rfl
  |none=>
   rw[he]at aW;simp only[show decide ((-1:Int)>=0)=false from rfl,cond_false];rw[Ws (by simp;omega)];simp only[cond_true,Xaf];exact aW _ rfl
 |_,_,0,_,_,h,_=>by omega
theorem WkF{R:Type}{N:Nat}{jC cH eY eZ:Int}{fa:Bool}{fb fo fq fu fv jE:Int}{jF:Bool}{jG jH jI jJ:Int}{de:List Kb}{jK:List Int}{jL:List Kc}{jM:List Kb}{jN:List Int}{jO:List Y_KidRun}{jP:Nat}{fe:List Int}{ff:List Kc}{fg:List Kk}{K0:Int->Bool->Kw->Option R}(xO:de.length<=1000):
  ∀(d j n:Nat) (v:List Rw),j+d=de.length->d<n->v.length<=1000+j->
  Za6 N jC (Wb de) cH eY eZ fa fb fo fq fu fv jE jF jG jH jI jJ de jK jL jM jN jO jP fe ff fg K0 n (j:Int) v=K0 (de.length:Int) false (v++Wbe (de.drop j))
 |0,j,n+1,v,hj,hn,hv=>by
  have:j=de.length:=by omega
  subst this;simp only[Za6,Waw (Xn de.length),cond_false,Xdp,Wbe,List.filter_nil,List.map_nil,Xcy]
 |d+1,j,n+1,v,hj,hn,hv=>by
  have hlt:j<de.length:=by omega
  have he:Wbe (de.drop j)=if de[j].2.2= -1 then(de[j].1,de[j].2.1)::Wbe (de.drop (j+1))else Wbe (de.drop (j+1)):=by
   rw[Xcc hlt];unfold Wbe;rw[Xbi];by_cases h:de[j].2.2= -1
   .rw[if_pos h,if_pos (decide_eq_true h)];rfl
   .rw[if_neg h,if_neg (by simpa using h)]
  simp only[Za6,Wt,Waf hlt,Wn hlt,Wq hlt,Wg (show j<4611686018427387904 by omega),cond_true,Wu];rw[he];by_cases h:de[j].2.2= -1
  .rw[if_pos h,if_pos h,Ws (by simp;omega)];simp only[cond_true];rw[WkF xO d (j+1) n _ (by omega) (by omega) (by simp;omega)];simp
  .rw[if_neg h,if_neg h];rw[WkF xO d (j+1) n _ (by omega) (by omega) (by omega)]
 |_,_,0,_,_,h,_=>by omega
variable{N:Nat}{codes:List (List Opn)}{n:Int}{f:Fm}{k:Nat}{code:List Opn}{m:Mm}{x:Kd}
theorem Wv9{l:List En}(h:Ris cfE l):l.Pairwise (Ap cfE):=h.imp λh=>.inl h
theorem Wk4(hk:k<f.kids.length)(h3:f.kids.length<=3)(mn:code.length<=24)(hF:FOk codes n f)(aM:codes.getD k []=code)(aC:f.kids[k]=x)(hN:1048576<N):
  Zdj N f.e (k:Int)=some (((Fm.put (Wdf f x k) k).e,()),()):=by
 have hx:=hF.kid k hk;rw[aM,aC]at hx;obtain⟨f0,f1,f2,f3,f4,f5,f6,f7,f8,f9⟩:=fmP f;have aS:=hx.pc;have pR:=hx.wl;have hsl:=hx.sl;have hb8:=hF.buf8;have pU:f.order.length<=3:=by
  have h1:=hF.done;have:=Xdv (p:=λx:Kd=>decide (x.phase=3)) (l:=f.kids);omega
 have nc:=hF.readsL;have e2:Xd (f.kids.map Kd.e) (Xb (k:Int)) d_KidRun=x.e:=by
  have:=Wgm Kd.e f.kids k {};rw[Wf hk,aC]at this;exact this
 unfold Zdj;simp only[f9,Xaj];rw[W7,decide_eq_true hk];simp only[cond_true,e2];have en:Zf7 N x.e.2.2.2.2.2.2.2.2.1=ret (Wc3 x.writes):=WdI (show x.writes.length<=1048576 by omega) hN;rw[en];simp only[ret,Xc];have iH:=Wgr x.writes;rw[show(0:Int)=((0:Nat):Int)from rfl];rw[Wpu (bU:=Wc3 x.writes) hN iH (Wc3 x.writes).length 0 N _ (by omega) (by omega) (by show f.buf.length<=_;omega)];simp only[Xce];have hP6:P6 f.e=f.buf:=rfl;have hcl:We .i64 f.e.2.1 1=f.clock+1:=WcG (by have:=hF.clock;show 0<=f.clock/\_;omega);rw[hP6,hcl];obtain⟨i1,i2,i3⟩:=Wsv (c:=f.clock+1) (rows:=Wc3 x.writes) (Wv9 hF.bufR) hF.bufR (λx=>Iff.rfl);unfold Zam;have gi:=Wm9 (c:=f.clock+1) (Wc3 x.writes) f.buf;rw[WoE (rng:=Wv2) (N:=N) WvC i2 i1 i3 (λe he=>?_) (by omega)]
 .simp only[Xc];have hP7:P7 x.e=x.seen:=rfl;rw[show(Kd.e x).2.2.2.2.2.2.2.1=x.seen from rfl];rw[WkF (de:=x.seen) (by omega) x.seen.length 0 N _ (by omega) (by omega) (by show f.reads.length<=_;omega)];rw[Ws (by show f.order.length+1<=_;omega)];simp only[cond_true,Xce];have hU:∀(g:Fm) (y:Kd),U6 (Xl (f.kids.map Kd.e) k y.e) (S5 (f.reads++Wbe x.seen) (S4 (f.order++ [(k:Int)]) (S3 (WdN (f.clock+1) f.buf (Wc3 x.writes)) f.e.2.2.2)))=(f.lost,f.regs,f.start,WdN (f.clock+1) f.buf (Wc3 x.writes),f.order++ [(k:Int)],f.reads++Wbe x.seen,(f.kids.set k y).map Kd.e):=λg y=>by
   rw[Xfs];rfl
  rw[Xj];exact congrArg (λz=>some (((f.rv,(f.clock+1,((0:Int),z))),()),())) (hU f {x with phase:=3,pos:=0,marks:=[]})
 .have h1:=(i3 e).1 he;have:=Weu (P:=λe=>0<=e.1/\e.1<=7) hF.bufR (λe he=>(hF.bufE e he).1) (λr hr=>(WoD.1 hr).1) e h1;unfold Wv2 WuE;simp;omega
theorem WmW(hk:k<f.kids.length)(hF:FOk codes n f)(hx:KOk code f.clock n x)(aC:f.kids[k]=x)(hn:n<=100000)(o:Int):
  Zbh N (Fm.e {f with owner:=o}) (k:Int)=some (((Fm.put ({f with owner:=o},f.again x) k).e,()),()):=by
 have h:=WeF (N:=N) (f:=Fm.e {f with owner:=o}) (k:=k) (x:=x.e) (by show k<(f.kids.map Kd.e).length;simpa using hk) hF.regs.len (by have:=hx.tries;show 0<=x.tries/\x.tries<=100000;omega);have e3:U9 (Xl (Q9 (Fm.e {f with owner:=o})) k x.e) (Fm.e {f with owner:=o})=Fm.e {f with owner:=o}:=by
  have:=U9e {f with owner:=o} k x;rw[←aC]at this;simp only[Xbe]at this;rw[←aC];exact this
 rw[e3]at h;rw[h];exact congrArg (λz=>some ((z,()),())) (U9e {f with owner:=o} k (f.again x))
theorem Wkk(hk:k<f.kids.length)(h3:f.kids.length<=3)(hm:WZ m=true)(bg:KC code)(hF:FOk codes n f)(aM:codes.getD k []=code)(hn:n<=100000)(hN:1048576<N):
  Zh5 N f.e (k:Int) code m=some (((Wcz m f k code).e,()),()):=by
 obtain⟨x,aC⟩:∃x,f.kids[k]=x:=⟨_,rfl⟩;have hx:=hF.kid k hk;rw[aM,aC]at hx;obtain⟨f0,f1,f2,f3,f4,f5,f6,f7,f8,f9⟩:=fmP f;obtain⟨k0,k1,k2,k3,k4,k5,k6,k7,k8,k9,k10⟩:=kdP x;have hsl:=hx.sl;have aS:=hx.pc;have mn:=bg.len;have e2:Xd (f.kids.map Kd.e) (Xb (k:Int)) d_KidRun=x.e:=by
  have:=Wgm Kd.e f.kids k {};rw[Wf hk,aC]at this;exact this
 have e3:U9 (Xl (f.kids.map Kd.e) (Xb (k:Int)) x.e) f.e=f.e:=by
  rw[Xj,U9e,←aC,Xbe]
 have e4:Fm.put (f,x) k=f:=by unfold Fm.put;simp only;rw[←aC,Xbe]
 unfold Zh5 Wcz Wea;simp only[Wt,f9,f3,Xaj];rw[WhJ];by_cases bz:f.lost=true
 .rw[if_pos bz,if_pos bz]
 rw[if_neg bz,if_neg bz];rw[W7,decide_eq_true hk];simp only[cond_true,cond_false,e2,e3,k0,k4,k7,f2,Wu,Wf hk,aC];by_cases h0:x.phase=0
 .rw[if_pos h0,if_pos h0,WnT hk hm bg hF aM aC h0 hn hN];rfl
 .rw[if_neg h0,if_neg h0];by_cases h1:x.phase=1
  .rw[if_pos h1,if_pos h1];by_cases ho:f.owner=0
   .rw[if_pos ho,if_pos ho,WcG (by omega),Xj];exact WqE rfl rfl rfl
   .rw[if_neg ho,if_neg ho,e4]
  .rw[if_neg h1,if_neg h1];by_cases h2:x.phase=2
   .rw[if_pos h2,if_pos h2];unfold Wb;by_cases hp:x.pos=(x.seen.length:Int)
    .rw[if_pos hp,if_pos hp,Wk4 hk h3 mn hF aM aC hN];rfl
    .rw[if_neg hp,if_neg hp];have hpos:=hx.pos;have ib:inb x.pos x.seen.length=true:=by unfold inb;simp;omega
     rw[ib];have hg:Xd x.seen (Xb x.pos) ((0,0,0):En)=WbL x.seen x.pos (0,0,0):=rfl;simp only[cond_true,hg];have ml:=WfQ (N:=N) (f:=f.e) (c:=(WbL x.seen x.pos (0,0,0)).1) (by show f.buf.length<=1048576;have:=hF.buf8;omega) hN;rw[show f.e.2.2.2.2.2.2.1=f.buf from rfl]at ml;rw[ml];simp only[ret,Xc,f6];have hsz:S2 (0:Int) f.e=Fm.e {f with owner:=0}:=rfl;have dP:Zbh N (U9 (Xl (f.kids.map Kd.e) (Xb (k:Int)) x.e) (S2 0 f.e)) (k:Int)=some (((Fm.put ({f with owner:=0},f.again x) k).e,()),()):=by
      rw[hsz];have h:=U9e {f with owner:=0} k x;rw[Xj];rw[show(U9 (Xl (f.kids.map Kd.e) k x.e) (Fm.e {f with owner:=0}))=Fm.e {f with owner:=0} by
       rw[h,←aC];simp only[Xbe]]
      exact WmW hk hF hx aC hn 0
     unfold Wvr;have sX:We .i64 x.pos 1=x.pos+1:=WcG (by omega);rw[sX];cases he:ent f.buf (WbL x.seen x.pos (0,0,0)).1 with
     |some a=>
      obtain⟨g1,g2,g3,g4⟩:=WcU he;rw[Xaw]at g3;rw[Xdc,Xq g3]at g4;injection g4 with g4;simp only[decide_eq_true (show((a.1:Int)>=0) by omega),cond_true];rw[W7,decide_eq_true g3];simp only[cond_true,Wq g3,g4];by_cases hv:a.2.2.2=(WbL x.seen x.pos (0,0,0)).2.2
      .rw[if_pos hv,if_pos hv,Xj];exact WqE rfl rfl rfl
      .rw[if_neg hv,if_neg hv,dP];rfl
     |none=>
      simp only[show decide ((-1:Int)>=0)=false from rfl,cond_false];by_cases hv:(-1:Int)=(WbL x.seen x.pos (0,0,0)).2.2
      .rw[if_pos hv,if_pos hv,Xj];exact WqE rfl rfl rfl
      .rw[if_neg hv,if_neg hv,dP];rfl
   .rw[if_neg h2,if_neg h2,e4]
end
section
section
variable{codes:List (List Opn)}{n:Int}{f f':Fm}{k:Nat}{code:List Opn}{m:Mm}{x y:Kd}
theorem FOk.len3(h:FOk codes n f)(h3:codes.length<=3):f.order.length<=3:=by
 have h1:=h.done;have:=Xdv (p:=λx:Kd=>decide (x.phase=3)) (l:=f.kids);have:=h.len;omega
theorem FOk.put1(h:FOk codes n f)(hk:k<f.kids.length)(aM:codes.getD k []=code){o:Int}{l:Bool}(ho:0<=o/\o<=f.kids.length)(hy:KOk code f.clock (n+1) y)(hp:f.kids[k].phase≠3)(zv:y.phase≠3):
  FOk codes (n+1) (Fm.put ({f with owner:=o,lost:=l},y) k) where
 len:=by show(f.kids.set k y).length=_;rw[Xaa];exact h.len
 regs:=h.regs
 clock:=h.clock
 done:=by
  show f.order.length=(f.kids.set k y).countP _;rw[Xhe hk,if_neg (by simpa using hp),if_neg (by simpa using zv)];exact h.done
 bufR:=h.bufR
 bufE:=h.bufE
 readsL:=h.readsL
 readsE:=h.readsE
 owner:=by show 0<=o/\o<=((f.kids.set k y).length:Int);rw[Xaa];exact ho
 kid:=λi hi=>by
  change i<(f.kids.set k y).length at hi;rw[Xaa]at hi;show KOk (codes.getD i []) f.clock (n+1) (f.kids.set k y)[i];rw[Xam];by_cases he:k=i
  .subst he;rw[if_pos rfl,aM];exact hy
  .rw[if_neg he];exact(h.kid i hi).wk (by omega) (by omega)
theorem FOk.wk(h:FOk codes n f){n':Int}(hn:n<=n'):FOk codes n' f:=
 {h with kid:=λk hk=>(h.kid k hk).wk (by omega) hn}
theorem Wkw(h:∀e∈x.seen,(0<=e.1/\e.1<=7)/\(0<=e.2.1/\e.2.1<=65535)/\ -1<=e.2.2/\e.2.2<=x.since):Wi5 (Wbe x.seen):=by
 intro r hr;unfold Wbe at hr;obtain⟨e,he,rfl⟩:=Xu.1 hr;have:=h e (Xar.1 he).1;exact⟨this.1,this.2.1⟩
theorem WmG(l:List En):(Wbe l).length<=l.length:=by
 unfold Wbe;rw[Xaj];exact List.length_filter_le _ _
theorem Whl{c:Int}:∀{rows:List Rw} {M:List En},Ris cfE M->Ris cfE (WdN c M rows)
 | [],_,h=>h
 |r::rows,M,h=>Whl (rows:=rows) (WcN WvC h)
theorem Wq9(hF:FOk codes n f)(hk:k<f.kids.length)(bg:code.length<=24)(aM:codes.getD k []=code)(aC:f.kids[k]=x)(h2:x.phase=2):
  FOk codes (n+1) (Fm.put (Wdf f x k) k):=by
 have hx:=hF.kid k hk;rw[aM,aC]at hx;have hc:=hF.clock;unfold Wdf Fm.put;refine{len:=?_,regs:=hF.regs,clock:=?_,done:=?_,bufR:=Whl hF.bufR,bufE:=?_,readsL:=?_,readsE:=?_,owner:=?_,kid:=?_}
 .simp only[Xaa];exact hF.len
 .simp only[Xz,Xdw];omega
 .simp only[Xz,Xdw];rw[Xhe hk,aC,if_neg (by simp[h2]),if_pos (by simp),←hF.done];rfl
 .simp only;refine Weu hF.bufR (λe he=>?_) λr hr=>?_
  .have:=hF.bufE e he;exact⟨this.1,this.2.1,this.2.2.1,by omega⟩
  .have:=Wgw r hr;exact⟨this.1,this.2,by simp only;omega,by simp only;omega⟩
 .have h1:=hF.readsL;have h2:=WmG x.seen;have h3:=hx.sl;have h4:=hx.pc;simp only[Xz,Xdw];omega
 .intro r hr;rcases Xm.1 hr with hr|hr
  .exact hF.readsE r hr
  .exact Wkw hx.seen r hr
 .simp only[Xaa];omega
 .intro i hi;simp only[Xaa]at hi;simp only[Xam];by_cases he:k=i
  .subst he;rw[if_pos rfl,aM];refine KOk.wk (c:=f.clock) (n:=n) ?_ (by omega) (by omega);exact{hx with marks:=(λh=>by(change (3:Int)=0 at h;omega)),pos:=⟨Xv _,by show(0:Int)<=_;omega⟩,phase:=by(show(0:Int)<=3/\(3:Int)<=3;omega)}
  .rw[if_neg he];exact(hF.kid i hi).wk (by omega) (by omega)
theorem WkU(hk:k<f.kids.length)(hm:WZ m=true)(bg:KC code)(hF:FOk codes n f)(aM:codes.getD k []=code):FOk codes (n+1) (Wcz m f k code):=by
 obtain⟨x,aC⟩:∃x,f.kids[k]=x:=⟨_,rfl⟩;have hx:=hF.kid k hk;rw[aM,aC]at hx;have e4:Fm.put (f,x) k=f:=by unfold Fm.put;simp only;rw[←aC,Xbe]
 have hFw:=hF.wk (show n<=n+1 by omega);unfold Wcz Wea;split
 .exact hFw
 rw[Wf hk,aC];split
 .rename_i h0;obtain⟨h1,h2⟩:=WvA bg hF hx h0 hm;have zw:(WqG m f x code).2.phase≠3:=by
   unfold WqG Wec Wh1;simp only
   repeat' split
   all_goals simp[h0,Fm.again]
  have:=h1;have key:∀q:Fm×Kd,(q.1=f\/q.1={f with lost:=true})->KOk code f.clock (n+1) q.2->q.2.phase≠3->FOk codes (n+1) (Fm.put q k):=by
   rintro⟨g,y⟩ hg hy hp;simp only at hg hy hp;rcases hg with rfl|rfl
   .exact FOk.put1 (o:=g.owner) (l:=g.lost) hF hk aM hF.owner hy (by rw[aC,h0];omega) hp
   .exact FOk.put1 (o:=f.owner) (l:=true) hF hk aM hF.owner hy (by rw[aC,h0];omega) hp
  exact key _ h2 h1 zw
 .split
  .rename_i h1;split
   .refine FOk.put1 (o:=(k:Int)+1) (l:=f.lost) hF hk aM (by omega) ?_ (by rw[aC,h1];omega) (by show(2:Int)≠3;omega);refine KOk.wk (c:=f.clock) (n:=n) ?_ (by omega) (by omega);exact{hx with marks:=(λh=>by(change (2:Int)=0 at h;omega)),phase:=by(show(0:Int)<=2/\(2:Int)<=3;omega)}
   .rw[e4];exact hFw
  .split
   .rename_i h2;split
    .exact Wq9 hF hk bg.len aM aC h2
    .simp only;split
     .refine FOk.put1 (o:=f.owner) (l:=f.lost) hF hk aM hF.owner ?_ (by rw[aC,h2];omega) (by show x.phase≠3;omega);refine KOk.wk (c:=f.clock) (n:=n) ?_ (by omega) (by omega);exact{hx with pos:=by(have:=hx.pos;show 0<=x.pos+1/\x.pos+1<=(x.seen.length:Int);omega)}
     .refine FOk.put1 (o:=0) (l:=f.lost) hF hk aM (by omega) (WoY hx rfl hF.regs hF.clock.1) (by rw[aC,h2];omega) (by show(0:Int)≠3;omega)
   .rw[e4];exact hFw
theorem Wq8{rv:Int}{regs:List Int}{writes:List Rw}(hr:Vals 4 regs)(hn:0<=n):FOk codes n (Wax rv regs writes codes.length) where
 len:=by simp[Wax]
 regs:=hr
 clock:=by simp[Wax]
 done:=by
  simp only[Wax,Xeh];rw[List.countP_replicate,if_neg (by simp)]
 bufR:=by
  unfold Ris Wax;simp only[Xel];exact(WnM writes).imp λ{a b} h=>by unfold cfE;simp only;omega
 bufE:=λe he=>by
  obtain⟨r,hr,rfl⟩:=Xu.1 he;have:=Wgw r hr;exact⟨this.1,this.2,by simp[Wax]⟩
 readsL:=by simp[Wax]
 readsE:=λr hr=>by cases hr
 owner:=by simp[Wax]
 kid:=λk hk=>by
  simp only[Wax,Xbg];exact{pc:=by simp,regs:=hr,rows:=(λr hr=>by cases hr),wl:=by simp,sl:=by simp,since:=by simp,tries:=by simp;omega,seen:=(λe he=>by cases he),marks:=(λ_=>⟨by simp[stk],(λq hq=>by cases hq),List.Pairwise.nil⟩),pos:=by simp,pb:=(λh=>by cases h),phase:=by simp,out:=by simp}
end
end
section
theorem WjA{α β R:Type}{body:Int->α->List β->(List β->Option R)->Option R}{K:Int->List β->Option R}{f:α->β}:∀(l:List α) (d r:List β),l.length<=r.length->
  (∀(j:Nat) x (v:List β) k,x∈l->j<v.length->body j x v k=k (v.set j (f x)))->Wb7 body K l d.length (d++r)=K ((d.length+l.length:Nat):Int) (d++(l.map f++r.drop l.length))
 | [],d,r,_,_=>by simp[Wb7]
 |x::l,d,[],h,_=>by simp at h
 |x::l,d,y::r,h,hb=>by
  rw[Wb7,hb d.length x _ _ (Xi ..) (by simp),Wdh];have:=WjA (body:=body) (K:=K) (f:=f) l (d++ [f x]) r (by simpa using h) λj z v k hz=>hb j z v k (Xf _ hz);simp only[Xz,Xdw,Xbv,Xeo]at this;rw[this];simp only[Xr,List.map_cons,List.drop_succ_cons,List.cons_append];rw[show d.length+1+l.length=d.length+(l.length+1) by omega]
theorem Wly{α:Type}{R:Type}{l:List α}{p:α->Bool}{lp:Nat->Int->Option R}{N:Nat}{K0:Int->Option R}{K1:Option R}(hl:l.length<N)(iE:l.length<=1048576)(hs:∀n (j:Nat) (h:j<l.length),lp (n+1) (j:Int)=bif p l[j]then K0 j else lp n ((j+1:Nat):Int))(he:∀n,lp (n+1) (l.length:Int)=K1):lp N 0=match fnd p l 0 with|some r=>K0 r.1|none=>K1:=by
 have h1:=WE (l:=l) (V:=Unit) (lp:=λn j _=>lp n j) hl (body:=λj x v k=>bif p x then K0 j else k v) (K:=λ_ _=>K1) (λn j v h=>hs n j h) (λn v=>he n) ();refine h1.trans ?_;rw[Wgs (p:=p) (E:=λj _=>K0 j) l 0 () (λj x v k _=>rfl)];cases fnd p l 0<;>rfl
theorem Wkd{α:Type}{p:α->Bool}:∀(l:List α) (j:Nat),(fnd p l j).isSome=l.any p
 | [],_=>rfl
 |x::l,j=>by
  unfold fnd;rw[List.any_cons];cases p x
  .simp[Wkd l]
  .rfl
variable{N:Nat}
theorem WmS{f:Fm}(h3:f.kids.length<=3)(hN:1048576<N):Zll N f.e=ret (Wa6 f):=by
 unfold Zll Zal Zv;have e:f.e.2.2.2.2.2.2.2.2.2=f.kids.map Kd.e:=rfl;rw[e];have hl:(f.kids.map Kd.e).length<=3:=by simpa using h3
 have h1:=Wly (l:=f.kids.map Kd.e) (p:=λx=>x.1 !=3) (N:=N) (lp:=λn j=>Zg N (f.kids.map Kd.e) (λaL=>(some ((),(aL,())))) (λaO bh=>(some ((),((-1:Int),())))) n j) (K0:=λj=>some ((),(j,()))) (K1:=some ((),((-1:Int),()))) (by omega) (by omega)
  (λn j hj=>by
   simp only[Zg,Waf hj,Wn hj,Wq hj,Wg (show j<4611686018427387904 by omega),cond_true,Zml,Xc])
  (λn=>by simp only[Zg,Waw (Xn _),cond_false])
 rw[h1];have h2:=Wkd (p:=λx:Y_KidRun=>x.1 !=3) (f.kids.map Kd.e) 0;have h3:(f.kids.map Kd.e).any (λx=>x.1 !=3)= !Wa6 f:=by
  unfold Wa6;rw[List.any_map,←Wcx];have:((λx:Y_KidRun=>x.1 !=3)∘Kd.e)= λx:Kd=>!decide (x.phase=3):=by
   funext x;show(x.phase !=3)= !decide (x.phase=3);by_cases h:x.phase=3<;>simp[h]
  rw[this]
 rw[h3]at h2;cases hf:fnd (λx:Y_KidRun=>x.1 !=3) (f.kids.map Kd.e) 0 with
 |some r=>
  rw[hf]at h2;simp only[Xc,decide_eq_true (show((r.1:Int)>=0) by omega),Xab,ret];rw[show Wa6 f=false by simpa using h2.symm]
 |none=>
  rw[hf]at h2;rw[show Wa6 f=true by simpa using h2.symm];rfl
theorem WmP{f:Fm}(h:f.buf.length<=1000)(hN:1048576<N):Zg6 N f.e=ret (WgV f):=by
 unfold Zg6;have e:f.e.2.2.2.2.2.2.1=f.buf:=rfl;rw[e];have h1:=WE (l:=f.buf) (V:=List Rw) (R:=Unit×(List Rw×Unit)) (lp:=λn j v=>Zcq N f.buf (Wb f.buf) (λt9 aA ao=>(some ((),(ao,())))) n j v) (n:=N) (by omega)
  (body:=λj x v k=>bif Wy (v.length+ [(x.1,x.2.1)].length)then k (Xe v [(x.1,x.2.1)])else none) (K:=λ_ v=>ret v)
  (λn i v hi=>by simp only[Zcq,Waf hi,Wn hi,Wq hi,Wg (show i<4611686018427387904 by omega),cond_true])
  (λn v=>by simp only[Zcq,Waw (Xn f.buf.length),cond_false]) []
 refine h1.trans ?_;rw[Wdr (f:=λx:En=>(x.1,x.2.1)) f.buf 0 [] (by simp;omega) (λj x v k _=>rfl)];rfl
theorem WkM{f:Fm}(hr:Vals 4 f.regs)(h3:f.kids.length<=3)(hx:∀x∈f.kids,x.regs.length<=1000)(hN:1048576<N):Zg5 N f.e=ret (Wh2 f):=by
 unfold Zg5 Wh2;have e:f.e.2.2.2.2.1=f.regs:=rfl;have e2:f.e.2.2.2.2.2.2.2.2.2=f.kids.map Kd.e:=rfl;have nd:Wfp f.regs=true:=WeR.2 hr;have hl:=hr.len;have hm:(f.kids.map Kd.e).length=f.kids.length:=by simp
 rw[e,e2,Wda (by omega) hN,if_pos ⟨nd,h3⟩];simp only[ret,Xc,nd,Xab,cond_false];rw[decide_eq_false (by unfold Wb;omega),Wbn (by omega)];simp only[ret,Xc,cond_false];have h1:=WE (l:=f.kids.map Kd.e) (V:=List Int) (R:=Unit×(List Int×Unit)) (lp:=λn j v=>Zbm N (f.kids.map Kd.e) (Wb (f.kids.map Kd.e)) (λbS ij dg=>(some ((),(dg,())))) n j v) (n:=N) (by omega)
  (body:=λj x v k=>bif inb j v.length then(bif x.2.2.2.2.2.1==(1:Int)then((Zak N (P6 x) (4:Int)).bind λcG=>(bif cG.2.1 then(bif inb 0 (P6 x).length then(bif inb j (Xl v j.toNat 0).length then k (Xl (Xl v j.toNat 0) j.toNat (Xd (P6 x) (Xb (0:Int)) 0))else none)else none)else k (Xl v j.toNat 0)))else k (Xl v j.toNat 0))else none) (K:=λ_ v=>ret v)
  (λn i v hi=>by simp only[Zbm,Wt,Waf hi,Wn hi,Wq hi,Wg (show i<4611686018427387904 by omega),cond_true];rfl)
  (λn v=>by simp only[Zbm,Waw (Xn _),cond_false]) f.regs
 refine h1.trans ?_;have h2:=WjA (β:=Int) (K:=λ_ v=>ret v) (f:=λx:Y_KidRun=>if P5 x=1/\Wfp (P6 x)=true then WbL (P6 x) 0 0 else 0) (f.kids.map Kd.e) [] f.regs (by omega) (body:=λj x v k=>bif inb j v.length then(bif x.2.2.2.2.2.1==(1:Int)then((Zak N (P6 x) (4:Int)).bind λcG=>(bif cG.2.1 then(bif inb 0 (P6 x).length then(bif inb j (Xl v j.toNat 0).length then k (Xl (Xl v j.toNat 0) j.toNat (Xd (P6 x) (Xb (0:Int)) 0))else none)else none)else k (Xl v j.toNat 0)))else k (Xl v j.toNat 0))else none)
  (λj x v k zx hj=>by
   obtain⟨y,hy,rfl⟩:=Xu.1 zx;have hyl:=hx y hy;have p5:(Kd.e y).2.2.2.2.2.1=y.out:=rfl;have zy:P5 (Kd.e y)=y.out:=rfl;have p6:P6 (Kd.e y)=y.regs:=rfl;simp only[p5,zy,p6,W7,decide_eq_true hj,cond_true,Wda (show y.regs.length<=1048576 by omega) hN,ret,Xc,Wu,Xj,Xaa];by_cases h1:y.out=1
   .rw[if_pos h1];cases nd:Wfp y.regs
    .rw[if_neg (by simp)];rfl
    .have:y.regs.length=4:=(WeR.1 nd).len;rw[if_pos ⟨h1,rfl⟩,show inb (0:Int) y.regs.length=true by rw[this];rfl];simp only[cond_true,Xdo];rfl
   .rw[if_neg h1,if_neg (λh=>h1 h.1)])
 simp only[Xeh,Xca,Xaj,List.map_map]at h2;exact h2
theorem Wi7{rv:Int}{regs:List Int}{writes:List Rw}{kids:Nat}(hr:regs.length<=1000)(hw:writes.length<=1000)(hk:kids<=3)(hN:1048576<N):
  Zgj N rv regs writes (kids:Int)=ret (Wax rv regs writes kids).e:=by
 unfold Zgj;rw[Wbn (by omega),WdI (by omega) hN];have hn:=Wgr writes;simp only[ret,Xc];have h1:=WE (l:=Wc3 writes) (V:=List En) (R:=Unit×(Y_Family×Unit)) (lp:=λn j v=>Zcf N regs kids (Wb (Wc3 writes)) rv (Wc3 writes) regs (λt25 nZ cY=>
  (Zbf N regs kids rv regs (Wc3 writes) cY
 (λu5 t50 n7=>
  (some ((),((rv,((0:Int),((0:Int),(false,(regs,(Wc3 writes,(cY,(([]:List Int),(([]:List Kc),n7))))))))),()))))
 N (0:Int) ([]:List Y_KidRun))) n j v) (n:=N) (by omega)
  (body:=λj x v k=>bif Wy (v.length+ [(x.1,(x.2,(0:Int)))].length)then k (Xe v [(x.1,(x.2,(0:Int)))])else none) (K:=λ_ cY=>(Zbf N regs kids rv regs (Wc3 writes) cY
 (λu5 t50 n7=>
  (some ((),((rv,((0:Int),((0:Int),(false,(regs,(Wc3 writes,(cY,(([]:List Int),(([]:List Kc),n7))))))))),()))))
 N (0:Int) ([]:List Y_KidRun)))
  (λn i v hi=>by simp only[Zcf,Waf hi,Wn hi,Wq hi,Wg (show i<4611686018427387904 by omega),cond_true])
  (λn v=>by simp only[Zcf,Waw (Xn _),cond_false]) []
 refine h1.trans ?_;rw[Wdr (f:=λx:Rw=>(x.1,(x.2,(0:Int)))) (Wc3 writes) 0 [] (by simp;omega) (λj x v k _=>rfl)];simp only[Xca];obtain⟨b,hb⟩:∃b,(Wc3 writes).map (λx:Rw=>(x.1,(x.2,(0:Int))))=b:=⟨_,rfl⟩;rw[hb];have lp:∀(d j n:Nat) (v:List Y_KidRun),j+d=kids->d<n->v=Xt j (Kd.e {regs:=regs})->Zbf N regs kids rv regs (Wc3 writes) b (λu5 t50 n7=>(some ((),((rv,((0:Int),((0:Int),(false,(regs,(Wc3 writes,(b,(([]:List Int),(([]:List Kc),n7))))))))),())))) n (j:Int) v=some ((),((rv,((0:Int),((0:Int),(false,(regs,(Wc3 writes,(b,(([]:List Int),(([]:List Kc),Xt kids (Kd.e {regs:=regs})))))))))),())):=by
  intro d
  induction d with
  |zero=>
   intro j n v hj hn hv;obtain⟨n,rfl⟩:∃n',n=n'+1:=⟨n-1,by omega⟩;have:j=kids:=by omega
   subst this;simp only[Zbf,Int.lt_irrefl,decide_false,cond_false,hv]
  |succ d ih=>
   intro j n v hj hn hv;obtain⟨n,rfl⟩:∃n',n=n'+1:=⟨n-1,by omega⟩;have hlt:(j:Int)<(kids:Int):=by omega
   have tw:v.length=j:=by rw[hv];simp
   simp only[Zbf,decide_eq_true hlt,cond_true,Wbn (show regs.length<=1048576 by omega),ret,Xc];rw[Ws (by simp;omega)];simp only[cond_true];rw[Wg (by omega)];refine ih (j+1) n _ (by omega) (by omega) ?_;rw[hv,List.replicate_succ'];rfl
 have:=lp kids 0 N [] (by omega) (by omega) rfl;refine this.trans ?_;unfold Wax Fm.e;simp only[List.map_replicate,hb]
end
section
def WbK(s:Int):Int:=(s-1)/65536
def WbA(k:Int):Int:=(7*k+3)%4
structure SlOk(l:List Int):Prop where
 len:l.length=16
 each:∀i (h:i<l.length),l[i]=0\/((1<=l[i]/\l[i]<=524288)/\WbA (WbK l[i])=((i/4:Nat):Int))
 one:∀i j (hi:i<l.length) (hj:j<l.length),i<j->l[i]≠0->l[j]≠0->WbK l[i]≠WbK l[j]
def WpO(k s:Int):Bool:=decide (s>0)&&decide (WbK s=k)
def WlB(l:List Int)(k:Int):Option (Nat×Int):=fnd (WpO k) l 0
def Wgz(l:List Int)(k:Int):Nat:=if WbL l (4*WbA k) 0=0 then(4*WbA k).toNat else(4*WbA k).toNat+1
def Wef(l:List Int)(k v:Int):List Int:=match WlB l k with
 |some r=>l.set r.1 (1+65536*k+v)
 |none=>l.set (Wgz l k) (1+65536*k+v)
def WP(l:List Int)(k:Int):Int:=match WlB l k with
 |some r=>(r.2-1)%65536+1
 |none=>0
def Wf4(l:List Int)(k:Int):List Int:=match WlB l k with
 |some r=>l.set r.1 0
 |none=>l
variable{N:Nat}{l:List Int}{k v:Int}
theorem WvH{n:Int}(h:I64 n):IntKind.wrap .i64 n=n:=wrap_i64 h
theorem WmF{s:Int}(h:1<=s/\s<=524288):Zhd N s=ret (WbK s):=by
 unfold Zhd;rw[Wan (by unfold I64;omega)];have:WqD .i64 (s-1) 65536=WbK s:=by
  unfold WqD WbK;rw[Xef (by omega),WvH (by unfold I64;omega)]
 rw[this];rfl
theorem Wkt{s:Int}(h:1<=s/\s<=524288):0<=WbK s/\WbK s<=7:=by unfold WbK;omega
theorem Wez:Za4 N k=ret (decide (0<=k)&&decide (k<=7)):=by unfold Za4;rw[Wk];rfl
theorem Wj9(hk:0<=k/\k<=7)(hv:0<=v/\v<=65535):Zh0 N k v=ret (1+65536*k+v):=by
 unfold Zh0;rw[Wdi (by unfold I64;omega),Wp (a:=1) (by unfold I64;omega),Wp (by unfold I64;omega)]
theorem Wj7(hk:0<=k/\k<=7):Zh8 N k=ret (WbA k):=by
 unfold Zh8;rw[Wez,Wdi (by unfold I64;omega),Wp (by unfold I64;omega)];have:WcC (7*k+3) 4=WbA k:=by unfold WcC WbA;exact Int.tmod_eq_emod_of_nonneg (by omega)
 simp only[ret,Xc,decide_eq_true hk.1,decide_eq_true hk.2,Xbu,Xab,cond_false,this];rfl
theorem SlOk.val(h:SlOk l){i:Nat}(hi:i<l.length)(hn:l[i]≠0):1<=l[i]/\l[i]<=524288:=by
 rcases h.each i hi with h0|h0
 .exact absurd h0 hn
 .exact h0.1
theorem Weo(h:SlOk l)(hN:1048576<N):Zf8 N l k=ret (match WlB l k with|some r=>(r.1:Int)|none=>-1):=by
 unfold Zf8 WlB;have hl:=h.len;have h1:=Wly (l:=l) (p:=WpO k) (N:=N) (lp:=λn j=>Zdc N k l (λbh=>(some ((),(bh,())))) (λgG bS=>(some ((),((-1:Int),())))) n j) (K0:=λj=>some ((),(j,()))) (K1:=some ((),((-1:Int),()))) (by omega) (by omega)
  (λn j hj=>by
   simp only[Zdc,Waf hj,Wn hj,Wq hj,Wg (show j<4611686018427387904 by omega),cond_true];unfold WpO;by_cases h0:l[j]>0
   .rw[WmF (h.val hj (by omega))];simp only[decide_eq_true h0,cond_true,Xbq,ret,Xc,Wu,Wav]
   .simp only[decide_eq_false h0,cond_false,Bool.false_and])
  (λn=>by simp only[Zdc,Waw (Xn _),cond_false])
 rw[h1];cases fnd (WpO k) l 0<;>rfl
theorem Wa7(h:SlOk l)(hN:1048576<N):Zca N l=ret true:=by
 have hl:=h.len;have lp:∀(d j n:Nat) (s:List Bool),j+d=16->d<n->s.length=8->(∀c:Nat,s.getD c false=true->∃i,∃hi:i<l.length,i<j/\l[i]≠0/\WbK l[i]=c)->
   Zb3 N l (some ((),(false,()))) (λsM zc sN=>(some ((),(true,())))) n (j:Int) s=ret true:=by
  intro d
  induction d with
  |zero=>
   intro j n s hj hn _ _;obtain⟨n,rfl⟩:∃n',n=n'+1:=⟨n-1,by omega⟩;have:j=l.length:=by omega
   subst this;simp only[Zb3,Waw (Xn _),cond_false]
  |succ d ih=>
   intro j n s hj hn hs hb;obtain⟨n,rfl⟩:∃n',n=n'+1:=⟨n-1,by omega⟩;have hlt:j<l.length:=by omega
   simp only[Zb3,Waf hlt,Wn hlt,Wq hlt,Wg (show j<4611686018427387904 by omega),cond_true,Wu];by_cases h0:l[j]=0
   .rw[if_pos h0];exact ih (j+1) n s (by omega) (by omega) hs λc hc=>by
     obtain⟨i,hi,h1,h2,h3⟩:=hb c hc;exact⟨i,hi,by omega,h2,h3⟩
   .rw[if_neg h0];have hv:=h.val hlt h0;have hk:=Wkt hv;have xP:WbA (WbK l[j])=((j/4:Nat):Int):=by
     rcases h.each j hlt with h1|h1
     .exact absurd h1 h0
     .exact h1.2
    have hq:WqD .i64 (j:Int) 4=((j/4:Nat):Int):=by
     unfold WqD;rw[Xef (by omega),WvH (by unfold I64;omega)];omega
    have cI:s.getD (Xb (WbK l[j])) false=false:=by
     rw[Bool.eq_false_iff];intro hc;obtain⟨i,hi,h1,h2,h3⟩:=hb _ hc;exact h.one i j hi hlt h1 h2 h0 (by omega)
    rw[Wj9 (k:=7) (v:=65535) (by omega) (by omega),WmF hv];simp only[ret,Xc,Wk,show(1:Int)+65536*7+65535=524288 from rfl,decide_eq_true hv.1,decide_eq_true hv.2,Xbu,Xab,cond_false,Wj7 hk,xP,hq,bne_self_eq_false];rw[show inz (4:Int)=true from rfl];simp only[cond_true];rw[show inb (WbK l[j]) 8=true by unfold inb;simp;omega,hs,decide_eq_true rfl,cI];simp only[Xbu,cond_true,cond_false];refine ih (j+1) n _ (by omega) (by omega) (by simpa using hs) λc hc=>?_;by_cases nL:c=(WbK l[j]).toNat
    .exact⟨j,hlt,by omega,h0,by omega⟩
    .have:s.getD c false=true:=by
      rw[Xbc,List.getElem?_set_ne (by omega),←Xbc]at hc;exact hc
     obtain⟨i,hi,h1,h2,h3⟩:=hb c this;exact⟨i,hi,by omega,h2,h3⟩
 unfold Zca;rw[show((Wb l) !=(16:Int))=false by unfold Wb;rw[hl];rfl];simp only[cond_false];refine lp 16 0 N _ (by omega) (by omega) (by simp) λc hc=>?_;rw[Xbc]at hc;by_cases h8:c<8
 .rw[List.getElem?_replicate,if_pos h8]at hc;simp at hc
 .rw[List.getElem?_eq_none (by simp;omega)]at hc;simp at hc
theorem WbM(h:SlOk l){r:Nat×Int}(hr:WlB l k=some r):∃hi:r.1<l.length,l[r.1]=r.2/\1<=r.2/\r.2<=524288/\WbK r.2=k/\WbA k=((r.1/4:Nat):Int):=by
 obtain⟨h1,h2,h3,h4⟩:=WcU hr;rw[Xaw]at h3;rw[Xdc,Xq h3]at h4;injection h4 with h4;unfold WpO at h1;simp only[Xh,decide_eq_true_eq]at h1;have h5:=h.val h3 (by omega);rcases h.each r.1 h3 with h6|h6
 .omega
 .rw[h4]at h6 h5;rw[h1.2]at h6;exact⟨h3,h4,h5.1,h5.2,h1.2,h6.2⟩
theorem Wgc(h:SlOk l)(hr:WlB l k=none)(i:Nat)(hi:i<l.length)(hn:l[i]≠0):WbK l[i]≠k:=by
 have:=WhQ hr l[i] (Xx hi);unfold WpO at this;have h1:=h.val hi hn;rw[decide_eq_true (show l[i]>0 by omega),Xbq]at this;simpa using this
theorem Wup(k:Int):0<=WbA k/\WbA k<=3:=by unfold WbA;omega
theorem WiC(h:SlOk l)(hk:0<=k/\k<=7)(hr:WlB l k=none):∃hi:Wgz l k<l.length,l[Wgz l k]=0/\WbA k=((Wgz l k/4:Nat):Int)/\(Wgz l k=(4*WbA k).toNat\/(Wgz l k=(4*WbA k).toNat+1/\WbL l (4*WbA k) 0≠0)):=by
 have hl:=h.len;have hb:=Wup k;unfold Wgz;have h1:(4*WbA k).toNat<l.length:=by omega
 have hg:WbL l (4*WbA k) 0=l[(4*WbA k).toNat]:=Wf h1 _;by_cases h0:WbL l (4*WbA k) 0=0
 .simp only[if_pos h0];exact⟨h1,by rw[←hg];exact h0,by omega,.inl trivial⟩
 .simp only[if_neg h0];have h2:(4*WbA k).toNat+1<l.length:=by omega
  refine⟨h2,?_,by omega,.inr ⟨trivial,h0⟩⟩;refine Classical.byContradiction λhn=>?_;rw[hg]at h0;have a1:=Wgc h hr _ h1 h0;have a2:=Wgc h hr _ h2 hn;have a3:=h.one _ _ h1 h2 (by omega) h0 hn;have b1:=Wkt (h.val h1 h0);have b2:=Wkt (h.val h2 hn);rcases h.each _ h1 with c1|c1
  .exact h0 c1
  .rcases h.each _ h2 with c2|c2
   .exact hn c2
   .have d1:=c1.2;have d2:=c2.2;generalize WbK l[(4*WbA k).toNat]=x at*;generalize WbK l[(4*WbA k).toNat+1]=y at*;unfold WbA at*;omega
theorem Wo9(hk:0<=k/\k<=7)(hv:0<=v/\v<=65535):(1<=1+65536*k+v/\1+65536*k+v<=524288)/\WbK (1+65536*k+v)=k:=by unfold WbK;omega
theorem Wlg(h:SlOk l){i:Nat}(hi:i<l.length){s:Int}(hs:s=0\/((1<=s/\s<=524288)/\WbA (WbK s)=((i/4:Nat):Int)))(ho:s≠0->∀j (hj:j<l.length),j≠i->l[j]≠0->WbK l[j]≠WbK s):SlOk (l.set i s) where
 len:=by rw[Xaa];exact h.len
 each:=λj hj=>by
  rw[Xaa]at hj;rw[Xam];by_cases he:i=j
  .subst he;rw[if_pos rfl];exact hs
  .rw[if_neg he];exact h.each j hj
 one:=λa b ha hb cu=>by
  rw[Xaa]at ha hb;rw[Xam,Xam];by_cases h1:i=a
  .subst h1;rw[if_pos rfl,if_neg (by omega)]
   exactλhn nE he=>ho hn b hb (by omega) nE he.symm
  .rw[if_neg h1];by_cases h2:i=b
   .subst h2;rw[if_pos rfl];exactλzA hn=>ho hn a ha (by omega) zA
   .rw[if_neg h2];exact h.one a b ha hb cu
theorem Wfb(h:SlOk l)(hk:0<=k/\k<=7)(hv:0<=v/\v<=65535):SlOk (Wef l k v):=by
 obtain⟨k1,k2⟩:=Wo9 hk hv;unfold Wef;cases hr:WlB l k with
 |some r=>
  obtain⟨hi,h1,h2,h3,h4,h5⟩:=WbM h hr;refine Wlg h hi (.inr ⟨k1,by rw[k2];exact h5⟩) λ_ j hj hne hn=>?_;rw[k2,←h4,←h1];rcases Nat.lt_or_gt_of_ne hne with hlt|hlt
  .exact h.one j r.1 hj hi hlt hn (by rw[h1];omega)
  .exactλe=>h.one r.1 j hi hj hlt (by rw[h1];omega) hn e.symm
 |none=>
  obtain⟨hi,h1,h2,_⟩:=WiC h hk hr;refine Wlg h hi (.inr ⟨k1,by rw[k2];exact h2⟩) λ_ j hj hne hn=>?_;rw[k2];exact Wgc h hr j hj hn
theorem WhZ(h:SlOk l):SlOk (Wf4 l k):=by
 unfold Wf4;cases hr:WlB l k with
 |some r=>
  obtain⟨hi,h1,_⟩:=WbM h hr;exact Wlg h hi (.inl rfl) λh=>absurd rfl h
 |none=>exact h
theorem Wdc(l:List Int)(k:Int):0<=WP l k/\WP l k<=65536:=by
 unfold WP;cases WlB l k<;>simp only<;>omega
theorem WbN(h:SlOk l)(hk:0<=k/\k<=7)(hN:1048576<N):Zfy N l k=some ((),((if WP l k=0 then 0 else WP l k-1),(decide (WP l k≠0),()))):=by
 unfold Zfy WP;rw[Wa7 h hN,Wez,Weo h hN];simp only[ret,Xc,Xab,cond_false,decide_eq_true hk.1,decide_eq_true hk.2,Xbu];cases hr:WlB l k with
 |none=>rfl
 |some r=>
  obtain⟨hi,h1,h2,h3,h4,h5⟩:=WbM h hr;simp only[decide_eq_false (show¬((r.1:Int)<0) by omega),cond_false,W7,decide_eq_true hi,cond_true,Wq hi,h1];rw[Wan (by unfold I64;omega),Wcs (by omega),if_neg (by omega),decide_eq_true (by omega)];simp only[Int.add_sub_cancel];rfl
theorem WcS(h:SlOk l)(hk:0<=k/\k<=7)(hv:0<=v/\v<=65535)(hN:1048576<N):Zef N l k v=some ((),(Wef l k v,(WP l k,(true,())))):=by
 have hl:=h.len;unfold Zef;rw[Wcl (by omega),Wa7 h hN,Wez,Wl,Weo h hN,WbN h hk hN,Wj9 hk hv,Wj7 hk];simp only[ret,Xc,Xab,cond_false,decide_eq_true hk.1,decide_eq_true hk.2,Xbu,Wa0.2 hv];unfold Wef WP;cases hr:WlB l k with
 |some r=>
  obtain⟨hi,h1,h2,h3,h4,h5⟩:=WbM h hr;simp only[decide_eq_true (show((r.1:Int)>=0) by omega),cond_true,W7,decide_eq_true hi,Xj];rw[if_neg (by omega),Wp (by unfold I64;omega)];simp only[show(r.2-1)%65536+1-1+1=(r.2-1)%65536+1 by omega]
 |none=>
  simp only[show decide ((-1:Int)>=0)=false from rfl,cond_false];have hb:=Wup k;obtain⟨hi,h1,h2,h3⟩:=WiC h hk hr;rw[Wdi (by unfold I64;omega)];obtain⟨N',rfl⟩:∃N',N=N'+1+1:=⟨N-2,by omega⟩;have jB:4*WbA k=(((4*WbA k).toNat:Nat):Int):=by omega
  have gE:∀n,Zco (N'+1+1) k v l (λkA fW=>(bif inb kA (Xa l)then(some ((),(Xl l (Xb kA) (1+65536*k+v),(0,(true,())))))else none)) (n+1) (Wgz l k:Int)=some ((),(l.set (Wgz l k) (1+65536*k+v),((0:Int),(true,())))):=λn=>by
   simp only[Zco,Wn hi,Wq hi,h1,cond_true,bne_self_eq_false,cond_false];rw[Xj]
  rcases h3 with h3|⟨h3,h4⟩
  .rw[jB,←h3];exact gE _
  .have hlt:(4*WbA k).toNat<l.length:=by omega
   have hg:WbL l (4*WbA k) 0=l[(4*WbA k).toNat]:=Wf hlt _;rw[hg]at h4;have iO:=gE N';rw[jB];rw[Zco];simp only[Wn hlt,Wq hlt,cond_true];rw[show(l[(4*WbA k).toNat] !=0)=true by simpa using h4,Wg (by omega),←h3];simp only[cond_true];exact iO
theorem Wd8(h:SlOk l)(hk:0<=k/\k<=7)(hN:1048576<N):Zh9 N l k=some ((),(Wf4 l k,(WP l k,(true,())))):=by
 have hl:=h.len;unfold Zh9;rw[Wcl (by omega),Wa7 h hN,Wez,Weo h hN,WbN h hk hN];simp only[ret,Xc,Xab,cond_false,decide_eq_true hk.1,decide_eq_true hk.2,Xbu];unfold Wf4 WP;cases hr:WlB l k with
 |some r=>
  obtain⟨hi,h1,h2,h3,h4,h5⟩:=WbM h hr;simp only[decide_eq_false (show¬((r.1:Int)<0) by omega),cond_true,cond_false,W7,decide_eq_true hi,Xj];rw[if_neg (by omega),Wp (by unfold I64;omega)];simp only[show(r.2-1)%65536+1-1+1=(r.2-1)%65536+1 by omega]
 |none=>rfl
end
section
abbrev Shf:=List Int×Int
abbrev Un:=Int×Int×Int
structure ShOk(s:Shf):Prop where
 slots:SlOk s.1
 cnt:0<=s.2/\s.2<=65535
def UnV(u:Un):Prop:=(u.1=1/\(0<=u.2.1/\u.2.1<=7)/\0<=u.2.2/\u.2.2<=65535)\/(u.1=2/\(0<=u.2.1/\u.2.1<=7)/\u.2.2=0)\/(u.1=3/\u.2.1=0/\0<=u.2.2/\u.2.2<=65535)
def WbF(s:Shf)(u:Un):Shf:=
 if u.1=1 then(Wef s.1 u.2.1 u.2.2,s.2)else if u.1=2 then(Wf4 s.1 u.2.1,s.2)else if u.1=3 then(s.1,(s.2-u.2.2+65536)%65536)else s
def WaZ(k e:Int):Un:=if e=0 then(2,k,0)else(1,k,e-1)
def WaN(s:Shf)(o:Opn)(r:List Int):Shf×List Int×Un:=
 if o.1=12 then((Wef s.1 o.2.1 (WbL r o.2.2.1 0),s.2),WlR r o.2.2.2 (WP s.1 o.2.1%65536),WaZ o.2.1 (WP s.1 o.2.1))else
 if o.1=13 then(s,WlR r o.2.1 (WP s.1 o.2.2.1%65536),(0,0,0))else
 if o.1=14 then((Wf4 s.1 o.2.1,s.2),WlR r o.2.2.1 (WP s.1 o.2.1%65536),WaZ o.2.1 (WP s.1 o.2.1))else
 if o.1=15 then((s.1,(s.2+WbL r o.2.1 0)%65536),r,(3,0,WbL r o.2.1 0))else
 (s,WlR r o.2.1 s.2,(0,0,0))
def Waz(o:Opn):Int×Int:=
 if o.1=12\/o.1=14 then(o.2.1,2)else if o.1=13 then(o.2.2.1,1)else if o.1=15 then(8,1)else(8,2)
section
variable{o:Opn}
theorem Ws0(h:Wap o=true)(h5:o.1=12):WbZ o.2.1=true/\Wh o.2.2.1=true/\Wh o.2.2.2=true:=by
 obtain⟨k,a,b,c⟩:=o;simp only at h5;subst h5;have:(WbZ a&&Wh b&&Wh c)=true:=h;simp only[Xh]at this;exact⟨this.1.1,this.1.2,this.2⟩
theorem Wve(h:Wap o=true)(h5:o.1=13):Wh o.2.1=true/\WbZ o.2.2.1=true:=by
 obtain⟨k,a,b,c⟩:=o;simp only at h5;subst h5;have:(Wh a&&WbZ b&&(c==(0:Int)))=true:=h;simp only[Xh]at this;exact this.1
theorem WtT(h:Wap o=true)(h5:o.1=14):WbZ o.2.1=true/\Wh o.2.2.1=true:=by
 obtain⟨k,a,b,c⟩:=o;simp only at h5;subst h5;have:(WbZ a&&Wh b&&(c==(0:Int)))=true:=h;simp only[Xh]at this;exact this.1
theorem Ww1(h:Wap o=true)(h5:o.1=15):Wh o.2.1=true:=by
 obtain⟨k,a,b,c⟩:=o;simp only at h5;subst h5;have:(Wh a&&(b==(0:Int))&&(c==(0:Int)))=true:=h;simp only[Xh]at this;exact this.1.1
theorem WvZ(h:Wap o=true)(h5:o.1=16):Wh o.2.1=true:=by
 obtain⟨k,a,b,c⟩:=o;simp only at h5;subst h5;have:(Wh a&&(b==(0:Int))&&(c==(0:Int)))=true:=h;simp only[Xh]at this;exact this.1.1
end
theorem Wbs{x:Int}:WbZ x=true↔0<=x/\x<=7:=by unfold WbZ;simp
variable{N:Nat}{s:Shf}{u:Un}{o:Opn}{r:List Int}
theorem Wmk{k e:Int}(hk:0<=k/\k<=7)(he:0<=e/\e<=65536):UnV (WaZ k e):=by
 unfold WaZ UnV;split
 .exact .inr (.inl ⟨rfl,hk,rfl⟩)
 .exact .inl ⟨rfl,hk,by simp only;omega⟩
theorem WpJ(h:ShOk s)(hu:UnV u):ShOk (WbF s u):=by
 unfold WbF;rcases hu with⟨h1,h2,h3⟩|⟨h1,h2,h3⟩|⟨h1,h2,h3⟩
 .rw[if_pos h1];exact⟨Wfb h.slots h2 h3,h.cnt⟩
 .rw[if_neg (by omega),if_pos h1];exact⟨WhZ h.slots,h.cnt⟩
 .rw[if_neg (by omega),if_neg (by omega),if_pos h1];exact⟨h.slots,by simp only;omega⟩
theorem WpY(h:ShOk s)(hr:Vals 4 r)(ho:Wap o=true)(eB:12<=o.1):ShOk (WaN s o r).1/\Vals 4 (WaN s o r).2.1/\((WaN s o r).2.2.1≠0->UnV (WaN s o r).2.2)/\((WaN s o r).2.2.1=0->(WaN s o r).1=s):=by
 have kF:=WnL ho;unfold WaN;split
 .obtain⟨a,b,c⟩:=Ws0 ho ‹_›;rw[Wbs]at a;have hg:=Wdc s.1 o.2.1;exact⟨⟨Wfb h.slots a (hr.get _),h.cnt⟩,hr.set _ (by omega),λ_=>Wmk a hg,λh=>by unfold WaZ at h;split at h<;>(simp only at h;omega)⟩
 .split
  .exact⟨h,hr.set _ (by omega),λh=>absurd rfl h,λ_=>rfl⟩
  .split
   .obtain⟨a,b⟩:=WtT ho ‹_›;rw[Wbs]at a;have hg:=Wdc s.1 o.2.1;exact⟨⟨WhZ h.slots,h.cnt⟩,hr.set _ (by omega),λ_=>Wmk a hg,λh=>by unfold WaZ at h;split at h<;>(simp only at h;omega)⟩
   .split
    .have:=hr.get o.2.1.toNat;have:=h.cnt;refine⟨⟨h.slots,by simp only;unfold WbL;omega⟩,hr,λ_=>.inr (.inr ⟨rfl,rfl,hr.get _⟩),λh=>by(simp only at h;omega)⟩
    .exact⟨h,hr.set _ h.cnt,λh=>absurd rfl h,λ_=>rfl⟩
theorem Wel(h:ShOk s)(hN:1048576<N):Zi4 N s=ret true:=by
 unfold Zi4;rw[Wa7 h.slots hN,Wl,Wa0.2 h.cnt];rfl
theorem Wgy(h:ShOk s):Zhf N s=ret s:=by
 unfold Zhf;rw[Wcl (by have:=h.slots.len;omega)];rfl
theorem Wjc(hu:UnV u):Zmc N u=ret true:=by
 unfold Zmc;simp only[Wu,Wez,Wl,ret,Xc];rcases hu with⟨h1,h2,h3⟩|⟨h1,h2,h3⟩|⟨h1,h2,h3⟩
 .rw[if_neg (by omega),if_pos h1,Wa0.2 h3];simp[h2]
 .rw[if_neg (by omega),if_neg (by omega),if_pos h1];simp[h2,h3]
 .rw[if_neg (by omega),if_neg (by omega),if_neg (by omega),if_pos h1,if_pos h2,Wa0.2 h3]
theorem WhX(h:ShOk s)(hu:UnV u)(hN:1048576<N):Zlj N s u=some ((),(WbF s u,(true,()))):=by
 unfold Zlj WbF;rw[Wgy h,Wjc hu];simp only[ret,Xc];rw[Wel h hN];simp only[ret,Xc,Xab,cond_false,Wu];have hc:=h.cnt;rcases hu with⟨h1,h2,h3⟩|⟨h1,h2,h3⟩|⟨h1,h2,h3⟩
 .rw[if_pos h1,if_pos h1,WcS h.slots h2 h3 hN];rfl
 .rw[if_neg (by omega),if_pos h1,if_neg (by omega),if_pos h1,Wd8 h.slots h2 hN];rfl
 .rw[if_neg (by omega),if_neg (by omega),if_pos h1,if_neg (by omega),if_neg (by omega),if_pos h1];rw[Wan (by unfold I64;omega),Wp (by unfold I64;omega),Wcs (by omega)];rfl
theorem Wfm{k e:Int}(he:0<=e/\e<=65536):Zj4 N k e=ret (WaZ k e):=by
 unfold Zj4 WaZ;rw[Wu,Wan (by unfold I64;omega)];split<;>rfl
theorem WkW(ho:Wap o=true)(eB:12<=o.1):Zjf N o=some ((),((Waz o).1,((Waz o).2,()))):=by
 have kF:=WnL ho;unfold Zjf Waz;rw[WeZ,ho];simp only[ret,Xc,Xab,cond_false,Wu];have:o.1=12\/o.1=13\/o.1=14\/o.1=15\/o.1=16:=by omega
 rcases this with h|h|h|h|h<;>simp[h]
theorem WiK(h:ShOk s)(hr:Vals 4 r)(ho:Wap o=true)(eB:12<=o.1)(hN:1048576<N):
  Zlk N s o r=some ((),((WaN s o r).1,((WaN s o r).2.1,((WaN s o r).2.2,(true,()))))):=by
 have kF:=WnL ho;have du:=hr.len;have hc:=h.cnt;unfold Zlk WaN;rw[Wgy h,Wcl (by omega)];simp only[ret,Xc];rw[Wel h hN,Wda (by omega) hN,WeR.2 hr,Wgb,WqM ho eB];simp only[ret,Xc,Xab,cond_false,bne_self_eq_false,Wu,show inz (65536:Int)=true from rfl,cond_true,Wt,Xaa];by_cases e1:o.1=12
 .obtain⟨a,b,c⟩:=Ws0 ho e1;rw[Wbs]at a;rw[if_pos e1,if_pos e1,Wa4 b du,Wa4 c du];have hg:=Wdc s.1 o.2.1;rw[WcS h.slots a (hr.get _) hN];simp only[cond_true,Xc,Wfm hg,ret];rw[Wcs (by omega)];rfl
 .rw[if_neg e1,if_neg e1];by_cases e2:o.1=13
  .obtain⟨a,b⟩:=Wve ho e2;rw[Wbs]at b;have hg:=Wdc s.1 o.2.2.1;rw[if_pos e2,if_pos e2,Wa4 a du,WbN h.slots b hN];simp only[cond_true,Xc];by_cases hz:WP s.1 o.2.2.1=0
   .rw[hz];rfl
   .rw[if_neg hz,decide_eq_true hz,Wp (by unfold I64;omega),Wcs (by omega),Int.sub_add_cancel];simp only[cond_true,Xdo];rfl
  .rw[if_neg e2,if_neg e2];by_cases e3:o.1=14
   .obtain⟨a,b⟩:=WtT ho e3;rw[Wbs]at a;have hg:=Wdc s.1 o.2.1;rw[if_pos e3,if_pos e3,Wa4 b du,Wd8 h.slots a hN];simp only[cond_true,Xc,Wfm hg,ret];rw[Wcs (by omega)];rfl
   .rw[if_neg e3,if_neg e3];by_cases e4:o.1=15
    .have a:=Ww1 ho e4;have hv:=hr.get o.2.1.toNat;rw[if_pos e4,if_pos e4,Wa4 a du];simp only[cond_true];rw[Wp (by unfold I64;omega),Wcs (by omega)];rfl
    .have a:=WvZ ho (by omega);rw[if_neg e4,if_neg e4,Wa4 a du];rfl
def Wl4(l:List Int):Bool:=decide (l.length=8)&&l.all λx=>decide (0<=x)&&decide (x<=65536)
structure ThOk(t:List Int×List Int×Int):Prop where
 cells:Vals 8 t.1
 map:t.2.1.length=8/\∀x∈t.2.1,0<=x/\x<=65536
 cnt:0<=t.2.2/\t.2.2<=65535
def WtL(t:List Int×List Int×Int):Bool:=WeD t.1&&(Wl4 t.2.1&&Wbi t.2.2)
theorem Wpf{t:List Int×List Int×Int}:WtL t=true↔ThOk t:=by
 unfold WtL Wl4;simp only[Xh,WoV,Wa0,decide_eq_true_eq,Xae];exact⟨λh=>⟨h.1,h.2.1,h.2.2⟩,λh=>⟨h.cells,h.map,h.cnt⟩⟩
theorem WiJ{l:List Int}(hl:l.length<=1048576)(hN:1048576<N):Zhc N l=ret (Wl4 l):=by
 unfold Zhc Wl4;have h1:=WE (l:=l) (V:=Unit) (R:=Unit×Ko) (lp:=λn j v=>Zd4 N l (some ((),(false,()))) (λaL aO=>(some ((),((Wb l)==(8:Int),())))) n j) (n:=N) (by omega)
  (body:=λj x v k=>bif !(decide (0<=x)&&decide (x<=65536))then some ((),(false,()))else k v) (K:=λ_ v=>some ((),((Wb l)==(8:Int),())))
  (λn i v hi=>by simp only[Zd4,Waf hi,Wn hi,Wq hi,Wg (show i<4611686018427387904 by omega),cond_true,Wk,ret,Xc])
  (λn v=>by simp only[Zd4,Waw (Xn l.length),cond_false]) ()
 refine h1.trans ?_;rw[WaE (p:=λx=>!(decide (0<=x)&&decide (x<=65536))) (E:=λ_=>some ((),(false,()))) l 0 () (λj x v k _=>rfl),Wcx];have e:((Wb l)==(8:Int))=decide (l.length=8):=by
  by_cases h:l.length=8
  .simp[Wb,h]
  .simp[Wb,h];omega
 rw[e];cases l.all _<;>cases decide (l.length=8)<;>rfl
theorem Wi9{t:List Int×List Int×Int}(h1:t.1.length<=1048576)(h2:t.2.1.length<=1048576)(hN:1048576<N):Zkk N t=ret (WtL t):=by
 unfold Zkk WtL;rw[Whp h1 hN,WiJ h2 hN,Wl];cases WeD t.1<;>cases Wl4 t.2.1<;>rfl
def WcF:List Int->Nat->List Int->List Int
 | [],_,l=>l
 |x::m,k,l=>WcF m (k+1) (if x>0 then Wef l k (x-1)else l)
def WjP(m:List Int):List Int:=WcF m 0 (Xt 16 0)
theorem Wgx:SlOk (Xt 16 0) where
 len:=by simp
 each:=λi h=>.inl (Xbg ..)
 one:=λi j hi hj _ h=>absurd (Xbg ..) h
theorem WiU:∀(m:List Int) (k:Nat) (l:List Int),k+m.length<=8->(∀x∈m,0<=x/\x<=65536)->SlOk l->SlOk (WcF m k l)
 | [],_,l,_,_,h=>h
 |x::m,k,l,hk,hx,h=>by
  have h0:=hx x (Xi ..);rw[Xr]at hk;refine WiU m (k+1) _ (by omega) (λy hy=>hx y (Xf _ hy)) ?_;split
  .exact Wfb h (by omega) (by omega)
  .exact h
theorem Wrf{m:List Int}(hl:m.length=8)(hx:∀x∈m,0<=x/\x<=65536):SlOk (WjP m):=WiU m 0 _ (by omega) hx Wgx
theorem WgK{m:List Int}(hl:m.length=8)(hx:∀x∈m,0<=x/\x<=65536)(hN:1048576<N):Zbd N m=ret (WjP m):=by
 have hm:Wl4 m=true:=by unfold Wl4;simp only[Xh,decide_eq_true_eq,Xae];exact⟨hl,hx⟩
 unfold Zbd WjP;rw[WiJ (by omega) hN,hm];simp only[ret,Xc,Xab,cond_false];rw[show Znr N=ret (Xt 16 0)from rfl];simp only[ret,Xc];have lp:∀(d j n:Nat) (l:List Int),j+d=m.length->d<n->SlOk l->Zbl N m (λgG bS dh=>(some ((),(dh,())))) n (j:Int) l=ret (WcF (m.drop j) j l):=by
  intro d
  induction d with
  |zero=>
   intro j n l hj hn hs;obtain⟨n,rfl⟩:∃n',n=n'+1:=⟨n-1,by omega⟩;have:j=m.length:=by omega
   subst this;simp only[Zbl,Waw (Xn _),cond_false,Xdp,WcF]
  |succ d ih=>
   intro j n l hj hn hs;obtain⟨n,rfl⟩:∃n',n=n'+1:=⟨n-1,by omega⟩;have hlt:j<m.length:=by omega
   have hb:=hx m[j] (Xx hlt);simp only[Zbl,Waf hlt,Wn hlt,Wq hlt,Wg (show j<4611686018427387904 by omega),cond_true,Wav];rw[Xcc hlt,WcF];by_cases h0:m[j]>0
   .rw[if_pos h0,if_pos h0,Wan (by unfold I64;omega),WcS hs (by omega) (by omega) hN];exact ih (j+1) n _ (by omega) (by omega) (Wfb hs (by omega) (by omega))
   .rw[if_neg h0,if_neg h0];exact ih (j+1) n _ (by omega) (by omega) hs
 have:=lp m.length 0 N (Xt 16 0) (by omega) (by omega) Wgx;rw[Xce]at this;exact this
end
section
abbrev Hd:=Int×Int×Int
def HdV(h:Hd):Prop:=(1<=h.1/\h.1<=9)/\(0<=h.2.1/\h.2.1<=8)/\1<=h.2.2/\h.2.2<=2
def HdB(a b:Hd):Prop:=cfH a b<0/\(a.2.1=b.2.1->a.2.2≠2/\b.2.2≠2)
structure HOk(l:List Hd):Prop where
 val:∀h∈l,HdV h
 up:l.Pairwise HdB
theorem HOk.ris{l:List Hd}(h:HOk l):Ris cfH l:=h.up.imp λh=>h.1
def WeO(l:List Hd)(who:Int):List Int:=(l.filter λh=>decide (h.1=who)).map (·.2.1)
def blk(who what mode:Int)(h:Hd):Bool:=decide (h.2.1=what)&&(decide (h.1≠who)&&(decide (mode=2)||decide (h.2.2=2)))
def Wev(l:List Hd)(who what mode:Int):List Int:=(l.filter (blk who what mode)).map (·.1)
def WtB(who what:Int)(h:Hd):Bool:=decide (h.1=who)&&decide (h.2.1=what)
def Woh(l:List Hd)(who what:Int):Int:=match fnd (WtB who what) l 0 with
 |some r=>r.2.2.2
 |none=>0
def WlD(a b:Int):Int:=if a<=b then b else a
def WfL(l:List Hd)(who what mode:Int):List Hd:=WfJ cfH l (who,what,WlD (Woh l who what) mode)
def Wak(l:List Hd)(who what mode:Int):Option (List Hd):=if Wev l who what mode= []then some (WfL l who what mode)else none
def WV(l:List Hd)(who:Int):List Hd:=l.filter λh=>!(h.1==who)
theorem Wc9{α:Type}{a b:Int}{x y:α}:(bif a !=b then x else y)=if a=b then y else x:=by
 by_cases h:a=b
 .have:(a !=b)=false:=by simpa using h
  rw[this,if_pos h];rfl
 .have:(a !=b)=true:=by simpa using h
  rw[this,if_neg h];rfl
theorem WuY{α:Type}{cf:α->α->Int}(hc:Lin cf){L M:List α}(hL:Ris cf L)(hM:Ris cf M)(hm:∀x,x∈L↔x∈M):L=M:=by
 rw[←WnV hc hM (hL.imp λh=>.inl h) hm,WnV hc hL (hL.imp λh=>.inl h) λx=>Iff.rfl]
theorem apH{a b:Hd}:Ap cfH a b↔¬(a.1=b.1/\a.2.1=b.2.1):=by unfold Ap;rw[WbG,WbG];omega
theorem WlY{a b c d:Hd}(h1:a.1=c.1)(h2:a.2.1=c.2.1)(h3:b.1=d.1)(h4:b.2.1=d.2.1):cfH a b<0↔cfH c d<0:=by rw[WbG,WbG];omega
variable{N:Nat}{l:List Hd}{who what mode:Int}
theorem Wty(h:Ris cfH l){i:Nat}(hi:i<l.length){e:Hd}(h1:e.1=l[i].1)(h2:e.2.1=l[i].2.1):Ris cfH (l.set i e):=by
 unfold Ris at*;rw[Xav]at*;intro a b ha hb cu;rw[Xaa]at ha hb;rw[Xam,Xam];have:=h a b ha hb cu;by_cases c1:i=a
 .subst c1;rw[if_pos rfl,if_neg (by omega)];exact(WlY h1 h2 rfl rfl).2 this
 .rw[if_neg c1];by_cases c2:i=b
  .subst c2;rw[if_pos rfl];exact(WlY rfl rfl h1 h2).2 this
  .rw[if_neg c2];exact this
theorem Wvp(h:Ris cfH l){i:Nat}(hi:i<l.length){e:Hd}(h1:e.1=l[i].1)(h2:e.2.1=l[i].2.1):l.set i e=WfJ cfH l e:=by
 refine WuY Wni (Wty h hi h1 h2) (WcN Wni h) λx=>?_;rw[(WmD Wni (h.imp λh=>.inl h) hi (by rw[apH];intro h;exact h ⟨h1.symm,h2.symm⟩)).2 x,Wbu Wni h]
theorem Wvy{h:Hd}:(decide (1<=h.1)&&decide (h.1<=9))=true/\(decide (0<=h.2.1)&&decide (h.2.1<=8))=true/\(decide (1<=h.2.2)&&decide (h.2.2<=2))=true↔HdV h:=by
 unfold HdV;simp only[Xh,decide_eq_true_eq]
theorem Wfn{h:Hd}(hv:HdV h):Zh1 N h.1 h.2.1 h.2.2=ret true:=by
 obtain⟨a,b,c⟩:=Wvy.2 hv;unfold Zh1;simp only[Wk,ret,Xc,a,b,c,cond_true]
theorem WmE{a b:Hd}(ha:HdV a)(hb:HdV b):Zho N a b=ret (cfH a b):=by
 obtain⟨a1,a2,a3⟩:=ha;obtain⟨b1,b2,b3⟩:=hb;unfold Zho cfH;rw[Wan (by unfold I64;omega),Wan (by unfold I64;omega)];by_cases h:a.2.1=b.2.1
 .rw[show(a.2.1 !=b.2.1)=false by simpa using h,show(a.2.1==b.2.1)=true by simpa using h];rfl
 .rw[show(a.2.1 !=b.2.1)=true by simpa using h,show(a.2.1==b.2.1)=false by simpa using h];rfl
theorem WbU(h:HOk l)(hl:l.length<=1048576)(hN:1048576<N):Zeg N l=ret true:=by
 have lp:∀(d j n:Nat),j+d=l.length->d<n->Zau N l (some ((),(false,()))) (λgG bS=>(some ((),(true,())))) n (j:Int)=ret true:=by
  intro d
  induction d with
  |zero=>
   intro j n hj hn;obtain⟨n,rfl⟩:∃n',n=n'+1:=⟨n-1,by omega⟩;have:j=l.length:=by omega
   subst this;simp only[Zau,Waw (Xn _),cond_false]
  |succ d ih=>
   intro j n hj hn;obtain⟨n,rfl⟩:∃n',n=n'+1:=⟨n-1,by omega⟩;have hlt:j<l.length:=by omega
   have hv:=h.val l[j] (Xx hlt);have aW:=ih (j+1) n (by omega) (by omega);simp only[Zau,Waf hlt,Wn hlt,Wq hlt,Wg (show j<4611686018427387904 by omega),cond_true,Wfn hv,ret,Xc,Xab,cond_false,aW];by_cases h0:j=0
   .subst h0;rfl
   .have e1:decide ((j:Int)>0)=true:=by simp;omega
    have e2:W1 .i64 (j:Int) 1=((j-1:Nat):Int):=by rw[Wan (by unfold I64;omega)];omega
    have aY:j-1<l.length:=by omega
    have hw:=h.val l[j-1] (Xx aY);have hb:=Xav.1 h.up (j-1) j aY hlt (by omega);simp only[e1,e2,cond_true,Wn aY,Wq aY,WmE hw hv,ret,Xc];rw[decide_eq_false (show¬(cfH l[j-1] l[j]>=0) by have:=hb.1;omega)];simp only[cond_false,Wu];by_cases hs:l[j-1].2.1=l[j].2.1
    .rw[if_pos hs,if_neg (hb.2 hs).2,if_neg (hb.2 hs).1]
    .rw[if_neg hs]
 exact lp l.length 0 N (by omega) (by omega)
theorem WiL{α β R:Type}{body:Int->α->List β->(List β->Option R)->Option R}{K:Int->List β->Option R}{p:α->Bool}{f:α->β}:∀(l:List α) (j:Nat) (o:List β),o.length+l.length<=2000000->
  (∀(j:Nat) x (v:List β) k,x∈l->v.length<=2000000->body j x v k=bif p x then k (v++ [f x])else k v)->Wb7 body K l j o=K ((j+l.length:Nat):Int) (o++(l.filter p).map f)
 | [],j,o,_,_=>by simp[Wb7]
 |x::l,j,o,h,hb=>by
  rw[Xr]at h;rw[Wb7,hb j x o _ (Xi ..) (by omega),Xbi];have ih:=λo' gM=>WiL (body:=body) (K:=K) (p:=p) (f:=f) l (j+1) o' gM λj y v k hy=>hb j y v k (Xf _ hy);cases hp:p x
  .simp only[cond_false,Xbm,if_false];rw[ih o (by omega),Xr,show j+1+l.length=j+(l.length+1) by omega]
  .simp only[cond_true,if_true];rw[ih _ (by simp;omega),Xr,show j+1+l.length=j+(l.length+1) by omega];simp
theorem WiH(h:HOk l)(hl:l.length<=1048576)(hN:1048576<N):Zfz N l who=ret (WeO l who):=by
 unfold Zfz WeO;rw[WbU h hl hN];simp only[ret,Xc,Xab,cond_false];have h1:=WE (l:=l) (V:=List Int) (R:=Unit×(List Int×Unit)) (lp:=λn j v=>Zb4 N who l (λaO bh bb=>(some ((),(bb,())))) n j v) (n:=N) (by omega)
  (body:=λj x v k=>bif x.1==who then(bif Wy (v.length+ [x.2.1].length)then k (Xe v [x.2.1])else none)else k v) (K:=λ_ v=>ret v)
  (λn i v hi=>by simp only[Zb4,Waf hi,Wn hi,Wq hi,Wg (show i<4611686018427387904 by omega),cond_true])
  (λn v=>by simp only[Zb4,Waw (Xn l.length),cond_false]) []
 refine h1.trans ?_;rw[WiL (p:=λh=>decide (h.1=who)) (f:=(·.2.1)) l 0 [] (by simp;omega) (λj x v k _ hv=>by rw[Ws (by simp;omega)];simp only[Wu,Wav,cond_true,Xaf])];rfl
theorem Wi3(h:HOk l)(hm:1<=mode/\mode<=2)(hl:l.length<=1048576)(hN:1048576<N):Zh2 N l who what mode=ret (Wev l who what mode):=by
 unfold Zh2 Wev;rw[WbU h hl hN];simp only[ret,Xc,Xab,cond_false,Wk,decide_eq_true hm.1,decide_eq_true hm.2,Xbu];have h1:=WE (l:=l) (V:=List Int) (R:=Unit×(List Int×Unit)) (lp:=λn j v=>Za9 N who what mode l (λeE ik da=>(some ((),(da,())))) n j v) (n:=N) (by omega)
  (body:=λj x v k=>bif x.2.1==what then(bif x.1 !=who then(bif mode==2 then(bif Wy (v.length+ [x.1].length)then k (Xe v [x.1])else none)else(bif x.2.2==2 then(bif Wy (v.length+ [x.1].length)then k (Xe v [x.1])else none)else k v))else k v)else k v) (K:=λ_ v=>ret v)
  (λn i v hi=>by simp only[Za9,Waf hi,Wn hi,Wq hi,Wg (show i<4611686018427387904 by omega),cond_true])
  (λn v=>by simp only[Za9,Waw (Xn l.length),cond_false]) []
 refine h1.trans ?_;rw[WiL (p:=blk who what mode) (f:=(·.1)) l 0 [] (by simp;omega) (λj x v k _ hv=>by
  rw[Ws (by simp;omega)];unfold blk;simp only[Wu,Wc9,cond_true,Xaf];by_cases c1:x.2.1=what<;>by_cases c2:x.1=who<;>by_cases c3:mode=2<;>by_cases c4:x.2.2=2<;>simp[c1,c2,c3,c4])]
 rfl
theorem WuX(h:HOk l):0<=Woh l who what/\Woh l who what<=2:=by
 unfold Woh;cases hf:fnd (WtB who what) l 0 with
 |none=>simp
 |some r=>
  have:=WcU hf;have:=h.val r.2 (Xay this.2.2.2);unfold HdV at this;simp only;omega
theorem Wir(h:HOk l)(hw:1<=who/\who<=9)(ht:0<=what/\what<=8)(hm:1<=mode/\mode<=2)(hl:l.length<=1048000)(hN:1048576<N):
  Zg4 N l who what mode=some ((),((Wak l who what mode).getD l,((Wak l who what mode).isSome,()))):=by
 unfold Zg4 Wak;have ll:Zd6 N l=ret l:=by unfold Zd6;rw[Ws (by omega)];rfl
 have zB:Zh1 N who what mode=ret true:=Wfn (h:=(who,what,mode)) ⟨hw,ht,hm⟩;rw[ll,WbU h (by omega) hN,zB,Wi3 h hm (by omega) hN];simp only[ret,Xc,Xab,cond_false,Wav];by_cases hb:Wev l who what mode= []
 .rw[if_neg (by rw[hb];simp[Wb]),if_pos hb];have h1:=Wly (l:=l) (p:=WtB who what) (N:=N) (lp:=λn j=>Zb5 N who what mode (Wb l) l (λcj=>(some ((),(cj,(true,()))))) (λfW sQ=>
  (bif Wy ((Xa l)+(Xa ([(who,(what,mode))])))then
 ((Zw N (Xe l ([(who,(what,mode))]))).bind λee=>
 (some ((),(ee.1.1,(true,())))))else none)) n j)
   (K0:=λj=>some ((),(l.set j.toNat ((l.getD j.toNat (0,0,0)).1,(l.getD j.toNat (0,0,0)).2.1,WvW (l.getD j.toNat (0,0,0)).2.2 mode),(true,())))) (K1:=(bif Wy ((Xa l)+(Xa ([(who,(what,mode))])))then
 ((Zw N (Xe l ([(who,(what,mode))]))).bind λee=>
 (some ((),(ee.1.1,(true,())))))else none)) (by omega) (by omega)
   (λn j hj=>by
    simp only[Zb5,Waf hj,Wn hj,Wq hj,Wg (show j<4611686018427387904 by omega),cond_true];unfold WtB;simp only[Wu,WtP,Wav])
   (λn=>by simp only[Zb5,Waw (Xn _),cond_false])
  rw[h1];unfold WfL Woh;cases hf:fnd (WtB who what) l 0 with
  |some r=>
   obtain⟨g1,g2,g3,g4⟩:=WcU hf;rw[Xaw]at g3;rw[Xdc,Xq g3]at g4;injection g4 with g4;unfold WtB at g1;simp only[Xh,decide_eq_true_eq]at g1;simp only[Wq g3,g4,Xdz,Xfh];rw[Xj];have:WvW r.2.2.2 mode=WlD r.2.2.2 mode:=by unfold WvW WlD;first|rfl|omega|(split<;>split<;>omega)
   rw[this,g1.1,g1.2,Wvp h.ris g3 (e:=(who,what,WlD r.2.2.2 mode)) (by rw[g4];exact g1.1.symm) (by rw[g4];exact g1.2.symm)]
  |none=>
   have hn:=WhQ hf;simp only;rw[Ws (by simp;omega)];have zC:WlD 0 mode=mode:=by unfold WlD;rw[if_pos (by omega)]
   have lj:=Wjp (cf:=cfH) (L:=l) (e:=(who,what,mode)) (h.ris.imp λh=>.inl h) (λx hx=>by
    rw[apH];have:=hn x hx;unfold WtB at this;simp only[Xcn,decide_eq_false_iff_not]at this;simp only;omega)
   unfold Zw;simp only[cond_true,Xaf];rw[WoE (rng:=WvI) (N:=N) Wni (M:=WfJ cfH l (who,what,mode)) (WcN Wni h.ris) lj.1 (λx=>by rw[lj.2 x,Wbu Wni h.ris]) (λx hx=>by
    rcases Xm.1 hx with hx|hx
    .have:=h.val x hx;unfold HdV at this;unfold WvI WuE;simp;omega
    .rw[Xac]at hx;subst hx;unfold WvI WuE;simp;omega) (by simp;omega)]
   simp only[Xc,zC,Xdz,Xfh]
 .rw[if_pos (by
   have:(Wev l who what mode).length≠0:=λh=>hb (List.eq_nil_of_length_eq_zero h);unfold Wb;omega),if_neg hb]
  rfl
theorem Wjv(h:HOk l)(hw:1<=who/\who<=9)(ht:0<=what/\what<=8)(hm:1<=mode/\mode<=2)(hb:Wev l who what mode= []):HOk (WfL l who what mode):=by
 have lD:=WuX (who:=who) (what:=what) h;have hbl:∀x∈l,x.2.1=what->x.1≠who->mode≠2/\x.2.2≠2:=λx hx h1 h2=>by
  refine Classical.byContradiction λhc=>?_;have:x.1∈Wev l who what mode:=Xu.2 ⟨x,Xar.2 ⟨hx,by unfold blk;simp[h1,h2];omega⟩,rfl⟩;rw[hb]at this;cases this
 have nJ:∀x∈l,x.2.1=what->x.1≠who->Woh l who what≠2:=λx hx h1 h2=>by
  unfold Woh;cases hf:fnd (WtB who what) l 0 with
  |none=>simp
  |some r=>
   obtain⟨g1,g2,g3,g4⟩:=WcU hf;rw[Xaw]at g3;rw[Xdc,Xq g3]at g4;injection g4 with g4;unfold WtB at g1;simp only[Xh,decide_eq_true_eq]at g1;obtain⟨j,hj,rfl⟩:=Xaq hx;have hp:=Xav.1 h.up;simp only;rw[←g4]at g1⊢;rcases Xda r.1 j with hlt|heq|hlt
   .exact((hp r.1 j g3 hj hlt).2 (by rw[h1,g1.2])).1
   .subst heq;exact absurd g1.1 h2
   .exact((hp j r.1 hj g3 hlt).2 (by rw[h1,g1.2])).2
 unfold WfL;refine⟨λx hx=>?_,?_⟩
 .rcases(Wbu Wni h.ris).1 hx with rfl|hx
  .refine⟨hw,ht,?_⟩;simp only;unfold WlD;split<;>omega
  .exact h.val x hx.1
 .have hr:=WcN (e:=(who,what,WlD (Woh l who what) mode)) Wni h.ris;have hmem:=λx=>Wbu (e:=(who,what,WlD (Woh l who what) mode)) (x:=x) Wni h.ris;have xQ:∀x∈l,x.2.1=what->x.1≠who->WlD (Woh l who what) mode≠2:=λx hx h1 h2=>by
   have:=nJ x hx h1 h2;have:=(hbl x hx h1 h2).1;unfold WlD;split<;>omega
  unfold Ris at hr;rw[Xav]at hr⊢;intro i j hi hj hij;refine⟨hr i j hi hj hij,λhs=>?_⟩;have hlt:=hr i j hi hj hij;have m1:=(hmem _).1 (Xx hi);have m2:=(hmem _).1 (Xx hj);generalize (WfJ cfH l (who,what,WlD (Woh l who what) mode))[i]=x at*;generalize (WfJ cfH l (who,what,WlD (Woh l who what) mode))[j]=y at*;rcases m1 with rfl|m1<;>rcases m2 with rfl|m2
  .exact absurd hlt (Wni.irr _)
  .have hk:=apH.1 m2.2;simp only at hk hs;exact⟨xQ y m2.1 hs.symm (λe=>hk ⟨e,hs.symm⟩),(hbl y m2.1 hs.symm (λe=>hk ⟨e,hs.symm⟩)).2⟩
  .have hk:=apH.1 m1.2;simp only at hk hs;exact⟨(hbl x m1.1 hs (λe=>hk ⟨e,hs⟩)).2,xQ x m1.1 hs (λe=>hk ⟨e,hs⟩)⟩
  .obtain⟨a,ha,rfl⟩:=Xaq m1.1;obtain⟨b,hb',rfl⟩:=Xaq m2.1;have hp:=Xav.1 h.up;rcases Xda a b with cu|cu|cu
   .exact(hp a b ha hb' cu).2 hs
   .subst cu;exact absurd hlt (Wni.irr _)
   .exact absurd (Wni.tr _ _ _ hlt (hp b a hb' ha cu).1) (Wni.irr _)
theorem Wiz(h:HOk l):HOk (WV l who):=⟨λx hx=>h.val x (Xar.1 hx).1,h.up.filter _⟩
theorem Wld(h:HOk l):l.length<=81:=by
 have key:∀(l:List Hd) (c:Int),Ris cfH l->(∀e∈l,HdV e/\c<=9*e.2.1+e.1)->1<=c->(l.length:Int)<=82-c\/l= []:=by
  intro l
  induction l with
  |nil=>intro c _ _ _;exact .inr rfl
  |cons a l ih=>
   intro c hr hb hc;left;have h1:=List.pairwise_cons.1 hr;have ha:=hb a (Xi ..);unfold HdV at ha;rcases ih (9*a.2.1+a.1+1) h1.2 (λe he=>⟨(hb e (Xf _ he)).1,by
    have:=h1.1 e he;rw[WbG]at this;have hv:=(hb e (Xf _ he)).1;unfold HdV at hv;omega⟩) (by omega)with h|h
   .rw[Xr];omega
   .subst h;simp;omega
 rcases key l 1 h.ris (λe he=>⟨h.val e he,by have:=h.val e he;unfold HdV at this;omega⟩) (by omega)with h|h
 .omega
 .rw[h];simp
theorem Wid{α V R:Type}{body:Int->α->V->(V->Option R)->Option R}{K:Int->V->Option R}{p:α->Bool}{E:Int->V->Option R}:∀(l:List α) (j:Nat) (v:V),(∀(j:Nat) x v k,x∈l->body j x v k=bif p x then E j v else k v)->
  (∃a x r,l=a++x::r/\(∀y∈a,p y=false)/\p x=true/\Wb7 body K l j v=E ((j+a.length:Nat):Int) v)\/((∀y∈l,p y=false)/\Wb7 body K l j v=K ((j+l.length:Nat):Int) v)
 | [],j,v,_=>.inr ⟨by simp,rfl⟩
 |x::l,j,v,h=>by
  rw[Wb7,h j x v _ (Xi ..)];cases hp:p x
  .simp only[cond_false];rcases Wid (E:=E) l (j+1) v λj y v k hy=>h j y v k (Xf _ hy)with⟨a,y,r,h1,h2,h3,h4⟩|⟨h1,h2⟩
   .refine .inl ⟨x::a,y,r,by rw[h1];rfl,λz hz=>?_,h3,?_⟩
    .rcases Xo.1 hz with rfl|hz
     .exact hp
     .exact h2 z hz
    .rw[h4,Xr,show j+1+a.length=j+(a.length+1) by omega]
   .refine .inr ⟨λz hz=>?_,?_⟩
    .rcases Xo.1 hz with rfl|hz
     .exact hp
     .exact h1 z hz
    .rw[h2,Xr,show j+1+l.length=j+(l.length+1) by omega]
  .exact .inl ⟨[],x,l,rfl,by simp,hp,rfl⟩
theorem WrA{N:Nat}(a0:Int){R:Type}(K:Int->Int->Bool->List Hd->Int->Option R):
  ∀(r a m:List Hd) (n:Nat),r.length<n->a.length+m.length+r.length<=1048576->∃m',
   Zd N K n (a.length:Int) ((a.length+m.length:Nat):Int) (a++m++r) a0=
    K ((a++r.filter λx=>!(x.1==a0)).length:Int) ((a.length+m.length+r.length:Nat):Int) false ((a++r.filter λx=>!(x.1==a0))++m') a0
 | [],a,m,0,h,_=>by simp at h
 | [],a,m,n+1,h,_=>by
  refine⟨m,?_⟩;have e1:decide (((a.length+m.length:Nat):Int)<Wb (a++m++ []))=false:=by simp[Wb]
  simp only[Zd,e1,cond_false];simp
 |x::r,a,m,0,h,_=>by simp at h
 |x::r,a,m,n+1,h,hb=>by
  simp only[Xr]at h hb;have hj:a.length+m.length<(a++m++x::r).length:=by simp
  have hi:a.length<(a++m++x::r).length:=by simp;omega
  have hx:Xd (a++m++x::r) (a.length+m.length) ((0:Int),((0:Int),(0:Int)))=x:=by
   have:a.length+m.length=(a++m).length:=by simp
   rw[this,Xbc,List.getElem?_append_right (Xn _)];simp
  cases hp:x.1==a0
  .obtain⟨m2,qh,wD⟩:∃m2:List Hd,m2.length=m.length/\(a++m++x::r).set a.length x=(a++ [x])++m2++r:=by
    cases m with
    |nil=>exact⟨[],rfl,by rw[Xcy,Wdh];simp⟩
    |cons y m=>exact⟨m++ [x],by simp,by rw[show a++(y::m)++x::r=a++y::(m++x::r) by simp,Wdh];simp⟩
   obtain⟨m',ih⟩:=WrA (N:=N) a0 K r (a++ [x]) m2 n (by omega) (by simp;omega);refine⟨m',?_⟩;simp only[Zd,Zff,Waf hj,Wn hj,Wn hi,Xj,hx,hp,Xc,cond_true,Xdm,Xj,wD,
    Wg (show a.length<4611686018427387904 by omega),Wg (show a.length+m.length<4611686018427387904 by omega)]
   have l1:(a++ [x]).length=a.length+1:=by simp
   rw[l1,qh,show a.length+1+m.length=a.length+m.length+1 by omega]at ih;rw[ih];simp only[Xbi,hp,Xdm,if_true,Xbv,Xeo,Xr];rw[show a.length+m.length+1+r.length=a.length+m.length+(r.length+1) by omega]
  .obtain⟨m',ih⟩:=WrA (N:=N) a0 K r a (m++ [x]) n (by omega) (by simp;omega);refine⟨m',?_⟩;simp only[Zd,Zff,Waf hj,Wn hj,Wn hi,Xj,hx,hp,Xc,cond_true,cond_false,Xab,
    Wg (show a.length+m.length<4611686018427387904 by omega)]
   simp only[Xz,Xr,Xeh,Xaw]at ih;rw[show a.length+(m.length+1)=a.length+m.length+1 by omega,show a++(m++ [x])++r=a++m++x::r by simp]at ih;rw[ih];simp only[Xbi,hp,Xab,if_false,Xbm,Xr];simp only[Xz];rw[show a.length+m.length+1+r.length=a.length+m.length+(r.length+1) by omega]
theorem Wqb{N:Nat}{s:List Hd}{a0:Int}(hN:1048576<N)(hs:s.length<=100000):
  Zq N s a0=some ((a0,()),(s.filter λx=>!(x.1==a0),())):=by
 unfold Zq;have h1:=WE (l:=s) (V:={v:Int//v=a0}) (R:=Kh×Kh) (lp:=λn j v=>Zj N s (λbS bf=>some ((bf,()),(bS,()))) (λeE ik dI=>some ((dI,()),((-1:Int),()))) n j v.1) (n:=N) (by omega)
  (body:=λj x v k=>bif x.1==a0 then some ((v.1,()),(j,()))else k v) (K:=λ_ v=>some ((v.1,()),((-1:Int),())))
  (λn i v hi=>by
   obtain⟨v,rfl⟩:=v;simp only[Zj,Waf hi,Wn hi,Wq hi,Wg (show i<4611686018427387904 by omega),cond_true,Zff,Xc])
  (λn v=>by simp only[Zj,Waw (Xn s.length),cond_false]) ⟨a0,rfl⟩
 simp only[]at h1;unfold Zy;rw[h1];rcases Wid (body:=λj x (v:{v:Int//v=a0}) k=>bif x.1==a0 then some ((v.1,()),(j,()))else k v) (K:=λ_ v=>(some ((v.1,()),((-1:Int),())):Option (Kh×Kh))) (p:=λx=>x.1==a0)
  (E:=λj v=>some ((v.1,()),(j,()))) s 0 ⟨a0,rfl⟩ (λj x v k _=>rfl)with⟨a,x,r,bH,ha,hx,hr⟩|⟨ha,hr⟩
 .rw[hr];simp only[Xc,Xaw];have e0:((a.length:Int)== -1)=false:=by simp
  rw[e0,Wg (show a.length<4611686018427387904 by rw[bH]at hs;simp at hs;omega)];simp only[cond_false];obtain⟨m',hd⟩:=WrA (N:=N) a0 (λfX zf eE cj dI=>
     (bif (decide ((0:Int)<=fX))&&(decide (fX<=((Xa cj):Int)))then
      (bif (decide ((0:Int)<=fX))&&(decide (fX<=((Xa ((Xau (Xb fX) cj)++Xt ((Xa cj) -(Xb fX)) ((0:Int),((0:Int),(0:Int)))++(Xdd (Xa cj) cj))):Int)))then
       (some ((dI,()),(Xau (Xb fX) ((Xau (Xb fX) cj)++Xt ((Xa cj) -(Xb fX)) ((0:Int),((0:Int),(0:Int)))++(Xdd (Xa cj) cj)),())))else none)else none)) r a [x] N (by rw[bH]at hs;simp at hs;omega) (by rw[bH]at hs;simp at hs;simp;omega)
  rw[show a++ [x]++r=s by rw[bH];simp]at hd;simp only[Xr,Xeh,Xaw]at hd;rw[hd];have hf:(s.filter λx=>!(x.1==a0))=a++r.filter λx=>!(x.1==a0):=by
   rw[bH,List.filter_append,Xbi];have:(a.filter λx=>!(x.1==a0))=a:=Xgk.2 λy hy=>by simp[ha y hy]
   rw[this];simp[hx]
  rw[←hf];generalize (s.filter λx=>!(x.1==a0))=f;have c1:(decide ((0:Int)<=(f.length:Int))&&decide ((f.length:Int)<=((Xa (f++m')):Int)))=true:=by
   rw[Xh];refine⟨by simp,decide_eq_true ?_⟩;rw[Xz];omega
  rw[c1];simp only[cond_true,Xj,List.take_left',List.take_append_of_le_length (Xn f.length),List.take_length];have c2:(decide ((0:Int)<=(f.length:Int))&&decide ((f.length:Int)<=((Xa (f++Xt ((f++m').length-f.length) ((0:Int),((0:Int),(0:Int)))++Xdd (f++m').length (f++m'))):Int)))=true:=by
   rw[Xh];refine⟨by simp,decide_eq_true ?_⟩;rw[Xz,Xz];omega
  rw[c2];simp[Xbv]
 .rw[hr];simp only[Xc];have:(s.filter λx=>!(x.1==a0))=s:=Xgk.2 λy hy=>by simp[ha y hy]
  rw[this];rfl
theorem WhF(h:HOk l)(hl:l.length<=100000)(hN:1048576<N):Zkl N l who=ret (WV l who):=by
 have ll:Zd6 N l=ret l:=by unfold Zd6;rw[Ws (by omega)];rfl
 unfold Zkl;rw[ll,WbU h (by omega) hN];simp only[ret,Xc,Xab,cond_false];rw[Wqb hN hl];rfl
end
section
structure Cm where
 who:Int:=0
 rv:Int:=0
 phase:Int:=0
 pos:Int:=0
 wv:Int:=0
 puts:List Rw:=[]
 reads:List Int:=[]
def Cm.e(c:Cm):Int×Int×Int×Int×Int×List Kc×List Int:=(c.who,c.rv,c.phase,c.pos,c.wv,c.puts,c.reads)
def Cm.steps(c:Cm):Int:=
 if c.phase=1\/c.phase=4\/c.phase=5\/c.phase=7 then c.puts.length else if c.phase=3 then c.reads.length else 1
def Waq(c:Cm)(n:Int):Cm:=if n=0 then{c with phase:=8,pos:=0}else{c with phase:=7,pos:=n-1}
def Wa9(c:Cm)(ph:Int):Int:=
 if(ph=3/\c.reads.length=0\/ph=4)/\c.puts.length=0 then 6 else if ph=3/\c.reads.length=0 then 4 else ph
def Wdm(c:Cm)(ph:Int):Cm:={c with phase:=Wa9 c ph,pos:=0}
def WQ(c:Cm)(ph:Int):Cm:=if c.pos+1=c.steps then Wdm c ph else{c with pos:=c.pos+1}
def zWd:Wd:=(0,0,0)
def WN(m:Mm)(i:Int):Wd:=WbL m.2 i zWd
def WqF(m:Mm)(i:Int)(w:Wd):Mm:=(m.1,WlR m.2 i w)
def WnN(m:Mm)(i who:Int):Mm:=WqF m i ((WN m i).1,(WN m i).2.1,who)
def Wem(m:Mm)(i who v:Int):Mm:=if(WN m i).2.2=who then WqF m i (v,(WN m i).2)else m
def Wb5(m:Mm)(i who ver:Int):Mm:=if(WN m i).2.2=who/\(WN m i).2.1<=ver/\ver<=m.1 then WqF m i ((WN m i).1,ver,0)else m
def WB(m:Mm)(c:Cm):Mm×Cm:=
 let p:=WbL c.puts c.pos (0,0)
 if c.phase=1 then(if(WN m p.1).2.2=0 then(WnN m p.1 c.who,WQ c 2)else(m,Waq c c.pos))else
 if c.phase=2 then(if(tick m).2=0 then((tick m).1,Waq c c.puts.length)else((tick m).1,Wdm {c with wv:=(tick m).2} 3))else
 if c.phase=3 then
  let w:=WN m (WbL c.reads c.pos 0)
  if(w.2.2≠0/\w.2.2≠c.who)\/w.2.1>c.rv then(m,Waq c c.puts.length)else(m,WQ c 4)
 else
 if c.phase=4 then(Wem m p.1 c.who p.2,WQ c 5)else
 if c.phase=5 then(Wb5 m p.1 c.who c.wv,WQ c 6)else
 if c.phase=7 then(Wb5 m p.1 c.who (WN m p.1).2.1,Waq c c.pos)else
 (m,c)
def Wag(c:Cm):Cm:=
 if c.phase=1 then Waq c c.pos else if c.phase=2\/c.phase=3 then Waq c c.puts.length else c
def Wbc(who rv:Int)(puts reads:List Rw):Cm:=
 {who:=who,rv:=rv,phase:=if(Wc3 puts).length=0 then 2 else 1,puts:=Wc3 puts,reads:=(Wc3 reads).map (·.1)}
structure CmOk(c:Cm):Prop where
 who:1<=c.who/\c.who<=99
 rv:0<=c.rv/\c.rv<=1000000
 wv:0<=c.wv/\c.wv<=1000000
 phase:1<=c.phase/\c.phase<=8
 rows:Wi5 c.puts
 pup:c.puts.Pairwise λa b=>a.1<b.1
 plen:c.puts.length<=8
 rd:∀x∈c.reads,0<=x/\x<=7
 rup:c.reads.Pairwise (· < ·)
 rlen:c.reads.length<=8
 pos:0<=c.pos/\c.pos<c.steps
section
variable{N:Nat}{c:Cm}{m:Mm}
theorem CmOk.back(h:CmOk c){n:Int}(hn:0<=n/\n<=c.puts.length):CmOk (Waq c n):=by
 unfold Waq;split
 .exact{h with phase:=by(show(1:Int)<=8/\(8:Int)<=8;omega),pos:=by(unfold Cm.steps;simp)}
 .exact{h with phase:=by(show(1:Int)<=7/\(7:Int)<=8;omega),pos:=by(unfold Cm.steps;simp;omega)}
theorem WtI(c:Cm){ph:Int}(h:2<=ph/\ph<=6):2<=Wa9 c ph/\Wa9 c ph<=6:=by unfold Wa9;split<;>(try split)<;>omega
theorem CmOk.adv(h:CmOk c){ph:Int}(hp:2<=ph/\ph<=6)(h5:ph=5->c.puts.length≠0):CmOk (Wdm c ph):=by
 unfold Wdm;have:=WtI c hp;refine{h with phase:=by(show 1<=Wa9 c ph/\Wa9 c ph<=8;omega),pos:=⟨Xv _,?_⟩};unfold Cm.steps;simp only;unfold Wa9;split
 .split
  .omega
  .split<;>omega
 .split
  .split<;>(try split)<;>omega
  .split
   .omega
   .split<;>omega
theorem CmOk.next(h:CmOk c){ph:Int}(hp:2<=ph/\ph<=6)(h5:ph=5->c.puts.length≠0):CmOk (WQ c ph):=by
 unfold WQ;split
 .exact h.adv hp h5
 .have:=h.pos;exact{h with pos:=⟨by show 0<=c.pos+1;omega,by show c.pos+1<c.steps;omega⟩}
theorem WnD(hm:WZ m=true){i:Int}{w:Wd}(hw:Wp5 m.1 w=true):WZ (WqF m i w)=true:=by
 obtain⟨h8,h0,h1,pV⟩:=WD hm;unfold WZ WqF WlR;simp only[Xh,decide_eq_true_eq,Xae,Xaa];refine⟨h8,⟨h0,h1⟩,λx hx=>?_⟩;rcases List.mem_or_eq_of_mem_set hx with h|h
 .exact pV x h
 .subst h;exact hw
theorem We4(hm:WZ m=true){i:Int}(hi:0<=i/\i<=7):Wp5 m.1 (WN m i)=true:=WrV hm hi
theorem Wod(hm:WZ m=true):WZ (tick m).1=true/\0<=(tick m).2/\(tick m).2<=1000000/\((tick m).2≠0->(tick m).2=m.1+1/\(tick m).1=(m.1+1,m.2))/\((tick m).2=0->(tick m).1=m):=by
 obtain⟨h8,h0,h1,pV⟩:=WD hm;unfold tick;split
 .refine⟨?_,by simp only;omega,by simp only;omega,λ_=>⟨rfl,rfl⟩,λh=>by simp only at h;omega⟩;unfold WZ;simp only[Xh,decide_eq_true_eq,Xae];refine⟨h8,⟨by omega,by omega⟩,λw hw=>?_⟩;have:=Wdt.1 (pV w hw);rw[Wdt];omega
 .exact⟨hm,by simp,by simp,λh=>absurd rfl h,λ_=>rfl⟩
theorem Wtd(hm:WZ m=true){i who:Int}(hi:0<=i/\i<=7)(hw:0<=who/\who<=99):WZ (WnN m i who)=true:=by
 have:=Wdt.1 (We4 hm hi);exact WnD hm (by rw[Wdt];simp only;omega)
theorem Wr3(hm:WZ m=true){i who v:Int}(hi:0<=i/\i<=7)(hv:0<=v/\v<=65535):WZ (Wem m i who v)=true:=by
 have:=Wdt.1 (We4 hm hi);unfold Wem;split
 .exact WnD hm (by rw[Wdt];simp only;omega)
 .exact hm
theorem Wj3(hm:WZ m=true){i who ver:Int}(hi:0<=i/\i<=7):WZ (Wb5 m i who ver)=true:=by
 have:=Wdt.1 (We4 hm hi);unfold Wb5;split
 .exact WnD hm (by rw[Wdt];simp only;omega)
 .exact hm
theorem CmOk.put(h:CmOk c)(hp:c.phase=1\/c.phase=4\/c.phase=5\/c.phase=7):∃(j:Nat) (hj:j<c.puts.length),c.pos=j/\WbL c.puts c.pos (0,0)=c.puts[j]/\(0<=c.puts[j].1/\c.puts[j].1<=7)/\0<=c.puts[j].2/\c.puts[j].2<=65535:=by
 have:=h.pos;unfold Cm.steps at this;rw[if_pos hp]at this;have hj:c.pos.toNat<c.puts.length:=by omega
 have hr:=h.rows _ (Xx hj);exact⟨c.pos.toNat,hj,by omega,Wf hj _,hr.1,hr.2⟩
theorem CmOk.read(h:CmOk c)(hp:c.phase=3):∃(j:Nat) (hj:j<c.reads.length),c.pos=j/\WbL c.reads c.pos 0=c.reads[j]/\0<=c.reads[j]/\c.reads[j]<=7:=by
 have:=h.pos;unfold Cm.steps at this;rw[if_neg (by omega),if_pos hp]at this;have hj:c.pos.toNat<c.reads.length:=by omega
 have hr:=h.rd _ (Xx hj);exact⟨c.pos.toNat,hj,by omega,Wf hj _,hr⟩
theorem Wl9(h:CmOk c)(hm:WZ m=true):CmOk (WB m c).2/\WZ (WB m c).1=true:=by
 have bQ:=h.pos;have hl:c.phase=1\/c.phase=4\/c.phase=5\/c.phase=7->c.puts.length≠0:=λhp=>by obtain⟨j,hj,_⟩:=h.put hp;omega
 have aQ:c.phase=1\/c.phase=4\/c.phase=5\/c.phase=7->c.pos<c.puts.length:=λhp=>by unfold Cm.steps at bQ;rw[if_pos hp]at bQ;exact bQ.2
 have hw:=h.who;unfold WB;simp only;split
 .obtain⟨j,hj,e1,e2,e3,e4⟩:=h.put (by omega);rw[e2];split
  .exact⟨h.next (by omega) (by omega),Wtd hm e3 (by omega)⟩
  .exact⟨h.back (by omega),hm⟩
 .split
  .have ht:=Wod hm;split
   .exact⟨h.back (by omega),ht.1⟩
   .refine⟨?_,ht.1⟩;have h':CmOk {c with wv:=(tick m).2}:={h with wv:=⟨ht.2.1,ht.2.2.1⟩};exact h'.adv (by omega) (by omega)
  .split
   .split
    .exact⟨h.back (by omega),hm⟩
    .exact⟨h.next (by omega) (by omega),hm⟩
   .split
    .obtain⟨j,hj,e1,e2,e3,e4⟩:=h.put (by omega);rw[e2];exact⟨h.next (by omega) (λ_=>hl (by omega)),Wr3 hm e3 e4⟩
    .split
     .obtain⟨j,hj,e1,e2,e3,e4⟩:=h.put (by omega);rw[e2];exact⟨h.next (by omega) (by omega),Wj3 hm e3⟩
     .split
      .obtain⟨j,hj,e1,e2,e3,e4⟩:=h.put (by omega);have:=aQ (by omega);rw[e2];exact⟨h.back (by omega),Wj3 hm e3⟩
      .exact⟨h,hm⟩
theorem Wp4(h:CmOk c):CmOk (Wag c):=by
 have bQ:=h.pos;unfold Wag;split
 .have:c.pos<c.puts.length:=by unfold Cm.steps at bQ;rw[if_pos (by omega)]at bQ;exact bQ.2
  exact h.back (by omega)
 .split
  .exact h.back (by omega)
  .exact h
theorem Wlt{who rv:Int}{puts reads:List Rw}(hw:1<=who/\who<=99)(hr:0<=rv/\rv<=1000000):CmOk (Wbc who rv puts reads) where
 who:=hw
 rv:=hr
 wv:=by simp[Wbc]
 phase:=by unfold Wbc;simp only;split<;>omega
 rows:=Wgw
 pup:=WnM puts
 plen:=Wgr puts
 rd:=λx hx=>by
  obtain⟨r,hr,rfl⟩:=Xu.1 hx;exact(Wgw r hr).1
 rup:=by
  unfold Wbc;simp only[Xel];exact WnM reads
 rlen:=by unfold Wbc;simp only[Xaj];exact Wgr reads
 pos:=by
  unfold Wbc Cm.steps;simp only;refine⟨Xv _,?_⟩;split
  .simp
  .simp;omega
theorem cmP(c:Cm):c.e.1=c.who/\c.e.2.1=c.rv/\c.e.2.2.1=c.phase/\c.e.2.2.2.1=c.pos/\c.e.2.2.2.2.1=c.wv/\c.e.2.2.2.2.2.1=c.puts/\c.e.2.2.2.2.2.2=c.reads:=⟨rfl,rfl,rfl,rfl,rfl,rfl,rfl⟩
theorem WbS{who:Int}:Zeh N who=ret (decide (1<=who)&&decide (who<=99)):=by unfold Zeh;rw[Wk];rfl
theorem WdX(hm:WZ m=true):Zb9 N m=ret m:=by
 have:=(WD hm).1;unfold Zb9;rw[Ws (by omega)];rfl
theorem Wjx(h:CmOk c):Zgv N c.e=ret c.e:=by
 unfold Zgv;have:=h.plen;have:=h.rlen;rw[show Zbj N c.e.2.2.2.2.2.1=ret c.puts from WdA (show c.puts.length<=1048576 by omega),show Zu N c.e.2.2.2.2.2.2=ret c.reads from Wcl (show c.reads.length<=1048576 by omega)];rfl
theorem Wmd:Zcz N c.e=ret c.steps:=by
 unfold Zcz Cm.steps;obtain⟨c0,c1,c2,c3,c4,c5,c6⟩:=cmP c;simp only[Wu,c2,c5,c6,Wb];by_cases h1:c.phase=1
 .simp[h1]
 .by_cases h3:c.phase=3
  .simp[h3]
  .by_cases h4:c.phase=4
   .simp[h4]
   .by_cases h5:c.phase=5
    .simp[h5]
    .by_cases h7:c.phase=7
     .simp[h7]
     .simp[h1,h3,h4,h5,h7]
theorem Whg(h:CmOk c)(hN:1048576<N):Zey N c.e=ret true:=by
 obtain⟨c0,c1,c2,c3,c4,c5,c6⟩:=cmP c;have eU:=h.plen;have du:=h.rlen;have hw:=h.who;have kY:=h.rv;have dH:=h.wv;have aV:=h.phase;have bQ:=h.pos;have lq:Wbg c.puts=true:=by unfold Wbg;rw[WkE.2 h.rows,decide_eq_true (by omega)];rfl
 unfold Zey;simp only[c0,c1,c2,c3,c4,c5,c6,WbS,Wk,Wcu (show c.puts.length<=1048576 by omega) hN,Wmd,ret,Xc,decide_eq_true hw.1,decide_eq_true hw.2,decide_eq_true kY.1,decide_eq_true kY.2,decide_eq_true dH.1,decide_eq_true dH.2,decide_eq_true aV.1,decide_eq_true aV.2,lq,Xbu,Xab,cond_false];have vT:c.steps<=8:=by unfold Cm.steps;split<;>(try split)<;>omega
 have tO:W1 .i64 c.steps 1=c.steps-1:=Wan (by unfold I64;omega);rw[tO,decide_eq_true bQ.1,decide_eq_true (show c.pos<=c.steps-1 by omega)];have xR:∀(d j n:Nat),j+d=c.reads.length->d<n->Zbg N c.reads c.e (some ((),(false,()))) (λt22 fh=>(some ((),(true&&true,())))) n (j:Int)=ret true:=by
  intro d
  induction d with
  |zero=>
   intro j n hj hn;obtain⟨n,rfl⟩:∃n',n=n'+1:=⟨n-1,by omega⟩;have:j=c.reads.length:=by omega
   subst this;simp only[Zbg,c6,Waw (Xn _),cond_false];rfl
  |succ d ih=>
   intro j n hj hn;obtain⟨n,rfl⟩:∃n',n=n'+1:=⟨n-1,by omega⟩;have hlt:j<c.reads.length:=by omega
   have aW:=ih (j+1) n (by omega) (by omega);have hv:=h.rd _ (Xx hlt);have aP:W5 c.reads[j]=true:=by unfold W5;simpa using hv
   simp only[Zbg,c6,Waf hlt,Wn hlt,Wq hlt,Wg (show j<4611686018427387904 by omega),cond_true,Wj,ret,Xc,aP,Xab,cond_false,aW];by_cases h0:j=0
   .subst h0;rfl
   .have e1:decide ((j:Int)>0)=true:=by simp;omega
    have e2:W1 .i64 (j:Int) 1=((j-1:Nat):Int):=by rw[Wan (by unfold I64;omega)];omega
    have aY:j-1<c.reads.length:=by omega
    have hb:=Xav.1 h.rup (j-1) j aY hlt (by omega);simp only[e1,e2,cond_true,Wn aY,Wq aY];rw[decide_eq_false (by omega)];rfl
 have zD:∀(d j n:Nat),j+d=c.puts.length->d<n->1<=j->Zbt N c.e (some ((),(false,()))) (λse aO=>(Zbg N c.reads c.e (some ((),(false,()))) (λt22 fh=>(some ((),(true&&true,())))) N (0:Int))) n (j:Int)=ret true:=by
  intro d
  induction d with
  |zero=>
   intro j n hj hn _;obtain⟨n,rfl⟩:∃n',n=n'+1:=⟨n-1,by omega⟩;have:j=c.puts.length:=by omega
   subst this;simp only[Zbt,c5,Waw (Xn _),cond_false];exact xR c.reads.length 0 N (by omega) (by omega)
  |succ d ih=>
   intro j n hj hn h1j;obtain⟨n,rfl⟩:∃n',n=n'+1:=⟨n-1,by omega⟩;have hlt:j<c.puts.length:=by omega
   have aW:=ih (j+1) n (by omega) (by omega) (by omega);have e2:W1 .i64 (j:Int) 1=((j-1:Nat):Int):=by rw[Wan (by unfold I64;omega)];omega
   have aY:j-1<c.puts.length:=by omega
   have hb:=Xav.1 h.pup (j-1) j aY hlt (by omega);simp only[Zbt,c5,Waf hlt,Wn hlt,Wq hlt,Wg (show j<4611686018427387904 by omega),cond_true,e2,Wn aY,Wq aY];rw[decide_eq_false (by omega)];exact aW
 by_cases hz:c.puts.length=0
 .obtain⟨N',rfl⟩:∃N',N=N'+1:=⟨N-1,by omega⟩;rw[Zbt,c5,decide_eq_false (by unfold Wb;omega)];exact xR c.reads.length 0 _ (by omega) (by omega)
 .exact zD (c.puts.length-1) 1 N (by omega) (by omega) (by omega)
theorem WhR(h:CmOk c){n:Int}(hn:0<=n/\n<=8):Z7 N c.e n=some (((Waq c n).e,()),()):=by
 unfold Z7 Waq;rw[Wu,Wan (by unfold I64;omega)];split<;>rfl
theorem WqT{ph:Int}:Zei N c.e ph=some (((Wdm c ph).e,()),()):=by
 obtain⟨c0,c1,c2,c3,c4,c5,c6⟩:=cmP c;unfold Zei Wdm Wa9;simp only[Wu,c5,c6,Wb];by_cases h3:ph=3
 .subst h3;by_cases hr:c.reads.length=0<;>by_cases hp:c.puts.length=0<;>simp[hr,hp]<;>rfl
 .by_cases h4:ph=4
  .subst h4;by_cases hp:c.puts.length=0<;>simp[hp]<;>rfl
  .simp[h3,h4];rfl
theorem WtH(h:CmOk c){ph:Int}:Zbn N c.e ph=some (((WQ c ph).e,()),()):=by
 obtain⟨c0,c1,c2,c3,c4,c5,c6⟩:=cmP c;have bQ:=h.pos;have vT:c.steps<=8:=by have:=h.plen;have:=h.rlen;unfold Cm.steps;split<;>(try split)<;>omega
 have aQ:Zcz N (Cm.e {c with pos:=c.pos+1})=ret c.steps:=Wmd;unfold Zbn WQ;rw[c3,Wp (by unfold I64;omega)];rw[show(c.e.1,(c.e.2.1,(c.e.2.2.1,(c.pos+1,c.e.2.2.2.2))))=Cm.e {c with pos:=c.pos+1}from rfl,aQ];simp only[ret,Xc,Wu,WqT];split<;>rfl
theorem WrD(h:CmOk c)(hN:1048576<N):∃b,Zib N c.e=some ((),((Wag c).e,(b,()))):=by
 obtain⟨c0,c1,c2,c3,c4,c5,c6⟩:=cmP c;have bQ:=h.pos;have eU:=h.plen;have vT:c.steps<=8:=by have:=h.plen;have:=h.rlen;unfold Cm.steps;split<;>(try split)<;>omega
 unfold Zib Wag;rw[Wjx h];simp only[ret,Xc];rw[Whg h hN];simp only[ret,Xc,Xab,cond_false,Wu,c2,c3,c5,WhR h (show 0<=c.pos/\c.pos<=8 by omega),WhR h (show 0<=Wb c.puts/\Wb c.puts<=8 by unfold Wb;omega)];by_cases h1:c.phase=1
 .rw[if_pos h1,if_pos h1];exact⟨_,rfl⟩
 .rw[if_neg h1,if_neg h1];by_cases h2:c.phase=2
  .rw[if_pos h2,if_pos h2,if_pos (.inl h2)];exact⟨_,rfl⟩
  .rw[if_neg h2];by_cases h3:c.phase=3
   .rw[if_pos h3,if_pos (.inr h3)];exact⟨_,rfl⟩
   .rw[if_neg h3,if_neg (by omega)];exact⟨_,rfl⟩
theorem Wog{l:List Rw}(hl:l.length<=1048576)(hN:1048576<N):Zg3 N l=ret ((Wc3 l).map (·.1)):=by
 unfold Zg3;rw[WdI hl hN];have hn:=Wgr l;simp only[ret,Xc];have h1:=WE (l:=Wc3 l) (V:=List Int) (R:=Unit×(List Int×Unit)) (lp:=λn j v=>Zcp N (Wb (Wc3 l)) (Wc3 l) (λaA aL bq=>(some ((),(bq,())))) n j v) (n:=N) (by omega)
  (body:=λj x v k=>bif Wy (v.length+ [x.1].length)then k (Xe v [x.1])else none) (K:=λ_ v=>ret v)
  (λn i v hi=>by simp only[Zcp,Waf hi,Wn hi,Wq hi,Wg (show i<4611686018427387904 by omega),cond_true])
  (λn v=>by simp only[Zcp,Waw (Xn _),cond_false]) []
 refine h1.trans ?_;rw[Wdr (f:=λx:Rw=>x.1) (Wc3 l) 0 [] (by simp;omega) (λj x v k _=>rfl)];rfl
theorem Wu9{who rv:Int}{puts reads:List Rw}(hw:1<=who/\who<=99)(hr:0<=rv/\rv<=1000000)(hp:Wbg puts=true)(hd:Wbg reads=true)(hN:1048576<N):
  Zd5 N who rv puts reads=some ((),((Wbc who rv puts reads).e,(true,()))):=by
 have l1:puts.length<=300:=by unfold Wbg at hp;simp at hp;exact hp.1
 have l2:reads.length<=300:=by unfold Wbg at hd;simp at hd;exact hd.1
 unfold Zd5;simp only[WbS,Wk,Wcu (show puts.length<=1048576 by omega) hN,Wcu (show reads.length<=1048576 by omega) hN,WdI (show puts.length<=1048576 by omega) hN,Wog (show reads.length<=1048576 by omega) hN,ret,Xc,decide_eq_true hw.1,decide_eq_true hw.2,decide_eq_true hr.1,decide_eq_true hr.2,hp,hd,Xbu,Xab,cond_false,Wu];unfold Wbc Cm.e;by_cases hz:(Wc3 puts).length=0
 .rw[if_pos (by unfold Wb;omega)];simp only[if_pos hz]
 .rw[if_neg (by unfold Wb;omega)];simp only[if_neg hz]
theorem WhT{m:Mm}{i:Int}:Xd m.2 (Xb i) ((0:Int),((0:Int),(0:Int)))=WN m i:=rfl
theorem Wg4(hm:WZ m=true){i:Int}(hi:0<=i/\i<=7):inb i m.2.length=true:=by
 have:=(WD hm).1;unfold inb;simp;omega
theorem WiD{i:Int}(hi:0<=i/\i<=7):W5 i=true:=by unfold W5;simpa using hi
theorem Wm3(hm:WZ m=true){i who:Int}(hi:0<=i/\i<=7)(hw:1<=who/\who<=99)(hN:1048576<N):
  Zl8 N m i who=some ((),((if(WN m i).2.2=0 then WnN m i who else m),(decide ((WN m i).2.2=0),()))):=by
 unfold Zl8;rw[WdX hm,WaX (by have:=(WD hm).1;omega) hN,hm];simp only[ret,Xc,Xab,cond_false,Wj,WiD hi,WbS,decide_eq_true hw.1,decide_eq_true hw.2,Xbu,Wg4 hm hi,cond_true,WhT,Wc9];by_cases h:(WN m i).2.2=0
 .rw[if_pos h,if_pos h,decide_eq_true h];rfl
 .rw[if_neg h,if_neg h,decide_eq_false h]
theorem Wko(hm:WZ m=true){i who v:Int}(hi:0<=i/\i<=7)(hw:1<=who/\who<=99)(hv:0<=v/\v<=65535)(hN:1048576<N):
  ∃b,Zm3 N m i who v=some ((),(Wem m i who v,(b,()))):=by
 unfold Zm3 Wem;rw[WdX hm,WaX (by have:=(WD hm).1;omega) hN,hm];simp only[ret,Xc,Xab,cond_false,Wj,WiD hi,WbS,Wl,Wa0.2 hv,decide_eq_true hw.1,decide_eq_true hw.2,Xbu,Wg4 hm hi,cond_true,WhT,Wc9];by_cases h:(WN m i).2.2=who
 .rw[if_pos h,if_pos h];exact⟨_,rfl⟩
 .rw[if_neg h,if_neg h];exact⟨_,rfl⟩
theorem Wfh(hm:WZ m=true){i who ver:Int}(hi:0<=i/\i<=7)(hw:1<=who/\who<=99)(hN:1048576<N):
  ∃b,Zj5 N m i who ver=some ((),(Wb5 m i who ver,(b,()))):=by
 have h8:=(WD hm).1;unfold Zj5 Wb5;rw[WdX hm,WaX (by omega) hN,hm];simp only[ret,Xc,Xab,cond_false,Wj,WiD hi,WbS,Wk,decide_eq_true hw.1,decide_eq_true hw.2,Xbu,Wg4 hm hi,cond_true,WhT,Wc9,Xaa,Wt];by_cases h:(WN m i).2.2=who
 .rw[if_pos h];by_cases h2:(WN m i).2.1<=ver/\ver<=m.1
  .rw[if_pos ⟨h,h2.1,h2.2⟩,decide_eq_true h2.1,decide_eq_true h2.2];refine⟨true,?_⟩;have:i.toNat<m.2.length:=by omega
   simp only[Xbu,Xab,cond_false,Wkp this,Xdo];rfl
  .rw[if_neg (by omega)];refine⟨false,?_⟩;have:(decide ((WN m i).2.1<=ver)&&decide (ver<=m.1))=false:=by
    rw[Xcn,decide_eq_false_iff_not,decide_eq_false_iff_not];omega
   rw[this];rfl
 .rw[if_neg h,if_neg (by omega)];exact⟨_,rfl⟩
theorem WmQ(h:CmOk c)(hm:WZ m=true)(hN:1048576<N):Zip N m c.e=some ((),((WB m c).1,((WB m c).2.e,()))):=by
 obtain⟨c0,c1,c2,c3,c4,c5,c6⟩:=cmP c;have bQ:=h.pos;have eU:=h.plen;have hw:=h.who;have vT:c.steps<=8:=by have:=h.plen;have:=h.rlen;unfold Cm.steps;split<;>(try split)<;>omega
 have b1:=WhR (N:=N) h (show 0<=c.pos/\c.pos<=8 by omega);have b2:=WhR (N:=N) h (show 0<=Wb c.puts/\Wb c.puts<=8 by unfold Wb;omega);unfold Zip WB;rw[WdX hm,Wjx h];simp only[ret,Xc];rw[WaX (by have:=(WD hm).1;omega) hN,Whg h hN,hm];simp only[ret,Xc,Xab,cond_false,Wu,c0,c1,c2,c3,c4,c5,c6,WgH,b1,b2,WtH h];by_cases h1:c.phase=1
 .rw[if_pos h1,if_pos h1];obtain⟨j,hj,e1,e2,e3,e4⟩:=h.put (by omega);rw[show Xd c.puts (Xb c.pos) ((0:Int),(0:Int))=c.puts[j]from e2,e2,e1,W7,decide_eq_true hj,Wm3 hm e3 hw hN,←e1];by_cases ho:(WN m c.puts[j].1).2.2=0
  .rw[if_pos ho,if_pos ho,decide_eq_true ho];rfl
  .rw[if_neg ho,if_neg ho,decide_eq_false ho];rfl
 .rw[if_neg h1,if_neg h1];by_cases h2:c.phase=2
  .rw[if_pos h2,if_pos h2,Wm7 hm hN];simp only[Xc];by_cases ht:(tick m).2=0
   .rw[if_pos ht,if_pos ht];rfl
   .rw[if_neg ht,if_neg ht];rw[show(c.who,(c.rv,(c.phase,(c.pos,((tick m).2,c.e.2.2.2.2.2)))))=Cm.e {c with wv:=(tick m).2}from rfl,WqT];rfl
  .rw[if_neg h2,if_neg h2];by_cases h3:c.phase=3
   .rw[if_pos h3,if_pos h3];obtain⟨j,hj,e1,e2,e3,e4⟩:=h.read h3;rw[show Xd c.reads (Xb c.pos) (0:Int)=c.reads[j]from e2,e2,e1,W7,decide_eq_true hj,Wg4 hm ⟨e3,e4⟩];simp only[cond_true,Wc9,Wav];rw[show Xd m.2 (Xb c.reads[j]) ((0:Int),((0:Int),(0:Int)))=WN m c.reads[j]from rfl];by_cases a:(WN m c.reads[j]).2.2=0
    .rw[if_pos a];by_cases b:(WN m c.reads[j]).2.1>c.rv
     .rw[if_pos b,if_pos (.inr b)];rfl
     .rw[if_neg b,if_neg (by omega)]
    .rw[if_neg a];by_cases a':(WN m c.reads[j]).2.2=c.who
     .rw[if_pos a'];by_cases b:(WN m c.reads[j]).2.1>c.rv
      .rw[if_pos b,if_pos (.inr b)];rfl
      .rw[if_neg b,if_neg (by omega)]
     .rw[if_neg a',if_pos (.inl ⟨a,a'⟩)];rfl
   .rw[if_neg h3,if_neg h3];by_cases h4:c.phase=4
    .rw[if_pos h4,if_pos h4];obtain⟨j,hj,e1,e2,e3,e4⟩:=h.put (by omega);obtain⟨b,hb⟩:=Wko hm e3 hw e4 hN;rw[show Xd c.puts (Xb c.pos) ((0:Int),(0:Int))=c.puts[j]from e2,e2,e1,W7,decide_eq_true hj,hb];rfl
    .rw[if_neg h4,if_neg h4];by_cases h5:c.phase=5
     .rw[if_pos h5,if_pos h5];obtain⟨j,hj,e1,e2,e3,e4⟩:=h.put (by omega);obtain⟨b,hb⟩:=Wfh (ver:=c.wv) hm e3 hw hN;rw[show Xd c.puts (Xb c.pos) ((0:Int),(0:Int))=c.puts[j]from e2,e2,e1,W7,decide_eq_true hj,hb];rfl
     .rw[if_neg h5,if_neg h5];by_cases h7:c.phase=7
      .rw[if_pos h7,if_pos h7];obtain⟨j,hj,e1,e2,e3,e4⟩:=h.put (by omega);obtain⟨b,hb⟩:=Wfh (ver:=(WN m c.puts[j].1).2.1) hm e3 hw hN;rw[show Xd c.puts (Xb c.pos) ((0:Int),(0:Int))=c.puts[j]from e2,e2,e1,W7,decide_eq_true hj,Wg4 hm e3];simp only[cond_true,WhT,hb,←e1];rfl
      .rw[if_neg h7,if_neg h7]
end
end
section
abbrev RM:=Int×Int×Int×Int×List Int
abbrev Wr:=Int×Int×List Rw
abbrev Pg:=List Opn×List (List Opn)
abbrev Ac:=Int×Int×Int
abbrev Sc:=Kf×List Pg×List Ac
structure Rt where
 phase:Int:=0
 tries:Int:=0
 spare:Int:=0
 pc:Int:=0
 rv:Int:=0
 newRv:Int:=0
 pos:Int:=0
 fate:Int:=0
 stamp:Int:=0
 began:Int:=0
 ended:Int:=0
 doomed:Bool:=false
 regs:List Int:=[]
 reads:List Rw:=[]
 writes:List Rw:=[]
 marks:List RM:=[]
 undos:List Un:=[]
 order:List Int:=[]
 busy:Bool:=false
 pb:Pb:=(0,0,0,0)
 cm:Cm:={}
 fam:Fm:={}
def Rt.e(r:Rt):Y_Root:=(r.phase,r.tries,r.spare,r.pc,r.rv,r.newRv,r.pos,r.fate,r.stamp,r.began,r.ended,r.doomed,r.regs,r.reads,r.writes,r.marks,r.undos,r.order,r.busy,r.pb,r.cm.e,r.fam.e)
structure Wo where
 now:Int:=0
 token:Int:=0
 mem:Mm:=(0,[])
 shelf:Shf:=([],0)
 holds:List Hd:=[]
 roots:List Rt:=[]
 hist:List Wr:=[]
def Wo.e(w:Wo):Y_World:=(w.now,w.token,w.mem,w.shelf,w.holds,w.roots.map Rt.e,w.hist)
def zRM:RM:=(0,0,0,0,[])
def Rt.last(x:Rt):RM:=Wg2 x.marks zRM
def WcI(x:Rt):Rt:={phase:=6,tries:=x.tries,undos:=x.undos}
def WA(x:Rt):Rt:=
 if x.marks.length=0\/x.spare=2 then WcI x else{x with spare:=x.spare+1,busy:=false,pb:=(0,0,0,0),phase:=3}
def Wdv(w:Wo)(x:Rt):Wo×Rt:=({w with shelf:=WbF w.shelf (Wg2 x.undos (0,0,0))},{x with undos:=x.undos.dropLast})
def WjJ(w:Wo)(x:Rt)(k:Nat):Wo×Rt:=
 ({w with token:=if w.token=(k:Int)+1 then 0 else w.token},{x with phase:=8,ended:=w.now,undos:=[],doomed:=false})
def Wao(w:Wo)(x:Rt)(k:Nat)(out:Int):Wo×Rt:=
 let rows:=if out=2 then []else x.writes
 if rows.length=0/\(WeO w.holds ((k:Int)+1)).length=0 then WjJ w {x with fate:=out,stamp:=x.rv} k
 else(w,{x with fate:=out,cm:=Wbc ((k:Int)+1) x.rv rows x.reads,phase:=5})
def Wc2(w:Wo)(x:Rt)(o:Opn):Rt:=
 match Wbk x.writes o.2.2.1 with
 |some v=>{x with regs:=WlR x.regs o.2.1 v,pc:=x.pc+1}
 |none=>
  let p:=W0 w.mem x.rv (if x.busy then x.pb else(o.2.2.1,0,0,0))
  if p.2.1=4 then WA {x with busy:=true,pb:=p}
  else if p.2.1=3 then{x with regs:=WlR x.regs o.2.1 p.2.2.2,reads:=x.reads++ [(o.2.2.1,p.2.2.2)],busy:=false,pb:=(0,0,0,0),pc:=x.pc+1}
  else{x with busy:=true,pb:=p}
def WbT(w:Wo)(x:Rt)(k:Nat)(code:List Opn):Wo×Rt:=
 if x.marks.length=0 then Wao w x k 2 else
 if(x.undos.length:Int)>x.last.2.2.2.1 then Wdv w x else
 (w,{x with marks:=x.marks.dropLast,regs:=WlR x.last.2.2.2.2 (opN code x.last.1).2.1 0,writes:=x.writes.take x.last.2.2.1.toNat,pc:=Wie code x.last.1.toNat+1})
def Wbr(w:Wo)(x:Rt)(k:Nat)(o:Opn):Wo×Rt:=
 match Wak w.holds ((k:Int)+1) (Waz o).1 (Waz o).2 with
 |none=>(w,WA x)
 |some hs=>
  let b:=WaN w.shelf o x.regs
  ({w with holds:=hs,shelf:=b.1},{x with regs:=b.2.1,undos:=if b.2.2.1=0 then x.undos else x.undos++ [b.2.2],pc:=x.pc+1})
def Wfi(w:Wo)(x:Rt)(k:Nat)(p:Pg):Wo×Rt:=
 if x.pc>=p.1.length then Wao w x k 1 else
 let o:=opN p.1 x.pc
 if o.1=5 then(w,Wc2 w x o)else
 if o.1=10 then WbT w x k p.1 else
 if o.1=11 then(w,{x with phase:=2,fam:=Wax x.rv x.regs x.writes p.2.length})else
 if o.1>=12 then Wbr w x k o else
 if o.1=6 then(w,{x with writes:=x.writes++ [(o.2.1,WbL x.regs o.2.2.1 0)],pc:=x.pc+1})else
 if o.1=7 then(w,{x with pc:=(if WbL x.regs o.2.1 0=0 then x.pc+o.2.2.1 else x.pc)+1})else
 if o.1=8 then(w,{x with marks:=x.marks++ [(x.pc,(x.reads.length:Int),(x.writes.length:Int),(x.undos.length:Int),x.regs)],pc:=x.pc+1})else
 if o.1=9 then(w,{x with marks:=x.marks.dropLast,regs:=WlR x.regs (opN p.1 x.last.1).2.1 1,pc:=x.pc+1})else
 (w,{x with regs:=Wmx o x.regs,pc:=x.pc+1})
def W4(k:Nat):List Rt->Nat->Bool
 | [],_=>true
 |x::l,i=>(decide (i=k)||(decide (x.phase=0)||decide (x.phase=8)))&&W4 k l (i+1)
def Wdk(w:Wo)(x:Rt)(k:Nat):Wo×Rt:=
 if w.token≠0/\w.token≠(k:Int)+1 then(w,x)else
 if x.tries>=3/\w.token=0 then({w with token:=(k:Int)+1},x)else
 if w.token=(k:Int)+1/\W4 k w.roots 0=false then(w,x)else
 (w,{phase:=1,tries:=x.tries,rv:=w.mem.1,began:=w.now,regs:=[0,0,0,0]})
def WbY(x:Rt):Rt:=
 if x.fam.lost then WcI x else
 if Wa6 x.fam then{x with regs:=Wh2 x.fam,writes:=WgV x.fam,reads:=x.reads++x.fam.reads,order:=x.fam.order,fam:={},phase:=1,pc:=x.pc+1}
 else x
def WaT(w:Wo)(x:Rt):Wo×Rt:=
 if(x.undos.length:Int)>x.last.2.2.2.1 then Wdv w x else(w,{x with newRv:=w.mem.1,pos:=0,phase:=4})
def WaG(w:Wo)(x:Rt):Rt:=
 if x.pos<x.last.2.1 then
  let c:=WN w.mem (WbL x.reads x.pos (0,0)).1
  if c.2.2≠0\/c.2.1>x.rv then WcI x else{x with pos:=x.pos+1}
 else{x with rv:=x.newRv,newRv:=0,pos:=0,reads:=x.reads.take x.last.2.1.toNat,writes:=x.writes.take x.last.2.2.1.toNat,regs:=x.last.2.2.2.2,pc:=x.last.1+1,phase:=1}
def Wbh(x:Rt):Rt:=
 if x.cm.phase=8 then WcI x else
 if x.cm.phase=6 then{x with stamp:=x.cm.wv,cm:={},phase:=if x.fate=2 then 6 else 7}else x
def Wal(w:Wo)(x:Rt)(k:Nat):Wo×Rt:=
 if x.doomed then(w,if(Wag x.cm).phase=8 then WcI x else{x with cm:=Wag x.cm,doomed:=false})else
 let q:=WB w.mem x.cm
 ({w with mem:=q.1,hist:=if x.cm.phase<=3/\q.2.phase=4 then w.hist++ [(q.2.wv,(k:Int)+1,q.2.puts)]else w.hist},Wbh {x with cm:=q.2})
def W2(w:Wo)(x:Rt)(k:Nat)(p:Pg):Wo×Rt:=
 if x.doomed=true/\1<=x.phase/\x.phase<=4 then(w,WcI x)else
 if x.phase=0 then Wdk w x k else
 if x.phase=1 then Wfi w x k p else
 if x.phase=2 then(w,WbY x)else
 if x.phase=3 then WaT w x else
 if x.phase=4 then(w,WaG w x)else
 if x.phase=5 then Wal w x k else
 if x.phase=6 then(if x.undos.length>0 then Wdv w x else(w,{x with phase:=7}))else
 if x.phase=7 then
  (if x.fate=0 then({w with holds:=WV w.holds ((k:Int)+1)},{tries:=x.tries+1})
   else WjJ {w with holds:=WV w.holds ((k:Int)+1)} x k)
 else(w,x)
def Wo.put(q:Wo×Rt)(k:Nat):Wo:={q.1 with roots:=q.1.roots.set k q.2}
def rt0:Rt:={}
def pg0:Pg:=([],[])
def Wje(w:Wo)(k:Nat)(p:Pg):Wo:=Wo.put (W2 w (w.roots.getD k rt0) k p) k
def WwU(w:Wo)(x:Rt)(k j:Nat)(p:Pg):Wo:=Wo.put (w,{x with fam:=Wcz w.mem x.fam j (p.2.getD j [])}) k
def Wc6(s:Sc)(w0:Wo)(a:Ac):Wo:=
 let w:={w0 with now:=w0.now+1}
 if 0<=a.2.1/\a.2.1<w.roots.length then
  let k:=a.2.1.toNat
  let x:=w.roots.getD k rt0
  let p:=s.2.1.getD k pg0
  if a.1=1 then Wje w k p else
  if a.1=2 then(if x.phase=2/\0<=a.2.2/\a.2.2<p.2.length then WwU w x k a.2.2.toNat p else w)else
  if a.1=3 then(if(1<=x.phase/\x.phase<=4)\/(x.phase=5/\x.cm.phase<=3)then Wo.put (w,{x with doomed:=true}) k else w)else w
 else w
def WfH(s:Sc):Wo:={mem:=Wmp s.1.1,shelf:=(WjP s.1.2.1,s.1.2.2),roots:=Xt s.2.1.length {}}
def Web(s:Sc):Wo:=s.2.2.foldl (Wc6 s) (WfH s)
structure RMk(code:List Opn)(pc:Nat)(marks:List RM)(rl wl ul:Nat):Prop where
 pcs:marks.map (·.1)=(stk code pc).map λm:Nat=>(m:Int)
 each:∀q∈marks,Vals 4 q.2.2.2.2/\(0<=q.2.1/\q.2.1<=q.1+72*frk code q.1.toNat/\q.2.1<=rl)/\(0<=q.2.2.1/\q.2.2.1<=q.1+8/\q.2.2.1<=wl)/\0<=q.2.2.2.1/\q.2.2.2.1<=q.1/\q.2.2.2.1<=ul
 up:marks.Pairwise λa b=>a.2.1<=b.2.1/\a.2.2.1<=b.2.2.1/\a.2.2.2.1<=b.2.2.2.1
structure RLive(p:Pg)(n:Int)(x:Rt):Prop where
 pc:0<=x.pc/\x.pc<=p.1.length
 spare:0<=x.spare/\x.spare<=2
 rv:0<=x.rv/\x.rv<=1000000
 regs:Vals 4 x.regs
 reads:Wi5 x.reads
 rl:(x.reads.length:Int)<=x.pc+72*frk p.1 x.pc.toNat
 writes:Wi5 x.writes
 wl:(x.writes.length:Int)<=x.pc+8
 ul:(x.undos.length:Int)<=x.pc
 marks:RMk p.1 x.pc.toNat x.marks x.reads.length x.writes.length x.undos.length
 pb:x.busy=true->Wll x.pb=true
 fork:x.phase=2->x.pc<p.1.length/\(opN p.1 x.pc).1=11/\FOk p.2 n x.fam
 back:x.phase=3\/x.phase=4->x.marks.length≠0
 newRv:0<=x.newRv/\x.newRv<=1000000
 pos:x.phase=4->0<=x.pos/\x.pos<=x.last.2.1
 unw:x.phase=4->(x.undos.length:Int)<=x.last.2.2.2.1
structure ROk(p:Pg)(n:Int)(x:Rt):Prop where
 phase:0<=x.phase/\x.phase<=8
 tries:0<=x.tries/\x.tries<=n
 live:1<=x.phase/\x.phase<=4->RLive p n x
 comm:x.phase=5->CmOk x.cm
 undos:∀u∈x.undos,UnV u
 ul:x.undos.length<=24
 rg:x.regs.length<=4
 ord:x.order.length<=3
structure POk(p:Pg):Prop where
 code:CC p.1
 kids:∀c∈p.2,KC c
 k3:p.2.length<=3
def HE(h:Wr):Prop:=h.2.2.length<=8/\Wi5 h.2.2/\1<=h.2.1/\h.2.1<=9
structure WOk(ps:List Pg)(n:Int)(w:Wo):Prop where
 len:w.roots.length=ps.length
 l4:ps.length<=4
 progs:∀p∈ps,POk p
 now:w.now=n
 n0:0<=n
 mem:WZ w.mem=true
 shelf:ShOk w.shelf
 holds:HOk w.holds
 hist:(w.hist.length:Int)<=n
 histE:∀h∈w.hist,HE h
 root:∀(k:Nat) (h:k<w.roots.length),ROk (ps.getD k pg0) n w.roots[k]
end
section
theorem rtP(x:Rt):x.e.1=x.phase/\x.e.2.1=x.tries/\x.e.2.2.1=x.spare/\x.e.2.2.2.1=x.pc/\P4 x.e=x.rv/\P5 x.e=x.newRv/\P6 x.e=x.pos/\P7 x.e=x.fate/\P8 x.e=x.stamp/\P11 x.e=x.doomed/\P12 x.e=x.regs/\P13 x.e=x.reads/\P14 x.e=x.writes/\P15 x.e=x.marks/\P16 x.e=x.undos/\P18 x.e=x.busy/\P19 x.e=x.pb/\P20 x.e=x.cm.e/\Q21 x.e=x.fam.e/\P24 x.e=x.fam.lost/\P28 x.e=x.fam.order/\P29 x.e=x.fam.reads:=
 ⟨rfl,rfl,rfl,rfl,rfl,rfl,rfl,rfl,rfl,rfl,rfl,rfl,rfl,rfl,rfl,rfl,rfl,rfl,rfl,rfl,rfl,rfl⟩
theorem S5e(w:Wo)(k:Nat)(x:Rt):S5 (Xl (w.roots.map Rt.e) k x.e) w.e=Wo.e {w with roots:=w.roots.set k x}:=by
 unfold S5 Wo.e;rw[Xfs]
theorem Wc5{w w':Wo}{k:Nat}{x':Rt}{y:Y_Root}{g:Y_World}(hy:y=x'.e)(hg:g=w'.e)(hr:w'.roots=w.roots):
  some ((S5 (Xl (w.roots.map Rt.e) k y) g,()),())=some (((Wo.put (w',x') k).e,()),()):=by
 subst hy hg;rw[←hr,S5e];rfl
variable{N:Nat}{w:Wo}{k:Nat}{x:Rt}{o:Opn}{p:Pg}{n:Int}{code:List Opn}
theorem woG(hk:k<w.roots.length)(aC:w.roots[k]=x):Xd (w.roots.map Rt.e) k d_Root=x.e/\Xd (w.roots.map Rt.e) (Xb (k:Int)) d_Root=x.e/\S5 (Xl (w.roots.map Rt.e) (Xb (k:Int)) x.e) w.e=w.e/\inb (k:Int) (w.roots.map Rt.e).length=true/\S5 (Xl (w.roots.map Rt.e) k x.e) w.e=w.e:=by
 have h1:Xd (w.roots.map Rt.e) k d_Root=x.e:=by
  have:=Wgm Rt.e w.roots k {};rw[Wf hk,aC]at this;exact this
 have h2:S5 (Xl (w.roots.map Rt.e) k x.e) w.e=w.e:=by rw[S5e,←aC,Xbe]
 rw[Xj];refine⟨h1,h1,h2,?_,h2⟩;rw[W7,Xaj];exact decide_eq_true hk
theorem Wph(hk:k<w.roots.length)(aC:w.roots[k]=x):Wo.put (w,x) k=w:=by
 unfold Wo.put;simp only;rw[←aC,Xbe]
theorem We3:Zbe N x.e=some (((WcI x).e,()),()):=rfl
theorem WeE(hs:0<=x.spare/\x.spare<=2):Zcy N x.e=some (((WA x).e,()),()):=by
 obtain⟨r0,r1,r2,r3,r4,r5,r6,r7,r8,jZ,jv,iA,iB,iW,iX,kK,kL,j8,j9,kM,kN,kO⟩:=rtP x;unfold Zcy WA;simp only[Wu,iW,r2,Wb,We3,Xc];by_cases h1:x.marks.length=0
 .rw[if_pos (by omega),if_pos (.inl h1)]
 .rw[if_neg (by omega)];by_cases h2:x.spare=2
  .rw[if_pos h2,if_pos (.inr h2)]
  .rw[if_neg h2,if_neg (by omega),Wp (by unfold I64;omega)];rfl
theorem Wer{α:Type}{l:List α}(h:l.length≠0)(hl:l.length<=1000)(d:α):inb (W1 .i64 (Wb l) 1) l.length=true/\Xd l (Xb (W1 .i64 (Wb l) 1)) d=Wg2 l d/\Xau (Xb (W1 .i64 (Wb l) 1)) l=l.dropLast/\(decide ((0:Int)<=W1 .i64 (Wb l) 1)&&decide (W1 .i64 (Wb l) 1<=(l.length:Int)))=true:=by
 have e:W1 .i64 (Wb l) 1=((l.length-1:Nat):Int):=by rw[Wpt (by omega)];omega
 rw[e];refine⟨by rw[W7];exact decide_eq_true (by omega),by rw[Xj];rfl,by rw[Xj,List.dropLast_eq_take],by simp⟩
theorem WoH(h:x.marks.length≠0)(hl:x.marks.length<=1000):Zhe N x.e=some ((x.e,()),(x.last,())):=by
 obtain⟨a,b,c,d⟩:=Wer h hl zRM;unfold Zhe;rw[show x.e.2.2.2.2.2.2.2.2.2.2.2.2.2.2.2.1=x.marks from rfl,a];simp only[cond_true];rw[show((0:Int),((0:Int),((0:Int),((0:Int),([]:List Int)))))=zRM from rfl,b];rfl
theorem WlI(h:x.marks.length≠0)(hl:x.marks.length<=1000):Zdk N x.e=some ((),((x.last.1,(x.last.2.1,(x.last.2.2.1,x.last.2.2.2.1))),())):=by
 obtain⟨a,b,c,d⟩:=Wer h hl zRM;unfold Zdk;simp only[Wt];rw[show P15 x.e=x.marks from rfl,a];simp only[cond_true];rw[show((0:Int),((0:Int),((0:Int),((0:Int),([]:List Int)))))=zRM from rfl,b];rfl
theorem WkZ(hk:k<w.roots.length)(aC:w.roots[k]=x)(hz:x.undos.length≠0)(hl:x.undos.length<=1000)(hu:∀u∈x.undos,UnV u)(hs:ShOk w.shelf)(hN:1048576<N):
  Zcc N w.e k=some (((Wo.put (Wdv w x) k).e,()),()):=by
 obtain⟨g1,g2,g3,g4,g5⟩:=woG hk aC;obtain⟨a,b,c,d⟩:=Wer hz hl ((0,0,0):Un);have hmem:Wg2 x.undos ((0,0,0):Un)∈x.undos:=by
  unfold Wg2;rw[Wf (show x.undos.length-1<x.undos.length by omega)];exact Xx _
 unfold Zcc Wdv;simp only[Wt];rw[show P5 w.e=w.roots.map Rt.e from rfl,g1];rw[show x.e.2.2.2.2.2.2.2.2.2.2.2.2.2.2.2.2.1=x.undos from rfl,a,b,show w.e.2.2.2.1=w.shelf from rfl,WhX hs (hu _ hmem) hN,c];simp only[cond_true,Xc,d];exact Wc5 rfl rfl rfl
theorem WqO(hk:k<w.roots.length)(aC:w.roots[k]=x)(mo:k<=1000):Zf0 N w.e (k:Int)=some (((Wo.put (WjJ w x k) k).e,()),()):=by
 obtain⟨g1,g2,g3,g4,g5⟩:=woG hk aC;unfold Zf0 WjJ;simp only[Wt];rw[show P5 w.e=w.roots.map Rt.e from rfl,g4,g2,WcG (by omega),Xj];simp only[cond_true,Wu];rw[show w.e.2.1=w.token from rfl];by_cases h:w.token=(k:Int)+1
 .rw[if_pos h];simp only[if_pos h];exact Wc5 rfl rfl rfl
 .rw[if_neg h];simp only[if_neg h];exact Wc5 rfl rfl rfl
theorem Wmo(hk:k<w.roots.length)(aC:w.roots[k]=x)(mo:k<=8)(hh:HOk w.holds)(kY:0<=x.rv/\x.rv<=1000000)(hr:Wbg x.reads=true)(hw:Wbg x.writes=true){out:Int}(hN:1048576<N):
  Zgd N w.e (k:Int) out=some (((Wo.put (Wao w x k out) k).e,()),()):=by
 obtain⟨g1,g2,g3,g4,g5⟩:=woG hk aC;obtain⟨r0,r1,r2,r3,r4,r5,r6,r7,r8,jZ,jv,iA,iB,iW,iX,kK,kL,j8,j9,kM,kN,kO⟩:=rtP x;have tB:=Wld hh;have ug:∀y:Rt,Zf0 N (S5 (Xl (w.roots.map Rt.e) (Xb (k:Int)) y.e) w.e) (k:Int)=some (((Wo.put (WjJ w y k) k).e,()),()):=λy=>by
  rw[Xj,S5e];have h1:k<({w with roots:=w.roots.set k y}:Wo).roots.length:=by simpa using hk
  rw[WqO (x:=y) h1 (by simp) (by omega)];unfold WjJ Wo.put;simp only[Xdo]
 unfold Zgd Wao;simp only[Wt];rw[show P5 w.e=w.roots.map Rt.e from rfl,g4,g2,WcG (by omega),show P4 w.e=w.holds from rfl];have pW:∀{α:Type} (a b:α),(bif ((0:Int)==(0:Int))then a else b)=a:=λ_ _=>rfl;have zF:∀{α:Type} (a b:α),(bif ((0:Nat)==(0:Nat))then a else b)=a:=λ_ _=>rfl;simp only[pW,zF];simp only[cond_true,Wu,r4,iA,iB,WiH (who:=(k:Int)+1) hh (by omega) hN,ret,Xc,Wb];have vU:∀rows,Wbg rows=true->Zd5 N ((k:Int)+1) x.rv rows x.reads=some ((),((Wbc ((k:Int)+1) x.rv rows x.reads).e,(true,()))):=λrows lq=>Wu9 (by omega) kY lq hr hN;have bB:Zd5 N ((k:Int)+1) x.rv ([]:List Kc) x.reads=some ((),((Wbc ((k:Int)+1) x.rv [] x.reads).e,(true,()))):=vU [] rfl;have aQ:(S8 x.rv (S7 out x.e))=Rt.e {x with fate:=out,stamp:=x.rv}:=rfl;rw[bB,vU _ hw,aQ,ug];simp only[Xc];by_cases ho:out=2
 .rw[if_pos ho,if_pos ho];by_cases hz:(WeO w.holds ((k:Int)+1)).length=0
  .rw[if_pos (by omega),if_pos ⟨rfl,hz⟩]
  .rw[if_neg (by omega),if_neg (λh=>hz h.2),Xj];exact Wc5 rfl rfl rfl
 .rw[if_neg ho,if_neg ho];by_cases hy:x.writes.length=0
  .rw[if_pos (by omega)];by_cases hz:(WeO w.holds ((k:Int)+1)).length=0
   .rw[if_pos (by omega),if_pos ⟨hy,hz⟩]
   .rw[if_neg (by omega),if_neg (λh=>hz h.2),Xj];exact Wc5 rfl rfl rfl
  .rw[if_neg (by omega),if_neg (λh=>hy h.1),Xj];exact Wc5 rfl rfl rfl
theorem Wmz{l:List Rw}(h:Wi5 l)(hl:l.length<=300):Wbg l=true:=by
 unfold Wbg;rw[WkE.2 h,decide_eq_true hl];rfl
theorem WfX(hc:CC code):∀j,j<=code.length->frk code j<=1
 |0,_=>by simp[frk]
 |j+1,h=>by
  have hj:j<code.length:=by omega
  by_cases dj:code[j].1=11
  .exact(hc.fk j hj dj).2
  .rw[WdZ hj,show(code[j].1==11)=false by simpa using dj];have:=WfX hc j (by omega);simpa using this
theorem RLive.sz(hc:CC p.1)(h:RLive p n x):x.reads.length<=96/\x.writes.length<=32/\x.undos.length<=24/\x.marks.length<=24/\Wbg x.reads=true/\Wbg x.writes=true:=by
 have h1:=h.pc;have h2:=hc.len;have h3:=WfX hc x.pc.toNat (by omega);have h4:=h.rl;have h5:=h.wl;have h6:=h.ul;have h7:=congrArg Xa h.marks.pcs;simp only[Xaj]at h7;have h8:=WbI hc.up x.pc.toNat (by omega);have h9:=(Wdq p.1 x.pc.toNat).2;exact⟨by omega,by omega,by omega,by omega,Wmz h.reads (by omega),Wmz h.writes (by omega)⟩
theorem Wq7(hb:x.busy=true->Wll x.pb=true){c:Int}(hc:0<=c/\c<=7):Wll (if x.busy then x.pb else(c,0,0,0))=true:=by
 split
 .exact hb ‹_›
 .rw[We7];simp only;omega
theorem Wue(hk:k<w.roots.length)(aC:w.roots[k]=x)(hc:CC p.1)(hx:RLive p n x)(hm:WZ w.mem=true)(h5:o.1=5)(ho:Wap o=true)(hN:1048576<N):
  Zio N w.e k o=some (((Wo.put (w,Wc2 w x o) k).e,()),()):=by
 obtain⟨g1,g2,g3,g4,g5⟩:=woG hk aC;obtain⟨r0,r1,r2,r3,r4,r5,r6,r7,r8,jZ,jv,iA,iB,iW,iX,kK,kL,j8,j9,kM,kN,kO⟩:=rtP x;obtain⟨z1,z2,z3,z4,z5,z6⟩:=hx.sz hc;obtain⟨hA,hB⟩:=WvX ho h5;have hB':0<=o.2.2.1/\o.2.2.1<=7:=by unfold W5 at hB;simpa using hB
 have du:=hx.regs.len;have aS:=hx.pc;have hcl:=hc.len;have jy:=hx.spare;unfold Zio Wc2;simp only[Wt];rw[show P5 w.e=w.roots.map Rt.e from rfl,g1,show w.e.2.2.1=w.mem from rfl];simp only[r3,r4,jv,iA,iB,kK,kL];rw[WeC (by omega) hN,Wa4 hA du,WcG (by omega)];cases hl:Wbk x.writes o.2.2.1 with
 |some v=>
  simp only[opI,Xc,cond_true];exact Wc5 rfl rfl rfl
 |none=>
  have an:Wy (x.reads.length+ [(o.2.2.1,(0:Int))].length)=true:=Ws (by simp;omega);have ln:Zew N o.2.2.1=some ((),((o.2.2.1,0,0,0),(true,()))):=by
   unfold Zew;rw[Wj,hB];rfl
  have gU:=Wq7 hx.pb hB';have sY:S18 true x.e=Rt.e {x with busy:=true}:=rfl;simp only[opI,Xc,cond_false,Wu,ln,sY];have dX:∀q:Pb,S19 q (Rt.e {x with busy:=true})=Rt.e {x with busy:=true,pb:=q}:=λq=>rfl;simp only[dX,WeE (x:={x with busy:=true,pb:=_}) jy];cases hb:x.busy with
  |false=>
   rw[hb]at gU;simp only[Xbm,if_false]at gU;rw[WeS hm gU hN];simp only[Xdm,cond_true,ret,Xc,Xbm,if_false];generalize W0 w.mem x.rv (o.2.2.1,0,0,0)=q;by_cases h4:q.2.1=4
   .rw[if_pos h4,if_pos h4];exact Wc5 rfl rfl rfl
   .rw[if_neg h4,if_neg h4];by_cases h3:q.2.1=3
    .rw[if_pos h3,if_pos h3,Ws (by simp;omega)];exact Wc5 rfl rfl rfl
    .rw[if_neg h3,if_neg h3];exact Wc5 rfl rfl rfl
  |true=>
   have bo:∀q:Pb,S19 q x.e=Rt.e {x with busy:=true,pb:=q}:=λq=>by
    have:S19 q x.e=Rt.e {x with pb:=q}:=rfl;rw[this]
    conv=>lhs;rw[show({x with pb:=q}:Rt)={x with busy:=x.busy,pb:=q}from rfl,hb]
   rw[hb]at gU;simp only[if_true]at gU;rw[WeS hm gU hN];simp only[Xab,cond_false,ret,Xc,if_true,bo,WeE (x:={x with busy:=true,pb:=_}) jy];generalize W0 w.mem x.rv x.pb=q;by_cases h4:q.2.1=4
   .rw[if_pos h4,if_pos h4];exact Wc5 rfl rfl rfl
   .rw[if_neg h4,if_neg h4];by_cases h3:q.2.1=3
    .rw[if_pos h3,if_pos h3,Ws (by simp;omega)];exact Wc5 rfl rfl rfl
    .rw[if_neg h3,if_neg h3];exact Wc5 rfl rfl rfl
end
end Go.Sx
