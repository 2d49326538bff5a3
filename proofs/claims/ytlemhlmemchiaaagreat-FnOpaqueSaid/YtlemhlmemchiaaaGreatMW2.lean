/- Plain laws of the Lean functions. -/
import Derived.Test.YtlemhlmemchiaaaGreatMW1
open Bool renaming and_eq_true→Xi,not_true→Xs,and_self→Xbu,true_and→Xbt,false_eq_true→Xbp,and_eq_false_iff→Xcm,not_false→Xdv
open List renaming getElem_mem→Xo,getD→Xb,map_append→Xr,mem_append→Xl,mem_singleton→Xx,pairwise_append→Xag,length→Xc,length_map→Xy,mem_of_getElem?→Xaw,take→Xav,all_eq_true→Xak,length_set→Xaf,getElem?_eq_getElem→Xp,foldl_cons→Xau,length_cons→Xw,mem_cons_of_mem→Xe,mem_cons_self→Xh,drop_length→Xdo,set→Xm,drop_eq_getElem_cons→Xcd,append_eq→Xai,append_nil→Xcz,filter_cons→Xbj,countP_le_length→Xes,drop_zero→Xcf,map_set→Xfq,set_getElem_self→Xbq,countP_set→Xgz,getElem_set→Xao,mem_map→Xv,mem_filter→Xat,length_append→Xae,length_singleton→Xdx,length_nil→Xef,pairwise_map→Xem,getElem_replicate→Xbh,append_assoc→Xbn,singleton_append→Xeq,append→Xf,set_set→Xej,nil_append→Xby,replicate→Xaa,getD_eq_getElem?_getD→Xac,pairwise_iff_getElem→Xaq,getElem_of_mem→Xbs,mem_cons→Xq,drop→Xdg,filter_eq_self→Xgf
open Int renaming toNat→Xa,le_refl→Xu,toNat_natCast→Xj,tdiv_eq_ediv_of_nonneg→Xed
open Nat renaming zero_add→Xba,sub_zero→Xdf,le_refl→Xn,lt_trichotomy→Xdu
open Option renaming bind_some→Xd,getD_some→Xeb,isSome_some→Xfh
namespace Go.Sx
set_option linter.unusedVariables false
set_option linter.unusedSimpArgs false
section
theorem WeJ{p:Pb}:Wka p=true↔(0<=p.1/\p.1<=7)/\(0<=p.2.1/\p.2.1<=4)/\(0<=p.2.2.1/\p.2.2.1<=1000000)/\0<=p.2.2.2/\p.2.2.2<=65535:=by
 unfold Wka W2 Wbh;simp only[Xi,decide_eq_true_eq]
theorem Wc5{c:Int}{w:Wd}:WpO c w=true↔(0<=w.1/\w.1<=65535)/\(0<=w.2.1/\w.2.1<=c)/\0<=w.2.2/\w.2.2<=99:=by
 unfold WpO Wbh;simp only[Xi,decide_eq_true_eq]
theorem Wr5{m:Mm}(h:WZ m=true){c:Int}(hc:0<=c/\c<=7):WpO m.1 (Wci m.2 c (0,0,0))=true:=by
 obtain⟨h8,h0,h1,hw⟩:=WK h;unfold Wci;rw[Wh (show c.toNat<m.2.length by omega)];exact hw _ (Xo _)
theorem Wmx{m:Mm}{rv:Int}{p:Pb}(hm:WZ m=true)(hp:Wka p=true):Wka (WO m rv p)=true/\(WO m rv p).1=p.1:=by
 have df:=WeJ.1 hp;have hw:=Wr5 hm df.1;rw[Wc5]at hw;obtain⟨h8,h0,h1,_⟩:=WK hm;unfold WO;simp only[Wv,Waa];have v7:WpO m.1 (Xb m.2 (Xa p.1) (0,0,0))=true:=Wr5 hm df.1;rw[Wc5]at v7;refine⟨?_,?_⟩
 .rw[WeJ]
  repeat' split
  all_goals(try simp only);omega
 .repeat' split
  all_goals rfl
section
variable{code:List Opn}{pc cI wl kj:Nat}{ms q:List KM}{y:KM}{c c' n n':Int}{x:Kd}{f:Fm}{m:Mm}{codes:List (List Opn)}{k:Nat}
theorem KMk.mono(h:KMk code pc ms wl)(hs:stk code cI=stk code pc)(hw:wl<=kj):KMk code cI ms kj:=
 ⟨by rw[hs];exact h.pcs,λq hq=>by have:=h.each q hq;exact⟨this.1,this.2.1,this.2.2.1,by omega⟩,h.up⟩
theorem KMk.begin(h:KMk code pc ms wl)(hp:pc<code.length)(h8:code[pc].1=8){regs:List Int}(hr:Vals 4 regs)(hw:wl<=pc):KMk code (pc+1) (ms++ [((pc:Int),(wl:Int),regs)]) wl:=by
 refine⟨?_,?_,?_⟩
 .rw[WiO hp h8,Xr,Xr,h.pcs];rfl
 .intro q hq;rcases Xl.1 hq with hq|hq
  .exact h.each q hq
  .rw[Xx]at hq;subst hq;exact⟨hr,by simp,by simpa using hw,by simp⟩
 .refine Xag.2 ⟨h.up,List.pairwise_singleton _ _,λa ha b hb=>?_⟩;rw[Xx]at hb;subst hb;exact(h.each a ha).2.2.2
theorem KMk.drop(h:KMk code pc ms wl)(oT:ms=q++ [y])(hs:stk code cI=(stk code pc).dropLast)(hw:y.2.1<=kj):KMk code cI q kj:=by
 subst oT;have h1:=h.pcs;refine⟨?_,λa ha=>?_,(Xag.1 h.up).1⟩
 .rw[hs,List.map_dropLast,←h1,Xr];simp
 .have h2:=h.each a (List.mem_append_left _ ha);have h3:=(Xag.1 h.up).2.2 a ha y (by simp);exact⟨h2.1,h2.2.1,h2.2.2.1,by omega⟩
theorem KOk.wk(h:KOk code c n x)(hc:c<=c')(hn:n<=n'):KOk code c' n' x:=
 {h with since:=by have:=h.since;omega,tries:=by have:=h.tries;omega}
theorem WoG(h:KOk code c n x)(hc:c=f.clock)(hf:Vals 4 f.regs)(h0:0<=f.clock):KOk code c (n+1) (f.again x) where
 pc:=⟨Xu _,by show(0:Int)<=_;omega⟩
 regs:=hf
 rows:=λr hr=>by cases hr
 wl:=Xu _
 sl:=Xu _
 since:=by show 0<=f.clock/\f.clock<=c;omega
 tries:=by have:=h.tries;show 0<=x.tries+1/\x.tries+1<=n+1;omega
 seen:=λe he=>by cases he
 marks:=λ_=>⟨by show([]:List KM).map _=(stk code 0).map _;rfl,(λq hq=>by cases hq),List.Pairwise.nil⟩
 pos:=⟨Xu _,Xu _⟩
 pb:=λh=>by cases h
 phase:=by show(0:Int)<=0/\(0:Int)<=3;omega
 out:=by show(0:Int)<=0/\(0:Int)<=2;omega
theorem KMk.len(hc:CC code)(h:KMk code pc ms wl)(hp:pc<=code.length):(ms.length:Int)=dep code pc:=by
 have:=congrArg Xc h.pcs;simp only[Xy]at this;rw[this,Wbx hc.up pc hp]
theorem KOk.on(bJ:CC code)(h:KOk code c n x)(h0:x.phase=0){i:Nat}(hi:i<code.length)(bf:x.pc=i){regs:List Int}{seen:List En}{writes:List Rw}{marks:List KM}{busy:Bool}{pb:Pb}{cI:Nat}(hp:cI<=code.length)(hlt:i<cI)(hr:Vals 4 regs)(hrow:WcP writes)(lL:writes.length<=x.writes.length+1)(hsl:seen.length<=x.seen.length+1)
  (hs:∀e∈seen,(0<=e.1/\e.1<=7)/\(0<=e.2.1/\e.2.1<=65535)/\ -1<=e.2.2/\e.2.2<=x.since) (hse:x.seen.length<=seen.length) (hm:KMk code cI marks writes.length) (hb:busy=true->Wka pb=true):
  KOk code c n {x with regs:=regs,seen:=seen,writes:=writes,marks:=marks,busy:=busy,pb:=pb,pc:=(cI:Int)}:=
 {h with
  pc:=by show(0:Int)<=(cI:Int)/\(cI:Int)<=_;omega
  regs:=hr
  rows:=hrow
  wl:=by have:=h.wl;show(writes.length:Int)<=(cI:Int);omega
  sl:=by have:=h.sl;show(seen.length:Int)<=(cI:Int);omega
  seen:=hs
  marks:=λ_=>by show KMk code ((cI:Nat):Int).toNat marks writes.length;rw[Xj];exact hm
  pos:=by have:=h.pos;show 0<=x.pos/\x.pos<=(seen.length:Int);omega
  pb:=hb}
theorem Wts(bJ:CC code)(hF:FOk codes n f)(h:KOk code f.clock n x)(h0:x.phase=0){i:Nat}(hi:i<code.length)(bf:x.pc=i)(h5:code[i].1=5)(hm:WZ m=true):
  KOk code f.clock (n+1) (WbA m f x code[i]).2/\((WbA m f x code[i]).1=f\/(WbA m f x code[i]).1={f with lost:=true}):=by
 have aX:=WtZ (bJ.ok i hi).1 h5;have hB:0<=code[i].2.2.1/\code[i].2.2.1<=7:=by have:=aX.2;unfold W2 at this;simpa using this
 have hM:=h.marks h0;rw[bf,Xj]at hM;have aM:stk code (i+1)=stk code i:=Wga hi (by omega) (by omega);have bZ:x.pc+1=((i+1:Nat):Int):=by omega
 unfold WbA;cases hl:WaH x.writes code[i].2.2.1 with
 |some v=>
  have hv:=h.rows _ (Wit hl).2;refine⟨?_,.inl rfl⟩;simp only[bZ];exact(KOk.on bJ h h0 hi bf (by omega) (by omega) (h.regs.set _ hv.2) h.rows (by omega) (by omega) h.seen (by omega) (hM.mono aM (by omega)) h.pb).wk (by omega) (by omega)
 |none=>
  simp only;cases he:ent f.buf code[i].2.2.1 with
  |some r=>
   simp only;have hr:=Wcp he;have mb:r.2∈f.buf:=by
    have:=hr.2.2.2;exact Xaw this
   have gh:=hF.bufE _ mb;split
   .exact⟨WoG h rfl hF.regs hF.clock.1,.inl rfl⟩
   .refine⟨?_,.inl rfl⟩;simp only[bZ];refine(KOk.on bJ h h0 hi bf (by omega) (by omega) (h.regs.set _ gh.2.1) h.rows (by omega) (by simp) (λe dg=>?_) (by simp) (hM.mono aM (by omega)) h.pb).wk (by omega) (by omega);rcases Xl.1 dg with dg|dg
    .exact h.seen e dg
    .rw[Xx]at dg;subst dg;exact⟨gh.1,gh.2.1,by omega,by omega⟩
  |none=>
   simp only;have ib:Wka (if x.busy=true then x.pb else(code[i].2.2.1,0,0,0))=true:=by
    split
    .exact h.pb ‹_›
    .rw[WeJ];simp only;omega
   have cb:=Wmx (rv:=f.rv) hm ib;generalize WO m f.rv (if x.busy=true then x.pb else(code[i].2.2.1,0,0,0))=p at*;have hp:=WeJ.1 cb.1;split
   .refine⟨?_,.inr rfl⟩;exact KOk.wk (n:=n) {h with pb:=λ_=>cb.1} (by omega) (by omega)
   .split
    .refine⟨?_,.inl rfl⟩;simp only[bZ];refine(KOk.on bJ h h0 hi bf (by omega) (by omega) (h.regs.set _ hp.2.2.2) h.rows (by omega) (by simp) (λe dg=>?_) (by simp) (hM.mono aM (by omega)) (λh=>by cases h)).wk (by omega) (by omega);rcases Xl.1 dg with dg|dg
     .exact h.seen e dg
     .rw[Xx]at dg;subst dg;exact⟨hB,hp.2.2.2,by simp,by have:=h.since;simp only;omega⟩
    .refine⟨?_,.inl rfl⟩;exact KOk.wk (n:=n) {h with pb:=λ_=>cb.1} (by omega) (by omega)
theorem WuX(bD:KC code)(hF:FOk codes n f)(h:KOk code f.clock n x)(h0:x.phase=0)(hm:WZ m=true):
  KOk code f.clock (n+1) (Wl1 m f x code).2/\((Wl1 m f x code).1=f\/(Wl1 m f x code).1={f with lost:=true}):=by
 have bJ:=bD.toCC;unfold Wl1;split
 .refine⟨?_,.inl rfl⟩;exact KOk.wk (n:=n) {h with marks:=λh=>by(change (1:Int)=0 at h;omega),phase:=by(show(0:Int)<=1/\(1:Int)<=3;omega),out:=by(show(0:Int)<=1/\(1:Int)<=2;omega)} (by omega) (by omega)
 .obtain⟨i,hi,bf,ho⟩:=We5 (l:=code) h.pc.1 (by have:=h.pc;omega);simp only[ho];obtain⟨ok,o1,fR⟩:=bD.ok i hi;have cC:=bD.k10 i hi;have hM:=h.marks h0;rw[bf,Xj]at hM;have bZ:x.pc+1=((i+1:Nat):Int):=by omega
  have lL:x.writes.length<=i:=by have:=h.wl;omega
  split
  .exact Wts bJ hF h h0 hi bf ‹_› hm
  .split
   .refine⟨?_,.inl rfl⟩;unfold Wf3;split
    .refine KOk.wk (n:=n) {h with rows:=(λr hr=>by cases hr),wl:=by(have:=h.pc;show(0:Int)<=x.pc;omega),marks:=λh=>by(change (1:Int)=0 at h;omega),phase:=by(show(0:Int)<=1/\(1:Int)<=3;omega),out:=by(show(0:Int)<=2/\(2:Int)<=2;omega)} (by omega) (by omega)
    .obtain⟨j,q,y,e1,e2,e3,⟨hj,h8⟩,rW,dW,iG,e5,e6⟩:=Wjs (d:=((0,0,[]):KM)) bJ (show i<=code.length by omega) hM.pcs ‹_›;obtain⟨y1,y2,y3,y4⟩:=hM.each y (by rw[e1];simp);simp only[e2,e3,Xj,←Int.natCast_succ];have hl:=dW.len;have ht:(Xav y.2.1.toNat x.writes).length=y.2.1.toNat:=by rw[List.length_take];omega
     refine(KOk.on bJ h h0 hi bf (cI:=WiM code j+1) (by omega) (by omega) (y1.set _ (by omega)) (λr hr=>h.rows r (List.mem_of_mem_take hr)) (by omega) (by omega) h.seen (by omega) ?_ h.pb).wk (by omega) (by omega);rw[show x.marks.dropLast=q by rw[e1];simp];exact hM.drop e1 (by rw[dW.st];exact e5) (by rw[ht];omega)
   .split
    .refine⟨?_,.inl rfl⟩;have hk:=Wv0 ok ‹_›;have aM:stk code (i+1)=stk code i:=Wga hi (by omega) (by omega);simp only[bZ];refine(KOk.on bJ h h0 hi bf (by omega) (by omega) h.regs (λr hr=>?_) (by simp) (by omega) h.seen (by omega) (hM.mono aM (by simp)) h.pb).wk (by omega) (by omega);rcases Xl.1 hr with hr|hr
     .exact h.rows r hr
     .rw[Xx]at hr;subst hr;have:=hk.1;unfold W2 at this;exact⟨by simpa using this,h.regs.get _⟩
    .split
     .refine⟨?_,.inl rfl⟩;obtain⟨s1,s2⟩:=bD.sk i hi ‹_›;have hk:=Wvm ok ‹_›;have aM:stk code (i+1)=stk code i:=Wga hi (by omega) (by omega);have nU:stk code (i+1+code[i].2.2.1.toNat)=stk code i:=by rw[←aM];exact WnS (by omega) s1 s2
      by_cases hg:Wci x.regs code[i].2.1 0=0
      .simp only[if_pos hg,show x.pc+code[i].2.2.1+1=((i+1+code[i].2.2.1.toNat:Nat):Int) by omega];exact(KOk.on bJ h h0 hi bf s1 (by omega) h.regs h.rows (by omega) (by omega) h.seen (by omega) (hM.mono nU (by omega)) h.pb).wk (by omega) (by omega)
      .simp only[if_neg hg,bZ];exact(KOk.on bJ h h0 hi bf (by omega) (by omega) h.regs h.rows (by omega) (by omega) h.seen (by omega) (hM.mono aM (by omega)) h.pb).wk (by omega) (by omega)
     .split
      .refine⟨?_,.inl rfl⟩;simp only[bZ];rw[bf];exact(KOk.on bJ h h0 hi bf (by omega) (by omega) h.regs h.rows (by omega) (by omega) h.seen (by omega) (hM.begin hi ‹_› h.regs lL) h.pb).wk (by omega) (by omega)
      .split
       .refine⟨?_,.inl rfl⟩;have hz:x.marks.length≠0:=by
         have h1:=hM.len bJ (by omega);have h3:=bJ.up i hi;rw[WaT hi,Wk2 ‹_›]at h3;omega
        obtain⟨j,q,y,e1,e2,e3,⟨hj,h8⟩,rW,dW,iG,e5,e6⟩:=Wjs (d:=((0,0,[]):KM)) bJ (show i<=code.length by omega) hM.pcs hz;obtain⟨y1,y2,y3,y4⟩:=hM.each y (by rw[e1];simp);simp only[bZ];refine(KOk.on bJ h h0 hi bf (by omega) (by omega) (h.regs.set _ (by omega)) h.rows (by omega) (by omega) h.seen (by omega) ?_ h.pb).wk (by omega) (by omega);rw[show x.marks.dropLast=q by rw[e1];simp];exact hM.drop e1 (Wj1 hi ‹_›) (by omega)
       .refine⟨?_,.inl rfl⟩;have aM:stk code (i+1)=stk code i:=Wga hi (by omega) (by omega);simp only[bZ];exact(KOk.on bJ h h0 hi bf (by omega) (by omega) (Wkj ok (by omega) (by omega) h.regs) h.rows (by omega) (by omega) h.seen (by omega) (hM.mono aM (by omega)) h.pb).wk (by omega) (by omega)
end
end
section
def zWd:Wd:=(0,0,0)
def Wm(m:Mm)(i:Int):Wd:=Wci m.2 i zWd
def WmO(m:Mm)(i:Int)(w:Wd):Mm:=(m.1,WmN m.2 i w)
variable{m:Mm}
theorem Wnq(hm:WZ m=true){i:Int}{w:Wd}(hw:WpO m.1 w=true):WZ (WmO m i w)=true:=by
 obtain⟨h8,h0,h1,fI⟩:=WK hm;unfold WZ WmO WmN;simp only[Xi,decide_eq_true_eq,Xak,Xaf];refine⟨h8,⟨h0,h1⟩,λx hx=>?_⟩;rcases List.mem_or_eq_of_mem_set hx with h|h
 .exact fI x h
 .subst h;exact hw
theorem WeP(hm:WZ m=true){i:Int}(hi:0<=i/\i<=7):WpO m.1 (Wm m i)=true:=Wr5 hm hi
theorem WkV(hm:WZ m=true):WZ (tick m).1=true/\0<=(tick m).2/\(tick m).2<=1000000/\((tick m).2≠0->(tick m).2=m.1+1/\(tick m).1=(m.1+1,m.2))/\((tick m).2=0->(tick m).1=m):=by
 obtain⟨h8,h0,h1,fI⟩:=WK hm;unfold tick;split
 .refine⟨?_,by simp only;omega,by simp only;omega,λ_=>⟨rfl,rfl⟩,λh=>by simp only at h;omega⟩;unfold WZ;simp only[Xi,decide_eq_true_eq,Xak];refine⟨h8,⟨by omega,by omega⟩,λw hw=>?_⟩;have:=Wc5.1 (fI w hw);rw[Wc5];omega
 .exact⟨hm,by simp,by simp,λh=>absurd rfl h,λ_=>rfl⟩
end
section
def Wfn(c:Int)(v:List En)(r:Rw):List En:=match ent v r.1 with
 |some a=>v.set a.1 (r.1,r.2,c)
 |none=>v++ [(r.1,r.2,c)]
theorem Wml(c:Int)(v:List En)(r:Rw):(Wfn c v r).length<=v.length+1:=by
 unfold Wfn;split<;>simp
theorem apE{a b:En}:Ap cfE a b↔a.1≠b.1:=by unfold Ap cfE;omega
theorem Wrs{c:Int}{L M:List En}{r:Rw}(hL:L.Pairwise (Ap cfE))(hM:Ris cfE M)(hm:∀x,x∈L↔x∈M):
  (Wfn c L r).Pairwise (Ap cfE)/\Ris cfE (Wc9 cfE M (r.1,r.2,c))/\∀x,x∈Wfn c L r↔x∈Wc9 cfE M (r.1,r.2,c):=by
 have key:(Wfn c L r).Pairwise (Ap cfE)/\∀x,x∈Wfn c L r↔x=(r.1,r.2,c)\/(x∈L/\Ap cfE x (r.1,r.2,c)):=by
  unfold Wfn ent;cases he:fnd (λe:En=>e.1==r.1) L 0 with
  |some a=>
   obtain⟨h1,h2,h3,h4⟩:=Wcp he;simp only[Xba,Xdf]at h3 h4;have h5:L[a.1]=a.2:=by rw[Xp h3]at h4;injection h4
   exact WlN WsQ hL h3 (by rw[apE,h5];simpa using h1)
  |none=>
   have:=WfX he;exact Wjb hL λx hx=>by rw[apE];simpa using this x hx
 refine⟨key.1,WbI WsQ hM,λx=>?_⟩;rw[key.2 x,Wa3 WsQ hM,hm]
theorem Wql{c:Int}:∀{rows:List Rw} {L M:List En},L.Pairwise (Ap cfE)->Ris cfE M->(∀x,x∈L↔x∈M)->
  (rows.foldl (Wfn c) L).Pairwise (Ap cfE)/\Ris cfE (WaC c M rows)/\∀x,x∈rows.foldl (Wfn c) L↔x∈WaC c M rows
 | [],_,_,hL,hM,hm=>⟨hL,hM,hm⟩
 |r::rows,L,M,hL,hM,hm=>by
  obtain⟨a,b,d⟩:=Wrs (c:=c) (r:=r) hL hM hm;exact Wql (rows:=rows) a b d
theorem WlZ{c:Int}:∀(rows:List Rw) (L:List En),(rows.foldl (Wfn c) L).length<=L.length+rows.length
 | [],L=>by simp
 |r::rows,L=>by
  have:=WlZ (c:=c) rows (Wfn c L r);have:=Wml c L r;rw[Xau,Xw];omega
theorem WdZ{c:Int}{P:En->Prop}:∀{rows:List Rw} {M:List En},Ris cfE M->(∀x∈M,P x)->(∀r∈rows,P (r.1,r.2,c))->∀x∈WaC c M rows,P x
 | [],_,_,h,_=>h
 |r::rows,M,hM,h,hr=>by
  refine WdZ (rows:=rows) (WbI WsQ hM) (λx hx=>?_) λr' h'=>hr r' (Xe _ h');rcases(Wa3 WsQ hM).1 hx with rfl|h'
  .exact hr r (Xh ..)
  .exact h x h'.1
theorem Wog{R:Type}{N:Nat}{k4:Int}{b7 b8 b9:Int}{bd:Bool}{aO aH ac dG cW bc:Int}{cg:Bool}{bO bv dH gV:Int}{bV:List Kc}{cR:List Int}{dh:List Kc}{gW:List Int}{c9:List Kc}{eB:List Y_KidRun}{gX:Nat}{fC:List Int}{eX:List Kb}{fD:List Kc}{eC:List Kk}{K0:Int->Bool->Kt->Option R}(hN:1048576<N)(tY:bV.length<=8):
  ∀(d j n:Nat) (v:List En),j+d=bV.length->d<n->v.length<=100+j->
  Zaz N k4 (Wb bV) b7 b8 b9 bd aO aH ac dG cW bc cg bO bv dH gV bV cR dh gW c9 eB gX fC eX fD eC K0 n (j:Int) v=K0 (bV.length:Int) false ((bV.drop j).foldl (Wfn b8) v)
 |0,j,n+1,v,hj,hn,hv=>by
  have:j=bV.length:=by omega
  subst this;simp only[Zaz,WV (Xn bV.length),cond_false,Xdo,List.foldl_nil]
 |d+1,j,n+1,v,hj,hn,hv=>by
  have hlt:j<bV.length:=by omega
  have lM:=Wfq (N:=N) (f:=(b7,(b8,(b9,(bd,(cR,(dh,(v,(gW,(c9,Xm eB gX (aO,(aH,(ac,(dG,(cW,(bc,(fC,(eX,(fD,(eC,(cg,(bO,(bv,(dH,gV)))))))))))))))))))))))) (c:=bV[j].1) (by show v.length<=1048576;omega) hN;have hs:=Wml b8 v bV[j];have bm:∀v',v'=Wfn b8 v bV[j]->Zaz N k4 (Wb bV) b7 b8 b9 bd aO aH ac dG cW bc cg bO bv dH gV bV cR dh gW c9 eB gX fC eX fD eC K0 n ((j+1:Nat):Int) v'=K0 (bV.length:Int) false ((bV.drop j).foldl (Wfn b8) v):=λv' xS=>by
   subst xS;rw[Wog hN tY d (j+1) n _ (by omega) (by omega) (by omega),Xcd hlt,Xau]
  simp only[Zaz,Wl,WN hlt,Wg hlt,Wj hlt,Wf (show j<4611686018427387904 by omega),cond_true,lM,ret,Xd];have hd:ent v bV[j].1=ent v bV[j].1:=rfl;unfold Wfn at bm;cases he:ent v bV[j].1 with
  |some a=>
   rw[he]at bm;obtain⟨h1,h2,h3,h4⟩:=Wcp he;rw[Xba]at h3;simp only[decide_eq_true (show((a.1:Int)>=0) by omega),cond_true];rw[W5,decide_eq_true h3];simp only[cond_true,Xj];exact bm _ rfl
  |none=>
   rw[he]at bm;simp only[show decide ((-1:Int)>=0)=false from rfl,cond_false];rw[Ww (by simp;omega)];simp only[cond_true,Xai];exact bm _ rfl
 |_,_,0,_,_,h,_=>by omega
theorem Wj8{R:Type}{N:Nat}{jc fS je jf:Int}{jg:Bool}{jh ji jj jk jl jm:Int}{jn:Bool}{jo jp jq jr:Int}{di:List Kb}{jt:List Int}{ju:List Kc}{jv:List Kb}{jw:List Int}{jx:List Y_KidRun}{jy:Nat}{fT:List Int}{fU:List Kc}{fV:List Kk}{K0:Int->Bool->Kw->Option R}(v8:di.length<=1000):
  ∀(d j n:Nat) (v:List Rw),j+d=di.length->d<n->v.length<=1000+j->
  Za9 N jc (Wb di) fS je jf jg jh ji jj jk jl jm jn jo jp jq jr di jt ju jv jw jx jy fT fU fV K0 n (j:Int) v=K0 (di.length:Int) false (v++WaR (di.drop j))
 |0,j,n+1,v,hj,hn,hv=>by
  have:j=di.length:=by omega
  subst this;simp only[Za9,WV (Xn di.length),cond_false,Xdo,WaR,List.filter_nil,List.map_nil,Xcz]
 |d+1,j,n+1,v,hj,hn,hv=>by
  have hlt:j<di.length:=by omega
  have he:WaR (di.drop j)=if di[j].2.2= -1 then(di[j].1,di[j].2.1)::WaR (di.drop (j+1))else WaR (di.drop (j+1)):=by
   rw[Xcd hlt];unfold WaR;rw[Xbj];by_cases h:di[j].2.2= -1
   .rw[if_pos h,if_pos (decide_eq_true h)];rfl
   .rw[if_neg h,if_neg (by simpa using h)]
  simp only[Za9,Wl,WN hlt,Wg hlt,Wj hlt,Wf (show j<4611686018427387904 by omega),cond_true,Wv];rw[he];by_cases h:di[j].2.2= -1
  .rw[if_pos h,if_pos h,Ww (by simp;omega)];simp only[cond_true];rw[Wj8 v8 d (j+1) n _ (by omega) (by omega) (by simp;omega)];simp
  .rw[if_neg h,if_neg h];rw[Wj8 v8 d (j+1) n _ (by omega) (by omega) (by omega)]
 |_,_,0,_,_,h,_=>by omega
variable{N:Nat}{codes:List (List Opn)}{n:Int}{f:Fm}{k:Nat}{code:List Opn}{m:Mm}{x:Kd}
theorem Wvr{l:List En}(h:Ris cfE l):l.Pairwise (Ap cfE):=h.imp λh=>.inl h
theorem Wkl(hk:k<f.kids.length)(h3:f.kids.length<=3)(qU:code.length<=24)(hF:FOk codes n f)(aC:codes.getD k []=code)(aQ:f.kids[k]=x)(hN:1048576<N):
  Zd5 N f.e (k:Int)=some (((Fm.put (Wa1 f x k) k).e,()),()):=by
 have hx:=hF.kid k hk;rw[aC,aQ]at hx;obtain⟨f0,f1,f2,f3,f4,f5,f6,f7,f8,f9⟩:=fmP f;have bf:=hx.pc;have lL:=hx.wl;have hsl:=hx.sl;have hb8:=hF.buf8;have nV:f.order.length<=3:=by
  have h1:=hF.done;have:=Xes (p:=λx:Kd=>decide (x.phase=3)) (l:=f.kids);omega
 have gF:=hF.readsL;have e2:Xb (f.kids.map Kd.e) (Xa (k:Int)) d_KidRun=x.e:=by
  have:=Wf8 Kd.e f.kids k {};rw[Wh hk,aQ]at this;exact this
 unfold Zd5;simp only[f9,Xy];rw[W5,decide_eq_true hk];simp only[cond_true,e2];have en:Zg1 N x.e.2.2.2.2.2.2.2.2.1=ret (WbR x.writes):=Wdv (show x.writes.length<=1048576 by omega) hN;rw[en];simp only[ret,Xd];have ie:=WeR x.writes;rw[show(0:Int)=((0:Nat):Int)from rfl];rw[Wog (bV:=WbR x.writes) hN ie (WbR x.writes).length 0 N _ (by omega) (by omega) (by show f.buf.length<=_;omega)];simp only[Xcf];have hP6:P6 f.e=f.buf:=rfl;have hcl:We .i64 f.e.2.1 1=f.clock+1:=Wcs (by have:=hF.clock;show 0<=f.clock/\_;omega);rw[hP6,hcl];obtain⟨i1,i2,i3⟩:=Wql (c:=f.clock+1) (rows:=WbR x.writes) (Wvr hF.bufR) hF.bufR (λx=>Iff.rfl);unfold Zal;have fM:=WlZ (c:=f.clock+1) (WbR x.writes) f.buf;rw[WkO (rng:=Wvw) (N:=N) WsQ i2 i1 i3 (λe he=>?_) (by omega)]
 .simp only[Xd];have hP7:P7 x.e=x.seen:=rfl;rw[show(Kd.e x).2.2.2.2.2.2.2.1=x.seen from rfl];rw[Wj8 (di:=x.seen) (by omega) x.seen.length 0 N _ (by omega) (by omega) (by show f.reads.length<=_;omega)];rw[Ww (by show f.order.length+1<=_;omega)];simp only[cond_true,Xcf];have hU:∀(g:Fm) (y:Kd),U6 (Xm (f.kids.map Kd.e) k y.e) (S5 (f.reads++WaR x.seen) (S4 (f.order++ [(k:Int)]) (S3 (WaC (f.clock+1) f.buf (WbR x.writes)) f.e.2.2.2)))=(f.lost,f.regs,f.start,WaC (f.clock+1) f.buf (WbR x.writes),f.order++ [(k:Int)],f.reads++WaR x.seen,(f.kids.set k y).map Kd.e):=λg y=>by
   rw[Xfq];rfl
  rw[Xj];exact congrArg (λz=>some (((f.rv,(f.clock+1,((0:Int),z))),()),())) (hU f {x with phase:=3,pos:=0,marks:=[]})
 .have h1:=(i3 e).1 he;have:=WdZ (P:=λe=>0<=e.1/\e.1<=7) hF.bufR (λe he=>(hF.bufE e he).1) (λr hr=>(Whl.1 hr).1) e h1;unfold Wvw Wse;simp;omega
theorem WlK(hk:k<f.kids.length)(hF:FOk codes n f)(hx:KOk code f.clock n x)(aQ:f.kids[k]=x)(hn:n<=100000)(o:Int):
  Zbk N (Fm.e {f with owner:=o}) (k:Int)=some (((Fm.put ({f with owner:=o},f.again x) k).e,()),()):=by
 have h:=WdY (N:=N) (f:=Fm.e {f with owner:=o}) (k:=k) (x:=x.e) (by show k<(f.kids.map Kd.e).length;simpa using hk) hF.regs.len (by have:=hx.tries;show 0<=x.tries/\x.tries<=100000;omega);have e3:U9 (Xm (Q9 (Fm.e {f with owner:=o})) k x.e) (Fm.e {f with owner:=o})=Fm.e {f with owner:=o}:=by
  have:=U9e {f with owner:=o} k x;rw[←aQ]at this;simp only[Xbq]at this;rw[←aQ];exact this
 rw[e3]at h;rw[h];exact congrArg (λz=>some ((z,()),())) (U9e {f with owner:=o} k (f.again x))
theorem Wki(hk:k<f.kids.length)(h3:f.kids.length<=3)(hm:WZ m=true)(bD:KC code)(hF:FOk codes n f)(aC:codes.getD k []=code)(hn:n<=100000)(hN:1048576<N):
  Zi7 N f.e (k:Int) code m=some (((WaI m f k code).e,()),()):=by
 obtain⟨x,aQ⟩:∃x,f.kids[k]=x:=⟨_,rfl⟩;have hx:=hF.kid k hk;rw[aC,aQ]at hx;obtain⟨f0,f1,f2,f3,f4,f5,f6,f7,f8,f9⟩:=fmP f;obtain⟨k0,k1,k2,k3,k4,k5,k6,k7,k8,k9,k10⟩:=kdP x;have hsl:=hx.sl;have bf:=hx.pc;have qU:=bD.len;have e2:Xb (f.kids.map Kd.e) (Xa (k:Int)) d_KidRun=x.e:=by
  have:=Wf8 Kd.e f.kids k {};rw[Wh hk,aQ]at this;exact this
 have e3:U9 (Xm (f.kids.map Kd.e) (Xa (k:Int)) x.e) f.e=f.e:=by
  rw[Xj,U9e,←aQ,Xbq]
 have e4:Fm.put (f,x) k=f:=by unfold Fm.put;simp only;rw[←aQ,Xbq]
 unfold Zi7 WaI Wbc;simp only[Wl,f9,f3,Xy];rw[Whs];by_cases hlost:f.lost=true
 .rw[if_pos hlost,if_pos hlost]
 rw[if_neg hlost,if_neg hlost];rw[W5,decide_eq_true hk];simp only[cond_true,cond_false,e2,e3,k0,k4,k7,f2,Wv,Wh hk,aQ];by_cases h0:x.phase=0
 .rw[if_pos h0,if_pos h0,Wm3 hk hm bD hF aC aQ h0 hn hN];rfl
 .rw[if_neg h0,if_neg h0];by_cases h1:x.phase=1
  .rw[if_pos h1,if_pos h1];by_cases ho:f.owner=0
   .rw[if_pos ho,if_pos ho,Wcs (by omega),Xj];exact WpQ rfl rfl rfl
   .rw[if_neg ho,if_neg ho,e4]
  .rw[if_neg h1,if_neg h1];by_cases h2:x.phase=2
   .rw[if_pos h2,if_pos h2];unfold Wb;by_cases hp:x.pos=(x.seen.length:Int)
    .rw[if_pos hp,if_pos hp,Wkl hk h3 qU hF aC aQ hN];rfl
    .rw[if_neg hp,if_neg hp];have hpos:=hx.pos;have eT:inb x.pos x.seen.length=true:=by unfold inb;simp;omega
     rw[eT];have hg:Xb x.seen (Xa x.pos) ((0,0,0):En)=Wci x.seen x.pos (0,0,0):=rfl;simp only[cond_true,hg];have lM:=Wfq (N:=N) (f:=f.e) (c:=(Wci x.seen x.pos (0,0,0)).1) (by show f.buf.length<=1048576;have:=hF.buf8;omega) hN;rw[show f.e.2.2.2.2.2.2.1=f.buf from rfl]at lM;rw[lM];simp only[ret,Xd,f6];have hsz:S2 (0:Int) f.e=Fm.e {f with owner:=0}:=rfl;have dP:Zbk N (U9 (Xm (f.kids.map Kd.e) (Xa (k:Int)) x.e) (S2 0 f.e)) (k:Int)=some (((Fm.put ({f with owner:=0},f.again x) k).e,()),()):=by
      rw[hsz];have h:=U9e {f with owner:=0} k x;rw[Xj];rw[show(U9 (Xm (f.kids.map Kd.e) k x.e) (Fm.e {f with owner:=0}))=Fm.e {f with owner:=0} by
       rw[h,←aQ];simp only[Xbq]]
      exact WlK hk hF hx aQ hn 0
     unfold Wt9;have qV:We .i64 x.pos 1=x.pos+1:=Wcs (by omega);rw[qV];cases he:ent f.buf (Wci x.seen x.pos (0,0,0)).1 with
     |some a=>
      obtain⟨g1,g2,g3,g4⟩:=Wcp he;rw[Xba]at g3;rw[Xdf,Xp g3]at g4;injection g4 with g4;simp only[decide_eq_true (show((a.1:Int)>=0) by omega),cond_true];rw[W5,decide_eq_true g3];simp only[cond_true,Wj g3,g4];by_cases hv:a.2.2.2=(Wci x.seen x.pos (0,0,0)).2.2
      .rw[if_pos hv,if_pos hv,Xj];exact WpQ rfl rfl rfl
      .rw[if_neg hv,if_neg hv,dP];rfl
     |none=>
      simp only[show decide ((-1:Int)>=0)=false from rfl,cond_false];by_cases hv:(-1:Int)=(Wci x.seen x.pos (0,0,0)).2.2
      .rw[if_pos hv,if_pos hv,Xj];exact WpQ rfl rfl rfl
      .rw[if_neg hv,if_neg hv,dP];rfl
   .rw[if_neg h2,if_neg h2,e4]
end
section
section
variable{codes:List (List Opn)}{n:Int}{f f':Fm}{k:Nat}{code:List Opn}{m:Mm}{x y:Kd}
theorem FOk.len3(h:FOk codes n f)(h3:codes.length<=3):f.order.length<=3:=by
 have h1:=h.done;have:=Xes (p:=λx:Kd=>decide (x.phase=3)) (l:=f.kids);have:=h.len;omega
theorem FOk.put1(h:FOk codes n f)(hk:k<f.kids.length)(aC:codes.getD k []=code){o:Int}{l:Bool}(ho:0<=o/\o<=f.kids.length)(hy:KOk code f.clock (n+1) y)(hp:f.kids[k].phase≠3)(xT:y.phase≠3):
  FOk codes (n+1) (Fm.put ({f with owner:=o,lost:=l},y) k) where
 len:=by show(f.kids.set k y).length=_;rw[Xaf];exact h.len
 regs:=h.regs
 clock:=h.clock
 done:=by
  show f.order.length=(f.kids.set k y).countP _;rw[Xgz hk,if_neg (by simpa using hp),if_neg (by simpa using xT)];exact h.done
 bufR:=h.bufR
 bufE:=h.bufE
 readsL:=h.readsL
 readsE:=h.readsE
 owner:=by show 0<=o/\o<=((f.kids.set k y).length:Int);rw[Xaf];exact ho
 kid:=λi hi=>by
  change i<(f.kids.set k y).length at hi;rw[Xaf]at hi;show KOk (codes.getD i []) f.clock (n+1) (f.kids.set k y)[i];rw[Xao];by_cases he:k=i
  .subst he;rw[if_pos rfl,aC];exact hy
  .rw[if_neg he];exact(h.kid i hi).wk (by omega) (by omega)
theorem FOk.wk(h:FOk codes n f){n':Int}(hn:n<=n'):FOk codes n' f:=
 {h with kid:=λk hk=>(h.kid k hk).wk (by omega) hn}
theorem Wkp(h:∀e∈x.seen,(0<=e.1/\e.1<=7)/\(0<=e.2.1/\e.2.1<=65535)/\ -1<=e.2.2/\e.2.2<=x.since):WcP (WaR x.seen):=by
 intro r hr;unfold WaR at hr;obtain⟨e,he,rfl⟩:=Xv.1 hr;have:=h e (Xat.1 he).1;exact⟨this.1,this.2.1⟩
theorem WlT(l:List En):(WaR l).length<=l.length:=by
 unfold WaR;rw[Xy];exact List.length_filter_le _ _
theorem WgM{c:Int}:∀{rows:List Rw} {M:List En},Ris cfE M->Ris cfE (WaC c M rows)
 | [],_,h=>h
 |r::rows,M,h=>WgM (rows:=rows) (WbI WsQ h)
theorem Wqo(hF:FOk codes n f)(hk:k<f.kids.length)(bD:code.length<=24)(aC:codes.getD k []=code)(aQ:f.kids[k]=x)(h2:x.phase=2):
  FOk codes (n+1) (Fm.put (Wa1 f x k) k):=by
 have hx:=hF.kid k hk;rw[aC,aQ]at hx;have hc:=hF.clock;unfold Wa1 Fm.put;refine{len:=?_,regs:=hF.regs,clock:=?_,done:=?_,bufR:=WgM hF.bufR,bufE:=?_,readsL:=?_,readsE:=?_,owner:=?_,kid:=?_}
 .simp only[Xaf];exact hF.len
 .simp only[Xae,Xdx];omega
 .simp only[Xae,Xdx];rw[Xgz hk,aQ,if_neg (by simp[h2]),if_pos (by simp),←hF.done];rfl
 .simp only;refine WdZ hF.bufR (λe he=>?_) λr hr=>?_
  .have:=hF.bufE e he;exact⟨this.1,this.2.1,this.2.2.1,by omega⟩
  .have:=Wd8 r hr;exact⟨this.1,this.2,by simp only;omega,by simp only;omega⟩
 .have h1:=hF.readsL;have h2:=WlT x.seen;have h3:=hx.sl;have h4:=hx.pc;simp only[Xae,Xdx];omega
 .intro r hr;rcases Xl.1 hr with hr|hr
  .exact hF.readsE r hr
  .exact Wkp hx.seen r hr
 .simp only[Xaf];omega
 .intro i hi;simp only[Xaf]at hi;simp only[Xao];by_cases he:k=i
  .subst he;rw[if_pos rfl,aC];refine KOk.wk (c:=f.clock) (n:=n) ?_ (by omega) (by omega);exact{hx with marks:=(λh=>by(change (3:Int)=0 at h;omega)),pos:=⟨Xu _,by show(0:Int)<=_;omega⟩,phase:=by(show(0:Int)<=3/\(3:Int)<=3;omega)}
  .rw[if_neg he];exact(hF.kid i hi).wk (by omega) (by omega)
theorem Wot(hk:k<f.kids.length)(hm:WZ m=true)(bD:KC code)(hF:FOk codes n f)(aC:codes.getD k []=code):FOk codes (n+1) (WaI m f k code):=by
 obtain⟨x,aQ⟩:∃x,f.kids[k]=x:=⟨_,rfl⟩;have hx:=hF.kid k hk;rw[aC,aQ]at hx;have e4:Fm.put (f,x) k=f:=by unfold Fm.put;simp only;rw[←aQ,Xbq]
 have hFw:=hF.wk (show n<=n+1 by omega);unfold WaI Wbc;split
 .exact hFw
 rw[Wh hk,aQ];split
 .rename_i h0;obtain⟨h1,h2⟩:=WuX bD hF hx h0 hm;have xU:(Wl1 m f x code).2.phase≠3:=by
   unfold Wl1 WbA Wf3;simp only
   repeat' split
   all_goals simp[h0,Fm.again]
  have:=h1;have key:∀q:Fm×Kd,(q.1=f\/q.1={f with lost:=true})->KOk code f.clock (n+1) q.2->q.2.phase≠3->FOk codes (n+1) (Fm.put q k):=by
   rintro⟨g,y⟩ hg hy hp;simp only at hg hy hp;rcases hg with rfl|rfl
   .exact FOk.put1 (o:=g.owner) (l:=g.lost) hF hk aC hF.owner hy (by rw[aQ,h0];omega) hp
   .exact FOk.put1 (o:=f.owner) (l:=true) hF hk aC hF.owner hy (by rw[aQ,h0];omega) hp
  exact key _ h2 h1 xU
 .split
  .rename_i h1;split
   .refine FOk.put1 (o:=(k:Int)+1) (l:=f.lost) hF hk aC (by omega) ?_ (by rw[aQ,h1];omega) (by show(2:Int)≠3;omega);refine KOk.wk (c:=f.clock) (n:=n) ?_ (by omega) (by omega);exact{hx with marks:=(λh=>by(change (2:Int)=0 at h;omega)),phase:=by(show(0:Int)<=2/\(2:Int)<=3;omega)}
   .rw[e4];exact hFw
  .split
   .rename_i h2;split
    .exact Wqo hF hk bD.len aC aQ h2
    .simp only;split
     .refine FOk.put1 (o:=f.owner) (l:=f.lost) hF hk aC hF.owner ?_ (by rw[aQ,h2];omega) (by show x.phase≠3;omega);refine KOk.wk (c:=f.clock) (n:=n) ?_ (by omega) (by omega);exact{hx with pos:=by(have:=hx.pos;show 0<=x.pos+1/\x.pos+1<=(x.seen.length:Int);omega)}
     .refine FOk.put1 (o:=0) (l:=f.lost) hF hk aC (by omega) (WoG hx rfl hF.regs hF.clock.1) (by rw[aQ,h2];omega) (by show(0:Int)≠3;omega)
   .rw[e4];exact hFw
theorem WrK{rv:Int}{regs:List Int}{writes:List Rw}(hr:Vals 4 regs)(hn:0<=n):FOk codes n (WaZ rv regs writes codes.length) where
 len:=by simp[WaZ]
 regs:=hr
 clock:=by simp[WaZ]
 done:=by
  simp only[WaZ,Xef];rw[List.countP_replicate,if_neg (by simp)]
 bufR:=by
  unfold Ris WaZ;simp only[Xem];exact(Wgs writes).imp λ{a b} h=>by unfold cfE;simp only;omega
 bufE:=λe he=>by
  obtain⟨r,hr,rfl⟩:=Xv.1 he;have:=Wd8 r hr;exact⟨this.1,this.2,by simp[WaZ]⟩
 readsL:=by simp[WaZ]
 readsE:=λr hr=>by cases hr
 owner:=by simp[WaZ]
 kid:=λk hk=>by
  simp only[WaZ,Xbh];exact{pc:=by simp,regs:=hr,rows:=(λr hr=>by cases hr),wl:=by simp,sl:=by simp,since:=by simp,tries:=by simp;omega,seen:=(λe he=>by cases he),marks:=(λ_=>⟨by simp[stk],(λq hq=>by cases hq),List.Pairwise.nil⟩),pos:=by simp,pb:=(λh=>by cases h),phase:=by simp,out:=by simp}
end
end
section
theorem Wjt{α β R:Type}{body:Int->α->List β->(List β->Option R)->Option R}{K:Int->List β->Option R}{f:α->β}:∀(l:List α) (d r:List β),l.length<=r.length->
  (∀(j:Nat) x (v:List β) k,x∈l->j<v.length->body j x v k=k (v.set j (f x)))->WbW body K l d.length (d++r)=K ((d.length+l.length:Nat):Int) (d++(l.map f++r.drop l.length))
 | [],d,r,_,_=>by simp[WbW]
 |x::l,d,[],h,_=>by simp at h
 |x::l,d,y::r,h,hb=>by
  rw[WbW,hb d.length x _ _ (Xh ..) (by simp),Wdb];have:=Wjt (body:=body) (K:=K) (f:=f) l (d++ [f x]) r (by simpa using h) λj z v k hz=>hb j z v k (Xe _ hz);simp only[Xae,Xdx,Xbn,Xeq]at this;rw[this];simp only[Xw,List.map_cons,List.drop_succ_cons,List.cons_append];rw[show d.length+1+l.length=d.length+(l.length+1) by omega]
theorem WkM{α:Type}{R:Type}{l:List α}{p:α->Bool}{lp:Nat->Int->Option R}{N:Nat}{K0:Int->Option R}{K1:Option R}(hl:l.length<N)(eS:l.length<=1048576)(hs:∀n (j:Nat) (h:j<l.length),lp (n+1) (j:Int)=bif p l[j]then K0 j else lp n ((j+1:Nat):Int))(he:∀n,lp (n+1) (l.length:Int)=K1):lp N 0=match fnd p l 0 with|some r=>K0 r.1|none=>K1:=by
 have h1:=Wq (l:=l) (V:=Unit) (lp:=λn j _=>lp n j) hl (body:=λj x v k=>bif p x then K0 j else k v) (K:=λ_ _=>K1) (λn j v h=>hs n j h) (λn v=>he n) ();refine h1.trans ?_;rw[WfT (p:=p) (E:=λj _=>K0 j) l 0 () (λj x v k _=>rfl)];cases fnd p l 0<;>rfl
theorem WkX{α:Type}{p:α->Bool}:∀(l:List α) (j:Nat),(fnd p l j).isSome=l.any p
 | [],_=>rfl
 |x::l,j=>by
  unfold fnd;rw[List.any_cons];cases p x
  .simp[WkX l]
  .rfl
variable{N:Nat}
theorem Wlo{f:Fm}(h3:f.kids.length<=3)(hN:1048576<N):Zm0 N f.e=ret (Wfv f):=by
 unfold Zm0 Zak Zv;have e:f.e.2.2.2.2.2.2.2.2.2=f.kids.map Kd.e:=rfl;rw[e];have hl:(f.kids.map Kd.e).length<=3:=by simpa using h3
 have h1:=WkM (l:=f.kids.map Kd.e) (p:=λx=>x.1 !=3) (N:=N) (lp:=λn j=>Zg N (f.kids.map Kd.e) (λay=>(some ((),(ay,())))) (λai aG=>(some ((),((-1:Int),())))) n j) (K0:=λj=>some ((),(j,()))) (K1:=some ((),((-1:Int),()))) (by omega) (by omega)
  (λn j hj=>by
   simp only[Zg,WN hj,Wg hj,Wj hj,Wf (show j<4611686018427387904 by omega),cond_true,Znz,Xd])
  (λn=>by simp only[Zg,WV (Xn _),cond_false])
 rw[h1];have h2:=WkX (p:=λx:Y_KidRun=>x.1 !=3) (f.kids.map Kd.e) 0;have h3:(f.kids.map Kd.e).any (λx=>x.1 !=3)= !Wfv f:=by
  unfold Wfv;rw[List.any_map,←Wb1];have:((λx:Y_KidRun=>x.1 !=3)∘Kd.e)= λx:Kd=>!decide (x.phase=3):=by
   funext x;show(x.phase !=3)= !decide (x.phase=3);by_cases h:x.phase=3<;>simp[h]
  rw[this]
 rw[h3]at h2;cases hf:fnd (λx:Y_KidRun=>x.1 !=3) (f.kids.map Kd.e) 0 with
 |some r=>
  rw[hf]at h2;simp only[Xd,decide_eq_true (show((r.1:Int)>=0) by omega),Xs,ret];rw[show Wfv f=false by simpa using h2.symm]
 |none=>
  rw[hf]at h2;rw[show Wfv f=true by simpa using h2.symm];rfl
theorem WlC{f:Fm}(h:f.buf.length<=1000)(hN:1048576<N):Zh5 N f.e=ret (Wgq f):=by
 unfold Zh5;have e:f.e.2.2.2.2.2.2.1=f.buf:=rfl;rw[e];have h1:=Wq (l:=f.buf) (V:=List Rw) (R:=Unit×(List Rw×Unit)) (lp:=λn j v=>Zcy N f.buf (Wb f.buf) (λt9 aw ar=>(some ((),(ar,())))) n j v) (n:=N) (by omega)
  (body:=λj x v k=>bif WA (v.length+ [(x.1,x.2.1)].length)then k (Xf v [(x.1,x.2.1)])else none) (K:=λ_ v=>ret v)
  (λn i v hi=>by simp only[Zcy,WN hi,Wg hi,Wj hi,Wf (show i<4611686018427387904 by omega),cond_true])
  (λn v=>by simp only[Zcy,WV (Xn f.buf.length),cond_false]) []
 refine h1.trans ?_;rw[Wcy (f:=λx:En=>(x.1,x.2.1)) f.buf 0 [] (by simp;omega) (λj x v k _=>rfl)];rfl
theorem Wj0{f:Fm}(hr:Vals 4 f.regs)(h3:f.kids.length<=3)(hx:∀x∈f.kids,x.regs.length<=1000)(hN:1048576<N):Zh4 N f.e=ret (WhQ f):=by
 unfold Zh4 WhQ;have e:f.e.2.2.2.2.1=f.regs:=rfl;have e2:f.e.2.2.2.2.2.2.2.2.2=f.kids.map Kd.e:=rfl;have rX:WeY f.regs=true:=WeD.2 hr;have hl:=hr.len;have hm:(f.kids.map Kd.e).length=f.kids.length:=by simp
 rw[e,e2,Wc1 (by omega) hN,if_pos ⟨rX,h3⟩];simp only[ret,Xd,rX,Xs,cond_false];rw[decide_eq_false (by unfold Wb;omega),WaV (by omega)];simp only[ret,Xd,cond_false];have h1:=Wq (l:=f.kids.map Kd.e) (V:=List Int) (R:=Unit×(List Int×Unit)) (lp:=λn j v=>Zbp N (f.kids.map Kd.e) (Wb (f.kids.map Kd.e)) (λaY cL cK=>(some ((),(cK,())))) n j v) (n:=N) (by omega)
  (body:=λj x v k=>bif inb j v.length then(bif x.2.2.2.2.2.1==(1:Int)then((Zab N (P6 x) (4:Int)).bind λcJ=>(bif cJ.2.1 then(bif inb 0 (P6 x).length then(bif inb j (Xm v j.toNat 0).length then k (Xm (Xm v j.toNat 0) j.toNat (Xb (P6 x) (Xa (0:Int)) 0))else none)else none)else k (Xm v j.toNat 0)))else k (Xm v j.toNat 0))else none) (K:=λ_ v=>ret v)
  (λn i v hi=>by simp only[Zbp,Wl,WN hi,Wg hi,Wj hi,Wf (show i<4611686018427387904 by omega),cond_true];rfl)
  (λn v=>by simp only[Zbp,WV (Xn _),cond_false]) f.regs
 refine h1.trans ?_;have h2:=Wjt (β:=Int) (K:=λ_ v=>ret v) (f:=λx:Y_KidRun=>if P5 x=1/\WeY (P6 x)=true then Wci (P6 x) 0 0 else 0) (f.kids.map Kd.e) [] f.regs (by omega) (body:=λj x v k=>bif inb j v.length then(bif x.2.2.2.2.2.1==(1:Int)then((Zab N (P6 x) (4:Int)).bind λcJ=>(bif cJ.2.1 then(bif inb 0 (P6 x).length then(bif inb j (Xm v j.toNat 0).length then k (Xm (Xm v j.toNat 0) j.toNat (Xb (P6 x) (Xa (0:Int)) 0))else none)else none)else k (Xm v j.toNat 0)))else k (Xm v j.toNat 0))else none)
  (λj x v k xV hj=>by
   obtain⟨y,hy,rfl⟩:=Xv.1 xV;have hyl:=hx y hy;have p5:(Kd.e y).2.2.2.2.2.1=y.out:=rfl;have xW:P5 (Kd.e y)=y.out:=rfl;have p6:P6 (Kd.e y)=y.regs:=rfl;simp only[p5,xW,p6,W5,decide_eq_true hj,cond_true,Wc1 (show y.regs.length<=1048576 by omega) hN,ret,Xd,Wv,Xj,Xaf];by_cases h1:y.out=1
   .rw[if_pos h1];cases rX:WeY y.regs
    .rw[if_neg (by simp)];rfl
    .have:y.regs.length=4:=(WeD.1 rX).len;rw[if_pos ⟨h1,rfl⟩,show inb (0:Int) y.regs.length=true by rw[this];rfl];simp only[cond_true,Xej];rfl
   .rw[if_neg h1,if_neg (λh=>h1 h.1)])
 simp only[Xef,Xby,Xy,List.map_map]at h2;exact h2
theorem WiR{rv:Int}{regs:List Int}{writes:List Rw}{kids:Nat}(hr:regs.length<=1000)(hw:writes.length<=1000)(hk:kids<=3)(hN:1048576<N):
  Zhe N rv regs writes (kids:Int)=ret (WaZ rv regs writes kids).e:=by
 unfold Zhe;rw[WaV (by omega),Wdv (by omega) hN];have hn:=WeR writes;simp only[ret,Xd];have h1:=Wq (l:=WbR writes) (V:=List En) (R:=Unit×(Y_Family×Unit)) (lp:=λn j v=>Zck N regs kids (Wb (WbR writes)) rv (WbR writes) regs (λt25 jb c9=>
  (Zbi N regs kids rv regs (WbR writes) c9
 (λtq t50 m9=>
  (some ((),((rv,((0:Int),((0:Int),(false,(regs,(WbR writes,(c9,(([]:List Int),(([]:List Kc),m9))))))))),()))))
 N (0:Int) ([]:List Y_KidRun))) n j v) (n:=N) (by omega)
  (body:=λj x v k=>bif WA (v.length+ [(x.1,(x.2,(0:Int)))].length)then k (Xf v [(x.1,(x.2,(0:Int)))])else none) (K:=λ_ c9=>(Zbi N regs kids rv regs (WbR writes) c9
 (λtq t50 m9=>
  (some ((),((rv,((0:Int),((0:Int),(false,(regs,(WbR writes,(c9,(([]:List Int),(([]:List Kc),m9))))))))),()))))
 N (0:Int) ([]:List Y_KidRun)))
  (λn i v hi=>by simp only[Zck,WN hi,Wg hi,Wj hi,Wf (show i<4611686018427387904 by omega),cond_true])
  (λn v=>by simp only[Zck,WV (Xn _),cond_false]) []
 refine h1.trans ?_;rw[Wcy (f:=λx:Rw=>(x.1,(x.2,(0:Int)))) (WbR writes) 0 [] (by simp;omega) (λj x v k _=>rfl)];simp only[Xby];obtain⟨b,hb⟩:∃b,(WbR writes).map (λx:Rw=>(x.1,(x.2,(0:Int))))=b:=⟨_,rfl⟩;rw[hb];have lp:∀(d j n:Nat) (v:List Y_KidRun),j+d=kids->d<n->v=Xaa j (Kd.e {regs:=regs})->Zbi N regs kids rv regs (WbR writes) b (λtq t50 m9=>(some ((),((rv,((0:Int),((0:Int),(false,(regs,(WbR writes,(b,(([]:List Int),(([]:List Kc),m9))))))))),())))) n (j:Int) v=some ((),((rv,((0:Int),((0:Int),(false,(regs,(WbR writes,(b,(([]:List Int),(([]:List Kc),Xaa kids (Kd.e {regs:=regs})))))))))),())):=by
  intro d
  induction d with
  |zero=>
   intro j n v hj hn hv;obtain⟨n,rfl⟩:∃n',n=n'+1:=⟨n-1,by omega⟩;have:j=kids:=by omega
   subst this;simp only[Zbi,Int.lt_irrefl,decide_false,cond_false,hv]
  |succ d ih=>
   intro j n v hj hn hv;obtain⟨n,rfl⟩:∃n',n=n'+1:=⟨n-1,by omega⟩;have hlt:(j:Int)<(kids:Int):=by omega
   have rz:v.length=j:=by rw[hv];simp
   simp only[Zbi,decide_eq_true hlt,cond_true,WaV (show regs.length<=1048576 by omega),ret,Xd];rw[Ww (by simp;omega)];simp only[cond_true];rw[Wf (by omega)];refine ih (j+1) n _ (by omega) (by omega) ?_;rw[hv,List.replicate_succ'];rfl
 have:=lp kids 0 N [] (by omega) (by omega) rfl;refine this.trans ?_;unfold WaZ Fm.e;simp only[List.map_replicate,hb]
end
section
def Wcx(s:Int):Int:=(s-1)/65536
def Wbs(k:Int):Int:=(7*k+3)%4
structure SlOk(l:List Int):Prop where
 len:l.length=16
 each:∀i (h:i<l.length),l[i]=0\/((1<=l[i]/\l[i]<=524288)/\Wbs (Wcx l[i])=((i/4:Nat):Int))
 one:∀i j (hi:i<l.length) (hj:j<l.length),i<j->l[i]≠0->l[j]≠0->Wcx l[i]≠Wcx l[j]
def WoW(k s:Int):Bool:=decide (s>0)&&decide (Wcx s=k)
def WnQ(l:List Int)(k:Int):Option (Nat×Int):=fnd (WoW k) l 0
def WfH(l:List Int)(k:Int):Nat:=if Wci l (4*Wbs k) 0=0 then(4*Wbs k).toNat else(4*Wbs k).toNat+1
def Wnk(l:List Int)(k v:Int):List Int:=match WnQ l k with
 |some r=>l.set r.1 (1+65536*k+v)
 |none=>l.set (WfH l k) (1+65536*k+v)
def Wew(l:List Int)(k:Int):Int:=match WnQ l k with
 |some r=>(r.2-1)%65536+1
 |none=>0
def Wjf(l:List Int)(k:Int):List Int:=match WnQ l k with
 |some r=>l.set r.1 0
 |none=>l
variable{N:Nat}{l:List Int}{k v:Int}
theorem Wum{n:Int}(h:I64 n):IntKind.wrap .i64 n=n:=wrap_i64 h
theorem Wmc{s:Int}(h:1<=s/\s<=524288):Zig N s=ret (Wcx s):=by
 unfold Zig;rw[Wag (by unfold I64;omega)];have:WpR .i64 (s-1) 65536=Wcx s:=by
  unfold WpR Wcx;rw[Xed (by omega),Wum (by unfold I64;omega)]
 rw[this];rfl
theorem Wkq{s:Int}(h:1<=s/\s<=524288):0<=Wcx s/\Wcx s<=7:=by unfold Wcx;omega
theorem Wed:Za5 N k=ret (decide (0<=k)&&decide (k<=7)):=by unfold Za5;rw[Wk];rfl
theorem Wi2(hk:0<=k/\k<=7)(hv:0<=v/\v<=65535):Zi0 N k v=ret (1+65536*k+v):=by
 unfold Zi0;rw[Wgm (by unfold I64;omega),WC (a:=1) (by unfold I64;omega),WC (by unfold I64;omega)]
theorem WiW(hk:0<=k/\k<=7):Zja N k=ret (Wbs k):=by
 unfold Zja;rw[Wed,Wgm (by unfold I64;omega),WC (by unfold I64;omega)];have:WiQ (7*k+3) 4=Wbs k:=by unfold WiQ Wbs;exact Int.tmod_eq_emod_of_nonneg (by omega)
 simp only[ret,Xd,decide_eq_true hk.1,decide_eq_true hk.2,Xbu,Xs,cond_false,this];rfl
theorem SlOk.val(h:SlOk l){i:Nat}(hi:i<l.length)(hn:l[i]≠0):1<=l[i]/\l[i]<=524288:=by
 rcases h.each i hi with h0|h0
 .exact absurd h0 hn
 .exact h0.1
theorem Wem(h:SlOk l)(hN:1048576<N):Zg2 N l k=ret (match WnQ l k with|some r=>(r.1:Int)|none=>-1):=by
 unfold Zg2 WnQ;have hl:=h.len;have h1:=WkM (l:=l) (p:=WoW k) (N:=N) (lp:=λn j=>Zd0 N k l (λaG=>(some ((),(aG,())))) (λau aY=>(some ((),((-1:Int),())))) n j) (K0:=λj=>some ((),(j,()))) (K1:=some ((),((-1:Int),()))) (by omega) (by omega)
  (λn j hj=>by
   simp only[Zd0,WN hj,Wg hj,Wj hj,Wf (show j<4611686018427387904 by omega),cond_true];unfold WoW;by_cases h0:l[j]>0
   .rw[Wmc (h.val hj (by omega))];simp only[decide_eq_true h0,cond_true,Xbt,ret,Xd,Wv,Waa]
   .simp only[decide_eq_false h0,cond_false,Bool.false_and])
  (λn=>by simp only[Zd0,WV (Xn _),cond_false])
 rw[h1];cases fnd (WoW k) l 0<;>rfl
theorem WbJ(h:SlOk l)(hN:1048576<N):Zdc N l=ret true:=by
 have hl:=h.len;have lp:∀(d j n:Nat) (s:List Bool),j+d=16->d<n->s.length=8->(∀c:Nat,s.getD c false=true->∃i,∃hi:i<l.length,i<j/\l[i]≠0/\Wcx l[i]=c)->
   Zb7 N l (some ((),(false,()))) (λkI xB qH=>(some ((),(true,())))) n (j:Int) s=ret true:=by
  intro d
  induction d with
  |zero=>
   intro j n s hj hn _ _;obtain⟨n,rfl⟩:∃n',n=n'+1:=⟨n-1,by omega⟩;have:j=l.length:=by omega
   subst this;simp only[Zb7,WV (Xn _),cond_false]
  |succ d ih=>
   intro j n s hj hn hs hb;obtain⟨n,rfl⟩:∃n',n=n'+1:=⟨n-1,by omega⟩;have hlt:j<l.length:=by omega
   simp only[Zb7,WN hlt,Wg hlt,Wj hlt,Wf (show j<4611686018427387904 by omega),cond_true,Wv];by_cases h0:l[j]=0
   .rw[if_pos h0];exact ih (j+1) n s (by omega) (by omega) hs λc hc=>by
     obtain⟨i,hi,h1,h2,h3⟩:=hb c hc;exact⟨i,hi,by omega,h2,h3⟩
   .rw[if_neg h0];have hv:=h.val hlt h0;have hk:=Wkq hv;have xX:Wbs (Wcx l[j])=((j/4:Nat):Int):=by
     rcases h.each j hlt with h1|h1
     .exact absurd h1 h0
     .exact h1.2
    have hq:WpR .i64 (j:Int) 4=((j/4:Nat):Int):=by
     unfold WpR;rw[Xed (by omega),Wum (by unfold I64;omega)];omega
    have cM:s.getD (Xa (Wcx l[j])) false=false:=by
     rw[Bool.eq_false_iff];intro hc;obtain⟨i,hi,h1,h2,h3⟩:=hb _ hc;exact h.one i j hi hlt h1 h2 h0 (by omega)
    rw[Wi2 (k:=7) (v:=65535) (by omega) (by omega),Wmc hv];simp only[ret,Xd,Wk,show(1:Int)+65536*7+65535=524288 from rfl,decide_eq_true hv.1,decide_eq_true hv.2,Xbu,Xs,cond_false,WiW hk,xX,hq,bne_self_eq_false];rw[show inz (4:Int)=true from rfl];simp only[cond_true];rw[show inb (Wcx l[j]) 8=true by unfold inb;simp;omega,hs,decide_eq_true rfl,cM];simp only[Xbu,cond_true,cond_false];refine ih (j+1) n _ (by omega) (by omega) (by simpa using hs) λc hc=>?_;by_cases hcj:c=(Wcx l[j]).toNat
    .exact⟨j,hlt,by omega,h0,by omega⟩
    .have:s.getD c false=true:=by
      rw[Xac,List.getElem?_set_ne (by omega),←Xac]at hc;exact hc
     obtain⟨i,hi,h1,h2,h3⟩:=hb c this;exact⟨i,hi,by omega,h2,h3⟩
 unfold Zdc;rw[show((Wb l) !=(16:Int))=false by unfold Wb;rw[hl];rfl];simp only[cond_false];refine lp 16 0 N _ (by omega) (by omega) (by simp) λc hc=>?_;rw[Xac]at hc;by_cases h8:c<8
 .rw[List.getElem?_replicate,if_pos h8]at hc;simp at hc
 .rw[List.getElem?_eq_none (by simp;omega)]at hc;simp at hc
theorem Weq(h:SlOk l){r:Nat×Int}(hr:WnQ l k=some r):∃hi:r.1<l.length,l[r.1]=r.2/\1<=r.2/\r.2<=524288/\Wcx r.2=k/\Wbs k=((r.1/4:Nat):Int):=by
 obtain⟨h1,h2,h3,h4⟩:=Wcp hr;rw[Xba]at h3;rw[Xdf,Xp h3]at h4;injection h4 with h4;unfold WoW at h1;simp only[Xi,decide_eq_true_eq]at h1;have h5:=h.val h3 (by omega);rcases h.each r.1 h3 with h6|h6
 .omega
 .rw[h4]at h6 h5;rw[h1.2]at h6;exact⟨h3,h4,h5.1,h5.2,h1.2,h6.2⟩
theorem Wh5(h:SlOk l)(hr:WnQ l k=none)(i:Nat)(hi:i<l.length)(hn:l[i]≠0):Wcx l[i]≠k:=by
 have:=WfX hr l[i] (Xo hi);unfold WoW at this;have h1:=h.val hi hn;rw[decide_eq_true (show l[i]>0 by omega),Xbt]at this;simpa using this
theorem WtY(k:Int):0<=Wbs k/\Wbs k<=3:=by unfold Wbs;omega
theorem WmD(h:SlOk l)(hk:0<=k/\k<=7)(hr:WnQ l k=none):∃hi:WfH l k<l.length,l[WfH l k]=0/\Wbs k=((WfH l k/4:Nat):Int)/\(WfH l k=(4*Wbs k).toNat\/(WfH l k=(4*Wbs k).toNat+1/\Wci l (4*Wbs k) 0≠0)):=by
 have hl:=h.len;have hb:=WtY k;unfold WfH;have h1:(4*Wbs k).toNat<l.length:=by omega
 have hg:Wci l (4*Wbs k) 0=l[(4*Wbs k).toNat]:=Wh h1 _;by_cases h0:Wci l (4*Wbs k) 0=0
 .simp only[if_pos h0];exact⟨h1,by rw[←hg];exact h0,by omega,.inl trivial⟩
 .simp only[if_neg h0];have h2:(4*Wbs k).toNat+1<l.length:=by omega
  refine⟨h2,?_,by omega,.inr ⟨trivial,h0⟩⟩;refine Classical.byContradiction λhn=>?_;rw[hg]at h0;have a1:=Wh5 h hr _ h1 h0;have a2:=Wh5 h hr _ h2 hn;have a3:=h.one _ _ h1 h2 (by omega) h0 hn;have b1:=Wkq (h.val h1 h0);have b2:=Wkq (h.val h2 hn);rcases h.each _ h1 with c1|c1
  .exact h0 c1
  .rcases h.each _ h2 with c2|c2
   .exact hn c2
   .have d1:=c1.2;have d2:=c2.2;generalize Wcx l[(4*Wbs k).toNat]=x at*;generalize Wcx l[(4*Wbs k).toNat+1]=y at*;unfold Wbs at*;omega
theorem Wsg(hk:0<=k/\k<=7)(hv:0<=v/\v<=65535):(1<=1+65536*k+v/\1+65536*k+v<=524288)/\Wcx (1+65536*k+v)=k:=by unfold Wcx;omega
theorem Wk1(h:SlOk l){i:Nat}(hi:i<l.length){s:Int}(hs:s=0\/((1<=s/\s<=524288)/\Wbs (Wcx s)=((i/4:Nat):Int)))(ho:s≠0->∀j (hj:j<l.length),j≠i->l[j]≠0->Wcx l[j]≠Wcx s):SlOk (l.set i s) where
 len:=by rw[Xaf];exact h.len
 each:=λj hj=>by
  rw[Xaf]at hj;rw[Xao];by_cases he:i=j
  .subst he;rw[if_pos rfl];exact hs
  .rw[if_neg he];exact h.each j hj
 one:=λa b ha hb d9=>by
  rw[Xaf]at ha hb;rw[Xao,Xao];by_cases h1:i=a
  .subst h1;rw[if_pos rfl,if_neg (by omega)]
   exactλhn pC he=>ho hn b hb (by omega) pC he.symm
  .rw[if_neg h1];by_cases h2:i=b
   .subst h2;rw[if_pos rfl];exactλxY hn=>ho hn a ha (by omega) xY
   .rw[if_neg h2];exact h.one a b ha hb d9
theorem Who(h:SlOk l)(hk:0<=k/\k<=7)(hv:0<=v/\v<=65535):SlOk (Wnk l k v):=by
 obtain⟨k1,k2⟩:=Wsg hk hv;unfold Wnk;cases hr:WnQ l k with
 |some r=>
  obtain⟨hi,h1,h2,h3,h4,h5⟩:=Weq h hr;refine Wk1 h hi (.inr ⟨k1,by rw[k2];exact h5⟩) λ_ j hj hne hn=>?_;rw[k2,←h4,←h1];rcases Nat.lt_or_gt_of_ne hne with hlt|hlt
  .exact h.one j r.1 hj hi hlt hn (by rw[h1];omega)
  .exactλe=>h.one r.1 j hi hj hlt (by rw[h1];omega) hn e.symm
 |none=>
  obtain⟨hi,h1,h2,_⟩:=WmD h hk hr;refine Wk1 h hi (.inr ⟨k1,by rw[k2];exact h2⟩) λ_ j hj hne hn=>?_;rw[k2];exact Wh5 h hr j hj hn
theorem Wlm(h:SlOk l):SlOk (Wjf l k):=by
 unfold Wjf;cases hr:WnQ l k with
 |some r=>
  obtain⟨hi,h1,_⟩:=Weq h hr;exact Wk1 h hi (.inl rfl) λh=>absurd rfl h
 |none=>exact h
theorem Wf9(l:List Int)(k:Int):0<=Wew l k/\Wew l k<=65536:=by
 unfold Wew;cases WnQ l k<;>simp only<;>omega
theorem WcI(h:SlOk l)(hk:0<=k/\k<=7)(hN:1048576<N):Zh1 N l k=some ((),((if Wew l k=0 then 0 else Wew l k-1),(decide (Wew l k≠0),()))):=by
 unfold Zh1 Wew;rw[WbJ h hN,Wed,Wem h hN];simp only[ret,Xd,Xs,cond_false,decide_eq_true hk.1,decide_eq_true hk.2,Xbu];cases hr:WnQ l k with
 |none=>rfl
 |some r=>
  obtain⟨hi,h1,h2,h3,h4,h5⟩:=Weq h hr;simp only[decide_eq_false (show¬((r.1:Int)<0) by omega),cond_false,W5,decide_eq_true hi,cond_true,Wj hi,h1];rw[Wag (by unfold I64;omega),Wcn (by omega),if_neg (by omega),decide_eq_true (by omega)];simp only[Int.add_sub_cancel];rfl
theorem WcM(h:SlOk l)(hk:0<=k/\k<=7)(hv:0<=v/\v<=65535)(hN:1048576<N):Ze3 N l k v=some ((),(Wnk l k v,(Wew l k,(true,())))):=by
 have hl:=h.len;unfold Ze3;rw[Wcd (by omega),WbJ h hN,Wed,Wp,Wem h hN,WcI h hk hN,Wi2 hk hv,WiW hk];simp only[ret,Xd,Xs,cond_false,decide_eq_true hk.1,decide_eq_true hk.2,Xbu,Wa8.2 hv];unfold Wnk Wew;cases hr:WnQ l k with
 |some r=>
  obtain⟨hi,h1,h2,h3,h4,h5⟩:=Weq h hr;simp only[decide_eq_true (show((r.1:Int)>=0) by omega),cond_true,W5,decide_eq_true hi,Xj];rw[if_neg (by omega),WC (by unfold I64;omega)];simp only[show(r.2-1)%65536+1-1+1=(r.2-1)%65536+1 by omega]
 |none=>
  simp only[show decide ((-1:Int)>=0)=false from rfl,cond_false];have hb:=WtY k;obtain⟨hi,h1,h2,h3⟩:=WmD h hk hr;rw[Wgm (by unfold I64;omega)];obtain⟨N',rfl⟩:∃N',N=N'+1+1:=⟨N-2,by omega⟩;have ja:4*Wbs k=(((4*Wbs k).toNat:Nat):Int):=by omega
  have gj:∀n,Zcw (N'+1+1) k v l (λkb eG=>(bif inb kb (Xc l)then(some ((),(Xm l (Xa kb) (1+65536*k+v),(0,(true,())))))else none)) (n+1) (WfH l k:Int)=some ((),(l.set (WfH l k) (1+65536*k+v),((0:Int),(true,())))):=λn=>by
   simp only[Zcw,Wg hi,Wj hi,h1,cond_true,bne_self_eq_false,cond_false];rw[Xj]
  rcases h3 with h3|⟨h3,h4⟩
  .rw[ja,←h3];exact gj _
  .have hlt:(4*Wbs k).toNat<l.length:=by omega
   have hg:Wci l (4*Wbs k) 0=l[(4*Wbs k).toNat]:=Wh hlt _;rw[hg]at h4;have im:=gj N';rw[ja];rw[Zcw];simp only[Wg hlt,Wj hlt,cond_true];rw[show(l[(4*Wbs k).toNat] !=0)=true by simpa using h4,Wf (by omega),←h3];simp only[cond_true];exact im
theorem WdS(h:SlOk l)(hk:0<=k/\k<=7)(hN:1048576<N):Zjb N l k=some ((),(Wjf l k,(Wew l k,(true,())))):=by
 have hl:=h.len;unfold Zjb;rw[Wcd (by omega),WbJ h hN,Wed,Wem h hN,WcI h hk hN];simp only[ret,Xd,Xs,cond_false,decide_eq_true hk.1,decide_eq_true hk.2,Xbu];unfold Wjf Wew;cases hr:WnQ l k with
 |some r=>
  obtain⟨hi,h1,h2,h3,h4,h5⟩:=Weq h hr;simp only[decide_eq_false (show¬((r.1:Int)<0) by omega),cond_true,cond_false,W5,decide_eq_true hi,Xj];rw[if_neg (by omega),WC (by unfold I64;omega)];simp only[show(r.2-1)%65536+1-1+1=(r.2-1)%65536+1 by omega]
 |none=>rfl
end
section
abbrev Shf:=List Int×Int
abbrev Un:=Int×Int×Int
structure ShOk(s:Shf):Prop where
 slots:SlOk s.1
 cnt:0<=s.2/\s.2<=65535
def UnV(u:Un):Prop:=(u.1=1/\(0<=u.2.1/\u.2.1<=7)/\0<=u.2.2/\u.2.2<=65535)\/(u.1=2/\(0<=u.2.1/\u.2.1<=7)/\u.2.2=0)\/(u.1=3/\u.2.1=0/\0<=u.2.2/\u.2.2<=65535)
def Wiq(s:Shf)(u:Un):Shf:=
 if u.1=1 then(Wnk s.1 u.2.1 u.2.2,s.2)else if u.1=2 then(Wjf s.1 u.2.1,s.2)else if u.1=3 then(s.1,(s.2-u.2.2+65536)%65536)else s
def WgU(k e:Int):Un:=if e=0 then(2,k,0)else(1,k,e-1)
def WbM(s:Shf)(o:Opn)(r:List Int):Shf×List Int×Un:=
 if o.1=12 then((Wnk s.1 o.2.1 (Wci r o.2.2.1 0),s.2),WmN r o.2.2.2 (Wew s.1 o.2.1%65536),WgU o.2.1 (Wew s.1 o.2.1))else
 if o.1=13 then(s,WmN r o.2.1 (Wew s.1 o.2.2.1%65536),(0,0,0))else
 if o.1=14 then((Wjf s.1 o.2.1,s.2),WmN r o.2.2.1 (Wew s.1 o.2.1%65536),WgU o.2.1 (Wew s.1 o.2.1))else
 if o.1=15 then((s.1,(s.2+Wci r o.2.1 0)%65536),r,(3,0,Wci r o.2.1 0))else
 (s,WmN r o.2.1 s.2,(0,0,0))
def WbN(o:Opn):Int×Int:=
 if o.1=12\/o.1=14 then(o.2.1,2)else if o.1=13 then(o.2.2.1,1)else if o.1=15 then(8,1)else(8,2)
section
variable{o:Opn}
theorem Wtp(h:Wan o=true)(h5:o.1=12):WbX o.2.1=true/\Wi o.2.2.1=true/\Wi o.2.2.2=true:=by
 obtain⟨k,a,b,c⟩:=o;simp only at h5;subst h5;have:(WbX a&&Wi b&&Wi c)=true:=h;simp only[Xi]at this;exact⟨this.1.1,this.1.2,this.2⟩
theorem Wva(h:Wan o=true)(h5:o.1=13):Wi o.2.1=true/\WbX o.2.2.1=true:=by
 obtain⟨k,a,b,c⟩:=o;simp only at h5;subst h5;have:(Wi a&&WbX b&&(c==(0:Int)))=true:=h;simp only[Xi]at this;exact this.1
theorem Ws3(h:Wan o=true)(h5:o.1=14):WbX o.2.1=true/\Wi o.2.2.1=true:=by
 obtain⟨k,a,b,c⟩:=o;simp only at h5;subst h5;have:(WbX a&&Wi b&&(c==(0:Int)))=true:=h;simp only[Xi]at this;exact this.1
theorem Wwj(h:Wan o=true)(h5:o.1=15):Wi o.2.1=true:=by
 obtain⟨k,a,b,c⟩:=o;simp only at h5;subst h5;have:(Wi a&&(b==(0:Int))&&(c==(0:Int)))=true:=h;simp only[Xi]at this;exact this.1.1
theorem Wvi(h:Wan o=true)(h5:o.1=16):Wi o.2.1=true:=by
 obtain⟨k,a,b,c⟩:=o;simp only at h5;subst h5;have:(Wi a&&(b==(0:Int))&&(c==(0:Int)))=true:=h;simp only[Xi]at this;exact this.1.1
end
theorem WbH{x:Int}:WbX x=true↔0<=x/\x<=7:=by unfold WbX;simp
variable{N:Nat}{s:Shf}{u:Un}{o:Opn}{r:List Int}
theorem Wmi{k e:Int}(hk:0<=k/\k<=7)(he:0<=e/\e<=65536):UnV (WgU k e):=by
 unfold WgU UnV;split
 .exact .inr (.inl ⟨rfl,hk,rfl⟩)
 .exact .inl ⟨rfl,hk,by simp only;omega⟩
theorem Wpn(h:ShOk s)(hu:UnV u):ShOk (Wiq s u):=by
 unfold Wiq;rcases hu with⟨h1,h2,h3⟩|⟨h1,h2,h3⟩|⟨h1,h2,h3⟩
 .rw[if_pos h1];exact⟨Who h.slots h2 h3,h.cnt⟩
 .rw[if_neg (by omega),if_pos h1];exact⟨Wlm h.slots,h.cnt⟩
 .rw[if_neg (by omega),if_neg (by omega),if_pos h1];exact⟨h.slots,by simp only;omega⟩
theorem WpD(h:ShOk s)(hr:Vals 4 r)(ho:Wan o=true)(dM:12<=o.1):ShOk (WbM s o r).1/\Vals 4 (WbM s o r).2.1/\((WbM s o r).2.2.1≠0->UnV (WbM s o r).2.2)/\((WbM s o r).2.2.1=0->(WbM s o r).1=s):=by
 have kg:=Wnd ho;unfold WbM;split
 .obtain⟨a,b,c⟩:=Wtp ho ‹_›;rw[WbH]at a;have hg:=Wf9 s.1 o.2.1;exact⟨⟨Who h.slots a (hr.get _),h.cnt⟩,hr.set _ (by omega),λ_=>Wmi a hg,λh=>by unfold WgU at h;split at h<;>(simp only at h;omega)⟩
 .split
  .exact⟨h,hr.set _ (by omega),λh=>absurd rfl h,λ_=>rfl⟩
  .split
   .obtain⟨a,b⟩:=Ws3 ho ‹_›;rw[WbH]at a;have hg:=Wf9 s.1 o.2.1;exact⟨⟨Wlm h.slots,h.cnt⟩,hr.set _ (by omega),λ_=>Wmi a hg,λh=>by unfold WgU at h;split at h<;>(simp only at h;omega)⟩
   .split
    .have:=hr.get o.2.1.toNat;have:=h.cnt;refine⟨⟨h.slots,by simp only;unfold Wci;omega⟩,hr,λ_=>.inr (.inr ⟨rfl,rfl,hr.get _⟩),λh=>by(simp only at h;omega)⟩
    .exact⟨h,hr.set _ h.cnt,λh=>absurd rfl h,λ_=>rfl⟩
theorem Wd9(h:ShOk s)(hN:1048576<N):Zka N s=ret true:=by
 unfold Zka;rw[WbJ h.slots hN,Wp,Wa8.2 h.cnt];rfl
theorem Wgf(h:ShOk s):Zii N s=ret s:=by
 unfold Zii;rw[Wcd (by have:=h.slots.len;omega)];rfl
theorem WiK(hu:UnV u):Zns N u=ret true:=by
 unfold Zns;simp only[Wv,Wed,Wp,ret,Xd];rcases hu with⟨h1,h2,h3⟩|⟨h1,h2,h3⟩|⟨h1,h2,h3⟩
 .rw[if_neg (by omega),if_pos h1,Wa8.2 h3];simp[h2]
 .rw[if_neg (by omega),if_neg (by omega),if_pos h1];simp[h2,h3]
 .rw[if_neg (by omega),if_neg (by omega),if_neg (by omega),if_pos h1,if_pos h2,Wa8.2 h3]
theorem WhL(h:ShOk s)(hu:UnV u)(hN:1048576<N):Zmy N s u=some ((),(Wiq s u,(true,()))):=by
 unfold Zmy Wiq;rw[Wgf h,WiK hu];simp only[ret,Xd];rw[Wd9 h hN];simp only[ret,Xd,Xs,cond_false,Wv];have hc:=h.cnt;rcases hu with⟨h1,h2,h3⟩|⟨h1,h2,h3⟩|⟨h1,h2,h3⟩
 .rw[if_pos h1,if_pos h1,WcM h.slots h2 h3 hN];rfl
 .rw[if_neg (by omega),if_pos h1,if_neg (by omega),if_pos h1,WdS h.slots h2 hN];rfl
 .rw[if_neg (by omega),if_neg (by omega),if_pos h1,if_neg (by omega),if_neg (by omega),if_pos h1];rw[Wag (by unfold I64;omega),WC (by unfold I64;omega),Wcn (by omega)];rfl
theorem We2{k e:Int}(he:0<=e/\e<=65536):Zli N k e=ret (WgU k e):=by
 unfold Zli WgU;rw[Wv,Wag (by unfold I64;omega)];split<;>rfl
theorem Wkt(ho:Wan o=true)(dM:12<=o.1):Zkl N o=some ((),((WbN o).1,((WbN o).2,()))):=by
 have kg:=Wnd ho;unfold Zkl WbN;rw[WeN,ho];simp only[ret,Xd,Xs,cond_false,Wv];have:o.1=12\/o.1=13\/o.1=14\/o.1=15\/o.1=16:=by omega
 rcases this with h|h|h|h|h<;>simp[h]
theorem WhK(h:ShOk s)(hr:Vals 4 r)(ho:Wan o=true)(dM:12<=o.1)(hN:1048576<N):
  Zmz N s o r=some ((),((WbM s o r).1,((WbM s o r).2.1,((WbM s o r).2.2,(true,()))))):=by
 have kg:=Wnd ho;have dx:=hr.len;have hc:=h.cnt;unfold Zmz WbM;rw[Wgf h,Wcd (by omega)];simp only[ret,Xd];rw[Wd9 h hN,Wc1 (by omega) hN,WeD.2 hr,WfD,WrH ho dM];simp only[ret,Xd,Xs,cond_false,bne_self_eq_false,Wv,show inz (65536:Int)=true from rfl,cond_true,Wl,Xaf];by_cases e1:o.1=12
 .obtain⟨a,b,c⟩:=Wtp ho e1;rw[WbH]at a;rw[if_pos e1,if_pos e1,WaX b dx,WaX c dx];have hg:=Wf9 s.1 o.2.1;rw[WcM h.slots a (hr.get _) hN];simp only[cond_true,Xd,We2 hg,ret];rw[Wcn (by omega)];rfl
 .rw[if_neg e1,if_neg e1];by_cases e2:o.1=13
  .obtain⟨a,b⟩:=Wva ho e2;rw[WbH]at b;have hg:=Wf9 s.1 o.2.2.1;rw[if_pos e2,if_pos e2,WaX a dx,WcI h.slots b hN];simp only[cond_true,Xd];by_cases hz:Wew s.1 o.2.2.1=0
   .rw[hz];rfl
   .rw[if_neg hz,decide_eq_true hz,WC (by unfold I64;omega),Wcn (by omega),Int.sub_add_cancel];simp only[cond_true,Xej];rfl
  .rw[if_neg e2,if_neg e2];by_cases e3:o.1=14
   .obtain⟨a,b⟩:=Ws3 ho e3;rw[WbH]at a;have hg:=Wf9 s.1 o.2.1;rw[if_pos e3,if_pos e3,WaX b dx,WdS h.slots a hN];simp only[cond_true,Xd,We2 hg,ret];rw[Wcn (by omega)];rfl
   .rw[if_neg e3,if_neg e3];by_cases e4:o.1=15
    .have a:=Wwj ho e4;have hv:=hr.get o.2.1.toNat;rw[if_pos e4,if_pos e4,WaX a dx];simp only[cond_true];rw[WC (by unfold I64;omega),Wcn (by omega)];rfl
    .have a:=Wvi ho (by omega);rw[if_neg e4,if_neg e4,WaX a dx];rfl
def WmF(l:List Int):Bool:=decide (l.length=8)&&l.all λx=>decide (0<=x)&&decide (x<=65536)
structure ThOk(t:List Int×List Int×Int):Prop where
 cells:Vals 8 t.1
 map:t.2.1.length=8/\∀x∈t.2.1,0<=x/\x<=65536
 cnt:0<=t.2.2/\t.2.2<=65535
def WtA(t:List Int×List Int×Int):Bool:=Wd1 t.1&&(WmF t.2.1&&Wbh t.2.2)
theorem WkB{t:List Int×List Int×Int}:WtA t=true↔ThOk t:=by
 unfold WtA WmF;simp only[Xi,Wct,Wa8,decide_eq_true_eq,Xak];exact⟨λh=>⟨h.1,h.2.1,h.2.2⟩,λh=>⟨h.cells,h.map,h.cnt⟩⟩
theorem Wim{l:List Int}(hl:l.length<=1048576)(hN:1048576<N):Zif N l=ret (WmF l):=by
 unfold Zif WmF;have h1:=Wq (l:=l) (V:=Unit) (R:=Unit×Ko) (lp:=λn j v=>Zes N l (some ((),(false,()))) (λay ai=>(some ((),((Wb l)==(8:Int),())))) n j) (n:=N) (by omega)
  (body:=λj x v k=>bif !(decide (0<=x)&&decide (x<=65536))then some ((),(false,()))else k v) (K:=λ_ v=>some ((),((Wb l)==(8:Int),())))
  (λn i v hi=>by simp only[Zes,WN hi,Wg hi,Wj hi,Wf (show i<4611686018427387904 by omega),cond_true,Wk,ret,Xd])
  (λn v=>by simp only[Zes,WV (Xn l.length),cond_false]) ()
 refine h1.trans ?_;rw[Was (p:=λx=>!(decide (0<=x)&&decide (x<=65536))) (E:=λ_=>some ((),(false,()))) l 0 () (λj x v k _=>rfl),Wb1];have e:((Wb l)==(8:Int))=decide (l.length=8):=by
  by_cases h:l.length=8
  .simp[Wb,h]
  .simp[Wb,h];omega
 rw[e];cases l.all _<;>cases decide (l.length=8)<;>rfl
theorem We3{t:List Int×List Int×Int}(h1:t.1.length<=1048576)(h2:t.2.1.length<=1048576)(hN:1048576<N):Zi9 N t=ret (WtA t):=by
 unfold Zi9 WtA;rw[Wcb h1 hN,Wim h2 hN,Wp];cases Wd1 t.1<;>cases WmF t.2.1<;>rfl
def WeA:List Int->Nat->List Int->List Int
 | [],_,l=>l
 |x::m,k,l=>WeA m (k+1) (if x>0 then Wnk l k (x-1)else l)
def WoI(m:List Int):List Int:=WeA m 0 (Xaa 16 0)
theorem Wlb:SlOk (Xaa 16 0) where
 len:=by simp
 each:=λi h=>.inl (Xbh ..)
 one:=λi j hi hj _ h=>absurd (Xbh ..) h
theorem Wh3:∀(m:List Int) (k:Nat) (l:List Int),k+m.length<=8->(∀x∈m,0<=x/\x<=65536)->SlOk l->SlOk (WeA m k l)
 | [],_,l,_,_,h=>h
 |x::m,k,l,hk,hx,h=>by
  have h0:=hx x (Xh ..);rw[Xw]at hk;refine Wh3 m (k+1) _ (by omega) (λy hy=>hx y (Xe _ hy)) ?_;split
  .exact Who h (by omega) (by omega)
  .exact h
theorem Wr4{m:List Int}(hl:m.length=8)(hx:∀x∈m,0<=x/\x<=65536):SlOk (WoI m):=Wh3 m 0 _ (by omega) hx Wlb
theorem WgI{m:List Int}(hl:m.length=8)(hx:∀x∈m,0<=x/\x<=65536)(hN:1048576<N):Zbg N m=ret (WoI m):=by
 have hm:WmF m=true:=by unfold WmF;simp only[Xi,decide_eq_true_eq,Xak];exact⟨hl,hx⟩
 unfold Zbg WoI;rw[Wim (by omega) hN,hm];simp only[ret,Xd,Xs,cond_false];rw[show Zpc N=ret (Xaa 16 0)from rfl];simp only[ret,Xd];have lp:∀(d j n:Nat) (l:List Int),j+d=m.length->d<n->SlOk l->Zbo N m (λau aY dq=>(some ((),(dq,())))) n (j:Int) l=ret (WeA (m.drop j) j l):=by
  intro d
  induction d with
  |zero=>
   intro j n l hj hn hs;obtain⟨n,rfl⟩:∃n',n=n'+1:=⟨n-1,by omega⟩;have:j=m.length:=by omega
   subst this;simp only[Zbo,WV (Xn _),cond_false,Xdo,WeA]
  |succ d ih=>
   intro j n l hj hn hs;obtain⟨n,rfl⟩:∃n',n=n'+1:=⟨n-1,by omega⟩;have hlt:j<m.length:=by omega
   have hb:=hx m[j] (Xo hlt);simp only[Zbo,WN hlt,Wg hlt,Wj hlt,Wf (show j<4611686018427387904 by omega),cond_true,Waa];rw[Xcd hlt,WeA];by_cases h0:m[j]>0
   .rw[if_pos h0,if_pos h0,Wag (by unfold I64;omega),WcM hs (by omega) (by omega) hN];exact ih (j+1) n _ (by omega) (by omega) (Who hs (by omega) (by omega))
   .rw[if_neg h0,if_neg h0];exact ih (j+1) n _ (by omega) (by omega) hs
 have:=lp m.length 0 N (Xaa 16 0) (by omega) (by omega) Wlb;rw[Xcf]at this;exact this
end
section
abbrev Hd:=Int×Int×Int
def HdV(h:Hd):Prop:=(1<=h.1/\h.1<=9)/\(0<=h.2.1/\h.2.1<=8)/\1<=h.2.2/\h.2.2<=2
def HdB(a b:Hd):Prop:=cfH a b<0/\(a.2.1=b.2.1->a.2.2≠2/\b.2.2≠2)
structure HOk(l:List Hd):Prop where
 val:∀h∈l,HdV h
 up:l.Pairwise HdB
theorem HOk.ris{l:List Hd}(h:HOk l):Ris cfH l:=h.up.imp λh=>h.1
def Wfb(l:List Hd)(who:Int):List Int:=(l.filter λh=>decide (h.1=who)).map (·.2.1)
def blk(who what mode:Int)(h:Hd):Bool:=decide (h.2.1=what)&&(decide (h.1≠who)&&(decide (mode=2)||decide (h.2.2=2)))
def WhE(l:List Hd)(who what mode:Int):List Int:=(l.filter (blk who what mode)).map (·.1)
def Wta(who what:Int)(h:Hd):Bool:=decide (h.1=who)&&decide (h.2.1=what)
def WpN(l:List Hd)(who what:Int):Int:=match fnd (Wta who what) l 0 with
 |some r=>r.2.2.2
 |none=>0
def Wpb(a b:Int):Int:=if a<=b then b else a
def WhT(l:List Hd)(who what mode:Int):List Hd:=Wc9 cfH l (who,what,Wpb (WpN l who what) mode)
def Wb0(l:List Hd)(who what mode:Int):Option (List Hd):=if WhE l who what mode= []then some (WhT l who what mode)else none
def W1(l:List Hd)(who:Int):List Hd:=l.filter λh=>!(h.1==who)
theorem Wc7{α:Type}{a b:Int}{x y:α}:(bif a !=b then x else y)=if a=b then y else x:=by
 by_cases h:a=b
 .have:(a !=b)=false:=by simpa using h
  rw[this,if_pos h];rfl
 .have:(a !=b)=true:=by simpa using h
  rw[this,if_neg h];rfl
theorem Wu4{α:Type}{cf:α->α->Int}(hc:Lin cf){L M:List α}(hL:Ris cf L)(hM:Ris cf M)(hm:∀x,x∈L↔x∈M):L=M:=by
 rw[←Wkz hc hM (hL.imp λh=>.inl h) hm,Wkz hc hL (hL.imp λh=>.inl h) λx=>Iff.rfl]
theorem apH{a b:Hd}:Ap cfH a b↔¬(a.1=b.1/\a.2.1=b.2.1):=by unfold Ap;rw[Wby,Wby];omega
theorem Wlh{a b c d:Hd}(h1:a.1=c.1)(h2:a.2.1=c.2.1)(h3:b.1=d.1)(h4:b.2.1=d.2.1):cfH a b<0↔cfH c d<0:=by rw[Wby,Wby];omega
variable{N:Nat}{l:List Hd}{who what mode:Int}
theorem WtC(h:Ris cfH l){i:Nat}(hi:i<l.length){e:Hd}(h1:e.1=l[i].1)(h2:e.2.1=l[i].2.1):Ris cfH (l.set i e):=by
 unfold Ris at*;rw[Xaq]at*;intro a b ha hb d9;rw[Xaf]at ha hb;rw[Xao,Xao];have:=h a b ha hb d9;by_cases c1:i=a
 .subst c1;rw[if_pos rfl,if_neg (by omega)];exact(Wlh h1 h2 rfl rfl).2 this
 .rw[if_neg c1];by_cases c2:i=b
  .subst c2;rw[if_pos rfl];exact(Wlh rfl rfl h1 h2).2 this
  .rw[if_neg c2];exact this
theorem WuI(h:Ris cfH l){i:Nat}(hi:i<l.length){e:Hd}(h1:e.1=l[i].1)(h2:e.2.1=l[i].2.1):l.set i e=Wc9 cfH l e:=by
 refine Wu4 WnB (WtC h hi h1 h2) (WbI WnB h) λx=>?_;rw[(WlN WnB (h.imp λh=>.inl h) hi (by rw[apH];intro h;exact h ⟨h1.symm,h2.symm⟩)).2 x,Wa3 WnB h]
theorem WuW{h:Hd}:(decide (1<=h.1)&&decide (h.1<=9))=true/\(decide (0<=h.2.1)&&decide (h.2.1<=8))=true/\(decide (1<=h.2.2)&&decide (h.2.2<=2))=true↔HdV h:=by
 unfold HdV;simp only[Xi,decide_eq_true_eq]
theorem WeZ{h:Hd}(hv:HdV h):Zi1 N h.1 h.2.1 h.2.2=ret true:=by
 obtain⟨a,b,c⟩:=WuW.2 hv;unfold Zi1;simp only[Wk,ret,Xd,a,b,c,cond_true]
theorem Wmd{a b:Hd}(ha:HdV a)(hb:HdV b):Zip N a b=ret (cfH a b):=by
 obtain⟨a1,a2,a3⟩:=ha;obtain⟨b1,b2,b3⟩:=hb;unfold Zip cfH;rw[Wag (by unfold I64;omega),Wag (by unfold I64;omega)];by_cases h:a.2.1=b.2.1
 .rw[show(a.2.1 !=b.2.1)=false by simpa using h,show(a.2.1==b.2.1)=true by simpa using h];rfl
 .rw[show(a.2.1 !=b.2.1)=true by simpa using h,show(a.2.1==b.2.1)=false by simpa using h];rfl
theorem WbK(h:HOk l)(hl:l.length<=1048576)(hN:1048576<N):Ze4 N l=ret true:=by
 have lp:∀(d j n:Nat),j+d=l.length->d<n->Zav N l (some ((),(false,()))) (λau aY=>(some ((),(true,())))) n (j:Int)=ret true:=by
  intro d
  induction d with
  |zero=>
   intro j n hj hn;obtain⟨n,rfl⟩:∃n',n=n'+1:=⟨n-1,by omega⟩;have:j=l.length:=by omega
   subst this;simp only[Zav,WV (Xn _),cond_false]
  |succ d ih=>
   intro j n hj hn;obtain⟨n,rfl⟩:∃n',n=n'+1:=⟨n-1,by omega⟩;have hlt:j<l.length:=by omega
   have hv:=h.val l[j] (Xo hlt);have bm:=ih (j+1) n (by omega) (by omega);simp only[Zav,WN hlt,Wg hlt,Wj hlt,Wf (show j<4611686018427387904 by omega),cond_true,WeZ hv,ret,Xd,Xs,cond_false,bm];by_cases h0:j=0
   .subst h0;rfl
   .have e1:decide ((j:Int)>0)=true:=by simp;omega
    have e2:WW .i64 (j:Int) 1=((j-1:Nat):Int):=by rw[Wag (by unfold I64;omega)];omega
    have bj:j-1<l.length:=by omega
    have hw:=h.val l[j-1] (Xo bj);have hb:=Xaq.1 h.up (j-1) j bj hlt (by omega);simp only[e1,e2,cond_true,Wg bj,Wj bj,Wmd hw hv,ret,Xd];rw[decide_eq_false (show¬(cfH l[j-1] l[j]>=0) by have:=hb.1;omega)];simp only[cond_false,Wv];by_cases hs:l[j-1].2.1=l[j].2.1
    .rw[if_pos hs,if_neg (hb.2 hs).2,if_neg (hb.2 hs).1]
    .rw[if_neg hs]
 exact lp l.length 0 N (by omega) (by omega)
theorem Wib{α β R:Type}{body:Int->α->List β->(List β->Option R)->Option R}{K:Int->List β->Option R}{p:α->Bool}{f:α->β}:∀(l:List α) (j:Nat) (o:List β),o.length+l.length<=2000000->
  (∀(j:Nat) x (v:List β) k,x∈l->v.length<=2000000->body j x v k=bif p x then k (v++ [f x])else k v)->WbW body K l j o=K ((j+l.length:Nat):Int) (o++(l.filter p).map f)
 | [],j,o,_,_=>by simp[WbW]
 |x::l,j,o,h,hb=>by
  rw[Xw]at h;rw[WbW,hb j x o _ (Xh ..) (by omega),Xbj];have ih:=λo' gw=>Wib (body:=body) (K:=K) (p:=p) (f:=f) l (j+1) o' gw λj y v k hy=>hb j y v k (Xe _ hy);cases hp:p x
  .simp only[cond_false,Xbp,if_false];rw[ih o (by omega),Xw,show j+1+l.length=j+(l.length+1) by omega]
  .simp only[cond_true,if_true];rw[ih _ (by simp;omega),Xw,show j+1+l.length=j+(l.length+1) by omega];simp
theorem Wh8(h:HOk l)(hl:l.length<=1048576)(hN:1048576<N):Zgs N l who=ret (Wfb l who):=by
 unfold Zgs Wfb;rw[WbK h hl hN];simp only[ret,Xd,Xs,cond_false];have h1:=Wq (l:=l) (V:=List Int) (R:=Unit×(List Int×Unit)) (lp:=λn j v=>Zb8 N who l (λai aG bn=>(some ((),(bn,())))) n j v) (n:=N) (by omega)
  (body:=λj x v k=>bif x.1==who then(bif WA (v.length+ [x.2.1].length)then k (Xf v [x.2.1])else none)else k v) (K:=λ_ v=>ret v)
  (λn i v hi=>by simp only[Zb8,WN hi,Wg hi,Wj hi,Wf (show i<4611686018427387904 by omega),cond_true])
  (λn v=>by simp only[Zb8,WV (Xn l.length),cond_false]) []
 refine h1.trans ?_;rw[Wib (p:=λh=>decide (h.1=who)) (f:=(·.2.1)) l 0 [] (by simp;omega) (λj x v k _ hv=>by rw[Ww (by simp;omega)];simp only[Wv,Waa,cond_true,Xai])];rfl
theorem WiL(h:HOk l)(hm:1<=mode/\mode<=2)(hl:l.length<=1048576)(hN:1048576<N):Zi2 N l who what mode=ret (WhE l who what mode):=by
 unfold Zi2 WhE;rw[WbK h hl hN];simp only[ret,Xd,Xs,cond_false,Wk,decide_eq_true hm.1,decide_eq_true hm.2,Xbu];have h1:=Wq (l:=l) (V:=List Int) (R:=Unit×(List Int×Unit)) (lp:=λn j v=>Zbc N who what mode l (λcd eV cQ=>(some ((),(cQ,())))) n j v) (n:=N) (by omega)
  (body:=λj x v k=>bif x.2.1==what then(bif x.1 !=who then(bif mode==2 then(bif WA (v.length+ [x.1].length)then k (Xf v [x.1])else none)else(bif x.2.2==2 then(bif WA (v.length+ [x.1].length)then k (Xf v [x.1])else none)else k v))else k v)else k v) (K:=λ_ v=>ret v)
  (λn i v hi=>by simp only[Zbc,WN hi,Wg hi,Wj hi,Wf (show i<4611686018427387904 by omega),cond_true])
  (λn v=>by simp only[Zbc,WV (Xn l.length),cond_false]) []
 refine h1.trans ?_;rw[Wib (p:=blk who what mode) (f:=(·.1)) l 0 [] (by simp;omega) (λj x v k _ hv=>by
  rw[Ww (by simp;omega)];unfold blk;simp only[Wv,Wc7,cond_true,Xai];by_cases c1:x.2.1=what<;>by_cases c2:x.1=who<;>by_cases c3:mode=2<;>by_cases c4:x.2.2=2<;>simp[c1,c2,c3,c4])]
 rfl
theorem Wuw(h:HOk l):0<=WpN l who what/\WpN l who what<=2:=by
 unfold WpN;cases hf:fnd (Wta who what) l 0 with
 |none=>simp
 |some r=>
  have:=Wcp hf;have:=h.val r.2 (Xaw this.2.2.2);unfold HdV at this;simp only;omega
theorem WhS(h:HOk l)(hw:1<=who/\who<=9)(ht:0<=what/\what<=8)(hm:1<=mode/\mode<=2)(hl:l.length<=1048000)(hN:1048576<N):
  Zh3 N l who what mode=some ((),((Wb0 l who what mode).getD l,((Wb0 l who what mode).isSome,()))):=by
 unfold Zh3 Wb0;have nW:Zeu N l=ret l:=by unfold Zeu;rw[Ww (by omega)];rfl
 have xZ:Zi1 N who what mode=ret true:=WeZ (h:=(who,what,mode)) ⟨hw,ht,hm⟩;rw[nW,WbK h (by omega) hN,xZ,WiL h hm (by omega) hN];simp only[ret,Xd,Xs,cond_false,Waa];by_cases hb:WhE l who what mode= []
 .rw[if_neg (by rw[hb];simp[Wb]),if_pos hb];have h1:=WkM (l:=l) (p:=Wta who what) (N:=N) (lp:=λn j=>Zb9 N who what mode (Wb l) l (λce=>(some ((),(ce,(true,()))))) (λeG fY=>
  (bif WA ((Xc l)+(Xc ([(who,(what,mode))])))then
 ((Zw N (Xf l ([(who,(what,mode))]))).bind λfW=>
 (some ((),(fW.1.1,(true,())))))else none)) n j)
   (K0:=λj=>some ((),(l.set j.toNat ((l.getD j.toNat (0,0,0)).1,(l.getD j.toNat (0,0,0)).2.1,Wvf (l.getD j.toNat (0,0,0)).2.2 mode),(true,())))) (K1:=(bif WA ((Xc l)+(Xc ([(who,(what,mode))])))then
 ((Zw N (Xf l ([(who,(what,mode))]))).bind λfW=>
 (some ((),(fW.1.1,(true,())))))else none)) (by omega) (by omega)
   (λn j hj=>by
    simp only[Zb9,WN hj,Wg hj,Wj hj,Wf (show j<4611686018427387904 by omega),cond_true];unfold Wta;simp only[Wv,Wss,Waa])
   (λn=>by simp only[Zb9,WV (Xn _),cond_false])
  rw[h1];unfold WhT WpN;cases hf:fnd (Wta who what) l 0 with
  |some r=>
   obtain⟨g1,g2,g3,g4⟩:=Wcp hf;rw[Xba]at g3;rw[Xdf,Xp g3]at g4;injection g4 with g4;unfold Wta at g1;simp only[Xi,decide_eq_true_eq]at g1;simp only[Wj g3,g4,Xeb,Xfh];rw[Xj];have:Wvf r.2.2.2 mode=Wpb r.2.2.2 mode:=by unfold Wvf Wpb;first|rfl|omega|(split<;>split<;>omega)
   rw[this,g1.1,g1.2,WuI h.ris g3 (e:=(who,what,Wpb r.2.2.2 mode)) (by rw[g4];exact g1.1.symm) (by rw[g4];exact g1.2.symm)]
  |none=>
   have hn:=WfX hf;simp only;rw[Ww (by simp;omega)];have x5:Wpb 0 mode=mode:=by unfold Wpb;rw[if_pos (by omega)]
   have nT:=Wjb (cf:=cfH) (L:=l) (e:=(who,what,mode)) (h.ris.imp λh=>.inl h) (λx hx=>by
    rw[apH];have:=hn x hx;unfold Wta at this;simp only[Xcm,decide_eq_false_iff_not]at this;simp only;omega)
   unfold Zw;simp only[cond_true,Xai];rw[WkO (rng:=Wug) (N:=N) WnB (M:=Wc9 cfH l (who,what,mode)) (WbI WnB h.ris) nT.1 (λx=>by rw[nT.2 x,Wa3 WnB h.ris]) (λx hx=>by
    rcases Xl.1 hx with hx|hx
    .have:=h.val x hx;unfold HdV at this;unfold Wug Wse;simp;omega
    .rw[Xx]at hx;subst hx;unfold Wug Wse;simp;omega) (by simp;omega)]
   simp only[Xd,x5,Xeb,Xfh]
 .rw[if_pos (by
   have:(WhE l who what mode).length≠0:=λh=>hb (List.eq_nil_of_length_eq_zero h);unfold Wb;omega),if_neg hb]
  rfl
theorem WpF(h:HOk l)(hw:1<=who/\who<=9)(ht:0<=what/\what<=8)(hm:1<=mode/\mode<=2)(hb:WhE l who what mode= []):HOk (WhT l who what mode):=by
 have lb:=Wuw (who:=who) (what:=what) h;have hbl:∀x∈l,x.2.1=what->x.1≠who->mode≠2/\x.2.2≠2:=λx hx h1 h2=>by
  refine Classical.byContradiction λhc=>?_;have:x.1∈WhE l who what mode:=Xv.2 ⟨x,Xat.2 ⟨hx,by unfold blk;simp[h1,h2];omega⟩,rfl⟩;rw[hb]at this;cases this
 have mS:∀x∈l,x.2.1=what->x.1≠who->WpN l who what≠2:=λx hx h1 h2=>by
  unfold WpN;cases hf:fnd (Wta who what) l 0 with
  |none=>simp
  |some r=>
   obtain⟨g1,g2,g3,g4⟩:=Wcp hf;rw[Xba]at g3;rw[Xdf,Xp g3]at g4;injection g4 with g4;unfold Wta at g1;simp only[Xi,decide_eq_true_eq]at g1;obtain⟨j,hj,rfl⟩:=Xbs hx;have hp:=Xaq.1 h.up;simp only;rw[←g4]at g1⊢;rcases Xdu r.1 j with hlt|heq|hlt
   .exact((hp r.1 j g3 hj hlt).2 (by rw[h1,g1.2])).1
   .subst heq;exact absurd g1.1 h2
   .exact((hp j r.1 hj g3 hlt).2 (by rw[h1,g1.2])).2
 unfold WhT;refine⟨λx hx=>?_,?_⟩
 .rcases(Wa3 WnB h.ris).1 hx with rfl|hx
  .refine⟨hw,ht,?_⟩;simp only;unfold Wpb;split<;>omega
  .exact h.val x hx.1
 .have hr:=WbI (e:=(who,what,Wpb (WpN l who what) mode)) WnB h.ris;have hmem:=λx=>Wa3 (e:=(who,what,Wpb (WpN l who what) mode)) (x:=x) WnB h.ris;have wa:∀x∈l,x.2.1=what->x.1≠who->Wpb (WpN l who what) mode≠2:=λx hx h1 h2=>by
   have:=mS x hx h1 h2;have:=(hbl x hx h1 h2).1;unfold Wpb;split<;>omega
  unfold Ris at hr;rw[Xaq]at hr⊢;intro i j hi hj hij;refine⟨hr i j hi hj hij,λhs=>?_⟩;have hlt:=hr i j hi hj hij;have m1:=(hmem _).1 (Xo hi);have m2:=(hmem _).1 (Xo hj);generalize (Wc9 cfH l (who,what,Wpb (WpN l who what) mode))[i]=x at*;generalize (Wc9 cfH l (who,what,Wpb (WpN l who what) mode))[j]=y at*;rcases m1 with rfl|m1<;>rcases m2 with rfl|m2
  .exact absurd hlt (WnB.irr _)
  .have hk:=apH.1 m2.2;simp only at hk hs;exact⟨wa y m2.1 hs.symm (λe=>hk ⟨e,hs.symm⟩),(hbl y m2.1 hs.symm (λe=>hk ⟨e,hs.symm⟩)).2⟩
  .have hk:=apH.1 m1.2;simp only at hk hs;exact⟨(hbl x m1.1 hs (λe=>hk ⟨e,hs⟩)).2,wa x m1.1 hs (λe=>hk ⟨e,hs⟩)⟩
  .obtain⟨a,ha,rfl⟩:=Xbs m1.1;obtain⟨b,hb',rfl⟩:=Xbs m2.1;have hp:=Xaq.1 h.up;rcases Xdu a b with d9|d9|d9
   .exact(hp a b ha hb' d9).2 hs
   .subst d9;exact absurd hlt (WnB.irr _)
   .exact absurd (WnB.tr _ _ _ hlt (hp b a hb' ha d9).1) (WnB.irr _)
theorem Wih(h:HOk l):HOk (W1 l who):=⟨λx hx=>h.val x (Xat.1 hx).1,h.up.filter _⟩
theorem WjJ(h:HOk l):l.length<=81:=by
 have key:∀(l:List Hd) (c:Int),Ris cfH l->(∀e∈l,HdV e/\c<=9*e.2.1+e.1)->1<=c->(l.length:Int)<=82-c\/l= []:=by
  intro l
  induction l with
  |nil=>intro c _ _ _;exact .inr rfl
  |cons a l ih=>
   intro c hr hb hc;left;have h1:=List.pairwise_cons.1 hr;have ha:=hb a (Xh ..);unfold HdV at ha;rcases ih (9*a.2.1+a.1+1) h1.2 (λe he=>⟨(hb e (Xe _ he)).1,by
    have:=h1.1 e he;rw[Wby]at this;have hv:=(hb e (Xe _ he)).1;unfold HdV at hv;omega⟩) (by omega)with h|h
   .rw[Xw];omega
   .subst h;simp;omega
 rcases key l 1 h.ris (λe he=>⟨h.val e he,by have:=h.val e he;unfold HdV at this;omega⟩) (by omega)with h|h
 .omega
 .rw[h];simp
theorem Whz{α V R:Type}{body:Int->α->V->(V->Option R)->Option R}{K:Int->V->Option R}{p:α->Bool}{E:Int->V->Option R}:∀(l:List α) (j:Nat) (v:V),(∀(j:Nat) x v k,x∈l->body j x v k=bif p x then E j v else k v)->
  (∃a x r,l=a++x::r/\(∀y∈a,p y=false)/\p x=true/\WbW body K l j v=E ((j+a.length:Nat):Int) v)\/((∀y∈l,p y=false)/\WbW body K l j v=K ((j+l.length:Nat):Int) v)
 | [],j,v,_=>.inr ⟨by simp,rfl⟩
 |x::l,j,v,h=>by
  rw[WbW,h j x v _ (Xh ..)];cases hp:p x
  .simp only[cond_false];rcases Whz (E:=E) l (j+1) v λj y v k hy=>h j y v k (Xe _ hy)with⟨a,y,r,h1,h2,h3,h4⟩|⟨h1,h2⟩
   .refine .inl ⟨x::a,y,r,by rw[h1];rfl,λz hz=>?_,h3,?_⟩
    .rcases Xq.1 hz with rfl|hz
     .exact hp
     .exact h2 z hz
    .rw[h4,Xw,show j+1+a.length=j+(a.length+1) by omega]
   .refine .inr ⟨λz hz=>?_,?_⟩
    .rcases Xq.1 hz with rfl|hz
     .exact hp
     .exact h1 z hz
    .rw[h2,Xw,show j+1+l.length=j+(l.length+1) by omega]
  .exact .inl ⟨[],x,l,rfl,by simp,hp,rfl⟩
theorem Wqm{N:Nat}(a0:Int){R:Type}(K:Int->Int->Bool->List Hd->Int->Option R):
  ∀(r a m:List Hd) (n:Nat),r.length<n->a.length+m.length+r.length<=1048576->∃m',
   Zd N K n (a.length:Int) ((a.length+m.length:Nat):Int) (a++m++r) a0=
    K ((a++r.filter λx=>!(x.1==a0)).length:Int) ((a.length+m.length+r.length:Nat):Int) false ((a++r.filter λx=>!(x.1==a0))++m') a0
 | [],a,m,0,h,_=>by simp at h
 | [],a,m,n+1,h,_=>by
  refine⟨m,?_⟩;have e1:decide (((a.length+m.length:Nat):Int)<Wb (a++m++ []))=false:=by simp[Wb]
  simp only[Zd,e1,cond_false];simp
 |x::r,a,m,0,h,_=>by simp at h
 |x::r,a,m,n+1,h,hb=>by
  simp only[Xw]at h hb;have hj:a.length+m.length<(a++m++x::r).length:=by simp
  have hi:a.length<(a++m++x::r).length:=by simp;omega
  have hx:Xb (a++m++x::r) (a.length+m.length) ((0:Int),((0:Int),(0:Int)))=x:=by
   have:a.length+m.length=(a++m).length:=by simp
   rw[this,Xac,List.getElem?_append_right (Xn _)];simp
  cases hp:x.1==a0
  .obtain⟨m2,ol,uF⟩:∃m2:List Hd,m2.length=m.length/\(a++m++x::r).set a.length x=(a++ [x])++m2++r:=by
    cases m with
    |nil=>exact⟨[],rfl,by rw[Xcz,Wdb];simp⟩
    |cons y m=>exact⟨m++ [x],by simp,by rw[show a++(y::m)++x::r=a++y::(m++x::r) by simp,Wdb];simp⟩
   obtain⟨m',ih⟩:=Wqm (N:=N) a0 K r (a++ [x]) m2 n (by omega) (by simp;omega);refine⟨m',?_⟩;simp only[Zd,Zf6,WN hj,Wg hj,Wg hi,Xj,hx,hp,Xd,cond_true,Xdv,Xj,uF,
    Wf (show a.length<4611686018427387904 by omega),Wf (show a.length+m.length<4611686018427387904 by omega)]
   have l1:(a++ [x]).length=a.length+1:=by simp
   rw[l1,ol,show a.length+1+m.length=a.length+m.length+1 by omega]at ih;rw[ih];simp only[Xbj,hp,Xdv,if_true,Xbn,Xeq,Xw];rw[show a.length+m.length+1+r.length=a.length+m.length+(r.length+1) by omega]
  .obtain⟨m',ih⟩:=Wqm (N:=N) a0 K r a (m++ [x]) n (by omega) (by simp;omega);refine⟨m',?_⟩;simp only[Zd,Zf6,WN hj,Wg hj,Wg hi,Xj,hx,hp,Xd,cond_true,cond_false,Xs,
    Wf (show a.length+m.length<4611686018427387904 by omega)]
   simp only[Xae,Xw,Xef,Xba]at ih;rw[show a.length+(m.length+1)=a.length+m.length+1 by omega,show a++(m++ [x])++r=a++m++x::r by simp]at ih;rw[ih];simp only[Xbj,hp,Xs,if_false,Xbp,Xw];simp only[Xae];rw[show a.length+m.length+1+r.length=a.length+m.length+(r.length+1) by omega]
theorem Wo3{N:Nat}{s:List Hd}{a0:Int}(hN:1048576<N)(hs:s.length<=100000):
  Zq N s a0=some ((a0,()),(s.filter λx=>!(x.1==a0),())):=by
 unfold Zq;have h1:=Wq (l:=s) (V:={v:Int//v=a0}) (R:=Ki×Ki) (lp:=λn j v=>Zj N s (λaY bc=>some ((bc,()),(aY,()))) (λcd eV bv=>some ((bv,()),((-1:Int),()))) n j v.1) (n:=N) (by omega)
  (body:=λj x v k=>bif x.1==a0 then some ((v.1,()),(j,()))else k v) (K:=λ_ v=>some ((v.1,()),((-1:Int),())))
  (λn i v hi=>by
   obtain⟨v,rfl⟩:=v;simp only[Zj,WN hi,Wg hi,Wj hi,Wf (show i<4611686018427387904 by omega),cond_true,Zf6,Xd])
  (λn v=>by simp only[Zj,WV (Xn s.length),cond_false]) ⟨a0,rfl⟩
 simp only[]at h1;unfold Zy;rw[h1];rcases Whz (body:=λj x (v:{v:Int//v=a0}) k=>bif x.1==a0 then some ((v.1,()),(j,()))else k v) (K:=λ_ v=>(some ((v.1,()),((-1:Int),())):Option (Ki×Ki))) (p:=λx=>x.1==a0)
  (E:=λj v=>some ((v.1,()),(j,()))) s 0 ⟨a0,rfl⟩ (λj x v k _=>rfl)with⟨a,x,r,cn,ha,hx,hr⟩|⟨ha,hr⟩
 .rw[hr];simp only[Xd,Xba];have e0:((a.length:Int)== -1)=false:=by simp
  rw[e0,Wf (show a.length<4611686018427387904 by rw[cn]at hs;simp at hs;omega)];simp only[cond_false];obtain⟨m',hd⟩:=Wqm (N:=N) a0 (λfF xE cd ce bv=>
     (bif (decide ((0:Int)<=fF))&&(decide (fF<=((Xc ce):Int)))then
      (bif (decide ((0:Int)<=fF))&&(decide (fF<=((Xc ((Xav (Xa fF) ce)++Xaa ((Xc ce) -(Xa fF)) ((0:Int),((0:Int),(0:Int)))++(Xdg (Xc ce) ce))):Int)))then
       (some ((bv,()),(Xav (Xa fF) ((Xav (Xa fF) ce)++Xaa ((Xc ce) -(Xa fF)) ((0:Int),((0:Int),(0:Int)))++(Xdg (Xc ce) ce)),())))else none)else none)) r a [x] N (by rw[cn]at hs;simp at hs;omega) (by rw[cn]at hs;simp at hs;simp;omega)
  rw[show a++ [x]++r=s by rw[cn];simp]at hd;simp only[Xw,Xef,Xba]at hd;rw[hd];have hf:(s.filter λx=>!(x.1==a0))=a++r.filter λx=>!(x.1==a0):=by
   rw[cn,List.filter_append,Xbj];have:(a.filter λx=>!(x.1==a0))=a:=Xgf.2 λy hy=>by simp[ha y hy]
   rw[this];simp[hx]
  rw[←hf];generalize (s.filter λx=>!(x.1==a0))=f;have c1:(decide ((0:Int)<=(f.length:Int))&&decide ((f.length:Int)<=((Xc (f++m')):Int)))=true:=by
   rw[Xi];refine⟨by simp,decide_eq_true ?_⟩;rw[Xae];omega
  rw[c1];simp only[cond_true,Xj,List.take_left',List.take_append_of_le_length (Xn f.length),List.take_length];have c2:(decide ((0:Int)<=(f.length:Int))&&decide ((f.length:Int)<=((Xc (f++Xaa ((f++m').length-f.length) ((0:Int),((0:Int),(0:Int)))++Xdg (f++m').length (f++m'))):Int)))=true:=by
   rw[Xi];refine⟨by simp,decide_eq_true ?_⟩;rw[Xae,Xae];omega
  rw[c2];simp[Xbn]
 .rw[hr];simp only[Xd];have:(s.filter λx=>!(x.1==a0))=s:=Xgf.2 λy hy=>by simp[ha y hy]
  rw[this];rfl
theorem Whd(h:HOk l)(hl:l.length<=100000)(hN:1048576<N):Zlx N l who=ret (W1 l who):=by
 have nW:Zeu N l=ret l:=by unfold Zeu;rw[Ww (by omega)];rfl
 unfold Zlx;rw[nW,WbK h (by omega) hN];simp only[ret,Xd,Xs,cond_false];rw[Wo3 hN hl];rfl
end
section
structure Cm where
 who:Int:=0
 rv:Int:=0
 phase:Int:=0
 pos:Int:=0
 wv:Int:=0
 puts:List Rw:=[]
 reads:List Int:=[]
def Cm.e(c:Cm):Int×Int×Int×Int×Int×List Kc×List Int:=(c.who,c.rv,c.phase,c.pos,c.wv,c.puts,c.reads)
def Cm.steps(c:Cm):Int:=
 if c.phase=1\/c.phase=4\/c.phase=5\/c.phase=7 then c.puts.length else if c.phase=3 then c.reads.length else 1
def Wam(c:Cm)(n:Int):Cm:=if n=0 then{c with phase:=8,pos:=0}else{c with phase:=7,pos:=n-1}
def Wa6(c:Cm)(ph:Int):Int:=
 if(ph=3/\c.reads.length=0\/ph=4)/\c.puts.length=0 then 6 else if ph=3/\c.reads.length=0 then 4 else ph
def Wdh(c:Cm)(ph:Int):Cm:={c with phase:=Wa6 c ph,pos:=0}
def Wu(c:Cm)(ph:Int):Cm:=if c.pos+1=c.steps then Wdh c ph else{c with pos:=c.pos+1}
def Wj3(m:Mm)(i who:Int):Mm:=WmO m i ((Wm m i).1,(Wm m i).2.1,who)
def WbT(m:Mm)(i who v:Int):Mm:=if(Wm m i).2.2=who then WmO m i (v,(Wm m i).2)else m
def War(m:Mm)(i who ver:Int):Mm:=if(Wm m i).2.2=who/\(Wm m i).2.1<=ver/\ver<=m.1 then WmO m i ((Wm m i).1,ver,0)else m
def Ws(m:Mm)(c:Cm):Mm×Cm:=
 let p:=Wci c.puts c.pos (0,0)
 if c.phase=1 then(if(Wm m p.1).2.2=0 then(Wj3 m p.1 c.who,Wu c 2)else(m,Wam c c.pos))else
 if c.phase=2 then(if(tick m).2=0 then((tick m).1,Wam c c.puts.length)else((tick m).1,Wdh {c with wv:=(tick m).2} 3))else
 if c.phase=3 then
  let w:=Wm m (Wci c.reads c.pos 0)
  if(w.2.2≠0/\w.2.2≠c.who)\/w.2.1>c.rv then(m,Wam c c.puts.length)else(m,Wu c 4)
 else
 if c.phase=4 then(WbT m p.1 c.who p.2,Wu c 5)else
 if c.phase=5 then(War m p.1 c.who c.wv,Wu c 6)else
 if c.phase=7 then(War m p.1 c.who (Wm m p.1).2.1,Wam c c.pos)else
 (m,c)
def W6(c:Cm):Cm:=
 if c.phase=1 then Wam c c.pos else if c.phase=2\/c.phase=3 then Wam c c.puts.length else c
def Wcv(who rv:Int)(puts reads:List Rw):Cm:=
 {who:=who,rv:=rv,phase:=if(WbR puts).length=0 then 2 else 1,puts:=WbR puts,reads:=(WbR reads).map (·.1)}
structure CmOk(c:Cm):Prop where
 who:1<=c.who/\c.who<=99
 rv:0<=c.rv/\c.rv<=1000000
 wv:0<=c.wv/\c.wv<=1000000
 phase:1<=c.phase/\c.phase<=8
 rows:WcP c.puts
 pup:c.puts.Pairwise λa b=>a.1<b.1
 plen:c.puts.length<=8
 rd:∀x∈c.reads,0<=x/\x<=7
 rup:c.reads.Pairwise (· < ·)
 rlen:c.reads.length<=8
 pos:0<=c.pos/\c.pos<c.steps
section
variable{N:Nat}{c:Cm}{m:Mm}
theorem CmOk.back(h:CmOk c){n:Int}(hn:0<=n/\n<=c.puts.length):CmOk (Wam c n):=by
 unfold Wam;split
 .exact{h with phase:=by(show(1:Int)<=8/\(8:Int)<=8;omega),pos:=by(unfold Cm.steps;simp)}
 .exact{h with phase:=by(show(1:Int)<=7/\(7:Int)<=8;omega),pos:=by(unfold Cm.steps;simp;omega)}
theorem WsT(c:Cm){ph:Int}(h:2<=ph/\ph<=6):2<=Wa6 c ph/\Wa6 c ph<=6:=by unfold Wa6;split<;>(try split)<;>omega
theorem CmOk.adv(h:CmOk c){ph:Int}(hp:2<=ph/\ph<=6)(h5:ph=5->c.puts.length≠0):CmOk (Wdh c ph):=by
 unfold Wdh;have:=WsT c hp;refine{h with phase:=by(show 1<=Wa6 c ph/\Wa6 c ph<=8;omega),pos:=⟨Xu _,?_⟩};unfold Cm.steps;simp only;unfold Wa6;split
 .split
  .omega
  .split<;>omega
 .split
  .split<;>(try split)<;>omega
  .split
   .omega
   .split<;>omega
theorem CmOk.next(h:CmOk c){ph:Int}(hp:2<=ph/\ph<=6)(h5:ph=5->c.puts.length≠0):CmOk (Wu c ph):=by
 unfold Wu;split
 .exact h.adv hp h5
 .have:=h.pos;exact{h with pos:=⟨by show 0<=c.pos+1;omega,by show c.pos+1<c.steps;omega⟩}
theorem Wto(hm:WZ m=true){i who:Int}(hi:0<=i/\i<=7)(hw:0<=who/\who<=99):WZ (Wj3 m i who)=true:=by
 have:=Wc5.1 (WeP hm hi);exact Wnq hm (by rw[Wc5];simp only;omega)
theorem Wq3(hm:WZ m=true){i who v:Int}(hi:0<=i/\i<=7)(hv:0<=v/\v<=65535):WZ (WbT m i who v)=true:=by
 have:=Wc5.1 (WeP hm hi);unfold WbT;split
 .exact Wnq hm (by rw[Wc5];simp only;omega)
 .exact hm
theorem WjE(hm:WZ m=true){i who ver:Int}(hi:0<=i/\i<=7):WZ (War m i who ver)=true:=by
 have:=Wc5.1 (WeP hm hi);unfold War;split
 .exact Wnq hm (by rw[Wc5];simp only;omega)
 .exact hm
theorem CmOk.put(h:CmOk c)(hp:c.phase=1\/c.phase=4\/c.phase=5\/c.phase=7):∃(j:Nat) (hj:j<c.puts.length),c.pos=j/\Wci c.puts c.pos (0,0)=c.puts[j]/\(0<=c.puts[j].1/\c.puts[j].1<=7)/\0<=c.puts[j].2/\c.puts[j].2<=65535:=by
 have:=h.pos;unfold Cm.steps at this;rw[if_pos hp]at this;have hj:c.pos.toNat<c.puts.length:=by omega
 have hr:=h.rows _ (Xo hj);exact⟨c.pos.toNat,hj,by omega,Wh hj _,hr.1,hr.2⟩
theorem CmOk.read(h:CmOk c)(hp:c.phase=3):∃(j:Nat) (hj:j<c.reads.length),c.pos=j/\Wci c.reads c.pos 0=c.reads[j]/\0<=c.reads[j]/\c.reads[j]<=7:=by
 have:=h.pos;unfold Cm.steps at this;rw[if_neg (by omega),if_pos hp]at this;have hj:c.pos.toNat<c.reads.length:=by omega
 have hr:=h.rd _ (Xo hj);exact⟨c.pos.toNat,hj,by omega,Wh hj _,hr⟩
theorem Wlc(h:CmOk c)(hm:WZ m=true):CmOk (Ws m c).2/\WZ (Ws m c).1=true:=by
 have cb:=h.pos;have hl:c.phase=1\/c.phase=4\/c.phase=5\/c.phase=7->c.puts.length≠0:=λhp=>by obtain⟨j,hj,_⟩:=h.put hp;omega
 have aM:c.phase=1\/c.phase=4\/c.phase=5\/c.phase=7->c.pos<c.puts.length:=λhp=>by unfold Cm.steps at cb;rw[if_pos hp]at cb;exact cb.2
 have hw:=h.who;unfold Ws;simp only;split
 .obtain⟨j,hj,e1,e2,e3,e4⟩:=h.put (by omega);rw[e2];split
  .exact⟨h.next (by omega) (by omega),Wto hm e3 (by omega)⟩
  .exact⟨h.back (by omega),hm⟩
 .split
  .have ht:=WkV hm;split
   .exact⟨h.back (by omega),ht.1⟩
   .refine⟨?_,ht.1⟩;have h':CmOk {c with wv:=(tick m).2}:={h with wv:=⟨ht.2.1,ht.2.2.1⟩};exact h'.adv (by omega) (by omega)
  .split
   .split
    .exact⟨h.back (by omega),hm⟩
    .exact⟨h.next (by omega) (by omega),hm⟩
   .split
    .obtain⟨j,hj,e1,e2,e3,e4⟩:=h.put (by omega);rw[e2];exact⟨h.next (by omega) (λ_=>hl (by omega)),Wq3 hm e3 e4⟩
    .split
     .obtain⟨j,hj,e1,e2,e3,e4⟩:=h.put (by omega);rw[e2];exact⟨h.next (by omega) (by omega),WjE hm e3⟩
     .split
      .obtain⟨j,hj,e1,e2,e3,e4⟩:=h.put (by omega);have:=aM (by omega);rw[e2];exact⟨h.back (by omega),WjE hm e3⟩
      .exact⟨h,hm⟩
theorem Wpl(h:CmOk c):CmOk (W6 c):=by
 have cb:=h.pos;unfold W6;split
 .have:c.pos<c.puts.length:=by unfold Cm.steps at cb;rw[if_pos (by omega)]at cb;exact cb.2
  exact h.back (by omega)
 .split
  .exact h.back (by omega)
  .exact h
theorem Wtq{who rv:Int}{puts reads:List Rw}(hw:1<=who/\who<=99)(hr:0<=rv/\rv<=1000000):CmOk (Wcv who rv puts reads) where
 who:=hw
 rv:=hr
 wv:=by simp[Wcv]
 phase:=by unfold Wcv;simp only;split<;>omega
 rows:=Wd8
 pup:=Wgs puts
 plen:=WeR puts
 rd:=λx hx=>by
  obtain⟨r,hr,rfl⟩:=Xv.1 hx;exact(Wd8 r hr).1
 rup:=by
  unfold Wcv;simp only[Xem];exact Wgs reads
 rlen:=by unfold Wcv;simp only[Xy];exact WeR reads
 pos:=by
  unfold Wcv Cm.steps;simp only;refine⟨Xu _,?_⟩;split
  .simp
  .simp;omega
theorem cmP(c:Cm):c.e.1=c.who/\c.e.2.1=c.rv/\c.e.2.2.1=c.phase/\c.e.2.2.2.1=c.pos/\c.e.2.2.2.2.1=c.wv/\c.e.2.2.2.2.2.1=c.puts/\c.e.2.2.2.2.2.2=c.reads:=⟨rfl,rfl,rfl,rfl,rfl,rfl,rfl⟩
theorem Wbe{who:Int}:Zdd N who=ret (decide (1<=who)&&decide (who<=99)):=by unfold Zdd;rw[Wk];rfl
theorem WdK(hm:WZ m=true):Zcg N m=ret m:=by
 have:=(WK hm).1;unfold Zcg;rw[Ww (by omega)];rfl
theorem Wjh(h:CmOk c):Zhu N c.e=ret c.e:=by
 unfold Zhu;have:=h.plen;have:=h.rlen;rw[show Za6 N c.e.2.2.2.2.2.1=ret c.puts from WcC (show c.puts.length<=1048576 by omega),show Zr N c.e.2.2.2.2.2.2=ret c.reads from Wcd (show c.reads.length<=1048576 by omega)];rfl
theorem Wl5:Zdf N c.e=ret c.steps:=by
 unfold Zdf Cm.steps;obtain⟨c0,c1,c2,c3,c4,c5,c6⟩:=cmP c;simp only[Wv,c2,c5,c6,Wb];by_cases h1:c.phase=1
 .simp[h1]
 .by_cases h3:c.phase=3
  .simp[h3]
  .by_cases h4:c.phase=4
   .simp[h4]
   .by_cases h5:c.phase=5
    .simp[h5]
    .by_cases h7:c.phase=7
     .simp[h7]
     .simp[h1,h3,h4,h5,h7]
theorem WgY(h:CmOk c)(hN:1048576<N):Zfn N c.e=ret true:=by
 obtain⟨c0,c1,c2,c3,c4,c5,c6⟩:=cmP c;have eN:=h.plen;have dx:=h.rlen;have hw:=h.who;have ir:=h.rv;have wc:=h.wv;have bQ:=h.phase;have cb:=h.pos;have dn:WaL c.puts=true:=by unfold WaL;rw[Whn.2 h.rows,decide_eq_true (by omega)];rfl
 unfold Zfn;simp only[c0,c1,c2,c3,c4,c5,c6,Wbe,Wk,Wak (show c.puts.length<=1048576 by omega) hN,Wl5,ret,Xd,decide_eq_true hw.1,decide_eq_true hw.2,decide_eq_true ir.1,decide_eq_true ir.2,decide_eq_true wc.1,decide_eq_true wc.2,decide_eq_true bQ.1,decide_eq_true bQ.2,dn,Xbu,Xs,cond_false];have tZ:c.steps<=8:=by unfold Cm.steps;split<;>(try split)<;>omega
 have we:WW .i64 c.steps 1=c.steps-1:=Wag (by unfold I64;omega);rw[we,decide_eq_true cb.1,decide_eq_true (show c.pos<=c.steps-1 by omega)];have wg:∀(d j n:Nat),j+d=c.reads.length->d<n->Zbj N c.reads c.e (some ((),(false,()))) (λt22 gE=>(some ((),(true&&true,())))) n (j:Int)=ret true:=by
  intro d
  induction d with
  |zero=>
   intro j n hj hn;obtain⟨n,rfl⟩:∃n',n=n'+1:=⟨n-1,by omega⟩;have:j=c.reads.length:=by omega
   subst this;simp only[Zbj,c6,WV (Xn _),cond_false];rfl
  |succ d ih=>
   intro j n hj hn;obtain⟨n,rfl⟩:∃n',n=n'+1:=⟨n-1,by omega⟩;have hlt:j<c.reads.length:=by omega
   have bm:=ih (j+1) n (by omega) (by omega);have hv:=h.rd _ (Xo hlt);have aq:W2 c.reads[j]=true:=by unfold W2;simpa using hv
   simp only[Zbj,c6,WN hlt,Wg hlt,Wj hlt,Wf (show j<4611686018427387904 by omega),cond_true,Wn,ret,Xd,aq,Xs,cond_false,bm];by_cases h0:j=0
   .subst h0;rfl
   .have e1:decide ((j:Int)>0)=true:=by simp;omega
    have e2:WW .i64 (j:Int) 1=((j-1:Nat):Int):=by rw[Wag (by unfold I64;omega)];omega
    have bj:j-1<c.reads.length:=by omega
    have hb:=Xaq.1 h.rup (j-1) j bj hlt (by omega);simp only[e1,e2,cond_true,Wg bj,Wj bj];rw[decide_eq_false (by omega)];rfl
 have x6:∀(d j n:Nat),j+d=c.puts.length->d<n->1<=j->Zb0 N c.e (some ((),(false,()))) (λoC ai=>(Zbj N c.reads c.e (some ((),(false,()))) (λt22 gE=>(some ((),(true&&true,())))) N (0:Int))) n (j:Int)=ret true:=by
  intro d
  induction d with
  |zero=>
   intro j n hj hn _;obtain⟨n,rfl⟩:∃n',n=n'+1:=⟨n-1,by omega⟩;have:j=c.puts.length:=by omega
   subst this;simp only[Zb0,c5,WV (Xn _),cond_false];exact wg c.reads.length 0 N (by omega) (by omega)
  |succ d ih=>
   intro j n hj hn h1j;obtain⟨n,rfl⟩:∃n',n=n'+1:=⟨n-1,by omega⟩;have hlt:j<c.puts.length:=by omega
   have bm:=ih (j+1) n (by omega) (by omega) (by omega);have e2:WW .i64 (j:Int) 1=((j-1:Nat):Int):=by rw[Wag (by unfold I64;omega)];omega
   have bj:j-1<c.puts.length:=by omega
   have hb:=Xaq.1 h.pup (j-1) j bj hlt (by omega);simp only[Zb0,c5,WN hlt,Wg hlt,Wj hlt,Wf (show j<4611686018427387904 by omega),cond_true,e2,Wg bj,Wj bj];rw[decide_eq_false (by omega)];exact bm
 by_cases hz:c.puts.length=0
 .obtain⟨N',rfl⟩:∃N',N=N'+1:=⟨N-1,by omega⟩;rw[Zb0,c5,decide_eq_false (by unfold Wb;omega)];exact wg c.reads.length 0 _ (by omega) (by omega)
 .exact x6 (c.puts.length-1) 1 N (by omega) (by omega) (by omega)
theorem Whm(h:CmOk c){n:Int}(hn:0<=n/\n<=8):Z7 N c.e n=some (((Wam c n).e,()),()):=by
 unfold Z7 Wam;rw[Wv,Wag (by unfold I64;omega)];split<;>rfl
theorem WqB{ph:Int}:Ze5 N c.e ph=some (((Wdh c ph).e,()),()):=by
 obtain⟨c0,c1,c2,c3,c4,c5,c6⟩:=cmP c;unfold Ze5 Wdh Wa6;simp only[Wv,c5,c6,Wb];by_cases h3:ph=3
 .subst h3;by_cases hr:c.reads.length=0<;>by_cases hp:c.puts.length=0<;>simp[hr,hp]<;>rfl
 .by_cases h4:ph=4
  .subst h4;by_cases hp:c.puts.length=0<;>simp[hp]<;>rfl
  .simp[h3,h4];rfl
theorem WsN(h:CmOk c){ph:Int}:Zbq N c.e ph=some (((Wu c ph).e,()),()):=by
 obtain⟨c0,c1,c2,c3,c4,c5,c6⟩:=cmP c;have cb:=h.pos;have tZ:c.steps<=8:=by have:=h.plen;have:=h.rlen;unfold Cm.steps;split<;>(try split)<;>omega
 have aM:Zdf N (Cm.e {c with pos:=c.pos+1})=ret c.steps:=Wl5;unfold Zbq Wu;rw[c3,WC (by unfold I64;omega)];rw[show(c.e.1,(c.e.2.1,(c.e.2.2.1,(c.pos+1,c.e.2.2.2.2))))=Cm.e {c with pos:=c.pos+1}from rfl,aM];simp only[ret,Xd,Wv,WqB];split<;>rfl
theorem WqI(h:CmOk c)(hN:1048576<N):∃b,Zjd N c.e=some ((),((W6 c).e,(b,()))):=by
 obtain⟨c0,c1,c2,c3,c4,c5,c6⟩:=cmP c;have cb:=h.pos;have eN:=h.plen;have tZ:c.steps<=8:=by have:=h.plen;have:=h.rlen;unfold Cm.steps;split<;>(try split)<;>omega
 unfold Zjd W6;rw[Wjh h];simp only[ret,Xd];rw[WgY h hN];simp only[ret,Xd,Xs,cond_false,Wv,c2,c3,c5,Whm h (show 0<=c.pos/\c.pos<=8 by omega),Whm h (show 0<=Wb c.puts/\Wb c.puts<=8 by unfold Wb;omega)];by_cases h1:c.phase=1
 .rw[if_pos h1,if_pos h1];exact⟨_,rfl⟩
 .rw[if_neg h1,if_neg h1];by_cases h2:c.phase=2
  .rw[if_pos h2,if_pos h2,if_pos (.inl h2)];exact⟨_,rfl⟩
  .rw[if_neg h2];by_cases h3:c.phase=3
   .rw[if_pos h3,if_pos (.inr h3)];exact⟨_,rfl⟩
   .rw[if_neg h3,if_neg (by omega)];exact⟨_,rfl⟩
theorem WmS{l:List Rw}(hl:l.length<=1048576)(hN:1048576<N):Zh2 N l=ret ((WbR l).map (·.1)):=by
 unfold Zh2;rw[Wdv hl hN];have hn:=WeR l;simp only[ret,Xd];have h1:=Wq (l:=WbR l) (V:=List Int) (R:=Unit×(List Int×Unit)) (lp:=λn j v=>Zcx N (Wb (WbR l)) (WbR l) (λaw ay aK=>(some ((),(aK,())))) n j v) (n:=N) (by omega)
  (body:=λj x v k=>bif WA (v.length+ [x.1].length)then k (Xf v [x.1])else none) (K:=λ_ v=>ret v)
  (λn i v hi=>by simp only[Zcx,WN hi,Wg hi,Wj hi,Wf (show i<4611686018427387904 by omega),cond_true])
  (λn v=>by simp only[Zcx,WV (Xn _),cond_false]) []
 refine h1.trans ?_;rw[Wcy (f:=λx:Rw=>x.1) (WbR l) 0 [] (by simp;omega) (λj x v k _=>rfl)];rfl
theorem Wuq{who rv:Int}{puts reads:List Rw}(hw:1<=who/\who<=99)(hr:0<=rv/\rv<=1000000)(hp:WaL puts=true)(hd:WaL reads=true)(hN:1048576<N):
  Zet N who rv puts reads=some ((),((Wcv who rv puts reads).e,(true,()))):=by
 have l1:puts.length<=300:=by unfold WaL at hp;simp at hp;exact hp.1
 have l2:reads.length<=300:=by unfold WaL at hd;simp at hd;exact hd.1
 unfold Zet;simp only[Wbe,Wk,Wak (show puts.length<=1048576 by omega) hN,Wak (show reads.length<=1048576 by omega) hN,Wdv (show puts.length<=1048576 by omega) hN,WmS (show reads.length<=1048576 by omega) hN,ret,Xd,decide_eq_true hw.1,decide_eq_true hw.2,decide_eq_true hr.1,decide_eq_true hr.2,hp,hd,Xbu,Xs,cond_false,Wv];unfold Wcv Cm.e;by_cases hz:(WbR puts).length=0
 .rw[if_pos (by unfold Wb;omega)];simp only[if_pos hz]
 .rw[if_neg (by unfold Wb;omega)];simp only[if_neg hz]
theorem Whu{m:Mm}{i:Int}:Xb m.2 (Xa i) ((0:Int),((0:Int),(0:Int)))=Wm m i:=rfl
theorem WgJ(hm:WZ m=true){i:Int}(hi:0<=i/\i<=7):inb i m.2.length=true:=by
 have:=(WK hm).1;unfold inb;simp;omega
theorem Wiu{i:Int}(hi:0<=i/\i<=7):W2 i=true:=by unfold W2;simpa using hi
theorem Wlp(hm:WZ m=true){i who:Int}(hi:0<=i/\i<=7)(hw:1<=who/\who<=99)(hN:1048576<N):
  Zno N m i who=some ((),((if(Wm m i).2.2=0 then Wj3 m i who else m),(decide ((Wm m i).2.2=0),()))):=by
 unfold Zno;rw[WdK hm,Wba (by have:=(WK hm).1;omega) hN,hm];simp only[ret,Xd,Xs,cond_false,Wn,Wiu hi,Wbe,decide_eq_true hw.1,decide_eq_true hw.2,Xbu,WgJ hm hi,cond_true,Whu,Wc7];by_cases h:(Wm m i).2.2=0
 .rw[if_pos h,if_pos h,decide_eq_true h];rfl
 .rw[if_neg h,if_neg h,decide_eq_false h]
theorem WjS(hm:WZ m=true){i who v:Int}(hi:0<=i/\i<=7)(hw:1<=who/\who<=99)(hv:0<=v/\v<=65535)(hN:1048576<N):
  ∃b,Zom N m i who v=some ((),(WbT m i who v,(b,()))):=by
 unfold Zom WbT;rw[WdK hm,Wba (by have:=(WK hm).1;omega) hN,hm];simp only[ret,Xd,Xs,cond_false,Wn,Wiu hi,Wbe,Wp,Wa8.2 hv,decide_eq_true hw.1,decide_eq_true hw.2,Xbu,WgJ hm hi,cond_true,Whu,Wc7];by_cases h:(Wm m i).2.2=who
 .rw[if_pos h,if_pos h];exact⟨_,rfl⟩
 .rw[if_neg h,if_neg h];exact⟨_,rfl⟩
theorem We9(hm:WZ m=true){i who ver:Int}(hi:0<=i/\i<=7)(hw:1<=who/\who<=99)(hN:1048576<N):
  ∃b,Zlj N m i who ver=some ((),(War m i who ver,(b,()))):=by
 have h8:=(WK hm).1;unfold Zlj War;rw[WdK hm,Wba (by omega) hN,hm];simp only[ret,Xd,Xs,cond_false,Wn,Wiu hi,Wbe,Wk,decide_eq_true hw.1,decide_eq_true hw.2,Xbu,WgJ hm hi,cond_true,Whu,Wc7,Xaf,Wl];by_cases h:(Wm m i).2.2=who
 .rw[if_pos h];by_cases h2:(Wm m i).2.1<=ver/\ver<=m.1
  .rw[if_pos ⟨h,h2.1,h2.2⟩,decide_eq_true h2.1,decide_eq_true h2.2];refine⟨true,?_⟩;have:i.toNat<m.2.length:=by omega
   simp only[Xbu,Xs,cond_false,Wku this,Xej];rfl
  .rw[if_neg (by omega)];refine⟨false,?_⟩;have:(decide ((Wm m i).2.1<=ver)&&decide (ver<=m.1))=false:=by
    rw[Xcm,decide_eq_false_iff_not,decide_eq_false_iff_not];omega
   rw[this];rfl
 .rw[if_neg h,if_neg (by omega)];exact⟨_,rfl⟩
theorem Wmu(h:CmOk c)(hm:WZ m=true)(hN:1048576<N):Zju N m c.e=some ((),((Ws m c).1,((Ws m c).2.e,()))):=by
 obtain⟨c0,c1,c2,c3,c4,c5,c6⟩:=cmP c;have cb:=h.pos;have eN:=h.plen;have hw:=h.who;have tZ:c.steps<=8:=by have:=h.plen;have:=h.rlen;unfold Cm.steps;split<;>(try split)<;>omega
 have b1:=Whm (N:=N) h (show 0<=c.pos/\c.pos<=8 by omega);have b2:=Whm (N:=N) h (show 0<=Wb c.puts/\Wb c.puts<=8 by unfold Wb;omega);unfold Zju Ws;rw[WdK hm,Wjh h];simp only[ret,Xd];rw[Wba (by have:=(WK hm).1;omega) hN,WgY h hN,hm];simp only[ret,Xd,Xs,cond_false,Wv,c0,c1,c2,c3,c4,c5,c6,Wf5,b1,b2,WsN h];by_cases h1:c.phase=1
 .rw[if_pos h1,if_pos h1];obtain⟨j,hj,e1,e2,e3,e4⟩:=h.put (by omega);rw[show Xb c.puts (Xa c.pos) ((0:Int),(0:Int))=c.puts[j]from e2,e2,e1,W5,decide_eq_true hj,Wlp hm e3 hw hN,←e1];by_cases ho:(Wm m c.puts[j].1).2.2=0
  .rw[if_pos ho,if_pos ho,decide_eq_true ho];rfl
  .rw[if_neg ho,if_neg ho,decide_eq_false ho];rfl
 .rw[if_neg h1,if_neg h1];by_cases h2:c.phase=2
  .rw[if_pos h2,if_pos h2,Wk7 hm hN];simp only[Xd];by_cases ht:(tick m).2=0
   .rw[if_pos ht,if_pos ht];rfl
   .rw[if_neg ht,if_neg ht];rw[show(c.who,(c.rv,(c.phase,(c.pos,((tick m).2,c.e.2.2.2.2.2)))))=Cm.e {c with wv:=(tick m).2}from rfl,WqB];rfl
  .rw[if_neg h2,if_neg h2];by_cases h3:c.phase=3
   .rw[if_pos h3,if_pos h3];obtain⟨j,hj,e1,e2,e3,e4⟩:=h.read h3;rw[show Xb c.reads (Xa c.pos) (0:Int)=c.reads[j]from e2,e2,e1,W5,decide_eq_true hj,WgJ hm ⟨e3,e4⟩];simp only[cond_true,Wc7,Waa];rw[show Xb m.2 (Xa c.reads[j]) ((0:Int),((0:Int),(0:Int)))=Wm m c.reads[j]from rfl];by_cases a:(Wm m c.reads[j]).2.2=0
    .rw[if_pos a];by_cases b:(Wm m c.reads[j]).2.1>c.rv
     .rw[if_pos b,if_pos (.inr b)];rfl
     .rw[if_neg b,if_neg (by omega)]
    .rw[if_neg a];by_cases a':(Wm m c.reads[j]).2.2=c.who
     .rw[if_pos a'];by_cases b:(Wm m c.reads[j]).2.1>c.rv
      .rw[if_pos b,if_pos (.inr b)];rfl
      .rw[if_neg b,if_neg (by omega)]
     .rw[if_neg a',if_pos (.inl ⟨a,a'⟩)];rfl
   .rw[if_neg h3,if_neg h3];by_cases h4:c.phase=4
    .rw[if_pos h4,if_pos h4];obtain⟨j,hj,e1,e2,e3,e4⟩:=h.put (by omega);obtain⟨b,hb⟩:=WjS hm e3 hw e4 hN;rw[show Xb c.puts (Xa c.pos) ((0:Int),(0:Int))=c.puts[j]from e2,e2,e1,W5,decide_eq_true hj,hb];rfl
    .rw[if_neg h4,if_neg h4];by_cases h5:c.phase=5
     .rw[if_pos h5,if_pos h5];obtain⟨j,hj,e1,e2,e3,e4⟩:=h.put (by omega);obtain⟨b,hb⟩:=We9 (ver:=c.wv) hm e3 hw hN;rw[show Xb c.puts (Xa c.pos) ((0:Int),(0:Int))=c.puts[j]from e2,e2,e1,W5,decide_eq_true hj,hb];rfl
     .rw[if_neg h5,if_neg h5];by_cases h7:c.phase=7
      .rw[if_pos h7,if_pos h7];obtain⟨j,hj,e1,e2,e3,e4⟩:=h.put (by omega);obtain⟨b,hb⟩:=We9 (ver:=(Wm m c.puts[j].1).2.1) hm e3 hw hN;rw[show Xb c.puts (Xa c.pos) ((0:Int),(0:Int))=c.puts[j]from e2,e2,e1,W5,decide_eq_true hj,WgJ hm e3];simp only[cond_true,Whu,hb,←e1];rfl
      .rw[if_neg h7,if_neg h7]
end
end
section
abbrev RM:=Int×Int×Int×Int×List Int
abbrev Wr:=Int×Int×List Rw
abbrev Pg:=List Opn×List (List Opn)
abbrev Ac:=Int×Int×Int
abbrev Sc:=Kf×List Pg×List Ac
structure Rt where
 phase:Int:=0
 tries:Int:=0
 spare:Int:=0
 pc:Int:=0
 rv:Int:=0
 newRv:Int:=0
 pos:Int:=0
 fate:Int:=0
 stamp:Int:=0
 began:Int:=0
 ended:Int:=0
 doomed:Bool:=false
 regs:List Int:=[]
 reads:List Rw:=[]
 writes:List Rw:=[]
 marks:List RM:=[]
 undos:List Un:=[]
 order:List Int:=[]
 busy:Bool:=false
 pb:Pb:=(0,0,0,0)
 cm:Cm:={}
 fam:Fm:={}
def Rt.e(r:Rt):Y_Root:=(r.phase,r.tries,r.spare,r.pc,r.rv,r.newRv,r.pos,r.fate,r.stamp,r.began,r.ended,r.doomed,r.regs,r.reads,r.writes,r.marks,r.undos,r.order,r.busy,r.pb,r.cm.e,r.fam.e)
structure Wo where
 now:Int:=0
 token:Int:=0
 mem:Mm:=(0,[])
 shelf:Shf:=([],0)
 holds:List Hd:=[]
 roots:List Rt:=[]
 hist:List Wr:=[]
def Wo.e(w:Wo):Y_World:=(w.now,w.token,w.mem,w.shelf,w.holds,w.roots.map Rt.e,w.hist)
def zRM:RM:=(0,0,0,0,[])
def Rt.last(x:Rt):RM:=Wgx x.marks zRM
def Wdd(x:Rt):Rt:={phase:=6,tries:=x.tries,undos:=x.undos}
def W0(x:Rt):Rt:=
 if x.marks.length=0\/x.spare=2 then Wdd x else{x with spare:=x.spare+1,busy:=false,pb:=(0,0,0,0),phase:=3}
def Wd3(w:Wo)(x:Rt):Wo×Rt:=({w with shelf:=Wiq w.shelf (Wgx x.undos (0,0,0))},{x with undos:=x.undos.dropLast})
def Wk4(w:Wo)(x:Rt)(k:Nat):Wo×Rt:=
 ({w with token:=if w.token=(k:Int)+1 then 0 else w.token},{x with phase:=8,ended:=w.now,undos:=[],doomed:=false})
def WbS(w:Wo)(x:Rt)(k:Nat)(out:Int):Wo×Rt:=
 let rows:=if out=2 then []else x.writes
 if rows.length=0/\(Wfb w.holds ((k:Int)+1)).length=0 then Wk4 w {x with fate:=out,stamp:=x.rv} k
 else(w,{x with fate:=out,cm:=Wcv ((k:Int)+1) x.rv rows x.reads,phase:=5})
def Weu(w:Wo)(x:Rt)(o:Opn):Rt:=
 match WaH x.writes o.2.2.1 with
 |some v=>{x with regs:=WmN x.regs o.2.1 v,pc:=x.pc+1}
 |none=>
  let p:=WO w.mem x.rv (if x.busy then x.pb else(o.2.2.1,0,0,0))
  if p.2.1=4 then W0 {x with busy:=true,pb:=p}
  else if p.2.1=3 then{x with regs:=WmN x.regs o.2.1 p.2.2.2,reads:=x.reads++ [(o.2.2.1,p.2.2.2)],busy:=false,pb:=(0,0,0,0),pc:=x.pc+1}
  else{x with busy:=true,pb:=p}
def Wdg(w:Wo)(x:Rt)(k:Nat)(code:List Opn):Wo×Rt:=
 if x.marks.length=0 then WbS w x k 2 else
 if(x.undos.length:Int)>x.last.2.2.2.1 then Wd3 w x else
 (w,{x with marks:=x.marks.dropLast,regs:=WmN x.last.2.2.2.2 (opN code x.last.1).2.1 0,writes:=x.writes.take x.last.2.2.1.toNat,pc:=WiM code x.last.1.toNat+1})
def Wc4(w:Wo)(x:Rt)(k:Nat)(o:Opn):Wo×Rt:=
 match Wb0 w.holds ((k:Int)+1) (WbN o).1 (WbN o).2 with
 |none=>(w,W0 x)
 |some hs=>
  let b:=WbM w.shelf o x.regs
  ({w with holds:=hs,shelf:=b.1},{x with regs:=b.2.1,undos:=if b.2.2.1=0 then x.undos else x.undos++ [b.2.2],pc:=x.pc+1})
def Wk5(w:Wo)(x:Rt)(k:Nat)(p:Pg):Wo×Rt:=
 if x.pc>=p.1.length then WbS w x k 1 else
 let o:=opN p.1 x.pc
 if o.1=5 then(w,Weu w x o)else
 if o.1=10 then Wdg w x k p.1 else
 if o.1=11 then(w,{x with phase:=2,fam:=WaZ x.rv x.regs x.writes p.2.length})else
 if o.1>=12 then Wc4 w x k o else
 if o.1=6 then(w,{x with writes:=x.writes++ [(o.2.1,Wci x.regs o.2.2.1 0)],pc:=x.pc+1})else
 if o.1=7 then(w,{x with pc:=(if Wci x.regs o.2.1 0=0 then x.pc+o.2.2.1 else x.pc)+1})else
 if o.1=8 then(w,{x with marks:=x.marks++ [(x.pc,(x.reads.length:Int),(x.writes.length:Int),(x.undos.length:Int),x.regs)],pc:=x.pc+1})else
 if o.1=9 then(w,{x with marks:=x.marks.dropLast,regs:=WmN x.regs (opN p.1 x.last.1).2.1 1,pc:=x.pc+1})else
 (w,{x with regs:=WmP o x.regs,pc:=x.pc+1})
def Wds(k:Nat):List Rt->Nat->Bool
 | [],_=>true
 |x::l,i=>(decide (i=k)||(decide (x.phase=0)||decide (x.phase=8)))&&Wds k l (i+1)
def Weh(w:Wo)(x:Rt)(k:Nat):Wo×Rt:=
 if w.token≠0/\w.token≠(k:Int)+1 then(w,x)else
 if x.tries>=3/\w.token=0 then({w with token:=(k:Int)+1},x)else
 if w.token=(k:Int)+1/\Wds k w.roots 0=false then(w,x)else
 (w,{phase:=1,tries:=x.tries,rv:=w.mem.1,began:=w.now,regs:=[0,0,0,0]})
def Wd5(x:Rt):Rt:=
 if x.fam.lost then Wdd x else
 if Wfv x.fam then{x with regs:=WhQ x.fam,writes:=Wgq x.fam,reads:=x.reads++x.fam.reads,order:=x.fam.order,fam:={},phase:=1,pc:=x.pc+1}
 else x
def WbG(w:Wo)(x:Rt):Wo×Rt:=
 if(x.undos.length:Int)>x.last.2.2.2.1 then Wd3 w x else(w,{x with newRv:=w.mem.1,pos:=0,phase:=4})
def Wa5(w:Wo)(x:Rt):Rt:=
 if x.pos<x.last.2.1 then
  let c:=Wm w.mem (Wci x.reads x.pos (0,0)).1
  if c.2.2≠0\/c.2.1>x.rv then Wdd x else{x with pos:=x.pos+1}
 else{x with rv:=x.newRv,newRv:=0,pos:=0,reads:=x.reads.take x.last.2.1.toNat,writes:=x.writes.take x.last.2.2.1.toNat,regs:=x.last.2.2.2.2,pc:=x.last.1+1,phase:=1}
def Wbm(x:Rt):Rt:=
 if x.cm.phase=8 then Wdd x else
 if x.cm.phase=6 then{x with stamp:=x.cm.wv,cm:={},phase:=if x.fate=2 then 6 else 7}else x
def Waz(w:Wo)(x:Rt)(k:Nat):Wo×Rt:=
 if x.doomed then(w,if(W6 x.cm).phase=8 then Wdd x else{x with cm:=W6 x.cm,doomed:=false})else
 let q:=Ws w.mem x.cm
 ({w with mem:=q.1,hist:=if x.cm.phase<=3/\q.2.phase=4 then w.hist++ [(q.2.wv,(k:Int)+1,q.2.puts)]else w.hist},Wbm {x with cm:=q.2})
def Wai(w:Wo)(x:Rt)(k:Nat)(p:Pg):Wo×Rt:=
 if x.doomed=true/\1<=x.phase/\x.phase<=4 then(w,Wdd x)else
 if x.phase=0 then Weh w x k else
 if x.phase=1 then Wk5 w x k p else
 if x.phase=2 then(w,Wd5 x)else
 if x.phase=3 then WbG w x else
 if x.phase=4 then(w,Wa5 w x)else
 if x.phase=5 then Waz w x k else
 if x.phase=6 then(if x.undos.length>0 then Wd3 w x else(w,{x with phase:=7}))else
 if x.phase=7 then
  (if x.fate=0 then({w with holds:=W1 w.holds ((k:Int)+1)},{tries:=x.tries+1})
   else Wk4 {w with holds:=W1 w.holds ((k:Int)+1)} x k)
 else(w,x)
def Wo.put(q:Wo×Rt)(k:Nat):Wo:={q.1 with roots:=q.1.roots.set k q.2}
def rt0:Rt:={}
def pg0:Pg:=([],[])
def Wkx(w:Wo)(k:Nat)(p:Pg):Wo:=Wo.put (Wai w (w.roots.getD k rt0) k p) k
def Wwt(w:Wo)(x:Rt)(k j:Nat)(p:Pg):Wo:=Wo.put (w,{x with fam:=WaI w.mem x.fam j (p.2.getD j [])}) k
def Wgu(s:Sc)(w0:Wo)(a:Ac):Wo:=
 let w:={w0 with now:=w0.now+1}
 if 0<=a.2.1/\a.2.1<w.roots.length then
  let k:=a.2.1.toNat
  let x:=w.roots.getD k rt0
  let p:=s.2.1.getD k pg0
  if a.1=1 then Wkx w k p else
  if a.1=2 then(if x.phase=2/\0<=a.2.2/\a.2.2<p.2.length then Wwt w x k a.2.2.toNat p else w)else
  if a.1=3 then(if(1<=x.phase/\x.phase<=4)\/(x.phase=5/\x.cm.phase<=3)then Wo.put (w,{x with doomed:=true}) k else w)else w
 else w
def Wgg(s:Sc):Wo:={mem:=Wjg s.1.1,shelf:=(WoI s.1.2.1,s.1.2.2),roots:=Xaa s.2.1.length {}}
def Wu6(s:Sc):Wo:=s.2.2.foldl (Wgu s) (Wgg s)
structure RMk(code:List Opn)(pc:Nat)(marks:List RM)(rl wl ul:Nat):Prop where
 pcs:marks.map (·.1)=(stk code pc).map λm:Nat=>(m:Int)
 each:∀q∈marks,Vals 4 q.2.2.2.2/\(0<=q.2.1/\q.2.1<=q.1+72*frk code q.1.toNat/\q.2.1<=rl)/\(0<=q.2.2.1/\q.2.2.1<=q.1+8/\q.2.2.1<=wl)/\0<=q.2.2.2.1/\q.2.2.2.1<=q.1/\q.2.2.2.1<=ul
 up:marks.Pairwise λa b=>a.2.1<=b.2.1/\a.2.2.1<=b.2.2.1/\a.2.2.2.1<=b.2.2.2.1
structure RLive(p:Pg)(n:Int)(x:Rt):Prop where
 pc:0<=x.pc/\x.pc<=p.1.length
 spare:0<=x.spare/\x.spare<=2
 rv:0<=x.rv/\x.rv<=1000000
 regs:Vals 4 x.regs
 reads:WcP x.reads
 rl:(x.reads.length:Int)<=x.pc+72*frk p.1 x.pc.toNat
 writes:WcP x.writes
 wl:(x.writes.length:Int)<=x.pc+8
 ul:(x.undos.length:Int)<=x.pc
 marks:RMk p.1 x.pc.toNat x.marks x.reads.length x.writes.length x.undos.length
 pb:x.busy=true->Wka x.pb=true
 fork:x.phase=2->x.pc<p.1.length/\(opN p.1 x.pc).1=11/\FOk p.2 n x.fam
 back:x.phase=3\/x.phase=4->x.marks.length≠0
 newRv:0<=x.newRv/\x.newRv<=1000000
 pos:x.phase=4->0<=x.pos/\x.pos<=x.last.2.1
 unw:x.phase=4->(x.undos.length:Int)<=x.last.2.2.2.1
structure ROk(p:Pg)(n:Int)(x:Rt):Prop where
 phase:0<=x.phase/\x.phase<=8
 tries:0<=x.tries/\x.tries<=n
 live:1<=x.phase/\x.phase<=4->RLive p n x
 comm:x.phase=5->CmOk x.cm
 undos:∀u∈x.undos,UnV u
 ul:x.undos.length<=24
 rg:x.regs.length<=4
 ord:x.order.length<=3
structure POk(p:Pg):Prop where
 code:CC p.1
 kids:∀c∈p.2,KC c
 k3:p.2.length<=3
def HE(h:Wr):Prop:=h.2.2.length<=8/\WcP h.2.2/\1<=h.2.1/\h.2.1<=9
structure WOk(ps:List Pg)(n:Int)(w:Wo):Prop where
 len:w.roots.length=ps.length
 l4:ps.length<=4
 progs:∀p∈ps,POk p
 now:w.now=n
 n0:0<=n
 mem:WZ w.mem=true
 shelf:ShOk w.shelf
 holds:HOk w.holds
 hist:(w.hist.length:Int)<=n
 histE:∀h∈w.hist,HE h
 root:∀(k:Nat) (h:k<w.roots.length),ROk (ps.getD k pg0) n w.roots[k]
end
section
theorem rtP(x:Rt):x.e.1=x.phase/\x.e.2.1=x.tries/\x.e.2.2.1=x.spare/\x.e.2.2.2.1=x.pc/\P4 x.e=x.rv/\P5 x.e=x.newRv/\P6 x.e=x.pos/\P7 x.e=x.fate/\P8 x.e=x.stamp/\P11 x.e=x.doomed/\P12 x.e=x.regs/\P13 x.e=x.reads/\P14 x.e=x.writes/\P15 x.e=x.marks/\P16 x.e=x.undos/\P18 x.e=x.busy/\P19 x.e=x.pb/\P20 x.e=x.cm.e/\Q21 x.e=x.fam.e/\P24 x.e=x.fam.lost/\P28 x.e=x.fam.order/\P29 x.e=x.fam.reads:=
 ⟨rfl,rfl,rfl,rfl,rfl,rfl,rfl,rfl,rfl,rfl,rfl,rfl,rfl,rfl,rfl,rfl,rfl,rfl,rfl,rfl,rfl,rfl⟩
theorem S5e(w:Wo)(k:Nat)(x:Rt):S5 (Xm (w.roots.map Rt.e) k x.e) w.e=Wo.e {w with roots:=w.roots.set k x}:=by
 unfold S5 Wo.e;rw[Xfq]
theorem WcU{w w':Wo}{k:Nat}{x':Rt}{y:Y_Root}{g:Y_World}(hy:y=x'.e)(hg:g=w'.e)(hr:w'.roots=w.roots):
  some ((S5 (Xm (w.roots.map Rt.e) k y) g,()),())=some (((Wo.put (w',x') k).e,()),()):=by
 subst hy hg;rw[←hr,S5e];rfl
variable{N:Nat}{w:Wo}{k:Nat}{x:Rt}{o:Opn}{p:Pg}{n:Int}{code:List Opn}
theorem woG(hk:k<w.roots.length)(aQ:w.roots[k]=x):Xb (w.roots.map Rt.e) k d_Root=x.e/\Xb (w.roots.map Rt.e) (Xa (k:Int)) d_Root=x.e/\S5 (Xm (w.roots.map Rt.e) (Xa (k:Int)) x.e) w.e=w.e/\inb (k:Int) (w.roots.map Rt.e).length=true/\S5 (Xm (w.roots.map Rt.e) k x.e) w.e=w.e:=by
 have h1:Xb (w.roots.map Rt.e) k d_Root=x.e:=by
  have:=Wf8 Rt.e w.roots k {};rw[Wh hk,aQ]at this;exact this
 have h2:S5 (Xm (w.roots.map Rt.e) k x.e) w.e=w.e:=by rw[S5e,←aQ,Xbq]
 rw[Xj];refine⟨h1,h1,h2,?_,h2⟩;rw[W5,Xy];exact decide_eq_true hk
theorem Woj(hk:k<w.roots.length)(aQ:w.roots[k]=x):Wo.put (w,x) k=w:=by
 unfold Wo.put;simp only;rw[←aQ,Xbq]
theorem WeE:Zbh N x.e=some (((Wdd x).e,()),()):=rfl
theorem Weo(hs:0<=x.spare/\x.spare<=2):Zde N x.e=some (((W0 x).e,()),()):=by
 obtain⟨r0,r1,r2,r3,r4,r5,r6,r7,r8,jD,iS,hQ,hY,iw,iy,km,kn,jE,jF,ko,kp,kq⟩:=rtP x;unfold Zde W0;simp only[Wv,iw,r2,Wb,WeE,Xd];by_cases h1:x.marks.length=0
 .rw[if_pos (by omega),if_pos (.inl h1)]
 .rw[if_neg (by omega)];by_cases h2:x.spare=2
  .rw[if_pos h2,if_pos (.inr h2)]
  .rw[if_neg h2,if_neg (by omega),WC (by unfold I64;omega)];rfl
theorem Wes{α:Type}{l:List α}(h:l.length≠0)(hl:l.length<=1000)(d:α):inb (WW .i64 (Wb l) 1) l.length=true/\Xb l (Xa (WW .i64 (Wb l) 1)) d=Wgx l d/\Xav (Xa (WW .i64 (Wb l) 1)) l=l.dropLast/\(decide ((0:Int)<=WW .i64 (Wb l) 1)&&decide (WW .i64 (Wb l) 1<=(l.length:Int)))=true:=by
 have e:WW .i64 (Wb l) 1=((l.length-1:Nat):Int):=by rw[WoC (by omega)];omega
 rw[e];refine⟨by rw[W5];exact decide_eq_true (by omega),by rw[Xj];rfl,by rw[Xj,List.dropLast_eq_take],by simp⟩
theorem WnX(h:x.marks.length≠0)(hl:x.marks.length<=1000):Zih N x.e=some ((x.e,()),(x.last,())):=by
 obtain⟨a,b,c,d⟩:=Wes h hl zRM;unfold Zih;rw[show x.e.2.2.2.2.2.2.2.2.2.2.2.2.2.2.2.1=x.marks from rfl,a];simp only[cond_true];rw[show((0:Int),((0:Int),((0:Int),((0:Int),([]:List Int)))))=zRM from rfl,b];rfl
theorem Wmn(h:x.marks.length≠0)(hl:x.marks.length<=1000):Zd6 N x.e=some ((),((x.last.1,(x.last.2.1,(x.last.2.2.1,x.last.2.2.2.1))),())):=by
 obtain⟨a,b,c,d⟩:=Wes h hl zRM;unfold Zd6;simp only[Wl];rw[show P15 x.e=x.marks from rfl,a];simp only[cond_true];rw[show((0:Int),((0:Int),((0:Int),((0:Int),([]:List Int)))))=zRM from rfl,b];rfl
theorem WkE(hk:k<w.roots.length)(aQ:w.roots[k]=x)(hz:x.undos.length≠0)(hl:x.undos.length<=1000)(hu:∀u∈x.undos,UnV u)(hs:ShOk w.shelf)(hN:1048576<N):
  Zci N w.e k=some (((Wo.put (Wd3 w x) k).e,()),()):=by
 obtain⟨g1,g2,g3,g4,g5⟩:=woG hk aQ;obtain⟨a,b,c,d⟩:=Wes hz hl ((0,0,0):Un);have hmem:Wgx x.undos ((0,0,0):Un)∈x.undos:=by
  unfold Wgx;rw[Wh (show x.undos.length-1<x.undos.length by omega)];exact Xo _
 unfold Zci Wd3;simp only[Wl];rw[show P5 w.e=w.roots.map Rt.e from rfl,g1];rw[show x.e.2.2.2.2.2.2.2.2.2.2.2.2.2.2.2.2.1=x.undos from rfl,a,b,show w.e.2.2.2.1=w.shelf from rfl,WhL hs (hu _ hmem) hN,c];simp only[cond_true,Xd,d];exact WcU rfl rfl rfl
theorem Wqf(hk:k<w.roots.length)(aQ:w.roots[k]=x)(lN:k<=1000):Zgt N w.e (k:Int)=some (((Wo.put (Wk4 w x k) k).e,()),()):=by
 obtain⟨g1,g2,g3,g4,g5⟩:=woG hk aQ;unfold Zgt Wk4;simp only[Wl];rw[show P5 w.e=w.roots.map Rt.e from rfl,g4,g2,Wcs (by omega),Xj];simp only[cond_true,Wv];rw[show w.e.2.1=w.token from rfl];by_cases h:w.token=(k:Int)+1
 .rw[if_pos h];simp only[if_pos h];exact WcU rfl rfl rfl
 .rw[if_neg h];simp only[if_neg h];exact WcU rfl rfl rfl
theorem Wlq(hk:k<w.roots.length)(aQ:w.roots[k]=x)(lN:k<=8)(hh:HOk w.holds)(ir:0<=x.rv/\x.rv<=1000000)(hr:WaL x.reads=true)(hw:WaL x.writes=true){out:Int}(hN:1048576<N):
  Zg8 N w.e (k:Int) out=some (((Wo.put (WbS w x k out) k).e,()),()):=by
 obtain⟨g1,g2,g3,g4,g5⟩:=woG hk aQ;obtain⟨r0,r1,r2,r3,r4,r5,r6,r7,r8,jD,iS,hQ,hY,iw,iy,km,kn,jE,jF,ko,kp,kq⟩:=rtP x;have rF:=WjJ hh;have ss:∀y:Rt,Zgt N (S5 (Xm (w.roots.map Rt.e) (Xa (k:Int)) y.e) w.e) (k:Int)=some (((Wo.put (Wk4 w y k) k).e,()),()):=λy=>by
  rw[Xj,S5e];have h1:k<({w with roots:=w.roots.set k y}:Wo).roots.length:=by simpa using hk
  rw[Wqf (x:=y) h1 (by simp) (by omega)];unfold Wk4 Wo.put;simp only[Xej]
 unfold Zg8 WbS;simp only[Wl];rw[show P5 w.e=w.roots.map Rt.e from rfl,g4,g2,Wcs (by omega),show P4 w.e=w.holds from rfl];have ua:∀{α:Type} (a b:α),(bif ((0:Int)==(0:Int))then a else b)=a:=λ_ _=>rfl;have qW:∀{α:Type} (a b:α),(bif ((0:Nat)==(0:Nat))then a else b)=a:=λ_ _=>rfl;simp only[ua,qW];simp only[cond_true,Wv,r4,hQ,hY,Wh8 (who:=(k:Int)+1) hh (by omega) hN,ret,Xd,Wb];have oU:∀rows,WaL rows=true->Zet N ((k:Int)+1) x.rv rows x.reads=some ((),((Wcv ((k:Int)+1) x.rv rows x.reads).e,(true,()))):=λrows dn=>Wuq (by omega) ir dn hr hN;have bB:Zet N ((k:Int)+1) x.rv ([]:List Kc) x.reads=some ((),((Wcv ((k:Int)+1) x.rv [] x.reads).e,(true,()))):=oU [] rfl;have aM:(S8 x.rv (S7 out x.e))=Rt.e {x with fate:=out,stamp:=x.rv}:=rfl;rw[bB,oU _ hw,aM,ss];simp only[Xd];by_cases ho:out=2
 .rw[if_pos ho,if_pos ho];by_cases hz:(Wfb w.holds ((k:Int)+1)).length=0
  .rw[if_pos (by omega),if_pos ⟨rfl,hz⟩]
  .rw[if_neg (by omega),if_neg (λh=>hz h.2),Xj];exact WcU rfl rfl rfl
 .rw[if_neg ho,if_neg ho];by_cases hy:x.writes.length=0
  .rw[if_pos (by omega)];by_cases hz:(Wfb w.holds ((k:Int)+1)).length=0
   .rw[if_pos (by omega),if_pos ⟨hy,hz⟩]
   .rw[if_neg (by omega),if_neg (λh=>hz h.2),Xj];exact WcU rfl rfl rfl
  .rw[if_neg (by omega),if_neg (λh=>hy h.1),Xj];exact WcU rfl rfl rfl
theorem Wmz{l:List Rw}(h:WcP l)(hl:l.length<=300):WaL l=true:=by
 unfold WaL;rw[Whn.2 h,decide_eq_true hl];rfl
theorem Wnr(hc:CC code):∀j,j<=code.length->frk code j<=1
 |0,_=>by simp[frk]
 |j+1,h=>by
  have hj:j<code.length:=by omega
  by_cases dr:code[j].1=11
  .exact(hc.fk j hj dr).2
  .rw[Whk hj,show(code[j].1==11)=false by simpa using dr];have:=Wnr hc j (by omega);simpa using this
theorem RLive.sz(hc:CC p.1)(h:RLive p n x):x.reads.length<=96/\x.writes.length<=32/\x.undos.length<=24/\x.marks.length<=24/\WaL x.reads=true/\WaL x.writes=true:=by
 have h1:=h.pc;have h2:=hc.len;have h3:=Wnr hc x.pc.toNat (by omega);have h4:=h.rl;have h5:=h.wl;have h6:=h.ul;have h7:=congrArg Xc h.marks.pcs;simp only[Xy]at h7;have h8:=Wbx hc.up x.pc.toNat (by omega);have h9:=(Wdk p.1 x.pc.toNat).2;exact⟨by omega,by omega,by omega,by omega,Wmz h.reads (by omega),Wmz h.writes (by omega)⟩
theorem WqZ(hb:x.busy=true->Wka x.pb=true){c:Int}(hc:0<=c/\c<=7):Wka (if x.busy then x.pb else(c,0,0,0))=true:=by
 split
 .exact hb ‹_›
 .rw[WeJ];simp only;omega
theorem WsU(hk:k<w.roots.length)(aQ:w.roots[k]=x)(hc:CC p.1)(hx:RLive p n x)(hm:WZ w.mem=true)(h5:o.1=5)(ho:Wan o=true)(hN:1048576<N):
  Zjt N w.e k o=some (((Wo.put (w,Weu w x o) k).e,()),()):=by
 obtain⟨g1,g2,g3,g4,g5⟩:=woG hk aQ;obtain⟨r0,r1,r2,r3,r4,r5,r6,r7,r8,jD,iS,hQ,hY,iw,iy,km,kn,jE,jF,ko,kp,kq⟩:=rtP x;obtain⟨z1,z2,z3,z4,z5,z6⟩:=hx.sz hc;obtain⟨hA,hB⟩:=WtZ ho h5;have hB':0<=o.2.2.1/\o.2.2.1<=7:=by unfold W2 at hB;simpa using hB
 have dx:=hx.regs.len;have bf:=hx.pc;have hcl:=hc.len;have iW:=hx.spare;unfold Zjt Weu;simp only[Wl];rw[show P5 w.e=w.roots.map Rt.e from rfl,g1,show w.e.2.2.1=w.mem from rfl];simp only[r3,r4,iS,hQ,hY,km,kn];rw[Wd2 (by omega) hN,WaX hA dx,Wcs (by omega)];cases hl:WaH x.writes o.2.2.1 with
 |some v=>
  simp only[opI,Xd,cond_true];exact WcU rfl rfl rfl
 |none=>
  have aA:WA (x.reads.length+ [(o.2.2.1,(0:Int))].length)=true:=Ww (by simp;omega);have kN:Zfk N o.2.2.1=some ((),((o.2.2.1,0,0,0),(true,()))):=by
   unfold Zfk;rw[Wn,hB];rfl
  have ib:=WqZ hx.pb hB';have qX:S18 true x.e=Rt.e {x with busy:=true}:=rfl;simp only[opI,Xd,cond_false,Wv,kN,qX];have dX:∀q:Pb,S19 q (Rt.e {x with busy:=true})=Rt.e {x with busy:=true,pb:=q}:=λq=>rfl;simp only[dX,Weo (x:={x with busy:=true,pb:=_}) iW];cases hb:x.busy with
  |false=>
   rw[hb]at ib;simp only[Xbp,if_false]at ib;rw[WeK hm ib hN];simp only[Xdv,cond_true,ret,Xd,Xbp,if_false];generalize WO w.mem x.rv (o.2.2.1,0,0,0)=q;by_cases h4:q.2.1=4
   .rw[if_pos h4,if_pos h4];exact WcU rfl rfl rfl
   .rw[if_neg h4,if_neg h4];by_cases h3:q.2.1=3
    .rw[if_pos h3,if_pos h3,Ww (by simp;omega)];exact WcU rfl rfl rfl
    .rw[if_neg h3,if_neg h3];exact WcU rfl rfl rfl
  |true=>
   have bq:∀q:Pb,S19 q x.e=Rt.e {x with busy:=true,pb:=q}:=λq=>by
    have:S19 q x.e=Rt.e {x with pb:=q}:=rfl;rw[this]
    conv=>lhs;rw[show({x with pb:=q}:Rt)={x with busy:=x.busy,pb:=q}from rfl,hb]
   rw[hb]at ib;simp only[if_true]at ib;rw[WeK hm ib hN];simp only[Xs,cond_false,ret,Xd,if_true,bq,Weo (x:={x with busy:=true,pb:=_}) iW];generalize WO w.mem x.rv x.pb=q;by_cases h4:q.2.1=4
   .rw[if_pos h4,if_pos h4];exact WcU rfl rfl rfl
   .rw[if_neg h4,if_neg h4];by_cases h3:q.2.1=3
    .rw[if_pos h3,if_pos h3,Ww (by simp;omega)];exact WcU rfl rfl rfl
    .rw[if_neg h3,if_neg h3];exact WcU rfl rfl rfl
end
end Go.Sx
