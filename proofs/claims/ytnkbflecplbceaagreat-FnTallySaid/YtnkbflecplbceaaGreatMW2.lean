/- Plain laws of the Lean functions. -/
import Derived.Test.YtnkbflecplbceaaGreatMW1
open Bool renaming and_eq_true→Xh,not_true→Xaa,and_self→Xbt,true_and→Xbf,false_eq_true→Xam,and_eq_false_iff→Xco,not_false→Xdn
open List renaming getElem_mem→Xw,getD→Xd,map_append→Xq,mem_append→Xn,mem_singleton→Xac,pairwise_append→Xag,length→Xa,length_map→Xaf,mem_of_getElem?→Xaw,take→Xat,getElem?_eq_getElem→Xp,foldl_cons→Xcm,length_cons→Xr,mem_cons_of_mem→Xf,mem_cons_self→Xi,drop_length→Xda,set→Xl,drop_eq_getElem_cons→Xbs,append_eq→Xah,append_nil→Xcn,filter_cons→Xbl,countP_le_length→Xdh,drop_zero→Xca,map_set→Xfw,set_getElem_self→Xbh,length_set→Xab,countP_set→Xhb,getElem_set→Xaq,mem_map→Xu,mem_filter→Xau,length_append→Xz,length_singleton→Xdv,length_nil→Xee,pairwise_map→Xem,getElem_replicate→Xbp,append_assoc→Xbu,singleton_append→Xev,append→Xe,set_set→Xdo,nil_append→Xcb,replicate→Xt,getD_eq_getElem?_getD→Xay,all_eq_true→Xae,pairwise_iff_getElem→Xba,getElem_of_mem→Xas,mem_cons→Xo,drop→Xdd,filter_eq_self→Xgn
open Int renaming toNat→Xb,le_refl→Xv,toNat_natCast→Xj,tdiv_eq_ediv_of_nonneg→Xeb
open Nat renaming zero_add→Xbb,sub_zero→Xdc,le_refl→Xm,lt_trichotomy→Xel
open Option renaming bind_some→Xc,getD_some→Xdw,isSome_some→Xfj
namespace Go.Sx
set_option linter.unusedVariables false
set_option linter.unusedSimpArgs false
section
theorem WeX{p:Pb}:WkN p=true↔(0<=p.1/\p.1<=7)/\(0<=p.2.1/\p.2.1<=4)/\(0<=p.2.2.1/\p.2.2.1<=1000000)/\0<=p.2.2.2/\p.2.2.2<=65535:=by
 unfold WkN W7 Wbk;simp only[Xh,decide_eq_true_eq]
theorem Wdp{c:Int}{w:Wd}:WqD c w=true↔(0<=w.1/\w.1<=65535)/\(0<=w.2.1/\w.2.1<=c)/\0<=w.2.2/\w.2.2<=99:=by
 unfold WqD Wbk;simp only[Xh,decide_eq_true_eq]
theorem WsA{m:Mm}(h:W0 m=true){c:Int}(hc:0<=c/\c<=7):WqD m.1 (Wce m.2 c (0,0,0))=true:=by
 obtain⟨h8,h0,h1,hw⟩:=WB h;unfold Wce;rw[Wf (show c.toNat<m.2.length by omega)];exact hw _ (Xw _)
theorem Wm6{m:Mm}{rv:Int}{p:Pb}(hm:W0 m=true)(hp:WkN p=true):WkN (WZ m rv p)=true/\(WZ m rv p).1=p.1:=by
 have c8:=WeX.1 hp;have hw:=WsA hm c8.1;rw[Wdp]at hw;obtain⟨h8,h0,h1,_⟩:=WB hm;unfold WZ;simp only[Wt,Wat];have xt:WqD m.1 (Xd m.2 (Xb p.1) (0,0,0))=true:=WsA hm c8.1;rw[Wdp]at xt;refine⟨?_,?_⟩
 .rw[WeX]
  repeat' split
  all_goals(try simp only);omega
 .repeat' split
  all_goals rfl
section
variable{code:List Opn}{pc cz wl kB:Nat}{ms q:List KM}{y:KM}{c c' n n':Int}{x:Kd}{f:Fm}{m:Mm}{codes:List (List Opn)}{k:Nat}
theorem KMk.mono(h:KMk code pc ms wl)(hs:stk code cz=stk code pc)(hw:wl<=kB):KMk code cz ms kB:=
 ⟨by rw[hs];exact h.pcs,λq hq=>by have:=h.each q hq;exact⟨this.1,this.2.1,this.2.2.1,by omega⟩,h.up⟩
theorem KMk.begin(h:KMk code pc ms wl)(hp:pc<code.length)(h8:code[pc].1=8){regs:List Int}(hr:Vals 4 regs)(hw:wl<=pc):KMk code (pc+1) (ms++ [((pc:Int),(wl:Int),regs)]) wl:=by
 refine⟨?_,?_,?_⟩
 .rw[Wjg hp h8,Xq,Xq,h.pcs];rfl
 .intro q hq;rcases Xn.1 hq with hq|hq
  .exact h.each q hq
  .rw[Xac]at hq;subst hq;exact⟨hr,by simp,by simpa using hw,by simp⟩
 .refine Xag.2 ⟨h.up,List.pairwise_singleton _ _,λa ha b hb=>?_⟩;rw[Xac]at hb;subst hb;exact(h.each a ha).2.2.2
theorem KMk.drop(h:KMk code pc ms wl)(qo:ms=q++ [y])(hs:stk code cz=(stk code pc).dropLast)(hw:y.2.1<=kB):KMk code cz q kB:=by
 subst qo;have h1:=h.pcs;refine⟨?_,λa ha=>?_,(Xag.1 h.up).1⟩
 .rw[hs,List.map_dropLast,←h1,Xq];simp
 .have h2:=h.each a (List.mem_append_left _ ha);have h3:=(Xag.1 h.up).2.2 a ha y (by simp);exact⟨h2.1,h2.2.1,h2.2.2.1,by omega⟩
theorem KOk.wk(h:KOk code c n x)(hc:c<=c')(hn:n<=n'):KOk code c' n' x:=
 {h with since:=by have:=h.since;omega,tries:=by have:=h.tries;omega}
theorem WoI(h:KOk code c n x)(hc:c=f.clock)(hf:Vals 4 f.regs)(h0:0<=f.clock):KOk code c (n+1) (f.again x) where
 pc:=⟨Xv _,by show(0:Int)<=_;omega⟩
 regs:=hf
 rows:=λr hr=>by cases hr
 wl:=Xv _
 sl:=Xv _
 since:=by show 0<=f.clock/\f.clock<=c;omega
 tries:=by have:=h.tries;show 0<=x.tries+1/\x.tries+1<=n+1;omega
 seen:=λe he=>by cases he
 marks:=λ_=>⟨by show([]:List KM).map _=(stk code 0).map _;rfl,(λq hq=>by cases hq),List.Pairwise.nil⟩
 pos:=⟨Xv _,Xv _⟩
 pb:=λh=>by cases h
 phase:=by show(0:Int)<=0/\(0:Int)<=3;omega
 out:=by show(0:Int)<=0/\(0:Int)<=2;omega
theorem KMk.len(hc:CC code)(h:KMk code pc ms wl)(hp:pc<=code.length):(ms.length:Int)=dep code pc:=by
 have:=congrArg Xa h.pcs;simp only[Xaf]at this;rw[this,Wbw hc.up pc hp]
theorem KOk.on(aD:CC code)(h:KOk code c n x)(h0:x.phase=0){i:Nat}(hi:i<code.length)(aQ:x.pc=i){regs:List Int}{seen:List En}{writes:List Rw}{marks:List KM}{busy:Bool}{pb:Pb}{cz:Nat}(hp:cz<=code.length)(hlt:i<cz)(hr:Vals 4 regs)(hrow:Wi6 writes)(pu:writes.length<=x.writes.length+1)(hsl:seen.length<=x.seen.length+1)
  (hs:∀e∈seen,(0<=e.1/\e.1<=7)/\(0<=e.2.1/\e.2.1<=65535)/\ -1<=e.2.2/\e.2.2<=x.since) (hse:x.seen.length<=seen.length) (hm:KMk code cz marks writes.length) (hb:busy=true->WkN pb=true):
  KOk code c n {x with regs:=regs,seen:=seen,writes:=writes,marks:=marks,busy:=busy,pb:=pb,pc:=(cz:Int)}:=
 {h with
  pc:=by show(0:Int)<=(cz:Int)/\(cz:Int)<=_;omega
  regs:=hr
  rows:=hrow
  wl:=by have:=h.wl;show(writes.length:Int)<=(cz:Int);omega
  sl:=by have:=h.sl;show(seen.length:Int)<=(cz:Int);omega
  seen:=hs
  marks:=λ_=>by show KMk code ((cz:Nat):Int).toNat marks writes.length;rw[Xj];exact hm
  pos:=by have:=h.pos;show 0<=x.pos/\x.pos<=(seen.length:Int);omega
  pb:=hb}
theorem WtW(aD:CC code)(hF:FOk codes n f)(h:KOk code f.clock n x)(h0:x.phase=0){i:Nat}(hi:i<code.length)(aQ:x.pc=i)(h5:code[i].1=5)(hm:W0 m=true):
  KOk code f.clock (n+1) (Web m f x code[i]).2/\((Web m f x code[i]).1=f\/(Web m f x code[i]).1={f with lost:=true}):=by
 have aM:=Wv5 (aD.ok i hi).1 h5;have hB:0<=code[i].2.2.1/\code[i].2.2.1<=7:=by have:=aM.2;unfold W7 at this;simpa using this
 have hM:=h.marks h0;rw[aQ,Xj]at hM;have aJ:stk code (i+1)=stk code i:=Wgi hi (by omega) (by omega);have bV:x.pc+1=((i+1:Nat):Int):=by omega
 unfold Web;cases hl:Wbf x.writes code[i].2.2.1 with
 |some v=>
  have hv:=h.rows _ (Wiw hl).2;refine⟨?_,.inl rfl⟩;simp only[bV];exact(KOk.on aD h h0 hi aQ (by omega) (by omega) (h.regs.set _ hv.2) h.rows (by omega) (by omega) h.seen (by omega) (hM.mono aJ (by omega)) h.pb).wk (by omega) (by omega)
 |none=>
  simp only;cases he:ent f.buf code[i].2.2.1 with
  |some r=>
   simp only;have hr:=WcO he;have mx:r.2∈f.buf:=by
    have:=hr.2.2.2;exact Xaw this
   have gP:=hF.bufE _ mx;split
   .exact⟨WoI h rfl hF.regs hF.clock.1,.inl rfl⟩
   .refine⟨?_,.inl rfl⟩;simp only[bV];refine(KOk.on aD h h0 hi aQ (by omega) (by omega) (h.regs.set _ gP.2.1) h.rows (by omega) (by simp) (λe cT=>?_) (by simp) (hM.mono aJ (by omega)) h.pb).wk (by omega) (by omega);rcases Xn.1 cT with cT|cT
    .exact h.seen e cT
    .rw[Xac]at cT;subst cT;exact⟨gP.1,gP.2.1,by omega,by omega⟩
  |none=>
   simp only;have gB:WkN (if x.busy=true then x.pb else(code[i].2.2.1,0,0,0))=true:=by
    split
    .exact h.pb ‹_›
    .rw[WeX];simp only;omega
   have bN:=Wm6 (rv:=f.rv) hm gB;generalize WZ m f.rv (if x.busy=true then x.pb else(code[i].2.2.1,0,0,0))=p at*;have hp:=WeX.1 bN.1;split
   .refine⟨?_,.inr rfl⟩;exact KOk.wk (n:=n) {h with pb:=λ_=>bN.1} (by omega) (by omega)
   .split
    .refine⟨?_,.inl rfl⟩;simp only[bV];refine(KOk.on aD h h0 hi aQ (by omega) (by omega) (h.regs.set _ hp.2.2.2) h.rows (by omega) (by simp) (λe cT=>?_) (by simp) (hM.mono aJ (by omega)) (λh=>by cases h)).wk (by omega) (by omega);rcases Xn.1 cT with cT|cT
     .exact h.seen e cT
     .rw[Xac]at cT;subst cT;exact⟨hB,hp.2.2.2,by simp,by have:=h.since;simp only;omega⟩
    .refine⟨?_,.inl rfl⟩;exact KOk.wk (n:=n) {h with pb:=λ_=>bN.1} (by omega) (by omega)
theorem Wvr(bb:KC code)(hF:FOk codes n f)(h:KOk code f.clock n x)(h0:x.phase=0)(hm:W0 m=true):
  KOk code f.clock (n+1) (WqG m f x code).2/\((WqG m f x code).1=f\/(WqG m f x code).1={f with lost:=true}):=by
 have aD:=bb.toCC;unfold WqG;split
 .refine⟨?_,.inl rfl⟩;exact KOk.wk (n:=n) {h with marks:=λh=>by(change (1:Int)=0 at h;omega),phase:=by(show(0:Int)<=1/\(1:Int)<=3;omega),out:=by(show(0:Int)<=1/\(1:Int)<=2;omega)} (by omega) (by omega)
 .obtain⟨i,hi,aQ,ho⟩:=Wfm (l:=code) h.pc.1 (by have:=h.pc;omega);simp only[ho];obtain⟨ok,o1,iI⟩:=bb.ok i hi;have cg:=bb.k10 i hi;have hM:=h.marks h0;rw[aQ,Xj]at hM;have bV:x.pc+1=((i+1:Nat):Int):=by omega
  have pu:x.writes.length<=i:=by have:=h.wl;omega
  split
  .exact WtW aD hF h h0 hi aQ ‹_› hm
  .split
   .refine⟨?_,.inl rfl⟩;unfold Wio;split
    .refine KOk.wk (n:=n) {h with rows:=(λr hr=>by cases hr),wl:=by(have:=h.pc;show(0:Int)<=x.pc;omega),marks:=λh=>by(change (1:Int)=0 at h;omega),phase:=by(show(0:Int)<=1/\(1:Int)<=3;omega),out:=by(show(0:Int)<=2/\(2:Int)<=2;omega)} (by omega) (by omega)
    .obtain⟨j,q,y,e1,e2,e3,⟨hj,h8⟩,pt,cL,fM,e5,e6⟩:=WhB (d:=((0,0,[]):KM)) aD (show i<=code.length by omega) hM.pcs ‹_›;obtain⟨y1,y2,y3,y4⟩:=hM.each y (by rw[e1];simp);simp only[e2,e3,Xj,←Int.natCast_succ];have hl:=cL.len;have ht:(Xat y.2.1.toNat x.writes).length=y.2.1.toNat:=by rw[List.length_take];omega
     refine(KOk.on aD h h0 hi aQ (cz:=WiI code j+1) (by omega) (by omega) (y1.set _ (by omega)) (λr hr=>h.rows r (List.mem_of_mem_take hr)) (by omega) (by omega) h.seen (by omega) ?_ h.pb).wk (by omega) (by omega);rw[show x.marks.dropLast=q by rw[e1];simp];exact hM.drop e1 (by rw[cL.st];exact e5) (by rw[ht];omega)
   .split
    .refine⟨?_,.inl rfl⟩;have hk:=WwI ok ‹_›;have aJ:stk code (i+1)=stk code i:=Wgi hi (by omega) (by omega);simp only[bV];refine(KOk.on aD h h0 hi aQ (by omega) (by omega) h.regs (λr hr=>?_) (by simp) (by omega) h.seen (by omega) (hM.mono aJ (by simp)) h.pb).wk (by omega) (by omega);rcases Xn.1 hr with hr|hr
     .exact h.rows r hr
     .rw[Xac]at hr;subst hr;have:=hk.1;unfold W7 at this;exact⟨by simpa using this,h.regs.get _⟩
    .split
     .refine⟨?_,.inl rfl⟩;obtain⟨s1,s2⟩:=bb.sk i hi ‹_›;have hk:=Wv2 ok ‹_›;have aJ:stk code (i+1)=stk code i:=Wgi hi (by omega) (by omega);have pw:stk code (i+1+code[i].2.2.1.toNat)=stk code i:=by rw[←aJ];exact Wpf (by omega) s1 s2
      by_cases hg:Wce x.regs code[i].2.1 0=0
      .simp only[if_pos hg,show x.pc+code[i].2.2.1+1=((i+1+code[i].2.2.1.toNat:Nat):Int) by omega];exact(KOk.on aD h h0 hi aQ s1 (by omega) h.regs h.rows (by omega) (by omega) h.seen (by omega) (hM.mono pw (by omega)) h.pb).wk (by omega) (by omega)
      .simp only[if_neg hg,bV];exact(KOk.on aD h h0 hi aQ (by omega) (by omega) h.regs h.rows (by omega) (by omega) h.seen (by omega) (hM.mono aJ (by omega)) h.pb).wk (by omega) (by omega)
     .split
      .refine⟨?_,.inl rfl⟩;simp only[bV];rw[aQ];exact(KOk.on aD h h0 hi aQ (by omega) (by omega) h.regs h.rows (by omega) (by omega) h.seen (by omega) (hM.begin hi ‹_› h.regs pu) h.pb).wk (by omega) (by omega)
      .split
       .refine⟨?_,.inl rfl⟩;have hz:x.marks.length≠0:=by
         have h1:=hM.len aD (by omega);have h3:=aD.up i hi;rw[WaE hi,Wko ‹_›]at h3;omega
        obtain⟨j,q,y,e1,e2,e3,⟨hj,h8⟩,pt,cL,fM,e5,e6⟩:=WhB (d:=((0,0,[]):KM)) aD (show i<=code.length by omega) hM.pcs hz;obtain⟨y1,y2,y3,y4⟩:=hM.each y (by rw[e1];simp);simp only[bV];refine(KOk.on aD h h0 hi aQ (by omega) (by omega) (h.regs.set _ (by omega)) h.rows (by omega) (by omega) h.seen (by omega) ?_ h.pb).wk (by omega) (by omega);rw[show x.marks.dropLast=q by rw[e1];simp];exact hM.drop e1 (WkW hi ‹_›) (by omega)
       .refine⟨?_,.inl rfl⟩;have aJ:stk code (i+1)=stk code i:=Wgi hi (by omega) (by omega);simp only[bV];exact(KOk.on aD h h0 hi aQ (by omega) (by omega) (WkU ok (by omega) (by omega) h.regs) h.rows (by omega) (by omega) h.seen (by omega) (hM.mono aJ (by omega)) h.pb).wk (by omega) (by omega)
end
end
section
def Wfx(c:Int)(v:List En)(r:Rw):List En:=match ent v r.1 with
 |some a=>v.set a.1 (r.1,r.2,c)
 |none=>v++ [(r.1,r.2,c)]
theorem Wm0(c:Int)(v:List En)(r:Rw):(Wfx c v r).length<=v.length+1:=by
 unfold Wfx;split<;>simp
theorem apE{a b:En}:Ap cfE a b↔a.1≠b.1:=by unfold Ap cfE;omega
theorem Wru{c:Int}{L M:List En}{r:Rw}(hL:L.Pairwise (Ap cfE))(hM:Ris cfE M)(hm:∀x,x∈L↔x∈M):
  (Wfx c L r).Pairwise (Ap cfE)/\Ris cfE (WfM cfE M (r.1,r.2,c))/\∀x,x∈Wfx c L r↔x∈WfM cfE M (r.1,r.2,c):=by
 have key:(Wfx c L r).Pairwise (Ap cfE)/\∀x,x∈Wfx c L r↔x=(r.1,r.2,c)\/(x∈L/\Ap cfE x (r.1,r.2,c)):=by
  unfold Wfx ent;cases he:fnd (λe:En=>e.1==r.1) L 0 with
  |some a=>
   obtain⟨h1,h2,h3,h4⟩:=WcO he;simp only[Xbb,Xdc]at h3 h4;have h5:L[a.1]=a.2:=by rw[Xp h3]at h4;injection h4
   exact Wme Wv1 hL h3 (by rw[apE,h5];simpa using h1)
  |none=>
   have:=Wh0 he;exact WjK hL λx hx=>by rw[apE];simpa using this x hx
 refine⟨key.1,WcV Wv1 hM,λx=>?_⟩;rw[key.2 x,WbJ Wv1 hM,hm]
theorem WsG{c:Int}:∀{rows:List Rw} {L M:List En},L.Pairwise (Ap cfE)->Ris cfE M->(∀x,x∈L↔x∈M)->
  (rows.foldl (Wfx c) L).Pairwise (Ap cfE)/\Ris cfE (WdN c M rows)/\∀x,x∈rows.foldl (Wfx c) L↔x∈WdN c M rows
 | [],_,_,hL,hM,hm=>⟨hL,hM,hm⟩
 |r::rows,L,M,hL,hM,hm=>by
  obtain⟨a,b,d⟩:=Wru (c:=c) (r:=r) hL hM hm;exact WsG (rows:=rows) a b d
theorem Wnf{c:Int}:∀(rows:List Rw) (L:List En),(rows.foldl (Wfx c) L).length<=L.length+rows.length
 | [],L=>by simp
 |r::rows,L=>by
  have:=Wnf (c:=c) rows (Wfx c L r);have:=Wm0 c L r;rw[Xcm,Xr];omega
theorem Wem{c:Int}{P:En->Prop}:∀{rows:List Rw} {M:List En},Ris cfE M->(∀x∈M,P x)->(∀r∈rows,P (r.1,r.2,c))->∀x∈WdN c M rows,P x
 | [],_,_,h,_=>h
 |r::rows,M,hM,h,hr=>by
  refine Wem (rows:=rows) (WcV Wv1 hM) (λx hx=>?_) λr' h'=>hr r' (Xf _ h');rcases(WbJ Wv1 hM).1 hx with rfl|h'
  .exact hr r (Xi ..)
  .exact h x h'.1
theorem WoZ{R:Type}{N:Nat}{k4:Int}{b7 b8 b9:Int}{aS:Bool}{bc cj bo bI bn aC:Int}{cV:Bool}{bR dF du gV:Int}{bS:List Kc}{cC:List Int}{cW:List Kc}{gW:List Int}{da:List Kc}{fF:List Y_KidRun}{gX:Nat}{eF:List Int}{eG:List Kb}{eH:List Kc}{cE:List Kk}{K0:Int->Bool->Kt->Option R}(hN:1048576<N)(vv:bS.length<=8):
  ∀(d j n:Nat) (v:List En),j+d=bS.length->d<n->v.length<=100+j->
  Zaz N k4 (Wb bS) b7 b8 b9 aS bc cj bo bI bn aC cV bR dF du gV bS cC cW gW da fF gX eF eG eH cE K0 n (j:Int) v=K0 (bS.length:Int) false ((bS.drop j).foldl (Wfx b8) v)
 |0,j,n+1,v,hj,hn,hv=>by
  have:j=bS.length:=by omega
  subst this;simp only[Zaz,Wau (Xm bS.length),cond_false,Xda,List.foldl_nil]
 |d+1,j,n+1,v,hj,hn,hv=>by
  have hlt:j<bS.length:=by omega
  have mc:=Wfv (N:=N) (f:=(b7,(b8,(b9,(aS,(cC,(cW,(v,(gW,(da,Xl fF gX (bc,(cj,(bo,(bI,(bn,(aC,(eF,(eG,(eH,(cE,(cV,(bR,(dF,(du,gV)))))))))))))))))))))))) (c:=bS[j].1) (by show v.length<=1048576;omega) hN;have hs:=Wm0 b8 v bS[j];have bd:∀v',v'=Wfx b8 v bS[j]->Zaz N k4 (Wb bS) b7 b8 b9 aS bc cj bo bI bn aC cV bR dF du gV bS cC cW gW da fF gX eF eG eH cE K0 n ((j+1:Nat):Int) v'=K0 (bS.length:Int) false ((bS.drop j).foldl (Wfx b8) v):=λv' y9=>by
   subst y9;rw[WoZ hN vv d (j+1) n _ (by omega) (by omega) (by omega),Xbs hlt,Xcm]
  simp only[Zaz,Wq,Waa hlt,Wn hlt,Ws hlt,Wg (show j<4611686018427387904 by omega),cond_true,mc,ret,Xc];have hd:ent v bS[j].1=ent v bS[j].1:=rfl;unfold Wfx at bd;cases he:ent v bS[j].1 with
  |some a=>
   rw[he]at bd;obtain⟨h1,h2,h3,h4⟩:=WcO he;rw[Xbb]at h3;simp only[decide_eq_true (show((a.1:Int)>=0) by omega),cond_true];rw[W3,decide_eq_true h3];simp only[cond_true,Xj];exact bd _ rfl
  |none=>
   rw[he]at bd;simp only[show decide ((-1:Int)>=0)=false from rfl,cond_false];rw[Wv (by simp;omega)];simp only[cond_true,Xah];exact bd _ rfl
 |_,_,0,_,_,h,_=>by omega
theorem Wk1{R:Type}{N:Nat}{jt cD dv dw:Int}{dx:Bool}{dy fa fb fe ff jv:Int}{jw:Bool}{jx jy jz jA:Int}{cX:List Kb}{jB:List Int}{jC:List Kc}{jD:List Kb}{jE:List Int}{jF:List Y_KidRun}{jG:Nat}{dz:List Int}{dA:List Kc}{dB:List Kk}{K0:Int->Bool->Ky->Option R}(xu:cX.length<=1000):
  ∀(d j n:Nat) (v:List Rw),j+d=cX.length->d<n->v.length<=1000+j->
  Za8 N jt (Wb cX) cD dv dw dx dy fa fb fe ff jv jw jx jy jz jA cX jB jC jD jE jF jG dz dA dB K0 n (j:Int) v=K0 (cX.length:Int) false (v++Wa8 (cX.drop j))
 |0,j,n+1,v,hj,hn,hv=>by
  have:j=cX.length:=by omega
  subst this;simp only[Za8,Wau (Xm cX.length),cond_false,Xda,Wa8,List.filter_nil,List.map_nil,Xcn]
 |d+1,j,n+1,v,hj,hn,hv=>by
  have hlt:j<cX.length:=by omega
  have he:Wa8 (cX.drop j)=if cX[j].2.2= -1 then(cX[j].1,cX[j].2.1)::Wa8 (cX.drop (j+1))else Wa8 (cX.drop (j+1)):=by
   rw[Xbs hlt];unfold Wa8;rw[Xbl];by_cases h:cX[j].2.2= -1
   .rw[if_pos h,if_pos (decide_eq_true h)];rfl
   .rw[if_neg h,if_neg (by simpa using h)]
  simp only[Za8,Wq,Waa hlt,Wn hlt,Ws hlt,Wg (show j<4611686018427387904 by omega),cond_true,Wt];rw[he];by_cases h:cX[j].2.2= -1
  .rw[if_pos h,if_pos h,Wv (by simp;omega)];simp only[cond_true];rw[Wk1 xu d (j+1) n _ (by omega) (by omega) (by simp;omega)];simp
  .rw[if_neg h,if_neg h];rw[Wk1 xu d (j+1) n _ (by omega) (by omega) (by omega)]
 |_,_,0,_,_,h,_=>by omega
variable{N:Nat}{codes:List (List Opn)}{n:Int}{f:Fm}{k:Nat}{code:List Opn}{m:Mm}{x:Kd}
theorem Wwl{l:List En}(h:Ris cfE l):l.Pairwise (Ap cfE):=h.imp λh=>.inl h
theorem WkI(hk:k<f.kids.length)(h3:f.kids.length<=3)(md:code.length<=24)(hF:FOk codes n f)(aI:codes.getD k []=code)(aB:f.kids[k]=x)(hN:1048576<N):
  Zdd N f.e (k:Int)=some (((Fm.put (Wdb f x k) k).e,()),()):=by
 have hx:=hF.kid k hk;rw[aI,aB]at hx;obtain⟨f0,f1,f2,f3,f4,f5,f6,f7,f8,f9⟩:=fmP f;have aQ:=hx.pc;have pu:=hx.wl;have hsl:=hx.sl;have hb8:=hF.buf8;have px:f.order.length<=3:=by
  have h1:=hF.done;have:=Xdh (p:=λx:Kd=>decide (x.phase=3)) (l:=f.kids);omega
 have mR:=hF.readsL;have e2:Xd (f.kids.map Kd.e) (Xb (k:Int)) d_KidRun=x.e:=by
  have:=WgE Kd.e f.kids k {};rw[Wf hk,aB]at this;exact this
 unfold Zdd;simp only[f9,Xaf];rw[W3,decide_eq_true hk];simp only[cond_true,e2];have en:Zf3 N x.e.2.2.2.2.2.2.2.2.1=ret (WcY x.writes):=WdA (show x.writes.length<=1048576 by omega) hN;rw[en];simp only[ret,Xc];have iw:=Wgu x.writes;rw[show(0:Int)=((0:Nat):Int)from rfl];rw[WoZ (bS:=WcY x.writes) hN iw (WcY x.writes).length 0 N _ (by omega) (by omega) (by show f.buf.length<=_;omega)];simp only[Xca];have hP6:P6 f.e=f.buf:=rfl;have hcl:We .i64 f.e.2.1 1=f.clock+1:=Wcz (by have:=hF.clock;show 0<=f.clock/\_;omega);rw[hP6,hcl];obtain⟨i1,i2,i3⟩:=WsG (c:=f.clock+1) (rows:=WcY x.writes) (Wwl hF.bufR) hF.bufR (λx=>Iff.rfl);unfold Zam;have fO:=Wnf (c:=f.clock+1) (WcY x.writes) f.buf;rw[Wpc (rng:=WwE) (N:=N) Wv1 i2 i1 i3 (λe he=>?_) (by omega)]
 .simp only[Xc];have hP7:P7 x.e=x.seen:=rfl;rw[show(Kd.e x).2.2.2.2.2.2.2.1=x.seen from rfl];rw[Wk1 (cX:=x.seen) (by omega) x.seen.length 0 N _ (by omega) (by omega) (by show f.reads.length<=_;omega)];rw[Wv (by show f.order.length+1<=_;omega)];simp only[cond_true,Xca];have hU:∀(g:Fm) (y:Kd),U6 (Xl (f.kids.map Kd.e) k y.e) (S5 (f.reads++Wa8 x.seen) (S4 (f.order++ [(k:Int)]) (S3 (WdN (f.clock+1) f.buf (WcY x.writes)) f.e.2.2.2)))=(f.lost,f.regs,f.start,WdN (f.clock+1) f.buf (WcY x.writes),f.order++ [(k:Int)],f.reads++Wa8 x.seen,(f.kids.set k y).map Kd.e):=λg y=>by
   rw[Xfw];rfl
  rw[Xj];exact congrArg (λz=>some (((f.rv,(f.clock+1,((0:Int),z))),()),())) (hU f {x with phase:=3,pos:=0,marks:=[]})
 .have h1:=(i3 e).1 he;have:=Wem (P:=λe=>0<=e.1/\e.1<=7) hF.bufR (λe he=>(hF.bufE e he).1) (λr hr=>(WoJ.1 hr).1) e h1;unfold WwE WuF;simp;omega
theorem WmA(hk:k<f.kids.length)(hF:FOk codes n f)(hx:KOk code f.clock n x)(aB:f.kids[k]=x)(hn:n<=100000)(o:Int):
  Zbj N (Fm.e {f with owner:=o}) (k:Int)=some (((Fm.put ({f with owner:=o},f.again x) k).e,()),()):=by
 have h:=Wex (N:=N) (f:=Fm.e {f with owner:=o}) (k:=k) (x:=x.e) (by show k<(f.kids.map Kd.e).length;simpa using hk) hF.regs.len (by have:=hx.tries;show 0<=x.tries/\x.tries<=100000;omega);have e3:U9 (Xl (Q9 (Fm.e {f with owner:=o})) k x.e) (Fm.e {f with owner:=o})=Fm.e {f with owner:=o}:=by
  have:=U9e {f with owner:=o} k x;rw[←aB]at this;simp only[Xbh]at this;rw[←aB];exact this
 rw[e3]at h;rw[h];exact congrArg (λz=>some ((z,()),())) (U9e {f with owner:=o} k (f.again x))
theorem Wk9(hk:k<f.kids.length)(h3:f.kids.length<=3)(hm:W0 m=true)(bb:KC code)(hF:FOk codes n f)(aI:codes.getD k []=code)(hn:n<=100000)(hN:1048576<N):
  Zh7 N f.e (k:Int) code m=some (((Wcy m f k code).e,()),()):=by
 obtain⟨x,aB⟩:∃x,f.kids[k]=x:=⟨_,rfl⟩;have hx:=hF.kid k hk;rw[aI,aB]at hx;obtain⟨f0,f1,f2,f3,f4,f5,f6,f7,f8,f9⟩:=fmP f;obtain⟨k0,k1,k2,k3,k4,k5,k6,k7,k8,k9,k10⟩:=kdP x;have hsl:=hx.sl;have aQ:=hx.pc;have md:=bb.len;have e2:Xd (f.kids.map Kd.e) (Xb (k:Int)) d_KidRun=x.e:=by
  have:=WgE Kd.e f.kids k {};rw[Wf hk,aB]at this;exact this
 have e3:U9 (Xl (f.kids.map Kd.e) (Xb (k:Int)) x.e) f.e=f.e:=by
  rw[Xj,U9e,←aB,Xbh]
 have e4:Fm.put (f,x) k=f:=by unfold Fm.put;simp only;rw[←aB,Xbh]
 unfold Zh7 Wcy Wea;simp only[Wq,f9,f3,Xaf];rw[WhU];by_cases bu:f.lost=true
 .rw[if_pos bu,if_pos bu]
 rw[if_neg bu,if_neg bu];rw[W3,decide_eq_true hk];simp only[cond_true,cond_false,e2,e3,k0,k4,k7,f2,Wt,Wf hk,aB];by_cases h0:x.phase=0
 .rw[if_pos h0,if_pos h0,WnY hk hm bb hF aI aB h0 hn hN];rfl
 .rw[if_neg h0,if_neg h0];by_cases h1:x.phase=1
  .rw[if_pos h1,if_pos h1];by_cases ho:f.owner=0
   .rw[if_pos ho,if_pos ho,Wcz (by omega),Xj];exact WqH rfl rfl rfl
   .rw[if_neg ho,if_neg ho,e4]
  .rw[if_neg h1,if_neg h1];by_cases h2:x.phase=2
   .rw[if_pos h2,if_pos h2];unfold Wb;by_cases hp:x.pos=(x.seen.length:Int)
    .rw[if_pos hp,if_pos hp,WkI hk h3 md hF aI aB hN];rfl
    .rw[if_neg hp,if_neg hp];have hpos:=hx.pos;have gN:inb x.pos x.seen.length=true:=by unfold inb;simp;omega
     rw[gN];have hg:Xd x.seen (Xb x.pos) ((0,0,0):En)=Wce x.seen x.pos (0,0,0):=rfl;simp only[cond_true,hg];have mc:=Wfv (N:=N) (f:=f.e) (c:=(Wce x.seen x.pos (0,0,0)).1) (by show f.buf.length<=1048576;have:=hF.buf8;omega) hN;rw[show f.e.2.2.2.2.2.2.1=f.buf from rfl]at mc;rw[mc];simp only[ret,Xc,f6];have hsz:S2 (0:Int) f.e=Fm.e {f with owner:=0}:=rfl;have dM:Zbj N (U9 (Xl (f.kids.map Kd.e) (Xb (k:Int)) x.e) (S2 0 f.e)) (k:Int)=some (((Fm.put ({f with owner:=0},f.again x) k).e,()),()):=by
      rw[hsz];have h:=U9e {f with owner:=0} k x;rw[Xj];rw[show(U9 (Xl (f.kids.map Kd.e) k x.e) (Fm.e {f with owner:=0}))=Fm.e {f with owner:=0} by
       rw[h,←aB];simp only[Xbh]]
      exact WmA hk hF hx aB hn 0
     unfold Wvd;have sA:We .i64 x.pos 1=x.pos+1:=Wcz (by omega);rw[sA];cases he:ent f.buf (Wce x.seen x.pos (0,0,0)).1 with
     |some a=>
      obtain⟨g1,g2,g3,g4⟩:=WcO he;rw[Xbb]at g3;rw[Xdc,Xp g3]at g4;injection g4 with g4;simp only[decide_eq_true (show((a.1:Int)>=0) by omega),cond_true];rw[W3,decide_eq_true g3];simp only[cond_true,Ws g3,g4];by_cases hv:a.2.2.2=(Wce x.seen x.pos (0,0,0)).2.2
      .rw[if_pos hv,if_pos hv,Xj];exact WqH rfl rfl rfl
      .rw[if_neg hv,if_neg hv,dM];rfl
     |none=>
      simp only[show decide ((-1:Int)>=0)=false from rfl,cond_false];by_cases hv:(-1:Int)=(Wce x.seen x.pos (0,0,0)).2.2
      .rw[if_pos hv,if_pos hv,Xj];exact WqH rfl rfl rfl
      .rw[if_neg hv,if_neg hv,dM];rfl
   .rw[if_neg h2,if_neg h2,e4]
end
section
section
variable{codes:List (List Opn)}{n:Int}{f f':Fm}{k:Nat}{code:List Opn}{m:Mm}{x y:Kd}
theorem FOk.len3(h:FOk codes n f)(h3:codes.length<=3):f.order.length<=3:=by
 have h1:=h.done;have:=Xdh (p:=λx:Kd=>decide (x.phase=3)) (l:=f.kids);have:=h.len;omega
theorem FOk.put1(h:FOk codes n f)(hk:k<f.kids.length)(aI:codes.getD k []=code){o:Int}{l:Bool}(ho:0<=o/\o<=f.kids.length)(hy:KOk code f.clock (n+1) y)(hp:f.kids[k].phase≠3)(za:y.phase≠3):
  FOk codes (n+1) (Fm.put ({f with owner:=o,lost:=l},y) k) where
 len:=by show(f.kids.set k y).length=_;rw[Xab];exact h.len
 regs:=h.regs
 clock:=h.clock
 done:=by
  show f.order.length=(f.kids.set k y).countP _;rw[Xhb hk,if_neg (by simpa using hp),if_neg (by simpa using za)];exact h.done
 bufR:=h.bufR
 bufE:=h.bufE
 readsL:=h.readsL
 readsE:=h.readsE
 owner:=by show 0<=o/\o<=((f.kids.set k y).length:Int);rw[Xab];exact ho
 kid:=λi hi=>by
  change i<(f.kids.set k y).length at hi;rw[Xab]at hi;show KOk (codes.getD i []) f.clock (n+1) (f.kids.set k y)[i];rw[Xaq];by_cases he:k=i
  .subst he;rw[if_pos rfl,aI];exact hy
  .rw[if_neg he];exact(h.kid i hi).wk (by omega) (by omega)
theorem FOk.wk(h:FOk codes n f){n':Int}(hn:n<=n'):FOk codes n' f:=
 {h with kid:=λk hk=>(h.kid k hk).wk (by omega) hn}
theorem Wk4(h:∀e∈x.seen,(0<=e.1/\e.1<=7)/\(0<=e.2.1/\e.2.1<=65535)/\ -1<=e.2.2/\e.2.2<=x.since):Wi6 (Wa8 x.seen):=by
 intro r hr;unfold Wa8 at hr;obtain⟨e,he,rfl⟩:=Xu.1 hr;have:=h e (Xau.1 he).1;exact⟨this.1,this.2.1⟩
theorem WmB(l:List En):(Wa8 l).length<=l.length:=by
 unfold Wa8;rw[Xaf];exact List.length_filter_le _ _
theorem Whw{c:Int}:∀{rows:List Rw} {M:List En},Ris cfE M->Ris cfE (WdN c M rows)
 | [],_,h=>h
 |r::rows,M,h=>Whw (rows:=rows) (WcV Wv1 h)
theorem Wrm(hF:FOk codes n f)(hk:k<f.kids.length)(bb:code.length<=24)(aI:codes.getD k []=code)(aB:f.kids[k]=x)(h2:x.phase=2):
  FOk codes (n+1) (Fm.put (Wdb f x k) k):=by
 have hx:=hF.kid k hk;rw[aI,aB]at hx;have hc:=hF.clock;unfold Wdb Fm.put;refine{len:=?_,regs:=hF.regs,clock:=?_,done:=?_,bufR:=Whw hF.bufR,bufE:=?_,readsL:=?_,readsE:=?_,owner:=?_,kid:=?_}
 .simp only[Xab];exact hF.len
 .simp only[Xz,Xdv];omega
 .simp only[Xz,Xdv];rw[Xhb hk,aB,if_neg (by simp[h2]),if_pos (by simp),←hF.done];rfl
 .simp only;refine Wem hF.bufR (λe he=>?_) λr hr=>?_
  .have:=hF.bufE e he;exact⟨this.1,this.2.1,this.2.2.1,by omega⟩
  .have:=Wgh r hr;exact⟨this.1,this.2,by simp only;omega,by simp only;omega⟩
 .have h1:=hF.readsL;have h2:=WmB x.seen;have h3:=hx.sl;have h4:=hx.pc;simp only[Xz,Xdv];omega
 .intro r hr;rcases Xn.1 hr with hr|hr
  .exact hF.readsE r hr
  .exact Wk4 hx.seen r hr
 .simp only[Xab];omega
 .intro i hi;simp only[Xab]at hi;simp only[Xaq];by_cases he:k=i
  .subst he;rw[if_pos rfl,aI];refine KOk.wk (c:=f.clock) (n:=n) ?_ (by omega) (by omega);exact{hx with marks:=(λh=>by(change (3:Int)=0 at h;omega)),pos:=⟨Xv _,by show(0:Int)<=_;omega⟩,phase:=by(show(0:Int)<=3/\(3:Int)<=3;omega)}
  .rw[if_neg he];exact(hF.kid i hi).wk (by omega) (by omega)
theorem Wln(hk:k<f.kids.length)(hm:W0 m=true)(bb:KC code)(hF:FOk codes n f)(aI:codes.getD k []=code):FOk codes (n+1) (Wcy m f k code):=by
 obtain⟨x,aB⟩:∃x,f.kids[k]=x:=⟨_,rfl⟩;have hx:=hF.kid k hk;rw[aI,aB]at hx;have e4:Fm.put (f,x) k=f:=by unfold Fm.put;simp only;rw[←aB,Xbh]
 have hFw:=hF.wk (show n<=n+1 by omega);unfold Wcy Wea;split
 .exact hFw
 rw[Wf hk,aB];split
 .rename_i h0;obtain⟨h1,h2⟩:=Wvr bb hF hx h0 hm;have zb:(WqG m f x code).2.phase≠3:=by
   unfold WqG Web Wio;simp only
   repeat' split
   all_goals simp[h0,Fm.again]
  have:=h1;have key:∀q:Fm×Kd,(q.1=f\/q.1={f with lost:=true})->KOk code f.clock (n+1) q.2->q.2.phase≠3->FOk codes (n+1) (Fm.put q k):=by
   rintro⟨g,y⟩ hg hy hp;simp only at hg hy hp;rcases hg with rfl|rfl
   .exact FOk.put1 (o:=g.owner) (l:=g.lost) hF hk aI hF.owner hy (by rw[aB,h0];omega) hp
   .exact FOk.put1 (o:=f.owner) (l:=true) hF hk aI hF.owner hy (by rw[aB,h0];omega) hp
  exact key _ h2 h1 zb
 .split
  .rename_i h1;split
   .refine FOk.put1 (o:=(k:Int)+1) (l:=f.lost) hF hk aI (by omega) ?_ (by rw[aB,h1];omega) (by show(2:Int)≠3;omega);refine KOk.wk (c:=f.clock) (n:=n) ?_ (by omega) (by omega);exact{hx with marks:=(λh=>by(change (2:Int)=0 at h;omega)),phase:=by(show(0:Int)<=2/\(2:Int)<=3;omega)}
   .rw[e4];exact hFw
  .split
   .rename_i h2;split
    .exact Wrm hF hk bb.len aI aB h2
    .simp only;split
     .refine FOk.put1 (o:=f.owner) (l:=f.lost) hF hk aI hF.owner ?_ (by rw[aB,h2];omega) (by show x.phase≠3;omega);refine KOk.wk (c:=f.clock) (n:=n) ?_ (by omega) (by omega);exact{hx with pos:=by(have:=hx.pos;show 0<=x.pos+1/\x.pos+1<=(x.seen.length:Int);omega)}
     .refine FOk.put1 (o:=0) (l:=f.lost) hF hk aI (by omega) (WoI hx rfl hF.regs hF.clock.1) (by rw[aB,h2];omega) (by show(0:Int)≠3;omega)
   .rw[e4];exact hFw
theorem Wrw{rv:Int}{regs:List Int}{writes:List Rw}(hr:Vals 4 regs)(hn:0<=n):FOk codes n (Waw rv regs writes codes.length) where
 len:=by simp[Waw]
 regs:=hr
 clock:=by simp[Waw]
 done:=by
  simp only[Waw,Xee];rw[List.countP_replicate,if_neg (by simp)]
 bufR:=by
  unfold Ris Waw;simp only[Xem];exact(WnO writes).imp λ{a b} h=>by unfold cfE;simp only;omega
 bufE:=λe he=>by
  obtain⟨r,hr,rfl⟩:=Xu.1 he;have:=Wgh r hr;exact⟨this.1,this.2,by simp[Waw]⟩
 readsL:=by simp[Waw]
 readsE:=λr hr=>by cases hr
 owner:=by simp[Waw]
 kid:=λk hk=>by
  simp only[Waw,Xbp];exact{pc:=by simp,regs:=hr,rows:=(λr hr=>by cases hr),wl:=by simp,sl:=by simp,since:=by simp,tries:=by simp;omega,seen:=(λe he=>by cases he),marks:=(λ_=>⟨by simp[stk],(λq hq=>by cases hq),List.Pairwise.nil⟩),pos:=by simp,pb:=(λh=>by cases h),phase:=by simp,out:=by simp}
end
end
section
theorem WjV{α β R:Type}{body:Int->α->List β->(List β->Option R)->Option R}{K:Int->List β->Option R}{f:α->β}:∀(l:List α) (d r:List β),l.length<=r.length->
  (∀(j:Nat) x (v:List β) k,x∈l->j<v.length->body j x v k=k (v.set j (f x)))->Wb0 body K l d.length (d++r)=K ((d.length+l.length:Nat):Int) (d++(l.map f++r.drop l.length))
 | [],d,r,_,_=>by simp[Wb0]
 |x::l,d,[],h,_=>by simp at h
 |x::l,d,y::r,h,hb=>by
  rw[Wb0,hb d.length x _ _ (Xi ..) (by simp),Wdc];have:=WjV (body:=body) (K:=K) (f:=f) l (d++ [f x]) r (by simpa using h) λj z v k hz=>hb j z v k (Xf _ hz);simp only[Xz,Xdv,Xbu,Xev]at this;rw[this];simp only[Xr,List.map_cons,List.drop_succ_cons,List.cons_append];rw[show d.length+1+l.length=d.length+(l.length+1) by omega]
theorem WkA{α:Type}{R:Type}{l:List α}{p:α->Bool}{lp:Nat->Int->Option R}{N:Nat}{K0:Int->Option R}{K1:Option R}(hl:l.length<N)(iu:l.length<=1048576)(hs:∀n (j:Nat) (h:j<l.length),lp (n+1) (j:Int)=bif p l[j]then K0 j else lp n ((j+1:Nat):Int))(he:∀n,lp (n+1) (l.length:Int)=K1):lp N 0=match fnd p l 0 with|some r=>K0 r.1|none=>K1:=by
 have h1:=WD (l:=l) (V:=Unit) (lp:=λn j _=>lp n j) hl (body:=λj x v k=>bif p x then K0 j else k v) (K:=λ_ _=>K1) (λn j v h=>hs n j h) (λn v=>he n) ();refine h1.trans ?_;rw[Wgw (p:=p) (E:=λj _=>K0 j) l 0 () (λj x v k _=>rfl)];cases fnd p l 0<;>rfl
theorem Wll{α:Type}{p:α->Bool}:∀(l:List α) (j:Nat),(fnd p l j).isSome=l.any p
 | [],_=>rfl
 |x::l,j=>by
  unfold fnd;rw[List.any_cons];cases p x
  .simp[Wll l]
  .rfl
variable{N:Nat}
theorem WlK{f:Fm}(h3:f.kids.length<=3)(hN:1048576<N):Zlt N f.e=ret (Wa4 f):=by
 unfold Zlt Zal Zv;have e:f.e.2.2.2.2.2.2.2.2.2=f.kids.map Kd.e:=rfl;rw[e];have hl:(f.kids.map Kd.e).length<=3:=by simpa using h3
 have h1:=WkA (l:=f.kids.map Kd.e) (p:=λx=>x.1 !=3) (N:=N) (lp:=λn j=>Zg N (f.kids.map Kd.e) (λaN=>(some ((),(aN,())))) (λaL be=>(some ((),((-1:Int),())))) n j) (K0:=λj=>some ((),(j,()))) (K1:=some ((),((-1:Int),()))) (by omega) (by omega)
  (λn j hj=>by
   simp only[Zg,Waa hj,Wn hj,Ws hj,Wg (show j<4611686018427387904 by omega),cond_true,Zms,Xc])
  (λn=>by simp only[Zg,Wau (Xm _),cond_false])
 rw[h1];have h2:=Wll (p:=λx:Y_KidRun=>x.1 !=3) (f.kids.map Kd.e) 0;have h3:(f.kids.map Kd.e).any (λx=>x.1 !=3)= !Wa4 f:=by
  unfold Wa4;rw[List.any_map,←Wcw];have:((λx:Y_KidRun=>x.1 !=3)∘Kd.e)= λx:Kd=>!decide (x.phase=3):=by
   funext x;show(x.phase !=3)= !decide (x.phase=3);by_cases h:x.phase=3<;>simp[h]
  rw[this]
 rw[h3]at h2;cases hf:fnd (λx:Y_KidRun=>x.1 !=3) (f.kids.map Kd.e) 0 with
 |some r=>
  rw[hf]at h2;simp only[Xc,decide_eq_true (show((r.1:Int)>=0) by omega),Xaa,ret];rw[show Wa4 f=false by simpa using h2.symm]
 |none=>
  rw[hf]at h2;rw[show Wa4 f=true by simpa using h2.symm];rfl
theorem WlN{f:Fm}(h:f.buf.length<=1000)(hN:1048576<N):Zg7 N f.e=ret (WgJ f):=by
 unfold Zg7;have e:f.e.2.2.2.2.2.2.1=f.buf:=rfl;rw[e];have h1:=WD (l:=f.buf) (V:=List Rw) (R:=Unit×(List Rw×Unit)) (lp:=λn j v=>Zco N f.buf (Wb f.buf) (λt9 az am=>(some ((),(am,())))) n j v) (n:=N) (by omega)
  (body:=λj x v k=>bif Ww (v.length+ [(x.1,x.2.1)].length)then k (Xe v [(x.1,x.2.1)])else none) (K:=λ_ v=>ret v)
  (λn i v hi=>by simp only[Zco,Waa hi,Wn hi,Ws hi,Wg (show i<4611686018427387904 by omega),cond_true])
  (λn v=>by simp only[Zco,Wau (Xm f.buf.length),cond_false]) []
 refine h1.trans ?_;rw[Wdj (f:=λx:En=>(x.1,x.2.1)) f.buf 0 [] (by simp;omega) (λj x v k _=>rfl)];rfl
theorem Wly{f:Fm}(hr:Vals 4 f.regs)(h3:f.kids.length<=3)(hx:∀x∈f.kids,x.regs.length<=1000)(hN:1048576<N):Zg6 N f.e=ret (Wik f):=by
 unfold Zg6 Wik;have e:f.e.2.2.2.2.1=f.regs:=rfl;have e2:f.e.2.2.2.2.2.2.2.2.2=f.kids.map Kd.e:=rfl;have mS:Wfk f.regs=true:=We4.2 hr;have hl:=hr.len;have hm:(f.kids.map Kd.e).length=f.kids.length:=by simp
 rw[e,e2,Wc4 (by omega) hN,if_pos ⟨mS,h3⟩];simp only[ret,Xc,mS,Xaa,cond_false];rw[decide_eq_false (by unfold Wb;omega),Wbn (by omega)];simp only[ret,Xc,cond_false];have h1:=WD (l:=f.kids.map Kd.e) (V:=List Int) (R:=Unit×(List Int×Unit)) (lp:=λn j v=>Zbo N (f.kids.map Kd.e) (Wb (f.kids.map Kd.e)) (λbP gT cr=>(some ((),(cr,())))) n j v) (n:=N) (by omega)
  (body:=λj x v k=>bif inb j v.length then(bif x.2.2.2.2.2.1==(1:Int)then((Zak N (P6 x) (4:Int)).bind λcA=>(bif cA.2.1 then(bif inb 0 (P6 x).length then(bif inb j (Xl v j.toNat 0).length then k (Xl (Xl v j.toNat 0) j.toNat (Xd (P6 x) (Xb (0:Int)) 0))else none)else none)else k (Xl v j.toNat 0)))else k (Xl v j.toNat 0))else none) (K:=λ_ v=>ret v)
  (λn i v hi=>by simp only[Zbo,Wq,Waa hi,Wn hi,Ws hi,Wg (show i<4611686018427387904 by omega),cond_true];rfl)
  (λn v=>by simp only[Zbo,Wau (Xm _),cond_false]) f.regs
 refine h1.trans ?_;have h2:=WjV (β:=Int) (K:=λ_ v=>ret v) (f:=λx:Y_KidRun=>if P5 x=1/\Wfk (P6 x)=true then Wce (P6 x) 0 0 else 0) (f.kids.map Kd.e) [] f.regs (by omega) (body:=λj x v k=>bif inb j v.length then(bif x.2.2.2.2.2.1==(1:Int)then((Zak N (P6 x) (4:Int)).bind λcA=>(bif cA.2.1 then(bif inb 0 (P6 x).length then(bif inb j (Xl v j.toNat 0).length then k (Xl (Xl v j.toNat 0) j.toNat (Xd (P6 x) (Xb (0:Int)) 0))else none)else none)else k (Xl v j.toNat 0)))else k (Xl v j.toNat 0))else none)
  (λj x v k zc hj=>by
   obtain⟨y,hy,rfl⟩:=Xu.1 zc;have hyl:=hx y hy;have p5:(Kd.e y).2.2.2.2.2.1=y.out:=rfl;have zd:P5 (Kd.e y)=y.out:=rfl;have p6:P6 (Kd.e y)=y.regs:=rfl;simp only[p5,zd,p6,W3,decide_eq_true hj,cond_true,Wc4 (show y.regs.length<=1048576 by omega) hN,ret,Xc,Wt,Xj,Xab];by_cases h1:y.out=1
   .rw[if_pos h1];cases mS:Wfk y.regs
    .rw[if_neg (by simp)];rfl
    .have:y.regs.length=4:=(We4.1 mS).len;rw[if_pos ⟨h1,rfl⟩,show inb (0:Int) y.regs.length=true by rw[this];rfl];simp only[cond_true,Xdo];rfl
   .rw[if_neg h1,if_neg (λh=>h1 h.1)])
 simp only[Xee,Xcb,Xaf,List.map_map]at h2;exact h2
theorem Wja{rv:Int}{regs:List Int}{writes:List Rw}{kids:Nat}(hr:regs.length<=1000)(hw:writes.length<=1000)(hk:kids<=3)(hN:1048576<N):
  Zgg N rv regs writes (kids:Int)=ret (Waw rv regs writes kids).e:=by
 unfold Zgg;rw[Wbn (by omega),WdA (by omega) hN];have hn:=Wgu writes;simp only[ret,Xc];have h1:=WD (l:=WcY writes) (V:=List En) (R:=Unit×(Y_Family×Unit)) (lp:=λn j v=>Zcd N regs kids (Wb (WcY writes)) rv (WcY writes) regs (λt25 pW da=>
  (Zbh N regs kids rv regs (WcY writes) da
 (λuM t50 nI=>
  (some ((),((rv,((0:Int),((0:Int),(false,(regs,(WcY writes,(da,(([]:List Int),(([]:List Kc),nI))))))))),()))))
 N (0:Int) ([]:List Y_KidRun))) n j v) (n:=N) (by omega)
  (body:=λj x v k=>bif Ww (v.length+ [(x.1,(x.2,(0:Int)))].length)then k (Xe v [(x.1,(x.2,(0:Int)))])else none) (K:=λ_ da=>(Zbh N regs kids rv regs (WcY writes) da
 (λuM t50 nI=>
  (some ((),((rv,((0:Int),((0:Int),(false,(regs,(WcY writes,(da,(([]:List Int),(([]:List Kc),nI))))))))),()))))
 N (0:Int) ([]:List Y_KidRun)))
  (λn i v hi=>by simp only[Zcd,Waa hi,Wn hi,Ws hi,Wg (show i<4611686018427387904 by omega),cond_true])
  (λn v=>by simp only[Zcd,Wau (Xm _),cond_false]) []
 refine h1.trans ?_;rw[Wdj (f:=λx:Rw=>(x.1,(x.2,(0:Int)))) (WcY writes) 0 [] (by simp;omega) (λj x v k _=>rfl)];simp only[Xcb];obtain⟨b,hb⟩:∃b,(WcY writes).map (λx:Rw=>(x.1,(x.2,(0:Int))))=b:=⟨_,rfl⟩;rw[hb];have lp:∀(d j n:Nat) (v:List Y_KidRun),j+d=kids->d<n->v=Xt j (Kd.e {regs:=regs})->Zbh N regs kids rv regs (WcY writes) b (λuM t50 nI=>(some ((),((rv,((0:Int),((0:Int),(false,(regs,(WcY writes,(b,(([]:List Int),(([]:List Kc),nI))))))))),())))) n (j:Int) v=some ((),((rv,((0:Int),((0:Int),(false,(regs,(WcY writes,(b,(([]:List Int),(([]:List Kc),Xt kids (Kd.e {regs:=regs})))))))))),())):=by
  intro d
  induction d with
  |zero=>
   intro j n v hj hn hv;obtain⟨n,rfl⟩:∃n',n=n'+1:=⟨n-1,by omega⟩;have:j=kids:=by omega
   subst this;simp only[Zbh,Int.lt_irrefl,decide_false,cond_false,hv]
  |succ d ih=>
   intro j n v hj hn hv;obtain⟨n,rfl⟩:∃n',n=n'+1:=⟨n-1,by omega⟩;have hlt:(j:Int)<(kids:Int):=by omega
   have sT:v.length=j:=by rw[hv];simp
   simp only[Zbh,decide_eq_true hlt,cond_true,Wbn (show regs.length<=1048576 by omega),ret,Xc];rw[Wv (by simp;omega)];simp only[cond_true];rw[Wg (by omega)];refine ih (j+1) n _ (by omega) (by omega) ?_;rw[hv,List.replicate_succ'];rfl
 have:=lp kids 0 N [] (by omega) (by omega) rfl;refine this.trans ?_;unfold Waw Fm.e;simp only[List.map_replicate,hb]
end
section
def WcD(s:Int):Int:=(s-1)/65536
def Wbt(k:Int):Int:=(7*k+3)%4
structure SlOk(l:List Int):Prop where
 len:l.length=16
 each:∀i (h:i<l.length),l[i]=0\/((1<=l[i]/\l[i]<=524288)/\Wbt (WcD l[i])=((i/4:Nat):Int))
 one:∀i j (hi:i<l.length) (hj:j<l.length),i<j->l[i]≠0->l[j]≠0->WcD l[i]≠WcD l[j]
def Wqc(k s:Int):Bool:=decide (s>0)&&decide (WcD s=k)
def Wpu(l:List Int)(k:Int):Option (Nat×Int):=fnd (Wqc k) l 0
def Wgy(l:List Int)(k:Int):Nat:=if Wce l (4*Wbt k) 0=0 then(4*Wbt k).toNat else(4*Wbt k).toNat+1
def Wnt(l:List Int)(k v:Int):List Int:=match Wpu l k with
 |some r=>l.set r.1 (1+65536*k+v)
 |none=>l.set (Wgy l k) (1+65536*k+v)
def WeH(l:List Int)(k:Int):Int:=match Wpu l k with
 |some r=>(r.2-1)%65536+1
 |none=>0
def WjB(l:List Int)(k:Int):List Int:=match Wpu l k with
 |some r=>l.set r.1 0
 |none=>l
variable{N:Nat}{l:List Int}{k v:Int}
theorem Wva{n:Int}(h:I64 n):IntKind.wrap .i64 n=n:=wrap_i64 h
theorem Wmx{s:Int}(h:1<=s/\s<=524288):Zhg N s=ret (WcD s):=by
 unfold Zhg;rw[W4 (by unfold I64;omega)];have:WkQ .i64 (s-1) 65536=WcD s:=by
  unfold WkQ WcD;rw[Xeb (by omega),Wva (by unfold I64;omega)]
 rw[this];rfl
theorem WlA{s:Int}(h:1<=s/\s<=524288):0<=WcD s/\WcD s<=7:=by unfold WcD;omega
theorem Wev:Za6 N k=ret (decide (0<=k)&&decide (k<=7)):=by unfold Za6;rw[Wk];rfl
theorem WjD(hk:0<=k/\k<=7)(hv:0<=v/\v<=65535):Zh2 N k v=ret (1+65536*k+v):=by
 unfold Zh2;rw[WgW (by unfold I64;omega),Wm (a:=1) (by unfold I64;omega),Wm (by unfold I64;omega)]
theorem WjU(hk:0<=k/\k<=7):Zh9 N k=ret (Wbt k):=by
 unfold Zh9;rw[Wev,WgW (by unfold I64;omega),Wm (by unfold I64;omega)];have:Wd5 (7*k+3) 4=Wbt k:=by unfold Wd5 Wbt;exact Int.tmod_eq_emod_of_nonneg (by omega)
 simp only[ret,Xc,decide_eq_true hk.1,decide_eq_true hk.2,Xbt,Xaa,cond_false,this];rfl
theorem SlOk.val(h:SlOk l){i:Nat}(hi:i<l.length)(hn:l[i]≠0):1<=l[i]/\l[i]<=524288:=by
 rcases h.each i hi with h0|h0
 .exact absurd h0 hn
 .exact h0.1
theorem Wer(h:SlOk l)(hN:1048576<N):Zf4 N l k=ret (match Wpu l k with|some r=>(r.1:Int)|none=>-1):=by
 unfold Zf4 Wpu;have hl:=h.len;have h1:=WkA (l:=l) (p:=Wqc k) (N:=N) (lp:=λn j=>Zc8 N k l (λbe=>(some ((),(be,())))) (λgh bP=>(some ((),((-1:Int),())))) n j) (K0:=λj=>some ((),(j,()))) (K1:=some ((),((-1:Int),()))) (by omega) (by omega)
  (λn j hj=>by
   simp only[Zc8,Waa hj,Wn hj,Ws hj,Wg (show j<4611686018427387904 by omega),cond_true];unfold Wqc;by_cases h0:l[j]>0
   .rw[Wmx (h.val hj (by omega))];simp only[decide_eq_true h0,cond_true,Xbf,ret,Xc,Wt,Wat]
   .simp only[decide_eq_false h0,cond_false,Bool.false_and])
  (λn=>by simp only[Zc8,Wau (Xm _),cond_false])
 rw[h1];cases fnd (Wqc k) l 0<;>rfl
theorem WbN(h:SlOk l)(hN:1048576<N):Zcv N l=ret true:=by
 have hl:=h.len;have lp:∀(d j n:Nat) (s:List Bool),j+d=16->d<n->s.length=8->(∀c:Nat,s.getD c false=true->∃i,∃hi:i<l.length,i<j/\l[i]≠0/\WcD l[i]=c)->
   Zb5 N l (some ((),(false,()))) (λsh yP si=>(some ((),(true,())))) n (j:Int) s=ret true:=by
  intro d
  induction d with
  |zero=>
   intro j n s hj hn _ _;obtain⟨n,rfl⟩:∃n',n=n'+1:=⟨n-1,by omega⟩;have:j=l.length:=by omega
   subst this;simp only[Zb5,Wau (Xm _),cond_false]
  |succ d ih=>
   intro j n s hj hn hs hb;obtain⟨n,rfl⟩:∃n',n=n'+1:=⟨n-1,by omega⟩;have hlt:j<l.length:=by omega
   simp only[Zb5,Waa hlt,Wn hlt,Ws hlt,Wg (show j<4611686018427387904 by omega),cond_true,Wt];by_cases h0:l[j]=0
   .rw[if_pos h0];exact ih (j+1) n s (by omega) (by omega) hs λc hc=>by
     obtain⟨i,hi,h1,h2,h3⟩:=hb c hc;exact⟨i,hi,by omega,h2,h3⟩
   .rw[if_neg h0];have hv:=h.val hlt h0;have hk:=WlA hv;have xw:Wbt (WcD l[j])=((j/4:Nat):Int):=by
     rcases h.each j hlt with h1|h1
     .exact absurd h1 h0
     .exact h1.2
    have hq:WkQ .i64 (j:Int) 4=((j/4:Nat):Int):=by
     unfold WkQ;rw[Xeb (by omega),Wva (by unfold I64;omega)];omega
    have cF:s.getD (Xb (WcD l[j])) false=false:=by
     rw[Bool.eq_false_iff];intro hc;obtain⟨i,hi,h1,h2,h3⟩:=hb _ hc;exact h.one i j hi hlt h1 h2 h0 (by omega)
    rw[WjD (k:=7) (v:=65535) (by omega) (by omega),Wmx hv];simp only[ret,Xc,Wk,show(1:Int)+65536*7+65535=524288 from rfl,decide_eq_true hv.1,decide_eq_true hv.2,Xbt,Xaa,cond_false,WjU hk,xw,hq,bne_self_eq_false];rw[show inz (4:Int)=true from rfl];simp only[cond_true];rw[show inb (WcD l[j]) 8=true by unfold inb;simp;omega,hs,decide_eq_true rfl,cF];simp only[Xbt,cond_true,cond_false];refine ih (j+1) n _ (by omega) (by omega) (by simpa using hs) λc hc=>?_;by_cases hcj:c=(WcD l[j]).toNat
    .exact⟨j,hlt,by omega,h0,by omega⟩
    .have:s.getD c false=true:=by
      rw[Xay,List.getElem?_set_ne (by omega),←Xay]at hc;exact hc
     obtain⟨i,hi,h1,h2,h3⟩:=hb c this;exact⟨i,hi,by omega,h2,h3⟩
 unfold Zcv;rw[show((Wb l) !=(16:Int))=false by unfold Wb;rw[hl];rfl];simp only[cond_false];refine lp 16 0 N _ (by omega) (by omega) (by simp) λc hc=>?_;rw[Xay]at hc;by_cases h8:c<8
 .rw[List.getElem?_replicate,if_pos h8]at hc;simp at hc
 .rw[List.getElem?_eq_none (by simp;omega)]at hc;simp at hc
theorem Wei(h:SlOk l){r:Nat×Int}(hr:Wpu l k=some r):∃hi:r.1<l.length,l[r.1]=r.2/\1<=r.2/\r.2<=524288/\WcD r.2=k/\Wbt k=((r.1/4:Nat):Int):=by
 obtain⟨h1,h2,h3,h4⟩:=WcO hr;rw[Xbb]at h3;rw[Xdc,Xp h3]at h4;injection h4 with h4;unfold Wqc at h1;simp only[Xh,decide_eq_true_eq]at h1;have h5:=h.val h3 (by omega);rcases h.each r.1 h3 with h6|h6
 .omega
 .rw[h4]at h6 h5;rw[h1.2]at h6;exact⟨h3,h4,h5.1,h5.2,h1.2,h6.2⟩
theorem Wh8(h:SlOk l)(hr:Wpu l k=none)(i:Nat)(hi:i<l.length)(hn:l[i]≠0):WcD l[i]≠k:=by
 have:=Wh0 hr l[i] (Xw hi);unfold Wqc at this;have h1:=h.val hi hn;rw[decide_eq_true (show l[i]>0 by omega),Xbf]at this;simpa using this
theorem WuW(k:Int):0<=Wbt k/\Wbt k<=3:=by unfold Wbt;omega
theorem WmR(h:SlOk l)(hk:0<=k/\k<=7)(hr:Wpu l k=none):∃hi:Wgy l k<l.length,l[Wgy l k]=0/\Wbt k=((Wgy l k/4:Nat):Int)/\(Wgy l k=(4*Wbt k).toNat\/(Wgy l k=(4*Wbt k).toNat+1/\Wce l (4*Wbt k) 0≠0)):=by
 have hl:=h.len;have hb:=WuW k;unfold Wgy;have h1:(4*Wbt k).toNat<l.length:=by omega
 have hg:Wce l (4*Wbt k) 0=l[(4*Wbt k).toNat]:=Wf h1 _;by_cases h0:Wce l (4*Wbt k) 0=0
 .simp only[if_pos h0];exact⟨h1,by rw[←hg];exact h0,by omega,.inl trivial⟩
 .simp only[if_neg h0];have h2:(4*Wbt k).toNat+1<l.length:=by omega
  refine⟨h2,?_,by omega,.inr ⟨trivial,h0⟩⟩;refine Classical.byContradiction λhn=>?_;rw[hg]at h0;have a1:=Wh8 h hr _ h1 h0;have a2:=Wh8 h hr _ h2 hn;have a3:=h.one _ _ h1 h2 (by omega) h0 hn;have b1:=WlA (h.val h1 h0);have b2:=WlA (h.val h2 hn);rcases h.each _ h1 with c1|c1
  .exact h0 c1
  .rcases h.each _ h2 with c2|c2
   .exact hn c2
   .have d1:=c1.2;have d2:=c2.2;generalize WcD l[(4*Wbt k).toNat]=x at*;generalize WcD l[(4*Wbt k).toNat+1]=y at*;unfold Wbt at*;omega
theorem Wum(hk:0<=k/\k<=7)(hv:0<=v/\v<=65535):(1<=1+65536*k+v/\1+65536*k+v<=524288)/\WcD (1+65536*k+v)=k:=by unfold WcD;omega
theorem Wlw(h:SlOk l){i:Nat}(hi:i<l.length){s:Int}(hs:s=0\/((1<=s/\s<=524288)/\Wbt (WcD s)=((i/4:Nat):Int)))(ho:s≠0->∀j (hj:j<l.length),j≠i->l[j]≠0->WcD l[j]≠WcD s):SlOk (l.set i s) where
 len:=by rw[Xab];exact h.len
 each:=λj hj=>by
  rw[Xab]at hj;rw[Xaq];by_cases he:i=j
  .subst he;rw[if_pos rfl];exact hs
  .rw[if_neg he];exact h.each j hj
 one:=λa b ha hb ee=>by
  rw[Xab]at ha hb;rw[Xaq,Xaq];by_cases h1:i=a
  .subst h1;rw[if_pos rfl,if_neg (by omega)]
   exactλhn qR he=>ho hn b hb (by omega) qR he.symm
  .rw[if_neg h1];by_cases h2:i=b
   .subst h2;rw[if_pos rfl];exactλze hn=>ho hn a ha (by omega) ze
   .rw[if_neg h2];exact h.one a b ha hb ee
theorem WhS(h:SlOk l)(hk:0<=k/\k<=7)(hv:0<=v/\v<=65535):SlOk (Wnt l k v):=by
 obtain⟨k1,k2⟩:=Wum hk hv;unfold Wnt;cases hr:Wpu l k with
 |some r=>
  obtain⟨hi,h1,h2,h3,h4,h5⟩:=Wei h hr;refine Wlw h hi (.inr ⟨k1,by rw[k2];exact h5⟩) λ_ j hj hne hn=>?_;rw[k2,←h4,←h1];rcases Nat.lt_or_gt_of_ne hne with hlt|hlt
  .exact h.one j r.1 hj hi hlt hn (by rw[h1];omega)
  .exactλe=>h.one r.1 j hi hj hlt (by rw[h1];omega) hn e.symm
 |none=>
  obtain⟨hi,h1,h2,_⟩:=WmR h hk hr;refine Wlw h hi (.inr ⟨k1,by rw[k2];exact h2⟩) λ_ j hj hne hn=>?_;rw[k2];exact Wh8 h hr j hj hn
theorem WlS(h:SlOk l):SlOk (WjB l k):=by
 unfold WjB;cases hr:Wpu l k with
 |some r=>
  obtain⟨hi,h1,_⟩:=Wei h hr;exact Wlw h hi (.inl rfl) λh=>absurd rfl h
 |none=>exact h
theorem Wgs(l:List Int)(k:Int):0<=WeH l k/\WeH l k<=65536:=by
 unfold WeH;cases Wpu l k<;>simp only<;>omega
theorem WcS(h:SlOk l)(hk:0<=k/\k<=7)(hN:1048576<N):Zg3 N l k=some ((),((if WeH l k=0 then 0 else WeH l k-1),(decide (WeH l k≠0),()))):=by
 unfold Zg3 WeH;rw[WbN h hN,Wev,Wer h hN];simp only[ret,Xc,Xaa,cond_false,decide_eq_true hk.1,decide_eq_true hk.2,Xbt];cases hr:Wpu l k with
 |none=>rfl
 |some r=>
  obtain⟨hi,h1,h2,h3,h4,h5⟩:=Wei h hr;simp only[decide_eq_false (show¬((r.1:Int)<0) by omega),cond_false,W3,decide_eq_true hi,cond_true,Ws hi,h1];rw[W4 (by unfold I64;omega),Wci (by omega),if_neg (by omega),decide_eq_true (by omega)];simp only[Int.add_sub_cancel];rfl
theorem WcN(h:SlOk l)(hk:0<=k/\k<=7)(hv:0<=v/\v<=65535)(hN:1048576<N):Zeb N l k v=some ((),(Wnt l k v,(WeH l k,(true,())))):=by
 have hl:=h.len;unfold Zeb;rw[Wck (by omega),WbN h hN,Wev,Wl,Wer h hN,WcS h hk hN,WjD hk hv,WjU hk];simp only[ret,Xc,Xaa,cond_false,decide_eq_true hk.1,decide_eq_true hk.2,Xbt,Wa3.2 hv];unfold Wnt WeH;cases hr:Wpu l k with
 |some r=>
  obtain⟨hi,h1,h2,h3,h4,h5⟩:=Wei h hr;simp only[decide_eq_true (show((r.1:Int)>=0) by omega),cond_true,W3,decide_eq_true hi,Xj];rw[if_neg (by omega),Wm (by unfold I64;omega)];simp only[show(r.2-1)%65536+1-1+1=(r.2-1)%65536+1 by omega]
 |none=>
  simp only[show decide ((-1:Int)>=0)=false from rfl,cond_false];have hb:=WuW k;obtain⟨hi,h1,h2,h3⟩:=WmR h hk hr;rw[WgW (by unfold I64;omega)];obtain⟨N',rfl⟩:∃N',N=N'+1+1:=⟨N-2,by omega⟩;have jq:4*Wbt k=(((4*Wbt k).toNat:Nat):Int):=by omega
  have ge:∀n,Zcm (N'+1+1) k v l (λkp g0=>(bif inb kp (Xa l)then(some ((),(Xl l (Xb kp) (1+65536*k+v),(0,(true,())))))else none)) (n+1) (Wgy l k:Int)=some ((),(l.set (Wgy l k) (1+65536*k+v),((0:Int),(true,())))):=λn=>by
   simp only[Zcm,Wn hi,Ws hi,h1,cond_true,bne_self_eq_false,cond_false];rw[Xj]
  rcases h3 with h3|⟨h3,h4⟩
  .rw[jq,←h3];exact ge _
  .have hlt:(4*Wbt k).toNat<l.length:=by omega
   have hg:Wce l (4*Wbt k) 0=l[(4*Wbt k).toNat]:=Wf hlt _;rw[hg]at h4;have iD:=ge N';rw[jq];rw[Zcm];simp only[Wn hlt,Ws hlt,cond_true];rw[show(l[(4*Wbt k).toNat] !=0)=true by simpa using h4,Wg (by omega),←h3];simp only[cond_true];exact iD
theorem Wd7(h:SlOk l)(hk:0<=k/\k<=7)(hN:1048576<N):Zia N l k=some ((),(WjB l k,(WeH l k,(true,())))):=by
 have hl:=h.len;unfold Zia;rw[Wck (by omega),WbN h hN,Wev,Wer h hN,WcS h hk hN];simp only[ret,Xc,Xaa,cond_false,decide_eq_true hk.1,decide_eq_true hk.2,Xbt];unfold WjB WeH;cases hr:Wpu l k with
 |some r=>
  obtain⟨hi,h1,h2,h3,h4,h5⟩:=Wei h hr;simp only[decide_eq_false (show¬((r.1:Int)<0) by omega),cond_true,cond_false,W3,decide_eq_true hi,Xj];rw[if_neg (by omega),Wm (by unfold I64;omega)];simp only[show(r.2-1)%65536+1-1+1=(r.2-1)%65536+1 by omega]
 |none=>rfl
end
section
abbrev Shf:=List Int×Int
abbrev Un:=Int×Int×Int
structure ShOk(s:Shf):Prop where
 slots:SlOk s.1
 cnt:0<=s.2/\s.2<=65535
def UnV(u:Un):Prop:=(u.1=1/\(0<=u.2.1/\u.2.1<=7)/\0<=u.2.2/\u.2.2<=65535)\/(u.1=2/\(0<=u.2.1/\u.2.1<=7)/\u.2.2=0)\/(u.1=3/\u.2.1=0/\0<=u.2.2/\u.2.2<=65535)
def WiW(s:Shf)(u:Un):Shf:=
 if u.1=1 then(Wnt s.1 u.2.1 u.2.2,s.2)else if u.1=2 then(WjB s.1 u.2.1,s.2)else if u.1=3 then(s.1,(s.2-u.2.2+65536)%65536)else s
def Whp(k e:Int):Un:=if e=0 then(2,k,0)else(1,k,e-1)
def Wbe(s:Shf)(o:Opn)(r:List Int):Shf×List Int×Un:=
 if o.1=12 then((Wnt s.1 o.2.1 (Wce r o.2.2.1 0),s.2),Wnl r o.2.2.2 (WeH s.1 o.2.1%65536),Whp o.2.1 (WeH s.1 o.2.1))else
 if o.1=13 then(s,Wnl r o.2.1 (WeH s.1 o.2.2.1%65536),(0,0,0))else
 if o.1=14 then((WjB s.1 o.2.1,s.2),Wnl r o.2.2.1 (WeH s.1 o.2.1%65536),Whp o.2.1 (WeH s.1 o.2.1))else
 if o.1=15 then((s.1,(s.2+Wce r o.2.1 0)%65536),r,(3,0,Wce r o.2.1 0))else
 (s,Wnl r o.2.1 s.2,(0,0,0))
def WaH(o:Opn):Int×Int:=
 if o.1=12\/o.1=14 then(o.2.1,2)else if o.1=13 then(o.2.2.1,1)else if o.1=15 then(8,1)else(8,2)
section
variable{o:Opn}
theorem Wut(h:Waq o=true)(h5:o.1=12):Wb8 o.2.1=true/\Wh o.2.2.1=true/\Wh o.2.2.2=true:=by
 obtain⟨k,a,b,c⟩:=o;simp only at h5;subst h5;have:(Wb8 a&&Wh b&&Wh c)=true:=h;simp only[Xh]at this;exact⟨this.1.1,this.1.2,this.2⟩
theorem Wvm(h:Waq o=true)(h5:o.1=13):Wh o.2.1=true/\Wb8 o.2.2.1=true:=by
 obtain⟨k,a,b,c⟩:=o;simp only at h5;subst h5;have:(Wh a&&Wb8 b&&(c==(0:Int)))=true:=h;simp only[Xh]at this;exact this.1
theorem Wuf(h:Waq o=true)(h5:o.1=14):Wb8 o.2.1=true/\Wh o.2.2.1=true:=by
 obtain⟨k,a,b,c⟩:=o;simp only at h5;subst h5;have:(Wb8 a&&Wh b&&(c==(0:Int)))=true:=h;simp only[Xh]at this;exact this.1
theorem Wxb(h:Waq o=true)(h5:o.1=15):Wh o.2.1=true:=by
 obtain⟨k,a,b,c⟩:=o;simp only at h5;subst h5;have:(Wh a&&(b==(0:Int))&&(c==(0:Int)))=true:=h;simp only[Xh]at this;exact this.1.1
theorem Wwg(h:Waq o=true)(h5:o.1=16):Wh o.2.1=true:=by
 obtain⟨k,a,b,c⟩:=o;simp only at h5;subst h5;have:(Wh a&&(b==(0:Int))&&(c==(0:Int)))=true:=h;simp only[Xh]at this;exact this.1.1
end
theorem WbL{x:Int}:Wb8 x=true↔0<=x/\x<=7:=by unfold Wb8;simp
variable{N:Nat}{s:Shf}{u:Un}{o:Opn}{r:List Int}
theorem WmU{k e:Int}(hk:0<=k/\k<=7)(he:0<=e/\e<=65536):UnV (Whp k e):=by
 unfold Whp UnV;split
 .exact .inr (.inl ⟨rfl,hk,rfl⟩)
 .exact .inl ⟨rfl,hk,by simp only;omega⟩
theorem WpU(h:ShOk s)(hu:UnV u):ShOk (WiW s u):=by
 unfold WiW;rcases hu with⟨h1,h2,h3⟩|⟨h1,h2,h3⟩|⟨h1,h2,h3⟩
 .rw[if_pos h1];exact⟨WhS h.slots h2 h3,h.cnt⟩
 .rw[if_neg (by omega),if_pos h1];exact⟨WlS h.slots,h.cnt⟩
 .rw[if_neg (by omega),if_neg (by omega),if_pos h1];exact⟨h.slots,by simp only;omega⟩
theorem Wqb(h:ShOk s)(hr:Vals 4 r)(ho:Waq o=true)(eD:12<=o.1):ShOk (Wbe s o r).1/\Vals 4 (Wbe s o r).2.1/\((Wbe s o r).2.2.1≠0->UnV (Wbe s o r).2.2)/\((Wbe s o r).2.2.1=0->(Wbe s o r).1=s):=by
 have kx:=WnV ho;unfold Wbe;split
 .obtain⟨a,b,c⟩:=Wut ho ‹_›;rw[WbL]at a;have hg:=Wgs s.1 o.2.1;exact⟨⟨WhS h.slots a (hr.get _),h.cnt⟩,hr.set _ (by omega),λ_=>WmU a hg,λh=>by unfold Whp at h;split at h<;>(simp only at h;omega)⟩
 .split
  .exact⟨h,hr.set _ (by omega),λh=>absurd rfl h,λ_=>rfl⟩
  .split
   .obtain⟨a,b⟩:=Wuf ho ‹_›;rw[WbL]at a;have hg:=Wgs s.1 o.2.1;exact⟨⟨WlS h.slots,h.cnt⟩,hr.set _ (by omega),λ_=>WmU a hg,λh=>by unfold Whp at h;split at h<;>(simp only at h;omega)⟩
   .split
    .have:=hr.get o.2.1.toNat;have:=h.cnt;refine⟨⟨h.slots,by simp only;unfold Wce;omega⟩,hr,λ_=>.inr (.inr ⟨rfl,rfl,hr.get _⟩),λh=>by(simp only at h;omega)⟩
    .exact⟨h,hr.set _ h.cnt,λh=>absurd rfl h,λ_=>rfl⟩
theorem Wew(h:ShOk s)(hN:1048576<N):Zi4 N s=ret true:=by
 unfold Zi4;rw[WbN h.slots hN,Wl,Wa3.2 h.cnt];rfl
theorem Wf8(h:ShOk s):Zhi N s=ret s:=by
 unfold Zhi;rw[Wck (by have:=h.slots.len;omega)];rfl
theorem Wi7(hu:UnV u):Zmi N u=ret true:=by
 unfold Zmi;simp only[Wt,Wev,Wl,ret,Xc];rcases hu with⟨h1,h2,h3⟩|⟨h1,h2,h3⟩|⟨h1,h2,h3⟩
 .rw[if_neg (by omega),if_pos h1,Wa3.2 h3];simp[h2]
 .rw[if_neg (by omega),if_neg (by omega),if_pos h1];simp[h2,h3]
 .rw[if_neg (by omega),if_neg (by omega),if_neg (by omega),if_pos h1,if_pos h2,Wa3.2 h3]
theorem WiF(h:ShOk s)(hu:UnV u)(hN:1048576<N):Zlr N s u=some ((),(WiW s u,(true,()))):=by
 unfold Zlr WiW;rw[Wf8 h,Wi7 hu];simp only[ret,Xc];rw[Wew h hN];simp only[ret,Xc,Xaa,cond_false,Wt];have hc:=h.cnt;rcases hu with⟨h1,h2,h3⟩|⟨h1,h2,h3⟩|⟨h1,h2,h3⟩
 .rw[if_pos h1,if_pos h1,WcN h.slots h2 h3 hN];rfl
 .rw[if_neg (by omega),if_pos h1,if_neg (by omega),if_pos h1,Wd7 h.slots h2 hN];rfl
 .rw[if_neg (by omega),if_neg (by omega),if_pos h1,if_neg (by omega),if_neg (by omega),if_pos h1];rw[W4 (by unfold I64;omega),Wm (by unfold I64;omega),Wci (by omega)];rfl
theorem Wfs{k e:Int}(he:0<=e/\e<=65536):Zka N k e=ret (Whp k e):=by
 unfold Zka Whp;rw[Wt,W4 (by unfold I64;omega)];split<;>rfl
theorem Wlk(ho:Waq o=true)(eD:12<=o.1):Zjh N o=some ((),((WaH o).1,((WaH o).2,()))):=by
 have kx:=WnV ho;unfold Zjh WaH;rw[Wfb,ho];simp only[ret,Xc,Xaa,cond_false,Wt];have:o.1=12\/o.1=13\/o.1=14\/o.1=15\/o.1=16:=by omega
 rcases this with h|h|h|h|h<;>simp[h]
theorem Wir(h:ShOk s)(hr:Vals 4 r)(ho:Waq o=true)(eD:12<=o.1)(hN:1048576<N):
  Zls N s o r=some ((),((Wbe s o r).1,((Wbe s o r).2.1,((Wbe s o r).2.2,(true,()))))):=by
 have kx:=WnV ho;have df:=hr.len;have hc:=h.cnt;unfold Zls Wbe;rw[Wf8 h,Wck (by omega)];simp only[ret,Xc];rw[Wew h hN,Wc4 (by omega) hN,We4.2 hr,Wgm,WrO ho eD];simp only[ret,Xc,Xaa,cond_false,bne_self_eq_false,Wt,show inz (65536:Int)=true from rfl,cond_true,Wq,Xab];by_cases e1:o.1=12
 .obtain⟨a,b,c⟩:=Wut ho e1;rw[WbL]at a;rw[if_pos e1,if_pos e1,WaZ b df,WaZ c df];have hg:=Wgs s.1 o.2.1;rw[WcN h.slots a (hr.get _) hN];simp only[cond_true,Xc,Wfs hg,ret];rw[Wci (by omega)];rfl
 .rw[if_neg e1,if_neg e1];by_cases e2:o.1=13
  .obtain⟨a,b⟩:=Wvm ho e2;rw[WbL]at b;have hg:=Wgs s.1 o.2.2.1;rw[if_pos e2,if_pos e2,WaZ a df,WcS h.slots b hN];simp only[cond_true,Xc];by_cases hz:WeH s.1 o.2.2.1=0
   .rw[hz];rfl
   .rw[if_neg hz,decide_eq_true hz,Wm (by unfold I64;omega),Wci (by omega),Int.sub_add_cancel];simp only[cond_true,Xdo];rfl
  .rw[if_neg e2,if_neg e2];by_cases e3:o.1=14
   .obtain⟨a,b⟩:=Wuf ho e3;rw[WbL]at a;have hg:=Wgs s.1 o.2.1;rw[if_pos e3,if_pos e3,WaZ b df,Wd7 h.slots a hN];simp only[cond_true,Xc,Wfs hg,ret];rw[Wci (by omega)];rfl
   .rw[if_neg e3,if_neg e3];by_cases e4:o.1=15
    .have a:=Wxb ho e4;have hv:=hr.get o.2.1.toNat;rw[if_pos e4,if_pos e4,WaZ a df];simp only[cond_true];rw[Wm (by unfold I64;omega),Wci (by omega)];rfl
    .have a:=Wwg ho (by omega);rw[if_neg e4,if_neg e4,WaZ a df];rfl
def Wm7(l:List Int):Bool:=decide (l.length=8)&&l.all λx=>decide (0<=x)&&decide (x<=65536)
structure ThOk(t:List Int×List Int×Int):Prop where
 cells:Vals 8 t.1
 map:t.2.1.length=8/\∀x∈t.2.1,0<=x/\x<=65536
 cnt:0<=t.2.2/\t.2.2<=65535
def Wt7(t:List Int×List Int×Int):Bool:=WeM t.1&&(Wm7 t.2.1&&Wbk t.2.2)
theorem Wtf{t:List Int×List Int×Int}:Wt7 t=true↔ThOk t:=by
 unfold Wt7 Wm7;simp only[Xh,Wls,Wa3,decide_eq_true_eq,Xae];exact⟨λh=>⟨h.1,h.2.1,h.2.2⟩,λh=>⟨h.cells,h.map,h.cnt⟩⟩
theorem WiX{l:List Int}(hl:l.length<=1048576)(hN:1048576<N):Zhf N l=ret (Wm7 l):=by
 unfold Zhf Wm7;have h1:=WD (l:=l) (V:=Unit) (R:=Unit×Kr) (lp:=λn j v=>Zd0 N l (some ((),(false,()))) (λaN aL=>(some ((),((Wb l)==(8:Int),())))) n j) (n:=N) (by omega)
  (body:=λj x v k=>bif !(decide (0<=x)&&decide (x<=65536))then some ((),(false,()))else k v) (K:=λ_ v=>some ((),((Wb l)==(8:Int),())))
  (λn i v hi=>by simp only[Zd0,Waa hi,Wn hi,Ws hi,Wg (show i<4611686018427387904 by omega),cond_true,Wk,ret,Xc])
  (λn v=>by simp only[Zd0,Wau (Xm l.length),cond_false]) ()
 refine h1.trans ?_;rw[WaB (p:=λx=>!(decide (0<=x)&&decide (x<=65536))) (E:=λ_=>some ((),(false,()))) l 0 () (λj x v k _=>rfl),Wcw];have e:((Wb l)==(8:Int))=decide (l.length=8):=by
  by_cases h:l.length=8
  .simp[Wb,h]
  .simp[Wb,h];omega
 rw[e];cases l.all _<;>cases decide (l.length=8)<;>rfl
theorem Wjl{t:List Int×List Int×Int}(h1:t.1.length<=1048576)(h2:t.2.1.length<=1048576)(hN:1048576<N):Zkp N t=ret (Wt7 t):=by
 unfold Zkp Wt7;rw[WhC h1 hN,WiX h2 hN,Wl];cases WeM t.1<;>cases Wm7 t.2.1<;>rfl
def Wfa:List Int->Nat->List Int->List Int
 | [],_,l=>l
 |x::m,k,l=>Wfa m (k+1) (if x>0 then Wnt l k (x-1)else l)
def Wpb(m:List Int):List Int:=Wfa m 0 (Xt 16 0)
theorem Wnj:SlOk (Xt 16 0) where
 len:=by simp
 each:=λi h=>.inl (Xbp ..)
 one:=λi j hi hj _ h=>absurd (Xbp ..) h
theorem WiR:∀(m:List Int) (k:Nat) (l:List Int),k+m.length<=8->(∀x∈m,0<=x/\x<=65536)->SlOk l->SlOk (Wfa m k l)
 | [],_,l,_,_,h=>h
 |x::m,k,l,hk,hx,h=>by
  have h0:=hx x (Xi ..);rw[Xr]at hk;refine WiR m (k+1) _ (by omega) (λy hy=>hx y (Xf _ hy)) ?_;split
  .exact WhS h (by omega) (by omega)
  .exact h
theorem WrV{m:List Int}(hl:m.length=8)(hx:∀x∈m,0<=x/\x<=65536):SlOk (Wpb m):=WiR m 0 _ (by omega) hx Wnj
theorem Wdm{m:List Int}(hl:m.length=8)(hx:∀x∈m,0<=x/\x<=65536)(hN:1048576<N):Zad N m=ret (Wpb m):=by
 have hm:Wm7 m=true:=by unfold Wm7;simp only[Xh,decide_eq_true_eq,Xae];exact⟨hl,hx⟩
 unfold Zad Wpb;rw[WiX (by omega) hN,hm];simp only[ret,Xc,Xaa,cond_false];rw[show Zn0 N=ret (Xt 16 0)from rfl];simp only[ret,Xc];have lp:∀(d j n:Nat) (l:List Int),j+d=m.length->d<n->SlOk l->Zbn N m (λgh bP cZ=>(some ((),(cZ,())))) n (j:Int) l=ret (Wfa (m.drop j) j l):=by
  intro d
  induction d with
  |zero=>
   intro j n l hj hn hs;obtain⟨n,rfl⟩:∃n',n=n'+1:=⟨n-1,by omega⟩;have:j=m.length:=by omega
   subst this;simp only[Zbn,Wau (Xm _),cond_false,Xda,Wfa]
  |succ d ih=>
   intro j n l hj hn hs;obtain⟨n,rfl⟩:∃n',n=n'+1:=⟨n-1,by omega⟩;have hlt:j<m.length:=by omega
   have hb:=hx m[j] (Xw hlt);simp only[Zbn,Waa hlt,Wn hlt,Ws hlt,Wg (show j<4611686018427387904 by omega),cond_true,Wat];rw[Xbs hlt,Wfa];by_cases h0:m[j]>0
   .rw[if_pos h0,if_pos h0,W4 (by unfold I64;omega),WcN hs (by omega) (by omega) hN];exact ih (j+1) n _ (by omega) (by omega) (WhS hs (by omega) (by omega))
   .rw[if_neg h0,if_neg h0];exact ih (j+1) n _ (by omega) (by omega) hs
 have:=lp m.length 0 N (Xt 16 0) (by omega) (by omega) Wnj;rw[Xca]at this;exact this
end
section
abbrev Hd:=Int×Int×Int
def HdV(h:Hd):Prop:=(1<=h.1/\h.1<=9)/\(0<=h.2.1/\h.2.1<=8)/\1<=h.2.2/\h.2.2<=2
def HdB(a b:Hd):Prop:=cfH a b<0/\(a.2.1=b.2.1->a.2.2≠2/\b.2.2≠2)
structure HOk(l:List Hd):Prop where
 val:∀h∈l,HdV h
 up:l.Pairwise HdB
theorem HOk.ris{l:List Hd}(h:HOk l):Ris cfH l:=h.up.imp λh=>h.1
def Wfz(l:List Hd)(who:Int):List Int:=(l.filter λh=>decide (h.1=who)).map (·.2.1)
def blk(who what mode:Int)(h:Hd):Bool:=decide (h.2.1=what)&&(decide (h.1≠who)&&(decide (mode=2)||decide (h.2.2=2)))
def Wf7(l:List Hd)(who what mode:Int):List Int:=(l.filter (blk who what mode)).map (·.1)
def Wun(who what:Int)(h:Hd):Bool:=decide (h.1=who)&&decide (h.2.1=what)
def WqK(l:List Hd)(who what:Int):Int:=match fnd (Wun who what) l 0 with
 |some r=>r.2.2.2
 |none=>0
def Wqm(a b:Int):Int:=if a<=b then b else a
def Wha(l:List Hd)(who what mode:Int):List Hd:=WfM cfH l (who,what,Wqm (WqK l who what) mode)
def WaS(l:List Hd)(who what mode:Int):Option (List Hd):=if Wf7 l who what mode= []then some (Wha l who what mode)else none
def W1(l:List Hd)(who:Int):List Hd:=l.filter λh=>!(h.1==who)
theorem Wc7{α:Type}{a b:Int}{x y:α}:(bif a !=b then x else y)=if a=b then y else x:=by
 by_cases h:a=b
 .have:(a !=b)=false:=by simpa using h
  rw[this,if_pos h];rfl
 .have:(a !=b)=true:=by simpa using h
  rw[this,if_neg h];rfl
theorem Wvf{α:Type}{cf:α->α->Int}(hc:Lin cf){L M:List α}(hL:Ris cf L)(hM:Ris cf M)(hm:∀x,x∈L↔x∈M):L=M:=by
 rw[←Wn9 hc hM (hL.imp λh=>.inl h) hm,Wn9 hc hL (hL.imp λh=>.inl h) λx=>Iff.rfl]
theorem apH{a b:Hd}:Ap cfH a b↔¬(a.1=b.1/\a.2.1=b.2.1):=by unfold Ap;rw[Wbv,Wbv];omega
theorem Wmf{a b c d:Hd}(h1:a.1=c.1)(h2:a.2.1=c.2.1)(h3:b.1=d.1)(h4:b.2.1=d.2.1):cfH a b<0↔cfH c d<0:=by rw[Wbv,Wbv];omega
variable{N:Nat}{l:List Hd}{who what mode:Int}
theorem Ws9(h:Ris cfH l){i:Nat}(hi:i<l.length){e:Hd}(h1:e.1=l[i].1)(h2:e.2.1=l[i].2.1):Ris cfH (l.set i e):=by
 unfold Ris at*;rw[Xba]at*;intro a b ha hb ee;rw[Xab]at ha hb;rw[Xaq,Xaq];have:=h a b ha hb ee;by_cases c1:i=a
 .subst c1;rw[if_pos rfl,if_neg (by omega)];exact(Wmf h1 h2 rfl rfl).2 this
 .rw[if_neg c1];by_cases c2:i=b
  .subst c2;rw[if_pos rfl];exact(Wmf rfl rfl h1 h2).2 this
  .rw[if_neg c2];exact this
theorem WvS(h:Ris cfH l){i:Nat}(hi:i<l.length){e:Hd}(h1:e.1=l[i].1)(h2:e.2.1=l[i].2.1):l.set i e=WfM cfH l e:=by
 refine Wvf WnR (Ws9 h hi h1 h2) (WcV WnR h) λx=>?_;rw[(Wme WnR (h.imp λh=>.inl h) hi (by rw[apH];intro h;exact h ⟨h1.symm,h2.symm⟩)).2 x,WbJ WnR h]
theorem Wu6{h:Hd}:(decide (1<=h.1)&&decide (h.1<=9))=true/\(decide (0<=h.2.1)&&decide (h.2.1<=8))=true/\(decide (1<=h.2.2)&&decide (h.2.2<=2))=true↔HdV h:=by
 unfold HdV;simp only[Xh,decide_eq_true_eq]
theorem Wfu{h:Hd}(hv:HdV h):Zh3 N h.1 h.2.1 h.2.2=ret true:=by
 obtain⟨a,b,c⟩:=Wu6.2 hv;unfold Zh3;simp only[Wk,ret,Xc,a,b,c,cond_true]
theorem WmP{a b:Hd}(ha:HdV a)(hb:HdV b):Zhq N a b=ret (cfH a b):=by
 obtain⟨a1,a2,a3⟩:=ha;obtain⟨b1,b2,b3⟩:=hb;unfold Zhq cfH;rw[W4 (by unfold I64;omega),W4 (by unfold I64;omega)];by_cases h:a.2.1=b.2.1
 .rw[show(a.2.1 !=b.2.1)=false by simpa using h,show(a.2.1==b.2.1)=true by simpa using h];rfl
 .rw[show(a.2.1 !=b.2.1)=true by simpa using h,show(a.2.1==b.2.1)=false by simpa using h];rfl
theorem WbI(h:HOk l)(hl:l.length<=1048576)(hN:1048576<N):Zec N l=ret true:=by
 have lp:∀(d j n:Nat),j+d=l.length->d<n->Zav N l (some ((),(false,()))) (λgh bP=>(some ((),(true,())))) n (j:Int)=ret true:=by
  intro d
  induction d with
  |zero=>
   intro j n hj hn;obtain⟨n,rfl⟩:∃n',n=n'+1:=⟨n-1,by omega⟩;have:j=l.length:=by omega
   subst this;simp only[Zav,Wau (Xm _),cond_false]
  |succ d ih=>
   intro j n hj hn;obtain⟨n,rfl⟩:∃n',n=n'+1:=⟨n-1,by omega⟩;have hlt:j<l.length:=by omega
   have hv:=h.val l[j] (Xw hlt);have bd:=ih (j+1) n (by omega) (by omega);simp only[Zav,Waa hlt,Wn hlt,Ws hlt,Wg (show j<4611686018427387904 by omega),cond_true,Wfu hv,ret,Xc,Xaa,cond_false,bd];by_cases h0:j=0
   .subst h0;rfl
   .have e1:decide ((j:Int)>0)=true:=by simp;omega
    have e2:WU .i64 (j:Int) 1=((j-1:Nat):Int):=by rw[W4 (by unfold I64;omega)];omega
    have aU:j-1<l.length:=by omega
    have hw:=h.val l[j-1] (Xw aU);have hb:=Xba.1 h.up (j-1) j aU hlt (by omega);simp only[e1,e2,cond_true,Wn aU,Ws aU,WmP hw hv,ret,Xc];rw[decide_eq_false (show¬(cfH l[j-1] l[j]>=0) by have:=hb.1;omega)];simp only[cond_false,Wt];by_cases hs:l[j-1].2.1=l[j].2.1
    .rw[if_pos hs,if_neg (hb.2 hs).2,if_neg (hb.2 hs).1]
    .rw[if_neg hs]
 exact lp l.length 0 N (by omega) (by omega)
theorem WiM{α β R:Type}{body:Int->α->List β->(List β->Option R)->Option R}{K:Int->List β->Option R}{p:α->Bool}{f:α->β}:∀(l:List α) (j:Nat) (o:List β),o.length+l.length<=2000000->
  (∀(j:Nat) x (v:List β) k,x∈l->v.length<=2000000->body j x v k=bif p x then k (v++ [f x])else k v)->Wb0 body K l j o=K ((j+l.length:Nat):Int) (o++(l.filter p).map f)
 | [],j,o,_,_=>by simp[Wb0]
 |x::l,j,o,h,hb=>by
  rw[Xr]at h;rw[Wb0,hb j x o _ (Xi ..) (by omega),Xbl];have ih:=λo' gl=>WiM (body:=body) (K:=K) (p:=p) (f:=f) l (j+1) o' gl λj y v k hy=>hb j y v k (Xf _ hy);cases hp:p x
  .simp only[cond_false,Xam,if_false];rw[ih o (by omega),Xr,show j+1+l.length=j+(l.length+1) by omega]
  .simp only[cond_true,if_true];rw[ih _ (by simp;omega),Xr,show j+1+l.length=j+(l.length+1) by omega];simp
theorem Wim(h:HOk l)(hl:l.length<=1048576)(hN:1048576<N):Zfs N l who=ret (Wfz l who):=by
 unfold Zfs Wfz;rw[WbI h hl hN];simp only[ret,Xc,Xaa,cond_false];have h1:=WD (l:=l) (V:=List Int) (R:=Unit×(List Int×Unit)) (lp:=λn j v=>Zb6 N who l (λaL be aX=>(some ((),(aX,())))) n j v) (n:=N) (by omega)
  (body:=λj x v k=>bif x.1==who then(bif Ww (v.length+ [x.2.1].length)then k (Xe v [x.2.1])else none)else k v) (K:=λ_ v=>ret v)
  (λn i v hi=>by simp only[Zb6,Waa hi,Wn hi,Ws hi,Wg (show i<4611686018427387904 by omega),cond_true])
  (λn v=>by simp only[Zb6,Wau (Xm l.length),cond_false]) []
 refine h1.trans ?_;rw[WiM (p:=λh=>decide (h.1=who)) (f:=(·.2.1)) l 0 [] (by simp;omega) (λj x v k _ hv=>by rw[Wv (by simp;omega)];simp only[Wt,Wat,cond_true,Xah])];rfl
theorem Wjj(h:HOk l)(hm:1<=mode/\mode<=2)(hl:l.length<=1048576)(hN:1048576<N):Zh4 N l who what mode=ret (Wf7 l who what mode):=by
 unfold Zh4 Wf7;rw[WbI h hl hN];simp only[ret,Xc,Xaa,cond_false,Wk,decide_eq_true hm.1,decide_eq_true hm.2,Xbt];have h1:=WD (l:=l) (V:=List Int) (R:=Unit×(List Int×Unit)) (lp:=λn j v=>Zbb N who what mode l (λdE gU cq=>(some ((),(cq,())))) n j v) (n:=N) (by omega)
  (body:=λj x v k=>bif x.2.1==what then(bif x.1 !=who then(bif mode==2 then(bif Ww (v.length+ [x.1].length)then k (Xe v [x.1])else none)else(bif x.2.2==2 then(bif Ww (v.length+ [x.1].length)then k (Xe v [x.1])else none)else k v))else k v)else k v) (K:=λ_ v=>ret v)
  (λn i v hi=>by simp only[Zbb,Waa hi,Wn hi,Ws hi,Wg (show i<4611686018427387904 by omega),cond_true])
  (λn v=>by simp only[Zbb,Wau (Xm l.length),cond_false]) []
 refine h1.trans ?_;rw[WiM (p:=blk who what mode) (f:=(·.1)) l 0 [] (by simp;omega) (λj x v k _ hv=>by
  rw[Wv (by simp;omega)];unfold blk;simp only[Wt,Wc7,cond_true,Xah];by_cases c1:x.2.1=what<;>by_cases c2:x.1=who<;>by_cases c3:mode=2<;>by_cases c4:x.2.2=2<;>simp[c1,c2,c3,c4])]
 rfl
theorem WvG(h:HOk l):0<=WqK l who what/\WqK l who what<=2:=by
 unfold WqK;cases hf:fnd (Wun who what) l 0 with
 |none=>simp
 |some r=>
  have:=WcO hf;have:=h.val r.2 (Xaw this.2.2.2);unfold HdV at this;simp only;omega
theorem Wiv(h:HOk l)(hw:1<=who/\who<=9)(ht:0<=what/\what<=8)(hm:1<=mode/\mode<=2)(hl:l.length<=1048000)(hN:1048576<N):
  Zg5 N l who what mode=some ((),((WaS l who what mode).getD l,((WaS l who what mode).isSome,()))):=by
 unfold Zg5 WaS;have lj:Zd2 N l=ret l:=by unfold Zd2;rw[Wv (by omega)];rfl
 have zf:Zh3 N who what mode=ret true:=Wfu (h:=(who,what,mode)) ⟨hw,ht,hm⟩;rw[lj,WbI h (by omega) hN,zf,Wjj h hm (by omega) hN];simp only[ret,Xc,Xaa,cond_false,Wat];by_cases hb:Wf7 l who what mode= []
 .rw[if_neg (by rw[hb];simp[Wb]),if_pos hb];have h1:=WkA (l:=l) (p:=Wun who what) (N:=N) (lp:=λn j=>Zb7 N who what mode (Wb l) l (λbC=>(some ((),(bC,(true,()))))) (λg0 sn=>
  (bif Ww ((Xa l)+(Xa ([(who,(what,mode))])))then
 ((Zw N (Xe l ([(who,(what,mode))]))).bind λfS=>
 (some ((),(fS.1.1,(true,())))))else none)) n j)
   (K0:=λj=>some ((),(l.set j.toNat ((l.getD j.toNat (0,0,0)).1,(l.getD j.toNat (0,0,0)).2.1,Wv3 (l.getD j.toNat (0,0,0)).2.2 mode),(true,())))) (K1:=(bif Ww ((Xa l)+(Xa ([(who,(what,mode))])))then
 ((Zw N (Xe l ([(who,(what,mode))]))).bind λfS=>
 (some ((),(fS.1.1,(true,())))))else none)) (by omega) (by omega)
   (λn j hj=>by
    simp only[Zb7,Waa hj,Wn hj,Ws hj,Wg (show j<4611686018427387904 by omega),cond_true];unfold Wun;simp only[Wt,WtI,Wat])
   (λn=>by simp only[Zb7,Wau (Xm _),cond_false])
  rw[h1];unfold Wha WqK;cases hf:fnd (Wun who what) l 0 with
  |some r=>
   obtain⟨g1,g2,g3,g4⟩:=WcO hf;rw[Xbb]at g3;rw[Xdc,Xp g3]at g4;injection g4 with g4;unfold Wun at g1;simp only[Xh,decide_eq_true_eq]at g1;simp only[Ws g3,g4,Xdw,Xfj];rw[Xj];have:Wv3 r.2.2.2 mode=Wqm r.2.2.2 mode:=by unfold Wv3 Wqm;first|rfl|omega|(split<;>split<;>omega)
   rw[this,g1.1,g1.2,WvS h.ris g3 (e:=(who,what,Wqm r.2.2.2 mode)) (by rw[g4];exact g1.1.symm) (by rw[g4];exact g1.2.symm)]
  |none=>
   have hn:=Wh0 hf;simp only;rw[Wv (by simp;omega)];have zg:Wqm 0 mode=mode:=by unfold Wqm;rw[if_pos (by omega)]
   have pr:=WjK (cf:=cfH) (L:=l) (e:=(who,what,mode)) (h.ris.imp λh=>.inl h) (λx hx=>by
    rw[apH];have:=hn x hx;unfold Wun at this;simp only[Xco,decide_eq_false_iff_not]at this;simp only;omega)
   unfold Zw;simp only[cond_true,Xah];rw[Wpc (rng:=WvH) (N:=N) WnR (M:=WfM cfH l (who,what,mode)) (WcV WnR h.ris) pr.1 (λx=>by rw[pr.2 x,WbJ WnR h.ris]) (λx hx=>by
    rcases Xn.1 hx with hx|hx
    .have:=h.val x hx;unfold HdV at this;unfold WvH WuF;simp;omega
    .rw[Xac]at hx;subst hx;unfold WvH WuF;simp;omega) (by simp;omega)]
   simp only[Xc,zg,Xdw,Xfj]
 .rw[if_pos (by
   have:(Wf7 l who what mode).length≠0:=λh=>hb (List.eq_nil_of_length_eq_zero h);unfold Wb;omega),if_neg hb]
  rfl
theorem WpR(h:HOk l)(hw:1<=who/\who<=9)(ht:0<=what/\what<=8)(hm:1<=mode/\mode<=2)(hb:Wf7 l who what mode= []):HOk (Wha l who what mode):=by
 have lB:=WvG (who:=who) (what:=what) h;have hbl:∀x∈l,x.2.1=what->x.1≠who->mode≠2/\x.2.2≠2:=λx hx h1 h2=>by
  refine Classical.byContradiction λhc=>?_;have:x.1∈Wf7 l who what mode:=Xu.2 ⟨x,Xau.2 ⟨hx,by unfold blk;simp[h1,h2];omega⟩,rfl⟩;rw[hb]at this;cases this
 have nm:∀x∈l,x.2.1=what->x.1≠who->WqK l who what≠2:=λx hx h1 h2=>by
  unfold WqK;cases hf:fnd (Wun who what) l 0 with
  |none=>simp
  |some r=>
   obtain⟨g1,g2,g3,g4⟩:=WcO hf;rw[Xbb]at g3;rw[Xdc,Xp g3]at g4;injection g4 with g4;unfold Wun at g1;simp only[Xh,decide_eq_true_eq]at g1;obtain⟨j,hj,rfl⟩:=Xas hx;have hp:=Xba.1 h.up;simp only;rw[←g4]at g1⊢;rcases Xel r.1 j with hlt|heq|hlt
   .exact((hp r.1 j g3 hj hlt).2 (by rw[h1,g1.2])).1
   .subst heq;exact absurd g1.1 h2
   .exact((hp j r.1 hj g3 hlt).2 (by rw[h1,g1.2])).2
 unfold Wha;refine⟨λx hx=>?_,?_⟩
 .rcases(WbJ WnR h.ris).1 hx with rfl|hx
  .refine⟨hw,ht,?_⟩;simp only;unfold Wqm;split<;>omega
  .exact h.val x hx.1
 .have hr:=WcV (e:=(who,what,Wqm (WqK l who what) mode)) WnR h.ris;have hmem:=λx=>WbJ (e:=(who,what,Wqm (WqK l who what) mode)) (x:=x) WnR h.ris;have xx:∀x∈l,x.2.1=what->x.1≠who->Wqm (WqK l who what) mode≠2:=λx hx h1 h2=>by
   have:=nm x hx h1 h2;have:=(hbl x hx h1 h2).1;unfold Wqm;split<;>omega
  unfold Ris at hr;rw[Xba]at hr⊢;intro i j hi hj hij;refine⟨hr i j hi hj hij,λhs=>?_⟩;have hlt:=hr i j hi hj hij;have m1:=(hmem _).1 (Xw hi);have m2:=(hmem _).1 (Xw hj);generalize (WfM cfH l (who,what,Wqm (WqK l who what) mode))[i]=x at*;generalize (WfM cfH l (who,what,Wqm (WqK l who what) mode))[j]=y at*;rcases m1 with rfl|m1<;>rcases m2 with rfl|m2
  .exact absurd hlt (WnR.irr _)
  .have hk:=apH.1 m2.2;simp only at hk hs;exact⟨xx y m2.1 hs.symm (λe=>hk ⟨e,hs.symm⟩),(hbl y m2.1 hs.symm (λe=>hk ⟨e,hs.symm⟩)).2⟩
  .have hk:=apH.1 m1.2;simp only at hk hs;exact⟨(hbl x m1.1 hs (λe=>hk ⟨e,hs⟩)).2,xx x m1.1 hs (λe=>hk ⟨e,hs⟩)⟩
  .obtain⟨a,ha,rfl⟩:=Xas m1.1;obtain⟨b,hb',rfl⟩:=Xas m2.1;have hp:=Xba.1 h.up;rcases Xel a b with ee|ee|ee
   .exact(hp a b ha hb' ee).2 hs
   .subst ee;exact absurd hlt (WnR.irr _)
   .exact absurd (WnR.tr _ _ _ hlt (hp b a hb' ha ee).1) (WnR.irr _)
theorem WiV(h:HOk l):HOk (W1 l who):=⟨λx hx=>h.val x (Xau.1 hx).1,h.up.filter _⟩
theorem WhY(h:HOk l):l.length<=81:=by
 have key:∀(l:List Hd) (c:Int),Ris cfH l->(∀e∈l,HdV e/\c<=9*e.2.1+e.1)->1<=c->(l.length:Int)<=82-c\/l= []:=by
  intro l
  induction l with
  |nil=>intro c _ _ _;exact .inr rfl
  |cons a l ih=>
   intro c hr hb hc;left;have h1:=List.pairwise_cons.1 hr;have ha:=hb a (Xi ..);unfold HdV at ha;rcases ih (9*a.2.1+a.1+1) h1.2 (λe he=>⟨(hb e (Xf _ he)).1,by
    have:=h1.1 e he;rw[Wbv]at this;have hv:=(hb e (Xf _ he)).1;unfold HdV at hv;omega⟩) (by omega)with h|h
   .rw[Xr];omega
   .subst h;simp;omega
 rcases key l 1 h.ris (λe he=>⟨h.val e he,by have:=h.val e he;unfold HdV at this;omega⟩) (by omega)with h|h
 .omega
 .rw[h];simp
theorem Wis{α V R:Type}{body:Int->α->V->(V->Option R)->Option R}{K:Int->V->Option R}{p:α->Bool}{E:Int->V->Option R}:∀(l:List α) (j:Nat) (v:V),(∀(j:Nat) x v k,x∈l->body j x v k=bif p x then E j v else k v)->
  (∃a x r,l=a++x::r/\(∀y∈a,p y=false)/\p x=true/\Wb0 body K l j v=E ((j+a.length:Nat):Int) v)\/((∀y∈l,p y=false)/\Wb0 body K l j v=K ((j+l.length:Nat):Int) v)
 | [],j,v,_=>.inr ⟨by simp,rfl⟩
 |x::l,j,v,h=>by
  rw[Wb0,h j x v _ (Xi ..)];cases hp:p x
  .simp only[cond_false];rcases Wis (E:=E) l (j+1) v λj y v k hy=>h j y v k (Xf _ hy)with⟨a,y,r,h1,h2,h3,h4⟩|⟨h1,h2⟩
   .refine .inl ⟨x::a,y,r,by rw[h1];rfl,λz hz=>?_,h3,?_⟩
    .rcases Xo.1 hz with rfl|hz
     .exact hp
     .exact h2 z hz
    .rw[h4,Xr,show j+1+a.length=j+(a.length+1) by omega]
   .refine .inr ⟨λz hz=>?_,?_⟩
    .rcases Xo.1 hz with rfl|hz
     .exact hp
     .exact h1 z hz
    .rw[h2,Xr,show j+1+l.length=j+(l.length+1) by omega]
  .exact .inl ⟨[],x,l,rfl,by simp,hp,rfl⟩
theorem WqR{N:Nat}(a0:Int){R:Type}(K:Int->Int->Bool->List Hd->Int->Option R):
  ∀(r a m:List Hd) (n:Nat),r.length<n->a.length+m.length+r.length<=1048576->∃m',
   Zd N K n (a.length:Int) ((a.length+m.length:Nat):Int) (a++m++r) a0=
    K ((a++r.filter λx=>!(x.1==a0)).length:Int) ((a.length+m.length+r.length:Nat):Int) false ((a++r.filter λx=>!(x.1==a0))++m') a0
 | [],a,m,0,h,_=>by simp at h
 | [],a,m,n+1,h,_=>by
  refine⟨m,?_⟩;have e1:decide (((a.length+m.length:Nat):Int)<Wb (a++m++ []))=false:=by simp[Wb]
  simp only[Zd,e1,cond_false];simp
 |x::r,a,m,0,h,_=>by simp at h
 |x::r,a,m,n+1,h,hb=>by
  simp only[Xr]at h hb;have hj:a.length+m.length<(a++m++x::r).length:=by simp
  have hi:a.length<(a++m++x::r).length:=by simp;omega
  have hx:Xd (a++m++x::r) (a.length+m.length) ((0:Int),((0:Int),(0:Int)))=x:=by
   have:a.length+m.length=(a++m).length:=by simp
   rw[this,Xay,List.getElem?_append_right (Xm _)];simp
  cases hp:x.1==a0
  .obtain⟨m2,pK,wa⟩:∃m2:List Hd,m2.length=m.length/\(a++m++x::r).set a.length x=(a++ [x])++m2++r:=by
    cases m with
    |nil=>exact⟨[],rfl,by rw[Xcn,Wdc];simp⟩
    |cons y m=>exact⟨m++ [x],by simp,by rw[show a++(y::m)++x::r=a++y::(m++x::r) by simp,Wdc];simp⟩
   obtain⟨m',ih⟩:=WqR (N:=N) a0 K r (a++ [x]) m2 n (by omega) (by simp;omega);refine⟨m',?_⟩;simp only[Zd,Zfa,Waa hj,Wn hj,Wn hi,Xj,hx,hp,Xc,cond_true,Xdn,Xj,wa,
    Wg (show a.length<4611686018427387904 by omega),Wg (show a.length+m.length<4611686018427387904 by omega)]
   have l1:(a++ [x]).length=a.length+1:=by simp
   rw[l1,pK,show a.length+1+m.length=a.length+m.length+1 by omega]at ih;rw[ih];simp only[Xbl,hp,Xdn,if_true,Xbu,Xev,Xr];rw[show a.length+m.length+1+r.length=a.length+m.length+(r.length+1) by omega]
  .obtain⟨m',ih⟩:=WqR (N:=N) a0 K r a (m++ [x]) n (by omega) (by simp;omega);refine⟨m',?_⟩;simp only[Zd,Zfa,Waa hj,Wn hj,Wn hi,Xj,hx,hp,Xc,cond_true,cond_false,Xaa,
    Wg (show a.length+m.length<4611686018427387904 by omega)]
   simp only[Xz,Xr,Xee,Xbb]at ih;rw[show a.length+(m.length+1)=a.length+m.length+1 by omega,show a++(m++ [x])++r=a++m++x::r by simp]at ih;rw[ih];simp only[Xbl,hp,Xaa,if_false,Xam,Xr];simp only[Xz];rw[show a.length+m.length+1+r.length=a.length+m.length+(r.length+1) by omega]
theorem Wp4{N:Nat}{s:List Hd}{a0:Int}(hN:1048576<N)(hs:s.length<=100000):
  Zq N s a0=some ((a0,()),(s.filter λx=>!(x.1==a0),())):=by
 unfold Zq;have h1:=WD (l:=s) (V:={v:Int//v=a0}) (R:=Kh×Kh) (lp:=λn j v=>Zk N s (λbP aC=>some ((aC,()),(bP,()))) (λdE gU dF=>some ((dF,()),((-1:Int),()))) n j v.1) (n:=N) (by omega)
  (body:=λj x v k=>bif x.1==a0 then some ((v.1,()),(j,()))else k v) (K:=λ_ v=>some ((v.1,()),((-1:Int),())))
  (λn i v hi=>by
   obtain⟨v,rfl⟩:=v;simp only[Zk,Waa hi,Wn hi,Ws hi,Wg (show i<4611686018427387904 by omega),cond_true,Zfa,Xc])
  (λn v=>by simp only[Zk,Wau (Xm s.length),cond_false]) ⟨a0,rfl⟩
 simp only[]at h1;unfold Zy;rw[h1];rcases Wis (body:=λj x (v:{v:Int//v=a0}) k=>bif x.1==a0 then some ((v.1,()),(j,()))else k v) (K:=λ_ v=>(some ((v.1,()),((-1:Int),())):Option (Kh×Kh))) (p:=λx=>x.1==a0)
  (E:=λj v=>some ((v.1,()),(j,()))) s 0 ⟨a0,rfl⟩ (λj x v k _=>rfl)with⟨a,x,r,cb,ha,hx,hr⟩|⟨ha,hr⟩
 .rw[hr];simp only[Xc,Xbb];have e0:((a.length:Int)== -1)=false:=by simp
  rw[e0,Wg (show a.length<4611686018427387904 by rw[cb]at hs;simp at hs;omega)];simp only[cond_false];obtain⟨m',hd⟩:=WqR (N:=N) a0 (λeN sr dE bC dF=>
     (bif (decide ((0:Int)<=eN))&&(decide (eN<=((Xa bC):Int)))then
      (bif (decide ((0:Int)<=eN))&&(decide (eN<=((Xa ((Xat (Xb eN) bC)++Xt ((Xa bC) -(Xb eN)) ((0:Int),((0:Int),(0:Int)))++(Xdd (Xa bC) bC))):Int)))then
       (some ((dF,()),(Xat (Xb eN) ((Xat (Xb eN) bC)++Xt ((Xa bC) -(Xb eN)) ((0:Int),((0:Int),(0:Int)))++(Xdd (Xa bC) bC)),())))else none)else none)) r a [x] N (by rw[cb]at hs;simp at hs;omega) (by rw[cb]at hs;simp at hs;simp;omega)
  rw[show a++ [x]++r=s by rw[cb];simp]at hd;simp only[Xr,Xee,Xbb]at hd;rw[hd];have hf:(s.filter λx=>!(x.1==a0))=a++r.filter λx=>!(x.1==a0):=by
   rw[cb,List.filter_append,Xbl];have:(a.filter λx=>!(x.1==a0))=a:=Xgn.2 λy hy=>by simp[ha y hy]
   rw[this];simp[hx]
  rw[←hf];generalize (s.filter λx=>!(x.1==a0))=f;have c1:(decide ((0:Int)<=(f.length:Int))&&decide ((f.length:Int)<=((Xa (f++m')):Int)))=true:=by
   rw[Xh];refine⟨by simp,decide_eq_true ?_⟩;rw[Xz];omega
  rw[c1];simp only[cond_true,Xj,List.take_left',List.take_append_of_le_length (Xm f.length),List.take_length];have c2:(decide ((0:Int)<=(f.length:Int))&&decide ((f.length:Int)<=((Xa (f++Xt ((f++m').length-f.length) ((0:Int),((0:Int),(0:Int)))++Xdd (f++m').length (f++m'))):Int)))=true:=by
   rw[Xh];refine⟨by simp,decide_eq_true ?_⟩;rw[Xz,Xz];omega
  rw[c2];simp[Xbu]
 .rw[hr];simp only[Xc];have:(s.filter λx=>!(x.1==a0))=s:=Xgn.2 λy hy=>by simp[ha y hy]
  rw[this];rfl
theorem WhK(h:HOk l)(hl:l.length<=100000)(hN:1048576<N):Zkq N l who=ret (W1 l who):=by
 have lj:Zd2 N l=ret l:=by unfold Zd2;rw[Wv (by omega)];rfl
 unfold Zkq;rw[lj,WbI h (by omega) hN];simp only[ret,Xc,Xaa,cond_false];rw[Wp4 hN hl];rfl
end
section
structure Cm where
 who:Int:=0
 rv:Int:=0
 phase:Int:=0
 pos:Int:=0
 wv:Int:=0
 puts:List Rw:=[]
 reads:List Int:=[]
def Cm.e(c:Cm):Int×Int×Int×Int×Int×List Kc×List Int:=(c.who,c.rv,c.phase,c.pos,c.wv,c.puts,c.reads)
def Cm.steps(c:Cm):Int:=
 if c.phase=1\/c.phase=4\/c.phase=5\/c.phase=7 then c.puts.length else if c.phase=3 then c.reads.length else 1
def Wal(c:Cm)(n:Int):Cm:=if n=0 then{c with phase:=8,pos:=0}else{c with phase:=7,pos:=n-1}
def Wbc(c:Cm)(ph:Int):Int:=
 if(ph=3/\c.reads.length=0\/ph=4)/\c.puts.length=0 then 6 else if ph=3/\c.reads.length=0 then 4 else ph
def Wdy(c:Cm)(ph:Int):Cm:={c with phase:=Wbc c ph,pos:=0}
def WP(c:Cm)(ph:Int):Cm:=if c.pos+1=c.steps then Wdy c ph else{c with pos:=c.pos+1}
def zWd:Wd:=(0,0,0)
def WO(m:Mm)(i:Int):Wd:=Wce m.2 i zWd
def WqI(m:Mm)(i:Int)(w:Wd):Mm:=(m.1,Wnl m.2 i w)
def WnZ(m:Mm)(i who:Int):Mm:=WqI m i ((WO m i).1,(WO m i).2.1,who)
def WeB(m:Mm)(i who v:Int):Mm:=if(WO m i).2.2=who then WqI m i (v,(WO m i).2)else m
def Wca(m:Mm)(i who ver:Int):Mm:=if(WO m i).2.2=who/\(WO m i).2.1<=ver/\ver<=m.1 then WqI m i ((WO m i).1,ver,0)else m
def WC(m:Mm)(c:Cm):Mm×Cm:=
 let p:=Wce c.puts c.pos (0,0)
 if c.phase=1 then(if(WO m p.1).2.2=0 then(WnZ m p.1 c.who,WP c 2)else(m,Wal c c.pos))else
 if c.phase=2 then(if(tick m).2=0 then((tick m).1,Wal c c.puts.length)else((tick m).1,Wdy {c with wv:=(tick m).2} 3))else
 if c.phase=3 then
  let w:=WO m (Wce c.reads c.pos 0)
  if(w.2.2≠0/\w.2.2≠c.who)\/w.2.1>c.rv then(m,Wal c c.puts.length)else(m,WP c 4)
 else
 if c.phase=4 then(WeB m p.1 c.who p.2,WP c 5)else
 if c.phase=5 then(Wca m p.1 c.who c.wv,WP c 6)else
 if c.phase=7 then(Wca m p.1 c.who (WO m p.1).2.1,Wal c c.pos)else
 (m,c)
def War(c:Cm):Cm:=
 if c.phase=1 then Wal c c.pos else if c.phase=2\/c.phase=3 then Wal c c.puts.length else c
def Wbb(who rv:Int)(puts reads:List Rw):Cm:=
 {who:=who,rv:=rv,phase:=if(WcY puts).length=0 then 2 else 1,puts:=WcY puts,reads:=(WcY reads).map (·.1)}
structure CmOk(c:Cm):Prop where
 who:1<=c.who/\c.who<=99
 rv:0<=c.rv/\c.rv<=1000000
 wv:0<=c.wv/\c.wv<=1000000
 phase:1<=c.phase/\c.phase<=8
 rows:Wi6 c.puts
 pup:c.puts.Pairwise λa b=>a.1<b.1
 plen:c.puts.length<=8
 rd:∀x∈c.reads,0<=x/\x<=7
 rup:c.reads.Pairwise (· < ·)
 rlen:c.reads.length<=8
 pos:0<=c.pos/\c.pos<c.steps
section
variable{N:Nat}{c:Cm}{m:Mm}
theorem CmOk.back(h:CmOk c){n:Int}(hn:0<=n/\n<=c.puts.length):CmOk (Wal c n):=by
 unfold Wal;split
 .exact{h with phase:=by(show(1:Int)<=8/\(8:Int)<=8;omega),pos:=by(unfold Cm.steps;simp)}
 .exact{h with phase:=by(show(1:Int)<=7/\(7:Int)<=8;omega),pos:=by(unfold Cm.steps;simp;omega)}
theorem Wt6(c:Cm){ph:Int}(h:2<=ph/\ph<=6):2<=Wbc c ph/\Wbc c ph<=6:=by unfold Wbc;split<;>(try split)<;>omega
theorem CmOk.adv(h:CmOk c){ph:Int}(hp:2<=ph/\ph<=6)(h5:ph=5->c.puts.length≠0):CmOk (Wdy c ph):=by
 unfold Wdy;have:=Wt6 c hp;refine{h with phase:=by(show 1<=Wbc c ph/\Wbc c ph<=8;omega),pos:=⟨Xv _,?_⟩};unfold Cm.steps;simp only;unfold Wbc;split
 .split
  .omega
  .split<;>omega
 .split
  .split<;>(try split)<;>omega
  .split
   .omega
   .split<;>omega
theorem CmOk.next(h:CmOk c){ph:Int}(hp:2<=ph/\ph<=6)(h5:ph=5->c.puts.length≠0):CmOk (WP c ph):=by
 unfold WP;split
 .exact h.adv hp h5
 .have:=h.pos;exact{h with pos:=⟨by show 0<=c.pos+1;omega,by show c.pos+1<c.steps;omega⟩}
theorem Wnw(hm:W0 m=true){i:Int}{w:Wd}(hw:WqD m.1 w=true):W0 (WqI m i w)=true:=by
 obtain⟨h8,h0,h1,py⟩:=WB hm;unfold W0 WqI Wnl;simp only[Xh,decide_eq_true_eq,Xae,Xab];refine⟨h8,⟨h0,h1⟩,λx hx=>?_⟩;rcases List.mem_or_eq_of_mem_set hx with h|h
 .exact py x h
 .subst h;exact hw
theorem We5(hm:W0 m=true){i:Int}(hi:0<=i/\i<=7):WqD m.1 (WO m i)=true:=WsA hm hi
theorem Wns(hm:W0 m=true):W0 (tick m).1=true/\0<=(tick m).2/\(tick m).2<=1000000/\((tick m).2≠0->(tick m).2=m.1+1/\(tick m).1=(m.1+1,m.2))/\((tick m).2=0->(tick m).1=m):=by
 obtain⟨h8,h0,h1,py⟩:=WB hm;unfold tick;split
 .refine⟨?_,by simp only;omega,by simp only;omega,λ_=>⟨rfl,rfl⟩,λh=>by simp only at h;omega⟩;unfold W0;simp only[Xh,decide_eq_true_eq,Xae];refine⟨h8,⟨by omega,by omega⟩,λw hw=>?_⟩;have:=Wdp.1 (py w hw);rw[Wdp];omega
 .exact⟨hm,by simp,by simp,λh=>absurd rfl h,λ_=>rfl⟩
theorem WtP(hm:W0 m=true){i who:Int}(hi:0<=i/\i<=7)(hw:0<=who/\who<=99):W0 (WnZ m i who)=true:=by
 have:=Wdp.1 (We5 hm hi);exact Wnw hm (by rw[Wdp];simp only;omega)
theorem Wsq(hm:W0 m=true){i who v:Int}(hi:0<=i/\i<=7)(hv:0<=v/\v<=65535):W0 (WeB m i who v)=true:=by
 have:=Wdp.1 (We5 hm hi);unfold WeB;split
 .exact Wnw hm (by rw[Wdp];simp only;omega)
 .exact hm
theorem Wjq(hm:W0 m=true){i who ver:Int}(hi:0<=i/\i<=7):W0 (Wca m i who ver)=true:=by
 have:=Wdp.1 (We5 hm hi);unfold Wca;split
 .exact Wnw hm (by rw[Wdp];simp only;omega)
 .exact hm
theorem CmOk.put(h:CmOk c)(hp:c.phase=1\/c.phase=4\/c.phase=5\/c.phase=7):∃(j:Nat) (hj:j<c.puts.length),c.pos=j/\Wce c.puts c.pos (0,0)=c.puts[j]/\(0<=c.puts[j].1/\c.puts[j].1<=7)/\0<=c.puts[j].2/\c.puts[j].2<=65535:=by
 have:=h.pos;unfold Cm.steps at this;rw[if_pos hp]at this;have hj:c.pos.toNat<c.puts.length:=by omega
 have hr:=h.rows _ (Xw hj);exact⟨c.pos.toNat,hj,by omega,Wf hj _,hr.1,hr.2⟩
theorem CmOk.read(h:CmOk c)(hp:c.phase=3):∃(j:Nat) (hj:j<c.reads.length),c.pos=j/\Wce c.reads c.pos 0=c.reads[j]/\0<=c.reads[j]/\c.reads[j]<=7:=by
 have:=h.pos;unfold Cm.steps at this;rw[if_neg (by omega),if_pos hp]at this;have hj:c.pos.toNat<c.reads.length:=by omega
 have hr:=h.rd _ (Xw hj);exact⟨c.pos.toNat,hj,by omega,Wf hj _,hr⟩
theorem Wl0(h:CmOk c)(hm:W0 m=true):CmOk (WC m c).2/\W0 (WC m c).1=true:=by
 have bN:=h.pos;have hl:c.phase=1\/c.phase=4\/c.phase=5\/c.phase=7->c.puts.length≠0:=λhp=>by obtain⟨j,hj,_⟩:=h.put hp;omega
 have aJ:c.phase=1\/c.phase=4\/c.phase=5\/c.phase=7->c.pos<c.puts.length:=λhp=>by unfold Cm.steps at bN;rw[if_pos hp]at bN;exact bN.2
 have hw:=h.who;unfold WC;simp only;split
 .obtain⟨j,hj,e1,e2,e3,e4⟩:=h.put (by omega);rw[e2];split
  .exact⟨h.next (by omega) (by omega),WtP hm e3 (by omega)⟩
  .exact⟨h.back (by omega),hm⟩
 .split
  .have ht:=Wns hm;split
   .exact⟨h.back (by omega),ht.1⟩
   .refine⟨?_,ht.1⟩;have h':CmOk {c with wv:=(tick m).2}:={h with wv:=⟨ht.2.1,ht.2.2.1⟩};exact h'.adv (by omega) (by omega)
  .split
   .split
    .exact⟨h.back (by omega),hm⟩
    .exact⟨h.next (by omega) (by omega),hm⟩
   .split
    .obtain⟨j,hj,e1,e2,e3,e4⟩:=h.put (by omega);rw[e2];exact⟨h.next (by omega) (λ_=>hl (by omega)),Wsq hm e3 e4⟩
    .split
     .obtain⟨j,hj,e1,e2,e3,e4⟩:=h.put (by omega);rw[e2];exact⟨h.next (by omega) (by omega),Wjq hm e3⟩
     .split
      .obtain⟨j,hj,e1,e2,e3,e4⟩:=h.put (by omega);have:=aJ (by omega);rw[e2];exact⟨h.back (by omega),Wjq hm e3⟩
      .exact⟨h,hm⟩
theorem WpT(h:CmOk c):CmOk (War c):=by
 have bN:=h.pos;unfold War;split
 .have:c.pos<c.puts.length:=by unfold Cm.steps at bN;rw[if_pos (by omega)]at bN;exact bN.2
  exact h.back (by omega)
 .split
  .exact h.back (by omega)
  .exact h
theorem WlD{who rv:Int}{puts reads:List Rw}(hw:1<=who/\who<=99)(hr:0<=rv/\rv<=1000000):CmOk (Wbb who rv puts reads) where
 who:=hw
 rv:=hr
 wv:=by simp[Wbb]
 phase:=by unfold Wbb;simp only;split<;>omega
 rows:=Wgh
 pup:=WnO puts
 plen:=Wgu puts
 rd:=λx hx=>by
  obtain⟨r,hr,rfl⟩:=Xu.1 hx;exact(Wgh r hr).1
 rup:=by
  unfold Wbb;simp only[Xem];exact WnO reads
 rlen:=by unfold Wbb;simp only[Xaf];exact Wgu reads
 pos:=by
  unfold Wbb Cm.steps;simp only;refine⟨Xv _,?_⟩;split
  .simp
  .simp;omega
theorem cmP(c:Cm):c.e.1=c.who/\c.e.2.1=c.rv/\c.e.2.2.1=c.phase/\c.e.2.2.2.1=c.pos/\c.e.2.2.2.2.1=c.wv/\c.e.2.2.2.2.2.1=c.puts/\c.e.2.2.2.2.2.2=c.reads:=⟨rfl,rfl,rfl,rfl,rfl,rfl,rfl⟩
theorem WbM{who:Int}:Zed N who=ret (decide (1<=who)&&decide (who<=99)):=by unfold Zed;rw[Wk];rfl
theorem WdW(hm:W0 m=true):Zb9 N m=ret m:=by
 have:=(WB hm).1;unfold Zb9;rw[Wv (by omega)];rfl
theorem WjJ(h:CmOk c):Zgu N c.e=ret c.e:=by
 unfold Zgu;have:=h.plen;have:=h.rlen;rw[show Zbl N c.e.2.2.2.2.2.1=ret c.puts from Wdt (show c.puts.length<=1048576 by omega),show Zu N c.e.2.2.2.2.2.2=ret c.reads from Wck (show c.reads.length<=1048576 by omega)];rfl
theorem Wl2:Zcx N c.e=ret c.steps:=by
 unfold Zcx Cm.steps;obtain⟨c0,c1,c2,c3,c4,c5,c6⟩:=cmP c;simp only[Wt,c2,c5,c6,Wb];by_cases h1:c.phase=1
 .simp[h1]
 .by_cases h3:c.phase=3
  .simp[h3]
  .by_cases h4:c.phase=4
   .simp[h4]
   .by_cases h5:c.phase=5
    .simp[h5]
    .by_cases h7:c.phase=7
     .simp[h7]
     .simp[h1,h3,h4,h5,h7]
theorem Whj(h:CmOk c)(hN:1048576<N):Zeu N c.e=ret true:=by
 obtain⟨c0,c1,c2,c3,c4,c5,c6⟩:=cmP c;have eR:=h.plen;have df:=h.rlen;have hw:=h.who;have kR:=h.rv;have dD:=h.wv;have aY:=h.phase;have bN:=h.pos;have lm:Wa9 c.puts=true:=by unfold Wa9;rw[WlE.2 h.rows,decide_eq_true (by omega)];rfl
 unfold Zeu;simp only[c0,c1,c2,c3,c4,c5,c6,WbM,Wk,Wcq (show c.puts.length<=1048576 by omega) hN,Wl2,ret,Xc,decide_eq_true hw.1,decide_eq_true hw.2,decide_eq_true kR.1,decide_eq_true kR.2,decide_eq_true dD.1,decide_eq_true dD.2,decide_eq_true aY.1,decide_eq_true aY.2,lm,Xbt,Xaa,cond_false];have vx:c.steps<=8:=by unfold Cm.steps;split<;>(try split)<;>omega
 have xy:WU .i64 c.steps 1=c.steps-1:=W4 (by unfold I64;omega);rw[xy,decide_eq_true bN.1,decide_eq_true (show c.pos<=c.steps-1 by omega)];have tu:∀(d j n:Nat),j+d=c.reads.length->d<n->Zbi N c.reads c.e (some ((),(false,()))) (λt22 eW=>(some ((),(true&&true,())))) n (j:Int)=ret true:=by
  intro d
  induction d with
  |zero=>
   intro j n hj hn;obtain⟨n,rfl⟩:∃n',n=n'+1:=⟨n-1,by omega⟩;have:j=c.reads.length:=by omega
   subst this;simp only[Zbi,c6,Wau (Xm _),cond_false];rfl
  |succ d ih=>
   intro j n hj hn;obtain⟨n,rfl⟩:∃n',n=n'+1:=⟨n-1,by omega⟩;have hlt:j<c.reads.length:=by omega
   have bd:=ih (j+1) n (by omega) (by omega);have hv:=h.rd _ (Xw hlt);have aK:W7 c.reads[j]=true:=by unfold W7;simpa using hv
   simp only[Zbi,c6,Waa hlt,Wn hlt,Ws hlt,Wg (show j<4611686018427387904 by omega),cond_true,Wj,ret,Xc,aK,Xaa,cond_false,bd];by_cases h0:j=0
   .subst h0;rfl
   .have e1:decide ((j:Int)>0)=true:=by simp;omega
    have e2:WU .i64 (j:Int) 1=((j-1:Nat):Int):=by rw[W4 (by unfold I64;omega)];omega
    have aU:j-1<c.reads.length:=by omega
    have hb:=Xba.1 h.rup (j-1) j aU hlt (by omega);simp only[e1,e2,cond_true,Wn aU,Ws aU];rw[decide_eq_false (by omega)];rfl
 have vy:∀(d j n:Nat),j+d=c.puts.length->d<n->1<=j->Zbw N c.e (some ((),(false,()))) (λeZ aL=>(Zbi N c.reads c.e (some ((),(false,()))) (λt22 eW=>(some ((),(true&&true,())))) N (0:Int))) n (j:Int)=ret true:=by
  intro d
  induction d with
  |zero=>
   intro j n hj hn _;obtain⟨n,rfl⟩:∃n',n=n'+1:=⟨n-1,by omega⟩;have:j=c.puts.length:=by omega
   subst this;simp only[Zbw,c5,Wau (Xm _),cond_false];exact tu c.reads.length 0 N (by omega) (by omega)
  |succ d ih=>
   intro j n hj hn h1j;obtain⟨n,rfl⟩:∃n',n=n'+1:=⟨n-1,by omega⟩;have hlt:j<c.puts.length:=by omega
   have bd:=ih (j+1) n (by omega) (by omega) (by omega);have e2:WU .i64 (j:Int) 1=((j-1:Nat):Int):=by rw[W4 (by unfold I64;omega)];omega
   have aU:j-1<c.puts.length:=by omega
   have hb:=Xba.1 h.pup (j-1) j aU hlt (by omega);simp only[Zbw,c5,Waa hlt,Wn hlt,Ws hlt,Wg (show j<4611686018427387904 by omega),cond_true,e2,Wn aU,Ws aU];rw[decide_eq_false (by omega)];exact bd
 by_cases hz:c.puts.length=0
 .obtain⟨N',rfl⟩:∃N',N=N'+1:=⟨N-1,by omega⟩;rw[Zbw,c5,decide_eq_false (by unfold Wb;omega)];exact tu c.reads.length 0 _ (by omega) (by omega)
 .exact vy (c.puts.length-1) 1 N (by omega) (by omega) (by omega)
theorem WhV(h:CmOk c){n:Int}(hn:0<=n/\n<=8):Z5 N c.e n=some (((Wal c n).e,()),()):=by
 unfold Z5 Wal;rw[Wt,W4 (by unfold I64;omega)];split<;>rfl
theorem Wsb{ph:Int}:Zee N c.e ph=some (((Wdy c ph).e,()),()):=by
 obtain⟨c0,c1,c2,c3,c4,c5,c6⟩:=cmP c;unfold Zee Wdy Wbc;simp only[Wt,c5,c6,Wb];by_cases h3:ph=3
 .subst h3;by_cases hr:c.reads.length=0<;>by_cases hp:c.puts.length=0<;>simp[hr,hp]<;>rfl
 .by_cases h4:ph=4
  .subst h4;by_cases hp:c.puts.length=0<;>simp[hp]<;>rfl
  .simp[h3,h4];rfl
theorem WtO(h:CmOk c){ph:Int}:Zbp N c.e ph=some (((WP c ph).e,()),()):=by
 obtain⟨c0,c1,c2,c3,c4,c5,c6⟩:=cmP c;have bN:=h.pos;have vx:c.steps<=8:=by have:=h.plen;have:=h.rlen;unfold Cm.steps;split<;>(try split)<;>omega
 have aJ:Zcx N (Cm.e {c with pos:=c.pos+1})=ret c.steps:=Wl2;unfold Zbp WP;rw[c3,Wm (by unfold I64;omega)];rw[show(c.e.1,(c.e.2.1,(c.e.2.2.1,(c.pos+1,c.e.2.2.2.2))))=Cm.e {c with pos:=c.pos+1}from rfl,aJ];simp only[ret,Xc,Wt,Wsb];split<;>rfl
theorem WqT(h:CmOk c)(hN:1048576<N):∃b,Zic N c.e=some ((),((War c).e,(b,()))):=by
 obtain⟨c0,c1,c2,c3,c4,c5,c6⟩:=cmP c;have bN:=h.pos;have eR:=h.plen;have vx:c.steps<=8:=by have:=h.plen;have:=h.rlen;unfold Cm.steps;split<;>(try split)<;>omega
 unfold Zic War;rw[WjJ h];simp only[ret,Xc];rw[Whj h hN];simp only[ret,Xc,Xaa,cond_false,Wt,c2,c3,c5,WhV h (show 0<=c.pos/\c.pos<=8 by omega),WhV h (show 0<=Wb c.puts/\Wb c.puts<=8 by unfold Wb;omega)];by_cases h1:c.phase=1
 .rw[if_pos h1,if_pos h1];exact⟨_,rfl⟩
 .rw[if_neg h1,if_neg h1];by_cases h2:c.phase=2
  .rw[if_pos h2,if_pos h2,if_pos (.inl h2)];exact⟨_,rfl⟩
  .rw[if_neg h2];by_cases h3:c.phase=3
   .rw[if_pos h3,if_pos (.inr h3)];exact⟨_,rfl⟩
   .rw[if_neg h3,if_neg (by omega)];exact⟨_,rfl⟩
theorem Won{l:List Rw}(hl:l.length<=1048576)(hN:1048576<N):Zg4 N l=ret ((WcY l).map (·.1)):=by
 unfold Zg4;rw[WdA hl hN];have hn:=Wgu l;simp only[ret,Xc];have h1:=WD (l:=WcY l) (V:=List Int) (R:=Unit×(List Int×Unit)) (lp:=λn j v=>Zcn N (Wb (WcY l)) (WcY l) (λaz aN bA=>(some ((),(bA,())))) n j v) (n:=N) (by omega)
  (body:=λj x v k=>bif Ww (v.length+ [x.1].length)then k (Xe v [x.1])else none) (K:=λ_ v=>ret v)
  (λn i v hi=>by simp only[Zcn,Waa hi,Wn hi,Ws hi,Wg (show i<4611686018427387904 by omega),cond_true])
  (λn v=>by simp only[Zcn,Wau (Xm _),cond_false]) []
 refine h1.trans ?_;rw[Wdj (f:=λx:Rw=>x.1) (WcY l) 0 [] (by simp;omega) (λj x v k _=>rfl)];rfl
theorem Wve{who rv:Int}{puts reads:List Rw}(hw:1<=who/\who<=99)(hr:0<=rv/\rv<=1000000)(hp:Wa9 puts=true)(hd:Wa9 reads=true)(hN:1048576<N):
  Zd1 N who rv puts reads=some ((),((Wbb who rv puts reads).e,(true,()))):=by
 have l1:puts.length<=300:=by unfold Wa9 at hp;simp at hp;exact hp.1
 have l2:reads.length<=300:=by unfold Wa9 at hd;simp at hd;exact hd.1
 unfold Zd1;simp only[WbM,Wk,Wcq (show puts.length<=1048576 by omega) hN,Wcq (show reads.length<=1048576 by omega) hN,WdA (show puts.length<=1048576 by omega) hN,Won (show reads.length<=1048576 by omega) hN,ret,Xc,decide_eq_true hw.1,decide_eq_true hw.2,decide_eq_true hr.1,decide_eq_true hr.2,hp,hd,Xbt,Xaa,cond_false,Wt];unfold Wbb Cm.e;by_cases hz:(WcY puts).length=0
 .rw[if_pos (by unfold Wb;omega)];simp only[if_pos hz]
 .rw[if_neg (by unfold Wb;omega)];simp only[if_neg hz]
theorem WhX{m:Mm}{i:Int}:Xd m.2 (Xb i) ((0:Int),((0:Int),(0:Int)))=WO m i:=rfl
theorem Wg6(hm:W0 m=true){i:Int}(hi:0<=i/\i<=7):inb i m.2.length=true:=by
 have:=(WB hm).1;unfold inb;simp;omega
theorem WiN{i:Int}(hi:0<=i/\i<=7):W7 i=true:=by unfold W7;simpa using hi
theorem Wnb(hm:W0 m=true){i who:Int}(hi:0<=i/\i<=7)(hw:1<=who/\who<=99)(hN:1048576<N):
  Zme N m i who=some ((),((if(WO m i).2.2=0 then WnZ m i who else m),(decide ((WO m i).2.2=0),()))):=by
 unfold Zme;rw[WdW hm,Wa6 (by have:=(WB hm).1;omega) hN,hm];simp only[ret,Xc,Xaa,cond_false,Wj,WiN hi,WbM,decide_eq_true hw.1,decide_eq_true hw.2,Xbt,Wg6 hm hi,cond_true,WhX,Wc7];by_cases h:(WO m i).2.2=0
 .rw[if_pos h,if_pos h,decide_eq_true h];rfl
 .rw[if_neg h,if_neg h,decide_eq_false h]
theorem WkH(hm:W0 m=true){i who v:Int}(hi:0<=i/\i<=7)(hw:1<=who/\who<=99)(hv:0<=v/\v<=65535)(hN:1048576<N):
  ∃b,Znd N m i who v=some ((),(WeB m i who v,(b,()))):=by
 unfold Znd WeB;rw[WdW hm,Wa6 (by have:=(WB hm).1;omega) hN,hm];simp only[ret,Xc,Xaa,cond_false,Wj,WiN hi,WbM,Wl,Wa3.2 hv,decide_eq_true hw.1,decide_eq_true hw.2,Xbt,Wg6 hm hi,cond_true,WhX,Wc7];by_cases h:(WO m i).2.2=who
 .rw[if_pos h,if_pos h];exact⟨_,rfl⟩
 .rw[if_neg h,if_neg h];exact⟨_,rfl⟩
theorem Wfg(hm:W0 m=true){i who ver:Int}(hi:0<=i/\i<=7)(hw:1<=who/\who<=99)(hN:1048576<N):
  ∃b,Zkb N m i who ver=some ((),(Wca m i who ver,(b,()))):=by
 have h8:=(WB hm).1;unfold Zkb Wca;rw[WdW hm,Wa6 (by omega) hN,hm];simp only[ret,Xc,Xaa,cond_false,Wj,WiN hi,WbM,Wk,decide_eq_true hw.1,decide_eq_true hw.2,Xbt,Wg6 hm hi,cond_true,WhX,Wc7,Xab,Wq];by_cases h:(WO m i).2.2=who
 .rw[if_pos h];by_cases h2:(WO m i).2.1<=ver/\ver<=m.1
  .rw[if_pos ⟨h,h2.1,h2.2⟩,decide_eq_true h2.1,decide_eq_true h2.2];refine⟨true,?_⟩;have:i.toNat<m.2.length:=by omega
   simp only[Xbt,Xaa,cond_false,Wlu this,Xdo];rfl
  .rw[if_neg (by omega)];refine⟨false,?_⟩;have:(decide ((WO m i).2.1<=ver)&&decide (ver<=m.1))=false:=by
    rw[Xco,decide_eq_false_iff_not,decide_eq_false_iff_not];omega
   rw[this];rfl
 .rw[if_neg h,if_neg (by omega)];exact⟨_,rfl⟩
theorem Wmk(h:CmOk c)(hm:W0 m=true)(hN:1048576<N):Zir N m c.e=some ((),((WC m c).1,((WC m c).2.e,()))):=by
 obtain⟨c0,c1,c2,c3,c4,c5,c6⟩:=cmP c;have bN:=h.pos;have eR:=h.plen;have hw:=h.who;have vx:c.steps<=8:=by have:=h.plen;have:=h.rlen;unfold Cm.steps;split<;>(try split)<;>omega
 have b1:=WhV (N:=N) h (show 0<=c.pos/\c.pos<=8 by omega);have b2:=WhV (N:=N) h (show 0<=Wb c.puts/\Wb c.puts<=8 by unfold Wb;omega);unfold Zir WC;rw[WdW hm,WjJ h];simp only[ret,Xc];rw[Wa6 (by have:=(WB hm).1;omega) hN,Whj h hN,hm];simp only[ret,Xc,Xaa,cond_false,Wt,c0,c1,c2,c3,c4,c5,c6,WeL,b1,b2,WtO h];by_cases h1:c.phase=1
 .rw[if_pos h1,if_pos h1];obtain⟨j,hj,e1,e2,e3,e4⟩:=h.put (by omega);rw[show Xd c.puts (Xb c.pos) ((0:Int),(0:Int))=c.puts[j]from e2,e2,e1,W3,decide_eq_true hj,Wnb hm e3 hw hN,←e1];by_cases ho:(WO m c.puts[j].1).2.2=0
  .rw[if_pos ho,if_pos ho,decide_eq_true ho];rfl
  .rw[if_neg ho,if_neg ho,decide_eq_false ho];rfl
 .rw[if_neg h1,if_neg h1];by_cases h2:c.phase=2
  .rw[if_pos h2,if_pos h2,Wml hm hN];simp only[Xc];by_cases ht:(tick m).2=0
   .rw[if_pos ht,if_pos ht];rfl
   .rw[if_neg ht,if_neg ht];rw[show(c.who,(c.rv,(c.phase,(c.pos,((tick m).2,c.e.2.2.2.2.2)))))=Cm.e {c with wv:=(tick m).2}from rfl,Wsb];rfl
  .rw[if_neg h2,if_neg h2];by_cases h3:c.phase=3
   .rw[if_pos h3,if_pos h3];obtain⟨j,hj,e1,e2,e3,e4⟩:=h.read h3;rw[show Xd c.reads (Xb c.pos) (0:Int)=c.reads[j]from e2,e2,e1,W3,decide_eq_true hj,Wg6 hm ⟨e3,e4⟩];simp only[cond_true,Wc7,Wat];rw[show Xd m.2 (Xb c.reads[j]) ((0:Int),((0:Int),(0:Int)))=WO m c.reads[j]from rfl];by_cases a:(WO m c.reads[j]).2.2=0
    .rw[if_pos a];by_cases b:(WO m c.reads[j]).2.1>c.rv
     .rw[if_pos b,if_pos (.inr b)];rfl
     .rw[if_neg b,if_neg (by omega)]
    .rw[if_neg a];by_cases a':(WO m c.reads[j]).2.2=c.who
     .rw[if_pos a'];by_cases b:(WO m c.reads[j]).2.1>c.rv
      .rw[if_pos b,if_pos (.inr b)];rfl
      .rw[if_neg b,if_neg (by omega)]
     .rw[if_neg a',if_pos (.inl ⟨a,a'⟩)];rfl
   .rw[if_neg h3,if_neg h3];by_cases h4:c.phase=4
    .rw[if_pos h4,if_pos h4];obtain⟨j,hj,e1,e2,e3,e4⟩:=h.put (by omega);obtain⟨b,hb⟩:=WkH hm e3 hw e4 hN;rw[show Xd c.puts (Xb c.pos) ((0:Int),(0:Int))=c.puts[j]from e2,e2,e1,W3,decide_eq_true hj,hb];rfl
    .rw[if_neg h4,if_neg h4];by_cases h5:c.phase=5
     .rw[if_pos h5,if_pos h5];obtain⟨j,hj,e1,e2,e3,e4⟩:=h.put (by omega);obtain⟨b,hb⟩:=Wfg (ver:=c.wv) hm e3 hw hN;rw[show Xd c.puts (Xb c.pos) ((0:Int),(0:Int))=c.puts[j]from e2,e2,e1,W3,decide_eq_true hj,hb];rfl
     .rw[if_neg h5,if_neg h5];by_cases h7:c.phase=7
      .rw[if_pos h7,if_pos h7];obtain⟨j,hj,e1,e2,e3,e4⟩:=h.put (by omega);obtain⟨b,hb⟩:=Wfg (ver:=(WO m c.puts[j].1).2.1) hm e3 hw hN;rw[show Xd c.puts (Xb c.pos) ((0:Int),(0:Int))=c.puts[j]from e2,e2,e1,W3,decide_eq_true hj,Wg6 hm e3];simp only[cond_true,WhX,hb,←e1];rfl
      .rw[if_neg h7,if_neg h7]
end
end
section
abbrev RM:=Int×Int×Int×Int×List Int
abbrev Wr:=Int×Int×List Rw
abbrev Pg:=List Opn×List (List Opn)
abbrev Ac:=Int×Int×Int
abbrev Sc:=Kg×List Pg×List Ac
structure Rt where
 phase:Int:=0
 tries:Int:=0
 spare:Int:=0
 pc:Int:=0
 rv:Int:=0
 newRv:Int:=0
 pos:Int:=0
 fate:Int:=0
 stamp:Int:=0
 began:Int:=0
 ended:Int:=0
 doomed:Bool:=false
 regs:List Int:=[]
 reads:List Rw:=[]
 writes:List Rw:=[]
 marks:List RM:=[]
 undos:List Un:=[]
 order:List Int:=[]
 busy:Bool:=false
 pb:Pb:=(0,0,0,0)
 cm:Cm:={}
 fam:Fm:={}
def Rt.e(r:Rt):Y_Root:=(r.phase,r.tries,r.spare,r.pc,r.rv,r.newRv,r.pos,r.fate,r.stamp,r.began,r.ended,r.doomed,r.regs,r.reads,r.writes,r.marks,r.undos,r.order,r.busy,r.pb,r.cm.e,r.fam.e)
structure Wo where
 now:Int:=0
 token:Int:=0
 mem:Mm:=(0,[])
 shelf:Shf:=([],0)
 holds:List Hd:=[]
 roots:List Rt:=[]
 hist:List Wr:=[]
def Wo.e(w:Wo):Y_World:=(w.now,w.token,w.mem,w.shelf,w.holds,w.roots.map Rt.e,w.hist)
def zRM:RM:=(0,0,0,0,[])
def Rt.last(x:Rt):RM:=WhG x.marks zRM
def Wdi(x:Rt):Rt:={phase:=6,tries:=x.tries,undos:=x.undos}
def WE(x:Rt):Rt:=
 if x.marks.length=0\/x.spare=2 then Wdi x else{x with spare:=x.spare+1,busy:=false,pb:=(0,0,0,0),phase:=3}
def WdR(w:Wo)(x:Rt):Wo×Rt:=({w with shelf:=WiW w.shelf (WhG x.undos (0,0,0))},{x with undos:=x.undos.dropLast})
def Wkf(w:Wo)(x:Rt)(k:Nat):Wo×Rt:=
 ({w with token:=if w.token=(k:Int)+1 then 0 else w.token},{x with phase:=8,ended:=w.now,undos:=[],doomed:=false})
def Waz(w:Wo)(x:Rt)(k:Nat)(out:Int):Wo×Rt:=
 let rows:=if out=2 then []else x.writes
 if rows.length=0/\(Wfz w.holds ((k:Int)+1)).length=0 then Wkf w {x with fate:=out,stamp:=x.rv} k
 else(w,{x with fate:=out,cm:=Wbb ((k:Int)+1) x.rv rows x.reads,phase:=5})
def Wc0(w:Wo)(x:Rt)(o:Opn):Rt:=
 match Wbf x.writes o.2.2.1 with
 |some v=>{x with regs:=Wnl x.regs o.2.1 v,pc:=x.pc+1}
 |none=>
  let p:=WZ w.mem x.rv (if x.busy then x.pb else(o.2.2.1,0,0,0))
  if p.2.1=4 then WE {x with busy:=true,pb:=p}
  else if p.2.1=3 then{x with regs:=Wnl x.regs o.2.1 p.2.2.2,reads:=x.reads++ [(o.2.2.1,p.2.2.2)],busy:=false,pb:=(0,0,0,0),pc:=x.pc+1}
  else{x with busy:=true,pb:=p}
def WbW(w:Wo)(x:Rt)(k:Nat)(code:List Opn):Wo×Rt:=
 if x.marks.length=0 then Waz w x k 2 else
 if(x.undos.length:Int)>x.last.2.2.2.1 then WdR w x else
 (w,{x with marks:=x.marks.dropLast,regs:=Wnl x.last.2.2.2.2 (opN code x.last.1).2.1 0,writes:=x.writes.take x.last.2.2.1.toNat,pc:=WiI code x.last.1.toNat+1})
def WbR(w:Wo)(x:Rt)(k:Nat)(o:Opn):Wo×Rt:=
 match WaS w.holds ((k:Int)+1) (WaH o).1 (WaH o).2 with
 |none=>(w,WE x)
 |some hs=>
  let b:=Wbe w.shelf o x.regs
  ({w with holds:=hs,shelf:=b.1},{x with regs:=b.2.1,undos:=if b.2.2.1=0 then x.undos else x.undos++ [b.2.2],pc:=x.pc+1})
def WgG(w:Wo)(x:Rt)(k:Nat)(p:Pg):Wo×Rt:=
 if x.pc>=p.1.length then Waz w x k 1 else
 let o:=opN p.1 x.pc
 if o.1=5 then(w,Wc0 w x o)else
 if o.1=10 then WbW w x k p.1 else
 if o.1=11 then(w,{x with phase:=2,fam:=Waw x.rv x.regs x.writes p.2.length})else
 if o.1>=12 then WbR w x k o else
 if o.1=6 then(w,{x with writes:=x.writes++ [(o.2.1,Wce x.regs o.2.2.1 0)],pc:=x.pc+1})else
 if o.1=7 then(w,{x with pc:=(if Wce x.regs o.2.1 0=0 then x.pc+o.2.2.1 else x.pc)+1})else
 if o.1=8 then(w,{x with marks:=x.marks++ [(x.pc,(x.reads.length:Int),(x.writes.length:Int),(x.undos.length:Int),x.regs)],pc:=x.pc+1})else
 if o.1=9 then(w,{x with marks:=x.marks.dropLast,regs:=Wnl x.regs (opN p.1 x.last.1).2.1 1,pc:=x.pc+1})else
 (w,{x with regs:=Wqi o x.regs,pc:=x.pc+1})
def W6(k:Nat):List Rt->Nat->Bool
 | [],_=>true
 |x::l,i=>(decide (i=k)||(decide (x.phase=0)||decide (x.phase=8)))&&W6 k l (i+1)
def Wdd(w:Wo)(x:Rt)(k:Nat):Wo×Rt:=
 if w.token≠0/\w.token≠(k:Int)+1 then(w,x)else
 if x.tries>=3/\w.token=0 then({w with token:=(k:Int)+1},x)else
 if w.token=(k:Int)+1/\W6 k w.roots 0=false then(w,x)else
 (w,{phase:=1,tries:=x.tries,rv:=w.mem.1,began:=w.now,regs:=[0,0,0,0]})
def WbT(x:Rt):Rt:=
 if x.fam.lost then Wdi x else
 if Wa4 x.fam then{x with regs:=Wik x.fam,writes:=WgJ x.fam,reads:=x.reads++x.fam.reads,order:=x.fam.order,fam:={},phase:=1,pc:=x.pc+1}
 else x
def WaT(w:Wo)(x:Rt):Wo×Rt:=
 if(x.undos.length:Int)>x.last.2.2.2.1 then WdR w x else(w,{x with newRv:=w.mem.1,pos:=0,phase:=4})
def WaG(w:Wo)(x:Rt):Rt:=
 if x.pos<x.last.2.1 then
  let c:=WO w.mem (Wce x.reads x.pos (0,0)).1
  if c.2.2≠0\/c.2.1>x.rv then Wdi x else{x with pos:=x.pos+1}
 else{x with rv:=x.newRv,newRv:=0,pos:=0,reads:=x.reads.take x.last.2.1.toNat,writes:=x.writes.take x.last.2.2.1.toNat,regs:=x.last.2.2.2.2,pc:=x.last.1+1,phase:=1}
def WbD(x:Rt):Rt:=
 if x.cm.phase=8 then Wdi x else
 if x.cm.phase=6 then{x with stamp:=x.cm.wv,cm:={},phase:=if x.fate=2 then 6 else 7}else x
def Was(w:Wo)(x:Rt)(k:Nat):Wo×Rt:=
 if x.doomed then(w,if(War x.cm).phase=8 then Wdi x else{x with cm:=War x.cm,doomed:=false})else
 let q:=WC w.mem x.cm
 ({w with mem:=q.1,hist:=if x.cm.phase<=3/\q.2.phase=4 then w.hist++ [(q.2.wv,(k:Int)+1,q.2.puts)]else w.hist},WbD {x with cm:=q.2})
def WY(w:Wo)(x:Rt)(k:Nat)(p:Pg):Wo×Rt:=
 if x.doomed=true/\1<=x.phase/\x.phase<=4 then(w,Wdi x)else
 if x.phase=0 then Wdd w x k else
 if x.phase=1 then WgG w x k p else
 if x.phase=2 then(w,WbT x)else
 if x.phase=3 then WaT w x else
 if x.phase=4 then(w,WaG w x)else
 if x.phase=5 then Was w x k else
 if x.phase=6 then(if x.undos.length>0 then WdR w x else(w,{x with phase:=7}))else
 if x.phase=7 then
  (if x.fate=0 then({w with holds:=W1 w.holds ((k:Int)+1)},{tries:=x.tries+1})
   else Wkf {w with holds:=W1 w.holds ((k:Int)+1)} x k)
 else(w,x)
def Wo.put(q:Wo×Rt)(k:Nat):Wo:={q.1 with roots:=q.1.roots.set k q.2}
def rt0:Rt:={}
def pg0:Pg:=([],[])
def Wi5(w:Wo)(k:Nat)(p:Pg):Wo:=Wo.put (WY w (w.roots.getD k rt0) k p) k
def Ww9(w:Wo)(x:Rt)(k j:Nat)(p:Pg):Wo:=Wo.put (w,{x with fam:=Wcy w.mem x.fam j (p.2.getD j [])}) k
def Wc2(s:Sc)(w0:Wo)(a:Ac):Wo:=
 let w:={w0 with now:=w0.now+1}
 if 0<=a.2.1/\a.2.1<w.roots.length then
  let k:=a.2.1.toNat
  let x:=w.roots.getD k rt0
  let p:=s.2.1.getD k pg0
  if a.1=1 then Wi5 w k p else
  if a.1=2 then(if x.phase=2/\0<=a.2.2/\a.2.2<p.2.length then Ww9 w x k a.2.2.toNat p else w)else
  if a.1=3 then(if(1<=x.phase/\x.phase<=4)\/(x.phase=5/\x.cm.phase<=3)then Wo.put (w,{x with doomed:=true}) k else w)else w
 else w
def Wge(s:Sc):Wo:={mem:=Wl6 s.1.1,shelf:=(Wpb s.1.2.1,s.1.2.2),roots:=Xt s.2.1.length {}}
def WbU(s:Sc):Wo:=s.2.2.foldl (Wc2 s) (Wge s)
structure RMk(code:List Opn)(pc:Nat)(marks:List RM)(rl wl ul:Nat):Prop where
 pcs:marks.map (·.1)=(stk code pc).map λm:Nat=>(m:Int)
 each:∀q∈marks,Vals 4 q.2.2.2.2/\(0<=q.2.1/\q.2.1<=q.1+72*frk code q.1.toNat/\q.2.1<=rl)/\(0<=q.2.2.1/\q.2.2.1<=q.1+8/\q.2.2.1<=wl)/\0<=q.2.2.2.1/\q.2.2.2.1<=q.1/\q.2.2.2.1<=ul
 up:marks.Pairwise λa b=>a.2.1<=b.2.1/\a.2.2.1<=b.2.2.1/\a.2.2.2.1<=b.2.2.2.1
structure RLive(p:Pg)(n:Int)(x:Rt):Prop where
 pc:0<=x.pc/\x.pc<=p.1.length
 spare:0<=x.spare/\x.spare<=2
 rv:0<=x.rv/\x.rv<=1000000
 regs:Vals 4 x.regs
 reads:Wi6 x.reads
 rl:(x.reads.length:Int)<=x.pc+72*frk p.1 x.pc.toNat
 writes:Wi6 x.writes
 wl:(x.writes.length:Int)<=x.pc+8
 ul:(x.undos.length:Int)<=x.pc
 marks:RMk p.1 x.pc.toNat x.marks x.reads.length x.writes.length x.undos.length
 pb:x.busy=true->WkN x.pb=true
 fork:x.phase=2->x.pc<p.1.length/\(opN p.1 x.pc).1=11/\FOk p.2 n x.fam
 back:x.phase=3\/x.phase=4->x.marks.length≠0
 newRv:0<=x.newRv/\x.newRv<=1000000
 pos:x.phase=4->0<=x.pos/\x.pos<=x.last.2.1
 unw:x.phase=4->(x.undos.length:Int)<=x.last.2.2.2.1
structure ROk(p:Pg)(n:Int)(x:Rt):Prop where
 phase:0<=x.phase/\x.phase<=8
 tries:0<=x.tries/\x.tries<=n
 live:1<=x.phase/\x.phase<=4->RLive p n x
 comm:x.phase=5->CmOk x.cm
 undos:∀u∈x.undos,UnV u
 ul:x.undos.length<=24
 rg:x.regs.length<=4
 ord:x.order.length<=3
structure POk(p:Pg):Prop where
 code:CC p.1
 kids:∀c∈p.2,KC c
 k3:p.2.length<=3
def HE(h:Wr):Prop:=h.2.2.length<=8/\Wi6 h.2.2/\1<=h.2.1/\h.2.1<=9
structure WOk(ps:List Pg)(n:Int)(w:Wo):Prop where
 len:w.roots.length=ps.length
 l4:ps.length<=4
 progs:∀p∈ps,POk p
 now:w.now=n
 n0:0<=n
 mem:W0 w.mem=true
 shelf:ShOk w.shelf
 holds:HOk w.holds
 hist:(w.hist.length:Int)<=n
 histE:∀h∈w.hist,HE h
 root:∀(k:Nat) (h:k<w.roots.length),ROk (ps.getD k pg0) n w.roots[k]
end
section
theorem rtP(x:Rt):x.e.1=x.phase/\x.e.2.1=x.tries/\x.e.2.2.1=x.spare/\x.e.2.2.2.1=x.pc/\P4 x.e=x.rv/\P5 x.e=x.newRv/\P6 x.e=x.pos/\P7 x.e=x.fate/\P8 x.e=x.stamp/\P11 x.e=x.doomed/\P12 x.e=x.regs/\P13 x.e=x.reads/\P14 x.e=x.writes/\P15 x.e=x.marks/\P16 x.e=x.undos/\P18 x.e=x.busy/\P19 x.e=x.pb/\P20 x.e=x.cm.e/\Q21 x.e=x.fam.e/\P24 x.e=x.fam.lost/\P28 x.e=x.fam.order/\P29 x.e=x.fam.reads:=
 ⟨rfl,rfl,rfl,rfl,rfl,rfl,rfl,rfl,rfl,rfl,rfl,rfl,rfl,rfl,rfl,rfl,rfl,rfl,rfl,rfl,rfl,rfl⟩
theorem S5e(w:Wo)(k:Nat)(x:Rt):S5 (Xl (w.roots.map Rt.e) k x.e) w.e=Wo.e {w with roots:=w.roots.set k x}:=by
 unfold S5 Wo.e;rw[Xfw]
theorem WcZ{w w':Wo}{k:Nat}{x':Rt}{y:Y_Root}{g:Y_World}(hy:y=x'.e)(hg:g=w'.e)(hr:w'.roots=w.roots):
  some ((S5 (Xl (w.roots.map Rt.e) k y) g,()),())=some (((Wo.put (w',x') k).e,()),()):=by
 subst hy hg;rw[←hr,S5e];rfl
variable{N:Nat}{w:Wo}{k:Nat}{x:Rt}{o:Opn}{p:Pg}{n:Int}{code:List Opn}
theorem woG(hk:k<w.roots.length)(aB:w.roots[k]=x):Xd (w.roots.map Rt.e) k d_Root=x.e/\Xd (w.roots.map Rt.e) (Xb (k:Int)) d_Root=x.e/\S5 (Xl (w.roots.map Rt.e) (Xb (k:Int)) x.e) w.e=w.e/\inb (k:Int) (w.roots.map Rt.e).length=true/\S5 (Xl (w.roots.map Rt.e) k x.e) w.e=w.e:=by
 have h1:Xd (w.roots.map Rt.e) k d_Root=x.e:=by
  have:=WgE Rt.e w.roots k {};rw[Wf hk,aB]at this;exact this
 have h2:S5 (Xl (w.roots.map Rt.e) k x.e) w.e=w.e:=by rw[S5e,←aB,Xbh]
 rw[Xj];refine⟨h1,h1,h2,?_,h2⟩;rw[W3,Xaf];exact decide_eq_true hk
theorem Wo8(hk:k<w.roots.length)(aB:w.roots[k]=x):Wo.put (w,x) k=w:=by
 unfold Wo.put;simp only;rw[←aB,Xbh]
theorem We7:Zbg N x.e=some (((Wdi x).e,()),()):=rfl
theorem Weq(hs:0<=x.spare/\x.spare<=2):Zcw N x.e=some (((WE x).e,()),()):=by
 obtain⟨r0,r1,r2,r3,r4,r5,r6,r7,r8,jR,jj,im,io,iL,iM,kC,kD,jS,jT,kE,kF,kG⟩:=rtP x;unfold Zcw WE;simp only[Wt,iL,r2,Wb,We7,Xc];by_cases h1:x.marks.length=0
 .rw[if_pos (by omega),if_pos (.inl h1)]
 .rw[if_neg (by omega)];by_cases h2:x.spare=2
  .rw[if_pos h2,if_pos (.inr h2)]
  .rw[if_neg h2,if_neg (by omega),Wm (by unfold I64;omega)];rfl
theorem WeK{α:Type}{l:List α}(h:l.length≠0)(hl:l.length<=1000)(d:α):inb (WU .i64 (Wb l) 1) l.length=true/\Xd l (Xb (WU .i64 (Wb l) 1)) d=WhG l d/\Xat (Xb (WU .i64 (Wb l) 1)) l=l.dropLast/\(decide ((0:Int)<=WU .i64 (Wb l) 1)&&decide (WU .i64 (Wb l) 1<=(l.length:Int)))=true:=by
 have e:WU .i64 (Wb l) 1=((l.length-1:Nat):Int):=by rw[WoK (by omega)];omega
 rw[e];refine⟨by rw[W3];exact decide_eq_true (by omega),by rw[Xj];rfl,by rw[Xj,List.dropLast_eq_take],by simp⟩
theorem WoF(h:x.marks.length≠0)(hl:x.marks.length<=1000):Zhh N x.e=some ((x.e,()),(x.last,())):=by
 obtain⟨a,b,c,d⟩:=WeK h hl zRM;unfold Zhh;rw[show x.e.2.2.2.2.2.2.2.2.2.2.2.2.2.2.2.1=x.marks from rfl,a];simp only[cond_true];rw[show((0:Int),((0:Int),((0:Int),((0:Int),([]:List Int)))))=zRM from rfl,b];rfl
theorem WlP(h:x.marks.length≠0)(hl:x.marks.length<=1000):Zde N x.e=some ((),((x.last.1,(x.last.2.1,(x.last.2.2.1,x.last.2.2.2.1))),())):=by
 obtain⟨a,b,c,d⟩:=WeK h hl zRM;unfold Zde;simp only[Wq];rw[show P15 x.e=x.marks from rfl,a];simp only[cond_true];rw[show((0:Int),((0:Int),((0:Int),((0:Int),([]:List Int)))))=zRM from rfl,b];rfl
theorem WkL(hk:k<w.roots.length)(aB:w.roots[k]=x)(hz:x.undos.length≠0)(hl:x.undos.length<=1000)(hu:∀u∈x.undos,UnV u)(hs:ShOk w.shelf)(hN:1048576<N):
  Zcb N w.e k=some (((Wo.put (WdR w x) k).e,()),()):=by
 obtain⟨g1,g2,g3,g4,g5⟩:=woG hk aB;obtain⟨a,b,c,d⟩:=WeK hz hl ((0,0,0):Un);have hmem:WhG x.undos ((0,0,0):Un)∈x.undos:=by
  unfold WhG;rw[Wf (show x.undos.length-1<x.undos.length by omega)];exact Xw _
 unfold Zcb WdR;simp only[Wq];rw[show P5 w.e=w.roots.map Rt.e from rfl,g1];rw[show x.e.2.2.2.2.2.2.2.2.2.2.2.2.2.2.2.2.1=x.undos from rfl,a,b,show w.e.2.2.2.1=w.shelf from rfl,WiF hs (hu _ hmem) hN,c];simp only[cond_true,Xc,d];exact WcZ rfl rfl rfl
theorem WsJ(hk:k<w.roots.length)(aB:w.roots[k]=x)(me:k<=1000):Zft N w.e (k:Int)=some (((Wo.put (Wkf w x k) k).e,()),()):=by
 obtain⟨g1,g2,g3,g4,g5⟩:=woG hk aB;unfold Zft Wkf;simp only[Wq];rw[show P5 w.e=w.roots.map Rt.e from rfl,g4,g2,Wcz (by omega),Xj];simp only[cond_true,Wt];rw[show w.e.2.1=w.token from rfl];by_cases h:w.token=(k:Int)+1
 .rw[if_pos h];simp only[if_pos h];exact WcZ rfl rfl rfl
 .rw[if_neg h];simp only[if_neg h];exact WcZ rfl rfl rfl
theorem WmQ(hk:k<w.roots.length)(aB:w.roots[k]=x)(me:k<=8)(hh:HOk w.holds)(kR:0<=x.rv/\x.rv<=1000000)(hr:Wa9 x.reads=true)(hw:Wa9 x.writes=true){out:Int}(hN:1048576<N):
  Zf9 N w.e (k:Int) out=some (((Wo.put (Waz w x k out) k).e,()),()):=by
 obtain⟨g1,g2,g3,g4,g5⟩:=woG hk aB;obtain⟨r0,r1,r2,r3,r4,r5,r6,r7,r8,jR,jj,im,io,iL,iM,kC,kD,jS,jT,kE,kF,kG⟩:=rtP x;have sW:=WhY hh;have tN:∀y:Rt,Zft N (S5 (Xl (w.roots.map Rt.e) (Xb (k:Int)) y.e) w.e) (k:Int)=some (((Wo.put (Wkf w y k) k).e,()),()):=λy=>by
  rw[Xj,S5e];have h1:k<({w with roots:=w.roots.set k y}:Wo).roots.length:=by simpa using hk
  rw[WsJ (x:=y) h1 (by simp) (by omega)];unfold Wkf Wo.put;simp only[Xdo]
 unfold Zf9 Waz;simp only[Wq];rw[show P5 w.e=w.roots.map Rt.e from rfl,g4,g2,Wcz (by omega),show P4 w.e=w.holds from rfl];have pz:∀{α:Type} (a b:α),(bif ((0:Int)==(0:Int))then a else b)=a:=λ_ _=>rfl;have zh:∀{α:Type} (a b:α),(bif ((0:Nat)==(0:Nat))then a else b)=a:=λ_ _=>rfl;simp only[pz,zh];simp only[cond_true,Wt,r4,im,io,Wim (who:=(k:Int)+1) hh (by omega) hN,ret,Xc,Wb];have xz:∀rows,Wa9 rows=true->Zd1 N ((k:Int)+1) x.rv rows x.reads=some ((),((Wbb ((k:Int)+1) x.rv rows x.reads).e,(true,()))):=λrows lm=>Wve (by omega) kR lm hr hN;have bz:Zd1 N ((k:Int)+1) x.rv ([]:List Kc) x.reads=some ((),((Wbb ((k:Int)+1) x.rv [] x.reads).e,(true,()))):=xz [] rfl;have aJ:(S8 x.rv (S7 out x.e))=Rt.e {x with fate:=out,stamp:=x.rv}:=rfl;rw[bz,xz _ hw,aJ,tN];simp only[Xc];by_cases ho:out=2
 .rw[if_pos ho,if_pos ho];by_cases hz:(Wfz w.holds ((k:Int)+1)).length=0
  .rw[if_pos (by omega),if_pos ⟨rfl,hz⟩]
  .rw[if_neg (by omega),if_neg (λh=>hz h.2),Xj];exact WcZ rfl rfl rfl
 .rw[if_neg ho,if_neg ho];by_cases hy:x.writes.length=0
  .rw[if_pos (by omega)];by_cases hz:(Wfz w.holds ((k:Int)+1)).length=0
   .rw[if_pos (by omega),if_pos ⟨hy,hz⟩]
   .rw[if_neg (by omega),if_neg (λh=>hz h.2),Xj];exact WcZ rfl rfl rfl
  .rw[if_neg (by omega),if_neg (λh=>hy h.1),Xj];exact WcZ rfl rfl rfl
theorem Wl1{l:List Rw}(h:Wi6 l)(hl:l.length<=300):Wa9 l=true:=by
 unfold Wa9;rw[WlE.2 h,decide_eq_true hl];rfl
theorem WfT(hc:CC code):∀j,j<=code.length->frk code j<=1
 |0,_=>by simp[frk]
 |j+1,h=>by
  have hj:j<code.length:=by omega
  by_cases c7:code[j].1=11
  .exact(hc.fk j hj c7).2
  .rw[WdP hj,show(code[j].1==11)=false by simpa using c7];have:=WfT hc j (by omega);simpa using this
theorem RLive.sz(hc:CC p.1)(h:RLive p n x):x.reads.length<=96/\x.writes.length<=32/\x.undos.length<=24/\x.marks.length<=24/\Wa9 x.reads=true/\Wa9 x.writes=true:=by
 have h1:=h.pc;have h2:=hc.len;have h3:=WfT hc x.pc.toNat (by omega);have h4:=h.rl;have h5:=h.wl;have h6:=h.ul;have h7:=congrArg Xa h.marks.pcs;simp only[Xaf]at h7;have h8:=Wbw hc.up x.pc.toNat (by omega);have h9:=(Wdr p.1 x.pc.toNat).2;exact⟨by omega,by omega,by omega,by omega,Wl1 h.reads (by omega),Wl1 h.writes (by omega)⟩
theorem Wrt(hb:x.busy=true->WkN x.pb=true){c:Int}(hc:0<=c/\c<=7):WkN (if x.busy then x.pb else(c,0,0,0))=true:=by
 split
 .exact hb ‹_›
 .rw[WeX];simp only;omega
theorem Wtw(hk:k<w.roots.length)(aB:w.roots[k]=x)(hc:CC p.1)(hx:RLive p n x)(hm:W0 w.mem=true)(h5:o.1=5)(ho:Waq o=true)(hN:1048576<N):
  Ziq N w.e k o=some (((Wo.put (w,Wc0 w x o) k).e,()),()):=by
 obtain⟨g1,g2,g3,g4,g5⟩:=woG hk aB;obtain⟨r0,r1,r2,r3,r4,r5,r6,r7,r8,jR,jj,im,io,iL,iM,kC,kD,jS,jT,kE,kF,kG⟩:=rtP x;obtain⟨z1,z2,z3,z4,z5,z6⟩:=hx.sz hc;obtain⟨hA,hB⟩:=Wv5 ho h5;have hB':0<=o.2.2.1/\o.2.2.1<=7:=by unfold W7 at hB;simpa using hB
 have df:=hx.regs.len;have aQ:=hx.pc;have hcl:=hc.len;have jl:=hx.spare;unfold Ziq Wc0;simp only[Wq];rw[show P5 w.e=w.roots.map Rt.e from rfl,g1,show w.e.2.2.1=w.mem from rfl];simp only[r3,r4,jj,im,io,kC,kD];rw[WeA (by omega) hN,WaZ hA df,Wcz (by omega)];cases hl:Wbf x.writes o.2.2.1 with
 |some v=>
  simp only[opI,Xc,cond_true];exact WcZ rfl rfl rfl
 |none=>
  have ao:Ww (x.reads.length+ [(o.2.2.1,(0:Int))].length)=true:=Wv (by simp;omega);have ll:Zes N o.2.2.1=some ((),((o.2.2.1,0,0,0),(true,()))):=by
   unfold Zes;rw[Wj,hB];rfl
  have gB:=Wrt hx.pb hB';have sB:S18 true x.e=Rt.e {x with busy:=true}:=rfl;simp only[opI,Xc,cond_false,Wt,ll,sB];have dW:∀q:Pb,S19 q (Rt.e {x with busy:=true})=Rt.e {x with busy:=true,pb:=q}:=λq=>rfl;simp only[dW,Weq (x:={x with busy:=true,pb:=_}) jl];cases hb:x.busy with
  |false=>
   rw[hb]at gB;simp only[Xam,if_false]at gB;rw[WeR hm gB hN];simp only[Xdn,cond_true,ret,Xc,Xam,if_false];generalize WZ w.mem x.rv (o.2.2.1,0,0,0)=q;by_cases h4:q.2.1=4
   .rw[if_pos h4,if_pos h4];exact WcZ rfl rfl rfl
   .rw[if_neg h4,if_neg h4];by_cases h3:q.2.1=3
    .rw[if_pos h3,if_pos h3,Wv (by simp;omega)];exact WcZ rfl rfl rfl
    .rw[if_neg h3,if_neg h3];exact WcZ rfl rfl rfl
  |true=>
   have bj:∀q:Pb,S19 q x.e=Rt.e {x with busy:=true,pb:=q}:=λq=>by
    have:S19 q x.e=Rt.e {x with pb:=q}:=rfl;rw[this]
    conv=>lhs;rw[show({x with pb:=q}:Rt)={x with busy:=x.busy,pb:=q}from rfl,hb]
   rw[hb]at gB;simp only[if_true]at gB;rw[WeR hm gB hN];simp only[Xaa,cond_false,ret,Xc,if_true,bj,Weq (x:={x with busy:=true,pb:=_}) jl];generalize WZ w.mem x.rv x.pb=q;by_cases h4:q.2.1=4
   .rw[if_pos h4,if_pos h4];exact WcZ rfl rfl rfl
   .rw[if_neg h4,if_neg h4];by_cases h3:q.2.1=3
    .rw[if_pos h3,if_pos h3,Wv (by simp;omega)];exact WcZ rfl rfl rfl
    .rw[if_neg h3,if_neg h3];exact WcZ rfl rfl rfl
end
end Go.Sx
