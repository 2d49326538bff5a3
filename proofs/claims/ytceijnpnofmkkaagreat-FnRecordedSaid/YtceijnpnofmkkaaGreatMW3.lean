/- Plain laws of the Lean functions. -/
import Derived.Test.YtceijnpnofmkkaaGreatMW2
open List renaming mem_append→Xn,pairwise_append→Xam,map_append→Xz,mem_singleton→Xac,getElem_mem→Xo,length_dropLast→Xdt,mem_of_mem_take→Xca,take→Xaf,length→Xa,length_map→Xab,mem_map→Xw,map_cons→Xae,set→Xk,all_eq_true→Xag,length_set→Xah,getElem_set→Xau,getD→Xd,getElem_replicate→Xbi,length_cons→Xr,append_eq→Xal,length_take→Xan,mem_or_eq_of_mem_set→Xdg,getElem_of_mem→Xao,sum_cons→Xcw,replicate→Xu
open Int renaming toNat_natCast→Xj,natCast_succ→Xgh,toNat→Xb,le_refl→Xx,le_trans→Xfg,lt_of_le_of_lt→Xcp,le_of_eq→Xgc
open Nat renaming le_refl→Xm
open Option renaming bind_some→Xc
open Bool renaming and_eq_false_iff→Xdq,and_eq_true→Xi,and_self→Xbl,eq_false_iff→Xbw
namespace Go.Sx
set_option linter.unusedVariables false
set_option linter.unusedSimpArgs false
section
section
variable{code:List Opn}{pc dU rl wl ul qZ kI q7:Nat}{ms q:List RM}{y:RM}{n n':Int}{x:Rt}{w:Wo}{p:Pg}{k:Nat}{o:Opn}
theorem Wh5(code:List Opn){a b:Nat}(h:a<=b):frk code a<=frk code b:=by
 simp_all [frk,List.Sublist.countP_le,List.take_sublist_take_left]
theorem RMk.mono(h:RMk code pc ms rl wl ul)(hs:stk code dU=stk code pc)(h1:rl<=qZ)(h2:wl<=kI)(h3:ul<=q7):RMk code dU ms qZ kI q7:=
 ⟨by rw[hs];exact h.pcs,λq hq=>by obtain⟨a,b,c,d⟩:=h.each q hq;grind,h.up⟩
theorem RMk.cut(h:RMk code pc ms rl wl ul)(qX:ms=q++ [y])(h1:y.2.1<=qZ)(h2:y.2.2.1<=kI)(h3:y.2.2.2.1<=q7):RMk code pc ms qZ kI q7:=by
 refine⟨h.pcs,λa ha=>?_,h.up⟩;obtain⟨c1,c2,c3,c4⟩:=h.each a ha;have hle:a.2.1<=y.2.1/\a.2.2.1<=y.2.2.1/\a.2.2.2.1<=y.2.2.2.1:=by
  have hu:=h.up;rw[qX]at ha hu;rcases Xn.1 ha with ha|ha
  .exact(Xam.1 hu).2.2 a ha y (by simp)
  simp_all
 grind
theorem RMk.begin(h:RMk code pc ms rl wl ul)(hp:pc<code.length)(h8:code[pc].1=8){regs:List Int}(hr:Vals 4 regs)(h1:rl<=pc+72*frk code pc)(h2:wl<=pc+8)(h3:ul<=pc):
  RMk code (pc+1) (ms++ [((pc:Int),(rl:Int),(wl:Int),(ul:Int),regs)]) rl wl ul:=by
 refine⟨?_,?_,?_⟩
 .rw[Wlf hp h8,Xz,Xz,h.pcs];rfl
 .intro q hq;rcases Xn.1 hq with hq|hq
  .exact h.each q hq
  grind
 .refine Xam.2 ⟨h.up,List.pairwise_singleton _ _,λa ha b hb=>?_⟩;rw[Xac]at hb;subst hb;obtain⟨c1,c2,c3,c4⟩:=h.each a ha;simp_all
theorem RMk.drop(h:RMk code pc ms rl wl ul)(qX:ms=q++ [y])(hs:stk code dU=(stk code pc).dropLast)(h1:y.2.1<=qZ)(h2:y.2.2.1<=kI)(h3:y.2.2.2.1<=q7):RMk code dU q qZ kI q7:=by
 have h':=h.cut qX h1 h2 h3;subst qX;have e:=h.pcs;refine⟨?_,λa ha=>h'.each a (List.mem_append_left _ ha),(Xam.1 h.up).1⟩
 grind
theorem RLive.wk(h:RLive p n x)(hn:n<=n'):RLive p n' x:={h with fork:=λh2=>by obtain⟨a,b,c⟩:=h.fork h2;exact⟨a,b,c.wk hn⟩}
theorem ROk.wk(h:ROk p n x)(hn:n<=n'):ROk p n' x:={h with tries:=by have:=h.tries;omega,live:=λhl=>(h.live hl).wk hn}
theorem RLive.on(aK:CC p.1)(h:RLive p n x)(h1:x.phase=1){i:Nat}(hi:i<p.1.length)(aT:x.pc=i){regs:List Int}{reads writes:List Rw}{marks:List RM}{undos:List Un}{busy:Bool}{pb:Pb}{dU:Nat}
  (hp:dU<=p.1.length) (hlt:i<dU) (hr:Vals 4 regs) (kJ:WdN reads) (dj:reads.length<=x.reads.length+1) (Ao:WdN writes) (qd:writes.length<=x.writes.length+1) (cH:undos.length<=x.undos.length+1) (hm:RMk p.1 dU marks reads.length writes.length undos.length) (hb:busy=true->Wlg pb=true):
  RLive p n {x with regs:=regs,reads:=reads,writes:=writes,marks:=marks,undos:=undos,busy:=busy,pb:=pb,pc:=(dU:Int)} where
 pc:=by simp_all
 spare:=h.spare
 rv:=h.rv
 regs:=hr
 reads:=kJ
 rl:=by
  have h2:=h.rl;have h3:=Wh5 p.1 (show i<=dU by omega)
  grind
 writes:=Ao
 wl:=by have:=h.wl;grind
 ul:=by have:=h.ul;grind
 marks:=by simp_all
 pb:=hb
 fork:=λh2=>by simp_all
 back:=λh2=>by simp_all
 newRv:=h.newRv
 pos:=λh2=>by simp_all
 unw:=λh2=>by simp_all
theorem Vals.le4{r:List Int}(h:Vals 4 r):r.length<=4:=Nat.le_of_eq h.len
theorem Wfg(h:ROk p n x):ROk p n (Wdf x) where
 phase:=by show(0:Int)<=6/\(6:Int)<=8;omega
 tries:=h.tries
 live:=λh=>by(change (1:Int)<=6/\(6:Int)<=4 at h;omega)
 comm:=λh=>by(change (6:Int)=5 at h;omega)
 undos:=h.undos
 ul:=h.ul
 rg:=by show([]:List Int).length<=4;simp
 ord:=by show([]:List Int).length<=3;simp
theorem WhL(h:ROk p n x)(hl:RLive p n x):ROk p n (WR x):=by
 unfold WR;split
 .exact Wfg h
 .rename_i hc;exact{h with
   phase:=by simp_all
   live:=λ_=>{hl with
    spare:=by have:=hl.spare;grind
    pb:=λh=>by cases h
    fork:=λh=>by simp_all
    back:=λ_=>by simp_all
    pos:=λh=>by simp_all
    unw:=λh=>by simp_all}
   comm:=λh=>by simp_all}
structure QOk(p:Pg)(n:Int)(w:Wo)(q:Wo×Rt):Prop where
 root:ROk p n q.2
 mem:W2 q.1.mem=true
 shelf:ShOk q.1.shelf
 holds:HOk q.1.holds
 hist:q.1.hist.length<=w.hist.length+1
 histE:∀h∈q.1.hist,h∈w.hist\/HE h
 roots:q.1.roots=w.roots
 now:q.1.now=w.now
structure GOk(w:Wo):Prop where
 mem:W2 w.mem=true
 shelf:ShOk w.shelf
 holds:HOk w.holds
theorem GOk.st(h:GOk w){y:Rt}(hy:ROk p n y):QOk p n w (w,y):=⟨hy,h.mem,h.shelf,h.holds,by simp,λ_ hh=>.inl hh,rfl,rfl⟩
theorem GOk.qt(h:GOk w){y:Rt}(hy:ROk p n y)(t:Int):QOk p n w ({w with token:=t},y):=⟨hy,h.mem,h.shelf,h.holds,by simp,λ_ hh=>.inl hh,rfl,rfl⟩
theorem Wug(h:GOk w)(hx:ROk p n x):QOk p n w (Wkw w x k):=by
 unfold Wkw;refine h.qt ?_ _;exact{hx with
  phase:=by simp_all
  live:=λh=>by simp_all
  comm:=λh=>by simp_all
  undos:=λu hu=>by cases hu
  ul:=by simp}
theorem Wn9(h:GOk w)(hx:ROk p n x)(jv:0<=x.rv/\x.rv<=1000000)(hk:k<=8){out:Int}:QOk p n w (WaC w x k out):=by
 unfold WaC;simp only;generalize (if out=2 then []else x.writes)=rows;split
 .exact Wug (x:={x with fate:=out,stamp:=x.rv}) h
   {phase:=hx.phase,tries:=hx.tries,live:=λhh=>{hx.live hh with},comm:=hx.comm,undos:=hx.undos,ul:=hx.ul,rg:=hx.rg,ord:=hx.ord}
 .refine h.st ?_;exact{hx with
   phase:=by simp_all
   live:=λh=>by simp_all
   comm:=λ_=>Wls (by omega) jv}
theorem WgK{α:Type}{l:List α}(h:l.length≠0)(d:α):Wh2 l d∈l:=by
 grind [Wh2,Wp,Xo]
theorem Wk3(h:GOk w)(hx:ROk p n x)(hz:x.undos.length≠0)(aK:1<=x.phase/\x.phase<=4->CC p.1/\(x.marks.length≠0->x.last.2.2.2.1<x.undos.length)):QOk p n w (Wea w x):=by
 unfold Wea;refine⟨?_,h.mem,WrV h.shelf (hx.undos _ (WgK hz _)),h.holds,by simp,λ_ hh=>.inl hh,rfl,rfl⟩;have hdl:x.undos.dropLast.length=x.undos.length-1:=Xdt;exact{hx with
  live:=λhh=>by
   have hl:=hx.live hh;obtain⟨c1,c2⟩:=aK hh;exact{hl with
    ul:=by have:=hl.ul;grind
    unw:=λh4=>by have:=hl.unw h4;show(x.undos.dropLast.length:Int)<=x.last.2.2.2.1;omega
    marks:=by
     show RMk p.1 x.pc.toNat x.marks x.reads.length x.writes.length x.undos.dropLast.length;by_cases hm:x.marks.length=0
     .have:x.marks= []:=List.eq_nil_of_length_eq_zero hm;have hM:=hl.marks;rw[this]at hM⊢;exact⟨hM.pcs,(λq hq=>by cases hq),hM.up⟩
     .obtain⟨m,q,e1,e2,⟨gS,kS⟩,e4,e5,e6,e7,e8,e9,mx,nh,qi,qj,my⟩:=hl.mk24 c1 hm;have:=c2 hm;exact hl.marks.cut e1 mx.2.2 nh.2.2 (by omega)}
  undos:=λu hu=>hx.undos u (by grind [List.dropLast_eq_take,Xca])
  ul:=by have:=hx.ul;grind}
theorem WuH(aK:CC p.1)(h:GOk w)(hx:ROk p n x)(hl:RLive p n x)(h1:x.phase=1){i:Nat}(hi:i<p.1.length)(aT:x.pc=i)(h5:p.1[i].1=5):ROk p n (Wdg w x p.1[i]):=by
 have aG:=Wxt (aK.ok i hi).1 h5;have hB:0<=p.1[i].2.2.1/\p.1[i].2.2.1<=7:=by grind [WaF]
 have hM:=hl.marks;rw[aT,Xj]at hM;have aM:stk p.1 (i+1)=stk p.1 i:=WgS hi (by omega) (by omega);have bZ:x.pc+1=((i+1:Nat):Int):=by omega
 unfold Wdg;cases hlr:Wbv x.writes p.1[i].2.2.1 with
 |some v=>
  have hv:=hl.writes _ (Wi2 hlr).2;simp only[bZ];exact{hx with rg:=Vals.le4 (hl.regs.set _ hv.2),live:=λ_=>RLive.on aK hl h1 hi aT (by omega) (by omega) (hl.regs.set _ hv.2) hl.reads (by omega) hl.writes (by omega) (by omega) (hM.mono aM (by omega) (by omega) (by omega)) hl.pb}
 |none=>
  simp only;have ch:=Wny (rv:=x.rv) h.mem (Wsa hl.pb hB);generalize W5 w.mem x.rv (if x.busy=true then x.pb else(p.1[i].2.2.1,0,0,0))=b at*;have hp:=We9.1 ch.1;have Aq:RLive p n {x with busy:=true,pb:=b}:={hl with pb:=λ_=>ch.1};have hbo:ROk p n {x with busy:=true,pb:=b}:={hx with live:=λ_=>Aq};split
  .grind [WhL]
  .split
   .simp only[bZ];refine{hx with rg:=Vals.le4 (hl.regs.set _ hp.2.2.2),live:=λ_=>RLive.on aK hl h1 hi aT (by omega) (by omega) (hl.regs.set _ hp.2.2.2) (λr hr=>?_) (by simp) hl.writes (by omega) (by omega) (hM.mono aM (by simp) (by omega) (by omega)) (λh=>by cases h)};rcases Xn.1 hr with hr|hr
    .exact hl.reads r hr
    simp_all
   omega
theorem Wsw(aK:CC p.1)(h:GOk w)(hx:ROk p n x)(hl:RLive p n x)(h1:x.phase=1)(hk:k<=8){i:Nat}(hi:i<p.1.length)(aT:x.pc=i):QOk p n w (Wb0 w x k p.1):=by
 have hM:=hl.marks;rw[aT,Xj]at hM;unfold Wb0;split
 .exact Wn9 h hx hl.rv hk
 .rename_i hz;obtain⟨m,q,e1,e2,⟨gS,kS⟩,e4,e5,e6,e7,e8,e9,mx,nh,qi,qj,my⟩:=hl.mk24 aK hz;split
  .grind [Wk3]
  .refine h.st ?_;rw[e8];simp only[e2,Xj,←Xgh];have hlen:=e5.len;have ht:(Xaf x.last.2.2.1.toNat x.writes).length=x.last.2.2.1.toNat:=by simp_all
   refine{hx with rg:=Vals.le4 (e9.set _ (by omega)),live:=λ_=>RLive.on aK hl h1 hi aT (dU:=WiD p.1 m+1) (by omega) (by omega) (e9.set _ (by omega)) hl.reads (by omega) (λr hr=>hl.writes r (Xca hr)) (by omega) (by omega) ?_ hl.pb};exact hM.drop e1 (by rw[e5.st,e7,aT];rfl) (by omega) (by omega) (by omega)
theorem WtP(aK:CC p.1)(h:GOk w)(hx:ROk p n x)(hl:RLive p n x)(h1:x.phase=1)(hk:k<=8){i:Nat}(hi:i<p.1.length)(aT:x.pc=i)(fO:12<=p.1[i].1):QOk p n w (WbO w x k p.1[i]):=by
 have ho:=(aK.ok i hi).1;have hM:=hl.marks;rw[aT,Xj]at hM;have aM:stk p.1 (i+1)=stk p.1 i:=WgS hi (by omega) (by omega);have bZ:x.pc+1=((i+1:Nat):Int):=by omega
 have cH:=hl.ul;have hcl:=aK.len;have tu:(0<=(WaH p.1[i]).1/\(WaH p.1[i]).1<=8)/\1<=(WaH p.1[i]).2/\(WaH p.1[i]).2<=2:=by
  grind [WaH,WoN,Wfu,WvL,WvN,WcX,Wwm]
 unfold WbO;cases ha:WaX w.holds ((k:Int)+1) (WaH p.1[i]).1 (WaH p.1[i]).2 with
 |none=>exact h.st (WhL hx hl)
 |some hs=>
  have Ar:HOk hs:=by
   unfold WaX at ha;split at ha
   .injection ha with ha;subst ha;exact WrH h.holds (by omega) tu.1 tu.2 ‹_›
   .cases ha
  obtain⟨b1,b2,b3,b4⟩:=WrX h.shelf hl.regs ho fO;simp only[bZ];refine⟨?_,h.mem,b1,Ar,by simp,λ_ hh=>.inl hh,rfl,rfl⟩;by_cases hz:(Wbx w.shelf p.1[i] x.regs).2.2.1=0
  .simp only[Wb hz];exact{hx with rg:=Vals.le4 b2,live:=λ_=>RLive.on aK hl h1 hi aT (by omega) (by omega) b2 hl.reads (by omega) hl.writes (by omega) (by omega) (hM.mono aM (by omega) (by omega) (by omega)) hl.pb}
  .simp only[Wa hz];refine{hx with rg:=Vals.le4 b2,live:=λ_=>RLive.on aK hl h1 hi aT (by omega) (by omega) b2 hl.reads (by omega) hl.writes (by omega) (by simp) (hM.mono aM (by omega) (by omega) (by simp)) hl.pb,undos:=λu hu=>?_,ul:=by simp;omega};rcases Xn.1 hu with hu|hu
   .exact hx.undos u hu
   simp_all
theorem Ww3(hp:POk p)(h:GOk w)(hx:ROk p n x)(h1:x.phase=1)(hk:k<=8)(hn:0<=n):QOk p n w (Wgk w x k p):=by
 have hl:=hx.live (by omega);have aK:=hp.code;unfold Wgk;split
 .exact Wn9 h hx hl.rv hk
 .obtain⟨i,hi,aT,ho⟩:=WfI (l:=p.1) hl.pc.1 (by omega);simp only[ho];obtain⟨ok,o1,gD⟩:=aK.ok i hi;have hM:=hl.marks;rw[aT,Xj]at hM;have bZ:x.pc+1=((i+1:Nat):Int):=by omega
  have dj:=hl.rl;have qd:=hl.wl;have cH:=hl.ul;rw[aT,Xj]at dj;split
  .exact h.st (WuH aK h hx hl h1 hi aT ‹_›)
  .split
   .grind [Wsw]
   .split
    .rename_i fz;refine h.st ?_;exact{hx with
      phase:=by simp_all
      live:=λ_=>{hl with
       fork:=λ_=>⟨by simp_all,by simp_all,Wtl hl.regs hn⟩
       back:=λh=>by simp_all
       pos:=λh=>by simp_all
       unw:=λh=>by simp_all}
      comm:=λh=>by simp_all}
    .split
     .grind [WtP]
     .split
      .refine h.st ?_;have hk:=Wyr ok ‹_›;have aM:stk p.1 (i+1)=stk p.1 i:=WgS hi (by omega) (by omega);simp only[bZ];refine{hx with live:=λ_=>RLive.on aK hl h1 hi aT (by omega) (by omega) hl.regs hl.reads (by omega) (λr hr=>?_) (by simp) (by omega) (hM.mono aM (by omega) (by simp) (by omega)) hl.pb};rcases Xn.1 hr with hr|hr
       .exact hl.writes r hr
       .rw[Xac]at hr;subst hr;have:=hk.1;unfold WaF at this;exact⟨by simp_all,hl.regs.get _⟩
      .split
       .refine h.st ?_;obtain⟨s1,s2⟩:=aK.sk i hi ‹_›;have hk:=Wxs ok ‹_›;have aM:stk p.1 (i+1)=stk p.1 i:=WgS hi (by omega) (by omega);have qe:stk p.1 (i+1+p.1[i].2.2.1.toNat)=stk p.1 i:=by grind [Wp9]
        by_cases hg:Wcl x.regs p.1[i].2.1 0=0
        .simp only[Wb hg,show x.pc+p.1[i].2.2.1+1=((i+1+p.1[i].2.2.1.toNat:Nat):Int) by omega];exact{hx with live:=λ_=>RLive.on aK hl h1 hi aT s1 (by omega) hl.regs hl.reads (by omega) hl.writes (by omega) (by omega) (hM.mono qe (by omega) (by omega) (by omega)) hl.pb}
        .simp only[Wa hg,bZ];exact{hx with live:=λ_=>RLive.on aK hl h1 hi aT (by omega) (by omega) hl.regs hl.reads (by omega) hl.writes (by omega) (by omega) (hM.mono aM (by omega) (by omega) (by omega)) hl.pb}
       .split
        .refine h.st ?_;simp only[bZ];rw[aT];exact{hx with live:=λ_=>RLive.on aK hl h1 hi aT (by omega) (by omega) hl.regs hl.reads (by omega) hl.writes (by omega) (by omega) (hM.begin hi ‹_› hl.regs (by omega) (by omega) (by omega)) hl.pb}
        .split
         .rename_i h9;refine h.st ?_;have hz:x.marks.length≠0:=λhz=>by
           have h1:=Wk Xa hM.pcs;simp only[Xab,hz]at h1;have h2:=WbJ aK.up i (by omega);have h3:=aK.up i hi
           grind [WaJ,WrF]
          obtain⟨m,q,e1,e2,⟨gS,kS⟩,e4,e5,e6,e7,e8,e9,mx,nh,qi,qj,my⟩:=hl.mk24 aK hz;simp only[bZ];rw[e8];exact{hx with rg:=Vals.le4 (hl.regs.set _ (by omega)),live:=λ_=>RLive.on aK hl h1 hi aT (by omega) (by omega) (hl.regs.set _ (by omega)) hl.reads (by omega) hl.writes (by omega) (by omega) (hM.drop e1 (Wn0 hi h9) (by omega) (by omega) (by omega)) hl.pb}
         .refine h.st ?_;have aM:stk p.1 (i+1)=stk p.1 i:=WgS hi (by omega) (by omega);simp only[bZ];exact{hx with rg:=Vals.le4 (Wk0 ok (by omega) (by omega) hl.regs),live:=λ_=>RLive.on aK hl h1 hi aT (by omega) (by omega) (Wk0 ok (by omega) (by omega) hl.regs) hl.reads (by omega) hl.writes (by omega) (by omega) (hM.mono aM (by omega) (by omega) (by omega)) hl.pb}
theorem Wva(h:GOk w)(hx:ROk p n x)(hu:x.phase=0)(hcl:0<=(p.1.length:Int)):QOk p n w (Wds w x k):=by
 have lC:=WF h.mem;unfold Wds;split
 .exact h.st hx
 .split
  .exact h.qt hx _
  .split
   .exact h.st hx
   .refine h.st ?_;exact{
     phase:=by simp_all
     tries:=hx.tries
     live:=λ_=>{
      pc:=by simp_all
      spare:=by simp_all
      rv:=⟨lC.2.1,lC.2.2.1⟩
      regs:=⟨rfl,λv hv=>by simp_all⟩
      reads:=λr hr=>by cases hr
      rl:=by simp;omega
      writes:=λr hr=>by cases hr
      wl:=by simp
      ul:=by simp
      marks:=⟨by simp[stk],(λq hq=>by cases hq),List.Pairwise.nil⟩
      pb:=λh=>by cases h
      fork:=λh=>by simp_all
      back:=λh=>by simp_all
      newRv:=by simp_all
      pos:=λh=>by simp_all
      unw:=λh=>by simp_all}
     comm:=λh=>by simp_all
     undos:=λu hu=>by cases hu
     ul:=by simp
     rg:=by simp
     ord:=by simp}
theorem Wm1{codes:List (List Opn)}{f:Fm}(h:FOk codes n f):WdN (WiE f)/\(WiE f).length<=8:=by
 refine⟨λr hr=>?_,by unfold WiE;rw[Xab];exact h.buf8⟩;obtain⟨e,he,rfl⟩:=Xw.1 hr;have:=h.bufE e he;omega
theorem WjZ{codes:List (List Opn)}{f:Fm}(h:FOk codes n f)(h3:codes.length<=3):Vals 4 (Wjs f):=by
 have hl:=h.len;have hr:=h.regs;unfold Wjs;rw[Wb ⟨Wfh.2 hr,by omega⟩];refine⟨by simp[hr.len];omega,λv hv=>?_⟩;rcases Xn.1 hv with hv|hv
 .obtain⟨y,hy,rfl⟩:=Xw.1 hv;unfold Wwg;split
  .rename_i hc;exact(Wfh.1 hc.2).get _
  .omega
 .exact hr.val v (List.mem_of_mem_drop hv)
theorem WuZ(hp:POk p)(hx:ROk p n x)(h2:x.phase=2):ROk p n (WbR x):=by
 have hl:=hx.live (by omega);have aK:=hp.code;obtain⟨f1,f2,f3⟩:=hl.fork h2;obtain⟨i,hi,aT,ho⟩:=WfI (l:=p.1) hl.pc.1 f1;rw[ho]at f2;have hM:=hl.marks;have dj:=hl.rl;have cH:=hl.ul;rw[aT,Xj]at hM dj;unfold WbR;split
 .exact Wfg hx
 .split
  .have hz:x.marks= []:=by
    have h1:=Wk Xa hM.pcs;simp only[Xab]at h1;have h3:=WbJ aK.up i (by omega);have h4:=(aK.fk i hi f2).1;simp_all
   have aM:stk p.1 (i+1)=stk p.1 i:=WgS hi (by omega) (by omega);have As:=Wm1 f3;have qf:=f3.len3 hp.k3;have Au:=f3.readsL;have wI:frk p.1 (i+1)=frk p.1 i+1:=by grind [Weg]
   exact{hx with
    phase:=by simp_all
    rg:=(WjZ f3 hp.k3).le4
    ord:=qf
    live:=λ_=>{hl with
     pc:=by grind
     regs:=WjZ f3 hp.k3
     reads:=λr hr=>by
      rcases Xn.1 hr with hr|hr
      .exact hl.reads r hr
      .exact f3.readsE r hr
     rl:=by
      grind
     writes:=As.1
     wl:=by grind
     ul:=by grind
     marks:=by
      show RMk p.1 (x.pc+1).toNat x.marks _ _ _;rw[show(x.pc+1).toNat=i+1 by omega];rw[hz]at hM⊢;exact⟨by rw[aM];exact hM.pcs,(λq hq=>by cases hq),List.Pairwise.nil⟩
     fork:=λh=>by simp_all
     back:=λh=>by simp_all
     pos:=λh=>by simp_all
     unw:=λh=>by simp_all}
    comm:=λh=>by simp_all}
  .exact hx
theorem Wre(hp:POk p)(h:GOk w)(hx:ROk p n x)(h3:x.phase=3):QOk p n w (Wa1 w x):=by
 have hl:=hx.live (by omega);have hz:=hl.back (.inl h3);obtain⟨m,q,e1,e2,⟨gS,kS⟩,e4,e5,e6,e7,e8,e9,mx,nh,qi,qj,my⟩:=hl.mk24 hp.code hz;have lC:=WF h.mem;unfold Wa1;split
 .exact Wk3 h hx (by omega) λ_=>⟨hp.code,λ_=>by omega⟩
 .refine h.st ?_;exact{hx with
   phase:=by simp_all
   live:=λ_=>{hl with
    fork:=λh=>by simp_all
    back:=λ_=>hz
    newRv:=⟨lC.2.1,lC.2.2.1⟩
    pos:=λ_=>by(show(0:Int)<=0/\(0:Int)<=x.last.2.1;omega)
    unw:=λ_=>by(show(x.undos.length:Int)<=x.last.2.2.2.1;omega)}
   comm:=λh=>by simp_all}
theorem WrB(hp:POk p)(h:GOk w)(hx:ROk p n x)(h4:x.phase=4):ROk p n (WaA w x):=by
 have hl:=hx.live (by omega);have hz:=hl.back (.inr h4);have ch:=hl.pos h4;obtain⟨m,q,e1,e2,⟨gS,kS⟩,e4,e5,e6,e7,e8,e9,mx,nh,qi,qj,my⟩:=hl.mk24 hp.code hz;unfold WaA;split
 .simp only;split
  .exact Wfg hx
  .exact{hx with live:=λ_=>{hl with pos:=λ_=>by(show 0<=x.pos+1/\x.pos+1<=x.last.2.1;omega)}}
 .rename_i fB;have aM:stk p.1 (m+1)=stk p.1 x.pc.toNat:=by
   have Av:=hl.pc;rw[Wlf gS kS,e7];rcases Wcd (stk p.1 x.pc.toNat)with h0|⟨t,j,ht⟩
   .have h1:=Wk Xa hl.marks.pcs;simp_all
   .have h1:=hl.marks.pcs;rw[e1,ht]at h1;simp only[Xz,Xae,List.map_nil]at h1;have h2:=(List.append_inj' h1 rfl).2;injection h2 with h2;rw[e2]at h2;rw[ht,List.dropLast_concat,show m=j by omega]
  have vf:=Wh5 p.1 (show m<=m+1 by omega);rw[e2,Xj]at mx;have bZ:x.last.1+1=((m+1:Nat):Int):=by omega
  have t1:(Xaf x.last.2.1.toNat x.reads).length=x.last.2.1.toNat:=by simp_all
  have t2:(Xaf x.last.2.2.1.toNat x.writes).length=x.last.2.2.1.toNat:=by simp_all
  exact{hx with
   phase:=by simp_all
   rg:=e9.le4
   live:=λ_=>{hl with
    pc:=by grind
    rv:=hl.newRv
    regs:=e9
    reads:=λr hr=>hl.reads r (Xca hr)
    rl:=by
     grind
    writes:=λr hr=>hl.writes r (Xca hr)
    wl:=by grind
    ul:=by
     show(x.undos.length:Int)<=x.last.1+1;have:=hl.unw h4;omega
    marks:=by
     show RMk p.1 (x.last.1+1).toNat x.marks (Xaf x.last.2.1.toNat x.reads).length (Xaf x.last.2.2.1.toNat x.writes).length x.undos.length;rw[bZ,Xj,t1,t2];exact(hl.marks.cut e1 (by omega) (by omega) my).mono aM (Xm _) (Xm _) (Xm _)
    fork:=λh=>by simp_all
    back:=λh=>by omega
    newRv:=by simp_all
    pos:=λh=>by simp_all
    unw:=λh=>by simp_all}
   comm:=λh=>by simp_all}
end
end
section
section
variable{N:Nat}{w:Wo}{k:Nat}{x:Rt}{p:Pg}{n:Int}{ps:List Pg}
theorem WrM(h:GOk w)(hx:ROk p n x)(h5:x.phase=5)(hk:k<=8):QOk p n w (Waf w x k):=by
 have hc:=hx.comm h5;unfold Waf;split
 .split
  .exact h.st (Wfg hx)
  .refine h.st ?_;exact{hx with live:=λhh=>by simp_all,comm:=λ_=>WrN hc}
 .have aM:=WmS hc h.mem;obtain⟨m',c',hq⟩:∃m' c',Ws w.mem x.cm=(m',c'):=⟨_,_,rfl⟩;simp only[hq]at aM⊢;refine⟨?_,aM.2,h.shelf,h.holds,?_,?_,rfl,rfl⟩
  .have hy:ROk p n {x with cm:=c'}:={hx with live:=λhh=>by simp_all,comm:=λ_=>aM.1};unfold WaL;simp only;split
   .exact Wfg hy
   .split
    .have aW:(if x.fate=2 then(6:Int)else 7)=6\/(if x.fate=2 then(6:Int)else 7)=7:=by split<;>simp
     generalize (if x.fate=2 then(6:Int)else 7)=ph at*;exact{hx with
      phase:=by grind
      live:=λhh=>by grind
      comm:=λhh=>by simp_all}
    .exact hy
  .simp only;split<;>simp
  .simp only;intro h hh;split at hh
   .rcases Xn.1 hh with hh|hh
    .grind
    .rw[Xac]at hh;subst hh;exact .inr ⟨aM.1.plen,aM.1.rows,by grind,by grind⟩
   simp_all
theorem Wid(hp:POk p)(h:GOk w)(hx:ROk p n x)(hk:k<=8)(hn:0<=n):QOk p (n+1) w (WW w x k p):=by
 have kV:=hx.wk (show n<=n+1 by omega);unfold WW;by_cases hd:x.doomed=true/\1<=x.phase/\x.phase<=4
 .rw[Wb hd];exact h.st (Wfg kV)
 rw[Wa hd];by_cases h0:x.phase=0
 .simp_all [Wb,Wva]
 rw[Wa h0];by_cases h1:x.phase=1
 .rw[Wb h1];grind [Ww3]
 rw[Wa h1];by_cases h2:x.phase=2
 .rw[Wb h2];exact h.st (WuZ hp kV h2)
 rw[Wa h2];by_cases h3:x.phase=3
 .simp_all [Wb,Wre]
 rw[Wa h3];by_cases h4:x.phase=4
 .rw[Wb h4];exact h.st (WrB hp h kV h4)
 rw[Wa h4];by_cases h5:x.phase=5
 .simp_all [Wb,WrM]
 rw[Wa h5];by_cases h6:x.phase=6
 .rw[Wb h6];by_cases hz:x.undos.length>0
  .rw[Wb hz];grind [Wk3]
  .rw[Wa hz];refine h.st ?_;exact{kV with
    phase:=by simp_all
    live:=λhh=>by simp_all
    comm:=λhh=>by simp_all}
 rw[Wa h6];by_cases h7:x.phase=7
 .rw[Wb h7];have hg:GOk {w with holds:=W7 w.holds ((k:Int)+1)}:=⟨h.mem,h.shelf,WiP h.holds⟩;by_cases hf:x.fate=0
  .rw[Wb hf];refine⟨?_,h.mem,h.shelf,WiP h.holds,by simp,λ_ hh=>.inl hh,rfl,rfl⟩;exact{
    phase:=by simp_all
    tries:=by have:=hx.tries;grind
    live:=λhh=>by simp_all
    comm:=λhh=>by simp_all
    undos:=λu hu=>by cases hu
    ul:=by simp
    rg:=by simp
    ord:=by simp}
  .rw[Wa hf];have:=Wug (k:=k) hg kV;exact⟨this.root,this.mem,this.shelf,this.holds,this.hist,this.histE,this.roots,this.now⟩
 .rw[Wa h7];exact h.st kV
theorem Wvi(hk:k<w.roots.length)(aQ:w.roots[k]=x)(jj:w.roots.length<=8)(hp:POk p)(h:GOk w)(hx:ROk p n x)(hn:n<=200000)(hh:w.hist.length<=500000)(hN:1048576<N):
  Zhr N w.e (k:Int) p=some (((Wo.put (WW w x k p) k).e,()),()):=by
 obtain⟨g1,g2,g3,g4,g5⟩:=woG hk aQ;obtain⟨r0,r1,r2,r3,r4,r5,r6,r7,r8,jT,ji,im,io,iN,iO,kN,kO,jU,jV,kP,kQ,kR⟩:=rtP x;have q8:k<=8:=by omega
 have gv:=Wqq hk aQ;have ng:=hx.tries;have Aw:=hx.ul;have uJ:=Wmi h.holds;unfold Zhr WW;simp only[WD];rw[show P5 w.e=w.roots.map Rt.e from rfl,g4,g2,WcO (by omega),WcO (show 0<=x.e.2.1/\x.e.2.1<=1000000 by omega)];simp(maxSteps:=4000000) only[g3,r0,r7,jT,iO,We,WV,ret,Xc,Wfb,WH,WaV,show w.e.2.2.1.1=w.mem.1 from rfl,Wj,show P4 w.e=w.holds from rfl];rw[Wh4 h.holds (by omega) hN];simp only[ret,Xc];have hS4:S4 (W7 w.holds ((k:Int)+1)) w.e=Wo.e {w with holds:=W7 w.holds ((k:Int)+1)}:=rfl;have Ax:S5 (Xk (w.roots.map Rt.e) (Xb (k:Int)) x.e) (S4 (W7 w.holds ((k:Int)+1)) w.e)=Wo.e {w with holds:=W7 w.holds ((k:Int)+1)}:=(woG (w:={w with holds:=W7 w.holds ((k:Int)+1)}) hk aQ).2.2.1;rw[Ax,WtC (w:={w with holds:=W7 w.holds ((k:Int)+1)}) hk aQ (by omega),WvA hk aQ jj hN];have gj:∀(A:Option ((Y_World×Unit)×Unit)),A=some (((Wo.put (
   if x.phase=0 then Wds w x k else
   if x.phase=1 then Wgk w x k p else
   if x.phase=2 then(w,WbR x)else
   if x.phase=3 then Wa1 w x else
   if x.phase=4 then(w,WaA w x)else
   if x.phase=5 then Waf w x k else
   if x.phase=6 then(if x.undos.length>0 then Wea w x else(w,{x with phase:=7}))else
   if x.phase=7 then
    (if x.fate=0 then({w with holds:=W7 w.holds ((k:Int)+1)},{tries:=x.tries+1})
     else Wkw {w with holds:=W7 w.holds ((k:Int)+1)} x k)
   else(w,x)) k).e,()),())->¬(x.doomed=true/\1<=x.phase/\x.phase<=4)->A=some (((Wo.put (
   if x.doomed=true/\1<=x.phase/\x.phase<=4 then(w,Wdf x)else
   if x.phase=0 then Wds w x k else
   if x.phase=1 then Wgk w x k p else
   if x.phase=2 then(w,WbR x)else
   if x.phase=3 then Wa1 w x else
   if x.phase=4 then(w,WaA w x)else
   if x.phase=5 then Waf w x k else
   if x.phase=6 then(if x.undos.length>0 then Wea w x else(w,{x with phase:=7}))else
   if x.phase=7 then
    (if x.fate=0 then({w with holds:=W7 w.holds ((k:Int)+1)},{tries:=x.tries+1})
     else Wkw {w with holds:=W7 w.holds ((k:Int)+1)} x k)
   else(w,x)) k).e,()),()):=λA hA hn=>by grind
 have tw:(if x.phase=0 then(some (((Wo.put (Wds w x k) k).e,()),()):Option ((Y_World×Unit)×Unit)).bind (λo6=>some ((o6.1.1,()),()))
   else if x.phase=1 then(Zig N w.e (k:Int) p).bind (λo7=>some ((o7.1.1,()),()))
   else if x.phase=2 then(Zih N x.e).bind (λo8=>some ((S5 (Xk (w.roots.map Rt.e) (Xb (k:Int)) o8.1.1) w.e,()),()))
   else if x.phase=3 then(Zd2 N x.e).bind (λo9=>if(x.undos.length:Int)>o9.2.1.2.2.2 then(Zcn N w.e (Xb (k:Int))).bind (λcr=>some ((cr.1.1,()),()))else some ((S5 (Xk (w.roots.map Rt.e) (Xb (k:Int)) (S6 0 (S5 w.mem.1 (S0 4 x.e)))) w.e,()),()))
   else if x.phase=4 then(Zgj N w.e (Xb (k:Int))).bind (λiG=>some ((iG.1.1,()),()))
   else if x.phase=5 then(Zgk N w.e (k:Int)).bind (λdO=>some ((dO.1.1,()),()))
   else if x.phase=6 then(if(x.undos.length:Int)>0 then(Zcn N w.e (Xb (k:Int))).bind (λbX=>some ((bX.1.1,()),()))else some ((S5 (Xk (w.roots.map Rt.e) (Xb (k:Int)) (7,x.e.2)) w.e,()),()))
   else if x.phase=7 then(if x.fate=0 then some ((S5 (Xk (w.roots.map Rt.e) (Xb (k:Int)) ((0:Int),(x.e.2.1+1,((0:Int),((0:Int),((0:Int),((0:Int),((0:Int),((0:Int),((0:Int),((0:Int),((0:Int),(false,(([]:List Int),(([]:List Kc),(([]:List Kc),(([]:List Kj),(([]:List Kb),(([]:List Int),(false,(((0:Int),((0:Int),((0:Int),(0:Int)))),(((0:Int),((0:Int),((0:Int),((0:Int),((0:Int),(([]:List Kc),([]:List Int))))))),d_Family)))))))))))))))))))))) (S4 (W7 w.holds ((k:Int)+1)) w.e),()),())else(some (((Wo.put (Wkw {w with holds:=W7 w.holds ((k:Int)+1)} x k) k).e,()),()):Option ((Y_World×Unit)×Unit)).bind (λmV=>some ((mV.1.1,()),())))
   else some ((w.e,()),()))=some (((Wo.put (
   if x.phase=0 then Wds w x k else
   if x.phase=1 then Wgk w x k p else
   if x.phase=2 then(w,WbR x)else
   if x.phase=3 then Wa1 w x else
   if x.phase=4 then(w,WaA w x)else
   if x.phase=5 then Waf w x k else
   if x.phase=6 then(if x.undos.length>0 then Wea w x else(w,{x with phase:=7}))else
   if x.phase=7 then
    (if x.fate=0 then({w with holds:=W7 w.holds ((k:Int)+1)},{tries:=x.tries+1})
     else Wkw {w with holds:=W7 w.holds ((k:Int)+1)} x k)
   else(w,x)) k).e,()),()):=by
  rw[Xj];by_cases h0:x.phase=0
  .simp_all
  .rw[Wa h0,Wa h0];by_cases h1:x.phase=1
   .rw[Wb h1,Wb h1,WwB hk aQ q8 hp (hx.live (by omega)) hx.undos h.mem h.shelf h.holds hN];rfl
   .rw[Wa h1,Wa h1];by_cases h2:x.phase=2
    .rw[Wb h2,Wb h2,Wuw hp (hx.live (by omega)) h2 hN];exact Wdh rfl rfl rfl
    .rw[Wa h2,Wa h2];by_cases h3:x.phase=3
     .have hl:=hx.live (by omega);obtain⟨z1,z2,z3,z4,z5,z6⟩:=hl.sz hp.code;rw[Wb h3,Wb h3,WmV (hl.back (.inl h3)) (by omega)];simp only[Xc];have cX:=(hl.mk24 hp.code (hl.back (.inl h3)));obtain⟨m,q,e1,e2,_,_,_,_,_,_,_,_,_,my⟩:=cX;unfold Wa1;by_cases hgt:(x.undos.length:Int)>x.last.2.2.2.1
      .rw[Wb hgt,Wb hgt,Wly hk aQ (by omega) (by omega) hx.undos h.shelf hN];rfl
      .rw[Wa hgt,Wa hgt];exact Wdh rfl rfl rfl
     .rw[Wa h3,Wa h3];by_cases h4:x.phase=4
      .rw[Wb h4,Wb h4,Wrg hk aQ hp (hx.live (by omega)) h4 h.mem];rfl
      .rw[Wa h4,Wa h4];by_cases h5:x.phase=5
       .rw[Wb h5,Wb h5,Wra hk aQ q8 (hx.comm h5) h.mem hh hN];rfl
       .rw[Wa h5,Wa h5];by_cases h6:x.phase=6
        .rw[Wb h6,Wb h6];by_cases hz:x.undos.length>0
         .rw[Wb (by omega),Wb hz,Wly hk aQ (by omega) (by omega) hx.undos h.shelf hN];rfl
         .rw[Wa (by omega),Wa hz];exact Wdh rfl rfl rfl
        .rw[Wa h6,Wa h6];by_cases h7:x.phase=7
         .rw[Wb h7,Wb h7];by_cases hf:x.fate=0
          .rw[Wb hf,Wb hf,hS4];exact Wdh (w:=w) (w':={w with holds:=W7 w.holds ((k:Int)+1)}) (x':={tries:=x.tries+1}) rfl rfl rfl
          .rw[Wa hf,Wa hf];rfl
         simp_all
 rw[Wig];by_cases hd:x.doomed=true
 .rw[Wb hd];by_cases aW:1<=x.phase/\x.phase<=4
  .rw[Wf aW.1,Wf aW.2,Wb (show x.doomed=true/\1<=x.phase/\x.phase<=4 from⟨hd,aW⟩),Xj];exact Wdh rfl rfl rfl
  .have hb:(decide (1<=x.phase)&&decide (x.phase<=4))=false:=by
    rw[Xdq,Wy,Wy];omega
   rw[hb];exact gj _ tw (λhc=>aW hc.2)
 grind
end
end
section
noncomputable def Wpi(p:Pg):Bool:=p.2.all Who&&(WrD p.1&&(decide (p.2.length<=3)&&beq (p.1.any λo=>o.1==11) (decide (p.2.length>0))))
noncomputable def Wmo(s:Sc):Bool:=WuD s.1&&(decide (s.2.1.length<=4)&&(decide (s.2.2.length<=400)&&s.2.1.all Wpi))
structure PB(p:Pg):Prop where
 code:p.1.length<=1000
 kids:p.2.length<=1000
 each:∀c∈p.2,c.length<=1000
structure SB(s:Sc):Prop where
 cells:s.1.1.length<=100
 map:s.1.2.1.length<=100
 progs:s.2.1.length<=100
 each:∀p∈s.2.1,PB p
 acts:s.2.2.length<=1000
variable{N:Nat}{s:Sc}{p:Pg}{w:Wo}{n:Int}{a:Ac}
theorem Wxa(h:Wpi p=true):POk p:=by
 unfold Wpi at h;simp only[Xi,Xag,Wh]at h;exact⟨WxB h.2.1,λc hc=>Wyz (h.1 c hc),h.2.2.1⟩
theorem WeR(h:Wmo s=true):ThOk s.1/\s.2.1.length<=4/\s.2.2.length<=400/\∀p∈s.2.1,POk p:=by
 simp_all [Wmo,Xi,Xag,Wh,WuG,Wxa]
theorem WoW{α:Type}(l:List α)(k:Nat):decide ((Wj l)<=(k:Int))=decide (l.length<=k):=by
 simp[Wj,Wf,Wq]
theorem WiF{α:Type}(l:List α)(k:Nat):decide ((Wj l)>(k:Int))=decide (l.length>k):=by
 simp[Wj,Wf,Wq]
theorem WiM(l k:Nat):decide (l>k)= !decide (l<=k):=by
 grind
theorem Wm9{l:List Opn}(hl:l.length<=1048576)(hN:1048576<N):Zh0 N l=ret (l.any λo=>o.1==11):=by
 unfold Zh0 Za0 Z3;have h1:=WlV (l:=l) (p:=λo=>o.1==11) (N:=N) (lp:=λn j=>Zn N l (λaq=>(some ((),(aq,())))) (λaH ba=>(some ((),((-1:Int),())))) n j) (K0:=λj=>some ((),(j,()))) (K1:=some ((),((-1:Int),()))) (by omega) (by omega)
  (λn j hj=>by
   simp only[Zn,W4 hj,Ww hj,Wx hj,Wn (show j<4611686018427387904 by omega),We,Zn7,Xc])
  (λn=>by simp[Zn,Wae,Xm,Wc])
 rw[h1];have h2:=Wlx (p:=λo:Opn=>o.1==11) l 0;cases hf:fnd (λo:Opn=>o.1==11) l 0 with
 |some r=>
  simp_all
 |none=>
  grind
theorem Wmx(h:PB p)(hN:1048576<N):Ziy N p=ret (Wpi p):=by
 have hc:=h.code;have hk:=h.kids;unfold Ziy Wpi;have h1:=WC (l:=p.2) (V:=Unit) (R:=Unit×Kq) (lp:=λn j v=>Zdo N p.2 p (some ((),(false,()))) (λaq aH=>
  ((Zc9 N p.1).bind λbX=>
 (bif bX.2.1 then
 (bif decide ((Wj p.2)<=(3:Int))then
 ((Zh0 N p.1).bind λcU=>
 (some ((),(beq cU.2.1 (decide ((Wj p.2)>(0:Int))),()))))
 else
 (some ((),(false,()))))
 else
 (some ((),(false,())))))) n j) (n:=N) (by omega)
  (body:=λj x v k=>(Zia N x).bind λo=>bif !o.2.1 then some ((),(false,()))else k v) (K:=λ_ v=>((Zc9 N p.1).bind λbX=>
 (bif bX.2.1 then
 (bif decide ((Wj p.2)<=(3:Int))then
 ((Zh0 N p.1).bind λcU=>
 (some ((),(beq cU.2.1 (decide ((Wj p.2)>(0:Int))),()))))
 else
 (some ((),(false,()))))
 else
 (some ((),(false,()))))))
  (λn i v hi=>by simp only[Zdo,W4 hi,Ww hi,Wx hi,Wn (show i<4611686018427387904 by omega),We])
  (λn v=>by simp[Zdo,Wae,Xm,Wc]) ()
 refine h1.trans ?_;rw[WaO (p:=λx=>!Who x) (E:=λ_=>some ((),(false,()))) p.2 0 () (λj x v k hx=>by rw[Woj (by have:=h.each x hx;omega) hN];rfl),WcD,WhS (by omega) hN,Wm9 (by omega) hN];simp only[ret,Xc];rw[show(3:Int)=((3:Nat):Int)from rfl,WoW,show(0:Int)=((0:Nat):Int)from rfl,WiF];cases p.2.all Who<;>cases WrD p.1<;>cases decide (p.2.length<=3)<;>rfl
theorem WnB(h:PB p)(hN:1048576<N):Zhn N p=ret (Wpi p):=by
 have hc:=h.code;have hk:=h.kids;unfold Zhn Wpi;have h1:=WC (l:=p.2) (V:=Unit) (R:=Unit×Kq) (lp:=λn j v=>Zcm N p (some ((),(false,()))) (λiF aq=>(some ((),(true,())))) n j) (n:=N) (by omega)
  (body:=λj x v k=>(Zh9 N x).bind λo=>bif !o.2.1 then some ((),(false,()))else k v) (K:=λ_ v=>some ((),(true,())))
  (λn i v hi=>by simp only[Zcm,W4 hi,Ww hi,Wx hi,Wn (show i<4611686018427387904 by omega),We])
  (λn v=>by simp[Zcm,Wae,Xm,Wc]) ()
 have h2:Zcm N p (some ((),(false,()))) (λiF aq=>(some ((),(true,())))) N 0=ret (p.2.all Who):=by
  refine h1.trans ?_;rw[WaO (p:=λx=>!Who x) (E:=λ_=>some ((),(false,()))) p.2 0 () (λj x v k hx=>by rw[Won (by have:=h.each x hx;omega) hN];rfl),WcD];cases p.2.all Who<;>rfl
 rw[h2,WhB (by omega) hN,WhK (by omega) hN];simp only[ret,Xc];rw[show(3:Int)=((3:Nat):Int)from rfl,WiF,WiM,show(0:Int)=((0:Nat):Int)from rfl,WiF];generalize beq (p.1.any λo=>o.1==11) (decide (p.2.length>0))=b;cases p.2.all Who<;>cases WrD p.1<;>cases decide (p.2.length<=3)<;>cases b<;>rfl
theorem WjM{t:List Int×List Int×Int}(h1:t.1.length<=1048576)(h2:t.2.1.length<=1048576)(hN:1048576<N):Zhe N t=ret (WuD t):=by
 unfold Zhe WuD Wm0;have e:((Wj t.2.1) !=(8:Int))= !decide (t.2.1.length=8):=by
  grind [Wj]
 have h3:=WC (l:=t.2.1) (V:=Unit) (R:=Unit×Kq) (lp:=λn j v=>Zbw N t (some ((),(false,()))) (λiF aq=>(some ((),(true,())))) n j) (n:=N) (by omega)
  (body:=λj x v k=>bif !(decide (0<=x)&&decide (x<=65536))then some ((),(false,()))else k v) (K:=λ_ v=>some ((),(true,())))
  (λn i v hi=>by simp only[Zbw,W4 hi,Ww hi,Wx hi,Wn (show i<4611686018427387904 by omega),We,WrJ,ret,Xc])
  (λn v=>by simp[Zbw,Wae,Xm,Wc]) ()
 have h4:Zbw N t (some ((),(false,()))) (λiF aq=>(some ((),(true,())))) N 0=ret (t.2.1.all λx=>decide (0<=x)&&decide (x<=65536)):=by
  refine h3.trans ?_;rw[WaO (p:=λx=>!(decide (0<=x)&&decide (x<=65536))) (E:=λ_=>some ((),(false,()))) t.2.1 0 () (λj x v k _=>rfl),WcD];cases t.2.1.all _<;>rfl
 rw[WmD h1 hN,e,WfY,h4];cases WeX t.1<;>cases decide (t.2.1.length=8)<;>cases WbQ t.2.2<;>cases t.2.1.all _<;>rfl
theorem WjI(h:SB s)(hN:1048576<N):Zhf N s=ret (Wmo s):=by
 have h1:=h.cells;have h2:=h.map;have h3:=h.progs;unfold Zhf Wmo;have h4:=WC (l:=s.2.1) (V:=Unit) (R:=Unit×Kq) (lp:=λn j v=>Zbx N s (some ((),(false,()))) (λi9 ao=>(some ((),(true,())))) n j) (n:=N) (by omega)
  (body:=λj x v k=>(Zhn N x).bind λo=>bif !o.2.1 then some ((),(false,()))else k v) (K:=λ_ v=>some ((),(true,())))
  (λn i v hi=>by simp only[Zbx,W4 hi,Ww hi,Wx hi,Wn (show i<4611686018427387904 by omega),We])
  (λn v=>by simp[Zbx,Wae,Xm,Wc]) ()
 have h5:Zbx N s (some ((),(false,()))) (λi9 ao=>(some ((),(true,())))) N 0=ret (s.2.1.all Wpi):=by
  refine h4.trans ?_;rw[WaO (p:=λx=>!Wpi x) (E:=λ_=>some ((),(false,()))) s.2.1 0 () (λj x v k hx=>by rw[WnB (h.each x hx) hN];rfl),WcD];cases s.2.1.all Wpi<;>rfl
 rw[h5,WjM (by omega) (by omega) hN];simp only[ret,Xc];rw[show(4:Int)=((4:Nat):Int)from rfl,WiF,WiM,show(400:Int)=((400:Nat):Int)from rfl,WiF,WiM];cases WuD s.1<;>cases decide (s.2.1.length<=4)<;>cases decide (s.2.2.length<=400)<;>rfl
theorem WfJ(h:SB s)(hN:1048576<N):Zi8 N s=ret (Wmo s):=by
 have h1:=h.cells;have h2:=h.map;have h3:=h.progs;unfold Zi8 Wmo Zao Zv;have h4:=WC (l:=s.2.1) (V:=Unit) (R:=Unit×Kh) (lp:=λn j v=>Ze N s.2.1 (λaq=>(some ((),(aq,())))) (λaH ba=>(some ((),((-1:Int),())))) n j) (n:=N) (by omega)
  (body:=λj x v k=>(Zjr N x).bind λo=>bif o.2.1 then some ((),(j,()))else k v) (K:=λ_ v=>some ((),((-1:Int),())))
  (λn i v hi=>by simp only[Ze,W4 hi,Ww hi,Wx hi,Wn (show i<4611686018427387904 by omega),We])
  (λn v=>by simp[Ze,Wae,Xm,Wc]) ()
 have h5:((Ze N s.2.1 (λaq=>(some ((),(aq,())))) (λaH ba=>(some ((),((-1:Int),())))) N 0).bind λo2=>some ((),(decide (o2.2.1>=(0:Int)),())))=ret (!s.2.1.all Wpi):=by
  have h6:=h4;rw[h6,WgA (p:=λx=>!Wpi x) (E:=λj _=>some ((),(j,()))) s.2.1 0 () (λj x v k hx=>by unfold Zjr;rw[Wmx (h.each x hx) hN];rfl)];have h7:=Wlx (p:=λx=>!Wpi x) s.2.1 0;rw[WcD]at h7;rw[←h7];cases hf:fnd (λx=>!Wpi x) s.2.1 0 with
  |some r=>simp_all
  |none=>rfl
 rw[WjV (by omega) (by omega) hN];simp only[ret,Xc];rw[h5,show(4:Int)=((4:Nat):Int)from rfl,WoW,show(400:Int)=((400:Nat):Int)from rfl,WoW];cases WuD s.1<;>cases decide (s.2.1.length<=4)<;>cases decide (s.2.2.length<=400)<;>cases s.2.1.all Wpi<;>rfl
end
section
variable{N:Nat}{s:Sc}{p:Pg}{w:Wo}{n:Int}{a:Ac}{k:Nat}
theorem Wgv{ps:List Pg}(h:∀p∈ps,POk p)(hk:k<ps.length):POk (ps.getD k pg0):=by
 grind
theorem WOk.tick(h:WOk s.2.1 n w):WOk s.2.1 (n+1) {w with now:=w.now+1}:=
 {h with now:=by(have:=h.now;simp_all),n0:=by have:=h.n0;omega,hist:=by(have:=h.hist;grind),root:=λk hk=>(h.root k hk).wk (by omega)}
theorem WOk.putQ{q:Wo×Rt}{w0:Wo}(h:WOk s.2.1 (n+1) {w0 with now:=w0.now+1})(hh:(w0.hist.length:Int)<=n)(hk:k<w0.roots.length)(hq:QOk (s.2.1.getD k pg0) (n+1) {w0 with now:=w0.now+1} q):WOk s.2.1 (n+1) (Wo.put q k):=by
 have hr:q.1.roots=w0.roots:=hq.roots;exact{
  len:=by show(q.1.roots.set k q.2).length=_;rw[Xah,hr];exact h.len
  l4:=h.l4
  progs:=h.progs
  now:=hq.now.trans h.now
  n0:=h.n0
  mem:=hq.mem
  shelf:=hq.shelf
  holds:=hq.holds
  histE:=λe he=>(hq.histE e he).elim (h.histE e) id
  hist:=by have:=hq.hist;show(q.1.hist.length:Int)<=n+1;grind
  root:=λi hi=>by
   change i<(q.1.roots.set k q.2).length at hi;rw[Xah,hr]at hi;show ROk _ _ ((q.1.roots.set k q.2)[i]);rw[Xau];by_cases he:k=i
   .subst he;rw[Wb rfl];exact hq.root
   .rw[Wa he];have:=h.root i hi;simp_all}
theorem Wch(h:WOk s.2.1 n w):WOk s.2.1 (n+1) (Wcw s w a):=by
 have ht:=h.tick;unfold Wcw;simp only;split
 .rename_i hb;have hk:a.2.1.toNat<w.roots.length:=by omega
  have hx:=ht.root a.2.1.toNat hk;have uk:=h.root a.2.1.toNat hk;have hg:GOk {w with now:=w.now+1}:=⟨h.mem,h.shelf,h.holds⟩;have hp:=Wgv h.progs (show a.2.1.toNat<s.2.1.length by rw[←h.len];exact hk);have jj:w.roots.length<=4:=by rw[h.len];exact h.l4
  rw[Wp hk];split
  .unfold WiC;rw[Wp (show a.2.1.toNat<({w with now:=w.now+1}:Wo).roots.length from hk)];exact ht.putQ h.hist hk (Wid hp hg uk (by omega) h.n0)
  .split
   .split
    .rename_i hf;refine ht.putQ h.hist hk (hg.st ?_);have hl:=uk.live (by omega);obtain⟨f1,f2,f3⟩:=hl.fork hf.1;have hj:a.2.2.toNat<(s.2.1.getD a.2.1.toNat pg0).2.length:=by omega
     have ep:a.2.2.toNat<w.roots[a.2.1.toNat].fam.kids.length:=by rw[f3.len];exact hj
     have bd:KC ((s.2.1.getD a.2.1.toNat pg0).2.getD a.2.2.toNat []):=by rw[Wp hj];exact hp.kids _ (Xo hj)
     exact{hx with live:=λ_=>{hl.wk (show n<=n+1 by omega)with fork:=λ_=>⟨f1,f2,WkW ep h.mem bd f3 rfl⟩}}
    .exact ht
   .split
    .split
     .refine ht.putQ h.hist hk (hg.st ?_);exact{hx with live:=λhh=>{hx.live hh with}}
     .exact ht
    .exact ht
 .exact ht
theorem Wo9(h:WOk s.2.1 n w)(hn:n<=99999)(hN:1048576<N):Zgr N w.e s a=some (((Wcw s w a).e,()),()):=by
 have ht:=h.tick;have qm:=h.now;have uA:=h.n0;have jj:w.roots.length<=4:=by rw[h.len];exact h.l4
 unfold Zgr Wcw;simp only[WD];rw[show P5 w.e=w.roots.map Rt.e from rfl,show w.e.1=w.now from rfl,WcO (by omega)];have hlen:Wj (w.roots.map Rt.e)=(w.roots.length:Int):=by unfold Wj;simp
 rw[hlen,Wam (by unfold I64;omega)];simp only[WV,ret,Xc];by_cases hb:0<=a.2.1/\a.2.1<w.roots.length
 .rw[Wb hb,Wf hb.1,Wf (show a.2.1<=(w.roots.length:Int) -1 by omega)];obtain⟨k,Ay⟩:∃k:Nat,a.2.1=k:=⟨a.2.1.toNat,by omega⟩;have hk:k<w.roots.length:=by omega
  obtain⟨x,aQ⟩:∃x,w.roots[k]=x:=⟨_,rfl⟩;have hx:=h.root k hk;rw[aQ]at hx;have kZ:k<s.2.1.length:=by rw[←h.len];exact hk
  have hp:=Wgv h.progs kZ;obtain⟨g1,g2,g3,g4,g5⟩:=woG hk aQ;obtain⟨r0,r1,r2,r3,r4,r5,r6,r7,r8,jT,ji,im,io,iN,iO,kN,kO,jU,jV,kP,kQ,kR⟩:=rtP x;have gv:∀y:Rt,(w.now+1,S4 (Xk (w.roots.map Rt.e) k y.e) w.e.2)=Wo.e (Wo.put ({w with now:=w.now+1},y) k):=λy=>by
   unfold Wo.put Wo.e;simp only[List.map_set];rfl
  have bo:Wo.put ({w with now:=w.now+1},x) k={w with now:=w.now+1}:=by unfold Wo.put;simp only;rw[←aQ,List.set_getElem_self]
  simp only[Ay,Xj,Xbl,Bool.not_true,Wc];rw[g1,g4,Wp hk,aQ];simp only[We,r0,jU,jV,gv,bo,show w.e.2.2.1=w.mem from rfl];rw[Wag,Wf kZ];have Az:Xd s.2.1 k (([]:List Ka),([]:List Kz))=s.2.1.getD k pg0:=rfl;rw[Az];generalize fT:s.2.1.getD k pg0=p at*;have hg:GOk {w with now:=w.now+1}:=⟨h.mem,h.shelf,h.holds⟩;simp only[We,WH];have aM:Zhr N (Wo.e {w with now:=w.now+1}) (k:Int) p=some (((Wo.put (WW {w with now:=w.now+1} x k p) k).e,()),()):=
   Wvi (w:={w with now:=w.now+1}) hk aQ (by grind) hp hg hx (by omega) (by have:=h.hist;grind) hN
  rw[aM];by_cases h1:a.1=1
  .simp_all [Wb,WiC,Wp,Xc]
  .rw[Wa h1,Wa h1];by_cases h2:a.1=2
   .rw[Wb h2,Wb h2];by_cases hf:x.phase=2
    .rw[Wb hf,Wam (by have:=hp.k3;unfold I64 Wj;omega),show Wj p.2=(p.2.length:Int)from rfl];by_cases hj:0<=a.2.2/\a.2.2<p.2.length
     .rw[Wf hj.1,Wf (show a.2.2<=(p.2.length:Int) -1 by omega),Wb (show x.phase=2/\0<=a.2.2/\a.2.2<p.2.length from⟨hf,hj⟩)];obtain⟨j,qw⟩:∃j:Nat,a.2.2=j:=⟨a.2.2.toNat,by omega⟩;have hj':j<p.2.length:=by omega
      simp only[qw,Xj,Xbl,We];rw[Wag,Wf hj'];obtain⟨f1,f2,f3⟩:=(hx.live (by omega)).fork hf;have bd:KC (p.2.getD j []):=by rw[Wp hj'];exact hp.kids _ (Xo hj')
      rw[WlQ (code:=p.2.getD j []) (by rw[f3.len];exact hj') (by rw[f3.len];exact hp.k3) h.mem bd f3 rfl (by omega) hN];simp only[Xc,We];have:U21 (WcE w.mem x.fam j (p.2.getD j [])).e x.e=Rt.e {x with fam:=WcE w.mem x.fam j (p.2.getD j [])}:=rfl
      grind [WyD]
     grind
    simp_all
   .rw[Wa h2,Wa h2];by_cases h3:a.1=3
    .rw[Wb h3,Wb h3];have hd:S11 true x.e=Rt.e {x with doomed:=true}:=rfl;simp only[hd,gv,show(Cm.e x.cm).2.2.1=x.cm.phase from rfl,WaV]
     grind
    simp_all
 .rw[Wa hb];have uz:(decide (0<=a.2.1)&&decide (a.2.1<=(w.roots.length:Int) -1))=false:=by
   rw[Xdq,Wy,Wy];omega
  rw[uz];rfl
theorem Wiv(h:Wmo s=true):WOk s.2.1 0 (Wft s):=by
 obtain⟨h1,h2,h3,h4⟩:=WeR h;exact{
  len:=by simp[Wft]
  l4:=h2
  progs:=h4
  now:=rfl
  n0:=Xx _
  mem:=by
   show W2 (Wkh s.1.1)=true;have:=h1.cells.len;unfold W2 Wkh;simp only[Xab,this,decide_true,Bool.true_and,Xi,Wh,Xag];refine⟨by omega,λw hw=>?_⟩;obtain⟨v,hv,rfl⟩:=Xw.1 hw;have:=h1.cells.val v hv;rw[WeT];unfold wd0;simp only;omega
  shelf:=⟨Ws4 h1.map.1 h1.map.2,h1.cnt⟩
  holds:=⟨(λh hh=>by cases hh),List.Pairwise.nil⟩
  hist:=by simp[Wft]
  histE:=λh hh=>by cases hh
  root:=λk hk=>by
   simp only[Wft,Xbi];exact{
    phase:=by simp
    tries:=by simp
    live:=λhh=>by simp at hh
    comm:=λhh=>by simp at hh
    undos:=λu hu=>by cases hu
    ul:=by simp
    rg:=by simp
    ord:=by simp}}
theorem Ws3:∀(l:List Ac) (n:Int) (w:Wo),WOk s.2.1 n w->WOk s.2.1 (n+l.length) (l.foldl (Wcw s) w)
 | [],n,w,h=>by simpa using h
 |a::l,n,w,h=>by
  have:=Ws3 l (n+1) _ (Wch (a:=a) h);rw[List.foldl_cons,Xr];rw[show n+((l.length+1:Nat):Int)=n+1+l.length by omega];exact this
theorem WkV(h:Wmo s=true):WOk s.2.1 s.2.2.length (Wes s):=by
 have:=Ws3 s.2.2 0 _ (Wiv h);rw[Int.zero_add]at this;exact this
end
section
section
variable{N:Nat}{c:Cur}
theorem Wha{b7:Int}{l8:List Int}(h8:l8.length=8):∀(n i:Nat) (c:Cur) (l:List Int),8-i<n->i<=8->WaS c->l.length=i->
  Drw (λv:Kf×Unit=>v.1.1.length=8/\v.1.2.1.length=8) (Zcr N b7 l8 (λzH d6 vG cJ=>(some ((vG,()),((l8,(cJ,b7)),())))) n (i:Int) c l)
 |0,i,c,l,h,_,_,_=>by omega
 |n+1,i,c,l,h,hi,hc,hl=>by
  unfold Zcr;refine .bif (λh0=>?_) λh0=>.ok hc ⟨h8,?_⟩
  .have h0:(i:Int)<8:=Wt h0;have e:Wm .i64 (i:Int) 1=((i+1:Nat):Int):=Wn (by omega);simp only[e];refine(WdR 2 hc).bind λc b hc _=>.bif (λ_=>?_) λ_=>?_
   .exact(Wyt hc).bind λc v hc hv=>.bifT (WB (by simp;omega)) (Wha h8 n (i+1) c _ (by omega) (by omega) hc (by simp[Xal];omega))
   .exact .bifT (WB (by simp;omega)) (Wha h8 n (i+1) c _ (by omega) (by omega) hc (by simp[Xal];omega))
  .have h0:¬(i:Int)<8:=of_decide_eq_false h0;simp only;omega
theorem WsZ(hN:1048576<N)(hc:WaS c):Drw (λv:Kf×Unit=>v.1.1.length=8/\v.1.2.1.length=8) (Zfm N c):=by
 unfold Zfm;exact(WyA hN hc).bind λc v hc hv=>(Wyt hc).bind λc w hc hw=>Wha hv N 0 c [] (by omega) (by omega) hc rfl
theorem Wq5(hN:1048576<N)(hc:WaS c):Drw (λv:Kf×Unit=>v.1.1.length<=100/\v.1.2.1.length<=100) (Zi7 N c):=by
 unfold Zi7;refine(WsZ hN hc).bind λc t hc ht=>(Waw 16 hc).bind λc v hc hv=>.bif (λ_=>?_) λ_=>.bif (λ_=>?_) λ_=>.bif (λ_=>.ok hc (by simp only;omega)) λ_=>.bif (λ_=>?_) λ_=>.bif (λ_=>?_) λ_=>.ok hc (by simp only;omega)
 .refine .bifT (by rw[ht.1];rfl) (.ok hc ?_);simp only[Xan];omega
 .refine(Waw 8 hc).bind λc k hc hk=>?_;have hk:=hk.2 (by decide);refine .bifT (by unfold inb;rw[ht.2];simp;omega) (.ok hc ?_);simp only[Xah];omega
 .refine .bifT (by rw[ht.2];rfl) (.ok hc ?_);simp only[Xan];omega
 .refine(Waw 8 hc).bind λc k hc hk=>?_;have hk:=hk.2 (by decide);refine .bifT (by unfold inb;rw[ht.1];simp;omega) (.ok hc ?_);simp only[Xah];omega
theorem Wxn{p:Pg}(h:p.1.length<=300/\p.2.length<=100/\∀x∈p.2,x.length<=200):PB p:=⟨by omega,by omega,λx hx=>by have:=h.2.2 x hx;omega⟩
theorem Wu0(hN:1048576<N)(hc:WaS c):Drw (λv:Pg×Unit=>PB v.1) (Zkn N c):=by
 unfold Zkn;refine(WdR 2 hc).bind λc b hc _=>(WxL hN hc).bind λc p hc hp=>(Waw 10 hc).bind λc v hc hv=>.bif (λ_=>?_) λ_=>.bif (λ_=>.bif (λh0=>?_) λ_=>.ok hc (Wxn hp)) λ_=>.bif (λ_=>?_) λ_=>.bif (λ_=>.ok hc ⟨by have:=hp.1;simp only;omega,by simp,by simp⟩) λ_=>.ok hc (Wxn hp)
 .exact(Wxw hN hc (by have:=hp.1;simp only;omega)).bind λc w hc hw=>.ok hc ⟨by simp only;omega,by have:=hp.2.1;simp only;omega,λx hx=>by have:=hp.2.2 x hx;omega⟩
 .have h0:Wj p.1.2>0:=Wt h0;refine(Waw (Wj p.1.2) hc).bind λc k hc hk=>?_;have hk:=hk.2 h0;unfold Wj at hk;have kM:inb k.1 p.1.2.length=true:=by unfold inb;simp;omega
  refine .bifT kM ((Wxw hN hc ?_).bind λc w hc hw=>.bifT kM (.ok hc ⟨by have:=hp.1;simp only;omega,by have:=hp.2.1;simp only[Xah];omega,λx hx=>?_⟩))
  .rw[Wp (show k.1.toNat<p.1.2.length by omega)];have:=hp.2.2 _ (Xo (show k.1.toNat<p.1.2.length by omega));omega
  .rcases Xdg hx with hx|hx
   .have:=hp.2.2 x hx;omega
   .subst hx;show w.1.length<=1000;omega
 .refine .bifT (WB (by have:=hp.2.1;simp;omega)) (.ok hc ⟨by have:=hp.1;simp only;omega,by have:=hp.2.1;simp[Xal];omega,λx hx=>?_⟩);simp[Xal]at hx;rcases hx with hx|hx
  .have:=hp.2.2 x hx;omega
  .subst hx;simp
theorem Wpy{n4 aF:Int}(hm:aF<=600):∀(n i:Nat) (who:Int) (c:Cur) (l:List Ac),1000-i<n->i<=700->WaS c->l.length=i->
  Drw (λv:List Ac×Unit=>v.1.length<=700) (Zz N n4 aF (λmY yo t45 cF ma=>(some ((cF,()),(ma,())))) n who (i:Int) c l)
 |0,i,who,c,l,h,_,_,_=>by omega
 |n+1,i,who,c,l,h,hi,hc,hl=>by
  unfold Zz;refine .bif (λh0=>?_) λh0=>.ok hc (by simp only;omega);have h0:(i:Int)<aF:=Wt h0;have e:Wm .i64 (i:Int) 1=((i+1:Nat):Int):=Wn (by omega);simp only[e];have hr:∀(a:Ac),WM (l.length+ [a].length)=true:=λa=>WB (by simp;omega);have bn:∀(who:Int) (c:Cur) (a:Ac),WaS c->Drw (λv:List Ac×Unit=>v.1.length<=700) (Zz N n4 aF (λmY yo t45 cF ma=>(some ((cF,()),(ma,())))) n who ((i+1:Nat):Int) c (List.append l [a])):=λwho c a hc=>Wpy hm n (i+1) who c _ (by omega) (by omega) hc (by simp[Xal];omega);refine(WdR 3 hc).bind λc b hc _=>.bif (λ_=>?_) λ_=>?_
  .refine(Waw n4 hc).bind λc k hc _=>(WdR 2 hc).bind λc b hc _=>.bif (λ_=>?_) λ_=>?_
   .refine(Waw 3 hc).bind λc j hc _=>(WdR 2 hc).bind λc b hc _=>.bif (λ_=>?_) λ_=>?_
    .exact(WdR 40 hc).bind λc b hc _=>.bif (λ_=>.bifT (hr _) (bn _ _ _ hc)) λ_=>.bifT (hr _) (bn _ _ _ hc)
    .exact(WdR 40 hc).bind λc b hc _=>.bif (λ_=>.bifT (hr _) (bn _ _ _ hc)) λ_=>.bifT (hr _) (bn _ _ _ hc)
   .exact(WdR 40 hc).bind λc b hc _=>.bif (λ_=>.bifT (hr _) (bn _ _ _ hc)) λ_=>.bifT (hr _) (bn _ _ _ hc)
  .refine(WdR 2 hc).bind λc b hc _=>.bif (λ_=>?_) λ_=>?_
   .refine(Waw 3 hc).bind λc j hc _=>(WdR 2 hc).bind λc b hc _=>.bif (λ_=>?_) λ_=>?_
    .exact(WdR 40 hc).bind λc b hc _=>.bif (λ_=>.bifT (hr _) (bn _ _ _ hc)) λ_=>.bifT (hr _) (bn _ _ _ hc)
    .exact(WdR 40 hc).bind λc b hc _=>.bif (λ_=>.bifT (hr _) (bn _ _ _ hc)) λ_=>.bifT (hr _) (bn _ _ _ hc)
   .exact(WdR 40 hc).bind λc b hc _=>.bif (λ_=>.bifT (hr _) (bn _ _ _ hc)) λ_=>.bifT (hr _) (bn _ _ _ hc)
theorem WyM(hN:1048576<N){n4 aF:Int}(hm:aF<=600)(hc:WaS c):Drw (λv:List Ac×Unit=>v.1.length<=700) (Zgn N c n4 aF):=by
 unfold Zgn;exact Wpy hm N 0 0 c [] (by omega) (by omega) hc rfl
structure SD(s:Sc):Prop where
 cells:s.1.1.length=8
 map:s.1.2.1.length=8
 progs:1<=s.2.1.length/\s.2.1.length<=10
 each:∀p∈s.2.1,PB p
 acts:s.2.2.length<=700
theorem WkL(hN:1048576<N){n8 bw bt:Int}{aL aR:List Int}(hm:0<=bt/\bt<=500)(nC:aL.length=8)(ww:aR.length=8)(h8:1<=n8/\n8<=4):∀(n i:Nat) (c:Cur) (l:List Pg),10-i<n->i<=4->WaS c->l.length=i->(∀p∈l,PB p)->
  Drw (λv:Sc×Unit=>SD v.1) (Zbo N 0 bt n8 bw aL aR (λzI zJ vJ jL=>
  ((Zb N vJ (Wm .i64 bt (1:Int))).bind λgF=>
 ((Zgn N gF.1.1 n8 gF.2.1).bind λgG=>
 (some ((gG.1.1,()),(((aL,(aR,bw)),(jL,gG.2.1)),())))))) n (i:Int) c l)
 |0,i,c,l,h,_,_,_,_=>by omega
 |n+1,i,c,l,h,hi,hc,hl,hx=>by
  unfold Zbo;refine .bif (λh0=>?_) λh0=>?_
  .have h0:(i:Int)<n8:=Wt h0;have e:Wm .i64 (i:Int) 1=((i+1:Nat):Int):=Wn (by omega);simp only[e,show((0:Int)==2)=false from rfl,show((0:Int)==0)=true from rfl,Wc,We];refine(WdR 3 hc).bind λc b hc _=>(WxL hN hc).bind λc p hc hp=>.bifT (WB (by simp;omega)) (WkL hN hm nC ww h8 n (i+1) c _ (by omega) (by omega) hc (by simp[Xal];omega) λq hq=>?_);simp[Xal]at hq;rcases hq with hq|hq
   .exact hx q hq
   .subst hq;exact Wxn hp
  .have h0:¬(i:Int)<n8:=of_decide_eq_false h0;have e:Wm .i64 bt 1=bt+1:=WJ (by unfold I64;omega);simp only[e];refine(Waw (bt+1) hc).bind λc k hc hk=>?_;have hk:=hk.2 (by omega);refine(WyM (aF:=k.1) hN (by omega) hc).bind λc a hc ha=>.ok hc ⟨nC,ww,by simp only;omega,hx,ha⟩
theorem Wxm(hN:1048576<N){most:Int}(hm:0<=most/\most<=500)(hc:WaS c):Drw (λv:Sc×Unit=>SD v.1) (Zgo N c 0 most):=by
 unfold Zgo;refine(WsZ hN hc).bind λc t hc ht=>(Waw 4 hc).bind λc k hc hk=>?_;have hk:=hk.2 (by decide);have e:Wm .i64 1 k.1=1+k.1:=WJ (by unfold I64;omega);simp only[e];exact WkL hN hm ht.1 ht.2 (by omega) N 0 c [] (by omega) (by omega) hc rfl (by simp)
theorem SD.sb{s:Sc}(h:SD s):SB s:=⟨by have:=h.cells;omega,by have:=h.map;omega,by have:=h.progs;omega,h.each,by have:=h.acts;omega⟩
theorem Wp6{b7:Cur}{b9:Int}{eB am:List Int}{aL:List Ac}(hb:WaS b7)(cN:eB.length=8)(fz:am.length=8)(nC:aL.length<=700):∀(n:Nat) (l:List Pg),20-l.length<n->l.length<=11->(∀p∈l,PB p)->
  Drw (λv:Sc×Unit=>SB v.1) (Zf4 N b7 b9 eB am aL (λeY bN=>(some ((b7,()),(((eB,(am,b9)),(bN,aL)),())))) n l)
 |0,l,h,_,_=>by omega
 |n+1,l,h,hl,hx=>by
  unfold Zf4;refine .bif (λh0=>?_) λh0=>.ok hb ⟨by simp only;omega,by simp only;omega,by simp only;omega,hx,by simp only;omega⟩;have h0:Wj l<5:=Wt h0;unfold Wj at h0;refine .bifT (WB (by simp;omega)) (Wp6 hb cN fz nC n _ (by simp[Xal];omega) (by simp[Xal];omega) λq hq=>?_);simp[Xal]at hq;rcases hq with hq|hq
  .exact hx q hq
  .subst hq;exact⟨by simp,by simp,by simp⟩
theorem Wp7{dz:Int}{cG bY:List Int}{cJ:List Pg}(AA:cG.length=8)(wB:bY.length=8)(wJ:cJ.length<=11)(hx:∀p∈cJ,PB p):∀(n:Nat) (c:Cur) (l:List Ac),1000-l.length<n->WaS c->l.length<=800->
  Drw (λv:Sc×Unit=>SB v.1) (Zf5 N dz cG bY cJ (λvK jM cV=>(some ((jM,()),(((cG,(bY,dz)),(cJ,cV)),())))) n c l)
 |0,c,l,h,_,_=>by omega
 |n+1,c,l,h,hc,hl=>by
  unfold Zf5;refine(Waw 2 hc).bind λc v hc hv=>?_;have hv:=hv.2 (by decide);have e:Wm .i64 400 v.1=400+v.1:=WJ (by unfold I64;omega);simp only[e];refine .bif (λh0=>?_) λh0=>.ok hc ⟨by simp only;omega,by simp only;omega,by simp only;omega,hx,by simp only;omega⟩;have h0:Wj l<400+v.1:=Wt h0;unfold Wj at h0;exact .bifT (WB (by simp;omega)) (Wp7 AA wB wJ hx n c _ (by simp[Xal];omega) hc (by simp[Xal];omega))
theorem WxU(hN:1048576<N){most:Int}(hm:0<=most/\most<=500)(hc:WaS c):Drw (λv:Sc×Unit=>SB v.1) (Zix N c most):=by
 unfold Zix;refine(Wxm hN hm hc).bind λc s hc hs=>(Waw 30 hc).bind λc v hc hv=>.bif (λ_=>?_) λ_=>.bif (λ_=>?_) λ_=>.bif (λ_=>?_) λ_=>.bif (λ_=>?_) λ_=>.bif (λ_=>?_) λ_=>.ok hc hs.sb
 .exact(Wq5 hN hc).bind λc t hc ht=>.ok hc ⟨ht.1,ht.2,by have:=hs.progs;simp only;omega,hs.each,by have:=hs.acts;simp only;omega⟩
 .refine(Wu0 hN hc).bind λc p hc hp=>.bifT (by unfold inb;have:=hs.progs;simp;omega) (.ok hc ⟨by have:=hs.cells;simp only;omega,by have:=hs.map;simp only;omega,by have:=hs.progs;simp only[Xah];omega,λq hq=>?_,by have:=hs.acts;simp only;omega⟩);rcases Xdg hq with hq|hq
  .exact hs.each q hq
  .subst hq;exact hp
 .exact Wp6 hc hs.cells hs.map hs.acts N s.1.2.1 (by omega) (by have:=hs.progs;omega) hs.each
 .exact .bifT (WB (by have:=hs.acts;simp;omega)) (.ok hc ⟨by have:=hs.cells;simp only;omega,by have:=hs.map;simp only;omega,by have:=hs.progs;simp only;omega,hs.each,by have:=hs.acts;simp[Xal];omega⟩)
 .exact Wp7 hs.cells hs.map (cJ:=s.1.2.1) (by have:=hs.progs;omega) hs.each N c s.1.2.2 (by omega) hc (by have:=hs.acts;omega)
theorem Wu9{code:List Int}(h:code.length<=1048576):∃v,Zny N code 200=ret v/\0<=v/\v<=200:=by
 unfold Zny;have e:Wr1 .i64 (Wj code) 20=((code.length/20:Nat):Int):=by
  unfold Wr1 Wj;rw[Int.tdiv_eq_ediv_of_nonneg (by omega),Wwl (by unfold I64;omega)];omega
 rw[e,WJ (by unfold I64;omega),show inz (20:Int)=true from rfl];simp only[We,WaV];by_cases h:2+((code.length/20:Nat):Int)>200
 .rw[Wb h];exact⟨_,rfl,by omega,by omega⟩
 .rw[Wa h];exact⟨_,rfl,by omega,by omega⟩
end
end
section
def stl(x:Rt):Bool:=decide (x.phase=8)||((decide (x.phase=5)&&(decide (x.cm.phase=4)||decide (x.cm.phase=5)))||((decide (x.phase=6)||decide (x.phase=7))&&decide (x.fate≠0)))
def Wgs(x:Rt):Int:=if stl x=true then(if x.phase=5 then x.cm.wv else x.stamp)else 0
theorem WbH{x:Rt}:stl x=true↔x.phase=8\/(x.phase=5/\(x.cm.phase=4\/x.cm.phase=5))\/((x.phase=6\/x.phase=7)/\x.fate≠0):=by
 unfold stl;simp only[Bool.or_eq_true,Xi,Wh]
structure RX(x:Rt):Prop where
 doom:x.doomed=true->(1<=x.phase/\x.phase<=4)\/(x.phase=5/\x.cm.phase<=3)
 fate:x.phase=5->x.fate≠0
structure Stay(x y:Rt):Prop where
 tries:x.tries<=y.tries
 st:stl x=true->stl y=true/\Wgs y=Wgs x/\y.fate=x.fate/\y.regs=x.regs/\y.order=x.order
structure RG(w:Wo)(x:Rt)(q:Wo×Rt):Prop where
 doom:q.2.doomed=false
 fate:q.2.phase=5->q.2.fate≠0
 tries:q.2.tries=x.tries
 mem:q.1.mem=w.mem
 hist:q.1.hist=w.hist
section
variable{w:Wo}{x y z:Rt}{k:Nat}{p:Pg}{n:Int}{o:Opn}
theorem Stay.refl(x:Rt):Stay x x:=⟨Xx _,λh=>⟨h,rfl,rfl,rfl,rfl⟩⟩
theorem Stay.trans(h:Stay x y)(h':Stay y z):Stay x z:=
 ⟨Xfg h.tries h'.tries,λhs=>by
  obtain⟨a,b,c,d,e⟩:=h.st hs;obtain⟨a',b',c',d',e'⟩:=h'.st a;exact⟨a',b'.trans b,c'.trans c,d'.trans d,e'.trans e⟩⟩
theorem Stay.un(h:stl x=false)(ht:x.tries<=y.tries):Stay x y:=⟨ht,λhs=>by rw[h]at hs;cases hs⟩
theorem RG.same(hd:x.doomed=false){z:Rt}(h1:z.doomed=false)(h2:z.phase≠5)(h3:z.tries=x.tries):RG w x (w,z):=⟨h1,λh=>Wi h h2,h3,rfl,rfl⟩
theorem Wf5(hd:x.doomed=false):(WR x).doomed=false/\(WR x).phase≠5/\(WR x).tries=x.tries:=by
 unfold WR Wdf;split
 .exact⟨rfl,by simp,rfl⟩
 .exact⟨hd,by simp,rfl⟩
theorem Wqv(hd:x.doomed=false){out:Int}(ho:out≠0):RG w x (WaC w x k out):=by
 unfold WaC Wkw;simp only;generalize (if out=2 then []else x.writes)=rows;split
 .exact⟨rfl,by simp,rfl,rfl,rfl⟩
 .exact⟨hd,λ_=>ho,rfl,rfl,rfl⟩
theorem Wtb(hd:x.doomed=false)(h5:x.phase≠5):RG w x (Wea w x):=⟨hd,λh=>Wi h h5,rfl,rfl,rfl⟩
theorem WtL(hd:x.doomed=false)(h5:x.phase≠5):(Wdg w x o).doomed=false/\(Wdg w x o).phase≠5/\(Wdg w x o).tries=x.tries:=by
 unfold Wdg;cases Wbv x.writes o.2.2.1 with
 |some v=>exact⟨hd,h5,rfl⟩
 |none=>
  simp only;generalize W5 w.mem x.rv _=b;split
  .exact Wf5 (x:={x with busy:=true,pb:=b}) hd
  .split
   .exact⟨hd,h5,rfl⟩
   .exact⟨hd,h5,rfl⟩
theorem Wu8(hd:x.doomed=false)(h5:x.phase≠5){code:List Opn}:RG w x (Wb0 w x k code):=by
 unfold Wb0;split
 .exact Wqv hd (by omega)
 .split
  .exact Wtb hd h5
  .exact⟨hd,λh=>Wi h h5,rfl,rfl,rfl⟩
theorem WuP(hd:x.doomed=false)(h5:x.phase≠5):RG w x (WbO w x k o):=by
 unfold WbO;cases WaX w.holds ((k:Int)+1) (WaH o).1 (WaH o).2 with
 |none=>
  obtain⟨a,b,c⟩:=Wf5 hd;exact⟨a,λh=>Wi h b,c,rfl,rfl⟩
 |some hs=>exact⟨hd,λh=>Wi h h5,rfl,rfl,rfl⟩
theorem WxQ(hd:x.doomed=false)(h5:x.phase≠5):RG w x (Wgk w x k p):=by
 unfold Wgk;split
 .exact Wqv hd (by omega)
 .simp only;generalize opN p.1 x.pc=o;split
  .obtain⟨a,b,c⟩:=WtL (w:=w) (o:=o) hd h5;exact⟨a,λh=>Wi h b,c,rfl,rfl⟩
  .split
   .exact Wu8 hd h5
   .split
    .exact⟨hd,λh=>by(change (2:Int)=5 at h;omega),rfl,rfl,rfl⟩
    .split
     .exact WuP hd h5
     .repeat' split
      all_goals exact⟨hd,λh=>Wi h h5,rfl,rfl,rfl⟩
theorem WwP(hd:x.doomed=false)(h5:x.phase≠5):RG w x (Wds w x k):=by
 unfold Wds
 repeat' split
 all_goals first|exact⟨hd,λh=>Wi h h5,rfl,rfl,rfl⟩|exact⟨rfl,λh=>by(change (1:Int)=5 at h;omega),rfl,rfl,rfl⟩
theorem Wsh(hd:x.doomed=false)(h5:x.phase≠5):RG w x (w,WbR x):=by
 unfold WbR;split
 .exact⟨rfl,λh=>by(change (6:Int)=5 at h;omega),rfl,rfl,rfl⟩
 .split
  .exact⟨hd,λh=>by(change (1:Int)=5 at h;omega),rfl,rfl,rfl⟩
  .exact⟨hd,λh=>Wi h h5,rfl,rfl,rfl⟩
theorem Wip(hd:x.doomed=false)(h5:x.phase≠5):RG w x (Wa1 w x):=by
 unfold Wa1;split
 .exact Wtb hd h5
 .exact⟨hd,λh=>by(change (4:Int)=5 at h;omega),rfl,rfl,rfl⟩
theorem Wn3(hd:x.doomed=false)(h5:x.phase≠5):RG w x (w,WaA w x):=by
 unfold WaA;split
 .simp only;split
  .exact⟨rfl,λh=>by(change (6:Int)=5 at h;omega),rfl,rfl,rfl⟩
  .exact⟨hd,λh=>Wi h h5,rfl,rfl,rfl⟩
 .exact⟨hd,λh=>by(change (1:Int)=5 at h;omega),rfl,rfl,rfl⟩
theorem WhP(m:Mm)(c:Cm):m.1<=(Ws m c).1.1:=by
 have hs:∀i w,(Wob m i w).1=m.1:=λ_ _=>rfl;unfold Ws WcK WaR Wl1 tick;simp only
 repeat' split
 all_goals first|exact Xx _|(simp only[hs];omega)|(simp only;omega)
structure RS(w:Wo)(x:Rt)(q:Wo×Rt):Prop where
 rx:RX q.2
 stay:Stay x q.2
 clock:w.mem.1<=q.1.mem.1
 hist:∃l,q.1.hist=w.hist++l
theorem RG.rs{q:Wo×Rt}(h:RG w x q)(hs:stl x=false):RS w x q:=⟨⟨(λhd=>by rw[h.doom]at hd;cases hd),h.fate⟩,Stay.un hs (by rw[h.tries];omega),by rw[h.mem];omega,[],by rw[h.hist];simp⟩
theorem Wuh(c:Cm):WaM c 6=6:=by unfold WaM;rw[Wa (by omega),Wa (by omega)]
theorem Ws0(c:Cm):WaM c 5=5:=by unfold WaM;rw[Wa (by omega),Wa (by omega)]
theorem WpX{c:Cm}{ph:Int}(h:ph=5\/ph=6):(Wv c ph).wv=c.wv/\((Wv c ph).phase=c.phase\/(Wv c ph).phase=ph):=by
 unfold Wv;split
 .refine⟨rfl,.inr ?_⟩;show WaM c ph=ph;rcases h with rfl|rfl
  .exact Ws0 c
  .exact Wuh c
 .exact⟨rfl,.inl rfl⟩
theorem WsQ(hx:RX x)(h5:x.phase=5):RS w x (Waf w x k):=by
 unfold Waf;split
 .rename_i hd;have h3:x.cm.phase<=3:=by rcases hx.doom hd with h|h<;>omega
  have kK:stl x=false:=by rw[Xbw,Ne,WbH];omega
  split
  .exact⟨⟨(λhd=>by cases hd),λh=>by(change (6:Int)=5 at h;omega)⟩,Stay.un kK (Xx _),Xx _,[],by simp⟩
  .exact⟨⟨(λhd=>by cases hd),hx.fate⟩,Stay.un kK (Xx _),Xx _,[],by simp⟩
 .rename_i hd;have cZ:x.doomed=false:=by simpa using hd
  have ni:=WhP w.mem x.cm;have hf:=hx.fate h5;simp only;refine⟨?_,?_,ni,?_⟩
  .unfold WaL Wdf;simp only;split
   .exact⟨(λhd=>by cases hd),λh=>by(change (6:Int)=5 at h;omega)⟩
   .split
    .have aW:(if x.fate=2 then(6:Int)else 7)≠5:=by split<;>omega
     exact⟨(λhd=>by(change x.doomed=true at hd;rw[cZ]at hd;cases hd)),λh=>Wi h aW⟩
    .exact⟨(λhd=>by(change x.doomed=true at hd;rw[cZ]at hd;cases hd)),λ_=>hf⟩
  .have ng:(WaL {x with cm:=(Ws w.mem x.cm).2}).tries=x.tries:=by
    unfold WaL Wdf;simp only;split
    .rfl
    .split<;>rfl
   refine⟨by rw[ng];omega,λhs=>?_⟩;have AB:=WbH.1 hs;have aM:Wgs x=x.cm.wv:=by unfold Wgs;rw[Wb hs,Wb h5]
   have key:(Ws w.mem x.cm).2.wv=x.cm.wv/\((Ws w.mem x.cm).2.phase=4\/(Ws w.mem x.cm).2.phase=5\/(Ws w.mem x.cm).2.phase=6):=by
    unfold Ws;simp only;have e45:=AB;rcases(show x.cm.phase=4\/x.cm.phase=5 by omega)with h4|h4
    .rw[Wa (by omega),Wa (by omega),Wa (by omega),Wb h4];have:=WpX (c:=x.cm) (ph:=5) (.inl rfl);exact⟨this.1,by show(Wv x.cm 5).phase=4\/(Wv x.cm 5).phase=5\/(Wv x.cm 5).phase=6;omega⟩
    .rw[Wa (by omega),Wa (by omega),Wa (by omega),Wa (by omega),Wb h4];have:=WpX (c:=x.cm) (ph:=6) (.inr rfl);exact⟨this.1,by show(Wv x.cm 6).phase=4\/(Wv x.cm 6).phase=5\/(Wv x.cm 6).phase=6;omega⟩
   obtain⟨k1,k2⟩:=key;rw[aM];generalize (Ws w.mem x.cm).2=c at*;unfold WaL;simp only;rw[Wa (by omega)];by_cases h6:c.phase=6
   .rw[Wb h6];have aW:(if x.fate=2 then(6:Int)else 7)=6\/(if x.fate=2 then(6:Int)else 7)=7:=by split<;>simp
    generalize (if x.fate=2 then(6:Int)else 7)=ph at*;have iP:stl {x with stamp:=c.wv,cm:={},phase:=ph}=true:=WbH.2 (.inr (.inr ⟨aW,hf⟩));refine⟨iP,?_,rfl,rfl,rfl⟩;unfold Wgs;rw[Wb iP,Wa (by show¬ph=5;omega)];exact k1
   .rw[Wa h6];have iP:stl {x with cm:=c}=true:=WbH.2 (.inr (.inl ⟨h5,by show c.phase=4\/c.phase=5;omega⟩));refine⟨iP,?_,rfl,rfl,rfl⟩;unfold Wgs;rw[Wb iP,Wb h5];exact k1
  .split
   .exact⟨_,rfl⟩
   .exact⟨[],by simp⟩
theorem WwO(hx:RX x)(aW:0<=x.phase/\x.phase<=8):RS w x (WW w x k p):=by
 have kK:x.phase<=4->stl x=false:=λh=>by rw[Xbw,Ne,WbH];omega
 unfold WW;by_cases hd:x.doomed=true/\1<=x.phase/\x.phase<=4
 .rw[Wb hd];exact⟨⟨(λhd=>by cases hd),λh=>by(change (6:Int)=5 at h;omega)⟩,Stay.un (kK (by omega)) (Xx _),Xx _,[],by simp⟩
 rw[Wa hd];have cZ:x.phase≠5->x.doomed=false:=λh5=>by
  rw[Xbw];intro h;rcases hx.doom h with h1|h1
  .exact hd ⟨h,h1⟩
  .exact h5 h1.1
 by_cases h0:x.phase=0
 .rw[Wb h0];exact(WwP (cZ (by omega)) (by omega)).rs (kK (by omega))
 rw[Wa h0];by_cases h1:x.phase=1
 .rw[Wb h1];exact(WxQ (cZ (by omega)) (by omega)).rs (kK (by omega))
 rw[Wa h1];by_cases h2:x.phase=2
 .rw[Wb h2];exact(Wsh (cZ (by omega)) (by omega)).rs (kK (by omega))
 rw[Wa h2];by_cases h3:x.phase=3
 .rw[Wb h3];exact(Wip (cZ (by omega)) (by omega)).rs (kK (by omega))
 rw[Wa h3];by_cases h4:x.phase=4
 .rw[Wb h4];exact(Wn3 (cZ (by omega)) (by omega)).rs (kK (by omega))
 rw[Wa h4];by_cases h5:x.phase=5
 .rw[Wb h5];exact WsQ hx h5
 rw[Wa h5];have gQ:=cZ h5;by_cases h6:x.phase=6
 .rw[Wb h6];have AC:∀ph,ph≠5->RX {x with phase:=ph}:=λph hp=>⟨(λhd=>by(change x.doomed=true at hd;rw[gQ]at hd;cases hd)),λh=>Wi h hp⟩;by_cases hz:x.undos.length>0
  .rw[Wb hz];refine⟨⟨(λhd=>by(change x.doomed=true at hd;rw[gQ]at hd;cases hd)),λh=>Wi h h5⟩,⟨Xx _,λhs=>?_⟩,Xx _,[],by simp[Wea]⟩;have iP:stl (Wea w x).2=true:=by
    have:=WbH.1 hs;rw[WbH];show x.phase=8\/(x.phase=5/\_)\/((x.phase=6\/x.phase=7)/\x.fate≠0);omega
   refine⟨iP,?_,rfl,rfl,rfl⟩;unfold Wgs;rw[Wb iP,Wb hs];rfl
  .rw[Wa hz];refine⟨AC 7 (by omega),⟨Xx _,λhs=>?_⟩,Xx _,[],by simp⟩;have iP:stl {x with phase:=7}=true:=by
    have:=WbH.1 hs;exact WbH.2 (.inr (.inr ⟨.inr rfl,by show x.fate≠0;omega⟩))
   refine⟨iP,?_,rfl,rfl,rfl⟩;unfold Wgs;rw[Wb iP,Wb hs,Wa h5,Wa (by show¬(7:Int)=5;omega)]
 rw[Wa h6];by_cases h7:x.phase=7
 .rw[Wb h7];by_cases hf:x.fate=0
  .rw[Wb hf];have nG:stl x=false:=by rw[Xbw,Ne,WbH];omega
   exact⟨⟨(λhd=>by cases hd),λh=>by(change (0:Int)=5 at h;omega)⟩,Stay.un nG (by show x.tries<=x.tries+1;omega),Xx _,[],by simp⟩
  .rw[Wa hf];refine⟨⟨(λhd=>by cases hd),λh=>by(change (8:Int)=5 at h;omega)⟩,⟨Xx _,λhs=>?_⟩,Xx _,[],by simp[Wkw]⟩;have iP:stl (Wkw {w with holds:=W7 w.holds ((k:Int)+1)} x k).2=true:=WbH.2 (.inl rfl);refine⟨iP,?_,rfl,rfl,rfl⟩;unfold Wgs;rw[Wb iP,Wb hs,Wa h5];rfl
 .rw[Wa h7];exact⟨hx,Stay.refl x,Xx _,[],by simp⟩
end
def WX(w:Wo):Prop:=∀(i:Nat) (h:i<w.roots.length),RX w.roots[i]
structure WStay(w v:Wo):Prop where
 len:w.roots.length=v.roots.length
 root:∀(i:Nat) (h:i<w.roots.length) (h':i<v.roots.length),Stay w.roots[i] v.roots[i]
 hist:∃l,v.hist=w.hist++l
 clock:w.mem.1<=v.mem.1
section
variable{s:Sc}{w v u:Wo}{n:Int}{a:Ac}{k:Nat}
theorem WStay.refl(w:Wo):WStay w w:=⟨rfl,λi h h'=>Stay.refl _,⟨[],by simp⟩,Xx _⟩
theorem WStay.trans(h:WStay w v)(h':WStay v u):WStay w u:=by
 obtain⟨l,hl⟩:=h.hist;obtain⟨l',cg⟩:=h'.hist;exact⟨h.len.trans h'.len,λi a b=>(h.root i a (by rw[←h.len];exact a)).trans (h'.root i (by rw[←h.len];exact a) b),⟨l++l',by rw[cg,hl,List.append_assoc]⟩,Xfg h.clock h'.clock⟩
theorem WkR{q:Wo×Rt}{w0:Wo}(hx:WX w0)(hk:k<w0.roots.length)(hr:q.1.roots=w0.roots)(hq:RS w0 w0.roots[k] q):WX (Wo.put q k)/\WStay w0 (Wo.put q k):=by
 have hlen:(q.1.roots.set k q.2).length=w0.roots.length:=by rw[Xah,hr]
 refine⟨λi hi=>?_,hlen.symm,λi hi gz=>?_,hq.hist,hq.clock⟩
 .change i<(q.1.roots.set k q.2).length at hi;show RX (q.1.roots.set k q.2)[i];rw[Xau];by_cases he:k=i
  .rw[Wb he];exact hq.rx
  .rw[Wa he];simp only[hr];exact hx i (by rw[←hlen];exact hi)
 .have AD:i<(q.1.roots.set k q.2).length:=gz;show Stay _ ((q.1.roots.set k q.2)[i]'AD);rw[Xau];by_cases he:k=i
  .subst he;rw[Wb rfl];exact hq.stay
  .rw[Wa he];simp only[hr];exact Stay.refl _
theorem WhU(h:WOk s.2.1 n w)(hk:k<w.roots.length):(WW {w with now:=w.now+1} w.roots[k] k (s.2.1.getD k pg0)).1.roots=w.roots:=
 (Wid (w:={w with now:=w.now+1}) (k:=k) (Wgv h.progs (by rw[←h.len];exact hk)) ⟨h.mem,h.shelf,h.holds⟩ (h.root k hk) (by have:=h.l4;have:=h.len;omega) h.n0).roots
theorem WdL(h:WOk s.2.1 n w)(hx:WX w):WX (Wcw s w a)/\WStay w (Wcw s w a):=by
 have cy:WX {w with now:=w.now+1}:=hx;have mq:WStay w {w with now:=w.now+1}:=⟨rfl,λi h h'=>Stay.refl _,⟨[],by simp⟩,Xx _⟩;unfold Wcw;simp only;split
 .rename_i hb;have hk:a.2.1.toNat<w.roots.length:=by omega
  rw[Wp hk];have q9:=hx _ hk;split
  .unfold WiC;rw[Wp (show a.2.1.toNat<({w with now:=w.now+1}:Wo).roots.length from hk)];obtain⟨c,d⟩:=WkR (w0:={w with now:=w.now+1}) cy hk (WhU h hk) (WwO q9 (h.root _ hk).phase);exact⟨c,mq.trans d⟩
  .split
   .split
    .rename_i hf;have aW:=hf.1;obtain⟨c,d⟩:=WkR (w0:={w with now:=w.now+1}) (q:=({w with now:=w.now+1},{w.roots[a.2.1.toNat]with fam:=WcE w.mem w.roots[a.2.1.toNat].fam a.2.2.toNat ((s.2.1.getD a.2.1.toNat pg0).2.getD a.2.2.toNat [])})) cy hk rfl
      ⟨⟨q9.doom,q9.fate⟩,Stay.un (by rw[Xbw,Ne,WbH,aW];omega) (Xx _),Xx _,[],by simp⟩
     exact⟨c,mq.trans d⟩
    .exact⟨cy,mq⟩
   .split
    .split
     .rename_i hf;have nG:stl w.roots[a.2.1.toNat]=false:=by rw[Xbw,Ne,WbH];omega
      obtain⟨c,d⟩:=WkR (w0:={w with now:=w.now+1}) (q:=({w with now:=w.now+1},{w.roots[a.2.1.toNat]with doomed:=true})) cy hk rfl
       ⟨⟨λ_=>hf,q9.fate⟩,Stay.un nG (Xx _),Xx _,[],by simp⟩
      exact⟨c,mq.trans d⟩
     .exact⟨cy,mq⟩
    .exact⟨cy,mq⟩
 .exact⟨cy,mq⟩
theorem Wnc:∀(l:List Ac) (n:Int) (w:Wo),WOk s.2.1 n w->WX w->WX (l.foldl (Wcw s) w)/\WStay w (l.foldl (Wcw s) w)
 | [],n,w,h,hx=>⟨hx,WStay.refl w⟩
 |a::l,n,w,h,hx=>by
  obtain⟨c,d⟩:=WdL (a:=a) h hx;obtain⟨e,f⟩:=Wnc l (n+1) _ (Wch (a:=a) h) c;exact⟨e,d.trans f⟩
theorem WvW:WX (Wft s):=λi h=>by
 simp only[Wft,Xbi];exact⟨(λhd=>by cases hd),λh=>by(change (0:Int)=5 at h;omega)⟩
end
end
section
def Wac(c:Cm):Int:=
 if c.phase=1 then 3*c.puts.length-c.pos+1+c.reads.length else
 if c.phase=2 then 1+c.reads.length+2*c.puts.length else
 if c.phase=3 then c.reads.length-c.pos+2*c.puts.length else
 if c.phase=4 then 2*c.puts.length-c.pos else
 if c.phase=5 then c.puts.length-c.pos else
 if c.phase=7 then c.pos+1 else 0
section
variable{c:Cm}{m:Mm}{n ph:Int}
theorem WgN(h:CmOk c):0<=Wac c/\Wac c<=33/\(c.phase≠6->c.phase≠8->1<=Wac c):=by
 have hp:=h.phase;have h1:=h.plen;have h2:=h.rlen;have h3:=h.pos;unfold Cm.steps at h3;unfold Wac;have:c.phase=1\/c.phase=2\/c.phase=3\/c.phase=4\/c.phase=5\/c.phase=6\/c.phase=7\/c.phase=8:=by omega
 rcases this with h|h|h|h|h|h|h|h<;>(rw[h]at h3⊢;simp at h3⊢;try omega)
theorem Wce(h:0<=n):Wac (W9 c n)=n:=by
 unfold W9;split
 .rename_i h0;rw[h0];rfl
 .show(if(7:Int)=1 then _ else if(7:Int)=2 then _ else if(7:Int)=3 then _ else if(7:Int)=4 then _ else if(7:Int)=5 then _ else if(7:Int)=7 then n-1+1 else 0)=n;simp
theorem Wkx(h:ph=2\/ph=3\/ph=4\/ph=5\/ph=6):Wac (WcV c ph)<=if ph=2 then 1+c.reads.length+2*c.puts.length else if ph=3 then c.reads.length+2*c.puts.length else if ph=4 then 2*c.puts.length else if ph=5 then c.puts.length else 0:=by
 obtain⟨a,ha⟩:∃a,WaM c ph=a:=⟨_,rfl⟩;have:a=ph\/a=6\/(ph=3/\a=4):=by
  unfold WaM at ha;split at ha
  .omega
  .split at ha<;>omega
 have e:Wac (WcV c ph)=Wac {c with phase:=a,pos:=0}:=by unfold WcV;rw[ha]
 rw[e];unfold Wac;simp only;rcases h with rfl|rfl|rfl|rfl|rfl<;>rcases this with rfl|rfl|⟨_,rfl⟩<;>simp<;>omega
theorem Wd8(h:CmOk c)(hp:c.phase=1/\ph=2\/c.phase=3/\ph=4\/c.phase=4/\ph=5\/c.phase=5/\ph=6):Wac (Wv c ph)<Wac c:=by
 have h3:=h.pos;have hb:=Wkx (c:=c) (ph:=ph) (by omega);unfold Cm.steps at h3;unfold Wv;split
 .rename_i hs;refine Xcp hb ?_;unfold Cm.steps at hs;unfold Wac;rcases hp with⟨a,rfl⟩|⟨a,rfl⟩|⟨a,rfl⟩|⟨a,rfl⟩<;>(rw[a]at h3 hs⊢;simp at h3 hs⊢;omega)
 .unfold Wac;simp only;rcases hp with⟨a,rfl⟩|⟨a,rfl⟩|⟨a,rfl⟩|⟨a,rfl⟩<;>(rw[a];simp;omega)
theorem Wpf(h:CmOk c)(h6:c.phase≠6)(h8:c.phase≠8):Wac (Ws m c).2<Wac c:=by
 have hp:=h.phase;have h1:=h.plen;have h2:=h.rlen;have h3:=h.pos;unfold Cm.steps at h3;unfold Ws;simp only;by_cases p1:c.phase=1
 .rw[Wb p1];split
  .exact Wd8 h (.inl ⟨p1,rfl⟩)
  .show Wac (W9 c c.pos)<_;rw[Wce h3.1];unfold Wac;rw[p1]at h3⊢;simp at h3⊢;omega
 rw[Wa p1];by_cases p2:c.phase=2
 .rw[Wb p2];split
  .show Wac (W9 c c.puts.length)<_;rw[Wce (by omega)];unfold Wac;rw[p2]at h3⊢;simp at h3⊢;omega
  .refine Xcp (Wkx (c:={c with wv:=(tick m).2}) (.inr (.inl rfl))) ?_;unfold Wac;rw[p2]at h3⊢;simp at h3⊢;omega
 rw[Wa p2];by_cases p3:c.phase=3
 .rw[Wb p3];split
  .show Wac (W9 c c.puts.length)<_;rw[Wce (by omega)];unfold Wac;rw[p3]at h3⊢;simp at h3⊢;omega
  .exact Wd8 h (.inr (.inl ⟨p3,rfl⟩))
 rw[Wa p3];by_cases p4:c.phase=4
 .rw[Wb p4];exact Wd8 h (.inr (.inr (.inl ⟨p4,rfl⟩)))
 rw[Wa p4];by_cases p5:c.phase=5
 .rw[Wb p5];exact Wd8 h (.inr (.inr (.inr ⟨p5,rfl⟩)))
 rw[Wa p5,Wb (show c.phase=7 by omega)];show Wac (W9 c c.pos)<_;rw[Wce h3.1];unfold Wac;rw[show c.phase=7 by omega];simp;omega
theorem WmN(h:CmOk c):Wac (Waa c)<=Wac c/\(c.phase<=3->Wac (Waa c)<Wac c):=by
 have hp:=h.phase;have h3:=h.pos;unfold Cm.steps at h3;unfold Waa;by_cases p1:c.phase=1
 .rw[Wb p1,Wce h3.1];unfold Wac;rw[p1]at h3⊢;simp at h3⊢;omega
 rw[Wa p1];split
 .rename_i wJ;rw[Wce (by omega)];rcases wJ with p|p<;>(unfold Wac;rw[p]at h3⊢;simp at h3⊢;omega)
 .exact⟨Xx _,λh=>by omega⟩
end
end
section
def Wsu(f:Fm):List Kd->Int
 | []=>0
 |x::l=>if WaG x=1/\Wsu f l<=fP f x+fQ f then fP f x+fQ f else Wsu f l
def Wmp(f:Fm):Int:=Wsu f f.kids
theorem WqJ(f:Fm):∀(l:List Kd),0<=Wsu f l
 | []=>Xx _
 |x::l=>by have:=WqJ f l;rw[Wsu];split<;>omega
theorem WkS{f:Fm}{b:Int}:∀{l:List Kd},0<=b->(∀x∈l,WaG x=1->fP f x+fQ f<=b)->Wsu f l<=b
 | [],h,_=>h
 |x::l,h,hl=>by
  have ih:=WkS (f:=f) h λy hy=>hl y (List.mem_cons_of_mem _ hy);rw[Wsu];split
  .rename_i hc;exact hl x (List.mem_cons_self ..) hc.1
  .exact ih
theorem Wpt{f:Fm}:∀{l:List Kd},∀x∈l,WaG x=1->fP f x+fQ f<=Wsu f l
 | [],x,h,_=>by cases h
 |y::l,x,h,hu=>by
  rw[Wsu];rcases List.mem_cons.1 h with rfl|h
  .split
   .exact Xx _
   .rename_i hc;by_cases h':Wsu f l<=fP f x+fQ f
    .exact Wi ⟨hu,h'⟩ hc
    .omega
  .have:=Wpt (f:=f) x h hu;split<;>omega
variable{codes:List (List Opn)}{n:Int}{f g:Fm}{m:Mm}
theorem Wy6(hF:FOk codes n f)(hl:∀c∈codes,c.length<=24):0<=fQ f:=by
 have h1:Wdc (λ_=>0) f.kids<=Wdc (W6 f.clock) f.kids:=by
  refine Wjq λx hx=>?_;obtain⟨k,hk,rfl⟩:=Xao hx;have bd:k<codes.length:=by rw[←hF.len];exact hk
  have hK:=hF.kid k hk;rw[Wp bd]at hK;have a:=(WeN hK (hl _ (Xo bd))).1;have b:=Wcm f.clock f.kids[k];unfold W6;omega
 have h2:∀l:List Kd,Wdc (λ_=>0) l=0:=λl=>by induction l with
  |nil=>rfl
  |cons x l ih=>simp only[Wdc,Xae,Xcw]at*;omega
 rw[h2]at h1;have h3:0<=tri (Wfx f):=by
  unfold tri;split
  .omega
  .split<;>omega
 unfold fQ;omega
theorem Wy8(hF:FOk codes n f)(hl:∀c∈codes,c.length<=24)(hT:∀(j:Nat) (h:j<f.kids.length),KT f j f.kids[j]){k:Nat}(hk:k<f.kids.length)(hu:WaG f.kids[k]=1):1<=fP f f.kids[k]+fQ f:=by
 have hq:=Wy6 hF hl;have bd:k<codes.length:=by rw[←hF.len];exact hk
 have hK:=hF.kid k hk;rw[Wp bd]at hK;have hlen:=hl _ (Xo bd);obtain⟨l1,l2,l3⟩:=WlA hK hlen (hT k hk).pb;have b:=Wcm f.clock f.kids[k];have eE:1<=Wfx f:=by
  unfold Wfx;have:=Wb3 (g:=WaG) (y:=f.kids[k]) hk;have h0:0<=Wdc WaG (f.kids.set k {phase:=3}):=(Wln {f with kids:=f.kids.set k {phase:=3}}).1;rw[Wb3 hk,hu]at h0;have:WaG ({phase:=3}:Kd)=0:=rfl;omega
 by_cases p0:f.kids[k].phase=0
 .have:=l3 p0;unfold fP;omega
 .
  obtain⟨c1,c2,c3,c4⟩:=WeN hK hlen;have aW:=hK.phase;have eX:f.kids[k].phase≠3:=λh3=>by unfold WaG at hu;rw[Wb h3]at hu;omega
  have hc:1<=Wbt f.kids[k]:=by
   by_cases p2:f.kids[k].phase=2
   .exact(c3 p2).1
   .have:=c4 (.inr (by omega));omega
  have hs:W6 f.clock f.kids[k]<=Wdc (W6 f.clock) f.kids:=by
   have h0:Wdc (λ_=>0) (f.kids.set k {phase:=3})<=Wdc (W6 f.clock) (f.kids.set k {phase:=3}):=by
    refine Wjq λx hx=>?_;rcases Xdg hx with hx|rfl
    .obtain⟨j,hj,rfl⟩:=Xao hx;have yB:j<codes.length:=by rw[←hF.len];exact hj
     have hK:=hF.kid j hj;rw[Wp yB]at hK;have a:=(WeN hK (hl _ (Xo yB))).1;have b:=Wcm f.clock f.kids[j];unfold W6;omega
    .unfold W6 Wbt WbW;simp
   have hz:∀l:List Kd,Wdc (λ_=>0) l=0:=λl=>by induction l with
    |nil=>rfl
    |cons x l ih=>simp only[Wdc,Xae,Xcw]at*;omega
   rw[hz,Wb3 hk]at h0;have:W6 f.clock ({phase:=3}:Kd)=0:=by unfold W6 Wbt WbW;simp
   omega
  have h3:0<=tri (Wfx f):=by
   unfold tri;split
   .omega
   .split<;>omega
  unfold fP fQ;unfold W6 at hs;unfold W6;omega
end
section
theorem Wu1{l:List Opn}{j e:Nat}(hc:CC l)(hm:Mate l j e)(h8:∃h:j<l.length,l[j].1=8):∀i,j<i->i<=e->dep l j<dep l i/\frk l i=frk l (j+1):=λi lK xa=>by
 obtain⟨hj,h8⟩:=h8;have hlen:=hm.len;have key:∀d,j+1+d<=e->dep l j<dep l (j+1+d)/\frk l (j+1+d)=frk l (j+1):=λd=>by
  induction d with
  |zero=>intro _;rw[Nat.add_zero,WaJ hj,Wvs h8];exact⟨by omega,rfl⟩
  |succ d ih=>
   intro hd;obtain⟨i1,i2⟩:=ih (by omega);have hlt:j+1+d<l.length:=by omega
   have hb:=Whu l[j+1+d];have fW:=WaJ hlt;have hne:=hm.ne (j+1+d) (by omega) (by omega);refine⟨by rw[show j+1+(d+1)=j+1+d+1 by omega];omega,?_⟩;rw[show j+1+(d+1)=j+1+d+1 by omega,Weg hlt,i2];have:¬l[j+1+d].1=11:=λfz=>by
    have h0:=(hc.fk _ hlt fz).1;have:=hc.up.at (j:=j) (by omega);omega
   rw[show(l[j+1+d].1==11)=false by simpa using this];rfl
 have:=key (i-(j+1)) (by omega);rw[show j+1+(i-(j+1))=i by omega]at this;exact this
def Wt0(x:Rt):Int:=if x.busy=true then x.pb.2.1 else 0
def Wep(p:Pg)(pc:Int):Int:=382*(1-frk p.1 pc.toNat)
def Wa9(x:Rt):Int:=x.undos.length+146*(2-x.spare)+36
def Wu(p:Pg)(x:Rt):Int:=
 if x.phase=1 then 75-3*x.pc-Wt0 x+Wep p x.pc+Wa9 x else
 if x.phase=2 then(if x.fam.lost=true then x.undos.length+3 else 73-3*x.pc+Wmp x.fam+Wa9 x)else
 if x.phase=3 then x.last.2.1+74-3*x.last.1+Wep p x.pc+Wa9 x else
 if x.phase=4 then x.last.2.1-x.pos+73-3*x.last.1+Wep p x.pc+Wa9 x else
 if x.phase=5 then Wac x.cm+x.undos.length+3 else
 if x.phase=6 then x.undos.length+2 else
 if x.phase=7 then 1 else 0
structure RT(x:Rt):Prop where
 pb:x.busy=true->x.pb.2.1=1\/x.pb.2.1=2
 fam:x.phase=2->x.fam.lost=true\/∀(j:Nat) (h:j<x.fam.kids.length),KT x.fam j x.fam.kids[j]
 cm:x.phase=5->x.cm.phase≠6/\x.cm.phase≠8
variable{w:Wo}{x y:Rt}{k:Nat}{p:Pg}{n:Int}{o:Opn}
theorem WfV(h:RT x):0<=Wt0 x/\Wt0 x<=2:=by
 unfold Wt0;split
 .have:=h.pb ‹_›;omega
 .omega
theorem Wnw{a b:Int}(h:a<=b):Wep p b<=Wep p a:=by
 have:=Wh5 p.1 (show a.toNat<=b.toNat by omega);unfold Wep;omega
theorem WsA(hc:CC p.1){a:Int}(h:a<=p.1.length):0<=Wep p a:=by
 have:=Wf6 hc a.toNat (by omega);unfold Wep;omega
theorem Wb9(h:x.phase=1):Wu p x=75-3*x.pc-Wt0 x+Wep p x.pc+Wa9 x:=by unfold Wu;rw[Wb h]
theorem WoC(h:x.phase=6):Wu p x=x.undos.length+2:=by unfold Wu;rw[h];simp
theorem Wfp:Wu p (Wdf x)=x.undos.length+2:=WoC rfl
theorem Wif(h1:x.phase=1)(hy:y.phase=1)(aT:x.pc+1<=y.pc)(hb:y.busy=x.busy)(hp:y.pb=x.pb)(hs:y.spare=x.spare)(hu:(y.undos.length:Int)<=x.undos.length+1):Wu p y<Wu p x:=by
 rw[Wb9 h1,Wb9 hy];have:=Wnw (p:=p) (show x.pc<=y.pc by omega);unfold Wt0 Wa9;rw[hb,hp,hs];omega
end
section
variable{w:Wo}{x y:Rt}{k:Nat}{p:Pg}{n:Int}{o:Opn}
theorem We3(aK:CC p.1)(hl:RLive p n x)(ht:RT x)(h1:x.phase=1):(x.undos.length:Int)+37+146*(2-x.spare)<=Wu p x:=by
 rw[Wb9 h1];have hp:=WfV ht;have aT:=hl.pc;have hlen:=aK.len;have:=WsA aK aT.2;unfold Wa9;omega
theorem Wjg(aK:CC p.1)(hl:RLive p n x)(ht:RT x)(h1:x.phase=1){out:Int}(jv:0<=x.rv/\x.rv<=1000000)(hk:k<=8):Wu p (WaC w x k out).2<Wu p x:=by
 have qn:=We3 aK hl ht h1;have hs:=hl.spare;unfold WaC;simp only;generalize (if out=2 then []else x.writes)=rows;split
 .show Wu p (Wkw w {x with fate:=out,stamp:=x.rv} k).2<_;have:Wu p (Wkw w {x with fate:=out,stamp:=x.rv} k).2=0:=rfl;omega
 .have hc:CmOk (Wbl ((k:Int)+1) x.rv rows x.reads):=Wls (by omega) jv;have:=(WgN hc).2.1;have e:Wu p ({x with fate:=out,cm:=Wbl ((k:Int)+1) x.rv rows x.reads,phase:=5}:Rt)=Wac (Wbl ((k:Int)+1) x.rv rows x.reads)+x.undos.length+3:=rfl;show Wu p ({x with fate:=out,cm:=Wbl ((k:Int)+1) x.rv rows x.reads,phase:=5}:Rt)<_;rw[e];omega
theorem Wl0(aK:CC p.1)(hl:RLive p n x)(hz:x.marks.length≠0):0<=x.last.1/\x.last.1<x.pc/\0<=x.last.2.1/\x.last.2.1<=x.last.1+72/\Wep p (x.last.1+1)=Wep p x.pc:=by
 have hM:=hl.marks;have aT:=hl.pc;obtain⟨j,q,y,e1,e2,e3,h8,qc,cM,fT,e5,e6⟩:=WhQ (d:=zRM) aK (show x.pc.toNat<=p.1.length by omega) hM.pcs hz;have e4:x.last=y:=e2;have hy:=(hM.each y (by rw[e1];simp)).2.1;have hf:=(Wu1 aK cM h8 x.pc.toNat qc fT).2;have hfj:=Wf6 aK j (by omega);rw[e4];rw[e3]at hy⊢;rw[Xj]at hy;refine⟨by omega,by omega,hy.1,by omega,?_⟩;unfold Wep;rw[hf,show((j:Int)+1).toNat=j+1 by omega]
theorem WfM(aK:CC p.1)(hl:RLive p n x)(ht:RT x)(h1:x.phase=1){b:Bool}{q:Pb}:Wu p (WR {x with busy:=b,pb:=q})<Wu p x:=by
 have qn:=We3 aK hl ht h1;have hs:=hl.spare;unfold WR;split
 .have e:Wu p (Wdf ({x with busy:=b,pb:=q}:Rt))=x.undos.length+2:=rfl;rw[e];omega
 .rename_i hc;have hz:x.marks.length≠0:=λh=>hc (.inl h);obtain⟨m1,m2,m3,m4,m5⟩:=Wl0 aK hl hz;have hp:=WfV ht;have aT:=hl.pc;have hlen:=aK.len;rw[Wb9 h1];have e:Wu p ({x with busy:=false,pb:=(0,0,0,0),spare:=x.spare+1,phase:=3}:Rt)=x.last.2.1+74-3*x.last.1+Wep p x.pc+(x.undos.length+146*(2-(x.spare+1))+36):=rfl;show Wu p ({x with busy:=false,pb:=(0,0,0,0),spare:=x.spare+1,phase:=3}:Rt)<_;rw[e];unfold Wa9;omega
theorem Wrj(aK:CC p.1)(hl:RLive p n x)(ht:RT x)(h1:x.phase=1):Wu p (Wdg w x o)<Wu p x:=by
 have hp:=WfV ht;unfold Wdg;cases Wbv x.writes o.2.2.1 with
 |some v=>exact Wif h1 h1 (Xx _) rfl rfl rfl (by show(x.undos.length:Int)<=_;omega)
 |none=>
  simp only;have hq:0<=(if x.busy=true then x.pb else(o.2.2.1,0,0,0)).2.1/\(if x.busy=true then x.pb else(o.2.2.1,0,0,0)).2.1<=2:=by
   split
   .have:=ht.pb ‹_›;omega
   .simp
  have fT:(if x.busy=true then x.pb else(o.2.2.1,0,0,0)).2.1=Wt0 x:=by unfold Wt0;split<;>rfl
  have hs:=Wpm (m:=w.mem) (rv:=x.rv) hq;rw[fT]at hs;generalize W5 w.mem x.rv (if x.busy=true then x.pb else(o.2.2.1,0,0,0))=q at*;split
  .exact WfM aK hl ht h1
  .have hf:=Wnw (p:=p) (show x.pc<=x.pc+1 by omega);split
   .rw[Wb9 h1];refine Xcp (Xgc (Wb9 h1)) ?_;show 75-3*(x.pc+1) -0+Wep p (x.pc+1)+Wa9 x<_;omega
   .rw[Wb9 h1];refine Xcp (Xgc (Wb9 h1)) ?_;show 75-3*x.pc-q.2.1+Wep p x.pc+Wa9 x<_;omega
theorem WsE{α:Type}(l:List α)(h:l.length≠0):(l.dropLast.length:Int)=l.length-1:=by rw[Xdt];omega
theorem Whd(h:x.phase=1\/x.phase=3\/x.phase=6)(hz:x.undos.length≠0):Wu p (Wea w x).2<Wu p x:=by
 have hd:=WsE x.undos hz;have e:Wu p (Wea w x).2=Wu p x-1:=by
  unfold Wea Wu Wa9;simp only;rw[hd];rcases h with h|h|h
  .rw[Wb h,Wb h];show 75-3*x.pc-Wt0 x+Wep p x.pc+_=_;omega
  .rw[Wa (by omega),Wa (by omega),Wb h,Wa (by omega),Wa (by omega),Wb h];show x.last.2.1+74-3*x.last.1+Wep p x.pc+_=_;omega
  .rw[h];simp;omega
 omega
theorem Wov(aK:CC p.1)(hl:RLive p n x)(ht:RT x)(h1:x.phase=1)(hk:k<=8):Wu p (Wb0 w x k p.1).2<Wu p x:=by
 unfold Wb0;split
 .exact Wjg aK hl ht h1 hl.rv hk
 .rename_i hz;split
  .have hM:=hl.marks;have cH:0<=x.last.2.2.2.1:=by
    have hm:x.last∈x.marks:=WgK hz _;exact(hM.each _ hm).2.2.2.1
   exact Whd (.inl h1) (by omega)
  .have hM:=hl.marks;have aT:=hl.pc;obtain⟨j,q,y,e1,e2,e3,h8,qc,cM,fT,e5,e6⟩:=WhQ (d:=zRM) aK (show x.pc.toNat<=p.1.length by omega) hM.pcs hz;have e4:x.last=y:=e2;refine Wif h1 h1 ?_ rfl rfl rfl (by show(x.undos.length:Int)<=_;omega);show x.pc+1<=(WiD p.1 x.last.1.toNat:Int)+1;rw[e4,e3,Xj];omega
theorem WoE(aK:CC p.1)(hl:RLive p n x)(ht:RT x)(h1:x.phase=1):Wu p (WbO w x k o).2<Wu p x:=by
 unfold WbO;cases WaX w.holds ((k:Int)+1) (WaH o).1 (WaH o).2 with
 |none=>
  have:=WfM aK hl ht h1 (b:=x.busy) (q:=x.pb);exact this
 |some hs=>
  refine Wif h1 h1 (Xx _) rfl rfl rfl ?_;show((if(Wbx w.shelf o x.regs).2.2.1=0 then x.undos else x.undos++ [(Wbx w.shelf o x.regs).2.2]).length:Int)<=_;split
  .omega
  .simp
theorem Wt9(aK:CC p.1)(h3:p.2.length<=3)(hl:RLive p n x)(ht:RT x)(h1:x.phase=1)(hk:k<=8)(wK:∀regs writes rv,Wmp (WaE rv regs writes p.2.length)<=381):Wu p (Wgk w x k p).2<Wu p x:=by
 unfold Wgk;split
 .exact Wjg aK hl ht h1 hl.rv hk
 .obtain⟨i,hi,aT,ho⟩:=WfI (l:=p.1) hl.pc.1 (by have:=hl.pc;omega);simp only[ho];have tz:∀y:Rt,y.phase=1->x.pc+1<=y.pc->y.busy=x.busy->y.pb=x.pb->y.spare=x.spare->y.undos=x.undos->Wu p y<Wu p x:=λy a b c d e f=>Wif h1 a b c d e (by rw[f];omega);split
  .exact Wrj aK hl ht h1
  .split
   .exact Wov aK hl ht h1 hk
   .split
    .rename_i fz;rw[Wb9 h1];have e:Wu p ({x with phase:=2,fam:=WaE x.rv x.regs x.writes p.2.length}:Rt)=73-3*x.pc+Wmp (WaE x.rv x.regs x.writes p.2.length)+Wa9 x:=rfl;show Wu p ({x with phase:=2,fam:=WaE x.rv x.regs x.writes p.2.length}:Rt)<_;rw[e];have:=wK x.regs x.writes x.rv;have hp:=WfV ht;have hf:=Wf6 aK (i+1) (by omega);rw[Weg hi,show(p.1[i].1==11)=true by simpa using fz]at hf;have:Wep p x.pc=382:=by
      unfold Wep;rw[aT,Xj];have:frk p.1 i=0:=by have:Bool.toNat true=1:=rfl;omega
      rw[this];rfl
     omega
    .split
     .exact WoE aK hl ht h1
     .split
      .exact tz _ h1 (Xx _) rfl rfl rfl rfl
      .split
       .have hk:=Wxs (aK.ok i hi).1 ‹_›;refine tz _ h1 ?_ rfl rfl rfl rfl;show x.pc+1<=(if Wcl x.regs p.1[i].2.1 0=0 then x.pc+p.1[i].2.2.1 else x.pc)+1;split<;>omega
       .split
        .exact tz _ h1 (Xx _) rfl rfl rfl rfl
        .split
         .exact tz _ h1 (Xx _) rfl rfl rfl rfl
         .exact tz _ h1 (Xx _) rfl rfl rfl rfl
end
section
variable{w:Wo}{x y:Rt}{k:Nat}{p:Pg}{n:Int}{o:Opn}
theorem Wmg(g:Kd->Int)(x:Kd):∀u:Nat,Wdc g (Xu u x)=u*g x
 |0=>by simp[Wdc]
 |u+1=>by
  have:=Wmg g x u;simp only[Wdc,List.replicate_succ,Xae,Xcw]at*;rw[this,Xgh,Int.add_mul];omega
theorem Wrn{rv:Int}{regs:List Int}{writes:List Rw}{u:Nat}(h:u<=3):Wmp (WaE rv regs writes u)<=381:=by
 have hk:(WaE rv regs writes u).kids=Xu u {regs:=regs}:=rfl;have hc:(WaE rv regs writes u).clock=0:=rfl;have h1:WaG ({regs:=regs}:Kd)=1:=rfl;have h2:WbW 0 ({regs:=regs}:Kd)=0:=rfl;have h3:W6 0 ({regs:=regs}:Kd)=26:=rfl;have h4:Wbz ({regs:=regs}:Kd)=75:=rfl;have hu:Wfx (WaE rv regs writes u)=u:=by unfold Wfx;rw[hk,Wmg,h1];omega
 have hq:fQ (WaE rv regs writes u)=u*26+26*tri u:=by unfold fQ;rw[hu,hk,hc,Wmg,h3]
 refine WkS (by omega) λy hy _=>?_;rw[hk]at hy;obtain⟨yv,rfl⟩:=List.mem_replicate.1 hy;unfold fP;rw[hq,hu,hc,h2,h4];have:u=1\/u=2\/u=3:=by omega
 rcases this with rfl|rfl|rfl<;>decide
theorem Wq8(hl:RLive p n x)(aK:CC p.1)(ht:RT x)(h2:x.phase=2)(hq:x.fam.lost=true\/Wbj x.fam=true):Wu p (WbR x)<Wu p x:=by
 have hs:=hl.spare;have e:Wu p x=if x.fam.lost=true then(x.undos.length:Int)+3 else 73-3*x.pc+Wmp x.fam+Wa9 x:=by unfold Wu;rw[Wa (by omega),Wb h2]
 unfold WbR;split
 .rename_i bI;rw[Wfp,e,Wb bI];omega
 .rename_i bI;rw[Wb (hq.resolve_left bI),e,Wa bI];refine Xcp (Xgc (Wb9 rfl)) ?_;have hp:=WfV ht;have h0:=WqJ x.fam x.fam.kids;obtain⟨f1,f2,f3⟩:=hl.fork h2;obtain⟨i,hi,aT,ho⟩:=WfI (l:=p.1) hl.pc.1 f1;have hf:=Wf6 aK (i+1) (by omega);have yC:=Weg hi;rw[←ho,f2]at yC;have hz:Wep p (x.pc+1)=0:=by
   unfold Wep;have:frk p.1 (i+1)=1:=by rw[yC]at hf⊢;have:((11:Int)==11).toNat=1:=rfl;omega
   rw[show(x.pc+1).toNat=i+1 by omega,this];rfl
  show 75-3*(x.pc+1) -Wt0 x+Wep p (x.pc+1)+Wa9 x<73-3*x.pc+Wsu x.fam x.fam.kids+Wa9 x;rw[hz];omega
theorem WmP(aK:CC p.1)(hl:RLive p n x)(h3:x.phase=3):Wu p (Wa1 w x).2<Wu p x:=by
 have hz:=hl.back (.inl h3);have hM:=hl.marks;unfold Wa1;split
 .have cH:0<=x.last.2.2.2.1:=(hM.each _ (WgK hz _)).2.2.2.1;exact Whd (.inr (.inl h3)) (by omega)
 .have e:Wu p x=x.last.2.1+74-3*x.last.1+Wep p x.pc+Wa9 x:=by unfold Wu;rw[Wa (by omega),Wa (by omega),Wb h3]
  have e':Wu p ({x with newRv:=w.mem.1,pos:=0,phase:=4}:Rt)=x.last.2.1-0+73-3*x.last.1+Wep p x.pc+Wa9 x:=rfl;show Wu p ({x with newRv:=w.mem.1,pos:=0,phase:=4}:Rt)<_;rw[e,e'];omega
theorem WmZ(aK:CC p.1)(hl:RLive p n x)(ht:RT x)(h4:x.phase=4):Wu p (WaA w x)<Wu p x:=by
 have hz:=hl.back (.inr h4);have hs:=hl.spare;have ch:=hl.pos h4;obtain⟨m1,m2,m3,m4,m5⟩:=Wl0 aK hl hz;have aT:=hl.pc;have hlen:=aK.len;have xh:=WsA aK aT.2;have hp:=WfV ht;have e:Wu p x=x.last.2.1-x.pos+73-3*x.last.1+Wep p x.pc+Wa9 x:=by unfold Wu;rw[Wa (by omega),Wa (by omega),Wa (by omega),Wb h4]
 unfold WaA;split
 .simp only;split
  .rw[Wfp,e];unfold Wa9;omega
  .have e':Wu p ({x with pos:=x.pos+1}:Rt)=x.last.2.1-(x.pos+1)+73-3*x.last.1+Wep p x.pc+Wa9 x:=by
    unfold Wu;rw[Wa (show¬x.phase=1 by omega),Wa (show¬x.phase=2 by omega),Wa (show¬x.phase=3 by omega),Wb h4];rfl
   rw[e,e'];omega
 .rw[e];refine Xcp (Xgc (Wb9 rfl)) ?_;show 75-3*(x.last.1+1) -Wt0 x+Wep p (x.last.1+1)+Wa9 x<_;rw[m5];omega
theorem WmT(hc:CmOk x.cm)(h5:x.phase=5)(jS:x.cm.phase≠6/\x.cm.phase≠8)(hdm:x.doomed=true->x.cm.phase<=3):Wu p (Waf w x k).2<Wu p x:=by
 have e:Wu p x=Wac x.cm+x.undos.length+3:=by unfold Wu;rw[h5];rfl
 have hb:=(WgN hc).2.2 jS.1 jS.2;unfold Waf;split
 .rename_i hd;simp only;split
  .rw[Wfp,e];omega
  .have e':Wu p ({x with cm:=Waa x.cm,doomed:=false}:Rt)=Wac (Waa x.cm)+x.undos.length+3:=by
    unfold Wu;show(if x.phase=1 then _ else _)=_;rw[h5];rfl
   rw[e',e];have:=(WmN hc).2 (hdm hd);omega
 .have hs:=Wpf (m:=w.mem) hc jS.1 jS.2;show Wu p (WaL {x with cm:=(Ws w.mem x.cm).2})<_;generalize (Ws w.mem x.cm).2=c at*;unfold WaL;split
  .have e':Wu p (Wdf ({x with cm:=c}:Rt))=x.undos.length+2:=rfl;rw[e',e];omega
  .split
   .rw[e];by_cases h2:x.fate=2
    .have e':Wu p ({x with stamp:=c.wv,cm:={},phase:=if x.fate=2 then 6 else 7}:Rt)=x.undos.length+2:=by rw[Wb h2];rfl
     show Wu p ({x with stamp:=c.wv,cm:={},phase:=if x.fate=2 then 6 else 7}:Rt)<_;rw[e'];omega
    .have e':Wu p ({x with stamp:=c.wv,cm:={},phase:=if x.fate=2 then 6 else 7}:Rt)=1:=by rw[Wa h2];rfl
     show Wu p ({x with stamp:=c.wv,cm:={},phase:=if x.fate=2 then 6 else 7}:Rt)<_;rw[e'];omega
   .have e':Wu p ({x with cm:=c}:Rt)=Wac c+x.undos.length+3:=by
     unfold Wu;show(if x.phase=1 then _ else _)=_;rw[h5];rfl
    rw[e',e];omega
end
section
variable{w:Wo}{x y:Rt}{k:Nat}{p:Pg}{n:Int}{o:Opn}
theorem RT.of(h:RT x)(hb:y.busy=x.busy)(hp:y.pb=x.pb)(h2:y.phase≠2)(h5:y.phase≠5):RT y:=
 ⟨λhy=>by rw[hp];exact h.pb (hb▸hy),λhy=>Wi hy h2,λhy=>Wi hy h5⟩
theorem RT.no(hb:y.busy=false)(h2:y.phase≠2)(h5:y.phase≠5):RT y:=
 ⟨(λhy=>by rw[hb]at hy;cases hy),λhy=>Wi hy h2,λhy=>Wi hy h5⟩
theorem We8:RT (Wdf x):=RT.no rfl (by show(6:Int)≠2;omega) (by show(6:Int)≠5;omega)
theorem WhT:RT (WR x):=by
 unfold WR;split
 .exact We8
 .exact RT.no rfl (by show(3:Int)≠2;omega) (by show(3:Int)≠5;omega)
theorem WmG(h:RT x){out:Int}:RT (WaC w x k out).2:=by
 unfold WaC;simp only;generalize (if out=2 then []else x.writes)=rows;split
 .exact h.of rfl rfl (by show(8:Int)≠2;omega) (by show(8:Int)≠5;omega)
 .refine⟨h.pb,λhy=>by(change (5:Int)=2 at hy;omega),λ_=>?_⟩;have e:(Wbl ((k:Int)+1) x.rv rows x.reads).phase=if(WcT rows).length=0 then 2 else 1:=rfl;show(Wbl ((k:Int)+1) x.rv rows x.reads).phase≠6/\(Wbl ((k:Int)+1) x.rv rows x.reads).phase≠8;rw[e];split<;>omega
theorem Wvm(h:RT x)(h1:x.phase=1):RT (Wdg w x o):=by
 have hn:∀y:Rt,y.phase=1->y.phase≠2/\y.phase≠5:=λy hy=>by omega
 unfold Wdg;cases Wbv x.writes o.2.2.1 with
 |some v=>exact h.of rfl rfl (hn _ h1).1 (hn _ h1).2
 |none=>
  simp only;have hq:0<=(if x.busy=true then x.pb else(o.2.2.1,0,0,0)).2.1/\(if x.busy=true then x.pb else(o.2.2.1,0,0,0)).2.1<=2:=by
   split
   .have:=h.pb ‹_›;omega
   .simp
  have hs:=Wpm (m:=w.mem) (rv:=x.rv) hq;generalize (if x.busy=true then x.pb else(o.2.2.1,0,0,0))=q0 at*;generalize W5 w.mem x.rv q0=q at*;split
  .exact WhT
  .split
   .exact RT.no rfl (hn _ h1).1 (hn _ h1).2
   .exact⟨λ_=>by show q.2.1=1\/q.2.1=2;omega,λhy=>Wi hy (hn _ h1).1,λhy=>Wi hy (hn _ h1).2⟩
theorem Wsz{rv:Int}{regs:List Int}{writes:List Rw}{u:Nat}(j:Nat)(h:j<(WaE rv regs writes u).kids.length):KT (WaE rv regs writes u) j (WaE rv regs writes u).kids[j]:=by
 have e:(WaE rv regs writes u).kids[j]={regs:=regs}:=by simp only[WaE,Xbi]
 rw[e];refine⟨(λh=>by cases h),?_,λ_ e he=>by cases he⟩;show(0:Int)=(j:Int)+1↔(0:Int)=2;omega
theorem Ww0(h:RT x)(h1:x.phase=1):RT (Wgk w x k p).2:=by
 have hn:∀y:Rt,y.phase=1->y.phase≠2/\y.phase≠5:=λy hy=>by omega
 unfold Wgk;split
 .exact WmG h
 .simp only;generalize opN p.1 x.pc=o;split
  .exact Wvm h h1
  .split
   .unfold Wb0;split
    .exact WmG h
    .split
     .exact h.of rfl rfl (hn _ h1).1 (hn _ h1).2
     .exact h.of rfl rfl (hn _ h1).1 (hn _ h1).2
   .split
    .exact⟨h.pb,λ_=>.inr λj hj=>Wsz j hj,λhy=>by(change (2:Int)=5 at hy;omega)⟩
    .split
     .unfold WbO;cases WaX w.holds ((k:Int)+1) (WaH o).1 (WaH o).2 with
      |none=>exact WhT
      |some hs=>exact h.of rfl rfl (hn _ h1).1 (hn _ h1).2
     .repeat' split
      all_goals exact h.of rfl rfl (hn _ h1).1 (hn _ h1).2
theorem Wrv(h:RT x)(h5:x.phase=5):RT (Waf w x k).2:=by
 unfold Waf;split
 .simp only;split
  .exact We8
  .rename_i h8;refine⟨h.pb,λhy=>by(change x.phase=2 at hy;omega),λ_=>⟨?_,h8⟩⟩;have:=(h.cm h5).1;show(Waa x.cm).phase≠6;unfold Waa W9
   repeat' split
   all_goals first|(simp only;omega)|exact this
 .show RT (WaL {x with cm:=(Ws w.mem x.cm).2});generalize (Ws w.mem x.cm).2=c;unfold WaL;split
  .exact We8
  .rename_i h8;split
   .have:(if x.fate=2 then(6:Int)else 7)≠2/\(if x.fate=2 then(6:Int)else 7)≠5:=by split<;>omega
    exact h.of rfl rfl this.1 this.2
   .rename_i h6;exact⟨h.pb,λhy=>by(change x.phase=2 at hy;omega),λ_=>⟨h6,h8⟩⟩
theorem WpH(h:RT x):RT (WW w x k p).2:=by
 unfold WW;by_cases hd:x.doomed=true/\1<=x.phase/\x.phase<=4
 .rw[Wb hd];exact We8
 rw[Wa hd];by_cases h0:x.phase=0
 .rw[Wb h0];unfold Wds;split
  .exact h
  .split
   .exact h
   .split
    .exact h
    .exact RT.no rfl (by show(1:Int)≠2;omega) (by show(1:Int)≠5;omega)
 rw[Wa h0];by_cases h1:x.phase=1
 .rw[Wb h1];exact Ww0 h h1
 rw[Wa h1];by_cases h2:x.phase=2
 .rw[Wb h2];show RT (WbR x);unfold WbR;split
  .exact We8
  .split
   .exact h.of rfl rfl (by show(1:Int)≠2;omega) (by show(1:Int)≠5;omega)
   .exact h
 rw[Wa h2];by_cases h3:x.phase=3
 .rw[Wb h3];unfold Wa1;split
  .exact h.of rfl rfl (by show x.phase≠2;omega) (by show x.phase≠5;omega)
  .exact h.of rfl rfl (by show(4:Int)≠2;omega) (by show(4:Int)≠5;omega)
 rw[Wa h3];by_cases h4:x.phase=4
 .rw[Wb h4];show RT (WaA w x);unfold WaA;simp only;split
  .split
   .exact We8
   .exact h.of rfl rfl (by show x.phase≠2;omega) (by show x.phase≠5;omega)
  .exact h.of rfl rfl (by show(1:Int)≠2;omega) (by show(1:Int)≠5;omega)
 rw[Wa h4];by_cases h5:x.phase=5
 .rw[Wb h5];exact Wrv h h5
 rw[Wa h5];by_cases h6:x.phase=6
 .rw[Wb h6];by_cases hz:x.undos.length>0
  .rw[Wb hz];exact h.of rfl rfl (by show x.phase≠2;omega) (by show x.phase≠5;omega)
  .rw[Wa hz];exact h.of rfl rfl (by show(7:Int)≠2;omega) (by show(7:Int)≠5;omega)
 rw[Wa h6];by_cases h7:x.phase=7
 .rw[Wb h7];by_cases hf:x.fate=0
  .rw[Wb hf];exact RT.no rfl (by show(0:Int)≠2;omega) (by show(0:Int)≠5;omega)
  .rw[Wa hf];exact h.of rfl rfl (by show(8:Int)≠2;omega) (by show(8:Int)≠5;omega)
 .rw[Wa h7];exact h
end
section
variable{w:Wo}{x y:Rt}{k:Nat}{p:Pg}{n:Int}{o:Opn}{f:Fm}{codes:List (List Opn)}
theorem WpO(hp:POk p)(hx:ROk p n x)(ht:RT x)(h:1<=x.phase/\x.phase<=4):(x.undos.length:Int)+3<=Wu p x:=by
 have hl:=hx.live h;have hs:=hl.spare;have hlen:=hp.code.len;by_cases h1:x.phase=1
 .have:=We3 hp.code hl ht h1;omega
 by_cases h2:x.phase=2
 .have aT:=hl.pc;obtain⟨f1,f2,f3⟩:=hl.fork h2;have e:Wu p x=if x.fam.lost=true then(x.undos.length:Int)+3 else 73-3*x.pc+Wmp x.fam+Wa9 x:=by unfold Wu;rw[Wa (by omega),Wb h2]
  rw[e];split
  .omega
  .have:=WqJ x.fam x.fam.kids;unfold Wmp Wa9;omega
 have hz:=hl.back (by omega);obtain⟨m1,m2,m3,m4,m5⟩:=Wl0 hp.code hl hz;have aT:=hl.pc;have xh:=WsA hp.code aT.2;by_cases h3:x.phase=3
 .have e:Wu p x=x.last.2.1+74-3*x.last.1+Wep p x.pc+Wa9 x:=by unfold Wu;rw[Wa h1,Wa h2,Wb h3]
  rw[e];unfold Wa9;omega
 .have h4:x.phase=4:=by omega
  have ch:=hl.pos h4;have e:Wu p x=x.last.2.1-x.pos+73-3*x.last.1+Wep p x.pc+Wa9 x:=by unfold Wu;rw[Wa h1,Wa h2,Wa h3,Wb h4]
  rw[e];unfold Wa9;omega
theorem Wka(hp:POk p)(hx:ROk p n x)(ra:RX x)(ht:RT x)(hk:k<=8)(h:1<=x.phase/\x.phase<=7):
  Wu p (WW w x k p).2<Wu p x\/(x.phase=2/\x.fam.lost≠true/\Wbj x.fam≠true/\(WW w x k p).2=x):=by
 unfold WW;by_cases hd:x.doomed=true/\1<=x.phase/\x.phase<=4
 .rw[Wb hd];have:=WpO hp hx ht hd.2;left;show Wu p (Wdf x)<_;rw[Wfp];omega
 rw[Wa hd,Wa (by omega)];by_cases h1:x.phase=1
 .rw[Wb h1];exact .inl (Wt9 hp.code hp.k3 (hx.live (by omega)) ht h1 hk λregs writes rv=>Wrn hp.k3)
 rw[Wa h1];by_cases h2:x.phase=2
 .rw[Wb h2];by_cases hq:x.fam.lost=true\/Wbj x.fam=true
  .exact .inl (Wq8 (hx.live (by omega)) hp.code ht h2 hq)
  .refine .inr ⟨h2,λh=>hq (.inl h),λh=>hq (.inr h),?_⟩;show WbR x=x;unfold WbR;rw[Wa (λh=>hq (.inl h)),Wa (λh=>hq (.inr h))]
 rw[Wa h2];by_cases h3:x.phase=3
 .rw[Wb h3];exact .inl (WmP hp.code (hx.live (by omega)) h3)
 rw[Wa h3];by_cases h4:x.phase=4
 .rw[Wb h4];exact .inl (WmZ hp.code (hx.live (by omega)) ht h4)
 rw[Wa h4];by_cases h5:x.phase=5
 .rw[Wb h5];exact .inl (WmT (hx.comm h5) h5 (ht.cm h5) λhdm=>by
   rcases ra.doom hdm with h|h
   .omega
   .exact h.2)
 rw[Wa h5];left;by_cases h6:x.phase=6
 .rw[Wb h6];by_cases hz:x.undos.length>0
  .rw[Wb hz];exact Whd (.inr (.inr h6)) (by omega)
  .rw[Wa hz,WoC h6];show(1:Int)<_;omega
 .rw[Wa h6,Wb (by omega)];have e:Wu p x=1:=by unfold Wu;rw[show x.phase=7 by omega];rfl
  rw[e];by_cases hf:x.fate=0
  .rw[Wb hf];show(0:Int)<1;omega
  .rw[Wa hf];show(0:Int)<1;omega
theorem Wxb(f:Fm):Wfx f=(f.kids.length:Int) -f.kids.countP λx=>decide (x.phase=3):=by
 unfold Wfx;have:∀l:List Kd,Wdc WaG l=(l.length:Int) -l.countP λx=>decide (x.phase=3):=λl=>by
  induction l with
  |nil=>rfl
  |cons x l ih=>
   have e:Wdc WaG (x::l)=WaG x+Wdc WaG l:=by simp[Wdc]
   rw[e,ih,List.countP_cons,Xr];unfold WaG;by_cases h:x.phase=3
   .rw[Wb h,Wf h];simp;omega
   .rw[Wa h,Wq h];simp;omega
 exact this f.kids
theorem WvC(hF:FOk codes n f)(h3:codes.length<=3)(hl:∀c∈codes,c.length<=24)(hT:∀(j:Nat) (h:j<f.kids.length),KT f j f.kids[j]):Wmp f<=381:=by
 have hlen:=hF.len;have hcl:=hF.clock;have hdn:=hF.done;have kK:=Wxb f;have Ai:=Wln f;have nH:f.clock<=0->∀x:Kd,∀k (h:k<f.kids.length),f.kids[k]=x->WbW f.clock x=0:=λh0 x k hk he=>by
  have:=(hF.kid k hk).since;rw[he]at this;unfold WbW;rw[Wa (by omega)]
 have tn:Wdc (W6 f.clock) f.kids<=(if f.clock<=0 then 26 else 52)*Wfx f:=by
  have e:∀a:Int,Wdc (λx=>0+a*WaG x) f.kids=a*Wfx f:=λa=>by
   rw[Wlj (g:=λ_=>0)];have:∀l:List Kd,Wdc (λ_=>0) l=0:=λl=>by induction l with
    |nil=>rfl
    |cons x l ih=>simp only[Wdc,Xae,Xcw]at*;omega
   rw[this];unfold Wfx;omega
  rw[←e];refine Wjq λx hx=>?_;obtain⟨k,hk,he⟩:=Xao hx;have bd:k<codes.length:=by omega
  have hK:=hF.kid k hk;rw[Wp bd,he]at hK;obtain⟨c1,c2,c3,c4⟩:=WeN hK (hl _ (Xo bd));have hb:=Wcm f.clock x;have aW:=hK.phase;unfold W6;by_cases p3:x.phase=3
  .have:Wbt x=0:=by unfold Wbt;rw[Wb p3]
   have hu:WaG x=0:=by unfold WaG;rw[Wb p3]
   rw[hu]at hb⊢;omega
  .have hu:WaG x=1:=WcL p3;rw[hu]at hb⊢;split
   .rw[nH ‹_› x k hk he];omega
   .omega
 refine WkS (by omega) λx hx qH=>?_;obtain⟨k,hk,he⟩:=Xao hx;have bd:k<codes.length:=by omega
 have hK:=hF.kid k hk;rw[Wp bd,he]at hK;have iD:=hT k hk;rw[he]at iD;obtain⟨l1,l2,l3⟩:=WlA hK (hl _ (Xo bd)) iD.pb;have hb:=Wcm f.clock x;unfold fP fQ;by_cases h0:f.clock<=0
 .rw[Wb h0]at tn;have hs:=nH h0 x k hk he;rw[hs];have:Wfx f=0\/Wfx f=1\/Wfx f=2\/Wfx f=3:=by omega
  rcases this with hu|hu|hu|hu<;>(rw[hu]at tn⊢;unfold tri;simp;omega)
 .rw[Wa h0]at tn;have:Wfx f=0\/Wfx f=1\/Wfx f=2:=by omega
  rcases this with hu|hu|hu<;>(rw[hu]at tn⊢;unfold tri;simp;omega)
theorem WbU(hp:POk p)(hx:ROk p n x)(ht:RT x):0<=Wu p x/\Wu p x<=808/\(1<=x.phase/\x.phase<=7->1<=Wu p x):=by
 have aW:=hx.phase;have cH:=hx.ul;have hlen:=hp.code.len;by_cases h:1<=x.phase/\x.phase<=4
 .have qn:=WpO hp hx ht h;refine⟨by omega,?_,λ_=>by omega⟩;have hl:=hx.live h;have hs:=hl.spare;have aT:=hl.pc;have hu:=hl.ul;have hf1:Wep p x.pc<=382:=by unfold Wep;omega
  have gI:=WfV ht;by_cases h1:x.phase=1
  .rw[Wb9 h1];unfold Wa9;omega
  by_cases h2:x.phase=2
  .obtain⟨f1,f2,f3⟩:=hl.fork h2;have e:Wu p x=if x.fam.lost=true then(x.undos.length:Int)+3 else 73-3*x.pc+Wmp x.fam+Wa9 x:=by unfold Wu;rw[Wa (by omega),Wb h2]
   rw[e];split
   .omega
   .rename_i bI;have:=WvC f3 hp.k3 (λc hc=>(hp.kids c hc).toCC.len) ((ht.fam h2).resolve_left bI);unfold Wa9;omega
  have hz:=hl.back (by omega);obtain⟨m1,m2,m3,m4,m5⟩:=Wl0 hp.code hl hz;have hM:=(hl.marks.each _ (WgK hz zRM)).2.1;have vf:=Wh5 p.1 (show x.last.1.toNat<=x.pc.toNat by omega);have AE:=Wf6 hp.code x.pc.toNat (by omega);have hM':x.last.2.1<=x.last.1+72*frk p.1 x.last.1.toNat:=hM.2.1;have mC:Wep p x.pc=382*(1-frk p.1 x.pc.toNat):=rfl;by_cases h3:x.phase=3
  .have e:Wu p x=x.last.2.1+74-3*x.last.1+Wep p x.pc+Wa9 x:=by unfold Wu;rw[Wa h1,Wa h2,Wb h3]
   rw[e,mC];unfold Wa9;omega
  .have h4:x.phase=4:=by omega
   have ch:=hl.pos h4;have e:Wu p x=x.last.2.1-x.pos+73-3*x.last.1+Wep p x.pc+Wa9 x:=by unfold Wu;rw[Wa h1,Wa h2,Wa h3,Wb h4]
   rw[e,mC];unfold Wa9;omega
 .have:x.phase=0\/x.phase=5\/x.phase=6\/x.phase=7\/x.phase=8:=by omega
  rcases this with h|h|h|h|h
  .have e:Wu p x=0:=by unfold Wu;rw[h];rfl
   omega
  .have hb:=WgN (hx.comm h);have e:Wu p x=Wac x.cm+x.undos.length+3:=by unfold Wu;rw[h];rfl
   omega
  .rw[WoC h];omega
  .have e:Wu p x=1:=by unfold Wu;rw[h];rfl
   omega
  .have e:Wu p x=0:=by unfold Wu;rw[h];rfl
   omega
end
section
def Wwn(m:Mm)(rv:Int):Prop:=∀i,0<=i->i<=7->(Wz m i).2.2=0/\(Wz m i).2.1<=rv
def pbV(m:Mm)(b:Bool)(q:Pb):Prop:=b=true->(0<=q.1/\q.1<=7)/\q.2.2.1=(Wz m q.1).2.1
variable{m:Mm}{rv:Int}{q:Pb}{o:Opn}{x:Kd}{f:Fm}{k:Nat}{code:List Opn}{codes:List (List Opn)}{n:Int}
theorem Wsx(h:Wwn m rv)(hc:0<=q.1/\q.1<=7)(hp:0<=q.2.1/\q.2.1<=2)(hv:1<=q.2.1->q.2.2.1=(Wz m q.1).2.1):
  (W5 m rv q).1=q.1/\(W5 m rv q).2.1=q.2.1+1/\(W5 m rv q).2.2.1=(Wz m q.1).2.1:=by
 obtain⟨f1,f2⟩:=h q.1 hc.1 hc.2;have e:Xd m.2 (Xb q.1) (0,(0,0))=Wz m q.1:=rfl;unfold W5;simp only[e,WH,WaV];have:q.2.1=0\/q.2.1=1\/q.2.1=2:=by omega
 rcases this with h0|h0|h0
 .rw[Wb h0,Wb f1,Wb f2,h0];exact⟨rfl,rfl,rfl⟩
 .have:=hv (by omega);rw[Wa (by omega),Wb h0,h0];exact⟨rfl,rfl,this⟩
 .have:=hv (by omega);rw[Wa (by omega),Wa (by omega),Wb h0,Wb f1,Wb this.symm,h0];exact⟨rfl,rfl,this⟩
theorem WpN{b:Bool}{p:Pb}{c:Int}(hm:Wwn m rv)(hv:pbV m b p)(hb:b=true->p.2.1=1\/p.2.1=2)(hB:0<=c/\c<=7):
  (0<=(if b=true then p else(c,0,0,0)).1/\(if b=true then p else(c,0,0,0)).1<=7)/\(if b=true then p else(c,0,0,0)).2.1<=2/\
  (W5 m rv (if b=true then p else(c,0,0,0))).1=(if b=true then p else(c,0,0,0)).1/\(W5 m rv (if b=true then p else(c,0,0,0))).2.1=(if b=true then p else(c,0,0,0)).2.1+1/\
  (W5 m rv (if b=true then p else(c,0,0,0))).2.2.1=(Wz m (if b=true then p else(c,0,0,0)).1).2.1:=by
 by_cases h:b=true
 .rw[Wb h];have h1:=hv h;have h2:=hb h;exact⟨h1.1,by omega,Wsx hm h1.1 (by omega) λ_=>h1.2⟩
 .rw[Wa h];exact⟨hB,by show(0:Int)<=2;omega,Wsx hm hB (by show(0:Int)<=0/\(0:Int)<=2;omega) λh=>by(change (1:Int)<=0 at h;omega)⟩
structure FGd(m:Mm)(f:Fm):Prop where
 lost:f.lost=false
 free:Wwn m f.rv
 kid:∀(k:Nat) (h:k<f.kids.length),pbV m f.kids[k].busy f.kids[k].pb
theorem WuY(hm:Wwn m f.rv)(hl:f.lost=false)(hv:pbV m x.busy x.pb)(hb:x.busy=true->x.pb.2.1=1\/x.pb.2.1=2)(hB:0<=o.2.2.1/\o.2.2.1<=7):
  (Weo m f x o).1=f/\pbV m (Weo m f x o).2.busy (Weo m f x o).2.pb:=by
 unfold Weo;cases Wbv x.writes o.2.2.1 with
 |some v=>exact⟨rfl,hv⟩
 |none=>
  simp only;cases ent f.buf o.2.2.1 with
  |some r=>
   simp only;split
   .exact⟨rfl,(λh=>by cases h)⟩
   .exact⟨rfl,hv⟩
  |none=>
   simp only;obtain⟨hc,uV,hs⟩:=WpN (b:=x.busy) (p:=x.pb) (c:=o.2.2.1) hm hv hb hB;generalize (if x.busy=true then x.pb else(o.2.2.1,0,0,0))=q0 at*;generalize W5 m f.rv q0=q at*;obtain⟨s1,s2,s3⟩:=hs;rw[Wa (by omega)];split
   .exact⟨rfl,(λh=>by cases h)⟩
   .refine⟨rfl,λ_=>?_⟩;show(0<=q.1/\q.1<=7)/\q.2.2.1=(Wz m q.1).2.1;rw[s1];exact⟨hc,s3⟩
theorem Wvc(hm:Wwn m f.rv)(hl:f.lost=false)(bd:KC code)(hK:KOk code f.clock n x)(hv:pbV m x.busy x.pb)(ht:KT f k x):
  (Weq m f x k code).1.lost=false/\(Weq m f x k code).1.rv=f.rv/\(Weq m f x k code).1.kids=f.kids/\pbV m (Weq m f x k code).2.busy (Weq m f x k code).2.pb:=by
 have cE:pbV m (f.again x).busy (f.again x).pb:=λh=>by cases h
 unfold Weq;split
 .rename_i h0;unfold WrZ;split
  .exact⟨hl,rfl,rfl,hv⟩
  .obtain⟨i,hi,aT,ho⟩:=WfI (l:=code) hK.pc.1 (by have:=hK.pc;omega);simp only[ho];split
   .have aG:=Wxt (bd.ok i hi).1 ‹_›;have hB:0<=code[i].2.2.1/\code[i].2.2.1<=7:=by have:=aG.2;unfold WaF at this;simpa using this
    obtain⟨a,b⟩:=WuY (o:=code[i]) hm hl hv ht.pb hB;rw[a];exact⟨hl,rfl,rfl,b⟩
   .split
    .refine⟨hl,rfl,rfl,?_⟩;unfold Wjv;split<;>exact hv
    .repeat' split
     all_goals exact⟨hl,rfl,rfl,hv⟩
 .split
  .split
   .exact⟨hl,rfl,rfl,hv⟩
   .exact⟨hl,rfl,rfl,hv⟩
  .split
   .split
    .exact⟨hl,rfl,rfl,hv⟩
    .simp only;split
     .exact⟨hl,rfl,rfl,hv⟩
     .exact⟨hl,rfl,rfl,cE⟩
   .exact⟨hl,rfl,rfl,hv⟩
theorem WuJ(hF:FOk codes n f)(hT:∀(j:Nat) (h:j<f.kids.length),KT f j f.kids[j])(hg:FGd m f)(hk:k<f.kids.length)(bd:KC (codes.getD k [])):FGd m (WcE m f k (codes.getD k [])):=by
 have hg0:f.kids.getD k {}=f.kids[k]:=Wp hk _;unfold WcE;rw[Wa (by rw[hg.lost];simp),hg0];obtain⟨a,b,c,d⟩:=Wvc (k:=k) hg.free hg.lost bd (hF.kid k hk) (hg.kid k hk) (hT k hk);refine⟨a,?_,λj hj=>?_⟩
 .show Wwn m (Weq m f f.kids[k] k (codes.getD k [])).1.rv;rw[b];exact hg.free
 .have hj':j<f.kids.length:=by rw[Wml c]at hj;exact hj
  rw[Whk hk c hj' hj];split
  .exact d
  .exact hg.kid j hj'
end
section
def lkA(c:Cm)(j:Nat):Prop:=(c.phase=1/\(j:Int)<c.pos)\/c.phase=2\/c.phase=3\/c.phase=4\/(c.phase=5/\c.pos<=j)\/(c.phase=7/\(j:Int)<=c.pos)
def lkd(c:Cm)(i:Int):Prop:=∃(j:Nat) (h:j<c.puts.length),c.puts[j].1=i/\lkA c j
def owner(m:Mm)(i:Int):Int:=(Wz m i).2.2
structure CmLk(m:Mm)(c:Cm):Prop where
 own:∀i,0<=i->i<=7->(owner m i=c.who↔lkd c i)
 ver:c.phase=3\/c.phase=4\/c.phase=5->c.wv<=m.1/\∀i,lkd c i->(Wz m i).2.1<=c.wv
section
variable{m:Mm}{c c':Cm}{i j:Int}{w:Wd}
theorem Wco(hm:W2 m=true)(hi:0<=i/\i<=7)(hj:0<=j/\j<=7):Wz (Wob m i w) j=if j=i then w else Wz m j:=by
 have h8:=(WF hm).1;unfold Wz Wob Woc Wcl;simp only;rw[Wp (show j.toNat<(m.2.set i.toNat w).length by rw[Xah];omega),Xau];by_cases h:j=i
 .subst h;rw[Wb rfl,Wb rfl]
 .rw[Wa (by omega),Wa h,Wp (show j.toNat<m.2.length by omega)]
theorem WdK(hp:c'.puts=c.puts)(h:∀j:Nat,j<c.puts.length->(lkA c' j↔lkA c j)):lkd c' i↔lkd c i:=by
 unfold lkd;rw[hp];exact⟨λ⟨j,hj,a,b⟩=>⟨j,hj,a,(h j hj).1 b⟩,λ⟨j,hj,a,b⟩=>⟨j,hj,a,(h j hj).2 b⟩⟩
theorem WvH(h:CmOk c){a b:Nat}(ha:a<c.puts.length)(hb:b<c.puts.length)(e:c.puts[a].1=c.puts[b].1):a=b:=by
 have hp:=List.pairwise_iff_getElem.1 h.pup;rcases Nat.lt_trichotomy a b with h1|h1|h1
 .have:=hp a b ha hb h1;omega
 .exact h1
 .have:=hp b a hb ha h1;omega
theorem CmLk.same(h:CmLk m c)(hp:c'.puts=c.puts)(hw:c'.who=c.who)(hv:c'.wv=c.wv)(ha:∀j:Nat,j<c.puts.length->(lkA c' j↔lkA c j))(aW:c'.phase=3\/c'.phase=4\/c'.phase=5->c.phase=3\/c.phase=4\/c.phase=5):CmLk m c':=
 ⟨λi h0 h7=>by rw[hw,h.own i h0 h7,WdK hp ha],λh3=>by
  obtain⟨a,b⟩:=h.ver (aW h3);rw[hv];exact⟨a,λi hi=>b i ((WdK hp ha).1 hi)⟩⟩
theorem WlE(n:Int)(j:Nat)(hn:0<=n):lkA (W9 c n) j↔(j:Int)<n:=by
 by_cases h:n=0
 .have:W9 c n={c with phase:=8,pos:=0}:=by unfold W9;rw[Wb h]
  rw[this];unfold lkA;simp only;omega
 .have:W9 c n={c with phase:=7,pos:=n-1}:=by unfold W9;rw[Wa h]
  rw[this];unfold lkA;simp only;constructor
  .intro hz;omega
  .intro hz;right;right;right;right;right;exact⟨trivial,by omega⟩
theorem Wa6(c:Cm)(ph:Int):(Wv c ph).puts=c.puts/\(Wv c ph).who=c.who/\(Wv c ph).wv=c.wv:=by
 unfold Wv WcV;split<;>exact⟨rfl,rfl,rfl⟩
theorem Wcq(c:Cm)(n:Int):(W9 c n).puts=c.puts/\(W9 c n).who=c.who/\(W9 c n).wv=c.wv:=by
 unfold W9;split<;>exact⟨rfl,rfl,rfl⟩
theorem Wdx(c:Cm)(n:Int):(W9 c n).phase=7\/(W9 c n).phase=8:=by unfold W9;split<;>simp
theorem Wkn(m:Mm)(c:Cm):(Ws m c).2.who=c.who:=by
 unfold Ws;simp only;have h1:=λph=>(Wa6 c ph).2.1;have h2:=λn=>(Wcq c n).2.1
 repeat' split
 all_goals first|exact h1 _|exact h2 _|rfl
theorem Wun(h:CmOk c)(hm:W2 m=true)(hc:CmLk m c):CmLk (Ws m c).1 (Ws m c).2:=by
 have ch:=h.pos;have aM:c.phase=1\/c.phase=4\/c.phase=5\/c.phase=7->c.steps=c.puts.length:=λhp=>by unfold Cm.steps;rw[Wb hp]
 have hw:=h.who;have fA:∀n:Int,0<=n->(∀j:Nat,j<c.puts.length->((j:Int)<n↔lkA c j))->CmLk m (W9 c n):=λn h0 hn=>by
  obtain⟨p1,p2,p3⟩:=Wcq c n;refine hc.same p1 p2 p3 (λj hj=>by rw[WlE n j h0];exact hn j hj) λh3=>?_;rcases Wdx c n with h|h<;>omega
 unfold Ws;simp only;by_cases h1:c.phase=1
 .rw[Wb h1];obtain⟨j,hj,e1,e2,e3,e4⟩:=h.put (by omega);have hs:=aM (by omega);rw[e2];by_cases ho:(Wz m c.puts[j].1).2.2=0
  .rw[Wb ho];obtain⟨p1,p2,p3⟩:=Wa6 c 2;have aW:∀l:Nat,l<c.puts.length->(lkA (Wv c 2) l↔lkA c l\/l=j):=λl hl=>by
    unfold Wv;by_cases cX:c.pos+1=c.steps
    .rw[Wb cX];have:(WcV c 2).phase=2:=by show WaM c 2=2;unfold WaM;rw[Wa (by omega),Wa (by omega)]
     unfold lkA;rw[this];omega
    .rw[Wa cX];unfold lkA;simp only;omega
   refine⟨λi h0 h7=>?_,λh3=>?_⟩
   .rw[p2];have hcl:=hc.own i h0 h7;unfold owner Wl1 at*;rw[Wco hm e3 ⟨h0,h7⟩];by_cases hi:i=c.puts[j].1
    .rw[Wb hi];refine⟨λ_=>⟨j,by rw[p1];exact hj,by simp only[p1];exact hi.symm,(aW j hj).2 (.inr rfl)⟩,λ_=>rfl⟩
    .rw[Wa hi,hcl];refine⟨λ⟨l,hl,a,b⟩=>⟨l,by rw[p1];exact hl,by simp only[p1];exact a,(aW l hl).2 (.inl b)⟩,λ⟨l,hl,a,b⟩=>?_⟩;simp only[p1]at hl a;rcases(aW l hl).1 b with b|b
     .exact⟨l,hl,a,b⟩
     .subst b;exact Wi a.symm hi
   .exfalso;have uy:(Wv c 2).phase=1\/(Wv c 2).phase=2:=by
     unfold Wv;split
     .right;show WaM c 2=2;unfold WaM;rw[Wa (by omega),Wa (by omega)]
     .left;exact h1
    change (Wv c 2).phase=3\/(Wv c 2).phase=4\/(Wv c 2).phase=5 at h3;omega
  .rw[Wa ho];exact fA _ (by omega) λl hl=>by unfold lkA;omega
 rw[Wa h1];by_cases h2:c.phase=2
 .rw[Wb h2];have ht:=Wo5 hm;by_cases hz:(tick m).2=0
  .rw[Wb hz,ht.2.2.2.2 hz];exact fA _ (by omega) λl hl=>by unfold lkA;omega
  .rw[Wa hz];obtain⟨t1,t2⟩:=ht.2.2.2.1 hz;have ar:∀i,Wz (tick m).1 i=Wz m i:=λi=>by rw[t2];rfl
   have aW:∀l:Nat,l<c.puts.length->(lkA (WcV {c with wv:=(tick m).2} 3) l↔lkA c l):=λl hl=>by
    have eF:c.puts.length≠0:=by omega
    change l<c.puts.length at hl;have:(WcV {c with wv:=(tick m).2} 3).phase=3\/(WcV {c with wv:=(tick m).2} 3).phase=4:=by
     show WaM {c with wv:=(tick m).2} 3=3\/WaM {c with wv:=(tick m).2} 3=4;unfold WaM;rw[Wa (λhz=>eF hz.2)];split<;>simp
    unfold lkA;omega
   refine⟨λi h0 h7=>?_,λh3=>⟨by show(tick m).2<=(tick m).1.1;rw[t2];simp only;omega,λi hi=>?_⟩⟩
   .unfold owner;rw[ar];exact(hc.own i h0 h7).trans (WdK (c':=WcV {c with wv:=(tick m).2} 3) (c:=c) rfl aW).symm
   .rw[ar];obtain⟨l,hl,a,b⟩:=hi;change l<c.puts.length at hl;change c.puts[l].1=i at a;have hr:=h.rows _ (Xo hl);have hcl:=WeT.1 (WdV hm hr.1);rw[←a];show(Wz m c.puts[l].1).2.1<=(tick m).2;omega
 rw[Wa h2];by_cases h3:c.phase=3
 .rw[Wb h3];split
  .exact fA _ (by omega) λl hl=>by unfold lkA;omega
  .obtain⟨p1,p2,p3⟩:=Wa6 c 4;refine hc.same p1 p2 p3 (λl hl=>?_) λ_=>.inl h3;unfold Wv;split
   .have:(WcV c 4).phase=4:=by show WaM c 4=4;unfold WaM;rw[Wa (λhz=>by have:=hz.2;omega),Wa (by omega)]
    show lkA (WcV c 4) l↔lkA c l;unfold lkA;omega
   .unfold lkA;simp only;omega
 rw[Wa h3];by_cases h4:c.phase=4
 .rw[Wb h4];obtain⟨j,hj,e1,e2,e3,e4⟩:=h.put (by omega);have hs:=aM (by omega);rw[e2];obtain⟨p1,p2,p3⟩:=Wa6 c 5;have ar:∀i,0<=i->i<=7->(Wz (WcK m c.puts[j].1 c.who c.puts[j].2) i).2=(Wz m i).2:=λi h0 h7=>by
   unfold WcK;split
   .rw[Wco hm e3 ⟨h0,h7⟩];split
    .rename_i hi;rw[hi]
    .rfl
   .rfl
  have aW:∀l:Nat,l<c.puts.length->(lkA (Wv c 5) l↔lkA c l):=λl hl=>by
   unfold Wv;split
   .have:(WcV c 5).phase=5/\(WcV c 5).pos=0:=⟨Ws0 c,rfl⟩;unfold lkA;omega
   .unfold lkA;simp only;omega
  refine⟨λi h0 h7=>?_,λ_=>?_⟩
  .unfold owner;rw[ar i h0 h7,p2,WdK p1 aW];exact hc.own i h0 h7
  .obtain⟨v1,v2⟩:=hc.ver (.inr (.inl h4));rw[p3];refine⟨by unfold WcK;split<;>exact v1,λi hi=>?_⟩;have gz:=(WdK p1 aW).1 hi;obtain⟨l,hl,a,b⟩:=gz;have hr:=h.rows _ (Xo hl);rw[ar i (by omega) (by omega)];exact v2 i ⟨l,hl,a,b⟩
 rw[Wa h4];have tA:∀(ver:Int) (j:Nat) (hj:j<c.puts.length),0<=c.puts[j].1/\c.puts[j].1<=7->lkA c j->(Wz m c.puts[j].1).2.1<=ver->ver<=m.1->WaR m c.puts[j].1 c.who ver=Wob m c.puts[j].1 ((Wz m c.puts[j].1).1,ver,0):=λver j hj tB hl ut gy=>by
  have ho:=(hc.own c.puts[j].1 tB.1 tB.2).2 ⟨j,hj,rfl,hl⟩;unfold owner at ho;unfold WaR;rw[Wb ⟨ho,ut,gy⟩]
 have jb:∀(ver:Int) (c':Cm) (j:Nat) (hj:j<c.puts.length),0<=c.puts[j].1/\c.puts[j].1<=7->c'.puts=c.puts->c'.who=c.who->c'.wv=c.wv->(∀l:Nat,l<c.puts.length->(lkA c' l↔lkA c l/\l≠j))->(c'.phase=3\/c'.phase=4\/c'.phase=5->c.phase=3\/c.phase=4\/c.phase=5)->CmLk (Wob m c.puts[j].1 ((Wz m c.puts[j].1).1,ver,0)) c':=λver c' j hj tB p1 p2 p3 aW wL=>by
  have jW:∀i,lkd c' i↔lkd c i/\i≠c.puts[j].1:=λi=>by
   unfold lkd;rw[p1];refine⟨λ⟨l,hl,a,b⟩=>?_,λ⟨⟨l,hl,a,b⟩,hne⟩=>?_⟩
   .have:=(aW l hl).1 b;exact⟨⟨l,hl,a,this.1⟩,λhe=>this.2 (WvH h hl hj (a.trans he))⟩
   .exact⟨l,hl,a,(aW l hl).2 ⟨b,λhe=>hne (by subst he;exact a.symm)⟩⟩
  refine⟨λi h0 h7=>?_,λh3=>?_⟩
  .unfold owner;rw[Wco hm tB ⟨h0,h7⟩,p2,jW];by_cases hi:i=c.puts[j].1
   .rw[Wb hi];exact⟨λhz=>by(change (0:Int)=c.who at hz;omega),λhz=>Wi hi hz.2⟩
   .rw[Wa hi];exact⟨λhz=>⟨(hc.own i h0 h7).1 hz,hi⟩,λhz=>(hc.own i h0 h7).2 hz.1⟩
  .obtain⟨v1,v2⟩:=hc.ver (wL h3);rw[p3];refine⟨v1,λi hi=>?_⟩;have gz:=(jW i).1 hi;obtain⟨⟨l,hl,a,b⟩,hne⟩:=gz;have hr:=h.rows _ (Xo hl);rw[Wco hm tB (by rw[←a];exact hr.1),Wa hne];exact v2 i ⟨l,hl,a,b⟩
 by_cases h5:c.phase=5
 .rw[Wb h5];obtain⟨j,hj,e1,e2,e3,e4⟩:=h.put (by omega);have hs:=aM (by omega);rw[e2];obtain⟨v1,v2⟩:=hc.ver (.inr (.inr h5));have nj:lkA c j:=by unfold lkA;omega
  rw[tA c.wv j hj e3 nj (v2 _ ⟨j,hj,rfl,nj⟩) v1];obtain⟨p1,p2,p3⟩:=Wa6 c 6;refine jb c.wv (Wv c 6) j hj e3 p1 p2 p3 (λl hl=>?_) λ_=>.inr (.inr h5);unfold Wv;split
  .have:(WcV c 6).phase=6:=Wuh c;unfold lkA;omega
  .unfold lkA;simp only;omega
 rw[Wa h5];by_cases h7:c.phase=7
 .rw[Wb h7];obtain⟨j,hj,e1,e2,e3,e4⟩:=h.put (by omega);have hs:=aM (by omega);rw[e2];have nj:lkA c j:=by unfold lkA;omega
  have hcl:=WeT.1 (WdV hm e3);rw[tA _ j hj e3 nj (Xx _) hcl.2.1.2];obtain⟨p1,p2,p3⟩:=Wcq c c.pos;refine jb _ (W9 c c.pos) j hj e3 p1 p2 p3 (λl hl=>?_) λh3=>?_
  .rw[WlE _ _ (by omega)];unfold lkA;omega
  .rcases Wdx c c.pos with h|h<;>omega
 .rw[Wa h7];exact hc
theorem Wq1(h:CmOk c)(hc:CmLk m c):CmLk m (Waa c):=by
 have ch:=h.pos;have fA:∀n:Int,0<=n->(∀j:Nat,j<c.puts.length->((j:Int)<n↔lkA c j))->CmLk m (W9 c n):=λn h0 hn=>by
  obtain⟨p1,p2,p3⟩:=Wcq c n;refine hc.same p1 p2 p3 (λj hj=>by rw[WlE n j h0];exact hn j hj) λh3=>?_;rcases Wdx c n with h|h<;>omega
 unfold Waa;split
 .exact fA _ (by omega) λl hl=>by unfold lkA;omega
 .split
  .exact fA _ (by omega) λl hl=>by unfold lkA;omega
  .exact hc
theorem Wpn(c:Cm):(Waa c).who=c.who:=by
 have h2:=λn=>(Wcq c n).2.1;unfold Waa
 repeat' split
 all_goals first|exact h2 _|rfl
theorem Wkp(h:CmOk c)(hm:W2 m=true){who:Int}(h1:who≠c.who)(h0:who≠0)(hi:0<=i/\i<=7):(owner (Ws m c).1 i=who↔owner m i=who)/\(owner m i=who->Wz (Ws m c).1 i=Wz m i):=by
 have bo:(owner m i=who↔owner m i=who)/\(owner m i=who->Wz m i=Wz m i):=⟨Iff.rfl,λ_=>rfl⟩;have dR:∀(a:Int) (wd:Wd),0<=a/\a<=7->(Wz m a).2.2≠who->wd.2.2≠who->(owner (Wob m a wd) i=who↔owner m i=who)/\(owner m i=who->Wz (Wob m a wd) i=Wz m i):=λa wd ha hne hw=>by
  unfold owner;rw[Wco hm ha hi];by_cases tC:i=a
  .subst tC;rw[Wb rfl];exact⟨⟨λhz=>Wi hz hw,λhz=>Wi hz hne⟩,λhz=>Wi hz hne⟩
  .rw[Wa tC];exact⟨Iff.rfl,λ_=>rfl⟩
 unfold Ws;simp only;by_cases p1:c.phase=1
 .rw[Wb p1];obtain⟨j,hj,e1,e2,e3,e4⟩:=h.put (by omega);rw[e2];by_cases ho:(Wz m c.puts[j].1).2.2=0
  .rw[Wb ho];exact dR _ _ e3 (by omega) (by show c.who≠who;omega)
  .rw[Wa ho];exact bo
 rw[Wa p1];by_cases p2:c.phase=2
 .rw[Wb p2];have ht:=Wo5 hm;by_cases hz:(tick m).2=0
  .rw[Wb hz];simp only;rw[ht.2.2.2.2 hz];exact bo
  .rw[Wa hz];simp only;rw[(ht.2.2.2.1 hz).2];exact bo
 rw[Wa p2];by_cases p3:c.phase=3
 .rw[Wb p3];split<;>exact bo
 rw[Wa p3];by_cases p4:c.phase=4
 .rw[Wb p4];obtain⟨j,hj,e1,e2,e3,e4⟩:=h.put (by omega);rw[e2];unfold WcK;split
  .rename_i ho;exact dR _ _ e3 (by omega) (by show(Wz m c.puts[j].1).2.2≠who;omega)
  .exact bo
 rw[Wa p4];by_cases p5:c.phase=5
 .rw[Wb p5];obtain⟨j,hj,e1,e2,e3,e4⟩:=h.put (by omega);rw[e2];unfold WaR;split
  .rename_i ho;exact dR _ _ e3 (by omega) (by show(0:Int)≠who;omega)
  .exact bo
 rw[Wa p5];by_cases p7:c.phase=7
 .rw[Wb p7];obtain⟨j,hj,e1,e2,e3,e4⟩:=h.put (by omega);rw[e2];unfold WaR;split
  .rename_i ho;exact dR _ _ e3 (by omega) (by show(0:Int)≠who;omega)
  .exact bo
 .rw[Wa p7];exact bo
end
end
end Go.Sx
