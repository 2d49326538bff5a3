/- Plain laws of the Lean functions. -/
import Derived.Test.YtkbecidbnjhjcaaGreatMW3
open List renaming getElem?_eq_getElem→Xp,getElem?_set_self→Xdk,getElem?_set_ne→Xda,take_succ_eq_append_getElem→Xbe,take_length→Xdf,mem_cons_of_mem→Xe,mem_cons_self→Xh,pairwise_cons→Xv,foldl_cons→Xar,mem_cons→Xq,map_congr_left→Xdi,mem_of_mem_take→Xbq,getD_eq_getElem?_getD→Xae,length_set→Xaf,getElem_set→Xaq,mem_append→Xm,mem_singleton→Xaa,take_of_length_le→Xbv,map_append→Xz,flatten_append→Xgb,append_assoc→Xbj,nodup_append→Xag,getElem_set_self→Xfw,set→Xk,nodup_nil→Xcq,mem_map→Xt,getElem_replicate→Xbc,foldl_append→Xee,getElem_mem→Xo,length_cons→Xx,append→Xf,mem_iff_getElem→Xcj,getD→Xb,getElem_map→Xco,length_map→Xu,length_take→Xaw,getElem_take→Xgl,pairwise_iff_getElem→Xal
open Int renaming le_refl→Xs,toNat_natCast→Xj,toNat→Xa
open Nat renaming le_refl→Xn,zero_add→Xba,zero_le→Xbr
open Option renaming bind_some→Xd
open Bool renaming not_true→Xr
namespace Go.Sx
set_option linter.unusedVariables false
set_option linter.unusedSimpArgs false
section
variable{b:Int->Int}{s:Sc}{w v:Wo}{n:Int}{x y:Rt}{k:Nat}{p:Pg}{o:Opn}{a:Ac}
def cmX(x:Rt):Option Cm:=if x.phase=5 then some x.cm else none
def Wdv(l:List Rt)(k:Nat):Option Cm:=(l[k]?).bind cmX
theorem WkW(h:k<w.roots.length):Wdv w.roots k=cmX w.roots[k]:=by unfold Wdv;rw[Xp h];rfl
theorem Wkl{l:List Rt}(h:k<l.length):Wdv (l.set k y)=Wd0 (Wdv l) k (cmX y):=by
 funext j;unfold Wdv Wd0;by_cases e:j=k
 .subst e;rw[Wb rfl,Xdk h];rfl
 .rw[Wa e,Xda (λz=>e z.symm)]
theorem Wj9{c:Cm}(h:cmX x=some c):x.phase=5/\c=x.cm:=by
 unfold cmX at h;split at h
 .cases h;exact⟨‹_›,rfl⟩
 .cases h
theorem WlR{l:List Rt}{c:Cm}(h:Wdv l k=some c):∃hk:k<l.length,l[k].phase=5/\c=l[k].cm:=by
 by_cases hk:k<l.length
 .unfold Wdv at h;rw[Xp hk]at h;exact⟨hk,Wj9 h⟩
 .unfold Wdv at h;rw[List.getElem?_eq_none (by omega)]at h;cases h
theorem WtA(h:WOk s.2.1 n w)(hl:LX w):CL2 w.mem (Wdv w.roots):=λk c hc=>by
 obtain⟨hk,h5,e⟩:=WlR hc;subst e;exact⟨((h.root k hk).comm h5).r,((hl.root k hk).cm h5).1,((hl.root k hk).cm h5).2⟩
structure RN(w:Wo)(x:Rt)(q:Wo×Rt):Prop where
 mem:q.1.mem=w.mem
 hist:q.1.hist=w.hist
 cm:q.2.phase=5->q.2.cm.phase=1\/q.2.cm.phase=2
theorem WcV{q:Wo×Rt}(h1:q.1.mem=w.mem)(h2:q.1.hist=w.hist)(h5:q.2.phase≠5):RN w x q:=⟨h1,h2,λh=>Wl h h5⟩
theorem Wmu{out:Int}:RN w x (WbV w x k out):=by
 unfold WbV;simp only;generalize (if out=2 then []else x.writes)=rows;split
 .exact WcV rfl rfl (by show(8:Int)≠5;omega)
 .refine⟨rfl,rfl,λ_=>?_⟩;show(Wcx ((k:Int)+1) x.rv rows x.reads).phase=1\/_;unfold Wcx;simp only;split<;>simp
theorem Whz(h5:x.phase≠5):RN w x (Wam w x k p):=by
 have cf:∀z:Rt,(W4 z).phase≠5:=λz=>Wfn.2.1;unfold Wam;split
 .exact WcV rfl rfl (by show(6:Int)≠5;omega)
 split
 .unfold Wen;split
  .exact WcV rfl rfl h5
  .split
   .exact WcV rfl rfl h5
   .split
    .exact WcV rfl rfl h5
    .exact WcV rfl rfl (by show(1:Int)≠5;omega)
 split
 .rename_i h1;unfold Wla;split
  .exact Wmu
  .simp only;generalize opN p.1 x.pc=o;split
   .exact WcV rfl rfl (Wqx h1).2.1
   .split
    .unfold Wdr;split
     .exact Wmu
     .split
      .exact WcV rfl rfl h5
      .exact WcV rfl rfl h5
    .split
     .exact WcV rfl rfl (by show(2:Int)≠5;omega)
     .split
      .unfold Wc5;cases Wb7 w.holds ((k:Int)+1) (WbS o).1 (WbS o).2 with
       |none=>exact WcV rfl rfl (cf _)
       |some hs=>exact WcV rfl rfl h5
      .repeat' split
       all_goals exact WcV rfl rfl h5
 split
 .refine WcV rfl rfl ?_;show(Wek x).phase≠5;unfold Wek;split
  .show(6:Int)≠5;omega
  .split
   .show(1:Int)≠5;omega
   .exact h5
 split
 .unfold WbL;split
  .exact WcV rfl rfl h5
  .exact WcV rfl rfl (by show(4:Int)≠5;omega)
 split
 .refine WcV rfl rfl ?_;show(Wba w x).phase≠5;unfold Wba;simp only;split
  .split
   .show(6:Int)≠5;omega
   .exact h5
  .show(1:Int)≠5;omega
 split
 .split
  .exact WcV rfl rfl h5
  .exact WcV rfl rfl (by show(7:Int)≠5;omega)
 split
 .split
  .exact WcV rfl rfl (by show(0:Int)≠5;omega)
  .exact WcV rfl rfl (by show(8:Int)≠5;omega)
 .exact WcV rfl rfl h5
theorem Whx(h5:x.phase=5)(hd:x.doomed=false):(Wam w x k p).1.mem=(Wz w.mem x.cm).1/\(Wam w x k p).1.hist=Wa0 k x.cm (Wz w.mem x.cm).2 w.hist/\(Wam w x k p).2=Wbq {x with cm:=(Wz w.mem x.cm).2}:=by
 have e:Wam w x k p=WaG w x k:=by
  unfold Wam;rw[Wa (by omega),Wa (by omega),Wa (by omega),Wa (by omega),Wa (by omega),Wa (by omega),Wb h5]
 rw[e];unfold WaG;rw[Wa (by rw[hd];simp)];exact⟨rfl,rfl,rfl⟩
theorem WtH{z:Rt}(h:z.phase≠5):cmX z=none:=by unfold cmX;rw[Wa h]
theorem Wsd(c:Cm):cmX (Wbq {x with cm:=c,phase:=5})=cmO c:=by
 by_cases h8:c.phase=8
 .have e:cmO c=none:=by unfold cmO;rw[Wb (.inr h8)]
  rw[e];unfold Wbq;rw[Wb h8];exact WtH (by show(6:Int)≠5;omega)
 .by_cases h6:c.phase=6
  .have e:cmO c=none:=by unfold cmO;rw[Wb (.inl h6)]
   rw[e];unfold Wbq;rw[Wa h8,Wb h6];exact WtH (by show(if x.fate=2 then(6:Int)else 7)≠5;split<;>omega)
  .have e:cmO c=some c:=by unfold cmO;rw[Wa (by omega)]
   rw[e];unfold Wbq;rw[Wa h8,Wa h6];rfl
def Ws7(b:Int->Int)(w v:Wo):Prop:=Keep b w.mem w.hist (Wdv w.roots) v.mem v.hist (Wdv v.roots)
theorem Wdp{l:List Rt}(h:MI b w.mem w.hist (Wdv w.roots))(e:Wdv l=Wdv w.roots):Keep b w.mem w.hist (Wdv w.roots) w.mem w.hist (Wdv l):=by
 rw[e];exact⟨h,λ_ _ _ hx=>hx⟩
theorem Wsn{q:Wo×Rt}(h:WOk s.2.1 n w)(hl:LX w)(hx:WX w)(ht:WT w)(hn:n<1000000)(hM:MI b w.mem w.hist (Wdv w.roots))(hk:k<w.roots.length)(hq:q=Wam {w with now:=w.now+1} w.roots[k] k p)(hr:q.1.roots=w.roots):Ws7 b w (Wo.put q k):=by
 have hcl:=WtA h hl;have cx:w.mem.1<1000000:=by have:=ht.clk;have:=h.now;omega
 unfold Ws7;show Keep b w.mem w.hist (Wdv w.roots) q.1.mem q.1.hist (Wdv (q.1.roots.set k q.2));rw[hr,Wkl hk];have oN:=hx k hk;have hCk:=WkW (w:=w) hk;by_cases h5:w.roots[k].phase=5
 .have hC:Wdv w.roots k=some w.roots[k].cm:=by rw[hCk];unfold cmX;rw[Wb h5]
  have nL:=(ht.root k hk).cm h5;by_cases hd:w.roots[k].doomed=false
  .obtain⟨e1,e2,e3⟩:=Whx (w:={w with now:=w.now+1}) (x:=w.roots[k]) (k:=k) (p:=p) h5 hd;rw[hq,e1,e2,e3];have ex:({w.roots[k]with cm:=(Wz w.mem w.roots[k].cm).2}:Rt)={w.roots[k]with cm:=(Wz w.mem w.roots[k].cm).2,phase:=5}:=by rw[←h5]
   show Keep b w.mem w.hist (Wdv w.roots) (Wz w.mem w.roots[k].cm).1 (Wa0 k w.roots[k].cm (Wz w.mem w.roots[k].cm).2 w.hist) (Wd0 (Wdv w.roots) k (cmX (Wbq {w.roots[k]with cm:=(Wz w.mem w.roots[k].cm).2})));rw[ex,Wsd];exact hM.step hcl ((h.root k hk).comm h5) h.mem cx hC nL
  .have cL:w.roots[k].doomed=true:=by simpa using hd
   have qH:w.roots[k].cm.phase<=3:=by
    rcases oN.doom cL with e|e
    .omega
    .exact e.2
   have kp:=((h.root k hk).comm h5).phase;have e:Wam {w with now:=w.now+1} w.roots[k] k p=({w with now:=w.now+1},if(W7 w.roots[k].cm).phase=8 then Wdc w.roots[k]else{w.roots[k]with cm:=W7 w.roots[k].cm,doomed:=false}):=by
    unfold Wam;rw[Wa (by omega),Wa (by omega),Wa (by omega),Wa (by omega),Wa (by omega),Wa (by omega),Wb h5];unfold WaG;rw[Wb cL]
   rw[hq,e];refine Keep.k1 hM (λd gD=>by rw[hC]at gD;cases gD;omega) (λd gD=>?_) rfl (λ_ _ _=>⟨rfl,rfl⟩) (λj d e=>(hcl j d e).1);obtain⟨f1,f2⟩:=Wj9 gD;by_cases h8:(W7 w.roots[k].cm).phase=8
   .simp only[Wb h8]at f1;exact Wl (show(6:Int)=5 from f1) (by omega)
   .simp only[Wa h8]at f2;have:d=W7 w.roots[k].cm:=f2;rw[this];unfold W7 at h8⊢;split
    .rcases Wdd w.roots[k].cm w.roots[k].cm.pos with e|e<;>omega
    .split
     .rcases Wdd w.roots[k].cm w.roots[k].cm.puts.length with e|e<;>omega
     .omega
 .have hC:Wdv w.roots k=none:=by rw[hCk];unfold cmX;rw[Wa h5]
  obtain⟨r1,r2,r3⟩:=Whz (w:={w with now:=w.now+1}) (k:=k) (p:=p) h5;rw[hq,r1,r2];refine Keep.k1 hM (λd gD=>by rw[hC]at gD;cases gD) (λd gD=>?_) rfl (λ_ _ _=>⟨rfl,rfl⟩) (λj d e=>(hcl j d e).1);obtain⟨f1,f2⟩:=Wj9 gD;have:=r3 f1;rw[f2];omega
theorem Wq1(h:WOk s.2.1 n w)(hl:LX w)(hx:WX w)(ht:WT w)(hn:n<1000000)(hM:MI b w.mem w.hist (Wdv w.roots)):Ws7 b w (Wgy s w a):=by
 have same:∀(k:Nat) (hk:k<w.roots.length) (y:Rt),cmX y=cmX w.roots[k]->Wdv (w.roots.set k y)=Wdv w.roots:=λk hk y e=>by
  rw[Wkl hk,e,←WkW hk];funext j;unfold Wd0;split
  .rename_i e;rw[e]
  .rfl
 unfold Wgy;simp only;split
 .rename_i hb;have hk:a.2.1.toNat<w.roots.length:=by omega
  rw[Wt hk];split
  .unfold Wka;rw[Wt (show a.2.1.toNat<({w with now:=w.now+1}:Wo).roots.length from hk)];exact Wsn h hl hx ht hn hM hk rfl (WiZ h hk)
  .split
   .split
    .exact Wdp hM (same _ hk _ rfl)
    .exact Wdp hM rfl
   .split
    .split
     .exact Wdp hM (same _ hk _ rfl)
     .exact Wdp hM rfl
    .exact Wdp hM rfl
 .exact Wdp hM rfl
end
section
variable{b:Int->Int}{s:Sc}{w v:Wo}{n:Int}{x y:Rt}{k:Nat}{p:Pg}{o:Opn}{a:Ac}{m m':Mm}{H H':List Wr}{C:Nat->Option Cm}{c:Cm}{i:Int}
structure Mono(b:Int->Int)(m:Mm)(H:List Wr)(m':Mm)(H':List Wr):Prop where
 ver:∀i,0<=i->i<=7->(Ww m i).2.1<=(Ww m' i).2.1
 top:∀i,(top (b i) i H).1<(top (b i) i H').1\/top (b i) i H'=top (b i) i H
theorem Mono.refl:Mono b m H m H:=⟨λ_ _ _=>Xs _,λ_=>.inr rfl⟩
theorem WpC(aY:CmOk c)(hm:W2 m=true):∀i,0<=i->i<=7->(Ww m i).2.1<=(Ww (Wz m c).1 i).2.1:=λi h0 h7=>by
 have cd:=aY.phase;have nR:c.phase=1\/c.phase=4\/c.phase=5\/c.phase=7->0<=(Wcp c.puts c.pos (0,0)).1/\(Wcp c.puts c.pos (0,0)).1<=7:=λh=>by
  obtain⟨j,hj,e1,e2,e3,e4⟩:=aY.put h;rw[e2];exact e3
 unfold Wz;simp only;split
 .split
  .show _<=(Ww (WkB m _ _) i).2.1;unfold WkB;rw[Wbt hm (nR (by omega)) ⟨h0,h7⟩];split
   .rename_i e;rw[e];exact Xs _
   .exact Xs _
  .exact Xs _
 split
 .have ht:=WjR hm;have e:∀i,Ww (tick m).1 i=Ww m i:=λi=>by unfold tick;split<;>rfl
  split
  .show _<=(Ww (tick m).1 i).2.1;rw[e];exact Xs _
  .show _<=(Ww (tick m).1 i).2.1;rw[e];exact Xs _
 split
 .split<;>exact Xs _
 split
 .show _<=(Ww (WbW m _ _ _) i).2.1;unfold WbW;split
  .rw[Wbt hm (nR (by omega)) ⟨h0,h7⟩];split
   .rename_i e;rw[e];exact Xs _
   .exact Xs _
  .exact Xs _
 have unl:∀ver,(c.phase=5\/c.phase=7)->(Ww m i).2.1<=(Ww (Wav m (Wcp c.puts c.pos (0,0)).1 c.who ver) i).2.1:=λver h=>by
  unfold Wav;split
  .rename_i hc;rw[Wbt hm (nR (by omega)) ⟨h0,h7⟩];split
   .rename_i e;rw[e];exact hc.2.1
   .exact Xs _
  .exact Xs _
 split
 .exact unl _ (.inl ‹_›)
 split
 .exact unl _ (.inr ‹_›)
 .exact Xs _
theorem WrY{q:Cm}:∀i,(top (b i) i H).1<(top (b i) i (Wa0 k c q H)).1\/top (b i) i (Wa0 k c q H)=top (b i) i H:=λi=>by
 unfold Wa0;split
 .unfold top;rw[WjP];rcases Wjc (i:=i) (v:=2000000) (h:=(q.wv,(k:Int)+1,q.puts)) (bst (b i) i 2000000 H)with e|⟨x,_,_,e2,e3⟩
  .exact .inr e
  .rw[e3];exact .inl e2
 .exact .inr rfl
theorem WsF{q:Wo×Rt}(h:WOk s.2.1 n w)(hx:WX w)(hk:k<w.roots.length)(hq:q=Wam {w with now:=w.now+1} w.roots[k] k p):Mono b w.mem w.hist q.1.mem q.1.hist:=by
 by_cases h5:w.roots[k].phase=5
 .by_cases hd:w.roots[k].doomed=false
  .obtain⟨e1,e2,e3⟩:=Whx (w:={w with now:=w.now+1}) (x:=w.roots[k]) (k:=k) (p:=p) h5 hd;rw[hq,e1,e2];exact⟨WpC ((h.root k hk).comm h5) h.mem,WrY⟩
  .have cL:w.roots[k].doomed=true:=by simpa using hd
   have e:(Wam {w with now:=w.now+1} w.roots[k] k p).1={w with now:=w.now+1}:=by
    unfold Wam;rw[Wa (by omega),Wa (by omega),Wa (by omega),Wa (by omega),Wa (by omega),Wa (by omega),Wb h5];unfold WaG;rw[Wb cL]
   rw[hq,e];exact Mono.refl
 .obtain⟨r1,r2,_⟩:=Whz (w:={w with now:=w.now+1}) (k:=k) (p:=p) h5;rw[hq,r1,r2];exact Mono.refl
theorem Wod(hM:MI b m H C)(hl:CL2 m C)(h0:0<=i)(h7:i<=7)(ho:owner m i=0):(Ww m i).1=(top (b i) i H).2/\(Ww m i).2.1=(top (b i) i H).1/\∀k c,C k=some c->c.phase=3->pick c.puts i=none:=by
 have cF:∀k c,C k=some c->¬lkd c i:=λk c hc fb=>by
  obtain⟨_,e,q⟩:=hl k c hc;have:=(q.own i h0 h7).2 fb;omega
 obtain⟨e1,e2⟩:=hM.cell i h0 h7 λk c hc _=>cF k c hc;refine⟨e1,e2,λk c hc h3=>?_⟩;cases hp:pick c.puts i with
 |none=>rfl
 |some x=>
  obtain⟨l,bQ,e⟩:=List.getElem_of_mem (Wht hp);refine Wl ⟨l,bQ,by rw[e],?_⟩ (cF k c hc);unfold lkA;omega
structure PBs(b:Int->Int)(m:Mm)(H:List Wr)(x:Rt):Prop where
 cell:x.busy=true->0<=x.pb.1/\x.pb.1<=7
 rv:x.busy=true->x.pb.2.2.1<=x.rv
 one:x.busy=true->x.pb.2.1=1->x.pb.2.2.1<=(Ww m x.pb.1).2.1
 two:x.busy=true->x.pb.2.1=2->x.pb.2.2.1<=(top (b x.pb.1) x.pb.1 H).1/\((top (b x.pb.1) x.pb.1 H).1=x.pb.2.2.1->x.pb.2.2.2=(top (b x.pb.1) x.pb.1 H).2)
theorem PBs.no(h:x.busy=false):PBs b m H x:=⟨λe=>(by rw[h]at e;cases e),λe=>(by rw[h]at e;cases e),λe=>(by rw[h]at e;cases e),λe=>(by rw[h]at e;cases e)⟩
theorem PBs.mono(h:PBs b m H x)(hm:Mono b m H m' H'):PBs b m' H' x:=by
 refine⟨h.cell,h.rv,λe h1=>?_,λe h2=>?_⟩
 .have:=h.cell e;have:=h.one e h1;have:=hm.ver x.pb.1 (by omega) (by omega);omega
 .obtain⟨a,d⟩:=h.two e h2;rcases hm.top x.pb.1 with t|t
  .exact⟨by omega,λz=>by omega⟩
  .rw[t];exact⟨a,d⟩
end
section
def lst:List Rw->Int->Option Int
 | [],_=>none
 |r::l,c=>match lst l c with
  |some v=>some v
  |none=>if r.1=c then some r.2 else none
theorem WjW(a:List Rw)(b:List Rw)(c:Int):lst (a++b) c=match lst b c with|some v=>some v|none=>lst a c:=by
 induction a with
 |nil=>rw[List.nil_append];cases lst b c<;>rfl
 |cons r a ih=>
  rw[List.cons_append,lst,ih];cases lst b c<;>rfl
theorem Wjn{l:List Rw}{c:Int}:∀i,i<=l.length->We3 l c i=lst (l.take i) c
 |0,_=>by simp[We3,lst]
 |i+1,h=>by
  rw[We3,Xbe (by omega),WjW,Wjn i (by omega),Wt (show i<l.length by omega)];show _=match(if l[i].1=c then some l[i].2 else none)with|some v=>some v|none=>_
  by_cases h:l[i].1=c
  .rw[Wb h,Wb h]
  .rw[Wa h,Wa h]
theorem Waz{l:List Rw}(h:WcU l)(hl:l.length<=300):WaT l=true:=by
 unfold WaT;rw[Bool.and_eq_true];exact⟨Wf hl,Whr.2 h⟩
theorem Wry{l:List Rw}{c:Int}(h:WcU l)(hl:l.length<=300):Wa1 l c=lst l c:=by
 unfold Wa1;rw[Wb (Waz h hl),Wjn _ (Xn _),Xdf]
theorem Wkd{c v:Int}:∀{l:List Rw},lst l c=some v->(c,v)∈l
 | [],h=>by cases h
 |r::l,h=>by
  rw[lst]at h;cases hl:lst l c with
  |some w=>rw[hl]at h;cases h;exact Xe _ (Wkd hl)
  |none=>
   rw[hl]at h;by_cases hc:r.1=c
   .simp only[Wb hc]at h;cases h;rw[←hc];exact Xh ..
   .simp only[Wa hc]at h;cases h
theorem Woh{b:List En}{c:Int}{r:Nat×En}(h:ent b c=some r):r.2∈b/\r.2.1=c:=by
 obtain⟨h1,h2,h3,h4⟩:=Wcr h;exact⟨List.mem_of_getElem? h4,by simpa using h1⟩
theorem WoJ{b:List En}{c:Int}(h:ent b c=none):∀e∈b,e.1≠c:=λe he=>by
 have:=WfZ h e he;simpa using this
theorem Wiz{c:Int}{e:En}:∀{rows:List Rw} {b:List En},Ris cfE b->rows.Pairwise (λa b=>a.1<b.1)->
  (e∈WaJ c b rows↔(∃r∈rows,e=(r.1,r.2,c))\/(e∈b/\∀r∈rows,r.1≠e.1))
 | [],b,_,_=>by unfold WaJ;simp
 |r::rows,b,hb,hr=>by
  obtain⟨gI,gJ⟩:=Xv.1 hr;have:=Wiz (c:=c) (e:=e) (rows:=rows) (b:=Wdb cfE b (r.1,r.2,c)) (WbJ WsX hb) gJ;unfold WaJ at this⊢;rw[Xar,this,Wa9 WsX hb];constructor
  .rintro(⟨r',h1,h2⟩|⟨h1|⟨h1,h2⟩,h3⟩)
   .exact .inl ⟨r',Xe _ h1,h2⟩
   .exact .inl ⟨r,Xh ..,h1⟩
   .refine .inr ⟨h1,λr' bi=>?_⟩;rcases Xq.1 bi with rfl|bi
    .rw[apE]at h2;exactλq=>h2 q.symm
    .exact h3 r' bi
  .rintro(⟨r',h1,h2⟩|⟨h1,h2⟩)
   .rcases Xq.1 h1 with rfl|h1
    .refine .inr ⟨.inl h2,λr'' uj=>?_⟩;have:=gI r'' uj;rw[h2];simp only;omega
    .exact .inl ⟨r',h1,h2⟩
   .refine .inr ⟨.inr ⟨h1,?_⟩,λr' bi=>h2 r' (Xe _ bi)⟩;rw[apE];exactλq=>h2 r (Xh ..) q.symm
def WmV(f:Fm)(k:Int):List Rw:=(f.kids.getD k.toNat {}).writes
def WO(f:Fm)(n:Nat):List Rw:=f.start++((f.order.take n).map (WmV f)).flatten
theorem Wib{f f':Fm}{n:Nat}(hs:f'.start=f.start)(ho:f'.order.take n=f.order.take n)(hw:∀k∈f.order,WmV f' k=WmV f k):WO f' n=WO f n:=by
 unfold WO;rw[hs,ho];congr 2;exact Xdi λk hk=>hw k (Xbq hk)
def SN(M:Int->Int->Prop)(f:Fm)(x:Kd):Prop:=∀e∈x.seen,
 (e.2.2= -1/\lst (WO f x.since.toNat) e.1=none/\M e.1 e.2.1)\/
 (0<=e.2.2/\e.2.2<=x.since/\lst (WO f e.2.2.toNat) e.1=some e.2.1/\lst (WO f x.since.toNat) e.1=some e.2.1)
structure FT(M:Int->Int->Prop)(f:Fm):Prop where
 buf:∀e∈f.buf,∀n:Nat,e.2.2<=(n:Int)->n<=f.order.length->lst (WO f n) e.1=some e.2.1
 non:∀c:Int,0<=c->c<=7->(∀e∈f.buf,e.1≠c)->∀n:Nat,n<=f.order.length->lst (WO f n) c=none
 sn:∀(k:Nat) (h:k<f.kids.length),SN M f f.kids[k]
 nod:f.order.Nodup
 ord:∀k∈f.order,0<=k/\∃h:k.toNat<f.kids.length,f.kids[k.toNat].phase=3
theorem FT.wk{M M':Int->Int->Prop}{f:Fm}(h:FT M f)(hM:∀c v,M c v->M' c v):FT M' f:=
 ⟨h.buf,h.non,λk hk e he=>(h.sn k hk e he).imp (λ⟨a,b,c⟩=>⟨a,b,hM _ _ c⟩) id,h.nod,h.ord⟩
section
variable{M:Int->Int->Prop}{N:Nat}{codes:List (List Opn)}{n:Int}{f:Fm}{k:Nat}{code:List Opn}{m:Mm}{x y:Kd}
theorem WvG(hk:k<f.kids.length):f.kids.getD k {}=f.kids[k]:=by rw[Xae,Xp hk];rfl
theorem FT.put(h:FT M f)(hk:k<f.kids.length)(hp:f.kids[k].phase≠3){g:Fm}(hs:g.start=f.start)(ho:g.order=f.order)(hb:g.buf=f.buf)(hg:g.kids=f.kids.set k y)(hy:SN M f y):FT M g:=by
 have hw:∀j∈f.order,WmV g j=WmV f j:=λj hj=>by
  obtain⟨j0,j1,j2⟩:=h.ord j hj;unfold WmV;have hne:k≠j.toNat:=λe=>by subst e;exact hp j2
  rw[hg,Xae,Xae,Xda hne]
 have hr:∀n,WO g n=WO f n:=λn=>Wib hs (by rw[ho]) hw;refine⟨λe he n h1 h2=>?_,λc c0 c7 hc n hn=>?_,λj hj e he=>?_,by rw[ho];exact h.nod,λj hj=>?_⟩
 .rw[hr];exact h.buf e (by rw[←hb];exact he) n h1 (by rw[←ho];exact h2)
 .rw[hr];exact h.non c c0 c7 (by rw[←hb];exact hc) n (by rw[←ho];exact hn)
 .rw[hr,hr];have hj':j<f.kids.length:=by rw[hg,Xaf]at hj;exact hj
  have cG:g.kids[j]=if k=j then y else f.kids[j]:=by simp only[hg,Xaq]
  rw[cG]at he⊢;split at he
  .rename_i e1;rw[Wb e1];exact hy e he
  .rename_i e1;rw[Wa e1];exact h.sn j hj' e he
 .rw[ho]at hj;obtain⟨j0,j1,j2⟩:=h.ord j hj;refine⟨j0,by rw[hg,Xaf];exact j1,?_⟩;simp only[hg,Xaq];split
  .rename_i e;subst e;exact Wl j2 hp
  .exact j2
theorem SN.nil(h:x.seen= []):SN M f x:=λe he=>by rw[h]at he;cases he
theorem SN.same(h:SN M f x)(hs:y.seen=x.seen)(hq:y.since=x.since):SN M f y:=λe he=>by rw[hq];exact h e (by rw[←hs];exact he)
theorem SN.snoc(h:SN M f x){e:En}(hs:y.seen=x.seen++ [e])(hq:y.since=x.since)(he:(e.2.2= -1/\lst (WO f x.since.toNat) e.1=none/\M e.1 e.2.1)\/(0<=e.2.2/\e.2.2<=x.since/\lst (WO f e.2.2.toNat) e.1=some e.2.1/\lst (WO f x.since.toNat) e.1=some e.2.1)):SN M f y:=λz hz=>by
 rw[hs]at hz;rw[hq];rcases Xm.1 hz with hz|hz
 .exact h z hz
 .rw[Xaa.1 hz];exact he
def RdM(M:Int->Int->Prop)(m:Mm)(rv:Int)(x:Kd)(c:Int):Prop:=(WV m rv (if x.busy then x.pb else(c,0,0,0))).2.1=3->M c (WV m rv (if x.busy then x.pb else(c,0,0,0))).2.2.2
theorem WsE(h:FT M f)(hF:FOk codes n f)(hk:k<f.kids.length)(hx:f.kids[k]=x){o:Opn}(ho:0<=o.2.2.1/\o.2.2.1<=7)(gt:RdM M m f.rv x o.2.2.1):SN M f (WbA m f x o).2:=by
 unfold RdM at gt;have hs:SN M f x:=hx▸h.sn k hk;have gg:=hF.kid k hk;rw[hx]at gg;have hcl:=hF.clock;have rS:=gg.since;unfold WbA;cases hl:Wa1 x.writes o.2.2.1 with
 |some v=>exact hs.same rfl rfl
 |none=>
  cases he:ent f.buf o.2.2.1 with
  |some r=>
   simp only;split
   .exact SN.nil rfl
   .rename_i hv;obtain⟨e1,e2⟩:=Woh he;have rT:=hF.bufE _ e1;refine hs.snoc (e:=r.2) rfl rfl (.inr ⟨rT.2.2.1,by omega,?_,?_⟩)
    .exact h.buf _ e1 _ (by omega) (by omega)
    .exact h.buf _ e1 _ (by omega) (by omega)
  |none=>
   simp only;generalize WV m f.rv (if x.busy then x.pb else(o.2.2.1,0,0,0))=pb at gt;split
   .exact hs.same rfl rfl
   .split
    .rename_i h3;exact hs.snoc (e:=(o.2.2.1,_,-1)) rfl rfl (.inl ⟨rfl,h.non _ ho.1 ho.2 (WoJ he) _ (by omega),gt h3⟩)
    .exact hs.same rfl rfl
theorem Wqv(hs:SN M f x):SN M f (WfX x code):=by
 unfold WfX;split
 .exact hs.same rfl rfl
 .exact hs.same rfl rfl
theorem Wrt(h:FT M f)(hF:FOk codes n f)(hk:k<f.kids.length)(hx:f.kids[k]=x)(h2:x.phase=2)(bE:code.length<=24)(aA:codes.getD k []=code):FT M (Fm.put (Wa8 f x k) k):=by
 have gg:=hF.kid k hk;rw[hx,aA]at gg;have hcl:=hF.clock;have lC:x.writes.length<=300:=by have:=gg.wl;have:=gg.pc;omega
 have kE:∀c,Wa1 x.writes c=lst x.writes c:=λc=>Wry gg.rows lC;have yt:(k:Int)∉f.order:=λhmem=>by
  obtain⟨_,j1,j2⟩:=h.ord _ hmem;simp only[Xj]at j2;rw[hx]at j2;omega
 let g:=Fm.put (Wa8 f x k) k
 have g1:g.start=f.start:=rfl;have g2:g.order=f.order++ [(k:Int)]:=rfl;have g3:g.kids=f.kids.set k {x with phase:=3,pos:=0,marks:=[]}:=rfl;have g4:g.buf=WaJ (f.clock+1) f.buf (WbU x.writes):=rfl;have hw:∀j∈f.order,WmV g j=WmV f j:=λj hj=>by
  obtain⟨j0,j1,j2⟩:=h.ord j hj;unfold WmV;have hne:k≠j.toNat:=λe=>by subst e;rw[hx]at j2;omega
  rw[g3,Xae,Xae,Xda hne]
 have yu:WmV g k=x.writes:=by
  unfold WmV;rw[Xj,g3,Xae,Xdk hk];rfl
 have hr:∀n,n<=f.order.length->WO g n=WO f n:=λn hn=>Wib g1 (by rw[g2,List.take_append_of_le_length hn]) hw;have gI:WO g (f.order.length+1)=WO f f.order.length++x.writes:=by
  unfold WO;rw[g1,g2,Xbv (by simp),Xdf,Xz,Xgb,Xbj];congr 2
  .congr 1;exact Xdi hw
  .simp[yu]
 have uk:=WgA x.writes;have hne:∀c,0<=c->c<=7->(∀r∈WbU x.writes,r.1≠c)->lst x.writes c=none:=λc h0 h7 cF=>by
  cases hl:lst x.writes c with
  |none=>rfl
  |some v=>exact Wl rfl (cF (c,v) (Whm.2 ⟨⟨h0,h7⟩,by rw[kE];exact hl⟩))
 refine⟨λe he n h1 h2=>?_,λc c0 c7 hc n hn=>?_,λj hj e he=>?_,?_,λj hj=>?_⟩
 .have iX:n<=f.order.length+1:=by change n<=g.order.length at h2;rw[g2]at h2;simpa using h2
  show lst (WO g n) e.1=_;have d6:e∈WaJ (f.clock+1) f.buf (WbU x.writes):=he;rcases(Wiz hF.bufR uk).1 d6 with⟨r,bi,rfl⟩|⟨hb,cF⟩
  .simp only at h1;have:n=f.order.length+1:=by omega
   subst this;rw[gI,WjW];have:=(Whm.1 bi).2;rw[kE]at this;simp only[this]
  .by_cases hn:n<=f.order.length
   .rw[hr n hn];exact h.buf e hb n h1 hn
   .have:n=f.order.length+1:=by omega
    subst this;have rT:=hF.bufE e hb;rw[gI,WjW,hne e.1 rT.1.1 rT.1.2 cF];exact h.buf e hb _ (by omega) (Xn _)
 .have iX:n<=f.order.length+1:=by change n<=g.order.length at hn;rw[g2]at hn;simpa using hn
  show lst (WO g n) c=_;have fy:∀e∈WaJ (f.clock+1) f.buf (WbU x.writes),e.1≠c:=hc;have cF:∀r∈WbU x.writes,r.1≠c:=λr bi=>fy _ ((Wiz (e:=(r.1,r.2,f.clock+1)) hF.bufR uk).2 (.inl ⟨r,bi,rfl⟩));have nS:∀e∈f.buf,e.1≠c:=λe he q=>fy e ((Wiz hF.bufR uk).2 (.inr ⟨he,λr bi=>by rw[q];exact cF r bi⟩)) q;by_cases sf:n<=f.order.length
  .rw[hr n sf];exact h.non c c0 c7 nS n sf
  .have:n=f.order.length+1:=by omega
   subst this;rw[gI,WjW,hne c c0 c7 cF];exact h.non c c0 c7 nS _ (Xn _)
 .have hj':j<f.kids.length:=by
   have:(Fm.put (Wa8 f x k) k).kids.length=f.kids.length:=by show(f.kids.set k _).length=_;rw[Xaf]
   omega
  have cG:(Fm.put (Wa8 f x k) k).kids[j]=if k=j then{x with phase:=3,pos:=0,marks:=[]}else f.kids[j]:=by
   have hq:(Fm.put (Wa8 f x k) k).kids=f.kids.set k {x with phase:=3,pos:=0,marks:=[]}:=rfl;simp only[hq,Xaq]
  have um:SN M f ((Fm.put (Wa8 f x k) k).kids[j])/\((Fm.put (Wa8 f x k) k).kids[j]).since<=f.clock:=by
   rw[cG];split
   .exact⟨(hx▸h.sn k hk:SN M f x).same rfl rfl,gg.since.2⟩
   .exact⟨h.sn j hj',(hF.kid j hj').since.2⟩
  generalize (Fm.put (Wa8 f x k) k).kids[j]=z at*;show _\/(_/\_/\lst (WO g e.2.2.toNat) _=_/\lst (WO g z.since.toNat) _=_);have uq:=um.1 e he;rcases uq with⟨a,b,c⟩|⟨a,b,c,d⟩
  .left;refine⟨a,?_,c⟩;show lst (WO g _) _=_;rw[hr _ (by omega)];exact b
  .right;rw[hr _ (by omega),hr _ (by omega)];exact⟨a,b,c,d⟩
 .show(f.order++ [(k:Int)]).Nodup;rw[Xag];refine⟨h.nod,by simp,λa ha b hb=>?_⟩;rw[Xaa.1 hb]
  exactλq=>yt (q▸ha)
 .have hj':j∈f.order++ [(k:Int)]:=hj;have hlen:(Fm.put (Wa8 f x k) k).kids=f.kids.set k {x with phase:=3,pos:=0,marks:=[]}:=rfl;rcases Xm.1 hj' with hj'|hj'
  .obtain⟨j0,j1,j2⟩:=h.ord j hj';refine⟨j0,by rw[hlen,Xaf];exact j1,?_⟩;simp only[hlen,Xaq];split
   .rfl
   .exact j2
  .rw[Xaa.1 hj'];refine⟨by omega,by rw[hlen,Xaf];exact hk,?_⟩;simp only[hlen,Xj,Xfw]
theorem Wso(h:FT M f)(hF:FOk codes n f)(hk:k<f.kids.length)(bE:KC code)(aA:codes.getD k []=code)
  (gt:f.kids[k].phase=0->f.kids[k].pc<code.length->(opN code f.kids[k].pc).1=5->RdM M m f.rv f.kids[k] (opN code f.kids[k].pc).2.2.1):FT M (WaM m f k code):=by
 unfold WaM;split
 .exact h
 .rw[WvG hk];obtain⟨x,hx⟩:∃x,f.kids[k]=x:=⟨_,rfl⟩;have hs:SN M f x:=hx▸h.sn k hk;have gg:=hF.kid k hk;rw[hx]at gt⊢;rw[hx,aA]at gg;unfold Wbi;by_cases h0:x.phase=0
  .rw[Wb h0];have hp:f.kids[k].phase≠3:=by rw[hx];omega
   unfold Wl2;split
   .exact h.put hk hp rfl rfl rfl rfl (hs.same rfl rfl)
   .rename_i bf;have bf:=Int.not_le.1 bf;simp only;split
    .rename_i h5;have ar:0<=(opN code x.pc).2.2.1/\(opN code x.pc).2.2.1<=7:=by
      obtain⟨i,hi,e1,e2⟩:=We9 gg.pc.1 bf;have:=(Wto (bE.ok i hi).1 (by rw[←e2];exact h5)).2;rw[←e2]at this;unfold Wai at this;simp at this;exact this
     have um:=WsE (o:=opN code x.pc) h hF hk hx ar (gt h0 (by omega) h5);have aS:(WbA m f x (opN code x.pc)).1.start=f.start/\(WbA m f x (opN code x.pc)).1.order=f.order/\(WbA m f x (opN code x.pc)).1.buf=f.buf/\(WbA m f x (opN code x.pc)).1.kids=f.kids:=by
      unfold WbA;cases Wa1 x.writes (opN code x.pc).2.2.1 with
      |some v=>exact⟨rfl,rfl,rfl,rfl⟩
      |none=>
       cases ent f.buf (opN code x.pc).2.2.1 with
       |some r=>simp only;split<;>exact⟨rfl,rfl,rfl,rfl⟩
       |none=>
        simp only;generalize WV m f.rv _=pb;split
        .exact⟨rfl,rfl,rfl,rfl⟩
        .split<;>exact⟨rfl,rfl,rfl,rfl⟩
     exact h.put hk hp aS.1 aS.2.1 aS.2.2.1 (by show Xk (WbA ..).1.kids _ _=_;rw[aS.2.2.2]) um
    .split
     .exact h.put hk hp rfl rfl rfl rfl (Wqv hs)
     .repeat' split
      all_goals exact h.put hk hp rfl rfl rfl rfl (hs.same rfl rfl)
  .rw[Wa h0];split
   .have hp:f.kids[k].phase≠3:=by rw[hx];omega
    split
    .exact h.put hk hp rfl rfl rfl rfl (hs.same rfl rfl)
    .exact h.put hk hp rfl rfl rfl rfl (hs.same rfl rfl)
   .split
    .rename_i h2;have hp:f.kids[k].phase≠3:=by rw[hx];omega
     split
     .exact Wrt h hF hk hx h2 bE.len aA
     .simp only;split
      .exact h.put hk hp rfl rfl rfl rfl (hs.same rfl rfl)
      .exact h.put hk hp rfl rfl rfl rfl (SN.nil rfl)
    .have e:Fm.put (f,x) k=f:=by
      unfold Fm.put;simp only;rw[←hx,List.set_getElem_self hk]
     rw[e];exact h
theorem WqL{r:Rw}:∀{l:List Rw},l.Pairwise (λa b=>a.1<b.1)->r∈l->lst l r.1=some r.2
 | [],_,h=>by cases h
 |a::l,hp,hm=>by
  obtain⟨p1,p2⟩:=Xv.1 hp;rw[lst];rcases Xq.1 hm with rfl|hm
  .cases hl:lst l r.1 with
   |some v=>have:=p1 _ (Wkd hl);simp only at this;omega
   |none=>simp
  .rw[WqL p2 hm]
theorem Wrj{rv:Int}{regs:List Int}{writes:List Rw}{kids:Nat}:FT M (Wa7 rv regs writes kids):=by
 have hr:∀n,WO (Wa7 rv regs writes kids) n=WbU writes:=λn=>by
  unfold WO Wa7;simp
 have ur:∀r∈WbU writes,lst (WbU writes) r.1=some r.2:=λr bi=>WqL (WgA writes) bi;refine⟨λe he n h1 h2=>?_,λc c0 c7 hc n hn=>?_,λj hj e he=>?_,Xcq,λk hk=>by cases hk⟩
 .rw[hr];obtain⟨r,h3,rfl⟩:=Xt.1 (show e∈(WbU writes).map λr=>((r.1,r.2,0):En)from he);exact ur r h3
 .rw[hr];cases hl:lst (WbU writes) c with
  |none=>rfl
  |some v=>exact Wl rfl (hc (c,v,0) (Xt.2 ⟨(c,v),Wkd hl,rfl⟩))
 .have:(Wa7 rv regs writes kids).kids[j]={regs:=regs}:=Xbc ..;rw[this]at he;cases he
end
end
section
noncomputable def mt(l:List Opn)(m:Nat):Nat:=@dite _ (∃k,Mate l m k) (Classical.propDecidable _) (λh=>Classical.choose h) λ_=>0
abbrev Mk:=Int×Int×List Int
structure KS where
 regs:List Int
 cells:List Int
 log:List Rw
 back:Int
 marks:List Mk
 reads:List Int
def zMk:Mk:=(0,0,[])
def WtW(s:KS):Mk:=s.marks.getD (s.marks.length-1) zMk
def WvX(l:List Opn)(i:Nat):Opn:=l.getD i (0,0,0,0)
noncomputable def Wvr(l:List Opn)(pc:Nat)(s:KS)(o:Opn):Bool×Nat×KS:=
 bif o.1==5 then(true,pc+1,{s with regs:=s.regs.set o.2.1.toNat (s.cells.getD o.2.2.1.toNat 0),reads:=bif s.log.any (λr=>r.1==o.2.2.1)then s.reads else s.reads++ [o.2.2.1]})else
 bif o.1==6 then(true,pc+1,{s with cells:=s.cells.set o.2.1.toNat (s.regs.getD o.2.2.1.toNat 0),log:=s.log++ [(o.2.1,s.cells.getD o.2.1.toNat 0)]})else
 bif o.1==7 then(true,bif s.regs.getD o.2.1.toNat 0==0 then pc+1+o.2.2.1.toNat else pc+1,s)else
 bif o.1==8 then(true,pc+1,{s with marks:=s.marks++ [((pc:Int),(s.log.length:Int),s.regs)]})else
 bif o.1==9 then(true,pc+1,{s with marks:=s.marks.take (s.marks.length-1),regs:=s.regs.set (WvX l (WtW s).1.toNat).2.1.toNat 1})else
 bif o.1==10 then
  (bif s.marks.isEmpty then(false,pc,{s with cells:=Wwf s.cells s.log,log:=[],back:=s.back+s.log.length})
  else(true,mt l (WtW s).1.toNat+1,{s with cells:=Wwf s.cells (s.log.drop (WtW s).2.1.toNat),log:=s.log.take (WtW s).2.1.toNat,back:=s.back+s.log.length-(WtW s).2.1,marks:=s.marks.take (s.marks.length-1),regs:=(WtW s).2.2.set (WvX l (WtW s).1.toNat).2.1.toNat 0}))
 else(true,pc+1,{s with regs:=Wnt o s.regs})
noncomputable def WsG(l:List Opn)(pc:Nat)(s:KS):Bool×Nat×KS:=Wvr l pc s (WvX l pc)
structure KI(l:List Opn)(pc:Nat)(s:KS):Prop where
 pcl:pc<=l.length
 rg:Vals 4 s.regs
 cl:Vals 8 s.cells
 lg:WcU s.log/\s.log.length<=pc
 mp:s.marks.map (·.1)=(stk l pc).map λm:Nat=>(m:Int)
 mr:∀m∈s.marks,Vals 4 m.2.2/\0<=m.2.1/\m.2.1<=s.log.length
 mo:s.marks.Pairwise λa b=>a.2.1<=b.2.1
 bk:0<=s.back/\s.back<=24*pc
 rd:s.reads.length<=pc/\∀x∈s.reads,0<=x/\x<=7
section
variable{l:List Opn}{pc:Nat}{s:KS}
end
noncomputable def Wu9(l:List Opn):Nat->Nat->KS->Bool×KS
 |0,_,s=>(false,s)
 |n+1,pc,s=>bif decide (pc<l.length)then(bif (WsG l pc s).1 then Wu9 l n (WsG l pc s).2.1 (WsG l pc s).2.2 else(true,(WsG l pc s).2.2))else(false,s)
def ks0(regs cells:List Int):KS:=⟨regs,cells,[],0,[],[]⟩
section
variable{N:Nat}{l:List Opn}{regs cells:List Int}
end
section
variable{N:Nat}{l:List Opn}{R:Type}
end
end
section
def ovl(c:List Int)(rows:List Rw):List Int:=rows.foldl (λc r=>c.set r.1.toNat r.2) c
theorem Wqb(c:List Int)(a b:List Rw):ovl c (a++b)=ovl (ovl c a) b:=by unfold ovl;rw[Xee]
theorem Wc0:∀{l:List Rw} {c:List Int},Vals 8 c->WcU l->Vals 8 (ovl c l)
 | [],c,h,_=>h
 |r::l,c,h,hr=>Wc0 (l:=l) (h.set r.1.toNat (hr r (Xh ..)).2) λx hx=>hr x (Xe _ hx)
theorem WjV{c:Int}:∀{l:List Rw} {A:List Int},Vals 8 A->WcU l->0<=c->c<=7->(ovl A l).getD c.toNat 0=match lst l c with|some v=>v|none=>A.getD c.toNat 0
 | [],A,_,_,_,_=>rfl
 |r::l,A,hA,hr,h0,h7=>by
  have lY:=hr r (Xh ..);have ih:=WjV (c:=c) (l:=l) (A:=A.set r.1.toNat r.2) (hA.set r.1.toNat lY.2) (λx hx=>hr x (Xe _ hx)) h0 h7;show(ovl (A.set r.1.toNat r.2) l).getD c.toNat 0=_;rw[ih,lst];cases lst l c with
  |some v=>rfl
  |none=>
   simp only;by_cases hc:r.1=c
   .rw[Wb hc,←hc,Xae,Xdk (by rw[hA.len];omega)];rfl
   .rw[Wa hc,Xae,Xae,Xda (by omega)]
def Wwe:List Int->List Rw->List Rw
 |_,[]=>[]
 |A,r::l=>(r.1,A.getD r.1.toNat 0)::Wwe (A.set r.1.toNat r.2) l
structure EM(A:List Int)(x:Kd)(s:KS):Prop where
 regs:s.regs=x.regs
 cells:s.cells=ovl A x.writes
 log:s.log=Wwe A x.writes
 marks:s.marks=x.marks
def Sim(code:List Opn)(r0:List Int)(x:Kd):Prop:=∀A:List Int,Vals 8 A->(∀e∈x.seen,A.getD e.1.toNat 0=e.2.1)->∀F:Nat,25<=F->
 (x.phase=0/\∃(j:Nat) (s:KS),(j:Int)<=x.pc/\EM A x s/\KI code x.pc.toNat s/\Wu9 code F 0 (ks0 r0 A)=Wu9 code (F-j) x.pc.toNat s)\/
 (x.phase≠0/\((x.out=1/\∃s:KS,s.regs=x.regs/\s.cells=ovl A x.writes/\Wu9 code F 0 (ks0 r0 A)=(false,s))\/(x.out=2/\x.writes= []/\∃s,s.cells=A/\Wu9 code F 0 (ks0 r0 A)=(true,s))))
section
variable{M:Int->Int->Prop}{N:Nat}{codes:List (List Opn)}{n:Int}{f:Fm}{k:Nat}{code:List Opn}{m:Mm}{x y:Kd}{r0:List Int}
theorem Sim.same(h:Sim code r0 x)(h0:y.phase=x.phase)(hp:y.pc=x.pc)(hg:y.regs=x.regs)(hw:y.writes=x.writes)(hm:y.marks=x.marks)(hs:y.seen=x.seen)(ho:y.out=x.out):Sim code r0 y:=λA hA nU F hF=>by
 rcases h A hA (λe he=>nU e (by rw[hs];exact he)) F hF with⟨a,j,s,b,c,d,e⟩|⟨a,⟨b,s,c,c',d⟩|⟨b,c,s,d,e⟩⟩
 .exact .inl ⟨by rw[h0];exact a,j,s,by rw[hp];exact b,⟨by rw[hg];exact c.regs,by rw[hw];exact c.cells,by rw[hw];exact c.log,by rw[hm];exact c.marks⟩,by rw[hp];exact d,by rw[hp];exact e⟩
 .exact .inr ⟨by rw[h0];exact a,.inl ⟨by rw[ho];exact b,s,by rw[hg];exact c,by rw[hw];exact c',d⟩⟩
 .exact .inr ⟨by rw[h0];exact a,.inr ⟨by rw[ho];exact b,by rw[hw];exact c,s,d,e⟩⟩
theorem EM.cell{A:List Int}{s:KS}(h:EM A x s)(hA:Vals 8 A)(hr:WcU x.writes){c:Int}(h0:0<=c)(h7:c<=7):s.cells.getD c.toNat 0=match lst x.writes c with|some v=>v|none=>A.getD c.toNat 0:=by
 rw[h.cells,WjV hA hr h0 h7]
end
end
section
section
variable{M:Int->Int->Prop}{N:Nat}{codes:List (List Opn)}{n:Int}{f g:Fm}{k:Nat}{code:List Opn}{m:Mm}{x y:Kd}{r0:List Int}
def VL(f:Fm)(x:Kd):Prop:=∀j:Nat,(j:Int)<x.pos->∀h:j<x.seen.length,WtF f.buf x.seen[j].1=x.seen[j].2.2
structure FV(M:Int->Int->Prop)(codes:List (List Opn))(f:Fm):Prop where
 sim:∀(k:Nat) (h:k<f.kids.length),Sim (codes.getD k []) f.regs f.kids[k]
 own:∀(k:Nat) (h:k<f.kids.length),f.kids[k].phase=2->f.owner=(k:Int)+1
 val:∀(k:Nat) (h:k<f.kids.length),f.kids[k].phase=2->VL f f.kids[k]
 pz:∀(k:Nat) (h:k<f.kids.length),f.kids[k].phase≠2->f.kids[k].pos=0
 mrg:∀(i:Nat) (h:i<f.order.length),∀e∈(f.kids.getD f.order[i].toNat {}).seen,lst (WO f i) e.1=some e.2.1\/(lst (WO f i) e.1=none/\M e.1 e.2.1)
theorem FV.put(hv:FV M codes f)(h:FT M f)(hk:k<f.kids.length)(hp:f.kids[k].phase≠3)(hs:g.start=f.start)(ho:g.order=f.order)(hb:g.buf=f.buf)(hg:g.kids=f.kids.set k y)(hr:g.regs=f.regs)
  (ut:Sim (codes.getD k []) f.regs y) (hown:∀(j:Nat) (hj:j<f.kids.length),j≠k->f.kids[j].phase=2->g.owner=(j:Int)+1) (hy:y.phase=2->g.owner=(k:Int)+1/\VL f y) (yv:y.phase≠2->y.pos=0):FV M codes g:=by
 have cG:∀(j:Nat) (hj:j<g.kids.length) (hj':j<f.kids.length),g.kids[j]=if k=j then y else f.kids[j]:=λj hj hj'=>by simp only[hg,Xaq]
 have hlen:g.kids.length=f.kids.length:=by rw[hg,Xaf]
 have hne:∀j∈f.order,k≠j.toNat:=λj hj e=>by
  obtain⟨j0,j1,j2⟩:=h.ord j hj;subst e;exact hp j2
 have oP:∀j∈f.order,g.kids.getD j.toNat {}=f.kids.getD j.toNat {}:=λj hj=>by
  rw[hg,Xae,Xae,Xda (hne j hj)]
 have iQ:∀n,WO g n=WO f n:=λn=>Wib hs (by rw[ho]) λj hj=>by unfold WmV;rw[oP j hj]
 refine⟨λj hj=>?_,λj hj dA=>?_,λj hj dA=>?_,λj hj dA=>?_,λi hi e he=>?_⟩
 .rw[cG j hj (by omega),hr];split
  .rename_i e;subst e;exact ut
  .exact hv.sim j (by omega)
 .rw[cG j hj (by omega)]at dA;split at dA
  .rename_i e;subst e;exact(hy dA).1
  .rename_i e;exact hown j (by omega) (λq=>e q.symm) dA
 .rw[cG j hj (by omega)]at dA⊢;unfold VL;rw[hb];split at dA
  .rename_i e;rw[Wb e];exact(hy dA).2
  .rename_i e;rw[Wa e];exact hv.val j (by omega) dA
 .rw[cG j hj (by omega)]at dA⊢;split at dA
  .rename_i e;rw[Wb e];exact yv dA
  .rename_i e;rw[Wa e];exact hv.pz j (by omega) dA
 .have dB:i<f.order.length:=by rw[←ho];exact hi
  have e1:g.order[i]=f.order[i]:=by simp only[ho]
  rw[e1,oP _ (Xo dB)]at he;rw[iQ];exact hv.mrg i dB e he
end
end
section
section
variable{M:Int->Int->Prop}{Z:Pb->Prop}{N:Nat}{codes:List (List Opn)}{n:Int}{f g:Fm}{k:Nat}{code:List Opn}{m:Mm}{x y:Kd}{rv:Int}
def PK(Z:Pb->Prop)(code:List Opn)(f:Fm)(x:Kd):Prop:=x.busy=true->x.phase=0/\x.pc<code.length/\(opN code x.pc).1=5/\Z x.pb/\x.pb.1=(opN code x.pc).2.2.1/\Wa1 x.writes (opN code x.pc).2.2.1=none/\∀e∈f.buf,e.1=(opN code x.pc).2.2.1->x.since<e.2.2
def ZS(M:Int->Int->Prop)(Z Z':Pb->Prop)(m:Mm)(rv:Int):Prop:=∀(c:Int) (p:Pb),0<=c->c<=7->(p=(c,0,0,0)\/(Z p/\p.1=c))->
 (WV m rv p).2.1=4\/((WV m rv p).2.1=3/\M c (WV m rv p).2.2.2)\/((WV m rv p).2.1≠3/\Z' (WV m rv p)/\(WV m rv p).1=c)
theorem PK.no(h:x.busy=false):PK Z code f x:=λe=>by rw[h]at e;cases e
theorem Wvm(hz:ZS M Z Z m rv)(h:PK Z code f x)(ho:0<=(opN code x.pc).2.2.1/\(opN code x.pc).2.2.1<=7):RdM M m rv x (opN code x.pc).2.2.1:=by
 unfold RdM;have key:∀p,(p=((opN code x.pc).2.2.1,0,0,0)\/(Z p/\p.1=(opN code x.pc).2.2.1))->(WV m rv p).2.1=3->M (opN code x.pc).2.2.1 (WV m rv p).2.2.2:=λp hp h3=>by
  rcases hz _ p ho.1 ho.2 hp with a|⟨_,a⟩|⟨a,_⟩
  .omega
  .exact a
  .exact Wl h3 a
 by_cases hb:x.busy=true
 .rw[Wb hb];have:=h hb;exact key _ (.inr ⟨this.2.2.2.1,this.2.2.2.2.1⟩)
 .rw[Wa hb];exact key _ (.inl rfl)
theorem Wjf{o:Opn}:(WbA m f x o).1.rv=f.rv/\(WbA m f x o).1.regs=f.regs/\(WbA m f x o).1.start=f.start/\(WbA m f x o).1.kids=f.kids/\(WbA m f x o).1.buf=f.buf:=by
 unfold WbA;cases Wa1 x.writes o.2.2.1 with
 |some v=>exact⟨rfl,rfl,rfl,rfl,rfl⟩
 |none=>
  cases ent f.buf o.2.2.1 with
  |some r=>simp only;split<;>exact⟨rfl,rfl,rfl,rfl,rfl⟩
  |none=>
   simp only;generalize WV m f.rv _=pb;split
   .exact⟨rfl,rfl,rfl,rfl,rfl⟩
   .split<;>exact⟨rfl,rfl,rfl,rfl,rfl⟩
theorem WpW:(Wbi m f x k code).1.rv=f.rv/\(Wbi m f x k code).1.regs=f.regs/\(Wbi m f x k code).1.start=f.start/\(Wbi m f x k code).1.kids=f.kids/\
  ((Wbi m f x k code).1.buf=f.buf\/(Wbi m f x k code).1.buf=WaJ (f.clock+1) f.buf (WbU x.writes)):=by
 unfold Wbi;split
 .unfold Wl2;split
  .exact⟨rfl,rfl,rfl,rfl,.inl rfl⟩
  .simp only;split
   .obtain⟨a,b,c,d,e⟩:=Wjf (m:=m) (f:=f) (x:=x) (o:=opN code x.pc);exact⟨a,b,c,d,.inl e⟩
   .repeat' split
    all_goals exact⟨rfl,rfl,rfl,rfl,.inl rfl⟩
 .split
  .split<;>exact⟨rfl,rfl,rfl,rfl,.inl rfl⟩
  .split
   .split
    .exact⟨rfl,rfl,rfl,rfl,.inr rfl⟩
    .simp only;split<;>exact⟨rfl,rfl,rfl,rfl,.inl rfl⟩
   .exact⟨rfl,rfl,rfl,rfl,.inl rfl⟩
theorem PK.buf(h:PK Z code f x)(hb:g.buf=f.buf\/∃rows,rows.Pairwise (λa b:Rw=>a.1<b.1)/\g.buf=WaJ (f.clock+1) f.buf rows)(hF:Ris cfE f.buf)(hs:x.since<=f.clock):PK Z code g x:=λhx=>by
 obtain⟨a,b,c,d,e,f1,f2⟩:=h hx;refine⟨a,b,c,d,e,f1,λz hz hc=>?_⟩;rcases hb with hb|⟨rows,hr,hb⟩
 .rw[hb]at hz;exact f2 z hz hc
 .rw[hb]at hz;rcases(Wiz hF hr).1 hz with⟨r,_,rfl⟩|⟨h1,_⟩
  .simp only;omega
  .exact f2 z h1 hc
theorem PK.same(h:PK Z code f x)(hb:y.busy=x.busy)(h1:x.busy=true->y.phase=x.phase/\y.pc=x.pc/\y.pb=x.pb/\y.writes=x.writes/\y.since=x.since):PK Z code f y:=λhy=>by
 rw[hb]at hy;obtain⟨a1,a2,a3,a4,a5⟩:=h1 hy;rw[a1,a2,a3,a4,a5];exact h hy
theorem Wsj(hz:ZS M Z Z m f.rv)(bE:KC code)(gg:KOk code f.clock n x)(h:PK Z code f x):(Wbi m f x k code).1.lost=true\/PK Z code f (Wbi m f x k code).2:=by
 unfold Wbi;by_cases h0:x.phase=0
 .rw[Wb h0];unfold Wl2;by_cases hp:x.pc>=code.length
  .rw[Wb hp];refine .inr (PK.no ?_);by_cases hb:x.busy=true
   .have:=h hb;omega
   .simpa using hb
  .rw[Wa hp];simp only;by_cases h5:(opN code x.pc).1=5
   .rw[Wb h5];have ar:0<=(opN code x.pc).2.2.1/\(opN code x.pc).2.2.1<=7:=by
     obtain⟨i,hi,e1,e2⟩:=We9 (l:=code) gg.pc.1 (by omega);have:=(Wto (bE.ok i hi).1 (by rw[←e2];exact h5)).2;rw[←e2]at this;unfold Wai at this;simp at this;exact this
    unfold WbA;cases kE:Wa1 x.writes (opN code x.pc).2.2.1 with
    |some v=>
     refine .inr (PK.no ?_);by_cases hb:x.busy=true
     .have:=(h hb).2.2.2.2.2.1;rw[kE]at this;cases this
     .simpa using hb
    |none=>
     cases he:ent f.buf (opN code x.pc).2.2.1 with
     |some r=>
      simp only;split
      .exact .inr (PK.no rfl)
      .rename_i hv;refine .inr (PK.no ?_);by_cases hb:x.busy=true
       .obtain⟨e1,e2⟩:=Woh he;have:=(h hb).2.2.2.2.2.2 _ e1 e2;omega
       .simpa using hb
     |none=>
      simp only;have fN:=hz (opN code x.pc).2.2.1 (if x.busy=true then x.pb else((opN code x.pc).2.2.1,0,0,0)) ar.1 ar.2 (by
       by_cases hb:x.busy=true
       .rw[Wb hb];have:=h hb;exact .inr ⟨this.2.2.2.1,this.2.2.2.2.1⟩
       .rw[Wa hb];exact .inl rfl)
      generalize WV m f.rv _=pb at*;by_cases h4:pb.2.1=4
      .rw[Wb h4];exact .inl rfl
      .rw[Wa h4];right;by_cases h3:pb.2.1=3
       .rw[Wb h3];exact PK.no rfl
       .rw[Wa h3];rcases fN with q|⟨q,_⟩|⟨_,q1,q2⟩
        .exact Wl q h4
        .exact Wl q h3
        .exactλ_=>⟨h0,by show x.pc<_;omega,h5,q1,q2,kE,λe d6 hc=>Wl hc (WoJ he e d6)⟩
   .rw[Wa h5];have hb:x.busy=false:=by
     by_cases hb:x.busy=true
     .exact Wl (h hb).2.2.1 h5
     .simpa using hb
    split
    .refine .inr (PK.no ?_);unfold WfX;split<;>exact hb
    .repeat' split
     all_goals exact .inr (PK.no hb)
 .rw[Wa h0];have hb:x.busy=false:=by
   by_cases hb:x.busy=true
   .exact Wl (h hb).1 h0
   .simpa using hb
  split
  .split<;>exact .inr (PK.no hb)
  .split
   .split
    .exact .inr (PK.no hb)
    .simp only;split
     .exact .inr (PK.no hb)
     .exact .inr (PK.no rfl)
   .exact .inr (PK.no hb)
structure FP(M:Int->Int->Prop)(Z:Pb->Prop)(codes:List (List Opn))(f:Fm):Prop where
 ft:FT M f
 pk:f.lost=false->∀(k:Nat) (h:k<f.kids.length),PK Z (codes.getD k []) f f.kids[k]
theorem Wsg(h:FP M Z codes f)(hF:FOk codes n f)(hk:k<f.kids.length)(hm:W2 m=true)(bE:KC code)(aA:codes.getD k []=code)(hz:ZS M Z Z m f.rv):FP M Z codes (WaM m f k code)/\(WaM m f k code).rv=f.rv/\(WaM m f k code).regs=f.regs/\(WaM m f k code).start=f.start:=by
 by_cases bb:f.lost=true
 .have e:WaM m f k code=f:=by unfold WaM;rw[Wb bb]
  rw[e];exact⟨h,rfl,rfl,rfl⟩
 .have pJ:f.lost=false:=by simpa using bb
  have e:WaM m f k code=Fm.put (Wbi m f f.kids[k] k code) k:=by unfold WaM;rw[Wa bb,WvG hk]
  obtain⟨k1,k2,k3,k4,k5⟩:=WpW (m:=m) (f:=f) (x:=f.kids[k]) (k:=k) (code:=code);have gg:=hF.kid k hk;rw[aA]at gg;have nP:=h.pk pJ k hk;rw[aA]at nP;refine⟨⟨Wso h.ft hF hk bE aA λh0 bf h5=>?_,λhl j hj=>?_⟩,by rw[e];exact k1,by rw[e];exact k2,by rw[e];exact k3⟩
  .have ar:0<=(opN code f.kids[k].pc).2.2.1/\(opN code f.kids[k].pc).2.2.1<=7:=by
    obtain⟨i,hi,e1,e2⟩:=We9 gg.pc.1 bf;have:=(Wto (bE.ok i hi).1 (by rw[←e2];exact h5)).2;rw[←e2]at this;unfold Wai at this;simp at this;exact this
   exact Wvm hz nP ar
  .have bQ:(Wbi m f f.kids[k] k code).1.lost=false:=by rw[e]at hl;exact hl
   have q7:(WaM m f k code).kids=f.kids.set k (Wbi m f f.kids[k] k code).2:=by rw[e];show Xk (Wbi m f f.kids[k] k code).1.kids _ _=_;rw[k4]
   have yw:(WaM m f k code).buf=f.buf\/∃rows,rows.Pairwise (λa b:Rw=>a.1<b.1)/\(WaM m f k code).buf=WaJ (f.clock+1) f.buf rows:=by
    rw[e];rcases k5 with k5|k5
    .exact .inl k5
    .exact .inr ⟨_,WgA _,k5⟩
   have hj':j<f.kids.length:=by rw[q7,Xaf]at hj;exact hj
   have cG:(WaM m f k code).kids[j]=if k=j then(Wbi m f f.kids[k] k code).2 else f.kids[j]:=by simp only[q7,Xaq]
   rw[cG];split
   .rename_i ej;subst ej;rw[aA];rcases Wsj (k:=k) hz bE gg nP with q|q
    .rw[bQ]at q;cases q
    .by_cases hb:(Wbi m f f.kids[k] k code).2.busy=true
     .have h0:=(q hb).1;have lH:f.kids[k].phase=0:=by
       by_cases lH:f.kids[k].phase=0
       .exact lH
       .exfalso;have nS:f.kids[k].busy=false:=by
         by_cases hb:f.kids[k].busy=true
         .exact Wl (nP hb).1 lH
         .simpa using hb
        have:(Wbi m f f.kids[k] k code).2.busy=false:=by
         unfold Wbi;rw[Wa lH];split
         .split<;>exact nS
         .split
          .split
           .exact nS
           .simp only;split
            .exact nS
            .rfl
          .exact nS
        rw[this]at hb;cases hb
      have yx:(WaM m f k code).buf=f.buf:=by
       rw[e];show(Wbi m f f.kids[k] k code).1.buf=f.buf;unfold Wbi;rw[Wb lH];unfold Wl2;split
       .rfl
       .simp only;split
        .exact Wjf.2.2.2.2
        .repeat' split
         all_goals rfl
      exact q.buf (.inl yx) hF.bufR (by
       have:=(Woi (m:=m) hk hm bE hF aA).kid k (by rw[q7,Xaf];exact hk);have e2:(WaM m f k code).kids[k]'(by rw[q7,Xaf];exact hk)=(Wbi m f f.kids[k] k code).2:=by simp only[q7,Xfw]
       rw[e2]at this;have hc:(WaM m f k code).clock=f.clock:=by
        rw[e];show(Wbi m f f.kids[k] k code).1.clock=f.clock;unfold Wbi;rw[Wb lH];unfold Wl2;split
        .rfl
        .simp only;split
         .unfold WbA;cases Wa1 f.kids[k].writes (opN code f.kids[k].pc).2.2.1 with
          |some v=>rfl
          |none=>
           cases ent f.buf (opN code f.kids[k].pc).2.2.1 with
           |some r=>simp only;split<;>rfl
           |none=>
            simp only;generalize WV m f.rv _=pb;split
            .rfl
            .split<;>rfl
         .repeat' split
          all_goals rfl
       rw[hc]at this;exact this.since.2)
     .exact PK.no (by simpa using hb)
   .exact(h.pk pJ j hj').buf yw hF.bufR (hF.kid j hj').since.2
theorem WqE{regs:List Int}{writes:List Rw}{l:Nat}:FP M Z codes (Wa7 rv regs writes l):=by
 have hg:∀(j:Nat) (hj:j<(Wa7 rv regs writes l).kids.length),(Wa7 rv regs writes l).kids[j]={regs:=regs}:=λj hj=>Xbc ..;refine⟨Wrj,λ_ j hj=>?_⟩;rw[hg];exact PK.no rfl
end
end
section
theorem Wf7{α β V R:Type}{body:Int->α->V->(V->Option R)->Option R}{K:Int->V->Option R}{f:V->α->V}(P:V->Prop):∀(l:List α) (j:Nat) (v:V),P v->(∀x∈l,∀v,P v->P (f v x))->(∀(j:Nat) x v k,x∈l->P v->body j x v k=k (f v x))->Wb2 body K l j v=K ((j+l.length:Nat):Int) (l.foldl f v)
 | [],j,v,_,_,_=>rfl
 |x::l,j,v,hv,hp,h=>by
  rw[Wb2,h j x v _ (Xh ..) hv,Wf7 (β:=β) P l (j+1) _ (hp x (Xh ..) v hv) (λy hy=>hp y (Xe _ hy)) λj y v k hy=>h j y v k (Xe _ hy),Xar,Xx];rw[show j+1+l.length=j+(l.length+1) by omega]
section
variable{M:Int->Int->Prop}{Z:Pb->Prop}{N:Nat}{codes:List (List Opn)}{n:Int}{f g:Fm}{k:Nat}{code:List Opn}{m:Mm}{x y:Kd}{rv:Int}{base:List Int}
theorem WtO{c:List Int}{r:Rw}(hc:Vals 8 c)(hr:0<=r.1/\r.1<=7):inb r.1 c.length=true:=by unfold inb;rw[hc.len];simp;omega
theorem WfD{c:List Int}{l:List Rw}(hc:Vals 8 c)(hr:WcU l)(hl:l.length<=300)(hN:1048576<N):Zdf N c l=ret (ovl c l):=by
 unfold Zdf;have hcl:=hc.len;rw[Wch (by omega) hN,Wap (by omega) hN,Wcy.2 hc,Waz hr hl,Wa2 (by omega)];simp only[ret,Xd,Xr,Wc];have h1:=Wy (l:=l) (V:=List Int) (R:=Unit×(List Int×Unit)) (lp:=λn j v=>Zc0 N l (λaF au aO=>some ((),(aO,()))) n j v) (n:=N) (by omega)
  (body:=λj x v k=>bif inb x.1 v.length then k (v.set x.1.toNat x.2)else none) (K:=λ_ v=>some ((),(v,())))
  (λn i v hi=>by simp only[Zc0,WU hi,Wp hi,Wv hi,Wn (show i<4611686018427387904 by omega),We])
  (λn v=>by simp only[Zc0,WZ (Xn l.length),Wc]) c
 refine h1.trans ?_;rw[Wf7 (β:=Unit) (f:=λv r=>v.set r.1.toNat r.2) (λv=>Vals 8 v) l 0 c hc (λx hx v hv=>hv.set _ (hr x hx).2) (λj x v k hx hv=>by rw[WtO hv (hr x hx).1];rfl)];rfl
theorem Wfr{c:List Int}{l:List Rw}(hc:Vals 8 c)(hr:WcU l)(hl:l.length<=300)(hN:1048576<N):Zde N c l=ret (ovl c l):=by
 unfold Zde;have hcl:=hc.len;rw[Wcl (by omega) hN,WbG (by omega) hN,Wcy.2 hc,Waz hr hl];simp only[ret,Xd,Xr,Wc];rw[WC (by simp;omega)];simp only[We,show Xf ([]:List Int) c=c from rfl];have h1:=Wy (l:=l) (V:=List Int) (R:=Unit×(List Int×Unit)) (lp:=λn j v=>Zcw N l (λaF au aO=>some ((),(aO,()))) n j v) (n:=N) (by omega)
  (body:=λj x v k=>bif inb x.1 v.length then k (v.set x.1.toNat x.2)else none) (K:=λ_ v=>some ((),(v,())))
  (λn i v hi=>by simp only[Zcw,WU hi,Wp hi,Wv hi,Wn (show i<4611686018427387904 by omega),We])
  (λn v=>by simp only[Zcw,WZ (Xn l.length),Wc]) c
 refine h1.trans ?_;rw[Wf7 (β:=Unit) (f:=λv r=>v.set r.1.toNat r.2) (λv=>Vals 8 v) l 0 c hc (λx hx v hv=>hv.set _ (hr x hx).2) (λj x v k hx hv=>by rw[WtO hv (hr x hx).1];rfl)];rfl
structure FZ(f:Fm):Prop where
 st:WcU f.start/\f.start.length<=300
 l3:f.kids.length<=3
 wr:∀x∈f.kids,WcU x.writes/\x.writes.length<=300
 sn:∀x∈f.kids,x.seen.length<=300/\0<=x.since/\x.since<=300/\∀e∈x.seen,0<=e.1/\e.1<=7
 ord:f.order.length<=300/\∀k∈f.order,0<=k/\k<f.kids.length
theorem FZ.of{mw:List Rw}(h:FT M f)(hF:FOk codes n f)(h3:codes.length<=3)(hcl:∀c∈codes,c.length<=24)(hs:f.start=WbU mw):FZ f:=by
 have hl:=hF.len;have hk:∀x∈f.kids,∃c:List Opn,c.length<=24/\KOk c f.clock n x:=λx hx=>by
  obtain⟨i,hi,rfl⟩:=Xcj.1 hx;refine⟨_,?_,hF.kid i hi⟩;rw[Xae,Xp (by omega)];exact hcl _ (Xo _)
 have hcl:=hF.clock;have ho:=hF.len3 h3;refine⟨by rw[hs];exact⟨Web,by have:=WeF mw;omega⟩,by omega,λx hx=>?_,λx hx=>?_,by omega,λk hk=>?_⟩
 .obtain⟨c,h1,h2⟩:=hk x hx;have:=h2.wl;have:=h2.pc;exact⟨h2.rows,by omega⟩
 .obtain⟨c,h1,h2⟩:=hk x hx;have:=h2.sl;have:=h2.pc;have:=h2.since;exact⟨by omega,by omega,by omega,λe he=>(h2.seen e he).1⟩
 .obtain⟨a,b,_⟩:=h.ord k hk;omega
theorem FZ.rows(h:FZ f)(n:Nat):WcU (WO f n):=by
 unfold WO;intro r hr;rcases Xm.1 hr with hr|hr
 .exact h.st.1 r hr
 .obtain⟨l,hl,hr⟩:=List.mem_flatten.1 hr;obtain⟨k,hk,rfl⟩:=Xt.1 hl;obtain⟨a,b⟩:=h.ord.2 k (Xbq hk);unfold WmV at hr;rw[WvG (k:=k.toNat) (by omega)]at hr;exact(h.wr _ (Xo _)).1 r hr
theorem WhR{i:Nat}(h:i<f.order.length):WO f (i+1)=WO f i++WmV f f.order[i]:=by
 unfold WO;rw[Xbe h,Xz,Xgb,Xbj];simp
theorem WjC{i:Nat}(h:f.order.length<=i):WO f i=WO f f.order.length:=by
 unfold WO;rw[Xbv h,Xdf]
theorem FZ.kid(h:FZ f){i:Nat}(hi:i<f.order.length):∃hk:(f.order[i]).toNat<f.kids.length,WmV f f.order[i]=f.kids[(f.order[i]).toNat].writes/\0<=f.order[i]:=by
 obtain⟨a,b⟩:=h.ord.2 _ (Xo hi);have hk:(f.order[i]).toNat<f.kids.length:=by omega
 refine⟨hk,?_,a⟩;unfold WmV;rw[WvG hk]
theorem Wlu(hk:k<f.kids.length):Xb (f.kids.map Kd.e) k d_KidRun=Kd.e f.kids[k]:=by
 rw[Wt (show k<(f.kids.map Kd.e).length by simpa using hk),Xco]
theorem WlY(hz:FZ f)(hb:Vals 8 base)(t:Nat)(hN:1048576<N):∀(d j fuel:Nat),j+d=min t f.order.length->d<fuel->
  Zbq N (t:Int) f.e (λxE ew dM=>some ((),(dM,()))) fuel (j:Int) (ovl base (WO f j))=ret (ovl base (WO f t))
 |0,j,fuel,hj,hf=>by
  obtain⟨g,rfl⟩:∃g,fuel=g+1:=⟨fuel-1,by omega⟩;have h7:P7 f.e=f.order:=rfl;have he:WO f j=WO f t:=by
   by_cases h:t<=f.order.length
   .rw[show j=t by omega]
   .rw[show j=f.order.length by omega,WjC (show f.order.length<=t by omega)]
  rw[Zbq,h7,he];by_cases h:j<f.order.length
  .rw[WU h,Wq (show¬(j:Int)<(t:Int) by omega)];rfl
  .rw[WZ (show f.order.length<=j by omega)];rfl
 |d+1,j,fuel,hj,hf=>by
  obtain⟨g,rfl⟩:∃g,fuel=g+1:=⟨fuel-1,by omega⟩;have h:j<f.order.length:=by omega
  have h7:P7 f.e=f.order:=rfl;have h9:Q9 f.e=f.kids.map Kd.e:=rfl;obtain⟨hk,hw,h0⟩:=hz.kid h;obtain⟨w1,w2⟩:=hz.wr _ (Xo hk);have ih:=WlY hz hb t hN d (j+1) g (by omega) (by omega);rw[WhR h,Wqb,hw]at ih;rw[Zbq,h7,h9];simp only[Wu,WU h,Wp h,Wv h,Wf (show(j:Int)<(t:Int) by omega),We,Wn (show j<4611686018427387904 by have:=hz.ord.1;omega)];have hkb:(f.order[j]).toNat<f.kids.length:=hk;have hJ:Xb (f.kids.map Kd.e) (Xa f.order[j]) d_KidRun=Kd.e f.kids[(f.order[j]).toNat]:=Wlu hk;have hwe:(Kd.e f.kids[(f.order[j]).toNat]).2.2.2.2.2.2.2.2.1=f.kids[(f.order[j]).toNat].writes:=rfl;rw[Wf (show f.order[j]>=0 from h0),Wf (show f.order[j]<Wi (f.kids.map Kd.e) by unfold Wi;rw[Xu];omega),show inb f.order[j] (f.kids.map Kd.e).length=true by unfold inb;rw[Xu];simp;omega];simp only[We,hJ,hwe];rw[WbG (by omega) hN,Waz w1 w2];simp only[ret,Xd,We];rw[Wfr (Wc0 hb (hz.rows j)) w1 w2 hN];simp only[ret,Xd];exact ih
theorem Wo5(hz:FZ f)(hb:Vals 8 base){t:Nat}(ht:t<=300)(hN:1048576<N):Zka N base f.e (t:Int)=ret (ovl base (WO f t)):=by
 unfold Zka;have h5:f.e.2.2.2.2.2.1=f.start:=rfl;have hbl:=hb.len;rw[h5,Wcl (by omega) hN,WbG (by have:=hz.st.2;omega) hN,Wcy.2 hb,Waz hz.st.1 hz.st.2];simp only[ret,Xd,Xr,Wc];rw[Wfr hb hz.st.1 hz.st.2 hN];simp only[ret,Xd];have:=WlY hz hb t hN (min t f.order.length) 0 N (by omega) (by have:=hz.ord.1;omega);rw[show WO f 0=f.start by unfold WO;simp]at this;exact this
theorem Wl6(hz:FZ f)(hb:Vals 8 base)(t:Nat)(hN:1048576<N):∀(d j fuel:Nat),j+d=f.order.length->d<fuel->
  Zbr N (t:Int) f.order f.e (λt25 iZ cY=>some ((),(cY,()))) fuel (j:Int) (ovl base (WO f (min t j)))=ret (ovl base (WO f t))
 |0,j,fuel,hj,hf=>by
  obtain⟨g,rfl⟩:∃g,fuel=g+1:=⟨fuel-1,by omega⟩;have h7:P7 f.e=f.order:=rfl;have he:WO f (min t j)=WO f t:=by
   by_cases h:t<=f.order.length
   .rw[show min t j=t by omega]
   .rw[show min t j=f.order.length by omega,WjC (show f.order.length<=t by omega)]
  rw[Zbr,h7,he,WZ (show f.order.length<=j by omega)];rfl
 |d+1,j,fuel,hj,hf=>by
  obtain⟨g,rfl⟩:∃g,fuel=g+1:=⟨fuel-1,by omega⟩;have h:j<f.order.length:=by omega
  have h7:P7 f.e=f.order:=rfl;have h9:Q9 f.e=f.kids.map Kd.e:=rfl;obtain⟨hk,hw,h0⟩:=hz.kid h;obtain⟨w1,w2⟩:=hz.wr _ (Xo hk);have ih:=Wl6 hz hb t hN d (j+1) g (by omega) (by omega);rw[Zbr,h7,h9];simp only[Wu,WU h,Wp h,Wv h,We,Wn (show j<4611686018427387904 by have:=hz.ord.1;omega)];by_cases rr:j<t
  .rw[show min t (j+1)=j+1 by omega,WhR h,Wqb,hw]at ih;rw[show min t j=j by omega];have hJ:Xb (f.kids.map Kd.e) (Xa f.order[j]) d_KidRun=Kd.e f.kids[(f.order[j]).toNat]:=Wlu hk;have hwe:(Kd.e f.kids[(f.order[j]).toNat]).2.2.2.2.2.2.2.2.1=f.kids[(f.order[j]).toNat].writes:=rfl;have dh:W1 .i64 (Wi (f.kids.map Kd.e)) 1=(f.kids.length:Int) -1:=by
    have:=hz.l3;rw[Wak (by unfold I64 Wi;rw[Xu];omega)];unfold Wi;rw[Xu]
   rw[Wf (show(j:Int)<(t:Int) by omega),WS,dh,show inb f.order[j] (f.kids.map Kd.e).length=true by unfold inb;rw[Xu];simp;omega,
    show(decide (0<=f.order[j])&&decide (f.order[j]<=(f.kids.length:Int) -1))=true by simp;omega]
   simp only[ret,Xd,We,hJ,hwe];rw[Wap (by omega) hN,Waz w1 w2];simp only[ret,Xd,We];rw[WfD (Wc0 hb (hz.rows j)) w1 w2 hN];simp only[ret,Xd];exact ih
  .rw[show min t (j+1)=t by omega]at ih;rw[show min t j=t by omega,Wq (show¬(j:Int)<(t:Int) by omega)];exact ih
theorem Wi2(hz:FZ f)(hb:Vals 8 base){t:Nat}(ht:t<=300)(hN:1048576<N):Zg8 N base f.e (t:Int)=ret (ovl base (WO f t)):=by
 unfold Zg8;have h5:f.e.2.2.2.2.2.1=f.start:=rfl;have h7:f.e.2.2.2.2.2.2.2.1=f.order:=rfl;have hbl:=hb.len;rw[h5,h7,Wch (by omega) hN,Wap (by have:=hz.st.2;omega) hN,Wcy.2 hb,Waz hz.st.1 hz.st.2];simp only[ret,Xd,Xr,Wc];rw[WfD hb hz.st.1 hz.st.2 hN];simp only[ret,Xd];have:=Wl6 hz hb t hN f.order.length 0 N (by omega) (by have:=hz.ord.1;omega);rw[show min t 0=0 by omega,show WO f 0=f.start by unfold WO;simp]at this;exact this
def WhL(base:List Int)(f:Fm):Prop:=∀x∈f.kids,∀e∈x.seen,(ovl base (WO f x.since.toNat)).getD e.1.toNat 0=e.2.1
theorem Wqu(h:FT M f)(hz:FZ f)(hb:Vals 8 base)(hM:∀c v,0<=c->c<=7->M c v->base.getD c.toNat 0=v):WhL base f:=λx hx e he=>by
 obtain⟨i,hi,rfl⟩:=Xcj.1 hx;obtain⟨h0,h7⟩:=(hz.sn _ hx).2.2.2 e he;rw[WjV hb (hz.rows _) h0 h7];rcases h.sn i hi e he with⟨_,b,c⟩|⟨_,_,_,d⟩
 .rw[b];exact hM _ _ h0 h7 c
 .rw[d]
theorem Wr7{c:Int}(h0:0<=c)(h7:c<=7):Zc6 N c=ret true:=by
 unfold Zc6;rw[Wlq,Wf h0,Wf h7];rfl
theorem Wq6{c:Int}(h0:0<=c)(h7:c<=7):Zay N c=ret true:=by
 unfold Zay;rw[WS,Wf h0,Wf h7];rfl
theorem WlF{R:Type}{K0:Option R}{K1:Int->Bool->Option R}{i:Nat}(hi:i<f.kids.length){A:List Int}(hA:Vals 8 A)(hs:f.kids[i].seen.length<=300)(h7:∀e∈f.kids[i].seen,0<=e.1/\e.1<=7)(ht:∀e∈f.kids[i].seen,A.getD e.1.toNat 0=e.2.1):
  ∀(d j fuel:Nat),j+d=f.kids[i].seen.length->d<fuel->Zcy N base (i:Int) f.e A K0 K1 fuel (j:Int)=K1 (f.kids[i].seen.length:Int) false
 |0,j,fuel,hj,hf=>by
  obtain⟨g,rfl⟩:∃g,fuel=g+1:=⟨fuel-1,by omega⟩;have hj':j=f.kids[i].seen.length:=by omega
  have h9:Q9 f.e=f.kids.map Kd.e:=rfl;have uu:inb (i:Int) (f.kids.map Kd.e).length=true:=Wp (by rw[Xu];exact hi);have p7:P7 (Kd.e f.kids[i])=f.kids[i].seen:=rfl;have hJ:Xb (f.kids.map Kd.e) (Xa (i:Int)) d_KidRun=Kd.e f.kids[i]:=by rw[Xj];exact Wlu hi
  simp only[Zcy,Wu,h9,uu,We,hJ,p7,WZ (show f.kids[i].seen.length<=j by omega),Wc];rw[hj']
 |d+1,j,fuel,hj,hf=>by
  obtain⟨g,rfl⟩:∃g,fuel=g+1:=⟨fuel-1,by omega⟩;have hlt:j<f.kids[i].seen.length:=by omega
  have h9:Q9 f.e=f.kids.map Kd.e:=rfl;have uu:inb (i:Int) (f.kids.map Kd.e).length=true:=Wp (by rw[Xu];exact hi);have p7:P7 (Kd.e f.kids[i])=f.kids[i].seen:=rfl;have hJ:Xb (f.kids.map Kd.e) (Xa (i:Int)) d_KidRun=Kd.e f.kids[i]:=by rw[Xj];exact Wlu hi
  have cG:Xb f.kids[i].seen (Xa (j:Int)) ((0:Int),((0:Int),(0:Int)))=f.kids[i].seen[j]:=Wv hlt _;obtain⟨c0,c7⟩:=h7 _ (Xo hlt);have hv:=ht _ (Xo hlt);have ih:=WlF (K0:=K0) (K1:=K1) hi hA hs h7 ht d (j+1) g (by omega) (by omega);simp only[Zcy,Wu,h9,uu,We,hJ,p7,WU hlt,Wp hlt,cG,Wr7 c0 c7,ret,Xd,Xr,Wc,Wn (show j<4611686018427387904 by omega)];rw[show inb f.kids[i].seen[j].1 A.length=true by unfold inb;rw[hA.len];simp;omega,hv];simp only[We,bne_self_eq_false,Wc];exact ih
theorem WlH(hz:FZ f)(hb:Vals 8 base)(ht:WhL base f)(hN:1048576<N):∀(d j fuel:Nat),j+d=f.kids.length->d<fuel->
  Zcz N base f.e (some ((),(false,()))) (λmg iZ=>some ((),(true,()))) fuel (j:Int)=ret true
 |0,j,fuel,hj,hf=>by
  obtain⟨g,rfl⟩:∃g,fuel=g+1:=⟨fuel-1,by omega⟩;have h9:f.e.2.2.2.2.2.2.2.2.2=f.kids.map Kd.e:=rfl;simp only[Zcz,h9,WZ (show(f.kids.map Kd.e).length<=j by rw[Xu];omega),Wc]
 |d+1,j,fuel,hj,hf=>by
  obtain⟨g,rfl⟩:∃g,fuel=g+1:=⟨fuel-1,by omega⟩;have hlt:j<f.kids.length:=by omega
  have dF:j<(f.kids.map Kd.e).length:=by rw[Xu];omega
  have h9:f.e.2.2.2.2.2.2.2.2.2=f.kids.map Kd.e:=rfl;have hJ:Xb (f.kids.map Kd.e) (Xa (j:Int)) d_KidRun=Kd.e f.kids[j]:=by rw[Xj];exact Wlu hlt
  have ih:=WlH hz hb ht hN d (j+1) g (by omega) (by omega);obtain⟨s1,s2,s3,s4⟩:=hz.sn _ (Xo hlt);have rS:(Kd.e f.kids[j]).2.2.1=((f.kids[j].since.toNat:Nat):Int):=by show f.kids[j].since=_;omega
  have yy:=hz.l3;simp only[Zcz,h9,WU dF,Wp dF,We,hJ,rS,Wo5 hz hb (show f.kids[j].since.toNat<=300 by omega) hN,ret,Xd,Wn (show j<4611686018427387904 by omega)];rw[show(0:Int)=((0:Nat):Int)from rfl,WlF hlt (Wc0 hb (hz.rows _)) s1 s4 (ht _ (Xo hlt)) f.kids[j].seen.length 0 N (by omega) (by omega)];exact ih
theorem Wlg(hz:FZ f)(hb:Vals 8 base)(ht:WhL base f)(hN:1048576<N):Zh6 N base f.e=ret true:=by
 unfold Zh6;have h5:f.e.2.2.2.2.2.1=f.start:=rfl;have hbl:=hb.len;have h3:=hz.l3;rw[h5,Wcl (by omega) hN,WbG (by have:=hz.st.2;omega) hN,Wcy.2 hb,Waz hz.st.1 hz.st.2];simp only[ret,Xd,Xr,Wc];exact WlH hz hb ht hN f.kids.length 0 N (by omega) (by omega)
theorem WmM{R:Type}{K0:Option R}{K1:Int->Bool->Option R}{i:Nat}{L:Int}(hi:i<f.kids.length){A:List Int}(hA:Vals 8 A)(hs:f.kids[i].seen.length<=300)(h7:∀e∈f.kids[i].seen,0<=e.1/\e.1<=7)(ht:∀e∈f.kids[i].seen,A.getD e.1.toNat 0=e.2.1):
  ∀(d j fuel:Nat),j+d=f.kids[i].seen.length->d<fuel->Zc1 N base (f.kids.map Kd.e) L (i:Int) f.kids[i].seen f.e A K0 K1 fuel (j:Int)=K1 (f.kids[i].seen.length:Int) false
 |0,j,fuel,hj,hf=>by
  obtain⟨g,rfl⟩:∃g,fuel=g+1:=⟨fuel-1,by omega⟩;have hj':j=f.kids[i].seen.length:=by omega
  have p7:(Kd.e f.kids[i]).2.2.2.2.2.2.2.1=f.kids[i].seen:=rfl;have hJ:Xb (f.kids.map Kd.e) (Xa (i:Int)) d_KidRun=Kd.e f.kids[i]:=by rw[Xj];exact Wlu hi
  simp only[Zc1,hJ,p7,WZ (show f.kids[i].seen.length<=j by omega),Wc];rw[hj']
 |d+1,j,fuel,hj,hf=>by
  obtain⟨g,rfl⟩:∃g,fuel=g+1:=⟨fuel-1,by omega⟩;have hlt:j<f.kids[i].seen.length:=by omega
  have p7:(Kd.e f.kids[i]).2.2.2.2.2.2.2.1=f.kids[i].seen:=rfl;have hJ:Xb (f.kids.map Kd.e) (Xa (i:Int)) d_KidRun=Kd.e f.kids[i]:=by rw[Xj];exact Wlu hi
  have cG:Xb f.kids[i].seen (Xa (j:Int)) ((0:Int),((0:Int),(0:Int)))=f.kids[i].seen[j]:=Wv hlt _;obtain⟨c0,c7⟩:=h7 _ (Xo hlt);have hv:=ht _ (Xo hlt);have ih:=WmM (K0:=K0) (K1:=K1) (L:=L) hi hA hs h7 ht d (j+1) g (by omega) (by omega);simp only[Zc1,Wu,We,hJ,p7,WU hlt,Wp hlt,cG,Wq6 c0 c7,ret,Xd,Xr,Wc,Wn (show j<4611686018427387904 by omega)];rw[show inb f.kids[i].seen[j].1 A.length=true by unfold inb;rw[hA.len];simp;omega,hv];simp only[We,bne_self_eq_false,Wc];exact ih
theorem Wls(hz:FZ f)(hb:Vals 8 base)(ht:WhL base f)(hN:1048576<N):∀(d j fuel:Nat),j+d=f.kids.length->d<fuel->
  Zc2 N base (f.kids.map Kd.e) f.e (some ((),(false,()))) (λmg iZ=>some ((),(true,()))) fuel (j:Int)=ret true
 |0,j,fuel,hj,hf=>by
  obtain⟨g,rfl⟩:∃g,fuel=g+1:=⟨fuel-1,by omega⟩;have h9:Q9 f.e=f.kids.map Kd.e:=rfl;simp only[Zc2,h9,WZ (show(f.kids.map Kd.e).length<=j by rw[Xu];omega),Wc]
 |d+1,j,fuel,hj,hf=>by
  obtain⟨g,rfl⟩:∃g,fuel=g+1:=⟨fuel-1,by omega⟩;have hlt:j<f.kids.length:=by omega
  have dF:j<(f.kids.map Kd.e).length:=by rw[Xu];omega
  have h9:Q9 f.e=f.kids.map Kd.e:=rfl;have hJ:Xb (f.kids.map Kd.e) (Xa (j:Int)) d_KidRun=Kd.e f.kids[j]:=by rw[Xj];exact Wlu hlt
  have ih:=Wls hz hb ht hN d (j+1) g (by omega) (by omega);obtain⟨s1,s2,s3,s4⟩:=hz.sn _ (Xo hlt);have rS:(Kd.e f.kids[j]).2.2.1=((f.kids[j].since.toNat:Nat):Int):=by show f.kids[j].since=_;omega
  have p7:(Kd.e f.kids[j]).2.2.2.2.2.2.2.1=f.kids[j].seen:=rfl;have yy:=hz.l3;simp only[Zc2,h9,WU dF,Wp dF,We,hJ,rS,p7,Wi2 hz hb (show f.kids[j].since.toNat<=300 by omega) hN,ret,Xd,Wn (show j<4611686018427387904 by omega)];rw[show(0:Int)=((0:Nat):Int)from rfl,WmM hlt (Wc0 hb (hz.rows _)) s1 s4 (ht _ (Xo hlt)) f.kids[j].seen.length 0 N (by omega) (by omega)];exact ih
theorem WmG(hz:FZ f)(hb:Vals 8 base)(ht:WhL base f)(hN:1048576<N):Zh7 N base f.e=ret true:=by
 unfold Zh7;have h9:f.e.2.2.2.2.2.2.2.2.2=f.kids.map Kd.e:=rfl;have h3:=hz.l3;have cW:=Wi2 (t:=0) hz hb (by omega) hN;have uv:Zg8 N base f.e 0=ret (ovl base (WO f 0)):=cW;rw[uv];simp only[ret,Xd];have hv:=(Wc0 hb (hz.rows 0)).len;rw[hv,show Nat.blt 0 8=true from rfl,We,h9];exact Wls hz hb ht hN f.kids.length 0 N (by omega) (by omega)
end
end
section
section
variable{b:Int->Int}{s:Sc}{w v:Wo}{n:Int}{x y:Rt}{k:Nat}{p:Pg}{o:Opn}{m m':Mm}{H H':List Wr}{C C':Nat->Option Cm}{c:Cm}{i rv:Int}{f:Fm}{codes:List (List Opn)}{code:List Opn}
def ZW(b:Int->Int)(m:Mm)(H:List Wr)(rv:Int)(p:Pb):Prop:=
 (0<=p.1/\p.1<=7)/\p.2.2.1<=rv/\(p.2.1=1/\p.2.2.1<=(Ww m p.1).2.1\/p.2.1=2/\p.2.2.1<=(top (b p.1) p.1 H).1/\((top (b p.1) p.1 H).1=p.2.2.1->p.2.2.2=(top (b p.1) p.1 H).2))
theorem ZW.mono{p:Pb}(h:ZW b m H rv p)(hm:Mono b m H m' H'):ZW b m' H' rv p:=by
 obtain⟨h1,h2,h3⟩:=h;refine⟨h1,h2,h3.imp (λ⟨a,c⟩=>⟨a,?_⟩) λ⟨a,c,d⟩=>⟨a,?_⟩⟩
 .have:=hm.ver p.1 h1.1 h1.2;omega
 .rcases hm.top p.1 with t|t
  .exact⟨by omega,λz=>by omega⟩
  .rw[t];exact⟨c,d⟩
theorem Wwi(hM:MI b m H C)(hl:CL2 m C)(cx:m.1<=1000000)(ik:0<=rv/\rv<=m.1):ZS (RC b m H C rv) (ZW b m H rv) (ZW b m H rv) m rv:=λc q h0 h7 hq=>by
 have ec:∀r:Pb,r.1=c->Xb m.2 (Xa r.1) ((0:Int),((0:Int),(0:Int)))=Ww m c:=λr hr=>by rw[hr];rfl
 have hfree:=λhz=>Wod (i:=c) hM hl h0 h7 hz;unfold owner at hfree;have lR:q.1=c:=by
  rcases hq with rfl|⟨_,h⟩
  .rfl
  .exact h
 unfold WV;simp only[ec q lR,WE,Wal];rcases hq with rfl|⟨⟨qK,uw,q8⟩,_⟩
 .rw[Wb rfl];split
  .split
   .exact .inr (.inr ⟨by show(1:Int)≠3;omega,⟨⟨h0,h7⟩,‹_›,.inl ⟨rfl,Xs _⟩⟩,rfl⟩)
   .exact .inl rfl
  .exact .inl rfl
 .rw[lR]at q8;rcases q8 with⟨h1,h1b⟩|⟨h2,h2b,yz⟩
  .rw[Wa (by omega),Wb h1];refine .inr (.inr ⟨by show(2:Int)≠3;omega,⟨qK,uw,.inr ⟨rfl,?_⟩⟩,lR⟩);show q.2.2.1<=(top (b q.1) q.1 H).1/\((top (b q.1) q.1 H).1=q.2.2.1->(Ww m c).1=(top (b q.1) q.1 H).2);rw[lR];by_cases aS:∀k d,C k=some d->d.phase=4\/d.phase=5->¬lkd d c
   .obtain⟨a1,a2⟩:=hM.cell c h0 h7 aS;exact⟨by omega,λ_=>a1⟩
   .have:∃k d,C k=some d/\(d.phase=4\/d.phase=5)/\lkd d c:=by
     apply Classical.byContradiction;intro cF;exact aS λk d hc hp fb=>cF ⟨k,d,hc,hp,fb⟩
    obtain⟨k,d,hc,hp,j,hj,ej,kG⟩:=this;obtain⟨s1,s2,_⟩:=hM.sto k d hc hp j hj kG;rw[ej]at s1 s2;rw[s1];exact⟨by simp only;omega,λz=>by simp only at z;omega⟩
  .rw[Wa (by omega),Wa (by omega),Wb h2];split
   .rename_i hown;split
    .rename_i ux;right;left;obtain⟨a1,a2,a3⟩:=hfree hown;refine⟨rfl,⟨?_,by omega,λk d hc h3 _=>a3 k d hc h3⟩⟩;show q.2.2.2=_;have hle:(bst (b c) c 2000000 H).1<=rv:=by
      have:(top (b c) c H).1=q.2.2.1:=by omega
      unfold top at this;omega
     rw[Wkr (v':=2000000) (by omega) H hle];exact yz (by omega)
    .exact .inl rfl
   .exact .inl rfl
theorem WuY{z v v':Int}(hM:MI b m H C)(hl:CL2 m C)(cx:m.1<=1000000)(h0:0<=i)(h7:i<=7)(hown:owner m i=0)(ux:(Ww m i).2.1<=v)(hR:RC b m H C v i z)(hv:v<=v')(hc:v'<=m.1):RC b m H C v' i z:=by
 obtain⟨e1,e2,e3⟩:=Wod hM hl h0 h7 hown;have hle:(bst (b i) i 2000000 H).1<=v:=by unfold top at e2;omega
 refine⟨?_,hc,λj d hd hp _=>e3 j d hd hp⟩;rw[hR.val,Wkr (v':=2000000) (by have:=hR.clk;omega) H hle,Wkr (v:=v') (v':=2000000) (by omega) H (by omega)]
theorem PK.wk{Z Z':Pb->Prop}{q:Kd}(h:PK Z code f q)(hz:∀p,Z p->Z' p):PK Z' code f q:=λe=>by
 obtain⟨a,b,c,d,r⟩:=h e;exact⟨a,b,c,hz _ d,r⟩
structure FB(M:Int->Int->Prop)(Z:Pb->Prop)(codes:List (List Opn))(f:Fm):Prop where
 fp:FP M Z codes f
 rd:∀r∈f.reads,M r.1 r.2
theorem FP.wk{M M':Int->Int->Prop}{Z Z':Pb->Prop}(h:FP M Z codes f)(hM:∀c v,M c v->M' c v)(hz:∀p,Z p->Z' p):FP M' Z' codes f:=
 ⟨h.ft.wk hM,λhl k hk=>(h.pk hl k hk).wk hz⟩
theorem FB.wk{M M':Int->Int->Prop}{Z Z':Pb->Prop}(h:FB M Z codes f)(hM:∀c v,M c v->M' c v)(hz:∀p,Z p->Z' p):FB M' Z' codes f:=⟨h.fp.wk hM hz,λr hr=>hM _ _ (h.rd r hr)⟩
theorem Wm4{q:Kd}:(Wbi m f q k code).1.reads=f.reads\/(Wbi m f q k code).1.reads=f.reads++WaV q.seen:=by
 unfold Wbi;split
 .unfold Wl2;split
  .exact .inl rfl
  .simp only;split
   .unfold WbA;cases Wa1 q.writes (opN code q.pc).2.2.1 with
    |some v=>exact .inl rfl
    |none=>
     cases ent f.buf (opN code q.pc).2.2.1 with
     |some r=>simp only;split<;>exact .inl rfl
     |none=>
      simp only;generalize WV m f.rv _=pb;split
      .exact .inl rfl
      .split<;>exact .inl rfl
   .repeat' split
    all_goals exact .inl rfl
 .split
  .split<;>exact .inl rfl
  .split
   .split
    .exact .inr rfl
    .simp only;split<;>exact .inl rfl
   .exact .inl rfl
theorem Wte{M:Int->Int->Prop}{Z:Pb->Prop}(h:FB M Z codes f)(hF:FOk codes n f)(hk:k<f.kids.length)(hm:W2 m=true)(bE:KC code)(aA:codes.getD k []=code)(hz:ZS M Z Z m f.rv):FB M Z codes (WaM m f k code)/\(WaM m f k code).rv=f.rv/\(WaM m f k code).regs=f.regs/\(WaM m f k code).start=f.start:=by
 obtain⟨a,r⟩:=Wsg h.fp hF hk hm bE aA hz;refine⟨⟨a,?_⟩,r⟩;unfold WaM;split
 .exact h.rd
 .rw[WvG hk];intro e he;have d6:e∈(Wbi m f f.kids[k] k code).1.reads:=he;rcases Wm4 (m:=m) (f:=f) (q:=f.kids[k]) (k:=k) (code:=code)with q|q
  .rw[q]at d6;exact h.rd e d6
  .rw[q]at d6;rcases Xm.1 d6 with d6|d6
   .exact h.rd e d6
   .unfold WaV at d6;obtain⟨z,qK,rfl⟩:=Xt.1 d6;obtain⟨uw,q8⟩:=List.mem_filter.1 qK;have q8:z.2.2= -1:=by simpa using q8
    rcases h.fp.ft.sn k hk z uw with⟨_,_,t⟩|⟨t,_⟩
    .exact t
    .omega
structure RO(b:Int->Int)(m:Mm)(H:List Wr)(C:Nat->Option Cm)(p:Pg)(x:Rt):Prop where
 rv:0<=x.rv/\x.rv<=m.1
 rows:x.phase=0\/5<=x.phase->WcU x.reads/\x.reads.length<=300
 rd:∀r∈x.reads,RC b m H C x.rv r.1 r.2
 pb:x.busy=true->x.phase=1/\x.pc<p.1.length/\(opN p.1 x.pc).1=5/\ZW b m H x.rv x.pb/\x.pb.1=(opN p.1 x.pc).2.2.1/\Wa1 x.writes (opN p.1 x.pc).2.2.1=none
 ext:x.phase=4->x.rv<=x.newRv/\x.newRv<=m.1/\∀(i:Nat) (h:i<x.reads.length),(i:Int)<x.pos->RC b m H C x.newRv x.reads[i].1 x.reads[i].2
 fam:x.phase=2->x.fam.rv=x.rv/\(∃rows,x.fam.start=WbU rows)/\FB (RC b m H C x.rv) (ZW b m H x.rv) p.2 x.fam
 fam0:x.phase≠2->x.fam={}
theorem RO.keep(h:RO b m H C p x)(hK:∀v i z,RC b m H C v i z->RC b m' H' C' v i z)(hm:Mono b m H m' H')(h1:m.1<=m'.1):RO b m' H' C' p x:=
 ⟨⟨h.rv.1,by have:=h.rv.2;omega⟩,h.rows,λr hr=>hK _ _ _ (h.rd r hr),λhb=>by
  obtain⟨a,c,d,e,g⟩:=h.pb hb;exact⟨a,c,d,e.mono hm,g⟩,λh4=>by
  obtain⟨a,c,d⟩:=h.ext h4;exact⟨a,by omega,λi hi hp=>hK _ _ _ (d i hi hp)⟩,λh2=>by
  obtain⟨a,c,d⟩:=h.fam h2;exact⟨a,c,d.wk (λ_ _=>hK _ _ _) λ_ hz=>hz.mono hm⟩,h.fam0⟩
theorem RO.mk1(h:RO b m H C p x)(ik:y.rv=x.rv)(gt:y.reads=x.reads)(hb:y.busy=false)(hp:y.phase≠2)(mx:y.phase≠4)(hf:y.fam={})(hrow:y.phase=0\/5<=y.phase->WcU x.reads/\x.reads.length<=300):RO b m H C p y:=
 ⟨by rw[ik];exact h.rv,λz=>by rw[gt];exact hrow z,λr hr=>by rw[ik];exact h.rd r (by rw[←gt];exact hr),λz=>(by rw[hb]at z;cases z),λz=>Wl z mx,λz=>Wl z hp,λ_=>hf⟩
theorem RO.nil(h0:0<=m.1)(ik:0<=y.rv/\y.rv<=m.1)(gt:y.reads= [])(hb:y.busy=false)(hp:y.phase≠2)(mx:y.phase≠4)(hf:y.fam={}):RO b m H C p y:=
 ⟨ik,λ_=>by rw[gt];exact⟨(λr hr=>by cases hr),by simp⟩,λr hr=>(by rw[gt]at hr;cases hr),λz=>(by rw[hb]at z;cases z),λz=>Wl z mx,λz=>Wl z hp,λ_=>hf⟩
theorem Wgo(h0:0<=m.1):RO b m H C p (Wdc x):=RO.nil h0 ⟨Xs _,h0⟩ rfl rfl (by show(6:Int)≠2;omega) (by show(6:Int)≠4;omega) rfl
theorem WmR(hl:RLive p n x)(hc:CC p.1):WcU x.reads/\x.reads.length<=300:=by
 have h1:=hl.rl;have h2:=hl.pc;have h3:=Wnq hc x.pc.toNat (by omega);have h4:=hc.len;exact⟨hl.reads,by omega⟩
theorem WhD(h:RO b m H C p x)(h1:x.phase=1)(h0:0<=m.1){y:Rt}(hy:y.rv=x.rv/\y.reads=x.reads/\y.fam=x.fam):RO b m H C p (W4 y):=by
 unfold W4;split
 .exact Wgo h0
 .exact h.mk1 hy.1 hy.2.1 rfl (by show(3:Int)≠2;omega) (by show(3:Int)≠4;omega) (hy.2.2.trans (h.fam0 (by omega))) (λz=>by(change (3:Int)=0\/5<=(3:Int)at z;omega))
theorem WoU{out:Int}(h:RO b m H C p x)(h1:x.phase=1)(hb:x.busy=false)(hr:WcU x.reads/\x.reads.length<=300):RO b m H C p (WbV w x k out).2:=by
 have hf:=h.fam0 (by omega);unfold WbV Wlb;simp only;generalize (if out=2 then []else x.writes)=rows;split
 .exact h.mk1 rfl rfl hb (by show(8:Int)≠2;omega) (by show(8:Int)≠4;omega) hf λ_=>hr
 .exact h.mk1 rfl rfl hb (by show(5:Int)≠2;omega) (by show(5:Int)≠4;omega) hf λ_=>hr
end
end
section
section
variable{b:Int->Int}{s:Sc}{w v:Wo}{n:Int}{x y:Rt}{k:Nat}{p:Pg}{o:Opn}{m m':Mm}{H H':List Wr}{C C':Nat->Option Cm}{c:Cm}{i rv:Int}{f:Fm}{codes:List (List Opn)}{code:List Opn}
theorem WtS(h:RO b w.mem w.hist C p x)(h':RO b w.mem w.hist C' p x)(hM:MI b w.mem w.hist C)(hl:CL2 w.mem C)(cx:w.mem.1<=1000000)(h0:0<=w.mem.1)(h1:x.phase=1)(bf:x.pc<p.1.length)(h5:(opN p.1 x.pc).1=5)(ho:0<=(opN p.1 x.pc).2.2.1/\(opN p.1 x.pc).2.2.1<=7)
  (hK:∀v i z,RC b w.mem w.hist C v i z->RC b w.mem w.hist C' v i z):RO b w.mem w.hist C' p (Wd9 w x (opN p.1 x.pc)):=by
 have n1:¬(x.phase=0\/5<=x.phase):=by omega
 unfold Wd9;cases kE:Wa1 x.writes (opN p.1 x.pc).2.2.1 with
 |some val=>
  have hb:x.busy=false:=by
   by_cases hb:x.busy=true
   .have:=(h.pb hb).2.2.2.2.2;rw[kE]at this;cases this
   .simpa using hb
  exact h'.mk1 rfl rfl hb (by show x.phase≠2;omega) (by show x.phase≠4;omega) (h.fam0 (by omega)) (λz=>Wl z n1)
 |none=>
  simp only;have hz:=Wwi (rv:=x.rv) hM hl cx h.rv (opN p.1 x.pc).2.2.1 (if x.busy=true then x.pb else((opN p.1 x.pc).2.2.1,0,0,0)) ho.1 ho.2 (by
   by_cases hb:x.busy=true
   .rw[Wb hb];obtain⟨_,_,_,a,c,_⟩:=h.pb hb;exact .inr ⟨a,c⟩
   .rw[Wa hb];exact .inl rfl)
  generalize WV w.mem x.rv _=q at*;by_cases h4:q.2.1=4
  .rw[Wb h4];exact WhD h' h1 h0 ⟨rfl,rfl,rfl⟩
  .rw[Wa h4];by_cases h3:q.2.1=3
   .rw[Wb h3];have hr:RC b w.mem w.hist C x.rv (opN p.1 x.pc).2.2.1 q.2.2.2:=by
     rcases hz with z|⟨_,z⟩|⟨z,_⟩
     .exact Wl z h4
     .exact z
     .exact Wl h3 z
    refine⟨h'.rv,λz=>Wl z n1,λr bi=>?_,λz=>(by cases z),λz=>?_,λz=>?_,λ_=>h.fam0 (by omega)⟩
    .rcases Xm.1 bi with bi|bi
     .exact h'.rd r bi
     .rw[Xaa.1 bi];exact hK _ _ _ hr
    ·(change x.phase=4 at z;omega)
    ·(change x.phase=2 at z;omega)
   .rw[Wa h3];refine⟨h'.rv,λz=>Wl z n1,h'.rd,λ_=>?_,λz=>?_,λz=>?_,λ_=>h.fam0 (by omega)⟩
    .rcases hz with z|⟨z,_⟩|⟨_,z,e⟩
     .exact Wl z h4
     .exact Wl z h3
     .exact⟨h1,bf,h5,z,e,kE⟩
    ·(change x.phase=4 at z;omega)
    ·(change x.phase=2 at z;omega)
theorem Wrc(h:RO b m H C p x)(h2:x.phase≠2)(h4:x.phase≠4)(hb:x.busy=false)(hr:x.phase=0\/5<=x.phase->WcU x.reads/\x.reads.length<=300):RO b m H C p (Weg w x).2:=
 h.mk1 rfl rfl hb h2 h4 (h.fam0 h2) hr
theorem Wu5(hp:POk p)(h:RO b w.mem w.hist C p x)(h':RO b w.mem w.hist C' p x)(hM:MI b w.mem w.hist C)(hl:CL2 w.mem C)(cx:w.mem.1<=1000000)(h0:0<=w.mem.1)(h1:x.phase=1)(hx:ROk p n x)
  (hK:∀v i z,RC b w.mem w.hist C v i z->RC b w.mem w.hist C' v i z):RO b w.mem w.hist C' p (Wla w x k p).2:=by
 have aI:=hx.live (by omega);have n1:¬(x.phase=0\/5<=x.phase):=by omega
 have rR:=WmR aI hp.code;have uK:=h.fam0 (by omega);unfold Wla;by_cases bf:x.pc>=p.1.length
 .rw[Wb bf];have hb:x.busy=false:=by
   by_cases hb:x.busy=true
   .have:=(h.pb hb).2.1;omega
   .simpa using hb
  exact WoU h' h1 hb rR
 .rw[Wa bf];simp only;obtain⟨i,hi,e1,e2⟩:=We9 (l:=p.1) aI.pc.1 (by omega);by_cases h5:(opN p.1 x.pc).1=5
  .rw[Wb h5];have ar:0<=(opN p.1 x.pc).2.2.1/\(opN p.1 x.pc).2.2.1<=7:=by
    have:=(Wto (hp.code.ok i hi).1 (by rw[←e2];exact h5)).2;rw[←e2]at this;unfold Wai at this;simp at this;exact this
   exact WtS h h' hM hl cx h0 h1 (by omega) h5 ar hK
  rw[Wa h5];have hb:x.busy=false:=by
   by_cases hb:x.busy=true
   .exact Wl (h.pb hb).2.2.1 h5
   .simpa using hb
  have st:∀y:Rt,y.rv=x.rv->y.reads=x.reads->y.busy=x.busy->y.phase=x.phase->y.fam=x.fam->RO b w.mem w.hist C' p y:=λy y1 y2 y3 y4 y5=>
   h'.mk1 y1 y2 (y3.trans hb) (by omega) (by omega) (y5.trans uK) (λz=>by omega)
  by_cases cC:(opN p.1 x.pc).1=10
  .rw[Wb cC];unfold Wdr;split
   .exact WoU h' h1 hb rR
   .split
    .exact st _ rfl rfl rfl rfl rfl
    .exact st _ rfl rfl rfl rfl rfl
  rw[Wa cC];by_cases fw:(opN p.1 x.pc).1=11
  .rw[Wb fw];refine⟨h'.rv,λz=>(by(change (2:Int)=0\/5<=(2:Int)at z);omega),h'.rd,λz=>(by(change x.busy=true at z);rw[hb]at z;cases z),λz=>(by(change (2:Int)=4 at z);omega),λ_=>⟨rfl,⟨x.writes,rfl⟩,⟨WqE,λr hr=>by cases hr⟩⟩,λz=>Wl rfl z⟩
  rw[Wa fw];by_cases eF:(opN p.1 x.pc).1>=12
  .rw[Wb eF];unfold Wc5;split
   .exact WhD h' h1 h0 ⟨rfl,rfl,rfl⟩
   .exact st _ rfl rfl rfl rfl rfl
  rw[Wa eF]
  repeat' split
  all_goals exact st _ rfl rfl rfl rfl rfl
theorem WuU(h:RO b m H C p x)(h2:x.phase=2)(h0:0<=m.1):RO b m H C p (Wek x):=by
 unfold Wek;split
 .exact Wgo h0
 .split
  .obtain⟨a,_,c⟩:=h.fam h2;refine⟨h.rv,λz=>(by(change (1:Int)=0\/5<=(1:Int)at z);omega),λr hr=>?_,λz=>?_,λz=>(by(change (1:Int)=4 at z);omega),λz=>(by(change (1:Int)=2 at z);omega),λ_=>rfl⟩
   .rcases Xm.1 hr with hr|hr
    .exact h.rd r hr
    .exact c.rd r hr
   .have:=(h.pb z).1;omega
  .exact h
theorem WrB(hp:POk p)(h:RO b w.mem w.hist C p x)(h':RO b w.mem w.hist C' p x)(hM:MI b w.mem w.hist C)(hl:CL2 w.mem C)(cx:w.mem.1<=1000000)(h0:0<=w.mem.1)(h4:x.phase=4)(hx:ROk p n x)
  (hK:∀v i z,RC b w.mem w.hist C v i z->RC b w.mem w.hist C' v i z):RO b w.mem w.hist C' p (Wba w x):=by
 have aI:=hx.live (by omega);have n1:¬(x.phase=0\/5<=x.phase):=by omega
 have hpos:=aI.pos h4;have hb:x.busy=false:=by
  by_cases hb:x.busy=true
  .have:=(h.pb hb).1;omega
  .simpa using hb
 obtain⟨e1,e2,e3⟩:=h.ext h4;have nW:x.last.2.1<=x.reads.length:=by
  have hne:=aI.back (.inr h4);have:x.last∈x.marks:=by
   unfold Rt.last WgI;rw[Xae,Xp (by omega)];exact Xo _
  exact(aI.marks.each _ this).2.1.2.2
 unfold Wba;split
 .rename_i hlt;simp only;have hi:x.pos.toNat<x.reads.length:=by omega
  have hg:Wcp x.reads x.pos (0,0)=x.reads[x.pos.toNat]:=by unfold Wcp;exact Wt hi _
  have hrow:=aI.reads _ (Xo hi);split
  .exact Wgo h0
  .rename_i hc;rw[hg]at hc;have kp:owner w.mem x.reads[x.pos.toNat].1=0:=by
    unfold owner;exact Classical.byContradiction λz=>hc (.inl z)
   have dZ:(Ww w.mem x.reads[x.pos.toNat].1).2.1<=x.rv:=by
    rcases Int.lt_or_le x.rv (Ww w.mem x.reads[x.pos.toNat].1).2.1 with z|z
    .exact Wl (Or.inr z) hc
    .exact z
   refine⟨h'.rv,λz=>Wl z n1,h'.rd,λz=>?_,λ_=>⟨e1,(h'.ext h4).2.1,λi dB kW=>?_⟩,λz=>?_,λ_=>h.fam0 (by omega)⟩
   ·(change x.busy=true at z;rw[hb]at z;cases z)
   .by_cases he:(i:Int)<x.pos
    .exact hK _ _ _ (e3 i dB he)
    .have yA:(i:Int)<x.pos+1:=kW;have:i=x.pos.toNat:=by omega
     subst this;exact hK _ _ _ (WuY hM hl cx hrow.1.1 hrow.1.2 kp dZ (h.rd _ (Xo hi)) e1 e2)
   ·(change x.phase=2 at z;omega)
 .rename_i eQ;refine⟨⟨by have:=h.rv;show 0<=x.newRv;omega,(h'.ext h4).2.1⟩,λz=>(by(change (1:Int)=0\/5<=(1:Int)at z);omega),λr hr=>?_,λz=>?_,λz=>(by(change (1:Int)=4 at z);omega),λz=>(by(change (1:Int)=2 at z);omega),λ_=>h.fam0 (by omega)⟩
  .obtain⟨i,hi,rfl⟩:=Xcj.1 hr;rw[Xaw]at hi;have mU:i<x.reads.length:=by omega
   have:(x.reads.take x.last.2.1.toNat)[i]'(by rw[Xaw];exact hi)=x.reads[i]:=Xgl ..;show RC b w.mem w.hist C' x.newRv (x.reads.take x.last.2.1.toNat)[i].1 (x.reads.take x.last.2.1.toNat)[i].2;rw[this];exact hK _ _ _ (e3 i mU (by omega))
  ·(change x.busy=true at z;rw[hb]at z;cases z)
theorem WuE(h:RO b m H C p x)(h5:x.phase=5)(h0:0<=m.1)(hb:x.busy=false){c:Cm}:RO b m H C p (Wbq {x with cm:=c}):=by
 have hf:=h.fam0 (by omega);have hr:=h.rows (.inr (by omega));unfold Wbq;split
 .exact Wgo h0
 .split
  .exact h.mk1 rfl rfl hb (by show(if x.fate=2 then(6:Int)else 7)≠2;split<;>omega) (by show(if x.fate=2 then(6:Int)else 7)≠4;split<;>omega) hf λ_=>hr
  .exact h.mk1 rfl rfl hb (by show x.phase≠2;omega) (by show x.phase≠4;omega) hf λ_=>hr
theorem Wuj(hp:POk p)(h:RO b w.mem w.hist C p x)(hM:MI b w.mem w.hist C)(hl:CL2 w.mem C)(hm:W2 w.mem=true)(cx:w.mem.1<1000000)(hx:ROk p n x)
  (hK:∀v i z,RC b w.mem w.hist C v i z->RC b (Wam w x k p).1.mem (Wam w x k p).1.hist C' v i z) (oe:Mono b w.mem w.hist (Wam w x k p).1.mem (Wam w x k p).1.hist) (h1:w.mem.1<=(Wam w x k p).1.mem.1):
  RO b (Wam w x k p).1.mem (Wam w x k p).1.hist C' p (Wam w x k p).2:=by
 have h0:=(WP hm).2.1;have h':=h.keep hK oe h1;have ww:0<=(Wam w x k p).1.mem.1:=by omega
 have nb:x.phase≠1->x.busy=false:=λhn=>by
  by_cases hb:x.busy=true
  .exact Wl (h.pb hb).1 hn
  .simpa using hb
 by_cases h5:x.phase=5
 .by_cases hd:x.doomed=false
  .obtain⟨e1,e2,e3⟩:=Whx (w:=w) (x:=x) (k:=k) (p:=p) h5 hd;rw[e3];exact WuE h' h5 ww (nb (by omega))
  .have cL:x.doomed=true:=by simpa using hd
   have e:Wam w x k p=(w,if(W7 x.cm).phase=8 then Wdc x else{x with cm:=W7 x.cm,doomed:=false}):=by
    unfold Wam;rw[Wa (by omega),Wa (by omega),Wa (by omega),Wa (by omega),Wa (by omega),Wa (by omega),Wb h5];unfold WaG;rw[Wb cL]
   have e2:(Wam w x k p).2=if(W7 x.cm).phase=8 then Wdc x else{x with cm:=W7 x.cm,doomed:=false}:=by rw[e]
   rw[e2];split
   .exact Wgo ww
   .exact h'.mk1 rfl rfl (nb (by omega)) (by show x.phase≠2;omega) (by show x.phase≠4;omega) (h.fam0 (by omega)) λ_=>h.rows (.inr (by omega))
 .obtain⟨r1,r2,_⟩:=Whz (w:=w) (k:=k) (p:=p) h5;rw[r1,r2]at hK h'⊢;unfold Wam;by_cases hd:x.doomed=true/\1<=x.phase/\x.phase<=4
  .rw[Wb hd];exact Wgo h0
  rw[Wa hd];by_cases iv:x.phase=0
  .rw[Wb iv];unfold Wen;split
   .exact h'
   .split
    .exact h'
    .split
     .exact h'
     .exact RO.nil h0 ⟨h0,Xs _⟩ rfl rfl (by show(1:Int)≠2;omega) (by show(1:Int)≠4;omega) rfl
  rw[Wa iv];by_cases nZ:x.phase=1
  .rw[Wb nZ];exact Wu5 hp h h' hM hl (by omega) h0 nZ hx hK
  rw[Wa nZ];have hb:=nb nZ;by_cases dA:x.phase=2
  .rw[Wb dA];exact WuU h' dA h0
  rw[Wa dA];have hf:=h.fam0 dA;by_cases hp3:x.phase=3
  .rw[Wb hp3];unfold WbL;split
   .exact Wrc h' dA (by omega) hb (λz=>by omega)
   .exact⟨h'.rv,λz=>(by(change (4:Int)=0\/5<=(4:Int)at z);omega),h'.rd,λz=>(by(change x.busy=true at z);rw[hb]at z;cases z),λ_=>⟨h.rv.2,Xs _,λi hi kW=>(by(change (i:Int)<0 at kW);omega)⟩,λz=>(by(change (4:Int)=2 at z);omega),λ_=>hf⟩
  rw[Wa hp3];by_cases mx:x.phase=4
  .rw[Wb mx];exact WrB hp h h' hM hl (by omega) h0 mx hx hK
  rw[Wa mx,Wa h5];have cd:=hx.phase;have hr:=h.rows (.inr (by omega));by_cases hp6:x.phase=6
  .rw[Wb hp6];split
   .exact Wrc h' dA mx hb λ_=>hr
   .exact h'.mk1 rfl rfl hb (by show(7:Int)≠2;omega) (by show(7:Int)≠4;omega) hf λ_=>hr
  rw[Wa hp6];by_cases hp7:x.phase=7
  .rw[Wb hp7];split
   .exact RO.nil h0 ⟨Xs _,h0⟩ rfl rfl (by show(0:Int)≠2;omega) (by show(0:Int)≠4;omega) rfl
   .exact h'.mk1 rfl rfl hb (by show(8:Int)≠2;omega) (by show(8:Int)≠4;omega) hf λ_=>hr
  .rw[Wa hp7];exact h'
end
end
section
section
variable{b:Int->Int}{s:Sc}{w v:Wo}{n:Int}{x y:Rt}{k:Nat}{p:Pg}{o:Opn}{m m':Mm}{H H':List Wr}{C C':Nat->Option Cm}{c:Cm}{a:Ac}
theorem Wvi(hM:MI b m H C)(aY:CmOk c)(hm:W2 m=true)(cx:m.1<1000000)(hC:C k=some c)(h3:c.phase<=3)(h4:(Wz m c).2.phase=4):(Wz m c).2.puts=c.puts/\∀h∈H,h.1≠(Wz m c).2.wv:=by
 have cd:=aY.phase;revert h4;unfold Wz;simp only;by_cases h1:c.phase=1
 .rw[Wb h1];split
  .intro h4;have:(WB c 2).phase=1\/(WB c 2).phase=2:=by
    unfold WB;split
    .right;show Wbk c 2=2;unfold Wbk;rw[Wa (by omega),Wa (by omega)]
    .left;exact h1
   simp only at h4;omega
  .intro h4;simp only at h4;have:=Wdd c c.pos;omega
 rw[Wa h1];by_cases h2:c.phase=2
 .have et:tick m=((m.1+1,m.2),m.1+1):=by unfold tick;rw[Wb cx]
  have h0:=(WP hm).2.1;rw[Wb h2,et];simp only;rw[Wa (by omega)];intro _;refine⟨rfl,λh hh=>?_⟩;have:=hM.st h hh;show h.1≠m.1+1;omega
 rw[Wa h2,Wb (by omega)];split
 .intro h4;simp only at h4;have:=Wdd c c.puts.length;omega
 .intro _;obtain⟨e1,_,e3⟩:=WaR c 4;refine⟨e1,λh hh=>?_⟩;show h.1≠(WB c 4).wv;rw[e3];exact(hM.fr k c hC (by omega)).2.2 h hh
theorem Wr1:∀(n:Nat) (l:List Int),l.Nodup->(∀x∈l,1<=x/\x<=n)->l.length<=n
 |0,l,_,h=>by
  cases l with
  |nil=>simp
  |cons a l=>have:=h a (Xh ..);omega
 |n+1,l,hn,h=>by
  by_cases hm:((n+1:Nat):Int)∈l
  .have:=Wr1 n (l.erase ((n+1:Nat):Int)) (hn.erase _) λx hx=>by
    obtain⟨h1,h2⟩:=(List.Nodup.mem_erase_iff hn).1 hx;have:=h x h2;omega
   rw[List.length_erase_of_mem hm]at this;omega
  .have:=Wr1 n l hn λx hx=>by
    have:=h x hx;have hne:x≠((n+1:Nat):Int):=λe=>hm (e▸hx);omega
   omega
structure HW(l:List Rt)(H:List Wr):Prop where
 who:∀h∈H,∃k:Nat,∃hk:k<l.length,h.2.1=(k:Int)+1/\stl l[k]=true
 nod:(H.map (·.2.1)).Nodup
 dist:H.Pairwise λa b=>a.1≠b.1
 up:∀h∈H,h.2.2.Pairwise λa b=>a.1<b.1
theorem HW.stay{l l':List Rt}(h:HW l H)(hl:l.length=l'.length)(hs:∀(i:Nat) (h:i<l.length) (h':i<l'.length),stl l[i]=true->stl l'[i]=true):HW l' H:=
 ⟨λe he=>by
  obtain⟨k,hk,e1,e2⟩:=h.who e he;exact⟨k,by omega,e1,hs k hk (by omega) e2⟩,h.nod,h.dist,h.up⟩
theorem HW.len{l:List Rt}(h:HW l H)(hl:l.length<=4):H.length<=4:=by
 have h1:=Wr1 4 (H.map (·.2.1)) h.nod λz hz=>by
  obtain⟨e,he,rfl⟩:=Xt.1 hz;obtain⟨k,hk,e1,_⟩:=h.who e he;omega
 simpa using h1
theorem HW.app{l l':List Rt}(h:HW l H)(hk:k<l.length)(hl:l'.length=l.length)(hs:∀(i:Nat) (h:i<l.length) (h':i<l'.length),stl l[i]=true->stl l'[i]=true){e:Wr}(he:e.2.1=(k:Int)+1)(h0:stl l[k]=false)(h1:stl (l'[k]'(by omega))=true)(hd:∀z∈H,z.1≠e.1)(hu:e.2.2.Pairwise λa b=>a.1<b.1):HW l' (H++ [e]):=by
 refine⟨λz hz=>?_,?_,?_,λz hz=>?_⟩
 .rcases Xm.1 hz with hz|hz
  .obtain⟨j,hj,e1,e2⟩:=h.who z hz;exact⟨j,by omega,e1,hs j hj (by omega) e2⟩
  .rw[Xaa.1 hz];exact⟨k,by omega,he,h1⟩
 .rw[Xz,Xag];refine⟨h.nod,by simp,λz hz u uy=>?_⟩;obtain⟨z',yB,rfl⟩:=Xt.1 hz;simp only[List.map_cons,List.map_nil,Xaa]at uy;obtain⟨j,hj,e1,e2⟩:=h.who z' yB;intro q;have:j=k:=by omega
  subst this;rw[h0]at e2;cases e2
 .rw[List.pairwise_append];refine⟨h.dist,List.pairwise_singleton ..,λz hz u uy=>?_⟩;rw[Xaa.1 uy];exact hd z hz
 .rcases Xm.1 hz with hz|hz
  .exact h.up z hz
  .rw[Xaa.1 hz];exact hu
theorem WuR(aY:WOk s.2.1 n w)(yC:WX w)(yD:WT w)(pF:MI b w.mem w.hist (Wdv w.roots))(wy:HW w.roots w.hist)(hn:n<=99999):HW (Wgy s w a).roots (Wgy s w a).hist:=by
 have it:=Wmd (a:=a) aY yC;have hlen:=it.2.len;have aS:∀(i:Nat) (h:i<w.roots.length) (h':i<(Wgy s w a).roots.length),stl w.roots[i]=true->stl (Wgy s w a).roots[i]=true:=λi h1 h2 hs=>((it.2.root i h1 h2).st hs).1;have cx:w.mem.1<1000000:=by have:=yD.clk;have:=aY.now;omega
 have jR:(Wgy s w a).hist=w.hist\/∃k:Nat,∃hk:k<w.roots.length,(w.roots[k].phase=5/\w.roots[k].doomed=false/\w.roots[k].cm.phase<=3/\(Wz w.mem w.roots[k].cm).2.phase=4)/\(Wgy s w a).hist=w.hist++ [((Wz w.mem w.roots[k].cm).2.wv,(k:Int)+1,(Wz w.mem w.roots[k].cm).2.puts)]/\(Wgy s w a).roots[k]?=some (Wbq {w.roots[k]with cm:=(Wz w.mem w.roots[k].cm).2}):=by
  unfold Wgy;simp only;split
  .rename_i hb;have hk:a.2.1.toNat<w.roots.length:=by omega
   rw[Wt hk];generalize a.2.1.toNat=k at*;split
   .unfold Wka;rw[Wt (show k<({w with now:=w.now+1}:Wo).roots.length from hk)];have hr:=WiZ aY hk;show(Wam {w with now:=w.now+1} w.roots[k] k (s.2.1.getD k pg0)).1.hist=_\/_;by_cases h5:w.roots[k].phase=5
    .by_cases hd:w.roots[k].doomed=false
     .obtain⟨e1,e2,e3⟩:=Whx (w:={w with now:=w.now+1}) (x:=w.roots[k]) (k:=k) (p:=s.2.1.getD k pg0) h5 hd;by_cases hc:w.roots[k].cm.phase<=3/\(Wz w.mem w.roots[k].cm).2.phase=4
      .right;refine⟨k,hk,⟨h5,hd,hc.1,hc.2⟩,?_,?_⟩
       .show(Wam {w with now:=w.now+1} w.roots[k] k (s.2.1.getD k pg0)).1.hist=_;rw[e2];unfold Wa0;rw[Wb hc]
       .show((Wam {w with now:=w.now+1} w.roots[k] k (s.2.1.getD k pg0)).1.roots.set k _)[k]?=_;rw[hr,Xdk hk,e3]
      .left;rw[e2];unfold Wa0;rw[Wa hc]
     .left;have cL:w.roots[k].doomed=true:=by simpa using hd
      unfold Wam;rw[Wa (by omega),Wa (by omega),Wa (by omega),Wa (by omega),Wa (by omega),Wa (by omega),Wb h5];unfold WaG;rw[Wb cL]
    .left;obtain⟨_,r2,_⟩:=Whz (w:={w with now:=w.now+1}) (k:=k) (p:=s.2.1.getD k pg0) h5;exact r2
   .left;split
    .split<;>rfl
    .split
     .split<;>rfl
     .rfl
  .left;rfl
 rcases jR with e|⟨k,hk,⟨c1,c2,c3,c4⟩,e,er⟩
 .rw[e];exact wy.stay hlen aS
 .rw[e];obtain⟨p1,p2⟩:=Wvi (k:=k) pF ((aY.root k hk).comm c1) aY.mem cx (by rw[WkW hk];unfold cmX;rw[Wb c1]) c3 c4;have eR:k<(Wgy s w a).roots.length:=by omega
  rw[Xp eR]at er;have er:=Option.some.inj er;refine wy.app (k:=k) (e:=((Wz w.mem w.roots[k].cm).2.wv,(k:Int)+1,(Wz w.mem w.roots[k].cm).2.puts)) hk (by omega) aS rfl ?_ ?_ p2 (by show(Wz w.mem w.roots[k].cm).2.puts.Pairwise _;rw[p1];exact((aY.root k hk).comm c1).pup)
  .rw[Bool.eq_false_iff];intro z;rcases Wbx.1 z with z|z|z<;>omega
  .rw[er];have e2:Wbq {w.roots[k]with cm:=(Wz w.mem w.roots[k].cm).2}={w.roots[k]with cm:=(Wz w.mem w.roots[k].cm).2}:=by
    unfold Wbq;rw[Wa (by simp only;omega),Wa (by simp only;omega)]
   rw[e2];exact Wbx.2 (.inr (.inl ⟨c1,.inl c4⟩))
def ROs(b:Int->Int)(s:Sc)(w:Wo):Prop:=∀(k:Nat) (h:k<w.roots.length),RO b w.mem w.hist (Wdv w.roots) (s.2.1.getD k pg0) w.roots[k]
structure OA(b:Int->Int)(s:Sc)(n:Int)(w:Wo):Prop where
 ok:WOk s.2.1 n w
 wx:WX w
 lx:LX w
 wt:WT w
 mi:MI b w.mem w.hist (Wdv w.roots)
 ro:ROs b s w
 hw:HW w.roots w.hist
theorem Wuf(h:OA b s n w)(hn:n<=99999):OA b s (n+1) (Wgy s w a):=by
 have it:=Wmd (a:=a) h.ok h.wx;have uz:=Wq5 (a:=a) h.ok;have rU:=Wq1 (a:=a) h.ok h.lx h.wx h.wt (by omega) h.mi;refine⟨uz,it.1,Wt2 h.ok h.wx h.lx,Wt9 h.ok h.wt,rU.1,?_,?_⟩
 .have hlen:=h.ok.len;have cx:w.mem.1<1000000:=by have:=h.wt.clk;have:=h.ok.now;omega
  have hcl:CL2 w.mem (Wdv w.roots):=WtA h.ok h.lx;revert rU;unfold Ws7 Wgy;simp only;split
  .rename_i hb;have hk:a.2.1.toNat<w.roots.length:=by omega
   rw[Wt hk];generalize a.2.1.toNat=k at*;split
   .unfold Wka;rw[Wt (show k<({w with now:=w.now+1}:Wo).roots.length from hk)];have hx:=h.ok.root k hk;have hr:=WiZ h.ok hk;have oe:=WsF (b:=b) (p:=s.2.1.getD k pg0) h.ok h.wx hk rfl;have h1:w.mem.1<=(Wam {w with now:=w.now+1} w.roots[k] k (s.2.1.getD k pg0)).1.mem.1:=(Wrd (n:=n) (h.wx k hk) hx ⟨h.ok.mem,h.ok.shelf,h.ok.holds⟩ (w:={w with now:=w.now+1}) (k:=k) ⟨(h.lx.root k hk).cm,(h.lx.root k hk).no,(h.lx.root k hk).hd,(h.lx.root k hk).tk⟩).clk;have jF:POk (s.2.1.getD k pg0):=h.ok.progs _ (by rw[Wt (show k<s.2.1.length by omega)];exact Xo _);generalize hq:Wam {w with now:=w.now+1} w.roots[k] k (s.2.1.getD k pg0)=q at*;intro rU;have q9:∀v i z,RC b w.mem w.hist (Wdv w.roots) v i z->RC b q.1.mem q.1.hist (Wdv (Wo.put q k).roots) v i z:=rU.2;intro j hj;change j<(q.1.roots.set k q.2).length at hj;have hj':j<w.roots.length:=by rw[Xaf,hr]at hj;exact hj
    show RO b q.1.mem q.1.hist (Wdv (Wo.put q k).roots) _ ((q.1.roots.set k q.2)[j]'hj);rw[Xaq];split
    .rename_i e;subst e;have:=Wuj (w:={w with now:=w.now+1}) (k:=k) (C':=Wdv (Wo.put q k).roots) jF (h.ro k hk) h.mi hcl h.ok.mem cx hx (by rw[hq];exact q9) (by rw[hq];exact oe) (by rw[hq];exact h1);rw[hq]at this;exact this
    .simp only[hr];exact(h.ro j hj').keep q9 oe h1
   .have same:∀y:Rt,cmX y=cmX w.roots[k]->RO b w.mem w.hist (Wdv w.roots) (s.2.1.getD k pg0) y->ROs b s (Wo.put ({w with now:=w.now+1},y) k):=λy hy di j hj=>by
     have eA:(Wo.put ({w with now:=w.now+1},y) k).roots=w.roots.set k y:=rfl;have hC:Wdv (Wo.put ({w with now:=w.now+1},y) k).roots=Wdv w.roots:=by
      rw[eA,Wkl hk,hy,←WkW hk];funext i;unfold Wd0;split
      .rename_i e;rw[e]
      .rfl
     show RO b w.mem w.hist (Wdv (Wo.put ({w with now:=w.now+1},y) k).roots) _ _;rw[hC];simp only[eA,Xaq];split
     .rename_i e;subst e;exact di
     .exact h.ro j (by rw[eA,Xaf]at hj;exact hj)
    split
    .split
     .rename_i hc;intro _;have h2:=hc.1;have hx:=h.ok.root k hk;have aI:=hx.live (by omega);obtain⟨_,_,hF⟩:=aI.fork h2;obtain⟨f1,f2,f3⟩:=(h.ro k hk).fam h2;have jF:POk (s.2.1.getD k pg0):=h.ok.progs _ (by rw[Wt (show k<s.2.1.length by omega)];exact Xo _);have iY:a.2.2.toNat<(s.2.1.getD k pg0).2.length:=by omega
      have yE:(s.2.1.getD k pg0).2.getD a.2.2.toNat []=(s.2.1.getD k pg0).2[a.2.2.toNat]:=Wt iY _;obtain⟨g1,g2,g3,g4⟩:=Wte (m:=w.mem) (k:=a.2.2.toNat) (code:=(s.2.1.getD k pg0).2.getD a.2.2.toNat []) f3 hF (by rw[hF.len];exact iY) h.ok.mem (by rw[yE];exact jF.kids _ (Xo _)) rfl (by rw[f1];exact Wwi h.mi hcl (by omega) (h.ro k hk).rv);have di:=h.ro k hk;refine same {w.roots[k]with fam:=WaM w.mem w.roots[k].fam a.2.2.toNat ((s.2.1.getD k pg0).2.getD a.2.2.toNat [])} rfl ⟨di.rv,di.rows,di.rd,di.pb,di.ext,λ_=>⟨g2.trans f1,?_,g1⟩,λz=>Wl h2 z⟩;obtain⟨rows,er⟩:=f2;exact⟨rows,g4.trans er⟩
     .intro _;exact h.ro
    .split
     .split
      .intro _;have di:=h.ro k hk;exact same {w.roots[k]with doomed:=true} rfl ⟨di.rv,di.rows,di.rd,di.pb,di.ext,di.fam,di.fam0⟩
      .intro _;exact h.ro
     .intro _;exact h.ro
  .intro _;exact h.ro
 .exact WuR h.ok h.wx h.wt h.mi h.hw hn
theorem Wrr:∀(l:List Ac) (n:Int) (w:Wo),OA b s n w->n+l.length<=99999->OA b s (n+l.length) (l.foldl (Wgy s) w)
 | [],n,w,h,_=>by simpa using h
 |e::l,n,w,h,hn=>by
  simp only[Xx]at hn
  push_cast at hn
  have:=Wrr l (n+1) _ (Wuf (a:=e) h (by omega)) (by omega);rw[show n+((e::l).length:Int)=n+1+(l.length:Int) by simp;omega];exact this
end
end
section
section
variable{N:Nat}{b i v:Int}{H S:List Wr}{h e:Wr}{l:List Rw}{cells:List Int}
theorem WvT:Lin cfW:=⟨λx=>by unfold cfW;omega,λx y z=>by unfold cfW;omega,λx y z=>by unfold cfW;omega⟩
theorem Wwc{x y:Wr}:Ap cfW x y↔x.1≠y.1:=by unfold Ap cfW;omega
theorem Wtj{x y:Wr}(hn:x.1≠y.1)(r:Int×Int):Wd3 i v (Wd3 i v r x) y=Wd3 i v (Wd3 i v r y) x:=by
 unfold Wd3;cases pick x.2.2 i with
 |none=>cases pick y.2.2 i<;>rfl
 |some p=>
  cases pick y.2.2 i with
  |none=>rfl
  |some q=>
   simp only;by_cases h1:x.1<=v/\r.1<x.1
   .rw[Wb h1];by_cases h2:y.1<=v/\r.1<y.1
    .rw[Wb h2];by_cases h3:x.1<y.1
     .rw[Wb (show y.1<=v/\x.1<y.1 from⟨h2.1,h3⟩),Wa (by simp only;omega)]
     .rw[Wa (by simp only;omega),Wb (show x.1<=v/\y.1<x.1 from⟨h1.1,by omega⟩)]
    .rw[Wa h2,Wa (by simp only;omega),Wb h1]
   .rw[Wa h1];by_cases h2:y.1<=v/\r.1<y.1
    .rw[Wb h2,Wa (by simp only;omega)]
    .rw[Wa h2,Wa h1]
theorem Wkw:∀(S:List Wr) (r:Int×Int),(∀z∈S,z.1≠e.1)->S.foldl (Wd3 i v) (Wd3 i v r e)=Wd3 i v (S.foldl (Wd3 i v) r) e
 | [],r,_=>rfl
 |z::S,r,h=>by
  rw[Xar,Xar,Wtj (h z (Xh ..)).symm,Wkw S _ λy hy=>h y (Xe _ hy)]
theorem WqJ:∀(S:List Wr) (r:Int×Int),(∀z∈S,z.1≠e.1)->(Wdb cfW S e).foldl (Wd3 i v) r=Wd3 i v (S.foldl (Wd3 i v) r) e
 | [],r,_=>rfl
 |z::S,r,h=>by
  have hz:=h z (Xh ..);have hS:∀y∈S,y.1≠e.1:=λy hy=>h y (Xe _ hy);rw[Wdb];split
  .rw[Xar,WqJ S _ hS,Xar]
  .split
   .rw[Xar,Wkw (z::S) r h]
   .rename_i a c;unfold cfW at a c;omega
def Wbb(H:List Wr):List Wr:=H.foldr (λh l=>Wdb cfW l h) []
theorem Whc:∀{H:List Wr},H.Pairwise (λa b=>a.1≠b.1)->Ris cfW (Wbb H)/\(∀x,x∈Wbb H↔x∈H)
 | [],_=>⟨List.Pairwise.nil,λx=>Iff.rfl⟩
 |h::H,hp=>by
  obtain⟨h1,h2⟩:=Xv.1 hp;obtain⟨a,c⟩:=Whc h2;refine⟨WbJ WvT a,λx=>?_⟩;show x∈Wdb cfW (Wbb H) h↔_;rw[Wa9 WvT a,c,Xq];refine or_congr Iff.rfl ⟨λz=>z.1,λz=>⟨z,Wwc.2 (h1 x z).symm⟩⟩
theorem Wgv(hp:H.Pairwise λa b=>a.1≠b.1):(Wbb H).length=H.length:=by
 obtain⟨a,c⟩:=Whc hp;rw[←WkZ WvT a (hp.imp λz=>Wwc.2 z) λx=>(c x).symm];unfold sortBy;exact List.length_mergeSort _
theorem Wq4:∀(H:List Wr) (r:Int×Int),H.Pairwise (λa b=>a.1≠b.1)->(Wbb H).foldl (Wd3 i v) r=H.foldl (Wd3 i v) r
 | [],r,_=>rfl
 |h::H,r,hp=>by
  obtain⟨h1,h2⟩:=Xv.1 hp;show(Wdb cfW (Wbb H) h).foldl (Wd3 i v) r=_;rw[WqJ _ _ λz hz=>(h1 z ((Whc h2).2 z|>.1 hz)).symm,Wq4 H r h2,Xar,Wkw H r λz hz=>(h1 z hz).symm]
theorem WsD(hu:l.Pairwise λa b=>a.1<b.1):pick l i=lst l i:=by
 cases hp:pick l i with
 |some x=>exact(WqL (r:=(i,x)) hu (Wht hp)).symm
 |none=>
  cases hl:lst l i with
  |none=>rfl
  |some x=>
   unfold pick at hp;have dG:l.find? (λr=>decide (r.1=i))=none:=by
    cases hf:l.find? (λr=>decide (r.1=i))with
    |none=>rfl
    |some r=>rw[hf]at hp;cases hp
   have:=List.find?_eq_none.1 dG _ (Wkd hl);simp at this
structure HG(H:List Wr):Prop where
 len:H.length<=4
 each:∀h∈H,(1<=h.1/\h.1<=1000000)/\(1<=h.2.1/\h.2.1<=99)/\WcU h.2.2/\h.2.2.length<=300
 up:∀h∈H,h.2.2.Pairwise λa b=>a.1<b.1
 dist:H.Pairwise λa b=>a.1≠b.1
def ovW(v:Int)(l:List Int)(h:Wr):List Int:=if h.1<=v then ovl l h.2.2 else l
def stA(cells:List Int)(H:List Wr)(v:Int):List Int:=(Wbb H).foldl (ovW v) cells
theorem WjO{A:List Int}(hA:Vals 8 A)(hr:WcU h.2.2):Vals 8 (ovW v A h):=by
 unfold ovW;split
 .exact Wc0 hA hr
 .exact hA
theorem WrG{c:Int}(h0:0<=c)(h7:c<=7):∀(S:List Wr) (A:List Int) (r:Int×Int),Vals 8 A->Ris cfW S->(∀h∈S,WcU h.2.2/\h.2.2.Pairwise λa b=>a.1<b.1)->(∀h∈S,r.1<h.1)->A.getD c.toNat 0=r.2->Vals 8 (S.foldl (ovW v) A)/\(S.foldl (ovW v) A).getD c.toNat 0=(S.foldl (Wd3 c v) r).2
 | [],A,r,hA,_,_,_,e=>⟨hA,e⟩
 |h::S,A,r,hA,hs,hr,hlt,e=>by
  obtain⟨s1,s2⟩:=Xv.1 hs;obtain⟨r1,r2⟩:=hr h (Xh ..);have hl:=hlt h (Xh ..);rw[Xar,Xar];refine WrG h0 h7 S _ _ (WjO hA r1) s2 (λy hy=>hr y (Xe _ hy)) (λy hy=>?_) ?_
  .have h1:=s1 y hy;have h2:=hlt y (Xe _ hy);unfold cfW at h1;unfold Wd3;split
   .split
    .simp only;omega
    .exact h2
   .exact h2
  .unfold ovW Wd3;rw[WsD r2];by_cases hv:h.1<=v
   .rw[Wb hv,WjV hA r1 h0 h7];cases lst h.2.2 c with
    |some x=>simp only;rw[Wb ⟨hv,hl⟩]
    |none=>exact e
   .rw[Wa hv];cases lst h.2.2 c with
    |some x=>simp only;rw[Wa (λz=>hv z.1)];exact e
    |none=>exact e
theorem Wiv(hH:HG H)(hc:Vals 8 cells):Vals 8 (stA cells H v)/\∀c:Int,0<=c->c<=7->(stA cells H v).getD c.toNat 0=(bst (cells.getD c.toNat 0) c v H).2:=by
 obtain⟨s1,s2⟩:=Whc hH.dist;have key:∀c:Int,0<=c->c<=7->_:=λc h0 h7=>WrG (v:=v) h0 h7 (Wbb H) cells (0,cells.getD c.toNat 0) hc s1 (λh hh=>⟨(hH.each h ((s2 h).1 hh)).2.2.1,hH.up h ((s2 h).1 hh)⟩) (λh hh=>by have:=(hH.each h ((s2 h).1 hh)).1;simp only;omega) rfl;refine⟨(key 0 (by omega) (by omega)).1,λc h0 h7=>?_⟩;have:=(key c h0 h7).2;rw[Wq4 H _ hH.dist]at this;exact this
end
end
section
section
variable{N:Nat}{b i v:Int}{H S:List Wr}{h e:Wr}{l:List Rw}{cells:List Int}
theorem Wq9(hp:H.Pairwise λa b=>a.1≠b.1){i k:Nat}(hi:i<H.length)(hk:k<i):H[k].1≠H[i].1:=Xal.1 hp k i (by omega) hi hk
theorem Wty{R:Type}{K0:Option R}{K1:Int->Bool->Option R}(hp:H.Pairwise λa b=>a.1≠b.1){i:Nat}(hi:i<H.length)(hl:H.length<=1000):∀(d j fuel:Nat),j+d=i->d<fuel->Zdo N H (i:Int) K0 K1 fuel (j:Int)=K1 (i:Int) false
 |0,j,fuel,hj,hf=>by
  obtain⟨g,rfl⟩:∃g,fuel=g+1:=⟨fuel-1,by omega⟩;have:j=i:=by omega
  subst this;simp only[Zdo,Wq (show¬(j:Int)<(j:Int) by omega),Wc]
 |d+1,j,fuel,hj,hf=>by
  obtain⟨g,rfl⟩:∃g,fuel=g+1:=⟨fuel-1,by omega⟩;have hlt:j<i:=by omega
  have hne:=Wq9 hp hi hlt;have ih:=Wty (K0:=K0) (K1:=K1) hp hi hl d (j+1) g (by omega) (by omega);simp only[Zdo,Wf (show(j:Int)<(i:Int) by omega),We,Wp (show j<H.length by omega),Wp hi,Wv (show j<H.length by omega),Wv hi,Wn (show j<4611686018427387904 by omega)];rw[show(H[j].1==H[i].1)=false by simpa using hne,Wc];exact ih
theorem Wd2(hH:HG H)(hN:1048576<N):Zgc N H=ret true:=by
 unfold Zgc;have hl:=hH.len;rw[Wq (show¬Wi H>200 by unfold Wi;omega),Wc];have h1:=Wy (l:=H) (V:=Unit) (R:=Unit×Ko) (lp:=λn j v=>Zdp N H (some ((),(false,()))) (λv6 t22=>some ((),(true,()))) n j) (n:=N) (by omega)
  (body:=λj x v k=>k v) (K:=λ_ v=>some ((),(true,())))
  (λn i v hi=>by
   obtain⟨⟨a1,a2⟩,⟨a3,a4⟩,a5,a6⟩:=hH.each _ (Xo hi);have e1:(decide (1<=H[i].1)&&decide (H[i].1<=1000000))=true:=by simp;omega
   have e2:(decide (1<=H[i].2.1)&&decide (H[i].2.1<=99))=true:=by simp;omega
   simp only[Zdp,WU hi,Wp hi,Wv hi,Wn (show i<4611686018427387904 by omega),We,Wlq,e1,e2,ret,Xd,Xr,Wc,WbG (show H[i].2.2.length<=1048576 by omega) hN,Waz a5 a6];rw[show(0:Int)=((0:Nat):Int)from rfl,Wty hH.dist hi (by omega) i 0 N (by omega) (by omega)])
  (λn v=>by simp only[Zdp,WZ (Xn _),Wc]) ()
 refine h1.trans ?_;rw[Wbf (f:=λv _=>v) H 0 () (λj x v k _=>rfl)]
theorem Wvo(hp:H.Pairwise λa b=>a.1≠b.1){i:Nat}(hi:i<H.length)(hl:H.length<=1000)(hN:1048576<N):Z5 N (H.take i) H[i]=some ((H[i],()),(false,())):=by
 unfold Z5 Zv;have lK:(H.take i).length<=1000:=by rw[Xaw];omega
 have h1:=Wy (l:=H.take i) (V:=Unit) (R:=(Wr×Unit)×Ki) (lp:=λn j v=>Zk N (H.take i) (λaX aZ=>(some ((aZ,()),(aX,())))) (λbV eI bu=>(some ((bu,()),((-1:Int),())))) n j H[i]) (n:=N) (by omega)
  (body:=λj x v k=>k v) (K:=λ_ v=>some ((H[i],()),((-1:Int),())))
  (λn j v hj=>by
   have hj':j<i:=by rw[Xaw]at hj;omega
   have hne:=Wq9 hp hi hj';have hg:(H.take i)[j]=H[j]:=Xgl ..;simp only[Zk,WU hj,Wp hj,Wv hj,Wn (show j<4611686018427387904 by omega),We,Zon,Xd];rw[hg,show(H[j].1==H[i].1)=false by simpa using hne,Wc])
  (λn v=>by simp only[Zk,WZ (Xn _),Wc]) ()
 rw[Wbf (f:=λv _=>v) (H.take i) 0 () (λj x v k _=>rfl)]at h1;rw[h1];rfl
theorem Whd(hH:HG H)(hN:1048576<N):Zhq N H=ret true:=by
 unfold Zhq;have hl:=hH.len;have h1:=Wy (l:=H) (V:=Unit) (R:=Unit×Ko) (lp:=λn j v=>Zdt N H (some ((),(false,()))) (λfJ fB=>some ((),(decide ((Wi H)<=(200:Int)),()))) n j) (n:=N) (by omega)
  (body:=λj x v k=>k v) (K:=λ_ v=>some ((),(decide ((Wi H)<=(200:Int)),())))
  (λn i v hi=>by
   obtain⟨⟨a1,a2⟩,⟨a3,a4⟩,a5,a6⟩:=hH.each _ (Xo hi);have e1:(decide (1<=H[i].1)&&decide (H[i].1<=1000000))=true:=by simp;omega
   have e2:(decide (1<=H[i].2.1)&&decide (H[i].2.1<=99))=true:=by simp;omega
   have e3:((decide ((0:Int)<=(i:Int)))&&(decide ((i:Int)<=((List.length H):Int))))=true:=by simp;omega
   simp only[Zdt,WU hi,Wp hi,Wv hi,Wn (show i<4611686018427387904 by omega),We,WS,Wbh,e1,e2,e3,ret,Xd,Xr,Wc,Wap (show H[i].2.2.length<=1048576 by omega) hN,Waz a5 a6];simp only[Xj,Wvo hH.dist hi (by omega) hN,Xd,Wc])
  (λn v=>by simp only[Zdt,WZ (Xn _),Wc]) ()
 refine h1.trans ?_;rw[Wbf (f:=λv _=>v) H 0 () (λj x v k _=>rfl),Wf (show Wi H<=200 by unfold Wi;omega)]
def mnW(last best:Int)(x:Wr):Int:=if x.1>last then(if x.1<best then x.1 else best)else best
theorem Wvz{last:Int}:∀(H:List Wr) (best:Int),H.foldl (mnW last) best<=best/\(∀x∈H,x.1>last->H.foldl (mnW last) best<=x.1)/\(H.foldl (mnW last) best=best\/∃x∈H,x.1=H.foldl (mnW last) best/\x.1>last)
 | [],best=>⟨Xs _,(λx hx=>by cases hx),.inl rfl⟩
 |y::H,best=>by
  obtain⟨a,c,d⟩:=Wvz (last:=last) H (mnW last best y);rw[Xar];have hm:mnW last best y<=best/\(y.1>last->mnW last best y<=y.1)/\(mnW last best y=best\/(y.1=mnW last best y/\y.1>last)):=by
   unfold mnW;split
   .split
    .exact⟨by omega,λ_=>Xs _,.inr ⟨rfl,‹_›⟩⟩
    .exact⟨Xs _,λ_=>by omega,.inl rfl⟩
   .exact⟨Xs _,λz=>Wl z ‹_›,.inl rfl⟩
  obtain⟨m1,m2,m3⟩:=hm;refine⟨by omega,λx hx hl=>?_,?_⟩
  .rcases Xq.1 hx with rfl|hx
   .have:=m2 hl;omega
   .exact c x hx hl
  .rcases d with d|⟨x,hx,d⟩
   .rcases m3 with m3|⟨m3,m4⟩
    .exact .inl (d.trans m3)
    .exact .inr ⟨y,Xh ..,by omega,m4⟩
   .exact .inr ⟨x,Xe _ hx,d⟩
def lsW(S:List Wr)(j:Nat):Int:=if j=0 then 0 else(S.getD (j-1) (0,0,[])).1
theorem WtZ(hH:HG H){j:Nat}(hj:j<(Wbb H).length):H.foldl (mnW (lsW (Wbb H) j)) 1000001=(Wbb H)[j].1:=by
 obtain⟨s1,s2⟩:=Whc hH.dist;have hlt:∀(a c:Nat) (ha:a<(Wbb H).length) (hc:c<(Wbb H).length),a<c->(Wbb H)[a].1<(Wbb H)[c].1:=λa c ha hc h=>by
  have:=Xal.1 s1 a c ha hc h;unfold cfW at this;omega
 have hm:=(s2 _).1 (Xo hj);have hb:=(hH.each _ hm).1;have hls:lsW (Wbb H) j<(Wbb H)[j].1:=by
  unfold lsW;split
  .omega
  .rw[Xae,Xp (show j-1<(Wbb H).length by omega)];exact hlt (j-1) j (by omega) hj (by omega)
 obtain⟨a,c,d⟩:=Wvz (last:=lsW (Wbb H) j) H 1000001;have h1:=c _ hm (by omega);rcases d with d|⟨x,hx,d1,d2⟩
 .omega
 .obtain⟨k,hk,rfl⟩:=Xcj.1 ((s2 x).2 hx);by_cases hkj:j<=k
  .by_cases e:j=k
   .subst e;exact d1.symm
   .have:=hlt j k hj hk (by omega);omega
  .have:(Wbb H)[k].1<=lsW (Wbb H) j:=by
    unfold lsW;rw[Wa (by omega),Xae,Xp (show j-1<(Wbb H).length by omega)];by_cases e:k=j-1
    .subst e;exact Xs _
    .have:=hlt k (j-1) hk (by omega) (by omega);show(Wbb H)[k].1<=(Wbb H)[j-1].1;omega
   omega
theorem WuG{R:Type}{bw:List Int}{K0:Int->Int->Bool->Option R}{last:Int}(hl:H.length<=1000)(hN:1048576<N):Zbg N H last bw K0 N 1000001 0=K0 (H.foldl (mnW last) 1000001) (H.length:Int) false:=by
 have h1:=Wy (l:=H) (V:=Int) (R:=R) (lp:=λn j v=>Zbg N H last bw K0 n v j) (n:=N) (by omega)
  (body:=λj x v k=>k (mnW last v x)) (K:=λj v=>K0 v j false)
  (λn i v hi=>by
   simp only[Zbg,WU hi,Wp hi,Wv hi,Wn (show i<4611686018427387904 by omega),We,Wal];unfold mnW;split
   .split<;>rfl
   .rfl)
  (λn v=>by simp only[Zbg,WZ (Xn _),Wc]) 1000001
 refine h1.trans ?_;rw[Wbf (f:=λv x=>mnW last v x) H 0 1000001 (λj x v k _=>rfl),Xba]
theorem Wp7(hH:HG H)(hN:1048576<N):∀(d j fuel:Nat),j+d=(Wbb H).length->d<fuel->Zdq N H (λnE nF eW=>(some ((),(eW,())))) fuel (lsW (Wbb H) j) (((Wbb H).map (·.1)).take j)=ret ((Wbb H).map (·.1))
 |0,j,fuel,hj,hf=>by
  obtain⟨g,rfl⟩:∃g,fuel=g+1:=⟨fuel-1,by omega⟩;have hs:=Wgv hH.dist;have e:((Wbb H).map (·.1)).take j=(Wbb H).map (·.1):=Xbv (by rw[Xu];omega);rw[Zdq,e,Wq (show¬Wi ((Wbb H).map (·.1))<Wi H by unfold Wi;rw[Xu];omega)];rfl
 |d+1,j,fuel,hj,hf=>by
  obtain⟨g,rfl⟩:∃g,fuel=g+1:=⟨fuel-1,by omega⟩;have hs:=Wgv hH.dist;have hl:=hH.len;have hlt:j<(Wbb H).length:=by omega
  have dF:j<((Wbb H).map (·.1)).length:=by rw[Xu];exact hlt
  have lK:(((Wbb H).map (·.1)).take j).length=j:=by rw[Xaw,Xu];omega
  have ih:=Wp7 hH hN d (j+1) g (by omega) (by omega);rw[Zdq,Wf (show Wi (((Wbb H).map (·.1)).take j)<Wi H by unfold Wi;rw[lK];omega),We,WuG (by omega) hN,WtZ hH hlt];rw[WC (by rw[lK];simp;omega),We];have e1:lsW (Wbb H) (j+1)=(Wbb H)[j].1:=by
   unfold lsW;rw[Wa (by omega),Xae,Nat.add_sub_cancel,Xp hlt];rfl
  have e2:((Wbb H).map (·.1)).take (j+1)=Xf (((Wbb H).map (·.1)).take j) [(Wbb H)[j].1]:=by
   rw[Xbe dF,Xco];rfl
  rw[e1,e2]at ih;exact ih
theorem WiS(hH:HG H)(hN:1048576<N):Zi2 N H=ret ((Wbb H).map (·.1)):=by
 unfold Zi2;rw[Wd2 hH hN];simp only[ret,Xd,Xr,Wc];have hs:=Wgv hH.dist;have hl:=hH.len;exact Wp7 hH hN (Wbb H).length 0 N (by omega) (by omega)
theorem Wn7:∀(H:List Wr) (A:List Int),H.Pairwise (λa b=>a.1≠b.1)->e∈H->H.foldl (λv x=>if x.1=e.1 then ovl v x.2.2 else v) A=ovl A e.2.2
 | [],_,_,h=>by cases h
 |y::H,A,hp,h=>by
  obtain⟨h1,h2⟩:=Xv.1 hp;have none:∀(H:List Wr) (A:List Int),(∀z∈H,z.1≠e.1)->H.foldl (λv x=>if x.1=e.1 then ovl v x.2.2 else v) A=A:=by
   intro H
   induction H with
   |nil=>intro A _;rfl
   |cons z H ih=>
    intro A hz;rw[Xar,Wa (hz z (Xh ..))];exact ih A λu hu=>hz u (Xe _ hu)
  rw[Xar];rcases Xq.1 h with rfl|h
  .rw[Wb rfl];exact none H _ λz hz=>(h1 z hz).symm
  .rw[Wa (h1 e h)];exact Wn7 H A h2 h
theorem Wvs{R:Type}{K0:Int->Bool->List Int->Option R}(hH:HG H)(hN:1048576<N){j:Nat}(hj:j<(Wbb H).length){A:List Int}(hA:Vals 8 A):Zbm N H v (j:Int) ((Wbb H).map (·.1)) K0 N 0 A=K0 (H.length:Int) false (ovl A (Wbb H)[j].2.2):=by
 have hl:=hH.len;have hj':j<((Wbb H).map (·.1)).length:=by rw[Xu];exact hj
 have hg:((Wbb H).map (·.1))[j]=(Wbb H)[j].1:=Xco ..;obtain⟨s1,s2⟩:=Whc hH.dist;have h1:=Wy (l:=H) (V:=List Int) (R:=R) (lp:=λn k l=>Zbm N H v (j:Int) ((Wbb H).map (·.1)) K0 n k l) (n:=N) (by omega)
  (body:=λk x l kk=>bif x.1==(Wbb H)[j].1 then(Zde N l x.2.2).bind (λo=>kk o.2.1)else kk l) (K:=λk l=>K0 k false l)
  (λn i l hi=>by simp only[Zbm,WU hi,Wp hi,Wv hi,Wp hj',Wv hj',hg,Wn (show i<4611686018427387904 by omega),We])
  (λn l=>by simp only[Zbm,WZ (Xn _),Wc]) A
 refine h1.trans ?_;rw[Wf7 (β:=Unit) (f:=λl x=>if x.1=(Wbb H)[j].1 then ovl l x.2.2 else l) (λl=>Vals 8 l) H 0 A hA (λx hx l hl=>by
   split
   .exact Wc0 hl (hH.each x hx).2.2.1
   .exact hl) (λk x l kk hx hl=>by
   simp only[WE];split
   .rw[Wfr hl (hH.each x hx).2.2.1 (hH.each x hx).2.2.2 hN];rfl
   .rfl),Xba,Wn7 H A hH.dist ((s2 _).1 (Xo hj))]
theorem WqI:∀(S:List Wr) (A:List Int),(∀z∈S,¬z.1<=v)->S.foldl (ovW v) A=A
 | [],_,_=>rfl
 |z::S,A,h=>by
  rw[Xar,show ovW v A z=A by unfold ovW;rw[Wa (h z (Xh ..))]];exact WqI S A λy hy=>h y (Xe _ hy)
theorem Wrg(hH:HG H)(hc:Vals 8 cells)(S:List Wr)(hs:∀z∈S,z∈H):Vals 8 (S.foldl (ovW v) cells):=by
 induction S generalizing cells with
 |nil=>exact hc
 |cons z S ih=>
  rw[Xar];exact ih (WjO hc (hH.each z (hs z (Xh ..))).2.2.1) λy hy=>hs y (Xe _ hy)
theorem Wts(hH:HG H)(hc:Vals 8 cells)(hN:1048576<N):∀(d j fuel:Nat),j+d=(Wbb H).length->d<fuel->Zcx N H v ((Wbb H).map (·.1)) (λtx rI nG=>(some ((),(nG,())))) fuel (j:Int) (((Wbb H).take j).foldl (ovW v) cells)=ret (stA cells H v)
 |0,j,fuel,hj,hf=>by
  obtain⟨g,rfl⟩:∃g,fuel=g+1:=⟨fuel-1,by omega⟩;rw[Zcx,WZ (show((Wbb H).map (·.1)).length<=j by rw[Xu];omega),Xbv (by omega)];rfl
 |d+1,j,fuel,hj,hf=>by
  obtain⟨g,rfl⟩:∃g,fuel=g+1:=⟨fuel-1,by omega⟩;have hlt:j<(Wbb H).length:=by omega
  have dF:j<((Wbb H).map (·.1)).length:=by rw[Xu];exact hlt
  have hg:((Wbb H).map (·.1))[j]=(Wbb H)[j].1:=Xco ..;obtain⟨s1,s2⟩:=Whc hH.dist;have hs:=Wgv hH.dist;have hl:=hH.len;rw[Zcx,WU dF,Wp dF,Wv dF,hg];simp only[We,Wal];by_cases hv:(Wbb H)[j].1<=v
  .have ih:=Wts hH hc hN d (j+1) g (by omega) (by omega);rw[Wb hv,Wvs hH hN hlt (Wrg hH hc _ λz hz=>(s2 z).1 (Xbq hz)),Wn (show j<4611686018427387904 by omega)];rw[Xbe hlt,Xee]at ih;have e:[(Wbb H)[j]].foldl (ovW v) (((Wbb H).take j).foldl (ovW v) cells)=ovl (((Wbb H).take j).foldl (ovW v) cells) (Wbb H)[j].2.2:=by
    show ovW v _ _=_;unfold ovW;rw[Wb hv]
   rw[e]at ih;exact ih
  .rw[Wa hv];unfold stA
   conv=>rhs;rw[←List.take_append_drop j (Wbb H),Xee]
   rw[WqI ((Wbb H).drop j) _ λz hz=>by
    obtain⟨k,hk,rfl⟩:=Xcj.1 hz;rw[List.length_drop]at hk;rw[List.getElem_drop];by_cases e:k=0
    .subst e;exact hv
    .have:=Xal.1 s1 j (j+k) hlt (by omega) (by omega);unfold cfW at this;omega]
theorem Wgg(hH:HG H)(hc:Vals 8 cells)(hN:1048576<N):Ze4 N cells H v=ret (stA cells H v):=by
 unfold Ze4;have hcl:=hc.len;have hs:=Wgv hH.dist;have hl:=hH.len;rw[Wcl (by omega) hN,Wcy.2 hc,Wd2 hH hN];simp only[ret,Xd,Xr,Wc];rw[WC (by simp;omega),We,WiS hH hN];simp only[ret,Xd];exact Wts hH hc hN (Wbb H).length 0 N (by omega) (by omega)
theorem Wly(hH:HG H)(hN:1048576<N):Zhe N H=ret H:=by
 unfold Zhe;have hl:=hH.len;have h1:=Wy (l:=H) (V:=List Wr) (R:=Unit×(List Wr×Unit)) (lp:=λn j v=>Zck N H (λai aF bj=>(some ((),(bj,())))) n j v) (n:=N) (by omega)
  (body:=λj x v k=>(Za1 N x.2.2).bind λo=>bif WH (v.length+ [((x.1,x.2.1,o.2.1):Wr)].length)then k (Xf v [((x.1,x.2.1,o.2.1):Wr)])else none) (K:=λ_ v=>ret v)
  (λn i v hi=>by simp only[Zck,WU hi,Wp hi,Wv hi,Wn (show i<4611686018427387904 by omega),We])
  (λn v=>by simp only[Zck,WZ (Xn _),Wc]) []
 refine h1.trans ?_;rw[WcE (f:=λx:Wr=>x) H 0 [] (by simp;omega) (λj x v k hx=>by
  rw[WcG (by have:=(hH.each x hx).2.2.2;omega)];rfl)]
 simp
theorem WkT(hH:HG H)(hc:Vals 8 cells)(hN:1048576<N):Zgs N cells H v=ret (stA cells H v):=by
 unfold Zgs Zax;have hcl:=hc.len;have hs:=Wgv hH.dist;have hl:=hH.len;obtain⟨s1,s2⟩:=Whc hH.dist;rw[Wch (by omega) hN,Wcy.2 hc,Whd hH hN];simp only[ret,Xd,Xr,Wc];rw[Wly hH hN];simp only[ret,Xd];rw[Wk6 WvT s1 (hH.dist.imp λz=>Wwc.2 z) (λx=>(s2 x).symm) (λx hx=>by
  have:=(hH.each x hx).1;unfold WvQ Wsb;simp;omega) (by omega),Wa2 (by omega)]
 simp only[ret,Xd];have h1:=Wy (l:=Wbb H) (V:=List Int) (R:=Unit×(List Int×Unit)) (lp:=λn j l=>Zb8 N v (Wi (Wbb H)) (Wbb H) (λew fJ bz=>(some ((),(bz,())))) n j l) (n:=N) (by omega)
  (body:=λk x l kk=>bif decide (x.1<=v)then(Zdf N l x.2.2).bind (λo=>kk o.2.1)else kk l) (K:=λk l=>ret l)
  (λn i l hi=>by simp only[Zb8,WU hi,Wp hi,Wv hi,Wn (show i<4611686018427387904 by omega),We])
  (λn l=>by simp only[Zb8,WZ (Xn _),Wc]) cells
 refine h1.trans ?_;rw[Wf7 (β:=Unit) (f:=ovW v) (λl=>Vals 8 l) (Wbb H) 0 cells hc (λx hx l hl=>WjO hl (hH.each x ((s2 x).1 hx)).2.2.1) (λk x l kk hx hl=>by
   simp only[Wal];unfold ovW;split
   .rw[WfD hl (hH.each x ((s2 x).1 hx)).2.2.1 (hH.each x ((s2 x).1 hx)).2.2.2 hN];rfl
   .rfl)]
 rfl
end
end
section
section
variable{N:Nat}{s:Sc}{w:Wo}{n:Int}{x:Rt}{k:Nat}{p:Pg}{m:Mm}{H:List Wr}{C:Nat->Option Cm}{cells:List Int}{b:Int->Int}
theorem Wtk{s:Sc}(hc:Vals 8 s.1.1):MI (λi=>s.1.1.getD i.toNat 0) (Wgk s).mem (Wgk s).hist (Wdv (Wgk s).roots):=by
 have cF:∀k c,Wdv (Wgk s).roots k=some c->False:=λk c h=>by
  obtain⟨hk,h5,_⟩:=WlR h;have:(Wgk s).roots[k].phase=0:=by simp only[Wgk,Xbc]
  omega
 refine⟨(λh hh=>by cases hh),λk c h=>Wl h (λh=>cF k c h),λk k' c c' _ h=>Wl h (λh=>cF k c h),λi h0 h7 _=>?_,λk c h=>Wl h (λh=>cF k c h)⟩;have hl:=hc.len;have hi:i.toNat<s.1.1.length:=by omega
 have e:Ww (Wgk s).mem i=(s.1.1.getD i.toNat 0,0,0):=by
  unfold Ww Wcp Wgk Wjx;simp only;rw[Wt (by simpa using hi),Wt hi,Xco];rfl
 rw[e];exact⟨rfl,rfl⟩
theorem Wvu(aY:WoD s=true):OA (λi=>s.1.1.getD i.toNat 0) s 0 (Wgk s):=by
 refine⟨WqC aY,Wvq,WuL aY,WuP,Wtk (WgK aY).1.cells,λk hk=>?_,⟨(λh hh=>by cases hh),Xcq,List.Pairwise.nil,(λh hh=>by cases hh)⟩⟩;have e:(Wgk s).roots[k]={}:=by simp only[Wgk,Xbc]
 rw[e];exact RO.nil (Xs _) ⟨Xs _,Xs _⟩ rfl rfl (by show(0:Int)≠2;omega) (by show(0:Int)≠4;omega) rfl
theorem WsJ(aY:WoD s=true):OA (λi=>s.1.1.getD i.toNat 0) s s.2.2.length (Wud s):=by
 obtain⟨h1,h2,h3,h4⟩:=WgK aY;have:=Wrr s.2.2 0 _ (Wvu aY) (by omega);rw[Int.zero_add]at this;exact this
theorem OA.hg(h:OA b s n w)(hn:n<=1000000):HG w.hist:=by
 have nN:w.roots.length<=4:=by rw[h.ok.len];exact h.ok.l4
 have hl:=h.hw.len nN;refine⟨hl,λe he=>?_,h.hw.up,h.hw.dist⟩;obtain⟨a1,a2,a3,a4⟩:=h.ok.histE e he;obtain⟨c1,c2⟩:=h.mi.st e he;have:=h.wt.clk;have:=h.ok.now;exact⟨by omega,by omega,a2,by omega⟩
structure LK(cells:List Int)(H:List Wr)(x:Rt):Prop where
 rows:WcU x.reads/\x.reads.length<=300
 rd:∀r∈x.reads,(stA cells H x.rv).getD r.1.toNat 0=r.2
 fz:FZ x.fam
 ft:WhL (stA cells H x.fam.rv) x.fam
theorem Wvg{v i z:Int}(hH:HG H)(hc:Vals 8 cells)(h0:0<=i)(h7:i<=7)(h:RC (λi=>cells.getD i.toNat 0) m H C v i z):(stA cells H v).getD i.toNat 0=z:=by
 rw[(Wiv hH hc).2 i h0 h7,h.val]
theorem Wul(h:OA (λi=>s.1.1.getD i.toNat 0) s n w)(hn:n<=1000000)(hc:Vals 8 s.1.1)(hk:k<w.roots.length):LK s.1.1 w.hist w.roots[k]:=by
 have hg:=h.hg hn;have di:=h.ro k hk;have hx:=h.ok.root k hk;have jF:POk (s.2.1.getD k pg0):=h.ok.progs _ (by rw[Wt (show k<s.2.1.length by rw[←h.ok.len];exact hk)];exact Xo _);have cd:=hx.phase;have km:WcU w.roots[k].reads/\w.roots[k].reads.length<=300:=by
  by_cases hp:1<=w.roots[k].phase/\w.roots[k].phase<=4
  .exact WmR (hx.live hp) jF.code
  .exact di.rows (by omega)
 suffices hf:FZ w.roots[k].fam/\WhL (stA s.1.1 w.hist w.roots[k].fam.rv) w.roots[k].fam from⟨km,λr hr=>Wvg hg hc (km.1 r hr).1.1 (km.1 r hr).1.2 (di.rd r hr),hf.1,hf.2⟩
 by_cases h2:w.roots[k].phase=2
 .obtain⟨f1,⟨rows,f2⟩,f3⟩:=di.fam h2;obtain⟨_,_,hF⟩:=(hx.live (by omega)).fork h2;refine⟨FZ.of f3.fp.ft hF jF.k3 (λc hc=>(jF.kids c hc).len) f2,?_⟩;rw[f1];exact Wqu f3.fp.ft (FZ.of f3.fp.ft hF jF.k3 (λc hc=>(jF.kids c hc).len) f2) (Wiv hg hc).1 λc v c0 c7 hM=>Wvg hg hc c0 c7 hM
 .rw[di.fam0 h2];refine⟨⟨⟨(λr hr=>by cases hr),Xbr _⟩,Xbr _,(λr hr=>by cases hr),(λr hr=>by cases hr),Xbr _,(λr hr=>by cases hr)⟩,λr hr=>by cases hr⟩
section
variable{R:Type}{s1:Sc}{K0:Option R}{K1:Int->Bool->Option R}{A:List Int}
theorem Wtf(hk:k<w.roots.length):Xb (w.roots.map Rt.e) (Xa (k:Int)) d_Root=Rt.e w.roots[k]:=by
 rw[Xj,Wt (show k<(w.roots.map Rt.e).length by simpa using hk),Xco]
theorem WqG(hk:k<w.roots.length)(hA:Vals 8 A)(hr:WcU w.roots[k].reads/\w.roots[k].reads.length<=300)(hv:∀r∈w.roots[k].reads,A.getD r.1.toNat 0=r.2):∀(d j fuel:Nat),j+d=w.roots[k].reads.length->d<fuel->Zdr N (k:Int) s1 w.e A K0 K1 fuel (j:Int)=K1 (w.roots[k].reads.length:Int) false
 |0,j,fuel,hj,hf=>by
  obtain⟨g,rfl⟩:∃g,fuel=g+1:=⟨fuel-1,by omega⟩;have:j=w.roots[k].reads.length:=by omega
  subst this;have e5:P5 w.e=w.roots.map Rt.e:=rfl;have fx:P13 (Rt.e w.roots[k])=w.roots[k].reads:=rfl;simp only[Zdr,Wu,e5,Wtf hk,fx,WZ (Xn _),Wc]
 |d+1,j,fuel,hj,hf=>by
  obtain⟨g,rfl⟩:∃g,fuel=g+1:=⟨fuel-1,by omega⟩;have hlt:j<w.roots[k].reads.length:=by omega
  have e5:P5 w.e=w.roots.map Rt.e:=rfl;have fx:P13 (Rt.e w.roots[k])=w.roots[k].reads:=rfl;have wz:=hr.1 _ (Xo hlt);have eG:inb w.roots[k].reads[j].1 A.length=true:=by unfold inb;rw[hA.len];simp;omega
  have ih:=WqG hk hA hr hv d (j+1) g (by omega) (by omega);simp only[Zdr,Wu,e5,Wtf hk,fx,WU hlt,Wp hlt,Wv hlt,We,eG,Wn (show j<4611686018427387904 by omega)];rw[hv _ (Xo hlt),bne_self_eq_false,Wc];exact ih
theorem Wrm(aF:Int)(hk:k<w.roots.length)(hA:Vals 8 A)(hr:WcU w.roots[k].reads/\w.roots[k].reads.length<=300)(hv:∀r∈w.roots[k].reads,A.getD r.1.toNat 0=r.2):∀(d j fuel:Nat),j+d=w.roots[k].reads.length->d<fuel->Zdu N (w.roots.map Rt.e) aF (k:Int) w.roots[k].reads s1 w.e A K0 K1 fuel (j:Int)=K1 (w.roots[k].reads.length:Int) false
 |0,j,fuel,hj,hf=>by
  obtain⟨g,rfl⟩:∃g,fuel=g+1:=⟨fuel-1,by omega⟩;have:j=w.roots[k].reads.length:=by omega
  subst this;have fx:(Rt.e w.roots[k]).2.2.2.2.2.2.2.2.2.2.2.2.2.1=w.roots[k].reads:=rfl;simp only[Zdu,Wu,Wtf hk,fx,WZ (Xn _),Wc]
 |d+1,j,fuel,hj,hf=>by
  obtain⟨g,rfl⟩:∃g,fuel=g+1:=⟨fuel-1,by omega⟩;have hlt:j<w.roots[k].reads.length:=by omega
  have fx:(Rt.e w.roots[k]).2.2.2.2.2.2.2.2.2.2.2.2.2.1=w.roots[k].reads:=rfl;have wz:=hr.1 _ (Xo hlt);have eG:inb w.roots[k].reads[j].1 A.length=true:=by unfold inb;rw[hA.len];simp;omega
  have ih:=Wrm aF hk hA hr hv d (j+1) g (by omega) (by omega);simp only[Zdu,Wu,Wtf hk,fx,WU hlt,Wp hlt,Wv hlt,We,eG,Wn (show j<4611686018427387904 by omega)];rw[hv _ (Xo hlt),bne_self_eq_false,Wc];exact ih
theorem WtK(hk:k<w.roots.length)(hA:Vals 8 A)(hr:WcU w.roots[k].reads/\w.roots[k].reads.length<=300)(hv:∀r∈w.roots[k].reads,A.getD r.1.toNat 0=r.2):∀(d j fuel:Nat),j+d=w.roots[k].reads.length->d<fuel->Zcl N (k:Int) s1 w.e A K0 K1 fuel (j:Int)=K1 (w.roots[k].reads.length:Int) false
 |0,j,fuel,hj,hf=>by
  obtain⟨g,rfl⟩:∃g,fuel=g+1:=⟨fuel-1,by omega⟩;have:j=w.roots[k].reads.length:=by omega
  subst this;have e5:P5 w.e=w.roots.map Rt.e:=rfl;have fx:P13 (Rt.e w.roots[k])=w.roots[k].reads:=rfl;simp only[Zcl,Wu,e5,Wtf hk,fx,WZ (Xn _),Wc]
 |d+1,j,fuel,hj,hf=>by
  obtain⟨g,rfl⟩:∃g,fuel=g+1:=⟨fuel-1,by omega⟩;have hlt:j<w.roots[k].reads.length:=by omega
  have e5:P5 w.e=w.roots.map Rt.e:=rfl;have fx:P13 (Rt.e w.roots[k])=w.roots[k].reads:=rfl;have wz:=hr.1 _ (Xo hlt);have eG:inb w.roots[k].reads[j].1 A.length=true:=by unfold inb;rw[hA.len];simp;omega
  have ih:=WtK hk hA hr hv d (j+1) g (by omega) (by omega);simp only[Zcl,Wu,e5,Wtf hk,fx,WU hlt,Wp hlt,Wv hlt,We,eG,Wn (show j<4611686018427387904 by omega),Wq (show¬w.roots[k].reads[j].1<0 by omega),Wq (show¬w.roots[k].reads[j].1>=Wi A by unfold Wi;rw[hA.len];omega),Wc];rw[hv _ (Xo hlt),bne_self_eq_false,Wc];exact ih
end
theorem Wlk{code:List Int}(hN:1048576<N):Zfm N code=ret true:=by
 unfold Zfm Ztr;simp only[Xd];by_cases hb:code.length<=1048576
 .have e0:decide (Wi code>1048576)=false:=by simp[Wi];omega
  obtain⟨s,es,hs⟩:=WlV hN hb;rw[e0,es];simp only[Wc,ret,Xd];rw[Ws8 hs hN,WiN hs hN];simp only[ret,Xd];by_cases aY:WoD s=true
  .rw[Wb aY,aY];simp only[Xr,Wc];have oO:=WsJ aY;obtain⟨h1,h2,h3,h4⟩:=WgK aY;obtain⟨w,hw⟩:∃w,Wud s=w:=⟨_,rfl⟩;rw[hw]at oO⊢;have hc:=h1.cells;have hg:=oO.hg (by omega);have nN:w.roots.length<=4:=by rw[oO.ok.len];exact oO.ok.l4
   have fb:=λk hk=>Wul (k:=k) oO (by omega) hc hk;have fV:(w.roots.map Rt.e).length=w.roots.length:=Xu ..;have e5:P5 w.e=w.roots.map Rt.e:=rfl;have e6:Q6 w.e=w.hist:=rfl;have wA:w.e.2.2.2.2.2.2=w.hist:=rfl;have wB:w.e.2.2.2.2.2.1=w.roots.map Rt.e:=rfl;have q4:∀x:Rt,x.e.2.2.2.2.1=x.rv:=λ_=>rfl;have wC:∀x:Rt,x.e.2.2.2.2.2.2.2.2.2.2.2.2.2.1=x.reads:=λ_=>rfl;have wD:∀x:Rt,x.fam.e.1=x.fam.rv:=λ_=>rfl;have ra:∀x:Rt,x.e.2.2.2.2.2.2.2.2.2.2.2.2.2.2.2.2.2.2.2.2.2=x.fam.e:=λ_=>rfl;have rb:Zhp N s w.e=ret true:=by
    unfold Zhp;rw[Wfb (by have:=hs.cells;omega) (by have:=hs.map;omega) hN,WkD.2 h1,wA,Wd2 hg hN];simp only[ret,Xd,Xr,Wc];have l1:=Wy (l:=w.roots.map Rt.e) (V:=Unit) (R:=Unit×Ko) (lp:=λn j v=>Zds N s w.e (some ((),(false,()))) (λv7 rJ=>(some ((),(true,())))) n j) (n:=N) (by omega)
     (body:=λj x v k=>k v) (K:=λ_ v=>some ((),(true,())))
     (λn i v hi=>by
      have dB:i<w.roots.length:=by omega
      obtain⟨a1,a2,a3,a4⟩:=fb i dB;simp only[Zds,Wu,e5,e6,WU hi,Wp hi,Wtf dB,We,q4,wC,wD,ra,Wn (show i<4611686018427387904 by omega),WbG (show w.roots[i].reads.length<=1048576 by omega) hN,Waz a1.1 a1.2,ret,Xd,Xr,Wc,Wgg hg hc hN];rw[show(0:Int)=((0:Nat):Int)from rfl,WqG dB (Wiv hg hc).1 a1 a2 w.roots[i].reads.length 0 N (by omega) (by omega)];simp only[Wlg a3 (Wiv hg hc).1 a4 hN,ret,Xd,Xr,Wc])
     (λn v=>by simp only[Zds,e5,WZ (Xn _),Wc]) ()
    refine l1.trans ?_;rw[Wbf (f:=λv _=>v) _ 0 () (λj x v k _=>rfl)]
   have rc:Zhr N s w.e=ret true:=by
    unfold Zhr;rw[We1 (by have:=hs.cells;omega) (by have:=hs.map;omega) hN,WkD.2 h1,wA,wB,Whd hg hN];simp only[ret,Xd,Xr,Wc];have l1:=Wy (l:=w.roots.map Rt.e) (V:=Unit) (R:=Unit×Ko) (lp:=λn j v=>Zdv N (w.roots.map Rt.e) s w.e (some ((),(false,()))) (λv7 rJ=>(some ((),(true,())))) n j) (n:=N) (by omega)
     (body:=λj x v k=>k v) (K:=λ_ v=>some ((),(true,())))
     (λn i v hi=>by
      have dB:i<w.roots.length:=by omega
      obtain⟨a1,a2,a3,a4⟩:=fb i dB;simp only[Zdv,Wu,e5,e6,WU hi,Wp hi,Wtf dB,We,q4,wC,wD,ra,Wn (show i<4611686018427387904 by omega),Wap (show w.roots[i].reads.length<=1048576 by omega) hN,Waz a1.1 a1.2,ret,Xd,Xr,Wc,WkT hg hc hN];rw[show(0:Int)=((0:Nat):Int)from rfl,Wrm _ dB (Wiv hg hc).1 a1 a2 w.roots[i].reads.length 0 N (by omega) (by omega)];simp only[WmG a3 (Wiv hg hc).1 a4 hN,ret,Xd,Xr,Wc])
     (λn v=>by simp only[Zdv,e5,WZ (Xn _),Wc]) ()
    refine l1.trans ?_;rw[Wbf (f:=λv _=>v) _ 0 () (λj x v k _=>rfl)]
   have l1:=Wy (l:=w.roots.map Rt.e) (V:=Unit) (R:=Unit×Ko) (lp:=λn j v=>Zcm N s w.e (some ((),(false,()))) (λmg iZ=>
  (bif (Wi w.e.2.2.2.2.2.1)==(Wi s.2.1)then
 ((Zhp N s w.e).bind λoq=>
 (bif oq.2.1 then
 ((Zhr N s w.e).bind λjy=>
 (some ((),(jy.2.1,()))))
 else
 (some ((),(false,())))))
 else
 (some ((),(false,()))))) n j) (n:=N) (by omega)
    (body:=λj x v k=>k v) (K:=λ_ v=>some ((),(true,())))
    (λn i v hi=>by
     have dB:i<w.roots.length:=by omega
     obtain⟨a1,a2,a3,a4⟩:=fb i dB;simp only[Zcm,Wu,e5,e6,WU hi,Wp hi,Wtf dB,We,q4,Wn (show i<4611686018427387904 by omega),Wgg hg hc hN,ret,Xd];rw[show(0:Int)=((0:Nat):Int)from rfl,WtK dB (Wiv hg hc).1 a1 a2 w.roots[i].reads.length 0 N (by omega) (by omega)])
    (λn v=>by
     simp only[Zcm,e5,WZ (Xn _),Wc];rw[show(Wi w.e.2.2.2.2.2.1==Wi s.2.1)=true by rw[wB];unfold Wi;rw[fV,oO.ok.len];simp,We,rb];simp only[ret,Xd,We,rc]) ()
   refine l1.trans ?_;rw[Wbf (f:=λv _=>v) _ 0 () (λj x v k _=>rfl)]
  .rw[Wa aY,show WoD s=false by simpa using aY];rfl
 .have e0:decide (Wi code>1048576)=true:=by simp[Wi];omega
  rw[e0];rfl
theorem law_FnOpaque(d:We2 [.v (.slice (.int .u8)) false])(hw:Wn3 [.v (.slice (.int .u8)) false] d):∃N o,Zfm N d.1=some (o,(true,())):=
 ⟨1048577,(),Wlk (N:=1048577) (by omega)⟩
end
end
end Go.Sx
