/- Plain laws of the Lean functions. -/
import Derived.Test.YtceijnpnofmkkaaGreatMW3
open List renaming mem_filter→Xav,getElem_mem→Xo,length_set→Xah,getElem_set→Xau,getElem_replicate→Xbi,pairwise_iff_getElem→Xak,getElem_of_mem→Xao,all_eq_true→Xag,foldl_cons→Xbb,all_cons→Xci,set_getElem_self→Xbd,getElem_set_self→Xey,set_set→Xdl,countP_cons→Xdv,getElem_set_ne→Xfk,foldl_append→Xes,mem_cons_self→Xg,mem_cons_of_mem→Xe,mem_append→Xn,mem_singleton→Xac
open Int renaming le_refl→Xx,toNat_natCast→Xj
open Bool renaming and_eq_true→Xi,or_eq_true→Xcb,not_true→Xt
open Nat renaming le_refl→Xm,zero_le→Xbp
open Option renaming bind_some→Xc
namespace Go.Sx
set_option linter.unusedVariables false
set_option linter.unusedSimpArgs false
section
structure LB(w:Wo)(k:Nat)(x:Rt):Prop where
 cm:x.phase=5->x.cm.who=(k:Int)+1/\CmLk w.mem x.cm
 no:x.phase≠5->∀i,0<=i->i<=7->owner w.mem i≠(k:Int)+1
 hd:∀h∈w.holds,h.1=(k:Int)+1->x.phase≠0/\x.phase≠8
 tk:w.token=(k:Int)+1->x.tries>=3/\x.phase≠8
structure LQ(w:Wo)(k:Nat)(q:Wo×Rt):Prop where
 b:LB q.1 k q.2
 oth:∀who,who≠(k:Int)+1->who≠0->∀i,0<=i->i<=7->(owner q.1.mem i=who↔owner w.mem i=who)/\(owner w.mem i=who->Wz q.1.mem i=Wz w.mem i)
 clk:w.mem.1<=q.1.mem.1
 hdo:∀h∈q.1.holds,h.1≠(k:Int)+1->∃h'∈w.holds,h'.1=h.1
 tko:q.1.token≠0->q.1.token≠(k:Int)+1->q.1.token=w.token
section
variable{w:Wo}{x:Rt}{k:Nat}{p:Pg}{q:Wo×Rt}{o:Opn}{n:Int}
theorem LQ.of(hm:q.1.mem=w.mem)(hh:q.1.holds=w.holds)(ht:q.1.token=w.token)(hb:LB q.1 k q.2):LQ w k q:=
 ⟨hb,λwho h1 h0 i a b=>by rw[hm];exact⟨Iff.rfl,λ_=>rfl⟩,by rw[hm];omega,λh eW _=>⟨h,by rw[←hh];exact eW,rfl⟩,λ_ _=>ht⟩
theorem LQ.keep(hb:LB w k x)(hm:q.1.mem=w.mem)(hh:q.1.holds=w.holds)(ht:q.1.token=w.token)(h5:x.phase≠5)(hp:q.2.phase≠0/\q.2.phase≠5/\q.2.phase≠8)(ng:q.2.tries=x.tries):LQ w k q:=
 LQ.of hm hh ht ⟨λh=>Wi h hp.2.1,λ_=>by rw[hm];exact hb.no h5,λh eW hk=>⟨hp.1,hp.2.2⟩,λh=>by rw[ht]at h;rw[ng];exact⟨(hb.tk h).1,hp.2.2⟩⟩
theorem Wc8:(WR x).phase≠0/\(WR x).phase≠5/\(WR x).phase≠8:=by
 unfold WR Wdf;split<;>simp
theorem WlD(h1:x.phase=1):(Wdg w x o).phase≠0/\(Wdg w x o).phase≠5/\(Wdg w x o).phase≠8:=by
 unfold Wdg;cases Wbv x.writes o.2.2.1 with
 |some v=>simp only;omega
 |none=>
  simp only;generalize W5 w.mem x.rv _=b;split
  .exact Wc8
  .split<;>(simp only;omega)
theorem Wpg{l:List Hd}{who:Int}(h:(Wf0 l who).length=0):∀e∈l,e.1≠who:=λe he hw=>by
 have:e.2.1∈Wf0 l who:=List.mem_map.2 ⟨e,Xav.2 ⟨he,by simpa using hw⟩,rfl⟩;rw[List.eq_nil_of_length_eq_zero h]at this;cases this
theorem WvY(cE:∀i,0<=i->i<=7->owner w.mem i≠(k:Int)+1)(hh:∀e∈w.holds,e.1≠(k:Int)+1):LQ w k (Wkw w x k):=by
 unfold Wkw;refine⟨⟨λh=>by(change (8:Int)=5 at h;omega),λ_=>cE,λh eW hk=>Wi hk (hh h eW),λh=>?_⟩,λwho h1 h0 i a b=>⟨Iff.rfl,λ_=>rfl⟩,Xx _,λh eW _=>⟨h,eW,rfl⟩,λh0 h1=>?_⟩
 .change (if w.token=(k:Int)+1 then 0 else w.token)=(k:Int)+1 at h;split at h<;>omega
 .change (if w.token=(k:Int)+1 then 0 else w.token)≠0 at h0;show(if w.token=(k:Int)+1 then 0 else w.token)=w.token;split
  .rename_i hc;rw[Wb hc]at h0;exact Wi rfl h0
  .rfl
theorem Wqh(hb:LB w k x)(h1:x.phase=1){out:Int}:LQ w k (WaC w x k out):=by
 have cE:=hb.no (by omega);unfold WaC;simp only;generalize hr:(if out=2 then []else x.writes)=rows;split
 .rename_i hc;exact WvY cE (Wpg hc.2)
 .refine LQ.of rfl rfl rfl ⟨λ_=>⟨rfl,?_⟩,λh=>Wi rfl h,λh hh hk=>by(show(5:Int)≠0/\(5:Int)≠8;omega),λh=>⟨(hb.tk h).1,by show(5:Int)≠8;omega⟩⟩;have wM:∀i,¬lkd (Wbl ((k:Int)+1) x.rv rows x.reads) i:=λi ⟨j,hj,a,b⟩=>by
   change j<(WcT rows).length at hj;have aW:(Wbl ((k:Int)+1) x.rv rows x.reads).phase=1:=by show(if(WcT rows).length=0 then(2:Int)else 1)=1;rw[Wa (by omega)]
   have ch:(Wbl ((k:Int)+1) x.rv rows x.reads).pos=0:=rfl;unfold lkA at b;omega
  refine⟨λi h0 h7=>⟨λh=>Wi h (cE i h0 h7),λh=>Wi h (wM i)⟩,λh3=>?_⟩;have aW:(Wbl ((k:Int)+1) x.rv rows x.reads).phase=1\/(Wbl ((k:Int)+1) x.rv rows x.reads).phase=2:=by
   show(if(WcT rows).length=0 then(2:Int)else 1)=1\/(if(WcT rows).length=0 then(2:Int)else 1)=2;split<;>simp
  exfalso;change (Wbl ((k:Int)+1) x.rv rows x.reads).phase=3\/(Wbl ((k:Int)+1) x.rv rows x.reads).phase=4\/(Wbl ((k:Int)+1) x.rv rows x.reads).phase=5 at h3;omega
theorem WuC(hb:LB w k x)(h1:x.phase=1){code:List Opn}:LQ w k (Wb0 w x k code):=by
 unfold Wb0;split
 .exact Wqh hb h1
 .split
  .exact LQ.keep hb rfl rfl rfl (by omega) (by unfold Wea;simp only;omega) rfl
  .exact LQ.keep hb rfl rfl rfl (by omega) (by simp only;omega) rfl
theorem WuX(hd:x.doomed=false)(hb:LB w k x)(h1:x.phase=1)(hH:HOk w.holds):LQ w k (WbO w x k o):=by
 unfold WbO;cases ha:WaX w.holds ((k:Int)+1) (WaH o).1 (WaH o).2 with
 |none=>exact LQ.keep hb rfl rfl rfl (by omega) Wc8 (Wf5 hd).2.2
 |some hs=>
  have hmem:∀e∈hs,e.1≠(k:Int)+1->e∈w.holds:=λe he hne=>by
   unfold WaX at ha;split at ha
   .injection ha with ha;subst ha;unfold Whn at he;rcases(Wbm Wpp hH.ris).1 he with rfl|he
    .exact Wi rfl hne
    .exact he.1
   .cases ha
  exact⟨⟨λh=>by(change x.phase=5 at h;omega),λ_=>hb.no (by omega),λh hh hk=>by(show x.phase≠0/\x.phase≠8;omega),λh=>⟨(hb.tk h).1,by show x.phase≠8;omega⟩⟩,
   λwho h1 h0 i a b=>⟨Iff.rfl,λ_=>rfl⟩,Xx _,λh hh hne=>⟨h,hmem h hh hne,rfl⟩,λ_ _=>rfl⟩
theorem WxG(hd:x.doomed=false)(hb:LB w k x)(h1:x.phase=1)(hH:HOk w.holds):LQ w k (Wgk w x k p):=by
 unfold Wgk;split
 .exact Wqh hb h1
 .simp only;generalize opN p.1 x.pc=o;split
  .exact LQ.keep hb rfl rfl rfl (by omega) (WlD h1) (WtL hd (by omega)).2.2
  .split
   .exact WuC hb h1
   .split
    .exact LQ.keep hb rfl rfl rfl (by omega) (by simp only;omega) rfl
    .split
     .exact WuX hd hb h1 hH
     .repeat' split
      all_goals exact LQ.keep hb rfl rfl rfl (by omega) (by simp only;omega) rfl
theorem WwW(hb:LB w k x)(h0:x.phase=0):LQ w k (Wds w x k):=by
 unfold Wds;split
 .exact LQ.of rfl rfl rfl hb
 .split
  .rename_i hc;exact⟨⟨hb.cm,hb.no,hb.hd,λ_=>⟨hc.1,by show x.phase≠8;omega⟩⟩,λwho h1 h0 i a b=>⟨Iff.rfl,λ_=>rfl⟩,Xx _,λh hh _=>⟨h,hh,rfl⟩,λ_ hne=>Wi rfl hne⟩
  .split
   .exact LQ.of rfl rfl rfl hb
   .exact LQ.keep hb rfl rfl rfl (by omega) (by simp only;omega) rfl
theorem Wte(hb:LB w k x)(h5:x.phase=5)(hc:CmOk x.cm)(hm:W2 w.mem=true):LQ w k (Waf w x k):=by
 obtain⟨hw,hcl⟩:=hb.cm h5;have nk:∀c:Cm,c.phase=6\/c.phase=8->∀i,¬lkd c i:=λc aW i ⟨j,hj,a,b⟩=>by unfold lkA at b;omega
 unfold Waf;split
 .have yD:=Wq1 hc hcl;have yE:=Wpn x.cm;split
  .rename_i h8;refine LQ.of rfl rfl rfl ⟨λh=>by(change (6:Int)=5 at h;omega),λ_ i a b=>?_,λh hh hk=>by(show(6:Int)≠0/\(6:Int)≠8;omega),λh=>⟨(hb.tk h).1,by show(6:Int)≠8;omega⟩⟩;intro ho;exact nk _ (.inr h8) i ((yD.own i a b).1 (by rw[yE,hw];exact ho))
  .exact LQ.of rfl rfl rfl ⟨λ_=>⟨by show(Waa x.cm).who=_;rw[yE,hw],yD⟩,λh=>Wi h5 h,hb.hd,hb.tk⟩
 .have hs:=Wun hc hm hcl;have um:=Wkn w.mem x.cm;have fZ:=λwho (a:who≠(k:Int)+1) (b:who≠0) (i:Int) (c:0<=i) (d:i<=7)=>Wkp (i:=i) hc hm (who:=who) (by rw[hw];exact a) b ⟨c,d⟩;have ni:=WhP w.mem x.cm;simp only;refine⟨?_,fZ,ni,λh hh _=>⟨h,hh,rfl⟩,λ_ _=>rfl⟩;have cE:(Ws w.mem x.cm).2.phase=6\/(Ws w.mem x.cm).2.phase=8->∀i,0<=i->i<=7->owner (Ws w.mem x.cm).1 i≠(k:Int)+1:=λaW i a b ho=>nk _ aW i ((hs.own i a b).1 (by rw[um,hw];exact ho));generalize (Ws w.mem x.cm).1=m' at*;generalize (Ws w.mem x.cm).2=c' at*;unfold WaL;simp only;by_cases h8:c'.phase=8
  .rw[Wb h8];exact⟨λh=>by(change (6:Int)=5 at h;omega),λ_=>cE (.inr h8),λh hh hk=>by(show(6:Int)≠0/\(6:Int)≠8;omega),λh=>⟨(hb.tk h).1,by show(6:Int)≠8;omega⟩⟩
  .rw[Wa h8];by_cases h6:c'.phase=6
   .rw[Wb h6];have aW:(if x.fate=2 then(6:Int)else 7)=6\/(if x.fate=2 then(6:Int)else 7)=7:=by split<;>simp
    generalize (if x.fate=2 then(6:Int)else 7)=ph at*;exact⟨λh=>by(change ph=5 at h;omega),λ_=>cE (.inl h6),λh hh hk=>by(show ph≠0/\ph≠8;omega),λh=>⟨(hb.tk h).1,by show ph≠8;omega⟩⟩
   .rw[Wa h6];exact⟨λ_=>⟨by show c'.who=_;rw[um,hw],hs⟩,λh=>Wi h5 h,hb.hd,hb.tk⟩
theorem Wxl(hx:RX x)(ho:ROk p n x)(hg:GOk w)(hb:LB w k x):LQ w k (WW w x k p):=by
 have aW:=ho.phase;unfold WW;by_cases hd:x.doomed=true/\1<=x.phase/\x.phase<=4
 .rw[Wb hd];exact LQ.keep hb rfl rfl rfl (by omega) (by unfold Wdf;simp) rfl
 rw[Wa hd];have cZ:x.phase≠5->x.doomed=false:=λh5=>by
  rw[Bool.eq_false_iff];intro h;rcases hx.doom h with h1|h1
  .exact hd ⟨h,h1⟩
  .exact h5 h1.1
 by_cases h0:x.phase=0
 .rw[Wb h0];exact WwW hb h0
 rw[Wa h0];by_cases h1:x.phase=1
 .rw[Wb h1];exact WxG (cZ (by omega)) hb h1 hg.holds
 rw[Wa h1];by_cases h2:x.phase=2
 .rw[Wb h2];refine LQ.keep hb rfl rfl rfl (by omega) ?_ (Wsh (w:=w) (cZ (by omega)) (by omega)).tries;unfold WbR Wdf
  repeat' split
  all_goals(simp only;omega)
 rw[Wa h2];by_cases h3:x.phase=3
 .rw[Wb h3];refine LQ.keep hb (Wip (cZ (by omega)) (by omega)).mem ?_ ?_ (by omega) ?_ (Wip (cZ (by omega)) (by omega)).tries
  all_goals(unfold Wa1 Wea;split<;>first|rfl|(simp only;omega))
 rw[Wa h3];by_cases h4:x.phase=4
 .rw[Wb h4];refine LQ.keep hb rfl rfl rfl (by omega) ?_ (Wn3 (w:=w) (cZ (by omega)) (by omega)).tries;unfold WaA Wdf;simp only
  repeat' split
  all_goals(simp only;omega)
 rw[Wa h4];by_cases h5:x.phase=5
 .rw[Wb h5];exact Wte hb h5 (ho.comm h5) hg.mem
 rw[Wa h5];by_cases h6:x.phase=6
 .rw[Wb h6];by_cases hz:x.undos.length>0
  .rw[Wb hz];exact LQ.keep hb rfl rfl rfl (by omega) (by unfold Wea;simp only;omega) rfl
  .rw[Wa hz];exact LQ.keep hb rfl rfl rfl (by omega) (by simp only;omega) rfl
 rw[Wa h6];by_cases h7:x.phase=7
 .rw[Wb h7];have hfree:∀e∈W7 w.holds ((k:Int)+1),e.1≠(k:Int)+1/\e∈w.holds:=λe he=>by
   have:=Xav.1 he;exact⟨by simpa using this.2,this.1⟩
  have cE:=hb.no (by omega);by_cases hf:x.fate=0
  .rw[Wb hf];refine⟨⟨λh=>by(change (0:Int)=5 at h;omega),λ_=>cE,λh hh hk=>Wi hk (hfree h hh).1,λh=>⟨?_,by show(0:Int)≠8;omega⟩⟩,λwho h1 h0 i a b=>⟨Iff.rfl,λ_=>rfl⟩,Xx _,λh hh _=>⟨h,(hfree h hh).2,rfl⟩,λ_ _=>rfl⟩;have:=(hb.tk h).1;show x.tries+1>=3;omega
  .rw[Wa hf];have:=WvY (w:={w with holds:=W7 w.holds ((k:Int)+1)}) (x:=x) cE (λe he=>(hfree e he).1);exact⟨this.b,this.oth,this.clk,λh hh hne=>by obtain⟨h',a,b⟩:=this.hdo h hh hne;exact⟨h',(hfree h' a).2,b⟩,this.tko⟩
 .rw[Wa h7];exact LQ.of rfl rfl rfl hb
end
structure LX(w:Wo):Prop where
 root:∀(k:Nat) (h:k<w.roots.length),LB w k w.roots[k]
 ow:∀i,0<=i->i<=7->owner w.mem i=0\/∃k:Nat,k<w.roots.length/\owner w.mem i=(k:Int)+1
 hd:∀h∈w.holds,∃k:Nat,k<w.roots.length/\h.1=(k:Int)+1
 tk:w.token=0\/∃k:Nat,k<w.roots.length/\w.token=(k:Int)+1
section
variable{s:Sc}{w v:Wo}{n:Int}{a:Ac}{k:Nat}{q:Wo×Rt}
theorem LB.other{j:Nat}{y:Rt}(h:LB w j y)(hq:LQ w k q)(hne:j≠k)(hc:y.phase=5->CmOk y.cm):LB q.1 j y:=by
 have hw:((j:Int)+1)≠(k:Int)+1:=by omega
 have ho:=hq.oth ((j:Int)+1) hw (by omega);refine⟨λh5=>?_,λh5 i a b hz=>h.no h5 i a b ((ho i a b).1.1 hz),λe he hk=>?_,λhz=>?_⟩
 .obtain⟨c1,c2⟩:=h.cm h5;refine⟨c1,λi a b=>?_,λh3=>?_⟩
  .rw[c1,(ho i a b).1,←c1];exact c2.own i a b
  .obtain⟨v1,v2⟩:=c2.ver h3;refine⟨Int.le_trans v1 hq.clk,λi hi=>?_⟩;obtain⟨l,hl,e1,e2⟩:=hi;have hr:=(hc h5).rows _ (Xo hl);have gz:lkd y.cm i:=⟨l,hl,e1,e2⟩;have hown:=(c2.own i (by omega) (by omega)).2 gz;rw[(ho i (by omega) (by omega)).2 (by rw[hown,c1])];exact v2 i gz
 .obtain⟨h',a,b⟩:=hq.hdo e he (by rw[hk];exact hw);exact h.hd h' a (b.trans hk)
 .exact h.tk ((hq.tko (by omega) (by omega)).symm.trans hz)
theorem WsW{w0:Wo}(hx:LX w0)(hk:k<w0.roots.length)(hr:q.1.roots=w0.roots)(hq:LQ w0 k q)(hc:∀(i:Nat) (h:i<w0.roots.length),w0.roots[i].phase=5->CmOk w0.roots[i].cm):LX (Wo.put q k):=by
 have hlen:(q.1.roots.set k q.2).length=w0.roots.length:=by rw[Xah,hr]
 have hmem:∀i,owner (Wo.put q k).mem i=owner q.1.mem i:=λ_=>rfl;refine⟨λi hi=>?_,λi a b=>?_,λe he=>?_,?_⟩
 .change i<(q.1.roots.set k q.2).length at hi;have jk:i<w0.roots.length:=by rw[←hlen];exact hi
  have iQ:∀y,LB q.1 i y->LB (Wo.put q k) i y:=λy hy=>⟨hy.cm,hy.no,hy.hd,hy.tk⟩;show LB (Wo.put q k) i ((q.1.roots.set k q.2)[i]'hi);rw[Xau];by_cases he:k=i
  .subst he;rw[Wb rfl];exact iQ _ hq.b
  .rw[Wa he];simp only[hr];exact iQ _ ((hx.root i jk).other hq (λh=>he h.symm) (hc i jk))
 .show owner q.1.mem i=0\/∃j:Nat,j<(q.1.roots.set k q.2).length/\owner q.1.mem i=(j:Int)+1;rw[hlen];by_cases h0:owner q.1.mem i=0
  .exact .inl h0
  .by_cases h1:owner q.1.mem i=(k:Int)+1
   .exact .inr ⟨k,hk,h1⟩
   .have:=(hq.oth _ h1 h0 i a b).1.1 rfl;rw[←this];exact hx.ow i a b
 .show∃j:Nat,j<(q.1.roots.set k q.2).length/\e.1=(j:Int)+1;rw[hlen];by_cases h1:e.1=(k:Int)+1
  .exact⟨k,hk,h1⟩
  .obtain⟨h',a,b⟩:=hq.hdo e he h1;rw[←b];exact hx.hd h' a
 .show q.1.token=0\/∃j:Nat,j<(q.1.roots.set k q.2).length/\q.1.token=(j:Int)+1;rw[hlen];by_cases h0:q.1.token=0
  .exact .inl h0
  .by_cases h1:q.1.token=(k:Int)+1
   .exact .inr ⟨k,hk,h1⟩
   .rw[hq.tko h0 h1];exact hx.tk
theorem Wl7(h:WOk s.2.1 n w)(hx:WX w)(hl:LX w):LX (Wcw s w a):=by
 have be:LX {w with now:=w.now+1}:=⟨λk hk=>⟨(hl.root k hk).cm,(hl.root k hk).no,(hl.root k hk).hd,(hl.root k hk).tk⟩,hl.ow,hl.hd,hl.tk⟩;have hc:∀(i:Nat) (h:i<({w with now:=w.now+1}:Wo).roots.length),({w with now:=w.now+1}:Wo).roots[i].phase=5->CmOk ({w with now:=w.now+1}:Wo).roots[i].cm:=λi hi h5=>(h.root i hi).comm h5;unfold Wcw;simp only;split
 .rename_i hb;have hk:a.2.1.toNat<w.roots.length:=by omega
  have iQ:=be.root _ hk;rw[Wp hk];split
  .unfold WiC;rw[Wp (show a.2.1.toNat<({w with now:=w.now+1}:Wo).roots.length from hk)];exact WsW be hk (WhU h hk) (Wxl (n:=n) (hx _ hk) (h.root _ hk) ⟨h.mem,h.shelf,h.holds⟩ iQ) hc
  .split
   .split
    .exact WsW (w0:={w with now:=w.now+1}) be hk rfl (LQ.of rfl rfl rfl ⟨iQ.cm,iQ.no,iQ.hd,iQ.tk⟩) hc
    .exact be
   .split
    .split
     .exact WsW (w0:={w with now:=w.now+1}) be hk rfl (LQ.of rfl rfl rfl ⟨iQ.cm,iQ.no,iQ.hd,iQ.tk⟩) hc
     .exact be
    .exact be
 .exact be
theorem WsP:∀(l:List Ac) (n:Int) (w:Wo),WOk s.2.1 n w->WX w->LX w->LX (l.foldl (Wcw s) w)
 | [],n,w,h,hx,hl=>hl
 |a::l,n,w,h,hx,hl=>WsP l (n+1) _ (Wch (a:=a) h) (WdL (a:=a) h hx).1 (Wl7 h hx hl)
theorem WtY(aG:Wmo s=true):LX (Wft s):=by
 obtain⟨h1,h2,h3,h4⟩:=WeR aG;have qg:∀i,0<=i->i<=7->owner (Wft s).mem i=0:=λi a b=>by
  unfold owner Wz Wcl Wft Wkh;simp only;have:=h1.cells.len;rw[Wp (show i.toNat<(s.1.1.map wd0).length by rw[List.length_map];omega),List.getElem_map];rfl
 refine⟨λk hk=>?_,λi a b=>.inl (qg i a b),(λh hh=>by cases hh),.inl rfl⟩;have hr:(Wft s).roots[k]={}:=by simp only[Wft,Xbi]
 rw[hr];exact⟨λh=>by(change (0:Int)=5 at h;omega),(λ_ i a b=>by rw[qg i a b];omega),(λh hh=>by cases hh),λh=>by(change (0:Int)=(k:Int)+1 at h;omega)⟩
end
end
section
structure CGd(m:Mm)(c:Cm):Prop where
 ph:1<=c.phase/\c.phase<=5
 sole:∀i,0<=i->i<=7->owner m i=0\/owner m i=c.who
 ver:c.phase<=3->∀i,0<=i->i<=7->(Wz m i).2.1<=c.rv
variable{m:Mm}{c:Cm}
theorem Wqe(ph:Int)(h:ph=2\/ph=3\/ph=4\/ph=5\/ph=6):2<=WaM c ph/\WaM c ph<=6/\ph<=WaM c ph:=by
 unfold WaM;split
 .omega
 .split<;>omega
theorem WgV{ph:Int}(h:ph=2\/ph=3\/ph=4\/ph=5\/ph=6)(hc:1<=c.phase/\c.phase<=5)(hle:c.phase<=ph):1<=(Wv c ph).phase/\(Wv c ph).phase<=6/\c.phase<=(Wv c ph).phase/\(Wv c ph).rv=c.rv/\(Wv c ph).who=c.who:=by
 unfold Wv;split
 .have:=Wqe (c:=c) ph h;show 1<=WaM c ph/\WaM c ph<=6/\c.phase<=WaM c ph/\_/\_;exact⟨by omega,by omega,by omega,rfl,rfl⟩
 .exact⟨by show 1<=c.phase;omega,by show c.phase<=6;omega,Xx _,rfl,rfl⟩
theorem WsJ(hc:CmOk c)(hm:W2 m=true)(hk:CmLk m c)(hg:CGd m c)(df:m.1<1000000):1<=(Ws m c).2.phase/\(Ws m c).2.phase<=6/\(Ws m c).2.rv=c.rv/\
  ((Ws m c).2.phase<=3->∀i,0<=i->i<=7->(Wz (Ws m c).1 i).2.1<=c.rv):=by
 have aW:=hg.ph;have hpos:=hc.pos;unfold Cm.steps at hpos;have wN:∀j:Nat,(h:j<c.puts.length)->0<=c.puts[j].1/\c.puts[j].1<=7:=λj h=>(hc.rows _ (Xo h)).1;unfold Ws;simp only;by_cases p1:c.phase=1
 .rw[Wb p1];rw[p1]at hpos;simp at hpos;obtain⟨j,hj⟩:∃j:Nat,c.pos=j:=⟨c.pos.toNat,by omega⟩;have hjl:j<c.puts.length:=by omega
  have bP:Wcl c.puts c.pos (0,0)=c.puts[j]:=by unfold Wcl;rw[hj,Xj];exact Wp hjl _
  have hb:=wN j hjl;have cE:¬lkd c c.puts[j].1:=λ⟨i,hi,a,b⟩=>by
   have hij:i<j:=by unfold lkA at b;omega
   have:=Xak.1 hc.pup i j hi hjl hij;omega
  have hown:(Wz m c.puts[j].1).2.2=0:=by
   rcases hg.sole _ hb.1 hb.2 with h|h
   .exact h
   .exact Wi ((hk.own _ hb.1 hb.2).1 h) cE
  rw[bP,Wb hown];obtain⟨a,b,_,d,_⟩:=WgV (c:=c) (ph:=2) (by omega) aW (by omega);refine⟨a,b,d,λ_ i h0 h7=>?_⟩;show(Wz (Wl1 m c.puts[j].1 c.who) i).2.1<=c.rv;unfold Wl1;rw[Wco hm hb ⟨h0,h7⟩];split
  .exact hg.ver (by omega) _ hb.1 hb.2
  .exact hg.ver (by omega) i h0 h7
 rw[Wa p1];by_cases p2:c.phase=2
 .rw[Wb p2];have iD:tick m=((m.1+1,m.2),m.1+1):=by unfold tick;rw[Wb df]
  have h0:=(WF hm).2.1;rw[iD,Wa (show¬m.1+1=0 by omega)];have:=Wqe (c:={c with wv:=m.1+1}) 3 (by omega);exact⟨by show 1<=WaM {c with wv:=m.1+1} 3;omega,by show WaM {c with wv:=m.1+1} 3<=6;omega,rfl,λ_ i h0 h7=>hg.ver (by omega) i h0 h7⟩
 rw[Wa p2];by_cases p3:c.phase=3
 .rw[Wb p3];rw[p3]at hpos;simp at hpos;have kJ:0<=Wcl c.reads c.pos 0/\Wcl c.reads c.pos 0<=7:=by
   have:Wcl c.reads c.pos 0=c.reads[c.pos.toNat]'(by omega):=Wp (by omega) _;rw[this];exact hc.rd _ (Xo _)
  have hs:=hg.sole _ kJ.1 kJ.2;have hv:=hg.ver (by omega) _ kJ.1 kJ.2;unfold owner at hs;rw[Wa (by omega)];obtain⟨a,b,_,d,_⟩:=WgV (c:=c) (ph:=4) (by omega) aW (by omega);exact⟨a,b,d,λ_ i h0 h7=>hg.ver (by omega) i h0 h7⟩
 rw[Wa p3];by_cases p4:c.phase=4
 .rw[Wb p4];obtain⟨a,b,e,d,_⟩:=WgV (c:=c) (ph:=5) (by omega) aW (by omega);exact⟨a,b,d,λh=>by(change (Wv c 5).phase<=3 at h;omega)⟩
 rw[Wa p4,Wb (show c.phase=5 by omega)];obtain⟨a,b,e,d,_⟩:=WgV (c:=c) (ph:=6) (by omega) aW (by omega);exact⟨a,b,d,λh=>by(change (Wv c 6).phase<=3 at h;omega)⟩
end
section
structure RGd(m:Mm)(x:Rt):Prop where
 dm:x.doomed=false
 sp:x.spare=0
 ph:x.phase=1\/x.phase=2\/x.phase=5\/x.phase=6\/x.phase=7
 run:x.phase=1\/x.phase=2->Wwn m x.rv/\pbV m x.busy x.pb
 fam:x.phase=2->FGd m x.fam
 cm:x.phase=5->CGd m x.cm
 ft:x.phase=5\/x.phase=6\/x.phase=7->x.fate≠0
variable{w:Wo}{x y:Rt}{k:Nat}{p:Pg}{n:Int}{o:Opn}
theorem RGd.on{m:Mm}(h:RGd m x)(h1:x.phase=1)(hy:y.phase=1)(hd:y.doomed=x.doomed)(hs:y.spare=x.spare)(hr:y.rv=x.rv)(hv:pbV m y.busy y.pb):RGd m y:=
 ⟨hd.trans h.dm,hs.trans h.sp,.inl hy,λ_=>⟨by rw[hr];exact(h.run (.inl h1)).1,hv⟩,λh2=>by omega,λh2=>by omega,λh2=>by omega⟩
theorem WmI(h:RGd w.mem x)(h1:x.phase=1){out:Int}(ho:out≠0):(WaC w x k out).2.phase=8\/RGd (WaC w x k out).1.mem (WaC w x k out).2:=by
 have hf:=(h.run (.inl h1)).1;unfold WaC;simp only;generalize (if out=2 then []else x.writes)=rows;split
 .exact .inl rfl
 .have e:(Wbl ((k:Int)+1) x.rv rows x.reads).phase=if(WcT rows).length=0 then 2 else 1:=rfl;refine .inr ⟨h.dm,h.sp,.inr (.inr (.inl rfl)),λh2=>?_,λh2=>?_,λ_=>⟨?_,λi a b=>.inl (hf i a b).1,λ_ i a b=>(hf i a b).2⟩,λ_=>ho⟩
  .change (5:Int)=1\/(5:Int)=2 at h2;omega
  .change (5:Int)=2 at h2;omega
  .show 1<=(Wbl ((k:Int)+1) x.rv rows x.reads).phase/\(Wbl ((k:Int)+1) x.rv rows x.reads).phase<=5;rw[e];split<;>omega
theorem Wvf(h:RGd w.mem x)(h1:x.phase=1)(ht:RT x)(hB:0<=o.2.2.1/\o.2.2.1<=7):RGd w.mem (Wdg w x o):=by
 obtain⟨hf,hv⟩:=h.run (.inl h1);unfold Wdg;cases Wbv x.writes o.2.2.1 with
 |some v=>exact h.on h1 h1 rfl rfl rfl hv
 |none=>
  simp only;obtain⟨hc,uV,hs⟩:=WpN (b:=x.busy) (p:=x.pb) (c:=o.2.2.1) hf hv ht.pb hB;generalize (if x.busy=true then x.pb else(o.2.2.1,0,0,0))=q0 at*;generalize W5 w.mem x.rv q0=q at*;obtain⟨s1,s2,s3⟩:=hs;rw[Wa (by omega)];split
  .exact h.on h1 h1 rfl rfl rfl (λh=>by cases h)
  .refine h.on h1 h1 rfl rfl rfl λ_=>?_;show(0<=q.1/\q.1<=7)/\q.2.2.1=(Wz w.mem q.1).2.1;rw[s1];exact⟨hc,s3⟩
theorem WwF(aK:CC p.1)(hl:RLive p n x)(h:RGd w.mem x)(h1:x.phase=1)(ht:RT x)(hh:∀e∈w.holds,e.1=(k:Int)+1):(Wgk w x k p).2.phase=8\/RGd (Wgk w x k p).1.mem (Wgk w x k p).2:=by
 obtain⟨hf,hv⟩:=h.run (.inl h1);unfold Wgk;split
 .exact WmI h h1 (by omega)
 .obtain⟨i,hi,aT,ho⟩:=WfI (l:=p.1) hl.pc.1 (by have:=hl.pc;omega);simp only[ho];split
  .have aG:=Wxt (aK.ok i hi).1 ‹_›;have hB:0<=p.1[i].2.2.1/\p.1[i].2.2.1<=7:=by have:=aG.2;unfold WaF at this;simpa using this
   exact .inr (Wvf h h1 ht hB)
  .split
   .unfold Wb0;split
    .exact WmI h h1 (by omega)
    .split
     .exact .inr (h.on h1 h1 rfl rfl rfl hv)
     .exact .inr (h.on h1 h1 rfl rfl rfl hv)
   .split
    .refine .inr ⟨h.dm,h.sp,.inr (.inl rfl),λ_=>⟨hf,hv⟩,λ_=>⟨rfl,hf,λj hj=>?_⟩,λh2=>?_,λh2=>?_⟩
     .have e:(WaE x.rv x.regs x.writes p.2.length).kids[j]={regs:=x.regs}:=by simp only[WaE,Xbi]
      show pbV w.mem (WaE x.rv x.regs x.writes p.2.length).kids[j].busy (WaE x.rv x.regs x.writes p.2.length).kids[j].pb;rw[e]
      exactλh=>by cases h
     .change (2:Int)=5 at h2;omega
     .change (2:Int)=5\/(2:Int)=6\/(2:Int)=7 at h2;omega
    .split
     .have hb:Wgj w.holds ((k:Int)+1) (WaH p.1[i]).1 (WaH p.1[i]).2= []:=by
       unfold Wgj;rw[List.map_eq_nil_iff,List.filter_eq_nil_iff];intro e he;have:=hh e he;unfold blk;simp[this]
      have e:WaX w.holds ((k:Int)+1) (WaH p.1[i]).1 (WaH p.1[i]).2=some (Whn w.holds ((k:Int)+1) (WaH p.1[i]).1 (WaH p.1[i]).2):=by unfold WaX;rw[Wb hb]
      unfold WbO;rw[e];exact .inr (h.on h1 h1 rfl rfl rfl hv)
     .repeat' split
      all_goals exact .inr (h.on h1 h1 rfl rfl rfl hv)
theorem Wux(hp:POk p)(hx:ROk p n x)(h:RGd w.mem x)(ht:RT x)(hh:∀e∈w.holds,e.1=(k:Int)+1)(hm:W2 w.mem=true)(hb:LB w k x)(df:w.mem.1<1000000):
  (WW w x k p).2.phase=8\/RGd (WW w x k p).1.mem (WW w x k p).2:=by
 unfold WW;rw[Wa (by rw[h.dm];simp),Wa (by have:=h.ph;omega)];by_cases h1:x.phase=1
 .rw[Wb h1];exact WwF hp.code (hx.live (by omega)) h h1 ht hh
 rw[Wa h1];by_cases h2:x.phase=2
 .rw[Wb h2];obtain⟨hf,hv⟩:=h.run (.inr h2);right;show RGd w.mem (WbR x);unfold WbR;rw[Wa (by rw[(h.fam h2).lost];simp)];split
  .exact⟨h.dm,h.sp,.inl rfl,λ_=>⟨hf,hv⟩,λh2=>by(change (1:Int)=2 at h2;omega),λh2=>by(change (1:Int)=5 at h2;omega),λh2=>by(change (1:Int)=5\/(1:Int)=6\/(1:Int)=7 at h2;omega)⟩
  .exact h
 rw[Wa h2,Wa (by have:=h.ph;omega),Wa (by have:=h.ph;omega)];have lN:=h.ft (by have:=h.ph;omega);by_cases h5:x.phase=5
 .rw[Wb h5];obtain⟨hw,hcl⟩:=hb.cm h5;have hc:=hx.comm h5;have hg:=h.cm h5;obtain⟨a,b,d,e⟩:=WsJ hc hm hcl hg df;have um:=Wkn w.mem x.cm;have fZ:=λwho (a:who≠(k:Int)+1) (b:who≠0) (i:Int) (c:0<=i) (d:i<=7)=>Wkp (i:=i) hc hm (who:=who) (by rw[hw];exact a) b ⟨c,d⟩;right;unfold Waf;rw[Wa (by rw[h.dm];simp)];simp only;show RGd (Ws w.mem x.cm).1 (WaL {x with cm:=(Ws w.mem x.cm).2});generalize (Ws w.mem x.cm).1=m' at*;generalize (Ws w.mem x.cm).2=c' at*;unfold WaL;simp only;rw[Wa (by omega)];split
  .have aW:(if x.fate=2 then(6:Int)else 7)=6\/(if x.fate=2 then(6:Int)else 7)=7:=by split<;>simp
   generalize (if x.fate=2 then(6:Int)else 7)=ph at*;exact⟨h.dm,h.sp,by show ph=1\/ph=2\/ph=5\/ph=6\/ph=7;omega,λh2=>by(change ph=1\/ph=2 at h2;omega),λh2=>by(change ph=2 at h2;omega),λh2=>by(change ph=5 at h2;omega),λ_=>lN⟩
  .refine⟨h.dm,h.sp,.inr (.inr (.inl h5)),λh2=>by(change x.phase=1\/x.phase=2 at h2;omega),λh2=>by(change x.phase=2 at h2;omega),λ_=>⟨⟨a,by show c'.phase<=5;omega⟩,λi i0 i7=>?_,λh3 i i0 i7=>?_⟩,λ_=>lN⟩
   .show owner m' i=0\/owner m' i=c'.who;by_cases z0:owner m' i=0
    .exact .inl z0
    .by_cases zk:owner m' i=(k:Int)+1
     .exact .inr (by rw[um,hw];exact zk)
     .have:=(fZ _ zk z0 i i0 i7).1.1 rfl;rcases hg.sole i i0 i7 with hs|hs
      .rw[hs]at this;exact Wi this.symm z0
      .rw[hs,hw]at this;exact Wi this.symm zk
   .show(Wz m' i).2.1<=c'.rv;rw[d];exact e h3 i i0 i7
 rw[Wa h5];by_cases h6:x.phase=6
 .rw[Wb h6];right;by_cases hz:x.undos.length>0
  .rw[Wb hz];exact⟨h.dm,h.sp,.inr (.inr (.inr (.inl h6))),λh2=>by(change x.phase=1\/x.phase=2 at h2;omega),λh2=>by(change x.phase=2 at h2;omega),λh2=>by(change x.phase=5 at h2;omega),λ_=>lN⟩
  .rw[Wa hz];exact⟨h.dm,h.sp,.inr (.inr (.inr (.inr rfl))),λh2=>by(change (7:Int)=1\/(7:Int)=2 at h2;omega),λh2=>by(change (7:Int)=2 at h2;omega),λh2=>by(change (7:Int)=5 at h2;omega),λ_=>lN⟩
 .rw[Wa h6,Wb (by have:=h.ph;omega),Wa lN];exact .inl rfl
end
section
variable{s:Sc}{w v:Wo}{n:Int}{a:Ac}{x y:Rt}{k:Nat}{p:Pg}{f:Fm}{codes:List (List Opn)}{m:Mm}
theorem Wqr(hm:W2 m=true)(bd:∀c∈codes,KC c)(h3:codes.length<=3)(hF:FOk codes n f)(hT:∀(j:Nat) (h:j<f.kids.length),KT f j f.kids[j])(hk:k<codes.length):
  (WcE m f k (codes.getD k [])).lost=true\/∀(j:Nat) (h:j<(WcE m f k (codes.getD k [])).kids.length),KT (WcE m f k (codes.getD k [])) j (WcE m f k (codes.getD k [])).kids[j]:=by
 have hlen:=hF.len;have cw:k<f.kids.length:=by omega
 by_cases bI:f.lost=true
 .exact .inl (by rw[Wg7 bI];exact bI)
 have aS:codes.getD k []=codes[k]:=Wp hk _;have hKO:=hF.kid k cw;rw[aS]at hKO;have ho:=Wt6 (m:=m) (bd _ (Xo hk)) hF hKO (hT k cw);have hE:=WxT cw (by omega) (λc hc=>(bd c hc).toCC.len) hF hT rfl ho;have aM:WcE m f k (codes.getD k [])=Fm.put (Weq m f f.kids[k] k codes[k]) k:=by
  unfold WcE;rw[Wa bI,aS,show f.kids.getD k {}=f.kids[k]from Wp cw _]
 rw[aM];rcases hE with hE|hE
 .exact .inl hE
 .exact .inr hE.kt
theorem WrY{c:Cm}(hm:W2 m=true):(Ws m c).1.1<=m.1+1:=by
 have ht:(tick m).1.1<=m.1+1:=by unfold tick;split<;>(simp only;omega)
 unfold Ws;simp only;by_cases p1:c.phase=1
 .rw[Wb p1];split<;>(show m.1<=m.1+1;omega)
 rw[Wa p1];by_cases p2:c.phase=2
 .rw[Wb p2];split<;>exact ht
 rw[Wa p2];by_cases p3:c.phase=3
 .rw[Wb p3];split<;>(show m.1<=m.1+1;omega)
 rw[Wa p3];by_cases p4:c.phase=4
 .rw[Wb p4];unfold WcK;split<;>(show m.1<=m.1+1;omega)
 rw[Wa p4];by_cases p5:c.phase=5
 .rw[Wb p5];unfold WaR;split<;>(show m.1<=m.1+1;omega)
 rw[Wa p5];by_cases p7:c.phase=7
 .rw[Wb p7];unfold WaR;split<;>(show m.1<=m.1+1;omega)
 rw[Wa p7];show m.1<=m.1+1;omega
theorem WkD{out:Int}:(WaC w x k out).1.mem=w.mem:=by
 unfold WaC;simp only;generalize (if out=2 then []else x.writes)=rows;split<;>rfl
theorem Wno:(WW w x k p).1.mem=w.mem\/(x.phase=5/\(WW w x k p).1.mem=(Ws w.mem x.cm).1):=by
 unfold WW;by_cases hd:x.doomed=true/\1<=x.phase/\x.phase<=4
 .rw[Wb hd];exact .inl rfl
 rw[Wa hd];by_cases h0:x.phase=0
 .rw[Wb h0];left;unfold Wds;repeat' split
  all_goals rfl
 rw[Wa h0];by_cases h1:x.phase=1
 .rw[Wb h1];left;unfold Wgk;split
  .exact WkD
  .simp only;generalize opN p.1 x.pc=o;split
   .rfl
   .split
    .unfold Wb0;split
     .exact WkD
     .split<;>rfl
    .split
     .rfl
     .split
      .unfold WbO;cases WaX w.holds ((k:Int)+1) (WaH o).1 (WaH o).2<;>rfl
      .repeat' split
       all_goals rfl
 rw[Wa h1];by_cases h2:x.phase=2
 .rw[Wb h2];exact .inl rfl
 rw[Wa h2];by_cases h3:x.phase=3
 .rw[Wb h3];left;unfold Wa1;split<;>rfl
 rw[Wa h3];by_cases h4:x.phase=4
 .rw[Wb h4];exact .inl rfl
 rw[Wa h4];by_cases h5:x.phase=5
 .rw[Wb h5];unfold Waf;split
  .exact .inl rfl
  .exact .inr ⟨h5,rfl⟩
 rw[Wa h5];left;by_cases h6:x.phase=6
 .rw[Wb h6];split<;>rfl
 rw[Wa h6];by_cases h7:x.phase=7
 .rw[Wb h7];split<;>rfl
 .rw[Wa h7]
structure WT(w:Wo):Prop where
 root:∀(k:Nat) (h:k<w.roots.length),RT w.roots[k]
 clk:w.mem.1<=w.now
theorem WtJ{w0:Wo}{q:Wo×Rt}(hx:WT w0)(hr:q.1.roots=w0.roots)(hq:RT q.2)(hc:q.1.mem.1<=q.1.now):WT (Wo.put q k):=by
 refine⟨λi hi=>?_,hc⟩;change i<(q.1.roots.set k q.2).length at hi;have jk:i<w0.roots.length:=by rw[Xah,hr]at hi;exact hi
 show RT ((q.1.roots.set k q.2)[i]'hi);rw[Xau];split
 .exact hq
 .simp only[hr];exact hx.root i jk
theorem Wpl(h:WOk s.2.1 n w)(hx:WT w):WT (Wcw s w a):=by
 have cy:WT {w with now:=w.now+1}:=⟨hx.root,by have:=hx.clk;show w.mem.1<=w.now+1;omega⟩;unfold Wcw;simp only;split
 .rename_i hb;have hk:a.2.1.toNat<w.roots.length:=by omega
  have hR:=hx.root _ hk;have yF:a.2.1.toNat<s.2.1.length:=by rw[←h.len];exact hk
  rw[Wp hk];split
  .unfold WiC;rw[Wp (show a.2.1.toNat<({w with now:=w.now+1}:Wo).roots.length from hk)];have aM:=Wid (w:={w with now:=w.now+1}) (k:=a.2.1.toNat) (Wgv h.progs yF) ⟨h.mem,h.shelf,h.holds⟩ (h.root _ hk) (by have:=h.l4;omega) h.n0;refine WtJ cy (WhU h hk) (WpH hR) ?_;have qm:(WW {w with now:=w.now+1} w.roots[a.2.1.toNat] a.2.1.toNat (s.2.1.getD a.2.1.toNat pg0)).1.now=w.now+1:=aM.now;rw[qm];have df:=hx.clk;rcases Wno (w:={w with now:=w.now+1}) (x:=w.roots[a.2.1.toNat]) (k:=a.2.1.toNat) (p:=s.2.1.getD a.2.1.toNat pg0)with e|⟨_,e⟩
   .rw[e];show w.mem.1<=w.now+1;omega
   .rw[e];have:=WrY (m:=w.mem) (c:=w.roots[a.2.1.toNat].cm) h.mem;show(Ws w.mem w.roots[a.2.1.toNat].cm).1.1<=w.now+1;omega
  .split
   .split
    .rename_i hc;unfold WyD;refine WtJ (w0:={w with now:=w.now+1}) cy rfl ?_ cy.clk;refine⟨hR.pb,λ_=>?_,λh5=>by(change w.roots[a.2.1.toNat].phase=5 at h5;omega)⟩;have hp:=Wgv h.progs yF;have hF:=((h.root _ hk).live (by omega)).fork hc.1;rcases hR.fam hc.1 with hl|hT
     .left;show(WcE w.mem w.roots[a.2.1.toNat].fam a.2.2.toNat _).lost=true;rw[Wg7 hl];exact hl
     .exact Wqr h.mem hp.kids hp.k3 hF.2.2 hT (by omega)
    .exact cy
   .split
    .split
     .exact WtJ (w0:={w with now:=w.now+1}) cy rfl ⟨hR.pb,hR.fam,hR.cm⟩ cy.clk
     .exact cy
    .exact cy
 .exact cy
theorem Wtd:∀(l:List Ac) (n:Int) (w:Wo),WOk s.2.1 n w->WT w->WT (l.foldl (Wcw s) w)
 | [],n,w,h,hx=>hx
 |a::l,n,w,h,hx=>Wtd l (n+1) _ (Wch (a:=a) h) (Wpl (a:=a) h hx)
theorem Wr7:WT (Wft s):=⟨λi h=>by
 simp only[Wft,Xbi];exact RT.no rfl (by show(0:Int)≠2;omega) (by show(0:Int)≠5;omega),Xx _⟩
end
section
variable{s:Sc}{w v:Wo}{n:Int}{a:Ac}{x y:Rt}{k:Nat}{p:Pg}{q:Wo×Rt}
structure TQ(w:Wo)(k:Nat)(x:Rt)(q:Wo×Rt):Prop where
 tok:q.1.token=w.token\/(q.1.token=(k:Int)+1/\w.token=0/\x.phase=0/\q.2.phase=0)\/(w.token=(k:Int)+1/\q.1.token=0/\q.2.phase=8)
 try1:x.phase≠0->x.phase≠8->q.2.phase≠0->q.2.tries=x.tries
 idle:x.phase=0->q.2.phase=0\/(q.2.tries=x.tries/\(w.token=0/\x.tries<3\/w.token=(k:Int)+1/\Wab k w.roots 0=true)/\q.1.token=w.token)
 done:x.phase=8->q=(w,x)
theorem TQ.keep(ht:q.1.token=w.token)(hr:q.2.tries=x.tries)(h0:x.phase≠0)(h8:x.phase≠8):TQ w k x q:=
 ⟨.inl ht,λ_ _ _=>hr,λh=>Wi h h0,λh=>Wi h h8⟩
theorem WsG{w0:Wo}{x0:Rt}(hw:w0.token=w.token)(hr:x0.tries=x.tries)(h0:x.phase≠0)(h8:x.phase≠8):TQ w k x (Wkw w0 x0 k):=by
 refine⟨?_,λ_ _ _=>hr,λh=>Wi h h0,λh=>Wi h h8⟩;show(if w0.token=(k:Int)+1 then 0 else w0.token)=w.token\/_;split
 .rename_i h;right;right;refine⟨by rw[←hw];exact h,?_,rfl⟩;show(if w0.token=(k:Int)+1 then 0 else w0.token)=0;rw[Wb h]
 .exact .inl hw
theorem WmO{out:Int}(h0:x.phase≠0)(h8:x.phase≠8):TQ w k x (WaC w x k out):=by
 unfold WaC;simp only;generalize (if out=2 then []else x.writes)=rows;split
 .exact WsG rfl rfl h0 h8
 .exact TQ.keep rfl rfl h0 h8
theorem We6:(WR x).tries=x.tries:=by
 unfold WR;split<;>rfl
theorem Wk4:TQ w k x (WW w x k p):=by
 unfold WW;by_cases hd:x.doomed=true/\1<=x.phase/\x.phase<=4
 .rw[Wb hd];exact TQ.keep rfl rfl (by omega) (by omega)
 rw[Wa hd];by_cases h0:x.phase=0
 .rw[Wb h0];have h8:x.phase≠8:=by omega
  unfold Wds;split
  .exact⟨.inl rfl,λh=>Wi h0 h,λ_=>.inl h0,λh=>Wi h h8⟩
  .split
   .rename_i h;exact⟨.inr (.inl ⟨rfl,h.2,h0,h0⟩),λh=>Wi h0 h,λ_=>.inl h0,λh=>Wi h h8⟩
   .split
    .exact⟨.inl rfl,λh=>Wi h0 h,λ_=>.inl h0,λh=>Wi h h8⟩
    .rename_i a1 a2 a3;refine⟨.inl rfl,λh=>Wi h0 h,λ_=>.inr ⟨rfl,?_,rfl⟩,λh=>Wi h h8⟩;by_cases ht:w.token=0
     .exact .inl ⟨ht,by omega⟩
     .have hk:w.token=(k:Int)+1:=by omega
      refine .inr ⟨hk,?_⟩;cases ho:Wab k w.roots 0 with
      |true=>rfl
      |false=>exact Wi ⟨hk,ho⟩ a3
 rw[Wa h0];by_cases h8:x.phase=8
 .rw[Wa (by omega),Wa (by omega),Wa (by omega),Wa (by omega),Wa (by omega),Wa (by omega),Wa (by omega)];exact⟨.inl rfl,λ_ h=>Wi h8 h,λh=>Wi h h0,λ_=>rfl⟩
 have keep:∀q:Wo×Rt,q.1.token=w.token->q.2.tries=x.tries->TQ w k x q:=λq a b=>TQ.keep a b h0 h8;by_cases h1:x.phase=1
 .rw[Wb h1];unfold Wgk;split
  .exact WmO h0 h8
  .simp only;generalize opN p.1 x.pc=o;split
   .refine keep _ rfl ?_;unfold Wdg;cases Wbv x.writes o.2.2.1 with
    |some v=>rfl
    |none=>
     simp only;generalize W5 w.mem x.rv _=b;split
     .exact We6
     .split<;>rfl
   .split
    .unfold Wb0;split
     .exact WmO h0 h8
     .split<;>exact keep _ rfl rfl
    .split
     .exact keep _ rfl rfl
     .split
      .unfold WbO;cases WaX w.holds ((k:Int)+1) (WaH o).1 (WaH o).2 with
       |none=>exact keep _ rfl We6
       |some hs=>exact keep _ rfl rfl
      .repeat' split
       all_goals exact keep _ rfl rfl
 rw[Wa h1];by_cases h2:x.phase=2
 .rw[Wb h2];refine keep _ rfl ?_;show(WbR x).tries=x.tries;unfold WbR;split
  .rfl
  .split<;>rfl
 rw[Wa h2];by_cases h3:x.phase=3
 .rw[Wb h3];unfold Wa1;split<;>exact keep _ rfl rfl
 rw[Wa h3];by_cases h4:x.phase=4
 .rw[Wb h4];refine keep _ rfl ?_;show(WaA w x).tries=x.tries;unfold WaA;simp only;split
  .split<;>rfl
  .rfl
 rw[Wa h4];by_cases h5:x.phase=5
 .rw[Wb h5];unfold Waf;split
  .refine keep _ rfl ?_;simp only;split<;>rfl
  .refine keep _ rfl ?_;show(WaL {x with cm:=(Ws w.mem x.cm).2}).tries=x.tries;unfold WaL;split
   .rfl
   .split<;>rfl
 rw[Wa h5];by_cases h6:x.phase=6
 .rw[Wb h6];split<;>exact keep _ rfl rfl
 rw[Wa h6];by_cases h7:x.phase=7
 .rw[Wb h7];split
  .exact⟨.inl rfl,λ_ _ h=>Wi rfl h,λh=>Wi h h0,λh=>Wi h h8⟩
  .exact WsG rfl rfl h0 h8
 .rw[Wa h7];exact keep _ rfl rfl
end
section
variable{s:Sc}{w v:Wo}{n:Int}{a:Ac}{x y:Rt}{k:Nat}{p:Pg}{q:Wo×Rt}
theorem WdO:∀{l:List Rt} {i:Nat},Wab k l i=true->∀(j:Nat) (h:j<l.length),i+j≠k->l[j].phase=0\/l[j].phase=8
 | [],i,_,j,h,_=>by simp at h
 |x::l,i,ho,j,h,hne=>by
  rw[Wab]at ho;simp only[Xi,Xcb,Wh]at ho;cases j with
  |zero=>
   rcases ho.1 with h1|h1
   .exact Wi h1 (by simpa using hne)
   .exact h1
  |succ j=>exact WdO ho.2 j (by simpa using h) (by omega)
structure TX(w:Wo):Prop where
 t1:∀(k:Nat) (h:k<w.roots.length),w.roots[k].phase≠0->w.roots[k].phase≠8->w.roots[k].tries>=3->w.token=(k:Int)+1
 t2:∀(k:Nat) (h:k<w.roots.length),w.token=(k:Int)+1->w.roots[k].phase≠0->∀(j:Nat) (h:j<w.roots.length),j≠k->w.roots[j].phase=0\/w.roots[j].phase=8
theorem Wv3{w0:Wo}(hx:TX w0)(hl:LX w0)(hk:k<w0.roots.length)(hr:q.1.roots=w0.roots)(hq:TQ w0 k w0.roots[k] q):TX (Wo.put q k):=by
 have hlen:(q.1.roots.set k q.2).length=w0.roots.length:=by rw[Xah,hr]
 have bP:∀(i:Nat) (hi:i<w0.roots.length),(q.1.roots.set k q.2)[i]'(by rw[hlen];exact hi)=if k=i then q.2 else w0.roots[i]:=λi hi=>by
  rw[Xau];simp only[hr]
 have yG:w0.roots[k].phase=8->q.2=w0.roots[k]:=λh=>by rw[hq.done h]
 refine⟨λi hi p0 p8 ht=>?_,λi hi ht p0 j hj hne=>?_⟩
 .change i<(q.1.roots.set k q.2).length at hi;have jk:i<w0.roots.length:=by rw[←hlen];exact hi
  change ((q.1.roots.set k q.2)[i]'hi).phase≠0 at p0;change ((q.1.roots.set k q.2)[i]'hi).phase≠8 at p8;change ((q.1.roots.set k q.2)[i]'hi).tries>=3 at ht;rw[bP i jk]at p0 p8 ht;show q.1.token=(i:Int)+1;by_cases he:k=i
  .subst he;rw[Wb rfl]at p0 p8 ht;by_cases h0:w0.roots[k].phase=0
   .rcases hq.idle h0 with h|⟨h1,h2,h3⟩
    .exact Wi h p0
    .rw[h3];rcases h2 with h2|h2
     .omega
     .exact h2.1
   .by_cases h8:w0.roots[k].phase=8
    .rw[yG h8]at p8;exact Wi h8 p8
    .have ng:=hq.try1 h0 h8 p0;have:=hx.t1 k hk h0 h8 (by omega);rcases hq.tok with h|⟨h,_⟩|⟨_,_,h⟩
     .rw[h];exact this
     .exact h
     .exact Wi h p8
  .rw[Wa he]at p0 p8 ht;have:=hx.t1 i jk p0 p8 ht;rcases hq.tok with h|⟨_,h,_⟩|⟨h,_⟩
   .rw[h];exact this
   .omega
   .omega
 .change i<(q.1.roots.set k q.2).length at hi;change j<(q.1.roots.set k q.2).length at hj;have jk:i<w0.roots.length:=by rw[←hlen];exact hi
  have qo:j<w0.roots.length:=by rw[←hlen];exact hj
  change q.1.token=(i:Int)+1 at ht;change ((q.1.roots.set k q.2)[i]'hi).phase≠0 at p0;show((q.1.roots.set k q.2)[j]'hj).phase=0\/((q.1.roots.set k q.2)[j]'hj).phase=8;rw[bP i jk]at p0;rw[bP j qo];by_cases he:k=i
  .subst he;rw[Wb rfl]at p0;rw[Wa (λh=>hne h.symm)];by_cases h0:w0.roots[k].phase=0
   .rcases hq.idle h0 with h|⟨h1,h2,h3⟩
    .exact Wi h p0
    .rcases h2 with h2|h2
     .rw[h3,h2.1]at ht;omega
     .exact WdO h2.2 j qo (by omega)
   .rcases hq.tok with h|⟨_,_,h,_⟩|⟨_,h,_⟩
    .exact hx.t2 k hk (by rw[←h];exact ht) h0 j qo hne
    .exact Wi h h0
    .omega
  .rw[Wa he]at p0;have yH:w0.token=(i:Int)+1:=by
    rcases hq.tok with h|⟨h,_⟩|⟨_,h,_⟩
    .rw[←h];exact ht
    .omega
    .omega
   by_cases hkj:k=j
   .subst hkj;rw[Wb rfl];have iX:=hx.t2 i jk yH p0 k hk (λh=>he h);rcases iX with h0|h8
    .rcases hq.idle h0 with h|⟨_,h2,_⟩
     .exact .inl h
     .rcases h2 with h2|h2<;>omega
    .rw[yG h8];exact .inr h8
   .rw[Wa hkj];exact hx.t2 i jk yH p0 j qo hne
theorem Wub(h:WOk s.2.1 n w)(hl:LX w)(hx:TX w):TX (Wcw s w a):=by
 have cy:TX {w with now:=w.now+1}:=⟨hx.t1,hx.t2⟩;have be:LX {w with now:=w.now+1}:=⟨λk hk=>⟨(hl.root k hk).cm,(hl.root k hk).no,(hl.root k hk).hd,(hl.root k hk).tk⟩,hl.ow,hl.hd,hl.tk⟩;unfold Wcw;simp only;split
 .rename_i hb;have hk:a.2.1.toNat<w.roots.length:=by omega
  have same:∀y:Rt,y.phase=w.roots[a.2.1.toNat].phase->y.tries=w.roots[a.2.1.toNat].tries->w.roots[a.2.1.toNat].phase≠0->w.roots[a.2.1.toNat].phase≠8->TX (Wo.put ({w with now:=w.now+1},y) a.2.1.toNat):=λy e1 e2 h0 h8=>
   Wv3 (w0:={w with now:=w.now+1}) cy be hk rfl ⟨.inl rfl,λ_ _ _=>e2,λh=>Wi h h0,λh=>Wi h h8⟩
  rw[Wp hk];split
  .unfold WiC;rw[Wp (show a.2.1.toNat<({w with now:=w.now+1}:Wo).roots.length from hk)];exact Wv3 (w0:={w with now:=w.now+1}) cy be hk (WhU h hk) Wk4
  .split
   .split
    .rename_i hc;exact same _ rfl rfl (by omega) (by omega)
    .exact cy
   .split
    .split
     .rename_i hc;exact same _ rfl rfl (by omega) (by omega)
     .exact cy
    .exact cy
 .exact cy
theorem Wsq:∀(l:List Ac) (n:Int) (w:Wo),WOk s.2.1 n w->WX w->LX w->TX w->TX (l.foldl (Wcw s) w)
 | [],n,w,h,hx,hl,ht=>ht
 |a::l,n,w,h,hx,hl,ht=>Wsq l (n+1) _ (Wch (a:=a) h) (WdL (a:=a) h hx).1 (Wl7 h hx hl) (Wub h hl ht)
theorem Wxo:TX (Wft s):=by
 have e:∀(k:Nat) (h:k<(Wft s).roots.length),(Wft s).roots[k].phase=0:=λk h=>by simp only[Wft,Xbi]
 exact⟨λk h h0=>Wi (e k h) h0,λk h _ h0=>Wi (e k h) h0⟩
end
section
variable{w:Wo}{n:Int}{x y:Rt}{k:Nat}{p:Pg}{f g:Fm}{m:Mm}
theorem Wot(h2:x.phase=2):Wu p x=if x.fam.lost=true then(x.undos.length:Int)+3 else 73-3*x.pc+Wmp x.fam+Wa9 x:=by unfold Wu;rw[Wa (by omega),Wb h2]
theorem Ww6{i:Nat}(hR:FmR f i g){b:Int}(hb:0<=b)(h:∀(j:Nat) (h:j<f.kids.length) (h':j<g.kids.length),WaG g.kids[j]=1->fP g g.kids[j]+fQ g<=b):Wmp g<=b:=by
 refine WkS hb λz hz hu=>?_;obtain⟨j,hj,he⟩:=Xao hz;rw[←he]at hu⊢;exact h j (by rw[←hR.len];exact hj) hj hu
theorem Wiu(hp:POk p)(hx:ROk p n x)(ht:RT x)(h2:x.phase=2)(hl:x.fam.lost≠true)(ho:Wbj x.fam≠true)(hm:W2 m=true):
  Wu p {x with fam:=WcB m p.2 p.2.length 0 x.fam}<Wu p x:=by
 have hL:=hx.live (by omega);have hs:=hL.spare;have hlen:=hp.code.len;obtain⟨f1,f2,f3⟩:=hL.fork h2;have hT:=(ht.fam h2).resolve_left hl;have mn:∀c∈p.2,c.length<=24:=λc hc=>(hp.kids c hc).toCC.len;have hR:=Wtp hm hp.kids hp.k3 p.2.length 0 n x.fam (by omega) f3 hT;have h1:1<=Wmp x.fam:=by
  have:∃z∈x.fam.kids,z.phase≠3:=by
   apply Classical.byContradiction;intro cE;apply ho;unfold Wbj;rw[Xag];intro z hz;by_cases h3:z.phase=3
   .simpa using h3
   .exact Wi ⟨z,hz,h3⟩ cE
  obtain⟨z,hz,AF⟩:=this;obtain⟨j,hj,he⟩:=Xao hz;have hu:WaG x.fam.kids[j]=1:=WcL (by rw[he];exact AF);have a:=Wy8 f3 mn hT hj hu;have b:=Wpt (f:=x.fam) _ (Xo hj) hu;unfold Wmp;omega
 rw[Wot h2,Wa hl,Wot (x:={x with fam:=WcB m p.2 p.2.length 0 x.fam}) h2];show(if(WcB m p.2 p.2.length 0 x.fam).lost=true then(x.undos.length:Int)+3 else 73-3*x.pc+Wmp (WcB m p.2 p.2.length 0 x.fam)+Wa9 x)<_;split
 .unfold Wa9;omega
 .rename_i ju;have hR:=hR.resolve_left ju;have:Wmp (WcB m p.2 p.2.length 0 x.fam)<=Wmp x.fam-1:=Ww6 hR (by omega) λj h h' hu=>by
   obtain⟨a1,a2,a3⟩:=hR.p j h h' hu;have b:=Wpt (f:=x.fam) _ (Xo h) a1;rcases a3 (by omega)with c|⟨_,k,hk,_⟩
   .unfold Wmp;omega
   .omega
  omega
end
section

end
section
section
variable{N:Nat}{s:Sc}{p:Pg}{w:Wo}{n:Int}{a:Ac}{k:Nat}
theorem Wu5{R:Type}{K0:Int->Bool->Int->Int->Int->Int->Ks->Ki->Ks->(List Y_Root)->Kab->Option R}(hl:s.2.2.length<=1000)(hN:1048576<N):
  ∀(d j n:Nat) (m:Int) (w:Wo),j+d=s.2.2.length->d<n->WOk s.2.1 m w->m+d<=90000->
  Zba N s.2.2 s K0 n (j:Int) w.now w.token w.mem.1 w.shelf.2 w.mem.2 w.shelf.1 w.holds (w.roots.map Rt.e) w.hist=
   (λv:Wo=>K0 (s.2.2.length:Int) false v.now v.token v.mem.1 v.shelf.2 v.mem.2 v.shelf.1 v.holds (v.roots.map Rt.e) v.hist) ((s.2.2.drop j).foldl (Wcw s) w):=by
 intro d
 induction d with
 |zero=>
  intro j n m w hj hn h hm;obtain⟨n,rfl⟩:∃n',n=n'+1:=⟨n-1,by omega⟩;have:j=s.2.2.length:=by omega
  subst this;simp only[Zba,Wae (Xm _),Wc,List.drop_length,List.foldl_nil]
 |succ d ih=>
  intro j n m w hj hn h hm;obtain⟨n,rfl⟩:∃n',n=n'+1:=⟨n-1,by omega⟩;have hlt:j<s.2.2.length:=by omega
  have hw:(w.now,(w.token,((w.mem.1,w.mem.2),((w.shelf.1,w.shelf.2),(w.holds,(w.roots.map Rt.e,w.hist))))))=w.e:=rfl;simp only[Zba,W4 hlt,Ww hlt,Wx hlt,Wn (show j<4611686018427387904 by omega),We,hw];rw[Wo9 h (by omega) hN,List.drop_eq_getElem_cons hlt,Xbb];exact ih (j+1) n (m+1) _ (by omega) (by omega) (Wch h) (by omega)
theorem Wsy(hb:SB s)(hN:1048576<N):Zlo N s=ret (if Wmo s=true then(Wes s).e else d_World):=by
 unfold Zlo;rw[WfJ hb hN];simp only[ret,Xc];cases hs:Wmo s with
 |false=>rfl
 |true=>
  obtain⟨h1,h2,h3,h4⟩:=WeR hs;have h0:=Wiv hs;have rj:=Wxg s.2.1 (by omega);simp only[Xt,Wc,Waq];rw[Wg4 h1.map.1 h1.map.2 hN,WjR (Wil.2 h1.cells) hN];simp only[ret,Xc,rj,We,WgX];have fS:=Wu5 (s:=s) (N:=N) (K0:=λt36 vM oL oM oN oO gl oP oQ oR oS=>(some ((),((oL,(oM,((oN,gl),((oP,oO),(oQ,(oR,oS)))))),())):Option (Unit×(Y_World×Unit)))) (by have:=hb.acts;omega) hN s.2.2.length 0 N 0 (Wft s) (by omega) (by omega) h0 (by omega);rw[Wrz];have qp:((Wft s).roots.map Rt.e)=List.replicate s.2.1.length d_Root:=by
   unfold Wft;simp only[List.map_replicate];rfl
  rw[qp]at fS;refine fS.trans ?_;rw[List.drop_zero];rfl
end
variable{N:Nat}{s:Sc}{w:Wo}{n:Int}{a:Ac}
end
section
def WcA(s:Sc)(k:Nat):Nat->Nat->Wo->Wo
 |0,_,w=>w
 |d+1,j,w=>WcA s k d (j+1) (Wcw s w (2,(k:Int),(j:Int)))
def Wa0(s:Sc):Nat->Nat->Wo->Wo
 |0,_,w=>w
 |d+1,i,w=>Wa0 s d (i+1) (WcA s i (s.2.1.getD i pg0).2.length 0 (Wcw s w (1,(i:Int),0)))
def Wf7(w:Wo):Bool:=w.roots.all λx=>decide (x.phase=8)
def WaT(s:Sc):Nat->Wo->Wo×Nat
 |0,w=>(w,0)
 |d+1,w=>if Wf7 w=true then(w,0)else((WaT s d (Wa0 s s.2.1.length 0 w)).1,(WaT s d (Wa0 s s.2.1.length 0 w)).2+1)
variable{s:Sc}{w v:Wo}{n:Int}{k:Nat}{N:Nat}
theorem Wlk:∀(d j:Nat) (n:Int) (w:Wo),WOk s.2.1 n w->WOk s.2.1 (n+d) (WcA s k d j w)
 |0,_,n,w,h=>by rw[WcA];simpa using h
 |d+1,j,n,w,h=>by
  have:=Wlk d (j+1) (n+1) _ (Wch (a:=(2,(k:Int),(j:Int))) h);rw[WcA,show n+((d+1:Nat):Int)=n+1+(d:Int) by omega];exact this
theorem WwG{R:Type}{rounds:Int}{b1 b2 b3 b4:Int}{jN:Int}{K0:Int->Bool->Int->Int->Int->Int->List Kb->List Int->List Kb->List Y_Root->List Ko->Option R}(hN:1048576<N)(hk:k<s.2.1.length)(h3:s.2.1[k].2.length<=3):
  ∀(d j fuel:Nat) (n:Int) (w:Wo),j+d=s.2.1[k].2.length->d<fuel->WOk s.2.1 n w->n+d<=99999->
  Zcs N rounds (k:Int) s.2.1 jN s b1 b2 b3 b4 K0 fuel (j:Int) w.now w.token w.mem.1 w.shelf.2 w.mem.2 w.shelf.1 w.holds (w.roots.map Rt.e) w.hist=
  K0 (s.2.1[k].2.length:Int) false (WcA s k d j w).now (WcA s k d j w).token (WcA s k d j w).mem.1 (WcA s k d j w).shelf.2 (WcA s k d j w).mem.2 (WcA s k d j w).shelf.1 (WcA s k d j w).holds ((WcA s k d j w).roots.map Rt.e) (WcA s k d j w).hist:=by
 intro d;have bP:List.getD s.2.1 (Int.toNat (k:Int)) (([]:List Ka),([]:List Kz))=s.2.1[k]:=Wx hk _
 induction d with
 |zero=>
  intro j fuel n w hj hf hw hn;obtain⟨f,rfl⟩:∃f,fuel=f+1:=⟨fuel-1,by omega⟩;have:decide ((j:Int)<Wj s.2.1[k].2)=false:=Wq (by unfold Wj;omega);simp only[Zcs,WD,bP,this,Wc,WcA];rw[show(j:Int)=(s.2.1[k].2.length:Int) by omega]
 |succ d ih=>
  intro j fuel n w hj hf hw hn;obtain⟨f,rfl⟩:∃f,fuel=f+1:=⟨fuel-1,by omega⟩;have:decide ((j:Int)<Wj s.2.1[k].2)=true:=Wf (by unfold Wj;omega);have hr:=Wo9 (a:=(2,(k:Int),(j:Int))) hw (by omega) hN;simp only[Zcs,WD,bP,this,We];rw[show((w.now,(w.token,((w.mem.1,w.mem.2),((w.shelf.1,w.shelf.2),(w.holds,(w.roots.map Rt.e,w.hist)))))):Y_World)=w.e from rfl,hr];simp only[Xc,Wn (show j<4611686018427387904 by omega)];rw[WcA];exact ih (j+1) f (n+1) _ (by omega) (by omega) (Wch hw) (by omega)
theorem pk3(h:WOk s.2.1 n w){i:Nat}(hi:i<s.2.1.length):(s.2.1.getD i pg0).2.length<=3:=(Wgv h.progs hi).k3
theorem WnI:∀(d i:Nat) (n:Int) (w:Wo),i+d=s.2.1.length->WOk s.2.1 n w->∃n',n<=n'/\n'<=n+4*d/\WOk s.2.1 n' (Wa0 s d i w)
 |0,_,n,w,hi,h=>⟨n,by omega,by omega,by rw[Wa0];exact h⟩
 |d+1,i,n,w,hi,h=>by
  have h1:=Wlk (k:=i) (s.2.1.getD i pg0).2.length 0 (n+1) _ (Wch (a:=(1,(i:Int),0)) h);have h3:=pk3 h (i:=i) (by omega);obtain⟨n',a,b,c⟩:=WnI d (i+1) _ _ (by omega) h1;exact⟨n',by omega,by omega,by rw[Wa0];exact c⟩
theorem WvF{R:Type}{rounds:Int}{b1 b2 b3 b4:Int}{K0:Int->Bool->Int->Int->Int->Int->List Kb->List Int->List Kb->List Y_Root->List Ko->Option R}(hN:1048576<N)(jj:s.2.1.length<=4):
  ∀(d i fuel:Nat) (n:Int) (w:Wo),i+d=s.2.1.length->d<fuel->WOk s.2.1 n w->n+4*d<=99999->
  Zbz N rounds s.2.1 s b1 b2 b3 b4 K0 fuel (i:Int) w.now w.token w.mem.1 w.shelf.2 w.mem.2 w.shelf.1 w.holds (w.roots.map Rt.e) w.hist=
  K0 (s.2.1.length:Int) false (Wa0 s d i w).now (Wa0 s d i w).token (Wa0 s d i w).mem.1 (Wa0 s d i w).shelf.2 (Wa0 s d i w).mem.2 (Wa0 s d i w).shelf.1 (Wa0 s d i w).holds ((Wa0 s d i w).roots.map Rt.e) (Wa0 s d i w).hist:=by
 intro d
 induction d with
 |zero=>
  intro i fuel n w hi hf hw hn;obtain⟨f,rfl⟩:∃f,fuel=f+1:=⟨fuel-1,by omega⟩;have:i=s.2.1.length:=by omega
  subst this;simp only[Zbz,Wae (Xm _),Wc,Wa0]
 |succ d ih=>
  intro i fuel n w hi hf hw hn;obtain⟨f,rfl⟩:∃f,fuel=f+1:=⟨fuel-1,by omega⟩;have hlt:i<s.2.1.length:=by omega
  have hr:=Wo9 (a:=(1,(i:Int),0)) hw (by omega) hN;have hg:s.2.1.getD i pg0=s.2.1[i]:=Wp hlt _;have h3:=pk3 hw hlt;rw[hg]at h3;have yI:=Wch (a:=(1,(i:Int),0)) hw;have hk:=WwG (R:=R) (rounds:=rounds) (b1:=b1) (b2:=b2) (b3:=b3) (b4:=b4) (jN:=Wj s.2.1)
   (K0:=λvN vQ oT oU oV oW oX oY oZ pd pe=>(Zbz N rounds s.2.1 s b1 b2 b3 b4 K0 f (Wm .i64 (i:Int) (1:Int)) oT oU oV oW oX oY oZ pd pe)) hN hlt h3 s.2.1[i].2.length 0 N (n+1) _ (by omega) (by omega) yI (by omega)
  have aG:=Wlk (k:=i) s.2.1[i].2.length 0 (n+1) _ yI;simp only[Zbz,W4 hlt,Ww hlt,We];rw[show((w.now,(w.token,((w.mem.1,w.mem.2),((w.shelf.1,w.shelf.2),(w.holds,(w.roots.map Rt.e,w.hist)))))):Y_World)=w.e from rfl,hr];simp only[Xc];refine hk.trans ?_;simp only[Wn (show i<4611686018427387904 by omega)];rw[Wa0,hg];exact ih (i+1) f _ _ (by omega) (by omega) aG (by omega)
theorem Wp1(hl:w.roots.length<=4)(hN:1048576<N):Zp2 N w.e=ret (Wf7 w):=by
 unfold Zp2 Zay Z2;have e1:w.e.2.2.2.2.2.1=w.roots.map Rt.e:=rfl;rw[e1];have hb:(w.roots.map Rt.e).length<=4:=by simpa using hl
 have h1:=WC (l:=w.roots.map Rt.e) (V:=Unit) (R:=Unit×Kh) (lp:=λn j _=>Zm N (w.roots.map Rt.e) (λaq=>(some ((),(aq,())))) (λaH ba=>(some ((),((-1:Int),())))) n j) (n:=N) (by omega)
  (body:=λj x v k=>bif (x.1 !=8)then some ((),(j,()))else k v) (K:=λ_ v=>some ((),((-1:Int),())))
  (λn i u hi=>by
   simp only[Zm,Zqa,W4 hi,Ww hi,Wx hi,Wn (show i<4611686018427387904 by omega),We,Xc])
  (λn u=>by simp only[Zm,Wae (Xm _),Wc]) ()
 have h2:∀(l:List Y_Root) (j:Nat),∃r:Int,Wbw (λ(j:Int) (x:Y_Root) (v:Unit) (k:Unit->Option Kv)=>bif (x.1 !=8)then some ((),(j,()))else k v) (λ_ v=>some ((),((-1:Int),()))) l j ()=some ((),(r,()))/\(decide (r>=0)= !(l.all λx=>x.1==8)):=λl=>by
  induction l with
  |nil=>intro j;exact⟨-1,rfl,rfl⟩
  |cons x l ih=>
   intro j;rw[Wbw];cases hx:x.1==8 with
   |true=>
    have:(x.1 !=8)=false:=by rw[bne,hx];rfl
    simp only[this,Wc];obtain⟨r,a,b⟩:=ih (j+1);exact⟨r,a,by rw[b,Xci,hx];rfl⟩
   |false=>
    have:(x.1 !=8)=true:=by rw[bne,hx];rfl
    simp only[this,We];exact⟨j,rfl,by rw[Xci,hx];simp⟩
 obtain⟨r,a,b⟩:=h2 (w.roots.map Rt.e) 0;rw[h1.trans a];simp only[Xc,b,Bool.not_not];have:((w.roots.map Rt.e).all λx=>x.1==8)=Wf7 w:=by
  unfold Wf7;rw[List.all_map];congr 1
 rw[this]
theorem WuQ{R:Type}{K0:Int->Bool->Int->Int->Int->Int->List Kb->List Int->List Kb->List Y_Root->List Ko->Option R}(hN:1048576<N)(jj:s.2.1.length<=4):
  ∀(d r fuel:Nat) (n:Int) (w:Wo),r+d=6000->d<fuel->WOk s.2.1 n w->n+16*d<=99999->
  Zb0 N s K0 fuel (r:Int) w.now w.token w.mem.1 w.shelf.2 w.mem.2 w.shelf.1 w.holds (w.roots.map Rt.e) w.hist=
  (λv:Wo×Nat=>K0 ((r+v.2:Nat):Int) false v.1.now v.1.token v.1.mem.1 v.1.shelf.2 v.1.mem.2 v.1.shelf.1 v.1.holds (v.1.roots.map Rt.e) v.1.hist) (WaT s d w):=by
 intro d
 induction d with
 |zero=>
  intro r fuel n w hr hf hw hn;obtain⟨f,rfl⟩:∃f,fuel=f+1:=⟨fuel-1,by omega⟩;have hl:w.roots.length<=4:=by rw[hw.len];exact jj
  simp only[Zb0];rw[show((w.now,(w.token,((w.mem.1,w.mem.2),((w.shelf.1,w.shelf.2),(w.holds,(w.roots.map Rt.e,w.hist)))))):Y_World)=w.e from rfl,Wp1 hl hN];have h6:decide ((r:Int)<6000)=false:=Wq (by omega);simp only[ret,Xc,h6,Wc,WaT,Nat.add_zero];cases Wf7 w<;>rfl
 |succ d ih=>
  intro r fuel n w hr hf hw hn;obtain⟨f,rfl⟩:∃f,fuel=f+1:=⟨fuel-1,by omega⟩;have hl:w.roots.length<=4:=by rw[hw.len];exact jj
  simp only[Zb0];rw[show((w.now,(w.token,((w.mem.1,w.mem.2),((w.shelf.1,w.shelf.2),(w.holds,(w.roots.map Rt.e,w.hist)))))):Y_World)=w.e from rfl,Wp1 hl hN];have h6:decide ((r:Int)<6000)=true:=Wf (by omega);simp only[ret,Xc,h6,We,WaT];cases ho:Wf7 w with
  |true=>rfl
  |false=>
   simp only[Bool.not_false,We,Bool.false_eq_true,Wau];obtain⟨n',a,b,c⟩:=WnI s.2.1.length 0 n w (by omega) hw;have fS:=WvF (s:=s) (R:=R) (rounds:=Wm .i64 (r:Int) 1) (b1:=0) (b2:=0) (b3:=0) (b4:=0)
    (K0:=λvS vT pf pg pi pj pm pn po pq pr=>(Zb0 N s K0 f (Wm .i64 (r:Int) (1:Int)) pf pg pi pj pm pn po pq pr)) hN jj s.2.1.length 0 N n w (by omega) (by omega) hw (by omega)
   refine fS.trans ?_;simp only[Wn (show r<4611686018427387904 by omega)];rw[ih (r+1) f n' _ (by omega) (by omega) c (by omega)];simp only[show r+1+(WaT s d (Wa0 s s.2.1.length 0 w)).2=r+((WaT s d (Wa0 s s.2.1.length 0 w)).2+1) by omega]
theorem Wta(hb:SB s)(hN:1048576<N)(aG:Wmo s=true):Zhg N s=some ((),((WaT s 6000 (Wes s)).1.e,(((WaT s 6000 (Wes s)).2:Int),()))):=by
 obtain⟨h1,h2,h3,h4⟩:=WeR aG;have hW:=WkV aG;have hp:=Wsy hb hN;unfold Zhg;rw[WfJ hb hN,aG];simp only[ret,Xc,Xt,Wc];rw[hp,Wb aG];simp only[ret,Xc];have hlen:(s.2.2.length:Int)<=400:=by omega
 have:=WuQ (s:=s) (N:=N) (K0:=λdI vU pt pu px py pA pB pC pD pE=>(some ((),((pt,(pu,((px,pA),((pB,py),(pC,(pD,pE)))))),(dI,()))):Option (Unit×(Y_World×Kh)))) hN (by omega) 6000 0 N _ (Wes s) (by omega) (by omega) hW (by omega);refine this.trans ?_;simp only[Nat.zero_add];rfl
end
section
variable{s:Sc}{w v:Wo}{n:Int}{x y:Rt}{k:Nat}{p:Pg}{f g:Fm}{m:Mm}{o:Opn}
def Wc9(p:Pg)(x:Rt):Int:=if x.phase<=4 then Wu p x-292 else Wu p x
def Wyg(p:Pg)(x y:Rt):Prop:=y.phase=1\/y.phase=2\/y.phase=8\/y.phase=3\/(y.phase=6/\y.fate=0)\/(y.phase=5/\Wu p y<=x.undos.length+36)
theorem Wk1:(WR x).phase=3\/((WR x).phase=6/\(WR x).fate=0):=by
 unfold WR;split
 .exact .inr ⟨rfl,rfl⟩
 .exact .inl rfl
theorem WkJ(hl:RLive p n x)(hk:k<=8){out:Int}:Wyg p x (WaC w x k out).2:=by
 unfold WaC;simp only;generalize (if out=2 then []else x.writes)=rows;split
 .exact .inr (.inr (.inl rfl))
 .have hc:CmOk (Wbl ((k:Int)+1) x.rv rows x.reads):=Wls (by omega) hl.rv;have:=(WgN hc).2.1;have e:Wu p ({x with fate:=out,cm:=Wbl ((k:Int)+1) x.rv rows x.reads,phase:=5}:Rt)=Wac (Wbl ((k:Int)+1) x.rv rows x.reads)+x.undos.length+3:=rfl;refine .inr (.inr (.inr (.inr (.inr ⟨rfl,?_⟩))));show Wu p ({x with fate:=out,cm:=Wbl ((k:Int)+1) x.rv rows x.reads,phase:=5}:Rt)<=_;rw[e];omega
theorem WuM(hl:RLive p n x)(h1:x.phase=1)(hk:k<=8):Wyg p x (Wgk w x k p).2:=by
 have one:∀y:Rt,y.phase=1->Wyg p x y:=λy h=>.inl h;have cf:∀z:Rt,Wyg p x (WR z):=λz=>by
  rcases Wk1 (x:=z)with h|h
  .exact .inr (.inr (.inr (.inl h)))
  .exact .inr (.inr (.inr (.inr (.inl h))))
 unfold Wgk;split
 .exact WkJ hl hk
 .simp only;generalize opN p.1 x.pc=o;split
  .show Wyg p x (Wdg w x o);unfold Wdg;cases Wbv x.writes o.2.2.1 with
   |some v=>exact one _ h1
   |none=>
    simp only;generalize W5 w.mem x.rv _=b;split
    .exact cf _
    .split<;>exact one _ h1
  .split
   .unfold Wb0;split
    .exact WkJ hl hk
    .split<;>exact one _ h1
   .split
    .exact .inr (.inl rfl)
    .split
     .unfold WbO;cases WaX w.holds ((k:Int)+1) (WaH o).1 (WaH o).2 with
      |none=>exact cf _
      |some hs=>exact one _ h1
     .repeat' split
      all_goals exact one _ h1
theorem WtD(hp:POk p)(hx:ROk p n x)(ht:RT x)(hg:RGd m x):1<=Wc9 p x:=by
 have ip:=(WbU hp hx ht).2.2;have aW:=hg.ph;have hs:=hg.sp;unfold Wc9;by_cases h1:x.phase=1
 .have:=We3 hp.code (hx.live (by omega)) ht h1;rw[Wb (by omega)];omega
 by_cases h2:x.phase=2
 .have hl:=hx.live (by omega);have aT:=hl.pc;have hlen:=hp.code.len;have h0:=WqJ x.fam x.fam.kids;rw[Wb (by omega),Wot h2,Wa (by rw[(hg.fam h2).lost];simp)];unfold Wmp Wa9;omega
 .rw[Wa (by omega)];exact ip (by omega)
theorem WyS(hp:POk p)(hx:ROk p n x)(ra:RX x)(ht:RT x)(hk:k<=8)(hg:RGd w.mem x)(hh:∀e∈w.holds,e.1=(k:Int)+1)(hm:W2 w.mem=true)(hb:LB w k x)(df:w.mem.1<1000000):
  (WW w x k p).2.phase=8\/(RGd (WW w x k p).1.mem (WW w x k p).2/\(Wc9 p (WW w x k p).2<Wc9 p x\/(x.phase=2/\x.fam.lost≠true/\Wbj x.fam≠true/\(WW w x k p).2=x))):=by
 rcases Wux hp hx hg ht hh hm hb df with h8|hy
 .exact .inl h8
 refine .inr ⟨hy,?_⟩;have aW:=hg.ph;have wO:=hy.ph;rcases Wka (w:=w) hp hx ra ht hk (by omega)with hlt|wP
 .left;have hs:=hg.sp;by_cases h1:x.phase=1
  .have hl:=hx.live (by omega);have ho:=WuM (w:=w) hl h1 hk;have qn:=We3 hp.code hl ht h1;have e:WW w x k p=Wgk w x k p:=by
    unfold WW;rw[Wa (by rw[hg.dm];simp),Wa (by omega),Wb h1]
   rw[e]at hy wO hlt⊢;have lN:=hy.ft;unfold Wc9;rw[Wb (show x.phase<=4 by omega)];rcases ho with h|h|h|h|h|h
   .rw[Wb (by omega)];omega
   .rw[Wb (by omega)];omega
   .omega
   .omega
   .exact Wi h.2 (lN (by omega))
   .rw[Wa (by omega)];omega
  by_cases h2:x.phase=2
  .have e:(WW w x k p).2=WbR x:=by
    unfold WW;rw[Wa (by rw[hg.dm];simp),Wa (by omega),Wa h1,Wb h2]
   rw[e]at hlt⊢;have e2:(WbR x).phase<=4:=by
    unfold WbR;rw[Wa (by rw[(hg.fam h2).lost];simp)];split
    .show(1:Int)<=4;omega
    .omega
   unfold Wc9;rw[Wb e2,Wb (by omega)];omega
  .unfold Wc9;rw[Wa (show¬x.phase<=4 by omega)];split<;>omega
 .exact .inr wP
theorem WwX{z:Kd}{j:Nat}{c:List Opn}(h:z.phase=3):Weq m f z j c=(f,z):=by
 unfold Weq;rw[Wa (by omega),Wa (by omega),Wa (by omega)]
theorem Wrd(h:Wbj f=true){j:Nat}(hj:j<f.kids.length){c:List Opn}:WcE m f j c=f:=by
 unfold WcE;split
 .rfl
 .have h3:f.kids[j].phase=3:=by
   unfold Wbj at h;rw[Xag]at h;simpa using h _ (Xo hj)
  rw[show f.kids.getD j {}=f.kids[j]from Wp hj _,WwX h3];unfold Fm.put;simp only;rw[Xbd]
variable{codes:List (List Opn)}
theorem Wjt(h:Wbj f=true):∀(d i:Nat),i+d=f.kids.length->WcB m codes d i f=f
 |0,_,_=>rfl
 |d+1,i,hi=>by rw[WcB,Wrd h (by omega)];exact Wjt h d (i+1) (by omega)
theorem Wn6(hm:W2 m=true)(bd:∀c∈codes,KC c)(h3:codes.length<=3):∀(d i:Nat) (n:Int) (f:Fm),i+d=codes.length->FOk codes n f->(∀(j:Nat) (h:j<f.kids.length),KT f j f.kids[j])->FGd m f->FGd m (WcB m codes d i f)
 |0,_,_,_,_,_,_,hg=>hg
 |d+1,i,n,f,hi,hF,hT,hg=>by
  have hlen:=hF.len;have hc:KC (codes.getD i []):=by rw[Wp (show i<codes.length by omega) _];exact bd _ (Xo _)
  have yJ:=WuJ (k:=i) hF hT hg (by omega) hc;rw[WcB];refine Wn6 hm bd h3 d (i+1) (n+1) _ (by omega) (WkW (by omega) hm hc hF rfl) ?_ yJ;rcases Wqr hm bd h3 hF hT (k:=i) (by omega)with h|h
  .rw[yJ.lost]at h;cases h
  .exact h
def Was(m:Mm)(p:Pg)(d i:Nat)(x:Rt):Rt:=if x.phase=2 then{x with fam:=WcB m p.2 d i x.fam}else x
theorem WpY:∀(d j:Nat) (w:Wo) (hk:k<w.roots.length),j+d=(s.2.1.getD k pg0).2.length->
  WcA s k d j w={w with now:=w.now+d,roots:=w.roots.set k (Was w.mem (s.2.1.getD k pg0) d j w.roots[k])}
 |0,j,w,hk,hj=>by
  have:Was w.mem (s.2.1.getD k pg0) 0 j w.roots[k]=w.roots[k]:=by
   unfold Was;split<;>rfl
  rw[WcA,this,Xbd];simp
 |d+1,j,w,hk,hj=>by
  rw[WcA];have hb:0<=(k:Int)/\(k:Int)<w.roots.length:=by omega
  have hg:w.roots.getD k rt0=w.roots[k]:=Wp hk _;have e:Wcw s w (2,(k:Int),(j:Int))={w with now:=w.now+1,roots:=w.roots.set k (Was w.mem (s.2.1.getD k pg0) 1 j w.roots[k])}:=by
   unfold Wcw;simp only[Xj];rw[Wb hb,Wa (by omega),Wb trivial,hg];unfold Was;by_cases h2:w.roots[k].phase=2
   .rw[Wb ⟨h2,by omega,by omega⟩,Wb h2];rfl
   .rw[Wa (λh=>h2 h.1),Wa h2,Xbd]
  have cw:k<(Wcw s w (2,(k:Int),(j:Int))).roots.length:=by rw[e];show k<(w.roots.set k _).length;rw[Xah];exact hk
  rw[WpY d (j+1) _ cw (by omega)];have e1:(Wcw s w (2,(k:Int),(j:Int))).roots[k]=Was w.mem (s.2.1.getD k pg0) 1 j w.roots[k]:=by
   simp only[e,Xey]
  rw[e1,e];simp only[Xdl];have e2:Was w.mem (s.2.1.getD k pg0) d (j+1) (Was w.mem (s.2.1.getD k pg0) 1 j w.roots[k])=Was w.mem (s.2.1.getD k pg0) (d+1) j w.roots[k]:=by
   unfold Was;by_cases h2:w.roots[k].phase=2
   .rw[Wb h2,Wb h2,Wb h2];rfl
   .rw[Wa h2,Wa h2,Wa h2]
  rw[e2];congr 1;omega
end
section
variable{s:Sc}{w v:Wo}{n:Int}{x y:Rt}{k:Nat}{p:Pg}{f g:Fm}{m:Mm}{o:Opn}
theorem WrU(h0:x.phase≠0)(hz:(WW w x k p).2.phase=0):(WW w x k p).2.tries=x.tries+1:=by
 unfold WW at hz⊢;by_cases hd:x.doomed=true/\1<=x.phase/\x.phase<=4
 .rw[Wb hd]at hz;exact Wi (show(6:Int)=0 from hz) (by omega)
 rw[Wa hd,Wa h0]at hz⊢;by_cases h1:x.phase=1
 .rw[Wb h1]at hz;have cl:∀out,(WaC w x k out).2.phase≠0:=λout=>by
   unfold WaC;simp only;generalize (if out=2 then []else x.writes)=rows;split
   .show(8:Int)≠0;omega
   .show(5:Int)≠0;omega
  have:(Wgk w x k p).2.phase≠0:=by
   unfold Wgk;split
   .exact cl _
   .simp only;generalize opN p.1 x.pc=o;split
    .exact(WlD h1).1
    .split
     .unfold Wb0;split
      .exact cl _
      .split<;>(show x.phase≠0;omega)
     .split
      .show(2:Int)≠0;omega
      .split
       .unfold WbO;cases WaX w.holds ((k:Int)+1) (WaH o).1 (WaH o).2 with
        |none=>exact Wc8.1
        |some hs=>exact h0
       .repeat' split
        all_goals exact h0
  exact Wi hz this
 rw[Wa h1]at hz⊢;by_cases h2:x.phase=2
 .rw[Wb h2]at hz;have:(WbR x).phase≠0:=by
   unfold WbR;split
   .show(6:Int)≠0;omega
   .split
    .show(1:Int)≠0;omega
    .exact h0
  exact Wi hz this
 rw[Wa h2]at hz⊢;by_cases h3:x.phase=3
 .rw[Wb h3]at hz;have:(Wa1 w x).2.phase≠0:=by
   unfold Wa1;split
   .exact h0
   .show(4:Int)≠0;omega
  exact Wi hz this
 rw[Wa h3]at hz⊢;by_cases h4:x.phase=4
 .rw[Wb h4]at hz;have:(WaA w x).phase≠0:=by
   unfold WaA;simp only;split
   .split
    .show(6:Int)≠0;omega
    .exact h0
   .show(1:Int)≠0;omega
  exact Wi hz this
 rw[Wa h4]at hz⊢;by_cases h5:x.phase=5
 .rw[Wb h5]at hz;have:(Waf w x k).2.phase≠0:=by
   unfold Waf;split
   .simp only;split
    .show(6:Int)≠0;omega
    .exact h0
   .show(WaL {x with cm:=(Ws w.mem x.cm).2}).phase≠0;unfold WaL;split
    .show(6:Int)≠0;omega
    .split
     .show(if x.fate=2 then(6:Int)else 7)≠0;split<;>omega
     .exact h0
  exact Wi hz this
 rw[Wa h5]at hz⊢;by_cases h6:x.phase=6
 .rw[Wb h6]at hz;split at hz
  .exact Wi hz h0
  .exact Wi (show(7:Int)=0 from hz) (by omega)
 rw[Wa h6]at hz⊢;by_cases h7:x.phase=7
 .rw[Wb h7]at hz⊢;split at hz
  .rw[Wb ‹_›]
  .exact Wi (show(8:Int)=0 from hz) (by omega)
 .rw[Wa h7]at hz;exact Wi hz h0
structure WI(s:Sc)(n:Int)(w:Wo):Prop where
 ok:WOk s.2.1 n w
 wx:WX w
 lx:LX w
 wt:WT w
 tx:TX w
theorem WI.act(h:WI s n w)(a:Ac):WI s (n+1) (Wcw s w a):=
 ⟨Wch h.ok,(WdL h.ok h.wx).1,Wl7 h.ok h.wx h.lx,Wpl h.ok h.wt,Wub h.ok h.lx h.tx⟩
theorem WI.kids:∀(d j:Nat) (n:Int) (w:Wo),WI s n w->WI s (n+d) (WcA s k d j w)
 |0,_,n,w,h=>by rw[WcA];simpa using h
 |d+1,j,n,w,h=>by
  have:=WI.kids d (j+1) (n+1) _ (h.act (2,(k:Int),(j:Int)));rw[WcA,show n+((d+1:Nat):Int)=n+1+(d:Int) by omega];exact this
def Wv9(s:Sc)(k:Nat)(w:Wo):Wo:=WcA s k (s.2.1.getD k pg0).2.length 0 (Wcw s w (1,(k:Int),0))
theorem WI.blk(h:WI s n w):WI s (n+1+(s.2.1.getD k pg0).2.length) (Wv9 s k w):=WI.kids _ _ _ _ (h.act _)
theorem Wx7(h:WOk s.2.1 n w)(hk:k<w.roots.length):Wv9 s k w=
  (λq:Wo×Rt=>{q.1 with now:=q.1.now+(s.2.1.getD k pg0).2.length,roots:=w.roots.set k (Was q.1.mem (s.2.1.getD k pg0) (s.2.1.getD k pg0).2.length 0 q.2)}) (WW {w with now:=w.now+1} w.roots[k] k (s.2.1.getD k pg0)):=by
 have hr:=WhU h hk;have hb:0<=(k:Int)/\(k:Int)<w.roots.length:=by omega
 have e:Wcw s w (1,(k:Int),0)=Wo.put (WW {w with now:=w.now+1} w.roots[k] k (s.2.1.getD k pg0)) k:=by
  unfold Wcw;simp only[Xj];rw[Wb hb,Wb trivial];unfold WiC;rw[Wp (show k<({w with now:=w.now+1}:Wo).roots.length from hk)]
 unfold Wv9;rw[e];generalize WW {w with now:=w.now+1} w.roots[k] k (s.2.1.getD k pg0)=q at*;have cw:k<(Wo.put q k).roots.length:=by show k<(q.1.roots.set k q.2).length;rw[Xah,hr];exact hk
 rw[WpY _ _ _ cw (by omega)];have e1:(Wo.put q k).roots[k]=q.2:=Xey ..;rw[e1];unfold Wo.put;simp only[Xdl,hr]
theorem Wn2{d i:Nat}:(Was m p d i x).phase=x.phase/\(Was m p d i x).tries=x.tries:=by
 unfold Was;split<;>exact⟨rfl,rfl⟩
theorem Wda{d i:Nat}(h:x.phase≠2):Was m p d i x=x:=by unfold Was;rw[Wa h]
theorem WtA(hp:POk p)(hx:ROk p n x)(ht:RT x)(hm:W2 m=true):Wu p (Was m p p.2.length 0 x)<=Wu p x:=by
 by_cases h2:x.phase=2
 .obtain⟨f1,f2,f3⟩:=(hx.live (by omega)).fork h2;unfold Was;rw[Wb h2];by_cases hl:x.fam.lost=true
  .rw[WdQ _ _ _ hl];exact Xx _
  by_cases ho:Wbj x.fam=true
  .rw[Wjt ho _ _ (by rw[f3.len];omega)];exact Xx _
  .have:=Wiu hp hx ht h2 hl ho hm;omega
 .rw[Wda h2];exact Xx _
structure BK(w v:Wo)(k:Nat)(p:Pg)(x y:Rt):Prop where
 tok:v.token=w.token\/(v.token=(k:Int)+1/\w.token=0/\x.phase=0/\y.phase=0)\/(w.token=(k:Int)+1/\v.token=0/\y.phase=8)
 mem:x.phase≠5->v.mem=w.mem
 done:x.phase=8->y=x
 idle:x.phase=0->(y=x/\(w.token=0->v.token=(k:Int)+1)/\(w.token=(k:Int)+1->Wab k w.roots 0=false))\/
  (y.phase=1/\Wu p y=785/\y.tries=x.tries/\v.token=w.token/\(w.token=0/\x.tries<3\/w.token=(k:Int)+1/\Wab k w.roots 0=true/\RGd v.mem y/\Wc9 p y=493))
 live:1<=x.phase/\x.phase<=7->y.phase=8\/(y.phase=0/\y.tries=x.tries+1)\/((1<=y.phase/\y.phase<=7)/\y.tries=x.tries/\Wu p y<Wu p x)
 keep:x.phase≠0->x.phase≠8->y.phase≠0->y.tries=x.tries
 good:x.phase≠0->x.phase≠8->RGd w.mem x->(∀e∈w.holds,e.1=(k:Int)+1)->y.phase=8\/(RGd v.mem y/\Wc9 p y<Wc9 p x)
theorem Wrp(h:WI s n w)(hk:k<w.roots.length)(h0:w.roots[k].phase=0)(ho:Wab k w.roots 0=true){t b:Int}{r:List Int}:
  RGd w.mem {phase:=1,tries:=t,rv:=w.mem.1,began:=b,regs:=r}:=by
 refine⟨rfl,rfl,.inl rfl,λ_=>⟨λi a c=>⟨?_,?_⟩,λh=>by cases h⟩,λh=>by(change (1:Int)=2 at h;omega),λh=>by(change (1:Int)=5 at h;omega),λh=>by(change (1:Int)=5\/(1:Int)=6\/(1:Int)=7 at h;omega)⟩
 .rcases h.lx.ow i a c with e|⟨j,hj,e⟩
  .exact e
  .have h5:w.roots[j].phase≠5:=by
    by_cases ep:j=k
    .subst ep;omega
    .rcases WdO ho j hj (by omega)with e|e<;>omega
   exact Wi e ((h.lx.root j hj).no h5 i a c)
 .have:=WdV h.ok.mem ⟨a,c⟩;unfold WrR at this;simp only[Xi,Wh]at this;exact this.2.1.2
theorem WxA(h:WI s n w)(hk:k<w.roots.length)(hn:n<=99999):∃y,(Wv9 s k w).roots=w.roots.set k y/\BK w (Wv9 s k w) k (s.2.1.getD k pg0) w.roots[k] y:=by
 have jj:=h.ok.l4;have hlen:=h.ok.len;have hp:POk (s.2.1.getD k pg0):=Wgv h.ok.progs (by omega);have hx:=h.ok.root k hk;have ra:=h.wx k hk;have ht:=h.wt.root k hk;have df:=h.wt.clk;have qm:=h.ok.now;have wQ:=hx.phase;have aK:0<=(s.2.1.getD k pg0).2.length:=Xbp _;rw[Wx7 h.ok hk];generalize dC:s.2.1.getD k pg0=p at*;have hq:=Wid (w:={w with now:=w.now+1}) (k:=k) hp ⟨h.ok.mem,h.ok.shelf,h.ok.holds⟩ hx (by omega) h.ok.n0;have yK:=WpH (w:={w with now:=w.now+1}) (k:=k) (p:=p) ht;have nO:=Wno (w:={w with now:=w.now+1}) (x:=w.roots[k]) (k:=k) (p:=p);have uq:=Wk4 (w:={w with now:=w.now+1}) (x:=w.roots[k]) (k:=k) (p:=p);have hz:=WrU (w:={w with now:=w.now+1}) (x:=w.roots[k]) (k:=k) (p:=p);have tD:=Wka (w:={w with now:=w.now+1}) (k:=k) hp hx ra ht (by omega);have iQ:LB {w with now:=w.now+1} k w.roots[k]:=⟨(h.lx.root k hk).cm,(h.lx.root k hk).no,(h.lx.root k hk).hd,(h.lx.root k hk).tk⟩;have vu:=λhg hh=>WyS (w:={w with now:=w.now+1}) (k:=k) hp hx ra ht (by omega) hg hh h.ok.mem iQ (show w.mem.1<1000000 by omega);have bv:w.roots[k].phase=0->WW {w with now:=w.now+1} w.roots[k] k p=Wds {w with now:=w.now+1} w.roots[k] k:=λh0=>by
  unfold WW;rw[Wa (by omega),Wb h0]
 refine⟨_,rfl,?_⟩;have aW:=Wn2 (m:=(WW {w with now:=w.now+1} w.roots[k] k p).1.mem) (p:=p) (x:=(WW {w with now:=w.now+1} w.roots[k] k p).2) (d:=p.2.length) (i:=0);have hle:=WtA hp hq.root yK hq.mem;have hne:=Wda (m:=(WW {w with now:=w.now+1} w.roots[k] k p).1.mem) (p:=p) (x:=(WW {w with now:=w.now+1} w.roots[k] k p).2) (d:=p.2.length) (i:=0);constructor
 .show(WW {w with now:=w.now+1} w.roots[k] k p).1.token=w.token\/_;rcases uq.tok with e|⟨e1,e2,e3,e4⟩|⟨e1,e2,e3⟩
  .exact .inl e
  .exact .inr (.inl ⟨e1,e2,e3,by rw[aW.1];exact e4⟩)
  .exact .inr (.inr ⟨e1,e2,by rw[aW.1];exact e3⟩)
 .intro h5;rcases nO with e|e
  .exact e
  .exact Wi e.1 h5
 .intro h8;have e:=uq.done h8;rw[e];exact Wda (by show w.roots[k].phase≠2;omega)
 .intro h0;rw[bv h0];unfold Wds;by_cases a1:w.token≠0/\w.token≠(k:Int)+1
  .rw[Wb a1];exact .inl ⟨Wda (by show w.roots[k].phase≠2;omega),λh=>Wi h a1.1,λh=>Wi h a1.2⟩
  rw[Wa a1];by_cases a2:w.roots[k].tries>=3/\w.token=0
  .rw[Wb a2];exact .inl ⟨Wda (by show w.roots[k].phase≠2;omega),λ_=>rfl,λh=>by have:=a2.2;omega⟩
  rw[Wa a2];by_cases a3:w.token=(k:Int)+1/\Wab k w.roots 0=false
  .rw[Wb a3];exact .inl ⟨Wda (by show w.roots[k].phase≠2;omega),λh=>by have:=a3.1;omega,λ_=>a3.2⟩
  rw[Wa a3];right;have e:∀m,Was m p p.2.length 0 ({phase:=1,tries:=w.roots[k].tries,rv:=w.mem.1,began:=w.now+1,regs:=[0,0,0,0]}:Rt)={phase:=1,tries:=w.roots[k].tries,rv:=w.mem.1,began:=w.now+1,regs:=[0,0,0,0]}:=λm=>Wda (by show(1:Int)≠2;omega);have tE:Wu p ({phase:=1,tries:=w.roots[k].tries,rv:=w.mem.1,began:=w.now+1,regs:=[0,0,0,0]}:Rt)=785:=by
   rw[Wb9 rfl];have:Wep p 0=382:=by
    have e0:frk p.1 0=0:=rfl;unfold Wep;rw[show(0:Int).toNat=0 from rfl,e0];rfl
   have e1:Wa9 ({phase:=1,tries:=w.roots[k].tries,rv:=w.mem.1,began:=w.now+1,regs:=[0,0,0,0]}:Rt)=328:=rfl;rw[e1];show 75-3*0-0+Wep p 0+328=785;omega
  refine⟨?_,?_,?_,rfl,?_⟩
  .show(Was w.mem p p.2.length 0 ({phase:=1,tries:=w.roots[k].tries,rv:=w.mem.1,began:=w.now+1,regs:=[0,0,0,0]}:Rt)).phase=1;rw[e]
  .show Wu p (Was w.mem p p.2.length 0 ({phase:=1,tries:=w.roots[k].tries,rv:=w.mem.1,began:=w.now+1,regs:=[0,0,0,0]}:Rt))=785;rw[e];exact tE
  .show(Was w.mem p p.2.length 0 ({phase:=1,tries:=w.roots[k].tries,rv:=w.mem.1,began:=w.now+1,regs:=[0,0,0,0]}:Rt)).tries=_;rw[e]
  .by_cases h0:w.token=0
   .exact .inl ⟨h0,by omega⟩
   .have lh:w.token=(k:Int)+1:=by omega
    have nV:Wab k w.roots 0=true:=by
     cases hc:Wab k w.roots 0 with
     |true=>rfl
     |false=>exact Wi ⟨lh,hc⟩ a3
    refine .inr ⟨lh,nV,?_,?_⟩
    .show RGd w.mem (Was w.mem p p.2.length 0 ({phase:=1,tries:=w.roots[k].tries,rv:=w.mem.1,began:=w.now+1,regs:=[0,0,0,0]}:Rt));rw[e];exact Wrp h hk ‹_› nV
    .show Wc9 p (Was w.mem p p.2.length 0 ({phase:=1,tries:=w.roots[k].tries,rv:=w.mem.1,began:=w.now+1,regs:=[0,0,0,0]}:Rt))=493;rw[e];unfold Wc9;rw[Wb (by show(1:Int)<=4;omega),tE];rfl
 .intro aC;show(Was (WW {w with now:=w.now+1} w.roots[k] k p).1.mem p p.2.length 0 (WW {w with now:=w.now+1} w.roots[k] k p).2).phase=8\/_;rw[aW.1,aW.2];have AG:=hq.root.phase;by_cases qh:(WW {w with now:=w.now+1} w.roots[k] k p).2.phase=0
  .exact .inr (.inl ⟨qh,hz (by omega) qh⟩)
  by_cases hz8:(WW {w with now:=w.now+1} w.roots[k] k p).2.phase=8
  .exact .inl hz8
  refine .inr (.inr ⟨by omega,uq.try1 (by omega) (by omega) qh,?_⟩);rcases tD aC with hl|⟨h2,hl,ho,e⟩
  .omega
  .rw[e];rcases nO with em|em
   .rw[em];have:=Wiu hp hx ht h2 hl ho h.ok.mem;unfold Was;rw[Wb h2];exact this
   .omega
 .intro h0 h8 wR;simp only[aW.1]at wR;rw[aW.2];exact uq.try1 h0 h8 wR
 .intro h0 h8 hg hh;rcases vu hg hh with e8|⟨gq,j9⟩
  .exact .inl (by rw[aW.1];exact e8)
  right;generalize WW {w with now:=w.now+1} w.roots[k] k p=q at*;show RGd q.1.mem (Was q.1.mem p p.2.length 0 q.2)/\Wc9 p (Was q.1.mem p p.2.length 0 q.2)<Wc9 p w.roots[k];refine⟨?_,?_⟩
  .by_cases h2:q.2.phase=2
   .unfold Was;rw[Wb h2];obtain⟨f1,f2,f3⟩:=(hq.root.live (by omega)).fork h2;have hT:=(yK.fam h2).resolve_left (by rw[(gq.fam h2).lost];simp);exact⟨gq.dm,gq.sp,gq.ph,gq.run,λ_=>Wn6 hq.mem hp.kids hp.k3 _ _ _ _ (by omega) f3 hT (gq.fam h2),λh5=>gq.cm h5,gq.ft⟩
   .rw[hne h2];exact gq
  .have AH:Wc9 p (Was q.1.mem p p.2.length 0 q.2)<=Wc9 p q.2:=by
    unfold Wc9;rw[aW.1];split<;>omega
   rcases j9 with hl|⟨h2,hl,ho,e⟩
   .omega
   .rw[e]at AH⊢;rcases nO with em|em
    .rw[em];have:=Wiu hp hx ht h2 hl ho h.ok.mem;have ek:Was w.mem p p.2.length 0 w.roots[k]={w.roots[k]with fam:=WcB w.mem p.2 p.2.length 0 w.roots[k].fam}:=by unfold Was;rw[Wb h2]
     show Wc9 p (Was w.mem p p.2.length 0 w.roots[k])<_;unfold Wc9;rw[Wn2.1,Wb (by omega),Wb (by omega),ek];exact Int.sub_lt_sub_right this 292
    .omega
end
section
variable{s:Sc}{w v:Wo}{n:Int}{x y:Rt}{k i:Nat}{p:Pg}
def Wia(s:Sc)(j:Nat):Pg:=s.2.1.getD j pg0
structure RJ(w:Wo)(p:Pg)(j:Nat)(x y:Rt):Prop where
 done:x.phase=8->y=x
 idle:x.phase=0->y=x\/(y.phase=1/\Wu p y=785/\y.tries=x.tries/\(x.tries<3\/w.token=(j:Int)+1))
 live:1<=x.phase/\x.phase<=7->y.phase=8\/(y.phase=0/\y.tries=x.tries+1)\/((1<=y.phase/\y.phase<=7)/\y.tries=x.tries/\Wu p y<Wu p x)
def Wxx(w v:Wo)(p:Pg)(k i:Nat)(x y:Rt):Prop:=
 (i<=k->x.phase≠0->RGd w.mem x->RGd v.mem x)/\
 (k<i->(x.phase=0->(y=x/\∃(j:Nat) (h:j<w.roots.length),j≠k/\1<=w.roots[j].phase/\w.roots[j].phase<=7)\/(y.phase=1/\RGd v.mem y/\Wc9 p y=493))/\(x.phase≠0->RGd w.mem x->RGd v.mem y/\Wc9 p y<Wc9 p x))
structure Rd(s:Sc)(w v:Wo)(i:Nat):Prop where
 len:v.roots.length=w.roots.length
 rest:∀(j:Nat) (h:j<w.roots.length) (h':j<v.roots.length),i<=j->v.roots[j]=w.roots[j]
 did:∀(j:Nat) (h:j<w.roots.length) (h':j<v.roots.length),j<i->RJ w (Wia s j) j w.roots[j] v.roots[j]
 tk0:w.token=0->(v.token=0/\∀(j:Nat) (h:j<w.roots.length) (h':j<v.roots.length),j<i->w.roots[j].phase=0->v.roots[j].phase=1)\/
  ∃(k:Nat) (h:k<w.roots.length) (h':k<v.roots.length),k<i/\v.token=(k:Int)+1/\w.roots[k].phase=0/\v.roots[k].phase=0
 tk1:∀(k:Nat) (h:k<w.roots.length) (h':k<v.roots.length),w.token=(k:Int)+1->
  (v.token=(k:Int)+1/\(∀(j:Nat) (h:j<w.roots.length) (h':j<v.roots.length),j≠k->w.roots[j].phase=0->v.roots[j]=w.roots[j])/\Wxx w v (Wia s k) k i w.roots[k] v.roots[k])\/
  (k<i/\w.roots[k].phase≠0/\v.roots[k].phase=8/\(v.token=0\/∃(j:Nat) (h:j<w.roots.length) (h':j<v.roots.length),j<i/\j≠k/\v.token=(j:Int)+1/\v.roots[j].phase=0/\w.roots[j].phase≠8))
theorem Rd.refl:Rd s w w 0:=
 ⟨rfl,λ_ _ _ _=>rfl,λj _ _ h=>Wi h (by omega),λh=>.inl ⟨h,λj _ _ h=>Wi h (by omega)⟩,λk h _ ht=>.inl ⟨ht,λ_ _ _ _ _=>rfl,λ_ _ h=>h,λh=>Wi h (by omega)⟩⟩
theorem WeC:∀{l:List Rt} {i:Nat},Wab k l i=false->∃(j:Nat) (h:j<l.length),i+j≠k/\l[j].phase≠0/\l[j].phase≠8
 | [],i,h=>by cases h
 |x::l,i,h=>by
  rw[Wab]at h;by_cases hx:i≠k/\x.phase≠0/\x.phase≠8
  .exact⟨0,by simp,by simpa using hx.1,hx.2.1,hx.2.2⟩
  .have:(decide (i=k)||(decide (x.phase=0)||decide (x.phase=8)))=true:=by
    simp only[Xcb,Wh];by_cases h1:i=k
    .exact .inl h1
    .by_cases h2:x.phase=0
     .exact .inr (.inl h2)
     .by_cases h3:x.phase=8
      .exact .inr (.inr h3)
      .exact Wi ⟨h1,h2,h3⟩ hx
   rw[this,Bool.true_and]at h;obtain⟨j,hj,a,b⟩:=WeC h;exact⟨j+1,by simpa using hj,by omega,by simpa using b⟩
theorem WsU(h:LX w)(ho:∀(j:Nat) (hj:j<w.roots.length),j≠k->w.roots[j].phase=0\/w.roots[j].phase=8):∀e∈w.holds,e.1=(k:Int)+1:=λe he=>by
 obtain⟨j,hj,e1⟩:=h.hd e he;by_cases ep:j=k
 .subst ep;exact e1
 .have:=(h.root j hj).hd e he e1;rcases ho j hj ep with h0|h8
  .exact Wi h0 this.1
  .exact Wi h8 this.2
theorem Rd.step(h0:WI s n w)(hv:∃n',n'<=99999/\WI s n' v)(hR:Rd s w v i)(hi:i<w.roots.length):Rd s w (Wv9 s i v) (i+1):=by
 obtain⟨n',w9,hV⟩:=hv;have aC:=hR.len;have tF:i<v.roots.length:=by omega
 obtain⟨y,hy,hB⟩:=WxA hV tF w9;change BK v (Wv9 s i v) i (Wia s i) v.roots[i] y at hB;have wS:=hR.rest i hi tF (Xm _);have wQ:=(hV.ok.root i tF).phase;have iD:=hV.lx.tk;have hUl:=(hV.blk (k:=i)).lx;generalize Wv9 s i v=u at*;have hlu:u.roots.length=v.roots.length:=by rw[hy,Xah]
 have hg:∀(j:Nat) (h:j<u.roots.length) (h':j<v.roots.length),u.roots[j]=if i=j then y else v.roots[j]:=λj h h'=>by
  simp only[hy,Xau]
 have nl:∀(h:i<u.roots.length),u.roots[i]=y:=λh=>by rw[hg i h tF,Wb rfl]
 have mz:∀(j:Nat) (h:j<u.roots.length) (h':j<v.roots.length),j≠i->u.roots[j]=v.roots[j]:=λj h h' hne=>by rw[hg j h h',Wa (λe=>hne e.symm)]
 rw[wS]at hB;have hRJ:RJ w (Wia s i) i w.roots[i] y:=by
  refine⟨hB.done,λuk=>?_,hB.live⟩;rcases hB.idle uk with⟨e,_⟩|⟨e1,e2,e3,e4,e5⟩
  .exact .inl e
  .refine .inr ⟨e1,e2,e3,?_⟩;rcases e5 with⟨_,e5⟩|⟨e5,_⟩
   .exact .inl e5
   .right;by_cases kT:w.token=0
    .rcases hR.tk0 kT with⟨a,_⟩|⟨k,a1,a2,a3,a4,a5,a6⟩
     .omega
     .omega
    .obtain⟨k,hk,ek⟩:=h0.lx.tk.resolve_left kT;rcases hR.tk1 k hk (by omega) ek with⟨a,_⟩|⟨_,_,_,a|⟨j,_,_,a0,_,a,_⟩⟩
     .omega
     .omega
     .omega
 constructor
 .omega
 .intro j h h' hij;rw[mz j h' (by omega) (by omega)];exact hR.rest j h (by omega) (by omega)
 .intro j h h' hij;by_cases hj:j=i
  .subst hj;rw[nl h'];exact hRJ
  .rw[mz j h' (by omega) hj];exact hR.did j h (by omega) (by omega)
 .intro kT;rcases hR.tk0 kT with⟨a,b⟩|⟨k,a1,a2,a3,a4,a5,a6⟩
  .rcases hB.tok with e|⟨e1,e2,e3,e4⟩|⟨e1,_⟩
   .refine .inl ⟨by omega,λj h h' lK hz=>?_⟩;by_cases hj:j=i
    .subst hj;rw[nl h'];rcases hB.idle hz with⟨_,e2,_⟩|⟨e1,_⟩
     .have:=e2 a;omega
     .exact e1
    .rw[mz j h' (by omega) hj];exact b j h (by omega) (by omega) hz
   .exact .inr ⟨i,hi,by omega,by omega,e1,e3,by rw[nl];exact e4⟩
   .omega
  .right;have kM:k≠i:=by omega
   refine⟨k,a1,by omega,by omega,?_,a5,by rw[mz k _ a2 kM];exact a6⟩;rcases hB.tok with e|⟨e1,e2,e3,e4⟩|⟨e1,_⟩
   .omega
   .omega
   .omega
 .intro k hk cw nm;have kU:k<v.roots.length:=by omega
  rcases hR.tk1 k hk kU nm with⟨a,b,c1,c2⟩|⟨a1,a2,a3,a4⟩
  .by_cases kL:i=k
   .subst kL;rw[nl cw];rcases hB.tok with e|⟨_,e2,_⟩|⟨e1,e2,e3⟩
    .refine .inl ⟨by omega,λj h h' hne hz=>by rw[mz j h' (by omega) hne];exact b j h (by omega) hne hz,λh=>Wi h (by omega),λ_=>⟨λhz=>?_,λjX hg0=>?_⟩⟩
     .rcases hB.idle hz with⟨f1,_,f3⟩|⟨f1,f2,f3,f4,f5⟩
      .obtain⟨j,hj,j1,j2,j3⟩:=WeC (f3 a);have tG:j<w.roots.length:=by omega
       refine .inl ⟨f1,j,tG,by omega,?_⟩;have aW:=(h0.ok.root j tG).phase;have n0:w.roots[j].phase≠0:=λhz=>j2 (by rw[b j tG hj (by omega) hz];exact hz);have n8:w.roots[j].phase≠8:=λhz=>by
        by_cases lK:j<i
        .have:=(hR.did j tG hj lK).done hz;exact j3 (by rw[this];exact hz)
        .have:=hR.rest j tG hj (by omega);exact j3 (by rw[this];exact hz)
       omega
      .right;rcases f5 with⟨f5,_⟩|⟨_,_,f5,f6⟩
       .omega
       .exact⟨f1,f5,f6⟩
     .have n8:w.roots[i].phase≠8:=λh8=>by
       have:=(hUl.root i cw).tk (by omega);rw[nl cw,hB.done h8]at this;exact this.2 h8
      have ur:=WsU (k:=i) hV.lx (λj hj hne=>hV.tx.t2 i kU a (by rw[wS];exact jX) j hj hne);rcases hB.good jX n8 (c1 (Xm _) jX hg0) ur with h8|nA
      .have:=(hUl.root i cw).tk (by omega);rw[nl cw]at this;exact Wi h8 this.2
      .exact nA
    .omega
    .refine .inr ⟨by omega,λhz=>?_,e3,.inl e2⟩;rcases hB.idle hz with⟨f1,_⟩|⟨f1,_⟩
     .rw[f1]at e3;omega
     .omega
   .have kM:k≠i:=λe=>kL e.symm;have iD:u.token=(k:Int)+1:=by
     rcases hB.tok with e|⟨_,e2,_⟩|⟨e1,e2,e3⟩<;>omega
    have hmem:v.roots[k].phase≠0->u.mem=v.mem:=λjX=>by
     have:=hV.tx.t2 k kU a jX i tF kL;rw[wS]at this;exact hB.mem (by omega)
    rw[mz k cw kU kM];refine .inl ⟨iD,λj h h' hne hz=>?_,λhle jX hg0=>?_,λhlt=>?_⟩
    .by_cases hj:j=i
     .subst hj;rw[nl h'];rcases hB.idle hz with⟨f1,_⟩|⟨f1,f2,f3,f4,f5⟩
      .exact f1
      .omega
     .rw[mz j h' (by omega) hj];exact b j h (by omega) hne hz
    .have e:=hR.rest k hk kU (by omega);rw[hmem (by rw[e];exact jX)];exact c1 (by omega) jX hg0
    .obtain⟨d1,d2⟩:=c2 (by omega);refine⟨λhz=>?_,λjX hg0=>?_⟩
     .rcases d1 hz with d|⟨d3,d4,d5⟩
      .exact .inl d
      .exact .inr ⟨d3,by rw[hmem (by omega)];exact d4,d5⟩
     .obtain⟨d3,d4⟩:=d2 jX hg0;have:=d3.ph;exact⟨by rw[hmem (by omega)];exact d3,d4⟩
  .right;have kM:k≠i:=by omega
   refine⟨by omega,a2,by rw[mz k cw kU kM];exact a3,?_⟩;rcases a4 with a4|⟨j,j1,j2,j3,j4,j5,j6,j7⟩
   .rcases hB.tok with e|⟨e1,e2,e3,e4⟩|⟨e1,e2,e3⟩
    .exact .inl (by omega)
    .exact .inr ⟨i,hi,by omega,by omega,λe=>kM e.symm,e1,by rw[nl];exact e4,by omega⟩
    .omega
   .right;refine⟨j,j1,by omega,by omega,j4,?_,by rw[mz j _ j2 (by omega)];exact j6,j7⟩;rcases hB.tok with e|⟨e1,e2,e3,e4⟩|⟨e1,e2,e3⟩<;>omega
end
section
variable{s:Sc}{w v:Wo}{n:Int}{x y:Rt}{k i:Nat}{p:Pg}
theorem WqC(h0:WI s n w):∀(d i:Nat) (n':Int) (v:Wo),i+d=s.2.1.length->WI s n' v->n'+4*d<=99999->Rd s w v i->Rd s w (Wa0 s d i v) s.2.1.length/\∃m,m<=n'+4*d/\WI s m (Wa0 s d i v)
 |0,i,n',v,hi,hV,hn,hR=>by
  rw[Wa0,show s.2.1.length=i by omega];exact⟨hR,n',by omega,hV⟩
 |d+1,i,n',v,hi,hV,hn,hR=>by
  have AI:=h0.ok.len;have hB:=hR.step h0 ⟨n',by omega,hV⟩ (by omega);have h3:=pk3 hV.ok (i:=i) (by omega);have hW:=hV.blk (k:=i);obtain⟨a,m,hm,b⟩:=WqC h0 d (i+1) _ _ (by omega) hW (by omega) hB;rw[Wa0];exact⟨a,m,by omega,b⟩
def Wg1(x:Rt):Bool:=decide (x.phase≠8)
def Wjy(l:List Rt):Int:=(l.countP Wg1:Nat)
theorem Wts:∀(l l':List Rt),l'.length=l.length->(∀(j:Nat) (h:j<l.length) (h':j<l'.length),Wg1 l'[j]=true->Wg1 l[j]=true)->l'.countP Wg1<=l.countP Wg1
 | [],[],_,_=>Xm _
 | [],_::_,h,_=>by simp at h
 |_::_,[],h,_=>by simp at h
 |x::l,y::l',h,hp=>by
  have ih:=Wts l l' (by simpa using h) λj h1 h2 hu=>hp (j+1) (by simpa using h1) (by simpa using h2) hu;have h0:Wg1 y=true->Wg1 x=true:=hp 0 (by simp) (by simp);rw[Xdv,Xdv];by_cases hy:Wg1 y=true
  .rw[Wb hy,Wb (h0 hy)];omega
  .rw[Wa hy];omega
theorem Wr8:∀(l l':List Rt),l'.length=l.length->(∀(j:Nat) (h:j<l.length) (h':j<l'.length),Wg1 l'[j]=true->Wg1 l[j]=true)->∀(k:Nat) (h:k<l.length) (h':k<l'.length),Wg1 l[k]=true->Wg1 l'[k]=false->l'.countP Wg1+1<=l.countP Wg1
 | [],_,_,_,k,h,_,_,_=>by simp at h
 |_::_,[],h,_,_,_,_,_,_=>by simp at h
 |x::l,y::l',h,hp,k,hk,cw,h1,h2=>by
  have h0:Wg1 y=true->Wg1 x=true:=hp 0 (by simp) (by simp);have hq:∀(j:Nat) (h:j<l.length) (h':j<l'.length),Wg1 l'[j]=true->Wg1 l[j]=true:=λj h1 h2 hu=>hp (j+1) (by simpa using h1) (by simpa using h2) hu;rw[Xdv,Xdv];cases k with
  |zero=>
   have hx:Wg1 x=true:=h1;have hy:Wg1 y=false:=h2;have:=Wts l l' (by simpa using h) hq;rw[Wb hx,hy];simp;omega
  |succ k=>
   have ih:=Wr8 l l' (by simpa using h) hq k (by simpa using hk) (by simpa using cw) h1 h2;by_cases hy:Wg1 y=true
   .rw[Wb hy,Wb (h0 hy)];omega
   .rw[Wa hy];omega
theorem WlN{l:List Rt}{k:Nat}(h:k<l.length)(hu:l[k].phase≠8):Wjy (l.set k {phase:=8})+1<=Wjy l:=by
 have:=Wr8 l (l.set k {phase:=8}) (by simp) (λj h1 h2 hu=>by
  rw[Xau]at hu;split at hu
  .cases hu
  .exact hu) k h (by simpa using h) (by unfold Wg1;simpa using hu) (by rw[Xey];rfl)
 unfold Wjy;omega
theorem Wuk(l:List Rt):0<=Wjy l:=Int.natCast_nonneg _
theorem WwQ{l:List Rt}{k:Nat}(h:k<l.length)(hu:l[k].phase≠8):1<=Wjy l:=by
 have:=WlN h hu;have:=Wuk (l.set k {phase:=8});omega
theorem Ww9{l:List Rt}{k j:Nat}(h:k<l.length)(hj:j<l.length)(hne:k≠j)(hu:l[k].phase≠8)(hv:l[j].phase≠8):2<=Wjy l:=by
 have:=WlN h hu;have:=WwQ (l:=l.set k {phase:=8}) (k:=j) (by simpa using hj) (by rw[Xfk hne];exact hv);omega
theorem Wyy{l:List Rt}{k j i:Nat}(h:k<l.length)(hj:j<l.length)(hi:i<l.length)(h1:k≠j)(h2:k≠i)(h3:j≠i)(hu:l[k].phase≠8)(hv:l[j].phase≠8)(hw:l[i].phase≠8):3<=Wjy l:=by
 have:=WlN h hu;have:=Ww9 (l:=l.set k {phase:=8}) (k:=j) (j:=i) (by simpa using hj) (by simpa using hi) h3 (by rw[Xfk h1];exact hv) (by rw[Xfk h2];exact hw);omega
theorem Wx5(l:List Rt)(h:l.length<=4):Wjy l<=4:=by
 have:l.countP Wg1<=l.length:=List.countP_le_length;unfold Wjy;omega
def tr2(x:Rt):Int:=if x.tries<=2 then 786*(2-x.tries)else 0
def tr3(x:Rt):Int:=if x.tries<=3 then 786*(3-x.tries)else 0
def Bpt(p:Pg)(x:Rt):Int:=if x.phase=0 then tr3 x else if x.phase=8 then 0 else Wu p x+tr2 x
def KP(m:Mm)(p:Pg)(x:Rt)(K:Int):Prop:=(x.phase=0->494<=K)/\(x.phase≠0->Wu p x+494<=K\/(RGd m x/\Wc9 p x<=K))
def ex3(u:Int):Int:=if u>=3 then 808*(u-2)else 0
def ex4(u:Int):Int:=if u>=4 then 808*(u-3)else 0
def exD(u D:Int):Int:=if u>=3 then D else 0
structure Bd(s:Sc)(N:Int)(w:Wo):Prop where
 free:w.token=0->∀(r:Nat) (h:r<w.roots.length),w.roots[r].phase≠8->Bpt (Wia s r) w.roots[r]+495*Wjy w.roots+ex3 (Wjy w.roots)<=N
 held:∀(k:Nat) (h:k<w.roots.length),w.token=(k:Int)+1->∃K D:Int,KP w.mem (Wia s k) w.roots[k] K/\0<=D/\K<=N/\
  (∀(j:Nat) (h:j<w.roots.length),j≠k->1<=w.roots[j].phase->w.roots[j].phase<=7->Wu (Wia s j) w.roots[j]<=D)/\
  ∀(r:Nat) (h:r<w.roots.length),r≠k->w.roots[r].phase≠8->Bpt (Wia s r) w.roots[r]+K+exD (Wjy w.roots) D+495*(Wjy w.roots-1)+ex4 (Wjy w.roots)<=N
theorem Wql(hp:POk p)(hx:ROk p n x)(ht:RT x):0<=Bpt p x/\Bpt p x<=2380/\(x.phase=0->Bpt p x<=2358)/\(1<=x.phase->x.phase<=7->1<=Bpt p x):=by
 have h8:=WbU hp hx ht;have ng:=hx.tries;have aW:=hx.phase;unfold Bpt tr2 tr3;by_cases h0:x.phase=0
 .rw[Wb h0];split<;>omega
 .rw[Wa h0];by_cases nD:x.phase=8
  .rw[Wb nD];omega
  .rw[Wa nD];have:=h8.2.2 (by omega);split<;>omega
theorem RJ.b{j:Nat}(h:RJ w p j x y)(hp:POk p)(hx:ROk p n x)(ht:RT x)(hw:w.token≠(j:Int)+1):Bpt p y<=Bpt p x/\(1<=x.phase->x.phase<=7->Bpt p y<Bpt p x)/\(y.phase=1->x.phase=0->Bpt p y<Bpt p x):=by
 have h8:=WbU hp hx ht;have ng:=hx.tries;have aW:=hx.phase;have e0:∀z:Rt,z.phase=0->Bpt p z=tr3 z:=λz h=>by unfold Bpt;rw[Wb h]
 have e8:∀z:Rt,z.phase=8->Bpt p z=0:=λz h=>by unfold Bpt;rw[Wa (by omega),Wb h]
 have el:∀z:Rt,1<=z.phase->z.phase<=7->Bpt p z=Wu p z+tr2 z:=λz h h'=>by unfold Bpt;rw[Wa (by omega),Wa (by omega)]
 have wR:=(Wql hp hx ht).1;by_cases h0:x.phase=0
 .rcases h.idle h0 with e|⟨e1,e2,e3,e4⟩
  .subst e;exact⟨Xx _,λh=>by omega,λh=>by omega⟩
  .rw[e0 x h0,el y (by omega) (by omega)];have:x.tries<3:=by omega
   unfold tr2 tr3;rw[e3];split<;>split<;>omega
 by_cases nD:x.phase=8
 .have e:=h.done nD;subst e;exact⟨Xx _,λ_ h=>by omega,λh=>by omega⟩
 .have hl:=h.live (by omega);have:=h8.2.2 (by omega);rw[el x (by omega) (by omega)];have yp:0<=tr2 x:=by unfold tr2;split<;>omega
  rcases hl with e|⟨e1,e2⟩|⟨e1,e2,e3⟩
  .rw[e8 y e];omega
  .rw[e0 y e1];have:tr3 y=tr2 x:=by unfold tr2 tr3;rw[e2];split<;>split<;>omega
   omega
  .rw[el y e1.1 e1.2];have:tr2 y=tr2 x:=by unfold tr2;rw[e2]
   omega
end
section
variable{s:Sc}{w v:Wo}{n m N:Int}{x y:Rt}{k i:Nat}{p:Pg}
theorem wpg(h:WI s n w){j:Nat}(hj:j<w.roots.length):POk (Wia s j)/\ROk (Wia s j) n w.roots[j]/\RT w.roots[j]:=
 ⟨Wgv h.ok.progs (by rw[←h.ok.len];exact hj),h.ok.root j hj,h.wt.root j hj⟩
theorem Bd.round(h0:WI s n w)(hv:WI s m v)(hR:Rd s w v s.2.1.length)(hb:Bd s N w):Bd s (N-1) v:=by
 have AI:=h0.ok.len;have aC:=hv.ok.len;have dB:∀{j:Nat},j<v.roots.length->j<w.roots.length:=λh=>by omega
 have AJ:∀{j:Nat},j<w.roots.length->j<v.roots.length:=λh=>by omega
 have hJ:∀(j:Nat) (h:j<v.roots.length),RJ w (Wia s j) j (w.roots[j]'(dB h)) v.roots[j]:=λj h=>hR.did j (dB h) h (by omega);have eE:∀(j:Nat) (h:j<v.roots.length),v.roots[j].phase≠8->(w.roots[j]'(dB h)).phase≠8:=λj h hu hd=>hu (by rw[(hJ j h).done hd];exact hd);have nq:∀(j:Nat) (h:j<w.roots.length) (h':j<v.roots.length),Wg1 v.roots[j]=true->Wg1 w.roots[j]=true:=λj h h' hu=>by
  unfold Wg1 at hu⊢;simp only[Wh]at hu⊢;exact eE j h' hu
 have AK:Wjy v.roots<=Wjy w.roots:=by have:=Wts w.roots v.roots (by omega) nq;unfold Wjy;omega
 have wT:∀(k:Nat) (h:k<v.roots.length),(w.roots[k]'(dB h)).phase≠8->v.roots[k].phase=8->Wjy v.roots+1<=Wjy w.roots:=λk h a b=>by
  have:=Wr8 w.roots v.roots (by omega) nq k (dB h) h (by unfold Wg1;simpa using a) (by unfold Wg1;simpa using b);unfold Wjy;omega
 have uj:=Wx5 w.roots (by have:=h0.ok.l4;omega);have hcv0:=Wuk v.roots;have hB:∀(j:Nat) (h:j<v.roots.length),w.token≠(j:Int)+1->Bpt (Wia s j) v.roots[j]<=Bpt (Wia s j) (w.roots[j]'(dB h))/\(1<=(w.roots[j]'(dB h)).phase->(w.roots[j]'(dB h)).phase<=7->Bpt (Wia s j) v.roots[j]<Bpt (Wia s j) (w.roots[j]'(dB h)))/\(v.roots[j].phase=1->(w.roots[j]'(dB h)).phase=0->Bpt (Wia s j) v.roots[j]<Bpt (Wia s j) (w.roots[j]'(dB h))):=λj h ht=>by
  obtain⟨a,b,c⟩:=wpg h0 (dB h);exact(hJ j h).b a b c ht
 have hB0:∀(j:Nat) (h:j<w.roots.length),0<=Bpt (Wia s j) w.roots[j]/\(1<=w.roots[j].phase->w.roots[j].phase<=7->1<=Bpt (Wia s j) w.roots[j]):=λj h=>by
  obtain⟨a,b,c⟩:=wpg h0 h;have:=Wql a b c;exact⟨this.1,this.2.2.2⟩
 have ip:∀(j:Nat) (h:j<v.roots.length),Wu (Wia s j) v.roots[j]<=808:=λj h=>by
  obtain⟨a,b,c⟩:=wpg hv h;exact(WbU a b c).2.1
 have tH:∀(k:Nat) (h:k<v.roots.length),v.roots[k].phase=0->KP v.mem (Wia s k) v.roots[k] 494:=λk h hz=>⟨λ_=>Xx _,λh=>Wi hz h⟩;have aW:∀(j:Nat) (h:j<w.roots.length),0<=w.roots[j].phase/\w.roots[j].phase<=8:=λj h=>(h0.ok.root j h).phase;by_cases kT:w.token=0
 .have hF:=hb.free kT;rcases hR.tk0 kT with⟨a,b⟩|⟨k,hk,cw,_,a,b,c⟩
  .refine⟨λ_ r hr hu=>?_,λk hk nr=>by omega⟩;have h1:=hF r (dB hr) (eE r hr hu);obtain⟨g1,g2,g3⟩:=hB r hr (by omega);have hlt:Bpt (Wia s r) v.roots[r]<Bpt (Wia s r) (w.roots[r]'(dB hr)):=by
    by_cases hz:(w.roots[r]'(dB hr)).phase=0
    .exact g3 (b r (dB hr) hr (by omega) hz) hz
    .have:=aW r (dB hr);exact g2 (by omega) (by have:=eE r hr hu;omega)
   unfold ex3 at h1⊢;split at h1<;>split<;>omega
  .have wI:=hF k hk (by omega);have yy:=(hB0 k hk).1;have qH:=WwQ hk (show w.roots[k].phase≠8 by omega);refine⟨λhz=>by omega,λk' mA nr=>?_⟩;have:k'=k:=by omega
   subst this;refine⟨494,808,tH k' mA c,by omega,?_,λj hj _ _ _=>ip j hj,λr hr hne hu=>?_⟩
   .unfold ex3 at wI;split at wI<;>omega
   .have h1:=hF r (dB hr) (eE r hr hu);have g1:=(hB r hr (by omega)).1;unfold ex3 at h1;unfold exD ex4;split at h1<;>split<;>split<;>omega
 .obtain⟨k,hk,nm⟩:=h0.lx.tk.resolve_left kT;have kU:k<v.roots.length:=AJ hk;obtain⟨K,D,hK,hD0,hKN,hD,hS⟩:=hb.held k hk nm;have q8:w.roots[k].phase≠8:=((h0.lx.root k hk).tk nm).2;have hKP:=hJ k kU;rcases hR.tk1 k hk kU nm with⟨a,b,_,c⟩|⟨_,a1,a2,a3⟩
  .have tI:w.roots[k].phase≠0->1<=w.roots[k].phase/\w.roots[k].phase<=7:=λh=>by have:=aW k hk;omega
   obtain⟨c1,c2⟩:=c (by omega);have AL:v.roots[k].phase≠8:=((hv.lx.root k kU).tk a).2;refine⟨λhz=>by omega,λk' mA nr=>?_⟩;have:k'=k:=by omega
   subst this;have hBr:∀(r:Nat) (h:r<v.roots.length),r≠k'->_:=λr h hne=>hB r h (by omega);by_cases cx:∃(j:Nat) (h:j<w.roots.length),j≠k'/\1<=w.roots[j].phase/\w.roots[j].phase<=7
   .obtain⟨j,hj,ep,j1,j7⟩:=cx;have hD1:1<=D:=by
     have h1:=hD j hj ep j1 j7;obtain⟨e1,e2,e3⟩:=wpg h0 hj;have:=(WbU e1 e2 e3).2.2 ⟨j1,j7⟩;omega
    have hz:w.roots[k'].phase=0:=by
     apply Classical.byContradiction;intro jX;rcases h0.tx.t2 k' hk nm jX j hj ep with e|e<;>omega
    have uf:2<=Wjy w.roots:=Ww9 hk hj (λe=>ep e.symm) (by omega) (by omega);have hSj:=hS j hj ep (by omega);have hBj:=(hB0 j hj).2 j1 j7;refine⟨K,D-1,?_,by omega,?_,λi hi kL i1 i7=>?_,λr hr hne hu=>?_⟩
    .have hK0:=hK.1 hz;rcases c1 hz with⟨e,_⟩|⟨e1,e2,e3⟩
     .rw[e];exact⟨λ_=>hK0,λh=>Wi hz h⟩
     .exact⟨λh=>by omega,λ_=>.inr ⟨e2,by omega⟩⟩
    .unfold exD ex4 at hSj;split at hSj<;>split at hSj<;>omega
    .have rb:i<w.roots.length:=dB hi;have hzi:w.roots[i].phase≠0:=λh=>by
      have:=b i rb hi kL h;rw[this]at i1;omega
     have h8i:w.roots[i].phase≠8:=eE i hi (by omega);have hp:=aW i rb;have hd:=hD i rb kL (by omega) (by omega);rcases(hJ i hi).live (by omega)with e|⟨e,_⟩|⟨_,_,e⟩
     .omega
     .omega
     .omega
    .have h1:=hS r (dB hr) hne (eE r hr hu);obtain⟨g1,g2,g3⟩:=hBr r hr hne;by_cases hrj:r=j
     .subst hrj;have:=g2 j1 j7;unfold exD ex4 at h1⊢;split at h1<;>split at h1<;>split<;>split<;>omega
     .have xr:=Wyy hk hj (dB hr) (λe=>ep e.symm) (λe=>hne e.symm) (λe=>hrj e.symm) q8 (by omega) (eE r hr hu);unfold exD ex4 at h1⊢;split at h1<;>split at h1<;>split<;>split<;>omega
   .have cE:∀(j:Nat) (h:j<w.roots.length),j≠k'->w.roots[j].phase=0\/w.roots[j].phase=8:=λj h hne=>by
     have hp:=aW j h;by_cases h1:w.roots[j].phase=0\/w.roots[j].phase=8
     .exact h1
     .exact Wi ⟨j,h,hne,by omega,by omega⟩ cx
    refine⟨K-1,D,?_,hD0,by omega,λi hi kL i1 i7=>?_,λr hr hne hu=>?_⟩
    .by_cases hz:w.roots[k'].phase=0
     .have hK0:=hK.1 hz;rcases c1 hz with⟨_,e⟩|⟨e1,e2,e3⟩
      .exact Wi e cx
      .exact⟨λh=>by omega,λ_=>.inr ⟨e2,by omega⟩⟩
     .have fY:=hKP.live (tI hz);obtain⟨e1,e2,e3⟩:=wpg h0 hk;have h1:=(WbU e1 e2 e3).2.2 (tI hz);by_cases hg:RGd w.mem w.roots[k']
      .obtain⟨d1,d2⟩:=c2 hz hg;have hdp:=d1.ph;refine⟨λh=>by omega,λ_=>?_⟩;rcases hK.2 hz with lh|⟨_,lh⟩
       .rcases fY with e|⟨e,_⟩|⟨_,_,e⟩
        .omega
        .omega
        .exact .inl (by omega)
       .exact .inr ⟨d1,by omega⟩
      .have lh:=(hK.2 hz).resolve_right (λh=>hg h.1);rcases fY with e|⟨e,_⟩|⟨e0,_,e⟩
       .exact Wi e AL
       .exact⟨λ_=>by omega,λh=>Wi e h⟩
       .exact⟨λh=>by omega,λ_=>.inl (by omega)⟩
    .exfalso;have rb:i<w.roots.length:=dB hi;rcases cE i rb kL with e|e
     .have:=b i rb hi kL e;rw[this]at i1;omega
     .have:=(hJ i hi).done e;rw[this]at i7;omega
    .have h1:=hS r (dB hr) hne (eE r hr hu);have g1:=(hBr r hr hne).1;unfold exD ex4 at h1⊢;split at h1<;>split at h1<;>split<;>split<;>omega
  .have hK1:1<=K:=by
    obtain⟨e1,e2,e3⟩:=wpg h0 hk;have h1:=(WbU e1 e2 e3).1;rcases hK.2 a1 with h|⟨h,h'⟩
    .omega
    .have:=WtD e1 e2 e3 h;omega
   have hcl:=wT k kU q8 a2;rcases a3 with a3|⟨j,hj,hj',_,ep,a4,a5,a6⟩
   .refine⟨λ_ r hr hu=>?_,λk' cw nr=>by omega⟩;have nf:r≠k:=λe=>by subst e;exact hu a2
    have h1:=hS r (dB hr) nf (eE r hr hu);have g1:=(hB r hr (by omega)).1;unfold exD ex4 at h1;unfold ex3;split at h1<;>split at h1<;>split<;>omega
   .refine⟨λhz=>by omega,λk' mA nr=>?_⟩;have:k'=j:=by omega
    subst this;have hSj:=hS k' hj ep a6;have hBj:=(hB0 k' hj).1;have uf:2<=Wjy w.roots:=Ww9 hk hj (λe=>ep e.symm) q8 a6;refine⟨494,808,tH k' mA a5,by omega,?_,λi hi _ _ _=>ip i hi,λr hr hne hu=>?_⟩
    .unfold exD ex4 at hSj;split at hSj<;>split at hSj<;>omega
    .have nf:r≠k:=λe=>by subst e;exact hu a2
     have h1:=hS r (dB hr) nf (eE r hr hu);have g1:=(hB r hr (by omega)).1;unfold exD ex4 at h1⊢;split at h1<;>split at h1<;>split<;>split<;>omega
theorem Bd.start(h0:WI s n w):Bd s 5976 w:=by
 have uj:=Wx5 w.roots (by have:=h0.ok.l4;have:=h0.ok.len;omega);have nH:=Wuk w.roots;have hBd:∀(j:Nat) (h:j<w.roots.length),_:=λj h=>Wql (wpg h0 h).1 (wpg h0 h).2.1 (wpg h0 h).2.2;have ip:∀(j:Nat) (h:j<w.roots.length),Wu (Wia s j) w.roots[j]<=808:=λj h=>(WbU (wpg h0 h).1 (wpg h0 h).2.1 (wpg h0 h).2.2).2.1;refine⟨λ_ r hr hu=>?_,λk hk nr=>?_⟩
 .have:=(hBd r hr).2.1;unfold ex3;split<;>omega
 .by_cases hz:w.roots[k].phase=0
  .refine⟨494,808,⟨λ_=>Xx _,λh=>Wi hz h⟩,by omega,by omega,λj hj _ _ _=>ip j hj,λr hr hne hu=>?_⟩;have:=(hBd r hr).2.1;unfold exD ex4;split<;>split<;>omega
  .have ur:=h0.tx.t2 k hk nr hz;refine⟨1302,0,⟨λh=>Wi h hz,λ_=>.inl (by have:=ip k hk;omega)⟩,by omega,by omega,λj hj hne j1 j7=>?_,λr hr hne hu=>?_⟩
   .rcases ur j hj hne with e|e<;>omega
   .have ll:w.roots[r].phase=0:=(ur r hr hne).resolve_right hu;have:=(hBd r hr).2.2.1 ll;unfold exD ex4;split<;>split<;>omega
theorem Bd.pos(h0:WI s n w)(hb:Bd s N w)(ho:Wf7 w≠true):1<=N:=by
 have u9:∃(r:Nat) (h:r<w.roots.length),w.roots[r].phase≠8:=by
  apply Classical.byContradiction;intro cE;apply ho;unfold Wf7;rw[Xag];intro z hz;obtain⟨j,hj,he⟩:=Xao hz;by_cases h8:z.phase=8
  .simpa using h8
  .exact Wi ⟨j,hj,by rw[he];exact h8⟩ cE
 obtain⟨r,hr,hu⟩:=u9;have hBd:∀(j:Nat) (h:j<w.roots.length),_:=λj h=>Wql (wpg h0 h).1 (wpg h0 h).2.1 (wpg h0 h).2.2;have qH:=WwQ hr hu;by_cases kT:w.token=0
 .have:=hb.free kT r hr hu;have h1:=(hBd r hr).1;unfold ex3 at this;split at this<;>omega
 .obtain⟨k,hk,nm⟩:=h0.lx.tk.resolve_left kT;obtain⟨K,D,hK,hD0,hKN,hD,hS⟩:=hb.held k hk nm;have:1<=K:=by
   by_cases hz:w.roots[k].phase=0
   .have:=hK.1 hz;omega
   .obtain⟨e1,e2,e3⟩:=wpg h0 hk;have h1:=(WbU e1 e2 e3).1;rcases hK.2 hz with h|⟨h,h'⟩
    .omega
    .have:=WtD e1 e2 e3 h;omega
  omega
theorem Wki:∀(d:Nat) (n:Int) (w:Wo),WI s n w->n+16*d<=99999->Bd s d w->Wf7 (WaT s d w).1=true/\(WaT s d w).2<=d/\∃m,WI s m (WaT s d w).1
 |0,n,w,h,hn,hb=>by
  have ho:Wf7 w=true:=by
   apply Classical.byContradiction;intro ho;have:=hb.pos h ho;omega
  rw[WaT];exact⟨ho,Xm _,n,h⟩
 |d+1,n,w,h,hn,hb=>by
  rw[WaT];by_cases ho:Wf7 w=true
  .rw[Wb ho];exact⟨ho,Xbp _,n,h⟩
  .rw[Wa ho];have jj:=h.ok.l4;obtain⟨hR,m,hm,hW⟩:=WqC h s.2.1.length 0 n w (by omega) h (by omega) Rd.refl;have hb':=hb.round h hW hR;obtain⟨a,b,c⟩:=Wki d m _ hW (by omega) (by rw[show(d:Int)=((d+1:Nat):Int) -1 by omega];exact hb');exact⟨a,by show _+1<=d+1;omega,c⟩
theorem Bd.mono(h:Bd s n w)(hN:n<=N):Bd s N w:=⟨λh0 r hr hu=>by have:=h.free h0 r hr hu;omega,λk hk nr=>by
 obtain⟨K,D,a,b,c,d,e⟩:=h.held k hk nr;exact⟨K,D,a,b,by omega,d,λr hr hne hu=>by have:=e r hr hne hu;omega⟩⟩
theorem WuU(aG:Wmo s=true):WI s s.2.2.length (Wes s):=by
 have hN:=Wiv aG;have hX:WX (Wft s):=WvW;have hL:=WtY aG;have hT:WT (Wft s):=Wr7;have h:=WsP s.2.2 _ _ hN hX hL;exact⟨WkV aG,(Wnc s.2.2 _ _ hN hX).1,h,Wtd s.2.2 _ _ hN hT,Wsq s.2.2 _ _ hN hX hL Wxo⟩
theorem Wrk(aG:Wmo s=true):Wf7 (WaT s 6000 (Wes s)).1=true/\(WaT s 6000 (Wes s)).2<=6000/\∃m,WI s m (WaT s 6000 (Wes s)).1:=by
 obtain⟨h1,h2,h3,h4⟩:=WeR aG;have h:=WuU aG;exact Wki 6000 _ _ h (by have:=h4;omega) ((Bd.start h).mono (by omega))
end
section
variable{N:Nat}{s:Sc}{w:Wo}{n:Int}
end
section
variable{s:Sc}{w v:Wo}{n m:Int}{x y:Rt}{k i:Nat}{p:Pg}{a:Ac}{N:Nat}{o:Opn}
theorem WkE:∀(d j:Nat) (w:Wo),∃l:List Ac,l.length=d/\WcA s k d j w=l.foldl (Wcw s) w
 |0,_,w=>⟨[],rfl,rfl⟩
 |d+1,j,w=>by
  obtain⟨l,h,e⟩:=WkE d (j+1) (Wcw s w (2,(k:Int),(j:Int)));exact⟨(2,(k:Int),(j:Int))::l,by simp[h],by rw[WcA,e];rfl⟩
theorem Wi9:∀(d i:Nat) (w:Wo),(∀j:Nat,j<i+d->(s.2.1.getD j pg0).2.length<=3)->∃l:List Ac,l.length<=4*d/\Wa0 s d i w=l.foldl (Wcw s) w
 |0,_,w,_=>⟨[],Xm _,rfl⟩
 |d+1,i,w,h=>by
  obtain⟨l1,h1,e1⟩:=WkE (s:=s) (k:=i) (s.2.1.getD i pg0).2.length 0 (Wcw s w (1,(i:Int),0));obtain⟨l2,h2,e2⟩:=Wi9 d (i+1) (WcA s i (s.2.1.getD i pg0).2.length 0 (Wcw s w (1,(i:Int),0))) (λj hj=>h j (by omega));have h3:=h i (by omega);refine⟨(1,(i:Int),0)::l1++l2,by simp;omega,?_⟩;rw[Wa0,e2,e1,List.cons_append,Xbb,Xes]
theorem WiL(hl:s.2.1.length<=4)(h3:∀j:Nat,j<s.2.1.length->(s.2.1.getD j pg0).2.length<=3):∀(d:Nat) (w:Wo),∃l:List Ac,l.length<=16*d/\(WaT s d w).1=l.foldl (Wcw s) w
 |0,w=>⟨[],Xbp _,rfl⟩
 |d+1,w=>by
  rw[WaT];split
  .exact⟨[],Xbp _,rfl⟩
  .obtain⟨l1,a1,e1⟩:=Wi9 s.2.1.length 0 w (λj hj=>h3 j (by omega));obtain⟨l2,a2,e2⟩:=WiL hl h3 d (Wa0 s s.2.1.length 0 w);refine⟨l1++l2,by simp;omega,?_⟩;show(WaT s d (Wa0 s s.2.1.length 0 w)).1=_;rw[e2,e1,Xes]
theorem Wkv(aG:Wmo s=true):∃l:List Ac,(s.2.2++l).length<=99999/\(WaT s 6000 (Wes s)).1=(s.2.2++l).foldl (Wcw s) (Wft s):=by
 obtain⟨h1,h2,h3,h4⟩:=WeR aG;have hW:=WkV aG;obtain⟨l,a,e⟩:=WiL (s:=s) (by omega) (λj hj=>(Wgv hW.progs hj).k3) 6000 (Wes s);refine⟨l,by simp;omega,?_⟩;rw[e,Xes];rfl
theorem Ww7(h8:x.phase≠8)(hz:(WW w x k p).2.phase=8):(WW w x k p).2.undos= []:=by
 unfold WW at hz⊢;by_cases hd:x.doomed=true/\1<=x.phase/\x.phase<=4
 .rw[Wb hd]at hz;exact Wi (show(6:Int)=8 from hz) (by omega)
 rw[Wa hd]at hz⊢;have cf:∀z:Rt,(WR z).phase≠8:=λz=>Wc8.2.2;by_cases h0:x.phase=0
 .rw[Wb h0]at hz;have:(Wds w x k).2.phase≠8:=by
   unfold Wds;split
   .exact h8
   .split
    .exact h8
    .split
     .exact h8
     .show(1:Int)≠8;omega
  exact Wi hz this
 rw[Wa h0]at hz⊢;by_cases h1:x.phase=1
 .rw[Wb h1]at hz⊢;have cl:∀out,(WaC w x k out).2.phase=8->(WaC w x k out).2.undos= []:=λout=>by
   unfold WaC;simp only;generalize (if out=2 then []else x.writes)=rows;split
   .exactλ_=>rfl
   .intro h;exact Wi (show(5:Int)=8 from h) (by omega)
  revert hz;unfold Wgk;split
  .exact cl _
  .simp only;generalize opN p.1 x.pc=o;split
   .intro h;exact Wi h (WlD h1).2.2
   .split
    .unfold Wb0;split
     .exact cl _
     .split
      .intro h;exact Wi h h8
      .intro h;exact Wi h h8
    .split
     .intro h;exact Wi (show(2:Int)=8 from h) (by omega)
     .split
      .unfold WbO;cases WaX w.holds ((k:Int)+1) (WaH o).1 (WaH o).2 with
       |none=>intro h;exact Wi h (cf _)
       |some hs=>intro h;exact Wi h h8
      .repeat' split
       all_goals(intro h;exact Wi h h8)
 rw[Wa h1]at hz⊢;by_cases h2:x.phase=2
 .rw[Wb h2]at hz;have:(WbR x).phase≠8:=by
   unfold WbR;split
   .show(6:Int)≠8;omega
   .split
    .show(1:Int)≠8;omega
    .exact h8
  exact Wi hz this
 rw[Wa h2]at hz⊢;by_cases h3:x.phase=3
 .rw[Wb h3]at hz;have:(Wa1 w x).2.phase≠8:=by
   unfold Wa1;split
   .exact h8
   .show(4:Int)≠8;omega
  exact Wi hz this
 rw[Wa h3]at hz⊢;by_cases h4:x.phase=4
 .rw[Wb h4]at hz;have:(WaA w x).phase≠8:=by
   unfold WaA;simp only;split
   .split
    .show(6:Int)≠8;omega
    .exact h8
   .show(1:Int)≠8;omega
  exact Wi hz this
 rw[Wa h4]at hz⊢;by_cases h5:x.phase=5
 .rw[Wb h5]at hz;have:(Waf w x k).2.phase≠8:=by
   unfold Waf;split
   .simp only;split
    .show(6:Int)≠8;omega
    .exact h8
   .show(WaL {x with cm:=(Ws w.mem x.cm).2}).phase≠8;unfold WaL;split
    .show(6:Int)≠8;omega
    .split
     .show(if x.fate=2 then(6:Int)else 7)≠8;split<;>omega
     .exact h8
  exact Wi hz this
 rw[Wa h5]at hz⊢;by_cases h6:x.phase=6
 .rw[Wb h6]at hz;split at hz
  .exact Wi hz h8
  .exact Wi (show(7:Int)=8 from hz) (by omega)
 rw[Wa h6]at hz⊢;by_cases h7:x.phase=7
 .rw[Wb h7]at hz⊢;split at hz
  .exact Wi (show(0:Int)=8 from hz) (by omega)
  .rw[Wa ‹_›];rfl
 .rw[Wa h7]at hz;exact Wi hz h8
def DX(w:Wo):Prop:=∀(k:Nat) (h:k<w.roots.length),w.roots[k].phase=8->w.roots[k].undos= []
theorem Wuq{q:Wo×Rt}{w0:Wo}(hx:DX w0)(hr:q.1.roots=w0.roots)(hq:q.2.phase=8->q.2.undos= []):DX (Wo.put q k):=λi hi=>by
 change i<(q.1.roots.set k q.2).length at hi;have jk:i<w0.roots.length:=by rw[Xah,hr]at hi;exact hi
 show((q.1.roots.set k q.2)[i]'hi).phase=8->((q.1.roots.set k q.2)[i]'hi).undos= [];rw[Xau];split
 .exact hq
 .simp only[hr];exact hx i jk
theorem WwI(h:WOk s.2.1 n w)(hx:DX w):DX (Wcw s w a):=by
 have cy:DX {w with now:=w.now+1}:=hx;unfold Wcw;simp only;split
 .rename_i hb;have hk:a.2.1.toNat<w.roots.length:=by omega
  rw[Wp hk];split
  .unfold WiC;rw[Wp (show a.2.1.toNat<({w with now:=w.now+1}:Wo).roots.length from hk)];refine Wuq (w0:={w with now:=w.now+1}) cy (WhU h hk) λhz=>?_;by_cases h8:w.roots[a.2.1.toNat].phase=8
   .have:=(Wk4 (w:={w with now:=w.now+1}) (x:=w.roots[a.2.1.toNat]) (k:=a.2.1.toNat) (p:=s.2.1.getD a.2.1.toNat pg0)).done h8;change (WW {w with now:=w.now+1} w.roots[a.2.1.toNat] a.2.1.toNat (s.2.1.getD a.2.1.toNat pg0)).2.undos= [];rw[this];exact hx _ hk h8
   .exact Ww7 h8 hz
  .split
   .split
    .exact Wuq (w0:={w with now:=w.now+1}) cy rfl (λhz=>hx _ hk hz)
    .exact cy
   .split
    .split
     .exact Wuq (w0:={w with now:=w.now+1}) cy rfl (λhz=>hx _ hk hz)
     .exact cy
    .exact cy
 .exact cy
theorem WtK:∀(l:List Ac) (n:Int) (w:Wo),WOk s.2.1 n w->DX w->DX (l.foldl (Wcw s) w)
 | [],n,w,h,hx=>hx
 |a::l,n,w,h,hx=>WtK l (n+1) _ (Wch (a:=a) h) (WwI (a:=a) h hx)
structure Rest(w:Wo):Prop where
 done:∀x∈w.roots,x.phase=8
 mem:W2 w.mem=true
 own:∀c∈w.mem.2,c.2.2=0
 holds:w.holds= []
 token:w.token=0
 undos:∀x∈w.roots,x.undos= []
theorem Wws(h:WI s n w)(hd:DX w)(ho:Wf7 w=true):Rest w:=by
 have h8:∀(k:Nat) (h:k<w.roots.length),w.roots[k].phase=8:=λk hk=>by
  unfold Wf7 at ho;rw[Xag]at ho;simpa using ho _ (Xo hk)
 have nD:∀x∈w.roots,x.phase=8:=λx hx=>by
  obtain⟨j,hj,e⟩:=Xao hx;rw[←e];exact h8 j hj
 obtain⟨m8,_,_,_⟩:=WF h.ok.mem;refine⟨nD,h.ok.mem,λc hc=>?_,?_,?_,λx hx=>?_⟩
 .obtain⟨j,hj,e⟩:=Xao hc;have qg:owner w.mem (j:Int)=w.mem.2[j].2.2:=by unfold owner Wz Wcl;rw[Xj,Wp hj]
  rw[←e,←qg];rcases h.lx.ow (j:Int) (by omega) (by omega)with e|⟨k,hk,e⟩
  .exact e
  .exact Wi e ((h.lx.root k hk).no (by rw[h8 k hk];omega) (j:Int) (by omega) (by omega))
 .cases hh:w.holds with
  |nil=>rfl
  |cons e l=>
   obtain⟨k,hk,e1⟩:=h.lx.hd e (by rw[hh];exact Xg ..);exact Wi (h8 k hk) ((h.lx.root k hk).hd e (by rw[hh];exact Xg ..) e1).2
 .rcases h.lx.tk with e|⟨k,hk,e⟩
  .exact e
  .exact Wi (h8 k hk) ((h.lx.root k hk).tk e).2
 .obtain⟨j,hj,e⟩:=Xao hx;rw[←e];exact hd j hj (h8 j hj)
theorem Wq6(aG:Wmo s=true):Rest (WaT s 6000 (Wes s)).1/\Wf7 (WaT s 6000 (Wes s)).1=true/\(WaT s 6000 (Wes s)).2<=6000/\∃m,WI s m (WaT s 6000 (Wes s)).1:=by
 obtain⟨a,b,m,c⟩:=Wrk aG;obtain⟨l,_,e⟩:=Wkv aG;have hd:DX (WaT s 6000 (Wes s)).1:=by
  rw[e];exact WtK _ 0 _ (Wiv aG) λk h h8=>by simp[Wft]
 exact⟨Wws c hd a,a,b,m,c⟩
theorem Wl2(hN:1048576<N){code:List Int}(h:code.length<=1048576):∃s:Sc,Zkp N code=ret s/\SB s:=by
 unfold Zkp;obtain⟨c,hc,e0⟩:=Wvr h hN;obtain⟨v,e1,hv⟩:=Wu9 (N:=N) h;have e2:Wm .i64 40 v=40+v:=WJ (by unfold I64;omega);obtain⟨c1,s,e3,mF,hs⟩:=WxU (most:=40+v) hN (by omega) hc;simp only[e0,e1,ret,Xc,e2,e3];exact⟨_,rfl,hs⟩
end
section
def pick(l:List Rw)(i:Int):Option Int:=(l.find? λr=>decide (r.1=i)).map (·.2)
def Wgh(i v:Int)(r:Int×Int)(h:Wr):Int×Int:=match pick h.2.2 i with
 |some x=>if h.1<=v/\r.1<h.1 then(h.1,x)else r
 |none=>r
def bst(b i v:Int)(H:List Wr):Int×Int:=H.foldl (Wgh i v) (0,b)
def top(b i:Int)(H:List Wr):Int×Int:=bst b i 2000000 H
section
variable{b i v v':Int}{H:List Wr}{h:Wr}{l:List Rw}
theorem WoX:bst b i v (H++ [h])=Wgh i v (bst b i v H) h:=by unfold bst;rw[Xes];rfl
theorem WqS(r:Int×Int):Wgh i v r h=r\/(∃x,pick h.2.2 i=some x/\h.1<=v/\r.1<h.1/\Wgh i v r h=(h.1,x)):=by
 unfold Wgh;cases hp:pick h.2.2 i with
 |none=>exact .inl rfl
 |some x=>
  simp only;split
  .rename_i hc;exact .inr ⟨x,rfl,hc.1,hc.2,rfl⟩
  .exact .inl rfl
theorem WxN(hv:0<=v):0<=(bst b i v H).1/\(bst b i v H).1<=v/\((bst b i v H).1=0\/∃h∈H,h.1=(bst b i v H).1):=by
 have key:∀(l:List Wr) (r:Int×Int),0<=r.1->r.1<=v->0<=(l.foldl (Wgh i v) r).1/\(l.foldl (Wgh i v) r).1<=v/\((l.foldl (Wgh i v) r).1=r.1\/∃h∈l,h.1=(l.foldl (Wgh i v) r).1):=by
  intro l
  induction l with
  |nil=>intro r h0 h1;exact⟨h0,h1,.inl rfl⟩
  |cons h l ih=>
   intro r h0 h1;rw[Xbb];rcases WqS (i:=i) (v:=v) (h:=h) r with e|⟨x,_,e1,e2,e3⟩
   .rw[e];obtain⟨a,c,d⟩:=ih r h0 h1;refine⟨a,c,d.imp_right λ⟨g,hg,e⟩=>⟨g,Xe _ hg,e⟩⟩
   .rw[e3];obtain⟨a,c,d⟩:=ih (h.1,x) (by show 0<=h.1;omega) e1;refine⟨a,c,.inr ?_⟩;rcases d with d|⟨g,hg,e⟩
    .exact⟨h,Xg ..,d.symm⟩
    .exact⟨g,Xe _ hg,e⟩
 exact key H (0,b) (Xx _) hv
theorem Wmj{x:Int}(h:pick l i=some x):(i,x)∈l:=by
 unfold pick at h;cases hf:l.find? λr=>decide (r.1=i)with
 |none=>rw[hf]at h;cases h
 |some r=>
  rw[hf]at h;have h1:=List.find?_some hf;have h2:=List.mem_of_find?_eq_some hf;simp only[Wh]at h1;cases h;obtain⟨a,d⟩:=r;simp only at h1;subst h1;exact h2
structure CmR(c:Cm):Prop where
 rows:WdN c.puts
 pup:c.puts.Pairwise λa b=>a.1<b.1
theorem CmOk.r{c:Cm}(h:CmOk c):CmR c:=⟨h.rows,h.pup⟩
theorem CmR.inj{c:Cm}(h:CmR c){a b:Nat}(ha:a<c.puts.length)(hb:b<c.puts.length)(e:c.puts[a].1=c.puts[b].1):a=b:=by
 have hp:=Xak.1 h.pup;rcases Nat.lt_trichotomy a b with h1|h1|h1
 .have:=hp a b ha hb h1;omega
 .exact h1
 .have:=hp b a hb ha h1;omega
theorem Wwt{c:Cm}(h:CmR c){j:Nat}(hj:j<c.puts.length):pick c.puts c.puts[j].1=some c.puts[j].2:=by
 cases hp:pick c.puts c.puts[j].1 with
 |none=>
  unfold pick at hp;rw[Option.map_eq_none_iff,List.find?_eq_none]at hp;exact Wi (by simp) (hp _ (Xo hj))
 |some x=>
  obtain⟨l,hl,e⟩:=Xao (Wmj hp);have:=h.inj hl hj (by rw[e]);subst this;rw[e]
end
structure MI(b:Int->Int)(m:Mm)(H:List Wr)(C:Nat->Option Cm):Prop where
 st:∀h∈H,1<=h.1/\h.1<=m.1
 fr:∀k c,C k=some c->c.phase=3->1<=c.wv/\c.wv<=m.1/\∀h∈H,h.1≠c.wv
 fr2:∀k k' c c',k≠k'->C k=some c->C k'=some c'->c.phase=3->c'.phase=3->c.wv≠c'.wv
 cell:∀i,0<=i->i<=7->(∀k c,C k=some c->c.phase=4\/c.phase=5->¬lkd c i)->(Wz m i).1=(top (b i) i H).2/\(Wz m i).2.1=(top (b i) i H).1
 sto:∀k c,C k=some c->c.phase=4\/c.phase=5->∀(j:Nat) (hj:j<c.puts.length),lkA c j->top (b c.puts[j].1) c.puts[j].1 H=(c.wv,c.puts[j].2)/\(Wz m c.puts[j].1).2.1<c.wv/\(c.phase=5\/(j:Int)<c.pos->(Wz m c.puts[j].1).1=c.puts[j].2)
def CL2(m:Mm)(C:Nat->Option Cm):Prop:=∀k c,C k=some c->CmR c/\c.who=(k:Int)+1/\CmLk m c
structure RC(b:Int->Int)(m:Mm)(H:List Wr)(C:Nat->Option Cm)(v i x:Int):Prop where
 val:x=(bst (b i) i v H).2
 clk:v<=m.1
 no:∀k c,C k=some c->c.phase=3->c.wv<=v->pick c.puts i=none
def Weu(C:Nat->Option Cm)(k:Nat)(o:Option Cm):Nat->Option Cm:=λj=>if j=k then o else C j
section
variable{b:Int->Int}{m m':Mm}{H:List Wr}{C:Nat->Option Cm}{k:Nat}{c c':Cm}{o:Option Cm}{v i x:Int}
theorem WaD:Weu C k o k=o:=Wb rfl
theorem W0{j:Nat}(h:j≠k):Weu C k o j=C j:=Wa h
theorem MI.k1(h:MI b m H C)(hc:∀c,C k=some c->c.phase≠4/\c.phase≠5)(ho:∀c',o=some c'->c'.phase≠3/\c'.phase≠4/\c'.phase≠5)
  (h1:m'.1=m.1) (hm:∀i,0<=i->i<=7->(Wz m' i).1=(Wz m i).1/\(Wz m' i).2.1=(Wz m i).2.1) (hr:∀k c,C k=some c->CmR c):MI b m' H (Weu C k o):=by
 have key:∀j d,Weu C k o j=some d->d.phase=3\/d.phase=4\/d.phase=5->j≠k/\C j=some d:=λj d hj hp=>by
  by_cases e:j=k
  .subst e;rw[WaD]at hj;have:=ho d hj;omega
  .rw[W0 e]at hj;exact⟨e,hj⟩
 refine⟨λg hg=>by rw[h1];exact h.st g hg,λj d hj h3=>?_,λj j' d d' hne hj hj' h3 cS=>?_,λi h0 h7 cE=>?_,λj d hj hp l hl ha=>?_⟩
 .rw[h1];exact h.fr j d (key j d hj (.inl h3)).2 h3
 .exact h.fr2 j j' d d' hne (key j d hj (.inl h3)).2 (key j' d' hj' (.inl cS)).2 h3 cS
 .obtain⟨e1,e2⟩:=hm i h0 h7;rw[e1,e2];refine h.cell i h0 h7 λj d hj hp=>?_;by_cases e:j=k
  .subst e;have:=hc d hj;omega
  .exact cE j d (by rw[W0 e];exact hj) hp
 .have hk:=(key j d hj (.inr hp)).2;have hrow:=(hr j d hk).rows _ (Xo hl);obtain⟨e1,e2⟩:=hm _ hrow.1.1 hrow.1.2;rw[e1,e2];exact h.sto j d hk hp l hl ha
theorem RC.k1(h:RC b m H C v i x)(ho:∀c',o=some c'->c'.phase≠3)(h1:m'.1=m.1):RC b m' H (Weu C k o) v i x:=
 ⟨h.val,by rw[h1];exact h.clk,λj d hj h3 hw=>by
  by_cases e:j=k
  .subst e;rw[WaD]at hj;exact Wi h3 (ho d hj)
  .rw[W0 e]at hj;exact h.no j d hj h3 hw⟩
theorem MI.k2(h:MI b m H C)(hc:C k=some c)(h2:c.phase=2)(h3:c'.phase=3)(hw:c'.wv=m.1+1)(h0:0<=m.1):MI b (m.1+1,m.2) H (Weu C k (some c')):=by
 have ar:∀i,Wz (m.1+1,m.2) i=Wz m i:=λ_=>rfl;refine⟨λg hg=>by have:=h.st g hg;show 1<=g.1/\g.1<=m.1+1;omega,λj d hj cS=>?_,λj j' d d' hne hj hj' h3 cS=>?_,λi h0 h7 cE=>?_,λj d hj hp l hl ha=>?_⟩
 .by_cases e:j=k
  .subst e;rw[WaD]at hj;cases hj;refine⟨by omega,by show c'.wv<=m.1+1;omega,λg hg=>by have:=h.st g hg;omega⟩
  .rw[W0 e]at hj;have:=h.fr j d hj cS;exact⟨this.1,by show d.wv<=m.1+1;omega,this.2.2⟩
 .have w1:∀j d,Weu C k (some c') j=some d->d.phase=3->j≠k->d.wv<=m.1:=λj d hj h3 e=>by
   rw[W0 e]at hj;exact(h.fr j d hj h3).2.1
  by_cases e:j=k
  .have e':j'≠k:=λz=>hne (e.trans z.symm);have:=w1 j' d' hj' cS e';subst e;rw[WaD]at hj;cases hj;omega
  .by_cases e':j'=k
   .have:=w1 j d hj h3 e;subst e';rw[WaD]at hj';cases hj';omega
   .rw[W0 e]at hj;rw[W0 e']at hj';exact h.fr2 j j' d d' hne hj hj' h3 cS
 .rw[ar];refine h.cell i h0 h7 λj d hj hp=>?_;by_cases e:j=k
  .subst e;rw[hc]at hj;cases hj;omega
  .exact cE j d (by rw[W0 e];exact hj) hp
 .by_cases e:j=k
  .subst e;rw[WaD]at hj;cases hj;omega
  .rw[W0 e]at hj;rw[ar];exact h.sto j d hj hp l hl ha
theorem RC.k2(h:RC b m H C v i x)(hw:c'.wv=m.1+1):RC b (m.1+1,m.2) H (Weu C k (some c')) v i x:=
 ⟨h.val,by have:=h.clk;show v<=m.1+1;omega,λj d hj h3 hv=>by
  by_cases e:j=k
  .subst e;rw[WaD]at hj;cases hj;have:=h.clk;omega
  .rw[W0 e]at hj;exact h.no j d hj h3 hv⟩
theorem MI.k3(h:MI b m H C)(hc:C k=some c)(h2:c.phase=3)(h3:c'.phase=3)(hw:c'.wv=c.wv):MI b m H (Weu C k (some c')):=by
 refine⟨h.st,λj d hj cS=>?_,λj j' d d' hne hj hj' h3 cS=>?_,λi h0 h7 cE=>?_,λj d hj hp l hl ha=>?_⟩
 .by_cases e:j=k
  .subst e;rw[WaD]at hj;cases hj;rw[hw];exact h.fr j c hc h2
  .rw[W0 e]at hj;exact h.fr j d hj cS
 .by_cases e:j=k
  .have e':j'≠k:=λz=>hne (e.trans z.symm);rw[W0 e']at hj';subst e;rw[WaD]at hj;cases hj;rw[hw];exact h.fr2 j j' c d' hne hc hj' h2 cS
  .rw[W0 e]at hj;by_cases e':j'=k
   .subst e';rw[WaD]at hj';cases hj';rw[hw];exact h.fr2 j j' d c hne hj hc h3 h2
   .rw[W0 e']at hj';exact h.fr2 j j' d d' hne hj hj' h3 cS
 .refine h.cell i h0 h7 λj d hj hp=>?_;by_cases e:j=k
  .subst e;rw[hc]at hj;cases hj;omega
  .exact cE j d (by rw[W0 e];exact hj) hp
 .by_cases e:j=k
  .subst e;rw[WaD]at hj;cases hj;omega
  .rw[W0 e]at hj;exact h.sto j d hj hp l hl ha
theorem RC.k3(h:RC b m H C v i x)(hc:C k=some c)(h2:c.phase=3)(hw:c'.wv=c.wv)(hp:c'.puts=c.puts):RC b m H (Weu C k (some c')) v i x:=
 ⟨h.val,h.clk,λj d hj h3 hv=>by
  by_cases e:j=k
  .subst e;rw[WaD]at hj;cases hj;rw[hp];exact h.no j c hc h2 (by omega)
  .rw[W0 e]at hj;exact h.no j d hj h3 hv⟩
theorem MI.k4(h:MI b m H C)(hl:CL2 m C)(hm:m.1<=1000000)(hc:C k=some c)(h2:c.phase=3)(h3:c'.phase=4)(kX:c'.pos=0)(hw:c'.wv=c.wv)(hp:c'.puts=c.puts){who:Int}:MI b m (H++ [(c.wv,who,c.puts)]) (Weu C k (some c')):=by
 obtain⟨ok,mB,jW⟩:=hl k c hc;obtain⟨f1,f2,f3⟩:=h.fr k c hc h2;have il:∀l:Nat,lkA c l:=λl=>by unfold lkA;omega
 have cE:∀i,0<=i->i<=7->(∃(j:Nat) (hj:j<c.puts.length),c.puts[j].1=i)->∀j d,C j=some d->d.phase=4\/d.phase=5->¬lkd d i:=λi h0 h7 ⟨l,cg,e⟩ j d hj jl iq=>by
  obtain⟨yL,tJ,jm⟩:=hl j d hj;have o1:=(jW.own i h0 h7).2 ⟨l,cg,e,il l⟩;have o2:=(jm.own i h0 h7).2 iq;have:j=k:=by omega
  subst this;rw[hc]at hj;cases hj;omega
 have tK:∀i,pick c.puts i=none->top (b i) i (H++ [(c.wv,who,c.puts)])=top (b i) i H:=λi hn=>by
  unfold top;rw[WoX];unfold Wgh;simp only[hn]
 have tL:∀(l:Nat) (hl:l<c.puts.length),(Wz m c.puts[l].1).2.1<c.wv/\top (b c.puts[l].1) c.puts[l].1 (H++ [(c.wv,who,c.puts)])=(c.wv,c.puts[l].2):=λl cg=>by
  have hrow:=(ok.rows _ (Xo cg)).1;obtain⟨c1,c2⟩:=h.cell _ hrow.1 hrow.2 (cE _ hrow.1 hrow.2 ⟨l,cg,rfl⟩);have hv:=(jW.ver (.inl h2)).2 c.puts[l].1 ⟨l,cg,rfl,il l⟩;have hb:=(WxN (b:=b c.puts[l].1) (i:=c.puts[l].1) (v:=2000000) (H:=H) (by omega)).2.2;have hlt:(top (b c.puts[l].1) c.puts[l].1 H).1<c.wv:=by
   unfold top at c2⊢;rcases hb with e|⟨g,hg,e⟩
   .omega
   .have:=f3 g hg;omega
  refine⟨by omega,?_⟩;unfold top at hlt⊢;rw[WoX];unfold Wgh;simp only[Wwt ok cg];rw[Wb ⟨by omega,hlt⟩]
 have nv:∀i x,pick c.puts i=some x->∃(j:Nat) (hj:j<c.puts.length),c.puts[j].1=i:=λi x hx=>by
  obtain⟨l,hl,e⟩:=Xao (Wmj hx);exact⟨l,hl,by rw[e]⟩
 refine⟨λg hg=>?_,λj d hj cS=>?_,λj j' d d' hne hj hj' h3 cS=>?_,λi h0 h7 hn=>?_,λj d hj jl l cg ha=>?_⟩
 .rcases Xn.1 hg with hg|hg
  .exact h.st g hg
  .rw[Xac]at hg;subst hg;exact⟨f1,f2⟩
 .by_cases e:j=k
  .subst e;rw[WaD]at hj;cases hj;omega
  .rw[W0 e]at hj;obtain⟨g1,g2,g3⟩:=h.fr j d hj cS;refine⟨g1,g2,λg hg=>?_⟩;rcases Xn.1 hg with hg|hg
   .exact g3 g hg
   .rw[Xac]at hg;subst hg;exact h.fr2 k j c d (λz=>e z.symm) hc hj h2 cS
 .by_cases e:j=k
  .subst e;rw[WaD]at hj;cases hj;omega
  .rw[W0 e]at hj;by_cases e':j'=k
   .subst e';rw[WaD]at hj';cases hj';omega
   .rw[W0 e']at hj';exact h.fr2 j j' d d' hne hj hj' h3 cS
 .have qY:pick c.puts i=none:=by
   cases hx:pick c.puts i with
   |none=>rfl
   |some x=>
    obtain⟨l,cg,e⟩:=nv i x hx;refine Wi ⟨l,by rw[hp];exact cg,by simp only[hp];exact e,?_⟩ (hn k c' WaD (.inl h3));unfold lkA;omega
  rw[tK i qY];refine h.cell i h0 h7 λj d hj jl=>?_;by_cases e:j=k
  .subst e;rw[hc]at hj;cases hj;omega
  .exact hn j d (by rw[W0 e];exact hj) jl
 .by_cases e:j=k
  .subst e;rw[WaD]at hj;cases hj;have fR:l<c.puts.length:=by rw[←hp];exact cg
   obtain⟨t1,t2⟩:=tL l fR;simp only[hp,hw];exact⟨t2,t1,λhz=>by omega⟩
  .rw[W0 e]at hj;obtain⟨yL,tJ,jm⟩:=hl j d hj;have hrow:=(yL.rows _ (Xo cg)).1;have qY:pick c.puts d.puts[l].1=none:=by
    cases hx:pick c.puts d.puts[l].1 with
    |none=>rfl
    |some x=>
     obtain⟨l2,fR,e2⟩:=nv _ x hx;exact Wi ⟨l,cg,rfl,ha⟩ (cE d.puts[l].1 hrow.1 hrow.2 ⟨l2,fR,e2⟩ j d hj jl)
   rw[tK _ qY];exact h.sto j d hj jl l cg ha
theorem RC.k4(h:RC b m H C v i x)(hc:C k=some c)(h2:c.phase=3)(h3:c'.phase=4){who:Int}:RC b m (H++ [(c.wv,who,c.puts)]) (Weu C k (some c')) v i x:=by
 refine⟨?_,h.clk,λj d hj cS hv=>?_⟩
 .rw[WoX,h.val];unfold Wgh;by_cases hv:c.wv<=v
  .simp only[h.no k c hc h2 hv]
  .cases pick c.puts i with
   |none=>rfl
   |some y=>simp only;rw[Wa (λhz=>hv hz.1)]
 .by_cases e:j=k
  .subst e;rw[WaD]at hj;cases hj;omega
  .rw[W0 e]at hj;exact h.no j d hj cS hv
theorem MI.k5(h:MI b m H C)(hl:CL2 m C)(hm:W2 m=true)(hc:C k=some c)(h4:c.phase=4){j:Nat}(hj:j<c.puts.length)(hpos:c.pos=j)(hp:c'.puts=c.puts)(hw:c'.wv=c.wv)(aW:c'.phase=4/\c'.pos=j+1\/c'.phase=5/\c'.pos=0/\j+1=c.puts.length):
  MI b (WcK m c.puts[j].1 c.who c.puts[j].2) H (Weu C k (some c')):=by
 obtain⟨ok,mB,jW⟩:=hl k c hc;have il:∀l:Nat,lkA c l:=λl=>by unfold lkA;omega
 have nw:∀l:Nat,lkA c' l:=λl=>by unfold lkA;omega
 have hrow:=(ok.rows _ (Xo hj)).1;have hown:=(jW.own _ hrow.1 hrow.2).2 ⟨j,hj,rfl,il j⟩;have aM:WcK m c.puts[j].1 c.who c.puts[j].2=Wob m c.puts[j].1 (c.puts[j].2,(Wz m c.puts[j].1).2):=by
  unfold WcK;rw[Wb (show(Wz m c.puts[j].1).2.2=c.who from hown)]
 rw[aM];have ar:∀i,0<=i->i<=7->Wz (Wob m c.puts[j].1 (c.puts[j].2,(Wz m c.puts[j].1).2)) i=if i=c.puts[j].1 then(c.puts[j].2,(Wz m c.puts[j].1).2)else Wz m i:=λi h0 h7=>Wco hm hrow ⟨h0,h7⟩;have qq:∀l d,l≠k->C l=some d->∀(a:Nat) (ha:a<d.puts.length),lkA d a->d.puts[a].1≠c.puts[j].1:=λl d hne hd a ha lu he=>by
  obtain⟨AM,tM,jm⟩:=hl l d hd;have:=(jm.own _ hrow.1 hrow.2).2 ⟨a,ha,he,lu⟩;omega
 refine⟨h.st,λl d hd cS=>?_,λl l' d d' hne hd cZ h3 cS=>?_,λi h0 h7 hn=>?_,λl d hd jl a ha lu=>?_⟩
 .by_cases e:l=k
  .subst e;rw[WaD]at hd;cases hd;omega
  .rw[W0 e]at hd;exact h.fr l d hd cS
 .by_cases e:l=k
  .subst e;rw[WaD]at hd;cases hd;omega
  .rw[W0 e]at hd;by_cases e':l'=k
   .subst e';rw[WaD]at cZ;cases cZ;omega
   .rw[W0 e']at cZ;exact h.fr2 l l' d d' hne hd cZ h3 cS
 .have u0:i≠c.puts[j].1:=λhe=>hn k c' WaD (by omega) ⟨j,by rw[hp];exact hj,by simp only[hp];exact he.symm,nw j⟩;rw[ar i h0 h7,Wa u0];refine h.cell i h0 h7 λl d hd jl iq=>?_;by_cases e:l=k
  .subst e;rw[hc]at hd;cases hd;obtain⟨a,ha,e1,e2⟩:=iq;exact hn l c' WaD (by omega) ⟨a,by rw[hp];exact ha,by simp only[hp];exact e1,nw a⟩
  .exact hn l d (by rw[W0 e];exact hd) jl iq
 .by_cases e:l=k
  .subst e;rw[WaD]at hd;cases hd;have li:a<c.puts.length:=by rw[←hp];exact ha
   obtain⟨s1,s2,s3⟩:=h.sto l c hc (.inl h4) a li (il a);have jn:=(ok.rows _ (Xo li)).1;simp only[hp,hw];rw[ar _ jn.1 jn.2];by_cases haj:c.puts[a].1=c.puts[j].1
   .have:a=j:=ok.inj li hj haj;subst this;rw[Wb rfl];exact⟨s1,s2,λ_=>rfl⟩
   .rw[Wa haj];have hne:a≠j:=λe=>haj (by subst e;rfl);exact⟨s1,s2,λhz=>s3 (.inr (by omega))⟩
  .rw[W0 e]at hd;have jn:=((hl l d hd).1.rows _ (Xo ha)).1;rw[ar _ jn.1 jn.2,Wa (qq l d e hd a ha lu)];exact h.sto l d hd jl a ha lu
theorem MI.k6(h:MI b m H C)(hl:CL2 m C)(hm:W2 m=true)(hc:C k=some c)(h5:c.phase=5){j:Nat}(hj:j<c.puts.length)(hpos:c.pos=j)(ho:(∃c',o=some c'/\c'.puts=c.puts/\c'.wv=c.wv/\c'.phase=5/\c'.pos=j+1)\/(o=none/\j+1=c.puts.length)):
  MI b (WaR m c.puts[j].1 c.who c.wv) H (Weu C k o):=by
 obtain⟨ok,mB,jW⟩:=hl k c hc;have hrow:=(ok.rows _ (Xo hj)).1;have nj:lkA c j:=by unfold lkA;omega
 have hown:=(jW.own _ hrow.1 hrow.2).2 ⟨j,hj,rfl,nj⟩;obtain⟨v1,v2⟩:=jW.ver (.inr (.inr h5));obtain⟨AN,sj2,AO⟩:=h.sto k c hc (.inr h5) j hj nj;have aM:WaR m c.puts[j].1 c.who c.wv=Wob m c.puts[j].1 ((Wz m c.puts[j].1).1,c.wv,0):=by
  unfold WaR;rw[Wb ⟨hown,v2 _ ⟨j,hj,rfl,nj⟩,v1⟩]
 rw[aM];have ar:∀i,0<=i->i<=7->Wz (Wob m c.puts[j].1 ((Wz m c.puts[j].1).1,c.wv,0)) i=if i=c.puts[j].1 then((Wz m c.puts[j].1).1,c.wv,0)else Wz m i:=λi h0 h7=>Wco hm hrow ⟨h0,h7⟩;have qq:∀l d,l≠k->C l=some d->∀(a:Nat) (ha:a<d.puts.length),lkA d a->d.puts[a].1≠c.puts[j].1:=λl d hne hd a ha lu he=>by
  obtain⟨AM,tM,jm⟩:=hl l d hd;have:=(jm.own _ hrow.1 hrow.2).2 ⟨a,ha,he,lu⟩;omega
 have ql:∀d,Weu C k o k=some d->d.phase=5/\d.puts=c.puts/\d.wv=c.wv/\d.pos=j+1:=λd hd=>by
  rw[WaD]at hd;rcases ho with⟨c',e,e1,e2,e3,e4⟩|⟨e,_⟩
  .rw[e]at hd;cases hd;exact⟨e3,e1,e2,e4⟩
  .rw[e]at hd;cases hd
 refine⟨h.st,λl d hd cS=>?_,λl l' d d' hne hd cZ h3 cS=>?_,λi h0 h7 hn=>?_,λl d hd jl a ha lu=>?_⟩
 .by_cases e:l=k
  .subst e;have:=ql d hd;omega
  .rw[W0 e]at hd;exact h.fr l d hd cS
 .by_cases e:l=k
  .subst e;have:=ql d hd;omega
  .rw[W0 e]at hd;by_cases e':l'=k
   .subst e';have:=ql d' cZ;omega
   .rw[W0 e']at cZ;exact h.fr2 l l' d d' hne hd cZ h3 cS
 .rw[ar i h0 h7];by_cases hi:i=c.puts[j].1
  .subst hi;rw[Wb rfl,AN];exact⟨AO (.inl h5),rfl⟩
  .rw[Wa hi];refine h.cell i h0 h7 λl d hd jl iq=>?_;by_cases e:l=k
   .subst e;rw[hc]at hd;cases hd;obtain⟨a,ha,e1,e2⟩:=iq;have hne:a≠j:=λe=>hi (by subst e;exact e1.symm);have fB:(c.pos<=a):=by unfold lkA at e2;omega
    rcases ho with⟨c',eo,q1,q2,q3,q4⟩|⟨eo,q1⟩
    .refine hn l c' (by rw[WaD];exact eo) (.inr q3) ⟨a,by rw[q1];exact ha,by simp only[q1];exact e1,?_⟩;unfold lkA;omega
    .omega
   .exact hn l d (by rw[W0 e];exact hd) jl iq
 .by_cases e:l=k
  .subst e;obtain⟨q3,q1,q2,q4⟩:=ql d hd;have li:a<c.puts.length:=by rw[←q1];exact ha
   have tN:lkA c a/\a≠j:=by unfold lkA at lu⊢;omega
   obtain⟨s1,s2,s3⟩:=h.sto l c hc (.inr h5) a li tN.1;have jn:=(ok.rows _ (Xo li)).1;simp only[q1,q2];rw[ar _ jn.1 jn.2,Wa (λhe=>tN.2 (ok.inj li hj he))];exact⟨s1,s2,λ_=>s3 (.inl h5)⟩
  .rw[W0 e]at hd;have jn:=((hl l d hd).1.rows _ (Xo ha)).1;rw[ar _ jn.1 jn.2,Wa (qq l d e hd a ha lu)];exact h.sto l d hd jl a ha lu
end
end
end Go.Sx
