/- Plain laws of the Lean functions. -/
import Derived.Test.YtnkbflecplbceaaGreatMW3
open List renaming mem_filter→Xau,getElem_mem→Xw,length_set→Xab,getElem_set→Xaq,getElem_replicate→Xbp,mem_append→Xn,mem_singleton→Xac,map_cons→Xai,sum_cons→Xce,mem_cons_of_mem→Xf,mem_cons_self→Xi,length_cons→Xr,getElem_of_mem→Xas,replicate→Xt,getD→Xd,all_eq_true→Xae,all_cons→Xck,set_getElem_self→Xbh
open Int renaming le_refl→Xv,le_trans→Xef,toNat_natCast→Xj,lt_of_le_of_lt→Xcx,le_of_eq→Xfz,toNat→Xb
open Nat renaming add_zero→Xaz,le_refl→Xm
open Option renaming bind_some→Xc
namespace Go.Sx
set_option linter.unusedVariables false
set_option linter.unusedSimpArgs false
section
structure LB(w:Wo)(k:Nat)(x:Rt):Prop where
 cm:x.phase=5->x.cm.who=(k:Int)+1/\CmLk w.mem x.cm
 no:x.phase≠5->∀i,0<=i->i<=7->owner w.mem i≠(k:Int)+1
 hd:∀h∈w.holds,h.1=(k:Int)+1->x.phase≠0/\x.phase≠8
 tk:w.token=(k:Int)+1->x.tries>=3/\x.phase≠8
structure LQ(w:Wo)(k:Nat)(q:Wo×Rt):Prop where
 b:LB q.1 k q.2
 oth:∀who,who≠(k:Int)+1->who≠0->∀i,0<=i->i<=7->(owner q.1.mem i=who↔owner w.mem i=who)/\(owner w.mem i=who->WO q.1.mem i=WO w.mem i)
 clk:w.mem.1<=q.1.mem.1
 hdo:∀h∈q.1.holds,h.1≠(k:Int)+1->∃h'∈w.holds,h'.1=h.1
 tko:q.1.token≠0->q.1.token≠(k:Int)+1->q.1.token=w.token
section
variable{w:Wo}{x:Rt}{k:Nat}{p:Pg}{q:Wo×Rt}{o:Opn}{n:Int}
theorem LQ.of(hm:q.1.mem=w.mem)(hh:q.1.holds=w.holds)(ht:q.1.token=w.token)(hb:LB q.1 k q.2):LQ w k q:=
 ⟨hb,λwho h1 h0 i a b=>by rw[hm];exact⟨Iff.rfl,λ_=>rfl⟩,by rw[hm];omega,λh eY _=>⟨h,by rw[←hh];exact eY,rfl⟩,λ_ _=>ht⟩
theorem LQ.keep(hb:LB w k x)(hm:q.1.mem=w.mem)(hh:q.1.holds=w.holds)(ht:q.1.token=w.token)(h5:x.phase≠5)(hp:q.2.phase≠0/\q.2.phase≠5/\q.2.phase≠8)(mT:q.2.tries=x.tries):LQ w k q:=
 LQ.of hm hh ht ⟨λh=>absurd h hp.2.1,λ_=>by rw[hm];exact hb.no h5,λh eY hk=>⟨hp.1,hp.2.2⟩,λh=>by rw[ht]at h;rw[mT];exact⟨(hb.tk h).1,hp.2.2⟩⟩
theorem WdI:(WE x).phase≠0/\(WE x).phase≠5/\(WE x).phase≠8:=by
 unfold WE Wdi;split<;>simp
theorem WnE(h1:x.phase=1):(Wc0 w x o).phase≠0/\(Wc0 w x o).phase≠5/\(Wc0 w x o).phase≠8:=by
 unfold Wc0;cases Wbf x.writes o.2.2.1 with
 |some v=>simp only;omega
 |none=>
  simp only;generalize WZ w.mem x.rv _=b;split
  .exact WdI
  .split<;>(simp only;omega)
theorem Woi{l:List Hd}{who:Int}(h:(Wfz l who).length=0):∀e∈l,e.1≠who:=λe he hw=>by
 have:e.2.1∈Wfz l who:=List.mem_map.2 ⟨e,Xau.2 ⟨he,by simpa using hw⟩,rfl⟩;rw[List.eq_nil_of_length_eq_zero h]at this;cases this
theorem WuS(eU:∀i,0<=i->i<=7->owner w.mem i≠(k:Int)+1)(hh:∀e∈w.holds,e.1≠(k:Int)+1):LQ w k (Wkf w x k):=by
 unfold Wkf;refine⟨⟨λh=>by(change (8:Int)=5 at h;omega),λ_=>eU,λh eY hk=>absurd hk (hh h eY),λh=>?_⟩,λwho h1 h0 i a b=>⟨Iff.rfl,λ_=>rfl⟩,Xv _,λh eY _=>⟨h,eY,rfl⟩,λh0 h1=>?_⟩
 .change (if w.token=(k:Int)+1 then 0 else w.token)=(k:Int)+1 at h;split at h<;>omega
 .change (if w.token=(k:Int)+1 then 0 else w.token)≠0 at h0;show(if w.token=(k:Int)+1 then 0 else w.token)=w.token;split
  .rename_i hc;rw[if_pos hc]at h0;exact absurd rfl h0
  .rfl
theorem WoO(hb:LB w k x)(h1:x.phase=1){out:Int}:LQ w k (Waz w x k out):=by
 have eU:=hb.no (by omega);unfold Waz;simp only;generalize hr:(if out=2 then []else x.writes)=rows;split
 .rename_i hc;exact WuS eU (Woi hc.2)
 .refine LQ.of rfl rfl rfl ⟨λ_=>⟨rfl,?_⟩,λh=>absurd rfl h,λh hh hk=>by(show(5:Int)≠0/\(5:Int)≠8;omega),λh=>⟨(hb.tk h).1,by show(5:Int)≠8;omega⟩⟩;have vH:∀i,¬lkd (Wbb ((k:Int)+1) x.rv rows x.reads) i:=λi ⟨j,hj,a,b⟩=>by
   change j<(WcY rows).length at hj;have aY:(Wbb ((k:Int)+1) x.rv rows x.reads).phase=1:=by show(if(WcY rows).length=0 then(2:Int)else 1)=1;rw[if_neg (by omega)]
   have bN:(Wbb ((k:Int)+1) x.rv rows x.reads).pos=0:=rfl;unfold lkA at b;omega
  refine⟨λi h0 h7=>⟨λh=>absurd h (eU i h0 h7),λh=>absurd h (vH i)⟩,λh3=>?_⟩;have aY:(Wbb ((k:Int)+1) x.rv rows x.reads).phase=1\/(Wbb ((k:Int)+1) x.rv rows x.reads).phase=2:=by
   show(if(WcY rows).length=0 then(2:Int)else 1)=1\/(if(WcY rows).length=0 then(2:Int)else 1)=2;split<;>simp
  exfalso;change (Wbb ((k:Int)+1) x.rv rows x.reads).phase=3\/(Wbb ((k:Int)+1) x.rv rows x.reads).phase=4\/(Wbb ((k:Int)+1) x.rv rows x.reads).phase=5 at h3;omega
theorem WtY(hb:LB w k x)(h1:x.phase=1){code:List Opn}:LQ w k (WbW w x k code):=by
 unfold WbW;split
 .exact WoO hb h1
 .split
  .exact LQ.keep hb rfl rfl rfl (by omega) (by unfold WdR;simp only;omega) rfl
  .exact LQ.keep hb rfl rfl rfl (by omega) (by simp only;omega) rfl
theorem Wus(hd:x.doomed=false)(hb:LB w k x)(h1:x.phase=1)(hH:HOk w.holds):LQ w k (WbR w x k o):=by
 unfold WbR;cases ha:WaS w.holds ((k:Int)+1) (WaH o).1 (WaH o).2 with
 |none=>exact LQ.keep hb rfl rfl rfl (by omega) WdI (WfB hd).2.2
 |some hs=>
  have hmem:∀e∈hs,e.1≠(k:Int)+1->e∈w.holds:=λe he hne=>by
   unfold WaS at ha;split at ha
   .injection ha with ha;subst ha;unfold Wha at he;rcases(WbJ WnR hH.ris).1 he with rfl|he
    .exact absurd rfl hne
    .exact he.1
   .cases ha
  exact⟨⟨λh=>by(change x.phase=5 at h;omega),λ_=>hb.no (by omega),λh hh hk=>by(show x.phase≠0/\x.phase≠8;omega),λh=>⟨(hb.tk h).1,by show x.phase≠8;omega⟩⟩,
   λwho h1 h0 i a b=>⟨Iff.rfl,λ_=>rfl⟩,Xv _,λh hh hne=>⟨h,hmem h hh hne,rfl⟩,λ_ _=>rfl⟩
theorem Wwh(hd:x.doomed=false)(hb:LB w k x)(h1:x.phase=1)(hH:HOk w.holds):LQ w k (WgG w x k p):=by
 unfold WgG;split
 .exact WoO hb h1
 .simp only;generalize opN p.1 x.pc=o;split
  .exact LQ.keep hb rfl rfl rfl (by omega) (WnE h1) (Wr7 hd (by omega)).2.2
  .split
   .exact WtY hb h1
   .split
    .exact LQ.keep hb rfl rfl rfl (by omega) (by simp only;omega) rfl
    .split
     .exact Wus hd hb h1 hH
     .repeat' split
      all_goals exact LQ.keep hb rfl rfl rfl (by omega) (by simp only;omega) rfl
theorem WvD(hb:LB w k x)(h0:x.phase=0):LQ w k (Wdd w x k):=by
 unfold Wdd;split
 .exact LQ.of rfl rfl rfl hb
 .split
  .rename_i hc;exact⟨⟨hb.cm,hb.no,hb.hd,λ_=>⟨hc.1,by show x.phase≠8;omega⟩⟩,λwho h1 h0 i a b=>⟨Iff.rfl,λ_=>rfl⟩,Xv _,λh hh _=>⟨h,hh,rfl⟩,λ_ hne=>absurd rfl hne⟩
  .split
   .exact LQ.of rfl rfl rfl hb
   .exact LQ.keep hb rfl rfl rfl (by omega) (by simp only;omega) rfl
theorem Wr3(hb:LB w k x)(h5:x.phase=5)(hc:CmOk x.cm)(hm:W0 w.mem=true):LQ w k (Was w x k):=by
 obtain⟨hw,hcl⟩:=hb.cm h5;have mV:∀c:Cm,c.phase=6\/c.phase=8->∀i,¬lkd c i:=λc aY i ⟨j,hj,a,b⟩=>by unfold lkA at b;omega
 unfold Was;split
 .have xE:=WpB hc hcl;have xF:=Wn1 x.cm;split
  .rename_i h8;refine LQ.of rfl rfl rfl ⟨λh=>by(change (6:Int)=5 at h;omega),λ_ i a b=>?_,λh hh hk=>by(show(6:Int)≠0/\(6:Int)≠8;omega),λh=>⟨(hb.tk h).1,by show(6:Int)≠8;omega⟩⟩;intro ho;exact mV _ (.inr h8) i ((xE.own i a b).1 (by rw[xF,hw];exact ho))
  .exact LQ.of rfl rfl rfl ⟨λ_=>⟨by show(War x.cm).who=_;rw[xF,hw],xE⟩,λh=>absurd h5 h,hb.hd,hb.tk⟩
 .have hs:=WsB hc hm hcl;have tB:=WjG w.mem x.cm;have fL:=λwho (a:who≠(k:Int)+1) (b:who≠0) (i:Int) (c:0<=i) (d:i<=7)=>WjS (i:=i) hc hm (who:=who) (by rw[hw];exact a) b ⟨c,d⟩;have vD:=Whq w.mem x.cm;simp only;refine⟨?_,fL,vD,λh hh _=>⟨h,hh,rfl⟩,λ_ _=>rfl⟩;have eU:(WC w.mem x.cm).2.phase=6\/(WC w.mem x.cm).2.phase=8->∀i,0<=i->i<=7->owner (WC w.mem x.cm).1 i≠(k:Int)+1:=λaY i a b ho=>mV _ aY i ((hs.own i a b).1 (by rw[tB,hw];exact ho));generalize (WC w.mem x.cm).1=m' at*;generalize (WC w.mem x.cm).2=c' at*;unfold WbD;simp only;by_cases h8:c'.phase=8
  .rw[if_pos h8];exact⟨λh=>by(change (6:Int)=5 at h;omega),λ_=>eU (.inr h8),λh hh hk=>by(show(6:Int)≠0/\(6:Int)≠8;omega),λh=>⟨(hb.tk h).1,by show(6:Int)≠8;omega⟩⟩
  .rw[if_neg h8];by_cases h6:c'.phase=6
   .rw[if_pos h6];have aY:(if x.fate=2 then(6:Int)else 7)=6\/(if x.fate=2 then(6:Int)else 7)=7:=by split<;>simp
    generalize (if x.fate=2 then(6:Int)else 7)=ph at*;exact⟨λh=>by(change ph=5 at h;omega),λ_=>eU (.inl h6),λh hh hk=>by(show ph≠0/\ph≠8;omega),λh=>⟨(hb.tk h).1,by show ph≠8;omega⟩⟩
   .rw[if_neg h6];exact⟨λ_=>⟨by show c'.who=_;rw[tB,hw],hs⟩,λh=>absurd h5 h,hb.hd,hb.tk⟩
theorem WvJ(hx:RX x)(ho:ROk p n x)(hg:GOk w)(hb:LB w k x):LQ w k (WY w x k p):=by
 have aY:=ho.phase;unfold WY;by_cases hd:x.doomed=true/\1<=x.phase/\x.phase<=4
 .rw[if_pos hd];exact LQ.keep hb rfl rfl rfl (by omega) (by unfold Wdi;simp) rfl
 rw[if_neg hd];have gd:x.phase≠5->x.doomed=false:=λh5=>by
  rw[Bool.eq_false_iff];intro h;rcases hx.doom h with h1|h1
  .exact hd ⟨h,h1⟩
  .exact h5 h1.1
 by_cases h0:x.phase=0
 .rw[if_pos h0];exact WvD hb h0
 rw[if_neg h0];by_cases h1:x.phase=1
 .rw[if_pos h1];exact Wwh (gd (by omega)) hb h1 hg.holds
 rw[if_neg h1];by_cases h2:x.phase=2
 .rw[if_pos h2];refine LQ.keep hb rfl rfl rfl (by omega) ?_ (Wq9 (w:=w) (gd (by omega)) (by omega)).tries;unfold WbT Wdi
  repeat' split
  all_goals(simp only;omega)
 rw[if_neg h2];by_cases h3:x.phase=3
 .rw[if_pos h3];refine LQ.keep hb (Wid (gd (by omega)) (by omega)).mem ?_ ?_ (by omega) ?_ (Wid (gd (by omega)) (by omega)).tries
  all_goals(unfold WaT WdR;split<;>first|rfl|(simp only;omega))
 rw[if_neg h3];by_cases h4:x.phase=4
 .rw[if_pos h4];refine LQ.keep hb rfl rfl rfl (by omega) ?_ (Wmm (w:=w) (gd (by omega)) (by omega)).tries;unfold WaG Wdi;simp only
  repeat' split
  all_goals(simp only;omega)
 rw[if_neg h4];by_cases h5:x.phase=5
 .rw[if_pos h5];exact Wr3 hb h5 (ho.comm h5) hg.mem
 rw[if_neg h5];by_cases h6:x.phase=6
 .rw[if_pos h6];by_cases hz:x.undos.length>0
  .rw[if_pos hz];exact LQ.keep hb rfl rfl rfl (by omega) (by unfold WdR;simp only;omega) rfl
  .rw[if_neg hz];exact LQ.keep hb rfl rfl rfl (by omega) (by simp only;omega) rfl
 rw[if_neg h6];by_cases h7:x.phase=7
 .rw[if_pos h7];have hfree:∀e∈W1 w.holds ((k:Int)+1),e.1≠(k:Int)+1/\e∈w.holds:=λe he=>by
   have:=Xau.1 he;exact⟨by simpa using this.2,this.1⟩
  have eU:=hb.no (by omega);by_cases hf:x.fate=0
  .rw[if_pos hf];refine⟨⟨λh=>by(change (0:Int)=5 at h;omega),λ_=>eU,λh hh hk=>absurd hk (hfree h hh).1,λh=>⟨?_,by show(0:Int)≠8;omega⟩⟩,λwho h1 h0 i a b=>⟨Iff.rfl,λ_=>rfl⟩,Xv _,λh hh _=>⟨h,(hfree h hh).2,rfl⟩,λ_ _=>rfl⟩;have:=(hb.tk h).1;show x.tries+1>=3;omega
  .rw[if_neg hf];have:=WuS (w:={w with holds:=W1 w.holds ((k:Int)+1)}) (x:=x) eU (λe he=>(hfree e he).1);exact⟨this.b,this.oth,this.clk,λh hh hne=>by obtain⟨h',a,b⟩:=this.hdo h hh hne;exact⟨h',(hfree h' a).2,b⟩,this.tko⟩
 .rw[if_neg h7];exact LQ.of rfl rfl rfl hb
end
structure LX(w:Wo):Prop where
 root:∀(k:Nat) (h:k<w.roots.length),LB w k w.roots[k]
 ow:∀i,0<=i->i<=7->owner w.mem i=0\/∃k:Nat,k<w.roots.length/\owner w.mem i=(k:Int)+1
 hd:∀h∈w.holds,∃k:Nat,k<w.roots.length/\h.1=(k:Int)+1
 tk:w.token=0\/∃k:Nat,k<w.roots.length/\w.token=(k:Int)+1
section
variable{s:Sc}{w v:Wo}{n:Int}{a:Ac}{k:Nat}{q:Wo×Rt}
theorem LB.other{j:Nat}{y:Rt}(h:LB w j y)(hq:LQ w k q)(hne:j≠k)(hc:y.phase=5->CmOk y.cm):LB q.1 j y:=by
 have hw:((j:Int)+1)≠(k:Int)+1:=by omega
 have ho:=hq.oth ((j:Int)+1) hw (by omega);refine⟨λh5=>?_,λh5 i a b hz=>h.no h5 i a b ((ho i a b).1.1 hz),λe he hk=>?_,λhz=>?_⟩
 .obtain⟨c1,c2⟩:=h.cm h5;refine⟨c1,λi a b=>?_,λh3=>?_⟩
  .rw[c1,(ho i a b).1,←c1];exact c2.own i a b
  .obtain⟨v1,v2⟩:=c2.ver h3;refine⟨Xef v1 hq.clk,λi hi=>?_⟩;obtain⟨l,hl,e1,e2⟩:=hi;have hr:=(hc h5).rows _ (Xw hl);have jr:lkd y.cm i:=⟨l,hl,e1,e2⟩;have hown:=(c2.own i (by omega) (by omega)).2 jr;rw[(ho i (by omega) (by omega)).2 (by rw[hown,c1])];exact v2 i jr
 .obtain⟨h',a,b⟩:=hq.hdo e he (by rw[hk];exact hw);exact h.hd h' a (b.trans hk)
 .exact h.tk ((hq.tko (by omega) (by omega)).symm.trans hz)
theorem WsL{w0:Wo}(hx:LX w0)(hk:k<w0.roots.length)(hr:q.1.roots=w0.roots)(hq:LQ w0 k q)(hc:∀(i:Nat) (h:i<w0.roots.length),w0.roots[i].phase=5->CmOk w0.roots[i].cm):LX (Wo.put q k):=by
 have hlen:(q.1.roots.set k q.2).length=w0.roots.length:=by rw[Xab,hr]
 have hmem:∀i,owner (Wo.put q k).mem i=owner q.1.mem i:=λ_=>rfl;refine⟨λi hi=>?_,λi a b=>?_,λe he=>?_,?_⟩
 .change i<(q.1.roots.set k q.2).length at hi;have iq:i<w0.roots.length:=by rw[←hlen];exact hi
  have iQ:∀y,LB q.1 i y->LB (Wo.put q k) i y:=λy hy=>⟨hy.cm,hy.no,hy.hd,hy.tk⟩;show LB (Wo.put q k) i ((q.1.roots.set k q.2)[i]'hi);rw[Xaq];by_cases he:k=i
  .subst he;rw[if_pos rfl];exact iQ _ hq.b
  .rw[if_neg he];simp only[hr];exact iQ _ ((hx.root i iq).other hq (λh=>he h.symm) (hc i iq))
 .show owner q.1.mem i=0\/∃j:Nat,j<(q.1.roots.set k q.2).length/\owner q.1.mem i=(j:Int)+1;rw[hlen];by_cases h0:owner q.1.mem i=0
  .exact .inl h0
  .by_cases h1:owner q.1.mem i=(k:Int)+1
   .exact .inr ⟨k,hk,h1⟩
   .have:=(hq.oth _ h1 h0 i a b).1.1 rfl;rw[←this];exact hx.ow i a b
 .show∃j:Nat,j<(q.1.roots.set k q.2).length/\e.1=(j:Int)+1;rw[hlen];by_cases h1:e.1=(k:Int)+1
  .exact⟨k,hk,h1⟩
  .obtain⟨h',a,b⟩:=hq.hdo e he h1;rw[←b];exact hx.hd h' a
 .show q.1.token=0\/∃j:Nat,j<(q.1.roots.set k q.2).length/\q.1.token=(j:Int)+1;rw[hlen];by_cases h0:q.1.token=0
  .exact .inl h0
  .by_cases h1:q.1.token=(k:Int)+1
   .exact .inr ⟨k,hk,h1⟩
   .rw[hq.tko h0 h1];exact hx.tk
theorem Wnm(h:WOk s.2.1 n w)(hx:WX w)(hl:LX w):LX (Wc2 s w a):=by
 have aU:LX {w with now:=w.now+1}:=⟨λk hk=>⟨(hl.root k hk).cm,(hl.root k hk).no,(hl.root k hk).hd,(hl.root k hk).tk⟩,hl.ow,hl.hd,hl.tk⟩;have hc:∀(i:Nat) (h:i<({w with now:=w.now+1}:Wo).roots.length),({w with now:=w.now+1}:Wo).roots[i].phase=5->CmOk ({w with now:=w.now+1}:Wo).roots[i].cm:=λi hi h5=>(h.root i hi).comm h5;unfold Wc2;simp only;split
 .rename_i hb;have hk:a.2.1.toNat<w.roots.length:=by omega
  have iQ:=aU.root _ hk;rw[Wf hk];split
  .unfold Wi5;rw[Wf (show a.2.1.toNat<({w with now:=w.now+1}:Wo).roots.length from hk)];exact WsL aU hk (Wi0 h hk) (WvJ (n:=n) (hx _ hk) (h.root _ hk) ⟨h.mem,h.shelf,h.holds⟩ iQ) hc
  .split
   .split
    .exact WsL (w0:={w with now:=w.now+1}) aU hk rfl (LQ.of rfl rfl rfl ⟨iQ.cm,iQ.no,iQ.hd,iQ.tk⟩) hc
    .exact aU
   .split
    .split
     .exact WsL (w0:={w with now:=w.now+1}) aU hk rfl (LQ.of rfl rfl rfl ⟨iQ.cm,iQ.no,iQ.hd,iQ.tk⟩) hc
     .exact aU
    .exact aU
 .exact aU
theorem WrE:∀(l:List Ac) (n:Int) (w:Wo),WOk s.2.1 n w->WX w->LX w->LX (l.foldl (Wc2 s) w)
 | [],n,w,h,hx,hl=>hl
 |a::l,n,w,h,hx,hl=>WrE l (n+1) _ (WbO (a:=a) h) (WfZ (a:=a) h hx).1 (Wnm h hx hl)
theorem Wvk(aM:Wjw s=true):LX (Wge s):=by
 obtain⟨h1,h2,h3,h4⟩:=Wed aM;have pB:∀i,0<=i->i<=7->owner (Wge s).mem i=0:=λi a b=>by
  unfold owner WO Wce Wge Wl6;simp only;have:=h1.cells.len;rw[Wf (show i.toNat<(s.1.1.map wd0).length by rw[List.length_map];omega),List.getElem_map];rfl
 refine⟨λk hk=>?_,λi a b=>.inl (pB i a b),(λh hh=>by cases hh),.inl rfl⟩;have hr:(Wge s).roots[k]={}:=by simp only[Wge,Xbp]
 rw[hr];exact⟨λh=>by(change (0:Int)=5 at h;omega),(λ_ i a b=>by rw[pB i a b];omega),(λh hh=>by cases hh),λh=>by(change (0:Int)=(k:Int)+1 at h;omega)⟩
end
end
section
variable{N:Nat}{s:Sc}{w:Wo}{n:Int}
end
section
def Wa2(x:Kd):Int:=if x.phase=0 then 75-3*x.pc-(if x.busy=true then x.pb.2.1 else 0)else 0
def Wba(x:Kd):Int:=if x.phase=3 then 0 else if x.phase=2 then 25-x.pos else 26
structure KT(f:Fm)(k:Nat)(x:Kd):Prop where
 pb:x.busy=true->x.pb.2.1=1\/x.pb.2.1=2
 own:f.owner=(k:Int)+1↔x.phase=2
 seen:x.since=f.clock->∀e∈x.seen,Wvd f.buf e.1=e.2.2
inductive KO (f:Fm) (k:Nat) (x:Kd):Fm×Kd->Prop
 |lost {q:Fm×Kd}:q.1.lost=true->KO f k x q
 |run {y:Kd}:x.phase=0->y.since=x.since->(y.phase=0\/y.phase=1)->Wa2 y<Wa2 x->(y.busy=true->y.pb.2.1=1\/y.pb.2.1=2)->
   (x.since=f.clock->∀e∈y.seen,Wvd f.buf e.1=e.2.2)->KO f k x (f,y)
 |again:x.phase=0->x.since<f.clock->KO f k x (f,f.again x)
 |fail:x.phase=2->x.since<f.clock->KO f k x ({f with owner:=0},f.again x)
 |ask:x.phase=1->f.owner=0->KO f k x ({f with owner:=(k:Int)+1},{x with phase:=2})
 |wait:x.phase=1->f.owner≠0->KO f k x (f,x)
 |look:x.phase=2->x.pos<x.seen.length->KO f k x (f,{x with pos:=x.pos+1})
 |merge:x.phase=2->KO f k x (Wdb f x k)
 |done:x.phase=3->KO f k x (f,x)
variable{code:List Opn}{codes:List (List Opn)}{n:Int}{f:Fm}{x:Kd}{m:Mm}{k:Nat}{o:Opn}
theorem WnD{rv:Int}{p:Pb}(h:0<=p.2.1/\p.2.1<=2):(WZ m rv p).2.1=4\/(WZ m rv p).2.1=p.2.1+1:=by
 unfold WZ;simp only[Wt,Wat]
 repeat' split
 all_goals first
  |exact .inl rfl
  |(refine .inr ?_;show(1:Int)=_;omega)
  |(refine .inr ?_;show(2:Int)=_;omega)
  |(refine .inr ?_;show(3:Int)=_;omega)
  |omega
theorem Wvz(hF:FOk codes n f)(h:KOk code f.clock n x)(h0:x.phase=0)(ht:KT f k x)(aQ:x.pc+1<=24):KO f k x (Web m f x o):=by
 have hl:Wa2 x=75-3*x.pc-(if x.busy=true then x.pb.2.1 else 0):=by unfold Wa2;rw[if_pos h0]
 have gB:0<=(if x.busy=true then x.pb.2.1 else 0)/\(if x.busy=true then x.pb.2.1 else 0)<=2:=by
  split
  .have:=ht.pb ‹_›;omega
  .omega
 have dq:∀y:Kd,y.phase=0->y.pc=x.pc+1->y.busy=x.busy->y.pb=x.pb->Wa2 y<Wa2 x:=λy a b c d=>by
  unfold Wa2;rw[if_pos a,if_pos h0,b,c,d];omega
 unfold Web;cases Wbf x.writes o.2.2.1 with
 |some v=>exact .run h0 rfl (.inl h0) (dq _ h0 rfl rfl rfl) ht.pb ht.seen
 |none=>
  simp only;cases he:ent f.buf o.2.2.1 with
  |some r=>
   simp only;have hr:=WcO he;have mx:r.2∈f.buf:=List.mem_of_getElem? hr.2.2.2;split
   .exact .again h0 (by have:=(hF.bufE _ mx).2.2;omega)
   .refine .run h0 rfl (.inl h0) (dq _ h0 rfl rfl rfl) ht.pb λhs e cT=>?_;rcases Xn.1 cT with cT|cT
    .exact ht.seen hs e cT
    .rw[Xac]at cT;subst cT;have hc:r.2.1=o.2.2.1:=eq_of_beq hr.1;unfold Wvd;rw[hc,he]
  |none=>
   simp only;have hp:0<=(if x.busy=true then x.pb else(o.2.2.1,0,0,0)).2.1/\(if x.busy=true then x.pb else(o.2.2.1,0,0,0)).2.1<=2:=by
    split
    .have:=ht.pb ‹_›;omega
    .simp
   have fM:(if x.busy=true then x.pb else(o.2.2.1,0,0,0)).2.1=(if x.busy=true then x.pb.2.1 else 0):=by split<;>rfl
   have hs:=WnD (m:=m) (rv:=f.rv) hp;rw[fM]at hs;generalize WZ m f.rv (if x.busy=true then x.pb else(o.2.2.1,0,0,0))=p at*;split
   .exact .lost rfl
   .split
    .refine .run h0 rfl (.inl h0) ?_ (λh=>by cases h) λzw e cT=>?_
     .rw[hl];show(if x.phase=0 then 75-3*(x.pc+1) -0 else 0)<_;rw[if_pos h0];omega
     .rcases Xn.1 cT with cT|cT
      .exact ht.seen zw e cT
      .rw[Xac]at cT;subst cT;unfold Wvd;rw[he]
    .refine .run h0 rfl (.inl h0) ?_ (λ_=>by show p.2.1=1\/p.2.1=2;omega) ht.seen;rw[hl];show(if x.phase=0 then 75-3*x.pc-p.2.1 else 0)<_;rw[if_pos h0];omega
theorem Www(bb:KC code)(hF:FOk codes n f)(h:KOk code f.clock n x)(h0:x.phase=0)(ht:KT f k x):KO f k x (WqG m f x code):=by
 have aD:=bb.toCC;have hlen:=aD.len;have hl:Wa2 x=75-3*x.pc-(if x.busy=true then x.pb.2.1 else 0):=by unfold Wa2;rw[if_pos h0]
 have gB:0<=(if x.busy=true then x.pb.2.1 else 0)/\(if x.busy=true then x.pb.2.1 else 0)<=2:=by
  split
  .have:=ht.pb ‹_›;omega
  .omega
 have zx:=h.pc;have sG:∀y:Kd,y.phase=1->Wa2 y<Wa2 x:=λy a=>by unfold Wa2 at*;rw[if_neg (by omega),hl];omega
 have dq:∀y:Kd,y.phase=0->x.pc+1<=y.pc->y.busy=x.busy->y.pb=x.pb->Wa2 y<Wa2 x:=λy a b c d=>by
  unfold Wa2;rw[if_pos a,if_pos h0,c,d];omega
 unfold WqG;split
 .exact .run h0 rfl (.inr rfl) (sG _ rfl) ht.pb ht.seen
 .obtain⟨i,hi,aQ,ho⟩:=Wfm (l:=code) h.pc.1 (by have:=h.pc;omega);simp only[ho];have hM:=h.marks h0;rw[aQ,Xj]at hM;split
  .exact Wvz hF h h0 ht (by omega)
  .split
   .unfold Wio;split
    .exact .run h0 rfl (.inr rfl) (sG _ rfl) ht.pb ht.seen
    .obtain⟨j,q,y,e1,e2,e3,⟨hj,h8⟩,pt,cL,fM,e5,e6⟩:=WhB (d:=((0,0,[]):KM)) aD (show i<=code.length by omega) hM.pcs ‹_›;refine .run h0 rfl (.inl h0) (dq _ h0 ?_ rfl rfl) ht.pb ht.seen;simp only[e2,e3,Xj];omega
   .split
    .exact .run h0 rfl (.inl h0) (dq _ h0 (Xv _) rfl rfl) ht.pb ht.seen
    .split
     .have hk:=Wv2 (bb.ok i hi).1 ‹_›;refine .run h0 rfl (.inl h0) (dq _ h0 ?_ rfl rfl) ht.pb ht.seen;show x.pc+1<=(if Wce x.regs code[i].2.1 0=0 then x.pc+code[i].2.2.1 else x.pc)+1;split<;>omega
     .split
      .exact .run h0 rfl (.inl h0) (dq _ h0 (Xv _) rfl rfl) ht.pb ht.seen
      .split
       .exact .run h0 rfl (.inl h0) (dq _ h0 (Xv _) rfl rfl) ht.pb ht.seen
       .exact .run h0 rfl (.inl h0) (dq _ h0 (Xv _) rfl rfl) ht.pb ht.seen
theorem WrI(bb:KC code)(hF:FOk codes n f)(h:KOk code f.clock n x)(ht:KT f k x):KO f k x (Wea m f x k code):=by
 have aY:=h.phase;unfold Wea;split
 .exact Www bb hF h ‹_› ht
 .split
  .split
   .exact .ask ‹_› ‹_›
   .exact .wait ‹_› ‹_›
  .split
   .split
    .exact .merge ‹_›
    .have hp:=h.pos;have hlt:x.pos<x.seen.length:=by omega
     simp only;split
     .exact .look ‹_› hlt
     .rename_i hne;refine .fail ‹_› ?_;have hs:=h.since;by_cases he:x.since=f.clock
      .exfalso;apply hne;have hg:Wce x.seen x.pos (0,0,0)=x.seen[x.pos.toNat]'(by omega):=Wf (by omega) _;rw[hg];exact ht.seen he _ (Xw _)
      .omega
   .exact .done (by omega)
end
section
def Wax(x:Kd):Int:=if x.phase=3 then 0 else 1
def Wbq(c:Int)(x:Kd):Int:=if x.phase≠3/\x.since<c then 1 else 0
def WK(c:Int)(x:Kd):Int:=Wba x+26*Wbq c x
def WcX(g:Kd->Int)(l:List Kd):Int:=(l.map g).sum
def tri(u:Int):Int:=if u<=1 then 0 else if u=2 then 1 else 3
def Wff(f:Fm):Int:=WcX Wax f.kids
def fQ(f:Fm):Int:=WcX (WK f.clock) f.kids+26*tri (Wff f)
def fP(f:Fm)(x:Kd):Int:=Wa2 x+75*(Wbq f.clock x+(Wff f-1))
theorem WbK{g:Kd->Int}{y:Kd}:∀{l:List Kd} {k:Nat} (h:k<l.length),WcX g (l.set k y)=WcX g l-g l[k]+g y
 |x::l,0,h=>by simp[WcX];omega
 |x::l,k+1,h=>by
  have:=WbK (g:=g) (y:=y) (l:=l) (k:=k) (by simpa using h);simp only[WcX,List.set_cons_succ,Xai,Xce,List.getElem_cons_succ]at*;omega
theorem WiU{g h:Kd->Int}:∀{l:List Kd},(∀x∈l,g x<=h x)->WcX g l<=WcX h l
 | [],_=>by simp[WcX]
 |x::l,hl=>by
  have:=WiU (l:=l) λy hy=>hl y (Xf _ hy);have:=hl x (Xi ..);simp only[WcX,Xai,Xce]at*;omega
theorem WkV{g h:Kd->Int}{a:Int}:∀{l:List Kd},WcX (λx=>g x+a*h x) l=WcX g l+a*WcX h l
 | []=>by simp[WcX]
 |x::l=>by
  have:=WkV (g:=g) (h:=h) (a:=a) (l:=l);simp only[WcX,Xai,Xce,Int.mul_add]at*;omega
theorem Wpz(x:Kd):0<=Wax x/\Wax x<=1:=by unfold Wax;split<;>omega
theorem Wcf(c:Int)(x:Kd):0<=Wbq c x/\Wbq c x<=Wax x:=by
 unfold Wbq Wax;by_cases h:x.phase=3
 .rw[if_neg (by omega),if_pos h];omega
 .rw[if_neg h];split<;>omega
theorem WkS(f:Fm):0<=Wff f/\Wff f<=f.kids.length:=by
 unfold Wff;have:∀l:List Kd,0<=WcX Wax l/\WcX Wax l<=l.length:=λl=>by
  induction l with
  |nil=>simp[WcX]
  |cons x l ih=>
   have:=Wpz x;simp only[WcX,Xai,Xce,Xr]at*;omega
 exact this f.kids
theorem Wef{code:List Opn}{c n:Int}{x:Kd}(h:KOk code c n x)(hl:code.length<=24):0<=Wba x/\Wba x<=26/\(x.phase=2->1<=Wba x/\Wba x<=25)/\((x.phase=0\/x.phase=1)->Wba x=26):=by
 have hp:=h.pos;have hs:=h.sl;have aQ:=h.pc;have aY:=h.phase;unfold Wba;split
 .omega
 .split<;>omega
theorem WkB{code:List Opn}{c n:Int}{x:Kd}(h:KOk code c n x)(hl:code.length<=24)(hb:x.busy=true->x.pb.2.1=1\/x.pb.2.1=2):0<=Wa2 x/\Wa2 x<=75/\(x.phase=0->1<=Wa2 x):=by
 have aQ:=h.pc;unfold Wa2;split
 .split
  .have:=hb ‹_›;omega
  .omega
 .omega
structure KD(f:Fm)(k:Nat)(q:Fm×Kd):Prop where
 le:fQ (Fm.put q k)<=fQ f
 p:∀(j:Nat) (h:j<f.kids.length) (h':j<(Fm.put q k).kids.length),Wax (Fm.put q k).kids[j]=1->fP (Fm.put q k) (Fm.put q k).kids[j]<=fP f f.kids[j]/\Wax f.kids[j]=1
variable{codes:List (List Opn)}{n:Int}{f:Fm}{x y:Kd}{k:Nat}{q:Fm×Kd}{code:List Opn}
theorem WgH(h:k<f.kids.length)(hk:q.1.kids=f.kids){j:Nat}(hj:j<f.kids.length)(h':j<(Fm.put q k).kids.length):(Fm.put q k).kids[j]=if k=j then q.2 else f.kids[j]:=by
 show(q.1.kids.set k q.2)[j]=_;simp only[hk,Xaq]
theorem WfG(hk:k<f.kids.length)(h1:q.1.kids=f.kids)(hc:q.1.clock=f.clock)(hu:Wax q.2=Wax f.kids[k])(hs:WK f.clock q.2<=WK f.clock f.kids[k])(hp:Wax q.2=1->Wa2 q.2+75*Wbq f.clock q.2<=Wa2 f.kids[k]+75*Wbq f.clock f.kids[k]):
  KD f k q/\Wff (Fm.put q k)=Wff f/\fQ (Fm.put q k)=fQ f-WK f.clock f.kids[k]+WK f.clock q.2:=by
 have e1:(Fm.put q k).kids=f.kids.set k q.2:=by show q.1.kids.set k q.2=_;rw[h1]
 have e2:(Fm.put q k).clock=f.clock:=hc;have e3:Wff (Fm.put q k)=Wff f:=by unfold Wff;rw[e1,WbK hk,hu];omega
 have e4:fQ (Fm.put q k)=fQ f-WK f.clock f.kids[k]+WK f.clock q.2:=by unfold fQ;rw[e1,e2,e3,WbK hk];omega
 refine⟨⟨by rw[e4];omega,λj h h' hj=>?_⟩,e3,e4⟩;have hg:=WgH hk h1 h h';rw[hg]at hj⊢;unfold fP;rw[e2,e3];by_cases he:k=j
 .subst he;rw[if_pos rfl]at hj⊢;have:=hp hj;rw[hu]at hj;exact⟨by omega,hj⟩
 .rw[if_neg he]at hj⊢;exact⟨Xv _,hj⟩
end
section
structure KE(f:Fm)(k:Nat)(x:Kd)(q:Fm×Kd):Prop where
 d:KD f k q
 s0:x.phase=0->Wax q.2=1->fP (Fm.put q k) q.2<fP f x
 s2:x.phase=2->fQ (Fm.put q k)<fQ f
 s1:x.phase=1->f.owner=0->fQ (Fm.put q k)<fQ f
 own:q.1.owner=f.owner\/q.1.owner=0\/(q.1.owner=(k:Int)+1/\x.phase=1/\f.owner=0)
 kids:q.1.kids=f.kids
 kt:∀(j:Nat) (h:j<(Fm.put q k).kids.length),KT (Fm.put q k) j (Fm.put q k).kids[j]
variable{codes:List (List Opn)}{n:Int}{f:Fm}{x y:Kd}{k:Nat}{q:Fm×Kd}{code:List Opn}{m:Mm}
theorem WkR(h:q.1.kids=f.kids):(Fm.put q k).kids.length=f.kids.length:=by show(q.1.kids.set k q.2).length=_;rw[h,Xab]
theorem Wfy(hk:k<f.kids.length)(hT:∀(j:Nat) (h:j<f.kids.length),KT f j f.kids[j])(h1:q.1.kids=f.kids)(hc:q.1.clock=f.clock)(hb:q.1.buf=f.buf)(ho:∀j:Nat,j≠k->(q.1.owner=(j:Int)+1↔f.owner=(j:Int)+1))(hy:KT q.1 k q.2):
  ∀(j:Nat) (h:j<(Fm.put q k).kids.length),KT (Fm.put q k) j (Fm.put q k).kids[j]:=λj h=>by
 have hj:j<f.kids.length:=by rw[WkR h1]at h;exact h
 rw[WgH hk h1 hj h];by_cases he:k=j
 .subst he;rw[if_pos rfl];exact⟨hy.pb,hy.own,hy.seen⟩
 .rw[if_neg he];have ht:=hT j hj;refine⟨ht.pb,?_,λhs e cT=>?_⟩
  .show q.1.owner=(j:Int)+1↔_;rw[ho j (λh=>he h.symm)];exact ht.own
  .show Wvd q.1.buf e.1=e.2.2;rw[hb];exact ht.seen (hs.trans hc) e cT
theorem Wcc(h:x.phase≠3):Wax x=1:=by unfold Wax;rw[if_neg h]
theorem Wk5(h:x.phase≠3)(hy:y.phase≠3)(hs:y.since=x.since)(c:Int):Wbq c y=Wbq c x:=by
 unfold Wbq;rw[hs];by_cases hh:x.since<c
 .rw[if_pos ⟨hy,hh⟩,if_pos ⟨h,hh⟩]
 .rw[if_neg (λz=>hh z.2),if_neg (λz=>hh z.2)]
theorem Wb3:Wbq f.clock (f.again x)=0:=by unfold Wbq Fm.again;simp
theorem WfJ:Wa2 (f.again x)=75:=by unfold Wa2 Fm.again;simp
theorem WeN:Wba (f.again x)=26:=by unfold Wba Fm.again;simp
theorem WqO(h:x.phase≠3)(hs:x.since<f.clock):Wbq f.clock x=1:=by unfold Wbq;rw[if_pos ⟨h,hs⟩]
theorem Wpo{c:Int}:∀{l:List Kd},WcX (WK (c+1)) l<=WcX (WK c) l+26*WcX Wax l:=λ{l}=>by
 have h1:WcX (WK (c+1)) l<=WcX (λx=>WK c x+26*Wax x) l:=WiU λx _=>by
  have a:=Wcf (c+1) x;have b:=Wcf c x;unfold WK;omega
 rw[WkV]at h1;exact h1
theorem Wuj{u:Int}(h:1<=u/\u<=3):tri u=tri (u-1)+(u-1):=by
 unfold tri;have:u=1\/u=2\/u=3:=by omega
 rcases this with rfl|rfl|rfl<;>decide
theorem Wwx(hk:k<f.kids.length)(h3:f.kids.length<=3)(hl:∀c∈codes,c.length<=24)(hF:FOk codes n f)(hT:∀(j:Nat) (h:j<f.kids.length),KT f j f.kids[j])(hx:f.kids[k]=x)(ho:KO f k x q):
  q.1.lost=true\/KE f k x q:=by
 have hlen:(codes.getD k []).length<=24:=by
  have cu:k<codes.length:=by rw[←hF.len];exact hk
  rw[Wf cu];exact hl _ (Xw _)
 have hK:=hF.kid k hk;rw[hx]at hK;have ht:=hT k hk;rw[hx]at ht;obtain⟨c1,c2,c3,c4⟩:=Wef hK hlen;obtain⟨l1,l2,l3⟩:=WkB hK hlen ht.pb;have xy:=Wcf f.clock x;cases ho with
 |lost h=>exact .inl h
 |run h0 hs hp hlt hb hse=>
  rename_i y;refine .inr ?_;have vJ:y.phase≠3:=by omega
  have d6:x.phase≠3:=by omega
  have aJ:=Wk5 d6 vJ hs f.clock;have hch:Wba y=26:=by unfold Wba;rw[if_neg vJ,if_neg (by omega)]
  obtain⟨d1,d2,d3⟩:=WfG (q:=(f,y)) hk rfl rfl (by rw[hx];rw[Wcc d6];exact Wcc vJ) (by rw[hx];show WK f.clock y<=_;unfold WK;rw[aJ];omega) (λ_=>by rw[hx];show Wa2 y+75*Wbq f.clock y<=_;rw[aJ];omega);refine⟨d1,λ_ _=>?_,λh=>by omega,λh=>by omega,.inl rfl,rfl,Wfy hk hT rfl rfl rfl (λ_ _=>Iff.rfl) ⟨hb,?_,λh=>hse (hs▸h)⟩⟩
  .unfold fP;rw[d2];show Wa2 y+75*(Wbq f.clock y+_)<_;rw[aJ];omega
  .show f.owner=(k:Int)+1↔y.phase=2;rw[ht.own];omega
 |again h0 hs=>
  refine .inr ?_;have d6:x.phase≠3:=by omega
  have mf:=WqO d6 hs;obtain⟨d1,d2,d3⟩:=WfG (q:=(f,f.again x)) hk rfl rfl (by rw[hx];rw[Wcc d6];exact Wcc (by show(0:Int)≠3;omega)) (by rw[hx];show WK f.clock (f.again x)<=_;unfold WK;rw[Wb3,WeN];omega) (λ_=>by rw[hx];show Wa2 (f.again x)+75*Wbq f.clock (f.again x)<=_;rw[Wb3,WfJ];omega);refine⟨d1,λ_ _=>?_,λh=>by omega,λh=>by omega,.inl rfl,rfl,Wfy hk hT rfl rfl rfl (λ_ _=>Iff.rfl) ⟨(λh=>by cases h),?_,(λh e he=>by cases he)⟩⟩
  .unfold fP;rw[d2];show Wa2 (f.again x)+75*(Wbq f.clock (f.again x)+_)<_;rw[Wb3,WfJ];have:=l3 h0;omega
  .show f.owner=(k:Int)+1↔(0:Int)=2;rw[ht.own];omega
 |fail h2 hs=>
  refine .inr ?_;have d6:x.phase≠3:=by omega
  have mf:=WqO d6 hs;have c:=c3 h2;obtain⟨d1,d2,d3⟩:=WfG (q:=({f with owner:=0},f.again x)) hk rfl rfl (by rw[hx];rw[Wcc d6];exact Wcc (by show(0:Int)≠3;omega)) (by rw[hx];show WK f.clock (f.again x)<=_;unfold WK;rw[Wb3,WeN];omega) (λ_=>by rw[hx];show Wa2 (f.again x)+75*Wbq f.clock (f.again x)<=_;rw[Wb3,WfJ];omega);have pB:=ht.own.2 h2;refine⟨d1,λh=>by omega,λ_=>?_,λh=>by omega,.inr (.inl rfl),rfl,Wfy hk hT rfl rfl rfl (λj hj=>?_) ⟨(λh=>by cases h),?_,(λh e he=>by cases he)⟩⟩
  .rw[d3,hx];show fQ f-WK f.clock x+WK f.clock (f.again x)<fQ f;unfold WK;rw[Wb3,WeN];omega
  .show(0:Int)=(j:Int)+1↔f.owner=(j:Int)+1;omega
  .show(0:Int)=(k:Int)+1↔(0:Int)=2;omega
 |ask h1 h0=>
  refine .inr ?_;have d6:x.phase≠3:=by omega
  have aJ:Wbq f.clock ({x with phase:=2}:Kd)=Wbq f.clock x:=Wk5 (x:=x) (y:={x with phase:=2}) d6 (by show(2:Int)≠3;omega) rfl _;have hp:=hK.pos;have hch:Wba ({x with phase:=2}:Kd)=25-x.pos:=rfl;have zy:=c4 (.inr h1);have jo:Wa2 ({x with phase:=2}:Kd)=0:=rfl;obtain⟨d1,d2,d3⟩:=WfG (q:=({f with owner:=(k:Int)+1},{x with phase:=2})) hk rfl rfl (by rw[hx];rw[Wcc d6];rfl) (by rw[hx];show WK f.clock ({x with phase:=2}:Kd)<=_;unfold WK;rw[aJ,hch];omega) (λ_=>by rw[hx];show Wa2 ({x with phase:=2}:Kd)+75*Wbq f.clock ({x with phase:=2}:Kd)<=_;rw[aJ,jo];omega);refine⟨d1,λh=>by omega,λh=>by omega,λ_ _=>?_,.inr (.inr ⟨rfl,h1,h0⟩),rfl,Wfy hk hT rfl rfl rfl (λj hj=>?_) ⟨ht.pb,?_,ht.seen⟩⟩
  .rw[d3,hx];show fQ f-WK f.clock x+WK f.clock ({x with phase:=2}:Kd)<fQ f;unfold WK;rw[aJ,hch];omega
  .show(k:Int)+1=(j:Int)+1↔f.owner=(j:Int)+1;omega
  .show(k:Int)+1=(k:Int)+1↔(2:Int)=2;simp
 |wait h1 h0=>
  refine .inr ?_;have d6:x.phase≠3:=by omega
  obtain⟨d1,d2,d3⟩:=WfG (q:=(f,x)) hk rfl rfl (by rw[hx]) (by rw[hx];exact Xv _) (λ_=>by rw[hx];exact Xv _);exact⟨d1,λh=>by omega,λh=>by omega,λ_ h=>absurd h h0,.inl rfl,rfl,Wfy hk hT rfl rfl rfl (λ_ _=>Iff.rfl) ht⟩
 |done qy=>
  refine .inr ?_;obtain⟨d1,d2,d3⟩:=WfG (q:=(f,x)) hk rfl rfl (by rw[hx]) (by rw[hx];exact Xv _) (λ_=>by rw[hx];exact Xv _);exact⟨d1,λh=>by omega,λh=>by omega,λh=>by omega,.inl rfl,rfl,Wfy hk hT rfl rfl rfl (λ_ _=>Iff.rfl) ht⟩
 |look h2 hlt=>
  refine .inr ?_;have d6:x.phase≠3:=by omega
  have aJ:Wbq f.clock ({x with pos:=x.pos+1}:Kd)=Wbq f.clock x:=Wk5 d6 d6 rfl _;have hch:Wba ({x with pos:=x.pos+1}:Kd)=Wba x-1:=by
   unfold Wba;show(if x.phase=3 then 0 else if x.phase=2 then 25-(x.pos+1)else 26)=_;rw[if_neg d6,if_neg d6,if_pos h2,if_pos h2];omega
  have jo:Wa2 ({x with pos:=x.pos+1}:Kd)=Wa2 x:=rfl;obtain⟨d1,d2,d3⟩:=WfG (q:=(f,{x with pos:=x.pos+1})) hk rfl rfl (by rw[hx];rfl) (by rw[hx];show WK f.clock ({x with pos:=x.pos+1}:Kd)<=_;unfold WK;rw[aJ,hch];omega) (λ_=>by rw[hx];show Wa2 ({x with pos:=x.pos+1}:Kd)+75*Wbq f.clock ({x with pos:=x.pos+1}:Kd)<=_;rw[aJ,jo];omega);refine⟨d1,λh=>by omega,λ_=>?_,λh=>by omega,.inl rfl,rfl,Wfy hk hT rfl rfl rfl (λ_ _=>Iff.rfl) ⟨ht.pb,ht.own,ht.seen⟩⟩;rw[d3,hx];show fQ f-WK f.clock x+WK f.clock ({x with pos:=x.pos+1}:Kd)<fQ f;unfold WK;rw[aJ,hch];omega
 |merge h2=>
  refine .inr ?_;have d6:x.phase≠3:=by omega
  have c:=c3 h2;obtain⟨z,hz⟩:∃z,z=(Wdb f x k).2:=⟨_,rfl⟩;have z3:z.phase=3:=by rw[hz];rfl
  have tC:Wax z=0:=by unfold Wax;rw[if_pos z3]
  have th:Wax x=1:=Wcc d6;have e1:(Fm.put (Wdb f x k) k).kids=f.kids.set k z:=by rw[hz];rfl
  have e2:(Fm.put (Wdb f x k) k).clock=f.clock+1:=rfl;have e3:Wff (Fm.put (Wdb f x k) k)=Wff f-1:=by unfold Wff;rw[e1,WbK hk,hx,tC,th];omega
  have hs0:WK (f.clock+1) z=0:=by unfold WK Wba Wbq;rw[if_pos z3,if_neg (by omega)];rfl
  have zA:=WkS f;have vK:=WkS (Fm.put (Wdb f x k) k);rw[e3]at vK;have e4:fQ (Fm.put (Wdb f x k) k)<fQ f:=by
   unfold fQ;rw[e1,e2,e3,WbK hk,hs0,hx];have zB:=Wpo (c:=f.clock) (l:=f.kids);have h1:=Wpo (c:=f.clock) (l:=f.kids.set k z);rw[WbK hk,WbK hk,WbK hk,hx,hs0,tC,th]at h1;have pz:WK f.clock z=0:=by unfold WK Wba Wbq;rw[if_pos z3,if_neg (by omega)];rfl
   rw[pz]at h1;have mT:=Wuj (u:=Wff f) (by omega);have sH:1<=WK f.clock x:=by unfold WK;omega
   have jU:WcX Wax f.kids=Wff f:=rfl;rw[jU]at h1;omega
  refine⟨⟨Int.le_of_lt e4,λj h h' hj=>?_⟩,λh=>by omega,λ_=>e4,λh=>by omega,.inr (.inl rfl),rfl,λj h=>?_⟩
  .have hg:=WgH (q:=Wdb f x k) hk rfl h h';rw[hg]at hj⊢;by_cases he:k=j
   .rw[if_pos he,←hz,tC]at hj;omega
   .rw[if_neg he]at hj⊢;refine⟨?_,hj⟩;unfold fP;rw[e2,e3];have a:=Wcf (f.clock+1) f.kids[j];have b:=Wcf f.clock f.kids[j];have:=Wpz f.kids[j];omega
  .have hj:j<f.kids.length:=by rw[WkR (q:=Wdb f x k) rfl]at h;exact h
   rw[WgH (q:=Wdb f x k) hk rfl hj h];have pB:=ht.own.2 h2;by_cases he:k=j
   .subst he;rw[if_pos rfl];refine⟨ht.pb,?_,λhs=>?_⟩
    .show(0:Int)=(k:Int)+1↔(3:Int)=2;omega
    .have:=hK.since;change x.since=f.clock+1 at hs;omega
   .rw[if_neg he];have xG:=hT j hj;refine⟨xG.pb,?_,λhs=>?_⟩
    .show(0:Int)=(j:Int)+1↔_;rw[←xG.own];omega
    .have:=(hF.kid j hj).since;change f.kids[j].since=f.clock+1 at hs;omega
end
section
def WbV(m:Mm)(codes:List (List Opn)):Nat->Nat->Fm->Fm
 |0,_,f=>f
 |d+1,i,f=>WbV m codes d (i+1) (Wcy m f i (codes.getD i []))
structure FmR(f:Fm)(i:Nat)(g:Fm):Prop where
 len:g.kids.length=f.kids.length
 le:fQ g<=fQ f
 kt:∀(j:Nat) (h:j<g.kids.length),KT g j g.kids[j]
 p:∀(j:Nat) (h:j<f.kids.length) (h':j<g.kids.length),Wax g.kids[j]=1->Wax f.kids[j]=1/\fP g g.kids[j]<=fP f f.kids[j]/\
  (i<=j->fP g g.kids[j]+fQ g<fP f f.kids[j]+fQ f\/(f.kids[j].phase=1/\∃k:Nat,k<i/\f.owner=(k:Int)+1))
 chk:∀(k:Nat) (h:k<f.kids.length),i<=k->f.kids[k].phase=2->fQ g<fQ f
variable{codes:List (List Opn)}{n:Int}{f g:Fm}{m:Mm}{k:Nat}
theorem WgK{code:List Opn}(h:f.lost=true):Wcy m f k code=f:=by unfold Wcy;rw[if_pos h]
theorem WdL:∀(d i:Nat) (f:Fm),f.lost=true->WbV m codes d i f=f
 |0,_,_,_=>rfl
 |d+1,i,f,h=>by rw[WbV,WgK h];exact WdL d (i+1) f h
theorem Ws6(hm:W0 m=true)(bb:∀c∈codes,KC c)(h3:codes.length<=3):∀(d i:Nat) (n:Int) (f:Fm),i+d=codes.length->FOk codes n f->(∀(j:Nat) (h:j<f.kids.length),KT f j f.kids[j])->
  (WbV m codes d i f).lost=true\/FmR f i (WbV m codes d i f)
 |0,i,n,f,hi,hF,hT=>.inr ⟨rfl,Xv _,hT,λj h h' hj=>⟨hj,Xv _,λhij=>by have:=hF.len;simp only[WbV]at h';omega⟩,λk h kI=>by have:=hF.len;omega⟩
 |d+1,i,n,f,hi,hF,hT=>by
  have hlen:=hF.len;have hk:i<f.kids.length:=by omega
  have sI:i<codes.length:=by omega
  by_cases bu:f.lost=true
  .exact .inl (by rw[WdL _ _ _ bu];exact bu)
  rw[WbV];have aI:codes.getD i []=codes[i]:=Wf sI _;have hKC:=bb _ (Xw sI);have hKO:=hF.kid i hk;rw[aI]at hKO;have ho:=WrI (m:=m) hKC hF hKO (hT i hk);obtain hE:=Wwx hk (by omega) (λc hc=>(bb c hc).toCC.len) hF hT rfl ho;have aJ:Wcy m f i (codes.getD i [])=Fm.put (Wea m f f.kids[i] i codes[i]) i:=by
   unfold Wcy;rw[if_neg bu,aI,show f.kids.getD i {}=f.kids[i]from Wf hk _]
  have hF1:FOk codes (n+1) (Wcy m f i (codes.getD i [])):=by
   rw[aI];exact Wln hk hm hKC hF aI
  rw[aJ]at hF1⊢;rcases hE with hE|hE
  .left;have:(Fm.put (Wea m f f.kids[i] i codes[i]) i).lost=true:=hE;rw[WdL _ _ _ this];exact this
  generalize Wea m f f.kids[i] i codes[i]=q at*;have aU:(Fm.put q i).kids.length=f.kids.length:=WkR hE.kids;have cJ:=λ(j:Nat) (hj:j<f.kids.length)=>WgH (q:=q) hk hE.kids hj (by rw[aU];exact hj);have sX:(Fm.put q i).owner=q.1.owner:=rfl;rcases Ws6 hm bb h3 d (i+1) (n+1) (Fm.put q i) (by omega) hF1 hE.kt with hI|hI
  .exact .inl hI
  right;refine⟨hI.len.trans aU,Xef hI.le hE.d.le,hI.kt,λj h h' hj=>?_,λk h kI h2=>?_⟩
  .have xH:j<(Fm.put q i).kids.length:=by rw[aU];exact h
   obtain⟨a1,a2,a3⟩:=hI.p j xH h' hj;obtain⟨b1,b2⟩:=hE.d.p j h xH a1;refine⟨b2,Xef a2 b1,λhij=>?_⟩;have hle:=hI.le;have qL:=hE.d.le;by_cases he:i=j
   .subst he;have hg:=cJ i h;rw[if_pos rfl]at hg;rw[hg]at a1 a2 b1;have aY:=hKO.phase;have d6:f.kids[i].phase≠3:=λh3=>by unfold Wax at b2;rw[if_pos h3]at b2;omega
    by_cases p0:f.kids[i].phase=0
    .have:=hE.s0 p0 a1;left;omega
    by_cases p2:f.kids[i].phase=2
    .have:=hE.s2 p2;left;omega
    have p1:f.kids[i].phase=1:=by omega
    by_cases o0:f.owner=0
    .have:=hE.s1 p1 o0;left;omega
    have pB:=hF.owner;obtain⟨k,fR⟩:∃k:Nat,f.owner=(k:Int)+1:=⟨(f.owner-1).toNat,by omega⟩;by_cases jk:k<i
    .exact .inr ⟨p1,k,jk,fR⟩
    have jo:k<f.kids.length:=by omega
    have nk:=(hT k jo).own.1 fR;have hne:k≠i:=λe=>by subst e;omega
    have tm:=cJ k jo;rw[if_neg (λe=>hne e.symm)]at tm;have:=hI.chk k (by rw[aU];exact jo) (by omega) (by rw[tm];exact nk);left;omega
   .have hg:=cJ j h;rw[if_neg he]at hg;rcases a3 (by omega)with hlt|⟨p1,k,kP,fR⟩
    .left;omega
    .rw[hg]at p1;rw[sX]at fR;rcases hE.own with h0|h0|⟨h0,p,o⟩
     .rw[h0]at fR;by_cases jk:k<i
      .exact .inr ⟨p1,k,jk,fR⟩
      .have:k=i:=by omega
       subst this;have:=hE.s2 ((hT k hk).own.1 fR);left;omega
     .omega
     .have:=hE.s1 p o;left;omega
  .by_cases he:i=k
   .subst he;exact Xcx hI.le (hE.s2 h2)
   .have hg:=cJ k h;rw[if_neg he]at hg;exact Int.lt_of_lt_of_le (hI.chk k (by rw[aU];exact h) (by omega) (by rw[hg];exact h2)) hE.d.le
end
section
def W5(c:Cm):Int:=
 if c.phase=1 then 3*c.puts.length-c.pos+1+c.reads.length else
 if c.phase=2 then 1+c.reads.length+2*c.puts.length else
 if c.phase=3 then c.reads.length-c.pos+2*c.puts.length else
 if c.phase=4 then 2*c.puts.length-c.pos else
 if c.phase=5 then c.puts.length-c.pos else
 if c.phase=7 then c.pos+1 else 0
section
variable{c:Cm}{m:Mm}{n ph:Int}
theorem Wgp(h:CmOk c):0<=W5 c/\W5 c<=33/\(c.phase≠6->c.phase≠8->1<=W5 c):=by
 have hp:=h.phase;have h1:=h.plen;have h2:=h.rlen;have h3:=h.pos;unfold Cm.steps at h3;unfold W5;have:c.phase=1\/c.phase=2\/c.phase=3\/c.phase=4\/c.phase=5\/c.phase=6\/c.phase=7\/c.phase=8:=by omega
 rcases this with h|h|h|h|h|h|h|h<;>(rw[h]at h3⊢;simp at h3⊢;try omega)
theorem Wb1(h:0<=n):W5 (Wal c n)=n:=by
 unfold Wal;split
 .rename_i h0;rw[h0];rfl
 .show(if(7:Int)=1 then _ else if(7:Int)=2 then _ else if(7:Int)=3 then _ else if(7:Int)=4 then _ else if(7:Int)=5 then _ else if(7:Int)=7 then n-1+1 else 0)=n;simp
theorem WjH(h:ph=2\/ph=3\/ph=4\/ph=5\/ph=6):W5 (Wdy c ph)<=if ph=2 then 1+c.reads.length+2*c.puts.length else if ph=3 then c.reads.length+2*c.puts.length else if ph=4 then 2*c.puts.length else if ph=5 then c.puts.length else 0:=by
 obtain⟨a,ha⟩:∃a,Wbc c ph=a:=⟨_,rfl⟩;have:a=ph\/a=6\/(ph=3/\a=4):=by
  unfold Wbc at ha;split at ha
  .omega
  .split at ha<;>omega
 have e:W5 (Wdy c ph)=W5 {c with phase:=a,pos:=0}:=by unfold Wdy;rw[ha]
 rw[e];unfold W5;simp only;rcases h with rfl|rfl|rfl|rfl|rfl<;>rcases this with rfl|rfl|⟨_,rfl⟩<;>simp<;>omega
theorem WdH(h:CmOk c)(hp:c.phase=1/\ph=2\/c.phase=3/\ph=4\/c.phase=4/\ph=5\/c.phase=5/\ph=6):W5 (WP c ph)<W5 c:=by
 have h3:=h.pos;have hb:=WjH (c:=c) (ph:=ph) (by omega);unfold Cm.steps at h3;unfold WP;split
 .rename_i hs;refine Xcx hb ?_;unfold Cm.steps at hs;unfold W5;rcases hp with⟨a,rfl⟩|⟨a,rfl⟩|⟨a,rfl⟩|⟨a,rfl⟩<;>(rw[a]at h3 hs⊢;simp at h3 hs⊢;omega)
 .unfold W5;simp only;rcases hp with⟨a,rfl⟩|⟨a,rfl⟩|⟨a,rfl⟩|⟨a,rfl⟩<;>(rw[a];simp;omega)
theorem WnH(h:CmOk c)(h6:c.phase≠6)(h8:c.phase≠8):W5 (WC m c).2<W5 c:=by
 have hp:=h.phase;have h1:=h.plen;have h2:=h.rlen;have h3:=h.pos;unfold Cm.steps at h3;unfold WC;simp only;by_cases p1:c.phase=1
 .rw[if_pos p1];split
  .exact WdH h (.inl ⟨p1,rfl⟩)
  .show W5 (Wal c c.pos)<_;rw[Wb1 h3.1];unfold W5;rw[p1]at h3⊢;simp at h3⊢;omega
 rw[if_neg p1];by_cases p2:c.phase=2
 .rw[if_pos p2];split
  .show W5 (Wal c c.puts.length)<_;rw[Wb1 (by omega)];unfold W5;rw[p2]at h3⊢;simp at h3⊢;omega
  .refine Xcx (WjH (c:={c with wv:=(tick m).2}) (.inr (.inl rfl))) ?_;unfold W5;rw[p2]at h3⊢;simp at h3⊢;omega
 rw[if_neg p2];by_cases p3:c.phase=3
 .rw[if_pos p3];split
  .show W5 (Wal c c.puts.length)<_;rw[Wb1 (by omega)];unfold W5;rw[p3]at h3⊢;simp at h3⊢;omega
  .exact WdH h (.inr (.inl ⟨p3,rfl⟩))
 rw[if_neg p3];by_cases p4:c.phase=4
 .rw[if_pos p4];exact WdH h (.inr (.inr (.inl ⟨p4,rfl⟩)))
 rw[if_neg p4];by_cases p5:c.phase=5
 .rw[if_pos p5];exact WdH h (.inr (.inr (.inr ⟨p5,rfl⟩)))
 rw[if_neg p5,if_pos (show c.phase=7 by omega)];show W5 (Wal c c.pos)<_;rw[Wb1 h3.1];unfold W5;rw[show c.phase=7 by omega];simp;omega
theorem WmW(h:CmOk c):W5 (War c)<=W5 c/\(c.phase<=3->W5 (War c)<W5 c):=by
 have hp:=h.phase;have h3:=h.pos;unfold Cm.steps at h3;unfold War;by_cases p1:c.phase=1
 .rw[if_pos p1,Wb1 h3.1];unfold W5;rw[p1]at h3⊢;simp at h3⊢;omega
 rw[if_neg p1];split
 .rename_i vC;rw[Wb1 (by omega)];rcases vC with p|p<;>(unfold W5;rw[p]at h3⊢;simp at h3⊢;omega)
 .exact⟨Xv _,λh=>by omega⟩
end
end
section
def Ws5(f:Fm):List Kd->Int
 | []=>0
 |x::l=>if Wax x=1/\Ws5 f l<=fP f x+fQ f then fP f x+fQ f else Ws5 f l
def WlI(f:Fm):Int:=Ws5 f f.kids
theorem Wo2(f:Fm):∀(l:List Kd),0<=Ws5 f l
 | []=>Xv _
 |x::l=>by have:=Wo2 f l;rw[Ws5];split<;>omega
theorem WkX{f:Fm}{b:Int}:∀{l:List Kd},0<=b->(∀x∈l,Wax x=1->fP f x+fQ f<=b)->Ws5 f l<=b
 | [],h,_=>h
 |x::l,h,hl=>by
  have ih:=WkX (f:=f) h λy hy=>hl y (Xf _ hy);rw[Ws5];split
  .rename_i hc;exact hl x (Xi ..) hc.1
  .exact ih
theorem Wn7{f:Fm}:∀{l:List Kd},∀x∈l,Wax x=1->fP f x+fQ f<=Ws5 f l
 | [],x,h,_=>by cases h
 |y::l,x,h,hu=>by
  rw[Ws5];rcases List.mem_cons.1 h with rfl|h
  .split
   .exact Xv _
   .rename_i hc;by_cases h':Ws5 f l<=fP f x+fQ f
    .exact absurd ⟨hu,h'⟩ hc
    .omega
  .have:=Wn7 (f:=f) x h hu;split<;>omega
variable{codes:List (List Opn)}{n:Int}{f g:Fm}{m:Mm}
theorem Wxd(hF:FOk codes n f)(hl:∀c∈codes,c.length<=24):0<=fQ f:=by
 have h1:WcX (λ_=>0) f.kids<=WcX (WK f.clock) f.kids:=by
  refine WiU λx hx=>?_;obtain⟨k,hk,rfl⟩:=Xas hx;have bb:k<codes.length:=by rw[←hF.len];exact hk
  have hK:=hF.kid k hk;rw[Wf bb]at hK;have a:=(Wef hK (hl _ (Xw bb))).1;have b:=Wcf f.clock f.kids[k];unfold WK;omega
 have h2:∀l:List Kd,WcX (λ_=>0) l=0:=λl=>by induction l with
  |nil=>rfl
  |cons x l ih=>simp only[WcX,Xai,Xce]at*;omega
 rw[h2]at h1;have h3:0<=tri (Wff f):=by
  unfold tri;split
  .omega
  .split<;>omega
 unfold fQ;omega
theorem Wxf(hF:FOk codes n f)(hl:∀c∈codes,c.length<=24)(hT:∀(j:Nat) (h:j<f.kids.length),KT f j f.kids[j]){k:Nat}(hk:k<f.kids.length)(hu:Wax f.kids[k]=1):1<=fP f f.kids[k]+fQ f:=by
 have hq:=Wxd hF hl;have bb:k<codes.length:=by rw[←hF.len];exact hk
 have hK:=hF.kid k hk;rw[Wf bb]at hK;have hlen:=hl _ (Xw bb);obtain⟨l1,l2,l3⟩:=WkB hK hlen (hT k hk).pb;have b:=Wcf f.clock f.kids[k];have eP:1<=Wff f:=by
  unfold Wff;have:=WbK (g:=Wax) (y:=f.kids[k]) hk;have h0:0<=WcX Wax (f.kids.set k {phase:=3}):=(WkS {f with kids:=f.kids.set k {phase:=3}}).1;rw[WbK hk,hu]at h0;have:Wax ({phase:=3}:Kd)=0:=rfl;omega
 by_cases p0:f.kids[k].phase=0
 .have:=l3 p0;unfold fP;omega
 .
  obtain⟨c1,c2,c3,c4⟩:=Wef hK hlen;have aY:=hK.phase;have d6:f.kids[k].phase≠3:=λh3=>by unfold Wax at hu;rw[if_pos h3]at hu;omega
  have hc:1<=Wba f.kids[k]:=by
   by_cases p2:f.kids[k].phase=2
   .exact(c3 p2).1
   .have:=c4 (.inr (by omega));omega
  have hs:WK f.clock f.kids[k]<=WcX (WK f.clock) f.kids:=by
   have h0:WcX (λ_=>0) (f.kids.set k {phase:=3})<=WcX (WK f.clock) (f.kids.set k {phase:=3}):=by
    refine WiU λx hx=>?_;rcases List.mem_or_eq_of_mem_set hx with hx|rfl
    .obtain⟨j,hj,rfl⟩:=Xas hx;have xI:j<codes.length:=by rw[←hF.len];exact hj
     have hK:=hF.kid j hj;rw[Wf xI]at hK;have a:=(Wef hK (hl _ (Xw xI))).1;have b:=Wcf f.clock f.kids[j];unfold WK;omega
    .unfold WK Wba Wbq;simp
   have hz:∀l:List Kd,WcX (λ_=>0) l=0:=λl=>by induction l with
    |nil=>rfl
    |cons x l ih=>simp only[WcX,Xai,Xce]at*;omega
   rw[hz,WbK hk]at h0;have:WK f.clock ({phase:=3}:Kd)=0:=by unfold WK Wba Wbq;simp
   omega
  have h3:0<=tri (Wff f):=by
   unfold tri;split
   .omega
   .split<;>omega
  unfold fP fQ;unfold WK at hs;unfold WK;omega
end
section
theorem WtA{l:List Opn}{j e:Nat}(hc:CC l)(hm:Mate l j e)(h8:∃h:j<l.length,l[j].1=8):∀i,j<i->i<=e->dep l j<dep l i/\frk l i=frk l (j+1):=λi lF v6=>by
 obtain⟨hj,h8⟩:=h8;have hlen:=hm.len;have key:∀d,j+1+d<=e->dep l j<dep l (j+1+d)/\frk l (j+1+d)=frk l (j+1):=λd=>by
  induction d with
  |zero=>intro _;rw[Xaz,WaE hj,WtU h8];exact⟨by omega,rfl⟩
  |succ d ih=>
   intro hd;obtain⟨i1,i2⟩:=ih (by omega);have hlt:j+1+d<l.length:=by omega
   have hb:=WhD l[j+1+d];have fU:=WaE hlt;have hne:=hm.ne (j+1+d) (by omega) (by omega);refine⟨by rw[show j+1+(d+1)=j+1+d+1 by omega];omega,?_⟩;rw[show j+1+(d+1)=j+1+d+1 by omega,WdP hlt,i2];have:¬l[j+1+d].1=11:=λc7=>by
    have h0:=(hc.fk _ hlt c7).1;have:=hc.up.at (j:=j) (by omega);omega
   rw[show(l[j+1+d].1==11)=false by simpa using this];rfl
 have:=key (i-(j+1)) (by omega);rw[show j+1+(i-(j+1))=i by omega]at this;exact this
def Wrk(x:Rt):Int:=if x.busy=true then x.pb.2.1 else 0
def Wd9(p:Pg)(pc:Int):Int:=382*(1-frk p.1 pc.toNat)
def WaV(x:Rt):Int:=x.undos.length+146*(2-x.spare)+36
def Wi(p:Pg)(x:Rt):Int:=
 if x.phase=1 then 75-3*x.pc-Wrk x+Wd9 p x.pc+WaV x else
 if x.phase=2 then(if x.fam.lost=true then x.undos.length+3 else 73-3*x.pc+WlI x.fam+WaV x)else
 if x.phase=3 then x.last.2.1+74-3*x.last.1+Wd9 p x.pc+WaV x else
 if x.phase=4 then x.last.2.1-x.pos+73-3*x.last.1+Wd9 p x.pc+WaV x else
 if x.phase=5 then W5 x.cm+x.undos.length+3 else
 if x.phase=6 then x.undos.length+2 else
 if x.phase=7 then 1 else 0
structure RT(x:Rt):Prop where
 pb:x.busy=true->x.pb.2.1=1\/x.pb.2.1=2
 fam:x.phase=2->x.fam.lost=true\/∀(j:Nat) (h:j<x.fam.kids.length),KT x.fam j x.fam.kids[j]
 cm:x.phase=5->x.cm.phase≠6/\x.cm.phase≠8
variable{w:Wo}{x y:Rt}{k:Nat}{p:Pg}{n:Int}{o:Opn}
theorem WfD(h:RT x):0<=Wrk x/\Wrk x<=2:=by
 unfold Wrk;split
 .have:=h.pb ‹_›;omega
 .omega
theorem WlO{a b:Int}(h:a<=b):Wd9 p b<=Wd9 p a:=by
 have:=WhZ p.1 (show a.toNat<=b.toNat by omega);unfold Wd9;omega
theorem WsE(hc:CC p.1){a:Int}(h:a<=p.1.length):0<=Wd9 p a:=by
 have:=WfT hc a.toNat (by omega);unfold Wd9;omega
theorem Wcb(h:x.phase=1):Wi p x=75-3*x.pc-Wrk x+Wd9 p x.pc+WaV x:=by unfold Wi;rw[if_pos h]
theorem WnQ(h:x.phase=6):Wi p x=x.undos.length+2:=by unfold Wi;rw[h];simp
theorem WeU:Wi p (Wdi x)=x.undos.length+2:=WnQ rfl
theorem WhP(h1:x.phase=1)(hy:y.phase=1)(aQ:x.pc+1<=y.pc)(hb:y.busy=x.busy)(hp:y.pb=x.pb)(hs:y.spare=x.spare)(hu:(y.undos.length:Int)<=x.undos.length+1):Wi p y<Wi p x:=by
 rw[Wcb h1,Wcb hy];have:=WlO (p:=p) (show x.pc<=y.pc by omega);unfold Wrk WaV;rw[hb,hp,hs];omega
end
section
variable{w:Wo}{x y:Rt}{k:Nat}{p:Pg}{n:Int}{o:Opn}
theorem Wej(aD:CC p.1)(hl:RLive p n x)(ht:RT x)(h1:x.phase=1):(x.undos.length:Int)+37+146*(2-x.spare)<=Wi p x:=by
 rw[Wcb h1];have hp:=WfD ht;have aQ:=hl.pc;have hlen:=aD.len;have:=WsE aD aQ.2;unfold WaV;omega
theorem Wit(aD:CC p.1)(hl:RLive p n x)(ht:RT x)(h1:x.phase=1){out:Int}(kR:0<=x.rv/\x.rv<=1000000)(hk:k<=8):Wi p (Waz w x k out).2<Wi p x:=by
 have pC:=Wej aD hl ht h1;have hs:=hl.spare;unfold Waz;simp only;generalize (if out=2 then []else x.writes)=rows;split
 .show Wi p (Wkf w {x with fate:=out,stamp:=x.rv} k).2<_;have:Wi p (Wkf w {x with fate:=out,stamp:=x.rv} k).2=0:=rfl;omega
 .have hc:CmOk (Wbb ((k:Int)+1) x.rv rows x.reads):=WlD (by omega) kR;have:=(Wgp hc).2.1;have e:Wi p ({x with fate:=out,cm:=Wbb ((k:Int)+1) x.rv rows x.reads,phase:=5}:Rt)=W5 (Wbb ((k:Int)+1) x.rv rows x.reads)+x.undos.length+3:=rfl;show Wi p ({x with fate:=out,cm:=Wbb ((k:Int)+1) x.rv rows x.reads,phase:=5}:Rt)<_;rw[e];omega
theorem Wki(aD:CC p.1)(hl:RLive p n x)(hz:x.marks.length≠0):0<=x.last.1/\x.last.1<x.pc/\0<=x.last.2.1/\x.last.2.1<=x.last.1+72/\Wd9 p (x.last.1+1)=Wd9 p x.pc:=by
 have hM:=hl.marks;have aQ:=hl.pc;obtain⟨j,q,y,e1,e2,e3,h8,pt,cL,fM,e5,e6⟩:=WhB (d:=zRM) aD (show x.pc.toNat<=p.1.length by omega) hM.pcs hz;have e4:x.last=y:=e2;have hy:=(hM.each y (by rw[e1];simp)).2.1;have hf:=(WtA aD cL h8 x.pc.toNat pt fM).2;have hfj:=WfT aD j (by omega);rw[e4];rw[e3]at hy⊢;rw[Xj]at hy;refine⟨by omega,by omega,hy.1,by omega,?_⟩;unfold Wd9;rw[hf,show((j:Int)+1).toNat=j+1 by omega]
theorem Wfn(aD:CC p.1)(hl:RLive p n x)(ht:RT x)(h1:x.phase=1){b:Bool}{q:Pb}:Wi p (WE {x with busy:=b,pb:=q})<Wi p x:=by
 have pC:=Wej aD hl ht h1;have hs:=hl.spare;unfold WE;split
 .have e:Wi p (Wdi ({x with busy:=b,pb:=q}:Rt))=x.undos.length+2:=rfl;rw[e];omega
 .rename_i hc;have hz:x.marks.length≠0:=λh=>hc (.inl h);obtain⟨m1,m2,m3,m4,m5⟩:=Wki aD hl hz;have hp:=WfD ht;have aQ:=hl.pc;have hlen:=aD.len;rw[Wcb h1];have e:Wi p ({x with busy:=false,pb:=(0,0,0,0),spare:=x.spare+1,phase:=3}:Rt)=x.last.2.1+74-3*x.last.1+Wd9 p x.pc+(x.undos.length+146*(2-(x.spare+1))+36):=rfl;show Wi p ({x with busy:=false,pb:=(0,0,0,0),spare:=x.spare+1,phase:=3}:Rt)<_;rw[e];unfold WaV;omega
theorem WpE(aD:CC p.1)(hl:RLive p n x)(ht:RT x)(h1:x.phase=1):Wi p (Wc0 w x o)<Wi p x:=by
 have hp:=WfD ht;unfold Wc0;cases Wbf x.writes o.2.2.1 with
 |some v=>exact WhP h1 h1 (Xv _) rfl rfl rfl (by show(x.undos.length:Int)<=_;omega)
 |none=>
  simp only;have hq:0<=(if x.busy=true then x.pb else(o.2.2.1,0,0,0)).2.1/\(if x.busy=true then x.pb else(o.2.2.1,0,0,0)).2.1<=2:=by
   split
   .have:=ht.pb ‹_›;omega
   .simp
  have fM:(if x.busy=true then x.pb else(o.2.2.1,0,0,0)).2.1=Wrk x:=by unfold Wrk;split<;>rfl
  have hs:=WnD (m:=w.mem) (rv:=x.rv) hq;rw[fM]at hs;generalize WZ w.mem x.rv (if x.busy=true then x.pb else(o.2.2.1,0,0,0))=q at*;split
  .exact Wfn aD hl ht h1
  .have hf:=WlO (p:=p) (show x.pc<=x.pc+1 by omega);split
   .rw[Wcb h1];refine Xcx (Xfz (Wcb h1)) ?_;show 75-3*(x.pc+1) -0+Wd9 p (x.pc+1)+WaV x<_;omega
   .rw[Wcb h1];refine Xcx (Xfz (Wcb h1)) ?_;show 75-3*x.pc-q.2.1+Wd9 p x.pc+WaV x<_;omega
theorem Wst{α:Type}(l:List α)(h:l.length≠0):(l.dropLast.length:Int)=l.length-1:=by rw[List.length_dropLast];omega
theorem WgQ(h:x.phase=1\/x.phase=3\/x.phase=6)(hz:x.undos.length≠0):Wi p (WdR w x).2<Wi p x:=by
 have hd:=Wst x.undos hz;have e:Wi p (WdR w x).2=Wi p x-1:=by
  unfold WdR Wi WaV;simp only;rw[hd];rcases h with h|h|h
  .rw[if_pos h,if_pos h];show 75-3*x.pc-Wrk x+Wd9 p x.pc+_=_;omega
  .rw[if_neg (by omega),if_neg (by omega),if_pos h,if_neg (by omega),if_neg (by omega),if_pos h];show x.last.2.1+74-3*x.last.1+Wd9 p x.pc+_=_;omega
  .rw[h];simp;omega
 omega
theorem Wol(aD:CC p.1)(hl:RLive p n x)(ht:RT x)(h1:x.phase=1)(hk:k<=8):Wi p (WbW w x k p.1).2<Wi p x:=by
 unfold WbW;split
 .exact Wit aD hl ht h1 hl.rv hk
 .rename_i hz;split
  .have hM:=hl.marks;have cG:0<=x.last.2.2.2.1:=by
    have hm:x.last∈x.marks:=Wgf hz _;exact(hM.each _ hm).2.2.2.1
   exact WgQ (.inl h1) (by omega)
  .have hM:=hl.marks;have aQ:=hl.pc;obtain⟨j,q,y,e1,e2,e3,h8,pt,cL,fM,e5,e6⟩:=WhB (d:=zRM) aD (show x.pc.toNat<=p.1.length by omega) hM.pcs hz;have e4:x.last=y:=e2;refine WhP h1 h1 ?_ rfl rfl rfl (by show(x.undos.length:Int)<=_;omega);show x.pc+1<=(WiI p.1 x.last.1.toNat:Int)+1;rw[e4,e3,Xj];omega
theorem Woa(aD:CC p.1)(hl:RLive p n x)(ht:RT x)(h1:x.phase=1):Wi p (WbR w x k o).2<Wi p x:=by
 unfold WbR;cases WaS w.holds ((k:Int)+1) (WaH o).1 (WaH o).2 with
 |none=>
  have:=Wfn aD hl ht h1 (b:=x.busy) (q:=x.pb);exact this
 |some hs=>
  refine WhP h1 h1 (Xv _) rfl rfl rfl ?_;show((if(Wbe w.shelf o x.regs).2.2.1=0 then x.undos else x.undos++ [(Wbe w.shelf o x.regs).2.2]).length:Int)<=_;split
  .omega
  .simp
theorem WsM(aD:CC p.1)(h3:p.2.length<=3)(hl:RLive p n x)(ht:RT x)(h1:x.phase=1)(hk:k<=8)(vL:∀regs writes rv,WlI (Waw rv regs writes p.2.length)<=381):Wi p (WgG w x k p).2<Wi p x:=by
 unfold WgG;split
 .exact Wit aD hl ht h1 hl.rv hk
 .obtain⟨i,hi,aQ,ho⟩:=Wfm (l:=p.1) hl.pc.1 (by have:=hl.pc;omega);simp only[ho];have sJ:∀y:Rt,y.phase=1->x.pc+1<=y.pc->y.busy=x.busy->y.pb=x.pb->y.spare=x.spare->y.undos=x.undos->Wi p y<Wi p x:=λy a b c d e f=>WhP h1 a b c d e (by rw[f];omega);split
  .exact WpE aD hl ht h1
  .split
   .exact Wol aD hl ht h1 hk
   .split
    .rename_i c7;rw[Wcb h1];have e:Wi p ({x with phase:=2,fam:=Waw x.rv x.regs x.writes p.2.length}:Rt)=73-3*x.pc+WlI (Waw x.rv x.regs x.writes p.2.length)+WaV x:=rfl;show Wi p ({x with phase:=2,fam:=Waw x.rv x.regs x.writes p.2.length}:Rt)<_;rw[e];have:=vL x.regs x.writes x.rv;have hp:=WfD ht;have hf:=WfT aD (i+1) (by omega);rw[WdP hi,show(p.1[i].1==11)=true by simpa using c7]at hf;have:Wd9 p x.pc=382:=by
      unfold Wd9;rw[aQ,Xj];have:frk p.1 i=0:=by have:Bool.toNat true=1:=rfl;omega
      rw[this];rfl
     omega
    .split
     .exact Woa aD hl ht h1
     .split
      .exact sJ _ h1 (Xv _) rfl rfl rfl rfl
      .split
       .have hk:=Wv2 (aD.ok i hi).1 ‹_›;refine sJ _ h1 ?_ rfl rfl rfl rfl;show x.pc+1<=(if Wce x.regs p.1[i].2.1 0=0 then x.pc+p.1[i].2.2.1 else x.pc)+1;split<;>omega
       .split
        .exact sJ _ h1 (Xv _) rfl rfl rfl rfl
        .split
         .exact sJ _ h1 (Xv _) rfl rfl rfl rfl
         .exact sJ _ h1 (Xv _) rfl rfl rfl rfl
end
section
variable{w:Wo}{x y:Rt}{k:Nat}{p:Pg}{n:Int}{o:Opn}
theorem WkD(g:Kd->Int)(x:Kd):∀u:Nat,WcX g (Xt u x)=u*g x
 |0=>by simp[WcX]
 |u+1=>by
  have:=WkD g x u;simp only[WcX,List.replicate_succ,Xai,Xce]at*;rw[this,Int.natCast_succ,Int.add_mul];omega
theorem WpP{rv:Int}{regs:List Int}{writes:List Rw}{u:Nat}(h:u<=3):WlI (Waw rv regs writes u)<=381:=by
 have hk:(Waw rv regs writes u).kids=Xt u {regs:=regs}:=rfl;have hc:(Waw rv regs writes u).clock=0:=rfl;have h1:Wax ({regs:=regs}:Kd)=1:=rfl;have h2:Wbq 0 ({regs:=regs}:Kd)=0:=rfl;have h3:WK 0 ({regs:=regs}:Kd)=26:=rfl;have h4:Wa2 ({regs:=regs}:Kd)=75:=rfl;have hu:Wff (Waw rv regs writes u)=u:=by unfold Wff;rw[hk,WkD,h1];omega
 have hq:fQ (Waw rv regs writes u)=u*26+26*tri u:=by unfold fQ;rw[hu,hk,hc,WkD,h3]
 refine WkX (by omega) λy hy _=>?_;rw[hk]at hy;obtain⟨tC,rfl⟩:=List.mem_replicate.1 hy;unfold fP;rw[hq,hu,hc,h2,h4];have:u=1\/u=2\/u=3:=by omega
 rcases this with rfl|rfl|rfl<;>decide
theorem Wqz(hl:RLive p n x)(aD:CC p.1)(ht:RT x)(h2:x.phase=2)(hq:x.fam.lost=true\/Wa4 x.fam=true):Wi p (WbT x)<Wi p x:=by
 have hs:=hl.spare;have e:Wi p x=if x.fam.lost=true then(x.undos.length:Int)+3 else 73-3*x.pc+WlI x.fam+WaV x:=by unfold Wi;rw[if_neg (by omega),if_pos h2]
 unfold WbT;split
 .rename_i bu;rw[WeU,e,if_pos bu];omega
 .rename_i bu;rw[if_pos (hq.resolve_left bu),e,if_neg bu];refine Xcx (Xfz (Wcb rfl)) ?_;have hp:=WfD ht;have h0:=Wo2 x.fam x.fam.kids;obtain⟨f1,f2,f3⟩:=hl.fork h2;obtain⟨i,hi,aQ,ho⟩:=Wfm (l:=p.1) hl.pc.1 f1;have hf:=WfT aD (i+1) (by omega);have xJ:=WdP hi;rw[←ho,f2]at xJ;have hz:Wd9 p (x.pc+1)=0:=by
   unfold Wd9;have:frk p.1 (i+1)=1:=by rw[xJ]at hf⊢;have:((11:Int)==11).toNat=1:=rfl;omega
   rw[show(x.pc+1).toNat=i+1 by omega,this];rfl
  show 75-3*(x.pc+1) -Wrk x+Wd9 p (x.pc+1)+WaV x<73-3*x.pc+Ws5 x.fam x.fam.kids+WaV x;rw[hz];omega
theorem Wms(aD:CC p.1)(hl:RLive p n x)(h3:x.phase=3):Wi p (WaT w x).2<Wi p x:=by
 have hz:=hl.back (.inl h3);have hM:=hl.marks;unfold WaT;split
 .have cG:0<=x.last.2.2.2.1:=(hM.each _ (Wgf hz _)).2.2.2.1;exact WgQ (.inr (.inl h3)) (by omega)
 .have e:Wi p x=x.last.2.1+74-3*x.last.1+Wd9 p x.pc+WaV x:=by unfold Wi;rw[if_neg (by omega),if_neg (by omega),if_pos h3]
  have e':Wi p ({x with newRv:=w.mem.1,pos:=0,phase:=4}:Rt)=x.last.2.1-0+73-3*x.last.1+Wd9 p x.pc+WaV x:=rfl;show Wi p ({x with newRv:=w.mem.1,pos:=0,phase:=4}:Rt)<_;rw[e,e'];omega
theorem WmC(aD:CC p.1)(hl:RLive p n x)(ht:RT x)(h4:x.phase=4):Wi p (WaG w x)<Wi p x:=by
 have hz:=hl.back (.inr h4);have hs:=hl.spare;have bN:=hl.pos h4;obtain⟨m1,m2,m3,m4,m5⟩:=Wki aD hl hz;have aQ:=hl.pc;have hlen:=aD.len;have wg:=WsE aD aQ.2;have hp:=WfD ht;have e:Wi p x=x.last.2.1-x.pos+73-3*x.last.1+Wd9 p x.pc+WaV x:=by unfold Wi;rw[if_neg (by omega),if_neg (by omega),if_neg (by omega),if_pos h4]
 unfold WaG;split
 .simp only;split
  .rw[WeU,e];unfold WaV;omega
  .have e':Wi p ({x with pos:=x.pos+1}:Rt)=x.last.2.1-(x.pos+1)+73-3*x.last.1+Wd9 p x.pc+WaV x:=by
    unfold Wi;rw[if_neg (show¬x.phase=1 by omega),if_neg (show¬x.phase=2 by omega),if_neg (show¬x.phase=3 by omega),if_pos h4];rfl
   rw[e,e'];omega
 .rw[e];refine Xcx (Xfz (Wcb rfl)) ?_;show 75-3*(x.last.1+1) -Wrk x+Wd9 p (x.last.1+1)+WaV x<_;rw[m5];omega
theorem Wnc(hc:CmOk x.cm)(h5:x.phase=5)(lj:x.cm.phase≠6/\x.cm.phase≠8)(hdm:x.doomed=true->x.cm.phase<=3):Wi p (Was w x k).2<Wi p x:=by
 have e:Wi p x=W5 x.cm+x.undos.length+3:=by unfold Wi;rw[h5];rfl
 have hb:=(Wgp hc).2.2 lj.1 lj.2;unfold Was;split
 .rename_i hd;simp only;split
  .rw[WeU,e];omega
  .have e':Wi p ({x with cm:=War x.cm,doomed:=false}:Rt)=W5 (War x.cm)+x.undos.length+3:=by
    unfold Wi;show(if x.phase=1 then _ else _)=_;rw[h5];rfl
   rw[e',e];have:=(WmW hc).2 (hdm hd);omega
 .have hs:=WnH (m:=w.mem) hc lj.1 lj.2;show Wi p (WbD {x with cm:=(WC w.mem x.cm).2})<_;generalize (WC w.mem x.cm).2=c at*;unfold WbD;split
  .have e':Wi p (Wdi ({x with cm:=c}:Rt))=x.undos.length+2:=rfl;rw[e',e];omega
  .split
   .rw[e];by_cases h2:x.fate=2
    .have e':Wi p ({x with stamp:=c.wv,cm:={},phase:=if x.fate=2 then 6 else 7}:Rt)=x.undos.length+2:=by rw[if_pos h2];rfl
     show Wi p ({x with stamp:=c.wv,cm:={},phase:=if x.fate=2 then 6 else 7}:Rt)<_;rw[e'];omega
    .have e':Wi p ({x with stamp:=c.wv,cm:={},phase:=if x.fate=2 then 6 else 7}:Rt)=1:=by rw[if_neg h2];rfl
     show Wi p ({x with stamp:=c.wv,cm:={},phase:=if x.fate=2 then 6 else 7}:Rt)<_;rw[e'];omega
   .have e':Wi p ({x with cm:=c}:Rt)=W5 c+x.undos.length+3:=by
     unfold Wi;show(if x.phase=1 then _ else _)=_;rw[h5];rfl
    rw[e',e];omega
end
section
variable{w:Wo}{x y:Rt}{k:Nat}{p:Pg}{n:Int}{o:Opn}
theorem RT.of(h:RT x)(hb:y.busy=x.busy)(hp:y.pb=x.pb)(h2:y.phase≠2)(h5:y.phase≠5):RT y:=
 ⟨λhy=>by rw[hp];exact h.pb (hb▸hy),λhy=>absurd hy h2,λhy=>absurd hy h5⟩
theorem RT.no(hb:y.busy=false)(h2:y.phase≠2)(h5:y.phase≠5):RT y:=
 ⟨(λhy=>by rw[hb]at hy;cases hy),λhy=>absurd hy h2,λhy=>absurd hy h5⟩
theorem We0:RT (Wdi x):=RT.no rfl (by show(6:Int)≠2;omega) (by show(6:Int)≠5;omega)
theorem Whu:RT (WE x):=by
 unfold WE;split
 .exact We0
 .exact RT.no rfl (by show(3:Int)≠2;omega) (by show(3:Int)≠5;omega)
theorem WmF(h:RT x){out:Int}:RT (Waz w x k out).2:=by
 unfold Waz;simp only;generalize (if out=2 then []else x.writes)=rows;split
 .exact h.of rfl rfl (by show(8:Int)≠2;omega) (by show(8:Int)≠5;omega)
 .refine⟨h.pb,λhy=>by(change (5:Int)=2 at hy;omega),λ_=>?_⟩;have e:(Wbb ((k:Int)+1) x.rv rows x.reads).phase=if(WcY rows).length=0 then 2 else 1:=rfl;show(Wbb ((k:Int)+1) x.rv rows x.reads).phase≠6/\(Wbb ((k:Int)+1) x.rv rows x.reads).phase≠8;rw[e];split<;>omega
theorem WtK(h:RT x)(h1:x.phase=1):RT (Wc0 w x o):=by
 have hn:∀y:Rt,y.phase=1->y.phase≠2/\y.phase≠5:=λy hy=>by omega
 unfold Wc0;cases Wbf x.writes o.2.2.1 with
 |some v=>exact h.of rfl rfl (hn _ h1).1 (hn _ h1).2
 |none=>
  simp only;have hq:0<=(if x.busy=true then x.pb else(o.2.2.1,0,0,0)).2.1/\(if x.busy=true then x.pb else(o.2.2.1,0,0,0)).2.1<=2:=by
   split
   .have:=h.pb ‹_›;omega
   .simp
  have hs:=WnD (m:=w.mem) (rv:=x.rv) hq;generalize (if x.busy=true then x.pb else(o.2.2.1,0,0,0))=q0 at*;generalize WZ w.mem x.rv q0=q at*;split
  .exact Whu
  .split
   .exact RT.no rfl (hn _ h1).1 (hn _ h1).2
   .exact⟨λ_=>by show q.2.1=1\/q.2.1=2;omega,λhy=>absurd hy (hn _ h1).1,λhy=>absurd hy (hn _ h1).2⟩
theorem Wso{rv:Int}{regs:List Int}{writes:List Rw}{u:Nat}(j:Nat)(h:j<(Waw rv regs writes u).kids.length):KT (Waw rv regs writes u) j (Waw rv regs writes u).kids[j]:=by
 have e:(Waw rv regs writes u).kids[j]={regs:=regs}:=by simp only[Waw,Xbp]
 rw[e];refine⟨(λh=>by cases h),?_,λ_ e he=>by cases he⟩;show(0:Int)=(j:Int)+1↔(0:Int)=2;omega
theorem Wvy(h:RT x)(h1:x.phase=1):RT (WgG w x k p).2:=by
 have hn:∀y:Rt,y.phase=1->y.phase≠2/\y.phase≠5:=λy hy=>by omega
 unfold WgG;split
 .exact WmF h
 .simp only;generalize opN p.1 x.pc=o;split
  .exact WtK h h1
  .split
   .unfold WbW;split
    .exact WmF h
    .split
     .exact h.of rfl rfl (hn _ h1).1 (hn _ h1).2
     .exact h.of rfl rfl (hn _ h1).1 (hn _ h1).2
   .split
    .exact⟨h.pb,λ_=>.inr λj hj=>Wso j hj,λhy=>by(change (2:Int)=5 at hy;omega)⟩
    .split
     .unfold WbR;cases WaS w.holds ((k:Int)+1) (WaH o).1 (WaH o).2 with
      |none=>exact Whu
      |some hs=>exact h.of rfl rfl (hn _ h1).1 (hn _ h1).2
     .repeat' split
      all_goals exact h.of rfl rfl (hn _ h1).1 (hn _ h1).2
theorem WpG(h:RT x)(h5:x.phase=5):RT (Was w x k).2:=by
 unfold Was;split
 .simp only;split
  .exact We0
  .rename_i h8;refine⟨h.pb,λhy=>by(change x.phase=2 at hy;omega),λ_=>⟨?_,h8⟩⟩;have:=(h.cm h5).1;show(War x.cm).phase≠6;unfold War Wal
   repeat' split
   all_goals first|(simp only;omega)|exact this
 .show RT (WbD {x with cm:=(WC w.mem x.cm).2});generalize (WC w.mem x.cm).2=c;unfold WbD;split
  .exact We0
  .rename_i h8;split
   .have:(if x.fate=2 then(6:Int)else 7)≠2/\(if x.fate=2 then(6:Int)else 7)≠5:=by split<;>omega
    exact h.of rfl rfl this.1 this.2
   .rename_i h6;exact⟨h.pb,λhy=>by(change x.phase=2 at hy;omega),λ_=>⟨h6,h8⟩⟩
theorem Wo4(h:RT x):RT (WY w x k p).2:=by
 unfold WY;by_cases hd:x.doomed=true/\1<=x.phase/\x.phase<=4
 .rw[if_pos hd];exact We0
 rw[if_neg hd];by_cases h0:x.phase=0
 .rw[if_pos h0];unfold Wdd;split
  .exact h
  .split
   .exact h
   .split
    .exact h
    .exact RT.no rfl (by show(1:Int)≠2;omega) (by show(1:Int)≠5;omega)
 rw[if_neg h0];by_cases h1:x.phase=1
 .rw[if_pos h1];exact Wvy h h1
 rw[if_neg h1];by_cases h2:x.phase=2
 .rw[if_pos h2];show RT (WbT x);unfold WbT;split
  .exact We0
  .split
   .exact h.of rfl rfl (by show(1:Int)≠2;omega) (by show(1:Int)≠5;omega)
   .exact h
 rw[if_neg h2];by_cases h3:x.phase=3
 .rw[if_pos h3];unfold WaT;split
  .exact h.of rfl rfl (by show x.phase≠2;omega) (by show x.phase≠5;omega)
  .exact h.of rfl rfl (by show(4:Int)≠2;omega) (by show(4:Int)≠5;omega)
 rw[if_neg h3];by_cases h4:x.phase=4
 .rw[if_pos h4];show RT (WaG w x);unfold WaG;simp only;split
  .split
   .exact We0
   .exact h.of rfl rfl (by show x.phase≠2;omega) (by show x.phase≠5;omega)
  .exact h.of rfl rfl (by show(1:Int)≠2;omega) (by show(1:Int)≠5;omega)
 rw[if_neg h4];by_cases h5:x.phase=5
 .rw[if_pos h5];exact WpG h h5
 rw[if_neg h5];by_cases h6:x.phase=6
 .rw[if_pos h6];by_cases hz:x.undos.length>0
  .rw[if_pos hz];exact h.of rfl rfl (by show x.phase≠2;omega) (by show x.phase≠5;omega)
  .rw[if_neg hz];exact h.of rfl rfl (by show(7:Int)≠2;omega) (by show(7:Int)≠5;omega)
 rw[if_neg h6];by_cases h7:x.phase=7
 .rw[if_pos h7];by_cases hf:x.fate=0
  .rw[if_pos hf];exact RT.no rfl (by show(0:Int)≠2;omega) (by show(0:Int)≠5;omega)
  .rw[if_neg hf];exact h.of rfl rfl (by show(8:Int)≠2;omega) (by show(8:Int)≠5;omega)
 .rw[if_neg h7];exact h
end
section
variable{w:Wo}{x y:Rt}{k:Nat}{p:Pg}{n:Int}{o:Opn}{f:Fm}{codes:List (List Opn)}
theorem Wo9(hp:POk p)(hx:ROk p n x)(ht:RT x)(h:1<=x.phase/\x.phase<=4):(x.undos.length:Int)+3<=Wi p x:=by
 have hl:=hx.live h;have hs:=hl.spare;have hlen:=hp.code.len;by_cases h1:x.phase=1
 .have:=Wej hp.code hl ht h1;omega
 by_cases h2:x.phase=2
 .have aQ:=hl.pc;obtain⟨f1,f2,f3⟩:=hl.fork h2;have e:Wi p x=if x.fam.lost=true then(x.undos.length:Int)+3 else 73-3*x.pc+WlI x.fam+WaV x:=by unfold Wi;rw[if_neg (by omega),if_pos h2]
  rw[e];split
  .omega
  .have:=Wo2 x.fam x.fam.kids;unfold WlI WaV;omega
 have hz:=hl.back (by omega);obtain⟨m1,m2,m3,m4,m5⟩:=Wki hp.code hl hz;have aQ:=hl.pc;have wg:=WsE hp.code aQ.2;by_cases h3:x.phase=3
 .have e:Wi p x=x.last.2.1+74-3*x.last.1+Wd9 p x.pc+WaV x:=by unfold Wi;rw[if_neg h1,if_neg h2,if_pos h3]
  rw[e];unfold WaV;omega
 .have h4:x.phase=4:=by omega
  have bN:=hl.pos h4;have e:Wi p x=x.last.2.1-x.pos+73-3*x.last.1+Wd9 p x.pc+WaV x:=by unfold Wi;rw[if_neg h1,if_neg h2,if_neg h3,if_pos h4]
  rw[e];unfold WaV;omega
theorem Wkc(hp:POk p)(hx:ROk p n x)(qs:RX x)(ht:RT x)(hk:k<=8)(h:1<=x.phase/\x.phase<=7):
  Wi p (WY w x k p).2<Wi p x\/(x.phase=2/\x.fam.lost≠true/\Wa4 x.fam≠true/\(WY w x k p).2=x):=by
 unfold WY;by_cases hd:x.doomed=true/\1<=x.phase/\x.phase<=4
 .rw[if_pos hd];have:=Wo9 hp hx ht hd.2;left;show Wi p (Wdi x)<_;rw[WeU];omega
 rw[if_neg hd,if_neg (by omega)];by_cases h1:x.phase=1
 .rw[if_pos h1];exact .inl (WsM hp.code hp.k3 (hx.live (by omega)) ht h1 hk λregs writes rv=>WpP hp.k3)
 rw[if_neg h1];by_cases h2:x.phase=2
 .rw[if_pos h2];by_cases hq:x.fam.lost=true\/Wa4 x.fam=true
  .exact .inl (Wqz (hx.live (by omega)) hp.code ht h2 hq)
  .refine .inr ⟨h2,λh=>hq (.inl h),λh=>hq (.inr h),?_⟩;show WbT x=x;unfold WbT;rw[if_neg (λh=>hq (.inl h)),if_neg (λh=>hq (.inr h))]
 rw[if_neg h2];by_cases h3:x.phase=3
 .rw[if_pos h3];exact .inl (Wms hp.code (hx.live (by omega)) h3)
 rw[if_neg h3];by_cases h4:x.phase=4
 .rw[if_pos h4];exact .inl (WmC hp.code (hx.live (by omega)) ht h4)
 rw[if_neg h4];by_cases h5:x.phase=5
 .rw[if_pos h5];exact .inl (Wnc (hx.comm h5) h5 (ht.cm h5) λhdm=>by
   rcases qs.doom hdm with h|h
   .omega
   .exact h.2)
 rw[if_neg h5];left;by_cases h6:x.phase=6
 .rw[if_pos h6];by_cases hz:x.undos.length>0
  .rw[if_pos hz];exact WgQ (.inr (.inr h6)) (by omega)
  .rw[if_neg hz,WnQ h6];show(1:Int)<_;omega
 .rw[if_neg h6,if_pos (by omega)];have e:Wi p x=1:=by unfold Wi;rw[show x.phase=7 by omega];rfl
  rw[e];by_cases hf:x.fate=0
  .rw[if_pos hf];show(0:Int)<1;omega
  .rw[if_neg hf];show(0:Int)<1;omega
theorem WvP(f:Fm):Wff f=(f.kids.length:Int) -f.kids.countP λx=>decide (x.phase=3):=by
 unfold Wff;have:∀l:List Kd,WcX Wax l=(l.length:Int) -l.countP λx=>decide (x.phase=3):=λl=>by
  induction l with
  |nil=>rfl
  |cons x l ih=>
   have e:WcX Wax (x::l)=Wax x+WcX Wax l:=by simp[WcX]
   rw[e,ih,List.countP_cons,Xr];unfold Wax;by_cases h:x.phase=3
   .rw[if_pos h,decide_eq_true h];simp;omega
   .rw[if_neg h,decide_eq_false h];simp;omega
 exact this f.kids
theorem Wti(hF:FOk codes n f)(h3:codes.length<=3)(hl:∀c∈codes,c.length<=24)(hT:∀(j:Nat) (h:j<f.kids.length),KT f j f.kids[j]):WlI f<=381:=by
 have hlen:=hF.len;have hcl:=hF.clock;have hdn:=hF.done;have jU:=WvP f;have zA:=WkS f;have ng:f.clock<=0->∀x:Kd,∀k (h:k<f.kids.length),f.kids[k]=x->Wbq f.clock x=0:=λh0 x k hk he=>by
  have:=(hF.kid k hk).since;rw[he]at this;unfold Wbq;rw[if_neg (by omega)]
 have sH:WcX (WK f.clock) f.kids<=(if f.clock<=0 then 26 else 52)*Wff f:=by
  have e:∀a:Int,WcX (λx=>0+a*Wax x) f.kids=a*Wff f:=λa=>by
   rw[WkV (g:=λ_=>0)];have:∀l:List Kd,WcX (λ_=>0) l=0:=λl=>by induction l with
    |nil=>rfl
    |cons x l ih=>simp only[WcX,Xai,Xce]at*;omega
   rw[this];unfold Wff;omega
  rw[←e];refine WiU λx hx=>?_;obtain⟨k,hk,he⟩:=Xas hx;have bb:k<codes.length:=by omega
  have hK:=hF.kid k hk;rw[Wf bb,he]at hK;obtain⟨c1,c2,c3,c4⟩:=Wef hK (hl _ (Xw bb));have hb:=Wcf f.clock x;have aY:=hK.phase;unfold WK;by_cases p3:x.phase=3
  .have:Wba x=0:=by unfold Wba;rw[if_pos p3]
   have hu:Wax x=0:=by unfold Wax;rw[if_pos p3]
   rw[hu]at hb⊢;omega
  .have hu:Wax x=1:=Wcc p3;rw[hu]at hb⊢;split
   .rw[ng ‹_› x k hk he];omega
   .omega
 refine WkX (by omega) λx hx pS=>?_;obtain⟨k,hk,he⟩:=Xas hx;have bb:k<codes.length:=by omega
 have hK:=hF.kid k hk;rw[Wf bb,he]at hK;have gR:=hT k hk;rw[he]at gR;obtain⟨l1,l2,l3⟩:=WkB hK (hl _ (Xw bb)) gR.pb;have hb:=Wcf f.clock x;unfold fP fQ;by_cases h0:f.clock<=0
 .rw[if_pos h0]at sH;have hs:=ng h0 x k hk he;rw[hs];have:Wff f=0\/Wff f=1\/Wff f=2\/Wff f=3:=by omega
  rcases this with hu|hu|hu|hu<;>(rw[hu]at sH⊢;unfold tri;simp;omega)
 .rw[if_neg h0]at sH;have:Wff f=0\/Wff f=1\/Wff f=2:=by omega
  rcases this with hu|hu|hu<;>(rw[hu]at sH⊢;unfold tri;simp;omega)
theorem WbG(hp:POk p)(hx:ROk p n x)(ht:RT x):0<=Wi p x/\Wi p x<=808/\(1<=x.phase/\x.phase<=7->1<=Wi p x):=by
 have aY:=hx.phase;have cG:=hx.ul;have hlen:=hp.code.len;by_cases h:1<=x.phase/\x.phase<=4
 .have pC:=Wo9 hp hx ht h;refine⟨by omega,?_,λ_=>by omega⟩;have hl:=hx.live h;have hs:=hl.spare;have aQ:=hl.pc;have hu:=hl.ul;have hf1:Wd9 p x.pc<=382:=by unfold Wd9;omega
  have gB:=WfD ht;by_cases h1:x.phase=1
  .rw[Wcb h1];unfold WaV;omega
  by_cases h2:x.phase=2
  .obtain⟨f1,f2,f3⟩:=hl.fork h2;have e:Wi p x=if x.fam.lost=true then(x.undos.length:Int)+3 else 73-3*x.pc+WlI x.fam+WaV x:=by unfold Wi;rw[if_neg (by omega),if_pos h2]
   rw[e];split
   .omega
   .rename_i bu;have:=Wti f3 hp.k3 (λc hc=>(hp.kids c hc).toCC.len) ((ht.fam h2).resolve_left bu);unfold WaV;omega
  have hz:=hl.back (by omega);obtain⟨m1,m2,m3,m4,m5⟩:=Wki hp.code hl hz;have hM:=(hl.marks.each _ (Wgf hz zRM)).2.1;have uw:=WhZ p.1 (show x.last.1.toNat<=x.pc.toNat by omega);have zC:=WfT hp.code x.pc.toNat (by omega);have hM':x.last.2.1<=x.last.1+72*frk p.1 x.last.1.toNat:=hM.2.1;have mi:Wd9 p x.pc=382*(1-frk p.1 x.pc.toNat):=rfl;by_cases h3:x.phase=3
  .have e:Wi p x=x.last.2.1+74-3*x.last.1+Wd9 p x.pc+WaV x:=by unfold Wi;rw[if_neg h1,if_neg h2,if_pos h3]
   rw[e,mi];unfold WaV;omega
  .have h4:x.phase=4:=by omega
   have bN:=hl.pos h4;have e:Wi p x=x.last.2.1-x.pos+73-3*x.last.1+Wd9 p x.pc+WaV x:=by unfold Wi;rw[if_neg h1,if_neg h2,if_neg h3,if_pos h4]
   rw[e,mi];unfold WaV;omega
 .have:x.phase=0\/x.phase=5\/x.phase=6\/x.phase=7\/x.phase=8:=by omega
  rcases this with h|h|h|h|h
  .have e:Wi p x=0:=by unfold Wi;rw[h];rfl
   omega
  .have hb:=Wgp (hx.comm h);have e:Wi p x=W5 x.cm+x.undos.length+3:=by unfold Wi;rw[h];rfl
   omega
  .rw[WnQ h];omega
  .have e:Wi p x=1:=by unfold Wi;rw[h];rfl
   omega
  .have e:Wi p x=0:=by unfold Wi;rw[h];rfl
   omega
end
section
def Wvi(m:Mm)(rv:Int):Prop:=∀i,0<=i->i<=7->(WO m i).2.2=0/\(WO m i).2.1<=rv
def pbV(m:Mm)(b:Bool)(q:Pb):Prop:=b=true->(0<=q.1/\q.1<=7)/\q.2.2.1=(WO m q.1).2.1
variable{m:Mm}{rv:Int}{q:Pb}{o:Opn}{x:Kd}{f:Fm}{k:Nat}{code:List Opn}{codes:List (List Opn)}{n:Int}
theorem WsT(h:Wvi m rv)(hc:0<=q.1/\q.1<=7)(hp:0<=q.2.1/\q.2.1<=2)(hv:1<=q.2.1->q.2.2.1=(WO m q.1).2.1):
  (WZ m rv q).1=q.1/\(WZ m rv q).2.1=q.2.1+1/\(WZ m rv q).2.2.1=(WO m q.1).2.1:=by
 obtain⟨f1,f2⟩:=h q.1 hc.1 hc.2;have e:Xd m.2 (Xb q.1) (0,(0,0))=WO m q.1:=rfl;unfold WZ;simp only[e,Wt,Wat];have:q.2.1=0\/q.2.1=1\/q.2.1=2:=by omega
 rcases this with h0|h0|h0
 .rw[if_pos h0,if_pos f1,if_pos f2,h0];exact⟨rfl,rfl,rfl⟩
 .have:=hv (by omega);rw[if_neg (by omega),if_pos h0,h0];exact⟨rfl,rfl,this⟩
 .have:=hv (by omega);rw[if_neg (by omega),if_neg (by omega),if_pos h0,if_pos f1,if_pos this.symm,h0];exact⟨rfl,rfl,this⟩
theorem WoD{b:Bool}{p:Pb}{c:Int}(hm:Wvi m rv)(hv:pbV m b p)(hb:b=true->p.2.1=1\/p.2.1=2)(hB:0<=c/\c<=7):
  (0<=(if b=true then p else(c,0,0,0)).1/\(if b=true then p else(c,0,0,0)).1<=7)/\(if b=true then p else(c,0,0,0)).2.1<=2/\
  (WZ m rv (if b=true then p else(c,0,0,0))).1=(if b=true then p else(c,0,0,0)).1/\(WZ m rv (if b=true then p else(c,0,0,0))).2.1=(if b=true then p else(c,0,0,0)).2.1+1/\
  (WZ m rv (if b=true then p else(c,0,0,0))).2.2.1=(WO m (if b=true then p else(c,0,0,0)).1).2.1:=by
 by_cases h:b=true
 .rw[if_pos h];have h1:=hv h;have h2:=hb h;exact⟨h1.1,by omega,WsT hm h1.1 (by omega) λ_=>h1.2⟩
 .rw[if_neg h];exact⟨hB,by show(0:Int)<=2;omega,WsT hm hB (by show(0:Int)<=0/\(0:Int)<=2;omega) λh=>by(change (1:Int)<=0 at h;omega)⟩
structure FGd(m:Mm)(f:Fm):Prop where
 lost:f.lost=false
 free:Wvi m f.rv
 kid:∀(k:Nat) (h:k<f.kids.length),pbV m f.kids[k].busy f.kids[k].pb
theorem WtG(hm:Wvi m f.rv)(hl:f.lost=false)(hv:pbV m x.busy x.pb)(hb:x.busy=true->x.pb.2.1=1\/x.pb.2.1=2)(hB:0<=o.2.2.1/\o.2.2.1<=7):
  (Web m f x o).1=f/\pbV m (Web m f x o).2.busy (Web m f x o).2.pb:=by
 unfold Web;cases Wbf x.writes o.2.2.1 with
 |some v=>exact⟨rfl,hv⟩
 |none=>
  simp only;cases ent f.buf o.2.2.1 with
  |some r=>
   simp only;split
   .exact⟨rfl,(λh=>by cases h)⟩
   .exact⟨rfl,hv⟩
  |none=>
   simp only;obtain⟨hc,ue,hs⟩:=WoD (b:=x.busy) (p:=x.pb) (c:=o.2.2.1) hm hv hb hB;generalize (if x.busy=true then x.pb else(o.2.2.1,0,0,0))=q0 at*;generalize WZ m f.rv q0=q at*;obtain⟨s1,s2,s3⟩:=hs;rw[if_neg (by omega)];split
   .exact⟨rfl,(λh=>by cases h)⟩
   .refine⟨rfl,λ_=>?_⟩;show(0<=q.1/\q.1<=7)/\q.2.2.1=(WO m q.1).2.1;rw[s1];exact⟨hc,s3⟩
theorem Wt0(hm:Wvi m f.rv)(hl:f.lost=false)(bb:KC code)(hK:KOk code f.clock n x)(hv:pbV m x.busy x.pb)(ht:KT f k x):
  (Wea m f x k code).1.lost=false/\(Wea m f x k code).1.rv=f.rv/\(Wea m f x k code).1.kids=f.kids/\pbV m (Wea m f x k code).2.busy (Wea m f x k code).2.pb:=by
 have eU:pbV m (f.again x).busy (f.again x).pb:=λh=>by cases h
 unfold Wea;split
 .rename_i h0;unfold WqG;split
  .exact⟨hl,rfl,rfl,hv⟩
  .obtain⟨i,hi,aQ,ho⟩:=Wfm (l:=code) hK.pc.1 (by have:=hK.pc;omega);simp only[ho];split
   .have aM:=Wv5 (bb.ok i hi).1 ‹_›;have hB:0<=code[i].2.2.1/\code[i].2.2.1<=7:=by have:=aM.2;unfold W7 at this;simpa using this
    obtain⟨a,b⟩:=WtG (o:=code[i]) hm hl hv ht.pb hB;rw[a];exact⟨hl,rfl,rfl,b⟩
   .split
    .refine⟨hl,rfl,rfl,?_⟩;unfold Wio;split<;>exact hv
    .repeat' split
     all_goals exact⟨hl,rfl,rfl,hv⟩
 .split
  .split
   .exact⟨hl,rfl,rfl,hv⟩
   .exact⟨hl,rfl,rfl,hv⟩
  .split
   .split
    .exact⟨hl,rfl,rfl,hv⟩
    .simp only;split
     .exact⟨hl,rfl,rfl,hv⟩
     .exact⟨hl,rfl,rfl,eU⟩
   .exact⟨hl,rfl,rfl,hv⟩
theorem Wuh(hF:FOk codes n f)(hT:∀(j:Nat) (h:j<f.kids.length),KT f j f.kids[j])(hg:FGd m f)(hk:k<f.kids.length)(bb:KC (codes.getD k [])):FGd m (Wcy m f k (codes.getD k [])):=by
 have hg0:f.kids.getD k {}=f.kids[k]:=Wf hk _;unfold Wcy;rw[if_neg (by rw[hg.lost];simp),hg0];obtain⟨a,b,c,d⟩:=Wt0 (k:=k) hg.free hg.lost bb (hF.kid k hk) (hg.kid k hk) (hT k hk);refine⟨a,?_,λj hj=>?_⟩
 .show Wvi m (Wea m f f.kids[k] k (codes.getD k [])).1.rv;rw[b];exact hg.free
 .have hj':j<f.kids.length:=by rw[WkR c]at hj;exact hj
  rw[WgH hk c hj' hj];split
  .exact d
  .exact hg.kid j hj'
end
section
structure CGd(m:Mm)(c:Cm):Prop where
 ph:1<=c.phase/\c.phase<=5
 sole:∀i,0<=i->i<=7->owner m i=0\/owner m i=c.who
 ver:c.phase<=3->∀i,0<=i->i<=7->(WO m i).2.1<=c.rv
variable{m:Mm}{c:Cm}
theorem Wpj(ph:Int)(h:ph=2\/ph=3\/ph=4\/ph=5\/ph=6):2<=Wbc c ph/\Wbc c ph<=6/\ph<=Wbc c ph:=by
 unfold Wbc;split
 .omega
 .split<;>omega
theorem WgD{ph:Int}(h:ph=2\/ph=3\/ph=4\/ph=5\/ph=6)(hc:1<=c.phase/\c.phase<=5)(hle:c.phase<=ph):1<=(WP c ph).phase/\(WP c ph).phase<=6/\c.phase<=(WP c ph).phase/\(WP c ph).rv=c.rv/\(WP c ph).who=c.who:=by
 unfold WP;split
 .have:=Wpj (c:=c) ph h;show 1<=Wbc c ph/\Wbc c ph<=6/\c.phase<=Wbc c ph/\_/\_;exact⟨by omega,by omega,by omega,rfl,rfl⟩
 .exact⟨by show 1<=c.phase;omega,by show c.phase<=6;omega,Xv _,rfl,rfl⟩
theorem Wsa(hc:CmOk c)(hm:W0 m=true)(hk:CmLk m c)(hg:CGd m c)(ir:m.1<1000000):1<=(WC m c).2.phase/\(WC m c).2.phase<=6/\(WC m c).2.rv=c.rv/\
  ((WC m c).2.phase<=3->∀i,0<=i->i<=7->(WO (WC m c).1 i).2.1<=c.rv):=by
 have aY:=hg.ph;have hpos:=hc.pos;unfold Cm.steps at hpos;have vM:∀j:Nat,(h:j<c.puts.length)->0<=c.puts[j].1/\c.puts[j].1<=7:=λj h=>(hc.rows _ (Xw h)).1;unfold WC;simp only;by_cases p1:c.phase=1
 .rw[if_pos p1];rw[p1]at hpos;simp at hpos;obtain⟨j,hj⟩:∃j:Nat,c.pos=j:=⟨c.pos.toNat,by omega⟩;have hjl:j<c.puts.length:=by omega
  have cJ:Wce c.puts c.pos (0,0)=c.puts[j]:=by unfold Wce;rw[hj,Xj];exact Wf hjl _
  have hb:=vM j hjl;have eU:¬lkd c c.puts[j].1:=λ⟨i,hi,a,b⟩=>by
   have hij:i<j:=by unfold lkA at b;omega
   have:=List.pairwise_iff_getElem.1 hc.pup i j hi hjl hij;omega
  have hown:(WO m c.puts[j].1).2.2=0:=by
   rcases hg.sole _ hb.1 hb.2 with h|h
   .exact h
   .exact absurd ((hk.own _ hb.1 hb.2).1 h) eU
  rw[cJ,if_pos hown];obtain⟨a,b,_,d,_⟩:=WgD (c:=c) (ph:=2) (by omega) aY (by omega);refine⟨a,b,d,λ_ i h0 h7=>?_⟩;show(WO (WnZ m c.puts[j].1 c.who) i).2.1<=c.rv;unfold WnZ;rw[WeS hm hb ⟨h0,h7⟩];split
  .exact hg.ver (by omega) _ hb.1 hb.2
  .exact hg.ver (by omega) i h0 h7
 rw[if_neg p1];by_cases p2:c.phase=2
 .rw[if_pos p2];have gR:tick m=((m.1+1,m.2),m.1+1):=by unfold tick;rw[if_pos ir]
  have h0:=(WB hm).2.1;rw[gR,if_neg (show¬m.1+1=0 by omega)];have:=Wpj (c:={c with wv:=m.1+1}) 3 (by omega);exact⟨by show 1<=Wbc {c with wv:=m.1+1} 3;omega,by show Wbc {c with wv:=m.1+1} 3<=6;omega,rfl,λ_ i h0 h7=>hg.ver (by omega) i h0 h7⟩
 rw[if_neg p2];by_cases p3:c.phase=3
 .rw[if_pos p3];rw[p3]at hpos;simp at hpos;have mR:0<=Wce c.reads c.pos 0/\Wce c.reads c.pos 0<=7:=by
   have:Wce c.reads c.pos 0=c.reads[c.pos.toNat]'(by omega):=Wf (by omega) _;rw[this];exact hc.rd _ (Xw _)
  have hs:=hg.sole _ mR.1 mR.2;have hv:=hg.ver (by omega) _ mR.1 mR.2;unfold owner at hs;rw[if_neg (by omega)];obtain⟨a,b,_,d,_⟩:=WgD (c:=c) (ph:=4) (by omega) aY (by omega);exact⟨a,b,d,λ_ i h0 h7=>hg.ver (by omega) i h0 h7⟩
 rw[if_neg p3];by_cases p4:c.phase=4
 .rw[if_pos p4];obtain⟨a,b,e,d,_⟩:=WgD (c:=c) (ph:=5) (by omega) aY (by omega);exact⟨a,b,d,λh=>by(change (WP c 5).phase<=3 at h;omega)⟩
 rw[if_neg p4,if_pos (show c.phase=5 by omega)];obtain⟨a,b,e,d,_⟩:=WgD (c:=c) (ph:=6) (by omega) aY (by omega);exact⟨a,b,d,λh=>by(change (WP c 6).phase<=3 at h;omega)⟩
end
section
structure RGd(m:Mm)(x:Rt):Prop where
 dm:x.doomed=false
 sp:x.spare=0
 ph:x.phase=1\/x.phase=2\/x.phase=5\/x.phase=6\/x.phase=7
 run:x.phase=1\/x.phase=2->Wvi m x.rv/\pbV m x.busy x.pb
 fam:x.phase=2->FGd m x.fam
 cm:x.phase=5->CGd m x.cm
 ft:x.phase=5\/x.phase=6\/x.phase=7->x.fate≠0
variable{w:Wo}{x y:Rt}{k:Nat}{p:Pg}{n:Int}{o:Opn}
theorem RGd.on{m:Mm}(h:RGd m x)(h1:x.phase=1)(hy:y.phase=1)(hd:y.doomed=x.doomed)(hs:y.spare=x.spare)(hr:y.rv=x.rv)(hv:pbV m y.busy y.pb):RGd m y:=
 ⟨hd.trans h.dm,hs.trans h.sp,.inl hy,λ_=>⟨by rw[hr];exact(h.run (.inl h1)).1,hv⟩,λh2=>by omega,λh2=>by omega,λh2=>by omega⟩
theorem Wm4(h:RGd w.mem x)(h1:x.phase=1){out:Int}(ho:out≠0):(Waz w x k out).2.phase=8\/RGd (Waz w x k out).1.mem (Waz w x k out).2:=by
 have hf:=(h.run (.inl h1)).1;unfold Waz;simp only;generalize (if out=2 then []else x.writes)=rows;split
 .exact .inl rfl
 .have e:(Wbb ((k:Int)+1) x.rv rows x.reads).phase=if(WcY rows).length=0 then 2 else 1:=rfl;refine .inr ⟨h.dm,h.sp,.inr (.inr (.inl rfl)),λh2=>?_,λh2=>?_,λ_=>⟨?_,λi a b=>.inl (hf i a b).1,λ_ i a b=>(hf i a b).2⟩,λ_=>ho⟩
  .change (5:Int)=1\/(5:Int)=2 at h2;omega
  .change (5:Int)=2 at h2;omega
  .show 1<=(Wbb ((k:Int)+1) x.rv rows x.reads).phase/\(Wbb ((k:Int)+1) x.rv rows x.reads).phase<=5;rw[e];split<;>omega
theorem Wtp(h:RGd w.mem x)(h1:x.phase=1)(ht:RT x)(hB:0<=o.2.2.1/\o.2.2.1<=7):RGd w.mem (Wc0 w x o):=by
 obtain⟨hf,hv⟩:=h.run (.inl h1);unfold Wc0;cases Wbf x.writes o.2.2.1 with
 |some v=>exact h.on h1 h1 rfl rfl rfl hv
 |none=>
  simp only;obtain⟨hc,ue,hs⟩:=WoD (b:=x.busy) (p:=x.pb) (c:=o.2.2.1) hf hv ht.pb hB;generalize (if x.busy=true then x.pb else(o.2.2.1,0,0,0))=q0 at*;generalize WZ w.mem x.rv q0=q at*;obtain⟨s1,s2,s3⟩:=hs;rw[if_neg (by omega)];split
  .exact h.on h1 h1 rfl rfl rfl (λh=>by cases h)
  .refine h.on h1 h1 rfl rfl rfl λ_=>?_;show(0<=q.1/\q.1<=7)/\q.2.2.1=(WO w.mem q.1).2.1;rw[s1];exact⟨hc,s3⟩
theorem Wv0(aD:CC p.1)(hl:RLive p n x)(h:RGd w.mem x)(h1:x.phase=1)(ht:RT x)(hh:∀e∈w.holds,e.1=(k:Int)+1):(WgG w x k p).2.phase=8\/RGd (WgG w x k p).1.mem (WgG w x k p).2:=by
 obtain⟨hf,hv⟩:=h.run (.inl h1);unfold WgG;split
 .exact Wm4 h h1 (by omega)
 .obtain⟨i,hi,aQ,ho⟩:=Wfm (l:=p.1) hl.pc.1 (by have:=hl.pc;omega);simp only[ho];split
  .have aM:=Wv5 (aD.ok i hi).1 ‹_›;have hB:0<=p.1[i].2.2.1/\p.1[i].2.2.1<=7:=by have:=aM.2;unfold W7 at this;simpa using this
   exact .inr (Wtp h h1 ht hB)
  .split
   .unfold WbW;split
    .exact Wm4 h h1 (by omega)
    .split
     .exact .inr (h.on h1 h1 rfl rfl rfl hv)
     .exact .inr (h.on h1 h1 rfl rfl rfl hv)
   .split
    .refine .inr ⟨h.dm,h.sp,.inr (.inl rfl),λ_=>⟨hf,hv⟩,λ_=>⟨rfl,hf,λj hj=>?_⟩,λh2=>?_,λh2=>?_⟩
     .have e:(Waw x.rv x.regs x.writes p.2.length).kids[j]={regs:=x.regs}:=by simp only[Waw,Xbp]
      show pbV w.mem (Waw x.rv x.regs x.writes p.2.length).kids[j].busy (Waw x.rv x.regs x.writes p.2.length).kids[j].pb;rw[e]
      exactλh=>by cases h
     .change (2:Int)=5 at h2;omega
     .change (2:Int)=5\/(2:Int)=6\/(2:Int)=7 at h2;omega
    .split
     .have hb:Wf7 w.holds ((k:Int)+1) (WaH p.1[i]).1 (WaH p.1[i]).2= []:=by
       unfold Wf7;rw[List.map_eq_nil_iff,List.filter_eq_nil_iff];intro e he;have:=hh e he;unfold blk;simp[this]
      have e:WaS w.holds ((k:Int)+1) (WaH p.1[i]).1 (WaH p.1[i]).2=some (Wha w.holds ((k:Int)+1) (WaH p.1[i]).1 (WaH p.1[i]).2):=by unfold WaS;rw[if_pos hb]
      unfold WbR;rw[e];exact .inr (h.on h1 h1 rfl rfl rfl hv)
     .repeat' split
      all_goals exact .inr (h.on h1 h1 rfl rfl rfl hv)
theorem Wt9(hp:POk p)(hx:ROk p n x)(h:RGd w.mem x)(ht:RT x)(hh:∀e∈w.holds,e.1=(k:Int)+1)(hm:W0 w.mem=true)(hb:LB w k x)(ir:w.mem.1<1000000):
  (WY w x k p).2.phase=8\/RGd (WY w x k p).1.mem (WY w x k p).2:=by
 unfold WY;rw[if_neg (by rw[h.dm];simp),if_neg (by have:=h.ph;omega)];by_cases h1:x.phase=1
 .rw[if_pos h1];exact Wv0 hp.code (hx.live (by omega)) h h1 ht hh
 rw[if_neg h1];by_cases h2:x.phase=2
 .rw[if_pos h2];obtain⟨hf,hv⟩:=h.run (.inr h2);right;show RGd w.mem (WbT x);unfold WbT;rw[if_neg (by rw[(h.fam h2).lost];simp)];split
  .exact⟨h.dm,h.sp,.inl rfl,λ_=>⟨hf,hv⟩,λh2=>by(change (1:Int)=2 at h2;omega),λh2=>by(change (1:Int)=5 at h2;omega),λh2=>by(change (1:Int)=5\/(1:Int)=6\/(1:Int)=7 at h2;omega)⟩
  .exact h
 rw[if_neg h2,if_neg (by have:=h.ph;omega),if_neg (by have:=h.ph;omega)];have lK:=h.ft (by have:=h.ph;omega);by_cases h5:x.phase=5
 .rw[if_pos h5];obtain⟨hw,hcl⟩:=hb.cm h5;have hc:=hx.comm h5;have hg:=h.cm h5;obtain⟨a,b,d,e⟩:=Wsa hc hm hcl hg ir;have tB:=WjG w.mem x.cm;have fL:=λwho (a:who≠(k:Int)+1) (b:who≠0) (i:Int) (c:0<=i) (d:i<=7)=>WjS (i:=i) hc hm (who:=who) (by rw[hw];exact a) b ⟨c,d⟩;right;unfold Was;rw[if_neg (by rw[h.dm];simp)];simp only;show RGd (WC w.mem x.cm).1 (WbD {x with cm:=(WC w.mem x.cm).2});generalize (WC w.mem x.cm).1=m' at*;generalize (WC w.mem x.cm).2=c' at*;unfold WbD;simp only;rw[if_neg (by omega)];split
  .have aY:(if x.fate=2 then(6:Int)else 7)=6\/(if x.fate=2 then(6:Int)else 7)=7:=by split<;>simp
   generalize (if x.fate=2 then(6:Int)else 7)=ph at*;exact⟨h.dm,h.sp,by show ph=1\/ph=2\/ph=5\/ph=6\/ph=7;omega,λh2=>by(change ph=1\/ph=2 at h2;omega),λh2=>by(change ph=2 at h2;omega),λh2=>by(change ph=5 at h2;omega),λ_=>lK⟩
  .refine⟨h.dm,h.sp,.inr (.inr (.inl h5)),λh2=>by(change x.phase=1\/x.phase=2 at h2;omega),λh2=>by(change x.phase=2 at h2;omega),λ_=>⟨⟨a,by show c'.phase<=5;omega⟩,λi i0 i7=>?_,λh3 i i0 i7=>?_⟩,λ_=>lK⟩
   .show owner m' i=0\/owner m' i=c'.who;by_cases z0:owner m' i=0
    .exact .inl z0
    .by_cases zk:owner m' i=(k:Int)+1
     .exact .inr (by rw[tB,hw];exact zk)
     .have:=(fL _ zk z0 i i0 i7).1.1 rfl;rcases hg.sole i i0 i7 with hs|hs
      .rw[hs]at this;exact absurd this.symm z0
      .rw[hs,hw]at this;exact absurd this.symm zk
   .show(WO m' i).2.1<=c'.rv;rw[d];exact e h3 i i0 i7
 rw[if_neg h5];by_cases h6:x.phase=6
 .rw[if_pos h6];right;by_cases hz:x.undos.length>0
  .rw[if_pos hz];exact⟨h.dm,h.sp,.inr (.inr (.inr (.inl h6))),λh2=>by(change x.phase=1\/x.phase=2 at h2;omega),λh2=>by(change x.phase=2 at h2;omega),λh2=>by(change x.phase=5 at h2;omega),λ_=>lK⟩
  .rw[if_neg hz];exact⟨h.dm,h.sp,.inr (.inr (.inr (.inr rfl))),λh2=>by(change (7:Int)=1\/(7:Int)=2 at h2;omega),λh2=>by(change (7:Int)=2 at h2;omega),λh2=>by(change (7:Int)=5 at h2;omega),λ_=>lK⟩
 .rw[if_neg h6,if_pos (by have:=h.ph;omega),if_neg lK];exact .inl rfl
end
section
variable{s:Sc}{w v:Wo}{n:Int}{a:Ac}{x y:Rt}{k:Nat}{p:Pg}{f:Fm}{codes:List (List Opn)}{m:Mm}
theorem WoE(hm:W0 m=true)(bb:∀c∈codes,KC c)(h3:codes.length<=3)(hF:FOk codes n f)(hT:∀(j:Nat) (h:j<f.kids.length),KT f j f.kids[j])(hk:k<codes.length):
  (Wcy m f k (codes.getD k [])).lost=true\/∀(j:Nat) (h:j<(Wcy m f k (codes.getD k [])).kids.length),KT (Wcy m f k (codes.getD k [])) j (Wcy m f k (codes.getD k [])).kids[j]:=by
 have hlen:=hF.len;have cu:k<f.kids.length:=by omega
 by_cases bu:f.lost=true
 .exact .inl (by rw[WgK bu];exact bu)
 have aI:codes.getD k []=codes[k]:=Wf hk _;have hKO:=hF.kid k cu;rw[aI]at hKO;have ho:=WrI (m:=m) (bb _ (Xw hk)) hF hKO (hT k cu);have hE:=Wwx cu (by omega) (λc hc=>(bb c hc).toCC.len) hF hT rfl ho;have aJ:Wcy m f k (codes.getD k [])=Fm.put (Wea m f f.kids[k] k codes[k]) k:=by
  unfold Wcy;rw[if_neg bu,aI,show f.kids.getD k {}=f.kids[k]from Wf cu _]
 rw[aJ];rcases hE with hE|hE
 .exact .inl hE
 .exact .inr hE.kt
theorem Wp3{c:Cm}(hm:W0 m=true):(WC m c).1.1<=m.1+1:=by
 have ht:(tick m).1.1<=m.1+1:=by unfold tick;split<;>(simp only;omega)
 unfold WC;simp only;by_cases p1:c.phase=1
 .rw[if_pos p1];split<;>(show m.1<=m.1+1;omega)
 rw[if_neg p1];by_cases p2:c.phase=2
 .rw[if_pos p2];split<;>exact ht
 rw[if_neg p2];by_cases p3:c.phase=3
 .rw[if_pos p3];split<;>(show m.1<=m.1+1;omega)
 rw[if_neg p3];by_cases p4:c.phase=4
 .rw[if_pos p4];unfold WeB;split<;>(show m.1<=m.1+1;omega)
 rw[if_neg p4];by_cases p5:c.phase=5
 .rw[if_pos p5];unfold Wca;split<;>(show m.1<=m.1+1;omega)
 rw[if_neg p5];by_cases p7:c.phase=7
 .rw[if_pos p7];unfold Wca;split<;>(show m.1<=m.1+1;omega)
 rw[if_neg p7];show m.1<=m.1+1;omega
theorem Wkb{out:Int}:(Waz w x k out).1.mem=w.mem:=by
 unfold Waz;simp only;generalize (if out=2 then []else x.writes)=rows;split<;>rfl
theorem Wmt:(WY w x k p).1.mem=w.mem\/(x.phase=5/\(WY w x k p).1.mem=(WC w.mem x.cm).1):=by
 unfold WY;by_cases hd:x.doomed=true/\1<=x.phase/\x.phase<=4
 .rw[if_pos hd];exact .inl rfl
 rw[if_neg hd];by_cases h0:x.phase=0
 .rw[if_pos h0];left;unfold Wdd;repeat' split
  all_goals rfl
 rw[if_neg h0];by_cases h1:x.phase=1
 .rw[if_pos h1];left;unfold WgG;split
  .exact Wkb
  .simp only;generalize opN p.1 x.pc=o;split
   .rfl
   .split
    .unfold WbW;split
     .exact Wkb
     .split<;>rfl
    .split
     .rfl
     .split
      .unfold WbR;cases WaS w.holds ((k:Int)+1) (WaH o).1 (WaH o).2<;>rfl
      .repeat' split
       all_goals rfl
 rw[if_neg h1];by_cases h2:x.phase=2
 .rw[if_pos h2];exact .inl rfl
 rw[if_neg h2];by_cases h3:x.phase=3
 .rw[if_pos h3];left;unfold WaT;split<;>rfl
 rw[if_neg h3];by_cases h4:x.phase=4
 .rw[if_pos h4];exact .inl rfl
 rw[if_neg h4];by_cases h5:x.phase=5
 .rw[if_pos h5];unfold Was;split
  .exact .inl rfl
  .exact .inr ⟨h5,rfl⟩
 rw[if_neg h5];left;by_cases h6:x.phase=6
 .rw[if_pos h6];split<;>rfl
 rw[if_neg h6];by_cases h7:x.phase=7
 .rw[if_pos h7];split<;>rfl
 .rw[if_neg h7]
structure WT(w:Wo):Prop where
 root:∀(k:Nat) (h:k<w.roots.length),RT w.roots[k]
 clk:w.mem.1<=w.now
theorem Wsm{w0:Wo}{q:Wo×Rt}(hx:WT w0)(hr:q.1.roots=w0.roots)(hq:RT q.2)(hc:q.1.mem.1<=q.1.now):WT (Wo.put q k):=by
 refine⟨λi hi=>?_,hc⟩;change i<(q.1.roots.set k q.2).length at hi;have iq:i<w0.roots.length:=by rw[Xab,hr]at hi;exact hi
 show RT ((q.1.roots.set k q.2)[i]'hi);rw[Xaq];split
 .exact hq
 .simp only[hr];exact hx.root i iq
theorem Ws3(h:WOk s.2.1 n w)(hx:WT w):WT (Wc2 s w a):=by
 have ce:WT {w with now:=w.now+1}:=⟨hx.root,by have:=hx.clk;show w.mem.1<=w.now+1;omega⟩;unfold Wc2;simp only;split
 .rename_i hb;have hk:a.2.1.toNat<w.roots.length:=by omega
  have hR:=hx.root _ hk;have xK:a.2.1.toNat<s.2.1.length:=by rw[←h.len];exact hk
  rw[Wf hk];split
  .unfold Wi5;rw[Wf (show a.2.1.toNat<({w with now:=w.now+1}:Wo).roots.length from hk)];have aJ:=WhT (w:={w with now:=w.now+1}) (k:=a.2.1.toNat) (Wgv h.progs xK) ⟨h.mem,h.shelf,h.holds⟩ (h.root _ hk) (by have:=h.l4;omega) h.n0;refine Wsm ce (Wi0 h hk) (Wo4 hR) ?_;have pA:(WY {w with now:=w.now+1} w.roots[a.2.1.toNat] a.2.1.toNat (s.2.1.getD a.2.1.toNat pg0)).1.now=w.now+1:=aJ.now;rw[pA];have ir:=hx.clk;rcases Wmt (w:={w with now:=w.now+1}) (x:=w.roots[a.2.1.toNat]) (k:=a.2.1.toNat) (p:=s.2.1.getD a.2.1.toNat pg0)with e|⟨_,e⟩
   .rw[e];show w.mem.1<=w.now+1;omega
   .rw[e];have:=Wp3 (m:=w.mem) (c:=w.roots[a.2.1.toNat].cm) h.mem;show(WC w.mem w.roots[a.2.1.toNat].cm).1.1<=w.now+1;omega
  .split
   .split
    .rename_i hc;unfold Ww9;refine Wsm (w0:={w with now:=w.now+1}) ce rfl ?_ ce.clk;refine⟨hR.pb,λ_=>?_,λh5=>by(change w.roots[a.2.1.toNat].phase=5 at h5;omega)⟩;have hp:=Wgv h.progs xK;have hF:=((h.root _ hk).live (by omega)).fork hc.1;rcases hR.fam hc.1 with hl|hT
     .left;show(Wcy w.mem w.roots[a.2.1.toNat].fam a.2.2.toNat _).lost=true;rw[WgK hl];exact hl
     .exact WoE h.mem hp.kids hp.k3 hF.2.2 hT (by omega)
    .exact ce
   .split
    .split
     .exact Wsm (w0:={w with now:=w.now+1}) ce rfl ⟨hR.pb,hR.fam,hR.cm⟩ ce.clk
     .exact ce
    .exact ce
 .exact ce
theorem Wrj:∀(l:List Ac) (n:Int) (w:Wo),WOk s.2.1 n w->WT w->WT (l.foldl (Wc2 s) w)
 | [],n,w,h,hx=>hx
 |a::l,n,w,h,hx=>Wrj l (n+1) _ (WbO (a:=a) h) (Ws3 (a:=a) h hx)
theorem WvF:WT (Wge s):=⟨λi h=>by
 simp only[Wge,Xbp];exact RT.no rfl (by show(0:Int)≠2;omega) (by show(0:Int)≠5;omega),Xv _⟩
end
section
variable{s:Sc}{w v:Wo}{n:Int}{a:Ac}{x y:Rt}{k:Nat}{p:Pg}{q:Wo×Rt}
structure TQ(w:Wo)(k:Nat)(x:Rt)(q:Wo×Rt):Prop where
 tok:q.1.token=w.token\/(q.1.token=(k:Int)+1/\w.token=0/\x.phase=0/\q.2.phase=0)\/(w.token=(k:Int)+1/\q.1.token=0/\q.2.phase=8)
 try1:x.phase≠0->x.phase≠8->q.2.phase≠0->q.2.tries=x.tries
 idle:x.phase=0->q.2.phase=0\/(q.2.tries=x.tries/\(w.token=0/\x.tries<3\/w.token=(k:Int)+1/\W6 k w.roots 0=true)/\q.1.token=w.token)
 done:x.phase=8->q=(w,x)
theorem TQ.keep(ht:q.1.token=w.token)(hr:q.2.tries=x.tries)(h0:x.phase≠0)(h8:x.phase≠8):TQ w k x q:=
 ⟨.inl ht,λ_ _ _=>hr,λh=>absurd h h0,λh=>absurd h h8⟩
theorem Wry{w0:Wo}{x0:Rt}(hw:w0.token=w.token)(hr:x0.tries=x.tries)(h0:x.phase≠0)(h8:x.phase≠8):TQ w k x (Wkf w0 x0 k):=by
 refine⟨?_,λ_ _ _=>hr,λh=>absurd h h0,λh=>absurd h h8⟩;show(if w0.token=(k:Int)+1 then 0 else w0.token)=w.token\/_;split
 .rename_i h;right;right;refine⟨by rw[←hw];exact h,?_,rfl⟩;show(if w0.token=(k:Int)+1 then 0 else w0.token)=0;rw[if_pos h]
 .exact .inl hw
theorem Wna{out:Int}(h0:x.phase≠0)(h8:x.phase≠8):TQ w k x (Waz w x k out):=by
 unfold Waz;simp only;generalize (if out=2 then []else x.writes)=rows;split
 .exact Wry rfl rfl h0 h8
 .exact TQ.keep rfl rfl h0 h8
theorem Wel:(WE x).tries=x.tries:=by
 unfold WE;split<;>rfl
theorem Wgk:TQ w k x (WY w x k p):=by
 unfold WY;by_cases hd:x.doomed=true/\1<=x.phase/\x.phase<=4
 .rw[if_pos hd];exact TQ.keep rfl rfl (by omega) (by omega)
 rw[if_neg hd];by_cases h0:x.phase=0
 .rw[if_pos h0];have h8:x.phase≠8:=by omega
  unfold Wdd;split
  .exact⟨.inl rfl,λh=>absurd h0 h,λ_=>.inl h0,λh=>absurd h h8⟩
  .split
   .rename_i h;exact⟨.inr (.inl ⟨rfl,h.2,h0,h0⟩),λh=>absurd h0 h,λ_=>.inl h0,λh=>absurd h h8⟩
   .split
    .exact⟨.inl rfl,λh=>absurd h0 h,λ_=>.inl h0,λh=>absurd h h8⟩
    .rename_i a1 a2 a3;refine⟨.inl rfl,λh=>absurd h0 h,λ_=>.inr ⟨rfl,?_,rfl⟩,λh=>absurd h h8⟩;by_cases ht:w.token=0
     .exact .inl ⟨ht,by omega⟩
     .have hk:w.token=(k:Int)+1:=by omega
      refine .inr ⟨hk,?_⟩;cases ho:W6 k w.roots 0 with
      |true=>rfl
      |false=>exact absurd ⟨hk,ho⟩ a3
 rw[if_neg h0];by_cases h8:x.phase=8
 .rw[if_neg (by omega),if_neg (by omega),if_neg (by omega),if_neg (by omega),if_neg (by omega),if_neg (by omega),if_neg (by omega)];exact⟨.inl rfl,λ_ h=>absurd h8 h,λh=>absurd h h0,λ_=>rfl⟩
 have keep:∀q:Wo×Rt,q.1.token=w.token->q.2.tries=x.tries->TQ w k x q:=λq a b=>TQ.keep a b h0 h8;by_cases h1:x.phase=1
 .rw[if_pos h1];unfold WgG;split
  .exact Wna h0 h8
  .simp only;generalize opN p.1 x.pc=o;split
   .refine keep _ rfl ?_;unfold Wc0;cases Wbf x.writes o.2.2.1 with
    |some v=>rfl
    |none=>
     simp only;generalize WZ w.mem x.rv _=b;split
     .exact Wel
     .split<;>rfl
   .split
    .unfold WbW;split
     .exact Wna h0 h8
     .split<;>exact keep _ rfl rfl
    .split
     .exact keep _ rfl rfl
     .split
      .unfold WbR;cases WaS w.holds ((k:Int)+1) (WaH o).1 (WaH o).2 with
       |none=>exact keep _ rfl Wel
       |some hs=>exact keep _ rfl rfl
      .repeat' split
       all_goals exact keep _ rfl rfl
 rw[if_neg h1];by_cases h2:x.phase=2
 .rw[if_pos h2];refine keep _ rfl ?_;show(WbT x).tries=x.tries;unfold WbT;split
  .rfl
  .split<;>rfl
 rw[if_neg h2];by_cases h3:x.phase=3
 .rw[if_pos h3];unfold WaT;split<;>exact keep _ rfl rfl
 rw[if_neg h3];by_cases h4:x.phase=4
 .rw[if_pos h4];refine keep _ rfl ?_;show(WaG w x).tries=x.tries;unfold WaG;simp only;split
  .split<;>rfl
  .rfl
 rw[if_neg h4];by_cases h5:x.phase=5
 .rw[if_pos h5];unfold Was;split
  .refine keep _ rfl ?_;simp only;split<;>rfl
  .refine keep _ rfl ?_;show(WbD {x with cm:=(WC w.mem x.cm).2}).tries=x.tries;unfold WbD;split
   .rfl
   .split<;>rfl
 rw[if_neg h5];by_cases h6:x.phase=6
 .rw[if_pos h6];split<;>exact keep _ rfl rfl
 rw[if_neg h6];by_cases h7:x.phase=7
 .rw[if_pos h7];split
  .exact⟨.inl rfl,λ_ _ h=>absurd rfl h,λh=>absurd h h0,λh=>absurd h h8⟩
  .exact Wry rfl rfl h0 h8
 .rw[if_neg h7];exact keep _ rfl rfl
end
section
variable{s:Sc}{w v:Wo}{n:Int}{a:Ac}{x y:Rt}{k:Nat}{p:Pg}{q:Wo×Rt}
theorem WdJ:∀{l:List Rt} {i:Nat},W6 k l i=true->∀(j:Nat) (h:j<l.length),i+j≠k->l[j].phase=0\/l[j].phase=8
 | [],i,_,j,h,_=>by simp at h
 |x::l,i,ho,j,h,hne=>by
  rw[W6]at ho;simp only[Bool.and_eq_true,Bool.or_eq_true,decide_eq_true_eq]at ho;cases j with
  |zero=>
   rcases ho.1 with h1|h1
   .exact absurd h1 (by simpa using hne)
   .exact h1
  |succ j=>exact WdJ ho.2 j (by simpa using h) (by omega)
structure TX(w:Wo):Prop where
 t1:∀(k:Nat) (h:k<w.roots.length),w.roots[k].phase≠0->w.roots[k].phase≠8->w.roots[k].tries>=3->w.token=(k:Int)+1
 t2:∀(k:Nat) (h:k<w.roots.length),w.token=(k:Int)+1->w.roots[k].phase≠0->∀(j:Nat) (h:j<w.roots.length),j≠k->w.roots[j].phase=0\/w.roots[j].phase=8
theorem WuX{w0:Wo}(hx:TX w0)(hl:LX w0)(hk:k<w0.roots.length)(hr:q.1.roots=w0.roots)(hq:TQ w0 k w0.roots[k] q):TX (Wo.put q k):=by
 have hlen:(q.1.roots.set k q.2).length=w0.roots.length:=by rw[Xab,hr]
 have cJ:∀(i:Nat) (hi:i<w0.roots.length),(q.1.roots.set k q.2)[i]'(by rw[hlen];exact hi)=if k=i then q.2 else w0.roots[i]:=λi hi=>by
  rw[Xaq];simp only[hr]
 have xL:w0.roots[k].phase=8->q.2=w0.roots[k]:=λh=>by rw[hq.done h]
 refine⟨λi hi p0 p8 ht=>?_,λi hi ht p0 j hj hne=>?_⟩
 .change i<(q.1.roots.set k q.2).length at hi;have iq:i<w0.roots.length:=by rw[←hlen];exact hi
  change ((q.1.roots.set k q.2)[i]'hi).phase≠0 at p0;change ((q.1.roots.set k q.2)[i]'hi).phase≠8 at p8;change ((q.1.roots.set k q.2)[i]'hi).tries>=3 at ht;rw[cJ i iq]at p0 p8 ht;show q.1.token=(i:Int)+1;by_cases he:k=i
  .subst he;rw[if_pos rfl]at p0 p8 ht;by_cases h0:w0.roots[k].phase=0
   .rcases hq.idle h0 with h|⟨h1,h2,h3⟩
    .exact absurd h p0
    .rw[h3];rcases h2 with h2|h2
     .omega
     .exact h2.1
   .by_cases h8:w0.roots[k].phase=8
    .rw[xL h8]at p8;exact absurd h8 p8
    .have mT:=hq.try1 h0 h8 p0;have:=hx.t1 k hk h0 h8 (by omega);rcases hq.tok with h|⟨h,_⟩|⟨_,_,h⟩
     .rw[h];exact this
     .exact h
     .exact absurd h p8
  .rw[if_neg he]at p0 p8 ht;have:=hx.t1 i iq p0 p8 ht;rcases hq.tok with h|⟨_,h,_⟩|⟨h,_⟩
   .rw[h];exact this
   .omega
   .omega
 .change i<(q.1.roots.set k q.2).length at hi;change j<(q.1.roots.set k q.2).length at hj;have iq:i<w0.roots.length:=by rw[←hlen];exact hi
  have tD:j<w0.roots.length:=by rw[←hlen];exact hj
  change q.1.token=(i:Int)+1 at ht;change ((q.1.roots.set k q.2)[i]'hi).phase≠0 at p0;show((q.1.roots.set k q.2)[j]'hj).phase=0\/((q.1.roots.set k q.2)[j]'hj).phase=8;rw[cJ i iq]at p0;rw[cJ j tD];by_cases he:k=i
  .subst he;rw[if_pos rfl]at p0;rw[if_neg (λh=>hne h.symm)];by_cases h0:w0.roots[k].phase=0
   .rcases hq.idle h0 with h|⟨h1,h2,h3⟩
    .exact absurd h p0
    .rcases h2 with h2|h2
     .rw[h3,h2.1]at ht;omega
     .exact WdJ h2.2 j tD (by omega)
   .rcases hq.tok with h|⟨_,_,h,_⟩|⟨_,h,_⟩
    .exact hx.t2 k hk (by rw[←h];exact ht) h0 j tD hne
    .exact absurd h h0
    .omega
  .rw[if_neg he]at p0;have xM:w0.token=(i:Int)+1:=by
    rcases hq.tok with h|⟨h,_⟩|⟨_,h,_⟩
    .rw[←h];exact ht
    .omega
    .omega
   by_cases hkj:k=j
   .subst hkj;rw[if_pos rfl];have iW:=hx.t2 i iq xM p0 k hk (λh=>he h);rcases iW with h0|h8
    .rcases hq.idle h0 with h|⟨_,h2,_⟩
     .exact .inl h
     .rcases h2 with h2|h2<;>omega
    .rw[xL h8];exact .inr h8
   .rw[if_neg hkj];exact hx.t2 i iq xM p0 j tD hne
theorem WrM(h:WOk s.2.1 n w)(hl:LX w)(hx:TX w):TX (Wc2 s w a):=by
 have ce:TX {w with now:=w.now+1}:=⟨hx.t1,hx.t2⟩;have aU:LX {w with now:=w.now+1}:=⟨λk hk=>⟨(hl.root k hk).cm,(hl.root k hk).no,(hl.root k hk).hd,(hl.root k hk).tk⟩,hl.ow,hl.hd,hl.tk⟩;unfold Wc2;simp only;split
 .rename_i hb;have hk:a.2.1.toNat<w.roots.length:=by omega
  have same:∀y:Rt,y.phase=w.roots[a.2.1.toNat].phase->y.tries=w.roots[a.2.1.toNat].tries->w.roots[a.2.1.toNat].phase≠0->w.roots[a.2.1.toNat].phase≠8->TX (Wo.put ({w with now:=w.now+1},y) a.2.1.toNat):=λy e1 e2 h0 h8=>
   WuX (w0:={w with now:=w.now+1}) ce aU hk rfl ⟨.inl rfl,λ_ _ _=>e2,λh=>absurd h h0,λh=>absurd h h8⟩
  rw[Wf hk];split
  .unfold Wi5;rw[Wf (show a.2.1.toNat<({w with now:=w.now+1}:Wo).roots.length from hk)];exact WuX (w0:={w with now:=w.now+1}) ce aU hk (Wi0 h hk) Wgk
  .split
   .split
    .rename_i hc;exact same _ rfl rfl (by omega) (by omega)
    .exact ce
   .split
    .split
     .rename_i hc;exact same _ rfl rfl (by omega) (by omega)
     .exact ce
    .exact ce
 .exact ce
theorem WrA:∀(l:List Ac) (n:Int) (w:Wo),WOk s.2.1 n w->WX w->LX w->TX w->TX (l.foldl (Wc2 s) w)
 | [],n,w,h,hx,hl,ht=>ht
 |a::l,n,w,h,hx,hl,ht=>WrA l (n+1) _ (WbO (a:=a) h) (WfZ (a:=a) h hx).1 (Wnm h hx hl) (WrM h hl ht)
theorem WvV:TX (Wge s):=by
 have e:∀(k:Nat) (h:k<(Wge s).roots.length),(Wge s).roots[k].phase=0:=λk h=>by simp only[Wge,Xbp]
 exact⟨λk h h0=>absurd (e k h) h0,λk h _ h0=>absurd (e k h) h0⟩
end
section
variable{w:Wo}{n:Int}{x y:Rt}{k:Nat}{p:Pg}{f g:Fm}{m:Mm}
theorem Wov(h2:x.phase=2):Wi p x=if x.fam.lost=true then(x.undos.length:Int)+3 else 73-3*x.pc+WlI x.fam+WaV x:=by unfold Wi;rw[if_neg (by omega),if_pos h2]
theorem WvL{i:Nat}(hR:FmR f i g){b:Int}(hb:0<=b)(h:∀(j:Nat) (h:j<f.kids.length) (h':j<g.kids.length),Wax g.kids[j]=1->fP g g.kids[j]+fQ g<=b):WlI g<=b:=by
 refine WkX hb λz hz hu=>?_;obtain⟨j,hj,he⟩:=Xas hz;rw[←he]at hu⊢;exact h j (by rw[←hR.len];exact hj) hj hu
theorem Wig(hp:POk p)(hx:ROk p n x)(ht:RT x)(h2:x.phase=2)(hl:x.fam.lost≠true)(ho:Wa4 x.fam≠true)(hm:W0 m=true):
  Wi p {x with fam:=WbV m p.2 p.2.length 0 x.fam}<Wi p x:=by
 have hL:=hx.live (by omega);have hs:=hL.spare;have hlen:=hp.code.len;obtain⟨f1,f2,f3⟩:=hL.fork h2;have hT:=(ht.fam h2).resolve_left hl;have md:∀c∈p.2,c.length<=24:=λc hc=>(hp.kids c hc).toCC.len;have hR:=Ws6 hm hp.kids hp.k3 p.2.length 0 n x.fam (by omega) f3 hT;have h1:1<=WlI x.fam:=by
  have:∃z∈x.fam.kids,z.phase≠3:=by
   apply Classical.byContradiction;intro eU;apply ho;unfold Wa4;rw[Xae];intro z hz;by_cases h3:z.phase=3
   .simpa using h3
   .exact absurd ⟨z,hz,h3⟩ eU
  obtain⟨z,hz,zD⟩:=this;obtain⟨j,hj,he⟩:=Xas hz;have hu:Wax x.fam.kids[j]=1:=Wcc (by rw[he];exact zD);have a:=Wxf f3 md hT hj hu;have b:=Wn7 (f:=x.fam) _ (Xw hj) hu;unfold WlI;omega
 rw[Wov h2,if_neg hl,Wov (x:={x with fam:=WbV m p.2 p.2.length 0 x.fam}) h2];show(if(WbV m p.2 p.2.length 0 x.fam).lost=true then(x.undos.length:Int)+3 else 73-3*x.pc+WlI (WbV m p.2 p.2.length 0 x.fam)+WaV x)<_;split
 .unfold WaV;omega
 .rename_i iw;have hR:=hR.resolve_left iw;have:WlI (WbV m p.2 p.2.length 0 x.fam)<=WlI x.fam-1:=WvL hR (by omega) λj h h' hu=>by
   obtain⟨a1,a2,a3⟩:=hR.p j h h' hu;have b:=Wn7 (f:=x.fam) _ (Xw h) a1;rcases a3 (by omega)with c|⟨_,k,hk,_⟩
   .unfold WlI;omega
   .omega
  omega
end
section
def Wcl(s:Sc)(k:Nat):Nat->Nat->Wo->Wo
 |0,_,w=>w
 |d+1,j,w=>Wcl s k d (j+1) (Wc2 s w (2,(k:Int),(j:Int)))
def Wav(s:Sc):Nat->Nat->Wo->Wo
 |0,_,w=>w
 |d+1,i,w=>Wav s d (i+1) (Wcl s i (s.2.1.getD i pg0).2.length 0 (Wc2 s w (1,(i:Int),0)))
def WfE(w:Wo):Bool:=w.roots.all λx=>decide (x.phase=8)
def Wag(s:Sc):Nat->Wo->Wo×Nat
 |0,w=>(w,0)
 |d+1,w=>if WfE w=true then(w,0)else((Wag s d (Wav s s.2.1.length 0 w)).1,(Wag s d (Wav s s.2.1.length 0 w)).2+1)
variable{s:Sc}{w v:Wo}{n:Int}{k:Nat}{N:Nat}
theorem Wk6:∀(d j:Nat) (n:Int) (w:Wo),WOk s.2.1 n w->WOk s.2.1 (n+d) (Wcl s k d j w)
 |0,_,n,w,h=>by rw[Wcl];simpa using h
 |d+1,j,n,w,h=>by
  have:=Wk6 d (j+1) (n+1) _ (WbO (a:=(2,(k:Int),(j:Int))) h);rw[Wcl,show n+((d+1:Nat):Int)=n+1+(d:Int) by omega];exact this
theorem WvR{R:Type}{rounds:Int}{b1 b2 b3 b4:Int}{jM:Int}{K0:Int->Bool->Int->Int->Int->Int->List Kb->List Int->List Kb->List Y_Root->List Kq->Option R}(hN:1048576<N)(hk:k<s.2.1.length)(h3:s.2.1[k].2.length<=3):
  ∀(d j fuel:Nat) (n:Int) (w:Wo),j+d=s.2.1[k].2.length->d<fuel->WOk s.2.1 n w->n+d<=99999->
  Zcg N rounds (k:Int) s.2.1 jM s b1 b2 b3 b4 K0 fuel (j:Int) w.now w.token w.mem.1 w.shelf.2 w.mem.2 w.shelf.1 w.holds (w.roots.map Rt.e) w.hist=
  K0 (s.2.1[k].2.length:Int) false (Wcl s k d j w).now (Wcl s k d j w).token (Wcl s k d j w).mem.1 (Wcl s k d j w).shelf.2 (Wcl s k d j w).mem.2 (Wcl s k d j w).shelf.1 (Wcl s k d j w).holds ((Wcl s k d j w).roots.map Rt.e) (Wcl s k d j w).hist:=by
 intro d;have cJ:Xd s.2.1 (Xb (k:Int)) (([]:List Ka),([]:List Kz))=s.2.1[k]:=Ws hk _
 induction d with
 |zero=>
  intro j fuel n w hj hf hw hn;obtain⟨f,rfl⟩:∃f,fuel=f+1:=⟨fuel-1,by omega⟩;have:decide ((j:Int)<Wb s.2.1[k].2)=false:=decide_eq_false (by unfold Wb;omega);simp only[Zcg,Wq,cJ,this,cond_false,Wcl];rw[show(j:Int)=(s.2.1[k].2.length:Int) by omega]
 |succ d ih=>
  intro j fuel n w hj hf hw hn;obtain⟨f,rfl⟩:∃f,fuel=f+1:=⟨fuel-1,by omega⟩;have:decide ((j:Int)<Wb s.2.1[k].2)=true:=decide_eq_true (by unfold Wb;omega);have hr:=Wlf (a:=(2,(k:Int),(j:Int))) hw (by omega) hN;simp only[Zcg,Wq,cJ,this,cond_true];rw[show((w.now,(w.token,((w.mem.1,w.mem.2),((w.shelf.1,w.shelf.2),(w.holds,(w.roots.map Rt.e,w.hist)))))):Y_World)=w.e from rfl,hr];simp only[Xc,Wg (show j<4611686018427387904 by omega)];rw[Wcl];exact ih (j+1) f (n+1) _ (by omega) (by omega) (WbO hw) (by omega)
theorem pk3(h:WOk s.2.1 n w){i:Nat}(hi:i<s.2.1.length):(s.2.1.getD i pg0).2.length<=3:=(Wgv h.progs hi).k3
theorem WmG:∀(d i:Nat) (n:Int) (w:Wo),i+d=s.2.1.length->WOk s.2.1 n w->∃n',n<=n'/\n'<=n+4*d/\WOk s.2.1 n' (Wav s d i w)
 |0,_,n,w,hi,h=>⟨n,by omega,by omega,by rw[Wav];exact h⟩
 |d+1,i,n,w,hi,h=>by
  have h1:=Wk6 (k:=i) (s.2.1.getD i pg0).2.length 0 (n+1) _ (WbO (a:=(1,(i:Int),0)) h);have h3:=pk3 h (i:=i) (by omega);obtain⟨n',a,b,c⟩:=WmG d (i+1) _ _ (by omega) h1;exact⟨n',by omega,by omega,by rw[Wav];exact c⟩
theorem WtR{R:Type}{rounds:Int}{b1 b2 b3 b4:Int}{K0:Int->Bool->Int->Int->Int->Int->List Kb->List Int->List Kb->List Y_Root->List Kq->Option R}(hN:1048576<N)(iN:s.2.1.length<=4):
  ∀(d i fuel:Nat) (n:Int) (w:Wo),i+d=s.2.1.length->d<fuel->WOk s.2.1 n w->n+4*d<=99999->
  Zbx N rounds s.2.1 s b1 b2 b3 b4 K0 fuel (i:Int) w.now w.token w.mem.1 w.shelf.2 w.mem.2 w.shelf.1 w.holds (w.roots.map Rt.e) w.hist=
  K0 (s.2.1.length:Int) false (Wav s d i w).now (Wav s d i w).token (Wav s d i w).mem.1 (Wav s d i w).shelf.2 (Wav s d i w).mem.2 (Wav s d i w).shelf.1 (Wav s d i w).holds ((Wav s d i w).roots.map Rt.e) (Wav s d i w).hist:=by
 intro d
 induction d with
 |zero=>
  intro i fuel n w hi hf hw hn;obtain⟨f,rfl⟩:∃f,fuel=f+1:=⟨fuel-1,by omega⟩;have:i=s.2.1.length:=by omega
  subst this;simp only[Zbx,Wau (Xm _),cond_false,Wav]
 |succ d ih=>
  intro i fuel n w hi hf hw hn;obtain⟨f,rfl⟩:∃f,fuel=f+1:=⟨fuel-1,by omega⟩;have hlt:i<s.2.1.length:=by omega
  have hr:=Wlf (a:=(1,(i:Int),0)) hw (by omega) hN;have hg:s.2.1.getD i pg0=s.2.1[i]:=Wf hlt _;have h3:=pk3 hw hlt;rw[hg]at h3;have xN:=WbO (a:=(1,(i:Int),0)) hw;have hk:=WvR (R:=R) (rounds:=rounds) (b1:=b1) (b2:=b2) (b3:=b3) (b4:=b4) (jM:=Wb s.2.1)
   (K0:=λuQ uR oh oi oj ol om oo oq ot ou=>(Zbx N rounds s.2.1 s b1 b2 b3 b4 K0 f (We .i64 (i:Int) (1:Int)) oh oi oj ol om oo oq ot ou)) hN hlt h3 s.2.1[i].2.length 0 N (n+1) _ (by omega) (by omega) xN (by omega)
  have aM:=Wk6 (k:=i) s.2.1[i].2.length 0 (n+1) _ xN;simp only[Zbx,Waa hlt,Wn hlt,cond_true];rw[show((w.now,(w.token,((w.mem.1,w.mem.2),((w.shelf.1,w.shelf.2),(w.holds,(w.roots.map Rt.e,w.hist)))))):Y_World)=w.e from rfl,hr];simp only[Xc];refine hk.trans ?_;simp only[Wg (show i<4611686018427387904 by omega)];rw[Wav,hg];exact ih (i+1) f _ _ (by omega) (by omega) aM (by omega)
theorem Wpd(hl:w.roots.length<=4)(hN:1048576<N):Zob N w.e=ret (WfE w):=by
 unfold Zob Za0 Z2;have e1:w.e.2.2.2.2.2.1=w.roots.map Rt.e:=rfl;rw[e1];have hb:(w.roots.map Rt.e).length<=4:=by simpa using hl
 have h1:=WD (l:=w.roots.map Rt.e) (V:=Unit) (R:=Unit×Kh) (lp:=λn j _=>Zl N (w.roots.map Rt.e) (λaN=>(some ((),(aN,())))) (λaL be=>(some ((),((-1:Int),())))) n j) (n:=N) (by omega)
  (body:=λj x v k=>bif (x.1 !=8)then some ((),(j,()))else k v) (K:=λ_ v=>some ((),((-1:Int),())))
  (λn i u hi=>by
   simp only[Zl,Zoi,Waa hi,Wn hi,Ws hi,Wg (show i<4611686018427387904 by omega),cond_true,Xc])
  (λn u=>by simp only[Zl,Wau (Xm _),cond_false]) ()
 have h2:∀(l:List Y_Root) (j:Nat),∃r:Int,Wb0 (λ(j:Int) (x:Y_Root) (v:Unit) (k:Unit->Option Kv)=>bif (x.1 !=8)then some ((),(j,()))else k v) (λ_ v=>some ((),((-1:Int),()))) l j ()=some ((),(r,()))/\(decide (r>=0)= !(l.all λx=>x.1==8)):=λl=>by
  induction l with
  |nil=>intro j;exact⟨-1,rfl,rfl⟩
  |cons x l ih=>
   intro j;rw[Wb0];cases hx:x.1==8 with
   |true=>
    have:(x.1 !=8)=false:=by rw[bne,hx];rfl
    simp only[this,cond_false];obtain⟨r,a,b⟩:=ih (j+1);exact⟨r,a,by rw[b,Xck,hx];rfl⟩
   |false=>
    have:(x.1 !=8)=true:=by rw[bne,hx];rfl
    simp only[this,cond_true];exact⟨j,rfl,by rw[Xck,hx];simp⟩
 obtain⟨r,a,b⟩:=h2 (w.roots.map Rt.e) 0;rw[h1.trans a];simp only[Xc,b,Bool.not_not];have:((w.roots.map Rt.e).all λx=>x.1==8)=WfE w:=by
  unfold WfE;rw[List.all_map];congr 1
 rw[this]
theorem Wuc{R:Type}{K0:Int->Bool->Int->Int->Int->Int->List Kb->List Int->List Kb->List Y_Root->List Kq->Option R}(hN:1048576<N)(iN:s.2.1.length<=4):
  ∀(d r fuel:Nat) (n:Int) (w:Wo),r+d=6000->d<fuel->WOk s.2.1 n w->n+16*d<=99999->
  Zby N s K0 fuel (r:Int) w.now w.token w.mem.1 w.shelf.2 w.mem.2 w.shelf.1 w.holds (w.roots.map Rt.e) w.hist=
  (λv:Wo×Nat=>K0 ((r+v.2:Nat):Int) false v.1.now v.1.token v.1.mem.1 v.1.shelf.2 v.1.mem.2 v.1.shelf.1 v.1.holds (v.1.roots.map Rt.e) v.1.hist) (Wag s d w):=by
 intro d
 induction d with
 |zero=>
  intro r fuel n w hr hf hw hn;obtain⟨f,rfl⟩:∃f,fuel=f+1:=⟨fuel-1,by omega⟩;have hl:w.roots.length<=4:=by rw[hw.len];exact iN
  simp only[Zby];rw[show((w.now,(w.token,((w.mem.1,w.mem.2),((w.shelf.1,w.shelf.2),(w.holds,(w.roots.map Rt.e,w.hist)))))):Y_World)=w.e from rfl,Wpd hl hN];have h6:decide ((r:Int)<6000)=false:=decide_eq_false (by omega);simp only[ret,Xc,h6,cond_false,Wag,Xaz];cases WfE w<;>rfl
 |succ d ih=>
  intro r fuel n w hr hf hw hn;obtain⟨f,rfl⟩:∃f,fuel=f+1:=⟨fuel-1,by omega⟩;have hl:w.roots.length<=4:=by rw[hw.len];exact iN
  simp only[Zby];rw[show((w.now,(w.token,((w.mem.1,w.mem.2),((w.shelf.1,w.shelf.2),(w.holds,(w.roots.map Rt.e,w.hist)))))):Y_World)=w.e from rfl,Wpd hl hN];have h6:decide ((r:Int)<6000)=true:=decide_eq_true (by omega);simp only[ret,Xc,h6,cond_true,Wag];cases ho:WfE w with
  |true=>rfl
  |false=>
   simp only[Bool.not_false,cond_true,Bool.false_eq_true,if_false];obtain⟨n',a,b,c⟩:=WmG s.2.1.length 0 n w (by omega) hw;have dV:=WtR (s:=s) (R:=R) (rounds:=We .i64 (r:Int) 1) (b1:=0) (b2:=0) (b3:=0) (b4:=0)
    (K0:=λuT uU ov oz oA oB oC oD oE oF oG=>(Zby N s K0 f (We .i64 (r:Int) (1:Int)) ov oz oA oB oC oD oE oF oG)) hN iN s.2.1.length 0 N n w (by omega) (by omega) hw (by omega)
   refine dV.trans ?_;simp only[Wg (show r<4611686018427387904 by omega)];rw[ih (r+1) f n' _ (by omega) (by omega) c (by omega)];simp only[show r+1+(Wag s d (Wav s s.2.1.length 0 w)).2=r+((Wag s d (Wav s s.2.1.length 0 w)).2+1) by omega]
theorem WrQ(hb:SB s)(hN:1048576<N)(aM:Wjw s=true):Zgk N s=some ((),((Wag s 6000 (WbU s)).1.e,(((Wag s 6000 (WbU s)).2:Int),()))):=by
 obtain⟨h1,h2,h3,h4⟩:=Wed aM;have hW:=Wkl aM;have hp:=Ws1 hb hN;unfold Zgk;rw[Wde hb hN,aM];simp only[ret,Xc,Bool.not_true,cond_false];rw[hp,if_pos aM];simp only[ret,Xc];have hlen:(s.2.2.length:Int)<=400:=by omega
 have:=Wuc (s:=s) (N:=N) (K0:=λdJ uV oH oI oJ oK oL oM oN oO oP=>(some ((),((oH,(oI,((oJ,oL),((oM,oK),(oN,(oO,oP)))))),(dJ,()))):Option (Unit×(Y_World×Kh)))) hN (by omega) 6000 0 N _ (WbU s) (by omega) (by omega) hW (by omega);refine this.trans ?_;simp only[Nat.zero_add];rfl
end
section
variable{s:Sc}{w v:Wo}{n:Int}{x y:Rt}{k:Nat}{p:Pg}{f g:Fm}{m:Mm}{o:Opn}
def WcR(p:Pg)(x:Rt):Int:=if x.phase<=4 then Wi p x-292 else Wi p x
def Wwy(p:Pg)(x y:Rt):Prop:=y.phase=1\/y.phase=2\/y.phase=8\/y.phase=3\/(y.phase=6/\y.fate=0)\/(y.phase=5/\Wi p y<=x.undos.length+36)
theorem Wk7:(WE x).phase=3\/((WE x).phase=6/\(WE x).fate=0):=by
 unfold WE;split
 .exact .inr ⟨rfl,rfl⟩
 .exact .inl rfl
theorem Wjv(hl:RLive p n x)(hk:k<=8){out:Int}:Wwy p x (Waz w x k out).2:=by
 unfold Waz;simp only;generalize (if out=2 then []else x.writes)=rows;split
 .exact .inr (.inr (.inl rfl))
 .have hc:CmOk (Wbb ((k:Int)+1) x.rv rows x.reads):=WlD (by omega) hl.rv;have:=(Wgp hc).2.1;have e:Wi p ({x with fate:=out,cm:=Wbb ((k:Int)+1) x.rv rows x.reads,phase:=5}:Rt)=W5 (Wbb ((k:Int)+1) x.rv rows x.reads)+x.undos.length+3:=rfl;refine .inr (.inr (.inr (.inr (.inr ⟨rfl,?_⟩))));show Wi p ({x with fate:=out,cm:=Wbb ((k:Int)+1) x.rv rows x.reads,phase:=5}:Rt)<=_;rw[e];omega
theorem Wug(hl:RLive p n x)(h1:x.phase=1)(hk:k<=8):Wwy p x (WgG w x k p).2:=by
 have one:∀y:Rt,y.phase=1->Wwy p x y:=λy h=>.inl h;have cf:∀z:Rt,Wwy p x (WE z):=λz=>by
  rcases Wk7 (x:=z)with h|h
  .exact .inr (.inr (.inr (.inl h)))
  .exact .inr (.inr (.inr (.inr (.inl h))))
 unfold WgG;split
 .exact Wjv hl hk
 .simp only;generalize opN p.1 x.pc=o;split
  .show Wwy p x (Wc0 w x o);unfold Wc0;cases Wbf x.writes o.2.2.1 with
   |some v=>exact one _ h1
   |none=>
    simp only;generalize WZ w.mem x.rv _=b;split
    .exact cf _
    .split<;>exact one _ h1
  .split
   .unfold WbW;split
    .exact Wjv hl hk
    .split<;>exact one _ h1
   .split
    .exact .inr (.inl rfl)
    .split
     .unfold WbR;cases WaS w.holds ((k:Int)+1) (WaH o).1 (WaH o).2 with
      |none=>exact cf _
      |some hs=>exact one _ h1
     .repeat' split
      all_goals exact one _ h1
theorem WsC(hp:POk p)(hx:ROk p n x)(ht:RT x)(hg:RGd m x):1<=WcR p x:=by
 have it:=(WbG hp hx ht).2.2;have aY:=hg.ph;have hs:=hg.sp;unfold WcR;by_cases h1:x.phase=1
 .have:=Wej hp.code (hx.live (by omega)) ht h1;rw[if_pos (by omega)];omega
 by_cases h2:x.phase=2
 .have hl:=hx.live (by omega);have aQ:=hl.pc;have hlen:=hp.code.len;have h0:=Wo2 x.fam x.fam.kids;rw[if_pos (by omega),Wov h2,if_neg (by rw[(hg.fam h2).lost];simp)];unfold WlI WaV;omega
 .rw[if_neg (by omega)];exact it (by omega)
theorem Ww3(hp:POk p)(hx:ROk p n x)(qs:RX x)(ht:RT x)(hk:k<=8)(hg:RGd w.mem x)(hh:∀e∈w.holds,e.1=(k:Int)+1)(hm:W0 w.mem=true)(hb:LB w k x)(ir:w.mem.1<1000000):
  (WY w x k p).2.phase=8\/(RGd (WY w x k p).1.mem (WY w x k p).2/\(WcR p (WY w x k p).2<WcR p x\/(x.phase=2/\x.fam.lost≠true/\Wa4 x.fam≠true/\(WY w x k p).2=x))):=by
 rcases Wt9 hp hx hg ht hh hm hb ir with h8|hy
 .exact .inl h8
 refine .inr ⟨hy,?_⟩;have aY:=hg.ph;have vN:=hy.ph;rcases Wkc (w:=w) hp hx qs ht hk (by omega)with hlt|hwt
 .left;have hs:=hg.sp;by_cases h1:x.phase=1
  .have hl:=hx.live (by omega);have ho:=Wug (w:=w) hl h1 hk;have pC:=Wej hp.code hl ht h1;have e:WY w x k p=WgG w x k p:=by
    unfold WY;rw[if_neg (by rw[hg.dm];simp),if_neg (by omega),if_pos h1]
   rw[e]at hy vN hlt⊢;have lK:=hy.ft;unfold WcR;rw[if_pos (show x.phase<=4 by omega)];rcases ho with h|h|h|h|h|h
   .rw[if_pos (by omega)];omega
   .rw[if_pos (by omega)];omega
   .omega
   .omega
   .exact absurd h.2 (lK (by omega))
   .rw[if_neg (by omega)];omega
  by_cases h2:x.phase=2
  .have e:(WY w x k p).2=WbT x:=by
    unfold WY;rw[if_neg (by rw[hg.dm];simp),if_neg (by omega),if_neg h1,if_pos h2]
   rw[e]at hlt⊢;have e2:(WbT x).phase<=4:=by
    unfold WbT;rw[if_neg (by rw[(hg.fam h2).lost];simp)];split
    .show(1:Int)<=4;omega
    .omega
   unfold WcR;rw[if_pos e2,if_pos (by omega)];omega
  .unfold WcR;rw[if_neg (show¬x.phase<=4 by omega)];split<;>omega
 .exact .inr hwt
theorem Wu7{z:Kd}{j:Nat}{c:List Opn}(h:z.phase=3):Wea m f z j c=(f,z):=by
 unfold Wea;rw[if_neg (by omega),if_neg (by omega),if_neg (by omega)]
theorem WqA(h:Wa4 f=true){j:Nat}(hj:j<f.kids.length){c:List Opn}:Wcy m f j c=f:=by
 unfold Wcy;split
 .rfl
 .have h3:f.kids[j].phase=3:=by
   unfold Wa4 at h;rw[Xae]at h;simpa using h _ (Xw hj)
  rw[show f.kids.getD j {}=f.kids[j]from Wf hj _,Wu7 h3];unfold Fm.put;simp only;rw[Xbh]
variable{codes:List (List Opn)}
theorem Wic(h:Wa4 f=true):∀(d i:Nat),i+d=f.kids.length->WbV m codes d i f=f
 |0,_,_=>rfl
 |d+1,i,hi=>by rw[WbV,WqA h (by omega)];exact Wic h d (i+1) (by omega)
theorem WlQ(hm:W0 m=true)(bb:∀c∈codes,KC c)(h3:codes.length<=3):∀(d i:Nat) (n:Int) (f:Fm),i+d=codes.length->FOk codes n f->(∀(j:Nat) (h:j<f.kids.length),KT f j f.kids[j])->FGd m f->FGd m (WbV m codes d i f)
 |0,_,_,_,_,_,_,hg=>hg
 |d+1,i,n,f,hi,hF,hT,hg=>by
  have hlen:=hF.len;have hc:KC (codes.getD i []):=by rw[Wf (show i<codes.length by omega) _];exact bb _ (Xw _)
  have xO:=Wuh (k:=i) hF hT hg (by omega) hc;rw[WbV];refine WlQ hm bb h3 d (i+1) (n+1) _ (by omega) (Wln (by omega) hm hc hF rfl) ?_ xO;rcases WoE hm bb h3 hF hT (k:=i) (by omega)with h|h
  .rw[xO.lost]at h;cases h
  .exact h
def Wah(m:Mm)(p:Pg)(d i:Nat)(x:Rt):Rt:=if x.phase=2 then{x with fam:=WbV m p.2 d i x.fam}else x
theorem Wpa:∀(d j:Nat) (w:Wo) (hk:k<w.roots.length),j+d=(s.2.1.getD k pg0).2.length->
  Wcl s k d j w={w with now:=w.now+d,roots:=w.roots.set k (Wah w.mem (s.2.1.getD k pg0) d j w.roots[k])}
 |0,j,w,hk,hj=>by
  have:Wah w.mem (s.2.1.getD k pg0) 0 j w.roots[k]=w.roots[k]:=by
   unfold Wah;split<;>rfl
  rw[Wcl,this,Xbh];simp
 |d+1,j,w,hk,hj=>by
  rw[Wcl];have hb:0<=(k:Int)/\(k:Int)<w.roots.length:=by omega
  have hg:w.roots.getD k rt0=w.roots[k]:=Wf hk _;have e:Wc2 s w (2,(k:Int),(j:Int))={w with now:=w.now+1,roots:=w.roots.set k (Wah w.mem (s.2.1.getD k pg0) 1 j w.roots[k])}:=by
   unfold Wc2;simp only[Xj];rw[if_pos hb,if_neg (by omega),if_pos trivial,hg];unfold Wah;by_cases h2:w.roots[k].phase=2
   .rw[if_pos ⟨h2,by omega,by omega⟩,if_pos h2];rfl
   .rw[if_neg (λh=>h2 h.1),if_neg h2,Xbh]
  have cu:k<(Wc2 s w (2,(k:Int),(j:Int))).roots.length:=by rw[e];show k<(w.roots.set k _).length;rw[Xab];exact hk
  rw[Wpa d (j+1) _ cu (by omega)];have e1:(Wc2 s w (2,(k:Int),(j:Int))).roots[k]=Wah w.mem (s.2.1.getD k pg0) 1 j w.roots[k]:=by
   simp only[e,List.getElem_set_self]
  rw[e1,e];simp only[List.set_set];have e2:Wah w.mem (s.2.1.getD k pg0) d (j+1) (Wah w.mem (s.2.1.getD k pg0) 1 j w.roots[k])=Wah w.mem (s.2.1.getD k pg0) (d+1) j w.roots[k]:=by
   unfold Wah;by_cases h2:w.roots[k].phase=2
   .rw[if_pos h2,if_pos h2,if_pos h2];rfl
   .rw[if_neg h2,if_neg h2,if_neg h2]
  rw[e2];congr 1;omega
end
end Go.Sx
