/- Plain laws of the Lean functions. -/
import Derived.Test.YtceijnpnofmkkaaGreatMW4
open List renaming mem_map→Xx,mem_filter→Xar,eq_nil_of_length_eq_zero→Xt,getElem_mem→Xw,length_set→Xy,getElem_set→Xam,length_map→Xad,getElem_map→Xdu,getElem_replicate→Xbe,getD→Xc,getD_eq_getElem?_getD→Xac,length→Xb,dropLast_concat_getLast→Xff,drop_append_of_le_length→Xdd,drop_zero→Xbm,drop_length→Xcn,mem_of_mem_take→Xbf,map_append→Xu,map_cons→Xag,map_nil→Xbd,take_length→Xcu,getElem_of_mem→Xbc,all_eq_true→Xah,replicate→Xo,all_cons→Xcf,set_getElem_self→Xap,getElem_set_self→Xdg,set_set→Xcq,append→Xe,ext_getElem→Xec
open Int renaming le_refl→Xab,toNat_natCast→Xi,toNat→Xa
open Nat renaming zero_le→Xbp,le_refl→Xn
open Bool renaming and_eq_true→Xj,not_true→Xv
open Option renaming bind_some→Xd
namespace Go.Sx
set_option linter.unusedVariables false
set_option linter.unusedSimpArgs false
section
structure LB(w:Wo)(k:Nat)(x:Rt):Prop where
 cm:x.phase=5->x.cm.who=(k:Int)+1/\CmLk w.mem x.cm
 no:x.phase≠5->∀i,0<=i->i<=7->owner w.mem i≠(k:Int)+1
 hd:∀h∈w.holds,h.1=(k:Int)+1->x.phase≠0/\x.phase≠8
 tk:w.token=(k:Int)+1->x.tries>=3/\x.phase≠8
structure LQ(w:Wo)(k:Nat)(q:Wo×Rt):Prop where
 b:LB q.1 k q.2
 oth:∀who,who≠(k:Int)+1->who≠0->∀i,0<=i->i<=7->(owner q.1.mem i=who↔owner w.mem i=who)/\(owner w.mem i=who->WN q.1.mem i=WN w.mem i)
 clk:w.mem.1<=q.1.mem.1
 hdo:∀h∈q.1.holds,h.1≠(k:Int)+1->∃h'∈w.holds,h'.1=h.1
 tko:q.1.token≠0->q.1.token≠(k:Int)+1->q.1.token=w.token
section
variable{w:Wo}{x:Rt}{k:Nat}{p:Pg}{q:Wo×Rt}{o:Opn}{n:Int}
theorem LQ.of(hm:q.1.mem=w.mem)(hh:q.1.holds=w.holds)(ht:q.1.token=w.token)(hb:LB q.1 k q.2):LQ w k q:=
 ⟨hb,λwho h1 h0 i a b=>by rw[hm];exact⟨Iff.rfl,λ_=>rfl⟩,by rw[hm];omega,λh fS _=>⟨h,by rw[←hh];exact fS,rfl⟩,λ_ _=>ht⟩
theorem LQ.keep(hb:LB w k x)(hm:q.1.mem=w.mem)(hh:q.1.holds=w.holds)(ht:q.1.token=w.token)(h5:x.phase≠5)(hp:q.2.phase≠0/\q.2.phase≠5/\q.2.phase≠8)(rH:q.2.tries=x.tries):LQ w k q:=
 LQ.of hm hh ht ⟨λh=>Wj h hp.2.1,λ_=>by rw[hm];exact hb.no h5,λh fS hk=>⟨hp.1,hp.2.2⟩,λh=>by rw[ht]at h;rw[rH];exact⟨(hb.tk h).1,hp.2.2⟩⟩
theorem Wjq:(WF x).phase≠0/\(WF x).phase≠5/\(WF x).phase≠8:=by
 unfold WF WdA;split<;>simp
theorem WvZ(h1:x.phase=1):(Wdm w x o).phase≠0/\(Wdm w x o).phase≠5/\(Wdm w x o).phase≠8:=by
 unfold Wdm;cases WaF x.writes o.2.2.1 with
 |some v=>simp only;omega
 |none=>
  simp only;generalize WM w.mem x.rv _=b;split
  .exact Wjq
  .split<;>(simp only;omega)
theorem Wos{l:List Hd}{who:Int}(h:(Wea l who).length=0):∀e∈l,e.1≠who:=λe he hw=>by
 have:e.2.1∈Wea l who:=Xx.2 ⟨e,Xar.2 ⟨he,by simpa using hw⟩,rfl⟩;rw[Xt h]at this;cases this
theorem Wvz(du:∀i,0<=i->i<=7->owner w.mem i≠(k:Int)+1)(hh:∀e∈w.holds,e.1≠(k:Int)+1):LQ w k (WjE w x k):=by
 unfold WjE;refine⟨⟨λh=>by(change (8:Int)=5 at h;omega),λ_=>du,λh fS hk=>Wj hk (hh h fS),λh=>?_⟩,λwho h1 h0 i a b=>⟨Iff.rfl,λ_=>rfl⟩,Xab _,λh fS _=>⟨h,fS,rfl⟩,λh0 h1=>?_⟩
 .change (if w.token=(k:Int)+1 then 0 else w.token)=(k:Int)+1 at h;split at h<;>omega
 .change (if w.token=(k:Int)+1 then 0 else w.token)≠0 at h0;show(if w.token=(k:Int)+1 then 0 else w.token)=w.token;split
  .rename_i hc;rw[Wb hc]at h0;exact Wj rfl h0
  .rfl
theorem Wpq(hb:LB w k x)(h1:x.phase=1){out:Int}:LQ w k (WaT w x k out):=by
 have du:=hb.no (by omega);unfold WaT;simp only;generalize hr:(if out=2 then []else x.writes)=rows;split
 .rename_i hc;exact Wvz du (Wos hc.2)
 .refine LQ.of rfl rfl rfl ⟨λ_=>⟨rfl,?_⟩,λh=>Wj rfl h,λh hh hk=>by(show(5:Int)≠0/\(5:Int)≠8;omega),λh=>⟨(hb.tk h).1,by show(5:Int)≠8;omega⟩⟩;have yh:∀i,¬lkd (Wbj ((k:Int)+1) x.rv rows x.reads) i:=λi ⟨j,hj,a,b⟩=>by
   change j<(WbF rows).length at hj;have bX:(Wbj ((k:Int)+1) x.rv rows x.reads).phase=1:=by show(if(WbF rows).length=0 then(2:Int)else 1)=1;rw[Wa (by omega)]
   have cJ:(Wbj ((k:Int)+1) x.rv rows x.reads).pos=0:=rfl;unfold lkA at b;omega
  refine⟨λi h0 h7=>⟨λh=>Wj h (du i h0 h7),λh=>Wj h (yh i)⟩,λh3=>?_⟩;have bX:(Wbj ((k:Int)+1) x.rv rows x.reads).phase=1\/(Wbj ((k:Int)+1) x.rv rows x.reads).phase=2:=by
   show(if(WbF rows).length=0 then(2:Int)else 1)=1\/(if(WbF rows).length=0 then(2:Int)else 1)=2;split<;>simp
  exfalso;change (Wbj ((k:Int)+1) x.rv rows x.reads).phase=3\/(Wbj ((k:Int)+1) x.rv rows x.reads).phase=4\/(Wbj ((k:Int)+1) x.rv rows x.reads).phase=5 at h3;omega
theorem WuY(hb:LB w k x)(h1:x.phase=1){code:List Opn}:LQ w k (WcD w x k code):=by
 unfold WcD;split
 .exact Wpq hb h1
 .split
  .exact LQ.keep hb rfl rfl rfl (by omega) (by unfold Wd1;simp only;omega) rfl
  .exact LQ.keep hb rfl rfl rfl (by omega) (by simp only;omega) rfl
theorem Wt1(hd:x.doomed=false)(hb:LB w k x)(h1:x.phase=1)(hH:HOk w.holds):LQ w k (Wcd w x k o):=by
 unfold Wcd;cases ha:WaY w.holds ((k:Int)+1) (WaU o).1 (WaU o).2 with
 |none=>exact LQ.keep hb rfl rfl rfl (by omega) Wjq (Wf5 hd).2.2
 |some hs=>
  have hmem:∀e∈hs,e.1≠(k:Int)+1->e∈w.holds:=λe he hne=>by
   unfold WaY at ha;split at ha
   .injection ha with ha;subst ha;unfold Whf at he;rcases(WbA Wo3 hH.ris).1 he with rfl|he
    .exact Wj rfl hne
    .exact he.1
   .cases ha
  exact⟨⟨λh=>by(change x.phase=5 at h;omega),λ_=>hb.no (by omega),λh hh hk=>by(show x.phase≠0/\x.phase≠8;omega),λh=>⟨(hb.tk h).1,by show x.phase≠8;omega⟩⟩,
   λwho h1 h0 i a b=>⟨Iff.rfl,λ_=>rfl⟩,Xab _,λh hh hne=>⟨h,hmem h hh hne,rfl⟩,λ_ _=>rfl⟩
theorem WwS(hd:x.doomed=false)(hb:LB w k x)(h1:x.phase=1)(hH:HOk w.holds):LQ w k (WfG w x k p):=by
 unfold WfG;split
 .exact Wpq hb h1
 .simp only;generalize opN p.1 x.pc=o;split
  .exact LQ.keep hb rfl rfl rfl (by omega) (WvZ h1) (WtL hd (by omega)).2.2
  .split
   .exact WuY hb h1
   .split
    .exact LQ.keep hb rfl rfl rfl (by omega) (by simp only;omega) rfl
    .split
     .exact Wt1 hd hb h1 hH
     .repeat' split
      all_goals exact LQ.keep hb rfl rfl rfl (by omega) (by simp only;omega) rfl
theorem WwB(hb:LB w k x)(h0:x.phase=0):LQ w k (WfA w x k):=by
 unfold WfA;split
 .exact LQ.of rfl rfl rfl hb
 .split
  .rename_i hc;exact⟨⟨hb.cm,hb.no,hb.hd,λ_=>⟨hc.1,by show x.phase≠8;omega⟩⟩,λwho h1 h0 i a b=>⟨Iff.rfl,λ_=>rfl⟩,Xab _,λh hh _=>⟨h,hh,rfl⟩,λ_ hne=>Wj rfl hne⟩
  .split
   .exact LQ.of rfl rfl rfl hb
   .exact LQ.keep hb rfl rfl rfl (by omega) (by simp only;omega) rfl
theorem WrY(hb:LB w k x)(h5:x.phase=5)(hc:CmOk x.cm)(hm:W3 w.mem=true):LQ w k (WaW w x k):=by
 obtain⟨hw,hcl⟩:=hb.cm h5;have oc:∀c:Cm,c.phase=6\/c.phase=8->∀i,¬lkd c i:=λc bX i ⟨j,hj,a,b⟩=>by unfold lkA at b;omega
 unfold WaW;split
 .have Ak:=Wrf hc hcl;have Al:=WoX x.cm;split
  .rename_i h8;refine LQ.of rfl rfl rfl ⟨λh=>by(change (6:Int)=5 at h;omega),λ_ i a b=>?_,λh hh hk=>by(show(6:Int)≠0/\(6:Int)≠8;omega),λh=>⟨(hb.tk h).1,by show(6:Int)≠8;omega⟩⟩;intro ho;exact oc _ (.inr h8) i ((Ak.own i a b).1 (by rw[Al,hw];exact ho))
  .exact LQ.of rfl rfl rfl ⟨λ_=>⟨by show(WaB x.cm).who=_;rw[Al,hw],Ak⟩,λh=>Wj h5 h,hb.hd,hb.tk⟩
 .have hs:=WtF hc hm hcl;have u3:=Wj5 w.mem x.cm;have hP:=λwho (a:who≠(k:Int)+1) (b:who≠0) (i:Int) (c:0<=i) (d:i<=7)=>Wkg (i:=i) hc hm (who:=who) (by rw[hw];exact a) b ⟨c,d⟩;have ye:=WhZ w.mem x.cm;simp only;refine⟨?_,hP,ye,λh hh _=>⟨h,hh,rfl⟩,λ_ _=>rfl⟩;have du:(WD w.mem x.cm).2.phase=6\/(WD w.mem x.cm).2.phase=8->∀i,0<=i->i<=7->owner (WD w.mem x.cm).1 i≠(k:Int)+1:=λbX i a b ho=>oc _ bX i ((hs.own i a b).1 (by rw[u3,hw];exact ho));generalize (WD w.mem x.cm).1=m' at*;generalize (WD w.mem x.cm).2=c' at*;unfold WcL;simp only;by_cases h8:c'.phase=8
  .rw[Wb h8];exact⟨λh=>by(change (6:Int)=5 at h;omega),λ_=>du (.inr h8),λh hh hk=>by(show(6:Int)≠0/\(6:Int)≠8;omega),λh=>⟨(hb.tk h).1,by show(6:Int)≠8;omega⟩⟩
  .rw[Wa h8];by_cases h6:c'.phase=6
   .rw[Wb h6];have bX:(if x.fate=2 then(6:Int)else 7)=6\/(if x.fate=2 then(6:Int)else 7)=7:=by split<;>simp
    generalize (if x.fate=2 then(6:Int)else 7)=ph at*;exact⟨λh=>by(change ph=5 at h;omega),λ_=>du (.inl h6),λh hh hk=>by(show ph≠0/\ph≠8;omega),λh=>⟨(hb.tk h).1,by show ph≠8;omega⟩⟩
   .rw[Wa h6];exact⟨λ_=>⟨by show c'.who=_;rw[u3,hw],hs⟩,λh=>Wj h5 h,hb.hd,hb.tk⟩
theorem Wwt(hx:RX x)(ho:ROk p n x)(hg:GOk w)(hb:LB w k x):LQ w k (Wan w x k p):=by
 have bX:=ho.phase;unfold Wan;by_cases hd:x.doomed=true/\1<=x.phase/\x.phase<=4
 .rw[Wb hd];exact LQ.keep hb rfl rfl rfl (by omega) (by unfold WdA;simp) rfl
 rw[Wa hd];have ii:x.phase≠5->x.doomed=false:=λh5=>by
  rw[Bool.eq_false_iff];intro h;rcases hx.doom h with h1|h1
  .exact hd ⟨h,h1⟩
  .exact h5 h1.1
 by_cases h0:x.phase=0
 .rw[Wb h0];exact WwB hb h0
 rw[Wa h0];by_cases h1:x.phase=1
 .rw[Wb h1];exact WwS (ii (by omega)) hb h1 hg.holds
 rw[Wa h1];by_cases h2:x.phase=2
 .rw[Wb h2];refine LQ.keep hb rfl rfl rfl (by omega) ?_ (WtA (w:=w) (ii (by omega)) (by omega)).tries;unfold Wco WdA
  repeat' split
  all_goals(simp only;omega)
 rw[Wa h2];by_cases h3:x.phase=3
 .rw[Wb h3];refine LQ.keep hb (Wjj (ii (by omega)) (by omega)).mem ?_ ?_ (by omega) ?_ (Wjj (ii (by omega)) (by omega)).tries
  all_goals(unfold WbT Wd1;split<;>first|rfl|(simp only;omega))
 rw[Wa h3];by_cases h4:x.phase=4
 .rw[Wb h4];refine LQ.keep hb rfl rfl rfl (by omega) ?_ (WnR (w:=w) (ii (by omega)) (by omega)).tries;unfold Wbq WdA;simp only
  repeat' split
  all_goals(simp only;omega)
 rw[Wa h4];by_cases h5:x.phase=5
 .rw[Wb h5];exact WrY hb h5 (ho.comm h5) hg.mem
 rw[Wa h5];by_cases h6:x.phase=6
 .rw[Wb h6];by_cases hz:x.undos.length>0
  .rw[Wb hz];exact LQ.keep hb rfl rfl rfl (by omega) (by unfold Wd1;simp only;omega) rfl
  .rw[Wa hz];exact LQ.keep hb rfl rfl rfl (by omega) (by simp only;omega) rfl
 rw[Wa h6];by_cases h7:x.phase=7
 .rw[Wb h7];have hfree:∀e∈Wab w.holds ((k:Int)+1),e.1≠(k:Int)+1/\e∈w.holds:=λe he=>by
   have:=Xar.1 he;exact⟨by simpa using this.2,this.1⟩
  have du:=hb.no (by omega);by_cases hf:x.fate=0
  .rw[Wb hf];refine⟨⟨λh=>by(change (0:Int)=5 at h;omega),λ_=>du,λh hh hk=>Wj hk (hfree h hh).1,λh=>⟨?_,by show(0:Int)≠8;omega⟩⟩,λwho h1 h0 i a b=>⟨Iff.rfl,λ_=>rfl⟩,Xab _,λh hh _=>⟨h,(hfree h hh).2,rfl⟩,λ_ _=>rfl⟩;have:=(hb.tk h).1;show x.tries+1>=3;omega
  .rw[Wa hf];have:=Wvz (w:={w with holds:=Wab w.holds ((k:Int)+1)}) (x:=x) du (λe he=>(hfree e he).1);exact⟨this.b,this.oth,this.clk,λh hh hne=>by obtain⟨h',a,b⟩:=this.hdo h hh hne;exact⟨h',(hfree h' a).2,b⟩,this.tko⟩
 .rw[Wa h7];exact LQ.of rfl rfl rfl hb
end
structure LX(w:Wo):Prop where
 root:∀(k:Nat) (h:k<w.roots.length),LB w k w.roots[k]
 ow:∀i,0<=i->i<=7->owner w.mem i=0\/∃k:Nat,k<w.roots.length/\owner w.mem i=(k:Int)+1
 hd:∀h∈w.holds,∃k:Nat,k<w.roots.length/\h.1=(k:Int)+1
 tk:w.token=0\/∃k:Nat,k<w.roots.length/\w.token=(k:Int)+1
section
variable{s:Sc}{w v:Wo}{n:Int}{a:Ac}{k:Nat}{q:Wo×Rt}
theorem LB.other{j:Nat}{y:Rt}(h:LB w j y)(hq:LQ w k q)(hne:j≠k)(hc:y.phase=5->CmOk y.cm):LB q.1 j y:=by
 have hw:((j:Int)+1)≠(k:Int)+1:=by omega
 have ho:=hq.oth ((j:Int)+1) hw (by omega);refine⟨λh5=>?_,λh5 i a b hz=>h.no h5 i a b ((ho i a b).1.1 hz),λe he hk=>?_,λhz=>?_⟩
 .obtain⟨c1,c2⟩:=h.cm h5;refine⟨c1,λi a b=>?_,λh3=>?_⟩
  .rw[c1,(ho i a b).1,←c1];exact c2.own i a b
  .obtain⟨v1,v2⟩:=c2.ver h3;refine⟨Int.le_trans v1 hq.clk,λi hi=>?_⟩;obtain⟨l,hl,e1,e2⟩:=hi;have hr:=(hc h5).rows _ (Xw hl);have ik:lkd y.cm i:=⟨l,hl,e1,e2⟩;have hown:=(c2.own i (by omega) (by omega)).2 ik;rw[(ho i (by omega) (by omega)).2 (by rw[hown,c1])];exact v2 i ik
 .obtain⟨h',a,b⟩:=hq.hdo e he (by rw[hk];exact hw);exact h.hd h' a (b.trans hk)
 .exact h.tk ((hq.tko (by omega) (by omega)).symm.trans hz)
theorem Wtb{w0:Wo}(hx:LX w0)(hk:k<w0.roots.length)(hr:q.1.roots=w0.roots)(hq:LQ w0 k q)(hc:∀(i:Nat) (h:i<w0.roots.length),w0.roots[i].phase=5->CmOk w0.roots[i].cm):LX (Wo.put q k):=by
 have hlen:(q.1.roots.set k q.2).length=w0.roots.length:=by rw[Xy,hr]
 have hmem:∀i,owner (Wo.put q k).mem i=owner q.1.mem i:=λ_=>rfl;refine⟨λi hi=>?_,λi a b=>?_,λe he=>?_,?_⟩
 .change i<(q.1.roots.set k q.2).length at hi;have lW:i<w0.roots.length:=by rw[←hlen];exact hi
  have hD:∀y,LB q.1 i y->LB (Wo.put q k) i y:=λy hy=>⟨hy.cm,hy.no,hy.hd,hy.tk⟩;show LB (Wo.put q k) i ((q.1.roots.set k q.2)[i]'hi);rw[Xam];by_cases he:k=i
  .subst he;rw[Wb rfl];exact hD _ hq.b
  .rw[Wa he];simp only[hr];exact hD _ ((hx.root i lW).other hq (λh=>he h.symm) (hc i lW))
 .show owner q.1.mem i=0\/∃j:Nat,j<(q.1.roots.set k q.2).length/\owner q.1.mem i=(j:Int)+1;rw[hlen];by_cases h0:owner q.1.mem i=0
  .exact .inl h0
  .by_cases h1:owner q.1.mem i=(k:Int)+1
   .exact .inr ⟨k,hk,h1⟩
   .have:=(hq.oth _ h1 h0 i a b).1.1 rfl;rw[←this];exact hx.ow i a b
 .show∃j:Nat,j<(q.1.roots.set k q.2).length/\e.1=(j:Int)+1;rw[hlen];by_cases h1:e.1=(k:Int)+1
  .exact⟨k,hk,h1⟩
  .obtain⟨h',a,b⟩:=hq.hdo e he h1;rw[←b];exact hx.hd h' a
 .show q.1.token=0\/∃j:Nat,j<(q.1.roots.set k q.2).length/\q.1.token=(j:Int)+1;rw[hlen];by_cases h0:q.1.token=0
  .exact .inl h0
  .by_cases h1:q.1.token=(k:Int)+1
   .exact .inr ⟨k,hk,h1⟩
   .rw[hq.tko h0 h1];exact hx.tk
theorem Wty(h:WOk s.2.1 n w)(hx:WX w)(hl:LX w):LX (WhB s w a):=by
 have bs:LX {w with now:=w.now+1}:=⟨λk hk=>⟨(hl.root k hk).cm,(hl.root k hk).no,(hl.root k hk).hd,(hl.root k hk).tk⟩,hl.ow,hl.hd,hl.tk⟩;have hc:∀(i:Nat) (h:i<({w with now:=w.now+1}:Wo).roots.length),({w with now:=w.now+1}:Wo).roots[i].phase=5->CmOk ({w with now:=w.now+1}:Wo).roots[i].cm:=λi hi h5=>(h.root i hi).comm h5;unfold WhB;simp only;split
 .rename_i hb;have hk:a.2.1.toNat<w.roots.length:=by omega
  have hD:=bs.root _ hk;rw[Wn hk];split
  .unfold WmG;rw[Wn (show a.2.1.toNat<({w with now:=w.now+1}:Wo).roots.length from hk)];exact Wtb bs hk (Wnx h hk) (Wwt (n:=n) (hx _ hk) (h.root _ hk) ⟨h.mem,h.shelf,h.holds⟩ hD) hc
  .split
   .split
    .exact Wtb (w0:={w with now:=w.now+1}) bs hk rfl (LQ.of rfl rfl rfl ⟨hD.cm,hD.no,hD.hd,hD.tk⟩) hc
    .exact bs
   .split
    .split
     .exact Wtb (w0:={w with now:=w.now+1}) bs hk rfl (LQ.of rfl rfl rfl ⟨hD.cm,hD.no,hD.hd,hD.tk⟩) hc
     .exact bs
    .exact bs
 .exact bs
theorem Wwp(aV:Wp9 s=true):LX (Wez s):=by
 obtain⟨h1,h2,h3,h4⟩:=WkY aV;have ub:∀i,0<=i->i<=7->owner (Wez s).mem i=0:=λi a b=>by
  unfold owner WN Wa0 Wez Wgt;simp only;have:=h1.cells.len;rw[Wn (show i.toNat<(s.1.1.map wd0).length by rw[Xad];omega),Xdu];rfl
 refine⟨λk hk=>?_,λi a b=>.inl (ub i a b),(λh hh=>by cases hh),.inl rfl⟩;have hr:(Wez s).roots[k]={}:=by simp only[Wez,Xbe]
 rw[hr];exact⟨λh=>by(change (0:Int)=5 at h;omega),(λ_ i a b=>by rw[ub i a b];omega),(λh hh=>by cases hh),λh=>by(change (0:Int)=(k:Int)+1 at h;omega)⟩
end
end
section
structure CGd(m:Mm)(c:Cm):Prop where
 ph:1<=c.phase/\c.phase<=5
 sole:∀i,0<=i->i<=7->owner m i=0\/owner m i=c.who
 ver:c.phase<=3->∀i,0<=i->i<=7->(WN m i).2.1<=c.rv
variable{m:Mm}{c:Cm}
theorem Wpi(ph:Int)(h:ph=2\/ph=3\/ph=4\/ph=5\/ph=6):2<=Wbb c ph/\Wbb c ph<=6/\ph<=Wbb c ph:=by
 unfold Wbb;split
 .omega
 .split<;>omega
theorem Wgk{ph:Int}(h:ph=2\/ph=3\/ph=4\/ph=5\/ph=6)(hc:1<=c.phase/\c.phase<=5)(hle:c.phase<=ph):1<=(WP c ph).phase/\(WP c ph).phase<=6/\c.phase<=(WP c ph).phase/\(WP c ph).rv=c.rv/\(WP c ph).who=c.who:=by
 unfold WP;split
 .have:=Wpi (c:=c) ph h;show 1<=Wbb c ph/\Wbb c ph<=6/\c.phase<=Wbb c ph/\_/\_;exact⟨by omega,by omega,by omega,rfl,rfl⟩
 .exact⟨by show 1<=c.phase;omega,by show c.phase<=6;omega,Xab _,rfl,rfl⟩
theorem Wix(hc:CmOk c)(hm:W3 m=true)(hk:CmLk m c)(hg:CGd m c)(dW:m.1<1000000):1<=(WD m c).2.phase/\(WD m c).2.phase<=6/\(WD m c).2.rv=c.rv/\
  ((WD m c).2.phase<=3->∀i,0<=i->i<=7->(WN (WD m c).1 i).2.1<=c.rv):=by
 have bX:=hg.ph;have hpos:=hc.pos;unfold Cm.steps at hpos;have yi:∀j:Nat,(h:j<c.puts.length)->0<=c.puts[j].1/\c.puts[j].1<=7:=λj h=>(hc.rows _ (Xw h)).1;unfold WD;simp only;by_cases p1:c.phase=1
 .rw[Wb p1];rw[p1]at hpos;simp at hpos;obtain⟨j,hj⟩:∃j:Nat,c.pos=j:=⟨c.pos.toNat,by omega⟩;have hjl:j<c.puts.length:=by omega
  have br:Wa0 c.puts c.pos (0,0)=c.puts[j]:=by unfold Wa0;rw[hj,Xi];exact Wn hjl _
  have hb:=yi j hjl;have du:¬lkd c c.puts[j].1:=λ⟨i,hi,a,b⟩=>by
   have hij:i<j:=by unfold lkA at b;omega
   have:=List.pairwise_iff_getElem.1 hc.pup i j hi hjl hij;omega
  have hown:(WN m c.puts[j].1).2.2=0:=by
   rcases hg.sole _ hb.1 hb.2 with h|h
   .exact h
   .exact Wj ((hk.own _ hb.1 hb.2).1 h) du
  rw[br,Wb hown];obtain⟨a,b,_,d,_⟩:=Wgk (c:=c) (ph:=2) (by omega) bX (by omega);refine⟨a,b,d,λ_ i h0 h7=>?_⟩;show(WN (WjW m c.puts[j].1 c.who) i).2.1<=c.rv;unfold WjW;rw[Wc0 hm hb ⟨h0,h7⟩];split
  .exact hg.ver (by omega) _ hb.1 hb.2
  .exact hg.ver (by omega) i h0 h7
 rw[Wa p1];by_cases p2:c.phase=2
 .rw[Wb p2];have kC:tick m=((m.1+1,m.2),m.1+1):=by unfold tick;rw[Wb dW]
  have h0:=(WO hm).2.1;rw[kC,Wa (show¬m.1+1=0 by omega)];have:=Wpi (c:={c with wv:=m.1+1}) 3 (by omega);exact⟨by show 1<=Wbb {c with wv:=m.1+1} 3;omega,by show Wbb {c with wv:=m.1+1} 3<=6;omega,rfl,λ_ i h0 h7=>hg.ver (by omega) i h0 h7⟩
 rw[Wa p2];by_cases p3:c.phase=3
 .rw[Wb p3];rw[p3]at hpos;simp at hpos;have jv:0<=Wa0 c.reads c.pos 0/\Wa0 c.reads c.pos 0<=7:=by
   have:Wa0 c.reads c.pos 0=c.reads[c.pos.toNat]'(by omega):=Wn (by omega) _;rw[this];exact hc.rd _ (Xw _)
  have hs:=hg.sole _ jv.1 jv.2;have hv:=hg.ver (by omega) _ jv.1 jv.2;unfold owner at hs;rw[Wa (by omega)];obtain⟨a,b,_,d,_⟩:=Wgk (c:=c) (ph:=4) (by omega) bX (by omega);exact⟨a,b,d,λ_ i h0 h7=>hg.ver (by omega) i h0 h7⟩
 rw[Wa p3];by_cases p4:c.phase=4
 .rw[Wb p4];obtain⟨a,b,e,d,_⟩:=Wgk (c:=c) (ph:=5) (by omega) bX (by omega);exact⟨a,b,d,λh=>by(change (WP c 5).phase<=3 at h;omega)⟩
 rw[Wa p4,Wb (show c.phase=5 by omega)];obtain⟨a,b,e,d,_⟩:=Wgk (c:=c) (ph:=6) (by omega) bX (by omega);exact⟨a,b,d,λh=>by(change (WP c 6).phase<=3 at h;omega)⟩
end
section
structure RGd(m:Mm)(x:Rt):Prop where
 dm:x.doomed=false
 sp:x.spare=0
 ph:x.phase=1\/x.phase=2\/x.phase=5\/x.phase=6\/x.phase=7
 run:x.phase=1\/x.phase=2->Wwg m x.rv/\pbV m x.busy x.pb
 fam:x.phase=2->FGd m x.fam
 cm:x.phase=5->CGd m x.cm
 ft:x.phase=5\/x.phase=6\/x.phase=7->x.fate≠0
variable{w:Wo}{x y:Rt}{k:Nat}{p:Pg}{n:Int}{o:Opn}
theorem RGd.on{m:Mm}(h:RGd m x)(h1:x.phase=1)(hy:y.phase=1)(hd:y.doomed=x.doomed)(hs:y.spare=x.spare)(hr:y.rv=x.rv)(hv:pbV m y.busy y.pb):RGd m y:=
 ⟨hd.trans h.dm,hs.trans h.sp,.inl hy,λ_=>⟨by rw[hr];exact(h.run (.inl h1)).1,hv⟩,λh2=>by omega,λh2=>by omega,λh2=>by omega⟩
theorem WnP(h:RGd w.mem x)(h1:x.phase=1){out:Int}(ho:out≠0):(WaT w x k out).2.phase=8\/RGd (WaT w x k out).1.mem (WaT w x k out).2:=by
 have hf:=(h.run (.inl h1)).1;unfold WaT;simp only;generalize (if out=2 then []else x.writes)=rows;split
 .exact .inl rfl
 .have e:(Wbj ((k:Int)+1) x.rv rows x.reads).phase=if(WbF rows).length=0 then 2 else 1:=rfl;refine .inr ⟨h.dm,h.sp,.inr (.inr (.inl rfl)),λh2=>?_,λh2=>?_,λ_=>⟨?_,λi a b=>.inl (hf i a b).1,λ_ i a b=>(hf i a b).2⟩,λ_=>ho⟩
  .change (5:Int)=1\/(5:Int)=2 at h2;omega
  .change (5:Int)=2 at h2;omega
  .show 1<=(Wbj ((k:Int)+1) x.rv rows x.reads).phase/\(Wbj ((k:Int)+1) x.rv rows x.reads).phase<=5;rw[e];split<;>omega
theorem WuT(h:RGd w.mem x)(h1:x.phase=1)(ht:RT x)(hB:0<=o.2.2.1/\o.2.2.1<=7):RGd w.mem (Wdm w x o):=by
 obtain⟨hf,hv⟩:=h.run (.inl h1);unfold Wdm;cases WaF x.writes o.2.2.1 with
 |some v=>exact h.on h1 h1 rfl rfl rfl hv
 |none=>
  simp only;obtain⟨hc,vE,hs⟩:=Wpo (b:=x.busy) (p:=x.pb) (c:=o.2.2.1) hf hv ht.pb hB;generalize (if x.busy=true then x.pb else(o.2.2.1,0,0,0))=q0 at*;generalize WM w.mem x.rv q0=q at*;obtain⟨s1,s2,s3⟩:=hs;rw[Wa (by omega)];split
  .exact h.on h1 h1 rfl rfl rfl (λh=>by cases h)
  .refine h.on h1 h1 rfl rfl rfl λ_=>?_;show(0<=q.1/\q.1<=7)/\q.2.2.1=(WN w.mem q.1).2.1;rw[s1];exact⟨hc,s3⟩
theorem WvP(ba:CC p.1)(hl:RLive p n x)(h:RGd w.mem x)(h1:x.phase=1)(ht:RT x)(hh:∀e∈w.holds,e.1=(k:Int)+1):(WfG w x k p).2.phase=8\/RGd (WfG w x k p).1.mem (WfG w x k p).2:=by
 obtain⟨hf,hv⟩:=h.run (.inl h1);unfold WfG;split
 .exact WnP h h1 (by omega)
 .obtain⟨i,hi,aR,ho⟩:=Wdc (l:=p.1) hl.pc.1 (by have:=hl.pc;omega);simp only[ho];split
  .have aV:=WpI (ba.ok i hi).1 ‹_›;have hB:0<=p.1[i].2.2.1/\p.1[i].2.2.1<=7:=by have:=aV.2;unfold W8 at this;simpa using this
   exact .inr (WuT h h1 ht hB)
  .split
   .unfold WcD;split
    .exact WnP h h1 (by omega)
    .split
     .exact .inr (h.on h1 h1 rfl rfl rfl hv)
     .exact .inr (h.on h1 h1 rfl rfl rfl hv)
   .split
    .refine .inr ⟨h.dm,h.sp,.inr (.inl rfl),λ_=>⟨hf,hv⟩,λ_=>⟨rfl,hf,λj hj=>?_⟩,λh2=>?_,λh2=>?_⟩
     .have e:(Wad x.rv x.regs x.writes p.2.length).kids[j]={regs:=x.regs}:=by simp only[Wad,Xbe]
      show pbV w.mem (Wad x.rv x.regs x.writes p.2.length).kids[j].busy (Wad x.rv x.regs x.writes p.2.length).kids[j].pb;rw[e]
      exactλh=>by cases h
     .change (2:Int)=5 at h2;omega
     .change (2:Int)=5\/(2:Int)=6\/(2:Int)=7 at h2;omega
    .split
     .have hb:WgW w.holds ((k:Int)+1) (WaU p.1[i]).1 (WaU p.1[i]).2= []:=by
       unfold WgW;rw[List.map_eq_nil_iff,List.filter_eq_nil_iff];intro e he;have:=hh e he;unfold blk;simp[this]
      have e:WaY w.holds ((k:Int)+1) (WaU p.1[i]).1 (WaU p.1[i]).2=some (Whf w.holds ((k:Int)+1) (WaU p.1[i]).1 (WaU p.1[i]).2):=by unfold WaY;rw[Wb hb]
      unfold Wcd;rw[e];exact .inr (h.on h1 h1 rfl rfl rfl hv)
     .repeat' split
      all_goals exact .inr (h.on h1 h1 rfl rfl rfl hv)
theorem Wu4(hp:POk p)(hx:ROk p n x)(h:RGd w.mem x)(ht:RT x)(hh:∀e∈w.holds,e.1=(k:Int)+1)(hm:W3 w.mem=true)(hb:LB w k x)(dW:w.mem.1<1000000):
  (Wan w x k p).2.phase=8\/RGd (Wan w x k p).1.mem (Wan w x k p).2:=by
 unfold Wan;rw[Wa (by rw[h.dm];simp),Wa (by have:=h.ph;omega)];by_cases h1:x.phase=1
 .rw[Wb h1];exact WvP hp.code (hx.live (by omega)) h h1 ht hh
 rw[Wa h1];by_cases h2:x.phase=2
 .rw[Wb h2];obtain⟨hf,hv⟩:=h.run (.inr h2);right;show RGd w.mem (Wco x);unfold Wco;rw[Wa (by rw[(h.fam h2).lost];simp)];split
  .exact⟨h.dm,h.sp,.inl rfl,λ_=>⟨hf,hv⟩,λh2=>by(change (1:Int)=2 at h2;omega),λh2=>by(change (1:Int)=5 at h2;omega),λh2=>by(change (1:Int)=5\/(1:Int)=6\/(1:Int)=7 at h2;omega)⟩
  .exact h
 rw[Wa h2,Wa (by have:=h.ph;omega),Wa (by have:=h.ph;omega)];have me:=h.ft (by have:=h.ph;omega);by_cases h5:x.phase=5
 .rw[Wb h5];obtain⟨hw,hcl⟩:=hb.cm h5;have hc:=hx.comm h5;have hg:=h.cm h5;obtain⟨a,b,d,e⟩:=Wix hc hm hcl hg dW;have u3:=Wj5 w.mem x.cm;have hP:=λwho (a:who≠(k:Int)+1) (b:who≠0) (i:Int) (c:0<=i) (d:i<=7)=>Wkg (i:=i) hc hm (who:=who) (by rw[hw];exact a) b ⟨c,d⟩;right;unfold WaW;rw[Wa (by rw[h.dm];simp)];simp only;show RGd (WD w.mem x.cm).1 (WcL {x with cm:=(WD w.mem x.cm).2});generalize (WD w.mem x.cm).1=m' at*;generalize (WD w.mem x.cm).2=c' at*;unfold WcL;simp only;rw[Wa (by omega)];split
  .have bX:(if x.fate=2 then(6:Int)else 7)=6\/(if x.fate=2 then(6:Int)else 7)=7:=by split<;>simp
   generalize (if x.fate=2 then(6:Int)else 7)=ph at*;exact⟨h.dm,h.sp,by show ph=1\/ph=2\/ph=5\/ph=6\/ph=7;omega,λh2=>by(change ph=1\/ph=2 at h2;omega),λh2=>by(change ph=2 at h2;omega),λh2=>by(change ph=5 at h2;omega),λ_=>me⟩
  .refine⟨h.dm,h.sp,.inr (.inr (.inl h5)),λh2=>by(change x.phase=1\/x.phase=2 at h2;omega),λh2=>by(change x.phase=2 at h2;omega),λ_=>⟨⟨a,by show c'.phase<=5;omega⟩,λi i0 i7=>?_,λh3 i i0 i7=>?_⟩,λ_=>me⟩
   .show owner m' i=0\/owner m' i=c'.who;by_cases z0:owner m' i=0
    .exact .inl z0
    .by_cases zk:owner m' i=(k:Int)+1
     .exact .inr (by rw[u3,hw];exact zk)
     .have:=(hP _ zk z0 i i0 i7).1.1 rfl;rcases hg.sole i i0 i7 with hs|hs
      .rw[hs]at this;exact Wj this.symm z0
      .rw[hs,hw]at this;exact Wj this.symm zk
   .show(WN m' i).2.1<=c'.rv;rw[d];exact e h3 i i0 i7
 rw[Wa h5];by_cases h6:x.phase=6
 .rw[Wb h6];right;by_cases hz:x.undos.length>0
  .rw[Wb hz];exact⟨h.dm,h.sp,.inr (.inr (.inr (.inl h6))),λh2=>by(change x.phase=1\/x.phase=2 at h2;omega),λh2=>by(change x.phase=2 at h2;omega),λh2=>by(change x.phase=5 at h2;omega),λ_=>me⟩
  .rw[Wa hz];exact⟨h.dm,h.sp,.inr (.inr (.inr (.inr rfl))),λh2=>by(change (7:Int)=1\/(7:Int)=2 at h2;omega),λh2=>by(change (7:Int)=2 at h2;omega),λh2=>by(change (7:Int)=5 at h2;omega),λ_=>me⟩
 .rw[Wa h6,Wb (by have:=h.ph;omega),Wa me];exact .inl rfl
end
section
def ZA(c0:List Int)(q:Pb):Prop:=(0<=q.1/\q.1<=7)/\(q.2.1=1\/(q.2.1=2/\q.2.2.2=c0.getD q.1.toNat 0))
def MV(c0:List Int)(m:Mm):Prop:=∀i,0<=i->i<=7->(WN m i).1=c0.getD i.toNat 0
theorem WxQ{c0:List Int}{m:Mm}{rv:Int}(h:MV c0 m):ZS (MF c0) (ZA c0) (ZA c0) m rv:=λc q h0 h7 hq=>by
 have ec:∀r:Pb,r.1=c->Xc m.2 (Xa r.1) ((0:Int),((0:Int),(0:Int)))=WN m c:=λr hr=>by rw[hr];rfl
 have nA:q.1=c:=by
  grind
 have hv:=h c h0 h7;unfold WM;simp only[ec q nA,WC,WaP];rcases hq with rfl|⟨⟨z1,z2⟩,_⟩
 .rw[Wb rfl];split
  .split
   .exact .inr (.inr ⟨by simp_all,⟨⟨h0,h7⟩,.inl rfl⟩,rfl⟩)
   simp_all
  simp_all
 .rcases z2 with z2|⟨z2,z3⟩
  .rw[Wa (by omega),Wb z2];refine .inr (.inr ⟨by simp_all,⟨z1,.inr ⟨rfl,?_⟩⟩,nA⟩);show(WN m c).1=_;rw[hv,nA]
  .rw[Wa (by omega),Wa (by omega),Wb z2];split
   .split
    .refine .inr (.inl ⟨rfl,?_⟩);show c0.getD c.toNat 0=q.2.2.2;rw[z3,nA]
    simp_all
   simp_all
section
variable{R:Type}{N kk:Nat}{p:Pg}{th:List Int×List Int×Int}{K0:List Int->Option R}{K1:Int->Bool->List Int->Int->List M7->List Int->List Int->Option R}
 {w v:Wo} {x y:Rt} {n:Int} {l:List Int} {r c:List Int} {S:List Int×Int} {mk:List M7} {pc:Nat} {k:Nat} {m m':Mm} {u:Un}
noncomputable def wA(N kk:Nat)(p:Pg)(th:List Int×List Int×Int)(K0:List Int->Option R)(K1:Int->Bool->List Int->Int->List M7->List Int->List Int->Option R)(l:List Int)(n:Nat)(pc:Int)(r:List Int)(S:List Int×Int)(mk:List M7)(c:List Int):Option R:=
 wk N (Zj N (kk+1)) p.1 p.2 l th.2.2 th.1 th.2.1 K0 K1 n pc r S.2 mk c S.1
noncomputable def bgn(N kk:Nat)(p:Pg)(th:List Int×List Int×Int)(K0:List Int->Option R)(K1:Int->Bool->List Int->Int->List M7->List Int->List Int->Option R)(l:List Int):Option R:=
 wA N kk p th K0 K1 l N 0 [0,0,0,0] (th.2.1,th.2.2) [] th.1
def WAt(N kk:Nat)(p:Pg)(th:List Int×List Int×Int)(K0:List Int->Option R)(K1:Int->Bool->List Int->Int->List M7->List Int->List Int->Option R)(l:List Int)(pc:Int)(r:List Int)(S:List Int×Int)(mk:List M7)(c:List Int):Prop:=
 ∃n:Nat,(N:Int)<=n+pc/\bgn N kk p th K0 K1 l=wA N kk p th K0 K1 l n pc r S mk c
theorem WAt.on{cR:Int}{r' c':List Int}{S':List Int×Int}{Am:List M7}(h:WAt N kk p th K0 K1 l (pc:Int) r S mk c)(hN:1048576<N)(dj:pc<=24)(aR:(pc:Int)<cR)
  (hs:∀n,wA N kk p th K0 K1 l (n+1) (pc:Int) r S mk c=wA N kk p th K0 K1 l n cR r' S' Am c'):WAt N kk p th K0 K1 l cR r' S' Am c':=by
 obtain⟨n,h1,h2⟩:=h;obtain⟨g,rfl⟩:∃g,n=g+1:=⟨n-1,by omega⟩;exact⟨g,by omega,h2.trans (hs g)⟩
theorem WAt.fin{a:Option R}(h:WAt N kk p th K0 K1 l (pc:Int) r S mk c)(hN:1048576<N)(dj:pc<=24)(hs:∀n,wA N kk p th K0 K1 l (n+1) (pc:Int) r S mk c=a):bgn N kk p th K0 K1 l=a:=by
 obtain⟨n,h1,h2⟩:=h;obtain⟨g,rfl⟩:∃g,n=g+1:=⟨n-1,by omega⟩;simp_all
def cm7(c0:List Int)(ws:List Rw)(us:List Un)(S:List Int×Int)(q:RM):M7:=(q.1,(q.2.2.2.2,(ovl c0 (ws.take q.2.2.1.toNat),Wrm S (us.drop q.2.2.2.1.toNat))))
structure OF(p:Pg)(fk:Bool)(x:Rt):Prop where
 no:fk=false->x.order= []
 yes:fk=true->(p.2.length,x.order)∈Wtx
def AtX(N kk:Nat)(p:Pg)(th:List Int×List Int×Int)(K0:List Int->Option R)(K1:Int->Bool->List Int->Int->List M7->List Int->List Int->Option R)(x:Rt)(sh:Shf):Prop:=
 ∃fk:Bool,OF p fk x/\(fk=true->frk p.1 x.pc.toNat=1)/\∃S0,(S0=shS sh\/(x.phase=1/\(opN p.1 x.pc).1=10/\x.marks≠ []))/\∀l,(fk=true->l=x.order)->WAt N kk p th K0 K1 l x.pc x.regs S0 (x.marks.map (cm7 th.1 x.writes x.undos (shS sh))) (ovl th.1 x.writes)
structure Lv(N kk:Nat)(p:Pg)(th:List Int×List Int×Int)(K0:List Int->Option R)(K1:Int->Bool->List Int->Int->List M7->List Int->List Int->Option R)(w:Wo)(x:Rt):Prop where
 mv:MV th.1 w.mem
 sim:AtX N kk p th K0 K1 x w.shelf
 un:Wrm (shS w.shelf) x.undos=(th.2.1,th.2.2)
 hd:x.undos≠ []->∃h∈w.holds,h.1=1
 pb:x.busy=true->x.phase=1/\x.pc<p.1.length/\(opN p.1 x.pc).1=5/\ZA th.1 x.pb/\x.pb.1=(opN p.1 x.pc).2.2.1/\WaF x.writes (opN p.1 x.pc).2.2.1=none
 fam:x.phase=2->x.fam.regs=x.regs/\x.fam.start=WbF x.writes/\FA (MF th.1) (ZA th.1) p.2 x.fam
def FN(N kk:Nat)(p:Pg)(th:List Int×List Int×Int)(K0:List Int->Option R)(K1:Int->Bool->List Int->Int->List M7->List Int->List Int->Option R)(x:Rt)(tgt:List Int×(List Int×Int)):Prop:=
 tgt.1.length=8/\∃fk:Bool,OF p fk x/\∀l,(fk=true->l=x.order)->(x.fate=1/\∃mk,bgn N kk p th K0 K1 l=K1 (p.1.length:Int) false x.regs tgt.2.2 mk tgt.1 tgt.2.1)\/(x.fate=2/\bgn N kk p th K0 K1 l=K0 x.regs/\tgt=(th.1,(th.2.1,th.2.2)))
theorem FN.same{tgt:List Int×(List Int×Int)}(h:FN N kk p th K0 K1 x tgt)(h1:y.order=x.order)(h2:y.fate=x.fate)(h3:y.regs=x.regs):FN N kk p th K0 K1 y tgt:=by
 obtain⟨h8,fk,o,h⟩:=h;exact⟨h8,fk,⟨λz=>by rw[h1];exact o.no z,λz=>by rw[h1];exact o.yes z⟩,λl hl=>by
  simp_all⟩
def cmJ(c:Cm):Nat:=if c.phase<=3 then 0 else if c.phase=4 then c.pos.toNat else c.puts.length
def MP(c0:List Int)(m:Mm)(c:Cm):Prop:=∀i,0<=i->i<=7->(WN m i).1=(ovl c0 (c.puts.take (cmJ c))).getD i.toNat 0
structure Cl(N kk:Nat)(p:Pg)(th:List Int×List Int×Int)(K0:List Int->Option R)(K1:Int->Bool->List Int->Int->List M7->List Int->List Int->Option R)(w:Wo)(x:Rt)(tgt:List Int×(List Int×Int)):Prop where
 fn:FN N kk p th K0 K1 x tgt
 ph:x.phase=5\/x.phase=6\/x.phase=7\/x.phase=8
 f6:x.phase=6->x.fate=2
 c5:x.phase=5->MP th.1 w.mem x.cm/\tgt.1=ovl th.1 x.cm.puts
 c6:x.phase≠5->MV tgt.1 w.mem
 s1:x.fate=1\/x.phase=7\/x.phase=8->shS w.shelf=tgt.2
 s2:x.fate=2->x.phase=5\/x.phase=6->Wrm (shS w.shelf) x.undos=tgt.2
def AL(N kk:Nat)(p:Pg)(th:List Int×List Int×Int)(K0:List Int->Option R)(K1:Int->Bool->List Int->Int->List M7->List Int->List Int->Option R)(w:Wo)(x:Rt):Prop:=
 x.tries=0/\x.spare=0/\((x.phase=1\/x.phase=2)/\Lv N kk p th K0 K1 w x\/∃tgt,Cl N kk p th K0 K1 w x tgt)
theorem WuR{α:Type}{a b:List α}{k:Nat}(h:k<=a.length):(a++b).take k=a.take k:=List.take_append_of_le_length h
theorem Wr5{c0:List Int}{ws:List Rw}{c v:Int}(hc:Vals 8 c0)(hr:Weq ws)(hl:ws.length<=300)(h0:0<=c)(h7:c<=7):(WaF ws c=some v->(ovl c0 ws).getD c.toNat 0=v)/\(WaF ws c=none->(ovl c0 ws).getD c.toNat 0=c0.getD c.toNat 0):=by
 grind [WeU,We1]
theorem WpZ(hN:1048576<N)(hp:POk p)(hc:Vals 8 th.1)(h:Lv N kk p th K0 K1 w x)(h1:x.phase=1)(ht:x.tries=0)(cI:x.spare=0)(hl:RLive p n x)(hh:HOk w.holds){out:Int}
  (ho:(out=1/\x.pc=p.1.length)\/(out=2/\x.pc<p.1.length/\(opN p.1 x.pc).1=10/\x.marks= [])):AL N kk p th K0 K1 (WaT w x 0 out).1 (WaT w x 0 out).2:=by
 obtain⟨fk,o,hf,S0,hS,hA⟩:=h.sim;have dj:=hp.code.len;have aR:=hl.pc;obtain⟨i,hi⟩:∃i:Nat,x.pc=i:=⟨x.pc.toNat,by omega⟩;have hS0:out=1->S0=shS w.shelf:=λh1=>by
  rcases hS with hS|⟨_,hS,_⟩
  .exact hS
  .rcases ho with⟨_,z⟩|⟨z,_⟩
   .exfalso;have:opN p.1 x.pc=(0,0,0,0):=by
     unfold opN;rw[Xac,List.getElem?_eq_none (by omega)];rfl
    simp_all
   .omega
 have g0:x.writes.length<=300:=by have:=hl.wl;omega
 have fin:FN N kk p th K0 K1 {x with fate:=out} (if out=1 then(ovl th.1 x.writes,shS w.shelf)else(th.1,(th.2.1,th.2.2))):=by
  refine⟨by split;exact(Wcb hc hl.writes).len;exact hc.len,fk,⟨o.no,o.yes⟩,λl cM=>?_⟩;have hA:=hA l cM;rw[hi]at hA;rcases ho with⟨rfl,e⟩|⟨rfl,e1,e2,e3⟩
  .left;rw[Wb rfl,←hS0 rfl];have eY:i=p.1.length:=by omega
   subst eY;exact⟨rfl,_,hA.fin hN dj λn=>Wxz⟩
  .right;rw[Wa (by omega)];have dw:i<p.1.length:=by omega
   have rL:p.1[i].1=10:=by
    grind [opN,Xi,Wn]
   rw[e3]at hA;exact⟨rfl,hA.fin hN (by omega) λn=>WxH dw rL,rfl⟩
 unfold WaT;simp only;have qQ:(∀rows:List Rw,(if out=2 then []else x.writes)=rows->(ovl th.1 rows=(if out=1 then(ovl th.1 x.writes,shS w.shelf)else(th.1,(th.2.1,th.2.2))).1)/\Weq rows/\rows.length<=300):=λrows hr=>by
  rcases ho with⟨rfl,_⟩|⟨rfl,_⟩
  .rw[Wa (by omega)]at hr;subst hr;exact⟨rfl,hl.writes,g0⟩
  .rw[Wb rfl]at hr;subst hr;exact⟨rfl,(λr hr=>by cases hr),by simp⟩
 have iU:out=1\/out=2:=by rcases ho with z|z<;>omega
 generalize hrows:(if out=2 then []else x.writes)=rows;obtain⟨q1,q2,q3⟩:=qQ rows hrows;split
 .rename_i hz;unfold WjE;have hC:x.undos= []:=Classical.byContradiction λz=>by
   obtain⟨e,he,h1⟩:=h.hd z;have:Wea w.holds ((0:Nat)+1:Int)= []:=Xt hz.2;unfold Wea at this;have hm:e.2.1∈(w.holds.filter λh=>decide (h.1=((0:Nat)+1:Int))).map (·.2.1):=Xx.2 ⟨e,Xar.2 ⟨he,by grind⟩,rfl⟩
   grind
  have CA:rows= []:=Xt hz.1;have hs:shS w.shelf=(if out=1 then(ovl th.1 x.writes,shS w.shelf)else(th.1,(th.2.1,th.2.2))).2:=by
   rcases iU with rfl|rfl
   .rfl
   .have:=h.un;rw[hC]at this;exact this
  refine⟨ht,cI,.inr ⟨_,⟨fin.same rfl rfl rfl,.inr (.inr (.inr rfl)),λz=>(by grind),λz=>(by grind),λ_=>?_,λ_=>hs,λ_ z=>(by grind)⟩⟩⟩;rw[CA]at q1;rw[←q1];exact h.mv
 .refine⟨ht,cI,.inr ⟨_,⟨fin.same rfl rfl rfl,.inl rfl,λz=>(by grind),λ_=>⟨?_,?_⟩,λz=>Wj rfl z,λz=>?_,λz _=>?_⟩⟩⟩
  .intro j j0 j7;show(WN w.mem j).1=(ovl th.1 ((Wbj _ _ rows _).puts.take (cmJ (Wbj _ _ rows _)))).getD _ 0;have:cmJ (Wbj ((0:Nat)+1:Int) x.rv rows x.reads)=0:=by
    unfold cmJ Wbj;simp only;rw[Wb (by split<;>omega)]
   rw[this];exact h.mv j j0 j7
  .show _=ovl th.1 (WbF rows);rw[Wtq hc q2 q3,q1]
  .grind
  ·(change out=2 at z)
   rw[Wa (by omega)];exact h.un
end
end
section
section
variable{R:Type}{N kk:Nat}{p:Pg}{th:List Int×List Int×Int}{K0:List Int->Option R}{K1:Int->Bool->List Int->Int->List M7->List Int->List Int->Option R}
 {w v:Wo} {x y:Rt} {n:Int} {l:List Int} {r c:List Int} {S:List Int×Int} {mk:List M7} {pc:Nat} {k:Nat} {m m':Mm} {u:Un}
theorem WlW{ms:List RM}{ws Ao:List Rw}{us uM:List Un}{S S':List Int×Int}(hw:∀q∈ms,Ao.take q.2.2.1.toNat=ws.take q.2.2.1.toNat)(hu:∀q∈ms,Wrm S' (uM.drop q.2.2.2.1.toNat)=Wrm S (us.drop q.2.2.2.1.toNat)):ms.map (cm7 th.1 Ao uM S')=ms.map (cm7 th.1 ws us S):=
 List.map_congr_left λq hq=>by unfold cm7;rw[hw q hq,hu q hq]
theorem AtX.same{sh:Shf}(h:AtX N kk p th K0 K1 x sh)(h1:y.order=x.order)(h2:y.pc=x.pc)(h3:y.phase=x.phase)(h4:y.regs=x.regs)(h5:y.marks=x.marks)(h6:y.writes=x.writes)(h7:y.undos=x.undos):AtX N kk p th K0 K1 y sh:=by
 obtain⟨fk,o,hf,S0,hS,hA⟩:=h;refine⟨fk,⟨λz=>by rw[h1];exact o.no z,λz=>by rw[h1];exact o.yes z⟩,by simp_all,S0,by simp_all,?_⟩;simp_all
structure SQ(p:Pg)(x y:Rt):Prop where
 tr:y.tries=x.tries
 sp:y.spare=x.spare
 ph:y.phase=1
 od:y.order=x.order
 fa:y.undos=x.undos
 bu:y.busy=x.busy\/y.busy=false
 pc:x.pc<y.pc/\y.pc<=p.1.length
theorem Wn0(hp:POk p){a b:Int}(h:frk p.1 a.toNat=1)(h1:a<=b)(h2:b<=p.1.length):frk p.1 b.toNat=1:=by
 have:=WgJ p.1 (show a.toNat<=b.toNat by omega);have:=Wd3 hp.code b.toNat (by omega);omega
theorem Wn9(hN:1048576<N)(hp:POk p)(h:Lv N kk p th K0 K1 w x)(hl:RLive p n x){i:Nat}(hi:x.pc=i)(dw:i<p.1.length)(nh:SQ p x y)(ci:p.1[i].1≠10)(nX:y.busy=false){v:Wo}(u4:v.mem=w.mem)(dK:v.shelf=w.shelf)(u5:v.holds=w.holds)
  (hs:∀l n,wA N kk p th K0 K1 l (n+1) (i:Int) x.regs (shS w.shelf) (x.marks.map (cm7 th.1 x.writes x.undos (shS w.shelf))) (ovl th.1 x.writes)=wA N kk p th K0 K1 l n y.pc y.regs (shS w.shelf) (y.marks.map (cm7 th.1 y.writes y.undos (shS w.shelf))) (ovl th.1 y.writes)):Lv N kk p th K0 K1 v y:=by
 obtain⟨fk,o,hf,S0,hS,hA⟩:=h.sim;have dj:=hp.code.len;have rL:opN p.1 x.pc=p.1[i]:=by grind [opN,Xi,Wn]
 have hS0:S0=shS w.shelf:=by
  simp_all
 subst hS0;have eb:=hl.pc;refine⟨by rw[u4];exact h.mv,⟨fk,⟨λz=>by rw[nh.od];exact o.no z,λz=>by rw[nh.od];exact o.yes z⟩,λz=>Wn0 hp (hf z) (by have:=nh.pc;omega) nh.pc.2,shS w.shelf,.inl (by rw[dK]),λl cM=>?_⟩,by rw[dK,nh.fa];exact h.un,λz=>by rw[u5];exact h.hd (by rw[←nh.fa];exact z),λz=>(by simp_all),λz=>(by have:=nh.ph;omega)⟩;have:=hA l λz=>by rw[←nh.od];exact cM z
 rw[hi]at this;rw[dK];exact this.on hN (by omega) (by have:=nh.pc.1;omega) (hs l)
theorem Wmu{α:Type}{cf:α->α->Int}{e:α}:∀l:List α,e∈Wes cf l e
 | []=>List.mem_singleton.2 rfl
 |x::l=>by
  rw[Wes];split
  .exact List.mem_cons_of_mem _ (Wmu l)
  grind
theorem Wv7{hs:List Hd}{who what mode:Int}{l:List Hd}(h:WaY l who what mode=some hs):∃e∈hs,e.1=who:=by
 unfold WaY at h;split at h
 .injection h with h;subst h;exact⟨_,Wmu l,rfl⟩
 .cases h
theorem WwT(hN:1048576<N)(hp:POk p)(dc:∀c∈p.2,WcE c=true)(hc:Vals 8 th.1)(h:Lv N kk p th K0 K1 w x)(h1:x.phase=1)(ht:x.tries=0)(cI:x.spare=0)(hx:ROk p n x)(kr:ShOk w.shelf)(hh:HOk w.holds)
  (hg:(WfG w x 0 p).2.phase=8\/RGd (WfG w x 0 p).1.mem (WfG w x 0 p).2):AL N kk p th K0 K1 (WfG w x 0 p).1 (WfG w x 0 p).2:=by
 have hl:=hx.live (by omega);have dj:=hp.code.len;have g0:x.writes.length<=300:=by have:=hl.wl;have:=hl.pc;omega
 have qL:=Wcb hc hl.writes;have um:∀v:Wo,∀y:Rt,y.marks.length=0\/y.spare=2\/True->¬((WF y).phase=8\/RGd v.mem (WF y)):=λv y _ z=>by
  have bX:(WF y).phase=3\/((WF y).phase=6/\(WF y).fate=0):=by
   unfold WF;split
   .exact .inr ⟨rfl,rfl⟩
   simp_all
  rcases z with z|z
  .omega
  .rcases bX with q|⟨q1,q2⟩
   .have:=z.ph;omega
   .exact Wj q2 (z.ft (by omega))
 revert hg;unfold WfG;by_cases aR:x.pc>=p.1.length
 .rw[Wb aR];intro _;exact WpZ hN hp hc h h1 ht cI hl hh (.inl ⟨rfl,by have:=hl.pc;omega⟩)
 rw[Wa aR];obtain⟨i,dw,hi,rL⟩:=Wdc (l:=p.1) hl.pc.1 (by omega);obtain⟨ok,o1,fV⟩:=hp.code.ok i dw;simp only[rL];have nb:p.1[i].1≠5->x.busy=false:=λh5=>by
  by_cases hb:x.busy=true
  .have:=(h.pb hb).2.2.1;simp_all
  simp_all
 have upd:∀q∈x.marks,q.2.2.1.toNat<=x.writes.length/\q.2.2.2.1.toNat<=x.undos.length:=λq hq=>by
  obtain⟨a1,a2,a3,a4⟩:=hl.marks.each q hq;omega
 have kz:x.marks.length<=24:=by
  have e1:=Wm Xb hl.marks.pcs;simp only[Xad]at e1;have e2:=WaV hp.code.up x.pc.toNat (by omega);have:=WcN p.1 x.pc.toNat;omega
 by_cases h5:p.1[i].1=5
 .rw[Wb h5];intro hg;obtain⟨k1,k2⟩:=WpI ok h5;have ax:0<=p.1[i].2.2.1/\p.1[i].2.2.1<=7:=by grind [W8]
  obtain⟨g1,g2⟩:=Wr5 (v:=0) hc hl.writes g0 ax.1 ax.2;revert hg;unfold Wdm;cases ko:WaF x.writes p.1[i].2.2.1 with
  |some val=>
   simp only;intro hg;have hb:x.busy=false:=by
    by_cases hb:x.busy=true
    .have:=(h.pb hb).2.2.2.2.2;simp_all
    simp_all
   obtain⟨g1,_⟩:=Wr5 (v:=val) hc hl.writes g0 ax.1 ax.2;refine⟨ht,cI,.inl ⟨.inl h1,Wn9 hN hp h hl hi dw (by exact⟨rfl,rfl,h1,rfl,rfl,.inl rfl,by grind⟩) (by omega) (by exact hb) rfl rfl rfl λl n=>?_⟩⟩;have:=ws5 (N:=N) (rec:=Zj N (kk+1)) (kids:=p.2) (ord:=l) (ak:=th.2.2) (aG:=th.1) (aJ:=th.2.1) (K0:=K0) (K1:=K1) (n:=n) (r:=x.regs) (c:=ovl th.1 x.writes) (m:=(shS w.shelf).1) (ct:=(shS w.shelf).2) (mk:=x.marks.map (cm7 th.1 x.writes x.undos (shS w.shelf))) dw dj h5 ok hl.regs.len qL.len;rw[g1 ko]at this;show wk _ _ _ _ _ _ _ _ _ _ _ _ _ _ _ _ _=wk _ _ _ _ _ _ _ _ _ _ _ _ _ _ _ _ _;rw[this,show x.pc+1=((i+1:Nat):Int) by omega];rfl
  |none=>
   simp only;have hz:=WxQ (rv:=x.rv) h.mv p.1[i].2.2.1 (if x.busy=true then x.pb else(p.1[i].2.2.1,0,0,0)) ax.1 ax.2 (by
    by_cases hb:x.busy=true
    .rw[Wb hb];obtain⟨_,_,_,a,c,_⟩:=h.pb hb;simp_all
    simp_all)
   generalize WM w.mem x.rv _=q at*;by_cases h4:q.2.1=4
   .rw[Wb h4];intro hg;exact Wj hg (um w _ (.inr (.inr trivial)))
   rw[Wa h4];by_cases h3:q.2.1=3
   .rw[Wb h3];intro hg;have ee:th.1.getD p.1[i].2.2.1.toNat 0=q.2.2.2:=by
     rcases hz with z|⟨_,z⟩|⟨z,_⟩
     .omega
     .exact z
     omega
    refine⟨ht,cI,.inl ⟨.inl h1,Wn9 hN hp h hl hi dw (by exact⟨rfl,rfl,h1,rfl,rfl,.inr rfl,by grind⟩) (by omega) (by exact rfl) rfl rfl rfl λl n=>?_⟩⟩;have:=ws5 (N:=N) (rec:=Zj N (kk+1)) (kids:=p.2) (ord:=l) (ak:=th.2.2) (aG:=th.1) (aJ:=th.2.1) (K0:=K0) (K1:=K1) (n:=n) (r:=x.regs) (c:=ovl th.1 x.writes) (m:=(shS w.shelf).1) (ct:=(shS w.shelf).2) (mk:=x.marks.map (cm7 th.1 x.writes x.undos (shS w.shelf))) dw dj h5 ok hl.regs.len qL.len;rw[g2 ko,ee]at this;show wk _ _ _ _ _ _ _ _ _ _ _ _ _ _ _ _ _=wk _ _ _ _ _ _ _ _ _ _ _ _ _ _ _ _ _;rw[this,show x.pc+1=((i+1:Nat):Int) by omega];rfl
   .rw[Wa h3];intro hg;refine⟨ht,cI,.inl ⟨.inl h1,⟨h.mv,h.sim.same rfl rfl rfl rfl rfl rfl rfl,h.un,h.hd,λ_=>?_,λz=>(by simp_all)⟩⟩⟩;simp_all
 rw[Wa h5];have hb:=nb h5;by_cases ci:p.1[i].1=10
 .rw[Wb ci];unfold WcD;by_cases hz:x.marks.length=0
  .rw[Wb hz];intro _;exact WpZ hN hp hc h h1 ht cI hl hh (.inr ⟨rfl,by omega,by simp_all,Xt hz⟩)
  rw[Wa hz];obtain⟨j,q,e1,e2,⟨hj,yj⟩,e4,e5,e6,e7,e8,e9,⟨f1,f2,f3⟩,⟨g1,g2,g3⟩,k1,k2,k3⟩:=hl.mk24 hp.code hz;have hne:x.marks≠ []:=λz=>hz (by rw[z];rfl);have qJ:=hl.marks.up;rw[e1]at qJ;have hle:∀z∈x.marks,z.2.2.1<=x.last.2.2.1/\z.2.2.2.1<=x.last.2.2.2.1:=λz hz'=>by
   grind
  by_cases hu:(x.undos.length:Int)>x.last.2.2.2.1
  .rw[Wb hu];intro _;have uq:x.undos≠ []:=λz=>by grind
   have m7:x.undos.dropLast++ [Wct x.undos (0,0,0)]=x.undos:=by
    grind [Wct,List.length_pos_iff,Wn,Xff]
   have Aq:UnV (Wct x.undos (0,0,0)):=hx.undos _ (by
    grind)
   have hS':=WrH kr Aq;have Ar:∀k:Nat,k<=x.undos.dropLast.length->Wrm (shS (WdB w.shelf (Wct x.undos (0,0,0)))) (x.undos.dropLast.drop k)=Wrm (shS w.shelf) (x.undos.drop k):=λk hk=>by
    conv=>rhs;rw[←m7]
    rw[Xdd hk,WiZ,hS']
   have hdl:x.undos.dropLast.length=x.undos.length-1:=List.length_dropLast;refine⟨ht,cI,.inl ⟨.inl h1,⟨h.mv,?_,?_,λz=>h.hd uq,λz=>(by(change x.busy=true at z;simp_all)),λz=>(by(change x.phase=2 at z;omega))⟩⟩⟩
   .obtain⟨fk,o,hf,S0,hS,hA⟩:=h.sim;refine⟨fk,⟨o.no,o.yes⟩,hf,S0,.inr ⟨h1,by show(opN p.1 x.pc).1=10;simp_all,hne⟩,λl cM=>?_⟩;have:=hA l cM;show WAt N kk p th K0 K1 l x.pc x.regs S0 (x.marks.map (cm7 th.1 x.writes x.undos.dropLast (shS (WdB w.shelf (Wct x.undos (0,0,0)))))) _;rw[WlW (λ_ _=>rfl) λq hq=>Ar _ (by grind)];exact this
   .have:=Ar 0 (by omega);rw[Xbm,Xbm]at this;exact this.trans h.un
  .rw[Wa hu];intro _;obtain⟨fk,o,hf,S0,hS,hA⟩:=h.sim;have hmh:=e5.len;have ja:=e5.lt;have CB:x.last.2.2.2.1.toNat=x.undos.length:=by omega
   have ecm:cm7 th.1 x.writes x.undos (shS w.shelf) x.last=(x.last.1,(x.last.2.2.2.2,(ovl th.1 (x.writes.take x.last.2.2.1.toNat),shS w.shelf))):=by
    unfold cm7;rw[CB,Xcn];rfl
   have cG:x.last.1.toNat=j:=by omega
   refine⟨ht,cI,.inl ⟨.inl h1,⟨h.mv,⟨fk,⟨o.no,o.yes⟩,λz=>Wn0 hp (hf z) (by grind) (by grind),shS w.shelf,.inl rfl,λl cM=>?_⟩,h.un,h.hd,λz=>(by simp_all),λz=>(by simp_all)⟩⟩⟩;have hAl:=hA l cM;have qR:opN p.1 x.last.1=p.1[j]:=by grind [opN,Wn]
   show WAt N kk p th K0 K1 l ((Wer p.1 x.last.1.toNat:Int)+1) (WjD x.last.2.2.2.2 (opN p.1 x.last.1).2.1 0) (shS w.shelf) (x.marks.dropLast.map (cm7 th.1 (x.writes.take x.last.2.2.1.toNat) x.undos (shS w.shelf))) (ovl th.1 (x.writes.take x.last.2.2.1.toNat));rw[cG,qR,e8,WlW (ws:=x.writes) (us:=x.undos) (S:=shS w.shelf) (λq' li=>by rw[List.take_take,Nat.min_eq_left (by grind)]) λ_ _=>rfl];rw[hi]at hAl;refine hAl.on hN (by omega) (by omega) λn=>?_;have:=WxO (N:=N) (rec:=Zj N (kk+1)) (kids:=p.2) (ord:=l) (ak:=th.2.2) (aG:=th.1) (aJ:=th.2.1) (K0:=K0) (K1:=K1) (n:=n) (r:=x.regs) (c:=ovl th.1 x.writes) (m:=S0.1) (ct:=S0.2) (q:=q.map (cm7 th.1 x.writes x.undos (shS w.shelf))) (x:=cm7 th.1 x.writes x.undos (shS w.shelf) x.last) hN dw dj ci hj yj (hp.code.ok j hj).1 e5 e2 e9.len (Wcb hc (λr hr=>hl.writes r (Xbf hr))).len (by rw[ecm];exact WcU) (by grind);rw[ecm]at this
   conv=>lhs;rw[e1,Xu,Xag,Xbd,ecm]
   show wk _ _ _ _ _ _ _ _ _ _ _ _ _ _ _ _ _=wk _ _ _ _ _ _ _ _ _ _ _ _ _ _ _ _ _;rw[this,show((Wer p.1 j:Nat):Int)+1=((Wer p.1 j+1:Nat):Int) by omega];rfl
 rw[Wa ci];by_cases fA:p.1[i].1=11
 .rw[Wb fA];intro _;obtain⟨fk,o,hf,S0,hS,hA⟩:=h.sim;have hS0:S0=shS w.shelf:=by
   simp_all
  exact⟨ht,cI,.inl ⟨.inr rfl,⟨h.mv,⟨fk,⟨o.no,o.yes⟩,hf,S0,.inl hS0,hA⟩,h.un,h.hd,λz=>(by simp_all),λ_=>⟨rfl,rfl,Wsq hl.regs⟩⟩⟩⟩
 rw[Wa fA];by_cases d9:p.1[i].1>=12
 .rw[Wb d9];unfold Wcd;cases hk:WaY w.holds ((0:Nat)+1:Int) (WaU p.1[i]).1 (WaU p.1[i]).2 with
  |none=>
   intro hg;exact Wj hg (um w _ (.inr (.inr trivial)))
  |some hs=>
   intro _;obtain⟨b1,b2⟩:=WtT (o:=p.1[i]) kr hl.regs ok d9;obtain⟨e,he,e1⟩:=Wv7 hk;have hC:∀k:Nat,k<=x.undos.length->Wrm (shS (W0 w.shelf p.1[i] x.regs).1) ((if(W0 w.shelf p.1[i] x.regs).2.2.1=0 then x.undos else x.undos++ [(W0 w.shelf p.1[i] x.regs).2.2]).drop k)=Wrm (shS w.shelf) (x.undos.drop k):=λk hk=>by
    by_cases hz:(W0 w.shelf p.1[i] x.regs).2.2.1=0
    .rw[Wb hz,b1 hz]
    simp_all [Wa,Xdd,WiZ]
   obtain⟨fk,o,hf,S0,hS,hA⟩:=h.sim;have hS0:S0=shS w.shelf:=by
    simp_all
   subst hS0;refine⟨ht,cI,.inl ⟨.inl h1,⟨h.mv,⟨fk,⟨o.no,o.yes⟩,λz=>Wn0 hp (hf z) (by grind) (by grind),_,.inl rfl,λl cM=>?_⟩,?_,λ_=>⟨e,he,by omega⟩,λz=>(by simp_all),λz=>(by simp_all)⟩⟩⟩
   .have hAl:=hA l cM;show WAt N kk p th K0 K1 l (x.pc+1) (W0 w.shelf p.1[i] x.regs).2.1 (shS (W0 w.shelf p.1[i] x.regs).1) (x.marks.map (cm7 th.1 x.writes (if(W0 w.shelf p.1[i] x.regs).2.2.1=0 then x.undos else x.undos++ [(W0 w.shelf p.1[i] x.regs).2.2]) (shS (W0 w.shelf p.1[i] x.regs).1))) (ovl th.1 x.writes);rw[WlW (λ_ _=>rfl) λq hq=>hC _ (upd q hq).2];rw[hi]at hAl⊢;refine hAl.on hN (by omega) (by omega) λn=>?_;have:=WtW (N:=N) (rec:=Zj N (kk+1)) (kids:=p.2) (ord:=l) (ak:=th.2.2) (aG:=th.1) (aJ:=th.2.1) (K0:=K0) (K1:=K1) (n:=n) (c:=ovl th.1 x.writes) (mk:=x.marks.map (cm7 th.1 x.writes x.undos (shS w.shelf))) dw dj d9 ok hl.regs kr;show wk _ _ _ _ _ _ _ _ _ _ _ _ _ _ _ _ _=wk _ _ _ _ _ _ _ _ _ _ _ _ _ _ _ _ _;rw[this];rfl
   .have:=hC 0 (Xbp _);rw[Xbm,Xbm]at this;exact this.trans h.un
 rw[Wa d9];have ap:∀(a:List Int),x.pc+1=((i+1:Nat):Int):=λ_=>by omega
 by_cases h6:p.1[i].1=6
 .rw[Wb h6];intro _;refine⟨ht,cI,.inl ⟨.inl h1,Wn9 hN hp h hl hi dw (by exact⟨rfl,rfl,h1,rfl,rfl,.inl rfl,by show x.pc<x.pc+1/\x.pc+1<=_;omega⟩) (by exact ci) (by exact hb) rfl rfl rfl λl n=>?_⟩⟩;have:=ws6 (N:=N) (rec:=Zj N (kk+1)) (kids:=p.2) (ord:=l) (ak:=th.2.2) (aG:=th.1) (aJ:=th.2.1) (K0:=K0) (K1:=K1) (n:=n) (r:=x.regs) (c:=ovl th.1 x.writes) (m:=(shS w.shelf).1) (ct:=(shS w.shelf).2) (mk:=x.marks.map (cm7 th.1 x.writes x.undos (shS w.shelf))) dw dj h6 ok hl.regs.len qL.len;show wk _ _ _ _ _ _ _ _ _ _ _ _ _ _ _ _ _=wk _ _ _ _ _ _ _ _ _ _ _ (x.pc+1) _ _ (x.marks.map (cm7 th.1 (x.writes++ [(p.1[i].2.1,Wa0 x.regs p.1[i].2.2.1 0)]) x.undos (shS w.shelf))) (ovl th.1 (x.writes++ [(p.1[i].2.1,Wa0 x.regs p.1[i].2.2.1 0)])) _;rw[WlW (λq hq=>WuR (upd q hq).1) λ_ _=>rfl,Wiu,this,ap []];rfl
 rw[Wa h6];by_cases h7:p.1[i].1=7
 .rw[Wb h7];intro _;obtain⟨s1,s2⟩:=hp.code.sk i dw h7;obtain⟨k1,k2,k3⟩:=WtB ok h7;refine⟨ht,cI,.inl ⟨.inl h1,Wn9 hN hp h hl hi dw (by
   refine⟨rfl,rfl,h1,rfl,rfl,.inl rfl,?_⟩;show x.pc<(if Wa0 x.regs p.1[i].2.1 0=0 then x.pc+p.1[i].2.2.1 else x.pc)+1/\(if Wa0 x.regs p.1[i].2.1 0=0 then x.pc+p.1[i].2.2.1 else x.pc)+1<=_;split<;>omega) (by exact ci) (by exact hb) rfl rfl rfl λl n=>?_⟩⟩
  have:=ws7 (N:=N) (rec:=Zj N (kk+1)) (kids:=p.2) (ord:=l) (ak:=th.2.2) (aG:=th.1) (aJ:=th.2.1) (K0:=K0) (K1:=K1) (n:=n) (r:=x.regs) (c:=ovl th.1 x.writes) (m:=(shS w.shelf).1) (ct:=(shS w.shelf).2) (mk:=x.marks.map (cm7 th.1 x.writes x.undos (shS w.shelf))) dw dj h7 ok hl.regs.len;show wk _ _ _ _ _ _ _ _ _ _ _ _ _ _ _ _ _=wk _ _ _ _ _ _ _ _ _ _ _ ((if Wa0 x.regs p.1[i].2.1 0=0 then x.pc+p.1[i].2.2.1 else x.pc)+1) _ _ _ _ _;rw[this,hi];rfl
 rw[Wa h7];by_cases h8:p.1[i].1=8
 .rw[Wb h8];intro _;refine⟨ht,cI,.inl ⟨.inl h1,Wn9 hN hp h hl hi dw (by exact⟨rfl,rfl,h1,rfl,rfl,.inl rfl,by show x.pc<x.pc+1/\x.pc+1<=_;omega⟩) (by exact ci) (by exact hb) rfl rfl rfl λl n=>?_⟩⟩;have:=ws8 (N:=N) (rec:=Zj N (kk+1)) (kids:=p.2) (ord:=l) (ak:=th.2.2) (aG:=th.1) (aJ:=th.2.1) (K0:=K0) (K1:=K1) (n:=n) (r:=x.regs) (c:=ovl th.1 x.writes) (m:=(shS w.shelf).1) (ct:=(shS w.shelf).2) (mk:=x.marks.map (cm7 th.1 x.writes x.undos (shS w.shelf))) dw dj h8 hl.regs.len qL.len WcU (by rw[Xad];omega);show wk _ _ _ _ _ _ _ _ _ _ _ _ _ _ _ _ _=wk _ _ _ _ _ _ _ _ _ _ _ (x.pc+1) _ _ ((x.marks++ [(x.pc,(x.reads.length:Int),(x.writes.length:Int),(x.undos.length:Int),x.regs)]).map (cm7 th.1 x.writes x.undos (shS w.shelf))) _ _;rw[this,Xu,Xag,Xbd,ap []];have ec:cm7 th.1 x.writes x.undos (shS w.shelf) (x.pc,(x.reads.length:Int),(x.writes.length:Int),(x.undos.length:Int),x.regs)=((i:Int),(x.regs,(ovl th.1 x.writes,shS w.shelf))):=by
   unfold cm7;simp only[Xi,Xcu,Xcn];rw[hi];rfl
  rw[ec]
 rw[Wa h8];by_cases h9:p.1[i].1=9
 .rw[Wb h9];intro _;have hM:=hl.marks;rw[hi,Xi]at hM;have hz:x.marks.length≠0:=λhz=>by
   have h1:=Wm Xb hM.pcs;simp only[Xad,hz]at h1;have h2:=WaV hp.code.up i (by omega);have h3:=hp.code.up i dw;rw[Waq dw,WkV h9]at h3;omega
  obtain⟨j,q,e1,e2,⟨hj,yj⟩,e4,e5,e6,e7,e8,e9,_⟩:=hl.mk24 hp.code hz;have cG:x.last.1.toNat=j:=by omega
  have qR:opN p.1 x.last.1=p.1[j]:=by unfold opN;rw[cG];exact Wn hj _
  refine⟨ht,cI,.inl ⟨.inl h1,Wn9 hN hp h hl hi dw (by exact⟨rfl,rfl,h1,rfl,rfl,.inl rfl,by show x.pc<x.pc+1/\x.pc+1<=_;omega⟩) (by exact ci) (by exact hb) rfl rfl rfl λl n=>?_⟩⟩;have:=ws9 (N:=N) (rec:=Zj N (kk+1)) (kids:=p.2) (ord:=l) (ak:=th.2.2) (aG:=th.1) (aJ:=th.2.1) (K0:=K0) (K1:=K1) (n:=n) (r:=x.regs) (c:=ovl th.1 x.writes) (m:=(shS w.shelf).1) (ct:=(shS w.shelf).2) (q:=q.map (cm7 th.1 x.writes x.undos (shS w.shelf))) (x:=cm7 th.1 x.writes x.undos (shS w.shelf) x.last) dw dj h9 hj yj (hp.code.ok j hj).1 e2 hl.regs.len (by rw[e1]at kz;rw[Xad];simp at kz;omega);show wk _ _ _ _ _ _ _ _ _ _ _ _ _ _ (x.marks.map _) _ _=wk _ _ _ _ _ _ _ _ _ _ _ (x.pc+1) (WjD x.regs (opN p.1 x.last.1).2.1 1) _ (x.marks.dropLast.map _) _ _;rw[e8,qR,ap []]
  conv=>lhs;rw[e1,Xu,Xag,Xbd]
  rw[this];rfl
 .rw[Wa h9];intro _;refine⟨ht,cI,.inl ⟨.inl h1,Wn9 hN hp h hl hi dw (by exact⟨rfl,rfl,h1,rfl,rfl,.inl rfl,by show x.pc<x.pc+1/\x.pc+1<=_;omega⟩) (by exact ci) (by exact hb) rfl rfl rfl λl n=>?_⟩⟩;have:=wsC (N:=N) (rec:=Zj N (kk+1)) (kids:=p.2) (ord:=l) (ak:=th.2.2) (aG:=th.1) (aJ:=th.2.1) (K0:=K0) (K1:=K1) (n:=n) (r:=x.regs) (c:=ovl th.1 x.writes) (m:=(shS w.shelf).1) (ct:=(shS w.shelf).2) (mk:=x.marks.map (cm7 th.1 x.writes x.undos (shS w.shelf))) hN dw dj ⟨o1,by omega⟩ ok hl.regs;show wk _ _ _ _ _ _ _ _ _ _ _ _ _ _ _ _ _=wk _ _ _ _ _ _ _ _ _ _ _ (x.pc+1) _ _ _ _ _;rw[this,ap []]
end
end
section
variable{s:Sc}{w v:Wo}{n:Int}{a:Ac}{x y:Rt}{k:Nat}{p:Pg}{f:Fm}{codes:List (List Opn)}{m:Mm}
theorem Wp5(hm:W3 m=true)(aU:∀c∈codes,KC c)(h3:codes.length<=3)(hF:FOk codes n f)(hT:∀(j:Nat) (h:j<f.kids.length),KT f j f.kids[j])(hk:k<codes.length):
  (Wax m f k (codes.getD k [])).lost=true\/∀(j:Nat) (h:j<(Wax m f k (codes.getD k [])).kids.length),KT (Wax m f k (codes.getD k [])) j (Wax m f k (codes.getD k [])).kids[j]:=by
 have hlen:=hF.len;have dL:k<f.kids.length:=by omega
 by_cases ca:f.lost=true
 .exact .inl (by rw[Whe ca];exact ca)
 have aA:codes.getD k []=codes[k]:=Wn hk _;have hKO:=hF.kid k dL;rw[aA]at hKO;have ho:=Wsc (m:=m) (aU _ (Xw hk)) hF hKO (hT k dL);have hE:=WwR dL (by omega) (λc hc=>(aU c hc).toCC.len) hF hT rfl ho;have bb:Wax m f k (codes.getD k [])=Fm.put (WaN m f f.kids[k] k codes[k]) k:=by
  unfold Wax;rw[Wa ca,aA,show f.kids.getD k {}=f.kids[k]from Wn dL _]
 rw[bb];rcases hE with hE|hE
 .exact .inl hE
 .exact .inr hE.kt
theorem WqP{c:Cm}(hm:W3 m=true):(WD m c).1.1<=m.1+1:=by
 have ht:(tick m).1.1<=m.1+1:=by unfold tick;split<;>(simp only;omega)
 unfold WD;simp only;by_cases p1:c.phase=1
 .rw[Wb p1];split<;>(show m.1<=m.1+1;omega)
 rw[Wa p1];by_cases p2:c.phase=2
 .rw[Wb p2];split<;>exact ht
 rw[Wa p2];by_cases p3:c.phase=3
 .rw[Wb p3];split<;>(show m.1<=m.1+1;omega)
 rw[Wa p3];by_cases p4:c.phase=4
 .rw[Wb p4];unfold WdE;split<;>(show m.1<=m.1+1;omega)
 rw[Wa p4];by_cases p5:c.phase=5
 .rw[Wb p5];unfold Wbw;split<;>(show m.1<=m.1+1;omega)
 rw[Wa p5];by_cases p7:c.phase=7
 .rw[Wb p7];unfold Wbw;split<;>(show m.1<=m.1+1;omega)
 rw[Wa p7];show m.1<=m.1+1;omega
theorem Wkn{out:Int}:(WaT w x k out).1.mem=w.mem:=by
 unfold WaT;simp only;generalize (if out=2 then []else x.writes)=rows;split<;>rfl
theorem Wmc:(Wan w x k p).1.mem=w.mem\/(x.phase=5/\(Wan w x k p).1.mem=(WD w.mem x.cm).1):=by
 unfold Wan;by_cases hd:x.doomed=true/\1<=x.phase/\x.phase<=4
 .rw[Wb hd];exact .inl rfl
 rw[Wa hd];by_cases h0:x.phase=0
 .rw[Wb h0];left;unfold WfA;repeat' split
  all_goals rfl
 rw[Wa h0];by_cases h1:x.phase=1
 .rw[Wb h1];left;unfold WfG;split
  .exact Wkn
  .simp only;generalize opN p.1 x.pc=o;split
   .rfl
   .split
    .unfold WcD;split
     .exact Wkn
     .split<;>rfl
    .split
     .rfl
     .split
      .unfold Wcd;cases WaY w.holds ((k:Int)+1) (WaU o).1 (WaU o).2<;>rfl
      .repeat' split
       all_goals rfl
 rw[Wa h1];by_cases h2:x.phase=2
 .rw[Wb h2];exact .inl rfl
 rw[Wa h2];by_cases h3:x.phase=3
 .rw[Wb h3];left;unfold WbT;split<;>rfl
 rw[Wa h3];by_cases h4:x.phase=4
 .rw[Wb h4];exact .inl rfl
 rw[Wa h4];by_cases h5:x.phase=5
 .rw[Wb h5];unfold WaW;split
  .exact .inl rfl
  .exact .inr ⟨h5,rfl⟩
 rw[Wa h5];left;by_cases h6:x.phase=6
 .rw[Wb h6];split<;>rfl
 rw[Wa h6];by_cases h7:x.phase=7
 .rw[Wb h7];split<;>rfl
 .rw[Wa h7]
structure WT(w:Wo):Prop where
 root:∀(k:Nat) (h:k<w.roots.length),RT w.roots[k]
 clk:w.mem.1<=w.now
theorem Ws0{w0:Wo}{q:Wo×Rt}(hx:WT w0)(hr:q.1.roots=w0.roots)(hq:RT q.2)(hc:q.1.mem.1<=q.1.now):WT (Wo.put q k):=by
 refine⟨λi hi=>?_,hc⟩;change i<(q.1.roots.set k q.2).length at hi;have lW:i<w0.roots.length:=by rw[Xy,hr]at hi;exact hi
 show RT ((q.1.roots.set k q.2)[i]'hi);rw[Xam];split
 .exact hq
 .simp only[hr];exact hx.root i lW
theorem Wr3(h:WOk s.2.1 n w)(hx:WT w):WT (WhB s w a):=by
 have dI:WT {w with now:=w.now+1}:=⟨hx.root,by have:=hx.clk;show w.mem.1<=w.now+1;omega⟩;unfold WhB;simp only;split
 .rename_i hb;have hk:a.2.1.toNat<w.roots.length:=by omega
  have hR:=hx.root _ hk;have jU:a.2.1.toNat<s.2.1.length:=by rw[←h.len];exact hk
  rw[Wn hk];split
  .unfold WmG;rw[Wn (show a.2.1.toNat<({w with now:=w.now+1}:Wo).roots.length from hk)];have bb:=Wif (w:={w with now:=w.now+1}) (k:=a.2.1.toNat) (Wka h.progs jU) ⟨h.mem,h.shelf,h.holds⟩ (h.root _ hk) (by have:=h.l4;omega) h.n0;refine Ws0 dI (Wnx h hk) (WpQ hR) ?_;have qO:(Wan {w with now:=w.now+1} w.roots[a.2.1.toNat] a.2.1.toNat (s.2.1.getD a.2.1.toNat pg0)).1.now=w.now+1:=bb.now;rw[qO];have dW:=hx.clk;rcases Wmc (w:={w with now:=w.now+1}) (x:=w.roots[a.2.1.toNat]) (k:=a.2.1.toNat) (p:=s.2.1.getD a.2.1.toNat pg0)with e|⟨_,e⟩
   .rw[e];show w.mem.1<=w.now+1;omega
   .rw[e];have:=WqP (m:=w.mem) (c:=w.roots[a.2.1.toNat].cm) h.mem;show(WD w.mem w.roots[a.2.1.toNat].cm).1.1<=w.now+1;omega
  .split
   .split
    .rename_i hc;unfold WxA;refine Ws0 (w0:={w with now:=w.now+1}) dI rfl ?_ dI.clk;refine⟨hR.pb,λ_=>?_,λh5=>by(change w.roots[a.2.1.toNat].phase=5 at h5;omega)⟩;have hp:=Wka h.progs jU;have hF:=((h.root _ hk).live (by omega)).fork hc.1;rcases hR.fam hc.1 with hl|hT
     .left;show(Wax w.mem w.roots[a.2.1.toNat].fam a.2.2.toNat _).lost=true;rw[Whe hl];exact hl
     .exact Wp5 h.mem hp.kids hp.k3 hF.2.2 hT (by omega)
    .exact dI
   .split
    .split
     .exact Ws0 (w0:={w with now:=w.now+1}) dI rfl ⟨hR.pb,hR.fam,hR.cm⟩ dI.clk
     .exact dI
    .exact dI
 .exact dI
theorem WwF:WT (Wez s):=⟨λi h=>by
 simp only[Wez,Xbe];exact RT.no rfl (by show(0:Int)≠2;omega) (by show(0:Int)≠5;omega),Xab _⟩
end
section
variable{s:Sc}{w v:Wo}{n:Int}{a:Ac}{x y:Rt}{k:Nat}{p:Pg}{q:Wo×Rt}
structure TQ(w:Wo)(k:Nat)(x:Rt)(q:Wo×Rt):Prop where
 tok:q.1.token=w.token\/(q.1.token=(k:Int)+1/\w.token=0/\x.phase=0/\q.2.phase=0)\/(w.token=(k:Int)+1/\q.1.token=0/\q.2.phase=8)
 try1:x.phase≠0->x.phase≠8->q.2.phase≠0->q.2.tries=x.tries
 idle:x.phase=0->q.2.phase=0\/(q.2.tries=x.tries/\(w.token=0/\x.tries<3\/w.token=(k:Int)+1/\WbD k w.roots 0=true)/\q.1.token=w.token)
 done:x.phase=8->q=(w,x)
theorem TQ.keep(ht:q.1.token=w.token)(hr:q.2.tries=x.tries)(h0:x.phase≠0)(h8:x.phase≠8):TQ w k x q:=
 ⟨.inl ht,λ_ _ _=>hr,λh=>Wj h h0,λh=>Wj h h8⟩
theorem WsV{w0:Wo}{x0:Rt}(hw:w0.token=w.token)(hr:x0.tries=x.tries)(h0:x.phase≠0)(h8:x.phase≠8):TQ w k x (WjE w0 x0 k):=by
 refine⟨?_,λ_ _ _=>hr,λh=>Wj h h0,λh=>Wj h h8⟩;show(if w0.token=(k:Int)+1 then 0 else w0.token)=w.token\/_;split
 .rename_i h;right;right;refine⟨by rw[←hw];exact h,?_,rfl⟩;show(if w0.token=(k:Int)+1 then 0 else w0.token)=0;rw[Wb h]
 .exact .inl hw
theorem Wmm{out:Int}(h0:x.phase≠0)(h8:x.phase≠8):TQ w k x (WaT w x k out):=by
 unfold WaT;simp only;generalize (if out=2 then []else x.writes)=rows;split
 .exact WsV rfl rfl h0 h8
 .exact TQ.keep rfl rfl h0 h8
theorem We4:(WF x).tries=x.tries:=by
 unfold WF;split<;>rfl
theorem Wuw:TQ w k x (Wan w x k p):=by
 unfold Wan;by_cases hd:x.doomed=true/\1<=x.phase/\x.phase<=4
 .rw[Wb hd];exact TQ.keep rfl rfl (by omega) (by omega)
 rw[Wa hd];by_cases h0:x.phase=0
 .rw[Wb h0];have h8:x.phase≠8:=by omega
  unfold WfA;split
  .exact⟨.inl rfl,λh=>Wj h0 h,λ_=>.inl h0,λh=>Wj h h8⟩
  .split
   .rename_i h;exact⟨.inr (.inl ⟨rfl,h.2,h0,h0⟩),λh=>Wj h0 h,λ_=>.inl h0,λh=>Wj h h8⟩
   .split
    .exact⟨.inl rfl,λh=>Wj h0 h,λ_=>.inl h0,λh=>Wj h h8⟩
    .rename_i a1 a2 a3;refine⟨.inl rfl,λh=>Wj h0 h,λ_=>.inr ⟨rfl,?_,rfl⟩,λh=>Wj h h8⟩;by_cases ht:w.token=0
     .exact .inl ⟨ht,by omega⟩
     .have hk:w.token=(k:Int)+1:=by omega
      refine .inr ⟨hk,?_⟩;cases ho:WbD k w.roots 0 with
      |true=>rfl
      |false=>exact Wj ⟨hk,ho⟩ a3
 rw[Wa h0];by_cases h8:x.phase=8
 .rw[Wa (by omega),Wa (by omega),Wa (by omega),Wa (by omega),Wa (by omega),Wa (by omega),Wa (by omega)];exact⟨.inl rfl,λ_ h=>Wj h8 h,λh=>Wj h h0,λ_=>rfl⟩
 have keep:∀q:Wo×Rt,q.1.token=w.token->q.2.tries=x.tries->TQ w k x q:=λq a b=>TQ.keep a b h0 h8;by_cases h1:x.phase=1
 .rw[Wb h1];unfold WfG;split
  .exact Wmm h0 h8
  .simp only;generalize opN p.1 x.pc=o;split
   .refine keep _ rfl ?_;unfold Wdm;cases WaF x.writes o.2.2.1 with
    |some v=>rfl
    |none=>
     simp only;generalize WM w.mem x.rv _=b;split
     .exact We4
     .split<;>rfl
   .split
    .unfold WcD;split
     .exact Wmm h0 h8
     .split<;>exact keep _ rfl rfl
    .split
     .exact keep _ rfl rfl
     .split
      .unfold Wcd;cases WaY w.holds ((k:Int)+1) (WaU o).1 (WaU o).2 with
       |none=>exact keep _ rfl We4
       |some hs=>exact keep _ rfl rfl
      .repeat' split
       all_goals exact keep _ rfl rfl
 rw[Wa h1];by_cases h2:x.phase=2
 .rw[Wb h2];refine keep _ rfl ?_;show(Wco x).tries=x.tries;unfold Wco;split
  .rfl
  .split<;>rfl
 rw[Wa h2];by_cases h3:x.phase=3
 .rw[Wb h3];unfold WbT;split<;>exact keep _ rfl rfl
 rw[Wa h3];by_cases h4:x.phase=4
 .rw[Wb h4];refine keep _ rfl ?_;show(Wbq w x).tries=x.tries;unfold Wbq;simp only;split
  .split<;>rfl
  .rfl
 rw[Wa h4];by_cases h5:x.phase=5
 .rw[Wb h5];unfold WaW;split
  .refine keep _ rfl ?_;simp only;split<;>rfl
  .refine keep _ rfl ?_;show(WcL {x with cm:=(WD w.mem x.cm).2}).tries=x.tries;unfold WcL;split
   .rfl
   .split<;>rfl
 rw[Wa h5];by_cases h6:x.phase=6
 .rw[Wb h6];split<;>exact keep _ rfl rfl
 rw[Wa h6];by_cases h7:x.phase=7
 .rw[Wb h7];split
  .exact⟨.inl rfl,λ_ _ h=>Wj rfl h,λh=>Wj h h0,λh=>Wj h h8⟩
  .exact WsV rfl rfl h0 h8
 .rw[Wa h7];exact keep _ rfl rfl
end
section
variable{s:Sc}{w v:Wo}{n:Int}{a:Ac}{x y:Rt}{k:Nat}{p:Pg}{q:Wo×Rt}
theorem WgL:∀{l:List Rt} {i:Nat},WbD k l i=true->∀(j:Nat) (h:j<l.length),i+j≠k->l[j].phase=0\/l[j].phase=8
 | [],i,_,j,h,_=>by simp at h
 |x::l,i,ho,j,h,hne=>by
  rw[WbD]at ho;simp only[Xj,Bool.or_eq_true,Wh]at ho;cases j with
  |zero=>
   rcases ho.1 with h1|h1
   .exact Wj h1 (by simpa using hne)
   .exact h1
  |succ j=>exact WgL ho.2 j (by simpa using h) (by omega)
structure TX(w:Wo):Prop where
 t1:∀(k:Nat) (h:k<w.roots.length),w.roots[k].phase≠0->w.roots[k].phase≠8->w.roots[k].tries>=3->w.token=(k:Int)+1
 t2:∀(k:Nat) (h:k<w.roots.length),w.token=(k:Int)+1->w.roots[k].phase≠0->∀(j:Nat) (h:j<w.roots.length),j≠k->w.roots[j].phase=0\/w.roots[j].phase=8
theorem Wvn{w0:Wo}(hx:TX w0)(hl:LX w0)(hk:k<w0.roots.length)(hr:q.1.roots=w0.roots)(hq:TQ w0 k w0.roots[k] q):TX (Wo.put q k):=by
 have hlen:(q.1.roots.set k q.2).length=w0.roots.length:=by rw[Xy,hr]
 have br:∀(i:Nat) (hi:i<w0.roots.length),(q.1.roots.set k q.2)[i]'(by rw[hlen];exact hi)=if k=i then q.2 else w0.roots[i]:=λi hi=>by
  rw[Xam];simp only[hr]
 have As:w0.roots[k].phase=8->q.2=w0.roots[k]:=λh=>by rw[hq.done h]
 refine⟨λi hi p0 p8 ht=>?_,λi hi ht p0 j hj hne=>?_⟩
 .change i<(q.1.roots.set k q.2).length at hi;have lW:i<w0.roots.length:=by rw[←hlen];exact hi
  change ((q.1.roots.set k q.2)[i]'hi).phase≠0 at p0;change ((q.1.roots.set k q.2)[i]'hi).phase≠8 at p8;change ((q.1.roots.set k q.2)[i]'hi).tries>=3 at ht;rw[br i lW]at p0 p8 ht;show q.1.token=(i:Int)+1;by_cases he:k=i
  .subst he;rw[Wb rfl]at p0 p8 ht;by_cases h0:w0.roots[k].phase=0
   .rcases hq.idle h0 with h|⟨h1,h2,h3⟩
    .exact Wj h p0
    .rw[h3];rcases h2 with h2|h2
     .omega
     .exact h2.1
   .by_cases h8:w0.roots[k].phase=8
    .rw[As h8]at p8;exact Wj h8 p8
    .have rH:=hq.try1 h0 h8 p0;have:=hx.t1 k hk h0 h8 (by omega);rcases hq.tok with h|⟨h,_⟩|⟨_,_,h⟩
     .rw[h];exact this
     .exact h
     .exact Wj h p8
  .rw[Wa he]at p0 p8 ht;have:=hx.t1 i lW p0 p8 ht;rcases hq.tok with h|⟨_,h,_⟩|⟨h,_⟩
   .rw[h];exact this
   .omega
   .omega
 .change i<(q.1.roots.set k q.2).length at hi;change j<(q.1.roots.set k q.2).length at hj;have lW:i<w0.roots.length:=by rw[←hlen];exact hi
  have ld:j<w0.roots.length:=by rw[←hlen];exact hj
  change q.1.token=(i:Int)+1 at ht;change ((q.1.roots.set k q.2)[i]'hi).phase≠0 at p0;show((q.1.roots.set k q.2)[j]'hj).phase=0\/((q.1.roots.set k q.2)[j]'hj).phase=8;rw[br i lW]at p0;rw[br j ld];by_cases he:k=i
  .subst he;rw[Wb rfl]at p0;rw[Wa (λh=>hne h.symm)];by_cases h0:w0.roots[k].phase=0
   .rcases hq.idle h0 with h|⟨h1,h2,h3⟩
    .exact Wj h p0
    .rcases h2 with h2|h2
     .rw[h3,h2.1]at ht;omega
     .exact WgL h2.2 j ld (by omega)
   .rcases hq.tok with h|⟨_,_,h,_⟩|⟨_,h,_⟩
    .exact hx.t2 k hk (by rw[←h];exact ht) h0 j ld hne
    .exact Wj h h0
    .omega
  .rw[Wa he]at p0;have Au:w0.token=(i:Int)+1:=by
    rcases hq.tok with h|⟨h,_⟩|⟨_,h,_⟩
    .rw[←h];exact ht
    .omega
    .omega
   by_cases hkj:k=j
   .subst hkj;rw[Wb rfl];have dc:=hx.t2 i lW Au p0 k hk (λh=>he h);rcases dc with h0|h8
    .rcases hq.idle h0 with h|⟨_,h2,_⟩
     .exact .inl h
     .rcases h2 with h2|h2<;>omega
    .rw[As h8];exact .inr h8
   .rw[Wa hkj];exact hx.t2 i lW Au p0 j ld hne
theorem WvV(h:WOk s.2.1 n w)(hl:LX w)(hx:TX w):TX (WhB s w a):=by
 have dI:TX {w with now:=w.now+1}:=⟨hx.t1,hx.t2⟩;have bs:LX {w with now:=w.now+1}:=⟨λk hk=>⟨(hl.root k hk).cm,(hl.root k hk).no,(hl.root k hk).hd,(hl.root k hk).tk⟩,hl.ow,hl.hd,hl.tk⟩;unfold WhB;simp only;split
 .rename_i hb;have hk:a.2.1.toNat<w.roots.length:=by omega
  have same:∀y:Rt,y.phase=w.roots[a.2.1.toNat].phase->y.tries=w.roots[a.2.1.toNat].tries->w.roots[a.2.1.toNat].phase≠0->w.roots[a.2.1.toNat].phase≠8->TX (Wo.put ({w with now:=w.now+1},y) a.2.1.toNat):=λy e1 e2 h0 h8=>
   Wvn (w0:={w with now:=w.now+1}) dI bs hk rfl ⟨.inl rfl,λ_ _ _=>e2,λh=>Wj h h0,λh=>Wj h h8⟩
  rw[Wn hk];split
  .unfold WmG;rw[Wn (show a.2.1.toNat<({w with now:=w.now+1}:Wo).roots.length from hk)];exact Wvn (w0:={w with now:=w.now+1}) dI bs hk (Wnx h hk) Wuw
  .split
   .split
    .rename_i hc;exact same _ rfl rfl (by omega) (by omega)
    .exact dI
   .split
    .split
     .rename_i hc;exact same _ rfl rfl (by omega) (by omega)
     .exact dI
    .exact dI
 .exact dI
end
section
variable{w:Wo}{n:Int}{x y:Rt}{k:Nat}{p:Pg}{f g:Fm}{m:Mm}
theorem Wn7(h2:x.phase=2):Ww p x=if x.fam.lost=true then(x.undos.length:Int)+3 else 73-3*x.pc+Wl7 x.fam+Wbg x:=by unfold Ww;rw[Wa (by omega),Wb h2]
theorem Wwr{i:Nat}(hR:FmR f i g){b:Int}(hb:0<=b)(h:∀(j:Nat) (h:j<f.kids.length) (h':j<g.kids.length),WaG g.kids[j]=1->fP g g.kids[j]+fQ g<=b):Wl7 g<=b:=by
 refine Wl0 hb λz hz hu=>?_;obtain⟨j,hj,he⟩:=Xbc hz;rw[←he]at hu⊢;exact h j (by rw[←hR.len];exact hj) hj hu
theorem Wmq(hp:POk p)(hx:ROk p n x)(ht:RT x)(h2:x.phase=2)(hl:x.fam.lost≠true)(ho:Wbe x.fam≠true)(hm:W3 m=true):
  Ww p {x with fam:=WbW m p.2 p.2.length 0 x.fam}<Ww p x:=by
 have hL:=hx.live (by omega);have hs:=hL.spare;have hlen:=hp.code.len;obtain⟨f1,f2,f3⟩:=hL.fork h2;have hT:=(ht.fam h2).resolve_left hl;have m6:∀c∈p.2,c.length<=24:=λc hc=>(hp.kids c hc).toCC.len;have hR:=WsS hm hp.kids hp.k3 p.2.length 0 n x.fam (by omega) f3 hT;have h1:1<=Wl7 x.fam:=by
  have:∃z∈x.fam.kids,z.phase≠3:=by
   apply Classical.byContradiction;intro du;apply ho;unfold Wbe;rw[Xah];intro z hz;by_cases h3:z.phase=3
   .simpa using h3
   .exact Wj ⟨z,hz,h3⟩ du
  obtain⟨z,hz,CD⟩:=this;obtain⟨j,hj,he⟩:=Xbc hz;have hu:WaG x.fam.kids[j]=1:=WcZ (by rw[he];exact CD);have a:=Wx0 f3 m6 hT hj hu;have b:=WoO (f:=x.fam) _ (Xw hj) hu;unfold Wl7;omega
 rw[Wn7 h2,Wa hl,Wn7 (x:={x with fam:=WbW m p.2 p.2.length 0 x.fam}) h2];show(if(WbW m p.2 p.2.length 0 x.fam).lost=true then(x.undos.length:Int)+3 else 73-3*x.pc+Wl7 (WbW m p.2 p.2.length 0 x.fam)+Wbg x)<_;split
 .unfold Wbg;omega
 .rename_i jB;have hR:=hR.resolve_left jB;have:Wl7 (WbW m p.2 p.2.length 0 x.fam)<=Wl7 x.fam-1:=Wwr hR (by omega) λj h h' hu=>by
   obtain⟨a1,a2,a3⟩:=hR.p j h h' hu;have b:=WoO (f:=x.fam) _ (Xw h) a1;rcases a3 (by omega)with c|⟨_,k,hk,_⟩
   .unfold Wl7;omega
   .omega
  omega
end
section

end
section
section
variable{N:Nat}{s:Sc}{p:Pg}{w:Wo}{n:Int}{a:Ac}{k:Nat}
theorem WtZ{R:Type}{K0:Int->Bool->Int->Int->Int->Int->Ks->Kg->Ks->(List Y_Root)->Kad->Option R}(hl:s.2.2.length<=1000)(hN:1048576<N):
  ∀(d j n:Nat) (m:Int) (w:Wo),j+d=s.2.2.length->d<n->WOk s.2.1 m w->m+d<=90000->
  Za7 N s.2.2 s K0 n (j:Int) w.now w.token w.mem.1 w.shelf.2 w.mem.2 w.shelf.1 w.holds (w.roots.map Rt.e) w.hist=
   (λv:Wo=>K0 (s.2.2.length:Int) false v.now v.token v.mem.1 v.shelf.2 v.mem.2 v.shelf.1 v.holds (v.roots.map Rt.e) v.hist) ((s.2.2.drop j).foldl (WhB s) w):=by
 intro d
 induction d with
 |zero=>
  intro j n m w hj hn h hm;obtain⟨n,rfl⟩:∃n',n=n'+1:=⟨n-1,by omega⟩;have:j=s.2.2.length:=by omega
  subst this;simp only[Za7,Wat (Xn _),Wc,Xcn,List.foldl_nil]
 |succ d ih=>
  intro j n m w hj hn h hm;obtain⟨n,rfl⟩:∃n',n=n'+1:=⟨n-1,by omega⟩;have hlt:j<s.2.2.length:=by omega
  have hw:(w.now,(w.token,((w.mem.1,w.mem.2),((w.shelf.1,w.shelf.2),(w.holds,(w.roots.map Rt.e,w.hist))))))=w.e:=rfl;simp only[Za7,W2 hlt,Wq hlt,Wt hlt,Wp (show j<4611686018427387904 by omega),We,hw];rw[WoZ h (by omega) hN,List.drop_eq_getElem_cons hlt,List.foldl_cons];exact ih (j+1) n (m+1) _ (by omega) (by omega) (WeG h) (by omega)
theorem WrT(hb:SB s)(hN:1048576<N):Zk2 N s=ret (if Wp9 s=true then(WhA s).e else d_World):=by
 unfold Zk2;rw[WfM hb hN];simp only[ret,Xd];cases hs:Wp9 s with
 |false=>rfl
 |true=>
  obtain⟨h1,h2,h3,h4⟩:=WkY hs;have h0:=WnV hs;have kz:=Wsl s.2.1 (by omega);simp only[Xv,Wc,WaD];rw[Whv h1.map.1 h1.map.2 hN,WjY (Wgp.2 h1.cells) hN];simp only[ret,Xd,kz,We,WgK];have gT:=WtZ (s:=s) (N:=N) (K0:=λpu wz pw px py pA dx pB pC pD lP=>(some ((),((pw,(px,((py,dx),((pB,pA),(pC,(pD,lP)))))),())):Option (Unit×(Y_World×Unit)))) (by have:=hb.acts;omega) hN s.2.2.length 0 N 0 (Wez s) (by omega) (by omega) h0 (by omega);rw[Wj4];have qS:((Wez s).roots.map Rt.e)=Xo s.2.1.length d_Root:=by
   unfold Wez;simp only[List.map_replicate];rfl
  rw[qS]at gT;refine gT.trans ?_;rw[Xbm];rfl
end
variable{N:Nat}{s:Sc}{w:Wo}{n:Int}{a:Ac}
end
section
def WcI(s:Sc)(k:Nat):Nat->Nat->Wo->Wo
 |0,_,w=>w
 |d+1,j,w=>WcI s k d (j+1) (WhB s w (2,(k:Int),(j:Int)))
def WbU(s:Sc):Nat->Nat->Wo->Wo
 |0,_,w=>w
 |d+1,i,w=>WbU s d (i+1) (WcI s i (s.2.1.getD i pg0).2.length 0 (WhB s w (1,(i:Int),0)))
def WmQ(w:Wo):Bool:=w.roots.all λx=>decide (x.phase=8)
def Wa6(s:Sc):Nat->Wo->Wo×Nat
 |0,w=>(w,0)
 |d+1,w=>if WmQ w=true then(w,0)else((Wa6 s d (WbU s s.2.1.length 0 w)).1,(Wa6 s d (WbU s s.2.1.length 0 w)).2+1)
variable{s:Sc}{w v:Wo}{n:Int}{k:Nat}{N:Nat}
theorem WlL:∀(d j:Nat) (n:Int) (w:Wo),WOk s.2.1 n w->WOk s.2.1 (n+d) (WcI s k d j w)
 |0,_,n,w,h=>by rw[WcI];simpa using h
 |d+1,j,n,w,h=>by
  have:=WlL d (j+1) (n+1) _ (WeG (a:=(2,(k:Int),(j:Int))) h);rw[WcI,show n+((d+1:Nat):Int)=n+1+(d:Int) by omega];exact this
theorem WvK{R:Type}{rounds:Int}{b1 b2 b3 b4:Int}{kU:Int}{K0:Int->Bool->Int->Int->Int->Int->List Kb->List Int->List Kb->List Y_Root->List Ko->Option R}(hN:1048576<N)(hk:k<s.2.1.length)(h3:s.2.1[k].2.length<=3):
  ∀(d j fuel:Nat) (n:Int) (w:Wo),j+d=s.2.1[k].2.length->d<fuel->WOk s.2.1 n w->n+d<=99999->
  Zck N rounds (k:Int) s.2.1 kU s b1 b2 b3 b4 K0 fuel (j:Int) w.now w.token w.mem.1 w.shelf.2 w.mem.2 w.shelf.1 w.holds (w.roots.map Rt.e) w.hist=
  K0 (s.2.1[k].2.length:Int) false (WcI s k d j w).now (WcI s k d j w).token (WcI s k d j w).mem.1 (WcI s k d j w).shelf.2 (WcI s k d j w).mem.2 (WcI s k d j w).shelf.1 (WcI s k d j w).holds ((WcI s k d j w).roots.map Rt.e) (WcI s k d j w).hist:=by
 intro d;have br:Xc s.2.1 (Xa (k:Int)) (([]:List Ka),([]:List Kab))=s.2.1[k]:=Wt hk _
 induction d with
 |zero=>
  intro j fuel n w hj hf hw hn;obtain⟨f,rfl⟩:∃f,fuel=f+1:=⟨fuel-1,by omega⟩;have:decide ((j:Int)<Wi s.2.1[k].2)=false:=Wu (by unfold Wi;omega);simp only[Zck,WA,br,this,Wc,WcI];rw[show(j:Int)=(s.2.1[k].2.length:Int) by omega]
 |succ d ih=>
  intro j fuel n w hj hf hw hn;obtain⟨f,rfl⟩:∃f,fuel=f+1:=⟨fuel-1,by omega⟩;have:decide ((j:Int)<Wi s.2.1[k].2)=true:=Wf (by unfold Wi;omega);have hr:=WoZ (a:=(2,(k:Int),(j:Int))) hw (by omega) hN;simp only[Zck,WA,br,this,We];rw[show((w.now,(w.token,((w.mem.1,w.mem.2),((w.shelf.1,w.shelf.2),(w.holds,(w.roots.map Rt.e,w.hist)))))):Y_World)=w.e from rfl,hr];simp only[Xd,Wp (show j<4611686018427387904 by omega)];rw[WcI];exact ih (j+1) f (n+1) _ (by omega) (by omega) (WeG hw) (by omega)
theorem pk3(h:WOk s.2.1 n w){i:Nat}(hi:i<s.2.1.length):(s.2.1.getD i pg0).2.length<=3:=(Wka h.progs hi).k3
theorem WnT:∀(d i:Nat) (n:Int) (w:Wo),i+d=s.2.1.length->WOk s.2.1 n w->∃n',n<=n'/\n'<=n+4*d/\WOk s.2.1 n' (WbU s d i w)
 |0,_,n,w,hi,h=>⟨n,by omega,by omega,by rw[WbU];exact h⟩
 |d+1,i,n,w,hi,h=>by
  have h1:=WlL (k:=i) (s.2.1.getD i pg0).2.length 0 (n+1) _ (WeG (a:=(1,(i:Int),0)) h);have h3:=pk3 h (i:=i) (by omega);obtain⟨n',a,b,c⟩:=WnT d (i+1) _ _ (by omega) h1;exact⟨n',by omega,by omega,by rw[WbU];exact c⟩
theorem Wu9{R:Type}{rounds:Int}{b1 b2 b3 b4:Int}{K0:Int->Bool->Int->Int->Int->Int->List Kb->List Int->List Kb->List Y_Root->List Ko->Option R}(hN:1048576<N)(ng:s.2.1.length<=4):
  ∀(d i fuel:Nat) (n:Int) (w:Wo),i+d=s.2.1.length->d<fuel->WOk s.2.1 n w->n+4*d<=99999->
  Zbt N rounds s.2.1 s b1 b2 b3 b4 K0 fuel (i:Int) w.now w.token w.mem.1 w.shelf.2 w.mem.2 w.shelf.1 w.holds (w.roots.map Rt.e) w.hist=
  K0 (s.2.1.length:Int) false (WbU s d i w).now (WbU s d i w).token (WbU s d i w).mem.1 (WbU s d i w).shelf.2 (WbU s d i w).mem.2 (WbU s d i w).shelf.1 (WbU s d i w).holds ((WbU s d i w).roots.map Rt.e) (WbU s d i w).hist:=by
 intro d
 induction d with
 |zero=>
  intro i fuel n w hi hf hw hn;obtain⟨f,rfl⟩:∃f,fuel=f+1:=⟨fuel-1,by omega⟩;have:i=s.2.1.length:=by omega
  subst this;simp only[Zbt,Wat (Xn _),Wc,WbU]
 |succ d ih=>
  intro i fuel n w hi hf hw hn;obtain⟨f,rfl⟩:∃f,fuel=f+1:=⟨fuel-1,by omega⟩;have hlt:i<s.2.1.length:=by omega
  have hr:=WoZ (a:=(1,(i:Int),0)) hw (by omega) hN;have hg:s.2.1.getD i pg0=s.2.1[i]:=Wn hlt _;have h3:=pk3 hw hlt;rw[hg]at h3;have Av:=WeG (a:=(1,(i:Int),0)) hw;have hk:=WvK (R:=R) (rounds:=rounds) (b1:=b1) (b2:=b2) (b3:=b3) (b4:=b4) (kU:=Wi s.2.1)
   (K0:=λwB wC pE pF pG pH pI pJ jn pK lO=>(Zbt N rounds s.2.1 s b1 b2 b3 b4 K0 f (Wl .i64 (i:Int) (1:Int)) pE pF pG pH pI pJ jn pK lO)) hN hlt h3 s.2.1[i].2.length 0 N (n+1) _ (by omega) (by omega) Av (by omega)
  have aV:=WlL (k:=i) s.2.1[i].2.length 0 (n+1) _ Av;simp only[Zbt,W2 hlt,Wq hlt,We];rw[show((w.now,(w.token,((w.mem.1,w.mem.2),((w.shelf.1,w.shelf.2),(w.holds,(w.roots.map Rt.e,w.hist)))))):Y_World)=w.e from rfl,hr];simp only[Xd];refine hk.trans ?_;simp only[Wp (show i<4611686018427387904 by omega)];rw[WbU,hg];exact ih (i+1) f _ _ (by omega) (by omega) aV (by omega)
theorem Wp3(hl:w.roots.length<=4)(hN:1048576<N):Zo3 N w.e=ret (WmQ w):=by
 unfold Zo3 Zav Z2;have e1:w.e.2.2.2.2.2.1=w.roots.map Rt.e:=rfl;rw[e1];have hb:(w.roots.map Rt.e).length<=4:=by simpa using hl
 have h1:=WR (l:=w.roots.map Rt.e) (V:=Unit) (R:=Unit×Kj) (lp:=λn j _=>Zp N (w.roots.map Rt.e) (λaX=>(some ((),(aX,())))) (λaT bi=>(some ((),((-1:Int),())))) n j) (n:=N) (by omega)
  (body:=λj x v k=>bif (x.1 !=8)then some ((),(j,()))else k v) (K:=λ_ v=>some ((),((-1:Int),())))
  (λn i u hi=>by
   simp only[Zp,Zpc,W2 hi,Wq hi,Wt hi,Wp (show i<4611686018427387904 by omega),We,Xd])
  (λn u=>by simp only[Zp,Wat (Xn _),Wc]) ()
 have h2:∀(l:List Y_Root) (j:Nat),∃r:Int,Wcf (λ(j:Int) (x:Y_Root) (v:Unit) (k:Unit->Option Kw)=>bif (x.1 !=8)then some ((),(j,()))else k v) (λ_ v=>some ((),((-1:Int),()))) l j ()=some ((),(r,()))/\(decide (r>=0)= !(l.all λx=>x.1==8)):=λl=>by
  induction l with
  |nil=>intro j;exact⟨-1,rfl,rfl⟩
  |cons x l ih=>
   intro j;rw[Wcf];cases hx:x.1==8 with
   |true=>
    have:(x.1 !=8)=false:=by rw[bne,hx];rfl
    simp only[this,Wc];obtain⟨r,a,b⟩:=ih (j+1);exact⟨r,a,by rw[b,Xcf,hx];rfl⟩
   |false=>
    have:(x.1 !=8)=true:=by rw[bne,hx];rfl
    simp only[this,We];exact⟨j,rfl,by rw[Xcf,hx];simp⟩
 obtain⟨r,a,b⟩:=h2 (w.roots.map Rt.e) 0;rw[h1.trans a];simp only[Xd,b,Bool.not_not];have:((w.roots.map Rt.e).all λx=>x.1==8)=WmQ w:=by
  unfold WmQ;rw[List.all_map];congr 1
 rw[this]
theorem Wub{R:Type}{K0:Int->Bool->Int->Int->Int->Int->List Kb->List Int->List Kb->List Y_Root->List Ko->Option R}(hN:1048576<N)(ng:s.2.1.length<=4):
  ∀(d r fuel:Nat) (n:Int) (w:Wo),r+d=6000->d<fuel->WOk s.2.1 n w->n+16*d<=99999->
  Zbu N s K0 fuel (r:Int) w.now w.token w.mem.1 w.shelf.2 w.mem.2 w.shelf.1 w.holds (w.roots.map Rt.e) w.hist=
  (λv:Wo×Nat=>K0 ((r+v.2:Nat):Int) false v.1.now v.1.token v.1.mem.1 v.1.shelf.2 v.1.mem.2 v.1.shelf.1 v.1.holds (v.1.roots.map Rt.e) v.1.hist) (Wa6 s d w):=by
 intro d
 induction d with
 |zero=>
  intro r fuel n w hr hf hw hn;obtain⟨f,rfl⟩:∃f,fuel=f+1:=⟨fuel-1,by omega⟩;have hl:w.roots.length<=4:=by rw[hw.len];exact ng
  simp only[Zbu];rw[show((w.now,(w.token,((w.mem.1,w.mem.2),((w.shelf.1,w.shelf.2),(w.holds,(w.roots.map Rt.e,w.hist)))))):Y_World)=w.e from rfl,Wp3 hl hN];have h6:decide ((r:Int)<6000)=false:=Wu (by omega);simp only[ret,Xd,h6,Wc,Wa6,Nat.add_zero];cases WmQ w<;>rfl
 |succ d ih=>
  intro r fuel n w hr hf hw hn;obtain⟨f,rfl⟩:∃f,fuel=f+1:=⟨fuel-1,by omega⟩;have hl:w.roots.length<=4:=by rw[hw.len];exact ng
  simp only[Zbu];rw[show((w.now,(w.token,((w.mem.1,w.mem.2),((w.shelf.1,w.shelf.2),(w.holds,(w.roots.map Rt.e,w.hist)))))):Y_World)=w.e from rfl,Wp3 hl hN];have h6:decide ((r:Int)<6000)=true:=Wf (by omega);simp only[ret,Xd,h6,We,Wa6];cases ho:WmQ w with
  |true=>rfl
  |false=>
   simp only[Bool.not_false,We,Bool.false_eq_true,WaE];obtain⟨n',a,b,c⟩:=WnT s.2.1.length 0 n w (by omega) hw;have gT:=Wu9 (s:=s) (R:=R) (rounds:=Wl .i64 (r:Int) 1) (b1:=0) (b2:=0) (b3:=0) (b4:=0)
    (K0:=λwE wF pL pM pN pO pP pQ pR pS pT=>(Zbu N s K0 f (Wl .i64 (r:Int) (1:Int)) pL pM pN pO pP pQ pR pS pT)) hN ng s.2.1.length 0 N n w (by omega) (by omega) hw (by omega)
   refine gT.trans ?_;simp only[Wp (show r<4611686018427387904 by omega)];rw[ih (r+1) f n' _ (by omega) (by omega) c (by omega)];simp only[show r+1+(Wa6 s d (WbU s s.2.1.length 0 w)).2=r+((Wa6 s d (WbU s s.2.1.length 0 w)).2+1) by omega]
theorem Wr0(hb:SB s)(hN:1048576<N)(aV:Wp9 s=true):Zgw N s=some ((),((Wa6 s 6000 (WhA s)).1.e,(((Wa6 s 6000 (WhA s)).2:Int),()))):=by
 obtain⟨h1,h2,h3,h4⟩:=WkY aV;have hW:=Wt8 aV;have hp:=WrT hb hN;unfold Zgw;rw[WfM hb hN,aV];simp only[ret,Xd,Xv,Wc];rw[hp,Wb aV];simp only[ret,Xd];have hlen:(s.2.2.length:Int)<=400:=by omega
 have:=Wub (s:=s) (N:=N) (K0:=λeA tF pU pV pW pX pY pZ p9 qa qb=>(some ((),((pU,(pV,((pW,pY),((pZ,pX),(p9,(qa,qb)))))),(eA,()))):Option (Unit×(Y_World×Kj)))) hN (by omega) 6000 0 N _ (WhA s) (by omega) (by omega) hW (by omega);refine this.trans ?_;simp only[Nat.zero_add];rfl
end
section
variable{s:Sc}{w v:Wo}{n:Int}{x y:Rt}{k:Nat}{p:Pg}{f g:Fm}{m:Mm}{o:Opn}
def Wfw(p:Pg)(x:Rt):Int:=if x.phase<=4 then Ww p x-292 else Ww p x
def WwQ(p:Pg)(x y:Rt):Prop:=y.phase=1\/y.phase=2\/y.phase=8\/y.phase=3\/(y.phase=6/\y.fate=0)\/(y.phase=5/\Ww p y<=x.undos.length+36)
theorem Wlt:(WF x).phase=3\/((WF x).phase=6/\(WF x).fate=0):=by
 unfold WF;split
 .exact .inr ⟨rfl,rfl⟩
 .exact .inl rfl
theorem WkE(hl:RLive p n x)(hk:k<=8){out:Int}:WwQ p x (WaT w x k out).2:=by
 unfold WaT;simp only;generalize (if out=2 then []else x.writes)=rows;split
 .exact .inr (.inr (.inl rfl))
 .have hc:CmOk (Wbj ((k:Int)+1) x.rv rows x.reads):=WkO (by omega) hl.rv;have:=(Wg0 hc).2.1;have e:Ww p ({x with fate:=out,cm:=Wbj ((k:Int)+1) x.rv rows x.reads,phase:=5}:Rt)=Wag (Wbj ((k:Int)+1) x.rv rows x.reads)+x.undos.length+3:=rfl;refine .inr (.inr (.inr (.inr (.inr ⟨rfl,?_⟩))));show Ww p ({x with fate:=out,cm:=Wbj ((k:Int)+1) x.rv rows x.reads,phase:=5}:Rt)<=_;rw[e];omega
theorem Wuf(hl:RLive p n x)(h1:x.phase=1)(hk:k<=8):WwQ p x (WfG w x k p).2:=by
 have one:∀y:Rt,y.phase=1->WwQ p x y:=λy h=>.inl h;have cf:∀z:Rt,WwQ p x (WF z):=λz=>by
  rcases Wlt (x:=z)with h|h
  .exact .inr (.inr (.inr (.inl h)))
  .exact .inr (.inr (.inr (.inr (.inl h))))
 unfold WfG;split
 .exact WkE hl hk
 .simp only;generalize opN p.1 x.pc=o;split
  .show WwQ p x (Wdm w x o);unfold Wdm;cases WaF x.writes o.2.2.1 with
   |some v=>exact one _ h1
   |none=>
    simp only;generalize WM w.mem x.rv _=b;split
    .exact cf _
    .split<;>exact one _ h1
  .split
   .unfold WcD;split
    .exact WkE hl hk
    .split<;>exact one _ h1
   .split
    .exact .inr (.inl rfl)
    .split
     .unfold Wcd;cases WaY w.holds ((k:Int)+1) (WaU o).1 (WaU o).2 with
      |none=>exact cf _
      |some hs=>exact one _ h1
     .repeat' split
      all_goals exact one _ h1
theorem Wwm(hp:POk p)(hx:ROk p n x)(ht:RT x)(hg:RGd m x):1<=Wfw p x:=by
 have yl:=(WrB hp hx ht).2.2;have bX:=hg.ph;have hs:=hg.sp;unfold Wfw;by_cases h1:x.phase=1
 .have:=We5 hp.code (hx.live (by omega)) ht h1;rw[Wb (by omega)];omega
 by_cases h2:x.phase=2
 .have hl:=hx.live (by omega);have aR:=hl.pc;have hlen:=hp.code.len;have h0:=WpN x.fam x.fam.kids;rw[Wb (by omega),Wn7 h2,Wa (by rw[(hg.fam h2).lost];simp)];unfold Wl7 Wbg;omega
 .rw[Wa (by omega)];exact yl (by omega)
theorem WxK(hp:POk p)(hx:ROk p n x)(rK:RX x)(ht:RT x)(hk:k<=8)(hg:RGd w.mem x)(hh:∀e∈w.holds,e.1=(k:Int)+1)(hm:W3 w.mem=true)(hb:LB w k x)(dW:w.mem.1<1000000):
  (Wan w x k p).2.phase=8\/(RGd (Wan w x k p).1.mem (Wan w x k p).2/\(Wfw p (Wan w x k p).2<Wfw p x\/(x.phase=2/\x.fam.lost≠true/\Wbe x.fam≠true/\(Wan w x k p).2=x))):=by
 rcases Wu4 hp hx hg ht hh hm hb dW with h8|hy
 .exact .inl h8
 refine .inr ⟨hy,?_⟩;have bX:=hg.ph;have ym:=hy.ph;rcases Wqr (w:=w) hp hx rK ht hk (by omega)with hlt|hwt
 .left;have hs:=hg.sp;by_cases h1:x.phase=1
  .have hl:=hx.live (by omega);have ho:=Wuf (w:=w) hl h1 hk;have qP:=We5 hp.code hl ht h1;have e:Wan w x k p=WfG w x k p:=by
    unfold Wan;rw[Wa (by rw[hg.dm];simp),Wa (by omega),Wb h1]
   rw[e]at hy ym hlt⊢;have me:=hy.ft;unfold Wfw;rw[Wb (show x.phase<=4 by omega)];rcases ho with h|h|h|h|h|h
   .rw[Wb (by omega)];omega
   .rw[Wb (by omega)];omega
   .omega
   .omega
   .exact Wj h.2 (me (by omega))
   .rw[Wa (by omega)];omega
  by_cases h2:x.phase=2
  .have e:(Wan w x k p).2=Wco x:=by
    unfold Wan;rw[Wa (by rw[hg.dm];simp),Wa (by omega),Wa h1,Wb h2]
   rw[e]at hlt⊢;have e2:(Wco x).phase<=4:=by
    unfold Wco;rw[Wa (by rw[(hg.fam h2).lost];simp)];split
    .show(1:Int)<=4;omega
    .omega
   unfold Wfw;rw[Wb e2,Wb (by omega)];omega
  .unfold Wfw;rw[Wa (show¬x.phase<=4 by omega)];split<;>omega
 .exact .inr hwt
theorem Wwq{z:Kd}{j:Nat}{c:List Opn}(h:z.phase=3):WaN m f z j c=(f,z):=by
 unfold WaN;rw[Wa (by omega),Wa (by omega),Wa (by omega)]
theorem Wqp(h:Wbe f=true){j:Nat}(hj:j<f.kids.length){c:List Opn}:Wax m f j c=f:=by
 unfold Wax;split
 .rfl
 .have h3:f.kids[j].phase=3:=by
   unfold Wbe at h;rw[Xah]at h;simpa using h _ (Xw hj)
  rw[show f.kids.getD j {}=f.kids[j]from Wn hj _,Wwq h3];unfold Fm.put;simp only;rw[Xap]
variable{codes:List (List Opn)}
theorem WiH(h:Wbe f=true):∀(d i:Nat),i+d=f.kids.length->WbW m codes d i f=f
 |0,_,_=>rfl
 |d+1,i,hi=>by rw[WbW,Wqp h (by omega)];exact WiH h d (i+1) (by omega)
theorem Wnn(hm:W3 m=true)(aU:∀c∈codes,KC c)(h3:codes.length<=3):∀(d i:Nat) (n:Int) (f:Fm),i+d=codes.length->FOk codes n f->(∀(j:Nat) (h:j<f.kids.length),KT f j f.kids[j])->FGd m f->FGd m (WbW m codes d i f)
 |0,_,_,_,_,_,_,hg=>hg
 |d+1,i,n,f,hi,hF,hT,hg=>by
  have hlen:=hF.len;have hc:KC (codes.getD i []):=by rw[Wn (show i<codes.length by omega) _];exact aU _ (Xw _)
  have Aw:=Wt7 (k:=i) hF hT hg (by omega) hc;rw[WbW];refine Wnn hm aU h3 d (i+1) (n+1) _ (by omega) (Wgv (by omega) hm hc hF rfl) ?_ Aw;rcases Wp5 hm aU h3 hF hT (k:=i) (by omega)with h|h
  .rw[Aw.lost]at h;cases h
  .exact h
def Wa3(m:Mm)(p:Pg)(d i:Nat)(x:Rt):Rt:=if x.phase=2 then{x with fam:=WbW m p.2 d i x.fam}else x
theorem Wqd:∀(d j:Nat) (w:Wo) (hk:k<w.roots.length),j+d=(s.2.1.getD k pg0).2.length->
  WcI s k d j w={w with now:=w.now+d,roots:=w.roots.set k (Wa3 w.mem (s.2.1.getD k pg0) d j w.roots[k])}
 |0,j,w,hk,hj=>by
  have:Wa3 w.mem (s.2.1.getD k pg0) 0 j w.roots[k]=w.roots[k]:=by
   unfold Wa3;split<;>rfl
  rw[WcI,this,Xap];simp
 |d+1,j,w,hk,hj=>by
  rw[WcI];have hb:0<=(k:Int)/\(k:Int)<w.roots.length:=by omega
  have hg:w.roots.getD k rt0=w.roots[k]:=Wn hk _;have e:WhB s w (2,(k:Int),(j:Int))={w with now:=w.now+1,roots:=w.roots.set k (Wa3 w.mem (s.2.1.getD k pg0) 1 j w.roots[k])}:=by
   unfold WhB;simp only[Xi];rw[Wb hb,Wa (by omega),Wb trivial,hg];unfold Wa3;by_cases h2:w.roots[k].phase=2
   .rw[Wb ⟨h2,by omega,by omega⟩,Wb h2];rfl
   .rw[Wa (λh=>h2 h.1),Wa h2,Xap]
  have dL:k<(WhB s w (2,(k:Int),(j:Int))).roots.length:=by rw[e];show k<(w.roots.set k _).length;rw[Xy];exact hk
  rw[Wqd d (j+1) _ dL (by omega)];have e1:(WhB s w (2,(k:Int),(j:Int))).roots[k]=Wa3 w.mem (s.2.1.getD k pg0) 1 j w.roots[k]:=by
   simp only[e,Xdg]
  rw[e1,e];simp only[Xcq];have e2:Wa3 w.mem (s.2.1.getD k pg0) d (j+1) (Wa3 w.mem (s.2.1.getD k pg0) 1 j w.roots[k])=Wa3 w.mem (s.2.1.getD k pg0) (d+1) j w.roots[k]:=by
   unfold Wa3;by_cases h2:w.roots[k].phase=2
   .rw[Wb h2,Wb h2,Wb h2];rfl
   .rw[Wa h2,Wa h2,Wa h2]
  rw[e2];congr 1;omega
end
section
section
variable{R:Type}{N kk:Nat}{p:Pg}{th:List Int×List Int×Int}{K0:List Int->Option R}{K1:Int->Bool->List Int->Int->List M7->List Int->List Int->Option R}
 {w v:Wo} {x y:Rt} {n:Int} {l:List Int} {r c0:List Int} {S:List Int×Int} {mk:List M7} {pc:Nat} {k:Nat} {m m':Mm} {u:Un} {c:Cm} {tgt:List Int×(List Int×Int)}
theorem WvT(hN:1048576<N)(hp:POk p)(dc:∀c∈p.2,WcE c=true)(hc:Vals 8 th.1)(h:Lv N kk p th K0 K1 w x)(h2:x.phase=2)(ht:x.tries=0)(cI:x.spare=0)(hx:ROk p n x)(hg:RGd w.mem x)(u4:v.mem=w.mem)(dK:v.shelf=w.shelf)(u5:v.holds=w.holds):AL N kk p th K0 K1 v (Wco x):=by
 have hl:=hx.live (by omega);have dj:=hp.code.len;have g0:x.writes.length<=300:=by have:=hl.wl;have:=hl.pc;omega
 obtain⟨f1,f2,hF⟩:=hl.fork h2;obtain⟨g1,g2,g3⟩:=h.fam h2;obtain⟨i,dw,hi,rL⟩:=Wdc (l:=p.1) hl.pc.1 f1;rw[rL]at f2;unfold Wco;rw[Wa (by rw[(hg.fam h2).lost];simp)];split
 .rename_i qL;obtain⟨d0,d1⟩:=hp.code.fk i dw f2;have Ax:FX p.2 th.1 x.fam:=⟨⟨_,hF⟩,⟨_,g3⟩,qL,⟨_,g2⟩⟩;obtain⟨o1,o2⟩:=Ax.ord hp.k3;obtain⟨fk,o,hf,S0,hS,hA⟩:=h.sim;have ug:fk=false:=by
   grind [Xi,Wc1]
  subst ug;have hS0:S0=shS w.shelf:=by
   simp_all
  subst hS0;have kz:x.marks= []:=by
   have e1:=Wm Xb hl.marks.pcs;rw[hi,Xi]at e1;simp only[Xad]at e1;have e2:=WaV hp.code.up i (by omega);simp_all
  have hz:FZ x.fam:=FZ.of g3.ft hF hp.k3 (λc hc=>(hp.kids c hc).len) g2;obtain⟨q1,q2⟩:=Wu7 (base:=th.1) hF g3.ft hz hc;have hs0:ovl th.1 x.fam.start=ovl th.1 x.writes:=by rw[g2];exact Wtq hc hl.writes g0
  refine⟨ht,cI,.inl ⟨.inl rfl,⟨by rw[u4];exact h.mv,⟨true,⟨(λz=>by cases z),λ_=>o1⟩,λ_=>?_,shS w.shelf,.inl (by rw[dK]),λl cM=>?_⟩,by rw[dK];exact h.un,by rw[u5];exact h.hd,λz=>?_,λz=>(by simp_all)⟩⟩⟩
  .grind [frk,Wc1,Wd3]
  .have yn:l=x.fam.order:=cM rfl;subst yn;have hAl:=hA x.fam.order (λz=>by cases z);show WAt N kk p th K0 K1 x.fam.order (x.pc+1) (Wee x.fam) (shS w.shelf) (x.marks.map (cm7 th.1 (Wb1 x.fam) x.undos (shS v.shelf))) (ovl th.1 (Wb1 x.fam));rw[kz,Xbd]at hAl⊢;rw[hi]at hAl⊢;refine hAl.on hN (by omega) (by omega) λn=>?_;have:=Wx4 (R:=R) (k:=kk) (code:=p.1) (kids:=p.2) (ak:=th.2.2) (aG:=th.1) (aJ:=th.2.1) (K0:=K0) (K1:=K1) (n:=n) (ct:=(shS w.shelf).2) (mk:=[]) (m:=(shS w.shelf).1) (base:=th.1) (f:=x.fam) hN dw dj f2 hp.k3 Ax hc (λc hc=>⟨dc c hc,(hp.kids c hc).len⟩) WcU;rw[hs0,g1,←q1]at this;exact this
  .have:=(h.pb z).1;omega
 .exact⟨ht,cI,.inl ⟨.inr h2,⟨by rw[u4];exact h.mv,by rw[dK];exact h.sim,by rw[dK];exact h.un,by rw[u5];exact h.hd,h.pb,h.fam⟩⟩⟩
theorem Wte(hp:POk p)(h:Lv N kk p th K0 K1 w x)(h2:x.phase=2)(hm:W3 w.mem=true):∀(d i:Nat) (n:Int) (f:Fm),i+d=p.2.length->FOk p.2 n f->f.regs=x.regs/\f.start=WbF x.writes/\FA (MF th.1) (ZA th.1) p.2 f->
  (WbW w.mem p.2 d i f).regs=x.regs/\(WbW w.mem p.2 d i f).start=WbF x.writes/\FA (MF th.1) (ZA th.1) p.2 (WbW w.mem p.2 d i f)
 |0,i,n,f,_,_,hf=>hf
 |d+1,i,n,f,hi,hF,hf=>by
  obtain⟨a,b,e⟩:=hf;have hlen:=hF.len;have Ab:p.2.getD i []=p.2[i]'(by omega):=Wn (by omega) _;have aU:KC (p.2.getD i []):=by rw[Ab];exact hp.kids _ (Xw _)
  obtain⟨q1,q2,q3,q4⟩:=Wt0 (m:=w.mem) (k:=i) (code:=p.2.getD i []) e hF (by omega) hm aU rfl (WxQ h.mv);exact Wte hp h h2 hm d (i+1) (n+1) _ (by omega) (Wgv (m:=w.mem) (by omega) hm aU hF rfl) ⟨q3.trans a,q4.trans b,q1⟩
theorem Wu8(hp:POk p)(h:AL N kk p th K0 K1 w x)(hm:W3 w.mem=true)(hx:ROk p n x):AL N kk p th K0 K1 w (Wa3 w.mem p p.2.length 0 x):=by
 unfold Wa3;split
 .rename_i h2;obtain⟨ht,cI,h⟩:=h;rcases h with⟨_,h⟩|⟨tgt,h⟩
  .have hF:=((hx.live (by omega)).fork h2).2.2;obtain⟨a,b,c⟩:=Wte hp h h2 hm p.2.length 0 n x.fam (by omega) hF (h.fam h2);exact⟨ht,cI,.inl ⟨.inr h2,⟨h.mv,h.sim.same rfl rfl rfl rfl rfl rfl rfl,h.un,h.hd,h.pb,λ_=>⟨a,b,c⟩⟩⟩⟩
  .have:=h.ph;omega
 .exact h
theorem Wwb(aV:CmOk c)(hm:W3 m=true)(oa:CmLk m c)(dW:m.1<1000000)(hg:CGd m c)(nq:Vals 8 c0)(h:MP c0 m c):MP c0 (WD m c).1 (WD m c).2/\(WD m c).2.puts=c.puts:=by
 obtain⟨g1,g2,_⟩:=Wix aV hm oa hg dW;have bX:=hg.ph;have bb:c.phase=1\/c.phase=4\/c.phase=5\/c.phase=7->c.steps=c.puts.length:=λhp=>by unfold Cm.steps;rw[Wb hp]
 revert g1 g2;by_cases h1:c.phase=1
 .obtain⟨j,hj,e1,e2,e3,e4⟩:=aV.put (by omega);unfold WD;simp only;rw[Wb h1,e2];split
  .intro _ _;have hp:(WP c 2).phase=1\/(WP c 2).phase=2:=by
    unfold WP;split
    .right;show Wbb c 2=2;unfold Wbb;rw[Wa (by omega),Wa (by omega)]
    simp_all
   refine⟨λi a z=>?_,(Wav c 2).1⟩;have hv:(WN (WjW m c.puts[j].1 c.who) i).1=(WN m i).1:=by
    grind [WjW,Wc0]
   have ej:cmJ (WP c 2)=0:=by unfold cmJ;rw[Wb (by omega)]
   have CE:cmJ c=0:=by unfold cmJ;rw[Wb (by omega)]
   show(WN (WjW m c.puts[j].1 c.who) i).1=_;rw[hv,ej,h i a z,CE];simp
  grind [WiR]
 have ej0:c.phase<=3->cmJ c=0:=λz=>by unfold cmJ;rw[Wb z]
 have base:c.phase<=3->∀i,0<=i->i<=7->(WN m i).1=(ovl c0 []).getD i.toNat 0:=λz i a b=>by
  have:=h i a b;simp_all
 have nxt:∀c':Cm,c'.puts=c.puts->(c'.phase<=3\/(c'.phase=4/\c'.pos=0)\/c.puts= [])->∀i:Int,(ovl c0 (c'.puts.take (cmJ c')))=ovl c0 []:=λc' e ij i=>by
  rw[e];rcases ij with z|⟨z,z2⟩|z
  .simp_all [cmJ,Wb]
  .simp_all [cmJ,Wa,Wb]
  simp_all
 by_cases h2:c.phase=2
 .have et:tick m=((m.1+1,m.2),m.1+1):=by unfold tick;rw[Wb dW]
  have h0:=(WO hm).2.1;unfold WD;simp only;rw[Wa h1,Wb h2,et];simp only;rw[Wa (by omega)];intro _ _;refine⟨λi a z=>?_,rfl⟩;show(WN m i).1=_;rw[base (by omega) i a z,nxt (WcR {c with wv:=m.1+1} 3) rfl ?_ i];by_cases md:c.reads.length=0
  .by_cases gi:c.puts.length=0
   .simp_all
   .right;left;unfold WcR;refine⟨?_,rfl⟩;show Wbb {c with wv:=m.1+1} 3=4;unfold Wbb;rw[Wa (λz=>gi z.2),Wb ⟨rfl,md⟩]
  .left;show Wbb {c with wv:=m.1+1} 3<=3;simp_all [Wbb,Wa]
 by_cases h3:c.phase=3
 .unfold WD;simp only;rw[Wa h1,Wa h2,Wb h3];split
  .grind [WiR]
  .intro _ _;refine⟨λi a z=>?_,(Wav c 4).1⟩;show(WN m i).1=_;rw[base (by omega) i a z,nxt (WP c 4) (Wav c 4).1 ?_ i];unfold WP;split
   .by_cases gi:c.puts.length=0
    .simp_all
    .right;left;unfold WcR;refine⟨?_,rfl⟩;show Wbb c 4=4;unfold Wbb;rw[Wa (λz=>gi z.2),Wa (by omega)]
   simp_all
 by_cases h4:c.phase=4
 .obtain⟨j,hj,e1,e2,e3,e4⟩:=aV.put (by omega);have hs:=bb (by omega);unfold WD;simp only;rw[Wa h1,Wa h2,Wa h3,Wb h4,e2];intro _ _;obtain⟨p1,p2,p3⟩:=Wav c 5;refine⟨λi a z=>?_,p1⟩;have ej:cmJ c=j:=by simp_all [cmJ,Wa,Wb]
  have ejn:cmJ (WP c 5)=j+1:=by
   unfold WP;split
   .have:cmJ (WcR c 5)=c.puts.length:=by
     simp[cmJ,WcR,WtG,Wa]
    omega
   simp_all [cmJ,Wa,Wb]
  have hown:(WN m c.puts[j].1).2.2=c.who:=(oa.own _ e3.1 e3.2).2 ⟨j,hj,rfl,by unfold lkA;omega⟩;have hcv:=Wcb nq (l:=c.puts.take j) λr hr=>aV.rows r (Xbf hr);show(WN (WdE m c.puts[j].1 c.who c.puts[j].2) i).1=_;rw[ejn,p1,List.take_succ_eq_append_getElem hj,Wiu];unfold WdE;rw[Wb hown,Wc0 hm e3 ⟨a,z⟩];have hi:=h i a z;rw[ej]at hi;by_cases he:i=c.puts[j].1
  .rw[Wb he,he,Xac,List.getElem?_set_self (by rw[hcv.len];omega)];rfl
  grind
 .have h5:c.phase=5:=by omega
  obtain⟨j,hj,e1,e2,e3,e4⟩:=aV.put (by omega);unfold WD;simp only;rw[Wa h1,Wa h2,Wa h3,Wa h4,Wb h5,e2];intro _ _;obtain⟨p1,p2,p3⟩:=Wav c 6;have hp:(WP c 6).phase=5\/(WP c 6).phase=6:=by
   unfold WP;split
   .right;exact WtE c
   simp_all
  refine⟨λi a z=>?_,p1⟩;have hv:(WN (Wbw m c.puts[j].1 c.who c.wv) i).1=(WN m i).1:=by
   grind [Wbw,Wc0]
  have ej:cmJ c=c.puts.length:=by unfold cmJ;rw[Wa (by omega),Wa (by omega)]
  have ejn:cmJ (WP c 6)=c.puts.length:=by unfold cmJ;rw[Wa (by omega),Wa (by omega),p1]
  show(WN (Wbw m c.puts[j].1 c.who c.wv) i).1=_;rw[hv,h i a z,ej,ejn,p1]
theorem WxE(hp:POk p)(hc:Vals 8 th.1)(h:Cl N kk p th K0 K1 w x tgt)(ht:x.tries=0)(cI:x.spare=0)(hx:ROk p n x)(hg:x.phase≠8->RGd w.mem x)(CG:RT x)(hm:W3 w.mem=true)(dW:w.mem.1<1000000)(hD:LB w 0 x)(kr:ShOk w.shelf)(h8:x.phase≠8):
  AL N kk p th K0 K1 (Wan w x 0 p).1 (Wan w x 0 p).2:=by
 have it:=hg h8;have hdm:=it.dm;have bX:=h.ph;unfold Wan;rw[Wa (by omega),Wa (by omega),Wa (by omega),Wa (by omega),Wa (by omega),Wa (by omega)];by_cases h5:x.phase=5
 .rw[Wb h5];have Ay:=it.cm h5;obtain⟨CH,oa⟩:=hD.cm h5;have ur:=hx.comm h5;obtain⟨c5,c5'⟩:=h.c5 h5;obtain⟨v1,v2⟩:=Wwb ur hm oa dW Ay hc c5;obtain⟨g1,g2,_⟩:=Wix ur hm oa Ay dW;have me:=it.ft (.inl h5);have CI:x.fate=1\/x.fate=2:=by
   obtain⟨_,fk,o,yo⟩:=h.fn;have:∃l:List Int,fk=true->l=x.order:=⟨x.order,λ_=>rfl⟩;obtain⟨l,hl⟩:=this;rcases yo l hl with z|z
   .omega
   omega
  unfold WaW;rw[Wa (by simp_all)];simp only;unfold WcL;simp only;rw[Wa (show¬(WD w.mem x.cm).2.phase=8 by omega)];by_cases h6:(WD w.mem x.cm).2.phase=6
  .rw[Wb h6];have hv:MV tgt.1 (WD w.mem x.cm).1:=λi a b=>by
    have:=v1 i a b;simp_all [cmJ,WD,Wa,Xcu]
   refine⟨ht,cI,.inr ⟨tgt,⟨h.fn.same rfl rfl rfl,?_,λz=>?_,λz=>?_,λ_=>hv,λz=>?_,λz z2=>?_⟩⟩⟩
   .show(if x.fate=2 then(6:Int)else 7)=5\/(if x.fate=2 then(6:Int)else 7)=6\/(if x.fate=2 then(6:Int)else 7)=7\/_;split<;>omega
   .simp_all
   ·(change (if x.fate=2 then(6:Int)else 7)=5 at z)
    split at z<;>omega
   .refine h.s1 ?_
    grind
   .exact h.s2 z (.inl h5)
  .rw[Wa h6];exact⟨ht,cI,.inr ⟨tgt,⟨h.fn.same rfl rfl rfl,.inl h5,λz=>(by simp_all),λ_=>⟨v1,by simp_all⟩,λz=>Wj h5 z,λz=>h.s1 z,λz z2=>h.s2 z z2⟩⟩⟩
 rw[Wa h5];have fm:=h.c6 h5;by_cases h6:x.phase=6
 .rw[Wb h6];have Az:=h.f6 h6;have AA:=h.s2 Az (.inr h6);split
  .rename_i hu;have uq:x.undos≠ []:=λz=>by simp_all
   have m7:x.undos.dropLast++ [Wct x.undos (0,0,0)]=x.undos:=by
    grind [Wct,Wn,Xff]
   have Aq:UnV (Wct x.undos (0,0,0)):=hx.undos _ (by
    grind)
   refine⟨ht,cI,.inr ⟨tgt,⟨h.fn.same rfl rfl rfl,.inr (.inl h6),λ_=>Az,λz=>Wj z h5,λ_=>fm,λz=>?_,λ_ _=>?_⟩⟩⟩
   .rcases z with z|z|z
    ·(change x.fate=1 at z;omega)
    ·(change x.phase=7 at z;omega)
    ·(change x.phase=8 at z;omega)
   .show Wrm (shS (WdB w.shelf (Wct x.undos (0,0,0)))) x.undos.dropLast=_
    grind [WrH,WiZ]
  .rename_i hu;have hC:x.undos= []:=Xt (by omega);rw[hC]at AA;exact⟨ht,cI,.inr ⟨tgt,⟨h.fn.same rfl rfl rfl,.inr (.inr (.inl rfl)),λz=>(by omega),λz=>(by simp_all),λ_=>fm,λ_=>AA,λ_ z=>(by simp_all)⟩⟩⟩
 rw[Wa h6,Wb (by omega)];have h7:x.phase=7:=by omega
 rw[Wa (it.ft (by omega))];unfold WjE;exact⟨ht,cI,.inr ⟨tgt,⟨h.fn.same rfl rfl rfl,.inr (.inr (.inr rfl)),λz=>(by simp_all),λz=>(by simp_all),λ_=>fm,λ_=>h.s1 (.inr (.inl h7)),λ_ z=>(by simp_all)⟩⟩⟩
theorem WvN(hN:1048576<N)(hp:POk p)(dc:∀c∈p.2,WcE c=true)(hc:Vals 8 th.1)(h:AL N kk p th K0 K1 w x)(hx:ROk p n x)(hg:RGd w.mem x)(CG:RT x)(hm:W3 w.mem=true)(dW:w.mem.1<1000000)(hD:LB w 0 x)(kr:ShOk w.shelf)(hh:HOk w.holds)
  (it:(Wan w x 0 p).2.phase=8\/RGd (Wan w x 0 p).1.mem (Wan w x 0 p).2):AL N kk p th K0 K1 (Wan w x 0 p).1 (Wan w x 0 p).2:=by
 obtain⟨ht,cI,ij⟩:=h;rcases ij with⟨d9,h⟩|⟨tgt,h⟩
 .have hdm:=hg.dm;rcases d9 with h1|h2
  .have e:Wan w x 0 p=WfG w x 0 p:=by
    unfold Wan;rw[Wa (by simp_all),Wa (by omega),Wb h1]
   grind [WwT]
  .have e:Wan w x 0 p=(w,Wco x):=by
    unfold Wan;rw[Wa (by simp_all),Wa (by omega),Wa (by omega),Wb h2]
   rw[e];exact WvT hN hp dc hc h h2 ht cI hx hg rfl rfl rfl
 .have h8:x.phase≠8:=by have:=hg.ph;omega
  grind [WxE]
end
end
section
variable{s:Sc}{w v:Wo}{n:Int}{x y:Rt}{k:Nat}{p:Pg}{f g:Fm}{m:Mm}{o:Opn}
structure WI(s:Sc)(n:Int)(w:Wo):Prop where
 ok:WOk s.2.1 n w
 wx:WX w
 lx:LX w
 wt:WT w
 tx:TX w
theorem WI.act(h:WI s n w)(a:Ac):WI s (n+1) (WhB s w a):=
 ⟨WeG h.ok,(WmI h.ok h.wx).1,Wty h.ok h.wx h.lx,Wr3 h.ok h.wt,WvV h.ok h.lx h.tx⟩
theorem WI.kids:∀(d j:Nat) (n:Int) (w:Wo),WI s n w->WI s (n+d) (WcI s k d j w)
 |0,_,n,w,h=>by rw[WcI];simpa using h
 |d+1,j,n,w,h=>by
  have:=WI.kids d (j+1) (n+1) _ (h.act (2,(k:Int),(j:Int)));rw[WcI,show n+((d+1:Nat):Int)=n+1+(d:Int) by omega];exact this
def WjG(s:Sc)(k:Nat)(w:Wo):Wo:=WcI s k (s.2.1.getD k pg0).2.length 0 (WhB s w (1,(k:Int),0))
theorem WI.blk(h:WI s n w):WI s (n+1+(s.2.1.getD k pg0).2.length) (WjG s k w):=WI.kids _ _ _ _ (h.act _)
theorem Ww2(h:WOk s.2.1 n w)(hk:k<w.roots.length):WjG s k w=
  (λq:Wo×Rt=>{q.1 with now:=q.1.now+(s.2.1.getD k pg0).2.length,roots:=w.roots.set k (Wa3 q.1.mem (s.2.1.getD k pg0) (s.2.1.getD k pg0).2.length 0 q.2)}) (Wan {w with now:=w.now+1} w.roots[k] k (s.2.1.getD k pg0)):=by
 have hr:=Wnx h hk;have hb:0<=(k:Int)/\(k:Int)<w.roots.length:=by omega
 have e:WhB s w (1,(k:Int),0)=Wo.put (Wan {w with now:=w.now+1} w.roots[k] k (s.2.1.getD k pg0)) k:=by
  unfold WhB;simp only[Xi];rw[Wb hb,Wb trivial];unfold WmG;rw[Wn (show k<({w with now:=w.now+1}:Wo).roots.length from hk)]
 unfold WjG;rw[e];generalize Wan {w with now:=w.now+1} w.roots[k] k (s.2.1.getD k pg0)=q at*;have dL:k<(Wo.put q k).roots.length:=by show k<(q.1.roots.set k q.2).length;rw[Xy,hr];exact hk
 rw[Wqd _ _ _ dL (by omega)];have e1:(Wo.put q k).roots[k]=q.2:=Xdg ..;rw[e1];unfold Wo.put;simp only[Xcq,hr]
theorem WmY{d i:Nat}:(Wa3 m p d i x).phase=x.phase/\(Wa3 m p d i x).tries=x.tries:=by
 unfold Wa3;split<;>exact⟨rfl,rfl⟩
theorem WiA{d i:Nat}(h:x.phase≠2):Wa3 m p d i x=x:=by unfold Wa3;rw[Wa h]
theorem Wtg(hp:POk p)(hx:ROk p n x)(ht:RT x)(hm:W3 m=true):Ww p (Wa3 m p p.2.length 0 x)<=Ww p x:=by
 by_cases h2:x.phase=2
 .obtain⟨f1,f2,f3⟩:=(hx.live (by omega)).fork h2;unfold Wa3;rw[Wb h2];by_cases hl:x.fam.lost=true
  .rw[WdU _ _ _ hl];exact Xab _
  by_cases ho:Wbe x.fam=true
  .rw[WiH ho _ _ (by rw[f3.len];omega)];exact Xab _
  .have:=Wmq hp hx ht h2 hl ho hm;omega
 .rw[WiA h2];exact Xab _
end
section
section
variable{R:Type}{N kk:Nat}{p:Pg}{th:List Int×List Int×Int}{K0:List Int->Option R}{K1:Int->Bool->List Int->Int->List M7->List Int->List Int->Option R}
 {w v:Wo} {x y:Rt} {n:Int} {s:Sc}
structure WJ(s:Sc)(n:Int)(w:Wo):Prop where
 ok:WOk s.2.1 n w
 wx:WX w
 lx:LX w
 wt:WT w
theorem WJ.act(h:WJ s n w)(a:Ac):WJ s (n+1) (WhB s w a):=⟨WeG h.ok,(WmI h.ok h.wx).1,Wty h.ok h.wx h.lx,Wr3 h.ok h.wt⟩
theorem WJ.kids{k:Nat}:∀(d j:Nat) (n:Int) (w:Wo),WJ s n w->WJ s (n+d) (WcI s k d j w)
 |0,_,n,w,h=>by grind [WcI]
 |d+1,j,n,w,h=>by
  have:=WJ.kids (k:=k) d (j+1) (n+1) _ (h.act (2,(k:Int),(j:Int)))
  grind [WcI]
theorem WxR(hs:s=(th,([p],[])))(h:WJ s n w){x:Rt}(hx:w.roots= [x]):WjG s 0 w=(λq:Wo×Rt=>{q.1 with now:=q.1.now+p.2.length,roots:=[Wa3 q.1.mem p p.2.length 0 q.2]}) (Wan {w with now:=w.now+1} x 0 p):=by
 have hk:0<w.roots.length:=by grind
 have hg:s.2.1.getD 0 pg0=p:=by grind
 have:=Ww2 (k:=0) h.ok hk;simp_all
theorem WuH(hN:1048576<N)(hs:s=(th,([p],[])))(hp:POk p)(dc:∀c∈p.2,WcE c=true)(hc:Vals 8 th.1)(hn:n<=99990)(h:WJ s n w){x:Rt}(hx:w.roots= [x])(ha:AL N kk p th K0 K1 w x)(hg:RGd w.mem x):
  WJ s (n+1+p.2.length) (WjG s 0 w)/\∃y,(WjG s 0 w).roots= [y]/\AL N kk p th K0 K1 (WjG s 0 w) y/\(y.phase=8\/(RGd (WjG s 0 w).mem y/\Wfw p y<Wfw p x)):=by
 have hk:0<w.roots.length:=by grind
 have ut:s.2.1.getD 0 pg0=p:=by grind
 have e0:w.roots[0]=x:=by simp_all
 refine⟨?_,?_⟩
 .have:=WJ.kids (k:=0) (s.2.1.getD 0 pg0).2.length 0 _ _ (h.act (1,((0:Nat):Int),0))
  grind [WjG]
 have gj:=h.ok.root 0 hk;rw[e0,ut]at gj;have rK:=h.wx 0 hk;rw[e0]at rK;have ht:=h.wt.root 0 hk;rw[e0]at ht;have hb:=h.lx.root 0 hk;rw[e0]at hb;have dW:=h.wt.clk;have qO:=h.ok.now;have hh:∀e∈w.holds,e.1=((0:Nat):Int)+1:=λe he=>by
  obtain⟨k,hk,e1⟩:=h.lx.hd e he;simp_all
 have hD:LB {w with now:=w.now+1} 0 x:=⟨hb.cm,hb.no,hb.hd,hb.tk⟩;have rf:=WxK (w:={w with now:=w.now+1}) (k:=0) hp gj rK ht (by omega) hg hh h.ok.mem hD (show w.mem.1<1000000 by omega);have hq:=Wif (w:={w with now:=w.now+1}) (k:=0) hp ⟨h.ok.mem,h.ok.shelf,h.ok.holds⟩ gj (by omega) h.ok.n0;have AB:=WpQ (w:={w with now:=w.now+1}) (k:=0) (p:=p) ht;have mb:=Wmc (w:={w with now:=w.now+1}) (x:=x) (k:=0) (p:=p);have xH:AL N kk p th K0 K1 {w with now:=w.now+1} x:=by
  obtain⟨a1,a2,a3⟩:=ha;refine⟨a1,a2,a3.imp (λ⟨b1,b2⟩=>⟨b1,⟨b2.mv,b2.sim,b2.un,b2.hd,b2.pb,b2.fam⟩⟩) λ⟨tgt,b⟩=>⟨tgt,⟨b.fn,b.ph,b.f6,b.c5,b.c6,b.s1,b.s2⟩⟩⟩
 have bb:=WvN (w:={w with now:=w.now+1}) hN hp dc hc xH gj hg ht h.ok.mem (show w.mem.1<1000000 by omega) hD h.ok.shelf h.ok.holds (rf.imp id λz=>z.1);rw[WxR hs h hx];generalize Wan {w with now:=w.now+1} x 0 p=q at*;have bX:=WmY (m:=q.1.mem) (p:=p) (x:=q.2) (d:=p.2.length) (i:=0);have hne:=WiA (m:=q.1.mem) (p:=p) (x:=q.2) (d:=p.2.length) (i:=0);have hle:=Wtg hp hq.root AB hq.mem;refine⟨_,rfl,?_,?_⟩
 .have:=Wu8 hp bb hq.mem hq.root;obtain⟨a1,a2,a3⟩:=this;exact⟨a1,a2,a3.imp (λ⟨b1,b2⟩=>⟨b1,⟨b2.mv,b2.sim,b2.un,b2.hd,b2.pb,b2.fam⟩⟩) λ⟨tgt,b⟩=>⟨tgt,⟨b.fn,b.ph,b.f6,b.c5,b.c6,b.s1,b.s2⟩⟩⟩
 rcases rf with e8|⟨gq,ln⟩
 .omega
 right;refine⟨?_,?_⟩
 .show RGd q.1.mem (Wa3 q.1.mem p p.2.length 0 q.2);by_cases h2:q.2.phase=2
  .unfold Wa3;rw[Wb h2];obtain⟨f1,f2,f3⟩:=(hq.root.live (by omega)).fork h2;have hT:=(AB.fam h2).resolve_left (by rw[(gq.fam h2).lost];simp);exact⟨gq.dm,gq.sp,gq.ph,gq.run,λ_=>Wnn hq.mem hp.kids hp.k3 _ _ _ _ (by omega) f3 hT (gq.fam h2),λh5=>gq.cm h5,gq.ft⟩
  simp_all
 .have yp:Wfw p (Wa3 q.1.mem p p.2.length 0 q.2)<=Wfw p q.2:=by
   unfold Wfw;rw[bX.1];split<;>omega
  rcases ln with hl|⟨h2,hl,ho,e⟩
  .omega
  .rw[e]at yp⊢;rcases mb with em|em
   .rw[em];have:=Wmq hp gj ht h2 hl ho h.ok.mem;simp_all [Wa3,WbW,Wb,Wfw,WmY,Int.sub_lt_sub_right]
   .omega
theorem WwV{x:Rt}(hx:w.roots= [x]):WmQ w=decide (x.phase=8):=by
 grind [WmQ]
theorem Wvq(hs:s=(th,([p],[]))):WbU s s.2.1.length 0 w=WjG s 0 w:=by
 subst hs;rfl
theorem WpB(hN:1048576<N)(hs:s=(th,([p],[])))(hp:POk p)(dc:∀c∈p.2,WcE c=true)(hc:Vals 8 th.1):∀(d:Nat) (n:Int) (w:Wo) (x:Rt),WJ s n w->w.roots= [x]->AL N kk p th K0 K1 w x->(x.phase=8\/(RGd w.mem x/\Wfw p x<=d))->n+4*d<=90000->
  ∃n' y,WJ s n' (Wa6 s d w).1/\(Wa6 s d w).1.roots= [y]/\AL N kk p th K0 K1 (Wa6 s d w).1 y/\y.phase=8
 |0,n,w,x,h,hx,ha,hg,hn=>by
  rcases hg with h8|⟨hg,hl⟩
  .exact⟨n,x,h,hx,ha,h8⟩
  .exfalso;have hk:0<w.roots.length:=by grind
   have ut:s.2.1.getD 0 pg0=p:=by grind
   have e0:w.roots[0]=x:=by simp_all
   have gj:=h.ok.root 0 hk;rw[e0,ut]at gj;have ht:=h.wt.root 0 hk;rw[e0]at ht;have:=Wwm hp gj ht hg;omega
 |d+1,n,w,x,h,hx,ha,hg,hn=>by
  rw[Wa6,WwV hx];by_cases h8:x.phase=8
  .grind
  .rw[Wa (by simp_all),Wvq hs];obtain⟨hg,hl⟩:=hg.resolve_left h8;have h3:=hp.k3;obtain⟨a,y,b,c,e⟩:=WuH hN hs hp dc hc (by omega) h hx ha hg;exact WpB hN hs hp dc hc d _ _ y a b c (e.imp id λ⟨e1,e2⟩=>⟨e1,by omega⟩) (by omega)
end
end
section
section
variable{N:Nat}{p:Pg}{th:List Int×List Int×Int}{w:Wo}{x:Rt}{n:Int}{s:Sc}{c:Cur}
theorem WoW{n3:Int}(hn:n3<=100000):∀(n i:Nat) (c:Cur) (l:List Int),100002-i<n->i<=100001->WaX c->l.length<=i->Drw (λv:List Int×Unit=>True) (Zt N n3 (λrE kR dS bS=>(some ((dS,()),(bS,())))) n (i:Int) c l)
 |0,i,c,l,h,_,_,_=>by omega
 |n+1,i,c,l,h,hi,hc,hl=>by
  unfold Zt;refine .bif (λh0=>?_) λh0=>.ok hc trivial;have h0:(i:Int)<n3:=Wz h0;have e:Wl .i64 (i:Int) 1=((i+1:Nat):Int):=Wp (by omega);simp only[e];have ap:∀(v:Int) (c:Cur),WaX c->Drw (λv:List Int×Unit=>True) (bif WB (l.length+ [v].length)then Zt N n3 (λrE kR dS bS=>(some ((dS,()),(bS,())))) n ((i+1:Nat):Int) c (Xe l [v])else none):=λv c hc=>
   .bifT (Wx (by simp;omega)) (WoW hn n (i+1) c _ (by omega) (by omega) hc (by simp_all))
  have same:∀c:Cur,WaX c->Drw (λv:List Int×Unit=>True) (Zt N n3 (λrE kR dS bS=>(some ((dS,()),(bS,())))) n ((i+1:Nat):Int) c l):=λc hc=>WoW hn n (i+1) c l (by omega) (by omega) hc (by omega);have tail:∀(v:Int) (c:Cur),WaX c->Drw (λv:List Int×Unit=>True) (bif (Wi l)==(0:Int)then(bif WB (l.length+ [v].length)then Zt N n3 (λrE kR dS bS=>(some ((dS,()),(bS,())))) n ((i+1:Nat):Int) c (Xe l [v])else none)else(bif inb (Ws .i64 (Wi l) (1:Int)) (Xb l)then(bif (Xc l (Xa (Ws .i64 (Wi l) (1:Int))) (0:Int)) !=v then(bif WB (l.length+ [v].length)then Zt N n3 (λrE kR dS bS=>(some ((dS,()),(bS,())))) n ((i+1:Nat):Int) c (Xe l [v])else none)else Zt N n3 (λrE kR dS bS=>(some ((dS,()),(bS,())))) n ((i+1:Nat):Int) c l)else none)):=λv c hc=>by
   grind [Wi,Wah,I64,inb]
  refine(Wa5 n3 hc).bind λc v hc _=>(Wg7 20 hc).bind λc b hc _=>.bif (λ_=>?_) λ_=>?_
  .exact(Wg7 12 hc).bind λc b hc _=>.bif (λ_=>ap _ c hc) λ_=>tail _ c hc
  .exact(Wg7 12 hc).bind λc b hc _=>.bif (λ_=>ap _ c hc) λ_=>tail _ c hc
theorem WxX(hN:1048576<N){n3:Int}(hn:n3<=100000)(hc:WaX c):Drw (λv:List Int×Unit=>True) (Zcf N c n3):=by
 unfold Zcf;exact WoW hn N 0 c [] (by omega) (by omega) hc (Xbp _)
theorem WjX(hN:1048576<N){code:List Int}(h:code.length<=1048576):∃(p:Pg) (o:List Int) (th:List Int×List Int×Int),Zi9 N code=some ((),(p,(o,(th,()))))/\PB p/\th.1.length<=100/\th.2.1.length<=100:=by
 unfold Zi9;obtain⟨c,hc,e0⟩:=Wu5 h hN;obtain⟨c1,b1,e1,nl,_⟩:=Wg7 (N:=N) 2 hc;obtain⟨c2,q,e2,hQ,hq⟩:=WwU (b:=b1.1) hN nl;obtain⟨c3,b3,e3,qK,_⟩:=Wg7 (N:=N) 12 hQ;rw[e0];simp only[ret,Xd];rw[e1];simp only[Xd];rw[e2];simp only[Xd];rw[e3];simp only[Xd];have fin:∀(q:Pg) (c:Cur),WaX c->PB q->∃(p:Pg) (o:List Int) (th:List Int×List Int×Int),((Zcf N c (Wi q.2)).bind λo7=>
 ((Zcm N o7.1.1).bind λo8=>
 ((Zz N o8.1.1 (12:Int)).bind λo9=>
 (bif o9.2.1 then
 ((Zem N o9.1.1).bind λch=>
 (some ((),(q,(o7.2.1,(ch.2.1,()))))))
 else
 (some ((),(q,(o7.2.1,(o8.2.1,())))))))))=some ((),(p,(o,(th,()))))/\PB p/\th.1.length<=100/\th.2.1.length<=100:=λq c hc hq=>by
  obtain⟨d1,o,f1,v7,_⟩:=WxX (n3:=Wi q.2) hN (by have:=hq.kids;unfold Wi;omega) hc;obtain⟨d2,t,f2,lu,ht⟩:=WsM hN v7;obtain⟨d3,b,f3,yM,_⟩:=Wg7 (N:=N) 12 lu;obtain⟨d4,t4,f4,hd4,AC⟩:=WqH hN yM;rw[f1];simp only[Xd];rw[f2];simp only[Xd];rw[f3];simp only[Xd];cases hb:b.1
  .grind
  .simp only[We];rw[f4];exact⟨_,_,_,rfl,hq,AC.1,AC.2⟩
 cases b3.1
 .simp only[Wc];exact fin q.1 c3 qK (Wwi hq)
 .simp only[We];obtain⟨c4,q4,e4,xZ,hq4⟩:=Wvb hN qK;simp_all
theorem WsA(hN:1048576<N)(hp:PB p)(h1:th.1.length<=100)(h2:th.2.1.length<=100)(yq:Wmy p=false\/Wrt th=false):∃r,Zkx N p [] th=some ((),((0,r),())):=by
 unfold Zkx;rw[WhM hp hN];simp only[ret,Xd];cases jU:Wmy p
 .simp_all
 .have ht:Wrt th=false:=yq.resolve_left (by simp_all);obtain⟨M,rfl⟩:∃M,N=M+1:=⟨N-1,by omega⟩;have ho:Zjr (M+1) [] (Wi p.2)=ret true:=rfl;simp only[Xv,Wc];rw[ho];simp only[ret,Xd,Xv,Wc];rw[WfD (by omega) (by omega) hN,ht];simp_all
abbrev RA:=Unit×(Ke×Unit)
def KA0(th:List Int×List Int×Int)(l:List Int):Option RA:=some ((),(((2:Int),(l,th)),()))
def KA1(pc:Int)(t:Bool)(r:List Int)(ct:Int)(mk:List M7)(cs mp:List Int):Option RA:=some ((),(((1:Int),(r,(cs,(mp,ct)))),()))
theorem Wqn{kk:Nat}{l:List Int}(h1:th.1.length<=100)(h2:th.2.1.length<=100):Zj N (kk+2) p.1 p.2 l [0,0,0,0] th=bgn N kk p th (KA0 th) KA1 l:=by
 have cp:=Wfp (N:=N) (ct:=th.2.2) (show th.1.length<=1000 by omega) (show th.2.1.length<=1000 by omega);have e:(th.1,(th.2.1,th.2.2))=th:=rfl;rw[e]at cp;rw[Zj,cp];simp only[ret,Xd];rfl
theorem Wxc(hN:1048576<N){kk:Nat}(hc:ThOk th){b:Int}(hw:w.mem=Wgt th.1)(kr:w.shelf=(WiL th.2.1,th.2.2))(gi:0<=p.1.length):AL N kk p th (KA0 th) KA1 w {phase:=1,tries:=0,rv:=0,began:=b,regs:=[0,0,0,0]}:=by
 have hm:=hc.map;obtain⟨qY,qZ⟩:th.2.1.length=8/\∀x∈th.2.1,0<=x/\x<=65536:=by
  omega
 have hs:shS w.shelf=(th.2.1,th.2.2):=by
  rw[kr];unfold shS;congr 1;refine Xec (by rw[WcU,qY]) λi h1 h2=>?_;rw[Wpl,WqO qY qZ (by omega),Wn h2]
 have hv:=hc.cells;refine⟨rfl,rfl,.inl ⟨.inl rfl,⟨λi a z=>?_,⟨false,⟨λ_=>rfl,(λz=>by cases z)⟩,(λz=>by cases z),shS w.shelf,.inl rfl,λl _=>⟨N,by simp_all,?_⟩⟩,by rw[hs];rfl,λz=>Wj rfl z,(λz=>by cases z),λz=>(by simp_all)⟩⟩⟩
 .have hl:=hv.len;rw[hw];unfold WN Wa0 Wgt;simp only;rw[Wn (by grind),Wn (show i.toNat<th.1.length by omega),Xdu];rfl
 .rw[hs];rfl
theorem WiM{a:List Int}(ha:a.length<=1048576)(hN:1048576<N):Zbo N a a=ret true:=by
 unfold Zbo;have e:(Wi a !=Wi a)=false:=by simp
 rw[e];simp only[Wc];have h1:=WR (l:=a) (V:=Unit) (R:=Unit×Kq) (lp:=λn j _=>Zcl N a a (some ((),(false,()))) (λi8 t9=>some ((),(true,()))) n j) (n:=N) (by omega)
  (body:=λj x v k=>k v) (K:=λ_ v=>some ((),(true,())))
  (λn i v hi=>by
   have e2:(a[i] !=a[i])=false:=by simp
   simp only[Zcl,W2 hi,Wq hi,Wt hi,Wp (show i<4611686018427387904 by omega),We,e2,Wc])
  (λn v=>by simp[Zcl,Wat,Xn,Wc]) ()
 refine h1.trans ?_;rw[Whb (f:=λv _=>v) a 0 () (λj x v k _=>rfl)]
theorem Wof{m:Mm}(hm:W3 m=true)(hN:1048576<N):Zg7 N m=ret (m.2.map (·.1)):=by
 obtain⟨m8,_,_,_⟩:=WO hm;unfold Zg7;rw[Wbd (by omega) hN,hm];simp only[ret,Xd,Xv,Wc];have h1:=WR (l:=m.2) (V:=List Int) (R:=Unit×(List Int×Unit)) (lp:=λn j v=>Zdf N m.2 (Wi m.2) (λaP aX aw=>(some ((),(aw,())))) n j v) (n:=N) (by omega)
  (body:=λj x v k=>bif WB (v.length+ [x.1].length)then k (Xe v [x.1])else none) (K:=λ_ v=>ret v)
  (λn i v hi=>by simp only[Zdf,W2 hi,Wq hi,Wt hi,Wp (show i<4611686018427387904 by omega),We])
  (λn v=>by simp[Zdf,Wat,Xn,Wc]) []
 refine h1.trans ?_;rw[Wc6 (f:=λx:Int×Int×Int=>x.1) m.2 0 [] (by simp;omega) (λj x v k _=>rfl)];rfl
theorem Wry(hN:1048576<N)(jU:Wmy p=true)(uu:Wrt th=true)(h1:th.1.length<=100)(h2:th.2.1.length<=100)(hs:s=(th,([p],[]))):∃(y:Rt) (tgt:List Int×(List Int×Int)),(Wa6 s 6000 (WhA s)).1.roots= [y]/\W3 (Wa6 s 6000 (WhA s)).1.mem=true/\ShOk (Wa6 s 6000 (WhA s)).1.shelf/\y.tries=0/\y.spare=0/\y.regs.length<=4/\
  (Wa6 s 6000 (WhA s)).1.mem.2.map (·.1)=tgt.1/\shS (Wa6 s 6000 (WhA s)).1.shelf=tgt.2/\Zkw N p y.order th=some ((),((y.fate,(y.regs,(tgt.1,tgt.2))),())):=by
 have hp:=Wsg jU;have hc:=WpL.1 uu;have dc:∀c∈p.2,WcE c=true:=by
  simp_all [Wmy,Xj,Xah]
 obtain⟨kk,rfl⟩:∃kk,N=kk+2:=⟨N-2,by omega⟩;have aV:Wp9 s=true:=by
  grind [Wp9]
 have CJ:WhA s=Wez s:=by subst hs;rfl
 have md:(Wez s).roots= [{}]:=by subst hs;rfl
 have ld:WJ s 0 (Wez s):=⟨WnV aV,WwZ,Wwp aV,WwF⟩;have ut:s.2.1.getD 0 pg0=p:=by grind
 have hb:(WjG s 0 (Wez s)).roots= [{phase:=1,tries:=0,rv:=0,began:=1,regs:=[0,0,0,0]}]/\(WjG s 0 (Wez s)).mem=Wgt th.1/\(WjG s 0 (Wez s)).shelf=(WiL th.2.1,th.2.2)/\(WjG s 0 (Wez s)).token=0:=by
  rw[WxR hs ld md];have e:Wan {Wez s with now:=(Wez s).now+1} {} 0 p=({Wez s with now:=(Wez s).now+1},{phase:=1,tries:=0,rv:=0,began:=1,regs:=[0,0,0,0]}):=by subst hs;rfl
  rw[e];subst hs;refine⟨?_,rfl,rfl,rfl⟩;show [Wa3 _ p p.2.length 0 _]=_;rw[WiA (by simp_all)]
 obtain⟨b1,b2,b3,b4⟩:=hb;have uX:WJ s (0+1+p.2.length) (WjG s 0 (Wez s)):=by
  have:=WJ.kids (k:=0) (s.2.1.getD 0 pg0).2.length 0 _ _ (ld.act (1,((0:Nat):Int),0))
  grind [WjG]
 have CK:=Wxc (p:=p) (kk:=kk) (b:=1) hN hc b2 b3 (Xbp _);have it:RGd (WjG s 0 (Wez s)).mem ({phase:=1,tries:=0,rv:=0,began:=1,regs:=[0,0,0,0]}:Rt):=by
  refine⟨rfl,rfl,.inl rfl,λ_=>⟨λi a z=>?_,λh=>by cases h⟩,λh=>by simp_all,λh=>by simp_all,λh=>by simp_all⟩;have hl:=hc.cells.len;rw[b2];unfold WN Wa0 Wgt;simp only;rw[Wn (by grind),Xdu];exact⟨rfl,Xab _⟩
 have yp:Wfw p ({phase:=1,tries:=0,rv:=0,began:=1,regs:=[0,0,0,0]}:Rt)<=((5999:Nat):Int):=by
  unfold Wfw;rw[Wb (by simp_all),Wcn rfl];have h0:frk p.1 0=0:=rfl;have:Wet p 0=382:=by unfold Wet;simp_all
  have e1:Wbg ({phase:=1,tries:=0,rv:=0,began:=1,regs:=[0,0,0,0]}:Rt)=328:=rfl;rw[e1];show 75-3*0-0+Wet p 0+328-292<=_;omega
 have h3:=hp.k3;obtain⟨n',y,d1,d2,d3,d4⟩:=WpB hN hs hp dc hc.cells 5999 _ _ _ uX b1 CK (.inr ⟨it,yp⟩) (by omega);have hdr:Wa6 s 6000 (WhA s)=((Wa6 s 5999 (WjG s 0 (Wez s))).1,(Wa6 s 5999 (WjG s 0 (Wez s))).2+1):=by
  rw[CJ,show(6000:Nat)=5999+1 from rfl,Wa6,WwV md,Wa (by simp),Wvq hs]
 rw[hdr];obtain⟨t0,t1,t2⟩:=d3;rcases t2 with⟨z,_⟩|⟨tgt,hcl⟩
 .omega
 obtain⟨f8,fk,o,yo⟩:=hcl.fn;have hk:0<(Wa6 s 5999 (WjG s 0 (Wez s))).1.roots.length:=by grind
 have gj:=d1.ok.root 0 hk;have e0:(Wa6 s 5999 (WjG s 0 (Wez s))).1.roots[0]=y:=by simp_all
 rw[e0,ut]at gj;have fm:=hcl.c6 (by omega);obtain⟨m8,_,_,_⟩:=WO d1.ok.mem;refine⟨y,tgt,d2,d1.ok.mem,d1.ok.shelf,t0,t1,gj.rg,?_,hcl.s1 (.inr (.inr d4)),?_⟩
 .refine Xec (by rw[Xad,m8,f8]) λi h1 h2=>?_;have hi:i<(Wa6 s 5999 (WjG s 0 (Wez s))).1.mem.2.length:=by omega
  have:=fm (i:Int) (by omega) (by omega);rw[Xi,Wn h2]at this;rw[Xdu,←this];unfold WN Wa0;rw[Xi,Wn hi]
 .have fR:PB p:=by
   refine⟨by have:=hp.code.len;omega,by omega,λc hc=>by have:=(hp.kids c hc).len;omega⟩
  obtain⟨l,bs,ky⟩:∃l,Zf7 (kk+2) y.order (Wi p.2)=some ((),(l,(true,())))/\(fk=true->l=y.order):=by
   cases ug:fk with
   |false=>
    rw[o.no ug];obtain⟨l,hl⟩:=WsG hp.k3 hN;exact⟨l,hl,λz=>by cases z⟩
   |true=>exact⟨y.order,WrX (o.yes ug) hN,λ_=>rfl⟩
  unfold Zkw;rw[WhJ fR hN,jU];simp only[ret,Xd,Xv,Wc];rw[WfI (by omega) (by omega) hN,uu];simp only[ret,Xd,Xv,Wc];rw[bs];simp only[Xd,Xv,Wc];have uA:(((decide ((0:Int)<=(4:Int)))&&(decide ((4:Int)<=(4:Int))))&&(WB (Xa (4:Int))))=true:=rfl;rw[uA];simp only[We];unfold Zu7;have CM:=Wqn (N:=kk+2) (p:=p) (kk:=kk) (l:=l) h1 h2;rw[show Xo (Xa 4) (0:Int)= [0,0,0,0]from rfl,CM];rcases yo l ky with⟨q1,mk,q2⟩|⟨q1,q2,q3⟩
  .rw[q2,q1];rfl
  .rw[q2,q1,q3];rfl
theorem Wod{code:List Int}(hN:1048576<N):Zjs N code=ret true:=by
 unfold Zjs Zs9;simp only[Xd];by_cases hb:code.length<=1048576
 .have e0:decide (Wi code>1048576)=false:=by simp[Wi];omega
  obtain⟨p,o,th,es,fR,h1,h2⟩:=WjX hN hb;rw[e0,es];simp only[Wc,Xd];rw[WhJ fR hN];simp only[ret,Xd];cases jU:Wmy p
  .obtain⟨r,hr⟩:=WsA hN fR h1 h2 (.inl jU);simp_all
  simp only[Xv,Wc];rw[WfI (by omega) (by omega) hN];simp only[ret,Xd];cases uu:Wrt th
  .obtain⟨r,hr⟩:=WsA hN fR h1 h2 (.inr uu);simp_all
  simp only[Xv,Wc];obtain⟨s,hs⟩:∃s:Sc,s=(th,([p],[])):=⟨_,rfl⟩;have aV:Wp9 s=true:=by
   grind [Wp9]
  have uW:SB s:=by
   subst hs;exact⟨h1,h2,by simp,λq hq=>by simp_all,Xbp _⟩
  obtain⟨y,tgt,a1,a2,a3,a4,a5,a6,a7,a8,a9⟩:=Wry hN jU uu h1 h2 hs;have hdr:=Wr0 uW hN aV;rw[←hs,hdr];generalize Wa6 s 6000 (WhA s)=q at*;have eR:q.1.e.2.2.2.2.2.1= [y.e]:=by show q.1.roots.map Rt.e=_;grind
  have eM:q.1.e.2.2.1=q.1.mem:=rfl;have eS:q.1.e.2.2.2.1=q.1.shelf:=rfl;have eg:Xc [y.e] (Xa (0:Int)) d_Root=y.e:=rfl;have x1:y.e.2.1=y.tries:=rfl;have x2:y.e.2.2.1=y.spare:=rfl;have x7:y.e.2.2.2.2.2.2.2.1=y.fate:=rfl;have CN:y.e.2.2.2.2.2.2.2.2.2.2.2.2.1=y.regs:=rfl;have CO:y.e.2.2.2.2.2.2.2.2.2.2.2.2.2.2.2.2.2.1=y.order:=rfl;have i0:inb (0:Int) (Xb [y.e])=true:=rfl;have l1:(Wi [y.e] !=(1:Int))=false:=rfl;have CP:=Wof (N:=N) a2 hN;have CQ:=WsC (N:=N) a3.slots hN;have ku:(List.range 8).map (λi:Nat=>Waa q.1.shelf.1 (i:Int))=tgt.2.1:=by rw[←a8];rfl
  have z8:q.1.shelf.2=tgt.2.2:=by rw[←a8];rfl
  obtain⟨m8,_,_,_⟩:=WO a2;have t8:tgt.1.length<=1048576:=by grind
  have uR:tgt.2.1.length<=1048576:=by grind
  simp only[Xd,eR,eM,eS,eg,x1,x2,x7,CN,CO,i0,l1,a4,a5,a9,We,Wc,Whj,CP,CQ,ku,a7,z8,WiM (show y.regs.length<=1048576 by omega) hN,WiM t8 hN,WiM uR hN,ret,bne_self_eq_false,beq_self_eq_true]
 grind [decide,Wi]
theorem law_FnAlone(d:WfL [.v (.slice (.int .u8)) false])(hw:Wp0 [.v (.slice (.int .u8)) false] d):∃N o,Zjs N d.1=some (o,(true,())):=
 ⟨1048577,(),Wod (N:=1048577) (by omega)⟩
end
end
end Go.Sx
