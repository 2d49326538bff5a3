/- Plain laws of the Lean functions. -/
import Derived.Test.YtceijnpnofmkkaaGreatMW1
open List renaming cons_append→Xax,take_succ_eq_append_getElem→Xbh,take_length→Xcu,mem_cons_of_mem→Xf,mem_cons_self→Xk,mem_of_getElem?→Xat,pairwise_cons→Xaa,mem_cons→Xq,map_congr_left→Xbz,mem_of_mem_take→Xbf,getD_eq_getElem?_getD→Xac,getElem?_eq_getElem→Xp,getElem?_set_ne→Xdl,length_set→Xy,getElem_set→Xam,mem_append→Xm,mem_singleton→Xaf,getElem?_set_self→Xdx,take_append_of_le_length→Xcm,take_of_length_le→Xcs,map_append→Xu,flatten_append→Xgn,append_assoc→Xbn,getElem_set_self→Xdg,set→Xg,set_getElem_self→Xap,mem_map→Xx,getElem_replicate→Xbe,getElem_mem→Xw,map_cons→Xag,map_nil→Xbd,dropLast_concat→Xdp,length_append→Xs,length_cons→Xr,length_nil→Xbs,pairwise_append→Xai,length→Xb,dropLast_eq_take→Xea,length_take→Xay,mem_of_mem_drop→Xdo,getD→Xc,take→Xal,set_set→Xcq,drop_append_of_le_length→Xdd,length_map→Xad,append→Xe,drop_length→Xcn,foldl_append→Xgv,take_succ_cons→Xfb,eq_nil_of_length_eq_zero→Xt,mem_append_left→Xl,getElem_of_mem→Xbc,all_eq_true→Xah,replicate→Xo,pairwise_iff_getElem→Xau,filter_cons→Xbj,append_eq→Xaw,mem_filter→Xar,filter_eq_self→Xgo
open Bool renaming and_eq_true→Xj,not_true→Xv,eq_false_iff→Xbw,or_eq_false_iff→Xco,not_eq_false'→Xdw,and_self→Xbo,not_false→Xds
open Nat renaming le_refl→Xn,zero_add→Xaz,lt_trichotomy→Xdb,add_sub_cancel→Xgs,sub_zero→Xdt
open Int renaming toNat_natCast→Xi,tdiv_eq_ediv_of_nonneg→Xfj,toNat→Xa
open Option renaming bind_some→Xd
namespace Go.Sx
set_option linter.unusedVariables false
set_option linter.unusedSimpArgs false
section
def lst:List Rw->Int->Option Int
 | [],_=>none
 |r::l,c=>match lst l c with
  |some v=>some v
  |none=>if r.1=c then some r.2 else none
theorem Wlm(a:List Rw)(b:List Rw)(c:Int):lst (a++b) c=match lst b c with|some v=>some v|none=>lst a c:=by
 induction a with
 |nil=>rw[List.nil_append];cases lst b c<;>rfl
 |cons r a ih=>
  rw[Xax,lst,ih];cases lst b c<;>rfl
theorem Wj8{l:List Rw}{c:Int}:∀i,i<=l.length->WfF l c i=lst (l.take i) c
 |0,_=>by simp[WfF,lst]
 |i+1,h=>by
  rw[WfF,Xbh (by omega),Wlm,Wj8 i (by omega),Wn (show i<l.length by omega)];show _=match(if l[i].1=c then some l[i].2 else none)with|some v=>some v|none=>_
  by_cases h:l[i].1=c
  .rw[Wb h,Wb h]
  .rw[Wa h,Wa h]
theorem WqI{l:List Rw}(h:Weq l)(hl:l.length<=300):Wbm l=true:=by
 unfold Wbm;rw[Xj];exact⟨Wf hl,Wim.2 h⟩
theorem WeU{l:List Rw}{c:Int}(h:Weq l)(hl:l.length<=300):WaF l c=lst l c:=by
 unfold WaF;rw[Wb (WqI h hl),Wj8 _ (Xn _),Xcu]
theorem Wjz{c v:Int}:∀{l:List Rw},lst l c=some v->(c,v)∈l
 | [],h=>by cases h
 |r::l,h=>by
  rw[lst]at h;cases hl:lst l c with
  |some w=>rw[hl]at h;cases h;exact Xf _ (Wjz hl)
  |none=>
   rw[hl]at h;by_cases hc:r.1=c
   .simp only[Wb hc]at h;cases h;rw[←hc];exact Xk ..
   .simp only[Wa hc]at h;cases h
theorem Wgu{b:List En}{c:Int}{r:Nat×En}(h:ent b c=some r):r.2∈b/\r.2.1=c:=by
 obtain⟨h1,h2,h3,h4⟩:=WcS h;exact⟨Xat h4,by simpa using h1⟩
theorem Wk0{b:List En}{c:Int}(h:ent b c=none):∀e∈b,e.1≠c:=λe he=>by
 have:=WgH h e he;simpa using this
theorem WiV{c:Int}{e:En}:∀{rows:List Rw} {b:List En},Ris cfE b->rows.Pairwise (λa b=>a.1<b.1)->
  (e∈WaR c b rows↔(∃r∈rows,e=(r.1,r.2,c))\/(e∈b/\∀r∈rows,r.1≠e.1))
 | [],b,_,_=>by unfold WaR;simp
 |r::rows,b,hb,hr=>by
  obtain⟨iX,iY⟩:=Xaa.1 hr;have:=WiV (c:=c) (e:=e) (rows:=rows) (b:=Wes cfE b (r.1,r.2,c)) (WcK Wui hb) iY;unfold WaR at this⊢;rw[List.foldl_cons,this,WbA Wui hb];constructor
  .rintro(⟨r',h1,h2⟩|⟨h1|⟨h1,h2⟩,h3⟩)
   .exact .inl ⟨r',Xf _ h1,h2⟩
   .exact .inl ⟨r,Xk ..,h1⟩
   .refine .inr ⟨h1,λr' bG=>?_⟩;rcases Xq.1 bG with rfl|bG
    .rw[apE]at h2;exactλq=>h2 q.symm
    .exact h3 r' bG
  .rintro(⟨r',h1,h2⟩|⟨h1,h2⟩)
   .rcases Xq.1 h1 with rfl|h1
    .refine .inr ⟨.inl h2,λr'' xK=>?_⟩;have:=iX r'' xK;rw[h2];simp only;omega
    .exact .inl ⟨r',h1,h2⟩
   .refine .inr ⟨.inr ⟨h1,?_⟩,λr' bG=>h2 r' (Xf _ bG)⟩;rw[apE];exactλq=>h2 r (Xk ..) q.symm
def WmJ(f:Fm)(k:Int):List Rw:=(f.kids.getD k.toNat {}).writes
def WQ(f:Fm)(n:Nat):List Rw:=f.start++((f.order.take n).map (WmJ f)).flatten
theorem WgA{f f':Fm}{n:Nat}(hs:f'.start=f.start)(ho:f'.order.take n=f.order.take n)(hw:∀k∈f.order,WmJ f' k=WmJ f k):WQ f' n=WQ f n:=by
 unfold WQ;rw[hs,ho];congr 2;exact Xbz λk hk=>hw k (Xbf hk)
def SN(M:Int->Int->Prop)(f:Fm)(x:Kd):Prop:=∀e∈x.seen,
 (e.2.2= -1/\lst (WQ f x.since.toNat) e.1=none/\M e.1 e.2.1)\/
 (0<=e.2.2/\e.2.2<=x.since/\lst (WQ f e.2.2.toNat) e.1=some e.2.1/\lst (WQ f x.since.toNat) e.1=some e.2.1)
structure FT(M:Int->Int->Prop)(f:Fm):Prop where
 buf:∀e∈f.buf,∀n:Nat,e.2.2<=(n:Int)->n<=f.order.length->lst (WQ f n) e.1=some e.2.1
 non:∀c:Int,0<=c->c<=7->(∀e∈f.buf,e.1≠c)->∀n:Nat,n<=f.order.length->lst (WQ f n) c=none
 sn:∀(k:Nat) (h:k<f.kids.length),SN M f f.kids[k]
 nod:f.order.Nodup
 ord:∀k∈f.order,0<=k/\∃h:k.toNat<f.kids.length,f.kids[k.toNat].phase=3
theorem FT.wk{M M':Int->Int->Prop}{f:Fm}(h:FT M f)(hM:∀c v,M c v->M' c v):FT M' f:=
 ⟨h.buf,h.non,λk hk e he=>(h.sn k hk e he).imp (λ⟨a,b,c⟩=>⟨a,b,hM _ _ c⟩) id,h.nod,h.ord⟩
section
variable{M:Int->Int->Prop}{N:Nat}{codes:List (List Opn)}{n:Int}{f:Fm}{k:Nat}{code:List Opn}{m:Mm}{x y:Kd}
theorem Wwz(hk:k<f.kids.length):f.kids.getD k {}=f.kids[k]:=by rw[Xac,Xp hk];rfl
theorem FT.put(h:FT M f)(hk:k<f.kids.length)(hp:f.kids[k].phase≠3){g:Fm}(hs:g.start=f.start)(ho:g.order=f.order)(hb:g.buf=f.buf)(hg:g.kids=f.kids.set k y)(hy:SN M f y):FT M g:=by
 have hw:∀j∈f.order,WmJ g j=WmJ f j:=λj hj=>by
  obtain⟨j0,j1,j2⟩:=h.ord j hj;unfold WmJ;have hne:k≠j.toNat:=λe=>by subst e;exact hp j2
  rw[hg,Xac,Xac,Xdl hne]
 have hr:∀n,WQ g n=WQ f n:=λn=>WgA hs (by rw[ho]) hw;refine⟨λe he n h1 h2=>?_,λc c0 c7 hc n hn=>?_,λj hj e he=>?_,by rw[ho];exact h.nod,λj hj=>?_⟩
 .rw[hr];exact h.buf e (by rw[←hb];exact he) n h1 (by rw[←ho];exact h2)
 .rw[hr];exact h.non c c0 c7 (by rw[←hb];exact hc) n (by rw[←ho];exact hn)
 .rw[hr,hr];have hj':j<f.kids.length:=by rw[hg,Xy]at hj;exact hj
  have br:g.kids[j]=if k=j then y else f.kids[j]:=by simp only[hg,Xam]
  rw[br]at he⊢;split at he
  .rename_i e1;rw[Wb e1];exact hy e he
  .rename_i e1;rw[Wa e1];exact h.sn j hj' e he
 .rw[ho]at hj;obtain⟨j0,j1,j2⟩:=h.ord j hj;refine⟨j0,by rw[hg,Xy];exact j1,?_⟩;simp only[hg,Xam];split
  .rename_i e;subst e;exact Wj j2 hp
  .exact j2
theorem SN.nil(h:x.seen= []):SN M f x:=λe he=>by rw[h]at he;cases he
theorem SN.same(h:SN M f x)(hs:y.seen=x.seen)(hq:y.since=x.since):SN M f y:=λe he=>by rw[hq];exact h e (by rw[←hs];exact he)
theorem SN.snoc(h:SN M f x){e:En}(hs:y.seen=x.seen++ [e])(hq:y.since=x.since)(he:(e.2.2= -1/\lst (WQ f x.since.toNat) e.1=none/\M e.1 e.2.1)\/(0<=e.2.2/\e.2.2<=x.since/\lst (WQ f e.2.2.toNat) e.1=some e.2.1/\lst (WQ f x.since.toNat) e.1=some e.2.1)):SN M f y:=λz hz=>by
 rw[hs]at hz;rw[hq];rcases Xm.1 hz with hz|hz
 .exact h z hz
 .rw[Xaf.1 hz];exact he
def RdM(M:Int->Int->Prop)(m:Mm)(rv:Int)(x:Kd)(c:Int):Prop:=(WM m rv (if x.busy then x.pb else(c,0,0,0))).2.1=3->M c (WM m rv (if x.busy then x.pb else(c,0,0,0))).2.2.2
theorem Wt3(h:FT M f)(hF:FOk codes n f)(hk:k<f.kids.length)(hx:f.kids[k]=x){o:Opn}(ho:0<=o.2.2.1/\o.2.2.1<=7)(jv:RdM M m f.rv x o.2.2.1):SN M f (Wbn m f x o).2:=by
 unfold RdM at jv;have hs:SN M f x:=hx▸h.sn k hk;have dV:=hF.kid k hk;rw[hx]at dV;have hcl:=hF.clock;have hsi:=dV.since;unfold Wbn;cases hl:WaF x.writes o.2.2.1 with
 |some v=>exact hs.same rfl rfl
 |none=>
  cases he:ent f.buf o.2.2.1 with
  |some r=>
   simp only;split
   .exact SN.nil rfl
   .rename_i hv;obtain⟨e1,e2⟩:=Wgu he;have uU:=hF.bufE _ e1;refine hs.snoc (e:=r.2) rfl rfl (.inr ⟨uU.2.2.1,by omega,?_,?_⟩)
    .exact h.buf _ e1 _ (by omega) (by omega)
    .exact h.buf _ e1 _ (by omega) (by omega)
  |none=>
   simp only;generalize WM m f.rv (if x.busy then x.pb else(o.2.2.1,0,0,0))=pb at jv;split
   .exact hs.same rfl rfl
   .split
    .rename_i h3;exact hs.snoc (e:=(o.2.2.1,_,-1)) rfl rfl (.inl ⟨rfl,h.non _ ho.1 ho.2 (Wk0 he) _ (by omega),jv h3⟩)
    .exact hs.same rfl rfl
theorem Wtf(hs:SN M f x):SN M f (Wel x code):=by
 unfold Wel;split
 .exact hs.same rfl rfl
 .exact hs.same rfl rfl
theorem Wsr(h:FT M f)(hF:FOk codes n f)(hk:k<f.kids.length)(hx:f.kids[k]=x)(h2:x.phase=2)(aU:code.length<=24)(aA:codes.getD k []=code):FT M (Fm.put (Waf f x k) k):=by
 have dV:=hF.kid k hk;rw[hx,aA]at dV;have hcl:=hF.clock;have g0:x.writes.length<=300:=by have:=dV.wl;have:=dV.pc;omega
 have ko:∀c,WaF x.writes c=lst x.writes c:=λc=>WeU dV.rows g0;have BY:(k:Int)∉f.order:=λhmem=>by
  obtain⟨_,j1,j2⟩:=h.ord _ hmem;simp only[Xi]at j2;rw[hx]at j2;omega
 let g:=Fm.put (Waf f x k) k
 have g1:g.start=f.start:=rfl;have g2:g.order=f.order++ [(k:Int)]:=rfl;have g3:g.kids=f.kids.set k {x with phase:=3,pos:=0,marks:=[]}:=rfl;have g4:g.buf=WaR (f.clock+1) f.buf (WbF x.writes):=rfl;have hw:∀j∈f.order,WmJ g j=WmJ f j:=λj hj=>by
  obtain⟨j0,j1,j2⟩:=h.ord j hj;unfold WmJ;have hne:k≠j.toNat:=λe=>by subst e;rw[hx]at j2;omega
  rw[g3,Xac,Xac,Xdl hne]
 have BZ:WmJ g k=x.writes:=by
  unfold WmJ;rw[Xi,g3,Xac,Xdx hk];rfl
 have hr:∀n,n<=f.order.length->WQ g n=WQ f n:=λn hn=>WgA g1 (by rw[g2,Xcm hn]) hw;have iX:WQ g (f.order.length+1)=WQ f f.order.length++x.writes:=by
  unfold WQ;rw[g1,g2,Xcs (by simp),Xcu,Xu,Xgn,Xbn];congr 2
  .congr 1;exact Xbz hw
  .simp[BZ]
 have qJ:=Wga x.writes;have hne:∀c,0<=c->c<=7->(∀r∈WbF x.writes,r.1≠c)->lst x.writes c=none:=λc h0 h7 du=>by
  cases hl:lst x.writes c with
  |none=>rfl
  |some v=>exact Wj rfl (du (c,v) (Wfv.2 ⟨⟨h0,h7⟩,by rw[ko];exact hl⟩))
 refine⟨λe he n h1 h2=>?_,λc c0 c7 hc n hn=>?_,λj hj e he=>?_,?_,λj hj=>?_⟩
 .have jB:n<=f.order.length+1:=by change n<=g.order.length at h2;rw[g2]at h2;simpa using h2
  show lst (WQ g n) e.1=_;have iu:e∈WaR (f.clock+1) f.buf (WbF x.writes):=he;rcases(WiV hF.bufR qJ).1 iu with⟨r,bG,rfl⟩|⟨hb,du⟩
  .simp only at h1;have:n=f.order.length+1:=by omega
   subst this;rw[iX,Wlm];have:=(Wfv.1 bG).2;rw[ko]at this;simp only[this]
  .by_cases hn:n<=f.order.length
   .rw[hr n hn];exact h.buf e hb n h1 hn
   .have:n=f.order.length+1:=by omega
    subst this;have uU:=hF.bufE e hb;rw[iX,Wlm,hne e.1 uU.1.1 uU.1.2 du];exact h.buf e hb _ (by omega) (Xn _)
 .have jB:n<=f.order.length+1:=by change n<=g.order.length at hn;rw[g2]at hn;simpa using hn
  show lst (WQ g n) c=_;have gS:∀e∈WaR (f.clock+1) f.buf (WbF x.writes),e.1≠c:=hc;have du:∀r∈WbF x.writes,r.1≠c:=λr bG=>gS _ ((WiV (e:=(r.1,r.2,f.clock+1)) hF.bufR qJ).2 (.inl ⟨r,bG,rfl⟩));have nX:∀e∈f.buf,e.1≠c:=λe he q=>gS e ((WiV hF.bufR qJ).2 (.inr ⟨he,λr bG=>by rw[q];exact du r bG⟩)) q;by_cases vk:n<=f.order.length
  .rw[hr n vk];exact h.non c c0 c7 nX n vk
  .have:n=f.order.length+1:=by omega
   subst this;rw[iX,Wlm,hne c c0 c7 du];exact h.non c c0 c7 nX _ (Xn _)
 .have hj':j<f.kids.length:=by
   have:(Fm.put (Waf f x k) k).kids.length=f.kids.length:=by show(f.kids.set k _).length=_;rw[Xy]
   omega
  have br:(Fm.put (Waf f x k) k).kids[j]=if k=j then{x with phase:=3,pos:=0,marks:=[]}else f.kids[j]:=by
   have hq:(Fm.put (Waf f x k) k).kids=f.kids.set k {x with phase:=3,pos:=0,marks:=[]}:=rfl;simp only[hq,Xam]
  have m7:SN M f ((Fm.put (Waf f x k) k).kids[j])/\((Fm.put (Waf f x k) k).kids[j]).since<=f.clock:=by
   rw[br];split
   .exact⟨(hx▸h.sn k hk:SN M f x).same rfl rfl,dV.since.2⟩
   .exact⟨h.sn j hj',(hF.kid j hj').since.2⟩
  generalize (Fm.put (Waf f x k) k).kids[j]=z at*;show _\/(_/\_/\lst (WQ g e.2.2.toNat) _=_/\lst (WQ g z.since.toNat) _=_);have xL:=m7.1 e he;rcases xL with⟨a,b,c⟩|⟨a,b,c,d⟩
  .left;refine⟨a,?_,c⟩;show lst (WQ g _) _=_;rw[hr _ (by omega)];exact b
  .right;rw[hr _ (by omega),hr _ (by omega)];exact⟨a,b,c,d⟩
 .show(f.order++ [(k:Int)]).Nodup;rw[List.nodup_append];refine⟨h.nod,by simp,λa ha b hb=>?_⟩;rw[Xaf.1 hb]
  exactλq=>BY (q▸ha)
 .have hj':j∈f.order++ [(k:Int)]:=hj;have hlen:(Fm.put (Waf f x k) k).kids=f.kids.set k {x with phase:=3,pos:=0,marks:=[]}:=rfl;rcases Xm.1 hj' with hj'|hj'
  .obtain⟨j0,j1,j2⟩:=h.ord j hj';refine⟨j0,by rw[hlen,Xy];exact j1,?_⟩;simp only[hlen,Xam];split
   .rfl
   .exact j2
  .rw[Xaf.1 hj'];refine⟨by omega,by rw[hlen,Xy];exact hk,?_⟩;simp only[hlen,Xi,Xdg]
theorem Wup(h:FT M f)(hF:FOk codes n f)(hk:k<f.kids.length)(aU:KC code)(aA:codes.getD k []=code)
  (jv:f.kids[k].phase=0->f.kids[k].pc<code.length->(opN code f.kids[k].pc).1=5->RdM M m f.rv f.kids[k] (opN code f.kids[k].pc).2.2.1):FT M (Wax m f k code):=by
 unfold Wax;split
 .exact h
 .rw[Wwz hk];obtain⟨x,hx⟩:∃x,f.kids[k]=x:=⟨_,rfl⟩;have hs:SN M f x:=hx▸h.sn k hk;have dV:=hF.kid k hk;rw[hx]at jv⊢;rw[hx,aA]at dV;unfold WaN;by_cases h0:x.phase=0
  .rw[Wb h0];have hp:f.kids[k].phase≠3:=by rw[hx];omega
   unfold Wgw;split
   .exact h.put hk hp rfl rfl rfl rfl (hs.same rfl rfl)
   .rename_i aR;have aR:=Int.not_le.1 aR;simp only;split
    .rename_i h5;have ax:0<=(opN code x.pc).2.2.1/\(opN code x.pc).2.2.1<=7:=by
      obtain⟨i,hi,e1,e2⟩:=Wdc dV.pc.1 aR;have:=(WpI (aU.ok i hi).1 (by rw[←e2];exact h5)).2;rw[←e2]at this;unfold W8 at this;simp at this;exact this
     have m7:=Wt3 (o:=opN code x.pc) h hF hk hx ax (jv h0 (by omega) h5);have bb:(Wbn m f x (opN code x.pc)).1.start=f.start/\(Wbn m f x (opN code x.pc)).1.order=f.order/\(Wbn m f x (opN code x.pc)).1.buf=f.buf/\(Wbn m f x (opN code x.pc)).1.kids=f.kids:=by
      unfold Wbn;cases WaF x.writes (opN code x.pc).2.2.1 with
      |some v=>exact⟨rfl,rfl,rfl,rfl⟩
      |none=>
       cases ent f.buf (opN code x.pc).2.2.1 with
       |some r=>simp only;split<;>exact⟨rfl,rfl,rfl,rfl⟩
       |none=>
        simp only;generalize WM m f.rv _=pb;split
        .exact⟨rfl,rfl,rfl,rfl⟩
        .split<;>exact⟨rfl,rfl,rfl,rfl⟩
     exact h.put hk hp bb.1 bb.2.1 bb.2.2.1 (by show Xg (Wbn ..).1.kids _ _=_;rw[bb.2.2.2]) m7
    .split
     .exact h.put hk hp rfl rfl rfl rfl (Wtf hs)
     .repeat' split
      all_goals exact h.put hk hp rfl rfl rfl rfl (hs.same rfl rfl)
  .rw[Wa h0];split
   .have hp:f.kids[k].phase≠3:=by rw[hx];omega
    split
    .exact h.put hk hp rfl rfl rfl rfl (hs.same rfl rfl)
    .exact h.put hk hp rfl rfl rfl rfl (hs.same rfl rfl)
   .split
    .rename_i h2;have hp:f.kids[k].phase≠3:=by rw[hx];omega
     split
     .exact Wsr h hF hk hx h2 aU.len aA
     .simp only;split
      .exact h.put hk hp rfl rfl rfl rfl (hs.same rfl rfl)
      .exact h.put hk hp rfl rfl rfl rfl (SN.nil rfl)
    .have e:Fm.put (f,x) k=f:=by
      unfold Fm.put;simp only;rw[←hx,Xap hk]
     rw[e];exact h
theorem Wqg{r:Rw}:∀{l:List Rw},l.Pairwise (λa b=>a.1<b.1)->r∈l->lst l r.1=some r.2
 | [],_,h=>by cases h
 |a::l,hp,hm=>by
  obtain⟨p1,p2⟩:=Xaa.1 hp;rw[lst];rcases Xq.1 hm with rfl|hm
  .cases hl:lst l r.1 with
   |some v=>have:=p1 _ (Wjz hl);simp only at this;omega
   |none=>simp
  .rw[Wqg p2 hm]
theorem Wto{rv:Int}{regs:List Int}{writes:List Rw}{kids:Nat}:FT M (Wad rv regs writes kids):=by
 have hr:∀n,WQ (Wad rv regs writes kids) n=WbF writes:=λn=>by
  unfold WQ Wad;simp
 have xM:∀r∈WbF writes,lst (WbF writes) r.1=some r.2:=λr bG=>Wqg (Wga writes) bG;refine⟨λe he n h1 h2=>?_,λc c0 c7 hc n hn=>?_,λj hj e he=>?_,List.nodup_nil,λk hk=>by cases hk⟩
 .rw[hr];obtain⟨r,h3,rfl⟩:=Xx.1 (show e∈(WbF writes).map λr=>((r.1,r.2,0):En)from he);exact xM r h3
 .rw[hr];cases hl:lst (WbF writes) c with
  |none=>rfl
  |some v=>exact Wj rfl (hc (c,v,0) (Xx.2 ⟨(c,v),Wjz hl,rfl⟩))
 .have:(Wad rv regs writes kids).kids[j]={regs:=regs}:=Xbe ..;rw[this]at he;cases he
end
end
section
structure KCe(l:List Opn):Prop where
 len:l.length<=24
 up:Up l
 z:dep l l.length=0
 ok:∀i (h:i<l.length),WcO l[i]=true/\1<=l[i].1/\l[i].1<=10
 sk:∀i (h:i<l.length),l[i].1=7->i+1+l[i].2.2.1.toNat<=l.length/\bal ((l.take (i+1+l[i].2.2.1.toNat)).drop (i+1))=true
theorem WuL{o:Opn}(h:WcO o=true)(d9:12<=o.1):WiT o=2:=by
 have mZ:=Wjx h;have key:=WcX (N:=0) (o:=o);unfold Zby at key;rw[Wcq,h]at key;simp only[ret,Xd,Xv,Wc]at key;have e5:(o.1==5)=false:=by simp;omega
 have e6:(o.1==6)=false:=by simp;omega
 rw[e5,e6]at key;simp only[Wc]at key;have:o.1=12\/o.1=13\/o.1=14\/o.1=15\/o.1=16:=by omega
 rcases this with hk|hk|hk|hk|hk<;> · rw[hk]at key;simpa using key.symm
theorem Wvv{l:List Opn}(h:WcE l=true):KCe l:=by
 unfold WcE WpC at h;simp only[Xj,Wh,Bool.not_eq_true']at h;obtain⟨⟨h1,h2,h3⟩,h4⟩:=h;obtain⟨b1,b2⟩:=WlA.1 h2;have hb:∀i (hi:i<l.length),Wno l i l[i]=false:=λi hi=>by
  rw[Xbw];intro hb;have:WnU (Wno l) 0 l=true:=We9.2 ⟨i,hi,by rw[Xaz];exact hb⟩;rw[h3]at this;cases this
 have hk:∀i (hi:i<l.length),WeL l[i]=false:=λi hi=>by
  rw[Xbw];intro hb;have:=List.any_eq_true.2 ⟨l[i],Xw hi,hb⟩;rw[h4]at this;cases this
 have aV:∀i (hi:i<l.length),WcO l[i]=true:=λi hi=>by
  have:=hb i hi;unfold Wno at this;simp only[Xco,Xdw]at this;exact this.1.1
 refine⟨h1,b1,b2,λi hi=>?_,λi hi h7=>?_⟩
 .have ho:=aV i hi;have dL:=hk i hi;unfold WeL at dL;simp only[Xco]at dL;have mZ:=Wjx ho;refine⟨ho,mZ.1,?_⟩;by_cases ci:l[i].1<=10
  .exact ci
  .exfalso;by_cases fA:l[i].1=11
   .simp[fA]at dL
   .have:=WuL ho (by omega);rw[this]at dL;simp at dL
 .have:=hb i hi;unfold Wno at this;simp only[Xco,Xdw]at this;have h8:=this.1.2;rw[h7]at h8;have:Wgz l i l[i]=true:=by simpa using h8
  unfold Wgz at this;simpa using this
noncomputable def mt(l:List Opn)(m:Nat):Nat:=@dite _ (∃k,Mate l m k) (Classical.propDecidable _) (λh=>Classical.choose h) λ_=>0
theorem WvI{l:List Opn}{m k:Nat}(h:Mate l m k):Mate l m (mt l m):=by
 have hx:∃k,Mate l m k:=⟨k,h⟩;unfold mt;rw[dif_pos hx];exact Classical.choose_spec hx
theorem Mate.uniq{l:List Opn}{m k k':Nat}(h:Mate l m k)(h':Mate l m k'):k=k':=by
 rcases Xdb k k' with hl|hl|hl
 .exact Wj h.eq (h'.ne k (by have:=h.lt;omega) hl)
 .exact hl
 .exact Wj h'.eq (h.ne k' (by have:=h'.lt;omega) hl)
theorem WxL{l:List Opn}{m k:Nat}(h:Mate l m k):mt l m=k:=(WvI h).uniq h
abbrev Mk:=Int×Int×List Int
structure KS where
 regs:List Int
 cells:List Int
 log:List Rw
 back:Int
 marks:List Mk
 reads:List Int
def zMk:Mk:=(0,0,[])
def Wqk(s:KS):Mk:=s.marks.getD (s.marks.length-1) zMk
def WvC(l:List Opn)(i:Nat):Opn:=l.getD i (0,0,0,0)
noncomputable def WdK(l:List Opn)(pc:Nat)(s:KS)(o:Opn):Bool×Nat×KS:=
 bif o.1==5 then(true,pc+1,{s with regs:=s.regs.set o.2.1.toNat (s.cells.getD o.2.2.1.toNat 0),reads:=bif s.log.any (λr=>r.1==o.2.2.1)then s.reads else s.reads++ [o.2.2.1]})else
 bif o.1==6 then(true,pc+1,{s with cells:=s.cells.set o.2.1.toNat (s.regs.getD o.2.2.1.toNat 0),log:=s.log++ [(o.2.1,s.cells.getD o.2.1.toNat 0)]})else
 bif o.1==7 then(true,bif s.regs.getD o.2.1.toNat 0==0 then pc+1+o.2.2.1.toNat else pc+1,s)else
 bif o.1==8 then(true,pc+1,{s with marks:=s.marks++ [((pc:Int),(s.log.length:Int),s.regs)]})else
 bif o.1==9 then(true,pc+1,{s with marks:=s.marks.take (s.marks.length-1),regs:=s.regs.set (WvC l (Wqk s).1.toNat).2.1.toNat 1})else
 bif o.1==10 then
  (bif s.marks.isEmpty then(false,pc,{s with cells:=Wg3 s.cells s.log,log:=[],back:=s.back+s.log.length})
  else(true,mt l (Wqk s).1.toNat+1,{s with cells:=Wg3 s.cells (s.log.drop (Wqk s).2.1.toNat),log:=s.log.take (Wqk s).2.1.toNat,back:=s.back+s.log.length-(Wqk s).2.1,marks:=s.marks.take (s.marks.length-1),regs:=(Wqk s).2.2.set (WvC l (Wqk s).1.toNat).2.1.toNat 0}))
 else(true,pc+1,{s with regs:=Wg9 o s.regs})
noncomputable def Wb8(l:List Opn)(pc:Nat)(s:KS):Bool×Nat×KS:=WdK l pc s (WvC l pc)
structure KI(l:List Opn)(pc:Nat)(s:KS):Prop where
 pcl:pc<=l.length
 rg:Vals 4 s.regs
 cl:Vals 8 s.cells
 lg:Weq s.log/\s.log.length<=pc
 mp:s.marks.map (·.1)=(stk l pc).map λm:Nat=>(m:Int)
 mr:∀m∈s.marks,Vals 4 m.2.2/\0<=m.2.1/\m.2.1<=s.log.length
 mo:s.marks.Pairwise λa b=>a.2.1<=b.2.1
 bk:0<=s.back/\s.back<=24*pc
 rd:s.reads.length<=pc/\∀x∈s.reads,0<=x/\x<=7
theorem WeA{l:List Opn}{i:Nat}(h:i<l.length):WvC l i=l[i]:=Wn h _
section
variable{l:List Opn}{pc:Nat}{s:KS}
theorem WiQ(hc:KCe l)(h:KI l pc s)(hne:s.marks≠ []):∃(m:Nat) (q:List Mk) (x:Mk),s.marks=q++ [x]/\Wqk s=x/\x.1=(m:Int)/\(∃hm:m<l.length,l[m].1=8)/\Mate l m (mt l m)/\pc<=mt l m/\stk l m=(stk l pc).dropLast/\q.map (·.1)=(stk l m).map λm:Nat=>(m:Int):=by
 rcases Wa8 s.marks with h0|⟨q,x,hq⟩
 .exact Wj h0 hne
 .have hm:=h.mp;rw[hq,Xu,Xag,Xbd]at hm;rcases Wa8 (stk l pc)with h0|⟨t,m,ht⟩
  .rw[h0]at hm;simp at hm
  .rw[ht,Xu,Xag,Xbd]at hm;obtain⟨e1,e2⟩:=List.append_inj' hm rfl;injection e2 with e2;obtain⟨k,k1,k2,k3⟩:=WrN hc.up hc.z h.pcl ht;have k4:=WxL k2;obtain⟨_,h8,_,_⟩:=Wii pc h.pcl t [] m ht;refine⟨m,q,x,hq,?_,e2,h8,by rw[k4];exact k2,by omega,by rw[ht,Xdp];exact k3,by rw[k3];exact e1⟩;unfold Wqk;rw[hq];simp
theorem WgY(hc:KCe l)(h:KI l pc s)(hp:pc<l.length):
  ((Wb8 l pc s).1=true->pc<(Wb8 l pc s).2.1/\KI l (Wb8 l pc s).2.1 (Wb8 l pc s).2.2)/\
  ((Wb8 l pc s).1=false->(Wb8 l pc s).2.2.log= []/\Vals 8 (Wb8 l pc s).2.2.cells/\Vals 4 (Wb8 l pc s).2.2.regs/\(Wb8 l pc s).2.2.reads.length<=24/\∀x∈(Wb8 l pc s).2.2.reads,0<=x/\x<=7):=by
 obtain⟨ho,k1,k2⟩:=hc.ok pc hp;have ha:=WeA hp;have hlen:=hc.len;unfold Wb8;rw[ha];unfold WdK;by_cases k5:l[pc].1=5
 .have b:(l[pc].1==5)=true:=by simp[k5]
  obtain⟨o1,o2⟩:=WpI ho k5;have ax:0<=l[pc].2.2.1/\l[pc].2.2.1<=7:=by unfold W8 at o2;simpa using o2
  simp only[b,We];refine⟨λ_=>⟨by omega,⟨hp,h.rg.set _ (h.cl.get _),h.cl,⟨h.lg.1,by have:=h.lg.2;simp only[];omega⟩,by simp only[];rw[Wev hp (by omega) (by omega)];exact h.mp,h.mr,h.mo,⟨h.bk.1,by have:=h.bk.2;simp only[];omega⟩,?_⟩⟩,λh=>by simp at h⟩;have hr:=h.rd;simp only[];cases s.log.any λr=>r.1==l[pc].2.2.1
  .simp only[Wc,Xs,Xr,Xbs];refine⟨by omega,λx hx=>?_⟩;rcases Xm.1 hx with hx|hx
   .exact hr.2 x hx
   .have:x=l[pc].2.2.1:=by simpa using hx
    rw[this];exact ax
  .exact⟨by simp only[We];omega,hr.2⟩
 .have b5:(l[pc].1==5)=false:=by simp[k5]
  rw[b5];by_cases k6:l[pc].1=6
  .have b:(l[pc].1==6)=true:=by simp[k6]
   obtain⟨o1,o2⟩:=Wwu ho k6;have ax:0<=l[pc].2.1/\l[pc].2.1<=7:=by unfold W8 at o1;simpa using o1
   simp only[b,We,Wc];refine⟨λ_=>⟨by omega,⟨hp,h.rg,h.cl.set _ (h.rg.get _),⟨λr hr=>?_,?_⟩,by simp only[];rw[Wev hp (by omega) (by omega)];exact h.mp,λm hm=>?_,h.mo,⟨h.bk.1,by have:=h.bk.2;simp only[];omega⟩,⟨by have:=h.rd.1;simp only[];omega,h.rd.2⟩⟩⟩,λh=>by simp at h⟩
   .rcases Xm.1 hr with hr|hr
    .exact h.lg.1 r hr
    .have:r=(l[pc].2.1,s.cells.getD l[pc].2.1.toNat 0):=by simpa using hr
     rw[this];exact⟨ax,h.cl.get _⟩
   .have:=h.lg.2;simp only[Xs,Xr,Xbs];omega
   .have:=h.mr m hm;refine⟨this.1,this.2.1,?_⟩;simp only[Xs,Xr,Xbs];omega
  .have b6:(l[pc].1==6)=false:=by simp[k6]
   rw[b6];by_cases k7:l[pc].1=7
   .have b:(l[pc].1==7)=true:=by simp[k7]
    obtain⟨o1,o2,o3⟩:=WtB ho k7;obtain⟨s1,s2⟩:=hc.sk pc hp k7;simp only[b,We,Wc];refine⟨λ_=>?_,λh=>by simp at h⟩;have e1:stk l (pc+1)=stk l pc:=Wev hp (by omega) (by omega);cases s.regs.getD l[pc].2.1.toNat 0==0
    .simp only[Wc];exact⟨by omega,⟨hp,h.rg,h.cl,⟨h.lg.1,by have:=h.lg.2;omega⟩,by rw[e1];exact h.mp,h.mr,h.mo,⟨h.bk.1,by have:=h.bk.2;omega⟩,⟨by have:=h.rd.1;omega,h.rd.2⟩⟩⟩
    .simp only[We];exact⟨by omega,⟨s1,h.rg,h.cl,⟨h.lg.1,by have:=h.lg.2;omega⟩,by rw[Wk1 (by omega) s1 s2,e1];exact h.mp,h.mr,h.mo,⟨h.bk.1,by have:=h.bk.2;omega⟩,⟨by have:=h.rd.1;omega,h.rd.2⟩⟩⟩
   .have b7:(l[pc].1==7)=false:=by simp[k7]
    rw[b7];by_cases k8:l[pc].1=8
    .have b:(l[pc].1==8)=true:=by simp[k8]
     simp only[b,We,Wc];refine⟨λ_=>⟨by omega,⟨hp,h.rg,h.cl,⟨h.lg.1,by have:=h.lg.2;simp only[];omega⟩,?_,λm hm=>?_,?_,⟨h.bk.1,by have:=h.bk.2;simp only[];omega⟩,⟨by have:=h.rd.1;simp only[];omega,h.rd.2⟩⟩⟩,λh=>by simp at h⟩
     .simp only[Xu,Xag,Xbd,h.mp,WjH hp k8]
     .rcases Xm.1 hm with hm|hm
      .exact h.mr m hm
      .have:m=((pc:Int),(s.log.length:Int),s.regs):=by simpa using hm
       rw[this];exact⟨h.rg,by simp only[];omega,by simp only[];omega⟩
     .refine Xai.2 ⟨h.mo,List.pairwise_singleton ..,λa ha b hb=>?_⟩;have:b=((pc:Int),(s.log.length:Int),s.regs):=by simpa using hb
      rw[this];exact(h.mr a ha).2.2
    .have b8:(l[pc].1==8)=false:=by simp[k8]
     rw[b8];by_cases k9:l[pc].1=9
     .have b:(l[pc].1==9)=true:=by simp[k9]
      simp only[b,We,Wc];have da:∀m,m∈s.marks.take (s.marks.length-1)->m∈s.marks:=λm hm=>Xbf hm;refine⟨λ_=>⟨by omega,⟨hp,h.rg.set _ (by omega),h.cl,⟨h.lg.1,by have:=h.lg.2;simp only[];omega⟩,?_,λm hm=>h.mr m (da m hm),h.mo.sublist (List.take_sublist _ _),⟨h.bk.1,by have:=h.bk.2;simp only[];omega⟩,⟨by have:=h.rd.1;simp only[];omega,h.rd.2⟩⟩⟩,λh=>by simp at h⟩;simp only[];rw[WkN hp k9,List.map_take,h.mp,←List.map_take];congr 1;have:s.marks.length=(stk l pc).length:=by have:=Wm Xb h.mp;simpa using this
      rw[this,Xea]
     .have b9:(l[pc].1==9)=false:=by simp[k9]
      rw[b9];by_cases k10:l[pc].1=10
      .have b:(l[pc].1==10)=true:=by simp[k10]
       simp only[b,We,Wc];by_cases hne:s.marks= []
       .have:s.marks.isEmpty=true:=by rw[hne];rfl
        rw[this];refine⟨λh=>by simp at h,λ_=>⟨rfl,WkR h.cl h.lg.1,h.rg,by have:=h.rd.1;simp only[We];omega,h.rd.2⟩⟩
       .have:s.marks.isEmpty=false:=by cases hm:s.marks with|nil=>exact Wj hm hne|cons a b=>rfl
        rw[this];obtain⟨m,q,x,hq,ht,hx,⟨hm,h8⟩,bq,fB,bb,mb⟩:=WiQ hc h hne;have tV:x∈s.marks:=by rw[hq];simp
        obtain⟨x1,x2,x3⟩:=h.mr x tV;have cG:∀y∈q,y.2.1<=x.2.1:=by
         have:=h.mo;rw[hq]at this
         exactλy hy=>(Xai.1 this).2.2 y hy x (by simp)
        have kC:s.marks.take (s.marks.length-1)=q:=by rw[hq];simp
        simp only[Wc,ht,hx,kC,Xi];have xN:((s.log.take x.2.1.toNat).length:Int)=x.2.1:=by rw[Xay];omega
        have zW:=h.bk;have zX:=h.lg.2;refine⟨λ_=>⟨by omega,⟨bq.len,x1.set _ (by omega),WkR h.cl λr hr=>h.lg.1 r (Xdo hr),⟨λr hr=>h.lg.1 r (Xbf hr),?_⟩,?_,λy hy=>?_,?_,⟨by simp only[];omega,by simp only[];omega⟩,⟨by have:=h.rd.1;simp only[];omega,h.rd.2⟩⟩⟩,λh=>by simp at h⟩
        .simp only[];rw[Xay];omega
        .simp only[];rw[mb,bq.st]
        .obtain⟨y1,y2,y3⟩:=h.mr y (by rw[hq];simp[hy]);exact⟨y1,y2,by rw[xN];exact cG y hy⟩
        .have:=h.mo;rw[hq]at this;exact(Xai.1 this).1
      .have bj:(l[pc].1==10)=false:=by simp[k10]
       rw[bj];simp only[Wc];exact⟨λ_=>⟨by omega,⟨hp,Wih ho k1 (by omega) h.rg,h.cl,⟨h.lg.1,by have:=h.lg.2;simp only[];omega⟩,by simp only[];rw[Wev hp (by omega) (by omega)];exact h.mp,h.mr,h.mo,⟨h.bk.1,by have:=h.bk.2;simp only[];omega⟩,⟨by have:=h.rd.1;simp only[];omega,h.rd.2⟩⟩⟩,λh=>by simp at h⟩
end
noncomputable def Wd2(l:List Opn):Nat->Nat->KS->Bool×KS
 |0,_,s=>(false,s)
 |n+1,pc,s=>bif decide (pc<l.length)then(bif (Wb8 l pc s).1 then Wd2 l n (Wb8 l pc s).2.1 (Wb8 l pc s).2.2 else(true,(Wb8 l pc s).2.2))else(false,s)
theorem Wig{α:Type}{q:List α}{x:α}(h:q.length<1000):Ws .i64 (Wi (q++ [x])) 1=(q.length:Int):=by
 rw[Wah (by unfold I64 Wi;rw[Xs];simp;omega)];unfold Wi;rw[Xs];simp
theorem Wie{α:Type}{q:List α}{x:α}:inb (q.length:Int) (q++ [x]).length=true:=by rw[W9];simp
theorem Wip{α:Type}{q:List α}{x d:α}:Xc (q++ [x]) q.length d=x:=by simp
theorem WdG{α:Type}{q:List α}{x:α}:Xal q.length (q++ [x])=q:=by simp
theorem Wid{α:Type}{q:List α}{x:α}:((decide ((0:Int)<=(q.length:Int)))&&(decide ((q.length:Int)<=((Xb (q++ [x])):Int))))=true:=by rw[Xs];simp;omega
theorem Wpp{l:List Opn}{m:Nat}:Xc l m ((0:Int),((0:Int),((0:Int),(0:Int))))=WvC l m:=rfl
theorem WpM{l:List Opn}(hc:KCe l):∀(n pc:Nat) (s:KS),KI l pc s->Vals 4 (Wd2 l n pc s).2.regs/\Vals 8 (Wd2 l n pc s).2.cells/\Weq (Wd2 l n pc s).2.log/\(Wd2 l n pc s).2.log.length<=24/\((Wd2 l n pc s).1=true->(Wd2 l n pc s).2.log= [])/\
  (Wd2 l n pc s).2.reads.length<=24/\∀x∈(Wd2 l n pc s).2.reads,0<=x/\x<=7
 |0,pc,s,h=>by
  have:=h.pcl;have:=hc.len;have:=h.lg.2;have:=h.rd.1;exact⟨h.rg,h.cl,h.lg.1,by simp only[Wd2];omega,λh=>by simp[Wd2]at h,by simp only[Wd2];omega,h.rd.2⟩
 |n+1,pc,s,h=>by
  have hlen:=hc.len;have h1:=h.pcl;have h2:=h.lg.2;have h3:=h.rd.1;rw[Wd2];by_cases hp:pc<l.length
  .have e:decide (pc<l.length)=true:=by simpa using hp
   obtain⟨s1,s2⟩:=WgY hc h hp;rw[e];cases hb:(Wb8 l pc s).1
   .obtain⟨a,b,c,d,f⟩:=s2 hb;simp only[We,Wc];exact⟨c,b,by rw[a];exactλr hr=>by simp at hr,by rw[a];simp,λ_=>a,d,f⟩
   .simp only[We];exact WpM hc n _ _ (s1 hb).2
  .have e:decide (pc<l.length)=false:=by simpa using hp
   rw[e];exact⟨h.rg,h.cl,h.lg.1,by simp only[Wc];omega,λh=>by simp at h,by simp only[Wc];omega,h.rd.2⟩
def ks0(regs cells:List Int):KS:=⟨regs,cells,[],0,[],[]⟩
theorem WoS{l:List Opn}{regs cells:List Int}(hr:Vals 4 regs)(hc:Vals 8 cells):KI l 0 (ks0 regs cells) where
 pcl:=Nat.zero_le _
 rg:=hr
 cl:=hc
 lg:=⟨λr h=>by simp[ks0]at h,by simp[ks0]⟩
 mp:=by simp[ks0,stk]
 mr:=λm h=>by simp[ks0]at h
 mo:=List.Pairwise.nil
 bk:=by simp[ks0]
 rd:=⟨by simp[ks0],λx h=>by simp[ks0]at h⟩
abbrev Egr:=Int×List Int×List Int×List Rw×Int
noncomputable def Wng(l:List Opn)(regs cells:List Int):Egr:=
 bif WcE l&&(Wdk regs&&WdL cells)then
  (λf:Bool×KS=>(bif f.1 then 2 else 1,f.2.regs,f.2.cells,f.2.log,f.2.back)) (Wd2 l (l.length+1) 0 (ks0 regs cells))
 else(0,[],[],[],0)
theorem Wnt{l:List Opn}(hc:KCe l):∀(n k pc:Nat) (s:KS),KI l pc s->l.length-pc<n->Wd2 l (n+k) pc s=Wd2 l n pc s
 |0,k,pc,s,h,hn=>by omega
 |n+1,k,pc,s,h,hn=>by
  rw[show n+1+k=(n+k)+1 by omega,Wd2,Wd2];by_cases hp:pc<l.length
  .obtain⟨s1,s2⟩:=WgY hc h hp;cases hb:(Wb8 l pc s).1
   .rfl
   .obtain⟨a,b⟩:=s1 hb;rw[Wnt hc n k _ _ b (by omega)]
  .have e:decide (pc<l.length)=false:=by simpa using hp
   rw[e];rfl
section
variable{N:Nat}{l:List Opn}{regs cells:List Int}
theorem WwM(hc:KCe l){s:KS}(h:KI l 0 s)(hN:1048576<N):Wd2 l N 0 s=Wd2 l (l.length+1) 0 s:=by
 have:=hc.len;obtain⟨k,hk⟩:∃k,N=l.length+1+k:=⟨N-(l.length+1),by omega⟩;rw[hk];exact Wnt hc _ _ _ _ h (by omega)
end
theorem Whj{α:Type}(a:Option α):WfB a a=a:=by unfold WfB;rw[Wb rfl]
theorem WoT(c:List Int)(a b:List Rw):Wg3 c (a++b)=Wg3 (Wg3 c b) a:=by unfold Wg3;rw[List.foldr_append]
theorem Wuo{c:List Int}{a:Nat}{v:Int}:(c.set a v).set a (c.getD a 0)=c:=by
 rw[Xcq];by_cases h:a<c.length
 .rw[Wn h];exact Xap h
 .rw[List.set_eq_of_length_le (by omega)]
theorem Whz{c:List Int}{log:List Rw}{a:Int}{v:Int}{n:Nat}(h:n<=log.length):Wg3 (c.set a.toNat v) ((log++ [(a,c.getD a.toNat 0)]).drop n)=Wg3 c (log.drop n):=by
 rw[Xdd h,WsZ];simp only[];rw[Wuo]
theorem Wqc{c:List Int}{log:List Rw}{n k:Nat}(h:n<=k)(hk:k<=log.length):Wg3 (Wg3 c (log.drop k)) ((log.take k).drop n)=Wg3 c (log.drop n):=by
 rw[←WoT];congr 1;rw[←Xdd (by rw[Xay];omega),List.take_append_drop]
def cmk(mp:List Int)(ct:Int)(s:KS)(m:Mk):Int×List Int×List Int×List Int×Int:=(m.1,(m.2.2,(Wg3 s.cells (s.log.drop m.2.1.toNat),(mp,ct))))
theorem Wsa{l:List Opn}{pc:Nat}{s:KS}(hc:KCe l)(h:KI l pc s)(hp:pc<l.length):Wg3 (Wb8 l pc s).2.2.cells (Wb8 l pc s).2.2.log=Wg3 s.cells s.log:=by
 have ha:=WeA hp;unfold Wb8;rw[ha];unfold WdK;cases l[pc].1==5
 .cases l[pc].1==6
  .cases l[pc].1==7
   .cases l[pc].1==8
    .cases l[pc].1==9
     .cases l[pc].1==10
      .rfl
      .by_cases hne:s.marks= []
       .have:s.marks.isEmpty=true:=by rw[hne];rfl
        rw[this];rfl
       .have:s.marks.isEmpty=false:=by cases hm:s.marks with|nil=>exact Wj hm hne|cons a b=>rfl
        rw[this];obtain⟨m,q,x,hq,ht,hx,_⟩:=WiQ hc h hne;obtain⟨x1,x2,x3⟩:=h.mr x (by rw[hq];simp);simp only[We,Wc,ht];have:=Wqc (c:=s.cells) (log:=s.log) (n:=0) (k:=x.2.1.toNat) (by omega) (by omega);simpa using this
     .rfl
    .rfl
   .rfl
  .have:=Whz (c:=s.cells) (log:=s.log) (a:=l[pc].2.1) (v:=s.regs.getD l[pc].2.2.1.toNat 0) (n:=0) (by omega);simp only[We,Wc];simpa using this
 .rfl
theorem WpS{l:List Opn}(hc:KCe l):∀(n pc:Nat) (s:KS),KI l pc s->Wg3 (Wd2 l n pc s).2.cells (Wd2 l n pc s).2.log=Wg3 s.cells s.log
 |0,pc,s,h=>rfl
 |n+1,pc,s,h=>by
  rw[Wd2];by_cases hp:pc<l.length
  .have e:decide (pc<l.length)=true:=by simpa using hp
   have hu:=Wsa hc h hp;rw[e];cases hb:(Wb8 l pc s).1
   .exact hu
   .simp only[We];rw[WpS hc n _ _ ((WgY hc h hp).1 hb).2,hu]
  .have e:decide (pc<l.length)=false:=by simpa using hp
   rw[e];rfl
theorem Wfp{N:Nat}{c mp:List Int}{ct:Int}(h1:c.length<=1000)(h2:mp.length<=1000):Zg6 N (c,(mp,ct))=ret (c,(mp,ct)):=by
 unfold Zg6;have r1:WB (([]:List Int).length+c.length)=true:=Wx (by simp;omega);have r2:WB (([]:List Int).length+mp.length)=true:=Wx (by simp;omega);simp only[r1,r2,We,Whj];rfl
section
variable{N:Nat}{l:List Opn}{R:Type}
theorem WtJ(hN:1048576<N)(hc:KCe l){rec:List Opn->List (List Opn)->List Int->List Int->Ki->Option Ku}{kids:List (List Opn)}{order:List Int}
  {mp:List Int} {ct ak:Int} {aG aJ:List Int} (mF:mp.length<=1000) (K0:List Int->Option R) (K1:List Int->Int->List Int->List Int->Option R):
  ∀(n pc:Nat) (s:KS),KI l pc s->l.length-pc<n->Zd N rec l kids order ak aG aJ K0 (λ_ _ r b _ c m=>K1 r b c m) n (pc:Int) s.regs ct (s.marks.map (cmk mp ct s)) s.cells mp=
   (λf:Bool×KS=>bif f.1 then K0 f.2.regs else K1 f.2.regs ct f.2.cells mp) (Wd2 l n pc s)
 |0,pc,s,h,hn=>by omega
 |n+1,pc,s,h,hn=>by
  have hlen:=hc.len;have eb:=h.pcl;by_cases hp:pc<l.length
  .have kp:=WgY hc h hp;have ih:=WtJ hN hc (rec:=rec) (kids:=kids) (order:=order) (mp:=mp) (ct:=ct) (ak:=ak) (aG:=aG) (aJ:=aJ) mF K0 K1 n;have go:∀cR s',Wb8 l pc s=(true,cR,s')->Zd N rec l kids order ak aG aJ K0 (λ_ _ r b _ c m=>K1 r b c m) n (cR:Int) s'.regs ct (s'.marks.map (cmk mp ct s')) s'.cells mp=(λf:Bool×KS=>bif f.1 then K0 f.2.regs else K1 f.2.regs ct f.2.cells mp) (Wd2 l (n+1) pc s):=λcR s' he=>by
    rw[he]at kp;obtain⟨h1,h2⟩:=kp.1 rfl;rw[ih cR s' h2 (by simp only[]at h1;omega),Wd2,he];simp[hp]
   have stop:∀cR s',Wb8 l pc s=(false,cR,s')->K0 s'.regs=(λf:Bool×KS=>bif f.1 then K0 f.2.regs else K1 f.2.regs ct f.2.cells mp) (Wd2 l (n+1) pc s):=λcR s' he=>by
    rw[Wd2,he];simp[hp]
   obtain⟨ho,k1,k2⟩:=hc.ok pc hp;have ha:=WeA hp;have zX:=h.lg;have ja:s.marks.length<=24:=by
    have e1:=Wm Xb h.mp;simp only[Xad]at e1;have e2:=WaV hc.up pc eb;have:=WcN l pc;omega
   have r0:WB (([]:List Int).length+s.regs.length)=true:=Wx (by rw[h.rg.len];simp);have en:∀x:List Int,Xe ([]:List Int) x=x:=λx=>rfl;simp only[Zd,W2 hp,Wq hp,Wt hp,We,Wp (show pc<4611686018427387904 by omega)];unfold Wb8 at go stop;rw[ha]at go stop;unfold WdK at go stop;by_cases k5:l[pc].1=5
   .have b:(l[pc].1==5)=true:=by simp[k5]
    obtain⟨o1,o2⟩:=WpI ho k5;rw[b]at go;simp only[b,We,Win o2 h.cl.len,WZ o1 h.rg.len];exact go _ _ rfl
   .have b5:(l[pc].1==5)=false:=by simp[k5]
    rw[b5]at go stop;by_cases k6:l[pc].1=6
    .have b:(l[pc].1==6)=true:=by simp[k6]
     obtain⟨o1,o2⟩:=Wwu ho k6;rw[b]at go;simp only[b5,b,We,Wc,Win o1 h.cl.len,WZ o2 h.rg.len];refine Eq.trans ?_ (go _ _ rfl);congr 1;apply Xbz;intro m hm;unfold cmk;simp only[];rw[Whz (by have:=h.mr m hm;omega)]
    .have b6:(l[pc].1==6)=false:=by simp[k6]
     rw[b6]at go stop;by_cases k7:l[pc].1=7
     .have b:(l[pc].1==7)=true:=by simp[k7]
      obtain⟨o1,o2,o3⟩:=WtB ho k7;rw[b]at go;simp only[b5,b6,b,We,Wc,WZ o1 h.rg.len];have e2:Wl .i64 ((pc+1:Nat):Int) l[pc].2.2.1=((pc+1+l[pc].2.2.1.toNat:Nat):Int):=by rw[WH (by unfold I64;omega)];omega
      rw[e2];refine Eq.trans ?_ (go _ _ rfl);cases s.regs.getD l[pc].2.1.toNat 0==0<;>rfl
     .have b7:(l[pc].1==7)=false:=by simp[k7]
      rw[b7]at go stop;by_cases k8:l[pc].1=8
      .have b:(l[pc].1==8)=true:=by simp[k8]
       rw[b]at go;have r1:WB ((s.marks.map (cmk mp ct s)).length+ [((pc:Int),(s.regs,(s.cells,(mp,ct))))].length)=true:=Wx (by simp;omega);simp only[b5,b6,b7,b,We,Wc,r0,Wfp (ct:=ct) (show s.cells.length<=1000 by rw[h.cl.len];omega) mF,ret,Xd,en,r1];refine Eq.trans ?_ (go _ _ rfl);simp only[Xu,Xag,Xbd,cmk,Xi,Xcn];rfl
      .have b8:(l[pc].1==8)=false:=by simp[k8]
       rw[b8]at go stop;by_cases k9:l[pc].1=9
       .have b:(l[pc].1==9)=true:=by simp[k9]
        rw[b]at go;have hne:s.marks≠ []:=λh0=>by
         have e1:=Wm Xb h.mp;rw[h0]at e1;simp only[Xad,Xbs]at e1;have e2:=WaV hc.up pc eb;have e3:=hc.up pc hp;have e4:=Waq hp;rw[WkV k9]at e4;omega
        obtain⟨m,q,x,hq,ht,hx,⟨hm,h8⟩,bq,fB,bb,mb⟩:=WiQ hc h hne;have o8:=WvA (hc.ok m hm).1 h8;rw[ht]at go;rw[hq]at go⊢;rw[hq]at ja;have xO:(q.map (cmk mp ct s)).length<1000:=by rw[Xs]at ja;simp;omega
        have c1:(cmk mp ct s x).1=(m:Int):=hx;simp only[b5,b6,b7,b8,b,We,Wc,Xu,Xag,Xbd,Wig xO,Wie,Xi,Wip,WdG,Wid,c1,Wq hm,Wpp,WeA hm,WZ o8 h.rg.len];refine Eq.trans ?_ (go _ _ rfl);simp only[hx,Xi,WeA hm,Xs,Xr,Xbs,Xaz,Xgs,WdG];rfl
       .have b9:(l[pc].1==9)=false:=by simp[k9]
        rw[b9]at go stop;by_cases k10:l[pc].1=10
        .have b:(l[pc].1==10)=true:=by simp[k10]
         rw[b]at go stop;simp only[b5,b6,b7,b8,b9,b,We,Wc];by_cases hne:s.marks= []
         .have he:s.marks.isEmpty=true:=by rw[hne];rfl
          rw[he]at stop;have e3:(Wi (s.marks.map (cmk mp ct s))==0)=true:=by rw[hne];rfl
          rw[e3];exact stop pc {s with cells:=Wg3 s.cells s.log,log:=[],back:=s.back+s.log.length} rfl
         .have he:s.marks.isEmpty=false:=by cases hm:s.marks with|nil=>exact Wj hm hne|cons a b=>rfl
          rw[he]at go;obtain⟨m,q,x,hq,ht,hx,⟨hm,h8⟩,bq,fB,bb,mb⟩:=WiQ hc h hne;have tV:x∈s.marks:=by rw[hq];simp
          obtain⟨x1,x2,x3⟩:=h.mr x tV;have o8:=WvA (hc.ok m hm).1 h8;have cG:∀y∈q,y.2.1<=x.2.1:=by
           have:=h.mo;rw[hq]at this
           exactλy hy=>(Xai.1 this).2.2 y hy x (by simp)
          have hqy:∀y∈q,0<=y.2.1:=λy hy=>(h.mr y (by rw[hq];simp[hy])).2.1;rw[ht]at go;rw[hq]at go⊢;rw[hq]at ja;have xO:(q.map (cmk mp ct s)).length<1000:=by rw[Xs]at ja;simp;omega
          have e3:(Wi (q.map (cmk mp ct s)++ [cmk mp ct s x])==0)=false:=by
           have:Wi (q.map (cmk mp ct s)++ [cmk mp ct s x])≠0:=by unfold Wi;rw[Xs];simp;omega
           simpa using this
          have B0:=bq.len;have hu:=WkR h.cl (l:=s.log.drop x.2.1.toNat) λr hr=>zX.1 r (Xdo hr);have c1:(cmk mp ct s x).1=(m:Int):=hx;have c2:(cmk mp ct s x).2.1=x.2.2:=rfl;have c3:(cmk mp ct s x).2.2=(Wg3 s.cells (s.log.drop x.2.1.toNat),(mp,ct)):=rfl;have r1:WB (([]:List Int).length+x.2.2.length)=true:=Wx (by rw[x1.len];simp);simp only[Xu,Xag,Xbd];simp only[e3,Wig xO,Wc,Wie,Xi,Wip,WdG,Wid,We,c1,c2,c3,r1,Wfp (ct:=ct) (show(Wg3 s.cells (s.log.drop x.2.1.toNat)).length<=1000 by rw[hu.len];omega) mF,Xd,Wq hm,Wpp,WeA hm,en,WZ o8 x1.len,
           WiO (N:=N) (l:=l) (by omega) hN ⟨hm,h8⟩ bq,ret,Wp (show mt l m<4611686018427387904 by omega)]
          refine Eq.trans ?_ (go _ _ rfl);simp only[hx,Xi,WeA hm,Xs,Xr,Xbs,Xaz,Xgs,WdG];congr 1;apply Xbz;intro y hy;unfold cmk;simp only[];rw[Wqc (by have:=cG y hy;omega) (by omega)]
        .have bj:(l[pc].1==10)=false:=by simp[k10]
         rw[bj]at go stop;have e:∀k:Int,11<=k->(l[pc].1==k)=false:=λk hk=>by simp;omega
         simp only[b5,b6,b7,b8,b9,bj,e 11 (by omega),e 12 (by omega),e 13 (by omega),e 14 (by omega),e 15 (by omega),e 16 (by omega),Wc,Wh5 hN ho k1 (by omega) h.rg,Xd];exact go _ _ rfl
  .have e:pc=l.length:=by omega
   subst e;simp only[Zd,Wat (Xn l.length),Wc];rw[Wd2];simp
end
end
section
theorem WrR{l:List Opn}(h:KC l):KCe l:=⟨h.len,h.up,h.z,λi hi=>⟨(h.ok i hi).1,(h.ok i hi).2.1,h.k10 i hi⟩,h.sk⟩
def ovl(c:List Int)(rows:List Rw):List Int:=rows.foldl (λc r=>c.set r.1.toNat r.2) c
theorem Wiu(c:List Int)(l:List Rw)(r:Rw):ovl c (l++ [r])=(ovl c l).set r.1.toNat r.2:=by unfold ovl;rw[Xgv];rfl
theorem Wwk(c:List Int)(a b:List Rw):ovl c (a++b)=ovl (ovl c a) b:=by unfold ovl;rw[Xgv]
theorem Wcb:∀{l:List Rw} {c:List Int},Vals 8 c->Weq l->Vals 8 (ovl c l)
 | [],c,h,_=>h
 |r::l,c,h,hr=>Wcb (l:=l) (h.set r.1.toNat (hr r (Xk ..)).2) λx hx=>hr x (Xf _ hx)
theorem We1{c:Int}:∀{l:List Rw} {A:List Int},Vals 8 A->Weq l->0<=c->c<=7->(ovl A l).getD c.toNat 0=match lst l c with|some v=>v|none=>A.getD c.toNat 0
 | [],A,_,_,_,_=>rfl
 |r::l,A,hA,hr,h0,h7=>by
  have md:=hr r (Xk ..);have ih:=We1 (c:=c) (l:=l) (A:=A.set r.1.toNat r.2) (hA.set r.1.toNat md.2) (λx hx=>hr x (Xf _ hx)) h0 h7;show(ovl (A.set r.1.toNat r.2) l).getD c.toNat 0=_;rw[ih,lst];cases lst l c with
  |some v=>rfl
  |none=>
   simp only;by_cases hc:r.1=c
   .rw[Wb hc,←hc,Xac,Xdx (by rw[hA.len];omega)];rfl
   .rw[Wa hc,Xac,Xac,Xdl (by omega)]
def Wme:List Int->List Rw->List Rw
 |_,[]=>[]
 |A,r::l=>(r.1,A.getD r.1.toNat 0)::Wme (A.set r.1.toNat r.2) l
theorem Wiw:∀{l:List Rw} {A:List Int},(Wme A l).length=l.length
 | [],_=>rfl
 |r::l,A=>by rw[Wme,Xr,Xr,Wiw]
theorem Wiz(r:Rw):∀(l:List Rw) (A:List Int),Wme A (l++ [r])=Wme A l++ [(r.1,(ovl A l).getD r.1.toNat 0)]
 | [],_=>rfl
 |x::l,A=>by
  rw[Xax,Wme,Wme,Wiz r l,Xax];rfl
theorem Wtd(n:Nat):∀(l:List Rw) (A:List Int),(Wme A l).take n=Wme A (l.take n):=by
 induction n with
 |zero=>intro l A;simp[Wme]
 |succ n ih=>
  intro l A;cases l with
  |nil=>rfl
  |cons r l=>rw[Wme,Xfb,Xfb,Wme,ih]
theorem WmC{A:List Int}{n:Nat}:∀{l:List Rw},Wg3 (ovl A l) ((Wme A l).drop n)=ovl A (l.take n):=by
 intro l;generalize hk:l.length=k
 induction k generalizing l with
 |zero=>
  have:l= []:=Xt hk;subst this;simp[Wme,Wg3,ovl]
 |succ k ih=>
  rcases Wa8 l with rfl|⟨q,r,rfl⟩
  .simp at hk
  .have hq:q.length=k:=by simpa using hk
   by_cases hn:n<=q.length
   .rw[Wiu,Wiz,Whz (by rw[Wiw];exact hn),ih hq,Xcm hn]
   .rw[List.drop_eq_nil_of_le (by rw[Wiw];simp;omega),Xcs (by simp;omega)];rfl
structure EM(A:List Int)(x:Kd)(s:KS):Prop where
 regs:s.regs=x.regs
 cells:s.cells=ovl A x.writes
 log:s.log=Wme A x.writes
 marks:s.marks=x.marks
def Sim(code:List Opn)(r0:List Int)(x:Kd):Prop:=∀A:List Int,Vals 8 A->(∀e∈x.seen,A.getD e.1.toNat 0=e.2.1)->∀F:Nat,25<=F->
 (x.phase=0/\∃(j:Nat) (s:KS),(j:Int)<=x.pc/\EM A x s/\KI code x.pc.toNat s/\Wd2 code F 0 (ks0 r0 A)=Wd2 code (F-j) x.pc.toNat s)\/
 (x.phase≠0/\((x.out=1/\∃s:KS,s.regs=x.regs/\s.cells=ovl A x.writes/\Wd2 code F 0 (ks0 r0 A)=(false,s))\/(x.out=2/\x.writes= []/\∃s,s.cells=A/\Wd2 code F 0 (ks0 r0 A)=(true,s))))
section
variable{M:Int->Int->Prop}{N:Nat}{codes:List (List Opn)}{n:Int}{f:Fm}{k:Nat}{code:List Opn}{m:Mm}{x y:Kd}{r0:List Int}
theorem Sim.new(hr:Vals 4 r0)(h0:x.phase=0)(hp:x.pc=0)(hg:x.regs=r0)(hw:x.writes= [])(hm:x.marks= []):Sim code r0 x:=λA hA _ F hF=>by
 refine .inl ⟨h0,0,ks0 r0 A,by rw[hp];exact Int.le_refl _,⟨by rw[hg];rfl,by rw[hw];rfl,by rw[hw];rfl,by rw[hm];rfl⟩,?_,?_⟩
 .rw[hp];exact WoS hr hA
 .rw[hp];rfl
theorem Sim.same(h:Sim code r0 x)(h0:y.phase=x.phase)(hp:y.pc=x.pc)(hg:y.regs=x.regs)(hw:y.writes=x.writes)(hm:y.marks=x.marks)(hs:y.seen=x.seen)(ho:y.out=x.out):Sim code r0 y:=λA hA eK F hF=>by
 rcases h A hA (λe he=>eK e (by rw[hs];exact he)) F hF with⟨a,j,s,b,c,d,e⟩|⟨a,⟨b,s,c,c',d⟩|⟨b,c,s,d,e⟩⟩
 .exact .inl ⟨by rw[h0];exact a,j,s,by rw[hp];exact b,⟨by rw[hg];exact c.regs,by rw[hw];exact c.cells,by rw[hw];exact c.log,by rw[hm];exact c.marks⟩,by rw[hp];exact d,by rw[hp];exact e⟩
 .exact .inr ⟨by rw[h0];exact a,.inl ⟨by rw[ho];exact b,s,by rw[hg];exact c,by rw[hw];exact c',d⟩⟩
 .exact .inr ⟨by rw[h0];exact a,.inr ⟨by rw[ho];exact b,by rw[hw];exact c,s,d,e⟩⟩
theorem Sim.fin(h:Sim code r0 x)(h0:x.phase≠0)(h1:y.phase≠0)(hg:y.regs=x.regs)(hw:y.writes=x.writes)(hs:y.seen=x.seen)(ho:y.out=x.out):Sim code r0 y:=λA hA eK F hF=>by
 rcases h A hA (λe he=>eK e (by rw[hs];exact he)) F hF with⟨a,_⟩|⟨a,⟨b,s,c,c',d⟩|⟨b,c,s,d,e⟩⟩
 .exact Wj a h0
 .exact .inr ⟨h1,.inl ⟨by rw[ho];exact b,s,by rw[hg];exact c,by rw[hw];exact c',d⟩⟩
 .exact .inr ⟨h1,.inr ⟨by rw[ho];exact b,by rw[hw];exact c,s,d,e⟩⟩
theorem Wwo{F j pc:Nat}{s s':KS}{cR:Nat}(hF:j+1<=F)(hp:pc<code.length)(h:Wb8 code pc s=(true,cR,s')):Wd2 code (F-j) pc s=Wd2 code (F-(j+1)) cR s':=by
 rw[show F-j=(F-(j+1))+1 by omega,Wd2,h];simp[hp]
theorem Sim.go(hc:KCe code)(h:Sim code r0 x)(h0:x.phase=0)(gi:0<=x.pc)(hp:x.pc.toNat<code.length)(tW:y.phase=0)(BW:0<=y.pc)(da:∀e∈x.seen,e∈y.seen)
  (fo:∀A s,Vals 8 A->(∀e∈y.seen,A.getD e.1.toNat 0=e.2.1)->EM A x s->KI code x.pc.toNat s->∃s',Wb8 code x.pc.toNat s=(true,y.pc.toNat,s')/\EM A y s'):Sim code r0 y:=λA hA eK F hF=>by
 rcases h A hA (λe he=>eK e (da e he)) F hF with⟨_,j,s,b,c,d,e⟩|⟨a,_⟩
 .obtain⟨s',e1,e2⟩:=fo A s hA eK c d;have kp:=(WgY hc d hp).1 (by rw[e1]);rw[e1]at kp;have hlen:=hc.len;refine .inl ⟨tW,j+1,s',?_,e2,kp.2,?_⟩
  .have:=kp.1;simp only at this;omega
  .rw[e,Wwo (by omega) hp e1]
 .exact Wj h0 a
theorem Sim.stop(hc:KCe code)(h:Sim code r0 x)(h0:x.phase=0)(gi:0<=x.pc)(hp:x.pc.toNat<code.length)(tW:y.phase≠0)(xP:y.out=2)(hw:y.writes= [])(hs:y.seen=x.seen)
  (fo:∀A s,Vals 8 A->EM A x s->KI code x.pc.toNat s->∃q s',Wb8 code x.pc.toNat s=(false,q,s')/\s'.cells=A):Sim code r0 y:=λA hA eK F hF=>by
 rcases h A hA (λe he=>eK e (by rw[hs];exact he)) F hF with⟨_,j,s,b,c,d,e⟩|⟨a,_⟩
 .obtain⟨q,s',e1,e2⟩:=fo A s hA c d;have hlen:=hc.len;refine .inr ⟨tW,.inr ⟨xP,hw,s',e2,?_⟩⟩;rw[e,show F-j=(F-(j+1))+1 by omega,Wd2,e1];simp[hp]
 .exact Wj h0 a
theorem Sim.over(hc:KCe code)(h:Sim code r0 x)(h0:x.phase=0)(gi:0<=x.pc)(eb:x.pc<=code.length)(hp:code.length<=x.pc)(tW:y.phase≠0)(xP:y.out=1)(hg:y.regs=x.regs)(hw:y.writes=x.writes)(hs:y.seen=x.seen):Sim code r0 y:=λA hA eK F hF=>by
 rcases h A hA (λe he=>eK e (by rw[hs];exact he)) F hF with⟨_,j,s,b,c,d,e⟩|⟨a,_⟩
 .have hlen:=hc.len;refine .inr ⟨tW,.inl ⟨xP,s,by rw[hg];exact c.regs,by rw[hw];exact c.cells,?_⟩⟩;rw[e,show F-j=(F-(j+1))+1 by omega,Wd2,Wu (show¬x.pc.toNat<code.length by omega)];rfl
 .exact Wj h0 a
theorem Wpu{i:Int}:opN code i=WvC code i.toNat:=rfl
theorem EM.cell{A:List Int}{s:KS}(h:EM A x s)(hA:Vals 8 A)(hr:Weq x.writes){c:Int}(h0:0<=c)(h7:c<=7):s.cells.getD c.toNat 0=match lst x.writes c with|some v=>v|none=>A.getD c.toNat 0:=by
 rw[h.cells,We1 hA hr h0 h7]
theorem WuN(aU:KC code)(hF:FOk codes n f)(dV:KOk code f.clock n x)(h0:x.phase=0)(h:Sim code f.regs x):Sim code f.regs (Wgw m f x code).2:=by
 have hc:=WrR aU;have hlen:=aU.len;have aR:=dV.pc;have g0:x.writes.length<=300:=by have:=dV.wl;omega
 have c8:Sim code f.regs (f.again x):=Sim.new hF.regs rfl rfl rfl rfl rfl;unfold Wgw;by_cases hp:x.pc>=code.length
 .rw[Wb hp];exact h.over hc h0 aR.1 aR.2 hp (by show(1:Int)≠0;omega) rfl rfl rfl rfl
 .rw[Wa hp];have hlt:x.pc.toNat<code.length:=by omega
  have B1:opN code x.pc=code[x.pc.toNat]:=by rw[Wpu];exact WeA hlt
  have aV:=aU.ok _ hlt;have xQ:=aU.k10 _ hlt;rw[←B1]at aV xQ;have jz:∀s,Wb8 code x.pc.toNat s=WdK code x.pc.toNat s (opN code x.pc):=λs=>by unfold Wb8;rw[Wpu]
  have oq:(x.pc+1).toNat=x.pc.toNat+1:=by omega
  simp only;generalize ho:opN code x.pc=o at*;by_cases h5:o.1=5
  .rw[Wb h5];have ax:=(WpI aV.1 h5).2;unfold W8 at ax;simp at ax;have rd:∀(v:Int) (sn:List En) (y:Kd),(∀e∈x.seen,e∈sn)->(∀A:List Int,Vals 8 A->(∀e∈sn,A.getD e.1.toNat 0=e.2.1)->(match lst x.writes o.2.2.1 with|some v=>v|none=>A.getD o.2.2.1.toNat 0)=v)->
     y.phase=0->y.pc=x.pc+1->y.regs=WjD x.regs o.2.1 v->y.writes=x.writes->y.marks=x.marks->y.seen=sn->Sim code f.regs y:=λv sn y da hv y0 y1 y2 y3 y4 y5=>by
    refine h.go hc h0 aR.1 hlt y0 (by omega) (by rw[y5];exact da) λA s hA eK hE hK=>?_;refine⟨_,by rw[jz];unfold WdK;rw[h5,y1,oq];rfl,?_,?_,?_,?_⟩
    .show s.regs.set o.2.1.toNat (s.cells.getD o.2.2.1.toNat 0)=_;rw[hE.cell hA dV.rows ax.1 ax.2,hv A hA (by rw[←y5];exact eK),hE.regs,y2];rfl
    .show s.cells=_;rw[hE.cells,y3]
    .show s.log=_;rw[hE.log,y3]
    .show s.marks=_;rw[hE.marks,y4]
   have ko:=WeU (c:=o.2.2.1) dV.rows g0;unfold Wbn;cases hl:WaF x.writes o.2.2.1 with
   |some v=>
    exact rd v x.seen _ (λe he=>he) (λA _ _=>by rw[←ko,hl]) h0 rfl rfl rfl rfl rfl
   |none=>
    have m7:∀e:En,e.1=o.2.2.1->∀A:List Int,Vals 8 A->(∀z∈x.seen++ [e],A.getD z.1.toNat 0=z.2.1)->(match lst x.writes o.2.2.1 with|some v=>v|none=>A.getD o.2.2.1.toNat 0)=e.2.1:=λe he A hA eK=>by
     rw[←ko,hl,←he];exact eK e (by simp)
    cases he:ent f.buf o.2.2.1 with
    |some r=>
     simp only;split
     .exact c8
     .exact rd r.2.2.1 (x.seen++ [r.2]) _ (λe he=>Xl _ he) (m7 r.2 (Wgu he).2) h0 rfl rfl rfl rfl rfl
    |none=>
     simp only;generalize WM m f.rv _=pb;split
     .exact h.same rfl rfl rfl rfl rfl rfl rfl
     .split
      .exact rd pb.2.2.2 (x.seen++ [(o.2.2.1,pb.2.2.2,-1)]) _ (λe he=>Xl _ he) (m7 (o.2.2.1,pb.2.2.2,-1) rfl) h0 rfl rfl rfl rfl rfl
      .exact h.same rfl rfl rfl rfl rfl rfl rfl
  .rw[Wa h5];have n5:(o.1==5)=false:=by simpa using h5
   by_cases ci:o.1=10
   .rw[Wb ci];have bj:(o.1==10)=true:=by simpa using ci
    have e6:(o.1==6)=false:=by simp;omega
    have e7:(o.1==7)=false:=by simp;omega
    have e8:(o.1==8)=false:=by simp;omega
    have e9:(o.1==9)=false:=by simp;omega
    unfold Wel;by_cases hm:x.marks.length=0
    .rw[Wb hm];have xR:x.marks= []:=Xt hm;refine h.stop hc h0 aR.1 hlt (by show(1:Int)≠0;omega) rfl rfl rfl λA s hA hE hK=>?_;have he:s.marks.isEmpty=true:=by rw[hE.marks,xR];rfl
     refine⟨_,_,by rw[jz];unfold WdK;rw[n5,e6,e7,e8,e9,bj,he];rfl,?_⟩;show Wg3 s.cells s.log=A;have:=WmC (A:=A) (n:=0) (l:=x.writes);rw[List.drop_zero]at this;rw[hE.cells,hE.log,this];rfl
    .rw[Wa hm];have xR:x.marks≠ []:=λz=>hm (by rw[z];rfl);have B2:0<=Wer code (Wct x.marks (0,0,[])).1.toNat+1:=by omega
     refine h.go hc h0 aR.1 hlt h0 (by show(0:Int)<=((Wer code (Wct x.marks (0,0,[])).1.toNat:Nat):Int)+1;omega) (λe he=>he) λA s hA eK hE hK=>?_;have hne:s.marks≠ []:=by rw[hE.marks];exact xR
     have he:s.marks.isEmpty=false:=by cases hq:s.marks with|nil=>exact Wj hq hne|cons a b=>rfl
     obtain⟨mm,q,z,hq,ht,hx,⟨lY,h8⟩,bq,fB,bb,mb⟩:=WiQ hc hK hne;obtain⟨z1,z2,z3⟩:=hK.mr z (by rw[hq];simp);have cG:Wct x.marks (0,0,[])=z:=by rw[←hE.marks,hq];exact WkF q z _
     have hdl:x.marks.dropLast=q:=by rw[←hE.marks,hq,Xdp]
     have xS:Wer code z.1.toNat=mt code z.1.toNat:=by rw[hx,Xi];exact Wkw bq
     have kC:s.marks.take (s.marks.length-1)=q:=by rw[hq];simp
     rw[cG];refine⟨_,by rw[jz];unfold WdK;rw[n5,e6,e7,e8,e9,bj,he,ht,kC];simp only[Wc,We];refine Wm (λu:Nat=>(true,u,_)) ?_;show mt code z.1.toNat+1=(((Wer code z.1.toNat:Nat):Int)+1).toNat;rw[xS];omega,?_,?_,?_,?_⟩
     .rfl
     .show Wg3 s.cells (s.log.drop z.2.1.toNat)=ovl A (x.writes.take z.2.1.toNat);rw[hE.cells,hE.log,WmC]
     .show s.log.take z.2.1.toNat=Wme A (x.writes.take z.2.1.toNat);rw[hE.log,Wtd]
     .show q=x.marks.dropLast;rw[hdl]
   .rw[Wa ci];have iE:(o.1==10)=false:=by simpa using ci
    by_cases h6:o.1=6
    .rw[Wb h6];have b6:(o.1==6)=true:=by simpa using h6
     refine h.go hc h0 aR.1 hlt h0 (by show 0<=x.pc+1;omega) (λe he=>he) λA s hA eK hE hK=>?_;refine⟨_,by rw[jz];unfold WdK;rw[n5,b6];show _=(true,(x.pc+1).toNat,_);rw[oq];rfl,?_,?_,?_,?_⟩
     .exact hE.regs
     .show s.cells.set o.2.1.toNat (s.regs.getD o.2.2.1.toNat 0)=ovl A (x.writes++ [(o.2.1,Wa0 x.regs o.2.2.1 0)]);rw[Wiu,hE.cells,hE.regs];rfl
     .show s.log++ [(o.2.1,s.cells.getD o.2.1.toNat 0)]=Wme A (x.writes++ [(o.2.1,Wa0 x.regs o.2.2.1 0)]);rw[Wiz,hE.log,hE.cells]
     .exact hE.marks
    .rw[Wa h6];have n6:(o.1==6)=false:=by simpa using h6
     by_cases h7:o.1=7
     .rw[Wb h7];have b7:(o.1==7)=true:=by simpa using h7
      have o7:=WtB aV.1 h7;refine h.go hc h0 aR.1 hlt h0 (by show 0<=(if Wa0 x.regs o.2.1 0=0 then x.pc+o.2.2.1 else x.pc)+1;split<;>omega) (λe he=>he) λA s hA eK hE hK=>?_;refine⟨s,?_,hE.regs,hE.cells,hE.log,hE.marks⟩;rw[jz];unfold WdK;rw[n5,n6,b7,hE.regs];show(true,(bif x.regs.getD o.2.1.toNat 0==0 then x.pc.toNat+1+o.2.2.1.toNat else x.pc.toNat+1),s)=(true,((if Wa0 x.regs o.2.1 0=0 then x.pc+o.2.2.1 else x.pc)+1).toNat,s);have B3:Wa0 x.regs o.2.1 0=x.regs.getD o.2.1.toNat 0:=rfl;rw[B3];by_cases hz:x.regs.getD o.2.1.toNat 0=0
      .have bz:(x.regs.getD o.2.1.toNat 0==0)=true:=by simpa using hz
       rw[Wb hz,bz];refine Wm (λu:Nat=>(true,u,s)) ?_;simp only[We];omega
      .have bz:(x.regs.getD o.2.1.toNat 0==0)=false:=by simpa using hz
       rw[Wa hz,bz];refine Wm (λu:Nat=>(true,u,s)) ?_;simp only[Wc];omega
     .rw[Wa h7];have n7:(o.1==7)=false:=by simpa using h7
      by_cases h8:o.1=8
      .rw[Wb h8];have b8:(o.1==8)=true:=by simpa using h8
       refine h.go hc h0 aR.1 hlt h0 (by show 0<=x.pc+1;omega) (λe he=>he) λA s hA eK hE hK=>?_;refine⟨{s with marks:=s.marks++ [((x.pc.toNat:Int),(s.log.length:Int),s.regs)]},by rw[jz];unfold WdK;rw[n5,n6,n7,b8];simp only[Wc,We];show _=(true,(x.pc+1).toNat,_);rw[oq],hE.regs,hE.cells,hE.log,?_⟩;show s.marks++ [((x.pc.toNat:Int),(s.log.length:Int),s.regs)]=x.marks++ [(x.pc,(x.writes.length:Int),x.regs)];rw[hE.marks,hE.log,hE.regs,Wiw,show((x.pc.toNat:Nat):Int)=x.pc by omega]
      .rw[Wa h8];have n8:(o.1==8)=false:=by simpa using h8
       by_cases h9:o.1=9
       .rw[Wb h9];have b9:(o.1==9)=true:=by simpa using h9
        refine h.go hc h0 aR.1 hlt h0 (by show 0<=x.pc+1;omega) (λe he=>he) λA s hA eK hE hK=>?_;refine⟨{s with marks:=s.marks.take (s.marks.length-1),regs:=s.regs.set (WvC code (Wqk s).1.toNat).2.1.toNat 1},by rw[jz];unfold WdK;rw[n5,n6,n7,n8,b9];simp only[Wc,We];show _=(true,(x.pc+1).toNat,_);rw[oq],?_,hE.cells,hE.log,?_⟩
        .show s.regs.set (WvC code (Wqk s).1.toNat).2.1.toNat 1=WjD x.regs (opN code (Wct x.marks (0,0,[])).1).2.1 1;have:Wqk s=Wct x.marks (0,0,[]):=by unfold Wqk Wct;rw[hE.marks];rfl
         rw[this,hE.regs];rfl
        .show s.marks.take (s.marks.length-1)=x.marks.dropLast;rw[hE.marks,Xea]
       .rw[Wa h9];have n9:(o.1==9)=false:=by simpa using h9
        refine h.go hc h0 aR.1 hlt h0 (by show 0<=x.pc+1;omega) (λe he=>he) λA s hA eK hE hK=>?_;refine⟨{s with regs:=Wg9 o s.regs},by rw[jz];unfold WdK;rw[n5,n6,n7,n8,n9,iE];simp only[Wc];show _=(true,(x.pc+1).toNat,_);rw[oq],?_,hE.cells,hE.log,hE.marks⟩;show Wg9 o s.regs=Wg9 o x.regs;rw[hE.regs]
end
end
section
section
variable{M:Int->Int->Prop}{N:Nat}{codes:List (List Opn)}{n:Int}{f g:Fm}{k:Nat}{code:List Opn}{m:Mm}{x y:Kd}{r0:List Int}
def VL(f:Fm)(x:Kd):Prop:=∀j:Nat,(j:Int)<x.pos->∀h:j<x.seen.length,Wqy f.buf x.seen[j].1=x.seen[j].2.2
structure FV(M:Int->Int->Prop)(codes:List (List Opn))(f:Fm):Prop where
 sim:∀(k:Nat) (h:k<f.kids.length),Sim (codes.getD k []) f.regs f.kids[k]
 own:∀(k:Nat) (h:k<f.kids.length),f.kids[k].phase=2->f.owner=(k:Int)+1
 val:∀(k:Nat) (h:k<f.kids.length),f.kids[k].phase=2->VL f f.kids[k]
 pz:∀(k:Nat) (h:k<f.kids.length),f.kids[k].phase≠2->f.kids[k].pos=0
 mrg:∀(i:Nat) (h:i<f.order.length),∀e∈(f.kids.getD f.order[i].toNat {}).seen,lst (WQ f i) e.1=some e.2.1\/(lst (WQ f i) e.1=none/\M e.1 e.2.1)
theorem WsR{b:List En}{c t:Int}(h:Wqy b c=t)(ht:0<=t):∃r:Nat×En,ent b c=some r/\r.2.2.2=t:=by
 unfold Wqy at h;cases he:ent b c with
 |none=>rw[he]at h;simp only at h;omega
 |some r=>rw[he]at h;exact⟨r,rfl,h⟩
theorem Wrz{b:List En}{c:Int}(h:Wqy b c= -1)(hb:∀e∈b,0<=e.2.2):ent b c=none:=by
 unfold Wqy at h;cases he:ent b c with
 |none=>rfl
 |some r=>rw[he]at h;simp only at h;have:=hb _ (Wgu he).1;omega
theorem Wt6(h:FT M f)(hF:FOk codes n f)(hx:x.since<=f.clock)(hs:SN M f x)(hk:∀e∈x.seen,0<=e.1/\e.1<=7){e:En}(he:e∈x.seen)(hv:Wqy f.buf e.1=e.2.2):
  lst (WQ f f.order.length) e.1=some e.2.1\/(lst (WQ f f.order.length) e.1=none/\M e.1 e.2.1):=by
 have hcl:=hF.clock;rcases hs e he with⟨a,b,c⟩|⟨a,b,c,d⟩
 .right;have hn:=Wrz (hv.trans a) λz hz=>(hF.bufE z hz).2.2.1;have:=hk e he;exact⟨h.non _ this.1 this.2 (Wk0 hn) _ (Xn _),c⟩
 .left;obtain⟨r,h1,h2⟩:=WsR hv a;obtain⟨h3,h4⟩:=Wgu h1;have e1:=h.buf r.2 h3 e.2.2.toNat (by omega) (by omega);have e2:=h.buf r.2 h3 f.order.length (by omega) (Xn _);rw[h4]at e1 e2;rw[c]at e1;rw[e2];exact e1.symm
theorem FV.put(hv:FV M codes f)(h:FT M f)(hk:k<f.kids.length)(hp:f.kids[k].phase≠3)(hs:g.start=f.start)(ho:g.order=f.order)(hb:g.buf=f.buf)(hg:g.kids=f.kids.set k y)(hr:g.regs=f.regs)
  (gg:Sim (codes.getD k []) f.regs y) (hown:∀(j:Nat) (hj:j<f.kids.length),j≠k->f.kids[j].phase=2->g.owner=(j:Int)+1) (hy:y.phase=2->g.owner=(k:Int)+1/\VL f y) (rG:y.phase≠2->y.pos=0):FV M codes g:=by
 have br:∀(j:Nat) (hj:j<g.kids.length) (hj':j<f.kids.length),g.kids[j]=if k=j then y else f.kids[j]:=λj hj hj'=>by simp only[hg,Xam]
 have hlen:g.kids.length=f.kids.length:=by rw[hg,Xy]
 have hne:∀j∈f.order,k≠j.toNat:=λj hj e=>by
  obtain⟨j0,j1,j2⟩:=h.ord j hj;subst e;exact hp j2
 have it:∀j∈f.order,g.kids.getD j.toNat {}=f.kids.getD j.toNat {}:=λj hj=>by
  rw[hg,Xac,Xac,Xdl (hne j hj)]
 have uV:∀n,WQ g n=WQ f n:=λn=>WgA hs (by rw[ho]) λj hj=>by unfold WmJ;rw[it j hj]
 refine⟨λj hj=>?_,λj hj dO=>?_,λj hj dO=>?_,λj hj dO=>?_,λi hi e he=>?_⟩
 .rw[br j hj (by omega),hr];split
  .rename_i e;subst e;exact gg
  .exact hv.sim j (by omega)
 .rw[br j hj (by omega)]at dO;split at dO
  .rename_i e;subst e;exact(hy dO).1
  .rename_i e;exact hown j (by omega) (λq=>e q.symm) dO
 .rw[br j hj (by omega)]at dO⊢;unfold VL;rw[hb];split at dO
  .rename_i e;rw[Wb e];exact(hy dO).2
  .rename_i e;rw[Wa e];exact hv.val j (by omega) dO
 .rw[br j hj (by omega)]at dO⊢;split at dO
  .rename_i e;rw[Wb e];exact rG dO
  .rename_i e;rw[Wa e];exact hv.pz j (by omega) dO
 .have ik:i<f.order.length:=by rw[←ho];exact hi
  have e1:g.order[i]=f.order[i]:=by simp only[ho]
  rw[e1,it _ (Xw ik)]at he;rw[uV];exact hv.mrg i ik e he
theorem Wss(hv:FV M codes f)(h:FT M f)(hF:FOk codes n f)(hk:k<f.kids.length)(hx:f.kids[k]=x)(h2:x.phase=2)(hpos:x.pos=x.seen.length):FV M codes (Fm.put (Waf f x k) k):=by
 have dV:=hF.kid k hk;rw[hx]at dV;have hcl:=hF.clock;have ml:(Fm.put (Waf f x k) k).kids=f.kids.set k {x with phase:=3,pos:=0,marks:=[]}:=rfl;have hlen:(Fm.put (Waf f x k) k).kids.length=f.kids.length:=by rw[ml,Xy]
 have kB:(Fm.put (Waf f x k) k).order=f.order++ [(k:Int)]:=rfl;have B4:(Fm.put (Waf f x k) k).regs=f.regs:=rfl;have rf:(Fm.put (Waf f x k) k).start=f.start:=rfl;have br:∀(j:Nat) (hj:j<(Fm.put (Waf f x k) k).kids.length) (hj':j<f.kids.length),(Fm.put (Waf f x k) k).kids[j]=if k=j then{x with phase:=3,pos:=0,marks:=[]}else f.kids[j]:=λj hj hj'=>by simp only[ml,Xam]
 have hne:∀j∈f.order,k≠j.toNat:=λj hj e=>by
  obtain⟨j0,j1,j2⟩:=h.ord j hj;subst e;rw[hx]at j2;omega
 have it:∀j∈f.order,(Fm.put (Waf f x k) k).kids.getD j.toNat {}=f.kids.getD j.toNat {}:=λj hj=>by
  rw[ml,Xac,Xac,Xdl (hne j hj)]
 have uV:∀n,n<=f.order.length->WQ (Fm.put (Waf f x k) k) n=WQ f n:=λn hn=>WgA rf (by rw[kB,Xcm hn]) λj hj=>by unfold WmJ;rw[it j hj]
 have du:∀(j:Nat) (hj:j<f.kids.length),j≠k->f.kids[j].phase≠2:=λj hj ka hp=>by
  have a:=hv.own j hj hp;have b:=hv.own k hk (by rw[hx];exact h2);omega
 have tX:∀(j:Nat) (hj:j<(Fm.put (Waf f x k) k).kids.length),(Fm.put (Waf f x k) k).kids[j].phase≠2:=λj hj=>by
  rw[br j hj (by omega)];split
  .show(3:Int)≠2;omega
  .rename_i e;exact du j (by omega) λq=>e q.symm
 refine⟨λj hj=>?_,λj hj dO=>Wj dO (tX j hj),λj hj dO=>Wj dO (tX j hj),λj hj _=>?_,λi hi e he=>?_⟩
 .rw[br j hj (by omega),B4];split
  .rename_i e;subst e;have:=hv.sim k hk;rw[hx]at this;exact this.fin (by omega) (by show(3:Int)≠0;omega) rfl rfl rfl rfl
  .exact hv.sim j (by omega)
 .rw[br j hj (by omega)];split
  .rfl
  .rename_i e;exact hv.pz j (by omega) (du j (by omega) λq=>e q.symm)
 .have ik:i<f.order.length+1:=by rw[kB]at hi;simpa using hi
  by_cases hlt:i<f.order.length
  .have e1:(Fm.put (Waf f x k) k).order[i]=f.order[i]:=by simp only[kB];rw[List.getElem_append_left hlt]
   rw[e1,it _ (Xw hlt)]at he;rw[uV i (by omega)];exact hv.mrg i hlt e he
  .have ie:i=f.order.length:=by omega
   subst ie;have e1:(Fm.put (Waf f x k) k).order[f.order.length]=(k:Int):=by simp only[kB];simp
   rw[e1,Xi,ml,Xac,Xdx hk]at he;have iu:e∈x.seen:=he;rw[uV _ (Xn _)];obtain⟨j,hj,B5⟩:=Xbc iu;have og:=hv.val k hk (by rw[hx];exact h2);rw[hx]at og;have:=og j (by omega) hj;rw[B5]at this;exact Wt6 h hF dV.since.2 (hx▸h.sn k hk) (λz hz=>(dV.seen z hz).1) iu this
theorem WuQ(hv:FV M codes f)(h:FT M f)(hF:FOk codes n f)(hk:k<f.kids.length)(aU:KC code)(aA:codes.getD k []=code):FV M codes (Wax m f k code):=by
 unfold Wax;split
 .exact hv
 .rw[Wwz hk];obtain⟨x,hx⟩:∃x,f.kids[k]=x:=⟨_,rfl⟩;have gg:=hv.sim k hk;have dV:=hF.kid k hk;have hown:=hv.own k hk;have ee:=hv.val k hk;have rG:=hv.pz k hk;rw[hx]at gg hown ee rG⊢;rw[hx,aA]at dV;rw[aA]at gg;have oth:∀(o:Int),(o=f.owner\/f.owner=0\/x.phase=2)->∀(j:Nat) (hj:j<f.kids.length),j≠k->f.kids[j].phase=2->o=(j:Int)+1:=λo ho j hj ka dO=>by
   have a:=hv.own j hj dO;rcases ho with rfl|h0|h2
   .exact a
   .omega
   .have:=hown h2;omega
  unfold WaN;by_cases h0:x.phase=0
  .rw[Wb h0];have hp:f.kids[k].phase≠3:=by rw[hx];omega
   have nB:(Wgw m f x code).1.start=f.start/\(Wgw m f x code).1.order=f.order/\(Wgw m f x code).1.buf=f.buf/\(Wgw m f x code).1.kids=f.kids/\(Wgw m f x code).1.regs=f.regs/\(Wgw m f x code).1.owner=f.owner/\(Wgw m f x code).2.phase≠2/\(Wgw m f x code).2.pos=0:=by
    have gi:=rG (by omega);unfold Wgw;split
    .exact⟨rfl,rfl,rfl,rfl,rfl,rfl,by show(1:Int)≠2;omega,gi⟩
    .simp only;split
     .unfold Wbn;cases WaF x.writes (opN code x.pc).2.2.1 with
      |some v=>exact⟨rfl,rfl,rfl,rfl,rfl,rfl,by show x.phase≠2;omega,gi⟩
      |none=>
       cases ent f.buf (opN code x.pc).2.2.1 with
       |some r=>
        simp only;split
        .exact⟨rfl,rfl,rfl,rfl,rfl,rfl,by show(0:Int)≠2;omega,rfl⟩
        .exact⟨rfl,rfl,rfl,rfl,rfl,rfl,by show x.phase≠2;omega,gi⟩
       |none=>
        simp only;generalize WM m f.rv _=pb;split
        .exact⟨rfl,rfl,rfl,rfl,rfl,rfl,by show x.phase≠2;omega,gi⟩
        .split<;>exact⟨rfl,rfl,rfl,rfl,rfl,rfl,by show x.phase≠2;omega,gi⟩
     .split
      .unfold Wel;split
       .exact⟨rfl,rfl,rfl,rfl,rfl,rfl,by show(1:Int)≠2;omega,gi⟩
       .exact⟨rfl,rfl,rfl,rfl,rfl,rfl,by show x.phase≠2;omega,gi⟩
      .repeat' split
       all_goals exact⟨rfl,rfl,rfl,rfl,rfl,rfl,by show x.phase≠2;omega,gi⟩
   obtain⟨a1,a2,a3,a4,a5,a6,a7,a8⟩:=nB;exact hv.put h hk hp a1 a2 a3 (by show Xg (Wgw m f x code).1.kids _ _=_;rw[a4]) a5 (by rw[aA];exact WuN aU hF dV h0 gg) (λj hj ka dO=>oth _ (.inl a6) j hj ka dO) (λq=>Wj q a7) λ_=>a8
  .rw[Wa h0];split
   .rename_i h1;have iG:x.phase≠2:=by omega
    have hp:f.kids[k].phase≠3:=by rw[hx];omega
    split
    .rename_i hz;exact hv.put h hk hp rfl rfl rfl rfl rfl (by rw[aA];exact gg.fin h0 (by show(2:Int)≠0;omega) rfl rfl rfl rfl) (oth _ (.inr (.inl hz))) (λ_=>⟨rfl,λj hj hjl=>by
      have hj:(j:Int)<x.pos:=hj;rw[rG iG]at hj;omega⟩) λq=>Wj rfl q
    .exact hv.put h hk hp rfl rfl rfl rfl rfl (by rw[aA];exact gg) (oth _ (.inl rfl)) (λq=>Wj q iG) rG
   .split
    .rename_i h1 h2;have hp:f.kids[k].phase≠3:=by rw[hx];omega
     split
     .rename_i hpos;exact Wss hv h hF hk hx h2 hpos
     .rename_i hpos;simp only;split
      .rename_i qV;refine hv.put h hk hp rfl rfl rfl rfl rfl (by rw[aA];exact gg.fin h0 h0 rfl rfl rfl rfl) (oth _ (.inl rfl)) (λ_=>⟨hown h2,λj hj hjl=>?_⟩) (λq=>Wj h2 q);have hj:(j:Int)<x.pos+1:=hj;have hjl:j<x.seen.length:=hjl;by_cases e:(j:Int)=x.pos
       .have:Wa0 x.seen x.pos (0,0,0)=x.seen[j]:=by
         unfold Wa0;rw[←e,Xi,Xac,Xp hjl];rfl
        rw[this]at qV;exact qV
       .exact ee h2 j (by omega) hjl
      .exact hv.put h hk hp rfl rfl rfl rfl rfl (by rw[aA];exact Sim.new hF.regs rfl rfl rfl rfl rfl) (oth _ (.inr (.inr h2))) (λq=>(by change (0:Int)=2 at q;omega)) λ_=>rfl
    .have e:Fm.put (f,x) k=f:=by
      unfold Fm.put;simp only;rw[←hx,Xap hk]
     rw[e];exact hv
end
end
section
def zWd:Wd:=(0,0,0)
def WN(m:Mm)(i:Int):Wd:=Wa0 m.2 i zWd
def Wru(m:Mm)(i:Int)(w:Wd):Mm:=(m.1,WjD m.2 i w)
variable{m:Mm}
theorem Wn8(hm:W3 m=true){i:Int}{w:Wd}(hw:Wrq m.1 w=true):W3 (Wru m i w)=true:=by
 obtain⟨h8,h0,h1,xT⟩:=WO hm;unfold W3 Wru WjD
 grind
theorem Wgq(hm:W3 m=true){i:Int}(hi:0<=i/\i<=7):Wrq m.1 (WN m i)=true:=Wtc hm hi
theorem WoI(hm:W3 m=true):W3 (tick m).1=true/\0<=(tick m).2/\(tick m).2<=1000000/\((tick m).2≠0->(tick m).2=m.1+1/\(tick m).1=(m.1+1,m.2))/\((tick m).2=0->(tick m).1=m):=by
 obtain⟨h8,h0,h1,xT⟩:=WO hm;unfold tick;split
 .refine⟨?_,by omega,by omega,λ_=>⟨rfl,rfl⟩,λh=>by omega⟩;unfold W3;simp only[Xj,Wh,Xah]
  grind [WfP]
 simp_all
end
section
section
variable{M:Int->Int->Prop}{Z:Pb->Prop}{N:Nat}{codes:List (List Opn)}{n:Int}{f g:Fm}{k:Nat}{code:List Opn}{m:Mm}{x y:Kd}{rv:Int}
def PK(Z:Pb->Prop)(code:List Opn)(f:Fm)(x:Kd):Prop:=x.busy=true->x.phase=0/\x.pc<code.length/\(opN code x.pc).1=5/\Z x.pb/\x.pb.1=(opN code x.pc).2.2.1/\WaF x.writes (opN code x.pc).2.2.1=none/\∀e∈f.buf,e.1=(opN code x.pc).2.2.1->x.since<e.2.2
def ZS(M:Int->Int->Prop)(Z Z':Pb->Prop)(m:Mm)(rv:Int):Prop:=∀(c:Int) (p:Pb),0<=c->c<=7->(p=(c,0,0,0)\/(Z p/\p.1=c))->
 (WM m rv p).2.1=4\/((WM m rv p).2.1=3/\M c (WM m rv p).2.2.2)\/((WM m rv p).2.1≠3/\Z' (WM m rv p)/\(WM m rv p).1=c)
theorem PK.no(h:x.busy=false):PK Z code f x:=λe=>by rw[h]at e;cases e
theorem Wxl(hz:ZS M Z Z m rv)(h:PK Z code f x)(ho:0<=(opN code x.pc).2.2.1/\(opN code x.pc).2.2.1<=7):RdM M m rv x (opN code x.pc).2.2.1:=by
 unfold RdM;have key:∀p,(p=((opN code x.pc).2.2.1,0,0,0)\/(Z p/\p.1=(opN code x.pc).2.2.1))->(WM m rv p).2.1=3->M (opN code x.pc).2.2.1 (WM m rv p).2.2.2:=λp hp h3=>by
  rcases hz _ p ho.1 ho.2 hp with a|⟨_,a⟩|⟨a,_⟩
  .omega
  .exact a
  .exact Wj h3 a
 by_cases hb:x.busy=true
 .rw[Wb hb];have:=h hb;exact key _ (.inr ⟨this.2.2.2.1,this.2.2.2.2.1⟩)
 .rw[Wa hb];exact key _ (.inl rfl)
theorem Wkd{o:Opn}:(Wbn m f x o).1.rv=f.rv/\(Wbn m f x o).1.regs=f.regs/\(Wbn m f x o).1.start=f.start/\(Wbn m f x o).1.kids=f.kids/\(Wbn m f x o).1.buf=f.buf:=by
 unfold Wbn;cases WaF x.writes o.2.2.1 with
 |some v=>exact⟨rfl,rfl,rfl,rfl,rfl⟩
 |none=>
  cases ent f.buf o.2.2.1 with
  |some r=>simp only;split<;>exact⟨rfl,rfl,rfl,rfl,rfl⟩
  |none=>
   simp only;generalize WM m f.rv _=pb;split
   .exact⟨rfl,rfl,rfl,rfl,rfl⟩
   .split<;>exact⟨rfl,rfl,rfl,rfl,rfl⟩
theorem Wrh:(WaN m f x k code).1.rv=f.rv/\(WaN m f x k code).1.regs=f.regs/\(WaN m f x k code).1.start=f.start/\(WaN m f x k code).1.kids=f.kids/\
  ((WaN m f x k code).1.buf=f.buf\/(WaN m f x k code).1.buf=WaR (f.clock+1) f.buf (WbF x.writes)):=by
 unfold WaN;split
 .unfold Wgw;split
  .exact⟨rfl,rfl,rfl,rfl,.inl rfl⟩
  .simp only;split
   .obtain⟨a,b,c,d,e⟩:=Wkd (m:=m) (f:=f) (x:=x) (o:=opN code x.pc);exact⟨a,b,c,d,.inl e⟩
   .repeat' split
    all_goals exact⟨rfl,rfl,rfl,rfl,.inl rfl⟩
 .split
  .split<;>exact⟨rfl,rfl,rfl,rfl,.inl rfl⟩
  .split
   .split
    .exact⟨rfl,rfl,rfl,rfl,.inr rfl⟩
    .simp only;split<;>exact⟨rfl,rfl,rfl,rfl,.inl rfl⟩
   .exact⟨rfl,rfl,rfl,rfl,.inl rfl⟩
theorem PK.buf(h:PK Z code f x)(hb:g.buf=f.buf\/∃rows,rows.Pairwise (λa b:Rw=>a.1<b.1)/\g.buf=WaR (f.clock+1) f.buf rows)(hF:Ris cfE f.buf)(hs:x.since<=f.clock):PK Z code g x:=λhx=>by
 obtain⟨a,b,c,d,e,f1,f2⟩:=h hx;refine⟨a,b,c,d,e,f1,λz hz hc=>?_⟩;rcases hb with hb|⟨rows,hr,hb⟩
 .rw[hb]at hz;exact f2 z hz hc
 .rw[hb]at hz;rcases(WiV hF hr).1 hz with⟨r,_,rfl⟩|⟨h1,_⟩
  .simp only;omega
  .exact f2 z h1 hc
theorem PK.same(h:PK Z code f x)(hb:y.busy=x.busy)(h1:x.busy=true->y.phase=x.phase/\y.pc=x.pc/\y.pb=x.pb/\y.writes=x.writes/\y.since=x.since):PK Z code f y:=λhy=>by
 rw[hb]at hy;obtain⟨a1,a2,a3,a4,a5⟩:=h1 hy;rw[a1,a2,a3,a4,a5];exact h hy
theorem WtU(hz:ZS M Z Z m f.rv)(aU:KC code)(dV:KOk code f.clock n x)(h:PK Z code f x):(WaN m f x k code).1.lost=true\/PK Z code f (WaN m f x k code).2:=by
 unfold WaN;by_cases h0:x.phase=0
 .rw[Wb h0];unfold Wgw;by_cases hp:x.pc>=code.length
  .rw[Wb hp];refine .inr (PK.no ?_);by_cases hb:x.busy=true
   .have:=h hb;omega
   .simpa using hb
  .rw[Wa hp];simp only;by_cases h5:(opN code x.pc).1=5
   .rw[Wb h5];have ax:0<=(opN code x.pc).2.2.1/\(opN code x.pc).2.2.1<=7:=by
     obtain⟨i,hi,e1,e2⟩:=Wdc (l:=code) dV.pc.1 (by omega);have:=(WpI (aU.ok i hi).1 (by rw[←e2];exact h5)).2;rw[←e2]at this;unfold W8 at this;simp at this;exact this
    unfold Wbn;cases ko:WaF x.writes (opN code x.pc).2.2.1 with
    |some v=>
     refine .inr (PK.no ?_);by_cases hb:x.busy=true
     .have:=(h hb).2.2.2.2.2.1;rw[ko]at this;cases this
     .simpa using hb
    |none=>
     cases he:ent f.buf (opN code x.pc).2.2.1 with
     |some r=>
      simp only;split
      .exact .inr (PK.no rfl)
      .rename_i hv;refine .inr (PK.no ?_);by_cases hb:x.busy=true
       .obtain⟨e1,e2⟩:=Wgu he;have:=(h hb).2.2.2.2.2.2 _ e1 e2;omega
       .simpa using hb
     |none=>
      simp only;have hZ:=hz (opN code x.pc).2.2.1 (if x.busy=true then x.pb else((opN code x.pc).2.2.1,0,0,0)) ax.1 ax.2 (by
       by_cases hb:x.busy=true
       .rw[Wb hb];have:=h hb;exact .inr ⟨this.2.2.2.1,this.2.2.2.2.1⟩
       .rw[Wa hb];exact .inl rfl)
      generalize WM m f.rv _=pb at*;by_cases h4:pb.2.1=4
      .rw[Wb h4];exact .inl rfl
      .rw[Wa h4];right;by_cases h3:pb.2.1=3
       .rw[Wb h3];exact PK.no rfl
       .rw[Wa h3];rcases hZ with q|⟨q,_⟩|⟨_,q1,q2⟩
        .exact Wj q h4
        .exact Wj q h3
        .exactλ_=>⟨h0,by show x.pc<_;omega,h5,q1,q2,ko,λe iu hc=>Wj hc (Wk0 he e iu)⟩
   .rw[Wa h5];have hb:x.busy=false:=by
     by_cases hb:x.busy=true
     .exact Wj (h hb).2.2.1 h5
     .simpa using hb
    split
    .refine .inr (PK.no ?_);unfold Wel;split<;>exact hb
    .repeat' split
     all_goals exact .inr (PK.no hb)
 .rw[Wa h0];have hb:x.busy=false:=by
   by_cases hb:x.busy=true
   .exact Wj (h hb).1 h0
   .simpa using hb
  split
  .split<;>exact .inr (PK.no hb)
  .split
   .split
    .exact .inr (PK.no hb)
    .simp only;split
     .exact .inr (PK.no hb)
     .exact .inr (PK.no rfl)
   .exact .inr (PK.no hb)
structure FP(M:Int->Int->Prop)(Z:Pb->Prop)(codes:List (List Opn))(f:Fm):Prop where
 ft:FT M f
 pk:f.lost=false->∀(k:Nat) (h:k<f.kids.length),PK Z (codes.getD k []) f f.kids[k]
theorem WuJ(h:FP M Z codes f)(hF:FOk codes n f)(hk:k<f.kids.length)(hm:W3 m=true)(aU:KC code)(aA:codes.getD k []=code)(hz:ZS M Z Z m f.rv):FP M Z codes (Wax m f k code)/\(Wax m f k code).rv=f.rv/\(Wax m f k code).regs=f.regs/\(Wax m f k code).start=f.start:=by
 by_cases bm:f.lost=true
 .have e:Wax m f k code=f:=by unfold Wax;rw[Wb bm]
  rw[e];exact⟨h,rfl,rfl,rfl⟩
 .have sD:f.lost=false:=by simpa using bm
  have e:Wax m f k code=Fm.put (WaN m f f.kids[k] k code) k:=by unfold Wax;rw[Wa bm,Wwz hk]
  obtain⟨k1,k2,k3,k4,k5⟩:=Wrh (m:=m) (f:=f) (x:=f.kids[k]) (k:=k) (code:=code);have dV:=hF.kid k hk;rw[aA]at dV;have jU:=h.pk sD k hk;rw[aA]at jU;refine⟨⟨Wup h.ft hF hk aU aA λh0 aR h5=>?_,λhl j hj=>?_⟩,by rw[e];exact k1,by rw[e];exact k2,by rw[e];exact k3⟩
  .have ax:0<=(opN code f.kids[k].pc).2.2.1/\(opN code f.kids[k].pc).2.2.1<=7:=by
    obtain⟨i,hi,e1,e2⟩:=Wdc dV.pc.1 aR;have:=(WpI (aU.ok i hi).1 (by rw[←e2];exact h5)).2;rw[←e2]at this;unfold W8 at this;simp at this;exact this
   exact Wxl hz jU ax
  .have cM:(WaN m f f.kids[k] k code).1.lost=false:=by rw[e]at hl;exact hl
   have ml:(Wax m f k code).kids=f.kids.set k (WaN m f f.kids[k] k code).2:=by rw[e];show Xg (WaN m f f.kids[k] k code).1.kids _ _=_;rw[k4]
   have B6:(Wax m f k code).buf=f.buf\/∃rows,rows.Pairwise (λa b:Rw=>a.1<b.1)/\(Wax m f k code).buf=WaR (f.clock+1) f.buf rows:=by
    rw[e];rcases k5 with k5|k5
    .exact .inl k5
    .exact .inr ⟨_,Wga _,k5⟩
   have hj':j<f.kids.length:=by rw[ml,Xy]at hj;exact hj
   have br:(Wax m f k code).kids[j]=if k=j then(WaN m f f.kids[k] k code).2 else f.kids[j]:=by simp only[ml,Xam]
   rw[br];split
   .rename_i ej;subst ej;rw[aA];rcases WtU (k:=k) hz aU dV jU with q|q
    .rw[cM]at q;cases q
    .by_cases hb:(WaN m f f.kids[k] k code).2.busy=true
     .have h0:=(q hb).1;have m9:f.kids[k].phase=0:=by
       by_cases m9:f.kids[k].phase=0
       .exact m9
       .exfalso;have nX:f.kids[k].busy=false:=by
         by_cases hb:f.kids[k].busy=true
         .exact Wj (jU hb).1 m9
         .simpa using hb
        have:(WaN m f f.kids[k] k code).2.busy=false:=by
         unfold WaN;rw[Wa m9];split
         .split<;>exact nX
         .split
          .split
           .exact nX
           .simp only;split
            .exact nX
            .rfl
          .exact nX
        rw[this]at hb;cases hb
      have B7:(Wax m f k code).buf=f.buf:=by
       rw[e];show(WaN m f f.kids[k] k code).1.buf=f.buf;unfold WaN;rw[Wb m9];unfold Wgw;split
       .rfl
       .simp only;split
        .exact Wkd.2.2.2.2
        .repeat' split
         all_goals rfl
      exact q.buf (.inl B7) hF.bufR (by
       have:=(Wgv (m:=m) hk hm aU hF aA).kid k (by rw[ml,Xy];exact hk);have e2:(Wax m f k code).kids[k]'(by rw[ml,Xy];exact hk)=(WaN m f f.kids[k] k code).2:=by simp only[ml,Xdg]
       rw[e2]at this;have hc:(Wax m f k code).clock=f.clock:=by
        rw[e];show(WaN m f f.kids[k] k code).1.clock=f.clock;unfold WaN;rw[Wb m9];unfold Wgw;split
        .rfl
        .simp only;split
         .unfold Wbn;cases WaF f.kids[k].writes (opN code f.kids[k].pc).2.2.1 with
          |some v=>rfl
          |none=>
           cases ent f.buf (opN code f.kids[k].pc).2.2.1 with
           |some r=>simp only;split<;>rfl
           |none=>
            simp only;generalize WM m f.rv _=pb;split
            .rfl
            .split<;>rfl
         .repeat' split
          all_goals rfl
       rw[hc]at this;exact this.since.2)
     .exact PK.no (by simpa using hb)
   .exact(h.pk sD j hj').buf B6 hF.bufR (hF.kid j hj').since.2
structure FA(M:Int->Int->Prop)(Z:Pb->Prop)(codes:List (List Opn))(f:Fm):Prop where
 ft:FT M f
 fv:FV M codes f
 pk:f.lost=false->∀(k:Nat) (h:k<f.kids.length),PK Z (codes.getD k []) f f.kids[k]
theorem Wt0(h:FA M Z codes f)(hF:FOk codes n f)(hk:k<f.kids.length)(hm:W3 m=true)(aU:KC code)(aA:codes.getD k []=code)(hz:ZS M Z Z m f.rv):FA M Z codes (Wax m f k code)/\(Wax m f k code).rv=f.rv/\(Wax m f k code).regs=f.regs/\(Wax m f k code).start=f.start:=by
 obtain⟨a,b⟩:=WuJ (k:=k) (code:=code) ⟨h.ft,h.pk⟩ hF hk hm aU aA hz;exact⟨⟨a.ft,WuQ h.fv h.ft hF hk aU aA,a.pk⟩,b⟩
theorem Wsq{regs:List Int}{writes:List Rw}(hr:Vals 4 regs):FA M Z codes (Wad rv regs writes codes.length):=by
 have hg:∀(j:Nat) (hj:j<(Wad rv regs writes codes.length).kids.length),(Wad rv regs writes codes.length).kids[j]={regs:=regs}:=λj hj=>Xbe ..;refine⟨Wto,⟨λj hj=>?_,λj hj h2=>?_,λj hj h2=>?_,λj hj _=>?_,λi hi=>Wj hi (Nat.not_lt_zero _)⟩,λ_ j hj=>?_⟩
 .rw[hg];exact Sim.new hr rfl rfl rfl rfl rfl
 .rw[hg]at h2;cases h2
 .rw[hg]at h2;cases h2
 .rw[hg]
 .rw[hg];exact PK.no rfl
end
end
section
section
variable{M:Int->Int->Prop}{Z:Pb->Prop}{N:Nat}{codes:List (List Opn)}{n:Int}{f g:Fm}{k:Nat}{code:List Opn}{m:Mm}{x y:Kd}{rv:Int}{base:List Int}
structure FZ(f:Fm):Prop where
 st:Weq f.start/\f.start.length<=300
 l3:f.kids.length<=3
 wr:∀x∈f.kids,Weq x.writes/\x.writes.length<=300
 sn:∀x∈f.kids,x.seen.length<=300/\0<=x.since/\x.since<=300/\∀e∈x.seen,0<=e.1/\e.1<=7
 ord:f.order.length<=300/\∀k∈f.order,0<=k/\k<f.kids.length
theorem FZ.of{nY:List Rw}(h:FT M f)(hF:FOk codes n f)(h3:codes.length<=3)(hcl:∀c∈codes,c.length<=24)(hs:f.start=WbF nY):FZ f:=by
 have hl:=hF.len;have hk:∀x∈f.kids,∃c:List Opn,c.length<=24/\KOk c f.clock n x:=λx hx=>by
  obtain⟨i,hi,rfl⟩:=List.mem_iff_getElem.1 hx;refine⟨_,?_,hF.kid i hi⟩;rw[Xac,Xp (by omega)];exact hcl _ (Xw _)
 have hcl:=hF.clock;have ho:=hF.len3 h3;refine⟨by rw[hs];exact⟨Wdg,by have:=Wfc nY;omega⟩,by omega,λx hx=>?_,λx hx=>?_,by omega,λk hk=>?_⟩
 .obtain⟨c,h1,h2⟩:=hk x hx;have:=h2.wl;have:=h2.pc;exact⟨h2.rows,by omega⟩
 .obtain⟨c,h1,h2⟩:=hk x hx;have:=h2.sl;have:=h2.pc;have:=h2.since;exact⟨by omega,by omega,by omega,λe he=>(h2.seen e he).1⟩
 .obtain⟨a,b,_⟩:=h.ord k hk;omega
theorem FZ.rows(h:FZ f)(n:Nat):Weq (WQ f n):=by
 unfold WQ;intro r hr;rcases Xm.1 hr with hr|hr
 .exact h.st.1 r hr
 .obtain⟨l,hl,hr⟩:=List.mem_flatten.1 hr;obtain⟨k,hk,rfl⟩:=Xx.1 hl;obtain⟨a,b⟩:=h.ord.2 k (Xbf hk);unfold WmJ at hr;rw[Wwz (k:=k.toNat) (by omega)]at hr;exact(h.wr _ (Xw _)).1 r hr
theorem Woa{i:Nat}(h:i<f.order.length):WQ f (i+1)=WQ f i++WmJ f f.order[i]:=by
 unfold WQ;rw[Xbh h,Xu,Xgn,Xbn];simp
theorem FZ.kid(h:FZ f){i:Nat}(hi:i<f.order.length):∃hk:(f.order[i]).toNat<f.kids.length,WmJ f f.order[i]=f.kids[(f.order[i]).toNat].writes/\0<=f.order[i]:=by
 obtain⟨a,b⟩:=h.ord.2 _ (Xw hi);have hk:(f.order[i]).toNat<f.kids.length:=by omega
 refine⟨hk,?_,a⟩;unfold WmJ;rw[Wwz hk]
end
end
section
def Wb2(s:Int):Int:=(s-1)/65536
def Wcc(k:Int):Int:=(7*k+3)%4
structure SlOk(l:List Int):Prop where
 len:l.length=16
 each:∀i (h:i<l.length),l[i]=0\/((1<=l[i]/\l[i]<=524288)/\Wcc (Wb2 l[i])=((i/4:Nat):Int))
 one:∀i j (hi:i<l.length) (hj:j<l.length),i<j->l[i]≠0->l[j]≠0->Wb2 l[i]≠Wb2 l[j]
def Wql(k s:Int):Bool:=decide (s>0)&&decide (Wb2 s=k)
def Wl9(l:List Int)(k:Int):Option (Nat×Int):=fnd (Wql k) l 0
def Wgl(l:List Int)(k:Int):Nat:=if Wa0 l (4*Wcc k) 0=0 then(4*Wcc k).toNat else(4*Wcc k).toNat+1
def WeQ(l:List Int)(k v:Int):List Int:=match Wl9 l k with
 |some r=>l.set r.1 (1+65536*k+v)
 |none=>l.set (Wgl l k) (1+65536*k+v)
def Waa(l:List Int)(k:Int):Int:=match Wl9 l k with
 |some r=>(r.2-1)%65536+1
 |none=>0
def WeD(l:List Int)(k:Int):List Int:=match Wl9 l k with
 |some r=>l.set r.1 0
 |none=>l
variable{N:Nat}{l:List Int}{k v:Int}
theorem Ww9{n:Int}(h:I64 n):IntKind.wrap .i64 n=n:=wrap_i64 h
theorem WmF{s:Int}(h:1<=s/\s<=524288):Zhq N s=ret (Wb2 s):=by
 unfold Zhq;rw[Wah (by unfold I64;omega)];have:WvD .i64 (s-1) 65536=Wb2 s:=by
  unfold WvD Wb2;rw[Xfj (by omega),Ww9 (by unfold I64;omega)]
 rw[this];rfl
theorem WlY{s:Int}(h:1<=s/\s<=524288):0<=Wb2 s/\Wb2 s<=7:=by unfold Wb2;omega
theorem WeH:Zba N k=ret (decide (0<=k)&&decide (k<=7)):=by simp[Zba,W5]
theorem Wku(hk:0<=k/\k<=7)(hv:0<=v/\v<=65535):Zie N k v=ret (1+65536*k+v):=by
 unfold Zie;rw[Wg5 (by unfold I64;omega),WH (a:=1) (by unfold I64;omega),WH (by unfold I64;omega)]
theorem WkJ(hk:0<=k/\k<=7):Zin N k=ret (Wcc k):=by
 unfold Zin;rw[WeH,Wg5 (by unfold I64;omega),WH (by unfold I64;omega)];have:WdF (7*k+3) 4=Wcc k:=by grind [WdF,Wcc,Int.tmod_eq_emod_of_nonneg]
 simp only[ret,Xd,Wf hk.1,Wf hk.2,Xbo,Xv,Wc,this];rfl
theorem SlOk.val(h:SlOk l){i:Nat}(hi:i<l.length)(hn:l[i]≠0):1<=l[i]/\l[i]<=524288:=by
 rcases h.each i hi with h0|h0
 .omega
 omega
theorem WeX(h:SlOk l)(hN:1048576<N):Zgh N l k=ret (match Wl9 l k with|some r=>(r.1:Int)|none=>-1):=by
 unfold Zgh Wl9;have hl:=h.len;have h1:=Wlq (l:=l) (p:=Wql k) (N:=N) (lp:=λn j=>Zdj N k l (λbi=>(some ((),(bi,())))) (λjL cn=>(some ((),((-1:Int),())))) n j) (K0:=λj=>some ((),(j,()))) (K1:=some ((),((-1:Int),()))) (by omega) (by omega)
  (λn j hj=>by
   simp only[Zdj,W2 hj,Wq hj,Wt hj,Wp (show j<4611686018427387904 by omega),We];unfold Wql;by_cases h0:l[j]>0
   .rw[WmF (h.val hj (by omega))]
    grind
   grind)
  (λn=>by simp[Zdj,Wat,Xn,Wc])
 rw[h1];cases fnd (Wql k) l 0<;>rfl
theorem Wbs(h:SlOk l)(hN:1048576<N):Zcb N l=ret true:=by
 have hl:=h.len;have lp:∀(d j n:Nat) (s:List Bool),j+d=16->d<n->s.length=8->(∀c:Nat,s.getD c false=true->∃i,∃hi:i<l.length,i<j/\l[i]≠0/\Wb2 l[i]=c)->
   Zb5 N l (some ((),(false,()))) (λBs uR wo=>(some ((),(true,())))) n (j:Int) s=ret true:=by
  intro d
  induction d with
  |zero=>
   intro j n s hj hn _ _;obtain⟨n,rfl⟩:∃n',n=n'+1:=⟨n-1,by omega⟩;have:j=l.length:=by omega
   subst this;simp[Zb5,Wat,Xn,Wc]
  |succ d ih=>
   intro j n s hj hn hs hb;obtain⟨n,rfl⟩:∃n',n=n'+1:=⟨n-1,by omega⟩;have hlt:j<l.length:=by omega
   simp only[Zb5,W2 hlt,Wq hlt,Wt hlt,Wp (show j<4611686018427387904 by omega),We,WC];by_cases h0:l[j]=0
   .rw[Wb h0];exact ih (j+1) n s (by omega) (by omega) hs λc hc=>by
     grind
   .rw[Wa h0];have hv:=h.val hlt h0;have hk:=WlY hv;have zW:Wcc (Wb2 l[j])=((j/4:Nat):Int):=by
     rcases h.each j hlt with h1|h1
     .omega
     omega
    have hq:WvD .i64 (j:Int) 4=((j/4:Nat):Int):=by
     unfold WvD;rw[Xfj (by omega),Ww9 (by unfold I64;omega)];omega
    have c8:s.getD (Xa (Wb2 l[j])) false=false:=by
     rw[Xbw];intro hc;obtain⟨i,hi,h1,h2,h3⟩:=hb _ hc;exact h.one i j hi hlt h1 h2 h0 (by omega)
    rw[Wku (k:=7) (v:=65535) (by omega) (by omega),WmF hv];simp only[ret,Xd,W5,show(1:Int)+65536*7+65535=524288 from rfl,Wf hv.1,Wf hv.2,Xbo,Xv,Wc,WkJ hk,zW,hq,bne_self_eq_false];rw[show inz (4:Int)=true from rfl];simp only[We];rw[show inb (Wb2 l[j]) 8=true by grind [inb],hs,Wf rfl,c8];simp only[Xbo,We,Wc];refine ih (j+1) n _ (by omega) (by omega) (by simp_all) λc hc=>?_;by_cases hcj:c=(Wb2 l[j]).toNat
    .grind
    .have:s.getD c false=true:=by
      grind
     grind
 unfold Zcb;rw[show((Wi l) !=(16:Int))=false by grind [Wi]];simp only[Wc];refine lp 16 0 N _ (by omega) (by omega) (by simp) λc hc=>?_;rw[Xac]at hc;by_cases h8:c<8
 .grind
 simp_all
theorem Wb0(h:SlOk l){r:Nat×Int}(hr:Wl9 l k=some r):∃hi:r.1<l.length,l[r.1]=r.2/\1<=r.2/\r.2<=524288/\Wb2 r.2=k/\Wcc k=((r.1/4:Nat):Int):=by
 obtain⟨h1,h2,h3,h4⟩:=WcS hr;rw[Xaz]at h3;rw[Xdt,Xp h3]at h4;injection h4 with h4;unfold Wql at h1;simp only[Xj,Wh]at h1;have h5:=h.val h3 (by omega);rcases h.each r.1 h3 with h6|h6
 .omega
 simp_all
theorem WgS(h:SlOk l)(hr:Wl9 l k=none)(i:Nat)(hi:i<l.length)(hn:l[i]≠0):Wb2 l[i]≠k:=by
 have:=WgH hr l[i] (Xw hi);unfold Wql at this;have h1:=h.val hi hn
 grind
theorem Wvf(k:Int):0<=Wcc k/\Wcc k<=3:=by unfold Wcc;omega
theorem Wjo(h:SlOk l)(hk:0<=k/\k<=7)(hr:Wl9 l k=none):∃hi:Wgl l k<l.length,l[Wgl l k]=0/\Wcc k=((Wgl l k/4:Nat):Int)/\(Wgl l k=(4*Wcc k).toNat\/(Wgl l k=(4*Wcc k).toNat+1/\Wa0 l (4*Wcc k) 0≠0)):=by
 have hl:=h.len;have hb:=Wvf k;unfold Wgl;have h1:(4*Wcc k).toNat<l.length:=by omega
 have hg:Wa0 l (4*Wcc k) 0=l[(4*Wcc k).toNat]:=Wn h1 _;by_cases h0:Wa0 l (4*Wcc k) 0=0
 .grind
 .simp only[Wa h0];have h2:(4*Wcc k).toNat+1<l.length:=by omega
  refine⟨h2,?_,by omega,.inr ⟨trivial,h0⟩⟩;refine Classical.byContradiction λhn=>?_;rw[hg]at h0;have a1:=WgS h hr _ h1 h0;have a2:=WgS h hr _ h2 hn;have a3:=h.one _ _ h1 h2 (by omega) h0 hn;have b1:=WlY (h.val h1 h0);have b2:=WlY (h.val h2 hn);rcases h.each _ h1 with c1|c1
  .exact h0 c1
  .rcases h.each _ h2 with c2|c2
   .exact hn c2
   grind [Wb2,Wcc]
theorem Wp8(hk:0<=k/\k<=7)(hv:0<=v/\v<=65535):(1<=1+65536*k+v/\1+65536*k+v<=524288)/\Wb2 (1+65536*k+v)=k:=by unfold Wb2;omega
theorem Wlx(h:SlOk l){i:Nat}(hi:i<l.length){s:Int}(hs:s=0\/((1<=s/\s<=524288)/\Wcc (Wb2 s)=((i/4:Nat):Int)))(ho:s≠0->∀j (hj:j<l.length),j≠i->l[j]≠0->Wb2 l[j]≠Wb2 s):SlOk (l.set i s) where
 len:=by rw[Xy];exact h.len
 each:=λj hj=>by
  rw[Xy]at hj;rw[Xam];by_cases he:i=j
  .simp_all
  .rw[Wa he];exact h.each j hj
 one:=λa b ha hb fT=>by
  rw[Xy]at ha hb;rw[Xam,Xam];by_cases h1:i=a
  .grind
  .rw[Wa h1];by_cases h2:i=b
   .grind
   .rw[Wa h2];exact h.one a b ha hb fT
theorem Wfs(h:SlOk l)(hk:0<=k/\k<=7)(hv:0<=v/\v<=65535):SlOk (WeQ l k v):=by
 obtain⟨k1,k2⟩:=Wp8 hk hv;unfold WeQ;cases hr:Wl9 l k with
 |some r=>
  obtain⟨hi,h1,h2,h3,h4,h5⟩:=Wb0 h hr;refine Wlx h hi (.inr ⟨k1,by simp_all⟩) λ_ j hj hne hn=>?_;rw[k2,←h4,←h1];rcases Nat.lt_or_gt_of_ne hne with hlt|hlt
  .exact h.one j r.1 hj hi hlt hn (by omega)
  .exactλe=>h.one r.1 j hi hj hlt (by omega) hn e.symm
 |none=>
  grind [Wjo,Wlx,WgS]
theorem WiE(h:SlOk l):SlOk (WeD l k):=by
 unfold WeD;cases hr:Wl9 l k with
 |some r=>
  obtain⟨hi,h1,_⟩:=Wb0 h hr;exact Wlx h hi (.inl rfl) λh=>Wj rfl h
 |none=>exact h
theorem Wff(l:List Int)(k:Int):0<=Waa l k/\Waa l k<=65536:=by
 unfold Waa;cases Wl9 l k<;>simp only<;>omega
theorem Wb5(h:SlOk l)(hk:0<=k/\k<=7)(hN:1048576<N):Zf3 N l k=some ((),((if Waa l k=0 then 0 else Waa l k-1),(decide (Waa l k≠0),()))):=by
 unfold Zf3 Waa;rw[Wbs h hN,WeH,WeX h hN];simp only[ret,Xd,Xv,Wc,Wf hk.1,Wf hk.2,Xbo];cases hr:Wl9 l k with
 |none=>rfl
 |some r=>
  obtain⟨hi,h1,h2,h3,h4,h5⟩:=Wb0 h hr;simp only[Wu (show¬((r.1:Int)<0) by omega),Wc,W9,Wf hi,We,Wt hi,h1];rw[Wah (by unfold I64;omega),WbE (by omega),Wa (by omega),Wf (by omega)];simp only[Int.add_sub_cancel];rfl
theorem Wda(h:SlOk l)(hk:0<=k/\k<=7)(hv:0<=v/\v<=65535)(hN:1048576<N):Zen N l k v=some ((),(WeQ l k v,(Waa l k,(true,())))):=by
 have hl:=h.len;unfold Zen;rw[WcM (by omega),Wbs h hN,WeH,WaC,WeX h hN,Wb5 h hk hN,Wku hk hv,WkJ hk];simp only[ret,Xd,Xv,Wc,Wf hk.1,Wf hk.2,Xbo,Wbp.2 hv];unfold WeQ Waa;cases hr:Wl9 l k with
 |some r=>
  obtain⟨hi,h1,h2,h3,h4,h5⟩:=Wb0 h hr;simp only[Wf (show((r.1:Int)>=0) by omega),We,W9,Wf hi,Xi];rw[Wa (by omega),WH (by unfold I64;omega)];simp_all
 |none=>
  simp only[show decide ((-1:Int)>=0)=false from rfl,Wc];have hb:=Wvf k;obtain⟨hi,h1,h2,h3⟩:=Wjo h hk hr;rw[Wg5 (by unfold I64;omega)];obtain⟨N',rfl⟩:∃N',N=N'+1+1:=⟨N-2,by omega⟩;have kD:4*Wcc k=(((4*Wcc k).toNat:Nat):Int):=by omega
  have jc:∀n,Zcu (N'+1+1) k v l (λlG jj=>(bif inb lG (Xb l)then(some ((),(Xg l (Xa lG) (1+65536*k+v),(0,(true,())))))else none)) (n+1) (Wgl l k:Int)=some ((),(l.set (Wgl l k) (1+65536*k+v),((0:Int),(true,())))):=λn=>by
   simp only[Zcu,Wq hi,Wt hi,h1,We,bne_self_eq_false,Wc];rw[Xi]
  rcases h3 with h3|⟨h3,h4⟩
  .grind
  .have hlt:(4*Wcc k).toNat<l.length:=by omega
   have hg:Wa0 l (4*Wcc k) 0=l[(4*Wcc k).toNat]:=Wn hlt _;rw[hg]at h4;have fo:=jc N';rw[kD];rw[Zcu];simp only[Wq hlt,Wt hlt,We];rw[show(l[(4*Wcc k).toNat] !=0)=true by grind,Wp (by omega),←h3]
   grind
theorem Wek(h:SlOk l)(hk:0<=k/\k<=7)(hN:1048576<N):Zio N l k=some ((),(WeD l k,(Waa l k,(true,())))):=by
 have hl:=h.len;unfold Zio;rw[WcM (by omega),Wbs h hN,WeH,WeX h hN,Wb5 h hk hN];simp only[ret,Xd,Xv,Wc,Wf hk.1,Wf hk.2,Xbo];unfold WeD Waa;cases hr:Wl9 l k with
 |some r=>
  obtain⟨hi,h1,h2,h3,h4,h5⟩:=Wb0 h hr;simp only[Wu (show¬((r.1:Int)<0) by omega),We,Wc,W9,Wf hi,Xi];rw[Wa (by omega),WH (by unfold I64;omega)];simp_all
 |none=>rfl
end
section
abbrev Shf:=List Int×Int
abbrev Un:=Int×Int×Int
structure ShOk(s:Shf):Prop where
 slots:SlOk s.1
 cnt:0<=s.2/\s.2<=65535
def UnV(u:Un):Prop:=(u.1=1/\(0<=u.2.1/\u.2.1<=7)/\0<=u.2.2/\u.2.2<=65535)\/(u.1=2/\(0<=u.2.1/\u.2.1<=7)/\u.2.2=0)\/(u.1=3/\u.2.1=0/\0<=u.2.2/\u.2.2<=65535)
def WdB(s:Shf)(u:Un):Shf:=
 if u.1=1 then(WeQ s.1 u.2.1 u.2.2,s.2)else if u.1=2 then(WeD s.1 u.2.1,s.2)else if u.1=3 then(s.1,(s.2-u.2.2+65536)%65536)else s
def WeK(k e:Int):Un:=if e=0 then(2,k,0)else(1,k,e-1)
def W0(s:Shf)(o:Opn)(r:List Int):Shf×List Int×Un:=
 if o.1=12 then((WeQ s.1 o.2.1 (Wa0 r o.2.2.1 0),s.2),WjD r o.2.2.2 (Waa s.1 o.2.1%65536),WeK o.2.1 (Waa s.1 o.2.1))else
 if o.1=13 then(s,WjD r o.2.1 (Waa s.1 o.2.2.1%65536),(0,0,0))else
 if o.1=14 then((WeD s.1 o.2.1,s.2),WjD r o.2.2.1 (Waa s.1 o.2.1%65536),WeK o.2.1 (Waa s.1 o.2.1))else
 if o.1=15 then((s.1,(s.2+Wa0 r o.2.1 0)%65536),r,(3,0,Wa0 r o.2.1 0))else
 (s,WjD r o.2.1 s.2,(0,0,0))
def WaU(o:Opn):Int×Int:=
 if o.1=12\/o.1=14 then(o.2.1,2)else if o.1=13 then(o.2.2.1,1)else if o.1=15 then(8,1)else(8,2)
section
variable{o:Opn}
theorem Wn6(h:WcO o=true)(h5:o.1=12):Weg o.2.1=true/\Wae o.2.2.1=true/\Wae o.2.2.2=true:=by
 obtain⟨k,a,b,c⟩:=o;simp only at h5;subst h5;have:(Weg a&&Wae b&&Wae c)=true:=h;simp_all
theorem Ws6(h:WcO o=true)(h5:o.1=13):Wae o.2.1=true/\Weg o.2.2.1=true:=by
 obtain⟨k,a,b,c⟩:=o;simp only at h5;subst h5;have:(Wae a&&Weg b&&(c==(0:Int)))=true:=h;simp_all
theorem Wob(h:WcO o=true)(h5:o.1=14):Weg o.2.1=true/\Wae o.2.2.1=true:=by
 obtain⟨k,a,b,c⟩:=o;simp only at h5;subst h5;have:(Weg a&&Wae b&&(c==(0:Int)))=true:=h;simp_all
theorem Ww7(h:WcO o=true)(h5:o.1=15):Wae o.2.1=true:=by
 obtain⟨k,a,b,c⟩:=o;simp only at h5;subst h5;have:(Wae a&&(b==(0:Int))&&(c==(0:Int)))=true:=h;simp_all
theorem Wvh(h:WcO o=true)(h5:o.1=16):Wae o.2.1=true:=by
 obtain⟨k,a,b,c⟩:=o;simp only at h5;subst h5;have:(Wae a&&(b==(0:Int))&&(c==(0:Int)))=true:=h;simp_all
end
theorem Wbh{x:Int}:Weg x=true↔0<=x/\x<=7:=by unfold Weg;simp
variable{N:Nat}{s:Shf}{u:Un}{o:Opn}{r:List Int}
theorem Wmx{k e:Int}(hk:0<=k/\k<=7)(he:0<=e/\e<=65536):UnV (WeK k e):=by
 unfold WeK UnV
 grind
theorem Wqj(h:ShOk s)(hu:UnV u):ShOk (WdB s u):=by
 unfold WdB;rcases hu with⟨h1,h2,h3⟩|⟨h1,h2,h3⟩|⟨h1,h2,h3⟩
 .rw[Wb h1];exact⟨Wfs h.slots h2 h3,h.cnt⟩
 .rw[Wa (by omega),Wb h1];exact⟨WiE h.slots,h.cnt⟩
 .rw[Wa (by omega),Wa (by omega),Wb h1];exact⟨h.slots,by omega⟩
theorem WqW(h:ShOk s)(hr:Vals 4 r)(ho:WcO o=true)(d9:12<=o.1):ShOk (W0 s o r).1/\Vals 4 (W0 s o r).2.1/\((W0 s o r).2.2.1≠0->UnV (W0 s o r).2.2)/\((W0 s o r).2.2.1=0->(W0 s o r).1=s):=by
 have mZ:=Wjx ho;unfold W0;split
 .obtain⟨a,b,c⟩:=Wn6 ho ‹_›;rw[Wbh]at a;have hg:=Wff s.1 o.2.1;exact⟨⟨Wfs h.slots a (hr.get _),h.cnt⟩,hr.set _ (by omega),λ_=>Wmx a hg,λh=>by unfold WeK at h;split at h<;>(simp_all)⟩
 .split
  .exact⟨h,hr.set _ (by omega),λh=>Wj rfl h,λ_=>rfl⟩
  .split
   .obtain⟨a,b⟩:=Wob ho ‹_›;rw[Wbh]at a;have hg:=Wff s.1 o.2.1;exact⟨⟨WiE h.slots,h.cnt⟩,hr.set _ (by omega),λ_=>Wmx a hg,λh=>by unfold WeK at h;split at h<;>(simp_all)⟩
   .split
    .have:=hr.get o.2.1.toNat;have:=h.cnt;refine⟨⟨h.slots,by grind⟩,hr,λ_=>.inr (.inr ⟨rfl,rfl,hr.get _⟩),λh=>by simp_all⟩
    .exact⟨h,hr.set _ h.cnt,λh=>Wj rfl h,λ_=>rfl⟩
theorem WeB(h:ShOk s)(hN:1048576<N):Zjq N s=ret true:=by
 unfold Zjq;rw[Wbs h.slots hN,WaC,Wbp.2 h.cnt];rfl
theorem Wgx(h:ShOk s):Zhs N s=ret s:=by
 unfold Zhs;rw[WcM (by have:=h.slots.len;omega)];rfl
theorem WjL(hu:UnV u):Zm5 N u=ret true:=by
 unfold Zm5;simp only[WC,WeH,WaC,ret,Xd];rcases hu with⟨h1,h2,h3⟩|⟨h1,h2,h3⟩|⟨h1,h2,h3⟩
 .simp_all [Wa,Wb,Wbp]
 .simp_all
 simp_all [Wa,Wb,Wbp]
theorem Wjb(h:ShOk s)(hu:UnV u)(hN:1048576<N):Zmh N s u=some ((),(WdB s u,(true,()))):=by
 unfold Zmh WdB;rw[Wgx h,WjL hu];simp only[ret,Xd];rw[WeB h hN];simp only[ret,Xd,Xv,Wc,WC];have hc:=h.cnt;rcases hu with⟨h1,h2,h3⟩|⟨h1,h2,h3⟩|⟨h1,h2,h3⟩
 .rw[Wb h1,Wb h1,Wda h.slots h2 h3 hN];rfl
 .rw[Wa (by omega),Wb h1,Wa (by omega),Wb h1,Wek h.slots h2 hN];rfl
 .rw[Wa (by omega),Wa (by omega),Wb h1,Wa (by omega),Wa (by omega),Wb h1];rw[Wah (by unfold I64;omega),WH (by unfold I64;omega),WbE (by omega)];rfl
theorem WfR{k e:Int}(he:0<=e/\e<=65536):Zku N k e=ret (WeK k e):=by
 unfold Zku WeK;rw[WC,Wah (by unfold I64;omega)];split<;>rfl
theorem Wlj(ho:WcO o=true)(d9:12<=o.1):Zj3 N o=some ((),((WaU o).1,((WaU o).2,()))):=by
 have mZ:=Wjx ho;unfold Zj3 WaU;rw[Wfq,ho];simp only[ret,Xd,Xv,Wc,WC];have:o.1=12\/o.1=13\/o.1=14\/o.1=15\/o.1=16:=by omega
 rcases this with h|h|h|h|h<;>simp[h]
theorem WiU(h:ShOk s)(hr:Vals 4 r)(ho:WcO o=true)(d9:12<=o.1)(hN:1048576<N):
  Zmi N s o r=some ((),((W0 s o r).1,((W0 s o r).2.1,((W0 s o r).2.2,(true,()))))):=by
 have mZ:=Wjx ho;have dN:=hr.len;have hc:=h.cnt;unfold Zmi W0;rw[Wgx h,WcM (by omega)];simp only[ret,Xd];rw[WeB h hN,Wdq (by omega) hN,WbL.2 hr,Wgs,Wr4 ho d9];simp only[ret,Xd,Xv,Wc,bne_self_eq_false,WC,show inz (65536:Int)=true from rfl,We,WA,Xy];by_cases e1:o.1=12
 .obtain⟨a,b,c⟩:=Wn6 ho e1;rw[Wbh]at a;rw[Wb e1,Wb e1,WZ b dN,WZ c dN];have hg:=Wff s.1 o.2.1;rw[Wda h.slots a (hr.get _) hN];simp only[We,Xd,WfR hg,ret];rw[WbE (by omega)];rfl
 .rw[Wa e1,Wa e1];by_cases e2:o.1=13
  .obtain⟨a,b⟩:=Ws6 ho e2;rw[Wbh]at b;have hg:=Wff s.1 o.2.2.1;rw[Wb e2,Wb e2,WZ a dN,Wb5 h.slots b hN];simp only[We,Xd];by_cases hz:Waa s.1 o.2.2.1=0
   .rw[hz];rfl
   .rw[Wa hz,Wf hz,WH (by unfold I64;omega),WbE (by omega),Int.sub_add_cancel];simp only[We,Xcq];rfl
  .rw[Wa e2,Wa e2];by_cases e3:o.1=14
   .obtain⟨a,b⟩:=Wob ho e3;rw[Wbh]at a;have hg:=Wff s.1 o.2.1;rw[Wb e3,Wb e3,WZ b dN,Wek h.slots a hN];simp only[We,Xd,WfR hg,ret];rw[WbE (by omega)];rfl
   .rw[Wa e3,Wa e3];by_cases e4:o.1=15
    .have a:=Ww7 ho e4;have hv:=hr.get o.2.1.toNat;rw[Wb e4,Wb e4,WZ a dN];simp only[We];rw[WH (by unfold I64;omega),WbE (by omega)];rfl
    .have a:=Wvh ho (by omega);rw[Wa e4,Wa e4,WZ a dN];rfl
def WnB(l:List Int):Bool:=decide (l.length=8)&&l.all λx=>decide (0<=x)&&decide (x<=65536)
structure ThOk(t:List Int×List Int×Int):Prop where
 cells:Vals 8 t.1
 map:t.2.1.length=8/\∀x∈t.2.1,0<=x/\x<=65536
 cnt:0<=t.2.2/\t.2.2<=65535
def Wrt(t:List Int×List Int×Int):Bool:=WdL t.1&&(WnB t.2.1&&Wby t.2.2)
theorem WpL{t:List Int×List Int×Int}:Wrt t=true↔ThOk t:=by
 unfold Wrt WnB;simp only[Xj,Wgp,Wbp,Wh,Xah];exact⟨λh=>⟨h.1,h.2.1,h.2.2⟩,λh=>⟨h.cells,h.map,h.cnt⟩⟩
theorem Wja{l:List Int}(hl:l.length<=1048576)(hN:1048576<N):Zhp N l=ret (WnB l):=by
 unfold Zhp WnB;have h1:=WR (l:=l) (V:=Unit) (R:=Unit×Kq) (lp:=λn j v=>Zea N l (some ((),(false,()))) (λaX aT=>(some ((),((Wi l)==(8:Int),())))) n j) (n:=N) (by omega)
  (body:=λj x v k=>bif !(decide (0<=x)&&decide (x<=65536))then some ((),(false,()))else k v) (K:=λ_ v=>some ((),((Wi l)==(8:Int),())))
  (λn i v hi=>by simp only[Zea,W2 hi,Wq hi,Wt hi,Wp (show i<4611686018427387904 by omega),We,W5,ret,Xd])
  (λn v=>by simp[Zea,Wat,Xn,Wc]) ()
 refine h1.trans ?_;rw[WaK (p:=λx=>!(decide (0<=x)&&decide (x<=65536))) (E:=λ_=>some ((),(false,()))) l 0 () (λj x v k _=>rfl),WcP];have e:((Wi l)==(8:Int))=decide (l.length=8):=by
  grind [Wi]
 rw[e];cases l.all _<;>cases decide (l.length=8)<;>rfl
theorem WfD{t:List Int×List Int×Int}(h1:t.1.length<=1048576)(h2:t.2.1.length<=1048576)(hN:1048576<N):Zil N t=ret (Wrt t):=by
 unfold Zil Wrt;rw[Wh2 h1 hN,Wja h2 hN,WaC];cases WdL t.1<;>cases WnB t.2.1<;>rfl
def Wc4:List Int->Nat->List Int->List Int
 | [],_,l=>l
 |x::m,k,l=>Wc4 m (k+1) (if x>0 then WeQ l k (x-1)else l)
def WiL(m:List Int):List Int:=Wc4 m 0 (Xo 16 0)
theorem WgG:SlOk (Xo 16 0) where
 len:=by simp
 each:=λi h=>.inl (Xbe ..)
 one:=λi j hi hj _ h=>Wj (Xbe ..) h
theorem Wjh:∀(m:List Int) (k:Nat) (l:List Int),k+m.length<=8->(∀x∈m,0<=x/\x<=65536)->SlOk l->SlOk (Wc4 m k l)
 | [],_,l,_,_,h=>h
 |x::m,k,l,hk,hx,h=>by
  have h0:=hx x (Xk ..);rw[Xr]at hk;refine Wjh m (k+1) _ (by omega) (λy hy=>hx y (Xf _ hy)) ?_
  grind [Wfs]
theorem WrU{m:List Int}(hl:m.length=8)(hx:∀x∈m,0<=x/\x<=65536):SlOk (WiL m):=Wjh m 0 _ (by omega) hx WgG
theorem Whv{m:List Int}(hl:m.length=8)(hx:∀x∈m,0<=x/\x<=65536)(hN:1048576<N):Zbb N m=ret (WiL m):=by
 have hm:WnB m=true:=by simp_all [WnB,Xj,Wh,Xah]
 unfold Zbb WiL;rw[Wja (by omega) hN,hm];simp only[ret,Xd,Xv,Wc];rw[show Zoo N=ret (Xo 16 0)from rfl];simp only[ret,Xd];have lp:∀(d j n:Nat) (l:List Int),j+d=m.length->d<n->SlOk l->Zbl N m (λjL cn dF=>(some ((),(dF,())))) n (j:Int) l=ret (Wc4 (m.drop j) j l):=by
  intro d
  induction d with
  |zero=>
   intro j n l hj hn hs;obtain⟨n,rfl⟩:∃n',n=n'+1:=⟨n-1,by omega⟩;have:j=m.length:=by omega
   subst this;simp[Zbl,Wat,Xn,Wc,Xcn,Wc4]
  |succ d ih=>
   intro j n l hj hn hs;obtain⟨n,rfl⟩:∃n',n=n'+1:=⟨n-1,by omega⟩;have hlt:j<m.length:=by omega
   have hb:=hx m[j] (Xw hlt);simp only[Zbl,W2 hlt,Wq hlt,Wt hlt,Wp (show j<4611686018427387904 by omega),We,WaP];rw[List.drop_eq_getElem_cons hlt,Wc4];by_cases h0:m[j]>0
   .rw[Wb h0,Wb h0,Wah (by unfold I64;omega),Wda hs (by omega) (by omega) hN]
    grind [Wfs]
   grind
 have:=lp m.length 0 N (Xo 16 0) (by omega) (by omega) WgG;simp_all
end
section
abbrev Hd:=Int×Int×Int
def HdV(h:Hd):Prop:=(1<=h.1/\h.1<=9)/\(0<=h.2.1/\h.2.1<=8)/\1<=h.2.2/\h.2.2<=2
def HdB(a b:Hd):Prop:=cfH a b<0/\(a.2.1=b.2.1->a.2.2≠2/\b.2.2≠2)
structure HOk(l:List Hd):Prop where
 val:∀h∈l,HdV h
 up:l.Pairwise HdB
theorem HOk.ris{l:List Hd}(h:HOk l):Ris cfH l:=h.up.imp λh=>h.1
def Wea(l:List Hd)(who:Int):List Int:=(l.filter λh=>decide (h.1=who)).map (·.2.1)
def blk(who what mode:Int)(h:Hd):Bool:=decide (h.2.1=what)&&(decide (h.1≠who)&&(decide (mode=2)||decide (h.2.2=2)))
def WgW(l:List Hd)(who what mode:Int):List Int:=(l.filter (blk who what mode)).map (·.1)
def Wus(who what:Int)(h:Hd):Bool:=decide (h.1=who)&&decide (h.2.1=what)
def Wrs(l:List Hd)(who what:Int):Int:=match fnd (Wus who what) l 0 with
 |some r=>r.2.2.2
 |none=>0
def Wri(a b:Int):Int:=if a<=b then b else a
def Whf(l:List Hd)(who what mode:Int):List Hd:=Wes cfH l (who,what,Wri (Wrs l who what) mode)
def WaY(l:List Hd)(who what mode:Int):Option (List Hd):=if WgW l who what mode= []then some (Whf l who what mode)else none
def Wab(l:List Hd)(who:Int):List Hd:=l.filter λh=>!(h.1==who)
theorem Wdt{α:Type}{a b:Int}{x y:α}:(bif a !=b then x else y)=if a=b then y else x:=by
 simp_all
theorem Www{α:Type}{cf:α->α->Int}(hc:Lin cf){L M:List α}(hL:Ris cf L)(hM:Ris cf M)(hm:∀x,x∈L↔x∈M):L=M:=by
 rw[←Woq hc hM (hL.imp λh=>.inl h) hm,Woq hc hL (hL.imp λh=>.inl h) λx=>Iff.rfl]
theorem apH{a b:Hd}:Ap cfH a b↔¬(a.1=b.1/\a.2.1=b.2.1):=by grind [Ap,Wce]
theorem WmL{a b c d:Hd}(h1:a.1=c.1)(h2:a.2.1=c.2.1)(h3:b.1=d.1)(h4:b.2.1=d.2.1):cfH a b<0↔cfH c d<0:=by simp_all [Wce]
variable{N:Nat}{l:List Hd}{who what mode:Int}
theorem Wu2(h:Ris cfH l){i:Nat}(hi:i<l.length){e:Hd}(h1:e.1=l[i].1)(h2:e.2.1=l[i].2.1):Ris cfH (l.set i e):=by
 unfold Ris at*;rw[Xau]at*;intro a b ha hb fT;rw[Xy]at ha hb;rw[Xam,Xam];have:=h a b ha hb fT;by_cases c1:i=a
 .subst c1;rw[Wb rfl,Wa (by omega)];exact(WmL h1 h2 rfl rfl).2 this
 .rw[Wa c1];by_cases c2:i=b
  .subst c2;rw[Wb rfl];exact(WmL rfl rfl h1 h2).2 this
  simp_all
theorem Wv8(h:Ris cfH l){i:Nat}(hi:i<l.length){e:Hd}(h1:e.1=l[i].1)(h2:e.2.1=l[i].2.1):l.set i e=Wes cfH l e:=by
 refine Www Wo3 (Wu2 h hi h1 h2) (WcK Wo3 h) λx=>?_;rw[(WmK Wo3 (h.imp λh=>.inl h) hi (by grind [apH])).2 x,WbA Wo3 h]
theorem Wv6{h:Hd}:(decide (1<=h.1)&&decide (h.1<=9))=true/\(decide (0<=h.2.1)&&decide (h.2.1<=8))=true/\(decide (1<=h.2.2)&&decide (h.2.2<=2))=true↔HdV h:=by
 simp[HdV,Xj,Wh]
theorem WfE{h:Hd}(hv:HdV h):Zif N h.1 h.2.1 h.2.2=ret true:=by
 obtain⟨a,b,c⟩:=Wv6.2 hv;simp_all [Zif,W5,ret,Xd,We]
theorem WmM{a b:Hd}(ha:HdV a)(hb:HdV b):Zh1 N a b=ret (cfH a b):=by
 obtain⟨a1,a2,a3⟩:=ha;obtain⟨b1,b2,b3⟩:=hb
 grind [Zh1,cfH,Wah,I64]
theorem WbX(h:HOk l)(hl:l.length<=1048576)(hN:1048576<N):Zeo N l=ret true:=by
 have lp:∀(d j n:Nat),j+d=l.length->d<n->Zar N l (some ((),(false,()))) (λjL cn=>(some ((),(true,())))) n (j:Int)=ret true:=by
  intro d
  induction d with
  |zero=>
   intro j n hj hn;obtain⟨n,rfl⟩:∃n',n=n'+1:=⟨n-1,by omega⟩;simp_all [Zar,Wat,Xn,Wc]
  |succ d ih=>
   intro j n hj hn;obtain⟨n,rfl⟩:∃n',n=n'+1:=⟨n-1,by omega⟩;have hlt:j<l.length:=by omega
   have hv:=h.val l[j] (Xw hlt);have de:=ih (j+1) n (by omega) (by omega);simp only[Zar,W2 hlt,Wq hlt,Wt hlt,Wp (show j<4611686018427387904 by omega),We,WfE hv,ret,Xd,Xv,Wc,de];by_cases h0:j=0
   .grind
   .have e1:decide ((j:Int)>0)=true:=by simp;omega
    have e2:Ws .i64 (j:Int) 1=((j-1:Nat):Int):=by grind [Wah,I64]
    have bs:j-1<l.length:=by omega
    have hw:=h.val l[j-1] (Xw bs);have hb:=Xau.1 h.up (j-1) j bs hlt (by omega);simp only[e1,e2,We,Wq bs,Wt bs,WmM hw hv,ret,Xd];rw[Wu (show¬(cfH l[j-1] l[j]>=0) by have:=hb.1;omega)];simp only[Wc,WC];by_cases hs:l[j-1].2.1=l[j].2.1
    .rw[Wb hs,Wa (hb.2 hs).2,Wa (hb.2 hs).1]
    simp_all
 exact lp l.length 0 N (by omega) (by omega)
theorem Wi6{α β R:Type}{body:Int->α->List β->(List β->Option R)->Option R}{K:Int->List β->Option R}{p:α->Bool}{f:α->β}:∀(l:List α) (j:Nat) (o:List β),o.length+l.length<=2000000->
  (∀(j:Nat) x (v:List β) k,x∈l->v.length<=2000000->body j x v k=bif p x then k (v++ [f x])else k v)->Wcf body K l j o=K ((j+l.length:Nat):Int) (o++(l.filter p).map f)
 | [],j,o,_,_=>by simp[Wcf]
 |x::l,j,o,h,hb=>by
  rw[Xr]at h;rw[Wcf,hb j x o _ (Xk ..) (by omega),Xbj];have ih:=λo' iU=>Wi6 (body:=body) (K:=K) (p:=p) (f:=f) l (j+1) o' iU λj y v k hy=>hb j y v k (Xf _ hy)
  grind
theorem Wjy(h:HOk l)(hl:l.length<=1048576)(hN:1048576<N):Zf4 N l who=ret (Wea l who):=by
 unfold Zf4 Wea;rw[WbX h hl hN];simp only[ret,Xd,Xv,Wc];have h1:=WR (l:=l) (V:=List Int) (R:=Unit×(List Int×Unit)) (lp:=λn j v=>Zb6 N who l (λaT bi bH=>(some ((),(bH,())))) n j v) (n:=N) (by omega)
  (body:=λj x v k=>bif x.1==who then(bif WB (v.length+ [x.2.1].length)then k (Xe v [x.2.1])else none)else k v) (K:=λ_ v=>ret v)
  (λn i v hi=>by simp only[Zb6,W2 hi,Wq hi,Wt hi,Wp (show i<4611686018427387904 by omega),We])
  (λn v=>by simp[Zb6,Wat,Xn,Wc]) []
 refine h1.trans ?_;rw[Wi6 (p:=λh=>decide (h.1=who)) (f:=(·.2.1)) l 0 [] (by simp;omega) (λj x v k _ hv=>by rw[Wx (by simp;omega)];simp only[WC,WaP,We,Xaw])];rfl
theorem WjQ(h:HOk l)(hm:1<=mode/\mode<=2)(hl:l.length<=1048576)(hN:1048576<N):Zig N l who what mode=ret (WgW l who what mode):=by
 unfold Zig WgW;rw[WbX h hl hN];simp only[ret,Xd,Xv,Wc,W5,Wf hm.1,Wf hm.2,Xbo];have h1:=WR (l:=l) (V:=List Int) (R:=Unit×(List Int×Unit)) (lp:=λn j v=>Za6 N who what mode l (λeU je aM=>(some ((),(aM,())))) n j v) (n:=N) (by omega)
  (body:=λj x v k=>bif x.2.1==what then(bif x.1 !=who then(bif mode==2 then(bif WB (v.length+ [x.1].length)then k (Xe v [x.1])else none)else(bif x.2.2==2 then(bif WB (v.length+ [x.1].length)then k (Xe v [x.1])else none)else k v))else k v)else k v) (K:=λ_ v=>ret v)
  (λn i v hi=>by simp only[Za6,W2 hi,Wq hi,Wt hi,Wp (show i<4611686018427387904 by omega),We])
  (λn v=>by simp[Za6,Wat,Xn,Wc]) []
 refine h1.trans ?_;rw[Wi6 (p:=blk who what mode) (f:=(·.1)) l 0 [] (by simp;omega) (λj x v k _ hv=>by
  rw[Wx (by simp;omega)];unfold blk;simp only[WC,Wdt,We,Xaw];by_cases c1:x.2.1=what<;>by_cases c2:x.1=who<;>by_cases c3:mode=2<;>by_cases c4:x.2.2=2<;>simp[c1,c2,c3,c4])]
 rfl
theorem Wwd(h:HOk l):0<=Wrs l who what/\Wrs l who what<=2:=by
 unfold Wrs;cases hf:fnd (Wus who what) l 0 with
 |none=>simp
 |some r=>
  have:=WcS hf;have:=h.val r.2 (Xat this.2.2.2)
  grind [HdV]
theorem Wi9(h:HOk l)(hw:1<=who/\who<=9)(ht:0<=what/\what<=8)(hm:1<=mode/\mode<=2)(hl:l.length<=1048000)(hN:1048576<N):
  Zhi N l who what mode=some ((),((WaY l who what mode).getD l,((WaY l who what mode).isSome,()))):=by
 unfold Zhi WaY;have mn:Zec N l=ret l:=by grind [Zec,Wx]
 have B8:Zif N who what mode=ret true:=WfE (h:=(who,what,mode)) ⟨hw,ht,hm⟩;rw[mn,WbX h (by omega) hN,B8,WjQ h hm (by omega) hN];simp only[ret,Xd,Xv,Wc,WaP];by_cases hb:WgW l who what mode= []
 .rw[Wa (by rw[hb];simp[Wi]),Wb hb];have h1:=Wlq (l:=l) (p:=Wus who what) (N:=N) (lp:=λn j=>Zb7 N who what mode (Wi l) l (λaI=>(some ((),(aI,(true,()))))) (λjj kR=>
  (bif WB ((Xb l)+(Xb ([(who,(what,mode))])))then
 ((Zw N (Xe l ([(who,(what,mode))]))).bind λgX=>
 (some ((),(gX.1.1,(true,())))))else none)) n j)
   (K0:=λj=>some ((),(l.set j.toNat ((l.getD j.toNat (0,0,0)).1,(l.getD j.toNat (0,0,0)).2.1,WwI (l.getD j.toNat (0,0,0)).2.2 mode),(true,())))) (K1:=(bif WB ((Xb l)+(Xb ([(who,(what,mode))])))then
 ((Zw N (Xe l ([(who,(what,mode))]))).bind λgX=>
 (some ((),(gX.1.1,(true,())))))else none)) (by omega) (by omega)
   (λn j hj=>by
    simp only[Zb7,W2 hj,Wq hj,Wt hj,Wp (show j<4611686018427387904 by omega),We];simp[Wus,WC,Wue,WaP])
   (λn=>by simp[Zb7,Wat,Xn,Wc])
  rw[h1];unfold Whf Wrs;cases hf:fnd (Wus who what) l 0 with
  |some r=>
   obtain⟨g1,g2,g3,g4⟩:=WcS hf;rw[Xaz]at g3;rw[Xdt,Xp g3]at g4;injection g4 with g4;unfold Wus at g1;simp only[Xj,Wh]at g1;simp only[Wt g3,g4,Option.getD_some,Option.isSome_some];rw[Xi];have:WwI r.2.2.2 mode=Wri r.2.2.2 mode:=by grind [WwI,Wri]
   rw[this,g1.1,g1.2,Wv8 h.ris g3 (e:=(who,what,Wri r.2.2.2 mode)) (by simp_all) (by simp_all)]
  |none=>
   have hn:=WgH hf;simp only;rw[Wx (by simp;omega)];have hmx:Wri 0 mode=mode:=by unfold Wri;rw[Wb (by omega)]
   have xI:=Wkt (cf:=cfH) (L:=l) (e:=(who,what,mode)) (h.ris.imp λh=>.inl h) (λx hx=>by
    grind [apH,Wus,Bool.and_eq_false_iff,decide_eq_false_iff_not])
   unfold Zw;simp only[We,Xaw];rw[Wpc (rng:=WvJ) (N:=N) Wo3 (M:=Wes cfH l (who,what,mode)) (WcK Wo3 h.ris) xI.1 (λx=>by rw[xI.2 x,WbA Wo3 h.ris]) (λx hx=>by
    rcases Xm.1 hx with hx|hx
    .have:=h.val x hx
     grind [HdV,WvJ,Wvu]
    grind [Xaf,WvJ,Wvu]) (by simp;omega)]
   simp_all
 .rw[Wb (by
   simp_all [WgW,Xt,Wi]),Wa hb]
  rfl
theorem Wq1(h:HOk l)(hw:1<=who/\who<=9)(ht:0<=what/\what<=8)(hm:1<=mode/\mode<=2)(hb:WgW l who what mode= []):HOk (Whf l who what mode):=by
 have mC:=Wwd (who:=who) (what:=what) h;have hbl:∀x∈l,x.2.1=what->x.1≠who->mode≠2/\x.2.2≠2:=λx hx h1 h2=>by
  refine Classical.byContradiction λhc=>?_;have:x.1∈WgW l who what mode:=Xx.2 ⟨x,Xar.2 ⟨hx,by grind [blk]⟩,rfl⟩;simp_all
 have ou:∀x∈l,x.2.1=what->x.1≠who->Wrs l who what≠2:=λx hx h1 h2=>by
  unfold Wrs;cases hf:fnd (Wus who what) l 0 with
  |none=>simp
  |some r=>
   obtain⟨g1,g2,g3,g4⟩:=WcS hf;rw[Xaz]at g3;rw[Xdt,Xp g3]at g4;injection g4 with g4;unfold Wus at g1;simp only[Xj,Wh]at g1;obtain⟨j,hj,rfl⟩:=Xbc hx;have hp:=Xau.1 h.up;simp only;rw[←g4]at g1⊢;rcases Xdb r.1 j with hlt|xU|hlt
   .exact((hp r.1 j g3 hj hlt).2 (by rw[h1,g1.2])).1
   .simp_all
   .exact((hp j r.1 hj g3 hlt).2 (by rw[h1,g1.2])).2
 unfold Whf;refine⟨λx hx=>?_,?_⟩
 .rcases(WbA Wo3 h.ris).1 hx with rfl|hx
  .refine⟨hw,ht,?_⟩;simp only;unfold Wri;split<;>omega
  .exact h.val x hx.1
 .have hr:=WcK (e:=(who,what,Wri (Wrs l who what) mode)) Wo3 h.ris;have hmem:=λx=>WbA (e:=(who,what,Wri (Wrs l who what) mode)) (x:=x) Wo3 h.ris;have hmj:∀x∈l,x.2.1=what->x.1≠who->Wri (Wrs l who what) mode≠2:=λx hx h1 h2=>by
   have:=ou x hx h1 h2;have:=(hbl x hx h1 h2).1;unfold Wri;split<;>omega
  unfold Ris at hr;rw[Xau]at hr⊢;intro i j hi hj hij;refine⟨hr i j hi hj hij,λhs=>?_⟩;have hlt:=hr i j hi hj hij;have m1:=(hmem _).1 (Xw hi);have m2:=(hmem _).1 (Xw hj);generalize (Wes cfH l (who,what,Wri (Wrs l who what) mode))[i]=x at*;generalize (Wes cfH l (who,what,Wri (Wrs l who what) mode))[j]=y at*;rcases m1 with rfl|m1<;>rcases m2 with rfl|m2
  .exact Wj hlt (Wo3.irr _)
  .grind [apH]
  .grind [apH]
  .obtain⟨a,ha,rfl⟩:=Xbc m1.1;obtain⟨b,hb',rfl⟩:=Xbc m2.1;have hp:=Xau.1 h.up;rcases Xdb a b with fT|fT|fT
   .exact(hp a b ha hb' fT).2 hs
   .subst fT;exact Wj hlt (Wo3.irr _)
   .exact Wj (Wo3.tr _ _ _ hlt (hp b a hb' ha fT).1) (Wo3.irr _)
theorem Wje(h:HOk l):HOk (Wab l who):=⟨λx hx=>h.val x (Xar.1 hx).1,h.up.filter _⟩
theorem Wlo(h:HOk l):l.length<=81:=by
 have key:∀(l:List Hd) (c:Int),Ris cfH l->(∀e∈l,HdV e/\c<=9*e.2.1+e.1)->1<=c->(l.length:Int)<=82-c\/l= []:=by
  intro l
  induction l with
  |nil=>simp_all
  |cons a l ih=>
   intro c hr hb hc;left;have h1:=Xaa.1 hr;have ha:=hb a (Xk ..);unfold HdV at ha;rcases ih (9*a.2.1+a.1+1) h1.2 (λe he=>⟨(hb e (Xf _ he)).1,by
    grind [Wce,Xf,HdV]⟩) (by omega)with h|h
   .grind
   grind
 rcases key l 1 h.ris (λe he=>⟨h.val e he,by have:=h.val e he;grind [HdV]⟩) (by omega)with h|h
 .omega
 simp_all
theorem Wjm{α V R:Type}{body:Int->α->V->(V->Option R)->Option R}{K:Int->V->Option R}{p:α->Bool}{E:Int->V->Option R}:∀(l:List α) (j:Nat) (v:V),(∀(j:Nat) x v k,x∈l->body j x v k=bif p x then E j v else k v)->
  (∃a x r,l=a++x::r/\(∀y∈a,p y=false)/\p x=true/\Wcf body K l j v=E ((j+a.length:Nat):Int) v)\/((∀y∈l,p y=false)/\Wcf body K l j v=K ((j+l.length:Nat):Int) v)
 | [],j,v,_=>.inr ⟨by simp,rfl⟩
 |x::l,j,v,h=>by
  rw[Wcf,h j x v _ (Xk ..)];cases hp:p x
  .simp only[Wc];rcases Wjm (E:=E) l (j+1) v λj y v k hy=>h j y v k (Xf _ hy)with⟨a,y,r,h1,h2,h3,h4⟩|⟨h1,h2⟩
   .refine .inl ⟨x::a,y,r,by rw[h1];rfl,λz hz=>?_,h3,?_⟩
    .rcases Xq.1 hz with rfl|hz
     .exact hp
     .exact h2 z hz
    .rw[h4,Xr,show j+1+a.length=j+(a.length+1) by omega]
   grind
  .exact .inl ⟨[],x,l,rfl,by simp,hp,rfl⟩
theorem WrQ{N:Nat}(a0:Int){R:Type}(K:Int->Int->Bool->List Hd->Int->Option R):
  ∀(r a m:List Hd) (n:Nat),r.length<n->a.length+m.length+r.length<=1048576->∃m',
   Ze N K n (a.length:Int) ((a.length+m.length:Nat):Int) (a++m++r) a0=
    K ((a++r.filter λx=>!(x.1==a0)).length:Int) ((a.length+m.length+r.length:Nat):Int) false ((a++r.filter λx=>!(x.1==a0))++m') a0
 | [],a,m,0,h,_=>by simp at h
 | [],a,m,n+1,h,_=>by
  refine⟨m,?_⟩;have e1:decide (((a.length+m.length:Nat):Int)<Wi (a++m++ []))=false:=by simp[Wi]
  simp only[Ze,e1,Wc];simp
 |x::r,a,m,0,h,_=>by simp at h
 |x::r,a,m,n+1,h,hb=>by
  simp only[Xr]at h hb;have hj:a.length+m.length<(a++m++x::r).length:=by simp
  have hi:a.length<(a++m++x::r).length:=by simp;omega
  have hx:Xc (a++m++x::r) (a.length+m.length) ((0:Int),((0:Int),(0:Int)))=x:=by
   simp_all
  cases hp:x.1==a0
  .obtain⟨m2,qZ,yz⟩:∃m2:List Hd,m2.length=m.length/\(a++m++x::r).set a.length x=(a++ [x])++m2++r:=by
    cases m with
    |nil=>simp_all
    |cons y m=>grind
   obtain⟨m',ih⟩:=WrQ (N:=N) a0 K r (a++ [x]) m2 n (by omega) (by simp;omega);refine⟨m',?_⟩;simp only[Ze,Zfm,W2 hj,Wq hj,Wq hi,Xi,hx,hp,Xd,We,Xds,Xi,yz,
    Wp (show a.length<4611686018427387904 by omega),Wp (show a.length+m.length<4611686018427387904 by omega)]
   have l1:(a++ [x]).length=a.length+1:=by simp
   rw[l1,qZ,show a.length+1+m.length=a.length+m.length+1 by omega]at ih;rw[ih];simp only[Xbj,hp,Xds,WaD,Xbn,List.singleton_append,Xr];rw[show a.length+m.length+1+r.length=a.length+m.length+(r.length+1) by omega]
  .obtain⟨m',ih⟩:=WrQ (N:=N) a0 K r a (m++ [x]) n (by omega) (by simp;omega);refine⟨m',?_⟩;simp only[Ze,Zfm,W2 hj,Wq hj,Wq hi,Xi,hx,hp,Xd,We,Wc,Xv,
    Wp (show a.length+m.length<4611686018427387904 by omega)]
   simp only[Xs,Xr,Xbs,Xaz]at ih;rw[show a.length+(m.length+1)=a.length+m.length+1 by omega,show a++(m++ [x])++r=a++m++x::r by simp]at ih;rw[ih];simp only[Xbj,hp,Xv,WaE,Bool.false_eq_true,Xr];simp only[Xs];rw[show a.length+m.length+1+r.length=a.length+m.length+(r.length+1) by omega]
theorem WqK{N:Nat}{s:List Hd}{a0:Int}(hN:1048576<N)(hs:s.length<=100000):
  Zs N s a0=some ((a0,()),(s.filter λx=>!(x.1==a0),())):=by
 unfold Zs;have h1:=WR (l:=s) (V:={v:Int//v=a0}) (R:=Kj×Kj) (lp:=λn j v=>Zn N s (λcn ak=>some ((ak,()),(cn,()))) (λeU je ep=>some ((ep,()),((-1:Int),()))) n j v.1) (n:=N) (by omega)
  (body:=λj x v k=>bif x.1==a0 then some ((v.1,()),(j,()))else k v) (K:=λ_ v=>some ((v.1,()),((-1:Int),())))
  (λn i v hi=>by
   obtain⟨v,rfl⟩:=v;simp only[Zn,W2 hi,Wq hi,Wt hi,Wp (show i<4611686018427387904 by omega),We,Zfm,Xd])
  (λn v=>by simp[Zn,Wat,Xn,Wc]) ⟨a0,rfl⟩
 simp only[]at h1;unfold Zy;rw[h1];rcases Wjm (body:=λj x (v:{v:Int//v=a0}) k=>bif x.1==a0 then some ((v.1,()),(j,()))else k v) (K:=λ_ v=>(some ((v.1,()),((-1:Int),())):Option (Kj×Kj))) (p:=λx=>x.1==a0)
  (E:=λj v=>some ((v.1,()),(j,()))) s 0 ⟨a0,rfl⟩ (λj x v k _=>rfl)with⟨a,x,r,dt,ha,hx,hr⟩|⟨ha,hr⟩
 .rw[hr];simp only[Xd,Xaz];have e0:((a.length:Int)== -1)=false:=by simp
  rw[e0,Wp (show a.length<4611686018427387904 by grind)];simp only[Wc];obtain⟨m',hd⟩:=WrQ (N:=N) a0 (λgK Bv eU aI ep=>
     (bif (decide ((0:Int)<=gK))&&(decide (gK<=((Xb aI):Int)))then
      (bif (decide ((0:Int)<=gK))&&(decide (gK<=((Xb ((Xal (Xa gK) aI)++Xo ((Xb aI) -(Xa gK)) ((0:Int),((0:Int),(0:Int)))++(List.drop (Xb aI) aI))):Int)))then
       (some ((ep,()),(Xal (Xa gK) ((Xal (Xa gK) aI)++Xo ((Xb aI) -(Xa gK)) ((0:Int),((0:Int),(0:Int)))++(List.drop (Xb aI) aI)),())))else none)else none)) r a [x] N (by grind) (by grind)
  rw[show a++ [x]++r=s by simp_all]at hd;simp only[Xr,Xbs,Xaz]at hd;rw[hd];have hf:(s.filter λx=>!(x.1==a0))=a++r.filter λx=>!(x.1==a0):=by
   rw[dt,List.filter_append,Xbj];have:(a.filter λx=>!(x.1==a0))=a:=Xgo.2 λy hy=>by grind
   grind
  grind
 grind [Xgo]
theorem Wib(h:HOk l)(hl:l.length<=100000)(hN:1048576<N):Zlf N l who=ret (Wab l who):=by
 have mn:Zec N l=ret l:=by grind [Zec,Wx]
 unfold Zlf;rw[mn,WbX h (by omega) hN];simp only[ret,Xd,Xv,Wc];rw[WqK hN hl];rfl
end
end Go.Sx
