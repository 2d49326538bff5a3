/- Plain laws of the Lean functions. -/
import Derived.Test.YtkbecidbnjhjcaaGreatMW2
open Bool renaming and_eq_true→Xi,and_self→Xbo,not_true→Xr,eq_false_iff→Xbw
open List renaming all_eq_true→Xai,length_set→Xaf,getElem_set→Xaq,getElem_mem→Xo,length_map→Xu,mem_map→Xt,getElem_replicate→Xbc,foldl_cons→Xar,append_eq→Xak,length_take→Xaw,mem_or_eq_of_mem_set→Xdu,pairwise_iff_getElem→Xal,mem_filter→Xas,mem_append→Xm,mem_singleton→Xaa,mem_cons_of_mem→Xe,mem_cons_self→Xh,getElem_of_mem→Xbn
open Option renaming bind_some→Xd
open Nat renaming le_refl→Xn,lt_trichotomy→Xdl
open Int renaming toNat_natCast→Xj,le_refl→Xs,le_trans→Xgg
namespace Go.Sx
set_option linter.unusedVariables false
set_option linter.unusedSimpArgs false
section
noncomputable def WnM(p:Pg):Bool:=p.2.all Wgt&&(Wps p.1&&(decide (p.2.length<=3)&&beq (p.1.any λo=>o.1==11) (decide (p.2.length>0))))
noncomputable def WoD(s:Sc):Bool:=Wsv s.1&&(decide (s.2.1.length<=4)&&(decide (s.2.2.length<=400)&&s.2.1.all WnM))
structure PB(p:Pg):Prop where
 code:p.1.length<=1000
 kids:p.2.length<=1000
 each:∀c∈p.2,c.length<=1000
structure SB(s:Sc):Prop where
 cells:s.1.1.length<=100
 map:s.1.2.1.length<=100
 progs:s.2.1.length<=100
 each:∀p∈s.2.1,PB p
 acts:s.2.2.length<=1000
variable{N:Nat}{s:Sc}{p:Pg}{w:Wo}{n:Int}{a:Ac}
theorem WtT(h:WnM p=true):POk p:=by
 unfold WnM at h;simp only[Xi,Xai,Wh]at h;exact⟨WvA h.2.1,λc hc=>Wv3 (h.1 c hc),h.2.2.1⟩
theorem WgK(h:WoD s=true):ThOk s.1/\s.2.1.length<=4/\s.2.2.length<=400/\∀p∈s.2.1,POk p:=by
 simp_all [WoD,Xi,Xai,Wh,WkD,WtT]
theorem Wni{α:Type}(l:List α)(k:Nat):decide ((Wi l)<=(k:Int))=decide (l.length<=k):=by
 simp[Wi,Wf,Wq]
theorem Wid{α:Type}(l:List α)(k:Nat):decide ((Wi l)>(k:Int))=decide (l.length>k):=by
 simp[Wi,Wf,Wq]
theorem Wh2(l k:Nat):decide (l>k)= !decide (l<=k):=by
 grind
theorem Wmm{l:List Opn}(hl:l.length<=1048576)(hN:1048576<N):Zhz N l=ret (l.any λo=>o.1==11):=by
 unfold Zhz Zaw Z0;have h1:=WkO (l:=l) (p:=λo=>o.1==11) (N:=N) (lp:=λn j=>Zm N l (λay=>(some ((),(ay,())))) (λai aF=>(some ((),((-1:Int),())))) n j) (K0:=λj=>some ((),(j,()))) (K1:=some ((),((-1:Int),()))) (by omega) (by omega)
  (λn j hj=>by
   simp only[Zm,WU hj,Wp hj,Wv hj,Wn (show j<4611686018427387904 by omega),We,Zny,Xd])
  (λn=>by simp[Zm,WZ,Xn,Wc])
 rw[h1];have h2:=Wj2 (p:=λo:Opn=>o.1==11) l 0;cases hf:fnd (λo:Opn=>o.1==11) l 0 with
 |some r=>
  simp_all
 |none=>
  grind
theorem WmJ(h:PB p)(hN:1048576<N):Ziy N p=ret (WnM p):=by
 have hc:=h.code;have hk:=h.kids;unfold Ziy WnM;have h1:=Wy (l:=p.2) (V:=Unit) (R:=Unit×Ko) (lp:=λn j v=>Zdn N p.2 p (some ((),(false,()))) (λay ai=>
  ((Zc7 N p.1).bind λcH=>
 (bif cH.2.1 then
 (bif decide ((Wi p.2)<=(3:Int))then
 ((Zhz N p.1).bind λde=>
 (some ((),(beq de.2.1 (decide ((Wi p.2)>(0:Int))),()))))
 else
 (some ((),(false,()))))
 else
 (some ((),(false,())))))) n j) (n:=N) (by omega)
  (body:=λj x v k=>(Zic N x).bind λo=>bif !o.2.1 then some ((),(false,()))else k v) (K:=λ_ v=>((Zc7 N p.1).bind λcH=>
 (bif cH.2.1 then
 (bif decide ((Wi p.2)<=(3:Int))then
 ((Zhz N p.1).bind λde=>
 (some ((),(beq de.2.1 (decide ((Wi p.2)>(0:Int))),()))))
 else
 (some ((),(false,()))))
 else
 (some ((),(false,()))))))
  (λn i v hi=>by simp only[Zdn,WU hi,Wp hi,Wv hi,Wn (show i<4611686018427387904 by omega),We])
  (λn v=>by simp[Zdn,WZ,Xn,Wc]) ()
 refine h1.trans ?_;rw[Wau (p:=λx=>!Wgt x) (E:=λ_=>some ((),(false,()))) p.2 0 () (λj x v k hx=>by rw[Wnf (by have:=h.each x hx;omega) hN];rfl),Wb6,Wg4 (by omega) hN,Wmm (by omega) hN];simp only[ret,Xd];rw[show(3:Int)=((3:Nat):Int)from rfl,Wni,show(0:Int)=((0:Nat):Int)from rfl,Wid];cases p.2.all Wgt<;>cases Wps p.1<;>cases decide (p.2.length<=3)<;>rfl
theorem WmF(h:PB p)(hN:1048576<N):Zho N p=ret (WnM p):=by
 have hc:=h.code;have hk:=h.kids;unfold Zho WnM;have h1:=Wy (l:=p.2) (V:=Unit) (R:=Unit×Ko) (lp:=λn j v=>Zce N p (some ((),(false,()))) (λae ay=>(some ((),(true,())))) n j) (n:=N) (by omega)
  (body:=λj x v k=>(Zib N x).bind λo=>bif !o.2.1 then some ((),(false,()))else k v) (K:=λ_ v=>some ((),(true,())))
  (λn i v hi=>by simp only[Zce,WU hi,Wp hi,Wv hi,Wn (show i<4611686018427387904 by omega),We])
  (λn v=>by simp[Zce,WZ,Xn,Wc]) ()
 have h2:Zce N p (some ((),(false,()))) (λae ay=>(some ((),(true,())))) N 0=ret (p.2.all Wgt):=by
  refine h1.trans ?_;rw[Wau (p:=λx=>!Wgt x) (E:=λ_=>some ((),(false,()))) p.2 0 () (λj x v k hx=>by rw[WnR (by have:=h.each x hx;omega) hN];rfl),Wb6];cases p.2.all Wgt<;>rfl
 rw[h2,Wg3 (by omega) hN,Whb (by omega) hN];simp only[ret,Xd];rw[show(3:Int)=((3:Nat):Int)from rfl,Wid,Wh2,show(0:Int)=((0:Nat):Int)from rfl,Wid];generalize beq (p.1.any λo=>o.1==11) (decide (p.2.length>0))=b;cases p.2.all Wgt<;>cases Wps p.1<;>cases decide (p.2.length<=3)<;>cases b<;>rfl
theorem Wfb{t:List Int×List Int×Int}(h1:t.1.length<=1048576)(h2:t.2.1.length<=1048576)(hN:1048576<N):Zfk N t=ret (Wsv t):=by
 unfold Zfk Wsv Wmr;have e:((Wi t.2.1) !=(8:Int))= !decide (t.2.1.length=8):=by
  grind [Wi]
 have h3:=Wy (l:=t.2.1) (V:=Unit) (R:=Unit×Ko) (lp:=λn j v=>Zbu N t (some ((),(false,()))) (λae ay=>(some ((),(true,())))) n j) (n:=N) (by omega)
  (body:=λj x v k=>bif !(decide (0<=x)&&decide (x<=65536))then some ((),(false,()))else k v) (K:=λ_ v=>some ((),(true,())))
  (λn i v hi=>by simp only[Zbu,WU hi,Wp hi,Wv hi,Wn (show i<4611686018427387904 by omega),We,Wlq,ret,Xd])
  (λn v=>by simp[Zbu,WZ,Xn,Wc]) ()
 have h4:Zbu N t (some ((),(false,()))) (λae ay=>(some ((),(true,())))) N 0=ret (t.2.1.all λx=>decide (0<=x)&&decide (x<=65536)):=by
  refine h3.trans ?_;rw[Wau (p:=λx=>!(decide (0<=x)&&decide (x<=65536))) (E:=λ_=>some ((),(false,()))) t.2.1 0 () (λj x v k _=>rfl),Wb6];cases t.2.1.all _<;>rfl
 rw[Wcl h1 hN,e,WdK,h4];cases Wec t.1<;>cases decide (t.2.1.length=8)<;>cases WbH t.2.2<;>cases t.2.1.all _<;>rfl
theorem WiN(h:SB s)(hN:1048576<N):Zhd N s=ret (WoD s):=by
 have h1:=h.cells;have h2:=h.map;have h3:=h.progs;unfold Zhd WoD;have h4:=Wy (l:=s.2.1) (V:=Unit) (R:=Unit×Ko) (lp:=λn j v=>Zbv N s (some ((),(false,()))) (λi9 aw=>(some ((),(true,())))) n j) (n:=N) (by omega)
  (body:=λj x v k=>(Zho N x).bind λo=>bif !o.2.1 then some ((),(false,()))else k v) (K:=λ_ v=>some ((),(true,())))
  (λn i v hi=>by simp only[Zbv,WU hi,Wp hi,Wv hi,Wn (show i<4611686018427387904 by omega),We])
  (λn v=>by simp[Zbv,WZ,Xn,Wc]) ()
 have h5:Zbv N s (some ((),(false,()))) (λi9 aw=>(some ((),(true,())))) N 0=ret (s.2.1.all WnM):=by
  refine h4.trans ?_;rw[Wau (p:=λx=>!WnM x) (E:=λ_=>some ((),(false,()))) s.2.1 0 () (λj x v k hx=>by rw[WmF (h.each x hx) hN];rfl),Wb6];cases s.2.1.all WnM<;>rfl
 rw[h5,Wfb (by omega) (by omega) hN];simp only[ret,Xd];rw[show(4:Int)=((4:Nat):Int)from rfl,Wid,Wh2,show(400:Int)=((400:Nat):Int)from rfl,Wid,Wh2];cases Wsv s.1<;>cases decide (s.2.1.length<=4)<;>cases decide (s.2.2.length<=400)<;>rfl
theorem WiF(h:SB s)(hN:1048576<N):Zlw N s=ret (WoD s):=by
 have h1:=h.cells;have h2:=h.map;have h3:=h.progs;unfold Zlw WoD Zal Zt;have h4:=Wy (l:=s.2.1) (V:=Unit) (R:=Unit×Ki) (lp:=λn j v=>Ze N s.2.1 (λay=>(some ((),(ay,())))) (λai aF=>(some ((),((-1:Int),())))) n j) (n:=N) (by omega)
  (body:=λj x v k=>(Zjr N x).bind λo=>bif o.2.1 then some ((),(j,()))else k v) (K:=λ_ v=>some ((),((-1:Int),())))
  (λn i v hi=>by simp only[Ze,WU hi,Wp hi,Wv hi,Wn (show i<4611686018427387904 by omega),We])
  (λn v=>by simp[Ze,WZ,Xn,Wc]) ()
 have h5:((Ze N s.2.1 (λay=>(some ((),(ay,())))) (λai aF=>(some ((),((-1:Int),())))) N 0).bind λo2=>some ((),(decide (o2.2.1>=(0:Int)),())))=ret (!s.2.1.all WnM):=by
  have h6:=h4;rw[h6,WfT (p:=λx=>!WnM x) (E:=λj _=>some ((),(j,()))) s.2.1 0 () (λj x v k hx=>by unfold Zjr;rw[WmJ (h.each x hx) hN];rfl)];have h7:=Wj2 (p:=λx=>!WnM x) s.2.1 0;rw[Wb6]at h7;rw[←h7];cases hf:fnd (λx=>!WnM x) s.2.1 0 with
  |some r=>simp_all
  |none=>rfl
 rw[We1 (by omega) (by omega) hN];simp only[ret,Xd];rw[h5,show(4:Int)=((4:Nat):Int)from rfl,Wni,show(400:Int)=((400:Nat):Int)from rfl,Wni];cases Wsv s.1<;>cases decide (s.2.1.length<=4)<;>cases decide (s.2.2.length<=400)<;>cases s.2.1.all WnM<;>rfl
end
section
variable{N:Nat}{s:Sc}{p:Pg}{w:Wo}{n:Int}{a:Ac}{k:Nat}
theorem WmH{ps:List Pg}(h:∀p∈ps,POk p)(hk:k<ps.length):POk (ps.getD k pg0):=by
 grind
theorem WOk.tick(h:WOk s.2.1 n w):WOk s.2.1 (n+1) {w with now:=w.now+1}:=
 {h with now:=by(have:=h.now;simp_all),n0:=by have:=h.n0;omega,hist:=by(have:=h.hist;grind),root:=λk hk=>(h.root k hk).wk (by omega)}
theorem WOk.putQ{q:Wo×Rt}{w0:Wo}(h:WOk s.2.1 (n+1) {w0 with now:=w0.now+1})(hh:(w0.hist.length:Int)<=n)(hk:k<w0.roots.length)(hq:QOk (s.2.1.getD k pg0) (n+1) {w0 with now:=w0.now+1} q):WOk s.2.1 (n+1) (Wo.put q k):=by
 have hr:q.1.roots=w0.roots:=hq.roots;exact{
  len:=by show(q.1.roots.set k q.2).length=_;rw[Xaf,hr];exact h.len
  l4:=h.l4
  progs:=h.progs
  now:=hq.now.trans h.now
  n0:=h.n0
  mem:=hq.mem
  shelf:=hq.shelf
  holds:=hq.holds
  histE:=λe he=>(hq.histE e he).elim (h.histE e) id
  hist:=by have:=hq.hist;show(q.1.hist.length:Int)<=n+1;grind
  root:=λi hi=>by
   change i<(q.1.roots.set k q.2).length at hi;rw[Xaf,hr]at hi;show ROk _ _ ((q.1.roots.set k q.2)[i]);rw[Xaq];by_cases he:k=i
   .subst he;rw[Wb rfl];exact hq.root
   .rw[Wa he];have:=h.root i hi;simp_all}
theorem Wq5(h:WOk s.2.1 n w):WOk s.2.1 (n+1) (Wgy s w a):=by
 have ht:=h.tick;unfold Wgy;simp only;split
 .rename_i hb;have hk:a.2.1.toNat<w.roots.length:=by omega
  have hx:=ht.root a.2.1.toNat hk;have lH:=h.root a.2.1.toNat hk;have hg:GOk {w with now:=w.now+1}:=⟨h.mem,h.shelf,h.holds⟩;have hp:=WmH h.progs (show a.2.1.toNat<s.2.1.length by rw[←h.len];exact hk);have nN:w.roots.length<=4:=by rw[h.len];exact h.l4
  rw[Wt hk];split
  .unfold Wka;rw[Wt (show a.2.1.toNat<({w with now:=w.now+1}:Wo).roots.length from hk)];exact ht.putQ h.hist hk (Wj0 hp hg lH (by omega) h.n0)
  .split
   .split
    .rename_i hf;refine ht.putQ h.hist hk (hg.st ?_);have hl:=lH.live (by omega);obtain⟨f1,f2,f3⟩:=hl.fork hf.1;have hj:a.2.2.toNat<(s.2.1.getD a.2.1.toNat pg0).2.length:=by omega
     have iY:a.2.2.toNat<w.roots[a.2.1.toNat].fam.kids.length:=by rw[f3.len];exact hj
     have bE:KC ((s.2.1.getD a.2.1.toNat pg0).2.getD a.2.2.toNat []):=by rw[Wt hj];exact hp.kids _ (Xo hj)
     exact{hx with live:=λ_=>{hl.wk (show n<=n+1 by omega)with fork:=λ_=>⟨f1,f2,Woi iY h.mem bE f3 rfl⟩}}
    .exact ht
   .split
    .split
     .refine ht.putQ h.hist hk (hg.st ?_);exact{hx with live:=λhh=>{hx.live hh with}}
     .exact ht
    .exact ht
 .exact ht
theorem WuC(h:WOk s.2.1 n w)(hn:n<=99999)(hN:1048576<N):Zkl N w.e s a=some (((Wgy s w a).e,()),()):=by
 have ht:=h.tick;have qQ:=h.now;have sc:=h.n0;have nN:w.roots.length<=4:=by rw[h.len];exact h.l4
 unfold Zkl Wgy;simp only[Wu];rw[show P5 w.e=w.roots.map Rt.e from rfl,show w.e.1=w.now from rfl,WcA (by omega)];have hlen:Wi (w.roots.map Rt.e)=(w.roots.length:Int):=by unfold Wi;simp
 rw[hlen,Wak (by unfold I64;omega)];simp only[WS,ret,Xd];by_cases hb:0<=a.2.1/\a.2.1<w.roots.length
 .rw[Wb hb,Wf hb.1,Wf (show a.2.1<=(w.roots.length:Int) -1 by omega)];obtain⟨k,yc⟩:∃k:Nat,a.2.1=k:=⟨a.2.1.toNat,by omega⟩;have hk:k<w.roots.length:=by omega
  obtain⟨x,aW⟩:∃x,w.roots[k]=x:=⟨_,rfl⟩;have hx:=h.root k hk;rw[aW]at hx;have kr:k<s.2.1.length:=by rw[←h.len];exact hk
  have hp:=WmH h.progs kr;obtain⟨g1,g2,g3,g4,g5⟩:=woG hk aW;obtain⟨r0,r1,r2,r3,r4,r5,r6,r7,r8,jA,iN,g0,hD,ip,iq,kd,ke,jB,jC,kg,kh,ki⟩:=rtP x;have ge:∀y:Rt,(w.now+1,S4 (List.set (w.roots.map Rt.e) k y.e) w.e.2)=Wo.e (Wo.put ({w with now:=w.now+1},y) k):=λy=>by
   unfold Wo.put Wo.e;simp only[List.map_set];rfl
  have bp:Wo.put ({w with now:=w.now+1},x) k={w with now:=w.now+1}:=by unfold Wo.put;simp only;rw[←aW,List.set_getElem_self]
  simp only[yc,Xj,Xbo,Xr,Wc];rw[g1,g4,Wt hk,aW];simp only[We,r0,jB,jC,ge,bp,show w.e.2.2.1=w.mem from rfl];rw[W8,Wf kr];have yd:List.getD s.2.1 k (([]:List Ka),([]:List Kx))=s.2.1.getD k pg0:=rfl;rw[yd];generalize iz:s.2.1.getD k pg0=p at*;have hg:GOk {w with now:=w.now+1}:=⟨h.mem,h.shelf,h.holds⟩;simp only[We,WE];have aS:Zht N (Wo.e {w with now:=w.now+1}) (k:Int) p=some (((Wo.put (Wam {w with now:=w.now+1} x k p) k).e,()),()):=
   Wtc (w:={w with now:=w.now+1}) hk aW (by grind) hp hg hx (by omega) (by have:=h.hist;grind) hN
  rw[aS];by_cases h1:a.1=1
  .simp_all [Wb,Wka,Wt,Xd]
  .rw[Wa h1,Wa h1];by_cases h2:a.1=2
   .rw[Wb h2,Wb h2];by_cases hf:x.phase=2
    .rw[Wb hf,Wak (by have:=hp.k3;unfold I64 Wi;omega),show Wi p.2=(p.2.length:Int)from rfl];by_cases hj:0<=a.2.2/\a.2.2<p.2.length
     .rw[Wf hj.1,Wf (show a.2.2<=(p.2.length:Int) -1 by omega),Wb (show x.phase=2/\0<=a.2.2/\a.2.2<p.2.length from⟨hf,hj⟩)];obtain⟨j,nX⟩:∃j:Nat,a.2.2=j:=⟨a.2.2.toNat,by omega⟩;have hj':j<p.2.length:=by omega
      simp only[nX,Xj,Xbo,We];rw[W8,Wf hj'];obtain⟨f1,f2,f3⟩:=(hx.live (by omega)).fork hf;have bE:KC (p.2.getD j []):=by rw[Wt hj'];exact hp.kids _ (Xo hj')
      rw[Wky (code:=p.2.getD j []) (by rw[f3.len];exact hj') (by rw[f3.len];exact hp.k3) h.mem bE f3 rfl (by omega) hN];simp only[Xd,We];have:U21 (WaM w.mem x.fam j (p.2.getD j [])).e x.e=Rt.e {x with fam:=WaM w.mem x.fam j (p.2.getD j [])}:=rfl
      grind [WvZ]
     grind
    simp_all
   .rw[Wa h2,Wa h2];by_cases h3:a.1=3
    .rw[Wb h3,Wb h3];have hd:S11 true x.e=Rt.e {x with doomed:=true}:=rfl;simp only[hd,ge,show(Cm.e x.cm).2.2.1=x.cm.phase from rfl,Wal]
     grind
    simp_all
 .rw[Wa hb];have sa:(decide (0<=a.2.1)&&decide (a.2.1<=(w.roots.length:Int) -1))=false:=by
   rw[Bool.and_eq_false_iff,Wx,Wx];omega
  rw[sa];rfl
theorem WqC(h:WoD s=true):WOk s.2.1 0 (Wgk s):=by
 obtain⟨h1,h2,h3,h4⟩:=WgK h;exact{
  len:=by simp[Wgk]
  l4:=h2
  progs:=h4
  now:=rfl
  n0:=Xs _
  mem:=by
   show W2 (Wjx s.1.1)=true;have:=h1.cells.len;unfold W2 Wjx;simp only[Xu,this,decide_true,Bool.true_and,Xi,Wh,Xai];refine⟨by omega,λw hw=>?_⟩;obtain⟨v,hv,rfl⟩:=Xt.1 hw;have:=h1.cells.val v hv;rw[WeB];unfold wd0;simp only;omega
  shelf:=⟨Wqk h1.map.1 h1.map.2,h1.cnt⟩
  holds:=⟨(λh hh=>by cases hh),List.Pairwise.nil⟩
  hist:=by simp[Wgk]
  histE:=λh hh=>by cases hh
  root:=λk hk=>by
   simp only[Wgk,Xbc];exact{
    phase:=by simp
    tries:=by simp
    live:=λhh=>by simp at hh
    comm:=λhh=>by simp at hh
    undos:=λu hu=>by cases hu
    ul:=by simp
    rg:=by simp
    ord:=by simp}}
theorem WtX{R:Type}{K0:Int->Bool->Int->Int->Int->Int->Kt->Kh->Kt->(List Y_Root)->(List Kn)->Option R}(hl:s.2.2.length<=1000)(hN:1048576<N):
  ∀(d j n:Nat) (m:Int) (w:Wo),j+d=s.2.2.length->d<n->WOk s.2.1 m w->m+d<=90000->
  Zar N s.2.2 s K0 n (j:Int) w.now w.token w.mem.1 w.shelf.2 w.mem.2 w.shelf.1 w.holds (w.roots.map Rt.e) w.hist=
   (λv:Wo=>K0 (s.2.2.length:Int) false v.now v.token v.mem.1 v.shelf.2 v.mem.2 v.shelf.1 v.holds (v.roots.map Rt.e) v.hist) ((s.2.2.drop j).foldl (Wgy s) w):=by
 intro d
 induction d with
 |zero=>
  intro j n m w hj hn h hm;obtain⟨n,rfl⟩:∃n',n=n'+1:=⟨n-1,by omega⟩;have:j=s.2.2.length:=by omega
  subst this;simp only[Zar,WZ (Xn _),Wc,List.drop_length,List.foldl_nil]
 |succ d ih=>
  intro j n m w hj hn h hm;obtain⟨n,rfl⟩:∃n',n=n'+1:=⟨n-1,by omega⟩;have hlt:j<s.2.2.length:=by omega
  have hw:(w.now,(w.token,((w.mem.1,w.mem.2),((w.shelf.1,w.shelf.2),(w.holds,(w.roots.map Rt.e,w.hist))))))=w.e:=rfl;simp only[Zar,WU hlt,Wp hlt,Wv hlt,Wn (show j<4611686018427387904 by omega),We,hw];rw[WuC h (by omega) hN,List.drop_eq_getElem_cons hlt,Xar];exact ih (j+1) n (m+1) _ (by omega) (by omega) (Wq5 h) (by omega)
theorem Ws8(hb:SB s)(hN:1048576<N):Zh5 N s=ret (if WoD s=true then(Wud s).e else d_World):=by
 unfold Zh5;rw[WiF hb hN];simp only[ret,Xd];cases hs:WoD s with
 |false=>rfl
 |true=>
  obtain⟨h1,h2,h3,h4⟩:=WgK hs;have h0:=WqC hs;have nW:=Wus s.2.1 (by omega);simp only[Xr,Wc,Waw];rw[Wgx h1.map.1 h1.map.2 hN,WiL (Wcy.2 h1.cells) hN];simp only[ret,Xd,nW,We,WfJ];have gi:=WtX (s:=s) (N:=N) (K0:=λnr tD nv nw ny nz fY nA nB nC nD=>(some ((),((nv,(nw,((ny,fY),((nA,nz),(nB,(nC,nD)))))),())):Option (Unit×(Y_World×Unit)))) (by have:=hb.acts;omega) hN s.2.2.length 0 N 0 (Wgk s) (by omega) (by omega) h0 (by omega);rw[WpD];have eA:((Wgk s).roots.map Rt.e)=List.replicate s.2.1.length d_Root:=by
   unfold Wgk;simp only[List.map_replicate];rfl
  rw[eA]at gi;refine gi.trans ?_;rw[List.drop_zero];rfl
end
section
section
variable{N:Nat}{c:Cur}
theorem WgH{b7:Int}{l8:List Int}(h8:l8.length=8):∀(n i:Nat) (c:Cur) (l:List Int),8-i<n->i<=8->WaF c->l.length=i->
  Drw (λv:Kf×Unit=>v.1.1.length=8/\v.1.2.1.length=8) (Zcj N b7 l8 (λlj fB tv cN=>(some ((tv,()),((l8,(cN,b7)),())))) n (i:Int) c l)
 |0,i,c,l,h,_,_,_=>by omega
 |n+1,i,c,l,h,hi,hc,hl=>by
  unfold Zcj;refine .bif (λh0=>?_) λh0=>.ok hc ⟨h8,?_⟩
  .have h0:(i:Int)<8:=Ws h0;have e:Wm .i64 (i:Int) 1=((i+1:Nat):Int):=Wn (by omega);simp only[e];refine(WdH 2 hc).bind λc b hc _=>.bif (λ_=>?_) λ_=>?_
   .exact(WvP hc).bind λc v hc hv=>.bifT (WC (by simp;omega)) (WgH h8 n (i+1) c _ (by omega) (by omega) hc (by simp[Xak];omega))
   .exact .bifT (WC (by simp;omega)) (WgH h8 n (i+1) c _ (by omega) (by omega) hc (by simp[Xak];omega))
  .have h0:¬(i:Int)<8:=of_decide_eq_false h0;simp only;omega
theorem Wqf(hN:1048576<N)(hc:WaF c):Drw (λv:Kf×Unit=>v.1.1.length=8/\v.1.2.1.length=8) (Zfj N c):=by
 unfold Zfj;exact(Wv2 hN hc).bind λc v hc hv=>(WvP hc).bind λc w hc hw=>WgH hv N 0 c [] (by omega) (by omega) hc rfl
theorem WpQ(hN:1048576<N)(hc:WaF c):Drw (λv:Kf×Unit=>v.1.1.length<=100/\v.1.2.1.length<=100) (Zi7 N c):=by
 unfold Zi7;refine(Wqf hN hc).bind λc t hc ht=>(Wan 16 hc).bind λc v hc hv=>.bif (λ_=>?_) λ_=>.bif (λ_=>?_) λ_=>.bif (λ_=>.ok hc (by simp only;omega)) λ_=>.bif (λ_=>?_) λ_=>.bif (λ_=>?_) λ_=>.ok hc (by simp only;omega)
 .refine .bifT (by rw[ht.1];rfl) (.ok hc ?_);simp only[Xaw];omega
 .refine(Wan 8 hc).bind λc k hc hk=>?_;have hk:=hk.2 (by decide);refine .bifT (by unfold inb;rw[ht.2];simp;omega) (.ok hc ?_);simp only[Xaf];omega
 .refine .bifT (by rw[ht.2];rfl) (.ok hc ?_);simp only[Xaw];omega
 .refine(Wan 8 hc).bind λc k hc hk=>?_;have hk:=hk.2 (by decide);refine .bifT (by unfold inb;rw[ht.1];simp;omega) (.ok hc ?_);simp only[Xaf];omega
theorem Wt0{p:Pg}(h:p.1.length<=300/\p.2.length<=100/\∀x∈p.2,x.length<=200):PB p:=⟨by omega,by omega,λx hx=>by have:=h.2.2 x hx;omega⟩
theorem Wsr(hN:1048576<N)(hc:WaF c):Drw (λv:Pg×Unit=>PB v.1) (Zkj N c):=by
 unfold Zkj;refine(WdH 2 hc).bind λc b hc _=>(WvF hN hc).bind λc p hc hp=>(Wan 10 hc).bind λc v hc hv=>.bif (λ_=>?_) λ_=>.bif (λ_=>.bif (λh0=>?_) λ_=>.ok hc (Wt0 hp)) λ_=>.bif (λ_=>?_) λ_=>.bif (λ_=>.ok hc ⟨by have:=hp.1;simp only;omega,by simp,by simp⟩) λ_=>.ok hc (Wt0 hp)
 .exact(Wu8 hN hc (by have:=hp.1;simp only;omega)).bind λc w hc hw=>.ok hc ⟨by simp only;omega,by have:=hp.2.1;simp only;omega,λx hx=>by have:=hp.2.2 x hx;omega⟩
 .have h0:Wi p.1.2>0:=Ws h0;refine(Wan (Wi p.1.2) hc).bind λc k hc hk=>?_;have hk:=hk.2 h0;unfold Wi at hk;have wj:inb k.1 p.1.2.length=true:=by unfold inb;simp;omega
  refine .bifT wj ((Wu8 hN hc ?_).bind λc w hc hw=>.bifT wj (.ok hc ⟨by have:=hp.1;simp only;omega,by have:=hp.2.1;simp only[Xaf];omega,λx hx=>?_⟩))
  .rw[Wt (show k.1.toNat<p.1.2.length by omega)];have:=hp.2.2 _ (Xo (show k.1.toNat<p.1.2.length by omega));omega
  .rcases Xdu hx with hx|hx
   .have:=hp.2.2 x hx;omega
   .subst hx;show w.1.length<=1000;omega
 .refine .bifT (WC (by have:=hp.2.1;simp;omega)) (.ok hc ⟨by have:=hp.1;simp only;omega,by have:=hp.2.1;simp[Xak];omega,λx hx=>?_⟩);simp[Xak]at hx;rcases hx with hx|hx
  .have:=hp.2.2 x hx;omega
  .subst hx;simp
theorem WoH{n4 aN:Int}(hm:aN<=600):∀(n i:Nat) (who:Int) (c:Cur) (l:List Ac),1000-i<n->i<=700->WaF c->l.length=i->
  Drw (λv:List Ac×Unit=>v.1.length<=700) (Zx N n4 aN (λme vX t45 fD lu=>(some ((fD,()),(lu,())))) n who (i:Int) c l)
 |0,i,who,c,l,h,_,_,_=>by omega
 |n+1,i,who,c,l,h,hi,hc,hl=>by
  unfold Zx;refine .bif (λh0=>?_) λh0=>.ok hc (by simp only;omega);have h0:(i:Int)<aN:=Ws h0;have e:Wm .i64 (i:Int) 1=((i+1:Nat):Int):=Wn (by omega);simp only[e];have hr:∀(a:Ac),WH (l.length+ [a].length)=true:=λa=>WC (by simp;omega);have bo:∀(who:Int) (c:Cur) (a:Ac),WaF c->Drw (λv:List Ac×Unit=>v.1.length<=700) (Zx N n4 aN (λme vX t45 fD lu=>(some ((fD,()),(lu,())))) n who ((i+1:Nat):Int) c (List.append l [a])):=λwho c a hc=>WoH hm n (i+1) who c _ (by omega) (by omega) hc (by simp[Xak];omega);refine(WdH 3 hc).bind λc b hc _=>.bif (λ_=>?_) λ_=>?_
  .refine(Wan n4 hc).bind λc k hc _=>(WdH 2 hc).bind λc b hc _=>.bif (λ_=>?_) λ_=>?_
   .refine(Wan 3 hc).bind λc j hc _=>(WdH 2 hc).bind λc b hc _=>.bif (λ_=>?_) λ_=>?_
    .exact(WdH 40 hc).bind λc b hc _=>.bif (λ_=>.bifT (hr _) (bo _ _ _ hc)) λ_=>.bifT (hr _) (bo _ _ _ hc)
    .exact(WdH 40 hc).bind λc b hc _=>.bif (λ_=>.bifT (hr _) (bo _ _ _ hc)) λ_=>.bifT (hr _) (bo _ _ _ hc)
   .exact(WdH 40 hc).bind λc b hc _=>.bif (λ_=>.bifT (hr _) (bo _ _ _ hc)) λ_=>.bifT (hr _) (bo _ _ _ hc)
  .refine(WdH 2 hc).bind λc b hc _=>.bif (λ_=>?_) λ_=>?_
   .refine(Wan 3 hc).bind λc j hc _=>(WdH 2 hc).bind λc b hc _=>.bif (λ_=>?_) λ_=>?_
    .exact(WdH 40 hc).bind λc b hc _=>.bif (λ_=>.bifT (hr _) (bo _ _ _ hc)) λ_=>.bifT (hr _) (bo _ _ _ hc)
    .exact(WdH 40 hc).bind λc b hc _=>.bif (λ_=>.bifT (hr _) (bo _ _ _ hc)) λ_=>.bifT (hr _) (bo _ _ _ hc)
   .exact(WdH 40 hc).bind λc b hc _=>.bif (λ_=>.bifT (hr _) (bo _ _ _ hc)) λ_=>.bifT (hr _) (bo _ _ _ hc)
theorem Wwa(hN:1048576<N){n4 aN:Int}(hm:aN<=600)(hc:WaF c):Drw (λv:List Ac×Unit=>v.1.length<=700) (Zgo N c n4 aN):=by
 unfold Zgo;exact WoH hm N 0 0 c [] (by omega) (by omega) hc rfl
structure SD(s:Sc):Prop where
 cells:s.1.1.length=8
 map:s.1.2.1.length=8
 progs:1<=s.2.1.length/\s.2.1.length<=10
 each:∀p∈s.2.1,PB p
 acts:s.2.2.length<=700
theorem Wi8(hN:1048576<N){n8 aG bv:Int}{aJ bj:List Int}(hm:0<=bv/\bv<=500)(mz:aJ.length=8)(tT:bj.length=8)(h8:1<=n8/\n8<=4):∀(n i:Nat) (c:Cur) (l:List Pg),10-i<n->i<=4->WaF c->l.length=i->(∀p∈l,PB p)->
  Drw (λv:Sc×Unit=>SD v.1) (Zbi N 0 bv n8 aG aJ bj (λtx rI tz tA=>
  ((Zb N tz (Wm .i64 bv (1:Int))).bind λil=>
 ((Zgo N il.1.1 n8 il.2.1).bind λim=>
 (some ((im.1.1,()),(((aJ,(bj,aG)),(tA,im.2.1)),())))))) n (i:Int) c l)
 |0,i,c,l,h,_,_,_,_=>by omega
 |n+1,i,c,l,h,hi,hc,hl,hx=>by
  unfold Zbi;refine .bif (λh0=>?_) λh0=>?_
  .have h0:(i:Int)<n8:=Ws h0;have e:Wm .i64 (i:Int) 1=((i+1:Nat):Int):=Wn (by omega);simp only[e,show((0:Int)==2)=false from rfl,show((0:Int)==0)=true from rfl,Wc,We];refine(WdH 3 hc).bind λc b hc _=>(WvF hN hc).bind λc p hc hp=>.bifT (WC (by simp;omega)) (Wi8 hN hm mz tT h8 n (i+1) c _ (by omega) (by omega) hc (by simp[Xak];omega) λq hq=>?_);simp[Xak]at hq;rcases hq with hq|hq
   .exact hx q hq
   .subst hq;exact Wt0 hp
  .have h0:¬(i:Int)<n8:=of_decide_eq_false h0;have e:Wm .i64 bv 1=bv+1:=WJ (by unfold I64;omega);simp only[e];refine(Wan (bv+1) hc).bind λc k hc hk=>?_;have hk:=hk.2 (by omega);refine(Wwa (aN:=k.1) hN (by omega) hc).bind λc a hc ha=>.ok hc ⟨mz,tT,by simp only;omega,hx,ha⟩
theorem WuB(hN:1048576<N){most:Int}(hm:0<=most/\most<=500)(hc:WaF c):Drw (λv:Sc×Unit=>SD v.1) (Zgp N c 0 most):=by
 unfold Zgp;refine(Wqf hN hc).bind λc t hc ht=>(Wan 4 hc).bind λc k hc hk=>?_;have hk:=hk.2 (by decide);have e:Wm .i64 1 k.1=1+k.1:=WJ (by unfold I64;omega);simp only[e];exact Wi8 hN hm ht.1 ht.2 (by omega) N 0 c [] (by omega) (by omega) hc rfl (by simp)
theorem SD.sb{s:Sc}(h:SD s):SB s:=⟨by have:=h.cells;omega,by have:=h.map;omega,by have:=h.progs;omega,h.each,by have:=h.acts;omega⟩
theorem WoI{b7:Cur}{b9:Int}{bw aq:List Int}{aJ:List Ac}(hb:WaF b7)(cC:bw.length=8)(fw:aq.length=8)(mz:aJ.length<=700):∀(n:Nat) (l:List Pg),20-l.length<n->l.length<=11->(∀p∈l,PB p)->
  Drw (λv:Sc×Unit=>SB v.1) (Zf1 N b7 b9 bw aq aJ (λcJ cI=>(some ((b7,()),(((bw,(aq,b9)),(cI,aJ)),())))) n l)
 |0,l,h,_,_=>by omega
 |n+1,l,h,hl,hx=>by
  unfold Zf1;refine .bif (λh0=>?_) λh0=>.ok hb ⟨by simp only;omega,by simp only;omega,by simp only;omega,hx,by simp only;omega⟩;have h0:Wi l<5:=Ws h0;unfold Wi at h0;refine .bifT (WC (by simp;omega)) (WoI hb cC fw mz n _ (by simp[Xak];omega) (by simp[Xak];omega) λq hq=>?_);simp[Xak]at hq;rcases hq with hq|hq
  .exact hx q hq
  .subst hq;exact⟨by simp,by simp,by simp⟩
theorem WoF{dy:Int}{bz ca:List Int}{cN:List Pg}(ye:bz.length=8)(ua:ca.length=8)(yf:cN.length<=11)(hx:∀p∈cN,PB p):∀(n:Nat) (c:Cur) (l:List Ac),1000-l.length<n->WaF c->l.length<=800->
  Drw (λv:Sc×Unit=>SB v.1) (Zf2 N dy bz ca cN (λrJ tB ee=>(some ((tB,()),(((bz,(ca,dy)),(cN,ee)),())))) n c l)
 |0,c,l,h,_,_=>by omega
 |n+1,c,l,h,hc,hl=>by
  unfold Zf2;refine(Wan 2 hc).bind λc v hc hv=>?_;have hv:=hv.2 (by decide);have e:Wm .i64 400 v.1=400+v.1:=WJ (by unfold I64;omega);simp only[e];refine .bif (λh0=>?_) λh0=>.ok hc ⟨by simp only;omega,by simp only;omega,by simp only;omega,hx,by simp only;omega⟩;have h0:Wi l<400+v.1:=Ws h0;unfold Wi at h0;exact .bifT (WC (by simp;omega)) (WoF ye ua yf hx n c _ (by simp[Xak];omega) hc (by simp[Xak];omega))
theorem Wvj(hN:1048576<N){most:Int}(hm:0<=most/\most<=500)(hc:WaF c):Drw (λv:Sc×Unit=>SB v.1) (Zix N c most):=by
 unfold Zix;refine(WuB hN hm hc).bind λc s hc hs=>(Wan 30 hc).bind λc v hc hv=>.bif (λ_=>?_) λ_=>.bif (λ_=>?_) λ_=>.bif (λ_=>?_) λ_=>.bif (λ_=>?_) λ_=>.bif (λ_=>?_) λ_=>.ok hc hs.sb
 .exact(WpQ hN hc).bind λc t hc ht=>.ok hc ⟨ht.1,ht.2,by have:=hs.progs;simp only;omega,hs.each,by have:=hs.acts;simp only;omega⟩
 .refine(Wsr hN hc).bind λc p hc hp=>.bifT (by unfold inb;have:=hs.progs;simp;omega) (.ok hc ⟨by have:=hs.cells;simp only;omega,by have:=hs.map;simp only;omega,by have:=hs.progs;simp only[Xaf];omega,λq hq=>?_,by have:=hs.acts;simp only;omega⟩);rcases Xdu hq with hq|hq
  .exact hs.each q hq
  .subst hq;exact hp
 .exact WoI hc hs.cells hs.map hs.acts N s.1.2.1 (by omega) (by have:=hs.progs;omega) hs.each
 .exact .bifT (WC (by have:=hs.acts;simp;omega)) (.ok hc ⟨by have:=hs.cells;simp only;omega,by have:=hs.map;simp only;omega,by have:=hs.progs;simp only;omega,hs.each,by have:=hs.acts;simp[Xak];omega⟩)
 .exact WoF hs.cells hs.map (cN:=s.1.2.1) (by have:=hs.progs;omega) hs.each N c s.1.2.2 (by omega) hc (by have:=hs.acts;omega)
theorem Ws5{code:List Int}(h:code.length<=1048576):∃v,Znr N code 200=ret v/\0<=v/\v<=200:=by
 unfold Znr;have e:WpZ .i64 (Wi code) 20=((code.length/20:Nat):Int):=by
  unfold WpZ Wi;rw[Int.tdiv_eq_ediv_of_nonneg (by omega),Wug (by unfold I64;omega)];omega
 rw[e,WJ (by unfold I64;omega),show inz (20:Int)=true from rfl];simp only[We,Wal];by_cases h:2+((code.length/20:Nat):Int)>200
 .rw[Wb h];exact⟨_,rfl,by omega,by omega⟩
 .rw[Wa h];exact⟨_,rfl,by omega,by omega⟩
theorem WlV(hN:1048576<N){code:List Int}(h:code.length<=1048576):∃s:Sc,Zlv N code=ret s/\SB s:=by
 unfold Zlv;obtain⟨c,hc,e0⟩:=Wsk h hN;obtain⟨v,e1,hv⟩:=Ws5 (N:=N) h;have e2:Wm .i64 60 v=60+v:=WJ (by unfold I64;omega);obtain⟨c1,s,e3,kp,hs⟩:=Wvj (most:=60+v) hN (by omega) hc;simp only[e0,e1,ret,Xd,e2,e3];exact⟨_,rfl,hs⟩
end
end
section
def stl(x:Rt):Bool:=decide (x.phase=8)||((decide (x.phase=5)&&(decide (x.cm.phase=4)||decide (x.cm.phase=5)))||((decide (x.phase=6)||decide (x.phase=7))&&decide (x.fate≠0)))
def WfY(x:Rt):Int:=if stl x=true then(if x.phase=5 then x.cm.wv else x.stamp)else 0
theorem Wbx{x:Rt}:stl x=true↔x.phase=8\/(x.phase=5/\(x.cm.phase=4\/x.cm.phase=5))\/((x.phase=6\/x.phase=7)/\x.fate≠0):=by
 unfold stl;simp only[Bool.or_eq_true,Xi,Wh]
structure RX(x:Rt):Prop where
 doom:x.doomed=true->(1<=x.phase/\x.phase<=4)\/(x.phase=5/\x.cm.phase<=3)
 fate:x.phase=5->x.fate≠0
structure Stay(x y:Rt):Prop where
 tries:x.tries<=y.tries
 st:stl x=true->stl y=true/\WfY y=WfY x/\y.fate=x.fate/\y.regs=x.regs/\y.order=x.order
structure RG(w:Wo)(x:Rt)(q:Wo×Rt):Prop where
 doom:q.2.doomed=false
 fate:q.2.phase=5->q.2.fate≠0
 tries:q.2.tries=x.tries
 mem:q.1.mem=w.mem
 hist:q.1.hist=w.hist
section
variable{w:Wo}{x y z:Rt}{k:Nat}{p:Pg}{n:Int}{o:Opn}
theorem Stay.refl(x:Rt):Stay x x:=⟨Xs _,λh=>⟨h,rfl,rfl,rfl,rfl⟩⟩
theorem Stay.trans(h:Stay x y)(h':Stay y z):Stay x z:=
 ⟨Xgg h.tries h'.tries,λhs=>by
  obtain⟨a,b,c,d,e⟩:=h.st hs;obtain⟨a',b',c',d',e'⟩:=h'.st a;exact⟨a',b'.trans b,c'.trans c,d'.trans d,e'.trans e⟩⟩
theorem Stay.un(h:stl x=false)(ht:x.tries<=y.tries):Stay x y:=⟨ht,λhs=>by rw[h]at hs;cases hs⟩
theorem RG.same(hd:x.doomed=false){z:Rt}(h1:z.doomed=false)(h2:z.phase≠5)(h3:z.tries=x.tries):RG w x (w,z):=⟨h1,λh=>Wl h h2,h3,rfl,rfl⟩
theorem WfA(hd:x.doomed=false):(W4 x).doomed=false/\(W4 x).phase≠5/\(W4 x).tries=x.tries:=by
 unfold W4 Wdc;split
 .exact⟨rfl,by simp,rfl⟩
 .exact⟨hd,by simp,rfl⟩
theorem WoP(hd:x.doomed=false){out:Int}(ho:out≠0):RG w x (WbV w x k out):=by
 unfold WbV Wlb;simp only;generalize (if out=2 then []else x.writes)=rows;split
 .exact⟨rfl,by simp,rfl,rfl,rfl⟩
 .exact⟨hd,λ_=>ho,rfl,rfl,rfl⟩
theorem WqR(hd:x.doomed=false)(h5:x.phase≠5):RG w x (Weg w x):=⟨hd,λh=>Wl h h5,rfl,rfl,rfl⟩
theorem Wrq(hd:x.doomed=false)(h5:x.phase≠5):(Wd9 w x o).doomed=false/\(Wd9 w x o).phase≠5/\(Wd9 w x o).tries=x.tries:=by
 unfold Wd9;cases Wa1 x.writes o.2.2.1 with
 |some v=>exact⟨hd,h5,rfl⟩
 |none=>
  simp only;generalize WV w.mem x.rv _=b;split
  .exact WfA (x:={x with busy:=true,pb:=b}) hd
  .split
   .exact⟨hd,h5,rfl⟩
   .exact⟨hd,h5,rfl⟩
theorem Wsq(hd:x.doomed=false)(h5:x.phase≠5){code:List Opn}:RG w x (Wdr w x k code):=by
 unfold Wdr;split
 .exact WoP hd (by omega)
 .split
  .exact WqR hd h5
  .exact⟨hd,λh=>Wl h h5,rfl,rfl,rfl⟩
theorem Wsl(hd:x.doomed=false)(h5:x.phase≠5):RG w x (Wc5 w x k o):=by
 unfold Wc5;cases Wb7 w.holds ((k:Int)+1) (WbS o).1 (WbS o).2 with
 |none=>
  obtain⟨a,b,c⟩:=WfA hd;exact⟨a,λh=>Wl h b,c,rfl,rfl⟩
 |some hs=>exact⟨hd,λh=>Wl h h5,rfl,rfl,rfl⟩
theorem Wu3(hd:x.doomed=false)(h5:x.phase≠5):RG w x (Wla w x k p):=by
 unfold Wla;split
 .exact WoP hd (by omega)
 .simp only;generalize opN p.1 x.pc=o;split
  .obtain⟨a,b,c⟩:=Wrq (w:=w) (o:=o) hd h5;exact⟨a,λh=>Wl h b,c,rfl,rfl⟩
  .split
   .exact Wsq hd h5
   .split
    .exact⟨hd,λh=>by(change (2:Int)=5 at h;omega),rfl,rfl,rfl⟩
    .split
     .exact Wsl hd h5
     .repeat' split
      all_goals exact⟨hd,λh=>Wl h h5,rfl,rfl,rfl⟩
theorem WuJ(hd:x.doomed=false)(h5:x.phase≠5):RG w x (Wen w x k):=by
 unfold Wen
 repeat' split
 all_goals first|exact⟨hd,λh=>Wl h h5,rfl,rfl,rfl⟩|exact⟨rfl,λh=>by(change (1:Int)=5 at h;omega),rfl,rfl,rfl⟩
theorem Wre(hd:x.doomed=false)(h5:x.phase≠5):RG w x (w,Wek x):=by
 unfold Wek;split
 .exact⟨rfl,λh=>by(change (6:Int)=5 at h;omega),rfl,rfl,rfl⟩
 .split
  .exact⟨hd,λh=>by(change (1:Int)=5 at h;omega),rfl,rfl,rfl⟩
  .exact⟨hd,λh=>Wl h h5,rfl,rfl,rfl⟩
theorem WhZ(hd:x.doomed=false)(h5:x.phase≠5):RG w x (WbL w x):=by
 unfold WbL;split
 .exact WqR hd h5
 .exact⟨hd,λh=>by(change (4:Int)=5 at h;omega),rfl,rfl,rfl⟩
theorem WmS(hd:x.doomed=false)(h5:x.phase≠5):RG w x (w,Wba w x):=by
 unfold Wba;split
 .simp only;split
  .exact⟨rfl,λh=>by(change (6:Int)=5 at h;omega),rfl,rfl,rfl⟩
  .exact⟨hd,λh=>Wl h h5,rfl,rfl,rfl⟩
 .exact⟨hd,λh=>by(change (1:Int)=5 at h;omega),rfl,rfl,rfl⟩
theorem WgW(m:Mm)(c:Cm):m.1<=(Wz m c).1.1:=by
 have hs:∀i w,(WmU m i w).1=m.1:=λ_ _=>rfl;unfold Wz WbW Wav WkB tick;simp only
 repeat' split
 all_goals first|exact Xs _|(simp only[hs];omega)|(simp only;omega)
structure RS(w:Wo)(x:Rt)(q:Wo×Rt):Prop where
 rx:RX q.2
 stay:Stay x q.2
 clock:w.mem.1<=q.1.mem.1
 hist:∃l,q.1.hist=w.hist++l
theorem RG.rs{q:Wo×Rt}(h:RG w x q)(hs:stl x=false):RS w x q:=⟨⟨(λhd=>by rw[h.doom]at hd;cases hd),h.fate⟩,Stay.un hs (by rw[h.tries];omega),by rw[h.mem];omega,[],by rw[h.hist];simp⟩
theorem Wqw(c:Cm):Wbk c 6=6:=by unfold Wbk;rw[Wa (by omega),Wa (by omega)]
theorem WrO(c:Cm):Wbk c 5=5:=by unfold Wbk;rw[Wa (by omega),Wa (by omega)]
theorem WoA{c:Cm}{ph:Int}(h:ph=5\/ph=6):(WB c ph).wv=c.wv/\((WB c ph).phase=c.phase\/(WB c ph).phase=ph):=by
 unfold WB;split
 .refine⟨rfl,.inr ?_⟩;show Wbk c ph=ph;rcases h with rfl|rfl
  .exact WrO c
  .exact Wqw c
 .exact⟨rfl,.inl rfl⟩
theorem WrP(hx:RX x)(h5:x.phase=5):RS w x (WaG w x k):=by
 unfold WaG;split
 .rename_i hd;have h3:x.cm.phase<=3:=by rcases hx.doom hd with h|h<;>omega
  have kF:stl x=false:=by rw[Xbw,Ne,Wbx];omega
  split
  .exact⟨⟨(λhd=>by cases hd),λh=>by(change (6:Int)=5 at h;omega)⟩,Stay.un kF (Xs _),Xs _,[],by simp⟩
  .exact⟨⟨(λhd=>by cases hd),hx.fate⟩,Stay.un kF (Xs _),Xs _,[],by simp⟩
 .rename_i hd;have cL:x.doomed=false:=by simpa using hd
  have ml:=WgW w.mem x.cm;have hf:=hx.fate h5;simp only;refine⟨?_,?_,ml,?_⟩
  .unfold Wbq Wdc;simp only;split
   .exact⟨(λhd=>by cases hd),λh=>by(change (6:Int)=5 at h;omega)⟩
   .split
    .have cd:(if x.fate=2 then(6:Int)else 7)≠5:=by split<;>omega
     exact⟨(λhd=>by(change x.doomed=true at hd;rw[cL]at hd;cases hd)),λh=>Wl h cd⟩
    .exact⟨(λhd=>by(change x.doomed=true at hd;rw[cL]at hd;cases hd)),λ_=>hf⟩
  .have qO:(Wbq {x with cm:=(Wz w.mem x.cm).2}).tries=x.tries:=by
    unfold Wbq Wdc;simp only;split
    .rfl
    .split<;>rfl
   refine⟨by rw[qO];omega,λhs=>?_⟩;have yg:=Wbx.1 hs;have aS:WfY x=x.cm.wv:=by unfold WfY;rw[Wb hs,Wb h5]
   have key:(Wz w.mem x.cm).2.wv=x.cm.wv/\((Wz w.mem x.cm).2.phase=4\/(Wz w.mem x.cm).2.phase=5\/(Wz w.mem x.cm).2.phase=6):=by
    unfold Wz;simp only;have e45:=yg;rcases(show x.cm.phase=4\/x.cm.phase=5 by omega)with h4|h4
    .rw[Wa (by omega),Wa (by omega),Wa (by omega),Wb h4];have:=WoA (c:=x.cm) (ph:=5) (.inl rfl);exact⟨this.1,by show(WB x.cm 5).phase=4\/(WB x.cm 5).phase=5\/(WB x.cm 5).phase=6;omega⟩
    .rw[Wa (by omega),Wa (by omega),Wa (by omega),Wa (by omega),Wb h4];have:=WoA (c:=x.cm) (ph:=6) (.inr rfl);exact⟨this.1,by show(WB x.cm 6).phase=4\/(WB x.cm 6).phase=5\/(WB x.cm 6).phase=6;omega⟩
   obtain⟨k1,k2⟩:=key;rw[aS];generalize (Wz w.mem x.cm).2=c at*;unfold Wbq;simp only;rw[Wa (by omega)];by_cases h6:c.phase=6
   .rw[Wb h6];have cd:(if x.fate=2 then(6:Int)else 7)=6\/(if x.fate=2 then(6:Int)else 7)=7:=by split<;>simp
    generalize (if x.fate=2 then(6:Int)else 7)=ph at*;have ir:stl {x with stamp:=c.wv,cm:={},phase:=ph}=true:=Wbx.2 (.inr (.inr ⟨cd,hf⟩));refine⟨ir,?_,rfl,rfl,rfl⟩;unfold WfY;rw[Wb ir,Wa (by show¬ph=5;omega)];exact k1
   .rw[Wa h6];have ir:stl {x with cm:=c}=true:=Wbx.2 (.inr (.inl ⟨h5,by show c.phase=4\/c.phase=5;omega⟩));refine⟨ir,?_,rfl,rfl,rfl⟩;unfold WfY;rw[Wb ir,Wb h5];exact k1
  .split
   .exact⟨_,rfl⟩
   .exact⟨[],by simp⟩
theorem Wt4(hx:RX x)(cd:0<=x.phase/\x.phase<=8):RS w x (Wam w x k p):=by
 have kF:x.phase<=4->stl x=false:=λh=>by rw[Xbw,Ne,Wbx];omega
 unfold Wam;by_cases hd:x.doomed=true/\1<=x.phase/\x.phase<=4
 .rw[Wb hd];exact⟨⟨(λhd=>by cases hd),λh=>by(change (6:Int)=5 at h;omega)⟩,Stay.un (kF (by omega)) (Xs _),Xs _,[],by simp⟩
 rw[Wa hd];have cL:x.phase≠5->x.doomed=false:=λh5=>by
  rw[Xbw];intro h;rcases hx.doom h with h1|h1
  .exact hd ⟨h,h1⟩
  .exact h5 h1.1
 by_cases h0:x.phase=0
 .rw[Wb h0];exact(WuJ (cL (by omega)) (by omega)).rs (kF (by omega))
 rw[Wa h0];by_cases h1:x.phase=1
 .rw[Wb h1];exact(Wu3 (cL (by omega)) (by omega)).rs (kF (by omega))
 rw[Wa h1];by_cases h2:x.phase=2
 .rw[Wb h2];exact(Wre (cL (by omega)) (by omega)).rs (kF (by omega))
 rw[Wa h2];by_cases h3:x.phase=3
 .rw[Wb h3];exact(WhZ (cL (by omega)) (by omega)).rs (kF (by omega))
 rw[Wa h3];by_cases h4:x.phase=4
 .rw[Wb h4];exact(WmS (cL (by omega)) (by omega)).rs (kF (by omega))
 rw[Wa h4];by_cases h5:x.phase=5
 .rw[Wb h5];exact WrP hx h5
 rw[Wa h5];have gD:=cL h5;by_cases h6:x.phase=6
 .rw[Wb h6];have yh:∀ph,ph≠5->RX {x with phase:=ph}:=λph hp=>⟨(λhd=>by(change x.doomed=true at hd;rw[gD]at hd;cases hd)),λh=>Wl h hp⟩;by_cases hz:x.undos.length>0
  .rw[Wb hz];refine⟨⟨(λhd=>by(change x.doomed=true at hd;rw[gD]at hd;cases hd)),λh=>Wl h h5⟩,⟨Xs _,λhs=>?_⟩,Xs _,[],by simp[Weg]⟩;have ir:stl (Weg w x).2=true:=by
    have:=Wbx.1 hs;rw[Wbx];show x.phase=8\/(x.phase=5/\_)\/((x.phase=6\/x.phase=7)/\x.fate≠0);omega
   refine⟨ir,?_,rfl,rfl,rfl⟩;unfold WfY;rw[Wb ir,Wb hs];rfl
  .rw[Wa hz];refine⟨yh 7 (by omega),⟨Xs _,λhs=>?_⟩,Xs _,[],by simp⟩;have ir:stl {x with phase:=7}=true:=by
    have:=Wbx.1 hs;exact Wbx.2 (.inr (.inr ⟨.inr rfl,by show x.fate≠0;omega⟩))
   refine⟨ir,?_,rfl,rfl,rfl⟩;unfold WfY;rw[Wb ir,Wb hs,Wa h5,Wa (by show¬(7:Int)=5;omega)]
 rw[Wa h6];by_cases h7:x.phase=7
 .rw[Wb h7];by_cases hf:x.fate=0
  .rw[Wb hf];have mC:stl x=false:=by rw[Xbw,Ne,Wbx];omega
   exact⟨⟨(λhd=>by cases hd),λh=>by(change (0:Int)=5 at h;omega)⟩,Stay.un mC (by show x.tries<=x.tries+1;omega),Xs _,[],by simp⟩
  .rw[Wa hf];refine⟨⟨(λhd=>by cases hd),λh=>by(change (8:Int)=5 at h;omega)⟩,⟨Xs _,λhs=>?_⟩,Xs _,[],by simp[Wlb]⟩;have ir:stl (Wlb {w with holds:=W3 w.holds ((k:Int)+1)} x k).2=true:=Wbx.2 (.inl rfl);refine⟨ir,?_,rfl,rfl,rfl⟩;unfold WfY;rw[Wb ir,Wb hs,Wa h5];rfl
 .rw[Wa h7];exact⟨hx,Stay.refl x,Xs _,[],by simp⟩
end
def WX(w:Wo):Prop:=∀(i:Nat) (h:i<w.roots.length),RX w.roots[i]
structure WStay(w v:Wo):Prop where
 len:w.roots.length=v.roots.length
 root:∀(i:Nat) (h:i<w.roots.length) (h':i<v.roots.length),Stay w.roots[i] v.roots[i]
 hist:∃l,v.hist=w.hist++l
 clock:w.mem.1<=v.mem.1
section
variable{s:Sc}{w v u:Wo}{n:Int}{a:Ac}{k:Nat}
theorem WStay.refl(w:Wo):WStay w w:=⟨rfl,λi h h'=>Stay.refl _,⟨[],by simp⟩,Xs _⟩
theorem WStay.trans(h:WStay w v)(h':WStay v u):WStay w u:=by
 obtain⟨l,hl⟩:=h.hist;obtain⟨l',bQ⟩:=h'.hist;exact⟨h.len.trans h'.len,λi a b=>(h.root i a (by rw[←h.len];exact a)).trans (h'.root i (by rw[←h.len];exact a) b),⟨l++l',by rw[bQ,hl,List.append_assoc]⟩,Xgg h.clock h'.clock⟩
theorem WkS{q:Wo×Rt}{w0:Wo}(hx:WX w0)(hk:k<w0.roots.length)(hr:q.1.roots=w0.roots)(hq:RS w0 w0.roots[k] q):WX (Wo.put q k)/\WStay w0 (Wo.put q k):=by
 have hlen:(q.1.roots.set k q.2).length=w0.roots.length:=by rw[Xaf,hr]
 refine⟨λi hi=>?_,hlen.symm,λi hi dB=>?_,hq.hist,hq.clock⟩
 .change i<(q.1.roots.set k q.2).length at hi;show RX (q.1.roots.set k q.2)[i];rw[Xaq];by_cases he:k=i
  .rw[Wb he];exact hq.rx
  .rw[Wa he];simp only[hr];exact hx i (by rw[←hlen];exact hi)
 .have yi:i<(q.1.roots.set k q.2).length:=dB;show Stay _ ((q.1.roots.set k q.2)[i]'yi);rw[Xaq];by_cases he:k=i
  .subst he;rw[Wb rfl];exact hq.stay
  .rw[Wa he];simp only[hr];exact Stay.refl _
theorem WiZ(h:WOk s.2.1 n w)(hk:k<w.roots.length):(Wam {w with now:=w.now+1} w.roots[k] k (s.2.1.getD k pg0)).1.roots=w.roots:=
 (Wj0 (w:={w with now:=w.now+1}) (k:=k) (WmH h.progs (by rw[←h.len];exact hk)) ⟨h.mem,h.shelf,h.holds⟩ (h.root k hk) (by have:=h.l4;have:=h.len;omega) h.n0).roots
theorem Wmd(h:WOk s.2.1 n w)(hx:WX w):WX (Wgy s w a)/\WStay w (Wgy s w a):=by
 have d9:WX {w with now:=w.now+1}:=hx;have lI:WStay w {w with now:=w.now+1}:=⟨rfl,λi h h'=>Stay.refl _,⟨[],by simp⟩,Xs _⟩;unfold Wgy;simp only;split
 .rename_i hb;have hk:a.2.1.toNat<w.roots.length:=by omega
  rw[Wt hk];have oN:=hx _ hk;split
  .unfold Wka;rw[Wt (show a.2.1.toNat<({w with now:=w.now+1}:Wo).roots.length from hk)];obtain⟨c,d⟩:=WkS (w0:={w with now:=w.now+1}) d9 hk (WiZ h hk) (Wt4 oN (h.root _ hk).phase);exact⟨c,lI.trans d⟩
  .split
   .split
    .rename_i hf;have cd:=hf.1;obtain⟨c,d⟩:=WkS (w0:={w with now:=w.now+1}) (q:=({w with now:=w.now+1},{w.roots[a.2.1.toNat]with fam:=WaM w.mem w.roots[a.2.1.toNat].fam a.2.2.toNat ((s.2.1.getD a.2.1.toNat pg0).2.getD a.2.2.toNat [])})) d9 hk rfl
      ⟨⟨oN.doom,oN.fate⟩,Stay.un (by rw[Xbw,Ne,Wbx,cd];omega) (Xs _),Xs _,[],by simp⟩
     exact⟨c,lI.trans d⟩
    .exact⟨d9,lI⟩
   .split
    .split
     .rename_i hf;have mC:stl w.roots[a.2.1.toNat]=false:=by rw[Xbw,Ne,Wbx];omega
      obtain⟨c,d⟩:=WkS (w0:={w with now:=w.now+1}) (q:=({w with now:=w.now+1},{w.roots[a.2.1.toNat]with doomed:=true})) d9 hk rfl
       ⟨⟨λ_=>hf,oN.fate⟩,Stay.un mC (Xs _),Xs _,[],by simp⟩
      exact⟨c,lI.trans d⟩
     .exact⟨d9,lI⟩
    .exact⟨d9,lI⟩
 .exact⟨d9,lI⟩
theorem Wvq:WX (Wgk s):=λi h=>by
 simp only[Wgk,Xbc];exact⟨(λhd=>by cases hd),λh=>by(change (0:Int)=5 at h;omega)⟩
end
end
section
def lkA(c:Cm)(j:Nat):Prop:=(c.phase=1/\(j:Int)<c.pos)\/c.phase=2\/c.phase=3\/c.phase=4\/(c.phase=5/\c.pos<=j)\/(c.phase=7/\(j:Int)<=c.pos)
def lkd(c:Cm)(i:Int):Prop:=∃(j:Nat) (h:j<c.puts.length),c.puts[j].1=i/\lkA c j
def owner(m:Mm)(i:Int):Int:=(Ww m i).2.2
structure CmLk(m:Mm)(c:Cm):Prop where
 own:∀i,0<=i->i<=7->(owner m i=c.who↔lkd c i)
 ver:c.phase=3\/c.phase=4\/c.phase=5->c.wv<=m.1/\∀i,lkd c i->(Ww m i).2.1<=c.wv
section
variable{m:Mm}{c c':Cm}{i j:Int}{w:Wd}
theorem Wbt(hm:W2 m=true)(hi:0<=i/\i<=7)(hj:0<=j/\j<=7):Ww (WmU m i w) j=if j=i then w else Ww m j:=by
 have h8:=(WP hm).1;unfold Ww WmU WmT Wcp;simp only;rw[Wt (show j.toNat<(m.2.set i.toNat w).length by rw[Xaf];omega),Xaq];by_cases h:j=i
 .subst h;rw[Wb rfl,Wb rfl]
 .rw[Wa (by omega),Wa h,Wt (show j.toNat<m.2.length by omega)]
theorem Wdj(hp:c'.puts=c.puts)(h:∀j:Nat,j<c.puts.length->(lkA c' j↔lkA c j)):lkd c' i↔lkd c i:=by
 unfold lkd;rw[hp];exact⟨λ⟨j,hj,a,b⟩=>⟨j,hj,a,(h j hj).1 b⟩,λ⟨j,hj,a,b⟩=>⟨j,hj,a,(h j hj).2 b⟩⟩
theorem Ws2(h:CmOk c){a b:Nat}(ha:a<c.puts.length)(hb:b<c.puts.length)(e:c.puts[a].1=c.puts[b].1):a=b:=by
 have hp:=Xal.1 h.pup;rcases Xdl a b with h1|h1|h1
 .have:=hp a b ha hb h1;omega
 .exact h1
 .have:=hp b a hb ha h1;omega
theorem CmLk.same(h:CmLk m c)(hp:c'.puts=c.puts)(hw:c'.who=c.who)(hv:c'.wv=c.wv)(ha:∀j:Nat,j<c.puts.length->(lkA c' j↔lkA c j))(cd:c'.phase=3\/c'.phase=4\/c'.phase=5->c.phase=3\/c.phase=4\/c.phase=5):CmLk m c':=
 ⟨λi h0 h7=>by rw[hw,h.own i h0 h7,Wdj hp ha],λh3=>by
  obtain⟨a,b⟩:=h.ver (cd h3);rw[hv];exact⟨a,λi hi=>b i ((Wdj hp ha).1 hi)⟩⟩
theorem Wko(n:Int)(j:Nat)(hn:0<=n):lkA (Wao c n) j↔(j:Int)<n:=by
 by_cases h:n=0
 .have:Wao c n={c with phase:=8,pos:=0}:=by unfold Wao;rw[Wb h]
  rw[this];unfold lkA;simp only;omega
 .have:Wao c n={c with phase:=7,pos:=n-1}:=by unfold Wao;rw[Wa h]
  rw[this];unfold lkA;simp only;constructor
  .intro hz;omega
  .intro hz;right;right;right;right;right;exact⟨trivial,by omega⟩
theorem WaR(c:Cm)(ph:Int):(WB c ph).puts=c.puts/\(WB c ph).who=c.who/\(WB c ph).wv=c.wv:=by
 unfold WB Wdi;split<;>exact⟨rfl,rfl,rfl⟩
theorem Wcj(c:Cm)(n:Int):(Wao c n).puts=c.puts/\(Wao c n).who=c.who/\(Wao c n).wv=c.wv:=by
 unfold Wao;split<;>exact⟨rfl,rfl,rfl⟩
theorem Wdd(c:Cm)(n:Int):(Wao c n).phase=7\/(Wao c n).phase=8:=by unfold Wao;split<;>simp
theorem WpV(m:Mm)(c:Cm):(Wz m c).2.who=c.who:=by
 unfold Wz;simp only;have h1:=λph=>(WaR c ph).2.1;have h2:=λn=>(Wcj c n).2.1
 repeat' split
 all_goals first|exact h1 _|exact h2 _|rfl
theorem Wrp(h:CmOk c)(hm:W2 m=true)(hc:CmLk m c):CmLk (Wz m c).1 (Wz m c).2:=by
 have ct:=h.pos;have aS:c.phase=1\/c.phase=4\/c.phase=5\/c.phase=7->c.steps=c.puts.length:=λhp=>by unfold Cm.steps;rw[Wb hp]
 have hw:=h.who;have fa:∀n:Int,0<=n->(∀j:Nat,j<c.puts.length->((j:Int)<n↔lkA c j))->CmLk m (Wao c n):=λn h0 hn=>by
  obtain⟨p1,p2,p3⟩:=Wcj c n;refine hc.same p1 p2 p3 (λj hj=>by rw[Wko n j h0];exact hn j hj) λh3=>?_;rcases Wdd c n with h|h<;>omega
 unfold Wz;simp only;by_cases h1:c.phase=1
 .rw[Wb h1];obtain⟨j,hj,e1,e2,e3,e4⟩:=h.put (by omega);have hs:=aS (by omega);rw[e2];by_cases ho:(Ww m c.puts[j].1).2.2=0
  .rw[Wb ho];obtain⟨p1,p2,p3⟩:=WaR c 2;have cd:∀l:Nat,l<c.puts.length->(lkA (WB c 2) l↔lkA c l\/l=j):=λl hl=>by
    unfold WB;by_cases c9:c.pos+1=c.steps
    .rw[Wb c9];have:(Wdi c 2).phase=2:=by show Wbk c 2=2;unfold Wbk;rw[Wa (by omega),Wa (by omega)]
     unfold lkA;rw[this];omega
    .rw[Wa c9];unfold lkA;simp only;omega
   refine⟨λi h0 h7=>?_,λh3=>?_⟩
   .rw[p2];have hcl:=hc.own i h0 h7;unfold owner WkB at*;rw[Wbt hm e3 ⟨h0,h7⟩];by_cases hi:i=c.puts[j].1
    .rw[Wb hi];refine⟨λ_=>⟨j,by rw[p1];exact hj,by simp only[p1];exact hi.symm,(cd j hj).2 (.inr rfl)⟩,λ_=>rfl⟩
    .rw[Wa hi,hcl];refine⟨λ⟨l,hl,a,b⟩=>⟨l,by rw[p1];exact hl,by simp only[p1];exact a,(cd l hl).2 (.inl b)⟩,λ⟨l,hl,a,b⟩=>?_⟩;simp only[p1]at hl a;rcases(cd l hl).1 b with b|b
     .exact⟨l,hl,a,b⟩
     .subst b;exact Wl a.symm hi
   .exfalso;have r9:(WB c 2).phase=1\/(WB c 2).phase=2:=by
     unfold WB;split
     .right;show Wbk c 2=2;unfold Wbk;rw[Wa (by omega),Wa (by omega)]
     .left;exact h1
    change (WB c 2).phase=3\/(WB c 2).phase=4\/(WB c 2).phase=5 at h3;omega
  .rw[Wa ho];exact fa _ (by omega) λl hl=>by unfold lkA;omega
 rw[Wa h1];by_cases h2:c.phase=2
 .rw[Wb h2];have ht:=WjR hm;by_cases hz:(tick m).2=0
  .rw[Wb hz,ht.2.2.2.2 hz];exact fa _ (by omega) λl hl=>by unfold lkA;omega
  .rw[Wa hz];obtain⟨t1,t2⟩:=ht.2.2.2.1 hz;have ar:∀i,Ww (tick m).1 i=Ww m i:=λi=>by rw[t2];rfl
   have cd:∀l:Nat,l<c.puts.length->(lkA (Wdi {c with wv:=(tick m).2} 3) l↔lkA c l):=λl hl=>by
    have eB:c.puts.length≠0:=by omega
    change l<c.puts.length at hl;have:(Wdi {c with wv:=(tick m).2} 3).phase=3\/(Wdi {c with wv:=(tick m).2} 3).phase=4:=by
     show Wbk {c with wv:=(tick m).2} 3=3\/Wbk {c with wv:=(tick m).2} 3=4;unfold Wbk;rw[Wa (λhz=>eB hz.2)];split<;>simp
    unfold lkA;omega
   refine⟨λi h0 h7=>?_,λh3=>⟨by show(tick m).2<=(tick m).1.1;rw[t2];simp only;omega,λi hi=>?_⟩⟩
   .unfold owner;rw[ar];exact(hc.own i h0 h7).trans (Wdj (c':=Wdi {c with wv:=(tick m).2} 3) (c:=c) rfl cd).symm
   .rw[ar];obtain⟨l,hl,a,b⟩:=hi;change l<c.puts.length at hl;change c.puts[l].1=i at a;have hr:=h.rows _ (Xo hl);have hcl:=WeB.1 (WeP hm hr.1);rw[←a];show(Ww m c.puts[l].1).2.1<=(tick m).2;omega
 rw[Wa h2];by_cases h3:c.phase=3
 .rw[Wb h3];split
  .exact fa _ (by omega) λl hl=>by unfold lkA;omega
  .obtain⟨p1,p2,p3⟩:=WaR c 4;refine hc.same p1 p2 p3 (λl hl=>?_) λ_=>.inl h3;unfold WB;split
   .have:(Wdi c 4).phase=4:=by show Wbk c 4=4;unfold Wbk;rw[Wa (λhz=>by have:=hz.2;omega),Wa (by omega)]
    show lkA (Wdi c 4) l↔lkA c l;unfold lkA;omega
   .unfold lkA;simp only;omega
 rw[Wa h3];by_cases h4:c.phase=4
 .rw[Wb h4];obtain⟨j,hj,e1,e2,e3,e4⟩:=h.put (by omega);have hs:=aS (by omega);rw[e2];obtain⟨p1,p2,p3⟩:=WaR c 5;have ar:∀i,0<=i->i<=7->(Ww (WbW m c.puts[j].1 c.who c.puts[j].2) i).2=(Ww m i).2:=λi h0 h7=>by
   unfold WbW;split
   .rw[Wbt hm e3 ⟨h0,h7⟩];split
    .rename_i hi;rw[hi]
    .rfl
   .rfl
  have cd:∀l:Nat,l<c.puts.length->(lkA (WB c 5) l↔lkA c l):=λl hl=>by
   unfold WB;split
   .have:(Wdi c 5).phase=5/\(Wdi c 5).pos=0:=⟨WrO c,rfl⟩;unfold lkA;omega
   .unfold lkA;simp only;omega
  refine⟨λi h0 h7=>?_,λ_=>?_⟩
  .unfold owner;rw[ar i h0 h7,p2,Wdj p1 cd];exact hc.own i h0 h7
  .obtain⟨v1,v2⟩:=hc.ver (.inr (.inl h4));rw[p3];refine⟨by unfold WbW;split<;>exact v1,λi hi=>?_⟩;have dB:=(Wdj p1 cd).1 hi;obtain⟨l,hl,a,b⟩:=dB;have hr:=h.rows _ (Xo hl);rw[ar i (by omega) (by omega)];exact v2 i ⟨l,hl,a,b⟩
 rw[Wa h4];have qR:∀(ver:Int) (j:Nat) (hj:j<c.puts.length),0<=c.puts[j].1/\c.puts[j].1<=7->lkA c j->(Ww m c.puts[j].1).2.1<=ver->ver<=m.1->Wav m c.puts[j].1 c.who ver=WmU m c.puts[j].1 ((Ww m c.puts[j].1).1,ver,0):=λver j hj qS hl rV gl=>by
  have ho:=(hc.own c.puts[j].1 qS.1 qS.2).2 ⟨j,hj,rfl,hl⟩;unfold owner at ho;unfold Wav;rw[Wb ⟨ho,rV,gl⟩]
 have iE:∀(ver:Int) (c':Cm) (j:Nat) (hj:j<c.puts.length),0<=c.puts[j].1/\c.puts[j].1<=7->c'.puts=c.puts->c'.who=c.who->c'.wv=c.wv->(∀l:Nat,l<c.puts.length->(lkA c' l↔lkA c l/\l≠j))->(c'.phase=3\/c'.phase=4\/c'.phase=5->c.phase=3\/c.phase=4\/c.phase=5)->CmLk (WmU m c.puts[j].1 ((Ww m c.puts[j].1).1,ver,0)) c':=λver c' j hj qS p1 p2 p3 cd uf=>by
  have fb:∀i,lkd c' i↔lkd c i/\i≠c.puts[j].1:=λi=>by
   unfold lkd;rw[p1];refine⟨λ⟨l,hl,a,b⟩=>?_,λ⟨⟨l,hl,a,b⟩,hne⟩=>?_⟩
   .have:=(cd l hl).1 b;exact⟨⟨l,hl,a,this.1⟩,λhe=>this.2 (Ws2 h hl hj (a.trans he))⟩
   .exact⟨l,hl,a,(cd l hl).2 ⟨b,λhe=>hne (by subst he;exact a.symm)⟩⟩
  refine⟨λi h0 h7=>?_,λh3=>?_⟩
  .unfold owner;rw[Wbt hm qS ⟨h0,h7⟩,p2,fb];by_cases hi:i=c.puts[j].1
   .rw[Wb hi];exact⟨λhz=>by(change (0:Int)=c.who at hz;omega),λhz=>Wl hi hz.2⟩
   .rw[Wa hi];exact⟨λhz=>⟨(hc.own i h0 h7).1 hz,hi⟩,λhz=>(hc.own i h0 h7).2 hz.1⟩
  .obtain⟨v1,v2⟩:=hc.ver (uf h3);rw[p3];refine⟨v1,λi hi=>?_⟩;have dB:=(fb i).1 hi;obtain⟨⟨l,hl,a,b⟩,hne⟩:=dB;have hr:=h.rows _ (Xo hl);rw[Wbt hm qS (by rw[←a];exact hr.1),Wa hne];exact v2 i ⟨l,hl,a,b⟩
 by_cases h5:c.phase=5
 .rw[Wb h5];obtain⟨j,hj,e1,e2,e3,e4⟩:=h.put (by omega);have hs:=aS (by omega);rw[e2];obtain⟨v1,v2⟩:=hc.ver (.inr (.inr h5));have kG:lkA c j:=by unfold lkA;omega
  rw[qR c.wv j hj e3 kG (v2 _ ⟨j,hj,rfl,kG⟩) v1];obtain⟨p1,p2,p3⟩:=WaR c 6;refine iE c.wv (WB c 6) j hj e3 p1 p2 p3 (λl hl=>?_) λ_=>.inr (.inr h5);unfold WB;split
  .have:(Wdi c 6).phase=6:=Wqw c;unfold lkA;omega
  .unfold lkA;simp only;omega
 rw[Wa h5];by_cases h7:c.phase=7
 .rw[Wb h7];obtain⟨j,hj,e1,e2,e3,e4⟩:=h.put (by omega);have hs:=aS (by omega);rw[e2];have kG:lkA c j:=by unfold lkA;omega
  have hcl:=WeB.1 (WeP hm e3);rw[qR _ j hj e3 kG (Xs _) hcl.2.1.2];obtain⟨p1,p2,p3⟩:=Wcj c c.pos;refine iE _ (Wao c c.pos) j hj e3 p1 p2 p3 (λl hl=>?_) λh3=>?_
  .rw[Wko _ _ (by omega)];unfold lkA;omega
  .rcases Wdd c c.pos with h|h<;>omega
 .rw[Wa h7];exact hc
theorem WpI(h:CmOk c)(hc:CmLk m c):CmLk m (W7 c):=by
 have ct:=h.pos;have fa:∀n:Int,0<=n->(∀j:Nat,j<c.puts.length->((j:Int)<n↔lkA c j))->CmLk m (Wao c n):=λn h0 hn=>by
  obtain⟨p1,p2,p3⟩:=Wcj c n;refine hc.same p1 p2 p3 (λj hj=>by rw[Wko n j h0];exact hn j hj) λh3=>?_;rcases Wdd c n with h|h<;>omega
 unfold W7;split
 .exact fa _ (by omega) λl hl=>by unfold lkA;omega
 .split
  .exact fa _ (by omega) λl hl=>by unfold lkA;omega
  .exact hc
theorem Wm9(c:Cm):(W7 c).who=c.who:=by
 have h2:=λn=>(Wcj c n).2.1;unfold W7
 repeat' split
 all_goals first|exact h2 _|rfl
theorem WpS(h:CmOk c)(hm:W2 m=true){who:Int}(h1:who≠c.who)(h0:who≠0)(hi:0<=i/\i<=7):(owner (Wz m c).1 i=who↔owner m i=who)/\(owner m i=who->Ww (Wz m c).1 i=Ww m i):=by
 have bp:(owner m i=who↔owner m i=who)/\(owner m i=who->Ww m i=Ww m i):=⟨Iff.rfl,λ_=>rfl⟩;have dP:∀(a:Int) (wd:Wd),0<=a/\a<=7->(Ww m a).2.2≠who->wd.2.2≠who->(owner (WmU m a wd) i=who↔owner m i=who)/\(owner m i=who->Ww (WmU m a wd) i=Ww m i):=λa wd ha hne hw=>by
  unfold owner;rw[Wbt hm ha hi];by_cases hia:i=a
  .subst hia;rw[Wb rfl];exact⟨⟨λhz=>Wl hz hw,λhz=>Wl hz hne⟩,λhz=>Wl hz hne⟩
  .rw[Wa hia];exact⟨Iff.rfl,λ_=>rfl⟩
 unfold Wz;simp only;by_cases p1:c.phase=1
 .rw[Wb p1];obtain⟨j,hj,e1,e2,e3,e4⟩:=h.put (by omega);rw[e2];by_cases ho:(Ww m c.puts[j].1).2.2=0
  .rw[Wb ho];exact dP _ _ e3 (by omega) (by show c.who≠who;omega)
  .rw[Wa ho];exact bp
 rw[Wa p1];by_cases p2:c.phase=2
 .rw[Wb p2];have ht:=WjR hm;by_cases hz:(tick m).2=0
  .rw[Wb hz];simp only;rw[ht.2.2.2.2 hz];exact bp
  .rw[Wa hz];simp only;rw[(ht.2.2.2.1 hz).2];exact bp
 rw[Wa p2];by_cases p3:c.phase=3
 .rw[Wb p3];split<;>exact bp
 rw[Wa p3];by_cases p4:c.phase=4
 .rw[Wb p4];obtain⟨j,hj,e1,e2,e3,e4⟩:=h.put (by omega);rw[e2];unfold WbW;split
  .rename_i ho;exact dP _ _ e3 (by omega) (by show(Ww m c.puts[j].1).2.2≠who;omega)
  .exact bp
 rw[Wa p4];by_cases p5:c.phase=5
 .rw[Wb p5];obtain⟨j,hj,e1,e2,e3,e4⟩:=h.put (by omega);rw[e2];unfold Wav;split
  .rename_i ho;exact dP _ _ e3 (by omega) (by show(0:Int)≠who;omega)
  .exact bp
 rw[Wa p5];by_cases p7:c.phase=7
 .rw[Wb p7];obtain⟨j,hj,e1,e2,e3,e4⟩:=h.put (by omega);rw[e2];unfold Wav;split
  .rename_i ho;exact dP _ _ e3 (by omega) (by show(0:Int)≠who;omega)
  .exact bp
 .rw[Wa p7];exact bp
end
end
section
structure LB(w:Wo)(k:Nat)(x:Rt):Prop where
 cm:x.phase=5->x.cm.who=(k:Int)+1/\CmLk w.mem x.cm
 no:x.phase≠5->∀i,0<=i->i<=7->owner w.mem i≠(k:Int)+1
 hd:∀h∈w.holds,h.1=(k:Int)+1->x.phase≠0/\x.phase≠8
 tk:w.token=(k:Int)+1->x.tries>=3/\x.phase≠8
structure LQ(w:Wo)(k:Nat)(q:Wo×Rt):Prop where
 b:LB q.1 k q.2
 oth:∀who,who≠(k:Int)+1->who≠0->∀i,0<=i->i<=7->(owner q.1.mem i=who↔owner w.mem i=who)/\(owner w.mem i=who->Ww q.1.mem i=Ww w.mem i)
 clk:w.mem.1<=q.1.mem.1
 hdo:∀h∈q.1.holds,h.1≠(k:Int)+1->∃h'∈w.holds,h'.1=h.1
 tko:q.1.token≠0->q.1.token≠(k:Int)+1->q.1.token=w.token
section
variable{w:Wo}{x:Rt}{k:Nat}{p:Pg}{q:Wo×Rt}{o:Opn}{n:Int}
theorem LQ.of(hm:q.1.mem=w.mem)(hh:q.1.holds=w.holds)(ht:q.1.token=w.token)(hb:LB q.1 k q.2):LQ w k q:=
 ⟨hb,λwho h1 h0 i a b=>by rw[hm];exact⟨Iff.rfl,λ_=>rfl⟩,by rw[hm];omega,λh eH _=>⟨h,by rw[←hh];exact eH,rfl⟩,λ_ _=>ht⟩
theorem LQ.keep(hb:LB w k x)(hm:q.1.mem=w.mem)(hh:q.1.holds=w.holds)(ht:q.1.token=w.token)(h5:x.phase≠5)(hp:q.2.phase≠0/\q.2.phase≠5/\q.2.phase≠8)(qO:q.2.tries=x.tries):LQ w k q:=
 LQ.of hm hh ht ⟨λh=>Wl h hp.2.1,λ_=>by rw[hm];exact hb.no h5,λh eH hk=>⟨hp.1,hp.2.2⟩,λh=>by rw[ht]at h;rw[qO];exact⟨(hb.tk h).1,hp.2.2⟩⟩
theorem Wfn:(W4 x).phase≠0/\(W4 x).phase≠5/\(W4 x).phase≠8:=by
 unfold W4 Wdc;split<;>simp
theorem Wqx(h1:x.phase=1):(Wd9 w x o).phase≠0/\(Wd9 w x o).phase≠5/\(Wd9 w x o).phase≠8:=by
 unfold Wd9;cases Wa1 x.writes o.2.2.1 with
 |some v=>simp only;omega
 |none=>
  simp only;generalize WV w.mem x.rv _=b;split
  .exact Wfn
  .split<;>(simp only;omega)
theorem Wnv{l:List Hd}{who:Int}(h:(Wfv l who).length=0):∀e∈l,e.1≠who:=λe he hw=>by
 have:e.2.1∈Wfv l who:=Xt.2 ⟨e,Xas.2 ⟨he,by simpa using hw⟩,rfl⟩;rw[List.eq_nil_of_length_eq_zero h]at this;cases this
theorem WtC(cF:∀i,0<=i->i<=7->owner w.mem i≠(k:Int)+1)(hh:∀e∈w.holds,e.1≠(k:Int)+1):LQ w k (Wlb w x k):=by
 unfold Wlb;refine⟨⟨λh=>by(change (8:Int)=5 at h;omega),λ_=>cF,λh eH hk=>Wl hk (hh h eH),λh=>?_⟩,λwho h1 h0 i a b=>⟨Iff.rfl,λ_=>rfl⟩,Xs _,λh eH _=>⟨h,eH,rfl⟩,λh0 h1=>?_⟩
 .change (if w.token=(k:Int)+1 then 0 else w.token)=(k:Int)+1 at h;split at h<;>omega
 .change (if w.token=(k:Int)+1 then 0 else w.token)≠0 at h0;show(if w.token=(k:Int)+1 then 0 else w.token)=w.token;split
  .rename_i hc;rw[Wb hc]at h0;exact Wl rfl h0
  .rfl
theorem WoK(hb:LB w k x)(h1:x.phase=1){out:Int}:LQ w k (WbV w x k out):=by
 have cF:=hb.no (by omega);unfold WbV;simp only;generalize hr:(if out=2 then []else x.writes)=rows;split
 .rename_i hc;exact WtC cF (Wnv hc.2)
 .refine LQ.of rfl rfl rfl ⟨λ_=>⟨rfl,?_⟩,λh=>Wl rfl h,λh hh hk=>by(show(5:Int)≠0/\(5:Int)≠8;omega),λh=>⟨(hb.tk h).1,by show(5:Int)≠8;omega⟩⟩;have ug:∀i,¬lkd (Wcx ((k:Int)+1) x.rv rows x.reads) i:=λi ⟨j,hj,a,b⟩=>by
   change j<(WbU rows).length at hj;have cd:(Wcx ((k:Int)+1) x.rv rows x.reads).phase=1:=by show(if(WbU rows).length=0 then(2:Int)else 1)=1;rw[Wa (by omega)]
   have ct:(Wcx ((k:Int)+1) x.rv rows x.reads).pos=0:=rfl;unfold lkA at b;omega
  refine⟨λi h0 h7=>⟨λh=>Wl h (cF i h0 h7),λh=>Wl h (ug i)⟩,λh3=>?_⟩;have cd:(Wcx ((k:Int)+1) x.rv rows x.reads).phase=1\/(Wcx ((k:Int)+1) x.rv rows x.reads).phase=2:=by
   show(if(WbU rows).length=0 then(2:Int)else 1)=1\/(if(WbU rows).length=0 then(2:Int)else 1)=2;split<;>simp
  exfalso;change (Wcx ((k:Int)+1) x.rv rows x.reads).phase=3\/(Wcx ((k:Int)+1) x.rv rows x.reads).phase=4\/(Wcx ((k:Int)+1) x.rv rows x.reads).phase=5 at h3;omega
theorem Wtd(hb:LB w k x)(h1:x.phase=1){code:List Opn}:LQ w k (Wdr w x k code):=by
 unfold Wdr;split
 .exact WoK hb h1
 .split
  .exact LQ.keep hb rfl rfl rfl (by omega) (by unfold Weg;simp only;omega) rfl
  .exact LQ.keep hb rfl rfl rfl (by omega) (by simp only;omega) rfl
theorem Wtn(hd:x.doomed=false)(hb:LB w k x)(h1:x.phase=1)(hH:HOk w.holds):LQ w k (Wc5 w x k o):=by
 unfold Wc5;cases ha:Wb7 w.holds ((k:Int)+1) (WbS o).1 (WbS o).2 with
 |none=>exact LQ.keep hb rfl rfl rfl (by omega) Wfn (WfA hd).2.2
 |some hs=>
  have hmem:∀e∈hs,e.1≠(k:Int)+1->e∈w.holds:=λe he hne=>by
   unfold Wb7 at ha;split at ha
   .injection ha with ha;subst ha;unfold Wil at he;rcases(Wa9 WnW hH.ris).1 he with rfl|he
    .exact Wl rfl hne
    .exact he.1
   .cases ha
  exact⟨⟨λh=>by(change x.phase=5 at h;omega),λ_=>hb.no (by omega),λh hh hk=>by(show x.phase≠0/\x.phase≠8;omega),λh=>⟨(hb.tk h).1,by show x.phase≠8;omega⟩⟩,
   λwho h1 h0 i a b=>⟨Iff.rfl,λ_=>rfl⟩,Xs _,λh hh hne=>⟨h,hmem h hh hne,rfl⟩,λ_ _=>rfl⟩
theorem Wvk(hd:x.doomed=false)(hb:LB w k x)(h1:x.phase=1)(hH:HOk w.holds):LQ w k (Wla w x k p):=by
 unfold Wla;split
 .exact WoK hb h1
 .simp only;generalize opN p.1 x.pc=o;split
  .exact LQ.keep hb rfl rfl rfl (by omega) (Wqx h1) (Wrq hd (by omega)).2.2
  .split
   .exact Wtd hb h1
   .split
    .exact LQ.keep hb rfl rfl rfl (by omega) (by simp only;omega) rfl
    .split
     .exact Wtn hd hb h1 hH
     .repeat' split
      all_goals exact LQ.keep hb rfl rfl rfl (by omega) (by simp only;omega) rfl
theorem Wuk(hb:LB w k x)(h0:x.phase=0):LQ w k (Wen w x k):=by
 unfold Wen;split
 .exact LQ.of rfl rfl rfl hb
 .split
  .rename_i hc;exact⟨⟨hb.cm,hb.no,hb.hd,λ_=>⟨hc.1,by show x.phase≠8;omega⟩⟩,λwho h1 h0 i a b=>⟨Iff.rfl,λ_=>rfl⟩,Xs _,λh hh _=>⟨h,hh,rfl⟩,λ_ hne=>Wl rfl hne⟩
  .split
   .exact LQ.of rfl rfl rfl hb
   .exact LQ.keep hb rfl rfl rfl (by omega) (by simp only;omega) rfl
theorem Wp4(hb:LB w k x)(h5:x.phase=5)(hc:CmOk x.cm)(hm:W2 w.mem=true):LQ w k (WaG w x k):=by
 obtain⟨hw,hcl⟩:=hb.cm h5;have mm:∀c:Cm,c.phase=6\/c.phase=8->∀i,¬lkd c i:=λc cd i ⟨j,hj,a,b⟩=>by unfold lkA at b;omega
 unfold WaG;split
 .have wm:=WpI hc hcl;have wn:=Wm9 x.cm;split
  .rename_i h8;refine LQ.of rfl rfl rfl ⟨λh=>by(change (6:Int)=5 at h;omega),λ_ i a b=>?_,λh hh hk=>by(show(6:Int)≠0/\(6:Int)≠8;omega),λh=>⟨(hb.tk h).1,by show(6:Int)≠8;omega⟩⟩;intro ho;exact mm _ (.inr h8) i ((wm.own i a b).1 (by rw[wn,hw];exact ho))
  .exact LQ.of rfl rfl rfl ⟨λ_=>⟨by show(W7 x.cm).who=_;rw[wn,hw],wm⟩,λh=>Wl h5 h,hb.hd,hb.tk⟩
 .have hs:=Wrp hc hm hcl;have wo:=WpV w.mem x.cm;have gv:=λwho (a:who≠(k:Int)+1) (b:who≠0) (i:Int) (c:0<=i) (d:i<=7)=>WpS (i:=i) hc hm (who:=who) (by rw[hw];exact a) b ⟨c,d⟩;have ml:=WgW w.mem x.cm;simp only;refine⟨?_,gv,ml,λh hh _=>⟨h,hh,rfl⟩,λ_ _=>rfl⟩;have cF:(Wz w.mem x.cm).2.phase=6\/(Wz w.mem x.cm).2.phase=8->∀i,0<=i->i<=7->owner (Wz w.mem x.cm).1 i≠(k:Int)+1:=λcd i a b ho=>mm _ cd i ((hs.own i a b).1 (by rw[wo,hw];exact ho));generalize (Wz w.mem x.cm).1=m' at*;generalize (Wz w.mem x.cm).2=c' at*;unfold Wbq;simp only;by_cases h8:c'.phase=8
  .rw[Wb h8];exact⟨λh=>by(change (6:Int)=5 at h;omega),λ_=>cF (.inr h8),λh hh hk=>by(show(6:Int)≠0/\(6:Int)≠8;omega),λh=>⟨(hb.tk h).1,by show(6:Int)≠8;omega⟩⟩
  .rw[Wa h8];by_cases h6:c'.phase=6
   .rw[Wb h6];have cd:(if x.fate=2 then(6:Int)else 7)=6\/(if x.fate=2 then(6:Int)else 7)=7:=by split<;>simp
    generalize (if x.fate=2 then(6:Int)else 7)=ph at*;exact⟨λh=>by(change ph=5 at h;omega),λ_=>cF (.inl h6),λh hh hk=>by(show ph≠0/\ph≠8;omega),λh=>⟨(hb.tk h).1,by show ph≠8;omega⟩⟩
   .rw[Wa h6];exact⟨λ_=>⟨by show c'.who=_;rw[wo,hw],hs⟩,λh=>Wl h5 h,hb.hd,hb.tk⟩
theorem Wrd(hx:RX x)(ho:ROk p n x)(hg:GOk w)(hb:LB w k x):LQ w k (Wam w x k p):=by
 have cd:=ho.phase;unfold Wam;by_cases hd:x.doomed=true/\1<=x.phase/\x.phase<=4
 .rw[Wb hd];exact LQ.keep hb rfl rfl rfl (by omega) (by unfold Wdc;simp) rfl
 rw[Wa hd];have cL:x.phase≠5->x.doomed=false:=λh5=>by
  rw[Xbw];intro h;rcases hx.doom h with h1|h1
  .exact hd ⟨h,h1⟩
  .exact h5 h1.1
 by_cases h0:x.phase=0
 .rw[Wb h0];exact Wuk hb h0
 rw[Wa h0];by_cases h1:x.phase=1
 .rw[Wb h1];exact Wvk (cL (by omega)) hb h1 hg.holds
 rw[Wa h1];by_cases h2:x.phase=2
 .rw[Wb h2];refine LQ.keep hb rfl rfl rfl (by omega) ?_ (Wre (w:=w) (cL (by omega)) (by omega)).tries;unfold Wek Wdc
  repeat' split
  all_goals(simp only;omega)
 rw[Wa h2];by_cases h3:x.phase=3
 .rw[Wb h3];refine LQ.keep hb (WhZ (cL (by omega)) (by omega)).mem ?_ ?_ (by omega) ?_ (WhZ (cL (by omega)) (by omega)).tries
  all_goals(unfold WbL Weg;split<;>first|rfl|(simp only;omega))
 rw[Wa h3];by_cases h4:x.phase=4
 .rw[Wb h4];refine LQ.keep hb rfl rfl rfl (by omega) ?_ (WmS (w:=w) (cL (by omega)) (by omega)).tries;unfold Wba Wdc;simp only
  repeat' split
  all_goals(simp only;omega)
 rw[Wa h4];by_cases h5:x.phase=5
 .rw[Wb h5];exact Wp4 hb h5 (ho.comm h5) hg.mem
 rw[Wa h5];by_cases h6:x.phase=6
 .rw[Wb h6];by_cases hz:x.undos.length>0
  .rw[Wb hz];exact LQ.keep hb rfl rfl rfl (by omega) (by unfold Weg;simp only;omega) rfl
  .rw[Wa hz];exact LQ.keep hb rfl rfl rfl (by omega) (by simp only;omega) rfl
 rw[Wa h6];by_cases h7:x.phase=7
 .rw[Wb h7];have hfree:∀e∈W3 w.holds ((k:Int)+1),e.1≠(k:Int)+1/\e∈w.holds:=λe he=>by
   have:=Xas.1 he;exact⟨by simpa using this.2,this.1⟩
  have cF:=hb.no (by omega);by_cases hf:x.fate=0
  .rw[Wb hf];refine⟨⟨λh=>by(change (0:Int)=5 at h;omega),λ_=>cF,λh hh hk=>Wl hk (hfree h hh).1,λh=>⟨?_,by show(0:Int)≠8;omega⟩⟩,λwho h1 h0 i a b=>⟨Iff.rfl,λ_=>rfl⟩,Xs _,λh hh _=>⟨h,(hfree h hh).2,rfl⟩,λ_ _=>rfl⟩;have:=(hb.tk h).1;show x.tries+1>=3;omega
  .rw[Wa hf];have:=WtC (w:={w with holds:=W3 w.holds ((k:Int)+1)}) (x:=x) cF (λe he=>(hfree e he).1);exact⟨this.b,this.oth,this.clk,λh hh hne=>by obtain⟨h',a,b⟩:=this.hdo h hh hne;exact⟨h',(hfree h' a).2,b⟩,this.tko⟩
 .rw[Wa h7];exact LQ.of rfl rfl rfl hb
end
structure LX(w:Wo):Prop where
 root:∀(k:Nat) (h:k<w.roots.length),LB w k w.roots[k]
 ow:∀i,0<=i->i<=7->owner w.mem i=0\/∃k:Nat,k<w.roots.length/\owner w.mem i=(k:Int)+1
 hd:∀h∈w.holds,∃k:Nat,k<w.roots.length/\h.1=(k:Int)+1
 tk:w.token=0\/∃k:Nat,k<w.roots.length/\w.token=(k:Int)+1
section
variable{s:Sc}{w v:Wo}{n:Int}{a:Ac}{k:Nat}{q:Wo×Rt}
theorem LB.other{j:Nat}{y:Rt}(h:LB w j y)(hq:LQ w k q)(hne:j≠k)(hc:y.phase=5->CmOk y.cm):LB q.1 j y:=by
 have hw:((j:Int)+1)≠(k:Int)+1:=by omega
 have ho:=hq.oth ((j:Int)+1) hw (by omega);refine⟨λh5=>?_,λh5 i a b hz=>h.no h5 i a b ((ho i a b).1.1 hz),λe he hk=>?_,λhz=>?_⟩
 .obtain⟨c1,c2⟩:=h.cm h5;refine⟨c1,λi a b=>?_,λh3=>?_⟩
  .rw[c1,(ho i a b).1,←c1];exact c2.own i a b
  .obtain⟨v1,v2⟩:=c2.ver h3;refine⟨Xgg v1 hq.clk,λi hi=>?_⟩;obtain⟨l,hl,e1,e2⟩:=hi;have hr:=(hc h5).rows _ (Xo hl);have dB:lkd y.cm i:=⟨l,hl,e1,e2⟩;have hown:=(c2.own i (by omega) (by omega)).2 dB;rw[(ho i (by omega) (by omega)).2 (by rw[hown,c1])];exact v2 i dB
 .obtain⟨h',a,b⟩:=hq.hdo e he (by rw[hk];exact hw);exact h.hd h' a (b.trans hk)
 .exact h.tk ((hq.tko (by omega) (by omega)).symm.trans hz)
theorem Wrn{w0:Wo}(hx:LX w0)(hk:k<w0.roots.length)(hr:q.1.roots=w0.roots)(hq:LQ w0 k q)(hc:∀(i:Nat) (h:i<w0.roots.length),w0.roots[i].phase=5->CmOk w0.roots[i].cm):LX (Wo.put q k):=by
 have hlen:(q.1.roots.set k q.2).length=w0.roots.length:=by rw[Xaf,hr]
 have hmem:∀i,owner (Wo.put q k).mem i=owner q.1.mem i:=λ_=>rfl;refine⟨λi hi=>?_,λi a b=>?_,λe he=>?_,?_⟩
 .change i<(q.1.roots.set k q.2).length at hi;have rP:i<w0.roots.length:=by rw[←hlen];exact hi
  have jD:∀y,LB q.1 i y->LB (Wo.put q k) i y:=λy hy=>⟨hy.cm,hy.no,hy.hd,hy.tk⟩;show LB (Wo.put q k) i ((q.1.roots.set k q.2)[i]'hi);rw[Xaq];by_cases he:k=i
  .subst he;rw[Wb rfl];exact jD _ hq.b
  .rw[Wa he];simp only[hr];exact jD _ ((hx.root i rP).other hq (λh=>he h.symm) (hc i rP))
 .show owner q.1.mem i=0\/∃j:Nat,j<(q.1.roots.set k q.2).length/\owner q.1.mem i=(j:Int)+1;rw[hlen];by_cases h0:owner q.1.mem i=0
  .exact .inl h0
  .by_cases h1:owner q.1.mem i=(k:Int)+1
   .exact .inr ⟨k,hk,h1⟩
   .have:=(hq.oth _ h1 h0 i a b).1.1 rfl;rw[←this];exact hx.ow i a b
 .show∃j:Nat,j<(q.1.roots.set k q.2).length/\e.1=(j:Int)+1;rw[hlen];by_cases h1:e.1=(k:Int)+1
  .exact⟨k,hk,h1⟩
  .obtain⟨h',a,b⟩:=hq.hdo e he h1;rw[←b];exact hx.hd h' a
 .show q.1.token=0\/∃j:Nat,j<(q.1.roots.set k q.2).length/\q.1.token=(j:Int)+1;rw[hlen];by_cases h0:q.1.token=0
  .exact .inl h0
  .by_cases h1:q.1.token=(k:Int)+1
   .exact .inr ⟨k,hk,h1⟩
   .rw[hq.tko h0 h1];exact hx.tk
theorem Wt2(h:WOk s.2.1 n w)(hx:WX w)(hl:LX w):LX (Wgy s w a):=by
 have bq:LX {w with now:=w.now+1}:=⟨λk hk=>⟨(hl.root k hk).cm,(hl.root k hk).no,(hl.root k hk).hd,(hl.root k hk).tk⟩,hl.ow,hl.hd,hl.tk⟩;have hc:∀(i:Nat) (h:i<({w with now:=w.now+1}:Wo).roots.length),({w with now:=w.now+1}:Wo).roots[i].phase=5->CmOk ({w with now:=w.now+1}:Wo).roots[i].cm:=λi hi h5=>(h.root i hi).comm h5;unfold Wgy;simp only;split
 .rename_i hb;have hk:a.2.1.toNat<w.roots.length:=by omega
  have jD:=bq.root _ hk;rw[Wt hk];split
  .unfold Wka;rw[Wt (show a.2.1.toNat<({w with now:=w.now+1}:Wo).roots.length from hk)];exact Wrn bq hk (WiZ h hk) (Wrd (n:=n) (hx _ hk) (h.root _ hk) ⟨h.mem,h.shelf,h.holds⟩ jD) hc
  .split
   .split
    .exact Wrn (w0:={w with now:=w.now+1}) bq hk rfl (LQ.of rfl rfl rfl ⟨jD.cm,jD.no,jD.hd,jD.tk⟩) hc
    .exact bq
   .split
    .split
     .exact Wrn (w0:={w with now:=w.now+1}) bq hk rfl (LQ.of rfl rfl rfl ⟨jD.cm,jD.no,jD.hd,jD.tk⟩) hc
     .exact bq
    .exact bq
 .exact bq
theorem WuL(aY:WoD s=true):LX (Wgk s):=by
 obtain⟨h1,h2,h3,h4⟩:=WgK aY;have rQ:∀i,0<=i->i<=7->owner (Wgk s).mem i=0:=λi a b=>by
  unfold owner Ww Wcp Wgk Wjx;simp only;have:=h1.cells.len;rw[Wt (show i.toNat<(s.1.1.map wd0).length by rw[Xu];omega),List.getElem_map];rfl
 refine⟨λk hk=>?_,λi a b=>.inl (rQ i a b),(λh hh=>by cases hh),.inl rfl⟩;have hr:(Wgk s).roots[k]={}:=by simp only[Wgk,Xbc]
 rw[hr];exact⟨λh=>by(change (0:Int)=5 at h;omega),(λ_ i a b=>by rw[rQ i a b];omega),(λh hh=>by cases hh),λh=>by(change (0:Int)=(k:Int)+1 at h;omega)⟩
end
end
section
def WbE(x:Kd):Int:=if x.phase=0 then 75-3*x.pc-(if x.busy=true then x.pb.2.1 else 0)else 0
def Wcd(x:Kd):Int:=if x.phase=3 then 0 else if x.phase=2 then 25-x.pos else 26
structure KT(f:Fm)(k:Nat)(x:Kd):Prop where
 pb:x.busy=true->x.pb.2.1=1\/x.pb.2.1=2
 own:f.owner=(k:Int)+1↔x.phase=2
 seen:x.since=f.clock->∀e∈x.seen,WtF f.buf e.1=e.2.2
inductive KO (f:Fm) (k:Nat) (x:Kd):Fm×Kd->Prop
 |lost {q:Fm×Kd}:q.1.lost=true->KO f k x q
 |run {y:Kd}:x.phase=0->y.since=x.since->(y.phase=0\/y.phase=1)->WbE y<WbE x->(y.busy=true->y.pb.2.1=1\/y.pb.2.1=2)->
   (x.since=f.clock->∀e∈y.seen,WtF f.buf e.1=e.2.2)->KO f k x (f,y)
 |again:x.phase=0->x.since<f.clock->KO f k x (f,f.again x)
 |fail:x.phase=2->x.since<f.clock->KO f k x ({f with owner:=0},f.again x)
 |ask:x.phase=1->f.owner=0->KO f k x ({f with owner:=(k:Int)+1},{x with phase:=2})
 |wait:x.phase=1->f.owner≠0->KO f k x (f,x)
 |look:x.phase=2->x.pos<x.seen.length->KO f k x (f,{x with pos:=x.pos+1})
 |merge:x.phase=2->KO f k x (Wa8 f x k)
 |done:x.phase=3->KO f k x (f,x)
variable{code:List Opn}{codes:List (List Opn)}{n:Int}{f:Fm}{x:Kd}{m:Mm}{k:Nat}{o:Opn}
theorem Wqa{rv:Int}{p:Pb}(h:0<=p.2.1/\p.2.1<=2):(WV m rv p).2.1=4\/(WV m rv p).2.1=p.2.1+1:=by
 unfold WV
 grind
theorem Wt5(hF:FOk codes n f)(h:KOk code f.clock n x)(h0:x.phase=0)(ht:KT f k x)(bf:x.pc+1<=24):KO f k x (WbA m f x o):=by
 have hl:WbE x=75-3*x.pc-(if x.busy=true then x.pb.2.1 else 0):=by unfold WbE;rw[Wb h0]
 have hQ:0<=(if x.busy=true then x.pb.2.1 else 0)/\(if x.busy=true then x.pb.2.1 else 0)<=2:=by
  split
  .have:=ht.pb ‹_›;omega
  .omega
 have du:∀y:Kd,y.phase=0->y.pc=x.pc+1->y.busy=x.busy->y.pb=x.pb->WbE y<WbE x:=λy a b c d=>by
  unfold WbE;grind
 unfold WbA;cases Wa1 x.writes o.2.2.1 with
 |some v=>exact .run h0 rfl (.inl h0) (du _ h0 rfl rfl rfl) ht.pb ht.seen
 |none=>
  simp only;cases he:ent f.buf o.2.2.1 with
  |some r=>
   simp only;have hr:=Wcr he;have lU:r.2∈f.buf:=List.mem_of_getElem? hr.2.2.2;split
   .exact .again h0 (by have:=(hF.bufE _ lU).2.2;omega)
   .refine .run h0 rfl (.inl h0) (du _ h0 rfl rfl rfl) ht.pb λhs e dT=>?_;rcases Xm.1 dT with dT|dT
    .exact ht.seen hs e dT
    simp_all [Xaa,eq_of_beq,WtF]
  |none=>
   simp only;have hp:0<=(if x.busy=true then x.pb else(o.2.2.1,0,0,0)).2.1/\(if x.busy=true then x.pb else(o.2.2.1,0,0,0)).2.1<=2:=by
    grind
   have iz:(if x.busy=true then x.pb else(o.2.2.1,0,0,0)).2.1=(if x.busy=true then x.pb.2.1 else 0):=by split<;>rfl
   have hs:=Wqa (m:=m) (rv:=f.rv) hp;rw[iz]at hs;generalize WV m f.rv (if x.busy=true then x.pb else(o.2.2.1,0,0,0))=p at*;split
   .exact .lost rfl
   .split
    .refine .run h0 rfl (.inl h0) ?_ (λh=>by cases h) λyj e dT=>?_
     .rw[hl];show(if x.phase=0 then 75-3*(x.pc+1) -0 else 0)<_;omega
     .rcases Xm.1 dT with dT|dT
      .exact ht.seen yj e dT
      grind [Xaa,WtF]
    .refine .run h0 rfl (.inl h0) ?_ (λ_=>by grind) ht.seen;rw[hl];show(if x.phase=0 then 75-3*x.pc-p.2.1 else 0)<_;omega
theorem Wvf(bE:KC code)(hF:FOk codes n f)(h:KOk code f.clock n x)(h0:x.phase=0)(ht:KT f k x):KO f k x (Wl2 m f x code):=by
 have bO:=bE.toCC;have hlen:=bO.len;have hl:WbE x=75-3*x.pc-(if x.busy=true then x.pb.2.1 else 0):=by unfold WbE;rw[Wb h0]
 have hQ:0<=(if x.busy=true then x.pb.2.1 else 0)/\(if x.busy=true then x.pb.2.1 else 0)<=2:=by
  split
  .have:=ht.pb ‹_›;omega
  .omega
 have yl:=h.pc;have qT:∀y:Kd,y.phase=1->WbE y<WbE x:=λy a=>by unfold WbE at*;omega
 have du:∀y:Kd,y.phase=0->x.pc+1<=y.pc->y.busy=x.busy->y.pb=x.pb->WbE y<WbE x:=λy a b c d=>by
  unfold WbE;grind
 unfold Wl2;split
 .exact .run h0 rfl (.inr rfl) (qT _ rfl) ht.pb ht.seen
 .obtain⟨i,hi,bf,ho⟩:=We9 (l:=code) h.pc.1 (by omega);simp only[ho];have hM:=h.marks h0;rw[bf,Xj]at hM;split
  .grind [Wt5]
  .split
   .unfold WfX;split
    .exact .run h0 rfl (.inr rfl) (qT _ rfl) ht.pb ht.seen
    .obtain⟨j,q,y,e1,e2,e3,⟨hj,h8⟩,rN,dO,iz,e5,e6⟩:=Wi4 (d:=((0,0,[]):KM)) bO (show i<=code.length by omega) hM.pcs ‹_›;refine .run h0 rfl (.inl h0) (du _ h0 ?_ rfl rfl) ht.pb ht.seen;simp_all
   .split
    .exact .run h0 rfl (.inl h0) (du _ h0 (Xs _) rfl rfl) ht.pb ht.seen
    .split
     .have hk:=Wvh (bE.ok i hi).1 ‹_›;refine .run h0 rfl (.inl h0) (du _ h0 ?_ rfl rfl) ht.pb ht.seen;show x.pc+1<=(if Wcp x.regs code[i].2.1 0=0 then x.pc+code[i].2.2.1 else x.pc)+1;split<;>omega
     .split
      .exact .run h0 rfl (.inl h0) (du _ h0 (Xs _) rfl rfl) ht.pb ht.seen
      .split
       .exact .run h0 rfl (.inl h0) (du _ h0 (Xs _) rfl rfl) ht.pb ht.seen
       .exact .run h0 rfl (.inl h0) (du _ h0 (Xs _) rfl rfl) ht.pb ht.seen
theorem Wt7(bE:KC code)(hF:FOk codes n f)(h:KOk code f.clock n x)(ht:KT f k x):KO f k x (Wbi m f x k code):=by
 have cd:=h.phase;unfold Wbi;split
 .grind [Wvf]
 .split
  .split
   .exact .ask ‹_› ‹_›
   .exact .wait ‹_› ‹_›
  .split
   .split
    .exact .merge ‹_›
    .have hp:=h.pos;have hlt:x.pos<x.seen.length:=by omega
     simp only;split
     .exact .look ‹_› hlt
     .rename_i hne;refine .fail ‹_› ?_;have hs:=h.since;by_cases he:x.since=f.clock
      .exfalso;apply hne;have hg:Wcp x.seen x.pos (0,0,0)=x.seen[x.pos.toNat]'(by omega):=Wt (by omega) _;rw[hg];exact ht.seen he _ (Xo _)
      .omega
   .exact .done (by omega)
end
section
def WcW(x:Kd):Int:=if x.phase=3 then 0 else 1
def Wcw(c:Int)(x:Kd):Int:=if x.phase≠3/\x.since<c then 1 else 0
def WaS(c:Int)(x:Kd):Int:=Wcd x+26*Wcw c x
def Whi(g:Kd->Int)(l:List Kd):Int:=(l.map g).sum
def tri(u:Int):Int:=if u<=1 then 0 else if u=2 then 1 else 3
def Wnz(f:Fm):Int:=Whi WcW f.kids
def fQ(f:Fm):Int:=Whi (WaS f.clock) f.kids+26*tri (Wnz f)
def fP(f:Fm)(x:Kd):Int:=WbE x+75*(Wcw f.clock x+(Wnz f-1))
theorem WcZ{g:Kd->Int}{y:Kd}:∀{l:List Kd} {k:Nat} (h:k<l.length),Whi g (l.set k y)=Whi g l-g l[k]+g y
 |x::l,0,h=>by simp[Whi];omega
 |x::l,k+1,h=>by
  have:=WcZ (g:=g) (y:=y) (l:=l) (k:=k) (by grind)
  grind [Whi]
theorem WrH{g h:Kd->Int}:∀{l:List Kd},(∀x∈l,g x<=h x)->Whi g l<=Whi h l
 | [],_=>by simp[Whi]
 |x::l,hl=>by
  have:=WrH (l:=l) λy hy=>hl y (Xe _ hy)
  grind [Xh,Whi]
theorem Woo{g h:Kd->Int}{a:Int}:∀{l:List Kd},Whi (λx=>g x+a*h x) l=Whi g l+a*Whi h l
 | []=>by simp[Whi]
 |x::l=>by
  have:=Woo (g:=g) (h:=h) (a:=a) (l:=l)
  grind [Whi,Int.mul_add]
theorem WsS(x:Kd):0<=WcW x/\WcW x<=1:=by unfold WcW;split<;>omega
theorem Wgc(c:Int)(x:Kd):0<=Wcw c x/\Wcw c x<=WcW x:=by
 unfold Wcw WcW;omega
theorem Wrh(f:Fm):0<=Wnz f/\Wnz f<=f.kids.length:=by
 unfold Wnz;have:∀l:List Kd,0<=Whi WcW l/\Whi WcW l<=l.length:=λl=>by
  induction l with
  |nil=>simp[Whi]
  |cons x l ih=>
   have:=WsS x
   grind [Whi,List.length_cons]
 simp_all
theorem Wsa{code:List Opn}{c n:Int}{x:Kd}(h:KOk code c n x)(hl:code.length<=24):0<=Wcd x/\Wcd x<=26/\(x.phase=2->1<=Wcd x/\Wcd x<=25)/\((x.phase=0\/x.phase=1)->Wcd x=26):=by
 have hp:=h.pos;have hs:=h.sl;have bf:=h.pc;grind [Wcd]
theorem Wst{code:List Opn}{c n:Int}{x:Kd}(h:KOk code c n x)(hl:code.length<=24)(hb:x.busy=true->x.pb.2.1=1\/x.pb.2.1=2):0<=WbE x/\WbE x<=75/\(x.phase=0->1<=WbE x):=by
 have bf:=h.pc
 grind [WbE]
structure KD(f:Fm)(k:Nat)(q:Fm×Kd):Prop where
 le:fQ (Fm.put q k)<=fQ f
 p:∀(j:Nat) (h:j<f.kids.length) (h':j<(Fm.put q k).kids.length),WcW (Fm.put q k).kids[j]=1->fP (Fm.put q k) (Fm.put q k).kids[j]<=fP f f.kids[j]/\WcW f.kids[j]=1
variable{codes:List (List Opn)}{n:Int}{f:Fm}{x y:Kd}{k:Nat}{q:Fm×Kd}{code:List Opn}
theorem Wkt(h:k<f.kids.length)(hk:q.1.kids=f.kids){j:Nat}(hj:j<f.kids.length)(h':j<(Fm.put q k).kids.length):(Fm.put q k).kids[j]=if k=j then q.2 else f.kids[j]:=by
 show(q.1.kids.set k q.2)[j]=_
 grind
theorem Wfm(hk:k<f.kids.length)(h1:q.1.kids=f.kids)(hc:q.1.clock=f.clock)(hu:WcW q.2=WcW f.kids[k])(hs:WaS f.clock q.2<=WaS f.clock f.kids[k])(hp:WcW q.2=1->WbE q.2+75*Wcw f.clock q.2<=WbE f.kids[k]+75*Wcw f.clock f.kids[k]):
  KD f k q/\Wnz (Fm.put q k)=Wnz f/\fQ (Fm.put q k)=fQ f-WaS f.clock f.kids[k]+WaS f.clock q.2:=by
 have e1:(Fm.put q k).kids=f.kids.set k q.2:=by show q.1.kids.set k q.2=_;rw[h1]
 have e2:(Fm.put q k).clock=f.clock:=hc;have e3:Wnz (Fm.put q k)=Wnz f:=by grind [Wnz,WcZ]
 have e4:fQ (Fm.put q k)=fQ f-WaS f.clock f.kids[k]+WaS f.clock q.2:=by grind [fQ,WcZ]
 refine⟨⟨by omega,λj h h' hj=>?_⟩,e3,e4⟩;have hg:=Wkt hk h1 h h';rw[hg]at hj⊢;unfold fP
 grind
end
section
structure KE(f:Fm)(k:Nat)(x:Kd)(q:Fm×Kd):Prop where
 d:KD f k q
 s0:x.phase=0->WcW q.2=1->fP (Fm.put q k) q.2<fP f x
 s2:x.phase=2->fQ (Fm.put q k)<fQ f
 s1:x.phase=1->f.owner=0->fQ (Fm.put q k)<fQ f
 own:q.1.owner=f.owner\/q.1.owner=0\/(q.1.owner=(k:Int)+1/\x.phase=1/\f.owner=0)
 kids:q.1.kids=f.kids
 kt:∀(j:Nat) (h:j<(Fm.put q k).kids.length),KT (Fm.put q k) j (Fm.put q k).kids[j]
variable{codes:List (List Opn)}{n:Int}{f:Fm}{x y:Kd}{k:Nat}{q:Fm×Kd}{code:List Opn}{m:Mm}
theorem WrV(h:q.1.kids=f.kids):(Fm.put q k).kids.length=f.kids.length:=by show(q.1.kids.set k q.2).length=_;rw[h,Xaf]
theorem Wfh(hk:k<f.kids.length)(hT:∀(j:Nat) (h:j<f.kids.length),KT f j f.kids[j])(h1:q.1.kids=f.kids)(hc:q.1.clock=f.clock)(hb:q.1.buf=f.buf)(ho:∀j:Nat,j≠k->(q.1.owner=(j:Int)+1↔f.owner=(j:Int)+1))(hy:KT q.1 k q.2):
  ∀(j:Nat) (h:j<(Fm.put q k).kids.length),KT (Fm.put q k) j (Fm.put q k).kids[j]:=λj h=>by
 have hj:j<f.kids.length:=by grind [WrV]
 rw[Wkt hk h1 hj h];by_cases he:k=j
 .subst he;rw[Wb rfl];exact⟨hy.pb,hy.own,hy.seen⟩
 .rw[Wa he];have ht:=hT j hj;refine⟨ht.pb,?_,λhs e dT=>?_⟩
  .show q.1.owner=(j:Int)+1↔_;rw[ho j (λh=>he h.symm)];exact ht.own
  .show WtF q.1.buf e.1=e.2.2;rw[hb];exact ht.seen (hs.trans hc) e dT
theorem WdD(h:x.phase≠3):WcW x=1:=by unfold WcW;rw[Wa h]
theorem Wk2(h:x.phase≠3)(hy:y.phase≠3)(hs:y.since=x.since)(c:Int):Wcw c y=Wcw c x:=by
 simp_all [Wcw,Wb,Wa]
theorem WbZ:Wcw f.clock (f.again x)=0:=by unfold Wcw Fm.again;simp
theorem Wft:WbE (f.again x)=75:=by unfold WbE Fm.again;simp
theorem Weo:Wcd (f.again x)=26:=by unfold Wcd Fm.again;simp
theorem WrD(h:x.phase≠3)(hs:x.since<f.clock):Wcw f.clock x=1:=by unfold Wcw;rw[Wb ⟨h,hs⟩]
theorem Woc{c:Int}:∀{l:List Kd},Whi (WaS (c+1)) l<=Whi (WaS c) l+26*Whi WcW l:=λ{l}=>by
 have h1:Whi (WaS (c+1)) l<=Whi (λx=>WaS c x+26*WcW x) l:=WrH λx _=>by
  have a:=Wgc (c+1) x;have b:=Wgc c x;unfold WaS;omega
 simp_all [Woo]
theorem WsQ{u:Int}(h:1<=u/\u<=3):tri u=tri (u-1)+(u-1):=by
 unfold tri;have:u=1\/u=2\/u=3:=by omega
 rcases this with rfl|rfl|rfl<;>decide
theorem Wv5(hk:k<f.kids.length)(h3:f.kids.length<=3)(hl:∀c∈codes,c.length<=24)(hF:FOk codes n f)(hT:∀(j:Nat) (h:j<f.kids.length),KT f j f.kids[j])(hx:f.kids[k]=x)(ho:KO f k x q):
  q.1.lost=true\/KE f k x q:=by
 have hlen:(codes.getD k []).length<=24:=by
  have eR:k<codes.length:=by rw[←hF.len];exact hk
  simp_all
 have hK:=hF.kid k hk;rw[hx]at hK;have ht:=hT k hk;rw[hx]at ht;obtain⟨c1,c2,c3,c4⟩:=Wsa hK hlen;obtain⟨l1,l2,l3⟩:=Wst hK hlen ht.pb;have wg:=Wgc f.clock x;cases ho with
 |lost h=>grind
 |run h0 hs hp hlt hb hse=>
  rename_i y;refine .inr ?_;have wq:y.phase≠3:=by omega
  have fh:x.phase≠3:=by omega
  have aS:=Wk2 fh wq hs f.clock;have hch:Wcd y=26:=by unfold Wcd;rw[Wa wq,Wa (by omega)]
  obtain⟨d1,d2,d3⟩:=Wfm (q:=(f,y)) hk rfl rfl (by grind [WdD]) (by grind [WaS]) (λ_=>by grind);refine⟨d1,λ_ _=>?_,λh=>by omega,λh=>by omega,.inl rfl,rfl,Wfh hk hT rfl rfl rfl (λ_ _=>Iff.rfl) ⟨hb,?_,λh=>hse (hs▸h)⟩⟩
  .unfold fP;rw[d2];show WbE y+75*(Wcw f.clock y+_)<_;omega
  .show f.owner=(k:Int)+1↔y.phase=2;rw[ht.own];omega
 |again h0 hs=>
  refine .inr ?_;have fh:x.phase≠3:=by omega
  have lI:=WrD fh hs;obtain⟨d1,d2,d3⟩:=Wfm (q:=(f,f.again x)) hk rfl rfl (by rw[hx];rw[WdD fh];exact WdD (by show(0:Int)≠3;omega)) (by grind [WaS,WbZ,Weo]) (λ_=>by grind [WbE,Wcw,WbZ,Wft]);refine⟨d1,λ_ _=>?_,λh=>by omega,λh=>by omega,.inl rfl,rfl,Wfh hk hT rfl rfl rfl (λ_ _=>Iff.rfl) ⟨(λh=>by cases h),?_,(λh e he=>by cases he)⟩⟩
  .unfold fP;rw[d2];show WbE (f.again x)+75*(Wcw f.clock (f.again x)+_)<_
   grind [WbZ,Wft]
  .show f.owner=(k:Int)+1↔(0:Int)=2;rw[ht.own];omega
 |fail h2 hs=>
  refine .inr ?_;have fh:x.phase≠3:=by omega
  have lI:=WrD fh hs;have c:=c3 h2;obtain⟨d1,d2,d3⟩:=Wfm (q:=({f with owner:=0},f.again x)) hk rfl rfl (by rw[hx];rw[WdD fh];exact WdD (by show(0:Int)≠3;omega)) (by grind [WaS,WbZ,Weo]) (λ_=>by grind [WbE,Wcw,WbZ,Wft]);have rQ:=ht.own.2 h2;refine⟨d1,λh=>by omega,λ_=>?_,λh=>by omega,.inr (.inl rfl),rfl,Wfh hk hT rfl rfl rfl (λj hj=>?_) ⟨(λh=>by cases h),?_,(λh e he=>by cases he)⟩⟩
  .grind [fQ,WaS,WbZ,Weo]
  .grind
  .show(0:Int)=(k:Int)+1↔(0:Int)=2;omega
 |ask h1 h0=>
  refine .inr ?_;have fh:x.phase≠3:=by omega
  have aS:Wcw f.clock ({x with phase:=2}:Kd)=Wcw f.clock x:=Wk2 (x:=x) (y:={x with phase:=2}) fh (by simp_all) rfl _;have hp:=hK.pos;have hch:Wcd ({x with phase:=2}:Kd)=25-x.pos:=rfl;have ym:=c4 (.inr h1);have pi:WbE ({x with phase:=2}:Kd)=0:=rfl;obtain⟨d1,d2,d3⟩:=Wfm (q:=({f with owner:=(k:Int)+1},{x with phase:=2})) hk rfl rfl (by grind [WdD]) (by grind [WaS]) (λ_=>by grind);refine⟨d1,λh=>by omega,λh=>by omega,λ_ _=>?_,.inr (.inr ⟨rfl,h1,h0⟩),rfl,Wfh hk hT rfl rfl rfl (λj hj=>?_) ⟨ht.pb,?_,ht.seen⟩⟩
  .grind [fQ,WaS]
  .grind
  simp_all
 |wait h1 h0=>
  refine .inr ?_;have fh:x.phase≠3:=by omega
  obtain⟨d1,d2,d3⟩:=Wfm (q:=(f,x)) hk rfl rfl (by rw[hx]) (by simp_all) (λ_=>by simp_all);exact⟨d1,λh=>by omega,λh=>by omega,λ_ h=>Wl h h0,.inl rfl,rfl,Wfh hk hT rfl rfl rfl (λ_ _=>Iff.rfl) ht⟩
 |done cU=>
  refine .inr ?_;obtain⟨d1,d2,d3⟩:=Wfm (q:=(f,x)) hk rfl rfl (by rw[hx]) (by simp_all) (λ_=>by simp_all);exact⟨d1,λh=>by omega,λh=>by omega,λh=>by omega,.inl rfl,rfl,Wfh hk hT rfl rfl rfl (λ_ _=>Iff.rfl) ht⟩
 |look h2 hlt=>
  refine .inr ?_;have fh:x.phase≠3:=by omega
  have aS:Wcw f.clock ({x with pos:=x.pos+1}:Kd)=Wcw f.clock x:=Wk2 fh fh rfl _;have hch:Wcd ({x with pos:=x.pos+1}:Kd)=Wcd x-1:=by
   unfold Wcd
   grind
  have pi:WbE ({x with pos:=x.pos+1}:Kd)=WbE x:=rfl;obtain⟨d1,d2,d3⟩:=Wfm (q:=(f,{x with pos:=x.pos+1})) hk rfl rfl (by rw[hx];rfl) (by grind [WaS]) (λ_=>by simp_all);refine⟨d1,λh=>by omega,λ_=>?_,λh=>by omega,.inl rfl,rfl,Wfh hk hT rfl rfl rfl (λ_ _=>Iff.rfl) ⟨ht.pb,ht.own,ht.seen⟩⟩
  grind [fQ,WaS]
 |merge h2=>
  refine .inr ?_;have fh:x.phase≠3:=by omega
  have c:=c3 h2;obtain⟨z,hz⟩:∃z,z=(Wa8 f x k).2:=⟨_,rfl⟩;have z3:z.phase=3:=by rw[hz];rfl
  have yn:WcW z=0:=by unfold WcW;rw[Wb z3]
  have s8:WcW x=1:=WdD fh;have e1:(Fm.put (Wa8 f x k) k).kids=f.kids.set k z:=by rw[hz];rfl
  have e2:(Fm.put (Wa8 f x k) k).clock=f.clock+1:=rfl;have e3:Wnz (Fm.put (Wa8 f x k) k)=Wnz f-1:=by grind [Wnz,WcZ]
  have hs0:WaS (f.clock+1) z=0:=by simp_all [WaS,Wcd,Wcw,Wb,Wa]
  have hub:=Wrh f;have uh:=Wrh (Fm.put (Wa8 f x k) k);rw[e3]at uh;have e4:fQ (Fm.put (Wa8 f x k) k)<fQ f:=by
   unfold fQ;rw[e1,e2,e3,WcZ hk,hs0,hx];have yo:=Woc (c:=f.clock) (l:=f.kids);have h1:=Woc (c:=f.clock) (l:=f.kids.set k z);rw[WcZ hk,WcZ hk,WcZ hk,hx,hs0,yn,s8]at h1;have ud:WaS f.clock z=0:=by simp_all [WaS,Wcd,Wcw,Wb,Wa]
   rw[ud]at h1;have qO:=WsQ (u:=Wnz f) (by omega);have hsh:1<=WaS f.clock x:=by unfold WaS;omega
   have kF:Whi WcW f.kids=Wnz f:=rfl;omega
  refine⟨⟨Int.le_of_lt e4,λj h h' hj=>?_⟩,λh=>by omega,λ_=>e4,λh=>by omega,.inr (.inl rfl),rfl,λj h=>?_⟩
  .have hg:=Wkt (q:=Wa8 f x k) hk rfl h h';rw[hg]at hj⊢;by_cases he:k=j
   .simp_all
   .rw[Wa he]at hj⊢;refine⟨?_,hj⟩;unfold fP;rw[e2,e3];have a:=Wgc (f.clock+1) f.kids[j];have b:=Wgc f.clock f.kids[j];omega
  .have hj:j<f.kids.length:=by rw[WrV (q:=Wa8 f x k) rfl]at h;exact h
   rw[Wkt (q:=Wa8 f x k) hk rfl hj h];have rQ:=ht.own.2 h2;by_cases he:k=j
   .subst he;rw[Wb rfl];refine⟨ht.pb,?_,λhs=>?_⟩
    .show(0:Int)=(k:Int)+1↔(3:Int)=2;omega
    .have:=hK.since;change x.since=f.clock+1 at hs;omega
   .rw[Wa he];have ws:=hT j hj;refine⟨ws.pb,?_,λhs=>?_⟩
    .show(0:Int)=(j:Int)+1↔_;rw[←ws.own];omega
    .have:=(hF.kid j hj).since;omega
end
section
variable{codes:List (List Opn)}{n:Int}{f g:Fm}{m:Mm}{k:Nat}
theorem Wi7{code:List Opn}(h:f.lost=true):WaM m f k code=f:=by unfold WaM;rw[Wb h]
end
section
section
variable{c:Cm}{m:Mm}{n ph:Int}
end
end
section
variable{codes:List (List Opn)}{n:Int}{f g:Fm}{m:Mm}
end
section
structure RT(x:Rt):Prop where
 pb:x.busy=true->x.pb.2.1=1\/x.pb.2.1=2
 fam:x.phase=2->x.fam.lost=true\/∀(j:Nat) (h:j<x.fam.kids.length),KT x.fam j x.fam.kids[j]
 cm:x.phase=5->x.cm.phase≠6/\x.cm.phase≠8
variable{w:Wo}{x y:Rt}{k:Nat}{p:Pg}{n:Int}{o:Opn}
end
section
variable{w:Wo}{x y:Rt}{k:Nat}{p:Pg}{n:Int}{o:Opn}
end
section
variable{w:Wo}{x y:Rt}{k:Nat}{p:Pg}{n:Int}{o:Opn}
end
section
variable{w:Wo}{x y:Rt}{k:Nat}{p:Pg}{n:Int}{o:Opn}
theorem RT.of(h:RT x)(hb:y.busy=x.busy)(hp:y.pb=x.pb)(h2:y.phase≠2)(h5:y.phase≠5):RT y:=
 ⟨λhy=>by rw[hp];exact h.pb (hb▸hy),λhy=>Wl hy h2,λhy=>Wl hy h5⟩
theorem RT.no(hb:y.busy=false)(h2:y.phase≠2)(h5:y.phase≠5):RT y:=
 ⟨(λhy=>by rw[hb]at hy;cases hy),λhy=>Wl hy h2,λhy=>Wl hy h5⟩
theorem WeQ:RT (Wdc x):=RT.no rfl (by show(6:Int)≠2;omega) (by show(6:Int)≠5;omega)
theorem WgR:RT (W4 x):=by
 unfold W4;split
 .exact WeQ
 .exact RT.no rfl (by show(3:Int)≠2;omega) (by show(3:Int)≠5;omega)
theorem Wle(h:RT x){out:Int}:RT (WbV w x k out).2:=by
 unfold WbV;simp only;generalize (if out=2 then []else x.writes)=rows;split
 .exact h.of rfl rfl (by show(8:Int)≠2;omega) (by show(8:Int)≠5;omega)
 .refine⟨h.pb,λhy=>by(change (5:Int)=2 at hy;omega),λ_=>?_⟩;have e:(Wcx ((k:Int)+1) x.rv rows x.reads).phase=if(WbU rows).length=0 then 2 else 1:=rfl;show(Wcx ((k:Int)+1) x.rv rows x.reads).phase≠6/\(Wcx ((k:Int)+1) x.rv rows x.reads).phase≠8;rw[e];split<;>omega
theorem Wsc(h:RT x)(h1:x.phase=1):RT (Wd9 w x o):=by
 have hn:∀y:Rt,y.phase=1->y.phase≠2/\y.phase≠5:=λy hy=>by omega
 unfold Wd9;cases Wa1 x.writes o.2.2.1 with
 |some v=>exact h.of rfl rfl (hn _ h1).1 (hn _ h1).2
 |none=>
  simp only;have hq:0<=(if x.busy=true then x.pb else(o.2.2.1,0,0,0)).2.1/\(if x.busy=true then x.pb else(o.2.2.1,0,0,0)).2.1<=2:=by
   split
   .have:=h.pb ‹_›;omega
   .simp
  have hs:=Wqa (m:=w.mem) (rv:=x.rv) hq;generalize (if x.busy=true then x.pb else(o.2.2.1,0,0,0))=q0 at*;generalize WV w.mem x.rv q0=q at*;split
  .exact WgR
  .split
   .exact RT.no rfl (hn _ h1).1 (hn _ h1).2
   .exact⟨λ_=>by show q.2.1=1\/q.2.1=2;omega,λhy=>Wl hy (hn _ h1).1,λhy=>Wl hy (hn _ h1).2⟩
theorem Wqq{rv:Int}{regs:List Int}{writes:List Rw}{u:Nat}(j:Nat)(h:j<(Wa7 rv regs writes u).kids.length):KT (Wa7 rv regs writes u) j (Wa7 rv regs writes u).kids[j]:=by
 have e:(Wa7 rv regs writes u).kids[j]={regs:=regs}:=by simp only[Wa7,Xbc]
 rw[e];refine⟨(λh=>by cases h),?_,λ_ e he=>by cases he⟩;show(0:Int)=(j:Int)+1↔(0:Int)=2;omega
theorem WuD(h:RT x)(h1:x.phase=1):RT (Wla w x k p).2:=by
 have hn:∀y:Rt,y.phase=1->y.phase≠2/\y.phase≠5:=λy hy=>by omega
 unfold Wla;split
 .exact Wle h
 .simp only;generalize opN p.1 x.pc=o;split
  .exact Wsc h h1
  .split
   .unfold Wdr;split
    .exact Wle h
    .split
     .exact h.of rfl rfl (hn _ h1).1 (hn _ h1).2
     .exact h.of rfl rfl (hn _ h1).1 (hn _ h1).2
   .split
    .exact⟨h.pb,λ_=>.inr λj hj=>Wqq j hj,λhy=>by(change (2:Int)=5 at hy;omega)⟩
    .split
     .unfold Wc5;cases Wb7 w.holds ((k:Int)+1) (WbS o).1 (WbS o).2 with
      |none=>exact WgR
      |some hs=>exact h.of rfl rfl (hn _ h1).1 (hn _ h1).2
     .repeat' split
      all_goals exact h.of rfl rfl (hn _ h1).1 (hn _ h1).2
theorem WpU(h:RT x)(h5:x.phase=5):RT (WaG w x k).2:=by
 unfold WaG;split
 .simp only;split
  .exact WeQ
  .rename_i h8;refine⟨h.pb,λhy=>by(change x.phase=2 at hy;omega),λ_=>⟨?_,h8⟩⟩;have:=(h.cm h5).1;show(W7 x.cm).phase≠6;unfold W7 Wao
   repeat' split
   all_goals first|(simp only;omega)|exact this
 .show RT (Wbq {x with cm:=(Wz w.mem x.cm).2});generalize (Wz w.mem x.cm).2=c;unfold Wbq;split
  .exact WeQ
  .rename_i h8;split
   .have:(if x.fate=2 then(6:Int)else 7)≠2/\(if x.fate=2 then(6:Int)else 7)≠5:=by split<;>omega
    exact h.of rfl rfl this.1 this.2
   .rename_i h6;exact⟨h.pb,λhy=>by(change x.phase=2 at hy;omega),λ_=>⟨h6,h8⟩⟩
theorem Ws0(h:RT x):RT (Wam w x k p).2:=by
 unfold Wam;by_cases hd:x.doomed=true/\1<=x.phase/\x.phase<=4
 .rw[Wb hd];exact WeQ
 rw[Wa hd];by_cases h0:x.phase=0
 .rw[Wb h0];unfold Wen;split
  .exact h
  .split
   .exact h
   .split
    .exact h
    .exact RT.no rfl (by show(1:Int)≠2;omega) (by show(1:Int)≠5;omega)
 rw[Wa h0];by_cases h1:x.phase=1
 .rw[Wb h1];exact WuD h h1
 rw[Wa h1];by_cases h2:x.phase=2
 .rw[Wb h2];show RT (Wek x);unfold Wek;split
  .exact WeQ
  .split
   .exact h.of rfl rfl (by show(1:Int)≠2;omega) (by show(1:Int)≠5;omega)
   .exact h
 rw[Wa h2];by_cases h3:x.phase=3
 .rw[Wb h3];unfold WbL;split
  .exact h.of rfl rfl (by show x.phase≠2;omega) (by show x.phase≠5;omega)
  .exact h.of rfl rfl (by show(4:Int)≠2;omega) (by show(4:Int)≠5;omega)
 rw[Wa h3];by_cases h4:x.phase=4
 .rw[Wb h4];show RT (Wba w x);unfold Wba;simp only;split
  .split
   .exact WeQ
   .exact h.of rfl rfl (by show x.phase≠2;omega) (by show x.phase≠5;omega)
  .exact h.of rfl rfl (by show(1:Int)≠2;omega) (by show(1:Int)≠5;omega)
 rw[Wa h4];by_cases h5:x.phase=5
 .rw[Wb h5];exact WpU h h5
 rw[Wa h5];by_cases h6:x.phase=6
 .rw[Wb h6];by_cases hz:x.undos.length>0
  .rw[Wb hz];exact h.of rfl rfl (by show x.phase≠2;omega) (by show x.phase≠5;omega)
  .rw[Wa hz];exact h.of rfl rfl (by show(7:Int)≠2;omega) (by show(7:Int)≠5;omega)
 rw[Wa h6];by_cases h7:x.phase=7
 .rw[Wb h7];by_cases hf:x.fate=0
  .rw[Wb hf];exact RT.no rfl (by show(0:Int)≠2;omega) (by show(0:Int)≠5;omega)
  .rw[Wa hf];exact h.of rfl rfl (by show(8:Int)≠2;omega) (by show(8:Int)≠5;omega)
 .rw[Wa h7];exact h
end
section
variable{w:Wo}{x y:Rt}{k:Nat}{p:Pg}{n:Int}{o:Opn}{f:Fm}{codes:List (List Opn)}
end
section
def Wwh(m:Mm)(rv:Int):Prop:=∀i,0<=i->i<=7->(Ww m i).2.2=0/\(Ww m i).2.1<=rv
def pbV(m:Mm)(b:Bool)(q:Pb):Prop:=b=true->(0<=q.1/\q.1<=7)/\q.2.2.1=(Ww m q.1).2.1
variable{m:Mm}{rv:Int}{q:Pb}{o:Opn}{x:Kd}{f:Fm}{k:Nat}{code:List Opn}{codes:List (List Opn)}{n:Int}
structure FGd(m:Mm)(f:Fm):Prop where
 lost:f.lost=false
 free:Wwh m f.rv
 kid:∀(k:Nat) (h:k<f.kids.length),pbV m f.kids[k].busy f.kids[k].pb
end
section
structure CGd(m:Mm)(c:Cm):Prop where
 ph:1<=c.phase/\c.phase<=5
 sole:∀i,0<=i->i<=7->owner m i=0\/owner m i=c.who
 ver:c.phase<=3->∀i,0<=i->i<=7->(Ww m i).2.1<=c.rv
variable{m:Mm}{c:Cm}
end
section
structure RGd(m:Mm)(x:Rt):Prop where
 dm:x.doomed=false
 sp:x.spare=0
 ph:x.phase=1\/x.phase=2\/x.phase=5\/x.phase=6\/x.phase=7
 run:x.phase=1\/x.phase=2->Wwh m x.rv/\pbV m x.busy x.pb
 fam:x.phase=2->FGd m x.fam
 cm:x.phase=5->CGd m x.cm
 ft:x.phase=5\/x.phase=6\/x.phase=7->x.fate≠0
variable{w:Wo}{x y:Rt}{k:Nat}{p:Pg}{n:Int}{o:Opn}
theorem RGd.on{m:Mm}(h:RGd m x)(h1:x.phase=1)(hy:y.phase=1)(hd:y.doomed=x.doomed)(hs:y.spare=x.spare)(hr:y.rv=x.rv)(hv:pbV m y.busy y.pb):RGd m y:=
 ⟨hd.trans h.dm,hs.trans h.sp,.inl hy,λ_=>⟨by rw[hr];exact(h.run (.inl h1)).1,hv⟩,λh2=>by omega,λh2=>by omega,λh2=>by omega⟩
end
section
variable{s:Sc}{w v:Wo}{n:Int}{a:Ac}{x y:Rt}{k:Nat}{p:Pg}{f:Fm}{codes:List (List Opn)}{m:Mm}
theorem Ws4(hm:W2 m=true)(bE:∀c∈codes,KC c)(h3:codes.length<=3)(hF:FOk codes n f)(hT:∀(j:Nat) (h:j<f.kids.length),KT f j f.kids[j])(hk:k<codes.length):
  (WaM m f k (codes.getD k [])).lost=true\/∀(j:Nat) (h:j<(WaM m f k (codes.getD k [])).kids.length),KT (WaM m f k (codes.getD k [])) j (WaM m f k (codes.getD k [])).kids[j]:=by
 have hlen:=hF.len;have eR:k<f.kids.length:=by omega
 by_cases hlost:f.lost=true
 .exact .inl (by rw[Wi7 hlost];exact hlost)
 have aA:codes.getD k []=codes[k]:=Wt hk _;have hKO:=hF.kid k eR;rw[aA]at hKO;have ho:=Wt7 (m:=m) (bE _ (Xo hk)) hF hKO (hT k eR);have hE:=Wv5 eR (by omega) (λc hc=>(bE c hc).toCC.len) hF hT rfl ho;have aS:WaM m f k (codes.getD k [])=Fm.put (Wbi m f f.kids[k] k codes[k]) k:=by
  unfold WaM;rw[Wa hlost,aA,show f.kids.getD k {}=f.kids[k]from Wt eR _]
 rw[aS];rcases hE with hE|hE
 .exact .inl hE
 .exact .inr hE.kt
theorem Wpp{c:Cm}(hm:W2 m=true):(Wz m c).1.1<=m.1+1:=by
 have ht:(tick m).1.1<=m.1+1:=by unfold tick;split<;>(simp only;omega)
 unfold Wz;simp only;by_cases p1:c.phase=1
 .rw[Wb p1];split<;>(show m.1<=m.1+1;omega)
 rw[Wa p1];by_cases p2:c.phase=2
 .rw[Wb p2];split<;>exact ht
 rw[Wa p2];by_cases p3:c.phase=3
 .rw[Wb p3];split<;>(show m.1<=m.1+1;omega)
 rw[Wa p3];by_cases p4:c.phase=4
 .rw[Wb p4];unfold WbW;split<;>(show m.1<=m.1+1;omega)
 rw[Wa p4];by_cases p5:c.phase=5
 .rw[Wb p5];unfold Wav;split<;>(show m.1<=m.1+1;omega)
 rw[Wa p5];by_cases p7:c.phase=7
 .rw[Wb p7];unfold Wav;split<;>(show m.1<=m.1+1;omega)
 rw[Wa p7];show m.1<=m.1+1;omega
theorem Wja{out:Int}:(WbV w x k out).1.mem=w.mem:=by
 unfold WbV;simp only;generalize (if out=2 then []else x.writes)=rows;split<;>rfl
theorem WqY:(Wam w x k p).1.mem=w.mem\/(x.phase=5/\(Wam w x k p).1.mem=(Wz w.mem x.cm).1):=by
 unfold Wam;by_cases hd:x.doomed=true/\1<=x.phase/\x.phase<=4
 .rw[Wb hd];exact .inl rfl
 rw[Wa hd];by_cases h0:x.phase=0
 .rw[Wb h0];left;unfold Wen;repeat' split
  all_goals rfl
 rw[Wa h0];by_cases h1:x.phase=1
 .rw[Wb h1];left;unfold Wla;split
  .exact Wja
  .simp only;generalize opN p.1 x.pc=o;split
   .rfl
   .split
    .unfold Wdr;split
     .exact Wja
     .split<;>rfl
    .split
     .rfl
     .split
      .unfold Wc5;cases Wb7 w.holds ((k:Int)+1) (WbS o).1 (WbS o).2<;>rfl
      .repeat' split
       all_goals rfl
 rw[Wa h1];by_cases h2:x.phase=2
 .rw[Wb h2];exact .inl rfl
 rw[Wa h2];by_cases h3:x.phase=3
 .rw[Wb h3];left;unfold WbL;split<;>rfl
 rw[Wa h3];by_cases h4:x.phase=4
 .rw[Wb h4];exact .inl rfl
 rw[Wa h4];by_cases h5:x.phase=5
 .rw[Wb h5];unfold WaG;split
  .exact .inl rfl
  .exact .inr ⟨h5,rfl⟩
 rw[Wa h5];left;by_cases h6:x.phase=6
 .rw[Wb h6];split<;>rfl
 rw[Wa h6];by_cases h7:x.phase=7
 .rw[Wb h7];split<;>rfl
 .rw[Wa h7]
structure WT(w:Wo):Prop where
 root:∀(k:Nat) (h:k<w.roots.length),RT w.roots[k]
 clk:w.mem.1<=w.now
theorem Wrf{w0:Wo}{q:Wo×Rt}(hx:WT w0)(hr:q.1.roots=w0.roots)(hq:RT q.2)(hc:q.1.mem.1<=q.1.now):WT (Wo.put q k):=by
 refine⟨λi hi=>?_,hc⟩;change i<(q.1.roots.set k q.2).length at hi;have rP:i<w0.roots.length:=by rw[Xaf,hr]at hi;exact hi
 show RT ((q.1.roots.set k q.2)[i]'hi);rw[Xaq];split
 .exact hq
 .simp only[hr];exact hx.root i rP
theorem Wt9(h:WOk s.2.1 n w)(hx:WT w):WT (Wgy s w a):=by
 have d9:WT {w with now:=w.now+1}:=⟨hx.root,by have:=hx.clk;show w.mem.1<=w.now+1;omega⟩;unfold Wgy;simp only;split
 .rename_i hb;have hk:a.2.1.toNat<w.roots.length:=by omega
  have hR:=hx.root _ hk;have nP:a.2.1.toNat<s.2.1.length:=by rw[←h.len];exact hk
  rw[Wt hk];split
  .unfold Wka;rw[Wt (show a.2.1.toNat<({w with now:=w.now+1}:Wo).roots.length from hk)];have aS:=Wj0 (w:={w with now:=w.now+1}) (k:=a.2.1.toNat) (WmH h.progs nP) ⟨h.mem,h.shelf,h.holds⟩ (h.root _ hk) (by have:=h.l4;omega) h.n0;refine Wrf d9 (WiZ h hk) (Ws0 hR) ?_;have qQ:(Wam {w with now:=w.now+1} w.roots[a.2.1.toNat] a.2.1.toNat (s.2.1.getD a.2.1.toNat pg0)).1.now=w.now+1:=aS.now;rw[qQ];have cx:=hx.clk;rcases WqY (w:={w with now:=w.now+1}) (x:=w.roots[a.2.1.toNat]) (k:=a.2.1.toNat) (p:=s.2.1.getD a.2.1.toNat pg0)with e|⟨_,e⟩
   .rw[e];show w.mem.1<=w.now+1;omega
   .rw[e];have:=Wpp (m:=w.mem) (c:=w.roots[a.2.1.toNat].cm) h.mem;show(Wz w.mem w.roots[a.2.1.toNat].cm).1.1<=w.now+1;omega
  .split
   .split
    .rename_i hc;unfold WvZ;refine Wrf (w0:={w with now:=w.now+1}) d9 rfl ?_ d9.clk;refine⟨hR.pb,λ_=>?_,λh5=>by(change w.roots[a.2.1.toNat].phase=5 at h5;omega)⟩;have hp:=WmH h.progs nP;have hF:=((h.root _ hk).live (by omega)).fork hc.1;rcases hR.fam hc.1 with hl|hT
     .left;show(WaM w.mem w.roots[a.2.1.toNat].fam a.2.2.toNat _).lost=true;rw[Wi7 hl];exact hl
     .exact Ws4 h.mem hp.kids hp.k3 hF.2.2 hT (by omega)
    .exact d9
   .split
    .split
     .exact Wrf (w0:={w with now:=w.now+1}) d9 rfl ⟨hR.pb,hR.fam,hR.cm⟩ d9.clk
     .exact d9
    .exact d9
 .exact d9
theorem WuP:WT (Wgk s):=⟨λi h=>by
 simp only[Wgk,Xbc];exact RT.no rfl (by show(0:Int)≠2;omega) (by show(0:Int)≠5;omega),Xs _⟩
end
section
def pick(l:List Rw)(i:Int):Option Int:=(l.find? λr=>decide (r.1=i)).map (·.2)
def Wd3(i v:Int)(r:Int×Int)(h:Wr):Int×Int:=match pick h.2.2 i with
 |some x=>if h.1<=v/\r.1<h.1 then(h.1,x)else r
 |none=>r
def bst(b i v:Int)(H:List Wr):Int×Int:=H.foldl (Wd3 i v) (0,b)
def top(b i:Int)(H:List Wr):Int×Int:=bst b i 2000000 H
section
variable{b i v v':Int}{H:List Wr}{h:Wr}{l:List Rw}
theorem WjP:bst b i v (H++ [h])=Wd3 i v (bst b i v H) h:=by unfold bst;rw[List.foldl_append];rfl
theorem Wjc(r:Int×Int):Wd3 i v r h=r\/(∃x,pick h.2.2 i=some x/\h.1<=v/\r.1<h.1/\Wd3 i v r h=(h.1,x)):=by
 unfold Wd3;cases hp:pick h.2.2 i with
 |none=>exact .inl rfl
 |some x=>
  simp only;split
  .rename_i hc;exact .inr ⟨x,rfl,hc.1,hc.2,rfl⟩
  .exact .inl rfl
theorem Wvl(hv:0<=v):0<=(bst b i v H).1/\(bst b i v H).1<=v/\((bst b i v H).1=0\/∃h∈H,h.1=(bst b i v H).1):=by
 have key:∀(l:List Wr) (r:Int×Int),0<=r.1->r.1<=v->0<=(l.foldl (Wd3 i v) r).1/\(l.foldl (Wd3 i v) r).1<=v/\((l.foldl (Wd3 i v) r).1=r.1\/∃h∈l,h.1=(l.foldl (Wd3 i v) r).1):=by
  intro l
  induction l with
  |nil=>intro r h0 h1;exact⟨h0,h1,.inl rfl⟩
  |cons h l ih=>
   intro r h0 h1;rw[Xar];rcases Wjc (i:=i) (v:=v) (h:=h) r with e|⟨x,_,e1,e2,e3⟩
   .rw[e];obtain⟨a,c,d⟩:=ih r h0 h1;refine⟨a,c,d.imp_right λ⟨g,hg,e⟩=>⟨g,Xe _ hg,e⟩⟩
   .rw[e3];obtain⟨a,c,d⟩:=ih (h.1,x) (by show 0<=h.1;omega) e1;refine⟨a,c,.inr ?_⟩;rcases d with d|⟨g,hg,e⟩
    .exact⟨h,Xh ..,d.symm⟩
    .exact⟨g,Xe _ hg,e⟩
 exact key H (0,b) (Xs _) hv
theorem Wkr(hv:v<=v'):∀(H:List Wr),(bst b i v' H).1<=v->bst b i v H=bst b i v' H:=by
 have key:∀(l:List Wr) (r r':Int×Int),(r.1<=r'.1)->(r'.1<=v->r=r')->(l.foldl (Wd3 i v') r').1<=v->l.foldl (Wd3 i v) r=l.foldl (Wd3 i v') r':=by
  intro l
  induction l with
  |nil=>intro r r' _ h hle;exact h hle
  |cons h l ih=>
   intro r r' h1 h2 hle;rw[Xar,Xar];rw[Xar]at hle;refine ih _ _ ?_ ?_ hle
   .unfold Wd3;cases pick h.2.2 i with
    |none=>exact h1
    |some x=>
     simp only;split<;>split<;>(try simp only)<;>omega
   .unfold Wd3;cases pick h.2.2 i with
    |none=>exact h2
    |some x=>
     simp only;intro hle;split at hle
     .rename_i hc;simp only at hle;rw[Wb hc,Wb ⟨hle,by omega⟩]
     .rename_i hc;rw[Wa hc,Wa (by have:=h2 hle;rw[this];intro hz;exact hc ⟨by omega,hz.2⟩)];exact h2 hle
 intro H hle;exact key H (0,b) (0,b) (Xs _) (λ_=>rfl) hle
theorem Wht{x:Int}(h:pick l i=some x):(i,x)∈l:=by
 unfold pick at h;cases hf:l.find? λr=>decide (r.1=i)with
 |none=>rw[hf]at h;cases h
 |some r=>
  rw[hf]at h;have h1:=List.find?_some hf;have h2:=List.mem_of_find?_eq_some hf;simp only[Wh]at h1;cases h;obtain⟨a,d⟩:=r;simp only at h1;subst h1;exact h2
structure CmR(c:Cm):Prop where
 rows:WcU c.puts
 pup:c.puts.Pairwise λa b=>a.1<b.1
theorem CmOk.r{c:Cm}(h:CmOk c):CmR c:=⟨h.rows,h.pup⟩
theorem CmR.inj{c:Cm}(h:CmR c){a b:Nat}(ha:a<c.puts.length)(hb:b<c.puts.length)(e:c.puts[a].1=c.puts[b].1):a=b:=by
 have hp:=Xal.1 h.pup;rcases Xdl a b with h1|h1|h1
 .have:=hp a b ha hb h1;omega
 .exact h1
 .have:=hp b a hb ha h1;omega
theorem WtY{c:Cm}(h:CmR c){j:Nat}(hj:j<c.puts.length):pick c.puts c.puts[j].1=some c.puts[j].2:=by
 cases hp:pick c.puts c.puts[j].1 with
 |none=>
  unfold pick at hp;rw[Option.map_eq_none_iff,List.find?_eq_none]at hp;exact Wl (by simp) (hp _ (Xo hj))
 |some x=>
  obtain⟨l,hl,e⟩:=Xbn (Wht hp);have:=h.inj hl hj (by rw[e]);subst this;rw[e]
end
structure MI(b:Int->Int)(m:Mm)(H:List Wr)(C:Nat->Option Cm):Prop where
 st:∀h∈H,1<=h.1/\h.1<=m.1
 fr:∀k c,C k=some c->c.phase=3->1<=c.wv/\c.wv<=m.1/\∀h∈H,h.1≠c.wv
 fr2:∀k k' c c',k≠k'->C k=some c->C k'=some c'->c.phase=3->c'.phase=3->c.wv≠c'.wv
 cell:∀i,0<=i->i<=7->(∀k c,C k=some c->c.phase=4\/c.phase=5->¬lkd c i)->(Ww m i).1=(top (b i) i H).2/\(Ww m i).2.1=(top (b i) i H).1
 sto:∀k c,C k=some c->c.phase=4\/c.phase=5->∀(j:Nat) (hj:j<c.puts.length),lkA c j->top (b c.puts[j].1) c.puts[j].1 H=(c.wv,c.puts[j].2)/\(Ww m c.puts[j].1).2.1<c.wv/\(c.phase=5\/(j:Int)<c.pos->(Ww m c.puts[j].1).1=c.puts[j].2)
def CL2(m:Mm)(C:Nat->Option Cm):Prop:=∀k c,C k=some c->CmR c/\c.who=(k:Int)+1/\CmLk m c
structure RC(b:Int->Int)(m:Mm)(H:List Wr)(C:Nat->Option Cm)(v i x:Int):Prop where
 val:x=(bst (b i) i v H).2
 clk:v<=m.1
 no:∀k c,C k=some c->c.phase=3->c.wv<=v->pick c.puts i=none
def Wd0(C:Nat->Option Cm)(k:Nat)(o:Option Cm):Nat->Option Cm:=λj=>if j=k then o else C j
section
variable{b:Int->Int}{m m':Mm}{H:List Wr}{C:Nat->Option Cm}{k:Nat}{c c':Cm}{o:Option Cm}{v i x:Int}
theorem Wax:Wd0 C k o k=o:=Wb rfl
theorem WW{j:Nat}(h:j≠k):Wd0 C k o j=C j:=Wa h
theorem MI.k1(h:MI b m H C)(hc:∀c,C k=some c->c.phase≠4/\c.phase≠5)(ho:∀c',o=some c'->c'.phase≠3/\c'.phase≠4/\c'.phase≠5)
  (h1:m'.1=m.1) (hm:∀i,0<=i->i<=7->(Ww m' i).1=(Ww m i).1/\(Ww m' i).2.1=(Ww m i).2.1) (hr:∀k c,C k=some c->CmR c):MI b m' H (Wd0 C k o):=by
 have key:∀j d,Wd0 C k o j=some d->d.phase=3\/d.phase=4\/d.phase=5->j≠k/\C j=some d:=λj d hj hp=>by
  by_cases e:j=k
  .subst e;rw[Wax]at hj;have:=ho d hj;omega
  .rw[WW e]at hj;exact⟨e,hj⟩
 refine⟨λg hg=>by rw[h1];exact h.st g hg,λj d hj h3=>?_,λj j' d d' hne hj hj' h3 cU=>?_,λi h0 h7 cF=>?_,λj d hj hp l hl ha=>?_⟩
 .rw[h1];exact h.fr j d (key j d hj (.inl h3)).2 h3
 .exact h.fr2 j j' d d' hne (key j d hj (.inl h3)).2 (key j' d' hj' (.inl cU)).2 h3 cU
 .obtain⟨e1,e2⟩:=hm i h0 h7;rw[e1,e2];refine h.cell i h0 h7 λj d hj hp=>?_;by_cases e:j=k
  .subst e;have:=hc d hj;omega
  .exact cF j d (by rw[WW e];exact hj) hp
 .have hk:=(key j d hj (.inr hp)).2;have hrow:=(hr j d hk).rows _ (Xo hl);obtain⟨e1,e2⟩:=hm _ hrow.1.1 hrow.1.2;rw[e1,e2];exact h.sto j d hk hp l hl ha
theorem RC.k1(h:RC b m H C v i x)(ho:∀c',o=some c'->c'.phase≠3)(h1:m'.1=m.1):RC b m' H (Wd0 C k o) v i x:=
 ⟨h.val,by rw[h1];exact h.clk,λj d hj h3 hw=>by
  by_cases e:j=k
  .subst e;rw[Wax]at hj;exact Wl h3 (ho d hj)
  .rw[WW e]at hj;exact h.no j d hj h3 hw⟩
theorem MI.k2(h:MI b m H C)(hc:C k=some c)(h2:c.phase=2)(h3:c'.phase=3)(hw:c'.wv=m.1+1)(h0:0<=m.1):MI b (m.1+1,m.2) H (Wd0 C k (some c')):=by
 have ar:∀i,Ww (m.1+1,m.2) i=Ww m i:=λ_=>rfl;refine⟨λg hg=>by have:=h.st g hg;show 1<=g.1/\g.1<=m.1+1;omega,λj d hj cU=>?_,λj j' d d' hne hj hj' h3 cU=>?_,λi h0 h7 cF=>?_,λj d hj hp l hl ha=>?_⟩
 .by_cases e:j=k
  .subst e;rw[Wax]at hj;cases hj;refine⟨by omega,by show c'.wv<=m.1+1;omega,λg hg=>by have:=h.st g hg;omega⟩
  .rw[WW e]at hj;have:=h.fr j d hj cU;exact⟨this.1,by show d.wv<=m.1+1;omega,this.2.2⟩
 .have w1:∀j d,Wd0 C k (some c') j=some d->d.phase=3->j≠k->d.wv<=m.1:=λj d hj h3 e=>by
   rw[WW e]at hj;exact(h.fr j d hj h3).2.1
  by_cases e:j=k
  .have e':j'≠k:=λz=>hne (e.trans z.symm);have:=w1 j' d' hj' cU e';subst e;rw[Wax]at hj;cases hj;omega
  .by_cases e':j'=k
   .have:=w1 j d hj h3 e;subst e';rw[Wax]at hj';cases hj';omega
   .rw[WW e]at hj;rw[WW e']at hj';exact h.fr2 j j' d d' hne hj hj' h3 cU
 .rw[ar];refine h.cell i h0 h7 λj d hj hp=>?_;by_cases e:j=k
  .subst e;rw[hc]at hj;cases hj;omega
  .exact cF j d (by rw[WW e];exact hj) hp
 .by_cases e:j=k
  .subst e;rw[Wax]at hj;cases hj;omega
  .rw[WW e]at hj;rw[ar];exact h.sto j d hj hp l hl ha
theorem RC.k2(h:RC b m H C v i x)(hw:c'.wv=m.1+1):RC b (m.1+1,m.2) H (Wd0 C k (some c')) v i x:=
 ⟨h.val,by have:=h.clk;show v<=m.1+1;omega,λj d hj h3 hv=>by
  by_cases e:j=k
  .subst e;rw[Wax]at hj;cases hj;have:=h.clk;omega
  .rw[WW e]at hj;exact h.no j d hj h3 hv⟩
theorem MI.k3(h:MI b m H C)(hc:C k=some c)(h2:c.phase=3)(h3:c'.phase=3)(hw:c'.wv=c.wv):MI b m H (Wd0 C k (some c')):=by
 refine⟨h.st,λj d hj cU=>?_,λj j' d d' hne hj hj' h3 cU=>?_,λi h0 h7 cF=>?_,λj d hj hp l hl ha=>?_⟩
 .by_cases e:j=k
  .subst e;rw[Wax]at hj;cases hj;rw[hw];exact h.fr j c hc h2
  .rw[WW e]at hj;exact h.fr j d hj cU
 .by_cases e:j=k
  .have e':j'≠k:=λz=>hne (e.trans z.symm);rw[WW e']at hj';subst e;rw[Wax]at hj;cases hj;rw[hw];exact h.fr2 j j' c d' hne hc hj' h2 cU
  .rw[WW e]at hj;by_cases e':j'=k
   .subst e';rw[Wax]at hj';cases hj';rw[hw];exact h.fr2 j j' d c hne hj hc h3 h2
   .rw[WW e']at hj';exact h.fr2 j j' d d' hne hj hj' h3 cU
 .refine h.cell i h0 h7 λj d hj hp=>?_;by_cases e:j=k
  .subst e;rw[hc]at hj;cases hj;omega
  .exact cF j d (by rw[WW e];exact hj) hp
 .by_cases e:j=k
  .subst e;rw[Wax]at hj;cases hj;omega
  .rw[WW e]at hj;exact h.sto j d hj hp l hl ha
theorem RC.k3(h:RC b m H C v i x)(hc:C k=some c)(h2:c.phase=3)(hw:c'.wv=c.wv)(hp:c'.puts=c.puts):RC b m H (Wd0 C k (some c')) v i x:=
 ⟨h.val,h.clk,λj d hj h3 hv=>by
  by_cases e:j=k
  .subst e;rw[Wax]at hj;cases hj;rw[hp];exact h.no j c hc h2 (by omega)
  .rw[WW e]at hj;exact h.no j d hj h3 hv⟩
theorem MI.k4(h:MI b m H C)(hl:CL2 m C)(hm:m.1<=1000000)(hc:C k=some c)(h2:c.phase=3)(h3:c'.phase=4)(iv:c'.pos=0)(hw:c'.wv=c.wv)(hp:c'.puts=c.puts){who:Int}:MI b m (H++ [(c.wv,who,c.puts)]) (Wd0 C k (some c')):=by
 obtain⟨ok,lJ,fb⟩:=hl k c hc;obtain⟨f1,f2,f3⟩:=h.fr k c hc h2;have gZ:∀l:Nat,lkA c l:=λl=>by unfold lkA;omega
 have cF:∀i,0<=i->i<=7->(∃(j:Nat) (hj:j<c.puts.length),c.puts[j].1=i)->∀j d,C j=some d->d.phase=4\/d.phase=5->¬lkd d i:=λi h0 h7 ⟨l,bQ,e⟩ j d hj iO hI=>by
  obtain⟨wu,qU,iP⟩:=hl j d hj;have o1:=(fb.own i h0 h7).2 ⟨l,bQ,e,gZ l⟩;have o2:=(iP.own i h0 h7).2 hI;have:j=k:=by omega
  subst this;rw[hc]at hj;cases hj;omega
 have qV:∀i,pick c.puts i=none->top (b i) i (H++ [(c.wv,who,c.puts)])=top (b i) i H:=λi hn=>by
  unfold top;rw[WjP];unfold Wd3;simp only[hn]
 have qW:∀(l:Nat) (hl:l<c.puts.length),(Ww m c.puts[l].1).2.1<c.wv/\top (b c.puts[l].1) c.puts[l].1 (H++ [(c.wv,who,c.puts)])=(c.wv,c.puts[l].2):=λl bQ=>by
  have hrow:=(ok.rows _ (Xo bQ)).1;obtain⟨c1,c2⟩:=h.cell _ hrow.1 hrow.2 (cF _ hrow.1 hrow.2 ⟨l,bQ,rfl⟩);have hv:=(fb.ver (.inl h2)).2 c.puts[l].1 ⟨l,bQ,rfl,gZ l⟩;have hb:=(Wvl (b:=b c.puts[l].1) (i:=c.puts[l].1) (v:=2000000) (H:=H) (by omega)).2.2;have hlt:(top (b c.puts[l].1) c.puts[l].1 H).1<c.wv:=by
   unfold top at c2⊢;rcases hb with e|⟨g,hg,e⟩
   .omega
   .have:=f3 g hg;omega
  refine⟨by omega,?_⟩;unfold top at hlt⊢;rw[WjP];unfold Wd3;simp only[WtY ok bQ];rw[Wb ⟨by omega,hlt⟩]
 have mn:∀i x,pick c.puts i=some x->∃(j:Nat) (hj:j<c.puts.length),c.puts[j].1=i:=λi x hx=>by
  obtain⟨l,hl,e⟩:=Xbn (Wht hx);exact⟨l,hl,by rw[e]⟩
 refine⟨λg hg=>?_,λj d hj cU=>?_,λj j' d d' hne hj hj' h3 cU=>?_,λi h0 h7 hn=>?_,λj d hj iO l bQ ha=>?_⟩
 .rcases Xm.1 hg with hg|hg
  .exact h.st g hg
  .rw[Xaa]at hg;subst hg;exact⟨f1,f2⟩
 .by_cases e:j=k
  .subst e;rw[Wax]at hj;cases hj;omega
  .rw[WW e]at hj;obtain⟨g1,g2,g3⟩:=h.fr j d hj cU;refine⟨g1,g2,λg hg=>?_⟩;rcases Xm.1 hg with hg|hg
   .exact g3 g hg
   .rw[Xaa]at hg;subst hg;exact h.fr2 k j c d (λz=>e z.symm) hc hj h2 cU
 .by_cases e:j=k
  .subst e;rw[Wax]at hj;cases hj;omega
  .rw[WW e]at hj;by_cases e':j'=k
   .subst e';rw[Wax]at hj';cases hj';omega
   .rw[WW e']at hj';exact h.fr2 j j' d d' hne hj hj' h3 cU
 .have oK:pick c.puts i=none:=by
   cases hx:pick c.puts i with
   |none=>rfl
   |some x=>
    obtain⟨l,bQ,e⟩:=mn i x hx;refine Wl ⟨l,by rw[hp];exact bQ,by simp only[hp];exact e,?_⟩ (hn k c' Wax (.inl h3));unfold lkA;omega
  rw[qV i oK];refine h.cell i h0 h7 λj d hj iO=>?_;by_cases e:j=k
  .subst e;rw[hc]at hj;cases hj;omega
  .exact hn j d (by rw[WW e];exact hj) iO
 .by_cases e:j=k
  .subst e;rw[Wax]at hj;cases hj;have fL:l<c.puts.length:=by rw[←hp];exact bQ
   obtain⟨t1,t2⟩:=qW l fL;simp only[hp,hw];exact⟨t2,t1,λhz=>by omega⟩
  .rw[WW e]at hj;obtain⟨wu,qU,iP⟩:=hl j d hj;have hrow:=(wu.rows _ (Xo bQ)).1;have oK:pick c.puts d.puts[l].1=none:=by
    cases hx:pick c.puts d.puts[l].1 with
    |none=>rfl
    |some x=>
     obtain⟨l2,fL,e2⟩:=mn _ x hx;exact Wl ⟨l,bQ,rfl,ha⟩ (cF d.puts[l].1 hrow.1 hrow.2 ⟨l2,fL,e2⟩ j d hj iO)
   rw[qV _ oK];exact h.sto j d hj iO l bQ ha
theorem RC.k4(h:RC b m H C v i x)(hc:C k=some c)(h2:c.phase=3)(h3:c'.phase=4){who:Int}:RC b m (H++ [(c.wv,who,c.puts)]) (Wd0 C k (some c')) v i x:=by
 refine⟨?_,h.clk,λj d hj cU hv=>?_⟩
 .rw[WjP,h.val];unfold Wd3;by_cases hv:c.wv<=v
  .simp only[h.no k c hc h2 hv]
  .cases pick c.puts i with
   |none=>rfl
   |some y=>simp only;rw[Wa (λhz=>hv hz.1)]
 .by_cases e:j=k
  .subst e;rw[Wax]at hj;cases hj;omega
  .rw[WW e]at hj;exact h.no j d hj cU hv
theorem MI.k5(h:MI b m H C)(hl:CL2 m C)(hm:W2 m=true)(hc:C k=some c)(h4:c.phase=4){j:Nat}(hj:j<c.puts.length)(hpos:c.pos=j)(hp:c'.puts=c.puts)(hw:c'.wv=c.wv)(cd:c'.phase=4/\c'.pos=j+1\/c'.phase=5/\c'.pos=0/\j+1=c.puts.length):
  MI b (WbW m c.puts[j].1 c.who c.puts[j].2) H (Wd0 C k (some c')):=by
 obtain⟨ok,lJ,fb⟩:=hl k c hc;have gZ:∀l:Nat,lkA c l:=λl=>by unfold lkA;omega
 have mq:∀l:Nat,lkA c' l:=λl=>by unfold lkA;omega
 have hrow:=(ok.rows _ (Xo hj)).1;have hown:=(fb.own _ hrow.1 hrow.2).2 ⟨j,hj,rfl,gZ j⟩;have aS:WbW m c.puts[j].1 c.who c.puts[j].2=WmU m c.puts[j].1 (c.puts[j].2,(Ww m c.puts[j].1).2):=by
  unfold WbW;rw[Wb (show(Ww m c.puts[j].1).2.2=c.who from hown)]
 rw[aS];have ar:∀i,0<=i->i<=7->Ww (WmU m c.puts[j].1 (c.puts[j].2,(Ww m c.puts[j].1).2)) i=if i=c.puts[j].1 then(c.puts[j].2,(Ww m c.puts[j].1).2)else Ww m i:=λi h0 h7=>Wbt hm hrow ⟨h0,h7⟩;have nQ:∀l d,l≠k->C l=some d->∀(a:Nat) (ha:a<d.puts.length),lkA d a->d.puts[a].1≠c.puts[j].1:=λl d hne hd a ha kH he=>by
  obtain⟨yp,qX,iP⟩:=hl l d hd;have:=(iP.own _ hrow.1 hrow.2).2 ⟨a,ha,he,kH⟩;omega
 refine⟨h.st,λl d hd cU=>?_,λl l' d d' hne hd cL h3 cU=>?_,λi h0 h7 hn=>?_,λl d hd iO a ha kH=>?_⟩
 .by_cases e:l=k
  .subst e;rw[Wax]at hd;cases hd;omega
  .rw[WW e]at hd;exact h.fr l d hd cU
 .by_cases e:l=k
  .subst e;rw[Wax]at hd;cases hd;omega
  .rw[WW e]at hd;by_cases e':l'=k
   .subst e';rw[Wax]at cL;cases cL;omega
   .rw[WW e']at cL;exact h.fr2 l l' d d' hne hd cL h3 cU
 .have sS:i≠c.puts[j].1:=λhe=>hn k c' Wax (by omega) ⟨j,by rw[hp];exact hj,by simp only[hp];exact he.symm,mq j⟩;rw[ar i h0 h7,Wa sS];refine h.cell i h0 h7 λl d hd iO hI=>?_;by_cases e:l=k
  .subst e;rw[hc]at hd;cases hd;obtain⟨a,ha,e1,e2⟩:=hI;exact hn l c' Wax (by omega) ⟨a,by rw[hp];exact ha,by simp only[hp];exact e1,mq a⟩
  .exact hn l d (by rw[WW e];exact hd) iO hI
 .by_cases e:l=k
  .subst e;rw[Wax]at hd;cases hd;have kw:a<c.puts.length:=by rw[←hp];exact ha
   obtain⟨s1,s2,s3⟩:=h.sto l c hc (.inl h4) a kw (gZ a);have iQ:=(ok.rows _ (Xo kw)).1;simp only[hp,hw];rw[ar _ iQ.1 iQ.2];by_cases haj:c.puts[a].1=c.puts[j].1
   .have:a=j:=ok.inj kw hj haj;subst this;rw[Wb rfl];exact⟨s1,s2,λ_=>rfl⟩
   .rw[Wa haj];have hne:a≠j:=λe=>haj (by subst e;rfl);exact⟨s1,s2,λhz=>s3 (.inr (by omega))⟩
  .rw[WW e]at hd;have iQ:=((hl l d hd).1.rows _ (Xo ha)).1;rw[ar _ iQ.1 iQ.2,Wa (nQ l d e hd a ha kH)];exact h.sto l d hd iO a ha kH
theorem MI.k6(h:MI b m H C)(hl:CL2 m C)(hm:W2 m=true)(hc:C k=some c)(h5:c.phase=5){j:Nat}(hj:j<c.puts.length)(hpos:c.pos=j)(ho:(∃c',o=some c'/\c'.puts=c.puts/\c'.wv=c.wv/\c'.phase=5/\c'.pos=j+1)\/(o=none/\j+1=c.puts.length)):
  MI b (Wav m c.puts[j].1 c.who c.wv) H (Wd0 C k o):=by
 obtain⟨ok,lJ,fb⟩:=hl k c hc;have hrow:=(ok.rows _ (Xo hj)).1;have kG:lkA c j:=by unfold lkA;omega
 have hown:=(fb.own _ hrow.1 hrow.2).2 ⟨j,hj,rfl,kG⟩;obtain⟨v1,v2⟩:=fb.ver (.inr (.inr h5));obtain⟨yq,sj2,yr⟩:=h.sto k c hc (.inr h5) j hj kG;have aS:Wav m c.puts[j].1 c.who c.wv=WmU m c.puts[j].1 ((Ww m c.puts[j].1).1,c.wv,0):=by
  unfold Wav;rw[Wb ⟨hown,v2 _ ⟨j,hj,rfl,kG⟩,v1⟩]
 rw[aS];have ar:∀i,0<=i->i<=7->Ww (WmU m c.puts[j].1 ((Ww m c.puts[j].1).1,c.wv,0)) i=if i=c.puts[j].1 then((Ww m c.puts[j].1).1,c.wv,0)else Ww m i:=λi h0 h7=>Wbt hm hrow ⟨h0,h7⟩;have nQ:∀l d,l≠k->C l=some d->∀(a:Nat) (ha:a<d.puts.length),lkA d a->d.puts[a].1≠c.puts[j].1:=λl d hne hd a ha kH he=>by
  obtain⟨yp,qX,iP⟩:=hl l d hd;have:=(iP.own _ hrow.1 hrow.2).2 ⟨a,ha,he,kH⟩;omega
 have nO:∀d,Wd0 C k o k=some d->d.phase=5/\d.puts=c.puts/\d.wv=c.wv/\d.pos=j+1:=λd hd=>by
  rw[Wax]at hd;rcases ho with⟨c',e,e1,e2,e3,e4⟩|⟨e,_⟩
  .rw[e]at hd;cases hd;exact⟨e3,e1,e2,e4⟩
  .rw[e]at hd;cases hd
 refine⟨h.st,λl d hd cU=>?_,λl l' d d' hne hd cL h3 cU=>?_,λi h0 h7 hn=>?_,λl d hd iO a ha kH=>?_⟩
 .by_cases e:l=k
  .subst e;have:=nO d hd;omega
  .rw[WW e]at hd;exact h.fr l d hd cU
 .by_cases e:l=k
  .subst e;have:=nO d hd;omega
  .rw[WW e]at hd;by_cases e':l'=k
   .subst e';have:=nO d' cL;omega
   .rw[WW e']at cL;exact h.fr2 l l' d d' hne hd cL h3 cU
 .rw[ar i h0 h7];by_cases hi:i=c.puts[j].1
  .subst hi;rw[Wb rfl,yq];exact⟨yr (.inl h5),rfl⟩
  .rw[Wa hi];refine h.cell i h0 h7 λl d hd iO hI=>?_;by_cases e:l=k
   .subst e;rw[hc]at hd;cases hd;obtain⟨a,ha,e1,e2⟩:=hI;have hne:a≠j:=λe=>hi (by subst e;exact e1.symm);have eQ:(c.pos<=a):=by unfold lkA at e2;omega
    rcases ho with⟨c',eo,q1,q2,q3,q4⟩|⟨eo,q1⟩
    .refine hn l c' (by rw[Wax];exact eo) (.inr q3) ⟨a,by rw[q1];exact ha,by simp only[q1];exact e1,?_⟩;unfold lkA;omega
    .omega
   .exact hn l d (by rw[WW e];exact hd) iO hI
 .by_cases e:l=k
  .subst e;obtain⟨q3,q1,q2,q4⟩:=nO d hd;have kw:a<c.puts.length:=by rw[←q1];exact ha
   have qY:lkA c a/\a≠j:=by unfold lkA at kH⊢;omega
   obtain⟨s1,s2,s3⟩:=h.sto l c hc (.inr h5) a kw qY.1;have iQ:=(ok.rows _ (Xo kw)).1;simp only[q1,q2];rw[ar _ iQ.1 iQ.2,Wa (λhe=>qY.2 (ok.inj kw hj he))];exact⟨s1,s2,λ_=>s3 (.inl h5)⟩
  .rw[WW e]at hd;have iQ:=((hl l d hd).1.rows _ (Xo ha)).1;rw[ar _ iQ.1 iQ.2,Wa (nQ l d e hd a ha kH)];exact h.sto l d hd iO a ha kH
end
end
section
variable{b:Int->Int}{m m':Mm}{H:List Wr}{C:Nat->Option Cm}{k:Nat}{c c':Cm}{o o':Option Cm}{v i x:Int}
def cmO(c:Cm):Option Cm:=if c.phase=6\/c.phase=8 then none else some c
def Wa0(k:Nat)(c:Cm)(q:Cm)(H:List Wr):List Wr:=if c.phase<=3/\q.phase=4 then H++ [(q.wv,(k:Int)+1,q.puts)]else H
theorem WlT:Wd0 (Wd0 C k o) k o'=Wd0 C k o':=by
 funext j;unfold Wd0;split<;>rfl
theorem Wkh(h:cmO c=some c'):c'=c/\c.phase≠6/\c.phase≠8:=by
 unfold cmO at h;split at h
 .cases h
 .cases h;exact⟨rfl,by omega,by omega⟩
def Keep(b:Int->Int)(m:Mm)(H:List Wr)(C:Nat->Option Cm)(m':Mm)(H':List Wr)(C':Nat->Option Cm):Prop:=MI b m' H' C'/\∀v i x,RC b m H C v i x->RC b m' H' C' v i x
theorem Keep.k1(h:MI b m H C)(hc:∀c,C k=some c->c.phase≠4/\c.phase≠5)(ho:∀c',o=some c'->c'.phase≠3/\c'.phase≠4/\c'.phase≠5)
  (h1:m'.1=m.1) (hm:∀i,0<=i->i<=7->(Ww m' i).1=(Ww m i).1/\(Ww m' i).2.1=(Ww m i).2.1) (hr:∀k c,C k=some c->CmR c):Keep b m H C m' H (Wd0 C k o):=
 ⟨h.k1 hc ho h1 hm hr,λv i x hx=>hx.k1 (λc' e=>(ho c' e).1) h1⟩
theorem MI.step(h:MI b m H C)(hl:CL2 m C)(aY:CmOk c)(hm:W2 m=true)(cx:m.1<1000000)(hc:C k=some c)(h68:c.phase≠6/\c.phase≠8):
  Keep b m H C (Wz m c).1 (Wa0 k c (Wz m c).2 H) (Wd0 C k (cmO (Wz m c).2)):=by
 have hr:∀k c,C k=some c->CmR c:=λk c e=>(hl k c e).1;have ml:∀d,C k=some d->d=c:=λd e=>by rw[hc]at e;cases e;rfl
 obtain⟨okr,lJ,fb⟩:=hl k c hc;have cd:=aY.phase;have aS:c.phase=1\/c.phase=4\/c.phase=5\/c.phase=7->c.steps=c.puts.length:=λhp=>by unfold Cm.steps;rw[Wb hp]
 have h0:=(WP hm).2.1;have back:∀n:Int,c.phase≠4/\c.phase≠5->Keep b m H C m (Wa0 k c (Wao c n) H) (Wd0 C k (cmO (Wao c n))):=λn hp=>by
  have e:Wa0 k c (Wao c n) H=H:=by unfold Wa0;rw[Wa (by rcases Wdd c n with e|e<;>omega)]
  rw[e];refine Keep.k1 h (λd hd=>by rw[ml d hd];exact hp) (λd hd=>?_) rfl (λ_ _ _=>⟨rfl,rfl⟩) hr;obtain⟨e,_⟩:=Wkh hd;subst e;rcases Wdd c n with e|e<;>omega
 by_cases h1:c.phase=1
 .unfold Wz;simp only;rw[Wb h1];obtain⟨j,hj,e1,e2,e3,e4⟩:=aY.put (by omega);rw[e2];split
  .have hp:(WB c 2).phase=1\/(WB c 2).phase=2:=by
    unfold WB;split
    .right;show Wbk c 2=2;unfold Wbk;rw[Wa (by omega),Wa (by omega)]
    .left;exact h1
   have e:Wa0 k c (WB c 2) H=H:=by unfold Wa0;rw[Wa (λz=>by have:=z.2;omega)]
   show Keep b m H C _ (Wa0 k c (WB c 2) H) _;rw[e];refine Keep.k1 h (λd hd=>by rw[ml d hd];omega) (λd hd=>?_) rfl (λi a z=>?_) hr
   .obtain⟨e,_⟩:=Wkh hd;rw[show d=WB c 2 from e];omega
   .show(Ww (WkB m c.puts[j].1 c.who) i).1=_/\_;unfold WkB;rw[Wbt hm e3 ⟨a,z⟩];split
    .rename_i he;subst he;exact⟨rfl,rfl⟩
    .exact⟨rfl,rfl⟩
  .exact back _ (by omega)
 by_cases h2:c.phase=2
 .have et:tick m=((m.1+1,m.2),m.1+1):=by unfold tick;rw[Wb cx]
  unfold Wz;simp only;rw[Wa h1,Wb h2,et];simp only;rw[Wa (by omega)];generalize dZ:({c with wv:=m.1+1,phase:=3,pos:=0}:Cm)=c2;have p3:c2.phase=3:=by rw[←dZ]
  have pw:c2.wv=m.1+1:=by rw[←dZ]
  have pp:c2.puts=c.puts:=by rw[←dZ]
  have pwho:c2.who=c.who:=by rw[←dZ]
  have k2:MI b (m.1+1,m.2) H (Wd0 C k (some c2)):=h.k2 hc h2 p3 pw h0;have ui:∀v i x,RC b m H C v i x->RC b (m.1+1,m.2) H (Wd0 C k (some c2)) v i x:=λv i x hx=>hx.k2 pw;have fL:CL2 (m.1+1,m.2) (Wd0 C k (some c2)):=λj d hd=>by
   by_cases e:j=k
   .subst e;rw[Wax]at hd;cases hd;have qZ:∀i,lkd c2 i↔lkd c i:=λi=>Wdj pp λj hj=>by unfold lkA;omega
    refine⟨⟨by rw[pp];exact okr.rows,by rw[pp];exact okr.pup⟩,by rw[pwho];exact lJ,λi a z=>?_,λ_=>⟨by rw[pw];exact Xs _,λi hi=>?_⟩⟩
    .rw[pwho,qZ];exact fb.own i a z
    .rw[pw];obtain⟨l,bQ,a,_⟩:=(qZ i).1 hi;have rR:=(okr.rows _ (Xo bQ)).1;have hcl:=WeB.1 (WeP hm rR);rw[←a];show(Ww m c.puts[l].1).2.1<=m.1+1;omega
   .rw[WW e]at hd;obtain⟨a,z,q⟩:=hl j d hd;exact⟨a,z,q.own,λhz=>⟨by have:=(q.ver hz).1;show d.wv<=m.1+1;omega,(q.ver hz).2⟩⟩
  have hq:∀a,Wbk {c with wv:=m.1+1} 3=a->Wdi {c with wv:=m.1+1} 3={c with wv:=m.1+1,phase:=a,pos:=0}:=λa e=>by unfold Wdi;rw[e]
  by_cases lY:c.reads.length=0
  .by_cases iv:c.puts.length=0
   .rw[hq 6 (by unfold Wbk;rw[Wb ⟨.inl ⟨rfl,lY⟩,iv⟩])];have e:Wa0 k c {c with wv:=m.1+1,phase:=6,pos:=0} H=H:=by unfold Wa0;rw[Wa (λz=>by have:=z.2;simp only at this;omega)]
    have eo:cmO {c with wv:=m.1+1,phase:=6,pos:=0}=none:=by unfold cmO;rw[Wb (.inl rfl)]
    rw[e,eo,←WlT (C:=C) (k:=k) (o:=some c2)];refine⟨k2.k1 (λd hd=>?_) (λd hd=>by cases hd) rfl (λ_ _ _=>⟨rfl,rfl⟩) (λj d hd=>(fL j d hd).1),λv i x hx=>(ui v i x hx).k1 (λd hd=>by cases hd) rfl⟩;rw[Wax]at hd;cases hd;omega
   .rw[hq 4 (by unfold Wbk;rw[Wa (λz=>iv z.2),Wb ⟨rfl,lY⟩])];have e:Wa0 k c {c with wv:=m.1+1,phase:=4,pos:=0} H=H++ [(c2.wv,(k:Int)+1,c2.puts)]:=by unfold Wa0;rw[Wb ⟨by omega,rfl⟩,pw,pp]
    have eo:cmO {c with wv:=m.1+1,phase:=4,pos:=0}=some {c with wv:=m.1+1,phase:=4,pos:=0}:=by unfold cmO;rw[Wa (by simp)]
    rw[e,eo,←WlT (C:=C) (k:=k) (o:=some c2)];exact⟨k2.k4 (c':={c with wv:=m.1+1,phase:=4,pos:=0}) fL (by show m.1+1<=1000000;omega) Wax p3 rfl rfl pw.symm pp.symm,λv i x hx=>(ui v i x hx).k4 Wax p3 rfl⟩
  .have e3:Wdi {c with wv:=m.1+1} 3=c2:=by
    rw[hq 3 (by unfold Wbk;rw[Wa (λz=>by rcases z.1 with y|y;exact lY y.2;omega),Wa (λz=>lY z.2)]),←dZ]
   rw[e3];have e:Wa0 k c c2 H=H:=by unfold Wa0;rw[Wa (λz=>by have:=z.2;omega)]
   have eo:cmO c2=some c2:=by unfold cmO;rw[Wa (by omega)]
   rw[e,eo];exact⟨k2,ui⟩
 by_cases h3:c.phase=3
 .unfold Wz;simp only;rw[Wa h1,Wa h2,Wb h3];split
  .exact back _ (by omega)
  .by_cases c9:c.pos+1=c.steps
   .have en:WB c 4={c with phase:=Wbk c 4,pos:=0}:=by unfold WB;rw[Wb c9];rfl
    by_cases iv:c.puts.length=0
    .have ea:Wbk c 4=6:=by unfold Wbk;rw[Wb ⟨.inr rfl,iv⟩]
     rw[en,ea];have e:Wa0 k c {c with phase:=6,pos:=0} H=H:=by unfold Wa0;rw[Wa (λz=>by have:=z.2;simp only at this;omega)]
     have eo:cmO {c with phase:=6,pos:=0}=none:=by unfold cmO;rw[Wb (.inl rfl)]
     show Keep b m H C m (Wa0 k c {c with phase:=6,pos:=0} H) (Wd0 C k (cmO {c with phase:=6,pos:=0}));rw[e,eo];exact Keep.k1 h (λd hd=>by rw[ml d hd];omega) (λd hd=>by cases hd) rfl (λ_ _ _=>⟨rfl,rfl⟩) hr
    .have ea:Wbk c 4=4:=by unfold Wbk;rw[Wa (λz=>iv z.2),Wa (by omega)]
     rw[en,ea];have e:Wa0 k c {c with phase:=4,pos:=0} H=H++ [(c.wv,(k:Int)+1,c.puts)]:=by unfold Wa0;rw[Wb ⟨by omega,rfl⟩]
     have eo:cmO {c with phase:=4,pos:=0}=some {c with phase:=4,pos:=0}:=by unfold cmO;rw[Wa (by simp)]
     show Keep b m H C m (Wa0 k c {c with phase:=4,pos:=0} H) (Wd0 C k (cmO {c with phase:=4,pos:=0}));rw[e,eo];exact⟨h.k4 (c':={c with phase:=4,pos:=0}) hl (by omega) hc h3 rfl rfl rfl rfl,λv i x hx=>hx.k4 hc h3 rfl⟩
   .have en:WB c 4={c with pos:=c.pos+1}:=by unfold WB;rw[Wa c9]
    rw[en];have e:Wa0 k c {c with pos:=c.pos+1} H=H:=by unfold Wa0;rw[Wa (λz=>by have:=z.2;simp only at this;omega)]
    have eo:cmO {c with pos:=c.pos+1}=some {c with pos:=c.pos+1}:=by unfold cmO;rw[Wa (by simp only;omega)]
    show Keep b m H C m (Wa0 k c {c with pos:=c.pos+1} H) (Wd0 C k (cmO {c with pos:=c.pos+1}));rw[e,eo];exact⟨h.k3 hc h3 h3 rfl,λv i x hx=>hx.k3 hc h3 rfl rfl⟩
 by_cases h4:c.phase=4
 .obtain⟨j,hj,e1,e2,e3,e4⟩:=aY.put (by omega);have hs:=aS (by omega);unfold Wz;simp only;rw[Wa h1,Wa h2,Wa h3,Wb h4,e2];have e:Wa0 k c (WB c 5) H=H:=by unfold Wa0;rw[Wa (λz=>by have:=z.1;omega)]
  obtain⟨p1,p2,p3⟩:=WaR c 5;have cd:(WB c 5).phase=4/\(WB c 5).pos=(j:Int)+1\/(WB c 5).phase=5/\(WB c 5).pos=0/\j+1=c.puts.length:=by
   unfold WB;split
   .exact .inr ⟨WrO c,rfl,by omega⟩
   .exact .inl ⟨h4,by show c.pos+1=_;omega⟩
  have eo:cmO (WB c 5)=some (WB c 5):=by unfold cmO;rw[Wa (by omega)]
  show Keep b m H C (WbW m c.puts[j].1 c.who c.puts[j].2) (Wa0 k c (WB c 5) H) (Wd0 C k (cmO (WB c 5)));rw[e,eo];refine⟨h.k5 hl hm hc h4 hj e1 p1 p3 cd,λv i x hx=>hx.k1 (λd hd=>by cases hd;omega) ?_⟩;unfold WbW;split<;>rfl
 by_cases h5:c.phase=5
 .obtain⟨j,hj,e1,e2,e3,e4⟩:=aY.put (by omega);have hs:=aS (by omega);unfold Wz;simp only;rw[Wa h1,Wa h2,Wa h3,Wa h4,Wb h5,e2];have e:Wa0 k c (WB c 6) H=H:=by unfold Wa0;rw[Wa (λz=>by have:=z.1;omega)]
  obtain⟨p1,p2,p3⟩:=WaR c 6;have ho:(∃c',cmO (WB c 6)=some c'/\c'.puts=c.puts/\c'.wv=c.wv/\c'.phase=5/\c'.pos=(j:Int)+1)\/(cmO (WB c 6)=none/\j+1=c.puts.length):=by
   by_cases c9:c.pos+1=c.steps
   .right;have:(WB c 6).phase=6:=by unfold WB;rw[Wb c9];exact Wqw c
    exact⟨by unfold cmO;rw[Wb (.inl this)],by omega⟩
   .left;have en:WB c 6={c with pos:=c.pos+1}:=by unfold WB;rw[Wa c9]
    refine⟨WB c 6,by unfold cmO;rw[Wa (by rw[en];simp only;omega)],p1,p3,by rw[en];exact h5,by rw[en];show c.pos+1=_;omega⟩
  show Keep b m H C (Wav m c.puts[j].1 c.who c.wv) (Wa0 k c (WB c 6) H) (Wd0 C k (cmO (WB c 6)));rw[e];refine⟨h.k6 hl hm hc h5 hj e1 ho,λv i x hx=>hx.k1 (λd hd=>?_) ?_⟩
  .rcases ho with⟨c',q,_,_,q3,_⟩|⟨q,_⟩
   .rw[q]at hd;cases hd;omega
   .rw[q]at hd;cases hd
  .unfold Wav;split<;>rfl
 .have h7:c.phase=7:=by omega
  obtain⟨j,hj,e1,e2,e3,e4⟩:=aY.put (by omega);unfold Wz;simp only;rw[Wa h1,Wa h2,Wa h3,Wa h4,Wa h5,Wb h7,e2];have e:Wa0 k c (Wao c c.pos) H=H:=by unfold Wa0;rw[Wa (λz=>by have:=z.1;omega)]
  show Keep b m H C (Wav m c.puts[j].1 c.who (Ww m c.puts[j].1).2.1) (Wa0 k c (Wao c c.pos) H) (Wd0 C k (cmO (Wao c c.pos)));rw[e];refine Keep.k1 h (λd hd=>by rw[ml d hd];omega) (λd hd=>?_) (by unfold Wav;split<;>rfl) (λi a z=>?_) hr
  .obtain⟨e,_⟩:=Wkh hd;subst e;rcases Wdd c c.pos with e|e<;>omega
  .unfold Wav;split
   .rw[Wbt hm e3 ⟨a,z⟩];split
    .rename_i he;subst he;exact⟨rfl,rfl⟩
    .exact⟨rfl,rfl⟩
   .exact⟨rfl,rfl⟩
end
end Go.Sx
