/- Plain laws of the Lean functions. -/
import Derived.Test.YtceijnpnofmkkaaGreatMW2
open Bool renaming and_eq_true→Xi,and_self→Xbn,eq_false_iff→Xci
open List renaming all_eq_true→Xac,length_set→Xab,getElem_set→Xao,getElem_mem→Xp,length_map→Xae,mem_map→Xw,getElem_replicate→Xbe,foldl_cons→Xbz,length_cons→Xs,append_eq→Xal,length_take→Xba,mem_or_eq_of_mem_set→Xdb,pairwise_iff_getElem→Xar,mem_filter→Xau,mem_cons_of_mem→Xe,mem_cons_self→Xh,getElem_of_mem→Xam,mem_append→Xm,mem_singleton→Xaf,map_cons→Xak,sum_cons→Xct
open Option renaming bind_some→Xd
open Nat renaming le_refl→Xn,lt_trichotomy→Xcz
open Int renaming toNat_natCast→Xj,le_refl→Xo,le_trans→Xet,lt_of_le_of_lt→Xcp
namespace Go.Sx
set_option linter.unusedVariables false
set_option linter.unusedSimpArgs false
section
noncomputable def Wly(p:Pg):Bool:=p.2.all WfI&&(Wov p.1&&(decide (p.2.length<=3)&&beq (p.1.any λo=>o.1==11) (decide (p.2.length>0))))
noncomputable def WlL(s:Sc):Bool:=Wto s.1&&(decide (s.2.1.length<=4)&&(decide (s.2.2.length<=400)&&s.2.1.all Wly))
structure PB(p:Pg):Prop where
 code:p.1.length<=1000
 kids:p.2.length<=1000
 each:∀c∈p.2,c.length<=1000
structure SB(s:Sc):Prop where
 cells:s.1.1.length<=100
 map:s.1.2.1.length<=100
 progs:s.2.1.length<=100
 each:∀p∈s.2.1,PB p
 acts:s.2.2.length<=1000
variable{N:Nat}{s:Sc}{p:Pg}{w:Wo}{n:Int}{a:Ac}
theorem Wu8(h:Wly p=true):POk p:=by
 unfold Wly at h;simp only[Xi,Xac,Wh]at h;exact⟨Wwh h.2.1,λc hc=>Wxr (h.1 c hc),h.2.2.1⟩
theorem Wet(h:WlL s=true):ThOk s.1/\s.2.1.length<=4/\s.2.2.length<=400/\∀p∈s.2.1,POk p:=by
 simp_all [WlL,Xi,Xac,Wh,WpA,Wu8]
theorem WnG{α:Type}(l:List α)(k:Nat):decide ((Wj l)<=(k:Int))=decide (l.length<=k):=by
 simp[Wj,Wf,Wx]
theorem Wia{α:Type}(l:List α)(k:Nat):decide ((Wj l)>(k:Int))=decide (l.length>k):=by
 simp[Wj,Wf,Wx]
theorem Wi8(l k:Nat):decide (l>k)= !decide (l<=k):=by
 grind
theorem Wnl{l:List Opn}(hl:l.length<=1048576)(hN:1048576<N):Zgt N l=ret (l.any λo=>o.1==11):=by
 unfold Zgt Zav Zy;have h1:=WlF (l:=l) (p:=λo=>o.1==11) (N:=N) (lp:=λn j=>Zl N l (λaI=>(some ((),(aI,())))) (λaK bd=>(some ((),((-1:Int),())))) n j) (K0:=λj=>some ((),(j,()))) (K1:=some ((),((-1:Int),()))) (by omega) (by omega)
  (λn j hj=>by
   simp only[Zl,Wat hj,WC hj,WJ hj,Wt (show j<4611686018427387904 by omega),Wc,Zmb,Xd])
  (λn=>by simp[Zl,WaO,Xn,We])
 rw[h1];have h2:=WkQ (p:=λo:Opn=>o.1==11) l 0;cases hf:fnd (λo:Opn=>o.1==11) l 0 with
 |some r=>
  simp_all
 |none=>
  grind
theorem WmG(h:PB p)(hN:1048576<N):Zhr N p=ret (Wly p):=by
 have hc:=h.code;have hk:=h.kids;unfold Zhr Wly;have h1:=WV (l:=p.2) (V:=Unit) (R:=Unit×Ko) (lp:=λn j v=>Zc2 N p.2 p (some ((),(false,()))) (λaI aK=>
  ((Zco N p.1).bind λcF=>
 (bif cF.2.1 then
 (bif decide ((Wj p.2)<=(3:Int))then
 ((Zgt N p.1).bind λdP=>
 (some ((),(beq dP.2.1 (decide ((Wj p.2)>(0:Int))),()))))
 else
 (some ((),(false,()))))
 else
 (some ((),(false,())))))) n j) (n:=N) (by omega)
  (body:=λj x v k=>(Zg2 N x).bind λo=>bif !o.2.1 then some ((),(false,()))else k v) (K:=λ_ v=>((Zco N p.1).bind λcF=>
 (bif cF.2.1 then
 (bif decide ((Wj p.2)<=(3:Int))then
 ((Zgt N p.1).bind λdP=>
 (some ((),(beq dP.2.1 (decide ((Wj p.2)>(0:Int))),()))))
 else
 (some ((),(false,()))))
 else
 (some ((),(false,()))))))
  (λn i v hi=>by simp only[Zc2,Wat hi,WC hi,WJ hi,Wt (show i<4611686018427387904 by omega),Wc])
  (λn v=>by simp[Zc2,WaO,Xn,We]) ()
 refine h1.trans ?_;rw[WaM (p:=λx=>!WfI x) (E:=λ_=>some ((),(false,()))) p.2 0 () (λj x v k hx=>by rw[Wox (by have:=h.each x hx;omega) hN];rfl),WcF,Whn (by omega) hN,Wnl (by omega) hN];simp only[ret,Xd];rw[show(3:Int)=((3:Nat):Int)from rfl,WnG,show(0:Int)=((0:Nat):Int)from rfl,Wia];cases p.2.all WfI<;>cases Wov p.1<;>cases decide (p.2.length<=3)<;>rfl
theorem WmX(h:PB p)(hN:1048576<N):Zgj N p=ret (Wly p):=by
 have hc:=h.code;have hk:=h.kids;unfold Zgj Wly;have h1:=WV (l:=p.2) (V:=Unit) (R:=Unit×Ko) (lp:=λn j v=>Zb6 N p (some ((),(false,()))) (λlJ aI=>(some ((),(true,())))) n j) (n:=N) (by omega)
  (body:=λj x v k=>(Zg1 N x).bind λo=>bif !o.2.1 then some ((),(false,()))else k v) (K:=λ_ v=>some ((),(true,())))
  (λn i v hi=>by simp only[Zb6,Wat hi,WC hi,WJ hi,Wt (show i<4611686018427387904 by omega),Wc])
  (λn v=>by simp[Zb6,WaO,Xn,We]) ()
 have h2:Zb6 N p (some ((),(false,()))) (λlJ aI=>(some ((),(true,())))) N 0=ret (p.2.all WfI):=by
  refine h1.trans ?_;rw[WaM (p:=λx=>!WfI x) (E:=λ_=>some ((),(false,()))) p.2 0 () (λj x v k hx=>by rw[Wom (by have:=h.each x hx;omega) hN];rfl),WcF];cases p.2.all WfI<;>rfl
 rw[h2,Whq (by omega) hN,Whw (by omega) hN];simp only[ret,Xd];rw[show(3:Int)=((3:Nat):Int)from rfl,Wia,Wi8,show(0:Int)=((0:Nat):Int)from rfl,Wia];generalize beq (p.1.any λo=>o.1==11) (decide (p.2.length>0))=b;cases p.2.all WfI<;>cases Wov p.1<;>cases decide (p.2.length<=3)<;>cases b<;>rfl
theorem Wjq{t:List Int×List Int×Int}(h1:t.1.length<=1048576)(h2:t.2.1.length<=1048576)(hN:1048576<N):Zf9 N t=ret (Wto t):=by
 unfold Zf9 Wto WmQ;have e:((Wj t.2.1) !=(8:Int))= !decide (t.2.1.length=8):=by
  grind [Wj]
 have h3:=WV (l:=t.2.1) (V:=Unit) (R:=Unit×Ko) (lp:=λn j v=>Zbl N t (some ((),(false,()))) (λlJ aI=>(some ((),(true,())))) n j) (n:=N) (by omega)
  (body:=λj x v k=>bif !(decide (0<=x)&&decide (x<=65536))then some ((),(false,()))else k v) (K:=λ_ v=>some ((),(true,())))
  (λn i v hi=>by simp only[Zbl,Wat hi,WC hi,WJ hi,Wt (show i<4611686018427387904 by omega),Wc,Wqk,ret,Xd])
  (λn v=>by simp[Zbl,WaO,Xn,We]) ()
 have h4:Zbl N t (some ((),(false,()))) (λlJ aI=>(some ((),(true,())))) N 0=ret (t.2.1.all λx=>decide (0<=x)&&decide (x<=65536)):=by
  refine h3.trans ?_;rw[WaM (p:=λx=>!(decide (0<=x)&&decide (x<=65536))) (E:=λ_=>some ((),(false,()))) t.2.1 0 () (λj x v k _=>rfl),WcF];cases t.2.1.all _<;>rfl
 rw[Wm7 h1 hN,e,WfX,h4];cases WeB t.1<;>cases decide (t.2.1.length=8)<;>cases Wbj t.2.2<;>cases t.2.1.all _<;>rfl
theorem Wji(h:SB s)(hN:1048576<N):Zga N s=ret (WlL s):=by
 have h1:=h.cells;have h2:=h.map;have h3:=h.progs;unfold Zga WlL;have h4:=WV (l:=s.2.1) (V:=Unit) (R:=Unit×Ko) (lp:=λn j v=>Zbm N s (some ((),(false,()))) (λi9 aB=>(some ((),(true,())))) n j) (n:=N) (by omega)
  (body:=λj x v k=>(Zgj N x).bind λo=>bif !o.2.1 then some ((),(false,()))else k v) (K:=λ_ v=>some ((),(true,())))
  (λn i v hi=>by simp only[Zbm,Wat hi,WC hi,WJ hi,Wt (show i<4611686018427387904 by omega),Wc])
  (λn v=>by simp[Zbm,WaO,Xn,We]) ()
 have h5:Zbm N s (some ((),(false,()))) (λi9 aB=>(some ((),(true,())))) N 0=ret (s.2.1.all Wly):=by
  refine h4.trans ?_;rw[WaM (p:=λx=>!Wly x) (E:=λ_=>some ((),(false,()))) s.2.1 0 () (λj x v k hx=>by rw[WmX (h.each x hx) hN];rfl),WcF];cases s.2.1.all Wly<;>rfl
 rw[h5,Wjq (by omega) (by omega) hN];simp only[ret,Xd];rw[show(4:Int)=((4:Nat):Int)from rfl,Wia,Wi8,show(400:Int)=((400:Nat):Int)from rfl,Wia,Wi8];cases Wto s.1<;>cases decide (s.2.1.length<=4)<;>cases decide (s.2.2.length<=400)<;>rfl
theorem WfE(h:SB s)(hN:1048576<N):Zhz N s=ret (WlL s):=by
 have h1:=h.cells;have h2:=h.map;have h3:=h.progs;unfold Zhz WlL Zaj Zt;have h4:=WV (l:=s.2.1) (V:=Unit) (R:=Unit×Kh) (lp:=λn j v=>Ze N s.2.1 (λaI=>(some ((),(aI,())))) (λaK bd=>(some ((),((-1:Int),())))) n j) (n:=N) (by omega)
  (body:=λj x v k=>(Zif N x).bind λo=>bif o.2.1 then some ((),(j,()))else k v) (K:=λ_ v=>some ((),((-1:Int),())))
  (λn i v hi=>by simp only[Ze,Wat hi,WC hi,WJ hi,Wt (show i<4611686018427387904 by omega),Wc])
  (λn v=>by simp[Ze,WaO,Xn,We]) ()
 have h5:((Ze N s.2.1 (λaI=>(some ((),(aI,())))) (λaK bd=>(some ((),((-1:Int),())))) N 0).bind λo2=>some ((),(decide (o2.2.1>=(0:Int)),())))=ret (!s.2.1.all Wly):=by
  have h6:=h4;rw[h6,Wge (p:=λx=>!Wly x) (E:=λj _=>some ((),(j,()))) s.2.1 0 () (λj x v k hx=>by unfold Zif;rw[WmG (h.each x hx) hN];rfl)];have h7:=WkQ (p:=λx=>!Wly x) s.2.1 0;rw[WcF]at h7;rw[←h7];cases hf:fnd (λx=>!Wly x) s.2.1 0 with
  |some r=>simp_all
  |none=>rfl
 rw[Wjl (by omega) (by omega) hN];simp only[ret,Xd];rw[h5,show(4:Int)=((4:Nat):Int)from rfl,WnG,show(400:Int)=((400:Nat):Int)from rfl,WnG];cases Wto s.1<;>cases decide (s.2.1.length<=4)<;>cases decide (s.2.2.length<=400)<;>cases s.2.1.all Wly<;>rfl
end
section
variable{N:Nat}{s:Sc}{p:Pg}{w:Wo}{n:Int}{a:Ac}{k:Nat}
theorem Wgv{ps:List Pg}(h:∀p∈ps,POk p)(hk:k<ps.length):POk (ps.getD k pg0):=by
 grind
theorem WOk.tick(h:WOk s.2.1 n w):WOk s.2.1 (n+1) {w with now:=w.now+1}:=
 {h with now:=by(have:=h.now;simp_all),n0:=by have:=h.n0;omega,hist:=by(have:=h.hist;grind),root:=λk hk=>(h.root k hk).wk (by omega)}
theorem WOk.putQ{q:Wo×Rt}{w0:Wo}(h:WOk s.2.1 (n+1) {w0 with now:=w0.now+1})(hh:(w0.hist.length:Int)<=n)(hk:k<w0.roots.length)(hq:QOk (s.2.1.getD k pg0) (n+1) {w0 with now:=w0.now+1} q):WOk s.2.1 (n+1) (Wo.put q k):=by
 have hr:q.1.roots=w0.roots:=hq.roots;exact{
  len:=by show(q.1.roots.set k q.2).length=_;rw[Xab,hr];exact h.len
  l4:=h.l4
  progs:=h.progs
  now:=hq.now.trans h.now
  n0:=h.n0
  mem:=hq.mem
  shelf:=hq.shelf
  holds:=hq.holds
  histE:=λe he=>(hq.histE e he).elim (h.histE e) id
  hist:=by have:=hq.hist;show(q.1.hist.length:Int)<=n+1;grind
  root:=λi hi=>by
   change i<(q.1.roots.set k q.2).length at hi;rw[Xab,hr]at hi;show ROk _ _ ((q.1.roots.set k q.2)[i]);rw[Xao];by_cases he:k=i
   .subst he;rw[Wb rfl];exact hq.root
   .rw[Wa he];have:=h.root i hi;simp_all}
theorem WcH(h:WOk s.2.1 n w):WOk s.2.1 (n+1) (Wde s w a):=by
 have ht:=h.tick;unfold Wde;simp only;split
 .rename_i hb;have hk:a.2.1.toNat<w.roots.length:=by omega
  have hx:=ht.root a.2.1.toNat hk;have kx:=h.root a.2.1.toNat hk;have hg:GOk {w with now:=w.now+1}:=⟨h.mem,h.shelf,h.holds⟩;have hp:=Wgv h.progs (show a.2.1.toNat<s.2.1.length by rw[←h.len];exact hk);have ku:w.roots.length<=4:=by rw[h.len];exact h.l4
  rw[Wn hk];split
  .unfold Wid;rw[Wn (show a.2.1.toNat<({w with now:=w.now+1}:Wo).roots.length from hk)];exact ht.putQ h.hist hk (WhY hp hg kx (by omega) h.n0)
  .split
   .split
    .rename_i hf;refine ht.putQ h.hist hk (hg.st ?_);have hl:=kx.live (by omega);obtain⟨f1,f2,f3⟩:=hl.fork hf.1;have hj:a.2.2.toNat<(s.2.1.getD a.2.1.toNat pg0).2.length:=by omega
     have dU:a.2.2.toNat<w.roots[a.2.1.toNat].fam.kids.length:=by rw[f3.len];exact hj
     have bb:KC ((s.2.1.getD a.2.1.toNat pg0).2.getD a.2.2.toNat []):=by rw[Wn hj];exact hp.kids _ (Xp hj)
     exact{hx with live:=λ_=>{hl.wk (show n<=n+1 by omega)with fork:=λ_=>⟨f1,f2,Wlk dU h.mem bb f3 rfl⟩}}
    .exact ht
   .split
    .split
     .refine ht.putQ h.hist hk (hg.st ?_);exact{hx with live:=λhh=>{hx.live hh with}}
     .exact ht
    .exact ht
 .exact ht
theorem WoD(h:WOk s.2.1 n w)(hn:n<=99999)(hN:1048576<N):Zfq N w.e s a=some (((Wde s w a).e,()),()):=by
 have ht:=h.tick;have qC:=h.now;have uV:=h.n0;have ku:w.roots.length<=4:=by rw[h.len];exact h.l4
 unfold Zfq Wde;simp only[WD];rw[show P5 w.e=w.roots.map Rt.e from rfl,show w.e.1=w.now from rfl,WcN (by omega)];have hlen:Wj (w.roots.map Rt.e)=(w.roots.length:Int):=by unfold Wj;simp
 rw[hlen,WaG (by unfold I64;omega)];simp only[W3,ret,Xd];by_cases hb:0<=a.2.1/\a.2.1<w.roots.length
 .rw[Wb hb,Wf hb.1,Wf (show a.2.1<=(w.roots.length:Int) -1 by omega)];obtain⟨k,AG⟩:∃k:Nat,a.2.1=k:=⟨a.2.1.toNat,by omega⟩;have hk:k<w.roots.length:=by omega
  obtain⟨x,aQ⟩:∃x,w.roots[k]=x:=⟨_,rfl⟩;have hx:=h.root k hk;rw[aQ]at hx;have lE:k<s.2.1.length:=by rw[←h.len];exact hk
  have hp:=Wgv h.progs lE;obtain⟨g1,g2,g3,g4,g5⟩:=woG hk aQ;obtain⟨r0,r1,r2,r3,r4,r5,r6,r7,r8,kp,jE,iM,iN,jg,jh,la,lb,kq,kr,ld,lh,li⟩:=rtP x;have gP:∀y:Rt,(w.now+1,S4 (List.set (w.roots.map Rt.e) k y.e) w.e.2)=Wo.e (Wo.put ({w with now:=w.now+1},y) k):=λy=>by
   unfold Wo.put Wo.e;simp only[List.map_set];rfl
  have bj:Wo.put ({w with now:=w.now+1},x) k={w with now:=w.now+1}:=by unfold Wo.put;simp only;rw[←aQ,List.set_getElem_self]
  simp only[AG,Xj,Xbn,Bool.not_true,We];rw[g1,g4,Wn hk,aQ];simp only[Wc,r0,kq,kr,gP,bj,show w.e.2.2.1=w.mem from rfl];rw[Wad,Wf lE];have AH:List.getD s.2.1 k (([]:List Ka),([]:List Ky))=s.2.1.getD k pg0:=rfl;rw[AH];generalize gh:s.2.1.getD k pg0=p at*;have hg:GOk {w with now:=w.now+1}:=⟨h.mem,h.shelf,h.holds⟩;simp only[Wc,WG];have aH:Zgm N (Wo.e {w with now:=w.now+1}) (k:Int) p=some (((Wo.put (WB {w with now:=w.now+1} x k p) k).e,()),()):=
   WtR (w:={w with now:=w.now+1}) hk aQ (by grind) hp hg hx (by omega) (by have:=h.hist;grind) hN
  rw[aH];by_cases h1:a.1=1
  .simp_all [Wb,Wid,Wn,Xd]
  .rw[Wa h1,Wa h1];by_cases h2:a.1=2
   .rw[Wb h2,Wb h2];by_cases hf:x.phase=2
    .rw[Wb hf,WaG (by have:=hp.k3;unfold I64 Wj;omega),show Wj p.2=(p.2.length:Int)from rfl];by_cases hj:0<=a.2.2/\a.2.2<p.2.length
     .rw[Wf hj.1,Wf (show a.2.2<=(p.2.length:Int) -1 by omega),Wb (show x.phase=2/\0<=a.2.2/\a.2.2<p.2.length from⟨hf,hj⟩)];obtain⟨j,qK⟩:∃j:Nat,a.2.2=j:=⟨a.2.2.toNat,by omega⟩;have hj':j<p.2.length:=by omega
      simp only[qK,Xj,Xbn,Wc];rw[Wad,Wf hj'];obtain⟨f1,f2,f3⟩:=(hx.live (by omega)).fork hf;have bb:KC (p.2.getD j []):=by rw[Wn hj'];exact hp.kids _ (Xp hj')
      rw[Wk9 (code:=p.2.getD j []) (by rw[f3.len];exact hj') (by rw[f3.len];exact hp.k3) h.mem bb f3 rfl (by omega) hN];simp only[Xd,Wc];have:U21 (Wbx w.mem x.fam j (p.2.getD j [])).e x.e=Rt.e {x with fam:=Wbx w.mem x.fam j (p.2.getD j [])}:=rfl
      grind [Wxs]
     grind
    simp_all
   .rw[Wa h2,Wa h2];by_cases h3:a.1=3
    .rw[Wb h3,Wb h3];have hd:S11 true x.e=Rt.e {x with doomed:=true}:=rfl;simp only[hd,gP,show(Cm.e x.cm).2.2.1=x.cm.phase from rfl,WaP]
     grind
    simp_all
 .rw[Wa hb];have uU:(decide (0<=a.2.1)&&decide (a.2.1<=(w.roots.length:Int) -1))=false:=by
   rw[Bool.and_eq_false_iff,Ww,Ww];omega
  rw[uU];rfl
theorem Wii(h:WlL s=true):WOk s.2.1 0 (Wer s):=by
 obtain⟨h1,h2,h3,h4⟩:=Wet h;exact{
  len:=by simp[Wer]
  l4:=h2
  progs:=h4
  now:=rfl
  n0:=Xo _
  mem:=by
   show W0 (Wkk s.1.1)=true;have:=h1.cells.len;unfold W0 Wkk;simp only[Xae,this,decide_true,Bool.true_and,Xi,Wh,Xac];refine⟨by omega,λw hw=>?_⟩;obtain⟨v,hv,rfl⟩:=Xw.1 hw;have:=h1.cells.val v hv;rw[WeD];unfold wd0;simp only;omega
  shelf:=⟨Wsp h1.map.1 h1.map.2,h1.cnt⟩
  holds:=⟨(λh hh=>by cases hh),List.Pairwise.nil⟩
  hist:=by simp[Wer]
  histE:=λh hh=>by cases hh
  root:=λk hk=>by
   simp only[Wer,Xbe];exact{
    phase:=by simp
    tries:=by simp
    live:=λhh=>by simp at hh
    comm:=λhh=>by simp at hh
    undos:=λu hu=>by cases hu
    ul:=by simp
    rg:=by simp
    ord:=by simp}}
theorem WrH:∀(l:List Ac) (n:Int) (w:Wo),WOk s.2.1 n w->WOk s.2.1 (n+l.length) (l.foldl (Wde s) w)
 | [],n,w,h=>by simpa using h
 |a::l,n,w,h=>by
  have:=WrH l (n+1) _ (WcH (a:=a) h);rw[Xbz,Xs];rw[show n+((l.length+1:Nat):Int)=n+1+l.length by omega];exact this
theorem WlC(h:WlL s=true):WOk s.2.1 s.2.2.length (Weq s):=by
 have:=WrH s.2.2 0 _ (Wii h);rw[Int.zero_add]at this;exact this
end
section
section
variable{N:Nat}{c:Cur}
theorem WgY{b7:Int}{l8:List Int}(h8:l8.length=8):∀(n i:Nat) (c:Cur) (l:List Int),8-i<n->i<=8->WaU c->l.length=i->
  Drw (λv:Kg×Unit=>v.1.1.length=8/\v.1.2.1.length=8) (Zcb N b7 l8 (λz7 gV v6 cK=>(some ((v6,()),((l8,(cK,b7)),())))) n (i:Int) c l)
 |0,i,c,l,h,_,_,_=>by omega
 |n+1,i,c,l,h,hi,hc,hl=>by
  unfold Zcb;refine .bif (λh0=>?_) λh0=>.ok hc ⟨h8,?_⟩
  .have h0:(i:Int)<8:=Wu h0;have e:Wm .i64 (i:Int) 1=((i+1:Nat):Int):=Wt (by omega);simp only[e];refine(Wd3 2 hc).bind λc b hc _=>.bif (λ_=>?_) λ_=>?_
   .exact(Wxb hc).bind λc v hc hv=>.bifT (WE (by simp;omega)) (WgY h8 n (i+1) c _ (by omega) (by omega) hc (by simp[Xal];omega))
   .exact .bifT (WE (by simp;omega)) (WgY h8 n (i+1) c _ (by omega) (by omega) hc (by simp[Xal];omega))
  .have h0:¬(i:Int)<8:=of_decide_eq_false h0;simp only;omega
theorem Wsg(hN:1048576<N)(hc:WaU c):Drw (λv:Kg×Unit=>v.1.1.length=8/\v.1.2.1.length=8) (Zep N c):=by
 unfold Zep;exact(Wxf hN hc).bind λc v hc hv=>(Wxb hc).bind λc w hc hw=>WgY hv N 0 c [] (by omega) (by omega) hc rfl
theorem Wqe(hN:1048576<N)(hc:WaU c):Drw (λv:Kg×Unit=>v.1.1.length<=100/\v.1.2.1.length<=100) (Zhy N c):=by
 unfold Zhy;refine(Wsg hN hc).bind λc t hc ht=>(Wax 16 hc).bind λc v hc hv=>.bif (λ_=>?_) λ_=>.bif (λ_=>?_) λ_=>.bif (λ_=>.ok hc (by simp only;omega)) λ_=>.bif (λ_=>?_) λ_=>.bif (λ_=>?_) λ_=>.ok hc (by simp only;omega)
 .refine .bifT (by rw[ht.1];rfl) (.ok hc ?_);simp only[Xba];omega
 .refine(Wax 8 hc).bind λc k hc hk=>?_;have hk:=hk.2 (by decide);refine .bifT (by unfold inb;rw[ht.2];simp;omega) (.ok hc ?_);simp only[Xab];omega
 .refine .bifT (by rw[ht.2];rfl) (.ok hc ?_);simp only[Xba];omega
 .refine(Wax 8 hc).bind λc k hc hk=>?_;have hk:=hk.2 (by decide);refine .bifT (by unfold inb;rw[ht.1];simp;omega) (.ok hc ?_);simp only[Xab];omega
theorem Wvt{p:Pg}(h:p.1.length<=300/\p.2.length<=100/\∀x∈p.2,x.length<=200):PB p:=⟨by omega,by omega,λx hx=>by have:=h.2.2 x hx;omega⟩
theorem Wud(hN:1048576<N)(hc:WaU c):Drw (λv:Pg×Unit=>PB v.1) (Zi5 N c):=by
 unfold Zi5;refine(Wd3 2 hc).bind λc b hc _=>(Wwr hN hc).bind λc p hc hp=>(Wax 10 hc).bind λc v hc hv=>.bif (λ_=>?_) λ_=>.bif (λ_=>.bif (λh0=>?_) λ_=>.ok hc (Wvt hp)) λ_=>.bif (λ_=>?_) λ_=>.bif (λ_=>.ok hc ⟨by have:=hp.1;simp only;omega,by simp,by simp⟩) λ_=>.ok hc (Wvt hp)
 .exact(WwV hN hc (by have:=hp.1;simp only;omega)).bind λc w hc hw=>.ok hc ⟨by simp only;omega,by have:=hp.2.1;simp only;omega,λx hx=>by have:=hp.2.2 x hx;omega⟩
 .have h0:Wj p.1.2>0:=Wu h0;refine(Wax (Wj p.1.2) hc).bind λc k hc hk=>?_;have hk:=hk.2 h0;unfold Wj at hk;have ll:inb k.1 p.1.2.length=true:=by unfold inb;simp;omega
  refine .bifT ll ((WwV hN hc ?_).bind λc w hc hw=>.bifT ll (.ok hc ⟨by have:=hp.1;simp only;omega,by have:=hp.2.1;simp only[Xab];omega,λx hx=>?_⟩))
  .rw[Wn (show k.1.toNat<p.1.2.length by omega)];have:=hp.2.2 _ (Xp (show k.1.toNat<p.1.2.length by omega));omega
  .rcases Xdb hx with hx|hx
   .have:=hp.2.2 x hx;omega
   .subst hx;show w.1.length<=1000;omega
 .refine .bifT (WE (by have:=hp.2.1;simp;omega)) (.ok hc ⟨by have:=hp.1;simp only;omega,by have:=hp.2.1;simp[Xal];omega,λx hx=>?_⟩);simp[Xal]at hx;rcases hx with hx|hx
  .have:=hp.2.2 x hx;omega
  .subst hx;simp
theorem WoQ{n4 aC:Int}(hm:aC<=600):∀(n i:Nat) (who:Int) (c:Cur) (l:List Ac),1000-i<n->i<=700->WaU c->l.length=i->
  Drw (λv:List Ac×Unit=>v.1.length<=700) (Zv N n4 aC (λnC yH t45 cH mI=>(some ((cH,()),(mI,())))) n who (i:Int) c l)
 |0,i,who,c,l,h,_,_,_=>by omega
 |n+1,i,who,c,l,h,hi,hc,hl=>by
  unfold Zv;refine .bif (λh0=>?_) λh0=>.ok hc (by simp only;omega);have h0:(i:Int)<aC:=Wu h0;have e:Wm .i64 (i:Int) 1=((i+1:Nat):Int):=Wt (by omega);simp only[e];have hr:∀(a:Ac),WN (l.length+ [a].length)=true:=λa=>WE (by simp;omega);have bi:∀(who:Int) (c:Cur) (a:Ac),WaU c->Drw (λv:List Ac×Unit=>v.1.length<=700) (Zv N n4 aC (λnC yH t45 cH mI=>(some ((cH,()),(mI,())))) n who ((i+1:Nat):Int) c (List.append l [a])):=λwho c a hc=>WoQ hm n (i+1) who c _ (by omega) (by omega) hc (by simp[Xal];omega);refine(Wd3 3 hc).bind λc b hc _=>.bif (λ_=>?_) λ_=>?_
  .refine(Wax n4 hc).bind λc k hc _=>(Wd3 2 hc).bind λc b hc _=>.bif (λ_=>?_) λ_=>?_
   .refine(Wax 3 hc).bind λc j hc _=>(Wd3 2 hc).bind λc b hc _=>.bif (λ_=>?_) λ_=>?_
    .exact(Wd3 40 hc).bind λc b hc _=>.bif (λ_=>.bifT (hr _) (bi _ _ _ hc)) λ_=>.bifT (hr _) (bi _ _ _ hc)
    .exact(Wd3 40 hc).bind λc b hc _=>.bif (λ_=>.bifT (hr _) (bi _ _ _ hc)) λ_=>.bifT (hr _) (bi _ _ _ hc)
   .exact(Wd3 40 hc).bind λc b hc _=>.bif (λ_=>.bifT (hr _) (bi _ _ _ hc)) λ_=>.bifT (hr _) (bi _ _ _ hc)
  .refine(Wd3 2 hc).bind λc b hc _=>.bif (λ_=>?_) λ_=>?_
   .refine(Wax 3 hc).bind λc j hc _=>(Wd3 2 hc).bind λc b hc _=>.bif (λ_=>?_) λ_=>?_
    .exact(Wd3 40 hc).bind λc b hc _=>.bif (λ_=>.bifT (hr _) (bi _ _ _ hc)) λ_=>.bifT (hr _) (bi _ _ _ hc)
    .exact(Wd3 40 hc).bind λc b hc _=>.bif (λ_=>.bifT (hr _) (bi _ _ _ hc)) λ_=>.bifT (hr _) (bi _ _ _ hc)
   .exact(Wd3 40 hc).bind λc b hc _=>.bif (λ_=>.bifT (hr _) (bi _ _ _ hc)) λ_=>.bifT (hr _) (bi _ _ _ hc)
theorem Wxn(hN:1048576<N){n4 aC:Int}(hm:aC<=600)(hc:WaU c):Drw (λv:List Ac×Unit=>v.1.length<=700) (Zfm N c n4 aC):=by
 unfold Zfm;exact WoQ hm N 0 0 c [] (by omega) (by omega) hc rfl
structure SD(s:Sc):Prop where
 cells:s.1.1.length=8
 map:s.1.2.1.length=8
 progs:1<=s.2.1.length/\s.2.1.length<=10
 each:∀p∈s.2.1,PB p
 acts:s.2.2.length<=700
theorem Wkh(hN:1048576<N){n8 cn bu:Int}{aW aU:List Int}(hm:0<=bu/\bu<=500)(nY:aW.length=8)(wJ:aU.length=8)(h8:1<=n8/\n8<=4):∀(n i:Nat) (c:Cur) (l:List Pg),10-i<n->i<=4->WaU c->l.length=i->(∀p∈l,PB p)->
  Drw (λv:Sc×Unit=>SD v.1) (Zbf N 0 bu n8 cn aW aU (λAa Ab v7 kg=>
  ((Zb N v7 (Wm .i64 bu (1:Int))).bind λkd=>
 ((Zfm N kd.1.1 n8 kd.2.1).bind λke=>
 (some ((ke.1.1,()),(((aW,(aU,cn)),(kg,ke.2.1)),())))))) n (i:Int) c l)
 |0,i,c,l,h,_,_,_,_=>by omega
 |n+1,i,c,l,h,hi,hc,hl,hx=>by
  unfold Zbf;refine .bif (λh0=>?_) λh0=>?_
  .have h0:(i:Int)<n8:=Wu h0;have e:Wm .i64 (i:Int) 1=((i+1:Nat):Int):=Wt (by omega);simp only[e,show((0:Int)==2)=false from rfl,show((0:Int)==0)=true from rfl,We,Wc];refine(Wd3 3 hc).bind λc b hc _=>(Wwr hN hc).bind λc p hc hp=>.bifT (WE (by simp;omega)) (Wkh hN hm nY wJ h8 n (i+1) c _ (by omega) (by omega) hc (by simp[Xal];omega) λq hq=>?_);simp[Xal]at hq;rcases hq with hq|hq
   .exact hx q hq
   .subst hq;exact Wvt hp
  .have h0:¬(i:Int)<n8:=of_decide_eq_false h0;have e:Wm .i64 bu 1=bu+1:=WL (by unfold I64;omega);simp only[e];refine(Wax (bu+1) hc).bind λc k hc hk=>?_;have hk:=hk.2 (by omega);refine(Wxn (aC:=k.1) hN (by omega) hc).bind λc a hc ha=>.ok hc ⟨nY,wJ,by simp only;omega,hx,ha⟩
theorem Wu5(hN:1048576<N){most:Int}(hm:0<=most/\most<=500)(hc:WaU c):Drw (λv:Sc×Unit=>SD v.1) (Zfn N c 0 most):=by
 unfold Zfn;refine(Wsg hN hc).bind λc t hc ht=>(Wax 4 hc).bind λc k hc hk=>?_;have hk:=hk.2 (by decide);have e:Wm .i64 1 k.1=1+k.1:=WL (by unfold I64;omega);simp only[e];exact Wkh hN hm ht.1 ht.2 (by omega) N 0 c [] (by omega) (by omega) hc rfl (by simp)
theorem SD.sb{s:Sc}(h:SD s):SB s:=⟨by have:=h.cells;omega,by have:=h.map;omega,by have:=h.progs;omega,h.each,by have:=h.acts;omega⟩
theorem WoU{b7:Cur}{b9:Int}{eI ao:List Int}{aW:List Ac}(hb:WaU b7)(cP:eI.length=8)(fI:ao.length=8)(nY:aW.length<=700):∀(n:Nat) (l:List Pg),20-l.length<n->l.length<=11->(∀p∈l,PB p)->
  Drw (λv:Sc×Unit=>SB v.1) (Ze3 N b7 b9 eI ao aW (λiu dc=>(some ((b7,()),(((eI,(ao,b9)),(dc,aW)),())))) n l)
 |0,l,h,_,_=>by omega
 |n+1,l,h,hl,hx=>by
  unfold Ze3;refine .bif (λh0=>?_) λh0=>.ok hb ⟨by simp only;omega,by simp only;omega,by simp only;omega,hx,by simp only;omega⟩;have h0:Wj l<5:=Wu h0;unfold Wj at h0;refine .bifT (WE (by simp;omega)) (WoU hb cP fI nY n _ (by simp[Xal];omega) (by simp[Xal];omega) λq hq=>?_);simp[Xal]at hq;rcases hq with hq|hq
  .exact hx q hq
  .subst hq;exact⟨by simp,by simp,by simp⟩
theorem WoM{dz:Int}{cG bY:List Int}{cK:List Pg}(AI:cG.length=8)(wQ:bY.length=8)(wZ:cK.length<=11)(hx:∀p∈cK,PB p):∀(n:Nat) (c:Cur) (l:List Ac),1000-l.length<n->WaU c->l.length<=800->
  Drw (λv:Sc×Unit=>SB v.1) (Ze4 N dz cG bY cK (λAd kh cW=>(some ((kh,()),(((cG,(bY,dz)),(cK,cW)),())))) n c l)
 |0,c,l,h,_,_=>by omega
 |n+1,c,l,h,hc,hl=>by
  unfold Ze4;refine(Wax 2 hc).bind λc v hc hv=>?_;have hv:=hv.2 (by decide);have e:Wm .i64 400 v.1=400+v.1:=WL (by unfold I64;omega);simp only[e];refine .bif (λh0=>?_) λh0=>.ok hc ⟨by simp only;omega,by simp only;omega,by simp only;omega,hx,by simp only;omega⟩;have h0:Wj l<400+v.1:=Wu h0;unfold Wj at h0;exact .bifT (WE (by simp;omega)) (WoM AI wQ wZ hx n c _ (by simp[Xal];omega) hc (by simp[Xal];omega))
theorem WwL(hN:1048576<N){most:Int}(hm:0<=most/\most<=500)(hc:WaU c):Drw (λv:Sc×Unit=>SB v.1) (Zhq N c most):=by
 unfold Zhq;refine(Wu5 hN hm hc).bind λc s hc hs=>(Wax 30 hc).bind λc v hc hv=>.bif (λ_=>?_) λ_=>.bif (λ_=>?_) λ_=>.bif (λ_=>?_) λ_=>.bif (λ_=>?_) λ_=>.bif (λ_=>?_) λ_=>.ok hc hs.sb
 .exact(Wqe hN hc).bind λc t hc ht=>.ok hc ⟨ht.1,ht.2,by have:=hs.progs;simp only;omega,hs.each,by have:=hs.acts;simp only;omega⟩
 .refine(Wud hN hc).bind λc p hc hp=>.bifT (by unfold inb;have:=hs.progs;simp;omega) (.ok hc ⟨by have:=hs.cells;simp only;omega,by have:=hs.map;simp only;omega,by have:=hs.progs;simp only[Xab];omega,λq hq=>?_,by have:=hs.acts;simp only;omega⟩);rcases Xdb hq with hq|hq
  .exact hs.each q hq
  .subst hq;exact hp
 .exact WoU hc hs.cells hs.map hs.acts N s.1.2.1 (by omega) (by have:=hs.progs;omega) hs.each
 .exact .bifT (WE (by have:=hs.acts;simp;omega)) (.ok hc ⟨by have:=hs.cells;simp only;omega,by have:=hs.map;simp only;omega,by have:=hs.progs;simp only;omega,hs.each,by have:=hs.acts;simp[Xal];omega⟩)
 .exact WoM hs.cells hs.map (cK:=s.1.2.1) (by have:=hs.progs;omega) hs.each N c s.1.2.2 (by omega) hc (by have:=hs.acts;omega)
theorem WtD{code:List Int}(h:code.length<=1048576):∃v,Zl2 N code 200=ret v/\0<=v/\v<=200:=by
 unfold Zl2;have e:Wq6 .i64 (Wj code) 20=((code.length/20:Nat):Int):=by
  unfold Wq6 Wj;rw[Int.tdiv_eq_ediv_of_nonneg (by omega),Wvf (by unfold I64;omega)];omega
 rw[e,WL (by unfold I64;omega),show inz (20:Int)=true from rfl];simp only[Wc,WaP];by_cases h:2+((code.length/20:Nat):Int)>200
 .rw[Wb h];exact⟨_,rfl,by omega,by omega⟩
 .rw[Wa h];exact⟨_,rfl,by omega,by omega⟩
theorem WmO(hN:1048576<N){code:List Int}(h:code.length<=1048576):∃s:Sc,Zkb N code=ret s/\SB s:=by
 unfold Zkb;obtain⟨c,hc,e0⟩:=WtX h hN;obtain⟨v,e1,hv⟩:=WtD (N:=N) h;have e2:Wm .i64 60 v=60+v:=WL (by unfold I64;omega);obtain⟨c1,s,e3,m7,hs⟩:=WwL (most:=60+v) hN (by omega) hc;simp only[e0,e1,ret,Xd,e2,e3];exact⟨_,rfl,hs⟩
end
end
section
def stl(x:Rt):Bool:=decide (x.phase=8)||((decide (x.phase=5)&&(decide (x.cm.phase=4)||decide (x.cm.phase=5)))||((decide (x.phase=6)||decide (x.phase=7))&&decide (x.fate≠0)))
def WgP(x:Rt):Int:=if stl x=true then(if x.phase=5 then x.cm.wv else x.stamp)else 0
theorem Wcl{x:Rt}:stl x=true↔x.phase=8\/(x.phase=5/\(x.cm.phase=4\/x.cm.phase=5))\/((x.phase=6\/x.phase=7)/\x.fate≠0):=by
 unfold stl;simp only[Bool.or_eq_true,Xi,Wh]
structure RX(x:Rt):Prop where
 doom:x.doomed=true->(1<=x.phase/\x.phase<=4)\/(x.phase=5/\x.cm.phase<=3)
 fate:x.phase=5->x.fate≠0
structure Stay(x y:Rt):Prop where
 tries:x.tries<=y.tries
 st:stl x=true->stl y=true/\WgP y=WgP x/\y.fate=x.fate/\y.regs=x.regs/\y.order=x.order
structure RG(w:Wo)(x:Rt)(q:Wo×Rt):Prop where
 doom:q.2.doomed=false
 fate:q.2.phase=5->q.2.fate≠0
 tries:q.2.tries=x.tries
 mem:q.1.mem=w.mem
 hist:q.1.hist=w.hist
section
variable{w:Wo}{x y z:Rt}{k:Nat}{p:Pg}{n:Int}{o:Opn}
theorem Stay.refl(x:Rt):Stay x x:=⟨Xo _,λh=>⟨h,rfl,rfl,rfl,rfl⟩⟩
theorem Stay.trans(h:Stay x y)(h':Stay y z):Stay x z:=
 ⟨Xet h.tries h'.tries,λhs=>by
  obtain⟨a,b,c,d,e⟩:=h.st hs;obtain⟨a',b',c',d',e'⟩:=h'.st a;exact⟨a',b'.trans b,c'.trans c,d'.trans d,e'.trans e⟩⟩
theorem Stay.un(h:stl x=false)(ht:x.tries<=y.tries):Stay x y:=⟨ht,λhs=>by rw[h]at hs;cases hs⟩
theorem RG.same(hd:x.doomed=false){z:Rt}(h1:z.doomed=false)(h2:z.phase≠5)(h3:z.tries=x.tries):RG w x (w,z):=⟨h1,λh=>Wg h h2,h3,rfl,rfl⟩
theorem WfL(hd:x.doomed=false):(WO x).doomed=false/\(WO x).phase≠5/\(WO x).tries=x.tries:=by
 unfold WO WcP;split
 .exact⟨rfl,by simp,rfl⟩
 .exact⟨hd,by simp,rfl⟩
theorem WoW(hd:x.doomed=false){out:Int}(ho:out≠0):RG w x (Waq w x k out):=by
 unfold Waq Wj9;simp only;generalize (if out=2 then []else x.writes)=rows;split
 .exact⟨rfl,by simp,rfl,rfl,rfl⟩
 .exact⟨hd,λ_=>ho,rfl,rfl,rfl⟩
theorem Wsj(hd:x.doomed=false)(h5:x.phase≠5):RG w x (Wd6 w x):=⟨hd,λh=>Wg h h5,rfl,rfl,rfl⟩
theorem Wr6(hd:x.doomed=false)(h5:x.phase≠5):(WcM w x o).doomed=false/\(WcM w x o).phase≠5/\(WcM w x o).tries=x.tries:=by
 unfold WcM;cases Wbg x.writes o.2.2.1 with
 |some v=>exact⟨hd,h5,rfl⟩
 |none=>
  simp only;generalize WW w.mem x.rv _=b;split
  .exact WfL (x:={x with busy:=true,pb:=b}) hd
  .split
   .exact⟨hd,h5,rfl⟩
   .exact⟨hd,h5,rfl⟩
theorem Wuh(hd:x.doomed=false)(h5:x.phase≠5){code:List Opn}:RG w x (WbT w x k code):=by
 unfold WbT;split
 .exact WoW hd (by omega)
 .split
  .exact Wsj hd h5
  .exact⟨hd,λh=>Wg h h5,rfl,rfl,rfl⟩
theorem Wuw(hd:x.doomed=false)(h5:x.phase≠5):RG w x (WbR w x k o):=by
 unfold WbR;cases Wa4 w.holds ((k:Int)+1) (WaK o).1 (WaK o).2 with
 |none=>
  obtain⟨a,b,c⟩:=WfL hd;exact⟨a,λh=>Wg h b,c,rfl,rfl⟩
 |some hs=>exact⟨hd,λh=>Wg h h5,rfl,rfl,rfl⟩
theorem WwO(hd:x.doomed=false)(h5:x.phase≠5):RG w x (Wdy w x k p):=by
 unfold Wdy;split
 .exact WoW hd (by omega)
 .simp only;generalize opN p.1 x.pc=o;split
  .obtain⟨a,b,c⟩:=Wr6 (w:=w) (o:=o) hd h5;exact⟨a,λh=>Wg h b,c,rfl,rfl⟩
  .split
   .exact Wuh hd h5
   .split
    .exact⟨hd,λh=>by(change (2:Int)=5 at h;omega),rfl,rfl,rfl⟩
    .split
     .exact Wuw hd h5
     .repeat' split
      all_goals exact⟨hd,λh=>Wg h h5,rfl,rfl,rfl⟩
theorem WvK(hd:x.doomed=false)(h5:x.phase≠5):RG w x (Wdf w x k):=by
 unfold Wdf
 repeat' split
 all_goals first|exact⟨hd,λh=>Wg h h5,rfl,rfl,rfl⟩|exact⟨rfl,λh=>by(change (1:Int)=5 at h;omega),rfl,rfl,rfl⟩
theorem Wth(hd:x.doomed=false)(h5:x.phase≠5):RG w x (w,WbG x):=by
 unfold WbG;split
 .exact⟨rfl,λh=>by(change (6:Int)=5 at h;omega),rfl,rfl,rfl⟩
 .split
  .exact⟨hd,λh=>by(change (1:Int)=5 at h;omega),rfl,rfl,rfl⟩
  .exact⟨hd,λh=>Wg h h5,rfl,rfl,rfl⟩
theorem WiP(hd:x.doomed=false)(h5:x.phase≠5):RG w x (Wa3 w x):=by
 unfold Wa3;split
 .exact Wsj hd h5
 .exact⟨hd,λh=>by(change (4:Int)=5 at h;omega),rfl,rfl,rfl⟩
theorem Wna(hd:x.doomed=false)(h5:x.phase≠5):RG w x (w,WaH w x):=by
 unfold WaH;split
 .simp only;split
  .exact⟨rfl,λh=>by(change (6:Int)=5 at h;omega),rfl,rfl,rfl⟩
  .exact⟨hd,λh=>Wg h h5,rfl,rfl,rfl⟩
 .exact⟨hd,λh=>by(change (1:Int)=5 at h;omega),rfl,rfl,rfl⟩
theorem Whi(m:Mm)(c:Cm):m.1<=(Wq m c).1.1:=by
 have hs:∀i w,(WnD m i w).1=m.1:=λ_ _=>rfl;unfold Wq Wb7 WaE Wiu tick;simp only
 repeat' split
 all_goals first|exact Xo _|(simp only[hs];omega)|(simp only;omega)
structure RS(w:Wo)(x:Rt)(q:Wo×Rt):Prop where
 rx:RX q.2
 stay:Stay x q.2
 clock:w.mem.1<=q.1.mem.1
 hist:∃l,q.1.hist=w.hist++l
theorem RG.rs{q:Wo×Rt}(h:RG w x q)(hs:stl x=false):RS w x q:=⟨⟨(λhd=>by rw[h.doom]at hd;cases hd),h.fate⟩,Stay.un hs (by rw[h.tries];omega),by rw[h.mem];omega,[],by rw[h.hist];simp⟩
theorem WpP(c:Cm):Waz c 6=6:=by unfold Waz;rw[Wa (by omega),Wa (by omega)]
theorem WpJ(c:Cm):Waz c 5=5:=by unfold Waz;rw[Wa (by omega),Wa (by omega)]
theorem WpL{c:Cm}{ph:Int}(h:ph=5\/ph=6):(Wp c ph).wv=c.wv/\((Wp c ph).phase=c.phase\/(Wp c ph).phase=ph):=by
 unfold Wp;split
 .refine⟨rfl,.inr ?_⟩;show Waz c ph=ph;rcases h with rfl|rfl
  .exact WpJ c
  .exact WpP c
 .exact⟨rfl,.inl rfl⟩
theorem WrG(hx:RX x)(h5:x.phase=5):RS w x (W8 w x k):=by
 unfold W8;split
 .rename_i hd;have h3:x.cm.phase<=3:=by rcases hx.doom hd with h|h<;>omega
  have lm:stl x=false:=by rw[Xci,Ne,Wcl];omega
  split
  .exact⟨⟨(λhd=>by cases hd),λh=>by(change (6:Int)=5 at h;omega)⟩,Stay.un lm (Xo _),Xo _,[],by simp⟩
  .exact⟨⟨(λhd=>by cases hd),hx.fate⟩,Stay.un lm (Xo _),Xo _,[],by simp⟩
 .rename_i hd;have cQ:x.doomed=false:=by simpa using hd
  have ln:=Whi w.mem x.cm;have hf:=hx.fate h5;simp only;refine⟨?_,?_,ln,?_⟩
  .unfold Wae WcP;simp only;split
   .exact⟨(λhd=>by cases hd),λh=>by(change (6:Int)=5 at h;omega)⟩
   .split
    .have aX:(if x.fate=2 then(6:Int)else 7)≠5:=by split<;>omega
     exact⟨(λhd=>by(change x.doomed=true at hd;rw[cQ]at hd;cases hd)),λh=>Wg h aX⟩
    .exact⟨(λhd=>by(change x.doomed=true at hd;rw[cQ]at hd;cases hd)),λ_=>hf⟩
  .have lT:(Wae {x with cm:=(Wq w.mem x.cm).2}).tries=x.tries:=by
    unfold Wae WcP;simp only;split
    .rfl
    .split<;>rfl
   refine⟨by rw[lT];omega,λhs=>?_⟩;have AJ:=Wcl.1 hs;have aH:WgP x=x.cm.wv:=by unfold WgP;rw[Wb hs,Wb h5]
   have key:(Wq w.mem x.cm).2.wv=x.cm.wv/\((Wq w.mem x.cm).2.phase=4\/(Wq w.mem x.cm).2.phase=5\/(Wq w.mem x.cm).2.phase=6):=by
    unfold Wq;simp only;have e45:=AJ;rcases(show x.cm.phase=4\/x.cm.phase=5 by omega)with h4|h4
    .rw[Wa (by omega),Wa (by omega),Wa (by omega),Wb h4];have:=WpL (c:=x.cm) (ph:=5) (.inl rfl);exact⟨this.1,by show(Wp x.cm 5).phase=4\/(Wp x.cm 5).phase=5\/(Wp x.cm 5).phase=6;omega⟩
    .rw[Wa (by omega),Wa (by omega),Wa (by omega),Wa (by omega),Wb h4];have:=WpL (c:=x.cm) (ph:=6) (.inr rfl);exact⟨this.1,by show(Wp x.cm 6).phase=4\/(Wp x.cm 6).phase=5\/(Wp x.cm 6).phase=6;omega⟩
   obtain⟨k1,k2⟩:=key;rw[aH];generalize (Wq w.mem x.cm).2=c at*;unfold Wae;simp only;rw[Wa (by omega)];by_cases h6:c.phase=6
   .rw[Wb h6];have aX:(if x.fate=2 then(6:Int)else 7)=6\/(if x.fate=2 then(6:Int)else 7)=7:=by split<;>simp
    generalize (if x.fate=2 then(6:Int)else 7)=ph at*;have ji:stl {x with stamp:=c.wv,cm:={},phase:=ph}=true:=Wcl.2 (.inr (.inr ⟨aX,hf⟩));refine⟨ji,?_,rfl,rfl,rfl⟩;unfold WgP;rw[Wb ji,Wa (by show¬ph=5;omega)];exact k1
   .rw[Wa h6];have ji:stl {x with cm:=c}=true:=Wcl.2 (.inr (.inl ⟨h5,by show c.phase=4\/c.phase=5;omega⟩));refine⟨ji,?_,rfl,rfl,rfl⟩;unfold WgP;rw[Wb ji,Wb h5];exact k1
  .split
   .exact⟨_,rfl⟩
   .exact⟨[],by simp⟩
theorem WvL(hx:RX x)(aX:0<=x.phase/\x.phase<=8):RS w x (WB w x k p):=by
 have lm:x.phase<=4->stl x=false:=λh=>by rw[Xci,Ne,Wcl];omega
 unfold WB;by_cases hd:x.doomed=true/\1<=x.phase/\x.phase<=4
 .rw[Wb hd];exact⟨⟨(λhd=>by cases hd),λh=>by(change (6:Int)=5 at h;omega)⟩,Stay.un (lm (by omega)) (Xo _),Xo _,[],by simp⟩
 rw[Wa hd];have cQ:x.phase≠5->x.doomed=false:=λh5=>by
  rw[Xci];intro h;rcases hx.doom h with h1|h1
  .exact hd ⟨h,h1⟩
  .exact h5 h1.1
 by_cases h0:x.phase=0
 .rw[Wb h0];exact(WvK (cQ (by omega)) (by omega)).rs (lm (by omega))
 rw[Wa h0];by_cases h1:x.phase=1
 .rw[Wb h1];exact(WwO (cQ (by omega)) (by omega)).rs (lm (by omega))
 rw[Wa h1];by_cases h2:x.phase=2
 .rw[Wb h2];exact(Wth (cQ (by omega)) (by omega)).rs (lm (by omega))
 rw[Wa h2];by_cases h3:x.phase=3
 .rw[Wb h3];exact(WiP (cQ (by omega)) (by omega)).rs (lm (by omega))
 rw[Wa h3];by_cases h4:x.phase=4
 .rw[Wb h4];exact(Wna (cQ (by omega)) (by omega)).rs (lm (by omega))
 rw[Wa h4];by_cases h5:x.phase=5
 .rw[Wb h5];exact WrG hx h5
 rw[Wa h5];have ig:=cQ h5;by_cases h6:x.phase=6
 .rw[Wb h6];have AK:∀ph,ph≠5->RX {x with phase:=ph}:=λph hp=>⟨(λhd=>by(change x.doomed=true at hd;rw[ig]at hd;cases hd)),λh=>Wg h hp⟩;by_cases hz:x.undos.length>0
  .rw[Wb hz];refine⟨⟨(λhd=>by(change x.doomed=true at hd;rw[ig]at hd;cases hd)),λh=>Wg h h5⟩,⟨Xo _,λhs=>?_⟩,Xo _,[],by simp[Wd6]⟩;have ji:stl (Wd6 w x).2=true:=by
    have:=Wcl.1 hs;rw[Wcl];show x.phase=8\/(x.phase=5/\_)\/((x.phase=6\/x.phase=7)/\x.fate≠0);omega
   refine⟨ji,?_,rfl,rfl,rfl⟩;unfold WgP;rw[Wb ji,Wb hs];rfl
  .rw[Wa hz];refine⟨AK 7 (by omega),⟨Xo _,λhs=>?_⟩,Xo _,[],by simp⟩;have ji:stl {x with phase:=7}=true:=by
    have:=Wcl.1 hs;exact Wcl.2 (.inr (.inr ⟨.inr rfl,by show x.fate≠0;omega⟩))
   refine⟨ji,?_,rfl,rfl,rfl⟩;unfold WgP;rw[Wb ji,Wb hs,Wa h5,Wa (by show¬(7:Int)=5;omega)]
 rw[Wa h6];by_cases h7:x.phase=7
 .rw[Wb h7];by_cases hf:x.fate=0
  .rw[Wb hf];have l0:stl x=false:=by rw[Xci,Ne,Wcl];omega
   exact⟨⟨(λhd=>by cases hd),λh=>by(change (0:Int)=5 at h;omega)⟩,Stay.un l0 (by show x.tries<=x.tries+1;omega),Xo _,[],by simp⟩
  .rw[Wa hf];refine⟨⟨(λhd=>by cases hd),λh=>by(change (8:Int)=5 at h;omega)⟩,⟨Xo _,λhs=>?_⟩,Xo _,[],by simp[Wj9]⟩;have ji:stl (Wj9 {w with holds:=W7 w.holds ((k:Int)+1)} x k).2=true:=Wcl.2 (.inl rfl);refine⟨ji,?_,rfl,rfl,rfl⟩;unfold WgP;rw[Wb ji,Wb hs,Wa h5];rfl
 .rw[Wa h7];exact⟨hx,Stay.refl x,Xo _,[],by simp⟩
end
def WX(w:Wo):Prop:=∀(i:Nat) (h:i<w.roots.length),RX w.roots[i]
structure WStay(w v:Wo):Prop where
 len:w.roots.length=v.roots.length
 root:∀(i:Nat) (h:i<w.roots.length) (h':i<v.roots.length),Stay w.roots[i] v.roots[i]
 hist:∃l,v.hist=w.hist++l
 clock:w.mem.1<=v.mem.1
section
variable{s:Sc}{w v u:Wo}{n:Int}{a:Ac}{k:Nat}
theorem WStay.refl(w:Wo):WStay w w:=⟨rfl,λi h h'=>Stay.refl _,⟨[],by simp⟩,Xo _⟩
theorem WStay.trans(h:WStay w v)(h':WStay v u):WStay w u:=by
 obtain⟨l,hl⟩:=h.hist;obtain⟨l',bS⟩:=h'.hist;exact⟨h.len.trans h'.len,λi a b=>(h.root i a (by rw[←h.len];exact a)).trans (h'.root i (by rw[←h.len];exact a) b),⟨l++l',by rw[bS,hl,List.append_assoc]⟩,Xet h.clock h'.clock⟩
theorem Wk4{q:Wo×Rt}{w0:Wo}(hx:WX w0)(hk:k<w0.roots.length)(hr:q.1.roots=w0.roots)(hq:RS w0 w0.roots[k] q):WX (Wo.put q k)/\WStay w0 (Wo.put q k):=by
 have hlen:(q.1.roots.set k q.2).length=w0.roots.length:=by rw[Xab,hr]
 refine⟨λi hi=>?_,hlen.symm,λi hi gI=>?_,hq.hist,hq.clock⟩
 .change i<(q.1.roots.set k q.2).length at hi;show RX (q.1.roots.set k q.2)[i];rw[Xao];by_cases he:k=i
  .rw[Wb he];exact hq.rx
  .rw[Wa he];simp only[hr];exact hx i (by rw[←hlen];exact hi)
 .have AL:i<(q.1.roots.set k q.2).length:=gI;show Stay _ ((q.1.roots.set k q.2)[i]'AL);rw[Xao];by_cases he:k=i
  .subst he;rw[Wb rfl];exact hq.stay
  .rw[Wa he];simp only[hr];exact Stay.refl _
theorem WhJ(h:WOk s.2.1 n w)(hk:k<w.roots.length):(WB {w with now:=w.now+1} w.roots[k] k (s.2.1.getD k pg0)).1.roots=w.roots:=
 (WhY (w:={w with now:=w.now+1}) (k:=k) (Wgv h.progs (by rw[←h.len];exact hk)) ⟨h.mem,h.shelf,h.holds⟩ (h.root k hk) (by have:=h.l4;have:=h.len;omega) h.n0).roots
theorem Wgs(h:WOk s.2.1 n w)(hx:WX w):WX (Wde s w a)/\WStay w (Wde s w a):=by
 have cy:WX {w with now:=w.now+1}:=hx;have mW:WStay w {w with now:=w.now+1}:=⟨rfl,λi h h'=>Stay.refl _,⟨[],by simp⟩,Xo _⟩;unfold Wde;simp only;split
 .rename_i hb;have hk:a.2.1.toNat<w.roots.length:=by omega
  rw[Wn hk];have rz:=hx _ hk;split
  .unfold Wid;rw[Wn (show a.2.1.toNat<({w with now:=w.now+1}:Wo).roots.length from hk)];obtain⟨c,d⟩:=Wk4 (w0:={w with now:=w.now+1}) cy hk (WhJ h hk) (WvL rz (h.root _ hk).phase);exact⟨c,mW.trans d⟩
  .split
   .split
    .rename_i hf;have aX:=hf.1;obtain⟨c,d⟩:=Wk4 (w0:={w with now:=w.now+1}) (q:=({w with now:=w.now+1},{w.roots[a.2.1.toNat]with fam:=Wbx w.mem w.roots[a.2.1.toNat].fam a.2.2.toNat ((s.2.1.getD a.2.1.toNat pg0).2.getD a.2.2.toNat [])})) cy hk rfl
      ⟨⟨rz.doom,rz.fate⟩,Stay.un (by rw[Xci,Ne,Wcl,aX];omega) (Xo _),Xo _,[],by simp⟩
     exact⟨c,mW.trans d⟩
    .exact⟨cy,mW⟩
   .split
    .split
     .rename_i hf;have l0:stl w.roots[a.2.1.toNat]=false:=by rw[Xci,Ne,Wcl];omega
      obtain⟨c,d⟩:=Wk4 (w0:={w with now:=w.now+1}) (q:=({w with now:=w.now+1},{w.roots[a.2.1.toNat]with doomed:=true})) cy hk rfl
       ⟨⟨λ_=>hf,rz.fate⟩,Stay.un l0 (Xo _),Xo _,[],by simp⟩
      exact⟨c,mW.trans d⟩
     .exact⟨cy,mW⟩
    .exact⟨cy,mW⟩
 .exact⟨cy,mW⟩
theorem Wnb:∀(l:List Ac) (n:Int) (w:Wo),WOk s.2.1 n w->WX w->WX (l.foldl (Wde s) w)/\WStay w (l.foldl (Wde s) w)
 | [],n,w,h,hx=>⟨hx,WStay.refl w⟩
 |a::l,n,w,h,hx=>by
  obtain⟨c,d⟩:=Wgs (a:=a) h hx;obtain⟨e,f⟩:=Wnb l (n+1) _ (WcH (a:=a) h) c;exact⟨e,d.trans f⟩
theorem WuP:WX (Wer s):=λi h=>by
 simp only[Wer,Xbe];exact⟨(λhd=>by cases hd),λh=>by(change (0:Int)=5 at h;omega)⟩
end
end
section
def lkA(c:Cm)(j:Nat):Prop:=(c.phase=1/\(j:Int)<c.pos)\/c.phase=2\/c.phase=3\/c.phase=4\/(c.phase=5/\c.pos<=j)\/(c.phase=7/\(j:Int)<=c.pos)
def lkd(c:Cm)(i:Int):Prop:=∃(j:Nat) (h:j<c.puts.length),c.puts[j].1=i/\lkA c j
def owner(m:Mm)(i:Int):Int:=(Ws m i).2.2
structure CmLk(m:Mm)(c:Cm):Prop where
 own:∀i,0<=i->i<=7->(owner m i=c.who↔lkd c i)
 ver:c.phase=3\/c.phase=4\/c.phase=5->c.wv<=m.1/\∀i,lkd c i->(Ws m i).2.1<=c.wv
section
variable{m:Mm}{c c':Cm}{i j:Int}{w:Wd}
theorem Wbs(hm:W0 m=true)(hi:0<=i/\i<=7)(hj:0<=j/\j<=7):Ws (WnD m i w) j=if j=i then w else Ws m j:=by
 have h8:=(Wz hm).1;unfold Ws WnD WjU Wbu;simp only;rw[Wn (show j.toNat<(m.2.set i.toNat w).length by rw[Xab];omega),Xao];by_cases h:j=i
 .subst h;rw[Wb rfl,Wb rfl]
 .rw[Wa (by omega),Wa h,Wn (show j.toNat<m.2.length by omega)]
theorem WdL(hp:c'.puts=c.puts)(h:∀j:Nat,j<c.puts.length->(lkA c' j↔lkA c j)):lkd c' i↔lkd c i:=by
 unfold lkd;rw[hp];exact⟨λ⟨j,hj,a,b⟩=>⟨j,hj,a,(h j hj).1 b⟩,λ⟨j,hj,a,b⟩=>⟨j,hj,a,(h j hj).2 b⟩⟩
theorem Wuj(h:CmOk c){a b:Nat}(ha:a<c.puts.length)(hb:b<c.puts.length)(e:c.puts[a].1=c.puts[b].1):a=b:=by
 have hp:=Xar.1 h.pup;rcases Xcz a b with h1|h1|h1
 .have:=hp a b ha hb h1;omega
 .exact h1
 .have:=hp b a hb ha h1;omega
theorem CmLk.same(h:CmLk m c)(hp:c'.puts=c.puts)(hw:c'.who=c.who)(hv:c'.wv=c.wv)(ha:∀j:Nat,j<c.puts.length->(lkA c' j↔lkA c j))(aX:c'.phase=3\/c'.phase=4\/c'.phase=5->c.phase=3\/c.phase=4\/c.phase=5):CmLk m c':=
 ⟨λi h0 h7=>by rw[hw,h.own i h0 h7,WdL hp ha],λh3=>by
  obtain⟨a,b⟩:=h.ver (aX h3);rw[hv];exact⟨a,λi hi=>b i ((WdL hp ha).1 hi)⟩⟩
theorem WlD(n:Int)(j:Nat)(hn:0<=n):lkA (W1 c n) j↔(j:Int)<n:=by
 by_cases h:n=0
 .have:W1 c n={c with phase:=8,pos:=0}:=by unfold W1;rw[Wb h]
  rw[this];unfold lkA;simp only;omega
 .have:W1 c n={c with phase:=7,pos:=n-1}:=by unfold W1;rw[Wa h]
  rw[this];unfold lkA;simp only;constructor
  .intro hz;omega
  .intro hz;right;right;right;right;right;exact⟨trivial,by omega⟩
theorem Way(c:Cm)(ph:Int):(Wp c ph).puts=c.puts/\(Wp c ph).who=c.who/\(Wp c ph).wv=c.wv:=by
 unfold Wp Wcx;split<;>exact⟨rfl,rfl,rfl⟩
theorem WbQ(c:Cm)(n:Int):(W1 c n).puts=c.puts/\(W1 c n).who=c.who/\(W1 c n).wv=c.wv:=by
 unfold W1;split<;>exact⟨rfl,rfl,rfl⟩
theorem Wdv(c:Cm)(n:Int):(W1 c n).phase=7\/(W1 c n).phase=8:=by unfold W1;split<;>simp
theorem WjI(m:Mm)(c:Cm):(Wq m c).2.who=c.who:=by
 unfold Wq;simp only;have h1:=λph=>(Way c ph).2.1;have h2:=λn=>(WbQ c n).2.1
 repeat' split
 all_goals first|exact h1 _|exact h2 _|rfl
theorem WsK(h:CmOk c)(hm:W0 m=true)(hc:CmLk m c):CmLk (Wq m c).1 (Wq m c).2:=by
 have ca:=h.pos;have aH:c.phase=1\/c.phase=4\/c.phase=5\/c.phase=7->c.steps=c.puts.length:=λhp=>by unfold Cm.steps;rw[Wb hp]
 have hw:=h.who;have fJ:∀n:Int,0<=n->(∀j:Nat,j<c.puts.length->((j:Int)<n↔lkA c j))->CmLk m (W1 c n):=λn h0 hn=>by
  obtain⟨p1,p2,p3⟩:=WbQ c n;refine hc.same p1 p2 p3 (λj hj=>by rw[WlD n j h0];exact hn j hj) λh3=>?_;rcases Wdv c n with h|h<;>omega
 unfold Wq;simp only;by_cases h1:c.phase=1
 .rw[Wb h1];obtain⟨j,hj,e1,e2,e3,e4⟩:=h.put (by omega);have hs:=aH (by omega);rw[e2];by_cases ho:(Ws m c.puts[j].1).2.2=0
  .rw[Wb ho];obtain⟨p1,p2,p3⟩:=Way c 2;have aX:∀l:Nat,l<c.puts.length->(lkA (Wp c 2) l↔lkA c l\/l=j):=λl hl=>by
    unfold Wp;by_cases ch:c.pos+1=c.steps
    .rw[Wb ch];have:(Wcx c 2).phase=2:=by show Waz c 2=2;unfold Waz;rw[Wa (by omega),Wa (by omega)]
     unfold lkA;rw[this];omega
    .rw[Wa ch];unfold lkA;simp only;omega
   refine⟨λi h0 h7=>?_,λh3=>?_⟩
   .rw[p2];have hcl:=hc.own i h0 h7;unfold owner Wiu at*;rw[Wbs hm e3 ⟨h0,h7⟩];by_cases hi:i=c.puts[j].1
    .rw[Wb hi];refine⟨λ_=>⟨j,by rw[p1];exact hj,by simp only[p1];exact hi.symm,(aX j hj).2 (.inr rfl)⟩,λ_=>rfl⟩
    .rw[Wa hi,hcl];refine⟨λ⟨l,hl,a,b⟩=>⟨l,by rw[p1];exact hl,by simp only[p1];exact a,(aX l hl).2 (.inl b)⟩,λ⟨l,hl,a,b⟩=>?_⟩;simp only[p1]at hl a;rcases(aX l hl).1 b with b|b
     .exact⟨l,hl,a,b⟩
     .subst b;exact Wg a.symm hi
   .exfalso;have uT:(Wp c 2).phase=1\/(Wp c 2).phase=2:=by
     unfold Wp;split
     .right;show Waz c 2=2;unfold Waz;rw[Wa (by omega),Wa (by omega)]
     .left;exact h1
    change (Wp c 2).phase=3\/(Wp c 2).phase=4\/(Wp c 2).phase=5 at h3;omega
  .rw[Wa ho];exact fJ _ (by omega) λl hl=>by unfold lkA;omega
 rw[Wa h1];by_cases h2:c.phase=2
 .rw[Wb h2];have ht:=Wky hm;by_cases hz:(tick m).2=0
  .rw[Wb hz,ht.2.2.2.2 hz];exact fJ _ (by omega) λl hl=>by unfold lkA;omega
  .rw[Wa hz];obtain⟨t1,t2⟩:=ht.2.2.2.1 hz;have an:∀i,Ws (tick m).1 i=Ws m i:=λi=>by rw[t2];rfl
   have aX:∀l:Nat,l<c.puts.length->(lkA (Wcx {c with wv:=(tick m).2} 3) l↔lkA c l):=λl hl=>by
    have eB:c.puts.length≠0:=by omega
    change l<c.puts.length at hl;have:(Wcx {c with wv:=(tick m).2} 3).phase=3\/(Wcx {c with wv:=(tick m).2} 3).phase=4:=by
     show Waz {c with wv:=(tick m).2} 3=3\/Waz {c with wv:=(tick m).2} 3=4;unfold Waz;rw[Wa (λhz=>eB hz.2)];split<;>simp
    unfold lkA;omega
   refine⟨λi h0 h7=>?_,λh3=>⟨by show(tick m).2<=(tick m).1.1;rw[t2];simp only;omega,λi hi=>?_⟩⟩
   .unfold owner;rw[an];exact(hc.own i h0 h7).trans (WdL (c':=Wcx {c with wv:=(tick m).2} 3) (c:=c) rfl aX).symm
   .rw[an];obtain⟨l,hl,a,b⟩:=hi;change l<c.puts.length at hl;change c.puts[l].1=i at a;have hr:=h.rows _ (Xp hl);have hcl:=WeD.1 (Wd2 hm hr.1);rw[←a];show(Ws m c.puts[l].1).2.1<=(tick m).2;omega
 rw[Wa h2];by_cases h3:c.phase=3
 .rw[Wb h3];split
  .exact fJ _ (by omega) λl hl=>by unfold lkA;omega
  .obtain⟨p1,p2,p3⟩:=Way c 4;refine hc.same p1 p2 p3 (λl hl=>?_) λ_=>.inl h3;unfold Wp;split
   .have:(Wcx c 4).phase=4:=by show Waz c 4=4;unfold Waz;rw[Wa (λhz=>by have:=hz.2;omega),Wa (by omega)]
    show lkA (Wcx c 4) l↔lkA c l;unfold lkA;omega
   .unfold lkA;simp only;omega
 rw[Wa h3];by_cases h4:c.phase=4
 .rw[Wb h4];obtain⟨j,hj,e1,e2,e3,e4⟩:=h.put (by omega);have hs:=aH (by omega);rw[e2];obtain⟨p1,p2,p3⟩:=Way c 5;have an:∀i,0<=i->i<=7->(Ws (Wb7 m c.puts[j].1 c.who c.puts[j].2) i).2=(Ws m i).2:=λi h0 h7=>by
   unfold Wb7;split
   .rw[Wbs hm e3 ⟨h0,h7⟩];split
    .rename_i hi;rw[hi]
    .rfl
   .rfl
  have aX:∀l:Nat,l<c.puts.length->(lkA (Wp c 5) l↔lkA c l):=λl hl=>by
   unfold Wp;split
   .have:(Wcx c 5).phase=5/\(Wcx c 5).pos=0:=⟨WpJ c,rfl⟩;unfold lkA;omega
   .unfold lkA;simp only;omega
  refine⟨λi h0 h7=>?_,λ_=>?_⟩
  .unfold owner;rw[an i h0 h7,p2,WdL p1 aX];exact hc.own i h0 h7
  .obtain⟨v1,v2⟩:=hc.ver (.inr (.inl h4));rw[p3];refine⟨by unfold Wb7;split<;>exact v1,λi hi=>?_⟩;have gI:=(WdL p1 aX).1 hi;obtain⟨l,hl,a,b⟩:=gI;have hr:=h.rows _ (Xp hl);rw[an i (by omega) (by omega)];exact v2 i ⟨l,hl,a,b⟩
 rw[Wa h4];have tH:∀(ver:Int) (j:Nat) (hj:j<c.puts.length),0<=c.puts[j].1/\c.puts[j].1<=7->lkA c j->(Ws m c.puts[j].1).2.1<=ver->ver<=m.1->WaE m c.puts[j].1 c.who ver=WnD m c.puts[j].1 ((Ws m c.puts[j].1).1,ver,0):=λver j hj tI hl uO gS=>by
  have ho:=(hc.own c.puts[j].1 tI.1 tI.2).2 ⟨j,hj,rfl,hl⟩;unfold owner at ho;unfold WaE;rw[Wb ⟨ho,uO,gS⟩]
 have jr:∀(ver:Int) (c':Cm) (j:Nat) (hj:j<c.puts.length),0<=c.puts[j].1/\c.puts[j].1<=7->c'.puts=c.puts->c'.who=c.who->c'.wv=c.wv->(∀l:Nat,l<c.puts.length->(lkA c' l↔lkA c l/\l≠j))->(c'.phase=3\/c'.phase=4\/c'.phase=5->c.phase=3\/c.phase=4\/c.phase=5)->CmLk (WnD m c.puts[j].1 ((Ws m c.puts[j].1).1,ver,0)) c':=λver c' j hj tI p1 p2 p3 aX w4=>by
  have gQ:∀i,lkd c' i↔lkd c i/\i≠c.puts[j].1:=λi=>by
   unfold lkd;rw[p1];refine⟨λ⟨l,hl,a,b⟩=>?_,λ⟨⟨l,hl,a,b⟩,hne⟩=>?_⟩
   .have:=(aX l hl).1 b;exact⟨⟨l,hl,a,this.1⟩,λhe=>this.2 (Wuj h hl hj (a.trans he))⟩
   .exact⟨l,hl,a,(aX l hl).2 ⟨b,λhe=>hne (by subst he;exact a.symm)⟩⟩
  refine⟨λi h0 h7=>?_,λh3=>?_⟩
  .unfold owner;rw[Wbs hm tI ⟨h0,h7⟩,p2,gQ];by_cases hi:i=c.puts[j].1
   .rw[Wb hi];exact⟨λhz=>by(change (0:Int)=c.who at hz;omega),λhz=>Wg hi hz.2⟩
   .rw[Wa hi];exact⟨λhz=>⟨(hc.own i h0 h7).1 hz,hi⟩,λhz=>(hc.own i h0 h7).2 hz.1⟩
  .obtain⟨v1,v2⟩:=hc.ver (w4 h3);rw[p3];refine⟨v1,λi hi=>?_⟩;have gI:=(gQ i).1 hi;obtain⟨⟨l,hl,a,b⟩,hne⟩:=gI;have hr:=h.rows _ (Xp hl);rw[Wbs hm tI (by rw[←a];exact hr.1),Wa hne];exact v2 i ⟨l,hl,a,b⟩
 by_cases h5:c.phase=5
 .rw[Wb h5];obtain⟨j,hj,e1,e2,e3,e4⟩:=h.put (by omega);have hs:=aH (by omega);rw[e2];obtain⟨v1,v2⟩:=hc.ver (.inr (.inr h5));have lU:lkA c j:=by unfold lkA;omega
  rw[tH c.wv j hj e3 lU (v2 _ ⟨j,hj,rfl,lU⟩) v1];obtain⟨p1,p2,p3⟩:=Way c 6;refine jr c.wv (Wp c 6) j hj e3 p1 p2 p3 (λl hl=>?_) λ_=>.inr (.inr h5);unfold Wp;split
  .have:(Wcx c 6).phase=6:=WpP c;unfold lkA;omega
  .unfold lkA;simp only;omega
 rw[Wa h5];by_cases h7:c.phase=7
 .rw[Wb h7];obtain⟨j,hj,e1,e2,e3,e4⟩:=h.put (by omega);have hs:=aH (by omega);rw[e2];have lU:lkA c j:=by unfold lkA;omega
  have hcl:=WeD.1 (Wd2 hm e3);rw[tH _ j hj e3 lU (Xo _) hcl.2.1.2];obtain⟨p1,p2,p3⟩:=WbQ c c.pos;refine jr _ (W1 c c.pos) j hj e3 p1 p2 p3 (λl hl=>?_) λh3=>?_
  .rw[WlD _ _ (by omega)];unfold lkA;omega
  .rcases Wdv c c.pos with h|h<;>omega
 .rw[Wa h7];exact hc
theorem WqS(h:CmOk c)(hc:CmLk m c):CmLk m (WA c):=by
 have ca:=h.pos;have fJ:∀n:Int,0<=n->(∀j:Nat,j<c.puts.length->((j:Int)<n↔lkA c j))->CmLk m (W1 c n):=λn h0 hn=>by
  obtain⟨p1,p2,p3⟩:=WbQ c n;refine hc.same p1 p2 p3 (λj hj=>by rw[WlD n j h0];exact hn j hj) λh3=>?_;rcases Wdv c n with h|h<;>omega
 unfold WA;split
 .exact fJ _ (by omega) λl hl=>by unfold lkA;omega
 .split
  .exact fJ _ (by omega) λl hl=>by unfold lkA;omega
  .exact hc
theorem Wot(c:Cm):(WA c).who=c.who:=by
 have h2:=λn=>(WbQ c n).2.1;unfold WA
 repeat' split
 all_goals first|exact h2 _|rfl
theorem Wkm(h:CmOk c)(hm:W0 m=true){who:Int}(h1:who≠c.who)(h0:who≠0)(hi:0<=i/\i<=7):(owner (Wq m c).1 i=who↔owner m i=who)/\(owner m i=who->Ws (Wq m c).1 i=Ws m i):=by
 have bj:(owner m i=who↔owner m i=who)/\(owner m i=who->Ws m i=Ws m i):=⟨Iff.rfl,λ_=>rfl⟩;have dR:∀(a:Int) (wd:Wd),0<=a/\a<=7->(Ws m a).2.2≠who->wd.2.2≠who->(owner (WnD m a wd) i=who↔owner m i=who)/\(owner m i=who->Ws (WnD m a wd) i=Ws m i):=λa wd ha hne hw=>by
  unfold owner;rw[Wbs hm ha hi];by_cases hia:i=a
  .subst hia;rw[Wb rfl];exact⟨⟨λhz=>Wg hz hw,λhz=>Wg hz hne⟩,λhz=>Wg hz hne⟩
  .rw[Wa hia];exact⟨Iff.rfl,λ_=>rfl⟩
 unfold Wq;simp only;by_cases p1:c.phase=1
 .rw[Wb p1];obtain⟨j,hj,e1,e2,e3,e4⟩:=h.put (by omega);rw[e2];by_cases ho:(Ws m c.puts[j].1).2.2=0
  .rw[Wb ho];exact dR _ _ e3 (by omega) (by show c.who≠who;omega)
  .rw[Wa ho];exact bj
 rw[Wa p1];by_cases p2:c.phase=2
 .rw[Wb p2];have ht:=Wky hm;by_cases hz:(tick m).2=0
  .rw[Wb hz];simp only;rw[ht.2.2.2.2 hz];exact bj
  .rw[Wa hz];simp only;rw[(ht.2.2.2.1 hz).2];exact bj
 rw[Wa p2];by_cases p3:c.phase=3
 .rw[Wb p3];split<;>exact bj
 rw[Wa p3];by_cases p4:c.phase=4
 .rw[Wb p4];obtain⟨j,hj,e1,e2,e3,e4⟩:=h.put (by omega);rw[e2];unfold Wb7;split
  .rename_i ho;exact dR _ _ e3 (by omega) (by show(Ws m c.puts[j].1).2.2≠who;omega)
  .exact bj
 rw[Wa p4];by_cases p5:c.phase=5
 .rw[Wb p5];obtain⟨j,hj,e1,e2,e3,e4⟩:=h.put (by omega);rw[e2];unfold WaE;split
  .rename_i ho;exact dR _ _ e3 (by omega) (by show(0:Int)≠who;omega)
  .exact bj
 rw[Wa p5];by_cases p7:c.phase=7
 .rw[Wb p7];obtain⟨j,hj,e1,e2,e3,e4⟩:=h.put (by omega);rw[e2];unfold WaE;split
  .rename_i ho;exact dR _ _ e3 (by omega) (by show(0:Int)≠who;omega)
  .exact bj
 .rw[Wa p7];exact bj
end
end
section
structure LB(w:Wo)(k:Nat)(x:Rt):Prop where
 cm:x.phase=5->x.cm.who=(k:Int)+1/\CmLk w.mem x.cm
 no:x.phase≠5->∀i,0<=i->i<=7->owner w.mem i≠(k:Int)+1
 hd:∀h∈w.holds,h.1=(k:Int)+1->x.phase≠0/\x.phase≠8
 tk:w.token=(k:Int)+1->x.tries>=3/\x.phase≠8
structure LQ(w:Wo)(k:Nat)(q:Wo×Rt):Prop where
 b:LB q.1 k q.2
 oth:∀who,who≠(k:Int)+1->who≠0->∀i,0<=i->i<=7->(owner q.1.mem i=who↔owner w.mem i=who)/\(owner w.mem i=who->Ws q.1.mem i=Ws w.mem i)
 clk:w.mem.1<=q.1.mem.1
 hdo:∀h∈q.1.holds,h.1≠(k:Int)+1->∃h'∈w.holds,h'.1=h.1
 tko:q.1.token≠0->q.1.token≠(k:Int)+1->q.1.token=w.token
section
variable{w:Wo}{x:Rt}{k:Nat}{p:Pg}{q:Wo×Rt}{o:Opn}{n:Int}
theorem LQ.of(hm:q.1.mem=w.mem)(hh:q.1.holds=w.holds)(ht:q.1.token=w.token)(hb:LB q.1 k q.2):LQ w k q:=
 ⟨hb,λwho h1 h0 i a b=>by rw[hm];exact⟨Iff.rfl,λ_=>rfl⟩,by rw[hm];omega,λh fg _=>⟨h,by rw[←hh];exact fg,rfl⟩,λ_ _=>ht⟩
theorem LQ.keep(hb:LB w k x)(hm:q.1.mem=w.mem)(hh:q.1.holds=w.holds)(ht:q.1.token=w.token)(h5:x.phase≠5)(hp:q.2.phase≠0/\q.2.phase≠5/\q.2.phase≠8)(lT:q.2.tries=x.tries):LQ w k q:=
 LQ.of hm hh ht ⟨λh=>Wg h hp.2.1,λ_=>by rw[hm];exact hb.no h5,λh fg hk=>⟨hp.1,hp.2.2⟩,λh=>by rw[ht]at h;rw[lT];exact⟨(hb.tk h).1,hp.2.2⟩⟩
theorem WcY:(WO x).phase≠0/\(WO x).phase≠5/\(WO x).phase≠8:=by
 unfold WO WcP;split<;>simp
theorem WkF(h1:x.phase=1):(WcM w x o).phase≠0/\(WcM w x o).phase≠5/\(WcM w x o).phase≠8:=by
 unfold WcM;cases Wbg x.writes o.2.2.1 with
 |some v=>simp only;omega
 |none=>
  simp only;generalize WW w.mem x.rv _=b;split
  .exact WcY
  .split<;>(simp only;omega)
theorem Wod{l:List Hd}{who:Int}(h:(Wf9 l who).length=0):∀e∈l,e.1≠who:=λe he hw=>by
 have:e.2.1∈Wf9 l who:=Xw.2 ⟨e,Xau.2 ⟨he,by simpa using hw⟩,rfl⟩;rw[List.eq_nil_of_length_eq_zero h]at this;cases this
theorem WuE(bQ:∀i,0<=i->i<=7->owner w.mem i≠(k:Int)+1)(hh:∀e∈w.holds,e.1≠(k:Int)+1):LQ w k (Wj9 w x k):=by
 unfold Wj9;refine⟨⟨λh=>by(change (8:Int)=5 at h;omega),λ_=>bQ,λh fg hk=>Wg hk (hh h fg),λh=>?_⟩,λwho h1 h0 i a b=>⟨Iff.rfl,λ_=>rfl⟩,Xo _,λh fg _=>⟨h,fg,rfl⟩,λh0 h1=>?_⟩
 .change (if w.token=(k:Int)+1 then 0 else w.token)=(k:Int)+1 at h;split at h<;>omega
 .change (if w.token=(k:Int)+1 then 0 else w.token)≠0 at h0;show(if w.token=(k:Int)+1 then 0 else w.token)=w.token;split
  .rename_i hc;rw[Wb hc]at h0;exact Wg rfl h0
  .rfl
theorem Wpu(hb:LB w k x)(h1:x.phase=1){out:Int}:LQ w k (Waq w x k out):=by
 have bQ:=hb.no (by omega);unfold Waq;simp only;generalize hr:(if out=2 then []else x.writes)=rows;split
 .rename_i hc;exact WuE bQ (Wod hc.2)
 .refine LQ.of rfl rfl rfl ⟨λ_=>⟨rfl,?_⟩,λh=>Wg rfl h,λh hh hk=>by(show(5:Int)≠0/\(5:Int)≠8;omega),λh=>⟨(hb.tk h).1,by show(5:Int)≠8;omega⟩⟩;have w5:∀i,¬lkd (Wan ((k:Int)+1) x.rv rows x.reads) i:=λi ⟨j,hj,a,b⟩=>by
   change j<(Wco rows).length at hj;have aX:(Wan ((k:Int)+1) x.rv rows x.reads).phase=1:=by show(if(Wco rows).length=0 then(2:Int)else 1)=1;rw[Wa (by omega)]
   have ca:(Wan ((k:Int)+1) x.rv rows x.reads).pos=0:=rfl;unfold lkA at b;omega
  refine⟨λi h0 h7=>⟨λh=>Wg h (bQ i h0 h7),λh=>Wg h (w5 i)⟩,λh3=>?_⟩;have aX:(Wan ((k:Int)+1) x.rv rows x.reads).phase=1\/(Wan ((k:Int)+1) x.rv rows x.reads).phase=2:=by
   show(if(Wco rows).length=0 then(2:Int)else 1)=1\/(if(Wco rows).length=0 then(2:Int)else 1)=2;split<;>simp
  exfalso;change (Wan ((k:Int)+1) x.rv rows x.reads).phase=3\/(Wan ((k:Int)+1) x.rv rows x.reads).phase=4\/(Wan ((k:Int)+1) x.rv rows x.reads).phase=5 at h3;omega
theorem Wuu(hb:LB w k x)(h1:x.phase=1){code:List Opn}:LQ w k (WbT w x k code):=by
 unfold WbT;split
 .exact Wpu hb h1
 .split
  .exact LQ.keep hb rfl rfl rfl (by omega) (by unfold Wd6;simp only;omega) rfl
  .exact LQ.keep hb rfl rfl rfl (by omega) (by simp only;omega) rfl
theorem WtT(hd:x.doomed=false)(hb:LB w k x)(h1:x.phase=1)(hH:HOk w.holds):LQ w k (WbR w x k o):=by
 unfold WbR;cases ha:Wa4 w.holds ((k:Int)+1) (WaK o).1 (WaK o).2 with
 |none=>exact LQ.keep hb rfl rfl rfl (by omega) WcY (WfL hd).2.2
 |some hs=>
  have hmem:∀e∈hs,e.1≠(k:Int)+1->e∈w.holds:=λe he hne=>by
   unfold Wa4 at ha;split at ha
   .injection ha with ha;subst ha;unfold WgW at he;rcases(WbC Wor hH.ris).1 he with rfl|he
    .exact Wg rfl hne
    .exact he.1
   .cases ha
  exact⟨⟨λh=>by(change x.phase=5 at h;omega),λ_=>hb.no (by omega),λh hh hk=>by(show x.phase≠0/\x.phase≠8;omega),λh=>⟨(hb.tk h).1,by show x.phase≠8;omega⟩⟩,
   λwho h1 h0 i a b=>⟨Iff.rfl,λ_=>rfl⟩,Xo _,λh hh hne=>⟨h,hmem h hh hne,rfl⟩,λ_ _=>rfl⟩
theorem Wwt(hd:x.doomed=false)(hb:LB w k x)(h1:x.phase=1)(hH:HOk w.holds):LQ w k (Wdy w x k p):=by
 unfold Wdy;split
 .exact Wpu hb h1
 .simp only;generalize opN p.1 x.pc=o;split
  .exact LQ.keep hb rfl rfl rfl (by omega) (WkF h1) (Wr6 hd (by omega)).2.2
  .split
   .exact Wuu hb h1
   .split
    .exact LQ.keep hb rfl rfl rfl (by omega) (by simp only;omega) rfl
    .split
     .exact WtT hd hb h1 hH
     .repeat' split
      all_goals exact LQ.keep hb rfl rfl rfl (by omega) (by simp only;omega) rfl
theorem WvZ(hb:LB w k x)(h0:x.phase=0):LQ w k (Wdf w x k):=by
 unfold Wdf;split
 .exact LQ.of rfl rfl rfl hb
 .split
  .rename_i hc;exact⟨⟨hb.cm,hb.no,hb.hd,λ_=>⟨hc.1,by show x.phase≠8;omega⟩⟩,λwho h1 h0 i a b=>⟨Iff.rfl,λ_=>rfl⟩,Xo _,λh hh _=>⟨h,hh,rfl⟩,λ_ hne=>Wg rfl hne⟩
  .split
   .exact LQ.of rfl rfl rfl hb
   .exact LQ.keep hb rfl rfl rfl (by omega) (by simp only;omega) rfl
theorem WsG(hb:LB w k x)(h5:x.phase=5)(hc:CmOk x.cm)(hm:W0 w.mem=true):LQ w k (W8 w x k):=by
 obtain⟨hw,hcl⟩:=hb.cm h5;have nN:∀c:Cm,c.phase=6\/c.phase=8->∀i,¬lkd c i:=λc aX i ⟨j,hj,a,b⟩=>by unfold lkA at b;omega
 unfold W8;split
 .have yM:=WqS hc hcl;have yN:=Wot x.cm;split
  .rename_i h8;refine LQ.of rfl rfl rfl ⟨λh=>by(change (6:Int)=5 at h;omega),λ_ i a b=>?_,λh hh hk=>by(show(6:Int)≠0/\(6:Int)≠8;omega),λh=>⟨(hb.tk h).1,by show(6:Int)≠8;omega⟩⟩;intro ho;exact nN _ (.inr h8) i ((yM.own i a b).1 (by rw[yN,hw];exact ho))
  .exact LQ.of rfl rfl rfl ⟨λ_=>⟨by show(WA x.cm).who=_;rw[yN,hw],yM⟩,λh=>Wg h5 h,hb.hd,hb.tk⟩
 .have hs:=WsK hc hm hcl;have uE:=WjI w.mem x.cm;have gu:=λwho (a:who≠(k:Int)+1) (b:who≠0) (i:Int) (c:0<=i) (d:i<=7)=>Wkm (i:=i) hc hm (who:=who) (by rw[hw];exact a) b ⟨c,d⟩;have ln:=Whi w.mem x.cm;simp only;refine⟨?_,gu,ln,λh hh _=>⟨h,hh,rfl⟩,λ_ _=>rfl⟩;have bQ:(Wq w.mem x.cm).2.phase=6\/(Wq w.mem x.cm).2.phase=8->∀i,0<=i->i<=7->owner (Wq w.mem x.cm).1 i≠(k:Int)+1:=λaX i a b ho=>nN _ aX i ((hs.own i a b).1 (by rw[uE,hw];exact ho));generalize (Wq w.mem x.cm).1=m' at*;generalize (Wq w.mem x.cm).2=c' at*;unfold Wae;simp only;by_cases h8:c'.phase=8
  .rw[Wb h8];exact⟨λh=>by(change (6:Int)=5 at h;omega),λ_=>bQ (.inr h8),λh hh hk=>by(show(6:Int)≠0/\(6:Int)≠8;omega),λh=>⟨(hb.tk h).1,by show(6:Int)≠8;omega⟩⟩
  .rw[Wa h8];by_cases h6:c'.phase=6
   .rw[Wb h6];have aX:(if x.fate=2 then(6:Int)else 7)=6\/(if x.fate=2 then(6:Int)else 7)=7:=by split<;>simp
    generalize (if x.fate=2 then(6:Int)else 7)=ph at*;exact⟨λh=>by(change ph=5 at h;omega),λ_=>bQ (.inl h6),λh hh hk=>by(show ph≠0/\ph≠8;omega),λh=>⟨(hb.tk h).1,by show ph≠8;omega⟩⟩
   .rw[Wa h6];exact⟨λ_=>⟨by show c'.who=_;rw[uE,hw],hs⟩,λh=>Wg h5 h,hb.hd,hb.tk⟩
theorem Wtk(hx:RX x)(ho:ROk p n x)(hg:GOk w)(hb:LB w k x):LQ w k (WB w x k p):=by
 have aX:=ho.phase;unfold WB;by_cases hd:x.doomed=true/\1<=x.phase/\x.phase<=4
 .rw[Wb hd];exact LQ.keep hb rfl rfl rfl (by omega) (by unfold WcP;simp) rfl
 rw[Wa hd];have cQ:x.phase≠5->x.doomed=false:=λh5=>by
  rw[Xci];intro h;rcases hx.doom h with h1|h1
  .exact hd ⟨h,h1⟩
  .exact h5 h1.1
 by_cases h0:x.phase=0
 .rw[Wb h0];exact WvZ hb h0
 rw[Wa h0];by_cases h1:x.phase=1
 .rw[Wb h1];exact Wwt (cQ (by omega)) hb h1 hg.holds
 rw[Wa h1];by_cases h2:x.phase=2
 .rw[Wb h2];refine LQ.keep hb rfl rfl rfl (by omega) ?_ (Wth (w:=w) (cQ (by omega)) (by omega)).tries;unfold WbG WcP
  repeat' split
  all_goals(simp only;omega)
 rw[Wa h2];by_cases h3:x.phase=3
 .rw[Wb h3];refine LQ.keep hb (WiP (cQ (by omega)) (by omega)).mem ?_ ?_ (by omega) ?_ (WiP (cQ (by omega)) (by omega)).tries
  all_goals(unfold Wa3 Wd6;split<;>first|rfl|(simp only;omega))
 rw[Wa h3];by_cases h4:x.phase=4
 .rw[Wb h4];refine LQ.keep hb rfl rfl rfl (by omega) ?_ (Wna (w:=w) (cQ (by omega)) (by omega)).tries;unfold WaH WcP;simp only
  repeat' split
  all_goals(simp only;omega)
 rw[Wa h4];by_cases h5:x.phase=5
 .rw[Wb h5];exact WsG hb h5 (ho.comm h5) hg.mem
 rw[Wa h5];by_cases h6:x.phase=6
 .rw[Wb h6];by_cases hz:x.undos.length>0
  .rw[Wb hz];exact LQ.keep hb rfl rfl rfl (by omega) (by unfold Wd6;simp only;omega) rfl
  .rw[Wa hz];exact LQ.keep hb rfl rfl rfl (by omega) (by simp only;omega) rfl
 rw[Wa h6];by_cases h7:x.phase=7
 .rw[Wb h7];have hfree:∀e∈W7 w.holds ((k:Int)+1),e.1≠(k:Int)+1/\e∈w.holds:=λe he=>by
   have:=Xau.1 he;exact⟨by simpa using this.2,this.1⟩
  have bQ:=hb.no (by omega);by_cases hf:x.fate=0
  .rw[Wb hf];refine⟨⟨λh=>by(change (0:Int)=5 at h;omega),λ_=>bQ,λh hh hk=>Wg hk (hfree h hh).1,λh=>⟨?_,by show(0:Int)≠8;omega⟩⟩,λwho h1 h0 i a b=>⟨Iff.rfl,λ_=>rfl⟩,Xo _,λh hh _=>⟨h,(hfree h hh).2,rfl⟩,λ_ _=>rfl⟩;have:=(hb.tk h).1;show x.tries+1>=3;omega
  .rw[Wa hf];have:=WuE (w:={w with holds:=W7 w.holds ((k:Int)+1)}) (x:=x) bQ (λe he=>(hfree e he).1);exact⟨this.b,this.oth,this.clk,λh hh hne=>by obtain⟨h',a,b⟩:=this.hdo h hh hne;exact⟨h',(hfree h' a).2,b⟩,this.tko⟩
 .rw[Wa h7];exact LQ.of rfl rfl rfl hb
end
structure LX(w:Wo):Prop where
 root:∀(k:Nat) (h:k<w.roots.length),LB w k w.roots[k]
 ow:∀i,0<=i->i<=7->owner w.mem i=0\/∃k:Nat,k<w.roots.length/\owner w.mem i=(k:Int)+1
 hd:∀h∈w.holds,∃k:Nat,k<w.roots.length/\h.1=(k:Int)+1
 tk:w.token=0\/∃k:Nat,k<w.roots.length/\w.token=(k:Int)+1
section
variable{s:Sc}{w v:Wo}{n:Int}{a:Ac}{k:Nat}{q:Wo×Rt}
theorem LB.other{j:Nat}{y:Rt}(h:LB w j y)(hq:LQ w k q)(hne:j≠k)(hc:y.phase=5->CmOk y.cm):LB q.1 j y:=by
 have hw:((j:Int)+1)≠(k:Int)+1:=by omega
 have ho:=hq.oth ((j:Int)+1) hw (by omega);refine⟨λh5=>?_,λh5 i a b hz=>h.no h5 i a b ((ho i a b).1.1 hz),λe he hk=>?_,λhz=>?_⟩
 .obtain⟨c1,c2⟩:=h.cm h5;refine⟨c1,λi a b=>?_,λh3=>?_⟩
  .rw[c1,(ho i a b).1,←c1];exact c2.own i a b
  .obtain⟨v1,v2⟩:=c2.ver h3;refine⟨Xet v1 hq.clk,λi hi=>?_⟩;obtain⟨l,hl,e1,e2⟩:=hi;have hr:=(hc h5).rows _ (Xp hl);have gI:lkd y.cm i:=⟨l,hl,e1,e2⟩;have hown:=(c2.own i (by omega) (by omega)).2 gI;rw[(ho i (by omega) (by omega)).2 (by rw[hown,c1])];exact v2 i gI
 .obtain⟨h',a,b⟩:=hq.hdo e he (by rw[hk];exact hw);exact h.hd h' a (b.trans hk)
 .exact h.tk ((hq.tko (by omega) (by omega)).symm.trans hz)
theorem WrY{w0:Wo}(hx:LX w0)(hk:k<w0.roots.length)(hr:q.1.roots=w0.roots)(hq:LQ w0 k q)(hc:∀(i:Nat) (h:i<w0.roots.length),w0.roots[i].phase=5->CmOk w0.roots[i].cm):LX (Wo.put q k):=by
 have hlen:(q.1.roots.set k q.2).length=w0.roots.length:=by rw[Xab,hr]
 have hmem:∀i,owner (Wo.put q k).mem i=owner q.1.mem i:=λ_=>rfl;refine⟨λi hi=>?_,λi a b=>?_,λe he=>?_,?_⟩
 .change i<(q.1.roots.set k q.2).length at hi;have dZ:i<w0.roots.length:=by rw[←hlen];exact hi
  have jj:∀y,LB q.1 i y->LB (Wo.put q k) i y:=λy hy=>⟨hy.cm,hy.no,hy.hd,hy.tk⟩;show LB (Wo.put q k) i ((q.1.roots.set k q.2)[i]'hi);rw[Xao];by_cases he:k=i
  .subst he;rw[Wb rfl];exact jj _ hq.b
  .rw[Wa he];simp only[hr];exact jj _ ((hx.root i dZ).other hq (λh=>he h.symm) (hc i dZ))
 .show owner q.1.mem i=0\/∃j:Nat,j<(q.1.roots.set k q.2).length/\owner q.1.mem i=(j:Int)+1;rw[hlen];by_cases h0:owner q.1.mem i=0
  .exact .inl h0
  .by_cases h1:owner q.1.mem i=(k:Int)+1
   .exact .inr ⟨k,hk,h1⟩
   .have:=(hq.oth _ h1 h0 i a b).1.1 rfl;rw[←this];exact hx.ow i a b
 .show∃j:Nat,j<(q.1.roots.set k q.2).length/\e.1=(j:Int)+1;rw[hlen];by_cases h1:e.1=(k:Int)+1
  .exact⟨k,hk,h1⟩
  .obtain⟨h',a,b⟩:=hq.hdo e he h1;rw[←b];exact hx.hd h' a
 .show q.1.token=0\/∃j:Nat,j<(q.1.roots.set k q.2).length/\q.1.token=(j:Int)+1;rw[hlen];by_cases h0:q.1.token=0
  .exact .inl h0
  .by_cases h1:q.1.token=(k:Int)+1
   .exact .inr ⟨k,hk,h1⟩
   .rw[hq.tko h0 h1];exact hx.tk
theorem WnX(h:WOk s.2.1 n w)(hx:WX w)(hl:LX w):LX (Wde s w a):=by
 have bc:LX {w with now:=w.now+1}:=⟨λk hk=>⟨(hl.root k hk).cm,(hl.root k hk).no,(hl.root k hk).hd,(hl.root k hk).tk⟩,hl.ow,hl.hd,hl.tk⟩;have hc:∀(i:Nat) (h:i<({w with now:=w.now+1}:Wo).roots.length),({w with now:=w.now+1}:Wo).roots[i].phase=5->CmOk ({w with now:=w.now+1}:Wo).roots[i].cm:=λi hi h5=>(h.root i hi).comm h5;unfold Wde;simp only;split
 .rename_i hb;have hk:a.2.1.toNat<w.roots.length:=by omega
  have jj:=bc.root _ hk;rw[Wn hk];split
  .unfold Wid;rw[Wn (show a.2.1.toNat<({w with now:=w.now+1}:Wo).roots.length from hk)];exact WrY bc hk (WhJ h hk) (Wtk (n:=n) (hx _ hk) (h.root _ hk) ⟨h.mem,h.shelf,h.holds⟩ jj) hc
  .split
   .split
    .exact WrY (w0:={w with now:=w.now+1}) bc hk rfl (LQ.of rfl rfl rfl ⟨jj.cm,jj.no,jj.hd,jj.tk⟩) hc
    .exact bc
   .split
    .split
     .exact WrY (w0:={w with now:=w.now+1}) bc hk rfl (LQ.of rfl rfl rfl ⟨jj.cm,jj.no,jj.hd,jj.tk⟩) hc
     .exact bc
    .exact bc
 .exact bc
theorem Wrf:∀(l:List Ac) (n:Int) (w:Wo),WOk s.2.1 n w->WX w->LX w->LX (l.foldl (Wde s) w)
 | [],n,w,h,hx,hl=>hl
 |a::l,n,w,h,hx,hl=>Wrf l (n+1) _ (WcH (a:=a) h) (Wgs (a:=a) h hx).1 (WnX h hx hl)
theorem WsF(aJ:WlL s=true):LX (Wer s):=by
 obtain⟨h1,h2,h3,h4⟩:=Wet aJ;have qD:∀i,0<=i->i<=7->owner (Wer s).mem i=0:=λi a b=>by
  unfold owner Ws Wbu Wer Wkk;simp only;have:=h1.cells.len;rw[Wn (show i.toNat<(s.1.1.map wd0).length by rw[Xae];omega),List.getElem_map];rfl
 refine⟨λk hk=>?_,λi a b=>.inl (qD i a b),(λh hh=>by cases hh),.inl rfl⟩;have hr:(Wer s).roots[k]={}:=by simp only[Wer,Xbe]
 rw[hr];exact⟨λh=>by(change (0:Int)=5 at h;omega),(λ_ i a b=>by rw[qD i a b];omega),(λh hh=>by cases hh),λh=>by(change (0:Int)=(k:Int)+1 at h;omega)⟩
end
end
section
def pick(l:List Rw)(i:Int):Option Int:=(l.find? λr=>decide (r.1=i)).map (·.2)
def WhN(i v:Int)(r:Int×Int)(h:Wr):Int×Int:=match pick h.2.2 i with
 |some x=>if h.1<=v/\r.1<h.1 then(h.1,x)else r
 |none=>r
def bst(b i v:Int)(H:List Wr):Int×Int:=H.foldl (WhN i v) (0,b)
def top(b i:Int)(H:List Wr):Int×Int:=bst b i 2000000 H
section
variable{b i v v':Int}{H:List Wr}{h:Wr}{l:List Rw}
theorem Wkq:bst b i v (H++ [h])=WhN i v (bst b i v H) h:=by unfold bst;rw[List.foldl_append];rfl
theorem Wkn(r:Int×Int):WhN i v r h=r\/(∃x,pick h.2.2 i=some x/\h.1<=v/\r.1<h.1/\WhN i v r h=(h.1,x)):=by
 unfold WhN;cases hp:pick h.2.2 i with
 |none=>exact .inl rfl
 |some x=>
  simp only;split
  .rename_i hc;exact .inr ⟨x,rfl,hc.1,hc.2,rfl⟩
  .exact .inl rfl
theorem WwH(hv:0<=v):0<=(bst b i v H).1/\(bst b i v H).1<=v/\((bst b i v H).1=0\/∃h∈H,h.1=(bst b i v H).1):=by
 have key:∀(l:List Wr) (r:Int×Int),0<=r.1->r.1<=v->0<=(l.foldl (WhN i v) r).1/\(l.foldl (WhN i v) r).1<=v/\((l.foldl (WhN i v) r).1=r.1\/∃h∈l,h.1=(l.foldl (WhN i v) r).1):=by
  intro l
  induction l with
  |nil=>intro r h0 h1;exact⟨h0,h1,.inl rfl⟩
  |cons h l ih=>
   intro r h0 h1;rw[Xbz];rcases Wkn (i:=i) (v:=v) (h:=h) r with e|⟨x,_,e1,e2,e3⟩
   .rw[e];obtain⟨a,c,d⟩:=ih r h0 h1;refine⟨a,c,d.imp_right λ⟨g,hg,e⟩=>⟨g,Xe _ hg,e⟩⟩
   .rw[e3];obtain⟨a,c,d⟩:=ih (h.1,x) (by show 0<=h.1;omega) e1;refine⟨a,c,.inr ?_⟩;rcases d with d|⟨g,hg,e⟩
    .exact⟨h,Xh ..,d.symm⟩
    .exact⟨g,Xe _ hg,e⟩
 exact key H (0,b) (Xo _) hv
theorem Wlp(hv:v<=v'):∀(H:List Wr),(bst b i v' H).1<=v->bst b i v H=bst b i v' H:=by
 have key:∀(l:List Wr) (r r':Int×Int),(r.1<=r'.1)->(r'.1<=v->r=r')->(l.foldl (WhN i v') r').1<=v->l.foldl (WhN i v) r=l.foldl (WhN i v') r':=by
  intro l
  induction l with
  |nil=>intro r r' _ h hle;exact h hle
  |cons h l ih=>
   intro r r' h1 h2 hle;rw[Xbz,Xbz];rw[Xbz]at hle;refine ih _ _ ?_ ?_ hle
   .unfold WhN;cases pick h.2.2 i with
    |none=>exact h1
    |some x=>
     simp only;split<;>split<;>(try simp only)<;>omega
   .unfold WhN;cases pick h.2.2 i with
    |none=>exact h2
    |some x=>
     simp only;intro hle;split at hle
     .rename_i hc;simp only at hle;rw[Wb hc,Wb ⟨hle,by omega⟩]
     .rename_i hc;rw[Wa hc,Wa (by have:=h2 hle;rw[this];intro hz;exact hc ⟨by omega,hz.2⟩)];exact h2 hle
 intro H hle;exact key H (0,b) (0,b) (Xo _) (λ_=>rfl) hle
theorem WhU{x:Int}(h:pick l i=some x):(i,x)∈l:=by
 unfold pick at h;cases hf:l.find? λr=>decide (r.1=i)with
 |none=>rw[hf]at h;cases h
 |some r=>
  rw[hf]at h;have h1:=List.find?_some hf;have h2:=List.mem_of_find?_eq_some hf;simp only[Wh]at h1;cases h;obtain⟨a,d⟩:=r;simp only at h1;subst h1;exact h2
structure CmR(c:Cm):Prop where
 rows:WfW c.puts
 pup:c.puts.Pairwise λa b=>a.1<b.1
theorem CmOk.r{c:Cm}(h:CmOk c):CmR c:=⟨h.rows,h.pup⟩
theorem CmR.inj{c:Cm}(h:CmR c){a b:Nat}(ha:a<c.puts.length)(hb:b<c.puts.length)(e:c.puts[a].1=c.puts[b].1):a=b:=by
 have hp:=Xar.1 h.pup;rcases Xcz a b with h1|h1|h1
 .have:=hp a b ha hb h1;omega
 .exact h1
 .have:=hp b a hb ha h1;omega
theorem WvX{c:Cm}(h:CmR c){j:Nat}(hj:j<c.puts.length):pick c.puts c.puts[j].1=some c.puts[j].2:=by
 cases hp:pick c.puts c.puts[j].1 with
 |none=>
  unfold pick at hp;rw[Option.map_eq_none_iff,List.find?_eq_none]at hp;exact Wg (by simp) (hp _ (Xp hj))
 |some x=>
  obtain⟨l,hl,e⟩:=Xam (WhU hp);have:=h.inj hl hj (by rw[e]);subst this;rw[e]
end
structure MI(b:Int->Int)(m:Mm)(H:List Wr)(C:Nat->Option Cm):Prop where
 st:∀h∈H,1<=h.1/\h.1<=m.1
 fr:∀k c,C k=some c->c.phase=3->1<=c.wv/\c.wv<=m.1/\∀h∈H,h.1≠c.wv
 fr2:∀k k' c c',k≠k'->C k=some c->C k'=some c'->c.phase=3->c'.phase=3->c.wv≠c'.wv
 cell:∀i,0<=i->i<=7->(∀k c,C k=some c->c.phase=4\/c.phase=5->¬lkd c i)->(Ws m i).1=(top (b i) i H).2/\(Ws m i).2.1=(top (b i) i H).1
 sto:∀k c,C k=some c->c.phase=4\/c.phase=5->∀(j:Nat) (hj:j<c.puts.length),lkA c j->top (b c.puts[j].1) c.puts[j].1 H=(c.wv,c.puts[j].2)/\(Ws m c.puts[j].1).2.1<c.wv/\(c.phase=5\/(j:Int)<c.pos->(Ws m c.puts[j].1).1=c.puts[j].2)
def CL2(m:Mm)(C:Nat->Option Cm):Prop:=∀k c,C k=some c->CmR c/\c.who=(k:Int)+1/\CmLk m c
structure RC(b:Int->Int)(m:Mm)(H:List Wr)(C:Nat->Option Cm)(v i x:Int):Prop where
 val:x=(bst (b i) i v H).2
 clk:v<=m.1
 no:∀k c,C k=some c->c.phase=3->c.wv<=v->pick c.puts i=none
def Wdw(C:Nat->Option Cm)(k:Nat)(o:Option Cm):Nat->Option Cm:=λj=>if j=k then o else C j
section
variable{b:Int->Int}{m m':Mm}{H:List Wr}{C:Nat->Option Cm}{k:Nat}{c c':Cm}{o:Option Cm}{v i x:Int}
theorem WaI:Wdw C k o k=o:=Wb rfl
theorem WZ{j:Nat}(h:j≠k):Wdw C k o j=C j:=Wa h
theorem MI.k1(h:MI b m H C)(hc:∀c,C k=some c->c.phase≠4/\c.phase≠5)(ho:∀c',o=some c'->c'.phase≠3/\c'.phase≠4/\c'.phase≠5)
  (h1:m'.1=m.1) (hm:∀i,0<=i->i<=7->(Ws m' i).1=(Ws m i).1/\(Ws m' i).2.1=(Ws m i).2.1) (hr:∀k c,C k=some c->CmR c):MI b m' H (Wdw C k o):=by
 have key:∀j d,Wdw C k o j=some d->d.phase=3\/d.phase=4\/d.phase=5->j≠k/\C j=some d:=λj d hj hp=>by
  by_cases e:j=k
  .subst e;rw[WaI]at hj;have:=ho d hj;omega
  .rw[WZ e]at hj;exact⟨e,hj⟩
 refine⟨λg hg=>by rw[h1];exact h.st g hg,λj d hj h3=>?_,λj j' d d' hne hj hj' h3 cU=>?_,λi h0 h7 bQ=>?_,λj d hj hp l hl ha=>?_⟩
 .rw[h1];exact h.fr j d (key j d hj (.inl h3)).2 h3
 .exact h.fr2 j j' d d' hne (key j d hj (.inl h3)).2 (key j' d' hj' (.inl cU)).2 h3 cU
 .obtain⟨e1,e2⟩:=hm i h0 h7;rw[e1,e2];refine h.cell i h0 h7 λj d hj hp=>?_;by_cases e:j=k
  .subst e;have:=hc d hj;omega
  .exact bQ j d (by rw[WZ e];exact hj) hp
 .have hk:=(key j d hj (.inr hp)).2;have hrow:=(hr j d hk).rows _ (Xp hl);obtain⟨e1,e2⟩:=hm _ hrow.1.1 hrow.1.2;rw[e1,e2];exact h.sto j d hk hp l hl ha
theorem RC.k1(h:RC b m H C v i x)(ho:∀c',o=some c'->c'.phase≠3)(h1:m'.1=m.1):RC b m' H (Wdw C k o) v i x:=
 ⟨h.val,by rw[h1];exact h.clk,λj d hj h3 hw=>by
  by_cases e:j=k
  .subst e;rw[WaI]at hj;exact Wg h3 (ho d hj)
  .rw[WZ e]at hj;exact h.no j d hj h3 hw⟩
theorem MI.k2(h:MI b m H C)(hc:C k=some c)(h2:c.phase=2)(h3:c'.phase=3)(hw:c'.wv=m.1+1)(h0:0<=m.1):MI b (m.1+1,m.2) H (Wdw C k (some c')):=by
 have an:∀i,Ws (m.1+1,m.2) i=Ws m i:=λ_=>rfl;refine⟨λg hg=>by have:=h.st g hg;show 1<=g.1/\g.1<=m.1+1;omega,λj d hj cU=>?_,λj j' d d' hne hj hj' h3 cU=>?_,λi h0 h7 bQ=>?_,λj d hj hp l hl ha=>?_⟩
 .by_cases e:j=k
  .subst e;rw[WaI]at hj;cases hj;refine⟨by omega,by show c'.wv<=m.1+1;omega,λg hg=>by have:=h.st g hg;omega⟩
  .rw[WZ e]at hj;have:=h.fr j d hj cU;exact⟨this.1,by show d.wv<=m.1+1;omega,this.2.2⟩
 .have w1:∀j d,Wdw C k (some c') j=some d->d.phase=3->j≠k->d.wv<=m.1:=λj d hj h3 e=>by
   rw[WZ e]at hj;exact(h.fr j d hj h3).2.1
  by_cases e:j=k
  .have e':j'≠k:=λz=>hne (e.trans z.symm);have:=w1 j' d' hj' cU e';subst e;rw[WaI]at hj;cases hj;omega
  .by_cases e':j'=k
   .have:=w1 j d hj h3 e;subst e';rw[WaI]at hj';cases hj';omega
   .rw[WZ e]at hj;rw[WZ e']at hj';exact h.fr2 j j' d d' hne hj hj' h3 cU
 .rw[an];refine h.cell i h0 h7 λj d hj hp=>?_;by_cases e:j=k
  .subst e;rw[hc]at hj;cases hj;omega
  .exact bQ j d (by rw[WZ e];exact hj) hp
 .by_cases e:j=k
  .subst e;rw[WaI]at hj;cases hj;omega
  .rw[WZ e]at hj;rw[an];exact h.sto j d hj hp l hl ha
theorem RC.k2(h:RC b m H C v i x)(hw:c'.wv=m.1+1):RC b (m.1+1,m.2) H (Wdw C k (some c')) v i x:=
 ⟨h.val,by have:=h.clk;show v<=m.1+1;omega,λj d hj h3 hv=>by
  by_cases e:j=k
  .subst e;rw[WaI]at hj;cases hj;have:=h.clk;omega
  .rw[WZ e]at hj;exact h.no j d hj h3 hv⟩
theorem MI.k3(h:MI b m H C)(hc:C k=some c)(h2:c.phase=3)(h3:c'.phase=3)(hw:c'.wv=c.wv):MI b m H (Wdw C k (some c')):=by
 refine⟨h.st,λj d hj cU=>?_,λj j' d d' hne hj hj' h3 cU=>?_,λi h0 h7 bQ=>?_,λj d hj hp l hl ha=>?_⟩
 .by_cases e:j=k
  .subst e;rw[WaI]at hj;cases hj;rw[hw];exact h.fr j c hc h2
  .rw[WZ e]at hj;exact h.fr j d hj cU
 .by_cases e:j=k
  .have e':j'≠k:=λz=>hne (e.trans z.symm);rw[WZ e']at hj';subst e;rw[WaI]at hj;cases hj;rw[hw];exact h.fr2 j j' c d' hne hc hj' h2 cU
  .rw[WZ e]at hj;by_cases e':j'=k
   .subst e';rw[WaI]at hj';cases hj';rw[hw];exact h.fr2 j j' d c hne hj hc h3 h2
   .rw[WZ e']at hj';exact h.fr2 j j' d d' hne hj hj' h3 cU
 .refine h.cell i h0 h7 λj d hj hp=>?_;by_cases e:j=k
  .subst e;rw[hc]at hj;cases hj;omega
  .exact bQ j d (by rw[WZ e];exact hj) hp
 .by_cases e:j=k
  .subst e;rw[WaI]at hj;cases hj;omega
  .rw[WZ e]at hj;exact h.sto j d hj hp l hl ha
theorem RC.k3(h:RC b m H C v i x)(hc:C k=some c)(h2:c.phase=3)(hw:c'.wv=c.wv)(hp:c'.puts=c.puts):RC b m H (Wdw C k (some c')) v i x:=
 ⟨h.val,h.clk,λj d hj h3 hv=>by
  by_cases e:j=k
  .subst e;rw[WaI]at hj;cases hj;rw[hp];exact h.no j c hc h2 (by omega)
  .rw[WZ e]at hj;exact h.no j d hj h3 hv⟩
theorem MI.k4(h:MI b m H C)(hl:CL2 m C)(hm:m.1<=1000000)(hc:C k=some c)(h2:c.phase=3)(h3:c'.phase=4)(gY:c'.pos=0)(hw:c'.wv=c.wv)(hp:c'.puts=c.puts){who:Int}:MI b m (H++ [(c.wv,who,c.puts)]) (Wdw C k (some c')):=by
 obtain⟨ok,fZ,gQ⟩:=hl k c hc;obtain⟨f1,f2,f3⟩:=h.fr k c hc h2;have iL:∀l:Nat,lkA c l:=λl=>by unfold lkA;omega
 have bQ:∀i,0<=i->i<=7->(∃(j:Nat) (hj:j<c.puts.length),c.puts[j].1=i)->∀j d,C j=some d->d.phase=4\/d.phase=5->¬lkd d i:=λi h0 h7 ⟨l,bS,e⟩ j d hj jF ga=>by
  obtain⟨yO,tJ,jG⟩:=hl j d hj;have o1:=(gQ.own i h0 h7).2 ⟨l,bS,e,iL l⟩;have o2:=(jG.own i h0 h7).2 ga;have:j=k:=by omega
  subst this;rw[hc]at hj;cases hj;omega
 have tK:∀i,pick c.puts i=none->top (b i) i (H++ [(c.wv,who,c.puts)])=top (b i) i H:=λi hn=>by
  unfold top;rw[Wkq];unfold WhN;simp only[hn]
 have tL:∀(l:Nat) (hl:l<c.puts.length),(Ws m c.puts[l].1).2.1<c.wv/\top (b c.puts[l].1) c.puts[l].1 (H++ [(c.wv,who,c.puts)])=(c.wv,c.puts[l].2):=λl bS=>by
  have hrow:=(ok.rows _ (Xp bS)).1;obtain⟨c1,c2⟩:=h.cell _ hrow.1 hrow.2 (bQ _ hrow.1 hrow.2 ⟨l,bS,rfl⟩);have hv:=(gQ.ver (.inl h2)).2 c.puts[l].1 ⟨l,bS,rfl,iL l⟩;have hb:=(WwH (b:=b c.puts[l].1) (i:=c.puts[l].1) (v:=2000000) (H:=H) (by omega)).2.2;have hlt:(top (b c.puts[l].1) c.puts[l].1 H).1<c.wv:=by
   unfold top at c2⊢;rcases hb with e|⟨g,hg,e⟩
   .omega
   .have:=f3 g hg;omega
  refine⟨by omega,?_⟩;unfold top at hlt⊢;rw[Wkq];unfold WhN;simp only[WvX ok bS];rw[Wb ⟨by omega,hlt⟩]
 have nO:∀i x,pick c.puts i=some x->∃(j:Nat) (hj:j<c.puts.length),c.puts[j].1=i:=λi x hx=>by
  obtain⟨l,hl,e⟩:=Xam (WhU hx);exact⟨l,hl,by rw[e]⟩
 refine⟨λg hg=>?_,λj d hj cU=>?_,λj j' d d' hne hj hj' h3 cU=>?_,λi h0 h7 hn=>?_,λj d hj jF l bS ha=>?_⟩
 .rcases Xm.1 hg with hg|hg
  .exact h.st g hg
  .rw[Xaf]at hg;subst hg;exact⟨f1,f2⟩
 .by_cases e:j=k
  .subst e;rw[WaI]at hj;cases hj;omega
  .rw[WZ e]at hj;obtain⟨g1,g2,g3⟩:=h.fr j d hj cU;refine⟨g1,g2,λg hg=>?_⟩;rcases Xm.1 hg with hg|hg
   .exact g3 g hg
   .rw[Xaf]at hg;subst hg;exact h.fr2 k j c d (λz=>e z.symm) hc hj h2 cU
 .by_cases e:j=k
  .subst e;rw[WaI]at hj;cases hj;omega
  .rw[WZ e]at hj;by_cases e':j'=k
   .subst e';rw[WaI]at hj';cases hj';omega
   .rw[WZ e']at hj';exact h.fr2 j j' d d' hne hj hj' h3 cU
 .have rr:pick c.puts i=none:=by
   cases hx:pick c.puts i with
   |none=>rfl
   |some x=>
    obtain⟨l,bS,e⟩:=nO i x hx;refine Wg ⟨l,by rw[hp];exact bS,by simp only[hp];exact e,?_⟩ (hn k c' WaI (.inl h3));unfold lkA;omega
  rw[tK i rr];refine h.cell i h0 h7 λj d hj jF=>?_;by_cases e:j=k
  .subst e;rw[hc]at hj;cases hj;omega
  .exact hn j d (by rw[WZ e];exact hj) jF
 .by_cases e:j=k
  .subst e;rw[WaI]at hj;cases hj;have gw:l<c.puts.length:=by rw[←hp];exact bS
   obtain⟨t1,t2⟩:=tL l gw;simp only[hp,hw];exact⟨t2,t1,λhz=>by omega⟩
  .rw[WZ e]at hj;obtain⟨yO,tJ,jG⟩:=hl j d hj;have hrow:=(yO.rows _ (Xp bS)).1;have rr:pick c.puts d.puts[l].1=none:=by
    cases hx:pick c.puts d.puts[l].1 with
    |none=>rfl
    |some x=>
     obtain⟨l2,gw,e2⟩:=nO _ x hx;exact Wg ⟨l,bS,rfl,ha⟩ (bQ d.puts[l].1 hrow.1 hrow.2 ⟨l2,gw,e2⟩ j d hj jF)
   rw[tK _ rr];exact h.sto j d hj jF l bS ha
theorem RC.k4(h:RC b m H C v i x)(hc:C k=some c)(h2:c.phase=3)(h3:c'.phase=4){who:Int}:RC b m (H++ [(c.wv,who,c.puts)]) (Wdw C k (some c')) v i x:=by
 refine⟨?_,h.clk,λj d hj cU hv=>?_⟩
 .rw[Wkq,h.val];unfold WhN;by_cases hv:c.wv<=v
  .simp only[h.no k c hc h2 hv]
  .cases pick c.puts i with
   |none=>rfl
   |some y=>simp only;rw[Wa (λhz=>hv hz.1)]
 .by_cases e:j=k
  .subst e;rw[WaI]at hj;cases hj;omega
  .rw[WZ e]at hj;exact h.no j d hj cU hv
theorem MI.k5(h:MI b m H C)(hl:CL2 m C)(hm:W0 m=true)(hc:C k=some c)(h4:c.phase=4){j:Nat}(hj:j<c.puts.length)(hpos:c.pos=j)(hp:c'.puts=c.puts)(hw:c'.wv=c.wv)(aX:c'.phase=4/\c'.pos=j+1\/c'.phase=5/\c'.pos=0/\j+1=c.puts.length):
  MI b (Wb7 m c.puts[j].1 c.who c.puts[j].2) H (Wdw C k (some c')):=by
 obtain⟨ok,fZ,gQ⟩:=hl k c hc;have iL:∀l:Nat,lkA c l:=λl=>by unfold lkA;omega
 have nP:∀l:Nat,lkA c' l:=λl=>by unfold lkA;omega
 have hrow:=(ok.rows _ (Xp hj)).1;have hown:=(gQ.own _ hrow.1 hrow.2).2 ⟨j,hj,rfl,iL j⟩;have aH:Wb7 m c.puts[j].1 c.who c.puts[j].2=WnD m c.puts[j].1 (c.puts[j].2,(Ws m c.puts[j].1).2):=by
  unfold Wb7;rw[Wb (show(Ws m c.puts[j].1).2.2=c.who from hown)]
 rw[aH];have an:∀i,0<=i->i<=7->Ws (WnD m c.puts[j].1 (c.puts[j].2,(Ws m c.puts[j].1).2)) i=if i=c.puts[j].1 then(c.puts[j].2,(Ws m c.puts[j].1).2)else Ws m i:=λi h0 h7=>Wbs hm hrow ⟨h0,h7⟩;have qE:∀l d,l≠k->C l=some d->∀(a:Nat) (ha:a<d.puts.length),lkA d a->d.puts[a].1≠c.puts[j].1:=λl d hne hd a ha lV he=>by
  obtain⟨AM,tM,jG⟩:=hl l d hd;have:=(jG.own _ hrow.1 hrow.2).2 ⟨a,ha,he,lV⟩;omega
 refine⟨h.st,λl d hd cU=>?_,λl l' d d' hne hd cQ h3 cU=>?_,λi h0 h7 hn=>?_,λl d hd jF a ha lV=>?_⟩
 .by_cases e:l=k
  .subst e;rw[WaI]at hd;cases hd;omega
  .rw[WZ e]at hd;exact h.fr l d hd cU
 .by_cases e:l=k
  .subst e;rw[WaI]at hd;cases hd;omega
  .rw[WZ e]at hd;by_cases e':l'=k
   .subst e';rw[WaI]at cQ;cases cQ;omega
   .rw[WZ e']at cQ;exact h.fr2 l l' d d' hne hd cQ h3 cU
 .have vu:i≠c.puts[j].1:=λhe=>hn k c' WaI (by omega) ⟨j,by rw[hp];exact hj,by simp only[hp];exact he.symm,nP j⟩;rw[an i h0 h7,Wa vu];refine h.cell i h0 h7 λl d hd jF ga=>?_;by_cases e:l=k
  .subst e;rw[hc]at hd;cases hd;obtain⟨a,ha,e1,e2⟩:=ga;exact hn l c' WaI (by omega) ⟨a,by rw[hp];exact ha,by simp only[hp];exact e1,nP a⟩
  .exact hn l d (by rw[WZ e];exact hd) jF ga
 .by_cases e:l=k
  .subst e;rw[WaI]at hd;cases hd;have lH:a<c.puts.length:=by rw[←hp];exact ha
   obtain⟨s1,s2,s3⟩:=h.sto l c hc (.inl h4) a lH (iL a);have jH:=(ok.rows _ (Xp lH)).1;simp only[hp,hw];rw[an _ jH.1 jH.2];by_cases haj:c.puts[a].1=c.puts[j].1
   .have:a=j:=ok.inj lH hj haj;subst this;rw[Wb rfl];exact⟨s1,s2,λ_=>rfl⟩
   .rw[Wa haj];have hne:a≠j:=λe=>haj (by subst e;rfl);exact⟨s1,s2,λhz=>s3 (.inr (by omega))⟩
  .rw[WZ e]at hd;have jH:=((hl l d hd).1.rows _ (Xp ha)).1;rw[an _ jH.1 jH.2,Wa (qE l d e hd a ha lV)];exact h.sto l d hd jF a ha lV
theorem MI.k6(h:MI b m H C)(hl:CL2 m C)(hm:W0 m=true)(hc:C k=some c)(h5:c.phase=5){j:Nat}(hj:j<c.puts.length)(hpos:c.pos=j)(ho:(∃c',o=some c'/\c'.puts=c.puts/\c'.wv=c.wv/\c'.phase=5/\c'.pos=j+1)\/(o=none/\j+1=c.puts.length)):
  MI b (WaE m c.puts[j].1 c.who c.wv) H (Wdw C k o):=by
 obtain⟨ok,fZ,gQ⟩:=hl k c hc;have hrow:=(ok.rows _ (Xp hj)).1;have lU:lkA c j:=by unfold lkA;omega
 have hown:=(gQ.own _ hrow.1 hrow.2).2 ⟨j,hj,rfl,lU⟩;obtain⟨v1,v2⟩:=gQ.ver (.inr (.inr h5));obtain⟨AN,sj2,AO⟩:=h.sto k c hc (.inr h5) j hj lU;have aH:WaE m c.puts[j].1 c.who c.wv=WnD m c.puts[j].1 ((Ws m c.puts[j].1).1,c.wv,0):=by
  unfold WaE;rw[Wb ⟨hown,v2 _ ⟨j,hj,rfl,lU⟩,v1⟩]
 rw[aH];have an:∀i,0<=i->i<=7->Ws (WnD m c.puts[j].1 ((Ws m c.puts[j].1).1,c.wv,0)) i=if i=c.puts[j].1 then((Ws m c.puts[j].1).1,c.wv,0)else Ws m i:=λi h0 h7=>Wbs hm hrow ⟨h0,h7⟩;have qE:∀l d,l≠k->C l=some d->∀(a:Nat) (ha:a<d.puts.length),lkA d a->d.puts[a].1≠c.puts[j].1:=λl d hne hd a ha lV he=>by
  obtain⟨AM,tM,jG⟩:=hl l d hd;have:=(jG.own _ hrow.1 hrow.2).2 ⟨a,ha,he,lV⟩;omega
 have qz:∀d,Wdw C k o k=some d->d.phase=5/\d.puts=c.puts/\d.wv=c.wv/\d.pos=j+1:=λd hd=>by
  rw[WaI]at hd;rcases ho with⟨c',e,e1,e2,e3,e4⟩|⟨e,_⟩
  .rw[e]at hd;cases hd;exact⟨e3,e1,e2,e4⟩
  .rw[e]at hd;cases hd
 refine⟨h.st,λl d hd cU=>?_,λl l' d d' hne hd cQ h3 cU=>?_,λi h0 h7 hn=>?_,λl d hd jF a ha lV=>?_⟩
 .by_cases e:l=k
  .subst e;have:=qz d hd;omega
  .rw[WZ e]at hd;exact h.fr l d hd cU
 .by_cases e:l=k
  .subst e;have:=qz d hd;omega
  .rw[WZ e]at hd;by_cases e':l'=k
   .subst e';have:=qz d' cQ;omega
   .rw[WZ e']at cQ;exact h.fr2 l l' d d' hne hd cQ h3 cU
 .rw[an i h0 h7];by_cases hi:i=c.puts[j].1
  .subst hi;rw[Wb rfl,AN];exact⟨AO (.inl h5),rfl⟩
  .rw[Wa hi];refine h.cell i h0 h7 λl d hd jF ga=>?_;by_cases e:l=k
   .subst e;rw[hc]at hd;cases hd;obtain⟨a,ha,e1,e2⟩:=ga;have hne:a≠j:=λe=>hi (by subst e;exact e1.symm);have fy:(c.pos<=a):=by unfold lkA at e2;omega
    rcases ho with⟨c',eo,q1,q2,q3,q4⟩|⟨eo,q1⟩
    .refine hn l c' (by rw[WaI];exact eo) (.inr q3) ⟨a,by rw[q1];exact ha,by simp only[q1];exact e1,?_⟩;unfold lkA;omega
    .omega
   .exact hn l d (by rw[WZ e];exact hd) jF ga
 .by_cases e:l=k
  .subst e;obtain⟨q3,q1,q2,q4⟩:=qz d hd;have lH:a<c.puts.length:=by rw[←q1];exact ha
   have tN:lkA c a/\a≠j:=by unfold lkA at lV⊢;omega
   obtain⟨s1,s2,s3⟩:=h.sto l c hc (.inr h5) a lH tN.1;have jH:=(ok.rows _ (Xp lH)).1;simp only[q1,q2];rw[an _ jH.1 jH.2,Wa (λhe=>tN.2 (ok.inj lH hj he))];exact⟨s1,s2,λ_=>s3 (.inl h5)⟩
  .rw[WZ e]at hd;have jH:=((hl l d hd).1.rows _ (Xp ha)).1;rw[an _ jH.1 jH.2,Wa (qE l d e hd a ha lV)];exact h.sto l d hd jF a ha lV
end
end
section
variable{b:Int->Int}{m m':Mm}{H:List Wr}{C:Nat->Option Cm}{k:Nat}{c c':Cm}{o o':Option Cm}{v i x:Int}
def cmO(c:Cm):Option Cm:=if c.phase=6\/c.phase=8 then none else some c
def Wbh(k:Nat)(c:Cm)(q:Cm)(H:List Wr):List Wr:=if c.phase<=3/\q.phase=4 then H++ [(q.wv,(k:Int)+1,q.puts)]else H
theorem Wnr:Wdw (Wdw C k o) k o'=Wdw C k o':=by
 funext j;unfold Wdw;split<;>rfl
theorem WkV(h:cmO c=some c'):c'=c/\c.phase≠6/\c.phase≠8:=by
 unfold cmO at h;split at h
 .cases h
 .cases h;exact⟨rfl,by omega,by omega⟩
def Keep(b:Int->Int)(m:Mm)(H:List Wr)(C:Nat->Option Cm)(m':Mm)(H':List Wr)(C':Nat->Option Cm):Prop:=MI b m' H' C'/\∀v i x,RC b m H C v i x->RC b m' H' C' v i x
theorem Keep.k1(h:MI b m H C)(hc:∀c,C k=some c->c.phase≠4/\c.phase≠5)(ho:∀c',o=some c'->c'.phase≠3/\c'.phase≠4/\c'.phase≠5)
  (h1:m'.1=m.1) (hm:∀i,0<=i->i<=7->(Ws m' i).1=(Ws m i).1/\(Ws m' i).2.1=(Ws m i).2.1) (hr:∀k c,C k=some c->CmR c):Keep b m H C m' H (Wdw C k o):=
 ⟨h.k1 hc ho h1 hm hr,λv i x hx=>hx.k1 (λc' e=>(ho c' e).1) h1⟩
theorem MI.step(h:MI b m H C)(hl:CL2 m C)(aJ:CmOk c)(hm:W0 m=true)(bR:m.1<1000000)(hc:C k=some c)(h68:c.phase≠6/\c.phase≠8):
  Keep b m H C (Wq m c).1 (Wbh k c (Wq m c).2 H) (Wdw C k (cmO (Wq m c).2)):=by
 have hr:∀k c,C k=some c->CmR c:=λk c e=>(hl k c e).1;have ln:∀d,C k=some d->d=c:=λd e=>by rw[hc]at e;cases e;rfl
 obtain⟨okr,fZ,gQ⟩:=hl k c hc;have aX:=aJ.phase;have aH:c.phase=1\/c.phase=4\/c.phase=5\/c.phase=7->c.steps=c.puts.length:=λhp=>by unfold Cm.steps;rw[Wb hp]
 have h0:=(Wz hm).2.1;have back:∀n:Int,c.phase≠4/\c.phase≠5->Keep b m H C m (Wbh k c (W1 c n) H) (Wdw C k (cmO (W1 c n))):=λn hp=>by
  have e:Wbh k c (W1 c n) H=H:=by unfold Wbh;rw[Wa (by rcases Wdv c n with e|e<;>omega)]
  rw[e];refine Keep.k1 h (λd hd=>by rw[ln d hd];exact hp) (λd hd=>?_) rfl (λ_ _ _=>⟨rfl,rfl⟩) hr;obtain⟨e,_⟩:=WkV hd;subst e;rcases Wdv c n with e|e<;>omega
 by_cases h1:c.phase=1
 .unfold Wq;simp only;rw[Wb h1];obtain⟨j,hj,e1,e2,e3,e4⟩:=aJ.put (by omega);rw[e2];split
  .have hp:(Wp c 2).phase=1\/(Wp c 2).phase=2:=by
    unfold Wp;split
    .right;show Waz c 2=2;unfold Waz;rw[Wa (by omega),Wa (by omega)]
    .left;exact h1
   have e:Wbh k c (Wp c 2) H=H:=by unfold Wbh;rw[Wa (λz=>by have:=z.2;omega)]
   show Keep b m H C _ (Wbh k c (Wp c 2) H) _;rw[e];refine Keep.k1 h (λd hd=>by rw[ln d hd];omega) (λd hd=>?_) rfl (λi a z=>?_) hr
   .obtain⟨e,_⟩:=WkV hd;rw[show d=Wp c 2 from e];omega
   .show(Ws (Wiu m c.puts[j].1 c.who) i).1=_/\_;unfold Wiu;rw[Wbs hm e3 ⟨a,z⟩];split
    .rename_i he;subst he;exact⟨rfl,rfl⟩
    .exact⟨rfl,rfl⟩
  .exact back _ (by omega)
 by_cases h2:c.phase=2
 .have et:tick m=((m.1+1,m.2),m.1+1):=by unfold tick;rw[Wb bR]
  unfold Wq;simp only;rw[Wa h1,Wb h2,et];simp only;rw[Wa (by omega)];generalize fb:({c with wv:=m.1+1,phase:=3,pos:=0}:Cm)=c2;have p3:c2.phase=3:=by rw[←fb]
  have pw:c2.wv=m.1+1:=by rw[←fb]
  have pp:c2.puts=c.puts:=by rw[←fb]
  have pwho:c2.who=c.who:=by rw[←fb]
  have k2:MI b (m.1+1,m.2) H (Wdw C k (some c2)):=h.k2 hc h2 p3 pw h0;have w6:∀v i x,RC b m H C v i x->RC b (m.1+1,m.2) H (Wdw C k (some c2)) v i x:=λv i x hx=>hx.k2 pw;have gw:CL2 (m.1+1,m.2) (Wdw C k (some c2)):=λj d hd=>by
   by_cases e:j=k
   .subst e;rw[WaI]at hd;cases hd;have tO:∀i,lkd c2 i↔lkd c i:=λi=>WdL pp λj hj=>by unfold lkA;omega
    refine⟨⟨by rw[pp];exact okr.rows,by rw[pp];exact okr.pup⟩,by rw[pwho];exact fZ,λi a z=>?_,λ_=>⟨by rw[pw];exact Xo _,λi hi=>?_⟩⟩
    .rw[pwho,tO];exact gQ.own i a z
    .rw[pw];obtain⟨l,bS,a,_⟩:=(tO i).1 hi;have AP:=(okr.rows _ (Xp bS)).1;have hcl:=WeD.1 (Wd2 hm AP);rw[←a];show(Ws m c.puts[l].1).2.1<=m.1+1;omega
   .rw[WZ e]at hd;obtain⟨a,z,q⟩:=hl j d hd;exact⟨a,z,q.own,λhz=>⟨by have:=(q.ver hz).1;show d.wv<=m.1+1;omega,(q.ver hz).2⟩⟩
  have hq:∀a,Waz {c with wv:=m.1+1} 3=a->Wcx {c with wv:=m.1+1} 3={c with wv:=m.1+1,phase:=a,pos:=0}:=λa e=>by unfold Wcx;rw[e]
  by_cases kM:c.reads.length=0
  .by_cases gY:c.puts.length=0
   .rw[hq 6 (by unfold Waz;rw[Wb ⟨.inl ⟨rfl,kM⟩,gY⟩])];have e:Wbh k c {c with wv:=m.1+1,phase:=6,pos:=0} H=H:=by unfold Wbh;rw[Wa (λz=>by have:=z.2;simp only at this;omega)]
    have eo:cmO {c with wv:=m.1+1,phase:=6,pos:=0}=none:=by unfold cmO;rw[Wb (.inl rfl)]
    rw[e,eo,←Wnr (C:=C) (k:=k) (o:=some c2)];refine⟨k2.k1 (λd hd=>?_) (λd hd=>by cases hd) rfl (λ_ _ _=>⟨rfl,rfl⟩) (λj d hd=>(gw j d hd).1),λv i x hx=>(w6 v i x hx).k1 (λd hd=>by cases hd) rfl⟩;rw[WaI]at hd;cases hd;omega
   .rw[hq 4 (by unfold Waz;rw[Wa (λz=>gY z.2),Wb ⟨rfl,kM⟩])];have e:Wbh k c {c with wv:=m.1+1,phase:=4,pos:=0} H=H++ [(c2.wv,(k:Int)+1,c2.puts)]:=by unfold Wbh;rw[Wb ⟨by omega,rfl⟩,pw,pp]
    have eo:cmO {c with wv:=m.1+1,phase:=4,pos:=0}=some {c with wv:=m.1+1,phase:=4,pos:=0}:=by unfold cmO;rw[Wa (by simp)]
    rw[e,eo,←Wnr (C:=C) (k:=k) (o:=some c2)];exact⟨k2.k4 (c':={c with wv:=m.1+1,phase:=4,pos:=0}) gw (by show m.1+1<=1000000;omega) WaI p3 rfl rfl pw.symm pp.symm,λv i x hx=>(w6 v i x hx).k4 WaI p3 rfl⟩
  .have e3:Wcx {c with wv:=m.1+1} 3=c2:=by
    rw[hq 3 (by unfold Waz;rw[Wa (λz=>by rcases z.1 with y|y;exact kM y.2;omega),Wa (λz=>kM z.2)]),←fb]
   rw[e3];have e:Wbh k c c2 H=H:=by unfold Wbh;rw[Wa (λz=>by have:=z.2;omega)]
   have eo:cmO c2=some c2:=by unfold cmO;rw[Wa (by omega)]
   rw[e,eo];exact⟨k2,w6⟩
 by_cases h3:c.phase=3
 .unfold Wq;simp only;rw[Wa h1,Wa h2,Wb h3];split
  .exact back _ (by omega)
  .by_cases ch:c.pos+1=c.steps
   .have en:Wp c 4={c with phase:=Waz c 4,pos:=0}:=by unfold Wp;rw[Wb ch];rfl
    by_cases gY:c.puts.length=0
    .have ea:Waz c 4=6:=by unfold Waz;rw[Wb ⟨.inr rfl,gY⟩]
     rw[en,ea];have e:Wbh k c {c with phase:=6,pos:=0} H=H:=by unfold Wbh;rw[Wa (λz=>by have:=z.2;simp only at this;omega)]
     have eo:cmO {c with phase:=6,pos:=0}=none:=by unfold cmO;rw[Wb (.inl rfl)]
     show Keep b m H C m (Wbh k c {c with phase:=6,pos:=0} H) (Wdw C k (cmO {c with phase:=6,pos:=0}));rw[e,eo];exact Keep.k1 h (λd hd=>by rw[ln d hd];omega) (λd hd=>by cases hd) rfl (λ_ _ _=>⟨rfl,rfl⟩) hr
    .have ea:Waz c 4=4:=by unfold Waz;rw[Wa (λz=>gY z.2),Wa (by omega)]
     rw[en,ea];have e:Wbh k c {c with phase:=4,pos:=0} H=H++ [(c.wv,(k:Int)+1,c.puts)]:=by unfold Wbh;rw[Wb ⟨by omega,rfl⟩]
     have eo:cmO {c with phase:=4,pos:=0}=some {c with phase:=4,pos:=0}:=by unfold cmO;rw[Wa (by simp)]
     show Keep b m H C m (Wbh k c {c with phase:=4,pos:=0} H) (Wdw C k (cmO {c with phase:=4,pos:=0}));rw[e,eo];exact⟨h.k4 (c':={c with phase:=4,pos:=0}) hl (by omega) hc h3 rfl rfl rfl rfl,λv i x hx=>hx.k4 hc h3 rfl⟩
   .have en:Wp c 4={c with pos:=c.pos+1}:=by unfold Wp;rw[Wa ch]
    rw[en];have e:Wbh k c {c with pos:=c.pos+1} H=H:=by unfold Wbh;rw[Wa (λz=>by have:=z.2;simp only at this;omega)]
    have eo:cmO {c with pos:=c.pos+1}=some {c with pos:=c.pos+1}:=by unfold cmO;rw[Wa (by simp only;omega)]
    show Keep b m H C m (Wbh k c {c with pos:=c.pos+1} H) (Wdw C k (cmO {c with pos:=c.pos+1}));rw[e,eo];exact⟨h.k3 hc h3 h3 rfl,λv i x hx=>hx.k3 hc h3 rfl rfl⟩
 by_cases h4:c.phase=4
 .obtain⟨j,hj,e1,e2,e3,e4⟩:=aJ.put (by omega);have hs:=aH (by omega);unfold Wq;simp only;rw[Wa h1,Wa h2,Wa h3,Wb h4,e2];have e:Wbh k c (Wp c 5) H=H:=by unfold Wbh;rw[Wa (λz=>by have:=z.1;omega)]
  obtain⟨p1,p2,p3⟩:=Way c 5;have aX:(Wp c 5).phase=4/\(Wp c 5).pos=(j:Int)+1\/(Wp c 5).phase=5/\(Wp c 5).pos=0/\j+1=c.puts.length:=by
   unfold Wp;split
   .exact .inr ⟨WpJ c,rfl,by omega⟩
   .exact .inl ⟨h4,by show c.pos+1=_;omega⟩
  have eo:cmO (Wp c 5)=some (Wp c 5):=by unfold cmO;rw[Wa (by omega)]
  show Keep b m H C (Wb7 m c.puts[j].1 c.who c.puts[j].2) (Wbh k c (Wp c 5) H) (Wdw C k (cmO (Wp c 5)));rw[e,eo];refine⟨h.k5 hl hm hc h4 hj e1 p1 p3 aX,λv i x hx=>hx.k1 (λd hd=>by cases hd;omega) ?_⟩;unfold Wb7;split<;>rfl
 by_cases h5:c.phase=5
 .obtain⟨j,hj,e1,e2,e3,e4⟩:=aJ.put (by omega);have hs:=aH (by omega);unfold Wq;simp only;rw[Wa h1,Wa h2,Wa h3,Wa h4,Wb h5,e2];have e:Wbh k c (Wp c 6) H=H:=by unfold Wbh;rw[Wa (λz=>by have:=z.1;omega)]
  obtain⟨p1,p2,p3⟩:=Way c 6;have ho:(∃c',cmO (Wp c 6)=some c'/\c'.puts=c.puts/\c'.wv=c.wv/\c'.phase=5/\c'.pos=(j:Int)+1)\/(cmO (Wp c 6)=none/\j+1=c.puts.length):=by
   by_cases ch:c.pos+1=c.steps
   .right;have:(Wp c 6).phase=6:=by unfold Wp;rw[Wb ch];exact WpP c
    exact⟨by unfold cmO;rw[Wb (.inl this)],by omega⟩
   .left;have en:Wp c 6={c with pos:=c.pos+1}:=by unfold Wp;rw[Wa ch]
    refine⟨Wp c 6,by unfold cmO;rw[Wa (by rw[en];simp only;omega)],p1,p3,by rw[en];exact h5,by rw[en];show c.pos+1=_;omega⟩
  show Keep b m H C (WaE m c.puts[j].1 c.who c.wv) (Wbh k c (Wp c 6) H) (Wdw C k (cmO (Wp c 6)));rw[e];refine⟨h.k6 hl hm hc h5 hj e1 ho,λv i x hx=>hx.k1 (λd hd=>?_) ?_⟩
  .rcases ho with⟨c',q,_,_,q3,_⟩|⟨q,_⟩
   .rw[q]at hd;cases hd;omega
   .rw[q]at hd;cases hd
  .unfold WaE;split<;>rfl
 .have h7:c.phase=7:=by omega
  obtain⟨j,hj,e1,e2,e3,e4⟩:=aJ.put (by omega);unfold Wq;simp only;rw[Wa h1,Wa h2,Wa h3,Wa h4,Wa h5,Wb h7,e2];have e:Wbh k c (W1 c c.pos) H=H:=by unfold Wbh;rw[Wa (λz=>by have:=z.1;omega)]
  show Keep b m H C (WaE m c.puts[j].1 c.who (Ws m c.puts[j].1).2.1) (Wbh k c (W1 c c.pos) H) (Wdw C k (cmO (W1 c c.pos)));rw[e];refine Keep.k1 h (λd hd=>by rw[ln d hd];omega) (λd hd=>?_) (by unfold WaE;split<;>rfl) (λi a z=>?_) hr
  .obtain⟨e,_⟩:=WkV hd;subst e;rcases Wdv c c.pos with e|e<;>omega
  .unfold WaE;split
   .rw[Wbs hm e3 ⟨a,z⟩];split
    .rename_i he;subst he;exact⟨rfl,rfl⟩
    .exact⟨rfl,rfl⟩
   .exact⟨rfl,rfl⟩
end
section
def WbA(x:Kd):Int:=if x.phase=0 then 75-3*x.pc-(if x.busy=true then x.pb.2.1 else 0)else 0
def Wbt(x:Kd):Int:=if x.phase=3 then 0 else if x.phase=2 then 25-x.pos else 26
structure KT(f:Fm)(k:Nat)(x:Kd):Prop where
 pb:x.busy=true->x.pb.2.1=1\/x.pb.2.1=2
 own:f.owner=(k:Int)+1↔x.phase=2
 seen:x.since=f.clock->∀e∈x.seen,Wsf f.buf e.1=e.2.2
inductive KO (f:Fm) (k:Nat) (x:Kd):Fm×Kd->Prop
 |lost {q:Fm×Kd}:q.1.lost=true->KO f k x q
 |run {y:Kd}:x.phase=0->y.since=x.since->(y.phase=0\/y.phase=1)->WbA y<WbA x->(y.busy=true->y.pb.2.1=1\/y.pb.2.1=2)->
   (x.since=f.clock->∀e∈y.seen,Wsf f.buf e.1=e.2.2)->KO f k x (f,y)
 |again:x.phase=0->x.since<f.clock->KO f k x (f,f.again x)
 |fail:x.phase=2->x.since<f.clock->KO f k x ({f with owner:=0},f.again x)
 |ask:x.phase=1->f.owner=0->KO f k x ({f with owner:=(k:Int)+1},{x with phase:=2})
 |wait:x.phase=1->f.owner≠0->KO f k x (f,x)
 |look:x.phase=2->x.pos<x.seen.length->KO f k x (f,{x with pos:=x.pos+1})
 |merge:x.phase=2->KO f k x (WcL f x k)
 |done:x.phase=3->KO f k x (f,x)
variable{code:List Opn}{codes:List (List Opn)}{n:Int}{f:Fm}{x:Kd}{m:Mm}{k:Nat}{o:Opn}
theorem WoA{rv:Int}{p:Pb}(h:0<=p.2.1/\p.2.1<=2):(WW m rv p).2.1=4\/(WW m rv p).2.1=p.2.1+1:=by
 unfold WW
 grind
theorem WvU(hF:FOk codes n f)(h:KOk code f.clock n x)(h0:x.phase=0)(ht:KT f k x)(aL:x.pc+1<=24):KO f k x (WdM m f x o):=by
 have hl:WbA x=75-3*x.pc-(if x.busy=true then x.pb.2.1 else 0):=by unfold WbA;rw[Wb h0]
 have gX:0<=(if x.busy=true then x.pb.2.1 else 0)/\(if x.busy=true then x.pb.2.1 else 0)<=2:=by
  split
  .have:=ht.pb ‹_›;omega
  .omega
 have dt:∀y:Kd,y.phase=0->y.pc=x.pc+1->y.busy=x.busy->y.pb=x.pb->WbA y<WbA x:=λy a b c d=>by
  unfold WbA;grind
 unfold WdM;cases Wbg x.writes o.2.2.1 with
 |some v=>exact .run h0 rfl (.inl h0) (dt _ h0 rfl rfl rfl) ht.pb ht.seen
 |none=>
  simp only;cases he:ent f.buf o.2.2.1 with
  |some r=>
   simp only;have hr:=WcW he;have nj:r.2∈f.buf:=List.mem_of_getElem? hr.2.2.2;split
   .exact .again h0 (by have:=(hF.bufE _ nj).2.2;omega)
   .refine .run h0 rfl (.inl h0) (dt _ h0 rfl rfl rfl) ht.pb λhs e dV=>?_;rcases Xm.1 dV with dV|dV
    .exact ht.seen hs e dV
    simp_all [Xaf,eq_of_beq,Wsf]
  |none=>
   simp only;have hp:0<=(if x.busy=true then x.pb else(o.2.2.1,0,0,0)).2.1/\(if x.busy=true then x.pb else(o.2.2.1,0,0,0)).2.1<=2:=by
    grind
   have gh:(if x.busy=true then x.pb else(o.2.2.1,0,0,0)).2.1=(if x.busy=true then x.pb.2.1 else 0):=by split<;>rfl
   have hs:=WoA (m:=m) (rv:=f.rv) hp;rw[gh]at hs;generalize WW m f.rv (if x.busy=true then x.pb else(o.2.2.1,0,0,0))=p at*;split
   .exact .lost rfl
   .split
    .refine .run h0 rfl (.inl h0) ?_ (λh=>by cases h) λAQ e dV=>?_
     .rw[hl];show(if x.phase=0 then 75-3*(x.pc+1) -0 else 0)<_;omega
     .rcases Xm.1 dV with dV|dV
      .exact ht.seen AQ e dV
      grind [Xaf,Wsf]
    .refine .run h0 rfl (.inl h0) ?_ (λ_=>by grind) ht.seen;rw[hl];show(if x.phase=0 then 75-3*x.pc-p.2.1 else 0)<_;omega
theorem Wwb(bb:KC code)(hF:FOk codes n f)(h:KOk code f.clock n x)(h0:x.phase=0)(ht:KT f k x):KO f k x (WpB m f x code):=by
 have aG:=bb.toCC;have hlen:=aG.len;have hl:WbA x=75-3*x.pc-(if x.busy=true then x.pb.2.1 else 0):=by unfold WbA;rw[Wb h0]
 have gX:0<=(if x.busy=true then x.pb.2.1 else 0)/\(if x.busy=true then x.pb.2.1 else 0)<=2:=by
  split
  .have:=ht.pb ‹_›;omega
  .omega
 have AR:=h.pc;have tP:∀y:Kd,y.phase=1->WbA y<WbA x:=λy a=>by unfold WbA at*;omega
 have dt:∀y:Kd,y.phase=0->x.pc+1<=y.pc->y.busy=x.busy->y.pb=x.pb->WbA y<WbA x:=λy a b c d=>by
  unfold WbA;grind
 unfold WpB;split
 .exact .run h0 rfl (.inr rfl) (tP _ rfl) ht.pb ht.seen
 .obtain⟨i,hi,aL,ho⟩:=WfF (l:=code) h.pc.1 (by omega);simp only[ho];have hM:=h.marks h0;rw[aL,Xj]at hM;split
  .grind [WvU]
  .split
   .unfold Wib;split
    .exact .run h0 rfl (.inr rfl) (tP _ rfl) ht.pb ht.seen
    .obtain⟨j,q,y,e1,e2,e3,⟨hj,h8⟩,qq,cg,gh,e5,e6⟩:=WhF (d:=((0,0,[]):KM)) aG (show i<=code.length by omega) hM.pcs ‹_›;refine .run h0 rfl (.inl h0) (dt _ h0 ?_ rfl rfl) ht.pb ht.seen;simp_all
   .split
    .exact .run h0 rfl (.inl h0) (dt _ h0 (Xo _) rfl rfl) ht.pb ht.seen
    .split
     .have hk:=Wvm (bb.ok i hi).1 ‹_›;refine .run h0 rfl (.inl h0) (dt _ h0 ?_ rfl rfl) ht.pb ht.seen;show x.pc+1<=(if Wbu x.regs code[i].2.1 0=0 then x.pc+code[i].2.2.1 else x.pc)+1;split<;>omega
     .split
      .exact .run h0 rfl (.inl h0) (dt _ h0 (Xo _) rfl rfl) ht.pb ht.seen
      .split
       .exact .run h0 rfl (.inl h0) (dt _ h0 (Xo _) rfl rfl) ht.pb ht.seen
       .exact .run h0 rfl (.inl h0) (dt _ h0 (Xo _) rfl rfl) ht.pb ht.seen
theorem Wst(bb:KC code)(hF:FOk codes n f)(h:KOk code f.clock n x)(ht:KT f k x):KO f k x (Wdu m f x k code):=by
 have aX:=h.phase;unfold Wdu;split
 .grind [Wwb]
 .split
  .split
   .exact .ask ‹_› ‹_›
   .exact .wait ‹_› ‹_›
  .split
   .split
    .exact .merge ‹_›
    .have hp:=h.pos;have hlt:x.pos<x.seen.length:=by omega
     simp only;split
     .exact .look ‹_› hlt
     .rename_i hne;refine .fail ‹_› ?_;have hs:=h.since;by_cases he:x.since=f.clock
      .exfalso;apply hne;have hg:Wbu x.seen x.pos (0,0,0)=x.seen[x.pos.toNat]'(by omega):=Wn (by omega) _;rw[hg];exact ht.seen he _ (Xp _)
      .omega
   .exact .done (by omega)
end
section
def WaJ(x:Kd):Int:=if x.phase=3 then 0 else 1
def Wb2(c:Int)(x:Kd):Int:=if x.phase≠3/\x.since<c then 1 else 0
def W5(c:Int)(x:Kd):Int:=Wbt x+26*Wb2 c x
def Wdd(g:Kd->Int)(l:List Kd):Int:=(l.map g).sum
def tri(u:Int):Int:=if u<=1 then 0 else if u=2 then 1 else 3
def Wfq(f:Fm):Int:=Wdd WaJ f.kids
def fQ(f:Fm):Int:=Wdd (W5 f.clock) f.kids+26*tri (Wfq f)
def fP(f:Fm)(x:Kd):Int:=WbA x+75*(Wb2 f.clock x+(Wfq f-1))
theorem Wb5{g:Kd->Int}{y:Kd}:∀{l:List Kd} {k:Nat} (h:k<l.length),Wdd g (l.set k y)=Wdd g l-g l[k]+g y
 |x::l,0,h=>by simp[Wdd];omega
 |x::l,k+1,h=>by
  have:=Wb5 (g:=g) (y:=y) (l:=l) (k:=k) (by grind)
  grind [Wdd]
theorem Wip{g h:Kd->Int}:∀{l:List Kd},(∀x∈l,g x<=h x)->Wdd g l<=Wdd h l
 | [],_=>by simp[Wdd]
 |x::l,hl=>by
  have:=Wip (l:=l) λy hy=>hl y (Xe _ hy)
  grind [Xh,Wdd]
theorem Wlh{g h:Kd->Int}{a:Int}:∀{l:List Kd},Wdd (λx=>g x+a*h x) l=Wdd g l+a*Wdd h l
 | []=>by simp[Wdd]
 |x::l=>by
  have:=Wlh (g:=g) (h:=h) (a:=a) (l:=l)
  grind [Wdd,Int.mul_add]
theorem Wur(x:Kd):0<=WaJ x/\WaJ x<=1:=by unfold WaJ;split<;>omega
theorem Wcn(c:Int)(x:Kd):0<=Wb2 c x/\Wb2 c x<=WaJ x:=by
 unfold Wb2 WaJ;omega
theorem WkI(f:Fm):0<=Wfq f/\Wfq f<=f.kids.length:=by
 unfold Wfq;have:∀l:List Kd,0<=Wdd WaJ l/\Wdd WaJ l<=l.length:=λl=>by
  induction l with
  |nil=>simp[Wdd]
  |cons x l ih=>
   have:=Wur x
   grind [Wdd,Xs]
 simp_all
theorem WeW{code:List Opn}{c n:Int}{x:Kd}(h:KOk code c n x)(hl:code.length<=24):0<=Wbt x/\Wbt x<=26/\(x.phase=2->1<=Wbt x/\Wbt x<=25)/\((x.phase=0\/x.phase=1)->Wbt x=26):=by
 have hp:=h.pos;have hs:=h.sl;have aL:=h.pc;grind [Wbt]
theorem WkD{code:List Opn}{c n:Int}{x:Kd}(h:KOk code c n x)(hl:code.length<=24)(hb:x.busy=true->x.pb.2.1=1\/x.pb.2.1=2):0<=WbA x/\WbA x<=75/\(x.phase=0->1<=WbA x):=by
 have aL:=h.pc
 grind [WbA]
structure KD(f:Fm)(k:Nat)(q:Fm×Kd):Prop where
 le:fQ (Fm.put q k)<=fQ f
 p:∀(j:Nat) (h:j<f.kids.length) (h':j<(Fm.put q k).kids.length),WaJ (Fm.put q k).kids[j]=1->fP (Fm.put q k) (Fm.put q k).kids[j]<=fP f f.kids[j]/\WaJ f.kids[j]=1
variable{codes:List (List Opn)}{n:Int}{f:Fm}{x y:Kd}{k:Nat}{q:Fm×Kd}{code:List Opn}
theorem WgV(h:k<f.kids.length)(hk:q.1.kids=f.kids){j:Nat}(hj:j<f.kids.length)(h':j<(Fm.put q k).kids.length):(Fm.put q k).kids[j]=if k=j then q.2 else f.kids[j]:=by
 show(q.1.kids.set k q.2)[j]=_
 grind
theorem Wf1(hk:k<f.kids.length)(h1:q.1.kids=f.kids)(hc:q.1.clock=f.clock)(hu:WaJ q.2=WaJ f.kids[k])(hs:W5 f.clock q.2<=W5 f.clock f.kids[k])(hp:WaJ q.2=1->WbA q.2+75*Wb2 f.clock q.2<=WbA f.kids[k]+75*Wb2 f.clock f.kids[k]):
  KD f k q/\Wfq (Fm.put q k)=Wfq f/\fQ (Fm.put q k)=fQ f-W5 f.clock f.kids[k]+W5 f.clock q.2:=by
 have e1:(Fm.put q k).kids=f.kids.set k q.2:=by show q.1.kids.set k q.2=_;rw[h1]
 have e2:(Fm.put q k).clock=f.clock:=hc;have e3:Wfq (Fm.put q k)=Wfq f:=by grind [Wfq,Wb5]
 have e4:fQ (Fm.put q k)=fQ f-W5 f.clock f.kids[k]+W5 f.clock q.2:=by grind [fQ,Wb5]
 refine⟨⟨by omega,λj h h' hj=>?_⟩,e3,e4⟩;have hg:=WgV hk h1 h h';rw[hg]at hj⊢;unfold fP
 grind
end
section
structure KE(f:Fm)(k:Nat)(x:Kd)(q:Fm×Kd):Prop where
 d:KD f k q
 s0:x.phase=0->WaJ q.2=1->fP (Fm.put q k) q.2<fP f x
 s2:x.phase=2->fQ (Fm.put q k)<fQ f
 s1:x.phase=1->f.owner=0->fQ (Fm.put q k)<fQ f
 own:q.1.owner=f.owner\/q.1.owner=0\/(q.1.owner=(k:Int)+1/\x.phase=1/\f.owner=0)
 kids:q.1.kids=f.kids
 kt:∀(j:Nat) (h:j<(Fm.put q k).kids.length),KT (Fm.put q k) j (Fm.put q k).kids[j]
variable{codes:List (List Opn)}{n:Int}{f:Fm}{x y:Kd}{k:Nat}{q:Fm×Kd}{code:List Opn}{m:Mm}
theorem Wkz(h:q.1.kids=f.kids):(Fm.put q k).kids.length=f.kids.length:=by show(q.1.kids.set k q.2).length=_;rw[h,Xab]
theorem Wf0(hk:k<f.kids.length)(hT:∀(j:Nat) (h:j<f.kids.length),KT f j f.kids[j])(h1:q.1.kids=f.kids)(hc:q.1.clock=f.clock)(hb:q.1.buf=f.buf)(ho:∀j:Nat,j≠k->(q.1.owner=(j:Int)+1↔f.owner=(j:Int)+1))(hy:KT q.1 k q.2):
  ∀(j:Nat) (h:j<(Fm.put q k).kids.length),KT (Fm.put q k) j (Fm.put q k).kids[j]:=λj h=>by
 have hj:j<f.kids.length:=by grind [Wkz]
 rw[WgV hk h1 hj h];by_cases he:k=j
 .subst he;rw[Wb rfl];exact⟨hy.pb,hy.own,hy.seen⟩
 .rw[Wa he];have ht:=hT j hj;refine⟨ht.pb,?_,λhs e dV=>?_⟩
  .show q.1.owner=(j:Int)+1↔_;rw[ho j (λh=>he h.symm)];exact ht.own
  .show Wsf q.1.buf e.1=e.2.2;rw[hb];exact ht.seen (hs.trans hc) e dV
theorem WcQ(h:x.phase≠3):WaJ x=1:=by unfold WaJ;rw[Wa h]
theorem WkW(h:x.phase≠3)(hy:y.phase≠3)(hs:y.since=x.since)(c:Int):Wb2 c y=Wb2 c x:=by
 simp_all [Wb2,Wb,Wa]
theorem Wck:Wb2 f.clock (f.again x)=0:=by unfold Wb2 Fm.again;simp
theorem WfQ:WbA (f.again x)=75:=by unfold WbA Fm.again;simp
theorem WeE:Wbt (f.again x)=26:=by unfold Wbt Fm.again;simp
theorem WrB(h:x.phase≠3)(hs:x.since<f.clock):Wb2 f.clock x=1:=by unfold Wb2;rw[Wb ⟨h,hs⟩]
theorem Wpy{c:Int}:∀{l:List Kd},Wdd (W5 (c+1)) l<=Wdd (W5 c) l+26*Wdd WaJ l:=λ{l}=>by
 have h1:Wdd (W5 (c+1)) l<=Wdd (λx=>W5 c x+26*WaJ x) l:=Wip λx _=>by
  have a:=Wcn (c+1) x;have b:=Wcn c x;unfold W5;omega
 simp_all [Wlh]
theorem Wun{u:Int}(h:1<=u/\u<=3):tri u=tri (u-1)+(u-1):=by
 unfold tri;have:u=1\/u=2\/u=3:=by omega
 rcases this with rfl|rfl|rfl<;>decide
theorem WwJ(hk:k<f.kids.length)(h3:f.kids.length<=3)(hl:∀c∈codes,c.length<=24)(hF:FOk codes n f)(hT:∀(j:Nat) (h:j<f.kids.length),KT f j f.kids[j])(hx:f.kids[k]=x)(ho:KO f k x q):
  q.1.lost=true\/KE f k x q:=by
 have hlen:(codes.getD k []).length<=24:=by
  have cu:k<codes.length:=by rw[←hF.len];exact hk
  simp_all
 have hK:=hF.kid k hk;rw[hx]at hK;have ht:=hT k hk;rw[hx]at ht;obtain⟨c1,c2,c3,c4⟩:=WeW hK hlen;obtain⟨l1,l2,l3⟩:=WkD hK hlen ht.pb;have uC:=Wcn f.clock x;cases ho with
 |lost h=>grind
 |run h0 hs hp hlt hb hse=>
  rename_i y;refine .inr ?_;have yP:y.phase≠3:=by omega
  have fh:x.phase≠3:=by omega
  have aH:=WkW fh yP hs f.clock;have hch:Wbt y=26:=by unfold Wbt;rw[Wa yP,Wa (by omega)]
  obtain⟨d1,d2,d3⟩:=Wf1 (q:=(f,y)) hk rfl rfl (by grind [WcQ]) (by grind [W5]) (λ_=>by grind);refine⟨d1,λ_ _=>?_,λh=>by omega,λh=>by omega,.inl rfl,rfl,Wf0 hk hT rfl rfl rfl (λ_ _=>Iff.rfl) ⟨hb,?_,λh=>hse (hs▸h)⟩⟩
  .unfold fP;rw[d2];show WbA y+75*(Wb2 f.clock y+_)<_;omega
  .show f.owner=(k:Int)+1↔y.phase=2;rw[ht.own];omega
 |again h0 hs=>
  refine .inr ?_;have fh:x.phase≠3:=by omega
  have mW:=WrB fh hs;obtain⟨d1,d2,d3⟩:=Wf1 (q:=(f,f.again x)) hk rfl rfl (by rw[hx];rw[WcQ fh];exact WcQ (by show(0:Int)≠3;omega)) (by grind [W5,Wck,WeE]) (λ_=>by grind [WbA,Wb2,Wck,WfQ]);refine⟨d1,λ_ _=>?_,λh=>by omega,λh=>by omega,.inl rfl,rfl,Wf0 hk hT rfl rfl rfl (λ_ _=>Iff.rfl) ⟨(λh=>by cases h),?_,(λh e he=>by cases he)⟩⟩
  .unfold fP;rw[d2];show WbA (f.again x)+75*(Wb2 f.clock (f.again x)+_)<_
   grind [Wck,WfQ]
  .show f.owner=(k:Int)+1↔(0:Int)=2;rw[ht.own];omega
 |fail h2 hs=>
  refine .inr ?_;have fh:x.phase≠3:=by omega
  have mW:=WrB fh hs;have c:=c3 h2;obtain⟨d1,d2,d3⟩:=Wf1 (q:=({f with owner:=0},f.again x)) hk rfl rfl (by rw[hx];rw[WcQ fh];exact WcQ (by show(0:Int)≠3;omega)) (by grind [W5,Wck,WeE]) (λ_=>by grind [WbA,Wb2,Wck,WfQ]);have qD:=ht.own.2 h2;refine⟨d1,λh=>by omega,λ_=>?_,λh=>by omega,.inr (.inl rfl),rfl,Wf0 hk hT rfl rfl rfl (λj hj=>?_) ⟨(λh=>by cases h),?_,(λh e he=>by cases he)⟩⟩
  .grind [fQ,W5,Wck,WeE]
  .grind
  .show(0:Int)=(k:Int)+1↔(0:Int)=2;omega
 |ask h1 h0=>
  refine .inr ?_;have fh:x.phase≠3:=by omega
  have aH:Wb2 f.clock ({x with phase:=2}:Kd)=Wb2 f.clock x:=WkW (x:=x) (y:={x with phase:=2}) fh (by simp_all) rfl _;have hp:=hK.pos;have hch:Wbt ({x with phase:=2}:Kd)=25-x.pos:=rfl;have AS:=c4 (.inr h1);have kD:WbA ({x with phase:=2}:Kd)=0:=rfl;obtain⟨d1,d2,d3⟩:=Wf1 (q:=({f with owner:=(k:Int)+1},{x with phase:=2})) hk rfl rfl (by grind [WcQ]) (by grind [W5]) (λ_=>by grind);refine⟨d1,λh=>by omega,λh=>by omega,λ_ _=>?_,.inr (.inr ⟨rfl,h1,h0⟩),rfl,Wf0 hk hT rfl rfl rfl (λj hj=>?_) ⟨ht.pb,?_,ht.seen⟩⟩
  .grind [fQ,W5]
  .grind
  simp_all
 |wait h1 h0=>
  refine .inr ?_;have fh:x.phase≠3:=by omega
  obtain⟨d1,d2,d3⟩:=Wf1 (q:=(f,x)) hk rfl rfl (by rw[hx]) (by simp_all) (λ_=>by simp_all);exact⟨d1,λh=>by omega,λh=>by omega,λ_ h=>Wg h h0,.inl rfl,rfl,Wf0 hk hT rfl rfl rfl (λ_ _=>Iff.rfl) ht⟩
 |done cU=>
  refine .inr ?_;obtain⟨d1,d2,d3⟩:=Wf1 (q:=(f,x)) hk rfl rfl (by rw[hx]) (by simp_all) (λ_=>by simp_all);exact⟨d1,λh=>by omega,λh=>by omega,λh=>by omega,.inl rfl,rfl,Wf0 hk hT rfl rfl rfl (λ_ _=>Iff.rfl) ht⟩
 |look h2 hlt=>
  refine .inr ?_;have fh:x.phase≠3:=by omega
  have aH:Wb2 f.clock ({x with pos:=x.pos+1}:Kd)=Wb2 f.clock x:=WkW fh fh rfl _;have hch:Wbt ({x with pos:=x.pos+1}:Kd)=Wbt x-1:=by
   unfold Wbt
   grind
  have kD:WbA ({x with pos:=x.pos+1}:Kd)=WbA x:=rfl;obtain⟨d1,d2,d3⟩:=Wf1 (q:=(f,{x with pos:=x.pos+1})) hk rfl rfl (by rw[hx];rfl) (by grind [W5]) (λ_=>by simp_all);refine⟨d1,λh=>by omega,λ_=>?_,λh=>by omega,.inl rfl,rfl,Wf0 hk hT rfl rfl rfl (λ_ _=>Iff.rfl) ⟨ht.pb,ht.own,ht.seen⟩⟩
  grind [fQ,W5]
 |merge h2=>
  refine .inr ?_;have fh:x.phase≠3:=by omega
  have c:=c3 h2;obtain⟨z,hz⟩:∃z,z=(WcL f x k).2:=⟨_,rfl⟩;have z3:z.phase=3:=by rw[hz];rfl
  have yQ:WaJ z=0:=by unfold WaJ;rw[Wb z3]
  have vF:WaJ x=1:=WcQ fh;have e1:(Fm.put (WcL f x k) k).kids=f.kids.set k z:=by rw[hz];rfl
  have e2:(Fm.put (WcL f x k) k).clock=f.clock+1:=rfl;have e3:Wfq (Fm.put (WcL f x k) k)=Wfq f-1:=by grind [Wfq,Wb5]
  have hs0:W5 (f.clock+1) z=0:=by simp_all [W5,Wbt,Wb2,Wb,Wa]
  have AT:=WkI f;have w7:=WkI (Fm.put (WcL f x k) k);rw[e3]at w7;have e4:fQ (Fm.put (WcL f x k) k)<fQ f:=by
   unfold fQ;rw[e1,e2,e3,Wb5 hk,hs0,hx];have AU:=Wpy (c:=f.clock) (l:=f.kids);have h1:=Wpy (c:=f.clock) (l:=f.kids.set k z);rw[Wb5 hk,Wb5 hk,Wb5 hk,hx,hs0,yQ,vF]at h1;have qw:W5 f.clock z=0:=by simp_all [W5,Wbt,Wb2,Wb,Wa]
   rw[qw]at h1;have lT:=Wun (u:=Wfq f) (by omega);have tQ:1<=W5 f.clock x:=by unfold W5;omega
   have lm:Wdd WaJ f.kids=Wfq f:=rfl;omega
  refine⟨⟨Int.le_of_lt e4,λj h h' hj=>?_⟩,λh=>by omega,λ_=>e4,λh=>by omega,.inr (.inl rfl),rfl,λj h=>?_⟩
  .have hg:=WgV (q:=WcL f x k) hk rfl h h';rw[hg]at hj⊢;by_cases he:k=j
   .simp_all
   .rw[Wa he]at hj⊢;refine⟨?_,hj⟩;unfold fP;rw[e2,e3];have a:=Wcn (f.clock+1) f.kids[j];have b:=Wcn f.clock f.kids[j];omega
  .have hj:j<f.kids.length:=by rw[Wkz (q:=WcL f x k) rfl]at h;exact h
   rw[WgV (q:=WcL f x k) hk rfl hj h];have qD:=ht.own.2 h2;by_cases he:k=j
   .subst he;rw[Wb rfl];refine⟨ht.pb,?_,λhs=>?_⟩
    .show(0:Int)=(k:Int)+1↔(3:Int)=2;omega
    .have:=hK.since;change x.since=f.clock+1 at hs;omega
   .rw[Wa he];have yR:=hT j hj;refine⟨yR.pb,?_,λhs=>?_⟩
    .show(0:Int)=(j:Int)+1↔_;rw[←yR.own];omega
    .have:=(hF.kid j hj).since;omega
end
section
def Wcw(m:Mm)(codes:List (List Opn)):Nat->Nat->Fm->Fm
 |0,_,f=>f
 |d+1,i,f=>Wcw m codes d (i+1) (Wbx m f i (codes.getD i []))
structure FmR(f:Fm)(i:Nat)(g:Fm):Prop where
 len:g.kids.length=f.kids.length
 le:fQ g<=fQ f
 kt:∀(j:Nat) (h:j<g.kids.length),KT g j g.kids[j]
 p:∀(j:Nat) (h:j<f.kids.length) (h':j<g.kids.length),WaJ g.kids[j]=1->WaJ f.kids[j]=1/\fP g g.kids[j]<=fP f f.kids[j]/\
  (i<=j->fP g g.kids[j]+fQ g<fP f f.kids[j]+fQ f\/(f.kids[j].phase=1/\∃k:Nat,k<i/\f.owner=(k:Int)+1))
 chk:∀(k:Nat) (h:k<f.kids.length),i<=k->f.kids[k].phase=2->fQ g<fQ f
variable{codes:List (List Opn)}{n:Int}{f g:Fm}{m:Mm}{k:Nat}
theorem Wg2{code:List Opn}(h:f.lost=true):Wbx m f k code=f:=by unfold Wbx;rw[Wb h]
theorem Wea:∀(d i:Nat) (f:Fm),f.lost=true->Wcw m codes d i f=f
 |0,_,_,_=>rfl
 |d+1,i,f,h=>by rw[Wcw,Wg2 h];exact Wea d (i+1) f h
theorem WsY(hm:W0 m=true)(bb:∀c∈codes,KC c)(h3:codes.length<=3):∀(d i:Nat) (n:Int) (f:Fm),i+d=codes.length->FOk codes n f->(∀(j:Nat) (h:j<f.kids.length),KT f j f.kids[j])->
  (Wcw m codes d i f).lost=true\/FmR f i (Wcw m codes d i f)
 |0,i,n,f,hi,hF,hT=>.inr ⟨rfl,Xo _,hT,λj h h' hj=>⟨hj,Xo _,λhij=>by have:=hF.len;omega⟩,λk h lq=>by have:=hF.len;omega⟩
 |d+1,i,n,f,hi,hF,hT=>by
  have hlen:=hF.len;have hk:i<f.kids.length:=by omega
  have tR:i<codes.length:=by omega
  by_cases bJ:f.lost=true
  .grind [Wea]
  rw[Wcw];have aR:codes.getD i []=codes[i]:=Wn tR _;have hKC:=bb _ (Xp tR);have hKO:=hF.kid i hk;rw[aR]at hKO;have ho:=Wst (m:=m) hKC hF hKO (hT i hk);obtain hE:=WwJ hk (by omega) (λc hc=>(bb c hc).toCC.len) hF hT rfl ho;have aH:Wbx m f i (codes.getD i [])=Fm.put (Wdu m f f.kids[i] i codes[i]) i:=by
   unfold Wbx;rw[Wa bJ,aR,show f.kids.getD i {}=f.kids[i]from Wn hk _]
  have hF1:FOk codes (n+1) (Wbx m f i (codes.getD i [])):=by
   grind [Wlk]
  rw[aH]at hF1⊢;rcases hE with hE|hE
  .grind [Fm.put,Wdu,Wea]
  generalize Wdu m f f.kids[i] i codes[i]=q at*;have bc:(Fm.put q i).kids.length=f.kids.length:=Wkz hE.kids;have bt:=λ(j:Nat) (hj:j<f.kids.length)=>WgV (q:=q) hk hE.kids hj (by omega);have um:(Fm.put q i).owner=q.1.owner:=rfl;rcases WsY hm bb h3 d (i+1) (n+1) (Fm.put q i) (by omega) hF1 hE.kt with hI|hI
  .grind
  right;refine⟨hI.len.trans bc,Xet hI.le hE.d.le,hI.kt,λj h h' hj=>?_,λk h lq h2=>?_⟩
  .have yS:j<(Fm.put q i).kids.length:=by omega
   obtain⟨a1,a2,a3⟩:=hI.p j yS h' hj;obtain⟨b1,b2⟩:=hE.d.p j h yS a1;refine⟨b2,Xet a2 b1,λhij=>?_⟩;have hle:=hI.le;have rP:=hE.d.le;by_cases he:i=j
   .subst he;have hg:=bt i h;rw[Wb rfl]at hg;rw[hg]at a1 a2 b1;have aX:=hKO.phase;have fh:f.kids[i].phase≠3:=λh3=>by simp_all [WaJ,Wb]
    by_cases p0:f.kids[i].phase=0
    .have:=hE.s0 p0 a1;left;omega
    by_cases p2:f.kids[i].phase=2
    .have:=hE.s2 p2;left;omega
    have p1:f.kids[i].phase=1:=by omega
    by_cases o0:f.owner=0
    .have:=hE.s1 p1 o0;left;omega
    have qD:=hF.owner;obtain⟨k,ii⟩:∃k:Nat,f.owner=(k:Int)+1:=⟨(f.owner-1).toNat,by omega⟩;by_cases ll:k<i
    .grind
    have kD:k<f.kids.length:=by omega
    have ff:=(hT k kD).own.1 ii;have hne:k≠i:=λe=>by simp_all
    have vH:=bt k kD;rw[Wa (λe=>hne e.symm)]at vH;have:=hI.chk k (by omega) (by omega) (by simp_all);left;omega
   .have hg:=bt j h;rw[Wa he]at hg;rcases a3 (by omega)with hlt|⟨p1,k,lG,ii⟩
    .left;omega
    .rw[hg]at p1;rw[um]at ii;rcases hE.own with h0|h0|⟨h0,p,o⟩
     .rw[h0]at ii;by_cases ll:k<i
      .grind
      .have:k=i:=by omega
       subst this;have:=hE.s2 ((hT k hk).own.1 ii);left;omega
     .omega
     .have:=hE.s1 p o;left;omega
  .by_cases he:i=k
   .subst he;exact Xcp hI.le (hE.s2 h2)
   .have hg:=bt k h;rw[Wa he]at hg;exact Int.lt_of_lt_of_le (hI.chk k (by omega) (by omega) (by simp_all)) hE.d.le
end
section
def Wab(c:Cm):Int:=
 if c.phase=1 then 3*c.puts.length-c.pos+1+c.reads.length else
 if c.phase=2 then 1+c.reads.length+2*c.puts.length else
 if c.phase=3 then c.reads.length-c.pos+2*c.puts.length else
 if c.phase=4 then 2*c.puts.length-c.pos else
 if c.phase=5 then c.puts.length-c.pos else
 if c.phase=7 then c.pos+1 else 0
section
variable{c:Cm}{m:Mm}{n ph:Int}
theorem Wgr(h:CmOk c):0<=Wab c/\Wab c<=33/\(c.phase≠6->c.phase≠8->1<=Wab c):=by
 have hp:=h.phase;have h1:=h.plen;have h2:=h.rlen;have h3:=h.pos;unfold Cm.steps at h3;unfold Wab;have:c.phase=1\/c.phase=2\/c.phase=3\/c.phase=4\/c.phase=5\/c.phase=6\/c.phase=7\/c.phase=8:=by omega
 rcases this with h|h|h|h|h|h|h|h<;>(rw[h]at h3⊢;simp at h3⊢;try omega)
theorem Wce(h:0<=n):Wab (W1 c n)=n:=by
 unfold W1;split
 .rename_i h0;rw[h0];rfl
 .show(if(7:Int)=1 then _ else if(7:Int)=2 then _ else if(7:Int)=3 then _ else if(7:Int)=4 then _ else if(7:Int)=5 then _ else if(7:Int)=7 then n-1+1 else 0)=n;simp
theorem Wj5(h:ph=2\/ph=3\/ph=4\/ph=5\/ph=6):Wab (Wcx c ph)<=if ph=2 then 1+c.reads.length+2*c.puts.length else if ph=3 then c.reads.length+2*c.puts.length else if ph=4 then 2*c.puts.length else if ph=5 then c.puts.length else 0:=by
 obtain⟨a,ha⟩:∃a,Waz c ph=a:=⟨_,rfl⟩;have:a=ph\/a=6\/(ph=3/\a=4):=by
  unfold Waz at ha;split at ha
  .omega
  .split at ha<;>omega
 have e:Wab (Wcx c ph)=Wab {c with phase:=a,pos:=0}:=by unfold Wcx;rw[ha]
 rw[e];unfold Wab;simp only;rcases h with rfl|rfl|rfl|rfl|rfl<;>rcases this with rfl|rfl|⟨_,rfl⟩<;>simp<;>omega
theorem WdT(h:CmOk c)(hp:c.phase=1/\ph=2\/c.phase=3/\ph=4\/c.phase=4/\ph=5\/c.phase=5/\ph=6):Wab (Wp c ph)<Wab c:=by
 have h3:=h.pos;have hb:=Wj5 (c:=c) (ph:=ph) (by omega);unfold Cm.steps at h3;unfold Wp;split
 .rename_i hs;refine Xcp hb ?_;unfold Cm.steps at hs;unfold Wab;rcases hp with⟨a,rfl⟩|⟨a,rfl⟩|⟨a,rfl⟩|⟨a,rfl⟩<;>(rw[a]at h3 hs⊢;simp at h3 hs⊢;omega)
 .unfold Wab;simp only;rcases hp with⟨a,rfl⟩|⟨a,rfl⟩|⟨a,rfl⟩|⟨a,rfl⟩<;>(rw[a];simp;omega)
theorem WoB(h:CmOk c)(h6:c.phase≠6)(h8:c.phase≠8):Wab (Wq m c).2<Wab c:=by
 have hp:=h.phase;have h1:=h.plen;have h2:=h.rlen;have h3:=h.pos;unfold Cm.steps at h3;unfold Wq;simp only;by_cases p1:c.phase=1
 .rw[Wb p1];split
  .exact WdT h (.inl ⟨p1,rfl⟩)
  .show Wab (W1 c c.pos)<_;rw[Wce h3.1];unfold Wab;rw[p1]at h3⊢;simp at h3⊢;omega
 rw[Wa p1];by_cases p2:c.phase=2
 .rw[Wb p2];split
  .show Wab (W1 c c.puts.length)<_;rw[Wce (by omega)];unfold Wab;rw[p2]at h3⊢;simp at h3⊢;omega
  .refine Xcp (Wj5 (c:={c with wv:=(tick m).2}) (.inr (.inl rfl))) ?_;unfold Wab;rw[p2]at h3⊢;simp at h3⊢;omega
 rw[Wa p2];by_cases p3:c.phase=3
 .rw[Wb p3];split
  .show Wab (W1 c c.puts.length)<_;rw[Wce (by omega)];unfold Wab;rw[p3]at h3⊢;simp at h3⊢;omega
  .exact WdT h (.inr (.inl ⟨p3,rfl⟩))
 rw[Wa p3];by_cases p4:c.phase=4
 .rw[Wb p4];exact WdT h (.inr (.inr (.inl ⟨p4,rfl⟩)))
 rw[Wa p4];by_cases p5:c.phase=5
 .rw[Wb p5];exact WdT h (.inr (.inr (.inr ⟨p5,rfl⟩)))
 rw[Wa p5,Wb (show c.phase=7 by omega)];show Wab (W1 c c.pos)<_;rw[Wce h3.1];unfold Wab;rw[show c.phase=7 by omega];simp;omega
theorem Wl5(h:CmOk c):Wab (WA c)<=Wab c/\(c.phase<=3->Wab (WA c)<Wab c):=by
 have hp:=h.phase;have h3:=h.pos;unfold Cm.steps at h3;unfold WA;by_cases p1:c.phase=1
 .rw[Wb p1,Wce h3.1];unfold Wab;rw[p1]at h3⊢;simp at h3⊢;omega
 rw[Wa p1];split
 .rename_i wZ;rw[Wce (by omega)];rcases wZ with p|p<;>(unfold Wab;rw[p]at h3⊢;simp at h3⊢;omega)
 .exact⟨Xo _,λh=>by omega⟩
end
end
section
def Wr7(f:Fm):List Kd->Int
 | []=>0
 |x::l=>if WaJ x=1/\Wr7 f l<=fP f x+fQ f then fP f x+fQ f else Wr7 f l
def WlS(f:Fm):Int:=Wr7 f f.kids
theorem Wpn(f:Fm):∀(l:List Kd),0<=Wr7 f l
 | []=>Xo _
 |x::l=>by have:=Wpn f l;rw[Wr7];split<;>omega
theorem WkT{f:Fm}{b:Int}:∀{l:List Kd},0<=b->(∀x∈l,WaJ x=1->fP f x+fQ f<=b)->Wr7 f l<=b
 | [],h,_=>h
 |x::l,h,hl=>by
  have ih:=WkT (f:=f) h λy hy=>hl y (Xe _ hy);rw[Wr7];split
  .rename_i hc;exact hl x (Xh ..) hc.1
  .exact ih
theorem WnT{f:Fm}:∀{l:List Kd},∀x∈l,WaJ x=1->fP f x+fQ f<=Wr7 f l
 | [],x,h,_=>by cases h
 |y::l,x,h,hu=>by
  rw[Wr7];rcases List.mem_cons.1 h with rfl|h
  .split
   .exact Xo _
   .rename_i hc;by_cases h':Wr7 f l<=fP f x+fQ f
    .exact Wg ⟨hu,h'⟩ hc
    .omega
  .have:=WnT (f:=f) x h hu;split<;>omega
variable{codes:List (List Opn)}{n:Int}{f g:Fm}{m:Mm}
theorem WxC(hF:FOk codes n f)(hl:∀c∈codes,c.length<=24):0<=fQ f:=by
 have h1:Wdd (λ_=>0) f.kids<=Wdd (W5 f.clock) f.kids:=by
  refine Wip λx hx=>?_;obtain⟨k,hk,rfl⟩:=Xam hx;have bb:k<codes.length:=by rw[←hF.len];exact hk
  have hK:=hF.kid k hk;rw[Wn bb]at hK;have a:=(WeW hK (hl _ (Xp bb))).1;have b:=Wcn f.clock f.kids[k];unfold W5;omega
 have h2:∀l:List Kd,Wdd (λ_=>0) l=0:=λl=>by induction l with
  |nil=>rfl
  |cons x l ih=>simp only[Wdd,Xak,Xct]at*;omega
 rw[h2]at h1;have h3:0<=tri (Wfq f):=by
  unfold tri;split
  .omega
  .split<;>omega
 unfold fQ;omega
theorem WxF(hF:FOk codes n f)(hl:∀c∈codes,c.length<=24)(hT:∀(j:Nat) (h:j<f.kids.length),KT f j f.kids[j]){k:Nat}(hk:k<f.kids.length)(hu:WaJ f.kids[k]=1):1<=fP f f.kids[k]+fQ f:=by
 have hq:=WxC hF hl;have bb:k<codes.length:=by rw[←hF.len];exact hk
 have hK:=hF.kid k hk;rw[Wn bb]at hK;have hlen:=hl _ (Xp bb);obtain⟨l1,l2,l3⟩:=WkD hK hlen (hT k hk).pb;have b:=Wcn f.clock f.kids[k];have eN:1<=Wfq f:=by
  unfold Wfq;have:=Wb5 (g:=WaJ) (y:=f.kids[k]) hk;have h0:0<=Wdd WaJ (f.kids.set k {phase:=3}):=(WkI {f with kids:=f.kids.set k {phase:=3}}).1;rw[Wb5 hk,hu]at h0;have:WaJ ({phase:=3}:Kd)=0:=rfl;omega
 by_cases p0:f.kids[k].phase=0
 .have:=l3 p0;unfold fP;omega
 .
  obtain⟨c1,c2,c3,c4⟩:=WeW hK hlen;have aX:=hK.phase;have fh:f.kids[k].phase≠3:=λh3=>by unfold WaJ at hu;rw[Wb h3]at hu;omega
  have hc:1<=Wbt f.kids[k]:=by
   by_cases p2:f.kids[k].phase=2
   .exact(c3 p2).1
   .have:=c4 (.inr (by omega));omega
  have hs:W5 f.clock f.kids[k]<=Wdd (W5 f.clock) f.kids:=by
   have h0:Wdd (λ_=>0) (f.kids.set k {phase:=3})<=Wdd (W5 f.clock) (f.kids.set k {phase:=3}):=by
    refine Wip λx hx=>?_;rcases Xdb hx with hx|rfl
    .obtain⟨j,hj,rfl⟩:=Xam hx;have yT:j<codes.length:=by rw[←hF.len];exact hj
     have hK:=hF.kid j hj;rw[Wn yT]at hK;have a:=(WeW hK (hl _ (Xp yT))).1;have b:=Wcn f.clock f.kids[j];unfold W5;omega
    .unfold W5 Wbt Wb2;simp
   have hz:∀l:List Kd,Wdd (λ_=>0) l=0:=λl=>by induction l with
    |nil=>rfl
    |cons x l ih=>simp only[Wdd,Xak,Xct]at*;omega
   rw[hz,Wb5 hk]at h0;have:W5 f.clock ({phase:=3}:Kd)=0:=by unfold W5 Wbt Wb2;simp
   omega
  have h3:0<=tri (Wfq f):=by
   unfold tri;split
   .omega
   .split<;>omega
  unfold fP fQ;unfold W5 at hs;unfold W5;omega
end
section
theorem WtO{l:List Opn}{j e:Nat}(hc:CC l)(hm:Mate l j e)(h8:∃h:j<l.length,l[j].1=8):∀i,j<i->i<=e->dep l j<dep l i/\frk l i=frk l (j+1):=λi ml xp=>by
 obtain⟨hj,h8⟩:=h8;have hlen:=hm.len;have key:∀d,j+1+d<=e->dep l j<dep l (j+1+d)/\frk l (j+1+d)=frk l (j+1):=λd=>by
  induction d with
  |zero=>intro _;rw[Nat.add_zero,WaQ hj,Wtn h8];exact⟨by omega,rfl⟩
  |succ d ih=>
   intro hd;obtain⟨i1,i2⟩:=ih (by omega);have hlt:j+1+d<l.length:=by omega
   have hb:=WhK l[j+1+d];have gk:=WaQ hlt;have hne:=hm.ne (j+1+d) (by omega) (by omega);refine⟨by rw[show j+1+(d+1)=j+1+d+1 by omega];omega,?_⟩;rw[show j+1+(d+1)=j+1+d+1 by omega,Web hlt,i2];have:¬l[j+1+d].1=11:=λfI=>by
    have h0:=(hc.fk _ hlt fI).1;have:=hc.up.at (j:=j) (by omega);omega
   rw[show(l[j+1+d].1==11)=false by simpa using this];rfl
 have:=key (i-(j+1)) (by omega);rw[show j+1+(i-(j+1))=i by omega]at this;exact this
def WsM(x:Rt):Int:=if x.busy=true then x.pb.2.1 else 0
def Wep(p:Pg)(pc:Int):Int:=382*(1-frk p.1 pc.toNat)
def Wbf(x:Rt):Int:=x.undos.length+146*(2-x.spare)+36
def Wv(p:Pg)(x:Rt):Int:=
 if x.phase=1 then 75-3*x.pc-WsM x+Wep p x.pc+Wbf x else
 if x.phase=2 then(if x.fam.lost=true then x.undos.length+3 else 73-3*x.pc+WlS x.fam+Wbf x)else
 if x.phase=3 then x.last.2.1+74-3*x.last.1+Wep p x.pc+Wbf x else
 if x.phase=4 then x.last.2.1-x.pos+73-3*x.last.1+Wep p x.pc+Wbf x else
 if x.phase=5 then Wab x.cm+x.undos.length+3 else
 if x.phase=6 then x.undos.length+2 else
 if x.phase=7 then 1 else 0
structure RT(x:Rt):Prop where
 pb:x.busy=true->x.pb.2.1=1\/x.pb.2.1=2
 fam:x.phase=2->x.fam.lost=true\/∀(j:Nat) (h:j<x.fam.kids.length),KT x.fam j x.fam.kids[j]
 cm:x.phase=5->x.cm.phase≠6/\x.cm.phase≠8
variable{w:Wo}{x y:Rt}{k:Nat}{p:Pg}{n:Int}{o:Opn}
theorem Wga(h:RT x):0<=WsM x/\WsM x<=2:=by
 unfold WsM;split
 .have:=h.pb ‹_›;omega
 .omega
theorem WmI{a b:Int}(h:a<=b):Wep p b<=Wep p a:=by
 have:=Wh3 p.1 (show a.toNat<=b.toNat by omega);unfold Wep;omega
theorem WsQ(hc:CC p.1){a:Int}(h:a<=p.1.length):0<=Wep p a:=by
 have:=Wf3 hc a.toNat (by omega);unfold Wep;omega
theorem Wci(h:x.phase=1):Wv p x=75-3*x.pc-WsM x+Wep p x.pc+Wbf x:=by unfold Wv;rw[Wb h]
theorem WnM(h:x.phase=6):Wv p x=x.undos.length+2:=by unfold Wv;rw[h];simp
theorem Wfk:Wv p (WcP x)=x.undos.length+2:=WnM rfl
theorem WhZ(h1:x.phase=1)(hy:y.phase=1)(aL:x.pc+1<=y.pc)(hb:y.busy=x.busy)(hp:y.pb=x.pb)(hs:y.spare=x.spare)(hu:(y.undos.length:Int)<=x.undos.length+1):Wv p y<Wv p x:=by
 rw[Wci h1,Wci hy];have:=WmI (p:=p) (show x.pc<=y.pc by omega);unfold WsM Wbf;rw[hb,hp,hs];omega
end
end Go.Sx
