/- Plain laws of the Lean functions. -/
import Derived.Test.YtaohbbihecfgcaaGreatMW2
open List renaming length_set→Xav,getElem_mem→Xab,set→Xe,map_set→Xdw,set_getElem_self→Xba,getD→Xc,length_map→Xx,mem_map→Xv,append_assoc→Xaw,getD_eq_getElem?_getD→Xbo,pairwise_iff_getElem→Xap,set_set→Xcq,mem_of_getElem?→Xas,filter_cons_of_pos→Xfq,filter_cons_of_neg→Xfp,append_eq→Xaz,length_eq_zero_iff→Xfr,filter_eq_nil_iff→Xfv,append→Xg,length→Xb,pairwise_cons→Xt,length_cons→Xq,mem_cons_self→Xj,mem_cons_of_mem→Xf,length_nil→Xbq,nil_append→Xaq,length_dropLast→Xdb,drop_length→Xbr,drop_eq_getElem_cons→Xai,drop_zero→Xak,replicate→Xp,map_replicate→Xdu,map_map→Xde,drop_of_length_le→Xeb,getElem_map→Xdo,foldl_nil→Xer,foldl_cons→Xdh,append_nil→Xbp
open Option renaming bind_some→Xd
open Int renaming toNat_natCast→Xk,tdiv_eq_ediv_of_nonneg→Xcx,tmod_eq_emod_of_nonneg→Xcv,toNat→Xa
open Bool renaming and_self→Xal,not_true→Xo,and_eq_false_iff→Xbw,true_and→Xbv,and_eq_true→Xi,not_false→Xbn,false_eq_true→Xbc
open Nat renaming le_refl→Xl,zero_add→Xat
namespace Go.Sx
set_option linter.unusedVariables false
set_option linter.unusedSimpArgs false
section
variable{N:Nat}{s:Sc}{p:Pg}{w:Wo}{n:Int}{a:Ac}{k:Nat}
theorem Wop{ps:List Pg}(h:∀p∈ps,POk p)(hk:k<ps.length):POk (ps.getD k pg0):=by
 grind
theorem WOk.tick(h:WOk s.2.1 n w):WOk s.2.1 (n+1) {w with now:=w.now+1}:=
 {h with now:=by(have:=h.now;simp_all),n0:=by have:=h.n0;omega,hist:=by(have:=h.hist;grind),root:=λk hk=>(h.root k hk).wk (by omega)}
theorem WOk.putQ{q:Wo×Rt}{w0:Wo}(h:WOk s.2.1 (n+1) {w0 with now:=w0.now+1})(hh:(w0.hist.length:Int)<=n)(hk:k<w0.roots.length)(hq:QOk (s.2.1.getD k pg0) (n+1) {w0 with now:=w0.now+1} q):WOk s.2.1 (n+1) (Wo.put q k):=by
 have hr:q.1.roots=w0.roots:=hq.roots;exact{
  len:=by show(q.1.roots.set k q.2).length=_;rw[Xav,hr];exact h.len
  l4:=h.l4
  progs:=h.progs
  now:=hq.now.trans h.now
  n0:=h.n0
  mem:=hq.mem
  shelf:=hq.shelf
  holds:=hq.holds
  histE:=λe he=>(hq.histE e he).elim (h.histE e) id
  hist:=by have:=hq.hist;show(q.1.hist.length:Int)<=n+1;grind
  root:=λi hi=>by
   change i<(q.1.roots.set k q.2).length at hi;rw[Xav,hr]at hi;show ROk _ _ ((q.1.roots.set k q.2)[i]);rw[List.getElem_set];by_cases he:k=i
   .subst he;rw[Wf rfl];exact hq.root
   .rw[Wb he];have:=h.root i hi;simp_all}
theorem Wn1(h:WOk s.2.1 n w):WOk s.2.1 (n+1) (Wce s w a):=by
 have ht:=h.tick;unfold Wce;simp only;split
 .rename_i hb;have hk:a.2.1.toNat<w.roots.length:=by omega
  have hx:=ht.root a.2.1.toNat hk;have sb:=h.root a.2.1.toNat hk;have hg:GOk {w with now:=w.now+1}:=⟨h.mem,h.shelf,h.holds⟩;have hp:=Wop h.progs (show a.2.1.toNat<s.2.1.length by rw[←h.len];exact hk);have j7:w.roots.length<=4:=by rw[h.len];exact h.l4
  rw[WJ hk];split
  .unfold WqU;rw[WJ (show a.2.1.toNat<({w with now:=w.now+1}:Wo).roots.length from hk)];exact ht.putQ h.hist hk (WoR hp hg sb (by omega) h.n0)
  .split
   .split
    .rename_i hf;refine ht.putQ h.hist hk (hg.st ?_);have hl:=sb.live (by omega);obtain⟨f1,f2,f3⟩:=hl.fork hf.1;have hj:a.2.2.toNat<(s.2.1.getD a.2.1.toNat pg0).2.length:=by omega
     have iS:a.2.2.toNat<w.roots[a.2.1.toNat].fam.kids.length:=by rw[f3.len];exact hj
     have bI:KC ((s.2.1.getD a.2.1.toNat pg0).2.getD a.2.2.toNat []):=by rw[WJ hj];exact hp.kids _ (Xab hj)
     exact{hx with live:=λ_=>{hl.wk (show n<=n+1 by omega)with fork:=λ_=>⟨f1,f2,WsG iS h.mem bI f3 rfl⟩}}
    .exact ht
   .split
    .split
     .refine ht.putQ h.hist hk (hg.st ?_);exact{hx with live:=λhh=>{hx.live hh with}}
     .exact ht
    .exact ht
 .exact ht
theorem Wrj(h:WOk s.2.1 n w)(hn:n<=99999)(hN:1048576<N):Ze8 N w.e s a=some (((Wce s w a).e,()),()):=by
 have ht:=h.tick;have qW:=h.now;have ol:=h.n0;have j7:w.roots.length<=4:=by rw[h.len];exact h.l4
 unfold Ze8 Wce;simp only[Ws];rw[show P5 w.e=w.roots.map Rt.e from rfl,show w.e.1=w.now from rfl,Wai (by omega)];have hlen:Wh (w.roots.map Rt.e)=(w.roots.length:Int):=by unfold Wh;simp
 rw[hlen,WQ (by unfold I64;omega)];simp only[WX,ret,Xd];by_cases hb:0<=a.2.1/\a.2.1<w.roots.length
 .rw[Wf hb,We hb.1,We (show a.2.1<=(w.roots.length:Int) -1 by omega)];obtain⟨k,qX⟩:∃k:Nat,a.2.1=k:=⟨a.2.1.toNat,by omega⟩;have hk:k<w.roots.length:=by omega
  obtain⟨x,aG⟩:∃x,w.roots[k]=x:=⟨_,rfl⟩;have hx:=h.root k hk;rw[aG]at hx;have iz:k<s.2.1.length:=by rw[←h.len];exact hk
  have hp:=Wop h.progs iz;obtain⟨g1,g2,g3,g4,g5⟩:=woG hk aG;obtain⟨r0,r1,r2,r3,r4,r5,r6,r7,r8,eB,dR,dc,dh,dC,dD,fa,fb,eC,eD,fe,ff,fg⟩:=rtP x;have c9:∀y:Rt,(w.now+1,S4 (Xe (w.roots.map Rt.e) k y.e) w.e.2)=Wo.e (Wo.put ({w with now:=w.now+1},y) k):=λy=>by
   unfold Wo.put Wo.e;simp only[Xdw];rfl
  have bO:Wo.put ({w with now:=w.now+1},x) k={w with now:=w.now+1}:=by unfold Wo.put;simp only;rw[←aG,Xba]
  simp only[qX,Xk,Xal,Xo,Wc];rw[g1,g4,WJ hk,aG];simp only[Wa,r0,eC,eD,c9,bO,show w.e.2.2.1=w.mem from rfl];rw[WB,We iz];have qY:Xc s.2.1 k (([]:List Ka),([]:List Kaa))=s.2.1.getD k pg0:=rfl;rw[qY];generalize iw:s.2.1.getD k pg0=p at*;have hg:GOk {w with now:=w.now+1}:=⟨h.mem,h.shelf,h.holds⟩;simp only[Wa,Wv];have be:Zih N (Wo.e {w with now:=w.now+1}) (k:Int) p=some (((Wo.put (Wi5 {w with now:=w.now+1} x k p) k).e,()),()):=
   WsC (w:={w with now:=w.now+1}) hk aG (by grind) hp hg hx (by omega) (by have:=h.hist;grind) hN
  rw[be];by_cases h1:a.1=1
  .simp_all [Wf,WqU,WJ,Xd]
  .rw[Wb h1,Wb h1];by_cases h2:a.1=2
   .rw[Wf h2,Wf h2];by_cases hf:x.phase=2
    .rw[Wf hf,WQ (by have:=hp.k3;unfold I64 Wh;omega),show Wh p.2=(p.2.length:Int)from rfl];by_cases hj:0<=a.2.2/\a.2.2<p.2.length
     .rw[We hj.1,We (show a.2.2<=(p.2.length:Int) -1 by omega),Wf (show x.phase=2/\0<=a.2.2/\a.2.2<p.2.length from⟨hf,hj⟩)];obtain⟨j,kK⟩:∃j:Nat,a.2.2=j:=⟨a.2.2.toNat,by omega⟩;have hj':j<p.2.length:=by omega
      simp only[kK,Xk,Xal,Wa];rw[WB,We hj'];obtain⟨f1,f2,f3⟩:=(hx.live (by omega)).fork hf;have bI:KC (p.2.getD j []):=by rw[WJ hj'];exact hp.kids _ (Xab hj')
      rw[Wlg (code:=p.2.getD j []) (by rw[f3.len];exact hj') (by rw[f3.len];exact hp.k3) h.mem bI f3 rfl (by omega) hN];simp only[Xd,Wa];have:U21 (Wiz w.mem x.fam j (p.2.getD j [])).e x.e=Rt.e {x with fam:=Wiz w.mem x.fam j (p.2.getD j [])}:=rfl
      grind [Wu5]
     grind
    simp_all
   .rw[Wb h2,Wb h2];by_cases h3:a.1=3
    .rw[Wf h3,Wf h3];have hd:S11 true x.e=Rt.e {x with doomed:=true}:=rfl;simp only[hd,c9,show(Cm.e x.cm).2.2.1=x.cm.phase from rfl,WT]
     grind
    simp_all
 .rw[Wb hb];have li:(decide (0<=a.2.1)&&decide (a.2.1<=(w.roots.length:Int) -1))=false:=by
   rw[Xbw,Wp,Wp];omega
  rw[li];rfl
theorem Wnq(h:WlP s=true):WOk s.2.1 0 (WmL s):=by
 obtain⟨h1,h2,h3,h4⟩:=WdA h;exact{
  len:=by simp[WmL]
  l4:=h2
  progs:=h4
  now:=rfl
  n0:=Int.le_refl _
  mem:=by
   show WY (Wmr s.1.1)=true;have:=h1.cells.len;unfold WY Wmr;simp only[Xx,this,decide_true,Xbv,Xi,Wi,List.all_eq_true];refine⟨by omega,λw hw=>?_⟩;obtain⟨v,hv,rfl⟩:=Xv.1 hw;have:=h1.cells.val v hv;rw[Whf];unfold wd0;simp only;omega
  shelf:=⟨Wqx h1.map.1 h1.map.2,h1.cnt⟩
  holds:=⟨(λh hh=>by cases hh),List.Pairwise.nil⟩
  hist:=by simp[WmL]
  histE:=λh hh=>by cases hh
  root:=λk hk=>by
   simp only[WmL,List.getElem_replicate];exact{
    phase:=by simp
    tries:=by simp
    live:=λhh=>by simp at hh
    comm:=λhh=>by simp at hh
    undos:=λu hu=>by cases hu
    ul:=by simp
    rg:=by simp
    ord:=by simp}}
end
section
section
variable{N:Nat}{c:Cur}
end
end
section
def stl(x:Rt):Bool:=decide (x.phase=8)||((decide (x.phase=5)&&(decide (x.cm.phase=4)||decide (x.cm.phase=5)))||((decide (x.phase=6)||decide (x.phase=7))&&decide (x.fate≠0)))
def Wtf(x:Rt):Int:=if stl x=true then(if x.phase=5 then x.cm.wv else x.stamp)else 0
structure Stay(x y:Rt):Prop where
 tries:x.tries<=y.tries
 st:stl x=true->stl y=true/\Wtf y=Wtf x/\y.fate=x.fate/\y.regs=x.regs/\y.order=x.order
structure RG(w:Wo)(x:Rt)(q:Wo×Rt):Prop where
 doom:q.2.doomed=false
 fate:q.2.phase=5->q.2.fate≠0
 tries:q.2.tries=x.tries
 mem:q.1.mem=w.mem
 hist:q.1.hist=w.hist
section
variable{w:Wo}{x y z:Rt}{k:Nat}{p:Pg}{n:Int}{o:Opn}
theorem Stay.trans(h:Stay x y)(h':Stay y z):Stay x z:=
 ⟨Int.le_trans h.tries h'.tries,λhs=>by
  obtain⟨a,b,c,d,e⟩:=h.st hs;obtain⟨a',b',c',d',e'⟩:=h'.st a;exact⟨a',b'.trans b,c'.trans c,d'.trans d,e'.trans e⟩⟩
theorem RG.same(hd:x.doomed=false){z:Rt}(h1:z.doomed=false)(h2:z.phase≠5)(h3:z.tries=x.tries):RG w x (w,z):=⟨h1,λh=>WC h h2,h3,rfl,rfl⟩
end
structure WStay(w v:Wo):Prop where
 len:w.roots.length=v.roots.length
 root:∀(i:Nat) (h:i<w.roots.length) (h':i<v.roots.length),Stay w.roots[i] v.roots[i]
 hist:∃l,v.hist=w.hist++l
 clock:w.mem.1<=v.mem.1
section
variable{s:Sc}{w v u:Wo}{n:Int}{a:Ac}{k:Nat}
theorem WStay.trans(h:WStay w v)(h':WStay v u):WStay w u:=by
 obtain⟨l,hl⟩:=h.hist;obtain⟨l',da⟩:=h'.hist;exact⟨h.len.trans h'.len,λi a b=>(h.root i a (by rw[←h.len];exact a)).trans (h'.root i (by rw[←h.len];exact a) b),⟨l++l',by rw[da,hl,Xaw]⟩,Int.le_trans h.clock h'.clock⟩
theorem Wuq(h:WOk s.2.1 n w)(hk:k<w.roots.length):(Wi5 {w with now:=w.now+1} w.roots[k] k (s.2.1.getD k pg0)).1.roots=w.roots:=
 (WoR (w:={w with now:=w.now+1}) (k:=k) (Wop h.progs (by rw[←h.len];exact hk)) ⟨h.mem,h.shelf,h.holds⟩ (h.root k hk) (by have:=h.l4;have:=h.len;omega) h.n0).roots
end
end
section
def lkA(c:Cm)(j:Nat):Prop:=(c.phase=1/\(j:Int)<c.pos)\/c.phase=2\/c.phase=3\/c.phase=4\/(c.phase=5/\c.pos<=j)\/(c.phase=7/\(j:Int)<=c.pos)
def lkd(c:Cm)(i:Int):Prop:=∃(j:Nat) (h:j<c.puts.length),c.puts[j].1=i/\lkA c j
def owner(m:Mm)(i:Int):Int:=(Wan m i).2.2
structure CmLk(m:Mm)(c:Cm):Prop where
 own:∀i,0<=i->i<=7->(owner m i=c.who↔lkd c i)
 ver:c.phase=3\/c.phase=4\/c.phase=5->c.wv<=m.1/\∀i,lkd c i->(Wan m i).2.1<=c.wv
section
variable{m:Mm}{c c':Cm}{i j:Int}{w:Wd}
theorem WlX(hp:c'.puts=c.puts)(h:∀j:Nat,j<c.puts.length->(lkA c' j↔lkA c j)):lkd c' i↔lkd c i:=by
 unfold lkd;rw[hp];exact⟨λ⟨j,hj,a,b⟩=>⟨j,hj,a,(h j hj).1 b⟩,λ⟨j,hj,a,b⟩=>⟨j,hj,a,(h j hj).2 b⟩⟩
theorem CmLk.same(h:CmLk m c)(hp:c'.puts=c.puts)(hw:c'.who=c.who)(hv:c'.wv=c.wv)(ha:∀j:Nat,j<c.puts.length->(lkA c' j↔lkA c j))(eH:c'.phase=3\/c'.phase=4\/c'.phase=5->c.phase=3\/c.phase=4\/c.phase=5):CmLk m c':=
 ⟨λi h0 h7=>by rw[hw,h.own i h0 h7,WlX hp ha],λh3=>by
  obtain⟨a,b⟩:=h.ver (eH h3);rw[hv];exact⟨a,λi hi=>b i ((WlX hp ha).1 hi)⟩⟩
end
end
section
section
variable{w:Wo}{x:Rt}{k:Nat}{p:Pg}{q:Wo×Rt}{o:Opn}{n:Int}
end
section
variable{s:Sc}{w v:Wo}{n:Int}{a:Ac}{k:Nat}{q:Wo×Rt}
end
end
section
variable{N:Nat}{s:Sc}{w:Wo}{n:Int}
theorem Wb6{v:Int}(h0:v≠0)(hv:1<=v/\v<=524288):Zby N v=some ((),(Wa1 v,((v-1)%65536,()))):=by
 unfold Zby;rw[show(v==(0:Int))=false by simpa using h0];have hi:WV .i64 v 1=v-1:=WQ (by unfold I64;omega);have hq:Wom .i64 (v-1) 65536=Wa1 v:=by
  unfold Wom Wa1;rw[Xcx (by omega),WrR (by unfold I64;omega)]
 have hr:Wgi (v-1) 65536=(v-1)%65536:=by unfold Wgi;exact Xcv (by omega)
 simp only[Wc,show inz (65536:Int)=true from rfl,Wa,hi,hq,hr]
theorem We2{k:Int}(hk:0<=k/\k<=7):Zkp N k=ret (WaR k):=by
 unfold Zkp Zdg WaR;have h1:Wj .i64 (Wp9 .i64 k 7) 3=7*k+3:=by
  rw[WgF (by unfold I64;omega),WI (by unfold I64;omega)];omega
 have h2:Wgi (7*k+3) 4=(7*k+3)%4:=by unfold Wgi;exact Xcv (by omega)
 simp only[Wcn,ret,Xd,We hk.1,We hk.2,Xal,Xo,Wc,show inz (4:Int)=true from rfl,Wa,h1,h2]
theorem Wby{l:List Int}(h:SlOk l)(hN:1048576<N):Zdn N l=ret true:=by
 have hl:=h.len;have lp:∀(d j n:Nat) (s:List Bool),j+d=16->d<n->s.length=8->(∀c:Nat,s.getD c false=true->∃i,∃hi:i<l.length,i<j/\l[i]≠0/\Wa1 l[i]=c)->
   Zb5 N l (some ((),(false,()))) (λfW bR cC=>(some ((),(true,())))) n (j:Int) s=ret true:=by
  intro d
  induction d with
  |zero=>
   intro j n s hj hn _ _;obtain⟨n,rfl⟩:∃n',n=n'+1:=⟨n-1,by omega⟩;have:j=l.length:=by omega
   subst this;simp only[Zb5,WO (Xl _),Wc]
  |succ d ih=>
   intro j n s hj hn hs hb;obtain⟨n,rfl⟩:∃n',n=n'+1:=⟨n-1,by omega⟩;have hlt:j<l.length:=by omega
   simp only[Zb5,WF hlt,Wu hlt,Ww hlt,Wm (show j<4611686018427387904 by omega),Wa,Wcn,ret,Xd];by_cases h0:l[j]=0
   .have e1:Zby N l[j]=some ((),((-1:Int),((0:Int),()))):=by rw[h0];rfl
    have e2:(decide ((0:Int)<=l[j])&&decide (l[j]<=524288))=true:=by rw[h0];rfl
    rw[e1,e2];simp only[Xd,Xo,Wc,show decide ((-1:Int)<0)=true from rfl,Wa];exact ih (j+1) n s (by omega) (by omega) hs λc hc=>by
     obtain⟨i,hi,h1,h2,h3⟩:=hb c hc;exact⟨i,hi,by omega,h2,h3⟩
   .have hv:=h.val hlt h0;have hk:=Whw hv;have qP:WaR (Wa1 l[j])=((j/4:Nat):Int):=by
     rcases h.each j hlt with h1|h1
     .exact WC h1 h0
     .exact h1.2
    have hq:Wom .i64 (j:Int) 4=((j/4:Nat):Int):=by
     unfold Wom;rw[Xcx (by omega),WrR (by unfold I64;omega)];omega
    have cJ:s.getD (Xa (Wa1 l[j])) false=false:=by
     rw[Bool.eq_false_iff];intro hc;obtain⟨i,hi,h1,h2,h3⟩:=hb _ hc;exact h.one i j hi hlt h1 h2 h0 (by omega)
    have e2:(decide ((0:Int)<=l[j])&&decide (l[j]<=524288))=true:=by simp;omega
    have e3:decide (Wa1 l[j]<(0:Int))=false:=Wk (by omega);have e4:inb (Wa1 l[j]) s.length=true:=by unfold inb;rw[hs];simp;omega
    rw[Wb6 h0 hv,e2];simp only[Xd,Xo,Wc,e3,e4,Wa,cJ,We2 hk,ret,qP,hq,bne_self_eq_false,show inz (4:Int)=true from rfl];refine ih (j+1) n _ (by omega) (by omega) (by simpa using hs) λc hc=>?_;by_cases hcj:c=(Wa1 l[j]).toNat
    .exact⟨j,hlt,by omega,h0,by omega⟩
    .have:s.getD c false=true:=by
      rw[Xbo,List.getElem?_set_ne (by omega),←Xbo]at hc;exact hc
     obtain⟨i,hi,h1,h2,h3⟩:=hb c this;exact⟨i,hi,by omega,h2,h3⟩
 unfold Zdn;rw[show((Wh l) !=(16:Int))=false by unfold Wh;rw[hl];rfl];have hr:(((decide ((0:Int)<=(8:Int)))&&(decide ((8:Int)<=(8:Int))))&&(Wz (Xa (8:Int))))=true:=by rw[Wt (by omega)];rfl
 rw[hr];simp only[Wc,Wa];refine lp 16 0 N _ (by omega) (by omega) (by simp) λc hc=>?_;rw[Xbo]at hc;by_cases h8:c<8
 .rw[List.getElem?_replicate,Wf (show c<Xa 8 from h8)]at hc;simp at hc
 .rw[List.getElem?_eq_none (by simp;omega)]at hc;simp at hc
theorem Wee{h:Shf}(hs:ShOk h)(hN:1048576<N):Zl5 N h=ret true:=by
 unfold Zl5;rw[Wby hs.slots hN,Wae,Wag.2 hs.cnt];rfl
theorem Wbx{l:List Hd}(h:HOk l)(hl:l.length<=1048576)(hN:1048576<N):Zfq N l=ret true:=by
 have lp:∀(d j n:Nat),j+d=l.length->d<n->Zbj N l (some ((),(false,()))) (λkU aU=>(some ((),(true,())))) n (j:Int)=ret true:=by
  intro d
  induction d with
  |zero=>
   intro j n hj hn;obtain⟨n,rfl⟩:∃n',n=n'+1:=⟨n-1,by omega⟩;have:j=l.length:=by omega
   subst this;simp only[Zbj,WO (Xl _),Wc]
  |succ d ih=>
   intro j n hj hn;obtain⟨n,rfl⟩:∃n',n=n'+1:=⟨n-1,by omega⟩;have hlt:j<l.length:=by omega
   have hv:=h.val l[j] (Xab hlt);have cx:=ih (j+1) n (by omega) (by omega);obtain⟨v1,v2,v3⟩:=Wqe.2 hv;simp only[Zbj,WF hlt,Wu hlt,Ww hlt,Wm (show j<4611686018427387904 by omega),Wa,Wcn,v1,v2,v3,ret,Xd,Xo,Wc,cx];by_cases h0:j=0
   .subst h0;rfl
   .have e1:decide ((j:Int)>0)=true:=by simp;omega
    have e2:WV .i64 (j:Int) 1=((j-1:Nat):Int):=by rw[WQ (by unfold I64;omega)];omega
    have bv:j-1<l.length:=by omega
    have hw:=h.val l[j-1] (Xab bv);have hb:=Xap.1 h.up (j-1) j bv hlt (by omega);simp only[e1,e2,Wa,Wu bv,Ww bv];have oS:=hb.1;unfold cfH at oS;by_cases hs:l[j-1].2.1=l[j].2.1
    .rw[show(l[j-1].2.1==l[j].2.1)=true by simpa using hs]at*;have cW:¬l[j-1].1>=l[j].1:=by
      simp only[Wa]at oS;omega
     obtain⟨m1,m2⟩:=hb.2 hs;rw[Wk (show¬l[j-1].2.1>l[j].2.1 by omega),Wk cW,show(l[j].2.2==2)=false by simpa using m2,show(l[j-1].2.2==2)=false by simpa using m1];rfl
    .have fh:¬l[j-1].2.1>l[j].2.1:=by
      rw[show(l[j-1].2.1==l[j].2.1)=false by simpa using hs]at oS;simp only[Wc]at oS;omega
     rw[Wk fh,show(l[j-1].2.1==l[j].2.1)=false by simpa using hs];rfl
 exact lp l.length 0 N (by omega) (by omega)
end
section
variable{N:Nat}{l:List Int}{k v:Int}{s:Shf}{u:Un}{o:Opn}{r:List Int}
theorem WhO(h:SlOk l)(hk:0<=k)(hN:1048576<N):Zgb N l k=ret (match Wkw l k with|some r=>(r.1:Int)|none=>-1):=by
 unfold Zgb Wkw;have hl:=h.len;have h1:=Wio (l:=l) (p:=WkO k) (N:=N) (lp:=λn j=>Zcz N l k (λaw=>some ((),(aw,()))) (λkU aU=>some ((),((-1:Int),()))) n j) (K0:=λj=>some ((),(j,()))) (K1:=some ((),((-1:Int),()))) (by omega) (by omega)
  (λn j hj=>by
   simp only[Zcz,WF hj,Wu hj,Ww hj,Wm (show j<4611686018427387904 by omega),Wa];unfold WkO;by_cases h0:l[j]=0
   .have e:Zby N l[j]=some ((),((-1:Int),((0:Int),()))):=by unfold Zby;rw[h0];rfl
    have e2:((-1:Int)==k)=false:=by simp;omega
    rw[e];simp only[Xd,e2,Wc,h0];rfl
   .have hv:=h.val hj h0;rw[Wb6 h0 hv];simp only[Xd,We (show k>=0 from hk),Wa,We (show l[j]>0 by omega),Xbv];by_cases e:Wa1 l[j]=k
    .simp[e]
    .rw[show(Wa1 l[j]==k)=false by simpa using e,Wk e])
  (λn=>by simp[Zcz,WO,Xl,Wc])
 rw[h1];cases fnd (WkO k) l 0<;>rfl
theorem Wdh(hk:0<=k/\k<=7):Zdg N k=ret true:=by
 unfold Zdg;rw[Wcn,We hk.1,We hk.2];rfl
theorem WiU(h:SlOk l)(hk:0<=k/\k<=7)(hN:1048576<N):Zqc N l k=some ((),((if Wca l k=0 then 0 else Wca l k-1),(decide (Wca l k≠0),()))):=by
 unfold Zqc Wca;rw[Wby h hN,Wdh hk,WhO h hk.1 hN];simp only[ret,Xd,Xo,Wc];cases hr:Wkw l k with
 |none=>rfl
 |some r=>
  obtain⟨hi,h1,h2,h3,h4,h5⟩:=Wb9 h hr;simp only[Wk (show¬((r.1:Int)<0) by omega),Wc,WB,We hi,Wa,Ww hi,h1];rw[Wb6 (by omega) ⟨h2,h3⟩,Wb (by omega),We (by omega)];simp only[Int.add_sub_cancel];rfl
theorem WqI(hk:0<=k/\k<=7)(hv:0<=v/\v<=65535):Wj .i64 (Wj .i64 1 (Wp9 .i64 k 65536)) v=1+65536*k+v:=by
 have e1:Wp9 .i64 k 65536=k*65536:=WgF (by unfold I64;omega);have e2:Wj .i64 1 (k*65536)=1+k*65536:=WI (by unfold I64;omega);rw[e1,e2,WI (by unfold I64;omega)];omega
theorem Wdd(h:SlOk l)(hk:0<=k/\k<=7)(hv:0<=v/\v<=65535)(hN:1048576<N):Zfr N l k v=some ((),(Wkf l k v,(Wca l k,(true,())))):=by
 have hl:=h.len;unfold Zfr;rw[Wk3 (by omega),Wby h hN,Wdh hk,Wae,WhO h hk.1 hN,We2 hk,WqI hk hv];simp only[ret,Xd,Xo,Wc,Wag.2 hv];unfold Wkf Wca;cases hr:Wkw l k with
 |some r=>
  obtain⟨hi,h1,h2,h3,h4,h5⟩:=Wb9 h hr;simp only[We (show((r.1:Int)>=0) by omega),Wa,WB,We hi,Xk,Ww hi,h1];rw[WJ hi,h1,Wb6 (by omega) ⟨h2,h3⟩,Xd];simp only;rw[WI (a:=1) (by unfold I64;omega),Int.add_comm 1 ((r.2-1)%65536)]
 |none=>
  simp only[show decide ((-1:Int)>=0)=false from rfl,Wc];have hb:=WqD k;obtain⟨hi,h1,h2,h3⟩:=Wik h hk hr;rw[WgF (by unfold I64;omega)];obtain⟨N',rfl⟩:∃N',N=N'+1+1:=⟨N-2,by omega⟩;have gU:4*WaR k=(((4*WaR k).toNat:Nat):Int):=by omega
  have fq:∀n,Zc2 (N'+1+1) l k v l (λax=>some ((),(ax,((0:Int),(true,()))))) (λtI oN=>some ((),(l,((0:Int),(false,()))))) (n+1) (Wed l k:Int)=some ((),(l.set (Wed l k) (1+65536*k+v),((0:Int),(true,())))):=λn=>by
   simp only[Zc2,WF hi,Wu hi,Ww hi,h1,Wa,beq_self_eq_true];rw[Xk,WqI hk hv]
  rcases h3 with h3|⟨h3,h4⟩
  .rw[gU,←h3];exact fq _
  .have hlt:(4*WaR k).toNat<l.length:=by omega
   have hg:Wbt l (4*WaR k) 0=l[(4*WaR k).toNat]:=WJ hlt _;rw[hg]at h4;rw[gU,Zc2];simp only[WF hlt,Wu hlt,Ww hlt,Wa];rw[show(l[(4*WaR k).toNat]==0)=false by simpa using h4,Wm (by omega),←h3];exact fq _
theorem Wey(h:SlOk l)(hk:0<=k/\k<=7)(hN:1048576<N):Zkr N l k=some ((),(Whi l k,(Wca l k,(true,())))):=by
 have hl:=h.len;unfold Zkr;rw[Wk3 (by omega),Wby h hN,Wdh hk,WhO h hk.1 hN];simp only[ret,Xd,Xo,Wc];unfold Whi Wca;cases hr:Wkw l k with
 |none=>rfl
 |some r=>
  obtain⟨hi,h1,h2,h3,h4,h5⟩:=Wb9 h hr;simp only[Wk (show¬((r.1:Int)<0) by omega),Wc,WB,We hi,Wa,Xk];rw[WJ hi,h1,Wb6 (by omega) ⟨h2,h3⟩,Xd];simp only;rw[WI (a:=1) (by unfold I64;omega),Int.add_comm 1 ((r.2-1)%65536)]
theorem WgW(h:ShOk s):Zl6 N s=ret s:=by
 unfold Zl6;rw[Wk3 (by have:=h.slots.len;omega)];rfl
theorem Wkp(hu:UnV u):Zrw N u=ret true:=by
 unfold Zrw;rcases hu with⟨h1,h2,h3⟩|⟨h1,h2,h3⟩|⟨h1,h2,h3⟩
 .rw[h1,Wdh h2,Wae,Wag.2 h3];rfl
 .rw[h1,Wdh h2,h3];rfl
 .rw[h1,h2,Wae,Wag.2 h3];rfl
theorem WiN(h:ShOk s)(hu:UnV u)(hN:1048576<N):Zqe N s u=some ((),(WfB s u,(true,()))):=by
 unfold Zqe WfB;rw[WgW h,Wee h hN,Wkp hu];simp only[ret,Xd,Xo,Wc];have hc:=h.cnt;rcases hu with⟨h1,h2,h3⟩|⟨h1,h2,h3⟩|⟨h1,h2,h3⟩
 .rw[h1,Wdd h.slots h2 h3 hN];rfl
 .rw[h1,Wey h.slots h2 hN];rfl
 .have e1:WV .i64 s.2 u.2.2=s.2-u.2.2:=WQ (by unfold I64;omega);have e2:Wj .i64 (s.2-u.2.2) 65536=s.2-u.2.2+65536:=WI (by unfold I64;omega);have e3:Wgi (s.2-u.2.2+65536) 65536=(s.2-u.2.2+65536)%65536:=Was (by omega);rw[h1,e1,e2,e3];rfl
theorem WhZ{e:Int}(he:0<=e/\e<=65536):Zl7 N k e=ret (Wfg k e):=by
 unfold Zl7 Wfg;by_cases h:e=0
 .rw[h];rfl
 .rw[show(e==0)=false by simpa using h,Wb h,WQ (by unfold I64;omega)];rfl
theorem Wl8(ho:Wdx o=true)(dQ:12<=o.1):Zmm N o=some ((),((WbB o).1,((WbB o).2,()))):=by
 have mz:=WiZ ho;unfold Zmm WbB;rw[Wbz,Wk2 ho dQ];simp only[ret,Xd,bne_self_eq_false,Wc,Wv];have:o.1=12\/o.1=13\/o.1=14\/o.1=15\/o.1=16:=by omega
 rcases this with h|h|h|h|h<;>simp[h]
theorem WiW(h:ShOk s)(hr:Vals 4 r)(ho:Wdx o=true)(dQ:12<=o.1)(hN:1048576<N):
  Zqf N s o r=some ((),((WaM s o r).1,((WaM s o r).2.1,((WaM s o r).2.2,(true,()))))):=by
 have mz:=WiZ ho;have bQ:=hr.len;have hc:=h.cnt;unfold Zqf WaM;rw[WgW h,Wk3 (by omega)];simp only[ret,Xd];rw[Wee h hN,Wc7 (by omega) hN,Wb1.2 hr,Wbz,Wk2 ho dQ];simp only[ret,Xd,Xo,Wc,bne_self_eq_false,Wv,show inz (65536:Int)=true from rfl,Wa,Ws,Xav];by_cases e1:o.1=12
 .obtain⟨a,b,c⟩:=Wp5 ho e1;rw[WaY]at a;rw[Wf e1,Wf e1,WR b bQ,WR c bQ];have hg:=WcR s.1 o.2.1;rw[Wdd h.slots a (hr.get _) hN];simp only[Wa,Xd,WhZ hg,ret];rw[Was (by omega)];rfl
 rw[Wb e1,Wb e1];by_cases e3:o.1=14
 .obtain⟨a,b⟩:=WpV ho e3;rw[WaY]at a;have hg:=WcR s.1 o.2.1;rw[Wf e3,Wb (by omega),Wf e3,WR b bQ,Wey h.slots a hN];simp only[Wa,Xd,WhZ hg,ret];rw[Was (by omega)];rfl
 rw[Wb e3];by_cases e2:o.1=13
 .obtain⟨a,b⟩:=WrI ho e2;rw[WaY]at b;have hg:=WcR s.1 o.2.2.1;rw[Wf e2,Wf e2,WR a bQ,WiU h.slots b hN];simp only[Wa,Xd];by_cases hz:Wca s.1 o.2.2.1=0
  .rw[hz];rfl
  .rw[Wb hz,We hz,WI (by unfold I64;omega),Was (by omega),Int.sub_add_cancel];simp only[Wa,Xcq];rfl
 rw[Wb e2,Wb e2,Wb e3];by_cases e4:o.1=15
 .have a:=Wux ho e4;have hv:=hr.get o.2.1.toNat;rw[Wf e4,Wf e4,WR a bQ];simp only[Wa];rw[WI (by unfold I64;omega),Was (by omega)];rfl
 .rw[Wb e4,Wb e4,WR (Ws3 ho (by omega)) bQ];rfl
end
section
variable{N:Nat}{l:List Hd}{who what mode b:Int}
theorem Wgf(h:HOk l)(hl:l.length<=1048576)(hN:1048576<N):Zid N l who what=ret (WiG l who what):=by
 unfold Zid WiG;rw[Wbx h hl hN];simp only[ret,Xd,Xo,Wc];have h1:=Wy (l:=l) (V:=Unit) (R:=Unit×Kh) (lp:=λn j v=>Zci N l who what (λaB=>some ((),(aB,()))) (λiT dH=>some ((),((0:Int),()))) n j) (n:=N) (by omega)
  (body:=λj x v k=>bif WlO who what x then some ((),(x.2.2,()))else k v) (K:=λ_ v=>some ((),((0:Int),())))
  (λn i v hi=>by
   simp only[Zci,WF hi,Wu hi,Ww hi,Wm (show i<4611686018427387904 by omega),Wa];unfold WlO;by_cases c1:l[i].1=who<;>by_cases c2:l[i].2.1=what<;>simp[Wv,c1,c2])
  (λn v=>by simp[Zci,WO,Xl,Wc]) ()
 refine(h1.trans (Wdq (p:=WlO who what) (E:=λ_ x=>some ((),(x.2.2,()))) l 0 () λj x v k _=>rfl)).trans ?_;cases fnd (WlO who what) l 0<;>rfl
theorem Woh(h:HOk l):WiG l who what>0↔∃x∈l,x.1=who/\x.2.1=what:=by
 unfold WiG;cases hf:fnd (WlO who what) l 0 with
 |none=>
  refine⟨λz=>by simp at z,λ⟨x,hx,e1,e2⟩=>?_⟩;have:=Wgh hf x hx;simp[WlO,e1,e2]at this
 |some r=>
  have g:=Wcl hf;have hm:=Xas g.2.2.2;have hp:WlO who what r.2=true:=g.1;unfold WlO at hp;simp only[Xi,Wi]at hp;exact⟨λ_=>⟨r.2,hm,hp.1,hp.2⟩,λ_=>by have:=(h.val _ hm).2.2;show r.2.2.2>0;omega⟩
def Wep(l:List Hd)(who:Int)(c:Nat):List Int:=((List.range' c (9-c)).filter λw:Nat=>decide (WiG l who (w:Int)>0)).map λw:Nat=>(w:Int)
theorem Wdc(h:HOk l)(hl:l.length<=1048576)(hN:1048576<N):∀(d c n:Nat) (o:List Int),c+d=9->d<n->o.length<=c->
  Zb6 N l who (λtK aU bi=>some ((),(bi,()))) n (c:Int) o=ret (o++Wep l who c)
 |d,c,0,o,_,h2,_=>by omega
 |0,c,n+1,o,hc,_,_=>by
  have:c=9:=by omega
  subst this;simp[Zb6,Wep,ret]
 |d+1,c,n+1,o,hc,hn,ho=>by
  have e1:decide ((c:Int)<9)=true:=by simp;omega
  have er:Wep l who c=(if WiG l who (c:Int)>0 then [(c:Int)]else [])++Wep l who (c+1):=by
   unfold Wep;rw[show 9-c=(9-(c+1))+1 by omega,List.range'_succ];by_cases hp:WiG l who (c:Int)>0
   .rw[Wf hp,Xfq (by simpa using hp)];rfl
   .rw[Wb hp,Xfp (by simpa using hp)];rfl
  rw[Zb6,e1,Wa,Wgf h hl hN];simp only[ret,Xd,WT];rw[er,Wm (show c<4611686018427387904 by omega)];by_cases hp:WiG l who (c:Int)>0
  .rw[Wf hp,Wf hp,Wt (by simp;omega)];simp only[Wa,Xaz];rw[Wdc h hl hN d (c+1) n _ (by omega) (by omega) (by simp;omega)];simp
  .rw[Wb hp,Wb hp,Wdc h hl hN d (c+1) n _ (by omega) (by omega) (by omega)];simp
theorem WiP(h:HOk l)(hl:l.length<=1048576)(hN:1048576<N):Zhb N l who=ret (Wep l who 0):=by
 unfold Zhb;exact Wdc h hl hN 9 0 N [] (by omega) (by omega) (by simp)
theorem Wno(h:HOk l):(Wep l who 0).length=0↔(Wdy l who).length=0:=by
 unfold Wep Wdy;rw[Xx,Xx,Xfr,Xfr,Xfv,Xfv];constructor
 .intro z x hx e;have hv:=h.val x hx;refine z x.2.1.toNat (by rw[List.mem_range'_1];have:=hv.2.1;omega) ?_;rw[Wi,Int.toNat_of_nonneg hv.2.1.1,Woh h];exact⟨x,hx,by simpa using e,rfl⟩
 .intro z w hw e;rw[Wi,Woh h]at e;obtain⟨x,hx,e1,e2⟩:=e;exact z x hx (by simpa using e1)
theorem WkV(h:HOk l)(hm:1<=mode/\mode<=2)(hl:l.length<=1048576)(hN:1048576<N):Zke N l who what mode=ret (Wfe l who what mode):=by
 unfold Zke Wfe;rw[Wbx h hl hN,Wcn];simp only[ret,Xd,Xo,Wc,We hm.1,We hm.2,Xal];have h1:=Wy (l:=l) (V:=List Int) (R:=Unit×(List Int×Unit)) (lp:=λn j v=>Zay N l who what mode (λgy fu cb=>(some ((),(cb,())))) n j v) (n:=N) (by omega)
  (body:=λj x v k=>bif x.2.1==what then(bif x.1 !=who then(bif mode==2 then(bif Wz (v.length+ [x.1].length)then k (Xg v [x.1])else none)else(bif x.2.2==2 then(bif Wz (v.length+ [x.1].length)then k (Xg v [x.1])else none)else k v))else k v)else k v) (K:=λ_ v=>ret v)
  (λn i v hi=>by simp only[Zay,WF hi,Wu hi,Ww hi,Wm (show i<4611686018427387904 by omega),Wa])
  (λn v=>by simp[Zay,WO,Xl,Wc]) []
 refine h1.trans ?_;rw[Wdu (p:=blk who what mode) (f:=(·.1)) l 0 [] (by simp;omega) (λj x v k _ hv=>by
  rw[Wt (by simp;omega)];unfold blk;simp only[Wv,W6,Wa,Xaz];by_cases c1:x.2.1=what<;>by_cases c2:x.1=who<;>by_cases c3:mode=2<;>by_cases c4:x.2.2=2<;>simp[c1,c2,c3,c4])]
 rfl
theorem WiD(h:HOk l)(hl:l.length<=1048576)(hN:1048576<N):Zh2 N l who=ret (WS l who):=by
 unfold Zh2 WS;rw[Wbx h hl hN];simp only[ret,Xd];have h1:=Wy (l:=l) (V:=List Hd) (R:=Unit×(List Hd×Unit)) (lp:=λn j v=>Za9 N l who true (λkU aU bi=>(some ((),(bi,())))) n j v) (n:=N) (by omega)
  (body:=λj x v k=>bif x.1 !=who then(bif Wz (v.length+ [x].length)then k (Xg v [x])else none)else k v) (K:=λ_ v=>ret v)
  (λn i v hi=>by simp only[Za9,WF hi,Wu hi,Ww hi,Wm (show i<4611686018427387904 by omega),Wa,Xo,Wc])
  (λn v=>by simp[Za9,WO,Xl,Wc]) []
 refine h1.trans ?_;rw[Wdu (p:=λh=>!(h.1==who)) (f:=λh=>h) l 0 [] (by simp;omega) (λj x v k _ hv=>by
  rw[Wt (by simp;omega)];rfl)]
 simp[ret]
theorem WoG{e:Hd}{who what b:Int}(he:e=(who,what,b)):∀(r a o:List Hd) (dn:Bool) (n:Nat),l=a++r->r.length<n->l.length<=1000->o.length+2*r.length<=5000->Ris cfH r->(dn=true->∀x∈r,¬(x.1=who/\x.2.1=what))->
  Zk N l who what b (λhD tL qf cg=>
  (bif !hD then
 (bif Wz ((Xb cg)+(Xb ([(who,(what,b))])))then
 (some ((),(Xg cg ([(who,(what,b))]),(true,()))))else none)
 else
 (some ((),(cg,(true,())))))) n dn (a.length:Int) o=some ((),(o++(if dn=true then r else Wbq cfH r e),(true,())))
 |r,a,o,dn,0,_,h2,_,_,_,_=>by omega
 | [],a,o,dn,n+1,hl,_,h1,h3,_,_=>by
  have e1:decide ((a.length:Int)<Wh l)=false:=by rw[hl];simp[Wh]
  rw[Zk,e1,Wc];cases dn
  .simp only[Xbn,Wa];rw[Wt (by simp;omega),he];rfl
  .simp
 |x::r,a,o,dn,n+1,hl,hn,h1,h3,hr,hd=>by
  have hlt:a.length<l.length:=by rw[hl];simp
  have hx:l[a.length]=x:=by simp[hl]
  have da:l=(a++ [x])++r:=by rw[hl];simp
  have bP:Ris cfH r:=(Xt.1 hr).2;have jj:∀y∈r,cfH x y<0:=(Xt.1 hr).1;have ea:(a.length:Int)+1=((a++ [x]).length:Int):=by simp
  have rm:∀v:List Hd,v.length<=6000->∀y:Hd,Wz (v.length+ [y].length)=true:=λv hv y=>Wt (by simp;omega);have ix:Wj .i64 (a.length:Int) 1=((a++ [x]).length:Int):=by rw[WI (by unfold I64;omega),ea]
  rw[Zk];simp only[WF hlt,Wu hlt,Ww hlt,hx,Wa,ix,Xaz];simp only[Xq]at hn h3;cases dn with
  |true=>
   have hk:=hd rfl x (Xj ..);simp only[Xo,Wc];have ih:=WoG he r (a++ [x]) (o++ [x]) true n da (by omega) h1 (by simp;omega) bP λ_ y hy=>hd rfl y (Xf _ hy);rw[rm o (by omega) x];simp only[W6,Wa];have fin:o++ [x]++(if true=true then r else Wbq cfH r e)=o++(if true=true then x::r else Wbq cfH (x::r) e):=by simp
   rw[fin]at ih;by_cases c:x.2.1=what
   .rw[Wf c,Wb (λz=>hk ⟨z,c⟩)];exact ih
   .rw[Wb c];exact ih
  |false=>
   simp only[Xbn,Wa,WT];rw[rm o (by omega) x,rm o (by omega) (who,what,b),rm (o++ [(who,what,b)]) (by simp;omega) x];simp only[W6,Wa];have qZ:=WoG he r (a++ [x]) (o++ [x]) false n da (by omega) h1 (by simp;omega) bP (λz=>by cases z);have key:∀y∈r,¬cfH x e<0->¬(y.1=who/\y.2.1=what):=λy hy hne z=>by
    have:=jj y hy;have h2:cfH x y<0↔cfH x e<0:=Wiq rfl rfl (by rw[he];exact z.1) (by rw[he];exact z.2);exact hne (h2.1 this)
   have lt_iff:cfH x e<0↔¬(x.2.1>what)/\¬(x.2.1=what/\x.1>=who):=by
    rw[he,Wa3];simp only;omega
   have gt_iff:¬cfH x e<0->(cfH e x<0↔¬(x.1=who/\x.2.1=what)):=by
    rw[he,Wa3,Wa3];simp only;omega
   have q0:¬cfH x e<0->Zk N l who what b _ n true ((a++ [x]).length:Int) (if x.1=who/\x.2.1=what then o++ [(who,what,b)]else o++ [(who,what,b)]++ [x])=some ((),(o++(if false=true then x::r else Wbq cfH (x::r) e),(true,()))):=λhne=>by
    rw[WoG he r (a++ [x]) _ true n da (by omega) h1 (by split<;>(simp;omega)) bP λ_ y hy=>key y hy hne];have ep:Wbq cfH (x::r) e=if x.1=who/\x.2.1=what then e::r else e::x::r:=by
     rw[Wbq,Wb hne];by_cases c:x.1=who/\x.2.1=what
     .rw[Wf c,Wb (λz=>(gt_iff hne).1 z c)]
     .rw[Wb c,Wf ((gt_iff hne).2 c)]
    simp only[reduceIte,Xbc];rw[ep,he];by_cases c:x.1=who/\x.2.1=what
    .rw[Wf c,Wf c];simp
    .rw[Wb c,Wb c];simp
   by_cases fU:cfH x e<0
   .obtain⟨c1,c2⟩:=lt_iff.1 fU;have fin:o++ [x]++(if false=true then r else Wbq cfH r e)=o++(if false=true then x::r else Wbq cfH (x::r) e):=by
     rw[Wb (by simp),Wb (by simp),Wbq,Wf fU];simp
    rw[fin]at qZ;rw[Wb c1];simp only[Wv];by_cases c:x.2.1=what
    .rw[Wf c,Wb (λz=>c2 ⟨c,z⟩),Wf c,Wb (λz=>c2 ⟨c,by omega⟩)];exact qZ
    .rw[Wb c,Wb c];exact qZ
   .have hh:=q0 fU;by_cases c1:x.2.1>what
    .rw[Wb (by omega)]at hh;rw[Wf c1,Wb (by omega)];exact hh
    .rw[Wb c1];have c2:x.2.1=what/\x.1>=who:=by
      apply Classical.byContradiction;intro z;exact fU (lt_iff.2 ⟨c1,z⟩)
     simp only[Wv];rw[Wf c2.1,Wf c2.2,Wf c2.1];by_cases c3:x.1=who
     .rw[Wf ⟨c3,c2.1⟩]at hh;rw[Wf c3];exact hh
     .rw[Wb (λz=>c3 z.1)]at hh;rw[Wb c3];exact hh
theorem Wi4(h:HOk l)(hw:1<=who/\who<=9)(ht:0<=what/\what<=8)(hm:1<=mode/\mode<=2)(hl:l.length<=1000)(hN:1048576<N):
  Zi1 N l who what mode=some ((),((WcI l who what mode).getD l,((WcI l who what mode).isSome,()))):=by
 unfold Zi1 WcI;rw[Wbx h (by omega) hN,Wcn,Wcn,Wcn,WkV h hm (by omega) hN];simp only[ret,Xd,Xo,Wc,We hw.1,We hw.2,We ht.1,We ht.2,We hm.1,We hm.2,Xal,WT];by_cases hb:Wfe l who what mode= []
 .rw[Wb (by rw[hb];simp[Wh]),Wf hb,Wgf h (by omega) hN];simp only[ret,Xd];have em:WqR mode (WiG l who what)=WmV (WiG l who what) mode:=by unfold WqR WmV;split<;>split<;>omega
  rw[em];have:=WoG (N:=N) (l:=l) (e:=(who,what,WmV (WiG l who what) mode)) rfl l [] [] false N (by simp) (by omega) hl (by simp;omega) h.ris (λz=>by cases z);refine this.trans ?_;rfl
 .rw[Wf (by
   have:=List.length_pos_iff.2 hb;unfold Wh;omega),Wb hb,Wt (by simp;omega)]
  rfl
end
section
variable{N:Nat}{c:Cm}{m:Mm}
theorem WcS(hm:WY m=true):Zdd N m=ret m:=by
 have:=(WE hm).1;simp_all [Zdd,Wt]
theorem Wg4(h:CmOk c):Zl8 N c.e=ret c.e:=by
 have h1:=h.plen;have h2:=h.rlen;obtain⟨c0,c1,c2,c3,c4,c5,c6⟩:=cmP c;unfold Zl8;simp only[c5,c6,Xbq,Xat,Wt (show c.puts.length<=1073741824 by omega),Wt (show c.reads.length<=1073741824 by omega),Wa];rfl
theorem WfJ{l:List Int}(hp:l.Pairwise (· < ·))(hc:∀x∈l,0<=x/\x<=7)(hl:l.length<=8){X Y:Option Ke}:∀(d i n:Nat),i+d=l.length->d<n->Zbm N l X (λ_ _=>Y) n (i:Int)=Y
 |d,i,0,_,h=>by omega
 |0,i,n+1,h,_=>by
  rw[Zbm,WO (by omega),Wc]
 |d+1,i,n+1,h,hn=>by
  have hi:i<l.length:=by omega
  have ih:=WfJ hp hc hl (X:=X) (Y:=Y) d (i+1) n (by omega) (by omega);have ut:Wam l[i]=true:=Wdj (hc _ (Xab hi));rw[Zbm];simp only[WF hi,Wu hi,Ww hi,Wm (show i<4611686018427387904 by omega),Wa,Wbr,ut,ret,Xd,Xo,Wc,ih];by_cases h0:i=0
  .subst h0;rfl
  .obtain⟨j,rfl⟩:∃j,i=j+1:=⟨i-1,by omega⟩;have hj:j<l.length:=by omega
   have e:WV .i64 ((j+1:Nat):Int) 1=(j:Int):=by rw[WQ (by unfold I64;omega)];omega
   have hlt:=(Xap.1 hp) j (j+1) hj hi (by omega);rw[e,Wu hj,Ww hj,Wk (show¬l[j+1]<=l[j] by omega)];simp
theorem WiC(hp:c.puts.Pairwise λa b=>a.1<b.1)(hl:c.puts.length<=8){X Y:Option Ke}:∀(d i n:Nat),1<=i->c.puts.length<=i+d->d<n->Zeh N c.e X (λ_ _=>Y) n (i:Int)=Y
 |d,i,0,_,_,h=>by omega
 |d,i,n+1,h1,h,hn=>by
  obtain⟨c0,c1,c2,c3,c4,c5,c6⟩:=cmP c;rw[Zeh];simp only[c5];by_cases hi:i<c.puts.length
  .obtain⟨d,rfl⟩:∃d',d=d'+1:=⟨d-1,by omega⟩;have ih:=WiC hp hl (X:=X) (Y:=Y) d (i+1) n (by omega) (by omega) (by omega);obtain⟨j,rfl⟩:∃j,i=j+1:=⟨i-1,by omega⟩;have hj:j<c.puts.length:=by omega
   have e:WV .i64 ((j+1:Nat):Int) 1=(j:Int):=by rw[WQ (by unfold I64;omega)];omega
   have hlt:=(Xap.1 hp) j (j+1) hj hi (by omega);simp only[WF hi,Wu hi,Ww hi,e,Wu hj,Ww hj,Wa,Wk (show¬c.puts[j+1].1<=c.puts[j].1 by omega),Wc,Wm (show j+1<4611686018427387904 by omega)];exact ih
  .rw[show decide ((i:Int)<Wh c.puts)=false by unfold Wh;simp;omega,Wc]
theorem Wp0:Zry N c.e=ret c.steps:=by
 obtain⟨c0,c1,c2,c3,c4,c5,c6⟩:=cmP c;unfold Zry Cm.steps;simp only[c2,c5,c6,Wv]
 repeat' split
 all_goals first
  |rfl
  |omega
theorem WhI(h:CmOk c)(hN:1048576<N):Zgd N c.e=ret true:=by
 obtain⟨c0,c1,c2,c3,c4,c5,c6⟩:=cmP c;have h1:=h.plen;have h2:=h.rlen;have hs:c.steps<=8:=by unfold Cm.steps;split<;>(try split)<;>omega
 have bT:=h.pos;unfold Zgd;have hR:Zjl N c.reads=ret true:=WfJ h.rup h.rd h2 c.reads.length 0 N (by omega) (by omega);have jM:Wad c.puts=true:=by
  unfold Wad;rw[Whx.2 h.rows,We (by omega)];rfl
 simp only[c0,c1,c2,c3,c4,c5,c6,Wcn,ret,Xd,We h.who.1,We h.who.2,We h.rv.1,We h.rv.2,We h.wv.1,We h.wv.2,We h.phase.1,We h.phase.2,Xal,Xo,Wc,Wc6 (show c.puts.length<=1048576 by omega) hN,jM,hR,Wp0];refine(WiC h.pup h1 8 1 N (by omega) (by omega) (by omega)).trans ?_;rw[WQ (by unfold I64;omega),We bT.1,We (by omega)];rfl
theorem WcP(h:CmOk c){n:Int}(hn:0<=n/\n<=8):Zaz N c.e n=ret (Wd2 c n).e:=by
 unfold Zaz Wd2;by_cases e:n=0
 .rw[e];rfl
 .rw[show(n==0)=false by simpa using e,Wb e,Wc,WQ (by unfold I64;omega)];rfl
theorem Wmj(h:CmOk c)(hN:1048576<N):∃b,Zks N c.e=some ((),((Wa6 c).e,(b,()))):=by
 obtain⟨c0,c1,c2,c3,c4,c5,c6⟩:=cmP c;have eE:=h.plen;have bT:=h.pos;have nZ:c.steps<=8:=by have:=h.plen;have:=h.rlen;unfold Cm.steps;split<;>(try split)<;>omega
 have eH:=h.phase;unfold Zks Wa6;rw[Wg4 h,WhI h hN];simp only[ret,Xd,Xo,Wc,WT,Wv,c2,c3,c5];have b1:=WcP (N:=N) h (show 0<=c.pos/\c.pos<=8 by omega);have b2:=WcP (N:=N) h (show 0<=Wh c.puts/\Wh c.puts<=8 by unfold Wh;omega);rw[b1,b2];by_cases h3:c.phase>3
 .rw[Wf h3,Wb (by omega),Wb (by omega)];exact⟨_,rfl⟩
 .rw[Wb h3];by_cases h1:c.phase=1
  .rw[Wf h1,Wf h1];exact⟨_,rfl⟩
  .rw[Wb h1,Wb h1,Wf (by omega)];exact⟨_,rfl⟩
theorem Wi1{l:List Rw}(hl:l.length<=1048576)(hN:1048576<N):Zi0 N l=ret ((Wcq l).map (·.1)):=by
 unfold Zi0;rw[WdH hl hN];simp only[ret,Xd];have h8:=WcX l;have h1:=Wy (l:=Wcq l) (V:=List Int) (R:=Unit×(List Int×Unit)) (lp:=λn j v=>Zc3 N (Wcq l) (λi9 ar an=>(some ((),(an,())))) n j v) (n:=N) (by omega)
  (body:=λj x v k=>bif Wz (v.length+ [x.1].length)then k (Xg v [x.1])else none) (K:=λ_ v=>ret v)
  (λn i v hi=>by simp only[Zc3,WF hi,Wu hi,Ww hi,Wm (show i<4611686018427387904 by omega),Wa])
  (λn v=>by simp[Zc3,WO,Xl,Wc]) []
 refine h1.trans ?_;rw[Wdu (p:=λ_=>true) (f:=(·.1)) (Wcq l) 0 [] (by simp;omega) (λj x v k _ hv=>by rw[Wt (by simp;omega)];rfl),show(Wcq l).filter (λ_=>true)=Wcq l from List.filter_eq_self.2 λ_ _=>rfl];rfl
theorem Wpk{who rv:Int}{puts reads:List Rw}(hw:1<=who/\who<=99)(hr:0<=rv/\rv<=1000000)(hp:Wad puts=true)(hd:Wad reads=true)(hN:1048576<N):Zfa N who rv puts reads=some ((),((Wfs who rv puts reads).e,(true,()))):=by
 have l1:puts.length<=300:=by unfold Wad at hp;simp at hp;exact hp.1
 have l2:reads.length<=300:=by unfold Wad at hd;simp at hd;exact hd.1
 unfold Zfa Wfs;simp only[Wcn,ret,Xd,We hw.1,We hw.2,We hr.1,We hr.2,Xal,Xo,Wc,Wc6 (show puts.length<=1048576 by omega) hN,Wc6 (show reads.length<=1048576 by omega) hN,hp,hd,WdH (show puts.length<=1048576 by omega) hN,Wi1 (show reads.length<=1048576 by omega) hN,Wv];by_cases e:(Wcq puts).length=0
 .rw[Wf (by unfold Wh;omega),Wf e];rfl
 .rw[Wb (by unfold Wh;omega),Wb e];rfl
theorem WnT(hm:WY m=true){i who:Int}(hi:0<=i/\i<=7)(hw:1<=who/\who<=99)(hN:1048576<N):
  Zro N m i who=some ((),((if(Wan m i).2.2=0 then WrW m i who else m),(decide ((Wan m i).2.2=0),()))):=by
 unfold Zro;rw[WcS hm,WbA (by grind [WE]) hN,hm];simp only[ret,Xd,Xo,Wc,Wbr,Wdj hi,Wcn,We hw.1,We hw.2,Xal,WbP hm hi,Wa,Wc8,W6];by_cases h:(Wan m i).2.2=0
 .rw[Wf h,Wf h,We h];rfl
 simp_all
theorem WhR(hm:WY m=true){i who:Int}(hi:0<=i/\i<=7)(hw:1<=who/\who<=99)(hN:1048576<N):Zn4 N m i who=ret ((Wan m i).2.2==who):=by
 unfold Zn4;rw[WbA (by grind [WE]) hN,hm];simp only[ret,Xd,Wbr,Wdj hi,Wcn,We hw.1,We hw.2,Xal,WbP hm hi,Wa,Wc8]
theorem Wlr(hm:WY m=true){i who v:Int}(hi:0<=i/\i<=7)(hw:1<=who/\who<=99)(hv:0<=v/\v<=65535)(hN:1048576<N):
  ∃b,Zpp N m i who v=some ((),(Wh0 m i who v,(b,()))):=by
 unfold Zpp Wh0;rw[WcS hm,WhR hm hi hw hN];simp only[ret,Xd,Wae,Wag.2 hv,Xo,Wc,WbP hm hi,Wa,Wc8];by_cases h:(Wan m i).2.2=who
 .rw[Wf h,beq_iff_eq.2 h];exact⟨true,rfl⟩
 .rw[Wb h,beq_eq_false_iff_ne.2 h];exact⟨false,rfl⟩
theorem WfK(hm:WY m=true){i who ver:Int}(hi:0<=i/\i<=7)(hw:1<=who/\who<=99)(hN:1048576<N):
  ∃b,Zif N m i who ver=some ((),(Weu m i who ver,(b,()))):=by
 have h8:=(WE hm).1;unfold Zif Weu;rw[WcS hm,WhR hm hi hw hN];simp only[ret,Xd,Wcn,WbP hm hi,Wa,Wc8,Xav,Ws];by_cases h:(Wan m i).2.2=who
 .rw[beq_iff_eq.2 h];simp only[Xo,Wc];by_cases h2:(Wan m i).2.1<=ver/\ver<=m.1
  .rw[Wf ⟨h,h2.1,h2.2⟩,We h2.1,We h2.2];refine⟨true,?_⟩;have:i.toNat<m.2.length:=by omega
   simp only[Xal,Xo,Wc,Wgd this,Xcq];rfl
  .rw[Wb (by omega)];refine⟨false,?_⟩
   grind
 .rw[Wb (λz=>h z.1),beq_eq_false_iff_ne.2 h];exact⟨false,rfl⟩
theorem WmH{ph:Int}:Zc6 N c.e ph=ret (Wk7 c ph).e:=by
 obtain⟨c0,c1,c2,c3,c4,c5,c6⟩:=cmP c;unfold Zc6 Wk7 Wk9;simp only[Wv,c5,c6,Wh];by_cases h3:ph=3
 .subst h3;by_cases h1:c.reads.length=0<;>by_cases h2:c.puts.length=0<;>simp[h1,h2]<;>rfl
 .by_cases h4:ph=4
  .subst h4;by_cases h2:c.puts.length=0<;>simp[h2]<;>rfl
  .simp[h3,h4];rfl
theorem WnI(h:CmOk c)(hm:WY m=true)(hN:1048576<N):Zlj N m c.e=some ((),((Wdo m c).1,((Wdo m c).2.e,()))):=by
 obtain⟨c0,c1,c2,c3,c4,c5,c6⟩:=cmP c;have bT:=h.pos;have eE:=h.plen;have hw:=h.who;have nZ:c.steps<=8:=by have:=h.plen;have:=h.rlen;unfold Cm.steps;split<;>(try split)<;>omega
 have b1:=WcP (N:=N) h (show 0<=c.pos/\c.pos<=8 by omega);have b2:=WcP (N:=N) h (show 0<=Wh c.puts/\Wh c.puts<=8 by unfold Wh;omega);have ei:Wj .i64 c.pos 1=c.pos+1:=WI (by unfold I64;omega);have nx:∀(M:Mm) (ph n:Int),n=c.steps->(bif (c.pos+1)==n then((Zc6 N (c.who,(c.rv,(c.phase,(c.pos+1,c.e.2.2.2.2)))) ph).bind λo=>(some ((),(M,(o.2.1,()))):Option (Unit×(Mm×(_×Unit)))))else some ((),(M,((c.who,(c.rv,(c.phase,(c.pos+1,c.e.2.2.2.2)))),()))))=some ((),(M,((Weh c ph).e,()))):=λM ph n hn=>by
  unfold Weh;rw[show(c.who,(c.rv,(c.phase,(c.pos+1,c.e.2.2.2.2))))=Cm.e {c with pos:=c.pos+1}from rfl,WmH];simp only[ret,Xd,Wv];by_cases e:c.pos+1=c.steps
  .rw[Wf (by omega),Wf e];rfl
  .rw[Wb (by omega),Wb e]
 unfold Zlj Wdo;rw[WcS hm,Wg4 h];simp only[ret,Xd];rw[WbA (by grind [WE]) hN,WhI h hN,hm];simp only[ret,Xd,Xo,Wc,c0,c1,c2,c3,c4,c5,c6,Waj,b1,b2,ei];by_cases h1:c.phase=1
 .rw[beq_iff_eq.2 h1,Wa,Wf h1];obtain⟨j,hj,e1,e2,e3,e4⟩:=h.put (by omega);have be:c.steps=Wh c.puts:=by unfold Cm.steps Wh;rw[Wf (.inl h1)]
  rw[show Xc c.puts (Xa c.pos) ((0:Int),(0:Int))=c.puts[j]from e2,e2,show inb c.pos c.puts.length=true by rw[e1,WB,We hj],WnT hm e3 hw hN];simp only[Xd,Wa];by_cases hf:(Wan m c.puts[j].1).2.2=0
  .rw[Wf hf,Wf hf,We hf];exact nx _ 2 _ be.symm
  .rw[Wb hf,Wb hf,Wk hf];rfl
 rw[beq_eq_false_iff_ne.2 h1,Wc,Wb h1];by_cases h2:c.phase=2
 .rw[beq_iff_eq.2 h2,Wa,Wf h2,WlM hm hN];simp only[Xd,Wv];by_cases ht:(tick m).2=0
  .have h0:=(WE hm).2.1;have:(tick m).1=m:=by
    unfold tick at ht⊢;by_cases hc:m.1<1000000
    .rw[Wf hc]at ht;simp only at ht;omega
    .rw[Wb hc]
   rw[Wf ht,Wf ht,this];rfl
  .rw[Wb ht,Wb ht];rw[show(c.who,(c.rv,(c.phase,(c.pos,((tick m).2,c.e.2.2.2.2.2)))))=Cm.e {c with wv:=(tick m).2}from rfl,WmH];rfl
 rw[beq_eq_false_iff_ne.2 h2,Wc,Wb h2];by_cases h3:c.phase=3
 .rw[beq_iff_eq.2 h3,Wa,Wf h3];obtain⟨j,hj,e1,e2,e3,e4⟩:=h.read h3;have be:c.steps=Wh c.reads:=by unfold Cm.steps Wh;rw[Wb (by omega),Wf h3]
  rw[show Xc c.reads (Xa c.pos) (0:Int)=c.reads[j]from e2,e2,show inb c.pos c.reads.length=true by rw[e1,WB,We hj],WbP hm ⟨e3,e4⟩];simp only[Wa,W6,WT];rw[show Xc m.2 (Xa c.reads[j]) ((0:Int),((0:Int),(0:Int)))=Wan m c.reads[j]from rfl];have sc:=nx m 4 _ be.symm;by_cases a:(Wan m c.reads[j]).2.2=0
  .rw[Wf a];by_cases b:(Wan m c.reads[j]).2.1>c.rv
   .rw[Wf b,Wf (.inr b)];rfl
   .rw[Wb b,Wb (λz=>z.elim (λz=>z.1 a) b)];exact sc
  .rw[Wb a];by_cases a':(Wan m c.reads[j]).2.2=c.who
   .rw[Wf a'];by_cases b:(Wan m c.reads[j]).2.1>c.rv
    .rw[Wf b,Wf (.inr b)];rfl
    .rw[Wb b,Wb (λz=>z.elim (λz=>z.2 a') b)];exact sc
   .rw[Wb a',Wf (.inl ⟨a,a'⟩)];rfl
 rw[beq_eq_false_iff_ne.2 h3,Wc,Wb h3];by_cases h4:c.phase=4
 .rw[beq_iff_eq.2 h4,Wa,Wf h4];obtain⟨j,hj,e1,e2,e3,e4⟩:=h.put (by omega);have be:c.steps=Wh c.puts:=by unfold Cm.steps Wh;rw[Wf (by omega)]
  obtain⟨b,hb⟩:=Wlr hm e3 hw e4 hN;rw[show Xc c.puts (Xa c.pos) ((0:Int),(0:Int))=c.puts[j]from e2,e2,show inb c.pos c.puts.length=true by rw[e1,WB,We hj],hb];exact nx _ 5 _ be.symm
 rw[beq_eq_false_iff_ne.2 h4,Wc,Wb h4];by_cases h5:c.phase=5
 .rw[beq_iff_eq.2 h5,Wa,Wf h5];obtain⟨j,hj,e1,e2,e3,e4⟩:=h.put (by omega);have be:c.steps=Wh c.puts:=by unfold Cm.steps Wh;rw[Wf (by omega)]
  obtain⟨b,hb⟩:=WfK (ver:=c.wv) hm e3 hw hN;rw[show Xc c.puts (Xa c.pos) ((0:Int),(0:Int))=c.puts[j]from e2,e2,show inb c.pos c.puts.length=true by rw[e1,WB,We hj],hb];simp only[Xd,Wa,Wv];unfold Weh;by_cases e:c.pos+1=c.steps
  .rw[Wf (by omega),Wf e];unfold Wk7;rw[show Wk9 c 6=6 by unfold Wk9;rw[Wb (by omega),Wb (by omega)]];rfl
  .rw[Wb (by omega),Wb e];rfl
 rw[beq_eq_false_iff_ne.2 h5,Wc,Wb h5];by_cases h7:c.phase=7
 .rw[beq_iff_eq.2 h7,Wa,Wf h7];obtain⟨j,hj,e1,e2,e3,e4⟩:=h.put (by omega);obtain⟨b,hb⟩:=WfK (ver:=(Wan m c.puts[j].1).2.1) hm e3 hw hN;rw[show Xc c.puts (Xa c.pos) ((0:Int),(0:Int))=c.puts[j]from e2,e2,show inb c.pos c.puts.length=true by rw[e1,WB,We hj],WbP hm e3,show Xc m.2 (Xa c.puts[j].1) ((0:Int),((0:Int),(0:Int)))=Wan m c.puts[j].1 from rfl,hb];rfl
 .rw[beq_eq_false_iff_ne.2 h7,Wc,Wb h7]
end
section
variable{N:Nat}{w:Wo}{x:Rt}{k:Nat}{p:Pg}{n:Int}{o:Opn}
theorem Wgo:Zbe N x.e=ret (Wix x).e:=rfl
theorem Wj1(hs:0<=x.spare/\x.spare<=2):Zfs N x.e=ret (Wcf x).e:=by
 obtain⟨r0,r1,r2,r3,r4,r5,r6,r7,r8,eB,dR,dc,dh,dC,dD,fa,fb,eC,eD,fe,ff,fg⟩:=rtP x;unfold Zfs Wcf;simp only[Wv,WT,dC,r2,Wh,Wgo,ret,Xd];by_cases h1:x.marks.length=0
 .rw[Wf (by omega),Wf (.inl h1)]
 .rw[Wb (by omega)];by_cases h2:x.spare=2
  .rw[Wf (by omega),Wf (.inr h2)]
  .rw[Wb (by omega),Wb (by omega),WI (by unfold I64;omega)];rfl
theorem WkP(hz:x.undos.length≠0)(hl:x.undos.length<=1000)(hu:∀u∈x.undos,UnV u)(hs:ShOk w.shelf)(hN:1048576<N):
  Zft N w.e x.e=some ((),((WfE w x).1.e,((WfE w x).2.e,()))):=by
 obtain⟨a,b,c,d⟩:=Wbd hz hl ((0,0,0):Un);have hmem:WfO x.undos ((0,0,0):Un)∈x.undos:=by
  unfold WfO;rw[WJ (show x.undos.length-1<x.undos.length by omega)];exact Xab _
 unfold Zft WfE;simp only[Ws,Waj];rw[show P16 x.e=x.undos from rfl,a,b,show w.e.2.2.2.1=w.shelf from rfl,WiN hs (hu _ hmem) hN,c,d];simp only[Wa,Xd];rw[Wt (by simp;omega)];rfl
theorem Wqw(fY:k<=1000):Zie N w.e x.e (k:Int)=some ((),((WlC w x k).1.e,((WlC w x k).2.e,()))):=by
 unfold Zie WlC;rw[Wai (by omega),show w.e.2.1=w.token from rfl];simp only[Wv];by_cases h:w.token=(k:Int)+1
 .rw[Wf h];simp only[Wf h];rfl
 .rw[Wb h];simp only[Wb h];rfl
theorem Wmu(fY:k<=8)(hh:HOk w.holds)(jX:0<=x.rv/\x.rv<=1000000)(hr:Wad x.reads=true)(hw:Wad x.writes=true){out:Int}(hN:1048576<N):
  Zkq N w.e x.e (k:Int) out=some ((),((WfT w x k out).1.e,((WfT w x k out).2.e,()))):=by
 obtain⟨r0,r1,r2,r3,r4,r5,r6,r7,r8,eB,dR,dc,dh,dC,dD,fa,fb,eC,eD,fe,ff,fg⟩:=rtP x;have mh:=WeP hh;have mL:Zie N w.e (S8 x.rv (S7 out x.e)) (k:Int)=_:=Wqw (w:=w) (x:={x with fate:=out,stamp:=x.rv}) (k:=k) (by omega);have n7:∀rows,Wad rows=true->Zfa N ((k:Int)+1) x.rv rows x.reads=some ((),((Wfs ((k:Int)+1) x.rv rows x.reads).e,(true,()))):=λrows hY=>Wpk (by omega) jX hY hr hN;have bu:Zfa N ((k:Int)+1) x.rv ([]:List Kc) x.reads=some ((),((Wfs ((k:Int)+1) x.rv [] x.reads).e,(true,()))):=n7 [] rfl;have oT:=Wno (who:=(k:Int)+1) hh;have qT:∀{α:Type} (a b:α),(bif ((0:Int)==(0:Int))then a else b)=a:=λ_ _=>rfl;unfold Zkq WfT;simp only[Ws,qT];rw[Wai (by omega),show P4 w.e=w.holds from rfl];simp only[Wv,r4,dc,dh,WiP (who:=(k:Int)+1) hh (by omega) hN,ret,Xd,Wh];rw[bu,n7 _ hw,mL];simp only[Xd];by_cases ho:out=2
 .rw[Wf ho,Wf ho];by_cases hz:(Wdy w.holds ((k:Int)+1)).length=0
  .rw[Wf (by have:=oT.2 hz;omega),Wf ⟨rfl,hz⟩]
  .rw[Wb (λz=>hz (oT.1 (by omega))),Wb (λh=>hz h.2)];rfl
 .rw[Wb ho,Wb ho];by_cases hy:x.writes.length=0
  .rw[Wf (by omega)];by_cases hz:(Wdy w.holds ((k:Int)+1)).length=0
   .rw[Wf (by have:=oT.2 hz;omega),Wf ⟨hy,hz⟩]
   .rw[Wb (λz=>hz (oT.1 (by omega))),Wb (λh=>hz h.2)];rfl
  .rw[Wb (by omega),Wb (λh=>hy h.1)];rfl
theorem Wrg(fY:k<=8)(hc:CC p.1)(hx:RLive p n x)(ho:Wdx o=true)(dQ:12<=o.1)(hs:ShOk w.shelf)(hh:HOk w.holds)(hN:1048576<N):
  Zoq N w.e x.e (k:Int) o=some ((),((Wgp w x k o).1.e,((Wgp w x k o).2.e,()))):=by
 obtain⟨r0,r1,r2,r3,r4,r5,r6,r7,r8,eB,dR,dc,dh,dC,dD,fa,fb,eC,eD,fe,ff,fg⟩:=rtP x;obtain⟨z1,z2,z3,z4,z5,z6⟩:=hx.sz hc;have mh:=WeP hh;have bp:=hx.pc;have hcl:=hc.len;have ld:(0<=(WbB o).1/\(WbB o).1<=8)/\1<=(WbB o).2/\(WbB o).2<=2:=by
  grind [WbB,WiZ,Wem,Wp5,WpV,WaY,WrI]
 unfold Zoq Wgp;simp only[Ws,Waj];rw[Wai (by omega),Wl8 ho dQ,show P4 w.e=w.holds from rfl,show w.e.2.2.2.1=w.shelf from rfl];simp only[Xd,Wi4 hh (show 1<=(k:Int)+1/\(k:Int)+1<=9 by omega) ld.1 ld.2 (by omega) hN,r3,dR,dD,Wj1 hx.spare];cases ha:WcI w.holds ((k:Int)+1) (WbB o).1 (WbB o).2 with
 |none=>rfl
 |some cT=>
  simp only[Option.isSome_some,Xo,Wc,Option.getD_some,WiW hs hx.regs ho dQ hN,Xd,W6];rw[Wai (by omega),Wt (by simp;omega),Wt (by simp;omega)];by_cases hz:(WaM w.shelf o x.regs).2.2.1=0
  .rw[Wf hz];simp only[Wf hz];rfl
  .rw[Wb hz];simp only[Wb hz];rfl
theorem Wsz(hc:CC p.1)(hx:RLive p n x)(hm:WY w.mem=true)(h5:o.1=5)(ho:Wdx o=true)(hN:1048576<N):
  Zdo N w.e x.e o=some ((w.e,()),((Wm5 w x o).e,())):=by
 obtain⟨r0,r1,r2,r3,r4,r5,r6,r7,r8,eB,dR,dc,dh,dC,dD,fa,fb,eC,eD,fe,ff,fg⟩:=rtP x;obtain⟨z1,z2,z3,z4,z5,z6⟩:=hx.sz hc;obtain⟨hA,hB⟩:=Wt7 ho h5;have hB':0<=o.2.2.1/\o.2.2.1<=7:=by unfold Wam at hB;simpa using hB
 have bQ:=hx.regs.len;have bp:=hx.pc;have hcl:=hc.len;have fV:=hx.spare;unfold Zdo Wm5;simp only[Ws,Waj];rw[show w.e.2.2.1=w.mem from rfl];simp only[r3,r4,dR,dc,dh,fa,fb];rw[Wex (by omega) hN,Wcs (by omega),Wai (by omega)];simp only[ret,Xd];rw[WR hA bQ];cases hl:WbY x.writes o.2.2.1 with
 |some v=>rfl
 |none=>
  have fH:=WmY hx.pb hB';simp only[opI,Xd,Xbn,Wa,Xaz,Xaq,Xbq,Xat];rw[Wt (show x.reads.length<=1073741824 by omega)];cases hb:x.busy with
  |false=>
   rw[hb]at fH;simp only[Xbc,Wal]at fH;have fI:∀q:Pb,S19 q (S18 true x.e)=Rt.e {x with busy:=true,pb:=q}:=λq=>rfl;simp only[Xbn,Wa,Xbc,Wal,WeF hm fH hN,ret,Xd,fI,Wj1 (x:={x with busy:=true,pb:=_}) fV,Wv,W6];generalize WaD w.mem x.rv (o.2.2.1,0,0,0)=q;by_cases h4:q.2.1=4
   .rw[Wf h4,Wf h4]
   .rw[Wb h4,Wb h4];by_cases h3:q.2.1=3
    .rw[Wf h3,Wf h3,Wt (by simp;omega)];rfl
    .rw[Wb h3,Wb h3]
  |true=>
   have bO:∀q:Pb,S19 q x.e=Rt.e {x with busy:=true,pb:=q}:=λq=>by
    have:S19 q x.e=Rt.e {x with pb:=q}:=rfl;rw[this]
    conv=>lhs;rw[show({x with pb:=q}:Rt)={x with busy:=x.busy,pb:=q}from rfl,hb]
   rw[hb]at fH;simp only[W2]at fH;simp only[Xo,Wc,W2,WeF hm fH hN,ret,Xd,bO,Wj1 (x:={x with busy:=true,pb:=_}) fV,Wv,W6];generalize WaD w.mem x.rv x.pb=q;by_cases h4:q.2.1=4
   .rw[Wf h4,Wf h4]
   .rw[Wb h4,Wb h4];by_cases h3:q.2.1=3
    .rw[Wf h3,Wf h3,Wt (by simp;omega)];rfl
    .rw[Wb h3,Wb h3]
end
section
theorem Wi9{N:Nat}{f:Y_Family}{x:Y_KidRun}(hf:(P4 f).length=4)(ht:0<=x.2.2.2.1/\x.2.2.2.1<=100000):Zfl N f x=some ((f,()),(again f x,())):=WfZ hf ht
theorem Wk0{N:Nat}{m:Mm}{f:Y_Family}{x:Y_KidRun}{o:Int×Int×Int×Int}(h:ReadOk m f x o)(hN:1048576<N):
  Zij N m f x o=some ((m,()),((Wd8 m f x o).1,((Wd8 m f x o).2,()))):=by
 have hw:=h.wr;have hs:=h.seen;have hb:=h.buf;have hr:=h.regs;unfold Zij Wd8;simp only[Ws,Waj];rw[Wex (show(P8 x).length<=1048576 by omega) hN];rcases WbY (P8 x) o.2.2.1 with _|v
 .simp only[opI,Xd,Wc];rw[Wh7 (show(P6 f).length<=1048576 by omega) hN,Wi9 h.famr h.tries,Wcs (show(P6 x).length<=1048576 by omega)];rw[Wai (by have:=h.pc;omega)];rcases he:ent (P6 f) o.2.2.1 with _|r
  .have e1:decide ((-1:Int)>x.2.2.1)=false:=by have:=h.since;simp;omega
   simp only[ret,Xd,e1,Wc,show decide ((-1:Int)<0)=true from rfl,Wa];have hp:=h.pbO;have e3:∀(a b:Nat),a<=1000->b<=1000->Wz (a+b)=true:=λa b h1 h2=>Wt (by omega);cases hc:P10 x
   .have km:Wli x o.2.2.1=(o.2.2.1,(0,(0,0))):=by unfold Wli;rw[hc];rfl
    rw[km]at hp⊢;simp only[Xbn,Wa,WeF h.mem hp hN,ret,Xd,rgI hr h.rA];generalize WaD m f.1 (o.2.2.1,(0,(0,0)))=q;rw[Wt (by simp;omega),Wt (by simp;omega)];unfold bne;cases q.2.1==4<;>cases q.2.1==3<;>rfl
   .have km:Wli x o.2.2.1=Q11 x:=by unfold Wli;rw[hc];rfl
    rw[km]at hp⊢;simp only[Xo,Wc,WeF h.mem hp hN,ret,Xd,rgI hr h.rA,Wa];generalize WaD m f.1 (Q11 x)=q;rw[Wt (by simp;omega),Wt (by simp;omega),WoO hc];unfold bne;cases q.2.1==4<;>cases q.2.1==3<;>rfl
  .have hm:=Wcl he;have hmem:r.2∈P6 f:=by
    have:=hm.2.2.2;exact Xas this
   have hv:=h.ver _ hmem;have e2:decide (r.2.2.2<0)=false:=by simp;omega
   simp only[ret,Xd,e2,Wc,rgI hr h.rA,Wa];rw[Wt (by simp;omega),Wt (by simp;omega)];cases decide (r.2.2.2>x.2.2.1)<;>rfl
 .simp only[opI,Xd,Wa];rw[Wcs (show(P6 x).length<=1048576 by omega),Wai (by have:=h.pc;omega)];simp only[ret,Xd,rgI hr h.rA,Wa]
variable{N:Nat}{m:Mm}{f g:Fm}{x y:Kd}{k:Nat}{n:Int}{code:List Opn}{codes:List (List Opn)}
theorem Wm8(hk:k<f.kids.length)(hm:WY m=true)(bI:KC code)(hF:FOk codes n f)(aP:codes.getD k []=code)(aG:f.kids[k]=x)(h0:x.phase=0)(hn:n<=100000)(hN:1048576<N):
  Zkh N m f.e x.e code=some ((m,()),((Woo m f x code).1.e,((Woo m f x code).2.e,()))):=by
 have hx:=hF.kid k hk;rw[aP,aG]at hx;obtain⟨k0,k1,k2,k3,k4,k5,k6,k7,k8,k9,k10⟩:=kdP x;have bp:=hx.pc;have hlen:=bI.len;have jJ:=hx.wl;unfold Zkh Woo;simp only[Ws,Waj,k1,k6,k8,k9,show Wh code=(code.length:Int)from rfl,Wv];by_cases cW:x.pc>=code.length
 .rw[Wf (by omega),Wf cW];rfl
 .rw[Wb (by omega),Wb cW];obtain⟨j,hj,ej,eo⟩:=WiK (l:=code) bp.1 (by omega);have lY:Xc code (Xa x.pc) ((0,0,0,0):Opn)=opN code x.pc:=rfl;have eK:inb x.pc code.length=true:=by rw[ej,WB];exact We hj
  rw[eK];obtain⟨ok,o1,gY⟩:=bI.ok j hj;have bn:=bI.k10 j hj;simp only[Wa,lY];rw[←eo]at ok o1 bn;generalize opN code x.pc=o at*;have bQ:=hx.regs.len;rw[Wai (show 0<=x.pc/\x.pc<=1000000 by omega)];by_cases h5:o.1=5
  .rw[Wf h5,Wf h5];have:=Wt7 ok h5;have hY:=WlQ hF hx bI hm hn this.1 this.2;rw[Wk0 hY hN];simp only[Xd,Wl3]
  rw[Wb h5,Wb h5];have jW:x.marks.length<=24:=by
   have:=Wn Xb (hx.marks h0).pcs;simp only[Xx]at this;have h2:=WaT bI.up x.pc.toNat (by omega);have h3:=(Wco code x.pc.toNat).2;omega
  by_cases cu:o.1=10
  .rw[Wf cu,Wb (by omega),Wb (by omega),Wb (by omega),Wb (by omega),Wf cu];unfold WjS;by_cases hz:x.marks.length=0
   .rw[Wf (show Wh x.marks=0 by unfold Wh;omega),Wf hz];rfl
   rw[Wb (show¬Wh x.marks=0 by unfold Wh;omega),Wb hz];obtain⟨i,q,y,e1,nT,nU,⟨hi,mA⟩,nS,cI,iw,e5,e6⟩:=Wh5 (d:=((0,0,[]):KM)) bI.toCC (show x.pc.toNat<=code.length by omega) (hx.marks h0).pcs hz;have lX:x.marks.length=q.length+1:=by rw[e1];simp
   have i1:WV .i64 (Wh x.marks) 1=(q.length:Int):=by rw[Wh3 (by omega),lX];omega
   have g1:Xc x.marks (Xa (q.length:Int)) ((0,0,[]):KM)=y:=by rw[e1];simp
   have t1:List.take (Xa (q.length:Int)) x.marks=x.marks.dropLast:=by rw[e1];simp
   have b1:(decide ((0:Int)<=(q.length:Int))&&decide ((q.length:Int)<=(x.marks.length:Int)))=true:=by simp;omega
   have hdl:x.marks.dropLast.length<=24:=by rw[Xdb];omega
   have hy:y∈x.marks:=by rw[e1];simp
   obtain⟨y1,y2,y3,y4⟩:=(hx.marks h0).each y hy;rw[i1,WB,We (show q.length<x.marks.length by omega),b1];simp only[Wa,g1,t1,nT];rw[Wt (by simp;omega),Wcs (by rw[y1.len];omega)];simp only[ret,Xd,Wa];rw[nU,WB,We hi];have oz:Xc code (Xa ((i:Nat):Int)) ((0,0,0,0):Opn)=opN code (i:Int):=rfl;have hr:=WsX (bI.ok i hi).1 mA;rw[←Wd6 hi]at hr;simp only[Wa,oz];rw[WR hr y1.len];have b2:(decide ((0:Int)<=y.2.1)&&decide (y.2.1<=(x.writes.length:Int)))=true:=by simp;omega
   rw[b2,Wt (by rw[List.length_take];simp;omega),Wig (by omega) hN ⟨hi,mA⟩ cI];simp only[ret,Xd,Wa];rw[Wai (by have:=cI.len;omega),Xk];rw[Wjs cI];rfl
  rw[Wb cu,Wb cu];by_cases h6:o.1=6
  .rw[Wf h6,Wf h6];rw[WR (Wt8 ok h6).2 bQ,Wt (by simp;omega),Wt (by simp;omega)];simp only[Wa,Waj];rfl
  rw[Wb h6,Wb h6];by_cases h7:o.1=7
  .rw[Wf h7,Wf h7];have h:=Wt6 ok h7;rw[WR h.1 bQ,WI (a:=x.pc) (b:=o.2.2.1) (by unfold I64;omega),Wai (a:=x.pc+o.2.2.1) (by omega)];simp only[Wa,Wv];by_cases hg:Xc x.regs (Xa o.2.1) 0=0
   .rw[Wf hg,Wf (show Wbt x.regs o.2.1 0=0 from hg)];rfl
   .rw[Wb hg,Wb (show¬Wbt x.regs o.2.1 0=0 from hg)];rfl
  rw[Wb h7,Wb h7];by_cases h8:o.1=8
  .rw[Wf h8,Wf h8];rw[Wcs (show x.regs.length<=1048576 by omega),Wt (by simp;omega)];simp only[ret,Xd,Wa];rw[Wt (by simp;omega)];rfl
  rw[Wb h8,Wb h8];by_cases h9:o.1=9
  .rw[Wf h9,Wf h9];have hz:x.marks.length≠0:=by
    intro hz;have h1:=Wn Xb (hx.marks h0).pcs;simp only[Xx,hz]at h1;have h2:=WaT bI.up j (by omega);have h3:=bI.up j hj;rw[Wat hj,WkE (by rw[←eo];exact h9)]at h3;rw[ej,Xk]at h1;omega
   obtain⟨i,q,y,e1,nT,nU,⟨hi,mA⟩,nS,cI,iw,e5,e6⟩:=Wh5 (d:=((0,0,[]):KM)) bI.toCC (show x.pc.toNat<=code.length by omega) (hx.marks h0).pcs hz;have lX:x.marks.length=q.length+1:=by rw[e1];simp
   have i1:WV .i64 (Wh x.marks) 1=(q.length:Int):=by rw[Wh3 (by omega),lX];omega
   have g1:Xc x.marks (Xa (q.length:Int)) ((0,0,[]):KM)=y:=by rw[e1];simp
   have t1:List.take (Xa (q.length:Int)) x.marks=x.marks.dropLast:=by rw[e1];simp
   have b1:(decide ((0:Int)<=(q.length:Int))&&decide ((q.length:Int)<=(x.marks.length:Int)))=true:=by simp;omega
   have hdl:x.marks.dropLast.length<=24:=by rw[Xdb];omega
   rw[i1,WB,We (show q.length<x.marks.length by omega),b1];simp only[Wa,g1,t1,nT];rw[Wt (by simp;omega),Wcs (show x.regs.length<=1048576 by omega)];simp only[ret,Xd,Wa];rw[nU,WB,We hi];have o1:Xc code (Xa ((i:Nat):Int)) ((0,0,0,0):Opn)=opN code (i:Int):=rfl;have hr:=WsX (bI.ok i hi).1 mA;rw[←Wd6 hi]at hr;simp only[Wa,o1];rw[WR hr bQ];rfl
  rw[Wb h9,Wb h9];have:=Whe hN ok (by omega) (by omega) hx.regs;rw[this];rfl
end
section
variable{N:Nat}{m:Mm}{f g:Fm}{x y:Kd}{k:Nat}{n:Int}{code:List Opn}{codes:List (List Opn)}{e:En}
def goP(e:En):List En->Bool->List En->Bool×List En
 | [],d,o=>(d,o)
 |z::l,d,o=>if d=true then goP e l true (if z.1=e.1 then o else o++ [z])else
  if z.1>=e.1 then goP e l true (if z.1=e.1 then o++ [e]else o++ [e]++ [z])else goP e l false (o++ [z])
theorem WsH{z:En}{l o:List En}:goP e (z::l) false o=if z.1>=e.1 then goP e l true (if z.1=e.1 then o++ [e]else o++ [e]++ [z])else goP e l false (o++ [z]):=by
 rw[goP];exact Wb (λh=>by cases h)
theorem Wou:∀(l:List En) (o:List En),(∀z∈l,z.1≠e.1)->goP e l true o=(true,o++l)
 | [],o,_=>by simp[goP]
 |z::l,o,h=>by
  rw[goP,Wf rfl,Wb (h z (Xj ..)),Wou l _ λy hy=>h y (Xf _ hy)];simp
theorem Wqo:∀(l:List En) (o:List En),Ris cfE l->(if(goP e l false o).1=true then(goP e l false o).2 else(goP e l false o).2++ [e])=o++Wbq cfE l e
 | [],o,_=>by simp[goP,Wbq]
 |z::l,o,h=>by
  have hp:=Xt.1 h;have hlt:∀y∈l,z.1<y.1:=λy hy=>by have:=hp.1 y hy;unfold cfE at this;omega
  rw[WsH,Wbq];by_cases h1:z.1>=e.1
  .rw[Wf h1,Wou l _ (λy hy=>by have:=hlt y hy;omega)];rw[Wf rfl,Wb (show¬cfE z e<0 by unfold cfE;omega)];by_cases h2:z.1=e.1
   .rw[Wf h2,Wb (show¬cfE e z<0 by unfold cfE;omega)];simp
   .rw[Wb h2,Wf (show cfE e z<0 by unfold cfE;omega)];simp
  .rw[Wb h1,Wqo l _ hp.2,Wf (show cfE z e<0 by unfold cfE;omega)];simp
theorem WpJ{R:Type}{l:List En}{K0:Bool->Int->Bool->List En->Option R}(hl:l.length<=1000):∀(dd j n:Nat) (d:Bool) (o:List En),j+dd=l.length->dd<n->o.length<=j+d.toNat->
  Z2 N l e K0 n d (j:Int) o=K0 (goP e (l.drop j) d o).1 (l.length:Int) false (goP e (l.drop j) d o).2:=by
 intro dd
 induction dd with
 |zero=>
  intro j n d o hj hn ho;obtain⟨n,rfl⟩:∃n',n=n'+1:=⟨n-1,by omega⟩;have:j=l.length:=by omega
  subst this;simp only[Z2,WO (Xl _),Wc,Xbr,goP]
 |succ dd ih=>
  intro j n d o hj hn ho;obtain⟨n,rfl⟩:∃n',n=n'+1:=⟨n-1,by omega⟩;have hlt:j<l.length:=by omega
  have hdt:d.toNat<=1:=by cases d<;>simp
  have r1:∀z:En,Wz (o.length+ [z].length)=true:=λz=>Wt (by simp;omega);have r2:∀z:En,Wz ((Xg o [e]).length+ [z].length)=true:=λz=>Wt (by simp[Xaz];omega);have hne:(l[j].1 !=e.1)=decide (l[j].1≠e.1):=by by_cases z:l[j].1=e.1<;>simp[z]
  have cW:∀z:Bool,goP e (l.drop j) z o=goP e (l[j]::l.drop (j+1)) z o:=λz=>by rw[←Xai hlt]
  have g2:Xc l (Xa (j:Int)) ((0:Int),((0:Int),(0:Int)))=l[j]:=Ww hlt _;by_cases heq:l[j].1=e.1
  .have e1:decide (l[j].1≠e.1)=false:=Wk (λz=>z heq);have e2:decide (l[j].1>=e.1)=true:=We (by omega);cases d with
   |true=>
    simp only[Z2,WF hlt,Wu hlt,g2,Wa,hne,e1,Wc,Xo,Wm (show j<4611686018427387904 by omega)];rw[ih (j+1) n true o (by omega) (by omega) (by simp at ho⊢;omega),cW true,goP,Wf rfl,Wf heq]
   |false=>
    simp only[Z2,WF hlt,Wu hlt,g2,Wa,hne,e1,e2,Wc,Xbn,r1,Wm (show j<4611686018427387904 by omega),Xaz];rw[ih (j+1) n true _ (by omega) (by omega) (by simp at ho⊢;omega),cW false,WsH,Wf (by omega),Wf heq]
  .have e1:decide (l[j].1≠e.1)=true:=We heq;cases d with
   |true=>
    simp only[Z2,WF hlt,Wu hlt,g2,Wa,hne,e1,Wc,Xo,r1,Wm (show j<4611686018427387904 by omega),Xaz];rw[ih (j+1) n true _ (by omega) (by omega) (by simp at ho⊢;omega),cW true,goP,Wf rfl,Wb heq]
   |false=>
    by_cases h2:l[j].1>=e.1
    .have e2:decide (l[j].1>=e.1)=true:=We h2;simp only[Z2,WF hlt,Wu hlt,g2,Wa,hne,e1,e2,Wc,Xbn,r1,r2,Wm (show j<4611686018427387904 by omega)];simp only[Xaz];rw[ih (j+1) n true _ (by omega) (by omega) (by simp at ho⊢;omega),cW false,WsH,Wf h2,Wb heq]
    .have e2:decide (l[j].1>=e.1)=false:=Wk h2;simp only[Z2,WF hlt,Wu hlt,g2,Wa,hne,e1,e2,Wc,Xbn,r1,Wm (show j<4611686018427387904 by omega),Xaz];rw[ih (j+1) n false _ (by omega) (by omega) (by simp at ho⊢;omega),cW false,WsH,Wb h2]
theorem WnJ{l:List En}(h:Ris cfE l)(hl:l.length<=1000)(hN:1048576<N):Zj7 N l e=ret (Wbq cfE l e):=by
 unfold Zj7;rw[show(0:Int)=((0:Nat):Int)from rfl,WpJ hl l.length 0 N false [] (by omega) (by omega) (by simp)];have hg:=Wqo (e:=e) l [] h;rw[Xak];have hlen:(goP e l false []).2.length<=2000:=by
  have:∀(l:List En) (d:Bool) (o:List En),(goP e l d o).2.length<=o.length+2*l.length:=by
   intro l
   induction l with
   |nil=>intro d o;simp[goP]
   |cons z l ih=>
    intro d o;rw[goP];split
    .split
     .have:=ih true o;simp;omega
     .have:=ih true (o++ [z]);simp at this⊢;omega
    .split
     .split
      .have:=ih true (o++ [e]);simp at this⊢;omega
      .have:=ih true (o++ [e]++ [z]);simp at this⊢;omega
     .have:=ih false (o++ [z]);simp at this⊢;omega
  have:=this l false [];simp at this;omega
 cases hd:(goP e l false []).1 with
 |true=>
  rw[hd,Wf rfl,Xaq]at hg;rw[hg];rfl
 |false=>
  rw[hd,Wb (by simp),Xaq]at hg;rw[Wt (by simp;omega)];simp only[Xbn,Wa,Xaz,hg]
theorem Wp4{R:Type}{rows:List Rw}{c:Int}{a1 a2 a3:Int}{a4:Bool}{a5:List Int}{a6:List Rw}{a7:List Int}{a8:List Rw}{a9:Y_KidRun}{ay:List Y_KidRun}{K0:Int->Bool->List En->Option R}(hr:rows.length<=8)(hN:1048576<N):∀(dd j n:Nat) (b:List En),j+dd=rows.length->dd<n->Ris cfE b->b.length<=100+j->
  Zck N a1 a2 c a3 a4 a5 a6 a7 a8 a9 rows ay K0 n (j:Int) b=K0 (rows.length:Int) false (WcV c b (rows.drop j)):=by
 intro dd
 induction dd with
 |zero=>
  intro j n b hj hn hb hbl;obtain⟨n,rfl⟩:∃n',n=n'+1:=⟨n-1,by omega⟩;have:j=rows.length:=by omega
  subst this;simp only[Zck,WO (Xl _),Wc,Xbr];rfl
 |succ dd ih=>
  intro j n b hj hn hb hbl;obtain⟨n,rfl⟩:∃n',n=n'+1:=⟨n-1,by omega⟩;have hlt:j<rows.length:=by omega
  have g2:Xc rows (Xa (j:Int)) ((0:Int),(0:Int))=rows[j]:=Ww hlt _;simp only[Zck,WF hlt,Wu hlt,g2,Wa];rw[WnJ hb (by omega) hN];simp only[ret,Xd,Wm (show j<4611686018427387904 by omega)];have eE:=Wmy (cf:=cfE) b ((rows[j].1,(rows[j].2,c)):En);rw[ih (j+1) n _ (by omega) (by omega) (Wb2 Ws2 hb) (by omega),Xai hlt];rfl
theorem Wm1{R:Type}{z:Kd}{a0 a1 a2 a3:Int}{a4:Bool}{a5:List Int}{a6:List Rw}{a7:List En}{a8:List Int}{ay:List Y_KidRun}{K0:Int->Bool->List Rw->Option R}(hs:z.seen.length<=100)(hv:∀e∈z.seen,-1<=e.2.2):∀(dd j n:Nat) (o:List Rw),j+dd=z.seen.length->dd<n->o.length<=1000+j->
  Zbp N a0 a1 a2 a3 a4 a5 a6 a7 a8 z.e ay K0 n (j:Int) o=K0 (z.seen.length:Int) false (o++Waz (z.seen.drop j)):=by
 have e7:P7 z.e=z.seen:=rfl;intro dd
 induction dd with
 |zero=>
  intro j n o hj hn ho;obtain⟨n,rfl⟩:∃n',n=n'+1:=⟨n-1,by omega⟩;have:j=z.seen.length:=by omega
  subst this;simp only[Zbp,e7,WO (Xl _),Wc,Xbr];simp[Waz]
 |succ dd ih=>
  intro j n o hj hn ho;obtain⟨n,rfl⟩:∃n',n=n'+1:=⟨n-1,by omega⟩;have hlt:j<z.seen.length:=by omega
  have g2:Xc z.seen (Xa (j:Int)) ((0:Int),((0:Int),(0:Int)))=z.seen[j]:=Ww hlt _;have h1:=hv _ (Xab hlt);have ao:∀x:Rw,Wz (o.length+ [x].length)=true:=λx=>Wt (by simp;omega);simp only[Zbp,Ws,e7,WF hlt,Wu hlt,g2,Wa,ao,Wm (show j<4611686018427387904 by omega),Xaz];rw[Xai hlt];by_cases hz:z.seen[j].2.2= -1
  .rw[We (show z.seen[j].2.2<0 by omega),Wa,ih (j+1) n _ (by omega) (by omega) (by simp;omega)];unfold Waz;rw[Xfq (by simpa using hz),List.map_cons,Xaw];rfl
  .rw[Wk (show¬z.seen[j].2.2<0 by omega),Wc,ih (j+1) n _ (by omega) (by omega) (by omega)];unfold Waz;rw[Xfp (by simpa using hz)]
theorem WkS(hk:k<f.kids.length)(h3:f.kids.length<=3)(l0:code.length<=24)(hF:FOk codes n f)(aP:codes.getD k []=code)(aG:f.kids[k]=x)(hN:1048576<N):
  Zhw N f.e x.e (k:Int)=some ((),((Wg8 f x k).1.e,((Wg8 f x k).2.e,()))):=by
 have hx:=hF.kid k hk;rw[aP,aG]at hx;have bp:=hx.pc;have jJ:=hx.wl;have hsl:=hx.sl;have r9:=hF.buf8;have jL:f.order.length<=3:=by
  have h1:=hF.done;have:=List.countP_le_length (p:=λx:Kd=>decide (x.phase=3)) (l:=f.kids);omega
 have nW:=hF.readsL;unfold Zhw;have e8:P8 x.e=x.writes:=rfl;rw[e8,WdH (by omega) hN];simp only[ret,Xd];have hcl:Wj .i64 f.e.2.1 1=f.clock+1:=Wai (by have:=hF.clock;show 0<=f.clock/\f.clock<=1000000;omega);have hP6:P6 f.e=f.buf:=rfl;have iQ:=WcX x.writes;rw[hcl,hP6,show(0:Int)=((0:Nat):Int)from rfl];rw[Wp4 (rows:=Wcq x.writes) iQ hN (Wcq x.writes).length 0 N _ (by omega) (by omega) hF.bufR (by omega)];have h8:P8 f.e=f.reads:=rfl;have h7:P7 f.e=f.order:=rfl;rw[h8,h7,Wt (by simp;omega)];simp only[Wa,Xak,Xaz,Xaq];rw[Wm1 (by omega) (λe he=>(hx.seen e he).2.2.1) x.seen.length 0 N _ (by omega) (by omega) (by omega)];rw[Wcs (by omega)];simp only[ret,Xd,Xak];rw[Wt (by simp;omega)];rfl
theorem WkU(hk:k<f.kids.length)(h3:f.kids.length<=3)(hm:WY m=true)(bI:KC code)(hF:FOk codes n f)(aP:codes.getD k []=code)(ow:codes.length<=3)(hn:n<=100000)(hN:1048576<N):
  Zdj N m f.e codes (k:Int)=some ((m,()),((Wiz m f k code).e,())):=by
 obtain⟨x,aG⟩:∃x,f.kids[k]=x:=⟨_,rfl⟩;have hx:=hF.kid k hk;rw[aP,aG]at hx;have hlen:=hF.len;obtain⟨k0,k1,k2,k3,k4,k5,k6,k7,k8,k9,k10⟩:=kdP x;obtain⟨f0,f1,f2,f3,f4,f5,f6,f7,f8,f9⟩:=fmP f;unfold Zdj Wiz;rw[f3];by_cases hl:f.lost=true
 .rw[hl,Wf rfl];rfl
 have oJ:f.lost=false:=by simpa using hl
 rw[oJ,Wc,Wb (by simp),show f.kids.getD k {}=f.kids[k]from WJ hk _,aG];have bT:Fm.put (f,x) k=f:=by unfold Fm.put;simp only;rw[←aG,Xba]
 have oe:inb (k:Int) (f.kids.map Kd.e).length=true:=by rw[WB,Xx];exact We hk
 have q7:inb (k:Int) codes.length=true:=by rw[WB];exact We (by omega)
 have e2:Xc (f.kids.map Kd.e) (Xa (k:Int)) d_KidRun=x.e:=by
  have:=WhM Kd.e f.kids k {};rw[WJ hk,aG]at this;exact this
 have e3:U9 (f.kids.map Kd.e) f.e=f.e:=rfl;have ec:Xc codes (Xa (k:Int)) ([]:List Opn)=code:=by rw[Xk];exact aP
 have pV:decide ((k:Int)<0)=false:=Wk (by omega);have jt:decide ((k:Int)>=Wh (f.kids.map Kd.e))=false:=Wk (by unfold Wh;rw[Xx];omega);have fin:∀q:Fm×Kd,q.1.kids=f.kids->U9 (Xe (Q9 q.1.e) (Xa (k:Int)) q.2.e) q.1.e=(Fm.put q k).e:=λq hq=>by
  rw[Xk];exact U9e q.1 k q.2
 have oU:∀q:Fm,q.kids=f.kids->inb (k:Int) (Q9 q.e).length=true:=λq hq=>by
  show inb (k:Int) (q.kids.map Kd.e).length=true;rw[hq];exact oe
 have ao:Wz (([]:List Y_KidRun).length+(f.kids.map Kd.e).length)=true:=Wt (by simp;omega);simp only[Ws,Waj,f9,pV,jt,Wc,ao,Wa,Xaz,Xaq,oe,e2,k0,Wv];unfold Wr2;by_cases h0:x.phase=0
 .rw[Wf h0,Wf h0];simp only[q7,Wa,e3,ec];rw[Wm8 hk hm bI hF aP aG h0 hn hN];have ib:(Woo m f x code).1.kids=f.kids:=by
   unfold Woo;split
   .rfl
   .simp only;split
    .exact WjY m f x _
    .repeat' split
     all_goals rfl
  simp only[Xd,oU _ ib,Wa,fin _ ib]
 rw[Wb h0,Wb h0];by_cases h1:x.phase=1
 .rw[Wf h1,Wf h1];by_cases ho:f.owner=0
  .rw[Wf (show f.e.2.2.1=0 from ho),Wf ho];rw[show Wj .i64 (k:Int) 1=(k:Int)+1 from Wai (by omega)];exact Wn (λz=>some ((m,()),(z,()))) (fin ({f with owner:=(k:Int)+1},{x with phase:=2}) rfl)
  .rw[Wb (show¬f.e.2.2.1=0 from ho),Wb ho,bT];have:=fin (f,x) rfl;rw[bT]at this;exact Wn (λz=>some ((m,()),(z,()))) this
 rw[Wb h1,Wb h1];by_cases h2:x.phase=2
 .rw[Wf h2,Wf h2];simp only[k4,k7];by_cases hp:x.pos=x.seen.length
  .rw[Wf (show x.pos=Wh x.seen by unfold Wh;exact hp),Wf hp,e3,WkS hk h3 bI.toCC.len hF aP aG hN];simp only[Xd,oU (Wg8 f x k).1 rfl,Wa,fin (Wg8 f x k) rfl]
  .rw[Wb (show¬x.pos=Wh x.seen by unfold Wh;exact hp),Wb hp];have hpos:=hx.pos;have o0:inb x.pos x.seen.length=true:=by unfold inb;simp;omega
   have hP6:P6 f.e=f.buf:=rfl;have r9:=hF.buf8;simp only[o0,Wa,e3];rw[Wh7 (show(P6 f.e).length<=1048576 by rw[hP6];omega) hN,hP6];have eg:Xc x.seen (Xa x.pos) ((0:Int),((0:Int),(0:Int)))=Wbt x.seen x.pos (0,0,0):=rfl;rw[eg];have me:Zfl N (U9 (f.kids.map Kd.e) (S2 (0:Int) f.e)) x.e=some ((Fm.e {f with owner:=0},()),((f.again x).e,())):=
    WfZ (f:=Fm.e {f with owner:=0}) (x:=x.e) hF.regs.len (by have:=hx.tries;show 0<=x.tries/\x.tries<=100000;omega)
   have i1:Wj .i64 x.pos 1=x.pos+1:=Wai (by have:=hx.sl;have:=hx.pc;have:=bI.toCC.len;omega);unfold WuX;rcases he:ent f.buf (Wbt x.seen x.pos (0,0,0)).1 with _|r
   all_goals
    simp only[ret,Xd,me,Wv,i1]
   .by_cases hz:(-1:Int)=(Wbt x.seen x.pos (0,0,0)).2.2
    .rw[Wf hz,Wf hz];exact Wn (λz=>some ((m,()),(z,()))) (fin (f,{x with pos:=x.pos+1}) rfl)
    .rw[Wb hz,Wb hz,oU {f with owner:=0} rfl,Wa];have:=fin ({f with owner:=0},f.again x) rfl;rw[←this];show _=some ((m,()),((f.rv,(f.clock,((0:Int),(f.lost,(f.regs,(f.start,(f.buf,(f.order,(f.reads,Xe (f.kids.map Kd.e) (Xa (k:Int)) (f.again x).e))))))))),()));rfl
   .by_cases hz:r.2.2.2=(Wbt x.seen x.pos (0,0,0)).2.2
    .rw[Wf hz,Wf hz];exact Wn (λz=>some ((m,()),(z,()))) (fin (f,{x with pos:=x.pos+1}) rfl)
    .rw[Wb hz,Wb hz,oU {f with owner:=0} rfl,Wa];have:=fin ({f with owner:=0},f.again x) rfl;rw[←this];show _=some ((m,()),((f.rv,(f.clock,((0:Int),(f.lost,(f.regs,(f.start,(f.buf,(f.order,(f.reads,Xe (f.kids.map Kd.e) (Xa (k:Int)) (f.again x).e))))))))),()));rfl
 .rw[Wb h2,Wb h2,bT];have:=fin (f,x) rfl;rw[bT]at this;exact Wn (λz=>some ((m,()),(z,()))) this
end
section
abbrev FSc:=List Int×List Int×List Rw×List (List Opn)×List Int
variable{N:Nat}{s:FSc}{m:Mm}{f:Fm}{n:Int}
theorem Wn4{rv:Int}{regs:List Int}{writes:List Rw}{kids:Nat}(hr:regs.length<=1000)(hw:writes.length<=1000)(hk:kids<=3)(hN:1048576<N):
  Zj6 N rv regs writes (kids:Int)=ret (WcW rv regs writes kids).e:=by
 unfold Zj6;rw[Wcs (by omega),WdH (by omega) hN];have hn:=WcX writes;simp only[ret,Xd];generalize hnet:Wcq writes=nw at*;have oR:∀(b:List En) (dd j n:Nat) (o:List Y_KidRun),j+dd=kids->dd<n->o=Xp j (Kd.e {regs:=regs})->
   Zbt N regs (kids:Int) rv regs nw b (λqd qe lI=>(some ((),((rv,((0:Int),((0:Int),(false,(regs,(nw,(b,(([]:List Int),(([]:List Kc),lI))))))))),())))) n (j:Int) o=
   some ((),((rv,((0:Int),((0:Int),(false,(regs,(nw,(b,(([]:List Int),(([]:List Kc),Xp kids (Kd.e {regs:=regs})))))))))),())):=by
  intro b dd
  induction dd with
  |zero=>
   intro j n o hj om ho;obtain⟨n,rfl⟩:∃n',n=n'+1:=⟨n-1,by omega⟩;have:j=kids:=by omega
   subst this;rw[Zbt,Wk (show¬(j:Int)<(j:Int) by omega),Wc,ho]
  |succ dd ih=>
   intro j n o hj om ho;obtain⟨n,rfl⟩:∃n',n=n'+1:=⟨n-1,by omega⟩;rw[Zbt,We (show(j:Int)<(kids:Int) by omega),Wa,Wcs (by omega)];simp only[ret,Xd];rw[Wt (by rw[ho];simp;omega),Wa,Wm (show j<4611686018427387904 by omega),Xaz];refine ih (j+1) n _ (by omega) (by omega) ?_;rw[ho,List.replicate_succ'];rfl
 have qS:∀(dd j n:Nat) (o:List En),j+dd=nw.length->dd<n->o=(nw.take j).map (λr=>((r.1,r.2,0):En))->
   Zdy N regs (kids:Int) rv nw regs nw (λtA qc cR=>
  (Zbt N regs (kids:Int) rv regs nw cR
 (λqd qe lI=>
  (some ((),((rv,((0:Int),((0:Int),(false,(regs,(nw,(cR,(([]:List Int),(([]:List Kc),lI))))))))),()))))
 N (0:Int) ([]:List Y_KidRun))) n (j:Int) o=
   (Zbt N regs (kids:Int) rv regs nw (nw.map (λr=>((r.1,r.2,0):En)))
 (λqd qe lI=>
  (some ((),((rv,((0:Int),((0:Int),(false,(regs,(nw,(nw.map (λr=>((r.1,r.2,0):En)),(([]:List Int),(([]:List Kc),lI))))))))),()))))
 N (0:Int) ([]:List Y_KidRun)):=by
  intro dd
  induction dd with
  |zero=>
   intro j n o hj om ho;obtain⟨n,rfl⟩:∃n',n=n'+1:=⟨n-1,by omega⟩;have:j=nw.length:=by omega
   subst this;simp only[Zdy,WO (Xl _),Wc];rw[ho,List.take_length]
  |succ dd ih=>
   intro j n o hj om ho;obtain⟨n,rfl⟩:∃n',n=n'+1:=⟨n-1,by omega⟩;have hlt:j<nw.length:=by omega
   have g2:Xc nw (Xa (j:Int)) ((0:Int),(0:Int))=nw[j]:=Ww hlt _;have ao:∀x:En,Wz (o.length+ [x].length)=true:=λx=>Wt (by rw[ho];simp;omega);simp only[Zdy,WF hlt,Wu hlt,g2,Wa,ao,Wm (show j<4611686018427387904 by omega),Xaz];refine ih (j+1) n _ (by omega) (by omega) ?_;rw[ho,List.take_succ_eq_append_getElem hlt,List.map_append];rfl
 refine(qS nw.length 0 N [] (by omega) (by omega) (by simp)).trans ?_;have:=oR (nw.map (λr=>((r.1,r.2,0):En))) kids 0 N [] (by omega) (by omega) rfl;refine this.trans ?_;unfold WcW Fm.e;simp only[hnet,Xdu]
end
section
variable{N:Nat}{w:Wo}{x:Rt}{k:Nat}{p:Pg}{n:Int}{o:Opn}{f:Fm}
theorem Wsw(h3:f.kids.length<=3)(hN:1048576<N):Zi2 N f.e=ret (Wck f):=by
 unfold Zi2;have hm:(f.kids.map Kd.e).length=f.kids.length:=by simp
 have e2:f.e.2.2.2.2.2.2.2.2.2=f.kids.map Kd.e:=rfl;have h1:=Wy (l:=f.kids.map Kd.e) (V:=Unit) (R:=Unit×Kq) (lp:=λn j v=>Zc4 N f.e (some ((),(false,()))) (λi6 t7=>some ((),(true,()))) n j) (n:=N) (by omega)
  (body:=λj x v k=>bif x.1 !=(3:Int)then some ((),(false,()))else k v) (K:=λ_ v=>some ((),(true,())))
  (λn i v hi=>by simp only[Zc4,e2,WF hi,Wu hi,Ww hi,Wm (show i<4611686018427387904 by omega),Wa])
  (λn v=>by simp only[Zc4,e2,WO (Xl _),Wc]) ()
 refine h1.trans ?_;rw[W4 (p:=λx:Y_KidRun=>x.1 !=(3:Int)) (E:=λ_=>some ((),(false,()))) _ 0 () (λj x v k _=>rfl)];have h3:(f.kids.map Kd.e).any (λx=>x.1 !=3)= !Wck f:=by
  unfold Wck;rw[List.any_map,←Wa4];have:((λx:Y_KidRun=>x.1 !=3)∘Kd.e)= λx:Kd=>!decide (x.phase=3):=by
   funext x;show(x.phase !=3)= !decide (x.phase=3);by_cases h:x.phase=3<;>simp[h]
  rw[this]
 rw[h3];cases Wck f<;>rfl
theorem Wsr(h:f.buf.length<=1000)(hN:1048576<N):Zi4 N f.e=ret (Wgy f):=by
 unfold Zi4;have e:P6 f.e=f.buf:=rfl;have h1:=Wy (l:=f.buf) (V:=List Rw) (R:=Unit×(List Rw×Unit)) (lp:=λn j v=>Zc5 N f.e (λi8 t9 cP=>(some ((),(cP,())))) n j v) (n:=N) (by omega)
  (body:=λj x v k=>bif Wz (v.length+ [(x.1,x.2.1)].length)then k (Xg v [(x.1,x.2.1)])else none) (K:=λ_ v=>ret v)
  (λn i v hi=>by simp only[Zc5,Ws,e,WF hi,Wu hi,Ww hi,Wm (show i<4611686018427387904 by omega),Wa])
  (λn v=>by simp only[Zc5,e,WO (Xl f.buf.length),Wc]) []
 refine h1.trans ?_;rw[WbT (f:=λx:En=>(x.1,x.2.1)) f.buf 0 [] (by simp;omega) (λj x v k _=>rfl)];rfl
theorem WsN(hr:Vals 4 f.regs)(h3:f.kids.length<=3)(hx:∀x∈f.kids,x.regs.length<=1000)(hN:1048576<N):Zi3 N f.e=ret (Wfo f):=by
 unfold Zi3 Wfo;have e:f.e.2.2.2.2.1=f.regs:=rfl;have e2:f.e.2.2.2.2.2.2.2.2.2=f.kids.map Kd.e:=rfl;have e9:Q9 f.e=f.kids.map Kd.e:=rfl;have jM:Wcr f.regs=true:=Wb1.2 hr;have hl:=hr.len;have hm:(f.kids.map Kd.e).length=f.kids.length:=by simp
 rw[e,e2,Wc7 (by omega) hN,Wf ⟨jM,h3⟩];simp only[ret,Xd,jM,Xo,Wc];rw[Wk (by unfold Wh;omega),Wcs (by omega)];simp only[ret,Xd,Wc];have h1:=Wy (l:=f.kids.map Kd.e) (V:=List Int) (R:=Unit×(List Int×Unit)) (lp:=λn j v=>Zbl N f.e (λfW bR cC=>(some ((),(cC,())))) n j v) (n:=N) (by omega)
  (body:=λj x v k=>bif inb j v.length then(bif P5 x==(1:Int)then((Zcc N (P6 x)).bind λbL=>(bif bL.2.1 then(bif inb 0 (P6 x).length then(bif inb j (Xe v j.toNat 0).length then k (Xe (Xe v j.toNat 0) j.toNat (Xc (P6 x) (Xa (0:Int)) 0))else none)else none)else k (Xe v j.toNat 0)))else k (Xe v j.toNat 0))else none) (K:=λ_ v=>ret v)
  (λn i v hi=>by simp only[Zbl,Ws,e9,WF hi,Wu hi,Ww hi,Wm (show i<4611686018427387904 by omega),Wa])
  (λn v=>by simp only[Zbl,e9,WO (Xl _),Wc]) f.regs
 refine h1.trans ?_;have h2:=WeH (β:=Int) (K:=λ_ v=>ret v) (f:=λx:Y_KidRun=>if P5 x=1/\Wcr (P6 x)=true then Wbt (P6 x) 0 0 else 0) (f.kids.map Kd.e) [] f.regs (by omega) (body:=λj x v k=>bif inb j v.length then(bif P5 x==(1:Int)then((Zcc N (P6 x)).bind λbL=>(bif bL.2.1 then(bif inb 0 (P6 x).length then(bif inb j (Xe v j.toNat 0).length then k (Xe (Xe v j.toNat 0) j.toNat (Xc (P6 x) (Xa (0:Int)) 0))else none)else none)else k (Xe v j.toNat 0)))else k (Xe v j.toNat 0))else none)
  (λj x v k qN hj=>by
   obtain⟨y,hy,rfl⟩:=Xv.1 qN;have ud:=hx y hy;have qO:P5 (Kd.e y)=y.out:=rfl;have p6:P6 (Kd.e y)=y.regs:=rfl;simp only[qO,p6,WB,We hj,Wa,Wc7 (show y.regs.length<=1048576 by omega) hN,ret,Xd,Wv,Xk,Xav];by_cases h1:y.out=1
   .rw[Wf h1];cases jM:Wcr y.regs
    .rw[Wb (by simp)];rfl
    .have:y.regs.length=4:=(Wb1.1 jM).len;rw[Wf ⟨h1,rfl⟩,show inb (0:Int) y.regs.length=true by rw[this];rfl];simp only[Wa,Xcq];rfl
   .rw[Wb h1,Wb (λh=>h1 h.1)])
 simp only[Xbq,Xaq,Xx,Xde]at h2;exact h2
theorem WsJ(hp:POk p)(hx:RLive p n x)(h2:x.phase=2)(hN:1048576<N):Zqg N x.e=ret (Who x).e:=by
 obtain⟨r0,r1,r2,r3,r4,r5,r6,r7,r8,eB,dR,dc,dh,dC,dD,fa,fb,eC,eD,fe,ff,fg⟩:=rtP x;have hc:=hp.code;obtain⟨z1,z2,z3,z4,z5,z6⟩:=hx.sz hc;obtain⟨f1,f2,f3⟩:=hx.fork h2;have bp:=hx.pc;have hcl:=hc.len;have oc:x.fam.kids.length<=3:=by have:=f3.len;have:=hp.k3;omega
 have jL:=f3.len3 hp.k3;have nW:=f3.readsL;unfold Zqg Who;simp only[r3,dc,eD,fe,ff,fg,Wgo,ret,Xd];rw[Wsw oc hN,WsN f3.regs oc (λy hy=>by
  obtain⟨i,hi,rfl⟩:=List.getElem_of_mem hy;rw[(f3.kid i hi).regs.len];omega) hN,Wsr (by have:=f3.buf8;omega) hN,Wt (show([]:List Rw).length+x.reads.length<=_ by simp;omega),Wt (by simp;omega),Wcs (by omega),Wai (by omega),Wc4]
 by_cases hl:x.fam.lost=true
 .rw[Wf hl,Wf hl]
 .rw[Wb hl,Wb hl];simp only[ret,Xd,Wa];cases ho:Wck x.fam
  .rw[Wb (by simp)];rfl
  .rw[Wf rfl];rfl
theorem WpD(hc:CC p.1)(hx:RLive p n x)(h3:x.phase=3)(hu:∀u∈x.undos,UnV u)(hs:ShOk w.shelf)(hN:1048576<N):Zmn N w.e x.e=some ((),((WbG w x).1.e,((WbG w x).2.e,()))):=by
 obtain⟨r0,r1,r2,r3,r4,r5,r6,r7,r8,eB,dR,dc,dh,dC,dD,fa,fb,eC,eD,fe,ff,fg⟩:=rtP x;obtain⟨z1,z2,z3,z4,z5,z6⟩:=hx.sz hc;have hz:=hx.back (.inl h3);obtain⟨m,q,e1,e2,⟨dV,fZ⟩,e4,e5,e6,e7,e8,e9,iJ,ji,jN,jO,iL⟩:=hx.mk24 hc hz;obtain⟨a,b,c,d⟩:=Wbd hz (by omega) zRM;have b':Xc x.marks (Xa (WV .i64 (Wh x.marks) 1)) ((0:Int),((0:Int),((0:Int),((0:Int),([]:List Int)))))=x.last:=b;unfold Zmn WbG;rw[dC,dD,a,b'];simp only[Wa,WT];by_cases fh:Wh x.undos>x.last.2.2.2.1
 .rw[Wf fh,Wf (show(x.undos.length:Int)>x.last.2.2.2.1 from fh),WkP (by unfold Wh at fh;omega) (by omega) hu hs hN];rfl
 .rw[Wb fh,Wb (show¬(x.undos.length:Int)>x.last.2.2.2.1 from fh)];rfl
theorem WoY(hp:POk p)(hx:RLive p n x)(h4:x.phase=4)(hm:WY w.mem=true):
  Zcq N w.e x.e=some ((w.e,()),((WbW w x).e,())):=by
 obtain⟨r0,r1,r2,r3,r4,r5,r6,r7,r8,eB,dR,dc,dh,dC,dD,fa,fb,eC,eD,fe,ff,fg⟩:=rtP x;have hc:=hp.code;obtain⟨z1,z2,z3,z4,z5,z6⟩:=hx.sz hc;have hz:=hx.back (.inr h4);obtain⟨m,q,e1,e2,⟨dV,fZ⟩,e4,e5,e6,e7,e8,e9,iJ,ji,jN,jO,iL⟩:=hx.mk24 hc hz;obtain⟨a,b,c,d⟩:=Wbd hz (by omega) zRM;have b':Xc x.marks (Xa (WV .i64 (Wh x.marks) 1)) ((0:Int),((0:Int),((0:Int),((0:Int),([]:List Int)))))=x.last:=b;have bT:=hx.pos h4;have bp:=hx.pc;have hcl:=hc.len;unfold Zcq WbW;simp only[Ws];rw[dC,a,b'];simp only[Wa,ret,Xd,r4,r5,r6,dc,dh,WT,Wgo,show w.e.2.2.1.2=w.mem.2 from rfl];by_cases hlt:x.pos<x.last.2.1
 .rw[Wf hlt,Wf hlt];have hj:x.pos.toNat<x.reads.length:=by omega
  have eK:inb x.pos x.reads.length=true:=by unfold inb;simp;omega
  have hg:Xc x.reads (Xa x.pos) ((0:Int),(0:Int))=Wbt x.reads x.pos (0,0):=rfl;have hv:0<=(Wbt x.reads x.pos (0,0)).1/\(Wbt x.reads x.pos (0,0)).1<=7:=by
   unfold Wbt;rw[WJ hj];exact(hx.reads _ (Xab hj)).1
  rw[eK,hg,WbP hm hv,show Xc w.mem.2 (Xa (Wbt x.reads x.pos (0,0)).1) ((0:Int),((0:Int),(0:Int)))=Wan w.mem (Wbt x.reads x.pos (0,0)).1 from rfl,Wai (by omega)];simp only[Wa,W6];by_cases a:(Wan w.mem (Wbt x.reads x.pos (0,0)).1).2.2=0
  .rw[Wf a];by_cases b:(Wan w.mem (Wbt x.reads x.pos (0,0)).1).2.1>x.rv
   .rw[Wf b,Wf (.inr b)]
   .rw[Wb b,Wb (by omega)];rfl
  .rw[Wb a,Wf (.inl a)]
 .rw[Wb hlt,Wb hlt];have b1:(decide ((0:Int)<=x.last.2.1)&&decide (x.last.2.1<=(x.reads.length:Int)))=true:=by simp;omega
  have b2:(decide ((0:Int)<=x.last.2.2.1)&&decide (x.last.2.2.1<=(x.writes.length:Int)))=true:=by simp;omega
  rw[b1,b2,Wt (by simp;omega),Wt (by simp;omega),Wcs (by rw[e9.len];omega),Wai (by omega)];simp only[Wa,ret,Xd];rfl
theorem Wp3(fY:k<=8)(iy:CmOk x.cm)(hm:WY w.mem=true)(hh:w.hist.length<=500000)(hN:1048576<N):
  Zmo N w.e x.e (k:Int)=some ((),((Wbn w x k).1.e,((Wbn w x k).2.e,()))):=by
 obtain⟨r0,r1,r2,r3,r4,r5,r6,r7,r8,eB,dR,dc,dh,dC,dD,fa,fb,eC,eD,fe,ff,fg⟩:=rtP x;have be:=Wiu iy hm;unfold Zmo Wbn;simp only[Ws];rw[Wai (by omega)];simp only[r7,eB,eC,show w.e.2.2.1=w.mem from rfl,show Q6 w.e=w.hist from rfl];rw[Wc4];by_cases hd:x.doomed=true
 .rw[Wf hd,Wf hd];obtain⟨b,hb⟩:=Wmj (N:=N) iy hN;rw[hb];simp only[Xd,Wv,show(Wa6 x.cm).e.2.2.1=(Wa6 x.cm).phase from rfl];by_cases h8:(Wa6 x.cm).phase=8
  .rw[Wf h8];simp only[Wf h8];rfl
  .rw[Wb h8];simp only[Wb h8];rfl
 .rw[Wb hd,Wb hd,WnI iy hm hN];simp only[Xd];obtain⟨m',c',hq⟩:∃m' c',Wdo w.mem x.cm=(m',c'):=⟨_,_,rfl⟩;rw[hq]at be⊢;simp only at be⊢;have hS:S20 c'.e x.e=Rt.e {x with cm:=c'}:=rfl;have eE:=be.1.plen;rw[hS,Wgo,Wt (show([]:List Rw).length+(P5 c'.e).length<=_ by show 0+c'.puts.length<=1073741824;omega),Wt (by simp;omega)];simp only[ret,Xd,Wa,Wv,WT,show c'.e.2.2.1=c'.phase from rfl,show(Cm.e x.cm).2.2.1=x.cm.phase from rfl,show P4 c'.e=c'.wv from rfl];unfold Woa;simp only;by_cases h3:x.cm.phase<=3
  .rw[Wf h3];by_cases h4:c'.phase=4
   .rw[Wf h4,Wb (by omega),Wb (by omega),Wf (show x.cm.phase<=3/\c'.phase=4 from⟨h3,h4⟩),Wb (by omega),Wb (by omega)];rfl
   .rw[Wb h4,Wb (show¬(x.cm.phase<=3/\c'.phase=4)fromλh=>h4 h.2)];by_cases h8:c'.phase=8
    .rw[Wf h8,Wf h8];rfl
    .rw[Wb h8,Wb h8];by_cases h6:c'.phase=6
     .rw[Wf h6,Wf h6];by_cases h2:x.fate=2
      .rw[Wf h2,Wf h2];rfl
      .rw[Wb h2,Wb h2];rfl
     .rw[Wb h6,Wb h6];rfl
  .rw[Wb h3,Wb (show¬(x.cm.phase<=3/\c'.phase=4)fromλh=>h3 h.1)];by_cases h8:c'.phase=8
   .rw[Wf h8,Wf h8];rfl
   .rw[Wb h8,Wb h8];by_cases h6:c'.phase=6
    .rw[Wf h6,Wf h6];by_cases h2:x.fate=2
     .rw[Wf h2,Wf h2];rfl
     .rw[Wb h2,Wb h2];rfl
    .rw[Wb h6,Wb h6];rfl
end
section
variable{N:Nat}{w:Wo}{x:Rt}{k:Nat}{p:Pg}{n:Int}{o:Opn}{f:Fm}{s:Sc}{a:Ac}
theorem WtK(fY:k<=8)(hp:POk p)(hx:RLive p n x)(hu:∀u∈x.undos,UnV u)(hm:WY w.mem=true)(hs:ShOk w.shelf)(hh:HOk w.holds)(hN:1048576<N):
  Zrx N w.e x.e (k:Int) p=some ((),((WpP w x k p).1.e,((WpP w x k p).2.e,()))):=by
 obtain⟨r0,r1,r2,r3,r4,r5,r6,r7,r8,eB,dR,dc,dh,dC,dD,fa,fb,eC,eD,fe,ff,fg⟩:=rtP x;have hc:=hp.code;obtain⟨z1,z2,z3,z4,z5,z6⟩:=hx.sz hc;have bp:=hx.pc;have hcl:=hc.len;have bQ:=hx.regs.len;unfold Zrx WpP;simp only[Ws,Waj];simp only[r3,r4,dR,dc,dh,dC,dD,WT,Wv];by_cases cW:x.pc>=p.1.length
 .rw[Wf (show x.pc=Wh p.1 by unfold Wh;omega),Wf cW,Wmu fY hh hx.rv z5 z6 hN];rfl
 .rw[Wb (show¬x.pc=Wh p.1 by unfold Wh;omega),Wb cW];obtain⟨j,hj,ej,eo⟩:=WiK (l:=p.1) bp.1 (by omega);have lY:Xc p.1 (Xa x.pc) ((0,0,0,0):Opn)=opN p.1 x.pc:=rfl;have eK:inb x.pc p.1.length=true:=by grind [WB,decide_eq_true]
  rw[eK];obtain⟨ok,o1,gY⟩:=hc.ok j hj;simp only[Wa,lY];rw[←eo]at ok o1 gY;rw[Wai (show 0<=x.pc/\x.pc<=1000000 by omega)];have jP:(opN p.1 x.pc).1=9->x.marks.length≠0:=λh9 hz=>by
   have h1:=Wn Xb hx.marks.pcs;simp only[Xx,hz]at h1;have h2:=WaT hc.up j (by omega);have h3:=hc.up j hj
   grind [Wat,WkE,Xk]
  generalize opN p.1 x.pc=o at*;by_cases h5:o.1=5
  .rw[Wf h5,Wf h5,Wsz hc hx hm h5 ok hN];rfl
  rw[Wb h5,Wb h5];by_cases h6:o.1=6
  .rw[Wf h6,Wb (by omega),Wb (by omega),Wb (by omega),Wf h6,WR (Wt8 ok h6).2 bQ,Wt (show(Xg ([]:List Rw) x.writes).length+_<=_ by simp;omega),Wt (by simp;omega)];simp only[Wa,Waj];rfl
  rw[Wb h6];by_cases h7:o.1=7
  .rw[Wf h7];have h:=Wt6 ok h7;rw[WR h.1 bQ,WI (a:=x.pc) (b:=o.2.2.1) (by unfold I64;omega),Wai (a:=x.pc+o.2.2.1) (by omega)];have my:¬o.1=10:=by omega
   have se:¬o.1=11:=by omega
   have mr:¬o.1>=12:=by omega
   by_cases hg:Xc x.regs (Xa o.2.1) 0=0
   .rw[Wf hg,Wb my,Wb se,Wb mr,Wb h6,Wf h7,Wf (show Wbt x.regs o.2.1 0=0 from hg)];rfl
   .rw[Wb hg,Wb my,Wb se,Wb mr,Wb h6,Wf h7,Wb (show¬Wbt x.regs o.2.1 0=0 from hg)];rfl
  rw[Wb h7];by_cases h8:o.1=8
  .rw[Wf h8,Wb (by omega),Wb (by omega),Wb (by omega),Wb h6,Wb h7,Wf h8,Wcs (by omega)];simp only[ret,Xd];rw[Wt (show([]:List RM).length+x.marks.length<=_ by simp;omega),Wt (by simp;omega)];rfl
  rw[Wb h8];by_cases h9:o.1=9
  .rw[Wf h9,Wb (by omega),Wb (by omega),Wb (by omega),Wb h6,Wb h7,Wb h8,Wf h9];have hz:=jP h9;obtain⟨a,b,c,d⟩:=Wbd hz (by omega) zRM;have b':Xc x.marks (Xa (WV .i64 (Wh x.marks) 1)) ((0:Int),((0:Int),((0:Int),((0:Int),([]:List Int)))))=x.last:=b;obtain⟨m,q,e1,e2,⟨dV,fZ⟩,e4,e5,e6,e7,e8,e9,iJ,ji,jN,jO,iL⟩:=hx.mk24 hc hz;rw[b',d,c,a,e2,WB,We dV,Wcs (by omega)];have o1:Xc p.1 (Xa ((m:Nat):Int)) ((0,0,0,0):Opn)=opN p.1 (m:Int):=rfl;have hr:=WsX (hc.ok m dV).1 fZ;rw[←Wd6 dV]at hr;simp only[Wa,o1,ret,Xd];rw[WR hr bQ,Wt (by simp;omega)];rfl
  rw[Wb h9];by_cases cu:o.1=10
  .rw[Wf cu,Wf cu];unfold WjC;by_cases hz:x.marks.length=0
   .rw[Wf (show Wh x.marks=0 by unfold Wh;omega),Wf hz,Wmu fY hh hx.rv z5 z6 hN];rfl
   .rw[Wb (show¬Wh x.marks=0 by unfold Wh;omega),Wb hz];obtain⟨a,b,c,d⟩:=Wbd hz (by omega) zRM;have b':Xc x.marks (Xa (WV .i64 (Wh x.marks) 1)) ((0:Int),((0:Int),((0:Int),((0:Int),([]:List Int)))))=x.last:=b;obtain⟨m,q,e1,e2,⟨dV,fZ⟩,e4,e5,e6,e7,e8,e9,iJ,ji,jN,jO,iL⟩:=hx.mk24 hc hz;rw[b',a];simp only[Wa];by_cases fh:Wh x.undos>x.last.2.2.2.1
    .rw[Wf fh,Wf (show(x.undos.length:Int)>x.last.2.2.2.1 from fh),WkP (by unfold Wh at fh;omega) (by omega) hu hs hN];rfl
    .rw[Wb fh,Wb (show¬(x.undos.length:Int)>x.last.2.2.2.1 from fh)];rw[d,c,Wcs (by rw[e9.len];omega),e2,WB,We dV];have o1:Xc p.1 (Xa ((m:Nat):Int)) ((0,0,0,0):Opn)=opN p.1 (m:Int):=rfl;have hr:=WsX (hc.ok m dV).1 fZ;rw[←Wd6 dV]at hr;simp only[Wa,ret,Xd,o1];rw[WR hr e9.len,Wt (by simp;omega)];have b2:(decide ((0:Int)<=x.last.2.2.1)&&decide (x.last.2.2.1<=(x.writes.length:Int)))=true:=by simp;omega
     rw[b2];simp only[Wa];rw[Wt (by simp;omega),Wig (by omega) hN ⟨dV,fZ⟩ e5];simp only[ret,Xd,Wa];rw[Wai (by have:=e5.len;omega)];rfl
  rw[Wb cu,Wb cu];by_cases fT:o.1=11
  .rw[Wf fT,Wf fT,show Wh p.2=((p.2.length:Nat):Int)from rfl,Wn4 (by omega) (by omega) hp.k3 hN];rfl
  rw[Wb fT,Wb fT];by_cases dQ:o.1>=12
  .rw[Wf dQ];have hb:=Wrg (w:=w) fY hc hx ok dQ hs hh hN;have:o.1=12\/o.1=13\/o.1=14\/o.1=15\/o.1=16:=by omega
   rcases this with h|h|h|h|h
   .rw[Wf h,Wf h,hb];rfl
   .rw[Wb (by omega),Wf h,Wf h,hb];rfl
   .rw[Wb (by omega),Wb (by omega),Wf h,Wf h,hb];rfl
   .rw[Wb (by omega),Wb (by omega),Wb (by omega),Wf h,Wf h,hb];rfl
   .rw[Wb (by omega),Wb (by omega),Wb (by omega),Wb (by omega),Wf h,hb];rfl
  .rw[Wb dQ,Wb (show¬o.1=12 by omega),Wb (show¬o.1=13 by omega),Wb (show¬o.1=14 by omega),Wb (show¬o.1=15 by omega),Wb (show¬o.1=16 by omega),Wb h6,Wb h7,Wb h8,Wb h9,Whe hN ok (by omega) (by omega) hx.regs];rfl
end
section
variable{N:Nat}{w:Wo}{x:Rt}{k:Nat}{p:Pg}{n:Int}{o:Opn}{f:Fm}{s:Sc}{a:Ac}
theorem WsE:Zqd N x.e=ret (!(decide (x.phase=0)||decide (x.phase=8))):=by
 unfold Zqd;simp only[show x.e.1=x.phase from rfl];by_cases h0:x.phase=0
 .rw[h0];rfl
 .rw[show(x.phase !=0)=true by simpa using h0,Wk h0];by_cases h8:x.phase=8
  .rw[h8];rfl
  .rw[show(x.phase !=8)=true by simpa using h8,Wk h8];rfl
theorem Wn7{R:Type}{l:List Rt}{b6 b7 b8 b9:Int}{ac:Y_Root}{bW:List Kb}{bX:List Int}{cM:List Kb}{ct:List Kn}{K0 K1:Option R}(hk:k<=1000)(hl:l.length<=1000):∀(d j n:Nat),j+d=l.length->d<n->
  Zac N (k:Int) b6 b7 b8 b9 ac bW bX cM (l.map Rt.e) ct K0 (λ_ _=>K1) n (j:Int)=if b7=(k:Int)+1/\Way k (l.drop j) j=false then K0 else K1
 |d,j,0,_,h=>by omega
 |0,j,n+1,hj,_=>by
  rw[Zac,show(j:Int)=(((l.map Rt.e).length:Nat):Int) by simp;omega,WO (Xl _),Wc,Wb (λz=>by
   have:=z.2;rw[Xeb (by omega)]at this;cases this)]
 |d+1,j,n+1,hj,hn=>by
  have hlt:j<(l.map Rt.e).length:=by simp;omega
  have fU:j<l.length:=by omega
  have ih:=Wn7 (b6:=b6) (b7:=b7) (b8:=b8) (b9:=b9) (ac:=ac) (bW:=bW) (bX:=bX) (cM:=cM) (ct:=ct) (K0:=K0) (K1:=K1) hk hl d (j+1) n (by omega) (by omega);rw[Zac];simp only[WF hlt,Wu hlt,Ww hlt,Wm (show j<4611686018427387904 by omega),Wa,Xdo,WsE,ret,Xd,Wai (show 0<=(k:Int)/\(k:Int)<=1000000 by omega),ih,Wv,W6];rw[Xai fU,Way];by_cases ht:b7=(k:Int)+1
  .rw[Wf ht];by_cases iS:j=k
   .rw[Wf (by omega),We iS];simp
   .rw[Wb (by omega),Wk iS];cases(decide (l[j].phase=0)||decide (l[j].phase=8))
    .simp[ht]
    .simp
  .rw[Wb ht,Wb (λz=>ht z.1),Wb (λz=>ht z.1)]
theorem Wsu(fY:k<=8)(j7:w.roots.length<=8)(hN:1048576<N):Ziz N w.e x.e (k:Int)=some ((),((WeX w x k).1.e,((WeX w x k).2.e,()))):=by
 have ao:(((decide ((0:Int)<=(4:Int)))&&(decide ((4:Int)<=(4:Int))))&&(Wz (Xa (4:Int))))=true:=rfl;have lp:=λ(K0 K1:Option (Unit×(Y_World×(Y_Root×Unit))))=>Wn7 (N:=N) (l:=w.roots) (k:=k) (b6:=w.e.1) (b7:=w.token) (b8:=w.e.2.2.1.1) (b9:=w.e.2.2.2.1.2) (ac:=x.e) (bW:=w.e.2.2.1.2) (bX:=w.e.2.2.2.1.1) (cM:=P4 w.e) (ct:=Q6 w.e) (K0:=K0) (K1:=K1) (by omega) (by omega) w.roots.length 0 N (by omega) (by omega);rw[Xak]at lp;unfold Ziz WeX;simp only[Waj,ao,Wa,Wai (show 0<=(k:Int)/\(k:Int)<=1000000 by omega),Wv,W6,WT,show w.e.2.1=w.token from rfl,show x.e.2.1=x.tries from rfl,show P5 w.e=w.roots.map Rt.e from rfl];have uu:∀(K0 K1:Option (Unit×(Y_World×(Y_Root×Unit)))),Zac N (k:Int) w.e.1 w.token w.e.2.2.1.1 w.e.2.2.2.1.2 x.e w.e.2.2.1.2 w.e.2.2.2.1.1 (P4 w.e) (w.roots.map Rt.e) (Q6 w.e) K0 (λ_ _=>K1) N 0=if w.token=(k:Int)+1/\Way k w.roots 0=false then K0 else K1:=lp;simp only[uu];by_cases t0:w.token=0
 .rw[Wf t0];rw[Wb (show¬(w.token≠0/\w.token≠(k:Int)+1) by omega)];by_cases ht:x.tries>=3
  .rw[Wf ht,Wf t0,Wf ⟨ht,t0⟩];rfl
  .rw[Wb ht,Wb (show¬(x.tries>=3/\w.token=0)fromλh=>ht h.1),Wb (show¬(w.token=(k:Int)+1/\Way k w.roots 0=false) by omega),Wb (show¬(w.token=(k:Int)+1/\Way k w.roots 0=false) by omega)];rfl
 .rw[Wb t0];by_cases t1:w.token=(k:Int)+1
  .rw[Wf t1,Wb (show¬(w.token≠0/\w.token≠(k:Int)+1) by omega),Wb (show¬(x.tries>=3/\w.token=0) by omega),Wb t0];have hc:∀(A:Option (Unit×(Y_World×(Y_Root×Unit)))),(if x.tries>=3 then A else A)=A:=λA=>by split<;>rfl
   rw[hc];by_cases ho:Way k w.roots 0=false
   .rw[Wf ⟨t1,ho⟩];simp only[Wf (show w.token=(k:Int)+1/\Way k w.roots 0=false from⟨t1,ho⟩)]
   .rw[Wb (λz=>ho z.2)];simp only[Wb (show¬(w.token=(k:Int)+1/\Way k w.roots 0=false)fromλz=>ho z.2)];rfl
  .rw[Wb t1,Wf ⟨t0,t1⟩]
theorem Wq5{q:Wo×Rt}(hk:k<w.roots.length)(hr:q.1.roots=w.roots):(bif inb (k:Int) (Xb (P5 q.1.e))then some ((),((S5 (Xe (P5 q.1.e) (Xa (k:Int)) q.2.e) q.1.e),()))else none)=ret (Wo.put q k).e:=by
 rw[show P5 q.1.e=q.1.roots.map Rt.e from rfl,Wu (by rw[Xx,hr];exact hk),Xk,S5e];rfl
theorem WpH{q:Wo×Rt}{r:Option (Unit×(Y_World×(Y_Root×Unit)))}(hk:k<w.roots.length)(hr:q.1.roots=w.roots)(e:r=some ((),(q.1.e,(q.2.e,())))):
  (r.bind λaa=>(bif inb (k:Int) (Xb (P5 aa.2.1))then some ((),((S5 (Xe (P5 aa.2.1) (Xa (k:Int)) aa.2.2.1) aa.2.1),()))else none))=ret (Wo.put q k).e:=by
 rw[e];exact Wq5 hk hr
theorem Wnk:(WeX w x k).1.roots=w.roots:=by
 unfold WeX
 repeat' split
 all_goals rfl
theorem Wks:(Wbn w x k).1.roots=w.roots:=by
 unfold Wbn;split<;>rfl
theorem WkI:(WbG w x).1.roots=w.roots:=by
 unfold WbG;split<;>rfl
theorem Wr9(hk:k<w.roots.length)(aG:w.roots[k]=x)(j7:w.roots.length<=8)(hp:POk p)(h:GOk w)(hx:ROk p n x)(hn:0<=n/\n<=200000)(hh:w.hist.length<=500000)(hN:1048576<N):
  Zl9 N w.e p (k:Int)=ret (Wo.put (Wi5 w x k p) k).e:=by
 obtain⟨g1,g2,g3,g4,g5⟩:=woG hk aG;obtain⟨r0,r1,r2,r3,r4,r5,r6,r7,r8,eB,dR,dc,dh,dC,dD,fa,fb,eC,eD,fe,ff,fg⟩:=rtP x;have ma:k<=8:=by omega
 have uq:=hx.tries;have qV:=hx.ul;have mh:=WeP h.holds;have P5w:P5 w.e=w.roots.map Rt.e:=rfl;unfold Zl9 Wi5;simp only[Ws];rw[P5w,g4,g2];simp only[r0,eB,dD,Wa,Wv];rw[Wc4];have jQ:∀A:Option (Unit×(Y_World×Unit)),A=ret (Wo.put (
   if x.phase=0 then WeX w x k else
   if x.phase=1 then WpP w x k p else
   if x.phase=2 then(w,Who x)else
   if x.phase=3 then WbG w x else
   if x.phase=4 then(w,WbW w x)else
   if x.phase=5 then Wbn w x k else
   if x.phase=6 then(if x.undos.length>0 then WfE w x else(w,{x with phase:=7}))else
   if x.phase=7 then
    (if x.fate=0 then({w with holds:=WS w.holds ((k:Int)+1)},{tries:=x.tries+1})
     else WlC {w with holds:=WS w.holds ((k:Int)+1)} x k)
   else(w,x)) k).e->(if x.doomed=true then((Zf N x.phase 1 4).bind λah=>bif ah.2.1 then((Zbe N x.e).bind λaa=>some ((),((S5 (Xe (w.roots.map Rt.e) (Xa (k:Int)) aa.2.1) w.e),())))else A)else A)=ret (Wo.put (
   if x.doomed=true/\1<=x.phase/\x.phase<=4 then(w,Wix x)else
   if x.phase=0 then WeX w x k else
   if x.phase=1 then WpP w x k p else
   if x.phase=2 then(w,Who x)else
   if x.phase=3 then WbG w x else
   if x.phase=4 then(w,WbW w x)else
   if x.phase=5 then Wbn w x k else
   if x.phase=6 then(if x.undos.length>0 then WfE w x else(w,{x with phase:=7}))else
   if x.phase=7 then
    (if x.fate=0 then({w with holds:=WS w.holds ((k:Int)+1)},{tries:=x.tries+1})
     else WlC {w with holds:=WS w.holds ((k:Int)+1)} x k)
   else(w,x)) k).e:=λA hA=>by
  by_cases hd:x.doomed=true
  .rw[Wf hd,Wcn];simp only[ret,Xd];by_cases eH:1<=x.phase/\x.phase<=4
   .rw[We eH.1,We eH.2,Wf ⟨hd,eH⟩,Xk,Wgo];simp only[Xal,Wa,ret,Xd];rw[S5e];rfl
   .have hb:(decide (1<=x.phase)&&decide (x.phase<=4))=false:=by
     rw[Xbw,Wp,Wp];omega
    rw[hb,Wb (λz=>eH z.2),Wc];exact hA
  .rw[Wb hd,Wb (λz=>hd z.1)];exact hA
 refine jQ _ ?_;have p5:∀y:Y_Root,(some ((),((S5 (Xe (w.roots.map Rt.e) (Xa (k:Int)) y) w.e),())):Option (Unit×(Y_World×Unit)))=ret (S5 (Xe (w.roots.map Rt.e) k y) w.e):=λy=>by rw[Xk]
 by_cases h0:x.phase=0
 .rw[Wf h0,Wf h0];exact WpH hk Wnk (Wsu ma j7 hN)
 rw[Wb h0,Wb h0];by_cases h1:x.phase=1
 .rw[Wf h1,Wf h1];exact WpH hk (Wq6 hp h hx h1 ma hn.1).roots (WtK ma hp (hx.live (by omega)) hx.undos h.mem h.shelf h.holds hN)
 rw[Wb h1,Wb h1];by_cases h2:x.phase=2
 .rw[Wf h2,Wf h2,WsJ hp (hx.live (by omega)) h2 hN];simp only[ret,Xd];rw[Xk,S5e];rfl
 rw[Wb h2,Wb h2];by_cases h3:x.phase=3
 .rw[Wf h3,Wf h3];exact WpH hk WkI (WpD hp.code (hx.live (by omega)) h3 hx.undos h.shelf hN)
 rw[Wb h3,Wb h3];by_cases h4:x.phase=4
 .rw[Wf h4,Wf h4,WoY hp (hx.live (by omega)) h4 h.mem];exact Wq5 (q:=(w,WbW w x)) hk rfl
 rw[Wb h4,Wb h4];by_cases h5:x.phase=5
 .rw[Wf h5,Wf h5];exact WpH hk Wks (Wp3 ma (hx.comm h5) h.mem hh hN)
 rw[Wb h5,Wb h5];by_cases h6:x.phase=6
 .rw[Wf h6,Wf h6];simp only[WT];by_cases hz:Wh x.undos>0
  .have lg:x.undos.length>0:=by unfold Wh at hz;omega
   rw[Wf hz,Wf lg];exact WpH hk rfl (WkP (by omega) (by omega) hx.undos h.shelf hN)
  .have lg:¬x.undos.length>0:=by unfold Wh at hz;omega
   rw[Wb hz,Wb lg,p5];exact Wn ret (S5e w k {x with phase:=7})
 rw[Wb h6,Wb h6];by_cases h7:x.phase=7
 .rw[Wf h7,Wf h7];refine WpH hk ?_ ?_
  .split<;>rfl
  .unfold Zux;have hS4:S4 (WS w.holds ((k:Int)+1)) w.e=Wo.e {w with holds:=WS w.holds ((k:Int)+1)}:=rfl;rw[show P4 w.e=w.holds from rfl,Wai (by omega),WiD h.holds (by omega) hN,r7,r1];simp only[ret,Xd,Wv,hS4];rw[Wqw (by omega),Wai (by omega)];by_cases hf:x.fate=0
   .rw[Wf hf];simp only[Wf hf];rfl
   .rw[Wb hf];simp only[Wb hf];rfl
 .rw[Wb h7,Wb h7,p5,g5,Wkt hk aG]
end
section

end
section
section
variable{N:Nat}{s:Sc}{p:Pg}{w:Wo}{n:Int}{a:Ac}{k:Nat}
theorem WsW{R:Type}{K0:Int->Bool->Int->Int->Int->Int->Kr->Ki->Kr->(List Y_Root)->(List Kn)->Option R}(hl:s.2.2.length<=1000)(hN:1048576<N):
  ∀(d j n:Nat) (m:Int) (w:Wo),j+d=s.2.2.length->d<n->WOk s.2.1 m w->m+d<=90000->
  Za1 N s.2.2 s K0 n (j:Int) w.now w.token w.mem.1 w.shelf.2 w.mem.2 w.shelf.1 w.holds (w.roots.map Rt.e) w.hist=
   (λv:Wo=>K0 (s.2.2.length:Int) false v.now v.token v.mem.1 v.shelf.2 v.mem.2 v.shelf.1 v.holds (v.roots.map Rt.e) v.hist) ((s.2.2.drop j).foldl (Wce s) w):=by
 intro d
 induction d with
 |zero=>
  intro j n m w hj hn h hm;obtain⟨n,rfl⟩:∃n',n=n'+1:=⟨n-1,by omega⟩;have:j=s.2.2.length:=by omega
  subst this;simp only[Za1,WO (Xl _),Wc,Xbr,Xer]
 |succ d ih=>
  intro j n m w hj hn h hm;obtain⟨n,rfl⟩:∃n',n=n'+1:=⟨n-1,by omega⟩;have hlt:j<s.2.2.length:=by omega
  have hw:(w.now,(w.token,((w.mem.1,w.mem.2),((w.shelf.1,w.shelf.2),(w.holds,(w.roots.map Rt.e,w.hist))))))=w.e:=rfl;simp only[Za1,WF hlt,Wu hlt,Ww hlt,Wm (show j<4611686018427387904 by omega),Wa,hw];rw[Wrj h (by omega) hN,Xai hlt,Xdh];exact ih (j+1) n (m+1) _ (by omega) (by omega) (Wn1 h) (by omega)
theorem WrM(hb:SB s)(hN:1048576<N):Zoa N s=ret (if WlP s=true then(Wuu s).e else d_World):=by
 unfold Zoa;rw[Wfh hb hN];simp only[ret,Xd];cases hs:WlP s with
 |false=>rfl
 |true=>
  obtain⟨h1,h2,h3,h4⟩:=WdA hs;have h0:=Wnq hs;have mJ:=WgK s.2.1 (by omega);simp only[Xo,Wc,W2];rw[WgJ h1.map.1 h1.map.2 hN,Wi8 (WkN.2 h1.cells) hN];simp only[ret,Xd,mJ,Wa,Waj];have gt:=WsW (s:=s) (N:=N) (K0:=λlO lP jG d6 lQ fx bX cM d9 ct eG=>(some ((),((jG,(d6,((lQ,bX),((cM,fx),(d9,(ct,eG)))))),())):Option (Unit×(Y_World×Unit)))) (by have:=hb.acts;omega) hN s.2.2.length 0 N 0 (WmL s) (by omega) (by omega) h0 (by omega);rw[Wcw];have mb:((WmL s).roots.map Rt.e)=Xp s.2.1.length d_Root:=by
   unfold WmL;simp only[Xdu];rfl
  rw[mb]at gt;refine gt.trans ?_;rw[Xak];rfl
end
abbrev Tn:=Int×Int×Int×Int
def Wq2(w:Wo)(k:Int):Int:=(w.roots.getD k.toNat rt0).phase
def We4(s:Sc)(i:Nat)(w:Wo)(a:Ac):List Tn:=
 if(0<=a.2.1/\a.2.1<w.roots.length)/\Wq2 (Wce s w a) a.2.1≠Wq2 w a.2.1 then [((i:Int),a.2.1,Wq2 w a.2.1,Wq2 (Wce s w a) a.2.1)]else []
def WfL(s:Sc):List Ac->Nat->Wo->List Tn
 | [],_,_=>[]
 |a::l,i,w=>We4 s i w a++WfL s l (i+1) (Wce s w a)
variable{N:Nat}{s:Sc}{w:Wo}{n:Int}{a:Ac}
theorem Wgt(i:Nat):(We4 s i w a).length<=1:=by unfold We4;split<;>simp
theorem Wtn(l:List Rt)(k:Nat):Xc (l.map Rt.e) k d_Root=(l.getD k rt0).e:=WhM Rt.e l k {}
theorem WsR{R:Type}{K0:Int->Bool->Kaa->Int->Int->Int->Int->Kr->Ki->Kr->(List Y_Root)->(List Kn)->Option R}(hl:s.2.2.length<=1000)(hN:1048576<N):
  ∀(d j n:Nat) (m:Int) (w:Wo) (o:List Tn),j+d=s.2.2.length->d<n->WOk s.2.1 m w->m+d<=90000->o.length<=j->
  Zab N s.2.2 (Wh s.2.2) s.1.1 s.1.2.1 s.1.2.2 s.2.1 K0 n (j:Int) o w.now w.token w.mem.1 w.shelf.2 w.mem.2 w.shelf.1 w.holds (w.roots.map Rt.e) w.hist=
   (λv:Wo=>K0 (s.2.2.length:Int) false (o++WfL s (s.2.2.drop j) j w) v.now v.token v.mem.1 v.shelf.2 v.mem.2 v.shelf.1 v.holds (v.roots.map Rt.e) v.hist) ((s.2.2.drop j).foldl (Wce s) w):=by
 intro d
 induction d with
 |zero=>
  intro j n m w o hj hn h hm ho;obtain⟨n,rfl⟩:∃n',n=n'+1:=⟨n-1,by omega⟩;have:j=s.2.2.length:=by omega
  subst this;simp only[Zab,WO (Xl _),Wc,Xbr,Xer,WfL,Xbp]
 |succ d ih=>
  intro j n m w o hj hn h hm ho;obtain⟨n,rfl⟩:∃n',n=n'+1:=⟨n-1,by omega⟩;have hlt:j<s.2.2.length:=by omega
  have hw:(w.now,(w.token,((w.mem.1,w.mem.2),((w.shelf.1,w.shelf.2),(w.holds,(w.roots.map Rt.e,w.hist))))))=w.e:=rfl;have uv:((s.1.1,(s.1.2.1,s.1.2.2)),(s.2.1,([]:List Kb)))=(s.1,(s.2.1,([]:List Ac))):=rfl;have bQ:(w.roots.map Rt.e).length=w.roots.length:=by simp
  have j7:w.roots.length<=4:=by rw[h.len];exact h.l4
  have mc:Ze8 N w.e (s.1,(s.2.1,([]:List Ac))) s.2.2[j]=some (((Wce s w s.2.2[j]).e,()),()):=Wrj (s:=(s.1,(s.2.1,[]))) h (by omega) hN;have hv:=Wn1 (a:=s.2.2[j]) h;have kI:(Wce s w s.2.2[j]).roots.length=w.roots.length:=by rw[hv.len,h.len]
  simp only[Zab,Ws,WF hlt,Wu hlt,Ww hlt,Wm (show j<4611686018427387904 by omega),Wa,hw,uv,mc,Xd,WX,ret];rw[Xai hlt,WfL,Xdh];generalize s.2.2[j]=a at*;have cx:∀o':List Tn,o'=o++We4 s j w a->Zab N s.2.2 (Wh s.2.2) s.1.1 s.1.2.1 s.1.2.2 s.2.1 K0 n ((j+1:Nat):Int) o' (Wce s w a).e.1 (Wce s w a).e.2.1 (Wce s w a).e.2.2.1.1 (Wce s w a).e.2.2.2.1.2 (Wce s w a).e.2.2.1.2 (Wce s w a).e.2.2.2.1.1 (P4 (Wce s w a).e) (P5 (Wce s w a).e) (Q6 (Wce s w a).e)=
   (λv:Wo=>K0 (s.2.2.length:Int) false (o++(We4 s j w a++WfL s (s.2.2.drop (j+1)) (j+1) (Wce s w a))) v.now v.token v.mem.1 v.shelf.2 v.mem.2 v.shelf.1 v.holds (v.roots.map Rt.e) v.hist) ((s.2.2.drop (j+1)).foldl (Wce s) (Wce s w a)):=λo' gR=>by
   subst gR;rw[←Xaw];exact ih (j+1) n (m+1) (Wce s w a) _ (by omega) (by omega) hv (by omega) (by have:=Wgt (s:=s) (w:=w) (a:=a) j;simp;omega)
  have eA:Wh (w.roots.map Rt.e)=(w.roots.length:Int):=by unfold Wh;rw[bQ]
  rw[eA,WQ (by unfold I64;omega)];by_cases hb:0<=a.2.1/\a.2.1<w.roots.length
  .rw[We hb.1,We (show a.2.1<=(w.roots.length:Int) -1 by omega)];have eK:inb a.2.1 (w.roots.map Rt.e).length=true:=by unfold inb;rw[bQ];simp;omega
   have e5:P5 (Wce s w a).e=(Wce s w a).roots.map Rt.e:=rfl;have q8:inb a.2.1 (P5 (Wce s w a).e).length=true:=by unfold inb;rw[e5,Xx,kI];simp;omega
   have nl:(Xc (w.roots.map Rt.e) (Xa a.2.1) d_Root).1=Wq2 w a.2.1:=by rw[Wtn];rfl
   have pR:(Xc (P5 (Wce s w a).e) (Xa a.2.1) d_Root).1=Wq2 (Wce s w a) a.2.1:=by rw[e5,Wtn];rfl
   have eH:Wq2 w a.2.1>=0:=by
    unfold Wq2;rw[WJ (show a.2.1.toNat<w.roots.length by omega)];have:=(h.root a.2.1.toNat (by omega)).phase;omega
   have ao:∀x:Tn,Wz (o.length+ [x].length)=true:=λx=>Wt (by simp;omega);rw[eK,q8,nl,pR,We eH,ao];simp only[Xal,Wa,W6];by_cases hne:Wq2 (Wce s w a) a.2.1=Wq2 w a.2.1
   .rw[Wf hne];exact cx _ (by unfold We4;rw[Wb (λhc=>hc.2 hne),Xbp])
   .rw[Wb hne];exact cx _ (by unfold We4;rw[Wf ⟨hb,hne⟩];rfl)
  .have li:(decide (0<=a.2.1)&&decide (a.2.1<=(w.roots.length:Int) -1))=false:=by
    rw[Xbw,Wp,Wp];omega
   rw[li];simp only[Wc,show decide ((-1:Int)>=0)=false from rfl];exact cx _ (by unfold We4;rw[Wb (λhc=>hb hc.1),Xbp])
theorem Wnf(hb:SB s)(hN:1048576<N):Zg9 N s=ret (if WlP s=true then WfL s s.2.2 0 (WmL s)else []):=by
 unfold Zg9;rw[Wfh hb hN];simp only[ret,Xd];cases hs:WlP s with
 |false=>rfl
 |true=>
  have qR:SB (s.1,(s.2.1,([]:List Ac))):={cells:=hb.cells,map:=hb.map,progs:=hb.progs,each:=hb.each,acts:=by simp};have q9:WlP (s.1,(s.2.1,([]:List Ac)))=true:=by
   unfold WlP at hs⊢;simp only[Xi,Wi]at hs⊢;exact⟨hs.1,hs.2.1,by simp,hs.2.2.2⟩
  simp only[Xo,Wc,W2];rw[WrM qR hN,Wf q9];simp only[ret,Xd];have hw:Wuu (s.1,(s.2.1,([]:List Ac)))=WmL s:=rfl;rw[hw];have:=WsR (s:=s) (N:=N) (K0:=λt39 qg bW fN gG gH iH eG fE fF fG gI=>(some ((),(bW,())):Option (Unit×(List Tn×Unit)))) (by have:=(WdA hs).2.2.1;omega) hN s.2.2.length 0 N 0 (WmL s) [] (by omega) (by have:=(WdA hs).2.2.1;omega) (Wnq hs) (by have:=(WdA hs).2.2.1;omega) (by simp);rw[Xak,Xaq]at this;exact this
end
section
variable{N:Nat}{w:Wo}{x:Rt}{k:Nat}{p:Pg}{n:Int}{o:Opn}{f:Fm}{s:Sc}{a:Ac}{m:Mm}
theorem Wri{codes:List (List Opn)}{j:Int}(hl:f.kids.length=codes.length)(hj:¬(0<=j/\j<codes.length)):Zdj N m f.e codes j=some ((m,()),(f.e,())):=by
 unfold Zdj;rw[Wc4];split
 .rfl
 .by_cases h0:j<0
  .rw[We h0];rfl
  .rw[Wk h0,Wc,We (show j>=Wh (Q9 f.e) by rw[show Q9 f.e=f.kids.map Kd.e from rfl];unfold Wh;rw[Xx];omega)];rfl
theorem Wtz(h:WOk s.2.1 n w)(hn:n<=99999)(hN:1048576<N):Zn5 N w.e s a=ret (Wce s w a).e:=by
 have ht:=h.tick;have qW:=h.now;have ol:=h.n0;have j7:w.roots.length<=4:=by rw[h.len];exact h.l4
 unfold Zn5 Wce;simp only[Ws];rw[show P5 w.e=w.roots.map Rt.e from rfl,show w.e.1=w.now from rfl,Wai (by omega)];have hlen:Wh s.2.1=(w.roots.length:Int):=by unfold Wh;rw[h.len]
 rw[hlen,WQ (by unfold I64;omega)];simp only[Wcn,ret,Xd];by_cases hb:0<=a.2.1/\a.2.1<w.roots.length
 .rw[Wf hb,We hb.1,We (show a.2.1<=(w.roots.length:Int) -1 by omega)];obtain⟨k,qX⟩:∃k:Nat,a.2.1=k:=⟨a.2.1.toNat,by omega⟩;have hk:k<w.roots.length:=by omega
  obtain⟨x,aG⟩:∃x,w.roots[k]=x:=⟨_,rfl⟩;have hx:=h.root k hk;rw[aG]at hx;have iz:k<s.2.1.length:=by rw[←h.len];exact hk
  have hp:=Wop h.progs iz;obtain⟨g1,g2,g3,g4,g5⟩:=woG hk aG;obtain⟨r0,r1,r2,r3,r4,r5,r6,r7,r8,eB,dR,dc,dh,dC,dD,fa,fb,eC,eD,fe,ff,fg⟩:=rtP x;have c9:∀y:Rt,(w.now+1,S4 (Xe (w.roots.map Rt.e) k y.e) w.e.2)=Wo.e (Wo.put ({w with now:=w.now+1},y) k):=λy=>by
   unfold Wo.put Wo.e;simp only[Xdw];rfl
  have bO:Wo.put ({w with now:=w.now+1},x) k={w with now:=w.now+1}:=by unfold Wo.put;simp only;rw[←aG,Xba]
  simp only[qX,Xk,Xal,Xo,Wc];rw[g1,g4,WJ hk,aG];simp only[Wa,r0,eC,eD,c9,bO,show w.e.2.2.1=w.mem from rfl];rw[WB,We iz];have qY:Xc s.2.1 k (([]:List Ka),([]:List Kaa))=s.2.1.getD k pg0:=rfl;rw[qY];generalize iw:s.2.1.getD k pg0=p at*;have hg:GOk {w with now:=w.now+1}:=⟨h.mem,h.shelf,h.holds⟩;simp only[Wa,Wv];have be:Zl9 N (w.now+1,w.e.2) p (k:Int)=ret (Wo.put (Wi5 {w with now:=w.now+1} x k p) k).e:=
   Wr9 (w:={w with now:=w.now+1}) hk aG (by show w.roots.length<=8;omega) hp hg hx (by omega) (by have:=h.hist;show w.hist.length<=500000;omega) hN
  rw[be];by_cases h1:a.1=1
  .rw[Wf h1,Wf h1];unfold WqU;rw[WJ (show k<({w with now:=w.now+1}:Wo).roots.length from hk)];simp only[aG];rfl
  rw[Wb h1,Wb h1];by_cases h2:a.1=2
  .rw[Wf h2,Wf h2];by_cases hf:x.phase=2
   .rw[Wf hf];obtain⟨f1,f2,f3⟩:=(hx.live (by omega)).fork hf;by_cases hj:0<=a.2.2/\a.2.2<p.2.length
    .rw[Wf (show x.phase=2/\0<=a.2.2/\a.2.2<p.2.length from⟨hf,hj⟩)];obtain⟨j,kK⟩:∃j:Nat,a.2.2=j:=⟨a.2.2.toNat,by omega⟩;have hj':j<p.2.length:=by omega
     simp only[kK,Xk];have bI:KC (p.2.getD j []):=by rw[WJ hj'];exact hp.kids _ (Xab hj')
     rw[WkU (code:=p.2.getD j []) (by rw[f3.len];exact hj') (by rw[f3.len];exact hp.k3) h.mem bI f3 rfl hp.k3 (by omega) hN];have:U21 (Wiz w.mem x.fam j (p.2.getD j [])).e x.e=Rt.e {x with fam:=Wiz w.mem x.fam j (p.2.getD j [])}:=rfl;simp only[Xd,this];exact Wn ret (c9 _)
    .rw[Wb (λz=>hj z.2),Wri f3.len hj];have hu:U21 x.fam.e x.e=x.e:=rfl;simp only[Xd,hu];have:=c9 x;rw[bO]at this;exact Wn ret this
   .rw[Wb hf,Wb (λz=>hf z.1)]
  rw[Wb h2,Wb h2];by_cases h3:a.1=3
  .rw[Wf h3,Wf h3];have hd:S11 true x.e=Rt.e {x with doomed:=true}:=rfl;simp only[hd,c9,show(Cm.e x.cm).2.2.1=x.cm.phase from rfl,WT];by_cases eH:1<=x.phase/\x.phase<=4
   .rw[We eH.1,We eH.2,Wf (show(1<=x.phase/\x.phase<=4)\/(x.phase=5/\x.cm.phase<=3)from .inl eH)];rfl
   .have hb:(decide (1<=x.phase)&&decide (x.phase<=4))=false:=by
     rw[Xbw,Wp,Wp];omega
    rw[hb,Wc];by_cases h5:x.phase=5
    .rw[Wf h5];by_cases hc:x.cm.phase<=3
     .rw[Wf hc,Wf (show(1<=x.phase/\x.phase<=4)\/(x.phase=5/\x.cm.phase<=3)from .inr ⟨h5,hc⟩)]
     .rw[Wb hc,Wb (show¬((1<=x.phase/\x.phase<=4)\/(x.phase=5/\x.cm.phase<=3))fromλz=>z.elim eH λz=>hc z.2)]
    .rw[Wb h5,Wb (show¬((1<=x.phase/\x.phase<=4)\/(x.phase=5/\x.cm.phase<=3))fromλz=>z.elim eH λz=>h5 z.1)]
  .rw[Wb h3,Wb h3]
 .rw[Wb hb];have li:(decide (0<=a.2.1)&&decide (a.2.1<=(w.roots.length:Int) -1))=false:=by
   rw[Xbw,Wp,Wp];omega
  rw[li];rfl
theorem Wj3{m:List Int}(hl:m.length=8)(hx:∀x∈m,0<=x/\x<=65536)(hN:1048576<N):Ze9 N m=ret (WjQ m):=by
 unfold Ze9 WjQ;rw[show(Wh m !=(8:Int))=false by unfold Wh;rw[hl];rfl,Wc];rw[show Zuw N=ret (Xp 16 0)from rfl];simp only[ret,Xd];have lp:∀(d j n:Nat) (l:List Int),j+d=m.length->d<n->SlOk l->Zbk N m (some ((),(([]:List Int),()))) (λtJ dH bh=>(some ((),(bh,())))) n (j:Int) l=ret (Wct (m.drop j) j l):=by
  intro d
  induction d with
  |zero=>
   intro j n l hj hn hs;obtain⟨n,rfl⟩:∃n',n=n'+1:=⟨n-1,by omega⟩;have:j=m.length:=by omega
   subst this;simp[Zbk,WO,Xl,Wc,Xbr,Wct]
  |succ d ih=>
   intro j n l hj hn hs;obtain⟨n,rfl⟩:∃n',n=n'+1:=⟨n-1,by omega⟩;have hlt:j<m.length:=by omega
   have hb:=hx m[j] (Xab hlt);simp only[Zbk,WF hlt,Wu hlt,Ww hlt,Wm (show j<4611686018427387904 by omega),Wa,WT,Wcn,ret,Xd,We hb.1,We hb.2,Xal,Xo,Wc];rw[Xai hlt,Wct];by_cases h0:m[j]>0
   .rw[Wf h0,Wf h0,WQ (by unfold I64;omega),Wdd hs (by omega) (by omega) hN];exact ih _ _ _ (by omega) (by omega) (WfP hs (by omega) (by omega))
   .rw[Wb h0,Wb h0];exact ih _ _ _ (by omega) (by omega) hs
 have:=lp m.length 0 N (Xp 16 0) (by omega) (by omega) Win;rw[Xak]at this;exact this
theorem Wt1(ci:WlP s=true)(hN:1048576<N):Zrv N s=ret (WmL s).e:=by
 obtain⟨t1,t2,t3,t4⟩:=WdA ci;have hv:WcT s.1.1=true:=WkN.2 t1.cells;have hr:(((decide ((0:Int)<=Wh s.2.1))&&(decide (Wh s.2.1<=Wh s.2.1)))&&(Wz (Xa (Wh s.2.1))))=true:=by
  unfold Wh;rw[Wt (by omega)];simp
 unfold Zrv;rw[Wji hv hN,Wj3 t1.map.1 t1.map.2 hN,hr];simp only[Xd,ret,Wa,Waj];unfold WmL Wo.e Wh;rw[Xk];simp only[Xdu];rfl
end
section
variable{N:Nat}{w:Wo}{x:Rt}{k:Nat}{p:Pg}{n:Int}{o:Opn}{f:Fm}{s:Sc}{a:Ac}{m:Mm}{i:Int}
def chg(i:Int):Nat->List Int->List Int->List Tn
 |j,x::b,y::c=>(if y≠x then [(i,(j:Int),x,y)]else [])++chg i (j+1) b c
 |_,_,_=>[]
theorem Wj8:∀(b:List Int) (j:Nat),chg i j b b= []
 | [],_=>rfl
 |x::b,j=>by rw[chg,Wj8 b,Wb (λz=>z rfl)];rfl
theorem Wrp{y:Int}:∀(b:List Int) (j k:Nat) (hk:k<b.length),chg i j b (b.set k y)=if y≠b[k]then [(i,((j+k:Nat):Int),b[k],y)]else []
 | [],_,k,hk=>by simp at hk
 |x::b,j,0,hk=>by
  rw[List.set_cons_zero,chg,Wj8];simp
 |x::b,j,k+1,hk=>by
  simp only[Xq]at hk;rw[List.set_cons_succ,chg,Wrp b (j+1) k (by omega),Wb (λz=>z rfl),Xaq,show j+1+k=j+(k+1) by omega];rfl
theorem Wva{R:Type}{l:List Rt}{v:List Int}{gy dI dJ jf jg:Int}{ax:List Tn}{dy:List Kb}{c7:List Int}{cg:List Kb}{ip:List Kn}{K0:Int->Bool->List Int->Option R}(hl:l.length<=1000)(hv:v.length=l.length)(hN:1048576<N):
  Zb7 N gy s ax dI dJ jf jg dy c7 cg (l.map Rt.e) ip K0 N 0 v=K0 (l.length:Int) false (l.map (·.phase)):=by
 have hm:(l.map Rt.e).length=l.length:=by simp
 have h1:=Wy (l:=l.map Rt.e) (V:=List Int) (R:=R) (lp:=λn j v=>Zb7 N gy s ax dI dJ jf jg dy c7 cg (l.map Rt.e) ip K0 n j v) (n:=N) (by omega)
  (body:=λj x v k=>bif inb j v.length then k (Xe v j.toNat x.1)else none) (K:=λj v=>K0 j false v)
  (λn i v hi=>by simp only[Zb7,WF hi,Wu hi,Ww hi,Wm (show i<4611686018427387904 by omega),Wa])
  (λn v=>by simp only[Zb7,WO (Xl _),Wc]) v
 refine h1.trans ?_;have h2:=WeH (β:=Int) (f:=λx:Y_Root=>x.1) (body:=λ(j:Int) (x:Y_Root) v (k:List Int->Option R)=>bif inb j v.length then k (v.set j.toNat x.1)else none) (K:=λj v=>K0 j false v) (l.map Rt.e) [] v (by omega) (λj x v k hx hj=>by rw[WB,We hj];rfl);simp only[Xbq,Xaq]at h2;refine h2.trans ?_;rw[hm,Xeb (by omega),Xbp,Xde,Xat];rfl
theorem WuM{R:Type}{l:List Rt}{v:List Int}{fx fN gG gH:Int}{eG:List Kb}{fE:List Int}{fF:List Kb}{gI:List Kn}{K0:Int->Bool->List Tn->Option R}(hl:l.length<=1000)(hv:v.length=l.length):∀(d j n:Nat) (o:List Tn),j+d=l.length->d<n->o.length<=2000+j->
  Zb8 N i s fx fN gG gH v eG fE fF (l.map Rt.e) gI K0 n (j:Int) o=K0 (l.length:Int) false (o++chg i j (v.drop j) ((l.map (·.phase)).drop j))
 |d,j,0,_,_,h,_=>by omega
 |0,j,n+1,o,hj,_,_=>by
  have hm:(l.map Rt.e).length=l.length:=by simp
  have:j=(l.map Rt.e).length:=by omega
  rw[Zb8,this,WO (Xl _),Wc,hm,Xeb (show v.length<=l.length by omega)];simp[chg]
 |d+1,j,n+1,o,hj,hn,ho=>by
  have hlt:j<(l.map Rt.e).length:=by simp;omega
  have fU:j<l.length:=by omega
  have nV:j<v.length:=by omega
  have dS:j<(l.map (·.phase)).length:=by simp;omega
  rw[Zb8];simp only[WF hlt,Wu hlt,Ww hlt,Wu nV,Ww nV,Wm (show j<4611686018427387904 by omega),Wa,Xdo,W6,Xaz,show∀y:Rt,y.e.1=y.phase fromλ_=>rfl];rw[Xai nV,Xai dS,chg,Xdo,Wt (by simp;omega)];by_cases hne:l[j].phase=v[j]
  .rw[Wf hne,Wb (λz=>z hne),Xaq];exact WuM hl hv d (j+1) n o (by omega) (by omega) (by omega)
  .rw[Wb hne,Wf hne,Wa,WuM hl hv d (j+1) n _ (by omega) (by omega) (by simp;omega),Xaw]
theorem Wsk(h:WOk s.2.1 n w):(¬(0<=a.2.1/\a.2.1<w.roots.length)->(Wce s w a).roots=w.roots)/\(0<=a.2.1/\a.2.1<w.roots.length->∃y,(Wce s w a).roots=w.roots.set a.2.1.toNat y):=by
 unfold Wce;simp only;refine⟨λhb=>by rw[Wb hb],λhb=>?_⟩;have hk:a.2.1.toNat<w.roots.length:=by omega
 have same:∃y,w.roots=w.roots.set a.2.1.toNat y:=⟨w.roots[a.2.1.toNat],(Xba hk).symm⟩;rw[Wf hb];split
 .unfold WqU;rw[WJ (show a.2.1.toNat<({w with now:=w.now+1}:Wo).roots.length from hk)];have hr:=Wuq h hk;exact⟨_,by show Xe _ _ _=_;rw[hr]⟩
 .split
  .split
   .exact⟨_,rfl⟩
   .exact same
  .split
   .split
    .exact⟨_,rfl⟩
    .exact same
   .exact same
theorem Wsn(h:WOk s.2.1 n w){i:Nat}:chg (i:Int) 0 (w.roots.map (·.phase)) ((Wce s w a).roots.map (·.phase))=We4 s i w a:=by
 obtain⟨h1,h2⟩:=Wsk (a:=a) h;unfold We4 Wq2;by_cases hb:0<=a.2.1/\a.2.1<w.roots.length
 .obtain⟨y,hy⟩:=h2 hb;have hk:a.2.1.toNat<w.roots.length:=by omega
  have hg:(Wce s w a).roots.getD a.2.1.toNat rt0=y:=by
   rw[hy,WJ (by rw[Xav];exact hk),List.getElem_set_self]
  rw[hg,WJ hk,hy,Xdw,Wrp _ _ _ (by rw[Xx];exact hk),Xdo,Xat];by_cases hne:y.phase=w.roots[a.2.1.toNat].phase
  .rw[Wb (λz=>z hne),Wb (λz=>z.2 hne)]
  .rw[Wf hne,Wf ⟨hb,hne⟩,show((a.2.1.toNat:Nat):Int)=a.2.1 by omega]
 .rw[h1 hb,Wj8,Wb (λz=>hb z.1)]
theorem WrB{R:Type}{K0:Int->Bool->Kaa->Int->Int->Int->Int->Kr->Ki->Kr->(List Y_Root)->(List Kn)->Option R}(hl:s.2.2.length<=1000)(hN:1048576<N):
  ∀(d j n:Nat) (m:Int) (w:Wo) (o:List Tn),j+d=s.2.2.length->d<n->WOk s.2.1 m w->m+d<=90000->o.length<=j->
  Zc7 N s K0 n (j:Int) o w.now w.token w.mem.1 w.shelf.2 w.mem.2 w.shelf.1 w.holds (w.roots.map Rt.e) w.hist=
   (λv:Wo=>K0 (s.2.2.length:Int) false (o++WfL s (s.2.2.drop j) j w) v.now v.token v.mem.1 v.shelf.2 v.mem.2 v.shelf.1 v.holds (v.roots.map Rt.e) v.hist) ((s.2.2.drop j).foldl (Wce s) w):=by
 intro d
 induction d with
 |zero=>
  intro j n m w o hj hn h hm ho;obtain⟨n,rfl⟩:∃n',n=n'+1:=⟨n-1,by omega⟩;have:j=s.2.2.length:=by omega
  subst this;simp only[Zc7,WO (Xl _),Wc,Xbr,Xer,WfL,Xbp]
 |succ d ih=>
  intro j n m w o hj hn h hm ho;obtain⟨n,rfl⟩:∃n',n=n'+1:=⟨n-1,by omega⟩;have hlt:j<s.2.2.length:=by omega
  have hw:(w.now,(w.token,((w.mem.1,w.mem.2),((w.shelf.1,w.shelf.2),(w.holds,(w.roots.map Rt.e,w.hist))))))=w.e:=rfl;have j7:w.roots.length<=4:=by rw[h.len];exact h.l4
  have mc:Zn5 N w.e s s.2.2[j]=ret (Wce s w s.2.2[j]).e:=Wtz h (by omega) hN;have hv:=Wn1 (a:=s.2.2[j]) h;have kI:(Wce s w s.2.2[j]).roots.length=w.roots.length:=by rw[hv.len,h.len]
  have hY:(((decide ((0:Int)<=Wh (w.roots.map Rt.e)))&&(decide (Wh (w.roots.map Rt.e)<=Wh (w.roots.map Rt.e))))&&(Wz (Xa (Wh (w.roots.map Rt.e)))))=true:=by
   unfold Wh;rw[Wt (by simp;omega)];simp
  rw[Zc7];simp only[WF hlt,hY,Wa];rw[Wva (by omega) (by simp[Wh]) hN];simp only[Wu hlt,Ww hlt,Wm (show j<4611686018427387904 by omega),Wa,hw,mc,Xd,ret];have h2:=λ(K:Int->Bool->List Tn->Option R)=>WuM (N:=N) (s:=s) (i:=(j:Int)) (l:=(Wce s w s.2.2[j]).roots) (v:=w.roots.map (·.phase)) (fx:=(Wce s w s.2.2[j]).e.1) (fN:=(Wce s w s.2.2[j]).e.2.1) (gG:=(Wce s w s.2.2[j]).e.2.2.1.1) (gH:=(Wce s w s.2.2[j]).e.2.2.2.1.2) (eG:=(Wce s w s.2.2[j]).e.2.2.1.2) (fE:=(Wce s w s.2.2[j]).e.2.2.2.1.1) (fF:=P4 (Wce s w s.2.2[j]).e) (gI:=Q6 (Wce s w s.2.2[j]).e) (K0:=K) (by omega) (by rw[Xx,kI]) (Wce s w s.2.2[j]).roots.length 0 N o (by omega) (by omega) (by omega);refine(h2 _).trans ?_;rw[Xak,Xak,Wsn h,Xai hlt,WfL,Xdh,←Xaw];exact ih (j+1) n (m+1) (Wce s w s.2.2[j]) _ (by omega) (by omega) hv (by omega) (by have:=Wgt (s:=s) (w:=w) (a:=s.2.2[j]) j;simp;omega)
theorem WnM(hb:SB s)(hN:1048576<N):Zi5 N s=ret (if WlP s=true then WfL s s.2.2 0 (WmL s)else []):=by
 unfold Zi5;rw[Wjd hb hN];simp only[ret,Xd];cases hs:WlP s with
 |false=>rfl
 |true=>
  simp only[Xo,Wc,W2];rw[Wt1 hs hN];simp only[ret,Xd];have:=WrB (s:=s) (N:=N) (K0:=λt39 qg bW fN gG gH iH eG fE fF fG gI=>(some ((),(bW,())):Option (Unit×(List Tn×Unit)))) (by have:=(WdA hs).2.2.1;omega) hN s.2.2.length 0 N 0 (WmL s) [] (by omega) (by have:=(WdA hs).2.2.1;omega) (Wnq hs) (by have:=(WdA hs).2.2.1;omega) (by simp);rw[Xak,Xaq]at this;exact this
end
end Go.Sx
