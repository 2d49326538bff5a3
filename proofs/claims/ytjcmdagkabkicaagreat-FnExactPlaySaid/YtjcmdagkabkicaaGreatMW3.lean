/- Plain laws of the Lean functions. -/
import Derived.Test.YtjcmdagkabkicaaGreatMW2
open List renaming length_set→Xat,getElem_mem→Xv,set→Xe,map_set→Xeo,set_getElem_self→Xbg,getD→Xc,length_map→Xu,mem_map→Xw,foldl_cons→Xdh,length_cons→Xr,getD_eq_getElem?_getD→Xbl,pairwise_iff_getElem→Xao,set_set→Xct,mem_of_getElem?→Xas,filter_cons_of_pos→Xfy,filter_cons_of_neg→Xfx,append_eq→Xbb,length_eq_zero_iff→Xfw,filter_eq_nil_iff→Xga,append→Xh,length→Xb,pairwise_cons→Xy,mem_cons_self→Xj,mem_cons_of_mem→Xf,length_nil→Xby,nil_append→Xbd,length_dropLast→Xda,drop_length→Xbz,drop_eq_getElem_cons→Xaz,drop_zero→Xbk,replicate→Xp,map_replicate→Xec,foldl_nil→Xgd,eq_of_mem_replicate→Xfp,mem_or_eq_of_mem_set→Xdy,getElem_set_self→Xgf
open Option renaming bind_some→Xd
open Int renaming toNat_natCast→Xl,tdiv_eq_ediv_of_nonneg→Xcy,tmod_eq_emod_of_nonneg→Xcz,toNat→Xa
open Bool renaming and_self→Xan,not_true→Xk,and_eq_false_iff→Xcl,true_and→Xcb,and_eq_true→Xi,not_false→Xbq,false_eq_true→Xap
open Nat renaming le_refl→Xm,zero_add→Xaw,le_trans→Xak
namespace Go.Sx
set_option linter.unusedVariables false
set_option linter.unusedSimpArgs false
section
variable{N:Nat}{s:Sc}{p:Pg}{w:Wo}{n:Int}{a:Ac}{k:Nat}
theorem WnB{ps:List Pg}(h:∀p∈ps,POk p)(hk:k<ps.length):POk (ps.getD k pg0):=by
 grind
theorem WOk.tick(h:WOk s.2.1 n w):WOk s.2.1 (n+1) {w with now:=w.now+1}:=
 {h with now:=by(have:=h.now;simp_all),n0:=by have:=h.n0;omega,hist:=by(have:=h.hist;grind),root:=λk hk=>(h.root k hk).wk (by omega)}
theorem WOk.putQ{q:Wo×Rt}{w0:Wo}(h:WOk s.2.1 (n+1) {w0 with now:=w0.now+1})(hh:(w0.hist.length:Int)<=n)(hk:k<w0.roots.length)(hq:QOk (s.2.1.getD k pg0) (n+1) {w0 with now:=w0.now+1} q):WOk s.2.1 (n+1) (Wo.put q k):=by
 have hr:q.1.roots=w0.roots:=hq.roots;exact{
  len:=by show(q.1.roots.set k q.2).length=_;rw[Xat,hr];exact h.len
  l4:=h.l4
  progs:=h.progs
  now:=hq.now.trans h.now
  n0:=h.n0
  mem:=hq.mem
  shelf:=hq.shelf
  holds:=hq.holds
  histE:=λe he=>(hq.histE e he).elim (h.histE e) id
  hist:=by have:=hq.hist;show(q.1.hist.length:Int)<=n+1;grind
  root:=λi hi=>by
   change i<(q.1.roots.set k q.2).length at hi;rw[Xat,hr]at hi;show ROk _ _ ((q.1.roots.set k q.2)[i]);rw[List.getElem_set];by_cases he:k=i
   .subst he;rw[Wf rfl];exact hq.root
   .rw[Wc he];have:=h.root i hi;simp_all}
theorem Wiw(h:WOk s.2.1 n w):WOk s.2.1 (n+1) (Wp2 s w a):=by
 have ht:=h.tick;unfold Wp2;simp only;split
 .rename_i hb;have hk:a.2.1.toNat<w.roots.length:=by omega
  have hx:=ht.root a.2.1.toNat hk;have qC:=h.root a.2.1.toNat hk;have hg:GOk {w with now:=w.now+1}:=⟨h.mem,h.shelf,h.holds⟩;have hp:=WnB h.progs (show a.2.1.toNat<s.2.1.length by rw[←h.len];exact hk);have mo:w.roots.length<=4:=by rw[h.len];exact h.l4
  rw[WF hk];split
  .unfold WrT;rw[WF (show a.2.1.toNat<({w with now:=w.now+1}:Wo).roots.length from hk)];exact ht.putQ h.hist hk (WpG hp hg qC (by omega) h.n0)
  .split
   .split
    .rename_i hf;refine ht.putQ h.hist hk (hg.st ?_);have hl:=qC.live (by omega);obtain⟨f1,f2,f3⟩:=hl.fork hf.1;have hj:a.2.2.toNat<(s.2.1.getD a.2.1.toNat pg0).2.length:=by omega
     have gt:a.2.2.toNat<w.roots[a.2.1.toNat].fam.kids.length:=by rw[f3.len];exact hj
     have bL:KC ((s.2.1.getD a.2.1.toNat pg0).2.getD a.2.2.toNat []):=by rw[WF hj];exact hp.kids _ (Xv hj)
     exact{hx with live:=λ_=>{hl.wk (show n<=n+1 by omega)with fork:=λ_=>⟨f1,f2,Wpz gt h.mem bL f3 rfl⟩}}
    .exact ht
   .split
    .split
     .refine ht.putQ h.hist hk (hg.st ?_);exact{hx with live:=λhh=>{hx.live hh with}}
     .exact ht
    .exact ht
 .exact ht
theorem Wv6(h:WOk s.2.1 n w)(hn:n<=99999)(hN:1048576<N):Zmh N w.e s a=some (((Wp2 s w a).e,()),()):=by
 have ht:=h.tick;have th:=h.now;have qc:=h.n0;have mo:w.roots.length<=4:=by rw[h.len];exact h.l4
 unfold Zmh Wp2;simp only[Wj];rw[show P5 w.e=w.roots.map Rt.e from rfl,show w.e.1=w.now from rfl,Wap (by omega)];have ad:Wg (w.roots.map Rt.e)=(w.roots.length:Int):=by unfold Wg;simp
 rw[ad,WQ (by unfold I64;omega)];simp only[W1,ret,Xd];by_cases hb:0<=a.2.1/\a.2.1<w.roots.length
 .rw[Wf hb,We hb.1,We (show a.2.1<=(w.roots.length:Int) -1 by omega)];obtain⟨k,ti⟩:∃k:Nat,a.2.1=k:=⟨a.2.1.toNat,by omega⟩;have hk:k<w.roots.length:=by omega
  obtain⟨x,aN⟩:∃x,w.roots[k]=x:=⟨_,rfl⟩;have hx:=h.root k hk;rw[aN]at hx;have ja:k<s.2.1.length:=by rw[←h.len];exact hk
  have hp:=WnB h.progs ja;obtain⟨g1,g2,g3,g4,g5⟩:=woG hk aN;obtain⟨r0,r1,r2,r3,r4,r5,r6,r7,r8,eR,ew,dB,dF,dG,dV,fA,fB,eS,eT,fC,fD,fE⟩:=rtP x;have dz:∀y:Rt,(w.now+1,S4 (Xe (w.roots.map Rt.e) k y.e) w.e.2)=Wo.e (Wo.put ({w with now:=w.now+1},y) k):=λy=>by
   unfold Wo.put Wo.e;simp only[Xeo];rfl
  have cg:Wo.put ({w with now:=w.now+1},x) k={w with now:=w.now+1}:=by unfold Wo.put;simp only;rw[←aN,Xbg]
  simp only[ti,Xl,Xan,Xk,Wa];rw[g1,g4,WF hk,aN];simp only[Wb,r0,eS,eT,dz,cg,show w.e.2.2.1=w.mem from rfl];rw[WE,We ja];have tj:Xc s.2.1 k (([]:List Ka),([]:List Kz))=s.2.1.getD k pg0:=rfl;rw[tj];generalize iY:s.2.1.getD k pg0=p at*;have hg:GOk {w with now:=w.now+1}:=⟨h.mem,h.shelf,h.holds⟩;simp only[Wb,Wu];have bt:Zim N (Wo.e {w with now:=w.now+1}) (k:Int) p=some (((Wo.put (Whp {w with now:=w.now+1} x k p) k).e,()),()):=
   WtK (w:={w with now:=w.now+1}) hk aN (by grind) hp hg hx (by omega) (by have:=h.hist;grind) hN
  rw[bt];by_cases h1:a.1=1
  .simp_all [Wf,WrT,WF,Xd]
  .rw[Wc h1,Wc h1];by_cases h2:a.1=2
   .rw[Wf h2,Wf h2];by_cases hf:x.phase=2
    .rw[Wf hf,WQ (by have:=hp.k3;unfold I64 Wg;omega),show Wg p.2=(p.2.length:Int)from rfl];by_cases hj:0<=a.2.2/\a.2.2<p.2.length
     .rw[We hj.1,We (show a.2.2<=(p.2.length:Int) -1 by omega),Wf (show x.phase=2/\0<=a.2.2/\a.2.2<p.2.length from⟨hf,hj⟩)];obtain⟨j,lT⟩:∃j:Nat,a.2.2=j:=⟨a.2.2.toNat,by omega⟩;have eF:j<p.2.length:=by omega
      simp only[lT,Xl,Xan,Wb];rw[WE,We eF];obtain⟨f1,f2,f3⟩:=(hx.live (by omega)).fork hf;have bL:KC (p.2.getD j []):=by rw[WF eF];exact hp.kids _ (Xv eF)
      rw[Wl6 (code:=p.2.getD j []) (by rw[f3.len];exact eF) (by rw[f3.len];exact hp.k3) h.mem bL f3 rfl (by omega) hN];simp only[Xd,Wb];have:U21 (Wgw w.mem x.fam j (p.2.getD j [])).e x.e=Rt.e {x with fam:=Wgw w.mem x.fam j (p.2.getD j [])}:=rfl
      grind [WxE]
     grind
    simp_all
   .rw[Wc h2,Wc h2];by_cases h3:a.1=3
    .rw[Wf h3,Wf h3];have hd:S11 true x.e=Rt.e {x with doomed:=true}:=rfl;simp only[hd,dz,show(Cm.e x.cm).2.2.1=x.cm.phase from rfl,WU]
     grind
    simp_all
 .rw[Wc hb];have oc:(decide (0<=a.2.1)&&decide (a.2.1<=(w.roots.length:Int) -1))=false:=by
   rw[Xcl,Ws,Ws];omega
  rw[oc];rfl
theorem Wpj(h:WpN s=true):WOk s.2.1 0 (Wry s):=by
 obtain⟨h1,h2,h3,h4⟩:=WjC h;exact{
  len:=by simp[Wry]
  l4:=h2
  progs:=h4
  now:=rfl
  n0:=Int.le_refl _
  mem:=by
   show W0 (WnW s.1.1)=true;have:=h1.cells.len;unfold W0 WnW;simp only[Xu,this,decide_true,Xcb,Xi,Wi,List.all_eq_true];refine⟨by omega,λw hw=>?_⟩;obtain⟨v,hv,rfl⟩:=Xw.1 hw;have:=h1.cells.val v hv;rw[WhR];unfold wd0;simp only;omega
  shelf:=⟨Wss h1.map.1 h1.map.2,h1.cnt⟩
  holds:=⟨(λh hh=>by cases hh),List.Pairwise.nil⟩
  hist:=by simp[Wry]
  histE:=λh hh=>by cases hh
  root:=λk hk=>by
   simp only[Wry,List.getElem_replicate];exact{
    phase:=by simp
    tries:=by simp
    live:=λhh=>by simp at hh
    comm:=λhh=>by simp at hh
    undos:=λu hu=>by cases hu
    ul:=by simp
    rg:=by simp
    ord:=by simp}}
theorem WsE:∀(l:List Ac) (n:Int) (w:Wo),WOk s.2.1 n w->WOk s.2.1 (n+l.length) (l.foldl (Wp2 s) w)
 | [],n,w,h=>by simpa using h
 |a::l,n,w,h=>by
  have:=WsE l (n+1) _ (Wiw (a:=a) h);rw[Xdh,Xr];rw[show n+((l.length+1:Nat):Int)=n+1+l.length by omega];exact this
end
section
section
variable{N:Nat}{c:Cur}
end
end
section
section
variable{w:Wo}{x y z:Rt}{k:Nat}{p:Pg}{n:Int}{o:Opn}
end
section
variable{s:Sc}{w v u:Wo}{n:Int}{a:Ac}{k:Nat}
theorem Wwq(h:WOk s.2.1 n w)(hk:k<w.roots.length):(Whp {w with now:=w.now+1} w.roots[k] k (s.2.1.getD k pg0)).1.roots=w.roots:=
 (WpG (w:={w with now:=w.now+1}) (k:=k) (WnB h.progs (by rw[←h.len];exact hk)) ⟨h.mem,h.shelf,h.holds⟩ (h.root k hk) (by have:=h.l4;have:=h.len;omega) h.n0).roots
end
end
section
def owner(m:Mm)(i:Int):Int:=(WaA m i).2.2
section
variable{m:Mm}{c c':Cm}{i j:Int}{w:Wd}
end
end
section
section
variable{w:Wo}{x:Rt}{k:Nat}{p:Pg}{q:Wo×Rt}{o:Opn}{n:Int}
end
section
variable{s:Sc}{w v:Wo}{n:Int}{a:Ac}{k:Nat}{q:Wo×Rt}
end
end
section
variable{N:Nat}{s:Sc}{w:Wo}{n:Int}
theorem Wco{v:Int}(h0:v≠0)(hv:1<=v/\v<=524288):Zbt N v=some ((),(Wbe v,((v-1)%65536,()))):=by
 unfold Zbt;rw[show(v==(0:Int))=false by simpa using h0];have hi:WT .i64 v 1=v-1:=WQ (by unfold I64;omega);have hq:WpH .i64 (v-1) 65536=Wbe v:=by
  unfold WpH Wbe;rw[Xcy (by omega),Wto (by unfold I64;omega)]
 have hr:Wdj (v-1) 65536=(v-1)%65536:=by unfold Wdj;exact Xcz (by omega)
 simp only[Wa,show inz (65536:Int)=true from rfl,Wb,hi,hq,hr]
theorem WfO{k:Int}(hk:0<=k/\k<=7):Zkv N k=ret (Wa6 k):=by
 unfold Zkv Zdn Wa6;have h1:Wh .i64 (Wrz .i64 k 7) 3=7*k+3:=by
  rw[Whl (by unfold I64;omega),WJ (by unfold I64;omega)];omega
 have h2:Wdj (7*k+3) 4=(7*k+3)%4:=by unfold Wdj;exact Xcz (by omega)
 simp only[WcF,ret,Xd,We hk.1,We hk.2,Xan,Xk,Wa,show inz (4:Int)=true from rfl,Wb,h1,h2]
theorem Wb2{l:List Int}(h:SlOk l)(hN:1048576<N):Zdu N l=ret true:=by
 have hl:=h.len;have lp:∀(d j n:Nat) (s:List Bool),j+d=16->d<n->s.length=8->(∀c:Nat,s.getD c false=true->∃i,∃hi:i<l.length,i<j/\l[i]≠0/\Wbe l[i]=c)->
   Zb1 N l (some ((),(false,()))) (λgw cl cQ=>(some ((),(true,())))) n (j:Int) s=ret true:=by
  intro d
  induction d with
  |zero=>
   intro j n s hj hn _ _;obtain⟨n,rfl⟩:∃n',n=n'+1:=⟨n-1,by omega⟩;have:j=l.length:=by omega
   subst this;simp only[Zb1,WW (Xm _),Wa]
  |succ d ih=>
   intro j n s hj hn hs hb;obtain⟨n,rfl⟩:∃n',n=n'+1:=⟨n-1,by omega⟩;have ac:j<l.length:=by omega
   simp only[Zb1,WL ac,Ww ac,Wt ac,Wp (show j<4611686018427387904 by omega),Wb,WcF,ret,Xd];by_cases h0:l[j]=0
   .have e1:Zbt N l[j]=some ((),((-1:Int),((0:Int),()))):=by rw[h0];rfl
    have e2:(decide ((0:Int)<=l[j])&&decide (l[j]<=524288))=true:=by rw[h0];rfl
    rw[e1,e2];simp only[Xd,Xk,Wa,show decide ((-1:Int)<0)=true from rfl,Wb];exact ih (j+1) n s (by omega) (by omega) hs λc hc=>by
     obtain⟨i,hi,h1,h2,h3⟩:=hb c hc;exact⟨i,hi,by omega,h2,h3⟩
   .have hv:=h.val ac h0;have hk:=Wh8 hv;have s9:Wa6 (Wbe l[j])=((j/4:Nat):Int):=by
     rcases h.each j ac with h1|h1
     .exact WD h1 h0
     .exact h1.2
    have hq:WpH .i64 (j:Int) 4=((j/4:Nat):Int):=by
     unfold WpH;rw[Xcy (by omega),Wto (by unfold I64;omega)];omega
    have cX:s.getD (Xa (Wbe l[j])) false=false:=by
     rw[Bool.eq_false_iff];intro hc;obtain⟨i,hi,h1,h2,h3⟩:=hb _ hc;exact h.one i j hi ac h1 h2 h0 (by omega)
    have e2:(decide ((0:Int)<=l[j])&&decide (l[j]<=524288))=true:=by simp;omega
    have e3:decide (Wbe l[j]<(0:Int))=false:=Wk (by omega);have e4:inb (Wbe l[j]) s.length=true:=by unfold inb;rw[hs];simp;omega
    rw[Wco h0 hv,e2];simp only[Xd,Xk,Wa,e3,e4,Wb,cX,WfO hk,ret,s9,hq,bne_self_eq_false,show inz (4:Int)=true from rfl];refine ih (j+1) n _ (by omega) (by omega) (by simpa using hs) λc hc=>?_;by_cases hcj:c=(Wbe l[j]).toNat
    .exact⟨j,ac,by omega,h0,by omega⟩
    .have:s.getD c false=true:=by
      rw[Xbl,List.getElem?_set_ne (by omega),←Xbl]at hc;exact hc
     obtain⟨i,hi,h1,h2,h3⟩:=hb c this;exact⟨i,hi,by omega,h2,h3⟩
 unfold Zdu;rw[show((Wg l) !=(16:Int))=false by unfold Wg;rw[hl];rfl];have hr:(((decide ((0:Int)<=(8:Int)))&&(decide ((8:Int)<=(8:Int))))&&(Wz (Xa (8:Int))))=true:=by rw[Wq (by omega)];rfl
 rw[hr];simp only[Wa,Wb];refine lp 16 0 N _ (by omega) (by omega) (by simp) λc hc=>?_;rw[Xbl]at hc;by_cases h8:c<8
 .rw[List.getElem?_replicate,Wf (show c<Xa 8 from h8)]at hc;simp at hc
 .rw[List.getElem?_eq_none (by simp;omega)]at hc;simp at hc
theorem WeX{h:Shf}(hs:ShOk h)(hN:1048576<N):Zl8 N h=ret true:=by
 unfold Zl8;rw[Wb2 hs.slots hN,Wak,Wao.2 hs.cnt];rfl
theorem WbV{l:List Hd}(h:HOk l)(hl:l.length<=1048576)(hN:1048576<N):Zfz N l=ret true:=by
 have lp:∀(d j n:Nat),j+d=l.length->d<n->Za8 N l (some ((),(false,()))) (λkj bc=>(some ((),(true,())))) n (j:Int)=ret true:=by
  intro d
  induction d with
  |zero=>
   intro j n hj hn;obtain⟨n,rfl⟩:∃n',n=n'+1:=⟨n-1,by omega⟩;have:j=l.length:=by omega
   subst this;simp only[Za8,WW (Xm _),Wa]
  |succ d ih=>
   intro j n hj hn;obtain⟨n,rfl⟩:∃n',n=n'+1:=⟨n-1,by omega⟩;have ac:j<l.length:=by omega
   have hv:=h.val l[j] (Xv ac);have dm:=ih (j+1) n (by omega) (by omega);obtain⟨v1,v2,v3⟩:=Ws8.2 hv;simp only[Za8,WL ac,Ww ac,Wt ac,Wp (show j<4611686018427387904 by omega),Wb,WcF,v1,v2,v3,ret,Xd,Xk,Wa,dm];by_cases h0:j=0
   .subst h0;rfl
   .have e1:decide ((j:Int)>0)=true:=by simp;omega
    have e2:WT .i64 (j:Int) 1=((j-1:Nat):Int):=by rw[WQ (by unfold I64;omega)];omega
    have bK:j-1<l.length:=by omega
    have hw:=h.val l[j-1] (Xv bK);have hb:=Xao.1 h.up (j-1) j bK ac (by omega);simp only[e1,e2,Wb,Ww bK,Wt bK];have qD:=hb.1;unfold cfH at qD;by_cases hs:l[j-1].2.1=l[j].2.1
    .rw[show(l[j-1].2.1==l[j].2.1)=true by simpa using hs]at*;have dq:¬l[j-1].1>=l[j].1:=by
      simp only[Wb]at qD;omega
     obtain⟨m1,m2⟩:=hb.2 hs;rw[Wk (show¬l[j-1].2.1>l[j].2.1 by omega),Wk dq,show(l[j].2.2==2)=false by simpa using m2,show(l[j-1].2.2==2)=false by simpa using m1];rfl
    .have fF:¬l[j-1].2.1>l[j].2.1:=by
      rw[show(l[j-1].2.1==l[j].2.1)=false by simpa using hs]at qD;simp only[Wa]at qD;omega
     rw[Wk fF,show(l[j-1].2.1==l[j].2.1)=false by simpa using hs];rfl
 exact lp l.length 0 N (by omega) (by omega)
end
section
variable{N:Nat}{l:List Int}{k v:Int}{s:Shf}{u:Un}{o:Opn}{r:List Int}
theorem Wip(h:SlOk l)(hk:0<=k)(hN:1048576<N):Zgg N l k=ret (match Wlr l k with|some r=>(r.1:Int)|none=>-1):=by
 unfold Zgg Wlr;have hl:=h.len;have h1:=Win (l:=l) (p:=Wlm k) (N:=N) (lp:=λn j=>Zc7 N l k (λaq=>some ((),(aq,()))) (λkj bc=>some ((),((-1:Int),()))) n j) (K0:=λj=>some ((),(j,()))) (K1:=some ((),((-1:Int),()))) (by omega) (by omega)
  (λn j hj=>by
   simp only[Zc7,WL hj,Ww hj,Wt hj,Wp (show j<4611686018427387904 by omega),Wb];unfold Wlm;by_cases h0:l[j]=0
   .have e:Zbt N l[j]=some ((),((-1:Int),((0:Int),()))):=by unfold Zbt;rw[h0];rfl
    have e2:((-1:Int)==k)=false:=by simp;omega
    rw[e];simp only[Xd,e2,Wa,h0];rfl
   .have hv:=h.val hj h0;rw[Wco h0 hv];simp only[Xd,We (show k>=0 from hk),Wb,We (show l[j]>0 by omega),Xcb];by_cases e:Wbe l[j]=k
    .simp[e]
    .rw[show(Wbe l[j]==k)=false by simpa using e,Wk e])
  (λn=>by simp[Zc7,WW,Xm,Wa])
 rw[h1];cases fnd (Wlm k) l 0<;>rfl
theorem WdL(hk:0<=k/\k<=7):Zdn N k=ret true:=by
 unfold Zdn;rw[WcF,We hk.1,We hk.2];rfl
theorem WjS(h:SlOk l)(hk:0<=k/\k<=7)(hN:1048576<N):Zo0 N l k=some ((),((if WcA l k=0 then 0 else WcA l k-1),(decide (WcA l k≠0),()))):=by
 unfold Zo0 WcA;rw[Wb2 h hN,WdL hk,Wip h hk.1 hN];simp only[ret,Xd,Xk,Wa];cases hr:Wlr l k with
 |none=>rfl
 |some r=>
  obtain⟨hi,h1,h2,h3,h4,h5⟩:=Wcx h hr;simp only[Wk (show¬((r.1:Int)<0) by omega),Wa,WE,We hi,Wb,Wt hi,h1];rw[Wco (by omega) ⟨h2,h3⟩,Wc (by omega),We (by omega)];simp only[Int.add_sub_cancel];rfl
theorem Wsh(hk:0<=k/\k<=7)(hv:0<=v/\v<=65535):Wh .i64 (Wh .i64 1 (Wrz .i64 k 65536)) v=1+65536*k+v:=by
 have e1:Wrz .i64 k 65536=k*65536:=Whl (by unfold I64;omega);have e2:Wh .i64 1 (k*65536)=1+k*65536:=WJ (by unfold I64;omega);rw[e1,e2,WJ (by unfold I64;omega)];omega
theorem WdB(h:SlOk l)(hk:0<=k/\k<=7)(hv:0<=v/\v<=65535)(hN:1048576<N):Zf0 N l k v=some ((),(WlJ l k v,(WcA l k,(true,())))):=by
 have hl:=h.len;unfold Zf0;rw[Wmk (by omega),Wb2 h hN,WdL hk,Wak,Wip h hk.1 hN,WfO hk,Wsh hk hv];simp only[ret,Xd,Xk,Wa,Wao.2 hv];unfold WlJ WcA;cases hr:Wlr l k with
 |some r=>
  obtain⟨hi,h1,h2,h3,h4,h5⟩:=Wcx h hr;simp only[We (show((r.1:Int)>=0) by omega),Wb,WE,We hi,Xl,Wt hi,h1];rw[WF hi,h1,Wco (by omega) ⟨h2,h3⟩,Xd];simp only;rw[WJ (a:=1) (by unfold I64;omega),Int.add_comm 1 ((r.2-1)%65536)]
 |none=>
  simp only[show decide ((-1:Int)>=0)=false from rfl,Wa];have hb:=Wte k;obtain⟨hi,h1,h2,h3⟩:=WiC h hk hr;rw[Whl (by unfold I64;omega)];obtain⟨N',rfl⟩:∃N',N=N'+1+1:=⟨N-2,by omega⟩;have ik:4*Wa6 k=(((4*Wa6 k).toNat:Nat):Int):=by omega
  have eJ:∀n,Zda (N'+1+1) l k v l (λaY=>some ((),(aY,((0:Int),(true,()))))) (λxf qx=>some ((),(l,((0:Int),(false,()))))) (n+1) (WeP l k:Int)=some ((),(l.set (WeP l k) (1+65536*k+v),((0:Int),(true,())))):=λn=>by
   simp only[Zda,WL hi,Ww hi,Wt hi,h1,Wb,beq_self_eq_true];rw[Xl,Wsh hk hv]
  rcases h3 with h3|⟨h3,h4⟩
  .rw[ik,←h3];exact eJ _
  .have ac:(4*Wa6 k).toNat<l.length:=by omega
   have hg:WbO l (4*Wa6 k) 0=l[(4*Wa6 k).toNat]:=WF ac _;rw[hg]at h4;rw[ik,Zda];simp only[WL ac,Ww ac,Wt ac,Wb];rw[show(l[(4*Wa6 k).toNat]==0)=false by simpa using h4,Wp (by omega),←h3];exact eJ _
theorem WeZ(h:SlOk l)(hk:0<=k/\k<=7)(hN:1048576<N):Zkx N l k=some ((),(Whu l k,(WcA l k,(true,())))):=by
 have hl:=h.len;unfold Zkx;rw[Wmk (by omega),Wb2 h hN,WdL hk,Wip h hk.1 hN];simp only[ret,Xd,Xk,Wa];unfold Whu WcA;cases hr:Wlr l k with
 |none=>rfl
 |some r=>
  obtain⟨hi,h1,h2,h3,h4,h5⟩:=Wcx h hr;simp only[Wk (show¬((r.1:Int)<0) by omega),Wa,WE,We hi,Wb,Xl];rw[WF hi,h1,Wco (by omega) ⟨h2,h3⟩,Xd];simp only;rw[WJ (a:=1) (by unfold I64;omega),Int.add_comm 1 ((r.2-1)%65536)]
theorem Whq(h:ShOk s):Zl9 N s=ret s:=by
 unfold Zl9;rw[Wmk (by have:=h.slots.len;omega)];rfl
theorem Wlf(hu:UnV u):Zpz N u=ret true:=by
 unfold Zpz;rcases hu with⟨h1,h2,h3⟩|⟨h1,h2,h3⟩|⟨h1,h2,h3⟩
 .rw[h1,WdL h2,Wak,Wao.2 h3];rfl
 .rw[h1,WdL h2,h3];rfl
 .rw[h1,h2,Wak,Wao.2 h3];rfl
theorem Wj4(h:ShOk s)(hu:UnV u)(hN:1048576<N):Zo2 N s u=some ((),(WfU s u,(true,()))):=by
 unfold Zo2 WfU;rw[Whq h,WeX h hN,Wlf hu];simp only[ret,Xd,Xk,Wa];have hc:=h.cnt;rcases hu with⟨h1,h2,h3⟩|⟨h1,h2,h3⟩|⟨h1,h2,h3⟩
 .rw[h1,WdB h.slots h2 h3 hN];rfl
 .rw[h1,WeZ h.slots h2 hN];rfl
 .have e1:WT .i64 s.2 u.2.2=s.2-u.2.2:=WQ (by unfold I64;omega);have e2:Wh .i64 (s.2-u.2.2) 65536=s.2-u.2.2+65536:=WJ (by unfold I64;omega);have e3:Wdj (s.2-u.2.2+65536) 65536=(s.2-u.2.2+65536)%65536:=WaB (by omega);rw[h1,e1,e2,e3];rfl
theorem WiX{e:Int}(he:0<=e/\e<=65536):Zma N k e=ret (WfI k e):=by
 unfold Zma WfI;by_cases h:e=0
 .rw[h];rfl
 .rw[show(e==0)=false by simpa using h,Wc h,WQ (by unfold I64;omega)];rfl
theorem Wm6(ho:WdV o=true)(ek:12<=o.1):Zmi N o=some ((),((WbZ o).1,((WbZ o).2,()))):=by
 have nS:=Wj8 ho;unfold Zmi WbZ;rw[WbP,Wlh ho ek];simp only[ret,Xd,bne_self_eq_false,Wa,Wu];have:o.1=12\/o.1=13\/o.1=14\/o.1=15\/o.1=16:=by omega
 rcases this with h|h|h|h|h<;>simp[h]
theorem WjU(h:ShOk s)(hr:Vals 4 r)(ho:WdV o=true)(ek:12<=o.1)(hN:1048576<N):
  Zo3 N s o r=some ((),((Wa2 s o r).1,((Wa2 s o r).2.1,((Wa2 s o r).2.2,(true,()))))):=by
 have nS:=Wj8 ho;have ct:=hr.len;have hc:=h.cnt;unfold Zo3 Wa2;rw[Whq h,Wmk (by omega)];simp only[ret,Xd];rw[WeX h hN,Wdo (by omega) hN,Wcn.2 hr,WbP,Wlh ho ek];simp only[ret,Xd,Xk,Wa,bne_self_eq_false,Wu,show inz (65536:Int)=true from rfl,Wb,Wj,Xat];by_cases e1:o.1=12
 .obtain⟨a,b,c⟩:=Wrk ho e1;rw[Wbb]at a;rw[Wf e1,Wf e1,WS b ct,WS c ct];have hg:=Wdz s.1 o.2.1;rw[WdB h.slots a (hr.get _) hN];simp only[Wb,Xd,WiX hg,ret];rw[WaB (by omega)];rfl
 rw[Wc e1,Wc e1];by_cases e3:o.1=14
 .obtain⟨a,b⟩:=WqJ ho e3;rw[Wbb]at a;have hg:=Wdz s.1 o.2.1;rw[Wf e3,Wc (by omega),Wf e3,WS b ct,WeZ h.slots a hN];simp only[Wb,Xd,WiX hg,ret];rw[WaB (by omega)];rfl
 rw[Wc e3];by_cases e2:o.1=13
 .obtain⟨a,b⟩:=Wsd ho e2;rw[Wbb]at b;have hg:=Wdz s.1 o.2.2.1;rw[Wf e2,Wf e2,WS a ct,WjS h.slots b hN];simp only[Wb,Xd];by_cases hz:WcA s.1 o.2.2.1=0
  .rw[hz];rfl
  .rw[Wc hz,We hz,WJ (by unfold I64;omega),WaB (by omega),Int.sub_add_cancel];simp only[Wb,Xct];rfl
 rw[Wc e2,Wc e2,Wc e3];by_cases e4:o.1=15
 .have a:=Wwt ho e4;have hv:=hr.get o.2.1.toNat;rw[Wf e4,Wf e4,WS a ct];simp only[Wb];rw[WJ (by unfold I64;omega),WaB (by omega)];rfl
 .rw[Wc e4,Wc e4,WS (WuP ho (by omega)) ct];rfl
end
section
variable{N:Nat}{l:List Hd}{who what mode b:Int}
theorem WgN(h:HOk l)(hl:l.length<=1048576)(hN:1048576<N):Zii N l who what=ret (Wjo l who what):=by
 unfold Zii Wjo;rw[WbV h hl hN];simp only[ret,Xd,Xk,Wa];have h1:=Wx (l:=l) (V:=Unit) (R:=Unit×Kh) (lp:=λn j v=>Zck N l who what (λaz=>some ((),(az,()))) (λgX dw=>some ((),((0:Int),()))) n j) (n:=N) (by omega)
  (body:=λj x v k=>bif WmA who what x then some ((),(x.2.2,()))else k v) (K:=λ_ v=>some ((),((0:Int),())))
  (λn i v hi=>by
   simp only[Zck,WL hi,Ww hi,Wt hi,Wp (show i<4611686018427387904 by omega),Wb];unfold WmA;by_cases c1:l[i].1=who<;>by_cases c2:l[i].2.1=what<;>simp[Wu,c1,c2])
  (λn v=>by simp[Zck,WW,Xm,Wa]) ()
 refine(h1.trans (WdT (p:=WmA who what) (E:=λ_ x=>some ((),(x.2.2,()))) l 0 () λj x v k _=>rfl)).trans ?_;cases fnd (WmA who what) l 0<;>rfl
theorem WpL(h:HOk l):Wjo l who what>0↔∃x∈l,x.1=who/\x.2.1=what:=by
 unfold Wjo;cases hf:fnd (WmA who what) l 0 with
 |none=>
  refine⟨λz=>by simp at z,λ⟨x,hx,e1,e2⟩=>?_⟩;have:=WgL hf x hx;simp[WmA,e1,e2]at this
 |some r=>
  have g:=WcK hf;have hm:=Xas g.2.2.2;have hp:WmA who what r.2=true:=g.1;unfold WmA at hp;simp only[Xi,Wi]at hp;exact⟨λ_=>⟨r.2,hm,hp.1,hp.2⟩,λ_=>by have:=(h.val _ hm).2.2;show r.2.2.2>0;omega⟩
def WeY(l:List Hd)(who:Int)(c:Nat):List Int:=((List.range' c (9-c)).filter λw:Nat=>decide (Wjo l who (w:Int)>0)).map λw:Nat=>(w:Int)
theorem WdC(h:HOk l)(hl:l.length<=1048576)(hN:1048576<N):∀(d c n:Nat) (o:List Int),c+d=9->d<n->o.length<=c->
  Zb2 N l who (λnQ bc bD=>some ((),(bD,()))) n (c:Int) o=ret (o++WeY l who c)
 |d,c,0,o,_,h2,_=>by omega
 |0,c,n+1,o,hc,_,_=>by
  have:c=9:=by omega
  subst this;simp[Zb2,WeY,ret]
 |d+1,c,n+1,o,hc,hn,ho=>by
  have e1:decide ((c:Int)<9)=true:=by simp;omega
  have er:WeY l who c=(if Wjo l who (c:Int)>0 then [(c:Int)]else [])++WeY l who (c+1):=by
   unfold WeY;rw[show 9-c=(9-(c+1))+1 by omega,List.range'_succ];by_cases hp:Wjo l who (c:Int)>0
   .rw[Wf hp,Xfy (by simpa using hp)];rfl
   .rw[Wc hp,Xfx (by simpa using hp)];rfl
  rw[Zb2,e1,Wb,WgN h hl hN];simp only[ret,Xd,WU];rw[er,Wp (show c<4611686018427387904 by omega)];by_cases hp:Wjo l who (c:Int)>0
  .rw[Wf hp,Wf hp,Wq (by simp;omega)];simp only[Wb,Xbb];rw[WdC h hl hN d (c+1) n _ (by omega) (by omega) (by simp;omega)];simp
  .rw[Wc hp,Wc hp,WdC h hl hN d (c+1) n _ (by omega) (by omega) (by omega)];simp
theorem WjY(h:HOk l)(hl:l.length<=1048576)(hN:1048576<N):Zhf N l who=ret (WeY l who 0):=by
 unfold Zhf;exact WdC h hl hN 9 0 N [] (by omega) (by omega) (by simp)
theorem Woz(h:HOk l):(WeY l who 0).length=0↔(WdX l who).length=0:=by
 unfold WeY WdX;rw[Xu,Xu,Xfw,Xfw,Xga,Xga];constructor
 .intro z x hx e;have hv:=h.val x hx;refine z x.2.1.toNat (by rw[List.mem_range'_1];have:=hv.2.1;omega) ?_;rw[Wi,Int.toNat_of_nonneg hv.2.1.1,WpL h];exact⟨x,hx,by simpa using e,rfl⟩
 .intro z w hw e;rw[Wi,WpL h]at e;obtain⟨x,hx,e1,e2⟩:=e;exact z x hx (by simpa using e1)
theorem Wlq(h:HOk l)(hm:1<=mode/\mode<=2)(hl:l.length<=1048576)(hN:1048576<N):Zkm N l who what mode=ret (WfM l who what mode):=by
 unfold Zkm WfM;rw[WbV h hl hN,WcF];simp only[ret,Xd,Xk,Wa,We hm.1,We hm.2,Xan];have h1:=Wx (l:=l) (V:=List Int) (R:=Unit×(List Int×Unit)) (lp:=λn j v=>Zam N l who what mode (λsc fM cy=>(some ((),(cy,())))) n j v) (n:=N) (by omega)
  (body:=λj x v k=>bif x.2.1==what then(bif x.1 !=who then(bif mode==2 then(bif Wz (v.length+ [x.1].length)then k (Xh v [x.1])else none)else(bif x.2.2==2 then(bif Wz (v.length+ [x.1].length)then k (Xh v [x.1])else none)else k v))else k v)else k v) (K:=λ_ v=>ret v)
  (λn i v hi=>by simp only[Zam,WL hi,Ww hi,Wt hi,Wp (show i<4611686018427387904 by omega),Wb])
  (λn v=>by simp[Zam,WW,Xm,Wa]) []
 refine h1.trans ?_;rw[WdH (p:=blk who what mode) (f:=(·.1)) l 0 [] (by simp;omega) (λj x v k _ hv=>by
  rw[Wq (by simp;omega)];unfold blk;simp only[Wu,Was,Wb,Xbb];by_cases c1:x.2.1=what<;>by_cases c2:x.1=who<;>by_cases c3:mode=2<;>by_cases c4:x.2.2=2<;>simp[c1,c2,c3,c4])]
 rfl
theorem Wi9(h:HOk l)(hl:l.length<=1048576)(hN:1048576<N):Zh6 N l who=ret (WV l who):=by
 unfold Zh6 WV;rw[WbV h hl hN];simp only[ret,Xd];have h1:=Wx (l:=l) (V:=List Hd) (R:=Unit×(List Hd×Unit)) (lp:=λn j v=>Zaw N l who true (λkj bc bD=>(some ((),(bD,())))) n j v) (n:=N) (by omega)
  (body:=λj x v k=>bif x.1 !=who then(bif Wz (v.length+ [x].length)then k (Xh v [x])else none)else k v) (K:=λ_ v=>ret v)
  (λn i v hi=>by simp only[Zaw,WL hi,Ww hi,Wt hi,Wp (show i<4611686018427387904 by omega),Wb,Xk,Wa])
  (λn v=>by simp[Zaw,WW,Xm,Wa]) []
 refine h1.trans ?_;rw[WdH (p:=λh=>!(h.1==who)) (f:=λh=>h) l 0 [] (by simp;omega) (λj x v k _ hv=>by
  rw[Wq (by simp;omega)];rfl)]
 simp[ret]
theorem Wpr{e:Hd}{who what b:Int}(he:e=(who,what,b)):∀(r a o:List Hd) (dn:Bool) (n:Nat),l=a++r->r.length<n->l.length<=1000->o.length+2*r.length<=5000->Ris cfH r->(dn=true->∀x∈r,¬(x.1=who/\x.2.1=what))->
  Zk N l who what b (λiw xg si da=>
  (bif !iw then
 (bif Wz ((Xb da)+(Xb ([(who,(what,b))])))then
 (some ((),(Xh da ([(who,(what,b))]),(true,()))))else none)
 else
 (some ((),(da,(true,())))))) n dn (a.length:Int) o=some ((),(o++(if dn=true then r else WbH cfH r e),(true,())))
 |r,a,o,dn,0,_,h2,_,_,_,_=>by omega
 | [],a,o,dn,n+1,hl,_,h1,h3,_,_=>by
  have e1:decide ((a.length:Int)<Wg l)=false:=by rw[hl];simp[Wg]
  rw[Zk,e1,Wa];cases dn
  .simp only[Xbq,Wb];rw[Wq (by simp;omega),he];rfl
  .simp
 |x::r,a,o,dn,n+1,hl,hn,h1,h3,hr,hd=>by
  have ac:a.length<l.length:=by rw[hl];simp
  have hx:l[a.length]=x:=by simp[hl]
  have dH:l=(a++ [x])++r:=by rw[hl];simp
  have ch:Ris cfH r:=(Xy.1 hr).2;have jW:∀y∈r,cfH x y<0:=(Xy.1 hr).1;have ea:(a.length:Int)+1=((a++ [x]).length:Int):=by simp
  have rm:∀v:List Hd,v.length<=6000->∀y:Hd,Wz (v.length+ [y].length)=true:=λv hv y=>Wq (by simp;omega);have ix:Wh .i64 (a.length:Int) 1=((a++ [x]).length:Int):=by rw[WJ (by unfold I64;omega),ea]
  rw[Zk];simp only[WL ac,Ww ac,Wt ac,hx,Wb,ix,Xbb];simp only[Xr]at hn h3;cases dn with
  |true=>
   have hk:=hd rfl x (Xj ..);simp only[Xk,Wa];have ih:=Wpr he r (a++ [x]) (o++ [x]) true n dH (by omega) h1 (by simp;omega) ch λ_ y hy=>hd rfl y (Xf _ hy);rw[rm o (by omega) x];simp only[Was,Wb];have fin:o++ [x]++(if true=true then r else WbH cfH r e)=o++(if true=true then x::r else WbH cfH (x::r) e):=by simp
   rw[fin]at ih;by_cases c:x.2.1=what
   .rw[Wf c,Wc (λz=>hk ⟨z,c⟩)];exact ih
   .rw[Wc c];exact ih
  |false=>
   simp only[Xbq,Wb,WU];rw[rm o (by omega) x,rm o (by omega) (who,what,b),rm (o++ [(who,what,b)]) (by simp;omega) x];simp only[Was,Wb];have tm:=Wpr he r (a++ [x]) (o++ [x]) false n dH (by omega) h1 (by simp;omega) ch (λz=>by cases z);have key:∀y∈r,¬cfH x e<0->¬(y.1=who/\y.2.1=what):=λy hy bI z=>by
    have:=jW y hy;have h2:cfH x y<0↔cfH x e<0:=WiR rfl rfl (by rw[he];exact z.1) (by rw[he];exact z.2);exact bI (h2.1 this)
   have lt_iff:cfH x e<0↔¬(x.2.1>what)/\¬(x.2.1=what/\x.1>=who):=by
    rw[he,Wbk];simp only;omega
   have gt_iff:¬cfH x e<0->(cfH e x<0↔¬(x.1=who/\x.2.1=what)):=by
    rw[he,Wbk,Wbk];simp only;omega
   have tn:¬cfH x e<0->Zk N l who what b _ n true ((a++ [x]).length:Int) (if x.1=who/\x.2.1=what then o++ [(who,what,b)]else o++ [(who,what,b)]++ [x])=some ((),(o++(if false=true then x::r else WbH cfH (x::r) e),(true,()))):=λbI=>by
    rw[Wpr he r (a++ [x]) _ true n dH (by omega) h1 (by split<;>(simp;omega)) ch λ_ y hy=>key y hy bI];have ep:WbH cfH (x::r) e=if x.1=who/\x.2.1=what then e::r else e::x::r:=by
     rw[WbH,Wc bI];by_cases c:x.1=who/\x.2.1=what
     .rw[Wf c,Wc (λz=>(gt_iff bI).1 z c)]
     .rw[Wc c,Wf ((gt_iff bI).2 c)]
    simp only[reduceIte,Xap];rw[ep,he];by_cases c:x.1=who/\x.2.1=what
    .rw[Wf c,Wf c];simp
    .rw[Wc c,Wc c];simp
   by_cases gQ:cfH x e<0
   .obtain⟨c1,c2⟩:=lt_iff.1 gQ;have fin:o++ [x]++(if false=true then r else WbH cfH r e)=o++(if false=true then x::r else WbH cfH (x::r) e):=by
     rw[Wc (by simp),Wc (by simp),WbH,Wf gQ];simp
    rw[fin]at tm;rw[Wc c1];simp only[Wu];by_cases c:x.2.1=what
    .rw[Wf c,Wc (λz=>c2 ⟨c,z⟩),Wf c,Wc (λz=>c2 ⟨c,by omega⟩)];exact tm
    .rw[Wc c,Wc c];exact tm
   .have hh:=tn gQ;by_cases c1:x.2.1>what
    .rw[Wc (by omega)]at hh;rw[Wf c1,Wc (by omega)];exact hh
    .rw[Wc c1];have c2:x.2.1=what/\x.1>=who:=by
      apply Classical.byContradiction;intro z;exact gQ (lt_iff.2 ⟨c1,z⟩)
     simp only[Wu];rw[Wf c2.1,Wf c2.2,Wf c2.1];by_cases c3:x.1=who
     .rw[Wf ⟨c3,c2.1⟩]at hh;rw[Wf c3];exact hh
     .rw[Wc (λz=>c3 z.1)]at hh;rw[Wc c3];exact hh
theorem Wj7(h:HOk l)(hw:1<=who/\who<=9)(ht:0<=what/\what<=8)(hm:1<=mode/\mode<=2)(hl:l.length<=1000)(hN:1048576<N):
  Zi8 N l who what mode=some ((),((Wc7 l who what mode).getD l,((Wc7 l who what mode).isSome,()))):=by
 unfold Zi8 Wc7;rw[WbV h (by omega) hN,WcF,WcF,WcF,Wlq h hm (by omega) hN];simp only[ret,Xd,Xk,Wa,We hw.1,We hw.2,We ht.1,We ht.2,We hm.1,We hm.2,Xan,WU];by_cases hb:WfM l who what mode= []
 .rw[Wc (by rw[hb];simp[Wg]),Wf hb,WgN h (by omega) hN];simp only[ret,Xd];have em:Wsi mode (Wjo l who what)=Woc (Wjo l who what) mode:=by unfold Wsi Woc;split<;>split<;>omega
  rw[em];have:=Wpr (N:=N) (l:=l) (e:=(who,what,Woc (Wjo l who what) mode)) rfl l [] [] false N (by simp) (by omega) hl (by simp;omega) h.ris (λz=>by cases z);refine this.trans ?_;rfl
 .rw[Wf (by
   have:=List.length_pos_iff.2 hb;unfold Wg;omega),Wc hb,Wq (by simp;omega)]
  rfl
end
section
variable{N:Nat}{c:Cm}{m:Mm}
theorem Wds(hm:W0 m=true):Zdk N m=ret m:=by
 have:=(WC hm).1;simp_all [Zdk,Wq]
theorem WhB(h:CmOk c):Zmb N c.e=ret c.e:=by
 have h1:=h.plen;have h2:=h.rlen;obtain⟨c0,c1,c2,c3,c4,c5,c6⟩:=cmP c;unfold Zmb;simp only[c5,c6,Xby,Xaw,Wq (show c.puts.length<=1073741824 by omega),Wq (show c.reads.length<=1073741824 by omega),Wb];rfl
theorem WgF{l:List Int}(hp:l.Pairwise (· < ·))(hc:∀x∈l,0<=x/\x<=7)(hl:l.length<=8){X Y:Option Ke}:∀(d i n:Nat),i+d=l.length->d<n->Zbb N l X (λ_ _=>Y) n (i:Int)=Y
 |d,i,0,_,h=>by omega
 |0,i,n+1,h,_=>by
  rw[Zbb,WW (by omega),Wa]
 |d+1,i,n+1,h,hn=>by
  have hi:i<l.length:=by omega
  have ih:=WgF hp hc hl (X:=X) (Y:=Y) d (i+1) n (by omega) (by omega);have xW:Wau l[i]=true:=WdU (hc _ (Xv hi));rw[Zbb];simp only[WL hi,Ww hi,Wt hi,Wp (show i<4611686018427387904 by omega),Wb,WbM,xW,ret,Xd,Xk,Wa,ih];by_cases h0:i=0
  .subst h0;rfl
  .obtain⟨j,rfl⟩:∃j,i=j+1:=⟨i-1,by omega⟩;have hj:j<l.length:=by omega
   have e:WT .i64 ((j+1:Nat):Int) 1=(j:Int):=by rw[WQ (by unfold I64;omega)];omega
   have ac:=(Xao.1 hp) j (j+1) hj hi (by omega);rw[e,Ww hj,Wt hj,Wk (show¬l[j+1]<=l[j] by omega)];simp
theorem WjH(hp:c.puts.Pairwise λa b=>a.1<b.1)(hl:c.puts.length<=8){X Y:Option Ke}:∀(d i n:Nat),1<=i->c.puts.length<=i+d->d<n->Zet N c.e X (λ_ _=>Y) n (i:Int)=Y
 |d,i,0,_,_,h=>by omega
 |d,i,n+1,h1,h,hn=>by
  obtain⟨c0,c1,c2,c3,c4,c5,c6⟩:=cmP c;rw[Zet];simp only[c5];by_cases hi:i<c.puts.length
  .obtain⟨d,rfl⟩:∃d',d=d'+1:=⟨d-1,by omega⟩;have ih:=WjH hp hl (X:=X) (Y:=Y) d (i+1) n (by omega) (by omega) (by omega);obtain⟨j,rfl⟩:∃j,i=j+1:=⟨i-1,by omega⟩;have hj:j<c.puts.length:=by omega
   have e:WT .i64 ((j+1:Nat):Int) 1=(j:Int):=by rw[WQ (by unfold I64;omega)];omega
   have ac:=(Xao.1 hp) j (j+1) hj hi (by omega);simp only[WL hi,Ww hi,Wt hi,e,Ww hj,Wt hj,Wb,Wk (show¬c.puts[j+1].1<=c.puts[j].1 by omega),Wa,Wp (show j+1<4611686018427387904 by omega)];exact ih
  .rw[show decide ((i:Int)<Wg c.puts)=false by unfold Wg;simp;omega,Wa]
theorem Wrt:Zp1 N c.e=ret c.steps:=by
 obtain⟨c0,c1,c2,c3,c4,c5,c6⟩:=cmP c;unfold Zp1 Cm.steps;simp only[c2,c5,c6,Wu]
 repeat' split
 all_goals first
  |rfl
  |omega
theorem Wi6(h:CmOk c)(hN:1048576<N):Zgi N c.e=ret true:=by
 obtain⟨c0,c1,c2,c3,c4,c5,c6⟩:=cmP c;have h1:=h.plen;have h2:=h.rlen;have hs:c.steps<=8:=by unfold Cm.steps;split<;>(try split)<;>omega
 have co:=h.pos;unfold Zgi;have hR:Zjv N c.reads=ret true:=WgF h.rup h.rd h2 c.reads.length 0 N (by omega) (by omega);have kM:Waj c.puts=true:=by
  unfold Waj;rw[Wig.2 h.rows,We (by omega)];rfl
 simp only[c0,c1,c2,c3,c4,c5,c6,WcF,ret,Xd,We h.who.1,We h.who.2,We h.rv.1,We h.rv.2,We h.wv.1,We h.wv.2,We h.phase.1,We h.phase.2,Xan,Xk,Wa,Wdx (show c.puts.length<=1048576 by omega) hN,kM,hR,Wrt];refine(WjH h.pup h1 8 1 N (by omega) (by omega) (by omega)).trans ?_;rw[WQ (by unfold I64;omega),We co.1,We (by omega)];rfl
theorem Wdl(h:CmOk c){n:Int}(hn:0<=n/\n<=8):Zan N c.e n=ret (Wep c n).e:=by
 unfold Zan Wep;by_cases e:n=0
 .rw[e];rfl
 .rw[show(n==0)=false by simpa using e,Wc e,Wa,WQ (by unfold I64;omega)];rfl
theorem Wnr(h:CmOk c)(hN:1048576<N):∃b,Zky N c.e=some ((),((Wbj c).e,(b,()))):=by
 obtain⟨c0,c1,c2,c3,c4,c5,c6⟩:=cmP c;have eU:=h.plen;have co:=h.pos;have pE:c.steps<=8:=by have:=h.plen;have:=h.rlen;unfold Cm.steps;split<;>(try split)<;>omega
 have fW:=h.phase;unfold Zky Wbj;rw[WhB h,Wi6 h hN];simp only[ret,Xd,Xk,Wa,WU,Wu,c2,c3,c5];have b1:=Wdl (N:=N) h (show 0<=c.pos/\c.pos<=8 by omega);have b2:=Wdl (N:=N) h (show 0<=Wg c.puts/\Wg c.puts<=8 by unfold Wg;omega);rw[b1,b2];by_cases h3:c.phase>3
 .rw[Wf h3,Wc (by omega),Wc (by omega)];exact⟨_,rfl⟩
 .rw[Wc h3];by_cases h1:c.phase=1
  .rw[Wf h1,Wf h1];exact⟨_,rfl⟩
  .rw[Wc h1,Wc h1,Wf (by omega)];exact⟨_,rfl⟩
theorem WjK{l:List Rw}(hl:l.length<=1048576)(hN:1048576<N):Zi7 N l=ret ((WcO l).map (·.1)):=by
 unfold Zi7;rw[Wd6 hl hN];simp only[ret,Xd];have h8:=WcS l;have h1:=Wx (l:=WcO l) (V:=List Int) (R:=Unit×(List Int×Unit)) (lp:=λn j v=>Zdb N (WcO l) (λi9 ar aA=>(some ((),(aA,())))) n j v) (n:=N) (by omega)
  (body:=λj x v k=>bif Wz (v.length+ [x.1].length)then k (Xh v [x.1])else none) (K:=λ_ v=>ret v)
  (λn i v hi=>by simp only[Zdb,WL hi,Ww hi,Wt hi,Wp (show i<4611686018427387904 by omega),Wb])
  (λn v=>by simp[Zdb,WW,Xm,Wa]) []
 refine h1.trans ?_;rw[WdH (p:=λ_=>true) (f:=(·.1)) (WcO l) 0 [] (by simp;omega) (λj x v k _ hv=>by rw[Wq (by simp;omega)];rfl),show(WcO l).filter (λ_=>true)=WcO l from List.filter_eq_self.2 λ_ _=>rfl];rfl
theorem Wqf{who rv:Int}{puts reads:List Rw}(hw:1<=who/\who<=99)(hr:0<=rv/\rv<=1000000)(hp:Waj puts=true)(hd:Waj reads=true)(hN:1048576<N):Zfn N who rv puts reads=some ((),((WfW who rv puts reads).e,(true,()))):=by
 have l1:puts.length<=300:=by unfold Waj at hp;simp at hp;exact hp.1
 have l2:reads.length<=300:=by unfold Waj at hd;simp at hd;exact hd.1
 unfold Zfn WfW;simp only[WcF,ret,Xd,We hw.1,We hw.2,We hr.1,We hr.2,Xan,Xk,Wa,Wdx (show puts.length<=1048576 by omega) hN,Wdx (show reads.length<=1048576 by omega) hN,hp,hd,Wd6 (show puts.length<=1048576 by omega) hN,WjK (show reads.length<=1048576 by omega) hN,Wu];by_cases e:(WcO puts).length=0
 .rw[Wf (by unfold Wg;omega),Wf e];rfl
 .rw[Wc (by unfold Wg;omega),Wc e];rfl
theorem Wpe(hm:W0 m=true){i who:Int}(hi:0<=i/\i<=7)(hw:1<=who/\who<=99)(hN:1048576<N):
  Zpq N m i who=some ((),((if(WaA m i).2.2=0 then Wuo m i who else m),(decide ((WaA m i).2.2=0),()))):=by
 unfold Zpq;rw[Wds hm,Wb3 (by grind [WC]) hN,hm];simp only[ret,Xd,Xk,Wa,WbM,WdU hi,WcF,We hw.1,We hw.2,Xan,Wcj hm hi,Wb,Wdq,Was];by_cases h:(WaA m i).2.2=0
 .rw[Wf h,Wf h,We h];rfl
 simp_all
theorem WiS(hm:W0 m=true){i who:Int}(hi:0<=i/\i<=7)(hw:1<=who/\who<=99)(hN:1048576<N):Zno N m i who=ret ((WaA m i).2.2==who):=by
 unfold Zno;rw[Wb3 (by grind [WC]) hN,hm];simp only[ret,Xd,WbM,WdU hi,WcF,We hw.1,We hw.2,Xan,Wcj hm hi,Wb,Wdq]
theorem Wn4(hm:W0 m=true){i who v:Int}(hi:0<=i/\i<=7)(hw:1<=who/\who<=99)(hv:0<=v/\v<=65535)(hN:1048576<N):
  ∃b,Zos N m i who v=some ((),(Wjy m i who v,(b,()))):=by
 unfold Zos Wjy;rw[Wds hm,WiS hm hi hw hN];simp only[ret,Xd,Wak,Wao.2 hv,Xk,Wa,Wcj hm hi,Wb,Wdq];by_cases h:(WaA m i).2.2=who
 .rw[Wf h,beq_iff_eq.2 h];exact⟨true,rfl⟩
 .rw[Wc h,beq_eq_false_iff_ne.2 h];exact⟨false,rfl⟩
theorem Wgz(hm:W0 m=true){i who ver:Int}(hi:0<=i/\i<=7)(hw:1<=who/\who<=99)(hN:1048576<N):
  ∃b,Zik N m i who ver=some ((),(WeT m i who ver,(b,()))):=by
 have h8:=(WC hm).1;unfold Zik WeT;rw[Wds hm,WiS hm hi hw hN];simp only[ret,Xd,WcF,Wcj hm hi,Wb,Wdq,Xat,Wj];by_cases h:(WaA m i).2.2=who
 .rw[beq_iff_eq.2 h];simp only[Xk,Wa];by_cases h2:(WaA m i).2.1<=ver/\ver<=m.1
  .rw[Wf ⟨h,h2.1,h2.2⟩,We h2.1,We h2.2];refine⟨true,?_⟩;have:i.toNat<m.2.length:=by omega
   simp only[Xan,Xk,Wa,WgB this,Xct];rfl
  .rw[Wc (by omega)];refine⟨false,?_⟩
   grind
 .rw[Wc (λz=>h z.1),beq_eq_false_iff_ne.2 h];exact⟨false,rfl⟩
theorem Wn8{ph:Int}:Zde N c.e ph=ret (Wmt c ph).e:=by
 obtain⟨c0,c1,c2,c3,c4,c5,c6⟩:=cmP c;unfold Zde Wmt Wmi;simp only[Wu,c5,c6,Wg];by_cases h3:ph=3
 .subst h3;by_cases h1:c.reads.length=0<;>by_cases h2:c.puts.length=0<;>simp[h1,h2]<;>rfl
 .by_cases h4:ph=4
  .subst h4;by_cases h2:c.puts.length=0<;>simp[h2]<;>rfl
  .simp[h3,h4];rfl
theorem Wph(h:CmOk c)(hm:W0 m=true)(hN:1048576<N):Zlp N m c.e=some ((),((Wdm m c).1,((Wdm m c).2.e,()))):=by
 obtain⟨c0,c1,c2,c3,c4,c5,c6⟩:=cmP c;have co:=h.pos;have eU:=h.plen;have hw:=h.who;have pE:c.steps<=8:=by have:=h.plen;have:=h.rlen;unfold Cm.steps;split<;>(try split)<;>omega
 have b1:=Wdl (N:=N) h (show 0<=c.pos/\c.pos<=8 by omega);have b2:=Wdl (N:=N) h (show 0<=Wg c.puts/\Wg c.puts<=8 by unfold Wg;omega);have ei:Wh .i64 c.pos 1=c.pos+1:=WJ (by unfold I64;omega);have nx:∀(M:Mm) (ph n:Int),n=c.steps->(bif (c.pos+1)==n then((Zde N (c.who,(c.rv,(c.phase,(c.pos+1,c.e.2.2.2.2)))) ph).bind λo=>(some ((),(M,(o.2.1,()))):Option (Unit×(Mm×(_×Unit)))))else some ((),(M,((c.who,(c.rv,(c.phase,(c.pos+1,c.e.2.2.2.2)))),()))))=some ((),(M,((We2 c ph).e,()))):=λM ph n hn=>by
  unfold We2;rw[show(c.who,(c.rv,(c.phase,(c.pos+1,c.e.2.2.2.2))))=Cm.e {c with pos:=c.pos+1}from rfl,Wn8];simp only[ret,Xd,Wu];by_cases e:c.pos+1=c.steps
  .rw[Wf (by omega),Wf e];rfl
  .rw[Wc (by omega),Wc e]
 unfold Zlp Wdm;rw[Wds hm,WhB h];simp only[ret,Xd];rw[Wb3 (by grind [WC]) hN,Wi6 h hN,hm];simp only[ret,Xd,Xk,Wa,c0,c1,c2,c3,c4,c5,c6,Wal,b1,b2,ei];by_cases h1:c.phase=1
 .rw[beq_iff_eq.2 h1,Wb,Wf h1];obtain⟨j,hj,e1,e2,e3,e4⟩:=h.put (by omega);have bt:c.steps=Wg c.puts:=by unfold Cm.steps Wg;rw[Wf (.inl h1)]
  rw[show Xc c.puts (Xa c.pos) ((0:Int),(0:Int))=c.puts[j]from e2,e2,show inb c.pos c.puts.length=true by rw[e1,WE,We hj],Wpe hm e3 hw hN];simp only[Xd,Wb];by_cases hf:(WaA m c.puts[j].1).2.2=0
  .rw[Wf hf,Wf hf,We hf];exact nx _ 2 _ bt.symm
  .rw[Wc hf,Wc hf,Wk hf];rfl
 rw[beq_eq_false_iff_ne.2 h1,Wa,Wc h1];by_cases h2:c.phase=2
 .rw[beq_iff_eq.2 h2,Wb,Wf h2,Wm4 hm hN];simp only[Xd,Wu];by_cases ht:(tick m).2=0
  .have h0:=(WC hm).2.1;have:(tick m).1=m:=by
    unfold tick at ht⊢;by_cases hc:m.1<1000000
    .rw[Wf hc]at ht;simp only at ht;omega
    .rw[Wc hc]
   rw[Wf ht,Wf ht,this];rfl
  .rw[Wc ht,Wc ht];rw[show(c.who,(c.rv,(c.phase,(c.pos,((tick m).2,c.e.2.2.2.2.2)))))=Cm.e {c with wv:=(tick m).2}from rfl,Wn8];rfl
 rw[beq_eq_false_iff_ne.2 h2,Wa,Wc h2];by_cases h3:c.phase=3
 .rw[beq_iff_eq.2 h3,Wb,Wf h3];obtain⟨j,hj,e1,e2,e3,e4⟩:=h.read h3;have bt:c.steps=Wg c.reads:=by unfold Cm.steps Wg;rw[Wc (by omega),Wf h3]
  rw[show Xc c.reads (Xa c.pos) (0:Int)=c.reads[j]from e2,e2,show inb c.pos c.reads.length=true by rw[e1,WE,We hj],Wcj hm ⟨e3,e4⟩];simp only[Wb,Was,WU];rw[show Xc m.2 (Xa c.reads[j]) ((0:Int),((0:Int),(0:Int)))=WaA m c.reads[j]from rfl];have uN:=nx m 4 _ bt.symm;by_cases a:(WaA m c.reads[j]).2.2=0
  .rw[Wf a];by_cases b:(WaA m c.reads[j]).2.1>c.rv
   .rw[Wf b,Wf (.inr b)];rfl
   .rw[Wc b,Wc (λz=>z.elim (λz=>z.1 a) b)];exact uN
  .rw[Wc a];by_cases a':(WaA m c.reads[j]).2.2=c.who
   .rw[Wf a'];by_cases b:(WaA m c.reads[j]).2.1>c.rv
    .rw[Wf b,Wf (.inr b)];rfl
    .rw[Wc b,Wc (λz=>z.elim (λz=>z.2 a') b)];exact uN
   .rw[Wc a',Wf (.inl ⟨a,a'⟩)];rfl
 rw[beq_eq_false_iff_ne.2 h3,Wa,Wc h3];by_cases h4:c.phase=4
 .rw[beq_iff_eq.2 h4,Wb,Wf h4];obtain⟨j,hj,e1,e2,e3,e4⟩:=h.put (by omega);have bt:c.steps=Wg c.puts:=by unfold Cm.steps Wg;rw[Wf (by omega)]
  obtain⟨b,hb⟩:=Wn4 hm e3 hw e4 hN;rw[show Xc c.puts (Xa c.pos) ((0:Int),(0:Int))=c.puts[j]from e2,e2,show inb c.pos c.puts.length=true by rw[e1,WE,We hj],hb];exact nx _ 5 _ bt.symm
 rw[beq_eq_false_iff_ne.2 h4,Wa,Wc h4];by_cases h5:c.phase=5
 .rw[beq_iff_eq.2 h5,Wb,Wf h5];obtain⟨j,hj,e1,e2,e3,e4⟩:=h.put (by omega);have bt:c.steps=Wg c.puts:=by unfold Cm.steps Wg;rw[Wf (by omega)]
  obtain⟨b,hb⟩:=Wgz (ver:=c.wv) hm e3 hw hN;rw[show Xc c.puts (Xa c.pos) ((0:Int),(0:Int))=c.puts[j]from e2,e2,show inb c.pos c.puts.length=true by rw[e1,WE,We hj],hb];simp only[Xd,Wb,Wu];unfold We2;by_cases e:c.pos+1=c.steps
  .rw[Wf (by omega),Wf e];unfold Wmt;rw[show Wmi c 6=6 by unfold Wmi;rw[Wc (by omega),Wc (by omega)]];rfl
  .rw[Wc (by omega),Wc e];rfl
 rw[beq_eq_false_iff_ne.2 h5,Wa,Wc h5];by_cases h7:c.phase=7
 .rw[beq_iff_eq.2 h7,Wb,Wf h7];obtain⟨j,hj,e1,e2,e3,e4⟩:=h.put (by omega);obtain⟨b,hb⟩:=Wgz (ver:=(WaA m c.puts[j].1).2.1) hm e3 hw hN;rw[show Xc c.puts (Xa c.pos) ((0:Int),(0:Int))=c.puts[j]from e2,e2,show inb c.pos c.puts.length=true by rw[e1,WE,We hj],Wcj hm e3,show Xc m.2 (Xa c.puts[j].1) ((0:Int),((0:Int),(0:Int)))=WaA m c.puts[j].1 from rfl,hb];rfl
 .rw[beq_eq_false_iff_ne.2 h7,Wa,Wc h7]
end
section
variable{N:Nat}{w:Wo}{x:Rt}{k:Nat}{p:Pg}{n:Int}{o:Opn}
theorem Wgj:Za3 N x.e=ret (Wf3 x).e:=rfl
theorem WlE(hs:0<=x.spare/\x.spare<=2):Zf1 N x.e=ret (Wbv x).e:=by
 obtain⟨r0,r1,r2,r3,r4,r5,r6,r7,r8,eR,ew,dB,dF,dG,dV,fA,fB,eS,eT,fC,fD,fE⟩:=rtP x;unfold Zf1 Wbv;simp only[Wu,WU,dG,r2,Wg,Wgj,ret,Xd];by_cases h1:x.marks.length=0
 .rw[Wf (by omega),Wf (.inl h1)]
 .rw[Wc (by omega)];by_cases h2:x.spare=2
  .rw[Wf (by omega),Wf (.inr h2)]
  .rw[Wc (by omega),Wc (by omega),WJ (by unfold I64;omega)];rfl
theorem Wl3(hz:x.undos.length≠0)(hl:x.undos.length<=1000)(hu:∀u∈x.undos,UnV u)(hs:ShOk w.shelf)(hN:1048576<N):
  Zf2 N w.e x.e=some ((),((WeM w x).1.e,((WeM w x).2.e,()))):=by
 obtain⟨a,b,c,d⟩:=Wbr hz hl ((0,0,0):Un);have aM:Wgg x.undos ((0,0,0):Un)∈x.undos:=by
  unfold Wgg;rw[WF (show x.undos.length-1<x.undos.length by omega)];exact Xv _
 unfold Zf2 WeM;simp only[Wj,Wal];rw[show P16 x.e=x.undos from rfl,a,b,show w.e.2.2.2.1=w.shelf from rfl,Wj4 hs (hu _ aM) hN,c,d];simp only[Wb,Xd];rw[Wq (by simp;omega)];rfl
theorem WsN(gy:k<=1000):Zij N w.e x.e (k:Int)=some ((),((WkU w x k).1.e,((WkU w x k).2.e,()))):=by
 unfold Zij WkU;rw[Wap (by omega),show w.e.2.1=w.token from rfl];simp only[Wu];by_cases h:w.token=(k:Int)+1
 .rw[Wf h];simp only[Wf h];rfl
 .rw[Wc h];simp only[Wc h];rfl
theorem WnJ(gy:k<=8)(hh:HOk w.holds)(kY:0<=x.rv/\x.rv<=1000000)(hr:Waj x.reads=true)(hw:Waj x.writes=true){out:Int}(hN:1048576<N):
  Zkw N w.e x.e (k:Int) out=some ((),((We4 w x k out).1.e,((We4 w x k out).2.e,()))):=by
 obtain⟨r0,r1,r2,r3,r4,r5,r6,r7,r8,eR,ew,dB,dF,dG,dV,fA,fB,eS,eT,fC,fD,fE⟩:=rtP x;have nC:=Wd8 hh;have oh:Zij N w.e (S8 x.rv (S7 out x.e)) (k:Int)=_:=WsN (w:=w) (x:={x with fate:=out,stamp:=x.rv}) (k:=k) (by omega);have pF:∀rows,Waj rows=true->Zfn N ((k:Int)+1) x.rv rows x.reads=some ((),((WfW ((k:Int)+1) x.rv rows x.reads).e,(true,()))):=λrows jm=>Wqf (by omega) kY jm hr hN;have bJ:Zfn N ((k:Int)+1) x.rv ([]:List Kc) x.reads=some ((),((WfW ((k:Int)+1) x.rv [] x.reads).e,(true,()))):=pF [] rfl;have qE:=Woz (who:=(k:Int)+1) hh;have td:∀{α:Type} (a b:α),(bif ((0:Int)==(0:Int))then a else b)=a:=λ_ _=>rfl;unfold Zkw We4;simp only[Wj,td];rw[Wap (by omega),show P4 w.e=w.holds from rfl];simp only[Wu,r4,dB,dF,WjY (who:=(k:Int)+1) hh (by omega) hN,ret,Xd,Wg];rw[bJ,pF _ hw,oh];simp only[Xd];by_cases ho:out=2
 .rw[Wf ho,Wf ho];by_cases hz:(WdX w.holds ((k:Int)+1)).length=0
  .rw[Wf (by have:=qE.2 hz;omega),Wf ⟨rfl,hz⟩]
  .rw[Wc (λz=>hz (qE.1 (by omega))),Wc (λh=>hz h.2)];rfl
 .rw[Wc ho,Wc ho];by_cases hy:x.writes.length=0
  .rw[Wf (by omega)];by_cases hz:(WdX w.holds ((k:Int)+1)).length=0
   .rw[Wf (by have:=qE.2 hz;omega),Wf ⟨hy,hz⟩]
   .rw[Wc (λz=>hz (qE.1 (by omega))),Wc (λh=>hz h.2)];rfl
  .rw[Wc (by omega),Wc (λh=>hy h.1)];rfl
theorem WsJ(gy:k<=8)(hc:CC p.1)(hx:RLive p n x)(ho:WdV o=true)(ek:12<=o.1)(hs:ShOk w.shelf)(hh:HOk w.holds)(hN:1048576<N):
  Znz N w.e x.e (k:Int) o=some ((),((WfP w x k o).1.e,((WfP w x k o).2.e,()))):=by
 obtain⟨r0,r1,r2,r3,r4,r5,r6,r7,r8,eR,ew,dB,dF,dG,dV,fA,fB,eS,eT,fC,fD,fE⟩:=rtP x;obtain⟨z1,z2,z3,z4,z5,z6⟩:=hx.sz hc;have nC:=Wd8 hh;have bB:=hx.pc;have cP:=hc.len;have mn:(0<=(WbZ o).1/\(WbZ o).1<=8)/\1<=(WbZ o).2/\(WbZ o).2<=2:=by
  grind [WbZ,Wj8,WeL,Wrk,WqJ,Wbb,Wsd]
 unfold Znz WfP;simp only[Wj,Wal];rw[Wap (by omega),Wm6 ho ek,show P4 w.e=w.holds from rfl,show w.e.2.2.2.1=w.shelf from rfl];simp only[Xd,Wj7 hh (show 1<=(k:Int)+1/\(k:Int)+1<=9 by omega) mn.1 mn.2 (by omega) hN,r3,ew,dV,WlE hx.spare];cases ha:Wc7 w.holds ((k:Int)+1) (WbZ o).1 (WbZ o).2 with
 |none=>rfl
 |some c9=>
  simp only[Option.isSome_some,Xk,Wa,Option.getD_some,WjU hs hx.regs ho ek hN,Xd,Was];rw[Wap (by omega),Wq (by simp;omega),Wq (by simp;omega)];by_cases hz:(Wa2 w.shelf o x.regs).2.2.1=0
  .rw[Wf hz];simp only[Wf hz];rfl
  .rw[Wc hz];simp only[Wc hz];rfl
theorem Wtv(hc:CC p.1)(hx:RLive p n x)(hm:W0 w.mem=true)(h5:o.1=5)(ho:WdV o=true)(hN:1048576<N):
  Zdv N w.e x.e o=some ((w.e,()),((Wmd w x o).e,())):=by
 obtain⟨r0,r1,r2,r3,r4,r5,r6,r7,r8,eR,ew,dB,dF,dG,dV,fA,fB,eS,eT,fC,fD,fE⟩:=rtP x;obtain⟨z1,z2,z3,z4,z5,z6⟩:=hx.sz hc;obtain⟨hA,hB⟩:=Wwh ho h5;have hB':0<=o.2.2.1/\o.2.2.1<=7:=by unfold Wau at hB;simpa using hB
 have ct:=hx.regs.len;have bB:=hx.pc;have cP:=hc.len;have gr:=hx.spare;unfold Zdv Wmd;simp only[Wj,Wal];rw[show w.e.2.2.1=w.mem from rfl];simp only[r3,r4,ew,dB,dF,fA,fB];rw[WeF (by omega) hN,WcQ (by omega),Wap (by omega)];simp only[ret,Xd];rw[WS hA ct];cases hl:Wcd x.writes o.2.2.1 with
 |some v=>rfl
 |none=>
  have fX:=Wpo hx.pb hB';simp only[opI,Xd,Xbq,Wb,Xbb,Xbd,Xby,Xaw];rw[Wq (show x.reads.length<=1073741824 by omega)];cases hb:x.busy with
  |false=>
   rw[hb]at fX;simp only[Xap,Wat]at fX;have gd:∀q:Pb,S19 q (S18 true x.e)=Rt.e {x with busy:=true,pb:=q}:=λq=>rfl;simp only[Xbq,Wb,Xap,Wat,Wfj hm fX hN,ret,Xd,gd,WlE (x:={x with busy:=true,pb:=_}) gr,Wu,Was];generalize WaL w.mem x.rv (o.2.2.1,0,0,0)=q;by_cases h4:q.2.1=4
   .rw[Wf h4,Wf h4]
   .rw[Wc h4,Wc h4];by_cases h3:q.2.1=3
    .rw[Wf h3,Wf h3,Wq (by simp;omega)];rfl
    .rw[Wc h3,Wc h3]
  |true=>
   have cg:∀q:Pb,S19 q x.e=Rt.e {x with busy:=true,pb:=q}:=λq=>by
    have:S19 q x.e=Rt.e {x with pb:=q}:=rfl;rw[this]
    conv=>lhs;rw[show({x with pb:=q}:Rt)={x with busy:=x.busy,pb:=q}from rfl,hb]
   rw[hb]at fX;simp only[W8]at fX;simp only[Xk,Wa,W8,Wfj hm fX hN,ret,Xd,cg,WlE (x:={x with busy:=true,pb:=_}) gr,Wu,Was];generalize WaL w.mem x.rv x.pb=q;by_cases h4:q.2.1=4
   .rw[Wf h4,Wf h4]
   .rw[Wc h4,Wc h4];by_cases h3:q.2.1=3
    .rw[Wf h3,Wf h3,Wq (by simp;omega)];rfl
    .rw[Wc h3,Wc h3]
end
section
theorem Wkb{N:Nat}{f:Y_Family}{x:Y_KidRun}(hf:(P4 f).length=4)(ht:0<=x.2.2.2.1/\x.2.2.2.1<=100000):Zfs N f x=some ((f,()),(again f x,())):=WgT hf ht
theorem Wl5{N:Nat}{m:Mm}{f:Y_Family}{x:Y_KidRun}{o:Int×Int×Int×Int}(h:ReadOk m f x o)(hN:1048576<N):
  Zip N m f x o=some ((m,()),((We1 m f x o).1,((We1 m f x o).2,()))):=by
 have hw:=h.wr;have hs:=h.seen;have hb:=h.buf;have hr:=h.regs;unfold Zip We1;simp only[Wj,Wal];rw[WeF (show(P8 x).length<=1048576 by omega) hN];rcases Wcd (P8 x) o.2.2.1 with _|v
 .simp only[opI,Xd,Wa];rw[Wiz (show(P6 f).length<=1048576 by omega) hN,Wkb h.famr h.tries,WcQ (show(P6 x).length<=1048576 by omega)];rw[Wap (by have:=h.pc;omega)];rcases he:ent (P6 f) o.2.2.1 with _|r
  .have e1:decide ((-1:Int)>x.2.2.1)=false:=by have:=h.since;simp;omega
   simp only[ret,Xd,e1,Wa,show decide ((-1:Int)<0)=true from rfl,Wb];have hp:=h.pbO;have e3:∀(a b:Nat),a<=1000->b<=1000->Wz (a+b)=true:=λa b h1 h2=>Wq (by omega);cases hc:P10 x
   .have ly:Wmz x o.2.2.1=(o.2.2.1,(0,(0,0))):=by unfold Wmz;rw[hc];rfl
    rw[ly]at hp⊢;simp only[Xbq,Wb,Wfj h.mem hp hN,ret,Xd,rgI hr h.rA];generalize WaL m f.1 (o.2.2.1,(0,(0,0)))=q;rw[Wq (by simp;omega),Wq (by simp;omega)];unfold bne;cases q.2.1==4<;>cases q.2.1==3<;>rfl
   .have ly:Wmz x o.2.2.1=Q11 x:=by unfold Wmz;rw[hc];rfl
    rw[ly]at hp⊢;simp only[Xk,Wa,Wfj h.mem hp hN,ret,Xd,rgI hr h.rA,Wb];generalize WaL m f.1 (Q11 x)=q;rw[Wq (by simp;omega),Wq (by simp;omega),Wpv hc];unfold bne;cases q.2.1==4<;>cases q.2.1==3<;>rfl
  .have hm:=WcK he;have aM:r.2∈P6 f:=by
    have:=hm.2.2.2;exact Xas this
   have hv:=h.ver _ aM;have e2:decide (r.2.2.2<0)=false:=by simp;omega
   simp only[ret,Xd,e2,Wa,rgI hr h.rA,Wb];rw[Wq (by simp;omega),Wq (by simp;omega)];cases decide (r.2.2.2>x.2.2.1)<;>rfl
 .simp only[opI,Xd,Wb];rw[WcQ (show(P6 x).length<=1048576 by omega),Wap (by have:=h.pc;omega)];simp only[ret,Xd,rgI hr h.rA,Wb]
variable{N:Nat}{m:Mm}{f g:Fm}{x y:Kd}{k:Nat}{n:Int}{code:List Opn}{codes:List (List Opn)}
theorem Wog(hk:k<f.kids.length)(hm:W0 m=true)(bL:KC code)(hF:FOk codes n f)(aZ:codes.getD k []=code)(aN:f.kids[k]=x)(h0:x.phase=0)(hn:n<=100000)(hN:1048576<N):
  Zko N m f.e x.e code=some ((m,()),((Wpk m f x code).1.e,((Wpk m f x code).2.e,()))):=by
 have hx:=hF.kid k hk;rw[aZ,aN]at hx;obtain⟨k0,k1,k2,k3,k4,k5,k6,k7,k8,k9,k10⟩:=kdP x;have bB:=hx.pc;have ad:=bL.len;have kJ:=hx.wl;unfold Zko Wpk;simp only[Wj,Wal,k1,k6,k8,k9,show Wg code=(code.length:Int)from rfl,Wu];by_cases dq:x.pc>=code.length
 .rw[Wf (by omega),Wf dq];rfl
 .rw[Wc (by omega),Wc dq];obtain⟨j,hj,ej,eo⟩:=Wjr (l:=code) bB.1 (by omega);have nd:Xc code (Xa x.pc) ((0,0,0,0):Opn)=opN code x.pc:=rfl;have dj:inb x.pc code.length=true:=by rw[ej,WE];exact We hj
  rw[dj];obtain⟨ok,o1,ip⟩:=bL.ok j hj;have bo:=bL.k10 j hj;simp only[Wb,nd];rw[←eo]at ok o1 bo;generalize opN code x.pc=o at*;have ct:=hx.regs.len;rw[Wap (show 0<=x.pc/\x.pc<=1000000 by omega)];by_cases h5:o.1=5
  .rw[Wf h5,Wf h5];have:=Wwh ok h5;have jm:=WmS hF hx bL hm hn this.1 this.2;rw[Wl5 jm hN];simp only[Xd,Wm3]
  rw[Wc h5,Wc h5];have kX:x.marks.length<=24:=by
   have:=Wm Xb (hx.marks h0).pcs;simp only[Xu]at this;have h2:=Wa3 bL.up x.pc.toNat (by omega);have h3:=(Wct code x.pc.toNat).2;omega
  by_cases cJ:o.1=10
  .rw[Wf cJ,Wc (by omega),Wc (by omega),Wc (by omega),Wc (by omega),Wf cJ];unfold Wi8;by_cases hz:x.marks.length=0
   .rw[Wf (show Wg x.marks=0 by unfold Wg;omega),Wf hz];rfl
   rw[Wc (show¬Wg x.marks=0 by unfold Wg;omega),Wc hz];obtain⟨i,q,y,e1,pz,pA,⟨hi,nT⟩,py,cW,iY,e5,e6⟩:=WiU (d:=((0,0,[]):KM)) bL.toCC (show x.pc.toNat<=code.length by omega) (hx.marks h0).pcs hz;have nc:x.marks.length=q.length+1:=by rw[e1];simp
   have i1:WT .i64 (Wg x.marks) 1=(q.length:Int):=by rw[WiY (by omega),nc];omega
   have g1:Xc x.marks (Xa (q.length:Int)) ((0,0,[]):KM)=y:=by rw[e1];simp
   have t1:List.take (Xa (q.length:Int)) x.marks=x.marks.dropLast:=by rw[e1];simp
   have b1:(decide ((0:Int)<=(q.length:Int))&&decide ((q.length:Int)<=(x.marks.length:Int)))=true:=by simp;omega
   have li:x.marks.dropLast.length<=24:=by rw[Xda];omega
   have hy:y∈x.marks:=by rw[e1];simp
   obtain⟨y1,y2,y3,y4⟩:=(hx.marks h0).each y hy;rw[i1,WE,We (show q.length<x.marks.length by omega),b1];simp only[Wb,g1,t1,pz];rw[Wq (by simp;omega),WcQ (by rw[y1.len];omega)];simp only[ret,Xd,Wb];rw[pA,WE,We hi];have ql:Xc code (Xa ((i:Nat):Int)) ((0,0,0,0):Opn)=opN code (i:Int):=rfl;have hr:=WuQ (bL.ok i hi).1 nT;rw[←We0 hi]at hr;simp only[Wb,ql];rw[WS hr y1.len];have b2:(decide ((0:Int)<=y.2.1)&&decide (y.2.1<=(x.writes.length:Int)))=true:=by simp;omega
   rw[b2,Wq (by rw[List.length_take];simp;omega),Wjf (by omega) hN ⟨hi,nT⟩ cW];simp only[ret,Xd,Wb];rw[Wap (by have:=cW.len;omega),Xl];rw[Wkn cW];rfl
  rw[Wc cJ,Wc cJ];by_cases h6:o.1=6
  .rw[Wf h6,Wf h6];rw[WS (Wwf ok h6).2 ct,Wq (by simp;omega),Wq (by simp;omega)];simp only[Wb,Wal];rfl
  rw[Wc h6,Wc h6];by_cases h7:o.1=7
  .rw[Wf h7,Wf h7];have h:=Wwg ok h7;rw[WS h.1 ct,WJ (a:=x.pc) (b:=o.2.2.1) (by unfold I64;omega),Wap (a:=x.pc+o.2.2.1) (by omega)];simp only[Wb,Wu];by_cases hg:Xc x.regs (Xa o.2.1) 0=0
   .rw[Wf hg,Wf (show WbO x.regs o.2.1 0=0 from hg)];rfl
   .rw[Wc hg,Wc (show¬WbO x.regs o.2.1 0=0 from hg)];rfl
  rw[Wc h7,Wc h7];by_cases h8:o.1=8
  .rw[Wf h8,Wf h8];rw[WcQ (show x.regs.length<=1048576 by omega),Wq (by simp;omega)];simp only[ret,Xd,Wb];rw[Wq (by simp;omega)];rfl
  rw[Wc h8,Wc h8];by_cases h9:o.1=9
  .rw[Wf h9,Wf h9];have hz:x.marks.length≠0:=by
    intro hz;have h1:=Wm Xb (hx.marks h0).pcs;simp only[Xu,hz]at h1;have h2:=Wa3 bL.up j (by omega);have h3:=bL.up j hj;rw[WaC hj,Wl4 (by rw[←eo];exact h9)]at h3;rw[ej,Xl]at h1;omega
   obtain⟨i,q,y,e1,pz,pA,⟨hi,nT⟩,py,cW,iY,e5,e6⟩:=WiU (d:=((0,0,[]):KM)) bL.toCC (show x.pc.toNat<=code.length by omega) (hx.marks h0).pcs hz;have nc:x.marks.length=q.length+1:=by rw[e1];simp
   have i1:WT .i64 (Wg x.marks) 1=(q.length:Int):=by rw[WiY (by omega),nc];omega
   have g1:Xc x.marks (Xa (q.length:Int)) ((0,0,[]):KM)=y:=by rw[e1];simp
   have t1:List.take (Xa (q.length:Int)) x.marks=x.marks.dropLast:=by rw[e1];simp
   have b1:(decide ((0:Int)<=(q.length:Int))&&decide ((q.length:Int)<=(x.marks.length:Int)))=true:=by simp;omega
   have li:x.marks.dropLast.length<=24:=by rw[Xda];omega
   rw[i1,WE,We (show q.length<x.marks.length by omega),b1];simp only[Wb,g1,t1,pz];rw[Wq (by simp;omega),WcQ (show x.regs.length<=1048576 by omega)];simp only[ret,Xd,Wb];rw[pA,WE,We hi];have o1:Xc code (Xa ((i:Nat):Int)) ((0,0,0,0):Opn)=opN code (i:Int):=rfl;have hr:=WuQ (bL.ok i hi).1 nT;rw[←We0 hi]at hr;simp only[Wb,o1];rw[WS hr ct];rfl
  rw[Wc h9,Wc h9];have:=Wht hN ok (by omega) (by omega) hx.regs;rw[this];rfl
end
section
variable{N:Nat}{m:Mm}{f g:Fm}{x y:Kd}{k:Nat}{n:Int}{code:List Opn}{codes:List (List Opn)}{e:En}
def goP(e:En):List En->Bool->List En->Bool×List En
 | [],d,o=>(d,o)
 |z::l,d,o=>if d=true then goP e l true (if z.1=e.1 then o else o++ [z])else
  if z.1>=e.1 then goP e l true (if z.1=e.1 then o++ [e]else o++ [e]++ [z])else goP e l false (o++ [z])
theorem WtO{z:En}{l o:List En}:goP e (z::l) false o=if z.1>=e.1 then goP e l true (if z.1=e.1 then o++ [e]else o++ [e]++ [z])else goP e l false (o++ [z]):=by
 rw[goP];exact Wc (λh=>by cases h)
theorem WpA:∀(l:List En) (o:List En),(∀z∈l,z.1≠e.1)->goP e l true o=(true,o++l)
 | [],o,_=>by simp[goP]
 |z::l,o,h=>by
  rw[goP,Wf rfl,Wc (h z (Xj ..)),WpA l _ λy hy=>h y (Xf _ hy)];simp
theorem Wsk:∀(l:List En) (o:List En),Ris cfE l->(if(goP e l false o).1=true then(goP e l false o).2 else(goP e l false o).2++ [e])=o++WbH cfE l e
 | [],o,_=>by simp[goP,WbH]
 |z::l,o,h=>by
  have hp:=Xy.1 h;have ac:∀y∈l,z.1<y.1:=λy hy=>by have:=hp.1 y hy;unfold cfE at this;omega
  rw[WtO,WbH];by_cases h1:z.1>=e.1
  .rw[Wf h1,WpA l _ (λy hy=>by have:=ac y hy;omega)];rw[Wf rfl,Wc (show¬cfE z e<0 by unfold cfE;omega)];by_cases h2:z.1=e.1
   .rw[Wf h2,Wc (show¬cfE e z<0 by unfold cfE;omega)];simp
   .rw[Wc h2,Wf (show cfE e z<0 by unfold cfE;omega)];simp
  .rw[Wc h1,Wsk l _ hp.2,Wf (show cfE z e<0 by unfold cfE;omega)];simp
theorem Wqw{R:Type}{l:List En}{K0:Bool->Int->Bool->List En->Option R}(hl:l.length<=1000):∀(dd j n:Nat) (d:Bool) (o:List En),j+dd=l.length->dd<n->o.length<=j+d.toNat->
  Zy N l e K0 n d (j:Int) o=K0 (goP e (l.drop j) d o).1 (l.length:Int) false (goP e (l.drop j) d o).2:=by
 intro dd
 induction dd with
 |zero=>
  intro j n d o hj hn ho;obtain⟨n,rfl⟩:∃n',n=n'+1:=⟨n-1,by omega⟩;have:j=l.length:=by omega
  subst this;simp only[Zy,WW (Xm _),Wa,Xbz,goP]
 |succ dd ih=>
  intro j n d o hj hn ho;obtain⟨n,rfl⟩:∃n',n=n'+1:=⟨n-1,by omega⟩;have ac:j<l.length:=by omega
  have hdt:d.toNat<=1:=by cases d<;>simp
  have r1:∀z:En,Wz (o.length+ [z].length)=true:=λz=>Wq (by simp;omega);have r2:∀z:En,Wz ((Xh o [e]).length+ [z].length)=true:=λz=>Wq (by simp[Xbb];omega);have bI:(l[j].1 !=e.1)=decide (l[j].1≠e.1):=by by_cases z:l[j].1=e.1<;>simp[z]
  have dq:∀z:Bool,goP e (l.drop j) z o=goP e (l[j]::l.drop (j+1)) z o:=λz=>by rw[←Xaz ac]
  have g2:Xc l (Xa (j:Int)) ((0:Int),((0:Int),(0:Int)))=l[j]:=Wt ac _;by_cases heq:l[j].1=e.1
  .have e1:decide (l[j].1≠e.1)=false:=Wk (λz=>z heq);have e2:decide (l[j].1>=e.1)=true:=We (by omega);cases d with
   |true=>
    simp only[Zy,WL ac,Ww ac,g2,Wb,bI,e1,Wa,Xk,Wp (show j<4611686018427387904 by omega)];rw[ih (j+1) n true o (by omega) (by omega) (by simp at ho⊢;omega),dq true,goP,Wf rfl,Wf heq]
   |false=>
    simp only[Zy,WL ac,Ww ac,g2,Wb,bI,e1,e2,Wa,Xbq,r1,Wp (show j<4611686018427387904 by omega),Xbb];rw[ih (j+1) n true _ (by omega) (by omega) (by simp at ho⊢;omega),dq false,WtO,Wf (by omega),Wf heq]
  .have e1:decide (l[j].1≠e.1)=true:=We heq;cases d with
   |true=>
    simp only[Zy,WL ac,Ww ac,g2,Wb,bI,e1,Wa,Xk,r1,Wp (show j<4611686018427387904 by omega),Xbb];rw[ih (j+1) n true _ (by omega) (by omega) (by simp at ho⊢;omega),dq true,goP,Wf rfl,Wc heq]
   |false=>
    by_cases h2:l[j].1>=e.1
    .have e2:decide (l[j].1>=e.1)=true:=We h2;simp only[Zy,WL ac,Ww ac,g2,Wb,bI,e1,e2,Wa,Xbq,r1,r2,Wp (show j<4611686018427387904 by omega)];simp only[Xbb];rw[ih (j+1) n true _ (by omega) (by omega) (by simp at ho⊢;omega),dq false,WtO,Wf h2,Wc heq]
    .have e2:decide (l[j].1>=e.1)=false:=Wk h2;simp only[Zy,WL ac,Ww ac,g2,Wb,bI,e1,e2,Wa,Xbq,r1,Wp (show j<4611686018427387904 by omega),Xbb];rw[ih (j+1) n false _ (by omega) (by omega) (by simp at ho⊢;omega),dq false,WtO,Wc h2]
theorem Wok{l:List En}(h:Ris cfE l)(hl:l.length<=1000)(hN:1048576<N):Zkf N l e=ret (WbH cfE l e):=by
 unfold Zkf;rw[show(0:Int)=((0:Nat):Int)from rfl,Wqw hl l.length 0 N false [] (by omega) (by omega) (by simp)];have hg:=Wsk (e:=e) l [] h;rw[Xbk];have ad:(goP e l false []).2.length<=2000:=by
  have:∀(l:List En) (d:Bool) (o:List En),(goP e l d o).2.length<=o.length+2*l.length:=by
   intro l
   induction l with
   |nil=>intro d o;simp[goP]
   |cons z l ih=>
    intro d o;rw[goP];split
    .split
     .have:=ih true o;simp;omega
     .have:=ih true (o++ [z]);simp at this⊢;omega
    .split
     .split
      .have:=ih true (o++ [e]);simp at this⊢;omega
      .have:=ih true (o++ [e]++ [z]);simp at this⊢;omega
     .have:=ih false (o++ [z]);simp at this⊢;omega
  have:=this l false [];simp at this;omega
 cases hd:(goP e l false []).1 with
 |true=>
  rw[hd,Wf rfl,Xbd]at hg;rw[hg];rfl
 |false=>
  rw[hd,Wc (by simp),Xbd]at hg;rw[Wq (by simp;omega)];simp only[Xbq,Wb,Xbb,hg]
theorem Wri{R:Type}{rows:List Rw}{c:Int}{a1 a2 a3:Int}{a4:Bool}{a5:List Int}{a6:List Rw}{a7:List Int}{a8:List Rw}{a9:Y_KidRun}{ay:List Y_KidRun}{K0:Int->Bool->List En->Option R}(hr:rows.length<=8)(hN:1048576<N):∀(dd j n:Nat) (b:List En),j+dd=rows.length->dd<n->Ris cfE b->b.length<=100+j->
  Zcm N a1 a2 c a3 a4 a5 a6 a7 a8 a9 rows ay K0 n (j:Int) b=K0 (rows.length:Int) false (Wdh c b (rows.drop j)):=by
 intro dd
 induction dd with
 |zero=>
  intro j n b hj hn hb gD;obtain⟨n,rfl⟩:∃n',n=n'+1:=⟨n-1,by omega⟩;have:j=rows.length:=by omega
  subst this;simp only[Zcm,WW (Xm _),Wa,Xbz];rfl
 |succ dd ih=>
  intro j n b hj hn hb gD;obtain⟨n,rfl⟩:∃n',n=n'+1:=⟨n-1,by omega⟩;have ac:j<rows.length:=by omega
  have g2:Xc rows (Xa (j:Int)) ((0:Int),(0:Int))=rows[j]:=Wt ac _;simp only[Zcm,WL ac,Ww ac,g2,Wb];rw[Wok hb (by omega) hN];simp only[ret,Xd,Wp (show j<4611686018427387904 by omega)];have eU:=Wn2 (cf:=cfE) b ((rows[j].1,(rows[j].2,c)):En);rw[ih (j+1) n _ (by omega) (by omega) (Wcy WuS hb) (by omega),Xaz ac];rfl
theorem Wpg{R:Type}{z:Kd}{a0 a1 a2 a3:Int}{a4:Bool}{a5:List Int}{a6:List Rw}{a7:List En}{a8:List Int}{ay:List Y_KidRun}{K0:Int->Bool->List Rw->Option R}(hs:z.seen.length<=100)(hv:∀e∈z.seen,-1<=e.2.2):∀(dd j n:Nat) (o:List Rw),j+dd=z.seen.length->dd<n->o.length<=1000+j->
  Zbg N a0 a1 a2 a3 a4 a5 a6 a7 a8 z.e ay K0 n (j:Int) o=K0 (z.seen.length:Int) false (o++WaJ (z.seen.drop j)):=by
 have e7:P7 z.e=z.seen:=rfl;intro dd
 induction dd with
 |zero=>
  intro j n o hj hn ho;obtain⟨n,rfl⟩:∃n',n=n'+1:=⟨n-1,by omega⟩;have:j=z.seen.length:=by omega
  subst this;simp only[Zbg,e7,WW (Xm _),Wa,Xbz];simp[WaJ]
 |succ dd ih=>
  intro j n o hj hn ho;obtain⟨n,rfl⟩:∃n',n=n'+1:=⟨n-1,by omega⟩;have ac:j<z.seen.length:=by omega
  have g2:Xc z.seen (Xa (j:Int)) ((0:Int),((0:Int),(0:Int)))=z.seen[j]:=Wt ac _;have h1:=hv _ (Xv ac);have ax:∀x:Rw,Wz (o.length+ [x].length)=true:=λx=>Wq (by simp;omega);simp only[Zbg,Wj,e7,WL ac,Ww ac,g2,Wb,ax,Wp (show j<4611686018427387904 by omega),Xbb];rw[Xaz ac];by_cases hz:z.seen[j].2.2= -1
  .rw[We (show z.seen[j].2.2<0 by omega),Wb,ih (j+1) n _ (by omega) (by omega) (by simp;omega)];unfold WaJ;rw[Xfy (by simpa using hz),List.map_cons,List.append_assoc];rfl
  .rw[Wk (show¬z.seen[j].2.2<0 by omega),Wa,ih (j+1) n _ (by omega) (by omega) (by omega)];unfold WaJ;rw[Xfx (by simpa using hz)]
theorem Wlv(hk:k<f.kids.length)(h3:f.kids.length<=3)(ng:code.length<=24)(hF:FOk codes n f)(aZ:codes.getD k []=code)(aN:f.kids[k]=x)(hN:1048576<N):
  Zh0 N f.e x.e (k:Int)=some ((),((WhU f x k).1.e,((WhU f x k).2.e,()))):=by
 have hx:=hF.kid k hk;rw[aZ,aN]at hx;have bB:=hx.pc;have kJ:=hx.wl;have hQ:=hx.sl;have uL:=hF.buf8;have kL:f.order.length<=3:=by
  have h1:=hF.done;have:=List.countP_le_length (p:=λx:Kd=>decide (x.phase=3)) (l:=f.kids);omega
 have pB:=hF.readsL;unfold Zh0;have e8:P8 x.e=x.writes:=rfl;rw[e8,Wd6 (by omega) hN];simp only[ret,Xd];have cP:Wh .i64 f.e.2.1 1=f.clock+1:=Wap (by have:=hF.clock;show 0<=f.clock/\f.clock<=1000000;omega);have hP6:P6 f.e=f.buf:=rfl;have jo:=WcS x.writes;rw[cP,hP6,show(0:Int)=((0:Nat):Int)from rfl];rw[Wri (rows:=WcO x.writes) jo hN (WcO x.writes).length 0 N _ (by omega) (by omega) hF.bufR (by omega)];have h8:P8 f.e=f.reads:=rfl;have h7:P7 f.e=f.order:=rfl;rw[h8,h7,Wq (by simp;omega)];simp only[Wb,Xbk,Xbb,Xbd];rw[Wpg (by omega) (λe he=>(hx.seen e he).2.2.1) x.seen.length 0 N _ (by omega) (by omega) (by omega)];rw[WcQ (by omega)];simp only[ret,Xd,Xbk];rw[Wq (by simp;omega)];rfl
theorem Wl7(hk:k<f.kids.length)(h3:f.kids.length<=3)(hm:W0 m=true)(bL:KC code)(hF:FOk codes n f)(aZ:codes.getD k []=code)(qk:codes.length<=3)(hn:n<=100000)(hN:1048576<N):
  Zdq N m f.e codes (k:Int)=some ((m,()),((Wgw m f k code).e,())):=by
 obtain⟨x,aN⟩:∃x,f.kids[k]=x:=⟨_,rfl⟩;have hx:=hF.kid k hk;rw[aZ,aN]at hx;have ad:=hF.len;obtain⟨k0,k1,k2,k3,k4,k5,k6,k7,k8,k9,k10⟩:=kdP x;obtain⟨f0,f1,f2,f3,f4,f5,f6,f7,f8,f9⟩:=fmP f;unfold Zdq Wgw;rw[f3];by_cases hl:f.lost=true
 .rw[hl,Wf rfl];rfl
 have qu:f.lost=false:=by simpa using hl
 rw[qu,Wa,Wc (by simp),show f.kids.getD k {}=f.kids[k]from WF hk _,aN];have co:Fm.put (f,x) k=f:=by unfold Fm.put;simp only;rw[←aN,Xbg]
 have pJ:inb (k:Int) (f.kids.map Kd.e).length=true:=by rw[WE,Xu];exact We hk
 have tp:inb (k:Int) codes.length=true:=by rw[WE];exact We (by omega)
 have e2:Xc (f.kids.map Kd.e) (Xa (k:Int)) d_KidRun=x.e:=by
  have:=Wnp Kd.e f.kids k {};rw[WF hk,aN]at this;exact this
 have e3:U9 (f.kids.map Kd.e) f.e=f.e:=rfl;have ec:Xc codes (Xa (k:Int)) ([]:List Opn)=code:=by rw[Xl];exact aZ
 have rV:decide ((k:Int)<0)=false:=Wk (by omega);have kc:decide ((k:Int)>=Wg (f.kids.map Kd.e))=false:=Wk (by unfold Wg;rw[Xu];omega);have fin:∀q:Fm×Kd,q.1.kids=f.kids->U9 (Xe (Q9 q.1.e) (Xa (k:Int)) q.2.e) q.1.e=(Fm.put q k).e:=λq hq=>by
  rw[Xl];exact U9e q.1 k q.2
 have qF:∀q:Fm,q.kids=f.kids->inb (k:Int) (Q9 q.e).length=true:=λq hq=>by
  show inb (k:Int) (q.kids.map Kd.e).length=true;rw[hq];exact pJ
 have ax:Wz (([]:List Y_KidRun).length+(f.kids.map Kd.e).length)=true:=Wq (by simp;omega);simp only[Wj,Wal,f9,rV,kc,Wa,ax,Wb,Xbb,Xbd,pJ,e2,k0,Wu];unfold WjW;by_cases h0:x.phase=0
 .rw[Wf h0,Wf h0];simp only[tp,Wb,e3,ec];rw[Wog hk hm bL hF aZ aN h0 hn hN];have iF:(Wpk m f x code).1.kids=f.kids:=by
   unfold Wpk;split
   .rfl
   .simp only;split
    .exact WkT m f x _
    .repeat' split
     all_goals rfl
  simp only[Xd,qF _ iF,Wb,fin _ iF]
 rw[Wc h0,Wc h0];by_cases h1:x.phase=1
 .rw[Wf h1,Wf h1];by_cases ho:f.owner=0
  .rw[Wf (show f.e.2.2.1=0 from ho),Wf ho];rw[show Wh .i64 (k:Int) 1=(k:Int)+1 from Wap (by omega)];exact Wm (λz=>some ((m,()),(z,()))) (fin ({f with owner:=(k:Int)+1},{x with phase:=2}) rfl)
  .rw[Wc (show¬f.e.2.2.1=0 from ho),Wc ho,co];have:=fin (f,x) rfl;rw[co]at this;exact Wm (λz=>some ((m,()),(z,()))) this
 rw[Wc h1,Wc h1];by_cases h2:x.phase=2
 .rw[Wf h2,Wf h2];simp only[k4,k7];by_cases hp:x.pos=x.seen.length
  .rw[Wf (show x.pos=Wg x.seen by unfold Wg;exact hp),Wf hp,e3,Wlv hk h3 bL.toCC.len hF aZ aN hN];simp only[Xd,qF (WhU f x k).1 rfl,Wb,fin (WhU f x k) rfl]
  .rw[Wc (show¬x.pos=Wg x.seen by unfold Wg;exact hp),Wc hp];have fL:=hx.pos;have qZ:inb x.pos x.seen.length=true:=by unfold inb;simp;omega
   have hP6:P6 f.e=f.buf:=rfl;have uL:=hF.buf8;simp only[qZ,Wb,e3];rw[Wiz (show(P6 f.e).length<=1048576 by rw[hP6];omega) hN,hP6];have eg:Xc x.seen (Xa x.pos) ((0:Int),((0:Int),(0:Int)))=WbO x.seen x.pos (0,0,0):=rfl;rw[eg];have ny:Zfs N (U9 (f.kids.map Kd.e) (S2 (0:Int) f.e)) x.e=some ((Fm.e {f with owner:=0},()),((f.again x).e,())):=
    WgT (f:=Fm.e {f with owner:=0}) (x:=x.e) hF.regs.len (by have:=hx.tries;show 0<=x.tries/\x.tries<=100000;omega)
   have i1:Wh .i64 x.pos 1=x.pos+1:=Wap (by have:=hx.sl;have:=hx.pc;have:=bL.toCC.len;omega);unfold WxA;rcases he:ent f.buf (WbO x.seen x.pos (0,0,0)).1 with _|r
   all_goals
    simp only[ret,Xd,ny,Wu,i1]
   .by_cases hz:(-1:Int)=(WbO x.seen x.pos (0,0,0)).2.2
    .rw[Wf hz,Wf hz];exact Wm (λz=>some ((m,()),(z,()))) (fin (f,{x with pos:=x.pos+1}) rfl)
    .rw[Wc hz,Wc hz,qF {f with owner:=0} rfl,Wb];have:=fin ({f with owner:=0},f.again x) rfl;rw[←this];show _=some ((m,()),((f.rv,(f.clock,((0:Int),(f.lost,(f.regs,(f.start,(f.buf,(f.order,(f.reads,Xe (f.kids.map Kd.e) (Xa (k:Int)) (f.again x).e))))))))),()));rfl
   .by_cases hz:r.2.2.2=(WbO x.seen x.pos (0,0,0)).2.2
    .rw[Wf hz,Wf hz];exact Wm (λz=>some ((m,()),(z,()))) (fin (f,{x with pos:=x.pos+1}) rfl)
    .rw[Wc hz,Wc hz,qF {f with owner:=0} rfl,Wb];have:=fin ({f with owner:=0},f.again x) rfl;rw[←this];show _=some ((m,()),((f.rv,(f.clock,((0:Int),(f.lost,(f.regs,(f.start,(f.buf,(f.order,(f.reads,Xe (f.kids.map Kd.e) (Xa (k:Int)) (f.again x).e))))))))),()));rfl
 .rw[Wc h2,Wc h2,co];have:=fin (f,x) rfl;rw[co]at this;exact Wm (λz=>some ((m,()),(z,()))) this
end
section
abbrev FSc:=List Int×List Int×List Rw×List (List Opn)×List Int
variable{N:Nat}{s:FSc}{m:Mm}{f:Fm}{n:Int}
theorem WoV{rv:Int}{regs:List Int}{writes:List Rw}{kids:Nat}(hr:regs.length<=1000)(hw:writes.length<=1000)(hk:kids<=3)(hN:1048576<N):
  Zke N rv regs writes (kids:Int)=ret (Wc5 rv regs writes kids).e:=by
 unfold Zke;rw[WcQ (by omega),Wd6 (by omega) hN];have hn:=WcS writes;simp only[ret,Xd];generalize hnet:WcO writes=nw at*;have qz:∀(b:List En) (dd j n:Nat) (o:List Y_KidRun),j+dd=kids->dd<n->o=Xp j (Kd.e {regs:=regs})->
   Zbk N regs (kids:Int) rv regs nw b (λsf sh mS=>(some ((),((rv,((0:Int),((0:Int),(false,(regs,(nw,(b,(([]:List Int),(([]:List Kc),mS))))))))),())))) n (j:Int) o=
   some ((),((rv,((0:Int),((0:Int),(false,(regs,(nw,(b,(([]:List Int),(([]:List Kc),Xp kids (Kd.e {regs:=regs})))))))))),())):=by
  intro b dd
  induction dd with
  |zero=>
   intro j n o hj qd ho;obtain⟨n,rfl⟩:∃n',n=n'+1:=⟨n-1,by omega⟩;have:j=kids:=by omega
   subst this;rw[Zbk,Wk (show¬(j:Int)<(j:Int) by omega),Wa,ho]
  |succ dd ih=>
   intro j n o hj qd ho;obtain⟨n,rfl⟩:∃n',n=n'+1:=⟨n-1,by omega⟩;rw[Zbk,We (show(j:Int)<(kids:Int) by omega),Wb,WcQ (by omega)];simp only[ret,Xd];rw[Wq (by rw[ho];simp;omega),Wb,Wp (show j<4611686018427387904 by omega),Xbb];refine ih (j+1) n _ (by omega) (by omega) ?_;rw[ho,List.replicate_succ'];rfl
 have tc:∀(dd j n:Nat) (o:List En),j+dd=nw.length->dd<n->o=(nw.take j).map (λr=>((r.1,r.2,0):En))->
   Zd5 N regs (kids:Int) rv nw regs nw (λwR se eM=>
  (Zbk N regs (kids:Int) rv regs nw eM
 (λsf sh mS=>
  (some ((),((rv,((0:Int),((0:Int),(false,(regs,(nw,(eM,(([]:List Int),(([]:List Kc),mS))))))))),()))))
 N (0:Int) ([]:List Y_KidRun))) n (j:Int) o=
   (Zbk N regs (kids:Int) rv regs nw (nw.map (λr=>((r.1,r.2,0):En)))
 (λsf sh mS=>
  (some ((),((rv,((0:Int),((0:Int),(false,(regs,(nw,(nw.map (λr=>((r.1,r.2,0):En)),(([]:List Int),(([]:List Kc),mS))))))))),()))))
 N (0:Int) ([]:List Y_KidRun)):=by
  intro dd
  induction dd with
  |zero=>
   intro j n o hj qd ho;obtain⟨n,rfl⟩:∃n',n=n'+1:=⟨n-1,by omega⟩;have:j=nw.length:=by omega
   subst this;simp only[Zd5,WW (Xm _),Wa];rw[ho,List.take_length]
  |succ dd ih=>
   intro j n o hj qd ho;obtain⟨n,rfl⟩:∃n',n=n'+1:=⟨n-1,by omega⟩;have ac:j<nw.length:=by omega
   have g2:Xc nw (Xa (j:Int)) ((0:Int),(0:Int))=nw[j]:=Wt ac _;have ax:∀x:En,Wz (o.length+ [x].length)=true:=λx=>Wq (by rw[ho];simp;omega);simp only[Zd5,WL ac,Ww ac,g2,Wb,ax,Wp (show j<4611686018427387904 by omega),Xbb];refine ih (j+1) n _ (by omega) (by omega) ?_;rw[ho,List.take_succ_eq_append_getElem ac,List.map_append];rfl
 refine(tc nw.length 0 N [] (by omega) (by omega) (by simp)).trans ?_;have:=qz (nw.map (λr=>((r.1,r.2,0):En))) kids 0 N [] (by omega) (by omega) rfl;refine this.trans ?_;unfold Wc5 Fm.e;simp only[hnet,Xec]
end
section
variable{N:Nat}{w:Wo}{x:Rt}{k:Nat}{p:Pg}{n:Int}{o:Opn}{f:Fm}
theorem Wuu(h3:f.kids.length<=3)(hN:1048576<N):Zi9 N f.e=ret (WcH f):=by
 unfold Zi9;have hm:(f.kids.map Kd.e).length=f.kids.length:=by simp
 have e2:f.e.2.2.2.2.2.2.2.2.2=f.kids.map Kd.e:=rfl;have h1:=Wx (l:=f.kids.map Kd.e) (V:=Unit) (R:=Unit×Ko) (lp:=λn j v=>Zdc N f.e (some ((),(false,()))) (λi6 t7=>some ((),(true,()))) n j) (n:=N) (by omega)
  (body:=λj x v k=>bif x.1 !=(3:Int)then some ((),(false,()))else k v) (K:=λ_ v=>some ((),(true,())))
  (λn i v hi=>by simp only[Zdc,e2,WL hi,Ww hi,Wt hi,Wp (show i<4611686018427387904 by omega),Wb])
  (λn v=>by simp only[Zdc,e2,WW (Xm _),Wa]) ()
 refine h1.trans ?_;rw[W7 (p:=λx:Y_KidRun=>x.1 !=(3:Int)) (E:=λ_=>some ((),(false,()))) _ 0 () (λj x v k _=>rfl)];have h3:(f.kids.map Kd.e).any (λx=>x.1 !=3)= !WcH f:=by
  unfold WcH;rw[List.any_map,←Wbm];have:((λx:Y_KidRun=>x.1 !=3)∘Kd.e)= λx:Kd=>!decide (x.phase=3):=by
   funext x;show(x.phase !=3)= !decide (x.phase=3);by_cases h:x.phase=3<;>simp[h]
  rw[this]
 rw[h3];cases WcH f<;>rfl
theorem Wul(h:f.buf.length<=1000)(hN:1048576<N):Zjb N f.e=ret (Wg6 f):=by
 unfold Zjb;have e:P6 f.e=f.buf:=rfl;have h1:=Wx (l:=f.buf) (V:=List Rw) (R:=Unit×(List Rw×Unit)) (lp:=λn j v=>Zdd N f.e (λi8 t9 cd=>(some ((),(cd,())))) n j v) (n:=N) (by omega)
  (body:=λj x v k=>bif Wz (v.length+ [(x.1,x.2.1)].length)then k (Xh v [(x.1,x.2.1)])else none) (K:=λ_ v=>ret v)
  (λn i v hi=>by simp only[Zdd,Wj,e,WL hi,Ww hi,Wt hi,Wp (show i<4611686018427387904 by omega),Wb])
  (λn v=>by simp only[Zdd,e,WW (Xm f.buf.length),Wa]) []
 refine h1.trans ?_;rw[Wca (f:=λx:En=>(x.1,x.2.1)) f.buf 0 [] (by simp;omega) (λj x v k _=>rfl)];rfl
theorem WtB(hr:Vals 4 f.regs)(h3:f.kids.length<=3)(hx:∀x∈f.kids,x.regs.length<=1000)(hN:1048576<N):Zja N f.e=ret (WfZ f):=by
 unfold Zja WfZ;have e:f.e.2.2.2.2.1=f.regs:=rfl;have e2:f.e.2.2.2.2.2.2.2.2.2=f.kids.map Kd.e:=rfl;have e9:Q9 f.e=f.kids.map Kd.e:=rfl;have kM:WcP f.regs=true:=Wcn.2 hr;have hl:=hr.len;have hm:(f.kids.map Kd.e).length=f.kids.length:=by simp
 rw[e,e2,Wdo (by omega) hN,Wf ⟨kM,h3⟩];simp only[ret,Xd,kM,Xk,Wa];rw[Wk (by unfold Wg;omega),WcQ (by omega)];simp only[ret,Xd,Wa];have h1:=Wx (l:=f.kids.map Kd.e) (V:=List Int) (R:=Unit×(List Int×Unit)) (lp:=λn j v=>Zba N f.e (λgw cl cQ=>(some ((),(cQ,())))) n j v) (n:=N) (by omega)
  (body:=λj x v k=>bif inb j v.length then(bif P5 x==(1:Int)then((Zcf N (P6 x)).bind λbZ=>(bif bZ.2.1 then(bif inb 0 (P6 x).length then(bif inb j (Xe v j.toNat 0).length then k (Xe (Xe v j.toNat 0) j.toNat (Xc (P6 x) (Xa (0:Int)) 0))else none)else none)else k (Xe v j.toNat 0)))else k (Xe v j.toNat 0))else none) (K:=λ_ v=>ret v)
  (λn i v hi=>by simp only[Zba,Wj,e9,WL hi,Ww hi,Wt hi,Wp (show i<4611686018427387904 by omega),Wb])
  (λn v=>by simp only[Zba,e9,WW (Xm _),Wa]) f.regs
 refine h1.trans ?_;have h2:=Wg0 (β:=Int) (K:=λ_ v=>ret v) (f:=λx:Y_KidRun=>if P5 x=1/\WcP (P6 x)=true then WbO (P6 x) 0 0 else 0) (f.kids.map Kd.e) [] f.regs (by omega) (body:=λj x v k=>bif inb j v.length then(bif P5 x==(1:Int)then((Zcf N (P6 x)).bind λbZ=>(bif bZ.2.1 then(bif inb 0 (P6 x).length then(bif inb j (Xe v j.toNat 0).length then k (Xe (Xe v j.toNat 0) j.toNat (Xc (P6 x) (Xa (0:Int)) 0))else none)else none)else k (Xe v j.toNat 0)))else k (Xe v j.toNat 0))else none)
  (λj x v k s0 hj=>by
   obtain⟨y,hy,rfl⟩:=Xw.1 s0;have xK:=hx y hy;have s7:P5 (Kd.e y)=y.out:=rfl;have p6:P6 (Kd.e y)=y.regs:=rfl;simp only[s7,p6,WE,We hj,Wb,Wdo (show y.regs.length<=1048576 by omega) hN,ret,Xd,Wu,Xl,Xat];by_cases h1:y.out=1
   .rw[Wf h1];cases kM:WcP y.regs
    .rw[Wc (by simp)];rfl
    .have:y.regs.length=4:=(Wcn.1 kM).len;rw[Wf ⟨h1,rfl⟩,show inb (0:Int) y.regs.length=true by rw[this];rfl];simp only[Wb,Xct];rfl
   .rw[Wc h1,Wc (λh=>h1 h.1)])
 simp only[Xby,Xbd,Xu,List.map_map]at h2;exact h2
theorem Wtx(hp:POk p)(hx:RLive p n x)(h2:x.phase=2)(hN:1048576<N):Zo4 N x.e=ret (Whi x).e:=by
 obtain⟨r0,r1,r2,r3,r4,r5,r6,r7,r8,eR,ew,dB,dF,dG,dV,fA,fB,eS,eT,fC,fD,fE⟩:=rtP x;have hc:=hp.code;obtain⟨z1,z2,z3,z4,z5,z6⟩:=hx.sz hc;obtain⟨f1,f2,f3⟩:=hx.fork h2;have bB:=hx.pc;have cP:=hc.len;have pH:x.fam.kids.length<=3:=by have:=f3.len;have:=hp.k3;omega
 have kL:=f3.len3 hp.k3;have pB:=f3.readsL;unfold Zo4 Whi;simp only[r3,dB,eT,fC,fD,fE,Wgj,ret,Xd];rw[Wuu pH hN,WtB f3.regs pH (λy hy=>by
  obtain⟨i,hi,rfl⟩:=List.getElem_of_mem hy;rw[(f3.kid i hi).regs.len];omega) hN,Wul (by have:=f3.buf8;omega) hN,Wq (show([]:List Rw).length+x.reads.length<=_ by simp;omega),Wq (by simp;omega),WcQ (by omega),Wap (by omega),Wdn]
 by_cases hl:x.fam.lost=true
 .rw[Wf hl,Wf hl]
 .rw[Wc hl,Wc hl];simp only[ret,Xd,Wb];cases ho:WcH x.fam
  .rw[Wc (by simp)];rfl
  .rw[Wf rfl];rfl
theorem WqV(hc:CC p.1)(hx:RLive p n x)(h3:x.phase=3)(hu:∀u∈x.undos,UnV u)(hs:ShOk w.shelf)(hN:1048576<N):Zmj N w.e x.e=some ((),((WbA w x).1.e,((WbA w x).2.e,()))):=by
 obtain⟨r0,r1,r2,r3,r4,r5,r6,r7,r8,eR,ew,dB,dF,dG,dV,fA,fB,eS,eT,fC,fD,fE⟩:=rtP x;obtain⟨z1,z2,z3,z4,z5,z6⟩:=hx.sz hc;have hz:=hx.back (.inl h3);obtain⟨m,q,e1,e2,⟨eB,gz⟩,e4,e5,e6,e7,e8,e9,ji,jH,iS,iT,hD⟩:=hx.mk24 hc hz;obtain⟨a,b,c,d⟩:=Wbr hz (by omega) zRM;have b':Xc x.marks (Xa (WT .i64 (Wg x.marks) 1)) ((0:Int),((0:Int),((0:Int),((0:Int),([]:List Int)))))=x.last:=b;unfold Zmj WbA;rw[dG,dV,a,b'];simp only[Wb,WU];by_cases fF:Wg x.undos>x.last.2.2.2.1
 .rw[Wf fF,Wf (show(x.undos.length:Int)>x.last.2.2.2.1 from fF),Wl3 (by unfold Wg at fF;omega) (by omega) hu hs hN];rfl
 .rw[Wc fF,Wc (show¬(x.undos.length:Int)>x.last.2.2.2.1 from fF)];rfl
theorem WqG(hp:POk p)(hx:RLive p n x)(h4:x.phase=4)(hm:W0 w.mem=true):
  Zcx N w.e x.e=some ((w.e,()),((WbX w x).e,())):=by
 obtain⟨r0,r1,r2,r3,r4,r5,r6,r7,r8,eR,ew,dB,dF,dG,dV,fA,fB,eS,eT,fC,fD,fE⟩:=rtP x;have hc:=hp.code;obtain⟨z1,z2,z3,z4,z5,z6⟩:=hx.sz hc;have hz:=hx.back (.inr h4);obtain⟨m,q,e1,e2,⟨eB,gz⟩,e4,e5,e6,e7,e8,e9,ji,jH,iS,iT,hD⟩:=hx.mk24 hc hz;obtain⟨a,b,c,d⟩:=Wbr hz (by omega) zRM;have b':Xc x.marks (Xa (WT .i64 (Wg x.marks) 1)) ((0:Int),((0:Int),((0:Int),((0:Int),([]:List Int)))))=x.last:=b;have co:=hx.pos h4;have bB:=hx.pc;have cP:=hc.len;unfold Zcx WbX;simp only[Wj];rw[dG,a,b'];simp only[Wb,ret,Xd,r4,r5,r6,dB,dF,WU,Wgj,show w.e.2.2.1.2=w.mem.2 from rfl];by_cases ac:x.pos<x.last.2.1
 .rw[Wf ac,Wf ac];have hj:x.pos.toNat<x.reads.length:=by omega
  have dj:inb x.pos x.reads.length=true:=by unfold inb;simp;omega
  have hg:Xc x.reads (Xa x.pos) ((0:Int),(0:Int))=WbO x.reads x.pos (0,0):=rfl;have hv:0<=(WbO x.reads x.pos (0,0)).1/\(WbO x.reads x.pos (0,0)).1<=7:=by
   unfold WbO;rw[WF hj];exact(hx.reads _ (Xv hj)).1
  rw[dj,hg,Wcj hm hv,show Xc w.mem.2 (Xa (WbO x.reads x.pos (0,0)).1) ((0:Int),((0:Int),(0:Int)))=WaA w.mem (WbO x.reads x.pos (0,0)).1 from rfl,Wap (by omega)];simp only[Wb,Was];by_cases a:(WaA w.mem (WbO x.reads x.pos (0,0)).1).2.2=0
  .rw[Wf a];by_cases b:(WaA w.mem (WbO x.reads x.pos (0,0)).1).2.1>x.rv
   .rw[Wf b,Wf (.inr b)]
   .rw[Wc b,Wc (by omega)];rfl
  .rw[Wc a,Wf (.inl a)]
 .rw[Wc ac,Wc ac];have b1:(decide ((0:Int)<=x.last.2.1)&&decide (x.last.2.1<=(x.reads.length:Int)))=true:=by simp;omega
  have b2:(decide ((0:Int)<=x.last.2.2.1)&&decide (x.last.2.2.1<=(x.writes.length:Int)))=true:=by simp;omega
  rw[b1,b2,Wq (by simp;omega),Wq (by simp;omega),WcQ (by rw[e9.len];omega),Wap (by omega)];simp only[Wb,ret,Xd];rfl
theorem WqM(gy:k<=8)(iZ:CmOk x.cm)(hm:W0 w.mem=true)(hh:w.hist.length<=500000)(hN:1048576<N):
  Zmk N w.e x.e (k:Int)=some ((),((Wbl w x k).1.e,((Wbl w x k).2.e,()))):=by
 obtain⟨r0,r1,r2,r3,r4,r5,r6,r7,r8,eR,ew,dB,dF,dG,dV,fA,fB,eS,eT,fC,fD,fE⟩:=rtP x;have bt:=Wjz iZ hm;unfold Zmk Wbl;simp only[Wj];rw[Wap (by omega)];simp only[r7,eR,eS,show w.e.2.2.1=w.mem from rfl,show Q6 w.e=w.hist from rfl];rw[Wdn];by_cases hd:x.doomed=true
 .rw[Wf hd,Wf hd];obtain⟨b,hb⟩:=Wnr (N:=N) iZ hN;rw[hb];simp only[Xd,Wu,show(Wbj x.cm).e.2.2.1=(Wbj x.cm).phase from rfl];by_cases h8:(Wbj x.cm).phase=8
  .rw[Wf h8];simp only[Wf h8];rfl
  .rw[Wc h8];simp only[Wc h8];rfl
 .rw[Wc hd,Wc hd,Wph iZ hm hN];simp only[Xd];obtain⟨m',c',hq⟩:∃m' c',Wdm w.mem x.cm=(m',c'):=⟨_,_,rfl⟩;rw[hq]at bt⊢;simp only at bt⊢;have hS:S20 c'.e x.e=Rt.e {x with cm:=c'}:=rfl;have eU:=bt.1.plen;rw[hS,Wgj,Wq (show([]:List Rw).length+(P5 c'.e).length<=_ by show 0+c'.puts.length<=1073741824;omega),Wq (by simp;omega)];simp only[ret,Xd,Wb,Wu,WU,show c'.e.2.2.1=c'.phase from rfl,show(Cm.e x.cm).2.2.1=x.cm.phase from rfl,show P4 c'.e=c'.wv from rfl];unfold WmZ;simp only;by_cases h3:x.cm.phase<=3
  .rw[Wf h3];by_cases h4:c'.phase=4
   .rw[Wf h4,Wc (by omega),Wc (by omega),Wf (show x.cm.phase<=3/\c'.phase=4 from⟨h3,h4⟩),Wc (by omega),Wc (by omega)];rfl
   .rw[Wc h4,Wc (show¬(x.cm.phase<=3/\c'.phase=4)fromλh=>h4 h.2)];by_cases h8:c'.phase=8
    .rw[Wf h8,Wf h8];rfl
    .rw[Wc h8,Wc h8];by_cases h6:c'.phase=6
     .rw[Wf h6,Wf h6];by_cases h2:x.fate=2
      .rw[Wf h2,Wf h2];rfl
      .rw[Wc h2,Wc h2];rfl
     .rw[Wc h6,Wc h6];rfl
  .rw[Wc h3,Wc (show¬(x.cm.phase<=3/\c'.phase=4)fromλh=>h3 h.1)];by_cases h8:c'.phase=8
   .rw[Wf h8,Wf h8];rfl
   .rw[Wc h8,Wc h8];by_cases h6:c'.phase=6
    .rw[Wf h6,Wf h6];by_cases h2:x.fate=2
     .rw[Wf h2,Wf h2];rfl
     .rw[Wc h2,Wc h2];rfl
    .rw[Wc h6,Wc h6];rfl
end
section
variable{N:Nat}{w:Wo}{x:Rt}{k:Nat}{p:Pg}{n:Int}{o:Opn}{f:Fm}{s:Sc}{a:Ac}
theorem Wvb(gy:k<=8)(hp:POk p)(hx:RLive p n x)(hu:∀u∈x.undos,UnV u)(hm:W0 w.mem=true)(hs:ShOk w.shelf)(hh:HOk w.holds)(hN:1048576<N):
  Zp0 N w.e x.e (k:Int) p=some ((),((Woy w x k p).1.e,((Woy w x k p).2.e,()))):=by
 obtain⟨r0,r1,r2,r3,r4,r5,r6,r7,r8,eR,ew,dB,dF,dG,dV,fA,fB,eS,eT,fC,fD,fE⟩:=rtP x;have hc:=hp.code;obtain⟨z1,z2,z3,z4,z5,z6⟩:=hx.sz hc;have bB:=hx.pc;have cP:=hc.len;have ct:=hx.regs.len;unfold Zp0 Woy;simp only[Wj,Wal];simp only[r3,r4,ew,dB,dF,dG,dV,WU,Wu];by_cases dq:x.pc>=p.1.length
 .rw[Wf (show x.pc=Wg p.1 by unfold Wg;omega),Wf dq,WnJ gy hh hx.rv z5 z6 hN];rfl
 .rw[Wc (show¬x.pc=Wg p.1 by unfold Wg;omega),Wc dq];obtain⟨j,hj,ej,eo⟩:=Wjr (l:=p.1) bB.1 (by omega);have nd:Xc p.1 (Xa x.pc) ((0,0,0,0):Opn)=opN p.1 x.pc:=rfl;have dj:inb x.pc p.1.length=true:=by grind [WE,decide_eq_true]
  rw[dj];obtain⟨ok,o1,ip⟩:=hc.ok j hj;simp only[Wb,nd];rw[←eo]at ok o1 ip;rw[Wap (show 0<=x.pc/\x.pc<=1000000 by omega)];have kN:(opN p.1 x.pc).1=9->x.marks.length≠0:=λh9 hz=>by
   have h1:=Wm Xb hx.marks.pcs;simp only[Xu,hz]at h1;have h2:=Wa3 hc.up j (by omega);have h3:=hc.up j hj
   grind [WaC,Wl4,Xl]
  generalize opN p.1 x.pc=o at*;by_cases h5:o.1=5
  .rw[Wf h5,Wf h5,Wtv hc hx hm h5 ok hN];rfl
  rw[Wc h5,Wc h5];by_cases h6:o.1=6
  .rw[Wf h6,Wc (by omega),Wc (by omega),Wc (by omega),Wf h6,WS (Wwf ok h6).2 ct,Wq (show(Xh ([]:List Rw) x.writes).length+_<=_ by simp;omega),Wq (by simp;omega)];simp only[Wb,Wal];rfl
  rw[Wc h6];by_cases h7:o.1=7
  .rw[Wf h7];have h:=Wwg ok h7;rw[WS h.1 ct,WJ (a:=x.pc) (b:=o.2.2.1) (by unfold I64;omega),Wap (a:=x.pc+o.2.2.1) (by omega)];have nR:¬o.1=10:=by omega
   have uO:¬o.1=11:=by omega
   have mU:¬o.1>=12:=by omega
   by_cases hg:Xc x.regs (Xa o.2.1) 0=0
   .rw[Wf hg,Wc nR,Wc uO,Wc mU,Wc h6,Wf h7,Wf (show WbO x.regs o.2.1 0=0 from hg)];rfl
   .rw[Wc hg,Wc nR,Wc uO,Wc mU,Wc h6,Wf h7,Wc (show¬WbO x.regs o.2.1 0=0 from hg)];rfl
  rw[Wc h7];by_cases h8:o.1=8
  .rw[Wf h8,Wc (by omega),Wc (by omega),Wc (by omega),Wc h6,Wc h7,Wf h8,WcQ (by omega)];simp only[ret,Xd];rw[Wq (show([]:List RM).length+x.marks.length<=_ by simp;omega),Wq (by simp;omega)];rfl
  rw[Wc h8];by_cases h9:o.1=9
  .rw[Wf h9,Wc (by omega),Wc (by omega),Wc (by omega),Wc h6,Wc h7,Wc h8,Wf h9];have hz:=kN h9;obtain⟨a,b,c,d⟩:=Wbr hz (by omega) zRM;have b':Xc x.marks (Xa (WT .i64 (Wg x.marks) 1)) ((0:Int),((0:Int),((0:Int),((0:Int),([]:List Int)))))=x.last:=b;obtain⟨m,q,e1,e2,⟨eB,gz⟩,e4,e5,e6,e7,e8,e9,ji,jH,iS,iT,hD⟩:=hx.mk24 hc hz;rw[b',d,c,a,e2,WE,We eB,WcQ (by omega)];have o1:Xc p.1 (Xa ((m:Nat):Int)) ((0,0,0,0):Opn)=opN p.1 (m:Int):=rfl;have hr:=WuQ (hc.ok m eB).1 gz;rw[←We0 eB]at hr;simp only[Wb,o1,ret,Xd];rw[WS hr ct,Wq (by simp;omega)];rfl
  rw[Wc h9];by_cases cJ:o.1=10
  .rw[Wf cJ,Wf cJ];unfold Wji;by_cases hz:x.marks.length=0
   .rw[Wf (show Wg x.marks=0 by unfold Wg;omega),Wf hz,WnJ gy hh hx.rv z5 z6 hN];rfl
   .rw[Wc (show¬Wg x.marks=0 by unfold Wg;omega),Wc hz];obtain⟨a,b,c,d⟩:=Wbr hz (by omega) zRM;have b':Xc x.marks (Xa (WT .i64 (Wg x.marks) 1)) ((0:Int),((0:Int),((0:Int),((0:Int),([]:List Int)))))=x.last:=b;obtain⟨m,q,e1,e2,⟨eB,gz⟩,e4,e5,e6,e7,e8,e9,ji,jH,iS,iT,hD⟩:=hx.mk24 hc hz;rw[b',a];simp only[Wb];by_cases fF:Wg x.undos>x.last.2.2.2.1
    .rw[Wf fF,Wf (show(x.undos.length:Int)>x.last.2.2.2.1 from fF),Wl3 (by unfold Wg at fF;omega) (by omega) hu hs hN];rfl
    .rw[Wc fF,Wc (show¬(x.undos.length:Int)>x.last.2.2.2.1 from fF)];rw[d,c,WcQ (by rw[e9.len];omega),e2,WE,We eB];have o1:Xc p.1 (Xa ((m:Nat):Int)) ((0,0,0,0):Opn)=opN p.1 (m:Int):=rfl;have hr:=WuQ (hc.ok m eB).1 gz;rw[←We0 eB]at hr;simp only[Wb,ret,Xd,o1];rw[WS hr e9.len,Wq (by simp;omega)];have b2:(decide ((0:Int)<=x.last.2.2.1)&&decide (x.last.2.2.1<=(x.writes.length:Int)))=true:=by simp;omega
     rw[b2];simp only[Wb];rw[Wq (by simp;omega),Wjf (by omega) hN ⟨eB,gz⟩ e5];simp only[ret,Xd,Wb];rw[Wap (by have:=e5.len;omega)];rfl
  rw[Wc cJ,Wc cJ];by_cases gq:o.1=11
  .rw[Wf gq,Wf gq,show Wg p.2=((p.2.length:Nat):Int)from rfl,WoV (by omega) (by omega) hp.k3 hN];rfl
  rw[Wc gq,Wc gq];by_cases ek:o.1>=12
  .rw[Wf ek];have hb:=WsJ (w:=w) gy hc hx ok ek hs hh hN;have:o.1=12\/o.1=13\/o.1=14\/o.1=15\/o.1=16:=by omega
   rcases this with h|h|h|h|h
   .rw[Wf h,Wf h,hb];rfl
   .rw[Wc (by omega),Wf h,Wf h,hb];rfl
   .rw[Wc (by omega),Wc (by omega),Wf h,Wf h,hb];rfl
   .rw[Wc (by omega),Wc (by omega),Wc (by omega),Wf h,Wf h,hb];rfl
   .rw[Wc (by omega),Wc (by omega),Wc (by omega),Wc (by omega),Wf h,hb];rfl
  .rw[Wc ek,Wc (show¬o.1=12 by omega),Wc (show¬o.1=13 by omega),Wc (show¬o.1=14 by omega),Wc (show¬o.1=15 by omega),Wc (show¬o.1=16 by omega),Wc h6,Wc h7,Wc h8,Wc h9,Wht hN ok (by omega) (by omega) hx.regs];rfl
end
section
variable{N:Nat}{w:Wo}{x:Rt}{k:Nat}{p:Pg}{n:Int}{o:Opn}{f:Fm}{s:Sc}{a:Ac}
theorem WtY:Zo1 N x.e=ret (!(decide (x.phase=0)||decide (x.phase=8))):=by
 unfold Zo1;simp only[show x.e.1=x.phase from rfl];by_cases h0:x.phase=0
 .rw[h0];rfl
 .rw[show(x.phase !=0)=true by simpa using h0,Wk h0];by_cases h8:x.phase=8
  .rw[h8];rfl
  .rw[show(x.phase !=8)=true by simpa using h8,Wk h8];rfl
theorem Wpx{R:Type}{l:List Rt}{b6 b7 b8 b9:Int}{bi:Y_Root}{cx:List Kb}{cq:List Int}{c7:List Kb}{eP:List Kn}{K0 K1:Option R}(hk:k<=1000)(hl:l.length<=1000):∀(d j n:Nat),j+d=l.length->d<n->
  Z7 N (k:Int) b6 b7 b8 b9 bi cx cq c7 (l.map Rt.e) eP K0 (λ_ _=>K1) n (j:Int)=if b7=(k:Int)+1/\WaI k (l.drop j) j=false then K0 else K1
 |d,j,0,_,h=>by omega
 |0,j,n+1,hj,_=>by
  rw[Z7,show(j:Int)=(((l.map Rt.e).length:Nat):Int) by simp;omega,WW (Xm _),Wa,Wc (λz=>by
   have:=z.2;rw[List.drop_of_length_le (by omega)]at this;cases this)]
 |d+1,j,n+1,hj,hn=>by
  have ac:j<(l.map Rt.e).length:=by simp;omega
  have gQ:j<l.length:=by omega
  have ih:=Wpx (b6:=b6) (b7:=b7) (b8:=b8) (b9:=b9) (bi:=bi) (cx:=cx) (cq:=cq) (c7:=c7) (eP:=eP) (K0:=K0) (K1:=K1) hk hl d (j+1) n (by omega) (by omega);rw[Z7];simp only[WL ac,Ww ac,Wt ac,Wp (show j<4611686018427387904 by omega),Wb,List.getElem_map,WtY,ret,Xd,Wap (show 0<=(k:Int)/\(k:Int)<=1000000 by omega),ih,Wu,Was];rw[Xaz gQ,WaI];by_cases ht:b7=(k:Int)+1
  .rw[Wf ht];by_cases gt:j=k
   .rw[Wf (by omega),We gt];simp
   .rw[Wc (by omega),Wk gt];cases(decide (l[j].phase=0)||decide (l[j].phase=8))
    .simp[ht]
    .simp
  .rw[Wc ht,Wc (λz=>ht z.1),Wc (λz=>ht z.1)]
theorem Wt4(gy:k<=8)(mo:w.roots.length<=8)(hN:1048576<N):Zi6 N w.e x.e (k:Int)=some ((),((WeR w x k).1.e,((WeR w x k).2.e,()))):=by
 have ax:(((decide ((0:Int)<=(4:Int)))&&(decide ((4:Int)<=(4:Int))))&&(Wz (Xa (4:Int))))=true:=rfl;have lp:=λ(K0 K1:Option (Unit×(Y_World×(Y_Root×Unit))))=>Wpx (N:=N) (l:=w.roots) (k:=k) (b6:=w.e.1) (b7:=w.token) (b8:=w.e.2.2.1.1) (b9:=w.e.2.2.2.1.2) (bi:=x.e) (cx:=w.e.2.2.1.2) (cq:=w.e.2.2.2.1.1) (c7:=P4 w.e) (eP:=Q6 w.e) (K0:=K0) (K1:=K1) (by omega) (by omega) w.roots.length 0 N (by omega) (by omega);rw[Xbk]at lp;unfold Zi6 WeR;simp only[Wal,ax,Wb,Wap (show 0<=(k:Int)/\(k:Int)<=1000000 by omega),Wu,Was,WU,show w.e.2.1=w.token from rfl,show x.e.2.1=x.tries from rfl,show P5 w.e=w.roots.map Rt.e from rfl];have xX:∀(K0 K1:Option (Unit×(Y_World×(Y_Root×Unit)))),Z7 N (k:Int) w.e.1 w.token w.e.2.2.1.1 w.e.2.2.2.1.2 x.e w.e.2.2.1.2 w.e.2.2.2.1.1 (P4 w.e) (w.roots.map Rt.e) (Q6 w.e) K0 (λ_ _=>K1) N 0=if w.token=(k:Int)+1/\WaI k w.roots 0=false then K0 else K1:=lp;simp only[xX];by_cases t0:w.token=0
 .rw[Wf t0];rw[Wc (show¬(w.token≠0/\w.token≠(k:Int)+1) by omega)];by_cases ht:x.tries>=3
  .rw[Wf ht,Wf t0,Wf ⟨ht,t0⟩];rfl
  .rw[Wc ht,Wc (show¬(x.tries>=3/\w.token=0)fromλh=>ht h.1),Wc (show¬(w.token=(k:Int)+1/\WaI k w.roots 0=false) by omega),Wc (show¬(w.token=(k:Int)+1/\WaI k w.roots 0=false) by omega)];rfl
 .rw[Wc t0];by_cases t1:w.token=(k:Int)+1
  .rw[Wf t1,Wc (show¬(w.token≠0/\w.token≠(k:Int)+1) by omega),Wc (show¬(x.tries>=3/\w.token=0) by omega),Wc t0];have hc:∀(A:Option (Unit×(Y_World×(Y_Root×Unit)))),(if x.tries>=3 then A else A)=A:=λA=>by split<;>rfl
   rw[hc];by_cases ho:WaI k w.roots 0=false
   .rw[Wf ⟨t1,ho⟩];simp only[Wf (show w.token=(k:Int)+1/\WaI k w.roots 0=false from⟨t1,ho⟩)]
   .rw[Wc (λz=>ho z.2)];simp only[Wc (show¬(w.token=(k:Int)+1/\WaI k w.roots 0=false)fromλz=>ho z.2)];rfl
  .rw[Wc t1,Wf ⟨t0,t1⟩]
theorem Wsn{q:Wo×Rt}(hk:k<w.roots.length)(hr:q.1.roots=w.roots):(bif inb (k:Int) (Xb (P5 q.1.e))then some ((),((S5 (Xe (P5 q.1.e) (Xa (k:Int)) q.2.e) q.1.e),()))else none)=ret (Wo.put q k).e:=by
 rw[show P5 q.1.e=q.1.roots.map Rt.e from rfl,Ww (by rw[Xu,hr];exact hk),Xl,S5e];rfl
theorem Wq8{q:Wo×Rt}{r:Option (Unit×(Y_World×(Y_Root×Unit)))}(hk:k<w.roots.length)(hr:q.1.roots=w.roots)(e:r=some ((),(q.1.e,(q.2.e,())))):
  (r.bind λaa=>(bif inb (k:Int) (Xb (P5 aa.2.1))then some ((),((S5 (Xe (P5 aa.2.1) (Xa (k:Int)) aa.2.2.1) aa.2.1),()))else none))=ret (Wo.put q k).e:=by
 rw[e];exact Wsn hk hr
theorem Wpl:(WeR w x k).1.roots=w.roots:=by
 unfold WeR
 repeat' split
 all_goals rfl
theorem Wml:(Wbl w x k).1.roots=w.roots:=by
 unfold Wbl;split<;>rfl
theorem Wlt:(WbA w x).1.roots=w.roots:=by
 unfold WbA;split<;>rfl
theorem Wty(hk:k<w.roots.length)(aN:w.roots[k]=x)(mo:w.roots.length<=8)(hp:POk p)(h:GOk w)(hx:ROk p n x)(hn:0<=n/\n<=200000)(hh:w.hist.length<=500000)(hN:1048576<N):
  Zmc N w.e p (k:Int)=ret (Wo.put (Whp w x k p) k).e:=by
 obtain⟨g1,g2,g3,g4,g5⟩:=woG hk aN;obtain⟨r0,r1,r2,r3,r4,r5,r6,r7,r8,eR,ew,dB,dF,dG,dV,fA,fB,eS,eT,fC,fD,fE⟩:=rtP x;have ni:k<=8:=by omega
 have xU:=hx.tries;have tg:=hx.ul;have nC:=Wd8 h.holds;have P5w:P5 w.e=w.roots.map Rt.e:=rfl;unfold Zmc Whp;simp only[Wj];rw[P5w,g4,g2];simp only[r0,eR,dV,Wb,Wu];rw[Wdn];have kO:∀A:Option (Unit×(Y_World×Unit)),A=ret (Wo.put (
   if x.phase=0 then WeR w x k else
   if x.phase=1 then Woy w x k p else
   if x.phase=2 then(w,Whi x)else
   if x.phase=3 then WbA w x else
   if x.phase=4 then(w,WbX w x)else
   if x.phase=5 then Wbl w x k else
   if x.phase=6 then(if x.undos.length>0 then WeM w x else(w,{x with phase:=7}))else
   if x.phase=7 then
    (if x.fate=0 then({w with holds:=WV w.holds ((k:Int)+1)},{tries:=x.tries+1})
     else WkU {w with holds:=WV w.holds ((k:Int)+1)} x k)
   else(w,x)) k).e->(if x.doomed=true then((Zf N x.phase 1 4).bind λah=>bif ah.2.1 then((Za3 N x.e).bind λaa=>some ((),((S5 (Xe (w.roots.map Rt.e) (Xa (k:Int)) aa.2.1) w.e),())))else A)else A)=ret (Wo.put (
   if x.doomed=true/\1<=x.phase/\x.phase<=4 then(w,Wf3 x)else
   if x.phase=0 then WeR w x k else
   if x.phase=1 then Woy w x k p else
   if x.phase=2 then(w,Whi x)else
   if x.phase=3 then WbA w x else
   if x.phase=4 then(w,WbX w x)else
   if x.phase=5 then Wbl w x k else
   if x.phase=6 then(if x.undos.length>0 then WeM w x else(w,{x with phase:=7}))else
   if x.phase=7 then
    (if x.fate=0 then({w with holds:=WV w.holds ((k:Int)+1)},{tries:=x.tries+1})
     else WkU {w with holds:=WV w.holds ((k:Int)+1)} x k)
   else(w,x)) k).e:=λA hA=>by
  by_cases hd:x.doomed=true
  .rw[Wf hd,WcF];simp only[ret,Xd];by_cases fW:1<=x.phase/\x.phase<=4
   .rw[We fW.1,We fW.2,Wf ⟨hd,fW⟩,Xl,Wgj];simp only[Xan,Wb,ret,Xd];rw[S5e];rfl
   .have hb:(decide (1<=x.phase)&&decide (x.phase<=4))=false:=by
     rw[Xcl,Ws,Ws];omega
    rw[hb,Wc (λz=>fW z.2),Wa];exact hA
  .rw[Wc hd,Wc (λz=>hd z.1)];exact hA
 refine kO _ ?_;have p5:∀y:Y_Root,(some ((),((S5 (Xe (w.roots.map Rt.e) (Xa (k:Int)) y) w.e),())):Option (Unit×(Y_World×Unit)))=ret (S5 (Xe (w.roots.map Rt.e) k y) w.e):=λy=>by rw[Xl]
 by_cases h0:x.phase=0
 .rw[Wf h0,Wf h0];exact Wq8 hk Wpl (Wt4 ni mo hN)
 rw[Wc h0,Wc h0];by_cases h1:x.phase=1
 .rw[Wf h1,Wf h1];exact Wq8 hk (WsL hp h hx h1 ni hn.1).roots (Wvb ni hp (hx.live (by omega)) hx.undos h.mem h.shelf h.holds hN)
 rw[Wc h1,Wc h1];by_cases h2:x.phase=2
 .rw[Wf h2,Wf h2,Wtx hp (hx.live (by omega)) h2 hN];simp only[ret,Xd];rw[Xl,S5e];rfl
 rw[Wc h2,Wc h2];by_cases h3:x.phase=3
 .rw[Wf h3,Wf h3];exact Wq8 hk Wlt (WqV hp.code (hx.live (by omega)) h3 hx.undos h.shelf hN)
 rw[Wc h3,Wc h3];by_cases h4:x.phase=4
 .rw[Wf h4,Wf h4,WqG hp (hx.live (by omega)) h4 h.mem];exact Wsn (q:=(w,WbX w x)) hk rfl
 rw[Wc h4,Wc h4];by_cases h5:x.phase=5
 .rw[Wf h5,Wf h5];exact Wq8 hk Wml (WqM ni (hx.comm h5) h.mem hh hN)
 rw[Wc h5,Wc h5];by_cases h6:x.phase=6
 .rw[Wf h6,Wf h6];simp only[WU];by_cases hz:Wg x.undos>0
  .have mp:x.undos.length>0:=by unfold Wg at hz;omega
   rw[Wf hz,Wf mp];exact Wq8 hk rfl (Wl3 (by omega) (by omega) hx.undos h.shelf hN)
  .have mp:¬x.undos.length>0:=by unfold Wg at hz;omega
   rw[Wc hz,Wc mp,p5];exact Wm ret (S5e w k {x with phase:=7})
 rw[Wc h6,Wc h6];by_cases h7:x.phase=7
 .rw[Wf h7,Wf h7];refine Wq8 hk ?_ ?_
  .split<;>rfl
  .unfold Zrj;have hS4:S4 (WV w.holds ((k:Int)+1)) w.e=Wo.e {w with holds:=WV w.holds ((k:Int)+1)}:=rfl;rw[show P4 w.e=w.holds from rfl,Wap (by omega),Wi9 h.holds (by omega) hN,r7,r1];simp only[ret,Xd,Wu,hS4];rw[WsN (by omega),Wap (by omega)];by_cases hf:x.fate=0
   .rw[Wf hf];simp only[Wf hf];rfl
   .rw[Wc hf];simp only[Wc hf];rfl
 .rw[Wc h7,Wc h7,p5,g5,Wl9 hk aN]
end
section

end
section
section
variable{N:Nat}{s:Sc}{p:Pg}{w:Wo}{n:Int}{a:Ac}{k:Nat}
end
variable{N:Nat}{s:Sc}{w:Wo}{n:Int}{a:Ac}
end
section
variable{N:Nat}{w:Wo}{x:Rt}{k:Nat}{p:Pg}{n:Int}{o:Opn}{f:Fm}{s:Sc}{a:Ac}{m:Mm}
theorem Wr4{codes:List (List Opn)}{j:Int}(hl:f.kids.length=codes.length)(hj:¬(0<=j/\j<codes.length)):Zdq N m f.e codes j=some ((m,()),(f.e,())):=by
 unfold Zdq;rw[Wdn];split
 .rfl
 .by_cases h0:j<0
  .rw[We h0];rfl
  .rw[Wk h0,Wa,We (show j>=Wg (Q9 f.e) by rw[show Q9 f.e=f.kids.map Kd.e from rfl];unfold Wg;rw[Xu];omega)];rfl
theorem Wvd(h:WOk s.2.1 n w)(hn:n<=99999)(hN:1048576<N):Znp N w.e s a=ret (Wp2 s w a).e:=by
 have ht:=h.tick;have th:=h.now;have qc:=h.n0;have mo:w.roots.length<=4:=by rw[h.len];exact h.l4
 unfold Znp Wp2;simp only[Wj];rw[show P5 w.e=w.roots.map Rt.e from rfl,show w.e.1=w.now from rfl,Wap (by omega)];have ad:Wg s.2.1=(w.roots.length:Int):=by unfold Wg;rw[h.len]
 rw[ad,WQ (by unfold I64;omega)];simp only[WcF,ret,Xd];by_cases hb:0<=a.2.1/\a.2.1<w.roots.length
 .rw[Wf hb,We hb.1,We (show a.2.1<=(w.roots.length:Int) -1 by omega)];obtain⟨k,ti⟩:∃k:Nat,a.2.1=k:=⟨a.2.1.toNat,by omega⟩;have hk:k<w.roots.length:=by omega
  obtain⟨x,aN⟩:∃x,w.roots[k]=x:=⟨_,rfl⟩;have hx:=h.root k hk;rw[aN]at hx;have ja:k<s.2.1.length:=by rw[←h.len];exact hk
  have hp:=WnB h.progs ja;obtain⟨g1,g2,g3,g4,g5⟩:=woG hk aN;obtain⟨r0,r1,r2,r3,r4,r5,r6,r7,r8,eR,ew,dB,dF,dG,dV,fA,fB,eS,eT,fC,fD,fE⟩:=rtP x;have dz:∀y:Rt,(w.now+1,S4 (Xe (w.roots.map Rt.e) k y.e) w.e.2)=Wo.e (Wo.put ({w with now:=w.now+1},y) k):=λy=>by
   unfold Wo.put Wo.e;simp only[Xeo];rfl
  have cg:Wo.put ({w with now:=w.now+1},x) k={w with now:=w.now+1}:=by unfold Wo.put;simp only;rw[←aN,Xbg]
  simp only[ti,Xl,Xan,Xk,Wa];rw[g1,g4,WF hk,aN];simp only[Wb,r0,eS,eT,dz,cg,show w.e.2.2.1=w.mem from rfl];rw[WE,We ja];have tj:Xc s.2.1 k (([]:List Ka),([]:List Kz))=s.2.1.getD k pg0:=rfl;rw[tj];generalize iY:s.2.1.getD k pg0=p at*;have hg:GOk {w with now:=w.now+1}:=⟨h.mem,h.shelf,h.holds⟩;simp only[Wb,Wu];have bt:Zmc N (w.now+1,w.e.2) p (k:Int)=ret (Wo.put (Whp {w with now:=w.now+1} x k p) k).e:=
   Wty (w:={w with now:=w.now+1}) hk aN (by show w.roots.length<=8;omega) hp hg hx (by omega) (by have:=h.hist;show w.hist.length<=500000;omega) hN
  rw[bt];by_cases h1:a.1=1
  .rw[Wf h1,Wf h1];unfold WrT;rw[WF (show k<({w with now:=w.now+1}:Wo).roots.length from hk)];simp only[aN];rfl
  rw[Wc h1,Wc h1];by_cases h2:a.1=2
  .rw[Wf h2,Wf h2];by_cases hf:x.phase=2
   .rw[Wf hf];obtain⟨f1,f2,f3⟩:=(hx.live (by omega)).fork hf;by_cases hj:0<=a.2.2/\a.2.2<p.2.length
    .rw[Wf (show x.phase=2/\0<=a.2.2/\a.2.2<p.2.length from⟨hf,hj⟩)];obtain⟨j,lT⟩:∃j:Nat,a.2.2=j:=⟨a.2.2.toNat,by omega⟩;have eF:j<p.2.length:=by omega
     simp only[lT,Xl];have bL:KC (p.2.getD j []):=by rw[WF eF];exact hp.kids _ (Xv eF)
     rw[Wl7 (code:=p.2.getD j []) (by rw[f3.len];exact eF) (by rw[f3.len];exact hp.k3) h.mem bL f3 rfl hp.k3 (by omega) hN];have:U21 (Wgw w.mem x.fam j (p.2.getD j [])).e x.e=Rt.e {x with fam:=Wgw w.mem x.fam j (p.2.getD j [])}:=rfl;simp only[Xd,this];exact Wm ret (dz _)
    .rw[Wc (λz=>hj z.2),Wr4 f3.len hj];have hu:U21 x.fam.e x.e=x.e:=rfl;simp only[Xd,hu];have:=dz x;rw[cg]at this;exact Wm ret this
   .rw[Wc hf,Wc (λz=>hf z.1)]
  rw[Wc h2,Wc h2];by_cases h3:a.1=3
  .rw[Wf h3,Wf h3];have hd:S11 true x.e=Rt.e {x with doomed:=true}:=rfl;simp only[hd,dz,show(Cm.e x.cm).2.2.1=x.cm.phase from rfl,WU];by_cases fW:1<=x.phase/\x.phase<=4
   .rw[We fW.1,We fW.2,Wf (show(1<=x.phase/\x.phase<=4)\/(x.phase=5/\x.cm.phase<=3)from .inl fW)];rfl
   .have hb:(decide (1<=x.phase)&&decide (x.phase<=4))=false:=by
     rw[Xcl,Ws,Ws];omega
    rw[hb,Wa];by_cases h5:x.phase=5
    .rw[Wf h5];by_cases hc:x.cm.phase<=3
     .rw[Wf hc,Wf (show(1<=x.phase/\x.phase<=4)\/(x.phase=5/\x.cm.phase<=3)from .inr ⟨h5,hc⟩)]
     .rw[Wc hc,Wc (show¬((1<=x.phase/\x.phase<=4)\/(x.phase=5/\x.cm.phase<=3))fromλz=>z.elim fW λz=>hc z.2)]
    .rw[Wc h5,Wc (show¬((1<=x.phase/\x.phase<=4)\/(x.phase=5/\x.cm.phase<=3))fromλz=>z.elim fW λz=>h5 z.1)]
  .rw[Wc h3,Wc h3]
 .rw[Wc hb];have oc:(decide (0<=a.2.1)&&decide (a.2.1<=(w.roots.length:Int) -1))=false:=by
   rw[Xcl,Ws,Ws];omega
  rw[oc];rfl
theorem Wmb{m:List Int}(hl:m.length=8)(hx:∀x∈m,0<=x/\x<=65536)(hN:1048576<N):Zfm N m=ret (Wkk m):=by
 unfold Zfm Wkk;rw[show(Wg m !=(8:Int))=false by unfold Wg;rw[hl];rfl,Wa];rw[show Zri N=ret (Xp 16 0)from rfl];simp only[ret,Xd];have lp:∀(d j n:Nat) (l:List Int),j+d=m.length->d<n->SlOk l->Za9 N m (some ((),(([]:List Int),()))) (λlL dw bj=>(some ((),(bj,())))) n (j:Int) l=ret (WcT (m.drop j) j l):=by
  intro d
  induction d with
  |zero=>
   intro j n l hj hn hs;obtain⟨n,rfl⟩:∃n',n=n'+1:=⟨n-1,by omega⟩;have:j=m.length:=by omega
   subst this;simp[Za9,WW,Xm,Wa,Xbz,WcT]
  |succ d ih=>
   intro j n l hj hn hs;obtain⟨n,rfl⟩:∃n',n=n'+1:=⟨n-1,by omega⟩;have ac:j<m.length:=by omega
   have hb:=hx m[j] (Xv ac);simp only[Za9,WL ac,Ww ac,Wt ac,Wp (show j<4611686018427387904 by omega),Wb,WU,WcF,ret,Xd,We hb.1,We hb.2,Xan,Xk,Wa];rw[Xaz ac,WcT];by_cases h0:m[j]>0
   .rw[Wf h0,Wf h0,WQ (by unfold I64;omega),WdB hs (by omega) (by omega) hN];exact ih _ _ _ (by omega) (by omega) (Wgf hs (by omega) (by omega))
   .rw[Wc h0,Wc h0];exact ih _ _ _ (by omega) (by omega) hs
 have:=lp m.length 0 N (Xp 16 0) (by omega) (by omega) WjF;rw[Xbk]at this;exact this
theorem WvE(ci:WpN s=true)(hN:1048576<N):Zpy N s=ret (Wry s).e:=by
 obtain⟨t1,t2,t3,t4⟩:=WjC ci;have hv:Wdr s.1.1=true:=Wlc.2 t1.cells;have hr:(((decide ((0:Int)<=Wg s.2.1))&&(decide (Wg s.2.1<=Wg s.2.1)))&&(Wz (Xa (Wg s.2.1))))=true:=by
  unfold Wg;rw[Wq (by omega)];simp
 unfold Zpy;rw[WjO hv hN,Wmb t1.map.1 t1.map.2 hN,hr];simp only[Xd,ret,Wb,Wal];unfold Wry Wo.e Wg;rw[Xl];simp only[Xec];rfl
end
section
variable{N:Nat}{s:Sc}
theorem Wua{R:Type}{K0:Int->Bool->Int->Int->Int->Int->Kr->Kj->Kr->(List Y_Root)->Kag->Option R}(hl:s.2.2.length<=1000)(hN:1048576<N):
  ∀(d j n:Nat) (m:Int) (w:Wo),j+d=s.2.2.length->d<n->WOk s.2.1 m w->m+d<=90000->
  Zek N s.2.2 s K0 n (j:Int) w.now w.token w.mem.1 w.shelf.2 w.mem.2 w.shelf.1 w.holds (w.roots.map Rt.e) w.hist=
   (λv:Wo=>K0 (s.2.2.length:Int) false v.now v.token v.mem.1 v.shelf.2 v.mem.2 v.shelf.1 v.holds (v.roots.map Rt.e) v.hist) ((s.2.2.drop j).foldl (Wp2 s) w):=by
 intro d
 induction d with
 |zero=>
  intro j n m w hj hn h hm;obtain⟨n,rfl⟩:∃n',n=n'+1:=⟨n-1,by omega⟩;have:j=s.2.2.length:=by omega
  subst this;simp only[Zek,WW (Xm _),Wa,Xbz,Xgd]
 |succ d ih=>
  intro j n m w hj hn h hm;obtain⟨n,rfl⟩:∃n',n=n'+1:=⟨n-1,by omega⟩;have ac:j<s.2.2.length:=by omega
  have hw:(w.now,(w.token,((w.mem.1,w.mem.2),((w.shelf.1,w.shelf.2),(w.holds,(w.roots.map Rt.e,w.hist))))))=w.e:=rfl;simp only[Zek,WL ac,Ww ac,Wt ac,Wp (show j<4611686018427387904 by omega),Wb,hw];rw[Wv6 h (by omega) hN,Xaz ac,Xdh];exact ih (j+1) n (m+1) _ (by omega) (by omega) (Wiw h) (by omega)
theorem Wtc(hb:SB s)(hN:1048576<N):Zlj N s=ret (if WpN s=true then(Wtp s).e else d_World):=by
 unfold Zlj;rw[WjX hb hN];simp only[ret,Xd,Wj];cases hs:WpN s with
 |false=>rfl
 |true=>
  obtain⟨h1,h2,h3,h4⟩:=WjC hs;have h0:=Wpj hs;have oe:=Whg s.2.1 (by omega);simp only[Xk,Wa,W8];rw[Whd h1.map.1 h1.map.2 hN,WjZ (Wlc.2 h1.cells) hN];simp only[ret,Xd,oe,Wb,Wal];have fZ:=Wua (s:=s) (N:=N) (K0:=λnO nP kA pp pq pr cq c7 eX eP pt=>(some ((),((kA,(pp,((pq,cq),((c7,pr),(eX,(eP,pt)))))),())):Option (Unit×(Y_World×Unit)))) (by omega) hN s.2.2.length 0 N 0 (Wry s) (by omega) (by omega) h0 (by omega);rw[Wc1];have nj:((Wry s).roots.map Rt.e)=Xp s.2.1.length d_Root:=by
   unfold Wry;simp only[Xec];rfl
  rw[nj]at fZ;refine fZ.trans ?_;rw[Xbk];rfl
theorem WtR{R:Type}{K0:Int->Bool->Int->Int->Int->Int->Kr->Kj->Kr->(List Y_Root)->Kag->Option R}(hl:s.2.2.length<=1000)(hN:1048576<N):
  ∀(d j n:Nat) (m:Int) (w:Wo),j+d=s.2.2.length->d<n->WOk s.2.1 m w->m+d<=90000->
  Zgj N s K0 n (j:Int) w.now w.token w.mem.1 w.shelf.2 w.mem.2 w.shelf.1 w.holds (w.roots.map Rt.e) w.hist=
   (λv:Wo=>K0 (s.2.2.length:Int) false v.now v.token v.mem.1 v.shelf.2 v.mem.2 v.shelf.1 v.holds (v.roots.map Rt.e) v.hist) ((s.2.2.drop j).foldl (Wp2 s) w):=by
 intro d
 induction d with
 |zero=>
  intro j n m w hj hn h hm;obtain⟨n,rfl⟩:∃n',n=n'+1:=⟨n-1,by omega⟩;have:j=s.2.2.length:=by omega
  subst this;simp only[Zgj,WW (Xm _),Wa,Xbz,Xgd]
 |succ d ih=>
  intro j n m w hj hn h hm;obtain⟨n,rfl⟩:∃n',n=n'+1:=⟨n-1,by omega⟩;have ac:j<s.2.2.length:=by omega
  have hw:(w.now,(w.token,((w.mem.1,w.mem.2),((w.shelf.1,w.shelf.2),(w.holds,(w.roots.map Rt.e,w.hist))))))=w.e:=rfl;simp only[Zgj,WL ac,Ww ac,Wt ac,Wp (show j<4611686018427387904 by omega),Wb,hw];rw[show Znp N w.e s s.2.2[j]=ret (Wp2 s w s.2.2[j]).e from Wvd h (by omega) hN,Xaz ac,Xdh];exact ih (j+1) n (m+1) _ (by omega) (by omega) (Wiw h) (by omega)
theorem Wt0(hb:SB s)(hN:1048576<N):Znq N s=ret (if WpN s=true then(Wtp s).e else d_World):=by
 unfold Znq;rw[Wj6 hb hN];simp only[ret,Xd];cases hs:WpN s with
 |false=>rfl
 |true=>
  obtain⟨h1,h2,h3,h4⟩:=WjC hs;simp only[Xk,Wa,W8];rw[WvE hs hN];simp only[ret,Xd];have fZ:=WtR (s:=s) (N:=N) (K0:=λnO nP kA pp pq pr cq c7 eX eP pt=>(some ((),((kA,(pp,((pq,cq),((c7,pr),(eX,(eP,pt)))))),())):Option (Unit×(Y_World×Unit)))) (by omega) hN s.2.2.length 0 N 0 (Wry s) (by omega) (by omega) (Wpj hs) (by omega);rw[Xbk]at fZ;exact fZ
end
section
variable{n:Int}{w:Wo}{x y:Rt}{k:Nat}{p:Pg}{s:Sc}{a:Ac}
def KZ(y:Kd):Prop:=y.marks.length<=24/\∀q∈y.marks,q.2.2.length<=4
def KP(f:Fm)(x:Kd)(q:Fm×Kd):Prop:=q.1.kids=f.kids/\q.1.start=f.start/\(q.2.phase=0\/q.2.marks=x.marks\/q.2.marks= [])
theorem Wtn{m:Mm}{f:Fm}{x:Kd}{o:Opn}(h:x.phase=0):KP f x (Wgx m f x o):=by
 unfold Wgx;split
 .exact⟨rfl,rfl,.inl h⟩
 .split
  .split
   .exact⟨rfl,rfl,.inl rfl⟩
   .exact⟨rfl,rfl,.inl h⟩
  .simp only;generalize WaL m f.rv (if x.busy=true then x.pb else(o.2.2.1,0,0,0))=q
   (repeat' split)<;>exact⟨rfl,rfl,.inl h⟩
theorem WtC{m:Mm}{f:Fm}{x:Kd}{code:List Opn}:KP f x (WjW m f x k code):=by
 unfold WjW;split
 .rename_i h;unfold Wpk;split
  .exact⟨rfl,rfl,.inr (.inl rfl)⟩
  .simp only;split
   .exact Wtn h
   .split
    .refine⟨rfl,rfl,?_⟩;simp only;unfold Wi8;split
     .exact .inr (.inl rfl)
     .exact .inl h
    ·(repeat' split)<;>exact⟨rfl,rfl,.inl h⟩
 .split
  .split<;>exact⟨rfl,rfl,.inr (.inl rfl)⟩
  .split
   .split
    .exact⟨rfl,rfl,.inr (.inr rfl)⟩
    .simp only;split
     .exact⟨rfl,rfl,.inr (.inl rfl)⟩
     .exact⟨rfl,rfl,.inl rfl⟩
   .exact⟨rfl,rfl,.inr (.inl rfl)⟩
theorem KOk.kz{code:List Opn}{c:Int}{x:Kd}(hc:CC code)(h:KOk code c n x)(h0:x.phase=0):KZ x:=by
 have h1:=h.pc;have h2:=hc.len;have hm:=h.marks h0;have h7:=Wm Xb hm.pcs;simp only[Xu]at h7;have h8:=Wa3 hc.up x.pc.toNat (by omega);have h9:=(Wct code x.pc.toNat).2;exact⟨by omega,λq hq=>by have:=(hm.each q hq).1.len;omega⟩
structure RZ(x:Rt):Prop where
 rd:x.reads.length<=96
 wr:x.writes.length<=32
 ml:x.marks.length<=24
 mr:∀q∈x.marks,q.2.2.2.2.length<=4
 cm:x.phase≠5->x.cm={}
 fm:x.phase≠2->x.fam={}
 kd:∀y∈x.fam.kids,KZ y
 st:x.fam.start.length<=8
def RQ(x y:Rt):Prop:=((1<=y.phase/\y.phase<=4)\/(y.reads=x.reads/\y.writes=x.writes/\y.marks=x.marks)\/(y.reads= []/\y.writes= []/\y.marks= []))/\(y.phase≠5->y.cm={})/\(y.phase≠2->y.fam={})/\
 (y.fam=x.fam\/y.fam={}\/∃rv regs rows n,y.fam=Wc5 rv regs rows n)
theorem Wie:RQ x (Wf3 x):=by simp[RQ,Wf3]
theorem Why{y:Rt}(h:y.phase=1)(hc:y.cm={})(hf:y.fam={}):RQ x (Wbv y):=by
 unfold Wbv;split
 .simp[RQ,Wf3]
 .simp[RQ,hc,hf]
theorem Wlw(hc:x.phase≠5->x.cm={})(hf:x.phase≠2->x.fam={}):RQ x (WeM w x).2:=by simp[RQ,WeM];exact⟨hc,hf⟩
theorem Wvu(h:x.phase≠5)(h2:x.phase≠2)(hc:x.phase≠5->x.cm={})(hf:x.phase≠2->x.fam={}):RQ x (WkU w x k).2:=by simp[RQ,WkU,hc h,hf h2]
theorem WmY{out:Int}(h:x.phase=1)(hc:x.cm={})(hf:x.fam={}):RQ x (We4 w x k out).2:=by
 unfold We4;simp only;generalize (if out=2 then []else x.writes)=rows;split
 .simp[RQ,WkU,hc,hf]
 .simp[RQ,hf]
theorem Wt5{o:Opn}(h:x.phase=1)(hc:x.cm={})(hf:x.fam={}):RQ x (Wmd w x o):=by
 unfold Wmd;split
 .simp[RQ,h,hc,hf]
 .simp only;generalize WaL w.mem x.rv (if x.busy=true then x.pb else(o.2.2.1,0,0,0))=q;split
  .exact Why h hc hf
  .split
   .simp[RQ,h,hc,hf]
   .simp[RQ,h,hc,hf]
theorem Wv0(h:x.phase=1)(hc:x.cm={})(hf:x.fam={}):RQ x (Woy w x k p).2:=by
 unfold Woy;split
 .exact WmY h hc hf
 .simp only;split
  .exact Wt5 h hc hf
  .split
   .unfold Wji;split
    .exact WmY h hc hf
    .split
     .exact Wlw (λ_=>hc) (λ_=>hf)
     .simp[RQ,h,hc,hf]
   .split
    .simp[RQ,hc];exact .inr (.inr ⟨_,_,_,_,rfl⟩)
    .split
     .unfold WfP;split
      .exact Why h hc hf
      .simp[RQ,h,hc,hf]
     ·(repeat' split)<;>simp[RQ,h,hc,hf]
theorem Wuc(hc:x.phase≠5->x.cm={})(hf:x.phase≠2->x.fam={}):RQ x (Whp w x k p).2:=by
 have same:RQ x x:=⟨.inr (.inl ⟨rfl,rfl,rfl⟩),hc,hf,.inl rfl⟩;unfold Whp;by_cases hd:x.doomed=true/\1<=x.phase/\x.phase<=4
 .rw[Wf hd];exact Wie
 rw[Wc hd];by_cases h:x.phase=0
 .rw[Wf h];unfold WeR
  (repeat' split)<;>first|exact same|simp[RQ]
 rw[Wc h];by_cases h:x.phase=1
 .rw[Wf h];exact Wv0 h (hc (by omega)) (hf (by omega))
 rw[Wc h];by_cases h:x.phase=2
 .rw[Wf h];have fY:=hc (by omega);unfold Whi;split
  .exact Wie
  .split
   .simp[RQ,fY]
   .exact same
 rw[Wc h];by_cases h:x.phase=3
 .rw[Wf h];have fY:=hc (by omega);have lO:=hf (by omega);unfold WbA;split
  .exact Wlw hc hf
  .simp[RQ,fY,lO]
 rw[Wc h];by_cases h:x.phase=4
 .rw[Wf h];have fY:=hc (by omega);have lO:=hf (by omega);unfold WbX;simp only
  (repeat' split)<;>first|exact Wie|simp[RQ,h,fY,lO]
 rw[Wc h];by_cases h:x.phase=5
 .rw[Wf h];have lO:=hf (by omega);unfold Wbl;split
  .simp only;split
   .exact Wie
   .simp[RQ,h,lO]
  .simp only;generalize (Wdm w.mem x.cm).2=c;unfold WmZ;split
   .simp[RQ,Wf3]
   .split
    .refine⟨.inr (.inl ⟨rfl,rfl,rfl⟩),λ_=>rfl,λ_=>lO,.inl rfl⟩
    .simp[RQ,h,lO]
 rw[Wc h];by_cases h:x.phase=6
 .rw[Wf h];have fY:=hc (by omega);have lO:=hf (by omega);split
  .exact Wlw hc hf
  .simp[RQ,fY,lO]
 rw[Wc h];by_cases h:x.phase=7
 .rw[Wf h];split
  .simp[RQ]
  .exact Wvu (by omega) (by omega) hc hf
 rw[Wc h];exact same
theorem RZ.nx(hp:POk p)(hz:RZ x)(hq:RQ x y)(hy:ROk p n y):RZ y:=by
 obtain⟨h1,h2,h3,h4⟩:=hq;have key:y.reads.length<=96/\y.writes.length<=32/\y.marks.length<=24/\∀q∈y.marks,q.2.2.2.2.length<=4:=by
  rcases h1 with h1|⟨a,b,c⟩|⟨a,b,c⟩
  .have hl:=hy.live h1;obtain⟨z1,z2,z3,z4,z5,z6⟩:=hl.sz hp.code;exact⟨z1,z2,z4,λq hq=>by have:=(hl.marks.each q hq).1.len;omega⟩
  .rw[a,b,c];exact⟨hz.rd,hz.wr,hz.ml,hz.mr⟩
  .rw[a,b,c];exact⟨by simp,by simp,by simp,λq hq=>by cases hq⟩
 refine⟨key.1,key.2.1,key.2.2.1,key.2.2.2,h2,h3,?_,?_⟩
 .rcases h4 with h4|h4|⟨_,_,_,_,h4⟩<;>rw[h4]
  .exact hz.kd
  .intro y hy;cases hy
  .intro y hy;rw[Xfp hy];exact⟨by simp,λq hq=>by cases hq⟩
 .rcases h4 with h4|h4|⟨_,_,_,_,h4⟩<;>rw[h4]
  .exact hz.st
  .simp
  .exact WcS _
def WZ(w:Wo):Prop:=∀x∈w.roots,RZ x
theorem Wvp(h:WOk s.2.1 n w)(hz:WZ w):WZ (Wp2 s w a):=by
 have hv:=Wiw (a:=a) h;revert hv;unfold Wp2;simp only;split
 .rename_i hb;have hk:a.2.1.toNat<w.roots.length:=by omega
  have hp:=WnB h.progs (show a.2.1.toNat<s.2.1.length by rw[←h.len];exact hk);have qC:=h.root a.2.1.toNat hk;have lj:=hz _ (Xv hk);have fin:∀{v:Wo} {y:Rt},v.roots=w.roots.set a.2.1.toNat y->WOk s.2.1 (n+1) v->(ROk (s.2.1.getD a.2.1.toNat pg0) (n+1) y->RZ y)->WZ v:=λ{v y} hr hv hy x hx=>by
   rw[hr]at hx;rcases Xdy hx with hx|rfl
   .exact hz x hx
   .refine hy ?_;have:=hv.root a.2.1.toNat (by rw[hr,Xat];exact hk);simp only[hr,Xgf]at this;exact this
  rw[WF hk];split
  .intro hv;refine fin (y:=(Whp {w with now:=w.now+1} w.roots[a.2.1.toNat] a.2.1.toNat (s.2.1.getD a.2.1.toNat pg0)).2) ?_ hv λhy=>lj.nx hp (Wuc lj.cm lj.fm) hy;unfold WrT;rw[WF (show a.2.1.toNat<({w with now:=w.now+1}:Wo).roots.length from hk)];have hr:=Wwq h hk;show Xe _ _ _=_;rw[hr]
  .split
   .split
    .rename_i hf;intro hv;refine fin rfl hv λhy=>?_;have hl:=qC.live (by omega);obtain⟨f1,f2,f3⟩:=hl.fork hf.1;have hj:a.2.2.toNat<(s.2.1.getD a.2.1.toNat pg0).2.length:=by omega
     have gt:a.2.2.toNat<w.roots[a.2.1.toNat].fam.kids.length:=by rw[f3.len];exact hj
     have bL:KC ((s.2.1.getD a.2.1.toNat pg0).2.getD a.2.2.toNat []):=by rw[WF hj];exact hp.kids _ (Xv hj)
     have nv:=Wpz (n:=n) gt h.mem bL f3 rfl;have o0:(∀y∈(Wgw w.mem w.roots[a.2.1.toNat].fam a.2.2.toNat ((s.2.1.getD a.2.1.toNat pg0).2.getD a.2.2.toNat [])).kids,KZ y)/\(Wgw w.mem w.roots[a.2.1.toNat].fam a.2.2.toNat ((s.2.1.getD a.2.1.toNat pg0).2.getD a.2.2.toNat [])).start.length<=8:=by
      revert nv;unfold Wgw;split
      .exactλ_=>⟨lj.kd,lj.st⟩
      .intro nv;obtain⟨q1,q2,q3⟩:=WtC (m:=w.mem) (f:=w.roots[a.2.1.toNat].fam) (x:=w.roots[a.2.1.toNat].fam.kids.getD a.2.2.toNat {}) (k:=a.2.2.toNat) (code:=(s.2.1.getD a.2.1.toNat pg0).2.getD a.2.2.toNat []);refine⟨λy hy=>?_,by show(WjW ..).1.start.length<=8;rw[q2];exact lj.st⟩;have qG:y∈(WjW w.mem w.roots[a.2.1.toNat].fam (w.roots[a.2.1.toNat].fam.kids.getD a.2.2.toNat {}) a.2.2.toNat ((s.2.1.getD a.2.1.toNat pg0).2.getD a.2.2.toNat [])).1.kids.set a.2.2.toNat (WjW w.mem w.roots[a.2.1.toNat].fam (w.roots[a.2.1.toNat].fam.kids.getD a.2.2.toNat {}) a.2.2.toNat ((s.2.1.getD a.2.1.toNat pg0).2.getD a.2.2.toNat [])).2:=hy;rw[q1]at qG;rcases Xdy qG with qG|rfl
       .exact lj.kd y qG
       .have nk:=nv.kid a.2.2.toNat (by show a.2.2.toNat<((WjW ..).1.kids.set _ _).length;rw[Xat,q1];exact gt);simp only[Fm.put,Xgf]at nk;rcases q3 with h0|h0|h0
        .exact nk.kz bL.toCC h0
        .have:=lj.kd _ (Xv gt);rw[WF gt]at h0;unfold KZ;rw[WF gt,h0];exact this
        .unfold KZ;rw[h0];exact⟨by simp,λq hq=>by cases hq⟩
     exact{lj with
      fm:=λbI=>WD hf.1 bI
      kd:=o0.1
      st:=o0.2}
    .exactλ_=>hz
   .split
    .split
     .intro hv;exact fin rfl hv λ_=>{lj with}
     .exactλ_=>hz
    .exactλ_=>hz
 .exactλ_=>hz
theorem WsF:∀(l:List Ac) (n:Int) (w:Wo),WOk s.2.1 n w->WZ w->WZ (l.foldl (Wp2 s) w)
 | [],_,_,_,h=>h
 |a::l,n,w,h,hz=>WsF l (n+1) _ (Wiw h) (Wvp h hz)
theorem Wvt:WZ (Wry s):=λx hx=>by
 obtain rfl:x={}:=Xfp hx;exact⟨by simp,by simp,by simp,λq hq=>by simp at hq,λ_=>rfl,λ_=>rfl,λy hy=>by simp at hy,by simp⟩
end
section
set_option synthInstance.maxSize 20000
set_option synthInstance.maxHeartbeats 4000000
def Way(l:List Int):Nat:=l.length
theorem Wpp{N:Nat}{a:List Int}{left:Int}(hN:1048576<N)(h0:0<=left)(h1:left<=1048576)(hw:Wfd (.slice (.int .i64)) a):
  Znl N a left=ret (if left<(Way a:Int)then-1 else left-(Way a:Int)):=by
 have hl:a.length<=9223372036854775807:=Xak hw.1 (by decide);unfold Znl Way;have e:WT .i64 left (Wg a)=left-(a.length:Int):=WQ (by unfold I64 Wg;omega);rw[e];by_cases h:left<(a.length:Int)
 .rw[Wf h,show decide (left-(a.length:Int)<0)=true by simp;omega];rfl
 .rw[Wc h,show decide (left-(a.length:Int)<0)=false by simp;omega];rfl
def Wbg(a:List Int×List Int×Int):Nat:=Way a.1+Way a.2.1
theorem Wrd{N:Nat}{a:List Int×List Int×Int}{left:Int}(hN:1048576<N)(h0:0<=left)(h1:left<=1048576)(hw:Wfd (.prod (.slice (.int .i64)) (.prod (.slice (.int .i64)) (.int .i64))) a):
  Znw N a left=ret (if left<(Wbg a:Int)then-1 else left-(Wbg a:Int)):=by
 unfold Znw;unfold Wbg;rw[show(Way a.1+Way a.2.1)=Way a.1+(Way a.2.1+(0)) by omega];rw[Wpp hN (by omega) (by omega) hw.1];refine Wez (z2:=Way a.2.1+(0)) (by omega) λh2=>?_;simp only[];rw[Wpp hN (by omega) (by omega) hw.2.1];refine Wez (z2:=0) (by omega) λh3=>?_;simp only[];exact Wl1 (by omega)
def WeN(l:List Ka):Nat:=l.length
theorem Wta{N:Nat}{a:List Ka}{left:Int}(hN:1048576<N)(h0:0<=left)(h1:left<=1048576)(hw:Wfd (.slice (.prod (.int .i64) (.prod (.int .i64) (.prod (.int .i64) (.int .i64))))) a):
  Zor N a left=ret (if left<(WeN a:Int)then-1 else left-(WeN a:Int)):=by
 have hl:a.length<=9223372036854775807:=Xak hw.1 (by decide);unfold Zor WeN;have e:WT .i64 left (Wg a)=left-(a.length:Int):=WQ (by unfold I64 Wg;omega);rw[e];by_cases h:left<(a.length:Int)
 .rw[Wf h,show decide (left-(a.length:Int)<0)=true by simp;omega];rfl
 .rw[Wc h,show decide (left-(a.length:Int)<0)=false by simp;omega];rfl
def Wfv(a:List Ka):Nat:=WeN a
theorem Wu8{N:Nat}{a:List Ka}{left:Int}(hN:1048576<N)(h0:0<=left)(h1:left<=1048576)(hw:Wfd (.slice (.prod (.int .i64) (.prod (.int .i64) (.prod (.int .i64) (.int .i64))))) a):
  Zqs N a left=ret (if left<(Wfv a:Int)then-1 else left-(Wfv a:Int)):=by
 unfold Zqs;unfold Wfv;rw[show(WeN a)=WeN a+(0) by omega];rw[Wta hN (by omega) (by omega) hw];refine Wez (z2:=0) (by omega) λh2=>?_;simp only[];exact Wl1 (by omega)
def WbJ(l:List Kz):Nat:=l.length+(l.map Wfv).sum
theorem Wfo{l:List Kz}{x:List Ka}(h:x∈l):Wfv x<=WbJ l:=by
 have:=WbL Wfv h;unfold WbJ;omega
theorem Wff{l:List Kz}:l.length<=WbJ l:=by unfold WbJ;omega
theorem WuE{N:Nat}{a:List Kz}{left:Int}(hN:1048576<N)(h0:0<=left)(h1:left<=1048576)(hw:Wfd (.slice (.slice (.prod (.int .i64) (.prod (.int .i64) (.prod (.int .i64) (.int .i64)))))) a):
  Zka N a left=ret (if left<(WbJ a:Int)then-1 else left-(WbJ a:Int)):=by
 have hl:a.length<=9223372036854775807:=Xak hw.1 (by decide);unfold Zka WbJ;have e:WT .i64 left (Wg a)=left-(a.length:Int):=WQ (by unfold I64 Wg;omega);rw[e];by_cases h:left<(a.length:Int)
 .rw[Wf (by omega),show decide (left-(a.length:Int)<0)=true by simp;omega];rfl
 .rw[show decide (left-(a.length:Int)<0)=false by simp;omega];simp only[Wa];refine WpM (z:=Wfv) (lp:=λn left i=>Zdy N a _ _ n left i) ?_ ?_ (by omega) (by omega) h1
  .intro n left j hj h0 h1;simp only[Zdy,WL hj,Ww hj,Wt hj,Wp (show j<4611686018427387904 by omega),Wb,Wu8 hN h0 h1 (hw.2 _ (Xv hj)),ret,Xd];by_cases h2:left<(Wfv a[j]:Int)
   .rw[Wf h2,Wf h2];rfl
   .rw[Wc h2,Wc h2,show decide (left-(Wfv a[j]:Int)<0)=false by simp;omega];rfl
  .intro n left;simp only[Zdy,WW (Xm a.length),Wa]
def WcN(a:List Ka×List Kz):Nat:=WeN a.1+WbJ a.2
theorem WtF{N:Nat}{a:List Ka×List Kz}{left:Int}(hN:1048576<N)(h0:0<=left)(h1:left<=1048576)(hw:Wfd (.prod (.slice (.prod (.int .i64) (.prod (.int .i64) (.prod (.int .i64) (.int .i64))))) (.slice (.slice (.prod (.int .i64) (.prod (.int .i64) (.prod (.int .i64) (.int .i64))))))) a):
  Zpv N a left=ret (if left<(WcN a:Int)then-1 else left-(WcN a:Int)):=by
 unfold Zpv;unfold WcN;rw[show(WeN a.1+WbJ a.2)=WeN a.1+(WbJ a.2+(0)) by omega];rw[Wta hN (by omega) (by omega) hw.1];refine Wez (z2:=WbJ a.2+(0)) (by omega) λh2=>?_;simp only[];rw[WuE hN (by omega) (by omega) hw.2];refine Wez (z2:=0) (by omega) λh3=>?_;simp only[];exact Wl1 (by omega)
def Wa0(l:List Km):Nat:=l.length+(l.map WcN).sum
theorem Wec{l:List Km}{x:List Ka×List Kz}(h:x∈l):WcN x<=Wa0 l:=by
 have:=WbL WcN h;unfold Wa0;omega
theorem Wek{l:List Km}:l.length<=Wa0 l:=by unfold Wa0;omega
theorem WrC{N:Nat}{a:List Km}{left:Int}(hN:1048576<N)(h0:0<=left)(h1:left<=1048576)(hw:Wfd (.slice (.prod (.slice (.prod (.int .i64) (.prod (.int .i64) (.prod (.int .i64) (.int .i64))))) (.slice (.slice (.prod (.int .i64) (.prod (.int .i64) (.prod (.int .i64) (.int .i64)))))))) a):
  Zi4 N a left=ret (if left<(Wa0 a:Int)then-1 else left-(Wa0 a:Int)):=by
 have hl:a.length<=9223372036854775807:=Xak hw.1 (by decide);unfold Zi4 Wa0;have e:WT .i64 left (Wg a)=left-(a.length:Int):=WQ (by unfold I64 Wg;omega);rw[e];by_cases h:left<(a.length:Int)
 .rw[Wf (by omega),show decide (left-(a.length:Int)<0)=true by simp;omega];rfl
 .rw[show decide (left-(a.length:Int)<0)=false by simp;omega];simp only[Wa];refine WpM (z:=WcN) (lp:=λn left i=>Zc8 N a _ _ n left i) ?_ ?_ (by omega) (by omega) h1
  .intro n left j hj h0 h1;simp only[Zc8,WL hj,Ww hj,Wt hj,Wp (show j<4611686018427387904 by omega),Wb,WtF hN h0 h1 (hw.2 _ (Xv hj)),ret,Xd];by_cases h2:left<(WcN a[j]:Int)
   .rw[Wf h2,Wf h2];rfl
   .rw[Wc h2,Wc h2,show decide (left-(WcN a[j]:Int)<0)=false by simp;omega];rfl
  .intro n left;simp only[Zc8,WW (Xm a.length),Wa]
def WdK(l:List Kb):Nat:=l.length
theorem WtG{N:Nat}{a:List Kb}{left:Int}(hN:1048576<N)(h0:0<=left)(h1:left<=1048576)(hw:Wfd (.slice (.prod (.int .i64) (.prod (.int .i64) (.int .i64)))) a):
  Zpw N a left=ret (if left<(WdK a:Int)then-1 else left-(WdK a:Int)):=by
 have hl:a.length<=9223372036854775807:=Xak hw.1 (by decide);unfold Zpw WdK;have e:WT .i64 left (Wg a)=left-(a.length:Int):=WQ (by unfold I64 Wg;omega);rw[e];by_cases h:left<(a.length:Int)
 .rw[Wf h,show decide (left-(a.length:Int)<0)=true by simp;omega];rfl
 .rw[Wc h,show decide (left-(a.length:Int)<0)=false by simp;omega];rfl
def Wbx(a:Ki×List Km×List Kb):Nat:=Wbg a.1+Wa0 a.2.1+WdK a.2.2
theorem WqZ{N:Nat}{a:Ki×List Km×List Kb}{left:Int}(hN:1048576<N)(h0:0<=left)(h1:left<=1048576)(hw:Wfd (.prod (.prod (.slice (.int .i64)) (.prod (.slice (.int .i64)) (.int .i64))) (.prod (.slice (.prod (.slice (.prod (.int .i64) (.prod (.int .i64) (.prod (.int .i64) (.int .i64))))) (.slice (.slice (.prod (.int .i64) (.prod (.int .i64) (.prod (.int .i64) (.int .i64)))))))) (.slice (.prod (.int .i64) (.prod (.int .i64) (.int .i64)))))) a):
  Znx N a left=ret (if left<(Wbx a:Int)then-1 else left-(Wbx a:Int)):=by
 unfold Znx;unfold Wbx;rw[show(Wbg a.1+Wa0 a.2.1+WdK a.2.2)=Wbg a.1+(Wa0 a.2.1+(WdK a.2.2+(0))) by omega];rw[Wrd hN (by omega) (by omega) hw.1];refine Wez (z2:=Wa0 a.2.1+(WdK a.2.2+(0))) (by omega) λh2=>?_;simp only[];rw[WrC hN (by omega) (by omega) hw.2.1];refine Wez (z2:=WdK a.2.2+(0)) (by omega) λh3=>?_;simp only[];rw[WtG hN (by omega) (by omega) hw.2.2];refine Wez (z2:=0) (by omega) λh4=>?_;simp only[];exact Wl1 (by omega)
theorem Wqa{N:Nat}{a:List Int}(h:Way a<=1048576)(hN:1048576<N):Zid N a=ret a:=by
 have hl:a.length<=1048576:=h;unfold Zid;rw[Whg a (by omega),Wc1];simp only[Wb];have h1:=Wx (l:=a) (V:=List Int) (R:=Unit×(List Int×Unit)) (lp:=λn j v=>Zdz N a (λi8 t9 cd=>some ((),(cd,()))) n j v) (n:=N) (by omega)
  (body:=λj x v k=>bif inb j v.length then k (v.set j.toNat x)else none) (K:=λ_ v=>some ((),(v,())))
  (λn i v hi=>by simp only[Zdz,WL hi,Ww hi,Wt hi,Wp (show i<4611686018427387904 by omega),Wb,ret,Xd])
  (λn v=>by simp only[Zdz,WW (Xm a.length),Wa]) (Xp a.length (0:Int))
 refine h1.trans ?_;rw[WdG (f:=id) a (λj x v k _=>rfl)];simp
theorem WqE{N:Nat}{a:List Int×List Int×Int}(h:Wbg a<=1048576)(hN:1048576<N):Zny N a=ret a:=by
 unfold Wbg at h;unfold Zny;simp only[Wqa (a:=a.1) (show Way a.1<=1048576 by omega) hN,Wqa (a:=a.2.1) (show Way a.2.1<=1048576 by omega) hN,ret,Xd]
 all_goals rfl
theorem Wwm{N:Nat}{a:Int×Int×Int×Int}(hN:1048576<N):Zrm N a=ret a:=by
 unfold Zrm
 all_goals rfl
theorem WrE{N:Nat}{a:List Ka}(h:WeN a<=1048576)(hN:1048576<N):Zjk N a=ret a:=by
 have hl:a.length<=1048576:=h;unfold Zjk;rw[Whg a (by omega),Wc1];simp only[Wb];have h1:=Wx (l:=a) (V:=List Ka) (R:=Unit×(List Ka×Unit)) (lp:=λn j v=>Zfa N a (λi8 t9 cd=>some ((),(cd,()))) n j v) (n:=N) (by omega)
  (body:=λj x v k=>bif inb j v.length then k (v.set j.toNat x)else none) (K:=λ_ v=>some ((),(v,())))
  (λn i v hi=>by simp only[Zfa,WL hi,Ww hi,Wt hi,Wp (show i<4611686018427387904 by omega),Wb,Wwm hN,ret,Xd])
  (λn v=>by simp only[Zfa,WW (Xm a.length),Wa]) (Xp a.length ((0:Int),((0:Int),((0:Int),(0:Int)))))
 refine h1.trans ?_;rw[WdG (f:=id) a (λj x v k _=>rfl)];simp
theorem WvY{N:Nat}{a:List Ka}(h:Wfv a<=1048576)(hN:1048576<N):Zqt N a=ret a:=by
 unfold Wfv at h;unfold Zqt;simp only[WrE (a:=a) (show WeN a<=1048576 by omega) hN,ret,Xd]
 all_goals rfl
theorem Wtz{N:Nat}{a:List Kz}(h:WbJ a<=1048576)(hN:1048576<N):Zkb N a=ret a:=by
 have hl:a.length<=1048576:=Xak Wff h;unfold Zkb;rw[Whg a (by omega),Wc1];simp only[Wb];have h1:=Wx (l:=a) (V:=List Kz) (R:=Unit×(List Kz×Unit)) (lp:=λn j v=>Zd0 N a (λi8 t9 cd=>some ((),(cd,()))) n j v) (n:=N) (by omega)
  (body:=λj x v k=>bif inb j v.length then k (v.set j.toNat x)else none) (K:=λ_ v=>some ((),(v,())))
  (λn i v hi=>by simp only[Zd0,WL hi,Ww hi,Wt hi,Wp (show i<4611686018427387904 by omega),Wb,WvY (Xak (Wfo (Xv hi)) h) hN,ret,Xd])
  (λn v=>by simp only[Zd0,WW (Xm a.length),Wa]) (Xp a.length ([]:List Ka))
 refine h1.trans ?_;rw[WdG (f:=id) a (λj x v k _=>rfl)];simp
theorem Wur{N:Nat}{a:List Ka×List Kz}(h:WcN a<=1048576)(hN:1048576<N):Zpx N a=ret a:=by
 unfold WcN at h;unfold Zpx;simp only[WrE (a:=a.1) (show WeN a.1<=1048576 by omega) hN,Wtz (a:=a.2) (show WbJ a.2<=1048576 by omega) hN,ret,Xd]
 all_goals rfl
theorem Wsz{N:Nat}{a:List Km}(h:Wa0 a<=1048576)(hN:1048576<N):Zi5 N a=ret a:=by
 have hl:a.length<=1048576:=Xak Wek h;unfold Zi5;rw[Whg a (by omega),Wc1];simp only[Wb];have h1:=Wx (l:=a) (V:=List Km) (R:=Unit×(List Km×Unit)) (lp:=λn j v=>Zc9 N a (λi8 t9 cd=>some ((),(cd,()))) n j v) (n:=N) (by omega)
  (body:=λj x v k=>bif inb j v.length then k (v.set j.toNat x)else none) (K:=λ_ v=>some ((),(v,())))
  (λn i v hi=>by simp only[Zc9,WL hi,Ww hi,Wt hi,Wp (show i<4611686018427387904 by omega),Wb,Wur (Xak (Wec (Xv hi)) h) hN,ret,Xd])
  (λn v=>by simp only[Zc9,WW (Xm a.length),Wa]) (Xp a.length (([]:List Ka),([]:List Kz)))
 refine h1.trans ?_;rw[WdG (f:=id) a (λj x v k _=>rfl)];simp
theorem WvH{N:Nat}{a:Int×Int×Int}(hN:1048576<N):Zqy N a=ret a:=by
 unfold Zqy
 all_goals rfl
theorem WuA{N:Nat}{a:List Kb}(h:WdK a<=1048576)(hN:1048576<N):Zkl N a=ret a:=by
 have hl:a.length<=1048576:=h;unfold Zkl;rw[Whg a (by omega),Wc1];simp only[Wb];have h1:=Wx (l:=a) (V:=List Kb) (R:=Unit×(List Kb×Unit)) (lp:=λn j v=>Zef N a (λi8 t9 cd=>some ((),(cd,()))) n j v) (n:=N) (by omega)
  (body:=λj x v k=>bif inb j v.length then k (v.set j.toNat x)else none) (K:=λ_ v=>some ((),(v,())))
  (λn i v hi=>by simp only[Zef,WL hi,Ww hi,Wt hi,Wp (show i<4611686018427387904 by omega),Wb,WvH hN,ret,Xd])
  (λn v=>by simp only[Zef,WW (Xm a.length),Wa]) (Xp a.length ((0:Int),((0:Int),(0:Int))))
 refine h1.trans ?_;rw[WdG (f:=id) a (λj x v k _=>rfl)];simp
theorem Wrh{N:Nat}{a:Ki×List Km×List Kb}(h:Wbx a<=1048576)(hN:1048576<N):Zgh N a=ret a:=by
 unfold Wbx at h;unfold Zgh;simp only[WqE (a:=a.1) (show Wbg a.1<=1048576 by omega) hN,Wsz (a:=a.2.1) (show Wa0 a.2.1<=1048576 by omega) hN,WuA (a:=a.2.2) (show WdK a.2.2<=1048576 by omega) hN,ret,Xd]
 all_goals rfl
end
end Go.Sx
