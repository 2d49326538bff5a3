/- Plain laws of the Lean functions. -/
import Derived.Test.YtjcmdagkabkicaaGreatMW2
open List renaming length_set→Xat,getElem_mem→Xv,set→Xe,map_set→Xes,set_getElem_self→Xbh,getD→Xc,length_map→Xu,mem_map→Xw,foldl_cons→Xdh,length_cons→Xr,getD_eq_getElem?_getD→Xbm,pairwise_iff_getElem→Xap,set_set→Xct,mem_of_getElem?→Xar,filter_cons_of_pos→Xfy,filter_cons_of_neg→Xfx,append_eq→Xbc,length_eq_zero_iff→Xfw,filter_eq_nil_iff→Xgb,append→Xh,length→Xb,pairwise_cons→Xy,mem_cons_self→Xj,mem_cons_of_mem→Xf,length_nil→Xbz,nil_append→Xbe,length_dropLast→Xda,drop_length→Xcb,drop_eq_getElem_cons→Xay,drop_zero→Xbk,replicate→Xp,map_replicate→Xea,foldl_nil→Xge,eq_of_mem_replicate→Xfr,mem_or_eq_of_mem_set→Xdy,getElem_set_self→Xgl
open Option renaming bind_some→Xd
open Int renaming toNat_natCast→Xl,tdiv_eq_ediv_of_nonneg→Xcz,tmod_eq_emod_of_nonneg→Xcy,toNat→Xa
open Bool renaming and_self→Xao,not_true→Xk,and_eq_false_iff→Xck,true_and→Xby,and_eq_true→Xi,not_false→Xbl,false_eq_true→Xai
open Nat renaming le_refl→Xm,zero_add→Xau,le_trans→Xal
namespace Go.Sx
set_option linter.unusedVariables false
set_option linter.unusedSimpArgs false
section
variable{N:Nat}{s:Sc}{p:Pg}{w:Wo}{n:Int}{a:Ac}{k:Nat}
theorem WkK{ps:List Pg}(h:∀p∈ps,POk p)(hk:k<ps.length):POk (ps.getD k pg0):=by
 grind
theorem WOk.tick(h:WOk s.2.1 n w):WOk s.2.1 (n+1) {w with now:=w.now+1}:=
 {h with now:=by(have:=h.now;simp_all),n0:=by have:=h.n0;omega,hist:=by(have:=h.hist;grind),root:=λk hk=>(h.root k hk).wk (by omega)}
theorem WOk.putQ{q:Wo×Rt}{w0:Wo}(h:WOk s.2.1 (n+1) {w0 with now:=w0.now+1})(hh:(w0.hist.length:Int)<=n)(hk:k<w0.roots.length)(hq:QOk (s.2.1.getD k pg0) (n+1) {w0 with now:=w0.now+1} q):WOk s.2.1 (n+1) (Wo.put q k):=by
 have hr:q.1.roots=w0.roots:=hq.roots;exact{
  len:=by show(q.1.roots.set k q.2).length=_;rw[Xat,hr];exact h.len
  l4:=h.l4
  progs:=h.progs
  now:=hq.now.trans h.now
  n0:=h.n0
  mem:=hq.mem
  shelf:=hq.shelf
  holds:=hq.holds
  histE:=λe he=>(hq.histE e he).elim (h.histE e) id
  hist:=by have:=hq.hist;show(q.1.hist.length:Int)<=n+1;grind
  root:=λi hi=>by
   change i<(q.1.roots.set k q.2).length at hi;rw[Xat,hr]at hi;show ROk _ _ ((q.1.roots.set k q.2)[i]);rw[List.getElem_set];by_cases he:k=i
   .subst he;rw[Wf rfl];exact hq.root
   .rw[Wc he];have:=h.root i hi;simp_all}
theorem WbX(h:WOk s.2.1 n w):WOk s.2.1 (n+1) (WmH s w a):=by
 have ht:=h.tick;unfold WmH;simp only;split
 .rename_i hb;have hk:a.2.1.toNat<w.roots.length:=by omega
  have hx:=ht.root a.2.1.toNat hk;have tc:=h.root a.2.1.toNat hk;have hg:GOk {w with now:=w.now+1}:=⟨h.mem,h.shelf,h.holds⟩;have hp:=WkK h.progs (show a.2.1.toNat<s.2.1.length by rw[←h.len];exact hk);have gY:w.roots.length<=4:=by rw[h.len];exact h.l4
  rw[WD hk];split
  .unfold Wts;rw[WD (show a.2.1.toNat<({w with now:=w.now+1}:Wo).roots.length from hk)];exact ht.putQ h.hist hk (Wp2 hp hg tc (by omega) h.n0)
  .split
   .split
    .rename_i hf;refine ht.putQ h.hist hk (hg.st ?_);have hl:=tc.live (by omega);obtain⟨f1,f2,f3⟩:=hl.fork hf.1;have hj:a.2.2.toNat<(s.2.1.getD a.2.1.toNat pg0).2.length:=by omega
     have gR:a.2.2.toNat<w.roots[a.2.1.toNat].fam.kids.length:=by rw[f3.len];exact hj
     have bT:KC ((s.2.1.getD a.2.1.toNat pg0).2.getD a.2.2.toNat []):=by rw[WD hj];exact hp.kids _ (Xv hj)
     exact{hx with live:=λ_=>{hl.wk (show n<=n+1 by omega)with fork:=λ_=>⟨f1,f2,Wqm gR h.mem bT f3 rfl⟩}}
    .exact ht
   .split
    .split
     .refine ht.putQ h.hist hk (hg.st ?_);exact{hx with live:=λhh=>{hx.live hh with}}
     .exact ht
    .exact ht
 .exact ht
theorem WoA(h:WOk s.2.1 n w)(hn:n<=99999)(hN:1048576<N):Zhz N w.e s a=some (((WmH s w a).e,()),()):=by
 have ht:=h.tick;have wa:=h.now;have sA:=h.n0;have gY:w.roots.length<=4:=by rw[h.len];exact h.l4
 unfold Zhz WmH;simp only[Wk];rw[show P5 w.e=w.roots.map Rt.e from rfl,show w.e.1=w.now from rfl,Wap (by omega)];have ad:Wg (w.roots.map Rt.e)=(w.roots.length:Int):=by unfold Wg;simp
 rw[ad,WQ (by unfold I64;omega)];simp only[W1,ret,Xd];by_cases hb:0<=a.2.1/\a.2.1<w.roots.length
 .rw[Wf hb,We hb.1,We (show a.2.1<=(w.roots.length:Int) -1 by omega)];obtain⟨k,wc⟩:∃k:Nat,a.2.1=k:=⟨a.2.1.toNat,by omega⟩;have hk:k<w.roots.length:=by omega
  obtain⟨x,aN⟩:∃x,w.roots[k]=x:=⟨_,rfl⟩;have hx:=h.root k hk;rw[aN]at hx;have jL:k<s.2.1.length:=by rw[←h.len];exact hk
  have hp:=WkK h.progs jL;obtain⟨g1,g2,g3,g4,g5⟩:=woG hk aN;obtain⟨r0,r1,r2,r3,r4,r5,r6,r7,r8,fv,eT,dU,dX,dY,eF,fO,fP,fw,fx,fQ,fR,fS⟩:=rtP x;have dS:∀y:Rt,(w.now+1,S4 (Xe (w.roots.map Rt.e) k y.e) w.e.2)=Wo.e (Wo.put ({w with now:=w.now+1},y) k):=λy=>by
   unfold Wo.put Wo.e;simp only[Xes];rfl
  have cq:Wo.put ({w with now:=w.now+1},x) k={w with now:=w.now+1}:=by unfold Wo.put;simp only;rw[←aN,Xbh]
  simp only[wc,Xl,Xao,Xk,Wa];rw[g1,g4,WD hk,aN];simp only[Wb,r0,fw,fx,dS,cq,show w.e.2.2.1=w.mem from rfl];rw[WF,We jL];have we:Xc s.2.1 k (([]:List Ka),([]:List Kz))=s.2.1.getD k pg0:=rfl;rw[we];generalize jJ:s.2.1.getD k pg0=p at*;have hg:GOk {w with now:=w.now+1}:=⟨h.mem,h.shelf,h.holds⟩;simp only[Wb,Wv];have bv:Zi9 N (Wo.e {w with now:=w.now+1}) (k:Int) p=some (((Wo.put (Wht {w with now:=w.now+1} x k p) k).e,()),()):=
   Wua (w:={w with now:=w.now+1}) hk aN (by grind) hp hg hx (by omega) (by have:=h.hist;grind) hN
  rw[bv];by_cases h1:a.1=1
  .simp_all [Wf,Wts,WD,Xd]
  .rw[Wc h1,Wc h1];by_cases h2:a.1=2
   .rw[Wf h2,Wf h2];by_cases hf:x.phase=2
    .rw[Wf hf,WQ (by have:=hp.k3;unfold I64 Wg;omega),show Wg p.2=(p.2.length:Int)from rfl];by_cases hj:0<=a.2.2/\a.2.2<p.2.length
     .rw[We hj.1,We (show a.2.2<=(p.2.length:Int) -1 by omega),Wf (show x.phase=2/\0<=a.2.2/\a.2.2<p.2.length from⟨hf,hj⟩)];obtain⟨j,nl⟩:∃j:Nat,a.2.2=j:=⟨a.2.2.toNat,by omega⟩;have fb:j<p.2.length:=by omega
      simp only[nl,Xl,Xao,Wb];rw[WF,We fb];obtain⟨f1,f2,f3⟩:=(hx.live (by omega)).fork hf;have bT:KC (p.2.getD j []):=by rw[WD fb];exact hp.kids _ (Xv fb)
      rw[Wlp (code:=p.2.getD j []) (by rw[f3.len];exact fb) (by rw[f3.len];exact hp.k3) h.mem bT f3 rfl (by omega) hN];simp only[Xd,Wb];have:U21 (Wgx w.mem x.fam j (p.2.getD j [])).e x.e=Rt.e {x with fam:=Wgx w.mem x.fam j (p.2.getD j [])}:=rfl
      grind [WxX]
     grind
    simp_all
   .rw[Wc h2,Wc h2];by_cases h3:a.1=3
    .rw[Wf h3,Wf h3];have hd:S11 true x.e=Rt.e {x with doomed:=true}:=rfl;simp only[hd,dS,show(Cm.e x.cm).2.2.1=x.cm.phase from rfl,WV]
     grind
    simp_all
 .rw[Wc hb];have qo:(decide (0<=a.2.1)&&decide (a.2.1<=(w.roots.length:Int) -1))=false:=by
   rw[Xck,Wt,Wt];omega
  rw[qo];rfl
theorem WiM(h:Wom s=true):WOk s.2.1 0 (WrO s):=by
 obtain⟨h1,h2,h3,h4⟩:=Wf8 h;exact{
  len:=by simp[WrO]
  l4:=h2
  progs:=h4
  now:=rfl
  n0:=Int.le_refl _
  mem:=by
   show W0 (WnX s.1.1)=true;have:=h1.cells.len;unfold W0 WnX;simp only[Xu,this,decide_true,Xby,Xi,Wi,List.all_eq_true];refine⟨by omega,λw hw=>?_⟩;obtain⟨v,hv,rfl⟩:=Xw.1 hw;have:=h1.cells.val v hv;rw[WhY];unfold wd0;simp only;omega
  shelf:=⟨WsP h1.map.1 h1.map.2,h1.cnt⟩
  holds:=⟨(λh hh=>by cases hh),List.Pairwise.nil⟩
  hist:=by simp[WrO]
  histE:=λh hh=>by cases hh
  root:=λk hk=>by
   simp only[WrO,List.getElem_replicate];exact{
    phase:=by simp
    tries:=by simp
    live:=λhh=>by simp at hh
    comm:=λhh=>by simp at hh
    undos:=λu hu=>by cases hu
    ul:=by simp
    rg:=by simp
    ord:=by simp}}
theorem WoC:∀(l:List Ac) (n:Int) (w:Wo),WOk s.2.1 n w->WOk s.2.1 (n+l.length) (l.foldl (WmH s) w)
 | [],n,w,h=>by simpa using h
 |a::l,n,w,h=>by
  have:=WoC l (n+1) _ (WbX (a:=a) h);rw[Xdh,Xr];rw[show n+((l.length+1:Nat):Int)=n+1+l.length by omega];exact this
theorem WpW(h:Wom s=true):WOk s.2.1 s.2.2.length (Wpl s):=by
 have:=WoC s.2.2 0 _ (WiM h);rw[Int.zero_add]at this;exact this
end
section
section
variable{N:Nat}{c:Cur}
end
end
section
section
variable{w:Wo}{x y z:Rt}{k:Nat}{p:Pg}{n:Int}{o:Opn}
end
section
variable{s:Sc}{w v u:Wo}{n:Int}{a:Ac}{k:Nat}
theorem WwI(h:WOk s.2.1 n w)(hk:k<w.roots.length):(Wht {w with now:=w.now+1} w.roots[k] k (s.2.1.getD k pg0)).1.roots=w.roots:=
 (Wp2 (w:={w with now:=w.now+1}) (k:=k) (WkK h.progs (by rw[←h.len];exact hk)) ⟨h.mem,h.shelf,h.holds⟩ (h.root k hk) (by have:=h.l4;have:=h.len;omega) h.n0).roots
end
end
section
def owner(m:Mm)(i:Int):Int:=(Waz m i).2.2
section
variable{m:Mm}{c c':Cm}{i j:Int}{w:Wd}
end
end
section
section
variable{w:Wo}{x:Rt}{k:Nat}{p:Pg}{q:Wo×Rt}{o:Opn}{n:Int}
end
section
variable{s:Sc}{w v:Wo}{n:Int}{a:Ac}{k:Nat}{q:Wo×Rt}
end
end
section
variable{N:Nat}{s:Sc}{w:Wo}{n:Int}
theorem WcD{v:Int}(h0:v≠0)(hv:1<=v/\v<=524288):Zbx N v=some ((),(Wbf v,((v-1)%65536,()))):=by
 unfold Zbx;rw[show(v==(0:Int))=false by simpa using h0];have hi:WU .i64 v 1=v-1:=WQ (by unfold I64;omega);have hq:WpT .i64 (v-1) 65536=Wbf v:=by
  unfold WpT Wbf;rw[Xcz (by omega),WuR (by unfold I64;omega)]
 have hr:WdD (v-1) 65536=(v-1)%65536:=by unfold WdD;exact Xcy (by omega)
 simp only[Wa,show inz (65536:Int)=true from rfl,Wb,hi,hq,hr]
theorem WfN{k:Int}(hk:0<=k/\k<=7):Zlk N k=ret (Wa7 k):=by
 unfold Zlk Zdv Wa7;have h1:Wh .i64 (WrP .i64 k 7) 3=7*k+3:=by
  rw[Wha (by unfold I64;omega),WJ (by unfold I64;omega)];omega
 have h2:WdD (7*k+3) 4=(7*k+3)%4:=by unfold WdD;exact Xcy (by omega)
 simp only[WcK,ret,Xd,We hk.1,We hk.2,Xao,Xk,Wa,show inz (4:Int)=true from rfl,Wb,h1,h2]
theorem WbT{l:List Int}(h:SlOk l)(hN:1048576<N):Zd2 N l=ret true:=by
 have hl:=h.len;have lp:∀(d j n:Nat) (s:List Bool),j+d=16->d<n->s.length=8->(∀c:Nat,s.getD c false=true->∃i,∃hi:i<l.length,i<j/\l[i]≠0/\Wbf l[i]=c)->
   Zb5 N l (some ((),(false,()))) (λgV cw bG=>(some ((),(true,())))) n (j:Int) s=ret true:=by
  intro d
  induction d with
  |zero=>
   intro j n s hj hn _ _;obtain⟨n,rfl⟩:∃n',n=n'+1:=⟨n-1,by omega⟩;have:j=l.length:=by omega
   subst this;simp only[Zb5,WS (Xm _),Wa]
  |succ d ih=>
   intro j n s hj hn hs hb;obtain⟨n,rfl⟩:∃n',n=n'+1:=⟨n-1,by omega⟩;have ac:j<l.length:=by omega
   simp only[Zb5,WK ac,Ww ac,Ws ac,Wm (show j<4611686018427387904 by omega),Wb,WcK,ret,Xd];by_cases h0:l[j]=0
   .have e1:Zbx N l[j]=some ((),((-1:Int),((0:Int),()))):=by rw[h0];rfl
    have e2:(decide ((0:Int)<=l[j])&&decide (l[j]<=524288))=true:=by rw[h0];rfl
    rw[e1,e2];simp only[Xd,Xk,Wa,show decide ((-1:Int)<0)=true from rfl,Wb];exact ih (j+1) n s (by omega) (by omega) hs λc hc=>by
     obtain⟨i,hi,h1,h2,h3⟩:=hb c hc;exact⟨i,hi,by omega,h2,h3⟩
   .have hv:=h.val ac h0;have hk:=Wii hv;have vX:Wa7 (Wbf l[j])=((j/4:Nat):Int):=by
     rcases h.each j ac with h1|h1
     .exact WE h1 h0
     .exact h1.2
    have hq:WpT .i64 (j:Int) 4=((j/4:Nat):Int):=by
     unfold WpT;rw[Xcz (by omega),WuR (by unfold I64;omega)];omega
    have dg:s.getD (Xa (Wbf l[j])) false=false:=by
     rw[Bool.eq_false_iff];intro hc;obtain⟨i,hi,h1,h2,h3⟩:=hb _ hc;exact h.one i j hi ac h1 h2 h0 (by omega)
    have e2:(decide ((0:Int)<=l[j])&&decide (l[j]<=524288))=true:=by simp;omega
    have e3:decide (Wbf l[j]<(0:Int))=false:=Wj (by omega);have e4:inb (Wbf l[j]) s.length=true:=by unfold inb;rw[hs];simp;omega
    rw[WcD h0 hv,e2];simp only[Xd,Xk,Wa,e3,e4,Wb,dg,WfN hk,ret,vX,hq,bne_self_eq_false,show inz (4:Int)=true from rfl];refine ih (j+1) n _ (by omega) (by omega) (by simpa using hs) λc hc=>?_;by_cases hcj:c=(Wbf l[j]).toNat
    .exact⟨j,ac,by omega,h0,by omega⟩
    .have:s.getD c false=true:=by
      rw[Xbm,List.getElem?_set_ne (by omega),←Xbm]at hc;exact hc
     obtain⟨i,hi,h1,h2,h3⟩:=hb c this;exact⟨i,hi,by omega,h2,h3⟩
 unfold Zd2;rw[show((Wg l) !=(16:Int))=false by unfold Wg;rw[hl];rfl];have hr:(((decide ((0:Int)<=(8:Int)))&&(decide ((8:Int)<=(8:Int))))&&(Wz (Xa (8:Int))))=true:=by rw[Wq (by omega)];rfl
 rw[hr];simp only[Wa,Wb];refine lp 16 0 N _ (by omega) (by omega) (by simp) λc hc=>?_;rw[Xbm]at hc;by_cases h8:c<8
 .rw[List.getElem?_replicate,Wf (show c<Xa 8 from h8)]at hc;simp at hc
 .rw[List.getElem?_eq_none (by simp;omega)]at hc;simp at hc
theorem WeJ{h:Shf}(hs:ShOk h)(hN:1048576<N):Zmw N h=ret true:=by
 unfold Zmw;rw[WbT hs.slots hN,Wal,War.2 hs.cnt];rfl
theorem WbW{l:List Hd}(h:HOk l)(hl:l.length<=1048576)(hN:1048576<N):Zga N l=ret true:=by
 have lp:∀(d j n:Nat),j+d=l.length->d<n->Zbc N l (some ((),(false,()))) (λkW be=>(some ((),(true,())))) n (j:Int)=ret true:=by
  intro d
  induction d with
  |zero=>
   intro j n hj hn;obtain⟨n,rfl⟩:∃n',n=n'+1:=⟨n-1,by omega⟩;have:j=l.length:=by omega
   subst this;simp only[Zbc,WS (Xm _),Wa]
  |succ d ih=>
   intro j n hj hn;obtain⟨n,rfl⟩:∃n',n=n'+1:=⟨n-1,by omega⟩;have ac:j<l.length:=by omega
   have hv:=h.val l[j] (Xv ac);have dC:=ih (j+1) n (by omega) (by omega);obtain⟨v1,v2,v3⟩:=Wto.2 hv;simp only[Zbc,WK ac,Ww ac,Ws ac,Wm (show j<4611686018427387904 by omega),Wb,WcK,v1,v2,v3,ret,Xd,Xk,Wa,dC];by_cases h0:j=0
   .subst h0;rfl
   .have e1:decide ((j:Int)>0)=true:=by simp;omega
    have e2:WU .i64 (j:Int) 1=((j-1:Nat):Int):=by rw[WQ (by unfold I64;omega)];omega
    have bS:j-1<l.length:=by omega
    have hw:=h.val l[j-1] (Xv bS);have hb:=Xap.1 h.up (j-1) j bS ac (by omega);simp only[e1,e2,Wb,Ww bS,Ws bS];have td:=hb.1;unfold cfH at td;by_cases hs:l[j-1].2.1=l[j].2.1
    .rw[show(l[j-1].2.1==l[j].2.1)=true by simpa using hs]at*;have dG:¬l[j-1].1>=l[j].1:=by
      simp only[Wb]at td;omega
     obtain⟨m1,m2⟩:=hb.2 hs;rw[Wj (show¬l[j-1].2.1>l[j].2.1 by omega),Wj dG,show(l[j].2.2==2)=false by simpa using m2,show(l[j-1].2.2==2)=false by simpa using m1];rfl
    .have fT:¬l[j-1].2.1>l[j].2.1:=by
      rw[show(l[j-1].2.1==l[j].2.1)=false by simpa using hs]at td;simp only[Wa]at td;omega
     rw[Wj fT,show(l[j-1].2.1==l[j].2.1)=false by simpa using hs];rfl
 exact lp l.length 0 N (by omega) (by omega)
end
section
variable{N:Nat}{l:List Int}{k v:Int}{s:Shf}{u:Un}{o:Opn}{r:List Int}
theorem Wjf(h:SlOk l)(hk:0<=k)(hN:1048576<N):Zgw N l k=ret (match Wmh l k with|some r=>(r.1:Int)|none=>-1):=by
 unfold Zgw Wmh;have hl:=h.len;have h1:=Wjz (l:=l) (p:=WlX k) (N:=N) (lp:=λn j=>Zdb N l k (λaq=>some ((),(aq,()))) (λkW be=>some ((),((-1:Int),()))) n j) (K0:=λj=>some ((),(j,()))) (K1:=some ((),((-1:Int),()))) (by omega) (by omega)
  (λn j hj=>by
   simp only[Zdb,WK hj,Ww hj,Ws hj,Wm (show j<4611686018427387904 by omega),Wb];unfold WlX;by_cases h0:l[j]=0
   .have e:Zbx N l[j]=some ((),((-1:Int),((0:Int),()))):=by unfold Zbx;rw[h0];rfl
    have e2:((-1:Int)==k)=false:=by simp;omega
    rw[e];simp only[Xd,e2,Wa,h0];rfl
   .have hv:=h.val hj h0;rw[WcD h0 hv];simp only[Xd,We (show k>=0 from hk),Wb,We (show l[j]>0 by omega),Xby];by_cases e:Wbf l[j]=k
    .simp[e]
    .rw[show(Wbf l[j]==k)=false by simpa using e,Wj e])
  (λn=>by simp[Zdb,WS,Xm,Wa])
 rw[h1];cases fnd (WlX k) l 0<;>rfl
theorem WdL(hk:0<=k/\k<=7):Zdv N k=ret true:=by
 unfold Zdv;rw[WcK,We hk.1,We hk.2];rfl
theorem Wkh(h:SlOk l)(hk:0<=k/\k<=7)(hN:1048576<N):Zpo N l k=some ((),((if WcC l k=0 then 0 else WcC l k-1),(decide (WcC l k≠0),()))):=by
 unfold Zpo WcC;rw[WbT h hN,WdL hk,Wjf h hk.1 hN];simp only[ret,Xd,Xk,Wa];cases hr:Wmh l k with
 |none=>rfl
 |some r=>
  obtain⟨hi,h1,h2,h3,h4,h5⟩:=WcB h hr;simp only[Wj (show¬((r.1:Int)<0) by omega),Wa,WF,We hi,Wb,Ws hi,h1];rw[WcD (by omega) ⟨h2,h3⟩,Wc (by omega),We (by omega)];simp only[Int.add_sub_cancel];rfl
theorem Wtd(hk:0<=k/\k<=7)(hv:0<=v/\v<=65535):Wh .i64 (Wh .i64 1 (WrP .i64 k 65536)) v=1+65536*k+v:=by
 have e1:WrP .i64 k 65536=k*65536:=Wha (by unfold I64;omega);have e2:Wh .i64 1 (k*65536)=1+k*65536:=WJ (by unfold I64;omega);rw[e1,e2,WJ (by unfold I64;omega)];omega
theorem WdF(h:SlOk l)(hk:0<=k/\k<=7)(hv:0<=v/\v<=65535)(hN:1048576<N):Zgb N l k v=some ((),(WmE l k v,(WcC l k,(true,())))):=by
 have hl:=h.len;unfold Zgb;rw[Wmm (by omega),WbT h hN,WdL hk,Wal,Wjf h hk.1 hN,WfN hk,Wtd hk hv];simp only[ret,Xd,Xk,Wa,War.2 hv];unfold WmE WcC;cases hr:Wmh l k with
 |some r=>
  obtain⟨hi,h1,h2,h3,h4,h5⟩:=WcB h hr;simp only[We (show((r.1:Int)>=0) by omega),Wb,WF,We hi,Xl,Ws hi,h1];rw[WD hi,h1,WcD (by omega) ⟨h2,h3⟩,Xd];simp only;rw[WJ (a:=1) (by unfold I64;omega),Int.add_comm 1 ((r.2-1)%65536)]
 |none=>
  simp only[show decide ((-1:Int)>=0)=false from rfl,Wa];have hb:=Wti k;obtain⟨hi,h1,h2,h3⟩:=Wjy h hk hr;rw[Wha (by unfold I64;omega)];obtain⟨N',rfl⟩:∃N',N=N'+1+1:=⟨N-2,by omega⟩;have iZ:4*Wa7 k=(((4*Wa7 k).toNat:Nat):Int):=by omega
  have fh:∀n,Zde (N'+1+1) l k v l (λba=>some ((),(ba,((0:Int),(true,()))))) (λzy it=>some ((),(l,((0:Int),(false,()))))) (n+1) (WeX l k:Int)=some ((),(l.set (WeX l k) (1+65536*k+v),((0:Int),(true,())))):=λn=>by
   simp only[Zde,WK hi,Ww hi,Ws hi,h1,Wb,beq_self_eq_true];rw[Xl,Wtd hk hv]
  rcases h3 with h3|⟨h3,h4⟩
  .rw[iZ,←h3];exact fh _
  .have ac:(4*Wa7 k).toNat<l.length:=by omega
   have hg:WbQ l (4*Wa7 k) 0=l[(4*Wa7 k).toNat]:=WD ac _;rw[hg]at h4;rw[iZ,Zde];simp only[WK ac,Ww ac,Ws ac,Wb];rw[show(l[(4*Wa7 k).toNat]==0)=false by simpa using h4,Wm (by omega),←h3];exact fh _
theorem We9(h:SlOk l)(hk:0<=k/\k<=7)(hN:1048576<N):Zlm N l k=some ((),(WhH l k,(WcC l k,(true,())))):=by
 have hl:=h.len;unfold Zlm;rw[Wmm (by omega),WbT h hN,WdL hk,Wjf h hk.1 hN];simp only[ret,Xd,Xk,Wa];unfold WhH WcC;cases hr:Wmh l k with
 |none=>rfl
 |some r=>
  obtain⟨hi,h1,h2,h3,h4,h5⟩:=WcB h hr;simp only[Wj (show¬((r.1:Int)<0) by omega),Wa,WF,We hi,Wb,Xl];rw[WD hi,h1,WcD (by omega) ⟨h2,h3⟩,Xd];simp only;rw[WJ (a:=1) (by unfold I64;omega),Int.add_comm 1 ((r.2-1)%65536)]
theorem WhE(h:ShOk s):Zmx N s=ret s:=by
 unfold Zmx;rw[Wmm (by have:=h.slots.len;omega)];rfl
theorem WlJ(hu:UnV u):Zqn N u=ret true:=by
 unfold Zqn;rcases hu with⟨h1,h2,h3⟩|⟨h1,h2,h3⟩|⟨h1,h2,h3⟩
 .rw[h1,WdL h2,Wal,War.2 h3];rfl
 .rw[h1,WdL h2,h3];rfl
 .rw[h1,h2,Wal,War.2 h3];rfl
theorem Wj7(h:ShOk s)(hu:UnV u)(hN:1048576<N):Zpq N s u=some ((),(Wge s u,(true,()))):=by
 unfold Zpq Wge;rw[WhE h,WeJ h hN,WlJ hu];simp only[ret,Xd,Xk,Wa];have hc:=h.cnt;rcases hu with⟨h1,h2,h3⟩|⟨h1,h2,h3⟩|⟨h1,h2,h3⟩
 .rw[h1,WdF h.slots h2 h3 hN];rfl
 .rw[h1,We9 h.slots h2 hN];rfl
 .have e1:WU .i64 s.2 u.2.2=s.2-u.2.2:=WQ (by unfold I64;omega);have e2:Wh .i64 (s.2-u.2.2) 65536=s.2-u.2.2+65536:=WJ (by unfold I64;omega);have e3:WdD (s.2-u.2.2+65536) 65536=(s.2-u.2.2+65536)%65536:=WaC (by omega);rw[h1,e1,e2,e3];rfl
theorem WiF{e:Int}(he:0<=e/\e<=65536):Zmy N k e=ret (WfC k e):=by
 unfold Zmy WfC;by_cases h:e=0
 .rw[h];rfl
 .rw[show(e==0)=false by simpa using h,Wc h,WQ (by unfold I64;omega)];rfl
theorem WmR(ho:WdZ o=true)(eS:12<=o.1):Zm6 N o=some ((),((Wb3 o).1,((Wb3 o).2,()))):=by
 have qe:=Wki ho;unfold Zm6 Wb3;rw[Wb6,Wma ho eS];simp only[ret,Xd,bne_self_eq_false,Wa,Wv];have:o.1=12\/o.1=13\/o.1=14\/o.1=15\/o.1=16:=by omega
 rcases this with h|h|h|h|h<;>simp[h]
theorem WjY(h:ShOk s)(hr:Vals 4 r)(ho:WdZ o=true)(eS:12<=o.1)(hN:1048576<N):
  Zpr N s o r=some ((),((Wa4 s o r).1,((Wa4 s o r).2.1,((Wa4 s o r).2.2,(true,()))))):=by
 have qe:=Wki ho;have cE:=hr.len;have hc:=h.cnt;unfold Zpr Wa4;rw[WhE h,Wmm (by omega)];simp only[ret,Xd];rw[WeJ h hN,Wdz (by omega) hN,Wco.2 hr,Wb6,Wma ho eS];simp only[ret,Xd,Xk,Wa,bne_self_eq_false,Wv,show inz (65536:Int)=true from rfl,Wb,Wk,Xat];by_cases e1:o.1=12
 .obtain⟨a,b,c⟩:=WqR ho e1;rw[Wbc]at a;rw[Wf e1,Wf e1,WT b cE,WT c cE];have hg:=Wdk s.1 o.2.1;rw[WdF h.slots a (hr.get _) hN];simp only[Wb,Xd,WiF hg,ret];rw[WaC (by omega)];rfl
 rw[Wc e1,Wc e1];by_cases e3:o.1=14
 .obtain⟨a,b⟩:=Wrg ho e3;rw[Wbc]at a;have hg:=Wdk s.1 o.2.1;rw[Wf e3,Wc (by omega),Wf e3,WT b cE,We9 h.slots a hN];simp only[Wb,Xd,WiF hg,ret];rw[WaC (by omega)];rfl
 rw[Wc e3];by_cases e2:o.1=13
 .obtain⟨a,b⟩:=Wsq ho e2;rw[Wbc]at b;have hg:=Wdk s.1 o.2.2.1;rw[Wf e2,Wf e2,WT a cE,Wkh h.slots b hN];simp only[Wb,Xd];by_cases hz:WcC s.1 o.2.2.1=0
  .rw[hz];rfl
  .rw[Wc hz,We hz,WJ (by unfold I64;omega),WaC (by omega),Int.sub_add_cancel];simp only[Wb,Xct];rfl
 rw[Wc e2,Wc e2,Wc e3];by_cases e4:o.1=15
 .have a:=WwH ho e4;have hv:=hr.get o.2.1.toNat;rw[Wf e4,Wf e4,WT a cE];simp only[Wb];rw[WJ (by unfold I64;omega),WaC (by omega)];rfl
 .rw[Wc e4,Wc e4,WT (Wvo ho (by omega)) cE];rfl
end
section
variable{N:Nat}{l:List Hd}{who what mode b:Int}
theorem Wgj(h:HOk l)(hl:l.length<=1048576)(hN:1048576<N):Zi5 N l who what=ret (Wjt l who what):=by
 unfold Zi5 Wjt;rw[WbW h hl hN];simp only[ret,Xd,Xk,Wa];have h1:=Wx (l:=l) (V:=Unit) (R:=Unit×Kh) (lp:=λn j v=>Zco N l who what (λax=>some ((),(ax,()))) (λir dL=>some ((),((0:Int),()))) n j) (n:=N) (by omega)
  (body:=λj x v k=>bif WmP who what x then some ((),(x.2.2,()))else k v) (K:=λ_ v=>some ((),((0:Int),())))
  (λn i v hi=>by
   simp only[Zco,WK hi,Ww hi,Ws hi,Wm (show i<4611686018427387904 by omega),Wb];unfold WmP;by_cases c1:l[i].1=who<;>by_cases c2:l[i].2.1=what<;>simp[Wv,c1,c2])
  (λn v=>by simp[Zco,WS,Xm,Wa]) ()
 refine(h1.trans (WdU (p:=WmP who what) (E:=λ_ x=>some ((),(x.2.2,()))) l 0 () λj x v k _=>rfl)).trans ?_;cases fnd (WmP who what) l 0<;>rfl
theorem Wqq(h:HOk l):Wjt l who what>0↔∃x∈l,x.1=who/\x.2.1=what:=by
 unfold Wjt;cases hf:fnd (WmP who what) l 0 with
 |none=>
  refine⟨λz=>by simp at z,λ⟨x,hx,e1,e2⟩=>?_⟩;have:=Wgs hf x hx;simp[WmP,e1,e2]at this
 |some r=>
  have g:=WcI hf;have hm:=Xar g.2.2.2;have hp:WmP who what r.2=true:=g.1;unfold WmP at hp;simp only[Xi,Wi]at hp;exact⟨λ_=>⟨r.2,hm,hp.1,hp.2⟩,λ_=>by have:=(h.val _ hm).2.2;show r.2.2.2>0;omega⟩
def We0(l:List Hd)(who:Int)(c:Nat):List Int:=((List.range' c (9-c)).filter λw:Nat=>decide (Wjt l who (w:Int)>0)).map λw:Nat=>(w:Int)
theorem WdE(h:HOk l)(hl:l.length<=1048576)(hN:1048576<N):∀(d c n:Nat) (o:List Int),c+d=9->d<n->o.length<=c->
  Zb6 N l who (λqc be bd=>some ((),(bd,()))) n (c:Int) o=ret (o++We0 l who c)
 |d,c,0,o,_,h2,_=>by omega
 |0,c,n+1,o,hc,_,_=>by
  have:c=9:=by omega
  subst this;simp[Zb6,We0,ret]
 |d+1,c,n+1,o,hc,hn,ho=>by
  have e1:decide ((c:Int)<9)=true:=by simp;omega
  have er:We0 l who c=(if Wjt l who (c:Int)>0 then [(c:Int)]else [])++We0 l who (c+1):=by
   unfold We0;rw[show 9-c=(9-(c+1))+1 by omega,List.range'_succ];by_cases hp:Wjt l who (c:Int)>0
   .rw[Wf hp,Xfy (by simpa using hp)];rfl
   .rw[Wc hp,Xfx (by simpa using hp)];rfl
  rw[Zb6,e1,Wb,Wgj h hl hN];simp only[ret,Xd,WV];rw[er,Wm (show c<4611686018427387904 by omega)];by_cases hp:Wjt l who (c:Int)>0
  .rw[Wf hp,Wf hp,Wq (by simp;omega)];simp only[Wb,Xbc];rw[WdE h hl hN d (c+1) n _ (by omega) (by omega) (by simp;omega)];simp
  .rw[Wc hp,Wc hp,WdE h hl hN d (c+1) n _ (by omega) (by omega) (by omega)];simp
theorem Wke(h:HOk l)(hl:l.length<=1048576)(hN:1048576<N):Zh1 N l who=ret (We0 l who 0):=by
 unfold Zh1;exact WdE h hl hN 9 0 N [] (by omega) (by omega) (by simp)
theorem WoS(h:HOk l):(We0 l who 0).length=0↔(Wd0 l who).length=0:=by
 unfold We0 Wd0;rw[Xu,Xu,Xfw,Xfw,Xgb,Xgb];constructor
 .intro z x hx e;have hv:=h.val x hx;refine z x.2.1.toNat (by rw[List.mem_range'_1];have:=hv.2.1;omega) ?_;rw[Wi,Int.toNat_of_nonneg hv.2.1.1,Wqq h];exact⟨x,hx,by simpa using e,rfl⟩
 .intro z w hw e;rw[Wi,Wqq h]at e;obtain⟨x,hx,e1,e2⟩:=e;exact z x hx (by simpa using e1)
theorem Wlk(h:HOk l)(hm:1<=mode/\mode<=2)(hl:l.length<=1048576)(hN:1048576<N):Zla N l who what mode=ret (WfK l who what mode):=by
 unfold Zla WfK;rw[WbW h hl hN,WcK];simp only[ret,Xd,Xk,Wa,We hm.1,We hm.2,Xao];have h1:=Wx (l:=l) (V:=List Int) (R:=Unit×(List Int×Unit)) (lp:=λn j v=>Zaq N l who what mode (λuI ga bX=>(some ((),(bX,())))) n j v) (n:=N) (by omega)
  (body:=λj x v k=>bif x.2.1==what then(bif x.1 !=who then(bif mode==2 then(bif Wz (v.length+ [x.1].length)then k (Xh v [x.1])else none)else(bif x.2.2==2 then(bif Wz (v.length+ [x.1].length)then k (Xh v [x.1])else none)else k v))else k v)else k v) (K:=λ_ v=>ret v)
  (λn i v hi=>by simp only[Zaq,WK hi,Ww hi,Ws hi,Wm (show i<4611686018427387904 by omega),Wb])
  (λn v=>by simp[Zaq,WS,Xm,Wa]) []
 refine h1.trans ?_;rw[WdN (p:=blk who what mode) (f:=(·.1)) l 0 [] (by simp;omega) (λj x v k _ hv=>by
  rw[Wq (by simp;omega)];unfold blk;simp only[Wv,Wat,Wb,Xbc];by_cases c1:x.2.1=what<;>by_cases c2:x.1=who<;>by_cases c3:mode=2<;>by_cases c4:x.2.2=2<;>simp[c1,c2,c3,c4])]
 rfl
theorem Wjb(h:HOk l)(hl:l.length<=1048576)(hN:1048576<N):Zit N l who=ret (WW l who):=by
 unfold Zit WW;rw[WbW h hl hN];simp only[ret,Xd];have h1:=Wx (l:=l) (V:=List Hd) (R:=Unit×(List Hd×Unit)) (lp:=λn j v=>Za0 N l who true (λkW be bd=>(some ((),(bd,())))) n j v) (n:=N) (by omega)
  (body:=λj x v k=>bif x.1 !=who then(bif Wz (v.length+ [x].length)then k (Xh v [x])else none)else k v) (K:=λ_ v=>ret v)
  (λn i v hi=>by simp only[Za0,WK hi,Ww hi,Ws hi,Wm (show i<4611686018427387904 by omega),Wb,Xk,Wa])
  (λn v=>by simp[Za0,WS,Xm,Wa]) []
 refine h1.trans ?_;rw[WdN (p:=λh=>!(h.1==who)) (f:=λh=>h) l 0 [] (by simp;omega) (λj x v k _ hv=>by
  rw[Wq (by simp;omega)];rfl)]
 simp[ret]
theorem WpX{e:Hd}{who what b:Int}(he:e=(who,what,b)):∀(r a o:List Hd) (dn:Bool) (n:Nat),l=a++r->r.length<n->l.length<=1000->o.length+2*r.length<=5000->Ris cfH r->(dn=true->∀x∈r,¬(x.1=who/\x.2.1=what))->
  Zl N l who what b (λjk zA uM dt=>
  (bif !jk then
 (bif Wz ((Xb dt)+(Xb ([(who,(what,b))])))then
 (some ((),(Xh dt ([(who,(what,b))]),(true,()))))else none)
 else
 (some ((),(dt,(true,())))))) n dn (a.length:Int) o=some ((),(o++(if dn=true then r else WbE cfH r e),(true,())))
 |r,a,o,dn,0,_,h2,_,_,_,_=>by omega
 | [],a,o,dn,n+1,hl,_,h1,h3,_,_=>by
  have e1:decide ((a.length:Int)<Wg l)=false:=by rw[hl];simp[Wg]
  rw[Zl,e1,Wa];cases dn
  .simp only[Xbl,Wb];rw[Wq (by simp;omega),he];rfl
  .simp
 |x::r,a,o,dn,n+1,hl,hn,h1,h3,hr,hd=>by
  have ac:a.length<l.length:=by rw[hl];simp
  have hx:l[a.length]=x:=by simp[hl]
  have dZ:l=(a++ [x])++r:=by rw[hl];simp
  have cr:Ris cfH r:=(Xy.1 hr).2;have kI:∀y∈r,cfH x y<0:=(Xy.1 hr).1;have ea:(a.length:Int)+1=((a++ [x]).length:Int):=by simp
  have rm:∀v:List Hd,v.length<=6000->∀y:Hd,Wz (v.length+ [y].length)=true:=λv hv y=>Wq (by simp;omega);have ix:Wh .i64 (a.length:Int) 1=((a++ [x]).length:Int):=by rw[WJ (by unfold I64;omega),ea]
  rw[Zl];simp only[WK ac,Ww ac,Ws ac,hx,Wb,ix,Xbc];simp only[Xr]at hn h3;cases dn with
  |true=>
   have hk:=hd rfl x (Xj ..);simp only[Xk,Wa];have ih:=WpX he r (a++ [x]) (o++ [x]) true n dZ (by omega) h1 (by simp;omega) cr λ_ y hy=>hd rfl y (Xf _ hy);rw[rm o (by omega) x];simp only[Wat,Wb];have fin:o++ [x]++(if true=true then r else WbE cfH r e)=o++(if true=true then x::r else WbE cfH (x::r) e):=by simp
   rw[fin]at ih;by_cases c:x.2.1=what
   .rw[Wf c,Wc (λz=>hk ⟨z,c⟩)];exact ih
   .rw[Wc c];exact ih
  |false=>
   simp only[Xbl,Wb,WV];rw[rm o (by omega) x,rm o (by omega) (who,what,b),rm (o++ [(who,what,b)]) (by simp;omega) x];simp only[Wat,Wb];have wg:=WpX he r (a++ [x]) (o++ [x]) false n dZ (by omega) h1 (by simp;omega) cr (λz=>by cases z);have key:∀y∈r,¬cfH x e<0->¬(y.1=who/\y.2.1=what):=λy hy bQ z=>by
    have:=kI y hy;have h2:cfH x y<0↔cfH x e<0:=Wjp rfl rfl (by rw[he];exact z.1) (by rw[he];exact z.2);exact bQ (h2.1 this)
   have lt_iff:cfH x e<0↔¬(x.2.1>what)/\¬(x.2.1=what/\x.1>=who):=by
    rw[he,Wbn];simp only;omega
   have gt_iff:¬cfH x e<0->(cfH e x<0↔¬(x.1=who/\x.2.1=what)):=by
    rw[he,Wbn,Wbn];simp only;omega
   have wh:¬cfH x e<0->Zl N l who what b _ n true ((a++ [x]).length:Int) (if x.1=who/\x.2.1=what then o++ [(who,what,b)]else o++ [(who,what,b)]++ [x])=some ((),(o++(if false=true then x::r else WbE cfH (x::r) e),(true,()))):=λbQ=>by
    rw[WpX he r (a++ [x]) _ true n dZ (by omega) h1 (by split<;>(simp;omega)) cr λ_ y hy=>key y hy bQ];have ep:WbE cfH (x::r) e=if x.1=who/\x.2.1=what then e::r else e::x::r:=by
     rw[WbE,Wc bQ];by_cases c:x.1=who/\x.2.1=what
     .rw[Wf c,Wc (λz=>(gt_iff bQ).1 z c)]
     .rw[Wc c,Wf ((gt_iff bQ).2 c)]
    simp only[reduceIte,Xai];rw[ep,he];by_cases c:x.1=who/\x.2.1=what
    .rw[Wf c,Wf c];simp
    .rw[Wc c,Wc c];simp
   by_cases ii:cfH x e<0
   .obtain⟨c1,c2⟩:=lt_iff.1 ii;have fin:o++ [x]++(if false=true then r else WbE cfH r e)=o++(if false=true then x::r else WbE cfH (x::r) e):=by
     rw[Wc (by simp),Wc (by simp),WbE,Wf ii];simp
    rw[fin]at wg;rw[Wc c1];simp only[Wv];by_cases c:x.2.1=what
    .rw[Wf c,Wc (λz=>c2 ⟨c,z⟩),Wf c,Wc (λz=>c2 ⟨c,by omega⟩)];exact wg
    .rw[Wc c,Wc c];exact wg
   .have hh:=wh ii;by_cases c1:x.2.1>what
    .rw[Wc (by omega)]at hh;rw[Wf c1,Wc (by omega)];exact hh
    .rw[Wc c1];have c2:x.2.1=what/\x.1>=who:=by
      apply Classical.byContradiction;intro z;exact ii (lt_iff.2 ⟨c1,z⟩)
     simp only[Wv];rw[Wf c2.1,Wf c2.2,Wf c2.1];by_cases c3:x.1=who
     .rw[Wf ⟨c3,c2.1⟩]at hh;rw[Wf c3];exact hh
     .rw[Wc (λz=>c3 z.1)]at hh;rw[Wc c3];exact hh
theorem Wkl(h:HOk l)(hw:1<=who/\who<=9)(ht:0<=what/\what<=8)(hm:1<=mode/\mode<=2)(hl:l.length<=1000)(hN:1048576<N):
  Zjv N l who what mode=some ((),((Wdd l who what mode).getD l,((Wdd l who what mode).isSome,()))):=by
 unfold Zjv Wdd;rw[WbW h (by omega) hN,WcK,WcK,WcK,Wlk h hm (by omega) hN];simp only[ret,Xd,Xk,Wa,We hw.1,We hw.2,We ht.1,We ht.2,We hm.1,We hm.2,Xao,WV];by_cases hb:WfK l who what mode= []
 .rw[Wc (by rw[hb];simp[Wg]),Wf hb,Wgj h (by omega) hN];simp only[ret,Xd];have em:Ws8 mode (Wjt l who what)=Won (Wjt l who what) mode:=by unfold Ws8 Won;split<;>split<;>omega
  rw[em];have:=WpX (N:=N) (l:=l) (e:=(who,what,Won (Wjt l who what) mode)) rfl l [] [] false N (by simp) (by omega) hl (by simp;omega) h.ris (λz=>by cases z);refine this.trans ?_;rfl
 .rw[Wf (by
   have:=List.length_pos_iff.2 hb;unfold Wg;omega),Wc hb,Wq (by simp;omega)]
  rfl
end
section
variable{N:Nat}{c:Cm}{m:Mm}
theorem Wdt(hm:W0 m=true):Zds N m=ret m:=by
 have:=(WC hm).1;simp_all [Zds,Wq]
theorem WhK(h:CmOk c):Zmz N c.e=ret c.e:=by
 have h1:=h.plen;have h2:=h.rlen;obtain⟨c0,c1,c2,c3,c4,c5,c6⟩:=cmP c;unfold Zmz;simp only[c5,c6,Xbz,Xau,Wq (show c.puts.length<=1073741824 by omega),Wq (show c.reads.length<=1073741824 by omega),Wb];rfl
theorem WgU{l:List Int}(hp:l.Pairwise (· < ·))(hc:∀x∈l,0<=x/\x<=7)(hl:l.length<=8){X Y:Option Ke}:∀(d i n:Nat),i+d=l.length->d<n->Zbf N l X (λ_ _=>Y) n (i:Int)=Y
 |d,i,0,_,h=>by omega
 |0,i,n+1,h,_=>by
  rw[Zbf,WS (by omega),Wa]
 |d+1,i,n+1,h,hn=>by
  have hi:i<l.length:=by omega
  have ih:=WgU hp hc hl (X:=X) (Y:=Y) d (i+1) n (by omega) (by omega);have AC:Wav l[i]=true:=WdQ (hc _ (Xv hi));rw[Zbf];simp only[WK hi,Ww hi,Ws hi,Wm (show i<4611686018427387904 by omega),Wb,WbL,AC,ret,Xd,Xk,Wa,ih];by_cases h0:i=0
  .subst h0;rfl
  .obtain⟨j,rfl⟩:∃j,i=j+1:=⟨i-1,by omega⟩;have hj:j<l.length:=by omega
   have e:WU .i64 ((j+1:Nat):Int) 1=(j:Int):=by rw[WQ (by unfold I64;omega)];omega
   have ac:=(Xap.1 hp) j (j+1) hj hi (by omega);rw[e,Ww hj,Ws hj,Wj (show¬l[j+1]<=l[j] by omega)];simp
theorem WjB(hp:c.puts.Pairwise λa b=>a.1<b.1)(hl:c.puts.length<=8){X Y:Option Ke}:∀(d i n:Nat),1<=i->c.puts.length<=i+d->d<n->Ze1 N c.e X (λ_ _=>Y) n (i:Int)=Y
 |d,i,0,_,_,h=>by omega
 |d,i,n+1,h1,h,hn=>by
  obtain⟨c0,c1,c2,c3,c4,c5,c6⟩:=cmP c;rw[Ze1];simp only[c5];by_cases hi:i<c.puts.length
  .obtain⟨d,rfl⟩:∃d',d=d'+1:=⟨d-1,by omega⟩;have ih:=WjB hp hl (X:=X) (Y:=Y) d (i+1) n (by omega) (by omega) (by omega);obtain⟨j,rfl⟩:∃j,i=j+1:=⟨i-1,by omega⟩;have hj:j<c.puts.length:=by omega
   have e:WU .i64 ((j+1:Nat):Int) 1=(j:Int):=by rw[WQ (by unfold I64;omega)];omega
   have ac:=(Xap.1 hp) j (j+1) hj hi (by omega);simp only[WK hi,Ww hi,Ws hi,e,Ww hj,Ws hj,Wb,Wj (show¬c.puts[j+1].1<=c.puts[j].1 by omega),Wa,Wm (show j+1<4611686018427387904 by omega)];exact ih
  .rw[show decide ((i:Int)<Wg c.puts)=false by unfold Wg;simp;omega,Wa]
theorem Wro:Zqp N c.e=ret c.steps:=by
 obtain⟨c0,c1,c2,c3,c4,c5,c6⟩:=cmP c;unfold Zqp Cm.steps;simp only[c2,c5,c6,Wv]
 repeat' split
 all_goals first
  |rfl
  |omega
theorem Wi2(h:CmOk c)(hN:1048576<N):Zgy N c.e=ret true:=by
 obtain⟨c0,c1,c2,c3,c4,c5,c6⟩:=cmP c;have h1:=h.plen;have h2:=h.rlen;have hs:c.steps<=8:=by unfold Cm.steps;split<;>(try split)<;>omega
 have cy:=h.pos;unfold Zgy;have hR:Zki N c.reads=ret true:=WgU h.rup h.rd h2 c.reads.length 0 N (by omega) (by omega);have mf:Wak c.puts=true:=by
  unfold Wak;rw[Wij.2 h.rows,We (by omega)];rfl
 simp only[c0,c1,c2,c3,c4,c5,c6,WcK,ret,Xd,We h.who.1,We h.who.2,We h.rv.1,We h.rv.2,We h.wv.1,We h.wv.2,We h.phase.1,We h.phase.2,Xao,Xk,Wa,Wdw (show c.puts.length<=1048576 by omega) hN,mf,hR,Wro];refine(WjB h.pup h1 8 1 N (by omega) (by omega) (by omega)).trans ?_;rw[WQ (by unfold I64;omega),We cy.1,We (by omega)];rfl
theorem Wdy(h:CmOk c){n:Int}(hn:0<=n/\n<=8):Zar N c.e n=ret (Wew c n).e:=by
 unfold Zar Wew;by_cases e:n=0
 .rw[e];rfl
 .rw[show(n==0)=false by simpa using e,Wc e,Wa,WQ (by unfold I64;omega)];rfl
theorem Wnu(h:CmOk c)(hN:1048576<N):∃b,Zln N c.e=some ((),((Wbk c).e,(b,()))):=by
 obtain⟨c0,c1,c2,c3,c4,c5,c6⟩:=cmP c;have fy:=h.plen;have cy:=h.pos;have rT:c.steps<=8:=by have:=h.plen;have:=h.rlen;unfold Cm.steps;split<;>(try split)<;>omega
 have gw:=h.phase;unfold Zln Wbk;rw[WhK h,Wi2 h hN];simp only[ret,Xd,Xk,Wa,WV,Wv,c2,c3,c5];have b1:=Wdy (N:=N) h (show 0<=c.pos/\c.pos<=8 by omega);have b2:=Wdy (N:=N) h (show 0<=Wg c.puts/\Wg c.puts<=8 by unfold Wg;omega);rw[b1,b2];by_cases h3:c.phase>3
 .rw[Wf h3,Wc (by omega),Wc (by omega)];exact⟨_,rfl⟩
 .rw[Wc h3];by_cases h1:c.phase=1
  .rw[Wf h1,Wf h1];exact⟨_,rfl⟩
  .rw[Wc h1,Wc h1,Wf (by omega)];exact⟨_,rfl⟩
theorem WjX{l:List Rw}(hl:l.length<=1048576)(hN:1048576<N):Zju N l=ret ((WcU l).map (·.1)):=by
 unfold Zju;rw[Wed hl hN];simp only[ret,Xd];have h8:=Wc0 l;have h1:=Wx (l:=WcU l) (V:=List Int) (R:=Unit×(List Int×Unit)) (lp:=λn j v=>Zdf N (WcU l) (λi9 ar aA=>(some ((),(aA,())))) n j v) (n:=N) (by omega)
  (body:=λj x v k=>bif Wz (v.length+ [x.1].length)then k (Xh v [x.1])else none) (K:=λ_ v=>ret v)
  (λn i v hi=>by simp only[Zdf,WK hi,Ww hi,Ws hi,Wm (show i<4611686018427387904 by omega),Wb])
  (λn v=>by simp[Zdf,WS,Xm,Wa]) []
 refine h1.trans ?_;rw[WdN (p:=λ_=>true) (f:=(·.1)) (WcU l) 0 [] (by simp;omega) (λj x v k _ hv=>by rw[Wq (by simp;omega)];rfl),show(WcU l).filter (λ_=>true)=WcU l from List.filter_eq_self.2 λ_ _=>rfl];rfl
theorem Wq4{who rv:Int}{puts reads:List Rw}(hw:1<=who/\who<=99)(hr:0<=rv/\rv<=1000000)(hp:Wak puts=true)(hd:Wak reads=true)(hN:1048576<N):Zfw N who rv puts reads=some ((),((WfY who rv puts reads).e,(true,()))):=by
 have l1:puts.length<=300:=by unfold Wak at hp;simp at hp;exact hp.1
 have l2:reads.length<=300:=by unfold Wak at hd;simp at hd;exact hd.1
 unfold Zfw WfY;simp only[WcK,ret,Xd,We hw.1,We hw.2,We hr.1,We hr.2,Xao,Xk,Wa,Wdw (show puts.length<=1048576 by omega) hN,Wdw (show reads.length<=1048576 by omega) hN,hp,hd,Wed (show puts.length<=1048576 by omega) hN,WjX (show reads.length<=1048576 by omega) hN,Wv];by_cases e:(WcU puts).length=0
 .rw[Wf (by unfold Wg;omega),Wf e];rfl
 .rw[Wc (by unfold Wg;omega),Wc e];rfl
theorem WoG(hm:W0 m=true){i who:Int}(hi:0<=i/\i<=7)(hw:1<=who/\who<=99)(hN:1048576<N):
  Zqe N m i who=some ((),((if(Waz m i).2.2=0 then WuF m i who else m),(decide ((Waz m i).2.2=0),()))):=by
 unfold Zqe;rw[Wdt hm,WbY (by grind [WC]) hN,hm];simp only[ret,Xd,Xk,Wa,WbL,WdQ hi,WcK,We hw.1,We hw.2,Xao,Wcg hm hi,Wb,Wdr,Wat];by_cases h:(Waz m i).2.2=0
 .rw[Wf h,Wf h,We h];rfl
 simp_all
theorem Wjc(hm:W0 m=true){i who:Int}(hi:0<=i/\i<=7)(hw:1<=who/\who<=99)(hN:1048576<N):Zoc N m i who=ret ((Waz m i).2.2==who):=by
 unfold Zoc;rw[WbY (by grind [WC]) hN,hm];simp only[ret,Xd,WbL,WdQ hi,WcK,We hw.1,We hw.2,Xao,Wcg hm hi,Wb,Wdr]
theorem WnY(hm:W0 m=true){i who v:Int}(hi:0<=i/\i<=7)(hw:1<=who/\who<=99)(hv:0<=v/\v<=65535)(hN:1048576<N):
  ∃b,Zpg N m i who v=some ((),(WiN m i who v,(b,()))):=by
 unfold Zpg WiN;rw[Wdt hm,Wjc hm hi hw hN];simp only[ret,Xd,Wal,War.2 hv,Xk,Wa,Wcg hm hi,Wb,Wdr];by_cases h:(Waz m i).2.2=who
 .rw[Wf h,beq_iff_eq.2 h];exact⟨true,rfl⟩
 .rw[Wc h,beq_eq_false_iff_ne.2 h];exact⟨false,rfl⟩
theorem Wgq(hm:W0 m=true){i who ver:Int}(hi:0<=i/\i<=7)(hw:1<=who/\who<=99)(hN:1048576<N):
  ∃b,Zi7 N m i who ver=some ((),(WeK m i who ver,(b,()))):=by
 have h8:=(WC hm).1;unfold Zi7 WeK;rw[Wdt hm,Wjc hm hi hw hN];simp only[ret,Xd,WcK,Wcg hm hi,Wb,Wdr,Xat,Wk];by_cases h:(Waz m i).2.2=who
 .rw[beq_iff_eq.2 h];simp only[Xk,Wa];by_cases h2:(Waz m i).2.1<=ver/\ver<=m.1
  .rw[Wf ⟨h,h2.1,h2.2⟩,We h2.1,We h2.2];refine⟨true,?_⟩;have:i.toNat<m.2.length:=by omega
   simp only[Xao,Xk,Wa,WgF this,Xct];rfl
  .rw[Wc (by omega)];refine⟨false,?_⟩
   grind
 .rw[Wc (λz=>h z.1),beq_eq_false_iff_ne.2 h];exact⟨false,rfl⟩
theorem Wm5{ph:Int}:Zdi N c.e ph=ret (Wmf c ph).e:=by
 obtain⟨c0,c1,c2,c3,c4,c5,c6⟩:=cmP c;unfold Zdi Wmf WmC;simp only[Wv,c5,c6,Wg];by_cases h3:ph=3
 .subst h3;by_cases h1:c.reads.length=0<;>by_cases h2:c.puts.length=0<;>simp[h1,h2]<;>rfl
 .by_cases h4:ph=4
  .subst h4;by_cases h2:c.puts.length=0<;>simp[h2]<;>rfl
  .simp[h3,h4];rfl
theorem Wo1(h:CmOk c)(hm:W0 m=true)(hN:1048576<N):Zmd N m c.e=some ((),((Wdu m c).1,((Wdu m c).2.e,()))):=by
 obtain⟨c0,c1,c2,c3,c4,c5,c6⟩:=cmP c;have cy:=h.pos;have fy:=h.plen;have hw:=h.who;have rT:c.steps<=8:=by have:=h.plen;have:=h.rlen;unfold Cm.steps;split<;>(try split)<;>omega
 have b1:=Wdy (N:=N) h (show 0<=c.pos/\c.pos<=8 by omega);have b2:=Wdy (N:=N) h (show 0<=Wg c.puts/\Wg c.puts<=8 by unfold Wg;omega);have ei:Wh .i64 c.pos 1=c.pos+1:=WJ (by unfold I64;omega);have nx:∀(M:Mm) (ph n:Int),n=c.steps->(bif (c.pos+1)==n then((Zdi N (c.who,(c.rv,(c.phase,(c.pos+1,c.e.2.2.2.2)))) ph).bind λo=>(some ((),(M,(o.2.1,()))):Option (Unit×(Mm×(_×Unit)))))else some ((),(M,((c.who,(c.rv,(c.phase,(c.pos+1,c.e.2.2.2.2)))),()))))=some ((),(M,((WeF c ph).e,()))):=λM ph n hn=>by
  unfold WeF;rw[show(c.who,(c.rv,(c.phase,(c.pos+1,c.e.2.2.2.2))))=Cm.e {c with pos:=c.pos+1}from rfl,Wm5];simp only[ret,Xd,Wv];by_cases e:c.pos+1=c.steps
  .rw[Wf (by omega),Wf e];rfl
  .rw[Wc (by omega),Wc e]
 unfold Zmd Wdu;rw[Wdt hm,WhK h];simp only[ret,Xd];rw[WbY (by grind [WC]) hN,Wi2 h hN,hm];simp only[ret,Xd,Xk,Wa,c0,c1,c2,c3,c4,c5,c6,Wam,b1,b2,ei];by_cases h1:c.phase=1
 .rw[beq_iff_eq.2 h1,Wb,Wf h1];obtain⟨j,hj,e1,e2,e3,e4⟩:=h.put (by omega);have bv:c.steps=Wg c.puts:=by unfold Cm.steps Wg;rw[Wf (.inl h1)]
  rw[show Xc c.puts (Xa c.pos) ((0:Int),(0:Int))=c.puts[j]from e2,e2,show inb c.pos c.puts.length=true by rw[e1,WF,We hj],WoG hm e3 hw hN];simp only[Xd,Wb];by_cases hf:(Waz m c.puts[j].1).2.2=0
  .rw[Wf hf,Wf hf,We hf];exact nx _ 2 _ bv.symm
  .rw[Wc hf,Wc hf,Wj hf];rfl
 rw[beq_eq_false_iff_ne.2 h1,Wa,Wc h1];by_cases h2:c.phase=2
 .rw[beq_iff_eq.2 h2,Wb,Wf h2,Wn6 hm hN];simp only[Xd,Wv];by_cases ht:(tick m).2=0
  .have h0:=(WC hm).2.1;have:(tick m).1=m:=by
    unfold tick at ht⊢;by_cases hc:m.1<1000000
    .rw[Wf hc]at ht;simp only at ht;omega
    .rw[Wc hc]
   rw[Wf ht,Wf ht,this];rfl
  .rw[Wc ht,Wc ht];rw[show(c.who,(c.rv,(c.phase,(c.pos,((tick m).2,c.e.2.2.2.2.2)))))=Cm.e {c with wv:=(tick m).2}from rfl,Wm5];rfl
 rw[beq_eq_false_iff_ne.2 h2,Wa,Wc h2];by_cases h3:c.phase=3
 .rw[beq_iff_eq.2 h3,Wb,Wf h3];obtain⟨j,hj,e1,e2,e3,e4⟩:=h.read h3;have bv:c.steps=Wg c.reads:=by unfold Cm.steps Wg;rw[Wc (by omega),Wf h3]
  rw[show Xc c.reads (Xa c.pos) (0:Int)=c.reads[j]from e2,e2,show inb c.pos c.reads.length=true by rw[e1,WF,We hj],Wcg hm ⟨e3,e4⟩];simp only[Wb,Wat,WV];rw[show Xc m.2 (Xa c.reads[j]) ((0:Int),((0:Int),(0:Int)))=Waz m c.reads[j]from rfl];have xD:=nx m 4 _ bv.symm;by_cases a:(Waz m c.reads[j]).2.2=0
  .rw[Wf a];by_cases b:(Waz m c.reads[j]).2.1>c.rv
   .rw[Wf b,Wf (.inr b)];rfl
   .rw[Wc b,Wc (λz=>z.elim (λz=>z.1 a) b)];exact xD
  .rw[Wc a];by_cases a':(Waz m c.reads[j]).2.2=c.who
   .rw[Wf a'];by_cases b:(Waz m c.reads[j]).2.1>c.rv
    .rw[Wf b,Wf (.inr b)];rfl
    .rw[Wc b,Wc (λz=>z.elim (λz=>z.2 a') b)];exact xD
   .rw[Wc a',Wf (.inl ⟨a,a'⟩)];rfl
 rw[beq_eq_false_iff_ne.2 h3,Wa,Wc h3];by_cases h4:c.phase=4
 .rw[beq_iff_eq.2 h4,Wb,Wf h4];obtain⟨j,hj,e1,e2,e3,e4⟩:=h.put (by omega);have bv:c.steps=Wg c.puts:=by unfold Cm.steps Wg;rw[Wf (by omega)]
  obtain⟨b,hb⟩:=WnY hm e3 hw e4 hN;rw[show Xc c.puts (Xa c.pos) ((0:Int),(0:Int))=c.puts[j]from e2,e2,show inb c.pos c.puts.length=true by rw[e1,WF,We hj],hb];exact nx _ 5 _ bv.symm
 rw[beq_eq_false_iff_ne.2 h4,Wa,Wc h4];by_cases h5:c.phase=5
 .rw[beq_iff_eq.2 h5,Wb,Wf h5];obtain⟨j,hj,e1,e2,e3,e4⟩:=h.put (by omega);have bv:c.steps=Wg c.puts:=by unfold Cm.steps Wg;rw[Wf (by omega)]
  obtain⟨b,hb⟩:=Wgq (ver:=c.wv) hm e3 hw hN;rw[show Xc c.puts (Xa c.pos) ((0:Int),(0:Int))=c.puts[j]from e2,e2,show inb c.pos c.puts.length=true by rw[e1,WF,We hj],hb];simp only[Xd,Wb,Wv];unfold WeF;by_cases e:c.pos+1=c.steps
  .rw[Wf (by omega),Wf e];unfold Wmf;rw[show WmC c 6=6 by unfold WmC;rw[Wc (by omega),Wc (by omega)]];rfl
  .rw[Wc (by omega),Wc e];rfl
 rw[beq_eq_false_iff_ne.2 h5,Wa,Wc h5];by_cases h7:c.phase=7
 .rw[beq_iff_eq.2 h7,Wb,Wf h7];obtain⟨j,hj,e1,e2,e3,e4⟩:=h.put (by omega);obtain⟨b,hb⟩:=Wgq (ver:=(Waz m c.puts[j].1).2.1) hm e3 hw hN;rw[show Xc c.puts (Xa c.pos) ((0:Int),(0:Int))=c.puts[j]from e2,e2,show inb c.pos c.puts.length=true by rw[e1,WF,We hj],Wcg hm e3,show Xc m.2 (Xa c.puts[j].1) ((0:Int),((0:Int),(0:Int)))=Waz m c.puts[j].1 from rfl,hb];rfl
 .rw[beq_eq_false_iff_ne.2 h7,Wa,Wc h7]
end
section
variable{N:Nat}{w:Wo}{x:Rt}{k:Nat}{p:Pg}{n:Int}{o:Opn}
theorem Wgo:Za7 N x.e=ret (Wgf x).e:=rfl
theorem WlY(hs:0<=x.spare/\x.spare<=2):Zgc N x.e=ret (Wbw x).e:=by
 obtain⟨r0,r1,r2,r3,r4,r5,r6,r7,r8,fv,eT,dU,dX,dY,eF,fO,fP,fw,fx,fQ,fR,fS⟩:=rtP x;unfold Zgc Wbw;simp only[Wv,WV,dY,r2,Wg,Wgo,ret,Xd];by_cases h1:x.marks.length=0
 .rw[Wf (by omega),Wf (.inl h1)]
 .rw[Wc (by omega)];by_cases h2:x.spare=2
  .rw[Wf (by omega),Wf (.inr h2)]
  .rw[Wc (by omega),Wc (by omega),WJ (by unfold I64;omega)];rfl
theorem Wl5(hz:x.undos.length≠0)(hl:x.undos.length<=1000)(hu:∀u∈x.undos,UnV u)(hs:ShOk w.shelf)(hN:1048576<N):
  Zgd N w.e x.e=some ((),((WeN w x).1.e,((WeN w x).2.e,()))):=by
 obtain⟨a,b,c,d⟩:=Wbs hz hl ((0,0,0):Un);have aM:WgB x.undos ((0,0,0):Un)∈x.undos:=by
  unfold WgB;rw[WD (show x.undos.length-1<x.undos.length by omega)];exact Xv _
 unfold Zgd WeN;simp only[Wk,Wam];rw[show P16 x.e=x.undos from rfl,a,b,show w.e.2.2.2.1=w.shelf from rfl,Wj7 hs (hu _ aM) hN,c,d];simp only[Wb,Xd];rw[Wq (by simp;omega)];rfl
theorem Wty(gW:k<=1000):Zi6 N w.e x.e (k:Int)=some ((),((Wk5 w x k).1.e,((Wk5 w x k).2.e,()))):=by
 unfold Zi6 Wk5;rw[Wap (by omega),show w.e.2.1=w.token from rfl];simp only[Wv];by_cases h:w.token=(k:Int)+1
 .rw[Wf h];simp only[Wf h];rfl
 .rw[Wc h];simp only[Wc h];rfl
theorem Wnk(gW:k<=8)(hh:HOk w.holds)(my:0<=x.rv/\x.rv<=1000000)(hr:Wak x.reads=true)(hw:Wak x.writes=true){out:Int}(hN:1048576<N):
  Zll N w.e x.e (k:Int) out=some ((),((We2 w x k out).1.e,((We2 w x k out).2.e,()))):=by
 obtain⟨r0,r1,r2,r3,r4,r5,r6,r7,r8,fv,eT,dU,dX,dY,eF,fO,fP,fw,fx,fQ,fR,fS⟩:=rtP x;have pP:=Wep hh;have qs:Zi6 N w.e (S8 x.rv (S7 out x.e)) (k:Int)=_:=Wty (w:=w) (x:={x with fate:=out,stamp:=x.rv}) (k:=k) (by omega);have rU:∀rows,Wak rows=true->Zfw N ((k:Int)+1) x.rv rows x.reads=some ((),((WfY ((k:Int)+1) x.rv rows x.reads).e,(true,()))):=λrows jY=>Wq4 (by omega) my jY hr hN;have bR:Zfw N ((k:Int)+1) x.rv ([]:List Kc) x.reads=some ((),((WfY ((k:Int)+1) x.rv [] x.reads).e,(true,()))):=rU [] rfl;have tf:=WoS (who:=(k:Int)+1) hh;have v6:∀{α:Type} (a b:α),(bif ((0:Int)==(0:Int))then a else b)=a:=λ_ _=>rfl;unfold Zll We2;simp only[Wk,v6];rw[Wap (by omega),show P4 w.e=w.holds from rfl];simp only[Wv,r4,dU,dX,Wke (who:=(k:Int)+1) hh (by omega) hN,ret,Xd,Wg];rw[bR,rU _ hw,qs];simp only[Xd];by_cases ho:out=2
 .rw[Wf ho,Wf ho];by_cases hz:(Wd0 w.holds ((k:Int)+1)).length=0
  .rw[Wf (by have:=tf.2 hz;omega),Wf ⟨rfl,hz⟩]
  .rw[Wc (λz=>hz (tf.1 (by omega))),Wc (λh=>hz h.2)];rfl
 .rw[Wc ho,Wc ho];by_cases hy:x.writes.length=0
  .rw[Wf (by omega)];by_cases hz:(Wd0 w.holds ((k:Int)+1)).length=0
   .rw[Wf (by have:=tf.2 hz;omega),Wf ⟨hy,hz⟩]
   .rw[Wc (λz=>hz (tf.1 (by omega))),Wc (λh=>hz h.2)];rfl
  .rw[Wc (by omega),Wc (λh=>hy h.1)];rfl
theorem WsS(gW:k<=8)(hc:CC p.1)(hx:RLive p n x)(ho:WdZ o=true)(eS:12<=o.1)(hs:ShOk w.shelf)(hh:HOk w.holds)(hN:1048576<N):
  Zon N w.e x.e (k:Int) o=some ((),((WfB w x k o).1.e,((WfB w x k o).2.e,()))):=by
 obtain⟨r0,r1,r2,r3,r4,r5,r6,r7,r8,fv,eT,dU,dX,dY,eF,fO,fP,fw,fx,fQ,fR,fS⟩:=rtP x;obtain⟨z1,z2,z3,z4,z5,z6⟩:=hx.sz hc;have pP:=Wep hh;have bH:=hx.pc;have c7:=hc.len;have nX:(0<=(Wb3 o).1/\(Wb3 o).1<=8)/\1<=(Wb3 o).2/\(Wb3 o).2<=2:=by
  grind [Wb3,Wki,We3,WqR,Wrg,Wbc,Wsq]
 unfold Zon WfB;simp only[Wk,Wam];rw[Wap (by omega),WmR ho eS,show P4 w.e=w.holds from rfl,show w.e.2.2.2.1=w.shelf from rfl];simp only[Xd,Wkl hh (show 1<=(k:Int)+1/\(k:Int)+1<=9 by omega) nX.1 nX.2 (by omega) hN,r3,eT,eF,WlY hx.spare];cases ha:Wdd w.holds ((k:Int)+1) (Wb3 o).1 (Wb3 o).2 with
 |none=>rfl
 |some dq=>
  simp only[Option.isSome_some,Xk,Wa,Option.getD_some,WjY hs hx.regs ho eS hN,Xd,Wat];rw[Wap (by omega),Wq (by simp;omega),Wq (by simp;omega)];by_cases hz:(Wa4 w.shelf o x.regs).2.2.1=0
  .rw[Wf hz];simp only[Wf hz];rfl
  .rw[Wc hz];simp only[Wc hz];rfl
theorem WuH(hc:CC p.1)(hx:RLive p n x)(hm:W0 w.mem=true)(h5:o.1=5)(ho:WdZ o=true)(hN:1048576<N):
  Zd3 N w.e x.e o=some ((w.e,()),((Wlw w x o).e,())):=by
 obtain⟨r0,r1,r2,r3,r4,r5,r6,r7,r8,fv,eT,dU,dX,dY,eF,fO,fP,fw,fx,fQ,fR,fS⟩:=rtP x;obtain⟨z1,z2,z3,z4,z5,z6⟩:=hx.sz hc;obtain⟨hA,hB⟩:=WwE ho h5;have hB':0<=o.2.2.1/\o.2.2.1<=7:=by unfold Wav at hB;simpa using hB
 have cE:=hx.regs.len;have bH:=hx.pc;have c7:=hc.len;have gy:=hx.spare;unfold Zd3 Wlw;simp only[Wk,Wam];rw[show w.e.2.2.1=w.mem from rfl];simp only[r3,r4,eT,dU,dX,fO,fP];rw[WeP (by omega) hN,WcS (by omega),Wap (by omega)];simp only[ret,Xd];rw[WT hA cE];cases hl:Wcm x.writes o.2.2.1 with
 |some v=>rfl
 |none=>
  have gz:=Wpu hx.pb hB';simp only[opI,Xd,Xbl,Wb,Xbc,Xbe,Xbz,Xau];rw[Wq (show x.reads.length<=1073741824 by omega)];cases hb:x.busy with
  |false=>
   rw[hb]at gz;simp only[Xai,W7]at gz;have gE:∀q:Pb,S19 q (S18 true x.e)=Rt.e {x with busy:=true,pb:=q}:=λq=>rfl;simp only[Xbl,Wb,Xai,W7,Wfs hm gz hN,ret,Xd,gE,WlY (x:={x with busy:=true,pb:=_}) gy,Wv,Wat];generalize WaK w.mem x.rv (o.2.2.1,0,0,0)=q;by_cases h4:q.2.1=4
   .rw[Wf h4,Wf h4]
   .rw[Wc h4,Wc h4];by_cases h3:q.2.1=3
    .rw[Wf h3,Wf h3,Wq (by simp;omega)];rfl
    .rw[Wc h3,Wc h3]
  |true=>
   have cq:∀q:Pb,S19 q x.e=Rt.e {x with busy:=true,pb:=q}:=λq=>by
    have:S19 q x.e=Rt.e {x with pb:=q}:=rfl;rw[this]
    conv=>lhs;rw[show({x with pb:=q}:Rt)={x with busy:=x.busy,pb:=q}from rfl,hb]
   rw[hb]at gz;simp only[W4]at gz;simp only[Xk,Wa,W4,Wfs hm gz hN,ret,Xd,cq,WlY (x:={x with busy:=true,pb:=_}) gy,Wv,Wat];generalize WaK w.mem x.rv x.pb=q;by_cases h4:q.2.1=4
   .rw[Wf h4,Wf h4]
   .rw[Wc h4,Wc h4];by_cases h3:q.2.1=3
    .rw[Wf h3,Wf h3,Wq (by simp;omega)];rfl
    .rw[Wc h3,Wc h3]
end
section
theorem Wj5{N:Nat}{f:Y_Family}{x:Y_KidRun}(hf:(P4 f).length=4)(ht:0<=x.2.2.2.1/\x.2.2.2.1<=100000):Zf3 N f x=some ((f,()),(again f x,())):=Wgy hf ht
theorem Wmp{N:Nat}{m:Mm}{f:Y_Family}{x:Y_KidRun}{o:Int×Int×Int×Int}(h:ReadOk m f x o)(hN:1048576<N):
  Zjc N m f x o=some ((m,()),((We1 m f x o).1,((We1 m f x o).2,()))):=by
 have hw:=h.wr;have hs:=h.seen;have hb:=h.buf;have hr:=h.regs;unfold Zjc We1;simp only[Wk,Wam];rw[WeP (show(P8 x).length<=1048576 by omega) hN];rcases Wcm (P8 x) o.2.2.1 with _|v
 .simp only[opI,Xd,Wa];rw[Wir (show(P6 f).length<=1048576 by omega) hN,Wj5 h.famr h.tries,WcS (show(P6 x).length<=1048576 by omega)];rw[Wap (by have:=h.pc;omega)];rcases he:ent (P6 f) o.2.2.1 with _|r
  .have e1:decide ((-1:Int)>x.2.2.1)=false:=by have:=h.since;simp;omega
   simp only[ret,Xd,e1,Wa,show decide ((-1:Int)<0)=true from rfl,Wb];have hp:=h.pbO;have e3:∀(a b:Nat),a<=1000->b<=1000->Wz (a+b)=true:=λa b h1 h2=>Wq (by omega);cases hc:P10 x
   .have mR:WmG x o.2.2.1=(o.2.2.1,(0,(0,0))):=by unfold WmG;rw[hc];rfl
    rw[mR]at hp⊢;simp only[Xbl,Wb,Wfs h.mem hp hN,ret,Xd,rgI hr h.rA];generalize WaK m f.1 (o.2.2.1,(0,(0,0)))=q;rw[Wq (by simp;omega),Wq (by simp;omega)];unfold bne;cases q.2.1==4<;>cases q.2.1==3<;>rfl
   .have mR:WmG x o.2.2.1=Q11 x:=by unfold WmG;rw[hc];rfl
    rw[mR]at hp⊢;simp only[Xk,Wa,Wfs h.mem hp hN,ret,Xd,rgI hr h.rA,Wb];generalize WaK m f.1 (Q11 x)=q;rw[Wq (by simp;omega),Wq (by simp;omega),Wqh hc];unfold bne;cases q.2.1==4<;>cases q.2.1==3<;>rfl
  .have hm:=WcI he;have aM:r.2∈P6 f:=by
    have:=hm.2.2.2;exact Xar this
   have hv:=h.ver _ aM;have e2:decide (r.2.2.2<0)=false:=by simp;omega
   simp only[ret,Xd,e2,Wa,rgI hr h.rA,Wb];rw[Wq (by simp;omega),Wq (by simp;omega)];cases decide (r.2.2.2>x.2.2.1)<;>rfl
 .simp only[opI,Xd,Wb];rw[WcS (show(P6 x).length<=1048576 by omega),Wap (by have:=h.pc;omega)];simp only[ret,Xd,rgI hr h.rA,Wb]
variable{N:Nat}{m:Mm}{f g:Fm}{x y:Kd}{k:Nat}{n:Int}{code:List Opn}{codes:List (List Opn)}
theorem WpB(hk:k<f.kids.length)(hm:W0 m=true)(bT:KC code)(hF:FOk codes n f)(bb:codes.getD k []=code)(aN:f.kids[k]=x)(h0:x.phase=0)(hn:n<=100000)(hN:1048576<N):
  Zlc N m f.e x.e code=some ((m,()),((WoT m f x code).1.e,((WoT m f x code).2.e,()))):=by
 have hx:=hF.kid k hk;rw[bb,aN]at hx;obtain⟨k0,k1,k2,k3,k4,k5,k6,k7,k8,k9,k10⟩:=kdP x;have bH:=hx.pc;have ad:=bT.len;have mc:=hx.wl;unfold Zlc WoT;simp only[Wk,Wam,k1,k6,k8,k9,show Wg code=(code.length:Int)from rfl,Wv];by_cases dG:x.pc>=code.length
 .rw[Wf (by omega),Wf dG];rfl
 .rw[Wc (by omega),Wc dG];obtain⟨j,hj,ej,eo⟩:=WjA (l:=code) bH.1 (by omega);have py:Xc code (Xa x.pc) ((0,0,0,0):Opn)=opN code x.pc:=rfl;have dB:inb x.pc code.length=true:=by rw[ej,WF];exact We hj
  rw[dB];obtain⟨ok,o1,jd⟩:=bT.ok j hj;have bn:=bT.k10 j hj;simp only[Wb,py];rw[←eo]at ok o1 bn;generalize opN code x.pc=o at*;have cE:=hx.regs.len;rw[Wap (show 0<=x.pc/\x.pc<=1000000 by omega)];by_cases h5:o.1=5
  .rw[Wf h5,Wf h5];have:=WwE ok h5;have jY:=Wnz hF hx bT hm hn this.1 this.2;rw[Wmp jY hN];simp only[Xd,Wnq]
  rw[Wc h5,Wc h5];have mx:x.marks.length<=24:=by
   have:=Wn Xb (hx.marks h0).pcs;simp only[Xu]at this;have h2:=Wa3 bT.up x.pc.toNat (by omega);have h3:=(Wcs code x.pc.toNat).2;omega
  by_cases cS:o.1=10
  .rw[Wf cS,Wc (by omega),Wc (by omega),Wc (by omega),Wc (by omega),Wf cS];unfold Wi6;by_cases hz:x.marks.length=0
   .rw[Wf (show Wg x.marks=0 by unfold Wg;omega),Wf hz];rfl
   rw[Wc (show¬Wg x.marks=0 by unfold Wg;omega),Wc hz];obtain⟨i,q,y,e1,rO,rP,⟨hi,qf⟩,rN,df,jJ,e5,e6⟩:=WiT (d:=((0,0,[]):KM)) bT.toCC (show x.pc.toNat<=code.length by omega) (hx.marks h0).pcs hz;have px:x.marks.length=q.length+1:=by rw[e1];simp
   have i1:WU .i64 (Wg x.marks) 1=(q.length:Int):=by rw[WiO (by omega),px];omega
   have g1:Xc x.marks (Xa (q.length:Int)) ((0,0,[]):KM)=y:=by rw[e1];simp
   have t1:List.take (Xa (q.length:Int)) x.marks=x.marks.dropLast:=by rw[e1];simp
   have b1:(decide ((0:Int)<=(q.length:Int))&&decide ((q.length:Int)<=(x.marks.length:Int)))=true:=by simp;omega
   have mF:x.marks.dropLast.length<=24:=by rw[Xda];omega
   have hy:y∈x.marks:=by rw[e1];simp
   obtain⟨y1,y2,y3,y4⟩:=(hx.marks h0).each y hy;rw[i1,WF,We (show q.length<x.marks.length by omega),b1];simp only[Wb,g1,t1,rO];rw[Wq (by simp;omega),WcS (by rw[y1.len];omega)];simp only[ret,Xd,Wb];rw[rP,WF,We hi];have sN:Xc code (Xa ((i:Nat):Int)) ((0,0,0,0):Opn)=opN code (i:Int):=rfl;have hr:=Wvk (bT.ok i hi).1 qf;rw[←WeM hi]at hr;simp only[Wb,sN];rw[WT hr y1.len];have b2:(decide ((0:Int)<=y.2.1)&&decide (y.2.1<=(x.writes.length:Int)))=true:=by simp;omega
   rw[b2,Wq (by rw[List.length_take];simp;omega),WjE (by omega) hN ⟨hi,qf⟩ df];simp only[ret,Xd,Wb];rw[Wap (by have:=df.len;omega),Xl];rw[Wld df];rfl
  rw[Wc cS,Wc cS];by_cases h6:o.1=6
  .rw[Wf h6,Wf h6];rw[WT (WwB ok h6).2 cE,Wq (by simp;omega),Wq (by simp;omega)];simp only[Wb,Wam];rfl
  rw[Wc h6,Wc h6];by_cases h7:o.1=7
  .rw[Wf h7,Wf h7];have h:=Wwz ok h7;rw[WT h.1 cE,WJ (a:=x.pc) (b:=o.2.2.1) (by unfold I64;omega),Wap (a:=x.pc+o.2.2.1) (by omega)];simp only[Wb,Wv];by_cases hg:Xc x.regs (Xa o.2.1) 0=0
   .rw[Wf hg,Wf (show WbQ x.regs o.2.1 0=0 from hg)];rfl
   .rw[Wc hg,Wc (show¬WbQ x.regs o.2.1 0=0 from hg)];rfl
  rw[Wc h7,Wc h7];by_cases h8:o.1=8
  .rw[Wf h8,Wf h8];rw[WcS (show x.regs.length<=1048576 by omega),Wq (by simp;omega)];simp only[ret,Xd,Wb];rw[Wq (by simp;omega)];rfl
  rw[Wc h8,Wc h8];by_cases h9:o.1=9
  .rw[Wf h9,Wf h9];have hz:x.marks.length≠0:=by
    intro hz;have h1:=Wn Xb (hx.marks h0).pcs;simp only[Xu,hz]at h1;have h2:=Wa3 bT.up j (by omega);have h3:=bT.up j hj;rw[WaD hj,Wl7 (by rw[←eo];exact h9)]at h3;rw[ej,Xl]at h1;omega
   obtain⟨i,q,y,e1,rO,rP,⟨hi,qf⟩,rN,df,jJ,e5,e6⟩:=WiT (d:=((0,0,[]):KM)) bT.toCC (show x.pc.toNat<=code.length by omega) (hx.marks h0).pcs hz;have px:x.marks.length=q.length+1:=by rw[e1];simp
   have i1:WU .i64 (Wg x.marks) 1=(q.length:Int):=by rw[WiO (by omega),px];omega
   have g1:Xc x.marks (Xa (q.length:Int)) ((0,0,[]):KM)=y:=by rw[e1];simp
   have t1:List.take (Xa (q.length:Int)) x.marks=x.marks.dropLast:=by rw[e1];simp
   have b1:(decide ((0:Int)<=(q.length:Int))&&decide ((q.length:Int)<=(x.marks.length:Int)))=true:=by simp;omega
   have mF:x.marks.dropLast.length<=24:=by rw[Xda];omega
   rw[i1,WF,We (show q.length<x.marks.length by omega),b1];simp only[Wb,g1,t1,rO];rw[Wq (by simp;omega),WcS (show x.regs.length<=1048576 by omega)];simp only[ret,Xd,Wb];rw[rP,WF,We hi];have o1:Xc code (Xa ((i:Nat):Int)) ((0,0,0,0):Opn)=opN code (i:Int):=rfl;have hr:=Wvk (bT.ok i hi).1 qf;rw[←WeM hi]at hr;simp only[Wb,o1];rw[WT hr cE];rfl
  rw[Wc h9,Wc h9];have:=WhA hN ok (by omega) (by omega) hx.regs;rw[this];rfl
end
section
variable{N:Nat}{m:Mm}{f g:Fm}{x y:Kd}{k:Nat}{n:Int}{code:List Opn}{codes:List (List Opn)}{e:En}
def goP(e:En):List En->Bool->List En->Bool×List En
 | [],d,o=>(d,o)
 |z::l,d,o=>if d=true then goP e l true (if z.1=e.1 then o else o++ [z])else
  if z.1>=e.1 then goP e l true (if z.1=e.1 then o++ [e]else o++ [e]++ [z])else goP e l false (o++ [z])
theorem Wub{z:En}{l o:List En}:goP e (z::l) false o=if z.1>=e.1 then goP e l true (if z.1=e.1 then o++ [e]else o++ [e]++ [z])else goP e l false (o++ [z]):=by
 rw[goP];exact Wc (λh=>by cases h)
theorem Wqa:∀(l:List En) (o:List En),(∀z∈l,z.1≠e.1)->goP e l true o=(true,o++l)
 | [],o,_=>by simp[goP]
 |z::l,o,h=>by
  rw[goP,Wf rfl,Wc (h z (Xj ..)),Wqa l _ λy hy=>h y (Xf _ hy)];simp
theorem WsF:∀(l:List En) (o:List En),Ris cfE l->(if(goP e l false o).1=true then(goP e l false o).2 else(goP e l false o).2++ [e])=o++WbE cfE l e
 | [],o,_=>by simp[goP,WbE]
 |z::l,o,h=>by
  have hp:=Xy.1 h;have ac:∀y∈l,z.1<y.1:=λy hy=>by have:=hp.1 y hy;unfold cfE at this;omega
  rw[Wub,WbE];by_cases h1:z.1>=e.1
  .rw[Wf h1,Wqa l _ (λy hy=>by have:=ac y hy;omega)];rw[Wf rfl,Wc (show¬cfE z e<0 by unfold cfE;omega)];by_cases h2:z.1=e.1
   .rw[Wf h2,Wc (show¬cfE e z<0 by unfold cfE;omega)];simp
   .rw[Wc h2,Wf (show cfE e z<0 by unfold cfE;omega)];simp
  .rw[Wc h1,WsF l _ hp.2,Wf (show cfE z e<0 by unfold cfE;omega)];simp
theorem WqZ{R:Type}{l:List En}{K0:Bool->Int->Bool->List En->Option R}(hl:l.length<=1000):∀(dd j n:Nat) (d:Bool) (o:List En),j+dd=l.length->dd<n->o.length<=j+d.toNat->
  Z0 N l e K0 n d (j:Int) o=K0 (goP e (l.drop j) d o).1 (l.length:Int) false (goP e (l.drop j) d o).2:=by
 intro dd
 induction dd with
 |zero=>
  intro j n d o hj hn ho;obtain⟨n,rfl⟩:∃n',n=n'+1:=⟨n-1,by omega⟩;have:j=l.length:=by omega
  subst this;simp only[Z0,WS (Xm _),Wa,Xcb,goP]
 |succ dd ih=>
  intro j n d o hj hn ho;obtain⟨n,rfl⟩:∃n',n=n'+1:=⟨n-1,by omega⟩;have ac:j<l.length:=by omega
  have hdt:d.toNat<=1:=by cases d<;>simp
  have r1:∀z:En,Wz (o.length+ [z].length)=true:=λz=>Wq (by simp;omega);have r2:∀z:En,Wz ((Xh o [e]).length+ [z].length)=true:=λz=>Wq (by simp[Xbc];omega);have bQ:(l[j].1 !=e.1)=decide (l[j].1≠e.1):=by by_cases z:l[j].1=e.1<;>simp[z]
  have dG:∀z:Bool,goP e (l.drop j) z o=goP e (l[j]::l.drop (j+1)) z o:=λz=>by rw[←Xay ac]
  have g2:Xc l (Xa (j:Int)) ((0:Int),((0:Int),(0:Int)))=l[j]:=Ws ac _;by_cases heq:l[j].1=e.1
  .have e1:decide (l[j].1≠e.1)=false:=Wj (λz=>z heq);have e2:decide (l[j].1>=e.1)=true:=We (by omega);cases d with
   |true=>
    simp only[Z0,WK ac,Ww ac,g2,Wb,bQ,e1,Wa,Xk,Wm (show j<4611686018427387904 by omega)];rw[ih (j+1) n true o (by omega) (by omega) (by simp at ho⊢;omega),dG true,goP,Wf rfl,Wf heq]
   |false=>
    simp only[Z0,WK ac,Ww ac,g2,Wb,bQ,e1,e2,Wa,Xbl,r1,Wm (show j<4611686018427387904 by omega),Xbc];rw[ih (j+1) n true _ (by omega) (by omega) (by simp at ho⊢;omega),dG false,Wub,Wf (by omega),Wf heq]
  .have e1:decide (l[j].1≠e.1)=true:=We heq;cases d with
   |true=>
    simp only[Z0,WK ac,Ww ac,g2,Wb,bQ,e1,Wa,Xk,r1,Wm (show j<4611686018427387904 by omega),Xbc];rw[ih (j+1) n true _ (by omega) (by omega) (by simp at ho⊢;omega),dG true,goP,Wf rfl,Wc heq]
   |false=>
    by_cases h2:l[j].1>=e.1
    .have e2:decide (l[j].1>=e.1)=true:=We h2;simp only[Z0,WK ac,Ww ac,g2,Wb,bQ,e1,e2,Wa,Xbl,r1,r2,Wm (show j<4611686018427387904 by omega)];simp only[Xbc];rw[ih (j+1) n true _ (by omega) (by omega) (by simp at ho⊢;omega),dG false,Wub,Wf h2,Wc heq]
    .have e2:decide (l[j].1>=e.1)=false:=Wj h2;simp only[Z0,WK ac,Ww ac,g2,Wb,bQ,e1,e2,Wa,Xbl,r1,Wm (show j<4611686018427387904 by omega),Xbc];rw[ih (j+1) n false _ (by omega) (by omega) (by simp at ho⊢;omega),dG false,Wub,Wc h2]
theorem Wo4{l:List En}(h:Ris cfE l)(hl:l.length<=1000)(hN:1048576<N):Zk3 N l e=ret (WbE cfE l e):=by
 unfold Zk3;rw[show(0:Int)=((0:Nat):Int)from rfl,WqZ hl l.length 0 N false [] (by omega) (by omega) (by simp)];have hg:=WsF (e:=e) l [] h;rw[Xbk];have ad:(goP e l false []).2.length<=2000:=by
  have:∀(l:List En) (d:Bool) (o:List En),(goP e l d o).2.length<=o.length+2*l.length:=by
   intro l
   induction l with
   |nil=>intro d o;simp[goP]
   |cons z l ih=>
    intro d o;rw[goP];split
    .split
     .have:=ih true o;simp;omega
     .have:=ih true (o++ [z]);simp at this⊢;omega
    .split
     .split
      .have:=ih true (o++ [e]);simp at this⊢;omega
      .have:=ih true (o++ [e]++ [z]);simp at this⊢;omega
     .have:=ih false (o++ [z]);simp at this⊢;omega
  have:=this l false [];simp at this;omega
 cases hd:(goP e l false []).1 with
 |true=>
  rw[hd,Wf rfl,Xbe]at hg;rw[hg];rfl
 |false=>
  rw[hd,Wc (by simp),Xbe]at hg;rw[Wq (by simp;omega)];simp only[Xbl,Wb,Xbc,hg]
theorem Wq6{R:Type}{rows:List Rw}{c:Int}{a1 a2 a3:Int}{a4:Bool}{a5:List Int}{a6:List Rw}{a7:List Int}{a8:List Rw}{a9:Y_KidRun}{az:List Y_KidRun}{K0:Int->Bool->List En->Option R}(hr:rows.length<=8)(hN:1048576<N):∀(dd j n:Nat) (b:List En),j+dd=rows.length->dd<n->Ris cfE b->b.length<=100+j->
  Zcq N a1 a2 c a3 a4 a5 a6 a7 a8 a9 rows az K0 n (j:Int) b=K0 (rows.length:Int) false (Wdv c b (rows.drop j)):=by
 intro dd
 induction dd with
 |zero=>
  intro j n b hj hn hb g0;obtain⟨n,rfl⟩:∃n',n=n'+1:=⟨n-1,by omega⟩;have:j=rows.length:=by omega
  subst this;simp only[Zcq,WS (Xm _),Wa,Xcb];rfl
 |succ dd ih=>
  intro j n b hj hn hb g0;obtain⟨n,rfl⟩:∃n',n=n'+1:=⟨n-1,by omega⟩;have ac:j<rows.length:=by omega
  have g2:Xc rows (Xa (j:Int)) ((0:Int),(0:Int))=rows[j]:=Ws ac _;simp only[Zcq,WK ac,Ww ac,g2,Wb];rw[Wo4 hb (by omega) hN];simp only[ret,Xd,Wm (show j<4611686018427387904 by omega)];have fy:=WmS (cf:=cfE) b ((rows[j].1,(rows[j].2,c)):En);rw[ih (j+1) n _ (by omega) (by omega) (Wcy Wvc hb) (by omega),Xay ac];rfl
theorem Wpb{R:Type}{z:Kd}{a0 a1 a2 a3:Int}{a4:Bool}{a5:List Int}{a6:List Rw}{a7:List En}{a8:List Int}{az:List Y_KidRun}{K0:Int->Bool->List Rw->Option R}(hs:z.seen.length<=100)(hv:∀e∈z.seen,-1<=e.2.2):∀(dd j n:Nat) (o:List Rw),j+dd=z.seen.length->dd<n->o.length<=1000+j->
  Zbk N a0 a1 a2 a3 a4 a5 a6 a7 a8 z.e az K0 n (j:Int) o=K0 (z.seen.length:Int) false (o++WaL (z.seen.drop j)):=by
 have e7:P7 z.e=z.seen:=rfl;intro dd
 induction dd with
 |zero=>
  intro j n o hj hn ho;obtain⟨n,rfl⟩:∃n',n=n'+1:=⟨n-1,by omega⟩;have:j=z.seen.length:=by omega
  subst this;simp only[Zbk,e7,WS (Xm _),Wa,Xcb];simp[WaL]
 |succ dd ih=>
  intro j n o hj hn ho;obtain⟨n,rfl⟩:∃n',n=n'+1:=⟨n-1,by omega⟩;have ac:j<z.seen.length:=by omega
  have g2:Xc z.seen (Xa (j:Int)) ((0:Int),((0:Int),(0:Int)))=z.seen[j]:=Ws ac _;have h1:=hv _ (Xv ac);have ay:∀x:Rw,Wz (o.length+ [x].length)=true:=λx=>Wq (by simp;omega);simp only[Zbk,Wk,e7,WK ac,Ww ac,g2,Wb,ay,Wm (show j<4611686018427387904 by omega),Xbc];rw[Xay ac];by_cases hz:z.seen[j].2.2= -1
  .rw[We (show z.seen[j].2.2<0 by omega),Wb,ih (j+1) n _ (by omega) (by omega) (by simp;omega)];unfold WaL;rw[Xfy (by simpa using hz),List.map_cons,List.append_assoc];rfl
  .rw[Wj (show¬z.seen[j].2.2<0 by omega),Wa,ih (j+1) n _ (by omega) (by omega) (by omega)];unfold WaL;rw[Xfx (by simpa using hz)]
theorem WlQ(hk:k<f.kids.length)(h3:f.kids.length<=3)(pA:code.length<=24)(hF:FOk codes n f)(bb:codes.getD k []=code)(aN:f.kids[k]=x)(hN:1048576<N):
  Zin N f.e x.e (k:Int)=some ((),((WhR f x k).1.e,((WhR f x k).2.e,()))):=by
 have hx:=hF.kid k hk;rw[bb,aN]at hx;have bH:=hx.pc;have mc:=hx.wl;have iN:=hx.sl;have xB:=hF.buf8;have me:f.order.length<=3:=by
  have h1:=hF.done;have:=List.countP_le_length (p:=λx:Kd=>decide (x.phase=3)) (l:=f.kids);omega
 have rQ:=hF.readsL;unfold Zin;have e8:P8 x.e=x.writes:=rfl;rw[e8,Wed (by omega) hN];simp only[ret,Xd];have c7:Wh .i64 f.e.2.1 1=f.clock+1:=Wap (by have:=hF.clock;show 0<=f.clock/\f.clock<=1000000;omega);have hP6:P6 f.e=f.buf:=rfl;have j7:=Wc0 x.writes;rw[c7,hP6,show(0:Int)=((0:Nat):Int)from rfl];rw[Wq6 (rows:=WcU x.writes) j7 hN (WcU x.writes).length 0 N _ (by omega) (by omega) hF.bufR (by omega)];have h8:P8 f.e=f.reads:=rfl;have h7:P7 f.e=f.order:=rfl;rw[h8,h7,Wq (by simp;omega)];simp only[Wb,Xbk,Xbc,Xbe];rw[Wpb (by omega) (λe he=>(hx.seen e he).2.2.1) x.seen.length 0 N _ (by omega) (by omega) (by omega)];rw[WcS (by omega)];simp only[ret,Xd,Xbk];rw[Wq (by simp;omega)];rfl
theorem Wmd(hk:k<f.kids.length)(h3:f.kids.length<=3)(hm:W0 m=true)(bT:KC code)(hF:FOk codes n f)(bb:codes.getD k []=code)(sL:codes.length<=3)(hn:n<=100000)(hN:1048576<N):
  Zdy N m f.e codes (k:Int)=some ((m,()),((Wgx m f k code).e,())):=by
 obtain⟨x,aN⟩:∃x,f.kids[k]=x:=⟨_,rfl⟩;have hx:=hF.kid k hk;rw[bb,aN]at hx;have ad:=hF.len;obtain⟨k0,k1,k2,k3,k4,k5,k6,k7,k8,k9,k10⟩:=kdP x;obtain⟨f0,f1,f2,f3,f4,f5,f6,f7,f8,f9⟩:=fmP f;unfold Zdy Wgx;rw[f3];by_cases hl:f.lost=true
 .rw[hl,Wf rfl];rfl
 have sX:f.lost=false:=by simpa using hl
 rw[sX,Wa,Wc (by simp),show f.kids.getD k {}=f.kids[k]from WD hk _,aN];have cy:Fm.put (f,x) k=f:=by unfold Fm.put;simp only;rw[←aN,Xbh]
 have rY:inb (k:Int) (f.kids.map Kd.e).length=true:=by rw[WF,Xu];exact We hk
 have wi:inb (k:Int) codes.length=true:=by rw[WF];exact We (by omega)
 have e2:Xc (f.kids.map Kd.e) (Xa (k:Int)) d_KidRun=x.e:=by
  have:=WnZ Kd.e f.kids k {};rw[WD hk,aN]at this;exact this
 have e3:U9 (f.kids.map Kd.e) f.e=f.e:=rfl;have ec:Xc codes (Xa (k:Int)) ([]:List Opn)=code:=by rw[Xl];exact bb
 have uA:decide ((k:Int)<0)=false:=Wj (by omega);have kR:decide ((k:Int)>=Wg (f.kids.map Kd.e))=false:=Wj (by unfold Wg;rw[Xu];omega);have fin:∀q:Fm×Kd,q.1.kids=f.kids->U9 (Xe (Q9 q.1.e) (Xa (k:Int)) q.2.e) q.1.e=(Fm.put q k).e:=λq hq=>by
  rw[Xl];exact U9e q.1 k q.2
 have tg:∀q:Fm,q.kids=f.kids->inb (k:Int) (Q9 q.e).length=true:=λq hq=>by
  show inb (k:Int) (q.kids.map Kd.e).length=true;rw[hq];exact rY
 have ay:Wz (([]:List Y_KidRun).length+(f.kids.map Kd.e).length)=true:=Wq (by simp;omega);simp only[Wk,Wam,f9,uA,kR,Wa,ay,Wb,Xbc,Xbe,rY,e2,k0,Wv];unfold Wj8;by_cases h0:x.phase=0
 .rw[Wf h0,Wf h0];simp only[wi,Wb,e3,ec];rw[WpB hk hm bT hF bb aN h0 hn hN];have jt:(WoT m f x code).1.kids=f.kids:=by
   unfold WoT;split
   .rfl
   .simp only;split
    .exact WkO m f x _
    .repeat' split
     all_goals rfl
  simp only[Xd,tg _ jt,Wb,fin _ jt]
 rw[Wc h0,Wc h0];by_cases h1:x.phase=1
 .rw[Wf h1,Wf h1];by_cases ho:f.owner=0
  .rw[Wf (show f.e.2.2.1=0 from ho),Wf ho];rw[show Wh .i64 (k:Int) 1=(k:Int)+1 from Wap (by omega)];exact Wn (λz=>some ((m,()),(z,()))) (fin ({f with owner:=(k:Int)+1},{x with phase:=2}) rfl)
  .rw[Wc (show¬f.e.2.2.1=0 from ho),Wc ho,cy];have:=fin (f,x) rfl;rw[cy]at this;exact Wn (λz=>some ((m,()),(z,()))) this
 rw[Wc h1,Wc h1];by_cases h2:x.phase=2
 .rw[Wf h2,Wf h2];simp only[k4,k7];by_cases hp:x.pos=x.seen.length
  .rw[Wf (show x.pos=Wg x.seen by unfold Wg;exact hp),Wf hp,e3,WlQ hk h3 bT.toCC.len hF bb aN hN];simp only[Xd,tg (WhR f x k).1 rfl,Wb,fin (WhR f x k) rfl]
  .rw[Wc (show¬x.pos=Wg x.seen by unfold Wg;exact hp),Wc hp];have fZ:=hx.pos;have tG:inb x.pos x.seen.length=true:=by unfold inb;simp;omega
   have hP6:P6 f.e=f.buf:=rfl;have xB:=hF.buf8;simp only[tG,Wb,e3];rw[Wir (show(P6 f.e).length<=1048576 by rw[hP6];omega) hN,hP6];have eg:Xc x.seen (Xa x.pos) ((0:Int),((0:Int),(0:Int)))=WbQ x.seen x.pos (0,0,0):=rfl;rw[eg];have pL:Zf3 N (U9 (f.kids.map Kd.e) (S2 (0:Int) f.e)) x.e=some ((Fm.e {f with owner:=0},()),((f.again x).e,())):=
    Wgy (f:=Fm.e {f with owner:=0}) (x:=x.e) hF.regs.len (by have:=hx.tries;show 0<=x.tries/\x.tries<=100000;omega)
   have i1:Wh .i64 x.pos 1=x.pos+1:=Wap (by have:=hx.sl;have:=hx.pc;have:=bT.toCC.len;omega);unfold WxF;rcases he:ent f.buf (WbQ x.seen x.pos (0,0,0)).1 with _|r
   all_goals
    simp only[ret,Xd,pL,Wv,i1]
   .by_cases hz:(-1:Int)=(WbQ x.seen x.pos (0,0,0)).2.2
    .rw[Wf hz,Wf hz];exact Wn (λz=>some ((m,()),(z,()))) (fin (f,{x with pos:=x.pos+1}) rfl)
    .rw[Wc hz,Wc hz,tg {f with owner:=0} rfl,Wb];have:=fin ({f with owner:=0},f.again x) rfl;rw[←this];show _=some ((m,()),((f.rv,(f.clock,((0:Int),(f.lost,(f.regs,(f.start,(f.buf,(f.order,(f.reads,Xe (f.kids.map Kd.e) (Xa (k:Int)) (f.again x).e))))))))),()));rfl
   .by_cases hz:r.2.2.2=(WbQ x.seen x.pos (0,0,0)).2.2
    .rw[Wf hz,Wf hz];exact Wn (λz=>some ((m,()),(z,()))) (fin (f,{x with pos:=x.pos+1}) rfl)
    .rw[Wc hz,Wc hz,tg {f with owner:=0} rfl,Wb];have:=fin ({f with owner:=0},f.again x) rfl;rw[←this];show _=some ((m,()),((f.rv,(f.clock,((0:Int),(f.lost,(f.regs,(f.start,(f.buf,(f.order,(f.reads,Xe (f.kids.map Kd.e) (Xa (k:Int)) (f.again x).e))))))))),()));rfl
 .rw[Wc h2,Wc h2,cy];have:=fin (f,x) rfl;rw[cy]at this;exact Wn (λz=>some ((m,()),(z,()))) this
end
section
abbrev FSc:=List Int×List Int×List Rw×List (List Opn)×List Int
variable{N:Nat}{s:FSc}{m:Mm}{f:Fm}{n:Int}
theorem Wpk{rv:Int}{regs:List Int}{writes:List Rw}{kids:Nat}(hr:regs.length<=1000)(hw:writes.length<=1000)(hk:kids<=3)(hN:1048576<N):
  Zk2 N rv regs writes (kids:Int)=ret (Wde rv regs writes kids).e:=by
 unfold Zk2;rw[WcS (by omega),Wed (by omega) hN];have hn:=Wc0 writes;simp only[ret,Xd];generalize hnet:WcU writes=nw at*;have ta:∀(b:List En) (dd j n:Nat) (o:List Y_KidRun),j+dd=kids->dd<n->o=Xp j (Kd.e {regs:=regs})->
   Zbo N regs (kids:Int) rv regs nw b (λuK uL iq=>(some ((),((rv,((0:Int),((0:Int),(false,(regs,(nw,(b,(([]:List Int),(([]:List Kc),iq))))))))),())))) n (j:Int) o=
   some ((),((rv,((0:Int),((0:Int),(false,(regs,(nw,(b,(([]:List Int),(([]:List Kc),Xp kids (Kd.e {regs:=regs})))))))))),())):=by
  intro b dd
  induction dd with
  |zero=>
   intro j n o hj sB ho;obtain⟨n,rfl⟩:∃n',n=n'+1:=⟨n-1,by omega⟩;have:j=kids:=by omega
   subst this;rw[Zbo,Wj (show¬(j:Int)<(j:Int) by omega),Wa,ho]
  |succ dd ih=>
   intro j n o hj sB ho;obtain⟨n,rfl⟩:∃n',n=n'+1:=⟨n-1,by omega⟩;rw[Zbo,We (show(j:Int)<(kids:Int) by omega),Wb,WcS (by omega)];simp only[ret,Xd];rw[Wq (by rw[ho];simp;omega),Wb,Wm (show j<4611686018427387904 by omega),Xbc];refine ih (j+1) n _ (by omega) (by omega) ?_;rw[ho,List.replicate_succ'];rfl
 have vZ:∀(dd j n:Nat) (o:List En),j+dd=nw.length->dd<n->o=(nw.take j).map (λr=>((r.1,r.2,0):En))->
   Zed N regs (kids:Int) rv nw regs nw (λzm uJ fj=>
  (Zbo N regs (kids:Int) rv regs nw fj
 (λuK uL iq=>
  (some ((),((rv,((0:Int),((0:Int),(false,(regs,(nw,(fj,(([]:List Int),(([]:List Kc),iq))))))))),()))))
 N (0:Int) ([]:List Y_KidRun))) n (j:Int) o=
   (Zbo N regs (kids:Int) rv regs nw (nw.map (λr=>((r.1,r.2,0):En)))
 (λuK uL iq=>
  (some ((),((rv,((0:Int),((0:Int),(false,(regs,(nw,(nw.map (λr=>((r.1,r.2,0):En)),(([]:List Int),(([]:List Kc),iq))))))))),()))))
 N (0:Int) ([]:List Y_KidRun)):=by
  intro dd
  induction dd with
  |zero=>
   intro j n o hj sB ho;obtain⟨n,rfl⟩:∃n',n=n'+1:=⟨n-1,by omega⟩;have:j=nw.length:=by omega
   subst this;simp only[Zed,WS (Xm _),Wa];rw[ho,List.take_length]
  |succ dd ih=>
   intro j n o hj sB ho;obtain⟨n,rfl⟩:∃n',n=n'+1:=⟨n-1,by omega⟩;have ac:j<nw.length:=by omega
   have g2:Xc nw (Xa (j:Int)) ((0:Int),(0:Int))=nw[j]:=Ws ac _;have ay:∀x:En,Wz (o.length+ [x].length)=true:=λx=>Wq (by rw[ho];simp;omega);simp only[Zed,WK ac,Ww ac,g2,Wb,ay,Wm (show j<4611686018427387904 by omega),Xbc];refine ih (j+1) n _ (by omega) (by omega) ?_;rw[ho,List.take_succ_eq_append_getElem ac,List.map_append];rfl
 refine(vZ nw.length 0 N [] (by omega) (by omega) (by simp)).trans ?_;have:=ta (nw.map (λr=>((r.1,r.2,0):En))) kids 0 N [] (by omega) (by omega) rfl;refine this.trans ?_;unfold Wde Fm.e;simp only[hnet,Xea]
end
section
variable{N:Nat}{w:Wo}{x:Rt}{k:Nat}{p:Pg}{n:Int}{o:Opn}{f:Fm}
theorem Wuk(h3:f.kids.length<=3)(hN:1048576<N):Zjw N f.e=ret (WcJ f):=by
 unfold Zjw;have hm:(f.kids.map Kd.e).length=f.kids.length:=by simp
 have e2:f.e.2.2.2.2.2.2.2.2.2=f.kids.map Kd.e:=rfl;have h1:=Wx (l:=f.kids.map Kd.e) (V:=Unit) (R:=Unit×Ko) (lp:=λn j v=>Zdg N f.e (some ((),(false,()))) (λi6 t7=>some ((),(true,()))) n j) (n:=N) (by omega)
  (body:=λj x v k=>bif x.1 !=(3:Int)then some ((),(false,()))else k v) (K:=λ_ v=>some ((),(true,())))
  (λn i v hi=>by simp only[Zdg,e2,WK hi,Ww hi,Ws hi,Wm (show i<4611686018427387904 by omega),Wb])
  (λn v=>by simp only[Zdg,e2,WS (Xm _),Wa]) ()
 refine h1.trans ?_;rw[W9 (p:=λx:Y_KidRun=>x.1 !=(3:Int)) (E:=λ_=>some ((),(false,()))) _ 0 () (λj x v k _=>rfl)];have h3:(f.kids.map Kd.e).any (λx=>x.1 !=3)= !WcJ f:=by
  unfold WcJ;rw[List.any_map,←Wbo];have:((λx:Y_KidRun=>x.1 !=3)∘Kd.e)= λx:Kd=>!decide (x.phase=3):=by
   funext x;show(x.phase !=3)= !decide (x.phase=3);by_cases h:x.phase=3<;>simp[h]
  rw[this]
 rw[h3];cases WcJ f<;>rfl
theorem WuK(h:f.buf.length<=1000)(hN:1048576<N):Zjy N f.e=ret (Whh f):=by
 unfold Zjy;have e:P6 f.e=f.buf:=rfl;have h1:=Wx (l:=f.buf) (V:=List Rw) (R:=Unit×(List Rw×Unit)) (lp:=λn j v=>Zdh N f.e (λi8 t9 cn=>(some ((),(cn,())))) n j v) (n:=N) (by omega)
  (body:=λj x v k=>bif Wz (v.length+ [(x.1,x.2.1)].length)then k (Xh v [(x.1,x.2.1)])else none) (K:=λ_ v=>ret v)
  (λn i v hi=>by simp only[Zdh,Wk,e,WK hi,Ww hi,Ws hi,Wm (show i<4611686018427387904 by omega),Wb])
  (λn v=>by simp only[Zdh,e,WS (Xm f.buf.length),Wa]) []
 refine h1.trans ?_;rw[Wca (f:=λx:En=>(x.1,x.2.1)) f.buf 0 [] (by simp;omega) (λj x v k _=>rfl)];rfl
theorem Wuu(hr:Vals 4 f.regs)(h3:f.kids.length<=3)(hx:∀x∈f.kids,x.regs.length<=1000)(hN:1048576<N):Zjx N f.e=ret (Wf4 f):=by
 unfold Zjx Wf4;have e:f.e.2.2.2.2.1=f.regs:=rfl;have e2:f.e.2.2.2.2.2.2.2.2.2=f.kids.map Kd.e:=rfl;have e9:Q9 f.e=f.kids.map Kd.e:=rfl;have mf:WcT f.regs=true:=Wco.2 hr;have hl:=hr.len;have hm:(f.kids.map Kd.e).length=f.kids.length:=by simp
 rw[e,e2,Wdz (by omega) hN,Wf ⟨mf,h3⟩];simp only[ret,Xd,mf,Xk,Wa];rw[Wj (by unfold Wg;omega),WcS (by omega)];simp only[ret,Xd,Wa];have h1:=Wx (l:=f.kids.map Kd.e) (V:=List Int) (R:=Unit×(List Int×Unit)) (lp:=λn j v=>Zbe N f.e (λgV cw bG=>(some ((),(bG,())))) n j v) (n:=N) (by omega)
  (body:=λj x v k=>bif inb j v.length then(bif P5 x==(1:Int)then((Zcj N (P6 x)).bind λcj=>(bif cj.2.1 then(bif inb 0 (P6 x).length then(bif inb j (Xe v j.toNat 0).length then k (Xe (Xe v j.toNat 0) j.toNat (Xc (P6 x) (Xa (0:Int)) 0))else none)else none)else k (Xe v j.toNat 0)))else k (Xe v j.toNat 0))else none) (K:=λ_ v=>ret v)
  (λn i v hi=>by simp only[Zbe,Wk,e9,WK hi,Ww hi,Ws hi,Wm (show i<4611686018427387904 by omega),Wb])
  (λn v=>by simp only[Zbe,e9,WS (Xm _),Wa]) f.regs
 refine h1.trans ?_;have h2:=Whp (β:=Int) (K:=λ_ v=>ret v) (f:=λx:Y_KidRun=>if P5 x=1/\WcT (P6 x)=true then WbQ (P6 x) 0 0 else 0) (f.kids.map Kd.e) [] f.regs (by omega) (body:=λj x v k=>bif inb j v.length then(bif P5 x==(1:Int)then((Zcj N (P6 x)).bind λcj=>(bif cj.2.1 then(bif inb 0 (P6 x).length then(bif inb j (Xe v j.toNat 0).length then k (Xe (Xe v j.toNat 0) j.toNat (Xc (P6 x) (Xa (0:Int)) 0))else none)else none)else k (Xe v j.toNat 0)))else k (Xe v j.toNat 0))else none)
  (λj x v k vU hj=>by
   obtain⟨y,hy,rfl⟩:=Xw.1 vU;have Ao:=hx y hy;have vW:P5 (Kd.e y)=y.out:=rfl;have p6:P6 (Kd.e y)=y.regs:=rfl;simp only[vW,p6,WF,We hj,Wb,Wdz (show y.regs.length<=1048576 by omega) hN,ret,Xd,Wv,Xl,Xat];by_cases h1:y.out=1
   .rw[Wf h1];cases mf:WcT y.regs
    .rw[Wc (by simp)];rfl
    .have:y.regs.length=4:=(Wco.1 mf).len;rw[Wf ⟨h1,rfl⟩,show inb (0:Int) y.regs.length=true by rw[this];rfl];simp only[Wb,Xct];rfl
   .rw[Wc h1,Wc (λh=>h1 h.1)])
 simp only[Xbz,Xbe,Xu,List.map_map]at h2;exact h2
theorem WuW(hp:POk p)(hx:RLive p n x)(h2:x.phase=2)(hN:1048576<N):Zps N x.e=ret (Whm x).e:=by
 obtain⟨r0,r1,r2,r3,r4,r5,r6,r7,r8,fv,eT,dU,dX,dY,eF,fO,fP,fw,fx,fQ,fR,fS⟩:=rtP x;have hc:=hp.code;obtain⟨z1,z2,z3,z4,z5,z6⟩:=hx.sz hc;obtain⟨f1,f2,f3⟩:=hx.fork h2;have bH:=hx.pc;have c7:=hc.len;have rW:x.fam.kids.length<=3:=by have:=f3.len;have:=hp.k3;omega
 have me:=f3.len3 hp.k3;have rQ:=f3.readsL;unfold Zps Whm;simp only[r3,dU,fx,fQ,fR,fS,Wgo,ret,Xd];rw[Wuk rW hN,Wuu f3.regs rW (λy hy=>by
  obtain⟨i,hi,rfl⟩:=List.getElem_of_mem hy;rw[(f3.kid i hi).regs.len];omega) hN,WuK (by have:=f3.buf8;omega) hN,Wq (show([]:List Rw).length+x.reads.length<=_ by simp;omega),Wq (by simp;omega),WcS (by omega),Wap (by omega),Wdp]
 by_cases hl:x.fam.lost=true
 .rw[Wf hl,Wf hl]
 .rw[Wc hl,Wc hl];simp only[ret,Xd,Wb];cases ho:WcJ x.fam
  .rw[Wc (by simp)];rfl
  .rw[Wf rfl];rfl
theorem Wri(hc:CC p.1)(hx:RLive p n x)(h3:x.phase=3)(hu:∀u∈x.undos,UnV u)(hs:ShOk w.shelf)(hN:1048576<N):Zm7 N w.e x.e=some ((),((WbC w x).1.e,((WbC w x).2.e,()))):=by
 obtain⟨r0,r1,r2,r3,r4,r5,r6,r7,r8,fv,eT,dU,dX,dY,eF,fO,fP,fw,fx,fQ,fR,fS⟩:=rtP x;obtain⟨z1,z2,z3,z4,z5,z6⟩:=hx.sz hc;have hz:=hx.back (.inl h3);obtain⟨m,q,e1,e2,⟨eW,gX⟩,e4,e5,e6,e7,e8,e9,jU,kq,jE,jF,iJ⟩:=hx.mk24 hc hz;obtain⟨a,b,c,d⟩:=Wbs hz (by omega) zRM;have b':Xc x.marks (Xa (WU .i64 (Wg x.marks) 1)) ((0:Int),((0:Int),((0:Int),((0:Int),([]:List Int)))))=x.last:=b;unfold Zm7 WbC;rw[dY,eF,a,b'];simp only[Wb,WV];by_cases fT:Wg x.undos>x.last.2.2.2.1
 .rw[Wf fT,Wf (show(x.undos.length:Int)>x.last.2.2.2.1 from fT),Wl5 (by unfold Wg at fT;omega) (by omega) hu hs hN];rfl
 .rw[Wc fT,Wc (show¬(x.undos.length:Int)>x.last.2.2.2.1 from fT)];rfl
theorem WqW(hp:POk p)(hx:RLive p n x)(h4:x.phase=4)(hm:W0 w.mem=true):
  Zc1 N w.e x.e=some ((w.e,()),((Wb4 w x).e,())):=by
 obtain⟨r0,r1,r2,r3,r4,r5,r6,r7,r8,fv,eT,dU,dX,dY,eF,fO,fP,fw,fx,fQ,fR,fS⟩:=rtP x;have hc:=hp.code;obtain⟨z1,z2,z3,z4,z5,z6⟩:=hx.sz hc;have hz:=hx.back (.inr h4);obtain⟨m,q,e1,e2,⟨eW,gX⟩,e4,e5,e6,e7,e8,e9,jU,kq,jE,jF,iJ⟩:=hx.mk24 hc hz;obtain⟨a,b,c,d⟩:=Wbs hz (by omega) zRM;have b':Xc x.marks (Xa (WU .i64 (Wg x.marks) 1)) ((0:Int),((0:Int),((0:Int),((0:Int),([]:List Int)))))=x.last:=b;have cy:=hx.pos h4;have bH:=hx.pc;have c7:=hc.len;unfold Zc1 Wb4;simp only[Wk];rw[dY,a,b'];simp only[Wb,ret,Xd,r4,r5,r6,dU,dX,WV,Wgo,show w.e.2.2.1.2=w.mem.2 from rfl];by_cases ac:x.pos<x.last.2.1
 .rw[Wf ac,Wf ac];have hj:x.pos.toNat<x.reads.length:=by omega
  have dB:inb x.pos x.reads.length=true:=by unfold inb;simp;omega
  have hg:Xc x.reads (Xa x.pos) ((0:Int),(0:Int))=WbQ x.reads x.pos (0,0):=rfl;have hv:0<=(WbQ x.reads x.pos (0,0)).1/\(WbQ x.reads x.pos (0,0)).1<=7:=by
   unfold WbQ;rw[WD hj];exact(hx.reads _ (Xv hj)).1
  rw[dB,hg,Wcg hm hv,show Xc w.mem.2 (Xa (WbQ x.reads x.pos (0,0)).1) ((0:Int),((0:Int),(0:Int)))=Waz w.mem (WbQ x.reads x.pos (0,0)).1 from rfl,Wap (by omega)];simp only[Wb,Wat];by_cases a:(Waz w.mem (WbQ x.reads x.pos (0,0)).1).2.2=0
  .rw[Wf a];by_cases b:(Waz w.mem (WbQ x.reads x.pos (0,0)).1).2.1>x.rv
   .rw[Wf b,Wf (.inr b)]
   .rw[Wc b,Wc (by omega)];rfl
  .rw[Wc a,Wf (.inl a)]
 .rw[Wc ac,Wc ac];have b1:(decide ((0:Int)<=x.last.2.1)&&decide (x.last.2.1<=(x.reads.length:Int)))=true:=by simp;omega
  have b2:(decide ((0:Int)<=x.last.2.2.1)&&decide (x.last.2.2.1<=(x.writes.length:Int)))=true:=by simp;omega
  rw[b1,b2,Wq (by simp;omega),Wq (by simp;omega),WcS (by rw[e9.len];omega),Wap (by omega)];simp only[Wb,ret,Xd];rfl
theorem WrC(gW:k<=8)(jK:CmOk x.cm)(hm:W0 w.mem=true)(hh:w.hist.length<=500000)(hN:1048576<N):
  Zm8 N w.e x.e (k:Int)=some ((),((Wbp w x k).1.e,((Wbp w x k).2.e,()))):=by
 obtain⟨r0,r1,r2,r3,r4,r5,r6,r7,r8,fv,eT,dU,dX,dY,eF,fO,fP,fw,fx,fQ,fR,fS⟩:=rtP x;have bv:=Wix jK hm;unfold Zm8 Wbp;simp only[Wk];rw[Wap (by omega)];simp only[r7,fv,fw,show w.e.2.2.1=w.mem from rfl,show Q6 w.e=w.hist from rfl];rw[Wdp];by_cases hd:x.doomed=true
 .rw[Wf hd,Wf hd];obtain⟨b,hb⟩:=Wnu (N:=N) jK hN;rw[hb];simp only[Xd,Wv,show(Wbk x.cm).e.2.2.1=(Wbk x.cm).phase from rfl];by_cases h8:(Wbk x.cm).phase=8
  .rw[Wf h8];simp only[Wf h8];rfl
  .rw[Wc h8];simp only[Wc h8];rfl
 .rw[Wc hd,Wc hd,Wo1 jK hm hN];simp only[Xd];obtain⟨m',c',hq⟩:∃m' c',Wdu w.mem x.cm=(m',c'):=⟨_,_,rfl⟩;rw[hq]at bv⊢;simp only at bv⊢;have hS:S20 c'.e x.e=Rt.e {x with cm:=c'}:=rfl;have fy:=bv.1.plen;rw[hS,Wgo,Wq (show([]:List Rw).length+(P5 c'.e).length<=_ by show 0+c'.puts.length<=1073741824;omega),Wq (by simp;omega)];simp only[ret,Xd,Wb,Wv,WV,show c'.e.2.2.1=c'.phase from rfl,show(Cm.e x.cm).2.2.1=x.cm.phase from rfl,show P4 c'.e=c'.wv from rfl];unfold WmZ;simp only;by_cases h3:x.cm.phase<=3
  .rw[Wf h3];by_cases h4:c'.phase=4
   .rw[Wf h4,Wc (by omega),Wc (by omega),Wf (show x.cm.phase<=3/\c'.phase=4 from⟨h3,h4⟩),Wc (by omega),Wc (by omega)];rfl
   .rw[Wc h4,Wc (show¬(x.cm.phase<=3/\c'.phase=4)fromλh=>h4 h.2)];by_cases h8:c'.phase=8
    .rw[Wf h8,Wf h8];rfl
    .rw[Wc h8,Wc h8];by_cases h6:c'.phase=6
     .rw[Wf h6,Wf h6];by_cases h2:x.fate=2
      .rw[Wf h2,Wf h2];rfl
      .rw[Wc h2,Wc h2];rfl
     .rw[Wc h6,Wc h6];rfl
  .rw[Wc h3,Wc (show¬(x.cm.phase<=3/\c'.phase=4)fromλh=>h3 h.1)];by_cases h8:c'.phase=8
   .rw[Wf h8,Wf h8];rfl
   .rw[Wc h8,Wc h8];by_cases h6:c'.phase=6
    .rw[Wf h6,Wf h6];by_cases h2:x.fate=2
     .rw[Wf h2,Wf h2];rfl
     .rw[Wc h2,Wc h2];rfl
    .rw[Wc h6,Wc h6];rfl
end
section
variable{N:Nat}{w:Wo}{x:Rt}{k:Nat}{p:Pg}{n:Int}{o:Opn}{f:Fm}{s:Sc}{a:Ac}
theorem Wv5(gW:k<=8)(hp:POk p)(hx:RLive p n x)(hu:∀u∈x.undos,UnV u)(hm:W0 w.mem=true)(hs:ShOk w.shelf)(hh:HOk w.holds)(hN:1048576<N):
  Zqo N w.e x.e (k:Int) p=some ((),((WoW w x k p).1.e,((WoW w x k p).2.e,()))):=by
 obtain⟨r0,r1,r2,r3,r4,r5,r6,r7,r8,fv,eT,dU,dX,dY,eF,fO,fP,fw,fx,fQ,fR,fS⟩:=rtP x;have hc:=hp.code;obtain⟨z1,z2,z3,z4,z5,z6⟩:=hx.sz hc;have bH:=hx.pc;have c7:=hc.len;have cE:=hx.regs.len;unfold Zqo WoW;simp only[Wk,Wam];simp only[r3,r4,eT,dU,dX,dY,eF,WV,Wv];by_cases dG:x.pc>=p.1.length
 .rw[Wf (show x.pc=Wg p.1 by unfold Wg;omega),Wf dG,Wnk gW hh hx.rv z5 z6 hN];rfl
 .rw[Wc (show¬x.pc=Wg p.1 by unfold Wg;omega),Wc dG];obtain⟨j,hj,ej,eo⟩:=WjA (l:=p.1) bH.1 (by omega);have py:Xc p.1 (Xa x.pc) ((0,0,0,0):Opn)=opN p.1 x.pc:=rfl;have dB:inb x.pc p.1.length=true:=by grind [WF,decide_eq_true]
  rw[dB];obtain⟨ok,o1,jd⟩:=hc.ok j hj;simp only[Wb,py];rw[←eo]at ok o1 jd;rw[Wap (show 0<=x.pc/\x.pc<=1000000 by omega)];have mg:(opN p.1 x.pc).1=9->x.marks.length≠0:=λh9 hz=>by
   have h1:=Wn Xb hx.marks.pcs;simp only[Xu,hz]at h1;have h2:=Wa3 hc.up j (by omega);have h3:=hc.up j hj
   grind [WaD,Wl7,Xl]
  generalize opN p.1 x.pc=o at*;by_cases h5:o.1=5
  .rw[Wf h5,Wf h5,WuH hc hx hm h5 ok hN];rfl
  rw[Wc h5,Wc h5];by_cases h6:o.1=6
  .rw[Wf h6,Wc (by omega),Wc (by omega),Wc (by omega),Wf h6,WT (WwB ok h6).2 cE,Wq (show(Xh ([]:List Rw) x.writes).length+_<=_ by simp;omega),Wq (by simp;omega)];simp only[Wb,Wam];rfl
  rw[Wc h6];by_cases h7:o.1=7
  .rw[Wf h7];have h:=Wwz ok h7;rw[WT h.1 cE,WJ (a:=x.pc) (b:=o.2.2.1) (by unfold I64;omega),Wap (a:=x.pc+o.2.2.1) (by omega)];have qd:¬o.1=10:=by omega
   have xE:¬o.1=11:=by omega
   have oH:¬o.1>=12:=by omega
   by_cases hg:Xc x.regs (Xa o.2.1) 0=0
   .rw[Wf hg,Wc qd,Wc xE,Wc oH,Wc h6,Wf h7,Wf (show WbQ x.regs o.2.1 0=0 from hg)];rfl
   .rw[Wc hg,Wc qd,Wc xE,Wc oH,Wc h6,Wf h7,Wc (show¬WbQ x.regs o.2.1 0=0 from hg)];rfl
  rw[Wc h7];by_cases h8:o.1=8
  .rw[Wf h8,Wc (by omega),Wc (by omega),Wc (by omega),Wc h6,Wc h7,Wf h8,WcS (by omega)];simp only[ret,Xd];rw[Wq (show([]:List RM).length+x.marks.length<=_ by simp;omega),Wq (by simp;omega)];rfl
  rw[Wc h8];by_cases h9:o.1=9
  .rw[Wf h9,Wc (by omega),Wc (by omega),Wc (by omega),Wc h6,Wc h7,Wc h8,Wf h9];have hz:=mg h9;obtain⟨a,b,c,d⟩:=Wbs hz (by omega) zRM;have b':Xc x.marks (Xa (WU .i64 (Wg x.marks) 1)) ((0:Int),((0:Int),((0:Int),((0:Int),([]:List Int)))))=x.last:=b;obtain⟨m,q,e1,e2,⟨eW,gX⟩,e4,e5,e6,e7,e8,e9,jU,kq,jE,jF,iJ⟩:=hx.mk24 hc hz;rw[b',d,c,a,e2,WF,We eW,WcS (by omega)];have o1:Xc p.1 (Xa ((m:Nat):Int)) ((0,0,0,0):Opn)=opN p.1 (m:Int):=rfl;have hr:=Wvk (hc.ok m eW).1 gX;rw[←WeM eW]at hr;simp only[Wb,o1,ret,Xd];rw[WT hr cE,Wq (by simp;omega)];rfl
  rw[Wc h9];by_cases cS:o.1=10
  .rw[Wf cS,Wf cS];unfold Wi3;by_cases hz:x.marks.length=0
   .rw[Wf (show Wg x.marks=0 by unfold Wg;omega),Wf hz,Wnk gW hh hx.rv z5 z6 hN];rfl
   .rw[Wc (show¬Wg x.marks=0 by unfold Wg;omega),Wc hz];obtain⟨a,b,c,d⟩:=Wbs hz (by omega) zRM;have b':Xc x.marks (Xa (WU .i64 (Wg x.marks) 1)) ((0:Int),((0:Int),((0:Int),((0:Int),([]:List Int)))))=x.last:=b;obtain⟨m,q,e1,e2,⟨eW,gX⟩,e4,e5,e6,e7,e8,e9,jU,kq,jE,jF,iJ⟩:=hx.mk24 hc hz;rw[b',a];simp only[Wb];by_cases fT:Wg x.undos>x.last.2.2.2.1
    .rw[Wf fT,Wf (show(x.undos.length:Int)>x.last.2.2.2.1 from fT),Wl5 (by unfold Wg at fT;omega) (by omega) hu hs hN];rfl
    .rw[Wc fT,Wc (show¬(x.undos.length:Int)>x.last.2.2.2.1 from fT)];rw[d,c,WcS (by rw[e9.len];omega),e2,WF,We eW];have o1:Xc p.1 (Xa ((m:Nat):Int)) ((0,0,0,0):Opn)=opN p.1 (m:Int):=rfl;have hr:=Wvk (hc.ok m eW).1 gX;rw[←WeM eW]at hr;simp only[Wb,ret,Xd,o1];rw[WT hr e9.len,Wq (by simp;omega)];have b2:(decide ((0:Int)<=x.last.2.2.1)&&decide (x.last.2.2.1<=(x.writes.length:Int)))=true:=by simp;omega
     rw[b2];simp only[Wb];rw[Wq (by simp;omega),WjE (by omega) hN ⟨eW,gX⟩ e5];simp only[ret,Xd,Wb];rw[Wap (by have:=e5.len;omega)];rfl
  rw[Wc cS,Wc cS];by_cases gQ:o.1=11
  .rw[Wf gQ,Wf gQ,show Wg p.2=((p.2.length:Nat):Int)from rfl,Wpk (by omega) (by omega) hp.k3 hN];rfl
  rw[Wc gQ,Wc gQ];by_cases eS:o.1>=12
  .rw[Wf eS];have hb:=WsS (w:=w) gW hc hx ok eS hs hh hN;have:o.1=12\/o.1=13\/o.1=14\/o.1=15\/o.1=16:=by omega
   rcases this with h|h|h|h|h
   .rw[Wf h,Wf h,hb];rfl
   .rw[Wc (by omega),Wf h,Wf h,hb];rfl
   .rw[Wc (by omega),Wc (by omega),Wf h,Wf h,hb];rfl
   .rw[Wc (by omega),Wc (by omega),Wc (by omega),Wf h,Wf h,hb];rfl
   .rw[Wc (by omega),Wc (by omega),Wc (by omega),Wc (by omega),Wf h,hb];rfl
  .rw[Wc eS,Wc (show¬o.1=12 by omega),Wc (show¬o.1=13 by omega),Wc (show¬o.1=14 by omega),Wc (show¬o.1=15 by omega),Wc (show¬o.1=16 by omega),Wc h6,Wc h7,Wc h8,Wc h9,WhA hN ok (by omega) (by omega) hx.regs];rfl
end
section
variable{N:Nat}{w:Wo}{x:Rt}{k:Nat}{p:Pg}{n:Int}{o:Opn}{f:Fm}{s:Sc}{a:Ac}
theorem Wuf:Zpp N x.e=ret (!(decide (x.phase=0)||decide (x.phase=8))):=by
 unfold Zpp;simp only[show x.e.1=x.phase from rfl];by_cases h0:x.phase=0
 .rw[h0];rfl
 .rw[show(x.phase !=0)=true by simpa using h0,Wj h0];by_cases h8:x.phase=8
  .rw[h8];rfl
  .rw[show(x.phase !=8)=true by simpa using h8,Wj h8];rfl
theorem WpJ{R:Type}{l:List Rt}{b6 b7 b8 b9:Int}{aP:Y_Root}{cH:List Kb}{cA:List Int}{dj:List Kb}{fo:List Kn}{K0 K1:Option R}(hk:k<=1000)(hl:l.length<=1000):∀(d j n:Nat),j+d=l.length->d<n->
  Zaa N (k:Int) b6 b7 b8 b9 aP cH cA dj (l.map Rt.e) fo K0 (λ_ _=>K1) n (j:Int)=if b7=(k:Int)+1/\WaJ k (l.drop j) j=false then K0 else K1
 |d,j,0,_,h=>by omega
 |0,j,n+1,hj,_=>by
  rw[Zaa,show(j:Int)=(((l.map Rt.e).length:Nat):Int) by simp;omega,WS (Xm _),Wa,Wc (λz=>by
   have:=z.2;rw[List.drop_of_length_le (by omega)]at this;cases this)]
 |d+1,j,n+1,hj,hn=>by
  have ac:j<(l.map Rt.e).length:=by simp;omega
  have ii:j<l.length:=by omega
  have ih:=WpJ (b6:=b6) (b7:=b7) (b8:=b8) (b9:=b9) (aP:=aP) (cH:=cH) (cA:=cA) (dj:=dj) (fo:=fo) (K0:=K0) (K1:=K1) hk hl d (j+1) n (by omega) (by omega);rw[Zaa];simp only[WK ac,Ww ac,Ws ac,Wm (show j<4611686018427387904 by omega),Wb,List.getElem_map,Wuf,ret,Xd,Wap (show 0<=(k:Int)/\(k:Int)<=1000000 by omega),ih,Wv,Wat];rw[Xay ii,WaJ];by_cases ht:b7=(k:Int)+1
  .rw[Wf ht];by_cases gR:j=k
   .rw[Wf (by omega),We gR];simp
   .rw[Wc (by omega),Wj gR];cases(decide (l[j].phase=0)||decide (l[j].phase=8))
    .simp[ht]
    .simp
  .rw[Wc ht,Wc (λz=>ht z.1),Wc (λz=>ht z.1)]
theorem WtI(gW:k<=8)(gY:w.roots.length<=8)(hN:1048576<N):Zjt N w.e x.e (k:Int)=some ((),((WeU w x k).1.e,((WeU w x k).2.e,()))):=by
 have ay:(((decide ((0:Int)<=(4:Int)))&&(decide ((4:Int)<=(4:Int))))&&(Wz (Xa (4:Int))))=true:=rfl;have lp:=λ(K0 K1:Option (Unit×(Y_World×(Y_Root×Unit))))=>WpJ (N:=N) (l:=w.roots) (k:=k) (b6:=w.e.1) (b7:=w.token) (b8:=w.e.2.2.1.1) (b9:=w.e.2.2.2.1.2) (aP:=x.e) (cH:=w.e.2.2.1.2) (cA:=w.e.2.2.2.1.1) (dj:=P4 w.e) (fo:=Q6 w.e) (K0:=K0) (K1:=K1) (by omega) (by omega) w.roots.length 0 N (by omega) (by omega);rw[Xbk]at lp;unfold Zjt WeU;simp only[Wam,ay,Wb,Wap (show 0<=(k:Int)/\(k:Int)<=1000000 by omega),Wv,Wat,WV,show w.e.2.1=w.token from rfl,show x.e.2.1=x.tries from rfl,show P5 w.e=w.roots.map Rt.e from rfl];have AD:∀(K0 K1:Option (Unit×(Y_World×(Y_Root×Unit)))),Zaa N (k:Int) w.e.1 w.token w.e.2.2.1.1 w.e.2.2.2.1.2 x.e w.e.2.2.1.2 w.e.2.2.2.1.1 (P4 w.e) (w.roots.map Rt.e) (Q6 w.e) K0 (λ_ _=>K1) N 0=if w.token=(k:Int)+1/\WaJ k w.roots 0=false then K0 else K1:=lp;simp only[AD];by_cases t0:w.token=0
 .rw[Wf t0];rw[Wc (show¬(w.token≠0/\w.token≠(k:Int)+1) by omega)];by_cases ht:x.tries>=3
  .rw[Wf ht,Wf t0,Wf ⟨ht,t0⟩];rfl
  .rw[Wc ht,Wc (show¬(x.tries>=3/\w.token=0)fromλh=>ht h.1),Wc (show¬(w.token=(k:Int)+1/\WaJ k w.roots 0=false) by omega),Wc (show¬(w.token=(k:Int)+1/\WaJ k w.roots 0=false) by omega)];rfl
 .rw[Wc t0];by_cases t1:w.token=(k:Int)+1
  .rw[Wf t1,Wc (show¬(w.token≠0/\w.token≠(k:Int)+1) by omega),Wc (show¬(x.tries>=3/\w.token=0) by omega),Wc t0];have hc:∀(A:Option (Unit×(Y_World×(Y_Root×Unit)))),(if x.tries>=3 then A else A)=A:=λA=>by split<;>rfl
   rw[hc];by_cases ho:WaJ k w.roots 0=false
   .rw[Wf ⟨t1,ho⟩];simp only[Wf (show w.token=(k:Int)+1/\WaJ k w.roots 0=false from⟨t1,ho⟩)]
   .rw[Wc (λz=>ho z.2)];simp only[Wc (show¬(w.token=(k:Int)+1/\WaJ k w.roots 0=false)fromλz=>ho z.2)];rfl
  .rw[Wc t1,Wf ⟨t0,t1⟩]
theorem Wsr{q:Wo×Rt}(hk:k<w.roots.length)(hr:q.1.roots=w.roots):(bif inb (k:Int) (Xb (P5 q.1.e))then some ((),((S5 (Xe (P5 q.1.e) (Xa (k:Int)) q.2.e) q.1.e),()))else none)=ret (Wo.put q k).e:=by
 rw[show P5 q.1.e=q.1.roots.map Rt.e from rfl,Ww (by rw[Xu,hr];exact hk),Xl,S5e];rfl
theorem WqX{q:Wo×Rt}{r:Option (Unit×(Y_World×(Y_Root×Unit)))}(hk:k<w.roots.length)(hr:q.1.roots=w.roots)(e:r=some ((),(q.1.e,(q.2.e,())))):
  (r.bind λaa=>(bif inb (k:Int) (Xb (P5 aa.2.1))then some ((),((S5 (Xe (P5 aa.2.1) (Xa (k:Int)) aa.2.2.1) aa.2.1),()))else none))=ret (Wo.put q k).e:=by
 rw[e];exact Wsr hk hr
theorem Wpn:(WeU w x k).1.roots=w.roots:=by
 unfold WeU
 repeat' split
 all_goals rfl
theorem Wlq:(Wbp w x k).1.roots=w.roots:=by
 unfold Wbp;split<;>rfl
theorem WlH:(WbC w x).1.roots=w.roots:=by
 unfold WbC;split<;>rfl
theorem WuZ(hk:k<w.roots.length)(aN:w.roots[k]=x)(gY:w.roots.length<=8)(hp:POk p)(h:GOk w)(hx:ROk p n x)(hn:0<=n/\n<=200000)(hh:w.hist.length<=500000)(hN:1048576<N):
  Zm0 N w.e p (k:Int)=ret (Wo.put (Wht w x k p) k).e:=by
 obtain⟨g1,g2,g3,g4,g5⟩:=woG hk aN;obtain⟨r0,r1,r2,r3,r4,r5,r6,r7,r8,fv,eT,dU,dX,dY,eF,fO,fP,fw,fx,fQ,fR,fS⟩:=rtP x;have pC:k<=8:=by omega
 have AA:=hx.tries;have v8:=hx.ul;have pP:=Wep h.holds;have P5w:P5 w.e=w.roots.map Rt.e:=rfl;unfold Zm0 Wht;simp only[Wk];rw[P5w,g4,g2];simp only[r0,fv,eF,Wb,Wv];rw[Wdp];have mi:∀A:Option (Unit×(Y_World×Unit)),A=ret (Wo.put (
   if x.phase=0 then WeU w x k else
   if x.phase=1 then WoW w x k p else
   if x.phase=2 then(w,Whm x)else
   if x.phase=3 then WbC w x else
   if x.phase=4 then(w,Wb4 w x)else
   if x.phase=5 then Wbp w x k else
   if x.phase=6 then(if x.undos.length>0 then WeN w x else(w,{x with phase:=7}))else
   if x.phase=7 then
    (if x.fate=0 then({w with holds:=WW w.holds ((k:Int)+1)},{tries:=x.tries+1})
     else Wk5 {w with holds:=WW w.holds ((k:Int)+1)} x k)
   else(w,x)) k).e->(if x.doomed=true then((Zf N x.phase 1 4).bind λah=>bif ah.2.1 then((Za7 N x.e).bind λaa=>some ((),((S5 (Xe (w.roots.map Rt.e) (Xa (k:Int)) aa.2.1) w.e),())))else A)else A)=ret (Wo.put (
   if x.doomed=true/\1<=x.phase/\x.phase<=4 then(w,Wgf x)else
   if x.phase=0 then WeU w x k else
   if x.phase=1 then WoW w x k p else
   if x.phase=2 then(w,Whm x)else
   if x.phase=3 then WbC w x else
   if x.phase=4 then(w,Wb4 w x)else
   if x.phase=5 then Wbp w x k else
   if x.phase=6 then(if x.undos.length>0 then WeN w x else(w,{x with phase:=7}))else
   if x.phase=7 then
    (if x.fate=0 then({w with holds:=WW w.holds ((k:Int)+1)},{tries:=x.tries+1})
     else Wk5 {w with holds:=WW w.holds ((k:Int)+1)} x k)
   else(w,x)) k).e:=λA hA=>by
  by_cases hd:x.doomed=true
  .rw[Wf hd,WcK];simp only[ret,Xd];by_cases gw:1<=x.phase/\x.phase<=4
   .rw[We gw.1,We gw.2,Wf ⟨hd,gw⟩,Xl,Wgo];simp only[Xao,Wb,ret,Xd];rw[S5e];rfl
   .have hb:(decide (1<=x.phase)&&decide (x.phase<=4))=false:=by
     rw[Xck,Wt,Wt];omega
    rw[hb,Wc (λz=>gw z.2),Wa];exact hA
  .rw[Wc hd,Wc (λz=>hd z.1)];exact hA
 refine mi _ ?_;have p5:∀y:Y_Root,(some ((),((S5 (Xe (w.roots.map Rt.e) (Xa (k:Int)) y) w.e),())):Option (Unit×(Y_World×Unit)))=ret (S5 (Xe (w.roots.map Rt.e) k y) w.e):=λy=>by rw[Xl]
 by_cases h0:x.phase=0
 .rw[Wf h0,Wf h0];exact WqX hk Wpn (WtI pC gY hN)
 rw[Wc h0,Wc h0];by_cases h1:x.phase=1
 .rw[Wf h1,Wf h1];exact WqX hk (Wsi hp h hx h1 pC hn.1).roots (Wv5 pC hp (hx.live (by omega)) hx.undos h.mem h.shelf h.holds hN)
 rw[Wc h1,Wc h1];by_cases h2:x.phase=2
 .rw[Wf h2,Wf h2,WuW hp (hx.live (by omega)) h2 hN];simp only[ret,Xd];rw[Xl,S5e];rfl
 rw[Wc h2,Wc h2];by_cases h3:x.phase=3
 .rw[Wf h3,Wf h3];exact WqX hk WlH (Wri hp.code (hx.live (by omega)) h3 hx.undos h.shelf hN)
 rw[Wc h3,Wc h3];by_cases h4:x.phase=4
 .rw[Wf h4,Wf h4,WqW hp (hx.live (by omega)) h4 h.mem];exact Wsr (q:=(w,Wb4 w x)) hk rfl
 rw[Wc h4,Wc h4];by_cases h5:x.phase=5
 .rw[Wf h5,Wf h5];exact WqX hk Wlq (WrC pC (hx.comm h5) h.mem hh hN)
 rw[Wc h5,Wc h5];by_cases h6:x.phase=6
 .rw[Wf h6,Wf h6];simp only[WV];by_cases hz:Wg x.undos>0
  .have nY:x.undos.length>0:=by unfold Wg at hz;omega
   rw[Wf hz,Wf nY];exact WqX hk rfl (Wl5 (by omega) (by omega) hx.undos h.shelf hN)
  .have nY:¬x.undos.length>0:=by unfold Wg at hz;omega
   rw[Wc hz,Wc nY,p5];exact Wn ret (S5e w k {x with phase:=7})
 rw[Wc h6,Wc h6];by_cases h7:x.phase=7
 .rw[Wf h7,Wf h7];refine WqX hk ?_ ?_
  .split<;>rfl
  .unfold Zr8;have hS4:S4 (WW w.holds ((k:Int)+1)) w.e=Wo.e {w with holds:=WW w.holds ((k:Int)+1)}:=rfl;rw[show P4 w.e=w.holds from rfl,Wap (by omega),Wjb h.holds (by omega) hN,r7,r1];simp only[ret,Xd,Wv,hS4];rw[Wty (by omega),Wap (by omega)];by_cases hf:x.fate=0
   .rw[Wf hf];simp only[Wf hf];rfl
   .rw[Wc hf];simp only[Wc hf];rfl
 .rw[Wc h7,Wc h7,p5,g5,Wmx hk aN]
end
section

end
section
section
variable{N:Nat}{s:Sc}{p:Pg}{w:Wo}{n:Int}{a:Ac}{k:Nat}
end
variable{N:Nat}{s:Sc}{w:Wo}{n:Int}{a:Ac}
end
section
variable{N:Nat}{w:Wo}{x:Rt}{k:Nat}{p:Pg}{n:Int}{o:Opn}{f:Fm}{s:Sc}{a:Ac}{m:Mm}
theorem WsY{codes:List (List Opn)}{j:Int}(hl:f.kids.length=codes.length)(hj:¬(0<=j/\j<codes.length)):Zdy N m f.e codes j=some ((m,()),(f.e,())):=by
 unfold Zdy;rw[Wdp];split
 .rfl
 .by_cases h0:j<0
  .rw[We h0];rfl
  .rw[Wj h0,Wa,We (show j>=Wg (Q9 f.e) by rw[show Q9 f.e=f.kids.map Kd.e from rfl];unfold Wg;rw[Xu];omega)];rfl
theorem Woy(h:WOk s.2.1 n w)(hn:n<=99999)(hN:1048576<N):Ze9 N w.e s a=ret (WmH s w a).e:=by
 have ht:=h.tick;have wa:=h.now;have sA:=h.n0;have gY:w.roots.length<=4:=by rw[h.len];exact h.l4
 unfold Ze9 WmH;simp only[Wk];rw[show P5 w.e=w.roots.map Rt.e from rfl,show w.e.1=w.now from rfl,Wap (by omega)];have ad:Wg s.2.1=(w.roots.length:Int):=by unfold Wg;rw[h.len]
 rw[ad,WQ (by unfold I64;omega)];simp only[WcK,ret,Xd];by_cases hb:0<=a.2.1/\a.2.1<w.roots.length
 .rw[Wf hb,We hb.1,We (show a.2.1<=(w.roots.length:Int) -1 by omega)];obtain⟨k,wc⟩:∃k:Nat,a.2.1=k:=⟨a.2.1.toNat,by omega⟩;have hk:k<w.roots.length:=by omega
  obtain⟨x,aN⟩:∃x,w.roots[k]=x:=⟨_,rfl⟩;have hx:=h.root k hk;rw[aN]at hx;have jL:k<s.2.1.length:=by rw[←h.len];exact hk
  have hp:=WkK h.progs jL;obtain⟨g1,g2,g3,g4,g5⟩:=woG hk aN;obtain⟨r0,r1,r2,r3,r4,r5,r6,r7,r8,fv,eT,dU,dX,dY,eF,fO,fP,fw,fx,fQ,fR,fS⟩:=rtP x;have dS:∀y:Rt,(w.now+1,S4 (Xe (w.roots.map Rt.e) k y.e) w.e.2)=Wo.e (Wo.put ({w with now:=w.now+1},y) k):=λy=>by
   unfold Wo.put Wo.e;simp only[Xes];rfl
  have cq:Wo.put ({w with now:=w.now+1},x) k={w with now:=w.now+1}:=by unfold Wo.put;simp only;rw[←aN,Xbh]
  simp only[wc,Xl,Xao,Xk,Wa];rw[g1,g4,WD hk,aN];simp only[Wb,r0,fw,fx,dS,cq,show w.e.2.2.1=w.mem from rfl];rw[WF,We jL];have we:Xc s.2.1 k (([]:List Ka),([]:List Kz))=s.2.1.getD k pg0:=rfl;rw[we];generalize jJ:s.2.1.getD k pg0=p at*;have hg:GOk {w with now:=w.now+1}:=⟨h.mem,h.shelf,h.holds⟩;simp only[Wb,Wv];have bv:Zm0 N (w.now+1,w.e.2) p (k:Int)=ret (Wo.put (Wht {w with now:=w.now+1} x k p) k).e:=
   WuZ (w:={w with now:=w.now+1}) hk aN (by show w.roots.length<=8;omega) hp hg hx (by omega) (by have:=h.hist;show w.hist.length<=500000;omega) hN
  rw[bv];by_cases h1:a.1=1
  .rw[Wf h1,Wf h1];unfold Wts;rw[WD (show k<({w with now:=w.now+1}:Wo).roots.length from hk)];simp only[aN];rfl
  rw[Wc h1,Wc h1];by_cases h2:a.1=2
  .rw[Wf h2,Wf h2];by_cases hf:x.phase=2
   .rw[Wf hf];obtain⟨f1,f2,f3⟩:=(hx.live (by omega)).fork hf;by_cases hj:0<=a.2.2/\a.2.2<p.2.length
    .rw[Wf (show x.phase=2/\0<=a.2.2/\a.2.2<p.2.length from⟨hf,hj⟩)];obtain⟨j,nl⟩:∃j:Nat,a.2.2=j:=⟨a.2.2.toNat,by omega⟩;have fb:j<p.2.length:=by omega
     simp only[nl,Xl];have bT:KC (p.2.getD j []):=by rw[WD fb];exact hp.kids _ (Xv fb)
     rw[Wmd (code:=p.2.getD j []) (by rw[f3.len];exact fb) (by rw[f3.len];exact hp.k3) h.mem bT f3 rfl hp.k3 (by omega) hN];have:U21 (Wgx w.mem x.fam j (p.2.getD j [])).e x.e=Rt.e {x with fam:=Wgx w.mem x.fam j (p.2.getD j [])}:=rfl;simp only[Xd,this];exact Wn ret (dS _)
    .rw[Wc (λz=>hj z.2),WsY f3.len hj];have hu:U21 x.fam.e x.e=x.e:=rfl;simp only[Xd,hu];have:=dS x;rw[cq]at this;exact Wn ret this
   .rw[Wc hf,Wc (λz=>hf z.1)]
  rw[Wc h2,Wc h2];by_cases h3:a.1=3
  .rw[Wf h3,Wf h3];have hd:S11 true x.e=Rt.e {x with doomed:=true}:=rfl;simp only[hd,dS,show(Cm.e x.cm).2.2.1=x.cm.phase from rfl,WV];by_cases gw:1<=x.phase/\x.phase<=4
   .rw[We gw.1,We gw.2,Wf (show(1<=x.phase/\x.phase<=4)\/(x.phase=5/\x.cm.phase<=3)from .inl gw)];rfl
   .have hb:(decide (1<=x.phase)&&decide (x.phase<=4))=false:=by
     rw[Xck,Wt,Wt];omega
    rw[hb,Wa];by_cases h5:x.phase=5
    .rw[Wf h5];by_cases hc:x.cm.phase<=3
     .rw[Wf hc,Wf (show(1<=x.phase/\x.phase<=4)\/(x.phase=5/\x.cm.phase<=3)from .inr ⟨h5,hc⟩)]
     .rw[Wc hc,Wc (show¬((1<=x.phase/\x.phase<=4)\/(x.phase=5/\x.cm.phase<=3))fromλz=>z.elim gw λz=>hc z.2)]
    .rw[Wc h5,Wc (show¬((1<=x.phase/\x.phase<=4)\/(x.phase=5/\x.cm.phase<=3))fromλz=>z.elim gw λz=>h5 z.1)]
  .rw[Wc h3,Wc h3]
 .rw[Wc hb];have qo:(decide (0<=a.2.1)&&decide (a.2.1<=(w.roots.length:Int) -1))=false:=by
   rw[Xck,Wt,Wt];omega
  rw[qo];rfl
theorem WmD{m:List Int}(hl:m.length=8)(hx:∀x∈m,0<=x/\x<=65536)(hN:1048576<N):Zfv N m=ret (WkX m):=by
 unfold Zfv WkX;rw[show(Wg m !=(8:Int))=false by unfold Wg;rw[hl];rfl,Wa];rw[show Zr7 N=ret (Xp 16 0)from rfl];simp only[ret,Xd];have lp:∀(d j n:Nat) (l:List Int),j+d=m.length->d<n->SlOk l->Zbd N m (some ((),(([]:List Int),()))) (λm9 dL aQ=>(some ((),(aQ,())))) n (j:Int) l=ret (WcY (m.drop j) j l):=by
  intro d
  induction d with
  |zero=>
   intro j n l hj hn hs;obtain⟨n,rfl⟩:∃n',n=n'+1:=⟨n-1,by omega⟩;have:j=m.length:=by omega
   subst this;simp[Zbd,WS,Xm,Wa,Xcb,WcY]
  |succ d ih=>
   intro j n l hj hn hs;obtain⟨n,rfl⟩:∃n',n=n'+1:=⟨n-1,by omega⟩;have ac:j<m.length:=by omega
   have hb:=hx m[j] (Xv ac);simp only[Zbd,WK ac,Ww ac,Ws ac,Wm (show j<4611686018427387904 by omega),Wb,WV,WcK,ret,Xd,We hb.1,We hb.2,Xao,Xk,Wa];rw[Xay ac,WcY];by_cases h0:m[j]>0
   .rw[Wf h0,Wf h0,WQ (by unfold I64;omega),WdF hs (by omega) (by omega) hN];exact ih _ _ _ (by omega) (by omega) (WgO hs (by omega) (by omega))
   .rw[Wc h0,Wc h0];exact ih _ _ _ (by omega) (by omega) hs
 have:=lp m.length 0 N (Xp 16 0) (by omega) (by omega) Wjn;rw[Xbk]at this;exact this
theorem WvY(bI:Wom s=true)(hN:1048576<N):Zqm N s=ret (WrO s).e:=by
 obtain⟨t1,t2,t3,t4⟩:=Wf8 bI;have hv:Wdm s.1.1=true:=WlL.2 t1.cells;have hr:(((decide ((0:Int)<=Wg s.2.1))&&(decide (Wg s.2.1<=Wg s.2.1)))&&(Wz (Xa (Wg s.2.1))))=true:=by
  unfold Wg;rw[Wq (by omega)];simp
 unfold Zqm;rw[WjW hv hN,WmD t1.map.1 t1.map.2 hN,hr];simp only[Xd,ret,Wb,Wam];unfold WrO Wo.e Wg;rw[Xl];simp only[Xea];rfl
end
section
variable{N:Nat}{s:Sc}
theorem Wud{R:Type}{K0:Int->Bool->Int->Int->Int->Int->Kq->Kj->Kq->(List Y_Root)->Kab->Option R}(hl:s.2.2.length<=1000)(hN:1048576<N):
  ∀(d j n:Nat) (m:Int) (w:Wo),j+d=s.2.2.length->d<n->WOk s.2.1 m w->m+d<=90000->
  Zes N s.2.2 s K0 n (j:Int) w.now w.token w.mem.1 w.shelf.2 w.mem.2 w.shelf.1 w.holds (w.roots.map Rt.e) w.hist=
   (λv:Wo=>K0 (s.2.2.length:Int) false v.now v.token v.mem.1 v.shelf.2 v.mem.2 v.shelf.1 v.holds (v.roots.map Rt.e) v.hist) ((s.2.2.drop j).foldl (WmH s) w):=by
 intro d
 induction d with
 |zero=>
  intro j n m w hj hn h hm;obtain⟨n,rfl⟩:∃n',n=n'+1:=⟨n-1,by omega⟩;have:j=s.2.2.length:=by omega
  subst this;simp only[Zes,WS (Xm _),Wa,Xcb,Xge]
 |succ d ih=>
  intro j n m w hj hn h hm;obtain⟨n,rfl⟩:∃n',n=n'+1:=⟨n-1,by omega⟩;have ac:j<s.2.2.length:=by omega
  have hw:(w.now,(w.token,((w.mem.1,w.mem.2),((w.shelf.1,w.shelf.2),(w.holds,(w.roots.map Rt.e,w.hist))))))=w.e:=rfl;simp only[Zes,WK ac,Ww ac,Ws ac,Wm (show j<4611686018427387904 by omega),Wb,hw];rw[WoA h (by omega) hN,Xay ac,Xdh];exact ih (j+1) n (m+1) _ (by omega) (by omega) (WbX h) (by omega)
theorem Wtn(hb:SB s)(hN:1048576<N):Zoe N s=ret (if Wom s=true then(Wpl s).e else d_World):=by
 unfold Zoe;rw[WfQ hb hN];simp only[ret,Xd,Wk];cases hs:Wom s with
 |false=>rfl
 |true=>
  obtain⟨h1,h2,h3,h4⟩:=Wf8 hs;have h0:=WiM hs;have qq:=Whv s.2.1 (by omega);simp only[Xk,Wa,W4];rw[Whl h1.map.1 h1.map.2 hN,WjS (WlL.2 h1.cells) hN];simp only[ret,Xd,qq,Wb,Wam];have fD:=Wud (s:=s) (N:=N) (K0:=λqa qb ll eZ ji jj cA dj fB fo rt=>(some ((),((ll,(eZ,((ji,cA),((dj,jj),(fB,(fo,rt)))))),())):Option (Unit×(Y_World×Unit)))) (by omega) hN s.2.2.length 0 N 0 (WrO s) (by omega) (by omega) h0 (by omega);rw[Wc2];have pD:((WrO s).roots.map Rt.e)=Xp s.2.1.length d_Root:=by
   unfold WrO;simp only[Xea];rfl
  rw[pD]at fD;refine fD.trans ?_;rw[Xbk];rfl
theorem WtK{R:Type}{K0:Int->Bool->Int->Int->Int->Int->Kq->Kj->Kq->(List Y_Root)->Kab->Option R}(hl:s.2.2.length<=1000)(hN:1048576<N):
  ∀(d j n:Nat) (m:Int) (w:Wo),j+d=s.2.2.length->d<n->WOk s.2.1 m w->m+d<=90000->
  Zgz N s K0 n (j:Int) w.now w.token w.mem.1 w.shelf.2 w.mem.2 w.shelf.1 w.holds (w.roots.map Rt.e) w.hist=
   (λv:Wo=>K0 (s.2.2.length:Int) false v.now v.token v.mem.1 v.shelf.2 v.mem.2 v.shelf.1 v.holds (v.roots.map Rt.e) v.hist) ((s.2.2.drop j).foldl (WmH s) w):=by
 intro d
 induction d with
 |zero=>
  intro j n m w hj hn h hm;obtain⟨n,rfl⟩:∃n',n=n'+1:=⟨n-1,by omega⟩;have:j=s.2.2.length:=by omega
  subst this;simp only[Zgz,WS (Xm _),Wa,Xcb,Xge]
 |succ d ih=>
  intro j n m w hj hn h hm;obtain⟨n,rfl⟩:∃n',n=n'+1:=⟨n-1,by omega⟩;have ac:j<s.2.2.length:=by omega
  have hw:(w.now,(w.token,((w.mem.1,w.mem.2),((w.shelf.1,w.shelf.2),(w.holds,(w.roots.map Rt.e,w.hist))))))=w.e:=rfl;simp only[Zgz,WK ac,Ww ac,Ws ac,Wm (show j<4611686018427387904 by omega),Wb,hw];rw[show Ze9 N w.e s s.2.2[j]=ret (WmH s w s.2.2[j]).e from Woy h (by omega) hN,Xay ac,Xdh];exact ih (j+1) n (m+1) _ (by omega) (by omega) (WbX h) (by omega)
theorem Wuw(hb:SB s)(hN:1048576<N):Zof N s=ret (if Wom s=true then(Wpl s).e else d_World):=by
 unfold Zof;rw[WjV hb hN];simp only[ret,Xd];cases hs:Wom s with
 |false=>rfl
 |true=>
  obtain⟨h1,h2,h3,h4⟩:=Wf8 hs;simp only[Xk,Wa,W4];rw[WvY hs hN];simp only[ret,Xd];have fD:=WtK (s:=s) (N:=N) (K0:=λqa qb ll eZ ji jj cA dj fB fo rt=>(some ((),((ll,(eZ,((ji,cA),((dj,jj),(fB,(fo,rt)))))),())):Option (Unit×(Y_World×Unit)))) (by omega) hN s.2.2.length 0 N 0 (WrO s) (by omega) (by omega) (WiM hs) (by omega);rw[Xbk]at fD;exact fD
end
section
variable{n:Int}{w:Wo}{x y:Rt}{k:Nat}{p:Pg}{s:Sc}{a:Ac}
def KZ(y:Kd):Prop:=y.marks.length<=24/\∀q∈y.marks,q.2.2.length<=4
def KP(f:Fm)(x:Kd)(q:Fm×Kd):Prop:=q.1.kids=f.kids/\q.1.start=f.start/\(q.2.phase=0\/q.2.marks=x.marks\/q.2.marks= [])
theorem WuN{m:Mm}{f:Fm}{x:Kd}{o:Opn}(h:x.phase=0):KP f x (Wg2 m f x o):=by
 unfold Wg2;split
 .exact⟨rfl,rfl,.inl h⟩
 .split
  .split
   .exact⟨rfl,rfl,.inl rfl⟩
   .exact⟨rfl,rfl,.inl h⟩
  .simp only;generalize WaK m f.rv (if x.busy=true then x.pb else(o.2.2.1,0,0,0))=q
   (repeat' split)<;>exact⟨rfl,rfl,.inl h⟩
theorem WuJ{m:Mm}{f:Fm}{x:Kd}{code:List Opn}:KP f x (Wj8 m f x k code):=by
 unfold Wj8;split
 .rename_i h;unfold WoT;split
  .exact⟨rfl,rfl,.inr (.inl rfl)⟩
  .simp only;split
   .exact WuN h
   .split
    .refine⟨rfl,rfl,?_⟩;simp only;unfold Wi6;split
     .exact .inr (.inl rfl)
     .exact .inl h
    ·(repeat' split)<;>exact⟨rfl,rfl,.inl h⟩
 .split
  .split<;>exact⟨rfl,rfl,.inr (.inl rfl)⟩
  .split
   .split
    .exact⟨rfl,rfl,.inr (.inr rfl)⟩
    .simp only;split
     .exact⟨rfl,rfl,.inr (.inl rfl)⟩
     .exact⟨rfl,rfl,.inl rfl⟩
   .exact⟨rfl,rfl,.inr (.inl rfl)⟩
theorem KOk.kz{code:List Opn}{c:Int}{x:Kd}(hc:CC code)(h:KOk code c n x)(h0:x.phase=0):KZ x:=by
 have h1:=h.pc;have h2:=hc.len;have hm:=h.marks h0;have h7:=Wn Xb hm.pcs;simp only[Xu]at h7;have h8:=Wa3 hc.up x.pc.toNat (by omega);have h9:=(Wcs code x.pc.toNat).2;exact⟨by omega,λq hq=>by have:=(hm.each q hq).1.len;omega⟩
structure RZ(x:Rt):Prop where
 rd:x.reads.length<=96
 wr:x.writes.length<=32
 ml:x.marks.length<=24
 mr:∀q∈x.marks,q.2.2.2.2.length<=4
 cm:x.phase≠5->x.cm={}
 fm:x.phase≠2->x.fam={}
 kd:∀y∈x.fam.kids,KZ y
 st:x.fam.start.length<=8
def RQ(x y:Rt):Prop:=((1<=y.phase/\y.phase<=4)\/(y.reads=x.reads/\y.writes=x.writes/\y.marks=x.marks)\/(y.reads= []/\y.writes= []/\y.marks= []))/\(y.phase≠5->y.cm={})/\(y.phase≠2->y.fam={})/\
 (y.fam=x.fam\/y.fam={}\/∃rv regs rows n,y.fam=Wde rv regs rows n)
theorem Wio:RQ x (Wgf x):=by simp[RQ,Wgf]
theorem WhB{y:Rt}(h:y.phase=1)(hc:y.cm={})(hf:y.fam={}):RQ x (Wbw y):=by
 unfold Wbw;split
 .simp[RQ,Wgf]
 .simp[RQ,hc,hf]
theorem Wlz(hc:x.phase≠5->x.cm={})(hf:x.phase≠2->x.fam={}):RQ x (WeN w x).2:=by simp[RQ,WeN];exact⟨hc,hf⟩
theorem Wwm(h:x.phase≠5)(h2:x.phase≠2)(hc:x.phase≠5->x.cm={})(hf:x.phase≠2->x.fam={}):RQ x (Wk5 w x k).2:=by simp[RQ,Wk5,hc h,hf h2]
theorem Wn8{out:Int}(h:x.phase=1)(hc:x.cm={})(hf:x.fam={}):RQ x (We2 w x k out).2:=by
 unfold We2;simp only;generalize (if out=2 then []else x.writes)=rows;split
 .simp[RQ,Wk5,hc,hf]
 .simp[RQ,hf]
theorem WuQ{o:Opn}(h:x.phase=1)(hc:x.cm={})(hf:x.fam={}):RQ x (Wlw w x o):=by
 unfold Wlw;split
 .simp[RQ,h,hc,hf]
 .simp only;generalize WaK w.mem x.rv (if x.busy=true then x.pb else(o.2.2.1,0,0,0))=q;split
  .exact WhB h hc hf
  .split
   .simp[RQ,h,hc,hf]
   .simp[RQ,h,hc,hf]
theorem WvJ(h:x.phase=1)(hc:x.cm={})(hf:x.fam={}):RQ x (WoW w x k p).2:=by
 unfold WoW;split
 .exact Wn8 h hc hf
 .simp only;split
  .exact WuQ h hc hf
  .split
   .unfold Wi3;split
    .exact Wn8 h hc hf
    .split
     .exact Wlz (λ_=>hc) (λ_=>hf)
     .simp[RQ,h,hc,hf]
   .split
    .simp[RQ,hc];exact .inr (.inr ⟨_,_,_,_,rfl⟩)
    .split
     .unfold WfB;split
      .exact WhB h hc hf
      .simp[RQ,h,hc,hf]
     ·(repeat' split)<;>simp[RQ,h,hc,hf]
theorem WuS(hc:x.phase≠5->x.cm={})(hf:x.phase≠2->x.fam={}):RQ x (Wht w x k p).2:=by
 have same:RQ x x:=⟨.inr (.inl ⟨rfl,rfl,rfl⟩),hc,hf,.inl rfl⟩;unfold Wht;by_cases hd:x.doomed=true/\1<=x.phase/\x.phase<=4
 .rw[Wf hd];exact Wio
 rw[Wc hd];by_cases h:x.phase=0
 .rw[Wf h];unfold WeU
  (repeat' split)<;>first|exact same|simp[RQ]
 rw[Wc h];by_cases h:x.phase=1
 .rw[Wf h];exact WvJ h (hc (by omega)) (hf (by omega))
 rw[Wc h];by_cases h:x.phase=2
 .rw[Wf h];have gB:=hc (by omega);unfold Whm;split
  .exact Wio
  .split
   .simp[RQ,gB]
   .exact same
 rw[Wc h];by_cases h:x.phase=3
 .rw[Wf h];have gB:=hc (by omega);have ng:=hf (by omega);unfold WbC;split
  .exact Wlz hc hf
  .simp[RQ,gB,ng]
 rw[Wc h];by_cases h:x.phase=4
 .rw[Wf h];have gB:=hc (by omega);have ng:=hf (by omega);unfold Wb4;simp only
  (repeat' split)<;>first|exact Wio|simp[RQ,h,gB,ng]
 rw[Wc h];by_cases h:x.phase=5
 .rw[Wf h];have ng:=hf (by omega);unfold Wbp;split
  .simp only;split
   .exact Wio
   .simp[RQ,h,ng]
  .simp only;generalize (Wdu w.mem x.cm).2=c;unfold WmZ;split
   .simp[RQ,Wgf]
   .split
    .refine⟨.inr (.inl ⟨rfl,rfl,rfl⟩),λ_=>rfl,λ_=>ng,.inl rfl⟩
    .simp[RQ,h,ng]
 rw[Wc h];by_cases h:x.phase=6
 .rw[Wf h];have gB:=hc (by omega);have ng:=hf (by omega);split
  .exact Wlz hc hf
  .simp[RQ,gB,ng]
 rw[Wc h];by_cases h:x.phase=7
 .rw[Wf h];split
  .simp[RQ]
  .exact Wwm (by omega) (by omega) hc hf
 rw[Wc h];exact same
theorem RZ.nx(hp:POk p)(hz:RZ x)(hq:RQ x y)(hy:ROk p n y):RZ y:=by
 obtain⟨h1,h2,h3,h4⟩:=hq;have key:y.reads.length<=96/\y.writes.length<=32/\y.marks.length<=24/\∀q∈y.marks,q.2.2.2.2.length<=4:=by
  rcases h1 with h1|⟨a,b,c⟩|⟨a,b,c⟩
  .have hl:=hy.live h1;obtain⟨z1,z2,z3,z4,z5,z6⟩:=hl.sz hp.code;exact⟨z1,z2,z4,λq hq=>by have:=(hl.marks.each q hq).1.len;omega⟩
  .rw[a,b,c];exact⟨hz.rd,hz.wr,hz.ml,hz.mr⟩
  .rw[a,b,c];exact⟨by simp,by simp,by simp,λq hq=>by cases hq⟩
 refine⟨key.1,key.2.1,key.2.2.1,key.2.2.2,h2,h3,?_,?_⟩
 .rcases h4 with h4|h4|⟨_,_,_,_,h4⟩<;>rw[h4]
  .exact hz.kd
  .intro y hy;cases hy
  .intro y hy;rw[Xfr hy];exact⟨by simp,λq hq=>by cases hq⟩
 .rcases h4 with h4|h4|⟨_,_,_,_,h4⟩<;>rw[h4]
  .exact hz.st
  .simp
  .exact Wc0 _
def WZ(w:Wo):Prop:=∀x∈w.roots,RZ x
theorem Wpr(h:WOk s.2.1 n w)(hz:WZ w):WZ (WmH s w a):=by
 have hv:=WbX (a:=a) h;revert hv;unfold WmH;simp only;split
 .rename_i hb;have hk:a.2.1.toNat<w.roots.length:=by omega
  have hp:=WkK h.progs (show a.2.1.toNat<s.2.1.length by rw[←h.len];exact hk);have tc:=h.root a.2.1.toNat hk;have mG:=hz _ (Xv hk);have fin:∀{v:Wo} {y:Rt},v.roots=w.roots.set a.2.1.toNat y->WOk s.2.1 (n+1) v->(ROk (s.2.1.getD a.2.1.toNat pg0) (n+1) y->RZ y)->WZ v:=λ{v y} hr hv hy x hx=>by
   rw[hr]at hx;rcases Xdy hx with hx|rfl
   .exact hz x hx
   .refine hy ?_;have:=hv.root a.2.1.toNat (by rw[hr,Xat];exact hk);simp only[hr,Xgl]at this;exact this
  rw[WD hk];split
  .intro hv;refine fin (y:=(Wht {w with now:=w.now+1} w.roots[a.2.1.toNat] a.2.1.toNat (s.2.1.getD a.2.1.toNat pg0)).2) ?_ hv λhy=>mG.nx hp (WuS mG.cm mG.fm) hy;unfold Wts;rw[WD (show a.2.1.toNat<({w with now:=w.now+1}:Wo).roots.length from hk)];have hr:=WwI h hk;show Xe _ _ _=_;rw[hr]
  .split
   .split
    .rename_i hf;intro hv;refine fin rfl hv λhy=>?_;have hl:=tc.live (by omega);obtain⟨f1,f2,f3⟩:=hl.fork hf.1;have hj:a.2.2.toNat<(s.2.1.getD a.2.1.toNat pg0).2.length:=by omega
     have gR:a.2.2.toNat<w.roots[a.2.1.toNat].fam.kids.length:=by rw[f3.len];exact hj
     have bT:KC ((s.2.1.getD a.2.1.toNat pg0).2.getD a.2.2.toNat []):=by rw[WD hj];exact hp.kids _ (Xv hj)
     have pK:=Wqm (n:=n) gR h.mem bT f3 rfl;have rb:(∀y∈(Wgx w.mem w.roots[a.2.1.toNat].fam a.2.2.toNat ((s.2.1.getD a.2.1.toNat pg0).2.getD a.2.2.toNat [])).kids,KZ y)/\(Wgx w.mem w.roots[a.2.1.toNat].fam a.2.2.toNat ((s.2.1.getD a.2.1.toNat pg0).2.getD a.2.2.toNat [])).start.length<=8:=by
      revert pK;unfold Wgx;split
      .exactλ_=>⟨mG.kd,mG.st⟩
      .intro pK;obtain⟨q1,q2,q3⟩:=WuJ (m:=w.mem) (f:=w.roots[a.2.1.toNat].fam) (x:=w.roots[a.2.1.toNat].fam.kids.getD a.2.2.toNat {}) (k:=a.2.2.toNat) (code:=(s.2.1.getD a.2.1.toNat pg0).2.getD a.2.2.toNat []);refine⟨λy hy=>?_,by show(Wj8 ..).1.start.length<=8;rw[q2];exact mG.st⟩;have th:y∈(Wj8 w.mem w.roots[a.2.1.toNat].fam (w.roots[a.2.1.toNat].fam.kids.getD a.2.2.toNat {}) a.2.2.toNat ((s.2.1.getD a.2.1.toNat pg0).2.getD a.2.2.toNat [])).1.kids.set a.2.2.toNat (Wj8 w.mem w.roots[a.2.1.toNat].fam (w.roots[a.2.1.toNat].fam.kids.getD a.2.2.toNat {}) a.2.2.toNat ((s.2.1.getD a.2.1.toNat pg0).2.getD a.2.2.toNat [])).2:=hy;rw[q1]at th;rcases Xdy th with th|rfl
       .exact mG.kd y th
       .have pE:=pK.kid a.2.2.toNat (by show a.2.2.toNat<((Wj8 ..).1.kids.set _ _).length;rw[Xat,q1];exact gR);simp only[Fm.put,Xgl]at pE;rcases q3 with h0|h0|h0
        .exact pE.kz bT.toCC h0
        .have:=mG.kd _ (Xv gR);rw[WD gR]at h0;unfold KZ;rw[WD gR,h0];exact this
        .unfold KZ;rw[h0];exact⟨by simp,λq hq=>by cases hq⟩
     exact{mG with
      fm:=λbQ=>WE hf.1 bQ
      kd:=rb.1
      st:=rb.2}
    .exactλ_=>hz
   .split
    .split
     .intro hv;exact fin rfl hv λ_=>{mG with}
     .exactλ_=>hz
    .exactλ_=>hz
 .exactλ_=>hz
theorem WrU:∀(l:List Ac) (n:Int) (w:Wo),WOk s.2.1 n w->WZ w->WZ (l.foldl (WmH s) w)
 | [],_,_,_,h=>h
 |a::l,n,w,h,hz=>WrU l (n+1) _ (WbX h) (Wpr h hz)
theorem Wvw:WZ (WrO s):=λx hx=>by
 obtain rfl:x={}:=Xfr hx;exact⟨by simp,by simp,by simp,λq hq=>by simp at hq,λ_=>rfl,λ_=>rfl,λy hy=>by simp at hy,by simp⟩
end
section
set_option synthInstance.maxSize 20000
set_option synthInstance.maxHeartbeats 4000000
def WaA(l:List Int):Nat:=l.length
theorem WpN{N:Nat}{a:List Int}{left:Int}(hN:1048576<N)(h0:0<=left)(h1:left<=1048576)(hw:Wfd (.slice (.int .i64)) a):
  Zn9 N a left=ret (if left<(WaA a:Int)then-1 else left-(WaA a:Int)):=by
 have hl:a.length<=9223372036854775807:=Xal hw.1 (by decide);unfold Zn9 WaA;have e:WU .i64 left (Wg a)=left-(a.length:Int):=WQ (by unfold I64 Wg;omega);rw[e];by_cases h:left<(a.length:Int)
 .rw[Wf h,show decide (left-(a.length:Int)<0)=true by simp;omega];rfl
 .rw[Wc h,show decide (left-(a.length:Int)<0)=false by simp;omega];rfl
def Wbj(a:List Int×List Int×Int):Nat:=WaA a.1+WaA a.2.1
theorem Wrm{N:Nat}{a:List Int×List Int×Int}{left:Int}(hN:1048576<N)(h0:0<=left)(h1:left<=1048576)(hw:Wfd (.prod (.slice (.int .i64)) (.prod (.slice (.int .i64)) (.int .i64))) a):
  Zok N a left=ret (if left<(Wbj a:Int)then-1 else left-(Wbj a:Int)):=by
 unfold Zok;unfold Wbj;rw[show(WaA a.1+WaA a.2.1)=WaA a.1+(WaA a.2.1+(0)) by omega];rw[WpN hN (by omega) (by omega) hw.1];refine WeY (z2:=WaA a.2.1+(0)) (by omega) λh2=>?_;simp only[];rw[WpN hN (by omega) (by omega) hw.2.1];refine WeY (z2:=0) (by omega) λh3=>?_;simp only[];exact Wlv (by omega)
def WeO(l:List Ka):Nat:=l.length
theorem Wr8{N:Nat}{a:List Ka}{left:Int}(hN:1048576<N)(h0:0<=left)(h1:left<=1048576)(hw:Wfd (.slice (.prod (.int .i64) (.prod (.int .i64) (.prod (.int .i64) (.int .i64))))) a):
  Zpf N a left=ret (if left<(WeO a:Int)then-1 else left-(WeO a:Int)):=by
 have hl:a.length<=9223372036854775807:=Xal hw.1 (by decide);unfold Zpf WeO;have e:WU .i64 left (Wg a)=left-(a.length:Int):=WQ (by unfold I64 Wg;omega);rw[e];by_cases h:left<(a.length:Int)
 .rw[Wf h,show decide (left-(a.length:Int)<0)=true by simp;omega];rfl
 .rw[Wc h,show decide (left-(a.length:Int)<0)=false by simp;omega];rfl
def Wfz(a:List Ka):Nat:=WeO a
theorem Wwb{N:Nat}{a:List Ka}{left:Int}(hN:1048576<N)(h0:0<=left)(h1:left<=1048576)(hw:Wfd (.slice (.prod (.int .i64) (.prod (.int .i64) (.prod (.int .i64) (.int .i64))))) a):
  Zrh N a left=ret (if left<(Wfz a:Int)then-1 else left-(Wfz a:Int)):=by
 unfold Zrh;unfold Wfz;rw[show(WeO a)=WeO a+(0) by omega];rw[Wr8 hN (by omega) (by omega) hw];refine WeY (z2:=0) (by omega) λh2=>?_;simp only[];exact Wlv (by omega)
def WbO(l:List Kz):Nat:=l.length+(l.map Wfz).sum
theorem Wfv{l:List Kz}{x:List Ka}(h:x∈l):Wfz x<=WbO l:=by
 have:=WbM Wfz h;unfold WbO;omega
theorem Wfo{l:List Kz}:l.length<=WbO l:=by unfold WbO;omega
theorem Wum{N:Nat}{a:List Kz}{left:Int}(hN:1048576<N)(h0:0<=left)(h1:left<=1048576)(hw:Wfd (.slice (.slice (.prod (.int .i64) (.prod (.int .i64) (.prod (.int .i64) (.int .i64)))))) a):
  Zky N a left=ret (if left<(WbO a:Int)then-1 else left-(WbO a:Int)):=by
 have hl:a.length<=9223372036854775807:=Xal hw.1 (by decide);unfold Zky WbO;have e:WU .i64 left (Wg a)=left-(a.length:Int):=WQ (by unfold I64 Wg;omega);rw[e];by_cases h:left<(a.length:Int)
 .rw[Wf (by omega),show decide (left-(a.length:Int)<0)=true by simp;omega];rfl
 .rw[show decide (left-(a.length:Int)<0)=false by simp;omega];simp only[Wa];refine Wp3 (z:=Wfz) (lp:=λn left i=>Zd6 N a _ _ n left i) ?_ ?_ (by omega) (by omega) h1
  .intro n left j hj h0 h1;simp only[Zd6,WK hj,Ww hj,Ws hj,Wm (show j<4611686018427387904 by omega),Wb,Wwb hN h0 h1 (hw.2 _ (Xv hj)),ret,Xd];by_cases h2:left<(Wfz a[j]:Int)
   .rw[Wf h2,Wf h2];rfl
   .rw[Wc h2,Wc h2,show decide (left-(Wfz a[j]:Int)<0)=false by simp;omega];rfl
  .intro n left;simp only[Zd6,WS (Xm a.length),Wa]
def WcR(a:List Ka×List Kz):Nat:=WeO a.1+WbO a.2
theorem Wuo{N:Nat}{a:List Ka×List Kz}{left:Int}(hN:1048576<N)(h0:0<=left)(h1:left<=1048576)(hw:Wfd (.prod (.slice (.prod (.int .i64) (.prod (.int .i64) (.prod (.int .i64) (.int .i64))))) (.slice (.slice (.prod (.int .i64) (.prod (.int .i64) (.prod (.int .i64) (.int .i64))))))) a):
  Zqj N a left=ret (if left<(WcR a:Int)then-1 else left-(WcR a:Int)):=by
 unfold Zqj;unfold WcR;rw[show(WeO a.1+WbO a.2)=WeO a.1+(WbO a.2+(0)) by omega];rw[Wr8 hN (by omega) (by omega) hw.1];refine WeY (z2:=WbO a.2+(0)) (by omega) λh2=>?_;simp only[];rw[Wum hN (by omega) (by omega) hw.2];refine WeY (z2:=0) (by omega) λh3=>?_;simp only[];exact Wlv (by omega)
def Wa2(l:List Km):Nat:=l.length+(l.map WcR).sum
theorem Wec{l:List Km}{x:List Ka×List Kz}(h:x∈l):WcR x<=Wa2 l:=by
 have:=WbM WcR h;unfold Wa2;omega
theorem Weh{l:List Km}:l.length<=Wa2 l:=by unfold Wa2;omega
theorem Wr2{N:Nat}{a:List Km}{left:Int}(hN:1048576<N)(h0:0<=left)(h1:left<=1048576)(hw:Wfd (.slice (.prod (.slice (.prod (.int .i64) (.prod (.int .i64) (.prod (.int .i64) (.int .i64))))) (.slice (.slice (.prod (.int .i64) (.prod (.int .i64) (.prod (.int .i64) (.int .i64)))))))) a):
  Zjr N a left=ret (if left<(Wa2 a:Int)then-1 else left-(Wa2 a:Int)):=by
 have hl:a.length<=9223372036854775807:=Xal hw.1 (by decide);unfold Zjr Wa2;have e:WU .i64 left (Wg a)=left-(a.length:Int):=WQ (by unfold I64 Wg;omega);rw[e];by_cases h:left<(a.length:Int)
 .rw[Wf (by omega),show decide (left-(a.length:Int)<0)=true by simp;omega];rfl
 .rw[show decide (left-(a.length:Int)<0)=false by simp;omega];simp only[Wa];refine Wp3 (z:=WcR) (lp:=λn left i=>Zdc N a _ _ n left i) ?_ ?_ (by omega) (by omega) h1
  .intro n left j hj h0 h1;simp only[Zdc,WK hj,Ww hj,Ws hj,Wm (show j<4611686018427387904 by omega),Wb,Wuo hN h0 h1 (hw.2 _ (Xv hj)),ret,Xd];by_cases h2:left<(WcR a[j]:Int)
   .rw[Wf h2,Wf h2];rfl
   .rw[Wc h2,Wc h2,show decide (left-(WcR a[j]:Int)<0)=false by simp;omega];rfl
  .intro n left;simp only[Zdc,WS (Xm a.length),Wa]
def WdP(l:List Kb):Nat:=l.length
theorem Wt0{N:Nat}{a:List Kb}{left:Int}(hN:1048576<N)(h0:0<=left)(h1:left<=1048576)(hw:Wfd (.slice (.prod (.int .i64) (.prod (.int .i64) (.int .i64)))) a):
  Zqk N a left=ret (if left<(WdP a:Int)then-1 else left-(WdP a:Int)):=by
 have hl:a.length<=9223372036854775807:=Xal hw.1 (by decide);unfold Zqk WdP;have e:WU .i64 left (Wg a)=left-(a.length:Int):=WQ (by unfold I64 Wg;omega);rw[e];by_cases h:left<(a.length:Int)
 .rw[Wf h,show decide (left-(a.length:Int)<0)=true by simp;omega];rfl
 .rw[Wc h,show decide (left-(a.length:Int)<0)=false by simp;omega];rfl
def Wbz(a:Kg×List Km×List Kb):Nat:=Wbj a.1+Wa2 a.2.1+WdP a.2.2
theorem WrF{N:Nat}{a:Kg×List Km×List Kb}{left:Int}(hN:1048576<N)(h0:0<=left)(h1:left<=1048576)(hw:Wfd (.prod (.prod (.slice (.int .i64)) (.prod (.slice (.int .i64)) (.int .i64))) (.prod (.slice (.prod (.slice (.prod (.int .i64) (.prod (.int .i64) (.prod (.int .i64) (.int .i64))))) (.slice (.slice (.prod (.int .i64) (.prod (.int .i64) (.prod (.int .i64) (.int .i64)))))))) (.slice (.prod (.int .i64) (.prod (.int .i64) (.int .i64)))))) a):
  Zol N a left=ret (if left<(Wbz a:Int)then-1 else left-(Wbz a:Int)):=by
 unfold Zol;unfold Wbz;rw[show(Wbj a.1+Wa2 a.2.1+WdP a.2.2)=Wbj a.1+(Wa2 a.2.1+(WdP a.2.2+(0))) by omega];rw[Wrm hN (by omega) (by omega) hw.1];refine WeY (z2:=Wa2 a.2.1+(WdP a.2.2+(0))) (by omega) λh2=>?_;simp only[];rw[Wr2 hN (by omega) (by omega) hw.2.1];refine WeY (z2:=WdP a.2.2+(0)) (by omega) λh3=>?_;simp only[];rw[Wt0 hN (by omega) (by omega) hw.2.2];refine WeY (z2:=0) (by omega) λh4=>?_;simp only[];exact Wlv (by omega)
theorem WpL{N:Nat}{a:List Int}(h:WaA a<=1048576)(hN:1048576<N):Zi0 N a=ret a:=by
 have hl:a.length<=1048576:=h;unfold Zi0;rw[Whv a (by omega),Wc2];simp only[Wb];have h1:=Wx (l:=a) (V:=List Int) (R:=Unit×(List Int×Unit)) (lp:=λn j v=>Zd7 N a (λi8 t9 cn=>some ((),(cn,()))) n j v) (n:=N) (by omega)
  (body:=λj x v k=>bif inb j v.length then k (v.set j.toNat x)else none) (K:=λ_ v=>some ((),(v,())))
  (λn i v hi=>by simp only[Zd7,WK hi,Ww hi,Ws hi,Wm (show i<4611686018427387904 by omega),Wb,ret,Xd])
  (λn v=>by simp only[Zd7,WS (Xm a.length),Wa]) (Xp a.length (0:Int))
 refine h1.trans ?_;rw[WdW (f:=id) a (λj x v k _=>rfl)];simp
theorem WqC{N:Nat}{a:List Int×List Int×Int}(h:Wbj a<=1048576)(hN:1048576<N):Zom N a=ret a:=by
 unfold Wbj at h;unfold Zom;simp only[WpL (a:=a.1) (show WaA a.1<=1048576 by omega) hN,WpL (a:=a.2.1) (show WaA a.2.1<=1048576 by omega) hN,ret,Xd]
 all_goals rfl
theorem Wxe{N:Nat}{a:Int×Int×Int×Int}(hN:1048576<N):Zsb N a=ret a:=by
 unfold Zsb
 all_goals rfl
theorem Wth{N:Nat}{a:List Ka}(h:WeO a<=1048576)(hN:1048576<N):Zj7 N a=ret a:=by
 have hl:a.length<=1048576:=h;unfold Zj7;rw[Whv a (by omega),Wc2];simp only[Wb];have h1:=Wx (l:=a) (V:=List Ka) (R:=Unit×(List Ka×Unit)) (lp:=λn j v=>Zfj N a (λi8 t9 cn=>some ((),(cn,()))) n j v) (n:=N) (by omega)
  (body:=λj x v k=>bif inb j v.length then k (v.set j.toNat x)else none) (K:=λ_ v=>some ((),(v,())))
  (λn i v hi=>by simp only[Zfj,WK hi,Ww hi,Ws hi,Wm (show i<4611686018427387904 by omega),Wb,Wxe hN,ret,Xd])
  (λn v=>by simp only[Zfj,WS (Xm a.length),Wa]) (Xp a.length ((0:Int),((0:Int),((0:Int),(0:Int)))))
 refine h1.trans ?_;rw[WdW (f:=id) a (λj x v k _=>rfl)];simp
theorem Wwh{N:Nat}{a:List Ka}(h:Wfz a<=1048576)(hN:1048576<N):Zri N a=ret a:=by
 unfold Wfz at h;unfold Zri;simp only[Wth (a:=a) (show WeO a<=1048576 by omega) hN,ret,Xd]
 all_goals rfl
theorem Wuh{N:Nat}{a:List Kz}(h:WbO a<=1048576)(hN:1048576<N):Zkz N a=ret a:=by
 have hl:a.length<=1048576:=Xal Wfo h;unfold Zkz;rw[Whv a (by omega),Wc2];simp only[Wb];have h1:=Wx (l:=a) (V:=List Kz) (R:=Unit×(List Kz×Unit)) (lp:=λn j v=>Zd8 N a (λi8 t9 cn=>some ((),(cn,()))) n j v) (n:=N) (by omega)
  (body:=λj x v k=>bif inb j v.length then k (v.set j.toNat x)else none) (K:=λ_ v=>some ((),(v,())))
  (λn i v hi=>by simp only[Zd8,WK hi,Ww hi,Ws hi,Wm (show i<4611686018427387904 by omega),Wb,Wwh (Xal (Wfv (Xv hi)) h) hN,ret,Xd])
  (λn v=>by simp only[Zd8,WS (Xm a.length),Wa]) (Xp a.length ([]:List Ka))
 refine h1.trans ?_;rw[WdW (f:=id) a (λj x v k _=>rfl)];simp
theorem Wt2{N:Nat}{a:List Ka×List Kz}(h:WcR a<=1048576)(hN:1048576<N):Zql N a=ret a:=by
 unfold WcR at h;unfold Zql;simp only[Wth (a:=a.1) (show WeO a.1<=1048576 by omega) hN,Wuh (a:=a.2) (show WbO a.2<=1048576 by omega) hN,ret,Xd]
 all_goals rfl
theorem WsD{N:Nat}{a:List Km}(h:Wa2 a<=1048576)(hN:1048576<N):Zjs N a=ret a:=by
 have hl:a.length<=1048576:=Xal Weh h;unfold Zjs;rw[Whv a (by omega),Wc2];simp only[Wb];have h1:=Wx (l:=a) (V:=List Km) (R:=Unit×(List Km×Unit)) (lp:=λn j v=>Zdd N a (λi8 t9 cn=>some ((),(cn,()))) n j v) (n:=N) (by omega)
  (body:=λj x v k=>bif inb j v.length then k (v.set j.toNat x)else none) (K:=λ_ v=>some ((),(v,())))
  (λn i v hi=>by simp only[Zdd,WK hi,Ww hi,Ws hi,Wm (show i<4611686018427387904 by omega),Wb,Wt2 (Xal (Wec (Xv hi)) h) hN,ret,Xd])
  (λn v=>by simp only[Zdd,WS (Xm a.length),Wa]) (Xp a.length (([]:List Ka),([]:List Kz)))
 refine h1.trans ?_;rw[WdW (f:=id) a (λj x v k _=>rfl)];simp
theorem Wvt{N:Nat}{a:Int×Int×Int}(hN:1048576<N):Zrn N a=ret a:=by
 unfold Zrn
 all_goals rfl
theorem Wt8{N:Nat}{a:List Kb}(h:WdP a<=1048576)(hN:1048576<N):Zk9 N a=ret a:=by
 have hl:a.length<=1048576:=h;unfold Zk9;rw[Whv a (by omega),Wc2];simp only[Wb];have h1:=Wx (l:=a) (V:=List Kb) (R:=Unit×(List Kb×Unit)) (lp:=λn j v=>Zen N a (λi8 t9 cn=>some ((),(cn,()))) n j v) (n:=N) (by omega)
  (body:=λj x v k=>bif inb j v.length then k (v.set j.toNat x)else none) (K:=λ_ v=>some ((),(v,())))
  (λn i v hi=>by simp only[Zen,WK hi,Ww hi,Ws hi,Wm (show i<4611686018427387904 by omega),Wb,Wvt hN,ret,Xd])
  (λn v=>by simp only[Zen,WS (Xm a.length),Wa]) (Xp a.length ((0:Int),((0:Int),(0:Int))))
 refine h1.trans ?_;rw[WdW (f:=id) a (λj x v k _=>rfl)];simp
theorem Wre{N:Nat}{a:Kg×List Km×List Kb}(h:Wbz a<=1048576)(hN:1048576<N):Zgx N a=ret a:=by
 unfold Wbz at h;unfold Zgx;simp only[WqC (a:=a.1) (show Wbj a.1<=1048576 by omega) hN,WsD (a:=a.2.1) (show Wa2 a.2.1<=1048576 by omega) hN,Wt8 (a:=a.2.2) (show WdP a.2.2<=1048576 by omega) hN,ret,Xd]
 all_goals rfl
end
end Go.Sx
