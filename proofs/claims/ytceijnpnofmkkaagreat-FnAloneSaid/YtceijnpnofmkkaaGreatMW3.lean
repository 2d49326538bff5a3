/- Plain laws of the Lean functions. -/
import Derived.Test.YtceijnpnofmkkaaGreatMW2
open Int renaming le_refl→Xab,toNat→Xa,toNat_natCast→Xi,tmod_eq_emod_of_nonneg→Xct,le_trans→Xel,eq_ofNat_of_zero_le→Xgb
open List renaming getElem_mem→Xw,mem_map→Xx,pairwise_map→Xep,length_map→Xad,pairwise_iff_getElem→Xau,append→Xe,getD→Xc,length_set→Xy,set_set→Xcq,replicate→Xo,set→Xg,set_getElem_self→Xap,take→Xal,length→Xb,length_append→Xs,mem_append→Xm,mem_singleton→Xaf,append_eq→Xaw,length_cons→Xr,length_nil→Xbs,mem_cons→Xq,not_mem_nil→Xfz,ext_getElem→Xec,map→Xft,foldl→Xhf,getElem_set→Xam,getElem?_eq_getElem→Xp,mem_cons_self→Xk,mem_cons_of_mem→Xf,range→Xca
open Option renaming bind_some→Xd
open Bool renaming and_self→Xbo,not_true→Xv,false_eq_true→Xbk
open Nat renaming le_refl→Xn,le_trans→Xcr,and_le_right→Xgz,lt_trichotomy→Xdb
namespace Go.Sx
set_option linter.unusedVariables false
set_option linter.unusedSimpArgs false
section
structure Cm where
 who:Int:=0
 rv:Int:=0
 phase:Int:=0
 pos:Int:=0
 wv:Int:=0
 puts:List Rw:=[]
 reads:List Int:=[]
def Cm.e(c:Cm):Int×Int×Int×Int×Int×List Kc×List Int:=(c.who,c.rv,c.phase,c.pos,c.wv,c.puts,c.reads)
def Cm.steps(c:Cm):Int:=
 if c.phase=1\/c.phase=4\/c.phase=5\/c.phase=7 then c.puts.length else if c.phase=3 then c.reads.length else 1
def Waw(c:Cm)(n:Int):Cm:=if n=0 then{c with phase:=8,pos:=0}else{c with phase:=7,pos:=n-1}
def Wbb(c:Cm)(ph:Int):Int:=
 if(ph=3/\c.reads.length=0\/ph=4)/\c.puts.length=0 then 6 else if ph=3/\c.reads.length=0 then 4 else ph
def WcR(c:Cm)(ph:Int):Cm:={c with phase:=Wbb c ph,pos:=0}
def WP(c:Cm)(ph:Int):Cm:=if c.pos+1=c.steps then WcR c ph else{c with pos:=c.pos+1}
def WjW(m:Mm)(i who:Int):Mm:=Wru m i ((WN m i).1,(WN m i).2.1,who)
def WdE(m:Mm)(i who v:Int):Mm:=if(WN m i).2.2=who then Wru m i (v,(WN m i).2)else m
def Wbw(m:Mm)(i who ver:Int):Mm:=if(WN m i).2.2=who/\(WN m i).2.1<=ver/\ver<=m.1 then Wru m i ((WN m i).1,ver,0)else m
def WD(m:Mm)(c:Cm):Mm×Cm:=
 let p:=Wa0 c.puts c.pos (0,0)
 if c.phase=1 then(if(WN m p.1).2.2=0 then(WjW m p.1 c.who,WP c 2)else(m,Waw c c.pos))else
 if c.phase=2 then(if(tick m).2=0 then((tick m).1,Waw c c.puts.length)else((tick m).1,WcR {c with wv:=(tick m).2} 3))else
 if c.phase=3 then
  let w:=WN m (Wa0 c.reads c.pos 0)
  if(w.2.2≠0/\w.2.2≠c.who)\/w.2.1>c.rv then(m,Waw c c.puts.length)else(m,WP c 4)
 else
 if c.phase=4 then(WdE m p.1 c.who p.2,WP c 5)else
 if c.phase=5 then(Wbw m p.1 c.who c.wv,WP c 6)else
 if c.phase=7 then(Wbw m p.1 c.who (WN m p.1).2.1,Waw c c.pos)else
 (m,c)
def WaB(c:Cm):Cm:=
 if c.phase=1 then Waw c c.pos else if c.phase=2\/c.phase=3 then Waw c c.puts.length else c
def Wbj(who rv:Int)(puts reads:List Rw):Cm:=
 {who:=who,rv:=rv,phase:=if(WbF puts).length=0 then 2 else 1,puts:=WbF puts,reads:=(WbF reads).map (·.1)}
structure CmOk(c:Cm):Prop where
 who:1<=c.who/\c.who<=99
 rv:0<=c.rv/\c.rv<=1000000
 wv:0<=c.wv/\c.wv<=1000000
 phase:1<=c.phase/\c.phase<=8
 rows:Weq c.puts
 pup:c.puts.Pairwise λa b=>a.1<b.1
 plen:c.puts.length<=8
 rd:∀x∈c.reads,0<=x/\x<=7
 rup:c.reads.Pairwise (· < ·)
 rlen:c.reads.length<=8
 pos:0<=c.pos/\c.pos<c.steps
section
variable{N:Nat}{c:Cm}{m:Mm}
theorem CmOk.back(h:CmOk c){n:Int}(hn:0<=n/\n<=c.puts.length):CmOk (Waw c n):=by
 unfold Waw;split
 .exact{h with phase:=by simp_all,pos:=by simp[Cm.steps]}
 .exact{h with phase:=by simp_all,pos:=by grind [Cm.steps]}
theorem WtX(c:Cm){ph:Int}(h:2<=ph/\ph<=6):2<=Wbb c ph/\Wbb c ph<=6:=by unfold Wbb;split<;>(try split)<;>omega
theorem CmOk.adv(h:CmOk c){ph:Int}(hp:2<=ph/\ph<=6)(h5:ph=5->c.puts.length≠0):CmOk (WcR c ph):=by
 unfold WcR;have:=WtX c hp;refine{h with phase:=by grind,pos:=⟨Xab _,?_⟩}
 grind [Cm.steps,Wbb]
theorem CmOk.next(h:CmOk c){ph:Int}(hp:2<=ph/\ph<=6)(h5:ph=5->c.puts.length≠0):CmOk (WP c ph):=by
 unfold WP;split
 .exact h.adv hp h5
 .have:=h.pos;exact{h with pos:=⟨by grind,by show c.pos+1<c.steps;omega⟩}
theorem Wt5(hm:W3 m=true){i who:Int}(hi:0<=i/\i<=7)(hw:0<=who/\who<=99):W3 (WjW m i who)=true:=by
 have:=WfP.1 (Wgq hm hi);exact Wn8 hm (by grind [WfP])
theorem Wr6(hm:W3 m=true){i who v:Int}(hi:0<=i/\i<=7)(hv:0<=v/\v<=65535):W3 (WdE m i who v)=true:=by
 grind [WfP,Wgq,WdE,Wn8]
theorem Wj7(hm:W3 m=true){i who ver:Int}(hi:0<=i/\i<=7):W3 (Wbw m i who ver)=true:=by
 grind [WfP,Wgq,Wbw,Wn8]
theorem CmOk.put(h:CmOk c)(hp:c.phase=1\/c.phase=4\/c.phase=5\/c.phase=7):∃(j:Nat) (hj:j<c.puts.length),c.pos=j/\Wa0 c.puts c.pos (0,0)=c.puts[j]/\(0<=c.puts[j].1/\c.puts[j].1<=7)/\0<=c.puts[j].2/\c.puts[j].2<=65535:=by
 have:=h.pos;unfold Cm.steps at this;rw[Wb hp]at this;have hj:c.pos.toNat<c.puts.length:=by omega
 have hr:=h.rows _ (Xw hj);exact⟨c.pos.toNat,hj,by omega,Wn hj _,hr.1,hr.2⟩
theorem CmOk.read(h:CmOk c)(hp:c.phase=3):∃(j:Nat) (hj:j<c.reads.length),c.pos=j/\Wa0 c.reads c.pos 0=c.reads[j]/\0<=c.reads[j]/\c.reads[j]<=7:=by
 have:=h.pos;unfold Cm.steps at this;rw[Wa (by omega),Wb hp]at this;have hj:c.pos.toNat<c.reads.length:=by omega
 have hr:=h.rd _ (Xw hj);exact⟨c.pos.toNat,hj,by omega,Wn hj _,hr⟩
theorem Wnf(h:CmOk c)(hm:W3 m=true):CmOk (WD m c).2/\W3 (WD m c).1=true:=by
 have cJ:=h.pos;have hl:c.phase=1\/c.phase=4\/c.phase=5\/c.phase=7->c.puts.length≠0:=λhp=>by obtain⟨j,hj,_⟩:=h.put hp;omega
 have bb:c.phase=1\/c.phase=4\/c.phase=5\/c.phase=7->c.pos<c.puts.length:=λhp=>by simp_all [Cm.steps,Wb]
 have hw:=h.who;unfold WD;simp only;split
 .obtain⟨j,hj,e1,e2,e3,e4⟩:=h.put (by omega);rw[e2];split
  .exact⟨h.next (by omega) (by omega),Wt5 hm e3 (by omega)⟩
  .exact⟨h.back (by omega),hm⟩
 .split
  .have ht:=WoI hm;split
   .exact⟨h.back (by omega),ht.1⟩
   .refine⟨?_,ht.1⟩;have h':CmOk {c with wv:=(tick m).2}:={h with wv:=⟨ht.2.1,ht.2.2.1⟩};exact h'.adv (by omega) (by omega)
  .split
   .split
    .exact⟨h.back (by omega),hm⟩
    .exact⟨h.next (by omega) (by omega),hm⟩
   .split
    .obtain⟨j,hj,e1,e2,e3,e4⟩:=h.put (by omega);rw[e2];exact⟨h.next (by omega) (λ_=>hl (by omega)),Wr6 hm e3 e4⟩
    .split
     .obtain⟨j,hj,e1,e2,e3,e4⟩:=h.put (by omega);rw[e2];exact⟨h.next (by omega) (by omega),Wj7 hm e3⟩
     .split
      .obtain⟨j,hj,e1,e2,e3,e4⟩:=h.put (by omega);have:=bb (by omega);rw[e2];exact⟨h.back (by omega),Wj7 hm e3⟩
      simp_all
theorem Wq7(h:CmOk c):CmOk (WaB c):=by
 have cJ:=h.pos;unfold WaB;split
 .have:c.pos<c.puts.length:=by simp_all [Cm.steps,Wb]
  exact h.back (by omega)
 .split
  .exact h.back (by omega)
  .exact h
theorem WkO{who rv:Int}{puts reads:List Rw}(hw:1<=who/\who<=99)(hr:0<=rv/\rv<=1000000):CmOk (Wbj who rv puts reads) where
 who:=hw
 rv:=hr
 wv:=by simp[Wbj]
 phase:=by unfold Wbj;simp only;split<;>omega
 rows:=Wdg
 pup:=Wga puts
 plen:=Wfc puts
 rd:=λx hx=>by
  obtain⟨r,hr,rfl⟩:=Xx.1 hx;exact(Wdg r hr).1
 rup:=by
  simp[Wbj,Xep,Wga]
 rlen:=by simp[Wbj,Xad,Wfc]
 pos:=by
  unfold Wbj Cm.steps
  grind
theorem cmP(c:Cm):c.e.1=c.who/\c.e.2.1=c.rv/\c.e.2.2.1=c.phase/\c.e.2.2.2.1=c.pos/\c.e.2.2.2.2.1=c.wv/\c.e.2.2.2.2.2.1=c.puts/\c.e.2.2.2.2.2.2=c.reads:=⟨rfl,rfl,rfl,rfl,rfl,rfl,rfl⟩
theorem Wca{who:Int}:Zep N who=ret (decide (1<=who)&&decide (who<=99)):=by simp[Zep,W5]
theorem Weh(hm:W3 m=true):Zca N m=ret m:=by
 grind [WO,Zca,Wx]
theorem WkD(h:CmOk c):Zg8 N c.e=ret c.e:=by
 unfold Zg8;have:=h.plen;have:=h.rlen;rw[show Zbk N c.e.2.2.2.2.2.1=ret c.puts from WdP (show c.puts.length<=1048576 by omega),show Zh N c.e.2.2.2.2.2.2=ret c.reads from WcM (show c.reads.length<=1048576 by omega)];rfl
theorem Wmr:Zc5 N c.e=ret c.steps:=by
 unfold Zc5 Cm.steps;obtain⟨c0,c1,c2,c3,c4,c5,c6⟩:=cmP c;simp only[WC,c2,c5,c6,Wi]
 grind
theorem WhT(h:CmOk c)(hN:1048576<N):Ze6 N c.e=ret true:=by
 obtain⟨c0,c1,c2,c3,c4,c5,c6⟩:=cmP c;have eb:=h.plen;have dN:=h.rlen;have hw:=h.who;have mf:=h.rv;have zY:=h.wv;have bX:=h.phase;have cJ:=h.pos;have gj:Wbm c.puts=true:=by unfold Wbm;rw[Wim.2 h.rows,Wf (by omega)];rfl
 unfold Ze6;simp only[c0,c1,c2,c3,c4,c5,c6,Wca,W5,WcJ (show c.puts.length<=1048576 by omega) hN,Wmr,ret,Xd,Wf hw.1,Wf hw.2,Wf mf.1,Wf mf.2,Wf zY.1,Wf zY.2,Wf bX.1,Wf bX.2,gj,Xbo,Xv,Wc];have xV:c.steps<=8:=by unfold Cm.steps;split<;>(try split)<;>omega
 have uW:Ws .i64 c.steps 1=c.steps-1:=Wah (by unfold I64;omega);rw[uW,Wf cJ.1,Wf (show c.pos<=c.steps-1 by omega)];have zZ:∀(d j n:Nat),j+d=c.reads.length->d<n->Zbe N c.reads c.e (some ((),(false,()))) (λt22 fL=>(some ((),(true&&true,())))) n (j:Int)=ret true:=by
  intro d
  induction d with
  |zero=>
   intro j n hj hn;obtain⟨n,rfl⟩:∃n',n=n'+1:=⟨n-1,by omega⟩;simp_all [Zbe,Wat,Xn,Wc]
  |succ d ih=>
   intro j n hj hn;obtain⟨n,rfl⟩:∃n',n=n'+1:=⟨n-1,by omega⟩;have hlt:j<c.reads.length:=by omega
   have de:=ih (j+1) n (by omega) (by omega);have hv:=h.rd _ (Xw hlt);have ax:W8 c.reads[j]=true:=by grind [W8]
   simp only[Zbe,c6,W2 hlt,Wq hlt,Wt hlt,Wp (show j<4611686018427387904 by omega),We,WaM,ret,Xd,ax,Xv,Wc,de];by_cases h0:j=0
   .grind
   .have e1:decide ((j:Int)>0)=true:=by simp;omega
    have e2:Ws .i64 (j:Int) 1=((j-1:Nat):Int):=by grind [Wah,I64]
    have bs:j-1<c.reads.length:=by omega
    have hb:=Xau.1 h.rup (j-1) j bs hlt (by omega);simp_all [We,Wq,Wt,Wu]
 have B9:∀(d j n:Nat),j+d=c.puts.length->d<n->1<=j->Zbs N c.e (some ((),(false,()))) (λaL aT=>(Zbe N c.reads c.e (some ((),(false,()))) (λt22 fL=>(some ((),(true&&true,())))) N (0:Int))) n (j:Int)=ret true:=by
  intro d
  induction d with
  |zero=>
   intro j n hj hn _;obtain⟨n,rfl⟩:∃n',n=n'+1:=⟨n-1,by omega⟩;have:j=c.puts.length:=by omega
   subst this;simp only[Zbs,c5,Wat (Xn _),Wc];exact zZ c.reads.length 0 N (by omega) (by omega)
  |succ d ih=>
   intro j n hj hn h1j;obtain⟨n,rfl⟩:∃n',n=n'+1:=⟨n-1,by omega⟩;have hlt:j<c.puts.length:=by omega
   have de:=ih (j+1) n (by omega) (by omega) (by omega);have e2:Ws .i64 (j:Int) 1=((j-1:Nat):Int):=by grind [Wah,I64]
   have bs:j-1<c.puts.length:=by omega
   have hb:=Xau.1 h.pup (j-1) j bs hlt (by omega);simp only[Zbs,c5,W2 hlt,Wq hlt,Wt hlt,Wp (show j<4611686018427387904 by omega),We,e2,Wq bs,Wt bs]
   grind
 by_cases hz:c.puts.length=0
 .obtain⟨N',rfl⟩:∃N',N=N'+1:=⟨N-1,by omega⟩;rw[Zbs,c5,Wu (by unfold Wi;omega)];exact zZ c.reads.length 0 _ (by omega) (by omega)
 .exact B9 (c.puts.length-1) 1 N (by omega) (by omega) (by omega)
theorem Wil(h:CmOk c){n:Int}(hn:0<=n/\n<=8):Z6 N c.e n=some (((Waw c n).e,()),()):=by
 unfold Z6 Waw;rw[WC,Wah (by unfold I64;omega)];split<;>rfl
theorem WtO{ph:Int}:Zeq N c.e ph=some (((WcR c ph).e,()),()):=by
 obtain⟨c0,c1,c2,c3,c4,c5,c6⟩:=cmP c;unfold Zeq WcR Wbb;simp only[WC,c5,c6,Wi];by_cases h3:ph=3
 .subst h3;by_cases hr:c.reads.length=0<;>by_cases hp:c.puts.length=0<;>simp[hr,hp]<;>rfl
 .by_cases h4:ph=4
  .subst h4;by_cases hp:c.puts.length=0<;>simp[hp]<;>rfl
  .simp[h3,h4];rfl
theorem WtY(h:CmOk c){ph:Int}:Zbn N c.e ph=some (((WP c ph).e,()),()):=by
 obtain⟨c0,c1,c2,c3,c4,c5,c6⟩:=cmP c;have cJ:=h.pos;have xV:c.steps<=8:=by have:=h.plen;have:=h.rlen;unfold Cm.steps;split<;>(try split)<;>omega
 have bb:Zc5 N (Cm.e {c with pos:=c.pos+1})=ret c.steps:=Wmr;unfold Zbn WP;rw[c3,WH (by unfold I64;omega)];rw[show(c.e.1,(c.e.2.1,(c.e.2.2.1,(c.pos+1,c.e.2.2.2.2))))=Cm.e {c with pos:=c.pos+1}from rfl,bb];simp only[ret,Xd,WC,WtO];split<;>rfl
theorem WsN(h:CmOk c)(hN:1048576<N):∃b,Ziq N c.e=some ((),((WaB c).e,(b,()))):=by
 obtain⟨c0,c1,c2,c3,c4,c5,c6⟩:=cmP c;have cJ:=h.pos;have eb:=h.plen;have xV:c.steps<=8:=by have:=h.plen;have:=h.rlen;unfold Cm.steps;split<;>(try split)<;>omega
 unfold Ziq WaB;rw[WkD h];simp only[ret,Xd];rw[WhT h hN];simp only[ret,Xd,Xv,Wc,WC,c2,c3,c5,Wil h (show 0<=c.pos/\c.pos<=8 by omega),Wil h (show 0<=Wi c.puts/\Wi c.puts<=8 by unfold Wi;omega)];by_cases h1:c.phase=1
 .simp_all
 .rw[Wa h1,Wa h1];by_cases h2:c.phase=2
  .rw[Wb h2,Wb h2,Wb (.inl h2)];exact⟨_,rfl⟩
  .rw[Wa h2];by_cases h3:c.phase=3
   .rw[Wb h3,Wb (.inr h3)];exact⟨_,rfl⟩
   simp_all
theorem Wo9{l:List Rw}(hl:l.length<=1048576)(hN:1048576<N):Zhh N l=ret ((WbF l).map (·.1)):=by
 unfold Zhh;rw[Wd9 hl hN];have hn:=Wfc l;simp only[ret,Xd];have h1:=WR (l:=WbF l) (V:=List Int) (R:=Unit×(List Int×Unit)) (lp:=λn j v=>Zcv N (Wi (WbF l)) (WbF l) (λaP aX aw=>(some ((),(aw,())))) n j v) (n:=N) (by omega)
  (body:=λj x v k=>bif WB (v.length+ [x.1].length)then k (Xe v [x.1])else none) (K:=λ_ v=>ret v)
  (λn i v hi=>by simp only[Zcv,W2 hi,Wq hi,Wt hi,Wp (show i<4611686018427387904 by omega),We])
  (λn v=>by simp[Zcv,Wat,Xn,Wc]) []
 refine h1.trans ?_;rw[Wc6 (f:=λx:Rw=>x.1) (WbF l) 0 [] (by simp;omega) (λj x v k _=>rfl)];rfl
theorem Wwe{who rv:Int}{puts reads:List Rw}(hw:1<=who/\who<=99)(hr:0<=rv/\rv<=1000000)(hp:Wbm puts=true)(hd:Wbm reads=true)(hN:1048576<N):
  Zeb N who rv puts reads=some ((),((Wbj who rv puts reads).e,(true,()))):=by
 have l1:puts.length<=300:=by grind [Wbm]
 have l2:reads.length<=300:=by grind [Wbm]
 unfold Zeb;simp only[Wca,W5,WcJ (show puts.length<=1048576 by omega) hN,WcJ (show reads.length<=1048576 by omega) hN,Wd9 (show puts.length<=1048576 by omega) hN,Wo9 (show reads.length<=1048576 by omega) hN,ret,Xd,Wf hw.1,Wf hw.2,Wf hr.1,Wf hr.2,hp,hd,Xbo,Xv,Wc,WC];unfold Wbj Cm.e;by_cases hz:(WbF puts).length=0
 .simp_all [Wb,Wi]
 simp_all [Wa,Wi]
theorem Wio{m:Mm}{i:Int}:Xc m.2 (Xa i) ((0:Int),((0:Int),(0:Int)))=WN m i:=rfl
theorem Whi(hm:W3 m=true){i:Int}(hi:0<=i/\i<=7):inb i m.2.length=true:=by
 grind [WO,inb]
theorem Wi8{i:Int}(hi:0<=i/\i<=7):W8 i=true:=by grind [W8]
theorem WmP(hm:W3 m=true){i who:Int}(hi:0<=i/\i<=7)(hw:1<=who/\who<=99)(hN:1048576<N):
  Zm2 N m i who=some ((),((if(WN m i).2.2=0 then WjW m i who else m),(decide ((WN m i).2.2=0),()))):=by
 unfold Zm2;rw[Weh hm,Wbd (by grind [WO]) hN,hm];simp only[ret,Xd,Xv,Wc,WaM,Wi8 hi,Wca,Wf hw.1,Wf hw.2,Xbo,Whi hm hi,We,Wio,Wdt];by_cases h:(WN m i).2.2=0
 .rw[Wb h,Wb h,Wf h];rfl
 simp_all
theorem Wln(hm:W3 m=true){i who v:Int}(hi:0<=i/\i<=7)(hw:1<=who/\who<=99)(hv:0<=v/\v<=65535)(hN:1048576<N):
  ∃b,Znz N m i who v=some ((),(WdE m i who v,(b,()))):=by
 unfold Znz WdE;rw[Weh hm,Wbd (by grind [WO]) hN,hm];simp only[ret,Xd,Xv,Wc,WaM,Wi8 hi,Wca,WaC,Wbp.2 hv,Wf hw.1,Wf hw.2,Xbo,Whi hm hi,We,Wio,Wdt];by_cases h:(WN m i).2.2=who
 .rw[Wb h,Wb h];exact⟨_,rfl⟩
 simp_all
theorem WfN(hm:W3 m=true){i who ver:Int}(hi:0<=i/\i<=7)(hw:1<=who/\who<=99)(hN:1048576<N):
  ∃b,Zkv N m i who ver=some ((),(Wbw m i who ver,(b,()))):=by
 have h8:=(WO hm).1;unfold Zkv Wbw;rw[Weh hm,Wbd (by omega) hN,hm];simp only[ret,Xd,Xv,Wc,WaM,Wi8 hi,Wca,W5,Wf hw.1,Wf hw.2,Xbo,Whi hm hi,We,Wio,Wdt,Xy,WA];by_cases h:(WN m i).2.2=who
 .rw[Wb h];by_cases h2:(WN m i).2.1<=ver/\ver<=m.1
  .rw[Wb ⟨h,h2.1,h2.2⟩,Wf h2.1,Wf h2.2];refine⟨true,?_⟩;have:i.toNat<m.2.length:=by omega
   simp only[Xbo,Xv,Wc,WlM this,Xcq];rfl
  .rw[Wa (by omega)];refine⟨false,?_⟩
   grind
 simp_all
theorem Wne(h:CmOk c)(hm:W3 m=true)(hN:1048576<N):Zi8 N m c.e=some ((),((WD m c).1,((WD m c).2.e,()))):=by
 obtain⟨c0,c1,c2,c3,c4,c5,c6⟩:=cmP c;have cJ:=h.pos;have eb:=h.plen;have hw:=h.who;have xV:c.steps<=8:=by have:=h.plen;have:=h.rlen;unfold Cm.steps;split<;>(try split)<;>omega
 have b1:=Wil (N:=N) h (show 0<=c.pos/\c.pos<=8 by omega);have b2:=Wil (N:=N) h (show 0<=Wi c.puts/\Wi c.puts<=8 by unfold Wi;omega);unfold Zi8 WD;rw[Weh hm,WkD h];simp only[ret,Xd];rw[Wbd (by grind [WO]) hN,WhT h hN,hm];simp only[ret,Xd,Xv,Wc,WC,c0,c1,c2,c3,c4,c5,c6,WgK,b1,b2,WtY h];by_cases h1:c.phase=1
 .rw[Wb h1,Wb h1];obtain⟨j,hj,e1,e2,e3,e4⟩:=h.put (by omega);rw[show Xc c.puts (Xa c.pos) ((0:Int),(0:Int))=c.puts[j]from e2,e2,e1,W9,Wf hj,WmP hm e3 hw hN,←e1]
  grind
 .rw[Wa h1,Wa h1];by_cases h2:c.phase=2
  .rw[Wb h2,Wb h2,Wm8 hm hN];simp only[Xd];by_cases ht:(tick m).2=0
   .rw[Wb ht,Wb ht];rfl
   .rw[Wa ht,Wa ht];rw[show(c.who,(c.rv,(c.phase,(c.pos,((tick m).2,c.e.2.2.2.2.2)))))=Cm.e {c with wv:=(tick m).2}from rfl,WtO];rfl
  .rw[Wa h2,Wa h2];by_cases h3:c.phase=3
   .rw[Wb h3,Wb h3];obtain⟨j,hj,e1,e2,e3,e4⟩:=h.read h3;rw[show Xc c.reads (Xa c.pos) (0:Int)=c.reads[j]from e2,e2,e1,W9,Wf hj,Whi hm ⟨e3,e4⟩];simp only[We,Wdt,WaP];rw[show Xc m.2 (Xa c.reads[j]) ((0:Int),((0:Int),(0:Int)))=WN m c.reads[j]from rfl];by_cases a:(WN m c.reads[j]).2.2=0
    .rw[Wb a];by_cases b:(WN m c.reads[j]).2.1>c.rv
     .rw[Wb b,Wb (.inr b)];rfl
     grind
    .rw[Wa a];by_cases a':(WN m c.reads[j]).2.2=c.who
     .rw[Wb a'];by_cases b:(WN m c.reads[j]).2.1>c.rv
      .rw[Wb b,Wb (.inr b)];rfl
      grind
     .rw[Wa a',Wb (.inl ⟨a,a'⟩)];rfl
   .rw[Wa h3,Wa h3];by_cases h4:c.phase=4
    .rw[Wb h4,Wb h4];obtain⟨j,hj,e1,e2,e3,e4⟩:=h.put (by omega)
     grind [Wln,Xc,Xa,W9,decide_eq_true]
    .rw[Wa h4,Wa h4];by_cases h5:c.phase=5
     .rw[Wb h5,Wb h5];obtain⟨j,hj,e1,e2,e3,e4⟩:=h.put (by omega);obtain⟨b,hb⟩:=WfN (ver:=c.wv) hm e3 hw hN
      grind [Xc,Xa,W9,decide_eq_true]
     .rw[Wa h5,Wa h5];by_cases h7:c.phase=7
      .rw[Wb h7,Wb h7];obtain⟨j,hj,e1,e2,e3,e4⟩:=h.put (by omega);obtain⟨b,hb⟩:=WfN (ver:=(WN m c.puts[j].1).2.1) hm e3 hw hN;rw[show Xc c.puts (Xa c.pos) ((0:Int),(0:Int))=c.puts[j]from e2,e2,e1,W9,Wf hj,Whi hm e3];simp only[We,Wio,hb,←e1];rfl
      simp_all
end
end
section
abbrev RM:=Int×Int×Int×Int×List Int
abbrev Wr:=Int×Int×List Rw
abbrev Pg:=List Opn×List (List Opn)
abbrev Ac:=Int×Int×Int
abbrev Sc:=Ki×List Pg×List Ac
structure Rt where
 phase:Int:=0
 tries:Int:=0
 spare:Int:=0
 pc:Int:=0
 rv:Int:=0
 newRv:Int:=0
 pos:Int:=0
 fate:Int:=0
 stamp:Int:=0
 began:Int:=0
 ended:Int:=0
 doomed:Bool:=false
 regs:List Int:=[]
 reads:List Rw:=[]
 writes:List Rw:=[]
 marks:List RM:=[]
 undos:List Un:=[]
 order:List Int:=[]
 busy:Bool:=false
 pb:Pb:=(0,0,0,0)
 cm:Cm:={}
 fam:Fm:={}
def Rt.e(r:Rt):Y_Root:=(r.phase,r.tries,r.spare,r.pc,r.rv,r.newRv,r.pos,r.fate,r.stamp,r.began,r.ended,r.doomed,r.regs,r.reads,r.writes,r.marks,r.undos,r.order,r.busy,r.pb,r.cm.e,r.fam.e)
structure Wo where
 now:Int:=0
 token:Int:=0
 mem:Mm:=(0,[])
 shelf:Shf:=([],0)
 holds:List Hd:=[]
 roots:List Rt:=[]
 hist:List Wr:=[]
def Wo.e(w:Wo):Y_World:=(w.now,w.token,w.mem,w.shelf,w.holds,w.roots.map Rt.e,w.hist)
def zRM:RM:=(0,0,0,0,[])
def Rt.last(x:Rt):RM:=Wct x.marks zRM
def WdA(x:Rt):Rt:={phase:=6,tries:=x.tries,undos:=x.undos}
def WF(x:Rt):Rt:=
 if x.marks.length=0\/x.spare=2 then WdA x else{x with spare:=x.spare+1,busy:=false,pb:=(0,0,0,0),phase:=3}
def Wd1(w:Wo)(x:Rt):Wo×Rt:=({w with shelf:=WdB w.shelf (Wct x.undos (0,0,0))},{x with undos:=x.undos.dropLast})
def WjE(w:Wo)(x:Rt)(k:Nat):Wo×Rt:=
 ({w with token:=if w.token=(k:Int)+1 then 0 else w.token},{x with phase:=8,ended:=w.now,undos:=[],doomed:=false})
def WaT(w:Wo)(x:Rt)(k:Nat)(out:Int):Wo×Rt:=
 let rows:=if out=2 then []else x.writes
 if rows.length=0/\(Wea w.holds ((k:Int)+1)).length=0 then WjE w {x with fate:=out,stamp:=x.rv} k
 else(w,{x with fate:=out,cm:=Wbj ((k:Int)+1) x.rv rows x.reads,phase:=5})
def Wdm(w:Wo)(x:Rt)(o:Opn):Rt:=
 match WaF x.writes o.2.2.1 with
 |some v=>{x with regs:=WjD x.regs o.2.1 v,pc:=x.pc+1}
 |none=>
  let p:=WM w.mem x.rv (if x.busy then x.pb else(o.2.2.1,0,0,0))
  if p.2.1=4 then WF {x with busy:=true,pb:=p}
  else if p.2.1=3 then{x with regs:=WjD x.regs o.2.1 p.2.2.2,reads:=x.reads++ [(o.2.2.1,p.2.2.2)],busy:=false,pb:=(0,0,0,0),pc:=x.pc+1}
  else{x with busy:=true,pb:=p}
def WcD(w:Wo)(x:Rt)(k:Nat)(code:List Opn):Wo×Rt:=
 if x.marks.length=0 then WaT w x k 2 else
 if(x.undos.length:Int)>x.last.2.2.2.1 then Wd1 w x else
 (w,{x with marks:=x.marks.dropLast,regs:=WjD x.last.2.2.2.2 (opN code x.last.1).2.1 0,writes:=x.writes.take x.last.2.2.1.toNat,pc:=Wer code x.last.1.toNat+1})
def Wcd(w:Wo)(x:Rt)(k:Nat)(o:Opn):Wo×Rt:=
 match WaY w.holds ((k:Int)+1) (WaU o).1 (WaU o).2 with
 |none=>(w,WF x)
 |some hs=>
  let b:=W0 w.shelf o x.regs
  ({w with holds:=hs,shelf:=b.1},{x with regs:=b.2.1,undos:=if b.2.2.1=0 then x.undos else x.undos++ [b.2.2],pc:=x.pc+1})
def WfG(w:Wo)(x:Rt)(k:Nat)(p:Pg):Wo×Rt:=
 if x.pc>=p.1.length then WaT w x k 1 else
 let o:=opN p.1 x.pc
 if o.1=5 then(w,Wdm w x o)else
 if o.1=10 then WcD w x k p.1 else
 if o.1=11 then(w,{x with phase:=2,fam:=Wad x.rv x.regs x.writes p.2.length})else
 if o.1>=12 then Wcd w x k o else
 if o.1=6 then(w,{x with writes:=x.writes++ [(o.2.1,Wa0 x.regs o.2.2.1 0)],pc:=x.pc+1})else
 if o.1=7 then(w,{x with pc:=(if Wa0 x.regs o.2.1 0=0 then x.pc+o.2.2.1 else x.pc)+1})else
 if o.1=8 then(w,{x with marks:=x.marks++ [(x.pc,(x.reads.length:Int),(x.writes.length:Int),(x.undos.length:Int),x.regs)],pc:=x.pc+1})else
 if o.1=9 then(w,{x with marks:=x.marks.dropLast,regs:=WjD x.regs (opN p.1 x.last.1).2.1 1,pc:=x.pc+1})else
 (w,{x with regs:=Wg9 o x.regs,pc:=x.pc+1})
def WbD(k:Nat):List Rt->Nat->Bool
 | [],_=>true
 |x::l,i=>(decide (i=k)||(decide (x.phase=0)||decide (x.phase=8)))&&WbD k l (i+1)
def WfA(w:Wo)(x:Rt)(k:Nat):Wo×Rt:=
 if w.token≠0/\w.token≠(k:Int)+1 then(w,x)else
 if x.tries>=3/\w.token=0 then({w with token:=(k:Int)+1},x)else
 if w.token=(k:Int)+1/\WbD k w.roots 0=false then(w,x)else
 (w,{phase:=1,tries:=x.tries,rv:=w.mem.1,began:=w.now,regs:=[0,0,0,0]})
def Wco(x:Rt):Rt:=
 if x.fam.lost then WdA x else
 if Wbe x.fam then{x with regs:=Wee x.fam,writes:=Wb1 x.fam,reads:=x.reads++x.fam.reads,order:=x.fam.order,fam:={},phase:=1,pc:=x.pc+1}
 else x
def WbT(w:Wo)(x:Rt):Wo×Rt:=
 if(x.undos.length:Int)>x.last.2.2.2.1 then Wd1 w x else(w,{x with newRv:=w.mem.1,pos:=0,phase:=4})
def Wbq(w:Wo)(x:Rt):Rt:=
 if x.pos<x.last.2.1 then
  let c:=WN w.mem (Wa0 x.reads x.pos (0,0)).1
  if c.2.2≠0\/c.2.1>x.rv then WdA x else{x with pos:=x.pos+1}
 else{x with rv:=x.newRv,newRv:=0,pos:=0,reads:=x.reads.take x.last.2.1.toNat,writes:=x.writes.take x.last.2.2.1.toNat,regs:=x.last.2.2.2.2,pc:=x.last.1+1,phase:=1}
def WcL(x:Rt):Rt:=
 if x.cm.phase=8 then WdA x else
 if x.cm.phase=6 then{x with stamp:=x.cm.wv,cm:={},phase:=if x.fate=2 then 6 else 7}else x
def WaW(w:Wo)(x:Rt)(k:Nat):Wo×Rt:=
 if x.doomed then(w,if(WaB x.cm).phase=8 then WdA x else{x with cm:=WaB x.cm,doomed:=false})else
 let q:=WD w.mem x.cm
 ({w with mem:=q.1,hist:=if x.cm.phase<=3/\q.2.phase=4 then w.hist++ [(q.2.wv,(k:Int)+1,q.2.puts)]else w.hist},WcL {x with cm:=q.2})
def Wan(w:Wo)(x:Rt)(k:Nat)(p:Pg):Wo×Rt:=
 if x.doomed=true/\1<=x.phase/\x.phase<=4 then(w,WdA x)else
 if x.phase=0 then WfA w x k else
 if x.phase=1 then WfG w x k p else
 if x.phase=2 then(w,Wco x)else
 if x.phase=3 then WbT w x else
 if x.phase=4 then(w,Wbq w x)else
 if x.phase=5 then WaW w x k else
 if x.phase=6 then(if x.undos.length>0 then Wd1 w x else(w,{x with phase:=7}))else
 if x.phase=7 then
  (if x.fate=0 then({w with holds:=Wab w.holds ((k:Int)+1)},{tries:=x.tries+1})
   else WjE {w with holds:=Wab w.holds ((k:Int)+1)} x k)
 else(w,x)
def Wo.put(q:Wo×Rt)(k:Nat):Wo:={q.1 with roots:=q.1.roots.set k q.2}
def rt0:Rt:={}
def pg0:Pg:=([],[])
def WmG(w:Wo)(k:Nat)(p:Pg):Wo:=Wo.put (Wan w (w.roots.getD k rt0) k p) k
def WxA(w:Wo)(x:Rt)(k j:Nat)(p:Pg):Wo:=Wo.put (w,{x with fam:=Wax w.mem x.fam j (p.2.getD j [])}) k
def WhB(s:Sc)(w0:Wo)(a:Ac):Wo:=
 let w:={w0 with now:=w0.now+1}
 if 0<=a.2.1/\a.2.1<w.roots.length then
  let k:=a.2.1.toNat
  let x:=w.roots.getD k rt0
  let p:=s.2.1.getD k pg0
  if a.1=1 then WmG w k p else
  if a.1=2 then(if x.phase=2/\0<=a.2.2/\a.2.2<p.2.length then WxA w x k a.2.2.toNat p else w)else
  if a.1=3 then(if(1<=x.phase/\x.phase<=4)\/(x.phase=5/\x.cm.phase<=3)then Wo.put (w,{x with doomed:=true}) k else w)else w
 else w
def Wez(s:Sc):Wo:={mem:=Wgt s.1.1,shelf:=(WiL s.1.2.1,s.1.2.2),roots:=Xo s.2.1.length {}}
def WhA(s:Sc):Wo:=s.2.2.foldl (WhB s) (Wez s)
structure RMk(code:List Opn)(pc:Nat)(marks:List RM)(rl wl ul:Nat):Prop where
 pcs:marks.map (·.1)=(stk code pc).map λm:Nat=>(m:Int)
 each:∀q∈marks,Vals 4 q.2.2.2.2/\(0<=q.2.1/\q.2.1<=q.1+72*frk code q.1.toNat/\q.2.1<=rl)/\(0<=q.2.2.1/\q.2.2.1<=q.1+8/\q.2.2.1<=wl)/\0<=q.2.2.2.1/\q.2.2.2.1<=q.1/\q.2.2.2.1<=ul
 up:marks.Pairwise λa b=>a.2.1<=b.2.1/\a.2.2.1<=b.2.2.1/\a.2.2.2.1<=b.2.2.2.1
structure RLive(p:Pg)(n:Int)(x:Rt):Prop where
 pc:0<=x.pc/\x.pc<=p.1.length
 spare:0<=x.spare/\x.spare<=2
 rv:0<=x.rv/\x.rv<=1000000
 regs:Vals 4 x.regs
 reads:Weq x.reads
 rl:(x.reads.length:Int)<=x.pc+72*frk p.1 x.pc.toNat
 writes:Weq x.writes
 wl:(x.writes.length:Int)<=x.pc+8
 ul:(x.undos.length:Int)<=x.pc
 marks:RMk p.1 x.pc.toNat x.marks x.reads.length x.writes.length x.undos.length
 pb:x.busy=true->Wk7 x.pb=true
 fork:x.phase=2->x.pc<p.1.length/\(opN p.1 x.pc).1=11/\FOk p.2 n x.fam
 back:x.phase=3\/x.phase=4->x.marks.length≠0
 newRv:0<=x.newRv/\x.newRv<=1000000
 pos:x.phase=4->0<=x.pos/\x.pos<=x.last.2.1
 unw:x.phase=4->(x.undos.length:Int)<=x.last.2.2.2.1
structure ROk(p:Pg)(n:Int)(x:Rt):Prop where
 phase:0<=x.phase/\x.phase<=8
 tries:0<=x.tries/\x.tries<=n
 live:1<=x.phase/\x.phase<=4->RLive p n x
 comm:x.phase=5->CmOk x.cm
 undos:∀u∈x.undos,UnV u
 ul:x.undos.length<=24
 rg:x.regs.length<=4
 ord:x.order.length<=3
structure POk(p:Pg):Prop where
 code:CC p.1
 kids:∀c∈p.2,KC c
 k3:p.2.length<=3
def HE(h:Wr):Prop:=h.2.2.length<=8/\Weq h.2.2/\1<=h.2.1/\h.2.1<=9
structure WOk(ps:List Pg)(n:Int)(w:Wo):Prop where
 len:w.roots.length=ps.length
 l4:ps.length<=4
 progs:∀p∈ps,POk p
 now:w.now=n
 n0:0<=n
 mem:W3 w.mem=true
 shelf:ShOk w.shelf
 holds:HOk w.holds
 hist:(w.hist.length:Int)<=n
 histE:∀h∈w.hist,HE h
 root:∀(k:Nat) (h:k<w.roots.length),ROk (ps.getD k pg0) n w.roots[k]
end
section
theorem rtP(x:Rt):x.e.1=x.phase/\x.e.2.1=x.tries/\x.e.2.2.1=x.spare/\x.e.2.2.2.1=x.pc/\P4 x.e=x.rv/\P5 x.e=x.newRv/\P6 x.e=x.pos/\P7 x.e=x.fate/\P8 x.e=x.stamp/\P11 x.e=x.doomed/\P12 x.e=x.regs/\P13 x.e=x.reads/\P14 x.e=x.writes/\P15 x.e=x.marks/\P16 x.e=x.undos/\P18 x.e=x.busy/\P19 x.e=x.pb/\P20 x.e=x.cm.e/\Q21 x.e=x.fam.e/\P24 x.e=x.fam.lost/\P28 x.e=x.fam.order/\P29 x.e=x.fam.reads:=
 ⟨rfl,rfl,rfl,rfl,rfl,rfl,rfl,rfl,rfl,rfl,rfl,rfl,rfl,rfl,rfl,rfl,rfl,rfl,rfl,rfl,rfl,rfl⟩
theorem S5e(w:Wo)(k:Nat)(x:Rt):S5 (Xg (w.roots.map Rt.e) k x.e) w.e=Wo.e {w with roots:=w.roots.set k x}:=by
 unfold S5 Wo.e;rw[List.map_set]
theorem Wdp{w w':Wo}{k:Nat}{x':Rt}{y:Y_Root}{g:Y_World}(hy:y=x'.e)(hg:g=w'.e)(hr:w'.roots=w.roots):
  some ((S5 (Xg (w.roots.map Rt.e) k y) g,()),())=some (((Wo.put (w',x') k).e,()),()):=by
 subst hy hg;rw[←hr,S5e];rfl
variable{N:Nat}{w:Wo}{k:Nat}{x:Rt}{o:Opn}{p:Pg}{n:Int}{code:List Opn}
theorem woG(hk:k<w.roots.length)(bg:w.roots[k]=x):Xc (w.roots.map Rt.e) k d_Root=x.e/\Xc (w.roots.map Rt.e) (Xa (k:Int)) d_Root=x.e/\S5 (Xg (w.roots.map Rt.e) (Xa (k:Int)) x.e) w.e=w.e/\inb (k:Int) (w.roots.map Rt.e).length=true/\S5 (Xg (w.roots.map Rt.e) k x.e) w.e=w.e:=by
 have h1:Xc (w.roots.map Rt.e) k d_Root=x.e:=by
  have:=Wsb Rt.e w.roots k {};rw[Wn hk,bg]at this;exact this
 have h2:S5 (Xg (w.roots.map Rt.e) k x.e) w.e=w.e:=by rw[S5e,←bg,Xap]
 rw[Xi];refine⟨h1,h1,h2,?_,h2⟩;rw[W9,Xad];exact Wf hk
theorem Wpt(hk:k<w.roots.length)(bg:w.roots[k]=x):Wo.put (w,x) k=w:=by
 unfold Wo.put;simp only;rw[←bg,Xap]
theorem Wfe:Zbc N x.e=some (((WdA x).e,()),()):=rfl
theorem WeO(hs:0<=x.spare/\x.spare<=2):Zc4 N x.e=some (((WF x).e,()),()):=by
 obtain⟨r0,r1,r2,r3,r4,r5,r6,r7,r8,kX,kq,jw,jx,jV,jW,lR,lS,kY,kZ,lT,lU,lV⟩:=rtP x;unfold Zc4 WF;simp only[WC,jV,r2,Wi,Wfe,Xd];by_cases h1:x.marks.length=0
 .rw[Wb (by omega),Wb (.inl h1)]
 .rw[Wa (by omega)];by_cases h2:x.spare=2
  .rw[Wb h2,Wb (.inr h2)]
  .rw[Wa h2,Wa (by omega),WH (by unfold I64;omega)];rfl
theorem WeT{α:Type}{l:List α}(h:l.length≠0)(hl:l.length<=1000)(d:α):inb (Ws .i64 (Wi l) 1) l.length=true/\Xc l (Xa (Ws .i64 (Wi l) 1)) d=Wct l d/\Xal (Xa (Ws .i64 (Wi l) 1)) l=l.dropLast/\(decide ((0:Int)<=Ws .i64 (Wi l) 1)&&decide (Ws .i64 (Wi l) 1<=(l.length:Int)))=true:=by
 have e:Ws .i64 (Wi l) 1=((l.length-1:Nat):Int):=by rw[Wp2 (by omega)];omega
 rw[e];refine⟨by rw[W9];exact Wf (by omega),by rw[Xi];rfl,by rw[Xi,List.dropLast_eq_take],by simp⟩
theorem WpU(h:x.marks.length≠0)(hl:x.marks.length<=1000):Zhr N x.e=some ((x.e,()),(x.last,())):=by
 obtain⟨a,b,c,d⟩:=WeT h hl zRM;unfold Zhr;rw[show x.e.2.2.2.2.2.2.2.2.2.2.2.2.2.2.2.1=x.marks from rfl,a];simp only[We];rw[show((0:Int),((0:Int),((0:Int),((0:Int),([]:List Int)))))=zRM from rfl,b];rfl
theorem WmD(h:x.marks.length≠0)(hl:x.marks.length<=1000):Zdr N x.e=some ((),((x.last.1,(x.last.2.1,(x.last.2.2.1,x.last.2.2.2.1))),())):=by
 obtain⟨a,b,c,d⟩:=WeT h hl zRM;unfold Zdr;simp only[WA];rw[show P15 x.e=x.marks from rfl,a];simp only[We];rw[show((0:Int),((0:Int),((0:Int),((0:Int),([]:List Int)))))=zRM from rfl,b];rfl
theorem Wlu(hk:k<w.roots.length)(bg:w.roots[k]=x)(hz:x.undos.length≠0)(hl:x.undos.length<=1000)(hu:∀u∈x.undos,UnV u)(hs:ShOk w.shelf)(hN:1048576<N):
  Zcd N w.e k=some (((Wo.put (Wd1 w x) k).e,()),()):=by
 obtain⟨g1,g2,g3,g4,g5⟩:=woG hk bg;obtain⟨a,b,c,d⟩:=WeT hz hl ((0,0,0):Un);have hmem:Wct x.undos ((0,0,0):Un)∈x.undos:=by
  unfold Wct;rw[Wn (show x.undos.length-1<x.undos.length by omega)];exact Xw _
 unfold Zcd Wd1;simp only[WA];rw[show P5 w.e=w.roots.map Rt.e from rfl,g1];rw[show x.e.2.2.2.2.2.2.2.2.2.2.2.2.2.2.2.2.1=x.undos from rfl,a,b,show w.e.2.2.2.1=w.shelf from rfl,Wjb hs (hu _ hmem) hN,c];simp only[We,Xd,d];exact Wdp rfl rfl rfl
theorem WrS(hk:k<w.roots.length)(bg:w.roots[k]=x)(na:k<=1000):Zf5 N w.e (k:Int)=some (((Wo.put (WjE w x k) k).e,()),()):=by
 obtain⟨g1,g2,g3,g4,g5⟩:=woG hk bg;unfold Zf5 WjE;simp only[WA];rw[show P5 w.e=w.roots.map Rt.e from rfl,g4,g2,Wc2 (by omega),Xi];simp only[We,WC];rw[show w.e.2.1=w.token from rfl];by_cases h:w.token=(k:Int)+1
 .rw[Wb h];simp only[Wb h];exact Wdp rfl rfl rfl
 .rw[Wa h];simp only[Wa h];exact Wdp rfl rfl rfl
theorem Wmn(hk:k<w.roots.length)(bg:w.roots[k]=x)(na:k<=8)(hh:HOk w.holds)(mf:0<=x.rv/\x.rv<=1000000)(hr:Wbm x.reads=true)(hw:Wbm x.writes=true){out:Int}(hN:1048576<N):
  Zgn N w.e (k:Int) out=some (((Wo.put (WaT w x k out) k).e,()),()):=by
 obtain⟨g1,g2,g3,g4,g5⟩:=woG hk bg;obtain⟨r0,r1,r2,r3,r4,r5,r6,r7,r8,kX,kq,jw,jx,jV,jW,lR,lS,kY,kZ,lT,lU,lV⟩:=rtP x;have vr:=Wlo hh;have qV:∀y:Rt,Zf5 N (S5 (Xg (w.roots.map Rt.e) (Xa (k:Int)) y.e) w.e) (k:Int)=some (((Wo.put (WjE w y k) k).e,()),()):=λy=>by
  rw[Xi,S5e];have h1:k<({w with roots:=w.roots.set k y}:Wo).roots.length:=by simpa using hk
  rw[WrS (x:=y) h1 (by simp) (by omega)];unfold WjE Wo.put;simp only[Xcq]
 unfold Zgn WaT;simp only[WA];rw[show P5 w.e=w.roots.map Rt.e from rfl,g4,g2,Wc2 (by omega),show P4 w.e=w.holds from rfl];have xW:∀{α:Type} (a b:α),(bif ((0:Int)==(0:Int))then a else b)=a:=λ_ _=>rfl;have Ca:∀{α:Type} (a b:α),(bif ((0:Nat)==(0:Nat))then a else b)=a:=λ_ _=>rfl;simp only[xW,Ca];simp only[We,WC,r4,jw,jx,Wjy (who:=(k:Int)+1) hh (by omega) hN,ret,Xd,Wi];have z7:∀rows,Wbm rows=true->Zeb N ((k:Int)+1) x.rv rows x.reads=some ((),((Wbj ((k:Int)+1) x.rv rows x.reads).e,(true,()))):=λrows gj=>Wwe (by omega) mf gj hr hN;have bY:Zeb N ((k:Int)+1) x.rv ([]:List Kc) x.reads=some ((),((Wbj ((k:Int)+1) x.rv [] x.reads).e,(true,()))):=z7 [] rfl;have bb:(S8 x.rv (S7 out x.e))=Rt.e {x with fate:=out,stamp:=x.rv}:=rfl;rw[bY,z7 _ hw,bb,qV];simp only[Xd];by_cases ho:out=2
 .rw[Wb ho,Wb ho];by_cases hz:(Wea w.holds ((k:Int)+1)).length=0
  .rw[Wb (by omega),Wb ⟨rfl,hz⟩]
  .rw[Wa (by omega),Wa (λh=>hz h.2),Xi];exact Wdp rfl rfl rfl
 .rw[Wa ho,Wa ho];by_cases hy:x.writes.length=0
  .rw[Wb (by omega)];by_cases hz:(Wea w.holds ((k:Int)+1)).length=0
   .rw[Wb (by omega),Wb ⟨hy,hz⟩]
   .rw[Wa (by omega),Wa (λh=>hz h.2),Xi];exact Wdp rfl rfl rfl
  .rw[Wa (by omega),Wa (λh=>hy h.1),Xi];exact Wdp rfl rfl rfl
theorem Wmi{l:List Rw}(h:Weq l)(hl:l.length<=300):Wbm l=true:=by
 unfold Wbm;rw[Wim.2 h,Wf hl];rfl
theorem Wd3(hc:CC code):∀j,j<=code.length->frk code j<=1
 |0,_=>by simp[frk]
 |j+1,h=>by
  have hj:j<code.length:=by omega
  by_cases fA:code[j].1=11
  .exact(hc.fk j hj fA).2
  .rw[Wc1 hj,show(code[j].1==11)=false by simpa using fA];have:=Wd3 hc j (by omega);simpa using this
theorem RLive.sz(hc:CC p.1)(h:RLive p n x):x.reads.length<=96/\x.writes.length<=32/\x.undos.length<=24/\x.marks.length<=24/\Wbm x.reads=true/\Wbm x.writes=true:=by
 have h1:=h.pc;have h2:=hc.len;have h3:=Wd3 hc x.pc.toNat (by omega);have h4:=h.rl;have h5:=h.wl;have h6:=h.ul;have h7:=Wm Xb h.marks.pcs;simp only[Xad]at h7;have h8:=WaV hc.up x.pc.toNat (by omega);have h9:=(WcN p.1 x.pc.toNat).2;exact⟨by omega,by omega,by omega,by omega,Wmi h.reads (by omega),Wmi h.writes (by omega)⟩
theorem WsP(hb:x.busy=true->Wk7 x.pb=true){c:Int}(hc:0<=c/\c<=7):Wk7 (if x.busy then x.pb else(c,0,0,0))=true:=by
 split
 .exact hb ‹_›
 .rw[Wfu];simp only;omega
theorem Wt4(hk:k<w.roots.length)(bg:w.roots[k]=x)(hc:CC p.1)(hx:RLive p n x)(hm:W3 w.mem=true)(h5:o.1=5)(ho:WcO o=true)(hN:1048576<N):
  Zi7 N w.e k o=some (((Wo.put (w,Wdm w x o) k).e,()),()):=by
 obtain⟨g1,g2,g3,g4,g5⟩:=woG hk bg;obtain⟨r0,r1,r2,r3,r4,r5,r6,r7,r8,kX,kq,jw,jx,jV,jW,lR,lS,kY,kZ,lT,lU,lV⟩:=rtP x;obtain⟨z1,z2,z3,z4,z5,z6⟩:=hx.sz hc;obtain⟨hA,hB⟩:=WpI ho h5;have hB':0<=o.2.2.1/\o.2.2.1<=7:=by unfold W8 at hB;simpa using hB
 have dN:=hx.regs.len;have aR:=hx.pc;have hcl:=hc.len;have cI:=hx.spare;unfold Zi7 Wdm;simp only[WA];rw[show P5 w.e=w.roots.map Rt.e from rfl,g1,show w.e.2.2.1=w.mem from rfl];simp only[r3,r4,kq,jw,jx,lR,lS];rw[We3 (by omega) hN,WZ hA dN,Wc2 (by omega)];cases hl:WaF x.writes o.2.2.1 with
 |some v=>
  simp only[opI,Xd,We];exact Wdp rfl rfl rfl
 |none=>
  have aH:WB (x.reads.length+ [(o.2.2.1,(0:Int))].length)=true:=Wx (by simp;omega);have mq:Ze4 N o.2.2.1=some ((),((o.2.2.1,0,0,0),(true,()))):=by
   unfold Ze4;rw[WaM,hB];rfl
  have fR:=WsP hx.pb hB';have tY:S18 true x.e=Rt.e {x with busy:=true}:=rfl;simp only[opI,Xd,Wc,WC,mq,tY];have eN:∀q:Pb,S19 q (Rt.e {x with busy:=true})=Rt.e {x with busy:=true,pb:=q}:=λq=>rfl;simp only[eN,WeO (x:={x with busy:=true,pb:=_}) cI];cases hb:x.busy with
  |false=>
   rw[hb]at fR;simp only[Xbk,WaE]at fR;rw[Wfj hm fR hN];simp only[Bool.not_false,We,ret,Xd,Xbk,WaE];generalize WM w.mem x.rv (o.2.2.1,0,0,0)=q;by_cases h4:q.2.1=4
   .rw[Wb h4,Wb h4];exact Wdp rfl rfl rfl
   .rw[Wa h4,Wa h4];by_cases h3:q.2.1=3
    .rw[Wb h3,Wb h3,Wx (by simp;omega)];exact Wdp rfl rfl rfl
    .rw[Wa h3,Wa h3];exact Wdp rfl rfl rfl
  |true=>
   have bF:∀q:Pb,S19 q x.e=Rt.e {x with busy:=true,pb:=q}:=λq=>by
    have:S19 q x.e=Rt.e {x with pb:=q}:=rfl;rw[this]
    conv=>lhs;rw[show({x with pb:=q}:Rt)={x with busy:=x.busy,pb:=q}from rfl,hb]
   rw[hb]at fR;simp only[WaD]at fR;rw[Wfj hm fR hN];simp only[Xv,Wc,ret,Xd,WaD,bF,WeO (x:={x with busy:=true,pb:=_}) cI];generalize WM w.mem x.rv x.pb=q;by_cases h4:q.2.1=4
   .rw[Wb h4,Wb h4];exact Wdp rfl rfl rfl
   .rw[Wa h4,Wa h4];by_cases h3:q.2.1=3
    .rw[Wb h3,Wb h3,Wx (by simp;omega)];exact Wdp rfl rfl rfl
    .rw[Wa h3,Wa h3];exact Wdp rfl rfl rfl
end
section
abbrev M7:=Int×List Int×List Int×List Int×Int
section
variable{R:Type}{N:Nat}{rec:Kab->Kx->Kg->Kg->Ki->Option Ku}{code:List Opn}{kids:List (List Opn)}{ord:List Int}{ak:Int}{aG aJ:List Int}{K0:List Int->Option R}{K1:Int->Bool->List Int->Int->List M7->List Int->List Int->Option R}
 {n pc:Nat} {r c m:List Int} {ct:Int} {mk q:List M7} {x:M7}
noncomputable def wk(N:Nat)(rec:Kab->Kx->Kg->Kg->Ki->Option Ku)(code:List Opn)(kids:List (List Opn))(ord:List Int)(ak:Int)(aG aJ:List Int)(K0:List Int->Option R)(K1:Int->Bool->List Int->Int->List M7->List Int->List Int->Option R)(n:Nat)(pc:Int)(r:List Int)(ct:Int)(mk:List M7)(c m:List Int):Option R:=
 Zd N rec code kids ord ak aG aJ K0 K1 n pc r ct mk c m
theorem Wxz:wk N rec code kids ord ak aG aJ K0 K1 (n+1) (code.length:Int) r ct mk c m=K1 (code.length:Int) false r ct mk c m:=by
 simp[wk,Zd,Wat,Xn,Wc]
theorem ws5(hp:pc<code.length)(dj:code.length<=24)(hk:code[pc].1=5)(ho:WcO code[pc]=true)(hr:r.length=4)(hc:c.length=8):wk N rec code kids ord ak aG aJ K0 K1 (n+1) (pc:Int) r ct mk c m=wk N rec code kids ord ak aG aJ K0 K1 n ((pc+1:Nat):Int) (r.set code[pc].2.1.toNat (c.getD code[pc].2.2.1.toNat 0)) ct mk c m:=by
 obtain⟨o1,o2⟩:=WpI ho hk;simp only[wk,Zd,W2 hp,Wq hp,Wt hp,We,Wc,hk,Win o2 hc,WZ o1 hr,Wp (show pc<4611686018427387904 by omega),beq_self_eq_true]
theorem ws6(hp:pc<code.length)(dj:code.length<=24)(hk:code[pc].1=6)(ho:WcO code[pc]=true)(hr:r.length=4)(hc:c.length=8):wk N rec code kids ord ak aG aJ K0 K1 (n+1) (pc:Int) r ct mk c m=wk N rec code kids ord ak aG aJ K0 K1 n ((pc+1:Nat):Int) r ct mk (c.set code[pc].2.1.toNat (r.getD code[pc].2.2.1.toNat 0)) m:=by
 obtain⟨o1,o2⟩:=Wwu ho hk;simp only[wk,Zd,W2 hp,Wq hp,Wt hp,We,Wc,hk,Win o1 hc,WZ o2 hr,Wp (show pc<4611686018427387904 by omega),beq_self_eq_true,show((6:Int)==5)=false from rfl]
theorem ws7(hp:pc<code.length)(dj:code.length<=24)(hk:code[pc].1=7)(ho:WcO code[pc]=true)(hr:r.length=4):wk N rec code kids ord ak aG aJ K0 K1 (n+1) (pc:Int) r ct mk c m=wk N rec code kids ord ak aG aJ K0 K1 n (((if r.getD code[pc].2.1.toNat 0=0 then(pc:Int)+code[pc].2.2.1 else pc)+1)) r ct mk c m:=by
 obtain⟨o1,o2,o3⟩:=WtB ho hk;have e2:Wl .i64 ((pc+1:Nat):Int) code[pc].2.2.1=(pc:Int)+code[pc].2.2.1+1:=by grind [WH,I64]
 simp only[wk,Zd,W2 hp,Wq hp,Wt hp,We,Wc,hk,WZ o1 hr,Wp (show pc<4611686018427387904 by omega),beq_self_eq_true,show((7:Int)==5)=false from rfl,show((7:Int)==6)=false from rfl,WC,e2]
 grind
theorem ws8(hp:pc<code.length)(dj:code.length<=24)(hk:code[pc].1=8)(hr:r.length=4)(hc:c.length=8)(hm:m.length=8)(hq:mk.length<=1000):wk N rec code kids ord ak aG aJ K0 K1 (n+1) (pc:Int) r ct mk c m=wk N rec code kids ord ak aG aJ K0 K1 n ((pc+1:Nat):Int) r ct (mk++ [((pc:Int),(r,(c,(m,ct))))]) c m:=by
 have r0:WB (([]:List Int).length+r.length)=true:=Wx (by grind);have r1:WB (mk.length+ [((pc:Int),(r,(c,(m,ct))))].length)=true:=Wx (by simp;omega);have en:∀x:List Int,Xe ([]:List Int) x=x:=λx=>rfl;simp only[wk,Zd,W2 hp,Wq hp,Wt hp,We,Wc,hk,r0,Wfp (N:=N) (ct:=ct) (show c.length<=1000 by omega) (show m.length<=1000 by omega),ret,Xd,en,r1,Wp (show pc<4611686018427387904 by omega),beq_self_eq_true,show((8:Int)==5)=false from rfl,show((8:Int)==6)=false from rfl,show((8:Int)==7)=false from rfl];rfl
theorem ws9(hp:pc<code.length)(dj:code.length<=24)(hk:code[pc].1=9){j:Nat}(hj:j<code.length)(h8:code[j].1=8)(kA:WcO code[j]=true)(hx:x.1=(j:Int))(hr:r.length=4)(hq:q.length<1000):wk N rec code kids ord ak aG aJ K0 K1 (n+1) (pc:Int) r ct (q++ [x]) c m=wk N rec code kids ord ak aG aJ K0 K1 n ((pc+1:Nat):Int) (r.set code[j].2.1.toNat 1) ct q c m:=by
 simp only[wk,Zd,W2 hp,Wq hp,Wt hp,We,Wc,hk,Wp (show pc<4611686018427387904 by omega),beq_self_eq_true,show((9:Int)==5)=false from rfl,show((9:Int)==6)=false from rfl,show((9:Int)==7)=false from rfl,show((9:Int)==8)=false from rfl,Wig hq,Wie,Wid];simp only[Xi,Wip,WdG,hx,Wq hj,Wn hj,WZ (WvA kA h8) hr,We]
theorem WxH(hp:pc<code.length)(hk:code[pc].1=10):wk N rec code kids ord ak aG aJ K0 K1 (n+1) (pc:Int) r ct [] c m=K0 r:=by
 simp only[wk,Zd,W2 hp,Wq hp,Wt hp,We,Wc,hk,beq_self_eq_true,show((10:Int)==5)=false from rfl,show((10:Int)==6)=false from rfl,show((10:Int)==7)=false from rfl,show((10:Int)==8)=false from rfl,show((10:Int)==9)=false from rfl];rfl
theorem WxO(hN:1048576<N)(hp:pc<code.length)(dj:code.length<=24)(hk:code[pc].1=10){j e:Nat}(hj:j<code.length)(h8:code[j].1=8)(kA:WcO code[j]=true)(bq:Mate code j e)(hx:x.1=(j:Int))(hr:x.2.1.length=4)(hc:x.2.2.1.length=8)(hm:x.2.2.2.1.length=8)(hq:q.length<1000):wk N rec code kids ord ak aG aJ K0 K1 (n+1) (pc:Int) r ct (q++ [x]) c m=wk N rec code kids ord ak aG aJ K0 K1 n ((e+1:Nat):Int) (x.2.1.set code[j].2.1.toNat 0) x.2.2.2.2 q x.2.2.1 x.2.2.2.1:=by
 have e3:(Wi (q++ [x])==0)=false:=by
  grind [Wi,Xs]
 have hel:=bq.len;have r1:WB (([]:List Int).length+x.2.1.length)=true:=Wx (by grind);have en:∀x:List Int,Xe ([]:List Int) x=x:=λx=>rfl;have c3:x.2.2=(x.2.2.1,(x.2.2.2.1,x.2.2.2.2)):=rfl;have cp:=Wfp (N:=N) (ct:=x.2.2.2.2) (show x.2.2.1.length<=1000 by omega) (show x.2.2.2.1.length<=1000 by omega);rw[←c3]at cp;simp only[wk,Zd,W2 hp,Wq hp,Wt hp,We,Wc,hk,beq_self_eq_true,show((10:Int)==5)=false from rfl,show((10:Int)==6)=false from rfl,show((10:Int)==7)=false from rfl,show((10:Int)==8)=false from rfl,show((10:Int)==9)=false from rfl,e3,Wig hq,Wie,Wid];simp only[Xi,Wip,WdG,r1,cp,ret,Xd,hx,Wq hj,Wn hj,en,WZ (WvA kA h8) hr,WiO (N:=N) (l:=code) (by omega) hN ⟨hj,h8⟩ bq,Wp (show e<4611686018427387904 by omega),We]
theorem WxV(hp:pc<code.length)(dj:code.length<=24)(hk:code[pc].1=12)(ho:WcO code[pc]=true)(hr:r.length=4)(hm:m.length=8)(hv:0<=r.getD code[pc].2.2.1.toNat 0/\r.getD code[pc].2.2.1.toNat 0<=65535):wk N rec code kids ord ak aG aJ K0 K1 (n+1) (pc:Int) r ct mk c m=wk N rec code kids ord ak aG aJ K0 K1 n ((pc+1:Nat):Int) (r.set code[pc].2.2.2.toNat (WdF (m.getD code[pc].2.1.toNat 0) 65536)) ct mk c (m.set code[pc].2.1.toNat (1+r.getD code[pc].2.2.1.toNat 0)):=by
 obtain⟨o1,o2,o3⟩:=Wn6 ho hk;have ek:inb code[pc].2.1 m.length=true:=by grind [Weg,inb]
 have ea:Wl .i64 1 (r.getD code[pc].2.2.1.toNat 0)=1+r.getD code[pc].2.2.1.toNat 0:=WH (by unfold I64;omega);simp only[wk,Zd,W2 hp,Wq hp,Wt hp,We,Wc,hk,ek,ea,WZ o2 hr,WZ o3 hr,show inz (65536:Int)=true from rfl,Wp (show pc<4611686018427387904 by omega),beq_self_eq_true,show((12:Int)==5)=false from rfl,show((12:Int)==6)=false from rfl,show((12:Int)==7)=false from rfl,show((12:Int)==8)=false from rfl,show((12:Int)==9)=false from rfl,show((12:Int)==10)=false from rfl,show((12:Int)==11)=false from rfl]
theorem Wx7(hp:pc<code.length)(dj:code.length<=24)(hk:code[pc].1=13)(ho:WcO code[pc]=true)(hr:r.length=4)(hm:m.length=8):wk N rec code kids ord ak aG aJ K0 K1 (n+1) (pc:Int) r ct mk c m=wk N rec code kids ord ak aG aJ K0 K1 n ((pc+1:Nat):Int) (r.set code[pc].2.1.toNat (WdF (m.getD code[pc].2.2.1.toNat 0) 65536)) ct mk c m:=by
 obtain⟨o1,o2⟩:=Ws6 ho hk;have ek:inb code[pc].2.2.1 m.length=true:=by grind [Weg,inb]
 simp only[wk,Zd,W2 hp,Wq hp,Wt hp,We,Wc,hk,ek,WZ o1 hr,show inz (65536:Int)=true from rfl,Wp (show pc<4611686018427387904 by omega),beq_self_eq_true,show((13:Int)==5)=false from rfl,show((13:Int)==6)=false from rfl,show((13:Int)==7)=false from rfl,show((13:Int)==8)=false from rfl,show((13:Int)==9)=false from rfl,show((13:Int)==10)=false from rfl,show((13:Int)==11)=false from rfl,show((13:Int)==12)=false from rfl]
theorem WxW(hp:pc<code.length)(dj:code.length<=24)(hk:code[pc].1=14)(ho:WcO code[pc]=true)(hr:r.length=4)(hm:m.length=8):wk N rec code kids ord ak aG aJ K0 K1 (n+1) (pc:Int) r ct mk c m=wk N rec code kids ord ak aG aJ K0 K1 n ((pc+1:Nat):Int) (r.set code[pc].2.2.1.toNat (WdF (m.getD code[pc].2.1.toNat 0) 65536)) ct mk c (m.set code[pc].2.1.toNat 0):=by
 obtain⟨o1,o2⟩:=Wob ho hk;have ek:inb code[pc].2.1 m.length=true:=by grind [Weg,inb]
 simp only[wk,Zd,W2 hp,Wq hp,Wt hp,We,Wc,hk,ek,WZ o2 hr,show inz (65536:Int)=true from rfl,Wp (show pc<4611686018427387904 by omega),beq_self_eq_true,show((14:Int)==5)=false from rfl,show((14:Int)==6)=false from rfl,show((14:Int)==7)=false from rfl,show((14:Int)==8)=false from rfl,show((14:Int)==9)=false from rfl,show((14:Int)==10)=false from rfl,show((14:Int)==11)=false from rfl,show((14:Int)==12)=false from rfl,show((14:Int)==13)=false from rfl]
theorem WxZ(hp:pc<code.length)(dj:code.length<=24)(hk:code[pc].1=15)(ho:WcO code[pc]=true)(hr:r.length=4)(hv:0<=r.getD code[pc].2.1.toNat 0/\r.getD code[pc].2.1.toNat 0<=65535)(z8:0<=ct/\ct<=65535):wk N rec code kids ord ak aG aJ K0 K1 (n+1) (pc:Int) r ct mk c m=wk N rec code kids ord ak aG aJ K0 K1 n ((pc+1:Nat):Int) r ((ct+r.getD code[pc].2.1.toNat 0)%65536) mk c m:=by
 have o1:=Ww7 ho hk;have ea:WdF (Wl .i64 ct (r.getD code[pc].2.1.toNat 0)) 65536=(ct+r.getD code[pc].2.1.toNat 0)%65536:=by
  grind [WH,I64,WdF,Xct]
 simp only[wk,Zd,W2 hp,Wq hp,Wt hp,We,Wc,hk,ea,WZ o1 hr,show inz (65536:Int)=true from rfl,Wp (show pc<4611686018427387904 by omega),beq_self_eq_true,show((15:Int)==5)=false from rfl,show((15:Int)==6)=false from rfl,show((15:Int)==7)=false from rfl,show((15:Int)==8)=false from rfl,show((15:Int)==9)=false from rfl,show((15:Int)==10)=false from rfl,show((15:Int)==11)=false from rfl,show((15:Int)==12)=false from rfl,show((15:Int)==13)=false from rfl,show((15:Int)==14)=false from rfl]
theorem Wx1(hp:pc<code.length)(dj:code.length<=24)(hk:code[pc].1=16)(ho:WcO code[pc]=true)(hr:r.length=4):wk N rec code kids ord ak aG aJ K0 K1 (n+1) (pc:Int) r ct mk c m=wk N rec code kids ord ak aG aJ K0 K1 n ((pc+1:Nat):Int) (r.set code[pc].2.1.toNat ct) ct mk c m:=by
 have o1:=Wvh ho hk;simp only[wk,Zd,W2 hp,Wq hp,Wt hp,We,Wc,hk,WZ o1 hr,Wp (show pc<4611686018427387904 by omega),beq_self_eq_true,show((16:Int)==5)=false from rfl,show((16:Int)==6)=false from rfl,show((16:Int)==7)=false from rfl,show((16:Int)==8)=false from rfl,show((16:Int)==9)=false from rfl,show((16:Int)==10)=false from rfl,show((16:Int)==11)=false from rfl,show((16:Int)==12)=false from rfl,show((16:Int)==13)=false from rfl,show((16:Int)==14)=false from rfl,show((16:Int)==15)=false from rfl]
theorem wsC(hN:1048576<N)(hp:pc<code.length)(dj:code.length<=24)(hk:1<=code[pc].1/\code[pc].1<=4)(ho:WcO code[pc]=true)(hr:Vals 4 r):wk N rec code kids ord ak aG aJ K0 K1 (n+1) (pc:Int) r ct mk c m=wk N rec code kids ord ak aG aJ K0 K1 n ((pc+1:Nat):Int) (Wg9 code[pc] r) ct mk c m:=by
 have e:∀k:Int,5<=k->(code[pc].1==k)=false:=λk hk=>by simp;omega
 simp only[wk,Zd,W2 hp,Wq hp,Wt hp,We,Wc,e 5 (by omega),e 6 (by omega),e 7 (by omega),e 8 (by omega),e 9 (by omega),e 10 (by omega),e 11 (by omega),e 12 (by omega),e 13 (by omega),e 14 (by omega),e 15 (by omega),e 16 (by omega),Wh5 hN ho hk.1 hk.2 hr,Xd,Wp (show pc<4611686018427387904 by omega)]
theorem Wv2{l:List Opn}{regs cells mp:List Int}{k:Nat}(hN:1048576<N)(h1:WcE l=true)(h2:Wdk regs=true)(h3:WdL cells=true)(mF:mp.length<=1000):
  Zj N (k+1) l [] [] regs (cells,(mp,ct))=some ((),(((Wng l regs cells).1,((Wng l regs cells).2.1,((Wng l regs cells).2.2.1,(mp,ct)))),())):=by
 have kc:=Wvv h1;have v2:=WbL.1 h2;have v3:=Wgp.1 h3;have ki:=WoS (l:=l) v2 v3;have cp:=Wfp (N:=N) (c:=cells) (mp:=mp) (ct:=ct) (by rw[v3.len];omega) mF;have r0:WB (([]:List Int).length+regs.length)=true:=Wx (by rw[v2.len];simp);have en:Xe ([]:List Int) regs=regs:=rfl;unfold Zj;simp only[cp,ret,Xd,r0,We];have key:=WtJ (N:=N) (l:=l) (R:=Unit×(Ke×Unit)) hN kc (rec:=Zj N k) (kids:=[]) (order:=[]) (mp:=mp) (ct:=ct) (ak:=ct) (aG:=cells) (aJ:=mp) mF
  (λlN=>(some ((),(((2:Int),(lN,(cells,(mp,ct)))),())))) (λr b c m=>(some ((),(((1:Int),(r,(c,(m,b)))),())))) N 0 (ks0 regs cells) ki (by have:=kc.len;omega)
 have hu:=WpS kc (l.length+1) 0 _ ki;have hi:=(WpM kc (l.length+1) 0 _ ki).2.2.2.2.1;rw[WwM kc ki hN]at key;have xX:Zd N (Zj N k) l [] [] ct cells mp (λlN=>(some ((),(((2:Int),(lN,(cells,(mp,ct)))),())):Option Ku)) (λtE wy jn pq lO pr pt=>(some ((),(((1:Int),(jn,(pr,(pt,pq)))),())))) N 0 regs ct [] cells mp=_:=key;simp only[en,xX];unfold Wng;simp only[h1,h2,h3,Bool.and_true,We];generalize Wd2 l (l.length+1) 0 (ks0 regs cells)=f at hu hi;obtain⟨b,s⟩:=f;cases b
 .rfl
 .have ik:s.log= []:=hi rfl;have Aa:Wg3 s.cells s.log=cells:=hu;rw[ik]at Aa;have vU:s.cells=cells:=Aa;simp_all
end
end
section
variable{N:Nat}{m:Mm}{f g:Fm}{x y:Kd}{k:Nat}{n:Int}{code:List Opn}{codes:List (List Opn)}
end
section
variable{N:Nat}{m:Mm}{f g:Fm}{x y:Kd}{k:Nat}{n:Int}{code:List Opn}{codes:List (List Opn)}{e:En}
end
section
abbrev FSc:=List Int×List Int×List Rw×List (List Opn)×List Int
variable{N:Nat}{s:FSc}{m:Mm}{f:Fm}{n:Int}
end
section
set_option synthInstance.maxSize 20000
set_option synthInstance.maxHeartbeats 4000000
end
section

end
section
variable{N:Nat}{s:FSc}{m:Mm}{f:Fm}{n:Int}{x:Kd}{codes:List (List Opn)}{code:List Opn}
def MB(n:Int)(l:List KM):Prop:=(l.length:Int)<=n/\∀y∈l,y.2.2.length<=4
theorem MB.wk{n n':Int}{l:List KM}(h:MB n l)(hn:n<=n'):MB n' l:=⟨Xel h.1 hn,h.2⟩
theorem MB.nil(h:0<=n):MB n []:=⟨h,λy hy=>by cases hy⟩
theorem MB.sn{l:List KM}{y:KM}(h:MB n l)(hy:y.2.2.length<=4):MB (n+1) (l++ [y]):=⟨by have:=h.1;simp;omega,λz hz=>by
 rcases Xm.1 hz with h1|h1
 .exact h.2 z h1
 .rw[Xaf.1 h1];exact hy⟩
end
section
variable{N:Nat}{s:FSc}{m:Mm}{f:Fm}{n:Int}
end
section
abbrev Cur:=List Int×Int×Int
def WaX(c:Cur):Prop:=0<=c.2.1/\c.2.1<=c.1.length/\c.1.length<=1048576
def Ws9{α:Type}(P:α->Prop)(r:Option ((Cur×Unit)×(α×Unit))):Prop:=∃c v,r=some ((c,()),(v,()))/\WaX c/\P v
theorem Wpg(x:Int):∃n:Nat,n<=255/\Wvt .i64 x 255=n:=by
 refine⟨(BitVec.ofInt 64 x&&&BitVec.ofInt 64 255).toNat,?_,?_⟩
 .simp[BitVec.toNat_and,Xcr,Xgz]
 .unfold Wvt;have:(BitVec.ofInt 64 x&&&BitVec.ofInt 64 255).toNat<=255:=by
   simp[BitVec.toNat_and,Xcr,Xgz]
  exact wrap_i64 (Wxg (p:=(BitVec.ofInt 64 x&&&BitVec.ofInt 64 255).toNat) (by omega))
theorem Wu5{N:Nat}{code:List Int}(h:code.length<=1048576)(hN:1048576<N):∃c,WaX c/\Zjo N code=ret c:=by
 have key:∀(n j:Nat) (v:Int),j<=code.length->code.length-j<n->∃hh i t,∀{R:Type} (K:Int->Int->Bool->Option R),Zct N code K n v (j:Int)=K hh i t:=by
  intro n
  induction n with
  |zero=>omega
  |succ n ih=>
   intro j v h1 h2;by_cases hj:j<code.length
   .by_cases h4:j<4000
    .obtain⟨hh,i,t,e⟩:=ih (j+1) _ hj (by omega);refine⟨hh,i,t,λK=>?_⟩;have e1:decide ((j:Int)<4000)=true:=by simp;omega
     simp only[Zct,W2 hj,Wq hj,e1,We,Wp (show j<4611686018427387904 by omega)];exact e K
    .refine⟨v,j,decide ((j:Int)<4000),λK=>?_⟩;have e1:decide ((j:Int)<4000)=false:=by simp;omega
     simp only[Zct,W2 hj,e1,We,Wc]
   .refine⟨v,j,false,λK=>?_⟩;simp_all [Zct,Wat,Wc]
 obtain⟨hh,i,t,e⟩:=key N 0 (Wl .i64 10101 (Wi code)) (Nat.zero_le _) (by omega);refine⟨(code,0,hh),⟨by simp,by simp,h⟩,?_⟩
 grind [Zjo]
theorem WeY{N:Nat}{c:Cur}(h:WaX c):Ws9 (λv=>0<=v/\v<=255) (Zft N c):=by
 unfold Zft;obtain⟨h1,h2,h3⟩:=h;have e1:inn 33=true:=rfl;have e2:inn 45=true:=rfl;simp only[e1,e2,We];by_cases hi:c.2.1<c.1.length
 .have e3:decide (c.2.1<Wi c.1)=true:=Wf hi;have e4:inb c.2.1 c.1.length=true:=by grind [inb]
  have e5:Wl .i64 c.2.1 1=c.2.1+1:=WH (by unfold I64;omega);rw[e3,e4,e5];simp only[We];obtain⟨n,hn,e⟩:=Wpg (Wl .i64 (Wvt .i64 (Ww4 .i64 (WrZ .i64 (Wl .i64 (WjF .i64 c.2.2 (6364136223846793005:Int)) (1442695040888963407:Int)) (33:Int)) (WrZ .i64 (Wl .i64 (WjF .i64 c.2.2 (6364136223846793005:Int)) (1442695040888963407:Int)) (45:Int))) (255:Int)) (IntKind.wrap .i64 (Xc c.1 (Xa c.2.1) (0:Int))));exact⟨_,_,rfl,⟨by simp;omega,by simp;omega,h3⟩,by omega⟩
 .have e3:decide (c.2.1<Wi c.1)=false:=Wu hi;rw[e3];simp only[Wc];obtain⟨n,hn,e⟩:=Wpg (Ww4 .i64 (WrZ .i64 (Wl .i64 (WjF .i64 c.2.2 (6364136223846793005:Int)) (1442695040888963407:Int)) (33:Int)) (WrZ .i64 (Wl .i64 (WjF .i64 c.2.2 (6364136223846793005:Int)) (1442695040888963407:Int)) (45:Int)));exact⟨_,_,rfl,⟨h1,h2,h3⟩,by omega⟩
theorem Wqb{v n:Int}(hv:0<=v)(hn:0<n):0<=WdF v n/\WdF v n<n:=by
 have e:WdF v n=v%n:=by grind [WdF,Xct]
 rw[e];exact⟨Int.emod_nonneg v (by omega),Int.emod_lt_of_pos v hn⟩
theorem Whl{N:Nat}{c:Cur}{n:Int}(h:WaX c):Ws9 (λv=>(n<=0->v=0)/\(0<n->0<=v/\v<n)) (Zb N c n):=by
 unfold Zb;by_cases h0:n<=0
 .have e:decide (n<=0)=true:=by simp_all
  rw[e];exact⟨_,_,rfl,h,λ_=>rfl,λh=>by omega⟩
 .have e:decide (n<=0)=false:=by simp_all
  have ez:inz n=true:=by grind [inz]
  rw[e];simp only[Wc,ez,We];by_cases h1:n<=256
  .have e:decide (n<=256)=true:=by simpa using h1
   rw[e];obtain⟨c1,v,e1,hc,hv⟩:=WeY (N:=N) h;rw[e1];have:=Wqb hv.1 (show 0<n by omega);exact⟨_,_,rfl,hc,λh=>by omega,λ_=>this⟩
  .have e:decide (n<=256)=false:=by simpa using h1
   rw[e];obtain⟨c1,v1,e1,nl,u6⟩:=WeY (N:=N) h;obtain⟨c2,v2,e2,hQ,iy⟩:=WeY (N:=N) nl;obtain⟨c3,v3,e3,qK,xY⟩:=WeY (N:=N) hQ;obtain⟨c4,v4,e4,xZ,hv4⟩:=WeY (N:=N) qK;simp only[Wc,e1,e2,e3,e4,Xd];have m1:WjF .i64 v1 16777216=v1*16777216:=Wg5 (by unfold I64;omega);have m2:WjF .i64 v2 65536=v2*65536:=Wg5 (by unfold I64;omega);have m3:WjF .i64 v3 256=v3*256:=Wg5 (by unfold I64;omega);have a1:Wl .i64 (v1*16777216) (v2*65536)=v1*16777216+v2*65536:=WH (by unfold I64;omega);have a2:Wl .i64 (v1*16777216+v2*65536) (v3*256)=v1*16777216+v2*65536+v3*256:=WH (by unfold I64;omega);have a3:Wl .i64 (v1*16777216+v2*65536+v3*256) v4=v1*16777216+v2*65536+v3*256+v4:=WH (by unfold I64;omega);rw[m1,m2,m3,a1,a2,a3];have:=Wqb (show 0<=v1*16777216+v2*65536+v3*256+v4 by omega) (show 0<n by omega);exact⟨_,_,rfl,xZ,λh=>by omega,λ_=>this⟩
end
section
theorem Wti{N:Nat}{c:Cur}{n:Int}(h:WaX c):Ws9 (λ_=>True) (Zz N c n):=by
 unfold Zz;obtain⟨c1,v,e1,hc,hv⟩:=Whl (N:=N) (n:=n) h;rw[e1];exact⟨_,_,rfl,hc,trivial⟩
theorem WtC{N:Nat}{c:Cur}{l:List Int}(h:WaX c)(hl:0<l.length)(ky:l.length<4611686018427387904):Ws9 (λv=>v∈l) (Zbp N c l):=by
 unfold Zbp;obtain⟨c1,v,e1,hc,hv⟩:=Whl (N:=N) (n:=Wi l) h;rw[e1];have hv:=hv.2 (by unfold Wi;omega);unfold Wi at hv;obtain⟨q,rfl⟩:=Xgb hv.1;have hq:q<l.length:=by omega
 simp only[Xd,Wq hq,We,Wt hq];exact⟨_,_,rfl,hc,Xw hq⟩
end
section
def Drw{ρ:Type}(P:ρ->Prop)(r:Option ((Cur×Unit)×ρ)):Prop:=∃c v,r=some ((c,()),v)/\WaX c/\P v
theorem Drw.of{α:Type}{P:α->Prop}{r:Option ((Cur×Unit)×(α×Unit))}(h:Ws9 P r):Drw (λv:α×Unit=>P v.1) r:=by
 obtain⟨c,v,e,h1,h2⟩:=h;exact⟨c,(v,()),e,h1,h2⟩
theorem Drw.bind{ρ σ:Type}{P:ρ->Prop}{Q:σ->Prop}{r:Option ((Cur×Unit)×ρ)}{k:(Cur×Unit)×ρ->Option ((Cur×Unit)×σ)}(h:Drw P r)(hk:∀c v,WaX c->P v->Drw Q (k ((c,()),v))):Drw Q (r.bind k):=by
 obtain⟨c,v,e,h1,h2⟩:=h;simp_all
theorem Drw.ok{ρ:Type}{P:ρ->Prop}{c:Cur}{v:ρ}(hc:WaX c)(hv:P v):Drw P (some ((c,()),v)):=⟨c,v,rfl,hc,hv⟩
theorem Drw.bif{ρ:Type}{P:ρ->Prop}{b:Bool}{x y:Option ((Cur×Unit)×ρ)}(h1:b=true->Drw P x)(h2:b=false->Drw P y):Drw P (bif b then x else y):=by
 grind
theorem Drw.bifT{ρ:Type}{P:ρ->Prop}{b:Bool}{x y:Option ((Cur×Unit)×ρ)}(hb:b=true)(h1:Drw P x):Drw P (bif b then x else y):=by simp_all
theorem Drw.mono{ρ:Type}{P Q:ρ->Prop}{r:Option ((Cur×Unit)×ρ)}(h:Drw P r)(hq:∀v,P v->Q v):Drw Q r:=by
 obtain⟨c,v,e,h1,h2⟩:=h;exact⟨c,v,e,h1,hq v h2⟩
section
variable{N:Nat}{c:Cur}
theorem Wa5(n:Int)(h:WaX c):Drw (λv:Int×Unit=>(n<=0->v.1=0)/\(0<n->0<=v.1/\v.1<n)) (Zb N c n):=.of (Whl h)
theorem Wg7(n:Int)(h:WaX c):Drw (λ_:Bool×Unit=>True) (Zz N c n):=.of (Wti h)
theorem Wwc(l:List Int)(h:WaX c)(hl:0<l.length)(ky:l.length<1000):Drw (λv:Int×Unit=>v.1∈l) (Zbp N c l):=.of (WtC h hl (by omega))
theorem Wx3(h:WaX c):Drw (λv:Int×Unit=>0<=v.1/\v.1<=3) (Za N c):=by
 unfold Za;exact(Wa5 4 h).bind λc v hc hv=>.ok hc (by grind)
theorem Wxt(h:WaX c):Drw (λv:Int×Unit=>0<=v.1/\v.1<=65535) (Zg1 N c):=by
 unfold Zg1;refine(Wg7 6 h).bind λc v hc _=>.bif (λ_=>?_) λ_=>?_
 .refine(Wwc _ hc (by decide) (by decide)).bind λc v hc hv=>.ok hc ?_
  grind
 .exact(Wa5 9 hc).bind λc v hc hv=>.ok hc (by grind)
theorem WxG(h:WaX c):Drw (λv:Int×Unit=>0<=v.1/\v.1<=7) (Zbw N c):=by
 unfold Zbw;refine(Wg7 8 h).bind λc v hc _=>.bif (λ_=>?_) λ_=>?_
 .exact(Wa5 8 hc).bind λc v hc hv=>.ok hc (by grind)
 .exact(Wa5 3 hc).bind λc v hc hv=>.ok hc (by grind)
theorem Wx2(h:WaX c):Drw (λv:Int×Unit=>True) (Zm N c):=by
 unfold Zm;refine(Wg7 4 h).bind λc v hc _=>.bif (λ_=>?_) λ_=>?_
 .exact(Wa5 8 hc).bind λc v hc hv=>.ok hc trivial
 .exact(Wwc _ hc (by decide) (by decide)).bind λc v hc hv=>.ok hc trivial
theorem Wpe(kind:Int)(h:WaX c):Drw (λ_:Opn×Unit=>True) (Zl N c kind):=by
 unfold Zl
 repeat' first
  |with_reducible refine Drw.bif (λ_=>?_) λ_=>?_
  |with_reducible refine(Wx3 (by assumption)).bind λc v hc hv=>?_
  |with_reducible refine(Wxt (by assumption)).bind λc v hc hv=>?_
  |with_reducible refine(WxG (by assumption)).bind λc v hc hv=>?_
  |with_reducible refine(Wx2 (by assumption)).bind λc v hc hv=>?_
  |with_reducible refine(Wa5 _ (by assumption)).bind λc v hc hv=>?_
  |with_reducible exact .ok (by assumption) trivial
theorem Wsm{rec:Cur->Int->Int->Bool->Option ((Cur×Unit)×(List Opn×Unit))}{most deep:Int}{kid:Bool}(hm:0<=most/\most<=100)
  (de:∀c (m d:Int),WaX c->0<=m->m<most->Drw (λv:List Opn×Unit=>(v.1.length:Int)<=m+2) (rec c m d kid)):
  ∀(n i:Nat) (c:Cur) (l:List Opn),i<n->i<=1000->WaX c->(l.length:Int)<=most+2->Drw (λv:List Opn×Unit=>(v.1.length:Int)<=most+2) (Zc N rec most deep kid (λlF gI fu fw=>(some ((fu,()),(fw,())))) n (i:Int) c l)
 |0,i,c,l,h,_,_,_=>by omega
 |n+1,i,c,l,h,hib,hc,hl=>by
  have hs:(0:Int)<i->Ws .i64 (i:Int) 1=((i-1:Nat):Int):=λh0=>by grind [Wah,I64]
  have yN:Ws .i64 most (Wi l)=most-(l.length:Int):=Wah (by unfold I64 Wi;omega);have oM:Ws .i64 (most-(l.length:Int)) 3=most-(l.length:Int) -3:=Wah (by unfold I64;omega);simp only[Zc,yN,oM];refine .bif (λh0=>?_) λ_=>.ok hc hl;have h0:(i:Int)>0:=Wz h0;rw[hs h0];refine .bif (λh1=>?_) λ_=>.ok hc hl;have h1:(l.length:Int)<most:=Wz h1;have next:∀c' (l':List Opn),WaX c'->(l'.length:Int)<=most+2->Drw (λv:List Opn×Unit=>(v.1.length:Int)<=most+2) (Zc N rec most deep kid (λlF gI fu fw=>(some ((fu,()),(fw,())))) n ((i-1:Nat):Int) c' l'):=
   λc' l' h1 h2=>Wsm hm de n (i-1) c' l' (by omega) (by omega) h1 h2
  have rm:∀(a:List Opn) (b:List Opn),(a.length:Int)+b.length<=1000->WB (a.length+b.length)=true:=λa b h=>Wx (by omega);have x5:∀c' (o:Opn),WaX c'->Drw (λv:List Opn×Unit=>(v.1.length:Int)<=most+2) (bif WB (l.length+ [o].length)then Zc N rec most deep kid (λlF gI fu fw=>(some ((fu,()),(fw,())))) n ((i-1:Nat):Int) c' (Xe l [o])else none):=
   λc' o h2=>.bifT (rm _ _ (by simp;omega)) (next _ _ h2 (by grind [Xaw]))
  refine(Wa5 20 hc).bind λc v hc hv=>?_;have x6:∀c',WaX c'->(4:Int)<=most-(l.length:Int)->Drw (λv:List Opn×Unit=>(v.1.length:Int)<=most+2) ((rec c' (most-(l.length:Int) -3) (Ws .i64 deep 1) kid).bind λgY=>
           ((Zl N gY.1.1 (8:Int)).bind λgu=>
            (bif WB ((Xb l)+(Xb ([gu.2.1])))then
             (bif WB ((Xb (Xe l ([gu.2.1])))+(Xb gY.2.1))then
              ((Zz N gu.1.1 (3:Int)).bind λmi=>
               (bif mi.2.1 then
                (bif WB ((Xb (Xe (Xe l ([gu.2.1])) gY.2.1))+(Xb ([((10:Int),((0:Int),((0:Int),(0:Int))))])))then
                 (bif WB ((Xb (Xe (Xe (Xe l ([gu.2.1])) gY.2.1) ([((10:Int),((0:Int),((0:Int),(0:Int))))])))+(Xb ([((9:Int),((0:Int),((0:Int),(0:Int))))])))then
                  (Zc N rec most deep kid (λlF gI fu fw=>(some ((fu,()),(fw,())))) n ((i-1:Nat):Int) mi.1.1 (Xe (Xe (Xe (Xe l ([gu.2.1])) gY.2.1) ([((10:Int),((0:Int),((0:Int),(0:Int))))])) ([((9:Int),((0:Int),((0:Int),(0:Int))))])))else none)else none)
                else
                (bif WB ((Xb (Xe (Xe l ([gu.2.1])) gY.2.1))+(Xb ([((9:Int),((0:Int),((0:Int),(0:Int))))])))then
                 (Zc N rec most deep kid (λlF gI fu fw=>(some ((fu,()),(fw,())))) n ((i-1:Nat):Int) mi.1.1 (Xe (Xe (Xe l ([gu.2.1])) gY.2.1) ([((9:Int),((0:Int),((0:Int),(0:Int))))])))else none)))else none)else none))):=λc' gS h4=>by
   refine(de c' _ _ gS (by omega) (by omega)).bind λc2 v2 hQ iy=>(Wpe 8 hQ).bind λc3 v3 qK _=>?_;simp only[];refine .bifT (rm _ _ (by simp;omega)) (.bifT (rm _ _ (by grind [Xaw])) ((Wg7 3 qK).bind λc4 v4 xZ _=>.bif (λ_=>?_) λ_=>?_))
   .grind [Xaw]
   grind [Xaw]
  repeat' first
   |with_reducible exact x5 _ _ (by assumption)
   |with_reducible refine Drw.bif (λ_=>?_) λ_=>?_
   |with_reducible refine(Wpe _ (by assumption)).bind λc v hc hv=>?_
   |with_reducible refine(Wg7 _ (by assumption)).bind λc v hc hv=>?_
   |with_reducible refine(Wa5 _ (by assumption)).bind λc v hc hv=>?_
   |exact x6 _ (by assumption) (by simp only[Wh,ge_iff_le]at*;omega)
  all_goals
   rename_i hx;have hx:=Wz hx;refine(de _ 2 0 (by assumption) (by omega) (by omega)).bind λc2 v2 hQ iy=>(Wpe 7 hQ).bind λc3 v3 qK _=>?_
   grind [Xaw]
theorem Wve(hN:1048576<N):∀(m:Nat) (c:Cur) (most deep:Int) (kid:Bool),WaX c->0<=most->most<=100->most<m->Drw (λv:List Opn×Unit=>(v.1.length:Int)<=most+2) (Zel N m c most deep kid)
 |0,c,most,deep,kid,hc,h0,h1,h2=>by omega
 |m+1,c,most,deep,kid,hc,h0,h1,h2=>by
  unfold Zel;refine(Wa5 most hc).bind λc v hc hv=>?_;have iy:0<=v.1/\v.1<=100:=by
   omega
  have e:Wl .i64 1 v.1=(((1+v.1).toNat:Nat):Int):=by grind [WH,I64]
  simp only[e];exact Wsm ⟨h0,h1⟩ (λc m' d gS q0 q1=>Wve hN m c m' d kid gS q0 (by omega) (by omega)) N _ c [] (by omega) (by omega) hc (by simp;omega)
theorem Wxs(hN:1048576<N){most deep:Int}{kid:Bool}(hc:WaX c)(h0:0<=most)(h1:most<=100):Drw (λv:List Opn×Unit=>v.1.length<=102) (Zjp N c most deep kid):=by
 unfold Zjp;exact(Wve hN N c most deep kid hc h0 h1 (by omega)).mono λv hv=>by omega
theorem WpW(hN:1048576<N):∀(n i:Nat) (c:Cur) (l:List Int),8-i<n->i<=8->WaX c->l.length=i->
  Drw (λv:List Int×Unit=>v.1.length=8) (Zco N (λaL aT aB bH=>(some ((aB,()),(bH,())))) n (i:Int) c l)
 |0,i,c,l,h,_,_,_=>by omega
 |n+1,i,c,l,h,hi,hc,hl=>by
  unfold Zco;refine .bif (λh0=>?_) λh0=>.ok hc (by grind);have h0:(i:Int)<8:=Wz h0;rw[Wp (show i<4611686018427387904 by omega)];refine(Wxt hc).bind λc v hc hv=>.bifT (Wx (by simp;omega)) ?_;exact WpW hN n (i+1) c _ (by omega) (by omega) hc (by simp_all)
theorem WxC(hN:1048576<N)(hc:WaX c):Drw (λv:List Int×Unit=>v.1.length=8) (Zfi N c):=by
 unfold Zfi;exact WpW hN N 0 c [] (by omega) (by omega) hc rfl
end
end
section
theorem Wqv{α:Type}{a b:Option α}(h:a=b):WfB a b=a:=by unfold WfB;rw[Wb h]
section
variable{N:Nat}{c:Cur}
theorem Wqh(hN:1048576<N){aw:List Opn}(d9:aw.length<=300):∀(n i:Nat) (c:Cur) (l:List (List Opn)),i<n->i<=100->WaX c->l.length+i<=100->(∀x∈l,x.length<=200)->
  Drw (λv:(List Opn×List (List Opn))×Unit=>v.1.1.length<=300/\v.1.2.length<=100/\∀x∈v.1.2,x.length<=200) (Zfj N aw (λBr fL d6 iB=>(some ((d6,()),((aw,iB),())))) n (i:Int) c l)
 |0,i,c,l,h,_,_,_,_=>by omega
 |n+1,i,c,l,h,hi,hc,hl,hx=>by
  unfold Zfj;refine .bif (λh0=>?_) λ_=>.ok hc ⟨d9,by simp_all,hx⟩;have h0:(i:Int)>0:=Wz h0;have e:Ws .i64 (i:Int) 1=((i-1:Nat):Int):=by grind [Wah,I64]
  rw[e];refine(Wa5 5 hc).bind λc v hc hv=>?_;have hv:=hv.2 (by decide);have e2:Wl .i64 2 v.1=2+v.1:=WH (by unfold I64;omega);simp only[e2];refine(Wxs hN hc (by omega) (by omega)).bind λc w hc hw=>.bifT (Wx (by simp;omega)) ?_;refine Wqh hN d9 n (i-1) c _ (by omega) (by omega) hc (by grind [Xaw]) λx lX=>?_
  grind [Xaw]
theorem WwU(hN:1048576<N){b:Bool}(hc:WaX c):Drw (λv:(List Opn×List (List Opn))×Unit=>v.1.1.length<=300/\v.1.2.length<=100/\∀x∈v.1.2,x.length<=200) (Zg2 N c b):=by
 unfold Zg2;refine .bif (λ_=>?_) λ_=>?_
 .refine(Wa5 8 hc).bind λc v hc hv=>?_;have hv:=hv.2 (by decide);have e2:Wl .i64 3 v.1=3+v.1:=WH (by unfold I64;omega);simp only[e2];exact(Wxs hN hc (by omega) (by omega)).bind λc w hc hw=>.ok hc ⟨by grind,by simp,by simp⟩
 .refine(Wa5 4 hc).bind λc v hc hv=>?_;have hv:=hv.2 (by decide);have e2:Wl .i64 1 v.1=1+v.1:=WH (by unfold I64;omega);simp only[e2];refine(Wxs hN hc (by omega) (by omega)).bind λc w hc hw=>(Wa5 4 hc).bind λc v2 hc iy=>?_;have iy:=iy.2 (by decide);have e3:Wl .i64 1 v2.1=1+v2.1:=WH (by unfold I64;omega);simp only[e3];refine(Wxs hN hc (by omega) (by omega)).bind λc w2 hc BT=>.bifT (Wx (by simp;omega)) (.bifT (Wx (by grind [Xaw])) ((Wa5 3 hc).bind λc v3 hc xY=>?_));have xY:=xY.2 (by decide);have e4:Wl .i64 1 v3.1=(((1+v3.1).toNat:Nat):Int):=by grind [WH,I64]
  grind [Wqh,Xaw]
theorem WxF(hc:WaX c):Drw (λv:Opn×Unit=>True) (Zny N c):=by
 unfold Zny;refine(Wa5 16 hc).bind λc v hc hv=>(Wpe _ hc).bind λc w hc _=>(Wa5 16 hc).bind λc v hc hv=>.bif (λ_=>?_) λ_=>.bif (λ_=>?_) λ_=>.bif (λ_=>?_) λ_=>.bif (λ_=>?_) λ_=>.ok hc trivial
 all_goals exact(Wwc _ hc (by decide) (by decide)).bind λc v hc hv=>.ok hc trivial
theorem Wpn:∀(n:Nat) (c:Cur) (l:List Opn),600-l.length<n->WaX c->l.length<=500->
  Drw (λv:List Opn×Unit=>v.1.length<=600) (Zfk N (λbi dZ cq=>(some ((dZ,()),(cq,())))) n c l)
 |0,c,l,h,_,_=>by omega
 |n+1,c,l,h,hc,hl=>by
  unfold Zfk;refine(Wa5 2 hc).bind λc v hc hv=>?_;have hv:=hv.2 (by decide);have e:Wl .i64 24 v.1=24+v.1:=WH (by unfold I64;omega);simp only[e];refine .bif (λh0=>?_) λ_=>.ok hc (by grind);have h0:(l.length:Int)<24+v.1:=Wz h0;exact .bifT (Wx (by simp;omega)) (Wpn n c _ (by grind [Xaw]) hc (by grind [Xaw]))
theorem Wxk(hN:1048576<N){l:List Opn}(hc:WaX c)(hl:l.length<=500):Drw (λv:List Opn×Unit=>v.1.length<=600) (Zg3 N c l):=by
 unfold Zg3;have en:Xe ([]:List Opn) l=l:=rfl;simp only[en];refine .bifT (Wx (by simp;omega)) (.bif (λ_=>.ok hc (by simp)) λh0=>?_);have hpos:0<l.length:=by
  cases l with
  |nil=>exact Wj h0 (by decide)
  |cons a b=>simp
 refine(Wa5 (Wi l) hc).bind λc k hc hk=>?_;have hk:=hk.2 (by unfold Wi;omega);unfold Wi at hk;obtain⟨k,u⟩:=k;simp only at hk;obtain⟨j,rfl⟩:=Xgb hk.1;have hj:j<l.length:=by omega
 have ei:inb (j:Int) l.length=true:=Wq hj;have e1:Wl .i64 (j:Int) 1=((j+1:Nat):Int):=Wp (by omega);have c1:((decide ((0:Int)<=(j:Int)))&&(decide ((j:Int)<=((Xb l):Int))))=true:=by simp;omega
 have c2:((decide ((0:Int)<=((j+1:Nat):Int)))&&(decide (((j+1:Nat):Int)<=((Xb l):Int))))=true:=by simp;omega
 refine(Wa5 6 hc).bind λc v hc hv=>?_;simp only[e1,ei,c1,c2,We,Wqv rfl];refine .bif (λ_=>?_) λ_=>.bif (λ_=>.ok hc (by simp;omega)) λ_=>.bif (λ_=>?_) λ_=>.bif (λ_=>?_) λ_=>.bif (λ_=>.ok hc (by simp;omega)) λ_=>?_
 .exact(WxF hc).bind λc w hc _=>.ok hc (by simp;omega)
 .have hlen:(List.drop (Xa ((j+1:Nat):Int)) (Xal l.length l)).length=l.length-(j+1):=by simp_all
  have jD:(Xal (Xa (j:Int)) l).length=j:=by simp_all
  exact .bifT (Wx (by omega)) (.ok hc (by grind [Xaw,Xs]))
 .grind [Wpn]
 .exact(Wa5 2 hc).bind λc w hc _=>.ok hc (by simp;omega)
end
end
section
section
variable{N:Nat}{c:Cur}
end
end
section
section
variable{N:Nat}{s:FSc}{n:Int}{f:Fm}{m:Mm}{base:List Int}{codes:List (List Opn)}{code:List Opn}
def MF(base:List Int)(c v:Int):Prop:=base.getD c.toNat 0=v
theorem Wwl{Z:Pb->Prop}(hF:FOk codes n f)(h:FA (MF base) Z codes f)(hz:FZ f)(hb:Vals 8 base)(hr:Vals 4 f.regs){i:Nat}(hi:i<f.order.length)(hk:(f.order[i]).toNat<f.kids.length)(aV:WcE (codes.getD (f.order[i]).toNat [])=true):
  (Wng (codes.getD (f.order[i]).toNat []) f.regs (ovl base (WQ f i))).1=f.kids[(f.order[i]).toNat].out/\
  (f.kids[(f.order[i]).toNat].out=1->(Wng (codes.getD (f.order[i]).toNat []) f.regs (ovl base (WQ f i))).2.1=f.kids[(f.order[i]).toNat].regs)/\
  (Wng (codes.getD (f.order[i]).toNat []) f.regs (ovl base (WQ f i))).2.2.1=ovl base (WQ f (i+1)):=by
 obtain⟨dL,hw,h0⟩:=hz.kid hi;have hA:=Wcb hb (hz.rows i);have aU:=Wvv aV;have hlen:=aU.len;obtain⟨_,j1,j2⟩:=h.ft.ord _ (Xw hi);have gg:=h.fv.sim (f.order[i]).toNat hk (ovl base (WQ f i)) hA (λe he=>by
  obtain⟨c0,c7⟩:=(hz.sn _ (Xw hk)).2.2.2 e he;rw[We1 hb (hz.rows i) c0 c7];have hm:=h.fv.mrg i hi e (by rw[Wwz hk];exact he);rcases hm with q|⟨q1,q2⟩
  .rw[q]
  .rw[q1];exact q2) 1048577 (by omega)
 rw[Woa hi,Wwk,hw];unfold Wng;rw[aV,WbL.2 hr,Wgp.2 hA];simp only[Xbo,We];rw[←WwM aU (WoS hr hA) (N:=1048577) (by omega)];rcases gg with⟨a,_⟩|⟨_,⟨a,t,b,c,d⟩|⟨a,b,t,c,d⟩⟩
 .omega
 .rw[d,a];exact⟨rfl,λ_=>b,c⟩
 .rw[d,a,b];exact⟨rfl,λq=>by omega,c⟩
end
end
section
section
variable{N:Nat}{s:FSc}{n:Int}{f:Fm}{m:Mm}{base:List Int}{codes:List (List Opn)}
def Wtx:List (Nat×List Int):=[(0,[]),(1,[0]),(2,[0,1]),(2,[1,0]),(3,[0,1,2]),(3,[0,2,1]),(3,[1,0,2]),(3,[1,2,0]),(3,[2,0,1]),(3,[2,1,0])]
theorem Wwv{l:List Int}{k:Nat}(hk:k<=3)(hl:l.length=k)(hn:l.Nodup)(hm:∀x∈l,0<=x/\x<k):(k,l)∈Wtx:=by
 subst hl
 match l,hk,hn,hm with
 | [],_,_,_=>simp[Wtx]
 | [a],_,_,hm=>
  have:=hm a (by simp);simp only[List.length_singleton]at this;have:a=0:=by omega
  subst this;simp[Wtx]
 | [a,b],_,hn,hm=>
  have ha:=hm a (by simp);have hb:=hm b (by simp);simp only[Xr,Xbs]at ha hb;have fT:a≠b:=by intro e;subst e;simp at hn
  have:(a=0/\b=1)\/(a=1/\b=0):=by omega
  rcases this with⟨rfl,rfl⟩|⟨rfl,rfl⟩<;>simp[Wtx]
 | [a,b,c],_,hn,hm=>
  have ha:=hm a (by simp);have hb:=hm b (by simp);have hc:=hm c (by simp);simp only[Xr,Xbs]at ha hb hc;have fT:a≠b:=by intro e;subst e;simp at hn
  have hac:a≠c:=by intro e;subst e;simp at hn
  have uS:b≠c:=by intro e;subst e;simp at hn
  have:(a=0/\b=1/\c=2)\/(a=0/\b=2/\c=1)\/(a=1/\b=0/\c=2)\/(a=1/\b=2/\c=0)\/(a=2/\b=0/\c=1)\/(a=2/\b=1/\c=0):=by omega
  rcases this with⟨rfl,rfl,rfl⟩|⟨rfl,rfl,rfl⟩|⟨rfl,rfl,rfl⟩|⟨rfl,rfl,rfl⟩|⟨rfl,rfl,rfl⟩|⟨rfl,rfl,rfl⟩<;>simp[Wtx]
 |a::b::c::d::l,hk,_,_=>simp at hk
theorem WrX{l:List Int}{k:Nat}(h:(k,l)∈Wtx)(hN:1048576<N):Zf7 N l (k:Int)=some ((),(l,(true,()))):=by
 obtain⟨M,rfl⟩:∃M,N=M+10:=⟨N-10,by omega⟩;simp only[Wtx,Xq,Xfz,or_false,Prod.mk.injEq]at h;rcases h with⟨rfl,rfl⟩|⟨rfl,rfl⟩|⟨rfl,rfl⟩|⟨rfl,rfl⟩|⟨rfl,rfl⟩|⟨rfl,rfl⟩|⟨rfl,rfl⟩|⟨rfl,rfl⟩|⟨rfl,rfl⟩|⟨rfl,rfl⟩<;>rfl
theorem Wsu{A B:List Int}(ha:Vals 8 A)(hb:Vals 8 B)(h:∀c:Int,0<=c->c<=7->A.getD c.toNat 0=B.getD c.toNat 0):A=B:=by
 have la:=ha.len;have lb:=hb.len;refine Xec (by omega) λi h1 h2=>?_;have:=h (i:Int) (by omega) (by omega);rw[Xi,Wn h1,Wn h2]at this;exact this
theorem Wu0{l:List Rw}{c:Int}(h:Weq l)(hl:l.length<=300)(h0:0<=c)(h7:c<=7):lst (WbF l) c=lst l c:=by
 cases hv:lst l c with
 |some v=>exact Wqg (r:=(c,v)) (Wga l) (Wfv.2 ⟨⟨h0,h7⟩,by rw[WeU h hl];exact hv⟩)
 |none=>
  cases hw:lst (WbF l) c with
  |none=>rfl
  |some w=>
   have:=(Wfv.1 (Wjz hw)).2;rw[WeU h hl,hv]at this;cases this
theorem Wtq{w:List Rw}(hb:Vals 8 base)(h:Weq w)(hl:w.length<=300):ovl base (WbF w)=ovl base w:=
 Wsu (Wcb hb Wdg) (Wcb hb h) λc h0 h7=>by rw[We1 hb Wdg h0 h7,We1 hb h h0 h7,Wu0 h hl h0 h7]
theorem Wu7{M:Int->Int->Prop}(hF:FOk codes n f)(h:FT M f)(hz:FZ f)(hb:Vals 8 base):ovl base (Wb1 f)=ovl base (WQ f f.order.length)/\Weq (Wb1 f):=by
 have hrow:Weq (Wb1 f):=λr hr=>by
  obtain⟨e,he,rfl⟩:=Xx.1 hr;obtain⟨a,b,_⟩:=hF.bufE e he;exact⟨a,b⟩
 refine⟨Wsu (Wcb hb hrow) (Wcb hb (hz.rows _)) λc h0 h7=>?_,hrow⟩;have qJ:(Wb1 f).Pairwise λa b=>a.1<b.1:=by
  unfold Wb1;rw[Xep];exact hF.bufR.imp λ{a b} h=>by unfold cfE at h;omega
 have hcl:=hF.clock;have e:lst (Wb1 f) c=lst (WQ f f.order.length) c:=by
  by_cases nG:∃e∈f.buf,e.1=c
  .obtain⟨e,he,rfl⟩:=nG;rw[h.buf e he f.order.length (by have:=(hF.bufE e he).2.2.2;omega) (Xn _)];exact Wqg (r:=(e.1,e.2.1)) qJ (Xx.2 ⟨e,he,rfl⟩)
  .have du:∀e∈f.buf,e.1≠c:=λe he q=>nG ⟨e,he,q⟩;rw[h.non c h0 h7 du _ (Xn _)];cases hw:lst (Wb1 f) c with
   |none=>rfl
   |some w=>
    obtain⟨e,he,q⟩:=Xx.1 (Wjz hw);exact Wj (Wm Prod.fst q) (du e he)
 rw[We1 hb hrow h0 h7,We1 hb (hz.rows _) h0 h7,e]
end
end
section
section
variable{R:Type}{N k:Nat}{code:List Opn}{kids:List (List Opn)}{ak:Int}{aG aJ:List Int}{K0:List Int->Option R}{K1:Int->Bool->List Int->Int->List M7->List Int->List Int->Option R}
 {n pc:Nat} {r c m base:List Int} {ct n':Int} {mk q:List M7} {x:M7} {f:Fm}
def WtS(ks:List Kd)(r:List Int)(i:Int):List Int:=if(ks.getD i.toNat {}).out=1 then r.set i.toNat (Wa0 (ks.getD i.toNat {}).regs 0 0)else r
def WjC(f:Fm)(nk j:Nat):List Int:=(f.order.take j).foldl (WtS f.kids) (Xo nk 0)
theorem Wrg{nk j:Nat}(h:j<f.order.length):WjC f nk (j+1)=WtS f.kids (WjC f nk j) f.order[j]:=by
 grind [WjC,List.take_succ_eq_append_getElem]
theorem Wun{ks:List Kd}{r:List Int}{i:Int}:(WtS ks r i).length=r.length:=by
 grind [WtS,Xy]
theorem Ws1{nk:Nat}:∀j,(WjC f nk j).length=nk:=λj=>by
 unfold WjC;generalize f.order.take j=l;have:∀(l:List Int) (r:List Int),(l.foldl (WtS f.kids) r).length=r.length:=by
  intro l
  induction l with
  |nil=>grind
  |cons a l ih=>intro r;rw[List.foldl_cons,ih,Wun]
 rw[this,List.length_replicate]
def WtR(x:Kd):Int:=if x.out=1 then Wa0 x.regs 0 0 else 0
theorem WwG{l:List Int}{nk:Nat}(h:(nk,l)∈Wtx){ks:List Kd}(hk:ks.length=nk):l.foldl (WtS ks) (Xo nk 0)=ks.map WtR:=by
 simp only[Wtx,Xq,Xfz,or_false,Prod.mk.injEq]at h
 match ks,hk with
 | [],hk=>
  grind
 | [a],hk=>
  subst hk;simp at h;subst h;simp only[Xft,WtR,Xhf,WtS];by_cases ha:a.out=1<;>simp[ha]
 | [a,b],hk=>
  subst hk;simp at h;rcases h with rfl|rfl<;>simp only[Xft,WtR,Xhf,WtS]<;>by_cases ha:a.out=1<;>by_cases hb:b.out=1<;>simp[ha,hb]
 | [a,b,c],hk=>
  subst hk;simp at h;rcases h with rfl|rfl|rfl|rfl|rfl|rfl<;>simp only[Xft,WtR,Xhf,WtS]<;>by_cases ha:a.out=1<;>by_cases hb:b.out=1<;>by_cases hc:c.out=1<;>simp[ha,hb,hc]
 |a::b::c::d::ks,hk=>
  grind
structure FX(kids:List (List Opn))(base:List Int)(f:Fm):Prop where
 ok:∃n,FOk kids n f
 fa:∃Z,FA (MF base) Z kids f
 ov:Wbe f=true
 st:∃rows,f.start=WbF rows
theorem FX.ord(h:FX kids base f)(h3:kids.length<=3):(kids.length,f.order)∈Wtx/\f.order.length=kids.length:=by
 obtain⟨n,hF⟩:=h.ok;obtain⟨Z,hA⟩:=h.fa;have qL:=h.ov;have hlen:=hF.len;have xU:f.order.length=kids.length:=by
  rw[hF.done,←hlen,List.countP_eq_length]
  grind [Wbe,List.all_eq_true]
 exact⟨Wwv h3 xU hA.ft.nod λx hx=>by
  obtain⟨a,b,_⟩:=hA.ft.ord x hx;omega,xU⟩
theorem WrO{Q:Int->Bool->Int->List Int->List Int->List Int->Option R}{next eI iq df:Int}{eJ:List M7}{cz bw:List Int}(hN:1048576<N)(hF:FOk kids n' f){Z:Pb->Prop}(hA:FA (MF base) Z kids f)(hz:FZ f)(hb:Vals 8 base)(aV:∀c∈kids,WcE c=true)(hm:m.length=8):∀(d j fuel:Nat),j+d=f.order.length->d<fuel->
  Zbg N (Zj N (k+1)) code kids f.order next f.regs eI iq df eJ cz bw Q fuel (j:Int) ct (WjC f kids.length j) (ovl base (WQ f j)) m=Q (f.order.length:Int) false ct (WjC f kids.length f.order.length) (ovl base (WQ f f.order.length)) m
 |0,j,fuel,hj,hf=>by
  obtain⟨g,rfl⟩:∃g,fuel=g+1:=⟨fuel-1,by omega⟩;simp_all [Zbg,Wat,Xn,Wc]
 |d+1,j,fuel,hj,hf=>by
  obtain⟨g,rfl⟩:∃g,fuel=g+1:=⟨fuel-1,by omega⟩;have hlt:j<f.order.length:=by omega
  obtain⟨hk,hw,h0⟩:=hz.kid hlt;have ih:=WrO (Q:=Q) (next:=next) (eI:=eI) (iq:=iq) (df:=df) (eJ:=eJ) (cz:=cz) (bw:=bw) hN hF hA hz hb aV hm d (j+1) g (by omega) (by omega);have hlen:=hF.len;have Ab:kids.getD (f.order[j]).toNat []=kids[(f.order[j]).toNat]'(by omega):=Wn (by omega) _;have ok1:=aV _ (Xw (show(f.order[j]).toNat<kids.length by omega));obtain⟨e1,e2,e3⟩:=Wwl hF hA hz hb hF.regs hlt hk (by simp_all);have br:Xc f.order (Xa (j:Int)) (0:Int)=f.order[j]:=Wt hlt _;have x8:inb f.order[j] kids.length=true:=by grind [inb]
  have x9:inb f.order[j] (WjC f kids.length j).length=true:=by grind [inb,Ws1]
  have hho:=hz.ord.1;have hrun:=Wv2 (N:=N) (k:=k) (ct:=ct) (mp:=m) (l:=kids.getD (f.order[j]).toNat []) (regs:=f.regs) (cells:=ovl base (WQ f j)) hN (by simp_all) (WbL.2 hF.regs) (Wgp.2 (Wcb hb (hz.rows j))) (by omega);rw[e1,e3]at hrun;rw[Wrg hlt]at ih;have Cb:=(hF.kid _ hk).regs;have tZ:Zj N (k+1) (Xc kids (Xa f.order[j]) ([]:List Ka)) [] [] f.regs (ovl base (WQ f j),(m,ct))=_:=hrun;simp only[Zbg,W2 hlt,Wq hlt,br,We,x8,x9,Wp (show j<4611686018427387904 by omega),Whj,tZ,Xd];unfold WtS at ih;rw[Wwz hk]at ih;by_cases ho:f.kids[(f.order[j]).toNat].out=1
  .rw[Wb ho]at ih;rw[ho,e2 ho];simp only[beq_self_eq_true,We,show inb (0:Int) (f.kids[(f.order[j]).toNat].regs).length=true by unfold inb;rw[Cb.len];rfl];exact ih
  grind
theorem Wx4(hN:1048576<N)(hp:pc<code.length)(dj:code.length<=24)(hk:code[pc].1=11)(h3:kids.length<=3)(hx:FX kids base f)(hb:Vals 8 base)(aV:∀c∈kids,WcE c=true/\c.length<=24)(hm:m.length=8):
  wk N (Zj N (k+1)) code kids f.order ak aG aJ K0 K1 (n+1) (pc:Int) f.regs ct mk (ovl base f.start) m=wk N (Zj N (k+1)) code kids f.order ak aG aJ K0 K1 n ((pc+1:Nat):Int) (Wee f) ct mk (ovl base (WQ f f.order.length)) m:=by
 obtain⟨hmem,hol⟩:=hx.ord h3;obtain⟨n',hF⟩:=hx.ok;obtain⟨Z,hA⟩:=hx.fa;obtain⟨rows,bb⟩:=hx.st;have hz:FZ f:=FZ.of hA.ft hF h3 (λc hc=>(aV c hc).2) bb;have hlen:=hF.len;have kz:(((decide ((0:Int)<=(Wi kids)))&&(decide ((Wi kids)<=(Wi kids))))&&(WB (Xa (Wi kids))))=true:=Wsl kids (by omega);have ya:Xo (Xa (Wi kids)) (0:Int)=WjC f kids.length 0:=by rw[Wj4];rfl
 have md:WQ f 0=f.start:=by unfold WQ;simp
 have rR:WjC f kids.length f.order.length=f.kids.map WtR:=by
  grind [WjC,List.take_length,WwG]
 have nB:Wee f=f.kids.map WtR++f.regs.drop f.kids.length:=by
  unfold Wee;rw[Wb ⟨WbL.2 hF.regs,by omega⟩];congr 1;refine List.map_congr_left λx hx=>?_;obtain⟨i,hi,rfl⟩:=List.mem_iff_getElem.1 hx;unfold Wrw WtR;have:=WbL.2 (hF.kid i hi).regs;simp_all
 unfold wk;rw[Zd];simp only[W2 hp,Wq hp,Wt hp,We,Wc,hk,kz,Wp (show pc<4611686018427387904 by omega),beq_self_eq_true,show((11:Int)==5)=false from rfl,show((11:Int)==6)=false from rfl,show((11:Int)==7)=false from rfl,show((11:Int)==8)=false from rfl,show((11:Int)==9)=false from rfl,show((11:Int)==10)=false from rfl];rw[ya,←md];have h1:=WrO (R:=R) (k:=k) (code:=code) (ct:=ct) (m:=m) (Q:=λwu ww lJ jm lK lL=>
  (Zce N (Zj N (k+1)) code kids f.order ((pc+1:Nat):Int) lJ (0:Int) (0:Int) ak mk jm lK lL aG aJ
 (λtC tD lM=>
  (Zd N (Zj N (k+1)) code kids f.order ak aG aJ K0 K1 n ((pc+1:Nat):Int) lM lJ mk lK lL))
 N (0:Int) f.regs)) (next:=((pc+1:Nat):Int)) (eI:=0) (iq:=0) (df:=ak) (eJ:=mk) (cz:=aG) (bw:=aJ) hN hF hA hz hb (λc hc=>(aV c hc).1) hm f.order.length 0 N (by omega) (by omega)
 refine Eq.trans h1 ?_;rw[rR];have h2:=WR (l:=f.kids.map WtR) (V:=List Int) (R:=R) (lp:=λn' j v=>Zce N (Zj N (k+1)) code kids f.order ((pc+1:Nat):Int) ct (0:Int) (0:Int) ak mk (f.kids.map WtR) (ovl base (WQ f f.order.length)) m aG aJ
 (λtC tD lM=>
  (Zd N (Zj N (k+1)) code kids f.order ak aG aJ K0 K1 n ((pc+1:Nat):Int) lM ct mk (ovl base (WQ f f.order.length)) m)) n' j v) (n:=N) (by grind)
  (body:=λj x v k=>bif inb j v.length then k (v.set j.toNat x)else none) (K:=λ_ v=>Zd N (Zj N (k+1)) code kids f.order ak aG aJ K0 K1 n ((pc+1:Nat):Int) v ct mk (ovl base (WQ f f.order.length)) m)
  (λn' i v hi=>by
   have oM:i<4611686018427387904:=by grind
   simp only[Zce,W2 hi,Wq hi,Wt hi,Wp oM,We])
  (λn' v=>by simp[Zce,Wat,Xn,Wc]) f.regs
 refine h2.trans ?_;have h4:=hF.regs.len;have h5:=Who (β:=Int) (f:=λx:Int=>x) (body:=λ(j:Int) (x:Int) v (k:List Int->Option R)=>bif inb j v.length then k (v.set j.toNat x)else none) (K:=λ_ v=>Zd N (Zj N (k+1)) code kids f.order ak aG aJ K0 K1 n ((pc+1:Nat):Int) v ct mk (ovl base (WQ f f.order.length)) m) (f.kids.map WtR) [] f.regs (by grind) (λj x v k hx hj=>by rw[W9,Wf hj];rfl);simp only[Xbs,List.nil_append,List.map_id']at h5;refine Eq.trans h5 ?_;rw[nB,Xad]
theorem WsG{nk:Nat}(h:nk<=3)(hN:1048576<N):∃l,Zf7 N [] (nk:Int)=some ((),(l,(true,()))):=by
 obtain⟨M,rfl⟩:∃M,N=M+10:=⟨N-10,by omega⟩;have:nk=0\/nk=1\/nk=2\/nk=3:=by omega
 rcases this with rfl|rfl|rfl|rfl<;>exact⟨_,rfl⟩
end
end
section
variable{l:List Int}{k i v:Int}
theorem WlN(h:SlOk l){j:Nat}(hj:j<l.length)(hn:l[j]≠0)(hk:Wb2 l[j]=i):Waa l i=(l[j] -1)%65536+1:=by
 unfold Waa;cases hs:Wl9 l i with
 |none=>exact Wj hk (WgS h hs j hj hn)
 |some r=>
  obtain⟨h1,h2,h3,h4,h5,_⟩:=Wb0 h hs;have:r.1=j:=by
   rcases Xdb r.1 j with hl|hl|hl
   .exact Wj (by rw[h2,h5,hk]) (h.one r.1 j h1 hj hl (by omega) hn)
   .exact hl
   .exact Wj (by rw[h2,h5,hk]) (h.one j r.1 hj h1 hl hn (by omega))
  subst this;simp only;rw[h2]
theorem Wiv(h:SlOk l)(du:∀(j:Nat) (hj:j<l.length),l[j]≠0->Wb2 l[j]≠i):Waa l i=0:=by
 unfold Waa;cases hs:Wl9 l i with
 |none=>rfl
 |some r=>
  obtain⟨h1,h2,h3,h4,h5,_⟩:=Wb0 h hs;exact Wj (by rw[h2,h5]) (du r.1 h1 (by omega))
theorem Wph(h:SlOk l){p:Nat}{s:Int}(h':SlOk (l.set p s))(hp:p<l.length)(ho:l[p]=0\/Wb2 l[p]≠i)(hs:s=0\/Wb2 s≠i):Waa (l.set p s) i=Waa l i:=by
 by_cases nG:∃(j:Nat) (hj:j<l.length),l[j]≠0/\Wb2 l[j]=i
 .obtain⟨j,hj,a,b⟩:=nG;have hne:p≠j:=λe=>by
   subst e;rcases ho with o|o
   .exact a o
   .exact o b
  have hj':j<(l.set p s).length:=by rw[Xy];exact hj
  have e:(l.set p s)[j]=l[j]:=by rw[Xam,Wa hne]
  rw[WlN h hj a b,WlN h' hj' (by rw[e];exact a) (by rw[e];exact b),e]
 .rw[Wiv h (λj hj a b=>nG ⟨j,hj,a,b⟩)];refine Wiv h' λj hj a b=>?_;have ld:j<l.length:=by rw[Xy]at hj;exact hj
  rw[Xam]at a b;by_cases e:p=j
  .subst e;rw[Wb rfl]at a b;rcases hs with z|z
   .exact a z
   .exact z b
  .rw[Wa e]at a b;exact nG ⟨j,ld,a,b⟩
theorem WnO(h:SlOk l)(hk:0<=k/\k<=7)(hv:0<=v/\v<=65535):Waa (WeQ l k v) i=if i=k then v+1 else Waa l i:=by
 have aV:=Wfs h hk hv;obtain⟨k1,k2⟩:=Wp8 hk hv;have key:∀p:Nat,p<l.length->(l[p]?=some 0\/∃y,l[p]?=some y/\Wb2 y=k)->WeQ l k v=l.set p (1+65536*k+v)->Waa (WeQ l k v) i=if i=k then v+1 else Waa l i:=λp hp ho e=>by
  rw[e]at aV⊢;by_cases hi:i=k
  .rw[Wb hi];have hj:p<(l.set p (1+65536*k+v)).length:=by rw[Xy];exact hp
   have eg:(l.set p (1+65536*k+v))[p]=1+65536*k+v:=List.getElem_set_self ..;rw[WlN aV hj (by rw[eg];omega) (by rw[eg,k2,hi]),eg];omega
  .rw[Wa hi];refine Wph h aV hp ?_ (.inr (by rw[k2];exactλz=>hi z.symm));rw[Xp hp]at ho;rcases ho with o|⟨y,o,q⟩
   .left;injection o
   .right;injection o with o;rw[o,q];exactλz=>hi z.symm
 cases hs:Wl9 l k with
 |some r=>
  obtain⟨h1,h2,h3,h4,h5,_⟩:=Wb0 h hs;exact key r.1 h1 (.inr ⟨r.2,by rw[Xp h1,h2],h5⟩) (by unfold WeQ;rw[hs])
 |none=>
  obtain⟨h1,h2,_⟩:=Wjo h hk hs;exact key _ h1 (.inl (by rw[Xp h1,h2])) (by unfold WeQ;rw[hs])
theorem Wqm(h:SlOk l):Waa (WeD l k) i=if i=k then 0 else Waa l i:=by
 have aV:=WiE (k:=k) h;unfold WeD at aV⊢;cases hs:Wl9 l k with
 |none=>
  simp only;by_cases hi:i=k
  .rw[Wb hi,hi];unfold Waa;rw[hs]
  .rw[Wa hi]
 |some r=>
  rw[hs]at aV;simp only at aV⊢;obtain⟨h1,h2,h3,h4,h5,_⟩:=Wb0 h hs;by_cases hi:i=k
  .rw[Wb hi];refine Wiv aV λj hj a b=>?_;have ld:j<l.length:=by rw[Xy]at hj;exact hj
   rw[Xam]at a b;by_cases e:r.1=j
   .rw[Wb e]at a;exact a rfl
   .rw[Wa e]at a b;rcases Xdb r.1 j with hl|hl|hl
    .exact Wj (by rw[h2,h5,b,hi]) (h.one r.1 j h1 ld hl (by omega) a)
    .exact e hl
    .exact Wj (by rw[h2,h5,b,hi]) (h.one j r.1 ld h1 hl a (by omega))
  .rw[Wa hi];exact Wph h aV h1 (.inr (by rw[h2,h5];exactλz=>hi z.symm)) (.inl rfl)
theorem Wq3:Waa (Xo 16 0) i=0:=Wiv WgG λj hj a=>Wj (List.getElem_replicate ..) a
theorem WhN:∀(m:List Int) (j:Nat) (l:List Int),j+m.length<=8->(∀x∈m,0<=x/\x<=65536)->SlOk l->(∀i:Nat,j<=i->Waa l (i:Int)=0)->∀i:Nat,i<j+m.length->Waa (Wc4 m j l) (i:Int)=if i<j then Waa l (i:Int)else m.getD (i-j) 0
 | [],j,l,_,_,_,_,i,hi=>by rw[Wc4,Wb (by simpa using hi)]
 |x::m,j,l,hl,hx,h,hz,i,hi=>by
  rw[Xr]at hl hi;have h0:=hx x (Xk ..);have hg:∀i':Nat,Waa (if x>0 then WeQ l (j:Int) (x-1)else l) (i':Int)=if i'=j then x else Waa l (i':Int):=λi'=>by
   by_cases hp:x>0
   .rw[Wb hp,WnO h (by omega) (by omega)];by_cases e:i'=j
    .rw[Wb (by omega),Wb e];omega
    .rw[Wa (by omega),Wa e]
   .rw[Wa hp];by_cases e:i'=j
    .rw[Wb e,hz i' (by omega)];omega
    .rw[Wa e]
  have aV:SlOk (if x>0 then WeQ l (j:Int) (x-1)else l):=by
   split
   .exact Wfs h (by omega) (by omega)
   .exact h
  rw[Wc4,WhN m (j+1) _ (by omega) (λy hy=>hx y (Xf _ hy)) aV (λi' ik=>by rw[hg,Wa (by omega)];exact hz i' (by omega)) i (by omega)];by_cases e:i<j
  .rw[Wb (by omega),Wb e,hg,Wa (by omega)]
  .rw[Wa e];by_cases e2:i=j
   .rw[Wb (by omega),hg,Wb e2,e2,Nat.sub_self];rfl
   .rw[Wa (by omega),show i-j=(i-(j+1))+1 by omega];rfl
theorem WqO{m:List Int}(hl:m.length=8)(hx:∀x∈m,0<=x/\x<=65536){i:Nat}(hi:i<8):Waa (WiL m) (i:Int)=m.getD i 0:=by
 have:=WhN m 0 (Xo 16 0) (by omega) hx WgG (λ_ _=>Wq3) i (by omega);rw[Wa (by omega)]at this;exact this
theorem WsC{N:Nat}(h:SlOk l)(hN:1048576<N):Zhv N l=ret ((Xca 8).map λi:Nat=>Waa l (i:Int)):=by
 unfold Zhv;rw[Wbs h hN];simp only[ret,Xd,Xv,Wc];have lp:∀(dd j n:Nat) (o:List Int),j+dd=8->dd<n->o=(Xca j).map (λi:Nat=>Waa l (i:Int))->
   Zcx N l (λaX aT cj=>(some ((),(cj,())))) n (j:Int) o=(some ((),((Xca 8).map λi:Nat=>Waa l (i:Int),())):Option (Unit×(List Int×Unit))):=by
  intro dd
  induction dd with
  |zero=>
   intro j n o hj hn ho;obtain⟨n,rfl⟩:∃n',n=n'+1:=⟨n-1,by omega⟩;have:j=8:=by omega
   subst this;rw[Zcx,show decide (((8:Nat):Int)<8)=false from rfl,Wc,ho]
  |succ dd ih=>
   intro j n o hj hn ho;obtain⟨n,rfl⟩:∃n',n=n'+1:=⟨n-1,by omega⟩;have e1:decide ((j:Int)<8)=true:=Wf (by omega);have hg:=Wb5 (k:=(j:Int)) h (by omega) hN;have hb:=Wff l (j:Int);have aH:∀x:Int,WB (o.length+ [x].length)=true:=λx=>Wx (by rw[ho];simp;omega);simp only[Zcx,e1,We,hg,Xd,aH,Wp (show j<4611686018427387904 by omega),Xaw];have cZ:∀x:Int,x=Waa l (j:Int)->o++ [x]=(Xca (j+1)).map (λi:Nat=>Waa l (i:Int)):=λx hx=>by
    rw[ho,hx,List.range_succ,List.map_append];rfl
   by_cases hz:Waa l (j:Int)=0
   .rw[Wb hz,Wu (show¬Waa l (j:Int)≠0 fromλz=>z hz),Wc];exact ih (j+1) n _ (by omega) (by omega) (cZ 0 hz.symm)
   .rw[Wa hz,Wf (show Waa l (j:Int)≠0 from hz),We];have ea:Wl .i64 (Waa l (j:Int) -1) 1=Waa l (j:Int):=by rw[WH (by unfold I64;omega)];omega
    rw[ea];exact ih (j+1) n _ (by omega) (by omega) (cZ _ rfl)
 exact lp 8 0 N [] (by omega) (by omega) rfl
end
section
section
variable{l:List Int}{k v i e:Int}{s:Shf}{u:Un}{S:List Int×Int}{o:Opn}{r:List Int}
def mpS(l:List Int):List Int:=(Xca 8).map λi:Nat=>Waa l (i:Int)
def shS(s:Shf):List Int×Int:=(mpS s.1,s.2)
theorem WcU:(mpS l).length=8:=by unfold mpS;simp
theorem Wpl{i:Nat}(h:i<(mpS l).length):(mpS l)[i]=Waa l (i:Int):=by
 have:=List.getElem_map (λi:Nat=>Waa l (i:Int)) (l:=Xca 8) (i:=i) (h:=h);rw[List.getElem_range]at this;exact this
theorem Wju(h:0<=i/\i<=7):(mpS l).getD i.toNat 0=Waa l i:=by
 rw[Wn (show i.toNat<(mpS l).length by rw[WcU];omega),Wpl,show((i.toNat:Nat):Int)=i by omega]
theorem WiS(l:List Int)(i:Int):0<=Waa l i/\Waa l i<=65536:=by
 grind [Waa]
theorem WsJ(h:0<=k/\k<=7){l':List Int}(hg:∀i,Waa l' i=if i=k then e else Waa l i):mpS l'=(mpS l).set k.toNat e:=by
 refine Xec (by rw[Xy,WcU,WcU]) λi h1 h2=>?_;rw[Xam,Wpl,hg];by_cases hk:(i:Int)=k
 .rw[Wb hk,Wb (by omega)]
 .rw[Wa hk,Wa (by omega),Wpl]
theorem WoM(h:SlOk l)(hk:0<=k/\k<=7)(hv:0<=v/\v<=65535):mpS (WeQ l k v)=(mpS l).set k.toNat (v+1):=WsJ hk λi=>WnO h hk hv
theorem Wlb(h:SlOk l)(hk:0<=k/\k<=7):mpS (WeD l k)=(mpS l).set k.toNat 0:=WsJ hk λi=>Wqm h
def Wvy(S:List Int×Int)(u:Un):List Int×Int:=
 if u.1=1 then(S.1.set u.2.1.toNat (u.2.2+1),S.2)else if u.1=2 then(S.1.set u.2.1.toNat 0,S.2)else if u.1=3 then(S.1,(S.2-u.2.2+65536)%65536)else S
def Wrm(S:List Int×Int)(l:List Un):List Int×Int:=l.foldr (λu S=>Wvy S u) S
theorem WiZ{l:List Un}:Wrm S (l++ [u])=Wrm (Wvy S u) l:=by simp[Wrm,List.foldr_append]
theorem WrH(h:ShOk s)(hu:UnV u):shS (WdB s u)=Wvy (shS s) u:=by
 unfold WdB Wvy shS;rcases hu with⟨h1,h2,h3⟩|⟨h1,h2,h3⟩|⟨h1,h2,h3⟩
 .rw[Wb h1,Wb h1];simp only;rw[WoM h.slots h2 h3]
 .rw[Wa (by omega),Wb h1,Wa (by omega),Wb h1];simp only;rw[Wlb h.slots h2]
 simp_all
theorem WpK{z:Int}(he:0<=e)(h:S.1.getD k.toNat 0=e)(hk:0<=k/\k<=7)(hl:S.1.length=8):Wvy (S.1.set k.toNat z,S.2) (WeK k e)=S/\(WeK k e).1≠0:=by
 have hs:S.1.set k.toNat e=S.1:=by
  grind [Wn,Xap]
 unfold WeK Wvy;by_cases h0:e=0
 .rw[Wb h0];refine⟨?_,by simp⟩;rw[Wa (by simp),Wb rfl];show((S.1.set k.toNat z).set k.toNat 0,S.2)=S;rw[Xcq,←h0,hs]
 simp_all
theorem WtT(h:ShOk s)(hr:Vals 4 r)(ho:WcO o=true)(d9:12<=o.1):((W0 s o r).2.2.1=0->shS (W0 s o r).1=shS s)/\((W0 s o r).2.2.1≠0->Wvy (shS (W0 s o r).1) (W0 s o r).2.2=shS s):=by
 have mZ:=Wjx ho;unfold W0;by_cases mJ:o.1=12
 .rw[Wb mJ];obtain⟨o1,o2,o3⟩:=Wn6 ho mJ;have o1:=Wbh.1 o1;have hv:0<=Wa0 r o.2.2.1 0/\Wa0 r o.2.2.1 0<=65535:=hr.get o.2.2.1.toNat;have hb:=WpK (S:=shS s) (z:=Wa0 r o.2.2.1 0+1) (WiS s.1 o.2.1).1 (show(mpS s.1).getD o.2.1.toNat 0=_ from Wju o1) o1 WcU;refine⟨λz=>Wj z hb.2,λ_=>?_⟩;have:shS (WeQ s.1 o.2.1 (Wa0 r o.2.2.1 0),s.2)=((shS s).1.set o.2.1.toNat (Wa0 r o.2.2.1 0+1),(shS s).2):=by unfold shS;simp only;rw[WoM h.slots o1 hv]
  simp_all
 rw[Wa mJ];by_cases k13:o.1=13
 .simp_all
 rw[Wa k13];by_cases k14:o.1=14
 .rw[Wb k14];obtain⟨o1,o2⟩:=Wob ho k14;have o1:=Wbh.1 o1;have hb:=WpK (S:=shS s) (z:=0) (WiS s.1 o.2.1).1 (show(mpS s.1).getD o.2.1.toNat 0=_ from Wju o1) o1 WcU;refine⟨λz=>Wj z hb.2,λ_=>?_⟩;have:shS (WeD s.1 o.2.1,s.2)=((shS s).1.set o.2.1.toNat 0,(shS s).2):=by unfold shS;simp only;rw[Wlb h.slots o1]
  simp_all
 rw[Wa k14];by_cases nK:o.1=15
 .rw[Wb nK];refine⟨λz=>by simp at z,λ_=>?_⟩;have hv:0<=Wa0 r o.2.1 0/\Wa0 r o.2.1 0<=65535:=hr.get o.2.1.toNat;have hc:=h.cnt;unfold Wvy shS;simp only;rw[Wb trivial,Wa (by omega),Wa (by omega),show((s.2+Wa0 r o.2.1 0)%65536-Wa0 r o.2.1 0+65536)%65536=s.2 by omega]
 simp_all
end
section
variable{R:Type}{N:Nat}{rec:Kab->Kx->Kg->Kg->Ki->Option Ku}{code:List Opn}{kids:List (List Opn)}{ord:List Int}{ak:Int}{aG aJ:List Int}{K0:List Int->Option R}{K1:Int->Bool->List Int->Int->List M7->List Int->List Int->Option R}
 {n pc:Nat} {r c:List Int} {mk:List M7} {s:Shf}
theorem WtW(hp:pc<code.length)(dj:code.length<=24)(hk:12<=code[pc].1)(ho:WcO code[pc]=true)(hr:Vals 4 r)(h:ShOk s):wk N rec code kids ord ak aG aJ K0 K1 (n+1) (pc:Int) r (shS s).2 mk c (shS s).1=wk N rec code kids ord ak aG aJ K0 K1 n ((pc+1:Nat):Int) (W0 s code[pc] r).2.1 (shS (W0 s code[pc] r).1).2 mk c (shS (W0 s code[pc] r).1).1:=by
 have mZ:=Wjx ho;have hg:=λi=>WiS s.1 i;have im:∀i,WdF (Waa s.1 i) 65536=Waa s.1 i%65536:=λi=>by
  grind [WdF,Xct]
 unfold W0;by_cases mJ:code[pc].1=12
 .rw[Wb mJ];obtain⟨o1,o2,o3⟩:=Wn6 ho mJ;have o1:=Wbh.1 o1;have hv:0<=Wa0 r code[pc].2.2.1 0/\Wa0 r code[pc].2.2.1 0<=65535:=hr.get code[pc].2.2.1.toNat;refine(WxV hp dj mJ ho hr.len (WcU (l:=s.1)) hv).trans ?_;show wk N rec code kids ord ak aG aJ K0 K1 n _ (r.set _ (WdF ((mpS s.1).getD _ 0) 65536)) s.2 mk c ((mpS s.1).set _ _)=wk N rec code kids ord ak aG aJ K0 K1 n _ (WjD r _ _) s.2 mk c (mpS (WeQ s.1 _ _));rw[Wju o1,im,WoM h.slots o1 hv,show(1:Int)+r.getD code[pc].2.2.1.toNat 0=Wa0 r code[pc].2.2.1 0+1 by unfold Wa0;omega];rfl
 rw[Wa mJ];by_cases k13:code[pc].1=13
 .rw[Wb k13];obtain⟨o1,o2⟩:=Ws6 ho k13;have o2:=Wbh.1 o2;refine(Wx7 hp dj k13 ho hr.len (WcU (l:=s.1))).trans ?_;show wk N rec code kids ord ak aG aJ K0 K1 n _ (r.set _ (WdF ((mpS s.1).getD _ 0) 65536)) s.2 mk c (mpS s.1)=_;rw[Wju o2,im];rfl
 rw[Wa k13];by_cases k14:code[pc].1=14
 .rw[Wb k14];obtain⟨o1,o2⟩:=Wob ho k14;have o1:=Wbh.1 o1;refine(WxW hp dj k14 ho hr.len (WcU (l:=s.1))).trans ?_;show wk N rec code kids ord ak aG aJ K0 K1 n _ (r.set _ (WdF ((mpS s.1).getD _ 0) 65536)) s.2 mk c ((mpS s.1).set _ 0)=wk N rec code kids ord ak aG aJ K0 K1 n _ (WjD r _ _) s.2 mk c (mpS (WeD s.1 _));rw[Wju o1,im,Wlb h.slots o1];rfl
 rw[Wa k14];by_cases nK:code[pc].1=15
 .rw[Wb nK];exact WxZ hp dj nK ho hr.len (hr.get _) h.cnt
 .rw[Wa nK];exact Wx1 hp dj (by omega) ho hr.len
end
end
section
def WbK(x:Kd):Int:=if x.phase=0 then 75-3*x.pc-(if x.busy=true then x.pb.2.1 else 0)else 0
def Wbv(x:Kd):Int:=if x.phase=3 then 0 else if x.phase=2 then 25-x.pos else 26
structure KT(f:Fm)(k:Nat)(x:Kd):Prop where
 pb:x.busy=true->x.pb.2.1=1\/x.pb.2.1=2
 own:f.owner=(k:Int)+1↔x.phase=2
 seen:x.since=f.clock->∀e∈x.seen,Wqy f.buf e.1=e.2.2
inductive KO (f:Fm) (k:Nat) (x:Kd):Fm×Kd->Prop
 |lost {q:Fm×Kd}:q.1.lost=true->KO f k x q
 |run {y:Kd}:x.phase=0->y.since=x.since->(y.phase=0\/y.phase=1)->WbK y<WbK x->(y.busy=true->y.pb.2.1=1\/y.pb.2.1=2)->
   (x.since=f.clock->∀e∈y.seen,Wqy f.buf e.1=e.2.2)->KO f k x (f,y)
 |again:x.phase=0->x.since<f.clock->KO f k x (f,f.again x)
 |fail:x.phase=2->x.since<f.clock->KO f k x ({f with owner:=0},f.again x)
 |ask:x.phase=1->f.owner=0->KO f k x ({f with owner:=(k:Int)+1},{x with phase:=2})
 |wait:x.phase=1->f.owner≠0->KO f k x (f,x)
 |look:x.phase=2->x.pos<x.seen.length->KO f k x (f,{x with pos:=x.pos+1})
 |merge:x.phase=2->KO f k x (Waf f x k)
 |done:x.phase=3->KO f k x (f,x)
variable{code:List Opn}{codes:List (List Opn)}{n:Int}{f:Fm}{x:Kd}{m:Mm}{k:Nat}{o:Opn}
theorem Wor{rv:Int}{p:Pb}(h:0<=p.2.1/\p.2.1<=2):(WM m rv p).2.1=4\/(WM m rv p).2.1=p.2.1+1:=by
 unfold WM
 grind
theorem Wwf(hF:FOk codes n f)(h:KOk code f.clock n x)(h0:x.phase=0)(ht:KT f k x)(aR:x.pc+1<=24):KO f k x (Wbn m f x o):=by
 have hl:WbK x=75-3*x.pc-(if x.busy=true then x.pb.2.1 else 0):=by unfold WbK;rw[Wb h0]
 have fR:0<=(if x.busy=true then x.pb.2.1 else 0)/\(if x.busy=true then x.pb.2.1 else 0)<=2:=by
  split
  .have:=ht.pb ‹_›;omega
  .omega
 have cZ:∀y:Kd,y.phase=0->y.pc=x.pc+1->y.busy=x.busy->y.pb=x.pb->WbK y<WbK x:=λy a b c d=>by
  unfold WbK;grind
 unfold Wbn;cases WaF x.writes o.2.2.1 with
 |some v=>exact .run h0 rfl (.inl h0) (cZ _ h0 rfl rfl rfl) ht.pb ht.seen
 |none=>
  simp only;cases he:ent f.buf o.2.2.1 with
  |some r=>
   simp only;have hr:=WcS he;have nD:r.2∈f.buf:=List.mem_of_getElem? hr.2.2.2;split
   .exact .again h0 (by have:=(hF.bufE _ nD).2.2;omega)
   .refine .run h0 rfl (.inl h0) (cZ _ h0 rfl rfl rfl) ht.pb λhs e eQ=>?_;rcases Xm.1 eQ with eQ|eQ
    .exact ht.seen hs e eQ
    simp_all [Xaf,eq_of_beq,Wqy]
  |none=>
   simp only;have hp:0<=(if x.busy=true then x.pb else(o.2.2.1,0,0,0)).2.1/\(if x.busy=true then x.pb else(o.2.2.1,0,0,0)).2.1<=2:=by
    grind
   have gU:(if x.busy=true then x.pb else(o.2.2.1,0,0,0)).2.1=(if x.busy=true then x.pb.2.1 else 0):=by split<;>rfl
   have hs:=Wor (m:=m) (rv:=f.rv) hp;rw[gU]at hs;generalize WM m f.rv (if x.busy=true then x.pb else(o.2.2.1,0,0,0))=p at*;split
   .exact .lost rfl
   .split
    .refine .run h0 rfl (.inl h0) ?_ (λh=>by cases h) λCc e eQ=>?_
     .rw[hl];show(if x.phase=0 then 75-3*(x.pc+1) -0 else 0)<_;omega
     .rcases Xm.1 eQ with eQ|eQ
      .exact ht.seen Cc e eQ
      grind [Xaf,Wqy]
    .refine .run h0 rfl (.inl h0) ?_ (λ_=>by grind) ht.seen;rw[hl];show(if x.phase=0 then 75-3*x.pc-p.2.1 else 0)<_;omega
theorem Ww0(aU:KC code)(hF:FOk codes n f)(h:KOk code f.clock n x)(h0:x.phase=0)(ht:KT f k x):KO f k x (Wgw m f x code):=by
 have ba:=aU.toCC;have hlen:=ba.len;have hl:WbK x=75-3*x.pc-(if x.busy=true then x.pb.2.1 else 0):=by unfold WbK;rw[Wb h0]
 have fR:0<=(if x.busy=true then x.pb.2.1 else 0)/\(if x.busy=true then x.pb.2.1 else 0)<=2:=by
  split
  .have:=ht.pb ‹_›;omega
  .omega
 have Cd:=h.pc;have ua:∀y:Kd,y.phase=1->WbK y<WbK x:=λy a=>by unfold WbK at*;omega
 have cZ:∀y:Kd,y.phase=0->x.pc+1<=y.pc->y.busy=x.busy->y.pb=x.pb->WbK y<WbK x:=λy a b c d=>by
  unfold WbK;grind
 unfold Wgw;split
 .exact .run h0 rfl (.inr rfl) (ua _ rfl) ht.pb ht.seen
 .obtain⟨i,hi,aR,ho⟩:=Wdc (l:=code) h.pc.1 (by omega);simp only[ho];have hM:=h.marks h0;rw[aR,Xi]at hM;split
  .grind [Wwf]
  .split
   .unfold Wel;split
    .exact .run h0 rfl (.inr rfl) (ua _ rfl) ht.pb ht.seen
    .obtain⟨j,q,y,e1,e2,e3,⟨hj,h8⟩,qG,bq,gU,e5,e6⟩:=WhQ (d:=((0,0,[]):KM)) ba (show i<=code.length by omega) hM.pcs ‹_›;refine .run h0 rfl (.inl h0) (cZ _ h0 ?_ rfl rfl) ht.pb ht.seen;simp_all
   .split
    .exact .run h0 rfl (.inl h0) (cZ _ h0 (Xab _) rfl rfl) ht.pb ht.seen
    .split
     .have hk:=WtB (aU.ok i hi).1 ‹_›;refine .run h0 rfl (.inl h0) (cZ _ h0 ?_ rfl rfl) ht.pb ht.seen;show x.pc+1<=(if Wa0 x.regs code[i].2.1 0=0 then x.pc+code[i].2.2.1 else x.pc)+1;split<;>omega
     .split
      .exact .run h0 rfl (.inl h0) (cZ _ h0 (Xab _) rfl rfl) ht.pb ht.seen
      .split
       .exact .run h0 rfl (.inl h0) (cZ _ h0 (Xab _) rfl rfl) ht.pb ht.seen
       .exact .run h0 rfl (.inl h0) (cZ _ h0 (Xab _) rfl rfl) ht.pb ht.seen
theorem Wsc(aU:KC code)(hF:FOk codes n f)(h:KOk code f.clock n x)(ht:KT f k x):KO f k x (WaN m f x k code):=by
 have bX:=h.phase;unfold WaN;split
 .grind [Ww0]
 .split
  .split
   .exact .ask ‹_› ‹_›
   .exact .wait ‹_› ‹_›
  .split
   .split
    .exact .merge ‹_›
    .have hp:=h.pos;have hlt:x.pos<x.seen.length:=by omega
     simp only;split
     .exact .look ‹_› hlt
     .rename_i hne;refine .fail ‹_› ?_;have hs:=h.since;by_cases he:x.since=f.clock
      .exfalso;apply hne;have hg:Wa0 x.seen x.pos (0,0,0)=x.seen[x.pos.toNat]'(by omega):=Wn (by omega) _;rw[hg];exact ht.seen he _ (Xw _)
      .omega
   .exact .done (by omega)
end
section
def WaG(x:Kd):Int:=if x.phase=3 then 0 else 1
def Wb7(c:Int)(x:Kd):Int:=if x.phase≠3/\x.since<c then 1 else 0
def W7(c:Int)(x:Kd):Int:=Wbv x+26*Wb7 c x
def Wdn(g:Kd->Int)(l:List Kd):Int:=(l.map g).sum
def tri(u:Int):Int:=if u<=1 then 0 else if u=2 then 1 else 3
def Wfz(f:Fm):Int:=Wdn WaG f.kids
def fQ(f:Fm):Int:=Wdn (W7 f.clock) f.kids+26*tri (Wfz f)
def fP(f:Fm)(x:Kd):Int:=WbK x+75*(Wb7 f.clock x+(Wfz f-1))
theorem Wb9{g:Kd->Int}{y:Kd}:∀{l:List Kd} {k:Nat} (h:k<l.length),Wdn g (l.set k y)=Wdn g l-g l[k]+g y
 |x::l,0,h=>by simp[Wdn];omega
 |x::l,k+1,h=>by
  have:=Wb9 (g:=g) (y:=y) (l:=l) (k:=k) (by grind)
  grind [Wdn]
theorem Wjl{g h:Kd->Int}:∀{l:List Kd},(∀x∈l,g x<=h x)->Wdn g l<=Wdn h l
 | [],_=>by simp[Wdn]
 |x::l,hl=>by
  have:=Wjl (l:=l) λy hy=>hl y (Xf _ hy)
  grind [Xk,Wdn]
theorem Wlf{g h:Kd->Int}{a:Int}:∀{l:List Kd},Wdn (λx=>g x+a*h x) l=Wdn g l+a*Wdn h l
 | []=>by simp[Wdn]
 |x::l=>by
  have:=Wlf (g:=g) (h:=h) (a:=a) (l:=l)
  grind [Wdn,Int.mul_add]
theorem WtV(x:Kd):0<=WaG x/\WaG x<=1:=by unfold WaG;split<;>omega
theorem Wcy(c:Int)(x:Kd):0<=Wb7 c x/\Wb7 c x<=WaG x:=by
 unfold Wb7 WaG;omega
theorem WkU(f:Fm):0<=Wfz f/\Wfz f<=f.kids.length:=by
 unfold Wfz;have:∀l:List Kd,0<=Wdn WaG l/\Wdn WaG l<=l.length:=λl=>by
  induction l with
  |nil=>simp[Wdn]
  |cons x l ih=>
   have:=WtV x
   grind [Wdn,Xr]
 simp_all
theorem WeR{code:List Opn}{c n:Int}{x:Kd}(h:KOk code c n x)(hl:code.length<=24):0<=Wbv x/\Wbv x<=26/\(x.phase=2->1<=Wbv x/\Wbv x<=25)/\((x.phase=0\/x.phase=1)->Wbv x=26):=by
 have hp:=h.pos;have hs:=h.sl;have aR:=h.pc;grind [Wbv]
theorem Wl1{code:List Opn}{c n:Int}{x:Kd}(h:KOk code c n x)(hl:code.length<=24)(hb:x.busy=true->x.pb.2.1=1\/x.pb.2.1=2):0<=WbK x/\WbK x<=75/\(x.phase=0->1<=WbK x):=by
 have aR:=h.pc
 grind [WbK]
structure KD(f:Fm)(k:Nat)(q:Fm×Kd):Prop where
 le:fQ (Fm.put q k)<=fQ f
 p:∀(j:Nat) (h:j<f.kids.length) (h':j<(Fm.put q k).kids.length),WaG (Fm.put q k).kids[j]=1->fP (Fm.put q k) (Fm.put q k).kids[j]<=fP f f.kids[j]/\WaG f.kids[j]=1
variable{codes:List (List Opn)}{n:Int}{f:Fm}{x y:Kd}{k:Nat}{q:Fm×Kd}{code:List Opn}
theorem Whd(h:k<f.kids.length)(hk:q.1.kids=f.kids){j:Nat}(hj:j<f.kids.length)(h':j<(Fm.put q k).kids.length):(Fm.put q k).kids[j]=if k=j then q.2 else f.kids[j]:=by
 show(q.1.kids.set k q.2)[j]=_
 grind
theorem Wf4(hk:k<f.kids.length)(h1:q.1.kids=f.kids)(hc:q.1.clock=f.clock)(hu:WaG q.2=WaG f.kids[k])(hs:W7 f.clock q.2<=W7 f.clock f.kids[k])(hp:WaG q.2=1->WbK q.2+75*Wb7 f.clock q.2<=WbK f.kids[k]+75*Wb7 f.clock f.kids[k]):
  KD f k q/\Wfz (Fm.put q k)=Wfz f/\fQ (Fm.put q k)=fQ f-W7 f.clock f.kids[k]+W7 f.clock q.2:=by
 have e1:(Fm.put q k).kids=f.kids.set k q.2:=by show q.1.kids.set k q.2=_;rw[h1]
 have e2:(Fm.put q k).clock=f.clock:=hc;have e3:Wfz (Fm.put q k)=Wfz f:=by grind [Wfz,Wb9]
 have e4:fQ (Fm.put q k)=fQ f-W7 f.clock f.kids[k]+W7 f.clock q.2:=by grind [fQ,Wb9]
 refine⟨⟨by omega,λj h h' hj=>?_⟩,e3,e4⟩;have hg:=Whd hk h1 h h';rw[hg]at hj⊢;unfold fP
 grind
end
section
structure KE(f:Fm)(k:Nat)(x:Kd)(q:Fm×Kd):Prop where
 d:KD f k q
 s0:x.phase=0->WaG q.2=1->fP (Fm.put q k) q.2<fP f x
 s2:x.phase=2->fQ (Fm.put q k)<fQ f
 s1:x.phase=1->f.owner=0->fQ (Fm.put q k)<fQ f
 own:q.1.owner=f.owner\/q.1.owner=0\/(q.1.owner=(k:Int)+1/\x.phase=1/\f.owner=0)
 kids:q.1.kids=f.kids
 kt:∀(j:Nat) (h:j<(Fm.put q k).kids.length),KT (Fm.put q k) j (Fm.put q k).kids[j]
variable{codes:List (List Opn)}{n:Int}{f:Fm}{x y:Kd}{k:Nat}{q:Fm×Kd}{code:List Opn}{m:Mm}
theorem Wk3(h:q.1.kids=f.kids):(Fm.put q k).kids.length=f.kids.length:=by show(q.1.kids.set k q.2).length=_;rw[h,Xy]
theorem WfZ(hk:k<f.kids.length)(hT:∀(j:Nat) (h:j<f.kids.length),KT f j f.kids[j])(h1:q.1.kids=f.kids)(hc:q.1.clock=f.clock)(hb:q.1.buf=f.buf)(ho:∀j:Nat,j≠k->(q.1.owner=(j:Int)+1↔f.owner=(j:Int)+1))(hy:KT q.1 k q.2):
  ∀(j:Nat) (h:j<(Fm.put q k).kids.length),KT (Fm.put q k) j (Fm.put q k).kids[j]:=λj h=>by
 have hj:j<f.kids.length:=by grind [Wk3]
 rw[Whd hk h1 hj h];by_cases he:k=j
 .subst he;rw[Wb rfl];exact⟨hy.pb,hy.own,hy.seen⟩
 .rw[Wa he];have ht:=hT j hj;refine⟨ht.pb,?_,λhs e eQ=>?_⟩
  .show q.1.owner=(j:Int)+1↔_;rw[ho j (λh=>he h.symm)];exact ht.own
  .show Wqy q.1.buf e.1=e.2.2;rw[hb];exact ht.seen (hs.trans hc) e eQ
theorem WcZ(h:x.phase≠3):WaG x=1:=by unfold WaG;rw[Wa h]
theorem Wl3(h:x.phase≠3)(hy:y.phase≠3)(hs:y.since=x.since)(c:Int):Wb7 c y=Wb7 c x:=by
 simp_all [Wb7,Wb,Wa]
theorem Wch:Wb7 f.clock (f.again x)=0:=by unfold Wb7 Fm.again;simp
theorem Wf6:WbK (f.again x)=75:=by unfold WbK Fm.again;simp
theorem We2:Wbv (f.again x)=26:=by unfold Wbv Fm.again;simp
theorem Wtz(h:x.phase≠3)(hs:x.since<f.clock):Wb7 f.clock x=1:=by unfold Wb7;rw[Wb ⟨h,hs⟩]
theorem WpX{c:Int}:∀{l:List Kd},Wdn (W7 (c+1)) l<=Wdn (W7 c) l+26*Wdn WaG l:=λ{l}=>by
 have h1:Wdn (W7 (c+1)) l<=Wdn (λx=>W7 c x+26*WaG x) l:=Wjl λx _=>by
  have a:=Wcy (c+1) x;have b:=Wcy c x;unfold W7;omega
 simp_all [Wlf]
theorem WuP{u:Int}(h:1<=u/\u<=3):tri u=tri (u-1)+(u-1):=by
 unfold tri;have:u=1\/u=2\/u=3:=by omega
 rcases this with rfl|rfl|rfl<;>decide
theorem WwR(hk:k<f.kids.length)(h3:f.kids.length<=3)(hl:∀c∈codes,c.length<=24)(hF:FOk codes n f)(hT:∀(j:Nat) (h:j<f.kids.length),KT f j f.kids[j])(hx:f.kids[k]=x)(ho:KO f k x q):
  q.1.lost=true\/KE f k x q:=by
 have hlen:(codes.getD k []).length<=24:=by
  have dL:k<codes.length:=by rw[←hF.len];exact hk
  simp_all
 have hK:=hF.kid k hk;rw[hx]at hK;have ht:=hT k hk;rw[hx]at ht;obtain⟨c1,c2,c3,c4⟩:=WeR hK hlen;obtain⟨l1,l2,l3⟩:=Wl1 hK hlen ht.pb;have uW:=Wcy f.clock x;cases ho with
 |lost h=>grind
 |run h0 hs hp hlt hb hse=>
  rename_i y;refine .inr ?_;have Ad:y.phase≠3:=by omega
  have fU:x.phase≠3:=by omega
  have bb:=Wl3 fU Ad hs f.clock;have hch:Wbv y=26:=by unfold Wbv;rw[Wa Ad,Wa (by omega)]
  obtain⟨d1,d2,d3⟩:=Wf4 (q:=(f,y)) hk rfl rfl (by grind [WcZ]) (by grind [W7]) (λ_=>by grind);refine⟨d1,λ_ _=>?_,λh=>by omega,λh=>by omega,.inl rfl,rfl,WfZ hk hT rfl rfl rfl (λ_ _=>Iff.rfl) ⟨hb,?_,λh=>hse (hs▸h)⟩⟩
  .unfold fP;rw[d2];show WbK y+75*(Wb7 f.clock y+_)<_;omega
  .show f.owner=(k:Int)+1↔y.phase=2;rw[ht.own];omega
 |again h0 hs=>
  refine .inr ?_;have fU:x.phase≠3:=by omega
  have nc:=Wtz fU hs;obtain⟨d1,d2,d3⟩:=Wf4 (q:=(f,f.again x)) hk rfl rfl (by rw[hx];rw[WcZ fU];exact WcZ (by show(0:Int)≠3;omega)) (by grind [W7,Wch,We2]) (λ_=>by grind [WbK,Wb7,Wch,Wf6]);refine⟨d1,λ_ _=>?_,λh=>by omega,λh=>by omega,.inl rfl,rfl,WfZ hk hT rfl rfl rfl (λ_ _=>Iff.rfl) ⟨(λh=>by cases h),?_,(λh e he=>by cases he)⟩⟩
  .unfold fP;rw[d2];show WbK (f.again x)+75*(Wb7 f.clock (f.again x)+_)<_
   grind [Wch,Wf6]
  .show f.owner=(k:Int)+1↔(0:Int)=2;rw[ht.own];omega
 |fail h2 hs=>
  refine .inr ?_;have fU:x.phase≠3:=by omega
  have nc:=Wtz fU hs;have c:=c3 h2;obtain⟨d1,d2,d3⟩:=Wf4 (q:=({f with owner:=0},f.again x)) hk rfl rfl (by rw[hx];rw[WcZ fU];exact WcZ (by show(0:Int)≠3;omega)) (by grind [W7,Wch,We2]) (λ_=>by grind [WbK,Wb7,Wch,Wf6]);have ub:=ht.own.2 h2;refine⟨d1,λh=>by omega,λ_=>?_,λh=>by omega,.inr (.inl rfl),rfl,WfZ hk hT rfl rfl rfl (λj hj=>?_) ⟨(λh=>by cases h),?_,(λh e he=>by cases he)⟩⟩
  .grind [fQ,W7,Wch,We2]
  .grind
  .show(0:Int)=(k:Int)+1↔(0:Int)=2;omega
 |ask h1 h0=>
  refine .inr ?_;have fU:x.phase≠3:=by omega
  have bb:Wb7 f.clock ({x with phase:=2}:Kd)=Wb7 f.clock x:=Wl3 (x:=x) (y:={x with phase:=2}) fU (by simp_all) rfl _;have hp:=hK.pos;have hch:Wbv ({x with phase:=2}:Kd)=25-x.pos:=rfl;have Ce:=c4 (.inr h1);have nz:WbK ({x with phase:=2}:Kd)=0:=rfl;obtain⟨d1,d2,d3⟩:=Wf4 (q:=({f with owner:=(k:Int)+1},{x with phase:=2})) hk rfl rfl (by grind [WcZ]) (by grind [W7]) (λ_=>by grind);refine⟨d1,λh=>by omega,λh=>by omega,λ_ _=>?_,.inr (.inr ⟨rfl,h1,h0⟩),rfl,WfZ hk hT rfl rfl rfl (λj hj=>?_) ⟨ht.pb,?_,ht.seen⟩⟩
  .grind [fQ,W7]
  .grind
  simp_all
 |wait h1 h0=>
  refine .inr ?_;have fU:x.phase≠3:=by omega
  obtain⟨d1,d2,d3⟩:=Wf4 (q:=(f,x)) hk rfl rfl (by rw[hx]) (by simp_all) (λ_=>by simp_all);exact⟨d1,λh=>by omega,λh=>by omega,λ_ h=>Wj h h0,.inl rfl,rfl,WfZ hk hT rfl rfl rfl (λ_ _=>Iff.rfl) ht⟩
 |done uw=>
  refine .inr ?_;obtain⟨d1,d2,d3⟩:=Wf4 (q:=(f,x)) hk rfl rfl (by rw[hx]) (by simp_all) (λ_=>by simp_all);exact⟨d1,λh=>by omega,λh=>by omega,λh=>by omega,.inl rfl,rfl,WfZ hk hT rfl rfl rfl (λ_ _=>Iff.rfl) ht⟩
 |look h2 hlt=>
  refine .inr ?_;have fU:x.phase≠3:=by omega
  have bb:Wb7 f.clock ({x with pos:=x.pos+1}:Kd)=Wb7 f.clock x:=Wl3 fU fU rfl _;have hch:Wbv ({x with pos:=x.pos+1}:Kd)=Wbv x-1:=by
   unfold Wbv
   grind
  have nz:WbK ({x with pos:=x.pos+1}:Kd)=WbK x:=rfl;obtain⟨d1,d2,d3⟩:=Wf4 (q:=(f,{x with pos:=x.pos+1})) hk rfl rfl (by rw[hx];rfl) (by grind [W7]) (λ_=>by simp_all);refine⟨d1,λh=>by omega,λ_=>?_,λh=>by omega,.inl rfl,rfl,WfZ hk hT rfl rfl rfl (λ_ _=>Iff.rfl) ⟨ht.pb,ht.own,ht.seen⟩⟩
  grind [fQ,W7]
 |merge h2=>
  refine .inr ?_;have fU:x.phase≠3:=by omega
  have c:=c3 h2;obtain⟨z,hz⟩:∃z,z=(Waf f x k).2:=⟨_,rfl⟩;have z3:z.phase=3:=by rw[hz];rfl
  have Ae:WaG z=0:=by unfold WaG;rw[Wb z3]
  have vT:WaG x=1:=WcZ fU;have e1:(Fm.put (Waf f x k) k).kids=f.kids.set k z:=by rw[hz];rfl
  have e2:(Fm.put (Waf f x k) k).clock=f.clock+1:=rfl;have e3:Wfz (Fm.put (Waf f x k) k)=Wfz f-1:=by grind [Wfz,Wb9]
  have hs0:W7 (f.clock+1) z=0:=by simp_all [W7,Wbv,Wb7,Wb,Wa]
  have Cf:=WkU f;have yb:=WkU (Fm.put (Waf f x k) k);rw[e3]at yb;have e4:fQ (Fm.put (Waf f x k) k)<fQ f:=by
   unfold fQ;rw[e1,e2,e3,Wb9 hk,hs0,hx];have Cg:=WpX (c:=f.clock) (l:=f.kids);have h1:=WpX (c:=f.clock) (l:=f.kids.set k z);rw[Wb9 hk,Wb9 hk,Wb9 hk,hx,hs0,Ae,vT]at h1;have xW:W7 f.clock z=0:=by simp_all [W7,Wbv,Wb7,Wb,Wa]
   rw[xW]at h1;have rH:=WuP (u:=Wfz f) (by omega);have kr:1<=W7 f.clock x:=by unfold W7;omega
   have hC:Wdn WaG f.kids=Wfz f:=rfl;omega
  refine⟨⟨Int.le_of_lt e4,λj h h' hj=>?_⟩,λh=>by omega,λ_=>e4,λh=>by omega,.inr (.inl rfl),rfl,λj h=>?_⟩
  .have hg:=Whd (q:=Waf f x k) hk rfl h h';rw[hg]at hj⊢;by_cases he:k=j
   .simp_all
   .rw[Wa he]at hj⊢;refine⟨?_,hj⟩;unfold fP;rw[e2,e3];have a:=Wcy (f.clock+1) f.kids[j];have b:=Wcy f.clock f.kids[j];omega
  .have hj:j<f.kids.length:=by rw[Wk3 (q:=Waf f x k) rfl]at h;exact h
   rw[Whd (q:=Waf f x k) hk rfl hj h];have ub:=ht.own.2 h2;by_cases he:k=j
   .subst he;rw[Wb rfl];refine⟨ht.pb,?_,λhs=>?_⟩
    .show(0:Int)=(k:Int)+1↔(3:Int)=2;omega
    .have:=hK.since;change x.since=f.clock+1 at hs;omega
   .rw[Wa he];have Af:=hT j hj;refine⟨Af.pb,?_,λhs=>?_⟩
    .show(0:Int)=(j:Int)+1↔_;rw[←Af.own];omega
    .have:=(hF.kid j hj).since;omega
end
section
def WbW(m:Mm)(codes:List (List Opn)):Nat->Nat->Fm->Fm
 |0,_,f=>f
 |d+1,i,f=>WbW m codes d (i+1) (Wax m f i (codes.getD i []))
structure FmR(f:Fm)(i:Nat)(g:Fm):Prop where
 len:g.kids.length=f.kids.length
 le:fQ g<=fQ f
 kt:∀(j:Nat) (h:j<g.kids.length),KT g j g.kids[j]
 p:∀(j:Nat) (h:j<f.kids.length) (h':j<g.kids.length),WaG g.kids[j]=1->WaG f.kids[j]=1/\fP g g.kids[j]<=fP f f.kids[j]/\
  (i<=j->fP g g.kids[j]+fQ g<fP f f.kids[j]+fQ f\/(f.kids[j].phase=1/\∃k:Nat,k<i/\f.owner=(k:Int)+1))
 chk:∀(k:Nat) (h:k<f.kids.length),i<=k->f.kids[k].phase=2->fQ g<fQ f
variable{codes:List (List Opn)}{n:Int}{f g:Fm}{m:Mm}{k:Nat}
theorem Whe{code:List Opn}(h:f.lost=true):Wax m f k code=f:=by unfold Wax;rw[Wb h]
theorem WdU:∀(d i:Nat) (f:Fm),f.lost=true->WbW m codes d i f=f
 |0,_,_,_=>rfl
 |d+1,i,f,h=>by rw[WbW,Whe h];exact WdU d (i+1) f h
theorem WsS(hm:W3 m=true)(aU:∀c∈codes,KC c)(h3:codes.length<=3):∀(d i:Nat) (n:Int) (f:Fm),i+d=codes.length->FOk codes n f->(∀(j:Nat) (h:j<f.kids.length),KT f j f.kids[j])->
  (WbW m codes d i f).lost=true\/FmR f i (WbW m codes d i f)
 |0,i,n,f,hi,hF,hT=>.inr ⟨rfl,Xab _,hT,λj h h' hj=>⟨hj,Xab _,λhij=>by have:=hF.len;omega⟩,λk h Ch=>by have:=hF.len;omega⟩
 |d+1,i,n,f,hi,hF,hT=>by
  have hlen:=hF.len;have hk:i<f.kids.length:=by omega
  have ud:i<codes.length:=by omega
  by_cases ca:f.lost=true
  .grind [WdU]
  rw[WbW];have aA:codes.getD i []=codes[i]:=Wn ud _;have hKC:=aU _ (Xw ud);have hKO:=hF.kid i hk;rw[aA]at hKO;have ho:=Wsc (m:=m) hKC hF hKO (hT i hk);obtain hE:=WwR hk (by omega) (λc hc=>(aU c hc).toCC.len) hF hT rfl ho;have bb:Wax m f i (codes.getD i [])=Fm.put (WaN m f f.kids[i] i codes[i]) i:=by
   unfold Wax;rw[Wa ca,aA,show f.kids.getD i {}=f.kids[i]from Wn hk _]
  have hF1:FOk codes (n+1) (Wax m f i (codes.getD i [])):=by
   grind [Wgv]
  rw[bb]at hF1⊢;rcases hE with hE|hE
  .grind [Fm.put,WaN,WdU]
  generalize WaN m f f.kids[i] i codes[i]=q at*;have bs:(Fm.put q i).kids.length=f.kids.length:=Wk3 hE.kids;have br:=λ(j:Nat) (hj:j<f.kids.length)=>Whd (q:=q) hk hE.kids hj (by omega);have uE:(Fm.put q i).owner=q.1.owner:=rfl;rcases WsS hm aU h3 d (i+1) (n+1) (Fm.put q i) (by omega) hF1 hE.kt with hI|hI
  .grind
  right;refine⟨hI.len.trans bs,Xel hI.le hE.d.le,hI.kt,λj h h' hj=>?_,λk h Ch h2=>?_⟩
  .have uX:j<(Fm.put q i).kids.length:=by omega
   obtain⟨a1,a2,a3⟩:=hI.p j uX h' hj;obtain⟨b1,b2⟩:=hE.d.p j h uX a1;refine⟨b2,Xel a2 b1,λhij=>?_⟩;have hle:=hI.le;have rW:=hE.d.le;by_cases he:i=j
   .subst he;have hg:=br i h;rw[Wb rfl]at hg;rw[hg]at a1 a2 b1;have bX:=hKO.phase;have fU:f.kids[i].phase≠3:=λh3=>by simp_all [WaG,Wb]
    by_cases p0:f.kids[i].phase=0
    .have:=hE.s0 p0 a1;left;omega
    by_cases p2:f.kids[i].phase=2
    .have:=hE.s2 p2;left;omega
    have p1:f.kids[i].phase=1:=by omega
    by_cases o0:f.owner=0
    .have:=hE.s1 p1 o0;left;omega
    have ub:=hF.owner;obtain⟨k,iO⟩:∃k:Nat,f.owner=(k:Int)+1:=⟨(f.owner-1).toNat,by omega⟩;by_cases uY:k<i
    .grind
    have nz:k<f.kids.length:=by omega
    have dO:=(hT k nz).own.1 iO;have hne:k≠i:=λe=>by simp_all
    have vX:=br k nz;rw[Wa (λe=>hne e.symm)]at vX;have:=hI.chk k (by omega) (by omega) (by simp_all);left;omega
   .have hg:=br j h;rw[Wa he]at hg;rcases a3 (by omega)with hlt|⟨p1,k,uF,iO⟩
    .left;omega
    .rw[hg]at p1;rw[uE]at iO;rcases hE.own with h0|h0|⟨h0,p,o⟩
     .rw[h0]at iO;by_cases uY:k<i
      .grind
      .have:k=i:=by omega
       subst this;have:=hE.s2 ((hT k hk).own.1 iO);left;omega
     .omega
     .have:=hE.s1 p o;left;omega
  .by_cases he:i=k
   .subst he;exact Int.lt_of_le_of_lt hI.le (hE.s2 h2)
   .have hg:=br k h;rw[Wa he]at hg;exact Int.lt_of_lt_of_le (hI.chk k (by omega) (by omega) (by simp_all)) hE.d.le
end
end Go.Sx
