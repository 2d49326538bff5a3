/- Plain laws of the Lean functions. -/
import Derived.Test.YtfajigbmoebkaaaGreatMW3
open Int renaming tdiv_eq_ediv_of_nonneg→Xco,tmod_eq_emod_of_nonneg→Xcn,toNat→Xb
open Option renaming bind_some→Xc
open Bool renaming not_true→Xw
open Nat renaming le_refl→Xn
open List renaming getD_eq_getElem?_getD→Xaq,getElem_mem→Xae,length_map→Xab,getElem_map→Xdk,getD→Xd
namespace Go.Sx
set_option linter.unusedVariables false
set_option linter.unusedSimpArgs false
section
variable{N:Nat}{s:Sc}{w:Wo}{n:Int}
theorem specSlot_run{v:Int}(h0:v≠0)(hv:1≤v∧v≤524288):Zja N v=some ((),(Wcw v,((v-1)%65536,()))):=by
 unfold Zja
 rw[show(v==(0:Int))=false by simpa using h0]
 have hi:isub .i64 v 1=v-1:=Waq (by unfold I64;omega)
 have hq:iquo .i64 (v-1) 65536=Wcw v:=by
  unfold iquo Wcw
  rw[Xco (by omega),wrapI (by unfold I64;omega)]
 have hr:irem (v-1) 65536=(v-1)%65536:=by unfold irem;exact Xcn (by omega)
 simp only[cond_false,show inz (65536:Int)=true from rfl,cond_true,hi,hq,hr]
theorem Wte{k:Int}(hk:0≤k∧k≤7):Zk0 N k=ret (Wcr k):=by
 unfold Zk0 Zpf Wcr
 have h1:iadd .i64 (imul .i64 k 7) 3=7*k+3:=by
  rw[Wlf (by unfold I64;omega),Wy (by unfold I64;omega)];omega
 have h2:irem (7*k+3) 4=(7*k+3)%4:=by unfold irem;exact Xcn (by omega)
 simp only[Wfe,ret,Xc,decide_eq_true hk.1,decide_eq_true hk.2,Bool.and_self,Xw,cond_false,show inz (4:Int)=true from rfl,cond_true,h1,h2]
theorem Wqr{l:List Int}(h:SlOk l)(hN:1048576<N):Ze3 N l=ret true:=by
 have hl:=h.len
 have lp:∀(d j n:Nat) (s:List Bool),j+d=16→d<n→s.length=8→(∀c:Nat,s.getD c false=true→∃i,∃hi:i<l.length,i<j∧l[i]≠0∧Wcw l[i]=c)→
   Zb9 N l (some ((),(false,()))) (λi14 t15 l16=>(some ((),(true,())))) n (j:Int) s=ret true:=by
  intro d
  induction d with
  |zero=>
   intro j n s hj hn _ _
   obtain⟨n,rfl⟩:∃n',n=n'+1:=⟨n-1,by omega⟩
   have:j=l.length:=by omega
   subst this
   simp only[Zb9,Wbn (Xn _),cond_false]
  |succ d ih=>
   intro j n s hj hn hs hb
   obtain⟨n,rfl⟩:∃n',n=n'+1:=⟨n-1,by omega⟩
   have hlt:j<l.length:=by omega
   simp only[Zb9,Wbb hlt,Wk hlt,Wp hlt,Wh (show j<4611686018427387904 by omega),cond_true,Wfe,ret,Xc]
   by_cases h0:l[j]=0
   ·have e1:Zja N l[j]=some ((),((-1:Int),((0:Int),()))):=by rw[h0];rfl
    have e2:(decide ((0:Int)≤l[j])&&decide (l[j]≤524288))=true:=by rw[h0];rfl
    rw[e1,e2]
    simp only[Xc,Xw,cond_false,show decide ((-1:Int)<0)=true from rfl,cond_true]
    exact ih (j+1) n s (by omega) (by omega) hs λc hc=>by
     obtain⟨i,hi,h1,h2,h3⟩:=hb c hc
     exact⟨i,hi,by omega,h2,h3⟩
   ·have hv:=h.val hlt h0
    have hk:=Wps hv
    have hbk:Wcr (Wcw l[j])=((j/4:Nat):Int):=by
     rcases h.each j hlt with h1|h1
     ·exact absurd h1 h0
     ·exact h1.2
    have hq:iquo .i64 (j:Int) 4=((j/4:Nat):Int):=by
     unfold iquo
     rw[Xco (by omega),wrapI (by unfold I64;omega)]
     omega
    have hnew:s.getD (Xb (Wcw l[j])) false=false:=by
     rw[Bool.eq_false_iff]
     intro hc
     obtain⟨i,hi,h1,h2,h3⟩:=hb _ hc
     exact h.one i j hi hlt h1 h2 h0 (by omega)
    have e2:(decide ((0:Int)≤l[j])&&decide (l[j]≤524288))=true:=by simp;omega
    have e3:decide (Wcw l[j]<(0:Int))=false:=decide_eq_false (by omega)
    have e4:inb (Wcw l[j]) s.length=true:=by unfold inb;rw[hs];simp;omega
    rw[specSlot_run h0 hv,e2]
    simp only[Xc,Xw,cond_false,e3,e4,cond_true,hnew,Wte hk,ret,hbk,hq,bne_self_eq_false,show inz (4:Int)=true from rfl]
    refine ih (j+1) n _ (by omega) (by omega) (by simpa using hs) λc hc=>?_
    by_cases hcj:c=(Wcw l[j]).toNat
    ·exact⟨j,hlt,by omega,h0,by omega⟩
    ·have:s.getD c false=true:=by
      rw[Xaq,List.getElem?_set_ne (by omega),←Xaq]at hc
      exact hc
     obtain⟨i,hi,h1,h2,h3⟩:=hb c this
     exact⟨i,hi,by omega,h2,h3⟩
 unfold Ze3
 rw[show((ilen l) !=(16:Int))=false by unfold ilen;rw[hl];rfl]
 have hr:(((decide ((0:Int)≤(8:Int)))&&(decide ((8:Int)≤(8:Int))))&&(room (Xb (8:Int))))=true:=by rw[Ws (by omega)];rfl
 rw[hr]
 simp only[cond_false,cond_true]
 refine lp 16 0 N _ (by omega) (by omega) (by simp) λc hc=>?_
 rw[Xaq]at hc
 by_cases h8:c<8
 ·rw[List.getElem?_replicate,if_pos (show c<Xb 8 from h8)]at hc;simp at hc
 ·rw[List.getElem?_eq_none (by simp;omega)]at hc;simp at hc
theorem Wqj{h:Shf}(hs:ShOk h)(hN:1048576<N):Zjb N h=ret true:=by
 unfold Zjb
 rw[Wqr hs.slots hN,Wac,Wch.2 hs.cnt]
 rfl
theorem Wqu{l:List Hd}(h:HOk l)(hl:l.length≤1048576)(hN:1048576<N):Ze4 N l=ret true:=by
 have lp:∀(d j n:Nat),j+d=l.length→d<n→Zbm N l (some ((),(false,()))) (λi12 t13=>(some ((),(true,())))) n (j:Int)=ret true:=by
  intro d
  induction d with
  |zero=>
   intro j n hj hn
   obtain⟨n,rfl⟩:∃n',n=n'+1:=⟨n-1,by omega⟩
   have:j=l.length:=by omega
   subst this
   simp only[Zbm,Wbn (Xn _),cond_false]
  |succ d ih=>
   intro j n hj hn
   obtain⟨n,rfl⟩:∃n',n=n'+1:=⟨n-1,by omega⟩
   have hlt:j<l.length:=by omega
   have hv:=h.val l[j] (Xae hlt)
   have hrec:=ih (j+1) n (by omega) (by omega)
   obtain⟨v1,v2,v3⟩:=hdV_iff.2 hv
   simp only[Zbm,Wbb hlt,Wk hlt,Wp hlt,Wh (show j<4611686018427387904 by omega),cond_true,Wfe,v1,v2,v3,ret,Xc,Xw,cond_false,hrec]
   by_cases h0:j=0
   ·subst h0;rfl
   ·have e1:decide ((j:Int)>0)=true:=by simp;omega
    have e2:isub .i64 (j:Int) 1=((j-1:Nat):Int):=by rw[Waq (by unfold I64;omega)];omega
    have hl1:j-1<l.length:=by omega
    have hw:=h.val l[j-1] (Xae hl1)
    have hb:=List.pairwise_iff_getElem.1 h.up (j-1) j hl1 hlt (by omega)
    simp only[e1,e2,cond_true,Wk hl1,Wp hl1]
    have hcf:=hb.1
    unfold cfH at hcf
    by_cases hs:l[j-1].2.1=l[j].2.1
    ·rw[show(l[j-1].2.1==l[j].2.1)=true by simpa using hs]at*
     have hge:¬l[j-1].1≥l[j].1:=by
      simp only[cond_true]at hcf
      omega
     obtain⟨m1,m2⟩:=hb.2 hs
     rw[decide_eq_false (show¬l[j-1].2.1>l[j].2.1 by omega),decide_eq_false hge,show(l[j].2.2==2)=false by simpa using m2,show(l[j-1].2.2==2)=false by simpa using m1]
     rfl
    ·have hgt:¬l[j-1].2.1>l[j].2.1:=by
      rw[show(l[j-1].2.1==l[j].2.1)=false by simpa using hs]at hcf
      simp only[cond_false]at hcf
      omega
     rw[decide_eq_false hgt,show(l[j-1].2.1==l[j].2.1)=false by simpa using hs]
     rfl
 exact lp l.length 0 N (by omega) (by omega)
theorem lkHas_run{l:List Int}{x:Int}(hl:l.length≤1048576)(hx:x∈l)(hN:1048576<N):Zik N l x=ret true:=by
 unfold Zik
 have h1:=Waa (l:=l) (V:=Unit) (R:=Unit×(Bool×Unit)) (lp:=λn j _=>Zgq N l x (some ((),(true,()))) (λi8 t9=>some ((),(false,()))) n j) (n:=N) (by omega)
  (body:=λj y v k=>bif y==x then some ((),(true,()))else k v) (K:=λ_ v=>some ((),(false,())))
  (λn i v hi=>by simp only[Zgq,Wbb hi,Wk hi,Wp hi,Wh (show i<4611686018427387904 by omega),cond_true])
  (λn v=>by simp only[Zgq,Wbn (Xn l.length),cond_false]) ()
 refine h1.trans ?_
 rw[Wbg (p:=λy=>y==x) (E:=λ_=>some ((),(true,()))) l 0 () (λj x v k _=>rfl)]
 rw[show l.any (λy=>y==x)=true from List.any_eq_true.2 ⟨x,hx,by simp⟩]
 rfl
theorem live_run(h4:w.roots.length≤4)(hN:1048576<N):∃L,Zhi N w.e=ret L∧L.length≤4∧∀(k:Nat) (h:k<w.roots.length),w.roots[k].phase≠0→w.roots[k].phase≠8→(k:Int)∈L:=by
 have e1:w.e.2.2.2.2.2.1=w.roots.map Rt.e:=rfl
 have lp:∀(d j n:Nat) (L:List Int),j+d=w.roots.length→d<n→L.length≤j→(∀(k:Nat) (h:k<w.roots.length),k<j→w.roots[k].phase≠0→w.roots[k].phase≠8→(k:Int)∈L)→
   ∃L',Zcq N (w.roots.map Rt.e) (ilen (w.roots.map Rt.e)) (λt9 t10 l11=>(some ((),(l11,())))) n (j:Int) L=ret L'∧L'.length≤4∧∀(k:Nat) (h:k<w.roots.length),w.roots[k].phase≠0→w.roots[k].phase≠8→(k:Int)∈L':=by
  intro d
  induction d with
  |zero=>
   intro j n L hj hn hL hb
   obtain⟨n,rfl⟩:∃n',n=n'+1:=⟨n-1,by omega⟩
   have:¬(j:Int)<ilen (w.roots.map Rt.e):=by unfold ilen;rw[Xab];omega
   simp only[Zcq,decide_eq_false this,cond_false]
   exact⟨L,rfl,by omega,λk h=>hb k h (by omega)⟩
  |succ d ih=>
   intro j n L hj hn hL hb
   obtain⟨n,rfl⟩:∃n',n=n'+1:=⟨n-1,by omega⟩
   have hlt:j<(w.roots.map Rt.e).length:=by rw[Xab];omega
   have hlt':j<w.roots.length:=by omega
   have p1:∀x:Rt,x.e.1=x.phase:=λ_=>rfl
   have hroom:room (L.length+ [(j:Int)].length)=true:=Ws (by simp;omega)
   simp only[Zcq,Wbb hlt,Wk hlt,Wp hlt,Wh (show j<4611686018427387904 by omega),cond_true,Xdk,p1,hroom]
   have old:∀L':List Int,(∀x∈L,x∈L')→(w.roots[j].phase≠0→w.roots[j].phase≠8→(j:Int)∈L')→∀(k:Nat) (h:k<w.roots.length),k<j+1→w.roots[k].phase≠0→w.roots[k].phase≠8→(k:Int)∈L':=λL' hs hj k h hk a b=>by
    by_cases he:k=j
    ·subst he;exact hj a b
    ·exact hs _ (hb k h (by omega) a b)
   by_cases h0:w.roots[j].phase=0
   ·rw[show(w.roots[j].phase !=0)=false by simpa using h0]
    exact ih (j+1) n L (by omega) (by omega) (by omega) (old L (λ_ h=>h) λa=>absurd h0 a)
   ·rw[show(w.roots[j].phase !=0)=true by simpa using h0]
    by_cases h8:w.roots[j].phase=8
    ·rw[show(w.roots[j].phase !=8)=false by simpa using h8]
     exact ih (j+1) n L (by omega) (by omega) (by omega) (old L (λ_ h=>h) λ_ b=>absurd h8 b)
    ·rw[show(w.roots[j].phase !=8)=true by simpa using h8]
     simp only[cond_true,List.append_eq]
     exact ih (j+1) n (L++ [(j:Int)]) (by omega) (by omega) (by simp;omega) (old _ (λ_ h=>List.mem_append_left _ h) λ_ _=>by simp)
 unfold Zhi
 rw[e1]
 exact lp w.roots.length 0 N [] (by omega) (by omega) (by simp) λk h hk=>by omega
theorem ownLp(hw:WOk s.2.1 n w)(hl:LX w)(hN:1048576<N){R:Type}{E K:Option R}:Zbd N w.e E (λi13 t14=>K) N 0=K:=by
 obtain⟨m8,_,_,_⟩:=Wai hw.mem
 have hl4:w.roots.length≤4:=by rw[hw.len];exact hw.l4
 have e1:P5 w.e=w.roots.map Rt.e:=rfl
 have e2:w.e.2.2.1.2=w.mem.2:=rfl
 have h1:=Waa (l:=w.mem.2) (V:=Unit) (R:=R) (lp:=λn j _=>Zbd N w.e E (λi13 t14=>K) n j) (n:=N) (by omega)
  (body:=λj x v k=>k v) (K:=λ_ v=>K)
  (λn i u hi=>by
   have hget:Xd w.mem.2 (Xb (i:Int)) ((0:Int),((0:Int),(0:Int)))=w.mem.2[i]:=Wp hi _
   have how:owner w.mem (i:Int)=w.mem.2[i].2.2:=by unfold owner Was getI;rw[Int.toNat_natCast,Wx hi]
   simp only[Zbd,Wt,e1,e2,Wbb hi,Wk hi,Wh (show i<4611686018427387904 by omega),cond_true,hget]
   by_cases h0:w.mem.2[i].2.2=0
   ·rw[show(w.mem.2[i].2.2 !=0)=false by simpa using h0];rfl
   ·rw[show(w.mem.2[i].2.2 !=0)=true by simpa using h0]
    rcases hl.ow (i:Int) (by omega) (by omega)with h|⟨k,hk,h⟩
    ·exact absurd (how.symm.trans h) h0
    ·rw[how]at h
     have hk':k<(w.roots.map Rt.e).length:=by simpa using hk
     have hsub:isub .i64 ((k:Int)+1) 1=(k:Int):=by rw[Waq (by unfold I64;omega)];omega
     have hgt:decide ((k:Int)+1>ilen (w.roots.map Rt.e))=false:=decide_eq_false (by unfold ilen;rw[Xab];omega)
     have hph:w.roots[k].phase=5:=by
      by_cases h5:w.roots[k].phase=5
      ·exact h5
      ·exact absurd (how.trans h) ((hl.root k hk).no h5 (i:Int) (by omega) (by omega))
     rw[h,hsub,hgt]
     simp only[Wk hk',Wp hk',Xdk,cond_true,cond_false,show(Rt.e w.roots[k]).1=w.roots[k].phase from rfl,hph]
     rfl)
  (λn u=>by simp only[Zbd,e2,Wbn (Xn _),cond_false]) ()
 refine h1.trans ?_
 rw[Wjw (f:=λv _=>v) _ 0 () (λj x v k _=>rfl)]
theorem hldLp(hw:WOk s.2.1 n w)(hl:LX w)(hN:1048576<N){L:List Int}(hL:L.length≤4)(hm:∀(k:Nat) (h:k<w.roots.length),w.roots[k].phase≠0→w.roots[k].phase≠8→(k:Int)∈L){R:Type}{E K:Option R}:
  Zbu N w.e L E (λi13 t14=>K) N 0=K:=by
 have hhl:=Wmw hw.holds
 have hl4:w.roots.length≤4:=by rw[hw.len];exact hw.l4
 have e2:w.e.2.2.2.2.1=w.holds:=rfl
 have h1:=Waa (l:=w.holds) (V:=Unit) (R:=R) (lp:=λn j _=>Zbu N w.e L E (λi13 t14=>K) n j) (n:=N) (by omega)
  (body:=λj x v k=>k v) (K:=λ_ v=>K)
  (λn i u hi=>by
   have hget:Xd w.holds (Xb (i:Int)) ((0:Int),((0:Int),(0:Int)))=w.holds[i]:=Wp hi _
   obtain⟨k,hk,h⟩:=hl.hd _ (Xae hi)
   have hsub:isub .i64 ((k:Int)+1) 1=(k:Int):=by rw[Waq (by unfold I64;omega)];omega
   obtain⟨a,b⟩:=(hl.root k hk).hd _ (Xae hi) h
   simp only[Zbu,e2,Wbb hi,Wk hi,Wh (show i<4611686018427387904 by omega),cond_true,hget,h,hsub,lkHas_run (show L.length≤1048576 by omega) (hm k hk a b) hN,ret,Xc,Xw,cond_false])
  (λn u=>by simp only[Zbu,e2,Wbn (Xn _),cond_false]) ()
 refine h1.trans ?_
 rw[Wjw (f:=λv _=>v) _ 0 () (λj x v k _=>rfl)]
theorem locked_run{code:List Int}(hN:1048576<N):Zcr N code=ret true:=by
 unfold Zcr Zto
 simp only[Xc]
 by_cases hb:code.length≤1048576
 ·have e0:decide (ilen code>1048576)=false:=by simp[ilen];omega
  obtain⟨s,es,hs⟩:=drawPlay_run hN hb
  rw[e0,es]
  simp only[cond_false,ret,Xc]
  rw[Wsl hs hN,play_run hs hN]
  simp only[ret,Xc]
  cases hok:scOk s with
  |false=>rfl
  |true=>
   obtain⟨h1,h2,h3,h4⟩:=Wvz hok
   have hW:=wPlay_ok hok
   have hX:LX (wPlay s):=acts_lx s.2.2 0 _ (wNew_ok hok) wNew_x (wNew_lx hok)
   simp only[Xw,cond_false,if_true]
   generalize wPlay s=w at*
   have hl4:w.roots.length≤4:=by rw[hW.len];exact h2
   have eW:ilen w.e.2.2.2.2.2.1=ilen s.2.1:=by show ilen (w.roots.map Rt.e)=_;unfold ilen;rw[Xab,hW.len]
   have em:Zfn N w.e.2.2.1=ret true:=by
    have:=(Wai hW.mem).1
    have h:=Wwl (N:=N) (m:=w.mem) (by omega) hN
    rw[hW.mem]at h
    exact h
   have eh:Ze4 N w.e.2.2.2.2.1=ret true:=Wqu (l:=w.holds) hW.holds (by have:=Wmw hW.holds;omega) hN
   have es2:Zjb N w.e.2.2.2.1=ret true:=Wqj hW.shelf hN
   obtain⟨L,el,hL,hLm⟩:=live_run (N:=N) hl4 hN
   rw[eW,em,eh,es2,ownLp hW hX hN,el]
   simp only[bne_self_eq_false,cond_false,ret,Xc,Xw]
   rw[hldLp hW hX hN hL hLm]
   have et:w.e.2.1=w.token:=rfl
   rw[et]
   by_cases h0:w.token=0
   ·rw[show(w.token==0)=true by simpa using h0];rfl
   ·rw[show(w.token==0)=false by simpa using h0]
    rcases hX.tk with h|⟨k,hk,h⟩
    ·exact absurd h h0
    ·obtain⟨t3,t8⟩:=(hX.root k hk).tk h
     have er:w.e.2.2.2.2.2.1=w.roots.map Rt.e:=rfl
     have hk':k<(w.roots.map Rt.e).length:=by simpa using hk
     have hsub:isub .i64 ((k:Int)+1) 1=(k:Int):=by rw[Waq (by unfold I64;omega)];omega
     have b1:decide ((k:Int)+1≥1)=true:=decide_eq_true (by omega)
     have b2:decide ((k:Int)+1≤ilen s.2.1)=true:=decide_eq_true (by unfold ilen;rw[←hW.len];omega)
     have b3:decide (w.roots[k].tries≥3)=true:=decide_eq_true t3
     have b4:(w.roots[k].phase !=8)=true:=by simpa using t8
     rw[h,b1,b2,hsub,er]
     simp only[cond_true,cond_false,Wk hk',Wp hk',Xdk,show(Rt.e w.roots[k]).2.1=w.roots[k].tries from rfl,show(Rt.e w.roots[k]).1=w.roots[k].phase from rfl,b3,b4]
 ·have e0:decide (ilen code>1048576)=true:=by simp[ilen];omega
  rw[e0];rfl
theorem law_FnLocked(d:PDen [.v (.slice (.int .u8)) false])(hw:WfArgs [.v (.slice (.int .u8)) false] d):∃N o,Zcr N d.1=some (o,(true,())):=
 ⟨1048577,(),locked_run (N:=1048577) (by omega)⟩
end
end Go.Sx
