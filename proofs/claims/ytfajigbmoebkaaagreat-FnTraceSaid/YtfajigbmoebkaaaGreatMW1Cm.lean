/- Plain laws of the Lean functions. -/
import Derived.Test.YtfajigbmoebkaaaGreatMW1Hd

namespace Go.Sx
set_option linter.unusedVariables false
set_option linter.unusedSimpArgs false
structure Cm where
 who:Int:=0
 rv:Int:=0
 phase:Int:=0
 pos:Int:=0
 wv:Int:=0
 puts:List Rw:=[]
 reads:List Int:=[]
def Cm.e (c:Cm):Int × Int × Int × Int × Int × List (Int × Int) × List Int:=(c.who,c.rv,c.phase,c.pos,c.wv,c.puts,c.reads)
def Cm.steps (c:Cm):Int :=
 if c.phase = 1 ∨ c.phase = 4 ∨ c.phase = 5 ∨ c.phase = 7 then c.puts.length else if c.phase = 3 then c.reads.length else 1
def Wkm (c:Cm) (n:Int):Cm:=if n = 0 then { c with phase:=8,pos:=0 } else { c with phase:=7,pos:=n - 1 }
def Wxc (c:Cm) (ph:Int):Int :=
 if (ph = 3 ∧ c.reads.length = 0 ∨ ph = 4) ∧ c.puts.length = 0 then 6 else if ph = 3 ∧ c.reads.length = 0 then 4 else ph
def cmAdv (c:Cm) (ph:Int):Cm:={ c with phase:=Wxc c ph,pos:=0 }
def Wok (c:Cm) (ph:Int):Cm:=if c.pos + 1 = c.steps then cmAdv c ph else { c with pos:=c.pos + 1 }
def zWd:Wd:=(0,0,0)
def Wdm (m:Mm) (i:Int):Wd:=getI m.2 i zWd
def setW (m:Mm) (i:Int) (w:Wd):Mm:=(m.1,setI m.2 i w)
def mLock (m:Mm) (i who:Int):Mm:=setW m i ((Wdm m i).1,(Wdm m i).2.1,who)
def Wzh (m:Mm) (i who v:Int):Mm:=if (Wdm m i).2.2 = who then setW m i (v,(Wdm m i).2) else m
def Wmx (m:Mm) (i who ver:Int):Mm:=if (Wdm m i).2.2 = who ∧ (Wdm m i).2.1 ≤ ver ∧ ver ≤ m.1 then setW m i ((Wdm m i).1,ver,0) else m
def Wlp (m:Mm) (c:Cm):Mm × Cm :=
 let p:=getI c.puts c.pos (0,0)
 if c.phase = 1 then (if (Wdm m p.1).2.2 = 0 then (mLock m p.1 c.who,Wok c 2) else (m,Wkm c c.pos)) else
 if c.phase = 2 then (if (tick m).2 = 0 then ((tick m).1,Wkm c c.puts.length) else ((tick m).1,cmAdv { c with wv:=(tick m).2 } 3)) else
 if c.phase = 3 then
  let w:=Wdm m (getI c.reads c.pos 0)
  if (w.2.2 ≠ 0 ∧ w.2.2 ≠ c.who) ∨ w.2.1 > c.rv then (m,Wkm c c.puts.length) else (m,Wok c 4)
 else
 if c.phase = 4 then (Wzh m p.1 c.who p.2,Wok c 5) else
 if c.phase = 5 then (Wmx m p.1 c.who c.wv,Wok c 6) else
 if c.phase = 7 then (Wmx m p.1 c.who (Wdm m p.1).2.1,Wkm c c.pos) else
 (m,c)
def Wfh (c:Cm):Cm :=
 if c.phase = 1 then Wkm c c.pos else if c.phase = 2 ∨ c.phase = 3 then Wkm c c.puts.length else c
def Wpt (who rv:Int) (puts reads:List Rw):Cm :=
 { who:=who,rv:=rv,phase:=if (netR puts).length = 0 then 2 else 1,puts:=netR puts,reads:=(netR reads).map (·.1) }
structure CmOk (c:Cm):Prop where
 who:1 ≤ c.who ∧ c.who ≤ 99
 rv:0 ≤ c.rv ∧ c.rv ≤ 1000000
 wv:0 ≤ c.wv ∧ c.wv ≤ 1000000
 phase:1 ≤ c.phase ∧ c.phase ≤ 8
 rows:Rows c.puts
 pup:c.puts.Pairwise fun a b=>a.1 < b.1
 plen:c.puts.length ≤ 8
 rd:∀ x ∈ c.reads,0 ≤ x ∧ x ≤ 7
 rup:c.reads.Pairwise (· < ·)
 rlen:c.reads.length ≤ 8
 pos:0 ≤ c.pos ∧ c.pos < c.steps
section
variable {N:Nat} {c:Cm} {m:Mm}
theorem CmOk.back (h:CmOk c) {n:Int} (hn:0 ≤ n ∧ n ≤ c.puts.length):CmOk (Wkm c n):=by
 unfold Wkm
 split
 ·exact { h with phase:=by (show (1:Int) ≤ 8 ∧ (8:Int) ≤ 8; omega),pos:=by (unfold Cm.steps; simp) }
 ·exact { h with phase:=by (show (1:Int) ≤ 7 ∧ (7:Int) ≤ 8; omega),pos:=by (unfold Cm.steps; simp; omega) }
theorem advTo_le (c:Cm) {ph:Int} (h:2 ≤ ph ∧ ph ≤ 6):2 ≤ Wxc c ph ∧ Wxc c ph ≤ 6:=by unfold Wxc; split <;> (try split) <;> omega
theorem CmOk.adv (h:CmOk c) {ph:Int} (hp:2 ≤ ph ∧ ph ≤ 6) (h5:ph = 5 → c.puts.length ≠ 0):CmOk (cmAdv c ph):=by
 unfold cmAdv
 have:=advTo_le c hp
 refine { h with phase:=by (show 1 ≤ Wxc c ph ∧ Wxc c ph ≤ 8; omega),pos:=⟨Int.le_refl _,?_⟩ }
 unfold Cm.steps
 simp only
 unfold Wxc
 split
 ·split
  ·omega
  ·split <;> omega
 ·split
  ·split <;> (try split) <;> omega
  ·split
   ·omega
   ·split <;> omega
theorem CmOk.next (h:CmOk c) {ph:Int} (hp:2 ≤ ph ∧ ph ≤ 6) (h5:ph = 5 → c.puts.length ≠ 0):CmOk (Wok c ph):=by
 unfold Wok
 split
 ·exact h.adv hp h5
 ·have:=h.pos
  exact { h with pos:=⟨by show 0 ≤ c.pos + 1; omega,by show c.pos + 1 < c.steps; omega⟩ }
theorem setW_ok (hm:Wbi m = true) {i:Int} {w:Wd} (hw:isWd m.1 w = true):Wbi (setW m i w) = true:=by
 obtain ⟨h8,h0,h1,hall⟩:=Wan hm
 unfold Wbi setW setI
 simp only [Bool.and_eq_true,decide_eq_true_eq,List.all_eq_true,List.length_set]
 refine ⟨h8,⟨h0,h1⟩,fun x hx=>?_⟩
 rcases List.mem_or_eq_of_mem_set hx with h | h
 ·exact hall x h
 ·subst h; exact hw
theorem Wwk (hm:Wbi m = true) {i:Int} (hi:0 ≤ i ∧ i ≤ 7):isWd m.1 (Wdm m i) = true:=mem_wd hm hi
theorem tick_ok (hm:Wbi m = true):Wbi (tick m).1 = true ∧ 0 ≤ (tick m).2 ∧ (tick m).2 ≤ 1000000 ∧ ((tick m).2 ≠ 0 → (tick m).2 = m.1 + 1 ∧ (tick m).1 = (m.1 + 1,m.2)) ∧ ((tick m).2 = 0 → (tick m).1 = m):=by
 obtain ⟨h8,h0,h1,hall⟩:=Wan hm
 unfold tick
 split
 ·refine ⟨?_,by simp only; omega,by simp only; omega,fun _=>⟨rfl,rfl⟩,fun h=>by simp only at h; omega⟩
  unfold Wbi
  simp only [Bool.and_eq_true,decide_eq_true_eq,List.all_eq_true]
  refine ⟨h8,⟨by omega,by omega⟩,fun w hw=>?_⟩
  have:=Wis.1 (hall w hw)
  rw [Wis]; omega
 ·exact ⟨hm,by simp,by simp,fun h=>absurd rfl h,fun _=>rfl⟩
theorem mLock_ok (hm:Wbi m = true) {i who:Int} (hi:0 ≤ i ∧ i ≤ 7) (hw:0 ≤ who ∧ who ≤ 99):Wbi (mLock m i who) = true:=by
 have:=Wis.1 (Wwk hm hi)
 exact setW_ok hm (by rw [Wis]; simp only; omega)
theorem mStore_ok (hm:Wbi m = true) {i who v:Int} (hi:0 ≤ i ∧ i ≤ 7) (hv:0 ≤ v ∧ v ≤ 65535):Wbi (Wzh m i who v) = true:=by
 have:=Wis.1 (Wwk hm hi)
 unfold Wzh
 split
 ·exact setW_ok hm (by rw [Wis]; simp only; omega)
 ·exact hm
theorem Wtp (hm:Wbi m = true) {i who ver:Int} (hi:0 ≤ i ∧ i ≤ 7):Wbi (Wmx m i who ver) = true:=by
 have:=Wis.1 (Wwk hm hi)
 unfold Wmx
 split
 ·exact setW_ok hm (by rw [Wis]; simp only; omega)
 ·exact hm
theorem CmOk.put (h:CmOk c) (hp:c.phase = 1 ∨ c.phase = 4 ∨ c.phase = 5 ∨ c.phase = 7):∃ (j:Nat) (hj:j < c.puts.length),c.pos = j ∧ getI c.puts c.pos (0,0) = c.puts[j] ∧ (0 ≤ c.puts[j].1 ∧ c.puts[j].1 ≤ 7) ∧ 0 ≤ c.puts[j].2 ∧ c.puts[j].2 ≤ 65535:=by
 have:=h.pos
 unfold Cm.steps at this
 rw [if_pos hp] at this
 have hj:c.pos.toNat < c.puts.length:=by omega
 have hr:=h.rows _ (List.getElem_mem hj)
 exact ⟨c.pos.toNat,hj,by omega,Wm hj _,hr.1,hr.2⟩
theorem CmOk.read (h:CmOk c) (hp:c.phase = 3):∃ (j:Nat) (hj:j < c.reads.length),c.pos = j ∧ getI c.reads c.pos 0 = c.reads[j] ∧ 0 ≤ c.reads[j] ∧ c.reads[j] ≤ 7:=by
 have:=h.pos
 unfold Cm.steps at this
 rw [if_neg (by omega),if_pos hp] at this
 have hj:c.pos.toNat < c.reads.length:=by omega
 have hr:=h.rd _ (List.getElem_mem hj)
 exact ⟨c.pos.toNat,hj,by omega,Wm hj _,hr⟩
theorem Wxm (h:CmOk c) (hm:Wbi m = true):CmOk (Wlp m c).2 ∧ Wbi (Wlp m c).1 = true:=by
 have hps:=h.pos
 have hl:c.phase = 1 ∨ c.phase = 4 ∨ c.phase = 5 ∨ c.phase = 7 → c.puts.length ≠ 0:=fun hp=>by obtain ⟨j,hj,_⟩:=h.put hp; omega
 have hst:c.phase = 1 ∨ c.phase = 4 ∨ c.phase = 5 ∨ c.phase = 7 → c.pos < c.puts.length:=fun hp=>by unfold Cm.steps at hps; rw [if_pos hp] at hps; exact hps.2
 have hw:=h.who
 unfold Wlp
 simp only
 split
 ·obtain ⟨j,hj,e1,e2,e3,e4⟩:=h.put (by omega)
  rw [e2]
  split
  ·exact ⟨h.next (by omega) (by omega),mLock_ok hm e3 (by omega)⟩
  ·exact ⟨h.back (by omega),hm⟩
 ·split
  ·have ht:=tick_ok hm
   split
   ·exact ⟨h.back (by omega),ht.1⟩
   ·refine ⟨?_,ht.1⟩
    have h':CmOk { c with wv:=(tick m).2 }:={ h with wv:=⟨ht.2.1,ht.2.2.1⟩ }
    exact h'.adv (by omega) (by omega)
  ·split
   ·split
    ·exact ⟨h.back (by omega),hm⟩
    ·exact ⟨h.next (by omega) (by omega),hm⟩
   ·split
    ·obtain ⟨j,hj,e1,e2,e3,e4⟩:=h.put (by omega)
     rw [e2]
     exact ⟨h.next (by omega) (fun _=>hl (by omega)),mStore_ok hm e3 e4⟩
    ·split
     ·obtain ⟨j,hj,e1,e2,e3,e4⟩:=h.put (by omega)
      rw [e2]
      exact ⟨h.next (by omega) (by omega),Wtp hm e3⟩
     ·split
      ·obtain ⟨j,hj,e1,e2,e3,e4⟩:=h.put (by omega)
       have:=hst (by omega)
       rw [e2]
       exact ⟨h.back (by omega),Wtp hm e3⟩
      ·exact ⟨h,hm⟩
theorem cmBreak_ok (h:CmOk c):CmOk (Wfh c):=by
 have hps:=h.pos
 unfold Wfh
 split
 ·have:c.pos < c.puts.length:=by unfold Cm.steps at hps; rw [if_pos (by omega)] at hps; exact hps.2
  exact h.back (by omega)
 ·split
  ·exact h.back (by omega)
  ·exact h
theorem cmNew_ok {who rv:Int} {puts reads:List Rw} (hw:1 ≤ who ∧ who ≤ 99) (hr:0 ≤ rv ∧ rv ≤ 1000000):CmOk (Wpt who rv puts reads) where
 who:=hw
 rv:=hr
 wv:=by simp [Wpt]
 phase:=by unfold Wpt; simp only; split <;> omega
 rows:=Wmv
 pup:=netR_up puts
 plen:=Wlz puts
 rd:=fun x hx=>by
  obtain ⟨r,hr,rfl⟩:=List.mem_map.1 hx
  exact (Wmv r hr).1
 rup:=by
  unfold Wpt
  simp only [List.pairwise_map]
  exact netR_up reads
 rlen:=by unfold Wpt; simp only [List.length_map]; exact Wlz reads
 pos:=by
  unfold Wpt Cm.steps
  simp only
  refine ⟨Int.le_refl _,?_⟩
  split
  ·simp
  ·simp; omega
theorem cmP (c:Cm):c.e.1 = c.who ∧ c.e.2.1 = c.rv ∧ c.e.2.2.1 = c.phase ∧ c.e.2.2.2.1 = c.pos ∧ c.e.2.2.2.2.1 = c.wv ∧ c.e.2.2.2.2.2.1 = c.puts ∧ c.e.2.2.2.2.2.2 = c.reads:=⟨rfl,rfl,rfl,rfl,rfl,rfl,rfl⟩
theorem Wdp {who:Int}:Zes N who = ret (decide (1 ≤ who) && decide (who ≤ 99)):=by unfold Zes; rw [Wk]; rfl
theorem Whp (hm:Wbi m = true):Zcb N m = ret m:=by
 have:=(Wan hm).1
 unfold Zcb; rw [Ws (by omega)]; rfl
theorem Wst (h:CmOk c):Zha N c.e = ret c.e:=by
 unfold Zha
 have:=h.plen
 have:=h.rlen
 rw [show Zbi N c.e.2.2.2.2.2.1 = ret c.puts from Wgy (show c.puts.length ≤ 1048576 by omega),show Zx N c.e.2.2.2.2.2.2 = ret c.reads from Wep (show c.reads.length ≤ 1048576 by omega)]
 rfl
theorem Wxv:Zc6 N c.e = ret c.steps:=by
 unfold Zc6 Cm.steps
 obtain ⟨c0,c1,c2,c3,c4,c5,c6⟩:=cmP c
 simp only [Ww,c2,c5,c6,ilen]
 by_cases h1:c.phase = 1
 ·simp [h1]
 ·by_cases h3:c.phase = 3
  ·simp [h3]
  ·by_cases h4:c.phase = 4
   ·simp [h4]
   ·by_cases h5:c.phase = 5
    ·simp [h5]
    ·by_cases h7:c.phase = 7
     ·simp [h7]
     ·simp [h1,h3,h4,h5,h7]
theorem Wou (h:CmOk c) (hN:1048576 < N):Zcn N c.e = ret true:=by
 obtain ⟨c0,c1,c2,c3,c4,c5,c6⟩:=cmP c
 have hpl:=h.plen
 have hrl:=h.rlen
 have hw:=h.who
 have hrv:=h.rv
 have hwv:=h.wv
 have hph:=h.phase
 have hps:=h.pos
 have hro:Wcn c.puts = true:=by unfold Wcn; rw [Wvz.2 h.rows,decide_eq_true (by omega)]; rfl
 unfold Zcn
 simp only [c0,c1,c2,c3,c4,c5,c6,Wdp,Wk,Wen (show c.puts.length ≤ 1048576 by omega) hN,Wxv,ret,Option.bind_some,decide_eq_true hw.1,decide_eq_true hw.2,decide_eq_true hrv.1,decide_eq_true hrv.2,decide_eq_true hwv.1,decide_eq_true hwv.2,decide_eq_true hph.1,decide_eq_true hph.2,hro,Bool.and_self,Bool.not_true,cond_false]
 have hs8:c.steps ≤ 8:=by unfold Cm.steps; split <;> (try split) <;> omega
 have hsb:isub .i64 c.steps 1 = c.steps - 1:=Wap (by unfold I64; omega)
 rw [hsb,decide_eq_true hps.1,decide_eq_true (show c.pos ≤ c.steps - 1 by omega)]
 have lp1:∀ (d j n:Nat),j + d = c.reads.length → d < n → Zbf N c.reads c.e (some ((),(false,()))) (fun t22 t23=>(some ((),(true && true,())))) n (j:Int) = ret true:=by
  intro d
  induction d with
  | zero =>
   intro j n hj hn
   obtain ⟨n,rfl⟩:∃ n',n = n' + 1:=⟨n - 1,by omega⟩
   have:j = c.reads.length:=by omega
   subst this
   simp only [Zbf,c6,Wbj (Nat.le_refl _),cond_false]; rfl
  | succ d ih =>
   intro j n hj hn
   obtain ⟨n,rfl⟩:∃ n',n = n' + 1:=⟨n - 1,by omega⟩
   have hlt:j < c.reads.length:=by omega
   have hrec:=ih (j + 1) n (by omega) (by omega)
   have hv:=h.rd _ (List.getElem_mem hlt)
   have hcell:Way c.reads[j] = true:=by unfold Way; simpa using hv
   simp only [Zbf,c6,Wba hlt,Wp hlt,Wu hlt,Wi (show j < 4611686018427387904 by omega),cond_true,Wj,ret,Option.bind_some,hcell,Bool.not_true,cond_false,hrec]
   by_cases h0:j = 0
   ·subst h0; rfl
   ·have e1:decide ((j:Int) > 0) = true:=by simp; omega
    have e2:isub .i64 (j:Int) 1 = ((j - 1:Nat):Int):=by rw [Wap (by unfold I64; omega)]; omega
    have hl1:j - 1 < c.reads.length:=by omega
    have hb:=List.pairwise_iff_getElem.1 h.rup (j - 1) j hl1 hlt (by omega)
    simp only [e1,e2,cond_true,Wp hl1,Wu hl1]
    rw [decide_eq_false (by omega)]
    rfl
 have lp0:∀ (d j n:Nat),j + d = c.puts.length → d < n → 1 ≤ j → Zbu N c.e (some ((),(false,()))) (fun i11 t12=>(Zbf N c.reads c.e (some ((),(false,()))) (fun t22 t23=>(some ((),(true && true,())))) N (0:Int))) n (j:Int) = ret true:=by
  intro d
  induction d with
  | zero =>
   intro j n hj hn _
   obtain ⟨n,rfl⟩:∃ n',n = n' + 1:=⟨n - 1,by omega⟩
   have:j = c.puts.length:=by omega
   subst this
   simp only [Zbu,c5,Wbj (Nat.le_refl _),cond_false]
   exact lp1 c.reads.length 0 N (by omega) (by omega)
  | succ d ih =>
   intro j n hj hn h1j
   obtain ⟨n,rfl⟩:∃ n',n = n' + 1:=⟨n - 1,by omega⟩
   have hlt:j < c.puts.length:=by omega
   have hrec:=ih (j + 1) n (by omega) (by omega) (by omega)
   have e2:isub .i64 (j:Int) 1 = ((j - 1:Nat):Int):=by rw [Wap (by unfold I64; omega)]; omega
   have hl1:j - 1 < c.puts.length:=by omega
   have hb:=List.pairwise_iff_getElem.1 h.pup (j - 1) j hl1 hlt (by omega)
   simp only [Zbu,c5,Wba hlt,Wp hlt,Wu hlt,Wi (show j < 4611686018427387904 by omega),cond_true,e2,Wp hl1,Wu hl1]
   rw [decide_eq_false (by omega)]
   exact hrec
 by_cases hz:c.puts.length = 0
 ·obtain ⟨N',rfl⟩:∃ N',N = N' + 1:=⟨N - 1,by omega⟩
  rw [Zbu,c5,decide_eq_false (by unfold ilen; omega)]
  exact lp1 c.reads.length 0 _ (by omega) (by omega)
 ·exact lp0 (c.puts.length - 1) 1 N (by omega) (by omega) (by omega)
theorem Wpi (h:CmOk c) {n:Int} (hn:0 ≤ n ∧ n ≤ 8):Z6 N c.e n = some (((Wkm c n).e,()),()):=by
 unfold Z6 Wkm
 rw [Ww,Wap (by unfold I64; omega)]
 split <;> rfl
theorem adv_run {ph:Int}:Zex N c.e ph = some (((cmAdv c ph).e,()),()):=by
 obtain ⟨c0,c1,c2,c3,c4,c5,c6⟩:=cmP c
 unfold Zex cmAdv Wxc
 simp only [Ww,c5,c6,ilen]
 by_cases h3:ph = 3
 ·subst h3
  by_cases hr:c.reads.length = 0 <;> by_cases hp:c.puts.length = 0 <;> simp [hr,hp] <;> rfl
 ·by_cases h4:ph = 4
  ·subst h4
   by_cases hp:c.puts.length = 0 <;> simp [hp] <;> rfl
  ·simp [h3,h4]; rfl
theorem next_run (h:CmOk c) {ph:Int}:Zbm N c.e ph = some (((Wok c ph).e,()),()):=by
 obtain ⟨c0,c1,c2,c3,c4,c5,c6⟩:=cmP c
 have hps:=h.pos
 have hs8:c.steps ≤ 8:=by have:=h.plen; have:=h.rlen; unfold Cm.steps; split <;> (try split) <;> omega
 have hst:Zc6 N (Cm.e { c with pos:=c.pos + 1 }) = ret c.steps:=Wxv
 unfold Zbm Wok
 rw [c3,Wz (by unfold I64; omega)]
 rw [show (c.e.1,(c.e.2.1,(c.e.2.2.1,(c.pos + 1,c.e.2.2.2.2)))) = Cm.e { c with pos:=c.pos + 1 } from rfl,hst]
 simp only [ret,Option.bind_some,Ww,adv_run]
 split <;> rfl
theorem break_run (h:CmOk c) (hN:1048576 < N):∃ b,Zik N c.e = some ((),((Wfh c).e,(b,()))):=by
 obtain ⟨c0,c1,c2,c3,c4,c5,c6⟩:=cmP c
 have hps:=h.pos
 have hpl:=h.plen
 have hs8:c.steps ≤ 8:=by have:=h.plen; have:=h.rlen; unfold Cm.steps; split <;> (try split) <;> omega
 unfold Zik Wfh
 rw [Wst h]
 simp only [ret,Option.bind_some]
 rw [Wou h hN]
 simp only [ret,Option.bind_some,Bool.not_true,cond_false,Ww,c2,c3,c5,Wpi h (show 0 ≤ c.pos ∧ c.pos ≤ 8 by omega),Wpi h (show 0 ≤ ilen c.puts ∧ ilen c.puts ≤ 8 by unfold ilen; omega)]
 by_cases h1:c.phase = 1
 ·rw [if_pos h1,if_pos h1]; exact ⟨_,rfl⟩
 ·rw [if_neg h1,if_neg h1]
  by_cases h2:c.phase = 2
  ·rw [if_pos h2,if_pos h2,if_pos (.inl h2)]; exact ⟨_,rfl⟩
  ·rw [if_neg h2]
   by_cases h3:c.phase = 3
   ·rw [if_pos h3,if_pos (.inr h3)]; exact ⟨_,rfl⟩
   ·rw [if_neg h3,if_neg (by omega)]; exact ⟨_,rfl⟩
theorem cellsOf_run {l:List Rw} (hl:l.length ≤ 1048576) (hN:1048576 < N):Zet N l = ret ((netR l).map (·.1)):=by
 unfold Zet
 rw [Whf hl hN]
 have hn:=Wlz l
 simp only [ret,Option.bind_some]
 have h1:=Wad (l:=netR l) (V:=List Int) (R:=Unit × (List Int × Unit)) (lp:=fun n j v=>Zcu N (ilen (netR l)) (netR l) (fun t10 t11 l12=>(some ((),(l12,())))) n j v) (n:=N) (by omega)
  (body:=fun j x v k=>bif room (v.length + [x.1].length) then k (List.append v [x.1]) else none) (K:=fun _ v=>ret v)
  (fun n i v hi=>by simp only [Zcu,Wba hi,Wp hi,Wu hi,Wi (show i < 4611686018427387904 by omega),cond_true])
  (fun n v=>by simp only [Zcu,Wbj (Nat.le_refl _),cond_false]) []
 refine h1.trans ?_
 rw [Wgz (f:=fun x:Rw=>x.1) (netR l) 0 [] (by simp; omega) (fun j x v k _=>rfl)]
 rfl
theorem new_run {who rv:Int} {puts reads:List Rw} (hw:1 ≤ who ∧ who ≤ 99) (hr:0 ≤ rv ∧ rv ≤ 1000000) (hp:Wcn puts = true) (hd:Wcn reads = true) (hN:1048576 < N) :
  Zej N who rv puts reads = some ((),((Wpt who rv puts reads).e,(true,()))):=by
 have l1:puts.length ≤ 300:=by unfold Wcn at hp; simp at hp; exact hp.1
 have l2:reads.length ≤ 300:=by unfold Wcn at hd; simp at hd; exact hd.1
 unfold Zej
 simp only [Wdp,Wk,Wen (show puts.length ≤ 1048576 by omega) hN,Wen (show reads.length ≤ 1048576 by omega) hN,Whf (show puts.length ≤ 1048576 by omega) hN,cellsOf_run (show reads.length ≤ 1048576 by omega) hN,ret,Option.bind_some,decide_eq_true hw.1,decide_eq_true hw.2,decide_eq_true hr.1,decide_eq_true hr.2,hp,hd,Bool.and_self,Bool.not_true,cond_false,Ww]
 unfold Wpt Cm.e
 by_cases hz:(netR puts).length = 0
 ·rw [if_pos (by unfold ilen; omega)]; simp only [if_pos hz]
 ·rw [if_neg (by unfold ilen; omega)]; simp only [if_neg hz]
theorem Wph {m:Mm} {i:Int}:List.getD m.2 (Int.toNat i) ((0:Int),((0:Int),(0:Int))) = Wdm m i:=rfl
theorem Wnr (hm:Wbi m = true) {i:Int} (hi:0 ≤ i ∧ i ≤ 7):inb i m.2.length = true:=by
 have:=(Wan hm).1
 unfold inb; simp; omega
theorem Wqn {i:Int} (hi:0 ≤ i ∧ i ≤ 7):Way i = true:=by unfold Way; simpa using hi
theorem Wyr (hm:Wbi m = true) {i who:Int} (hi:0 ≤ i ∧ i ≤ 7) (hw:1 ≤ who ∧ who ≤ 99) (hN:1048576 < N) :
  Zmr N m i who = some ((),((if (Wdm m i).2.2 = 0 then mLock m i who else m),(decide ((Wdm m i).2.2 = 0),()))):=by
 unfold Zmr
 rw [Whp hm,Wcl (by have:=(Wan hm).1; omega) hN,hm]
 simp only [ret,Option.bind_some,Bool.not_true,cond_false,Wj,Wqn hi,Wdp,decide_eq_true hw.1,decide_eq_true hw.2,Bool.and_self,Wnr hm hi,cond_true,Wph,Wfc]
 by_cases h:(Wdm m i).2.2 = 0
 ·rw [if_pos h,if_pos h,decide_eq_true h]; rfl
 ·rw [if_neg h,if_neg h,decide_eq_false h]
theorem Wvp (hm:Wbi m = true) {i who v:Int} (hi:0 ≤ i ∧ i ≤ 7) (hw:1 ≤ who ∧ who ≤ 99) (hv:0 ≤ v ∧ v ≤ 65535) (hN:1048576 < N) :
  ∃ b,Znu N m i who v = some ((),(Wzh m i who v,(b,()))):=by
 unfold Znu Wzh
 rw [Whp hm,Wcl (by have:=(Wan hm).1; omega) hN,hm]
 simp only [ret,Option.bind_some,Bool.not_true,cond_false,Wj,Wqn hi,Wdp,Wl,Wci.2 hv,decide_eq_true hw.1,decide_eq_true hw.2,Bool.and_self,Wnr hm hi,cond_true,Wph,Wfc]
 by_cases h:(Wdm m i).2.2 = who
 ·rw [if_pos h,if_pos h]; exact ⟨_,rfl⟩
 ·rw [if_neg h,if_neg h]; exact ⟨_,rfl⟩
theorem Wkl (hm:Wbi m = true) {i who ver:Int} (hi:0 ≤ i ∧ i ≤ 7) (hw:1 ≤ who ∧ who ≤ 99) (hN:1048576 < N) :
  ∃ b,Zkj N m i who ver = some ((),(Wmx m i who ver,(b,()))):=by
 have h8:=(Wan hm).1
 unfold Zkj Wmx
 rw [Whp hm,Wcl (by omega) hN,hm]
 simp only [ret,Option.bind_some,Bool.not_true,cond_false,Wj,Wqn hi,Wdp,Wk,decide_eq_true hw.1,decide_eq_true hw.2,Bool.and_self,Wnr hm hi,cond_true,Wph,Wfc,List.length_set,Wq]
 by_cases h:(Wdm m i).2.2 = who
 ·rw [if_pos h]
  by_cases h2:(Wdm m i).2.1 ≤ ver ∧ ver ≤ m.1
  ·rw [if_pos ⟨h,h2.1,h2.2⟩,decide_eq_true h2.1,decide_eq_true h2.2]
   refine ⟨true,?_⟩
   have:i.toNat < m.2.length:=by omega
   simp only [Bool.and_self,Bool.not_true,cond_false,Wwc this,List.set_set]
   rfl
  ·rw [if_neg (by omega)]
   refine ⟨false,?_⟩
   have:(decide ((Wdm m i).2.1 ≤ ver) && decide (ver ≤ m.1)) = false:=by
    rw [Bool.and_eq_false_iff,decide_eq_false_iff_not,decide_eq_false_iff_not]; omega
   rw [this]; rfl
 ·rw [if_neg h,if_neg (by omega)]; exact ⟨_,rfl⟩
theorem implStep_run (h:CmOk c) (hm:Wbi m = true) (hN:1048576 < N):Ziz N m c.e = some ((),((Wlp m c).1,((Wlp m c).2.e,()))):=by
 obtain ⟨c0,c1,c2,c3,c4,c5,c6⟩:=cmP c
 have hps:=h.pos
 have hpl:=h.plen
 have hw:=h.who
 have hs8:c.steps ≤ 8:=by have:=h.plen; have:=h.rlen; unfold Cm.steps; split <;> (try split) <;> omega
 have b1:=Wpi (N:=N) h (show 0 ≤ c.pos ∧ c.pos ≤ 8 by omega)
 have b2:=Wpi (N:=N) h (show 0 ≤ ilen c.puts ∧ ilen c.puts ≤ 8 by unfold ilen; omega)
 unfold Ziz Wlp
 rw [Whp hm,Wst h]
 simp only [ret,Option.bind_some]
 rw [Wcl (by have:=(Wan hm).1; omega) hN,Wou h hN,hm]
 simp only [ret,Option.bind_some,Bool.not_true,cond_false,Ww,c0,c1,c2,c3,c4,c5,c6,Wif,b1,b2,next_run h]
 by_cases h1:c.phase = 1
 ·rw [if_pos h1,if_pos h1]
  obtain ⟨j,hj,e1,e2,e3,e4⟩:=h.put (by omega)
  rw [show List.getD c.puts (Int.toNat c.pos) ((0:Int),(0:Int)) = c.puts[j] from e2,e2,e1,War,decide_eq_true hj,Wyr hm e3 hw hN,← e1]
  by_cases ho:(Wdm m c.puts[j].1).2.2 = 0
  ·rw [if_pos ho,if_pos ho,decide_eq_true ho]; rfl
  ·rw [if_neg ho,if_neg ho,decide_eq_false ho]; rfl
 ·rw [if_neg h1,if_neg h1]
  by_cases h2:c.phase = 2
  ·rw [if_pos h2,if_pos h2,implTick_run hm hN]
   simp only [Option.bind_some]
   by_cases ht:(tick m).2 = 0
   ·rw [if_pos ht,if_pos ht]; rfl
   ·rw [if_neg ht,if_neg ht]
    rw [show (c.who,(c.rv,(c.phase,(c.pos,((tick m).2,c.e.2.2.2.2.2))))) = Cm.e { c with wv:=(tick m).2 } from rfl,adv_run]
    rfl
  ·rw [if_neg h2,if_neg h2]
   by_cases h3:c.phase = 3
   ·rw [if_pos h3,if_pos h3]
    obtain ⟨j,hj,e1,e2,e3,e4⟩:=h.read h3
    rw [show List.getD c.reads (Int.toNat c.pos) (0:Int) = c.reads[j] from e2,e2,e1,War,decide_eq_true hj,Wnr hm ⟨e3,e4⟩]
    simp only [cond_true,Wfc,Wby]
    rw [show List.getD m.2 (Int.toNat c.reads[j]) ((0:Int),((0:Int),(0:Int))) = Wdm m c.reads[j] from rfl]
    by_cases a:(Wdm m c.reads[j]).2.2 = 0
    ·rw [if_pos a]
     by_cases b:(Wdm m c.reads[j]).2.1 > c.rv
     ·rw [if_pos b,if_pos (.inr b)]; rfl
     ·rw [if_neg b,if_neg (by omega)]
    ·rw [if_neg a]
     by_cases a':(Wdm m c.reads[j]).2.2 = c.who
     ·rw [if_pos a']
      by_cases b:(Wdm m c.reads[j]).2.1 > c.rv
      ·rw [if_pos b,if_pos (.inr b)]; rfl
      ·rw [if_neg b,if_neg (by omega)]
     ·rw [if_neg a',if_pos (.inl ⟨a,a'⟩)]; rfl
   ·rw [if_neg h3,if_neg h3]
    by_cases h4:c.phase = 4
    ·rw [if_pos h4,if_pos h4]
     obtain ⟨j,hj,e1,e2,e3,e4⟩:=h.put (by omega)
     obtain ⟨b,hb⟩:=Wvp hm e3 hw e4 hN
     rw [show List.getD c.puts (Int.toNat c.pos) ((0:Int),(0:Int)) = c.puts[j] from e2,e2,e1,War,decide_eq_true hj,hb]
     rfl
    ·rw [if_neg h4,if_neg h4]
     by_cases h5:c.phase = 5
     ·rw [if_pos h5,if_pos h5]
      obtain ⟨j,hj,e1,e2,e3,e4⟩:=h.put (by omega)
      obtain ⟨b,hb⟩:=Wkl (ver:=c.wv) hm e3 hw hN
      rw [show List.getD c.puts (Int.toNat c.pos) ((0:Int),(0:Int)) = c.puts[j] from e2,e2,e1,War,decide_eq_true hj,hb]
      rfl
     ·rw [if_neg h5,if_neg h5]
      by_cases h7:c.phase = 7
      ·rw [if_pos h7,if_pos h7]
       obtain ⟨j,hj,e1,e2,e3,e4⟩:=h.put (by omega)
       obtain ⟨b,hb⟩:=Wkl (ver:=(Wdm m c.puts[j].1).2.1) hm e3 hw hN
       rw [show List.getD c.puts (Int.toNat c.pos) ((0:Int),(0:Int)) = c.puts[j] from e2,e2,e1,War,decide_eq_true hj,Wnr hm e3]
       simp only [cond_true,Wph,hb,← e1]
       rfl
      ·rw [if_neg h7,if_neg h7]
end
end Go.Sx
