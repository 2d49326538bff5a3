/- Plain laws of the Lean functions. -/
import Derived.Test.YtfajigbmoebkaaaGreatMW1FamT

namespace Go.Sx
set_option linter.unusedVariables false
set_option linter.unusedSimpArgs false
def Wex (s:Int):Int:=(s - 1) / 65536
def Wdb (k:Int):Int:=(7 * k + 3) % 4
structure SlOk (l:List Int):Prop where
 len:l.length = 16
 each:∀ i (h:i < l.length),l[i] = 0 ∨ ((1 ≤ l[i] ∧ l[i] ≤ 524288) ∧ Wdb (Wex l[i]) = ((i / 4:Nat):Int))
 one:∀ i j (hi:i < l.length) (hj:j < l.length),i < j → l[i] ≠ 0 → l[j] ≠ 0 → Wex l[i] ≠ Wex l[j]
def slHas (k s:Int):Bool:=decide (s > 0) && decide (Wex s = k)
def slAt (l:List Int) (k:Int):Option (Nat × Int):=fnd (slHas k) l 0
def Wlv (l:List Int) (k:Int):Nat:=if getI l (4 * Wdb k) 0 = 0 then (4 * Wdb k).toNat else (4 * Wdb k).toNat + 1
def slPut (l:List Int) (k v:Int):List Int:=match slAt l k with
 | some r=>l.set r.1 (1 + 65536 * k + v)
 | none=>l.set (Wlv l k) (1 + 65536 * k + v)
def Wje (l:List Int) (k:Int):Int:=match slAt l k with
 | some r=>(r.2 - 1) % 65536 + 1
 | none=>0
def Wuc (l:List Int) (k:Int):List Int:=match slAt l k with
 | some r=>l.set r.1 0
 | none=>l
variable {N:Nat} {l:List Int} {k v:Int}
theorem wrapI {n:Int} (h:I64 n):IntKind.wrap .i64 n = n:=wrap_i64 h
theorem keyIn_run {s:Int} (h:1 ≤ s ∧ s ≤ 524288):Zhq N s = ret (Wex s):=by
 unfold Zhq
 rw [Wap (by unfold I64; omega)]
 have:iquo .i64 (s - 1) 65536 = Wex s:=by
  unfold iquo Wex
  rw [Int.tdiv_eq_ediv_of_nonneg (by omega),wrapI (by unfold I64; omega)]
 rw [this]; rfl
theorem Wvl {s:Int} (h:1 ≤ s ∧ s ≤ 524288):0 ≤ Wex s ∧ Wex s ≤ 7:=by unfold Wex; omega
theorem Wix:Za3 N k = ret (decide (0 ≤ k) && decide (k ≤ 7)):=by unfold Za3; rw [Wk]; rfl
theorem Wso (hk:0 ≤ k ∧ k ≤ 7) (hv:0 ≤ v ∧ v ≤ 65535):Zib N k v = ret (1 + 65536 * k + v):=by
 unfold Zib
 rw [Wmz (by unfold I64; omega),Wz (a:=1) (by unfold I64; omega),Wz (by unfold I64; omega)]
theorem Wtk (hk:0 ≤ k ∧ k ≤ 7):Zih N k = ret (Wdb k):=by
 unfold Zih
 rw [Wix,Wmz (by unfold I64; omega),Wz (by unfold I64; omega)]
 have:irem (7 * k + 3) 4 = Wdb k:=by unfold irem Wdb; exact Int.tmod_eq_emod_of_nonneg (by omega)
 simp only [ret,Option.bind_some,decide_eq_true hk.1,decide_eq_true hk.2,Bool.and_self,Bool.not_true,cond_false,this]
 rfl
theorem SlOk.val (h:SlOk l) {i:Nat} (hi:i < l.length) (hn:l[i] ≠ 0):1 ≤ l[i] ∧ l[i] ≤ 524288:=by
 rcases h.each i hi with h0 | h0
 ·exact absurd h0 hn
 ·exact h0.1
theorem Wih (h:SlOk l) (hN:1048576 < N):Zds N l k = ret (match slAt l k with | some r=>(r.1:Int) | none=>-1):=by
 unfold Zds slAt
 have hl:=h.len
 have h1:=Wwg (l:=l) (p:=slHas k) (N:=N) (lp:=fun n j=>Zdk N k l (fun t13=>(some ((),(t13,())))) (fun t14 t15=>(some ((),((-1:Int),())))) n j) (K0:=fun j=>some ((),(j,()))) (K1:=some ((),((-1:Int),()))) (by omega) (by omega)
  (fun n j hj=>by
   simp only [Zdk,Wba hj,Wp hj,Wu hj,Wi (show j < 4611686018427387904 by omega),cond_true]
   unfold slHas
   by_cases h0:l[j] > 0
   ·rw [keyIn_run (h.val hj (by omega))]
    simp only [decide_eq_true h0,cond_true,Bool.true_and,ret,Option.bind_some,Ww,Wby]
   ·simp only [decide_eq_false h0,cond_false,Bool.false_and])
  (fun n=>by simp only [Zdk,Wbj (Nat.le_refl _),cond_false])
 rw [h1]
 cases fnd (slHas k) l 0 <;> rfl
theorem Wdq (h:SlOk l) (hN:1048576 < N):Zb2 N l = ret true:=by
 have hl:=h.len
 have lp:∀ (d j n:Nat) (s:List Bool),j + d = 16 → d < n → s.length = 8 → (∀ c:Nat,s.getD c false = true → ∃ i,∃ hi:i < l.length,i < j ∧ l[i] ≠ 0 ∧ Wex l[i] = c) →
   Zb6 N l (some ((),(false,()))) (fun t27 t28 l29=>(some ((),(true,())))) n (j:Int) s = ret true:=by
  intro d
  induction d with
  | zero =>
   intro j n s hj hn _ _
   obtain ⟨n,rfl⟩:∃ n',n = n' + 1:=⟨n - 1,by omega⟩
   have:j = l.length:=by omega
   subst this
   simp only [Zb6,Wbj (Nat.le_refl _),cond_false]
  | succ d ih =>
   intro j n s hj hn hs hb
   obtain ⟨n,rfl⟩:∃ n',n = n' + 1:=⟨n - 1,by omega⟩
   have hlt:j < l.length:=by omega
   simp only [Zb6,Wba hlt,Wp hlt,Wu hlt,Wi (show j < 4611686018427387904 by omega),cond_true,Ww]
   by_cases h0:l[j] = 0
   ·rw [if_pos h0]
    exact ih (j + 1) n s (by omega) (by omega) hs fun c hc=>by
     obtain ⟨i,hi,h1,h2,h3⟩:=hb c hc
     exact ⟨i,hi,by omega,h2,h3⟩
   ·rw [if_neg h0]
    have hv:=h.val hlt h0
    have hk:=Wvl hv
    have hbk:Wdb (Wex l[j]) = ((j / 4:Nat):Int):=by
     rcases h.each j hlt with h1 | h1
     ·exact absurd h1 h0
     ·exact h1.2
    have hq:iquo .i64 (j:Int) 4 = ((j / 4:Nat):Int):=by
     unfold iquo
     rw [Int.tdiv_eq_ediv_of_nonneg (by omega),wrapI (by unfold I64; omega)]
     omega
    have hnew:s.getD (Int.toNat (Wex l[j])) false = false:=by
     rw [Bool.eq_false_iff]
     intro hc
     obtain ⟨i,hi,h1,h2,h3⟩:=hb _ hc
     exact h.one i j hi hlt h1 h2 h0 (by omega)
    rw [Wso (k:=7) (v:=65535) (by omega) (by omega),keyIn_run hv]
    simp only [ret,Option.bind_some,Wk,show (1:Int) + 65536 * 7 + 65535 = 524288 from rfl,decide_eq_true hv.1,decide_eq_true hv.2,Bool.and_self,Bool.not_true,cond_false,Wtk hk,hbk,hq,bne_self_eq_false]
    rw [show inz (4:Int) = true from rfl]
    simp only [cond_true]
    rw [show inb (Wex l[j]) 8 = true by unfold inb; simp; omega,hs,decide_eq_true rfl,hnew]
    simp only [Bool.and_self,cond_true,cond_false]
    refine ih (j + 1) n _ (by omega) (by omega) (by simpa using hs) fun c hc=>?_
    by_cases hcj:c = (Wex l[j]).toNat
    ·exact ⟨j,hlt,by omega,h0,by omega⟩
    ·have:s.getD c false = true:=by
      rw [List.getD_eq_getElem?_getD,List.getElem?_set_ne (by omega),← List.getD_eq_getElem?_getD] at hc
      exact hc
     obtain ⟨i,hi,h1,h2,h3⟩:=hb c this
     exact ⟨i,hi,by omega,h2,h3⟩
 unfold Zb2
 rw [show ((ilen l) != (16:Int)) = false by unfold ilen; rw [hl]; rfl]
 simp only [cond_false]
 refine lp 16 0 N _ (by omega) (by omega) (by simp) fun c hc=>?_
 rw [List.getD_eq_getElem?_getD] at hc
 by_cases h8:c < 8
 ·rw [List.getElem?_replicate,if_pos h8] at hc; simp at hc
 ·rw [List.getElem?_eq_none (by simp; omega)] at hc; simp at hc
theorem Wik (h:SlOk l) {r:Nat × Int} (hr:slAt l k = some r):∃ hi:r.1 < l.length,l[r.1] = r.2 ∧ 1 ≤ r.2 ∧ r.2 ≤ 524288 ∧ Wex r.2 = k ∧ Wdb k = ((r.1 / 4:Nat):Int):=by
 obtain ⟨h1,h2,h3,h4⟩:=Wgj hr
 rw [Nat.zero_add] at h3
 rw [Nat.sub_zero,List.getElem?_eq_getElem h3] at h4
 injection h4 with h4
 unfold slHas at h1
 simp only [Bool.and_eq_true,decide_eq_true_eq] at h1
 have h5:=h.val h3 (by omega)
 rcases h.each r.1 h3 with h6 | h6
 ·omega
 ·rw [h4] at h6 h5; rw [h1.2] at h6
  exact ⟨h3,h4,h5.1,h5.2,h1.2,h6.2⟩
theorem Wpz (h:SlOk l) (hr:slAt l k = none) (i:Nat) (hi:i < l.length) (hn:l[i] ≠ 0):Wex l[i] ≠ k:=by
 have:=Wpe hr l[i] (List.getElem_mem hi)
 unfold slHas at this
 have h1:=h.val hi hn
 rw [decide_eq_true (show l[i] > 0 by omega),Bool.true_and] at this
 simpa using this
theorem bkt_bd (k:Int):0 ≤ Wdb k ∧ Wdb k ≤ 3:=by unfold Wdb; omega
theorem Wyl (h:SlOk l) (hk:0 ≤ k ∧ k ≤ 7) (hr:slAt l k = none):∃ hi:Wlv l k < l.length,l[Wlv l k] = 0 ∧ Wdb k = ((Wlv l k / 4:Nat):Int) ∧ (Wlv l k = (4 * Wdb k).toNat ∨ (Wlv l k = (4 * Wdb k).toNat + 1 ∧ getI l (4 * Wdb k) 0 ≠ 0)):=by
 have hl:=h.len
 have hb:=bkt_bd k
 unfold Wlv
 have h1:(4 * Wdb k).toNat < l.length:=by omega
 have hg:getI l (4 * Wdb k) 0 = l[(4 * Wdb k).toNat]:=Wm h1 _
 by_cases h0:getI l (4 * Wdb k) 0 = 0
 ·simp only [if_pos h0]
  exact ⟨h1,by rw [← hg]; exact h0,by omega,.inl trivial⟩
 ·simp only [if_neg h0]
  have h2:(4 * Wdb k).toNat + 1 < l.length:=by omega
  refine ⟨h2,?_,by omega,.inr ⟨trivial,h0⟩⟩
  refine Classical.byContradiction fun hn=>?_
  rw [hg] at h0
  have a1:=Wpz h hr _ h1 h0
  have a2:=Wpz h hr _ h2 hn
  have a3:=h.one _ _ h1 h2 (by omega) h0 hn
  have b1:=Wvl (h.val h1 h0)
  have b2:=Wvl (h.val h2 hn)
  rcases h.each _ h1 with c1 | c1
  ·exact h0 c1
  ·rcases h.each _ h2 with c2 | c2
   ·exact hn c2
   ·have d1:=c1.2
    have d2:=c2.2
    generalize Wex l[(4 * Wdb k).toNat] = x at *
    generalize Wex l[(4 * Wdb k).toNat + 1] = y at *
    unfold Wdb at *
    omega
theorem slot_key (hk:0 ≤ k ∧ k ≤ 7) (hv:0 ≤ v ∧ v ≤ 65535):(1 ≤ 1 + 65536 * k + v ∧ 1 + 65536 * k + v ≤ 524288) ∧ Wex (1 + 65536 * k + v) = k:=by unfold Wex; omega
theorem Wvo (h:SlOk l) {i:Nat} (hi:i < l.length) {s:Int} (hs:s = 0 ∨ ((1 ≤ s ∧ s ≤ 524288) ∧ Wdb (Wex s) = ((i / 4:Nat):Int))) (ho:s ≠ 0 → ∀ j (hj:j < l.length),j ≠ i → l[j] ≠ 0 → Wex l[j] ≠ Wex s):SlOk (l.set i s) where
 len:=by rw [List.length_set]; exact h.len
 each:=fun j hj=>by
  rw [List.length_set] at hj
  rw [List.getElem_set]
  by_cases he:i = j
  ·subst he; rw [if_pos rfl]; exact hs
  ·rw [if_neg he]; exact h.each j hj
 one:=fun a b ha hb hab=>by
  rw [List.length_set] at ha hb
  rw [List.getElem_set,List.getElem_set]
  by_cases h1:i = a
  ·subst h1
   rw [if_pos rfl,if_neg (by omega)]
   exact fun hn hb0 he=>ho hn b hb (by omega) hb0 he.symm
  ·rw [if_neg h1]; by_cases h2:i = b
   ·subst h2; rw [if_pos rfl]; exact fun ha0 hn=>ho hn a ha (by omega) ha0
   ·rw [if_neg h2]; exact h.one a b ha hb hab
theorem Wpg (h:SlOk l) (hk:0 ≤ k ∧ k ≤ 7) (hv:0 ≤ v ∧ v ≤ 65535):SlOk (slPut l k v):=by
 obtain ⟨k1,k2⟩:=slot_key hk hv
 unfold slPut
 cases hr:slAt l k with
 | some r =>
  obtain ⟨hi,h1,h2,h3,h4,h5⟩:=Wik h hr
  refine Wvo h hi (.inr ⟨k1,by rw [k2]; exact h5⟩) fun _ j hj hne hn=>?_
  rw [k2,← h4,← h1]
  rcases Nat.lt_or_gt_of_ne hne with hlt | hlt
  ·exact h.one j r.1 hj hi hlt hn (by rw [h1]; omega)
  ·exact fun e=>h.one r.1 j hi hj hlt (by rw [h1]; omega) hn e.symm
 | none =>
  obtain ⟨hi,h1,h2,_⟩:=Wyl h hk hr
  refine Wvo h hi (.inr ⟨k1,by rw [k2]; exact h2⟩) fun _ j hj hne hn=>?_
  rw [k2]; exact Wpz h hr j hj hn
theorem Wzp (h:SlOk l):SlOk (Wuc l k):=by
 unfold Wuc
 cases hr:slAt l k with
 | some r =>
  obtain ⟨hi,h1,_⟩:=Wik h hr
  exact Wvo h hi (.inl rfl) fun h=>absurd rfl h
 | none=>exact h
theorem Wmi (l:List Int) (k:Int):0 ≤ Wje l k ∧ Wje l k ≤ 65536:=by
 unfold Wje
 cases slAt l k <;> simp only <;> omega
theorem Wfr (h:SlOk l) (hk:0 ≤ k ∧ k ≤ 7) (hN:1048576 < N):Zhk N l k = some ((),((if Wje l k = 0 then 0 else Wje l k - 1),(decide (Wje l k ≠ 0),()))):=by
 unfold Zhk Wje
 rw [Wdq h hN,Wix,Wih h hN]
 simp only [ret,Option.bind_some,Bool.not_true,cond_false,decide_eq_true hk.1,decide_eq_true hk.2,Bool.and_self]
 cases hr:slAt l k with
 | none=>rfl
 | some r =>
  obtain ⟨hi,h1,h2,h3,h4,h5⟩:=Wik h hr
  simp only [decide_eq_false (show ¬ ((r.1:Int) < 0) by omega),cond_false,War,decide_eq_true hi,cond_true,Wu hi,h1]
  rw [Wap (by unfold I64; omega),Wek (by omega),if_neg (by omega),decide_eq_true (by omega)]
  simp only [Int.add_sub_cancel]
  rfl
theorem Wfj (h:SlOk l) (hk:0 ≤ k ∧ k ≤ 7) (hv:0 ≤ v ∧ v ≤ 65535) (hN:1048576 < N):Zcd N l k v = some ((),(slPut l k v,(Wje l k,(true,())))):=by
 have hl:=h.len
 unfold Zcd
 rw [Wep (by omega),Wdq h hN,Wix,Wl,Wih h hN,Wfr h hk hN,Wso hk hv,Wtk hk]
 simp only [ret,Option.bind_some,Bool.not_true,cond_false,decide_eq_true hk.1,decide_eq_true hk.2,Bool.and_self,Wci.2 hv]
 unfold slPut Wje
 cases hr:slAt l k with
 | some r =>
  obtain ⟨hi,h1,h2,h3,h4,h5⟩:=Wik h hr
  simp only [decide_eq_true (show ((r.1:Int) ≥ 0) by omega),cond_true,War,decide_eq_true hi,Int.toNat_natCast]
  rw [if_neg (by omega),Wz (by unfold I64; omega)]
  simp only [show (r.2 - 1) % 65536 + 1 - 1 + 1 = (r.2 - 1) % 65536 + 1 by omega]
 | none =>
  simp only [show decide ((-1:Int) ≥ 0) = false from rfl,cond_false]
  have hb:=bkt_bd k
  obtain ⟨hi,h1,h2,h3⟩:=Wyl h hk hr
  rw [Wmz (by unfold I64; omega)]
  obtain ⟨N',rfl⟩:∃ N',N = N' + 1 + 1:=⟨N - 2,by omega⟩
  have hb2:4 * Wdb k = (((4 * Wdb k).toNat:Nat):Int):=by omega
  have hfin:∀ n,Zct (N' + 1 + 1) k v l (fun at18 t19=>(bif inb at18 (List.length l) then (some ((),(List.set l (Int.toNat at18) (1 + 65536 * k + v),(0,(true,()))))) else none)) (n + 1) (Wlv l k:Int) = some ((),(l.set (Wlv l k) (1 + 65536 * k + v),((0:Int),(true,())))):=fun n=>by
   simp only [Zct,Wp hi,Wu hi,h1,cond_true,bne_self_eq_false,cond_false]
   rw [Int.toNat_natCast]
  rcases h3 with h3 | ⟨h3,h4⟩
  ·rw [hb2,← h3]; exact hfin _
  ·have hlt:(4 * Wdb k).toNat < l.length:=by omega
   have hg:getI l (4 * Wdb k) 0 = l[(4 * Wdb k).toNat]:=Wm hlt _
   rw [hg] at h4
   have hstep:=hfin N'
   rw [hb2]
   rw [Zct]
   simp only [Wp hlt,Wu hlt,cond_true]
   rw [show (l[(4 * Wdb k).toNat] != 0) = true by simpa using h4,Wi (by omega),← h3]
   simp only [cond_true]
   exact hstep
theorem Wic (h:SlOk l) (hk:0 ≤ k ∧ k ≤ 7) (hN:1048576 < N):Zii N l k = some ((),(Wuc l k,(Wje l k,(true,())))):=by
 have hl:=h.len
 unfold Zii
 rw [Wep (by omega),Wdq h hN,Wix,Wih h hN,Wfr h hk hN]
 simp only [ret,Option.bind_some,Bool.not_true,cond_false,decide_eq_true hk.1,decide_eq_true hk.2,Bool.and_self]
 unfold Wuc Wje
 cases hr:slAt l k with
 | some r =>
  obtain ⟨hi,h1,h2,h3,h4,h5⟩:=Wik h hr
  simp only [decide_eq_false (show ¬ ((r.1:Int) < 0) by omega),cond_true,cond_false,War,decide_eq_true hi,Int.toNat_natCast]
  rw [if_neg (by omega),Wz (by unfold I64; omega)]
  simp only [show (r.2 - 1) % 65536 + 1 - 1 + 1 = (r.2 - 1) % 65536 + 1 by omega]
 | none=>rfl
end Go.Sx
