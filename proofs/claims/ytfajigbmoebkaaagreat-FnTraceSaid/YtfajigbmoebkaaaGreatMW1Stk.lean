/- Plain laws of the Lean functions. -/
import Derived.Test.YtfajigbmoebkaaaGreatMW1Code

namespace Go.Sx
set_option linter.unusedVariables false
set_option linter.unusedSimpArgs false
def stk (l:List Opn):Nat → List Nat
 | 0=>[]
 | j + 1=>bif (l.getD j (0,0,0,0)).1 == 8 then stk l j ++ [j] else bif (l.getD j (0,0,0,0)).1 == 9 then (stk l j).dropLast else stk l j
theorem Wrs {l:List Opn} {j:Nat} (h:j < l.length) (h8:l[j].1 = 8):stk l (j + 1) = stk l j ++ [j]:=by
 rw [stk,Wm h]; simp [h8]
theorem Wvw {l:List Opn} {j:Nat} (h:j < l.length) (h9:l[j].1 = 9):stk l (j + 1) = (stk l j).dropLast:=by
 rw [stk,Wm h]; simp [h9]
theorem Wmn {l:List Opn} {j:Nat} (h:j < l.length) (h8:l[j].1 ≠ 8) (h9:l[j].1 ≠ 9):stk l (j + 1) = stk l j:=by
 rw [stk,Wm h]
 have e8:(l[j].1 == 8) = false:=by simp [h8]
 have e9:(l[j].1 == 9) = false:=by simp [h9]
 rw [e8,e9]; rfl
theorem opd_8 {o:Opn} (h:o.1 = 8):opd o = 1:=by unfold opd; simp [h]
theorem Wwy {o:Opn} (h:o.1 = 9):opd o = -1:=by unfold opd; simp [h]
theorem opd_o {o:Opn} (h8:o.1 ≠ 8) (h9:o.1 ≠ 9):opd o = 0:=by
 unfold opd
 have e8:(o.1 == 8) = false:=by simp [h8]
 have e9:(o.1 == 9) = false:=by simp [h9]
 rw [e8,e9]; rfl
theorem Wdx {α:Type} (l:List α):l = [] ∨ ∃ q x,l = q ++ [x]:=by
 rcases List.eq_nil_or_concat l with h | ⟨q,x,h⟩
 ·exact .inl h
 ·exact .inr ⟨q,x,by rw [h,List.concat_eq_append]⟩
def Up (l:List Opn):Prop:=∀ i,i < l.length → 0 ≤ dep l (i + 1)
theorem Up.at {l:List Opn} (h:Up l) {j:Nat} (hj:j ≤ l.length):0 ≤ dep l j:=by
 cases j with
 | zero=>rw [Wgd]; omega
 | succ j=>exact h j hj
theorem Wdf {l:List Opn} (h:Up l):∀ j,j ≤ l.length → ((stk l j).length:Int) = dep l j
 | 0,_=>by rw [Wgd]; rfl
 | j + 1,hj=>by
  have hj':j < l.length:=hj
  have ih:=Wdf h j (by omega)
  have hd:=Wbz hj'
  have hu:=h j hj'
  by_cases h8:l[j].1 = 8
  ·rw [Wrs hj' h8,hd,opd_8 h8,List.length_append]; simp; omega
  ·by_cases h9:l[j].1 = 9
   ·rw [Wvw hj' h9,hd,Wwy h9,List.length_dropLast]
    rw [hd,Wwy h9] at hu
    omega
   ·rw [Wmn hj' h8 h9,hd,opd_o h8 h9]; omega
theorem Wwp {l:List Opn}:∀ (j:Nat),j ≤ l.length → ∀ (s t:List Nat) (m:Nat),stk l j = s ++ m :: t →
  m < j ∧ (∃ h:m < l.length,l[m].1 = 8) ∧ stk l m = s ∧ ∀ i,m < i → i ≤ j → ∃ t',stk l i = s ++ m :: t'
 | 0,_,s,t,m,h=>by simp [stk] at h
 | j + 1,hj,s,t,m,h=>by
  have hj':j < l.length:=hj
  have ih:=Wwp (l:=l) j (by omega)
  have next:∀ t0,stk l j = s ++ m :: t0 → m < j + 1 ∧ (∃ h:m < l.length,l[m].1 = 8) ∧ stk l m = s ∧ ∀ i,m < i → i ≤ j + 1 → ∃ t',stk l i = s ++ m :: t':=fun t0 h0=>by
   obtain ⟨a,b,c,d⟩:=ih s t0 m h0
   refine ⟨by omega,b,c,fun i hi1 hi2=>?_⟩
   by_cases he:i = j + 1
   ·subst he; exact ⟨t,h⟩
   ·exact d i hi1 (by omega)
  by_cases h8:l[j].1 = 8
  ·rw [Wrs hj' h8] at h
   rcases Wdx t with rfl | ⟨t0,x,rfl⟩
   ·obtain ⟨e1,e2⟩:=List.append_inj' (h:stk l j ++ [j] = s ++ [m]) rfl
    injection e2 with e2
    subst e2
    refine ⟨by omega,⟨hj',h8⟩,e1,fun i hi1 hi2=>?_⟩
    have:i = j + 1:=by omega
    subst this
    exact ⟨[],by rw [Wrs hj' h8]; exact h⟩
   ·have h2:stk l j ++ [j] = (s ++ m :: t0) ++ [x]:=by rw [h,List.append_assoc,List.cons_append]
    obtain ⟨e1,e2⟩:=List.append_inj' h2 rfl
    have h':stk l (j + 1) = s ++ m :: (t0 ++ [x]):=by rw [Wrs hj' h8,h]
    obtain ⟨a,b,c,d⟩:=ih s t0 m e1
    refine ⟨by omega,b,c,fun i hi1 hi2=>?_⟩
    by_cases he:i = j + 1
    ·subst he; exact ⟨_,h'⟩
    ·exact d i hi1 (by omega)
  ·by_cases h9:l[j].1 = 9
   ·rw [Wvw hj' h9] at h
    rcases Wdx (stk l j) with h0 | ⟨q,x,hq⟩
    ·rw [h0] at h; simp at h
    ·have hq':(stk l j).dropLast = q:=by rw [hq]; simp
     rw [hq'] at h
     have h2:stk l j = s ++ m :: (t ++ [x]):=by rw [hq,h]; simp
     obtain ⟨a,b,c,d⟩:=ih s _ m h2
     refine ⟨by omega,b,c,fun i hi1 hi2=>?_⟩
     by_cases he:i = j + 1
     ·subst he; exact ⟨t,by rw [Wvw hj' h9,hq']; exact h⟩
     ·exact d i hi1 (by omega)
   ·exact next t (by rw [← Wmn hj' h8 h9]; exact h)
theorem stk_part {l:List Opn} {a b:Nat} (hab:a ≤ b) (hb:b ≤ l.length) (hbal:bal ((l.take b).drop a) = true):stk l b = stk l a:=by
 obtain ⟨h1,h2⟩:=bal_iff.1 hbal
 have hlen:((l.take b).drop a).length = b - a:=by simp; omega
 have key:∀ i,i ≤ b - a → ∃ t,stk l (a + i) = stk l a ++ t ∧ (t.length:Int) = dep ((l.take b).drop a) i:=by
  intro i
  induction i with
  | zero=>intro _; exact ⟨[],by simp,by rw [Wgd]; rfl⟩
  | succ i ih =>
   intro hi
   obtain ⟨t,ht1,ht2⟩:=ih (by omega)
   have hil:a + i < l.length:=by omega
   have hi2:i < ((l.take b).drop a).length:=by omega
   have hd:=Wbz hi2
   have ei:((l.take b).drop a)[i] = l[a + i]:=by simp
   rw [ei] at hd
   have hu:=h1 i hi2
   by_cases h8:l[a + i].1 = 8
   ·refine ⟨t ++ [a + i],by rw [← Nat.add_assoc,Wrs hil h8,ht1]; simp,?_⟩
    rw [hd,opd_8 h8,List.length_append]; simp; omega
   ·by_cases h9:l[a + i].1 = 9
    ·rw [hd,Wwy h9] at hu
     have hne:t ≠ []:=fun h=>by subst h; simp at ht2; omega
     refine ⟨t.dropLast,?_,?_⟩
     ·rw [← Nat.add_assoc,Wvw hil h9,ht1,List.dropLast_append_of_ne_nil hne]
     ·rw [hd,Wwy h9,List.length_dropLast]; omega
    ·refine ⟨t,by rw [← Nat.add_assoc,Wmn hil h8 h9,ht1],?_⟩
     rw [hd,opd_o h8 h9]; omega
 obtain ⟨t,ht1,ht2⟩:=key (b - a) (Nat.le_refl _)
 rw [← hlen,h2] at ht2
 have:t = []:=List.eq_nil_of_length_eq_zero (by omega)
 subst this
 rw [show a + (b - a) = b by omega] at ht1
 simpa using ht1
structure Mate (l:List Opn) (m k:Nat):Prop where
 lt:m < k
 len:k < l.length
 eq:dep l (k + 1) = dep l m
 ne:∀ i,m ≤ i → i < k → dep l (i + 1) ≠ dep l m
 st:stk l (k + 1) = stk l m
theorem mate_at {l:List Opn} (hu:Up l) (h0:dep l l.length = 0) {j m:Nat} {s:List Nat} (hj:j ≤ l.length) (hs:stk l j = s ++ [m]):∃ k,j ≤ k ∧ Mate l m k ∧ stk l m = s:=by
 obtain ⟨a,⟨hm,h8⟩,c,d⟩:=Wwp j hj s [] m hs
 have hlm:=Wdf hu m (by omega)
 have low:∀ i,m ≤ i → i < j → dep l (i + 1) ≠ dep l m:=fun i h1 h2=>by
  obtain ⟨t',ht'⟩:=d (i + 1) (by omega) (by omega)
  have:=Wdf hu (i + 1) (by omega)
  rw [ht'] at this
  rw [c] at hlm
  simp at this
  omega
 have hge:=hu.at (show m ≤ l.length by omega)
 have ex:∀ n i,l.length - i = n → j ≤ i → i ≤ l.length → (∀ i',m ≤ i' → i' < i → dep l (i' + 1) ≠ dep l m) → dep l m < dep l i → ∃ k,j ≤ k ∧ k < l.length ∧ dep l (k + 1) = dep l m ∧ ∀ i',m ≤ i' → i' < k → dep l (i' + 1) ≠ dep l m:=by
  intro n
  induction n with
  | zero=>intro i h1 h2 h3 h4 h5; exfalso; rw [show i = l.length by omega,h0] at h5; omega
  | succ n ih =>
   intro i h1 h2 h3 h4 h5
   have hil:i < l.length:=by omega
   by_cases he:dep l (i + 1) = dep l m
   ·exact ⟨i,h2,hil,he,h4⟩
   ·have hd:=Wbz hil
    have ho:=Wqm l[i]
    refine ih (i + 1) (by omega) (by omega) hil (fun i' q1 q2=>?_) (by omega)
    by_cases hi':i' = i
    ·subst hi'; exact he
    ·exact h4 i' q1 (by omega)
 have hdj:dep l m < dep l j:=by
  have:=Wdf hu j hj
  rw [hs] at this
  rw [c] at hlm
  simp at this
  omega
 obtain ⟨k,k1,k2,k3,k4⟩:=ex _ j rfl (Nat.le_refl _) hj low hdj
 have hmk:m < k:=by omega
 have pre:∀ n i,i = m + 1 + n → i ≤ k → ∃ t,stk l i = s ++ m :: t:=by
  intro n
  induction n with
  | zero=>intro i h1 h2; exact ⟨[],by rw [h1,Nat.add_zero,Wrs hm h8,c]⟩
  | succ n ih =>
   intro i h1 h2
   obtain ⟨t,ht⟩:=ih (m + 1 + n) rfl (by omega)
   have e:i = (m + 1 + n) + 1:=by omega
   have hil:m + 1 + n < l.length:=by omega
   by_cases g8:l[m + 1 + n].1 = 8
   ·exact ⟨t ++ [m + 1 + n],by rw [e,Wrs hil g8,ht]; simp⟩
   ·by_cases g9:l[m + 1 + n].1 = 9
    ·rcases Wdx t with rfl | ⟨t0,x,rfl⟩
     ·exfalso
      have q:=Wvw hil g9
      rw [ht] at q
      have q2:stk l (m + 1 + n + 1) = s:=by rw [q]; simp
      have q3:=Wdf hu (m + 1 + n + 1) (by omega)
      rw [q2] at q3
      rw [c] at hlm
      exact k4 (m + 1 + n) (by omega) (by omega) (by omega)
     ·exact ⟨t0,by rw [e,Wvw hil g9,ht,show s ++ m :: (t0 ++ [x]) = (s ++ m :: t0) ++ [x] by simp,List.dropLast_concat]⟩
    ·exact ⟨t,by rw [e,Wmn hil g8 g9,ht]⟩
 obtain ⟨t,ht⟩:=pre (k - m - 1) k (by omega) (Nat.le_refl _)
 have hdk:=Wdf hu k (by omega)
 have hdk1:=Wbz k2
 rw [ht] at hdk
 rw [c] at hlm
 simp at hdk
 have hok:=Wqm l[k]
 have g9:l[k].1 = 9:=by
  by_cases g9:l[k].1 = 9
  ·exact g9
  ·by_cases g8:l[k].1 = 8
   ·have:=opd_8 g8; omega
   ·have:=opd_o g8 g9; omega
 have htn:t = []:=List.eq_nil_of_length_eq_zero (by have:=Wwy g9; omega)
 subst htn
 refine ⟨k,k1,⟨hmk,k2,k3,k4,?_⟩,c⟩
 rw [Wvw k2 g9,ht,c]; simp
theorem dep_ne_0 {l:List Opn} {m i:Nat}:((dep l (i + 1) - dep l m) == (0:Int)) = decide (dep l (i + 1) = dep l m):=by
 by_cases h:dep l (i + 1) = dep l m
 ·simp [h]
 ·have:dep l (i + 1) - dep l m ≠ 0:=by omega
  simp [h,this]
theorem Wpq {N:Nat} {l:List Opn} {m k:Nat} (hl:l.length ≤ 1048576) (hN:1048576 < N) (h8:∃ h:m < l.length,l[m].1 = 8) (hm:Mate l m k):Zfj N l (m:Int) = ret (k:Int):=by
 obtain ⟨hml,h8⟩:=h8
 unfold Zfj
 have e1:isub .i64 (ilen l) 1 = (l.length:Int) - 1:=Wap (by unfold I64 ilen; omega)
 have e2:(decide (0 ≤ (m:Int)) && decide ((m:Int) ≤ (l.length:Int) - 1)) = true:=by simp; omega
 have e3:(l[m].1 != 8) = false:=by simp [h8]
 simp only [Wk,ret,Option.bind_some,e1,e2,Bool.not_true,cond_false,Wp hml,cond_true,Wu hml,e3]
 have key:∀ (c n i:Nat),k - i = c → m ≤ i → i ≤ k → l.length - i < n → ∀ {R:Type} (K0:Int → Option R) (K1:Int → Int → Bool → Option R),Zeh N l K0 K1 n (dep l i - dep l m) (i:Int) = K0 k:=by
  intro c
  induction c with
  | zero =>
   intro n i h1 h2 h3 h4 R K0 K1
   have:i = k:=by omega
   subst this
   cases n with
   | zero=>omega
   | succ n =>
    have hil:=hm.len
    have hd:=Wbz hil
    have hb:=Wgo l i
    have hb2:=Wgo l m
    have ho:=Wqm l[i]
    have e:iadd .i64 (dep l i - dep l m) (opd l[i]) = dep l (i + 1) - dep l m:=by rw [Wz (by unfold I64; omega),hd]; omega
    simp only [Zeh,Wba hil,Wp hil,Wu hil,cond_true,Wlx,ret,Option.bind_some,e]
    rw [dep_ne_0]
    simp [hm.eq]
  | succ c ih =>
   intro n i h1 h2 h3 h4 R K0 K1
   cases n with
   | zero=>omega
   | succ n =>
    have hk:=hm.len
    have hil:i < l.length:=by omega
    have hd:=Wbz hil
    have hb:=Wgo l i
    have hb2:=Wgo l m
    have ho:=Wqm l[i]
    have e:iadd .i64 (dep l i - dep l m) (opd l[i]) = dep l (i + 1) - dep l m:=by rw [Wz (by unfold I64; omega),hd]; omega
    have hne:=hm.ne i h2 (by omega)
    simp only [Zeh,Wba hil,Wp hil,Wu hil,cond_true,Wlx,ret,Option.bind_some,e,dep_ne_0,hne,decide_false,cond_false,Wi (show i < 4611686018427387904 by omega)]
    exact ih n (i + 1) (by omega) (by omega) (by omega) (by omega) K0 K1
 have:=key (k - m) N m rfl (Nat.le_refl _) (by have:=hm.lt; omega) (by omega) (R:=Unit × (Int × Unit)) (fun t13=>some ((),(t13,()))) (fun n14 k15 t16=>some ((),((-1:Int),())))
 rw [Int.sub_self] at this
 exact this
end Go.Sx
