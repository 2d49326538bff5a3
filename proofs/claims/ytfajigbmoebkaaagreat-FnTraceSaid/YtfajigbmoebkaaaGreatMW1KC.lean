/- Plain laws of the Lean functions. -/
import Derived.Test.YtfajigbmoebkaaaGreatMW1Md

namespace Go.Sx
set_option linter.unusedVariables false
set_option linter.unusedSimpArgs false
structure CC (l:List Opn):Prop where
 len:l.length ≤ 24
 up:Up l
 z:dep l l.length = 0
 ok:∀ i (h:i < l.length),opOk l[i] = true ∧ 1 ≤ l[i].1 ∧ l[i].1 ≤ 16
 sk:∀ i (h:i < l.length),l[i].1 = 7 → i + 1 + l[i].2.2.1.toNat ≤ l.length ∧ bal ((l.take (i + 1 + l[i].2.2.1.toNat)).drop (i + 1)) = true
 fk:∀ i (h:i < l.length),l[i].1 = 11 → dep l i = 0 ∧ frk l (i + 1) ≤ 1
structure KC (l:List Opn):Prop extends CC l where
 k10:∀ i (h:i < l.length),l[i].1 ≤ 10
theorem touch_2 {o:Opn} (h:opOk o = true) (h12:12 ≤ o.1):Wrr o = 2:=by
 have h16:=ok_16 h
 have key:=Wha (N:=0) (o:=o)
 unfold Zca at key
 rw [Wgp,h] at key
 simp only [ret,Option.bind_some,Bool.not_true,cond_false] at key
 have e5:(o.1 == 5) = false:=by simp; omega
 have e6:(o.1 == 6) = false:=by simp; omega
 rw [e5,e6] at key
 simp only [cond_false] at key
 have:o.1 = 12 ∨ o.1 = 13 ∨ o.1 = 14 ∨ o.1 = 15 ∨ o.1 = 16:=by omega
 rcases this with hk | hk | hk | hk | hk <;> · rw [hk] at key; simpa using key.symm
theorem cc_of {l:List Opn} (h:cdOk l = true):CC l:=by
 unfold cdOk at h
 simp only [Bool.and_eq_true,decide_eq_true_eq,Bool.not_eq_true'] at h
 obtain ⟨h1,h2,h3⟩:=h
 obtain ⟨b1,b2⟩:=bal_iff.1 h2
 have hb:∀ i (hi:i < l.length),badI l i l[i] = false:=fun i hi=>by
  rw [Bool.eq_false_iff]
  intro hb
  have:anyI (badI l) 0 l = true:=Wlt.2 ⟨i,hi,by rw [Nat.zero_add]; exact hb⟩
  rw [h3] at this; cases this
 have hok:∀ i (hi:i < l.length),opOk l[i] = true:=fun i hi=>by
  have:=hb i hi
  unfold badI at this
  simp only [Bool.or_eq_false_iff,Bool.not_eq_false'] at this
  exact this.1.1
 refine ⟨h1,b1,b2,fun i hi=>⟨hok i hi,ok_16 (hok i hi)⟩,fun i hi h7=>?_,fun i hi h11=>?_⟩
 ·have:=hb i hi
  unfold badI at this
  simp only [Bool.or_eq_false_iff,Bool.not_eq_false'] at this
  have h8:=this.1.2
  rw [h7] at h8
  have:Woh l i l[i] = true:=by simpa using h8
  unfold Woh at this
  simpa using this
 ·have:=hb i hi
  unfold badI at this
  simp only [Bool.or_eq_false_iff,Bool.not_eq_false'] at this
  have h8:=this.2
  rw [h11] at h8
  simp at h8
  omega
theorem kc_of {l:List Opn} (h:Wno l = true):KC l:=by
 unfold Wno at h
 simp only [Bool.and_eq_true,Bool.not_eq_true'] at h
 have hc:=cc_of h.1
 refine ⟨hc,fun i hi=>?_⟩
 have hk':Wlw l[i] = false:=by
  rw [Bool.eq_false_iff]
  intro hb
  have:=List.any_eq_true.2 ⟨l[i],List.getElem_mem hi,hb⟩
  rw [h.2] at this; cases this
 unfold Wlw at hk'
 simp only [Bool.or_eq_false_iff] at hk'
 by_cases h10:l[i].1 ≤ 10
 ·exact h10
 ·exfalso
  by_cases h11:l[i].1 = 11
  ·simp [h11] at hk'
  ·have:=touch_2 (hc.ok i hi).1 (by have:=(hc.ok i hi).2; omega)
   rw [this] at hk'
   simp at hk'
theorem endOf_mate {l:List Opn} {m k:Nat} (h:Mate l m k):Wsd l m = k:=by
 unfold Wsd
 have:(List.range l.length).find? (fun k=>decide (m ≤ k) && decide (dep l (k + 1) = dep l m)) = some k:=by
  rw [List.find?_range_eq_some]
  have:=h.lt
  refine ⟨?_,List.mem_range.2 h.len,fun j hj=>?_⟩
  ·simp [h.eq]; omega
  ·simp only [Bool.not_eq_true',Bool.and_eq_false_iff,decide_eq_false_iff_not]
   by_cases hm:m ≤ j
   ·exact .inr (h.ne j hm hj)
   ·exact .inl hm
 rw [this]; rfl
theorem Wxt {l:List Opn} {i:Int} (h0:0 ≤ i) (h:i < l.length):∃ (n:Nat) (hn:n < l.length),i = n ∧ opN l i = l[n]:=by
 refine ⟨i.toNat,by omega,by omega,?_⟩
 unfold opN
 exact Wm (by omega) _
theorem Wvf {l:List Opn} {n:Nat} (h:n < l.length):opN l (n:Int) = l[n]:=by
 unfold opN
 exact Wm (by simpa using h) _
theorem lastD_snoc {α:Type} (q:List α) (x d:α):Woy (q ++ [x]) d = x:=by unfold Woy; simp
theorem Wyv {M:Type} {g:M → Int} {l:List Opn} {pc:Nat} {marks:List M} {d:M} (hc:CC l) (hp:pc ≤ l.length) (hm:marks.map g = (stk l pc).map fun m:Nat=>(m:Int)) (hne:marks.length ≠ 0) :
  ∃ (m:Nat) (q:List M) (x:M),marks = q ++ [x] ∧ Woy marks d = x ∧ g x = (m:Int) ∧ (∃ hm:m < l.length,l[m].1 = 8) ∧ m < pc ∧ Mate l m (Wsd l m) ∧ pc ≤ Wsd l m ∧ stk l m = (stk l pc).dropLast ∧ q.map g = (stk l m).map fun m:Nat=>(m:Int):=by
 rcases Wdx marks with h0 | ⟨q,x,hq⟩
 ·rw [h0] at hne; simp at hne
 ·rw [hq,List.map_append,List.map_cons,List.map_nil] at hm
  rcases Wdx (stk l pc) with h0 | ⟨t,m,ht⟩
  ·rw [h0] at hm; simp at hm
  ·rw [ht,List.map_append,List.map_cons,List.map_nil] at hm
   obtain ⟨e1,e2⟩:=List.append_inj' hm rfl
   injection e2 with e2
   obtain ⟨k,k1,k2,k3⟩:=mate_at hc.up hc.z hp ht
   have k4:=endOf_mate k2
   obtain ⟨hlt,h8,_,_⟩:=Wwp pc hp t [] m ht
   refine ⟨m,q,x,hq,by rw [hq]; exact lastD_snoc q x d,e2,h8,hlt,by rw [k4]; exact k2,by omega,by rw [ht,List.dropLast_concat]; exact k3,by rw [k3]; exact e1⟩
end Go.Sx
