/- Plain laws of the Lean functions. -/
import Derived.Test.YtfajigbmoebkaaaGreatMW1Op

namespace Go.Sx
set_option linter.unusedVariables false
set_option linter.unusedSimpArgs false
def anyI {α:Type} (p:Nat → α → Bool):Nat → List α → Bool
 | _,[]=>false
 | j,x :: l=>p j x || anyI p (j + 1) l
theorem Wgm {α V R:Type} {body:Int → α → V → (V → Option R) → Option R} {K:Int → V → Option R} {p:Nat → α → Bool} {E:V → Option R}:∀ (l:List α) (j:Nat) (v:V),(∀ (j:Nat) x v k,x ∈ l → body j x v k = bif p j x then E v else k v) →
  Wdv body K l j v = bif anyI p j l then E v else K ((j + l.length:Nat):Int) v
 | [],j,v,_=>rfl
 | x :: l,j,v,h=>by
  rw [Wdv,h j x v _ (List.mem_cons_self ..),Wgm l (j + 1) v fun j y v k hy=>h j y v k (List.mem_cons_of_mem _ hy),anyI]
  cases p j x
  ·simp only [cond_false,Bool.false_or,List.length_cons]
   rw [show j + 1 + l.length = j + (l.length + 1) by omega]
  ·rfl
theorem Wlt {α:Type} {p:Nat → α → Bool}:∀ {l:List α} {j:Nat},anyI p j l = true ↔ ∃ i,∃ h:i < l.length,p (j + i) l[i] = true
 | [],j=>by simp [anyI]
 | x :: l,j=>by
  rw [anyI,Bool.or_eq_true,Wlt]
  constructor
  ·rintro (h | ⟨i,hi,h⟩)
   ·exact ⟨0,by simp,by simpa using h⟩
   ·exact ⟨i + 1,by simpa using hi,by simpa [Nat.add_assoc,Nat.add_comm 1] using h⟩
  ·rintro ⟨i,hi,h⟩
   cases i with
   | zero=>exact .inl (by simpa using h)
   | succ i=>exact .inr ⟨i,by simpa using hi,by simpa [Nat.add_assoc,Nat.add_comm 1] using h⟩
def opd (o:Opn):Int:=bif o.1 == 8 then 1 else bif o.1 == 9 then -1 else 0
theorem Wqm (o:Opn):-1 ≤ opd o ∧ opd o ≤ 1:=by unfold opd; cases o.1 == 8 <;> cases o.1 == 9 <;> simp
def dep (l:List Opn) (j:Nat):Int:=((l.take j).map opd).sum
theorem Wgd (l:List Opn):dep l 0 = 0:=by simp [dep]
theorem Wbz {l:List Opn} {j:Nat} (h:j < l.length):dep l (j + 1) = dep l j + opd l[j]:=by
 unfold dep
 rw [List.take_succ_eq_append_getElem h,List.map_append,List.sum_append]
 simp
theorem Wm {α:Type} {l:List α} {j:Nat} (h:j < l.length) (d:α):List.getD l j d = l[j]:=by simp [h]
theorem Wgo (l:List Opn):∀ j:Nat,-(j:Int) ≤ dep l j ∧ dep l j ≤ j
 | 0=>by simp [dep]
 | j + 1=>by
  have ih:=Wgo l j
  by_cases h:j < l.length
  ·have:=Wqm l[j]
   rw [Wbz h]; omega
  ·have:dep l (j + 1) = dep l j:=by unfold dep; rw [List.take_of_length_le (by omega),List.take_of_length_le (by omega)]
   rw [this]; omega
def bal (l:List Opn):Bool:=!anyI (fun j _=>decide (dep l (j + 1) < 0)) 0 l && decide (dep l l.length = 0)
theorem Wlx {N:Nat} {o:Opn}:Zi8 N o = ret (opd o):=by
 unfold Zi8 opd
 cases o.1 == 8 <;> cases o.1 == 9 <;> rfl
theorem deq0 (x:Int):(x == (0:Int)) = decide (x = 0):=by by_cases h:x = 0 <;> simp [h]
theorem Wqq {N:Nat} {l:List Opn} (hl:l.length ≤ 1048576) (hN:1048576 < N):Zbv N l = ret (bal l):=by
 unfold Zbv bal
 have h1:=Wad (l:=l) (V:=Unit) (R:=Unit × (Bool × Unit)) (lp:=fun n j _=>Zb0 N l (some ((),(false,()))) (fun n12 t13 t14=>some ((),(n12 == (0:Int),()))) n (dep l j.toNat) j) (n:=N) (by omega)
  (body:=fun j _ v k=>bif decide (dep l (j.toNat + 1) < 0) then some ((),(false,())) else k v) (K:=fun j _=>some ((),(dep l j.toNat == (0:Int),())))
  (fun n i v hi=>by
   have hb:=Wgo l i
   have hs:=Wbz hi
   have ho:=Wqm l[i]
   have e:iadd .i64 (dep l i) (opd l[i]) = dep l (i + 1):=by rw [Wz (by unfold I64; omega),hs]
   simp only [Zb0,Wba hi,Wp hi,Wu hi,Wm hi,Wi (show i < 4611686018427387904 by omega),cond_true,Wlx,ret,Option.bind_some,Int.toNat_natCast,e])
  (fun n v=>by simp only [Zb0,Wbj (Nat.le_refl l.length),cond_false]) ()
 have e0:dep l (Int.toNat 0) = 0:=Wgd l
 simp only [e0] at h1
 refine h1.trans ?_
 rw [Wgm (p:=fun j _=>decide (dep l (j + 1) < 0)) (E:=fun _=>some ((),(false,()))) l 0 () (fun j x v k _=>rfl)]
 rw [Nat.zero_add,Int.toNat_natCast,deq0]
 cases anyI (fun j _=>decide (dep l (j + 1) < 0)) 0 l <;> rfl
theorem Wuz {N:Nat} {l:List Opn} (hl:l.length ≤ 1048576) (hN:1048576 < N) {i:Nat} (hi:i ≤ l.length):Zer N l (i:Int) = ret (dep l i):=by
 unfold Zer
 have h1:=Wad (l:=l) (V:=Unit) (R:=Unit × (Int × Unit)) (lp:=fun n j _=>Zb5 N (i:Int) l (fun n14 t15 t16=>some ((),(n14,()))) n (dep l (min j.toNat i)) j) (n:=N) (by omega)
  (body:=fun j _ v k=>k v) (K:=fun j _=>some ((),(dep l (min j.toNat i),())))
  (fun n j v hj=>by
   have hb:=Wgo l j
   have ho:=Wqm l[j]
   simp only [Zb5,Wba hj,Wp hj,Wu hj,Wm hj,Wi (show j < 4611686018427387904 by omega),cond_true,Wlx,ret,Option.bind_some,Int.toNat_natCast]
   by_cases h:j < i
   ·have e1:decide ((j:Int) < (i:Int)) = true:=by simpa using h
    have e2:min j i = j:=by omega
    have e3:min (j + 1) i = j + 1:=by omega
    have e:iadd .i64 (dep l j) (opd l[j]) = dep l (j + 1):=by rw [Wz (by unfold I64; omega),Wbz hj]
    rw [e1,e2,e3,e]
    rfl
   ·have e1:decide ((j:Int) < (i:Int)) = false:=by simp; omega
    have e2:min j i = i:=by omega
    have e3:min (j + 1) i = i:=by omega
    rw [e1,e2,e3]
    rfl)
  (fun n v=>by simp only [Zb5,Wbj (Nat.le_refl l.length),cond_false]) ()
 have e0:dep l (min (Int.toNat 0) i) = 0:=by
  have:min (Int.toNat 0) i = 0:=by simp
  rw [this]; exact Wgd l
 simp only [e0] at h1
 refine h1.trans ?_
 rw [Wna (f:=fun v _=>v) l 0 () (fun j x v k _=>rfl),Nat.zero_add,Int.toNat_natCast,Nat.min_eq_right hi]
theorem specSkip_lp {N:Nat} {l:List Opn} {a b:Nat} (hab:a ≤ b) (hb:b ≤ l.length) (hl:l.length ≤ 1048576) (hN:1048576 < N) :
  Za7 N l (b:Int) (some ((),(false,()))) (fun d10 k11 t12=>some ((),(d10 == (0:Int),()))) N 0 (a:Int) = ret (bal ((l.take b).drop a)):=by
 have hlen:((l.take b).drop a).length = b - a:=by simp; omega
 unfold bal
 have h1:=Wad (l:=(l.take b).drop a) (V:=Unit) (R:=Unit × (Bool × Unit)) (lp:=fun n j _=>Za7 N l (b:Int) (some ((),(false,()))) (fun d10 k11 t12=>some ((),(d10 == (0:Int),()))) n (dep ((l.take b).drop a) j.toNat) ((a + j.toNat:Nat):Int)) (n:=N) (by omega)
  (body:=fun j _ v k=>bif decide (dep ((l.take b).drop a) (j.toNat + 1) < 0) then some ((),(false,())) else k v) (K:=fun j _=>some ((),(dep ((l.take b).drop a) j.toNat == (0:Int),())))
  (fun n i v hi=>by
   have hb':=Wgo ((l.take b).drop a) i
   have hs:=Wbz hi
   have ei:((l.take b).drop a)[i] = l[a + i]:=by simp
   rw [ei] at hs
   have hil:a + i < l.length:=by omega
   have e1:decide (((a + i:Nat):Int) < (b:Int)) = true:=by simp; omega
   have e2:iadd .i64 ((a + i:Nat):Int) 1 = ((a + (i + 1):Nat):Int):=by rw [Wz (by unfold I64; omega)]; omega
   have e3:iadd .i64 (dep ((l.take b).drop a) i) 1 = dep ((l.take b).drop a) i + 1:=Wz (by unfold I64; omega)
   have e4:isub .i64 (dep ((l.take b).drop a) i) 1 = dep ((l.take b).drop a) i + -1:=by rw [Wap (by unfold I64; omega)]; omega
   simp only [Za7,e1,Wp hil,Wu hil,Wm hil,e2,e3,e4,cond_true,Int.toNat_natCast]
   unfold opd at hs
   cases h8:l[a + i].1 == 8
   ·cases h9:l[a + i].1 == 9
    ·rw [h8,h9] at hs
     simp only [cond_false,Int.add_zero] at hs
     simp only [hs,cond_false]
    ·rw [h8,h9] at hs
     simp only [cond_false,cond_true] at hs
     simp only [hs,cond_false,cond_true]
   ·have h9:(l[a + i].1 == 9) = false:=by
     have:l[a + i].1 = 8:=by simpa using h8
     rw [this]; rfl
    rw [h8] at hs
    simp only [cond_true] at hs
    simp only [hs,h9,cond_false,cond_true])
  (fun n v=>by
   have e1:decide (((a + (((l.take b).drop a).length:Int).toNat:Nat):Int) < (b:Int)) = false:=by rw [Int.toNat_natCast,hlen]; simp; omega
   simp only [Za7,e1,cond_false]) ()
 have e0:dep ((l.take b).drop a) (Int.toNat 0) = 0:=Wgd _
 simp only [e0] at h1
 refine h1.trans ?_
 rw [Wgm (p:=fun j _=>decide (dep ((l.take b).drop a) (j + 1) < 0)) (E:=fun _=>some ((),(false,()))) _ 0 () (fun j x v k _=>rfl)]
 rw [Nat.zero_add,Int.toNat_natCast,deq0]
 cases anyI (fun j _=>decide (dep ((l.take b).drop a) (j + 1) < 0)) 0 ((l.take b).drop a) <;> rfl
def Woh (l:List Opn) (i:Nat) (o:Opn):Bool:=decide (i + 1 + o.2.2.1.toNat ≤ l.length) && bal ((l.take (i + 1 + o.2.2.1.toNat)).drop (i + 1))
def frk (l:List Opn) (j:Nat):Nat:=(l.take j).countP fun o=>o.1 == 11
theorem Wpk {l:List Opn} {j:Nat} (h:j < l.length):frk l (j + 1) = frk l j + (l[j].1 == 11).toNat:=by
 unfold frk
 rw [List.take_succ_eq_append_getElem h,List.countP_append,List.countP_singleton]
 cases l[j].1 == 11 <;> rfl
theorem frk_le (l:List Opn) (j:Nat):frk l j ≤ l.length:=Nat.le_trans List.countP_le_length (by simp; omega)
def badS (l:List Opn) (i:Nat) (o:Opn):Bool :=
 !opOk o || ((o.1 == 7) && !Woh l i o) || ((o.1 == 11) && (decide (dep l i > 0) || decide (frk l (i + 1) > 1))) || decide (dep l (i + 1) < 0)
def badI (l:List Opn) (i:Nat) (o:Opn):Bool :=
 !opOk o || ((o.1 == 7) && !Woh l i o) || ((o.1 == 11) && (decide (frk l (i + 1) > 1) || !decide (dep l i = 0)))
def cdOk (l:List Opn):Bool:=decide (l.length ≤ 24) && (bal l && !anyI (badI l) 0 l)
theorem skip_num {l:List Opn} {i:Nat} {o:Opn} (hl:l.length ≤ 24) (hi:i < l.length) (ho:opOk o = true) (h7:o.1 = 7) :
  iadd .i64 ((i + 1:Nat):Int) o.2.2.1 = ((i + 1 + o.2.2.1.toNat:Nat):Int) ∧ 1 ≤ o.2.2.1 ∧ o.2.2.1 ≤ 20:=by
 obtain ⟨k,a,b,c⟩:=o
 simp only at h7
 subst h7
 have:(Wh a && (decide (1 ≤ b) && decide (b ≤ 20)) && (c == (0:Int))) = true:=ho
 simp only [Bool.and_eq_true,decide_eq_true_eq] at this
 refine ⟨?_,this.1.2.1,this.1.2.2⟩
 rw [Wz (by unfold I64; simp only []; omega)]
 simp only []
 omega
theorem Wxh {N:Nat} {l:List Opn} {i:Nat} (hl:l.length ≤ 24) (hN:1048576 < N) (hi:i < l.length) (ho:opOk l[i] = true) (h7:l[i].1 = 7):Zf4 N l (i:Int) = ret (Woh l i l[i]):=by
 obtain ⟨e1,h1,h2⟩:=skip_num hl hi ho h7
 unfold Zf4 Woh
 simp only [Wp hi,cond_true,Wu hi,Wm hi,e1,Wi (show i < 4611686018427387904 by omega)]
 by_cases h:i + 1 + l[i].2.2.1.toNat ≤ l.length
 ·have e:decide (((i + 1 + l[i].2.2.1.toNat:Nat):Int) > ilen l) = false:=by simp [ilen]; omega
  rw [e]
  simp only [cond_false]
  rw [specSkip_lp (by omega) h (by omega) hN]
  simp [h]
 ·have e:decide (((i + 1 + l[i].2.2.1.toNat:Nat):Int) > ilen l) = true:=by simp [ilen]; omega
  rw [e]
  simp [h]
theorem bal_iff {l:List Opn}:bal l = true ↔ (∀ i,i < l.length → 0 ≤ dep l (i + 1)) ∧ dep l l.length = 0:=by
 unfold bal
 rw [Bool.and_eq_true,Bool.not_eq_true',← Bool.not_eq_true,Wlt,decide_eq_true_eq]
 constructor
 ·rintro ⟨h1,h2⟩
  refine ⟨fun i hi=>?_,h2⟩
  by_cases h:dep l (i + 1) < 0
  ·exact absurd ⟨i,hi,by simpa using h⟩ h1
  ·omega
 ·rintro ⟨h1,h2⟩
  refine ⟨?_,h2⟩
  rintro ⟨i,hi,h⟩
  have:=h1 i hi
  simp at h
  omega
theorem Wzj (l:List Opn):(!anyI (badS l) 0 l && decide (dep l l.length = 0)) = (bal l && !anyI (badI l) 0 l):=by
 rw [Bool.eq_iff_iff,Bool.and_eq_true,Bool.and_eq_true,Bool.not_eq_true',Bool.not_eq_true',← Bool.not_eq_true,← Bool.not_eq_true,Wlt,Wlt,bal_iff,decide_eq_true_eq]
 constructor
 ·rintro ⟨h1,h2⟩
  have hd:∀ i,i < l.length → 0 ≤ dep l (i + 1):=fun i hi=>by
   by_cases h:dep l (i + 1) < 0
   ·refine absurd ⟨i,hi,?_⟩ h1
    unfold badS; simp [h]
   ·omega
  refine ⟨⟨hd,h2⟩,?_⟩
  rintro ⟨i,hi,h⟩
  refine h1 ⟨i,hi,?_⟩
  have hdi:0 ≤ dep l i:=by
   cases i with
   | zero=>rw [Wgd]; omega
   | succ i=>exact hd i (by omega)
  rw [Nat.zero_add] at h ⊢
  unfold badI at h
  unfold badS
  simp only [Bool.or_eq_true,Bool.and_eq_true,decide_eq_true_eq,Bool.not_eq_true',decide_eq_false_iff_not] at h ⊢
  rcases h with (h | h) | ⟨h,h'⟩
  ·exact .inl (.inl (.inl h))
  ·exact .inl (.inl (.inr h))
  ·refine .inl (.inr ⟨h,?_⟩)
   rcases h' with h' | h'
   ·exact .inr h'
   ·exact .inl (by omega)
 ·rintro ⟨⟨hd,h2⟩,h1⟩
  refine ⟨?_,h2⟩
  rintro ⟨i,hi,h⟩
  refine h1 ⟨i,hi,?_⟩
  have hdi:=hd i hi
  rw [Nat.zero_add] at h ⊢
  unfold badS at h
  unfold badI
  simp only [Bool.or_eq_true,Bool.and_eq_true,decide_eq_true_eq,Bool.not_eq_true',decide_eq_false_iff_not] at h ⊢
  rcases h with ((h | h) | ⟨h,h'⟩) | h
  ·exact .inl (.inl h)
  ·exact .inl (.inr h)
  ·refine .inr ⟨h,?_⟩
   rcases h' with h' | h'
   ·exact .inr (by omega)
   ·exact .inl h'
  ·omega
theorem Wos {N:Nat} {l:List Opn} (hl:l.length ≤ 1048576) (hN:1048576 < N):Zd0 N l = ret (cdOk l):=by
 unfold Zd0 cdOk
 by_cases h:l.length ≤ 24
 ·have e:decide (ilen l > 24) = false:=by simp [ilen]; omega
  rw [e]
  simp only [cond_false]
  have h1:=Wad (l:=l) (V:=Unit) (R:=Unit × (Bool × Unit)) (lp:=fun n j _=>Za8 N l (some ((),(false,()))) (fun d14 forks15 i16 t17=>some ((),(d14 == (0:Int),()))) n (dep l j.toNat) ((frk l j.toNat:Nat):Int) j) (n:=N) (by omega)
   (body:=fun j x v k=>bif badS l j.toNat x then some ((),(false,())) else k v) (K:=fun j _=>some ((),(dep l j.toNat == (0:Int),())))
   (fun n i v hi=>by
    have hb:=Wgo l i
    have hs:=Wbz hi
    have hf:=Wpk hi
    have hfl:=frk_le l i
    have e3:iadd .i64 (dep l i) 1 = dep l i + 1:=Wz (by unfold I64; omega)
    have e4:isub .i64 (dep l i) 1 = dep l i + -1:=by rw [Wap (by unfold I64; omega)]; omega
    have e5:iadd .i64 ((frk l i:Nat):Int) 1 = ((frk l i + 1:Nat):Int):=by rw [Wz (by unfold I64; omega)]; rfl
    simp only [Za8,Wba hi,Wp hi,Wu hi,Wm hi,Wi (show i < 4611686018427387904 by omega),cond_true,Int.toNat_natCast,Wgp,ret,Option.bind_some,e3,e4,e5]
    unfold badS
    cases ho:opOk l[i] with
    | false=>rfl
    | true =>
     unfold opd at hs
     simp only [Bool.not_true,cond_false,Bool.false_or]
     by_cases h8:l[i].1 = 8
     ·have b8:(l[i].1 == 8) = true:=by simp [h8]
      have b7:(l[i].1 == 7) = false:=by simp [h8]
      have b11:(l[i].1 == 11) = false:=by simp [h8]
      simp only [b8,b7,b11,cond_true,cond_false,Bool.toNat_false,Nat.add_zero,Bool.false_and,Bool.false_or] at hs hf ⊢
      simp only [hs,hf]
     ·have b8:(l[i].1 == 8) = false:=by simp [h8]
      by_cases h9:l[i].1 = 9
      ·have b9:(l[i].1 == 9) = true:=by simp [h9]
       have b7:(l[i].1 == 7) = false:=by simp [h9]
       have b11:(l[i].1 == 11) = false:=by simp [h9]
       simp only [b8,b9,b7,b11,cond_true,cond_false,Bool.toNat_false,Nat.add_zero,Bool.false_and,Bool.false_or] at hs hf ⊢
       simp only [hs,hf]
      ·have b9:(l[i].1 == 9) = false:=by simp [h9]
       by_cases h7:l[i].1 = 7
       ·have b7:(l[i].1 == 7) = true:=by simp [h7]
        have b11:(l[i].1 == 11) = false:=by simp [h7]
        have hsk:=Wxh h hN hi ho h7
        simp only [b8,b9,b7,b11,cond_true,cond_false,Bool.toNat_false,Nat.add_zero,Bool.false_and,Bool.true_and,Bool.or_false,Int.add_zero,hsk,ret,Option.bind_some] at hs hf ⊢
        simp only [hs,hf]
        cases Woh l i l[i] <;> rfl
       ·have b7:(l[i].1 == 7) = false:=by simp [h7]
        by_cases h11:l[i].1 = 11
        ·have b11:(l[i].1 == 11) = true:=by simp [h11]
         simp only [b8,b9,b7,b11,cond_true,cond_false,Bool.toNat_true,Bool.false_and,Bool.true_and,Bool.false_or,Int.add_zero] at hs hf ⊢
         simp only [hs,hf]
         have ef:decide (((frk l i + 1:Nat):Int) > 1) = decide (frk l i + 1 > 1):=by apply decide_eq_decide.2; omega
         rw [ef]
         cases decide (dep l i > 0) <;> cases decide (frk l i + 1 > 1) <;> cases decide (dep l i < 0) <;> rfl
        ·have b11:(l[i].1 == 11) = false:=by simp [h11]
         simp only [b8,b9,b7,b11,cond_true,cond_false,Bool.toNat_false,Nat.add_zero,Bool.false_and,Bool.false_or,Int.add_zero] at hs hf ⊢
         simp only [hs,hf])
   (fun n v=>by simp only [Za8,Wbj (Nat.le_refl l.length),cond_false]) ()
  have e0:dep l (Int.toNat 0) = 0:=Wgd l
  have e1:((frk l (Int.toNat 0):Nat):Int) = 0:=by simp [frk]
  simp only [e0,e1] at h1
  refine h1.trans ?_
  rw [Wgm (p:=badS l) (E:=fun _=>some ((),(false,()))) l 0 () (fun j x v k _=>by rw [Int.toNat_natCast])]
  rw [Nat.zero_add,Int.toNat_natCast,deq0,← Wzj]
  simp only [h,decide_true,Bool.true_and]
  cases anyI (badS l) 0 l <;> rfl
 ·have e:decide (ilen l > 24) = true:=by simp [ilen]; omega
  rw [e]
  simp [h]
theorem Woe {N:Nat} {l:List Opn} (hl:l.length ≤ 1048576) (hN:1048576 < N):Zby N l = ret (cdOk l):=by
 unfold Zby cdOk
 by_cases h:l.length ≤ 24
 ·have e:decide (ilen l > 24) = false:=by simp [ilen]; omega
  rw [e]
  simp only [cond_false,Wqq hl hN,ret,Option.bind_some,h,decide_true,Bool.true_and]
  cases hbal:bal l with
  | false=>rfl
  | true =>
   simp only [Bool.not_true,cond_false,Bool.true_and]
   have h1:=Wad (l:=l) (V:=Unit) (R:=Unit × (Bool × Unit)) (lp:=fun n j _=>Zbw N l (some ((),(false,()))) (fun forks20 t21 t22=>some ((),(true,()))) n ((frk l j.toNat:Nat):Int) j) (n:=N) (by omega)
    (body:=fun j x v k=>bif badI l j.toNat x then some ((),(false,())) else k v) (K:=fun j _=>some ((),(true,())))
    (fun n i v hi=>by
     have hf:=Wpk hi
     have hfl:=frk_le l i
     have e5:iadd .i64 ((frk l i:Nat):Int) 1 = ((frk l i + 1:Nat):Int):=by rw [Wz (by unfold I64; omega)]; rfl
     simp only [Zbw,Wba hi,Wp hi,Wu hi,Wm hi,cond_true,Int.toNat_natCast,Wjk,ret,Option.bind_some,e5]
     unfold badI
     cases ho:opOk l[i] with
     | false=>rfl
     | true =>
      simp only [Bool.not_true,cond_false,Bool.false_or]
      by_cases h7:l[i].1 = 7
      ·have b7:(l[i].1 == 7) = true:=by simp [h7]
       have b11:(l[i].1 == 11) = false:=by simp [h7]
       obtain ⟨en,h1,h2⟩:=skip_num h hi ho h7
       simp only [b7,b11,cond_true,en,Wi (show i < 4611686018427387904 by omega),Bool.toNat_false,Nat.add_zero,Bool.false_and,Bool.true_and,Bool.or_false] at hf ⊢
       simp only [hf]
       unfold Woh
       by_cases hq:i + 1 + l[i].2.2.1.toNat ≤ l.length
       ·have q1:decide (((i + 1 + l[i].2.2.1.toNat:Nat):Int) > ilen l) = false:=by simp [ilen]; omega
        have q2:(((decide ((0:Int) ≤ ((i + 1 + l[i].2.2.1.toNat:Nat):Int))) && (decide (((i + 1 + l[i].2.2.1.toNat:Nat):Int) ≤ ((List.length l):Int)))) && (decide ((0:Int) ≤ ((i + 1:Nat):Int))) && (decide (((i + 1:Nat):Int) ≤ ((i + 1 + l[i].2.2.1.toNat:Nat):Int)))) = true:=by simp; omega
        rw [q1,q2]
        simp only [cond_false,cond_true,Int.toNat_natCast]
        rw [Wqq (by simp; omega) hN]
        simp only [ret,Option.bind_some,hq,decide_true,Bool.true_and]
       ·have q1:decide (((i + 1 + l[i].2.2.1.toNat:Nat):Int) > ilen l) = true:=by simp [ilen]; omega
        rw [q1]
        simp [hq]
      ·have b7:(l[i].1 == 7) = false:=by simp [h7]
       by_cases h11:l[i].1 = 11
       ·have b11:(l[i].1 == 11) = true:=by simp [h11]
        simp only [b7,b11,cond_true,cond_false,Bool.toNat_true,Bool.false_and,Bool.true_and,Bool.false_or,Wuz hl hN (Nat.le_of_lt hi),ret,Option.bind_some,Wi (show i < 4611686018427387904 by omega)] at hf ⊢
        simp only [hf]
        have ef:decide (((frk l i + 1:Nat):Int) > 1) = decide (frk l i + 1 > 1):=by apply decide_eq_decide.2; omega
        have e0:(dep l i != 0) = !decide (dep l i = 0):=by rw [bne,deq0]
        rw [ef,e0]
        cases decide (frk l i + 1 > 1) <;> cases decide (dep l i = 0) <;> rfl
       ·have b11:(l[i].1 == 11) = false:=by simp [h11]
        simp only [b7,b11,cond_true,cond_false,Bool.toNat_false,Nat.add_zero,Bool.false_and,Bool.false_or,Wi (show i < 4611686018427387904 by omega)] at hf ⊢
        simp only [hf])
    (fun n v=>by simp only [Zbw,Wbj (Nat.le_refl l.length),cond_false]) ()
   have e1:((frk l (Int.toNat 0):Nat):Int) = 0:=by simp [frk]
   simp only [e1] at h1
   refine h1.trans ?_
   rw [Wgm (p:=badI l) (E:=fun _=>some ((),(false,()))) l 0 () (fun j x v k _=>by rw [Int.toNat_natCast])]
   cases anyI (badI l) 0 l <;> rfl
 ·have e:decide (ilen l > 24) = true:=by simp [ilen]; omega
  rw [e]
  simp [h]
end Go.Sx
