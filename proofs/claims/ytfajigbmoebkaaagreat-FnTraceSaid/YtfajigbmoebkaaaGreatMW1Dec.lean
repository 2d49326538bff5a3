/- Plain laws of the Lean functions. -/
import Derived.Test.YtfajigbmoebkaaaGreatMW1Stl

namespace Go.Sx
set_option linter.unusedVariables false
set_option linter.unusedSimpArgs false
theorem tdiv_cases (m:Int) (b:Nat):m.tdiv b = if 0 ≤ m then ((m.natAbs / b:Nat):Int) else -((m.natAbs / b:Nat):Int):=by
 split
 ·rename_i h
  obtain ⟨n,rfl⟩:=Int.eq_ofNat_of_zero_le h
  rfl
 ·rename_i h
  obtain ⟨n,hn⟩:=Int.eq_ofNat_of_zero_le (show 0 ≤ -m by omega)
  have:m = -(n:Int):=by omega
  subst this
  rw [Int.neg_tdiv,Int.natAbs_neg]
  rfl
theorem tmod_cases (m:Int) (b:Nat):m.tmod b = if 0 ≤ m then ((m.natAbs % b:Nat):Int) else -((m.natAbs % b:Nat):Int):=by
 split
 ·rename_i h
  obtain ⟨n,rfl⟩:=Int.eq_ofNat_of_zero_le h
  rfl
 ·rename_i h
  obtain ⟨n,hn⟩:=Int.eq_ofNat_of_zero_le (show 0 ≤ -m by omega)
  have:m = -(n:Int):=by omega
  subst this
  rw [Int.neg_tmod,Int.natAbs_neg]
  rfl
def digs:Nat → Nat → List Int
 | 0,_=>[]
 | f + 1,m=>if m = 0 then [] else (48 + (m % 10:Nat):Int) :: digs f (m / 10)
theorem Wug:∀ (f m:Nat),(digs f m).length ≤ f
 | 0,_=>by simp [digs]
 | f + 1,m=>by
  rw [digs]
  split
  ·simp
  ·have:=Wug f (m / 10); simp; omega
theorem digs_zero:∀ f,digs f 0 = []
 | 0=>rfl
 | f + 1=>by simp [digs]
theorem wrap_u8 {n:Int} (h:0 ≤ n ∧ n ≤ 255):IntKind.wrap .u8 n = n:=by
 show (if (false && decide (n % 256 ≥ 128)) = true then n % 256 - 256 else n % 256) = n
 simp only [Bool.false_and,Bool.false_eq_true,if_false]
 omega
theorem inz_ten:inz 10 = true:=rfl
theorem sfit_le {a b:List UInt8} (h:a.length + b.length ≤ 1000000000000):sfit a b = true:=by
 unfold sfit
 have:IntKind.i64.max = 9223372036854775807:=rfl
 rw [this]
 simp only [Bool.not_eq_true',decide_eq_false_iff_not]
 omega
theorem Wtg {m:Int} (hm:I64 m) (h0:m ≠ 0) :
  iquo .i64 m 10 = (if 0 ≤ m then ((m.natAbs / 10:Nat):Int) else -((m.natAbs / 10:Nat):Int)) ∧
  (decide (irem m 10 < 0) = true → IntKind.wrap .u8 (iadd .i64 48 (isub .i64 0 (irem m 10))) = 48 + ((m.natAbs % 10:Nat):Int)) ∧
  (decide (irem m 10 < 0) = false → IntKind.wrap .u8 (iadd .i64 48 (irem m 10)) = 48 + ((m.natAbs % 10:Nat):Int)):=by
 have e1:=tdiv_cases m 10
 have e2:=tmod_cases m 10
 have hI:∀ d:Int,0 ≤ d ∧ d ≤ 9 → IntKind.wrap .u8 (iadd .i64 48 d) = 48 + d:=fun d hd=>by
  rw [Wz (by unfold I64; omega),wrap_u8 (by omega)]
 have hr:irem m 10 = m.tmod (10:Nat):=rfl
 have hq:iquo .i64 m 10 = IntKind.wrap .i64 (m.tdiv (10:Nat)):=rfl
 have hlt:m.natAbs % 10 < 10:=Nat.mod_lt _ (by omega)
 refine ⟨?_,fun h=>?_,fun h=>?_⟩
 ·rw [hq,e1]
  refine wrap_i64 ?_
  unfold I64 at *
  split <;> omega
 ·rw [hr,e2] at h ⊢
  simp only [decide_eq_true_eq] at h
  split at h
  ·omega
  ·rename_i hn
   rw [if_neg hn,Wap (by unfold I64; omega),hI _ (by omega)]
   omega
 ·rw [hr,e2] at h ⊢
  simp only [decide_eq_false_iff_not] at h
  split at h
  ·rename_i hn
   rw [if_pos hn,hI _ (by omega)]
  ·rename_i hn
   rw [if_neg hn,hI _ (by omega)]
   omega
def sgn (neg:Bool) (n:Nat):Int:=bif neg then -(n:Int) else (n:Int)
theorem Wsu (neg:Bool) (n:Nat):(sgn neg n).natAbs = n:=by cases neg <;> simp [sgn]
theorem sgn_div {neg:Bool} {n:Nat} (hn:n ≤ 9223372036854775808) (h0:n ≠ 0) (hI:I64 (sgn neg n)):iquo .i64 (sgn neg n) 10 = sgn neg (n / 10):=by
 have h:=(Wtg hI (by cases neg <;> simp [sgn] <;> omega)).1
 rw [h,Wsu]
 cases neg
 ·simp [sgn]
 ·have:¬ (0 ≤ sgn true n):=by simp [sgn]; omega
  rw [if_neg this]; rfl
theorem sgn_I64 {neg:Bool} {n:Nat} (h:I64 (sgn neg n)):I64 (sgn neg (n / 10)):=by
 have:=Nat.div_le_self n 10
 unfold I64 sgn at *
 cases neg <;> simp at * <;> omega
theorem Wtc (N:Nat) {R:Type} (n0:Int) (neg:Bool) (K:Int → Bool → List Int → Option R):∀ (f n m:Nat) (l:List Int),m < 10 ^ f → f ≤ 20 → f < n → l.length + f ≤ 1000 → I64 (sgn neg m) →
  Zgi N n0 K n (sgn neg m) l = K 0 false (l ++ digs f m)
 | f,0,m,l,_,_,h,_,_=>by omega
 | 0,n + 1,m,l,h,_,_,_,_=>by
  have:m = 0:=by simpa using h
  subst this
  rw [digs,List.append_nil]
  cases neg <;> rfl
 | f + 1,n + 1,m,l,h,hf,hn,ho,hI=>by
  rw [Zgi]
  by_cases hm:m = 0
  ·subst hm
   rw [digs_zero,List.append_nil]
   cases neg <;> rfl
  ·have hne:sgn neg m ≠ 0:=by cases neg <;> simp [sgn] <;> omega
   have e0:(sgn neg m != 0) = true:=by simp [hne]
   have hmb:m ≤ 9223372036854775808:=by unfold I64 sgn at hI; cases neg <;> simp at hI <;> omega
   obtain ⟨_,h1,h2⟩:=Wtg hI hne
   rw [Wsu] at h1 h2
   have hlt:m / 10 < 10 ^ f:=by rw [Nat.pow_succ] at h; omega
   have e4:l ++ digs (f + 1) m = (List.append l [48 + ((m % 10:Nat):Int)]) ++ digs f (m / 10):=by
    rw [digs,if_neg hm]
    show l ++ _ = (l ++ _) ++ _
    simp
   have hs:∀ d:Int,room (l.length + [d].length) = true:=fun d=>Ws (by simp; omega)
   have ih:=Wtc N n0 neg K f n (m / 10) (List.append l [48 + ((m % 10:Nat):Int)]) hlt (by omega) (by omega) (by show (l ++ _).length + f ≤ 1000; simp; omega) (sgn_I64 hI)
   rw [e0,e4]
   simp only [cond_true,inz_ten,sgn_div hmb hm hI,hs]
   cases hd:decide (irem (sgn neg m) 10 < 0) with
   | true =>
    simp only [cond_true,h1 hd]
    exact ih
   | false =>
    simp only [cond_false,h2 hd]
    exact ih
structure Half (l:List Int) (i:Nat) (m:List Int):Prop where
 len:m.length = l.length
 out:∀ k,k < l.length → (k < i ∨ l.length ≤ k + i) → m[k]? = l[l.length - 1 - k]?
 inn:∀ k,i ≤ k → k + i < l.length → m[k]? = l[k]?
theorem half_done {l m:List Int} {i:Nat} (h:Half l i m) (hi:l.length ≤ 2 * i + 1):m = l.reverse:=by
 apply List.ext_getElem?
 intro k
 by_cases hk:k < l.length
 ·rw [List.getElem?_reverse hk]
  by_cases h2:k < i ∨ l.length ≤ k + i
  ·exact h.out k hk h2
  ·rw [h.inn k (by omega) (by omega)]
   congr 1
   omega
 ·rw [List.getElem?_eq_none (by rw [h.len]; omega),List.getElem?_eq_none (by rw [List.length_reverse]; omega)]
theorem half_step {l m:List Int} {i:Nat} (h:Half l i m) (hi:2 * i + 1 < l.length):Half l (i + 1) ((m.set i (m.getD (l.length - 1 - i) 0)).set (l.length - 1 - i) (m.getD i 0)):=by
 have hlen:=h.len
 refine ⟨by simp [hlen],fun k hk hor=>?_,fun k h1 h2=>?_⟩
 ·rw [List.getElem?_set,List.getElem?_set]
  have g1:m.getD i 0 = l[i]:=by
   have:=h.inn i (Nat.le_refl _) (by omega)
   rw [List.getD_eq_getElem?_getD,this,List.getElem?_eq_getElem (by omega)]; rfl
  have g2:m.getD (l.length - 1 - i) 0 = l[l.length - 1 - i]:=by
   have:=h.inn (l.length - 1 - i) (by omega) (by omega)
   rw [List.getD_eq_getElem?_getD,this,List.getElem?_eq_getElem (by omega)]; rfl
  rw [g1,g2]
  by_cases e1:l.length - 1 - i = k
  ·subst e1
   rw [if_pos rfl,if_pos (by simp [hlen]; omega)]
   have:l.length - 1 - (l.length - 1 - i) = i:=by omega
   rw [this,List.getElem?_eq_getElem (by omega)]
  ·rw [if_neg e1]
   by_cases e2:i = k
   ·subst e2
    rw [if_pos rfl,if_pos (by omega),List.getElem?_eq_getElem (by omega)]
   ·rw [if_neg e2]
    exact h.out k hk (by omega)
 ·rw [List.getElem?_set_ne (by omega),List.getElem?_set_ne (by omega)]
  exact h.inn k (by omega) (by omega)
theorem rev_lp (N:Nat) {R:Type} (l:List Int) (hl:l.length ≤ 1000) (K:List Int → Option R):∀ (n i:Nat) (m:List Int),Half l i m → l.length + 1 < n + i + i → i ≤ l.length → (0 < i → 2 * i ≤ l.length + 1) →
  Zgj N (fun _ _ _ l=>K l) n (i:Int) (((l.length:Int) - 1) - (i:Int)) m = K l.reverse
 | 0,i,m,h,h1,_,h3=>by omega
 | n + 1,i,m,h,h1,h2,h3=>by
  rw [Zgj]
  by_cases hi:2 * i + 1 < l.length
  ·have e1:decide ((i:Int) < ((l.length:Int) - 1) - (i:Int)) = true:=by simp; omega
   have ej:((l.length:Int) - 1) - (i:Int) = ((l.length - 1 - i:Nat):Int):=by omega
   have hlen:=h.len
   rw [e1,ej]
   simp only [cond_true,War,Int.toNat_natCast,List.length_set,hlen]
   have d1:decide (l.length - 1 - i < l.length) = true:=by simp; omega
   have d2:decide (i < l.length) = true:=by simp; omega
   have e3:isub .i64 ((l.length - 1 - i:Nat):Int) 1 = ((l.length:Int) - 1) - ((i + 1:Nat):Int):=by
    rw [Wap (by unfold I64; omega)]; omega
   rw [d1,d2,Wi (by omega),e3]
   simp only [cond_true]
   exact rev_lp N l hl K n (i + 1) _ (half_step h hi) (by omega) (by omega) (by omega)
  ·have e1:decide ((i:Int) < ((l.length:Int) - 1) - (i:Int)) = false:=by simp; omega
   rw [e1]
   simp only [cond_false]
   rw [half_done h (by omega)]
def decT (n:Int):List UInt8:=if n = 0 then [48] else (if n < 0 then [45] else []) ++ Wwn (digs 20 n.natAbs).reverse
theorem decT_len (n:Int):(decT n).length ≤ 30:=by
 have:=Wug 20 n.natAbs
 unfold decT
 split
 ·simp
 ·split <;> simp [Wwn] <;> omega
theorem Wpo {N:Nat} {n:Int} (hn:I64 n) (hN:150 < N):Zhf N n = ret (decT n):=by
 unfold Zhf decT
 by_cases h0:n = 0
 ·subst h0; rfl
 ·have e0:(n == 0) = false:=by simpa using h0
  have hs:n = sgn (decide (n < 0)) n.natAbs:=by
   unfold sgn
   by_cases h:n < 0 <;> simp [h] <;> omega
  have hb:n.natAbs < 10 ^ 20:=by unfold I64 at hn; omega
  have key:=fun {R:Type} (K:Int → Bool → List Int → Option R)=>Wtc N n (decide (n < 0)) K 20 N n.natAbs [] hb (by omega) (by omega) (by simp) (by rw [← hs]; exact hn)
  rw [← hs] at key
  rw [e0,if_neg h0]
  simp only [cond_false]
  rw [key]
  have hl:=Wug 20 n.natAbs
  have rv:=fun (l:List Int) (hl:l.length ≤ 100)=>rev_lp N l (by omega) (fun l=>(some ((),(Wwn l,())):Option (Unit × (List UInt8 × Unit)))) N 0 l ⟨rfl,fun k hk h=>by omega,fun k _ _=>rfl⟩ (by omega) (by omega) (by omega)
  by_cases h:n < 0
  ·have e1:decide (n < 0) = true:=by simpa using h
   have e2:List.append ([] ++ digs 20 n.natAbs) [(45:Int)] = digs 20 n.natAbs ++ [45]:=by simp
   have e3:room (([] ++ digs 20 n.natAbs).length + [(45:Int)].length) = true:=Ws (by simp; omega)
   have hr:=rv (digs 20 n.natAbs ++ [45]) (by simp; omega)
   have e4:isub .i64 (ilen (digs 20 n.natAbs ++ [45])) 1 = (((digs 20 n.natAbs ++ [45]).length:Int) - 1) - ((0:Nat):Int):=by
    rw [Wap (by unfold I64 ilen; simp; omega)]
    simp [ilen]
   rw [e1,e3,e2,e4]
   simp only [cond_true]
   refine hr.trans ?_
   rw [if_pos h,List.reverse_append]
   rfl
  ·have e1:decide (n < 0) = false:=by simpa using h
   have hr:=rv (digs 20 n.natAbs) (by omega)
   have e4:isub .i64 (ilen ([] ++ digs 20 n.natAbs)) 1 = (((digs 20 n.natAbs).length:Int) - 1) - ((0:Nat):Int):=by
    rw [Wap (by unfold I64 ilen; simp; omega)]
    simp [ilen]
   rw [e1,e4]
   simp only [cond_false,List.nil_append]
   refine hr.trans ?_
   rw [if_neg h]
   rfl
end Go.Sx
