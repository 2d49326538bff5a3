/- Plain laws of the Lean functions. -/
import Derived.Test.YtfajigbmoebkaaaGreatMW1Draw

namespace Go.Sx
set_option linter.unusedVariables false
set_option linter.unusedSimpArgs false
theorem both_same2 {α:Type} {a b:Option α} (h:a = b):both a b = a:=by unfold both; rw [if_pos h]
section
variable {N:Nat} {c:Cur}
theorem dKids_lp (hN:1048576 < N) {l12:List Opn} (h12:l12.length ≤ 300):∀ (n i:Nat) (c:Cur) (l:List (List Opn)),i < n → i ≤ 100 → Wbp c → l.length + i ≤ 100 → (∀ x ∈ l,x.length ≤ 200) →
  Drw (fun v:(List Opn × List (List Opn)) × Unit=>v.1.1.length ≤ 300 ∧ v.1.2.length ≤ 100 ∧ ∀ x ∈ v.1.2,x.length ≤ 200) (Zfu N l12 (fun n22 t23 b24 l25=>(some ((b24,()),((l12,l25),())))) n (i:Int) c l)
 | 0,i,c,l,h,_,_,_,_=>by omega
 | n + 1,i,c,l,h,hi,hc,hl,hx=>by
  unfold Zfu
  refine .bif (fun h0=>?_) fun _=>.ok hc ⟨h12,by simp only []; omega,hx⟩
  have h0:(i:Int) > 0:=of_decide_eq_true h0
  have e:isub .i64 (i:Int) 1 = ((i - 1:Nat):Int):=by rw [Wap (by unfold I64; omega)]; omega
  rw [e]
  refine (Wbe 5 hc).bind fun c v hc hv=>?_
  have hv:=hv.2 (by decide)
  have e2:iadd .i64 2 v.1 = 2 + v.1:=Wz (by unfold I64; omega)
  simp only [e2]
  refine (dGen hN hc (by omega) (by omega)).bind fun c w hc hw=>.bifT (Ws (by simp; omega)) ?_
  refine dKids_lp hN h12 n (i - 1) c _ (by omega) (by omega) hc (by simp [List.append_eq]; omega) fun x hx'=>?_
  simp [List.append_eq] at hx'
  rcases hx' with hx' | hx'
  ·exact hx x hx'
  ·rw [hx']; omega
theorem dProg (hN:1048576 < N) {b:Bool} (hc:Wbp c):Drw (fun v:(List Opn × List (List Opn)) × Unit=>v.1.1.length ≤ 300 ∧ v.1.2.length ≤ 100 ∧ ∀ x ∈ v.1.2,x.length ≤ 200) (Zb9 N c b):=by
 unfold Zb9
 refine .bif (fun _=>?_) fun _=>?_
 ·refine (Wbe 8 hc).bind fun c v hc hv=>?_
  have hv:=hv.2 (by decide)
  have e2:iadd .i64 3 v.1 = 3 + v.1:=Wz (by unfold I64; omega)
  simp only [e2]
  exact (dGen hN hc (by omega) (by omega)).bind fun c w hc hw=>.ok hc ⟨by simp only []; omega,by simp,by simp⟩
 ·refine (Wbe 4 hc).bind fun c v hc hv=>?_
  have hv:=hv.2 (by decide)
  have e2:iadd .i64 1 v.1 = 1 + v.1:=Wz (by unfold I64; omega)
  simp only [e2]
  refine (dGen hN hc (by omega) (by omega)).bind fun c w hc hw=>(Wbe 4 hc).bind fun c v2 hc hv2=>?_
  have hv2:=hv2.2 (by decide)
  have e3:iadd .i64 1 v2.1 = 1 + v2.1:=Wz (by unfold I64; omega)
  simp only [e3]
  refine (dGen hN hc (by omega) (by omega)).bind fun c w2 hc hw2=>.bifT (Ws (by simp; omega)) (.bifT (Ws (by simp [List.append_eq]; omega)) ((Wbe 3 hc).bind fun c v3 hc hv3=>?_))
  have hv3:=hv3.2 (by decide)
  have e4:iadd .i64 1 v3.1 = (((1 + v3.1).toNat:Nat):Int):=by rw [Wz (by unfold I64; omega)]; omega
  simp only [e4]
  exact dKids_lp hN (by simp [List.append_eq]; omega) N _ c [] (by omega) (by omega) hc (by simp; omega) (by simp)
theorem dAny4 (hc:Wbp c):Drw (fun v:Opn × Unit=>True) (Znt N c):=by
 unfold Znt
 refine (Wbe 16 hc).bind fun c v hc hv=>(dPlain _ hc).bind fun c w hc _=>(Wbe 16 hc).bind fun c v hc hv=>.bif (fun _=>?_) fun _=>.bif (fun _=>?_) fun _=>.bif (fun _=>?_) fun _=>.bif (fun _=>?_) fun _=>.ok hc trivial
 all_goals exact (dPick _ hc (by decide) (by decide)).bind fun c v hc hv=>.ok hc trivial
theorem dBend_lp:∀ (n:Nat) (c:Cur) (l:List Opn),600 - l.length < n → Wbp c → l.length ≤ 500 →
  Drw (fun v:List Opn × Unit=>v.1.length ≤ 600) (Zfv N (fun t13 b14 l15=>(some ((b14,()),(l15,())))) n c l)
 | 0,c,l,h,_,_=>by omega
 | n + 1,c,l,h,hc,hl=>by
  unfold Zfv
  refine (Wbe 2 hc).bind fun c v hc hv=>?_
  have hv:=hv.2 (by decide)
  have e:iadd .i64 24 v.1 = 24 + v.1:=Wz (by unfold I64; omega)
  simp only [e]
  refine .bif (fun h0=>?_) fun _=>.ok hc (by simp only []; omega)
  have h0:(l.length:Int) < 24 + v.1:=of_decide_eq_true h0
  exact .bifT (Ws (by simp; omega)) (dBend_lp n c _ (by simp [List.append_eq]; omega) hc (by simp [List.append_eq]; omega))
theorem dBend (hN:1048576 < N) {l:List Opn} (hc:Wbp c) (hl:l.length ≤ 500):Drw (fun v:List Opn × Unit=>v.1.length ≤ 600) (Zd2 N c l):=by
 unfold Zd2
 have en:List.append ([]:List Opn) l = l:=rfl
 simp only [en]
 refine .bifT (Ws (by simp; omega)) (.bif (fun _=>.ok hc (by simp)) fun h0=>?_)
 have hpos:0 < l.length:=by
  cases l with
  | nil=>exact absurd h0 (by decide)
  | cons a b=>simp
 refine (Wbe (ilen l) hc).bind fun c k hc hk=>?_
 have hk:=hk.2 (by unfold ilen; omega)
 unfold ilen at hk
 obtain ⟨k,u⟩:=k
 simp only at hk
 obtain ⟨j,rfl⟩:=Int.eq_ofNat_of_zero_le hk.1
 have hj:j < l.length:=by omega
 have ei:inb (j:Int) l.length = true:=Wp hj
 have e1:iadd .i64 (j:Int) 1 = ((j + 1:Nat):Int):=Wi (by omega)
 have c1:((decide ((0:Int) ≤ (j:Int))) && (decide ((j:Int) ≤ ((List.length l):Int)))) = true:=by simp; omega
 have c2:((decide ((0:Int) ≤ ((j + 1:Nat):Int))) && (decide (((j + 1:Nat):Int) ≤ ((List.length l):Int)))) = true:=by simp; omega
 refine (Wbe 6 hc).bind fun c v hc hv=>?_
 simp only [e1,ei,c1,c2,cond_true,both_same2 rfl]
 refine .bif (fun _=>?_) fun _=>.bif (fun _=>.ok hc (by simp; omega)) fun _=>.bif (fun _=>?_) fun _=>.bif (fun _=>?_) fun _=>.bif (fun _=>.ok hc (by simp; omega)) fun _=>?_
 ·exact (dAny4 hc).bind fun c w hc _=>.ok hc (by simp; omega)
 ·have hlen:(List.drop (Int.toNat ((j + 1:Nat):Int)) (List.take l.length l)).length = l.length - (j + 1):=by rw [Int.toNat_natCast,List.length_drop,List.length_take]; omega
  have hlen2:(List.take (Int.toNat (j:Int)) l).length = j:=by rw [Int.toNat_natCast,List.length_take]; omega
  exact .bifT (Ws (by rw [Int.toNat_natCast]; omega)) (.ok hc (by simp only [List.append_eq,List.length_append]; omega))
 ·exact dBend_lp N c l (by omega) hc hl
 ·exact (Wbe 2 hc).bind fun c w hc _=>.ok hc (by simp; omega)
end
end Go.Sx
