/- Plain laws of the Lean functions. -/
import Derived.Test.YtfajigbmoebkaaaGreatMW1Kst

namespace Go.Sx
set_option linter.unusedVariables false
set_option linter.unusedSimpArgs false
abbrev Cur:=List Int × Int × Int
def Wbp (c:Cur):Prop:=0 ≤ c.2.1 ∧ c.2.1 ≤ c.1.length ∧ c.1.length ≤ 1048576
def Draws {α:Type} (P:α → Prop) (r:Option ((Cur × Unit) × (α × Unit))):Prop:=∃ c v,r = some ((c,()),(v,())) ∧ Wbp c ∧ P v
theorem iand_255 (x:Int):∃ n:Nat,n ≤ 255 ∧ iand .i64 x 255 = n:=by
 refine ⟨(BitVec.ofInt 64 x &&& BitVec.ofInt 64 255).toNat,?_,?_⟩
 ·rw [BitVec.toNat_and]
  exact Nat.le_trans Nat.and_le_right (by decide)
 ·unfold iand
  have:(BitVec.ofInt 64 x &&& BitVec.ofInt 64 255).toNat ≤ 255:=by
   rw [BitVec.toNat_and]
   exact Nat.le_trans Nat.and_le_right (by decide)
  exact wrap_i64 (natI64 (p:=(BitVec.ofInt 64 x &&& BitVec.ofInt 64 255).toNat) (by omega))
theorem new_draw {N:Nat} {code:List Int} (h:code.length ≤ 1048576) (hN:1048576 < N):∃ c,Wbp c ∧ Zgs N code = ret c:=by
 have key:∀ (n j:Nat) (v:Int),j ≤ code.length → code.length - j < n → ∃ hh i t,∀ {R:Type} (K:Int → Int → Bool → Option R),Zcr N code K n v (j:Int) = K hh i t:=by
  intro n
  induction n with
  | zero=>intro j v _ h2; omega
  | succ n ih =>
   intro j v h1 h2
   by_cases hj:j < code.length
   ·by_cases h4:j < 4000
    ·obtain ⟨hh,i,t,e⟩:=ih (j + 1) _ hj (by omega)
     refine ⟨hh,i,t,fun K=>?_⟩
     have e1:decide ((j:Int) < 4000) = true:=by simp; omega
     simp only [Zcr,Wba hj,Wp hj,e1,cond_true,Wi (show j < 4611686018427387904 by omega)]
     exact e K
    ·refine ⟨v,j,decide ((j:Int) < 4000),fun K=>?_⟩
     have e1:decide ((j:Int) < 4000) = false:=by simp; omega
     simp only [Zcr,Wba hj,e1,cond_true,cond_false]
   ·refine ⟨v,j,false,fun K=>?_⟩
    simp only [Zcr,Wbj (show code.length ≤ j by omega),cond_false]
 obtain ⟨hh,i,t,e⟩:=key N 0 (iadd .i64 10101 (ilen code)) (Nat.zero_le _) (by omega)
 refine ⟨(code,0,hh),⟨by simp,by simp,h⟩,?_⟩
 unfold Zgs
 exact e _
theorem Wip {N:Nat} {c:Cur} (h:Wbp c):Draws (fun v=>0 ≤ v ∧ v ≤ 255) (Zf5 N c):=by
 unfold Zf5
 obtain ⟨h1,h2,h3⟩:=h
 have e1:inn 33 = true:=rfl
 have e2:inn 45 = true:=rfl
 simp only [e1,e2,cond_true]
 by_cases hi:c.2.1 < c.1.length
 ·have e3:decide (c.2.1 < ilen c.1) = true:=decide_eq_true hi
  have e4:inb c.2.1 c.1.length = true:=by unfold inb; simp; exact ⟨h1,hi⟩
  have e5:iadd .i64 c.2.1 1 = c.2.1 + 1:=Wz (by unfold I64; omega)
  rw [e3,e4,e5]
  simp only [cond_true]
  obtain ⟨n,hn,e⟩:=iand_255 (iadd .i64 (iand .i64 (ixor .i64 (ishr .i64 (iadd .i64 (imul .i64 c.2.2 (6364136223846793005:Int)) (1442695040888963407:Int)) (33:Int)) (ishr .i64 (iadd .i64 (imul .i64 c.2.2 (6364136223846793005:Int)) (1442695040888963407:Int)) (45:Int))) (255:Int)) (IntKind.wrap .i64 (List.getD c.1 (Int.toNat c.2.1) (0:Int))))
  exact ⟨_,_,rfl,⟨by simp; omega,by simp; omega,h3⟩,by rw [e]; omega⟩
 ·have e3:decide (c.2.1 < ilen c.1) = false:=decide_eq_false hi
  rw [e3]
  simp only [cond_false]
  obtain ⟨n,hn,e⟩:=iand_255 (ixor .i64 (ishr .i64 (iadd .i64 (imul .i64 c.2.2 (6364136223846793005:Int)) (1442695040888963407:Int)) (33:Int)) (ishr .i64 (iadd .i64 (imul .i64 c.2.2 (6364136223846793005:Int)) (1442695040888963407:Int)) (45:Int)))
  exact ⟨_,_,rfl,⟨h1,h2,h3⟩,by rw [e]; omega⟩
theorem irem_pos {v n:Int} (hv:0 ≤ v) (hn:0 < n):0 ≤ irem v n ∧ irem v n < n:=by
 have e:irem v n = v % n:=by unfold irem; exact Int.tmod_eq_emod_of_nonneg hv
 rw [e]
 exact ⟨Int.emod_nonneg v (by omega),Int.emod_lt_of_pos v hn⟩
theorem Wnj {N:Nat} {c:Cur} {n:Int} (h:Wbp c):Draws (fun v=>(n ≤ 0 → v = 0) ∧ (0 < n → 0 ≤ v ∧ v < n)) (Zb N c n):=by
 unfold Zb
 by_cases h0:n ≤ 0
 ·have e:decide (n ≤ 0) = true:=by simpa using h0
  rw [e]
  exact ⟨_,_,rfl,h,fun _=>rfl,fun h=>by omega⟩
 ·have e:decide (n ≤ 0) = false:=by simpa using h0
  have ez:inz n = true:=by unfold inz; simp; omega
  rw [e]
  simp only [cond_false,ez,cond_true]
  by_cases h1:n ≤ 256
  ·have e:decide (n ≤ 256) = true:=by simpa using h1
   rw [e]
   obtain ⟨c1,v,e1,hc,hv⟩:=Wip (N:=N) h
   rw [e1]
   have:=irem_pos hv.1 (show 0 < n by omega)
   exact ⟨_,_,rfl,hc,fun h=>by omega,fun _=>this⟩
  ·have e:decide (n ≤ 256) = false:=by simpa using h1
   rw [e]
   obtain ⟨c1,v1,e1,hc1,hv1⟩:=Wip (N:=N) h
   obtain ⟨c2,v2,e2,hc2,hv2⟩:=Wip (N:=N) hc1
   obtain ⟨c3,v3,e3,hc3,hv3⟩:=Wip (N:=N) hc2
   obtain ⟨c4,v4,e4,hc4,hv4⟩:=Wip (N:=N) hc3
   simp only [cond_false,e1,e2,e3,e4,Option.bind_some]
   have m1:imul .i64 v1 16777216 = v1 * 16777216:=Wmz (by unfold I64; omega)
   have m2:imul .i64 v2 65536 = v2 * 65536:=Wmz (by unfold I64; omega)
   have m3:imul .i64 v3 256 = v3 * 256:=Wmz (by unfold I64; omega)
   have a1:iadd .i64 (v1 * 16777216) (v2 * 65536) = v1 * 16777216 + v2 * 65536:=Wz (by unfold I64; omega)
   have a2:iadd .i64 (v1 * 16777216 + v2 * 65536) (v3 * 256) = v1 * 16777216 + v2 * 65536 + v3 * 256:=Wz (by unfold I64; omega)
   have a3:iadd .i64 (v1 * 16777216 + v2 * 65536 + v3 * 256) v4 = v1 * 16777216 + v2 * 65536 + v3 * 256 + v4:=Wz (by unfold I64; omega)
   rw [m1,m2,m3,a1,a2,a3]
   have:=irem_pos (show 0 ≤ v1 * 16777216 + v2 * 65536 + v3 * 256 + v4 by omega) (show 0 < n by omega)
   exact ⟨_,_,rfl,hc4,fun h=>by omega,fun _=>this⟩
end Go.Sx
