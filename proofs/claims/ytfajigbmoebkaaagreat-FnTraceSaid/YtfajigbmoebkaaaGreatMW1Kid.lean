/- Plain laws of the Lean functions. -/
import Derived.Test.YtfajigbmoebkaaaGreatMW1DrawB

namespace Go.Sx
set_option linter.unusedVariables false
set_option linter.unusedSimpArgs false
def setK (f:Y_Family) (k:Nat) (x:Y_KidRun):Y_Family:=U9 (List.set (Q9 f) k x) f
def again (f:Y_Family) (x:Y_KidRun):Y_KidRun:=(0,(0,(f.2.1,(x.2.2.2.1 + 1,(0,(0,(P4 f,([],([],([],(false,(0,(0,(0,0))))))))))))))
def pbOf (x:Y_KidRun) (c:Int):Pb:=bif P10 x then Q11 x else (c,(0,(0,0)))
def Wqd (m:Mm) (f:Y_Family) (x:Y_KidRun) (o:Int × Int × Int × Int):Y_Family × Y_KidRun :=
 match Wfe (P8 x) o.2.2.1 with
 | some v=>(f,S6 (List.set (P6 x) (Int.toNat o.2.1) v) (S1 (x.2.1 + 1) x))
 | none=>match ent (P6 f) o.2.2.1 with
  | some r=>bif decide (r.2.2.2 > x.2.2.1) then (f,again f x) else (f,S7 (P7 x ++ [r.2]) (S6 (List.set (P6 x) (Int.toNat o.2.1) r.2.2.1) (S1 (x.2.1 + 1) x)))
  | none =>
   bif (Wcs m f.1 (pbOf x o.2.2.1)).2.1 == 4 then (S3 true f,U11 (Wcs m f.1 (pbOf x o.2.2.1)) (S10 true x)) else
   bif (Wcs m f.1 (pbOf x o.2.2.1)).2.1 == 3 then (f,U14 0 (S13 0 (S12 0 (S11 0 (S10 false (S7 (P7 x ++ [(o.2.2.1,((Wcs m f.1 (pbOf x o.2.2.1)).2.2.2,-1))]) (S6 (List.set (P6 x) (Int.toNat o.2.1) (Wcs m f.1 (pbOf x o.2.2.1)).2.2.2) (S1 (x.2.1 + 1) x)))))))) else
   (f,U11 (Wcs m f.1 (pbOf x o.2.2.1)) (S10 true x))
structure ReadOk (m:Mm) (f:Y_Family) (x:Y_KidRun) (o:Int × Int × Int × Int):Prop where
 mem:Wbi m = true
 regs:(P6 x).length = 4
 famr:(P4 f).length = 4
 rA:0 ≤ o.2.1 ∧ o.2.1 ≤ 3
 cB:Way o.2.2.1 = true
 seen:(P7 x).length ≤ 1000
 wr:(P8 x).length ≤ 1000
 buf:(P6 f).length ≤ 1000
 ver:∀ e ∈ P6 f,0 ≤ e.2.2
 since:0 ≤ x.2.2.1
 pc:0 ≤ x.2.1 ∧ x.2.1 ≤ 1000
 tries:0 ≤ x.2.2.2.1 ∧ x.2.2.2.1 ≤ 100000
 pb:P10 x = true → pbOk (Q11 x) = true
theorem ReadOk.pbO {m:Mm} {f:Y_Family} {x:Y_KidRun} {o:Int × Int × Int × Int} (h:ReadOk m f x o):pbOk (pbOf x o.2.2.1) = true:=by
 unfold pbOf
 cases hb:P10 x
 ·have:=h.cB
  unfold pbOk
  simp [this,Wct]
 ·exact h.pb hb
theorem S10_same {x:Y_KidRun} (h:P10 x = true):S10 true x = x:=by rw [← h]; rfl
theorem Wez {a:Int} (h:0 ≤ a ∧ a ≤ 1000000):iadd .i64 a 1 = a + 1:=Wz (by unfold I64; omega)
theorem rgI {r:List Int} {a:Int} (h:r.length = 4) (ha:0 ≤ a ∧ a ≤ 3):inb a r.length = true:=by unfold inb; rw [h]; simp; omega
theorem Wja {N:Nat} {f:Y_Family} {k:Nat} {x:Y_KidRun} (hk:k < (Q9 f).length) (h:(P4 f).length = 4) (ht:0 ≤ x.2.2.2.1 ∧ x.2.2.2.1 ≤ 100000) :
  Zbg N (U9 (List.set (Q9 f) k x) f) (k:Int) = some ((setK f k (again f x),()),()):=by
 have e0:Zx N (P4 (U9 (List.set (Q9 f) k x) f)) = ret (P4 f):=Wcv (show (P4 f).length ≤ 1048576 by omega)
 have e1:Q9 (U9 (List.set (Q9 f) k x) f) = List.set (Q9 f) k x:=rfl
 have hk2:k < (List.set (Q9 f) k x).length:=by simpa using hk
 unfold Zbg
 rw [e0,e1]
 have e2:List.getD (List.set (Q9 f) k x) (Int.toNat (k:Int)) d_KidRun = x:=by rw [Wu hk2]; simp
 rw [e2,Wp hk2,Wez (by omega),Int.toNat_natCast]
 simp only [cond_true,ret,Option.bind_some,List.set_set]
 rfl
theorem Wxq {N:Nat} {m:Mm} {f:Y_Family} {k:Nat} {o:Int × Int × Int × Int} (hk:k < (Q9 f).length) (h:ReadOk m f (Q9 f)[k] o) (hN:1048576 < N) :
  Zie N f (k:Int) o m = some ((setK (Wqd m f (Q9 f)[k] o).1 k (Wqd m f (Q9 f)[k] o).2,()),()):=by
 generalize hx:(Q9 f)[k] = x at h
 have hw:=h.wr
 have hs:=h.seen
 have hb:=h.buf
 have hr:=h.regs
 have ex:List.getD (Q9 f) (Int.toNat (k:Int)) d_KidRun = x:=by rw [Wu hk,hx]
 unfold Zie Wqd
 simp only [Wq]
 rw [Wp hk,ex,Int.toNat_natCast,Wjg (show (P8 x).length ≤ 1048576 by omega) hN,Wez (by have:=h.pc; omega)]
 rcases Wfe (P8 x) o.2.2.1 with _ | v
 ·simp only [opI,Option.bind_some,cond_false,cond_true]
  have hE:Zck N (U9 (List.set (Q9 f) k x) f) o.2.2.1 = ret (match ent (P6 f) o.2.2.1 with | some r=>(r.1:Int) | none=>-1):=Wli (f:=U9 (List.set (Q9 f) k x) f) (show (P6 f).length ≤ 1048576 by omega) hN
  rw [hE,Wja hk h.famr h.tries]
  rcases he:ent (P6 f) o.2.2.1 with _ | r
  ·simp only [ret,Option.bind_some,show decide ((-1:Int) ≥ 0) = false from rfl,cond_false]
   have hp:=h.pbO
   cases hc:P10 x
   ·have hp2:pbOf x o.2.2.1 = (o.2.2.1,(0,(0,0))):=by unfold pbOf; rw [hc]; rfl
    have hn:Zfi N o.2.2.1 = some ((),((o.2.2.1,(0,(0,0))),(true,()))):=by
     unfold Zfi
     simp only [Wj,ret,Option.bind_some,h.cB,Bool.not_true,cond_false]
    rw [hp2] at hp ⊢
    simp only [Bool.not_false,cond_true,hn,Wjw h.mem hp hN,ret,Option.bind_some,rgI hr h.rA]
    generalize Wcs m f.1 (o.2.2.1,(0,(0,0))) = q
    rw [Ws (by simp; omega)]
    cases q.2.1 == 4 <;> cases q.2.1 == 3 <;> rfl
   ·have hp2:pbOf x o.2.2.1 = Q11 x:=by unfold pbOf; rw [hc]; rfl
    rw [hp2] at hp ⊢
    simp only [Bool.not_true,cond_false,Wjw h.mem hp hN,ret,Option.bind_some,rgI hr h.rA,cond_true]
    generalize Wcs m f.1 (Q11 x) = q
    rw [Ws (by simp; omega),S10_same hc]
    cases q.2.1 == 4 <;> cases q.2.1 == 3 <;> rfl
  ·have hm:=Wgj he
   have hi:r.1 < (P6 f).length:=by have:=hm.2.2.1; omega
   have hg:(P6 f)[r.1] = r.2:=by
    have:=hm.2.2.2
    rw [Nat.sub_zero,List.getElem?_eq_getElem hi] at this
    exact Option.some.inj this
   have e2:decide (((r.1:Nat):Int) ≥ 0) = true:=by simp
   simp only [ret,Option.bind_some,e2,cond_true,Wp hi,rgI hr h.rA]
   rw [Wu hi,hg,Ws (by simp; omega)]
   cases decide (r.2.2.2 > x.2.2.1) <;> rfl
 ·simp only [opI,Option.bind_some,cond_true,rgI hr h.rA]
  rfl
end Go.Sx
