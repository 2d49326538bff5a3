/- Plain laws of the Lean functions. -/
import Derived.Test.YtfajigbmoebkaaaGreatMW1Dr2

namespace Go.Sx
set_option linter.unusedVariables false
set_option linter.unusedSimpArgs false
theorem Wln {N:Nat} {a:List Int} (ha:a.length ≤ 1048576) (hN:1048576 < N):Zcq N a a = ret true:=by
 unfold Zcq
 have e:(ilen a != ilen a) = false:=by simp
 rw [e]
 simp only [cond_false]
 have h1:=Wz (l:=a) (V:=Unit) (R:=Unit × (Bool × Unit)) (lp:=fun n j _=>Zcl N a a (some ((),(false,()))) (fun i8 t9=>some ((),(true,()))) n j) (n:=N) (by omega)
  (body:=fun j x v k=>k v) (K:=fun _ v=>some ((),(true,())))
  (fun n i v hi=>by
   have e2:(a[i] != a[i]) = false:=by simp
   simp only [Zcl,Waz hi,Wn hi,Wq hi,Wi (show i < 4611686018427387904 by omega),cond_true,e2,cond_false])
  (fun n v=>by simp only [Zcl,Wbj (Nat.le_refl a.length),cond_false]) ()
 refine h1.trans ?_
 rw [Wfj (f:=fun v _=>v) a 0 () (fun j x v k _=>rfl)]
theorem at_run {N:Nat} {code:List Int} (hw:∀ x ∈ code,0 ≤ x ∧ x ≤ 255) (hl:code.length ≤ 1048576) {i:Nat} (hi:i ≤ 1000):∃ v,Zov N code (i:Int) = ret v ∧ 0 ≤ v ∧ v ≤ 255:=by
 unfold Zov
 by_cases h:i < code.length
 ·have hx:=hw _ (List.getElem_mem h)
  refine ⟨code[i],?_,hx⟩
  simp only [Waz h,Wn h,Wq h,cond_true]
  rw [wrap_i64 (by unfold I64; omega)]
 ·have e:decide ((i:Int) < ilen code) = false:=by simp [ilen]; omega
  have m1:imul .i64 (i:Int) 37 = (i:Int) * 37:=Whg (by unfold I64; omega)
  have m2:imul .i64 (ilen code) 11 = (code.length:Int) * 11:=Whg (by unfold I64 ilen; omega)
  have m3:iadd .i64 ((i:Int) * 37) ((code.length:Int) * 11) = (i:Int) * 37 + (code.length:Int) * 11:=Wx (by unfold I64; omega)
  rw [e,m1,m2,m3]
  refine ⟨_,rfl,?_⟩
  have:irem ((i:Int) * 37 + (code.length:Int) * 11) 256 = ((i:Int) * 37 + (code.length:Int) * 11) % 256:=by unfold irem; exact Int.tmod_eq_emod_of_nonneg (by omega)
  rw [this]; omega
end Go.Sx
