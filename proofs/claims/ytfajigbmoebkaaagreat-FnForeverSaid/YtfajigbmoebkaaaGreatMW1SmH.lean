/- Plain laws of the Lean functions. -/
import Derived.Test.YtfajigbmoebkaaaGreatMW1Sm

namespace Go.Sx
set_option linter.unusedVariables false
set_option linter.unusedSimpArgs false
theorem Wuq {N:Nat} {a:List Rw} (ha:a.length ≤ 1048576) (hN:1048576 < N):Zdn N a a = ret true:=by
 unfold Zdn
 have e:(ilen a != ilen a) = false:=by simp
 rw [e]
 simp only [cond_false]
 have h1:=Wz (l:=a) (V:=Unit) (R:=Unit × (Bool × Unit)) (lp:=fun n j _=>Zcm N a a (some ((),(false,()))) (fun i8 t9=>some ((),(true,()))) n j) (n:=N) (by omega)
  (body:=fun j x v k=>k v) (K:=fun _ v=>some ((),(true,())))
  (fun n i v hi=>by
   have e2:(!((ieq a[i].1 a[i].1) && ((ieq a[i].2 a[i].2) && true))) = false:=by simp [ieq]
   simp only [Zcm,Waz hi,Wn hi,Wq hi,Wi (show i < 4611686018427387904 by omega),cond_true,e2,cond_false])
  (fun n v=>by simp only [Zcm,Wbj (Nat.le_refl a.length),cond_false]) ()
 refine h1.trans ?_
 rw [Wfj (f:=fun v _=>v) a 0 () (fun j x v k _=>rfl)]
theorem Wuj {N:Nat} {a:List Wr} (ha:a.length ≤ 1048576) (hr:∀ w ∈ a,w.2.2.length ≤ 1048576) (hN:1048576 < N):Zcr N a a = ret true:=by
 unfold Zcr
 have e:(ilen a != ilen a) = false:=by simp
 rw [e]
 simp only [cond_false]
 have h1:=Wz (l:=a) (V:=Unit) (R:=Unit × (Bool × Unit)) (lp:=fun n j _=>Zcn N a a (some ((),(false,()))) (fun i8 t9=>some ((),(true,()))) n j) (n:=N) (by omega)
  (body:=fun j x v k=>k v) (K:=fun _ v=>some ((),(true,())))
  (fun n i v hi=>by
   have e2:(a[i].1 != a[i].1) = false:=by simp
   have e3:(a[i].2.1 != a[i].2.1) = false:=by simp
   simp only [Zcn,Waz hi,Wn hi,Wq hi,Wi (show i < 4611686018427387904 by omega),cond_true,e2,e3,cond_false,Wuq (hr a[i] (List.getElem_mem hi)) hN,ret,Option.bind_some,Bool.not_true])
  (fun n v=>by simp only [Zcn,Wbj (Nat.le_refl a.length),cond_false]) ()
 refine h1.trans ?_
 rw [Wfj (f:=fun v _=>v) a 0 () (fun j x v k _=>rfl)]
end Go.Sx
