/- Plain laws of the Lean functions. -/
import Derived.Test.YtfajigbmoebkaaaGreatT

namespace Go.Sx
set_option linter.unusedVariables false
set_option linter.unusedSimpArgs false
def Wcz (v:Int):Bool:=decide (0 ≤ v) && decide (v ≤ 65535)
theorem Wgv {N:Nat} {x a b:Int}:Zbl N x a b = ret (decide (a ≤ x) && decide (x ≤ b)):=by
 unfold Zbl
 by_cases h:a ≤ x <;> simp [h]
theorem Wk {N:Nat} {x a b:Int}:Zq N x a b = ret (decide (a ≤ x) && decide (x ≤ b)):=by
 unfold Zq
 by_cases h:a ≤ x <;> simp [h]
theorem Wfb {α:Type} {p:α → Bool} (l:List α):(l.any fun x=>!p x) = !l.all p:=by
 induction l with
 | nil=>rfl
 | cons x l ih=>simp [ih,Bool.not_and]
abbrev Rw:=Int × Int
def Way (v:Int):Bool:=decide (0 ≤ v) && decide (v ≤ 7)
def isRow (r:Rw):Bool:=Way r.1 && Wcz r.2
def Wco (l:List Rw):Bool:=decide (l.length ≤ 300) && l.all isRow
def Wjc (l:List Int):Bool:=decide (l.length = 8) && l.all Wcz
theorem Wah {N:Nat} {v:Int}:Zhi N v = ret (Wcz v):=by
 unfold Zhi; simp only [Wgv,ret,Option.bind_some]; rfl
theorem Wl {N:Nat} {v:Int}:Zaw N v = ret (Wcz v):=by
 unfold Zaw; simp only [Wk,ret,Option.bind_some]; rfl
theorem Wag {N:Nat} {v:Int}:Zg2 N v = ret (Way v):=by
 unfold Zg2; simp only [Wgv,ret,Option.bind_some]; rfl
theorem Wj {N:Nat} {v:Int}:Za8 N v = ret (Way v):=by
 unfold Za8; simp only [Wk,ret,Option.bind_some]; rfl
theorem Wyl {N:Nat} {l:List Int} (hl:l.length ≤ 1048576) (hN:1048576 < N):Zf4 N l = ret (Wjc l):=by
 unfold Zf4 Wjc
 by_cases h:l.length = 8
 ·have e:(ilen l != 8) = false:=by simp [ilen,h]
  rw [e]
  simp only [cond_false]
  have h1:=Wz (l:=l) (V:=Unit) (R:=Unit × (Bool × Unit)) (lp:=fun n j v=>Zdc N l (some ((),(false,()))) (fun i8 t9=>some ((),(true,()))) n j) (n:=N) (by omega)
   (body:=fun j x v k=>bif !Wcz x then some ((),(false,())) else k v) (K:=fun _ v=>some ((),(true,())))
   (fun n i v hi=>by simp only [Zdc,Waz hi,Wn hi,Wq hi,Wi (show i < 4611686018427387904 by omega),cond_true,Wah,ret,Option.bind_some])
   (fun n v=>by simp only [Zdc,Wbj (Nat.le_refl l.length),cond_false]) ()
  refine h1.trans ?_
  rw [Wbn (p:=fun x=>!Wcz x) (E:=fun _=>some ((),(false,()))) l 0 () (fun j x v k _=>rfl),Wfb]
  cases l.all Wcz <;> simp [h]
 ·have e:(ilen l != 8) = true:=by simp [ilen]; omega
  rw [e]
  simp [h]
theorem Wnw {N:Nat} {l:List Int} (hl:l.length ≤ 1048576) (hN:1048576 < N):Z9 N l 8 = ret (Wjc l):=by
 unfold Z9 Wjc
 have h1:=Wz (l:=l) (V:=Unit) (R:=Unit × (Bool × Unit)) (lp:=fun n j v=>Zaz N l 8 (some ((),(false,()))) (fun i8 t9=>some ((),((ilen l) == (8:Int),()))) n j) (n:=N) (by omega)
  (body:=fun j x v k=>bif !Wcz x then some ((),(false,())) else k v) (K:=fun _ v=>some ((),((ilen l) == (8:Int),())))
  (fun n i v hi=>by simp only [Zaz,Waz hi,Wn hi,Wq hi,Wi (show i < 4611686018427387904 by omega),cond_true,Wl,ret,Option.bind_some])
  (fun n v=>by simp only [Zaz,Wbj (Nat.le_refl l.length),cond_false]) ()
 refine h1.trans ?_
 rw [Wbn (p:=fun x=>!Wcz x) (E:=fun _=>some ((),(false,()))) l 0 () (fun j x v k _=>rfl),Wfb]
 have e:((ilen l) == (8:Int)) = decide (l.length = 8):=by
  by_cases h:l.length = 8
  ·simp [ilen,h]
  ·simp [ilen,h]; omega
 rw [e]
 cases l.all Wcz <;> simp
theorem Weq {N:Nat} {l:List Rw} (hl:l.length ≤ 1048576) (hN:1048576 < N):Zbx N l = ret (Wco l):=by
 unfold Zbx Wco
 have h1:=Wz (l:=l) (V:=Unit) (R:=Unit × (Bool × Unit)) (lp:=fun n j v=>Zdd N l (some ((),(false,()))) (fun i8 t9=>some ((),(decide ((ilen l) ≤ (300:Int)),()))) n j) (n:=N) (by omega)
  (body:=fun j x v k=>bif !isRow x then some ((),(false,())) else k v) (K:=fun _ v=>some ((),(decide ((ilen l) ≤ (300:Int)),())))
  (fun n i v hi=>by
   simp only [Zdd,Waz hi,Wn hi,Wq hi,Wi (show i < 4611686018427387904 by omega),cond_true,Wl,Wj,ret,Option.bind_some,isRow]
   cases Way l[i].1 <;> rfl)
  (fun n v=>by simp only [Zdd,Wbj (Nat.le_refl l.length),cond_false]) ()
 refine h1.trans ?_
 rw [Wbn (p:=fun x=>!isRow x) (E:=fun _=>some ((),(false,()))) l 0 () (fun j x v k _=>rfl),Wfb]
 have e:decide (ilen l ≤ 300) = decide (l.length ≤ 300):=by apply decide_eq_decide.2; simp [ilen]; omega
 rw [e]
 cases l.all isRow <;> simp
theorem room_300 {α:Type} {l:List α} (h:l.length ≤ 1048576):room l.length = true:=by unfold room; simp; omega
end Go.Sx
