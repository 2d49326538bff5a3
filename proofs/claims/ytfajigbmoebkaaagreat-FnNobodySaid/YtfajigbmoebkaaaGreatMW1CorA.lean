/- Plain laws of the Lean functions. -/
import Derived.Test.YtfajigbmoebkaaaGreatT2

namespace Go.Sx
set_option linter.unusedVariables false
set_option linter.unusedSimpArgs false
def Wcx (v:Int):Bool:=decide (0 ≤ v) && decide (v ≤ 65535)
theorem Wgk {N:Nat} {x a b:Int}:Zbp N x a b = ret (decide (a ≤ x) && decide (x ≤ b)):=by
 unfold Zbp
 by_cases h:a ≤ x <;> simp [h]
theorem Wl {N:Nat} {x a b:Int}:Zq N x a b = ret (decide (a ≤ x) && decide (x ≤ b)):=by
 unfold Zq
 by_cases h:a ≤ x <;> simp [h]
theorem Wey {α:Type} {p:α → Bool} (l:List α):(l.any fun x=>!p x) = !l.all p:=by
 induction l with
 | nil=>rfl
 | cons x l ih=>simp [ih,Bool.not_and]
abbrev Rw:=Int × Int
def Waz (v:Int):Bool:=decide (0 ≤ v) && decide (v ≤ 7)
def isRow (r:Rw):Bool:=Waz r.1 && Wcx r.2
def Wco (l:List Rw):Bool:=decide (l.length ≤ 300) && l.all isRow
def Wiv (l:List Int):Bool:=decide (l.length = 8) && l.all Wcx
theorem Wah {N:Nat} {v:Int}:Zhl N v = ret (Wcx v):=by
 unfold Zhl; simp only [Wgk,ret,Option.bind_some]; rfl
theorem Wk {N:Nat} {v:Int}:Zaz N v = ret (Wcx v):=by
 unfold Zaz; simp only [Wl,ret,Option.bind_some]; rfl
theorem Wag {N:Nat} {v:Int}:Zg6 N v = ret (Waz v):=by
 unfold Zg6; simp only [Wgk,ret,Option.bind_some]; rfl
theorem Wj {N:Nat} {v:Int}:Zbc N v = ret (Waz v):=by
 unfold Zbc; simp only [Wl,ret,Option.bind_some]; rfl
theorem Wwy {N:Nat} {l:List Int} (hl:l.length ≤ 1048576) (hN:1048576 < N):Zf8 N l = ret (Wiv l):=by
 unfold Zf8 Wiv
 by_cases h:l.length = 8
 ·have e:(ilen l != 8) = false:=by simp [ilen,h]
  rw [e]
  simp only [cond_false]
  have h1:=Wy (l:=l) (V:=Unit) (R:=Unit × (Bool × Unit)) (lp:=fun n j v=>Zdg N l (some ((),(false,()))) (fun i8 t9=>some ((),(true,()))) n j) (n:=N) (by omega)
   (body:=fun j x v k=>bif !Wcx x then some ((),(false,())) else k v) (K:=fun _ v=>some ((),(true,())))
   (fun n i v hi=>by simp only [Zdg,Waw hi,Wn hi,Wp hi,Wh (show i < 4611686018427387904 by omega),cond_true,Wah,ret,Option.bind_some])
   (fun n v=>by simp only [Zdg,Wbi (Nat.le_refl l.length),cond_false]) ()
  refine h1.trans ?_
  rw [Wbn (p:=fun x=>!Wcx x) (E:=fun _=>some ((),(false,()))) l 0 () (fun j x v k _=>rfl),Wey]
  cases l.all Wcx <;> simp [h]
 ·have e:(ilen l != 8) = true:=by simp [ilen]; omega
  rw [e]
  simp [h]
theorem Wny {N:Nat} {l:List Int} (hl:l.length ≤ 1048576) (hN:1048576 < N):Z9 N l 8 = ret (Wiv l):=by
 unfold Z9 Wiv
 have h1:=Wy (l:=l) (V:=Unit) (R:=Unit × (Bool × Unit)) (lp:=fun n j v=>Za3 N l 8 (some ((),(false,()))) (fun i8 t9=>some ((),((ilen l) == (8:Int),()))) n j) (n:=N) (by omega)
  (body:=fun j x v k=>bif !Wcx x then some ((),(false,())) else k v) (K:=fun _ v=>some ((),((ilen l) == (8:Int),())))
  (fun n i v hi=>by simp only [Za3,Waw hi,Wn hi,Wp hi,Wh (show i < 4611686018427387904 by omega),cond_true,Wk,ret,Option.bind_some])
  (fun n v=>by simp only [Za3,Wbi (Nat.le_refl l.length),cond_false]) ()
 refine h1.trans ?_
 rw [Wbn (p:=fun x=>!Wcx x) (E:=fun _=>some ((),(false,()))) l 0 () (fun j x v k _=>rfl),Wey]
 have e:((ilen l) == (8:Int)) = decide (l.length = 8):=by
  by_cases h:l.length = 8
  ·simp [ilen,h]
  ·simp [ilen,h]; omega
 rw [e]
 cases l.all Wcx <;> simp
theorem Wen {N:Nat} {l:List Rw} (hl:l.length ≤ 1048576) (hN:1048576 < N):Zb1 N l = ret (Wco l):=by
 unfold Zb1 Wco
 have h1:=Wy (l:=l) (V:=Unit) (R:=Unit × (Bool × Unit)) (lp:=fun n j v=>Zdh N l (some ((),(false,()))) (fun i8 t9=>some ((),(decide ((ilen l) ≤ (300:Int)),()))) n j) (n:=N) (by omega)
  (body:=fun j x v k=>bif !isRow x then some ((),(false,())) else k v) (K:=fun _ v=>some ((),(decide ((ilen l) ≤ (300:Int)),())))
  (fun n i v hi=>by
   simp only [Zdh,Waw hi,Wn hi,Wp hi,Wh (show i < 4611686018427387904 by omega),cond_true,Wk,Wj,ret,Option.bind_some,isRow]
   cases Waz l[i].1 <;> rfl)
  (fun n v=>by simp only [Zdh,Wbi (Nat.le_refl l.length),cond_false]) ()
 refine h1.trans ?_
 rw [Wbn (p:=fun x=>!isRow x) (E:=fun _=>some ((),(false,()))) l 0 () (fun j x v k _=>rfl),Wey]
 have e:decide (ilen l ≤ 300) = decide (l.length ≤ 300):=by apply decide_eq_decide.2; simp [ilen]; omega
 rw [e]
 cases l.all isRow <;> simp
theorem room_300 {α:Type} {l:List α} (h:l.length ≤ 1048576):room l.length = true:=by unfold room; simp; omega
end Go.Sx
