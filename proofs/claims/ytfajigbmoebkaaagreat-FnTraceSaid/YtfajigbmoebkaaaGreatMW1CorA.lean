/- Plain laws of the Lean functions. -/
import Derived.Test.YtfajigbmoebkaaaGreatT2

namespace Go.Sx
set_option linter.unusedVariables false
set_option linter.unusedSimpArgs false
def Wct (v:Int):Bool:=decide (0 ≤ v) && decide (v ≤ 65535)
theorem Wgl {N:Nat} {x a b:Int}:Zbn N x a b = ret (decide (a ≤ x) && decide (x ≤ b)):=by
 unfold Zbn
 by_cases h:a ≤ x <;> simp [h]
theorem Wk {N:Nat} {x a b:Int}:Zm N x a b = ret (decide (a ≤ x) && decide (x ≤ b)):=by
 unfold Zm
 by_cases h:a ≤ x <;> simp [h]
theorem Weu {α:Type} {p:α → Bool} (l:List α):(l.any fun x=>!p x) = !l.all p:=by
 induction l with
 | nil=>rfl
 | cons x l ih=>simp [ih,Bool.not_and]
abbrev Rw:=Int × Int
def Way (v:Int):Bool:=decide (0 ≤ v) && decide (v ≤ 7)
def isRow (r:Rw):Bool:=Way r.1 && Wct r.2
def Wcn (l:List Rw):Bool:=decide (l.length ≤ 300) && l.all isRow
def Wiq (l:List Int):Bool:=decide (l.length = 8) && l.all Wct
theorem Wah {N:Nat} {v:Int}:Zhp N v = ret (Wct v):=by
 unfold Zhp; simp only [Wgl,ret,Option.bind_some]; rfl
theorem Wl {N:Nat} {v:Int}:Zaz N v = ret (Wct v):=by
 unfold Zaz; simp only [Wk,ret,Option.bind_some]; rfl
theorem Wag {N:Nat} {v:Int}:Zg7 N v = ret (Way v):=by
 unfold Zg7; simp only [Wgl,ret,Option.bind_some]; rfl
theorem Wj {N:Nat} {v:Int}:Zba N v = ret (Way v):=by
 unfold Zba; simp only [Wk,ret,Option.bind_some]; rfl
theorem Wzg {N:Nat} {l:List Int} (hl:l.length ≤ 1048576) (hN:1048576 < N):Zf3 N l = ret (Wiq l):=by
 unfold Zf3 Wiq
 by_cases h:l.length = 8
 ·have e:(ilen l != 8) = false:=by simp [ilen,h]
  rw [e]
  simp only [cond_false]
  have h1:=Wad (l:=l) (V:=Unit) (R:=Unit × (Bool × Unit)) (lp:=fun n j v=>Zda N l (some ((),(false,()))) (fun i8 t9=>some ((),(true,()))) n j) (n:=N) (by omega)
   (body:=fun j x v k=>bif !Wct x then some ((),(false,())) else k v) (K:=fun _ v=>some ((),(true,())))
   (fun n i v hi=>by simp only [Zda,Wba hi,Wp hi,Wu hi,Wi (show i < 4611686018427387904 by omega),cond_true,Wah,ret,Option.bind_some])
   (fun n v=>by simp only [Zda,Wbj (Nat.le_refl l.length),cond_false]) ()
  refine h1.trans ?_
  rw [Wbm (p:=fun x=>!Wct x) (E:=fun _=>some ((),(false,()))) l 0 () (fun j x v k _=>rfl),Weu]
  cases l.all Wct <;> simp [h]
 ·have e:(ilen l != 8) = true:=by simp [ilen]; omega
  rw [e]
  simp [h]
theorem Wob {N:Nat} {l:List Int} (hl:l.length ≤ 1048576) (hN:1048576 < N):Zac N l 8 = ret (Wiq l):=by
 unfold Zac Wiq
 have h1:=Wad (l:=l) (V:=Unit) (R:=Unit × (Bool × Unit)) (lp:=fun n j v=>Za1 N l 8 (some ((),(false,()))) (fun i8 t9=>some ((),((ilen l) == (8:Int),()))) n j) (n:=N) (by omega)
  (body:=fun j x v k=>bif !Wct x then some ((),(false,())) else k v) (K:=fun _ v=>some ((),((ilen l) == (8:Int),())))
  (fun n i v hi=>by simp only [Za1,Wba hi,Wp hi,Wu hi,Wi (show i < 4611686018427387904 by omega),cond_true,Wl,ret,Option.bind_some])
  (fun n v=>by simp only [Za1,Wbj (Nat.le_refl l.length),cond_false]) ()
 refine h1.trans ?_
 rw [Wbm (p:=fun x=>!Wct x) (E:=fun _=>some ((),(false,()))) l 0 () (fun j x v k _=>rfl),Weu]
 have e:((ilen l) == (8:Int)) = decide (l.length = 8):=by
  by_cases h:l.length = 8
  ·simp [ilen,h]
  ·simp [ilen,h]; omega
 rw [e]
 cases l.all Wct <;> simp
theorem Wen {N:Nat} {l:List Rw} (hl:l.length ≤ 1048576) (hN:1048576 < N):Zbz N l = ret (Wcn l):=by
 unfold Zbz Wcn
 have h1:=Wad (l:=l) (V:=Unit) (R:=Unit × (Bool × Unit)) (lp:=fun n j v=>Zdb N l (some ((),(false,()))) (fun i8 t9=>some ((),(decide ((ilen l) ≤ (300:Int)),()))) n j) (n:=N) (by omega)
  (body:=fun j x v k=>bif !isRow x then some ((),(false,())) else k v) (K:=fun _ v=>some ((),(decide ((ilen l) ≤ (300:Int)),())))
  (fun n i v hi=>by
   simp only [Zdb,Wba hi,Wp hi,Wu hi,Wi (show i < 4611686018427387904 by omega),cond_true,Wl,Wj,ret,Option.bind_some,isRow]
   cases Way l[i].1 <;> rfl)
  (fun n v=>by simp only [Zdb,Wbj (Nat.le_refl l.length),cond_false]) ()
 refine h1.trans ?_
 rw [Wbm (p:=fun x=>!isRow x) (E:=fun _=>some ((),(false,()))) l 0 () (fun j x v k _=>rfl),Weu]
 have e:decide (ilen l ≤ 300) = decide (l.length ≤ 300):=by apply decide_eq_decide.2; simp [ilen]; omega
 rw [e]
 cases l.all isRow <;> simp
theorem room_300 {α:Type} {l:List α} (h:l.length ≤ 1048576):room l.length = true:=by unfold room; simp; omega
end Go.Sx
