/- Plain laws of the Lean functions. -/
import Derived.Test.YtceckfecihemnaaMS1CorA

namespace Go.Sx
set_option linter.unusedVariables false
set_option linter.unusedSimpArgs false
abbrev Opn := Int × Int × Int × Int
def isReg (v : Int) : Bool := decide (0 ≤ v) && decide (v ≤ 3)
def isKey (v : Int) : Bool := decide (0 ≤ v) && decide (v ≤ 7)
theorem specReg_run {N : Nat} {v : Int} : Za N v = ret (isReg v) := by
  unfold Za; simp only [in_eq, ret, Option.bind_some]; rfl
theorem implReg_run {N : Nat} {v : Int} : Zb N v = ret (isReg v) := by
  unfold Zb; simp only [within_eq, ret, Option.bind_some]; rfl
theorem implKey_run {N : Nat} {v : Int} : Zf N v = ret (isKey v) := by
  unfold Zf; simp only [within_eq, ret, Option.bind_some]; rfl
theorem keyIn {v : Int} : (decide ((0 : Int) ≤ v) && decide (v ≤ 7)) = isKey v := rfl
def opOk (o : Opn) : Bool :=
  bif o.1 == 1 then isReg o.2.1 && isVal o.2.2.1 && (o.2.2.2 == (0 : Int)) else
  bif o.1 == 2 then isReg o.2.1 && isReg o.2.2.1 && isReg o.2.2.2 else
  bif o.1 == 3 then isReg o.2.1 && isReg o.2.2.1 && isReg o.2.2.2 else
  bif o.1 == 4 then isReg o.2.1 && isReg o.2.2.1 && isReg o.2.2.2 else
  bif o.1 == 5 then isReg o.2.1 && isCell o.2.2.1 && (o.2.2.2 == (0 : Int)) else
  bif o.1 == 6 then isCell o.2.1 && isReg o.2.2.1 && (o.2.2.2 == (0 : Int)) else
  bif o.1 == 7 then isReg o.2.1 && (decide (1 ≤ o.2.2.1) && decide (o.2.2.1 ≤ 20)) && (o.2.2.2 == (0 : Int)) else
  bif o.1 == 8 then isReg o.2.1 && (o.2.2.1 == (0 : Int)) && (o.2.2.2 == (0 : Int)) else
  bif o.1 == 9 then (o.2.1 == (0 : Int)) && (o.2.2.1 == (0 : Int)) && (o.2.2.2 == (0 : Int)) else
  bif o.1 == 10 then (o.2.1 == (0 : Int)) && (o.2.2.1 == (0 : Int)) && (o.2.2.2 == (0 : Int)) else
  bif o.1 == 11 then (o.2.1 == (0 : Int)) && (o.2.2.1 == (0 : Int)) && (o.2.2.2 == (0 : Int)) else
  bif o.1 == 12 then isKey o.2.1 && isReg o.2.2.1 && isReg o.2.2.2 else
  bif o.1 == 13 then isReg o.2.1 && isKey o.2.2.1 && (o.2.2.2 == (0 : Int)) else
  bif o.1 == 14 then isKey o.2.1 && isReg o.2.2.1 && (o.2.2.2 == (0 : Int)) else
  bif o.1 == 15 then isReg o.2.1 && (o.2.2.1 == (0 : Int)) && (o.2.2.2 == (0 : Int)) else
  bif o.1 == 16 then isReg o.2.1 && (o.2.2.1 == (0 : Int)) && (o.2.2.2 == (0 : Int)) else
  false
theorem specOp_1 {N : Nat} {a b c : Int} : Zj N (1, a, b, c) = ret (opOk (1, a, b, c)) := by
  have h : Zj N (1, a, b, c) = ((Za N a).bind fun o => bif o.2.1 then ((Zcu N b).bind fun o => bif o.2.1 then some ((), (c == (0 : Int), ())) else some ((), (false, ()))) else some ((), (false, ()))) := by kernel_rfl
  have h2 : opOk (1, a, b, c) = (isReg a && isVal b && (c == (0 : Int))) := rfl
  rw [h, h2]
  simp only [specReg_run, specVal_run, specCell_run, in_eq, keyIn, ret, Option.bind_some]
  cases isReg a <;> cases isVal b <;> rfl
theorem specOp_2 {N : Nat} {a b c : Int} : Zj N (2, a, b, c) = ret (opOk (2, a, b, c)) := by
  have h : Zj N (2, a, b, c) = ((Za N a).bind fun o => bif o.2.1 then ((Za N b).bind fun o => bif o.2.1 then ((Za N c).bind fun o => some ((), (o.2.1, ()))) else some ((), (false, ()))) else some ((), (false, ()))) := by kernel_rfl
  have h2 : opOk (2, a, b, c) = (isReg a && isReg b && isReg c) := rfl
  rw [h, h2]
  simp only [specReg_run, specVal_run, specCell_run, in_eq, keyIn, ret, Option.bind_some]
  cases isReg a <;> cases isReg b <;> rfl
theorem specOp_3 {N : Nat} {a b c : Int} : Zj N (3, a, b, c) = ret (opOk (3, a, b, c)) := by
  have h : Zj N (3, a, b, c) = ((Za N a).bind fun o => bif o.2.1 then ((Za N b).bind fun o => bif o.2.1 then ((Za N c).bind fun o => some ((), (o.2.1, ()))) else some ((), (false, ()))) else some ((), (false, ()))) := by kernel_rfl
  have h2 : opOk (3, a, b, c) = (isReg a && isReg b && isReg c) := rfl
  rw [h, h2]
  simp only [specReg_run, specVal_run, specCell_run, in_eq, keyIn, ret, Option.bind_some]
  cases isReg a <;> cases isReg b <;> rfl
theorem specOp_4 {N : Nat} {a b c : Int} : Zj N (4, a, b, c) = ret (opOk (4, a, b, c)) := by
  have h : Zj N (4, a, b, c) = ((Za N a).bind fun o => bif o.2.1 then ((Za N b).bind fun o => bif o.2.1 then ((Za N c).bind fun o => some ((), (o.2.1, ()))) else some ((), (false, ()))) else some ((), (false, ()))) := by kernel_rfl
  have h2 : opOk (4, a, b, c) = (isReg a && isReg b && isReg c) := rfl
  rw [h, h2]
  simp only [specReg_run, specVal_run, specCell_run, in_eq, keyIn, ret, Option.bind_some]
  cases isReg a <;> cases isReg b <;> rfl
theorem specOp_5 {N : Nat} {a b c : Int} : Zj N (5, a, b, c) = ret (opOk (5, a, b, c)) := by
  have h : Zj N (5, a, b, c) = ((Za N a).bind fun o => bif o.2.1 then ((Zaa N b).bind fun o => bif o.2.1 then some ((), (c == (0 : Int), ())) else some ((), (false, ()))) else some ((), (false, ()))) := by kernel_rfl
  have h2 : opOk (5, a, b, c) = (isReg a && isCell b && (c == (0 : Int))) := rfl
  rw [h, h2]
  simp only [specReg_run, specVal_run, specCell_run, in_eq, keyIn, ret, Option.bind_some]
  cases isReg a <;> cases isCell b <;> rfl
theorem specOp_6 {N : Nat} {a b c : Int} : Zj N (6, a, b, c) = ret (opOk (6, a, b, c)) := by
  have h : Zj N (6, a, b, c) = ((Zaa N a).bind fun o => bif o.2.1 then ((Za N b).bind fun o => bif o.2.1 then some ((), (c == (0 : Int), ())) else some ((), (false, ()))) else some ((), (false, ()))) := by kernel_rfl
  have h2 : opOk (6, a, b, c) = (isCell a && isReg b && (c == (0 : Int))) := rfl
  rw [h, h2]
  simp only [specReg_run, specVal_run, specCell_run, in_eq, keyIn, ret, Option.bind_some]
  cases isCell a <;> cases isReg b <;> rfl
theorem specOp_7 {N : Nat} {a b c : Int} : Zj N (7, a, b, c) = ret (opOk (7, a, b, c)) := by
  have h : Zj N (7, a, b, c) = ((Za N a).bind fun o => bif o.2.1 then ((Zd N b 1 20).bind fun o => bif o.2.1 then some ((), (c == (0 : Int), ())) else some ((), (false, ()))) else some ((), (false, ()))) := by kernel_rfl
  have h2 : opOk (7, a, b, c) = (isReg a && (decide (1 ≤ b) && decide (b ≤ 20)) && (c == (0 : Int))) := rfl
  rw [h, h2]
  simp only [specReg_run, specVal_run, specCell_run, in_eq, keyIn, ret, Option.bind_some]
  cases isReg a <;> cases (decide (1 ≤ b) && decide (b ≤ 20)) <;> rfl
theorem specOp_8 {N : Nat} {a b c : Int} : Zj N (8, a, b, c) = ret (opOk (8, a, b, c)) := by
  have h : Zj N (8, a, b, c) = ((Za N a).bind fun o => bif o.2.1 then (bif b == (0 : Int) then some ((), (c == (0 : Int), ())) else some ((), (false, ()))) else some ((), (false, ()))) := by kernel_rfl
  have h2 : opOk (8, a, b, c) = (isReg a && (b == (0 : Int)) && (c == (0 : Int))) := rfl
  rw [h, h2]
  simp only [specReg_run, specVal_run, specCell_run, in_eq, keyIn, ret, Option.bind_some]
  cases isReg a <;> cases (b == (0 : Int)) <;> rfl
theorem specOp_9 {N : Nat} {a b c : Int} : Zj N (9, a, b, c) = ret (opOk (9, a, b, c)) := by
  have h : Zj N (9, a, b, c) = (bif a == (0 : Int) then (bif b == (0 : Int) then some ((), (c == (0 : Int), ())) else some ((), (false, ()))) else some ((), (false, ()))) := by kernel_rfl
  have h2 : opOk (9, a, b, c) = ((a == (0 : Int)) && (b == (0 : Int)) && (c == (0 : Int))) := rfl
  rw [h, h2]
  simp only [specReg_run, specVal_run, specCell_run, in_eq, keyIn, ret, Option.bind_some]
  cases (a == (0 : Int)) <;> cases (b == (0 : Int)) <;> rfl
theorem specOp_10 {N : Nat} {a b c : Int} : Zj N (10, a, b, c) = ret (opOk (10, a, b, c)) := by
  have h : Zj N (10, a, b, c) = (bif a == (0 : Int) then (bif b == (0 : Int) then some ((), (c == (0 : Int), ())) else some ((), (false, ()))) else some ((), (false, ()))) := by kernel_rfl
  have h2 : opOk (10, a, b, c) = ((a == (0 : Int)) && (b == (0 : Int)) && (c == (0 : Int))) := rfl
  rw [h, h2]
  simp only [specReg_run, specVal_run, specCell_run, in_eq, keyIn, ret, Option.bind_some]
  cases (a == (0 : Int)) <;> cases (b == (0 : Int)) <;> rfl
theorem specOp_11 {N : Nat} {a b c : Int} : Zj N (11, a, b, c) = ret (opOk (11, a, b, c)) := by
  have h : Zj N (11, a, b, c) = (bif a == (0 : Int) then (bif b == (0 : Int) then some ((), (c == (0 : Int), ())) else some ((), (false, ()))) else some ((), (false, ()))) := by kernel_rfl
  have h2 : opOk (11, a, b, c) = ((a == (0 : Int)) && (b == (0 : Int)) && (c == (0 : Int))) := rfl
  rw [h, h2]
  simp only [specReg_run, specVal_run, specCell_run, in_eq, keyIn, ret, Option.bind_some]
  cases (a == (0 : Int)) <;> cases (b == (0 : Int)) <;> rfl
theorem specOp_12 {N : Nat} {a b c : Int} : Zj N (12, a, b, c) = ret (opOk (12, a, b, c)) := by
  have h : Zj N (12, a, b, c) = ((Zd N a 0 7).bind fun o => bif o.2.1 then ((Za N b).bind fun o => bif o.2.1 then ((Za N c).bind fun o => some ((), (o.2.1, ()))) else some ((), (false, ()))) else some ((), (false, ()))) := by kernel_rfl
  have h2 : opOk (12, a, b, c) = (isKey a && isReg b && isReg c) := rfl
  rw [h, h2]
  simp only [specReg_run, specVal_run, specCell_run, in_eq, keyIn, ret, Option.bind_some]
  cases isKey a <;> cases isReg b <;> rfl
theorem specOp_13 {N : Nat} {a b c : Int} : Zj N (13, a, b, c) = ret (opOk (13, a, b, c)) := by
  have h : Zj N (13, a, b, c) = ((Za N a).bind fun o => bif o.2.1 then ((Zd N b 0 7).bind fun o => bif o.2.1 then some ((), (c == (0 : Int), ())) else some ((), (false, ()))) else some ((), (false, ()))) := by kernel_rfl
  have h2 : opOk (13, a, b, c) = (isReg a && isKey b && (c == (0 : Int))) := rfl
  rw [h, h2]
  simp only [specReg_run, specVal_run, specCell_run, in_eq, keyIn, ret, Option.bind_some]
  cases isReg a <;> cases isKey b <;> rfl
theorem specOp_14 {N : Nat} {a b c : Int} : Zj N (14, a, b, c) = ret (opOk (14, a, b, c)) := by
  have h : Zj N (14, a, b, c) = ((Zd N a 0 7).bind fun o => bif o.2.1 then ((Za N b).bind fun o => bif o.2.1 then some ((), (c == (0 : Int), ())) else some ((), (false, ()))) else some ((), (false, ()))) := by kernel_rfl
  have h2 : opOk (14, a, b, c) = (isKey a && isReg b && (c == (0 : Int))) := rfl
  rw [h, h2]
  simp only [specReg_run, specVal_run, specCell_run, in_eq, keyIn, ret, Option.bind_some]
  cases isKey a <;> cases isReg b <;> rfl
theorem specOp_15 {N : Nat} {a b c : Int} : Zj N (15, a, b, c) = ret (opOk (15, a, b, c)) := by
  have h : Zj N (15, a, b, c) = ((Za N a).bind fun o => bif o.2.1 then (bif b == (0 : Int) then some ((), (c == (0 : Int), ())) else some ((), (false, ()))) else some ((), (false, ()))) := by kernel_rfl
  have h2 : opOk (15, a, b, c) = (isReg a && (b == (0 : Int)) && (c == (0 : Int))) := rfl
  rw [h, h2]
  simp only [specReg_run, specVal_run, specCell_run, in_eq, keyIn, ret, Option.bind_some]
  cases isReg a <;> cases (b == (0 : Int)) <;> rfl
theorem specOp_16 {N : Nat} {a b c : Int} : Zj N (16, a, b, c) = ret (opOk (16, a, b, c)) := by
  have h : Zj N (16, a, b, c) = ((Za N a).bind fun o => bif o.2.1 then (bif b == (0 : Int) then some ((), (c == (0 : Int), ())) else some ((), (false, ()))) else some ((), (false, ()))) := by kernel_rfl
  have h2 : opOk (16, a, b, c) = (isReg a && (b == (0 : Int)) && (c == (0 : Int))) := rfl
  rw [h, h2]
  simp only [specReg_run, specVal_run, specCell_run, in_eq, keyIn, ret, Option.bind_some]
  cases isReg a <;> cases (b == (0 : Int)) <;> rfl
theorem specOp_run {N : Nat} {o : Opn} : Zj N o = ret (opOk o) := by
  obtain ⟨k, a, b, c⟩ := o
  by_cases h1 : k = 1
  · subst h1; exact specOp_1
  by_cases h2 : k = 2
  · subst h2; exact specOp_2
  by_cases h3 : k = 3
  · subst h3; exact specOp_3
  by_cases h4 : k = 4
  · subst h4; exact specOp_4
  by_cases h5 : k = 5
  · subst h5; exact specOp_5
  by_cases h6 : k = 6
  · subst h6; exact specOp_6
  by_cases h7 : k = 7
  · subst h7; exact specOp_7
  by_cases h8 : k = 8
  · subst h8; exact specOp_8
  by_cases h9 : k = 9
  · subst h9; exact specOp_9
  by_cases h10 : k = 10
  · subst h10; exact specOp_10
  by_cases h11 : k = 11
  · subst h11; exact specOp_11
  by_cases h12 : k = 12
  · subst h12; exact specOp_12
  by_cases h13 : k = 13
  · subst h13; exact specOp_13
  by_cases h14 : k = 14
  · subst h14; exact specOp_14
  by_cases h15 : k = 15
  · subst h15; exact specOp_15
  by_cases h16 : k = 16
  · subst h16; exact specOp_16
  have e1 : (k == (1 : Int)) = false := by simpa using h1
  have e2 : (k == (2 : Int)) = false := by simpa using h2
  have e3 : (k == (3 : Int)) = false := by simpa using h3
  have e4 : (k == (4 : Int)) = false := by simpa using h4
  have e5 : (k == (5 : Int)) = false := by simpa using h5
  have e6 : (k == (6 : Int)) = false := by simpa using h6
  have e7 : (k == (7 : Int)) = false := by simpa using h7
  have e8 : (k == (8 : Int)) = false := by simpa using h8
  have e9 : (k == (9 : Int)) = false := by simpa using h9
  have e10 : (k == (10 : Int)) = false := by simpa using h10
  have e11 : (k == (11 : Int)) = false := by simpa using h11
  have e12 : (k == (12 : Int)) = false := by simpa using h12
  have e13 : (k == (13 : Int)) = false := by simpa using h13
  have e14 : (k == (14 : Int)) = false := by simpa using h14
  have e15 : (k == (15 : Int)) = false := by simpa using h15
  have e16 : (k == (16 : Int)) = false := by simpa using h16
  unfold Zj opOk
  simp only []
  rw [e1, e2, e3, e4, e5, e6, e7, e8, e9, e10, e11, e12, e13, e14, e15, e16]
  rfl
theorem implOp_1 {N : Nat} {a b c : Int} : Zk N (1, a, b, c) = ret (opOk (1, a, b, c)) := by
  have h : Zk N (1, a, b, c) = ((Zb N a).bind fun o => bif o.2.1 then ((Zbv N b).bind fun o => bif o.2.1 then some ((), (c == (0 : Int), ())) else some ((), (false, ()))) else some ((), (false, ()))) := by kernel_rfl
  have h2 : opOk (1, a, b, c) = (isReg a && isVal b && (c == (0 : Int))) := rfl
  rw [h, h2]
  simp only [implReg_run, implVal_run, implCell_run, implKey_run, within_eq, keyIn, ret, Option.bind_some]
  cases isReg a <;> cases isVal b <;> rfl
theorem implOp_2 {N : Nat} {a b c : Int} : Zk N (2, a, b, c) = ret (opOk (2, a, b, c)) := by
  have h : Zk N (2, a, b, c) = ((Zb N a).bind fun o => bif o.2.1 then ((Zb N b).bind fun o => bif o.2.1 then ((Zb N c).bind fun o => some ((), (o.2.1, ()))) else some ((), (false, ()))) else some ((), (false, ()))) := by kernel_rfl
  have h2 : opOk (2, a, b, c) = (isReg a && isReg b && isReg c) := rfl
  rw [h, h2]
  simp only [implReg_run, implVal_run, implCell_run, implKey_run, within_eq, keyIn, ret, Option.bind_some]
  cases isReg a <;> cases isReg b <;> rfl
theorem implOp_3 {N : Nat} {a b c : Int} : Zk N (3, a, b, c) = ret (opOk (3, a, b, c)) := by
  have h : Zk N (3, a, b, c) = ((Zb N a).bind fun o => bif o.2.1 then ((Zb N b).bind fun o => bif o.2.1 then ((Zb N c).bind fun o => some ((), (o.2.1, ()))) else some ((), (false, ()))) else some ((), (false, ()))) := by kernel_rfl
  have h2 : opOk (3, a, b, c) = (isReg a && isReg b && isReg c) := rfl
  rw [h, h2]
  simp only [implReg_run, implVal_run, implCell_run, implKey_run, within_eq, keyIn, ret, Option.bind_some]
  cases isReg a <;> cases isReg b <;> rfl
theorem implOp_4 {N : Nat} {a b c : Int} : Zk N (4, a, b, c) = ret (opOk (4, a, b, c)) := by
  have h : Zk N (4, a, b, c) = ((Zb N a).bind fun o => bif o.2.1 then ((Zb N b).bind fun o => bif o.2.1 then ((Zb N c).bind fun o => some ((), (o.2.1, ()))) else some ((), (false, ()))) else some ((), (false, ()))) := by kernel_rfl
  have h2 : opOk (4, a, b, c) = (isReg a && isReg b && isReg c) := rfl
  rw [h, h2]
  simp only [implReg_run, implVal_run, implCell_run, implKey_run, within_eq, keyIn, ret, Option.bind_some]
  cases isReg a <;> cases isReg b <;> rfl
theorem implOp_5 {N : Nat} {a b c : Int} : Zk N (5, a, b, c) = ret (opOk (5, a, b, c)) := by
  have h : Zk N (5, a, b, c) = ((Zb N a).bind fun o => bif o.2.1 then ((Zab N b).bind fun o => bif o.2.1 then some ((), (c == (0 : Int), ())) else some ((), (false, ()))) else some ((), (false, ()))) := by kernel_rfl
  have h2 : opOk (5, a, b, c) = (isReg a && isCell b && (c == (0 : Int))) := rfl
  rw [h, h2]
  simp only [implReg_run, implVal_run, implCell_run, implKey_run, within_eq, keyIn, ret, Option.bind_some]
  cases isReg a <;> cases isCell b <;> rfl
theorem implOp_6 {N : Nat} {a b c : Int} : Zk N (6, a, b, c) = ret (opOk (6, a, b, c)) := by
  have h : Zk N (6, a, b, c) = ((Zab N a).bind fun o => bif o.2.1 then ((Zb N b).bind fun o => bif o.2.1 then some ((), (c == (0 : Int), ())) else some ((), (false, ()))) else some ((), (false, ()))) := by kernel_rfl
  have h2 : opOk (6, a, b, c) = (isCell a && isReg b && (c == (0 : Int))) := rfl
  rw [h, h2]
  simp only [implReg_run, implVal_run, implCell_run, implKey_run, within_eq, keyIn, ret, Option.bind_some]
  cases isCell a <;> cases isReg b <;> rfl
theorem implOp_7 {N : Nat} {a b c : Int} : Zk N (7, a, b, c) = ret (opOk (7, a, b, c)) := by
  have h : Zk N (7, a, b, c) = ((Zb N a).bind fun o => bif o.2.1 then ((Zy N b 1 20).bind fun o => bif o.2.1 then some ((), (c == (0 : Int), ())) else some ((), (false, ()))) else some ((), (false, ()))) := by kernel_rfl
  have h2 : opOk (7, a, b, c) = (isReg a && (decide (1 ≤ b) && decide (b ≤ 20)) && (c == (0 : Int))) := rfl
  rw [h, h2]
  simp only [implReg_run, implVal_run, implCell_run, implKey_run, within_eq, keyIn, ret, Option.bind_some]
  cases isReg a <;> cases (decide (1 ≤ b) && decide (b ≤ 20)) <;> rfl
theorem implOp_8 {N : Nat} {a b c : Int} : Zk N (8, a, b, c) = ret (opOk (8, a, b, c)) := by
  have h : Zk N (8, a, b, c) = ((Zb N a).bind fun o => bif o.2.1 then (bif b == (0 : Int) then some ((), (c == (0 : Int), ())) else some ((), (false, ()))) else some ((), (false, ()))) := by kernel_rfl
  have h2 : opOk (8, a, b, c) = (isReg a && (b == (0 : Int)) && (c == (0 : Int))) := rfl
  rw [h, h2]
  simp only [implReg_run, implVal_run, implCell_run, implKey_run, within_eq, keyIn, ret, Option.bind_some]
  cases isReg a <;> cases (b == (0 : Int)) <;> rfl
theorem implOp_9 {N : Nat} {a b c : Int} : Zk N (9, a, b, c) = ret (opOk (9, a, b, c)) := by
  have h : Zk N (9, a, b, c) = (bif a == (0 : Int) then (bif b == (0 : Int) then some ((), (c == (0 : Int), ())) else some ((), (false, ()))) else some ((), (false, ()))) := by kernel_rfl
  have h2 : opOk (9, a, b, c) = ((a == (0 : Int)) && (b == (0 : Int)) && (c == (0 : Int))) := rfl
  rw [h, h2]
  simp only [implReg_run, implVal_run, implCell_run, implKey_run, within_eq, keyIn, ret, Option.bind_some]
  cases (a == (0 : Int)) <;> cases (b == (0 : Int)) <;> rfl
theorem implOp_10 {N : Nat} {a b c : Int} : Zk N (10, a, b, c) = ret (opOk (10, a, b, c)) := by
  have h : Zk N (10, a, b, c) = (bif a == (0 : Int) then (bif b == (0 : Int) then some ((), (c == (0 : Int), ())) else some ((), (false, ()))) else some ((), (false, ()))) := by kernel_rfl
  have h2 : opOk (10, a, b, c) = ((a == (0 : Int)) && (b == (0 : Int)) && (c == (0 : Int))) := rfl
  rw [h, h2]
  simp only [implReg_run, implVal_run, implCell_run, implKey_run, within_eq, keyIn, ret, Option.bind_some]
  cases (a == (0 : Int)) <;> cases (b == (0 : Int)) <;> rfl
theorem implOp_11 {N : Nat} {a b c : Int} : Zk N (11, a, b, c) = ret (opOk (11, a, b, c)) := by
  have h : Zk N (11, a, b, c) = (bif a == (0 : Int) then (bif b == (0 : Int) then some ((), (c == (0 : Int), ())) else some ((), (false, ()))) else some ((), (false, ()))) := by kernel_rfl
  have h2 : opOk (11, a, b, c) = ((a == (0 : Int)) && (b == (0 : Int)) && (c == (0 : Int))) := rfl
  rw [h, h2]
  simp only [implReg_run, implVal_run, implCell_run, implKey_run, within_eq, keyIn, ret, Option.bind_some]
  cases (a == (0 : Int)) <;> cases (b == (0 : Int)) <;> rfl
theorem implOp_12 {N : Nat} {a b c : Int} : Zk N (12, a, b, c) = ret (opOk (12, a, b, c)) := by
  have h : Zk N (12, a, b, c) = ((Zf N a).bind fun o => bif o.2.1 then ((Zb N b).bind fun o => bif o.2.1 then ((Zb N c).bind fun o => some ((), (o.2.1, ()))) else some ((), (false, ()))) else some ((), (false, ()))) := by kernel_rfl
  have h2 : opOk (12, a, b, c) = (isKey a && isReg b && isReg c) := rfl
  rw [h, h2]
  simp only [implReg_run, implVal_run, implCell_run, implKey_run, within_eq, keyIn, ret, Option.bind_some]
  cases isKey a <;> cases isReg b <;> rfl
theorem implOp_13 {N : Nat} {a b c : Int} : Zk N (13, a, b, c) = ret (opOk (13, a, b, c)) := by
  have h : Zk N (13, a, b, c) = ((Zb N a).bind fun o => bif o.2.1 then ((Zf N b).bind fun o => bif o.2.1 then some ((), (c == (0 : Int), ())) else some ((), (false, ()))) else some ((), (false, ()))) := by kernel_rfl
  have h2 : opOk (13, a, b, c) = (isReg a && isKey b && (c == (0 : Int))) := rfl
  rw [h, h2]
  simp only [implReg_run, implVal_run, implCell_run, implKey_run, within_eq, keyIn, ret, Option.bind_some]
  cases isReg a <;> cases isKey b <;> rfl
theorem implOp_14 {N : Nat} {a b c : Int} : Zk N (14, a, b, c) = ret (opOk (14, a, b, c)) := by
  have h : Zk N (14, a, b, c) = ((Zf N a).bind fun o => bif o.2.1 then ((Zb N b).bind fun o => bif o.2.1 then some ((), (c == (0 : Int), ())) else some ((), (false, ()))) else some ((), (false, ()))) := by kernel_rfl
  have h2 : opOk (14, a, b, c) = (isKey a && isReg b && (c == (0 : Int))) := rfl
  rw [h, h2]
  simp only [implReg_run, implVal_run, implCell_run, implKey_run, within_eq, keyIn, ret, Option.bind_some]
  cases isKey a <;> cases isReg b <;> rfl
theorem implOp_15 {N : Nat} {a b c : Int} : Zk N (15, a, b, c) = ret (opOk (15, a, b, c)) := by
  have h : Zk N (15, a, b, c) = ((Zb N a).bind fun o => bif o.2.1 then (bif b == (0 : Int) then some ((), (c == (0 : Int), ())) else some ((), (false, ()))) else some ((), (false, ()))) := by kernel_rfl
  have h2 : opOk (15, a, b, c) = (isReg a && (b == (0 : Int)) && (c == (0 : Int))) := rfl
  rw [h, h2]
  simp only [implReg_run, implVal_run, implCell_run, implKey_run, within_eq, keyIn, ret, Option.bind_some]
  cases isReg a <;> cases (b == (0 : Int)) <;> rfl
theorem implOp_16 {N : Nat} {a b c : Int} : Zk N (16, a, b, c) = ret (opOk (16, a, b, c)) := by
  have h : Zk N (16, a, b, c) = ((Zb N a).bind fun o => bif o.2.1 then (bif b == (0 : Int) then some ((), (c == (0 : Int), ())) else some ((), (false, ()))) else some ((), (false, ()))) := by kernel_rfl
  have h2 : opOk (16, a, b, c) = (isReg a && (b == (0 : Int)) && (c == (0 : Int))) := rfl
  rw [h, h2]
  simp only [implReg_run, implVal_run, implCell_run, implKey_run, within_eq, keyIn, ret, Option.bind_some]
  cases isReg a <;> cases (b == (0 : Int)) <;> rfl
theorem implOp_run {N : Nat} {o : Opn} : Zk N o = ret (opOk o) := by
  obtain ⟨k, a, b, c⟩ := o
  by_cases h1 : k = 1
  · subst h1; exact implOp_1
  by_cases h2 : k = 2
  · subst h2; exact implOp_2
  by_cases h3 : k = 3
  · subst h3; exact implOp_3
  by_cases h4 : k = 4
  · subst h4; exact implOp_4
  by_cases h5 : k = 5
  · subst h5; exact implOp_5
  by_cases h6 : k = 6
  · subst h6; exact implOp_6
  by_cases h7 : k = 7
  · subst h7; exact implOp_7
  by_cases h8 : k = 8
  · subst h8; exact implOp_8
  by_cases h9 : k = 9
  · subst h9; exact implOp_9
  by_cases h10 : k = 10
  · subst h10; exact implOp_10
  by_cases h11 : k = 11
  · subst h11; exact implOp_11
  by_cases h12 : k = 12
  · subst h12; exact implOp_12
  by_cases h13 : k = 13
  · subst h13; exact implOp_13
  by_cases h14 : k = 14
  · subst h14; exact implOp_14
  by_cases h15 : k = 15
  · subst h15; exact implOp_15
  by_cases h16 : k = 16
  · subst h16; exact implOp_16
  have e1 : (k == (1 : Int)) = false := by simpa using h1
  have e2 : (k == (2 : Int)) = false := by simpa using h2
  have e3 : (k == (3 : Int)) = false := by simpa using h3
  have e4 : (k == (4 : Int)) = false := by simpa using h4
  have e5 : (k == (5 : Int)) = false := by simpa using h5
  have e6 : (k == (6 : Int)) = false := by simpa using h6
  have e7 : (k == (7 : Int)) = false := by simpa using h7
  have e8 : (k == (8 : Int)) = false := by simpa using h8
  have e9 : (k == (9 : Int)) = false := by simpa using h9
  have e10 : (k == (10 : Int)) = false := by simpa using h10
  have e11 : (k == (11 : Int)) = false := by simpa using h11
  have e12 : (k == (12 : Int)) = false := by simpa using h12
  have e13 : (k == (13 : Int)) = false := by simpa using h13
  have e14 : (k == (14 : Int)) = false := by simpa using h14
  have e15 : (k == (15 : Int)) = false := by simpa using h15
  have e16 : (k == (16 : Int)) = false := by simpa using h16
  unfold Zk opOk
  simp only []
  rw [e1, e2, e3, e4, e5, e6, e7, e8, e9, e10, e11, e12, e13, e14, e15, e16]
  rfl
end Go.Sx
