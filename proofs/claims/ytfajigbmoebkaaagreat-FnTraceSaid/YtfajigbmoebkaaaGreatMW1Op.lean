/- Plain laws of the Lean functions. -/
import Derived.Test.YtfajigbmoebkaaaGreatMW1CorA

namespace Go.Sx
set_option linter.unusedVariables false
set_option linter.unusedSimpArgs false
abbrev Opn:=Int × Int × Int × Int
def Wh (v:Int):Bool:=decide (0 ≤ v) && decide (v ≤ 3)
def Wed (v:Int):Bool:=decide (0 ≤ v) && decide (v ≤ 7)
theorem Wak {N:Nat} {v:Int}:Zu N v = ret (Wh v):=by
 unfold Zu; simp only [Wgl,ret,Option.bind_some]; rfl
theorem Waj {N:Nat} {v:Int}:Zv N v = ret (Wh v):=by
 unfold Zv; simp only [Wk,ret,Option.bind_some]; rfl
theorem Wal {N:Nat} {v:Int}:Za3 N v = ret (Wed v):=by
 unfold Za3; simp only [Wk,ret,Option.bind_some]; rfl
theorem Wcx {v:Int}:(decide ((0:Int) ≤ v) && decide (v ≤ 7)) = Wed v:=rfl
def opOk (o:Opn):Bool :=
 bif o.1 == 1 then Wh o.2.1 && Wct o.2.2.1 && (o.2.2.2 == (0:Int)) else
 bif o.1 == 2 then Wh o.2.1 && Wh o.2.2.1 && Wh o.2.2.2 else
 bif o.1 == 3 then Wh o.2.1 && Wh o.2.2.1 && Wh o.2.2.2 else
 bif o.1 == 4 then Wh o.2.1 && Wh o.2.2.1 && Wh o.2.2.2 else
 bif o.1 == 5 then Wh o.2.1 && Way o.2.2.1 && (o.2.2.2 == (0:Int)) else
 bif o.1 == 6 then Way o.2.1 && Wh o.2.2.1 && (o.2.2.2 == (0:Int)) else
 bif o.1 == 7 then Wh o.2.1 && (decide (1 ≤ o.2.2.1) && decide (o.2.2.1 ≤ 20)) && (o.2.2.2 == (0:Int)) else
 bif o.1 == 8 then Wh o.2.1 && (o.2.2.1 == (0:Int)) && (o.2.2.2 == (0:Int)) else
 bif o.1 == 9 then (o.2.1 == (0:Int)) && (o.2.2.1 == (0:Int)) && (o.2.2.2 == (0:Int)) else
 bif o.1 == 10 then (o.2.1 == (0:Int)) && (o.2.2.1 == (0:Int)) && (o.2.2.2 == (0:Int)) else
 bif o.1 == 11 then (o.2.1 == (0:Int)) && (o.2.2.1 == (0:Int)) && (o.2.2.2 == (0:Int)) else
 bif o.1 == 12 then Wed o.2.1 && Wh o.2.2.1 && Wh o.2.2.2 else
 bif o.1 == 13 then Wh o.2.1 && Wed o.2.2.1 && (o.2.2.2 == (0:Int)) else
 bif o.1 == 14 then Wed o.2.1 && Wh o.2.2.1 && (o.2.2.2 == (0:Int)) else
 bif o.1 == 15 then Wh o.2.1 && (o.2.2.1 == (0:Int)) && (o.2.2.2 == (0:Int)) else
 bif o.1 == 16 then Wh o.2.1 && (o.2.2.1 == (0:Int)) && (o.2.2.2 == (0:Int)) else
 false
theorem specOp_1 {N:Nat} {a b c:Int}:Zt N (1,a,b,c) = ret (opOk (1,a,b,c)):=by
 have h:Zt N (1,a,b,c) = ((Zu N a).bind fun o=>bif o.2.1 then ((Zhp N b).bind fun o=>bif o.2.1 then some ((),(c == (0:Int),())) else some ((),(false,()))) else some ((),(false,()))):=by kernel_rfl
 have h2:opOk (1,a,b,c) = (Wh a && Wct b && (c == (0:Int))):=rfl
 rw [h,h2]
 simp only [Wak,Wah,Wag,Wgl,Wcx,ret,Option.bind_some]
 cases Wh a <;> cases Wct b <;> rfl
theorem specOp_2 {N:Nat} {a b c:Int}:Zt N (2,a,b,c) = ret (opOk (2,a,b,c)):=by
 have h:Zt N (2,a,b,c) = ((Zu N a).bind fun o=>bif o.2.1 then ((Zu N b).bind fun o=>bif o.2.1 then ((Zu N c).bind fun o=>some ((),(o.2.1,()))) else some ((),(false,()))) else some ((),(false,()))):=by kernel_rfl
 have h2:opOk (2,a,b,c) = (Wh a && Wh b && Wh c):=rfl
 rw [h,h2]
 simp only [Wak,Wah,Wag,Wgl,Wcx,ret,Option.bind_some]
 cases Wh a <;> cases Wh b <;> rfl
theorem specOp_3 {N:Nat} {a b c:Int}:Zt N (3,a,b,c) = ret (opOk (3,a,b,c)):=by
 have h:Zt N (3,a,b,c) = ((Zu N a).bind fun o=>bif o.2.1 then ((Zu N b).bind fun o=>bif o.2.1 then ((Zu N c).bind fun o=>some ((),(o.2.1,()))) else some ((),(false,()))) else some ((),(false,()))):=by kernel_rfl
 have h2:opOk (3,a,b,c) = (Wh a && Wh b && Wh c):=rfl
 rw [h,h2]
 simp only [Wak,Wah,Wag,Wgl,Wcx,ret,Option.bind_some]
 cases Wh a <;> cases Wh b <;> rfl
theorem specOp_4 {N:Nat} {a b c:Int}:Zt N (4,a,b,c) = ret (opOk (4,a,b,c)):=by
 have h:Zt N (4,a,b,c) = ((Zu N a).bind fun o=>bif o.2.1 then ((Zu N b).bind fun o=>bif o.2.1 then ((Zu N c).bind fun o=>some ((),(o.2.1,()))) else some ((),(false,()))) else some ((),(false,()))):=by kernel_rfl
 have h2:opOk (4,a,b,c) = (Wh a && Wh b && Wh c):=rfl
 rw [h,h2]
 simp only [Wak,Wah,Wag,Wgl,Wcx,ret,Option.bind_some]
 cases Wh a <;> cases Wh b <;> rfl
theorem specOp_5 {N:Nat} {a b c:Int}:Zt N (5,a,b,c) = ret (opOk (5,a,b,c)):=by
 have h:Zt N (5,a,b,c) = ((Zu N a).bind fun o=>bif o.2.1 then ((Zg7 N b).bind fun o=>bif o.2.1 then some ((),(c == (0:Int),())) else some ((),(false,()))) else some ((),(false,()))):=by kernel_rfl
 have h2:opOk (5,a,b,c) = (Wh a && Way b && (c == (0:Int))):=rfl
 rw [h,h2]
 simp only [Wak,Wah,Wag,Wgl,Wcx,ret,Option.bind_some]
 cases Wh a <;> cases Way b <;> rfl
theorem specOp_6 {N:Nat} {a b c:Int}:Zt N (6,a,b,c) = ret (opOk (6,a,b,c)):=by
 have h:Zt N (6,a,b,c) = ((Zg7 N a).bind fun o=>bif o.2.1 then ((Zu N b).bind fun o=>bif o.2.1 then some ((),(c == (0:Int),())) else some ((),(false,()))) else some ((),(false,()))):=by kernel_rfl
 have h2:opOk (6,a,b,c) = (Way a && Wh b && (c == (0:Int))):=rfl
 rw [h,h2]
 simp only [Wak,Wah,Wag,Wgl,Wcx,ret,Option.bind_some]
 cases Way a <;> cases Wh b <;> rfl
theorem specOp_7 {N:Nat} {a b c:Int}:Zt N (7,a,b,c) = ret (opOk (7,a,b,c)):=by
 have h:Zt N (7,a,b,c) = ((Zu N a).bind fun o=>bif o.2.1 then ((Zbn N b 1 20).bind fun o=>bif o.2.1 then some ((),(c == (0:Int),())) else some ((),(false,()))) else some ((),(false,()))):=by kernel_rfl
 have h2:opOk (7,a,b,c) = (Wh a && (decide (1 ≤ b) && decide (b ≤ 20)) && (c == (0:Int))):=rfl
 rw [h,h2]
 simp only [Wak,Wah,Wag,Wgl,Wcx,ret,Option.bind_some]
 cases Wh a <;> cases (decide (1 ≤ b) && decide (b ≤ 20)) <;> rfl
theorem specOp_8 {N:Nat} {a b c:Int}:Zt N (8,a,b,c) = ret (opOk (8,a,b,c)):=by
 have h:Zt N (8,a,b,c) = ((Zu N a).bind fun o=>bif o.2.1 then (bif b == (0:Int) then some ((),(c == (0:Int),())) else some ((),(false,()))) else some ((),(false,()))):=by kernel_rfl
 have h2:opOk (8,a,b,c) = (Wh a && (b == (0:Int)) && (c == (0:Int))):=rfl
 rw [h,h2]
 simp only [Wak,Wah,Wag,Wgl,Wcx,ret,Option.bind_some]
 cases Wh a <;> cases (b == (0:Int)) <;> rfl
theorem specOp_9 {N:Nat} {a b c:Int}:Zt N (9,a,b,c) = ret (opOk (9,a,b,c)):=by
 have h:Zt N (9,a,b,c) = (bif a == (0:Int) then (bif b == (0:Int) then some ((),(c == (0:Int),())) else some ((),(false,()))) else some ((),(false,()))):=by kernel_rfl
 have h2:opOk (9,a,b,c) = ((a == (0:Int)) && (b == (0:Int)) && (c == (0:Int))):=rfl
 rw [h,h2]
 simp only [Wak,Wah,Wag,Wgl,Wcx,ret,Option.bind_some]
 cases (a == (0:Int)) <;> cases (b == (0:Int)) <;> rfl
theorem specOp_10 {N:Nat} {a b c:Int}:Zt N (10,a,b,c) = ret (opOk (10,a,b,c)):=by
 have h:Zt N (10,a,b,c) = (bif a == (0:Int) then (bif b == (0:Int) then some ((),(c == (0:Int),())) else some ((),(false,()))) else some ((),(false,()))):=by kernel_rfl
 have h2:opOk (10,a,b,c) = ((a == (0:Int)) && (b == (0:Int)) && (c == (0:Int))):=rfl
 rw [h,h2]
 simp only [Wak,Wah,Wag,Wgl,Wcx,ret,Option.bind_some]
 cases (a == (0:Int)) <;> cases (b == (0:Int)) <;> rfl
theorem specOp_11 {N:Nat} {a b c:Int}:Zt N (11,a,b,c) = ret (opOk (11,a,b,c)):=by
 have h:Zt N (11,a,b,c) = (bif a == (0:Int) then (bif b == (0:Int) then some ((),(c == (0:Int),())) else some ((),(false,()))) else some ((),(false,()))):=by kernel_rfl
 have h2:opOk (11,a,b,c) = ((a == (0:Int)) && (b == (0:Int)) && (c == (0:Int))):=rfl
 rw [h,h2]
 simp only [Wak,Wah,Wag,Wgl,Wcx,ret,Option.bind_some]
 cases (a == (0:Int)) <;> cases (b == (0:Int)) <;> rfl
theorem specOp_12 {N:Nat} {a b c:Int}:Zt N (12,a,b,c) = ret (opOk (12,a,b,c)):=by
 have h:Zt N (12,a,b,c) = ((Zbn N a 0 7).bind fun o=>bif o.2.1 then ((Zu N b).bind fun o=>bif o.2.1 then ((Zu N c).bind fun o=>some ((),(o.2.1,()))) else some ((),(false,()))) else some ((),(false,()))):=by kernel_rfl
 have h2:opOk (12,a,b,c) = (Wed a && Wh b && Wh c):=rfl
 rw [h,h2]
 simp only [Wak,Wah,Wag,Wgl,Wcx,ret,Option.bind_some]
 cases Wed a <;> cases Wh b <;> rfl
theorem specOp_13 {N:Nat} {a b c:Int}:Zt N (13,a,b,c) = ret (opOk (13,a,b,c)):=by
 have h:Zt N (13,a,b,c) = ((Zu N a).bind fun o=>bif o.2.1 then ((Zbn N b 0 7).bind fun o=>bif o.2.1 then some ((),(c == (0:Int),())) else some ((),(false,()))) else some ((),(false,()))):=by kernel_rfl
 have h2:opOk (13,a,b,c) = (Wh a && Wed b && (c == (0:Int))):=rfl
 rw [h,h2]
 simp only [Wak,Wah,Wag,Wgl,Wcx,ret,Option.bind_some]
 cases Wh a <;> cases Wed b <;> rfl
theorem specOp_14 {N:Nat} {a b c:Int}:Zt N (14,a,b,c) = ret (opOk (14,a,b,c)):=by
 have h:Zt N (14,a,b,c) = ((Zbn N a 0 7).bind fun o=>bif o.2.1 then ((Zu N b).bind fun o=>bif o.2.1 then some ((),(c == (0:Int),())) else some ((),(false,()))) else some ((),(false,()))):=by kernel_rfl
 have h2:opOk (14,a,b,c) = (Wed a && Wh b && (c == (0:Int))):=rfl
 rw [h,h2]
 simp only [Wak,Wah,Wag,Wgl,Wcx,ret,Option.bind_some]
 cases Wed a <;> cases Wh b <;> rfl
theorem specOp_15 {N:Nat} {a b c:Int}:Zt N (15,a,b,c) = ret (opOk (15,a,b,c)):=by
 have h:Zt N (15,a,b,c) = ((Zu N a).bind fun o=>bif o.2.1 then (bif b == (0:Int) then some ((),(c == (0:Int),())) else some ((),(false,()))) else some ((),(false,()))):=by kernel_rfl
 have h2:opOk (15,a,b,c) = (Wh a && (b == (0:Int)) && (c == (0:Int))):=rfl
 rw [h,h2]
 simp only [Wak,Wah,Wag,Wgl,Wcx,ret,Option.bind_some]
 cases Wh a <;> cases (b == (0:Int)) <;> rfl
theorem specOp_16 {N:Nat} {a b c:Int}:Zt N (16,a,b,c) = ret (opOk (16,a,b,c)):=by
 have h:Zt N (16,a,b,c) = ((Zu N a).bind fun o=>bif o.2.1 then (bif b == (0:Int) then some ((),(c == (0:Int),())) else some ((),(false,()))) else some ((),(false,()))):=by kernel_rfl
 have h2:opOk (16,a,b,c) = (Wh a && (b == (0:Int)) && (c == (0:Int))):=rfl
 rw [h,h2]
 simp only [Wak,Wah,Wag,Wgl,Wcx,ret,Option.bind_some]
 cases Wh a <;> cases (b == (0:Int)) <;> rfl
theorem Wgp {N:Nat} {o:Opn}:Zt N o = ret (opOk o):=by
 obtain ⟨k,a,b,c⟩:=o
 by_cases h1:k = 1
 ·subst h1; exact specOp_1
 by_cases h2:k = 2
 ·subst h2; exact specOp_2
 by_cases h3:k = 3
 ·subst h3; exact specOp_3
 by_cases h4:k = 4
 ·subst h4; exact specOp_4
 by_cases h5:k = 5
 ·subst h5; exact specOp_5
 by_cases h6:k = 6
 ·subst h6; exact specOp_6
 by_cases h7:k = 7
 ·subst h7; exact specOp_7
 by_cases h8:k = 8
 ·subst h8; exact specOp_8
 by_cases h9:k = 9
 ·subst h9; exact specOp_9
 by_cases h10:k = 10
 ·subst h10; exact specOp_10
 by_cases h11:k = 11
 ·subst h11; exact specOp_11
 by_cases h12:k = 12
 ·subst h12; exact specOp_12
 by_cases h13:k = 13
 ·subst h13; exact specOp_13
 by_cases h14:k = 14
 ·subst h14; exact specOp_14
 by_cases h15:k = 15
 ·subst h15; exact specOp_15
 by_cases h16:k = 16
 ·subst h16; exact specOp_16
 have e1:(k == (1:Int)) = false:=by simpa using h1
 have e2:(k == (2:Int)) = false:=by simpa using h2
 have e3:(k == (3:Int)) = false:=by simpa using h3
 have e4:(k == (4:Int)) = false:=by simpa using h4
 have e5:(k == (5:Int)) = false:=by simpa using h5
 have e6:(k == (6:Int)) = false:=by simpa using h6
 have e7:(k == (7:Int)) = false:=by simpa using h7
 have e8:(k == (8:Int)) = false:=by simpa using h8
 have e9:(k == (9:Int)) = false:=by simpa using h9
 have e10:(k == (10:Int)) = false:=by simpa using h10
 have e11:(k == (11:Int)) = false:=by simpa using h11
 have e12:(k == (12:Int)) = false:=by simpa using h12
 have e13:(k == (13:Int)) = false:=by simpa using h13
 have e14:(k == (14:Int)) = false:=by simpa using h14
 have e15:(k == (15:Int)) = false:=by simpa using h15
 have e16:(k == (16:Int)) = false:=by simpa using h16
 unfold Zt opOk
 simp only []
 rw [e1,e2,e3,e4,e5,e6,e7,e8,e9,e10,e11,e12,e13,e14,e15,e16]
 rfl
theorem implOp_1 {N:Nat} {a b c:Int}:Zr N (1,a,b,c) = ret (opOk (1,a,b,c)):=by
 have h:Zr N (1,a,b,c) = ((Zv N a).bind fun o=>bif o.2.1 then ((Zaz N b).bind fun o=>bif o.2.1 then some ((),(c == (0:Int),())) else some ((),(false,()))) else some ((),(false,()))):=by kernel_rfl
 have h2:opOk (1,a,b,c) = (Wh a && Wct b && (c == (0:Int))):=rfl
 rw [h,h2]
 simp only [Waj,Wl,Wj,Wal,Wk,Wcx,ret,Option.bind_some]
 cases Wh a <;> cases Wct b <;> rfl
theorem implOp_2 {N:Nat} {a b c:Int}:Zr N (2,a,b,c) = ret (opOk (2,a,b,c)):=by
 have h:Zr N (2,a,b,c) = ((Zv N a).bind fun o=>bif o.2.1 then ((Zv N b).bind fun o=>bif o.2.1 then ((Zv N c).bind fun o=>some ((),(o.2.1,()))) else some ((),(false,()))) else some ((),(false,()))):=by kernel_rfl
 have h2:opOk (2,a,b,c) = (Wh a && Wh b && Wh c):=rfl
 rw [h,h2]
 simp only [Waj,Wl,Wj,Wal,Wk,Wcx,ret,Option.bind_some]
 cases Wh a <;> cases Wh b <;> rfl
theorem implOp_3 {N:Nat} {a b c:Int}:Zr N (3,a,b,c) = ret (opOk (3,a,b,c)):=by
 have h:Zr N (3,a,b,c) = ((Zv N a).bind fun o=>bif o.2.1 then ((Zv N b).bind fun o=>bif o.2.1 then ((Zv N c).bind fun o=>some ((),(o.2.1,()))) else some ((),(false,()))) else some ((),(false,()))):=by kernel_rfl
 have h2:opOk (3,a,b,c) = (Wh a && Wh b && Wh c):=rfl
 rw [h,h2]
 simp only [Waj,Wl,Wj,Wal,Wk,Wcx,ret,Option.bind_some]
 cases Wh a <;> cases Wh b <;> rfl
theorem implOp_4 {N:Nat} {a b c:Int}:Zr N (4,a,b,c) = ret (opOk (4,a,b,c)):=by
 have h:Zr N (4,a,b,c) = ((Zv N a).bind fun o=>bif o.2.1 then ((Zv N b).bind fun o=>bif o.2.1 then ((Zv N c).bind fun o=>some ((),(o.2.1,()))) else some ((),(false,()))) else some ((),(false,()))):=by kernel_rfl
 have h2:opOk (4,a,b,c) = (Wh a && Wh b && Wh c):=rfl
 rw [h,h2]
 simp only [Waj,Wl,Wj,Wal,Wk,Wcx,ret,Option.bind_some]
 cases Wh a <;> cases Wh b <;> rfl
theorem implOp_5 {N:Nat} {a b c:Int}:Zr N (5,a,b,c) = ret (opOk (5,a,b,c)):=by
 have h:Zr N (5,a,b,c) = ((Zv N a).bind fun o=>bif o.2.1 then ((Zba N b).bind fun o=>bif o.2.1 then some ((),(c == (0:Int),())) else some ((),(false,()))) else some ((),(false,()))):=by kernel_rfl
 have h2:opOk (5,a,b,c) = (Wh a && Way b && (c == (0:Int))):=rfl
 rw [h,h2]
 simp only [Waj,Wl,Wj,Wal,Wk,Wcx,ret,Option.bind_some]
 cases Wh a <;> cases Way b <;> rfl
theorem implOp_6 {N:Nat} {a b c:Int}:Zr N (6,a,b,c) = ret (opOk (6,a,b,c)):=by
 have h:Zr N (6,a,b,c) = ((Zba N a).bind fun o=>bif o.2.1 then ((Zv N b).bind fun o=>bif o.2.1 then some ((),(c == (0:Int),())) else some ((),(false,()))) else some ((),(false,()))):=by kernel_rfl
 have h2:opOk (6,a,b,c) = (Way a && Wh b && (c == (0:Int))):=rfl
 rw [h,h2]
 simp only [Waj,Wl,Wj,Wal,Wk,Wcx,ret,Option.bind_some]
 cases Way a <;> cases Wh b <;> rfl
theorem implOp_7 {N:Nat} {a b c:Int}:Zr N (7,a,b,c) = ret (opOk (7,a,b,c)):=by
 have h:Zr N (7,a,b,c) = ((Zv N a).bind fun o=>bif o.2.1 then ((Zm N b 1 20).bind fun o=>bif o.2.1 then some ((),(c == (0:Int),())) else some ((),(false,()))) else some ((),(false,()))):=by kernel_rfl
 have h2:opOk (7,a,b,c) = (Wh a && (decide (1 ≤ b) && decide (b ≤ 20)) && (c == (0:Int))):=rfl
 rw [h,h2]
 simp only [Waj,Wl,Wj,Wal,Wk,Wcx,ret,Option.bind_some]
 cases Wh a <;> cases (decide (1 ≤ b) && decide (b ≤ 20)) <;> rfl
theorem implOp_8 {N:Nat} {a b c:Int}:Zr N (8,a,b,c) = ret (opOk (8,a,b,c)):=by
 have h:Zr N (8,a,b,c) = ((Zv N a).bind fun o=>bif o.2.1 then (bif b == (0:Int) then some ((),(c == (0:Int),())) else some ((),(false,()))) else some ((),(false,()))):=by kernel_rfl
 have h2:opOk (8,a,b,c) = (Wh a && (b == (0:Int)) && (c == (0:Int))):=rfl
 rw [h,h2]
 simp only [Waj,Wl,Wj,Wal,Wk,Wcx,ret,Option.bind_some]
 cases Wh a <;> cases (b == (0:Int)) <;> rfl
theorem implOp_9 {N:Nat} {a b c:Int}:Zr N (9,a,b,c) = ret (opOk (9,a,b,c)):=by
 have h:Zr N (9,a,b,c) = (bif a == (0:Int) then (bif b == (0:Int) then some ((),(c == (0:Int),())) else some ((),(false,()))) else some ((),(false,()))):=by kernel_rfl
 have h2:opOk (9,a,b,c) = ((a == (0:Int)) && (b == (0:Int)) && (c == (0:Int))):=rfl
 rw [h,h2]
 simp only [Waj,Wl,Wj,Wal,Wk,Wcx,ret,Option.bind_some]
 cases (a == (0:Int)) <;> cases (b == (0:Int)) <;> rfl
theorem implOp_10 {N:Nat} {a b c:Int}:Zr N (10,a,b,c) = ret (opOk (10,a,b,c)):=by
 have h:Zr N (10,a,b,c) = (bif a == (0:Int) then (bif b == (0:Int) then some ((),(c == (0:Int),())) else some ((),(false,()))) else some ((),(false,()))):=by kernel_rfl
 have h2:opOk (10,a,b,c) = ((a == (0:Int)) && (b == (0:Int)) && (c == (0:Int))):=rfl
 rw [h,h2]
 simp only [Waj,Wl,Wj,Wal,Wk,Wcx,ret,Option.bind_some]
 cases (a == (0:Int)) <;> cases (b == (0:Int)) <;> rfl
theorem implOp_11 {N:Nat} {a b c:Int}:Zr N (11,a,b,c) = ret (opOk (11,a,b,c)):=by
 have h:Zr N (11,a,b,c) = (bif a == (0:Int) then (bif b == (0:Int) then some ((),(c == (0:Int),())) else some ((),(false,()))) else some ((),(false,()))):=by kernel_rfl
 have h2:opOk (11,a,b,c) = ((a == (0:Int)) && (b == (0:Int)) && (c == (0:Int))):=rfl
 rw [h,h2]
 simp only [Waj,Wl,Wj,Wal,Wk,Wcx,ret,Option.bind_some]
 cases (a == (0:Int)) <;> cases (b == (0:Int)) <;> rfl
theorem implOp_12 {N:Nat} {a b c:Int}:Zr N (12,a,b,c) = ret (opOk (12,a,b,c)):=by
 have h:Zr N (12,a,b,c) = ((Za3 N a).bind fun o=>bif o.2.1 then ((Zv N b).bind fun o=>bif o.2.1 then ((Zv N c).bind fun o=>some ((),(o.2.1,()))) else some ((),(false,()))) else some ((),(false,()))):=by kernel_rfl
 have h2:opOk (12,a,b,c) = (Wed a && Wh b && Wh c):=rfl
 rw [h,h2]
 simp only [Waj,Wl,Wj,Wal,Wk,Wcx,ret,Option.bind_some]
 cases Wed a <;> cases Wh b <;> rfl
theorem implOp_13 {N:Nat} {a b c:Int}:Zr N (13,a,b,c) = ret (opOk (13,a,b,c)):=by
 have h:Zr N (13,a,b,c) = ((Zv N a).bind fun o=>bif o.2.1 then ((Za3 N b).bind fun o=>bif o.2.1 then some ((),(c == (0:Int),())) else some ((),(false,()))) else some ((),(false,()))):=by kernel_rfl
 have h2:opOk (13,a,b,c) = (Wh a && Wed b && (c == (0:Int))):=rfl
 rw [h,h2]
 simp only [Waj,Wl,Wj,Wal,Wk,Wcx,ret,Option.bind_some]
 cases Wh a <;> cases Wed b <;> rfl
theorem implOp_14 {N:Nat} {a b c:Int}:Zr N (14,a,b,c) = ret (opOk (14,a,b,c)):=by
 have h:Zr N (14,a,b,c) = ((Za3 N a).bind fun o=>bif o.2.1 then ((Zv N b).bind fun o=>bif o.2.1 then some ((),(c == (0:Int),())) else some ((),(false,()))) else some ((),(false,()))):=by kernel_rfl
 have h2:opOk (14,a,b,c) = (Wed a && Wh b && (c == (0:Int))):=rfl
 rw [h,h2]
 simp only [Waj,Wl,Wj,Wal,Wk,Wcx,ret,Option.bind_some]
 cases Wed a <;> cases Wh b <;> rfl
theorem implOp_15 {N:Nat} {a b c:Int}:Zr N (15,a,b,c) = ret (opOk (15,a,b,c)):=by
 have h:Zr N (15,a,b,c) = ((Zv N a).bind fun o=>bif o.2.1 then (bif b == (0:Int) then some ((),(c == (0:Int),())) else some ((),(false,()))) else some ((),(false,()))):=by kernel_rfl
 have h2:opOk (15,a,b,c) = (Wh a && (b == (0:Int)) && (c == (0:Int))):=rfl
 rw [h,h2]
 simp only [Waj,Wl,Wj,Wal,Wk,Wcx,ret,Option.bind_some]
 cases Wh a <;> cases (b == (0:Int)) <;> rfl
theorem implOp_16 {N:Nat} {a b c:Int}:Zr N (16,a,b,c) = ret (opOk (16,a,b,c)):=by
 have h:Zr N (16,a,b,c) = ((Zv N a).bind fun o=>bif o.2.1 then (bif b == (0:Int) then some ((),(c == (0:Int),())) else some ((),(false,()))) else some ((),(false,()))):=by kernel_rfl
 have h2:opOk (16,a,b,c) = (Wh a && (b == (0:Int)) && (c == (0:Int))):=rfl
 rw [h,h2]
 simp only [Waj,Wl,Wj,Wal,Wk,Wcx,ret,Option.bind_some]
 cases Wh a <;> cases (b == (0:Int)) <;> rfl
theorem Wjk {N:Nat} {o:Opn}:Zr N o = ret (opOk o):=by
 obtain ⟨k,a,b,c⟩:=o
 by_cases h1:k = 1
 ·subst h1; exact implOp_1
 by_cases h2:k = 2
 ·subst h2; exact implOp_2
 by_cases h3:k = 3
 ·subst h3; exact implOp_3
 by_cases h4:k = 4
 ·subst h4; exact implOp_4
 by_cases h5:k = 5
 ·subst h5; exact implOp_5
 by_cases h6:k = 6
 ·subst h6; exact implOp_6
 by_cases h7:k = 7
 ·subst h7; exact implOp_7
 by_cases h8:k = 8
 ·subst h8; exact implOp_8
 by_cases h9:k = 9
 ·subst h9; exact implOp_9
 by_cases h10:k = 10
 ·subst h10; exact implOp_10
 by_cases h11:k = 11
 ·subst h11; exact implOp_11
 by_cases h12:k = 12
 ·subst h12; exact implOp_12
 by_cases h13:k = 13
 ·subst h13; exact implOp_13
 by_cases h14:k = 14
 ·subst h14; exact implOp_14
 by_cases h15:k = 15
 ·subst h15; exact implOp_15
 by_cases h16:k = 16
 ·subst h16; exact implOp_16
 have e1:(k == (1:Int)) = false:=by simpa using h1
 have e2:(k == (2:Int)) = false:=by simpa using h2
 have e3:(k == (3:Int)) = false:=by simpa using h3
 have e4:(k == (4:Int)) = false:=by simpa using h4
 have e5:(k == (5:Int)) = false:=by simpa using h5
 have e6:(k == (6:Int)) = false:=by simpa using h6
 have e7:(k == (7:Int)) = false:=by simpa using h7
 have e8:(k == (8:Int)) = false:=by simpa using h8
 have e9:(k == (9:Int)) = false:=by simpa using h9
 have e10:(k == (10:Int)) = false:=by simpa using h10
 have e11:(k == (11:Int)) = false:=by simpa using h11
 have e12:(k == (12:Int)) = false:=by simpa using h12
 have e13:(k == (13:Int)) = false:=by simpa using h13
 have e14:(k == (14:Int)) = false:=by simpa using h14
 have e15:(k == (15:Int)) = false:=by simpa using h15
 have e16:(k == (16:Int)) = false:=by simpa using h16
 unfold Zr opOk
 simp only []
 rw [e1,e2,e3,e4,e5,e6,e7,e8,e9,e10,e11,e12,e13,e14,e15,e16]
 rfl
end Go.Sx
