/- Each Go function does what its Lean function says. -/
import Derived.Test.YtceckfecihemnaaT
import Derived.Test.YtceckfecihemnaaProg
import Derived.Test.YtceckfecihemnaaLay
namespace Go.Sx
open Go.Proofs
set_option linter.unusedVariables false
set_option linter.unusedSimpArgs false

def tab : Tab := [(3, ⟨.int .i64, false, .basic⟩), (4, ⟨.bool, false, .basic⟩), (32, ⟨.prod (.int .i64) (.int .i64), true, .struct [(0, 3), (1, 3)]⟩), (33, ⟨.slice (.prod (.int .i64) (.int .i64)), false, .slice 32⟩), (38, ⟨.slice (.int .i64), false, .slice 3⟩), (44, ⟨.slice (.prod (.int .i64) (.prod (.int .i64) (.prod (.int .i64) (.int .i64)))), false, .slice 96⟩), (47, ⟨.slice (.prod (.int .i64) (.prod (.int .i64) (.prod (.int .i64) (.int .i64)))), false, .slice 89⟩), (86, ⟨.slice (.bool), false, .slice 4⟩), (87, ⟨.slice (.prod (.int .i64) (.prod (.slice (.int .i64)) (.prod (.slice (.int .i64)) (.slice (.bool))))), false, .slice 92⟩), (89, ⟨.prod (.int .i64) (.prod (.int .i64) (.prod (.int .i64) (.int .i64))), true, .struct [(0, 3), (1, 3), (2, 3), (3, 3)]⟩), (92, ⟨.prod (.int .i64) (.prod (.slice (.int .i64)) (.prod (.slice (.int .i64)) (.slice (.bool)))), true, .struct [(0, 3), (1, 38), (2, 38), (3, 86)]⟩), (96, ⟨.prod (.int .i64) (.prod (.int .i64) (.prod (.int .i64) (.int .i64))), true, .struct [(0, 3), (1, 3), (2, 3), (3, 3)]⟩), (102, ⟨.slice (.prod (.int .i64) (.prod (.int .i64) (.slice (.int .i64)))), false, .slice 133⟩), (104, ⟨.prod (.slice (.int .i64)) (.prod (.slice (.int .i64)) (.prod (.slice (.prod (.int .i64) (.int .i64))) (.prod (.int .i64) (.prod (.slice (.prod (.int .i64) (.prod (.int .i64) (.slice (.int .i64))))) (.slice (.int .i64)))))), true, .struct [(0, 38), (1, 38), (2, 33), (3, 3), (4, 102), (5, 38)]⟩), (133, ⟨.prod (.int .i64) (.prod (.int .i64) (.slice (.int .i64))), true, .struct [(0, 3), (1, 3), (2, 38)]⟩)]

theorem mixedOk : Try.prog.follows .mixedOrders = true := by kernel_rfl

theorem tabOk : TabOk Try.prog tab := tab_ok (show chkTab Try.prog tab tab = true by kernel_rfl)

noncomputable def T_laws_szOpS_sg (N : Nat) : Sig := Sig.of [.v (.slice (.prod (.int .i64) (.prod (.int .i64) (.prod (.int .i64) (.int .i64))))) false, .v (.int .i64) false] [.v (.int .i64) false] (fun d => T_laws_szOpS N d.1 d.2.1)

def T_laws_szOpS_ann : Nat → List Ghost
  | _ => []

noncomputable def T_laws_szOpS_ctx (N : Nat) : Ctx := []

theorem T_laws_szOpS_den (N : Nat) (a1 : List (Int × Int × Int × Int)) (left2 : Int) :
    den (R := ODen (T_laws_szOpS_sg N).ps × RDen (T_laws_szOpS_sg N).rs) tab (T_laws_szOpS_ctx N) T_laws_szOpS_ann N (T_laws_szOpS_sg N) Try.f18 (a1, left2, ()) some =
    (T_laws_szOpS N a1 left2 : Option (ODen (T_laws_szOpS_sg N).ps × RDen (T_laws_szOpS_sg N).rs)) := by kernel_rfl

theorem T_laws_szOpS_ok (N : Nat) : chkBody Try.f18 (T_laws_szOpS_sg N).ps = true := by kernel_rfl

theorem T_laws_szOpS_callable : Callable Try.prog 18 := callable_of Try.func18 (show chkFn Try.f18 = true by kernel_rfl)

theorem T_laws_szOpS_good (N : Nat) : Good Try.prog 18 (T_laws_szOpS_sg N) :=
  good_body mixedOk tabOk ctx_nil Try.func18 (T_laws_szOpS_ok N) (fun d _ h => ⟨N, (T_laws_szOpS_den N d.1 d.2.1).trans h⟩)

noncomputable def T_laws_toOp_sg (N : Nat) : Sig := Sig.of [.v (.prod (.int .i64) (.prod (.int .i64) (.prod (.int .i64) (.int .i64)))) true] [.v (.prod (.int .i64) (.prod (.int .i64) (.prod (.int .i64) (.int .i64)))) true] (fun d => T_laws_toOp N d.1)

def T_laws_toOp_ann : Nat → List Ghost
  | _ => []

noncomputable def T_laws_toOp_ctx (N : Nat) : Ctx := []

theorem T_laws_toOp_den (N : Nat) (a1 : Int × Int × Int × Int) :
    den (R := ODen (T_laws_toOp_sg N).ps × RDen (T_laws_toOp_sg N).rs) tab (T_laws_toOp_ctx N) T_laws_toOp_ann N (T_laws_toOp_sg N) Try.f60 (a1, ()) some =
    (T_laws_toOp N a1 : Option (ODen (T_laws_toOp_sg N).ps × RDen (T_laws_toOp_sg N).rs)) := by kernel_rfl

theorem T_laws_toOp_ok (N : Nat) : chkBody Try.f60 (T_laws_toOp_sg N).ps = true := by kernel_rfl

theorem T_laws_toOp_callable : Callable Try.prog 60 := callable_of Try.func60 (show chkFn Try.f60 = true by kernel_rfl)

theorem T_laws_toOp_good (N : Nat) : Good Try.prog 60 (T_laws_toOp_sg N) :=
  good_body mixedOk tabOk ctx_nil Try.func60 (T_laws_toOp_ok N) (fun d _ h => ⟨N, (T_laws_toOp_den N d.1).trans h⟩)

noncomputable def T_laws_toOpS_sg (N : Nat) : Sig := Sig.of [.v (.slice (.prod (.int .i64) (.prod (.int .i64) (.prod (.int .i64) (.int .i64))))) false] [.v (.own (.prod (.int .i64) (.prod (.int .i64) (.prod (.int .i64) (.int .i64))))) false] (fun d => T_laws_toOpS N d.1)

def T_laws_toOpS_ann : Nat → List Ghost
  | 3 => [.canon [0, 3, 4, 11]]
  | 4 => [.canon [0, 3, 4]]
  | 5 => [.canon [0, 3, 4]]
  | 100003 => [.canon [0, 3, 4]]
  | _ => []

noncomputable def T_laws_toOpS_ctx (N : Nat) : Ctx := [(60, T_laws_toOp_sg N)]

def T_laws_toOpS_lp0_sh (a2 : List (Int × Int × Int × Int)) (i3 : Int) (l4 : List (Int × Int × Int × Int)) : St := { env := [(0, .s (.one (.val (.slice (.prod (.int .i64) (.prod (.int .i64) (.prod (.int .i64) (.int .i64))))) (a2 : List (Int × Int × Int × Int))))), (3, .s (.one (.own 0))), (4, .s (.one (.val (.int .i64) (i3 : Int))))], objs := [(0, .arr (.prod (.int .i64) (.prod (.int .i64) (.prod (.int .i64) (.int .i64)))) (l4 : List (Int × Int × Int × Int)))], nx := 1 }

def T_laws_toOpS_lp0_e0 (a2 : List (Int × Int × Int × Int)) (i6 : Int) (t7 : Bool) (l8 : List (Int × Int × Int × Int)) : St := { env := [(0, .s (.one (.val (.slice (.prod (.int .i64) (.prod (.int .i64) (.prod (.int .i64) (.int .i64))))) (a2 : List (Int × Int × Int × Int))))), (3, .s (.one (.own 0))), (4, .s (.one (.val (.int .i64) (i6 : Int)))), (11, .s (.one (.val (.bool) (t7 : Bool))))], objs := [(0, .arr (.prod (.int .i64) (.prod (.int .i64) (.prod (.int .i64) (.int .i64)))) (l8 : List (Int × Int × Int × Int)))], nx := 1 }

noncomputable def T_laws_toOpS_lp0_m (N : Nat) {R : Type} (n : Nat) (st : St) (K : Ex → St → Option R) : Option R := loopN (roundG (T_laws_toOpS_ann 100003) fun st k => sx tab (T_laws_toOpS_ctx N) T_laws_toOpS_ann N (nthLoop Try.f20 0) st k) n st K

theorem T_laws_toOpS_lp0_step (N : Nat) {R : Type} (n : Nat) (K : Ex → St → Option R) (a2 : List (Int × Int × Int × Int)) (i3 : Int) (l4 : List (Int × Int × Int × Int)) :
    T_laws_toOpS_lp0_m N (n + 1) (T_laws_toOpS_lp0_sh a2 i3 l4) K =
    (bif decide (i3 < (ilen a2)) then
 (bif inb i3 (List.length a2) then
 ((T_laws_toOp N (List.getD a2 (Int.toNat i3) ((0 : Int), ((0 : Int), ((0 : Int), (0 : Int)))))).bind fun o9 =>
 (bif inb i3 (List.length l4) then
 (T_laws_toOpS_lp0_m N n (T_laws_toOpS_lp0_sh a2 (iadd .i64 i3 (1 : Int)) (List.set l4 (Int.toNat i3) o9.2.1)) K) else none)) else none)
 else
 (K (.exit 0) (T_laws_toOpS_lp0_e0 a2 i3 (decide (i3 < (ilen a2))) l4))) := by kernel_rfl

theorem T_laws_toOpS_lp0_eq (N : Nat) {R : Type} (a2 : List (Int × Int × Int × Int)) (K : Ex → St → Option R) : ∀ (n : Nat) (i3 : Int) (l4 : List (Int × Int × Int × Int)), T_laws_toOpS_lp0_m N n (T_laws_toOpS_lp0_sh a2 i3 l4) K = T_laws_toOpS_lp0 N a2 (fun i6 t7 l8 => (K (.exit 0) (T_laws_toOpS_lp0_e0 a2 i6 t7 l8))) n i3 l4
  | 0, _, _ => rfl
  | n + 1, i3, l4 => by rw [T_laws_toOpS_lp0_step, T_laws_toOpS_lp0]; (try simp only [T_laws_toOpS_lp0_eq N a2 K n])

theorem T_laws_toOpS_c1 (N : Nat) (a1 : List (Int × Int × Int × Int)) (i10 : Int) (t11 : Bool) (l12 : List (Int × Int × Int × Int)) :
    ((ctxK (R := ODen (T_laws_toOpS_sg N).ps × RDen (T_laws_toOpS_sg N).rs) tab (T_laws_toOpS_ctx N) T_laws_toOpS_ann N (theCode Try.f20) [1, 1, 0, 1, 0] (retK tab (T_laws_toOpS_sg N) Try.f20.results.toList some)) (.exit 0) (T_laws_toOpS_lp0_e0 a1 i10 t11 l12)) =
    (some (α := ODen (T_laws_toOpS_sg N).ps × RDen (T_laws_toOpS_sg N).rs) ((), (l12, ()))) := by kernel_rfl

theorem T_laws_toOpS_den (N : Nat) (a1 : List (Int × Int × Int × Int)) :
 den (R := ODen (T_laws_toOpS_sg N).ps × RDen (T_laws_toOpS_sg N).rs) tab (T_laws_toOpS_ctx N) T_laws_toOpS_ann N (T_laws_toOpS_sg N) Try.f20 (a1, ()) some =
 (T_laws_toOpS N a1 : Option (ODen (T_laws_toOpS_sg N).ps × RDen (T_laws_toOpS_sg N).rs)) := by
  have h : den (R := ODen (T_laws_toOpS_sg N).ps × RDen (T_laws_toOpS_sg N).rs) tab (T_laws_toOpS_ctx N) T_laws_toOpS_ann N (T_laws_toOpS_sg N) Try.f20 (a1, ()) some =
 (bif ((decide ((0 : Int) ≤ (ilen a1))) && (decide ((ilen a1) ≤ (ilen a1)))) && (room (Int.toNat (ilen a1))) then
 (T_laws_toOpS_lp0_m N N (T_laws_toOpS_lp0_sh a1 (0 : Int) (List.replicate (Int.toNat (ilen a1)) ((0 : Int), ((0 : Int), ((0 : Int), (0 : Int)))))) (ctxK (R := ODen (T_laws_toOpS_sg N).ps × RDen (T_laws_toOpS_sg N).rs) tab (T_laws_toOpS_ctx N) T_laws_toOpS_ann N (theCode Try.f20) [1, 1, 0, 1, 0] (retK tab (T_laws_toOpS_sg N) Try.f20.results.toList some))) else none) := by kernel_rfl
  rw [h]
  (try simp only [T_laws_toOpS_lp0_eq, T_laws_toOpS_c1]) <;> rfl

theorem T_laws_toOpS_ok (N : Nat) : chkBody Try.f20 (T_laws_toOpS_sg N).ps = true := by kernel_rfl

theorem T_laws_toOpS_callable : Callable Try.prog 20 := callable_of Try.func20 (show chkFn Try.f20 = true by kernel_rfl)

theorem T_laws_toOpS_good (N : Nat) : Good Try.prog 20 (T_laws_toOpS_sg N) :=
  good_body mixedOk tabOk (ctx_cons (T_laws_toOp_good N) T_laws_toOp_callable ctx_nil) Try.func20 (T_laws_toOpS_ok N) (fun d _ h => ⟨N, (T_laws_toOpS_den N d.1).trans h⟩)

noncomputable def T_laws_toIntS_sg (N : Nat) : Sig := Sig.of [.v (.slice (.int .i64)) false] [.v (.own (.int .i64)) false] (fun d => T_laws_toIntS N d.1)

def T_laws_toIntS_ann : Nat → List Ghost
  | 3 => [.canon [0, 3, 4, 11]]
  | 4 => [.canon [0, 3, 4]]
  | 5 => [.canon [0, 3, 4]]
  | 100003 => [.canon [0, 3, 4]]
  | _ => []

noncomputable def T_laws_toIntS_ctx (N : Nat) : Ctx := []

def T_laws_toIntS_lp0_sh (a2 : List Int) (i3 : Int) (l4 : List Int) : St := { env := [(0, .s (.one (.val (.slice (.int .i64)) (a2 : List Int)))), (3, .s (.one (.own 0))), (4, .s (.one (.val (.int .i64) (i3 : Int))))], objs := [(0, .arr (.int .i64) (l4 : List Int))], nx := 1 }

def T_laws_toIntS_lp0_e0 (a2 : List Int) (i5 : Int) (t6 : Bool) (l7 : List Int) : St := { env := [(0, .s (.one (.val (.slice (.int .i64)) (a2 : List Int)))), (3, .s (.one (.own 0))), (4, .s (.one (.val (.int .i64) (i5 : Int)))), (11, .s (.one (.val (.bool) (t6 : Bool))))], objs := [(0, .arr (.int .i64) (l7 : List Int))], nx := 1 }

noncomputable def T_laws_toIntS_lp0_m (N : Nat) {R : Type} (n : Nat) (st : St) (K : Ex → St → Option R) : Option R := loopN (roundG (T_laws_toIntS_ann 100003) fun st k => sx tab (T_laws_toIntS_ctx N) T_laws_toIntS_ann N (nthLoop Try.f21 0) st k) n st K

theorem T_laws_toIntS_lp0_step (N : Nat) {R : Type} (n : Nat) (K : Ex → St → Option R) (a2 : List Int) (i3 : Int) (l4 : List Int) :
    T_laws_toIntS_lp0_m N (n + 1) (T_laws_toIntS_lp0_sh a2 i3 l4) K =
    (bif decide (i3 < (ilen a2)) then
 (bif inb i3 (List.length a2) then
 (bif inb i3 (List.length l4) then
 (T_laws_toIntS_lp0_m N n (T_laws_toIntS_lp0_sh a2 (iadd .i64 i3 (1 : Int)) (List.set l4 (Int.toNat i3) (List.getD a2 (Int.toNat i3) (0 : Int)))) K) else none) else none)
 else
 (K (.exit 0) (T_laws_toIntS_lp0_e0 a2 i3 (decide (i3 < (ilen a2))) l4))) := by kernel_rfl

theorem T_laws_toIntS_lp0_eq (N : Nat) {R : Type} (a2 : List Int) (K : Ex → St → Option R) : ∀ (n : Nat) (i3 : Int) (l4 : List Int), T_laws_toIntS_lp0_m N n (T_laws_toIntS_lp0_sh a2 i3 l4) K = T_laws_toIntS_lp0 N a2 (fun i5 t6 l7 => (K (.exit 0) (T_laws_toIntS_lp0_e0 a2 i5 t6 l7))) n i3 l4
  | 0, _, _ => rfl
  | n + 1, i3, l4 => by rw [T_laws_toIntS_lp0_step, T_laws_toIntS_lp0]; (try simp only [T_laws_toIntS_lp0_eq N a2 K n])

theorem T_laws_toIntS_c1 (N : Nat) (a1 : List Int) (i8 : Int) (t9 : Bool) (l10 : List Int) :
    ((ctxK (R := ODen (T_laws_toIntS_sg N).ps × RDen (T_laws_toIntS_sg N).rs) tab (T_laws_toIntS_ctx N) T_laws_toIntS_ann N (theCode Try.f21) [1, 1, 0, 1, 0] (retK tab (T_laws_toIntS_sg N) Try.f21.results.toList some)) (.exit 0) (T_laws_toIntS_lp0_e0 a1 i8 t9 l10)) =
    (some (α := ODen (T_laws_toIntS_sg N).ps × RDen (T_laws_toIntS_sg N).rs) ((), (l10, ()))) := by kernel_rfl

theorem T_laws_toIntS_den (N : Nat) (a1 : List Int) :
 den (R := ODen (T_laws_toIntS_sg N).ps × RDen (T_laws_toIntS_sg N).rs) tab (T_laws_toIntS_ctx N) T_laws_toIntS_ann N (T_laws_toIntS_sg N) Try.f21 (a1, ()) some =
 (T_laws_toIntS N a1 : Option (ODen (T_laws_toIntS_sg N).ps × RDen (T_laws_toIntS_sg N).rs)) := by
  have h : den (R := ODen (T_laws_toIntS_sg N).ps × RDen (T_laws_toIntS_sg N).rs) tab (T_laws_toIntS_ctx N) T_laws_toIntS_ann N (T_laws_toIntS_sg N) Try.f21 (a1, ()) some =
 (bif ((decide ((0 : Int) ≤ (ilen a1))) && (decide ((ilen a1) ≤ (ilen a1)))) && (room (Int.toNat (ilen a1))) then
 (T_laws_toIntS_lp0_m N N (T_laws_toIntS_lp0_sh a1 (0 : Int) (List.replicate (Int.toNat (ilen a1)) (0 : Int))) (ctxK (R := ODen (T_laws_toIntS_sg N).ps × RDen (T_laws_toIntS_sg N).rs) tab (T_laws_toIntS_ctx N) T_laws_toIntS_ann N (theCode Try.f21) [1, 1, 0, 1, 0] (retK tab (T_laws_toIntS_sg N) Try.f21.results.toList some))) else none) := by kernel_rfl
  rw [h]
  (try simp only [T_laws_toIntS_lp0_eq, T_laws_toIntS_c1]) <;> rfl

theorem T_laws_toIntS_ok (N : Nat) : chkBody Try.f21 (T_laws_toIntS_sg N).ps = true := by kernel_rfl

theorem T_laws_toIntS_callable : Callable Try.prog 21 := callable_of Try.func21 (show chkFn Try.f21 = true by kernel_rfl)

theorem T_laws_toIntS_good (N : Nat) : Good Try.prog 21 (T_laws_toIntS_sg N) :=
  good_body mixedOk tabOk ctx_nil Try.func21 (T_laws_toIntS_ok N) (fun d _ h => ⟨N, (T_laws_toIntS_den N d.1).trans h⟩)

noncomputable def T_spec_l1In_sg (N : Nat) : Sig := Sig.of [.v (.int .i64) false, .v (.int .i64) false, .v (.int .i64) false] [.v (.bool) false] (fun d => T_spec_l1In N d.1 d.2.1 d.2.2.1)

def T_spec_l1In_ann : Nat → List Ghost
  | _ => []

noncomputable def T_spec_l1In_ctx (N : Nat) : Ctx := []

theorem T_spec_l1In_den (N : Nat) (x1 : Int) (low2 : Int) (high3 : Int) :
    den (R := ODen (T_spec_l1In_sg N).ps × RDen (T_spec_l1In_sg N).rs) tab (T_spec_l1In_ctx N) T_spec_l1In_ann N (T_spec_l1In_sg N) Try.f40 (x1, low2, high3, ()) some =
    (T_spec_l1In N x1 low2 high3 : Option (ODen (T_spec_l1In_sg N).ps × RDen (T_spec_l1In_sg N).rs)) := by kernel_rfl

theorem T_spec_l1In_ok (N : Nat) : chkBody Try.f40 (T_spec_l1In_sg N).ps = true := by kernel_rfl

theorem T_spec_l1In_callable : Callable Try.prog 40 := callable_of Try.func40 (show chkFn Try.f40 = true by kernel_rfl)

theorem T_spec_l1In_good (N : Nat) : Good Try.prog 40 (T_spec_l1In_sg N) :=
  good_body mixedOk tabOk ctx_nil Try.func40 (T_spec_l1In_ok N) (fun d _ h => ⟨N, (T_spec_l1In_den N d.1 d.2.1 d.2.2.1).trans h⟩)

noncomputable def T_spec_l4Reg_sg (N : Nat) : Sig := Sig.of [.v (.int .i64) false] [.v (.bool) false] (fun d => T_spec_l4Reg N d.1)

def T_spec_l4Reg_ann : Nat → List Ghost
  | _ => []

noncomputable def T_spec_l4Reg_ctx (N : Nat) : Ctx := [(40, T_spec_l1In_sg N)]

theorem T_spec_l4Reg_den (N : Nat) (i1 : Int) :
    den (R := ODen (T_spec_l4Reg_sg N).ps × RDen (T_spec_l4Reg_sg N).rs) tab (T_spec_l4Reg_ctx N) T_spec_l4Reg_ann N (T_spec_l4Reg_sg N) Try.f120 (i1, ()) some =
    (T_spec_l4Reg N i1 : Option (ODen (T_spec_l4Reg_sg N).ps × RDen (T_spec_l4Reg_sg N).rs)) := by kernel_rfl

theorem T_spec_l4Reg_ok (N : Nat) : chkBody Try.f120 (T_spec_l4Reg_sg N).ps = true := by kernel_rfl

theorem T_spec_l4Reg_callable : Callable Try.prog 120 := callable_of Try.func120 (show chkFn Try.f120 = true by kernel_rfl)

theorem T_spec_l4Reg_good (N : Nat) : Good Try.prog 120 (T_spec_l4Reg_sg N) :=
  good_body mixedOk tabOk (ctx_cons (T_spec_l1In_good N) T_spec_l1In_callable ctx_nil) Try.func120 (T_spec_l4Reg_ok N) (fun d _ h => ⟨N, (T_spec_l4Reg_den N d.1).trans h⟩)

noncomputable def T_spec_l3Val_sg (N : Nat) : Sig := Sig.of [.v (.int .i64) false] [.v (.bool) false] (fun d => T_spec_l3Val N d.1)

def T_spec_l3Val_ann : Nat → List Ghost
  | _ => []

noncomputable def T_spec_l3Val_ctx (N : Nat) : Ctx := [(40, T_spec_l1In_sg N)]

theorem T_spec_l3Val_den (N : Nat) (v1 : Int) :
    den (R := ODen (T_spec_l3Val_sg N).ps × RDen (T_spec_l3Val_sg N).rs) tab (T_spec_l3Val_ctx N) T_spec_l3Val_ann N (T_spec_l3Val_sg N) Try.f81 (v1, ()) some =
    (T_spec_l3Val N v1 : Option (ODen (T_spec_l3Val_sg N).ps × RDen (T_spec_l3Val_sg N).rs)) := by kernel_rfl

theorem T_spec_l3Val_ok (N : Nat) : chkBody Try.f81 (T_spec_l3Val_sg N).ps = true := by kernel_rfl

theorem T_spec_l3Val_callable : Callable Try.prog 81 := callable_of Try.func81 (show chkFn Try.f81 = true by kernel_rfl)

theorem T_spec_l3Val_good (N : Nat) : Good Try.prog 81 (T_spec_l3Val_sg N) :=
  good_body mixedOk tabOk (ctx_cons (T_spec_l1In_good N) T_spec_l1In_callable ctx_nil) Try.func81 (T_spec_l3Val_ok N) (fun d _ h => ⟨N, (T_spec_l3Val_den N d.1).trans h⟩)

noncomputable def T_spec_l3Cell_sg (N : Nat) : Sig := Sig.of [.v (.int .i64) false] [.v (.bool) false] (fun d => T_spec_l3Cell N d.1)

def T_spec_l3Cell_ann : Nat → List Ghost
  | _ => []

noncomputable def T_spec_l3Cell_ctx (N : Nat) : Ctx := [(40, T_spec_l1In_sg N)]

theorem T_spec_l3Cell_den (N : Nat) (i1 : Int) :
    den (R := ODen (T_spec_l3Cell_sg N).ps × RDen (T_spec_l3Cell_sg N).rs) tab (T_spec_l3Cell_ctx N) T_spec_l3Cell_ann N (T_spec_l3Cell_sg N) Try.f80 (i1, ()) some =
    (T_spec_l3Cell N i1 : Option (ODen (T_spec_l3Cell_sg N).ps × RDen (T_spec_l3Cell_sg N).rs)) := by kernel_rfl

theorem T_spec_l3Cell_ok (N : Nat) : chkBody Try.f80 (T_spec_l3Cell_sg N).ps = true := by kernel_rfl

theorem T_spec_l3Cell_callable : Callable Try.prog 80 := callable_of Try.func80 (show chkFn Try.f80 = true by kernel_rfl)

theorem T_spec_l3Cell_good (N : Nat) : Good Try.prog 80 (T_spec_l3Cell_sg N) :=
  good_body mixedOk tabOk (ctx_cons (T_spec_l1In_good N) T_spec_l1In_callable ctx_nil) Try.func80 (T_spec_l3Cell_ok N) (fun d _ h => ⟨N, (T_spec_l3Cell_den N d.1).trans h⟩)

noncomputable def T_spec_OpOk_sg (N : Nat) : Sig := Sig.of [.v (.prod (.int .i64) (.prod (.int .i64) (.prod (.int .i64) (.int .i64)))) true] [.v (.bool) false] (fun d => T_spec_OpOk N d.1)

def T_spec_OpOk_ann : Nat → List Ghost
  | _ => []

noncomputable def T_spec_OpOk_ctx (N : Nat) : Ctx := [(120, T_spec_l4Reg_sg N), (81, T_spec_l3Val_sg N), (80, T_spec_l3Cell_sg N), (40, T_spec_l1In_sg N)]

theorem T_spec_OpOk_den (N : Nat) (o1 : Int × Int × Int × Int) :
    den (R := ODen (T_spec_OpOk_sg N).ps × RDen (T_spec_OpOk_sg N).rs) tab (T_spec_OpOk_ctx N) T_spec_OpOk_ann N (T_spec_OpOk_sg N) Try.f96 (o1, ()) some =
    (T_spec_OpOk N o1 : Option (ODen (T_spec_OpOk_sg N).ps × RDen (T_spec_OpOk_sg N).rs)) := by kernel_rfl

theorem T_spec_OpOk_ok (N : Nat) : chkBody Try.f96 (T_spec_OpOk_sg N).ps = true := by kernel_rfl

theorem T_spec_OpOk_callable : Callable Try.prog 96 := callable_of Try.func96 (show chkFn Try.f96 = true by kernel_rfl)

theorem T_spec_OpOk_good (N : Nat) : Good Try.prog 96 (T_spec_OpOk_sg N) :=
  good_body mixedOk tabOk (ctx_cons (T_spec_l4Reg_good N) T_spec_l4Reg_callable (ctx_cons (T_spec_l3Val_good N) T_spec_l3Val_callable (ctx_cons (T_spec_l3Cell_good N) T_spec_l3Cell_callable (ctx_cons (T_spec_l1In_good N) T_spec_l1In_callable ctx_nil)))) Try.func96 (T_spec_OpOk_ok N) (fun d _ h => ⟨N, (T_spec_OpOk_den N d.1).trans h⟩)

noncomputable def T_spec_l5Skip_sg (N : Nat) : Sig := Sig.of [.v (.slice (.prod (.int .i64) (.prod (.int .i64) (.prod (.int .i64) (.int .i64))))) false, .v (.int .i64) false] [.v (.bool) false] (fun d => T_spec_l5Skip N d.1 d.2.1)

def T_spec_l5Skip_ann : Nat → List Ghost
  | 6 => [.canon [0, 5, 6, 7, 24]]
  | 7 => [.canon [0, 5, 6, 7]]
  | 8 => [.canon [0, 5, 6, 7, 32]]
  | 9 => [.canon [0, 5, 6, 7]]
  | 10 => [.canon [0, 5, 6, 7, 40]]
  | 11 => [.canon [0, 5, 6, 7]]
  | 12 => [.canon [0, 5, 6, 7, 44]]
  | 13 => [.canon [4]]
  | 100006 => [.canon [0, 5, 6, 7]]
  | _ => []

noncomputable def T_spec_l5Skip_ctx (N : Nat) : Ctx := []

def T_spec_l5Skip_lp0_sh (code3 : List (Int × Int × Int × Int)) (to4 : Int) (d5 : Int) (k6 : Int) : St := { env := [(0, .s (.one (.val (.slice (.prod (.int .i64) (.prod (.int .i64) (.prod (.int .i64) (.int .i64))))) (code3 : List (Int × Int × Int × Int))))), (5, .s (.one (.val (.int .i64) (to4 : Int)))), (6, .s (.one (.val (.int .i64) (d5 : Int)))), (7, .s (.one (.val (.int .i64) (k6 : Int))))], objs := [], nx := 0 }

def T_spec_l5Skip_lp0_e0 (code3 : List (Int × Int × Int × Int)) (to4 : Int) : St := { env := [(4, .s (.one (.val (.bool) (false : Bool))))], objs := [], nx := 0 }

def T_spec_l5Skip_lp0_e1 (code3 : List (Int × Int × Int × Int)) (to4 : Int) (d7 : Int) (k8 : Int) (t9 : Bool) : St := { env := [(0, .s (.one (.val (.slice (.prod (.int .i64) (.prod (.int .i64) (.prod (.int .i64) (.int .i64))))) (code3 : List (Int × Int × Int × Int))))), (5, .s (.one (.val (.int .i64) (to4 : Int)))), (6, .s (.one (.val (.int .i64) (d7 : Int)))), (7, .s (.one (.val (.int .i64) (k8 : Int)))), (24, .s (.one (.val (.bool) (t9 : Bool))))], objs := [], nx := 0 }

noncomputable def T_spec_l5Skip_lp0_m (N : Nat) {R : Type} (n : Nat) (st : St) (K : Ex → St → Option R) : Option R := loopN (roundG (T_spec_l5Skip_ann 100006) fun st k => sx tab (T_spec_l5Skip_ctx N) T_spec_l5Skip_ann N (nthLoop Try.f119 0) st k) n st K

theorem T_spec_l5Skip_lp0_step (N : Nat) {R : Type} (n : Nat) (K : Ex → St → Option R) (code3 : List (Int × Int × Int × Int)) (to4 : Int) (d5 : Int) (k6 : Int) :
    T_spec_l5Skip_lp0_m N (n + 1) (T_spec_l5Skip_lp0_sh code3 to4 d5 k6) K =
    (bif decide (k6 < to4) then
 (bif inb k6 (List.length code3) then
 (bif (List.getD code3 (Int.toNat k6) ((0 : Int), ((0 : Int), ((0 : Int), (0 : Int))))).1 == (8 : Int) then
 (bif inb k6 (List.length code3) then
 (bif (List.getD code3 (Int.toNat k6) ((0 : Int), ((0 : Int), ((0 : Int), (0 : Int))))).1 == (9 : Int) then
 (bif decide ((isub .i64 (iadd .i64 d5 (1 : Int)) (1 : Int)) < (0 : Int)) then
 (K .ret (T_spec_l5Skip_lp0_e0 code3 to4))
 else
 (T_spec_l5Skip_lp0_m N n (T_spec_l5Skip_lp0_sh code3 to4 (isub .i64 (iadd .i64 d5 (1 : Int)) (1 : Int)) (iadd .i64 k6 (1 : Int))) K))
 else
 (bif decide ((iadd .i64 d5 (1 : Int)) < (0 : Int)) then
 (K .ret (T_spec_l5Skip_lp0_e0 code3 to4))
 else
 (T_spec_l5Skip_lp0_m N n (T_spec_l5Skip_lp0_sh code3 to4 (iadd .i64 d5 (1 : Int)) (iadd .i64 k6 (1 : Int))) K))) else none)
 else
 (bif inb k6 (List.length code3) then
 (bif (List.getD code3 (Int.toNat k6) ((0 : Int), ((0 : Int), ((0 : Int), (0 : Int))))).1 == (9 : Int) then
 (bif decide ((isub .i64 d5 (1 : Int)) < (0 : Int)) then
 (K .ret (T_spec_l5Skip_lp0_e0 code3 to4))
 else
 (T_spec_l5Skip_lp0_m N n (T_spec_l5Skip_lp0_sh code3 to4 (isub .i64 d5 (1 : Int)) (iadd .i64 k6 (1 : Int))) K))
 else
 (bif decide (d5 < (0 : Int)) then
 (K .ret (T_spec_l5Skip_lp0_e0 code3 to4))
 else
 (T_spec_l5Skip_lp0_m N n (T_spec_l5Skip_lp0_sh code3 to4 d5 (iadd .i64 k6 (1 : Int))) K))) else none)) else none)
 else
 (K (.exit 0) (T_spec_l5Skip_lp0_e1 code3 to4 d5 k6 (decide (k6 < to4))))) := by kernel_rfl

theorem T_spec_l5Skip_lp0_eq (N : Nat) {R : Type} (code3 : List (Int × Int × Int × Int)) (to4 : Int) (K : Ex → St → Option R) : ∀ (n : Nat) (d5 : Int) (k6 : Int), T_spec_l5Skip_lp0_m N n (T_spec_l5Skip_lp0_sh code3 to4 d5 k6) K = T_spec_l5Skip_lp0 N code3 to4 (K .ret (T_spec_l5Skip_lp0_e0 code3 to4)) (fun d7 k8 t9 => (K (.exit 0) (T_spec_l5Skip_lp0_e1 code3 to4 d7 k8 t9))) n d5 k6
  | 0, _, _ => rfl
  | n + 1, d5, k6 => by rw [T_spec_l5Skip_lp0_step, T_spec_l5Skip_lp0]; (try simp only [T_spec_l5Skip_lp0_eq N code3 to4 K n])

theorem T_spec_l5Skip_c1 (N : Nat) (code1 : List (Int × Int × Int × Int)) (i2 : Int) :
    ((ctxK (R := ODen (T_spec_l5Skip_sg N).ps × RDen (T_spec_l5Skip_sg N).rs) tab (T_spec_l5Skip_ctx N) T_spec_l5Skip_ann N (theCode Try.f119) [1, 1, 1, 1, 0, 1, 0] (retK tab (T_spec_l5Skip_sg N) Try.f119.results.toList some)) .ret (T_spec_l5Skip_lp0_e0 code1 (iadd .i64 (iadd .i64 i2 (1 : Int)) (List.getD code1 (Int.toNat i2) ((0 : Int), ((0 : Int), ((0 : Int), (0 : Int))))).2.2.1))) =
    (some (α := ODen (T_spec_l5Skip_sg N).ps × RDen (T_spec_l5Skip_sg N).rs) ((), (false, ()))) := by kernel_rfl

theorem T_spec_l5Skip_c2 (N : Nat) (code1 : List (Int × Int × Int × Int)) (i2 : Int) (d10 : Int) (k11 : Int) (t12 : Bool) :
    ((ctxK (R := ODen (T_spec_l5Skip_sg N).ps × RDen (T_spec_l5Skip_sg N).rs) tab (T_spec_l5Skip_ctx N) T_spec_l5Skip_ann N (theCode Try.f119) [1, 1, 1, 1, 0, 1, 0] (retK tab (T_spec_l5Skip_sg N) Try.f119.results.toList some)) (.exit 0) (T_spec_l5Skip_lp0_e1 code1 (iadd .i64 (iadd .i64 i2 (1 : Int)) (List.getD code1 (Int.toNat i2) ((0 : Int), ((0 : Int), ((0 : Int), (0 : Int))))).2.2.1) d10 k11 t12)) =
    (some (α := ODen (T_spec_l5Skip_sg N).ps × RDen (T_spec_l5Skip_sg N).rs) ((), (d10 == (0 : Int), ()))) := by kernel_rfl

theorem T_spec_l5Skip_den (N : Nat) (code1 : List (Int × Int × Int × Int)) (i2 : Int) :
 den (R := ODen (T_spec_l5Skip_sg N).ps × RDen (T_spec_l5Skip_sg N).rs) tab (T_spec_l5Skip_ctx N) T_spec_l5Skip_ann N (T_spec_l5Skip_sg N) Try.f119 (code1, i2, ()) some =
 (T_spec_l5Skip N code1 i2 : Option (ODen (T_spec_l5Skip_sg N).ps × RDen (T_spec_l5Skip_sg N).rs)) := by
  have h : den (R := ODen (T_spec_l5Skip_sg N).ps × RDen (T_spec_l5Skip_sg N).rs) tab (T_spec_l5Skip_ctx N) T_spec_l5Skip_ann N (T_spec_l5Skip_sg N) Try.f119 (code1, i2, ()) some =
 (bif inb i2 (List.length code1) then
 (bif decide ((iadd .i64 (iadd .i64 i2 (1 : Int)) (List.getD code1 (Int.toNat i2) ((0 : Int), ((0 : Int), ((0 : Int), (0 : Int))))).2.2.1) > (ilen code1)) then
 (some (α := ODen (T_spec_l5Skip_sg N).ps × RDen (T_spec_l5Skip_sg N).rs) ((), (false, ())))
 else
 (T_spec_l5Skip_lp0_m N N (T_spec_l5Skip_lp0_sh code1 (iadd .i64 (iadd .i64 i2 (1 : Int)) (List.getD code1 (Int.toNat i2) ((0 : Int), ((0 : Int), ((0 : Int), (0 : Int))))).2.2.1) (0 : Int) (iadd .i64 i2 (1 : Int))) (ctxK (R := ODen (T_spec_l5Skip_sg N).ps × RDen (T_spec_l5Skip_sg N).rs) tab (T_spec_l5Skip_ctx N) T_spec_l5Skip_ann N (theCode Try.f119) [1, 1, 1, 1, 0, 1, 0] (retK tab (T_spec_l5Skip_sg N) Try.f119.results.toList some)))) else none) := by kernel_rfl
  rw [h]
  (try simp only [T_spec_l5Skip_lp0_eq, T_spec_l5Skip_c1, T_spec_l5Skip_c2]) <;> rfl

theorem T_spec_l5Skip_ok (N : Nat) : chkBody Try.f119 (T_spec_l5Skip_sg N).ps = true := by kernel_rfl

theorem T_spec_l5Skip_callable : Callable Try.prog 119 := callable_of Try.func119 (show chkFn Try.f119 = true by kernel_rfl)

theorem T_spec_l5Skip_good (N : Nat) : Good Try.prog 119 (T_spec_l5Skip_sg N) :=
  good_body mixedOk tabOk ctx_nil Try.func119 (T_spec_l5Skip_ok N) (fun d _ h => ⟨N, (T_spec_l5Skip_den N d.1 d.2.1).trans h⟩)

noncomputable def T_spec_CodeOk_sg (N : Nat) : Sig := Sig.of [.v (.slice (.prod (.int .i64) (.prod (.int .i64) (.prod (.int .i64) (.int .i64))))) false] [.v (.bool) false] (fun d => T_spec_CodeOk N d.1)

def T_spec_CodeOk_ann : Nat → List Ghost
  | 6 => [.canon [0, 3, 4, 5, 12]]
  | 7 => [.canon [0, 3, 4, 5]]
  | 8 => [.canon [0, 3, 4, 5, 20]]
  | 9 => [.canon [2]]
  | 10 => [.canon [0, 3, 4, 5, 25]]
  | 11 => [.canon [0, 3, 4, 5, 25, 26]]
  | 12 => [.canon [0, 3, 4, 5]]
  | 13 => [.canon [0, 3, 4, 5, 25, 30]]
  | 14 => [.canon [0, 3, 4, 5]]
  | 15 => [.canon [0, 3, 4, 5, 25, 34]]
  | 16 => [.canon [0, 3, 4, 5, 39]]
  | 17 => [.canon [2]]
  | 18 => [.canon [0, 3, 4, 5, 40]]
  | 19 => [.canon [0, 3, 4, 5]]
  | 20 => [.canon [0, 3, 4, 5, 49]]
  | 21 => [.canon [2]]
  | 22 => [.canon [0, 3, 4, 5, 51]]
  | 23 => [.canon [2]]
  | 100006 => [.canon [0, 3, 4, 5]]
  | _ => []

noncomputable def T_spec_CodeOk_ctx (N : Nat) : Ctx := [(96, T_spec_OpOk_sg N), (119, T_spec_l5Skip_sg N)]

def T_spec_CodeOk_lp0_sh (code2 : List (Int × Int × Int × Int)) (d3 : Int) (forks4 : Int) (i5 : Int) : St := { env := [(0, .s (.one (.val (.slice (.prod (.int .i64) (.prod (.int .i64) (.prod (.int .i64) (.int .i64))))) (code2 : List (Int × Int × Int × Int))))), (3, .s (.one (.val (.int .i64) (d3 : Int)))), (4, .s (.one (.val (.int .i64) (forks4 : Int)))), (5, .s (.one (.val (.int .i64) (i5 : Int))))], objs := [], nx := 0 }

def T_spec_CodeOk_lp0_e0 (code2 : List (Int × Int × Int × Int)) : St := { env := [(2, .s (.one (.val (.bool) (false : Bool))))], objs := [], nx := 0 }

def T_spec_CodeOk_lp0_e1 (code2 : List (Int × Int × Int × Int)) (d8 : Int) (forks9 : Int) (i10 : Int) (t11 : Bool) : St := { env := [(0, .s (.one (.val (.slice (.prod (.int .i64) (.prod (.int .i64) (.prod (.int .i64) (.int .i64))))) (code2 : List (Int × Int × Int × Int))))), (3, .s (.one (.val (.int .i64) (d8 : Int)))), (4, .s (.one (.val (.int .i64) (forks9 : Int)))), (5, .s (.one (.val (.int .i64) (i10 : Int)))), (12, .s (.one (.val (.bool) (t11 : Bool))))], objs := [], nx := 0 }

noncomputable def T_spec_CodeOk_lp0_m (N : Nat) {R : Type} (n : Nat) (st : St) (K : Ex → St → Option R) : Option R := loopN (roundG (T_spec_CodeOk_ann 100006) fun st k => sx tab (T_spec_CodeOk_ctx N) T_spec_CodeOk_ann N (nthLoop Try.f93 0) st k) n st K

theorem T_spec_CodeOk_lp0_step (N : Nat) {R : Type} (n : Nat) (K : Ex → St → Option R) (code2 : List (Int × Int × Int × Int)) (d3 : Int) (forks4 : Int) (i5 : Int) :
    T_spec_CodeOk_lp0_m N (n + 1) (T_spec_CodeOk_lp0_sh code2 d3 forks4 i5) K =
    (bif decide (i5 < (ilen code2)) then
 (bif inb i5 (List.length code2) then
 ((T_spec_OpOk N (List.getD code2 (Int.toNat i5) ((0 : Int), ((0 : Int), ((0 : Int), (0 : Int)))))).bind fun o12 =>
 (bif !o12.2.1 then
 (K .ret (T_spec_CodeOk_lp0_e0 code2))
 else
 (bif inb i5 (List.length code2) then
 (bif (List.getD code2 (Int.toNat i5) ((0 : Int), ((0 : Int), ((0 : Int), (0 : Int))))).1 == (8 : Int) then
 (bif decide ((iadd .i64 d3 (1 : Int)) < (0 : Int)) then
 (K .ret (T_spec_CodeOk_lp0_e0 code2))
 else
 (T_spec_CodeOk_lp0_m N n (T_spec_CodeOk_lp0_sh code2 (iadd .i64 d3 (1 : Int)) forks4 (iadd .i64 i5 (1 : Int))) K))
 else
 (bif (List.getD code2 (Int.toNat i5) ((0 : Int), ((0 : Int), ((0 : Int), (0 : Int))))).1 == (9 : Int) then
 (bif decide ((isub .i64 d3 (1 : Int)) < (0 : Int)) then
 (K .ret (T_spec_CodeOk_lp0_e0 code2))
 else
 (T_spec_CodeOk_lp0_m N n (T_spec_CodeOk_lp0_sh code2 (isub .i64 d3 (1 : Int)) forks4 (iadd .i64 i5 (1 : Int))) K))
 else
 (bif (List.getD code2 (Int.toNat i5) ((0 : Int), ((0 : Int), ((0 : Int), (0 : Int))))).1 == (7 : Int) then
 ((T_spec_l5Skip N code2 i5).bind fun o13 =>
 (bif !o13.2.1 then
 (K .ret (T_spec_CodeOk_lp0_e0 code2))
 else
 (bif decide (d3 < (0 : Int)) then
 (K .ret (T_spec_CodeOk_lp0_e0 code2))
 else
 (T_spec_CodeOk_lp0_m N n (T_spec_CodeOk_lp0_sh code2 d3 forks4 (iadd .i64 i5 (1 : Int))) K))))
 else
 (bif (List.getD code2 (Int.toNat i5) ((0 : Int), ((0 : Int), ((0 : Int), (0 : Int))))).1 == (11 : Int) then
 (bif decide (d3 > (0 : Int)) then
 (K .ret (T_spec_CodeOk_lp0_e0 code2))
 else
 (bif decide ((iadd .i64 forks4 (1 : Int)) > (1 : Int)) then
 (K .ret (T_spec_CodeOk_lp0_e0 code2))
 else
 (bif decide (d3 < (0 : Int)) then
 (K .ret (T_spec_CodeOk_lp0_e0 code2))
 else
 (T_spec_CodeOk_lp0_m N n (T_spec_CodeOk_lp0_sh code2 d3 (iadd .i64 forks4 (1 : Int)) (iadd .i64 i5 (1 : Int))) K))))
 else
 (bif decide (d3 < (0 : Int)) then
 (K .ret (T_spec_CodeOk_lp0_e0 code2))
 else
 (T_spec_CodeOk_lp0_m N n (T_spec_CodeOk_lp0_sh code2 d3 forks4 (iadd .i64 i5 (1 : Int))) K)))))) else none))) else none)
 else
 (K (.exit 0) (T_spec_CodeOk_lp0_e1 code2 d3 forks4 i5 (decide (i5 < (ilen code2)))))) := by kernel_rfl

theorem T_spec_CodeOk_lp0_eq (N : Nat) {R : Type} (code2 : List (Int × Int × Int × Int)) (K : Ex → St → Option R) : ∀ (n : Nat) (d3 : Int) (forks4 : Int) (i5 : Int), T_spec_CodeOk_lp0_m N n (T_spec_CodeOk_lp0_sh code2 d3 forks4 i5) K = T_spec_CodeOk_lp0 N code2 (K .ret (T_spec_CodeOk_lp0_e0 code2)) (fun d8 forks9 i10 t11 => (K (.exit 0) (T_spec_CodeOk_lp0_e1 code2 d8 forks9 i10 t11))) n d3 forks4 i5
  | 0, _, _, _ => rfl
  | n + 1, d3, forks4, i5 => by rw [T_spec_CodeOk_lp0_step, T_spec_CodeOk_lp0]; (try simp only [T_spec_CodeOk_lp0_eq N code2 K n])

theorem T_spec_CodeOk_c1 (N : Nat) (code1 : List (Int × Int × Int × Int)) :
    ((ctxK (R := ODen (T_spec_CodeOk_sg N).ps × RDen (T_spec_CodeOk_sg N).rs) tab (T_spec_CodeOk_ctx N) T_spec_CodeOk_ann N (theCode Try.f93) [1, 1, 1, 1, 0, 1, 0] (retK tab (T_spec_CodeOk_sg N) Try.f93.results.toList some)) .ret (T_spec_CodeOk_lp0_e0 code1)) =
    (some (α := ODen (T_spec_CodeOk_sg N).ps × RDen (T_spec_CodeOk_sg N).rs) ((), (false, ()))) := by kernel_rfl

theorem T_spec_CodeOk_c2 (N : Nat) (code1 : List (Int × Int × Int × Int)) (d14 : Int) (forks15 : Int) (i16 : Int) (t17 : Bool) :
    ((ctxK (R := ODen (T_spec_CodeOk_sg N).ps × RDen (T_spec_CodeOk_sg N).rs) tab (T_spec_CodeOk_ctx N) T_spec_CodeOk_ann N (theCode Try.f93) [1, 1, 1, 1, 0, 1, 0] (retK tab (T_spec_CodeOk_sg N) Try.f93.results.toList some)) (.exit 0) (T_spec_CodeOk_lp0_e1 code1 d14 forks15 i16 t17)) =
    (some (α := ODen (T_spec_CodeOk_sg N).ps × RDen (T_spec_CodeOk_sg N).rs) ((), (d14 == (0 : Int), ()))) := by kernel_rfl

theorem T_spec_CodeOk_den (N : Nat) (code1 : List (Int × Int × Int × Int)) :
 den (R := ODen (T_spec_CodeOk_sg N).ps × RDen (T_spec_CodeOk_sg N).rs) tab (T_spec_CodeOk_ctx N) T_spec_CodeOk_ann N (T_spec_CodeOk_sg N) Try.f93 (code1, ()) some =
 (T_spec_CodeOk N code1 : Option (ODen (T_spec_CodeOk_sg N).ps × RDen (T_spec_CodeOk_sg N).rs)) := by
  have h : den (R := ODen (T_spec_CodeOk_sg N).ps × RDen (T_spec_CodeOk_sg N).rs) tab (T_spec_CodeOk_ctx N) T_spec_CodeOk_ann N (T_spec_CodeOk_sg N) Try.f93 (code1, ()) some =
 (bif decide ((ilen code1) > (24 : Int)) then
 (some (α := ODen (T_spec_CodeOk_sg N).ps × RDen (T_spec_CodeOk_sg N).rs) ((), (false, ())))
 else
 (T_spec_CodeOk_lp0_m N N (T_spec_CodeOk_lp0_sh code1 (0 : Int) (0 : Int) (0 : Int)) (ctxK (R := ODen (T_spec_CodeOk_sg N).ps × RDen (T_spec_CodeOk_sg N).rs) tab (T_spec_CodeOk_ctx N) T_spec_CodeOk_ann N (theCode Try.f93) [1, 1, 1, 1, 0, 1, 0] (retK tab (T_spec_CodeOk_sg N) Try.f93.results.toList some)))) := by kernel_rfl
  rw [h]
  (try simp only [T_spec_CodeOk_lp0_eq, T_spec_CodeOk_c1, T_spec_CodeOk_c2]) <;> rfl

theorem T_spec_CodeOk_ok (N : Nat) : chkBody Try.f93 (T_spec_CodeOk_sg N).ps = true := by kernel_rfl

theorem T_spec_CodeOk_callable : Callable Try.prog 93 := callable_of Try.func93 (show chkFn Try.f93 = true by kernel_rfl)

theorem T_spec_CodeOk_good (N : Nat) : Good Try.prog 93 (T_spec_CodeOk_sg N) :=
  good_body mixedOk tabOk (ctx_cons (T_spec_OpOk_good N) T_spec_OpOk_callable (ctx_cons (T_spec_l5Skip_good N) T_spec_l5Skip_callable ctx_nil)) Try.func93 (T_spec_CodeOk_ok N) (fun d _ h => ⟨N, (T_spec_CodeOk_den N d.1).trans h⟩)

noncomputable def T_spec_HasFork_sg (N : Nat) : Sig := Sig.of [.v (.slice (.prod (.int .i64) (.prod (.int .i64) (.prod (.int .i64) (.int .i64))))) false] [.v (.bool) false] (fun d => T_spec_HasFork N d.1)

def T_spec_HasFork_ann : Nat → List Ghost
  | 2 => [.canon [0, 3, 7]]
  | 3 => [.canon [0, 3]]
  | 4 => [.canon [0, 3, 15]]
  | 5 => [.canon [2]]
  | 100002 => [.canon [0, 3]]
  | _ => []

noncomputable def T_spec_HasFork_ctx (N : Nat) : Ctx := []

def T_spec_HasFork_lp0_sh (code2 : List (Int × Int × Int × Int)) (i3 : Int) : St := { env := [(0, .s (.one (.val (.slice (.prod (.int .i64) (.prod (.int .i64) (.prod (.int .i64) (.int .i64))))) (code2 : List (Int × Int × Int × Int))))), (3, .s (.one (.val (.int .i64) (i3 : Int))))], objs := [], nx := 0 }

def T_spec_HasFork_lp0_e0 (code2 : List (Int × Int × Int × Int)) : St := { env := [(2, .s (.one (.val (.bool) (true : Bool))))], objs := [], nx := 0 }

def T_spec_HasFork_lp0_e1 (code2 : List (Int × Int × Int × Int)) (i4 : Int) (t5 : Bool) : St := { env := [(0, .s (.one (.val (.slice (.prod (.int .i64) (.prod (.int .i64) (.prod (.int .i64) (.int .i64))))) (code2 : List (Int × Int × Int × Int))))), (3, .s (.one (.val (.int .i64) (i4 : Int)))), (7, .s (.one (.val (.bool) (t5 : Bool))))], objs := [], nx := 0 }

noncomputable def T_spec_HasFork_lp0_m (N : Nat) {R : Type} (n : Nat) (st : St) (K : Ex → St → Option R) : Option R := loopN (roundG (T_spec_HasFork_ann 100002) fun st k => sx tab (T_spec_HasFork_ctx N) T_spec_HasFork_ann N (nthLoop Try.f94 0) st k) n st K

theorem T_spec_HasFork_lp0_step (N : Nat) {R : Type} (n : Nat) (K : Ex → St → Option R) (code2 : List (Int × Int × Int × Int)) (i3 : Int) :
    T_spec_HasFork_lp0_m N (n + 1) (T_spec_HasFork_lp0_sh code2 i3) K =
    (bif decide (i3 < (ilen code2)) then
 (bif inb i3 (List.length code2) then
 (bif (List.getD code2 (Int.toNat i3) ((0 : Int), ((0 : Int), ((0 : Int), (0 : Int))))).1 == (11 : Int) then
 (K .ret (T_spec_HasFork_lp0_e0 code2))
 else
 (T_spec_HasFork_lp0_m N n (T_spec_HasFork_lp0_sh code2 (iadd .i64 i3 (1 : Int))) K)) else none)
 else
 (K (.exit 0) (T_spec_HasFork_lp0_e1 code2 i3 (decide (i3 < (ilen code2)))))) := by kernel_rfl

theorem T_spec_HasFork_lp0_eq (N : Nat) {R : Type} (code2 : List (Int × Int × Int × Int)) (K : Ex → St → Option R) : ∀ (n : Nat) (i3 : Int), T_spec_HasFork_lp0_m N n (T_spec_HasFork_lp0_sh code2 i3) K = T_spec_HasFork_lp0 N code2 (K .ret (T_spec_HasFork_lp0_e0 code2)) (fun i4 t5 => (K (.exit 0) (T_spec_HasFork_lp0_e1 code2 i4 t5))) n i3
  | 0, _ => rfl
  | n + 1, i3 => by rw [T_spec_HasFork_lp0_step, T_spec_HasFork_lp0]; (try simp only [T_spec_HasFork_lp0_eq N code2 K n])

theorem T_spec_HasFork_c1 (N : Nat) (code1 : List (Int × Int × Int × Int)) :
    ((ctxK (R := ODen (T_spec_HasFork_sg N).ps × RDen (T_spec_HasFork_sg N).rs) tab (T_spec_HasFork_ctx N) T_spec_HasFork_ann N (theCode Try.f94) [1, 0, 1, 0] (retK tab (T_spec_HasFork_sg N) Try.f94.results.toList some)) .ret (T_spec_HasFork_lp0_e0 code1)) =
    (some (α := ODen (T_spec_HasFork_sg N).ps × RDen (T_spec_HasFork_sg N).rs) ((), (true, ()))) := by kernel_rfl

theorem T_spec_HasFork_c2 (N : Nat) (code1 : List (Int × Int × Int × Int)) (i6 : Int) (t7 : Bool) :
    ((ctxK (R := ODen (T_spec_HasFork_sg N).ps × RDen (T_spec_HasFork_sg N).rs) tab (T_spec_HasFork_ctx N) T_spec_HasFork_ann N (theCode Try.f94) [1, 0, 1, 0] (retK tab (T_spec_HasFork_sg N) Try.f94.results.toList some)) (.exit 0) (T_spec_HasFork_lp0_e1 code1 i6 t7)) =
    (some (α := ODen (T_spec_HasFork_sg N).ps × RDen (T_spec_HasFork_sg N).rs) ((), (false, ()))) := by kernel_rfl

theorem T_spec_HasFork_den (N : Nat) (code1 : List (Int × Int × Int × Int)) :
 den (R := ODen (T_spec_HasFork_sg N).ps × RDen (T_spec_HasFork_sg N).rs) tab (T_spec_HasFork_ctx N) T_spec_HasFork_ann N (T_spec_HasFork_sg N) Try.f94 (code1, ()) some =
 (T_spec_HasFork N code1 : Option (ODen (T_spec_HasFork_sg N).ps × RDen (T_spec_HasFork_sg N).rs)) := by
  have h : den (R := ODen (T_spec_HasFork_sg N).ps × RDen (T_spec_HasFork_sg N).rs) tab (T_spec_HasFork_ctx N) T_spec_HasFork_ann N (T_spec_HasFork_sg N) Try.f94 (code1, ()) some =
 (T_spec_HasFork_lp0_m N N (T_spec_HasFork_lp0_sh code1 (0 : Int)) (ctxK (R := ODen (T_spec_HasFork_sg N).ps × RDen (T_spec_HasFork_sg N).rs) tab (T_spec_HasFork_ctx N) T_spec_HasFork_ann N (theCode Try.f94) [1, 0, 1, 0] (retK tab (T_spec_HasFork_sg N) Try.f94.results.toList some))) := by kernel_rfl
  rw [h]
  (try simp only [T_spec_HasFork_lp0_eq, T_spec_HasFork_c1, T_spec_HasFork_c2]) <;> rfl

theorem T_spec_HasFork_ok (N : Nat) : chkBody Try.f94 (T_spec_HasFork_sg N).ps = true := by kernel_rfl

theorem T_spec_HasFork_callable : Callable Try.prog 94 := callable_of Try.func94 (show chkFn Try.f94 = true by kernel_rfl)

theorem T_spec_HasFork_good (N : Nat) : Good Try.prog 94 (T_spec_HasFork_sg N) :=
  good_body mixedOk tabOk ctx_nil Try.func94 (T_spec_HasFork_ok N) (fun d _ h => ⟨N, (T_spec_HasFork_den N d.1).trans h⟩)

noncomputable def T_spec_Touches_sg (N : Nat) : Sig := Sig.of [.v (.prod (.int .i64) (.prod (.int .i64) (.prod (.int .i64) (.int .i64)))) true] [.v (.int .i64) false] (fun d => T_spec_Touches N d.1)

def T_spec_Touches_ann : Nat → List Ghost
  | _ => []

noncomputable def T_spec_Touches_ctx (N : Nat) : Ctx := [(96, T_spec_OpOk_sg N)]

theorem T_spec_Touches_den (N : Nat) (o1 : Int × Int × Int × Int) :
    den (R := ODen (T_spec_Touches_sg N).ps × RDen (T_spec_Touches_sg N).rs) tab (T_spec_Touches_ctx N) T_spec_Touches_ann N (T_spec_Touches_sg N) Try.f95 (o1, ()) some =
    (T_spec_Touches N o1 : Option (ODen (T_spec_Touches_sg N).ps × RDen (T_spec_Touches_sg N).rs)) := by kernel_rfl

theorem T_spec_Touches_ok (N : Nat) : chkBody Try.f95 (T_spec_Touches_sg N).ps = true := by kernel_rfl

theorem T_spec_Touches_callable : Callable Try.prog 95 := callable_of Try.func95 (show chkFn Try.f95 = true by kernel_rfl)

theorem T_spec_Touches_good (N : Nat) : Good Try.prog 95 (T_spec_Touches_sg N) :=
  good_body mixedOk tabOk (ctx_cons (T_spec_OpOk_good N) T_spec_OpOk_callable ctx_nil) Try.func95 (T_spec_Touches_ok N) (fun d _ h => ⟨N, (T_spec_Touches_den N d.1).trans h⟩)

noncomputable def T_spec_KidOk_sg (N : Nat) : Sig := Sig.of [.v (.slice (.prod (.int .i64) (.prod (.int .i64) (.prod (.int .i64) (.int .i64))))) false] [.v (.bool) false] (fun d => T_spec_KidOk N d.1)

def T_spec_KidOk_ann : Nat → List Ghost
  | 4 => [.canon [0, 3, 14]]
  | 5 => [.canon [0, 3]]
  | 6 => [.canon [0, 3, 22]]
  | 7 => [.canon [2]]
  | 100004 => [.canon [0, 3]]
  | _ => []

noncomputable def T_spec_KidOk_ctx (N : Nat) : Ctx := [(93, T_spec_CodeOk_sg N), (94, T_spec_HasFork_sg N), (95, T_spec_Touches_sg N)]

def T_spec_KidOk_lp0_sh (code4 : List (Int × Int × Int × Int)) (i5 : Int) : St := { env := [(0, .s (.one (.val (.slice (.prod (.int .i64) (.prod (.int .i64) (.prod (.int .i64) (.int .i64))))) (code4 : List (Int × Int × Int × Int))))), (3, .s (.one (.val (.int .i64) (i5 : Int))))], objs := [], nx := 0 }

def T_spec_KidOk_lp0_e0 (code4 : List (Int × Int × Int × Int)) : St := { env := [(2, .s (.one (.val (.bool) (false : Bool))))], objs := [], nx := 0 }

def T_spec_KidOk_lp0_e1 (code4 : List (Int × Int × Int × Int)) (i7 : Int) (t8 : Bool) : St := { env := [(0, .s (.one (.val (.slice (.prod (.int .i64) (.prod (.int .i64) (.prod (.int .i64) (.int .i64))))) (code4 : List (Int × Int × Int × Int))))), (3, .s (.one (.val (.int .i64) (i7 : Int)))), (14, .s (.one (.val (.bool) (t8 : Bool))))], objs := [], nx := 0 }

noncomputable def T_spec_KidOk_lp0_m (N : Nat) {R : Type} (n : Nat) (st : St) (K : Ex → St → Option R) : Option R := loopN (roundG (T_spec_KidOk_ann 100004) fun st k => sx tab (T_spec_KidOk_ctx N) T_spec_KidOk_ann N (nthLoop Try.f54 0) st k) n st K

theorem T_spec_KidOk_lp0_step (N : Nat) {R : Type} (n : Nat) (K : Ex → St → Option R) (code4 : List (Int × Int × Int × Int)) (i5 : Int) :
    T_spec_KidOk_lp0_m N (n + 1) (T_spec_KidOk_lp0_sh code4 i5) K =
    (bif decide (i5 < (ilen code4)) then
 (bif inb i5 (List.length code4) then
 ((T_spec_Touches N (List.getD code4 (Int.toNat i5) ((0 : Int), ((0 : Int), ((0 : Int), (0 : Int)))))).bind fun o9 =>
 (bif o9.2.1 == (2 : Int) then
 (K .ret (T_spec_KidOk_lp0_e0 code4))
 else
 (T_spec_KidOk_lp0_m N n (T_spec_KidOk_lp0_sh code4 (iadd .i64 i5 (1 : Int))) K))) else none)
 else
 (K (.exit 0) (T_spec_KidOk_lp0_e1 code4 i5 (decide (i5 < (ilen code4)))))) := by kernel_rfl

theorem T_spec_KidOk_lp0_eq (N : Nat) {R : Type} (code4 : List (Int × Int × Int × Int)) (K : Ex → St → Option R) : ∀ (n : Nat) (i5 : Int), T_spec_KidOk_lp0_m N n (T_spec_KidOk_lp0_sh code4 i5) K = T_spec_KidOk_lp0 N code4 (K .ret (T_spec_KidOk_lp0_e0 code4)) (fun i7 t8 => (K (.exit 0) (T_spec_KidOk_lp0_e1 code4 i7 t8))) n i5
  | 0, _ => rfl
  | n + 1, i5 => by rw [T_spec_KidOk_lp0_step, T_spec_KidOk_lp0]; (try simp only [T_spec_KidOk_lp0_eq N code4 K n])

theorem T_spec_KidOk_c1 (N : Nat) (code1 : List (Int × Int × Int × Int)) :
    ((ctxK (R := ODen (T_spec_KidOk_sg N).ps × RDen (T_spec_KidOk_sg N).rs) tab (T_spec_KidOk_ctx N) T_spec_KidOk_ann N (theCode Try.f54) [1, 1, 0, 1, 0] (retK tab (T_spec_KidOk_sg N) Try.f54.results.toList some)) .ret (T_spec_KidOk_lp0_e0 code1)) =
    (some (α := ODen (T_spec_KidOk_sg N).ps × RDen (T_spec_KidOk_sg N).rs) ((), (false, ()))) := by kernel_rfl

theorem T_spec_KidOk_c2 (N : Nat) (code1 : List (Int × Int × Int × Int)) (i10 : Int) (t11 : Bool) :
    ((ctxK (R := ODen (T_spec_KidOk_sg N).ps × RDen (T_spec_KidOk_sg N).rs) tab (T_spec_KidOk_ctx N) T_spec_KidOk_ann N (theCode Try.f54) [1, 1, 0, 1, 0] (retK tab (T_spec_KidOk_sg N) Try.f54.results.toList some)) (.exit 0) (T_spec_KidOk_lp0_e1 code1 i10 t11)) =
    (some (α := ODen (T_spec_KidOk_sg N).ps × RDen (T_spec_KidOk_sg N).rs) ((), (true, ()))) := by kernel_rfl

theorem T_spec_KidOk_den (N : Nat) (code1 : List (Int × Int × Int × Int)) :
 den (R := ODen (T_spec_KidOk_sg N).ps × RDen (T_spec_KidOk_sg N).rs) tab (T_spec_KidOk_ctx N) T_spec_KidOk_ann N (T_spec_KidOk_sg N) Try.f54 (code1, ()) some =
 (T_spec_KidOk N code1 : Option (ODen (T_spec_KidOk_sg N).ps × RDen (T_spec_KidOk_sg N).rs)) := by
  have h : den (R := ODen (T_spec_KidOk_sg N).ps × RDen (T_spec_KidOk_sg N).rs) tab (T_spec_KidOk_ctx N) T_spec_KidOk_ann N (T_spec_KidOk_sg N) Try.f54 (code1, ()) some =
 ((T_spec_CodeOk N code1).bind fun o2 =>
 (bif !o2.2.1 then
 (some (α := ODen (T_spec_KidOk_sg N).ps × RDen (T_spec_KidOk_sg N).rs) ((), (false, ())))
 else
 ((T_spec_HasFork N code1).bind fun o3 =>
 (bif o3.2.1 then
 (some (α := ODen (T_spec_KidOk_sg N).ps × RDen (T_spec_KidOk_sg N).rs) ((), (false, ())))
 else
 (T_spec_KidOk_lp0_m N N (T_spec_KidOk_lp0_sh code1 (0 : Int)) (ctxK (R := ODen (T_spec_KidOk_sg N).ps × RDen (T_spec_KidOk_sg N).rs) tab (T_spec_KidOk_ctx N) T_spec_KidOk_ann N (theCode Try.f54) [1, 1, 0, 1, 0] (retK tab (T_spec_KidOk_sg N) Try.f54.results.toList some))))))) := by kernel_rfl
  rw [h]
  (try simp only [T_spec_KidOk_lp0_eq, T_spec_KidOk_c1, T_spec_KidOk_c2]) <;> rfl

theorem T_spec_KidOk_ok (N : Nat) : chkBody Try.f54 (T_spec_KidOk_sg N).ps = true := by kernel_rfl

theorem T_spec_KidOk_callable : Callable Try.prog 54 := callable_of Try.func54 (show chkFn Try.f54 = true by kernel_rfl)

theorem T_spec_KidOk_good (N : Nat) : Good Try.prog 54 (T_spec_KidOk_sg N) :=
  good_body mixedOk tabOk (ctx_cons (T_spec_CodeOk_good N) T_spec_CodeOk_callable (ctx_cons (T_spec_HasFork_good N) T_spec_HasFork_callable (ctx_cons (T_spec_Touches_good N) T_spec_Touches_callable ctx_nil))) Try.func54 (T_spec_KidOk_ok N) (fun d _ h => ⟨N, (T_spec_KidOk_den N d.1).trans h⟩)

noncomputable def T_spec_l4Regs_sg (N : Nat) : Sig := Sig.of [.v (.slice (.int .i64)) false] [.v (.bool) false] (fun d => T_spec_l4Regs N d.1)

def T_spec_l4Regs_ann : Nat → List Ghost
  | 4 => [.canon [0, 3, 10]]
  | 5 => [.canon [0, 3]]
  | 6 => [.canon [0, 3, 18]]
  | 7 => [.canon [2]]
  | 100004 => [.canon [0, 3]]
  | _ => []

noncomputable def T_spec_l4Regs_ctx (N : Nat) : Ctx := [(81, T_spec_l3Val_sg N)]

def T_spec_l4Regs_lp0_sh (l2 : List Int) (i3 : Int) : St := { env := [(0, .s (.one (.val (.slice (.int .i64)) (l2 : List Int)))), (3, .s (.one (.val (.int .i64) (i3 : Int))))], objs := [], nx := 0 }

def T_spec_l4Regs_lp0_e0 (l2 : List Int) : St := { env := [(2, .s (.one (.val (.bool) (false : Bool))))], objs := [], nx := 0 }

def T_spec_l4Regs_lp0_e1 (l2 : List Int) (i5 : Int) (t6 : Bool) : St := { env := [(0, .s (.one (.val (.slice (.int .i64)) (l2 : List Int)))), (3, .s (.one (.val (.int .i64) (i5 : Int)))), (10, .s (.one (.val (.bool) (t6 : Bool))))], objs := [], nx := 0 }

noncomputable def T_spec_l4Regs_lp0_m (N : Nat) {R : Type} (n : Nat) (st : St) (K : Ex → St → Option R) : Option R := loopN (roundG (T_spec_l4Regs_ann 100004) fun st k => sx tab (T_spec_l4Regs_ctx N) T_spec_l4Regs_ann N (nthLoop Try.f55 0) st k) n st K

theorem T_spec_l4Regs_lp0_step (N : Nat) {R : Type} (n : Nat) (K : Ex → St → Option R) (l2 : List Int) (i3 : Int) :
    T_spec_l4Regs_lp0_m N (n + 1) (T_spec_l4Regs_lp0_sh l2 i3) K =
    (bif decide (i3 < (ilen l2)) then
 (bif inb i3 (List.length l2) then
 ((T_spec_l3Val N (List.getD l2 (Int.toNat i3) (0 : Int))).bind fun o7 =>
 (bif !o7.2.1 then
 (K .ret (T_spec_l4Regs_lp0_e0 l2))
 else
 (T_spec_l4Regs_lp0_m N n (T_spec_l4Regs_lp0_sh l2 (iadd .i64 i3 (1 : Int))) K))) else none)
 else
 (K (.exit 0) (T_spec_l4Regs_lp0_e1 l2 i3 (decide (i3 < (ilen l2)))))) := by kernel_rfl

theorem T_spec_l4Regs_lp0_eq (N : Nat) {R : Type} (l2 : List Int) (K : Ex → St → Option R) : ∀ (n : Nat) (i3 : Int), T_spec_l4Regs_lp0_m N n (T_spec_l4Regs_lp0_sh l2 i3) K = T_spec_l4Regs_lp0 N l2 (K .ret (T_spec_l4Regs_lp0_e0 l2)) (fun i5 t6 => (K (.exit 0) (T_spec_l4Regs_lp0_e1 l2 i5 t6))) n i3
  | 0, _ => rfl
  | n + 1, i3 => by rw [T_spec_l4Regs_lp0_step, T_spec_l4Regs_lp0]; (try simp only [T_spec_l4Regs_lp0_eq N l2 K n])

theorem T_spec_l4Regs_c1 (N : Nat) (l1 : List Int) :
    ((ctxK (R := ODen (T_spec_l4Regs_sg N).ps × RDen (T_spec_l4Regs_sg N).rs) tab (T_spec_l4Regs_ctx N) T_spec_l4Regs_ann N (theCode Try.f55) [1, 1, 0, 1, 0] (retK tab (T_spec_l4Regs_sg N) Try.f55.results.toList some)) .ret (T_spec_l4Regs_lp0_e0 l1)) =
    (some (α := ODen (T_spec_l4Regs_sg N).ps × RDen (T_spec_l4Regs_sg N).rs) ((), (false, ()))) := by kernel_rfl

theorem T_spec_l4Regs_c2 (N : Nat) (l1 : List Int) (i8 : Int) (t9 : Bool) :
    ((ctxK (R := ODen (T_spec_l4Regs_sg N).ps × RDen (T_spec_l4Regs_sg N).rs) tab (T_spec_l4Regs_ctx N) T_spec_l4Regs_ann N (theCode Try.f55) [1, 1, 0, 1, 0] (retK tab (T_spec_l4Regs_sg N) Try.f55.results.toList some)) (.exit 0) (T_spec_l4Regs_lp0_e1 l1 i8 t9)) =
    (some (α := ODen (T_spec_l4Regs_sg N).ps × RDen (T_spec_l4Regs_sg N).rs) ((), (true, ()))) := by kernel_rfl

theorem T_spec_l4Regs_den (N : Nat) (l1 : List Int) :
 den (R := ODen (T_spec_l4Regs_sg N).ps × RDen (T_spec_l4Regs_sg N).rs) tab (T_spec_l4Regs_ctx N) T_spec_l4Regs_ann N (T_spec_l4Regs_sg N) Try.f55 (l1, ()) some =
 (T_spec_l4Regs N l1 : Option (ODen (T_spec_l4Regs_sg N).ps × RDen (T_spec_l4Regs_sg N).rs)) := by
  have h : den (R := ODen (T_spec_l4Regs_sg N).ps × RDen (T_spec_l4Regs_sg N).rs) tab (T_spec_l4Regs_ctx N) T_spec_l4Regs_ann N (T_spec_l4Regs_sg N) Try.f55 (l1, ()) some =
 (bif (ilen l1) != (4 : Int) then
 (some (α := ODen (T_spec_l4Regs_sg N).ps × RDen (T_spec_l4Regs_sg N).rs) ((), (false, ())))
 else
 (T_spec_l4Regs_lp0_m N N (T_spec_l4Regs_lp0_sh l1 (0 : Int)) (ctxK (R := ODen (T_spec_l4Regs_sg N).ps × RDen (T_spec_l4Regs_sg N).rs) tab (T_spec_l4Regs_ctx N) T_spec_l4Regs_ann N (theCode Try.f55) [1, 1, 0, 1, 0] (retK tab (T_spec_l4Regs_sg N) Try.f55.results.toList some)))) := by kernel_rfl
  rw [h]
  (try simp only [T_spec_l4Regs_lp0_eq, T_spec_l4Regs_c1, T_spec_l4Regs_c2]) <;> rfl

theorem T_spec_l4Regs_ok (N : Nat) : chkBody Try.f55 (T_spec_l4Regs_sg N).ps = true := by kernel_rfl

theorem T_spec_l4Regs_callable : Callable Try.prog 55 := callable_of Try.func55 (show chkFn Try.f55 = true by kernel_rfl)

theorem T_spec_l4Regs_good (N : Nat) : Good Try.prog 55 (T_spec_l4Regs_sg N) :=
  good_body mixedOk tabOk (ctx_cons (T_spec_l3Val_good N) T_spec_l3Val_callable ctx_nil) Try.func55 (T_spec_l4Regs_ok N) (fun d _ h => ⟨N, (T_spec_l4Regs_den N d.1).trans h⟩)

noncomputable def T_spec_l3Vals_sg (N : Nat) : Sig := Sig.of [.v (.slice (.int .i64)) false] [.v (.bool) false] (fun d => T_spec_l3Vals N d.1)

def T_spec_l3Vals_ann : Nat → List Ghost
  | 4 => [.canon [0, 3, 10]]
  | 5 => [.canon [0, 3]]
  | 6 => [.canon [0, 3, 18]]
  | 7 => [.canon [2]]
  | 100004 => [.canon [0, 3]]
  | _ => []

noncomputable def T_spec_l3Vals_ctx (N : Nat) : Ctx := [(81, T_spec_l3Val_sg N)]

def T_spec_l3Vals_lp0_sh (l2 : List Int) (i3 : Int) : St := { env := [(0, .s (.one (.val (.slice (.int .i64)) (l2 : List Int)))), (3, .s (.one (.val (.int .i64) (i3 : Int))))], objs := [], nx := 0 }

def T_spec_l3Vals_lp0_e0 (l2 : List Int) : St := { env := [(2, .s (.one (.val (.bool) (false : Bool))))], objs := [], nx := 0 }

def T_spec_l3Vals_lp0_e1 (l2 : List Int) (i5 : Int) (t6 : Bool) : St := { env := [(0, .s (.one (.val (.slice (.int .i64)) (l2 : List Int)))), (3, .s (.one (.val (.int .i64) (i5 : Int)))), (10, .s (.one (.val (.bool) (t6 : Bool))))], objs := [], nx := 0 }

noncomputable def T_spec_l3Vals_lp0_m (N : Nat) {R : Type} (n : Nat) (st : St) (K : Ex → St → Option R) : Option R := loopN (roundG (T_spec_l3Vals_ann 100004) fun st k => sx tab (T_spec_l3Vals_ctx N) T_spec_l3Vals_ann N (nthLoop Try.f51 0) st k) n st K

theorem T_spec_l3Vals_lp0_step (N : Nat) {R : Type} (n : Nat) (K : Ex → St → Option R) (l2 : List Int) (i3 : Int) :
    T_spec_l3Vals_lp0_m N (n + 1) (T_spec_l3Vals_lp0_sh l2 i3) K =
    (bif decide (i3 < (ilen l2)) then
 (bif inb i3 (List.length l2) then
 ((T_spec_l3Val N (List.getD l2 (Int.toNat i3) (0 : Int))).bind fun o7 =>
 (bif !o7.2.1 then
 (K .ret (T_spec_l3Vals_lp0_e0 l2))
 else
 (T_spec_l3Vals_lp0_m N n (T_spec_l3Vals_lp0_sh l2 (iadd .i64 i3 (1 : Int))) K))) else none)
 else
 (K (.exit 0) (T_spec_l3Vals_lp0_e1 l2 i3 (decide (i3 < (ilen l2)))))) := by kernel_rfl

theorem T_spec_l3Vals_lp0_eq (N : Nat) {R : Type} (l2 : List Int) (K : Ex → St → Option R) : ∀ (n : Nat) (i3 : Int), T_spec_l3Vals_lp0_m N n (T_spec_l3Vals_lp0_sh l2 i3) K = T_spec_l3Vals_lp0 N l2 (K .ret (T_spec_l3Vals_lp0_e0 l2)) (fun i5 t6 => (K (.exit 0) (T_spec_l3Vals_lp0_e1 l2 i5 t6))) n i3
  | 0, _ => rfl
  | n + 1, i3 => by rw [T_spec_l3Vals_lp0_step, T_spec_l3Vals_lp0]; (try simp only [T_spec_l3Vals_lp0_eq N l2 K n])

theorem T_spec_l3Vals_c1 (N : Nat) (l1 : List Int) :
    ((ctxK (R := ODen (T_spec_l3Vals_sg N).ps × RDen (T_spec_l3Vals_sg N).rs) tab (T_spec_l3Vals_ctx N) T_spec_l3Vals_ann N (theCode Try.f51) [1, 1, 0, 1, 0] (retK tab (T_spec_l3Vals_sg N) Try.f51.results.toList some)) .ret (T_spec_l3Vals_lp0_e0 l1)) =
    (some (α := ODen (T_spec_l3Vals_sg N).ps × RDen (T_spec_l3Vals_sg N).rs) ((), (false, ()))) := by kernel_rfl

theorem T_spec_l3Vals_c2 (N : Nat) (l1 : List Int) (i8 : Int) (t9 : Bool) :
    ((ctxK (R := ODen (T_spec_l3Vals_sg N).ps × RDen (T_spec_l3Vals_sg N).rs) tab (T_spec_l3Vals_ctx N) T_spec_l3Vals_ann N (theCode Try.f51) [1, 1, 0, 1, 0] (retK tab (T_spec_l3Vals_sg N) Try.f51.results.toList some)) (.exit 0) (T_spec_l3Vals_lp0_e1 l1 i8 t9)) =
    (some (α := ODen (T_spec_l3Vals_sg N).ps × RDen (T_spec_l3Vals_sg N).rs) ((), (true, ()))) := by kernel_rfl

theorem T_spec_l3Vals_den (N : Nat) (l1 : List Int) :
 den (R := ODen (T_spec_l3Vals_sg N).ps × RDen (T_spec_l3Vals_sg N).rs) tab (T_spec_l3Vals_ctx N) T_spec_l3Vals_ann N (T_spec_l3Vals_sg N) Try.f51 (l1, ()) some =
 (T_spec_l3Vals N l1 : Option (ODen (T_spec_l3Vals_sg N).ps × RDen (T_spec_l3Vals_sg N).rs)) := by
  have h : den (R := ODen (T_spec_l3Vals_sg N).ps × RDen (T_spec_l3Vals_sg N).rs) tab (T_spec_l3Vals_ctx N) T_spec_l3Vals_ann N (T_spec_l3Vals_sg N) Try.f51 (l1, ()) some =
 (bif (ilen l1) != (8 : Int) then
 (some (α := ODen (T_spec_l3Vals_sg N).ps × RDen (T_spec_l3Vals_sg N).rs) ((), (false, ())))
 else
 (T_spec_l3Vals_lp0_m N N (T_spec_l3Vals_lp0_sh l1 (0 : Int)) (ctxK (R := ODen (T_spec_l3Vals_sg N).ps × RDen (T_spec_l3Vals_sg N).rs) tab (T_spec_l3Vals_ctx N) T_spec_l3Vals_ann N (theCode Try.f51) [1, 1, 0, 1, 0] (retK tab (T_spec_l3Vals_sg N) Try.f51.results.toList some)))) := by kernel_rfl
  rw [h]
  (try simp only [T_spec_l3Vals_lp0_eq, T_spec_l3Vals_c1, T_spec_l3Vals_c2]) <;> rfl

theorem T_spec_l3Vals_ok (N : Nat) : chkBody Try.f51 (T_spec_l3Vals_sg N).ps = true := by kernel_rfl

theorem T_spec_l3Vals_callable : Callable Try.prog 51 := callable_of Try.func51 (show chkFn Try.f51 = true by kernel_rfl)

theorem T_spec_l3Vals_good (N : Nat) : Good Try.prog 51 (T_spec_l3Vals_sg N) :=
  good_body mixedOk tabOk (ctx_cons (T_spec_l3Val_good N) T_spec_l3Val_callable ctx_nil) Try.func51 (T_spec_l3Vals_ok N) (fun d _ h => ⟨N, (T_spec_l3Vals_den N d.1).trans h⟩)

noncomputable def T_spec_l15Ints_sg (N : Nat) : Sig := Sig.of [.v (.slice (.int .i64)) false] [.v (.own (.int .i64)) false] (fun d => T_spec_l15Ints N d.1)

def T_spec_l15Ints_ann : Nat → List Ghost
  | _ => []

noncomputable def T_spec_l15Ints_ctx (N : Nat) : Ctx := []

theorem T_spec_l15Ints_den (N : Nat) (l1 : List Int) :
    den (R := ODen (T_spec_l15Ints_sg N).ps × RDen (T_spec_l15Ints_sg N).rs) tab (T_spec_l15Ints_ctx N) T_spec_l15Ints_ann N (T_spec_l15Ints_sg N) Try.f56 (l1, ()) some =
    (T_spec_l15Ints N l1 : Option (ODen (T_spec_l15Ints_sg N).ps × RDen (T_spec_l15Ints_sg N).rs)) := by kernel_rfl

theorem T_spec_l15Ints_ok (N : Nat) : chkBody Try.f56 (T_spec_l15Ints_sg N).ps = true := by kernel_rfl

theorem T_spec_l15Ints_callable : Callable Try.prog 56 := callable_of Try.func56 (show chkFn Try.f56 = true by kernel_rfl)

theorem T_spec_l15Ints_good (N : Nat) : Good Try.prog 56 (T_spec_l15Ints_sg N) :=
  good_body mixedOk tabOk ctx_nil Try.func56 (T_spec_l15Ints_ok N) (fun d _ h => ⟨N, (T_spec_l15Ints_den N d.1).trans h⟩)

noncomputable def T_spec_l28Flags_sg (N : Nat) : Sig := Sig.of [.v (.slice (.bool)) false] [.v (.own (.bool)) false] (fun d => T_spec_l28Flags N d.1)

def T_spec_l28Flags_ann : Nat → List Ghost
  | _ => []

noncomputable def T_spec_l28Flags_ctx (N : Nat) : Ctx := []

theorem T_spec_l28Flags_den (N : Nat) (l1 : List Bool) :
    den (R := ODen (T_spec_l28Flags_sg N).ps × RDen (T_spec_l28Flags_sg N).rs) tab (T_spec_l28Flags_ctx N) T_spec_l28Flags_ann N (T_spec_l28Flags_sg N) Try.f57 (l1, ()) some =
    (T_spec_l28Flags N l1 : Option (ODen (T_spec_l28Flags_sg N).ps × RDen (T_spec_l28Flags_sg N).rs)) := by kernel_rfl

theorem T_spec_l28Flags_ok (N : Nat) : chkBody Try.f57 (T_spec_l28Flags_sg N).ps = true := by kernel_rfl

theorem T_spec_l28Flags_callable : Callable Try.prog 57 := callable_of Try.func57 (show chkFn Try.f57 = true by kernel_rfl)

theorem T_spec_l28Flags_good (N : Nat) : Good Try.prog 57 (T_spec_l28Flags_sg N) :=
  good_body mixedOk tabOk ctx_nil Try.func57 (T_spec_l28Flags_ok N) (fun d _ h => ⟨N, (T_spec_l28Flags_den N d.1).trans h⟩)

noncomputable def T_spec_EndOf_sg (N : Nat) : Sig := Sig.of [.v (.slice (.prod (.int .i64) (.prod (.int .i64) (.prod (.int .i64) (.int .i64))))) false, .v (.int .i64) false] [.v (.int .i64) false] (fun d => T_spec_EndOf N d.1 d.2.1)

def T_spec_EndOf_ann : Nat → List Ghost
  | 5 => [.canon [0, 5, 6, 27]]
  | 6 => [.canon [0, 5, 6]]
  | 7 => [.canon [0, 5, 6, 35]]
  | 8 => [.canon [0, 5, 6]]
  | 9 => [.canon [0, 5, 6, 43]]
  | 10 => [.canon [0, 5, 6]]
  | 11 => [.canon [0, 5, 6, 47]]
  | 12 => [.canon [4]]
  | 100005 => [.canon [0, 5, 6]]
  | _ => []

noncomputable def T_spec_EndOf_ctx (N : Nat) : Ctx := []

def T_spec_EndOf_lp0_sh (code3 : List (Int × Int × Int × Int)) (d4 : Int) (k5 : Int) : St := { env := [(0, .s (.one (.val (.slice (.prod (.int .i64) (.prod (.int .i64) (.prod (.int .i64) (.int .i64))))) (code3 : List (Int × Int × Int × Int))))), (5, .s (.one (.val (.int .i64) (d4 : Int)))), (6, .s (.one (.val (.int .i64) (k5 : Int))))], objs := [], nx := 0 }

def T_spec_EndOf_lp0_e0 (code3 : List (Int × Int × Int × Int)) (t6 : Int) : St := { env := [(4, .s (.one (.val (.int .i64) (t6 : Int))))], objs := [], nx := 0 }

def T_spec_EndOf_lp0_e1 (code3 : List (Int × Int × Int × Int)) (d7 : Int) (k8 : Int) (t9 : Bool) : St := { env := [(0, .s (.one (.val (.slice (.prod (.int .i64) (.prod (.int .i64) (.prod (.int .i64) (.int .i64))))) (code3 : List (Int × Int × Int × Int))))), (5, .s (.one (.val (.int .i64) (d7 : Int)))), (6, .s (.one (.val (.int .i64) (k8 : Int)))), (27, .s (.one (.val (.bool) (t9 : Bool))))], objs := [], nx := 0 }

noncomputable def T_spec_EndOf_lp0_m (N : Nat) {R : Type} (n : Nat) (st : St) (K : Ex → St → Option R) : Option R := loopN (roundG (T_spec_EndOf_ann 100005) fun st k => sx tab (T_spec_EndOf_ctx N) T_spec_EndOf_ann N (nthLoop Try.f58 0) st k) n st K

theorem T_spec_EndOf_lp0_step (N : Nat) {R : Type} (n : Nat) (K : Ex → St → Option R) (code3 : List (Int × Int × Int × Int)) (d4 : Int) (k5 : Int) :
    T_spec_EndOf_lp0_m N (n + 1) (T_spec_EndOf_lp0_sh code3 d4 k5) K =
    (bif decide (k5 < (ilen code3)) then
 (bif inb k5 (List.length code3) then
 (bif (List.getD code3 (Int.toNat k5) ((0 : Int), ((0 : Int), ((0 : Int), (0 : Int))))).1 == (8 : Int) then
 (bif inb k5 (List.length code3) then
 (bif (List.getD code3 (Int.toNat k5) ((0 : Int), ((0 : Int), ((0 : Int), (0 : Int))))).1 == (9 : Int) then
 (bif (isub .i64 (iadd .i64 d4 (1 : Int)) (1 : Int)) == (0 : Int) then
 (K .ret (T_spec_EndOf_lp0_e0 code3 k5))
 else
 (T_spec_EndOf_lp0_m N n (T_spec_EndOf_lp0_sh code3 (isub .i64 (iadd .i64 d4 (1 : Int)) (1 : Int)) (iadd .i64 k5 (1 : Int))) K))
 else
 (bif (iadd .i64 d4 (1 : Int)) == (0 : Int) then
 (K .ret (T_spec_EndOf_lp0_e0 code3 k5))
 else
 (T_spec_EndOf_lp0_m N n (T_spec_EndOf_lp0_sh code3 (iadd .i64 d4 (1 : Int)) (iadd .i64 k5 (1 : Int))) K))) else none)
 else
 (bif inb k5 (List.length code3) then
 (bif (List.getD code3 (Int.toNat k5) ((0 : Int), ((0 : Int), ((0 : Int), (0 : Int))))).1 == (9 : Int) then
 (bif (isub .i64 d4 (1 : Int)) == (0 : Int) then
 (K .ret (T_spec_EndOf_lp0_e0 code3 k5))
 else
 (T_spec_EndOf_lp0_m N n (T_spec_EndOf_lp0_sh code3 (isub .i64 d4 (1 : Int)) (iadd .i64 k5 (1 : Int))) K))
 else
 (bif d4 == (0 : Int) then
 (K .ret (T_spec_EndOf_lp0_e0 code3 k5))
 else
 (T_spec_EndOf_lp0_m N n (T_spec_EndOf_lp0_sh code3 d4 (iadd .i64 k5 (1 : Int))) K))) else none)) else none)
 else
 (K (.exit 0) (T_spec_EndOf_lp0_e1 code3 d4 k5 (decide (k5 < (ilen code3)))))) := by kernel_rfl

theorem T_spec_EndOf_lp0_eq (N : Nat) {R : Type} (code3 : List (Int × Int × Int × Int)) (K : Ex → St → Option R) : ∀ (n : Nat) (d4 : Int) (k5 : Int), T_spec_EndOf_lp0_m N n (T_spec_EndOf_lp0_sh code3 d4 k5) K = T_spec_EndOf_lp0 N code3 (fun t6 => (K .ret (T_spec_EndOf_lp0_e0 code3 t6))) (fun d7 k8 t9 => (K (.exit 0) (T_spec_EndOf_lp0_e1 code3 d7 k8 t9))) n d4 k5
  | 0, _, _ => rfl
  | n + 1, d4, k5 => by rw [T_spec_EndOf_lp0_step, T_spec_EndOf_lp0]; (try simp only [T_spec_EndOf_lp0_eq N code3 K n])

theorem T_spec_EndOf_c1 (N : Nat) (code1 : List (Int × Int × Int × Int)) (t10 : Int) :
    ((ctxK (R := ODen (T_spec_EndOf_sg N).ps × RDen (T_spec_EndOf_sg N).rs) tab (T_spec_EndOf_ctx N) T_spec_EndOf_ann N (theCode Try.f58) [1, 1, 1, 0, 1, 0] (retK tab (T_spec_EndOf_sg N) Try.f58.results.toList some)) .ret (T_spec_EndOf_lp0_e0 code1 t10)) =
    (some (α := ODen (T_spec_EndOf_sg N).ps × RDen (T_spec_EndOf_sg N).rs) ((), (t10, ()))) := by kernel_rfl

theorem T_spec_EndOf_c2 (N : Nat) (code1 : List (Int × Int × Int × Int)) (d11 : Int) (k12 : Int) (t13 : Bool) :
    ((ctxK (R := ODen (T_spec_EndOf_sg N).ps × RDen (T_spec_EndOf_sg N).rs) tab (T_spec_EndOf_ctx N) T_spec_EndOf_ann N (theCode Try.f58) [1, 1, 1, 0, 1, 0] (retK tab (T_spec_EndOf_sg N) Try.f58.results.toList some)) (.exit 0) (T_spec_EndOf_lp0_e1 code1 d11 k12 t13)) =
    (some (α := ODen (T_spec_EndOf_sg N).ps × RDen (T_spec_EndOf_sg N).rs) ((), ((-1 : Int), ()))) := by kernel_rfl

theorem T_spec_EndOf_den (N : Nat) (code1 : List (Int × Int × Int × Int)) (i2 : Int) :
 den (R := ODen (T_spec_EndOf_sg N).ps × RDen (T_spec_EndOf_sg N).rs) tab (T_spec_EndOf_ctx N) T_spec_EndOf_ann N (T_spec_EndOf_sg N) Try.f58 (code1, i2, ()) some =
 (T_spec_EndOf N code1 i2 : Option (ODen (T_spec_EndOf_sg N).ps × RDen (T_spec_EndOf_sg N).rs)) := by
  have h : den (R := ODen (T_spec_EndOf_sg N).ps × RDen (T_spec_EndOf_sg N).rs) tab (T_spec_EndOf_ctx N) T_spec_EndOf_ann N (T_spec_EndOf_sg N) Try.f58 (code1, i2, ()) some =
 (bif decide (i2 < (0 : Int)) then
 (some (α := ODen (T_spec_EndOf_sg N).ps × RDen (T_spec_EndOf_sg N).rs) ((), ((-1 : Int), ())))
 else
 (bif decide (i2 ≥ (ilen code1)) then
 (some (α := ODen (T_spec_EndOf_sg N).ps × RDen (T_spec_EndOf_sg N).rs) ((), ((-1 : Int), ())))
 else
 (bif inb i2 (List.length code1) then
 (bif (List.getD code1 (Int.toNat i2) ((0 : Int), ((0 : Int), ((0 : Int), (0 : Int))))).1 != (8 : Int) then
 (some (α := ODen (T_spec_EndOf_sg N).ps × RDen (T_spec_EndOf_sg N).rs) ((), ((-1 : Int), ())))
 else
 (T_spec_EndOf_lp0_m N N (T_spec_EndOf_lp0_sh code1 (0 : Int) i2) (ctxK (R := ODen (T_spec_EndOf_sg N).ps × RDen (T_spec_EndOf_sg N).rs) tab (T_spec_EndOf_ctx N) T_spec_EndOf_ann N (theCode Try.f58) [1, 1, 1, 0, 1, 0] (retK tab (T_spec_EndOf_sg N) Try.f58.results.toList some)))) else none))) := by kernel_rfl
  rw [h]
  (try simp only [T_spec_EndOf_lp0_eq, T_spec_EndOf_c1, T_spec_EndOf_c2]) <;> rfl

theorem T_spec_EndOf_ok (N : Nat) : chkBody Try.f58 (T_spec_EndOf_sg N).ps = true := by kernel_rfl

theorem T_spec_EndOf_callable : Callable Try.prog 58 := callable_of Try.func58 (show chkFn Try.f58 = true by kernel_rfl)

theorem T_spec_EndOf_good (N : Nat) : Good Try.prog 58 (T_spec_EndOf_sg N) :=
  good_body mixedOk tabOk ctx_nil Try.func58 (T_spec_EndOf_ok N) (fun d _ h => ⟨N, (T_spec_EndOf_den N d.1 d.2.1).trans h⟩)

noncomputable def T_spec_Calc_sg (N : Nat) : Sig := Sig.of [.v (.prod (.int .i64) (.prod (.int .i64) (.prod (.int .i64) (.int .i64)))) true, .v (.slice (.int .i64)) false] [.v (.own (.int .i64)) false, .v (.bool) false] (fun d => T_spec_Calc N d.1 d.2.1)

def T_spec_Calc_ann : Nat → List Ghost
  | _ => []

noncomputable def T_spec_Calc_ctx (N : Nat) : Ctx := [(96, T_spec_OpOk_sg N), (55, T_spec_l4Regs_sg N)]

theorem T_spec_Calc_den (N : Nat) (o1 : Int × Int × Int × Int) (regs2 : List Int) :
    den (R := ODen (T_spec_Calc_sg N).ps × RDen (T_spec_Calc_sg N).rs) tab (T_spec_Calc_ctx N) T_spec_Calc_ann N (T_spec_Calc_sg N) Try.f59 (o1, regs2, ()) some =
    (T_spec_Calc N o1 regs2 : Option (ODen (T_spec_Calc_sg N).ps × RDen (T_spec_Calc_sg N).rs)) := by kernel_rfl

theorem T_spec_Calc_ok (N : Nat) : chkBody Try.f59 (T_spec_Calc_sg N).ps = true := by kernel_rfl

theorem T_spec_Calc_callable : Callable Try.prog 59 := callable_of Try.func59 (show chkFn Try.f59 = true by kernel_rfl)

theorem T_spec_Calc_good (N : Nat) : Good Try.prog 59 (T_spec_Calc_sg N) :=
  good_body mixedOk tabOk (ctx_cons (T_spec_OpOk_good N) T_spec_OpOk_callable (ctx_cons (T_spec_l4Regs_good N) T_spec_l4Regs_callable ctx_nil)) Try.func59 (T_spec_Calc_ok N) (fun d _ h => ⟨N, (T_spec_Calc_den N d.1 d.2.1).trans h⟩)

noncomputable def T_spec_ReadsOf_sg (N : Nat) : Sig := Sig.of [.v (.slice (.prod (.int .i64) (.prod (.int .i64) (.prod (.int .i64) (.int .i64))))) false, .v (.slice (.int .i64)) false, .v (.slice (.int .i64)) false] [.v (.own (.int .i64)) false] (fun d => T_spec_ReadsOf N d.1 d.2.1 d.2.2.1)

def T_spec_ReadsOf_ann : Nat → List Ghost
  | 9 => [.canon [0, 1, 2, 7, 8, 9, 10, 43]]
  | 10 => [.canon [0, 1, 2, 7, 8, 9, 10, 11]]
  | 11 => [.canon [0, 1, 2, 7, 8, 9, 10, 11, 12]]
  | 12 => [.canon [0, 1, 2, 7, 8, 9, 10, 11, 12, 51]]
  | 13 => [.canon [0, 2, 7, 8, 9, 12, 15]]
  | 14 => [.canon [0, 1, 2, 7, 8, 9, 12]]
  | 15 => [.canon [0, 1, 2, 7, 8, 9, 10, 11, 12, 51, 59]]
  | 16 => [.canon [0, 1, 2, 7, 8, 9, 11, 12]]
  | 17 => [.canon [0, 1, 2, 7, 8, 9, 12]]
  | 18 => [.canon [0, 1, 2, 7, 8, 9, 10, 11, 12, 51, 87]]
  | 19 => [.canon [0, 1, 2, 7, 8, 9, 11, 12]]
  | 20 => [.canon [0, 1, 2, 7, 8, 9, 12]]
  | 21 => [.canon [0, 1, 2, 7, 8, 9, 10, 11, 12, 51, 102]]
  | 22 => [.canon [0, 1, 2, 7, 8, 9, 11, 12, 109]]
  | 23 => [.canon [0, 1, 2, 7, 8, 9, 12]]
  | 24 => [.canon [0, 1, 2, 7, 8, 9, 10, 11, 12, 51, 114]]
  | 25 => [.canon [0, 1, 2, 7, 8, 9, 12]]
  | 26 => [.canon [0, 1, 2, 7, 8, 9, 11, 12, 51, 127]]
  | 27 => [.canon [0, 1, 2, 7, 8, 9, 12, 13]]
  | 28 => [.canon [0, 1, 2, 7, 8, 9, 12, 13]]
  | 29 => [.canon [0, 1, 2, 7, 8, 9, 12]]
  | 30 => [.canon [0, 1, 2, 7, 8, 9, 11, 12, 148]]
  | 31 => [.canon [0, 1, 2, 7, 8, 9, 12]]
  | 32 => [.canon [0, 1, 2, 7, 8, 9, 12, 154]]
  | 33 => [.canon [0, 8, 9, 14]]
  | 34 => [.canon [0, 8, 9, 14]]
  | 35 => [.canon [0, 1, 8, 9, 14]]
  | 36 => [.canon [0, 1, 2, 8, 9, 14]]
  | 37 => [.canon [0, 1, 2, 7, 8, 9, 14]]
  | 38 => [.canon [0, 1, 2, 7, 8, 9, 14]]
  | 39 => [.canon [0, 1, 2, 7, 8, 9, 12]]
  | 40 => [.canon [0, 1, 2, 7, 8, 9, 10]]
  | 43 => [.canon [8, 17, 18, 193]]
  | 44 => [.canon [8, 17, 18]]
  | 45 => [.canon [8, 17, 18, 199]]
  | 46 => [.canon [8, 17, 18]]
  | 100009 => [.canon [0, 1, 2, 7, 8, 9, 10]]
  | 100043 => [.canon [8, 17, 18]]
  | _ => []

noncomputable def T_spec_ReadsOf_ctx (N : Nat) : Ctx := [(54, T_spec_KidOk_sg N), (55, T_spec_l4Regs_sg N), (51, T_spec_l3Vals_sg N), (56, T_spec_l15Ints_sg N), (57, T_spec_l28Flags_sg N), (58, T_spec_EndOf_sg N), (59, T_spec_Calc_sg N)]

def T_spec_ReadsOf_lp0_sh (code9 : List (Int × Int × Int × Int)) (pc10 : Int) (l11 : List Int) (l12 : List Int) (l13 : List Bool) (l14 : List Bool) (l15 : List (Int × List Int × List Int × List Bool)) : St := { env := [(0, .s (.one (.val (.slice (.prod (.int .i64) (.prod (.int .i64) (.prod (.int .i64) (.int .i64))))) (code9 : List (Int × Int × Int × Int))))), (1, .s (.one (.own 0))), (2, .s (.one (.own 1))), (7, .s (.one (.own 2))), (8, .s (.one (.own 3))), (9, .s (.one (.own 4))), (10, .s (.one (.val (.int .i64) (pc10 : Int))))], objs := [(0, .arr (.int .i64) (l11 : List Int)), (1, .arr (.int .i64) (l12 : List Int)), (2, .arr (.bool) (l13 : List Bool)), (3, .arr (.bool) (l14 : List Bool)), (4, .arr (.prod (.int .i64) (.prod (.slice (.int .i64)) (.prod (.slice (.int .i64)) (.slice (.bool))))) (l15 : List (Int × List Int × List Int × List Bool)))], nx := 5 }

def T_spec_ReadsOf_lp0_e0 (code9 : List (Int × Int × Int × Int)) (pc24 : Int) (t25 : Bool) (l26 : List Int) (l27 : List Int) (l28 : List Bool) (l29 : List Bool) (l30 : List (Int × List Int × List Int × List Bool)) : St := { env := [(0, .s (.one (.val (.slice (.prod (.int .i64) (.prod (.int .i64) (.prod (.int .i64) (.int .i64))))) (code9 : List (Int × Int × Int × Int))))), (1, .s (.one (.own 0))), (2, .s (.one (.own 1))), (7, .s (.one (.own 2))), (8, .s (.one (.own 3))), (9, .s (.one (.own 4))), (10, .s (.one (.val (.int .i64) (pc24 : Int)))), (43, .s (.one (.val (.bool) (t25 : Bool))))], objs := [(0, .arr (.int .i64) (l26 : List Int)), (1, .arr (.int .i64) (l27 : List Int)), (2, .arr (.bool) (l28 : List Bool)), (3, .arr (.bool) (l29 : List Bool)), (4, .arr (.prod (.int .i64) (.prod (.slice (.int .i64)) (.prod (.slice (.int .i64)) (.slice (.bool))))) (l30 : List (Int × List Int × List Int × List Bool)))], nx := 5 }

noncomputable def T_spec_ReadsOf_lp0_m (N : Nat) {R : Type} (n : Nat) (st : St) (K : Ex → St → Option R) : Option R := loopN (roundG (T_spec_ReadsOf_ann 100009) fun st k => sx tab (T_spec_ReadsOf_ctx N) T_spec_ReadsOf_ann N (nthLoop Try.f19 0) st k) n st K

theorem T_spec_ReadsOf_lp0_step (N : Nat) {R : Type} (n : Nat) (K : Ex → St → Option R) (code9 : List (Int × Int × Int × Int)) (pc10 : Int) (l11 : List Int) (l12 : List Int) (l13 : List Bool) (l14 : List Bool) (l15 : List (Int × List Int × List Int × List Bool)) :
    T_spec_ReadsOf_lp0_m N (n + 1) (T_spec_ReadsOf_lp0_sh code9 pc10 l11 l12 l13 l14 l15) K =
    (bif decide (pc10 < (ilen code9)) then
 (bif inb pc10 (List.length code9) then
 (bif (List.getD code9 (Int.toNat pc10) ((0 : Int), ((0 : Int), ((0 : Int), (0 : Int))))).1 == (5 : Int) then
 (bif inb (List.getD code9 (Int.toNat pc10) ((0 : Int), ((0 : Int), ((0 : Int), (0 : Int))))).2.2.1 (List.length l12) then
 (bif inb (List.getD code9 (Int.toNat pc10) ((0 : Int), ((0 : Int), ((0 : Int), (0 : Int))))).2.1 (List.length l11) then
 (bif inb (List.getD code9 (Int.toNat pc10) ((0 : Int), ((0 : Int), ((0 : Int), (0 : Int))))).2.2.1 (List.length l14) then
 (bif List.getD l14 (Int.toNat (List.getD code9 (Int.toNat pc10) ((0 : Int), ((0 : Int), ((0 : Int), (0 : Int))))).2.2.1) false then
 (bif inb (List.getD code9 (Int.toNat pc10) ((0 : Int), ((0 : Int), ((0 : Int), (0 : Int))))).2.2.1 (List.length l14) then
 (T_spec_ReadsOf_lp0_m N n (T_spec_ReadsOf_lp0_sh code9 (iadd .i64 pc10 (1 : Int)) (List.set l11 (Int.toNat (List.getD code9 (Int.toNat pc10) ((0 : Int), ((0 : Int), ((0 : Int), (0 : Int))))).2.1) (List.getD l12 (Int.toNat (List.getD code9 (Int.toNat pc10) ((0 : Int), ((0 : Int), ((0 : Int), (0 : Int))))).2.2.1) (0 : Int))) l12 l13 (List.set l14 (Int.toNat (List.getD code9 (Int.toNat pc10) ((0 : Int), ((0 : Int), ((0 : Int), (0 : Int))))).2.2.1) true) l15) K) else none)
 else
 (bif inb (List.getD code9 (Int.toNat pc10) ((0 : Int), ((0 : Int), ((0 : Int), (0 : Int))))).2.2.1 (List.length l13) then
 (bif inb (List.getD code9 (Int.toNat pc10) ((0 : Int), ((0 : Int), ((0 : Int), (0 : Int))))).2.2.1 (List.length l14) then
 (T_spec_ReadsOf_lp0_m N n (T_spec_ReadsOf_lp0_sh code9 (iadd .i64 pc10 (1 : Int)) (List.set l11 (Int.toNat (List.getD code9 (Int.toNat pc10) ((0 : Int), ((0 : Int), ((0 : Int), (0 : Int))))).2.1) (List.getD l12 (Int.toNat (List.getD code9 (Int.toNat pc10) ((0 : Int), ((0 : Int), ((0 : Int), (0 : Int))))).2.2.1) (0 : Int))) l12 l13 (List.set l14 (Int.toNat (List.getD code9 (Int.toNat pc10) ((0 : Int), ((0 : Int), ((0 : Int), (0 : Int))))).2.2.1) (!(List.getD l13 (Int.toNat (List.getD code9 (Int.toNat pc10) ((0 : Int), ((0 : Int), ((0 : Int), (0 : Int))))).2.2.1) false))) l15) K) else none) else none)) else none) else none) else none)
 else
 (bif (List.getD code9 (Int.toNat pc10) ((0 : Int), ((0 : Int), ((0 : Int), (0 : Int))))).1 == (6 : Int) then
 (bif inb (List.getD code9 (Int.toNat pc10) ((0 : Int), ((0 : Int), ((0 : Int), (0 : Int))))).2.2.1 (List.length l11) then
 (bif inb (List.getD code9 (Int.toNat pc10) ((0 : Int), ((0 : Int), ((0 : Int), (0 : Int))))).2.1 (List.length l12) then
 (bif inb (List.getD code9 (Int.toNat pc10) ((0 : Int), ((0 : Int), ((0 : Int), (0 : Int))))).2.1 (List.length l13) then
 (T_spec_ReadsOf_lp0_m N n (T_spec_ReadsOf_lp0_sh code9 (iadd .i64 pc10 (1 : Int)) l11 (List.set l12 (Int.toNat (List.getD code9 (Int.toNat pc10) ((0 : Int), ((0 : Int), ((0 : Int), (0 : Int))))).2.1) (List.getD l11 (Int.toNat (List.getD code9 (Int.toNat pc10) ((0 : Int), ((0 : Int), ((0 : Int), (0 : Int))))).2.2.1) (0 : Int))) (List.set l13 (Int.toNat (List.getD code9 (Int.toNat pc10) ((0 : Int), ((0 : Int), ((0 : Int), (0 : Int))))).2.1) true) l14 l15) K) else none) else none) else none)
 else
 (bif (List.getD code9 (Int.toNat pc10) ((0 : Int), ((0 : Int), ((0 : Int), (0 : Int))))).1 == (7 : Int) then
 (bif inb (List.getD code9 (Int.toNat pc10) ((0 : Int), ((0 : Int), ((0 : Int), (0 : Int))))).2.1 (List.length l11) then
 (bif (List.getD l11 (Int.toNat (List.getD code9 (Int.toNat pc10) ((0 : Int), ((0 : Int), ((0 : Int), (0 : Int))))).2.1) (0 : Int)) == (0 : Int) then
 (T_spec_ReadsOf_lp0_m N n (T_spec_ReadsOf_lp0_sh code9 (iadd .i64 (iadd .i64 pc10 (1 : Int)) (List.getD code9 (Int.toNat pc10) ((0 : Int), ((0 : Int), ((0 : Int), (0 : Int))))).2.2.1) l11 l12 l13 l14 l15) K)
 else
 (T_spec_ReadsOf_lp0_m N n (T_spec_ReadsOf_lp0_sh code9 (iadd .i64 pc10 (1 : Int)) l11 l12 l13 l14 l15) K)) else none)
 else
 (bif (List.getD code9 (Int.toNat pc10) ((0 : Int), ((0 : Int), ((0 : Int), (0 : Int))))).1 == (8 : Int) then
 ((T_spec_l15Ints N l11).bind fun o31 =>
 ((T_spec_l15Ints N l12).bind fun o32 =>
 ((T_spec_l28Flags N l13).bind fun o33 =>
 (bif room ((List.length l15) + (List.length ([(pc10, (o31.2.1, (o32.2.1, o33.2.1)))]))) then
 (T_spec_ReadsOf_lp0_m N n (T_spec_ReadsOf_lp0_sh code9 (iadd .i64 pc10 (1 : Int)) l11 l12 l13 l14 (List.append l15 ([(pc10, (o31.2.1, (o32.2.1, o33.2.1)))]))) K) else none))))
 else
 (bif (List.getD code9 (Int.toNat pc10) ((0 : Int), ((0 : Int), ((0 : Int), (0 : Int))))).1 == (9 : Int) then
 (bif inb (isub .i64 (ilen l15) (1 : Int)) (List.length l15) then
 (bif (decide ((0 : Int) ≤ (isub .i64 (ilen l15) (1 : Int)))) && (decide ((isub .i64 (ilen l15) (1 : Int)) ≤ ((List.length l15) : Int))) then
 (bif inb (List.getD l15 (Int.toNat (isub .i64 (ilen l15) (1 : Int))) ((0 : Int), (([] : List Int), (([] : List Int), ([] : List Bool))))).1 (List.length code9) then
 (bif inb (List.getD code9 (Int.toNat (List.getD l15 (Int.toNat (isub .i64 (ilen l15) (1 : Int))) ((0 : Int), (([] : List Int), (([] : List Int), ([] : List Bool))))).1) ((0 : Int), ((0 : Int), ((0 : Int), (0 : Int))))).2.1 (List.length l11) then
 (T_spec_ReadsOf_lp0_m N n (T_spec_ReadsOf_lp0_sh code9 (iadd .i64 pc10 (1 : Int)) (List.set l11 (Int.toNat (List.getD code9 (Int.toNat (List.getD l15 (Int.toNat (isub .i64 (ilen l15) (1 : Int))) ((0 : Int), (([] : List Int), (([] : List Int), ([] : List Bool))))).1) ((0 : Int), ((0 : Int), ((0 : Int), (0 : Int))))).2.1) (1 : Int)) l12 l13 l14 (List.take (Int.toNat (isub .i64 (ilen l15) (1 : Int))) l15)) K) else none) else none) else none) else none)
 else
 (bif (List.getD code9 (Int.toNat pc10) ((0 : Int), ((0 : Int), ((0 : Int), (0 : Int))))).1 == (10 : Int) then
 (bif decide ((ilen l15) > (0 : Int)) then
 (bif inb (isub .i64 (ilen l15) (1 : Int)) (List.length l15) then
 (bif (decide ((0 : Int) ≤ (isub .i64 (ilen l15) (1 : Int)))) && (decide ((isub .i64 (ilen l15) (1 : Int)) ≤ ((List.length l15) : Int))) then
 ((T_spec_l15Ints N (List.getD l15 (Int.toNat (isub .i64 (ilen l15) (1 : Int))) ((0 : Int), (([] : List Int), (([] : List Int), ([] : List Bool))))).2.1).bind fun o34 =>
 ((T_spec_l15Ints N (List.getD l15 (Int.toNat (isub .i64 (ilen l15) (1 : Int))) ((0 : Int), (([] : List Int), (([] : List Int), ([] : List Bool))))).2.2.1).bind fun o35 =>
 ((T_spec_l28Flags N (List.getD l15 (Int.toNat (isub .i64 (ilen l15) (1 : Int))) ((0 : Int), (([] : List Int), (([] : List Int), ([] : List Bool))))).2.2.2).bind fun o36 =>
 (bif inb (List.getD l15 (Int.toNat (isub .i64 (ilen l15) (1 : Int))) ((0 : Int), (([] : List Int), (([] : List Int), ([] : List Bool))))).1 (List.length code9) then
 (bif inb (List.getD code9 (Int.toNat (List.getD l15 (Int.toNat (isub .i64 (ilen l15) (1 : Int))) ((0 : Int), (([] : List Int), (([] : List Int), ([] : List Bool))))).1) ((0 : Int), ((0 : Int), ((0 : Int), (0 : Int))))).2.1 (List.length o34.2.1) then
 ((T_spec_EndOf N code9 (List.getD l15 (Int.toNat (isub .i64 (ilen l15) (1 : Int))) ((0 : Int), (([] : List Int), (([] : List Int), ([] : List Bool))))).1).bind fun o37 =>
 (T_spec_ReadsOf_lp0_m N n (T_spec_ReadsOf_lp0_sh code9 (iadd .i64 o37.2.1 (1 : Int)) (List.set o34.2.1 (Int.toNat (List.getD code9 (Int.toNat (List.getD l15 (Int.toNat (isub .i64 (ilen l15) (1 : Int))) ((0 : Int), (([] : List Int), (([] : List Int), ([] : List Bool))))).1) ((0 : Int), ((0 : Int), ((0 : Int), (0 : Int))))).2.1) (0 : Int)) o35.2.1 o36.2.1 l14 (List.take (Int.toNat (isub .i64 (ilen l15) (1 : Int))) l15)) K)) else none) else none)))) else none) else none)
 else
 (T_spec_ReadsOf_lp0_m N n (T_spec_ReadsOf_lp0_sh code9 (ilen code9) l11 l12 l13 l14 l15) K))
 else
 ((T_spec_Calc N (List.getD code9 (Int.toNat pc10) ((0 : Int), ((0 : Int), ((0 : Int), (0 : Int))))) l11).bind fun o38 =>
 (T_spec_ReadsOf_lp0_m N n (T_spec_ReadsOf_lp0_sh code9 (iadd .i64 pc10 (1 : Int)) o38.2.1 l12 l13 l14 l15) K)))))))) else none)
 else
 (K (.exit 0) (T_spec_ReadsOf_lp0_e0 code9 pc10 (decide (pc10 < (ilen code9))) l11 l12 l13 l14 l15))) := by kernel_rfl

theorem T_spec_ReadsOf_lp0_eq (N : Nat) {R : Type} (code9 : List (Int × Int × Int × Int)) (K : Ex → St → Option R) : ∀ (n : Nat) (pc10 : Int) (l11 : List Int) (l12 : List Int) (l13 : List Bool) (l14 : List Bool) (l15 : List (Int × List Int × List Int × List Bool)), T_spec_ReadsOf_lp0_m N n (T_spec_ReadsOf_lp0_sh code9 pc10 l11 l12 l13 l14 l15) K = T_spec_ReadsOf_lp0 N code9 (fun pc24 t25 l26 l27 l28 l29 l30 => (K (.exit 0) (T_spec_ReadsOf_lp0_e0 code9 pc24 t25 l26 l27 l28 l29 l30))) n pc10 l11 l12 l13 l14 l15
  | 0, _, _, _, _, _, _ => rfl
  | n + 1, pc10, l11, l12, l13, l14, l15 => by rw [T_spec_ReadsOf_lp0_step, T_spec_ReadsOf_lp0]; (try simp only [T_spec_ReadsOf_lp0_eq N code9 K n])

def T_spec_ReadsOf_lp1_sh (i46 : Int) (l47 : List Bool) (l48 : List Int) : St := { env := [(8, .s (.one (.own 0))), (17, .s (.one (.own 1))), (18, .s (.one (.val (.int .i64) (i46 : Int))))], objs := [(0, .arr (.bool) (l47 : List Bool)), (1, .arr (.int .i64) (l48 : List Int))], nx := 2 }

def T_spec_ReadsOf_lp1_e0 (l47 : List Bool) (i49 : Int) (t50 : Bool) (l51 : List Int) : St := { env := [(8, .s (.one (.own 0))), (17, .s (.one (.own 1))), (18, .s (.one (.val (.int .i64) (i49 : Int)))), (193, .s (.one (.val (.bool) (t50 : Bool))))], objs := [(0, .arr (.bool) (l47 : List Bool)), (1, .arr (.int .i64) (l51 : List Int))], nx := 2 }

noncomputable def T_spec_ReadsOf_lp1_m (N : Nat) {R : Type} (n : Nat) (st : St) (K : Ex → St → Option R) : Option R := loopN (roundG (T_spec_ReadsOf_ann 100043) fun st k => sx tab (T_spec_ReadsOf_ctx N) T_spec_ReadsOf_ann N (nthLoop Try.f19 1) st k) n st K

theorem T_spec_ReadsOf_lp1_step (N : Nat) {R : Type} (n : Nat) (K : Ex → St → Option R) (i46 : Int) (l47 : List Bool) (l48 : List Int) :
    T_spec_ReadsOf_lp1_m N (n + 1) (T_spec_ReadsOf_lp1_sh i46 l47 l48) K =
    (bif decide (i46 < (ilen l47)) then
 (bif inb i46 (List.length l47) then
 (bif List.getD l47 (Int.toNat i46) false then
 (bif room ((List.length l48) + (List.length ([i46]))) then
 (T_spec_ReadsOf_lp1_m N n (T_spec_ReadsOf_lp1_sh (iadd .i64 i46 (1 : Int)) l47 (List.append l48 ([i46]))) K) else none)
 else
 (T_spec_ReadsOf_lp1_m N n (T_spec_ReadsOf_lp1_sh (iadd .i64 i46 (1 : Int)) l47 l48) K)) else none)
 else
 (K (.exit 3) (T_spec_ReadsOf_lp1_e0 l47 i46 (decide (i46 < (ilen l47))) l48))) := by kernel_rfl

theorem T_spec_ReadsOf_lp1_eq (N : Nat) {R : Type} (l47 : List Bool) (K : Ex → St → Option R) : ∀ (n : Nat) (i46 : Int) (l48 : List Int), T_spec_ReadsOf_lp1_m N n (T_spec_ReadsOf_lp1_sh i46 l47 l48) K = T_spec_ReadsOf_lp1 N l47 (fun i49 t50 l51 => (K (.exit 3) (T_spec_ReadsOf_lp1_e0 l47 i49 t50 l51))) n i46 l48
  | 0, _, _ => rfl
  | n + 1, i46, l48 => by rw [T_spec_ReadsOf_lp1_step, T_spec_ReadsOf_lp1]; (try simp only [T_spec_ReadsOf_lp1_eq N l47 K n])

theorem T_spec_ReadsOf_c2 (N : Nat) (l44 : List Bool) (i52 : Int) (t53 : Bool) (l54 : List Int) :
    ((ctxK (R := ODen (T_spec_ReadsOf_sg N).ps × RDen (T_spec_ReadsOf_sg N).rs) tab (T_spec_ReadsOf_ctx N) T_spec_ReadsOf_ann N (theCode Try.f19) [1, 1, 1, 1, 1, 1, 1, 1, 1, 1, 0, 1, 0] (retK tab (T_spec_ReadsOf_sg N) Try.f19.results.toList some)) (.exit 3) (T_spec_ReadsOf_lp1_e0 l44 i52 t53 l54)) =
    (some (α := ODen (T_spec_ReadsOf_sg N).ps × RDen (T_spec_ReadsOf_sg N).rs) ((), (l54, ()))) := by kernel_rfl

theorem T_spec_ReadsOf_c1 (N : Nat) (code1 : List (Int × Int × Int × Int)) (pc39 : Int) (t40 : Bool) (l41 : List Int) (l42 : List Int) (l43 : List Bool) (l44 : List Bool) (l45 : List (Int × List Int × List Int × List Bool)) :
    ((ctxK (R := ODen (T_spec_ReadsOf_sg N).ps × RDen (T_spec_ReadsOf_sg N).rs) tab (T_spec_ReadsOf_ctx N) T_spec_ReadsOf_ann N (theCode Try.f19) [1, 1, 1, 1, 1, 1, 1, 1, 0, 0] (retK tab (T_spec_ReadsOf_sg N) Try.f19.results.toList some)) (.exit 0) (T_spec_ReadsOf_lp0_e0 code1 pc39 t40 l41 l42 l43 l44 l45)) =
    (T_spec_ReadsOf_lp1 N l44
 (fun i52 t53 l54 =>
   (some (α := ODen (T_spec_ReadsOf_sg N).ps × RDen (T_spec_ReadsOf_sg N).rs) ((), (l54, ()))))
  N (0 : Int) ([] : List Int)) := by
  have h : ((ctxK (R := ODen (T_spec_ReadsOf_sg N).ps × RDen (T_spec_ReadsOf_sg N).rs) tab (T_spec_ReadsOf_ctx N) T_spec_ReadsOf_ann N (theCode Try.f19) [1, 1, 1, 1, 1, 1, 1, 1, 0, 0] (retK tab (T_spec_ReadsOf_sg N) Try.f19.results.toList some)) (.exit 0) (T_spec_ReadsOf_lp0_e0 code1 pc39 t40 l41 l42 l43 l44 l45)) =
    (T_spec_ReadsOf_lp1_m N N (T_spec_ReadsOf_lp1_sh (0 : Int) l44 ([] : List Int)) (ctxK (R := ODen (T_spec_ReadsOf_sg N).ps × RDen (T_spec_ReadsOf_sg N).rs) tab (T_spec_ReadsOf_ctx N) T_spec_ReadsOf_ann N (theCode Try.f19) [1, 1, 1, 1, 1, 1, 1, 1, 1, 1, 0, 1, 0] (retK tab (T_spec_ReadsOf_sg N) Try.f19.results.toList some))) := by kernel_rfl
  rw [h]
  (try simp only [T_spec_ReadsOf_lp1_eq, T_spec_ReadsOf_c2]) <;> rfl

theorem T_spec_ReadsOf_den (N : Nat) (code1 : List (Int × Int × Int × Int)) (regs2 : List Int) (cells3 : List Int) :
 den (R := ODen (T_spec_ReadsOf_sg N).ps × RDen (T_spec_ReadsOf_sg N).rs) tab (T_spec_ReadsOf_ctx N) T_spec_ReadsOf_ann N (T_spec_ReadsOf_sg N) Try.f19 (code1, regs2, cells3, ()) some =
 (T_spec_ReadsOf N code1 regs2 cells3 : Option (ODen (T_spec_ReadsOf_sg N).ps × RDen (T_spec_ReadsOf_sg N).rs)) := by
  have h : den (R := ODen (T_spec_ReadsOf_sg N).ps × RDen (T_spec_ReadsOf_sg N).rs) tab (T_spec_ReadsOf_ctx N) T_spec_ReadsOf_ann N (T_spec_ReadsOf_sg N) Try.f19 (code1, regs2, cells3, ()) some =
 ((T_spec_KidOk N code1).bind fun o4 =>
 (bif !o4.2.1 then
 (some (α := ODen (T_spec_ReadsOf_sg N).ps × RDen (T_spec_ReadsOf_sg N).rs) ((), (([] : List Int), ())))
 else
 ((T_spec_l4Regs N regs2).bind fun o5 =>
 (bif !o5.2.1 then
 (some (α := ODen (T_spec_ReadsOf_sg N).ps × RDen (T_spec_ReadsOf_sg N).rs) ((), (([] : List Int), ())))
 else
 ((T_spec_l3Vals N cells3).bind fun o6 =>
 (bif !o6.2.1 then
 (some (α := ODen (T_spec_ReadsOf_sg N).ps × RDen (T_spec_ReadsOf_sg N).rs) ((), (([] : List Int), ())))
 else
 ((T_spec_l15Ints N regs2).bind fun o7 =>
 ((T_spec_l15Ints N cells3).bind fun o8 =>
 (bif ((decide ((0 : Int) ≤ (8 : Int))) && (decide ((8 : Int) ≤ (8 : Int)))) && (room (Int.toNat (8 : Int))) then
 (bif ((decide ((0 : Int) ≤ (8 : Int))) && (decide ((8 : Int) ≤ (8 : Int)))) && (room (Int.toNat (8 : Int))) then
 (T_spec_ReadsOf_lp0_m N N (T_spec_ReadsOf_lp0_sh code1 (0 : Int) o7.2.1 o8.2.1 (List.replicate (Int.toNat (8 : Int)) false) (List.replicate (Int.toNat (8 : Int)) false) ([] : List (Int × List Int × List Int × List Bool))) (ctxK (R := ODen (T_spec_ReadsOf_sg N).ps × RDen (T_spec_ReadsOf_sg N).rs) tab (T_spec_ReadsOf_ctx N) T_spec_ReadsOf_ann N (theCode Try.f19) [1, 1, 1, 1, 1, 1, 1, 1, 0, 0] (retK tab (T_spec_ReadsOf_sg N) Try.f19.results.toList some))) else none) else none))))))))) := by kernel_rfl
  rw [h]
  (try simp only [T_spec_ReadsOf_lp0_eq, T_spec_ReadsOf_c1]) <;> rfl

theorem T_spec_ReadsOf_ok (N : Nat) : chkBody Try.f19 (T_spec_ReadsOf_sg N).ps = true := by kernel_rfl

theorem T_spec_ReadsOf_callable : Callable Try.prog 19 := callable_of Try.func19 (show chkFn Try.f19 = true by kernel_rfl)

theorem T_spec_ReadsOf_good (N : Nat) : Good Try.prog 19 (T_spec_ReadsOf_sg N) :=
  good_body mixedOk tabOk (ctx_cons (T_spec_KidOk_good N) T_spec_KidOk_callable (ctx_cons (T_spec_l4Regs_good N) T_spec_l4Regs_callable (ctx_cons (T_spec_l3Vals_good N) T_spec_l3Vals_callable (ctx_cons (T_spec_l15Ints_good N) T_spec_l15Ints_callable (ctx_cons (T_spec_l28Flags_good N) T_spec_l28Flags_callable (ctx_cons (T_spec_EndOf_good N) T_spec_EndOf_callable (ctx_cons (T_spec_Calc_good N) T_spec_Calc_callable ctx_nil))))))) Try.func19 (T_spec_ReadsOf_ok N) (fun d _ h => ⟨N, (T_spec_ReadsOf_den N d.1 d.2.1 d.2.2.1).trans h⟩)

noncomputable def T_impl_within_sg (N : Nat) : Sig := Sig.of [.v (.int .i64) false, .v (.int .i64) false, .v (.int .i64) false] [.v (.bool) false] (fun d => T_impl_within N d.1 d.2.1 d.2.2.1)

def T_impl_within_ann : Nat → List Ghost
  | _ => []

noncomputable def T_impl_within_ctx (N : Nat) : Ctx := []

theorem T_impl_within_den (N : Nat) (x1 : Int) (lo2 : Int) (hi3 : Int) :
    den (R := ODen (T_impl_within_sg N).ps × RDen (T_impl_within_sg N).rs) tab (T_impl_within_ctx N) T_impl_within_ann N (T_impl_within_sg N) Try.f82 (x1, lo2, hi3, ()) some =
    (T_impl_within N x1 lo2 hi3 : Option (ODen (T_impl_within_sg N).ps × RDen (T_impl_within_sg N).rs)) := by kernel_rfl

theorem T_impl_within_ok (N : Nat) : chkBody Try.f82 (T_impl_within_sg N).ps = true := by kernel_rfl

theorem T_impl_within_callable : Callable Try.prog 82 := callable_of Try.func82 (show chkFn Try.f82 = true by kernel_rfl)

theorem T_impl_within_good (N : Nat) : Good Try.prog 82 (T_impl_within_sg N) :=
  good_body mixedOk tabOk ctx_nil Try.func82 (T_impl_within_ok N) (fun d _ h => ⟨N, (T_impl_within_den N d.1 d.2.1 d.2.2.1).trans h⟩)

noncomputable def T_impl_isReg_sg (N : Nat) : Sig := Sig.of [.v (.int .i64) false] [.v (.bool) false] (fun d => T_impl_isReg N d.1)

def T_impl_isReg_ann : Nat → List Ghost
  | _ => []

noncomputable def T_impl_isReg_ctx (N : Nat) : Ctx := [(82, T_impl_within_sg N)]

theorem T_impl_isReg_den (N : Nat) (r1 : Int) :
    den (R := ODen (T_impl_isReg_sg N).ps × RDen (T_impl_isReg_sg N).rs) tab (T_impl_isReg_ctx N) T_impl_isReg_ann N (T_impl_isReg_sg N) Try.f148 (r1, ()) some =
    (T_impl_isReg N r1 : Option (ODen (T_impl_isReg_sg N).ps × RDen (T_impl_isReg_sg N).rs)) := by kernel_rfl

theorem T_impl_isReg_ok (N : Nat) : chkBody Try.f148 (T_impl_isReg_sg N).ps = true := by kernel_rfl

theorem T_impl_isReg_callable : Callable Try.prog 148 := callable_of Try.func148 (show chkFn Try.f148 = true by kernel_rfl)

theorem T_impl_isReg_good (N : Nat) : Good Try.prog 148 (T_impl_isReg_sg N) :=
  good_body mixedOk tabOk (ctx_cons (T_impl_within_good N) T_impl_within_callable ctx_nil) Try.func148 (T_impl_isReg_ok N) (fun d _ h => ⟨N, (T_impl_isReg_den N d.1).trans h⟩)

noncomputable def T_impl_isValue_sg (N : Nat) : Sig := Sig.of [.v (.int .i64) false] [.v (.bool) false] (fun d => T_impl_isValue N d.1)

def T_impl_isValue_ann : Nat → List Ghost
  | _ => []

noncomputable def T_impl_isValue_ctx (N : Nat) : Ctx := [(82, T_impl_within_sg N)]

theorem T_impl_isValue_den (N : Nat) (v1 : Int) :
    den (R := ODen (T_impl_isValue_sg N).ps × RDen (T_impl_isValue_sg N).rs) tab (T_impl_isValue_ctx N) T_impl_isValue_ann N (T_impl_isValue_sg N) Try.f91 (v1, ()) some =
    (T_impl_isValue N v1 : Option (ODen (T_impl_isValue_sg N).ps × RDen (T_impl_isValue_sg N).rs)) := by kernel_rfl

theorem T_impl_isValue_ok (N : Nat) : chkBody Try.f91 (T_impl_isValue_sg N).ps = true := by kernel_rfl

theorem T_impl_isValue_callable : Callable Try.prog 91 := callable_of Try.func91 (show chkFn Try.f91 = true by kernel_rfl)

theorem T_impl_isValue_good (N : Nat) : Good Try.prog 91 (T_impl_isValue_sg N) :=
  good_body mixedOk tabOk (ctx_cons (T_impl_within_good N) T_impl_within_callable ctx_nil) Try.func91 (T_impl_isValue_ok N) (fun d _ h => ⟨N, (T_impl_isValue_den N d.1).trans h⟩)

noncomputable def T_impl_isCell_sg (N : Nat) : Sig := Sig.of [.v (.int .i64) false] [.v (.bool) false] (fun d => T_impl_isCell N d.1)

def T_impl_isCell_ann : Nat → List Ghost
  | _ => []

noncomputable def T_impl_isCell_ctx (N : Nat) : Ctx := [(82, T_impl_within_sg N)]

theorem T_impl_isCell_den (N : Nat) (i1 : Int) :
    den (R := ODen (T_impl_isCell_sg N).ps × RDen (T_impl_isCell_sg N).rs) tab (T_impl_isCell_ctx N) T_impl_isCell_ann N (T_impl_isCell_sg N) Try.f118 (i1, ()) some =
    (T_impl_isCell N i1 : Option (ODen (T_impl_isCell_sg N).ps × RDen (T_impl_isCell_sg N).rs)) := by kernel_rfl

theorem T_impl_isCell_ok (N : Nat) : chkBody Try.f118 (T_impl_isCell_sg N).ps = true := by kernel_rfl

theorem T_impl_isCell_callable : Callable Try.prog 118 := callable_of Try.func118 (show chkFn Try.f118 = true by kernel_rfl)

theorem T_impl_isCell_good (N : Nat) : Good Try.prog 118 (T_impl_isCell_sg N) :=
  good_body mixedOk tabOk (ctx_cons (T_impl_within_good N) T_impl_within_callable ctx_nil) Try.func118 (T_impl_isCell_ok N) (fun d _ h => ⟨N, (T_impl_isCell_den N d.1).trans h⟩)

noncomputable def T_impl_isKey_sg (N : Nat) : Sig := Sig.of [.v (.int .i64) false] [.v (.bool) false] (fun d => T_impl_isKey N d.1)

def T_impl_isKey_ann : Nat → List Ghost
  | _ => []

noncomputable def T_impl_isKey_ctx (N : Nat) : Ctx := [(82, T_impl_within_sg N)]

theorem T_impl_isKey_den (N : Nat) (k1 : Int) :
    den (R := ODen (T_impl_isKey_sg N).ps × RDen (T_impl_isKey_sg N).rs) tab (T_impl_isKey_ctx N) T_impl_isKey_ann N (T_impl_isKey_sg N) Try.f149 (k1, ()) some =
    (T_impl_isKey N k1 : Option (ODen (T_impl_isKey_sg N).ps × RDen (T_impl_isKey_sg N).rs)) := by kernel_rfl

theorem T_impl_isKey_ok (N : Nat) : chkBody Try.f149 (T_impl_isKey_sg N).ps = true := by kernel_rfl

theorem T_impl_isKey_callable : Callable Try.prog 149 := callable_of Try.func149 (show chkFn Try.f149 = true by kernel_rfl)

theorem T_impl_isKey_good (N : Nat) : Good Try.prog 149 (T_impl_isKey_sg N) :=
  good_body mixedOk tabOk (ctx_cons (T_impl_within_good N) T_impl_within_callable ctx_nil) Try.func149 (T_impl_isKey_ok N) (fun d _ h => ⟨N, (T_impl_isKey_den N d.1).trans h⟩)

noncomputable def T_impl_OpOk_sg (N : Nat) : Sig := Sig.of [.v (.prod (.int .i64) (.prod (.int .i64) (.prod (.int .i64) (.int .i64)))) true] [.v (.bool) false] (fun d => T_impl_OpOk N d.1)

def T_impl_OpOk_ann : Nat → List Ghost
  | _ => []

noncomputable def T_impl_OpOk_ctx (N : Nat) : Ctx := [(148, T_impl_isReg_sg N), (91, T_impl_isValue_sg N), (118, T_impl_isCell_sg N), (82, T_impl_within_sg N), (149, T_impl_isKey_sg N)]

theorem T_impl_OpOk_den (N : Nat) (o1 : Int × Int × Int × Int) :
    den (R := ODen (T_impl_OpOk_sg N).ps × RDen (T_impl_OpOk_sg N).rs) tab (T_impl_OpOk_ctx N) T_impl_OpOk_ann N (T_impl_OpOk_sg N) Try.f126 (o1, ()) some =
    (T_impl_OpOk N o1 : Option (ODen (T_impl_OpOk_sg N).ps × RDen (T_impl_OpOk_sg N).rs)) := by kernel_rfl

theorem T_impl_OpOk_ok (N : Nat) : chkBody Try.f126 (T_impl_OpOk_sg N).ps = true := by kernel_rfl

theorem T_impl_OpOk_callable : Callable Try.prog 126 := callable_of Try.func126 (show chkFn Try.f126 = true by kernel_rfl)

theorem T_impl_OpOk_good (N : Nat) : Good Try.prog 126 (T_impl_OpOk_sg N) :=
  good_body mixedOk tabOk (ctx_cons (T_impl_isReg_good N) T_impl_isReg_callable (ctx_cons (T_impl_isValue_good N) T_impl_isValue_callable (ctx_cons (T_impl_isCell_good N) T_impl_isCell_callable (ctx_cons (T_impl_within_good N) T_impl_within_callable (ctx_cons (T_impl_isKey_good N) T_impl_isKey_callable ctx_nil))))) Try.func126 (T_impl_OpOk_ok N) (fun d _ h => ⟨N, (T_impl_OpOk_den N d.1).trans h⟩)

noncomputable def T_impl_Touches_sg (N : Nat) : Sig := Sig.of [.v (.prod (.int .i64) (.prod (.int .i64) (.prod (.int .i64) (.int .i64)))) true] [.v (.int .i64) false] (fun d => T_impl_Touches N d.1)

def T_impl_Touches_ann : Nat → List Ghost
  | _ => []

noncomputable def T_impl_Touches_ctx (N : Nat) : Ctx := [(126, T_impl_OpOk_sg N)]

theorem T_impl_Touches_den (N : Nat) (o1 : Int × Int × Int × Int) :
    den (R := ODen (T_impl_Touches_sg N).ps × RDen (T_impl_Touches_sg N).rs) tab (T_impl_Touches_ctx N) T_impl_Touches_ann N (T_impl_Touches_sg N) Try.f121 (o1, ()) some =
    (T_impl_Touches N o1 : Option (ODen (T_impl_Touches_sg N).ps × RDen (T_impl_Touches_sg N).rs)) := by kernel_rfl

theorem T_impl_Touches_ok (N : Nat) : chkBody Try.f121 (T_impl_Touches_sg N).ps = true := by kernel_rfl

theorem T_impl_Touches_callable : Callable Try.prog 121 := callable_of Try.func121 (show chkFn Try.f121 = true by kernel_rfl)

theorem T_impl_Touches_good (N : Nat) : Good Try.prog 121 (T_impl_Touches_sg N) :=
  good_body mixedOk tabOk (ctx_cons (T_impl_OpOk_good N) T_impl_OpOk_callable ctx_nil) Try.func121 (T_impl_Touches_ok N) (fun d _ h => ⟨N, (T_impl_Touches_den N d.1).trans h⟩)

noncomputable def T_impl_opens_sg (N : Nat) : Sig := Sig.of [.v (.prod (.int .i64) (.prod (.int .i64) (.prod (.int .i64) (.int .i64)))) true] [.v (.int .i64) false] (fun d => T_impl_opens N d.1)

def T_impl_opens_ann : Nat → List Ghost
  | _ => []

noncomputable def T_impl_opens_ctx (N : Nat) : Ctx := []

theorem T_impl_opens_den (N : Nat) (o1 : Int × Int × Int × Int) :
    den (R := ODen (T_impl_opens_sg N).ps × RDen (T_impl_opens_sg N).rs) tab (T_impl_opens_ctx N) T_impl_opens_ann N (T_impl_opens_sg N) Try.f125 (o1, ()) some =
    (T_impl_opens N o1 : Option (ODen (T_impl_opens_sg N).ps × RDen (T_impl_opens_sg N).rs)) := by kernel_rfl

theorem T_impl_opens_ok (N : Nat) : chkBody Try.f125 (T_impl_opens_sg N).ps = true := by kernel_rfl

theorem T_impl_opens_callable : Callable Try.prog 125 := callable_of Try.func125 (show chkFn Try.f125 = true by kernel_rfl)

theorem T_impl_opens_good (N : Nat) : Good Try.prog 125 (T_impl_opens_sg N) :=
  good_body mixedOk tabOk ctx_nil Try.func125 (T_impl_opens_ok N) (fun d _ h => ⟨N, (T_impl_opens_den N d.1).trans h⟩)

noncomputable def T_impl_isBalanced_sg (N : Nat) : Sig := Sig.of [.v (.slice (.prod (.int .i64) (.prod (.int .i64) (.prod (.int .i64) (.int .i64))))) false] [.v (.bool) false] (fun d => T_impl_isBalanced N d.1)

def T_impl_isBalanced_ann : Nat → List Ghost
  | 3 => [.canon [3, 6, 7, 8, 9]]
  | 4 => [.canon [3, 5, 6, 7, 8]]
  | 5 => [.canon [3, 6, 7, 8]]
  | 6 => [.canon [3, 6, 7, 8, 17]]
  | 7 => [.canon [2]]
  | 8 => [.canon [3, 6, 7, 8]]
  | 100003 => [.canon [3, 6, 7, 8]]
  | _ => []

noncomputable def T_impl_isBalanced_ctx (N : Nat) : Ctx := [(125, T_impl_opens_sg N)]

def T_impl_isBalanced_lp0_sh (n2 : Int) (t3 : List (Int × Int × Int × Int)) (t5 : Int) : St := { env := [(3, .s (.one (.val (.int .i64) (n2 : Int)))), (6, .s (.one (.val (.slice (.prod (.int .i64) (.prod (.int .i64) (.prod (.int .i64) (.int .i64))))) (t3 : List (Int × Int × Int × Int))))), (7, .s (.one (.val (.int .i64) (ilen t3 : Int)))), (8, .s (.one (.val (.int .i64) (t5 : Int))))], objs := [], nx := 0 }

def T_impl_isBalanced_lp0_e0 (t3 : List (Int × Int × Int × Int)) : St := { env := [(2, .s (.one (.val (.bool) (false : Bool))))], objs := [], nx := 0 }

def T_impl_isBalanced_lp0_e1 (t3 : List (Int × Int × Int × Int)) (n8 : Int) (t9 : Int) (t10 : Bool) : St := { env := [(3, .s (.one (.val (.int .i64) (n8 : Int)))), (6, .s (.one (.val (.slice (.prod (.int .i64) (.prod (.int .i64) (.prod (.int .i64) (.int .i64))))) (t3 : List (Int × Int × Int × Int))))), (7, .s (.one (.val (.int .i64) (ilen t3 : Int)))), (8, .s (.one (.val (.int .i64) (t9 : Int)))), (9, .s (.one (.val (.bool) (t10 : Bool))))], objs := [], nx := 0 }

noncomputable def T_impl_isBalanced_lp0_m (N : Nat) {R : Type} (n : Nat) (st : St) (K : Ex → St → Option R) : Option R := loopN (roundG (T_impl_isBalanced_ann 100003) fun st k => sx tab (T_impl_isBalanced_ctx N) T_impl_isBalanced_ann N (nthLoop Try.f145 0) st k) n st K

theorem T_impl_isBalanced_lp0_step (N : Nat) {R : Type} (n : Nat) (K : Ex → St → Option R) (n2 : Int) (t3 : List (Int × Int × Int × Int)) (t5 : Int) :
    T_impl_isBalanced_lp0_m N (n + 1) (T_impl_isBalanced_lp0_sh n2 t3 t5) K =
    (bif decide (t5 < (ilen t3)) then
 (bif inb t5 (List.length t3) then
 ((T_impl_opens N (List.getD t3 (Int.toNat t5) ((0 : Int), ((0 : Int), ((0 : Int), (0 : Int)))))).bind fun o11 =>
 (bif decide ((iadd .i64 n2 o11.2.1) < (0 : Int)) then
 (K .ret (T_impl_isBalanced_lp0_e0 t3))
 else
 (T_impl_isBalanced_lp0_m N n (T_impl_isBalanced_lp0_sh (iadd .i64 n2 o11.2.1) t3 (iadd .i64 t5 (1 : Int))) K))) else none)
 else
 (K (.exit 0) (T_impl_isBalanced_lp0_e1 t3 n2 t5 (decide (t5 < (ilen t3)))))) := by kernel_rfl

theorem T_impl_isBalanced_lp0_eq (N : Nat) {R : Type} (t3 : List (Int × Int × Int × Int)) (K : Ex → St → Option R) : ∀ (n : Nat) (n2 : Int) (t5 : Int), T_impl_isBalanced_lp0_m N n (T_impl_isBalanced_lp0_sh n2 t3 t5) K = T_impl_isBalanced_lp0 N t3 (K .ret (T_impl_isBalanced_lp0_e0 t3)) (fun n8 t9 t10 => (K (.exit 0) (T_impl_isBalanced_lp0_e1 t3 n8 t9 t10))) n n2 t5
  | 0, _, _ => rfl
  | n + 1, n2, t5 => by rw [T_impl_isBalanced_lp0_step, T_impl_isBalanced_lp0]; (try simp only [T_impl_isBalanced_lp0_eq N t3 K n])

theorem T_impl_isBalanced_c1 (N : Nat) (code1 : List (Int × Int × Int × Int)) :
    ((ctxK (R := ODen (T_impl_isBalanced_sg N).ps × RDen (T_impl_isBalanced_sg N).rs) tab (T_impl_isBalanced_ctx N) T_impl_isBalanced_ann N (theCode Try.f145) [1, 1, 0, 1, 0] (retK tab (T_impl_isBalanced_sg N) Try.f145.results.toList some)) .ret (T_impl_isBalanced_lp0_e0 code1)) =
    (some (α := ODen (T_impl_isBalanced_sg N).ps × RDen (T_impl_isBalanced_sg N).rs) ((), (false, ()))) := by kernel_rfl

theorem T_impl_isBalanced_c2 (N : Nat) (code1 : List (Int × Int × Int × Int)) (n12 : Int) (t13 : Int) (t14 : Bool) :
    ((ctxK (R := ODen (T_impl_isBalanced_sg N).ps × RDen (T_impl_isBalanced_sg N).rs) tab (T_impl_isBalanced_ctx N) T_impl_isBalanced_ann N (theCode Try.f145) [1, 1, 0, 1, 0] (retK tab (T_impl_isBalanced_sg N) Try.f145.results.toList some)) (.exit 0) (T_impl_isBalanced_lp0_e1 code1 n12 t13 t14)) =
    (some (α := ODen (T_impl_isBalanced_sg N).ps × RDen (T_impl_isBalanced_sg N).rs) ((), (n12 == (0 : Int), ()))) := by kernel_rfl

theorem T_impl_isBalanced_den (N : Nat) (code1 : List (Int × Int × Int × Int)) :
 den (R := ODen (T_impl_isBalanced_sg N).ps × RDen (T_impl_isBalanced_sg N).rs) tab (T_impl_isBalanced_ctx N) T_impl_isBalanced_ann N (T_impl_isBalanced_sg N) Try.f145 (code1, ()) some =
 (T_impl_isBalanced N code1 : Option (ODen (T_impl_isBalanced_sg N).ps × RDen (T_impl_isBalanced_sg N).rs)) := by
  have h : den (R := ODen (T_impl_isBalanced_sg N).ps × RDen (T_impl_isBalanced_sg N).rs) tab (T_impl_isBalanced_ctx N) T_impl_isBalanced_ann N (T_impl_isBalanced_sg N) Try.f145 (code1, ()) some =
 (T_impl_isBalanced_lp0_m N N (T_impl_isBalanced_lp0_sh (0 : Int) code1 (0 : Int)) (ctxK (R := ODen (T_impl_isBalanced_sg N).ps × RDen (T_impl_isBalanced_sg N).rs) tab (T_impl_isBalanced_ctx N) T_impl_isBalanced_ann N (theCode Try.f145) [1, 1, 0, 1, 0] (retK tab (T_impl_isBalanced_sg N) Try.f145.results.toList some))) := by kernel_rfl
  rw [h]
  (try simp only [T_impl_isBalanced_lp0_eq, T_impl_isBalanced_c1, T_impl_isBalanced_c2]) <;> rfl

theorem T_impl_isBalanced_ok (N : Nat) : chkBody Try.f145 (T_impl_isBalanced_sg N).ps = true := by kernel_rfl

theorem T_impl_isBalanced_callable : Callable Try.prog 145 := callable_of Try.func145 (show chkFn Try.f145 = true by kernel_rfl)

theorem T_impl_isBalanced_good (N : Nat) : Good Try.prog 145 (T_impl_isBalanced_sg N) :=
  good_body mixedOk tabOk (ctx_cons (T_impl_opens_good N) T_impl_opens_callable ctx_nil) Try.func145 (T_impl_isBalanced_ok N) (fun d _ h => ⟨N, (T_impl_isBalanced_den N d.1).trans h⟩)

noncomputable def T_impl_DepthAt_sg (N : Nat) : Sig := Sig.of [.v (.slice (.prod (.int .i64) (.prod (.int .i64) (.prod (.int .i64) (.int .i64))))) false, .v (.int .i64) false] [.v (.int .i64) false] (fun d => T_impl_DepthAt N d.1 d.2.1)

def T_impl_DepthAt_ann : Nat → List Ghost
  | 3 => [.canon [1, 5, 8, 9, 10, 11]]
  | 4 => [.canon [1, 5, 6, 7, 8, 9, 10]]
  | 5 => [.canon [1, 5, 7, 8, 9, 10, 17]]
  | 6 => [.canon [1, 5, 8, 9, 10]]
  | 7 => [.canon [1, 5, 8, 9, 10]]
  | 100003 => [.canon [1, 5, 8, 9, 10]]
  | _ => []

noncomputable def T_impl_DepthAt_ctx (N : Nat) : Ctx := [(125, T_impl_opens_sg N)]

def T_impl_DepthAt_lp0_sh (i3 : Int) (n4 : Int) (t5 : List (Int × Int × Int × Int)) (t7 : Int) : St := { env := [(1, .s (.one (.val (.int .i64) (i3 : Int)))), (5, .s (.one (.val (.int .i64) (n4 : Int)))), (8, .s (.one (.val (.slice (.prod (.int .i64) (.prod (.int .i64) (.prod (.int .i64) (.int .i64))))) (t5 : List (Int × Int × Int × Int))))), (9, .s (.one (.val (.int .i64) (ilen t5 : Int)))), (10, .s (.one (.val (.int .i64) (t7 : Int))))], objs := [], nx := 0 }

def T_impl_DepthAt_lp0_e0 (i3 : Int) (t5 : List (Int × Int × Int × Int)) (n10 : Int) (t11 : Int) (t12 : Bool) : St := { env := [(1, .s (.one (.val (.int .i64) (i3 : Int)))), (5, .s (.one (.val (.int .i64) (n10 : Int)))), (8, .s (.one (.val (.slice (.prod (.int .i64) (.prod (.int .i64) (.prod (.int .i64) (.int .i64))))) (t5 : List (Int × Int × Int × Int))))), (9, .s (.one (.val (.int .i64) (ilen t5 : Int)))), (10, .s (.one (.val (.int .i64) (t11 : Int)))), (11, .s (.one (.val (.bool) (t12 : Bool))))], objs := [], nx := 0 }

noncomputable def T_impl_DepthAt_lp0_m (N : Nat) {R : Type} (n : Nat) (st : St) (K : Ex → St → Option R) : Option R := loopN (roundG (T_impl_DepthAt_ann 100003) fun st k => sx tab (T_impl_DepthAt_ctx N) T_impl_DepthAt_ann N (nthLoop Try.f146 0) st k) n st K

theorem T_impl_DepthAt_lp0_step (N : Nat) {R : Type} (n : Nat) (K : Ex → St → Option R) (i3 : Int) (n4 : Int) (t5 : List (Int × Int × Int × Int)) (t7 : Int) :
    T_impl_DepthAt_lp0_m N (n + 1) (T_impl_DepthAt_lp0_sh i3 n4 t5 t7) K =
    (bif decide (t7 < (ilen t5)) then
 (bif inb t7 (List.length t5) then
 (bif decide (t7 < i3) then
 ((T_impl_opens N (List.getD t5 (Int.toNat t7) ((0 : Int), ((0 : Int), ((0 : Int), (0 : Int)))))).bind fun o13 =>
 (T_impl_DepthAt_lp0_m N n (T_impl_DepthAt_lp0_sh i3 (iadd .i64 n4 o13.2.1) t5 (iadd .i64 t7 (1 : Int))) K))
 else
 (T_impl_DepthAt_lp0_m N n (T_impl_DepthAt_lp0_sh i3 n4 t5 (iadd .i64 t7 (1 : Int))) K)) else none)
 else
 (K (.exit 0) (T_impl_DepthAt_lp0_e0 i3 t5 n4 t7 (decide (t7 < (ilen t5)))))) := by kernel_rfl

theorem T_impl_DepthAt_lp0_eq (N : Nat) {R : Type} (i3 : Int) (t5 : List (Int × Int × Int × Int)) (K : Ex → St → Option R) : ∀ (n : Nat) (n4 : Int) (t7 : Int), T_impl_DepthAt_lp0_m N n (T_impl_DepthAt_lp0_sh i3 n4 t5 t7) K = T_impl_DepthAt_lp0 N i3 t5 (fun n10 t11 t12 => (K (.exit 0) (T_impl_DepthAt_lp0_e0 i3 t5 n10 t11 t12))) n n4 t7
  | 0, _, _ => rfl
  | n + 1, n4, t7 => by rw [T_impl_DepthAt_lp0_step, T_impl_DepthAt_lp0]; (try simp only [T_impl_DepthAt_lp0_eq N i3 t5 K n])

theorem T_impl_DepthAt_c1 (N : Nat) (i2 : Int) (code1 : List (Int × Int × Int × Int)) (n14 : Int) (t15 : Int) (t16 : Bool) :
    ((ctxK (R := ODen (T_impl_DepthAt_sg N).ps × RDen (T_impl_DepthAt_sg N).rs) tab (T_impl_DepthAt_ctx N) T_impl_DepthAt_ann N (theCode Try.f146) [1, 1, 0, 1, 0] (retK tab (T_impl_DepthAt_sg N) Try.f146.results.toList some)) (.exit 0) (T_impl_DepthAt_lp0_e0 i2 code1 n14 t15 t16)) =
    (some (α := ODen (T_impl_DepthAt_sg N).ps × RDen (T_impl_DepthAt_sg N).rs) ((), (n14, ()))) := by kernel_rfl

theorem T_impl_DepthAt_den (N : Nat) (code1 : List (Int × Int × Int × Int)) (i2 : Int) :
 den (R := ODen (T_impl_DepthAt_sg N).ps × RDen (T_impl_DepthAt_sg N).rs) tab (T_impl_DepthAt_ctx N) T_impl_DepthAt_ann N (T_impl_DepthAt_sg N) Try.f146 (code1, i2, ()) some =
 (T_impl_DepthAt N code1 i2 : Option (ODen (T_impl_DepthAt_sg N).ps × RDen (T_impl_DepthAt_sg N).rs)) := by
  have h : den (R := ODen (T_impl_DepthAt_sg N).ps × RDen (T_impl_DepthAt_sg N).rs) tab (T_impl_DepthAt_ctx N) T_impl_DepthAt_ann N (T_impl_DepthAt_sg N) Try.f146 (code1, i2, ()) some =
 (T_impl_DepthAt_lp0_m N N (T_impl_DepthAt_lp0_sh i2 (0 : Int) code1 (0 : Int)) (ctxK (R := ODen (T_impl_DepthAt_sg N).ps × RDen (T_impl_DepthAt_sg N).rs) tab (T_impl_DepthAt_ctx N) T_impl_DepthAt_ann N (theCode Try.f146) [1, 1, 0, 1, 0] (retK tab (T_impl_DepthAt_sg N) Try.f146.results.toList some))) := by kernel_rfl
  rw [h]
  (try simp only [T_impl_DepthAt_lp0_eq, T_impl_DepthAt_c1]) <;> rfl

theorem T_impl_DepthAt_ok (N : Nat) : chkBody Try.f146 (T_impl_DepthAt_sg N).ps = true := by kernel_rfl

theorem T_impl_DepthAt_callable : Callable Try.prog 146 := callable_of Try.func146 (show chkFn Try.f146 = true by kernel_rfl)

theorem T_impl_DepthAt_good (N : Nat) : Good Try.prog 146 (T_impl_DepthAt_sg N) :=
  good_body mixedOk tabOk (ctx_cons (T_impl_opens_good N) T_impl_opens_callable ctx_nil) Try.func146 (T_impl_DepthAt_ok N) (fun d _ h => ⟨N, (T_impl_DepthAt_den N d.1 d.2.1).trans h⟩)

noncomputable def T_impl_CodeOk_sg (N : Nat) : Sig := Sig.of [.v (.slice (.prod (.int .i64) (.prod (.int .i64) (.prod (.int .i64) (.int .i64))))) false] [.v (.bool) false] (fun d => T_impl_CodeOk N d.1)

def T_impl_CodeOk_ann : Nat → List Ghost
  | 5 => [.canon [0, 3, 14, 15, 16, 17]]
  | 6 => [.canon [0, 3, 4, 5, 14, 15, 16]]
  | 7 => [.canon [0, 3, 4, 5, 14, 15, 16, 23]]
  | 8 => [.canon [2]]
  | 9 => [.canon [0, 3, 4, 5, 14, 15, 16, 25]]
  | 10 => [.canon [0, 3, 4, 5, 14, 15, 16, 25, 26]]
  | 11 => [.canon [0, 3, 14, 15, 16, 48]]
  | 12 => [.canon [2]]
  | 13 => [.canon [0, 3, 4, 14, 15, 16, 49]]
  | 14 => [.canon [0, 3, 4, 14, 15, 16]]
  | 15 => [.canon [0, 3, 14, 15, 16, 60]]
  | 16 => [.canon [2]]
  | 17 => [.canon [0, 3, 14, 15, 16]]
  | 100005 => [.canon [0, 3, 14, 15, 16]]
  | _ => []

noncomputable def T_impl_CodeOk_ctx (N : Nat) : Ctx := [(145, T_impl_isBalanced_sg N), (126, T_impl_OpOk_sg N), (146, T_impl_DepthAt_sg N)]

def T_impl_CodeOk_lp0_sh (code3 : List (Int × Int × Int × Int)) (forks4 : Int) (t7 : Int) : St := { env := [(0, .s (.one (.val (.slice (.prod (.int .i64) (.prod (.int .i64) (.prod (.int .i64) (.int .i64))))) (code3 : List (Int × Int × Int × Int))))), (3, .s (.one (.val (.int .i64) (forks4 : Int)))), (14, .s (.one (.val (.slice (.prod (.int .i64) (.prod (.int .i64) (.prod (.int .i64) (.int .i64))))) (code3 : List (Int × Int × Int × Int))))), (15, .s (.one (.val (.int .i64) (ilen code3 : Int)))), (16, .s (.one (.val (.int .i64) (t7 : Int))))], objs := [], nx := 0 }

def T_impl_CodeOk_lp0_e0 (code3 : List (Int × Int × Int × Int)) : St := { env := [(2, .s (.one (.val (.bool) (false : Bool))))], objs := [], nx := 0 }

def T_impl_CodeOk_lp0_e1 (code3 : List (Int × Int × Int × Int)) (forks14 : Int) (t15 : Int) (t16 : Bool) : St := { env := [(0, .s (.one (.val (.slice (.prod (.int .i64) (.prod (.int .i64) (.prod (.int .i64) (.int .i64))))) (code3 : List (Int × Int × Int × Int))))), (3, .s (.one (.val (.int .i64) (forks14 : Int)))), (14, .s (.one (.val (.slice (.prod (.int .i64) (.prod (.int .i64) (.prod (.int .i64) (.int .i64))))) (code3 : List (Int × Int × Int × Int))))), (15, .s (.one (.val (.int .i64) (ilen code3 : Int)))), (16, .s (.one (.val (.int .i64) (t15 : Int)))), (17, .s (.one (.val (.bool) (t16 : Bool))))], objs := [], nx := 0 }

noncomputable def T_impl_CodeOk_lp0_m (N : Nat) {R : Type} (n : Nat) (st : St) (K : Ex → St → Option R) : Option R := loopN (roundG (T_impl_CodeOk_ann 100005) fun st k => sx tab (T_impl_CodeOk_ctx N) T_impl_CodeOk_ann N (nthLoop Try.f122 0) st k) n st K

theorem T_impl_CodeOk_lp0_step (N : Nat) {R : Type} (n : Nat) (K : Ex → St → Option R) (code3 : List (Int × Int × Int × Int)) (forks4 : Int) (t7 : Int) :
    T_impl_CodeOk_lp0_m N (n + 1) (T_impl_CodeOk_lp0_sh code3 forks4 t7) K =
    (bif decide (t7 < (ilen code3)) then
 (bif inb t7 (List.length code3) then
 ((T_impl_OpOk N (List.getD code3 (Int.toNat t7) ((0 : Int), ((0 : Int), ((0 : Int), (0 : Int)))))).bind fun o17 =>
 (bif !o17.2.1 then
 (K .ret (T_impl_CodeOk_lp0_e0 code3))
 else
 (bif (List.getD code3 (Int.toNat t7) ((0 : Int), ((0 : Int), ((0 : Int), (0 : Int))))).1 == (7 : Int) then
 (bif decide ((iadd .i64 (iadd .i64 t7 (1 : Int)) (List.getD code3 (Int.toNat t7) ((0 : Int), ((0 : Int), ((0 : Int), (0 : Int))))).2.2.1) > (ilen code3)) then
 (K .ret (T_impl_CodeOk_lp0_e0 code3))
 else
 (bif (((decide ((0 : Int) ≤ (iadd .i64 (iadd .i64 t7 (1 : Int)) (List.getD code3 (Int.toNat t7) ((0 : Int), ((0 : Int), ((0 : Int), (0 : Int))))).2.2.1))) && (decide ((iadd .i64 (iadd .i64 t7 (1 : Int)) (List.getD code3 (Int.toNat t7) ((0 : Int), ((0 : Int), ((0 : Int), (0 : Int))))).2.2.1) ≤ ((List.length code3) : Int)))) && (decide ((0 : Int) ≤ (iadd .i64 t7 (1 : Int))))) && (decide ((iadd .i64 t7 (1 : Int)) ≤ (iadd .i64 (iadd .i64 t7 (1 : Int)) (List.getD code3 (Int.toNat t7) ((0 : Int), ((0 : Int), ((0 : Int), (0 : Int))))).2.2.1))) then
 ((T_impl_isBalanced N (List.drop (Int.toNat (iadd .i64 t7 (1 : Int))) (List.take (Int.toNat (iadd .i64 (iadd .i64 t7 (1 : Int)) (List.getD code3 (Int.toNat t7) ((0 : Int), ((0 : Int), ((0 : Int), (0 : Int))))).2.2.1)) code3))).bind fun o18 =>
 (bif !o18.2.1 then
 (K .ret (T_impl_CodeOk_lp0_e0 code3))
 else
 (T_impl_CodeOk_lp0_m N n (T_impl_CodeOk_lp0_sh code3 forks4 (iadd .i64 t7 (1 : Int))) K))) else none))
 else
 (bif (List.getD code3 (Int.toNat t7) ((0 : Int), ((0 : Int), ((0 : Int), (0 : Int))))).1 == (11 : Int) then
 (bif decide ((iadd .i64 forks4 (1 : Int)) > (1 : Int)) then
 (K .ret (T_impl_CodeOk_lp0_e0 code3))
 else
 ((T_impl_DepthAt N code3 t7).bind fun o19 =>
 (bif o19.2.1 != (0 : Int) then
 (K .ret (T_impl_CodeOk_lp0_e0 code3))
 else
 (T_impl_CodeOk_lp0_m N n (T_impl_CodeOk_lp0_sh code3 (iadd .i64 forks4 (1 : Int)) (iadd .i64 t7 (1 : Int))) K))))
 else
 (T_impl_CodeOk_lp0_m N n (T_impl_CodeOk_lp0_sh code3 forks4 (iadd .i64 t7 (1 : Int))) K))))) else none)
 else
 (K (.exit 0) (T_impl_CodeOk_lp0_e1 code3 forks4 t7 (decide (t7 < (ilen code3)))))) := by kernel_rfl

theorem T_impl_CodeOk_lp0_eq (N : Nat) {R : Type} (code3 : List (Int × Int × Int × Int)) (K : Ex → St → Option R) : ∀ (n : Nat) (forks4 : Int) (t7 : Int), T_impl_CodeOk_lp0_m N n (T_impl_CodeOk_lp0_sh code3 forks4 t7) K = T_impl_CodeOk_lp0 N code3 (K .ret (T_impl_CodeOk_lp0_e0 code3)) (fun forks14 t15 t16 => (K (.exit 0) (T_impl_CodeOk_lp0_e1 code3 forks14 t15 t16))) n forks4 t7
  | 0, _, _ => rfl
  | n + 1, forks4, t7 => by rw [T_impl_CodeOk_lp0_step, T_impl_CodeOk_lp0]; (try simp only [T_impl_CodeOk_lp0_eq N code3 K n])

theorem T_impl_CodeOk_c1 (N : Nat) (code1 : List (Int × Int × Int × Int)) :
    ((ctxK (R := ODen (T_impl_CodeOk_sg N).ps × RDen (T_impl_CodeOk_sg N).rs) tab (T_impl_CodeOk_ctx N) T_impl_CodeOk_ann N (theCode Try.f122) [1, 1, 1, 0, 1, 0] (retK tab (T_impl_CodeOk_sg N) Try.f122.results.toList some)) .ret (T_impl_CodeOk_lp0_e0 code1)) =
    (some (α := ODen (T_impl_CodeOk_sg N).ps × RDen (T_impl_CodeOk_sg N).rs) ((), (false, ()))) := by kernel_rfl

theorem T_impl_CodeOk_c2 (N : Nat) (code1 : List (Int × Int × Int × Int)) (forks20 : Int) (t21 : Int) (t22 : Bool) :
    ((ctxK (R := ODen (T_impl_CodeOk_sg N).ps × RDen (T_impl_CodeOk_sg N).rs) tab (T_impl_CodeOk_ctx N) T_impl_CodeOk_ann N (theCode Try.f122) [1, 1, 1, 0, 1, 0] (retK tab (T_impl_CodeOk_sg N) Try.f122.results.toList some)) (.exit 0) (T_impl_CodeOk_lp0_e1 code1 forks20 t21 t22)) =
    (some (α := ODen (T_impl_CodeOk_sg N).ps × RDen (T_impl_CodeOk_sg N).rs) ((), (true, ()))) := by kernel_rfl

theorem T_impl_CodeOk_den (N : Nat) (code1 : List (Int × Int × Int × Int)) :
 den (R := ODen (T_impl_CodeOk_sg N).ps × RDen (T_impl_CodeOk_sg N).rs) tab (T_impl_CodeOk_ctx N) T_impl_CodeOk_ann N (T_impl_CodeOk_sg N) Try.f122 (code1, ()) some =
 (T_impl_CodeOk N code1 : Option (ODen (T_impl_CodeOk_sg N).ps × RDen (T_impl_CodeOk_sg N).rs)) := by
  have h : den (R := ODen (T_impl_CodeOk_sg N).ps × RDen (T_impl_CodeOk_sg N).rs) tab (T_impl_CodeOk_ctx N) T_impl_CodeOk_ann N (T_impl_CodeOk_sg N) Try.f122 (code1, ()) some =
 (bif decide ((ilen code1) > (24 : Int)) then
 (some (α := ODen (T_impl_CodeOk_sg N).ps × RDen (T_impl_CodeOk_sg N).rs) ((), (false, ())))
 else
 ((T_impl_isBalanced N code1).bind fun o2 =>
 (bif !o2.2.1 then
 (some (α := ODen (T_impl_CodeOk_sg N).ps × RDen (T_impl_CodeOk_sg N).rs) ((), (false, ())))
 else
 (T_impl_CodeOk_lp0_m N N (T_impl_CodeOk_lp0_sh code1 (0 : Int) (0 : Int)) (ctxK (R := ODen (T_impl_CodeOk_sg N).ps × RDen (T_impl_CodeOk_sg N).rs) tab (T_impl_CodeOk_ctx N) T_impl_CodeOk_ann N (theCode Try.f122) [1, 1, 1, 0, 1, 0] (retK tab (T_impl_CodeOk_sg N) Try.f122.results.toList some)))))) := by kernel_rfl
  rw [h]
  (try simp only [T_impl_CodeOk_lp0_eq, T_impl_CodeOk_c1, T_impl_CodeOk_c2]) <;> rfl

theorem T_impl_CodeOk_ok (N : Nat) : chkBody Try.f122 (T_impl_CodeOk_sg N).ps = true := by kernel_rfl

theorem T_impl_CodeOk_callable : Callable Try.prog 122 := callable_of Try.func122 (show chkFn Try.f122 = true by kernel_rfl)

theorem T_impl_CodeOk_good (N : Nat) : Good Try.prog 122 (T_impl_CodeOk_sg N) :=
  good_body mixedOk tabOk (ctx_cons (T_impl_isBalanced_good N) T_impl_isBalanced_callable (ctx_cons (T_impl_OpOk_good N) T_impl_OpOk_callable (ctx_cons (T_impl_DepthAt_good N) T_impl_DepthAt_callable ctx_nil))) Try.func122 (T_impl_CodeOk_ok N) (fun d _ h => ⟨N, (T_impl_CodeOk_den N d.1).trans h⟩)

noncomputable def T_impl_KidOk_sg (N : Nat) : Sig := Sig.of [.v (.slice (.prod (.int .i64) (.prod (.int .i64) (.prod (.int .i64) (.int .i64))))) false] [.v (.bool) false] (fun d => T_impl_KidOk N d.1)

def T_impl_KidOk_ann : Nat → List Ghost
  | 2 => [.canon [0, 5, 6, 7, 8]]
  | 3 => [.canon [0, 4, 5, 6, 7]]
  | 4 => [.canon [0, 5, 6, 7, 18]]
  | 5 => [.canon [2]]
  | 6 => [.canon [0, 5, 6, 7]]
  | 100002 => [.canon [0, 5, 6, 7]]
  | _ => []

noncomputable def T_impl_KidOk_ctx (N : Nat) : Ctx := [(121, T_impl_Touches_sg N), (122, T_impl_CodeOk_sg N)]

def T_impl_KidOk_lp0_sh (code2 : List (Int × Int × Int × Int)) (t5 : Int) : St := { env := [(0, .s (.one (.val (.slice (.prod (.int .i64) (.prod (.int .i64) (.prod (.int .i64) (.int .i64))))) (code2 : List (Int × Int × Int × Int))))), (5, .s (.one (.val (.slice (.prod (.int .i64) (.prod (.int .i64) (.prod (.int .i64) (.int .i64))))) (code2 : List (Int × Int × Int × Int))))), (6, .s (.one (.val (.int .i64) (ilen code2 : Int)))), (7, .s (.one (.val (.int .i64) (t5 : Int))))], objs := [], nx := 0 }

def T_impl_KidOk_lp0_e0 (code2 : List (Int × Int × Int × Int)) : St := { env := [(2, .s (.one (.val (.bool) (false : Bool))))], objs := [], nx := 0 }

def T_impl_KidOk_lp0_e1 (code2 : List (Int × Int × Int × Int)) (t8 : Int) (t9 : Bool) : St := { env := [(0, .s (.one (.val (.slice (.prod (.int .i64) (.prod (.int .i64) (.prod (.int .i64) (.int .i64))))) (code2 : List (Int × Int × Int × Int))))), (5, .s (.one (.val (.slice (.prod (.int .i64) (.prod (.int .i64) (.prod (.int .i64) (.int .i64))))) (code2 : List (Int × Int × Int × Int))))), (6, .s (.one (.val (.int .i64) (ilen code2 : Int)))), (7, .s (.one (.val (.int .i64) (t8 : Int)))), (8, .s (.one (.val (.bool) (t9 : Bool))))], objs := [], nx := 0 }

noncomputable def T_impl_KidOk_lp0_m (N : Nat) {R : Type} (n : Nat) (st : St) (K : Ex → St → Option R) : Option R := loopN (roundG (T_impl_KidOk_ann 100002) fun st k => sx tab (T_impl_KidOk_ctx N) T_impl_KidOk_ann N (nthLoop Try.f97 0) st k) n st K

theorem T_impl_KidOk_lp0_step (N : Nat) {R : Type} (n : Nat) (K : Ex → St → Option R) (code2 : List (Int × Int × Int × Int)) (t5 : Int) :
    T_impl_KidOk_lp0_m N (n + 1) (T_impl_KidOk_lp0_sh code2 t5) K =
    (bif decide (t5 < (ilen code2)) then
 (bif inb t5 (List.length code2) then
 (bif (List.getD code2 (Int.toNat t5) ((0 : Int), ((0 : Int), ((0 : Int), (0 : Int))))).1 == (11 : Int) then
 (K .ret (T_impl_KidOk_lp0_e0 code2))
 else
 ((T_impl_Touches N (List.getD code2 (Int.toNat t5) ((0 : Int), ((0 : Int), ((0 : Int), (0 : Int)))))).bind fun o10 =>
 (bif o10.2.1 == (2 : Int) then
 (K .ret (T_impl_KidOk_lp0_e0 code2))
 else
 (T_impl_KidOk_lp0_m N n (T_impl_KidOk_lp0_sh code2 (iadd .i64 t5 (1 : Int))) K)))) else none)
 else
 (K (.exit 0) (T_impl_KidOk_lp0_e1 code2 t5 (decide (t5 < (ilen code2)))))) := by kernel_rfl

theorem T_impl_KidOk_lp0_eq (N : Nat) {R : Type} (code2 : List (Int × Int × Int × Int)) (K : Ex → St → Option R) : ∀ (n : Nat) (t5 : Int), T_impl_KidOk_lp0_m N n (T_impl_KidOk_lp0_sh code2 t5) K = T_impl_KidOk_lp0 N code2 (K .ret (T_impl_KidOk_lp0_e0 code2)) (fun t8 t9 => (K (.exit 0) (T_impl_KidOk_lp0_e1 code2 t8 t9))) n t5
  | 0, _ => rfl
  | n + 1, t5 => by rw [T_impl_KidOk_lp0_step, T_impl_KidOk_lp0]; (try simp only [T_impl_KidOk_lp0_eq N code2 K n])

theorem T_impl_KidOk_c1 (N : Nat) (code1 : List (Int × Int × Int × Int)) :
    ((ctxK (R := ODen (T_impl_KidOk_sg N).ps × RDen (T_impl_KidOk_sg N).rs) tab (T_impl_KidOk_ctx N) T_impl_KidOk_ann N (theCode Try.f97) [1, 0, 1, 0] (retK tab (T_impl_KidOk_sg N) Try.f97.results.toList some)) .ret (T_impl_KidOk_lp0_e0 code1)) =
    (some (α := ODen (T_impl_KidOk_sg N).ps × RDen (T_impl_KidOk_sg N).rs) ((), (false, ()))) := by kernel_rfl

theorem T_impl_KidOk_c2 (N : Nat) (code1 : List (Int × Int × Int × Int)) (t11 : Int) (t12 : Bool) :
    ((ctxK (R := ODen (T_impl_KidOk_sg N).ps × RDen (T_impl_KidOk_sg N).rs) tab (T_impl_KidOk_ctx N) T_impl_KidOk_ann N (theCode Try.f97) [1, 0, 1, 0] (retK tab (T_impl_KidOk_sg N) Try.f97.results.toList some)) (.exit 0) (T_impl_KidOk_lp0_e1 code1 t11 t12)) =
    ((T_impl_CodeOk N code1).bind fun o13 =>
 (some (α := ODen (T_impl_KidOk_sg N).ps × RDen (T_impl_KidOk_sg N).rs) ((), (o13.2.1, ())))) := by kernel_rfl

theorem T_impl_KidOk_den (N : Nat) (code1 : List (Int × Int × Int × Int)) :
 den (R := ODen (T_impl_KidOk_sg N).ps × RDen (T_impl_KidOk_sg N).rs) tab (T_impl_KidOk_ctx N) T_impl_KidOk_ann N (T_impl_KidOk_sg N) Try.f97 (code1, ()) some =
 (T_impl_KidOk N code1 : Option (ODen (T_impl_KidOk_sg N).ps × RDen (T_impl_KidOk_sg N).rs)) := by
  have h : den (R := ODen (T_impl_KidOk_sg N).ps × RDen (T_impl_KidOk_sg N).rs) tab (T_impl_KidOk_ctx N) T_impl_KidOk_ann N (T_impl_KidOk_sg N) Try.f97 (code1, ()) some =
 (T_impl_KidOk_lp0_m N N (T_impl_KidOk_lp0_sh code1 (0 : Int)) (ctxK (R := ODen (T_impl_KidOk_sg N).ps × RDen (T_impl_KidOk_sg N).rs) tab (T_impl_KidOk_ctx N) T_impl_KidOk_ann N (theCode Try.f97) [1, 0, 1, 0] (retK tab (T_impl_KidOk_sg N) Try.f97.results.toList some))) := by kernel_rfl
  rw [h]
  (try simp only [T_impl_KidOk_lp0_eq, T_impl_KidOk_c1, T_impl_KidOk_c2]) <;> rfl

theorem T_impl_KidOk_ok (N : Nat) : chkBody Try.f97 (T_impl_KidOk_sg N).ps = true := by kernel_rfl

theorem T_impl_KidOk_callable : Callable Try.prog 97 := callable_of Try.func97 (show chkFn Try.f97 = true by kernel_rfl)

theorem T_impl_KidOk_good (N : Nat) : Good Try.prog 97 (T_impl_KidOk_sg N) :=
  good_body mixedOk tabOk (ctx_cons (T_impl_Touches_good N) T_impl_Touches_callable (ctx_cons (T_impl_CodeOk_good N) T_impl_CodeOk_callable ctx_nil)) Try.func97 (T_impl_KidOk_ok N) (fun d _ h => ⟨N, (T_impl_KidOk_den N d.1).trans h⟩)

noncomputable def T_impl_areValues_sg (N : Nat) : Sig := Sig.of [.v (.slice (.int .i64)) false, .v (.int .i64) false] [.v (.bool) false] (fun d => T_impl_areValues N d.1 d.2.1)

def T_impl_areValues_ann : Nat → List Ghost
  | 2 => [.canon [0, 1, 7, 8, 9, 10]]
  | 3 => [.canon [0, 1, 6, 7, 8, 9]]
  | 4 => [.canon [0, 1, 7, 8, 9, 15]]
  | 5 => [.canon [4]]
  | 6 => [.canon [0, 1, 7, 8, 9]]
  | 100002 => [.canon [0, 1, 7, 8, 9]]
  | _ => []

noncomputable def T_impl_areValues_ctx (N : Nat) : Ctx := [(91, T_impl_isValue_sg N)]

def T_impl_areValues_lp0_sh (l3 : List Int) (n4 : Int) (t7 : Int) : St := { env := [(0, .s (.one (.val (.slice (.int .i64)) (l3 : List Int)))), (1, .s (.one (.val (.int .i64) (n4 : Int)))), (7, .s (.one (.val (.slice (.int .i64)) (l3 : List Int)))), (8, .s (.one (.val (.int .i64) (ilen l3 : Int)))), (9, .s (.one (.val (.int .i64) (t7 : Int))))], objs := [], nx := 0 }

def T_impl_areValues_lp0_e0 (l3 : List Int) (n4 : Int) : St := { env := [(4, .s (.one (.val (.bool) (false : Bool))))], objs := [], nx := 0 }

def T_impl_areValues_lp0_e1 (l3 : List Int) (n4 : Int) (t10 : Int) (t11 : Bool) : St := { env := [(0, .s (.one (.val (.slice (.int .i64)) (l3 : List Int)))), (1, .s (.one (.val (.int .i64) (n4 : Int)))), (7, .s (.one (.val (.slice (.int .i64)) (l3 : List Int)))), (8, .s (.one (.val (.int .i64) (ilen l3 : Int)))), (9, .s (.one (.val (.int .i64) (t10 : Int)))), (10, .s (.one (.val (.bool) (t11 : Bool))))], objs := [], nx := 0 }

noncomputable def T_impl_areValues_lp0_m (N : Nat) {R : Type} (n : Nat) (st : St) (K : Ex → St → Option R) : Option R := loopN (roundG (T_impl_areValues_ann 100002) fun st k => sx tab (T_impl_areValues_ctx N) T_impl_areValues_ann N (nthLoop Try.f48 0) st k) n st K

theorem T_impl_areValues_lp0_step (N : Nat) {R : Type} (n : Nat) (K : Ex → St → Option R) (l3 : List Int) (n4 : Int) (t7 : Int) :
    T_impl_areValues_lp0_m N (n + 1) (T_impl_areValues_lp0_sh l3 n4 t7) K =
    (bif decide (t7 < (ilen l3)) then
 (bif inb t7 (List.length l3) then
 ((T_impl_isValue N (List.getD l3 (Int.toNat t7) (0 : Int))).bind fun o12 =>
 (bif !o12.2.1 then
 (K .ret (T_impl_areValues_lp0_e0 l3 n4))
 else
 (T_impl_areValues_lp0_m N n (T_impl_areValues_lp0_sh l3 n4 (iadd .i64 t7 (1 : Int))) K))) else none)
 else
 (K (.exit 0) (T_impl_areValues_lp0_e1 l3 n4 t7 (decide (t7 < (ilen l3)))))) := by kernel_rfl

theorem T_impl_areValues_lp0_eq (N : Nat) {R : Type} (l3 : List Int) (n4 : Int) (K : Ex → St → Option R) : ∀ (n : Nat) (t7 : Int), T_impl_areValues_lp0_m N n (T_impl_areValues_lp0_sh l3 n4 t7) K = T_impl_areValues_lp0 N l3 n4 (K .ret (T_impl_areValues_lp0_e0 l3 n4)) (fun t10 t11 => (K (.exit 0) (T_impl_areValues_lp0_e1 l3 n4 t10 t11))) n t7
  | 0, _ => rfl
  | n + 1, t7 => by rw [T_impl_areValues_lp0_step, T_impl_areValues_lp0]; (try simp only [T_impl_areValues_lp0_eq N l3 n4 K n])

theorem T_impl_areValues_c1 (N : Nat) (l1 : List Int) (n2 : Int) :
    ((ctxK (R := ODen (T_impl_areValues_sg N).ps × RDen (T_impl_areValues_sg N).rs) tab (T_impl_areValues_ctx N) T_impl_areValues_ann N (theCode Try.f48) [1, 0, 1, 0] (retK tab (T_impl_areValues_sg N) Try.f48.results.toList some)) .ret (T_impl_areValues_lp0_e0 l1 n2)) =
    (some (α := ODen (T_impl_areValues_sg N).ps × RDen (T_impl_areValues_sg N).rs) ((), (false, ()))) := by kernel_rfl

theorem T_impl_areValues_c2 (N : Nat) (l1 : List Int) (n2 : Int) (t13 : Int) (t14 : Bool) :
    ((ctxK (R := ODen (T_impl_areValues_sg N).ps × RDen (T_impl_areValues_sg N).rs) tab (T_impl_areValues_ctx N) T_impl_areValues_ann N (theCode Try.f48) [1, 0, 1, 0] (retK tab (T_impl_areValues_sg N) Try.f48.results.toList some)) (.exit 0) (T_impl_areValues_lp0_e1 l1 n2 t13 t14)) =
    (some (α := ODen (T_impl_areValues_sg N).ps × RDen (T_impl_areValues_sg N).rs) ((), ((ilen l1) == n2, ()))) := by kernel_rfl

theorem T_impl_areValues_den (N : Nat) (l1 : List Int) (n2 : Int) :
 den (R := ODen (T_impl_areValues_sg N).ps × RDen (T_impl_areValues_sg N).rs) tab (T_impl_areValues_ctx N) T_impl_areValues_ann N (T_impl_areValues_sg N) Try.f48 (l1, n2, ()) some =
 (T_impl_areValues N l1 n2 : Option (ODen (T_impl_areValues_sg N).ps × RDen (T_impl_areValues_sg N).rs)) := by
  have h : den (R := ODen (T_impl_areValues_sg N).ps × RDen (T_impl_areValues_sg N).rs) tab (T_impl_areValues_ctx N) T_impl_areValues_ann N (T_impl_areValues_sg N) Try.f48 (l1, n2, ()) some =
 (T_impl_areValues_lp0_m N N (T_impl_areValues_lp0_sh l1 n2 (0 : Int)) (ctxK (R := ODen (T_impl_areValues_sg N).ps × RDen (T_impl_areValues_sg N).rs) tab (T_impl_areValues_ctx N) T_impl_areValues_ann N (theCode Try.f48) [1, 0, 1, 0] (retK tab (T_impl_areValues_sg N) Try.f48.results.toList some))) := by kernel_rfl
  rw [h]
  (try simp only [T_impl_areValues_lp0_eq, T_impl_areValues_c1, T_impl_areValues_c2]) <;> rfl

theorem T_impl_areValues_ok (N : Nat) : chkBody Try.f48 (T_impl_areValues_sg N).ps = true := by kernel_rfl

theorem T_impl_areValues_callable : Callable Try.prog 48 := callable_of Try.func48 (show chkFn Try.f48 = true by kernel_rfl)

theorem T_impl_areValues_good (N : Nat) : Good Try.prog 48 (T_impl_areValues_sg N) :=
  good_body mixedOk tabOk (ctx_cons (T_impl_isValue_good N) T_impl_isValue_callable ctx_nil) Try.func48 (T_impl_areValues_ok N) (fun d _ h => ⟨N, (T_impl_areValues_den N d.1 d.2.1).trans h⟩)

noncomputable def T_impl_copyInts_sg (N : Nat) : Sig := Sig.of [.v (.slice (.int .i64)) false] [.v (.own (.int .i64)) false] (fun d => T_impl_copyInts N d.1)

def T_impl_copyInts_ann : Nat → List Ghost
  | _ => []

noncomputable def T_impl_copyInts_ctx (N : Nat) : Ctx := []

theorem T_impl_copyInts_den (N : Nat) (l1 : List Int) :
    den (R := ODen (T_impl_copyInts_sg N).ps × RDen (T_impl_copyInts_sg N).rs) tab (T_impl_copyInts_ctx N) T_impl_copyInts_ann N (T_impl_copyInts_sg N) Try.f49 (l1, ()) some =
    (T_impl_copyInts N l1 : Option (ODen (T_impl_copyInts_sg N).ps × RDen (T_impl_copyInts_sg N).rs)) := by kernel_rfl

theorem T_impl_copyInts_ok (N : Nat) : chkBody Try.f49 (T_impl_copyInts_sg N).ps = true := by kernel_rfl

theorem T_impl_copyInts_callable : Callable Try.prog 49 := callable_of Try.func49 (show chkFn Try.f49 = true by kernel_rfl)

theorem T_impl_copyInts_good (N : Nat) : Good Try.prog 49 (T_impl_copyInts_sg N) :=
  good_body mixedOk tabOk ctx_nil Try.func49 (T_impl_copyInts_ok N) (fun d _ h => ⟨N, (T_impl_copyInts_den N d.1).trans h⟩)

noncomputable def T_impl_kidOf_sg (N : Nat) : Sig := Sig.of [.v (.slice (.prod (.int .i64) (.prod (.int .i64) (.prod (.int .i64) (.int .i64))))) false, .v (.slice (.int .i64)) false, .v (.slice (.int .i64)) false] [.box (.prod (.own (.int .i64)) (.prod (.own (.int .i64)) (.prod (.own (.prod (.int .i64) (.int .i64))) (.prod (.int .i64) (.prod (.own (.prod (.int .i64) (.prod (.int .i64) (.own (.int .i64))))) (.own (.int .i64))))))), .v (.bool) false] (fun d => T_impl_kidOf N d.1 d.2.1 d.2.2.1)

def T_impl_kidOf_ann : Nat → List Ghost
  | _ => []

noncomputable def T_impl_kidOf_ctx (N : Nat) : Ctx := [(97, T_impl_KidOk_sg N), (48, T_impl_areValues_sg N), (49, T_impl_copyInts_sg N)]

theorem T_impl_kidOf_den (N : Nat) (code1 : List (Int × Int × Int × Int)) (regs2 : List Int) (cells3 : List Int) :
    den (R := ODen (T_impl_kidOf_sg N).ps × RDen (T_impl_kidOf_sg N).rs) tab (T_impl_kidOf_ctx N) T_impl_kidOf_ann N (T_impl_kidOf_sg N) Try.f61 (code1, regs2, cells3, ()) some =
    (T_impl_kidOf N code1 regs2 cells3 : Option (ODen (T_impl_kidOf_sg N).ps × RDen (T_impl_kidOf_sg N).rs)) := by kernel_rfl

theorem T_impl_kidOf_ok (N : Nat) : chkBody Try.f61 (T_impl_kidOf_sg N).ps = true := by kernel_rfl

theorem T_impl_kidOf_callable : Callable Try.prog 61 := callable_of Try.func61 (show chkFn Try.f61 = true by kernel_rfl)

theorem T_impl_kidOf_good (N : Nat) : Good Try.prog 61 (T_impl_kidOf_sg N) :=
  good_body mixedOk tabOk (ctx_cons (T_impl_KidOk_good N) T_impl_KidOk_callable (ctx_cons (T_impl_areValues_good N) T_impl_areValues_callable (ctx_cons (T_impl_copyInts_good N) T_impl_copyInts_callable ctx_nil))) Try.func61 (T_impl_kidOf_ok N) (fun d _ h => ⟨N, (T_impl_kidOf_den N d.1 d.2.1 d.2.2.1).trans h⟩)

noncomputable def T_impl_eager_run_1_sg (N : Nat) : Sig := Sig.of [.v (.prod (.int .i64) (.int .i64)) true, .box (.prod (.int .i64) (.prod (.int .i64) (.prod (.int .i64) (.int .i64))))] [.v (.bool) false] (fun d => T_impl_eager_run_1 N d.1 d.2.1)

def T_impl_eager_run_1_ann : Nat → List Ghost
  | _ => []

noncomputable def T_impl_eager_run_1_ctx (N : Nat) : Ctx := []

theorem T_impl_eager_run_1_den (N : Nat) (r1 : Int × Int) (a2 : Int × Int × Int × Int) :
    den (R := ODen (T_impl_eager_run_1_sg N).ps × RDen (T_impl_eager_run_1_sg N).rs) tab (T_impl_eager_run_1_ctx N) T_impl_eager_run_1_ann N (T_impl_eager_run_1_sg N) Try.f99 (r1, a2, ()) some =
    (T_impl_eager_run_1 N r1 a2 : Option (ODen (T_impl_eager_run_1_sg N).ps × RDen (T_impl_eager_run_1_sg N).rs)) := by kernel_rfl

theorem T_impl_eager_run_1_ok (N : Nat) : chkBody Try.f99 (T_impl_eager_run_1_sg N).ps = true := by kernel_rfl

theorem T_impl_eager_run_1_callable : Callable Try.prog 99 := callable_of Try.func99 (show chkFn Try.f99 = true by kernel_rfl)

theorem T_impl_eager_run_1_good (N : Nat) : Good Try.prog 99 (T_impl_eager_run_1_sg N) :=
  good_body mixedOk tabOk ctx_nil Try.func99 (T_impl_eager_run_1_ok N) (fun d _ h => ⟨N, (T_impl_eager_run_1_den N d.1 d.2.1).trans h⟩)

noncomputable def T_slices_IndexFunc___impl_Row_impl_Row___impl_eager_run_1_sg (N : Nat) : Sig := Sig.of [.v (.slice (.prod (.int .i64) (.int .i64))) false, .clos 99 1, .box (.prod (.int .i64) (.prod (.int .i64) (.prod (.int .i64) (.int .i64))))] [.v (.int .i64) false] (fun d => T_slices_IndexFunc___impl_Row_impl_Row___impl_eager_run_1 N d.1 d.2.1)

def T_slices_IndexFunc___impl_Row_impl_Row___impl_eager_run_1_ann : Nat → List Ghost
  | 2 => [.canon [0, 1, 7, 8, 9]]
  | 3 => [.canon [0, 1, 5, 7, 8]]
  | 4 => [.canon [0, 1, 5, 7, 8, 16]]
  | 5 => [.canon [1, 4]]
  | 6 => [.canon [0, 1, 7, 8]]
  | 100002 => [.canon [0, 1, 7, 8]]
  | _ => []

noncomputable def T_slices_IndexFunc___impl_Row_impl_Row___impl_eager_run_1_ctx (N : Nat) : Ctx := [(99, T_impl_eager_run_1_sg N)]

def T_slices_IndexFunc___impl_Row_impl_Row___impl_eager_run_1_lp0_sh (s3 : List (Int × Int)) (t5 : Int) (b6 : Int × Int × Int × Int) : St := { env := [(0, .s (.one (.val (.slice (.prod (.int .i64) (.int .i64))) (s3 : List (Int × Int))))), (1, .s (.one (.clos 99 [0]))), (7, .s (.one (.val (.int .i64) (ilen s3 : Int)))), (8, .s (.one (.val (.int .i64) (t5 : Int))))], objs := [(0, .box [.val (.int .i64) (b6.1 : Int), .val (.int .i64) (b6.2.1 : Int), .val (.int .i64) (b6.2.2.1 : Int), .val (.int .i64) (b6.2.2.2 : Int)])], nx := 1 }

def T_slices_IndexFunc___impl_Row_impl_Row___impl_eager_run_1_lp0_e0 (s3 : List (Int × Int)) (t9 : Int) (b10 : Int × Int × Int × Int) : St := { env := [(1, .s (.one (.clos 99 [0]))), (4, .s (.one (.val (.int .i64) (t9 : Int))))], objs := [(0, .box [.val (.int .i64) (b10.1 : Int), .val (.int .i64) (b10.2.1 : Int), .val (.int .i64) (b10.2.2.1 : Int), .val (.int .i64) (b10.2.2.2 : Int)])], nx := 1 }

def T_slices_IndexFunc___impl_Row_impl_Row___impl_eager_run_1_lp0_e1 (s3 : List (Int × Int)) (t11 : Int) (t12 : Bool) (b13 : Int × Int × Int × Int) : St := { env := [(0, .s (.one (.val (.slice (.prod (.int .i64) (.int .i64))) (s3 : List (Int × Int))))), (1, .s (.one (.clos 99 [0]))), (7, .s (.one (.val (.int .i64) (ilen s3 : Int)))), (8, .s (.one (.val (.int .i64) (t11 : Int)))), (9, .s (.one (.val (.bool) (t12 : Bool))))], objs := [(0, .box [.val (.int .i64) (b13.1 : Int), .val (.int .i64) (b13.2.1 : Int), .val (.int .i64) (b13.2.2.1 : Int), .val (.int .i64) (b13.2.2.2 : Int)])], nx := 1 }

noncomputable def T_slices_IndexFunc___impl_Row_impl_Row___impl_eager_run_1_lp0_m (N : Nat) {R : Type} (n : Nat) (st : St) (K : Ex → St → Option R) : Option R := loopN (roundG (T_slices_IndexFunc___impl_Row_impl_Row___impl_eager_run_1_ann 100002) fun st k => sx tab (T_slices_IndexFunc___impl_Row_impl_Row___impl_eager_run_1_ctx N) T_slices_IndexFunc___impl_Row_impl_Row___impl_eager_run_1_ann N (nthLoop Try.f123 0) st k) n st K

theorem T_slices_IndexFunc___impl_Row_impl_Row___impl_eager_run_1_lp0_step (N : Nat) {R : Type} (n : Nat) (K : Ex → St → Option R) (s3 : List (Int × Int)) (t5 : Int) (b6 : Int × Int × Int × Int) :
    T_slices_IndexFunc___impl_Row_impl_Row___impl_eager_run_1_lp0_m N (n + 1) (T_slices_IndexFunc___impl_Row_impl_Row___impl_eager_run_1_lp0_sh s3 t5 b6) K =
    (bif decide (t5 < (ilen s3)) then
 (bif inb t5 (List.length s3) then
 ((T_impl_eager_run_1 N (List.getD s3 (Int.toNat t5) ((0 : Int), (0 : Int))) b6).bind fun o14 =>
 (bif o14.2.1 then
 (K .ret (T_slices_IndexFunc___impl_Row_impl_Row___impl_eager_run_1_lp0_e0 s3 t5 o14.1.1))
 else
 (T_slices_IndexFunc___impl_Row_impl_Row___impl_eager_run_1_lp0_m N n (T_slices_IndexFunc___impl_Row_impl_Row___impl_eager_run_1_lp0_sh s3 (iadd .i64 t5 (1 : Int)) o14.1.1) K))) else none)
 else
 (K (.exit 0) (T_slices_IndexFunc___impl_Row_impl_Row___impl_eager_run_1_lp0_e1 s3 t5 (decide (t5 < (ilen s3))) b6))) := by kernel_rfl

theorem T_slices_IndexFunc___impl_Row_impl_Row___impl_eager_run_1_lp0_eq (N : Nat) {R : Type} (s3 : List (Int × Int)) (K : Ex → St → Option R) : ∀ (n : Nat) (t5 : Int) (b6 : Int × Int × Int × Int), T_slices_IndexFunc___impl_Row_impl_Row___impl_eager_run_1_lp0_m N n (T_slices_IndexFunc___impl_Row_impl_Row___impl_eager_run_1_lp0_sh s3 t5 b6) K = T_slices_IndexFunc___impl_Row_impl_Row___impl_eager_run_1_lp0 N s3 (fun t9 b10 => (K .ret (T_slices_IndexFunc___impl_Row_impl_Row___impl_eager_run_1_lp0_e0 s3 t9 b10))) (fun t11 t12 b13 => (K (.exit 0) (T_slices_IndexFunc___impl_Row_impl_Row___impl_eager_run_1_lp0_e1 s3 t11 t12 b13))) n t5 b6
  | 0, _, _ => rfl
  | n + 1, t5, b6 => by rw [T_slices_IndexFunc___impl_Row_impl_Row___impl_eager_run_1_lp0_step, T_slices_IndexFunc___impl_Row_impl_Row___impl_eager_run_1_lp0]; (try simp only [T_slices_IndexFunc___impl_Row_impl_Row___impl_eager_run_1_lp0_eq N s3 K n])

theorem T_slices_IndexFunc___impl_Row_impl_Row___impl_eager_run_1_c1 (N : Nat) (s1 : List (Int × Int)) (t15 : Int) (b16 : Int × Int × Int × Int) :
    ((ctxK (R := ODen (T_slices_IndexFunc___impl_Row_impl_Row___impl_eager_run_1_sg N).ps × RDen (T_slices_IndexFunc___impl_Row_impl_Row___impl_eager_run_1_sg N).rs) tab (T_slices_IndexFunc___impl_Row_impl_Row___impl_eager_run_1_ctx N) T_slices_IndexFunc___impl_Row_impl_Row___impl_eager_run_1_ann N (theCode Try.f123) [1, 0, 1, 0] (retK tab (T_slices_IndexFunc___impl_Row_impl_Row___impl_eager_run_1_sg N) Try.f123.results.toList some)) .ret (T_slices_IndexFunc___impl_Row_impl_Row___impl_eager_run_1_lp0_e0 s1 t15 b16)) =
    (some (α := ODen (T_slices_IndexFunc___impl_Row_impl_Row___impl_eager_run_1_sg N).ps × RDen (T_slices_IndexFunc___impl_Row_impl_Row___impl_eager_run_1_sg N).rs) ((b16, ()), (t15, ()))) := by kernel_rfl

theorem T_slices_IndexFunc___impl_Row_impl_Row___impl_eager_run_1_c2 (N : Nat) (s1 : List (Int × Int)) (t17 : Int) (t18 : Bool) (b19 : Int × Int × Int × Int) :
    ((ctxK (R := ODen (T_slices_IndexFunc___impl_Row_impl_Row___impl_eager_run_1_sg N).ps × RDen (T_slices_IndexFunc___impl_Row_impl_Row___impl_eager_run_1_sg N).rs) tab (T_slices_IndexFunc___impl_Row_impl_Row___impl_eager_run_1_ctx N) T_slices_IndexFunc___impl_Row_impl_Row___impl_eager_run_1_ann N (theCode Try.f123) [1, 0, 1, 0] (retK tab (T_slices_IndexFunc___impl_Row_impl_Row___impl_eager_run_1_sg N) Try.f123.results.toList some)) (.exit 0) (T_slices_IndexFunc___impl_Row_impl_Row___impl_eager_run_1_lp0_e1 s1 t17 t18 b19)) =
    (some (α := ODen (T_slices_IndexFunc___impl_Row_impl_Row___impl_eager_run_1_sg N).ps × RDen (T_slices_IndexFunc___impl_Row_impl_Row___impl_eager_run_1_sg N).rs) ((b19, ()), ((-1 : Int), ()))) := by kernel_rfl

theorem T_slices_IndexFunc___impl_Row_impl_Row___impl_eager_run_1_den (N : Nat) (s1 : List (Int × Int)) (cap2 : Int × Int × Int × Int) :
 den (R := ODen (T_slices_IndexFunc___impl_Row_impl_Row___impl_eager_run_1_sg N).ps × RDen (T_slices_IndexFunc___impl_Row_impl_Row___impl_eager_run_1_sg N).rs) tab (T_slices_IndexFunc___impl_Row_impl_Row___impl_eager_run_1_ctx N) T_slices_IndexFunc___impl_Row_impl_Row___impl_eager_run_1_ann N (T_slices_IndexFunc___impl_Row_impl_Row___impl_eager_run_1_sg N) Try.f123 (s1, cap2, ()) some =
 (T_slices_IndexFunc___impl_Row_impl_Row___impl_eager_run_1 N s1 cap2 : Option (ODen (T_slices_IndexFunc___impl_Row_impl_Row___impl_eager_run_1_sg N).ps × RDen (T_slices_IndexFunc___impl_Row_impl_Row___impl_eager_run_1_sg N).rs)) := by
  have h : den (R := ODen (T_slices_IndexFunc___impl_Row_impl_Row___impl_eager_run_1_sg N).ps × RDen (T_slices_IndexFunc___impl_Row_impl_Row___impl_eager_run_1_sg N).rs) tab (T_slices_IndexFunc___impl_Row_impl_Row___impl_eager_run_1_ctx N) T_slices_IndexFunc___impl_Row_impl_Row___impl_eager_run_1_ann N (T_slices_IndexFunc___impl_Row_impl_Row___impl_eager_run_1_sg N) Try.f123 (s1, cap2, ()) some =
 (T_slices_IndexFunc___impl_Row_impl_Row___impl_eager_run_1_lp0_m N N (T_slices_IndexFunc___impl_Row_impl_Row___impl_eager_run_1_lp0_sh s1 (0 : Int) cap2) (ctxK (R := ODen (T_slices_IndexFunc___impl_Row_impl_Row___impl_eager_run_1_sg N).ps × RDen (T_slices_IndexFunc___impl_Row_impl_Row___impl_eager_run_1_sg N).rs) tab (T_slices_IndexFunc___impl_Row_impl_Row___impl_eager_run_1_ctx N) T_slices_IndexFunc___impl_Row_impl_Row___impl_eager_run_1_ann N (theCode Try.f123) [1, 0, 1, 0] (retK tab (T_slices_IndexFunc___impl_Row_impl_Row___impl_eager_run_1_sg N) Try.f123.results.toList some))) := by kernel_rfl
  rw [h]
  (try simp only [T_slices_IndexFunc___impl_Row_impl_Row___impl_eager_run_1_lp0_eq, T_slices_IndexFunc___impl_Row_impl_Row___impl_eager_run_1_c1, T_slices_IndexFunc___impl_Row_impl_Row___impl_eager_run_1_c2]) <;> rfl

theorem T_slices_IndexFunc___impl_Row_impl_Row___impl_eager_run_1_ok (N : Nat) : chkBody Try.f123 (T_slices_IndexFunc___impl_Row_impl_Row___impl_eager_run_1_sg N).ps = true := by kernel_rfl

theorem T_slices_IndexFunc___impl_Row_impl_Row___impl_eager_run_1_callable : Callable Try.prog 123 := callable_of Try.func123 (show chkFn Try.f123 = true by kernel_rfl)

theorem T_slices_IndexFunc___impl_Row_impl_Row___impl_eager_run_1_good (N : Nat) : Good Try.prog 123 (T_slices_IndexFunc___impl_Row_impl_Row___impl_eager_run_1_sg N) :=
  good_body mixedOk tabOk (ctx_cons (T_impl_eager_run_1_good N) T_impl_eager_run_1_callable ctx_nil) Try.func123 (T_slices_IndexFunc___impl_Row_impl_Row___impl_eager_run_1_ok N) (fun d _ h => ⟨N, (T_slices_IndexFunc___impl_Row_impl_Row___impl_eager_run_1_den N d.1 d.2.1).trans h⟩)

noncomputable def T_slices_ContainsFunc___impl_Row_impl_Row___impl_eager_run_1_sg (N : Nat) : Sig := Sig.of [.v (.slice (.prod (.int .i64) (.int .i64))) false, .clos 99 1, .box (.prod (.int .i64) (.prod (.int .i64) (.prod (.int .i64) (.int .i64))))] [.v (.bool) false] (fun d => T_slices_ContainsFunc___impl_Row_impl_Row___impl_eager_run_1 N d.1 d.2.1)

def T_slices_ContainsFunc___impl_Row_impl_Row___impl_eager_run_1_ann : Nat → List Ghost
  | _ => []

noncomputable def T_slices_ContainsFunc___impl_Row_impl_Row___impl_eager_run_1_ctx (N : Nat) : Ctx := [(123, T_slices_IndexFunc___impl_Row_impl_Row___impl_eager_run_1_sg N)]

theorem T_slices_ContainsFunc___impl_Row_impl_Row___impl_eager_run_1_den (N : Nat) (s1 : List (Int × Int)) (cap2 : Int × Int × Int × Int) :
    den (R := ODen (T_slices_ContainsFunc___impl_Row_impl_Row___impl_eager_run_1_sg N).ps × RDen (T_slices_ContainsFunc___impl_Row_impl_Row___impl_eager_run_1_sg N).rs) tab (T_slices_ContainsFunc___impl_Row_impl_Row___impl_eager_run_1_ctx N) T_slices_ContainsFunc___impl_Row_impl_Row___impl_eager_run_1_ann N (T_slices_ContainsFunc___impl_Row_impl_Row___impl_eager_run_1_sg N) Try.f98 (s1, cap2, ()) some =
    (T_slices_ContainsFunc___impl_Row_impl_Row___impl_eager_run_1 N s1 cap2 : Option (ODen (T_slices_ContainsFunc___impl_Row_impl_Row___impl_eager_run_1_sg N).ps × RDen (T_slices_ContainsFunc___impl_Row_impl_Row___impl_eager_run_1_sg N).rs)) := by kernel_rfl

theorem T_slices_ContainsFunc___impl_Row_impl_Row___impl_eager_run_1_ok (N : Nat) : chkBody Try.f98 (T_slices_ContainsFunc___impl_Row_impl_Row___impl_eager_run_1_sg N).ps = true := by kernel_rfl

theorem T_slices_ContainsFunc___impl_Row_impl_Row___impl_eager_run_1_callable : Callable Try.prog 98 := callable_of Try.func98 (show chkFn Try.f98 = true by kernel_rfl)

theorem T_slices_ContainsFunc___impl_Row_impl_Row___impl_eager_run_1_good (N : Nat) : Good Try.prog 98 (T_slices_ContainsFunc___impl_Row_impl_Row___impl_eager_run_1_sg N) :=
  good_body mixedOk tabOk (ctx_cons (T_slices_IndexFunc___impl_Row_impl_Row___impl_eager_run_1_good N) T_slices_IndexFunc___impl_Row_impl_Row___impl_eager_run_1_callable ctx_nil) Try.func98 (T_slices_ContainsFunc___impl_Row_impl_Row___impl_eager_run_1_ok N) (fun d _ h => ⟨N, (T_slices_ContainsFunc___impl_Row_impl_Row___impl_eager_run_1_den N d.1 d.2.1).trans h⟩)

noncomputable def T_impl_RowsOk_sg (N : Nat) : Sig := Sig.of [.v (.slice (.prod (.int .i64) (.int .i64))) false] [.v (.bool) false] (fun d => T_impl_RowsOk N d.1)

def T_impl_RowsOk_ann : Nat → List Ghost
  | 2 => [.canon [0, 5, 6, 7, 8]]
  | 3 => [.canon [0, 4, 5, 6, 7]]
  | 4 => [.canon [0, 5, 6, 7, 20]]
  | 5 => [.canon [2]]
  | 6 => [.canon [0, 5, 6, 7]]
  | 100002 => [.canon [0, 5, 6, 7]]
  | _ => []

noncomputable def T_impl_RowsOk_ctx (N : Nat) : Ctx := [(118, T_impl_isCell_sg N), (91, T_impl_isValue_sg N)]

def T_impl_RowsOk_lp0_sh (l2 : List (Int × Int)) (t5 : Int) : St := { env := [(0, .s (.one (.val (.slice (.prod (.int .i64) (.int .i64))) (l2 : List (Int × Int))))), (5, .s (.one (.val (.slice (.prod (.int .i64) (.int .i64))) (l2 : List (Int × Int))))), (6, .s (.one (.val (.int .i64) (ilen l2 : Int)))), (7, .s (.one (.val (.int .i64) (t5 : Int))))], objs := [], nx := 0 }

def T_impl_RowsOk_lp0_e0 (l2 : List (Int × Int)) : St := { env := [(2, .s (.one (.val (.bool) (false : Bool))))], objs := [], nx := 0 }

def T_impl_RowsOk_lp0_e1 (l2 : List (Int × Int)) (t10 : Int) (t11 : Bool) : St := { env := [(0, .s (.one (.val (.slice (.prod (.int .i64) (.int .i64))) (l2 : List (Int × Int))))), (5, .s (.one (.val (.slice (.prod (.int .i64) (.int .i64))) (l2 : List (Int × Int))))), (6, .s (.one (.val (.int .i64) (ilen l2 : Int)))), (7, .s (.one (.val (.int .i64) (t10 : Int)))), (8, .s (.one (.val (.bool) (t11 : Bool))))], objs := [], nx := 0 }

noncomputable def T_impl_RowsOk_lp0_m (N : Nat) {R : Type} (n : Nat) (st : St) (K : Ex → St → Option R) : Option R := loopN (roundG (T_impl_RowsOk_ann 100002) fun st k => sx tab (T_impl_RowsOk_ctx N) T_impl_RowsOk_ann N (nthLoop Try.f92 0) st k) n st K

theorem T_impl_RowsOk_lp0_step (N : Nat) {R : Type} (n : Nat) (K : Ex → St → Option R) (l2 : List (Int × Int)) (t5 : Int) :
    T_impl_RowsOk_lp0_m N (n + 1) (T_impl_RowsOk_lp0_sh l2 t5) K =
    (bif decide (t5 < (ilen l2)) then
 (bif inb t5 (List.length l2) then
 ((T_impl_isCell N (List.getD l2 (Int.toNat t5) ((0 : Int), (0 : Int))).1).bind fun o12 =>
 (bif !o12.2.1 then
 (K .ret (T_impl_RowsOk_lp0_e0 l2))
 else
 ((T_impl_isValue N (List.getD l2 (Int.toNat t5) ((0 : Int), (0 : Int))).2).bind fun o13 =>
 (bif !o13.2.1 then
 (K .ret (T_impl_RowsOk_lp0_e0 l2))
 else
 (T_impl_RowsOk_lp0_m N n (T_impl_RowsOk_lp0_sh l2 (iadd .i64 t5 (1 : Int))) K))))) else none)
 else
 (K (.exit 0) (T_impl_RowsOk_lp0_e1 l2 t5 (decide (t5 < (ilen l2)))))) := by kernel_rfl

theorem T_impl_RowsOk_lp0_eq (N : Nat) {R : Type} (l2 : List (Int × Int)) (K : Ex → St → Option R) : ∀ (n : Nat) (t5 : Int), T_impl_RowsOk_lp0_m N n (T_impl_RowsOk_lp0_sh l2 t5) K = T_impl_RowsOk_lp0 N l2 (K .ret (T_impl_RowsOk_lp0_e0 l2)) (fun t10 t11 => (K (.exit 0) (T_impl_RowsOk_lp0_e1 l2 t10 t11))) n t5
  | 0, _ => rfl
  | n + 1, t5 => by rw [T_impl_RowsOk_lp0_step, T_impl_RowsOk_lp0]; (try simp only [T_impl_RowsOk_lp0_eq N l2 K n])

theorem T_impl_RowsOk_c1 (N : Nat) (l1 : List (Int × Int)) :
    ((ctxK (R := ODen (T_impl_RowsOk_sg N).ps × RDen (T_impl_RowsOk_sg N).rs) tab (T_impl_RowsOk_ctx N) T_impl_RowsOk_ann N (theCode Try.f92) [1, 0, 1, 0] (retK tab (T_impl_RowsOk_sg N) Try.f92.results.toList some)) .ret (T_impl_RowsOk_lp0_e0 l1)) =
    (some (α := ODen (T_impl_RowsOk_sg N).ps × RDen (T_impl_RowsOk_sg N).rs) ((), (false, ()))) := by kernel_rfl

theorem T_impl_RowsOk_c2 (N : Nat) (l1 : List (Int × Int)) (t14 : Int) (t15 : Bool) :
    ((ctxK (R := ODen (T_impl_RowsOk_sg N).ps × RDen (T_impl_RowsOk_sg N).rs) tab (T_impl_RowsOk_ctx N) T_impl_RowsOk_ann N (theCode Try.f92) [1, 0, 1, 0] (retK tab (T_impl_RowsOk_sg N) Try.f92.results.toList some)) (.exit 0) (T_impl_RowsOk_lp0_e1 l1 t14 t15)) =
    (some (α := ODen (T_impl_RowsOk_sg N).ps × RDen (T_impl_RowsOk_sg N).rs) ((), (decide ((ilen l1) ≤ (300 : Int)), ()))) := by kernel_rfl

theorem T_impl_RowsOk_den (N : Nat) (l1 : List (Int × Int)) :
 den (R := ODen (T_impl_RowsOk_sg N).ps × RDen (T_impl_RowsOk_sg N).rs) tab (T_impl_RowsOk_ctx N) T_impl_RowsOk_ann N (T_impl_RowsOk_sg N) Try.f92 (l1, ()) some =
 (T_impl_RowsOk N l1 : Option (ODen (T_impl_RowsOk_sg N).ps × RDen (T_impl_RowsOk_sg N).rs)) := by
  have h : den (R := ODen (T_impl_RowsOk_sg N).ps × RDen (T_impl_RowsOk_sg N).rs) tab (T_impl_RowsOk_ctx N) T_impl_RowsOk_ann N (T_impl_RowsOk_sg N) Try.f92 (l1, ()) some =
 (T_impl_RowsOk_lp0_m N N (T_impl_RowsOk_lp0_sh l1 (0 : Int)) (ctxK (R := ODen (T_impl_RowsOk_sg N).ps × RDen (T_impl_RowsOk_sg N).rs) tab (T_impl_RowsOk_ctx N) T_impl_RowsOk_ann N (theCode Try.f92) [1, 0, 1, 0] (retK tab (T_impl_RowsOk_sg N) Try.f92.results.toList some))) := by kernel_rfl
  rw [h]
  (try simp only [T_impl_RowsOk_lp0_eq, T_impl_RowsOk_c1, T_impl_RowsOk_c2]) <;> rfl

theorem T_impl_RowsOk_ok (N : Nat) : chkBody Try.f92 (T_impl_RowsOk_sg N).ps = true := by kernel_rfl

theorem T_impl_RowsOk_callable : Callable Try.prog 92 := callable_of Try.func92 (show chkFn Try.f92 = true by kernel_rfl)

theorem T_impl_RowsOk_good (N : Nat) : Good Try.prog 92 (T_impl_RowsOk_sg N) :=
  good_body mixedOk tabOk (ctx_cons (T_impl_isCell_good N) T_impl_isCell_callable (ctx_cons (T_impl_isValue_good N) T_impl_isValue_callable ctx_nil)) Try.func92 (T_impl_RowsOk_ok N) (fun d _ h => ⟨N, (T_impl_RowsOk_den N d.1).trans h⟩)

noncomputable def T_impl_copyRows_sg (N : Nat) : Sig := Sig.of [.v (.slice (.prod (.int .i64) (.int .i64))) false] [.v (.own (.prod (.int .i64) (.int .i64))) false] (fun d => T_impl_copyRows N d.1)

def T_impl_copyRows_ann : Nat → List Ghost
  | _ => []

noncomputable def T_impl_copyRows_ctx (N : Nat) : Ctx := []

theorem T_impl_copyRows_den (N : Nat) (l1 : List (Int × Int)) :
    den (R := ODen (T_impl_copyRows_sg N).ps × RDen (T_impl_copyRows_sg N).rs) tab (T_impl_copyRows_ctx N) T_impl_copyRows_ann N (T_impl_copyRows_sg N) Try.f159 (l1, ()) some =
    (T_impl_copyRows N l1 : Option (ODen (T_impl_copyRows_sg N).ps × RDen (T_impl_copyRows_sg N).rs)) := by kernel_rfl

theorem T_impl_copyRows_ok (N : Nat) : chkBody Try.f159 (T_impl_copyRows_sg N).ps = true := by kernel_rfl

theorem T_impl_copyRows_callable : Callable Try.prog 159 := callable_of Try.func159 (show chkFn Try.f159 = true by kernel_rfl)

theorem T_impl_copyRows_good (N : Nat) : Good Try.prog 159 (T_impl_copyRows_sg N) :=
  good_body mixedOk tabOk ctx_nil Try.func159 (T_impl_copyRows_ok N) (fun d _ h => ⟨N, (T_impl_copyRows_den N d.1).trans h⟩)

noncomputable def T_impl_EagerCut_sg (N : Nat) : Sig := Sig.of [.v (.slice (.int .i64)) false, .v (.slice (.prod (.int .i64) (.int .i64))) false, .v (.int .i64) false] [.v (.own (.int .i64)) false, .v (.own (.prod (.int .i64) (.int .i64))) false] (fun d => T_impl_EagerCut N d.1 d.2.1 d.2.2.1)

def T_impl_EagerCut_ann : Nat → List Ghost
  | 5 => [.canon [1, 2, 8, 9, 29]]
  | 6 => [.canon [1, 2, 8, 9]]
  | 7 => [.canon [1, 2, 8, 9]]
  | 100005 => [.canon [1, 2, 8, 9]]
  | _ => []

noncomputable def T_impl_EagerCut_ctx (N : Nat) : Ctx := [(48, T_impl_areValues_sg N), (92, T_impl_RowsOk_sg N), (49, T_impl_copyInts_sg N), (159, T_impl_copyRows_sg N)]

def T_impl_EagerCut_lp0_sh (log7 : List (Int × Int)) (n8 : Int) (i9 : Int) (l10 : List Int) : St := { env := [(1, .s (.one (.val (.slice (.prod (.int .i64) (.int .i64))) (log7 : List (Int × Int))))), (2, .s (.one (.val (.int .i64) (n8 : Int)))), (8, .s (.one (.own 0))), (9, .s (.one (.val (.int .i64) (i9 : Int))))], objs := [(0, .arr (.int .i64) (l10 : List Int))], nx := 1 }

def T_impl_EagerCut_lp0_e0 (log7 : List (Int × Int)) (n8 : Int) (i11 : Int) (t12 : Bool) (l13 : List Int) : St := { env := [(1, .s (.one (.val (.slice (.prod (.int .i64) (.int .i64))) (log7 : List (Int × Int))))), (2, .s (.one (.val (.int .i64) (n8 : Int)))), (8, .s (.one (.own 0))), (9, .s (.one (.val (.int .i64) (i11 : Int)))), (29, .s (.one (.val (.bool) (t12 : Bool))))], objs := [(0, .arr (.int .i64) (l13 : List Int))], nx := 1 }

noncomputable def T_impl_EagerCut_lp0_m (N : Nat) {R : Type} (n : Nat) (st : St) (K : Ex → St → Option R) : Option R := loopN (roundG (T_impl_EagerCut_ann 100005) fun st k => sx tab (T_impl_EagerCut_ctx N) T_impl_EagerCut_ann N (nthLoop Try.f147 0) st k) n st K

theorem T_impl_EagerCut_lp0_step (N : Nat) {R : Type} (n : Nat) (K : Ex → St → Option R) (log7 : List (Int × Int)) (n8 : Int) (i9 : Int) (l10 : List Int) :
    T_impl_EagerCut_lp0_m N (n + 1) (T_impl_EagerCut_lp0_sh log7 n8 i9 l10) K =
    (bif decide (i9 ≥ n8) then
 (bif inb i9 (List.length log7) then
 (bif inb i9 (List.length log7) then
 (bif inb (List.getD log7 (Int.toNat i9) ((0 : Int), (0 : Int))).1 (List.length l10) then
 (T_impl_EagerCut_lp0_m N n (T_impl_EagerCut_lp0_sh log7 n8 (isub .i64 i9 (1 : Int)) (List.set l10 (Int.toNat (List.getD log7 (Int.toNat i9) ((0 : Int), (0 : Int))).1) (List.getD log7 (Int.toNat i9) ((0 : Int), (0 : Int))).2)) K) else none) else none) else none)
 else
 (K (.exit 0) (T_impl_EagerCut_lp0_e0 log7 n8 i9 (decide (i9 ≥ n8)) l10))) := by kernel_rfl

theorem T_impl_EagerCut_lp0_eq (N : Nat) {R : Type} (log7 : List (Int × Int)) (n8 : Int) (K : Ex → St → Option R) : ∀ (n : Nat) (i9 : Int) (l10 : List Int), T_impl_EagerCut_lp0_m N n (T_impl_EagerCut_lp0_sh log7 n8 i9 l10) K = T_impl_EagerCut_lp0 N log7 n8 (fun i11 t12 l13 => (K (.exit 0) (T_impl_EagerCut_lp0_e0 log7 n8 i11 t12 l13))) n i9 l10
  | 0, _, _ => rfl
  | n + 1, i9, l10 => by rw [T_impl_EagerCut_lp0_step, T_impl_EagerCut_lp0]; (try simp only [T_impl_EagerCut_lp0_eq N log7 n8 K n])

theorem T_impl_EagerCut_c1 (N : Nat) (log2 : List (Int × Int)) (n3 : Int) (i14 : Int) (t15 : Bool) (l16 : List Int) :
    ((ctxK (R := ODen (T_impl_EagerCut_sg N).ps × RDen (T_impl_EagerCut_sg N).rs) tab (T_impl_EagerCut_ctx N) T_impl_EagerCut_ann N (theCode Try.f147) [1, 1, 1, 0, 1, 0] (retK tab (T_impl_EagerCut_sg N) Try.f147.results.toList some)) (.exit 0) (T_impl_EagerCut_lp0_e0 log2 n3 i14 t15 l16)) =
    (bif (decide ((0 : Int) ≤ (minI n3 (ilen log2)))) && (decide ((minI n3 (ilen log2)) ≤ ((List.length log2) : Int))) then
 ((T_impl_copyRows N (List.take (Int.toNat (minI n3 (ilen log2))) log2)).bind fun o17 =>
 (some (α := ODen (T_impl_EagerCut_sg N).ps × RDen (T_impl_EagerCut_sg N).rs) ((), (l16, (o17.2.1, ()))))) else none) := by kernel_rfl

theorem T_impl_EagerCut_den (N : Nat) (cells1 : List Int) (log2 : List (Int × Int)) (n3 : Int) :
 den (R := ODen (T_impl_EagerCut_sg N).ps × RDen (T_impl_EagerCut_sg N).rs) tab (T_impl_EagerCut_ctx N) T_impl_EagerCut_ann N (T_impl_EagerCut_sg N) Try.f147 (cells1, log2, n3, ()) some =
 (T_impl_EagerCut N cells1 log2 n3 : Option (ODen (T_impl_EagerCut_sg N).ps × RDen (T_impl_EagerCut_sg N).rs)) := by
  have h : den (R := ODen (T_impl_EagerCut_sg N).ps × RDen (T_impl_EagerCut_sg N).rs) tab (T_impl_EagerCut_ctx N) T_impl_EagerCut_ann N (T_impl_EagerCut_sg N) Try.f147 (cells1, log2, n3, ()) some =
 ((T_impl_areValues N cells1 (8 : Int)).bind fun o4 =>
 (bif !o4.2.1 then
 (some (α := ODen (T_impl_EagerCut_sg N).ps × RDen (T_impl_EagerCut_sg N).rs) ((), (([] : List Int), (([] : List (Int × Int)), ()))))
 else
 ((T_impl_RowsOk N log2).bind fun o5 =>
 (bif !o5.2.1 then
 (some (α := ODen (T_impl_EagerCut_sg N).ps × RDen (T_impl_EagerCut_sg N).rs) ((), (([] : List Int), (([] : List (Int × Int)), ()))))
 else
 (bif decide (n3 < (0 : Int)) then
 (some (α := ODen (T_impl_EagerCut_sg N).ps × RDen (T_impl_EagerCut_sg N).rs) ((), (([] : List Int), (([] : List (Int × Int)), ()))))
 else
 ((T_impl_copyInts N cells1).bind fun o6 =>
 (T_impl_EagerCut_lp0_m N N (T_impl_EagerCut_lp0_sh log2 n3 (isub .i64 (ilen log2) (1 : Int)) o6.2.1) (ctxK (R := ODen (T_impl_EagerCut_sg N).ps × RDen (T_impl_EagerCut_sg N).rs) tab (T_impl_EagerCut_ctx N) T_impl_EagerCut_ann N (theCode Try.f147) [1, 1, 1, 0, 1, 0] (retK tab (T_impl_EagerCut_sg N) Try.f147.results.toList some))))))))) := by kernel_rfl
  rw [h]
  (try simp only [T_impl_EagerCut_lp0_eq, T_impl_EagerCut_c1]) <;> rfl

theorem T_impl_EagerCut_ok (N : Nat) : chkBody Try.f147 (T_impl_EagerCut_sg N).ps = true := by kernel_rfl

theorem T_impl_EagerCut_callable : Callable Try.prog 147 := callable_of Try.func147 (show chkFn Try.f147 = true by kernel_rfl)

theorem T_impl_EagerCut_good (N : Nat) : Good Try.prog 147 (T_impl_EagerCut_sg N) :=
  good_body mixedOk tabOk (ctx_cons (T_impl_areValues_good N) T_impl_areValues_callable (ctx_cons (T_impl_RowsOk_good N) T_impl_RowsOk_callable (ctx_cons (T_impl_copyInts_good N) T_impl_copyInts_callable (ctx_cons (T_impl_copyRows_good N) T_impl_copyRows_callable ctx_nil)))) Try.func147 (T_impl_EagerCut_ok N) (fun d _ h => ⟨N, (T_impl_EagerCut_den N d.1 d.2.1 d.2.2.1).trans h⟩)

noncomputable def T_impl_eager_cut_sg (N : Nat) : Sig := Sig.of [.box (.prod (.own (.int .i64)) (.prod (.own (.int .i64)) (.prod (.own (.prod (.int .i64) (.int .i64))) (.prod (.int .i64) (.prod (.own (.prod (.int .i64) (.prod (.int .i64) (.own (.int .i64))))) (.own (.int .i64))))))), .v (.int .i64) false] [] (fun d => T_impl_eager_cut N d.1 d.2.1)

def T_impl_eager_cut_ann : Nat → List Ghost
  | _ => []

noncomputable def T_impl_eager_cut_ctx (N : Nat) : Ctx := [(147, T_impl_EagerCut_sg N)]

theorem T_impl_eager_cut_den (N : Nat) (e1 : List Int × List Int × List (Int × Int) × Int × List (Int × Int × List Int) × List Int) (n2 : Int) :
    den (R := ODen (T_impl_eager_cut_sg N).ps × RDen (T_impl_eager_cut_sg N).rs) tab (T_impl_eager_cut_ctx N) T_impl_eager_cut_ann N (T_impl_eager_cut_sg N) Try.f124 (e1, n2, ()) some =
    (T_impl_eager_cut N e1 n2 : Option (ODen (T_impl_eager_cut_sg N).ps × RDen (T_impl_eager_cut_sg N).rs)) := by kernel_rfl

theorem T_impl_eager_cut_ok (N : Nat) : chkBody Try.f124 (T_impl_eager_cut_sg N).ps = true := by kernel_rfl

theorem T_impl_eager_cut_callable : Callable Try.prog 124 := callable_of Try.func124 (show chkFn Try.f124 = true by kernel_rfl)

theorem T_impl_eager_cut_good (N : Nat) : Good Try.prog 124 (T_impl_eager_cut_sg N) :=
  good_body mixedOk tabOk (ctx_cons (T_impl_EagerCut_good N) T_impl_EagerCut_callable ctx_nil) Try.func124 (T_impl_eager_cut_ok N) (fun d _ h => ⟨N, (T_impl_eager_cut_den N d.1 d.2.1).trans h⟩)

noncomputable def T_impl_eager_abort_sg (N : Nat) : Sig := Sig.of [.box (.prod (.own (.int .i64)) (.prod (.own (.int .i64)) (.prod (.own (.prod (.int .i64) (.int .i64))) (.prod (.int .i64) (.prod (.own (.prod (.int .i64) (.prod (.int .i64) (.own (.int .i64))))) (.own (.int .i64))))))), .v (.slice (.prod (.int .i64) (.prod (.int .i64) (.prod (.int .i64) (.int .i64))))) false] [.v (.int .i64) false] (fun d => T_impl_eager_abort N d.1 d.2.1)

def T_impl_eager_abort_ann : Nat → List Ghost
  | 5 => [.opn 22]
  | _ => []

noncomputable def T_impl_eager_abort_ctx (N : Nat) : Ctx := [(124, T_impl_eager_cut_sg N)]

theorem T_impl_eager_abort_den (N : Nat) (e1 : List Int × List Int × List (Int × Int) × Int × List (Int × Int × List Int) × List Int) (code2 : List (Int × Int × Int × Int)) :
    den (R := ODen (T_impl_eager_abort_sg N).ps × RDen (T_impl_eager_abort_sg N).rs) tab (T_impl_eager_abort_ctx N) T_impl_eager_abort_ann N (T_impl_eager_abort_sg N) Try.f100 (e1, code2, ()) some =
    (T_impl_eager_abort N e1 code2 : Option (ODen (T_impl_eager_abort_sg N).ps × RDen (T_impl_eager_abort_sg N).rs)) := by kernel_rfl

theorem T_impl_eager_abort_ok (N : Nat) : chkBody Try.f100 (T_impl_eager_abort_sg N).ps = true := by kernel_rfl

theorem T_impl_eager_abort_callable : Callable Try.prog 100 := callable_of Try.func100 (show chkFn Try.f100 = true by kernel_rfl)

theorem T_impl_eager_abort_good (N : Nat) : Good Try.prog 100 (T_impl_eager_abort_sg N) :=
  good_body mixedOk tabOk (ctx_cons (T_impl_eager_cut_good N) T_impl_eager_cut_callable ctx_nil) Try.func100 (T_impl_eager_abort_ok N) (fun d _ h => ⟨N, (T_impl_eager_abort_den N d.1 d.2.1).trans h⟩)

noncomputable def T_impl_EndOf_sg (N : Nat) : Sig := Sig.of [.v (.slice (.prod (.int .i64) (.prod (.int .i64) (.prod (.int .i64) (.int .i64))))) false, .v (.int .i64) false] [.v (.int .i64) false] (fun d => T_impl_EndOf N d.1 d.2.1)

def T_impl_EndOf_ann : Nat → List Ghost
  | 5 => [.canon [0, 5, 6, 25]]
  | 6 => [.canon [0, 5, 6]]
  | 7 => [.canon [0, 5, 6]]
  | 8 => [.canon [0, 5, 6, 36]]
  | 9 => [.canon [4]]
  | 100005 => [.canon [0, 5, 6]]
  | _ => []

noncomputable def T_impl_EndOf_ctx (N : Nat) : Ctx := [(82, T_impl_within_sg N), (125, T_impl_opens_sg N)]

def T_impl_EndOf_lp0_sh (code4 : List (Int × Int × Int × Int)) (n5 : Int) (k6 : Int) : St := { env := [(0, .s (.one (.val (.slice (.prod (.int .i64) (.prod (.int .i64) (.prod (.int .i64) (.int .i64))))) (code4 : List (Int × Int × Int × Int))))), (5, .s (.one (.val (.int .i64) (n5 : Int)))), (6, .s (.one (.val (.int .i64) (k6 : Int))))], objs := [], nx := 0 }

def T_impl_EndOf_lp0_e0 (code4 : List (Int × Int × Int × Int)) (t8 : Int) : St := { env := [(4, .s (.one (.val (.int .i64) (t8 : Int))))], objs := [], nx := 0 }

def T_impl_EndOf_lp0_e1 (code4 : List (Int × Int × Int × Int)) (n9 : Int) (k10 : Int) (t11 : Bool) : St := { env := [(0, .s (.one (.val (.slice (.prod (.int .i64) (.prod (.int .i64) (.prod (.int .i64) (.int .i64))))) (code4 : List (Int × Int × Int × Int))))), (5, .s (.one (.val (.int .i64) (n9 : Int)))), (6, .s (.one (.val (.int .i64) (k10 : Int)))), (25, .s (.one (.val (.bool) (t11 : Bool))))], objs := [], nx := 0 }

noncomputable def T_impl_EndOf_lp0_m (N : Nat) {R : Type} (n : Nat) (st : St) (K : Ex → St → Option R) : Option R := loopN (roundG (T_impl_EndOf_ann 100005) fun st k => sx tab (T_impl_EndOf_ctx N) T_impl_EndOf_ann N (nthLoop Try.f101 0) st k) n st K

theorem T_impl_EndOf_lp0_step (N : Nat) {R : Type} (n : Nat) (K : Ex → St → Option R) (code4 : List (Int × Int × Int × Int)) (n5 : Int) (k6 : Int) :
    T_impl_EndOf_lp0_m N (n + 1) (T_impl_EndOf_lp0_sh code4 n5 k6) K =
    (bif decide (k6 < (ilen code4)) then
 (bif inb k6 (List.length code4) then
 ((T_impl_opens N (List.getD code4 (Int.toNat k6) ((0 : Int), ((0 : Int), ((0 : Int), (0 : Int)))))).bind fun o12 =>
 (bif (iadd .i64 n5 o12.2.1) == (0 : Int) then
 (K .ret (T_impl_EndOf_lp0_e0 code4 k6))
 else
 (T_impl_EndOf_lp0_m N n (T_impl_EndOf_lp0_sh code4 (iadd .i64 n5 o12.2.1) (iadd .i64 k6 (1 : Int))) K))) else none)
 else
 (K (.exit 0) (T_impl_EndOf_lp0_e1 code4 n5 k6 (decide (k6 < (ilen code4)))))) := by kernel_rfl

theorem T_impl_EndOf_lp0_eq (N : Nat) {R : Type} (code4 : List (Int × Int × Int × Int)) (K : Ex → St → Option R) : ∀ (n : Nat) (n5 : Int) (k6 : Int), T_impl_EndOf_lp0_m N n (T_impl_EndOf_lp0_sh code4 n5 k6) K = T_impl_EndOf_lp0 N code4 (fun t8 => (K .ret (T_impl_EndOf_lp0_e0 code4 t8))) (fun n9 k10 t11 => (K (.exit 0) (T_impl_EndOf_lp0_e1 code4 n9 k10 t11))) n n5 k6
  | 0, _, _ => rfl
  | n + 1, n5, k6 => by rw [T_impl_EndOf_lp0_step, T_impl_EndOf_lp0]; (try simp only [T_impl_EndOf_lp0_eq N code4 K n])

theorem T_impl_EndOf_c1 (N : Nat) (code1 : List (Int × Int × Int × Int)) (t13 : Int) :
    ((ctxK (R := ODen (T_impl_EndOf_sg N).ps × RDen (T_impl_EndOf_sg N).rs) tab (T_impl_EndOf_ctx N) T_impl_EndOf_ann N (theCode Try.f101) [1, 1, 1, 0, 1, 0] (retK tab (T_impl_EndOf_sg N) Try.f101.results.toList some)) .ret (T_impl_EndOf_lp0_e0 code1 t13)) =
    (some (α := ODen (T_impl_EndOf_sg N).ps × RDen (T_impl_EndOf_sg N).rs) ((), (t13, ()))) := by kernel_rfl

theorem T_impl_EndOf_c2 (N : Nat) (code1 : List (Int × Int × Int × Int)) (n14 : Int) (k15 : Int) (t16 : Bool) :
    ((ctxK (R := ODen (T_impl_EndOf_sg N).ps × RDen (T_impl_EndOf_sg N).rs) tab (T_impl_EndOf_ctx N) T_impl_EndOf_ann N (theCode Try.f101) [1, 1, 1, 0, 1, 0] (retK tab (T_impl_EndOf_sg N) Try.f101.results.toList some)) (.exit 0) (T_impl_EndOf_lp0_e1 code1 n14 k15 t16)) =
    (some (α := ODen (T_impl_EndOf_sg N).ps × RDen (T_impl_EndOf_sg N).rs) ((), ((-1 : Int), ()))) := by kernel_rfl

theorem T_impl_EndOf_den (N : Nat) (code1 : List (Int × Int × Int × Int)) (i2 : Int) :
 den (R := ODen (T_impl_EndOf_sg N).ps × RDen (T_impl_EndOf_sg N).rs) tab (T_impl_EndOf_ctx N) T_impl_EndOf_ann N (T_impl_EndOf_sg N) Try.f101 (code1, i2, ()) some =
 (T_impl_EndOf N code1 i2 : Option (ODen (T_impl_EndOf_sg N).ps × RDen (T_impl_EndOf_sg N).rs)) := by
  have h : den (R := ODen (T_impl_EndOf_sg N).ps × RDen (T_impl_EndOf_sg N).rs) tab (T_impl_EndOf_ctx N) T_impl_EndOf_ann N (T_impl_EndOf_sg N) Try.f101 (code1, i2, ()) some =
 ((T_impl_within N i2 (0 : Int) (isub .i64 (ilen code1) (1 : Int))).bind fun o3 =>
 (bif !o3.2.1 then
 (some (α := ODen (T_impl_EndOf_sg N).ps × RDen (T_impl_EndOf_sg N).rs) ((), ((-1 : Int), ())))
 else
 (bif inb i2 (List.length code1) then
 (bif (List.getD code1 (Int.toNat i2) ((0 : Int), ((0 : Int), ((0 : Int), (0 : Int))))).1 != (8 : Int) then
 (some (α := ODen (T_impl_EndOf_sg N).ps × RDen (T_impl_EndOf_sg N).rs) ((), ((-1 : Int), ())))
 else
 (T_impl_EndOf_lp0_m N N (T_impl_EndOf_lp0_sh code1 (0 : Int) i2) (ctxK (R := ODen (T_impl_EndOf_sg N).ps × RDen (T_impl_EndOf_sg N).rs) tab (T_impl_EndOf_ctx N) T_impl_EndOf_ann N (theCode Try.f101) [1, 1, 1, 0, 1, 0] (retK tab (T_impl_EndOf_sg N) Try.f101.results.toList some)))) else none))) := by kernel_rfl
  rw [h]
  (try simp only [T_impl_EndOf_lp0_eq, T_impl_EndOf_c1, T_impl_EndOf_c2]) <;> rfl

theorem T_impl_EndOf_ok (N : Nat) : chkBody Try.f101 (T_impl_EndOf_sg N).ps = true := by kernel_rfl

theorem T_impl_EndOf_callable : Callable Try.prog 101 := callable_of Try.func101 (show chkFn Try.f101 = true by kernel_rfl)

theorem T_impl_EndOf_good (N : Nat) : Good Try.prog 101 (T_impl_EndOf_sg N) :=
  good_body mixedOk tabOk (ctx_cons (T_impl_within_good N) T_impl_within_callable (ctx_cons (T_impl_opens_good N) T_impl_opens_callable ctx_nil)) Try.func101 (T_impl_EndOf_ok N) (fun d _ h => ⟨N, (T_impl_EndOf_den N d.1 d.2.1).trans h⟩)

noncomputable def T_impl_Calc_sg (N : Nat) : Sig := Sig.of [.v (.prod (.int .i64) (.prod (.int .i64) (.prod (.int .i64) (.int .i64)))) true, .v (.slice (.int .i64)) false] [.v (.own (.int .i64)) false, .v (.bool) false] (fun d => T_impl_Calc N d.1 d.2.1)

def T_impl_Calc_ann : Nat → List Ghost
  | _ => []

noncomputable def T_impl_Calc_ctx (N : Nat) : Ctx := [(49, T_impl_copyInts_sg N), (126, T_impl_OpOk_sg N), (48, T_impl_areValues_sg N)]

theorem T_impl_Calc_den (N : Nat) (o1 : Int × Int × Int × Int) (regs2 : List Int) :
    den (R := ODen (T_impl_Calc_sg N).ps × RDen (T_impl_Calc_sg N).rs) tab (T_impl_Calc_ctx N) T_impl_Calc_ann N (T_impl_Calc_sg N) Try.f102 (o1, regs2, ()) some =
    (T_impl_Calc N o1 regs2 : Option (ODen (T_impl_Calc_sg N).ps × RDen (T_impl_Calc_sg N).rs)) := by kernel_rfl

theorem T_impl_Calc_ok (N : Nat) : chkBody Try.f102 (T_impl_Calc_sg N).ps = true := by kernel_rfl

theorem T_impl_Calc_callable : Callable Try.prog 102 := callable_of Try.func102 (show chkFn Try.f102 = true by kernel_rfl)

theorem T_impl_Calc_good (N : Nat) : Good Try.prog 102 (T_impl_Calc_sg N) :=
  good_body mixedOk tabOk (ctx_cons (T_impl_copyInts_good N) T_impl_copyInts_callable (ctx_cons (T_impl_OpOk_good N) T_impl_OpOk_callable (ctx_cons (T_impl_areValues_good N) T_impl_areValues_callable ctx_nil))) Try.func102 (T_impl_Calc_ok N) (fun d _ h => ⟨N, (T_impl_Calc_den N d.1 d.2.1).trans h⟩)

noncomputable def T_impl_eager_run_sg (N : Nat) : Sig := Sig.of [.box (.prod (.own (.int .i64)) (.prod (.own (.int .i64)) (.prod (.own (.prod (.int .i64) (.int .i64))) (.prod (.int .i64) (.prod (.own (.prod (.int .i64) (.prod (.int .i64) (.own (.int .i64))))) (.own (.int .i64))))))), .v (.slice (.prod (.int .i64) (.prod (.int .i64) (.prod (.int .i64) (.int .i64))))) false] [.v (.int .i64) false] (fun d => T_impl_eager_run N d.1 d.2.1)

def T_impl_eager_run_ann : Nat → List Ghost
  | 2 => [.canon [0, 1, 5, 12]]
  | 3 => [.canon [0, 1, 5]]
  | 4 => [.canon [0, 1, 5, 6]]
  | 5 => [.canon [0, 1, 5, 6, 20]]
  | 6 => [.canon [0, 1, 5]]
  | 7 => [.canon [0, 1, 5, 6, 20, 33]]
  | 8 => [.canon [0, 1, 5, 6, 41]]
  | 9 => [.canon [0, 1, 5, 6]]
  | 10 => [.canon [0, 1, 5]]
  | 11 => [.canon [0, 1, 5, 6, 20, 68]]
  | 12 => [.canon [0, 1, 5, 6]]
  | 13 => [.canon [0, 1, 5]]
  | 14 => [.canon [0, 1, 5, 6, 20, 105]]
  | 15 => [.canon [0, 1, 5, 6, 115]]
  | 16 => [.canon [0, 1, 5]]
  | 17 => [.canon [0, 1, 5, 6, 20, 120]]
  | 18 => [.nest 139 (.prod (.int .i64) (.prod (.int .i64) (.own (.int .i64)))), .canon [0, 1, 5]]
  | 19 => [.canon [0, 1, 5, 6, 20, 143]]
  | 20 => [.canon [0, 1, 5, 7]]
  | 21 => [.canon [0, 1, 5, 7]]
  | 22 => [.canon [0, 1, 5]]
  | 23 => [.canon [0, 1, 5, 6, 182]]
  | 24 => [.canon [0, 1, 8]]
  | 25 => [.canon [0, 1, 8, 188]]
  | 26 => [.canon [0, 4]]
  | 27 => [.canon [0, 1, 5]]
  | 100002 => [.canon [0, 1, 5]]
  | _ => []

noncomputable def T_impl_eager_run_ctx (N : Nat) : Ctx := [(98, T_slices_ContainsFunc___impl_Row_impl_Row___impl_eager_run_1_sg N), (49, T_impl_copyInts_sg N), (100, T_impl_eager_abort_sg N), (101, T_impl_EndOf_sg N), (102, T_impl_Calc_sg N)]

def T_impl_eager_run_lp0_sh (code3 : List (Int × Int × Int × Int)) (i4 : Int) (b5 : Int) (l6 : List Int) (l7 : List Int) (l8 : List (Int × Int)) (l9 : List (Int × Int × List Int)) (l10 : List Int) : St := { env := [(0, .s (.one (.ptr 0 0))), (1, .s (.one (.val (.slice (.prod (.int .i64) (.prod (.int .i64) (.prod (.int .i64) (.int .i64))))) (code3 : List (Int × Int × Int × Int))))), (5, .s (.one (.val (.int .i64) (i4 : Int))))], objs := [(0, .box [.own 1, .own 2, .own 3, .val (.int .i64) (b5 : Int), .own 4, .own 5]), (1, .arr (.int .i64) (l6 : List Int)), (2, .arr (.int .i64) (l7 : List Int)), (3, .arr (.prod (.int .i64) (.int .i64)) (l8 : List (Int × Int))), (4, .arr (.prod (.int .i64) (.prod (.int .i64) (.own (.int .i64)))) (l9 : List (Int × Int × List Int))), (5, .arr (.int .i64) (l10 : List Int))], nx := 6 }

def T_impl_eager_run_lp0_e0 (code3 : List (Int × Int × Int × Int)) (b16 : Int) (l17 : List Int) (l18 : List Int) (l19 : List (Int × Int)) (l20 : List (Int × Int × List Int)) (l21 : List Int) : St := { env := [(0, .s (.one (.ptr 0 0))), (4, .s (.one (.val (.int .i64) ((2 : Int) : Int))))], objs := [(0, .box [.own 1, .own 2, .own 3, .val (.int .i64) (b16 : Int), .own 4, .own 5]), (1, .arr (.int .i64) (l17 : List Int)), (2, .arr (.int .i64) (l18 : List Int)), (3, .arr (.prod (.int .i64) (.int .i64)) (l19 : List (Int × Int))), (4, .arr (.prod (.int .i64) (.prod (.int .i64) (.own (.int .i64)))) (l20 : List (Int × Int × List Int))), (5, .arr (.int .i64) (l21 : List Int))], nx := 6 }

def T_impl_eager_run_lp0_e1 (code3 : List (Int × Int × Int × Int)) (i22 : Int) (t23 : Bool) (b24 : Int) (l25 : List Int) (l26 : List Int) (l27 : List (Int × Int)) (l28 : List (Int × Int × List Int)) (l29 : List Int) : St := { env := [(0, .s (.one (.ptr 0 0))), (1, .s (.one (.val (.slice (.prod (.int .i64) (.prod (.int .i64) (.prod (.int .i64) (.int .i64))))) (code3 : List (Int × Int × Int × Int))))), (5, .s (.one (.val (.int .i64) (i22 : Int)))), (12, .s (.one (.val (.bool) (t23 : Bool))))], objs := [(0, .box [.own 1, .own 2, .own 3, .val (.int .i64) (b24 : Int), .own 4, .own 5]), (1, .arr (.int .i64) (l25 : List Int)), (2, .arr (.int .i64) (l26 : List Int)), (3, .arr (.prod (.int .i64) (.int .i64)) (l27 : List (Int × Int))), (4, .arr (.prod (.int .i64) (.prod (.int .i64) (.own (.int .i64)))) (l28 : List (Int × Int × List Int))), (5, .arr (.int .i64) (l29 : List Int))], nx := 6 }

noncomputable def T_impl_eager_run_lp0_m (N : Nat) {R : Type} (n : Nat) (st : St) (K : Ex → St → Option R) : Option R := loopN (roundG (T_impl_eager_run_ann 100002) fun st k => sx tab (T_impl_eager_run_ctx N) T_impl_eager_run_ann N (nthLoop Try.f62 0) st k) n st K

theorem T_impl_eager_run_lp0_step (N : Nat) {R : Type} (n : Nat) (K : Ex → St → Option R) (code3 : List (Int × Int × Int × Int)) (i4 : Int) (b5 : Int) (l6 : List Int) (l7 : List Int) (l8 : List (Int × Int)) (l9 : List (Int × Int × List Int)) (l10 : List Int) :
    T_impl_eager_run_lp0_m N (n + 1) (T_impl_eager_run_lp0_sh code3 i4 b5 l6 l7 l8 l9 l10) K =
    (bif decide (i4 < (ilen code3)) then
 (bif inb i4 (List.length code3) then
 (bif (List.getD code3 (Int.toNat i4) ((0 : Int), ((0 : Int), ((0 : Int), (0 : Int))))).1 == (5 : Int) then
 ((T_slices_ContainsFunc___impl_Row_impl_Row___impl_eager_run_1 N l8 (List.getD code3 (Int.toNat i4) ((0 : Int), ((0 : Int), ((0 : Int), (0 : Int)))))).bind fun o30 =>
 (bif !o30.2.1 then
 (bif room ((List.length l10) + (List.length ([o30.1.1.2.2.1]))) then
 (bif inb o30.1.1.2.2.1 (List.length l7) then
 (bif inb o30.1.1.2.1 (List.length l6) then
 (T_impl_eager_run_lp0_m N n (T_impl_eager_run_lp0_sh code3 (iadd .i64 i4 (1 : Int)) b5 (List.set l6 (Int.toNat o30.1.1.2.1) (List.getD l7 (Int.toNat o30.1.1.2.2.1) (0 : Int))) l7 l8 l9 (List.append l10 ([o30.1.1.2.2.1]))) K) else none) else none) else none)
 else
 (bif inb o30.1.1.2.2.1 (List.length l7) then
 (bif inb o30.1.1.2.1 (List.length l6) then
 (T_impl_eager_run_lp0_m N n (T_impl_eager_run_lp0_sh code3 (iadd .i64 i4 (1 : Int)) b5 (List.set l6 (Int.toNat o30.1.1.2.1) (List.getD l7 (Int.toNat o30.1.1.2.2.1) (0 : Int))) l7 l8 l9 l10) K) else none) else none)))
 else
 (bif (List.getD code3 (Int.toNat i4) ((0 : Int), ((0 : Int), ((0 : Int), (0 : Int))))).1 == (6 : Int) then
 (bif inb (List.getD code3 (Int.toNat i4) ((0 : Int), ((0 : Int), ((0 : Int), (0 : Int))))).2.1 (List.length l7) then
 (bif room ((List.length l8) + (List.length ([((List.getD code3 (Int.toNat i4) ((0 : Int), ((0 : Int), ((0 : Int), (0 : Int))))).2.1, List.getD l7 (Int.toNat (List.getD code3 (Int.toNat i4) ((0 : Int), ((0 : Int), ((0 : Int), (0 : Int))))).2.1) (0 : Int))]))) then
 (bif inb (List.getD code3 (Int.toNat i4) ((0 : Int), ((0 : Int), ((0 : Int), (0 : Int))))).2.2.1 (List.length l6) then
 (bif inb (List.getD code3 (Int.toNat i4) ((0 : Int), ((0 : Int), ((0 : Int), (0 : Int))))).2.1 (List.length l7) then
 (T_impl_eager_run_lp0_m N n (T_impl_eager_run_lp0_sh code3 (iadd .i64 i4 (1 : Int)) b5 l6 (List.set l7 (Int.toNat (List.getD code3 (Int.toNat i4) ((0 : Int), ((0 : Int), ((0 : Int), (0 : Int))))).2.1) (List.getD l6 (Int.toNat (List.getD code3 (Int.toNat i4) ((0 : Int), ((0 : Int), ((0 : Int), (0 : Int))))).2.2.1) (0 : Int))) (List.append l8 ([((List.getD code3 (Int.toNat i4) ((0 : Int), ((0 : Int), ((0 : Int), (0 : Int))))).2.1, List.getD l7 (Int.toNat (List.getD code3 (Int.toNat i4) ((0 : Int), ((0 : Int), ((0 : Int), (0 : Int))))).2.1) (0 : Int))])) l9 l10) K) else none) else none) else none) else none)
 else
 (bif (List.getD code3 (Int.toNat i4) ((0 : Int), ((0 : Int), ((0 : Int), (0 : Int))))).1 == (7 : Int) then
 (bif inb (List.getD code3 (Int.toNat i4) ((0 : Int), ((0 : Int), ((0 : Int), (0 : Int))))).2.1 (List.length l6) then
 (bif (List.getD l6 (Int.toNat (List.getD code3 (Int.toNat i4) ((0 : Int), ((0 : Int), ((0 : Int), (0 : Int))))).2.1) (0 : Int)) == (0 : Int) then
 (T_impl_eager_run_lp0_m N n (T_impl_eager_run_lp0_sh code3 (iadd .i64 (iadd .i64 i4 (List.getD code3 (Int.toNat i4) ((0 : Int), ((0 : Int), ((0 : Int), (0 : Int))))).2.2.1) (1 : Int)) b5 l6 l7 l8 l9 l10) K)
 else
 (T_impl_eager_run_lp0_m N n (T_impl_eager_run_lp0_sh code3 (iadd .i64 i4 (1 : Int)) b5 l6 l7 l8 l9 l10) K)) else none)
 else
 (bif (List.getD code3 (Int.toNat i4) ((0 : Int), ((0 : Int), ((0 : Int), (0 : Int))))).1 == (8 : Int) then
 ((T_impl_copyInts N l6).bind fun o31 =>
 (bif room ((List.length l9) + (List.length ([(i4, (ilen l8, o31.2.1))]))) then
 (T_impl_eager_run_lp0_m N n (T_impl_eager_run_lp0_sh code3 (iadd .i64 i4 (1 : Int)) b5 l6 l7 l8 (List.append l9 ([(i4, (ilen l8, o31.2.1))])) l10) K) else none))
 else
 (bif (List.getD code3 (Int.toNat i4) ((0 : Int), ((0 : Int), ((0 : Int), (0 : Int))))).1 == (9 : Int) then
 (bif inb (isub .i64 (ilen l9) (1 : Int)) (List.length l9) then
 (bif (decide ((0 : Int) ≤ (isub .i64 (ilen l9) (1 : Int)))) && (decide ((isub .i64 (ilen l9) (1 : Int)) ≤ ((List.length l9) : Int))) then
 (bif inb (List.getD l9 (Int.toNat (isub .i64 (ilen l9) (1 : Int))) ((0 : Int), ((0 : Int), ([] : List Int)))).1 (List.length code3) then
 (bif inb (List.getD code3 (Int.toNat (List.getD l9 (Int.toNat (isub .i64 (ilen l9) (1 : Int))) ((0 : Int), ((0 : Int), ([] : List Int)))).1) ((0 : Int), ((0 : Int), ((0 : Int), (0 : Int))))).2.1 (List.length l6) then
 (T_impl_eager_run_lp0_m N n (T_impl_eager_run_lp0_sh code3 (iadd .i64 i4 (1 : Int)) b5 (List.set l6 (Int.toNat (List.getD code3 (Int.toNat (List.getD l9 (Int.toNat (isub .i64 (ilen l9) (1 : Int))) ((0 : Int), ((0 : Int), ([] : List Int)))).1) ((0 : Int), ((0 : Int), ((0 : Int), (0 : Int))))).2.1) (1 : Int)) l7 l8 (List.take (Int.toNat (isub .i64 (ilen l9) (1 : Int))) l9) l10) K) else none) else none) else none) else none)
 else
 (bif (List.getD code3 (Int.toNat i4) ((0 : Int), ((0 : Int), ((0 : Int), (0 : Int))))).1 == (10 : Int) then
 ((T_impl_eager_abort N (l6, (l7, (l8, (b5, (l9, l10))))) code3).bind fun o32 =>
 (bif decide (o32.2.1 < (0 : Int)) then
 (K .ret (T_impl_eager_run_lp0_e0 code3 o32.1.1.2.2.2.1 o32.1.1.1 o32.1.1.2.1 o32.1.1.2.2.1 o32.1.1.2.2.2.2.1 o32.1.1.2.2.2.2.2))
 else
 ((T_impl_EndOf N code3 o32.2.1).bind fun o33 =>
 (T_impl_eager_run_lp0_m N n (T_impl_eager_run_lp0_sh code3 (iadd .i64 o33.2.1 (1 : Int)) o32.1.1.2.2.2.1 o32.1.1.1 o32.1.1.2.1 o32.1.1.2.2.1 o32.1.1.2.2.2.2.1 o32.1.1.2.2.2.2.2) K))))
 else
 ((T_impl_Calc N (List.getD code3 (Int.toNat i4) ((0 : Int), ((0 : Int), ((0 : Int), (0 : Int))))) l6).bind fun o34 =>
 (T_impl_eager_run_lp0_m N n (T_impl_eager_run_lp0_sh code3 (iadd .i64 i4 (1 : Int)) b5 o34.2.1 l7 l8 l9 l10) K)))))))) else none)
 else
 (K (.exit 0) (T_impl_eager_run_lp0_e1 code3 i4 (decide (i4 < (ilen code3))) b5 l6 l7 l8 l9 l10))) := by kernel_rfl

theorem T_impl_eager_run_lp0_eq (N : Nat) {R : Type} (code3 : List (Int × Int × Int × Int)) (K : Ex → St → Option R) : ∀ (n : Nat) (i4 : Int) (b5 : Int) (l6 : List Int) (l7 : List Int) (l8 : List (Int × Int)) (l9 : List (Int × Int × List Int)) (l10 : List Int), T_impl_eager_run_lp0_m N n (T_impl_eager_run_lp0_sh code3 i4 b5 l6 l7 l8 l9 l10) K = T_impl_eager_run_lp0 N code3 (fun b16 l17 l18 l19 l20 l21 => (K .ret (T_impl_eager_run_lp0_e0 code3 b16 l17 l18 l19 l20 l21))) (fun i22 t23 b24 l25 l26 l27 l28 l29 => (K (.exit 0) (T_impl_eager_run_lp0_e1 code3 i22 t23 b24 l25 l26 l27 l28 l29))) n i4 b5 l6 l7 l8 l9 l10
  | 0, _, _, _, _, _, _, _ => rfl
  | n + 1, i4, b5, l6, l7, l8, l9, l10 => by rw [T_impl_eager_run_lp0_step, T_impl_eager_run_lp0]; (try simp only [T_impl_eager_run_lp0_eq N code3 K n])

theorem T_impl_eager_run_c1 (N : Nat) (code2 : List (Int × Int × Int × Int)) (b35 : Int) (l36 : List Int) (l37 : List Int) (l38 : List (Int × Int)) (l39 : List (Int × Int × List Int)) (l40 : List Int) :
    ((ctxK (R := ODen (T_impl_eager_run_sg N).ps × RDen (T_impl_eager_run_sg N).rs) tab (T_impl_eager_run_ctx N) T_impl_eager_run_ann N (theCode Try.f62) [1, 0, 1, 0] (retK tab (T_impl_eager_run_sg N) Try.f62.results.toList some)) .ret (T_impl_eager_run_lp0_e0 code2 b35 l36 l37 l38 l39 l40)) =
    (some (α := ODen (T_impl_eager_run_sg N).ps × RDen (T_impl_eager_run_sg N).rs) (((l36, (l37, (l38, (b35, (l39, l40))))), ()), ((2 : Int), ()))) := by kernel_rfl

theorem T_impl_eager_run_c2 (N : Nat) (code2 : List (Int × Int × Int × Int)) (i41 : Int) (t42 : Bool) (b43 : Int) (l44 : List Int) (l45 : List Int) (l46 : List (Int × Int)) (l47 : List (Int × Int × List Int)) (l48 : List Int) :
    ((ctxK (R := ODen (T_impl_eager_run_sg N).ps × RDen (T_impl_eager_run_sg N).rs) tab (T_impl_eager_run_ctx N) T_impl_eager_run_ann N (theCode Try.f62) [1, 0, 1, 0] (retK tab (T_impl_eager_run_sg N) Try.f62.results.toList some)) (.exit 0) (T_impl_eager_run_lp0_e1 code2 i41 t42 b43 l44 l45 l46 l47 l48)) =
    (some (α := ODen (T_impl_eager_run_sg N).ps × RDen (T_impl_eager_run_sg N).rs) (((l44, (l45, (l46, (b43, (l47, l48))))), ()), ((1 : Int), ()))) := by kernel_rfl

theorem T_impl_eager_run_den (N : Nat) (e1 : List Int × List Int × List (Int × Int) × Int × List (Int × Int × List Int) × List Int) (code2 : List (Int × Int × Int × Int)) :
 den (R := ODen (T_impl_eager_run_sg N).ps × RDen (T_impl_eager_run_sg N).rs) tab (T_impl_eager_run_ctx N) T_impl_eager_run_ann N (T_impl_eager_run_sg N) Try.f62 (e1, code2, ()) some =
 (T_impl_eager_run N e1 code2 : Option (ODen (T_impl_eager_run_sg N).ps × RDen (T_impl_eager_run_sg N).rs)) := by
  have h : den (R := ODen (T_impl_eager_run_sg N).ps × RDen (T_impl_eager_run_sg N).rs) tab (T_impl_eager_run_ctx N) T_impl_eager_run_ann N (T_impl_eager_run_sg N) Try.f62 (e1, code2, ()) some =
 (T_impl_eager_run_lp0_m N N (T_impl_eager_run_lp0_sh code2 (0 : Int) e1.2.2.2.1 e1.1 e1.2.1 e1.2.2.1 e1.2.2.2.2.1 e1.2.2.2.2.2) (ctxK (R := ODen (T_impl_eager_run_sg N).ps × RDen (T_impl_eager_run_sg N).rs) tab (T_impl_eager_run_ctx N) T_impl_eager_run_ann N (theCode Try.f62) [1, 0, 1, 0] (retK tab (T_impl_eager_run_sg N) Try.f62.results.toList some))) := by kernel_rfl
  rw [h]
  (try simp only [T_impl_eager_run_lp0_eq, T_impl_eager_run_c1, T_impl_eager_run_c2]) <;> rfl

theorem T_impl_eager_run_ok (N : Nat) : chkBody Try.f62 (T_impl_eager_run_sg N).ps = true := by kernel_rfl

theorem T_impl_eager_run_callable : Callable Try.prog 62 := callable_of Try.func62 (show chkFn Try.f62 = true by kernel_rfl)

theorem T_impl_eager_run_good (N : Nat) : Good Try.prog 62 (T_impl_eager_run_sg N) :=
  good_body mixedOk tabOk (ctx_cons (T_slices_ContainsFunc___impl_Row_impl_Row___impl_eager_run_1_good N) T_slices_ContainsFunc___impl_Row_impl_Row___impl_eager_run_1_callable (ctx_cons (T_impl_copyInts_good N) T_impl_copyInts_callable (ctx_cons (T_impl_eager_abort_good N) T_impl_eager_abort_callable (ctx_cons (T_impl_EndOf_good N) T_impl_EndOf_callable (ctx_cons (T_impl_Calc_good N) T_impl_Calc_callable ctx_nil))))) Try.func62 (T_impl_eager_run_ok N) (fun d _ h => ⟨N, (T_impl_eager_run_den N d.1 d.2.1).trans h⟩)

noncomputable def T_slices_Sort___int_int__sg (N : Nat) : Sig := Sig.of [.mut (.int .i64)] [] (fun d => T_slices_Sort___int_int_ N d.1)

theorem T_slices_Sort___int_int__callable : Callable Try.prog 63 := callable_of Try.func63 (show chkFn Try.f63 = true by kernel_rfl)

theorem T_slices_Sort___int_int__good (N : Nat) : Good Try.prog 63 (T_slices_Sort___int_int__sg N) := good_sortL sortL N

noncomputable def T_slices_Compact___int_int__sg (N : Nat) : Sig := Sig.of [.v (.own (.int .i64)) false] [.v (.own (.int .i64)) false] (fun d => T_slices_Compact___int_int_ N d.1)

def T_slices_Compact___int_int__ann : Nat → List Ghost
  | 4 => [.canon [0, 3, 13]]
  | 5 => [.canon [0, 3]]
  | 6 => [.canon [0, 3, 25]]
  | 7 => [.view 28, .canon [0, 3, 4]]
  | 8 => [.canon [0, 3, 4, 5]]
  | 9 => [.canon [0, 3, 4, 5, 32]]
  | 10 => [.canon [0, 3, 4, 5]]
  | 11 => [.canon [0, 3, 4, 5, 44]]
  | 12 => [.canon [0, 3, 4, 5]]
  | 13 => [.canon [0, 3, 4, 5]]
  | 14 => [.view 56, .canon [0, 3]]
  | 15 => [.canon [2]]
  | 100004 => [.canon [0, 3]]
  | 100009 => [.canon [0, 3, 4, 5]]
  | _ => []

noncomputable def T_slices_Compact___int_int__ctx (N : Nat) : Ctx := []

def T_slices_Compact___int_int__lp1_sh (k4 : Int) (s5 : Nat) (s6 : Nat) (k7 : Int) (l8 : List Int) : St := { env := [(0, .s (.one (.own 0))), (3, .s (.one (.val (.int .i64) (k4 : Int)))), (4, .s (.one (.vw 0 s5 s6))), (5, .s (.one (.val (.int .i64) (k7 : Int))))], objs := [(0, .arr (.int .i64) (l8 : List Int))], nx := 1 }

def T_slices_Compact___int_int__lp1_e0 (s5 : Nat) (s6 : Nat) (k9 : Int) (k10 : Int) (t11 : Bool) (l12 : List Int) : St := { env := [(0, .s (.one (.own 0))), (3, .s (.one (.val (.int .i64) (k9 : Int)))), (4, .s (.one (.vw 0 s5 s6))), (5, .s (.one (.val (.int .i64) (k10 : Int)))), (32, .s (.one (.val (.bool) (t11 : Bool))))], objs := [(0, .arr (.int .i64) (l12 : List Int))], nx := 1 }

noncomputable def T_slices_Compact___int_int__lp1_m (N : Nat) {R : Type} (n : Nat) (st : St) (K : Ex → St → Option R) : Option R := loopN (roundG (T_slices_Compact___int_int__ann 100009) fun st k => sx tab (T_slices_Compact___int_int__ctx N) T_slices_Compact___int_int__ann N (nthLoop Try.f64 1) st k) n st K

theorem T_slices_Compact___int_int__lp1_step (N : Nat) {R : Type} (n : Nat) (K : Ex → St → Option R) (k4 : Int) (s5 : Nat) (s6 : Nat) (k7 : Int) (l8 : List Int) :
    T_slices_Compact___int_int__lp1_m N (n + 1) (T_slices_Compact___int_int__lp1_sh k4 s5 s6 k7 l8) K =
    (bif decide (k7 < (((s6 - s5 : Nat) : Int))) then
 (bif inb k7 (s6 - s5) then
 (bif inb (isub .i64 k7 (1 : Int)) (s6 - s5) then
 (bif (List.getD l8 (s5 + (Int.toNat k7)) (0 : Int)) != (List.getD l8 (s5 + (Int.toNat (isub .i64 k7 (1 : Int)))) (0 : Int)) then
 (bif inb k7 (s6 - s5) then
 (bif inb k4 (List.length l8) then
 (T_slices_Compact___int_int__lp1_m N n (T_slices_Compact___int_int__lp1_sh (iadd .i64 k4 (1 : Int)) s5 s6 (iadd .i64 k7 (1 : Int)) (List.set l8 (Int.toNat k4) (List.getD l8 (s5 + (Int.toNat k7)) (0 : Int)))) K) else none) else none)
 else
 (T_slices_Compact___int_int__lp1_m N n (T_slices_Compact___int_int__lp1_sh k4 s5 s6 (iadd .i64 k7 (1 : Int)) l8) K)) else none) else none)
 else
 (K (.exit 2) (T_slices_Compact___int_int__lp1_e0 s5 s6 k4 k7 (decide (k7 < (((s6 - s5 : Nat) : Int)))) l8))) := by kernel_rfl

theorem T_slices_Compact___int_int__lp1_eq (N : Nat) {R : Type} (s5 : Nat) (s6 : Nat) (K : Ex → St → Option R) : ∀ (n : Nat) (k4 : Int) (k7 : Int) (l8 : List Int), T_slices_Compact___int_int__lp1_m N n (T_slices_Compact___int_int__lp1_sh k4 s5 s6 k7 l8) K = T_slices_Compact___int_int__lp1 N s5 s6 (fun k9 k10 t11 l12 => (K (.exit 2) (T_slices_Compact___int_int__lp1_e0 s5 s6 k9 k10 t11 l12))) n k4 k7 l8
  | 0, _, _, _ => rfl
  | n + 1, k4, k7, l8 => by rw [T_slices_Compact___int_int__lp1_step, T_slices_Compact___int_int__lp1]; (try simp only [T_slices_Compact___int_int__lp1_eq N s5 s6 K n])

def T_slices_Compact___int_int__lp0_sh (k2 : Int) (l3 : List Int) : St := { env := [(0, .s (.one (.own 0))), (3, .s (.one (.val (.int .i64) (k2 : Int))))], objs := [(0, .arr (.int .i64) (l3 : List Int))], nx := 1 }

def T_slices_Compact___int_int__lp0_e0 (l3 : List Int) (l17 : List Int) : St := { env := [(2, .s (.one (.own 0)))], objs := [(0, .arr (.int .i64) (l17 : List Int))], nx := 1 }

def T_slices_Compact___int_int__lp0_e1 (l3 : List Int) (k18 : Int) (t19 : Bool) : St := { env := [(0, .s (.one (.own 0))), (3, .s (.one (.val (.int .i64) (k18 : Int)))), (13, .s (.one (.val (.bool) (t19 : Bool))))], objs := [(0, .arr (.int .i64) (l3 : List Int))], nx := 1 }

noncomputable def T_slices_Compact___int_int__lp0_m (N : Nat) {R : Type} (n : Nat) (st : St) (K : Ex → St → Option R) : Option R := loopN (roundG (T_slices_Compact___int_int__ann 100004) fun st k => sx tab (T_slices_Compact___int_int__ctx N) T_slices_Compact___int_int__ann N (nthLoop Try.f64 0) st k) n st K

theorem T_slices_Compact___int_int__c1 (N : Nat) {R : Type} (n : Nat) (K : Ex → St → Option R) (k2 : Int) (l3 : List Int) (k20 : Int) (k21 : Int) (t22 : Bool) (l23 : List Int) :
    ((ctxK tab (T_slices_Compact___int_int__ctx N) T_slices_Compact___int_int__ann N (nthLoop Try.f64 0) [1, 0, 0, 1, 0, 1, 0, 1, 0] (backK (T_slices_Compact___int_int__ann 100004) (T_slices_Compact___int_int__lp0_m N n) K)) (.exit 2) (T_slices_Compact___int_int__lp1_e0 (Int.toNat k2) (List.length l3) k20 k21 t22 l23)) =
    (bif (decide ((0 : Int) ≤ k20)) && (decide (k20 ≤ ((List.length l23) : Int))) then
 (bif (decide ((0 : Int) ≤ k20)) && (decide (k20 ≤ ((List.length ((List.take (Int.toNat k20) l23) ++ List.replicate ((List.length l23) - (Int.toNat k20)) (0 : Int) ++ (List.drop (List.length l23) l23))) : Int))) then
 (K .ret (T_slices_Compact___int_int__lp0_e0 l3 (List.take (Int.toNat k20) ((List.take (Int.toNat k20) l23) ++ List.replicate ((List.length l23) - (Int.toNat k20)) (0 : Int) ++ (List.drop (List.length l23) l23))))) else none) else none) := by kernel_rfl

theorem T_slices_Compact___int_int__lp0_step (N : Nat) {R : Type} (n : Nat) (K : Ex → St → Option R) (k2 : Int) (l3 : List Int) :
    T_slices_Compact___int_int__lp0_m N (n + 1) (T_slices_Compact___int_int__lp0_sh k2 l3) K =
    (bif decide (k2 < (ilen l3)) then
 (bif inb k2 (List.length l3) then
 (bif inb (isub .i64 k2 (1 : Int)) (List.length l3) then
 (bif (List.getD l3 (Int.toNat k2) (0 : Int)) == (List.getD l3 (Int.toNat (isub .i64 k2 (1 : Int))) (0 : Int)) then
 (bif (decide ((0 : Int) ≤ k2)) && (decide (k2 ≤ ((List.length l3) : Int))) then
 (T_slices_Compact___int_int__lp1 N (Int.toNat k2) (List.length l3)
 (fun k20 k21 t22 l23 =>
   (bif (decide ((0 : Int) ≤ k20)) && (decide (k20 ≤ ((List.length l23) : Int))) then
 (bif (decide ((0 : Int) ≤ k20)) && (decide (k20 ≤ ((List.length ((List.take (Int.toNat k20) l23) ++ List.replicate ((List.length l23) - (Int.toNat k20)) (0 : Int) ++ (List.drop (List.length l23) l23))) : Int))) then
 (K .ret (T_slices_Compact___int_int__lp0_e0 l3 (List.take (Int.toNat k20) ((List.take (Int.toNat k20) l23) ++ List.replicate ((List.length l23) - (Int.toNat k20)) (0 : Int) ++ (List.drop (List.length l23) l23))))) else none) else none))
  N k2 (1 : Int) l3) else none)
 else
 (T_slices_Compact___int_int__lp0_m N n (T_slices_Compact___int_int__lp0_sh (iadd .i64 k2 (1 : Int)) l3) K)) else none) else none)
 else
 (K (.exit 0) (T_slices_Compact___int_int__lp0_e1 l3 k2 (decide (k2 < (ilen l3)))))) := by
  have h : T_slices_Compact___int_int__lp0_m N (n + 1) (T_slices_Compact___int_int__lp0_sh k2 l3) K =
    (bif decide (k2 < (ilen l3)) then
 (bif inb k2 (List.length l3) then
 (bif inb (isub .i64 k2 (1 : Int)) (List.length l3) then
 (bif (List.getD l3 (Int.toNat k2) (0 : Int)) == (List.getD l3 (Int.toNat (isub .i64 k2 (1 : Int))) (0 : Int)) then
 (bif (decide ((0 : Int) ≤ k2)) && (decide (k2 ≤ ((List.length l3) : Int))) then
 (T_slices_Compact___int_int__lp1_m N N (T_slices_Compact___int_int__lp1_sh k2 (Int.toNat k2) (List.length l3) (1 : Int) l3) (ctxK tab (T_slices_Compact___int_int__ctx N) T_slices_Compact___int_int__ann N (nthLoop Try.f64 0) [1, 0, 0, 1, 0, 1, 0, 1, 0] (backK (T_slices_Compact___int_int__ann 100004) (T_slices_Compact___int_int__lp0_m N n) K))) else none)
 else
 (T_slices_Compact___int_int__lp0_m N n (T_slices_Compact___int_int__lp0_sh (iadd .i64 k2 (1 : Int)) l3) K)) else none) else none)
 else
 (K (.exit 0) (T_slices_Compact___int_int__lp0_e1 l3 k2 (decide (k2 < (ilen l3)))))) := by kernel_rfl
  rw [h]
  (try simp only [T_slices_Compact___int_int__lp1_eq, T_slices_Compact___int_int__c1]) <;> rfl

theorem T_slices_Compact___int_int__lp0_eq (N : Nat) {R : Type} (l3 : List Int) (K : Ex → St → Option R) : ∀ (n : Nat) (k2 : Int), T_slices_Compact___int_int__lp0_m N n (T_slices_Compact___int_int__lp0_sh k2 l3) K = T_slices_Compact___int_int__lp0 N l3 (fun l17 => (K .ret (T_slices_Compact___int_int__lp0_e0 l3 l17))) (fun k18 t19 => (K (.exit 0) (T_slices_Compact___int_int__lp0_e1 l3 k18 t19))) n k2
  | 0, _ => rfl
  | n + 1, k2 => by rw [T_slices_Compact___int_int__lp0_step, T_slices_Compact___int_int__lp0]; (try simp only [T_slices_Compact___int_int__lp0_eq N l3 K n])

theorem T_slices_Compact___int_int__c2 (N : Nat) (s1 : List Int) (l24 : List Int) :
    ((ctxK (R := ODen (T_slices_Compact___int_int__sg N).ps × RDen (T_slices_Compact___int_int__sg N).rs) tab (T_slices_Compact___int_int__ctx N) T_slices_Compact___int_int__ann N (theCode Try.f64) [1, 1, 0, 1, 0] (retK tab (T_slices_Compact___int_int__sg N) Try.f64.results.toList some)) .ret (T_slices_Compact___int_int__lp0_e0 s1 l24)) =
    (some (α := ODen (T_slices_Compact___int_int__sg N).ps × RDen (T_slices_Compact___int_int__sg N).rs) ((), (l24, ()))) := by kernel_rfl

theorem T_slices_Compact___int_int__c3 (N : Nat) (s1 : List Int) (k25 : Int) (t26 : Bool) :
    ((ctxK (R := ODen (T_slices_Compact___int_int__sg N).ps × RDen (T_slices_Compact___int_int__sg N).rs) tab (T_slices_Compact___int_int__ctx N) T_slices_Compact___int_int__ann N (theCode Try.f64) [1, 1, 0, 1, 0] (retK tab (T_slices_Compact___int_int__sg N) Try.f64.results.toList some)) (.exit 0) (T_slices_Compact___int_int__lp0_e1 s1 k25 t26)) =
    (some (α := ODen (T_slices_Compact___int_int__sg N).ps × RDen (T_slices_Compact___int_int__sg N).rs) ((), (s1, ()))) := by kernel_rfl

theorem T_slices_Compact___int_int__den (N : Nat) (s1 : List Int) :
 den (R := ODen (T_slices_Compact___int_int__sg N).ps × RDen (T_slices_Compact___int_int__sg N).rs) tab (T_slices_Compact___int_int__ctx N) T_slices_Compact___int_int__ann N (T_slices_Compact___int_int__sg N) Try.f64 (s1, ()) some =
 (T_slices_Compact___int_int_ N s1 : Option (ODen (T_slices_Compact___int_int__sg N).ps × RDen (T_slices_Compact___int_int__sg N).rs)) := by
  have h : den (R := ODen (T_slices_Compact___int_int__sg N).ps × RDen (T_slices_Compact___int_int__sg N).rs) tab (T_slices_Compact___int_int__ctx N) T_slices_Compact___int_int__ann N (T_slices_Compact___int_int__sg N) Try.f64 (s1, ()) some =
 (bif decide ((ilen s1) < (2 : Int)) then
 (some (α := ODen (T_slices_Compact___int_int__sg N).ps × RDen (T_slices_Compact___int_int__sg N).rs) ((), (s1, ())))
 else
 (T_slices_Compact___int_int__lp0_m N N (T_slices_Compact___int_int__lp0_sh (1 : Int) s1) (ctxK (R := ODen (T_slices_Compact___int_int__sg N).ps × RDen (T_slices_Compact___int_int__sg N).rs) tab (T_slices_Compact___int_int__ctx N) T_slices_Compact___int_int__ann N (theCode Try.f64) [1, 1, 0, 1, 0] (retK tab (T_slices_Compact___int_int__sg N) Try.f64.results.toList some)))) := by kernel_rfl
  rw [h]
  (try simp only [T_slices_Compact___int_int__lp0_eq, T_slices_Compact___int_int__c2, T_slices_Compact___int_int__c3]) <;> rfl

theorem T_slices_Compact___int_int__ok (N : Nat) : chkBody Try.f64 (T_slices_Compact___int_int__sg N).ps = true := by kernel_rfl

theorem T_slices_Compact___int_int__callable : Callable Try.prog 64 := callable_of Try.func64 (show chkFn Try.f64 = true by kernel_rfl)

theorem T_slices_Compact___int_int__good (N : Nat) : Good Try.prog 64 (T_slices_Compact___int_int__sg N) :=
  good_body mixedOk tabOk ctx_nil Try.func64 (T_slices_Compact___int_int__ok N) (fun d _ h => ⟨N, (T_slices_Compact___int_int__den N d.1).trans h⟩)

noncomputable def T_impl_ReadsOf_sg (N : Nat) : Sig := Sig.of [.v (.slice (.prod (.int .i64) (.prod (.int .i64) (.prod (.int .i64) (.int .i64))))) false, .v (.slice (.int .i64)) false, .v (.slice (.int .i64)) false] [.v (.own (.int .i64)) false] (fun d => T_impl_ReadsOf N d.1 d.2.1 d.2.2.1)

def T_impl_ReadsOf_ann : Nat → List Ghost
  | _ => []

noncomputable def T_impl_ReadsOf_ctx (N : Nat) : Ctx := [(61, T_impl_kidOf_sg N), (62, T_impl_eager_run_sg N), (63, T_slices_Sort___int_int__sg N), (64, T_slices_Compact___int_int__sg N)]

theorem T_impl_ReadsOf_den (N : Nat) (code1 : List (Int × Int × Int × Int)) (regs2 : List Int) (cells3 : List Int) :
    den (R := ODen (T_impl_ReadsOf_sg N).ps × RDen (T_impl_ReadsOf_sg N).rs) tab (T_impl_ReadsOf_ctx N) T_impl_ReadsOf_ann N (T_impl_ReadsOf_sg N) Try.f22 (code1, regs2, cells3, ()) some =
    (T_impl_ReadsOf N code1 regs2 cells3 : Option (ODen (T_impl_ReadsOf_sg N).ps × RDen (T_impl_ReadsOf_sg N).rs)) := by kernel_rfl

theorem T_impl_ReadsOf_ok (N : Nat) : chkBody Try.f22 (T_impl_ReadsOf_sg N).ps = true := by kernel_rfl

theorem T_impl_ReadsOf_callable : Callable Try.prog 22 := callable_of Try.func22 (show chkFn Try.f22 = true by kernel_rfl)

theorem T_impl_ReadsOf_good (N : Nat) : Good Try.prog 22 (T_impl_ReadsOf_sg N) :=
  good_body mixedOk tabOk (ctx_cons (T_impl_kidOf_good N) T_impl_kidOf_callable (ctx_cons (T_impl_eager_run_good N) T_impl_eager_run_callable (ctx_cons (T_slices_Sort___int_int__good N) T_slices_Sort___int_int__callable (ctx_cons (T_slices_Compact___int_int__good N) T_slices_Compact___int_int__callable ctx_nil)))) Try.func22 (T_impl_ReadsOf_ok N) (fun d _ h => ⟨N, (T_impl_ReadsOf_den N d.1 d.2.1 d.2.2.1).trans h⟩)

noncomputable def T_laws_eqIntS_sg (N : Nat) : Sig := Sig.of [.v (.slice (.int .i64)) false, .v (.slice (.int .i64)) false] [.v (.bool) false] (fun d => T_laws_eqIntS N d.1 d.2.1)

def T_laws_eqIntS_ann : Nat → List Ghost
  | 4 => [.canon [0, 1, 5, 14]]
  | 5 => [.canon [0, 1, 5]]
  | 6 => [.canon [0, 1, 5, 25]]
  | 7 => [.canon [4]]
  | 100004 => [.canon [0, 1, 5]]
  | _ => []

noncomputable def T_laws_eqIntS_ctx (N : Nat) : Ctx := []

def T_laws_eqIntS_lp0_sh (a3 : List Int) (b4 : List Int) (i5 : Int) : St := { env := [(0, .s (.one (.val (.slice (.int .i64)) (a3 : List Int)))), (1, .s (.one (.val (.slice (.int .i64)) (b4 : List Int)))), (5, .s (.one (.val (.int .i64) (i5 : Int))))], objs := [], nx := 0 }

def T_laws_eqIntS_lp0_e0 (a3 : List Int) (b4 : List Int) : St := { env := [(4, .s (.one (.val (.bool) (false : Bool))))], objs := [], nx := 0 }

def T_laws_eqIntS_lp0_e1 (a3 : List Int) (b4 : List Int) (i6 : Int) (t7 : Bool) : St := { env := [(0, .s (.one (.val (.slice (.int .i64)) (a3 : List Int)))), (1, .s (.one (.val (.slice (.int .i64)) (b4 : List Int)))), (5, .s (.one (.val (.int .i64) (i6 : Int)))), (14, .s (.one (.val (.bool) (t7 : Bool))))], objs := [], nx := 0 }

noncomputable def T_laws_eqIntS_lp0_m (N : Nat) {R : Type} (n : Nat) (st : St) (K : Ex → St → Option R) : Option R := loopN (roundG (T_laws_eqIntS_ann 100004) fun st k => sx tab (T_laws_eqIntS_ctx N) T_laws_eqIntS_ann N (nthLoop Try.f23 0) st k) n st K

theorem T_laws_eqIntS_lp0_step (N : Nat) {R : Type} (n : Nat) (K : Ex → St → Option R) (a3 : List Int) (b4 : List Int) (i5 : Int) :
    T_laws_eqIntS_lp0_m N (n + 1) (T_laws_eqIntS_lp0_sh a3 b4 i5) K =
    (bif decide (i5 < (ilen a3)) then
 (bif inb i5 (List.length a3) then
 (bif inb i5 (List.length b4) then
 (bif (List.getD a3 (Int.toNat i5) (0 : Int)) != (List.getD b4 (Int.toNat i5) (0 : Int)) then
 (K .ret (T_laws_eqIntS_lp0_e0 a3 b4))
 else
 (T_laws_eqIntS_lp0_m N n (T_laws_eqIntS_lp0_sh a3 b4 (iadd .i64 i5 (1 : Int))) K)) else none) else none)
 else
 (K (.exit 0) (T_laws_eqIntS_lp0_e1 a3 b4 i5 (decide (i5 < (ilen a3)))))) := by kernel_rfl

theorem T_laws_eqIntS_lp0_eq (N : Nat) {R : Type} (a3 : List Int) (b4 : List Int) (K : Ex → St → Option R) : ∀ (n : Nat) (i5 : Int), T_laws_eqIntS_lp0_m N n (T_laws_eqIntS_lp0_sh a3 b4 i5) K = T_laws_eqIntS_lp0 N a3 b4 (K .ret (T_laws_eqIntS_lp0_e0 a3 b4)) (fun i6 t7 => (K (.exit 0) (T_laws_eqIntS_lp0_e1 a3 b4 i6 t7))) n i5
  | 0, _ => rfl
  | n + 1, i5 => by rw [T_laws_eqIntS_lp0_step, T_laws_eqIntS_lp0]; (try simp only [T_laws_eqIntS_lp0_eq N a3 b4 K n])

theorem T_laws_eqIntS_c1 (N : Nat) (a1 : List Int) (b2 : List Int) :
    ((ctxK (R := ODen (T_laws_eqIntS_sg N).ps × RDen (T_laws_eqIntS_sg N).rs) tab (T_laws_eqIntS_ctx N) T_laws_eqIntS_ann N (theCode Try.f23) [1, 1, 0, 1, 0] (retK tab (T_laws_eqIntS_sg N) Try.f23.results.toList some)) .ret (T_laws_eqIntS_lp0_e0 a1 b2)) =
    (some (α := ODen (T_laws_eqIntS_sg N).ps × RDen (T_laws_eqIntS_sg N).rs) ((), (false, ()))) := by kernel_rfl

theorem T_laws_eqIntS_c2 (N : Nat) (a1 : List Int) (b2 : List Int) (i8 : Int) (t9 : Bool) :
    ((ctxK (R := ODen (T_laws_eqIntS_sg N).ps × RDen (T_laws_eqIntS_sg N).rs) tab (T_laws_eqIntS_ctx N) T_laws_eqIntS_ann N (theCode Try.f23) [1, 1, 0, 1, 0] (retK tab (T_laws_eqIntS_sg N) Try.f23.results.toList some)) (.exit 0) (T_laws_eqIntS_lp0_e1 a1 b2 i8 t9)) =
    (some (α := ODen (T_laws_eqIntS_sg N).ps × RDen (T_laws_eqIntS_sg N).rs) ((), (true, ()))) := by kernel_rfl

theorem T_laws_eqIntS_den (N : Nat) (a1 : List Int) (b2 : List Int) :
 den (R := ODen (T_laws_eqIntS_sg N).ps × RDen (T_laws_eqIntS_sg N).rs) tab (T_laws_eqIntS_ctx N) T_laws_eqIntS_ann N (T_laws_eqIntS_sg N) Try.f23 (a1, b2, ()) some =
 (T_laws_eqIntS N a1 b2 : Option (ODen (T_laws_eqIntS_sg N).ps × RDen (T_laws_eqIntS_sg N).rs)) := by
  have h : den (R := ODen (T_laws_eqIntS_sg N).ps × RDen (T_laws_eqIntS_sg N).rs) tab (T_laws_eqIntS_ctx N) T_laws_eqIntS_ann N (T_laws_eqIntS_sg N) Try.f23 (a1, b2, ()) some =
 (bif (ilen a1) != (ilen b2) then
 (some (α := ODen (T_laws_eqIntS_sg N).ps × RDen (T_laws_eqIntS_sg N).rs) ((), (false, ())))
 else
 (T_laws_eqIntS_lp0_m N N (T_laws_eqIntS_lp0_sh a1 b2 (0 : Int)) (ctxK (R := ODen (T_laws_eqIntS_sg N).ps × RDen (T_laws_eqIntS_sg N).rs) tab (T_laws_eqIntS_ctx N) T_laws_eqIntS_ann N (theCode Try.f23) [1, 1, 0, 1, 0] (retK tab (T_laws_eqIntS_sg N) Try.f23.results.toList some)))) := by kernel_rfl
  rw [h]
  (try simp only [T_laws_eqIntS_lp0_eq, T_laws_eqIntS_c1, T_laws_eqIntS_c2]) <;> rfl

theorem T_laws_eqIntS_ok (N : Nat) : chkBody Try.f23 (T_laws_eqIntS_sg N).ps = true := by kernel_rfl

theorem T_laws_eqIntS_callable : Callable Try.prog 23 := callable_of Try.func23 (show chkFn Try.f23 = true by kernel_rfl)

theorem T_laws_eqIntS_good (N : Nat) : Good Try.prog 23 (T_laws_eqIntS_sg N) :=
  good_body mixedOk tabOk ctx_nil Try.func23 (T_laws_eqIntS_ok N) (fun d _ h => ⟨N, (T_laws_eqIntS_den N d.1 d.2.1).trans h⟩)

noncomputable def T_laws_eqOp_sg (N : Nat) : Sig := Sig.of [.v (.prod (.int .i64) (.prod (.int .i64) (.prod (.int .i64) (.int .i64)))) true, .v (.prod (.int .i64) (.prod (.int .i64) (.prod (.int .i64) (.int .i64)))) true] [.v (.bool) false] (fun d => T_laws_eqOp N d.1 d.2.1)

def T_laws_eqOp_ann : Nat → List Ghost
  | _ => []

noncomputable def T_laws_eqOp_ctx (N : Nat) : Ctx := []

theorem T_laws_eqOp_den (N : Nat) (a1 : Int × Int × Int × Int) (b2 : Int × Int × Int × Int) :
    den (R := ODen (T_laws_eqOp_sg N).ps × RDen (T_laws_eqOp_sg N).rs) tab (T_laws_eqOp_ctx N) T_laws_eqOp_ann N (T_laws_eqOp_sg N) Try.f65 (a1, b2, ()) some =
    (T_laws_eqOp N a1 b2 : Option (ODen (T_laws_eqOp_sg N).ps × RDen (T_laws_eqOp_sg N).rs)) := by kernel_rfl

theorem T_laws_eqOp_ok (N : Nat) : chkBody Try.f65 (T_laws_eqOp_sg N).ps = true := by kernel_rfl

theorem T_laws_eqOp_callable : Callable Try.prog 65 := callable_of Try.func65 (show chkFn Try.f65 = true by kernel_rfl)

theorem T_laws_eqOp_good (N : Nat) : Good Try.prog 65 (T_laws_eqOp_sg N) :=
  good_body mixedOk tabOk ctx_nil Try.func65 (T_laws_eqOp_ok N) (fun d _ h => ⟨N, (T_laws_eqOp_den N d.1 d.2.1).trans h⟩)

noncomputable def T_laws_eqOpS_sg (N : Nat) : Sig := Sig.of [.v (.slice (.prod (.int .i64) (.prod (.int .i64) (.prod (.int .i64) (.int .i64))))) false, .v (.slice (.prod (.int .i64) (.prod (.int .i64) (.prod (.int .i64) (.int .i64))))) false] [.v (.bool) false] (fun d => T_laws_eqOpS N d.1 d.2.1)

def T_laws_eqOpS_ann : Nat → List Ghost
  | 4 => [.canon [0, 1, 5, 14]]
  | 5 => [.canon [0, 1, 5]]
  | 6 => [.canon [0, 1, 5, 26]]
  | 7 => [.canon [4]]
  | 100004 => [.canon [0, 1, 5]]
  | _ => []

noncomputable def T_laws_eqOpS_ctx (N : Nat) : Ctx := [(65, T_laws_eqOp_sg N)]

def T_laws_eqOpS_lp0_sh (a3 : List (Int × Int × Int × Int)) (b4 : List (Int × Int × Int × Int)) (i5 : Int) : St := { env := [(0, .s (.one (.val (.slice (.prod (.int .i64) (.prod (.int .i64) (.prod (.int .i64) (.int .i64))))) (a3 : List (Int × Int × Int × Int))))), (1, .s (.one (.val (.slice (.prod (.int .i64) (.prod (.int .i64) (.prod (.int .i64) (.int .i64))))) (b4 : List (Int × Int × Int × Int))))), (5, .s (.one (.val (.int .i64) (i5 : Int))))], objs := [], nx := 0 }

def T_laws_eqOpS_lp0_e0 (a3 : List (Int × Int × Int × Int)) (b4 : List (Int × Int × Int × Int)) : St := { env := [(4, .s (.one (.val (.bool) (false : Bool))))], objs := [], nx := 0 }

def T_laws_eqOpS_lp0_e1 (a3 : List (Int × Int × Int × Int)) (b4 : List (Int × Int × Int × Int)) (i7 : Int) (t8 : Bool) : St := { env := [(0, .s (.one (.val (.slice (.prod (.int .i64) (.prod (.int .i64) (.prod (.int .i64) (.int .i64))))) (a3 : List (Int × Int × Int × Int))))), (1, .s (.one (.val (.slice (.prod (.int .i64) (.prod (.int .i64) (.prod (.int .i64) (.int .i64))))) (b4 : List (Int × Int × Int × Int))))), (5, .s (.one (.val (.int .i64) (i7 : Int)))), (14, .s (.one (.val (.bool) (t8 : Bool))))], objs := [], nx := 0 }

noncomputable def T_laws_eqOpS_lp0_m (N : Nat) {R : Type} (n : Nat) (st : St) (K : Ex → St → Option R) : Option R := loopN (roundG (T_laws_eqOpS_ann 100004) fun st k => sx tab (T_laws_eqOpS_ctx N) T_laws_eqOpS_ann N (nthLoop Try.f24 0) st k) n st K

theorem T_laws_eqOpS_lp0_step (N : Nat) {R : Type} (n : Nat) (K : Ex → St → Option R) (a3 : List (Int × Int × Int × Int)) (b4 : List (Int × Int × Int × Int)) (i5 : Int) :
    T_laws_eqOpS_lp0_m N (n + 1) (T_laws_eqOpS_lp0_sh a3 b4 i5) K =
    (bif decide (i5 < (ilen a3)) then
 (bif inb i5 (List.length a3) then
 (bif inb i5 (List.length b4) then
 ((T_laws_eqOp N (List.getD a3 (Int.toNat i5) ((0 : Int), ((0 : Int), ((0 : Int), (0 : Int))))) (List.getD b4 (Int.toNat i5) ((0 : Int), ((0 : Int), ((0 : Int), (0 : Int)))))).bind fun o9 =>
 (bif !o9.2.1 then
 (K .ret (T_laws_eqOpS_lp0_e0 a3 b4))
 else
 (T_laws_eqOpS_lp0_m N n (T_laws_eqOpS_lp0_sh a3 b4 (iadd .i64 i5 (1 : Int))) K))) else none) else none)
 else
 (K (.exit 0) (T_laws_eqOpS_lp0_e1 a3 b4 i5 (decide (i5 < (ilen a3)))))) := by kernel_rfl

theorem T_laws_eqOpS_lp0_eq (N : Nat) {R : Type} (a3 : List (Int × Int × Int × Int)) (b4 : List (Int × Int × Int × Int)) (K : Ex → St → Option R) : ∀ (n : Nat) (i5 : Int), T_laws_eqOpS_lp0_m N n (T_laws_eqOpS_lp0_sh a3 b4 i5) K = T_laws_eqOpS_lp0 N a3 b4 (K .ret (T_laws_eqOpS_lp0_e0 a3 b4)) (fun i7 t8 => (K (.exit 0) (T_laws_eqOpS_lp0_e1 a3 b4 i7 t8))) n i5
  | 0, _ => rfl
  | n + 1, i5 => by rw [T_laws_eqOpS_lp0_step, T_laws_eqOpS_lp0]; (try simp only [T_laws_eqOpS_lp0_eq N a3 b4 K n])

theorem T_laws_eqOpS_c1 (N : Nat) (a1 : List (Int × Int × Int × Int)) (b2 : List (Int × Int × Int × Int)) :
    ((ctxK (R := ODen (T_laws_eqOpS_sg N).ps × RDen (T_laws_eqOpS_sg N).rs) tab (T_laws_eqOpS_ctx N) T_laws_eqOpS_ann N (theCode Try.f24) [1, 1, 0, 1, 0] (retK tab (T_laws_eqOpS_sg N) Try.f24.results.toList some)) .ret (T_laws_eqOpS_lp0_e0 a1 b2)) =
    (some (α := ODen (T_laws_eqOpS_sg N).ps × RDen (T_laws_eqOpS_sg N).rs) ((), (false, ()))) := by kernel_rfl

theorem T_laws_eqOpS_c2 (N : Nat) (a1 : List (Int × Int × Int × Int)) (b2 : List (Int × Int × Int × Int)) (i10 : Int) (t11 : Bool) :
    ((ctxK (R := ODen (T_laws_eqOpS_sg N).ps × RDen (T_laws_eqOpS_sg N).rs) tab (T_laws_eqOpS_ctx N) T_laws_eqOpS_ann N (theCode Try.f24) [1, 1, 0, 1, 0] (retK tab (T_laws_eqOpS_sg N) Try.f24.results.toList some)) (.exit 0) (T_laws_eqOpS_lp0_e1 a1 b2 i10 t11)) =
    (some (α := ODen (T_laws_eqOpS_sg N).ps × RDen (T_laws_eqOpS_sg N).rs) ((), (true, ()))) := by kernel_rfl

theorem T_laws_eqOpS_den (N : Nat) (a1 : List (Int × Int × Int × Int)) (b2 : List (Int × Int × Int × Int)) :
 den (R := ODen (T_laws_eqOpS_sg N).ps × RDen (T_laws_eqOpS_sg N).rs) tab (T_laws_eqOpS_ctx N) T_laws_eqOpS_ann N (T_laws_eqOpS_sg N) Try.f24 (a1, b2, ()) some =
 (T_laws_eqOpS N a1 b2 : Option (ODen (T_laws_eqOpS_sg N).ps × RDen (T_laws_eqOpS_sg N).rs)) := by
  have h : den (R := ODen (T_laws_eqOpS_sg N).ps × RDen (T_laws_eqOpS_sg N).rs) tab (T_laws_eqOpS_ctx N) T_laws_eqOpS_ann N (T_laws_eqOpS_sg N) Try.f24 (a1, b2, ()) some =
 (bif (ilen a1) != (ilen b2) then
 (some (α := ODen (T_laws_eqOpS_sg N).ps × RDen (T_laws_eqOpS_sg N).rs) ((), (false, ())))
 else
 (T_laws_eqOpS_lp0_m N N (T_laws_eqOpS_lp0_sh a1 b2 (0 : Int)) (ctxK (R := ODen (T_laws_eqOpS_sg N).ps × RDen (T_laws_eqOpS_sg N).rs) tab (T_laws_eqOpS_ctx N) T_laws_eqOpS_ann N (theCode Try.f24) [1, 1, 0, 1, 0] (retK tab (T_laws_eqOpS_sg N) Try.f24.results.toList some)))) := by kernel_rfl
  rw [h]
  (try simp only [T_laws_eqOpS_lp0_eq, T_laws_eqOpS_c1, T_laws_eqOpS_c2]) <;> rfl

theorem T_laws_eqOpS_ok (N : Nat) : chkBody Try.f24 (T_laws_eqOpS_sg N).ps = true := by kernel_rfl

theorem T_laws_eqOpS_callable : Callable Try.prog 24 := callable_of Try.func24 (show chkFn Try.f24 = true by kernel_rfl)

theorem T_laws_eqOpS_good (N : Nat) : Good Try.prog 24 (T_laws_eqOpS_sg N) :=
  good_body mixedOk tabOk (ctx_cons (T_laws_eqOp_good N) T_laws_eqOp_callable ctx_nil) Try.func24 (T_laws_eqOpS_ok N) (fun d _ h => ⟨N, (T_laws_eqOpS_den N d.1 d.2.1).trans h⟩)

noncomputable def T_laws_markOpS_sg (N : Nat) : Sig := Sig.of [.mut (.prod (.int .i64) (.prod (.int .i64) (.prod (.int .i64) (.int .i64)))), .v (.int .i64) false] [.v (.int .i64) false] (fun d => T_laws_markOpS N d.1 d.2.1)

def T_laws_markOpS_ann : Nat → List Ghost
  | 2 => [.canon [0, 1, 5, 9]]
  | 3 => [.canon [0, 1, 5]]
  | 4 => [.canon [0, 1, 5]]
  | 5 => [.canon [0, 1, 5]]
  | 6 => [.canon [0, 1, 5]]
  | 7 => [.canon [0, 1, 5]]
  | 8 => [.canon [0, 1, 5]]
  | 9 => [.canon [0, 1, 5]]
  | 10 => [.canon [0, 1, 5]]
  | 11 => [.canon [0, 1, 5]]
  | 100002 => [.canon [0, 1, 5]]
  | _ => []

noncomputable def T_laws_markOpS_ctx (N : Nat) : Ctx := []

def T_laws_markOpS_lp0_sh (k3 : Int) (i4 : Int) (l5 : List (Int × Int × Int × Int)) : St := { env := [(0, .s (.one (.own 0))), (1, .s (.one (.val (.int .i64) (k3 : Int)))), (5, .s (.one (.val (.int .i64) (i4 : Int))))], objs := [(0, .arr (.prod (.int .i64) (.prod (.int .i64) (.prod (.int .i64) (.int .i64)))) (l5 : List (Int × Int × Int × Int)))], nx := 1 }

def T_laws_markOpS_lp0_e0 (k9 : Int) (i10 : Int) (t11 : Bool) (l12 : List (Int × Int × Int × Int)) : St := { env := [(0, .s (.one (.own 0))), (1, .s (.one (.val (.int .i64) (k9 : Int)))), (5, .s (.one (.val (.int .i64) (i10 : Int)))), (9, .s (.one (.val (.bool) (t11 : Bool))))], objs := [(0, .arr (.prod (.int .i64) (.prod (.int .i64) (.prod (.int .i64) (.int .i64)))) (l12 : List (Int × Int × Int × Int)))], nx := 1 }

noncomputable def T_laws_markOpS_lp0_m (N : Nat) {R : Type} (n : Nat) (st : St) (K : Ex → St → Option R) : Option R := loopN (roundG (T_laws_markOpS_ann 100002) fun st k => sx tab (T_laws_markOpS_ctx N) T_laws_markOpS_ann N (nthLoop Try.f25 0) st k) n st K

theorem T_laws_markOpS_lp0_step (N : Nat) {R : Type} (n : Nat) (K : Ex → St → Option R) (k3 : Int) (i4 : Int) (l5 : List (Int × Int × Int × Int)) :
    T_laws_markOpS_lp0_m N (n + 1) (T_laws_markOpS_lp0_sh k3 i4 l5) K =
    (bif decide (i4 < (ilen l5)) then
 (bif inb i4 (List.length l5) then
 (bif inb i4 (List.length (List.set l5 (Int.toNat i4) (k3, (List.getD l5 (Int.toNat i4) ((0 : Int), ((0 : Int), ((0 : Int), (0 : Int))))).2))) then
 (share (List.set l5 (Int.toNat i4) (k3, (List.getD l5 (Int.toNat i4) ((0 : Int), ((0 : Int), ((0 : Int), (0 : Int))))).2)) fun s13 =>
 (bif inb i4 (List.length (List.set s13 (Int.toNat i4) ((List.getD s13 (Int.toNat i4) ((0 : Int), ((0 : Int), ((0 : Int), (0 : Int))))).1, (iadd .i64 k3 (1 : Int), (List.getD s13 (Int.toNat i4) ((0 : Int), ((0 : Int), ((0 : Int), (0 : Int))))).2.2)))) then
 (share (List.set s13 (Int.toNat i4) ((List.getD s13 (Int.toNat i4) ((0 : Int), ((0 : Int), ((0 : Int), (0 : Int))))).1, (iadd .i64 k3 (1 : Int), (List.getD s13 (Int.toNat i4) ((0 : Int), ((0 : Int), ((0 : Int), (0 : Int))))).2.2))) fun s14 =>
 (bif inb i4 (List.length (List.set s14 (Int.toNat i4) ((List.getD s14 (Int.toNat i4) ((0 : Int), ((0 : Int), ((0 : Int), (0 : Int))))).1, ((List.getD s14 (Int.toNat i4) ((0 : Int), ((0 : Int), ((0 : Int), (0 : Int))))).2.1, (iadd .i64 (iadd .i64 k3 (1 : Int)) (1 : Int), (List.getD s14 (Int.toNat i4) ((0 : Int), ((0 : Int), ((0 : Int), (0 : Int))))).2.2.2))))) then
 (share (List.set s14 (Int.toNat i4) ((List.getD s14 (Int.toNat i4) ((0 : Int), ((0 : Int), ((0 : Int), (0 : Int))))).1, ((List.getD s14 (Int.toNat i4) ((0 : Int), ((0 : Int), ((0 : Int), (0 : Int))))).2.1, (iadd .i64 (iadd .i64 k3 (1 : Int)) (1 : Int), (List.getD s14 (Int.toNat i4) ((0 : Int), ((0 : Int), ((0 : Int), (0 : Int))))).2.2.2)))) fun s15 =>
 (T_laws_markOpS_lp0_m N n (T_laws_markOpS_lp0_sh (iadd .i64 (iadd .i64 (iadd .i64 (iadd .i64 k3 (1 : Int)) (1 : Int)) (1 : Int)) (1 : Int)) (iadd .i64 i4 (1 : Int)) (List.set s15 (Int.toNat i4) ((List.getD s15 (Int.toNat i4) ((0 : Int), ((0 : Int), ((0 : Int), (0 : Int))))).1, ((List.getD s15 (Int.toNat i4) ((0 : Int), ((0 : Int), ((0 : Int), (0 : Int))))).2.1, ((List.getD s15 (Int.toNat i4) ((0 : Int), ((0 : Int), ((0 : Int), (0 : Int))))).2.2.1, iadd .i64 (iadd .i64 (iadd .i64 k3 (1 : Int)) (1 : Int)) (1 : Int)))))) K)) else none)) else none)) else none) else none)
 else
 (K (.exit 0) (T_laws_markOpS_lp0_e0 k3 i4 (decide (i4 < (ilen l5))) l5))) := by kernel_rfl

theorem T_laws_markOpS_lp0_eq (N : Nat) {R : Type} (K : Ex → St → Option R) : ∀ (n : Nat) (k3 : Int) (i4 : Int) (l5 : List (Int × Int × Int × Int)), T_laws_markOpS_lp0_m N n (T_laws_markOpS_lp0_sh k3 i4 l5) K = T_laws_markOpS_lp0 N (fun k9 i10 t11 l12 => (K (.exit 0) (T_laws_markOpS_lp0_e0 k9 i10 t11 l12))) n k3 i4 l5
  | 0, _, _, _ => rfl
  | n + 1, k3, i4, l5 => by rw [T_laws_markOpS_lp0_step, T_laws_markOpS_lp0]; (try simp only [T_laws_markOpS_lp0_eq N K n])

theorem T_laws_markOpS_c1 (N : Nat) (k16 : Int) (i17 : Int) (t18 : Bool) (l19 : List (Int × Int × Int × Int)) :
    ((ctxK (R := ODen (T_laws_markOpS_sg N).ps × RDen (T_laws_markOpS_sg N).rs) tab (T_laws_markOpS_ctx N) T_laws_markOpS_ann N (theCode Try.f25) [1, 0, 1, 0] (retK tab (T_laws_markOpS_sg N) Try.f25.results.toList some)) (.exit 0) (T_laws_markOpS_lp0_e0 k16 i17 t18 l19)) =
    (some (α := ODen (T_laws_markOpS_sg N).ps × RDen (T_laws_markOpS_sg N).rs) ((l19, ()), (k16, ()))) := by kernel_rfl

theorem T_laws_markOpS_den (N : Nat) (a1 : List (Int × Int × Int × Int)) (k2 : Int) :
 den (R := ODen (T_laws_markOpS_sg N).ps × RDen (T_laws_markOpS_sg N).rs) tab (T_laws_markOpS_ctx N) T_laws_markOpS_ann N (T_laws_markOpS_sg N) Try.f25 (a1, k2, ()) some =
 (T_laws_markOpS N a1 k2 : Option (ODen (T_laws_markOpS_sg N).ps × RDen (T_laws_markOpS_sg N).rs)) := by
  have h : den (R := ODen (T_laws_markOpS_sg N).ps × RDen (T_laws_markOpS_sg N).rs) tab (T_laws_markOpS_ctx N) T_laws_markOpS_ann N (T_laws_markOpS_sg N) Try.f25 (a1, k2, ()) some =
 (T_laws_markOpS_lp0_m N N (T_laws_markOpS_lp0_sh k2 (0 : Int) a1) (ctxK (R := ODen (T_laws_markOpS_sg N).ps × RDen (T_laws_markOpS_sg N).rs) tab (T_laws_markOpS_ctx N) T_laws_markOpS_ann N (theCode Try.f25) [1, 0, 1, 0] (retK tab (T_laws_markOpS_sg N) Try.f25.results.toList some))) := by kernel_rfl
  rw [h]
  (try simp only [T_laws_markOpS_lp0_eq, T_laws_markOpS_c1]) <;> rfl

theorem T_laws_markOpS_ok (N : Nat) : chkBody Try.f25 (T_laws_markOpS_sg N).ps = true := by kernel_rfl

theorem T_laws_markOpS_callable : Callable Try.prog 25 := callable_of Try.func25 (show chkFn Try.f25 = true by kernel_rfl)

theorem T_laws_markOpS_good (N : Nat) : Good Try.prog 25 (T_laws_markOpS_sg N) :=
  good_body mixedOk tabOk ctx_nil Try.func25 (T_laws_markOpS_ok N) (fun d _ h => ⟨N, (T_laws_markOpS_den N d.1 d.2.1).trans h⟩)

noncomputable def T_laws_markIntS_sg (N : Nat) : Sig := Sig.of [.mut (.int .i64), .v (.int .i64) false] [.v (.int .i64) false] (fun d => T_laws_markIntS N d.1 d.2.1)

def T_laws_markIntS_ann : Nat → List Ghost
  | 2 => [.canon [0, 1, 5, 9]]
  | 3 => [.canon [0, 1, 5]]
  | 4 => [.canon [0, 1, 5]]
  | 5 => [.canon [0, 1, 5]]
  | 100002 => [.canon [0, 1, 5]]
  | _ => []

noncomputable def T_laws_markIntS_ctx (N : Nat) : Ctx := []

def T_laws_markIntS_lp0_sh (k3 : Int) (i4 : Int) (l5 : List Int) : St := { env := [(0, .s (.one (.own 0))), (1, .s (.one (.val (.int .i64) (k3 : Int)))), (5, .s (.one (.val (.int .i64) (i4 : Int))))], objs := [(0, .arr (.int .i64) (l5 : List Int))], nx := 1 }

def T_laws_markIntS_lp0_e0 (k6 : Int) (i7 : Int) (t8 : Bool) (l9 : List Int) : St := { env := [(0, .s (.one (.own 0))), (1, .s (.one (.val (.int .i64) (k6 : Int)))), (5, .s (.one (.val (.int .i64) (i7 : Int)))), (9, .s (.one (.val (.bool) (t8 : Bool))))], objs := [(0, .arr (.int .i64) (l9 : List Int))], nx := 1 }

noncomputable def T_laws_markIntS_lp0_m (N : Nat) {R : Type} (n : Nat) (st : St) (K : Ex → St → Option R) : Option R := loopN (roundG (T_laws_markIntS_ann 100002) fun st k => sx tab (T_laws_markIntS_ctx N) T_laws_markIntS_ann N (nthLoop Try.f26 0) st k) n st K

theorem T_laws_markIntS_lp0_step (N : Nat) {R : Type} (n : Nat) (K : Ex → St → Option R) (k3 : Int) (i4 : Int) (l5 : List Int) :
    T_laws_markIntS_lp0_m N (n + 1) (T_laws_markIntS_lp0_sh k3 i4 l5) K =
    (bif decide (i4 < (ilen l5)) then
 (bif inb i4 (List.length l5) then
 (T_laws_markIntS_lp0_m N n (T_laws_markIntS_lp0_sh (iadd .i64 k3 (1 : Int)) (iadd .i64 i4 (1 : Int)) (List.set l5 (Int.toNat i4) k3)) K) else none)
 else
 (K (.exit 0) (T_laws_markIntS_lp0_e0 k3 i4 (decide (i4 < (ilen l5))) l5))) := by kernel_rfl

theorem T_laws_markIntS_lp0_eq (N : Nat) {R : Type} (K : Ex → St → Option R) : ∀ (n : Nat) (k3 : Int) (i4 : Int) (l5 : List Int), T_laws_markIntS_lp0_m N n (T_laws_markIntS_lp0_sh k3 i4 l5) K = T_laws_markIntS_lp0 N (fun k6 i7 t8 l9 => (K (.exit 0) (T_laws_markIntS_lp0_e0 k6 i7 t8 l9))) n k3 i4 l5
  | 0, _, _, _ => rfl
  | n + 1, k3, i4, l5 => by rw [T_laws_markIntS_lp0_step, T_laws_markIntS_lp0]; (try simp only [T_laws_markIntS_lp0_eq N K n])

theorem T_laws_markIntS_c1 (N : Nat) (k10 : Int) (i11 : Int) (t12 : Bool) (l13 : List Int) :
    ((ctxK (R := ODen (T_laws_markIntS_sg N).ps × RDen (T_laws_markIntS_sg N).rs) tab (T_laws_markIntS_ctx N) T_laws_markIntS_ann N (theCode Try.f26) [1, 0, 1, 0] (retK tab (T_laws_markIntS_sg N) Try.f26.results.toList some)) (.exit 0) (T_laws_markIntS_lp0_e0 k10 i11 t12 l13)) =
    (some (α := ODen (T_laws_markIntS_sg N).ps × RDen (T_laws_markIntS_sg N).rs) ((l13, ()), (k10, ()))) := by kernel_rfl

theorem T_laws_markIntS_den (N : Nat) (a1 : List Int) (k2 : Int) :
 den (R := ODen (T_laws_markIntS_sg N).ps × RDen (T_laws_markIntS_sg N).rs) tab (T_laws_markIntS_ctx N) T_laws_markIntS_ann N (T_laws_markIntS_sg N) Try.f26 (a1, k2, ()) some =
 (T_laws_markIntS N a1 k2 : Option (ODen (T_laws_markIntS_sg N).ps × RDen (T_laws_markIntS_sg N).rs)) := by
  have h : den (R := ODen (T_laws_markIntS_sg N).ps × RDen (T_laws_markIntS_sg N).rs) tab (T_laws_markIntS_ctx N) T_laws_markIntS_ann N (T_laws_markIntS_sg N) Try.f26 (a1, k2, ()) some =
 (T_laws_markIntS_lp0_m N N (T_laws_markIntS_lp0_sh k2 (0 : Int) a1) (ctxK (R := ODen (T_laws_markIntS_sg N).ps × RDen (T_laws_markIntS_sg N).rs) tab (T_laws_markIntS_ctx N) T_laws_markIntS_ann N (theCode Try.f26) [1, 0, 1, 0] (retK tab (T_laws_markIntS_sg N) Try.f26.results.toList some))) := by kernel_rfl
  rw [h]
  (try simp only [T_laws_markIntS_lp0_eq, T_laws_markIntS_c1]) <;> rfl

theorem T_laws_markIntS_ok (N : Nat) : chkBody Try.f26 (T_laws_markIntS_sg N).ps = true := by kernel_rfl

theorem T_laws_markIntS_callable : Callable Try.prog 26 := callable_of Try.func26 (show chkFn Try.f26 = true by kernel_rfl)

theorem T_laws_markIntS_good (N : Nat) : Good Try.prog 26 (T_laws_markIntS_sg N) :=
  good_body mixedOk tabOk ctx_nil Try.func26 (T_laws_markIntS_ok N) (fun d _ h => ⟨N, (T_laws_markIntS_den N d.1 d.2.1).trans h⟩)

noncomputable def T_laws_heldIntS_sg (N : Nat) : Sig := Sig.of [.v (.slice (.int .i64)) false, .v (.int .i64) false] [.v (.int .i64) false] (fun d => T_laws_heldIntS N d.1 d.2.1)

def T_laws_heldIntS_ann : Nat → List Ghost
  | 2 => [.canon [0, 1, 5, 9]]
  | 3 => [.canon [0, 1, 5]]
  | 4 => [.canon [0, 1, 5, 17]]
  | 5 => [.canon [4]]
  | 6 => [.canon [0, 1, 5]]
  | 100002 => [.canon [0, 1, 5]]
  | _ => []

noncomputable def T_laws_heldIntS_ctx (N : Nat) : Ctx := []

def T_laws_heldIntS_lp0_sh (a3 : List Int) (k4 : Int) (i5 : Int) : St := { env := [(0, .s (.one (.val (.slice (.int .i64)) (a3 : List Int)))), (1, .s (.one (.val (.int .i64) (k4 : Int)))), (5, .s (.one (.val (.int .i64) (i5 : Int))))], objs := [], nx := 0 }

def T_laws_heldIntS_lp0_e0 (a3 : List Int) : St := { env := [(4, .s (.one (.val (.int .i64) ((-1 : Int) : Int))))], objs := [], nx := 0 }

def T_laws_heldIntS_lp0_e1 (a3 : List Int) (k6 : Int) (i7 : Int) (t8 : Bool) : St := { env := [(0, .s (.one (.val (.slice (.int .i64)) (a3 : List Int)))), (1, .s (.one (.val (.int .i64) (k6 : Int)))), (5, .s (.one (.val (.int .i64) (i7 : Int)))), (9, .s (.one (.val (.bool) (t8 : Bool))))], objs := [], nx := 0 }

noncomputable def T_laws_heldIntS_lp0_m (N : Nat) {R : Type} (n : Nat) (st : St) (K : Ex → St → Option R) : Option R := loopN (roundG (T_laws_heldIntS_ann 100002) fun st k => sx tab (T_laws_heldIntS_ctx N) T_laws_heldIntS_ann N (nthLoop Try.f27 0) st k) n st K

theorem T_laws_heldIntS_lp0_step (N : Nat) {R : Type} (n : Nat) (K : Ex → St → Option R) (a3 : List Int) (k4 : Int) (i5 : Int) :
    T_laws_heldIntS_lp0_m N (n + 1) (T_laws_heldIntS_lp0_sh a3 k4 i5) K =
    (bif decide (i5 < (ilen a3)) then
 (bif inb i5 (List.length a3) then
 (bif (List.getD a3 (Int.toNat i5) (0 : Int)) != k4 then
 (K .ret (T_laws_heldIntS_lp0_e0 a3))
 else
 (T_laws_heldIntS_lp0_m N n (T_laws_heldIntS_lp0_sh a3 (iadd .i64 k4 (1 : Int)) (iadd .i64 i5 (1 : Int))) K)) else none)
 else
 (K (.exit 0) (T_laws_heldIntS_lp0_e1 a3 k4 i5 (decide (i5 < (ilen a3)))))) := by kernel_rfl

theorem T_laws_heldIntS_lp0_eq (N : Nat) {R : Type} (a3 : List Int) (K : Ex → St → Option R) : ∀ (n : Nat) (k4 : Int) (i5 : Int), T_laws_heldIntS_lp0_m N n (T_laws_heldIntS_lp0_sh a3 k4 i5) K = T_laws_heldIntS_lp0 N a3 (K .ret (T_laws_heldIntS_lp0_e0 a3)) (fun k6 i7 t8 => (K (.exit 0) (T_laws_heldIntS_lp0_e1 a3 k6 i7 t8))) n k4 i5
  | 0, _, _ => rfl
  | n + 1, k4, i5 => by rw [T_laws_heldIntS_lp0_step, T_laws_heldIntS_lp0]; (try simp only [T_laws_heldIntS_lp0_eq N a3 K n])

theorem T_laws_heldIntS_c1 (N : Nat) (a1 : List Int) :
    ((ctxK (R := ODen (T_laws_heldIntS_sg N).ps × RDen (T_laws_heldIntS_sg N).rs) tab (T_laws_heldIntS_ctx N) T_laws_heldIntS_ann N (theCode Try.f27) [1, 0, 1, 0] (retK tab (T_laws_heldIntS_sg N) Try.f27.results.toList some)) .ret (T_laws_heldIntS_lp0_e0 a1)) =
    (some (α := ODen (T_laws_heldIntS_sg N).ps × RDen (T_laws_heldIntS_sg N).rs) ((), ((-1 : Int), ()))) := by kernel_rfl

theorem T_laws_heldIntS_c2 (N : Nat) (a1 : List Int) (k9 : Int) (i10 : Int) (t11 : Bool) :
    ((ctxK (R := ODen (T_laws_heldIntS_sg N).ps × RDen (T_laws_heldIntS_sg N).rs) tab (T_laws_heldIntS_ctx N) T_laws_heldIntS_ann N (theCode Try.f27) [1, 0, 1, 0] (retK tab (T_laws_heldIntS_sg N) Try.f27.results.toList some)) (.exit 0) (T_laws_heldIntS_lp0_e1 a1 k9 i10 t11)) =
    (some (α := ODen (T_laws_heldIntS_sg N).ps × RDen (T_laws_heldIntS_sg N).rs) ((), (k9, ()))) := by kernel_rfl

theorem T_laws_heldIntS_den (N : Nat) (a1 : List Int) (k2 : Int) :
 den (R := ODen (T_laws_heldIntS_sg N).ps × RDen (T_laws_heldIntS_sg N).rs) tab (T_laws_heldIntS_ctx N) T_laws_heldIntS_ann N (T_laws_heldIntS_sg N) Try.f27 (a1, k2, ()) some =
 (T_laws_heldIntS N a1 k2 : Option (ODen (T_laws_heldIntS_sg N).ps × RDen (T_laws_heldIntS_sg N).rs)) := by
  have h : den (R := ODen (T_laws_heldIntS_sg N).ps × RDen (T_laws_heldIntS_sg N).rs) tab (T_laws_heldIntS_ctx N) T_laws_heldIntS_ann N (T_laws_heldIntS_sg N) Try.f27 (a1, k2, ()) some =
 (T_laws_heldIntS_lp0_m N N (T_laws_heldIntS_lp0_sh a1 k2 (0 : Int)) (ctxK (R := ODen (T_laws_heldIntS_sg N).ps × RDen (T_laws_heldIntS_sg N).rs) tab (T_laws_heldIntS_ctx N) T_laws_heldIntS_ann N (theCode Try.f27) [1, 0, 1, 0] (retK tab (T_laws_heldIntS_sg N) Try.f27.results.toList some))) := by kernel_rfl
  rw [h]
  (try simp only [T_laws_heldIntS_lp0_eq, T_laws_heldIntS_c1, T_laws_heldIntS_c2]) <;> rfl

theorem T_laws_heldIntS_ok (N : Nat) : chkBody Try.f27 (T_laws_heldIntS_sg N).ps = true := by kernel_rfl

theorem T_laws_heldIntS_callable : Callable Try.prog 27 := callable_of Try.func27 (show chkFn Try.f27 = true by kernel_rfl)

theorem T_laws_heldIntS_good (N : Nat) : Good Try.prog 27 (T_laws_heldIntS_sg N) :=
  good_body mixedOk tabOk ctx_nil Try.func27 (T_laws_heldIntS_ok N) (fun d _ h => ⟨N, (T_laws_heldIntS_den N d.1 d.2.1).trans h⟩)

noncomputable def T_laws_FnExactReadsOf_sg (N : Nat) : Sig := Sig.of [.v (.slice (.prod (.int .i64) (.prod (.int .i64) (.prod (.int .i64) (.int .i64))))) false, .v (.slice (.int .i64)) false, .v (.slice (.int .i64)) false] [.v (.bool) false] (fun d => T_laws_FnExactReadsOf N d.1 d.2.1 d.2.2.1)

def T_laws_FnExactReadsOf_ann : Nat → List Ghost
  | _ => []

noncomputable def T_laws_FnExactReadsOf_ctx (N : Nat) : Ctx := [(18, T_laws_szOpS_sg N), (20, T_laws_toOpS_sg N), (21, T_laws_toIntS_sg N), (19, T_spec_ReadsOf_sg N), (22, T_impl_ReadsOf_sg N), (23, T_laws_eqIntS_sg N), (24, T_laws_eqOpS_sg N), (25, T_laws_markOpS_sg N), (26, T_laws_markIntS_sg N), (27, T_laws_heldIntS_sg N)]

theorem T_laws_FnExactReadsOf_den (N : Nat) (aCode1 : List (Int × Int × Int × Int)) (aRegs2 : List Int) (aCells3 : List Int) :
    den (R := ODen (T_laws_FnExactReadsOf_sg N).ps × RDen (T_laws_FnExactReadsOf_sg N).rs) tab (T_laws_FnExactReadsOf_ctx N) T_laws_FnExactReadsOf_ann N (T_laws_FnExactReadsOf_sg N) Try.f4 (aCode1, aRegs2, aCells3, ()) some =
    (T_laws_FnExactReadsOf N aCode1 aRegs2 aCells3 : Option (ODen (T_laws_FnExactReadsOf_sg N).ps × RDen (T_laws_FnExactReadsOf_sg N).rs)) := by kernel_rfl

theorem T_laws_FnExactReadsOf_ok (N : Nat) : chkBody Try.f4 (T_laws_FnExactReadsOf_sg N).ps = true := by kernel_rfl

theorem T_laws_FnExactReadsOf_callable : Callable Try.prog 4 := callable_of Try.func4 (show chkFn Try.f4 = true by kernel_rfl)

theorem T_laws_FnExactReadsOf_good (N : Nat) : Good Try.prog 4 (T_laws_FnExactReadsOf_sg N) :=
  good_body mixedOk tabOk (ctx_cons (T_laws_szOpS_good N) T_laws_szOpS_callable (ctx_cons (T_laws_toOpS_good N) T_laws_toOpS_callable (ctx_cons (T_laws_toIntS_good N) T_laws_toIntS_callable (ctx_cons (T_spec_ReadsOf_good N) T_spec_ReadsOf_callable (ctx_cons (T_impl_ReadsOf_good N) T_impl_ReadsOf_callable (ctx_cons (T_laws_eqIntS_good N) T_laws_eqIntS_callable (ctx_cons (T_laws_eqOpS_good N) T_laws_eqOpS_callable (ctx_cons (T_laws_markOpS_good N) T_laws_markOpS_callable (ctx_cons (T_laws_markIntS_good N) T_laws_markIntS_callable (ctx_cons (T_laws_heldIntS_good N) T_laws_heldIntS_callable ctx_nil)))))))))) Try.func4 (T_laws_FnExactReadsOf_ok N) (fun d _ h => ⟨N, (T_laws_FnExactReadsOf_den N d.1 d.2.1 d.2.2.1).trans h⟩)

end Go.Sx
