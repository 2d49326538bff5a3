/- Each Go function does what its Lean function says. -/
import Derived.Test.YtfbomdanghhgcaaT
import Derived.Test.YtfbomdanghhgcaaProg
namespace Go.Sx
open Go.Proofs
set_option linter.unusedVariables false
set_option linter.unusedSimpArgs false

def tab : Tab := [(3, ⟨.int .i64, false, .basic⟩), (4, ⟨.bool, false, .basic⟩), (26, ⟨.slice (.int .i64), false, .slice 3⟩), (50, ⟨.prod (.int .i64) (.int .i64), true, .struct [(0, 3), (1, 3)]⟩), (51, ⟨.slice (.prod (.int .i64) (.int .i64)), false, .slice 50⟩), (61, ⟨.slice (.prod (.int .i64) (.prod (.int .i64) (.prod (.int .i64) (.int .i64)))), false, .slice 133⟩), (64, ⟨.prod (.int .i64) (.prod (.slice (.int .i64)) (.prod (.slice (.int .i64)) (.prod (.slice (.prod (.int .i64) (.int .i64))) (.int .i64)))), true, .struct [(0, 3), (1, 26), (2, 26), (3, 51), (4, 3)]⟩), (66, ⟨.slice (.prod (.int .i64) (.prod (.int .i64) (.prod (.int .i64) (.int .i64)))), false, .slice 127⟩), (125, ⟨.slice (.prod (.int .i64) (.prod (.slice (.int .i64)) (.int .i64))), false, .slice 129⟩), (127, ⟨.prod (.int .i64) (.prod (.int .i64) (.prod (.int .i64) (.int .i64))), true, .struct [(0, 3), (1, 3), (2, 3), (3, 3)]⟩), (129, ⟨.prod (.int .i64) (.prod (.slice (.int .i64)) (.int .i64)), true, .struct [(0, 3), (1, 26), (2, 3)]⟩), (133, ⟨.prod (.int .i64) (.prod (.int .i64) (.prod (.int .i64) (.int .i64))), true, .struct [(0, 3), (1, 3), (2, 3), (3, 3)]⟩), (138, ⟨.slice (.prod (.int .i64) (.prod (.int .i64) (.slice (.int .i64)))), false, .slice 183⟩), (140, ⟨.prod (.slice (.int .i64)) (.prod (.slice (.int .i64)) (.prod (.slice (.prod (.int .i64) (.int .i64))) (.prod (.int .i64) (.prod (.slice (.prod (.int .i64) (.prod (.int .i64) (.slice (.int .i64))))) (.slice (.int .i64)))))), true, .struct [(0, 26), (1, 26), (2, 51), (3, 3), (4, 138), (5, 26)]⟩), (183, ⟨.prod (.int .i64) (.prod (.int .i64) (.slice (.int .i64))), true, .struct [(0, 3), (1, 3), (2, 26)]⟩)]

theorem mixedOk : Try.prog.follows .mixedOrders = true := by kernel_rfl

theorem tabOk : TabOk Try.prog tab := tab_ok (show chkTab Try.prog tab tab = true by kernel_rfl)

noncomputable def T_laws_szOpS_sg (N : Nat) : Sig := Sig.of [.v (.slice (.prod (.int .i64) (.prod (.int .i64) (.prod (.int .i64) (.int .i64))))) false, .v (.int .i64) false] [.v (.int .i64) false] (fun d => T_laws_szOpS N d.1 d.2.1)

def T_laws_szOpS_ann : Nat → List Ghost
  | _ => []

noncomputable def T_laws_szOpS_ctx (N : Nat) : Ctx := []

theorem T_laws_szOpS_den (N : Nat) (a1 : List (Int × Int × Int × Int)) (left2 : Int) :
    den (R := ODen (T_laws_szOpS_sg N).ps × RDen (T_laws_szOpS_sg N).rs) tab (T_laws_szOpS_ctx N) T_laws_szOpS_ann N (T_laws_szOpS_sg N) Try.f37 (a1, left2, ()) some =
    (T_laws_szOpS N a1 left2 : Option (ODen (T_laws_szOpS_sg N).ps × RDen (T_laws_szOpS_sg N).rs)) := by kernel_rfl

theorem T_laws_szOpS_ok (N : Nat) : chkBody Try.f37 (T_laws_szOpS_sg N).ps = true := by kernel_rfl

theorem T_laws_szOpS_callable : Callable Try.prog 37 := callable_of Try.func37 (show chkFn Try.f37 = true by kernel_rfl)

theorem T_laws_szOpS_good (N : Nat) : Good Try.prog 37 (T_laws_szOpS_sg N) :=
  good_body mixedOk tabOk ctx_nil Try.func37 (T_laws_szOpS_ok N) (fun d _ h => ⟨N, (T_laws_szOpS_den N d.1 d.2.1).trans h⟩)

noncomputable def T_laws_toOp_sg (N : Nat) : Sig := Sig.of [.v (.prod (.int .i64) (.prod (.int .i64) (.prod (.int .i64) (.int .i64)))) true] [.v (.prod (.int .i64) (.prod (.int .i64) (.prod (.int .i64) (.int .i64)))) true] (fun d => T_laws_toOp N d.1)

def T_laws_toOp_ann : Nat → List Ghost
  | _ => []

noncomputable def T_laws_toOp_ctx (N : Nat) : Ctx := []

theorem T_laws_toOp_den (N : Nat) (a1 : Int × Int × Int × Int) :
    den (R := ODen (T_laws_toOp_sg N).ps × RDen (T_laws_toOp_sg N).rs) tab (T_laws_toOp_ctx N) T_laws_toOp_ann N (T_laws_toOp_sg N) Try.f102 (a1, ()) some =
    (T_laws_toOp N a1 : Option (ODen (T_laws_toOp_sg N).ps × RDen (T_laws_toOp_sg N).rs)) := by kernel_rfl

theorem T_laws_toOp_ok (N : Nat) : chkBody Try.f102 (T_laws_toOp_sg N).ps = true := by kernel_rfl

theorem T_laws_toOp_callable : Callable Try.prog 102 := callable_of Try.func102 (show chkFn Try.f102 = true by kernel_rfl)

theorem T_laws_toOp_good (N : Nat) : Good Try.prog 102 (T_laws_toOp_sg N) :=
  good_body mixedOk tabOk ctx_nil Try.func102 (T_laws_toOp_ok N) (fun d _ h => ⟨N, (T_laws_toOp_den N d.1).trans h⟩)

noncomputable def T_laws_toOpS_sg (N : Nat) : Sig := Sig.of [.v (.slice (.prod (.int .i64) (.prod (.int .i64) (.prod (.int .i64) (.int .i64))))) false] [.v (.own (.prod (.int .i64) (.prod (.int .i64) (.prod (.int .i64) (.int .i64))))) false] (fun d => T_laws_toOpS N d.1)

def T_laws_toOpS_ann : Nat → List Ghost
  | 3 => [.canon [0, 3, 4, 11]]
  | 4 => [.canon [0, 3, 4]]
  | 5 => [.canon [0, 3, 4]]
  | 100003 => [.canon [0, 3, 4]]
  | _ => []

noncomputable def T_laws_toOpS_ctx (N : Nat) : Ctx := [(102, T_laws_toOp_sg N)]

def T_laws_toOpS_lp0_sh (a2 : List (Int × Int × Int × Int)) (i3 : Int) (l4 : List (Int × Int × Int × Int)) : St := { env := [(0, .s (.one (.val (.slice (.prod (.int .i64) (.prod (.int .i64) (.prod (.int .i64) (.int .i64))))) (a2 : List (Int × Int × Int × Int))))), (3, .s (.one (.own 0))), (4, .s (.one (.val (.int .i64) (i3 : Int))))], objs := [(0, .arr (.prod (.int .i64) (.prod (.int .i64) (.prod (.int .i64) (.int .i64)))) (l4 : List (Int × Int × Int × Int)))], nx := 1 }

def T_laws_toOpS_lp0_e0 (a2 : List (Int × Int × Int × Int)) (i6 : Int) (t7 : Bool) (l8 : List (Int × Int × Int × Int)) : St := { env := [(0, .s (.one (.val (.slice (.prod (.int .i64) (.prod (.int .i64) (.prod (.int .i64) (.int .i64))))) (a2 : List (Int × Int × Int × Int))))), (3, .s (.one (.own 0))), (4, .s (.one (.val (.int .i64) (i6 : Int)))), (11, .s (.one (.val (.bool) (t7 : Bool))))], objs := [(0, .arr (.prod (.int .i64) (.prod (.int .i64) (.prod (.int .i64) (.int .i64)))) (l8 : List (Int × Int × Int × Int)))], nx := 1 }

noncomputable def T_laws_toOpS_lp0_m (N : Nat) {R : Type} (n : Nat) (st : St) (K : Ex → St → Option R) : Option R := loopN (roundG (T_laws_toOpS_ann 100003) fun st k => sx tab (T_laws_toOpS_ctx N) T_laws_toOpS_ann N (nthLoop Try.f39 0) st k) n st K

theorem T_laws_toOpS_lp0_step (N : Nat) {R : Type} (n : Nat) (K : Ex → St → Option R) (a2 : List (Int × Int × Int × Int)) (i3 : Int) (l4 : List (Int × Int × Int × Int)) :
    T_laws_toOpS_lp0_m N (n + 1) (T_laws_toOpS_lp0_sh a2 i3 l4) K =
    (bif decide (i3 < (ilen a2)) then
 (bif inb i3 (List.length a2) then
 ((T_laws_toOp N (List.getD a2 (Int.toNat i3) ((0 : Int), ((0 : Int), ((0 : Int), (0 : Int)))))).bind fun o9 =>
 (bif inb i3 (List.length l4) then
 (T_laws_toOpS_lp0_m N n (T_laws_toOpS_lp0_sh a2 (iadd .i64 i3 (1 : Int)) (List.set l4 (Int.toNat i3) o9.2.1)) K) else none)) else none)
 else
 (K (.exit 0) (T_laws_toOpS_lp0_e0 a2 i3 (decide (i3 < (ilen a2))) l4))) := by kernel_rfl

theorem T_laws_toOpS_lp0_eq (N : Nat) {R : Type} (a2 : List (Int × Int × Int × Int)) (K : Ex → St → Option R) : ∀ (n : Nat) (i3 : Int) (l4 : List (Int × Int × Int × Int)), T_laws_toOpS_lp0_m N n (T_laws_toOpS_lp0_sh a2 i3 l4) K = T_laws_toOpS_lp0 N a2 (fun i6 t7 l8 => (K (.exit 0) (T_laws_toOpS_lp0_e0 a2 i6 t7 l8))) n i3 l4
  | 0, _, _ => rfl
  | n + 1, i3, l4 => by rw [T_laws_toOpS_lp0_step, T_laws_toOpS_lp0]; (try simp only [T_laws_toOpS_lp0_eq N a2 K n])

theorem T_laws_toOpS_c1 (N : Nat) (a1 : List (Int × Int × Int × Int)) (i10 : Int) (t11 : Bool) (l12 : List (Int × Int × Int × Int)) :
    ((ctxK (R := ODen (T_laws_toOpS_sg N).ps × RDen (T_laws_toOpS_sg N).rs) tab (T_laws_toOpS_ctx N) T_laws_toOpS_ann N (theCode Try.f39) [1, 1, 0, 1, 0] (retK tab (T_laws_toOpS_sg N) Try.f39.results.toList some)) (.exit 0) (T_laws_toOpS_lp0_e0 a1 i10 t11 l12)) =
    (some (α := ODen (T_laws_toOpS_sg N).ps × RDen (T_laws_toOpS_sg N).rs) ((), (l12, ()))) := by kernel_rfl

theorem T_laws_toOpS_den (N : Nat) (a1 : List (Int × Int × Int × Int)) :
    den (R := ODen (T_laws_toOpS_sg N).ps × RDen (T_laws_toOpS_sg N).rs) tab (T_laws_toOpS_ctx N) T_laws_toOpS_ann N (T_laws_toOpS_sg N) Try.f39 (a1, ()) some =
    (bif ((decide ((0 : Int) ≤ (ilen a1))) && (decide ((ilen a1) ≤ (ilen a1)))) && (room (Int.toNat (ilen a1))) then
 (T_laws_toOpS_lp0 N a1
 (fun i10 t11 l12 =>
   (some (α := ODen (T_laws_toOpS_sg N).ps × RDen (T_laws_toOpS_sg N).rs) ((), (l12, ()))))
  N (0 : Int) (List.replicate (Int.toNat (ilen a1)) ((0 : Int), ((0 : Int), ((0 : Int), (0 : Int)))))) else none) := by
  have h : den (R := ODen (T_laws_toOpS_sg N).ps × RDen (T_laws_toOpS_sg N).rs) tab (T_laws_toOpS_ctx N) T_laws_toOpS_ann N (T_laws_toOpS_sg N) Try.f39 (a1, ()) some =
    (bif ((decide ((0 : Int) ≤ (ilen a1))) && (decide ((ilen a1) ≤ (ilen a1)))) && (room (Int.toNat (ilen a1))) then
 (T_laws_toOpS_lp0_m N N (T_laws_toOpS_lp0_sh a1 (0 : Int) (List.replicate (Int.toNat (ilen a1)) ((0 : Int), ((0 : Int), ((0 : Int), (0 : Int)))))) (ctxK (R := ODen (T_laws_toOpS_sg N).ps × RDen (T_laws_toOpS_sg N).rs) tab (T_laws_toOpS_ctx N) T_laws_toOpS_ann N (theCode Try.f39) [1, 1, 0, 1, 0] (retK tab (T_laws_toOpS_sg N) Try.f39.results.toList some))) else none) := by kernel_rfl
  rw [h]
  (try simp only [T_laws_toOpS_lp0_eq, T_laws_toOpS_c1]) <;> rfl

theorem T_laws_toOpS_ok (N : Nat) : chkBody Try.f39 (T_laws_toOpS_sg N).ps = true := by kernel_rfl

theorem T_laws_toOpS_callable : Callable Try.prog 39 := callable_of Try.func39 (show chkFn Try.f39 = true by kernel_rfl)

theorem T_laws_toOpS_good (N : Nat) : Good Try.prog 39 (T_laws_toOpS_sg N) :=
  good_body mixedOk tabOk (ctx_cons (T_laws_toOp_good N) T_laws_toOp_callable ctx_nil) Try.func39 (T_laws_toOpS_ok N) (fun d _ h => ⟨N, (T_laws_toOpS_den N d.1).trans h⟩)

noncomputable def T_laws_toIntS_sg (N : Nat) : Sig := Sig.of [.v (.slice (.int .i64)) false] [.v (.own (.int .i64)) false] (fun d => T_laws_toIntS N d.1)

def T_laws_toIntS_ann : Nat → List Ghost
  | 3 => [.canon [0, 3, 4, 11]]
  | 4 => [.canon [0, 3, 4]]
  | 5 => [.canon [0, 3, 4]]
  | 100003 => [.canon [0, 3, 4]]
  | _ => []

noncomputable def T_laws_toIntS_ctx (N : Nat) : Ctx := []

def T_laws_toIntS_lp0_sh (a2 : List Int) (i3 : Int) (l4 : List Int) : St := { env := [(0, .s (.one (.val (.slice (.int .i64)) (a2 : List Int)))), (3, .s (.one (.own 0))), (4, .s (.one (.val (.int .i64) (i3 : Int))))], objs := [(0, .arr (.int .i64) (l4 : List Int))], nx := 1 }

def T_laws_toIntS_lp0_e0 (a2 : List Int) (i5 : Int) (t6 : Bool) (l7 : List Int) : St := { env := [(0, .s (.one (.val (.slice (.int .i64)) (a2 : List Int)))), (3, .s (.one (.own 0))), (4, .s (.one (.val (.int .i64) (i5 : Int)))), (11, .s (.one (.val (.bool) (t6 : Bool))))], objs := [(0, .arr (.int .i64) (l7 : List Int))], nx := 1 }

noncomputable def T_laws_toIntS_lp0_m (N : Nat) {R : Type} (n : Nat) (st : St) (K : Ex → St → Option R) : Option R := loopN (roundG (T_laws_toIntS_ann 100003) fun st k => sx tab (T_laws_toIntS_ctx N) T_laws_toIntS_ann N (nthLoop Try.f40 0) st k) n st K

theorem T_laws_toIntS_lp0_step (N : Nat) {R : Type} (n : Nat) (K : Ex → St → Option R) (a2 : List Int) (i3 : Int) (l4 : List Int) :
    T_laws_toIntS_lp0_m N (n + 1) (T_laws_toIntS_lp0_sh a2 i3 l4) K =
    (bif decide (i3 < (ilen a2)) then
 (bif inb i3 (List.length a2) then
 (bif inb i3 (List.length l4) then
 (T_laws_toIntS_lp0_m N n (T_laws_toIntS_lp0_sh a2 (iadd .i64 i3 (1 : Int)) (List.set l4 (Int.toNat i3) (List.getD a2 (Int.toNat i3) (0 : Int)))) K) else none) else none)
 else
 (K (.exit 0) (T_laws_toIntS_lp0_e0 a2 i3 (decide (i3 < (ilen a2))) l4))) := by kernel_rfl

theorem T_laws_toIntS_lp0_eq (N : Nat) {R : Type} (a2 : List Int) (K : Ex → St → Option R) : ∀ (n : Nat) (i3 : Int) (l4 : List Int), T_laws_toIntS_lp0_m N n (T_laws_toIntS_lp0_sh a2 i3 l4) K = T_laws_toIntS_lp0 N a2 (fun i5 t6 l7 => (K (.exit 0) (T_laws_toIntS_lp0_e0 a2 i5 t6 l7))) n i3 l4
  | 0, _, _ => rfl
  | n + 1, i3, l4 => by rw [T_laws_toIntS_lp0_step, T_laws_toIntS_lp0]; (try simp only [T_laws_toIntS_lp0_eq N a2 K n])

theorem T_laws_toIntS_c1 (N : Nat) (a1 : List Int) (i8 : Int) (t9 : Bool) (l10 : List Int) :
    ((ctxK (R := ODen (T_laws_toIntS_sg N).ps × RDen (T_laws_toIntS_sg N).rs) tab (T_laws_toIntS_ctx N) T_laws_toIntS_ann N (theCode Try.f40) [1, 1, 0, 1, 0] (retK tab (T_laws_toIntS_sg N) Try.f40.results.toList some)) (.exit 0) (T_laws_toIntS_lp0_e0 a1 i8 t9 l10)) =
    (some (α := ODen (T_laws_toIntS_sg N).ps × RDen (T_laws_toIntS_sg N).rs) ((), (l10, ()))) := by kernel_rfl

theorem T_laws_toIntS_den (N : Nat) (a1 : List Int) :
    den (R := ODen (T_laws_toIntS_sg N).ps × RDen (T_laws_toIntS_sg N).rs) tab (T_laws_toIntS_ctx N) T_laws_toIntS_ann N (T_laws_toIntS_sg N) Try.f40 (a1, ()) some =
    (bif ((decide ((0 : Int) ≤ (ilen a1))) && (decide ((ilen a1) ≤ (ilen a1)))) && (room (Int.toNat (ilen a1))) then
 (T_laws_toIntS_lp0 N a1
 (fun i8 t9 l10 =>
   (some (α := ODen (T_laws_toIntS_sg N).ps × RDen (T_laws_toIntS_sg N).rs) ((), (l10, ()))))
  N (0 : Int) (List.replicate (Int.toNat (ilen a1)) (0 : Int))) else none) := by
  have h : den (R := ODen (T_laws_toIntS_sg N).ps × RDen (T_laws_toIntS_sg N).rs) tab (T_laws_toIntS_ctx N) T_laws_toIntS_ann N (T_laws_toIntS_sg N) Try.f40 (a1, ()) some =
    (bif ((decide ((0 : Int) ≤ (ilen a1))) && (decide ((ilen a1) ≤ (ilen a1)))) && (room (Int.toNat (ilen a1))) then
 (T_laws_toIntS_lp0_m N N (T_laws_toIntS_lp0_sh a1 (0 : Int) (List.replicate (Int.toNat (ilen a1)) (0 : Int))) (ctxK (R := ODen (T_laws_toIntS_sg N).ps × RDen (T_laws_toIntS_sg N).rs) tab (T_laws_toIntS_ctx N) T_laws_toIntS_ann N (theCode Try.f40) [1, 1, 0, 1, 0] (retK tab (T_laws_toIntS_sg N) Try.f40.results.toList some))) else none) := by kernel_rfl
  rw [h]
  (try simp only [T_laws_toIntS_lp0_eq, T_laws_toIntS_c1]) <;> rfl

theorem T_laws_toIntS_ok (N : Nat) : chkBody Try.f40 (T_laws_toIntS_sg N).ps = true := by kernel_rfl

theorem T_laws_toIntS_callable : Callable Try.prog 40 := callable_of Try.func40 (show chkFn Try.f40 = true by kernel_rfl)

theorem T_laws_toIntS_good (N : Nat) : Good Try.prog 40 (T_laws_toIntS_sg N) :=
  good_body mixedOk tabOk ctx_nil Try.func40 (T_laws_toIntS_ok N) (fun d _ h => ⟨N, (T_laws_toIntS_den N d.1).trans h⟩)

noncomputable def T_spec_l1In_sg (N : Nat) : Sig := Sig.of [.v (.int .i64) false, .v (.int .i64) false, .v (.int .i64) false] [.v (.bool) false] (fun d => T_spec_l1In N d.1 d.2.1 d.2.2.1)

def T_spec_l1In_ann : Nat → List Ghost
  | _ => []

noncomputable def T_spec_l1In_ctx (N : Nat) : Ctx := []

theorem T_spec_l1In_den (N : Nat) (x1 : Int) (low2 : Int) (high3 : Int) :
    den (R := ODen (T_spec_l1In_sg N).ps × RDen (T_spec_l1In_sg N).rs) tab (T_spec_l1In_ctx N) T_spec_l1In_ann N (T_spec_l1In_sg N) Try.f57 (x1, low2, high3, ()) some =
    (T_spec_l1In N x1 low2 high3 : Option (ODen (T_spec_l1In_sg N).ps × RDen (T_spec_l1In_sg N).rs)) := by kernel_rfl

theorem T_spec_l1In_ok (N : Nat) : chkBody Try.f57 (T_spec_l1In_sg N).ps = true := by kernel_rfl

theorem T_spec_l1In_callable : Callable Try.prog 57 := callable_of Try.func57 (show chkFn Try.f57 = true by kernel_rfl)

theorem T_spec_l1In_good (N : Nat) : Good Try.prog 57 (T_spec_l1In_sg N) :=
  good_body mixedOk tabOk ctx_nil Try.func57 (T_spec_l1In_ok N) (fun d _ h => ⟨N, (T_spec_l1In_den N d.1 d.2.1 d.2.2.1).trans h⟩)

noncomputable def T_spec_l4Reg_sg (N : Nat) : Sig := Sig.of [.v (.int .i64) false] [.v (.bool) false] (fun d => T_spec_l4Reg N d.1)

def T_spec_l4Reg_ann : Nat → List Ghost
  | _ => []

noncomputable def T_spec_l4Reg_ctx (N : Nat) : Ctx := [(57, T_spec_l1In_sg N)]

theorem T_spec_l4Reg_den (N : Nat) (i1 : Int) :
    den (R := ODen (T_spec_l4Reg_sg N).ps × RDen (T_spec_l4Reg_sg N).rs) tab (T_spec_l4Reg_ctx N) T_spec_l4Reg_ann N (T_spec_l4Reg_sg N) Try.f172 (i1, ()) some =
    (T_spec_l4Reg N i1 : Option (ODen (T_spec_l4Reg_sg N).ps × RDen (T_spec_l4Reg_sg N).rs)) := by kernel_rfl

theorem T_spec_l4Reg_ok (N : Nat) : chkBody Try.f172 (T_spec_l4Reg_sg N).ps = true := by kernel_rfl

theorem T_spec_l4Reg_callable : Callable Try.prog 172 := callable_of Try.func172 (show chkFn Try.f172 = true by kernel_rfl)

theorem T_spec_l4Reg_good (N : Nat) : Good Try.prog 172 (T_spec_l4Reg_sg N) :=
  good_body mixedOk tabOk (ctx_cons (T_spec_l1In_good N) T_spec_l1In_callable ctx_nil) Try.func172 (T_spec_l4Reg_ok N) (fun d _ h => ⟨N, (T_spec_l4Reg_den N d.1).trans h⟩)

noncomputable def T_spec_l3Val_sg (N : Nat) : Sig := Sig.of [.v (.int .i64) false] [.v (.bool) false] (fun d => T_spec_l3Val N d.1)

def T_spec_l3Val_ann : Nat → List Ghost
  | _ => []

noncomputable def T_spec_l3Val_ctx (N : Nat) : Ctx := [(57, T_spec_l1In_sg N)]

theorem T_spec_l3Val_den (N : Nat) (v1 : Int) :
    den (R := ODen (T_spec_l3Val_sg N).ps × RDen (T_spec_l3Val_sg N).rs) tab (T_spec_l3Val_ctx N) T_spec_l3Val_ann N (T_spec_l3Val_sg N) Try.f134 (v1, ()) some =
    (T_spec_l3Val N v1 : Option (ODen (T_spec_l3Val_sg N).ps × RDen (T_spec_l3Val_sg N).rs)) := by kernel_rfl

theorem T_spec_l3Val_ok (N : Nat) : chkBody Try.f134 (T_spec_l3Val_sg N).ps = true := by kernel_rfl

theorem T_spec_l3Val_callable : Callable Try.prog 134 := callable_of Try.func134 (show chkFn Try.f134 = true by kernel_rfl)

theorem T_spec_l3Val_good (N : Nat) : Good Try.prog 134 (T_spec_l3Val_sg N) :=
  good_body mixedOk tabOk (ctx_cons (T_spec_l1In_good N) T_spec_l1In_callable ctx_nil) Try.func134 (T_spec_l3Val_ok N) (fun d _ h => ⟨N, (T_spec_l3Val_den N d.1).trans h⟩)

noncomputable def T_spec_l3Cell_sg (N : Nat) : Sig := Sig.of [.v (.int .i64) false] [.v (.bool) false] (fun d => T_spec_l3Cell N d.1)

def T_spec_l3Cell_ann : Nat → List Ghost
  | _ => []

noncomputable def T_spec_l3Cell_ctx (N : Nat) : Ctx := [(57, T_spec_l1In_sg N)]

theorem T_spec_l3Cell_den (N : Nat) (i1 : Int) :
    den (R := ODen (T_spec_l3Cell_sg N).ps × RDen (T_spec_l3Cell_sg N).rs) tab (T_spec_l3Cell_ctx N) T_spec_l3Cell_ann N (T_spec_l3Cell_sg N) Try.f133 (i1, ()) some =
    (T_spec_l3Cell N i1 : Option (ODen (T_spec_l3Cell_sg N).ps × RDen (T_spec_l3Cell_sg N).rs)) := by kernel_rfl

theorem T_spec_l3Cell_ok (N : Nat) : chkBody Try.f133 (T_spec_l3Cell_sg N).ps = true := by kernel_rfl

theorem T_spec_l3Cell_callable : Callable Try.prog 133 := callable_of Try.func133 (show chkFn Try.f133 = true by kernel_rfl)

theorem T_spec_l3Cell_good (N : Nat) : Good Try.prog 133 (T_spec_l3Cell_sg N) :=
  good_body mixedOk tabOk (ctx_cons (T_spec_l1In_good N) T_spec_l1In_callable ctx_nil) Try.func133 (T_spec_l3Cell_ok N) (fun d _ h => ⟨N, (T_spec_l3Cell_den N d.1).trans h⟩)

noncomputable def T_spec_OpOk_sg (N : Nat) : Sig := Sig.of [.v (.prod (.int .i64) (.prod (.int .i64) (.prod (.int .i64) (.int .i64)))) true] [.v (.bool) false] (fun d => T_spec_OpOk N d.1)

def T_spec_OpOk_ann : Nat → List Ghost
  | _ => []

noncomputable def T_spec_OpOk_ctx (N : Nat) : Ctx := [(172, T_spec_l4Reg_sg N), (134, T_spec_l3Val_sg N), (133, T_spec_l3Cell_sg N), (57, T_spec_l1In_sg N)]

theorem T_spec_OpOk_den (N : Nat) (o1 : Int × Int × Int × Int) :
    den (R := ODen (T_spec_OpOk_sg N).ps × RDen (T_spec_OpOk_sg N).rs) tab (T_spec_OpOk_ctx N) T_spec_OpOk_ann N (T_spec_OpOk_sg N) Try.f148 (o1, ()) some =
    (T_spec_OpOk N o1 : Option (ODen (T_spec_OpOk_sg N).ps × RDen (T_spec_OpOk_sg N).rs)) := by kernel_rfl

theorem T_spec_OpOk_ok (N : Nat) : chkBody Try.f148 (T_spec_OpOk_sg N).ps = true := by kernel_rfl

theorem T_spec_OpOk_callable : Callable Try.prog 148 := callable_of Try.func148 (show chkFn Try.f148 = true by kernel_rfl)

theorem T_spec_OpOk_good (N : Nat) : Good Try.prog 148 (T_spec_OpOk_sg N) :=
  good_body mixedOk tabOk (ctx_cons (T_spec_l4Reg_good N) T_spec_l4Reg_callable (ctx_cons (T_spec_l3Val_good N) T_spec_l3Val_callable (ctx_cons (T_spec_l3Cell_good N) T_spec_l3Cell_callable (ctx_cons (T_spec_l1In_good N) T_spec_l1In_callable ctx_nil)))) Try.func148 (T_spec_OpOk_ok N) (fun d _ h => ⟨N, (T_spec_OpOk_den N d.1).trans h⟩)

noncomputable def T_spec_l5Skip_sg (N : Nat) : Sig := Sig.of [.v (.slice (.prod (.int .i64) (.prod (.int .i64) (.prod (.int .i64) (.int .i64))))) false, .v (.int .i64) false] [.v (.bool) false] (fun d => T_spec_l5Skip N d.1 d.2.1)

def T_spec_l5Skip_ann : Nat → List Ghost
  | 6 => [.canon [0, 5, 6, 7, 24]]
  | 7 => [.canon [0, 5, 6, 7]]
  | 8 => [.canon [0, 5, 6, 7, 32]]
  | 9 => [.canon [0, 5, 6, 7]]
  | 10 => [.canon [0, 5, 6, 7, 40]]
  | 11 => [.canon [0, 5, 6, 7]]
  | 12 => [.canon [0, 5, 6, 7, 44]]
  | 13 => [.canon [4]]
  | 100006 => [.canon [0, 5, 6, 7]]
  | _ => []

noncomputable def T_spec_l5Skip_ctx (N : Nat) : Ctx := []

def T_spec_l5Skip_lp0_sh (code3 : List (Int × Int × Int × Int)) (to4 : Int) (d5 : Int) (k6 : Int) : St := { env := [(0, .s (.one (.val (.slice (.prod (.int .i64) (.prod (.int .i64) (.prod (.int .i64) (.int .i64))))) (code3 : List (Int × Int × Int × Int))))), (5, .s (.one (.val (.int .i64) (to4 : Int)))), (6, .s (.one (.val (.int .i64) (d5 : Int)))), (7, .s (.one (.val (.int .i64) (k6 : Int))))], objs := [], nx := 0 }

def T_spec_l5Skip_lp0_e0 (code3 : List (Int × Int × Int × Int)) (to4 : Int) : St := { env := [(4, .s (.one (.val (.bool) (false : Bool))))], objs := [], nx := 0 }

def T_spec_l5Skip_lp0_e1 (code3 : List (Int × Int × Int × Int)) (to4 : Int) (d7 : Int) (k8 : Int) (t9 : Bool) : St := { env := [(0, .s (.one (.val (.slice (.prod (.int .i64) (.prod (.int .i64) (.prod (.int .i64) (.int .i64))))) (code3 : List (Int × Int × Int × Int))))), (5, .s (.one (.val (.int .i64) (to4 : Int)))), (6, .s (.one (.val (.int .i64) (d7 : Int)))), (7, .s (.one (.val (.int .i64) (k8 : Int)))), (24, .s (.one (.val (.bool) (t9 : Bool))))], objs := [], nx := 0 }

noncomputable def T_spec_l5Skip_lp0_m (N : Nat) {R : Type} (n : Nat) (st : St) (K : Ex → St → Option R) : Option R := loopN (roundG (T_spec_l5Skip_ann 100006) fun st k => sx tab (T_spec_l5Skip_ctx N) T_spec_l5Skip_ann N (nthLoop Try.f171 0) st k) n st K

theorem T_spec_l5Skip_lp0_step (N : Nat) {R : Type} (n : Nat) (K : Ex → St → Option R) (code3 : List (Int × Int × Int × Int)) (to4 : Int) (d5 : Int) (k6 : Int) :
    T_spec_l5Skip_lp0_m N (n + 1) (T_spec_l5Skip_lp0_sh code3 to4 d5 k6) K =
    (bif decide (k6 < to4) then
 (bif inb k6 (List.length code3) then
 (bif (List.getD code3 (Int.toNat k6) ((0 : Int), ((0 : Int), ((0 : Int), (0 : Int))))).1 == (8 : Int) then
 (bif inb k6 (List.length code3) then
 (bif (List.getD code3 (Int.toNat k6) ((0 : Int), ((0 : Int), ((0 : Int), (0 : Int))))).1 == (9 : Int) then
 (bif decide ((isub .i64 (iadd .i64 d5 (1 : Int)) (1 : Int)) < (0 : Int)) then
 (K .ret (T_spec_l5Skip_lp0_e0 code3 to4))
 else
 (T_spec_l5Skip_lp0_m N n (T_spec_l5Skip_lp0_sh code3 to4 (isub .i64 (iadd .i64 d5 (1 : Int)) (1 : Int)) (iadd .i64 k6 (1 : Int))) K))
 else
 (bif decide ((iadd .i64 d5 (1 : Int)) < (0 : Int)) then
 (K .ret (T_spec_l5Skip_lp0_e0 code3 to4))
 else
 (T_spec_l5Skip_lp0_m N n (T_spec_l5Skip_lp0_sh code3 to4 (iadd .i64 d5 (1 : Int)) (iadd .i64 k6 (1 : Int))) K))) else none)
 else
 (bif inb k6 (List.length code3) then
 (bif (List.getD code3 (Int.toNat k6) ((0 : Int), ((0 : Int), ((0 : Int), (0 : Int))))).1 == (9 : Int) then
 (bif decide ((isub .i64 d5 (1 : Int)) < (0 : Int)) then
 (K .ret (T_spec_l5Skip_lp0_e0 code3 to4))
 else
 (T_spec_l5Skip_lp0_m N n (T_spec_l5Skip_lp0_sh code3 to4 (isub .i64 d5 (1 : Int)) (iadd .i64 k6 (1 : Int))) K))
 else
 (bif decide (d5 < (0 : Int)) then
 (K .ret (T_spec_l5Skip_lp0_e0 code3 to4))
 else
 (T_spec_l5Skip_lp0_m N n (T_spec_l5Skip_lp0_sh code3 to4 d5 (iadd .i64 k6 (1 : Int))) K))) else none)) else none)
 else
 (K (.exit 0) (T_spec_l5Skip_lp0_e1 code3 to4 d5 k6 (decide (k6 < to4))))) := by kernel_rfl

theorem T_spec_l5Skip_lp0_eq (N : Nat) {R : Type} (code3 : List (Int × Int × Int × Int)) (to4 : Int) (K : Ex → St → Option R) : ∀ (n : Nat) (d5 : Int) (k6 : Int), T_spec_l5Skip_lp0_m N n (T_spec_l5Skip_lp0_sh code3 to4 d5 k6) K = T_spec_l5Skip_lp0 N code3 to4 (K .ret (T_spec_l5Skip_lp0_e0 code3 to4)) (fun d7 k8 t9 => (K (.exit 0) (T_spec_l5Skip_lp0_e1 code3 to4 d7 k8 t9))) n d5 k6
  | 0, _, _ => rfl
  | n + 1, d5, k6 => by rw [T_spec_l5Skip_lp0_step, T_spec_l5Skip_lp0]; (try simp only [T_spec_l5Skip_lp0_eq N code3 to4 K n])

theorem T_spec_l5Skip_c1 (N : Nat) (code1 : List (Int × Int × Int × Int)) (i2 : Int) :
    ((ctxK (R := ODen (T_spec_l5Skip_sg N).ps × RDen (T_spec_l5Skip_sg N).rs) tab (T_spec_l5Skip_ctx N) T_spec_l5Skip_ann N (theCode Try.f171) [1, 1, 1, 1, 0, 1, 0] (retK tab (T_spec_l5Skip_sg N) Try.f171.results.toList some)) .ret (T_spec_l5Skip_lp0_e0 code1 (iadd .i64 (iadd .i64 i2 (1 : Int)) (List.getD code1 (Int.toNat i2) ((0 : Int), ((0 : Int), ((0 : Int), (0 : Int))))).2.2.1))) =
    (some (α := ODen (T_spec_l5Skip_sg N).ps × RDen (T_spec_l5Skip_sg N).rs) ((), (false, ()))) := by kernel_rfl

theorem T_spec_l5Skip_c2 (N : Nat) (code1 : List (Int × Int × Int × Int)) (i2 : Int) (d10 : Int) (k11 : Int) (t12 : Bool) :
    ((ctxK (R := ODen (T_spec_l5Skip_sg N).ps × RDen (T_spec_l5Skip_sg N).rs) tab (T_spec_l5Skip_ctx N) T_spec_l5Skip_ann N (theCode Try.f171) [1, 1, 1, 1, 0, 1, 0] (retK tab (T_spec_l5Skip_sg N) Try.f171.results.toList some)) (.exit 0) (T_spec_l5Skip_lp0_e1 code1 (iadd .i64 (iadd .i64 i2 (1 : Int)) (List.getD code1 (Int.toNat i2) ((0 : Int), ((0 : Int), ((0 : Int), (0 : Int))))).2.2.1) d10 k11 t12)) =
    (some (α := ODen (T_spec_l5Skip_sg N).ps × RDen (T_spec_l5Skip_sg N).rs) ((), (d10 == (0 : Int), ()))) := by kernel_rfl

theorem T_spec_l5Skip_den (N : Nat) (code1 : List (Int × Int × Int × Int)) (i2 : Int) :
    den (R := ODen (T_spec_l5Skip_sg N).ps × RDen (T_spec_l5Skip_sg N).rs) tab (T_spec_l5Skip_ctx N) T_spec_l5Skip_ann N (T_spec_l5Skip_sg N) Try.f171 (code1, i2, ()) some =
    (bif inb i2 (List.length code1) then
 (bif decide ((iadd .i64 (iadd .i64 i2 (1 : Int)) (List.getD code1 (Int.toNat i2) ((0 : Int), ((0 : Int), ((0 : Int), (0 : Int))))).2.2.1) > (ilen code1)) then
 (some (α := ODen (T_spec_l5Skip_sg N).ps × RDen (T_spec_l5Skip_sg N).rs) ((), (false, ())))
 else
 (T_spec_l5Skip_lp0 N code1 (iadd .i64 (iadd .i64 i2 (1 : Int)) (List.getD code1 (Int.toNat i2) ((0 : Int), ((0 : Int), ((0 : Int), (0 : Int))))).2.2.1)
 (some (α := ODen (T_spec_l5Skip_sg N).ps × RDen (T_spec_l5Skip_sg N).rs) ((), (false, ())))
 (fun d10 k11 t12 =>
   (some (α := ODen (T_spec_l5Skip_sg N).ps × RDen (T_spec_l5Skip_sg N).rs) ((), (d10 == (0 : Int), ()))))
  N (0 : Int) (iadd .i64 i2 (1 : Int)))) else none) := by
  have h : den (R := ODen (T_spec_l5Skip_sg N).ps × RDen (T_spec_l5Skip_sg N).rs) tab (T_spec_l5Skip_ctx N) T_spec_l5Skip_ann N (T_spec_l5Skip_sg N) Try.f171 (code1, i2, ()) some =
    (bif inb i2 (List.length code1) then
 (bif decide ((iadd .i64 (iadd .i64 i2 (1 : Int)) (List.getD code1 (Int.toNat i2) ((0 : Int), ((0 : Int), ((0 : Int), (0 : Int))))).2.2.1) > (ilen code1)) then
 (some (α := ODen (T_spec_l5Skip_sg N).ps × RDen (T_spec_l5Skip_sg N).rs) ((), (false, ())))
 else
 (T_spec_l5Skip_lp0_m N N (T_spec_l5Skip_lp0_sh code1 (iadd .i64 (iadd .i64 i2 (1 : Int)) (List.getD code1 (Int.toNat i2) ((0 : Int), ((0 : Int), ((0 : Int), (0 : Int))))).2.2.1) (0 : Int) (iadd .i64 i2 (1 : Int))) (ctxK (R := ODen (T_spec_l5Skip_sg N).ps × RDen (T_spec_l5Skip_sg N).rs) tab (T_spec_l5Skip_ctx N) T_spec_l5Skip_ann N (theCode Try.f171) [1, 1, 1, 1, 0, 1, 0] (retK tab (T_spec_l5Skip_sg N) Try.f171.results.toList some)))) else none) := by kernel_rfl
  rw [h]
  (try simp only [T_spec_l5Skip_lp0_eq, T_spec_l5Skip_c1, T_spec_l5Skip_c2]) <;> rfl

theorem T_spec_l5Skip_ok (N : Nat) : chkBody Try.f171 (T_spec_l5Skip_sg N).ps = true := by kernel_rfl

theorem T_spec_l5Skip_callable : Callable Try.prog 171 := callable_of Try.func171 (show chkFn Try.f171 = true by kernel_rfl)

theorem T_spec_l5Skip_good (N : Nat) : Good Try.prog 171 (T_spec_l5Skip_sg N) :=
  good_body mixedOk tabOk ctx_nil Try.func171 (T_spec_l5Skip_ok N) (fun d _ h => ⟨N, (T_spec_l5Skip_den N d.1 d.2.1).trans h⟩)

noncomputable def T_spec_CodeOk_sg (N : Nat) : Sig := Sig.of [.v (.slice (.prod (.int .i64) (.prod (.int .i64) (.prod (.int .i64) (.int .i64))))) false] [.v (.bool) false] (fun d => T_spec_CodeOk N d.1)

def T_spec_CodeOk_ann : Nat → List Ghost
  | 6 => [.canon [0, 3, 4, 5, 12]]
  | 7 => [.canon [0, 3, 4, 5]]
  | 8 => [.canon [0, 3, 4, 5, 20]]
  | 9 => [.canon [2]]
  | 10 => [.canon [0, 3, 4, 5, 25]]
  | 11 => [.canon [0, 3, 4, 5, 25, 26]]
  | 12 => [.canon [0, 3, 4, 5]]
  | 13 => [.canon [0, 3, 4, 5, 25, 30]]
  | 14 => [.canon [0, 3, 4, 5]]
  | 15 => [.canon [0, 3, 4, 5, 25, 34]]
  | 16 => [.canon [0, 3, 4, 5, 39]]
  | 17 => [.canon [2]]
  | 18 => [.canon [0, 3, 4, 5, 40]]
  | 19 => [.canon [0, 3, 4, 5]]
  | 20 => [.canon [0, 3, 4, 5, 49]]
  | 21 => [.canon [2]]
  | 22 => [.canon [0, 3, 4, 5, 51]]
  | 23 => [.canon [2]]
  | 100006 => [.canon [0, 3, 4, 5]]
  | _ => []

noncomputable def T_spec_CodeOk_ctx (N : Nat) : Ctx := [(148, T_spec_OpOk_sg N), (171, T_spec_l5Skip_sg N)]

def T_spec_CodeOk_lp0_sh (code2 : List (Int × Int × Int × Int)) (d3 : Int) (forks4 : Int) (i5 : Int) : St := { env := [(0, .s (.one (.val (.slice (.prod (.int .i64) (.prod (.int .i64) (.prod (.int .i64) (.int .i64))))) (code2 : List (Int × Int × Int × Int))))), (3, .s (.one (.val (.int .i64) (d3 : Int)))), (4, .s (.one (.val (.int .i64) (forks4 : Int)))), (5, .s (.one (.val (.int .i64) (i5 : Int))))], objs := [], nx := 0 }

def T_spec_CodeOk_lp0_e0 (code2 : List (Int × Int × Int × Int)) : St := { env := [(2, .s (.one (.val (.bool) (false : Bool))))], objs := [], nx := 0 }

def T_spec_CodeOk_lp0_e1 (code2 : List (Int × Int × Int × Int)) (d8 : Int) (forks9 : Int) (i10 : Int) (t11 : Bool) : St := { env := [(0, .s (.one (.val (.slice (.prod (.int .i64) (.prod (.int .i64) (.prod (.int .i64) (.int .i64))))) (code2 : List (Int × Int × Int × Int))))), (3, .s (.one (.val (.int .i64) (d8 : Int)))), (4, .s (.one (.val (.int .i64) (forks9 : Int)))), (5, .s (.one (.val (.int .i64) (i10 : Int)))), (12, .s (.one (.val (.bool) (t11 : Bool))))], objs := [], nx := 0 }

noncomputable def T_spec_CodeOk_lp0_m (N : Nat) {R : Type} (n : Nat) (st : St) (K : Ex → St → Option R) : Option R := loopN (roundG (T_spec_CodeOk_ann 100006) fun st k => sx tab (T_spec_CodeOk_ctx N) T_spec_CodeOk_ann N (nthLoop Try.f144 0) st k) n st K

theorem T_spec_CodeOk_lp0_step (N : Nat) {R : Type} (n : Nat) (K : Ex → St → Option R) (code2 : List (Int × Int × Int × Int)) (d3 : Int) (forks4 : Int) (i5 : Int) :
    T_spec_CodeOk_lp0_m N (n + 1) (T_spec_CodeOk_lp0_sh code2 d3 forks4 i5) K =
    (bif decide (i5 < (ilen code2)) then
 (bif inb i5 (List.length code2) then
 ((T_spec_OpOk N (List.getD code2 (Int.toNat i5) ((0 : Int), ((0 : Int), ((0 : Int), (0 : Int)))))).bind fun o12 =>
 (bif !o12.2.1 then
 (K .ret (T_spec_CodeOk_lp0_e0 code2))
 else
 (bif inb i5 (List.length code2) then
 (bif (List.getD code2 (Int.toNat i5) ((0 : Int), ((0 : Int), ((0 : Int), (0 : Int))))).1 == (8 : Int) then
 (bif decide ((iadd .i64 d3 (1 : Int)) < (0 : Int)) then
 (K .ret (T_spec_CodeOk_lp0_e0 code2))
 else
 (T_spec_CodeOk_lp0_m N n (T_spec_CodeOk_lp0_sh code2 (iadd .i64 d3 (1 : Int)) forks4 (iadd .i64 i5 (1 : Int))) K))
 else
 (bif (List.getD code2 (Int.toNat i5) ((0 : Int), ((0 : Int), ((0 : Int), (0 : Int))))).1 == (9 : Int) then
 (bif decide ((isub .i64 d3 (1 : Int)) < (0 : Int)) then
 (K .ret (T_spec_CodeOk_lp0_e0 code2))
 else
 (T_spec_CodeOk_lp0_m N n (T_spec_CodeOk_lp0_sh code2 (isub .i64 d3 (1 : Int)) forks4 (iadd .i64 i5 (1 : Int))) K))
 else
 (bif (List.getD code2 (Int.toNat i5) ((0 : Int), ((0 : Int), ((0 : Int), (0 : Int))))).1 == (7 : Int) then
 ((T_spec_l5Skip N code2 i5).bind fun o13 =>
 (bif !o13.2.1 then
 (K .ret (T_spec_CodeOk_lp0_e0 code2))
 else
 (bif decide (d3 < (0 : Int)) then
 (K .ret (T_spec_CodeOk_lp0_e0 code2))
 else
 (T_spec_CodeOk_lp0_m N n (T_spec_CodeOk_lp0_sh code2 d3 forks4 (iadd .i64 i5 (1 : Int))) K))))
 else
 (bif (List.getD code2 (Int.toNat i5) ((0 : Int), ((0 : Int), ((0 : Int), (0 : Int))))).1 == (11 : Int) then
 (bif decide (d3 > (0 : Int)) then
 (K .ret (T_spec_CodeOk_lp0_e0 code2))
 else
 (bif decide ((iadd .i64 forks4 (1 : Int)) > (1 : Int)) then
 (K .ret (T_spec_CodeOk_lp0_e0 code2))
 else
 (bif decide (d3 < (0 : Int)) then
 (K .ret (T_spec_CodeOk_lp0_e0 code2))
 else
 (T_spec_CodeOk_lp0_m N n (T_spec_CodeOk_lp0_sh code2 d3 (iadd .i64 forks4 (1 : Int)) (iadd .i64 i5 (1 : Int))) K))))
 else
 (bif decide (d3 < (0 : Int)) then
 (K .ret (T_spec_CodeOk_lp0_e0 code2))
 else
 (T_spec_CodeOk_lp0_m N n (T_spec_CodeOk_lp0_sh code2 d3 forks4 (iadd .i64 i5 (1 : Int))) K)))))) else none))) else none)
 else
 (K (.exit 0) (T_spec_CodeOk_lp0_e1 code2 d3 forks4 i5 (decide (i5 < (ilen code2)))))) := by kernel_rfl

theorem T_spec_CodeOk_lp0_eq (N : Nat) {R : Type} (code2 : List (Int × Int × Int × Int)) (K : Ex → St → Option R) : ∀ (n : Nat) (d3 : Int) (forks4 : Int) (i5 : Int), T_spec_CodeOk_lp0_m N n (T_spec_CodeOk_lp0_sh code2 d3 forks4 i5) K = T_spec_CodeOk_lp0 N code2 (K .ret (T_spec_CodeOk_lp0_e0 code2)) (fun d8 forks9 i10 t11 => (K (.exit 0) (T_spec_CodeOk_lp0_e1 code2 d8 forks9 i10 t11))) n d3 forks4 i5
  | 0, _, _, _ => rfl
  | n + 1, d3, forks4, i5 => by rw [T_spec_CodeOk_lp0_step, T_spec_CodeOk_lp0]; (try simp only [T_spec_CodeOk_lp0_eq N code2 K n])

theorem T_spec_CodeOk_c1 (N : Nat) (code1 : List (Int × Int × Int × Int)) :
    ((ctxK (R := ODen (T_spec_CodeOk_sg N).ps × RDen (T_spec_CodeOk_sg N).rs) tab (T_spec_CodeOk_ctx N) T_spec_CodeOk_ann N (theCode Try.f144) [1, 1, 1, 1, 0, 1, 0] (retK tab (T_spec_CodeOk_sg N) Try.f144.results.toList some)) .ret (T_spec_CodeOk_lp0_e0 code1)) =
    (some (α := ODen (T_spec_CodeOk_sg N).ps × RDen (T_spec_CodeOk_sg N).rs) ((), (false, ()))) := by kernel_rfl

theorem T_spec_CodeOk_c2 (N : Nat) (code1 : List (Int × Int × Int × Int)) (d14 : Int) (forks15 : Int) (i16 : Int) (t17 : Bool) :
    ((ctxK (R := ODen (T_spec_CodeOk_sg N).ps × RDen (T_spec_CodeOk_sg N).rs) tab (T_spec_CodeOk_ctx N) T_spec_CodeOk_ann N (theCode Try.f144) [1, 1, 1, 1, 0, 1, 0] (retK tab (T_spec_CodeOk_sg N) Try.f144.results.toList some)) (.exit 0) (T_spec_CodeOk_lp0_e1 code1 d14 forks15 i16 t17)) =
    (some (α := ODen (T_spec_CodeOk_sg N).ps × RDen (T_spec_CodeOk_sg N).rs) ((), (d14 == (0 : Int), ()))) := by kernel_rfl

theorem T_spec_CodeOk_den (N : Nat) (code1 : List (Int × Int × Int × Int)) :
    den (R := ODen (T_spec_CodeOk_sg N).ps × RDen (T_spec_CodeOk_sg N).rs) tab (T_spec_CodeOk_ctx N) T_spec_CodeOk_ann N (T_spec_CodeOk_sg N) Try.f144 (code1, ()) some =
    (bif decide ((ilen code1) > (24 : Int)) then
 (some (α := ODen (T_spec_CodeOk_sg N).ps × RDen (T_spec_CodeOk_sg N).rs) ((), (false, ())))
 else
 (T_spec_CodeOk_lp0 N code1
 (some (α := ODen (T_spec_CodeOk_sg N).ps × RDen (T_spec_CodeOk_sg N).rs) ((), (false, ())))
 (fun d14 forks15 i16 t17 =>
   (some (α := ODen (T_spec_CodeOk_sg N).ps × RDen (T_spec_CodeOk_sg N).rs) ((), (d14 == (0 : Int), ()))))
  N (0 : Int) (0 : Int) (0 : Int))) := by
  have h : den (R := ODen (T_spec_CodeOk_sg N).ps × RDen (T_spec_CodeOk_sg N).rs) tab (T_spec_CodeOk_ctx N) T_spec_CodeOk_ann N (T_spec_CodeOk_sg N) Try.f144 (code1, ()) some =
    (bif decide ((ilen code1) > (24 : Int)) then
 (some (α := ODen (T_spec_CodeOk_sg N).ps × RDen (T_spec_CodeOk_sg N).rs) ((), (false, ())))
 else
 (T_spec_CodeOk_lp0_m N N (T_spec_CodeOk_lp0_sh code1 (0 : Int) (0 : Int) (0 : Int)) (ctxK (R := ODen (T_spec_CodeOk_sg N).ps × RDen (T_spec_CodeOk_sg N).rs) tab (T_spec_CodeOk_ctx N) T_spec_CodeOk_ann N (theCode Try.f144) [1, 1, 1, 1, 0, 1, 0] (retK tab (T_spec_CodeOk_sg N) Try.f144.results.toList some)))) := by kernel_rfl
  rw [h]
  (try simp only [T_spec_CodeOk_lp0_eq, T_spec_CodeOk_c1, T_spec_CodeOk_c2]) <;> rfl

theorem T_spec_CodeOk_ok (N : Nat) : chkBody Try.f144 (T_spec_CodeOk_sg N).ps = true := by kernel_rfl

theorem T_spec_CodeOk_callable : Callable Try.prog 144 := callable_of Try.func144 (show chkFn Try.f144 = true by kernel_rfl)

theorem T_spec_CodeOk_good (N : Nat) : Good Try.prog 144 (T_spec_CodeOk_sg N) :=
  good_body mixedOk tabOk (ctx_cons (T_spec_OpOk_good N) T_spec_OpOk_callable (ctx_cons (T_spec_l5Skip_good N) T_spec_l5Skip_callable ctx_nil)) Try.func144 (T_spec_CodeOk_ok N) (fun d _ h => ⟨N, (T_spec_CodeOk_den N d.1).trans h⟩)

noncomputable def T_spec_HasFork_sg (N : Nat) : Sig := Sig.of [.v (.slice (.prod (.int .i64) (.prod (.int .i64) (.prod (.int .i64) (.int .i64))))) false] [.v (.bool) false] (fun d => T_spec_HasFork N d.1)

def T_spec_HasFork_ann : Nat → List Ghost
  | 2 => [.canon [0, 3, 7]]
  | 3 => [.canon [0, 3]]
  | 4 => [.canon [0, 3, 15]]
  | 5 => [.canon [2]]
  | 100002 => [.canon [0, 3]]
  | _ => []

noncomputable def T_spec_HasFork_ctx (N : Nat) : Ctx := []

def T_spec_HasFork_lp0_sh (code2 : List (Int × Int × Int × Int)) (i3 : Int) : St := { env := [(0, .s (.one (.val (.slice (.prod (.int .i64) (.prod (.int .i64) (.prod (.int .i64) (.int .i64))))) (code2 : List (Int × Int × Int × Int))))), (3, .s (.one (.val (.int .i64) (i3 : Int))))], objs := [], nx := 0 }

def T_spec_HasFork_lp0_e0 (code2 : List (Int × Int × Int × Int)) : St := { env := [(2, .s (.one (.val (.bool) (true : Bool))))], objs := [], nx := 0 }

def T_spec_HasFork_lp0_e1 (code2 : List (Int × Int × Int × Int)) (i4 : Int) (t5 : Bool) : St := { env := [(0, .s (.one (.val (.slice (.prod (.int .i64) (.prod (.int .i64) (.prod (.int .i64) (.int .i64))))) (code2 : List (Int × Int × Int × Int))))), (3, .s (.one (.val (.int .i64) (i4 : Int)))), (7, .s (.one (.val (.bool) (t5 : Bool))))], objs := [], nx := 0 }

noncomputable def T_spec_HasFork_lp0_m (N : Nat) {R : Type} (n : Nat) (st : St) (K : Ex → St → Option R) : Option R := loopN (roundG (T_spec_HasFork_ann 100002) fun st k => sx tab (T_spec_HasFork_ctx N) T_spec_HasFork_ann N (nthLoop Try.f145 0) st k) n st K

theorem T_spec_HasFork_lp0_step (N : Nat) {R : Type} (n : Nat) (K : Ex → St → Option R) (code2 : List (Int × Int × Int × Int)) (i3 : Int) :
    T_spec_HasFork_lp0_m N (n + 1) (T_spec_HasFork_lp0_sh code2 i3) K =
    (bif decide (i3 < (ilen code2)) then
 (bif inb i3 (List.length code2) then
 (bif (List.getD code2 (Int.toNat i3) ((0 : Int), ((0 : Int), ((0 : Int), (0 : Int))))).1 == (11 : Int) then
 (K .ret (T_spec_HasFork_lp0_e0 code2))
 else
 (T_spec_HasFork_lp0_m N n (T_spec_HasFork_lp0_sh code2 (iadd .i64 i3 (1 : Int))) K)) else none)
 else
 (K (.exit 0) (T_spec_HasFork_lp0_e1 code2 i3 (decide (i3 < (ilen code2)))))) := by kernel_rfl

theorem T_spec_HasFork_lp0_eq (N : Nat) {R : Type} (code2 : List (Int × Int × Int × Int)) (K : Ex → St → Option R) : ∀ (n : Nat) (i3 : Int), T_spec_HasFork_lp0_m N n (T_spec_HasFork_lp0_sh code2 i3) K = T_spec_HasFork_lp0 N code2 (K .ret (T_spec_HasFork_lp0_e0 code2)) (fun i4 t5 => (K (.exit 0) (T_spec_HasFork_lp0_e1 code2 i4 t5))) n i3
  | 0, _ => rfl
  | n + 1, i3 => by rw [T_spec_HasFork_lp0_step, T_spec_HasFork_lp0]; (try simp only [T_spec_HasFork_lp0_eq N code2 K n])

theorem T_spec_HasFork_c1 (N : Nat) (code1 : List (Int × Int × Int × Int)) :
    ((ctxK (R := ODen (T_spec_HasFork_sg N).ps × RDen (T_spec_HasFork_sg N).rs) tab (T_spec_HasFork_ctx N) T_spec_HasFork_ann N (theCode Try.f145) [1, 0, 1, 0] (retK tab (T_spec_HasFork_sg N) Try.f145.results.toList some)) .ret (T_spec_HasFork_lp0_e0 code1)) =
    (some (α := ODen (T_spec_HasFork_sg N).ps × RDen (T_spec_HasFork_sg N).rs) ((), (true, ()))) := by kernel_rfl

theorem T_spec_HasFork_c2 (N : Nat) (code1 : List (Int × Int × Int × Int)) (i6 : Int) (t7 : Bool) :
    ((ctxK (R := ODen (T_spec_HasFork_sg N).ps × RDen (T_spec_HasFork_sg N).rs) tab (T_spec_HasFork_ctx N) T_spec_HasFork_ann N (theCode Try.f145) [1, 0, 1, 0] (retK tab (T_spec_HasFork_sg N) Try.f145.results.toList some)) (.exit 0) (T_spec_HasFork_lp0_e1 code1 i6 t7)) =
    (some (α := ODen (T_spec_HasFork_sg N).ps × RDen (T_spec_HasFork_sg N).rs) ((), (false, ()))) := by kernel_rfl

theorem T_spec_HasFork_den (N : Nat) (code1 : List (Int × Int × Int × Int)) :
    den (R := ODen (T_spec_HasFork_sg N).ps × RDen (T_spec_HasFork_sg N).rs) tab (T_spec_HasFork_ctx N) T_spec_HasFork_ann N (T_spec_HasFork_sg N) Try.f145 (code1, ()) some =
    (T_spec_HasFork_lp0 N code1
 (some (α := ODen (T_spec_HasFork_sg N).ps × RDen (T_spec_HasFork_sg N).rs) ((), (true, ())))
 (fun i6 t7 =>
   (some (α := ODen (T_spec_HasFork_sg N).ps × RDen (T_spec_HasFork_sg N).rs) ((), (false, ()))))
  N (0 : Int)) := by
  have h : den (R := ODen (T_spec_HasFork_sg N).ps × RDen (T_spec_HasFork_sg N).rs) tab (T_spec_HasFork_ctx N) T_spec_HasFork_ann N (T_spec_HasFork_sg N) Try.f145 (code1, ()) some =
    (T_spec_HasFork_lp0_m N N (T_spec_HasFork_lp0_sh code1 (0 : Int)) (ctxK (R := ODen (T_spec_HasFork_sg N).ps × RDen (T_spec_HasFork_sg N).rs) tab (T_spec_HasFork_ctx N) T_spec_HasFork_ann N (theCode Try.f145) [1, 0, 1, 0] (retK tab (T_spec_HasFork_sg N) Try.f145.results.toList some))) := by kernel_rfl
  rw [h]
  (try simp only [T_spec_HasFork_lp0_eq, T_spec_HasFork_c1, T_spec_HasFork_c2]) <;> rfl

theorem T_spec_HasFork_ok (N : Nat) : chkBody Try.f145 (T_spec_HasFork_sg N).ps = true := by kernel_rfl

theorem T_spec_HasFork_callable : Callable Try.prog 145 := callable_of Try.func145 (show chkFn Try.f145 = true by kernel_rfl)

theorem T_spec_HasFork_good (N : Nat) : Good Try.prog 145 (T_spec_HasFork_sg N) :=
  good_body mixedOk tabOk ctx_nil Try.func145 (T_spec_HasFork_ok N) (fun d _ h => ⟨N, (T_spec_HasFork_den N d.1).trans h⟩)

noncomputable def T_spec_Touches_sg (N : Nat) : Sig := Sig.of [.v (.prod (.int .i64) (.prod (.int .i64) (.prod (.int .i64) (.int .i64)))) true] [.v (.int .i64) false] (fun d => T_spec_Touches N d.1)

def T_spec_Touches_ann : Nat → List Ghost
  | _ => []

noncomputable def T_spec_Touches_ctx (N : Nat) : Ctx := [(148, T_spec_OpOk_sg N)]

theorem T_spec_Touches_den (N : Nat) (o1 : Int × Int × Int × Int) :
    den (R := ODen (T_spec_Touches_sg N).ps × RDen (T_spec_Touches_sg N).rs) tab (T_spec_Touches_ctx N) T_spec_Touches_ann N (T_spec_Touches_sg N) Try.f146 (o1, ()) some =
    (T_spec_Touches N o1 : Option (ODen (T_spec_Touches_sg N).ps × RDen (T_spec_Touches_sg N).rs)) := by kernel_rfl

theorem T_spec_Touches_ok (N : Nat) : chkBody Try.f146 (T_spec_Touches_sg N).ps = true := by kernel_rfl

theorem T_spec_Touches_callable : Callable Try.prog 146 := callable_of Try.func146 (show chkFn Try.f146 = true by kernel_rfl)

theorem T_spec_Touches_good (N : Nat) : Good Try.prog 146 (T_spec_Touches_sg N) :=
  good_body mixedOk tabOk (ctx_cons (T_spec_OpOk_good N) T_spec_OpOk_callable ctx_nil) Try.func146 (T_spec_Touches_ok N) (fun d _ h => ⟨N, (T_spec_Touches_den N d.1).trans h⟩)

noncomputable def T_spec_KidOk_sg (N : Nat) : Sig := Sig.of [.v (.slice (.prod (.int .i64) (.prod (.int .i64) (.prod (.int .i64) (.int .i64))))) false] [.v (.bool) false] (fun d => T_spec_KidOk N d.1)

def T_spec_KidOk_ann : Nat → List Ghost
  | 4 => [.canon [0, 3, 14]]
  | 5 => [.canon [0, 3]]
  | 6 => [.canon [0, 3, 22]]
  | 7 => [.canon [2]]
  | 100004 => [.canon [0, 3]]
  | _ => []

noncomputable def T_spec_KidOk_ctx (N : Nat) : Ctx := [(144, T_spec_CodeOk_sg N), (145, T_spec_HasFork_sg N), (146, T_spec_Touches_sg N)]

def T_spec_KidOk_lp0_sh (code4 : List (Int × Int × Int × Int)) (i5 : Int) : St := { env := [(0, .s (.one (.val (.slice (.prod (.int .i64) (.prod (.int .i64) (.prod (.int .i64) (.int .i64))))) (code4 : List (Int × Int × Int × Int))))), (3, .s (.one (.val (.int .i64) (i5 : Int))))], objs := [], nx := 0 }

def T_spec_KidOk_lp0_e0 (code4 : List (Int × Int × Int × Int)) : St := { env := [(2, .s (.one (.val (.bool) (false : Bool))))], objs := [], nx := 0 }

def T_spec_KidOk_lp0_e1 (code4 : List (Int × Int × Int × Int)) (i7 : Int) (t8 : Bool) : St := { env := [(0, .s (.one (.val (.slice (.prod (.int .i64) (.prod (.int .i64) (.prod (.int .i64) (.int .i64))))) (code4 : List (Int × Int × Int × Int))))), (3, .s (.one (.val (.int .i64) (i7 : Int)))), (14, .s (.one (.val (.bool) (t8 : Bool))))], objs := [], nx := 0 }

noncomputable def T_spec_KidOk_lp0_m (N : Nat) {R : Type} (n : Nat) (st : St) (K : Ex → St → Option R) : Option R := loopN (roundG (T_spec_KidOk_ann 100004) fun st k => sx tab (T_spec_KidOk_ctx N) T_spec_KidOk_ann N (nthLoop Try.f96 0) st k) n st K

theorem T_spec_KidOk_lp0_step (N : Nat) {R : Type} (n : Nat) (K : Ex → St → Option R) (code4 : List (Int × Int × Int × Int)) (i5 : Int) :
    T_spec_KidOk_lp0_m N (n + 1) (T_spec_KidOk_lp0_sh code4 i5) K =
    (bif decide (i5 < (ilen code4)) then
 (bif inb i5 (List.length code4) then
 ((T_spec_Touches N (List.getD code4 (Int.toNat i5) ((0 : Int), ((0 : Int), ((0 : Int), (0 : Int)))))).bind fun o9 =>
 (bif o9.2.1 == (2 : Int) then
 (K .ret (T_spec_KidOk_lp0_e0 code4))
 else
 (T_spec_KidOk_lp0_m N n (T_spec_KidOk_lp0_sh code4 (iadd .i64 i5 (1 : Int))) K))) else none)
 else
 (K (.exit 0) (T_spec_KidOk_lp0_e1 code4 i5 (decide (i5 < (ilen code4)))))) := by kernel_rfl

theorem T_spec_KidOk_lp0_eq (N : Nat) {R : Type} (code4 : List (Int × Int × Int × Int)) (K : Ex → St → Option R) : ∀ (n : Nat) (i5 : Int), T_spec_KidOk_lp0_m N n (T_spec_KidOk_lp0_sh code4 i5) K = T_spec_KidOk_lp0 N code4 (K .ret (T_spec_KidOk_lp0_e0 code4)) (fun i7 t8 => (K (.exit 0) (T_spec_KidOk_lp0_e1 code4 i7 t8))) n i5
  | 0, _ => rfl
  | n + 1, i5 => by rw [T_spec_KidOk_lp0_step, T_spec_KidOk_lp0]; (try simp only [T_spec_KidOk_lp0_eq N code4 K n])

theorem T_spec_KidOk_c1 (N : Nat) (code1 : List (Int × Int × Int × Int)) :
    ((ctxK (R := ODen (T_spec_KidOk_sg N).ps × RDen (T_spec_KidOk_sg N).rs) tab (T_spec_KidOk_ctx N) T_spec_KidOk_ann N (theCode Try.f96) [1, 1, 0, 1, 0] (retK tab (T_spec_KidOk_sg N) Try.f96.results.toList some)) .ret (T_spec_KidOk_lp0_e0 code1)) =
    (some (α := ODen (T_spec_KidOk_sg N).ps × RDen (T_spec_KidOk_sg N).rs) ((), (false, ()))) := by kernel_rfl

theorem T_spec_KidOk_c2 (N : Nat) (code1 : List (Int × Int × Int × Int)) (i10 : Int) (t11 : Bool) :
    ((ctxK (R := ODen (T_spec_KidOk_sg N).ps × RDen (T_spec_KidOk_sg N).rs) tab (T_spec_KidOk_ctx N) T_spec_KidOk_ann N (theCode Try.f96) [1, 1, 0, 1, 0] (retK tab (T_spec_KidOk_sg N) Try.f96.results.toList some)) (.exit 0) (T_spec_KidOk_lp0_e1 code1 i10 t11)) =
    (some (α := ODen (T_spec_KidOk_sg N).ps × RDen (T_spec_KidOk_sg N).rs) ((), (true, ()))) := by kernel_rfl

theorem T_spec_KidOk_den (N : Nat) (code1 : List (Int × Int × Int × Int)) :
    den (R := ODen (T_spec_KidOk_sg N).ps × RDen (T_spec_KidOk_sg N).rs) tab (T_spec_KidOk_ctx N) T_spec_KidOk_ann N (T_spec_KidOk_sg N) Try.f96 (code1, ()) some =
    ((T_spec_CodeOk N code1).bind fun o2 =>
 (bif !o2.2.1 then
 (some (α := ODen (T_spec_KidOk_sg N).ps × RDen (T_spec_KidOk_sg N).rs) ((), (false, ())))
 else
 ((T_spec_HasFork N code1).bind fun o3 =>
 (bif o3.2.1 then
 (some (α := ODen (T_spec_KidOk_sg N).ps × RDen (T_spec_KidOk_sg N).rs) ((), (false, ())))
 else
 (T_spec_KidOk_lp0 N code1
 (some (α := ODen (T_spec_KidOk_sg N).ps × RDen (T_spec_KidOk_sg N).rs) ((), (false, ())))
 (fun i10 t11 =>
   (some (α := ODen (T_spec_KidOk_sg N).ps × RDen (T_spec_KidOk_sg N).rs) ((), (true, ()))))
  N (0 : Int)))))) := by
  have h : den (R := ODen (T_spec_KidOk_sg N).ps × RDen (T_spec_KidOk_sg N).rs) tab (T_spec_KidOk_ctx N) T_spec_KidOk_ann N (T_spec_KidOk_sg N) Try.f96 (code1, ()) some =
    ((T_spec_CodeOk N code1).bind fun o2 =>
 (bif !o2.2.1 then
 (some (α := ODen (T_spec_KidOk_sg N).ps × RDen (T_spec_KidOk_sg N).rs) ((), (false, ())))
 else
 ((T_spec_HasFork N code1).bind fun o3 =>
 (bif o3.2.1 then
 (some (α := ODen (T_spec_KidOk_sg N).ps × RDen (T_spec_KidOk_sg N).rs) ((), (false, ())))
 else
 (T_spec_KidOk_lp0_m N N (T_spec_KidOk_lp0_sh code1 (0 : Int)) (ctxK (R := ODen (T_spec_KidOk_sg N).ps × RDen (T_spec_KidOk_sg N).rs) tab (T_spec_KidOk_ctx N) T_spec_KidOk_ann N (theCode Try.f96) [1, 1, 0, 1, 0] (retK tab (T_spec_KidOk_sg N) Try.f96.results.toList some))))))) := by kernel_rfl
  rw [h]
  (try simp only [T_spec_KidOk_lp0_eq, T_spec_KidOk_c1, T_spec_KidOk_c2]) <;> rfl

theorem T_spec_KidOk_ok (N : Nat) : chkBody Try.f96 (T_spec_KidOk_sg N).ps = true := by kernel_rfl

theorem T_spec_KidOk_callable : Callable Try.prog 96 := callable_of Try.func96 (show chkFn Try.f96 = true by kernel_rfl)

theorem T_spec_KidOk_good (N : Nat) : Good Try.prog 96 (T_spec_KidOk_sg N) :=
  good_body mixedOk tabOk (ctx_cons (T_spec_CodeOk_good N) T_spec_CodeOk_callable (ctx_cons (T_spec_HasFork_good N) T_spec_HasFork_callable (ctx_cons (T_spec_Touches_good N) T_spec_Touches_callable ctx_nil))) Try.func96 (T_spec_KidOk_ok N) (fun d _ h => ⟨N, (T_spec_KidOk_den N d.1).trans h⟩)

noncomputable def T_spec_l4Regs_sg (N : Nat) : Sig := Sig.of [.v (.slice (.int .i64)) false] [.v (.bool) false] (fun d => T_spec_l4Regs N d.1)

def T_spec_l4Regs_ann : Nat → List Ghost
  | 4 => [.canon [0, 3, 10]]
  | 5 => [.canon [0, 3]]
  | 6 => [.canon [0, 3, 18]]
  | 7 => [.canon [2]]
  | 100004 => [.canon [0, 3]]
  | _ => []

noncomputable def T_spec_l4Regs_ctx (N : Nat) : Ctx := [(134, T_spec_l3Val_sg N)]

def T_spec_l4Regs_lp0_sh (l2 : List Int) (i3 : Int) : St := { env := [(0, .s (.one (.val (.slice (.int .i64)) (l2 : List Int)))), (3, .s (.one (.val (.int .i64) (i3 : Int))))], objs := [], nx := 0 }

def T_spec_l4Regs_lp0_e0 (l2 : List Int) : St := { env := [(2, .s (.one (.val (.bool) (false : Bool))))], objs := [], nx := 0 }

def T_spec_l4Regs_lp0_e1 (l2 : List Int) (i5 : Int) (t6 : Bool) : St := { env := [(0, .s (.one (.val (.slice (.int .i64)) (l2 : List Int)))), (3, .s (.one (.val (.int .i64) (i5 : Int)))), (10, .s (.one (.val (.bool) (t6 : Bool))))], objs := [], nx := 0 }

noncomputable def T_spec_l4Regs_lp0_m (N : Nat) {R : Type} (n : Nat) (st : St) (K : Ex → St → Option R) : Option R := loopN (roundG (T_spec_l4Regs_ann 100004) fun st k => sx tab (T_spec_l4Regs_ctx N) T_spec_l4Regs_ann N (nthLoop Try.f97 0) st k) n st K

theorem T_spec_l4Regs_lp0_step (N : Nat) {R : Type} (n : Nat) (K : Ex → St → Option R) (l2 : List Int) (i3 : Int) :
    T_spec_l4Regs_lp0_m N (n + 1) (T_spec_l4Regs_lp0_sh l2 i3) K =
    (bif decide (i3 < (ilen l2)) then
 (bif inb i3 (List.length l2) then
 ((T_spec_l3Val N (List.getD l2 (Int.toNat i3) (0 : Int))).bind fun o7 =>
 (bif !o7.2.1 then
 (K .ret (T_spec_l4Regs_lp0_e0 l2))
 else
 (T_spec_l4Regs_lp0_m N n (T_spec_l4Regs_lp0_sh l2 (iadd .i64 i3 (1 : Int))) K))) else none)
 else
 (K (.exit 0) (T_spec_l4Regs_lp0_e1 l2 i3 (decide (i3 < (ilen l2)))))) := by kernel_rfl

theorem T_spec_l4Regs_lp0_eq (N : Nat) {R : Type} (l2 : List Int) (K : Ex → St → Option R) : ∀ (n : Nat) (i3 : Int), T_spec_l4Regs_lp0_m N n (T_spec_l4Regs_lp0_sh l2 i3) K = T_spec_l4Regs_lp0 N l2 (K .ret (T_spec_l4Regs_lp0_e0 l2)) (fun i5 t6 => (K (.exit 0) (T_spec_l4Regs_lp0_e1 l2 i5 t6))) n i3
  | 0, _ => rfl
  | n + 1, i3 => by rw [T_spec_l4Regs_lp0_step, T_spec_l4Regs_lp0]; (try simp only [T_spec_l4Regs_lp0_eq N l2 K n])

theorem T_spec_l4Regs_c1 (N : Nat) (l1 : List Int) :
    ((ctxK (R := ODen (T_spec_l4Regs_sg N).ps × RDen (T_spec_l4Regs_sg N).rs) tab (T_spec_l4Regs_ctx N) T_spec_l4Regs_ann N (theCode Try.f97) [1, 1, 0, 1, 0] (retK tab (T_spec_l4Regs_sg N) Try.f97.results.toList some)) .ret (T_spec_l4Regs_lp0_e0 l1)) =
    (some (α := ODen (T_spec_l4Regs_sg N).ps × RDen (T_spec_l4Regs_sg N).rs) ((), (false, ()))) := by kernel_rfl

theorem T_spec_l4Regs_c2 (N : Nat) (l1 : List Int) (i8 : Int) (t9 : Bool) :
    ((ctxK (R := ODen (T_spec_l4Regs_sg N).ps × RDen (T_spec_l4Regs_sg N).rs) tab (T_spec_l4Regs_ctx N) T_spec_l4Regs_ann N (theCode Try.f97) [1, 1, 0, 1, 0] (retK tab (T_spec_l4Regs_sg N) Try.f97.results.toList some)) (.exit 0) (T_spec_l4Regs_lp0_e1 l1 i8 t9)) =
    (some (α := ODen (T_spec_l4Regs_sg N).ps × RDen (T_spec_l4Regs_sg N).rs) ((), (true, ()))) := by kernel_rfl

theorem T_spec_l4Regs_den (N : Nat) (l1 : List Int) :
    den (R := ODen (T_spec_l4Regs_sg N).ps × RDen (T_spec_l4Regs_sg N).rs) tab (T_spec_l4Regs_ctx N) T_spec_l4Regs_ann N (T_spec_l4Regs_sg N) Try.f97 (l1, ()) some =
    (bif (ilen l1) != (4 : Int) then
 (some (α := ODen (T_spec_l4Regs_sg N).ps × RDen (T_spec_l4Regs_sg N).rs) ((), (false, ())))
 else
 (T_spec_l4Regs_lp0 N l1
 (some (α := ODen (T_spec_l4Regs_sg N).ps × RDen (T_spec_l4Regs_sg N).rs) ((), (false, ())))
 (fun i8 t9 =>
   (some (α := ODen (T_spec_l4Regs_sg N).ps × RDen (T_spec_l4Regs_sg N).rs) ((), (true, ()))))
  N (0 : Int))) := by
  have h : den (R := ODen (T_spec_l4Regs_sg N).ps × RDen (T_spec_l4Regs_sg N).rs) tab (T_spec_l4Regs_ctx N) T_spec_l4Regs_ann N (T_spec_l4Regs_sg N) Try.f97 (l1, ()) some =
    (bif (ilen l1) != (4 : Int) then
 (some (α := ODen (T_spec_l4Regs_sg N).ps × RDen (T_spec_l4Regs_sg N).rs) ((), (false, ())))
 else
 (T_spec_l4Regs_lp0_m N N (T_spec_l4Regs_lp0_sh l1 (0 : Int)) (ctxK (R := ODen (T_spec_l4Regs_sg N).ps × RDen (T_spec_l4Regs_sg N).rs) tab (T_spec_l4Regs_ctx N) T_spec_l4Regs_ann N (theCode Try.f97) [1, 1, 0, 1, 0] (retK tab (T_spec_l4Regs_sg N) Try.f97.results.toList some)))) := by kernel_rfl
  rw [h]
  (try simp only [T_spec_l4Regs_lp0_eq, T_spec_l4Regs_c1, T_spec_l4Regs_c2]) <;> rfl

theorem T_spec_l4Regs_ok (N : Nat) : chkBody Try.f97 (T_spec_l4Regs_sg N).ps = true := by kernel_rfl

theorem T_spec_l4Regs_callable : Callable Try.prog 97 := callable_of Try.func97 (show chkFn Try.f97 = true by kernel_rfl)

theorem T_spec_l4Regs_good (N : Nat) : Good Try.prog 97 (T_spec_l4Regs_sg N) :=
  good_body mixedOk tabOk (ctx_cons (T_spec_l3Val_good N) T_spec_l3Val_callable ctx_nil) Try.func97 (T_spec_l4Regs_ok N) (fun d _ h => ⟨N, (T_spec_l4Regs_den N d.1).trans h⟩)

noncomputable def T_spec_l3Vals_sg (N : Nat) : Sig := Sig.of [.v (.slice (.int .i64)) false] [.v (.bool) false] (fun d => T_spec_l3Vals N d.1)

def T_spec_l3Vals_ann : Nat → List Ghost
  | 4 => [.canon [0, 3, 10]]
  | 5 => [.canon [0, 3]]
  | 6 => [.canon [0, 3, 18]]
  | 7 => [.canon [2]]
  | 100004 => [.canon [0, 3]]
  | _ => []

noncomputable def T_spec_l3Vals_ctx (N : Nat) : Ctx := [(134, T_spec_l3Val_sg N)]

def T_spec_l3Vals_lp0_sh (l2 : List Int) (i3 : Int) : St := { env := [(0, .s (.one (.val (.slice (.int .i64)) (l2 : List Int)))), (3, .s (.one (.val (.int .i64) (i3 : Int))))], objs := [], nx := 0 }

def T_spec_l3Vals_lp0_e0 (l2 : List Int) : St := { env := [(2, .s (.one (.val (.bool) (false : Bool))))], objs := [], nx := 0 }

def T_spec_l3Vals_lp0_e1 (l2 : List Int) (i5 : Int) (t6 : Bool) : St := { env := [(0, .s (.one (.val (.slice (.int .i64)) (l2 : List Int)))), (3, .s (.one (.val (.int .i64) (i5 : Int)))), (10, .s (.one (.val (.bool) (t6 : Bool))))], objs := [], nx := 0 }

noncomputable def T_spec_l3Vals_lp0_m (N : Nat) {R : Type} (n : Nat) (st : St) (K : Ex → St → Option R) : Option R := loopN (roundG (T_spec_l3Vals_ann 100004) fun st k => sx tab (T_spec_l3Vals_ctx N) T_spec_l3Vals_ann N (nthLoop Try.f93 0) st k) n st K

theorem T_spec_l3Vals_lp0_step (N : Nat) {R : Type} (n : Nat) (K : Ex → St → Option R) (l2 : List Int) (i3 : Int) :
    T_spec_l3Vals_lp0_m N (n + 1) (T_spec_l3Vals_lp0_sh l2 i3) K =
    (bif decide (i3 < (ilen l2)) then
 (bif inb i3 (List.length l2) then
 ((T_spec_l3Val N (List.getD l2 (Int.toNat i3) (0 : Int))).bind fun o7 =>
 (bif !o7.2.1 then
 (K .ret (T_spec_l3Vals_lp0_e0 l2))
 else
 (T_spec_l3Vals_lp0_m N n (T_spec_l3Vals_lp0_sh l2 (iadd .i64 i3 (1 : Int))) K))) else none)
 else
 (K (.exit 0) (T_spec_l3Vals_lp0_e1 l2 i3 (decide (i3 < (ilen l2)))))) := by kernel_rfl

theorem T_spec_l3Vals_lp0_eq (N : Nat) {R : Type} (l2 : List Int) (K : Ex → St → Option R) : ∀ (n : Nat) (i3 : Int), T_spec_l3Vals_lp0_m N n (T_spec_l3Vals_lp0_sh l2 i3) K = T_spec_l3Vals_lp0 N l2 (K .ret (T_spec_l3Vals_lp0_e0 l2)) (fun i5 t6 => (K (.exit 0) (T_spec_l3Vals_lp0_e1 l2 i5 t6))) n i3
  | 0, _ => rfl
  | n + 1, i3 => by rw [T_spec_l3Vals_lp0_step, T_spec_l3Vals_lp0]; (try simp only [T_spec_l3Vals_lp0_eq N l2 K n])

theorem T_spec_l3Vals_c1 (N : Nat) (l1 : List Int) :
    ((ctxK (R := ODen (T_spec_l3Vals_sg N).ps × RDen (T_spec_l3Vals_sg N).rs) tab (T_spec_l3Vals_ctx N) T_spec_l3Vals_ann N (theCode Try.f93) [1, 1, 0, 1, 0] (retK tab (T_spec_l3Vals_sg N) Try.f93.results.toList some)) .ret (T_spec_l3Vals_lp0_e0 l1)) =
    (some (α := ODen (T_spec_l3Vals_sg N).ps × RDen (T_spec_l3Vals_sg N).rs) ((), (false, ()))) := by kernel_rfl

theorem T_spec_l3Vals_c2 (N : Nat) (l1 : List Int) (i8 : Int) (t9 : Bool) :
    ((ctxK (R := ODen (T_spec_l3Vals_sg N).ps × RDen (T_spec_l3Vals_sg N).rs) tab (T_spec_l3Vals_ctx N) T_spec_l3Vals_ann N (theCode Try.f93) [1, 1, 0, 1, 0] (retK tab (T_spec_l3Vals_sg N) Try.f93.results.toList some)) (.exit 0) (T_spec_l3Vals_lp0_e1 l1 i8 t9)) =
    (some (α := ODen (T_spec_l3Vals_sg N).ps × RDen (T_spec_l3Vals_sg N).rs) ((), (true, ()))) := by kernel_rfl

theorem T_spec_l3Vals_den (N : Nat) (l1 : List Int) :
    den (R := ODen (T_spec_l3Vals_sg N).ps × RDen (T_spec_l3Vals_sg N).rs) tab (T_spec_l3Vals_ctx N) T_spec_l3Vals_ann N (T_spec_l3Vals_sg N) Try.f93 (l1, ()) some =
    (bif (ilen l1) != (8 : Int) then
 (some (α := ODen (T_spec_l3Vals_sg N).ps × RDen (T_spec_l3Vals_sg N).rs) ((), (false, ())))
 else
 (T_spec_l3Vals_lp0 N l1
 (some (α := ODen (T_spec_l3Vals_sg N).ps × RDen (T_spec_l3Vals_sg N).rs) ((), (false, ())))
 (fun i8 t9 =>
   (some (α := ODen (T_spec_l3Vals_sg N).ps × RDen (T_spec_l3Vals_sg N).rs) ((), (true, ()))))
  N (0 : Int))) := by
  have h : den (R := ODen (T_spec_l3Vals_sg N).ps × RDen (T_spec_l3Vals_sg N).rs) tab (T_spec_l3Vals_ctx N) T_spec_l3Vals_ann N (T_spec_l3Vals_sg N) Try.f93 (l1, ()) some =
    (bif (ilen l1) != (8 : Int) then
 (some (α := ODen (T_spec_l3Vals_sg N).ps × RDen (T_spec_l3Vals_sg N).rs) ((), (false, ())))
 else
 (T_spec_l3Vals_lp0_m N N (T_spec_l3Vals_lp0_sh l1 (0 : Int)) (ctxK (R := ODen (T_spec_l3Vals_sg N).ps × RDen (T_spec_l3Vals_sg N).rs) tab (T_spec_l3Vals_ctx N) T_spec_l3Vals_ann N (theCode Try.f93) [1, 1, 0, 1, 0] (retK tab (T_spec_l3Vals_sg N) Try.f93.results.toList some)))) := by kernel_rfl
  rw [h]
  (try simp only [T_spec_l3Vals_lp0_eq, T_spec_l3Vals_c1, T_spec_l3Vals_c2]) <;> rfl

theorem T_spec_l3Vals_ok (N : Nat) : chkBody Try.f93 (T_spec_l3Vals_sg N).ps = true := by kernel_rfl

theorem T_spec_l3Vals_callable : Callable Try.prog 93 := callable_of Try.func93 (show chkFn Try.f93 = true by kernel_rfl)

theorem T_spec_l3Vals_good (N : Nat) : Good Try.prog 93 (T_spec_l3Vals_sg N) :=
  good_body mixedOk tabOk (ctx_cons (T_spec_l3Val_good N) T_spec_l3Val_callable ctx_nil) Try.func93 (T_spec_l3Vals_ok N) (fun d _ h => ⟨N, (T_spec_l3Vals_den N d.1).trans h⟩)

noncomputable def T_spec_l15Ints_sg (N : Nat) : Sig := Sig.of [.v (.slice (.int .i64)) false] [.v (.own (.int .i64)) false] (fun d => T_spec_l15Ints N d.1)

def T_spec_l15Ints_ann : Nat → List Ghost
  | _ => []

noncomputable def T_spec_l15Ints_ctx (N : Nat) : Ctx := []

theorem T_spec_l15Ints_den (N : Nat) (l1 : List Int) :
    den (R := ODen (T_spec_l15Ints_sg N).ps × RDen (T_spec_l15Ints_sg N).rs) tab (T_spec_l15Ints_ctx N) T_spec_l15Ints_ann N (T_spec_l15Ints_sg N) Try.f98 (l1, ()) some =
    (T_spec_l15Ints N l1 : Option (ODen (T_spec_l15Ints_sg N).ps × RDen (T_spec_l15Ints_sg N).rs)) := by kernel_rfl

theorem T_spec_l15Ints_ok (N : Nat) : chkBody Try.f98 (T_spec_l15Ints_sg N).ps = true := by kernel_rfl

theorem T_spec_l15Ints_callable : Callable Try.prog 98 := callable_of Try.func98 (show chkFn Try.f98 = true by kernel_rfl)

theorem T_spec_l15Ints_good (N : Nat) : Good Try.prog 98 (T_spec_l15Ints_sg N) :=
  good_body mixedOk tabOk ctx_nil Try.func98 (T_spec_l15Ints_ok N) (fun d _ h => ⟨N, (T_spec_l15Ints_den N d.1).trans h⟩)

noncomputable def T_spec_RowsOk_sg (N : Nat) : Sig := Sig.of [.v (.slice (.prod (.int .i64) (.int .i64))) false] [.v (.bool) false] (fun d => T_spec_RowsOk N d.1)

def T_spec_RowsOk_ann : Nat → List Ghost
  | 4 => [.canon [0, 3, 10]]
  | 5 => [.canon [0, 3]]
  | 6 => [.canon [0, 3, 28]]
  | 7 => [.canon [2]]
  | 100004 => [.canon [0, 3]]
  | _ => []

noncomputable def T_spec_RowsOk_ctx (N : Nat) : Ctx := [(133, T_spec_l3Cell_sg N), (134, T_spec_l3Val_sg N)]

def T_spec_RowsOk_lp0_sh (l2 : List (Int × Int)) (i3 : Int) : St := { env := [(0, .s (.one (.val (.slice (.prod (.int .i64) (.int .i64))) (l2 : List (Int × Int))))), (3, .s (.one (.val (.int .i64) (i3 : Int))))], objs := [], nx := 0 }

def T_spec_RowsOk_lp0_e0 (l2 : List (Int × Int)) : St := { env := [(2, .s (.one (.val (.bool) (false : Bool))))], objs := [], nx := 0 }

def T_spec_RowsOk_lp0_e1 (l2 : List (Int × Int)) (i6 : Int) (t7 : Bool) : St := { env := [(0, .s (.one (.val (.slice (.prod (.int .i64) (.int .i64))) (l2 : List (Int × Int))))), (3, .s (.one (.val (.int .i64) (i6 : Int)))), (10, .s (.one (.val (.bool) (t7 : Bool))))], objs := [], nx := 0 }

noncomputable def T_spec_RowsOk_lp0_m (N : Nat) {R : Type} (n : Nat) (st : St) (K : Ex → St → Option R) : Option R := loopN (roundG (T_spec_RowsOk_ann 100004) fun st k => sx tab (T_spec_RowsOk_ctx N) T_spec_RowsOk_ann N (nthLoop Try.f84 0) st k) n st K

theorem T_spec_RowsOk_lp0_step (N : Nat) {R : Type} (n : Nat) (K : Ex → St → Option R) (l2 : List (Int × Int)) (i3 : Int) :
    T_spec_RowsOk_lp0_m N (n + 1) (T_spec_RowsOk_lp0_sh l2 i3) K =
    (bif decide (i3 < (ilen l2)) then
 (bif inb i3 (List.length l2) then
 ((T_spec_l3Cell N (List.getD l2 (Int.toNat i3) ((0 : Int), (0 : Int))).1).bind fun o8 =>
 (bif !o8.2.1 then
 (K .ret (T_spec_RowsOk_lp0_e0 l2))
 else
 (bif inb i3 (List.length l2) then
 ((T_spec_l3Val N (List.getD l2 (Int.toNat i3) ((0 : Int), (0 : Int))).2).bind fun o9 =>
 (bif !o9.2.1 then
 (K .ret (T_spec_RowsOk_lp0_e0 l2))
 else
 (T_spec_RowsOk_lp0_m N n (T_spec_RowsOk_lp0_sh l2 (iadd .i64 i3 (1 : Int))) K))) else none))) else none)
 else
 (K (.exit 0) (T_spec_RowsOk_lp0_e1 l2 i3 (decide (i3 < (ilen l2)))))) := by kernel_rfl

theorem T_spec_RowsOk_lp0_eq (N : Nat) {R : Type} (l2 : List (Int × Int)) (K : Ex → St → Option R) : ∀ (n : Nat) (i3 : Int), T_spec_RowsOk_lp0_m N n (T_spec_RowsOk_lp0_sh l2 i3) K = T_spec_RowsOk_lp0 N l2 (K .ret (T_spec_RowsOk_lp0_e0 l2)) (fun i6 t7 => (K (.exit 0) (T_spec_RowsOk_lp0_e1 l2 i6 t7))) n i3
  | 0, _ => rfl
  | n + 1, i3 => by rw [T_spec_RowsOk_lp0_step, T_spec_RowsOk_lp0]; (try simp only [T_spec_RowsOk_lp0_eq N l2 K n])

theorem T_spec_RowsOk_c1 (N : Nat) (l1 : List (Int × Int)) :
    ((ctxK (R := ODen (T_spec_RowsOk_sg N).ps × RDen (T_spec_RowsOk_sg N).rs) tab (T_spec_RowsOk_ctx N) T_spec_RowsOk_ann N (theCode Try.f84) [1, 1, 0, 1, 0] (retK tab (T_spec_RowsOk_sg N) Try.f84.results.toList some)) .ret (T_spec_RowsOk_lp0_e0 l1)) =
    (some (α := ODen (T_spec_RowsOk_sg N).ps × RDen (T_spec_RowsOk_sg N).rs) ((), (false, ()))) := by kernel_rfl

theorem T_spec_RowsOk_c2 (N : Nat) (l1 : List (Int × Int)) (i10 : Int) (t11 : Bool) :
    ((ctxK (R := ODen (T_spec_RowsOk_sg N).ps × RDen (T_spec_RowsOk_sg N).rs) tab (T_spec_RowsOk_ctx N) T_spec_RowsOk_ann N (theCode Try.f84) [1, 1, 0, 1, 0] (retK tab (T_spec_RowsOk_sg N) Try.f84.results.toList some)) (.exit 0) (T_spec_RowsOk_lp0_e1 l1 i10 t11)) =
    (some (α := ODen (T_spec_RowsOk_sg N).ps × RDen (T_spec_RowsOk_sg N).rs) ((), (true, ()))) := by kernel_rfl

theorem T_spec_RowsOk_den (N : Nat) (l1 : List (Int × Int)) :
    den (R := ODen (T_spec_RowsOk_sg N).ps × RDen (T_spec_RowsOk_sg N).rs) tab (T_spec_RowsOk_ctx N) T_spec_RowsOk_ann N (T_spec_RowsOk_sg N) Try.f84 (l1, ()) some =
    (bif decide ((ilen l1) > (300 : Int)) then
 (some (α := ODen (T_spec_RowsOk_sg N).ps × RDen (T_spec_RowsOk_sg N).rs) ((), (false, ())))
 else
 (T_spec_RowsOk_lp0 N l1
 (some (α := ODen (T_spec_RowsOk_sg N).ps × RDen (T_spec_RowsOk_sg N).rs) ((), (false, ())))
 (fun i10 t11 =>
   (some (α := ODen (T_spec_RowsOk_sg N).ps × RDen (T_spec_RowsOk_sg N).rs) ((), (true, ()))))
  N (0 : Int))) := by
  have h : den (R := ODen (T_spec_RowsOk_sg N).ps × RDen (T_spec_RowsOk_sg N).rs) tab (T_spec_RowsOk_ctx N) T_spec_RowsOk_ann N (T_spec_RowsOk_sg N) Try.f84 (l1, ()) some =
    (bif decide ((ilen l1) > (300 : Int)) then
 (some (α := ODen (T_spec_RowsOk_sg N).ps × RDen (T_spec_RowsOk_sg N).rs) ((), (false, ())))
 else
 (T_spec_RowsOk_lp0_m N N (T_spec_RowsOk_lp0_sh l1 (0 : Int)) (ctxK (R := ODen (T_spec_RowsOk_sg N).ps × RDen (T_spec_RowsOk_sg N).rs) tab (T_spec_RowsOk_ctx N) T_spec_RowsOk_ann N (theCode Try.f84) [1, 1, 0, 1, 0] (retK tab (T_spec_RowsOk_sg N) Try.f84.results.toList some)))) := by kernel_rfl
  rw [h]
  (try simp only [T_spec_RowsOk_lp0_eq, T_spec_RowsOk_c1, T_spec_RowsOk_c2]) <;> rfl

theorem T_spec_RowsOk_ok (N : Nat) : chkBody Try.f84 (T_spec_RowsOk_sg N).ps = true := by kernel_rfl

theorem T_spec_RowsOk_callable : Callable Try.prog 84 := callable_of Try.func84 (show chkFn Try.f84 = true by kernel_rfl)

theorem T_spec_RowsOk_good (N : Nat) : Good Try.prog 84 (T_spec_RowsOk_sg N) :=
  good_body mixedOk tabOk (ctx_cons (T_spec_l3Cell_good N) T_spec_l3Cell_callable (ctx_cons (T_spec_l3Val_good N) T_spec_l3Val_callable ctx_nil)) Try.func84 (T_spec_RowsOk_ok N) (fun d _ h => ⟨N, (T_spec_RowsOk_den N d.1).trans h⟩)

noncomputable def T_spec_Cut_sg (N : Nat) : Sig := Sig.of [.v (.slice (.prod (.int .i64) (.int .i64))) false, .v (.int .i64) false] [.v (.own (.prod (.int .i64) (.int .i64))) false] (fun d => T_spec_Cut N d.1 d.2.1)

def T_spec_Cut_ann : Nat → List Ghost
  | _ => []

noncomputable def T_spec_Cut_ctx (N : Nat) : Ctx := [(84, T_spec_RowsOk_sg N)]

theorem T_spec_Cut_den (N : Nat) (l1 : List (Int × Int)) (n2 : Int) :
    den (R := ODen (T_spec_Cut_sg N).ps × RDen (T_spec_Cut_sg N).rs) tab (T_spec_Cut_ctx N) T_spec_Cut_ann N (T_spec_Cut_sg N) Try.f147 (l1, n2, ()) some =
    (T_spec_Cut N l1 n2 : Option (ODen (T_spec_Cut_sg N).ps × RDen (T_spec_Cut_sg N).rs)) := by kernel_rfl

theorem T_spec_Cut_ok (N : Nat) : chkBody Try.f147 (T_spec_Cut_sg N).ps = true := by kernel_rfl

theorem T_spec_Cut_callable : Callable Try.prog 147 := callable_of Try.func147 (show chkFn Try.f147 = true by kernel_rfl)

theorem T_spec_Cut_good (N : Nat) : Good Try.prog 147 (T_spec_Cut_sg N) :=
  good_body mixedOk tabOk (ctx_cons (T_spec_RowsOk_good N) T_spec_RowsOk_callable ctx_nil) Try.func147 (T_spec_Cut_ok N) (fun d _ h => ⟨N, (T_spec_Cut_den N d.1 d.2.1).trans h⟩)

noncomputable def T_spec_EagerCut_sg (N : Nat) : Sig := Sig.of [.v (.slice (.int .i64)) false, .v (.slice (.prod (.int .i64) (.int .i64))) false, .v (.int .i64) false] [.v (.own (.int .i64)) false, .v (.own (.prod (.int .i64) (.int .i64))) false] (fun d => T_spec_EagerCut N d.1 d.2.1 d.2.2.1)

def T_spec_EagerCut_ann : Nat → List Ghost
  | 5 => [.canon [1, 2, 8, 9, 31]]
  | 6 => [.canon [1, 2, 8, 9]]
  | 7 => [.canon [1, 2, 8, 9]]
  | 100005 => [.canon [1, 2, 8, 9]]
  | _ => []

noncomputable def T_spec_EagerCut_ctx (N : Nat) : Ctx := [(93, T_spec_l3Vals_sg N), (84, T_spec_RowsOk_sg N), (98, T_spec_l15Ints_sg N), (147, T_spec_Cut_sg N)]

def T_spec_EagerCut_lp0_sh (log7 : List (Int × Int)) (n8 : Int) (i9 : Int) (l10 : List Int) : St := { env := [(1, .s (.one (.val (.slice (.prod (.int .i64) (.int .i64))) (log7 : List (Int × Int))))), (2, .s (.one (.val (.int .i64) (n8 : Int)))), (8, .s (.one (.own 0))), (9, .s (.one (.val (.int .i64) (i9 : Int))))], objs := [(0, .arr (.int .i64) (l10 : List Int))], nx := 1 }

def T_spec_EagerCut_lp0_e0 (log7 : List (Int × Int)) (n8 : Int) (i11 : Int) (t12 : Bool) (l13 : List Int) : St := { env := [(1, .s (.one (.val (.slice (.prod (.int .i64) (.int .i64))) (log7 : List (Int × Int))))), (2, .s (.one (.val (.int .i64) (n8 : Int)))), (8, .s (.one (.own 0))), (9, .s (.one (.val (.int .i64) (i11 : Int)))), (31, .s (.one (.val (.bool) (t12 : Bool))))], objs := [(0, .arr (.int .i64) (l13 : List Int))], nx := 1 }

noncomputable def T_spec_EagerCut_lp0_m (N : Nat) {R : Type} (n : Nat) (st : St) (K : Ex → St → Option R) : Option R := loopN (roundG (T_spec_EagerCut_ann 100005) fun st k => sx tab (T_spec_EagerCut_ctx N) T_spec_EagerCut_ann N (nthLoop Try.f99 0) st k) n st K

theorem T_spec_EagerCut_lp0_step (N : Nat) {R : Type} (n : Nat) (K : Ex → St → Option R) (log7 : List (Int × Int)) (n8 : Int) (i9 : Int) (l10 : List Int) :
    T_spec_EagerCut_lp0_m N (n + 1) (T_spec_EagerCut_lp0_sh log7 n8 i9 l10) K =
    (bif decide (i9 ≥ n8) then
 (bif inb i9 (List.length log7) then
 (bif inb i9 (List.length log7) then
 (bif inb (List.getD log7 (Int.toNat i9) ((0 : Int), (0 : Int))).1 (List.length l10) then
 (T_spec_EagerCut_lp0_m N n (T_spec_EagerCut_lp0_sh log7 n8 (isub .i64 i9 (1 : Int)) (List.set l10 (Int.toNat (List.getD log7 (Int.toNat i9) ((0 : Int), (0 : Int))).1) (List.getD log7 (Int.toNat i9) ((0 : Int), (0 : Int))).2)) K) else none) else none) else none)
 else
 (K (.exit 0) (T_spec_EagerCut_lp0_e0 log7 n8 i9 (decide (i9 ≥ n8)) l10))) := by kernel_rfl

theorem T_spec_EagerCut_lp0_eq (N : Nat) {R : Type} (log7 : List (Int × Int)) (n8 : Int) (K : Ex → St → Option R) : ∀ (n : Nat) (i9 : Int) (l10 : List Int), T_spec_EagerCut_lp0_m N n (T_spec_EagerCut_lp0_sh log7 n8 i9 l10) K = T_spec_EagerCut_lp0 N log7 n8 (fun i11 t12 l13 => (K (.exit 0) (T_spec_EagerCut_lp0_e0 log7 n8 i11 t12 l13))) n i9 l10
  | 0, _, _ => rfl
  | n + 1, i9, l10 => by rw [T_spec_EagerCut_lp0_step, T_spec_EagerCut_lp0]; (try simp only [T_spec_EagerCut_lp0_eq N log7 n8 K n])

theorem T_spec_EagerCut_c1 (N : Nat) (log2 : List (Int × Int)) (n3 : Int) (i14 : Int) (t15 : Bool) (l16 : List Int) :
    ((ctxK (R := ODen (T_spec_EagerCut_sg N).ps × RDen (T_spec_EagerCut_sg N).rs) tab (T_spec_EagerCut_ctx N) T_spec_EagerCut_ann N (theCode Try.f99) [1, 1, 1, 0, 1, 0] (retK tab (T_spec_EagerCut_sg N) Try.f99.results.toList some)) (.exit 0) (T_spec_EagerCut_lp0_e0 log2 n3 i14 t15 l16)) =
    ((T_spec_Cut N log2 n3).bind fun o17 =>
 (some (α := ODen (T_spec_EagerCut_sg N).ps × RDen (T_spec_EagerCut_sg N).rs) ((), (l16, (o17.2.1, ()))))) := by kernel_rfl

theorem T_spec_EagerCut_den (N : Nat) (cells1 : List Int) (log2 : List (Int × Int)) (n3 : Int) :
    den (R := ODen (T_spec_EagerCut_sg N).ps × RDen (T_spec_EagerCut_sg N).rs) tab (T_spec_EagerCut_ctx N) T_spec_EagerCut_ann N (T_spec_EagerCut_sg N) Try.f99 (cells1, log2, n3, ()) some =
    ((T_spec_l3Vals N cells1).bind fun o4 =>
 (bif !o4.2.1 then
 (some (α := ODen (T_spec_EagerCut_sg N).ps × RDen (T_spec_EagerCut_sg N).rs) ((), (([] : List Int), (([] : List (Int × Int)), ()))))
 else
 ((T_spec_RowsOk N log2).bind fun o5 =>
 (bif !o5.2.1 then
 (some (α := ODen (T_spec_EagerCut_sg N).ps × RDen (T_spec_EagerCut_sg N).rs) ((), (([] : List Int), (([] : List (Int × Int)), ()))))
 else
 (bif decide (n3 < (0 : Int)) then
 (some (α := ODen (T_spec_EagerCut_sg N).ps × RDen (T_spec_EagerCut_sg N).rs) ((), (([] : List Int), (([] : List (Int × Int)), ()))))
 else
 ((T_spec_l15Ints N cells1).bind fun o6 =>
 (T_spec_EagerCut_lp0 N log2 n3
 (fun i14 t15 l16 =>
   ((T_spec_Cut N log2 n3).bind fun o17 =>
 (some (α := ODen (T_spec_EagerCut_sg N).ps × RDen (T_spec_EagerCut_sg N).rs) ((), (l16, (o17.2.1, ()))))))
  N (isub .i64 (ilen log2) (1 : Int)) o6.2.1))))))) := by
  have h : den (R := ODen (T_spec_EagerCut_sg N).ps × RDen (T_spec_EagerCut_sg N).rs) tab (T_spec_EagerCut_ctx N) T_spec_EagerCut_ann N (T_spec_EagerCut_sg N) Try.f99 (cells1, log2, n3, ()) some =
    ((T_spec_l3Vals N cells1).bind fun o4 =>
 (bif !o4.2.1 then
 (some (α := ODen (T_spec_EagerCut_sg N).ps × RDen (T_spec_EagerCut_sg N).rs) ((), (([] : List Int), (([] : List (Int × Int)), ()))))
 else
 ((T_spec_RowsOk N log2).bind fun o5 =>
 (bif !o5.2.1 then
 (some (α := ODen (T_spec_EagerCut_sg N).ps × RDen (T_spec_EagerCut_sg N).rs) ((), (([] : List Int), (([] : List (Int × Int)), ()))))
 else
 (bif decide (n3 < (0 : Int)) then
 (some (α := ODen (T_spec_EagerCut_sg N).ps × RDen (T_spec_EagerCut_sg N).rs) ((), (([] : List Int), (([] : List (Int × Int)), ()))))
 else
 ((T_spec_l15Ints N cells1).bind fun o6 =>
 (T_spec_EagerCut_lp0_m N N (T_spec_EagerCut_lp0_sh log2 n3 (isub .i64 (ilen log2) (1 : Int)) o6.2.1) (ctxK (R := ODen (T_spec_EagerCut_sg N).ps × RDen (T_spec_EagerCut_sg N).rs) tab (T_spec_EagerCut_ctx N) T_spec_EagerCut_ann N (theCode Try.f99) [1, 1, 1, 0, 1, 0] (retK tab (T_spec_EagerCut_sg N) Try.f99.results.toList some))))))))) := by kernel_rfl
  rw [h]
  (try simp only [T_spec_EagerCut_lp0_eq, T_spec_EagerCut_c1]) <;> rfl

theorem T_spec_EagerCut_ok (N : Nat) : chkBody Try.f99 (T_spec_EagerCut_sg N).ps = true := by kernel_rfl

theorem T_spec_EagerCut_callable : Callable Try.prog 99 := callable_of Try.func99 (show chkFn Try.f99 = true by kernel_rfl)

theorem T_spec_EagerCut_good (N : Nat) : Good Try.prog 99 (T_spec_EagerCut_sg N) :=
  good_body mixedOk tabOk (ctx_cons (T_spec_l3Vals_good N) T_spec_l3Vals_callable (ctx_cons (T_spec_RowsOk_good N) T_spec_RowsOk_callable (ctx_cons (T_spec_l15Ints_good N) T_spec_l15Ints_callable (ctx_cons (T_spec_Cut_good N) T_spec_Cut_callable ctx_nil)))) Try.func99 (T_spec_EagerCut_ok N) (fun d _ h => ⟨N, (T_spec_EagerCut_den N d.1 d.2.1 d.2.2.1).trans h⟩)

noncomputable def T_spec_EndOf_sg (N : Nat) : Sig := Sig.of [.v (.slice (.prod (.int .i64) (.prod (.int .i64) (.prod (.int .i64) (.int .i64))))) false, .v (.int .i64) false] [.v (.int .i64) false] (fun d => T_spec_EndOf N d.1 d.2.1)

def T_spec_EndOf_ann : Nat → List Ghost
  | 5 => [.canon [0, 5, 6, 27]]
  | 6 => [.canon [0, 5, 6]]
  | 7 => [.canon [0, 5, 6, 35]]
  | 8 => [.canon [0, 5, 6]]
  | 9 => [.canon [0, 5, 6, 43]]
  | 10 => [.canon [0, 5, 6]]
  | 11 => [.canon [0, 5, 6, 47]]
  | 12 => [.canon [4]]
  | 100005 => [.canon [0, 5, 6]]
  | _ => []

noncomputable def T_spec_EndOf_ctx (N : Nat) : Ctx := []

def T_spec_EndOf_lp0_sh (code3 : List (Int × Int × Int × Int)) (d4 : Int) (k5 : Int) : St := { env := [(0, .s (.one (.val (.slice (.prod (.int .i64) (.prod (.int .i64) (.prod (.int .i64) (.int .i64))))) (code3 : List (Int × Int × Int × Int))))), (5, .s (.one (.val (.int .i64) (d4 : Int)))), (6, .s (.one (.val (.int .i64) (k5 : Int))))], objs := [], nx := 0 }

def T_spec_EndOf_lp0_e0 (code3 : List (Int × Int × Int × Int)) (t6 : Int) : St := { env := [(4, .s (.one (.val (.int .i64) (t6 : Int))))], objs := [], nx := 0 }

def T_spec_EndOf_lp0_e1 (code3 : List (Int × Int × Int × Int)) (d7 : Int) (k8 : Int) (t9 : Bool) : St := { env := [(0, .s (.one (.val (.slice (.prod (.int .i64) (.prod (.int .i64) (.prod (.int .i64) (.int .i64))))) (code3 : List (Int × Int × Int × Int))))), (5, .s (.one (.val (.int .i64) (d7 : Int)))), (6, .s (.one (.val (.int .i64) (k8 : Int)))), (27, .s (.one (.val (.bool) (t9 : Bool))))], objs := [], nx := 0 }

noncomputable def T_spec_EndOf_lp0_m (N : Nat) {R : Type} (n : Nat) (st : St) (K : Ex → St → Option R) : Option R := loopN (roundG (T_spec_EndOf_ann 100005) fun st k => sx tab (T_spec_EndOf_ctx N) T_spec_EndOf_ann N (nthLoop Try.f100 0) st k) n st K

theorem T_spec_EndOf_lp0_step (N : Nat) {R : Type} (n : Nat) (K : Ex → St → Option R) (code3 : List (Int × Int × Int × Int)) (d4 : Int) (k5 : Int) :
    T_spec_EndOf_lp0_m N (n + 1) (T_spec_EndOf_lp0_sh code3 d4 k5) K =
    (bif decide (k5 < (ilen code3)) then
 (bif inb k5 (List.length code3) then
 (bif (List.getD code3 (Int.toNat k5) ((0 : Int), ((0 : Int), ((0 : Int), (0 : Int))))).1 == (8 : Int) then
 (bif inb k5 (List.length code3) then
 (bif (List.getD code3 (Int.toNat k5) ((0 : Int), ((0 : Int), ((0 : Int), (0 : Int))))).1 == (9 : Int) then
 (bif (isub .i64 (iadd .i64 d4 (1 : Int)) (1 : Int)) == (0 : Int) then
 (K .ret (T_spec_EndOf_lp0_e0 code3 k5))
 else
 (T_spec_EndOf_lp0_m N n (T_spec_EndOf_lp0_sh code3 (isub .i64 (iadd .i64 d4 (1 : Int)) (1 : Int)) (iadd .i64 k5 (1 : Int))) K))
 else
 (bif (iadd .i64 d4 (1 : Int)) == (0 : Int) then
 (K .ret (T_spec_EndOf_lp0_e0 code3 k5))
 else
 (T_spec_EndOf_lp0_m N n (T_spec_EndOf_lp0_sh code3 (iadd .i64 d4 (1 : Int)) (iadd .i64 k5 (1 : Int))) K))) else none)
 else
 (bif inb k5 (List.length code3) then
 (bif (List.getD code3 (Int.toNat k5) ((0 : Int), ((0 : Int), ((0 : Int), (0 : Int))))).1 == (9 : Int) then
 (bif (isub .i64 d4 (1 : Int)) == (0 : Int) then
 (K .ret (T_spec_EndOf_lp0_e0 code3 k5))
 else
 (T_spec_EndOf_lp0_m N n (T_spec_EndOf_lp0_sh code3 (isub .i64 d4 (1 : Int)) (iadd .i64 k5 (1 : Int))) K))
 else
 (bif d4 == (0 : Int) then
 (K .ret (T_spec_EndOf_lp0_e0 code3 k5))
 else
 (T_spec_EndOf_lp0_m N n (T_spec_EndOf_lp0_sh code3 d4 (iadd .i64 k5 (1 : Int))) K))) else none)) else none)
 else
 (K (.exit 0) (T_spec_EndOf_lp0_e1 code3 d4 k5 (decide (k5 < (ilen code3)))))) := by kernel_rfl

theorem T_spec_EndOf_lp0_eq (N : Nat) {R : Type} (code3 : List (Int × Int × Int × Int)) (K : Ex → St → Option R) : ∀ (n : Nat) (d4 : Int) (k5 : Int), T_spec_EndOf_lp0_m N n (T_spec_EndOf_lp0_sh code3 d4 k5) K = T_spec_EndOf_lp0 N code3 (fun t6 => (K .ret (T_spec_EndOf_lp0_e0 code3 t6))) (fun d7 k8 t9 => (K (.exit 0) (T_spec_EndOf_lp0_e1 code3 d7 k8 t9))) n d4 k5
  | 0, _, _ => rfl
  | n + 1, d4, k5 => by rw [T_spec_EndOf_lp0_step, T_spec_EndOf_lp0]; (try simp only [T_spec_EndOf_lp0_eq N code3 K n])

theorem T_spec_EndOf_c1 (N : Nat) (code1 : List (Int × Int × Int × Int)) (t10 : Int) :
    ((ctxK (R := ODen (T_spec_EndOf_sg N).ps × RDen (T_spec_EndOf_sg N).rs) tab (T_spec_EndOf_ctx N) T_spec_EndOf_ann N (theCode Try.f100) [1, 1, 1, 0, 1, 0] (retK tab (T_spec_EndOf_sg N) Try.f100.results.toList some)) .ret (T_spec_EndOf_lp0_e0 code1 t10)) =
    (some (α := ODen (T_spec_EndOf_sg N).ps × RDen (T_spec_EndOf_sg N).rs) ((), (t10, ()))) := by kernel_rfl

theorem T_spec_EndOf_c2 (N : Nat) (code1 : List (Int × Int × Int × Int)) (d11 : Int) (k12 : Int) (t13 : Bool) :
    ((ctxK (R := ODen (T_spec_EndOf_sg N).ps × RDen (T_spec_EndOf_sg N).rs) tab (T_spec_EndOf_ctx N) T_spec_EndOf_ann N (theCode Try.f100) [1, 1, 1, 0, 1, 0] (retK tab (T_spec_EndOf_sg N) Try.f100.results.toList some)) (.exit 0) (T_spec_EndOf_lp0_e1 code1 d11 k12 t13)) =
    (some (α := ODen (T_spec_EndOf_sg N).ps × RDen (T_spec_EndOf_sg N).rs) ((), ((-1 : Int), ()))) := by kernel_rfl

theorem T_spec_EndOf_den (N : Nat) (code1 : List (Int × Int × Int × Int)) (i2 : Int) :
    den (R := ODen (T_spec_EndOf_sg N).ps × RDen (T_spec_EndOf_sg N).rs) tab (T_spec_EndOf_ctx N) T_spec_EndOf_ann N (T_spec_EndOf_sg N) Try.f100 (code1, i2, ()) some =
    (bif decide (i2 < (0 : Int)) then
 (some (α := ODen (T_spec_EndOf_sg N).ps × RDen (T_spec_EndOf_sg N).rs) ((), ((-1 : Int), ())))
 else
 (bif decide (i2 ≥ (ilen code1)) then
 (some (α := ODen (T_spec_EndOf_sg N).ps × RDen (T_spec_EndOf_sg N).rs) ((), ((-1 : Int), ())))
 else
 (bif inb i2 (List.length code1) then
 (bif (List.getD code1 (Int.toNat i2) ((0 : Int), ((0 : Int), ((0 : Int), (0 : Int))))).1 != (8 : Int) then
 (some (α := ODen (T_spec_EndOf_sg N).ps × RDen (T_spec_EndOf_sg N).rs) ((), ((-1 : Int), ())))
 else
 (T_spec_EndOf_lp0 N code1
 (fun t10 =>
   (some (α := ODen (T_spec_EndOf_sg N).ps × RDen (T_spec_EndOf_sg N).rs) ((), (t10, ()))))
 (fun d11 k12 t13 =>
   (some (α := ODen (T_spec_EndOf_sg N).ps × RDen (T_spec_EndOf_sg N).rs) ((), ((-1 : Int), ()))))
  N (0 : Int) i2)) else none))) := by
  have h : den (R := ODen (T_spec_EndOf_sg N).ps × RDen (T_spec_EndOf_sg N).rs) tab (T_spec_EndOf_ctx N) T_spec_EndOf_ann N (T_spec_EndOf_sg N) Try.f100 (code1, i2, ()) some =
    (bif decide (i2 < (0 : Int)) then
 (some (α := ODen (T_spec_EndOf_sg N).ps × RDen (T_spec_EndOf_sg N).rs) ((), ((-1 : Int), ())))
 else
 (bif decide (i2 ≥ (ilen code1)) then
 (some (α := ODen (T_spec_EndOf_sg N).ps × RDen (T_spec_EndOf_sg N).rs) ((), ((-1 : Int), ())))
 else
 (bif inb i2 (List.length code1) then
 (bif (List.getD code1 (Int.toNat i2) ((0 : Int), ((0 : Int), ((0 : Int), (0 : Int))))).1 != (8 : Int) then
 (some (α := ODen (T_spec_EndOf_sg N).ps × RDen (T_spec_EndOf_sg N).rs) ((), ((-1 : Int), ())))
 else
 (T_spec_EndOf_lp0_m N N (T_spec_EndOf_lp0_sh code1 (0 : Int) i2) (ctxK (R := ODen (T_spec_EndOf_sg N).ps × RDen (T_spec_EndOf_sg N).rs) tab (T_spec_EndOf_ctx N) T_spec_EndOf_ann N (theCode Try.f100) [1, 1, 1, 0, 1, 0] (retK tab (T_spec_EndOf_sg N) Try.f100.results.toList some)))) else none))) := by kernel_rfl
  rw [h]
  (try simp only [T_spec_EndOf_lp0_eq, T_spec_EndOf_c1, T_spec_EndOf_c2]) <;> rfl

theorem T_spec_EndOf_ok (N : Nat) : chkBody Try.f100 (T_spec_EndOf_sg N).ps = true := by kernel_rfl

theorem T_spec_EndOf_callable : Callable Try.prog 100 := callable_of Try.func100 (show chkFn Try.f100 = true by kernel_rfl)

theorem T_spec_EndOf_good (N : Nat) : Good Try.prog 100 (T_spec_EndOf_sg N) :=
  good_body mixedOk tabOk ctx_nil Try.func100 (T_spec_EndOf_ok N) (fun d _ h => ⟨N, (T_spec_EndOf_den N d.1 d.2.1).trans h⟩)

noncomputable def T_spec_Calc_sg (N : Nat) : Sig := Sig.of [.v (.prod (.int .i64) (.prod (.int .i64) (.prod (.int .i64) (.int .i64)))) true, .v (.slice (.int .i64)) false] [.v (.own (.int .i64)) false, .v (.bool) false] (fun d => T_spec_Calc N d.1 d.2.1)

def T_spec_Calc_ann : Nat → List Ghost
  | _ => []

noncomputable def T_spec_Calc_ctx (N : Nat) : Ctx := [(148, T_spec_OpOk_sg N), (97, T_spec_l4Regs_sg N)]

theorem T_spec_Calc_den (N : Nat) (o1 : Int × Int × Int × Int) (regs2 : List Int) :
    den (R := ODen (T_spec_Calc_sg N).ps × RDen (T_spec_Calc_sg N).rs) tab (T_spec_Calc_ctx N) T_spec_Calc_ann N (T_spec_Calc_sg N) Try.f101 (o1, regs2, ()) some =
    (T_spec_Calc N o1 regs2 : Option (ODen (T_spec_Calc_sg N).ps × RDen (T_spec_Calc_sg N).rs)) := by kernel_rfl

theorem T_spec_Calc_ok (N : Nat) : chkBody Try.f101 (T_spec_Calc_sg N).ps = true := by kernel_rfl

theorem T_spec_Calc_callable : Callable Try.prog 101 := callable_of Try.func101 (show chkFn Try.f101 = true by kernel_rfl)

theorem T_spec_Calc_good (N : Nat) : Good Try.prog 101 (T_spec_Calc_sg N) :=
  good_body mixedOk tabOk (ctx_cons (T_spec_OpOk_good N) T_spec_OpOk_callable (ctx_cons (T_spec_l4Regs_good N) T_spec_l4Regs_callable ctx_nil)) Try.func101 (T_spec_Calc_ok N) (fun d _ h => ⟨N, (T_spec_Calc_den N d.1 d.2.1).trans h⟩)

noncomputable def T_spec_EagerRun_sg (N : Nat) : Sig := Sig.of [.v (.slice (.prod (.int .i64) (.prod (.int .i64) (.prod (.int .i64) (.int .i64))))) false, .v (.slice (.int .i64)) false, .v (.slice (.int .i64)) false] [.v (.prod (.int .i64) (.prod (.own (.int .i64)) (.prod (.own (.int .i64)) (.prod (.own (.prod (.int .i64) (.int .i64))) (.int .i64))))) true] (fun d => T_spec_EagerRun N d.1 d.2.1 d.2.2.1)

def T_spec_EagerRun_ann : Nat → List Ghost
  | 6 => [.canon [0, 6, 7, 8, 9, 42]]
  | 7 => [.canon [0, 6, 7, 8, 9, 10]]
  | 8 => [.canon [0, 6, 7, 8, 9, 10, 11]]
  | 9 => [.canon [0, 6, 7, 8, 9, 10, 11, 50]]
  | 10 => [.canon [0, 6, 7, 8, 11, 17]]
  | 11 => [.canon [0, 6, 7, 8, 11]]
  | 12 => [.canon [0, 6, 7, 8, 9, 10, 11, 50, 60]]
  | 13 => [.canon [0, 6, 7, 8, 11]]
  | 14 => [.canon [0, 6, 7, 8, 9, 10, 11, 50, 73]]
  | 15 => [.canon [0, 6, 7, 8, 10, 11]]
  | 16 => [.canon [0, 6, 7, 8, 11]]
  | 17 => [.canon [0, 6, 7, 8, 9, 10, 11, 50, 100]]
  | 18 => [.canon [0, 6, 7, 8, 10, 11, 108]]
  | 19 => [.canon [0, 6, 7, 8, 11]]
  | 20 => [.canon [0, 6, 7, 8, 9, 10, 11, 50, 113]]
  | 21 => [.canon [0, 6, 7, 8, 11]]
  | 22 => [.canon [0, 6, 7, 8, 10, 11, 50, 126]]
  | 23 => [.canon [0, 6, 7, 8, 11, 12]]
  | 24 => [.canon [0, 6, 7, 8, 11, 12]]
  | 25 => [.canon [0, 6, 7, 8, 11]]
  | 26 => [.canon [0, 6, 7, 8, 10, 11, 148]]
  | 27 => [.canon [0, 6, 7, 8, 13]]
  | 28 => [.canon [0, 6, 7, 8, 13, 152]]
  | 29 => [.canon [0, 6, 7, 8, 13]]
  | 30 => [.canon [0, 6, 7, 8, 13]]
  | 31 => [.canon [0, 6, 7, 8, 14, 15]]
  | 32 => [.canon [0, 6, 7, 8, 15]]
  | 33 => [.canon [0, 6, 7, 8]]
  | 34 => [.canon [0, 6, 7, 8, 184]]
  | 35 => [.canon [6, 7]]
  | 36 => [.canon [6]]
  | 37 => [.canon [0, 6, 7, 8, 16]]
  | 38 => [.canon [0, 6, 7, 8, 16]]
  | 39 => [.canon [0, 6, 7, 8, 16]]
  | 40 => [.canon [0, 6, 7, 8, 16]]
  | 41 => [.canon [0, 6, 7, 8, 11]]
  | 42 => [.canon [0, 6, 7, 8, 9]]
  | 100006 => [.adoptC 7 3 (.prod (.int .i64) (.int .i64)), .canon [0, 6, 7, 8, 9]]
  | _ => []

noncomputable def T_spec_EagerRun_ctx (N : Nat) : Ctx := [(96, T_spec_KidOk_sg N), (97, T_spec_l4Regs_sg N), (93, T_spec_l3Vals_sg N), (98, T_spec_l15Ints_sg N), (99, T_spec_EagerCut_sg N), (100, T_spec_EndOf_sg N), (101, T_spec_Calc_sg N)]

def T_spec_EagerRun_lp0_sh (code9 : List (Int × Int × Int × Int)) (pc10 : Int) (b14 : Int) (l15 : List (Int × List Int × Int)) (l16 : List Int) (l17 : List Int) (l18 : List (Int × Int)) : St := { env := [(0, .s (.one (.val (.slice (.prod (.int .i64) (.prod (.int .i64) (.prod (.int .i64) (.int .i64))))) (code9 : List (Int × Int × Int × Int))))), (6, .s (.one (.ptr 0 0))), (7, .s (.one (.ptr 1 0))), (8, .s (.one (.own 2))), (9, .s (.one (.val (.int .i64) (pc10 : Int))))], objs := [(0, .box [.val (.int .i64) ((0 : Int) : Int), .nils, .nils, .nils, .val (.int .i64) ((0 : Int) : Int)]), (1, .box [.val (.int .i64) ((0 : Int) : Int), .own 3, .own 4, .own 5, .val (.int .i64) (b14 : Int)]), (2, .arr (.prod (.int .i64) (.prod (.slice (.int .i64)) (.int .i64))) (l15 : List (Int × List Int × Int))), (3, .arr (.int .i64) (l16 : List Int)), (4, .arr (.int .i64) (l17 : List Int)), (5, .arr (.prod (.int .i64) (.int .i64)) (l18 : List (Int × Int)))], nx := 6 }

def T_spec_EagerRun_lp0_e0 (code9 : List (Int × Int × Int × Int)) (b35 : Int) (l36 : List Int) (l37 : List Int) (l38 : List (Int × Int)) : St := { env := [(6, .s (.one (.ptr 0 0)))], objs := [(0, .box [.val (.int .i64) ((2 : Int) : Int), .own 1, .own 2, .own 3, .val (.int .i64) (b35 : Int)]), (1, .arr (.int .i64) (l36 : List Int)), (2, .arr (.int .i64) (l37 : List Int)), (3, .arr (.prod (.int .i64) (.int .i64)) (l38 : List (Int × Int)))], nx := 4 }

def T_spec_EagerRun_lp0_e1 (code9 : List (Int × Int × Int × Int)) (pc39 : Int) (t40 : Bool) (b41 : Int) (l42 : List (Int × List Int × Int)) (l43 : List Int) (l44 : List Int) (l45 : List (Int × Int)) : St := { env := [(0, .s (.one (.val (.slice (.prod (.int .i64) (.prod (.int .i64) (.prod (.int .i64) (.int .i64))))) (code9 : List (Int × Int × Int × Int))))), (6, .s (.one (.ptr 0 0))), (7, .s (.one (.ptr 1 0))), (8, .s (.one (.own 2))), (9, .s (.one (.val (.int .i64) (pc39 : Int)))), (42, .s (.one (.val (.bool) (t40 : Bool))))], objs := [(0, .box [.val (.int .i64) ((0 : Int) : Int), .nils, .nils, .nils, .val (.int .i64) ((0 : Int) : Int)]), (1, .box [.val (.int .i64) ((0 : Int) : Int), .own 3, .own 4, .own 5, .val (.int .i64) (b41 : Int)]), (2, .arr (.prod (.int .i64) (.prod (.slice (.int .i64)) (.int .i64))) (l42 : List (Int × List Int × Int))), (3, .arr (.int .i64) (l43 : List Int)), (4, .arr (.int .i64) (l44 : List Int)), (5, .arr (.prod (.int .i64) (.int .i64)) (l45 : List (Int × Int)))], nx := 6 }

noncomputable def T_spec_EagerRun_lp0_m (N : Nat) {R : Type} (n : Nat) (st : St) (K : Ex → St → Option R) : Option R := loopN (roundG (T_spec_EagerRun_ann 100006) fun st k => sx tab (T_spec_EagerRun_ctx N) T_spec_EagerRun_ann N (nthLoop Try.f38 0) st k) n st K

theorem T_spec_EagerRun_lp0_step (N : Nat) {R : Type} (n : Nat) (K : Ex → St → Option R) (code9 : List (Int × Int × Int × Int)) (pc10 : Int) (b14 : Int) (l15 : List (Int × List Int × Int)) (l16 : List Int) (l17 : List Int) (l18 : List (Int × Int)) :
    T_spec_EagerRun_lp0_m N (n + 1) (T_spec_EagerRun_lp0_sh code9 pc10 b14 l15 l16 l17 l18) K =
    (bif decide (pc10 < (ilen code9)) then
 (bif inb pc10 (List.length code9) then
 (bif (List.getD code9 (Int.toNat pc10) ((0 : Int), ((0 : Int), ((0 : Int), (0 : Int))))).1 == (5 : Int) then
 (bif inb (List.getD code9 (Int.toNat pc10) ((0 : Int), ((0 : Int), ((0 : Int), (0 : Int))))).2.2.1 (List.length l17) then
 (bif inb (List.getD code9 (Int.toNat pc10) ((0 : Int), ((0 : Int), ((0 : Int), (0 : Int))))).2.1 (List.length l16) then
 (T_spec_EagerRun_lp0_m N n (T_spec_EagerRun_lp0_sh code9 (iadd .i64 pc10 (1 : Int)) b14 l15 (List.set l16 (Int.toNat (List.getD code9 (Int.toNat pc10) ((0 : Int), ((0 : Int), ((0 : Int), (0 : Int))))).2.1) (List.getD l17 (Int.toNat (List.getD code9 (Int.toNat pc10) ((0 : Int), ((0 : Int), ((0 : Int), (0 : Int))))).2.2.1) (0 : Int))) l17 l18) K) else none) else none)
 else
 (bif (List.getD code9 (Int.toNat pc10) ((0 : Int), ((0 : Int), ((0 : Int), (0 : Int))))).1 == (6 : Int) then
 (bif inb (List.getD code9 (Int.toNat pc10) ((0 : Int), ((0 : Int), ((0 : Int), (0 : Int))))).2.1 (List.length l17) then
 (bif room ((List.length l18) + (List.length ([((List.getD code9 (Int.toNat pc10) ((0 : Int), ((0 : Int), ((0 : Int), (0 : Int))))).2.1, List.getD l17 (Int.toNat (List.getD code9 (Int.toNat pc10) ((0 : Int), ((0 : Int), ((0 : Int), (0 : Int))))).2.1) (0 : Int))]))) then
 (bif inb (List.getD code9 (Int.toNat pc10) ((0 : Int), ((0 : Int), ((0 : Int), (0 : Int))))).2.2.1 (List.length l16) then
 (bif inb (List.getD code9 (Int.toNat pc10) ((0 : Int), ((0 : Int), ((0 : Int), (0 : Int))))).2.1 (List.length l17) then
 (T_spec_EagerRun_lp0_m N n (T_spec_EagerRun_lp0_sh code9 (iadd .i64 pc10 (1 : Int)) b14 l15 l16 (List.set l17 (Int.toNat (List.getD code9 (Int.toNat pc10) ((0 : Int), ((0 : Int), ((0 : Int), (0 : Int))))).2.1) (List.getD l16 (Int.toNat (List.getD code9 (Int.toNat pc10) ((0 : Int), ((0 : Int), ((0 : Int), (0 : Int))))).2.2.1) (0 : Int))) (List.append l18 ([((List.getD code9 (Int.toNat pc10) ((0 : Int), ((0 : Int), ((0 : Int), (0 : Int))))).2.1, List.getD l17 (Int.toNat (List.getD code9 (Int.toNat pc10) ((0 : Int), ((0 : Int), ((0 : Int), (0 : Int))))).2.1) (0 : Int))]))) K) else none) else none) else none) else none)
 else
 (bif (List.getD code9 (Int.toNat pc10) ((0 : Int), ((0 : Int), ((0 : Int), (0 : Int))))).1 == (7 : Int) then
 (bif inb (List.getD code9 (Int.toNat pc10) ((0 : Int), ((0 : Int), ((0 : Int), (0 : Int))))).2.1 (List.length l16) then
 (bif (List.getD l16 (Int.toNat (List.getD code9 (Int.toNat pc10) ((0 : Int), ((0 : Int), ((0 : Int), (0 : Int))))).2.1) (0 : Int)) == (0 : Int) then
 (T_spec_EagerRun_lp0_m N n (T_spec_EagerRun_lp0_sh code9 (iadd .i64 (iadd .i64 pc10 (1 : Int)) (List.getD code9 (Int.toNat pc10) ((0 : Int), ((0 : Int), ((0 : Int), (0 : Int))))).2.2.1) b14 l15 l16 l17 l18) K)
 else
 (T_spec_EagerRun_lp0_m N n (T_spec_EagerRun_lp0_sh code9 (iadd .i64 pc10 (1 : Int)) b14 l15 l16 l17 l18) K)) else none)
 else
 (bif (List.getD code9 (Int.toNat pc10) ((0 : Int), ((0 : Int), ((0 : Int), (0 : Int))))).1 == (8 : Int) then
 ((T_spec_l15Ints N l16).bind fun o46 =>
 (bif room ((List.length l15) + (List.length ([(pc10, (o46.2.1, ilen l18))]))) then
 (T_spec_EagerRun_lp0_m N n (T_spec_EagerRun_lp0_sh code9 (iadd .i64 pc10 (1 : Int)) b14 (List.append l15 ([(pc10, (o46.2.1, ilen l18))])) l16 l17 l18) K) else none))
 else
 (bif (List.getD code9 (Int.toNat pc10) ((0 : Int), ((0 : Int), ((0 : Int), (0 : Int))))).1 == (9 : Int) then
 (bif inb (isub .i64 (ilen l15) (1 : Int)) (List.length l15) then
 (bif (decide ((0 : Int) ≤ (isub .i64 (ilen l15) (1 : Int)))) && (decide ((isub .i64 (ilen l15) (1 : Int)) ≤ ((List.length l15) : Int))) then
 (bif inb (List.getD l15 (Int.toNat (isub .i64 (ilen l15) (1 : Int))) ((0 : Int), (([] : List Int), (0 : Int)))).1 (List.length code9) then
 (bif inb (List.getD code9 (Int.toNat (List.getD l15 (Int.toNat (isub .i64 (ilen l15) (1 : Int))) ((0 : Int), (([] : List Int), (0 : Int)))).1) ((0 : Int), ((0 : Int), ((0 : Int), (0 : Int))))).2.1 (List.length l16) then
 (T_spec_EagerRun_lp0_m N n (T_spec_EagerRun_lp0_sh code9 (iadd .i64 pc10 (1 : Int)) b14 (List.take (Int.toNat (isub .i64 (ilen l15) (1 : Int))) l15) (List.set l16 (Int.toNat (List.getD code9 (Int.toNat (List.getD l15 (Int.toNat (isub .i64 (ilen l15) (1 : Int))) ((0 : Int), (([] : List Int), (0 : Int)))).1) ((0 : Int), ((0 : Int), ((0 : Int), (0 : Int))))).2.1) (1 : Int)) l17 l18) K) else none) else none) else none) else none)
 else
 (bif (List.getD code9 (Int.toNat pc10) ((0 : Int), ((0 : Int), ((0 : Int), (0 : Int))))).1 == (10 : Int) then
 (bif decide ((ilen l15) > (0 : Int)) then
 (bif inb (isub .i64 (ilen l15) (1 : Int)) (List.length l15) then
 ((T_spec_EagerCut N l17 l18 (List.getD l15 (Int.toNat (isub .i64 (ilen l15) (1 : Int))) ((0 : Int), (([] : List Int), (0 : Int)))).2.2).bind fun o47 =>
 (bif (ilen l15) == (0 : Int) then
 (K .ret (T_spec_EagerRun_lp0_e0 code9 (isub .i64 (iadd .i64 b14 (ilen l18)) (List.getD l15 (Int.toNat (isub .i64 (ilen l15) (1 : Int))) ((0 : Int), (([] : List Int), (0 : Int)))).2.2) l16 o47.2.1 o47.2.2.1))
 else
 (bif inb (isub .i64 (ilen l15) (1 : Int)) (List.length l15) then
 (bif (decide ((0 : Int) ≤ (isub .i64 (ilen l15) (1 : Int)))) && (decide ((isub .i64 (ilen l15) (1 : Int)) ≤ ((List.length l15) : Int))) then
 ((T_spec_l15Ints N (List.getD l15 (Int.toNat (isub .i64 (ilen l15) (1 : Int))) ((0 : Int), (([] : List Int), (0 : Int)))).2.1).bind fun o48 =>
 (bif inb (List.getD l15 (Int.toNat (isub .i64 (ilen l15) (1 : Int))) ((0 : Int), (([] : List Int), (0 : Int)))).1 (List.length code9) then
 (bif inb (List.getD code9 (Int.toNat (List.getD l15 (Int.toNat (isub .i64 (ilen l15) (1 : Int))) ((0 : Int), (([] : List Int), (0 : Int)))).1) ((0 : Int), ((0 : Int), ((0 : Int), (0 : Int))))).2.1 (List.length o48.2.1) then
 ((T_spec_EndOf N code9 (List.getD l15 (Int.toNat (isub .i64 (ilen l15) (1 : Int))) ((0 : Int), (([] : List Int), (0 : Int)))).1).bind fun o49 =>
 (T_spec_EagerRun_lp0_m N n (T_spec_EagerRun_lp0_sh code9 (iadd .i64 o49.2.1 (1 : Int)) (isub .i64 (iadd .i64 b14 (ilen l18)) (List.getD l15 (Int.toNat (isub .i64 (ilen l15) (1 : Int))) ((0 : Int), (([] : List Int), (0 : Int)))).2.2) (List.take (Int.toNat (isub .i64 (ilen l15) (1 : Int))) l15) (List.set o48.2.1 (Int.toNat (List.getD code9 (Int.toNat (List.getD l15 (Int.toNat (isub .i64 (ilen l15) (1 : Int))) ((0 : Int), (([] : List Int), (0 : Int)))).1) ((0 : Int), ((0 : Int), ((0 : Int), (0 : Int))))).2.1) (0 : Int)) o47.2.1 o47.2.2.1) K)) else none) else none)) else none) else none))) else none)
 else
 ((T_spec_EagerCut N l17 l18 (0 : Int)).bind fun o50 =>
 (bif (ilen l15) == (0 : Int) then
 (K .ret (T_spec_EagerRun_lp0_e0 code9 (isub .i64 (iadd .i64 b14 (ilen l18)) (0 : Int)) l16 o50.2.1 o50.2.2.1))
 else
 (bif inb (isub .i64 (ilen l15) (1 : Int)) (List.length l15) then
 (bif (decide ((0 : Int) ≤ (isub .i64 (ilen l15) (1 : Int)))) && (decide ((isub .i64 (ilen l15) (1 : Int)) ≤ ((List.length l15) : Int))) then
 ((T_spec_l15Ints N (List.getD l15 (Int.toNat (isub .i64 (ilen l15) (1 : Int))) ((0 : Int), (([] : List Int), (0 : Int)))).2.1).bind fun o51 =>
 (bif inb (List.getD l15 (Int.toNat (isub .i64 (ilen l15) (1 : Int))) ((0 : Int), (([] : List Int), (0 : Int)))).1 (List.length code9) then
 (bif inb (List.getD code9 (Int.toNat (List.getD l15 (Int.toNat (isub .i64 (ilen l15) (1 : Int))) ((0 : Int), (([] : List Int), (0 : Int)))).1) ((0 : Int), ((0 : Int), ((0 : Int), (0 : Int))))).2.1 (List.length o51.2.1) then
 ((T_spec_EndOf N code9 (List.getD l15 (Int.toNat (isub .i64 (ilen l15) (1 : Int))) ((0 : Int), (([] : List Int), (0 : Int)))).1).bind fun o52 =>
 (T_spec_EagerRun_lp0_m N n (T_spec_EagerRun_lp0_sh code9 (iadd .i64 o52.2.1 (1 : Int)) (isub .i64 (iadd .i64 b14 (ilen l18)) (0 : Int)) (List.take (Int.toNat (isub .i64 (ilen l15) (1 : Int))) l15) (List.set o51.2.1 (Int.toNat (List.getD code9 (Int.toNat (List.getD l15 (Int.toNat (isub .i64 (ilen l15) (1 : Int))) ((0 : Int), (([] : List Int), (0 : Int)))).1) ((0 : Int), ((0 : Int), ((0 : Int), (0 : Int))))).2.1) (0 : Int)) o50.2.1 o50.2.2.1) K)) else none) else none)) else none) else none))))
 else
 ((T_spec_Calc N (List.getD code9 (Int.toNat pc10) ((0 : Int), ((0 : Int), ((0 : Int), (0 : Int))))) l16).bind fun o53 =>
 (T_spec_EagerRun_lp0_m N n (T_spec_EagerRun_lp0_sh code9 (iadd .i64 pc10 (1 : Int)) b14 l15 o53.2.1 l17 l18) K)))))))) else none)
 else
 (K (.exit 0) (T_spec_EagerRun_lp0_e1 code9 pc10 (decide (pc10 < (ilen code9))) b14 l15 l16 l17 l18))) := by kernel_rfl

theorem T_spec_EagerRun_lp0_eq (N : Nat) {R : Type} (code9 : List (Int × Int × Int × Int)) (K : Ex → St → Option R) : ∀ (n : Nat) (pc10 : Int) (b14 : Int) (l15 : List (Int × List Int × Int)) (l16 : List Int) (l17 : List Int) (l18 : List (Int × Int)), T_spec_EagerRun_lp0_m N n (T_spec_EagerRun_lp0_sh code9 pc10 b14 l15 l16 l17 l18) K = T_spec_EagerRun_lp0 N code9 (fun b35 l36 l37 l38 => (K .ret (T_spec_EagerRun_lp0_e0 code9 b35 l36 l37 l38))) (fun pc39 t40 b41 l42 l43 l44 l45 => (K (.exit 0) (T_spec_EagerRun_lp0_e1 code9 pc39 t40 b41 l42 l43 l44 l45))) n pc10 b14 l15 l16 l17 l18
  | 0, _, _, _, _, _, _ => rfl
  | n + 1, pc10, b14, l15, l16, l17, l18 => by rw [T_spec_EagerRun_lp0_step, T_spec_EagerRun_lp0]; (try simp only [T_spec_EagerRun_lp0_eq N code9 K n])

theorem T_spec_EagerRun_c1 (N : Nat) (code1 : List (Int × Int × Int × Int)) (b54 : Int) (l55 : List Int) (l56 : List Int) (l57 : List (Int × Int)) :
    ((ctxK (R := ODen (T_spec_EagerRun_sg N).ps × RDen (T_spec_EagerRun_sg N).rs) tab (T_spec_EagerRun_ctx N) T_spec_EagerRun_ann N (theCode Try.f38) [1, 1, 1, 1, 1, 0, 0] (retK tab (T_spec_EagerRun_sg N) Try.f38.results.toList some)) .ret (T_spec_EagerRun_lp0_e0 code1 b54 l55 l56 l57)) =
    (some (α := ODen (T_spec_EagerRun_sg N).ps × RDen (T_spec_EagerRun_sg N).rs) ((), (((2 : Int), (l55, (l56, (l57, b54)))), ()))) := by kernel_rfl

theorem T_spec_EagerRun_c2 (N : Nat) (code1 : List (Int × Int × Int × Int)) (pc58 : Int) (t59 : Bool) (b60 : Int) (l61 : List (Int × List Int × Int)) (l62 : List Int) (l63 : List Int) (l64 : List (Int × Int)) :
    ((ctxK (R := ODen (T_spec_EagerRun_sg N).ps × RDen (T_spec_EagerRun_sg N).rs) tab (T_spec_EagerRun_ctx N) T_spec_EagerRun_ann N (theCode Try.f38) [1, 1, 1, 1, 1, 0, 0] (retK tab (T_spec_EagerRun_sg N) Try.f38.results.toList some)) (.exit 0) (T_spec_EagerRun_lp0_e1 code1 pc58 t59 b60 l61 l62 l63 l64)) =
    (some (α := ODen (T_spec_EagerRun_sg N).ps × RDen (T_spec_EagerRun_sg N).rs) ((), (((1 : Int), (l62, (l63, (l64, b60)))), ()))) := by kernel_rfl

theorem T_spec_EagerRun_den (N : Nat) (code1 : List (Int × Int × Int × Int)) (regs2 : List Int) (cells3 : List Int) :
    den (R := ODen (T_spec_EagerRun_sg N).ps × RDen (T_spec_EagerRun_sg N).rs) tab (T_spec_EagerRun_ctx N) T_spec_EagerRun_ann N (T_spec_EagerRun_sg N) Try.f38 (code1, regs2, cells3, ()) some =
    ((T_spec_KidOk N code1).bind fun o4 =>
 (bif !o4.2.1 then
 (some (α := ODen (T_spec_EagerRun_sg N).ps × RDen (T_spec_EagerRun_sg N).rs) ((), (((0 : Int), (([] : List Int), (([] : List Int), (([] : List (Int × Int)), (0 : Int))))), ())))
 else
 ((T_spec_l4Regs N regs2).bind fun o5 =>
 (bif !o5.2.1 then
 (some (α := ODen (T_spec_EagerRun_sg N).ps × RDen (T_spec_EagerRun_sg N).rs) ((), (((0 : Int), (([] : List Int), (([] : List Int), (([] : List (Int × Int)), (0 : Int))))), ())))
 else
 ((T_spec_l3Vals N cells3).bind fun o6 =>
 (bif !o6.2.1 then
 (some (α := ODen (T_spec_EagerRun_sg N).ps × RDen (T_spec_EagerRun_sg N).rs) ((), (((0 : Int), (([] : List Int), (([] : List Int), (([] : List (Int × Int)), (0 : Int))))), ())))
 else
 ((T_spec_l15Ints N regs2).bind fun o7 =>
 ((T_spec_l15Ints N cells3).bind fun o8 =>
 (T_spec_EagerRun_lp0 N code1
 (fun b54 l55 l56 l57 =>
   (some (α := ODen (T_spec_EagerRun_sg N).ps × RDen (T_spec_EagerRun_sg N).rs) ((), (((2 : Int), (l55, (l56, (l57, b54)))), ()))))
 (fun pc58 t59 b60 l61 l62 l63 l64 =>
   (some (α := ODen (T_spec_EagerRun_sg N).ps × RDen (T_spec_EagerRun_sg N).rs) ((), (((1 : Int), (l62, (l63, (l64, b60)))), ()))))
  N (0 : Int) (0 : Int) ([] : List (Int × List Int × Int)) o7.2.1 o8.2.1 ([] : List (Int × Int))))))))))) := by
  have h : den (R := ODen (T_spec_EagerRun_sg N).ps × RDen (T_spec_EagerRun_sg N).rs) tab (T_spec_EagerRun_ctx N) T_spec_EagerRun_ann N (T_spec_EagerRun_sg N) Try.f38 (code1, regs2, cells3, ()) some =
    ((T_spec_KidOk N code1).bind fun o4 =>
 (bif !o4.2.1 then
 (some (α := ODen (T_spec_EagerRun_sg N).ps × RDen (T_spec_EagerRun_sg N).rs) ((), (((0 : Int), (([] : List Int), (([] : List Int), (([] : List (Int × Int)), (0 : Int))))), ())))
 else
 ((T_spec_l4Regs N regs2).bind fun o5 =>
 (bif !o5.2.1 then
 (some (α := ODen (T_spec_EagerRun_sg N).ps × RDen (T_spec_EagerRun_sg N).rs) ((), (((0 : Int), (([] : List Int), (([] : List Int), (([] : List (Int × Int)), (0 : Int))))), ())))
 else
 ((T_spec_l3Vals N cells3).bind fun o6 =>
 (bif !o6.2.1 then
 (some (α := ODen (T_spec_EagerRun_sg N).ps × RDen (T_spec_EagerRun_sg N).rs) ((), (((0 : Int), (([] : List Int), (([] : List Int), (([] : List (Int × Int)), (0 : Int))))), ())))
 else
 ((T_spec_l15Ints N regs2).bind fun o7 =>
 ((T_spec_l15Ints N cells3).bind fun o8 =>
 (T_spec_EagerRun_lp0_m N N (T_spec_EagerRun_lp0_sh code1 (0 : Int) (0 : Int) ([] : List (Int × List Int × Int)) o7.2.1 o8.2.1 ([] : List (Int × Int))) (ctxK (R := ODen (T_spec_EagerRun_sg N).ps × RDen (T_spec_EagerRun_sg N).rs) tab (T_spec_EagerRun_ctx N) T_spec_EagerRun_ann N (theCode Try.f38) [1, 1, 1, 1, 1, 0, 0] (retK tab (T_spec_EagerRun_sg N) Try.f38.results.toList some))))))))))) := by kernel_rfl
  rw [h]
  (try simp only [T_spec_EagerRun_lp0_eq, T_spec_EagerRun_c1, T_spec_EagerRun_c2]) <;> rfl

theorem T_spec_EagerRun_ok (N : Nat) : chkBody Try.f38 (T_spec_EagerRun_sg N).ps = true := by kernel_rfl

theorem T_spec_EagerRun_callable : Callable Try.prog 38 := callable_of Try.func38 (show chkFn Try.f38 = true by kernel_rfl)

theorem T_spec_EagerRun_good (N : Nat) : Good Try.prog 38 (T_spec_EagerRun_sg N) :=
  good_body mixedOk tabOk (ctx_cons (T_spec_KidOk_good N) T_spec_KidOk_callable (ctx_cons (T_spec_l4Regs_good N) T_spec_l4Regs_callable (ctx_cons (T_spec_l3Vals_good N) T_spec_l3Vals_callable (ctx_cons (T_spec_l15Ints_good N) T_spec_l15Ints_callable (ctx_cons (T_spec_EagerCut_good N) T_spec_EagerCut_callable (ctx_cons (T_spec_EndOf_good N) T_spec_EndOf_callable (ctx_cons (T_spec_Calc_good N) T_spec_Calc_callable ctx_nil))))))) Try.func38 (T_spec_EagerRun_ok N) (fun d _ h => ⟨N, (T_spec_EagerRun_den N d.1 d.2.1 d.2.2.1).trans h⟩)

noncomputable def T_impl_within_sg (N : Nat) : Sig := Sig.of [.v (.int .i64) false, .v (.int .i64) false, .v (.int .i64) false] [.v (.bool) false] (fun d => T_impl_within N d.1 d.2.1 d.2.2.1)

def T_impl_within_ann : Nat → List Ghost
  | _ => []

noncomputable def T_impl_within_ctx (N : Nat) : Ctx := []

theorem T_impl_within_den (N : Nat) (x1 : Int) (lo2 : Int) (hi3 : Int) :
    den (R := ODen (T_impl_within_sg N).ps × RDen (T_impl_within_sg N).rs) tab (T_impl_within_ctx N) T_impl_within_ann N (T_impl_within_sg N) Try.f61 (x1, lo2, hi3, ()) some =
    (T_impl_within N x1 lo2 hi3 : Option (ODen (T_impl_within_sg N).ps × RDen (T_impl_within_sg N).rs)) := by kernel_rfl

theorem T_impl_within_ok (N : Nat) : chkBody Try.f61 (T_impl_within_sg N).ps = true := by kernel_rfl

theorem T_impl_within_callable : Callable Try.prog 61 := callable_of Try.func61 (show chkFn Try.f61 = true by kernel_rfl)

theorem T_impl_within_good (N : Nat) : Good Try.prog 61 (T_impl_within_sg N) :=
  good_body mixedOk tabOk ctx_nil Try.func61 (T_impl_within_ok N) (fun d _ h => ⟨N, (T_impl_within_den N d.1 d.2.1 d.2.2.1).trans h⟩)

noncomputable def T_impl_isReg_sg (N : Nat) : Sig := Sig.of [.v (.int .i64) false] [.v (.bool) false] (fun d => T_impl_isReg N d.1)

def T_impl_isReg_ann : Nat → List Ghost
  | _ => []

noncomputable def T_impl_isReg_ctx (N : Nat) : Ctx := [(61, T_impl_within_sg N)]

theorem T_impl_isReg_den (N : Nat) (r1 : Int) :
    den (R := ODen (T_impl_isReg_sg N).ps × RDen (T_impl_isReg_sg N).rs) tab (T_impl_isReg_ctx N) T_impl_isReg_ann N (T_impl_isReg_sg N) Try.f187 (r1, ()) some =
    (T_impl_isReg N r1 : Option (ODen (T_impl_isReg_sg N).ps × RDen (T_impl_isReg_sg N).rs)) := by kernel_rfl

theorem T_impl_isReg_ok (N : Nat) : chkBody Try.f187 (T_impl_isReg_sg N).ps = true := by kernel_rfl

theorem T_impl_isReg_callable : Callable Try.prog 187 := callable_of Try.func187 (show chkFn Try.f187 = true by kernel_rfl)

theorem T_impl_isReg_good (N : Nat) : Good Try.prog 187 (T_impl_isReg_sg N) :=
  good_body mixedOk tabOk (ctx_cons (T_impl_within_good N) T_impl_within_callable ctx_nil) Try.func187 (T_impl_isReg_ok N) (fun d _ h => ⟨N, (T_impl_isReg_den N d.1).trans h⟩)

noncomputable def T_impl_isValue_sg (N : Nat) : Sig := Sig.of [.v (.int .i64) false] [.v (.bool) false] (fun d => T_impl_isValue N d.1)

def T_impl_isValue_ann : Nat → List Ghost
  | _ => []

noncomputable def T_impl_isValue_ctx (N : Nat) : Ctx := [(61, T_impl_within_sg N)]

theorem T_impl_isValue_den (N : Nat) (v1 : Int) :
    den (R := ODen (T_impl_isValue_sg N).ps × RDen (T_impl_isValue_sg N).rs) tab (T_impl_isValue_ctx N) T_impl_isValue_ann N (T_impl_isValue_sg N) Try.f143 (v1, ()) some =
    (T_impl_isValue N v1 : Option (ODen (T_impl_isValue_sg N).ps × RDen (T_impl_isValue_sg N).rs)) := by kernel_rfl

theorem T_impl_isValue_ok (N : Nat) : chkBody Try.f143 (T_impl_isValue_sg N).ps = true := by kernel_rfl

theorem T_impl_isValue_callable : Callable Try.prog 143 := callable_of Try.func143 (show chkFn Try.f143 = true by kernel_rfl)

theorem T_impl_isValue_good (N : Nat) : Good Try.prog 143 (T_impl_isValue_sg N) :=
  good_body mixedOk tabOk (ctx_cons (T_impl_within_good N) T_impl_within_callable ctx_nil) Try.func143 (T_impl_isValue_ok N) (fun d _ h => ⟨N, (T_impl_isValue_den N d.1).trans h⟩)

noncomputable def T_impl_isCell_sg (N : Nat) : Sig := Sig.of [.v (.int .i64) false] [.v (.bool) false] (fun d => T_impl_isCell N d.1)

def T_impl_isCell_ann : Nat → List Ghost
  | _ => []

noncomputable def T_impl_isCell_ctx (N : Nat) : Ctx := [(61, T_impl_within_sg N)]

theorem T_impl_isCell_den (N : Nat) (i1 : Int) :
    den (R := ODen (T_impl_isCell_sg N).ps × RDen (T_impl_isCell_sg N).rs) tab (T_impl_isCell_ctx N) T_impl_isCell_ann N (T_impl_isCell_sg N) Try.f161 (i1, ()) some =
    (T_impl_isCell N i1 : Option (ODen (T_impl_isCell_sg N).ps × RDen (T_impl_isCell_sg N).rs)) := by kernel_rfl

theorem T_impl_isCell_ok (N : Nat) : chkBody Try.f161 (T_impl_isCell_sg N).ps = true := by kernel_rfl

theorem T_impl_isCell_callable : Callable Try.prog 161 := callable_of Try.func161 (show chkFn Try.f161 = true by kernel_rfl)

theorem T_impl_isCell_good (N : Nat) : Good Try.prog 161 (T_impl_isCell_sg N) :=
  good_body mixedOk tabOk (ctx_cons (T_impl_within_good N) T_impl_within_callable ctx_nil) Try.func161 (T_impl_isCell_ok N) (fun d _ h => ⟨N, (T_impl_isCell_den N d.1).trans h⟩)

noncomputable def T_impl_isKey_sg (N : Nat) : Sig := Sig.of [.v (.int .i64) false] [.v (.bool) false] (fun d => T_impl_isKey N d.1)

def T_impl_isKey_ann : Nat → List Ghost
  | _ => []

noncomputable def T_impl_isKey_ctx (N : Nat) : Ctx := [(61, T_impl_within_sg N)]

theorem T_impl_isKey_den (N : Nat) (k1 : Int) :
    den (R := ODen (T_impl_isKey_sg N).ps × RDen (T_impl_isKey_sg N).rs) tab (T_impl_isKey_ctx N) T_impl_isKey_ann N (T_impl_isKey_sg N) Try.f188 (k1, ()) some =
    (T_impl_isKey N k1 : Option (ODen (T_impl_isKey_sg N).ps × RDen (T_impl_isKey_sg N).rs)) := by kernel_rfl

theorem T_impl_isKey_ok (N : Nat) : chkBody Try.f188 (T_impl_isKey_sg N).ps = true := by kernel_rfl

theorem T_impl_isKey_callable : Callable Try.prog 188 := callable_of Try.func188 (show chkFn Try.f188 = true by kernel_rfl)

theorem T_impl_isKey_good (N : Nat) : Good Try.prog 188 (T_impl_isKey_sg N) :=
  good_body mixedOk tabOk (ctx_cons (T_impl_within_good N) T_impl_within_callable ctx_nil) Try.func188 (T_impl_isKey_ok N) (fun d _ h => ⟨N, (T_impl_isKey_den N d.1).trans h⟩)

noncomputable def T_impl_OpOk_sg (N : Nat) : Sig := Sig.of [.v (.prod (.int .i64) (.prod (.int .i64) (.prod (.int .i64) (.int .i64)))) true] [.v (.bool) false] (fun d => T_impl_OpOk N d.1)

def T_impl_OpOk_ann : Nat → List Ghost
  | _ => []

noncomputable def T_impl_OpOk_ctx (N : Nat) : Ctx := [(187, T_impl_isReg_sg N), (143, T_impl_isValue_sg N), (161, T_impl_isCell_sg N), (61, T_impl_within_sg N), (188, T_impl_isKey_sg N)]

theorem T_impl_OpOk_den (N : Nat) (o1 : Int × Int × Int × Int) :
    den (R := ODen (T_impl_OpOk_sg N).ps × RDen (T_impl_OpOk_sg N).rs) tab (T_impl_OpOk_ctx N) T_impl_OpOk_ann N (T_impl_OpOk_sg N) Try.f178 (o1, ()) some =
    (T_impl_OpOk N o1 : Option (ODen (T_impl_OpOk_sg N).ps × RDen (T_impl_OpOk_sg N).rs)) := by kernel_rfl

theorem T_impl_OpOk_ok (N : Nat) : chkBody Try.f178 (T_impl_OpOk_sg N).ps = true := by kernel_rfl

theorem T_impl_OpOk_callable : Callable Try.prog 178 := callable_of Try.func178 (show chkFn Try.f178 = true by kernel_rfl)

theorem T_impl_OpOk_good (N : Nat) : Good Try.prog 178 (T_impl_OpOk_sg N) :=
  good_body mixedOk tabOk (ctx_cons (T_impl_isReg_good N) T_impl_isReg_callable (ctx_cons (T_impl_isValue_good N) T_impl_isValue_callable (ctx_cons (T_impl_isCell_good N) T_impl_isCell_callable (ctx_cons (T_impl_within_good N) T_impl_within_callable (ctx_cons (T_impl_isKey_good N) T_impl_isKey_callable ctx_nil))))) Try.func178 (T_impl_OpOk_ok N) (fun d _ h => ⟨N, (T_impl_OpOk_den N d.1).trans h⟩)

noncomputable def T_impl_Touches_sg (N : Nat) : Sig := Sig.of [.v (.prod (.int .i64) (.prod (.int .i64) (.prod (.int .i64) (.int .i64)))) true] [.v (.int .i64) false] (fun d => T_impl_Touches N d.1)

def T_impl_Touches_ann : Nat → List Ghost
  | _ => []

noncomputable def T_impl_Touches_ctx (N : Nat) : Ctx := [(178, T_impl_OpOk_sg N)]

theorem T_impl_Touches_den (N : Nat) (o1 : Int × Int × Int × Int) :
    den (R := ODen (T_impl_Touches_sg N).ps × RDen (T_impl_Touches_sg N).rs) tab (T_impl_Touches_ctx N) T_impl_Touches_ann N (T_impl_Touches_sg N) Try.f173 (o1, ()) some =
    (T_impl_Touches N o1 : Option (ODen (T_impl_Touches_sg N).ps × RDen (T_impl_Touches_sg N).rs)) := by kernel_rfl

theorem T_impl_Touches_ok (N : Nat) : chkBody Try.f173 (T_impl_Touches_sg N).ps = true := by kernel_rfl

theorem T_impl_Touches_callable : Callable Try.prog 173 := callable_of Try.func173 (show chkFn Try.f173 = true by kernel_rfl)

theorem T_impl_Touches_good (N : Nat) : Good Try.prog 173 (T_impl_Touches_sg N) :=
  good_body mixedOk tabOk (ctx_cons (T_impl_OpOk_good N) T_impl_OpOk_callable ctx_nil) Try.func173 (T_impl_Touches_ok N) (fun d _ h => ⟨N, (T_impl_Touches_den N d.1).trans h⟩)

noncomputable def T_impl_opens_sg (N : Nat) : Sig := Sig.of [.v (.prod (.int .i64) (.prod (.int .i64) (.prod (.int .i64) (.int .i64)))) true] [.v (.int .i64) false] (fun d => T_impl_opens N d.1)

def T_impl_opens_ann : Nat → List Ghost
  | _ => []

noncomputable def T_impl_opens_ctx (N : Nat) : Ctx := []

theorem T_impl_opens_den (N : Nat) (o1 : Int × Int × Int × Int) :
    den (R := ODen (T_impl_opens_sg N).ps × RDen (T_impl_opens_sg N).rs) tab (T_impl_opens_ctx N) T_impl_opens_ann N (T_impl_opens_sg N) Try.f177 (o1, ()) some =
    (T_impl_opens N o1 : Option (ODen (T_impl_opens_sg N).ps × RDen (T_impl_opens_sg N).rs)) := by kernel_rfl

theorem T_impl_opens_ok (N : Nat) : chkBody Try.f177 (T_impl_opens_sg N).ps = true := by kernel_rfl

theorem T_impl_opens_callable : Callable Try.prog 177 := callable_of Try.func177 (show chkFn Try.f177 = true by kernel_rfl)

theorem T_impl_opens_good (N : Nat) : Good Try.prog 177 (T_impl_opens_sg N) :=
  good_body mixedOk tabOk ctx_nil Try.func177 (T_impl_opens_ok N) (fun d _ h => ⟨N, (T_impl_opens_den N d.1).trans h⟩)

noncomputable def T_impl_isBalanced_sg (N : Nat) : Sig := Sig.of [.v (.slice (.prod (.int .i64) (.prod (.int .i64) (.prod (.int .i64) (.int .i64))))) false] [.v (.bool) false] (fun d => T_impl_isBalanced N d.1)

def T_impl_isBalanced_ann : Nat → List Ghost
  | 3 => [.canon [3, 6, 7, 8, 9]]
  | 4 => [.canon [3, 5, 6, 7, 8]]
  | 5 => [.canon [3, 6, 7, 8]]
  | 6 => [.canon [3, 6, 7, 8, 17]]
  | 7 => [.canon [2]]
  | 8 => [.canon [3, 6, 7, 8]]
  | 100003 => [.canon [3, 6, 7, 8]]
  | _ => []

noncomputable def T_impl_isBalanced_ctx (N : Nat) : Ctx := [(177, T_impl_opens_sg N)]

def T_impl_isBalanced_lp0_sh (n2 : Int) (t3 : List (Int × Int × Int × Int)) (t5 : Int) : St := { env := [(3, .s (.one (.val (.int .i64) (n2 : Int)))), (6, .s (.one (.val (.slice (.prod (.int .i64) (.prod (.int .i64) (.prod (.int .i64) (.int .i64))))) (t3 : List (Int × Int × Int × Int))))), (7, .s (.one (.val (.int .i64) (ilen t3 : Int)))), (8, .s (.one (.val (.int .i64) (t5 : Int))))], objs := [], nx := 0 }

def T_impl_isBalanced_lp0_e0 (t3 : List (Int × Int × Int × Int)) : St := { env := [(2, .s (.one (.val (.bool) (false : Bool))))], objs := [], nx := 0 }

def T_impl_isBalanced_lp0_e1 (t3 : List (Int × Int × Int × Int)) (n8 : Int) (t9 : Int) (t10 : Bool) : St := { env := [(3, .s (.one (.val (.int .i64) (n8 : Int)))), (6, .s (.one (.val (.slice (.prod (.int .i64) (.prod (.int .i64) (.prod (.int .i64) (.int .i64))))) (t3 : List (Int × Int × Int × Int))))), (7, .s (.one (.val (.int .i64) (ilen t3 : Int)))), (8, .s (.one (.val (.int .i64) (t9 : Int)))), (9, .s (.one (.val (.bool) (t10 : Bool))))], objs := [], nx := 0 }

noncomputable def T_impl_isBalanced_lp0_m (N : Nat) {R : Type} (n : Nat) (st : St) (K : Ex → St → Option R) : Option R := loopN (roundG (T_impl_isBalanced_ann 100003) fun st k => sx tab (T_impl_isBalanced_ctx N) T_impl_isBalanced_ann N (nthLoop Try.f185 0) st k) n st K

theorem T_impl_isBalanced_lp0_step (N : Nat) {R : Type} (n : Nat) (K : Ex → St → Option R) (n2 : Int) (t3 : List (Int × Int × Int × Int)) (t5 : Int) :
    T_impl_isBalanced_lp0_m N (n + 1) (T_impl_isBalanced_lp0_sh n2 t3 t5) K =
    (bif decide (t5 < (ilen t3)) then
 (bif inb t5 (List.length t3) then
 ((T_impl_opens N (List.getD t3 (Int.toNat t5) ((0 : Int), ((0 : Int), ((0 : Int), (0 : Int)))))).bind fun o11 =>
 (bif decide ((iadd .i64 n2 o11.2.1) < (0 : Int)) then
 (K .ret (T_impl_isBalanced_lp0_e0 t3))
 else
 (T_impl_isBalanced_lp0_m N n (T_impl_isBalanced_lp0_sh (iadd .i64 n2 o11.2.1) t3 (iadd .i64 t5 (1 : Int))) K))) else none)
 else
 (K (.exit 0) (T_impl_isBalanced_lp0_e1 t3 n2 t5 (decide (t5 < (ilen t3)))))) := by kernel_rfl

theorem T_impl_isBalanced_lp0_eq (N : Nat) {R : Type} (t3 : List (Int × Int × Int × Int)) (K : Ex → St → Option R) : ∀ (n : Nat) (n2 : Int) (t5 : Int), T_impl_isBalanced_lp0_m N n (T_impl_isBalanced_lp0_sh n2 t3 t5) K = T_impl_isBalanced_lp0 N t3 (K .ret (T_impl_isBalanced_lp0_e0 t3)) (fun n8 t9 t10 => (K (.exit 0) (T_impl_isBalanced_lp0_e1 t3 n8 t9 t10))) n n2 t5
  | 0, _, _ => rfl
  | n + 1, n2, t5 => by rw [T_impl_isBalanced_lp0_step, T_impl_isBalanced_lp0]; (try simp only [T_impl_isBalanced_lp0_eq N t3 K n])

theorem T_impl_isBalanced_c1 (N : Nat) (code1 : List (Int × Int × Int × Int)) :
    ((ctxK (R := ODen (T_impl_isBalanced_sg N).ps × RDen (T_impl_isBalanced_sg N).rs) tab (T_impl_isBalanced_ctx N) T_impl_isBalanced_ann N (theCode Try.f185) [1, 1, 0, 1, 0] (retK tab (T_impl_isBalanced_sg N) Try.f185.results.toList some)) .ret (T_impl_isBalanced_lp0_e0 code1)) =
    (some (α := ODen (T_impl_isBalanced_sg N).ps × RDen (T_impl_isBalanced_sg N).rs) ((), (false, ()))) := by kernel_rfl

theorem T_impl_isBalanced_c2 (N : Nat) (code1 : List (Int × Int × Int × Int)) (n12 : Int) (t13 : Int) (t14 : Bool) :
    ((ctxK (R := ODen (T_impl_isBalanced_sg N).ps × RDen (T_impl_isBalanced_sg N).rs) tab (T_impl_isBalanced_ctx N) T_impl_isBalanced_ann N (theCode Try.f185) [1, 1, 0, 1, 0] (retK tab (T_impl_isBalanced_sg N) Try.f185.results.toList some)) (.exit 0) (T_impl_isBalanced_lp0_e1 code1 n12 t13 t14)) =
    (some (α := ODen (T_impl_isBalanced_sg N).ps × RDen (T_impl_isBalanced_sg N).rs) ((), (n12 == (0 : Int), ()))) := by kernel_rfl

theorem T_impl_isBalanced_den (N : Nat) (code1 : List (Int × Int × Int × Int)) :
    den (R := ODen (T_impl_isBalanced_sg N).ps × RDen (T_impl_isBalanced_sg N).rs) tab (T_impl_isBalanced_ctx N) T_impl_isBalanced_ann N (T_impl_isBalanced_sg N) Try.f185 (code1, ()) some =
    (T_impl_isBalanced_lp0 N code1
 (some (α := ODen (T_impl_isBalanced_sg N).ps × RDen (T_impl_isBalanced_sg N).rs) ((), (false, ())))
 (fun n12 t13 t14 =>
   (some (α := ODen (T_impl_isBalanced_sg N).ps × RDen (T_impl_isBalanced_sg N).rs) ((), (n12 == (0 : Int), ()))))
  N (0 : Int) (0 : Int)) := by
  have h : den (R := ODen (T_impl_isBalanced_sg N).ps × RDen (T_impl_isBalanced_sg N).rs) tab (T_impl_isBalanced_ctx N) T_impl_isBalanced_ann N (T_impl_isBalanced_sg N) Try.f185 (code1, ()) some =
    (T_impl_isBalanced_lp0_m N N (T_impl_isBalanced_lp0_sh (0 : Int) code1 (0 : Int)) (ctxK (R := ODen (T_impl_isBalanced_sg N).ps × RDen (T_impl_isBalanced_sg N).rs) tab (T_impl_isBalanced_ctx N) T_impl_isBalanced_ann N (theCode Try.f185) [1, 1, 0, 1, 0] (retK tab (T_impl_isBalanced_sg N) Try.f185.results.toList some))) := by kernel_rfl
  rw [h]
  (try simp only [T_impl_isBalanced_lp0_eq, T_impl_isBalanced_c1, T_impl_isBalanced_c2]) <;> rfl

theorem T_impl_isBalanced_ok (N : Nat) : chkBody Try.f185 (T_impl_isBalanced_sg N).ps = true := by kernel_rfl

theorem T_impl_isBalanced_callable : Callable Try.prog 185 := callable_of Try.func185 (show chkFn Try.f185 = true by kernel_rfl)

theorem T_impl_isBalanced_good (N : Nat) : Good Try.prog 185 (T_impl_isBalanced_sg N) :=
  good_body mixedOk tabOk (ctx_cons (T_impl_opens_good N) T_impl_opens_callable ctx_nil) Try.func185 (T_impl_isBalanced_ok N) (fun d _ h => ⟨N, (T_impl_isBalanced_den N d.1).trans h⟩)

noncomputable def T_impl_DepthAt_sg (N : Nat) : Sig := Sig.of [.v (.slice (.prod (.int .i64) (.prod (.int .i64) (.prod (.int .i64) (.int .i64))))) false, .v (.int .i64) false] [.v (.int .i64) false] (fun d => T_impl_DepthAt N d.1 d.2.1)

def T_impl_DepthAt_ann : Nat → List Ghost
  | 3 => [.canon [1, 5, 8, 9, 10, 11]]
  | 4 => [.canon [1, 5, 6, 7, 8, 9, 10]]
  | 5 => [.canon [1, 5, 7, 8, 9, 10, 17]]
  | 6 => [.canon [1, 5, 8, 9, 10]]
  | 7 => [.canon [1, 5, 8, 9, 10]]
  | 100003 => [.canon [1, 5, 8, 9, 10]]
  | _ => []

noncomputable def T_impl_DepthAt_ctx (N : Nat) : Ctx := [(177, T_impl_opens_sg N)]

def T_impl_DepthAt_lp0_sh (i3 : Int) (n4 : Int) (t5 : List (Int × Int × Int × Int)) (t7 : Int) : St := { env := [(1, .s (.one (.val (.int .i64) (i3 : Int)))), (5, .s (.one (.val (.int .i64) (n4 : Int)))), (8, .s (.one (.val (.slice (.prod (.int .i64) (.prod (.int .i64) (.prod (.int .i64) (.int .i64))))) (t5 : List (Int × Int × Int × Int))))), (9, .s (.one (.val (.int .i64) (ilen t5 : Int)))), (10, .s (.one (.val (.int .i64) (t7 : Int))))], objs := [], nx := 0 }

def T_impl_DepthAt_lp0_e0 (i3 : Int) (t5 : List (Int × Int × Int × Int)) (n10 : Int) (t11 : Int) (t12 : Bool) : St := { env := [(1, .s (.one (.val (.int .i64) (i3 : Int)))), (5, .s (.one (.val (.int .i64) (n10 : Int)))), (8, .s (.one (.val (.slice (.prod (.int .i64) (.prod (.int .i64) (.prod (.int .i64) (.int .i64))))) (t5 : List (Int × Int × Int × Int))))), (9, .s (.one (.val (.int .i64) (ilen t5 : Int)))), (10, .s (.one (.val (.int .i64) (t11 : Int)))), (11, .s (.one (.val (.bool) (t12 : Bool))))], objs := [], nx := 0 }

noncomputable def T_impl_DepthAt_lp0_m (N : Nat) {R : Type} (n : Nat) (st : St) (K : Ex → St → Option R) : Option R := loopN (roundG (T_impl_DepthAt_ann 100003) fun st k => sx tab (T_impl_DepthAt_ctx N) T_impl_DepthAt_ann N (nthLoop Try.f186 0) st k) n st K

theorem T_impl_DepthAt_lp0_step (N : Nat) {R : Type} (n : Nat) (K : Ex → St → Option R) (i3 : Int) (n4 : Int) (t5 : List (Int × Int × Int × Int)) (t7 : Int) :
    T_impl_DepthAt_lp0_m N (n + 1) (T_impl_DepthAt_lp0_sh i3 n4 t5 t7) K =
    (bif decide (t7 < (ilen t5)) then
 (bif inb t7 (List.length t5) then
 (bif decide (t7 < i3) then
 ((T_impl_opens N (List.getD t5 (Int.toNat t7) ((0 : Int), ((0 : Int), ((0 : Int), (0 : Int)))))).bind fun o13 =>
 (T_impl_DepthAt_lp0_m N n (T_impl_DepthAt_lp0_sh i3 (iadd .i64 n4 o13.2.1) t5 (iadd .i64 t7 (1 : Int))) K))
 else
 (T_impl_DepthAt_lp0_m N n (T_impl_DepthAt_lp0_sh i3 n4 t5 (iadd .i64 t7 (1 : Int))) K)) else none)
 else
 (K (.exit 0) (T_impl_DepthAt_lp0_e0 i3 t5 n4 t7 (decide (t7 < (ilen t5)))))) := by kernel_rfl

theorem T_impl_DepthAt_lp0_eq (N : Nat) {R : Type} (i3 : Int) (t5 : List (Int × Int × Int × Int)) (K : Ex → St → Option R) : ∀ (n : Nat) (n4 : Int) (t7 : Int), T_impl_DepthAt_lp0_m N n (T_impl_DepthAt_lp0_sh i3 n4 t5 t7) K = T_impl_DepthAt_lp0 N i3 t5 (fun n10 t11 t12 => (K (.exit 0) (T_impl_DepthAt_lp0_e0 i3 t5 n10 t11 t12))) n n4 t7
  | 0, _, _ => rfl
  | n + 1, n4, t7 => by rw [T_impl_DepthAt_lp0_step, T_impl_DepthAt_lp0]; (try simp only [T_impl_DepthAt_lp0_eq N i3 t5 K n])

theorem T_impl_DepthAt_c1 (N : Nat) (i2 : Int) (code1 : List (Int × Int × Int × Int)) (n14 : Int) (t15 : Int) (t16 : Bool) :
    ((ctxK (R := ODen (T_impl_DepthAt_sg N).ps × RDen (T_impl_DepthAt_sg N).rs) tab (T_impl_DepthAt_ctx N) T_impl_DepthAt_ann N (theCode Try.f186) [1, 1, 0, 1, 0] (retK tab (T_impl_DepthAt_sg N) Try.f186.results.toList some)) (.exit 0) (T_impl_DepthAt_lp0_e0 i2 code1 n14 t15 t16)) =
    (some (α := ODen (T_impl_DepthAt_sg N).ps × RDen (T_impl_DepthAt_sg N).rs) ((), (n14, ()))) := by kernel_rfl

theorem T_impl_DepthAt_den (N : Nat) (code1 : List (Int × Int × Int × Int)) (i2 : Int) :
    den (R := ODen (T_impl_DepthAt_sg N).ps × RDen (T_impl_DepthAt_sg N).rs) tab (T_impl_DepthAt_ctx N) T_impl_DepthAt_ann N (T_impl_DepthAt_sg N) Try.f186 (code1, i2, ()) some =
    (T_impl_DepthAt_lp0 N i2 code1
 (fun n14 t15 t16 =>
   (some (α := ODen (T_impl_DepthAt_sg N).ps × RDen (T_impl_DepthAt_sg N).rs) ((), (n14, ()))))
  N (0 : Int) (0 : Int)) := by
  have h : den (R := ODen (T_impl_DepthAt_sg N).ps × RDen (T_impl_DepthAt_sg N).rs) tab (T_impl_DepthAt_ctx N) T_impl_DepthAt_ann N (T_impl_DepthAt_sg N) Try.f186 (code1, i2, ()) some =
    (T_impl_DepthAt_lp0_m N N (T_impl_DepthAt_lp0_sh i2 (0 : Int) code1 (0 : Int)) (ctxK (R := ODen (T_impl_DepthAt_sg N).ps × RDen (T_impl_DepthAt_sg N).rs) tab (T_impl_DepthAt_ctx N) T_impl_DepthAt_ann N (theCode Try.f186) [1, 1, 0, 1, 0] (retK tab (T_impl_DepthAt_sg N) Try.f186.results.toList some))) := by kernel_rfl
  rw [h]
  (try simp only [T_impl_DepthAt_lp0_eq, T_impl_DepthAt_c1]) <;> rfl

theorem T_impl_DepthAt_ok (N : Nat) : chkBody Try.f186 (T_impl_DepthAt_sg N).ps = true := by kernel_rfl

theorem T_impl_DepthAt_callable : Callable Try.prog 186 := callable_of Try.func186 (show chkFn Try.f186 = true by kernel_rfl)

theorem T_impl_DepthAt_good (N : Nat) : Good Try.prog 186 (T_impl_DepthAt_sg N) :=
  good_body mixedOk tabOk (ctx_cons (T_impl_opens_good N) T_impl_opens_callable ctx_nil) Try.func186 (T_impl_DepthAt_ok N) (fun d _ h => ⟨N, (T_impl_DepthAt_den N d.1 d.2.1).trans h⟩)

noncomputable def T_impl_CodeOk_sg (N : Nat) : Sig := Sig.of [.v (.slice (.prod (.int .i64) (.prod (.int .i64) (.prod (.int .i64) (.int .i64))))) false] [.v (.bool) false] (fun d => T_impl_CodeOk N d.1)

def T_impl_CodeOk_ann : Nat → List Ghost
  | 5 => [.canon [0, 3, 14, 15, 16, 17]]
  | 6 => [.canon [0, 3, 4, 5, 14, 15, 16]]
  | 7 => [.canon [0, 3, 4, 5, 14, 15, 16, 23]]
  | 8 => [.canon [2]]
  | 9 => [.canon [0, 3, 4, 5, 14, 15, 16, 25]]
  | 10 => [.canon [0, 3, 4, 5, 14, 15, 16, 25, 26]]
  | 11 => [.canon [0, 3, 14, 15, 16, 48]]
  | 12 => [.canon [2]]
  | 13 => [.canon [0, 3, 4, 14, 15, 16, 49]]
  | 14 => [.canon [0, 3, 4, 14, 15, 16]]
  | 15 => [.canon [0, 3, 14, 15, 16, 60]]
  | 16 => [.canon [2]]
  | 17 => [.canon [0, 3, 14, 15, 16]]
  | 100005 => [.canon [0, 3, 14, 15, 16]]
  | _ => []

noncomputable def T_impl_CodeOk_ctx (N : Nat) : Ctx := [(185, T_impl_isBalanced_sg N), (178, T_impl_OpOk_sg N), (186, T_impl_DepthAt_sg N)]

def T_impl_CodeOk_lp0_sh (code3 : List (Int × Int × Int × Int)) (forks4 : Int) (t7 : Int) : St := { env := [(0, .s (.one (.val (.slice (.prod (.int .i64) (.prod (.int .i64) (.prod (.int .i64) (.int .i64))))) (code3 : List (Int × Int × Int × Int))))), (3, .s (.one (.val (.int .i64) (forks4 : Int)))), (14, .s (.one (.val (.slice (.prod (.int .i64) (.prod (.int .i64) (.prod (.int .i64) (.int .i64))))) (code3 : List (Int × Int × Int × Int))))), (15, .s (.one (.val (.int .i64) (ilen code3 : Int)))), (16, .s (.one (.val (.int .i64) (t7 : Int))))], objs := [], nx := 0 }

def T_impl_CodeOk_lp0_e0 (code3 : List (Int × Int × Int × Int)) : St := { env := [(2, .s (.one (.val (.bool) (false : Bool))))], objs := [], nx := 0 }

def T_impl_CodeOk_lp0_e1 (code3 : List (Int × Int × Int × Int)) (forks14 : Int) (t15 : Int) (t16 : Bool) : St := { env := [(0, .s (.one (.val (.slice (.prod (.int .i64) (.prod (.int .i64) (.prod (.int .i64) (.int .i64))))) (code3 : List (Int × Int × Int × Int))))), (3, .s (.one (.val (.int .i64) (forks14 : Int)))), (14, .s (.one (.val (.slice (.prod (.int .i64) (.prod (.int .i64) (.prod (.int .i64) (.int .i64))))) (code3 : List (Int × Int × Int × Int))))), (15, .s (.one (.val (.int .i64) (ilen code3 : Int)))), (16, .s (.one (.val (.int .i64) (t15 : Int)))), (17, .s (.one (.val (.bool) (t16 : Bool))))], objs := [], nx := 0 }

noncomputable def T_impl_CodeOk_lp0_m (N : Nat) {R : Type} (n : Nat) (st : St) (K : Ex → St → Option R) : Option R := loopN (roundG (T_impl_CodeOk_ann 100005) fun st k => sx tab (T_impl_CodeOk_ctx N) T_impl_CodeOk_ann N (nthLoop Try.f174 0) st k) n st K

theorem T_impl_CodeOk_lp0_step (N : Nat) {R : Type} (n : Nat) (K : Ex → St → Option R) (code3 : List (Int × Int × Int × Int)) (forks4 : Int) (t7 : Int) :
    T_impl_CodeOk_lp0_m N (n + 1) (T_impl_CodeOk_lp0_sh code3 forks4 t7) K =
    (bif decide (t7 < (ilen code3)) then
 (bif inb t7 (List.length code3) then
 ((T_impl_OpOk N (List.getD code3 (Int.toNat t7) ((0 : Int), ((0 : Int), ((0 : Int), (0 : Int)))))).bind fun o17 =>
 (bif !o17.2.1 then
 (K .ret (T_impl_CodeOk_lp0_e0 code3))
 else
 (bif (List.getD code3 (Int.toNat t7) ((0 : Int), ((0 : Int), ((0 : Int), (0 : Int))))).1 == (7 : Int) then
 (bif decide ((iadd .i64 (iadd .i64 t7 (1 : Int)) (List.getD code3 (Int.toNat t7) ((0 : Int), ((0 : Int), ((0 : Int), (0 : Int))))).2.2.1) > (ilen code3)) then
 (K .ret (T_impl_CodeOk_lp0_e0 code3))
 else
 (bif (((decide ((0 : Int) ≤ (iadd .i64 (iadd .i64 t7 (1 : Int)) (List.getD code3 (Int.toNat t7) ((0 : Int), ((0 : Int), ((0 : Int), (0 : Int))))).2.2.1))) && (decide ((iadd .i64 (iadd .i64 t7 (1 : Int)) (List.getD code3 (Int.toNat t7) ((0 : Int), ((0 : Int), ((0 : Int), (0 : Int))))).2.2.1) ≤ ((List.length code3) : Int)))) && (decide ((0 : Int) ≤ (iadd .i64 t7 (1 : Int))))) && (decide ((iadd .i64 t7 (1 : Int)) ≤ (iadd .i64 (iadd .i64 t7 (1 : Int)) (List.getD code3 (Int.toNat t7) ((0 : Int), ((0 : Int), ((0 : Int), (0 : Int))))).2.2.1))) then
 ((T_impl_isBalanced N (List.drop (Int.toNat (iadd .i64 t7 (1 : Int))) (List.take (Int.toNat (iadd .i64 (iadd .i64 t7 (1 : Int)) (List.getD code3 (Int.toNat t7) ((0 : Int), ((0 : Int), ((0 : Int), (0 : Int))))).2.2.1)) code3))).bind fun o18 =>
 (bif !o18.2.1 then
 (K .ret (T_impl_CodeOk_lp0_e0 code3))
 else
 (T_impl_CodeOk_lp0_m N n (T_impl_CodeOk_lp0_sh code3 forks4 (iadd .i64 t7 (1 : Int))) K))) else none))
 else
 (bif (List.getD code3 (Int.toNat t7) ((0 : Int), ((0 : Int), ((0 : Int), (0 : Int))))).1 == (11 : Int) then
 (bif decide ((iadd .i64 forks4 (1 : Int)) > (1 : Int)) then
 (K .ret (T_impl_CodeOk_lp0_e0 code3))
 else
 ((T_impl_DepthAt N code3 t7).bind fun o19 =>
 (bif o19.2.1 != (0 : Int) then
 (K .ret (T_impl_CodeOk_lp0_e0 code3))
 else
 (T_impl_CodeOk_lp0_m N n (T_impl_CodeOk_lp0_sh code3 (iadd .i64 forks4 (1 : Int)) (iadd .i64 t7 (1 : Int))) K))))
 else
 (T_impl_CodeOk_lp0_m N n (T_impl_CodeOk_lp0_sh code3 forks4 (iadd .i64 t7 (1 : Int))) K))))) else none)
 else
 (K (.exit 0) (T_impl_CodeOk_lp0_e1 code3 forks4 t7 (decide (t7 < (ilen code3)))))) := by kernel_rfl

theorem T_impl_CodeOk_lp0_eq (N : Nat) {R : Type} (code3 : List (Int × Int × Int × Int)) (K : Ex → St → Option R) : ∀ (n : Nat) (forks4 : Int) (t7 : Int), T_impl_CodeOk_lp0_m N n (T_impl_CodeOk_lp0_sh code3 forks4 t7) K = T_impl_CodeOk_lp0 N code3 (K .ret (T_impl_CodeOk_lp0_e0 code3)) (fun forks14 t15 t16 => (K (.exit 0) (T_impl_CodeOk_lp0_e1 code3 forks14 t15 t16))) n forks4 t7
  | 0, _, _ => rfl
  | n + 1, forks4, t7 => by rw [T_impl_CodeOk_lp0_step, T_impl_CodeOk_lp0]; (try simp only [T_impl_CodeOk_lp0_eq N code3 K n])

theorem T_impl_CodeOk_c1 (N : Nat) (code1 : List (Int × Int × Int × Int)) :
    ((ctxK (R := ODen (T_impl_CodeOk_sg N).ps × RDen (T_impl_CodeOk_sg N).rs) tab (T_impl_CodeOk_ctx N) T_impl_CodeOk_ann N (theCode Try.f174) [1, 1, 1, 0, 1, 0] (retK tab (T_impl_CodeOk_sg N) Try.f174.results.toList some)) .ret (T_impl_CodeOk_lp0_e0 code1)) =
    (some (α := ODen (T_impl_CodeOk_sg N).ps × RDen (T_impl_CodeOk_sg N).rs) ((), (false, ()))) := by kernel_rfl

theorem T_impl_CodeOk_c2 (N : Nat) (code1 : List (Int × Int × Int × Int)) (forks20 : Int) (t21 : Int) (t22 : Bool) :
    ((ctxK (R := ODen (T_impl_CodeOk_sg N).ps × RDen (T_impl_CodeOk_sg N).rs) tab (T_impl_CodeOk_ctx N) T_impl_CodeOk_ann N (theCode Try.f174) [1, 1, 1, 0, 1, 0] (retK tab (T_impl_CodeOk_sg N) Try.f174.results.toList some)) (.exit 0) (T_impl_CodeOk_lp0_e1 code1 forks20 t21 t22)) =
    (some (α := ODen (T_impl_CodeOk_sg N).ps × RDen (T_impl_CodeOk_sg N).rs) ((), (true, ()))) := by kernel_rfl

theorem T_impl_CodeOk_den (N : Nat) (code1 : List (Int × Int × Int × Int)) :
    den (R := ODen (T_impl_CodeOk_sg N).ps × RDen (T_impl_CodeOk_sg N).rs) tab (T_impl_CodeOk_ctx N) T_impl_CodeOk_ann N (T_impl_CodeOk_sg N) Try.f174 (code1, ()) some =
    (bif decide ((ilen code1) > (24 : Int)) then
 (some (α := ODen (T_impl_CodeOk_sg N).ps × RDen (T_impl_CodeOk_sg N).rs) ((), (false, ())))
 else
 ((T_impl_isBalanced N code1).bind fun o2 =>
 (bif !o2.2.1 then
 (some (α := ODen (T_impl_CodeOk_sg N).ps × RDen (T_impl_CodeOk_sg N).rs) ((), (false, ())))
 else
 (T_impl_CodeOk_lp0 N code1
 (some (α := ODen (T_impl_CodeOk_sg N).ps × RDen (T_impl_CodeOk_sg N).rs) ((), (false, ())))
 (fun forks20 t21 t22 =>
   (some (α := ODen (T_impl_CodeOk_sg N).ps × RDen (T_impl_CodeOk_sg N).rs) ((), (true, ()))))
  N (0 : Int) (0 : Int))))) := by
  have h : den (R := ODen (T_impl_CodeOk_sg N).ps × RDen (T_impl_CodeOk_sg N).rs) tab (T_impl_CodeOk_ctx N) T_impl_CodeOk_ann N (T_impl_CodeOk_sg N) Try.f174 (code1, ()) some =
    (bif decide ((ilen code1) > (24 : Int)) then
 (some (α := ODen (T_impl_CodeOk_sg N).ps × RDen (T_impl_CodeOk_sg N).rs) ((), (false, ())))
 else
 ((T_impl_isBalanced N code1).bind fun o2 =>
 (bif !o2.2.1 then
 (some (α := ODen (T_impl_CodeOk_sg N).ps × RDen (T_impl_CodeOk_sg N).rs) ((), (false, ())))
 else
 (T_impl_CodeOk_lp0_m N N (T_impl_CodeOk_lp0_sh code1 (0 : Int) (0 : Int)) (ctxK (R := ODen (T_impl_CodeOk_sg N).ps × RDen (T_impl_CodeOk_sg N).rs) tab (T_impl_CodeOk_ctx N) T_impl_CodeOk_ann N (theCode Try.f174) [1, 1, 1, 0, 1, 0] (retK tab (T_impl_CodeOk_sg N) Try.f174.results.toList some)))))) := by kernel_rfl
  rw [h]
  (try simp only [T_impl_CodeOk_lp0_eq, T_impl_CodeOk_c1, T_impl_CodeOk_c2]) <;> rfl

theorem T_impl_CodeOk_ok (N : Nat) : chkBody Try.f174 (T_impl_CodeOk_sg N).ps = true := by kernel_rfl

theorem T_impl_CodeOk_callable : Callable Try.prog 174 := callable_of Try.func174 (show chkFn Try.f174 = true by kernel_rfl)

theorem T_impl_CodeOk_good (N : Nat) : Good Try.prog 174 (T_impl_CodeOk_sg N) :=
  good_body mixedOk tabOk (ctx_cons (T_impl_isBalanced_good N) T_impl_isBalanced_callable (ctx_cons (T_impl_OpOk_good N) T_impl_OpOk_callable (ctx_cons (T_impl_DepthAt_good N) T_impl_DepthAt_callable ctx_nil))) Try.func174 (T_impl_CodeOk_ok N) (fun d _ h => ⟨N, (T_impl_CodeOk_den N d.1).trans h⟩)

noncomputable def T_impl_KidOk_sg (N : Nat) : Sig := Sig.of [.v (.slice (.prod (.int .i64) (.prod (.int .i64) (.prod (.int .i64) (.int .i64))))) false] [.v (.bool) false] (fun d => T_impl_KidOk N d.1)

def T_impl_KidOk_ann : Nat → List Ghost
  | 2 => [.canon [0, 5, 6, 7, 8]]
  | 3 => [.canon [0, 4, 5, 6, 7]]
  | 4 => [.canon [0, 5, 6, 7, 18]]
  | 5 => [.canon [2]]
  | 6 => [.canon [0, 5, 6, 7]]
  | 100002 => [.canon [0, 5, 6, 7]]
  | _ => []

noncomputable def T_impl_KidOk_ctx (N : Nat) : Ctx := [(173, T_impl_Touches_sg N), (174, T_impl_CodeOk_sg N)]

def T_impl_KidOk_lp0_sh (code2 : List (Int × Int × Int × Int)) (t5 : Int) : St := { env := [(0, .s (.one (.val (.slice (.prod (.int .i64) (.prod (.int .i64) (.prod (.int .i64) (.int .i64))))) (code2 : List (Int × Int × Int × Int))))), (5, .s (.one (.val (.slice (.prod (.int .i64) (.prod (.int .i64) (.prod (.int .i64) (.int .i64))))) (code2 : List (Int × Int × Int × Int))))), (6, .s (.one (.val (.int .i64) (ilen code2 : Int)))), (7, .s (.one (.val (.int .i64) (t5 : Int))))], objs := [], nx := 0 }

def T_impl_KidOk_lp0_e0 (code2 : List (Int × Int × Int × Int)) : St := { env := [(2, .s (.one (.val (.bool) (false : Bool))))], objs := [], nx := 0 }

def T_impl_KidOk_lp0_e1 (code2 : List (Int × Int × Int × Int)) (t8 : Int) (t9 : Bool) : St := { env := [(0, .s (.one (.val (.slice (.prod (.int .i64) (.prod (.int .i64) (.prod (.int .i64) (.int .i64))))) (code2 : List (Int × Int × Int × Int))))), (5, .s (.one (.val (.slice (.prod (.int .i64) (.prod (.int .i64) (.prod (.int .i64) (.int .i64))))) (code2 : List (Int × Int × Int × Int))))), (6, .s (.one (.val (.int .i64) (ilen code2 : Int)))), (7, .s (.one (.val (.int .i64) (t8 : Int)))), (8, .s (.one (.val (.bool) (t9 : Bool))))], objs := [], nx := 0 }

noncomputable def T_impl_KidOk_lp0_m (N : Nat) {R : Type} (n : Nat) (st : St) (K : Ex → St → Option R) : Option R := loopN (roundG (T_impl_KidOk_ann 100002) fun st k => sx tab (T_impl_KidOk_ctx N) T_impl_KidOk_ann N (nthLoop Try.f149 0) st k) n st K

theorem T_impl_KidOk_lp0_step (N : Nat) {R : Type} (n : Nat) (K : Ex → St → Option R) (code2 : List (Int × Int × Int × Int)) (t5 : Int) :
    T_impl_KidOk_lp0_m N (n + 1) (T_impl_KidOk_lp0_sh code2 t5) K =
    (bif decide (t5 < (ilen code2)) then
 (bif inb t5 (List.length code2) then
 (bif (List.getD code2 (Int.toNat t5) ((0 : Int), ((0 : Int), ((0 : Int), (0 : Int))))).1 == (11 : Int) then
 (K .ret (T_impl_KidOk_lp0_e0 code2))
 else
 ((T_impl_Touches N (List.getD code2 (Int.toNat t5) ((0 : Int), ((0 : Int), ((0 : Int), (0 : Int)))))).bind fun o10 =>
 (bif o10.2.1 == (2 : Int) then
 (K .ret (T_impl_KidOk_lp0_e0 code2))
 else
 (T_impl_KidOk_lp0_m N n (T_impl_KidOk_lp0_sh code2 (iadd .i64 t5 (1 : Int))) K)))) else none)
 else
 (K (.exit 0) (T_impl_KidOk_lp0_e1 code2 t5 (decide (t5 < (ilen code2)))))) := by kernel_rfl

theorem T_impl_KidOk_lp0_eq (N : Nat) {R : Type} (code2 : List (Int × Int × Int × Int)) (K : Ex → St → Option R) : ∀ (n : Nat) (t5 : Int), T_impl_KidOk_lp0_m N n (T_impl_KidOk_lp0_sh code2 t5) K = T_impl_KidOk_lp0 N code2 (K .ret (T_impl_KidOk_lp0_e0 code2)) (fun t8 t9 => (K (.exit 0) (T_impl_KidOk_lp0_e1 code2 t8 t9))) n t5
  | 0, _ => rfl
  | n + 1, t5 => by rw [T_impl_KidOk_lp0_step, T_impl_KidOk_lp0]; (try simp only [T_impl_KidOk_lp0_eq N code2 K n])

theorem T_impl_KidOk_c1 (N : Nat) (code1 : List (Int × Int × Int × Int)) :
    ((ctxK (R := ODen (T_impl_KidOk_sg N).ps × RDen (T_impl_KidOk_sg N).rs) tab (T_impl_KidOk_ctx N) T_impl_KidOk_ann N (theCode Try.f149) [1, 0, 1, 0] (retK tab (T_impl_KidOk_sg N) Try.f149.results.toList some)) .ret (T_impl_KidOk_lp0_e0 code1)) =
    (some (α := ODen (T_impl_KidOk_sg N).ps × RDen (T_impl_KidOk_sg N).rs) ((), (false, ()))) := by kernel_rfl

theorem T_impl_KidOk_c2 (N : Nat) (code1 : List (Int × Int × Int × Int)) (t11 : Int) (t12 : Bool) :
    ((ctxK (R := ODen (T_impl_KidOk_sg N).ps × RDen (T_impl_KidOk_sg N).rs) tab (T_impl_KidOk_ctx N) T_impl_KidOk_ann N (theCode Try.f149) [1, 0, 1, 0] (retK tab (T_impl_KidOk_sg N) Try.f149.results.toList some)) (.exit 0) (T_impl_KidOk_lp0_e1 code1 t11 t12)) =
    ((T_impl_CodeOk N code1).bind fun o13 =>
 (some (α := ODen (T_impl_KidOk_sg N).ps × RDen (T_impl_KidOk_sg N).rs) ((), (o13.2.1, ())))) := by kernel_rfl

theorem T_impl_KidOk_den (N : Nat) (code1 : List (Int × Int × Int × Int)) :
    den (R := ODen (T_impl_KidOk_sg N).ps × RDen (T_impl_KidOk_sg N).rs) tab (T_impl_KidOk_ctx N) T_impl_KidOk_ann N (T_impl_KidOk_sg N) Try.f149 (code1, ()) some =
    (T_impl_KidOk_lp0 N code1
 (some (α := ODen (T_impl_KidOk_sg N).ps × RDen (T_impl_KidOk_sg N).rs) ((), (false, ())))
 (fun t11 t12 =>
   ((T_impl_CodeOk N code1).bind fun o13 =>
 (some (α := ODen (T_impl_KidOk_sg N).ps × RDen (T_impl_KidOk_sg N).rs) ((), (o13.2.1, ())))))
  N (0 : Int)) := by
  have h : den (R := ODen (T_impl_KidOk_sg N).ps × RDen (T_impl_KidOk_sg N).rs) tab (T_impl_KidOk_ctx N) T_impl_KidOk_ann N (T_impl_KidOk_sg N) Try.f149 (code1, ()) some =
    (T_impl_KidOk_lp0_m N N (T_impl_KidOk_lp0_sh code1 (0 : Int)) (ctxK (R := ODen (T_impl_KidOk_sg N).ps × RDen (T_impl_KidOk_sg N).rs) tab (T_impl_KidOk_ctx N) T_impl_KidOk_ann N (theCode Try.f149) [1, 0, 1, 0] (retK tab (T_impl_KidOk_sg N) Try.f149.results.toList some))) := by kernel_rfl
  rw [h]
  (try simp only [T_impl_KidOk_lp0_eq, T_impl_KidOk_c1, T_impl_KidOk_c2]) <;> rfl

theorem T_impl_KidOk_ok (N : Nat) : chkBody Try.f149 (T_impl_KidOk_sg N).ps = true := by kernel_rfl

theorem T_impl_KidOk_callable : Callable Try.prog 149 := callable_of Try.func149 (show chkFn Try.f149 = true by kernel_rfl)

theorem T_impl_KidOk_good (N : Nat) : Good Try.prog 149 (T_impl_KidOk_sg N) :=
  good_body mixedOk tabOk (ctx_cons (T_impl_Touches_good N) T_impl_Touches_callable (ctx_cons (T_impl_CodeOk_good N) T_impl_CodeOk_callable ctx_nil)) Try.func149 (T_impl_KidOk_ok N) (fun d _ h => ⟨N, (T_impl_KidOk_den N d.1).trans h⟩)

noncomputable def T_impl_areValues_sg (N : Nat) : Sig := Sig.of [.v (.slice (.int .i64)) false, .v (.int .i64) false] [.v (.bool) false] (fun d => T_impl_areValues N d.1 d.2.1)

def T_impl_areValues_ann : Nat → List Ghost
  | 2 => [.canon [0, 1, 7, 8, 9, 10]]
  | 3 => [.canon [0, 1, 6, 7, 8, 9]]
  | 4 => [.canon [0, 1, 7, 8, 9, 15]]
  | 5 => [.canon [4]]
  | 6 => [.canon [0, 1, 7, 8, 9]]
  | 100002 => [.canon [0, 1, 7, 8, 9]]
  | _ => []

noncomputable def T_impl_areValues_ctx (N : Nat) : Ctx := [(143, T_impl_isValue_sg N)]

def T_impl_areValues_lp0_sh (l3 : List Int) (n4 : Int) (t7 : Int) : St := { env := [(0, .s (.one (.val (.slice (.int .i64)) (l3 : List Int)))), (1, .s (.one (.val (.int .i64) (n4 : Int)))), (7, .s (.one (.val (.slice (.int .i64)) (l3 : List Int)))), (8, .s (.one (.val (.int .i64) (ilen l3 : Int)))), (9, .s (.one (.val (.int .i64) (t7 : Int))))], objs := [], nx := 0 }

def T_impl_areValues_lp0_e0 (l3 : List Int) (n4 : Int) : St := { env := [(4, .s (.one (.val (.bool) (false : Bool))))], objs := [], nx := 0 }

def T_impl_areValues_lp0_e1 (l3 : List Int) (n4 : Int) (t10 : Int) (t11 : Bool) : St := { env := [(0, .s (.one (.val (.slice (.int .i64)) (l3 : List Int)))), (1, .s (.one (.val (.int .i64) (n4 : Int)))), (7, .s (.one (.val (.slice (.int .i64)) (l3 : List Int)))), (8, .s (.one (.val (.int .i64) (ilen l3 : Int)))), (9, .s (.one (.val (.int .i64) (t10 : Int)))), (10, .s (.one (.val (.bool) (t11 : Bool))))], objs := [], nx := 0 }

noncomputable def T_impl_areValues_lp0_m (N : Nat) {R : Type} (n : Nat) (st : St) (K : Ex → St → Option R) : Option R := loopN (roundG (T_impl_areValues_ann 100002) fun st k => sx tab (T_impl_areValues_ctx N) T_impl_areValues_ann N (nthLoop Try.f91 0) st k) n st K

theorem T_impl_areValues_lp0_step (N : Nat) {R : Type} (n : Nat) (K : Ex → St → Option R) (l3 : List Int) (n4 : Int) (t7 : Int) :
    T_impl_areValues_lp0_m N (n + 1) (T_impl_areValues_lp0_sh l3 n4 t7) K =
    (bif decide (t7 < (ilen l3)) then
 (bif inb t7 (List.length l3) then
 ((T_impl_isValue N (List.getD l3 (Int.toNat t7) (0 : Int))).bind fun o12 =>
 (bif !o12.2.1 then
 (K .ret (T_impl_areValues_lp0_e0 l3 n4))
 else
 (T_impl_areValues_lp0_m N n (T_impl_areValues_lp0_sh l3 n4 (iadd .i64 t7 (1 : Int))) K))) else none)
 else
 (K (.exit 0) (T_impl_areValues_lp0_e1 l3 n4 t7 (decide (t7 < (ilen l3)))))) := by kernel_rfl

theorem T_impl_areValues_lp0_eq (N : Nat) {R : Type} (l3 : List Int) (n4 : Int) (K : Ex → St → Option R) : ∀ (n : Nat) (t7 : Int), T_impl_areValues_lp0_m N n (T_impl_areValues_lp0_sh l3 n4 t7) K = T_impl_areValues_lp0 N l3 n4 (K .ret (T_impl_areValues_lp0_e0 l3 n4)) (fun t10 t11 => (K (.exit 0) (T_impl_areValues_lp0_e1 l3 n4 t10 t11))) n t7
  | 0, _ => rfl
  | n + 1, t7 => by rw [T_impl_areValues_lp0_step, T_impl_areValues_lp0]; (try simp only [T_impl_areValues_lp0_eq N l3 n4 K n])

theorem T_impl_areValues_c1 (N : Nat) (l1 : List Int) (n2 : Int) :
    ((ctxK (R := ODen (T_impl_areValues_sg N).ps × RDen (T_impl_areValues_sg N).rs) tab (T_impl_areValues_ctx N) T_impl_areValues_ann N (theCode Try.f91) [1, 0, 1, 0] (retK tab (T_impl_areValues_sg N) Try.f91.results.toList some)) .ret (T_impl_areValues_lp0_e0 l1 n2)) =
    (some (α := ODen (T_impl_areValues_sg N).ps × RDen (T_impl_areValues_sg N).rs) ((), (false, ()))) := by kernel_rfl

theorem T_impl_areValues_c2 (N : Nat) (l1 : List Int) (n2 : Int) (t13 : Int) (t14 : Bool) :
    ((ctxK (R := ODen (T_impl_areValues_sg N).ps × RDen (T_impl_areValues_sg N).rs) tab (T_impl_areValues_ctx N) T_impl_areValues_ann N (theCode Try.f91) [1, 0, 1, 0] (retK tab (T_impl_areValues_sg N) Try.f91.results.toList some)) (.exit 0) (T_impl_areValues_lp0_e1 l1 n2 t13 t14)) =
    (some (α := ODen (T_impl_areValues_sg N).ps × RDen (T_impl_areValues_sg N).rs) ((), ((ilen l1) == n2, ()))) := by kernel_rfl

theorem T_impl_areValues_den (N : Nat) (l1 : List Int) (n2 : Int) :
    den (R := ODen (T_impl_areValues_sg N).ps × RDen (T_impl_areValues_sg N).rs) tab (T_impl_areValues_ctx N) T_impl_areValues_ann N (T_impl_areValues_sg N) Try.f91 (l1, n2, ()) some =
    (T_impl_areValues_lp0 N l1 n2
 (some (α := ODen (T_impl_areValues_sg N).ps × RDen (T_impl_areValues_sg N).rs) ((), (false, ())))
 (fun t13 t14 =>
   (some (α := ODen (T_impl_areValues_sg N).ps × RDen (T_impl_areValues_sg N).rs) ((), ((ilen l1) == n2, ()))))
  N (0 : Int)) := by
  have h : den (R := ODen (T_impl_areValues_sg N).ps × RDen (T_impl_areValues_sg N).rs) tab (T_impl_areValues_ctx N) T_impl_areValues_ann N (T_impl_areValues_sg N) Try.f91 (l1, n2, ()) some =
    (T_impl_areValues_lp0_m N N (T_impl_areValues_lp0_sh l1 n2 (0 : Int)) (ctxK (R := ODen (T_impl_areValues_sg N).ps × RDen (T_impl_areValues_sg N).rs) tab (T_impl_areValues_ctx N) T_impl_areValues_ann N (theCode Try.f91) [1, 0, 1, 0] (retK tab (T_impl_areValues_sg N) Try.f91.results.toList some))) := by kernel_rfl
  rw [h]
  (try simp only [T_impl_areValues_lp0_eq, T_impl_areValues_c1, T_impl_areValues_c2]) <;> rfl

theorem T_impl_areValues_ok (N : Nat) : chkBody Try.f91 (T_impl_areValues_sg N).ps = true := by kernel_rfl

theorem T_impl_areValues_callable : Callable Try.prog 91 := callable_of Try.func91 (show chkFn Try.f91 = true by kernel_rfl)

theorem T_impl_areValues_good (N : Nat) : Good Try.prog 91 (T_impl_areValues_sg N) :=
  good_body mixedOk tabOk (ctx_cons (T_impl_isValue_good N) T_impl_isValue_callable ctx_nil) Try.func91 (T_impl_areValues_ok N) (fun d _ h => ⟨N, (T_impl_areValues_den N d.1 d.2.1).trans h⟩)

noncomputable def T_impl_copyInts_sg (N : Nat) : Sig := Sig.of [.v (.slice (.int .i64)) false] [.v (.own (.int .i64)) false] (fun d => T_impl_copyInts N d.1)

def T_impl_copyInts_ann : Nat → List Ghost
  | _ => []

noncomputable def T_impl_copyInts_ctx (N : Nat) : Ctx := []

theorem T_impl_copyInts_den (N : Nat) (l1 : List Int) :
    den (R := ODen (T_impl_copyInts_sg N).ps × RDen (T_impl_copyInts_sg N).rs) tab (T_impl_copyInts_ctx N) T_impl_copyInts_ann N (T_impl_copyInts_sg N) Try.f62 (l1, ()) some =
    (T_impl_copyInts N l1 : Option (ODen (T_impl_copyInts_sg N).ps × RDen (T_impl_copyInts_sg N).rs)) := by kernel_rfl

theorem T_impl_copyInts_ok (N : Nat) : chkBody Try.f62 (T_impl_copyInts_sg N).ps = true := by kernel_rfl

theorem T_impl_copyInts_callable : Callable Try.prog 62 := callable_of Try.func62 (show chkFn Try.f62 = true by kernel_rfl)

theorem T_impl_copyInts_good (N : Nat) : Good Try.prog 62 (T_impl_copyInts_sg N) :=
  good_body mixedOk tabOk ctx_nil Try.func62 (T_impl_copyInts_ok N) (fun d _ h => ⟨N, (T_impl_copyInts_den N d.1).trans h⟩)

noncomputable def T_impl_kidOf_sg (N : Nat) : Sig := Sig.of [.v (.slice (.prod (.int .i64) (.prod (.int .i64) (.prod (.int .i64) (.int .i64))))) false, .v (.slice (.int .i64)) false, .v (.slice (.int .i64)) false] [.box (.prod (.own (.int .i64)) (.prod (.own (.int .i64)) (.prod (.own (.prod (.int .i64) (.int .i64))) (.prod (.int .i64) (.prod (.own (.prod (.int .i64) (.prod (.int .i64) (.own (.int .i64))))) (.own (.int .i64))))))), .v (.bool) false] (fun d => T_impl_kidOf N d.1 d.2.1 d.2.2.1)

def T_impl_kidOf_ann : Nat → List Ghost
  | _ => []

noncomputable def T_impl_kidOf_ctx (N : Nat) : Ctx := [(149, T_impl_KidOk_sg N), (91, T_impl_areValues_sg N), (62, T_impl_copyInts_sg N)]

theorem T_impl_kidOf_den (N : Nat) (code1 : List (Int × Int × Int × Int)) (regs2 : List Int) (cells3 : List Int) :
    den (R := ODen (T_impl_kidOf_sg N).ps × RDen (T_impl_kidOf_sg N).rs) tab (T_impl_kidOf_ctx N) T_impl_kidOf_ann N (T_impl_kidOf_sg N) Try.f103 (code1, regs2, cells3, ()) some =
    (T_impl_kidOf N code1 regs2 cells3 : Option (ODen (T_impl_kidOf_sg N).ps × RDen (T_impl_kidOf_sg N).rs)) := by kernel_rfl

theorem T_impl_kidOf_ok (N : Nat) : chkBody Try.f103 (T_impl_kidOf_sg N).ps = true := by kernel_rfl

theorem T_impl_kidOf_callable : Callable Try.prog 103 := callable_of Try.func103 (show chkFn Try.f103 = true by kernel_rfl)

theorem T_impl_kidOf_good (N : Nat) : Good Try.prog 103 (T_impl_kidOf_sg N) :=
  good_body mixedOk tabOk (ctx_cons (T_impl_KidOk_good N) T_impl_KidOk_callable (ctx_cons (T_impl_areValues_good N) T_impl_areValues_callable (ctx_cons (T_impl_copyInts_good N) T_impl_copyInts_callable ctx_nil))) Try.func103 (T_impl_kidOf_ok N) (fun d _ h => ⟨N, (T_impl_kidOf_den N d.1 d.2.1 d.2.2.1).trans h⟩)

noncomputable def T_impl_eager_run_1_sg (N : Nat) : Sig := Sig.of [.v (.prod (.int .i64) (.int .i64)) true, .box (.prod (.int .i64) (.prod (.int .i64) (.prod (.int .i64) (.int .i64))))] [.v (.bool) false] (fun d => T_impl_eager_run_1 N d.1 d.2.1)

def T_impl_eager_run_1_ann : Nat → List Ghost
  | _ => []

noncomputable def T_impl_eager_run_1_ctx (N : Nat) : Ctx := []

theorem T_impl_eager_run_1_den (N : Nat) (r1 : Int × Int) (a2 : Int × Int × Int × Int) :
    den (R := ODen (T_impl_eager_run_1_sg N).ps × RDen (T_impl_eager_run_1_sg N).rs) tab (T_impl_eager_run_1_ctx N) T_impl_eager_run_1_ann N (T_impl_eager_run_1_sg N) Try.f151 (r1, a2, ()) some =
    (T_impl_eager_run_1 N r1 a2 : Option (ODen (T_impl_eager_run_1_sg N).ps × RDen (T_impl_eager_run_1_sg N).rs)) := by kernel_rfl

theorem T_impl_eager_run_1_ok (N : Nat) : chkBody Try.f151 (T_impl_eager_run_1_sg N).ps = true := by kernel_rfl

theorem T_impl_eager_run_1_callable : Callable Try.prog 151 := callable_of Try.func151 (show chkFn Try.f151 = true by kernel_rfl)

theorem T_impl_eager_run_1_good (N : Nat) : Good Try.prog 151 (T_impl_eager_run_1_sg N) :=
  good_body mixedOk tabOk ctx_nil Try.func151 (T_impl_eager_run_1_ok N) (fun d _ h => ⟨N, (T_impl_eager_run_1_den N d.1 d.2.1).trans h⟩)

noncomputable def T_slices_IndexFunc___impl_Row_impl_Row___impl_eager_run_1_sg (N : Nat) : Sig := Sig.of [.v (.slice (.prod (.int .i64) (.int .i64))) false, .clos 151 1, .box (.prod (.int .i64) (.prod (.int .i64) (.prod (.int .i64) (.int .i64))))] [.v (.int .i64) false] (fun d => T_slices_IndexFunc___impl_Row_impl_Row___impl_eager_run_1 N d.1 d.2.1)

def T_slices_IndexFunc___impl_Row_impl_Row___impl_eager_run_1_ann : Nat → List Ghost
  | 2 => [.canon [0, 1, 7, 8, 9]]
  | 3 => [.canon [0, 1, 5, 7, 8]]
  | 4 => [.canon [0, 1, 5, 7, 8, 16]]
  | 5 => [.canon [1, 4]]
  | 6 => [.canon [0, 1, 7, 8]]
  | 100002 => [.canon [0, 1, 7, 8]]
  | _ => []

noncomputable def T_slices_IndexFunc___impl_Row_impl_Row___impl_eager_run_1_ctx (N : Nat) : Ctx := [(151, T_impl_eager_run_1_sg N)]

def T_slices_IndexFunc___impl_Row_impl_Row___impl_eager_run_1_lp0_sh (s3 : List (Int × Int)) (t5 : Int) (b6 : Int × Int × Int × Int) : St := { env := [(0, .s (.one (.val (.slice (.prod (.int .i64) (.int .i64))) (s3 : List (Int × Int))))), (1, .s (.one (.clos 151 [0]))), (7, .s (.one (.val (.int .i64) (ilen s3 : Int)))), (8, .s (.one (.val (.int .i64) (t5 : Int))))], objs := [(0, .box [.val (.int .i64) (b6.1 : Int), .val (.int .i64) (b6.2.1 : Int), .val (.int .i64) (b6.2.2.1 : Int), .val (.int .i64) (b6.2.2.2 : Int)])], nx := 1 }

def T_slices_IndexFunc___impl_Row_impl_Row___impl_eager_run_1_lp0_e0 (s3 : List (Int × Int)) (t9 : Int) (b10 : Int × Int × Int × Int) : St := { env := [(1, .s (.one (.clos 151 [0]))), (4, .s (.one (.val (.int .i64) (t9 : Int))))], objs := [(0, .box [.val (.int .i64) (b10.1 : Int), .val (.int .i64) (b10.2.1 : Int), .val (.int .i64) (b10.2.2.1 : Int), .val (.int .i64) (b10.2.2.2 : Int)])], nx := 1 }

def T_slices_IndexFunc___impl_Row_impl_Row___impl_eager_run_1_lp0_e1 (s3 : List (Int × Int)) (t11 : Int) (t12 : Bool) (b13 : Int × Int × Int × Int) : St := { env := [(0, .s (.one (.val (.slice (.prod (.int .i64) (.int .i64))) (s3 : List (Int × Int))))), (1, .s (.one (.clos 151 [0]))), (7, .s (.one (.val (.int .i64) (ilen s3 : Int)))), (8, .s (.one (.val (.int .i64) (t11 : Int)))), (9, .s (.one (.val (.bool) (t12 : Bool))))], objs := [(0, .box [.val (.int .i64) (b13.1 : Int), .val (.int .i64) (b13.2.1 : Int), .val (.int .i64) (b13.2.2.1 : Int), .val (.int .i64) (b13.2.2.2 : Int)])], nx := 1 }

noncomputable def T_slices_IndexFunc___impl_Row_impl_Row___impl_eager_run_1_lp0_m (N : Nat) {R : Type} (n : Nat) (st : St) (K : Ex → St → Option R) : Option R := loopN (roundG (T_slices_IndexFunc___impl_Row_impl_Row___impl_eager_run_1_ann 100002) fun st k => sx tab (T_slices_IndexFunc___impl_Row_impl_Row___impl_eager_run_1_ctx N) T_slices_IndexFunc___impl_Row_impl_Row___impl_eager_run_1_ann N (nthLoop Try.f175 0) st k) n st K

theorem T_slices_IndexFunc___impl_Row_impl_Row___impl_eager_run_1_lp0_step (N : Nat) {R : Type} (n : Nat) (K : Ex → St → Option R) (s3 : List (Int × Int)) (t5 : Int) (b6 : Int × Int × Int × Int) :
    T_slices_IndexFunc___impl_Row_impl_Row___impl_eager_run_1_lp0_m N (n + 1) (T_slices_IndexFunc___impl_Row_impl_Row___impl_eager_run_1_lp0_sh s3 t5 b6) K =
    (bif decide (t5 < (ilen s3)) then
 (bif inb t5 (List.length s3) then
 ((T_impl_eager_run_1 N (List.getD s3 (Int.toNat t5) ((0 : Int), (0 : Int))) b6).bind fun o14 =>
 (bif o14.2.1 then
 (K .ret (T_slices_IndexFunc___impl_Row_impl_Row___impl_eager_run_1_lp0_e0 s3 t5 o14.1.1))
 else
 (T_slices_IndexFunc___impl_Row_impl_Row___impl_eager_run_1_lp0_m N n (T_slices_IndexFunc___impl_Row_impl_Row___impl_eager_run_1_lp0_sh s3 (iadd .i64 t5 (1 : Int)) o14.1.1) K))) else none)
 else
 (K (.exit 0) (T_slices_IndexFunc___impl_Row_impl_Row___impl_eager_run_1_lp0_e1 s3 t5 (decide (t5 < (ilen s3))) b6))) := by kernel_rfl

theorem T_slices_IndexFunc___impl_Row_impl_Row___impl_eager_run_1_lp0_eq (N : Nat) {R : Type} (s3 : List (Int × Int)) (K : Ex → St → Option R) : ∀ (n : Nat) (t5 : Int) (b6 : Int × Int × Int × Int), T_slices_IndexFunc___impl_Row_impl_Row___impl_eager_run_1_lp0_m N n (T_slices_IndexFunc___impl_Row_impl_Row___impl_eager_run_1_lp0_sh s3 t5 b6) K = T_slices_IndexFunc___impl_Row_impl_Row___impl_eager_run_1_lp0 N s3 (fun t9 b10 => (K .ret (T_slices_IndexFunc___impl_Row_impl_Row___impl_eager_run_1_lp0_e0 s3 t9 b10))) (fun t11 t12 b13 => (K (.exit 0) (T_slices_IndexFunc___impl_Row_impl_Row___impl_eager_run_1_lp0_e1 s3 t11 t12 b13))) n t5 b6
  | 0, _, _ => rfl
  | n + 1, t5, b6 => by rw [T_slices_IndexFunc___impl_Row_impl_Row___impl_eager_run_1_lp0_step, T_slices_IndexFunc___impl_Row_impl_Row___impl_eager_run_1_lp0]; (try simp only [T_slices_IndexFunc___impl_Row_impl_Row___impl_eager_run_1_lp0_eq N s3 K n])

theorem T_slices_IndexFunc___impl_Row_impl_Row___impl_eager_run_1_c1 (N : Nat) (s1 : List (Int × Int)) (t15 : Int) (b16 : Int × Int × Int × Int) :
    ((ctxK (R := ODen (T_slices_IndexFunc___impl_Row_impl_Row___impl_eager_run_1_sg N).ps × RDen (T_slices_IndexFunc___impl_Row_impl_Row___impl_eager_run_1_sg N).rs) tab (T_slices_IndexFunc___impl_Row_impl_Row___impl_eager_run_1_ctx N) T_slices_IndexFunc___impl_Row_impl_Row___impl_eager_run_1_ann N (theCode Try.f175) [1, 0, 1, 0] (retK tab (T_slices_IndexFunc___impl_Row_impl_Row___impl_eager_run_1_sg N) Try.f175.results.toList some)) .ret (T_slices_IndexFunc___impl_Row_impl_Row___impl_eager_run_1_lp0_e0 s1 t15 b16)) =
    (some (α := ODen (T_slices_IndexFunc___impl_Row_impl_Row___impl_eager_run_1_sg N).ps × RDen (T_slices_IndexFunc___impl_Row_impl_Row___impl_eager_run_1_sg N).rs) ((b16, ()), (t15, ()))) := by kernel_rfl

theorem T_slices_IndexFunc___impl_Row_impl_Row___impl_eager_run_1_c2 (N : Nat) (s1 : List (Int × Int)) (t17 : Int) (t18 : Bool) (b19 : Int × Int × Int × Int) :
    ((ctxK (R := ODen (T_slices_IndexFunc___impl_Row_impl_Row___impl_eager_run_1_sg N).ps × RDen (T_slices_IndexFunc___impl_Row_impl_Row___impl_eager_run_1_sg N).rs) tab (T_slices_IndexFunc___impl_Row_impl_Row___impl_eager_run_1_ctx N) T_slices_IndexFunc___impl_Row_impl_Row___impl_eager_run_1_ann N (theCode Try.f175) [1, 0, 1, 0] (retK tab (T_slices_IndexFunc___impl_Row_impl_Row___impl_eager_run_1_sg N) Try.f175.results.toList some)) (.exit 0) (T_slices_IndexFunc___impl_Row_impl_Row___impl_eager_run_1_lp0_e1 s1 t17 t18 b19)) =
    (some (α := ODen (T_slices_IndexFunc___impl_Row_impl_Row___impl_eager_run_1_sg N).ps × RDen (T_slices_IndexFunc___impl_Row_impl_Row___impl_eager_run_1_sg N).rs) ((b19, ()), ((-1 : Int), ()))) := by kernel_rfl

theorem T_slices_IndexFunc___impl_Row_impl_Row___impl_eager_run_1_den (N : Nat) (s1 : List (Int × Int)) (cap2 : Int × Int × Int × Int) :
    den (R := ODen (T_slices_IndexFunc___impl_Row_impl_Row___impl_eager_run_1_sg N).ps × RDen (T_slices_IndexFunc___impl_Row_impl_Row___impl_eager_run_1_sg N).rs) tab (T_slices_IndexFunc___impl_Row_impl_Row___impl_eager_run_1_ctx N) T_slices_IndexFunc___impl_Row_impl_Row___impl_eager_run_1_ann N (T_slices_IndexFunc___impl_Row_impl_Row___impl_eager_run_1_sg N) Try.f175 (s1, cap2, ()) some =
    (T_slices_IndexFunc___impl_Row_impl_Row___impl_eager_run_1_lp0 N s1
 (fun t15 b16 =>
   (some (α := ODen (T_slices_IndexFunc___impl_Row_impl_Row___impl_eager_run_1_sg N).ps × RDen (T_slices_IndexFunc___impl_Row_impl_Row___impl_eager_run_1_sg N).rs) ((b16, ()), (t15, ()))))
 (fun t17 t18 b19 =>
   (some (α := ODen (T_slices_IndexFunc___impl_Row_impl_Row___impl_eager_run_1_sg N).ps × RDen (T_slices_IndexFunc___impl_Row_impl_Row___impl_eager_run_1_sg N).rs) ((b19, ()), ((-1 : Int), ()))))
  N (0 : Int) cap2) := by
  have h : den (R := ODen (T_slices_IndexFunc___impl_Row_impl_Row___impl_eager_run_1_sg N).ps × RDen (T_slices_IndexFunc___impl_Row_impl_Row___impl_eager_run_1_sg N).rs) tab (T_slices_IndexFunc___impl_Row_impl_Row___impl_eager_run_1_ctx N) T_slices_IndexFunc___impl_Row_impl_Row___impl_eager_run_1_ann N (T_slices_IndexFunc___impl_Row_impl_Row___impl_eager_run_1_sg N) Try.f175 (s1, cap2, ()) some =
    (T_slices_IndexFunc___impl_Row_impl_Row___impl_eager_run_1_lp0_m N N (T_slices_IndexFunc___impl_Row_impl_Row___impl_eager_run_1_lp0_sh s1 (0 : Int) cap2) (ctxK (R := ODen (T_slices_IndexFunc___impl_Row_impl_Row___impl_eager_run_1_sg N).ps × RDen (T_slices_IndexFunc___impl_Row_impl_Row___impl_eager_run_1_sg N).rs) tab (T_slices_IndexFunc___impl_Row_impl_Row___impl_eager_run_1_ctx N) T_slices_IndexFunc___impl_Row_impl_Row___impl_eager_run_1_ann N (theCode Try.f175) [1, 0, 1, 0] (retK tab (T_slices_IndexFunc___impl_Row_impl_Row___impl_eager_run_1_sg N) Try.f175.results.toList some))) := by kernel_rfl
  rw [h]
  (try simp only [T_slices_IndexFunc___impl_Row_impl_Row___impl_eager_run_1_lp0_eq, T_slices_IndexFunc___impl_Row_impl_Row___impl_eager_run_1_c1, T_slices_IndexFunc___impl_Row_impl_Row___impl_eager_run_1_c2]) <;> rfl

theorem T_slices_IndexFunc___impl_Row_impl_Row___impl_eager_run_1_ok (N : Nat) : chkBody Try.f175 (T_slices_IndexFunc___impl_Row_impl_Row___impl_eager_run_1_sg N).ps = true := by kernel_rfl

theorem T_slices_IndexFunc___impl_Row_impl_Row___impl_eager_run_1_callable : Callable Try.prog 175 := callable_of Try.func175 (show chkFn Try.f175 = true by kernel_rfl)

theorem T_slices_IndexFunc___impl_Row_impl_Row___impl_eager_run_1_good (N : Nat) : Good Try.prog 175 (T_slices_IndexFunc___impl_Row_impl_Row___impl_eager_run_1_sg N) :=
  good_body mixedOk tabOk (ctx_cons (T_impl_eager_run_1_good N) T_impl_eager_run_1_callable ctx_nil) Try.func175 (T_slices_IndexFunc___impl_Row_impl_Row___impl_eager_run_1_ok N) (fun d _ h => ⟨N, (T_slices_IndexFunc___impl_Row_impl_Row___impl_eager_run_1_den N d.1 d.2.1).trans h⟩)

noncomputable def T_slices_ContainsFunc___impl_Row_impl_Row___impl_eager_run_1_sg (N : Nat) : Sig := Sig.of [.v (.slice (.prod (.int .i64) (.int .i64))) false, .clos 151 1, .box (.prod (.int .i64) (.prod (.int .i64) (.prod (.int .i64) (.int .i64))))] [.v (.bool) false] (fun d => T_slices_ContainsFunc___impl_Row_impl_Row___impl_eager_run_1 N d.1 d.2.1)

def T_slices_ContainsFunc___impl_Row_impl_Row___impl_eager_run_1_ann : Nat → List Ghost
  | _ => []

noncomputable def T_slices_ContainsFunc___impl_Row_impl_Row___impl_eager_run_1_ctx (N : Nat) : Ctx := [(175, T_slices_IndexFunc___impl_Row_impl_Row___impl_eager_run_1_sg N)]

theorem T_slices_ContainsFunc___impl_Row_impl_Row___impl_eager_run_1_den (N : Nat) (s1 : List (Int × Int)) (cap2 : Int × Int × Int × Int) :
    den (R := ODen (T_slices_ContainsFunc___impl_Row_impl_Row___impl_eager_run_1_sg N).ps × RDen (T_slices_ContainsFunc___impl_Row_impl_Row___impl_eager_run_1_sg N).rs) tab (T_slices_ContainsFunc___impl_Row_impl_Row___impl_eager_run_1_ctx N) T_slices_ContainsFunc___impl_Row_impl_Row___impl_eager_run_1_ann N (T_slices_ContainsFunc___impl_Row_impl_Row___impl_eager_run_1_sg N) Try.f150 (s1, cap2, ()) some =
    (T_slices_ContainsFunc___impl_Row_impl_Row___impl_eager_run_1 N s1 cap2 : Option (ODen (T_slices_ContainsFunc___impl_Row_impl_Row___impl_eager_run_1_sg N).ps × RDen (T_slices_ContainsFunc___impl_Row_impl_Row___impl_eager_run_1_sg N).rs)) := by kernel_rfl

theorem T_slices_ContainsFunc___impl_Row_impl_Row___impl_eager_run_1_ok (N : Nat) : chkBody Try.f150 (T_slices_ContainsFunc___impl_Row_impl_Row___impl_eager_run_1_sg N).ps = true := by kernel_rfl

theorem T_slices_ContainsFunc___impl_Row_impl_Row___impl_eager_run_1_callable : Callable Try.prog 150 := callable_of Try.func150 (show chkFn Try.f150 = true by kernel_rfl)

theorem T_slices_ContainsFunc___impl_Row_impl_Row___impl_eager_run_1_good (N : Nat) : Good Try.prog 150 (T_slices_ContainsFunc___impl_Row_impl_Row___impl_eager_run_1_sg N) :=
  good_body mixedOk tabOk (ctx_cons (T_slices_IndexFunc___impl_Row_impl_Row___impl_eager_run_1_good N) T_slices_IndexFunc___impl_Row_impl_Row___impl_eager_run_1_callable ctx_nil) Try.func150 (T_slices_ContainsFunc___impl_Row_impl_Row___impl_eager_run_1_ok N) (fun d _ h => ⟨N, (T_slices_ContainsFunc___impl_Row_impl_Row___impl_eager_run_1_den N d.1 d.2.1).trans h⟩)

noncomputable def T_impl_RowsOk_sg (N : Nat) : Sig := Sig.of [.v (.slice (.prod (.int .i64) (.int .i64))) false] [.v (.bool) false] (fun d => T_impl_RowsOk N d.1)

def T_impl_RowsOk_ann : Nat → List Ghost
  | 2 => [.canon [0, 5, 6, 7, 8]]
  | 3 => [.canon [0, 4, 5, 6, 7]]
  | 4 => [.canon [0, 5, 6, 7, 20]]
  | 5 => [.canon [2]]
  | 6 => [.canon [0, 5, 6, 7]]
  | 100002 => [.canon [0, 5, 6, 7]]
  | _ => []

noncomputable def T_impl_RowsOk_ctx (N : Nat) : Ctx := [(161, T_impl_isCell_sg N), (143, T_impl_isValue_sg N)]

def T_impl_RowsOk_lp0_sh (l2 : List (Int × Int)) (t5 : Int) : St := { env := [(0, .s (.one (.val (.slice (.prod (.int .i64) (.int .i64))) (l2 : List (Int × Int))))), (5, .s (.one (.val (.slice (.prod (.int .i64) (.int .i64))) (l2 : List (Int × Int))))), (6, .s (.one (.val (.int .i64) (ilen l2 : Int)))), (7, .s (.one (.val (.int .i64) (t5 : Int))))], objs := [], nx := 0 }

def T_impl_RowsOk_lp0_e0 (l2 : List (Int × Int)) : St := { env := [(2, .s (.one (.val (.bool) (false : Bool))))], objs := [], nx := 0 }

def T_impl_RowsOk_lp0_e1 (l2 : List (Int × Int)) (t10 : Int) (t11 : Bool) : St := { env := [(0, .s (.one (.val (.slice (.prod (.int .i64) (.int .i64))) (l2 : List (Int × Int))))), (5, .s (.one (.val (.slice (.prod (.int .i64) (.int .i64))) (l2 : List (Int × Int))))), (6, .s (.one (.val (.int .i64) (ilen l2 : Int)))), (7, .s (.one (.val (.int .i64) (t10 : Int)))), (8, .s (.one (.val (.bool) (t11 : Bool))))], objs := [], nx := 0 }

noncomputable def T_impl_RowsOk_lp0_m (N : Nat) {R : Type} (n : Nat) (st : St) (K : Ex → St → Option R) : Option R := loopN (roundG (T_impl_RowsOk_ann 100002) fun st k => sx tab (T_impl_RowsOk_ctx N) T_impl_RowsOk_ann N (nthLoop Try.f113 0) st k) n st K

theorem T_impl_RowsOk_lp0_step (N : Nat) {R : Type} (n : Nat) (K : Ex → St → Option R) (l2 : List (Int × Int)) (t5 : Int) :
    T_impl_RowsOk_lp0_m N (n + 1) (T_impl_RowsOk_lp0_sh l2 t5) K =
    (bif decide (t5 < (ilen l2)) then
 (bif inb t5 (List.length l2) then
 ((T_impl_isCell N (List.getD l2 (Int.toNat t5) ((0 : Int), (0 : Int))).1).bind fun o12 =>
 (bif !o12.2.1 then
 (K .ret (T_impl_RowsOk_lp0_e0 l2))
 else
 ((T_impl_isValue N (List.getD l2 (Int.toNat t5) ((0 : Int), (0 : Int))).2).bind fun o13 =>
 (bif !o13.2.1 then
 (K .ret (T_impl_RowsOk_lp0_e0 l2))
 else
 (T_impl_RowsOk_lp0_m N n (T_impl_RowsOk_lp0_sh l2 (iadd .i64 t5 (1 : Int))) K))))) else none)
 else
 (K (.exit 0) (T_impl_RowsOk_lp0_e1 l2 t5 (decide (t5 < (ilen l2)))))) := by kernel_rfl

theorem T_impl_RowsOk_lp0_eq (N : Nat) {R : Type} (l2 : List (Int × Int)) (K : Ex → St → Option R) : ∀ (n : Nat) (t5 : Int), T_impl_RowsOk_lp0_m N n (T_impl_RowsOk_lp0_sh l2 t5) K = T_impl_RowsOk_lp0 N l2 (K .ret (T_impl_RowsOk_lp0_e0 l2)) (fun t10 t11 => (K (.exit 0) (T_impl_RowsOk_lp0_e1 l2 t10 t11))) n t5
  | 0, _ => rfl
  | n + 1, t5 => by rw [T_impl_RowsOk_lp0_step, T_impl_RowsOk_lp0]; (try simp only [T_impl_RowsOk_lp0_eq N l2 K n])

theorem T_impl_RowsOk_c1 (N : Nat) (l1 : List (Int × Int)) :
    ((ctxK (R := ODen (T_impl_RowsOk_sg N).ps × RDen (T_impl_RowsOk_sg N).rs) tab (T_impl_RowsOk_ctx N) T_impl_RowsOk_ann N (theCode Try.f113) [1, 0, 1, 0] (retK tab (T_impl_RowsOk_sg N) Try.f113.results.toList some)) .ret (T_impl_RowsOk_lp0_e0 l1)) =
    (some (α := ODen (T_impl_RowsOk_sg N).ps × RDen (T_impl_RowsOk_sg N).rs) ((), (false, ()))) := by kernel_rfl

theorem T_impl_RowsOk_c2 (N : Nat) (l1 : List (Int × Int)) (t14 : Int) (t15 : Bool) :
    ((ctxK (R := ODen (T_impl_RowsOk_sg N).ps × RDen (T_impl_RowsOk_sg N).rs) tab (T_impl_RowsOk_ctx N) T_impl_RowsOk_ann N (theCode Try.f113) [1, 0, 1, 0] (retK tab (T_impl_RowsOk_sg N) Try.f113.results.toList some)) (.exit 0) (T_impl_RowsOk_lp0_e1 l1 t14 t15)) =
    (some (α := ODen (T_impl_RowsOk_sg N).ps × RDen (T_impl_RowsOk_sg N).rs) ((), (decide ((ilen l1) ≤ (300 : Int)), ()))) := by kernel_rfl

theorem T_impl_RowsOk_den (N : Nat) (l1 : List (Int × Int)) :
    den (R := ODen (T_impl_RowsOk_sg N).ps × RDen (T_impl_RowsOk_sg N).rs) tab (T_impl_RowsOk_ctx N) T_impl_RowsOk_ann N (T_impl_RowsOk_sg N) Try.f113 (l1, ()) some =
    (T_impl_RowsOk_lp0 N l1
 (some (α := ODen (T_impl_RowsOk_sg N).ps × RDen (T_impl_RowsOk_sg N).rs) ((), (false, ())))
 (fun t14 t15 =>
   (some (α := ODen (T_impl_RowsOk_sg N).ps × RDen (T_impl_RowsOk_sg N).rs) ((), (decide ((ilen l1) ≤ (300 : Int)), ()))))
  N (0 : Int)) := by
  have h : den (R := ODen (T_impl_RowsOk_sg N).ps × RDen (T_impl_RowsOk_sg N).rs) tab (T_impl_RowsOk_ctx N) T_impl_RowsOk_ann N (T_impl_RowsOk_sg N) Try.f113 (l1, ()) some =
    (T_impl_RowsOk_lp0_m N N (T_impl_RowsOk_lp0_sh l1 (0 : Int)) (ctxK (R := ODen (T_impl_RowsOk_sg N).ps × RDen (T_impl_RowsOk_sg N).rs) tab (T_impl_RowsOk_ctx N) T_impl_RowsOk_ann N (theCode Try.f113) [1, 0, 1, 0] (retK tab (T_impl_RowsOk_sg N) Try.f113.results.toList some))) := by kernel_rfl
  rw [h]
  (try simp only [T_impl_RowsOk_lp0_eq, T_impl_RowsOk_c1, T_impl_RowsOk_c2]) <;> rfl

theorem T_impl_RowsOk_ok (N : Nat) : chkBody Try.f113 (T_impl_RowsOk_sg N).ps = true := by kernel_rfl

theorem T_impl_RowsOk_callable : Callable Try.prog 113 := callable_of Try.func113 (show chkFn Try.f113 = true by kernel_rfl)

theorem T_impl_RowsOk_good (N : Nat) : Good Try.prog 113 (T_impl_RowsOk_sg N) :=
  good_body mixedOk tabOk (ctx_cons (T_impl_isCell_good N) T_impl_isCell_callable (ctx_cons (T_impl_isValue_good N) T_impl_isValue_callable ctx_nil)) Try.func113 (T_impl_RowsOk_ok N) (fun d _ h => ⟨N, (T_impl_RowsOk_den N d.1).trans h⟩)

noncomputable def T_impl_copyRows_sg (N : Nat) : Sig := Sig.of [.v (.slice (.prod (.int .i64) (.int .i64))) false] [.v (.own (.prod (.int .i64) (.int .i64))) false] (fun d => T_impl_copyRows N d.1)

def T_impl_copyRows_ann : Nat → List Ghost
  | _ => []

noncomputable def T_impl_copyRows_ctx (N : Nat) : Ctx := []

theorem T_impl_copyRows_den (N : Nat) (l1 : List (Int × Int)) :
    den (R := ODen (T_impl_copyRows_sg N).ps × RDen (T_impl_copyRows_sg N).rs) tab (T_impl_copyRows_ctx N) T_impl_copyRows_ann N (T_impl_copyRows_sg N) Try.f114 (l1, ()) some =
    (T_impl_copyRows N l1 : Option (ODen (T_impl_copyRows_sg N).ps × RDen (T_impl_copyRows_sg N).rs)) := by kernel_rfl

theorem T_impl_copyRows_ok (N : Nat) : chkBody Try.f114 (T_impl_copyRows_sg N).ps = true := by kernel_rfl

theorem T_impl_copyRows_callable : Callable Try.prog 114 := callable_of Try.func114 (show chkFn Try.f114 = true by kernel_rfl)

theorem T_impl_copyRows_good (N : Nat) : Good Try.prog 114 (T_impl_copyRows_sg N) :=
  good_body mixedOk tabOk ctx_nil Try.func114 (T_impl_copyRows_ok N) (fun d _ h => ⟨N, (T_impl_copyRows_den N d.1).trans h⟩)

noncomputable def T_impl_EagerCut_sg (N : Nat) : Sig := Sig.of [.v (.slice (.int .i64)) false, .v (.slice (.prod (.int .i64) (.int .i64))) false, .v (.int .i64) false] [.v (.own (.int .i64)) false, .v (.own (.prod (.int .i64) (.int .i64))) false] (fun d => T_impl_EagerCut N d.1 d.2.1 d.2.2.1)

def T_impl_EagerCut_ann : Nat → List Ghost
  | 5 => [.canon [1, 2, 8, 9, 29]]
  | 6 => [.canon [1, 2, 8, 9]]
  | 7 => [.canon [1, 2, 8, 9]]
  | 100005 => [.canon [1, 2, 8, 9]]
  | _ => []

noncomputable def T_impl_EagerCut_ctx (N : Nat) : Ctx := [(91, T_impl_areValues_sg N), (113, T_impl_RowsOk_sg N), (62, T_impl_copyInts_sg N), (114, T_impl_copyRows_sg N)]

def T_impl_EagerCut_lp0_sh (log7 : List (Int × Int)) (n8 : Int) (i9 : Int) (l10 : List Int) : St := { env := [(1, .s (.one (.val (.slice (.prod (.int .i64) (.int .i64))) (log7 : List (Int × Int))))), (2, .s (.one (.val (.int .i64) (n8 : Int)))), (8, .s (.one (.own 0))), (9, .s (.one (.val (.int .i64) (i9 : Int))))], objs := [(0, .arr (.int .i64) (l10 : List Int))], nx := 1 }

def T_impl_EagerCut_lp0_e0 (log7 : List (Int × Int)) (n8 : Int) (i11 : Int) (t12 : Bool) (l13 : List Int) : St := { env := [(1, .s (.one (.val (.slice (.prod (.int .i64) (.int .i64))) (log7 : List (Int × Int))))), (2, .s (.one (.val (.int .i64) (n8 : Int)))), (8, .s (.one (.own 0))), (9, .s (.one (.val (.int .i64) (i11 : Int)))), (29, .s (.one (.val (.bool) (t12 : Bool))))], objs := [(0, .arr (.int .i64) (l13 : List Int))], nx := 1 }

noncomputable def T_impl_EagerCut_lp0_m (N : Nat) {R : Type} (n : Nat) (st : St) (K : Ex → St → Option R) : Option R := loopN (roundG (T_impl_EagerCut_ann 100005) fun st k => sx tab (T_impl_EagerCut_ctx N) T_impl_EagerCut_ann N (nthLoop Try.f51 0) st k) n st K

theorem T_impl_EagerCut_lp0_step (N : Nat) {R : Type} (n : Nat) (K : Ex → St → Option R) (log7 : List (Int × Int)) (n8 : Int) (i9 : Int) (l10 : List Int) :
    T_impl_EagerCut_lp0_m N (n + 1) (T_impl_EagerCut_lp0_sh log7 n8 i9 l10) K =
    (bif decide (i9 ≥ n8) then
 (bif inb i9 (List.length log7) then
 (bif inb i9 (List.length log7) then
 (bif inb (List.getD log7 (Int.toNat i9) ((0 : Int), (0 : Int))).1 (List.length l10) then
 (T_impl_EagerCut_lp0_m N n (T_impl_EagerCut_lp0_sh log7 n8 (isub .i64 i9 (1 : Int)) (List.set l10 (Int.toNat (List.getD log7 (Int.toNat i9) ((0 : Int), (0 : Int))).1) (List.getD log7 (Int.toNat i9) ((0 : Int), (0 : Int))).2)) K) else none) else none) else none)
 else
 (K (.exit 0) (T_impl_EagerCut_lp0_e0 log7 n8 i9 (decide (i9 ≥ n8)) l10))) := by kernel_rfl

theorem T_impl_EagerCut_lp0_eq (N : Nat) {R : Type} (log7 : List (Int × Int)) (n8 : Int) (K : Ex → St → Option R) : ∀ (n : Nat) (i9 : Int) (l10 : List Int), T_impl_EagerCut_lp0_m N n (T_impl_EagerCut_lp0_sh log7 n8 i9 l10) K = T_impl_EagerCut_lp0 N log7 n8 (fun i11 t12 l13 => (K (.exit 0) (T_impl_EagerCut_lp0_e0 log7 n8 i11 t12 l13))) n i9 l10
  | 0, _, _ => rfl
  | n + 1, i9, l10 => by rw [T_impl_EagerCut_lp0_step, T_impl_EagerCut_lp0]; (try simp only [T_impl_EagerCut_lp0_eq N log7 n8 K n])

theorem T_impl_EagerCut_c1 (N : Nat) (log2 : List (Int × Int)) (n3 : Int) (i14 : Int) (t15 : Bool) (l16 : List Int) :
    ((ctxK (R := ODen (T_impl_EagerCut_sg N).ps × RDen (T_impl_EagerCut_sg N).rs) tab (T_impl_EagerCut_ctx N) T_impl_EagerCut_ann N (theCode Try.f51) [1, 1, 1, 0, 1, 0] (retK tab (T_impl_EagerCut_sg N) Try.f51.results.toList some)) (.exit 0) (T_impl_EagerCut_lp0_e0 log2 n3 i14 t15 l16)) =
    (bif (decide ((0 : Int) ≤ (minI n3 (ilen log2)))) && (decide ((minI n3 (ilen log2)) ≤ ((List.length log2) : Int))) then
 ((T_impl_copyRows N (List.take (Int.toNat (minI n3 (ilen log2))) log2)).bind fun o17 =>
 (some (α := ODen (T_impl_EagerCut_sg N).ps × RDen (T_impl_EagerCut_sg N).rs) ((), (l16, (o17.2.1, ()))))) else none) := by kernel_rfl

theorem T_impl_EagerCut_den (N : Nat) (cells1 : List Int) (log2 : List (Int × Int)) (n3 : Int) :
    den (R := ODen (T_impl_EagerCut_sg N).ps × RDen (T_impl_EagerCut_sg N).rs) tab (T_impl_EagerCut_ctx N) T_impl_EagerCut_ann N (T_impl_EagerCut_sg N) Try.f51 (cells1, log2, n3, ()) some =
    ((T_impl_areValues N cells1 (8 : Int)).bind fun o4 =>
 (bif !o4.2.1 then
 (some (α := ODen (T_impl_EagerCut_sg N).ps × RDen (T_impl_EagerCut_sg N).rs) ((), (([] : List Int), (([] : List (Int × Int)), ()))))
 else
 ((T_impl_RowsOk N log2).bind fun o5 =>
 (bif !o5.2.1 then
 (some (α := ODen (T_impl_EagerCut_sg N).ps × RDen (T_impl_EagerCut_sg N).rs) ((), (([] : List Int), (([] : List (Int × Int)), ()))))
 else
 (bif decide (n3 < (0 : Int)) then
 (some (α := ODen (T_impl_EagerCut_sg N).ps × RDen (T_impl_EagerCut_sg N).rs) ((), (([] : List Int), (([] : List (Int × Int)), ()))))
 else
 ((T_impl_copyInts N cells1).bind fun o6 =>
 (T_impl_EagerCut_lp0 N log2 n3
 (fun i14 t15 l16 =>
   (bif (decide ((0 : Int) ≤ (minI n3 (ilen log2)))) && (decide ((minI n3 (ilen log2)) ≤ ((List.length log2) : Int))) then
 ((T_impl_copyRows N (List.take (Int.toNat (minI n3 (ilen log2))) log2)).bind fun o17 =>
 (some (α := ODen (T_impl_EagerCut_sg N).ps × RDen (T_impl_EagerCut_sg N).rs) ((), (l16, (o17.2.1, ()))))) else none))
  N (isub .i64 (ilen log2) (1 : Int)) o6.2.1))))))) := by
  have h : den (R := ODen (T_impl_EagerCut_sg N).ps × RDen (T_impl_EagerCut_sg N).rs) tab (T_impl_EagerCut_ctx N) T_impl_EagerCut_ann N (T_impl_EagerCut_sg N) Try.f51 (cells1, log2, n3, ()) some =
    ((T_impl_areValues N cells1 (8 : Int)).bind fun o4 =>
 (bif !o4.2.1 then
 (some (α := ODen (T_impl_EagerCut_sg N).ps × RDen (T_impl_EagerCut_sg N).rs) ((), (([] : List Int), (([] : List (Int × Int)), ()))))
 else
 ((T_impl_RowsOk N log2).bind fun o5 =>
 (bif !o5.2.1 then
 (some (α := ODen (T_impl_EagerCut_sg N).ps × RDen (T_impl_EagerCut_sg N).rs) ((), (([] : List Int), (([] : List (Int × Int)), ()))))
 else
 (bif decide (n3 < (0 : Int)) then
 (some (α := ODen (T_impl_EagerCut_sg N).ps × RDen (T_impl_EagerCut_sg N).rs) ((), (([] : List Int), (([] : List (Int × Int)), ()))))
 else
 ((T_impl_copyInts N cells1).bind fun o6 =>
 (T_impl_EagerCut_lp0_m N N (T_impl_EagerCut_lp0_sh log2 n3 (isub .i64 (ilen log2) (1 : Int)) o6.2.1) (ctxK (R := ODen (T_impl_EagerCut_sg N).ps × RDen (T_impl_EagerCut_sg N).rs) tab (T_impl_EagerCut_ctx N) T_impl_EagerCut_ann N (theCode Try.f51) [1, 1, 1, 0, 1, 0] (retK tab (T_impl_EagerCut_sg N) Try.f51.results.toList some))))))))) := by kernel_rfl
  rw [h]
  (try simp only [T_impl_EagerCut_lp0_eq, T_impl_EagerCut_c1]) <;> rfl

theorem T_impl_EagerCut_ok (N : Nat) : chkBody Try.f51 (T_impl_EagerCut_sg N).ps = true := by kernel_rfl

theorem T_impl_EagerCut_callable : Callable Try.prog 51 := callable_of Try.func51 (show chkFn Try.f51 = true by kernel_rfl)

theorem T_impl_EagerCut_good (N : Nat) : Good Try.prog 51 (T_impl_EagerCut_sg N) :=
  good_body mixedOk tabOk (ctx_cons (T_impl_areValues_good N) T_impl_areValues_callable (ctx_cons (T_impl_RowsOk_good N) T_impl_RowsOk_callable (ctx_cons (T_impl_copyInts_good N) T_impl_copyInts_callable (ctx_cons (T_impl_copyRows_good N) T_impl_copyRows_callable ctx_nil)))) Try.func51 (T_impl_EagerCut_ok N) (fun d _ h => ⟨N, (T_impl_EagerCut_den N d.1 d.2.1 d.2.2.1).trans h⟩)

noncomputable def T_impl_eager_cut_sg (N : Nat) : Sig := Sig.of [.box (.prod (.own (.int .i64)) (.prod (.own (.int .i64)) (.prod (.own (.prod (.int .i64) (.int .i64))) (.prod (.int .i64) (.prod (.own (.prod (.int .i64) (.prod (.int .i64) (.own (.int .i64))))) (.own (.int .i64))))))), .v (.int .i64) false] [] (fun d => T_impl_eager_cut N d.1 d.2.1)

def T_impl_eager_cut_ann : Nat → List Ghost
  | _ => []

noncomputable def T_impl_eager_cut_ctx (N : Nat) : Ctx := [(51, T_impl_EagerCut_sg N)]

theorem T_impl_eager_cut_den (N : Nat) (e1 : List Int × List Int × List (Int × Int) × Int × List (Int × Int × List Int) × List Int) (n2 : Int) :
    den (R := ODen (T_impl_eager_cut_sg N).ps × RDen (T_impl_eager_cut_sg N).rs) tab (T_impl_eager_cut_ctx N) T_impl_eager_cut_ann N (T_impl_eager_cut_sg N) Try.f176 (e1, n2, ()) some =
    (T_impl_eager_cut N e1 n2 : Option (ODen (T_impl_eager_cut_sg N).ps × RDen (T_impl_eager_cut_sg N).rs)) := by kernel_rfl

theorem T_impl_eager_cut_ok (N : Nat) : chkBody Try.f176 (T_impl_eager_cut_sg N).ps = true := by kernel_rfl

theorem T_impl_eager_cut_callable : Callable Try.prog 176 := callable_of Try.func176 (show chkFn Try.f176 = true by kernel_rfl)

theorem T_impl_eager_cut_good (N : Nat) : Good Try.prog 176 (T_impl_eager_cut_sg N) :=
  good_body mixedOk tabOk (ctx_cons (T_impl_EagerCut_good N) T_impl_EagerCut_callable ctx_nil) Try.func176 (T_impl_eager_cut_ok N) (fun d _ h => ⟨N, (T_impl_eager_cut_den N d.1 d.2.1).trans h⟩)

noncomputable def T_impl_eager_abort_sg (N : Nat) : Sig := Sig.of [.box (.prod (.own (.int .i64)) (.prod (.own (.int .i64)) (.prod (.own (.prod (.int .i64) (.int .i64))) (.prod (.int .i64) (.prod (.own (.prod (.int .i64) (.prod (.int .i64) (.own (.int .i64))))) (.own (.int .i64))))))), .v (.slice (.prod (.int .i64) (.prod (.int .i64) (.prod (.int .i64) (.int .i64))))) false] [.v (.int .i64) false] (fun d => T_impl_eager_abort N d.1 d.2.1)

def T_impl_eager_abort_ann : Nat → List Ghost
  | 5 => [.opn 22]
  | _ => []

noncomputable def T_impl_eager_abort_ctx (N : Nat) : Ctx := [(176, T_impl_eager_cut_sg N)]

theorem T_impl_eager_abort_den (N : Nat) (e1 : List Int × List Int × List (Int × Int) × Int × List (Int × Int × List Int) × List Int) (code2 : List (Int × Int × Int × Int)) :
    den (R := ODen (T_impl_eager_abort_sg N).ps × RDen (T_impl_eager_abort_sg N).rs) tab (T_impl_eager_abort_ctx N) T_impl_eager_abort_ann N (T_impl_eager_abort_sg N) Try.f152 (e1, code2, ()) some =
    (T_impl_eager_abort N e1 code2 : Option (ODen (T_impl_eager_abort_sg N).ps × RDen (T_impl_eager_abort_sg N).rs)) := by kernel_rfl

theorem T_impl_eager_abort_ok (N : Nat) : chkBody Try.f152 (T_impl_eager_abort_sg N).ps = true := by kernel_rfl

theorem T_impl_eager_abort_callable : Callable Try.prog 152 := callable_of Try.func152 (show chkFn Try.f152 = true by kernel_rfl)

theorem T_impl_eager_abort_good (N : Nat) : Good Try.prog 152 (T_impl_eager_abort_sg N) :=
  good_body mixedOk tabOk (ctx_cons (T_impl_eager_cut_good N) T_impl_eager_cut_callable ctx_nil) Try.func152 (T_impl_eager_abort_ok N) (fun d _ h => ⟨N, (T_impl_eager_abort_den N d.1 d.2.1).trans h⟩)

noncomputable def T_impl_EndOf_sg (N : Nat) : Sig := Sig.of [.v (.slice (.prod (.int .i64) (.prod (.int .i64) (.prod (.int .i64) (.int .i64))))) false, .v (.int .i64) false] [.v (.int .i64) false] (fun d => T_impl_EndOf N d.1 d.2.1)

def T_impl_EndOf_ann : Nat → List Ghost
  | 5 => [.canon [0, 5, 6, 25]]
  | 6 => [.canon [0, 5, 6]]
  | 7 => [.canon [0, 5, 6]]
  | 8 => [.canon [0, 5, 6, 36]]
  | 9 => [.canon [4]]
  | 100005 => [.canon [0, 5, 6]]
  | _ => []

noncomputable def T_impl_EndOf_ctx (N : Nat) : Ctx := [(61, T_impl_within_sg N), (177, T_impl_opens_sg N)]

def T_impl_EndOf_lp0_sh (code4 : List (Int × Int × Int × Int)) (n5 : Int) (k6 : Int) : St := { env := [(0, .s (.one (.val (.slice (.prod (.int .i64) (.prod (.int .i64) (.prod (.int .i64) (.int .i64))))) (code4 : List (Int × Int × Int × Int))))), (5, .s (.one (.val (.int .i64) (n5 : Int)))), (6, .s (.one (.val (.int .i64) (k6 : Int))))], objs := [], nx := 0 }

def T_impl_EndOf_lp0_e0 (code4 : List (Int × Int × Int × Int)) (t8 : Int) : St := { env := [(4, .s (.one (.val (.int .i64) (t8 : Int))))], objs := [], nx := 0 }

def T_impl_EndOf_lp0_e1 (code4 : List (Int × Int × Int × Int)) (n9 : Int) (k10 : Int) (t11 : Bool) : St := { env := [(0, .s (.one (.val (.slice (.prod (.int .i64) (.prod (.int .i64) (.prod (.int .i64) (.int .i64))))) (code4 : List (Int × Int × Int × Int))))), (5, .s (.one (.val (.int .i64) (n9 : Int)))), (6, .s (.one (.val (.int .i64) (k10 : Int)))), (25, .s (.one (.val (.bool) (t11 : Bool))))], objs := [], nx := 0 }

noncomputable def T_impl_EndOf_lp0_m (N : Nat) {R : Type} (n : Nat) (st : St) (K : Ex → St → Option R) : Option R := loopN (roundG (T_impl_EndOf_ann 100005) fun st k => sx tab (T_impl_EndOf_ctx N) T_impl_EndOf_ann N (nthLoop Try.f153 0) st k) n st K

theorem T_impl_EndOf_lp0_step (N : Nat) {R : Type} (n : Nat) (K : Ex → St → Option R) (code4 : List (Int × Int × Int × Int)) (n5 : Int) (k6 : Int) :
    T_impl_EndOf_lp0_m N (n + 1) (T_impl_EndOf_lp0_sh code4 n5 k6) K =
    (bif decide (k6 < (ilen code4)) then
 (bif inb k6 (List.length code4) then
 ((T_impl_opens N (List.getD code4 (Int.toNat k6) ((0 : Int), ((0 : Int), ((0 : Int), (0 : Int)))))).bind fun o12 =>
 (bif (iadd .i64 n5 o12.2.1) == (0 : Int) then
 (K .ret (T_impl_EndOf_lp0_e0 code4 k6))
 else
 (T_impl_EndOf_lp0_m N n (T_impl_EndOf_lp0_sh code4 (iadd .i64 n5 o12.2.1) (iadd .i64 k6 (1 : Int))) K))) else none)
 else
 (K (.exit 0) (T_impl_EndOf_lp0_e1 code4 n5 k6 (decide (k6 < (ilen code4)))))) := by kernel_rfl

theorem T_impl_EndOf_lp0_eq (N : Nat) {R : Type} (code4 : List (Int × Int × Int × Int)) (K : Ex → St → Option R) : ∀ (n : Nat) (n5 : Int) (k6 : Int), T_impl_EndOf_lp0_m N n (T_impl_EndOf_lp0_sh code4 n5 k6) K = T_impl_EndOf_lp0 N code4 (fun t8 => (K .ret (T_impl_EndOf_lp0_e0 code4 t8))) (fun n9 k10 t11 => (K (.exit 0) (T_impl_EndOf_lp0_e1 code4 n9 k10 t11))) n n5 k6
  | 0, _, _ => rfl
  | n + 1, n5, k6 => by rw [T_impl_EndOf_lp0_step, T_impl_EndOf_lp0]; (try simp only [T_impl_EndOf_lp0_eq N code4 K n])

theorem T_impl_EndOf_c1 (N : Nat) (code1 : List (Int × Int × Int × Int)) (t13 : Int) :
    ((ctxK (R := ODen (T_impl_EndOf_sg N).ps × RDen (T_impl_EndOf_sg N).rs) tab (T_impl_EndOf_ctx N) T_impl_EndOf_ann N (theCode Try.f153) [1, 1, 1, 0, 1, 0] (retK tab (T_impl_EndOf_sg N) Try.f153.results.toList some)) .ret (T_impl_EndOf_lp0_e0 code1 t13)) =
    (some (α := ODen (T_impl_EndOf_sg N).ps × RDen (T_impl_EndOf_sg N).rs) ((), (t13, ()))) := by kernel_rfl

theorem T_impl_EndOf_c2 (N : Nat) (code1 : List (Int × Int × Int × Int)) (n14 : Int) (k15 : Int) (t16 : Bool) :
    ((ctxK (R := ODen (T_impl_EndOf_sg N).ps × RDen (T_impl_EndOf_sg N).rs) tab (T_impl_EndOf_ctx N) T_impl_EndOf_ann N (theCode Try.f153) [1, 1, 1, 0, 1, 0] (retK tab (T_impl_EndOf_sg N) Try.f153.results.toList some)) (.exit 0) (T_impl_EndOf_lp0_e1 code1 n14 k15 t16)) =
    (some (α := ODen (T_impl_EndOf_sg N).ps × RDen (T_impl_EndOf_sg N).rs) ((), ((-1 : Int), ()))) := by kernel_rfl

theorem T_impl_EndOf_den (N : Nat) (code1 : List (Int × Int × Int × Int)) (i2 : Int) :
    den (R := ODen (T_impl_EndOf_sg N).ps × RDen (T_impl_EndOf_sg N).rs) tab (T_impl_EndOf_ctx N) T_impl_EndOf_ann N (T_impl_EndOf_sg N) Try.f153 (code1, i2, ()) some =
    ((T_impl_within N i2 (0 : Int) (isub .i64 (ilen code1) (1 : Int))).bind fun o3 =>
 (bif !o3.2.1 then
 (some (α := ODen (T_impl_EndOf_sg N).ps × RDen (T_impl_EndOf_sg N).rs) ((), ((-1 : Int), ())))
 else
 (bif inb i2 (List.length code1) then
 (bif (List.getD code1 (Int.toNat i2) ((0 : Int), ((0 : Int), ((0 : Int), (0 : Int))))).1 != (8 : Int) then
 (some (α := ODen (T_impl_EndOf_sg N).ps × RDen (T_impl_EndOf_sg N).rs) ((), ((-1 : Int), ())))
 else
 (T_impl_EndOf_lp0 N code1
 (fun t13 =>
   (some (α := ODen (T_impl_EndOf_sg N).ps × RDen (T_impl_EndOf_sg N).rs) ((), (t13, ()))))
 (fun n14 k15 t16 =>
   (some (α := ODen (T_impl_EndOf_sg N).ps × RDen (T_impl_EndOf_sg N).rs) ((), ((-1 : Int), ()))))
  N (0 : Int) i2)) else none))) := by
  have h : den (R := ODen (T_impl_EndOf_sg N).ps × RDen (T_impl_EndOf_sg N).rs) tab (T_impl_EndOf_ctx N) T_impl_EndOf_ann N (T_impl_EndOf_sg N) Try.f153 (code1, i2, ()) some =
    ((T_impl_within N i2 (0 : Int) (isub .i64 (ilen code1) (1 : Int))).bind fun o3 =>
 (bif !o3.2.1 then
 (some (α := ODen (T_impl_EndOf_sg N).ps × RDen (T_impl_EndOf_sg N).rs) ((), ((-1 : Int), ())))
 else
 (bif inb i2 (List.length code1) then
 (bif (List.getD code1 (Int.toNat i2) ((0 : Int), ((0 : Int), ((0 : Int), (0 : Int))))).1 != (8 : Int) then
 (some (α := ODen (T_impl_EndOf_sg N).ps × RDen (T_impl_EndOf_sg N).rs) ((), ((-1 : Int), ())))
 else
 (T_impl_EndOf_lp0_m N N (T_impl_EndOf_lp0_sh code1 (0 : Int) i2) (ctxK (R := ODen (T_impl_EndOf_sg N).ps × RDen (T_impl_EndOf_sg N).rs) tab (T_impl_EndOf_ctx N) T_impl_EndOf_ann N (theCode Try.f153) [1, 1, 1, 0, 1, 0] (retK tab (T_impl_EndOf_sg N) Try.f153.results.toList some)))) else none))) := by kernel_rfl
  rw [h]
  (try simp only [T_impl_EndOf_lp0_eq, T_impl_EndOf_c1, T_impl_EndOf_c2]) <;> rfl

theorem T_impl_EndOf_ok (N : Nat) : chkBody Try.f153 (T_impl_EndOf_sg N).ps = true := by kernel_rfl

theorem T_impl_EndOf_callable : Callable Try.prog 153 := callable_of Try.func153 (show chkFn Try.f153 = true by kernel_rfl)

theorem T_impl_EndOf_good (N : Nat) : Good Try.prog 153 (T_impl_EndOf_sg N) :=
  good_body mixedOk tabOk (ctx_cons (T_impl_within_good N) T_impl_within_callable (ctx_cons (T_impl_opens_good N) T_impl_opens_callable ctx_nil)) Try.func153 (T_impl_EndOf_ok N) (fun d _ h => ⟨N, (T_impl_EndOf_den N d.1 d.2.1).trans h⟩)

noncomputable def T_impl_Calc_sg (N : Nat) : Sig := Sig.of [.v (.prod (.int .i64) (.prod (.int .i64) (.prod (.int .i64) (.int .i64)))) true, .v (.slice (.int .i64)) false] [.v (.own (.int .i64)) false, .v (.bool) false] (fun d => T_impl_Calc N d.1 d.2.1)

def T_impl_Calc_ann : Nat → List Ghost
  | _ => []

noncomputable def T_impl_Calc_ctx (N : Nat) : Ctx := [(62, T_impl_copyInts_sg N), (178, T_impl_OpOk_sg N), (91, T_impl_areValues_sg N)]

theorem T_impl_Calc_den (N : Nat) (o1 : Int × Int × Int × Int) (regs2 : List Int) :
    den (R := ODen (T_impl_Calc_sg N).ps × RDen (T_impl_Calc_sg N).rs) tab (T_impl_Calc_ctx N) T_impl_Calc_ann N (T_impl_Calc_sg N) Try.f154 (o1, regs2, ()) some =
    (T_impl_Calc N o1 regs2 : Option (ODen (T_impl_Calc_sg N).ps × RDen (T_impl_Calc_sg N).rs)) := by kernel_rfl

theorem T_impl_Calc_ok (N : Nat) : chkBody Try.f154 (T_impl_Calc_sg N).ps = true := by kernel_rfl

theorem T_impl_Calc_callable : Callable Try.prog 154 := callable_of Try.func154 (show chkFn Try.f154 = true by kernel_rfl)

theorem T_impl_Calc_good (N : Nat) : Good Try.prog 154 (T_impl_Calc_sg N) :=
  good_body mixedOk tabOk (ctx_cons (T_impl_copyInts_good N) T_impl_copyInts_callable (ctx_cons (T_impl_OpOk_good N) T_impl_OpOk_callable (ctx_cons (T_impl_areValues_good N) T_impl_areValues_callable ctx_nil))) Try.func154 (T_impl_Calc_ok N) (fun d _ h => ⟨N, (T_impl_Calc_den N d.1 d.2.1).trans h⟩)

noncomputable def T_impl_eager_run_sg (N : Nat) : Sig := Sig.of [.box (.prod (.own (.int .i64)) (.prod (.own (.int .i64)) (.prod (.own (.prod (.int .i64) (.int .i64))) (.prod (.int .i64) (.prod (.own (.prod (.int .i64) (.prod (.int .i64) (.own (.int .i64))))) (.own (.int .i64))))))), .v (.slice (.prod (.int .i64) (.prod (.int .i64) (.prod (.int .i64) (.int .i64))))) false] [.v (.int .i64) false] (fun d => T_impl_eager_run N d.1 d.2.1)

def T_impl_eager_run_ann : Nat → List Ghost
  | 2 => [.canon [0, 1, 5, 12]]
  | 3 => [.canon [0, 1, 5]]
  | 4 => [.canon [0, 1, 5, 6]]
  | 5 => [.canon [0, 1, 5, 6, 20]]
  | 6 => [.canon [0, 1, 5]]
  | 7 => [.canon [0, 1, 5, 6, 20, 33]]
  | 8 => [.canon [0, 1, 5, 6, 41]]
  | 9 => [.canon [0, 1, 5, 6]]
  | 10 => [.canon [0, 1, 5]]
  | 11 => [.canon [0, 1, 5, 6, 20, 68]]
  | 12 => [.canon [0, 1, 5, 6]]
  | 13 => [.canon [0, 1, 5]]
  | 14 => [.canon [0, 1, 5, 6, 20, 105]]
  | 15 => [.canon [0, 1, 5, 6, 115]]
  | 16 => [.canon [0, 1, 5]]
  | 17 => [.canon [0, 1, 5, 6, 20, 120]]
  | 18 => [.nest 139 (.prod (.int .i64) (.prod (.int .i64) (.own (.int .i64)))), .canon [0, 1, 5]]
  | 19 => [.canon [0, 1, 5, 6, 20, 143]]
  | 20 => [.canon [0, 1, 5, 7]]
  | 21 => [.canon [0, 1, 5, 7]]
  | 22 => [.canon [0, 1, 5]]
  | 23 => [.canon [0, 1, 5, 6, 182]]
  | 24 => [.canon [0, 1, 8]]
  | 25 => [.canon [0, 1, 8, 188]]
  | 26 => [.canon [0, 4]]
  | 27 => [.canon [0, 1, 5]]
  | 100002 => [.canon [0, 1, 5]]
  | _ => []

noncomputable def T_impl_eager_run_ctx (N : Nat) : Ctx := [(150, T_slices_ContainsFunc___impl_Row_impl_Row___impl_eager_run_1_sg N), (62, T_impl_copyInts_sg N), (152, T_impl_eager_abort_sg N), (153, T_impl_EndOf_sg N), (154, T_impl_Calc_sg N)]

def T_impl_eager_run_lp0_sh (code3 : List (Int × Int × Int × Int)) (i4 : Int) (b5 : Int) (l6 : List Int) (l7 : List Int) (l8 : List (Int × Int)) (l9 : List (Int × Int × List Int)) (l10 : List Int) : St := { env := [(0, .s (.one (.ptr 0 0))), (1, .s (.one (.val (.slice (.prod (.int .i64) (.prod (.int .i64) (.prod (.int .i64) (.int .i64))))) (code3 : List (Int × Int × Int × Int))))), (5, .s (.one (.val (.int .i64) (i4 : Int))))], objs := [(0, .box [.own 1, .own 2, .own 3, .val (.int .i64) (b5 : Int), .own 4, .own 5]), (1, .arr (.int .i64) (l6 : List Int)), (2, .arr (.int .i64) (l7 : List Int)), (3, .arr (.prod (.int .i64) (.int .i64)) (l8 : List (Int × Int))), (4, .arr (.prod (.int .i64) (.prod (.int .i64) (.own (.int .i64)))) (l9 : List (Int × Int × List Int))), (5, .arr (.int .i64) (l10 : List Int))], nx := 6 }

def T_impl_eager_run_lp0_e0 (code3 : List (Int × Int × Int × Int)) (b16 : Int) (l17 : List Int) (l18 : List Int) (l19 : List (Int × Int)) (l20 : List (Int × Int × List Int)) (l21 : List Int) : St := { env := [(0, .s (.one (.ptr 0 0))), (4, .s (.one (.val (.int .i64) ((2 : Int) : Int))))], objs := [(0, .box [.own 1, .own 2, .own 3, .val (.int .i64) (b16 : Int), .own 4, .own 5]), (1, .arr (.int .i64) (l17 : List Int)), (2, .arr (.int .i64) (l18 : List Int)), (3, .arr (.prod (.int .i64) (.int .i64)) (l19 : List (Int × Int))), (4, .arr (.prod (.int .i64) (.prod (.int .i64) (.own (.int .i64)))) (l20 : List (Int × Int × List Int))), (5, .arr (.int .i64) (l21 : List Int))], nx := 6 }

def T_impl_eager_run_lp0_e1 (code3 : List (Int × Int × Int × Int)) (i22 : Int) (t23 : Bool) (b24 : Int) (l25 : List Int) (l26 : List Int) (l27 : List (Int × Int)) (l28 : List (Int × Int × List Int)) (l29 : List Int) : St := { env := [(0, .s (.one (.ptr 0 0))), (1, .s (.one (.val (.slice (.prod (.int .i64) (.prod (.int .i64) (.prod (.int .i64) (.int .i64))))) (code3 : List (Int × Int × Int × Int))))), (5, .s (.one (.val (.int .i64) (i22 : Int)))), (12, .s (.one (.val (.bool) (t23 : Bool))))], objs := [(0, .box [.own 1, .own 2, .own 3, .val (.int .i64) (b24 : Int), .own 4, .own 5]), (1, .arr (.int .i64) (l25 : List Int)), (2, .arr (.int .i64) (l26 : List Int)), (3, .arr (.prod (.int .i64) (.int .i64)) (l27 : List (Int × Int))), (4, .arr (.prod (.int .i64) (.prod (.int .i64) (.own (.int .i64)))) (l28 : List (Int × Int × List Int))), (5, .arr (.int .i64) (l29 : List Int))], nx := 6 }

noncomputable def T_impl_eager_run_lp0_m (N : Nat) {R : Type} (n : Nat) (st : St) (K : Ex → St → Option R) : Option R := loopN (roundG (T_impl_eager_run_ann 100002) fun st k => sx tab (T_impl_eager_run_ctx N) T_impl_eager_run_ann N (nthLoop Try.f104 0) st k) n st K

theorem T_impl_eager_run_lp0_step (N : Nat) {R : Type} (n : Nat) (K : Ex → St → Option R) (code3 : List (Int × Int × Int × Int)) (i4 : Int) (b5 : Int) (l6 : List Int) (l7 : List Int) (l8 : List (Int × Int)) (l9 : List (Int × Int × List Int)) (l10 : List Int) :
    T_impl_eager_run_lp0_m N (n + 1) (T_impl_eager_run_lp0_sh code3 i4 b5 l6 l7 l8 l9 l10) K =
    (bif decide (i4 < (ilen code3)) then
 (bif inb i4 (List.length code3) then
 (bif (List.getD code3 (Int.toNat i4) ((0 : Int), ((0 : Int), ((0 : Int), (0 : Int))))).1 == (5 : Int) then
 ((T_slices_ContainsFunc___impl_Row_impl_Row___impl_eager_run_1 N l8 (List.getD code3 (Int.toNat i4) ((0 : Int), ((0 : Int), ((0 : Int), (0 : Int)))))).bind fun o30 =>
 (bif !o30.2.1 then
 (bif room ((List.length l10) + (List.length ([o30.1.1.2.2.1]))) then
 (bif inb o30.1.1.2.2.1 (List.length l7) then
 (bif inb o30.1.1.2.1 (List.length l6) then
 (T_impl_eager_run_lp0_m N n (T_impl_eager_run_lp0_sh code3 (iadd .i64 i4 (1 : Int)) b5 (List.set l6 (Int.toNat o30.1.1.2.1) (List.getD l7 (Int.toNat o30.1.1.2.2.1) (0 : Int))) l7 l8 l9 (List.append l10 ([o30.1.1.2.2.1]))) K) else none) else none) else none)
 else
 (bif inb o30.1.1.2.2.1 (List.length l7) then
 (bif inb o30.1.1.2.1 (List.length l6) then
 (T_impl_eager_run_lp0_m N n (T_impl_eager_run_lp0_sh code3 (iadd .i64 i4 (1 : Int)) b5 (List.set l6 (Int.toNat o30.1.1.2.1) (List.getD l7 (Int.toNat o30.1.1.2.2.1) (0 : Int))) l7 l8 l9 l10) K) else none) else none)))
 else
 (bif (List.getD code3 (Int.toNat i4) ((0 : Int), ((0 : Int), ((0 : Int), (0 : Int))))).1 == (6 : Int) then
 (bif inb (List.getD code3 (Int.toNat i4) ((0 : Int), ((0 : Int), ((0 : Int), (0 : Int))))).2.1 (List.length l7) then
 (bif room ((List.length l8) + (List.length ([((List.getD code3 (Int.toNat i4) ((0 : Int), ((0 : Int), ((0 : Int), (0 : Int))))).2.1, List.getD l7 (Int.toNat (List.getD code3 (Int.toNat i4) ((0 : Int), ((0 : Int), ((0 : Int), (0 : Int))))).2.1) (0 : Int))]))) then
 (bif inb (List.getD code3 (Int.toNat i4) ((0 : Int), ((0 : Int), ((0 : Int), (0 : Int))))).2.2.1 (List.length l6) then
 (bif inb (List.getD code3 (Int.toNat i4) ((0 : Int), ((0 : Int), ((0 : Int), (0 : Int))))).2.1 (List.length l7) then
 (T_impl_eager_run_lp0_m N n (T_impl_eager_run_lp0_sh code3 (iadd .i64 i4 (1 : Int)) b5 l6 (List.set l7 (Int.toNat (List.getD code3 (Int.toNat i4) ((0 : Int), ((0 : Int), ((0 : Int), (0 : Int))))).2.1) (List.getD l6 (Int.toNat (List.getD code3 (Int.toNat i4) ((0 : Int), ((0 : Int), ((0 : Int), (0 : Int))))).2.2.1) (0 : Int))) (List.append l8 ([((List.getD code3 (Int.toNat i4) ((0 : Int), ((0 : Int), ((0 : Int), (0 : Int))))).2.1, List.getD l7 (Int.toNat (List.getD code3 (Int.toNat i4) ((0 : Int), ((0 : Int), ((0 : Int), (0 : Int))))).2.1) (0 : Int))])) l9 l10) K) else none) else none) else none) else none)
 else
 (bif (List.getD code3 (Int.toNat i4) ((0 : Int), ((0 : Int), ((0 : Int), (0 : Int))))).1 == (7 : Int) then
 (bif inb (List.getD code3 (Int.toNat i4) ((0 : Int), ((0 : Int), ((0 : Int), (0 : Int))))).2.1 (List.length l6) then
 (bif (List.getD l6 (Int.toNat (List.getD code3 (Int.toNat i4) ((0 : Int), ((0 : Int), ((0 : Int), (0 : Int))))).2.1) (0 : Int)) == (0 : Int) then
 (T_impl_eager_run_lp0_m N n (T_impl_eager_run_lp0_sh code3 (iadd .i64 (iadd .i64 i4 (List.getD code3 (Int.toNat i4) ((0 : Int), ((0 : Int), ((0 : Int), (0 : Int))))).2.2.1) (1 : Int)) b5 l6 l7 l8 l9 l10) K)
 else
 (T_impl_eager_run_lp0_m N n (T_impl_eager_run_lp0_sh code3 (iadd .i64 i4 (1 : Int)) b5 l6 l7 l8 l9 l10) K)) else none)
 else
 (bif (List.getD code3 (Int.toNat i4) ((0 : Int), ((0 : Int), ((0 : Int), (0 : Int))))).1 == (8 : Int) then
 ((T_impl_copyInts N l6).bind fun o31 =>
 (bif room ((List.length l9) + (List.length ([(i4, (ilen l8, o31.2.1))]))) then
 (T_impl_eager_run_lp0_m N n (T_impl_eager_run_lp0_sh code3 (iadd .i64 i4 (1 : Int)) b5 l6 l7 l8 (List.append l9 ([(i4, (ilen l8, o31.2.1))])) l10) K) else none))
 else
 (bif (List.getD code3 (Int.toNat i4) ((0 : Int), ((0 : Int), ((0 : Int), (0 : Int))))).1 == (9 : Int) then
 (bif inb (isub .i64 (ilen l9) (1 : Int)) (List.length l9) then
 (bif (decide ((0 : Int) ≤ (isub .i64 (ilen l9) (1 : Int)))) && (decide ((isub .i64 (ilen l9) (1 : Int)) ≤ ((List.length l9) : Int))) then
 (bif inb (List.getD l9 (Int.toNat (isub .i64 (ilen l9) (1 : Int))) ((0 : Int), ((0 : Int), ([] : List Int)))).1 (List.length code3) then
 (bif inb (List.getD code3 (Int.toNat (List.getD l9 (Int.toNat (isub .i64 (ilen l9) (1 : Int))) ((0 : Int), ((0 : Int), ([] : List Int)))).1) ((0 : Int), ((0 : Int), ((0 : Int), (0 : Int))))).2.1 (List.length l6) then
 (T_impl_eager_run_lp0_m N n (T_impl_eager_run_lp0_sh code3 (iadd .i64 i4 (1 : Int)) b5 (List.set l6 (Int.toNat (List.getD code3 (Int.toNat (List.getD l9 (Int.toNat (isub .i64 (ilen l9) (1 : Int))) ((0 : Int), ((0 : Int), ([] : List Int)))).1) ((0 : Int), ((0 : Int), ((0 : Int), (0 : Int))))).2.1) (1 : Int)) l7 l8 (List.take (Int.toNat (isub .i64 (ilen l9) (1 : Int))) l9) l10) K) else none) else none) else none) else none)
 else
 (bif (List.getD code3 (Int.toNat i4) ((0 : Int), ((0 : Int), ((0 : Int), (0 : Int))))).1 == (10 : Int) then
 ((T_impl_eager_abort N (l6, (l7, (l8, (b5, (l9, l10))))) code3).bind fun o32 =>
 (bif decide (o32.2.1 < (0 : Int)) then
 (K .ret (T_impl_eager_run_lp0_e0 code3 o32.1.1.2.2.2.1 o32.1.1.1 o32.1.1.2.1 o32.1.1.2.2.1 o32.1.1.2.2.2.2.1 o32.1.1.2.2.2.2.2))
 else
 ((T_impl_EndOf N code3 o32.2.1).bind fun o33 =>
 (T_impl_eager_run_lp0_m N n (T_impl_eager_run_lp0_sh code3 (iadd .i64 o33.2.1 (1 : Int)) o32.1.1.2.2.2.1 o32.1.1.1 o32.1.1.2.1 o32.1.1.2.2.1 o32.1.1.2.2.2.2.1 o32.1.1.2.2.2.2.2) K))))
 else
 ((T_impl_Calc N (List.getD code3 (Int.toNat i4) ((0 : Int), ((0 : Int), ((0 : Int), (0 : Int))))) l6).bind fun o34 =>
 (T_impl_eager_run_lp0_m N n (T_impl_eager_run_lp0_sh code3 (iadd .i64 i4 (1 : Int)) b5 o34.2.1 l7 l8 l9 l10) K)))))))) else none)
 else
 (K (.exit 0) (T_impl_eager_run_lp0_e1 code3 i4 (decide (i4 < (ilen code3))) b5 l6 l7 l8 l9 l10))) := by kernel_rfl

theorem T_impl_eager_run_lp0_eq (N : Nat) {R : Type} (code3 : List (Int × Int × Int × Int)) (K : Ex → St → Option R) : ∀ (n : Nat) (i4 : Int) (b5 : Int) (l6 : List Int) (l7 : List Int) (l8 : List (Int × Int)) (l9 : List (Int × Int × List Int)) (l10 : List Int), T_impl_eager_run_lp0_m N n (T_impl_eager_run_lp0_sh code3 i4 b5 l6 l7 l8 l9 l10) K = T_impl_eager_run_lp0 N code3 (fun b16 l17 l18 l19 l20 l21 => (K .ret (T_impl_eager_run_lp0_e0 code3 b16 l17 l18 l19 l20 l21))) (fun i22 t23 b24 l25 l26 l27 l28 l29 => (K (.exit 0) (T_impl_eager_run_lp0_e1 code3 i22 t23 b24 l25 l26 l27 l28 l29))) n i4 b5 l6 l7 l8 l9 l10
  | 0, _, _, _, _, _, _, _ => rfl
  | n + 1, i4, b5, l6, l7, l8, l9, l10 => by rw [T_impl_eager_run_lp0_step, T_impl_eager_run_lp0]; (try simp only [T_impl_eager_run_lp0_eq N code3 K n])

theorem T_impl_eager_run_c1 (N : Nat) (code2 : List (Int × Int × Int × Int)) (b35 : Int) (l36 : List Int) (l37 : List Int) (l38 : List (Int × Int)) (l39 : List (Int × Int × List Int)) (l40 : List Int) :
    ((ctxK (R := ODen (T_impl_eager_run_sg N).ps × RDen (T_impl_eager_run_sg N).rs) tab (T_impl_eager_run_ctx N) T_impl_eager_run_ann N (theCode Try.f104) [1, 0, 1, 0] (retK tab (T_impl_eager_run_sg N) Try.f104.results.toList some)) .ret (T_impl_eager_run_lp0_e0 code2 b35 l36 l37 l38 l39 l40)) =
    (some (α := ODen (T_impl_eager_run_sg N).ps × RDen (T_impl_eager_run_sg N).rs) (((l36, (l37, (l38, (b35, (l39, l40))))), ()), ((2 : Int), ()))) := by kernel_rfl

theorem T_impl_eager_run_c2 (N : Nat) (code2 : List (Int × Int × Int × Int)) (i41 : Int) (t42 : Bool) (b43 : Int) (l44 : List Int) (l45 : List Int) (l46 : List (Int × Int)) (l47 : List (Int × Int × List Int)) (l48 : List Int) :
    ((ctxK (R := ODen (T_impl_eager_run_sg N).ps × RDen (T_impl_eager_run_sg N).rs) tab (T_impl_eager_run_ctx N) T_impl_eager_run_ann N (theCode Try.f104) [1, 0, 1, 0] (retK tab (T_impl_eager_run_sg N) Try.f104.results.toList some)) (.exit 0) (T_impl_eager_run_lp0_e1 code2 i41 t42 b43 l44 l45 l46 l47 l48)) =
    (some (α := ODen (T_impl_eager_run_sg N).ps × RDen (T_impl_eager_run_sg N).rs) (((l44, (l45, (l46, (b43, (l47, l48))))), ()), ((1 : Int), ()))) := by kernel_rfl

theorem T_impl_eager_run_den (N : Nat) (e1 : List Int × List Int × List (Int × Int) × Int × List (Int × Int × List Int) × List Int) (code2 : List (Int × Int × Int × Int)) :
    den (R := ODen (T_impl_eager_run_sg N).ps × RDen (T_impl_eager_run_sg N).rs) tab (T_impl_eager_run_ctx N) T_impl_eager_run_ann N (T_impl_eager_run_sg N) Try.f104 (e1, code2, ()) some =
    (T_impl_eager_run_lp0 N code2
 (fun b35 l36 l37 l38 l39 l40 =>
   (some (α := ODen (T_impl_eager_run_sg N).ps × RDen (T_impl_eager_run_sg N).rs) (((l36, (l37, (l38, (b35, (l39, l40))))), ()), ((2 : Int), ()))))
 (fun i41 t42 b43 l44 l45 l46 l47 l48 =>
   (some (α := ODen (T_impl_eager_run_sg N).ps × RDen (T_impl_eager_run_sg N).rs) (((l44, (l45, (l46, (b43, (l47, l48))))), ()), ((1 : Int), ()))))
  N (0 : Int) e1.2.2.2.1 e1.1 e1.2.1 e1.2.2.1 e1.2.2.2.2.1 e1.2.2.2.2.2) := by
  have h : den (R := ODen (T_impl_eager_run_sg N).ps × RDen (T_impl_eager_run_sg N).rs) tab (T_impl_eager_run_ctx N) T_impl_eager_run_ann N (T_impl_eager_run_sg N) Try.f104 (e1, code2, ()) some =
    (T_impl_eager_run_lp0_m N N (T_impl_eager_run_lp0_sh code2 (0 : Int) e1.2.2.2.1 e1.1 e1.2.1 e1.2.2.1 e1.2.2.2.2.1 e1.2.2.2.2.2) (ctxK (R := ODen (T_impl_eager_run_sg N).ps × RDen (T_impl_eager_run_sg N).rs) tab (T_impl_eager_run_ctx N) T_impl_eager_run_ann N (theCode Try.f104) [1, 0, 1, 0] (retK tab (T_impl_eager_run_sg N) Try.f104.results.toList some))) := by kernel_rfl
  rw [h]
  (try simp only [T_impl_eager_run_lp0_eq, T_impl_eager_run_c1, T_impl_eager_run_c2]) <;> rfl

theorem T_impl_eager_run_ok (N : Nat) : chkBody Try.f104 (T_impl_eager_run_sg N).ps = true := by kernel_rfl

theorem T_impl_eager_run_callable : Callable Try.prog 104 := callable_of Try.func104 (show chkFn Try.f104 = true by kernel_rfl)

theorem T_impl_eager_run_good (N : Nat) : Good Try.prog 104 (T_impl_eager_run_sg N) :=
  good_body mixedOk tabOk (ctx_cons (T_slices_ContainsFunc___impl_Row_impl_Row___impl_eager_run_1_good N) T_slices_ContainsFunc___impl_Row_impl_Row___impl_eager_run_1_callable (ctx_cons (T_impl_copyInts_good N) T_impl_copyInts_callable (ctx_cons (T_impl_eager_abort_good N) T_impl_eager_abort_callable (ctx_cons (T_impl_EndOf_good N) T_impl_EndOf_callable (ctx_cons (T_impl_Calc_good N) T_impl_Calc_callable ctx_nil))))) Try.func104 (T_impl_eager_run_ok N) (fun d _ h => ⟨N, (T_impl_eager_run_den N d.1 d.2.1).trans h⟩)

noncomputable def T_impl_EagerRun_sg (N : Nat) : Sig := Sig.of [.v (.slice (.prod (.int .i64) (.prod (.int .i64) (.prod (.int .i64) (.int .i64))))) false, .v (.slice (.int .i64)) false, .v (.slice (.int .i64)) false] [.v (.prod (.int .i64) (.prod (.own (.int .i64)) (.prod (.own (.int .i64)) (.prod (.own (.prod (.int .i64) (.int .i64))) (.int .i64))))) true] (fun d => T_impl_EagerRun N d.1 d.2.1 d.2.2.1)

def T_impl_EagerRun_ann : Nat → List Ghost
  | _ => []

noncomputable def T_impl_EagerRun_ctx (N : Nat) : Ctx := [(103, T_impl_kidOf_sg N), (104, T_impl_eager_run_sg N)]

theorem T_impl_EagerRun_den (N : Nat) (code1 : List (Int × Int × Int × Int)) (regs2 : List Int) (cells3 : List Int) :
    den (R := ODen (T_impl_EagerRun_sg N).ps × RDen (T_impl_EagerRun_sg N).rs) tab (T_impl_EagerRun_ctx N) T_impl_EagerRun_ann N (T_impl_EagerRun_sg N) Try.f41 (code1, regs2, cells3, ()) some =
    (T_impl_EagerRun N code1 regs2 cells3 : Option (ODen (T_impl_EagerRun_sg N).ps × RDen (T_impl_EagerRun_sg N).rs)) := by kernel_rfl

theorem T_impl_EagerRun_ok (N : Nat) : chkBody Try.f41 (T_impl_EagerRun_sg N).ps = true := by kernel_rfl

theorem T_impl_EagerRun_callable : Callable Try.prog 41 := callable_of Try.func41 (show chkFn Try.f41 = true by kernel_rfl)

theorem T_impl_EagerRun_good (N : Nat) : Good Try.prog 41 (T_impl_EagerRun_sg N) :=
  good_body mixedOk tabOk (ctx_cons (T_impl_kidOf_good N) T_impl_kidOf_callable (ctx_cons (T_impl_eager_run_good N) T_impl_eager_run_callable ctx_nil)) Try.func41 (T_impl_EagerRun_ok N) (fun d _ h => ⟨N, (T_impl_EagerRun_den N d.1 d.2.1 d.2.2.1).trans h⟩)

noncomputable def T_laws_eqIntS_sg (N : Nat) : Sig := Sig.of [.v (.slice (.int .i64)) false, .v (.slice (.int .i64)) false] [.v (.bool) false] (fun d => T_laws_eqIntS N d.1 d.2.1)

def T_laws_eqIntS_ann : Nat → List Ghost
  | 4 => [.canon [0, 1, 5, 14]]
  | 5 => [.canon [0, 1, 5]]
  | 6 => [.canon [0, 1, 5, 25]]
  | 7 => [.canon [4]]
  | 100004 => [.canon [0, 1, 5]]
  | _ => []

noncomputable def T_laws_eqIntS_ctx (N : Nat) : Ctx := []

def T_laws_eqIntS_lp0_sh (a3 : List Int) (b4 : List Int) (i5 : Int) : St := { env := [(0, .s (.one (.val (.slice (.int .i64)) (a3 : List Int)))), (1, .s (.one (.val (.slice (.int .i64)) (b4 : List Int)))), (5, .s (.one (.val (.int .i64) (i5 : Int))))], objs := [], nx := 0 }

def T_laws_eqIntS_lp0_e0 (a3 : List Int) (b4 : List Int) : St := { env := [(4, .s (.one (.val (.bool) (false : Bool))))], objs := [], nx := 0 }

def T_laws_eqIntS_lp0_e1 (a3 : List Int) (b4 : List Int) (i6 : Int) (t7 : Bool) : St := { env := [(0, .s (.one (.val (.slice (.int .i64)) (a3 : List Int)))), (1, .s (.one (.val (.slice (.int .i64)) (b4 : List Int)))), (5, .s (.one (.val (.int .i64) (i6 : Int)))), (14, .s (.one (.val (.bool) (t7 : Bool))))], objs := [], nx := 0 }

noncomputable def T_laws_eqIntS_lp0_m (N : Nat) {R : Type} (n : Nat) (st : St) (K : Ex → St → Option R) : Option R := loopN (roundG (T_laws_eqIntS_ann 100004) fun st k => sx tab (T_laws_eqIntS_ctx N) T_laws_eqIntS_ann N (nthLoop Try.f44 0) st k) n st K

theorem T_laws_eqIntS_lp0_step (N : Nat) {R : Type} (n : Nat) (K : Ex → St → Option R) (a3 : List Int) (b4 : List Int) (i5 : Int) :
    T_laws_eqIntS_lp0_m N (n + 1) (T_laws_eqIntS_lp0_sh a3 b4 i5) K =
    (bif decide (i5 < (ilen a3)) then
 (bif inb i5 (List.length a3) then
 (bif inb i5 (List.length b4) then
 (bif (List.getD a3 (Int.toNat i5) (0 : Int)) != (List.getD b4 (Int.toNat i5) (0 : Int)) then
 (K .ret (T_laws_eqIntS_lp0_e0 a3 b4))
 else
 (T_laws_eqIntS_lp0_m N n (T_laws_eqIntS_lp0_sh a3 b4 (iadd .i64 i5 (1 : Int))) K)) else none) else none)
 else
 (K (.exit 0) (T_laws_eqIntS_lp0_e1 a3 b4 i5 (decide (i5 < (ilen a3)))))) := by kernel_rfl

theorem T_laws_eqIntS_lp0_eq (N : Nat) {R : Type} (a3 : List Int) (b4 : List Int) (K : Ex → St → Option R) : ∀ (n : Nat) (i5 : Int), T_laws_eqIntS_lp0_m N n (T_laws_eqIntS_lp0_sh a3 b4 i5) K = T_laws_eqIntS_lp0 N a3 b4 (K .ret (T_laws_eqIntS_lp0_e0 a3 b4)) (fun i6 t7 => (K (.exit 0) (T_laws_eqIntS_lp0_e1 a3 b4 i6 t7))) n i5
  | 0, _ => rfl
  | n + 1, i5 => by rw [T_laws_eqIntS_lp0_step, T_laws_eqIntS_lp0]; (try simp only [T_laws_eqIntS_lp0_eq N a3 b4 K n])

theorem T_laws_eqIntS_c1 (N : Nat) (a1 : List Int) (b2 : List Int) :
    ((ctxK (R := ODen (T_laws_eqIntS_sg N).ps × RDen (T_laws_eqIntS_sg N).rs) tab (T_laws_eqIntS_ctx N) T_laws_eqIntS_ann N (theCode Try.f44) [1, 1, 0, 1, 0] (retK tab (T_laws_eqIntS_sg N) Try.f44.results.toList some)) .ret (T_laws_eqIntS_lp0_e0 a1 b2)) =
    (some (α := ODen (T_laws_eqIntS_sg N).ps × RDen (T_laws_eqIntS_sg N).rs) ((), (false, ()))) := by kernel_rfl

theorem T_laws_eqIntS_c2 (N : Nat) (a1 : List Int) (b2 : List Int) (i8 : Int) (t9 : Bool) :
    ((ctxK (R := ODen (T_laws_eqIntS_sg N).ps × RDen (T_laws_eqIntS_sg N).rs) tab (T_laws_eqIntS_ctx N) T_laws_eqIntS_ann N (theCode Try.f44) [1, 1, 0, 1, 0] (retK tab (T_laws_eqIntS_sg N) Try.f44.results.toList some)) (.exit 0) (T_laws_eqIntS_lp0_e1 a1 b2 i8 t9)) =
    (some (α := ODen (T_laws_eqIntS_sg N).ps × RDen (T_laws_eqIntS_sg N).rs) ((), (true, ()))) := by kernel_rfl

theorem T_laws_eqIntS_den (N : Nat) (a1 : List Int) (b2 : List Int) :
    den (R := ODen (T_laws_eqIntS_sg N).ps × RDen (T_laws_eqIntS_sg N).rs) tab (T_laws_eqIntS_ctx N) T_laws_eqIntS_ann N (T_laws_eqIntS_sg N) Try.f44 (a1, b2, ()) some =
    (bif (ilen a1) != (ilen b2) then
 (some (α := ODen (T_laws_eqIntS_sg N).ps × RDen (T_laws_eqIntS_sg N).rs) ((), (false, ())))
 else
 (T_laws_eqIntS_lp0 N a1 b2
 (some (α := ODen (T_laws_eqIntS_sg N).ps × RDen (T_laws_eqIntS_sg N).rs) ((), (false, ())))
 (fun i8 t9 =>
   (some (α := ODen (T_laws_eqIntS_sg N).ps × RDen (T_laws_eqIntS_sg N).rs) ((), (true, ()))))
  N (0 : Int))) := by
  have h : den (R := ODen (T_laws_eqIntS_sg N).ps × RDen (T_laws_eqIntS_sg N).rs) tab (T_laws_eqIntS_ctx N) T_laws_eqIntS_ann N (T_laws_eqIntS_sg N) Try.f44 (a1, b2, ()) some =
    (bif (ilen a1) != (ilen b2) then
 (some (α := ODen (T_laws_eqIntS_sg N).ps × RDen (T_laws_eqIntS_sg N).rs) ((), (false, ())))
 else
 (T_laws_eqIntS_lp0_m N N (T_laws_eqIntS_lp0_sh a1 b2 (0 : Int)) (ctxK (R := ODen (T_laws_eqIntS_sg N).ps × RDen (T_laws_eqIntS_sg N).rs) tab (T_laws_eqIntS_ctx N) T_laws_eqIntS_ann N (theCode Try.f44) [1, 1, 0, 1, 0] (retK tab (T_laws_eqIntS_sg N) Try.f44.results.toList some)))) := by kernel_rfl
  rw [h]
  (try simp only [T_laws_eqIntS_lp0_eq, T_laws_eqIntS_c1, T_laws_eqIntS_c2]) <;> rfl

theorem T_laws_eqIntS_ok (N : Nat) : chkBody Try.f44 (T_laws_eqIntS_sg N).ps = true := by kernel_rfl

theorem T_laws_eqIntS_callable : Callable Try.prog 44 := callable_of Try.func44 (show chkFn Try.f44 = true by kernel_rfl)

theorem T_laws_eqIntS_good (N : Nat) : Good Try.prog 44 (T_laws_eqIntS_sg N) :=
  good_body mixedOk tabOk ctx_nil Try.func44 (T_laws_eqIntS_ok N) (fun d _ h => ⟨N, (T_laws_eqIntS_den N d.1 d.2.1).trans h⟩)

noncomputable def T_laws_eqRow_sg (N : Nat) : Sig := Sig.of [.v (.prod (.int .i64) (.int .i64)) true, .v (.prod (.int .i64) (.int .i64)) true] [.v (.bool) false] (fun d => T_laws_eqRow N d.1 d.2.1)

def T_laws_eqRow_ann : Nat → List Ghost
  | _ => []

noncomputable def T_laws_eqRow_ctx (N : Nat) : Ctx := []

theorem T_laws_eqRow_den (N : Nat) (a1 : Int × Int) (b2 : Int × Int) :
    den (R := ODen (T_laws_eqRow_sg N).ps × RDen (T_laws_eqRow_sg N).rs) tab (T_laws_eqRow_ctx N) T_laws_eqRow_ann N (T_laws_eqRow_sg N) Try.f155 (a1, b2, ()) some =
    (T_laws_eqRow N a1 b2 : Option (ODen (T_laws_eqRow_sg N).ps × RDen (T_laws_eqRow_sg N).rs)) := by kernel_rfl

theorem T_laws_eqRow_ok (N : Nat) : chkBody Try.f155 (T_laws_eqRow_sg N).ps = true := by kernel_rfl

theorem T_laws_eqRow_callable : Callable Try.prog 155 := callable_of Try.func155 (show chkFn Try.f155 = true by kernel_rfl)

theorem T_laws_eqRow_good (N : Nat) : Good Try.prog 155 (T_laws_eqRow_sg N) :=
  good_body mixedOk tabOk ctx_nil Try.func155 (T_laws_eqRow_ok N) (fun d _ h => ⟨N, (T_laws_eqRow_den N d.1 d.2.1).trans h⟩)

noncomputable def T_laws_eqRowS_sg (N : Nat) : Sig := Sig.of [.v (.slice (.prod (.int .i64) (.int .i64))) false, .v (.slice (.prod (.int .i64) (.int .i64))) false] [.v (.bool) false] (fun d => T_laws_eqRowS N d.1 d.2.1)

def T_laws_eqRowS_ann : Nat → List Ghost
  | 4 => [.canon [0, 1, 5, 14]]
  | 5 => [.canon [0, 1, 5]]
  | 6 => [.canon [0, 1, 5, 26]]
  | 7 => [.canon [4]]
  | 100004 => [.canon [0, 1, 5]]
  | _ => []

noncomputable def T_laws_eqRowS_ctx (N : Nat) : Ctx := [(155, T_laws_eqRow_sg N)]

def T_laws_eqRowS_lp0_sh (a3 : List (Int × Int)) (b4 : List (Int × Int)) (i5 : Int) : St := { env := [(0, .s (.one (.val (.slice (.prod (.int .i64) (.int .i64))) (a3 : List (Int × Int))))), (1, .s (.one (.val (.slice (.prod (.int .i64) (.int .i64))) (b4 : List (Int × Int))))), (5, .s (.one (.val (.int .i64) (i5 : Int))))], objs := [], nx := 0 }

def T_laws_eqRowS_lp0_e0 (a3 : List (Int × Int)) (b4 : List (Int × Int)) : St := { env := [(4, .s (.one (.val (.bool) (false : Bool))))], objs := [], nx := 0 }

def T_laws_eqRowS_lp0_e1 (a3 : List (Int × Int)) (b4 : List (Int × Int)) (i7 : Int) (t8 : Bool) : St := { env := [(0, .s (.one (.val (.slice (.prod (.int .i64) (.int .i64))) (a3 : List (Int × Int))))), (1, .s (.one (.val (.slice (.prod (.int .i64) (.int .i64))) (b4 : List (Int × Int))))), (5, .s (.one (.val (.int .i64) (i7 : Int)))), (14, .s (.one (.val (.bool) (t8 : Bool))))], objs := [], nx := 0 }

noncomputable def T_laws_eqRowS_lp0_m (N : Nat) {R : Type} (n : Nat) (st : St) (K : Ex → St → Option R) : Option R := loopN (roundG (T_laws_eqRowS_ann 100004) fun st k => sx tab (T_laws_eqRowS_ctx N) T_laws_eqRowS_ann N (nthLoop Try.f105 0) st k) n st K

theorem T_laws_eqRowS_lp0_step (N : Nat) {R : Type} (n : Nat) (K : Ex → St → Option R) (a3 : List (Int × Int)) (b4 : List (Int × Int)) (i5 : Int) :
    T_laws_eqRowS_lp0_m N (n + 1) (T_laws_eqRowS_lp0_sh a3 b4 i5) K =
    (bif decide (i5 < (ilen a3)) then
 (bif inb i5 (List.length a3) then
 (bif inb i5 (List.length b4) then
 ((T_laws_eqRow N (List.getD a3 (Int.toNat i5) ((0 : Int), (0 : Int))) (List.getD b4 (Int.toNat i5) ((0 : Int), (0 : Int)))).bind fun o9 =>
 (bif !o9.2.1 then
 (K .ret (T_laws_eqRowS_lp0_e0 a3 b4))
 else
 (T_laws_eqRowS_lp0_m N n (T_laws_eqRowS_lp0_sh a3 b4 (iadd .i64 i5 (1 : Int))) K))) else none) else none)
 else
 (K (.exit 0) (T_laws_eqRowS_lp0_e1 a3 b4 i5 (decide (i5 < (ilen a3)))))) := by kernel_rfl

theorem T_laws_eqRowS_lp0_eq (N : Nat) {R : Type} (a3 : List (Int × Int)) (b4 : List (Int × Int)) (K : Ex → St → Option R) : ∀ (n : Nat) (i5 : Int), T_laws_eqRowS_lp0_m N n (T_laws_eqRowS_lp0_sh a3 b4 i5) K = T_laws_eqRowS_lp0 N a3 b4 (K .ret (T_laws_eqRowS_lp0_e0 a3 b4)) (fun i7 t8 => (K (.exit 0) (T_laws_eqRowS_lp0_e1 a3 b4 i7 t8))) n i5
  | 0, _ => rfl
  | n + 1, i5 => by rw [T_laws_eqRowS_lp0_step, T_laws_eqRowS_lp0]; (try simp only [T_laws_eqRowS_lp0_eq N a3 b4 K n])

theorem T_laws_eqRowS_c1 (N : Nat) (a1 : List (Int × Int)) (b2 : List (Int × Int)) :
    ((ctxK (R := ODen (T_laws_eqRowS_sg N).ps × RDen (T_laws_eqRowS_sg N).rs) tab (T_laws_eqRowS_ctx N) T_laws_eqRowS_ann N (theCode Try.f105) [1, 1, 0, 1, 0] (retK tab (T_laws_eqRowS_sg N) Try.f105.results.toList some)) .ret (T_laws_eqRowS_lp0_e0 a1 b2)) =
    (some (α := ODen (T_laws_eqRowS_sg N).ps × RDen (T_laws_eqRowS_sg N).rs) ((), (false, ()))) := by kernel_rfl

theorem T_laws_eqRowS_c2 (N : Nat) (a1 : List (Int × Int)) (b2 : List (Int × Int)) (i10 : Int) (t11 : Bool) :
    ((ctxK (R := ODen (T_laws_eqRowS_sg N).ps × RDen (T_laws_eqRowS_sg N).rs) tab (T_laws_eqRowS_ctx N) T_laws_eqRowS_ann N (theCode Try.f105) [1, 1, 0, 1, 0] (retK tab (T_laws_eqRowS_sg N) Try.f105.results.toList some)) (.exit 0) (T_laws_eqRowS_lp0_e1 a1 b2 i10 t11)) =
    (some (α := ODen (T_laws_eqRowS_sg N).ps × RDen (T_laws_eqRowS_sg N).rs) ((), (true, ()))) := by kernel_rfl

theorem T_laws_eqRowS_den (N : Nat) (a1 : List (Int × Int)) (b2 : List (Int × Int)) :
    den (R := ODen (T_laws_eqRowS_sg N).ps × RDen (T_laws_eqRowS_sg N).rs) tab (T_laws_eqRowS_ctx N) T_laws_eqRowS_ann N (T_laws_eqRowS_sg N) Try.f105 (a1, b2, ()) some =
    (bif (ilen a1) != (ilen b2) then
 (some (α := ODen (T_laws_eqRowS_sg N).ps × RDen (T_laws_eqRowS_sg N).rs) ((), (false, ())))
 else
 (T_laws_eqRowS_lp0 N a1 b2
 (some (α := ODen (T_laws_eqRowS_sg N).ps × RDen (T_laws_eqRowS_sg N).rs) ((), (false, ())))
 (fun i10 t11 =>
   (some (α := ODen (T_laws_eqRowS_sg N).ps × RDen (T_laws_eqRowS_sg N).rs) ((), (true, ()))))
  N (0 : Int))) := by
  have h : den (R := ODen (T_laws_eqRowS_sg N).ps × RDen (T_laws_eqRowS_sg N).rs) tab (T_laws_eqRowS_ctx N) T_laws_eqRowS_ann N (T_laws_eqRowS_sg N) Try.f105 (a1, b2, ()) some =
    (bif (ilen a1) != (ilen b2) then
 (some (α := ODen (T_laws_eqRowS_sg N).ps × RDen (T_laws_eqRowS_sg N).rs) ((), (false, ())))
 else
 (T_laws_eqRowS_lp0_m N N (T_laws_eqRowS_lp0_sh a1 b2 (0 : Int)) (ctxK (R := ODen (T_laws_eqRowS_sg N).ps × RDen (T_laws_eqRowS_sg N).rs) tab (T_laws_eqRowS_ctx N) T_laws_eqRowS_ann N (theCode Try.f105) [1, 1, 0, 1, 0] (retK tab (T_laws_eqRowS_sg N) Try.f105.results.toList some)))) := by kernel_rfl
  rw [h]
  (try simp only [T_laws_eqRowS_lp0_eq, T_laws_eqRowS_c1, T_laws_eqRowS_c2]) <;> rfl

theorem T_laws_eqRowS_ok (N : Nat) : chkBody Try.f105 (T_laws_eqRowS_sg N).ps = true := by kernel_rfl

theorem T_laws_eqRowS_callable : Callable Try.prog 105 := callable_of Try.func105 (show chkFn Try.f105 = true by kernel_rfl)

theorem T_laws_eqRowS_good (N : Nat) : Good Try.prog 105 (T_laws_eqRowS_sg N) :=
  good_body mixedOk tabOk (ctx_cons (T_laws_eqRow_good N) T_laws_eqRow_callable ctx_nil) Try.func105 (T_laws_eqRowS_ok N) (fun d _ h => ⟨N, (T_laws_eqRowS_den N d.1 d.2.1).trans h⟩)

noncomputable def T_laws_eqEager_sg (N : Nat) : Sig := Sig.of [.v (.prod (.int .i64) (.prod (.slice (.int .i64)) (.prod (.slice (.int .i64)) (.prod (.slice (.prod (.int .i64) (.int .i64))) (.int .i64))))) true, .v (.prod (.int .i64) (.prod (.slice (.int .i64)) (.prod (.slice (.int .i64)) (.prod (.slice (.prod (.int .i64) (.int .i64))) (.int .i64))))) true] [.v (.bool) false] (fun d => T_laws_eqEager N d.1 d.2.1)

def T_laws_eqEager_ann : Nat → List Ghost
  | _ => []

noncomputable def T_laws_eqEager_ctx (N : Nat) : Ctx := [(44, T_laws_eqIntS_sg N), (105, T_laws_eqRowS_sg N)]

theorem T_laws_eqEager_den (N : Nat) (a1 : Int × List Int × List Int × List (Int × Int) × Int) (b2 : Int × List Int × List Int × List (Int × Int) × Int) :
    den (R := ODen (T_laws_eqEager_sg N).ps × RDen (T_laws_eqEager_sg N).rs) tab (T_laws_eqEager_ctx N) T_laws_eqEager_ann N (T_laws_eqEager_sg N) Try.f42 (a1, b2, ()) some =
    (T_laws_eqEager N a1 b2 : Option (ODen (T_laws_eqEager_sg N).ps × RDen (T_laws_eqEager_sg N).rs)) := by kernel_rfl

theorem T_laws_eqEager_ok (N : Nat) : chkBody Try.f42 (T_laws_eqEager_sg N).ps = true := by kernel_rfl

theorem T_laws_eqEager_callable : Callable Try.prog 42 := callable_of Try.func42 (show chkFn Try.f42 = true by kernel_rfl)

theorem T_laws_eqEager_good (N : Nat) : Good Try.prog 42 (T_laws_eqEager_sg N) :=
  good_body mixedOk tabOk (ctx_cons (T_laws_eqIntS_good N) T_laws_eqIntS_callable (ctx_cons (T_laws_eqRowS_good N) T_laws_eqRowS_callable ctx_nil)) Try.func42 (T_laws_eqEager_ok N) (fun d _ h => ⟨N, (T_laws_eqEager_den N d.1 d.2.1).trans h⟩)

noncomputable def T_laws_eqOp_sg (N : Nat) : Sig := Sig.of [.v (.prod (.int .i64) (.prod (.int .i64) (.prod (.int .i64) (.int .i64)))) true, .v (.prod (.int .i64) (.prod (.int .i64) (.prod (.int .i64) (.int .i64)))) true] [.v (.bool) false] (fun d => T_laws_eqOp N d.1 d.2.1)

def T_laws_eqOp_ann : Nat → List Ghost
  | _ => []

noncomputable def T_laws_eqOp_ctx (N : Nat) : Ctx := []

theorem T_laws_eqOp_den (N : Nat) (a1 : Int × Int × Int × Int) (b2 : Int × Int × Int × Int) :
    den (R := ODen (T_laws_eqOp_sg N).ps × RDen (T_laws_eqOp_sg N).rs) tab (T_laws_eqOp_ctx N) T_laws_eqOp_ann N (T_laws_eqOp_sg N) Try.f106 (a1, b2, ()) some =
    (T_laws_eqOp N a1 b2 : Option (ODen (T_laws_eqOp_sg N).ps × RDen (T_laws_eqOp_sg N).rs)) := by kernel_rfl

theorem T_laws_eqOp_ok (N : Nat) : chkBody Try.f106 (T_laws_eqOp_sg N).ps = true := by kernel_rfl

theorem T_laws_eqOp_callable : Callable Try.prog 106 := callable_of Try.func106 (show chkFn Try.f106 = true by kernel_rfl)

theorem T_laws_eqOp_good (N : Nat) : Good Try.prog 106 (T_laws_eqOp_sg N) :=
  good_body mixedOk tabOk ctx_nil Try.func106 (T_laws_eqOp_ok N) (fun d _ h => ⟨N, (T_laws_eqOp_den N d.1 d.2.1).trans h⟩)

noncomputable def T_laws_eqOpS_sg (N : Nat) : Sig := Sig.of [.v (.slice (.prod (.int .i64) (.prod (.int .i64) (.prod (.int .i64) (.int .i64))))) false, .v (.slice (.prod (.int .i64) (.prod (.int .i64) (.prod (.int .i64) (.int .i64))))) false] [.v (.bool) false] (fun d => T_laws_eqOpS N d.1 d.2.1)

def T_laws_eqOpS_ann : Nat → List Ghost
  | 4 => [.canon [0, 1, 5, 14]]
  | 5 => [.canon [0, 1, 5]]
  | 6 => [.canon [0, 1, 5, 26]]
  | 7 => [.canon [4]]
  | 100004 => [.canon [0, 1, 5]]
  | _ => []

noncomputable def T_laws_eqOpS_ctx (N : Nat) : Ctx := [(106, T_laws_eqOp_sg N)]

def T_laws_eqOpS_lp0_sh (a3 : List (Int × Int × Int × Int)) (b4 : List (Int × Int × Int × Int)) (i5 : Int) : St := { env := [(0, .s (.one (.val (.slice (.prod (.int .i64) (.prod (.int .i64) (.prod (.int .i64) (.int .i64))))) (a3 : List (Int × Int × Int × Int))))), (1, .s (.one (.val (.slice (.prod (.int .i64) (.prod (.int .i64) (.prod (.int .i64) (.int .i64))))) (b4 : List (Int × Int × Int × Int))))), (5, .s (.one (.val (.int .i64) (i5 : Int))))], objs := [], nx := 0 }

def T_laws_eqOpS_lp0_e0 (a3 : List (Int × Int × Int × Int)) (b4 : List (Int × Int × Int × Int)) : St := { env := [(4, .s (.one (.val (.bool) (false : Bool))))], objs := [], nx := 0 }

def T_laws_eqOpS_lp0_e1 (a3 : List (Int × Int × Int × Int)) (b4 : List (Int × Int × Int × Int)) (i7 : Int) (t8 : Bool) : St := { env := [(0, .s (.one (.val (.slice (.prod (.int .i64) (.prod (.int .i64) (.prod (.int .i64) (.int .i64))))) (a3 : List (Int × Int × Int × Int))))), (1, .s (.one (.val (.slice (.prod (.int .i64) (.prod (.int .i64) (.prod (.int .i64) (.int .i64))))) (b4 : List (Int × Int × Int × Int))))), (5, .s (.one (.val (.int .i64) (i7 : Int)))), (14, .s (.one (.val (.bool) (t8 : Bool))))], objs := [], nx := 0 }

noncomputable def T_laws_eqOpS_lp0_m (N : Nat) {R : Type} (n : Nat) (st : St) (K : Ex → St → Option R) : Option R := loopN (roundG (T_laws_eqOpS_ann 100004) fun st k => sx tab (T_laws_eqOpS_ctx N) T_laws_eqOpS_ann N (nthLoop Try.f43 0) st k) n st K

theorem T_laws_eqOpS_lp0_step (N : Nat) {R : Type} (n : Nat) (K : Ex → St → Option R) (a3 : List (Int × Int × Int × Int)) (b4 : List (Int × Int × Int × Int)) (i5 : Int) :
    T_laws_eqOpS_lp0_m N (n + 1) (T_laws_eqOpS_lp0_sh a3 b4 i5) K =
    (bif decide (i5 < (ilen a3)) then
 (bif inb i5 (List.length a3) then
 (bif inb i5 (List.length b4) then
 ((T_laws_eqOp N (List.getD a3 (Int.toNat i5) ((0 : Int), ((0 : Int), ((0 : Int), (0 : Int))))) (List.getD b4 (Int.toNat i5) ((0 : Int), ((0 : Int), ((0 : Int), (0 : Int)))))).bind fun o9 =>
 (bif !o9.2.1 then
 (K .ret (T_laws_eqOpS_lp0_e0 a3 b4))
 else
 (T_laws_eqOpS_lp0_m N n (T_laws_eqOpS_lp0_sh a3 b4 (iadd .i64 i5 (1 : Int))) K))) else none) else none)
 else
 (K (.exit 0) (T_laws_eqOpS_lp0_e1 a3 b4 i5 (decide (i5 < (ilen a3)))))) := by kernel_rfl

theorem T_laws_eqOpS_lp0_eq (N : Nat) {R : Type} (a3 : List (Int × Int × Int × Int)) (b4 : List (Int × Int × Int × Int)) (K : Ex → St → Option R) : ∀ (n : Nat) (i5 : Int), T_laws_eqOpS_lp0_m N n (T_laws_eqOpS_lp0_sh a3 b4 i5) K = T_laws_eqOpS_lp0 N a3 b4 (K .ret (T_laws_eqOpS_lp0_e0 a3 b4)) (fun i7 t8 => (K (.exit 0) (T_laws_eqOpS_lp0_e1 a3 b4 i7 t8))) n i5
  | 0, _ => rfl
  | n + 1, i5 => by rw [T_laws_eqOpS_lp0_step, T_laws_eqOpS_lp0]; (try simp only [T_laws_eqOpS_lp0_eq N a3 b4 K n])

theorem T_laws_eqOpS_c1 (N : Nat) (a1 : List (Int × Int × Int × Int)) (b2 : List (Int × Int × Int × Int)) :
    ((ctxK (R := ODen (T_laws_eqOpS_sg N).ps × RDen (T_laws_eqOpS_sg N).rs) tab (T_laws_eqOpS_ctx N) T_laws_eqOpS_ann N (theCode Try.f43) [1, 1, 0, 1, 0] (retK tab (T_laws_eqOpS_sg N) Try.f43.results.toList some)) .ret (T_laws_eqOpS_lp0_e0 a1 b2)) =
    (some (α := ODen (T_laws_eqOpS_sg N).ps × RDen (T_laws_eqOpS_sg N).rs) ((), (false, ()))) := by kernel_rfl

theorem T_laws_eqOpS_c2 (N : Nat) (a1 : List (Int × Int × Int × Int)) (b2 : List (Int × Int × Int × Int)) (i10 : Int) (t11 : Bool) :
    ((ctxK (R := ODen (T_laws_eqOpS_sg N).ps × RDen (T_laws_eqOpS_sg N).rs) tab (T_laws_eqOpS_ctx N) T_laws_eqOpS_ann N (theCode Try.f43) [1, 1, 0, 1, 0] (retK tab (T_laws_eqOpS_sg N) Try.f43.results.toList some)) (.exit 0) (T_laws_eqOpS_lp0_e1 a1 b2 i10 t11)) =
    (some (α := ODen (T_laws_eqOpS_sg N).ps × RDen (T_laws_eqOpS_sg N).rs) ((), (true, ()))) := by kernel_rfl

theorem T_laws_eqOpS_den (N : Nat) (a1 : List (Int × Int × Int × Int)) (b2 : List (Int × Int × Int × Int)) :
    den (R := ODen (T_laws_eqOpS_sg N).ps × RDen (T_laws_eqOpS_sg N).rs) tab (T_laws_eqOpS_ctx N) T_laws_eqOpS_ann N (T_laws_eqOpS_sg N) Try.f43 (a1, b2, ()) some =
    (bif (ilen a1) != (ilen b2) then
 (some (α := ODen (T_laws_eqOpS_sg N).ps × RDen (T_laws_eqOpS_sg N).rs) ((), (false, ())))
 else
 (T_laws_eqOpS_lp0 N a1 b2
 (some (α := ODen (T_laws_eqOpS_sg N).ps × RDen (T_laws_eqOpS_sg N).rs) ((), (false, ())))
 (fun i10 t11 =>
   (some (α := ODen (T_laws_eqOpS_sg N).ps × RDen (T_laws_eqOpS_sg N).rs) ((), (true, ()))))
  N (0 : Int))) := by
  have h : den (R := ODen (T_laws_eqOpS_sg N).ps × RDen (T_laws_eqOpS_sg N).rs) tab (T_laws_eqOpS_ctx N) T_laws_eqOpS_ann N (T_laws_eqOpS_sg N) Try.f43 (a1, b2, ()) some =
    (bif (ilen a1) != (ilen b2) then
 (some (α := ODen (T_laws_eqOpS_sg N).ps × RDen (T_laws_eqOpS_sg N).rs) ((), (false, ())))
 else
 (T_laws_eqOpS_lp0_m N N (T_laws_eqOpS_lp0_sh a1 b2 (0 : Int)) (ctxK (R := ODen (T_laws_eqOpS_sg N).ps × RDen (T_laws_eqOpS_sg N).rs) tab (T_laws_eqOpS_ctx N) T_laws_eqOpS_ann N (theCode Try.f43) [1, 1, 0, 1, 0] (retK tab (T_laws_eqOpS_sg N) Try.f43.results.toList some)))) := by kernel_rfl
  rw [h]
  (try simp only [T_laws_eqOpS_lp0_eq, T_laws_eqOpS_c1, T_laws_eqOpS_c2]) <;> rfl

theorem T_laws_eqOpS_ok (N : Nat) : chkBody Try.f43 (T_laws_eqOpS_sg N).ps = true := by kernel_rfl

theorem T_laws_eqOpS_callable : Callable Try.prog 43 := callable_of Try.func43 (show chkFn Try.f43 = true by kernel_rfl)

theorem T_laws_eqOpS_good (N : Nat) : Good Try.prog 43 (T_laws_eqOpS_sg N) :=
  good_body mixedOk tabOk (ctx_cons (T_laws_eqOp_good N) T_laws_eqOp_callable ctx_nil) Try.func43 (T_laws_eqOpS_ok N) (fun d _ h => ⟨N, (T_laws_eqOpS_den N d.1 d.2.1).trans h⟩)

noncomputable def T_laws_markOpS_sg (N : Nat) : Sig := Sig.of [.mut (.prod (.int .i64) (.prod (.int .i64) (.prod (.int .i64) (.int .i64)))), .v (.int .i64) false] [.v (.int .i64) false] (fun d => T_laws_markOpS N d.1 d.2.1)

def T_laws_markOpS_ann : Nat → List Ghost
  | 2 => [.canon [0, 1, 5, 9]]
  | 3 => [.canon [0, 1, 5]]
  | 4 => [.canon [0, 1, 5]]
  | 5 => [.canon [0, 1, 5]]
  | 6 => [.canon [0, 1, 5]]
  | 7 => [.canon [0, 1, 5]]
  | 8 => [.canon [0, 1, 5]]
  | 9 => [.canon [0, 1, 5]]
  | 10 => [.canon [0, 1, 5]]
  | 11 => [.canon [0, 1, 5]]
  | 100002 => [.canon [0, 1, 5]]
  | _ => []

noncomputable def T_laws_markOpS_ctx (N : Nat) : Ctx := []

def T_laws_markOpS_lp0_sh (k3 : Int) (i4 : Int) (l5 : List (Int × Int × Int × Int)) : St := { env := [(0, .s (.one (.own 0))), (1, .s (.one (.val (.int .i64) (k3 : Int)))), (5, .s (.one (.val (.int .i64) (i4 : Int))))], objs := [(0, .arr (.prod (.int .i64) (.prod (.int .i64) (.prod (.int .i64) (.int .i64)))) (l5 : List (Int × Int × Int × Int)))], nx := 1 }

def T_laws_markOpS_lp0_e0 (k9 : Int) (i10 : Int) (t11 : Bool) (l12 : List (Int × Int × Int × Int)) : St := { env := [(0, .s (.one (.own 0))), (1, .s (.one (.val (.int .i64) (k9 : Int)))), (5, .s (.one (.val (.int .i64) (i10 : Int)))), (9, .s (.one (.val (.bool) (t11 : Bool))))], objs := [(0, .arr (.prod (.int .i64) (.prod (.int .i64) (.prod (.int .i64) (.int .i64)))) (l12 : List (Int × Int × Int × Int)))], nx := 1 }

noncomputable def T_laws_markOpS_lp0_m (N : Nat) {R : Type} (n : Nat) (st : St) (K : Ex → St → Option R) : Option R := loopN (roundG (T_laws_markOpS_ann 100002) fun st k => sx tab (T_laws_markOpS_ctx N) T_laws_markOpS_ann N (nthLoop Try.f45 0) st k) n st K

theorem T_laws_markOpS_lp0_step (N : Nat) {R : Type} (n : Nat) (K : Ex → St → Option R) (k3 : Int) (i4 : Int) (l5 : List (Int × Int × Int × Int)) :
    T_laws_markOpS_lp0_m N (n + 1) (T_laws_markOpS_lp0_sh k3 i4 l5) K =
    (bif decide (i4 < (ilen l5)) then
 (bif inb i4 (List.length l5) then
 (bif inb i4 (List.length (List.set l5 (Int.toNat i4) (k3, (List.getD l5 (Int.toNat i4) ((0 : Int), ((0 : Int), ((0 : Int), (0 : Int))))).2))) then
 (share (List.set l5 (Int.toNat i4) (k3, (List.getD l5 (Int.toNat i4) ((0 : Int), ((0 : Int), ((0 : Int), (0 : Int))))).2)) fun s13 =>
 (bif inb i4 (List.length (List.set s13 (Int.toNat i4) ((List.getD s13 (Int.toNat i4) ((0 : Int), ((0 : Int), ((0 : Int), (0 : Int))))).1, (iadd .i64 k3 (1 : Int), (List.getD s13 (Int.toNat i4) ((0 : Int), ((0 : Int), ((0 : Int), (0 : Int))))).2.2)))) then
 (share (List.set s13 (Int.toNat i4) ((List.getD s13 (Int.toNat i4) ((0 : Int), ((0 : Int), ((0 : Int), (0 : Int))))).1, (iadd .i64 k3 (1 : Int), (List.getD s13 (Int.toNat i4) ((0 : Int), ((0 : Int), ((0 : Int), (0 : Int))))).2.2))) fun s14 =>
 (bif inb i4 (List.length (List.set s14 (Int.toNat i4) ((List.getD s14 (Int.toNat i4) ((0 : Int), ((0 : Int), ((0 : Int), (0 : Int))))).1, ((List.getD s14 (Int.toNat i4) ((0 : Int), ((0 : Int), ((0 : Int), (0 : Int))))).2.1, (iadd .i64 (iadd .i64 k3 (1 : Int)) (1 : Int), (List.getD s14 (Int.toNat i4) ((0 : Int), ((0 : Int), ((0 : Int), (0 : Int))))).2.2.2))))) then
 (share (List.set s14 (Int.toNat i4) ((List.getD s14 (Int.toNat i4) ((0 : Int), ((0 : Int), ((0 : Int), (0 : Int))))).1, ((List.getD s14 (Int.toNat i4) ((0 : Int), ((0 : Int), ((0 : Int), (0 : Int))))).2.1, (iadd .i64 (iadd .i64 k3 (1 : Int)) (1 : Int), (List.getD s14 (Int.toNat i4) ((0 : Int), ((0 : Int), ((0 : Int), (0 : Int))))).2.2.2)))) fun s15 =>
 (T_laws_markOpS_lp0_m N n (T_laws_markOpS_lp0_sh (iadd .i64 (iadd .i64 (iadd .i64 (iadd .i64 k3 (1 : Int)) (1 : Int)) (1 : Int)) (1 : Int)) (iadd .i64 i4 (1 : Int)) (List.set s15 (Int.toNat i4) ((List.getD s15 (Int.toNat i4) ((0 : Int), ((0 : Int), ((0 : Int), (0 : Int))))).1, ((List.getD s15 (Int.toNat i4) ((0 : Int), ((0 : Int), ((0 : Int), (0 : Int))))).2.1, ((List.getD s15 (Int.toNat i4) ((0 : Int), ((0 : Int), ((0 : Int), (0 : Int))))).2.2.1, iadd .i64 (iadd .i64 (iadd .i64 k3 (1 : Int)) (1 : Int)) (1 : Int)))))) K)) else none)) else none)) else none) else none)
 else
 (K (.exit 0) (T_laws_markOpS_lp0_e0 k3 i4 (decide (i4 < (ilen l5))) l5))) := by kernel_rfl

theorem T_laws_markOpS_lp0_eq (N : Nat) {R : Type} (K : Ex → St → Option R) : ∀ (n : Nat) (k3 : Int) (i4 : Int) (l5 : List (Int × Int × Int × Int)), T_laws_markOpS_lp0_m N n (T_laws_markOpS_lp0_sh k3 i4 l5) K = T_laws_markOpS_lp0 N (fun k9 i10 t11 l12 => (K (.exit 0) (T_laws_markOpS_lp0_e0 k9 i10 t11 l12))) n k3 i4 l5
  | 0, _, _, _ => rfl
  | n + 1, k3, i4, l5 => by rw [T_laws_markOpS_lp0_step, T_laws_markOpS_lp0]; (try simp only [T_laws_markOpS_lp0_eq N K n])

theorem T_laws_markOpS_c1 (N : Nat) (k16 : Int) (i17 : Int) (t18 : Bool) (l19 : List (Int × Int × Int × Int)) :
    ((ctxK (R := ODen (T_laws_markOpS_sg N).ps × RDen (T_laws_markOpS_sg N).rs) tab (T_laws_markOpS_ctx N) T_laws_markOpS_ann N (theCode Try.f45) [1, 0, 1, 0] (retK tab (T_laws_markOpS_sg N) Try.f45.results.toList some)) (.exit 0) (T_laws_markOpS_lp0_e0 k16 i17 t18 l19)) =
    (some (α := ODen (T_laws_markOpS_sg N).ps × RDen (T_laws_markOpS_sg N).rs) ((l19, ()), (k16, ()))) := by kernel_rfl

theorem T_laws_markOpS_den (N : Nat) (a1 : List (Int × Int × Int × Int)) (k2 : Int) :
    den (R := ODen (T_laws_markOpS_sg N).ps × RDen (T_laws_markOpS_sg N).rs) tab (T_laws_markOpS_ctx N) T_laws_markOpS_ann N (T_laws_markOpS_sg N) Try.f45 (a1, k2, ()) some =
    (T_laws_markOpS_lp0 N
 (fun k16 i17 t18 l19 =>
   (some (α := ODen (T_laws_markOpS_sg N).ps × RDen (T_laws_markOpS_sg N).rs) ((l19, ()), (k16, ()))))
  N k2 (0 : Int) a1) := by
  have h : den (R := ODen (T_laws_markOpS_sg N).ps × RDen (T_laws_markOpS_sg N).rs) tab (T_laws_markOpS_ctx N) T_laws_markOpS_ann N (T_laws_markOpS_sg N) Try.f45 (a1, k2, ()) some =
    (T_laws_markOpS_lp0_m N N (T_laws_markOpS_lp0_sh k2 (0 : Int) a1) (ctxK (R := ODen (T_laws_markOpS_sg N).ps × RDen (T_laws_markOpS_sg N).rs) tab (T_laws_markOpS_ctx N) T_laws_markOpS_ann N (theCode Try.f45) [1, 0, 1, 0] (retK tab (T_laws_markOpS_sg N) Try.f45.results.toList some))) := by kernel_rfl
  rw [h]
  (try simp only [T_laws_markOpS_lp0_eq, T_laws_markOpS_c1]) <;> rfl

theorem T_laws_markOpS_ok (N : Nat) : chkBody Try.f45 (T_laws_markOpS_sg N).ps = true := by kernel_rfl

theorem T_laws_markOpS_callable : Callable Try.prog 45 := callable_of Try.func45 (show chkFn Try.f45 = true by kernel_rfl)

theorem T_laws_markOpS_good (N : Nat) : Good Try.prog 45 (T_laws_markOpS_sg N) :=
  good_body mixedOk tabOk ctx_nil Try.func45 (T_laws_markOpS_ok N) (fun d _ h => ⟨N, (T_laws_markOpS_den N d.1 d.2.1).trans h⟩)

noncomputable def T_laws_markIntS_sg (N : Nat) : Sig := Sig.of [.mut (.int .i64), .v (.int .i64) false] [.v (.int .i64) false] (fun d => T_laws_markIntS N d.1 d.2.1)

def T_laws_markIntS_ann : Nat → List Ghost
  | 2 => [.canon [0, 1, 5, 9]]
  | 3 => [.canon [0, 1, 5]]
  | 4 => [.canon [0, 1, 5]]
  | 5 => [.canon [0, 1, 5]]
  | 100002 => [.canon [0, 1, 5]]
  | _ => []

noncomputable def T_laws_markIntS_ctx (N : Nat) : Ctx := []

def T_laws_markIntS_lp0_sh (k3 : Int) (i4 : Int) (l5 : List Int) : St := { env := [(0, .s (.one (.own 0))), (1, .s (.one (.val (.int .i64) (k3 : Int)))), (5, .s (.one (.val (.int .i64) (i4 : Int))))], objs := [(0, .arr (.int .i64) (l5 : List Int))], nx := 1 }

def T_laws_markIntS_lp0_e0 (k6 : Int) (i7 : Int) (t8 : Bool) (l9 : List Int) : St := { env := [(0, .s (.one (.own 0))), (1, .s (.one (.val (.int .i64) (k6 : Int)))), (5, .s (.one (.val (.int .i64) (i7 : Int)))), (9, .s (.one (.val (.bool) (t8 : Bool))))], objs := [(0, .arr (.int .i64) (l9 : List Int))], nx := 1 }

noncomputable def T_laws_markIntS_lp0_m (N : Nat) {R : Type} (n : Nat) (st : St) (K : Ex → St → Option R) : Option R := loopN (roundG (T_laws_markIntS_ann 100002) fun st k => sx tab (T_laws_markIntS_ctx N) T_laws_markIntS_ann N (nthLoop Try.f46 0) st k) n st K

theorem T_laws_markIntS_lp0_step (N : Nat) {R : Type} (n : Nat) (K : Ex → St → Option R) (k3 : Int) (i4 : Int) (l5 : List Int) :
    T_laws_markIntS_lp0_m N (n + 1) (T_laws_markIntS_lp0_sh k3 i4 l5) K =
    (bif decide (i4 < (ilen l5)) then
 (bif inb i4 (List.length l5) then
 (T_laws_markIntS_lp0_m N n (T_laws_markIntS_lp0_sh (iadd .i64 k3 (1 : Int)) (iadd .i64 i4 (1 : Int)) (List.set l5 (Int.toNat i4) k3)) K) else none)
 else
 (K (.exit 0) (T_laws_markIntS_lp0_e0 k3 i4 (decide (i4 < (ilen l5))) l5))) := by kernel_rfl

theorem T_laws_markIntS_lp0_eq (N : Nat) {R : Type} (K : Ex → St → Option R) : ∀ (n : Nat) (k3 : Int) (i4 : Int) (l5 : List Int), T_laws_markIntS_lp0_m N n (T_laws_markIntS_lp0_sh k3 i4 l5) K = T_laws_markIntS_lp0 N (fun k6 i7 t8 l9 => (K (.exit 0) (T_laws_markIntS_lp0_e0 k6 i7 t8 l9))) n k3 i4 l5
  | 0, _, _, _ => rfl
  | n + 1, k3, i4, l5 => by rw [T_laws_markIntS_lp0_step, T_laws_markIntS_lp0]; (try simp only [T_laws_markIntS_lp0_eq N K n])

theorem T_laws_markIntS_c1 (N : Nat) (k10 : Int) (i11 : Int) (t12 : Bool) (l13 : List Int) :
    ((ctxK (R := ODen (T_laws_markIntS_sg N).ps × RDen (T_laws_markIntS_sg N).rs) tab (T_laws_markIntS_ctx N) T_laws_markIntS_ann N (theCode Try.f46) [1, 0, 1, 0] (retK tab (T_laws_markIntS_sg N) Try.f46.results.toList some)) (.exit 0) (T_laws_markIntS_lp0_e0 k10 i11 t12 l13)) =
    (some (α := ODen (T_laws_markIntS_sg N).ps × RDen (T_laws_markIntS_sg N).rs) ((l13, ()), (k10, ()))) := by kernel_rfl

theorem T_laws_markIntS_den (N : Nat) (a1 : List Int) (k2 : Int) :
    den (R := ODen (T_laws_markIntS_sg N).ps × RDen (T_laws_markIntS_sg N).rs) tab (T_laws_markIntS_ctx N) T_laws_markIntS_ann N (T_laws_markIntS_sg N) Try.f46 (a1, k2, ()) some =
    (T_laws_markIntS_lp0 N
 (fun k10 i11 t12 l13 =>
   (some (α := ODen (T_laws_markIntS_sg N).ps × RDen (T_laws_markIntS_sg N).rs) ((l13, ()), (k10, ()))))
  N k2 (0 : Int) a1) := by
  have h : den (R := ODen (T_laws_markIntS_sg N).ps × RDen (T_laws_markIntS_sg N).rs) tab (T_laws_markIntS_ctx N) T_laws_markIntS_ann N (T_laws_markIntS_sg N) Try.f46 (a1, k2, ()) some =
    (T_laws_markIntS_lp0_m N N (T_laws_markIntS_lp0_sh k2 (0 : Int) a1) (ctxK (R := ODen (T_laws_markIntS_sg N).ps × RDen (T_laws_markIntS_sg N).rs) tab (T_laws_markIntS_ctx N) T_laws_markIntS_ann N (theCode Try.f46) [1, 0, 1, 0] (retK tab (T_laws_markIntS_sg N) Try.f46.results.toList some))) := by kernel_rfl
  rw [h]
  (try simp only [T_laws_markIntS_lp0_eq, T_laws_markIntS_c1]) <;> rfl

theorem T_laws_markIntS_ok (N : Nat) : chkBody Try.f46 (T_laws_markIntS_sg N).ps = true := by kernel_rfl

theorem T_laws_markIntS_callable : Callable Try.prog 46 := callable_of Try.func46 (show chkFn Try.f46 = true by kernel_rfl)

theorem T_laws_markIntS_good (N : Nat) : Good Try.prog 46 (T_laws_markIntS_sg N) :=
  good_body mixedOk tabOk ctx_nil Try.func46 (T_laws_markIntS_ok N) (fun d _ h => ⟨N, (T_laws_markIntS_den N d.1 d.2.1).trans h⟩)

noncomputable def T_laws_markRowS_sg (N : Nat) : Sig := Sig.of [.mut (.prod (.int .i64) (.int .i64)), .v (.int .i64) false] [.v (.int .i64) false] (fun d => T_laws_markRowS N d.1 d.2.1)

def T_laws_markRowS_ann : Nat → List Ghost
  | 2 => [.canon [0, 1, 5, 9]]
  | 3 => [.canon [0, 1, 5]]
  | 4 => [.canon [0, 1, 5]]
  | 5 => [.canon [0, 1, 5]]
  | 6 => [.canon [0, 1, 5]]
  | 7 => [.canon [0, 1, 5]]
  | 100002 => [.canon [0, 1, 5]]
  | _ => []

noncomputable def T_laws_markRowS_ctx (N : Nat) : Ctx := []

def T_laws_markRowS_lp0_sh (k3 : Int) (i4 : Int) (l5 : List (Int × Int)) : St := { env := [(0, .s (.one (.own 0))), (1, .s (.one (.val (.int .i64) (k3 : Int)))), (5, .s (.one (.val (.int .i64) (i4 : Int))))], objs := [(0, .arr (.prod (.int .i64) (.int .i64)) (l5 : List (Int × Int)))], nx := 1 }

def T_laws_markRowS_lp0_e0 (k7 : Int) (i8 : Int) (t9 : Bool) (l10 : List (Int × Int)) : St := { env := [(0, .s (.one (.own 0))), (1, .s (.one (.val (.int .i64) (k7 : Int)))), (5, .s (.one (.val (.int .i64) (i8 : Int)))), (9, .s (.one (.val (.bool) (t9 : Bool))))], objs := [(0, .arr (.prod (.int .i64) (.int .i64)) (l10 : List (Int × Int)))], nx := 1 }

noncomputable def T_laws_markRowS_lp0_m (N : Nat) {R : Type} (n : Nat) (st : St) (K : Ex → St → Option R) : Option R := loopN (roundG (T_laws_markRowS_ann 100002) fun st k => sx tab (T_laws_markRowS_ctx N) T_laws_markRowS_ann N (nthLoop Try.f107 0) st k) n st K

theorem T_laws_markRowS_lp0_step (N : Nat) {R : Type} (n : Nat) (K : Ex → St → Option R) (k3 : Int) (i4 : Int) (l5 : List (Int × Int)) :
    T_laws_markRowS_lp0_m N (n + 1) (T_laws_markRowS_lp0_sh k3 i4 l5) K =
    (bif decide (i4 < (ilen l5)) then
 (bif inb i4 (List.length l5) then
 (bif inb i4 (List.length (List.set l5 (Int.toNat i4) (k3, (List.getD l5 (Int.toNat i4) ((0 : Int), (0 : Int))).2))) then
 (share (List.set l5 (Int.toNat i4) (k3, (List.getD l5 (Int.toNat i4) ((0 : Int), (0 : Int))).2)) fun s11 =>
 (T_laws_markRowS_lp0_m N n (T_laws_markRowS_lp0_sh (iadd .i64 (iadd .i64 k3 (1 : Int)) (1 : Int)) (iadd .i64 i4 (1 : Int)) (List.set s11 (Int.toNat i4) ((List.getD s11 (Int.toNat i4) ((0 : Int), (0 : Int))).1, iadd .i64 k3 (1 : Int)))) K)) else none) else none)
 else
 (K (.exit 0) (T_laws_markRowS_lp0_e0 k3 i4 (decide (i4 < (ilen l5))) l5))) := by kernel_rfl

theorem T_laws_markRowS_lp0_eq (N : Nat) {R : Type} (K : Ex → St → Option R) : ∀ (n : Nat) (k3 : Int) (i4 : Int) (l5 : List (Int × Int)), T_laws_markRowS_lp0_m N n (T_laws_markRowS_lp0_sh k3 i4 l5) K = T_laws_markRowS_lp0 N (fun k7 i8 t9 l10 => (K (.exit 0) (T_laws_markRowS_lp0_e0 k7 i8 t9 l10))) n k3 i4 l5
  | 0, _, _, _ => rfl
  | n + 1, k3, i4, l5 => by rw [T_laws_markRowS_lp0_step, T_laws_markRowS_lp0]; (try simp only [T_laws_markRowS_lp0_eq N K n])

theorem T_laws_markRowS_c1 (N : Nat) (k12 : Int) (i13 : Int) (t14 : Bool) (l15 : List (Int × Int)) :
    ((ctxK (R := ODen (T_laws_markRowS_sg N).ps × RDen (T_laws_markRowS_sg N).rs) tab (T_laws_markRowS_ctx N) T_laws_markRowS_ann N (theCode Try.f107) [1, 0, 1, 0] (retK tab (T_laws_markRowS_sg N) Try.f107.results.toList some)) (.exit 0) (T_laws_markRowS_lp0_e0 k12 i13 t14 l15)) =
    (some (α := ODen (T_laws_markRowS_sg N).ps × RDen (T_laws_markRowS_sg N).rs) ((l15, ()), (k12, ()))) := by kernel_rfl

theorem T_laws_markRowS_den (N : Nat) (a1 : List (Int × Int)) (k2 : Int) :
    den (R := ODen (T_laws_markRowS_sg N).ps × RDen (T_laws_markRowS_sg N).rs) tab (T_laws_markRowS_ctx N) T_laws_markRowS_ann N (T_laws_markRowS_sg N) Try.f107 (a1, k2, ()) some =
    (T_laws_markRowS_lp0 N
 (fun k12 i13 t14 l15 =>
   (some (α := ODen (T_laws_markRowS_sg N).ps × RDen (T_laws_markRowS_sg N).rs) ((l15, ()), (k12, ()))))
  N k2 (0 : Int) a1) := by
  have h : den (R := ODen (T_laws_markRowS_sg N).ps × RDen (T_laws_markRowS_sg N).rs) tab (T_laws_markRowS_ctx N) T_laws_markRowS_ann N (T_laws_markRowS_sg N) Try.f107 (a1, k2, ()) some =
    (T_laws_markRowS_lp0_m N N (T_laws_markRowS_lp0_sh k2 (0 : Int) a1) (ctxK (R := ODen (T_laws_markRowS_sg N).ps × RDen (T_laws_markRowS_sg N).rs) tab (T_laws_markRowS_ctx N) T_laws_markRowS_ann N (theCode Try.f107) [1, 0, 1, 0] (retK tab (T_laws_markRowS_sg N) Try.f107.results.toList some))) := by kernel_rfl
  rw [h]
  (try simp only [T_laws_markRowS_lp0_eq, T_laws_markRowS_c1]) <;> rfl

theorem T_laws_markRowS_ok (N : Nat) : chkBody Try.f107 (T_laws_markRowS_sg N).ps = true := by kernel_rfl

theorem T_laws_markRowS_callable : Callable Try.prog 107 := callable_of Try.func107 (show chkFn Try.f107 = true by kernel_rfl)

theorem T_laws_markRowS_good (N : Nat) : Good Try.prog 107 (T_laws_markRowS_sg N) :=
  good_body mixedOk tabOk ctx_nil Try.func107 (T_laws_markRowS_ok N) (fun d _ h => ⟨N, (T_laws_markRowS_den N d.1 d.2.1).trans h⟩)

noncomputable def T_laws_markEager_sg (N : Nat) : Sig := Sig.of [.kv (.prod (.int .i64) (.prod (.own (.int .i64)) (.prod (.own (.int .i64)) (.prod (.own (.prod (.int .i64) (.int .i64))) (.int .i64))))) true, .v (.int .i64) false] [.v (.int .i64) false] (fun d => T_laws_markEager N d.1 d.2.1)

def T_laws_markEager_ann : Nat → List Ghost
  | _ => []

noncomputable def T_laws_markEager_ctx (N : Nat) : Ctx := [(46, T_laws_markIntS_sg N), (107, T_laws_markRowS_sg N)]

theorem T_laws_markEager_den (N : Nat) (a1 : Int × List Int × List Int × List (Int × Int) × Int) (k2 : Int) :
    den (R := ODen (T_laws_markEager_sg N).ps × RDen (T_laws_markEager_sg N).rs) tab (T_laws_markEager_ctx N) T_laws_markEager_ann N (T_laws_markEager_sg N) Try.f47 (a1, k2, ()) some =
    (T_laws_markEager N a1 k2 : Option (ODen (T_laws_markEager_sg N).ps × RDen (T_laws_markEager_sg N).rs)) := by kernel_rfl

theorem T_laws_markEager_ok (N : Nat) : chkBody Try.f47 (T_laws_markEager_sg N).ps = true := by kernel_rfl

theorem T_laws_markEager_callable : Callable Try.prog 47 := callable_of Try.func47 (show chkFn Try.f47 = true by kernel_rfl)

theorem T_laws_markEager_good (N : Nat) : Good Try.prog 47 (T_laws_markEager_sg N) :=
  good_body mixedOk tabOk (ctx_cons (T_laws_markIntS_good N) T_laws_markIntS_callable (ctx_cons (T_laws_markRowS_good N) T_laws_markRowS_callable ctx_nil)) Try.func47 (T_laws_markEager_ok N) (fun d _ h => ⟨N, (T_laws_markEager_den N d.1 d.2.1).trans h⟩)

noncomputable def T_laws_heldIntS_sg (N : Nat) : Sig := Sig.of [.v (.slice (.int .i64)) false, .v (.int .i64) false] [.v (.int .i64) false] (fun d => T_laws_heldIntS N d.1 d.2.1)

def T_laws_heldIntS_ann : Nat → List Ghost
  | 2 => [.canon [0, 1, 5, 9]]
  | 3 => [.canon [0, 1, 5]]
  | 4 => [.canon [0, 1, 5, 17]]
  | 5 => [.canon [4]]
  | 6 => [.canon [0, 1, 5]]
  | 100002 => [.canon [0, 1, 5]]
  | _ => []

noncomputable def T_laws_heldIntS_ctx (N : Nat) : Ctx := []

def T_laws_heldIntS_lp0_sh (a3 : List Int) (k4 : Int) (i5 : Int) : St := { env := [(0, .s (.one (.val (.slice (.int .i64)) (a3 : List Int)))), (1, .s (.one (.val (.int .i64) (k4 : Int)))), (5, .s (.one (.val (.int .i64) (i5 : Int))))], objs := [], nx := 0 }

def T_laws_heldIntS_lp0_e0 (a3 : List Int) : St := { env := [(4, .s (.one (.val (.int .i64) ((-1 : Int) : Int))))], objs := [], nx := 0 }

def T_laws_heldIntS_lp0_e1 (a3 : List Int) (k6 : Int) (i7 : Int) (t8 : Bool) : St := { env := [(0, .s (.one (.val (.slice (.int .i64)) (a3 : List Int)))), (1, .s (.one (.val (.int .i64) (k6 : Int)))), (5, .s (.one (.val (.int .i64) (i7 : Int)))), (9, .s (.one (.val (.bool) (t8 : Bool))))], objs := [], nx := 0 }

noncomputable def T_laws_heldIntS_lp0_m (N : Nat) {R : Type} (n : Nat) (st : St) (K : Ex → St → Option R) : Option R := loopN (roundG (T_laws_heldIntS_ann 100002) fun st k => sx tab (T_laws_heldIntS_ctx N) T_laws_heldIntS_ann N (nthLoop Try.f73 0) st k) n st K

theorem T_laws_heldIntS_lp0_step (N : Nat) {R : Type} (n : Nat) (K : Ex → St → Option R) (a3 : List Int) (k4 : Int) (i5 : Int) :
    T_laws_heldIntS_lp0_m N (n + 1) (T_laws_heldIntS_lp0_sh a3 k4 i5) K =
    (bif decide (i5 < (ilen a3)) then
 (bif inb i5 (List.length a3) then
 (bif (List.getD a3 (Int.toNat i5) (0 : Int)) != k4 then
 (K .ret (T_laws_heldIntS_lp0_e0 a3))
 else
 (T_laws_heldIntS_lp0_m N n (T_laws_heldIntS_lp0_sh a3 (iadd .i64 k4 (1 : Int)) (iadd .i64 i5 (1 : Int))) K)) else none)
 else
 (K (.exit 0) (T_laws_heldIntS_lp0_e1 a3 k4 i5 (decide (i5 < (ilen a3)))))) := by kernel_rfl

theorem T_laws_heldIntS_lp0_eq (N : Nat) {R : Type} (a3 : List Int) (K : Ex → St → Option R) : ∀ (n : Nat) (k4 : Int) (i5 : Int), T_laws_heldIntS_lp0_m N n (T_laws_heldIntS_lp0_sh a3 k4 i5) K = T_laws_heldIntS_lp0 N a3 (K .ret (T_laws_heldIntS_lp0_e0 a3)) (fun k6 i7 t8 => (K (.exit 0) (T_laws_heldIntS_lp0_e1 a3 k6 i7 t8))) n k4 i5
  | 0, _, _ => rfl
  | n + 1, k4, i5 => by rw [T_laws_heldIntS_lp0_step, T_laws_heldIntS_lp0]; (try simp only [T_laws_heldIntS_lp0_eq N a3 K n])

theorem T_laws_heldIntS_c1 (N : Nat) (a1 : List Int) :
    ((ctxK (R := ODen (T_laws_heldIntS_sg N).ps × RDen (T_laws_heldIntS_sg N).rs) tab (T_laws_heldIntS_ctx N) T_laws_heldIntS_ann N (theCode Try.f73) [1, 0, 1, 0] (retK tab (T_laws_heldIntS_sg N) Try.f73.results.toList some)) .ret (T_laws_heldIntS_lp0_e0 a1)) =
    (some (α := ODen (T_laws_heldIntS_sg N).ps × RDen (T_laws_heldIntS_sg N).rs) ((), ((-1 : Int), ()))) := by kernel_rfl

theorem T_laws_heldIntS_c2 (N : Nat) (a1 : List Int) (k9 : Int) (i10 : Int) (t11 : Bool) :
    ((ctxK (R := ODen (T_laws_heldIntS_sg N).ps × RDen (T_laws_heldIntS_sg N).rs) tab (T_laws_heldIntS_ctx N) T_laws_heldIntS_ann N (theCode Try.f73) [1, 0, 1, 0] (retK tab (T_laws_heldIntS_sg N) Try.f73.results.toList some)) (.exit 0) (T_laws_heldIntS_lp0_e1 a1 k9 i10 t11)) =
    (some (α := ODen (T_laws_heldIntS_sg N).ps × RDen (T_laws_heldIntS_sg N).rs) ((), (k9, ()))) := by kernel_rfl

theorem T_laws_heldIntS_den (N : Nat) (a1 : List Int) (k2 : Int) :
    den (R := ODen (T_laws_heldIntS_sg N).ps × RDen (T_laws_heldIntS_sg N).rs) tab (T_laws_heldIntS_ctx N) T_laws_heldIntS_ann N (T_laws_heldIntS_sg N) Try.f73 (a1, k2, ()) some =
    (T_laws_heldIntS_lp0 N a1
 (some (α := ODen (T_laws_heldIntS_sg N).ps × RDen (T_laws_heldIntS_sg N).rs) ((), ((-1 : Int), ())))
 (fun k9 i10 t11 =>
   (some (α := ODen (T_laws_heldIntS_sg N).ps × RDen (T_laws_heldIntS_sg N).rs) ((), (k9, ()))))
  N k2 (0 : Int)) := by
  have h : den (R := ODen (T_laws_heldIntS_sg N).ps × RDen (T_laws_heldIntS_sg N).rs) tab (T_laws_heldIntS_ctx N) T_laws_heldIntS_ann N (T_laws_heldIntS_sg N) Try.f73 (a1, k2, ()) some =
    (T_laws_heldIntS_lp0_m N N (T_laws_heldIntS_lp0_sh a1 k2 (0 : Int)) (ctxK (R := ODen (T_laws_heldIntS_sg N).ps × RDen (T_laws_heldIntS_sg N).rs) tab (T_laws_heldIntS_ctx N) T_laws_heldIntS_ann N (theCode Try.f73) [1, 0, 1, 0] (retK tab (T_laws_heldIntS_sg N) Try.f73.results.toList some))) := by kernel_rfl
  rw [h]
  (try simp only [T_laws_heldIntS_lp0_eq, T_laws_heldIntS_c1, T_laws_heldIntS_c2]) <;> rfl

theorem T_laws_heldIntS_ok (N : Nat) : chkBody Try.f73 (T_laws_heldIntS_sg N).ps = true := by kernel_rfl

theorem T_laws_heldIntS_callable : Callable Try.prog 73 := callable_of Try.func73 (show chkFn Try.f73 = true by kernel_rfl)

theorem T_laws_heldIntS_good (N : Nat) : Good Try.prog 73 (T_laws_heldIntS_sg N) :=
  good_body mixedOk tabOk ctx_nil Try.func73 (T_laws_heldIntS_ok N) (fun d _ h => ⟨N, (T_laws_heldIntS_den N d.1 d.2.1).trans h⟩)

noncomputable def T_laws_heldRowS_sg (N : Nat) : Sig := Sig.of [.v (.slice (.prod (.int .i64) (.int .i64))) false, .v (.int .i64) false] [.v (.int .i64) false] (fun d => T_laws_heldRowS N d.1 d.2.1)

def T_laws_heldRowS_ann : Nat → List Ghost
  | 2 => [.canon [0, 1, 5, 9]]
  | 3 => [.canon [0, 1, 5]]
  | 4 => [.canon [0, 1, 5, 18]]
  | 5 => [.canon [4]]
  | 6 => [.canon [0, 1, 5]]
  | 7 => [.canon [0, 1, 5, 27]]
  | 8 => [.canon [4]]
  | 9 => [.canon [0, 1, 5]]
  | 100002 => [.canon [0, 1, 5]]
  | _ => []

noncomputable def T_laws_heldRowS_ctx (N : Nat) : Ctx := []

def T_laws_heldRowS_lp0_sh (a3 : List (Int × Int)) (k4 : Int) (i5 : Int) : St := { env := [(0, .s (.one (.val (.slice (.prod (.int .i64) (.int .i64))) (a3 : List (Int × Int))))), (1, .s (.one (.val (.int .i64) (k4 : Int)))), (5, .s (.one (.val (.int .i64) (i5 : Int))))], objs := [], nx := 0 }

def T_laws_heldRowS_lp0_e0 (a3 : List (Int × Int)) : St := { env := [(4, .s (.one (.val (.int .i64) ((-1 : Int) : Int))))], objs := [], nx := 0 }

def T_laws_heldRowS_lp0_e1 (a3 : List (Int × Int)) (k6 : Int) (i7 : Int) (t8 : Bool) : St := { env := [(0, .s (.one (.val (.slice (.prod (.int .i64) (.int .i64))) (a3 : List (Int × Int))))), (1, .s (.one (.val (.int .i64) (k6 : Int)))), (5, .s (.one (.val (.int .i64) (i7 : Int)))), (9, .s (.one (.val (.bool) (t8 : Bool))))], objs := [], nx := 0 }

noncomputable def T_laws_heldRowS_lp0_m (N : Nat) {R : Type} (n : Nat) (st : St) (K : Ex → St → Option R) : Option R := loopN (roundG (T_laws_heldRowS_ann 100002) fun st k => sx tab (T_laws_heldRowS_ctx N) T_laws_heldRowS_ann N (nthLoop Try.f108 0) st k) n st K

theorem T_laws_heldRowS_lp0_step (N : Nat) {R : Type} (n : Nat) (K : Ex → St → Option R) (a3 : List (Int × Int)) (k4 : Int) (i5 : Int) :
    T_laws_heldRowS_lp0_m N (n + 1) (T_laws_heldRowS_lp0_sh a3 k4 i5) K =
    (bif decide (i5 < (ilen a3)) then
 (bif inb i5 (List.length a3) then
 (bif (List.getD a3 (Int.toNat i5) ((0 : Int), (0 : Int))).1 != k4 then
 (K .ret (T_laws_heldRowS_lp0_e0 a3))
 else
 (bif inb i5 (List.length a3) then
 (bif (List.getD a3 (Int.toNat i5) ((0 : Int), (0 : Int))).2 != (iadd .i64 k4 (1 : Int)) then
 (K .ret (T_laws_heldRowS_lp0_e0 a3))
 else
 (T_laws_heldRowS_lp0_m N n (T_laws_heldRowS_lp0_sh a3 (iadd .i64 (iadd .i64 k4 (1 : Int)) (1 : Int)) (iadd .i64 i5 (1 : Int))) K)) else none)) else none)
 else
 (K (.exit 0) (T_laws_heldRowS_lp0_e1 a3 k4 i5 (decide (i5 < (ilen a3)))))) := by kernel_rfl

theorem T_laws_heldRowS_lp0_eq (N : Nat) {R : Type} (a3 : List (Int × Int)) (K : Ex → St → Option R) : ∀ (n : Nat) (k4 : Int) (i5 : Int), T_laws_heldRowS_lp0_m N n (T_laws_heldRowS_lp0_sh a3 k4 i5) K = T_laws_heldRowS_lp0 N a3 (K .ret (T_laws_heldRowS_lp0_e0 a3)) (fun k6 i7 t8 => (K (.exit 0) (T_laws_heldRowS_lp0_e1 a3 k6 i7 t8))) n k4 i5
  | 0, _, _ => rfl
  | n + 1, k4, i5 => by rw [T_laws_heldRowS_lp0_step, T_laws_heldRowS_lp0]; (try simp only [T_laws_heldRowS_lp0_eq N a3 K n])

theorem T_laws_heldRowS_c1 (N : Nat) (a1 : List (Int × Int)) :
    ((ctxK (R := ODen (T_laws_heldRowS_sg N).ps × RDen (T_laws_heldRowS_sg N).rs) tab (T_laws_heldRowS_ctx N) T_laws_heldRowS_ann N (theCode Try.f108) [1, 0, 1, 0] (retK tab (T_laws_heldRowS_sg N) Try.f108.results.toList some)) .ret (T_laws_heldRowS_lp0_e0 a1)) =
    (some (α := ODen (T_laws_heldRowS_sg N).ps × RDen (T_laws_heldRowS_sg N).rs) ((), ((-1 : Int), ()))) := by kernel_rfl

theorem T_laws_heldRowS_c2 (N : Nat) (a1 : List (Int × Int)) (k9 : Int) (i10 : Int) (t11 : Bool) :
    ((ctxK (R := ODen (T_laws_heldRowS_sg N).ps × RDen (T_laws_heldRowS_sg N).rs) tab (T_laws_heldRowS_ctx N) T_laws_heldRowS_ann N (theCode Try.f108) [1, 0, 1, 0] (retK tab (T_laws_heldRowS_sg N) Try.f108.results.toList some)) (.exit 0) (T_laws_heldRowS_lp0_e1 a1 k9 i10 t11)) =
    (some (α := ODen (T_laws_heldRowS_sg N).ps × RDen (T_laws_heldRowS_sg N).rs) ((), (k9, ()))) := by kernel_rfl

theorem T_laws_heldRowS_den (N : Nat) (a1 : List (Int × Int)) (k2 : Int) :
    den (R := ODen (T_laws_heldRowS_sg N).ps × RDen (T_laws_heldRowS_sg N).rs) tab (T_laws_heldRowS_ctx N) T_laws_heldRowS_ann N (T_laws_heldRowS_sg N) Try.f108 (a1, k2, ()) some =
    (T_laws_heldRowS_lp0 N a1
 (some (α := ODen (T_laws_heldRowS_sg N).ps × RDen (T_laws_heldRowS_sg N).rs) ((), ((-1 : Int), ())))
 (fun k9 i10 t11 =>
   (some (α := ODen (T_laws_heldRowS_sg N).ps × RDen (T_laws_heldRowS_sg N).rs) ((), (k9, ()))))
  N k2 (0 : Int)) := by
  have h : den (R := ODen (T_laws_heldRowS_sg N).ps × RDen (T_laws_heldRowS_sg N).rs) tab (T_laws_heldRowS_ctx N) T_laws_heldRowS_ann N (T_laws_heldRowS_sg N) Try.f108 (a1, k2, ()) some =
    (T_laws_heldRowS_lp0_m N N (T_laws_heldRowS_lp0_sh a1 k2 (0 : Int)) (ctxK (R := ODen (T_laws_heldRowS_sg N).ps × RDen (T_laws_heldRowS_sg N).rs) tab (T_laws_heldRowS_ctx N) T_laws_heldRowS_ann N (theCode Try.f108) [1, 0, 1, 0] (retK tab (T_laws_heldRowS_sg N) Try.f108.results.toList some))) := by kernel_rfl
  rw [h]
  (try simp only [T_laws_heldRowS_lp0_eq, T_laws_heldRowS_c1, T_laws_heldRowS_c2]) <;> rfl

theorem T_laws_heldRowS_ok (N : Nat) : chkBody Try.f108 (T_laws_heldRowS_sg N).ps = true := by kernel_rfl

theorem T_laws_heldRowS_callable : Callable Try.prog 108 := callable_of Try.func108 (show chkFn Try.f108 = true by kernel_rfl)

theorem T_laws_heldRowS_good (N : Nat) : Good Try.prog 108 (T_laws_heldRowS_sg N) :=
  good_body mixedOk tabOk ctx_nil Try.func108 (T_laws_heldRowS_ok N) (fun d _ h => ⟨N, (T_laws_heldRowS_den N d.1 d.2.1).trans h⟩)

noncomputable def T_laws_heldEager_sg (N : Nat) : Sig := Sig.of [.v (.prod (.int .i64) (.prod (.slice (.int .i64)) (.prod (.slice (.int .i64)) (.prod (.slice (.prod (.int .i64) (.int .i64))) (.int .i64))))) true, .v (.int .i64) false] [.v (.int .i64) false] (fun d => T_laws_heldEager N d.1 d.2.1)

def T_laws_heldEager_ann : Nat → List Ghost
  | _ => []

noncomputable def T_laws_heldEager_ctx (N : Nat) : Ctx := [(73, T_laws_heldIntS_sg N), (108, T_laws_heldRowS_sg N)]

end Go.Sx
