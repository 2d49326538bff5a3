/- Each Go function does what its Lean function says. -/
import Derived.Test.YtglbfgeahjjnoaaT
import Derived.Test.YtglbfgeahjjnoaaProg
namespace Go.Sx
open Go.Proofs
set_option linter.unusedVariables false
set_option linter.unusedSimpArgs false

def tab : Tab := [(3, ⟨.int .i64, false, .basic⟩), (4, ⟨.bool, false, .basic⟩), (22, ⟨.slice (.int .i64), false, .slice 3⟩), (23, ⟨.slice (.prod (.int .i64) (.int .i64)), false, .slice 84⟩), (27, ⟨.slice (.prod (.int .i64) (.int .i64)), false, .slice 82⟩), (82, ⟨.prod (.int .i64) (.int .i64), true, .struct [(0, 3), (1, 3)]⟩), (84, ⟨.prod (.int .i64) (.int .i64), true, .struct [(0, 3), (1, 3)]⟩)]

theorem mixedOk : Try.prog.follows .mixedOrders = true := by kernel_rfl

theorem tabOk : TabOk Try.prog tab := tab_ok (show chkTab Try.prog tab tab = true by kernel_rfl)

noncomputable def T_laws_szRowS_sg (N : Nat) : Sig := Sig.of [.v (.slice (.prod (.int .i64) (.int .i64))) false, .v (.int .i64) false] [.v (.int .i64) false] (fun d => T_laws_szRowS N d.1 d.2.1)

def T_laws_szRowS_ann : Nat → List Ghost
  | _ => []

noncomputable def T_laws_szRowS_ctx (N : Nat) : Ctx := []

theorem T_laws_szRowS_den (N : Nat) (a1 : List (Int × Int)) (left2 : Int) :
    den (R := ODen (T_laws_szRowS_sg N).ps × RDen (T_laws_szRowS_sg N).rs) tab (T_laws_szRowS_ctx N) T_laws_szRowS_ann N (T_laws_szRowS_sg N) Try.f9 (a1, left2, ()) some =
    (bif decide ((isub .i64 left2 (ilen a1)) < (0 : Int)) then
    (some (α := ODen (T_laws_szRowS_sg N).ps × RDen (T_laws_szRowS_sg N).rs) ((), ((-1 : Int), ())))
    else
    (some (α := ODen (T_laws_szRowS_sg N).ps × RDen (T_laws_szRowS_sg N).rs) ((), (isub .i64 left2 (ilen a1), ())))) := by kernel_rfl

theorem T_laws_szRowS_ok (N : Nat) : chkBody Try.f9 (T_laws_szRowS_sg N).ps = true := by kernel_rfl

theorem T_laws_szRowS_callable : Callable Try.prog 9 := callable_of Try.func9 (show chkFn Try.f9 = true by kernel_rfl)

theorem T_laws_szRowS_good (N : Nat) : Good Try.prog 9 (T_laws_szRowS_sg N) :=
  good_body mixedOk tabOk ctx_nil Try.func9 (T_laws_szRowS_ok N) (fun d _ h => ⟨N, (T_laws_szRowS_den N d.1 d.2.1).trans h⟩)

noncomputable def T_laws_toIntS_sg (N : Nat) : Sig := Sig.of [.v (.slice (.int .i64)) false] [.v (.own (.int .i64)) false] (fun d => T_laws_toIntS N d.1)

def T_laws_toIntS_ann : Nat → List Ghost
  | 3 => [.canon [0, 3, 4, 11]]
  | 4 => [.canon [0, 3, 4]]
  | 5 => [.canon [0, 3, 4]]
  | 100003 => [.canon [0, 3, 4]]
  | _ => []

noncomputable def T_laws_toIntS_ctx (N : Nat) : Ctx := []

def T_laws_toIntS_lp0_sh (a2 : List Int) (i3 : Int) (l4 : List Int) : St := { env := [(0, .s (.one (.val (.slice (.int .i64)) (a2 : List Int)))), (3, .s (.one (.own 0))), (4, .s (.one (.val (.int .i64) (i3 : Int))))], objs := [(0, .arr (.int .i64) (l4 : List Int))], nx := 1 }

def T_laws_toIntS_lp0_e0 (a2 : List Int) (i5 : Int) (t6 : Bool) (l7 : List Int) : St := { env := [(0, .s (.one (.val (.slice (.int .i64)) (a2 : List Int)))), (3, .s (.one (.own 0))), (4, .s (.one (.val (.int .i64) (i5 : Int)))), (11, .s (.one (.val (.bool) (t6 : Bool))))], objs := [(0, .arr (.int .i64) (l7 : List Int))], nx := 1 }

noncomputable def T_laws_toIntS_lp0_m (N : Nat) {R : Type} (n : Nat) (st : St) (K : Ex → St → Option R) : Option R := loopN (roundG (T_laws_toIntS_ann 100003) fun st k => sx tab (T_laws_toIntS_ctx N) T_laws_toIntS_ann N (nthLoop Try.f11 0) st k) n st K

theorem T_laws_toIntS_lp0_step (N : Nat) {R : Type} (n : Nat) (K : Ex → St → Option R) (a2 : List Int) (i3 : Int) (l4 : List Int) :
    T_laws_toIntS_lp0_m N (n + 1) (T_laws_toIntS_lp0_sh a2 i3 l4) K =
    (bif decide (i3 < (ilen a2)) then
    (bif inb i3 (List.length a2) then
      (bif inb i3 (List.length l4) then
        (T_laws_toIntS_lp0_m N n (T_laws_toIntS_lp0_sh a2 (iadd .i64 i3 (1 : Int)) (List.set l4 (Int.toNat i3) (List.getD a2 (Int.toNat i3) (0 : Int)))) K) else none) else none)
    else
    (K (.exit 0) (T_laws_toIntS_lp0_e0 a2 i3 (decide (i3 < (ilen a2))) l4))) := by kernel_rfl

theorem T_laws_toIntS_lp0_eq (N : Nat) {R : Type} (a2 : List Int) (K : Ex → St → Option R) : ∀ (n : Nat) (i3 : Int) (l4 : List Int), T_laws_toIntS_lp0_m N n (T_laws_toIntS_lp0_sh a2 i3 l4) K = T_laws_toIntS_lp0 N a2 (fun i5 t6 l7 => (K (.exit 0) (T_laws_toIntS_lp0_e0 a2 i5 t6 l7))) n i3 l4
  | 0, _, _ => rfl
  | n + 1, i3, l4 => by rw [T_laws_toIntS_lp0_step, T_laws_toIntS_lp0]; (try simp only [T_laws_toIntS_lp0_eq N a2 K n])

theorem T_laws_toIntS_c1 (N : Nat) (a1 : List Int) (i8 : Int) (t9 : Bool) (l10 : List Int) :
    ((ctxK (R := ODen (T_laws_toIntS_sg N).ps × RDen (T_laws_toIntS_sg N).rs) tab (T_laws_toIntS_ctx N) T_laws_toIntS_ann N (theCode Try.f11) [1, 1, 0, 1, 0] (retK tab (T_laws_toIntS_sg N) Try.f11.results.toList some)) (.exit 0) (T_laws_toIntS_lp0_e0 a1 i8 t9 l10)) =
    (some (α := ODen (T_laws_toIntS_sg N).ps × RDen (T_laws_toIntS_sg N).rs) ((), (l10, ()))) := by kernel_rfl

theorem T_laws_toIntS_den (N : Nat) (a1 : List Int) :
    den (R := ODen (T_laws_toIntS_sg N).ps × RDen (T_laws_toIntS_sg N).rs) tab (T_laws_toIntS_ctx N) T_laws_toIntS_ann N (T_laws_toIntS_sg N) Try.f11 (a1, ()) some =
    (bif ((decide ((0 : Int) ≤ (ilen a1))) && (decide ((ilen a1) ≤ (ilen a1)))) && (room (Int.toNat (ilen a1))) then
    (T_laws_toIntS_lp0 N a1
      (fun i8 t9 l10 =>
        (some (α := ODen (T_laws_toIntS_sg N).ps × RDen (T_laws_toIntS_sg N).rs) ((), (l10, ()))))
       N (0 : Int) (List.replicate (Int.toNat (ilen a1)) (0 : Int))) else none) := by
  have h : den (R := ODen (T_laws_toIntS_sg N).ps × RDen (T_laws_toIntS_sg N).rs) tab (T_laws_toIntS_ctx N) T_laws_toIntS_ann N (T_laws_toIntS_sg N) Try.f11 (a1, ()) some =
    (bif ((decide ((0 : Int) ≤ (ilen a1))) && (decide ((ilen a1) ≤ (ilen a1)))) && (room (Int.toNat (ilen a1))) then
    (T_laws_toIntS_lp0_m N N (T_laws_toIntS_lp0_sh a1 (0 : Int) (List.replicate (Int.toNat (ilen a1)) (0 : Int))) (ctxK (R := ODen (T_laws_toIntS_sg N).ps × RDen (T_laws_toIntS_sg N).rs) tab (T_laws_toIntS_ctx N) T_laws_toIntS_ann N (theCode Try.f11) [1, 1, 0, 1, 0] (retK tab (T_laws_toIntS_sg N) Try.f11.results.toList some))) else none) := by kernel_rfl
  rw [h]
  (try simp only [T_laws_toIntS_lp0_eq, T_laws_toIntS_c1]) <;> rfl

theorem T_laws_toIntS_ok (N : Nat) : chkBody Try.f11 (T_laws_toIntS_sg N).ps = true := by kernel_rfl

theorem T_laws_toIntS_callable : Callable Try.prog 11 := callable_of Try.func11 (show chkFn Try.f11 = true by kernel_rfl)

theorem T_laws_toIntS_good (N : Nat) : Good Try.prog 11 (T_laws_toIntS_sg N) :=
  good_body mixedOk tabOk ctx_nil Try.func11 (T_laws_toIntS_ok N) (fun d _ h => ⟨N, (T_laws_toIntS_den N d.1).trans h⟩)

noncomputable def T_laws_toRow_sg (N : Nat) : Sig := Sig.of [.v (.prod (.int .i64) (.int .i64)) true] [.v (.prod (.int .i64) (.int .i64)) true] (fun d => T_laws_toRow N d.1)

def T_laws_toRow_ann : Nat → List Ghost
  | _ => []

noncomputable def T_laws_toRow_ctx (N : Nat) : Ctx := []

theorem T_laws_toRow_den (N : Nat) (a1 : Int × Int) :
    den (R := ODen (T_laws_toRow_sg N).ps × RDen (T_laws_toRow_sg N).rs) tab (T_laws_toRow_ctx N) T_laws_toRow_ann N (T_laws_toRow_sg N) Try.f43 (a1, ()) some =
    (some (α := ODen (T_laws_toRow_sg N).ps × RDen (T_laws_toRow_sg N).rs) ((), (a1, ()))) := by kernel_rfl

theorem T_laws_toRow_ok (N : Nat) : chkBody Try.f43 (T_laws_toRow_sg N).ps = true := by kernel_rfl

theorem T_laws_toRow_callable : Callable Try.prog 43 := callable_of Try.func43 (show chkFn Try.f43 = true by kernel_rfl)

theorem T_laws_toRow_good (N : Nat) : Good Try.prog 43 (T_laws_toRow_sg N) :=
  good_body mixedOk tabOk ctx_nil Try.func43 (T_laws_toRow_ok N) (fun d _ h => ⟨N, (T_laws_toRow_den N d.1).trans h⟩)

noncomputable def T_laws_toRowS_sg (N : Nat) : Sig := Sig.of [.v (.slice (.prod (.int .i64) (.int .i64))) false] [.v (.own (.prod (.int .i64) (.int .i64))) false] (fun d => T_laws_toRowS N d.1)

def T_laws_toRowS_ann : Nat → List Ghost
  | 3 => [.canon [0, 3, 4, 11]]
  | 4 => [.canon [0, 3, 4]]
  | 5 => [.canon [0, 3, 4]]
  | 100003 => [.canon [0, 3, 4]]
  | _ => []

noncomputable def T_laws_toRowS_ctx (N : Nat) : Ctx := [(43, T_laws_toRow_sg N)]

def T_laws_toRowS_lp0_sh (a2 : List (Int × Int)) (i3 : Int) (l4 : List (Int × Int)) : St := { env := [(0, .s (.one (.val (.slice (.prod (.int .i64) (.int .i64))) (a2 : List (Int × Int))))), (3, .s (.one (.own 0))), (4, .s (.one (.val (.int .i64) (i3 : Int))))], objs := [(0, .arr (.prod (.int .i64) (.int .i64)) (l4 : List (Int × Int)))], nx := 1 }

def T_laws_toRowS_lp0_e0 (a2 : List (Int × Int)) (i6 : Int) (t7 : Bool) (l8 : List (Int × Int)) : St := { env := [(0, .s (.one (.val (.slice (.prod (.int .i64) (.int .i64))) (a2 : List (Int × Int))))), (3, .s (.one (.own 0))), (4, .s (.one (.val (.int .i64) (i6 : Int)))), (11, .s (.one (.val (.bool) (t7 : Bool))))], objs := [(0, .arr (.prod (.int .i64) (.int .i64)) (l8 : List (Int × Int)))], nx := 1 }

noncomputable def T_laws_toRowS_lp0_m (N : Nat) {R : Type} (n : Nat) (st : St) (K : Ex → St → Option R) : Option R := loopN (roundG (T_laws_toRowS_ann 100003) fun st k => sx tab (T_laws_toRowS_ctx N) T_laws_toRowS_ann N (nthLoop Try.f12 0) st k) n st K

theorem T_laws_toRowS_lp0_step (N : Nat) {R : Type} (n : Nat) (K : Ex → St → Option R) (a2 : List (Int × Int)) (i3 : Int) (l4 : List (Int × Int)) :
    T_laws_toRowS_lp0_m N (n + 1) (T_laws_toRowS_lp0_sh a2 i3 l4) K =
    (bif decide (i3 < (ilen a2)) then
    (bif inb i3 (List.length a2) then
      ((T_laws_toRow N (List.getD a2 (Int.toNat i3) ((0 : Int), (0 : Int)))).bind fun o9 =>
        (bif inb i3 (List.length l4) then
          (T_laws_toRowS_lp0_m N n (T_laws_toRowS_lp0_sh a2 (iadd .i64 i3 (1 : Int)) (List.set l4 (Int.toNat i3) o9.2.1)) K) else none)) else none)
    else
    (K (.exit 0) (T_laws_toRowS_lp0_e0 a2 i3 (decide (i3 < (ilen a2))) l4))) := by kernel_rfl

theorem T_laws_toRowS_lp0_eq (N : Nat) {R : Type} (a2 : List (Int × Int)) (K : Ex → St → Option R) : ∀ (n : Nat) (i3 : Int) (l4 : List (Int × Int)), T_laws_toRowS_lp0_m N n (T_laws_toRowS_lp0_sh a2 i3 l4) K = T_laws_toRowS_lp0 N a2 (fun i6 t7 l8 => (K (.exit 0) (T_laws_toRowS_lp0_e0 a2 i6 t7 l8))) n i3 l4
  | 0, _, _ => rfl
  | n + 1, i3, l4 => by rw [T_laws_toRowS_lp0_step, T_laws_toRowS_lp0]; (try simp only [T_laws_toRowS_lp0_eq N a2 K n])

theorem T_laws_toRowS_c1 (N : Nat) (a1 : List (Int × Int)) (i10 : Int) (t11 : Bool) (l12 : List (Int × Int)) :
    ((ctxK (R := ODen (T_laws_toRowS_sg N).ps × RDen (T_laws_toRowS_sg N).rs) tab (T_laws_toRowS_ctx N) T_laws_toRowS_ann N (theCode Try.f12) [1, 1, 0, 1, 0] (retK tab (T_laws_toRowS_sg N) Try.f12.results.toList some)) (.exit 0) (T_laws_toRowS_lp0_e0 a1 i10 t11 l12)) =
    (some (α := ODen (T_laws_toRowS_sg N).ps × RDen (T_laws_toRowS_sg N).rs) ((), (l12, ()))) := by kernel_rfl

theorem T_laws_toRowS_den (N : Nat) (a1 : List (Int × Int)) :
    den (R := ODen (T_laws_toRowS_sg N).ps × RDen (T_laws_toRowS_sg N).rs) tab (T_laws_toRowS_ctx N) T_laws_toRowS_ann N (T_laws_toRowS_sg N) Try.f12 (a1, ()) some =
    (bif ((decide ((0 : Int) ≤ (ilen a1))) && (decide ((ilen a1) ≤ (ilen a1)))) && (room (Int.toNat (ilen a1))) then
    (T_laws_toRowS_lp0 N a1
      (fun i10 t11 l12 =>
        (some (α := ODen (T_laws_toRowS_sg N).ps × RDen (T_laws_toRowS_sg N).rs) ((), (l12, ()))))
       N (0 : Int) (List.replicate (Int.toNat (ilen a1)) ((0 : Int), (0 : Int)))) else none) := by
  have h : den (R := ODen (T_laws_toRowS_sg N).ps × RDen (T_laws_toRowS_sg N).rs) tab (T_laws_toRowS_ctx N) T_laws_toRowS_ann N (T_laws_toRowS_sg N) Try.f12 (a1, ()) some =
    (bif ((decide ((0 : Int) ≤ (ilen a1))) && (decide ((ilen a1) ≤ (ilen a1)))) && (room (Int.toNat (ilen a1))) then
    (T_laws_toRowS_lp0_m N N (T_laws_toRowS_lp0_sh a1 (0 : Int) (List.replicate (Int.toNat (ilen a1)) ((0 : Int), (0 : Int)))) (ctxK (R := ODen (T_laws_toRowS_sg N).ps × RDen (T_laws_toRowS_sg N).rs) tab (T_laws_toRowS_ctx N) T_laws_toRowS_ann N (theCode Try.f12) [1, 1, 0, 1, 0] (retK tab (T_laws_toRowS_sg N) Try.f12.results.toList some))) else none) := by kernel_rfl
  rw [h]
  (try simp only [T_laws_toRowS_lp0_eq, T_laws_toRowS_c1]) <;> rfl

theorem T_laws_toRowS_ok (N : Nat) : chkBody Try.f12 (T_laws_toRowS_sg N).ps = true := by kernel_rfl

theorem T_laws_toRowS_callable : Callable Try.prog 12 := callable_of Try.func12 (show chkFn Try.f12 = true by kernel_rfl)

theorem T_laws_toRowS_good (N : Nat) : Good Try.prog 12 (T_laws_toRowS_sg N) :=
  good_body mixedOk tabOk (ctx_cons (T_laws_toRow_good N) T_laws_toRow_callable ctx_nil) Try.func12 (T_laws_toRowS_ok N) (fun d _ h => ⟨N, (T_laws_toRowS_den N d.1).trans h⟩)

noncomputable def T_spec_l1In_sg (N : Nat) : Sig := Sig.of [.v (.int .i64) false, .v (.int .i64) false, .v (.int .i64) false] [.v (.bool) false] (fun d => T_spec_l1In N d.1 d.2.1 d.2.2.1)

def T_spec_l1In_ann : Nat → List Ghost
  | _ => []

noncomputable def T_spec_l1In_ctx (N : Nat) : Ctx := []

theorem T_spec_l1In_den (N : Nat) (x1 : Int) (low2 : Int) (high3 : Int) :
    den (R := ODen (T_spec_l1In_sg N).ps × RDen (T_spec_l1In_sg N).rs) tab (T_spec_l1In_ctx N) T_spec_l1In_ann N (T_spec_l1In_sg N) Try.f82 (x1, low2, high3, ()) some =
    (bif decide (x1 ≥ low2) then
    (some (α := ODen (T_spec_l1In_sg N).ps × RDen (T_spec_l1In_sg N).rs) ((), (decide (x1 ≤ high3), ())))
    else
    (some (α := ODen (T_spec_l1In_sg N).ps × RDen (T_spec_l1In_sg N).rs) ((), (false, ())))) := by kernel_rfl

theorem T_spec_l1In_ok (N : Nat) : chkBody Try.f82 (T_spec_l1In_sg N).ps = true := by kernel_rfl

theorem T_spec_l1In_callable : Callable Try.prog 82 := callable_of Try.func82 (show chkFn Try.f82 = true by kernel_rfl)

theorem T_spec_l1In_good (N : Nat) : Good Try.prog 82 (T_spec_l1In_sg N) :=
  good_body mixedOk tabOk ctx_nil Try.func82 (T_spec_l1In_ok N) (fun d _ h => ⟨N, (T_spec_l1In_den N d.1 d.2.1 d.2.2.1).trans h⟩)

noncomputable def T_spec_l3Val_sg (N : Nat) : Sig := Sig.of [.v (.int .i64) false] [.v (.bool) false] (fun d => T_spec_l3Val N d.1)

def T_spec_l3Val_ann : Nat → List Ghost
  | _ => []

noncomputable def T_spec_l3Val_ctx (N : Nat) : Ctx := [(82, T_spec_l1In_sg N)]

theorem T_spec_l3Val_den (N : Nat) (v1 : Int) :
    den (R := ODen (T_spec_l3Val_sg N).ps × RDen (T_spec_l3Val_sg N).rs) tab (T_spec_l3Val_ctx N) T_spec_l3Val_ann N (T_spec_l3Val_sg N) Try.f83 (v1, ()) some =
    ((T_spec_l1In N v1 (0 : Int) (65535 : Int)).bind fun o2 =>
    (some (α := ODen (T_spec_l3Val_sg N).ps × RDen (T_spec_l3Val_sg N).rs) ((), (o2.2.1, ())))) := by kernel_rfl

theorem T_spec_l3Val_ok (N : Nat) : chkBody Try.f83 (T_spec_l3Val_sg N).ps = true := by kernel_rfl

theorem T_spec_l3Val_callable : Callable Try.prog 83 := callable_of Try.func83 (show chkFn Try.f83 = true by kernel_rfl)

theorem T_spec_l3Val_good (N : Nat) : Good Try.prog 83 (T_spec_l3Val_sg N) :=
  good_body mixedOk tabOk (ctx_cons (T_spec_l1In_good N) T_spec_l1In_callable ctx_nil) Try.func83 (T_spec_l3Val_ok N) (fun d _ h => ⟨N, (T_spec_l3Val_den N d.1).trans h⟩)

noncomputable def T_spec_l3Vals_sg (N : Nat) : Sig := Sig.of [.v (.slice (.int .i64)) false] [.v (.bool) false] (fun d => T_spec_l3Vals N d.1)

def T_spec_l3Vals_ann : Nat → List Ghost
  | 4 => [.canon [0, 3, 10]]
  | 5 => [.canon [0, 3]]
  | 6 => [.canon [0, 3, 18]]
  | 7 => [.canon [2]]
  | 100004 => [.canon [0, 3]]
  | _ => []

noncomputable def T_spec_l3Vals_ctx (N : Nat) : Ctx := [(83, T_spec_l3Val_sg N)]

def T_spec_l3Vals_lp0_sh (l2 : List Int) (i3 : Int) : St := { env := [(0, .s (.one (.val (.slice (.int .i64)) (l2 : List Int)))), (3, .s (.one (.val (.int .i64) (i3 : Int))))], objs := [], nx := 0 }

def T_spec_l3Vals_lp0_e0 (l2 : List Int) : St := { env := [(2, .s (.one (.val (.bool) (false : Bool))))], objs := [], nx := 0 }

def T_spec_l3Vals_lp0_e1 (l2 : List Int) (i5 : Int) (t6 : Bool) : St := { env := [(0, .s (.one (.val (.slice (.int .i64)) (l2 : List Int)))), (3, .s (.one (.val (.int .i64) (i5 : Int)))), (10, .s (.one (.val (.bool) (t6 : Bool))))], objs := [], nx := 0 }

noncomputable def T_spec_l3Vals_lp0_m (N : Nat) {R : Type} (n : Nat) (st : St) (K : Ex → St → Option R) : Option R := loopN (roundG (T_spec_l3Vals_ann 100004) fun st k => sx tab (T_spec_l3Vals_ctx N) T_spec_l3Vals_ann N (nthLoop Try.f45 0) st k) n st K

theorem T_spec_l3Vals_lp0_step (N : Nat) {R : Type} (n : Nat) (K : Ex → St → Option R) (l2 : List Int) (i3 : Int) :
    T_spec_l3Vals_lp0_m N (n + 1) (T_spec_l3Vals_lp0_sh l2 i3) K =
    (bif decide (i3 < (ilen l2)) then
    (bif inb i3 (List.length l2) then
      ((T_spec_l3Val N (List.getD l2 (Int.toNat i3) (0 : Int))).bind fun o7 =>
        (bif !o7.2.1 then
          (K .ret (T_spec_l3Vals_lp0_e0 l2))
          else
          (T_spec_l3Vals_lp0_m N n (T_spec_l3Vals_lp0_sh l2 (iadd .i64 i3 (1 : Int))) K))) else none)
    else
    (K (.exit 0) (T_spec_l3Vals_lp0_e1 l2 i3 (decide (i3 < (ilen l2)))))) := by kernel_rfl

theorem T_spec_l3Vals_lp0_eq (N : Nat) {R : Type} (l2 : List Int) (K : Ex → St → Option R) : ∀ (n : Nat) (i3 : Int), T_spec_l3Vals_lp0_m N n (T_spec_l3Vals_lp0_sh l2 i3) K = T_spec_l3Vals_lp0 N l2 (K .ret (T_spec_l3Vals_lp0_e0 l2)) (fun i5 t6 => (K (.exit 0) (T_spec_l3Vals_lp0_e1 l2 i5 t6))) n i3
  | 0, _ => rfl
  | n + 1, i3 => by rw [T_spec_l3Vals_lp0_step, T_spec_l3Vals_lp0]; (try simp only [T_spec_l3Vals_lp0_eq N l2 K n])

theorem T_spec_l3Vals_c1 (N : Nat) (l1 : List Int) :
    ((ctxK (R := ODen (T_spec_l3Vals_sg N).ps × RDen (T_spec_l3Vals_sg N).rs) tab (T_spec_l3Vals_ctx N) T_spec_l3Vals_ann N (theCode Try.f45) [1, 1, 0, 1, 0] (retK tab (T_spec_l3Vals_sg N) Try.f45.results.toList some)) .ret (T_spec_l3Vals_lp0_e0 l1)) =
    (some (α := ODen (T_spec_l3Vals_sg N).ps × RDen (T_spec_l3Vals_sg N).rs) ((), (false, ()))) := by kernel_rfl

theorem T_spec_l3Vals_c2 (N : Nat) (l1 : List Int) (i8 : Int) (t9 : Bool) :
    ((ctxK (R := ODen (T_spec_l3Vals_sg N).ps × RDen (T_spec_l3Vals_sg N).rs) tab (T_spec_l3Vals_ctx N) T_spec_l3Vals_ann N (theCode Try.f45) [1, 1, 0, 1, 0] (retK tab (T_spec_l3Vals_sg N) Try.f45.results.toList some)) (.exit 0) (T_spec_l3Vals_lp0_e1 l1 i8 t9)) =
    (some (α := ODen (T_spec_l3Vals_sg N).ps × RDen (T_spec_l3Vals_sg N).rs) ((), (true, ()))) := by kernel_rfl

theorem T_spec_l3Vals_den (N : Nat) (l1 : List Int) :
    den (R := ODen (T_spec_l3Vals_sg N).ps × RDen (T_spec_l3Vals_sg N).rs) tab (T_spec_l3Vals_ctx N) T_spec_l3Vals_ann N (T_spec_l3Vals_sg N) Try.f45 (l1, ()) some =
    (bif (ilen l1) != (8 : Int) then
    (some (α := ODen (T_spec_l3Vals_sg N).ps × RDen (T_spec_l3Vals_sg N).rs) ((), (false, ())))
    else
    (T_spec_l3Vals_lp0 N l1
      (some (α := ODen (T_spec_l3Vals_sg N).ps × RDen (T_spec_l3Vals_sg N).rs) ((), (false, ())))
      (fun i8 t9 =>
        (some (α := ODen (T_spec_l3Vals_sg N).ps × RDen (T_spec_l3Vals_sg N).rs) ((), (true, ()))))
       N (0 : Int))) := by
  have h : den (R := ODen (T_spec_l3Vals_sg N).ps × RDen (T_spec_l3Vals_sg N).rs) tab (T_spec_l3Vals_ctx N) T_spec_l3Vals_ann N (T_spec_l3Vals_sg N) Try.f45 (l1, ()) some =
    (bif (ilen l1) != (8 : Int) then
    (some (α := ODen (T_spec_l3Vals_sg N).ps × RDen (T_spec_l3Vals_sg N).rs) ((), (false, ())))
    else
    (T_spec_l3Vals_lp0_m N N (T_spec_l3Vals_lp0_sh l1 (0 : Int)) (ctxK (R := ODen (T_spec_l3Vals_sg N).ps × RDen (T_spec_l3Vals_sg N).rs) tab (T_spec_l3Vals_ctx N) T_spec_l3Vals_ann N (theCode Try.f45) [1, 1, 0, 1, 0] (retK tab (T_spec_l3Vals_sg N) Try.f45.results.toList some)))) := by kernel_rfl
  rw [h]
  (try simp only [T_spec_l3Vals_lp0_eq, T_spec_l3Vals_c1, T_spec_l3Vals_c2]) <;> rfl

theorem T_spec_l3Vals_ok (N : Nat) : chkBody Try.f45 (T_spec_l3Vals_sg N).ps = true := by kernel_rfl

theorem T_spec_l3Vals_callable : Callable Try.prog 45 := callable_of Try.func45 (show chkFn Try.f45 = true by kernel_rfl)

theorem T_spec_l3Vals_good (N : Nat) : Good Try.prog 45 (T_spec_l3Vals_sg N) :=
  good_body mixedOk tabOk (ctx_cons (T_spec_l3Val_good N) T_spec_l3Val_callable ctx_nil) Try.func45 (T_spec_l3Vals_ok N) (fun d _ h => ⟨N, (T_spec_l3Vals_den N d.1).trans h⟩)

noncomputable def T_spec_l3Cell_sg (N : Nat) : Sig := Sig.of [.v (.int .i64) false] [.v (.bool) false] (fun d => T_spec_l3Cell N d.1)

def T_spec_l3Cell_ann : Nat → List Ghost
  | _ => []

noncomputable def T_spec_l3Cell_ctx (N : Nat) : Ctx := [(82, T_spec_l1In_sg N)]

theorem T_spec_l3Cell_den (N : Nat) (i1 : Int) :
    den (R := ODen (T_spec_l3Cell_sg N).ps × RDen (T_spec_l3Cell_sg N).rs) tab (T_spec_l3Cell_ctx N) T_spec_l3Cell_ann N (T_spec_l3Cell_sg N) Try.f84 (i1, ()) some =
    ((T_spec_l1In N i1 (0 : Int) (7 : Int)).bind fun o2 =>
    (some (α := ODen (T_spec_l3Cell_sg N).ps × RDen (T_spec_l3Cell_sg N).rs) ((), (o2.2.1, ())))) := by kernel_rfl

theorem T_spec_l3Cell_ok (N : Nat) : chkBody Try.f84 (T_spec_l3Cell_sg N).ps = true := by kernel_rfl

theorem T_spec_l3Cell_callable : Callable Try.prog 84 := callable_of Try.func84 (show chkFn Try.f84 = true by kernel_rfl)

theorem T_spec_l3Cell_good (N : Nat) : Good Try.prog 84 (T_spec_l3Cell_sg N) :=
  good_body mixedOk tabOk (ctx_cons (T_spec_l1In_good N) T_spec_l1In_callable ctx_nil) Try.func84 (T_spec_l3Cell_ok N) (fun d _ h => ⟨N, (T_spec_l3Cell_den N d.1).trans h⟩)

noncomputable def T_spec_RowsOk_sg (N : Nat) : Sig := Sig.of [.v (.slice (.prod (.int .i64) (.int .i64))) false] [.v (.bool) false] (fun d => T_spec_RowsOk N d.1)

def T_spec_RowsOk_ann : Nat → List Ghost
  | 4 => [.canon [0, 3, 10]]
  | 5 => [.canon [0, 3]]
  | 6 => [.canon [0, 3, 28]]
  | 7 => [.canon [2]]
  | 100004 => [.canon [0, 3]]
  | _ => []

noncomputable def T_spec_RowsOk_ctx (N : Nat) : Ctx := [(84, T_spec_l3Cell_sg N), (83, T_spec_l3Val_sg N)]

def T_spec_RowsOk_lp0_sh (l2 : List (Int × Int)) (i3 : Int) : St := { env := [(0, .s (.one (.val (.slice (.prod (.int .i64) (.int .i64))) (l2 : List (Int × Int))))), (3, .s (.one (.val (.int .i64) (i3 : Int))))], objs := [], nx := 0 }

def T_spec_RowsOk_lp0_e0 (l2 : List (Int × Int)) : St := { env := [(2, .s (.one (.val (.bool) (false : Bool))))], objs := [], nx := 0 }

def T_spec_RowsOk_lp0_e1 (l2 : List (Int × Int)) (i6 : Int) (t7 : Bool) : St := { env := [(0, .s (.one (.val (.slice (.prod (.int .i64) (.int .i64))) (l2 : List (Int × Int))))), (3, .s (.one (.val (.int .i64) (i6 : Int)))), (10, .s (.one (.val (.bool) (t7 : Bool))))], objs := [], nx := 0 }

noncomputable def T_spec_RowsOk_lp0_m (N : Nat) {R : Type} (n : Nat) (st : St) (K : Ex → St → Option R) : Option R := loopN (roundG (T_spec_RowsOk_ann 100004) fun st k => sx tab (T_spec_RowsOk_ctx N) T_spec_RowsOk_ann N (nthLoop Try.f46 0) st k) n st K

theorem T_spec_RowsOk_lp0_step (N : Nat) {R : Type} (n : Nat) (K : Ex → St → Option R) (l2 : List (Int × Int)) (i3 : Int) :
    T_spec_RowsOk_lp0_m N (n + 1) (T_spec_RowsOk_lp0_sh l2 i3) K =
    (bif decide (i3 < (ilen l2)) then
    (bif inb i3 (List.length l2) then
      ((T_spec_l3Cell N (List.getD l2 (Int.toNat i3) ((0 : Int), (0 : Int))).1).bind fun o8 =>
        (bif !o8.2.1 then
          (K .ret (T_spec_RowsOk_lp0_e0 l2))
          else
          (bif inb i3 (List.length l2) then
            ((T_spec_l3Val N (List.getD l2 (Int.toNat i3) ((0 : Int), (0 : Int))).2).bind fun o9 =>
              (bif !o9.2.1 then
                (K .ret (T_spec_RowsOk_lp0_e0 l2))
                else
                (T_spec_RowsOk_lp0_m N n (T_spec_RowsOk_lp0_sh l2 (iadd .i64 i3 (1 : Int))) K))) else none))) else none)
    else
    (K (.exit 0) (T_spec_RowsOk_lp0_e1 l2 i3 (decide (i3 < (ilen l2)))))) := by kernel_rfl

theorem T_spec_RowsOk_lp0_eq (N : Nat) {R : Type} (l2 : List (Int × Int)) (K : Ex → St → Option R) : ∀ (n : Nat) (i3 : Int), T_spec_RowsOk_lp0_m N n (T_spec_RowsOk_lp0_sh l2 i3) K = T_spec_RowsOk_lp0 N l2 (K .ret (T_spec_RowsOk_lp0_e0 l2)) (fun i6 t7 => (K (.exit 0) (T_spec_RowsOk_lp0_e1 l2 i6 t7))) n i3
  | 0, _ => rfl
  | n + 1, i3 => by rw [T_spec_RowsOk_lp0_step, T_spec_RowsOk_lp0]; (try simp only [T_spec_RowsOk_lp0_eq N l2 K n])

theorem T_spec_RowsOk_c1 (N : Nat) (l1 : List (Int × Int)) :
    ((ctxK (R := ODen (T_spec_RowsOk_sg N).ps × RDen (T_spec_RowsOk_sg N).rs) tab (T_spec_RowsOk_ctx N) T_spec_RowsOk_ann N (theCode Try.f46) [1, 1, 0, 1, 0] (retK tab (T_spec_RowsOk_sg N) Try.f46.results.toList some)) .ret (T_spec_RowsOk_lp0_e0 l1)) =
    (some (α := ODen (T_spec_RowsOk_sg N).ps × RDen (T_spec_RowsOk_sg N).rs) ((), (false, ()))) := by kernel_rfl

theorem T_spec_RowsOk_c2 (N : Nat) (l1 : List (Int × Int)) (i10 : Int) (t11 : Bool) :
    ((ctxK (R := ODen (T_spec_RowsOk_sg N).ps × RDen (T_spec_RowsOk_sg N).rs) tab (T_spec_RowsOk_ctx N) T_spec_RowsOk_ann N (theCode Try.f46) [1, 1, 0, 1, 0] (retK tab (T_spec_RowsOk_sg N) Try.f46.results.toList some)) (.exit 0) (T_spec_RowsOk_lp0_e1 l1 i10 t11)) =
    (some (α := ODen (T_spec_RowsOk_sg N).ps × RDen (T_spec_RowsOk_sg N).rs) ((), (true, ()))) := by kernel_rfl

theorem T_spec_RowsOk_den (N : Nat) (l1 : List (Int × Int)) :
    den (R := ODen (T_spec_RowsOk_sg N).ps × RDen (T_spec_RowsOk_sg N).rs) tab (T_spec_RowsOk_ctx N) T_spec_RowsOk_ann N (T_spec_RowsOk_sg N) Try.f46 (l1, ()) some =
    (bif decide ((ilen l1) > (300 : Int)) then
    (some (α := ODen (T_spec_RowsOk_sg N).ps × RDen (T_spec_RowsOk_sg N).rs) ((), (false, ())))
    else
    (T_spec_RowsOk_lp0 N l1
      (some (α := ODen (T_spec_RowsOk_sg N).ps × RDen (T_spec_RowsOk_sg N).rs) ((), (false, ())))
      (fun i10 t11 =>
        (some (α := ODen (T_spec_RowsOk_sg N).ps × RDen (T_spec_RowsOk_sg N).rs) ((), (true, ()))))
       N (0 : Int))) := by
  have h : den (R := ODen (T_spec_RowsOk_sg N).ps × RDen (T_spec_RowsOk_sg N).rs) tab (T_spec_RowsOk_ctx N) T_spec_RowsOk_ann N (T_spec_RowsOk_sg N) Try.f46 (l1, ()) some =
    (bif decide ((ilen l1) > (300 : Int)) then
    (some (α := ODen (T_spec_RowsOk_sg N).ps × RDen (T_spec_RowsOk_sg N).rs) ((), (false, ())))
    else
    (T_spec_RowsOk_lp0_m N N (T_spec_RowsOk_lp0_sh l1 (0 : Int)) (ctxK (R := ODen (T_spec_RowsOk_sg N).ps × RDen (T_spec_RowsOk_sg N).rs) tab (T_spec_RowsOk_ctx N) T_spec_RowsOk_ann N (theCode Try.f46) [1, 1, 0, 1, 0] (retK tab (T_spec_RowsOk_sg N) Try.f46.results.toList some)))) := by kernel_rfl
  rw [h]
  (try simp only [T_spec_RowsOk_lp0_eq, T_spec_RowsOk_c1, T_spec_RowsOk_c2]) <;> rfl

theorem T_spec_RowsOk_ok (N : Nat) : chkBody Try.f46 (T_spec_RowsOk_sg N).ps = true := by kernel_rfl

theorem T_spec_RowsOk_callable : Callable Try.prog 46 := callable_of Try.func46 (show chkFn Try.f46 = true by kernel_rfl)

theorem T_spec_RowsOk_good (N : Nat) : Good Try.prog 46 (T_spec_RowsOk_sg N) :=
  good_body mixedOk tabOk (ctx_cons (T_spec_l3Cell_good N) T_spec_l3Cell_callable (ctx_cons (T_spec_l3Val_good N) T_spec_l3Val_callable ctx_nil)) Try.func46 (T_spec_RowsOk_ok N) (fun d _ h => ⟨N, (T_spec_RowsOk_den N d.1).trans h⟩)

noncomputable def T_spec_l15Ints_sg (N : Nat) : Sig := Sig.of [.v (.slice (.int .i64)) false] [.v (.own (.int .i64)) false] (fun d => T_spec_l15Ints N d.1)

def T_spec_l15Ints_ann : Nat → List Ghost
  | _ => []

noncomputable def T_spec_l15Ints_ctx (N : Nat) : Ctx := []

theorem T_spec_l15Ints_den (N : Nat) (l1 : List Int) :
    den (R := ODen (T_spec_l15Ints_sg N).ps × RDen (T_spec_l15Ints_sg N).rs) tab (T_spec_l15Ints_ctx N) T_spec_l15Ints_ann N (T_spec_l15Ints_sg N) Try.f47 (l1, ()) some =
    (bif room ((List.length ([] : List Int)) + (List.length l1)) then
    (some (α := ODen (T_spec_l15Ints_sg N).ps × RDen (T_spec_l15Ints_sg N).rs) ((), (List.append ([] : List Int) l1, ()))) else none) := by kernel_rfl

theorem T_spec_l15Ints_ok (N : Nat) : chkBody Try.f47 (T_spec_l15Ints_sg N).ps = true := by kernel_rfl

theorem T_spec_l15Ints_callable : Callable Try.prog 47 := callable_of Try.func47 (show chkFn Try.f47 = true by kernel_rfl)

theorem T_spec_l15Ints_good (N : Nat) : Good Try.prog 47 (T_spec_l15Ints_sg N) :=
  good_body mixedOk tabOk ctx_nil Try.func47 (T_spec_l15Ints_ok N) (fun d _ h => ⟨N, (T_spec_l15Ints_den N d.1).trans h⟩)

noncomputable def T_spec_Cut_sg (N : Nat) : Sig := Sig.of [.v (.slice (.prod (.int .i64) (.int .i64))) false, .v (.int .i64) false] [.v (.own (.prod (.int .i64) (.int .i64))) false] (fun d => T_spec_Cut N d.1 d.2.1)

def T_spec_Cut_ann : Nat → List Ghost
  | _ => []

noncomputable def T_spec_Cut_ctx (N : Nat) : Ctx := [(46, T_spec_RowsOk_sg N)]

theorem T_spec_Cut_den (N : Nat) (l1 : List (Int × Int)) (n2 : Int) :
    den (R := ODen (T_spec_Cut_sg N).ps × RDen (T_spec_Cut_sg N).rs) tab (T_spec_Cut_ctx N) T_spec_Cut_ann N (T_spec_Cut_sg N) Try.f48 (l1, n2, ()) some =
    ((T_spec_RowsOk N l1).bind fun o3 =>
    (bif !o3.2.1 then
      (some (α := ODen (T_spec_Cut_sg N).ps × RDen (T_spec_Cut_sg N).rs) ((), (([] : List (Int × Int)), ())))
      else
      (bif decide (n2 ≤ (0 : Int)) then
        (some (α := ODen (T_spec_Cut_sg N).ps × RDen (T_spec_Cut_sg N).rs) ((), (([] : List (Int × Int)), ())))
        else
        (bif decide (n2 > (ilen l1)) then
          (bif (decide ((0 : Int) ≤ (ilen l1))) && (decide ((ilen l1) ≤ ((List.length l1) : Int))) then
            (bif room ((List.length ([] : List (Int × Int))) + (List.length (List.take (Int.toNat (ilen l1)) l1))) then
              (some (α := ODen (T_spec_Cut_sg N).ps × RDen (T_spec_Cut_sg N).rs) ((), (List.append ([] : List (Int × Int)) (List.take (Int.toNat (ilen l1)) l1), ()))) else none) else none)
          else
          (bif (decide ((0 : Int) ≤ n2)) && (decide (n2 ≤ ((List.length l1) : Int))) then
            (bif room ((List.length ([] : List (Int × Int))) + (List.length (List.take (Int.toNat n2) l1))) then
              (some (α := ODen (T_spec_Cut_sg N).ps × RDen (T_spec_Cut_sg N).rs) ((), (List.append ([] : List (Int × Int)) (List.take (Int.toNat n2) l1), ()))) else none) else none))))) := by kernel_rfl

theorem T_spec_Cut_ok (N : Nat) : chkBody Try.f48 (T_spec_Cut_sg N).ps = true := by kernel_rfl

theorem T_spec_Cut_callable : Callable Try.prog 48 := callable_of Try.func48 (show chkFn Try.f48 = true by kernel_rfl)

theorem T_spec_Cut_good (N : Nat) : Good Try.prog 48 (T_spec_Cut_sg N) :=
  good_body mixedOk tabOk (ctx_cons (T_spec_RowsOk_good N) T_spec_RowsOk_callable ctx_nil) Try.func48 (T_spec_Cut_ok N) (fun d _ h => ⟨N, (T_spec_Cut_den N d.1 d.2.1).trans h⟩)

noncomputable def T_spec_EagerCut_sg (N : Nat) : Sig := Sig.of [.v (.slice (.int .i64)) false, .v (.slice (.prod (.int .i64) (.int .i64))) false, .v (.int .i64) false] [.v (.own (.int .i64)) false, .v (.own (.prod (.int .i64) (.int .i64))) false] (fun d => T_spec_EagerCut N d.1 d.2.1 d.2.2.1)

def T_spec_EagerCut_ann : Nat → List Ghost
  | 5 => [.canon [1, 2, 8, 9, 31]]
  | 6 => [.canon [1, 2, 8, 9]]
  | 7 => [.canon [1, 2, 8, 9]]
  | 100005 => [.canon [1, 2, 8, 9]]
  | _ => []

noncomputable def T_spec_EagerCut_ctx (N : Nat) : Ctx := [(45, T_spec_l3Vals_sg N), (46, T_spec_RowsOk_sg N), (47, T_spec_l15Ints_sg N), (48, T_spec_Cut_sg N)]

def T_spec_EagerCut_lp0_sh (log7 : List (Int × Int)) (n8 : Int) (i9 : Int) (l10 : List Int) : St := { env := [(1, .s (.one (.val (.slice (.prod (.int .i64) (.int .i64))) (log7 : List (Int × Int))))), (2, .s (.one (.val (.int .i64) (n8 : Int)))), (8, .s (.one (.own 0))), (9, .s (.one (.val (.int .i64) (i9 : Int))))], objs := [(0, .arr (.int .i64) (l10 : List Int))], nx := 1 }

def T_spec_EagerCut_lp0_e0 (log7 : List (Int × Int)) (n8 : Int) (i11 : Int) (t12 : Bool) (l13 : List Int) : St := { env := [(1, .s (.one (.val (.slice (.prod (.int .i64) (.int .i64))) (log7 : List (Int × Int))))), (2, .s (.one (.val (.int .i64) (n8 : Int)))), (8, .s (.one (.own 0))), (9, .s (.one (.val (.int .i64) (i11 : Int)))), (31, .s (.one (.val (.bool) (t12 : Bool))))], objs := [(0, .arr (.int .i64) (l13 : List Int))], nx := 1 }

noncomputable def T_spec_EagerCut_lp0_m (N : Nat) {R : Type} (n : Nat) (st : St) (K : Ex → St → Option R) : Option R := loopN (roundG (T_spec_EagerCut_ann 100005) fun st k => sx tab (T_spec_EagerCut_ctx N) T_spec_EagerCut_ann N (nthLoop Try.f19 0) st k) n st K

theorem T_spec_EagerCut_lp0_step (N : Nat) {R : Type} (n : Nat) (K : Ex → St → Option R) (log7 : List (Int × Int)) (n8 : Int) (i9 : Int) (l10 : List Int) :
    T_spec_EagerCut_lp0_m N (n + 1) (T_spec_EagerCut_lp0_sh log7 n8 i9 l10) K =
    (bif decide (i9 ≥ n8) then
    (bif inb i9 (List.length log7) then
      (bif inb i9 (List.length log7) then
        (bif inb (List.getD log7 (Int.toNat i9) ((0 : Int), (0 : Int))).1 (List.length l10) then
          (T_spec_EagerCut_lp0_m N n (T_spec_EagerCut_lp0_sh log7 n8 (isub .i64 i9 (1 : Int)) (List.set l10 (Int.toNat (List.getD log7 (Int.toNat i9) ((0 : Int), (0 : Int))).1) (List.getD log7 (Int.toNat i9) ((0 : Int), (0 : Int))).2)) K) else none) else none) else none)
    else
    (K (.exit 0) (T_spec_EagerCut_lp0_e0 log7 n8 i9 (decide (i9 ≥ n8)) l10))) := by kernel_rfl

theorem T_spec_EagerCut_lp0_eq (N : Nat) {R : Type} (log7 : List (Int × Int)) (n8 : Int) (K : Ex → St → Option R) : ∀ (n : Nat) (i9 : Int) (l10 : List Int), T_spec_EagerCut_lp0_m N n (T_spec_EagerCut_lp0_sh log7 n8 i9 l10) K = T_spec_EagerCut_lp0 N log7 n8 (fun i11 t12 l13 => (K (.exit 0) (T_spec_EagerCut_lp0_e0 log7 n8 i11 t12 l13))) n i9 l10
  | 0, _, _ => rfl
  | n + 1, i9, l10 => by rw [T_spec_EagerCut_lp0_step, T_spec_EagerCut_lp0]; (try simp only [T_spec_EagerCut_lp0_eq N log7 n8 K n])

theorem T_spec_EagerCut_c1 (N : Nat) (log2 : List (Int × Int)) (n3 : Int) (i14 : Int) (t15 : Bool) (l16 : List Int) :
    ((ctxK (R := ODen (T_spec_EagerCut_sg N).ps × RDen (T_spec_EagerCut_sg N).rs) tab (T_spec_EagerCut_ctx N) T_spec_EagerCut_ann N (theCode Try.f19) [1, 1, 1, 0, 1, 0] (retK tab (T_spec_EagerCut_sg N) Try.f19.results.toList some)) (.exit 0) (T_spec_EagerCut_lp0_e0 log2 n3 i14 t15 l16)) =
    ((T_spec_Cut N log2 n3).bind fun o17 =>
    (some (α := ODen (T_spec_EagerCut_sg N).ps × RDen (T_spec_EagerCut_sg N).rs) ((), (l16, (o17.2.1, ()))))) := by kernel_rfl

theorem T_spec_EagerCut_den (N : Nat) (cells1 : List Int) (log2 : List (Int × Int)) (n3 : Int) :
    den (R := ODen (T_spec_EagerCut_sg N).ps × RDen (T_spec_EagerCut_sg N).rs) tab (T_spec_EagerCut_ctx N) T_spec_EagerCut_ann N (T_spec_EagerCut_sg N) Try.f19 (cells1, log2, n3, ()) some =
    ((T_spec_l3Vals N cells1).bind fun o4 =>
    (bif !o4.2.1 then
      (some (α := ODen (T_spec_EagerCut_sg N).ps × RDen (T_spec_EagerCut_sg N).rs) ((), (([] : List Int), (([] : List (Int × Int)), ()))))
      else
      ((T_spec_RowsOk N log2).bind fun o5 =>
        (bif !o5.2.1 then
          (some (α := ODen (T_spec_EagerCut_sg N).ps × RDen (T_spec_EagerCut_sg N).rs) ((), (([] : List Int), (([] : List (Int × Int)), ()))))
          else
          (bif decide (n3 < (0 : Int)) then
            (some (α := ODen (T_spec_EagerCut_sg N).ps × RDen (T_spec_EagerCut_sg N).rs) ((), (([] : List Int), (([] : List (Int × Int)), ()))))
            else
            ((T_spec_l15Ints N cells1).bind fun o6 =>
              (T_spec_EagerCut_lp0 N log2 n3
                (fun i14 t15 l16 =>
                  ((T_spec_Cut N log2 n3).bind fun o17 =>
                    (some (α := ODen (T_spec_EagerCut_sg N).ps × RDen (T_spec_EagerCut_sg N).rs) ((), (l16, (o17.2.1, ()))))))
                 N (isub .i64 (ilen log2) (1 : Int)) o6.2.1))))))) := by
  have h : den (R := ODen (T_spec_EagerCut_sg N).ps × RDen (T_spec_EagerCut_sg N).rs) tab (T_spec_EagerCut_ctx N) T_spec_EagerCut_ann N (T_spec_EagerCut_sg N) Try.f19 (cells1, log2, n3, ()) some =
    ((T_spec_l3Vals N cells1).bind fun o4 =>
    (bif !o4.2.1 then
      (some (α := ODen (T_spec_EagerCut_sg N).ps × RDen (T_spec_EagerCut_sg N).rs) ((), (([] : List Int), (([] : List (Int × Int)), ()))))
      else
      ((T_spec_RowsOk N log2).bind fun o5 =>
        (bif !o5.2.1 then
          (some (α := ODen (T_spec_EagerCut_sg N).ps × RDen (T_spec_EagerCut_sg N).rs) ((), (([] : List Int), (([] : List (Int × Int)), ()))))
          else
          (bif decide (n3 < (0 : Int)) then
            (some (α := ODen (T_spec_EagerCut_sg N).ps × RDen (T_spec_EagerCut_sg N).rs) ((), (([] : List Int), (([] : List (Int × Int)), ()))))
            else
            ((T_spec_l15Ints N cells1).bind fun o6 =>
              (T_spec_EagerCut_lp0_m N N (T_spec_EagerCut_lp0_sh log2 n3 (isub .i64 (ilen log2) (1 : Int)) o6.2.1) (ctxK (R := ODen (T_spec_EagerCut_sg N).ps × RDen (T_spec_EagerCut_sg N).rs) tab (T_spec_EagerCut_ctx N) T_spec_EagerCut_ann N (theCode Try.f19) [1, 1, 1, 0, 1, 0] (retK tab (T_spec_EagerCut_sg N) Try.f19.results.toList some))))))))) := by kernel_rfl
  rw [h]
  (try simp only [T_spec_EagerCut_lp0_eq, T_spec_EagerCut_c1]) <;> rfl

theorem T_spec_EagerCut_ok (N : Nat) : chkBody Try.f19 (T_spec_EagerCut_sg N).ps = true := by kernel_rfl

theorem T_spec_EagerCut_callable : Callable Try.prog 19 := callable_of Try.func19 (show chkFn Try.f19 = true by kernel_rfl)

theorem T_spec_EagerCut_good (N : Nat) : Good Try.prog 19 (T_spec_EagerCut_sg N) :=
  good_body mixedOk tabOk (ctx_cons (T_spec_l3Vals_good N) T_spec_l3Vals_callable (ctx_cons (T_spec_RowsOk_good N) T_spec_RowsOk_callable (ctx_cons (T_spec_l15Ints_good N) T_spec_l15Ints_callable (ctx_cons (T_spec_Cut_good N) T_spec_Cut_callable ctx_nil)))) Try.func19 (T_spec_EagerCut_ok N) (fun d _ h => ⟨N, (T_spec_EagerCut_den N d.1 d.2.1 d.2.2.1).trans h⟩)

noncomputable def T_impl_within_sg (N : Nat) : Sig := Sig.of [.v (.int .i64) false, .v (.int .i64) false, .v (.int .i64) false] [.v (.bool) false] (fun d => T_impl_within N d.1 d.2.1 d.2.2.1)

def T_impl_within_ann : Nat → List Ghost
  | _ => []

noncomputable def T_impl_within_ctx (N : Nat) : Ctx := []

theorem T_impl_within_den (N : Nat) (x1 : Int) (lo2 : Int) (hi3 : Int) :
    den (R := ODen (T_impl_within_sg N).ps × RDen (T_impl_within_sg N).rs) tab (T_impl_within_ctx N) T_impl_within_ann N (T_impl_within_sg N) Try.f58 (x1, lo2, hi3, ()) some =
    (bif decide (x1 ≥ lo2) then
    (some (α := ODen (T_impl_within_sg N).ps × RDen (T_impl_within_sg N).rs) ((), (decide (x1 ≤ hi3), ())))
    else
    (some (α := ODen (T_impl_within_sg N).ps × RDen (T_impl_within_sg N).rs) ((), (false, ())))) := by kernel_rfl

theorem T_impl_within_ok (N : Nat) : chkBody Try.f58 (T_impl_within_sg N).ps = true := by kernel_rfl

theorem T_impl_within_callable : Callable Try.prog 58 := callable_of Try.func58 (show chkFn Try.f58 = true by kernel_rfl)

theorem T_impl_within_good (N : Nat) : Good Try.prog 58 (T_impl_within_sg N) :=
  good_body mixedOk tabOk ctx_nil Try.func58 (T_impl_within_ok N) (fun d _ h => ⟨N, (T_impl_within_den N d.1 d.2.1 d.2.2.1).trans h⟩)

noncomputable def T_impl_isValue_sg (N : Nat) : Sig := Sig.of [.v (.int .i64) false] [.v (.bool) false] (fun d => T_impl_isValue N d.1)

def T_impl_isValue_ann : Nat → List Ghost
  | _ => []

noncomputable def T_impl_isValue_ctx (N : Nat) : Ctx := [(58, T_impl_within_sg N)]

theorem T_impl_isValue_den (N : Nat) (v1 : Int) :
    den (R := ODen (T_impl_isValue_sg N).ps × RDen (T_impl_isValue_sg N).rs) tab (T_impl_isValue_ctx N) T_impl_isValue_ann N (T_impl_isValue_sg N) Try.f85 (v1, ()) some =
    ((T_impl_within N v1 (0 : Int) (65535 : Int)).bind fun o2 =>
    (some (α := ODen (T_impl_isValue_sg N).ps × RDen (T_impl_isValue_sg N).rs) ((), (o2.2.1, ())))) := by kernel_rfl

theorem T_impl_isValue_ok (N : Nat) : chkBody Try.f85 (T_impl_isValue_sg N).ps = true := by kernel_rfl

theorem T_impl_isValue_callable : Callable Try.prog 85 := callable_of Try.func85 (show chkFn Try.f85 = true by kernel_rfl)

theorem T_impl_isValue_good (N : Nat) : Good Try.prog 85 (T_impl_isValue_sg N) :=
  good_body mixedOk tabOk (ctx_cons (T_impl_within_good N) T_impl_within_callable ctx_nil) Try.func85 (T_impl_isValue_ok N) (fun d _ h => ⟨N, (T_impl_isValue_den N d.1).trans h⟩)

noncomputable def T_impl_areValues_sg (N : Nat) : Sig := Sig.of [.v (.slice (.int .i64)) false, .v (.int .i64) false] [.v (.bool) false] (fun d => T_impl_areValues N d.1 d.2.1)

def T_impl_areValues_ann : Nat → List Ghost
  | 2 => [.canon [0, 1, 7, 8, 9, 10]]
  | 3 => [.canon [0, 1, 6, 7, 8, 9]]
  | 4 => [.canon [0, 1, 7, 8, 9, 15]]
  | 5 => [.canon [4]]
  | 6 => [.canon [0, 1, 7, 8, 9]]
  | 100002 => [.canon [0, 1, 7, 8, 9]]
  | _ => []

noncomputable def T_impl_areValues_ctx (N : Nat) : Ctx := [(85, T_impl_isValue_sg N)]

def T_impl_areValues_lp0_sh (l3 : List Int) (n4 : Int) (t7 : Int) : St := { env := [(0, .s (.one (.val (.slice (.int .i64)) (l3 : List Int)))), (1, .s (.one (.val (.int .i64) (n4 : Int)))), (7, .s (.one (.val (.slice (.int .i64)) (l3 : List Int)))), (8, .s (.one (.val (.int .i64) (ilen l3 : Int)))), (9, .s (.one (.val (.int .i64) (t7 : Int))))], objs := [], nx := 0 }

def T_impl_areValues_lp0_e0 (l3 : List Int) (n4 : Int) : St := { env := [(4, .s (.one (.val (.bool) (false : Bool))))], objs := [], nx := 0 }

def T_impl_areValues_lp0_e1 (l3 : List Int) (n4 : Int) (t10 : Int) (t11 : Bool) : St := { env := [(0, .s (.one (.val (.slice (.int .i64)) (l3 : List Int)))), (1, .s (.one (.val (.int .i64) (n4 : Int)))), (7, .s (.one (.val (.slice (.int .i64)) (l3 : List Int)))), (8, .s (.one (.val (.int .i64) (ilen l3 : Int)))), (9, .s (.one (.val (.int .i64) (t10 : Int)))), (10, .s (.one (.val (.bool) (t11 : Bool))))], objs := [], nx := 0 }

noncomputable def T_impl_areValues_lp0_m (N : Nat) {R : Type} (n : Nat) (st : St) (K : Ex → St → Option R) : Option R := loopN (roundG (T_impl_areValues_ann 100002) fun st k => sx tab (T_impl_areValues_ctx N) T_impl_areValues_ann N (nthLoop Try.f49 0) st k) n st K

theorem T_impl_areValues_lp0_step (N : Nat) {R : Type} (n : Nat) (K : Ex → St → Option R) (l3 : List Int) (n4 : Int) (t7 : Int) :
    T_impl_areValues_lp0_m N (n + 1) (T_impl_areValues_lp0_sh l3 n4 t7) K =
    (bif decide (t7 < (ilen l3)) then
    (bif inb t7 (List.length l3) then
      ((T_impl_isValue N (List.getD l3 (Int.toNat t7) (0 : Int))).bind fun o12 =>
        (bif !o12.2.1 then
          (K .ret (T_impl_areValues_lp0_e0 l3 n4))
          else
          (T_impl_areValues_lp0_m N n (T_impl_areValues_lp0_sh l3 n4 (iadd .i64 t7 (1 : Int))) K))) else none)
    else
    (K (.exit 0) (T_impl_areValues_lp0_e1 l3 n4 t7 (decide (t7 < (ilen l3)))))) := by kernel_rfl

theorem T_impl_areValues_lp0_eq (N : Nat) {R : Type} (l3 : List Int) (n4 : Int) (K : Ex → St → Option R) : ∀ (n : Nat) (t7 : Int), T_impl_areValues_lp0_m N n (T_impl_areValues_lp0_sh l3 n4 t7) K = T_impl_areValues_lp0 N l3 n4 (K .ret (T_impl_areValues_lp0_e0 l3 n4)) (fun t10 t11 => (K (.exit 0) (T_impl_areValues_lp0_e1 l3 n4 t10 t11))) n t7
  | 0, _ => rfl
  | n + 1, t7 => by rw [T_impl_areValues_lp0_step, T_impl_areValues_lp0]; (try simp only [T_impl_areValues_lp0_eq N l3 n4 K n])

theorem T_impl_areValues_c1 (N : Nat) (l1 : List Int) (n2 : Int) :
    ((ctxK (R := ODen (T_impl_areValues_sg N).ps × RDen (T_impl_areValues_sg N).rs) tab (T_impl_areValues_ctx N) T_impl_areValues_ann N (theCode Try.f49) [1, 0, 1, 0] (retK tab (T_impl_areValues_sg N) Try.f49.results.toList some)) .ret (T_impl_areValues_lp0_e0 l1 n2)) =
    (some (α := ODen (T_impl_areValues_sg N).ps × RDen (T_impl_areValues_sg N).rs) ((), (false, ()))) := by kernel_rfl

theorem T_impl_areValues_c2 (N : Nat) (l1 : List Int) (n2 : Int) (t13 : Int) (t14 : Bool) :
    ((ctxK (R := ODen (T_impl_areValues_sg N).ps × RDen (T_impl_areValues_sg N).rs) tab (T_impl_areValues_ctx N) T_impl_areValues_ann N (theCode Try.f49) [1, 0, 1, 0] (retK tab (T_impl_areValues_sg N) Try.f49.results.toList some)) (.exit 0) (T_impl_areValues_lp0_e1 l1 n2 t13 t14)) =
    (some (α := ODen (T_impl_areValues_sg N).ps × RDen (T_impl_areValues_sg N).rs) ((), ((ilen l1) == n2, ()))) := by kernel_rfl

theorem T_impl_areValues_den (N : Nat) (l1 : List Int) (n2 : Int) :
    den (R := ODen (T_impl_areValues_sg N).ps × RDen (T_impl_areValues_sg N).rs) tab (T_impl_areValues_ctx N) T_impl_areValues_ann N (T_impl_areValues_sg N) Try.f49 (l1, n2, ()) some =
    (T_impl_areValues_lp0 N l1 n2
    (some (α := ODen (T_impl_areValues_sg N).ps × RDen (T_impl_areValues_sg N).rs) ((), (false, ())))
    (fun t13 t14 =>
      (some (α := ODen (T_impl_areValues_sg N).ps × RDen (T_impl_areValues_sg N).rs) ((), ((ilen l1) == n2, ()))))
     N (0 : Int)) := by
  have h : den (R := ODen (T_impl_areValues_sg N).ps × RDen (T_impl_areValues_sg N).rs) tab (T_impl_areValues_ctx N) T_impl_areValues_ann N (T_impl_areValues_sg N) Try.f49 (l1, n2, ()) some =
    (T_impl_areValues_lp0_m N N (T_impl_areValues_lp0_sh l1 n2 (0 : Int)) (ctxK (R := ODen (T_impl_areValues_sg N).ps × RDen (T_impl_areValues_sg N).rs) tab (T_impl_areValues_ctx N) T_impl_areValues_ann N (theCode Try.f49) [1, 0, 1, 0] (retK tab (T_impl_areValues_sg N) Try.f49.results.toList some))) := by kernel_rfl
  rw [h]
  (try simp only [T_impl_areValues_lp0_eq, T_impl_areValues_c1, T_impl_areValues_c2]) <;> rfl

theorem T_impl_areValues_ok (N : Nat) : chkBody Try.f49 (T_impl_areValues_sg N).ps = true := by kernel_rfl

theorem T_impl_areValues_callable : Callable Try.prog 49 := callable_of Try.func49 (show chkFn Try.f49 = true by kernel_rfl)

theorem T_impl_areValues_good (N : Nat) : Good Try.prog 49 (T_impl_areValues_sg N) :=
  good_body mixedOk tabOk (ctx_cons (T_impl_isValue_good N) T_impl_isValue_callable ctx_nil) Try.func49 (T_impl_areValues_ok N) (fun d _ h => ⟨N, (T_impl_areValues_den N d.1 d.2.1).trans h⟩)

noncomputable def T_impl_isCell_sg (N : Nat) : Sig := Sig.of [.v (.int .i64) false] [.v (.bool) false] (fun d => T_impl_isCell N d.1)

def T_impl_isCell_ann : Nat → List Ghost
  | _ => []

noncomputable def T_impl_isCell_ctx (N : Nat) : Ctx := [(58, T_impl_within_sg N)]

theorem T_impl_isCell_den (N : Nat) (i1 : Int) :
    den (R := ODen (T_impl_isCell_sg N).ps × RDen (T_impl_isCell_sg N).rs) tab (T_impl_isCell_ctx N) T_impl_isCell_ann N (T_impl_isCell_sg N) Try.f86 (i1, ()) some =
    ((T_impl_within N i1 (0 : Int) (7 : Int)).bind fun o2 =>
    (some (α := ODen (T_impl_isCell_sg N).ps × RDen (T_impl_isCell_sg N).rs) ((), (o2.2.1, ())))) := by kernel_rfl

theorem T_impl_isCell_ok (N : Nat) : chkBody Try.f86 (T_impl_isCell_sg N).ps = true := by kernel_rfl

theorem T_impl_isCell_callable : Callable Try.prog 86 := callable_of Try.func86 (show chkFn Try.f86 = true by kernel_rfl)

theorem T_impl_isCell_good (N : Nat) : Good Try.prog 86 (T_impl_isCell_sg N) :=
  good_body mixedOk tabOk (ctx_cons (T_impl_within_good N) T_impl_within_callable ctx_nil) Try.func86 (T_impl_isCell_ok N) (fun d _ h => ⟨N, (T_impl_isCell_den N d.1).trans h⟩)

noncomputable def T_impl_RowsOk_sg (N : Nat) : Sig := Sig.of [.v (.slice (.prod (.int .i64) (.int .i64))) false] [.v (.bool) false] (fun d => T_impl_RowsOk N d.1)

def T_impl_RowsOk_ann : Nat → List Ghost
  | 2 => [.canon [0, 5, 6, 7, 8]]
  | 3 => [.canon [0, 4, 5, 6, 7]]
  | 4 => [.canon [0, 5, 6, 7, 20]]
  | 5 => [.canon [2]]
  | 6 => [.canon [0, 5, 6, 7]]
  | 100002 => [.canon [0, 5, 6, 7]]
  | _ => []

noncomputable def T_impl_RowsOk_ctx (N : Nat) : Ctx := [(86, T_impl_isCell_sg N), (85, T_impl_isValue_sg N)]

def T_impl_RowsOk_lp0_sh (l2 : List (Int × Int)) (t5 : Int) : St := { env := [(0, .s (.one (.val (.slice (.prod (.int .i64) (.int .i64))) (l2 : List (Int × Int))))), (5, .s (.one (.val (.slice (.prod (.int .i64) (.int .i64))) (l2 : List (Int × Int))))), (6, .s (.one (.val (.int .i64) (ilen l2 : Int)))), (7, .s (.one (.val (.int .i64) (t5 : Int))))], objs := [], nx := 0 }

def T_impl_RowsOk_lp0_e0 (l2 : List (Int × Int)) : St := { env := [(2, .s (.one (.val (.bool) (false : Bool))))], objs := [], nx := 0 }

def T_impl_RowsOk_lp0_e1 (l2 : List (Int × Int)) (t10 : Int) (t11 : Bool) : St := { env := [(0, .s (.one (.val (.slice (.prod (.int .i64) (.int .i64))) (l2 : List (Int × Int))))), (5, .s (.one (.val (.slice (.prod (.int .i64) (.int .i64))) (l2 : List (Int × Int))))), (6, .s (.one (.val (.int .i64) (ilen l2 : Int)))), (7, .s (.one (.val (.int .i64) (t10 : Int)))), (8, .s (.one (.val (.bool) (t11 : Bool))))], objs := [], nx := 0 }

noncomputable def T_impl_RowsOk_lp0_m (N : Nat) {R : Type} (n : Nat) (st : St) (K : Ex → St → Option R) : Option R := loopN (roundG (T_impl_RowsOk_ann 100002) fun st k => sx tab (T_impl_RowsOk_ctx N) T_impl_RowsOk_ann N (nthLoop Try.f50 0) st k) n st K

theorem T_impl_RowsOk_lp0_step (N : Nat) {R : Type} (n : Nat) (K : Ex → St → Option R) (l2 : List (Int × Int)) (t5 : Int) :
    T_impl_RowsOk_lp0_m N (n + 1) (T_impl_RowsOk_lp0_sh l2 t5) K =
    (bif decide (t5 < (ilen l2)) then
    (bif inb t5 (List.length l2) then
      ((T_impl_isCell N (List.getD l2 (Int.toNat t5) ((0 : Int), (0 : Int))).1).bind fun o12 =>
        (bif !o12.2.1 then
          (K .ret (T_impl_RowsOk_lp0_e0 l2))
          else
          ((T_impl_isValue N (List.getD l2 (Int.toNat t5) ((0 : Int), (0 : Int))).2).bind fun o13 =>
            (bif !o13.2.1 then
              (K .ret (T_impl_RowsOk_lp0_e0 l2))
              else
              (T_impl_RowsOk_lp0_m N n (T_impl_RowsOk_lp0_sh l2 (iadd .i64 t5 (1 : Int))) K))))) else none)
    else
    (K (.exit 0) (T_impl_RowsOk_lp0_e1 l2 t5 (decide (t5 < (ilen l2)))))) := by kernel_rfl

theorem T_impl_RowsOk_lp0_eq (N : Nat) {R : Type} (l2 : List (Int × Int)) (K : Ex → St → Option R) : ∀ (n : Nat) (t5 : Int), T_impl_RowsOk_lp0_m N n (T_impl_RowsOk_lp0_sh l2 t5) K = T_impl_RowsOk_lp0 N l2 (K .ret (T_impl_RowsOk_lp0_e0 l2)) (fun t10 t11 => (K (.exit 0) (T_impl_RowsOk_lp0_e1 l2 t10 t11))) n t5
  | 0, _ => rfl
  | n + 1, t5 => by rw [T_impl_RowsOk_lp0_step, T_impl_RowsOk_lp0]; (try simp only [T_impl_RowsOk_lp0_eq N l2 K n])

theorem T_impl_RowsOk_c1 (N : Nat) (l1 : List (Int × Int)) :
    ((ctxK (R := ODen (T_impl_RowsOk_sg N).ps × RDen (T_impl_RowsOk_sg N).rs) tab (T_impl_RowsOk_ctx N) T_impl_RowsOk_ann N (theCode Try.f50) [1, 0, 1, 0] (retK tab (T_impl_RowsOk_sg N) Try.f50.results.toList some)) .ret (T_impl_RowsOk_lp0_e0 l1)) =
    (some (α := ODen (T_impl_RowsOk_sg N).ps × RDen (T_impl_RowsOk_sg N).rs) ((), (false, ()))) := by kernel_rfl

theorem T_impl_RowsOk_c2 (N : Nat) (l1 : List (Int × Int)) (t14 : Int) (t15 : Bool) :
    ((ctxK (R := ODen (T_impl_RowsOk_sg N).ps × RDen (T_impl_RowsOk_sg N).rs) tab (T_impl_RowsOk_ctx N) T_impl_RowsOk_ann N (theCode Try.f50) [1, 0, 1, 0] (retK tab (T_impl_RowsOk_sg N) Try.f50.results.toList some)) (.exit 0) (T_impl_RowsOk_lp0_e1 l1 t14 t15)) =
    (some (α := ODen (T_impl_RowsOk_sg N).ps × RDen (T_impl_RowsOk_sg N).rs) ((), (decide ((ilen l1) ≤ (300 : Int)), ()))) := by kernel_rfl

theorem T_impl_RowsOk_den (N : Nat) (l1 : List (Int × Int)) :
    den (R := ODen (T_impl_RowsOk_sg N).ps × RDen (T_impl_RowsOk_sg N).rs) tab (T_impl_RowsOk_ctx N) T_impl_RowsOk_ann N (T_impl_RowsOk_sg N) Try.f50 (l1, ()) some =
    (T_impl_RowsOk_lp0 N l1
    (some (α := ODen (T_impl_RowsOk_sg N).ps × RDen (T_impl_RowsOk_sg N).rs) ((), (false, ())))
    (fun t14 t15 =>
      (some (α := ODen (T_impl_RowsOk_sg N).ps × RDen (T_impl_RowsOk_sg N).rs) ((), (decide ((ilen l1) ≤ (300 : Int)), ()))))
     N (0 : Int)) := by
  have h : den (R := ODen (T_impl_RowsOk_sg N).ps × RDen (T_impl_RowsOk_sg N).rs) tab (T_impl_RowsOk_ctx N) T_impl_RowsOk_ann N (T_impl_RowsOk_sg N) Try.f50 (l1, ()) some =
    (T_impl_RowsOk_lp0_m N N (T_impl_RowsOk_lp0_sh l1 (0 : Int)) (ctxK (R := ODen (T_impl_RowsOk_sg N).ps × RDen (T_impl_RowsOk_sg N).rs) tab (T_impl_RowsOk_ctx N) T_impl_RowsOk_ann N (theCode Try.f50) [1, 0, 1, 0] (retK tab (T_impl_RowsOk_sg N) Try.f50.results.toList some))) := by kernel_rfl
  rw [h]
  (try simp only [T_impl_RowsOk_lp0_eq, T_impl_RowsOk_c1, T_impl_RowsOk_c2]) <;> rfl

theorem T_impl_RowsOk_ok (N : Nat) : chkBody Try.f50 (T_impl_RowsOk_sg N).ps = true := by kernel_rfl

theorem T_impl_RowsOk_callable : Callable Try.prog 50 := callable_of Try.func50 (show chkFn Try.f50 = true by kernel_rfl)

theorem T_impl_RowsOk_good (N : Nat) : Good Try.prog 50 (T_impl_RowsOk_sg N) :=
  good_body mixedOk tabOk (ctx_cons (T_impl_isCell_good N) T_impl_isCell_callable (ctx_cons (T_impl_isValue_good N) T_impl_isValue_callable ctx_nil)) Try.func50 (T_impl_RowsOk_ok N) (fun d _ h => ⟨N, (T_impl_RowsOk_den N d.1).trans h⟩)

noncomputable def T_impl_copyInts_sg (N : Nat) : Sig := Sig.of [.v (.slice (.int .i64)) false] [.v (.own (.int .i64)) false] (fun d => T_impl_copyInts N d.1)

def T_impl_copyInts_ann : Nat → List Ghost
  | _ => []

noncomputable def T_impl_copyInts_ctx (N : Nat) : Ctx := []

theorem T_impl_copyInts_den (N : Nat) (l1 : List Int) :
    den (R := ODen (T_impl_copyInts_sg N).ps × RDen (T_impl_copyInts_sg N).rs) tab (T_impl_copyInts_ctx N) T_impl_copyInts_ann N (T_impl_copyInts_sg N) Try.f51 (l1, ()) some =
    (bif room (List.length l1) then
    (some (α := ODen (T_impl_copyInts_sg N).ps × RDen (T_impl_copyInts_sg N).rs) ((), (l1, ()))) else none) := by kernel_rfl

theorem T_impl_copyInts_ok (N : Nat) : chkBody Try.f51 (T_impl_copyInts_sg N).ps = true := by kernel_rfl

theorem T_impl_copyInts_callable : Callable Try.prog 51 := callable_of Try.func51 (show chkFn Try.f51 = true by kernel_rfl)

theorem T_impl_copyInts_good (N : Nat) : Good Try.prog 51 (T_impl_copyInts_sg N) :=
  good_body mixedOk tabOk ctx_nil Try.func51 (T_impl_copyInts_ok N) (fun d _ h => ⟨N, (T_impl_copyInts_den N d.1).trans h⟩)

noncomputable def T_impl_copyRows_sg (N : Nat) : Sig := Sig.of [.v (.slice (.prod (.int .i64) (.int .i64))) false] [.v (.own (.prod (.int .i64) (.int .i64))) false] (fun d => T_impl_copyRows N d.1)

def T_impl_copyRows_ann : Nat → List Ghost
  | _ => []

noncomputable def T_impl_copyRows_ctx (N : Nat) : Ctx := []

theorem T_impl_copyRows_den (N : Nat) (l1 : List (Int × Int)) :
    den (R := ODen (T_impl_copyRows_sg N).ps × RDen (T_impl_copyRows_sg N).rs) tab (T_impl_copyRows_ctx N) T_impl_copyRows_ann N (T_impl_copyRows_sg N) Try.f52 (l1, ()) some =
    (bif room (List.length l1) then
    (some (α := ODen (T_impl_copyRows_sg N).ps × RDen (T_impl_copyRows_sg N).rs) ((), (l1, ()))) else none) := by kernel_rfl

theorem T_impl_copyRows_ok (N : Nat) : chkBody Try.f52 (T_impl_copyRows_sg N).ps = true := by kernel_rfl

theorem T_impl_copyRows_callable : Callable Try.prog 52 := callable_of Try.func52 (show chkFn Try.f52 = true by kernel_rfl)

theorem T_impl_copyRows_good (N : Nat) : Good Try.prog 52 (T_impl_copyRows_sg N) :=
  good_body mixedOk tabOk ctx_nil Try.func52 (T_impl_copyRows_ok N) (fun d _ h => ⟨N, (T_impl_copyRows_den N d.1).trans h⟩)

noncomputable def T_impl_EagerCut_sg (N : Nat) : Sig := Sig.of [.v (.slice (.int .i64)) false, .v (.slice (.prod (.int .i64) (.int .i64))) false, .v (.int .i64) false] [.v (.own (.int .i64)) false, .v (.own (.prod (.int .i64) (.int .i64))) false] (fun d => T_impl_EagerCut N d.1 d.2.1 d.2.2.1)

def T_impl_EagerCut_ann : Nat → List Ghost
  | 5 => [.canon [1, 2, 8, 9, 29]]
  | 6 => [.canon [1, 2, 8, 9]]
  | 7 => [.canon [1, 2, 8, 9]]
  | 100005 => [.canon [1, 2, 8, 9]]
  | _ => []

noncomputable def T_impl_EagerCut_ctx (N : Nat) : Ctx := [(49, T_impl_areValues_sg N), (50, T_impl_RowsOk_sg N), (51, T_impl_copyInts_sg N), (52, T_impl_copyRows_sg N)]

def T_impl_EagerCut_lp0_sh (log7 : List (Int × Int)) (n8 : Int) (i9 : Int) (l10 : List Int) : St := { env := [(1, .s (.one (.val (.slice (.prod (.int .i64) (.int .i64))) (log7 : List (Int × Int))))), (2, .s (.one (.val (.int .i64) (n8 : Int)))), (8, .s (.one (.own 0))), (9, .s (.one (.val (.int .i64) (i9 : Int))))], objs := [(0, .arr (.int .i64) (l10 : List Int))], nx := 1 }

def T_impl_EagerCut_lp0_e0 (log7 : List (Int × Int)) (n8 : Int) (i11 : Int) (t12 : Bool) (l13 : List Int) : St := { env := [(1, .s (.one (.val (.slice (.prod (.int .i64) (.int .i64))) (log7 : List (Int × Int))))), (2, .s (.one (.val (.int .i64) (n8 : Int)))), (8, .s (.one (.own 0))), (9, .s (.one (.val (.int .i64) (i11 : Int)))), (29, .s (.one (.val (.bool) (t12 : Bool))))], objs := [(0, .arr (.int .i64) (l13 : List Int))], nx := 1 }

noncomputable def T_impl_EagerCut_lp0_m (N : Nat) {R : Type} (n : Nat) (st : St) (K : Ex → St → Option R) : Option R := loopN (roundG (T_impl_EagerCut_ann 100005) fun st k => sx tab (T_impl_EagerCut_ctx N) T_impl_EagerCut_ann N (nthLoop Try.f20 0) st k) n st K

theorem T_impl_EagerCut_lp0_step (N : Nat) {R : Type} (n : Nat) (K : Ex → St → Option R) (log7 : List (Int × Int)) (n8 : Int) (i9 : Int) (l10 : List Int) :
    T_impl_EagerCut_lp0_m N (n + 1) (T_impl_EagerCut_lp0_sh log7 n8 i9 l10) K =
    (bif decide (i9 ≥ n8) then
    (bif inb i9 (List.length log7) then
      (bif inb i9 (List.length log7) then
        (bif inb (List.getD log7 (Int.toNat i9) ((0 : Int), (0 : Int))).1 (List.length l10) then
          (T_impl_EagerCut_lp0_m N n (T_impl_EagerCut_lp0_sh log7 n8 (isub .i64 i9 (1 : Int)) (List.set l10 (Int.toNat (List.getD log7 (Int.toNat i9) ((0 : Int), (0 : Int))).1) (List.getD log7 (Int.toNat i9) ((0 : Int), (0 : Int))).2)) K) else none) else none) else none)
    else
    (K (.exit 0) (T_impl_EagerCut_lp0_e0 log7 n8 i9 (decide (i9 ≥ n8)) l10))) := by kernel_rfl

theorem T_impl_EagerCut_lp0_eq (N : Nat) {R : Type} (log7 : List (Int × Int)) (n8 : Int) (K : Ex → St → Option R) : ∀ (n : Nat) (i9 : Int) (l10 : List Int), T_impl_EagerCut_lp0_m N n (T_impl_EagerCut_lp0_sh log7 n8 i9 l10) K = T_impl_EagerCut_lp0 N log7 n8 (fun i11 t12 l13 => (K (.exit 0) (T_impl_EagerCut_lp0_e0 log7 n8 i11 t12 l13))) n i9 l10
  | 0, _, _ => rfl
  | n + 1, i9, l10 => by rw [T_impl_EagerCut_lp0_step, T_impl_EagerCut_lp0]; (try simp only [T_impl_EagerCut_lp0_eq N log7 n8 K n])

theorem T_impl_EagerCut_c1 (N : Nat) (log2 : List (Int × Int)) (n3 : Int) (i14 : Int) (t15 : Bool) (l16 : List Int) :
    ((ctxK (R := ODen (T_impl_EagerCut_sg N).ps × RDen (T_impl_EagerCut_sg N).rs) tab (T_impl_EagerCut_ctx N) T_impl_EagerCut_ann N (theCode Try.f20) [1, 1, 1, 0, 1, 0] (retK tab (T_impl_EagerCut_sg N) Try.f20.results.toList some)) (.exit 0) (T_impl_EagerCut_lp0_e0 log2 n3 i14 t15 l16)) =
    (bif (decide ((0 : Int) ≤ (minI n3 (ilen log2)))) && (decide ((minI n3 (ilen log2)) ≤ ((List.length log2) : Int))) then
    ((T_impl_copyRows N (List.take (Int.toNat (minI n3 (ilen log2))) log2)).bind fun o17 =>
      (some (α := ODen (T_impl_EagerCut_sg N).ps × RDen (T_impl_EagerCut_sg N).rs) ((), (l16, (o17.2.1, ()))))) else none) := by kernel_rfl

theorem T_impl_EagerCut_den (N : Nat) (cells1 : List Int) (log2 : List (Int × Int)) (n3 : Int) :
    den (R := ODen (T_impl_EagerCut_sg N).ps × RDen (T_impl_EagerCut_sg N).rs) tab (T_impl_EagerCut_ctx N) T_impl_EagerCut_ann N (T_impl_EagerCut_sg N) Try.f20 (cells1, log2, n3, ()) some =
    ((T_impl_areValues N cells1 (8 : Int)).bind fun o4 =>
    (bif !o4.2.1 then
      (some (α := ODen (T_impl_EagerCut_sg N).ps × RDen (T_impl_EagerCut_sg N).rs) ((), (([] : List Int), (([] : List (Int × Int)), ()))))
      else
      ((T_impl_RowsOk N log2).bind fun o5 =>
        (bif !o5.2.1 then
          (some (α := ODen (T_impl_EagerCut_sg N).ps × RDen (T_impl_EagerCut_sg N).rs) ((), (([] : List Int), (([] : List (Int × Int)), ()))))
          else
          (bif decide (n3 < (0 : Int)) then
            (some (α := ODen (T_impl_EagerCut_sg N).ps × RDen (T_impl_EagerCut_sg N).rs) ((), (([] : List Int), (([] : List (Int × Int)), ()))))
            else
            ((T_impl_copyInts N cells1).bind fun o6 =>
              (T_impl_EagerCut_lp0 N log2 n3
                (fun i14 t15 l16 =>
                  (bif (decide ((0 : Int) ≤ (minI n3 (ilen log2)))) && (decide ((minI n3 (ilen log2)) ≤ ((List.length log2) : Int))) then
                    ((T_impl_copyRows N (List.take (Int.toNat (minI n3 (ilen log2))) log2)).bind fun o17 =>
                      (some (α := ODen (T_impl_EagerCut_sg N).ps × RDen (T_impl_EagerCut_sg N).rs) ((), (l16, (o17.2.1, ()))))) else none))
                 N (isub .i64 (ilen log2) (1 : Int)) o6.2.1))))))) := by
  have h : den (R := ODen (T_impl_EagerCut_sg N).ps × RDen (T_impl_EagerCut_sg N).rs) tab (T_impl_EagerCut_ctx N) T_impl_EagerCut_ann N (T_impl_EagerCut_sg N) Try.f20 (cells1, log2, n3, ()) some =
    ((T_impl_areValues N cells1 (8 : Int)).bind fun o4 =>
    (bif !o4.2.1 then
      (some (α := ODen (T_impl_EagerCut_sg N).ps × RDen (T_impl_EagerCut_sg N).rs) ((), (([] : List Int), (([] : List (Int × Int)), ()))))
      else
      ((T_impl_RowsOk N log2).bind fun o5 =>
        (bif !o5.2.1 then
          (some (α := ODen (T_impl_EagerCut_sg N).ps × RDen (T_impl_EagerCut_sg N).rs) ((), (([] : List Int), (([] : List (Int × Int)), ()))))
          else
          (bif decide (n3 < (0 : Int)) then
            (some (α := ODen (T_impl_EagerCut_sg N).ps × RDen (T_impl_EagerCut_sg N).rs) ((), (([] : List Int), (([] : List (Int × Int)), ()))))
            else
            ((T_impl_copyInts N cells1).bind fun o6 =>
              (T_impl_EagerCut_lp0_m N N (T_impl_EagerCut_lp0_sh log2 n3 (isub .i64 (ilen log2) (1 : Int)) o6.2.1) (ctxK (R := ODen (T_impl_EagerCut_sg N).ps × RDen (T_impl_EagerCut_sg N).rs) tab (T_impl_EagerCut_ctx N) T_impl_EagerCut_ann N (theCode Try.f20) [1, 1, 1, 0, 1, 0] (retK tab (T_impl_EagerCut_sg N) Try.f20.results.toList some))))))))) := by kernel_rfl
  rw [h]
  (try simp only [T_impl_EagerCut_lp0_eq, T_impl_EagerCut_c1]) <;> rfl

theorem T_impl_EagerCut_ok (N : Nat) : chkBody Try.f20 (T_impl_EagerCut_sg N).ps = true := by kernel_rfl

theorem T_impl_EagerCut_callable : Callable Try.prog 20 := callable_of Try.func20 (show chkFn Try.f20 = true by kernel_rfl)

theorem T_impl_EagerCut_good (N : Nat) : Good Try.prog 20 (T_impl_EagerCut_sg N) :=
  good_body mixedOk tabOk (ctx_cons (T_impl_areValues_good N) T_impl_areValues_callable (ctx_cons (T_impl_RowsOk_good N) T_impl_RowsOk_callable (ctx_cons (T_impl_copyInts_good N) T_impl_copyInts_callable (ctx_cons (T_impl_copyRows_good N) T_impl_copyRows_callable ctx_nil)))) Try.func20 (T_impl_EagerCut_ok N) (fun d _ h => ⟨N, (T_impl_EagerCut_den N d.1 d.2.1 d.2.2.1).trans h⟩)

noncomputable def T_laws_eqIntS_sg (N : Nat) : Sig := Sig.of [.v (.slice (.int .i64)) false, .v (.slice (.int .i64)) false] [.v (.bool) false] (fun d => T_laws_eqIntS N d.1 d.2.1)

def T_laws_eqIntS_ann : Nat → List Ghost
  | 4 => [.canon [0, 1, 5, 14]]
  | 5 => [.canon [0, 1, 5]]
  | 6 => [.canon [0, 1, 5, 25]]
  | 7 => [.canon [4]]
  | 100004 => [.canon [0, 1, 5]]
  | _ => []

noncomputable def T_laws_eqIntS_ctx (N : Nat) : Ctx := []

def T_laws_eqIntS_lp0_sh (a3 : List Int) (b4 : List Int) (i5 : Int) : St := { env := [(0, .s (.one (.val (.slice (.int .i64)) (a3 : List Int)))), (1, .s (.one (.val (.slice (.int .i64)) (b4 : List Int)))), (5, .s (.one (.val (.int .i64) (i5 : Int))))], objs := [], nx := 0 }

def T_laws_eqIntS_lp0_e0 (a3 : List Int) (b4 : List Int) : St := { env := [(4, .s (.one (.val (.bool) (false : Bool))))], objs := [], nx := 0 }

def T_laws_eqIntS_lp0_e1 (a3 : List Int) (b4 : List Int) (i6 : Int) (t7 : Bool) : St := { env := [(0, .s (.one (.val (.slice (.int .i64)) (a3 : List Int)))), (1, .s (.one (.val (.slice (.int .i64)) (b4 : List Int)))), (5, .s (.one (.val (.int .i64) (i6 : Int)))), (14, .s (.one (.val (.bool) (t7 : Bool))))], objs := [], nx := 0 }

noncomputable def T_laws_eqIntS_lp0_m (N : Nat) {R : Type} (n : Nat) (st : St) (K : Ex → St → Option R) : Option R := loopN (roundG (T_laws_eqIntS_ann 100004) fun st k => sx tab (T_laws_eqIntS_ctx N) T_laws_eqIntS_ann N (nthLoop Try.f14 0) st k) n st K

theorem T_laws_eqIntS_lp0_step (N : Nat) {R : Type} (n : Nat) (K : Ex → St → Option R) (a3 : List Int) (b4 : List Int) (i5 : Int) :
    T_laws_eqIntS_lp0_m N (n + 1) (T_laws_eqIntS_lp0_sh a3 b4 i5) K =
    (bif decide (i5 < (ilen a3)) then
    (bif inb i5 (List.length a3) then
      (bif inb i5 (List.length b4) then
        (bif (List.getD a3 (Int.toNat i5) (0 : Int)) != (List.getD b4 (Int.toNat i5) (0 : Int)) then
          (K .ret (T_laws_eqIntS_lp0_e0 a3 b4))
          else
          (T_laws_eqIntS_lp0_m N n (T_laws_eqIntS_lp0_sh a3 b4 (iadd .i64 i5 (1 : Int))) K)) else none) else none)
    else
    (K (.exit 0) (T_laws_eqIntS_lp0_e1 a3 b4 i5 (decide (i5 < (ilen a3)))))) := by kernel_rfl

theorem T_laws_eqIntS_lp0_eq (N : Nat) {R : Type} (a3 : List Int) (b4 : List Int) (K : Ex → St → Option R) : ∀ (n : Nat) (i5 : Int), T_laws_eqIntS_lp0_m N n (T_laws_eqIntS_lp0_sh a3 b4 i5) K = T_laws_eqIntS_lp0 N a3 b4 (K .ret (T_laws_eqIntS_lp0_e0 a3 b4)) (fun i6 t7 => (K (.exit 0) (T_laws_eqIntS_lp0_e1 a3 b4 i6 t7))) n i5
  | 0, _ => rfl
  | n + 1, i5 => by rw [T_laws_eqIntS_lp0_step, T_laws_eqIntS_lp0]; (try simp only [T_laws_eqIntS_lp0_eq N a3 b4 K n])

theorem T_laws_eqIntS_c1 (N : Nat) (a1 : List Int) (b2 : List Int) :
    ((ctxK (R := ODen (T_laws_eqIntS_sg N).ps × RDen (T_laws_eqIntS_sg N).rs) tab (T_laws_eqIntS_ctx N) T_laws_eqIntS_ann N (theCode Try.f14) [1, 1, 0, 1, 0] (retK tab (T_laws_eqIntS_sg N) Try.f14.results.toList some)) .ret (T_laws_eqIntS_lp0_e0 a1 b2)) =
    (some (α := ODen (T_laws_eqIntS_sg N).ps × RDen (T_laws_eqIntS_sg N).rs) ((), (false, ()))) := by kernel_rfl

theorem T_laws_eqIntS_c2 (N : Nat) (a1 : List Int) (b2 : List Int) (i8 : Int) (t9 : Bool) :
    ((ctxK (R := ODen (T_laws_eqIntS_sg N).ps × RDen (T_laws_eqIntS_sg N).rs) tab (T_laws_eqIntS_ctx N) T_laws_eqIntS_ann N (theCode Try.f14) [1, 1, 0, 1, 0] (retK tab (T_laws_eqIntS_sg N) Try.f14.results.toList some)) (.exit 0) (T_laws_eqIntS_lp0_e1 a1 b2 i8 t9)) =
    (some (α := ODen (T_laws_eqIntS_sg N).ps × RDen (T_laws_eqIntS_sg N).rs) ((), (true, ()))) := by kernel_rfl

theorem T_laws_eqIntS_den (N : Nat) (a1 : List Int) (b2 : List Int) :
    den (R := ODen (T_laws_eqIntS_sg N).ps × RDen (T_laws_eqIntS_sg N).rs) tab (T_laws_eqIntS_ctx N) T_laws_eqIntS_ann N (T_laws_eqIntS_sg N) Try.f14 (a1, b2, ()) some =
    (bif (ilen a1) != (ilen b2) then
    (some (α := ODen (T_laws_eqIntS_sg N).ps × RDen (T_laws_eqIntS_sg N).rs) ((), (false, ())))
    else
    (T_laws_eqIntS_lp0 N a1 b2
      (some (α := ODen (T_laws_eqIntS_sg N).ps × RDen (T_laws_eqIntS_sg N).rs) ((), (false, ())))
      (fun i8 t9 =>
        (some (α := ODen (T_laws_eqIntS_sg N).ps × RDen (T_laws_eqIntS_sg N).rs) ((), (true, ()))))
       N (0 : Int))) := by
  have h : den (R := ODen (T_laws_eqIntS_sg N).ps × RDen (T_laws_eqIntS_sg N).rs) tab (T_laws_eqIntS_ctx N) T_laws_eqIntS_ann N (T_laws_eqIntS_sg N) Try.f14 (a1, b2, ()) some =
    (bif (ilen a1) != (ilen b2) then
    (some (α := ODen (T_laws_eqIntS_sg N).ps × RDen (T_laws_eqIntS_sg N).rs) ((), (false, ())))
    else
    (T_laws_eqIntS_lp0_m N N (T_laws_eqIntS_lp0_sh a1 b2 (0 : Int)) (ctxK (R := ODen (T_laws_eqIntS_sg N).ps × RDen (T_laws_eqIntS_sg N).rs) tab (T_laws_eqIntS_ctx N) T_laws_eqIntS_ann N (theCode Try.f14) [1, 1, 0, 1, 0] (retK tab (T_laws_eqIntS_sg N) Try.f14.results.toList some)))) := by kernel_rfl
  rw [h]
  (try simp only [T_laws_eqIntS_lp0_eq, T_laws_eqIntS_c1, T_laws_eqIntS_c2]) <;> rfl

theorem T_laws_eqIntS_ok (N : Nat) : chkBody Try.f14 (T_laws_eqIntS_sg N).ps = true := by kernel_rfl

theorem T_laws_eqIntS_callable : Callable Try.prog 14 := callable_of Try.func14 (show chkFn Try.f14 = true by kernel_rfl)

theorem T_laws_eqIntS_good (N : Nat) : Good Try.prog 14 (T_laws_eqIntS_sg N) :=
  good_body mixedOk tabOk ctx_nil Try.func14 (T_laws_eqIntS_ok N) (fun d _ h => ⟨N, (T_laws_eqIntS_den N d.1 d.2.1).trans h⟩)

noncomputable def T_laws_eqRow_sg (N : Nat) : Sig := Sig.of [.v (.prod (.int .i64) (.int .i64)) true, .v (.prod (.int .i64) (.int .i64)) true] [.v (.bool) false] (fun d => T_laws_eqRow N d.1 d.2.1)

def T_laws_eqRow_ann : Nat → List Ghost
  | _ => []

noncomputable def T_laws_eqRow_ctx (N : Nat) : Ctx := []

theorem T_laws_eqRow_den (N : Nat) (a1 : Int × Int) (b2 : Int × Int) :
    den (R := ODen (T_laws_eqRow_sg N).ps × RDen (T_laws_eqRow_sg N).rs) tab (T_laws_eqRow_ctx N) T_laws_eqRow_ann N (T_laws_eqRow_sg N) Try.f44 (a1, b2, ()) some =
    (bif a1.1 != b2.1 then
    (some (α := ODen (T_laws_eqRow_sg N).ps × RDen (T_laws_eqRow_sg N).rs) ((), (false, ())))
    else
    (bif a1.2 != b2.2 then
      (some (α := ODen (T_laws_eqRow_sg N).ps × RDen (T_laws_eqRow_sg N).rs) ((), (false, ())))
      else
      (some (α := ODen (T_laws_eqRow_sg N).ps × RDen (T_laws_eqRow_sg N).rs) ((), (true, ()))))) := by kernel_rfl

theorem T_laws_eqRow_ok (N : Nat) : chkBody Try.f44 (T_laws_eqRow_sg N).ps = true := by kernel_rfl

theorem T_laws_eqRow_callable : Callable Try.prog 44 := callable_of Try.func44 (show chkFn Try.f44 = true by kernel_rfl)

theorem T_laws_eqRow_good (N : Nat) : Good Try.prog 44 (T_laws_eqRow_sg N) :=
  good_body mixedOk tabOk ctx_nil Try.func44 (T_laws_eqRow_ok N) (fun d _ h => ⟨N, (T_laws_eqRow_den N d.1 d.2.1).trans h⟩)

noncomputable def T_laws_eqRowS_sg (N : Nat) : Sig := Sig.of [.v (.slice (.prod (.int .i64) (.int .i64))) false, .v (.slice (.prod (.int .i64) (.int .i64))) false] [.v (.bool) false] (fun d => T_laws_eqRowS N d.1 d.2.1)

def T_laws_eqRowS_ann : Nat → List Ghost
  | 4 => [.canon [0, 1, 5, 14]]
  | 5 => [.canon [0, 1, 5]]
  | 6 => [.canon [0, 1, 5, 26]]
  | 7 => [.canon [4]]
  | 100004 => [.canon [0, 1, 5]]
  | _ => []

noncomputable def T_laws_eqRowS_ctx (N : Nat) : Ctx := [(44, T_laws_eqRow_sg N)]

def T_laws_eqRowS_lp0_sh (a3 : List (Int × Int)) (b4 : List (Int × Int)) (i5 : Int) : St := { env := [(0, .s (.one (.val (.slice (.prod (.int .i64) (.int .i64))) (a3 : List (Int × Int))))), (1, .s (.one (.val (.slice (.prod (.int .i64) (.int .i64))) (b4 : List (Int × Int))))), (5, .s (.one (.val (.int .i64) (i5 : Int))))], objs := [], nx := 0 }

def T_laws_eqRowS_lp0_e0 (a3 : List (Int × Int)) (b4 : List (Int × Int)) : St := { env := [(4, .s (.one (.val (.bool) (false : Bool))))], objs := [], nx := 0 }

def T_laws_eqRowS_lp0_e1 (a3 : List (Int × Int)) (b4 : List (Int × Int)) (i7 : Int) (t8 : Bool) : St := { env := [(0, .s (.one (.val (.slice (.prod (.int .i64) (.int .i64))) (a3 : List (Int × Int))))), (1, .s (.one (.val (.slice (.prod (.int .i64) (.int .i64))) (b4 : List (Int × Int))))), (5, .s (.one (.val (.int .i64) (i7 : Int)))), (14, .s (.one (.val (.bool) (t8 : Bool))))], objs := [], nx := 0 }

noncomputable def T_laws_eqRowS_lp0_m (N : Nat) {R : Type} (n : Nat) (st : St) (K : Ex → St → Option R) : Option R := loopN (roundG (T_laws_eqRowS_ann 100004) fun st k => sx tab (T_laws_eqRowS_ctx N) T_laws_eqRowS_ann N (nthLoop Try.f15 0) st k) n st K

theorem T_laws_eqRowS_lp0_step (N : Nat) {R : Type} (n : Nat) (K : Ex → St → Option R) (a3 : List (Int × Int)) (b4 : List (Int × Int)) (i5 : Int) :
    T_laws_eqRowS_lp0_m N (n + 1) (T_laws_eqRowS_lp0_sh a3 b4 i5) K =
    (bif decide (i5 < (ilen a3)) then
    (bif inb i5 (List.length a3) then
      (bif inb i5 (List.length b4) then
        ((T_laws_eqRow N (List.getD a3 (Int.toNat i5) ((0 : Int), (0 : Int))) (List.getD b4 (Int.toNat i5) ((0 : Int), (0 : Int)))).bind fun o9 =>
          (bif !o9.2.1 then
            (K .ret (T_laws_eqRowS_lp0_e0 a3 b4))
            else
            (T_laws_eqRowS_lp0_m N n (T_laws_eqRowS_lp0_sh a3 b4 (iadd .i64 i5 (1 : Int))) K))) else none) else none)
    else
    (K (.exit 0) (T_laws_eqRowS_lp0_e1 a3 b4 i5 (decide (i5 < (ilen a3)))))) := by kernel_rfl

theorem T_laws_eqRowS_lp0_eq (N : Nat) {R : Type} (a3 : List (Int × Int)) (b4 : List (Int × Int)) (K : Ex → St → Option R) : ∀ (n : Nat) (i5 : Int), T_laws_eqRowS_lp0_m N n (T_laws_eqRowS_lp0_sh a3 b4 i5) K = T_laws_eqRowS_lp0 N a3 b4 (K .ret (T_laws_eqRowS_lp0_e0 a3 b4)) (fun i7 t8 => (K (.exit 0) (T_laws_eqRowS_lp0_e1 a3 b4 i7 t8))) n i5
  | 0, _ => rfl
  | n + 1, i5 => by rw [T_laws_eqRowS_lp0_step, T_laws_eqRowS_lp0]; (try simp only [T_laws_eqRowS_lp0_eq N a3 b4 K n])

theorem T_laws_eqRowS_c1 (N : Nat) (a1 : List (Int × Int)) (b2 : List (Int × Int)) :
    ((ctxK (R := ODen (T_laws_eqRowS_sg N).ps × RDen (T_laws_eqRowS_sg N).rs) tab (T_laws_eqRowS_ctx N) T_laws_eqRowS_ann N (theCode Try.f15) [1, 1, 0, 1, 0] (retK tab (T_laws_eqRowS_sg N) Try.f15.results.toList some)) .ret (T_laws_eqRowS_lp0_e0 a1 b2)) =
    (some (α := ODen (T_laws_eqRowS_sg N).ps × RDen (T_laws_eqRowS_sg N).rs) ((), (false, ()))) := by kernel_rfl

theorem T_laws_eqRowS_c2 (N : Nat) (a1 : List (Int × Int)) (b2 : List (Int × Int)) (i10 : Int) (t11 : Bool) :
    ((ctxK (R := ODen (T_laws_eqRowS_sg N).ps × RDen (T_laws_eqRowS_sg N).rs) tab (T_laws_eqRowS_ctx N) T_laws_eqRowS_ann N (theCode Try.f15) [1, 1, 0, 1, 0] (retK tab (T_laws_eqRowS_sg N) Try.f15.results.toList some)) (.exit 0) (T_laws_eqRowS_lp0_e1 a1 b2 i10 t11)) =
    (some (α := ODen (T_laws_eqRowS_sg N).ps × RDen (T_laws_eqRowS_sg N).rs) ((), (true, ()))) := by kernel_rfl

theorem T_laws_eqRowS_den (N : Nat) (a1 : List (Int × Int)) (b2 : List (Int × Int)) :
    den (R := ODen (T_laws_eqRowS_sg N).ps × RDen (T_laws_eqRowS_sg N).rs) tab (T_laws_eqRowS_ctx N) T_laws_eqRowS_ann N (T_laws_eqRowS_sg N) Try.f15 (a1, b2, ()) some =
    (bif (ilen a1) != (ilen b2) then
    (some (α := ODen (T_laws_eqRowS_sg N).ps × RDen (T_laws_eqRowS_sg N).rs) ((), (false, ())))
    else
    (T_laws_eqRowS_lp0 N a1 b2
      (some (α := ODen (T_laws_eqRowS_sg N).ps × RDen (T_laws_eqRowS_sg N).rs) ((), (false, ())))
      (fun i10 t11 =>
        (some (α := ODen (T_laws_eqRowS_sg N).ps × RDen (T_laws_eqRowS_sg N).rs) ((), (true, ()))))
       N (0 : Int))) := by
  have h : den (R := ODen (T_laws_eqRowS_sg N).ps × RDen (T_laws_eqRowS_sg N).rs) tab (T_laws_eqRowS_ctx N) T_laws_eqRowS_ann N (T_laws_eqRowS_sg N) Try.f15 (a1, b2, ()) some =
    (bif (ilen a1) != (ilen b2) then
    (some (α := ODen (T_laws_eqRowS_sg N).ps × RDen (T_laws_eqRowS_sg N).rs) ((), (false, ())))
    else
    (T_laws_eqRowS_lp0_m N N (T_laws_eqRowS_lp0_sh a1 b2 (0 : Int)) (ctxK (R := ODen (T_laws_eqRowS_sg N).ps × RDen (T_laws_eqRowS_sg N).rs) tab (T_laws_eqRowS_ctx N) T_laws_eqRowS_ann N (theCode Try.f15) [1, 1, 0, 1, 0] (retK tab (T_laws_eqRowS_sg N) Try.f15.results.toList some)))) := by kernel_rfl
  rw [h]
  (try simp only [T_laws_eqRowS_lp0_eq, T_laws_eqRowS_c1, T_laws_eqRowS_c2]) <;> rfl

theorem T_laws_eqRowS_ok (N : Nat) : chkBody Try.f15 (T_laws_eqRowS_sg N).ps = true := by kernel_rfl

theorem T_laws_eqRowS_callable : Callable Try.prog 15 := callable_of Try.func15 (show chkFn Try.f15 = true by kernel_rfl)

theorem T_laws_eqRowS_good (N : Nat) : Good Try.prog 15 (T_laws_eqRowS_sg N) :=
  good_body mixedOk tabOk (ctx_cons (T_laws_eqRow_good N) T_laws_eqRow_callable ctx_nil) Try.func15 (T_laws_eqRowS_ok N) (fun d _ h => ⟨N, (T_laws_eqRowS_den N d.1 d.2.1).trans h⟩)

noncomputable def T_laws_markIntS_sg (N : Nat) : Sig := Sig.of [.mut (.int .i64), .v (.int .i64) false] [.v (.int .i64) false] (fun d => T_laws_markIntS N d.1 d.2.1)

def T_laws_markIntS_ann : Nat → List Ghost
  | 2 => [.canon [0, 1, 5, 9]]
  | 3 => [.canon [0, 1, 5]]
  | 4 => [.canon [0, 1, 5]]
  | 5 => [.canon [0, 1, 5]]
  | 100002 => [.canon [0, 1, 5]]
  | _ => []

noncomputable def T_laws_markIntS_ctx (N : Nat) : Ctx := []

def T_laws_markIntS_lp0_sh (k3 : Int) (i4 : Int) (l5 : List Int) : St := { env := [(0, .s (.one (.own 0))), (1, .s (.one (.val (.int .i64) (k3 : Int)))), (5, .s (.one (.val (.int .i64) (i4 : Int))))], objs := [(0, .arr (.int .i64) (l5 : List Int))], nx := 1 }

def T_laws_markIntS_lp0_e0 (k6 : Int) (i7 : Int) (t8 : Bool) (l9 : List Int) : St := { env := [(0, .s (.one (.own 0))), (1, .s (.one (.val (.int .i64) (k6 : Int)))), (5, .s (.one (.val (.int .i64) (i7 : Int)))), (9, .s (.one (.val (.bool) (t8 : Bool))))], objs := [(0, .arr (.int .i64) (l9 : List Int))], nx := 1 }

noncomputable def T_laws_markIntS_lp0_m (N : Nat) {R : Type} (n : Nat) (st : St) (K : Ex → St → Option R) : Option R := loopN (roundG (T_laws_markIntS_ann 100002) fun st k => sx tab (T_laws_markIntS_ctx N) T_laws_markIntS_ann N (nthLoop Try.f16 0) st k) n st K

theorem T_laws_markIntS_lp0_step (N : Nat) {R : Type} (n : Nat) (K : Ex → St → Option R) (k3 : Int) (i4 : Int) (l5 : List Int) :
    T_laws_markIntS_lp0_m N (n + 1) (T_laws_markIntS_lp0_sh k3 i4 l5) K =
    (bif decide (i4 < (ilen l5)) then
    (bif inb i4 (List.length l5) then
      (T_laws_markIntS_lp0_m N n (T_laws_markIntS_lp0_sh (iadd .i64 k3 (1 : Int)) (iadd .i64 i4 (1 : Int)) (List.set l5 (Int.toNat i4) k3)) K) else none)
    else
    (K (.exit 0) (T_laws_markIntS_lp0_e0 k3 i4 (decide (i4 < (ilen l5))) l5))) := by kernel_rfl

theorem T_laws_markIntS_lp0_eq (N : Nat) {R : Type} (K : Ex → St → Option R) : ∀ (n : Nat) (k3 : Int) (i4 : Int) (l5 : List Int), T_laws_markIntS_lp0_m N n (T_laws_markIntS_lp0_sh k3 i4 l5) K = T_laws_markIntS_lp0 N (fun k6 i7 t8 l9 => (K (.exit 0) (T_laws_markIntS_lp0_e0 k6 i7 t8 l9))) n k3 i4 l5
  | 0, _, _, _ => rfl
  | n + 1, k3, i4, l5 => by rw [T_laws_markIntS_lp0_step, T_laws_markIntS_lp0]; (try simp only [T_laws_markIntS_lp0_eq N K n])

theorem T_laws_markIntS_c1 (N : Nat) (k10 : Int) (i11 : Int) (t12 : Bool) (l13 : List Int) :
    ((ctxK (R := ODen (T_laws_markIntS_sg N).ps × RDen (T_laws_markIntS_sg N).rs) tab (T_laws_markIntS_ctx N) T_laws_markIntS_ann N (theCode Try.f16) [1, 0, 1, 0] (retK tab (T_laws_markIntS_sg N) Try.f16.results.toList some)) (.exit 0) (T_laws_markIntS_lp0_e0 k10 i11 t12 l13)) =
    (some (α := ODen (T_laws_markIntS_sg N).ps × RDen (T_laws_markIntS_sg N).rs) ((l13, ()), (k10, ()))) := by kernel_rfl

theorem T_laws_markIntS_den (N : Nat) (a1 : List Int) (k2 : Int) :
    den (R := ODen (T_laws_markIntS_sg N).ps × RDen (T_laws_markIntS_sg N).rs) tab (T_laws_markIntS_ctx N) T_laws_markIntS_ann N (T_laws_markIntS_sg N) Try.f16 (a1, k2, ()) some =
    (T_laws_markIntS_lp0 N
    (fun k10 i11 t12 l13 =>
      (some (α := ODen (T_laws_markIntS_sg N).ps × RDen (T_laws_markIntS_sg N).rs) ((l13, ()), (k10, ()))))
     N k2 (0 : Int) a1) := by
  have h : den (R := ODen (T_laws_markIntS_sg N).ps × RDen (T_laws_markIntS_sg N).rs) tab (T_laws_markIntS_ctx N) T_laws_markIntS_ann N (T_laws_markIntS_sg N) Try.f16 (a1, k2, ()) some =
    (T_laws_markIntS_lp0_m N N (T_laws_markIntS_lp0_sh k2 (0 : Int) a1) (ctxK (R := ODen (T_laws_markIntS_sg N).ps × RDen (T_laws_markIntS_sg N).rs) tab (T_laws_markIntS_ctx N) T_laws_markIntS_ann N (theCode Try.f16) [1, 0, 1, 0] (retK tab (T_laws_markIntS_sg N) Try.f16.results.toList some))) := by kernel_rfl
  rw [h]
  (try simp only [T_laws_markIntS_lp0_eq, T_laws_markIntS_c1]) <;> rfl

theorem T_laws_markIntS_ok (N : Nat) : chkBody Try.f16 (T_laws_markIntS_sg N).ps = true := by kernel_rfl

theorem T_laws_markIntS_callable : Callable Try.prog 16 := callable_of Try.func16 (show chkFn Try.f16 = true by kernel_rfl)

theorem T_laws_markIntS_good (N : Nat) : Good Try.prog 16 (T_laws_markIntS_sg N) :=
  good_body mixedOk tabOk ctx_nil Try.func16 (T_laws_markIntS_ok N) (fun d _ h => ⟨N, (T_laws_markIntS_den N d.1 d.2.1).trans h⟩)

noncomputable def T_laws_markRowS_sg (N : Nat) : Sig := Sig.of [.mut (.prod (.int .i64) (.int .i64)), .v (.int .i64) false] [.v (.int .i64) false] (fun d => T_laws_markRowS N d.1 d.2.1)

def T_laws_markRowS_ann : Nat → List Ghost
  | 2 => [.canon [0, 1, 5, 9]]
  | 3 => [.canon [0, 1, 5]]
  | 4 => [.canon [0, 1, 5]]
  | 5 => [.canon [0, 1, 5]]
  | 6 => [.canon [0, 1, 5]]
  | 7 => [.canon [0, 1, 5]]
  | 100002 => [.canon [0, 1, 5]]
  | _ => []

noncomputable def T_laws_markRowS_ctx (N : Nat) : Ctx := []

def T_laws_markRowS_lp0_sh (k3 : Int) (i4 : Int) (l5 : List (Int × Int)) : St := { env := [(0, .s (.one (.own 0))), (1, .s (.one (.val (.int .i64) (k3 : Int)))), (5, .s (.one (.val (.int .i64) (i4 : Int))))], objs := [(0, .arr (.prod (.int .i64) (.int .i64)) (l5 : List (Int × Int)))], nx := 1 }

def T_laws_markRowS_lp0_e0 (k6 : Int) (i7 : Int) (t8 : Bool) (l9 : List (Int × Int)) : St := { env := [(0, .s (.one (.own 0))), (1, .s (.one (.val (.int .i64) (k6 : Int)))), (5, .s (.one (.val (.int .i64) (i7 : Int)))), (9, .s (.one (.val (.bool) (t8 : Bool))))], objs := [(0, .arr (.prod (.int .i64) (.int .i64)) (l9 : List (Int × Int)))], nx := 1 }

noncomputable def T_laws_markRowS_lp0_m (N : Nat) {R : Type} (n : Nat) (st : St) (K : Ex → St → Option R) : Option R := loopN (roundG (T_laws_markRowS_ann 100002) fun st k => sx tab (T_laws_markRowS_ctx N) T_laws_markRowS_ann N (nthLoop Try.f17 0) st k) n st K

theorem T_laws_markRowS_lp0_step (N : Nat) {R : Type} (n : Nat) (K : Ex → St → Option R) (k3 : Int) (i4 : Int) (l5 : List (Int × Int)) :
    T_laws_markRowS_lp0_m N (n + 1) (T_laws_markRowS_lp0_sh k3 i4 l5) K =
    (bif decide (i4 < (ilen l5)) then
    (bif inb i4 (List.length l5) then
      (bif inb i4 (List.length (List.set l5 (Int.toNat i4) (k3, (List.getD l5 (Int.toNat i4) ((0 : Int), (0 : Int))).2))) then
        (T_laws_markRowS_lp0_m N n (T_laws_markRowS_lp0_sh (iadd .i64 (iadd .i64 k3 (1 : Int)) (1 : Int)) (iadd .i64 i4 (1 : Int)) (List.set (List.set l5 (Int.toNat i4) (k3, (List.getD l5 (Int.toNat i4) ((0 : Int), (0 : Int))).2)) (Int.toNat i4) ((List.getD (List.set l5 (Int.toNat i4) (k3, (List.getD l5 (Int.toNat i4) ((0 : Int), (0 : Int))).2)) (Int.toNat i4) ((0 : Int), (0 : Int))).1, iadd .i64 k3 (1 : Int)))) K) else none) else none)
    else
    (K (.exit 0) (T_laws_markRowS_lp0_e0 k3 i4 (decide (i4 < (ilen l5))) l5))) := by kernel_rfl

theorem T_laws_markRowS_lp0_eq (N : Nat) {R : Type} (K : Ex → St → Option R) : ∀ (n : Nat) (k3 : Int) (i4 : Int) (l5 : List (Int × Int)), T_laws_markRowS_lp0_m N n (T_laws_markRowS_lp0_sh k3 i4 l5) K = T_laws_markRowS_lp0 N (fun k6 i7 t8 l9 => (K (.exit 0) (T_laws_markRowS_lp0_e0 k6 i7 t8 l9))) n k3 i4 l5
  | 0, _, _, _ => rfl
  | n + 1, k3, i4, l5 => by rw [T_laws_markRowS_lp0_step, T_laws_markRowS_lp0]; (try simp only [T_laws_markRowS_lp0_eq N K n])

theorem T_laws_markRowS_c1 (N : Nat) (k10 : Int) (i11 : Int) (t12 : Bool) (l13 : List (Int × Int)) :
    ((ctxK (R := ODen (T_laws_markRowS_sg N).ps × RDen (T_laws_markRowS_sg N).rs) tab (T_laws_markRowS_ctx N) T_laws_markRowS_ann N (theCode Try.f17) [1, 0, 1, 0] (retK tab (T_laws_markRowS_sg N) Try.f17.results.toList some)) (.exit 0) (T_laws_markRowS_lp0_e0 k10 i11 t12 l13)) =
    (some (α := ODen (T_laws_markRowS_sg N).ps × RDen (T_laws_markRowS_sg N).rs) ((l13, ()), (k10, ()))) := by kernel_rfl

theorem T_laws_markRowS_den (N : Nat) (a1 : List (Int × Int)) (k2 : Int) :
    den (R := ODen (T_laws_markRowS_sg N).ps × RDen (T_laws_markRowS_sg N).rs) tab (T_laws_markRowS_ctx N) T_laws_markRowS_ann N (T_laws_markRowS_sg N) Try.f17 (a1, k2, ()) some =
    (T_laws_markRowS_lp0 N
    (fun k10 i11 t12 l13 =>
      (some (α := ODen (T_laws_markRowS_sg N).ps × RDen (T_laws_markRowS_sg N).rs) ((l13, ()), (k10, ()))))
     N k2 (0 : Int) a1) := by
  have h : den (R := ODen (T_laws_markRowS_sg N).ps × RDen (T_laws_markRowS_sg N).rs) tab (T_laws_markRowS_ctx N) T_laws_markRowS_ann N (T_laws_markRowS_sg N) Try.f17 (a1, k2, ()) some =
    (T_laws_markRowS_lp0_m N N (T_laws_markRowS_lp0_sh k2 (0 : Int) a1) (ctxK (R := ODen (T_laws_markRowS_sg N).ps × RDen (T_laws_markRowS_sg N).rs) tab (T_laws_markRowS_ctx N) T_laws_markRowS_ann N (theCode Try.f17) [1, 0, 1, 0] (retK tab (T_laws_markRowS_sg N) Try.f17.results.toList some))) := by kernel_rfl
  rw [h]
  (try simp only [T_laws_markRowS_lp0_eq, T_laws_markRowS_c1]) <;> rfl

theorem T_laws_markRowS_ok (N : Nat) : chkBody Try.f17 (T_laws_markRowS_sg N).ps = true := by kernel_rfl

theorem T_laws_markRowS_callable : Callable Try.prog 17 := callable_of Try.func17 (show chkFn Try.f17 = true by kernel_rfl)

theorem T_laws_markRowS_good (N : Nat) : Good Try.prog 17 (T_laws_markRowS_sg N) :=
  good_body mixedOk tabOk ctx_nil Try.func17 (T_laws_markRowS_ok N) (fun d _ h => ⟨N, (T_laws_markRowS_den N d.1 d.2.1).trans h⟩)

noncomputable def T_laws_heldIntS_sg (N : Nat) : Sig := Sig.of [.v (.slice (.int .i64)) false, .v (.int .i64) false] [.v (.int .i64) false] (fun d => T_laws_heldIntS N d.1 d.2.1)

def T_laws_heldIntS_ann : Nat → List Ghost
  | 2 => [.canon [0, 1, 5, 9]]
  | 3 => [.canon [0, 1, 5]]
  | 4 => [.canon [0, 1, 5, 17]]
  | 5 => [.canon [4]]
  | 6 => [.canon [0, 1, 5]]
  | 100002 => [.canon [0, 1, 5]]
  | _ => []

noncomputable def T_laws_heldIntS_ctx (N : Nat) : Ctx := []

def T_laws_heldIntS_lp0_sh (a3 : List Int) (k4 : Int) (i5 : Int) : St := { env := [(0, .s (.one (.val (.slice (.int .i64)) (a3 : List Int)))), (1, .s (.one (.val (.int .i64) (k4 : Int)))), (5, .s (.one (.val (.int .i64) (i5 : Int))))], objs := [], nx := 0 }

def T_laws_heldIntS_lp0_e0 (a3 : List Int) : St := { env := [(4, .s (.one (.val (.int .i64) ((-1 : Int) : Int))))], objs := [], nx := 0 }

def T_laws_heldIntS_lp0_e1 (a3 : List Int) (k6 : Int) (i7 : Int) (t8 : Bool) : St := { env := [(0, .s (.one (.val (.slice (.int .i64)) (a3 : List Int)))), (1, .s (.one (.val (.int .i64) (k6 : Int)))), (5, .s (.one (.val (.int .i64) (i7 : Int)))), (9, .s (.one (.val (.bool) (t8 : Bool))))], objs := [], nx := 0 }

noncomputable def T_laws_heldIntS_lp0_m (N : Nat) {R : Type} (n : Nat) (st : St) (K : Ex → St → Option R) : Option R := loopN (roundG (T_laws_heldIntS_ann 100002) fun st k => sx tab (T_laws_heldIntS_ctx N) T_laws_heldIntS_ann N (nthLoop Try.f18 0) st k) n st K

theorem T_laws_heldIntS_lp0_step (N : Nat) {R : Type} (n : Nat) (K : Ex → St → Option R) (a3 : List Int) (k4 : Int) (i5 : Int) :
    T_laws_heldIntS_lp0_m N (n + 1) (T_laws_heldIntS_lp0_sh a3 k4 i5) K =
    (bif decide (i5 < (ilen a3)) then
    (bif inb i5 (List.length a3) then
      (bif (List.getD a3 (Int.toNat i5) (0 : Int)) != k4 then
        (K .ret (T_laws_heldIntS_lp0_e0 a3))
        else
        (T_laws_heldIntS_lp0_m N n (T_laws_heldIntS_lp0_sh a3 (iadd .i64 k4 (1 : Int)) (iadd .i64 i5 (1 : Int))) K)) else none)
    else
    (K (.exit 0) (T_laws_heldIntS_lp0_e1 a3 k4 i5 (decide (i5 < (ilen a3)))))) := by kernel_rfl

theorem T_laws_heldIntS_lp0_eq (N : Nat) {R : Type} (a3 : List Int) (K : Ex → St → Option R) : ∀ (n : Nat) (k4 : Int) (i5 : Int), T_laws_heldIntS_lp0_m N n (T_laws_heldIntS_lp0_sh a3 k4 i5) K = T_laws_heldIntS_lp0 N a3 (K .ret (T_laws_heldIntS_lp0_e0 a3)) (fun k6 i7 t8 => (K (.exit 0) (T_laws_heldIntS_lp0_e1 a3 k6 i7 t8))) n k4 i5
  | 0, _, _ => rfl
  | n + 1, k4, i5 => by rw [T_laws_heldIntS_lp0_step, T_laws_heldIntS_lp0]; (try simp only [T_laws_heldIntS_lp0_eq N a3 K n])

theorem T_laws_heldIntS_c1 (N : Nat) (a1 : List Int) :
    ((ctxK (R := ODen (T_laws_heldIntS_sg N).ps × RDen (T_laws_heldIntS_sg N).rs) tab (T_laws_heldIntS_ctx N) T_laws_heldIntS_ann N (theCode Try.f18) [1, 0, 1, 0] (retK tab (T_laws_heldIntS_sg N) Try.f18.results.toList some)) .ret (T_laws_heldIntS_lp0_e0 a1)) =
    (some (α := ODen (T_laws_heldIntS_sg N).ps × RDen (T_laws_heldIntS_sg N).rs) ((), ((-1 : Int), ()))) := by kernel_rfl

theorem T_laws_heldIntS_c2 (N : Nat) (a1 : List Int) (k9 : Int) (i10 : Int) (t11 : Bool) :
    ((ctxK (R := ODen (T_laws_heldIntS_sg N).ps × RDen (T_laws_heldIntS_sg N).rs) tab (T_laws_heldIntS_ctx N) T_laws_heldIntS_ann N (theCode Try.f18) [1, 0, 1, 0] (retK tab (T_laws_heldIntS_sg N) Try.f18.results.toList some)) (.exit 0) (T_laws_heldIntS_lp0_e1 a1 k9 i10 t11)) =
    (some (α := ODen (T_laws_heldIntS_sg N).ps × RDen (T_laws_heldIntS_sg N).rs) ((), (k9, ()))) := by kernel_rfl

theorem T_laws_heldIntS_den (N : Nat) (a1 : List Int) (k2 : Int) :
    den (R := ODen (T_laws_heldIntS_sg N).ps × RDen (T_laws_heldIntS_sg N).rs) tab (T_laws_heldIntS_ctx N) T_laws_heldIntS_ann N (T_laws_heldIntS_sg N) Try.f18 (a1, k2, ()) some =
    (T_laws_heldIntS_lp0 N a1
    (some (α := ODen (T_laws_heldIntS_sg N).ps × RDen (T_laws_heldIntS_sg N).rs) ((), ((-1 : Int), ())))
    (fun k9 i10 t11 =>
      (some (α := ODen (T_laws_heldIntS_sg N).ps × RDen (T_laws_heldIntS_sg N).rs) ((), (k9, ()))))
     N k2 (0 : Int)) := by
  have h : den (R := ODen (T_laws_heldIntS_sg N).ps × RDen (T_laws_heldIntS_sg N).rs) tab (T_laws_heldIntS_ctx N) T_laws_heldIntS_ann N (T_laws_heldIntS_sg N) Try.f18 (a1, k2, ()) some =
    (T_laws_heldIntS_lp0_m N N (T_laws_heldIntS_lp0_sh a1 k2 (0 : Int)) (ctxK (R := ODen (T_laws_heldIntS_sg N).ps × RDen (T_laws_heldIntS_sg N).rs) tab (T_laws_heldIntS_ctx N) T_laws_heldIntS_ann N (theCode Try.f18) [1, 0, 1, 0] (retK tab (T_laws_heldIntS_sg N) Try.f18.results.toList some))) := by kernel_rfl
  rw [h]
  (try simp only [T_laws_heldIntS_lp0_eq, T_laws_heldIntS_c1, T_laws_heldIntS_c2]) <;> rfl

theorem T_laws_heldIntS_ok (N : Nat) : chkBody Try.f18 (T_laws_heldIntS_sg N).ps = true := by kernel_rfl

theorem T_laws_heldIntS_callable : Callable Try.prog 18 := callable_of Try.func18 (show chkFn Try.f18 = true by kernel_rfl)

theorem T_laws_heldIntS_good (N : Nat) : Good Try.prog 18 (T_laws_heldIntS_sg N) :=
  good_body mixedOk tabOk ctx_nil Try.func18 (T_laws_heldIntS_ok N) (fun d _ h => ⟨N, (T_laws_heldIntS_den N d.1 d.2.1).trans h⟩)

noncomputable def T_laws_heldRowS_sg (N : Nat) : Sig := Sig.of [.v (.slice (.prod (.int .i64) (.int .i64))) false, .v (.int .i64) false] [.v (.int .i64) false] (fun d => T_laws_heldRowS N d.1 d.2.1)

def T_laws_heldRowS_ann : Nat → List Ghost
  | 2 => [.canon [0, 1, 5, 9]]
  | 3 => [.canon [0, 1, 5]]
  | 4 => [.canon [0, 1, 5, 18]]
  | 5 => [.canon [4]]
  | 6 => [.canon [0, 1, 5]]
  | 7 => [.canon [0, 1, 5, 27]]
  | 8 => [.canon [4]]
  | 9 => [.canon [0, 1, 5]]
  | 100002 => [.canon [0, 1, 5]]
  | _ => []

noncomputable def T_laws_heldRowS_ctx (N : Nat) : Ctx := []

def T_laws_heldRowS_lp0_sh (a3 : List (Int × Int)) (k4 : Int) (i5 : Int) : St := { env := [(0, .s (.one (.val (.slice (.prod (.int .i64) (.int .i64))) (a3 : List (Int × Int))))), (1, .s (.one (.val (.int .i64) (k4 : Int)))), (5, .s (.one (.val (.int .i64) (i5 : Int))))], objs := [], nx := 0 }

def T_laws_heldRowS_lp0_e0 (a3 : List (Int × Int)) : St := { env := [(4, .s (.one (.val (.int .i64) ((-1 : Int) : Int))))], objs := [], nx := 0 }

def T_laws_heldRowS_lp0_e1 (a3 : List (Int × Int)) (k6 : Int) (i7 : Int) (t8 : Bool) : St := { env := [(0, .s (.one (.val (.slice (.prod (.int .i64) (.int .i64))) (a3 : List (Int × Int))))), (1, .s (.one (.val (.int .i64) (k6 : Int)))), (5, .s (.one (.val (.int .i64) (i7 : Int)))), (9, .s (.one (.val (.bool) (t8 : Bool))))], objs := [], nx := 0 }

noncomputable def T_laws_heldRowS_lp0_m (N : Nat) {R : Type} (n : Nat) (st : St) (K : Ex → St → Option R) : Option R := loopN (roundG (T_laws_heldRowS_ann 100002) fun st k => sx tab (T_laws_heldRowS_ctx N) T_laws_heldRowS_ann N (nthLoop Try.f21 0) st k) n st K

theorem T_laws_heldRowS_lp0_step (N : Nat) {R : Type} (n : Nat) (K : Ex → St → Option R) (a3 : List (Int × Int)) (k4 : Int) (i5 : Int) :
    T_laws_heldRowS_lp0_m N (n + 1) (T_laws_heldRowS_lp0_sh a3 k4 i5) K =
    (bif decide (i5 < (ilen a3)) then
    (bif inb i5 (List.length a3) then
      (bif (List.getD a3 (Int.toNat i5) ((0 : Int), (0 : Int))).1 != k4 then
        (K .ret (T_laws_heldRowS_lp0_e0 a3))
        else
        (bif inb i5 (List.length a3) then
          (bif (List.getD a3 (Int.toNat i5) ((0 : Int), (0 : Int))).2 != (iadd .i64 k4 (1 : Int)) then
            (K .ret (T_laws_heldRowS_lp0_e0 a3))
            else
            (T_laws_heldRowS_lp0_m N n (T_laws_heldRowS_lp0_sh a3 (iadd .i64 (iadd .i64 k4 (1 : Int)) (1 : Int)) (iadd .i64 i5 (1 : Int))) K)) else none)) else none)
    else
    (K (.exit 0) (T_laws_heldRowS_lp0_e1 a3 k4 i5 (decide (i5 < (ilen a3)))))) := by kernel_rfl

theorem T_laws_heldRowS_lp0_eq (N : Nat) {R : Type} (a3 : List (Int × Int)) (K : Ex → St → Option R) : ∀ (n : Nat) (k4 : Int) (i5 : Int), T_laws_heldRowS_lp0_m N n (T_laws_heldRowS_lp0_sh a3 k4 i5) K = T_laws_heldRowS_lp0 N a3 (K .ret (T_laws_heldRowS_lp0_e0 a3)) (fun k6 i7 t8 => (K (.exit 0) (T_laws_heldRowS_lp0_e1 a3 k6 i7 t8))) n k4 i5
  | 0, _, _ => rfl
  | n + 1, k4, i5 => by rw [T_laws_heldRowS_lp0_step, T_laws_heldRowS_lp0]; (try simp only [T_laws_heldRowS_lp0_eq N a3 K n])

theorem T_laws_heldRowS_c1 (N : Nat) (a1 : List (Int × Int)) :
    ((ctxK (R := ODen (T_laws_heldRowS_sg N).ps × RDen (T_laws_heldRowS_sg N).rs) tab (T_laws_heldRowS_ctx N) T_laws_heldRowS_ann N (theCode Try.f21) [1, 0, 1, 0] (retK tab (T_laws_heldRowS_sg N) Try.f21.results.toList some)) .ret (T_laws_heldRowS_lp0_e0 a1)) =
    (some (α := ODen (T_laws_heldRowS_sg N).ps × RDen (T_laws_heldRowS_sg N).rs) ((), ((-1 : Int), ()))) := by kernel_rfl

theorem T_laws_heldRowS_c2 (N : Nat) (a1 : List (Int × Int)) (k9 : Int) (i10 : Int) (t11 : Bool) :
    ((ctxK (R := ODen (T_laws_heldRowS_sg N).ps × RDen (T_laws_heldRowS_sg N).rs) tab (T_laws_heldRowS_ctx N) T_laws_heldRowS_ann N (theCode Try.f21) [1, 0, 1, 0] (retK tab (T_laws_heldRowS_sg N) Try.f21.results.toList some)) (.exit 0) (T_laws_heldRowS_lp0_e1 a1 k9 i10 t11)) =
    (some (α := ODen (T_laws_heldRowS_sg N).ps × RDen (T_laws_heldRowS_sg N).rs) ((), (k9, ()))) := by kernel_rfl

theorem T_laws_heldRowS_den (N : Nat) (a1 : List (Int × Int)) (k2 : Int) :
    den (R := ODen (T_laws_heldRowS_sg N).ps × RDen (T_laws_heldRowS_sg N).rs) tab (T_laws_heldRowS_ctx N) T_laws_heldRowS_ann N (T_laws_heldRowS_sg N) Try.f21 (a1, k2, ()) some =
    (T_laws_heldRowS_lp0 N a1
    (some (α := ODen (T_laws_heldRowS_sg N).ps × RDen (T_laws_heldRowS_sg N).rs) ((), ((-1 : Int), ())))
    (fun k9 i10 t11 =>
      (some (α := ODen (T_laws_heldRowS_sg N).ps × RDen (T_laws_heldRowS_sg N).rs) ((), (k9, ()))))
     N k2 (0 : Int)) := by
  have h : den (R := ODen (T_laws_heldRowS_sg N).ps × RDen (T_laws_heldRowS_sg N).rs) tab (T_laws_heldRowS_ctx N) T_laws_heldRowS_ann N (T_laws_heldRowS_sg N) Try.f21 (a1, k2, ()) some =
    (T_laws_heldRowS_lp0_m N N (T_laws_heldRowS_lp0_sh a1 k2 (0 : Int)) (ctxK (R := ODen (T_laws_heldRowS_sg N).ps × RDen (T_laws_heldRowS_sg N).rs) tab (T_laws_heldRowS_ctx N) T_laws_heldRowS_ann N (theCode Try.f21) [1, 0, 1, 0] (retK tab (T_laws_heldRowS_sg N) Try.f21.results.toList some))) := by kernel_rfl
  rw [h]
  (try simp only [T_laws_heldRowS_lp0_eq, T_laws_heldRowS_c1, T_laws_heldRowS_c2]) <;> rfl

theorem T_laws_heldRowS_ok (N : Nat) : chkBody Try.f21 (T_laws_heldRowS_sg N).ps = true := by kernel_rfl

theorem T_laws_heldRowS_callable : Callable Try.prog 21 := callable_of Try.func21 (show chkFn Try.f21 = true by kernel_rfl)

theorem T_laws_heldRowS_good (N : Nat) : Good Try.prog 21 (T_laws_heldRowS_sg N) :=
  good_body mixedOk tabOk ctx_nil Try.func21 (T_laws_heldRowS_ok N) (fun d _ h => ⟨N, (T_laws_heldRowS_den N d.1 d.2.1).trans h⟩)

noncomputable def T_laws_FnExactEagerCut_sg (N : Nat) : Sig := Sig.of [.v (.slice (.int .i64)) false, .v (.slice (.prod (.int .i64) (.int .i64))) false, .v (.int .i64) false] [.v (.bool) false] (fun d => T_laws_FnExactEagerCut N d.1 d.2.1 d.2.2.1)

def T_laws_FnExactEagerCut_ann : Nat → List Ghost
  | _ => []

noncomputable def T_laws_FnExactEagerCut_ctx (N : Nat) : Ctx := [(9, T_laws_szRowS_sg N), (11, T_laws_toIntS_sg N), (12, T_laws_toRowS_sg N), (19, T_spec_EagerCut_sg N), (20, T_impl_EagerCut_sg N), (14, T_laws_eqIntS_sg N), (15, T_laws_eqRowS_sg N), (16, T_laws_markIntS_sg N), (17, T_laws_markRowS_sg N), (18, T_laws_heldIntS_sg N), (21, T_laws_heldRowS_sg N)]

theorem T_laws_FnExactEagerCut_den (N : Nat) (aCells1 : List Int) (aLog2 : List (Int × Int)) (aN3 : Int) :
    den (R := ODen (T_laws_FnExactEagerCut_sg N).ps × RDen (T_laws_FnExactEagerCut_sg N).rs) tab (T_laws_FnExactEagerCut_ctx N) T_laws_FnExactEagerCut_ann N (T_laws_FnExactEagerCut_sg N) Try.f4 (aCells1, aLog2, aN3, ()) some =
    (bif decide ((ilen aCells1) > (1048576 : Int)) then
    (some (α := ODen (T_laws_FnExactEagerCut_sg N).ps × RDen (T_laws_FnExactEagerCut_sg N).rs) ((), (true, ())))
    else
    ((T_laws_szRowS N aLog2 (1048576 : Int)).bind fun o4 =>
      (bif decide (o4.2.1 < (0 : Int)) then
        (some (α := ODen (T_laws_FnExactEagerCut_sg N).ps × RDen (T_laws_FnExactEagerCut_sg N).rs) ((), (true, ())))
        else
        ((T_laws_toIntS N aCells1).bind fun o5 =>
          ((T_laws_toRowS N aLog2).bind fun o6 =>
            ((T_spec_EagerCut N o5.2.1 o6.2.1 aN3).bind fun o7 =>
              ((T_laws_toIntS N aCells1).bind fun o8 =>
                ((T_laws_toRowS N aLog2).bind fun o9 =>
                  ((T_impl_EagerCut N o8.2.1 o9.2.1 aN3).bind fun o10 =>
                    ((T_laws_eqIntS N o10.2.1 o7.2.1).bind fun o11 =>
                      (bif !o11.2.1 then
                        (some (α := ODen (T_laws_FnExactEagerCut_sg N).ps × RDen (T_laws_FnExactEagerCut_sg N).rs) ((), (false, ())))
                        else
                        ((T_laws_eqRowS N o10.2.2.1 o7.2.2.1).bind fun o12 =>
                          (bif !o12.2.1 then
                            (some (α := ODen (T_laws_FnExactEagerCut_sg N).ps × RDen (T_laws_FnExactEagerCut_sg N).rs) ((), (false, ())))
                            else
                            ((T_laws_toIntS N aCells1).bind fun o13 =>
                              ((T_laws_eqIntS N o8.2.1 o13.2.1).bind fun o14 =>
                                (bif !o14.2.1 then
                                  (some (α := ODen (T_laws_FnExactEagerCut_sg N).ps × RDen (T_laws_FnExactEagerCut_sg N).rs) ((), (false, ())))
                                  else
                                  ((T_laws_toRowS N aLog2).bind fun o15 =>
                                    ((T_laws_eqRowS N o9.2.1 o15.2.1).bind fun o16 =>
                                      (bif !o16.2.1 then
                                        (some (α := ODen (T_laws_FnExactEagerCut_sg N).ps × RDen (T_laws_FnExactEagerCut_sg N).rs) ((), (false, ())))
                                        else
                                        ((T_laws_markIntS N o8.2.1 (1 : Int)).bind fun o17 =>
                                          ((T_laws_markRowS N o9.2.1 o17.2.1).bind fun o18 =>
                                            (bif decide (o18.2.1 < (0 : Int)) then
                                              (some (α := ODen (T_laws_FnExactEagerCut_sg N).ps × RDen (T_laws_FnExactEagerCut_sg N).rs) ((), (false, ())))
                                              else
                                              ((T_laws_eqIntS N o10.2.1 o7.2.1).bind fun o19 =>
                                                (bif !o19.2.1 then
                                                  (some (α := ODen (T_laws_FnExactEagerCut_sg N).ps × RDen (T_laws_FnExactEagerCut_sg N).rs) ((), (false, ())))
                                                  else
                                                  ((T_laws_eqRowS N o10.2.2.1 o7.2.2.1).bind fun o20 =>
                                                    (bif !o20.2.1 then
                                                      (some (α := ODen (T_laws_FnExactEagerCut_sg N).ps × RDen (T_laws_FnExactEagerCut_sg N).rs) ((), (false, ())))
                                                      else
                                                      ((T_laws_markIntS N o10.2.1 (1 : Int)).bind fun o21 =>
                                                        ((T_laws_markRowS N o10.2.2.1 o21.2.1).bind fun o22 =>
                                                          ((T_laws_heldIntS N o21.1.1 (1 : Int)).bind fun o23 =>
                                                            (bif decide (o23.2.1 < (0 : Int)) then
                                                              (some (α := ODen (T_laws_FnExactEagerCut_sg N).ps × RDen (T_laws_FnExactEagerCut_sg N).rs) ((), (false, ())))
                                                              else
                                                              ((T_laws_heldRowS N o22.1.1 o23.2.1).bind fun o24 =>
                                                                (bif decide (o24.2.1 < (0 : Int)) then
                                                                  (some (α := ODen (T_laws_FnExactEagerCut_sg N).ps × RDen (T_laws_FnExactEagerCut_sg N).rs) ((), (false, ())))
                                                                  else
                                                                  (bif o24.2.1 != o22.2.1 then
                                                                    (some (α := ODen (T_laws_FnExactEagerCut_sg N).ps × RDen (T_laws_FnExactEagerCut_sg N).rs) ((), (false, ())))
                                                                    else
                                                                    ((T_laws_toIntS N aCells1).bind fun o25 =>
                                                                      ((T_laws_toRowS N aLog2).bind fun o26 =>
                                                                        ((T_impl_EagerCut N o25.2.1 o26.2.1 aN3).bind fun o27 =>
                                                                          ((T_laws_eqIntS N o27.2.1 o7.2.1).bind fun o28 =>
                                                                            (bif !o28.2.1 then
                                                                              (some (α := ODen (T_laws_FnExactEagerCut_sg N).ps × RDen (T_laws_FnExactEagerCut_sg N).rs) ((), (false, ())))
                                                                              else
                                                                              ((T_laws_eqRowS N o27.2.2.1 o7.2.2.1).bind fun o29 =>
                                                                                (bif !o29.2.1 then
                                                                                  (some (α := ODen (T_laws_FnExactEagerCut_sg N).ps × RDen (T_laws_FnExactEagerCut_sg N).rs) ((), (false, ())))
                                                                                  else
                                                                                  ((T_laws_heldIntS N o21.1.1 (1 : Int)).bind fun o30 =>
                                                                                    (bif decide (o30.2.1 < (0 : Int)) then
                                                                                      (some (α := ODen (T_laws_FnExactEagerCut_sg N).ps × RDen (T_laws_FnExactEagerCut_sg N).rs) ((), (false, ())))
                                                                                      else
                                                                                      ((T_laws_heldRowS N o22.1.1 o30.2.1).bind fun o31 =>
                                                                                        (bif decide (o31.2.1 < (0 : Int)) then
                                                                                          (some (α := ODen (T_laws_FnExactEagerCut_sg N).ps × RDen (T_laws_FnExactEagerCut_sg N).rs) ((), (false, ())))
                                                                                          else
                                                                                          (bif o31.2.1 != o22.2.1 then
                                                                                            (some (α := ODen (T_laws_FnExactEagerCut_sg N).ps × RDen (T_laws_FnExactEagerCut_sg N).rs) ((), (false, ())))
                                                                                            else
                                                                                            (some (α := ODen (T_laws_FnExactEagerCut_sg N).ps × RDen (T_laws_FnExactEagerCut_sg N).rs) ((), (true, ())))))))))))))))))))))))))))))))))))))))))))))))) := by kernel_rfl

theorem T_laws_FnExactEagerCut_ok (N : Nat) : chkBody Try.f4 (T_laws_FnExactEagerCut_sg N).ps = true := by kernel_rfl

theorem T_laws_FnExactEagerCut_callable : Callable Try.prog 4 := callable_of Try.func4 (show chkFn Try.f4 = true by kernel_rfl)

theorem T_laws_FnExactEagerCut_good (N : Nat) : Good Try.prog 4 (T_laws_FnExactEagerCut_sg N) :=
  good_body mixedOk tabOk (ctx_cons (T_laws_szRowS_good N) T_laws_szRowS_callable (ctx_cons (T_laws_toIntS_good N) T_laws_toIntS_callable (ctx_cons (T_laws_toRowS_good N) T_laws_toRowS_callable (ctx_cons (T_spec_EagerCut_good N) T_spec_EagerCut_callable (ctx_cons (T_impl_EagerCut_good N) T_impl_EagerCut_callable (ctx_cons (T_laws_eqIntS_good N) T_laws_eqIntS_callable (ctx_cons (T_laws_eqRowS_good N) T_laws_eqRowS_callable (ctx_cons (T_laws_markIntS_good N) T_laws_markIntS_callable (ctx_cons (T_laws_markRowS_good N) T_laws_markRowS_callable (ctx_cons (T_laws_heldIntS_good N) T_laws_heldIntS_callable (ctx_cons (T_laws_heldRowS_good N) T_laws_heldRowS_callable ctx_nil))))))))))) Try.func4 (T_laws_FnExactEagerCut_ok N) (fun d _ h => ⟨N, (T_laws_FnExactEagerCut_den N d.1 d.2.1 d.2.2.1).trans h⟩)

end Go.Sx
