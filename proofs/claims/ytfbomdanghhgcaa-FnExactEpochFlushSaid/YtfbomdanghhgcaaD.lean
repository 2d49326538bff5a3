/- Each Go function does what its Lean function says. -/
import Derived.Test.YtfbomdanghhgcaaT
import Derived.Test.YtfbomdanghhgcaaProg
namespace Go.Sx
open Go.Proofs
set_option linter.unusedVariables false
set_option linter.unusedSimpArgs false

def tab : Tab := [(3, ⟨.int .i64, false, .basic⟩), (4, ⟨.bool, false, .basic⟩), (24, ⟨.slice (.prod (.int .i64) (.prod (.int .i64) (.int .i64))), false, .slice 86⟩), (26, ⟨.slice (.int .i64), false, .slice 3⟩), (27, ⟨.slice (.bool), false, .slice 4⟩), (28, ⟨.slice (.prod (.int .i64) (.int .i64)), false, .slice 92⟩), (29, ⟨.slice (.prod (.int .i64) (.int .i64)), false, .slice 89⟩), (31, ⟨.prod (.int .i64) (.prod (.slice (.int .i64)) (.prod (.slice (.bool)) (.prod (.slice (.prod (.int .i64) (.int .i64))) (.prod (.slice (.prod (.int .i64) (.int .i64))) (.slice (.int .i64)))))), true, .struct [(0, 3), (1, 26), (2, 27), (3, 28), (4, 29), (5, 26)]⟩), (34, ⟨.slice (.prod (.int .i64) (.prod (.int .i64) (.int .i64))), false, .slice 100⟩), (86, ⟨.prod (.int .i64) (.prod (.int .i64) (.int .i64)), true, .struct [(0, 3), (1, 3), (2, 3)]⟩), (89, ⟨.prod (.int .i64) (.int .i64), true, .struct [(0, 3), (1, 3)]⟩), (92, ⟨.prod (.int .i64) (.int .i64), true, .struct [(0, 3), (1, 3)]⟩), (100, ⟨.prod (.int .i64) (.prod (.int .i64) (.int .i64)), true, .struct [(0, 3), (1, 3), (2, 3)]⟩)]

theorem mixedOk : Try.prog.follows .mixedOrders = true := by kernel_rfl

theorem tabOk : TabOk Try.prog tab := tab_ok (show chkTab Try.prog tab tab = true by kernel_rfl)

noncomputable def T_laws_szEpActS_sg (N : Nat) : Sig := Sig.of [.v (.slice (.prod (.int .i64) (.prod (.int .i64) (.int .i64)))) false, .v (.int .i64) false] [.v (.int .i64) false] (fun d => T_laws_szEpActS N d.1 d.2.1)

def T_laws_szEpActS_ann : Nat → List Ghost
  | _ => []

noncomputable def T_laws_szEpActS_ctx (N : Nat) : Ctx := []

theorem T_laws_szEpActS_den (N : Nat) (a1 : List (Int × Int × Int)) (left2 : Int) :
    den (R := ODen (T_laws_szEpActS_sg N).ps × RDen (T_laws_szEpActS_sg N).rs) tab (T_laws_szEpActS_ctx N) T_laws_szEpActS_ann N (T_laws_szEpActS_sg N) Try.f17 (a1, left2, ()) some =
    (bif decide ((isub .i64 left2 (ilen a1)) < (0 : Int)) then
    (some (α := ODen (T_laws_szEpActS_sg N).ps × RDen (T_laws_szEpActS_sg N).rs) ((), ((-1 : Int), ())))
    else
    (some (α := ODen (T_laws_szEpActS_sg N).ps × RDen (T_laws_szEpActS_sg N).rs) ((), (isub .i64 left2 (ilen a1), ())))) := by kernel_rfl

theorem T_laws_szEpActS_ok (N : Nat) : chkBody Try.f17 (T_laws_szEpActS_sg N).ps = true := by kernel_rfl

theorem T_laws_szEpActS_callable : Callable Try.prog 17 := callable_of Try.func17 (show chkFn Try.f17 = true by kernel_rfl)

theorem T_laws_szEpActS_good (N : Nat) : Good Try.prog 17 (T_laws_szEpActS_sg N) :=
  good_body mixedOk tabOk ctx_nil Try.func17 (T_laws_szEpActS_ok N) (fun d _ h => ⟨N, (T_laws_szEpActS_den N d.1 d.2.1).trans h⟩)

noncomputable def T_laws_toEpAct_sg (N : Nat) : Sig := Sig.of [.v (.prod (.int .i64) (.prod (.int .i64) (.int .i64))) true] [.v (.prod (.int .i64) (.prod (.int .i64) (.int .i64))) true] (fun d => T_laws_toEpAct N d.1)

def T_laws_toEpAct_ann : Nat → List Ghost
  | _ => []

noncomputable def T_laws_toEpAct_ctx (N : Nat) : Ctx := []

theorem T_laws_toEpAct_den (N : Nat) (a1 : Int × Int × Int) :
    den (R := ODen (T_laws_toEpAct_sg N).ps × RDen (T_laws_toEpAct_sg N).rs) tab (T_laws_toEpAct_ctx N) T_laws_toEpAct_ann N (T_laws_toEpAct_sg N) Try.f65 (a1, ()) some =
    (some (α := ODen (T_laws_toEpAct_sg N).ps × RDen (T_laws_toEpAct_sg N).rs) ((), (a1, ()))) := by kernel_rfl

theorem T_laws_toEpAct_ok (N : Nat) : chkBody Try.f65 (T_laws_toEpAct_sg N).ps = true := by kernel_rfl

theorem T_laws_toEpAct_callable : Callable Try.prog 65 := callable_of Try.func65 (show chkFn Try.f65 = true by kernel_rfl)

theorem T_laws_toEpAct_good (N : Nat) : Good Try.prog 65 (T_laws_toEpAct_sg N) :=
  good_body mixedOk tabOk ctx_nil Try.func65 (T_laws_toEpAct_ok N) (fun d _ h => ⟨N, (T_laws_toEpAct_den N d.1).trans h⟩)

noncomputable def T_laws_toEpActS_sg (N : Nat) : Sig := Sig.of [.v (.slice (.prod (.int .i64) (.prod (.int .i64) (.int .i64)))) false] [.v (.own (.prod (.int .i64) (.prod (.int .i64) (.int .i64)))) false] (fun d => T_laws_toEpActS N d.1)

def T_laws_toEpActS_ann : Nat → List Ghost
  | 3 => [.canon [0, 3, 4, 11]]
  | 4 => [.canon [0, 3, 4]]
  | 5 => [.canon [0, 3, 4]]
  | 100003 => [.canon [0, 3, 4]]
  | _ => []

noncomputable def T_laws_toEpActS_ctx (N : Nat) : Ctx := [(65, T_laws_toEpAct_sg N)]

def T_laws_toEpActS_lp0_sh (a2 : List (Int × Int × Int)) (i3 : Int) (l4 : List (Int × Int × Int)) : St := { env := [(0, .s (.one (.val (.slice (.prod (.int .i64) (.prod (.int .i64) (.int .i64)))) (a2 : List (Int × Int × Int))))), (3, .s (.one (.own 0))), (4, .s (.one (.val (.int .i64) (i3 : Int))))], objs := [(0, .arr (.prod (.int .i64) (.prod (.int .i64) (.int .i64))) (l4 : List (Int × Int × Int)))], nx := 1 }

def T_laws_toEpActS_lp0_e0 (a2 : List (Int × Int × Int)) (i6 : Int) (t7 : Bool) (l8 : List (Int × Int × Int)) : St := { env := [(0, .s (.one (.val (.slice (.prod (.int .i64) (.prod (.int .i64) (.int .i64)))) (a2 : List (Int × Int × Int))))), (3, .s (.one (.own 0))), (4, .s (.one (.val (.int .i64) (i6 : Int)))), (11, .s (.one (.val (.bool) (t7 : Bool))))], objs := [(0, .arr (.prod (.int .i64) (.prod (.int .i64) (.int .i64))) (l8 : List (Int × Int × Int)))], nx := 1 }

noncomputable def T_laws_toEpActS_lp0_m (N : Nat) {R : Type} (n : Nat) (st : St) (K : Ex → St → Option R) : Option R := loopN (roundG (T_laws_toEpActS_ann 100003) fun st k => sx tab (T_laws_toEpActS_ctx N) T_laws_toEpActS_ann N (nthLoop Try.f19 0) st k) n st K

theorem T_laws_toEpActS_lp0_step (N : Nat) {R : Type} (n : Nat) (K : Ex → St → Option R) (a2 : List (Int × Int × Int)) (i3 : Int) (l4 : List (Int × Int × Int)) :
    T_laws_toEpActS_lp0_m N (n + 1) (T_laws_toEpActS_lp0_sh a2 i3 l4) K =
    (bif decide (i3 < (ilen a2)) then
    (bif inb i3 (List.length a2) then
      ((T_laws_toEpAct N (List.getD a2 (Int.toNat i3) ((0 : Int), ((0 : Int), (0 : Int))))).bind fun o9 =>
        (bif inb i3 (List.length l4) then
          (T_laws_toEpActS_lp0_m N n (T_laws_toEpActS_lp0_sh a2 (iadd .i64 i3 (1 : Int)) (List.set l4 (Int.toNat i3) o9.2.1)) K) else none)) else none)
    else
    (K (.exit 0) (T_laws_toEpActS_lp0_e0 a2 i3 (decide (i3 < (ilen a2))) l4))) := by kernel_rfl

theorem T_laws_toEpActS_lp0_eq (N : Nat) {R : Type} (a2 : List (Int × Int × Int)) (K : Ex → St → Option R) : ∀ (n : Nat) (i3 : Int) (l4 : List (Int × Int × Int)), T_laws_toEpActS_lp0_m N n (T_laws_toEpActS_lp0_sh a2 i3 l4) K = T_laws_toEpActS_lp0 N a2 (fun i6 t7 l8 => (K (.exit 0) (T_laws_toEpActS_lp0_e0 a2 i6 t7 l8))) n i3 l4
  | 0, _, _ => rfl
  | n + 1, i3, l4 => by rw [T_laws_toEpActS_lp0_step, T_laws_toEpActS_lp0]; (try simp only [T_laws_toEpActS_lp0_eq N a2 K n])

theorem T_laws_toEpActS_c1 (N : Nat) (a1 : List (Int × Int × Int)) (i10 : Int) (t11 : Bool) (l12 : List (Int × Int × Int)) :
    ((ctxK (R := ODen (T_laws_toEpActS_sg N).ps × RDen (T_laws_toEpActS_sg N).rs) tab (T_laws_toEpActS_ctx N) T_laws_toEpActS_ann N (theCode Try.f19) [1, 1, 0, 1, 0] (retK tab (T_laws_toEpActS_sg N) Try.f19.results.toList some)) (.exit 0) (T_laws_toEpActS_lp0_e0 a1 i10 t11 l12)) =
    (some (α := ODen (T_laws_toEpActS_sg N).ps × RDen (T_laws_toEpActS_sg N).rs) ((), (l12, ()))) := by kernel_rfl

theorem T_laws_toEpActS_den (N : Nat) (a1 : List (Int × Int × Int)) :
    den (R := ODen (T_laws_toEpActS_sg N).ps × RDen (T_laws_toEpActS_sg N).rs) tab (T_laws_toEpActS_ctx N) T_laws_toEpActS_ann N (T_laws_toEpActS_sg N) Try.f19 (a1, ()) some =
    (bif ((decide ((0 : Int) ≤ (ilen a1))) && (decide ((ilen a1) ≤ (ilen a1)))) && (room (Int.toNat (ilen a1))) then
    (T_laws_toEpActS_lp0 N a1
      (fun i10 t11 l12 =>
        (some (α := ODen (T_laws_toEpActS_sg N).ps × RDen (T_laws_toEpActS_sg N).rs) ((), (l12, ()))))
       N (0 : Int) (List.replicate (Int.toNat (ilen a1)) ((0 : Int), ((0 : Int), (0 : Int))))) else none) := by
  have h : den (R := ODen (T_laws_toEpActS_sg N).ps × RDen (T_laws_toEpActS_sg N).rs) tab (T_laws_toEpActS_ctx N) T_laws_toEpActS_ann N (T_laws_toEpActS_sg N) Try.f19 (a1, ()) some =
    (bif ((decide ((0 : Int) ≤ (ilen a1))) && (decide ((ilen a1) ≤ (ilen a1)))) && (room (Int.toNat (ilen a1))) then
    (T_laws_toEpActS_lp0_m N N (T_laws_toEpActS_lp0_sh a1 (0 : Int) (List.replicate (Int.toNat (ilen a1)) ((0 : Int), ((0 : Int), (0 : Int))))) (ctxK (R := ODen (T_laws_toEpActS_sg N).ps × RDen (T_laws_toEpActS_sg N).rs) tab (T_laws_toEpActS_ctx N) T_laws_toEpActS_ann N (theCode Try.f19) [1, 1, 0, 1, 0] (retK tab (T_laws_toEpActS_sg N) Try.f19.results.toList some))) else none) := by kernel_rfl
  rw [h]
  (try simp only [T_laws_toEpActS_lp0_eq, T_laws_toEpActS_c1]) <;> rfl

theorem T_laws_toEpActS_ok (N : Nat) : chkBody Try.f19 (T_laws_toEpActS_sg N).ps = true := by kernel_rfl

theorem T_laws_toEpActS_callable : Callable Try.prog 19 := callable_of Try.func19 (show chkFn Try.f19 = true by kernel_rfl)

theorem T_laws_toEpActS_good (N : Nat) : Good Try.prog 19 (T_laws_toEpActS_sg N) :=
  good_body mixedOk tabOk (ctx_cons (T_laws_toEpAct_good N) T_laws_toEpAct_callable ctx_nil) Try.func19 (T_laws_toEpActS_ok N) (fun d _ h => ⟨N, (T_laws_toEpActS_den N d.1).trans h⟩)

noncomputable def T_spec_l26New_sg (N : Nat) : Sig := Sig.of [] [.v (.prod (.int .i64) (.prod (.own (.int .i64)) (.prod (.own (.bool)) (.prod (.own (.prod (.int .i64) (.int .i64))) (.prod (.own (.prod (.int .i64) (.int .i64))) (.own (.int .i64))))))) true] (fun d => T_spec_l26New N)

def T_spec_l26New_ann : Nat → List Ghost
  | 3 => [.canon [0, 1, 2, 8]]
  | 4 => [.canon [0, 1, 2]]
  | 5 => [.canon [0, 1, 2]]
  | 7 => [.canon [0, 1, 3, 16]]
  | 8 => [.canon [0, 1, 3]]
  | 9 => [.canon [0, 1, 3]]
  | 100003 => [.canon [0, 1, 2]]
  | 100007 => [.canon [0, 1, 3]]
  | _ => []

noncomputable def T_spec_l26New_ctx (N : Nat) : Ctx := []

def T_spec_l26New_lp0_sh (i1 : Int) (l4 : List Int) : St := { env := [(0, .s (.one (.ptr 0 0))), (1, .s (.one (.ptr 1 0))), (2, .s (.one (.val (.int .i64) (i1 : Int))))], objs := [(0, .box [.val (.int .i64) ((0 : Int) : Int), .nils, .nils, .nils, .nils, .nils]), (1, .box [.val (.int .i64) ((0 : Int) : Int), .own 2, .own 3, .nils, .nils, .nils]), (2, .arr (.int .i64) (l4 : List Int)), (3, .arr (.bool) (List.replicate (Int.toNat (10 : Int)) false : List Bool))], nx := 4 }

def T_spec_l26New_lp0_e0 (i6 : Int) (t7 : Bool) (l8 : List Int) : St := { env := [(0, .s (.one (.ptr 0 0))), (1, .s (.one (.ptr 1 0))), (2, .s (.one (.val (.int .i64) (i6 : Int)))), (8, .s (.one (.val (.bool) (t7 : Bool))))], objs := [(0, .box [.val (.int .i64) ((0 : Int) : Int), .nils, .nils, .nils, .nils, .nils]), (1, .box [.val (.int .i64) ((0 : Int) : Int), .own 2, .own 3, .nils, .nils, .nils]), (2, .arr (.int .i64) (l8 : List Int)), (3, .arr (.bool) (List.replicate (Int.toNat (10 : Int)) false : List Bool))], nx := 4 }

noncomputable def T_spec_l26New_lp0_m (N : Nat) {R : Type} (n : Nat) (st : St) (K : Ex → St → Option R) : Option R := loopN (roundG (T_spec_l26New_ann 100003) fun st k => sx tab (T_spec_l26New_ctx N) T_spec_l26New_ann N (nthLoop Try.f63 0) st k) n st K

theorem T_spec_l26New_lp0_step (N : Nat) {R : Type} (n : Nat) (K : Ex → St → Option R) (i1 : Int) (l4 : List Int) :
    T_spec_l26New_lp0_m N (n + 1) (T_spec_l26New_lp0_sh i1 l4) K =
    (bif decide (i1 < (3 : Int)) then
    (bif inb i1 (List.length l4) then
      (T_spec_l26New_lp0_m N n (T_spec_l26New_lp0_sh (iadd .i64 i1 (1 : Int)) (List.set l4 (Int.toNat i1) (-1 : Int))) K) else none)
    else
    (K (.exit 0) (T_spec_l26New_lp0_e0 i1 (decide (i1 < (3 : Int))) l4))) := by kernel_rfl

theorem T_spec_l26New_lp0_eq (N : Nat) {R : Type} (K : Ex → St → Option R) : ∀ (n : Nat) (i1 : Int) (l4 : List Int), T_spec_l26New_lp0_m N n (T_spec_l26New_lp0_sh i1 l4) K = T_spec_l26New_lp0 N (fun i6 t7 l8 => (K (.exit 0) (T_spec_l26New_lp0_e0 i6 t7 l8))) n i1 l4
  | 0, _, _ => rfl
  | n + 1, i1, l4 => by rw [T_spec_l26New_lp0_step, T_spec_l26New_lp0]; (try simp only [T_spec_l26New_lp0_eq N K n])

def T_spec_l26New_lp1_sh (i12 : Int) (l15 : List Int) (l16 : List Bool) : St := { env := [(0, .s (.one (.ptr 0 0))), (1, .s (.one (.ptr 1 0))), (3, .s (.one (.val (.int .i64) (i12 : Int))))], objs := [(0, .box [.val (.int .i64) ((0 : Int) : Int), .nils, .nils, .nils, .nils, .nils]), (1, .box [.val (.int .i64) ((0 : Int) : Int), .own 2, .own 3, .nils, .nils, .nils]), (2, .arr (.int .i64) (l15 : List Int)), (3, .arr (.bool) (l16 : List Bool))], nx := 4 }

def T_spec_l26New_lp1_e0 (l15 : List Int) (i17 : Int) (t18 : Bool) (l19 : List Bool) : St := { env := [(0, .s (.one (.ptr 0 0))), (1, .s (.one (.ptr 1 0))), (3, .s (.one (.val (.int .i64) (i17 : Int)))), (16, .s (.one (.val (.bool) (t18 : Bool))))], objs := [(0, .box [.val (.int .i64) ((0 : Int) : Int), .nils, .nils, .nils, .nils, .nils]), (1, .box [.val (.int .i64) ((0 : Int) : Int), .own 2, .own 3, .nils, .nils, .nils]), (2, .arr (.int .i64) (l15 : List Int)), (3, .arr (.bool) (l19 : List Bool))], nx := 4 }

noncomputable def T_spec_l26New_lp1_m (N : Nat) {R : Type} (n : Nat) (st : St) (K : Ex → St → Option R) : Option R := loopN (roundG (T_spec_l26New_ann 100007) fun st k => sx tab (T_spec_l26New_ctx N) T_spec_l26New_ann N (nthLoop Try.f63 1) st k) n st K

theorem T_spec_l26New_lp1_step (N : Nat) {R : Type} (n : Nat) (K : Ex → St → Option R) (i12 : Int) (l15 : List Int) (l16 : List Bool) :
    T_spec_l26New_lp1_m N (n + 1) (T_spec_l26New_lp1_sh i12 l15 l16) K =
    (bif decide (i12 < (10 : Int)) then
    (bif inb i12 (List.length l16) then
      (T_spec_l26New_lp1_m N n (T_spec_l26New_lp1_sh (iadd .i64 i12 (1 : Int)) l15 (List.set l16 (Int.toNat i12) true)) K) else none)
    else
    (K (.exit 2) (T_spec_l26New_lp1_e0 l15 i12 (decide (i12 < (10 : Int))) l16))) := by kernel_rfl

theorem T_spec_l26New_lp1_eq (N : Nat) {R : Type} (l15 : List Int) (K : Ex → St → Option R) : ∀ (n : Nat) (i12 : Int) (l16 : List Bool), T_spec_l26New_lp1_m N n (T_spec_l26New_lp1_sh i12 l15 l16) K = T_spec_l26New_lp1 N l15 (fun i17 t18 l19 => (K (.exit 2) (T_spec_l26New_lp1_e0 l15 i17 t18 l19))) n i12 l16
  | 0, _, _ => rfl
  | n + 1, i12, l16 => by rw [T_spec_l26New_lp1_step, T_spec_l26New_lp1]; (try simp only [T_spec_l26New_lp1_eq N l15 K n])

theorem T_spec_l26New_c2 (N : Nat) (l11 : List Int) (i20 : Int) (t21 : Bool) (l22 : List Bool) :
    ((ctxK (R := ODen (T_spec_l26New_sg N).ps × RDen (T_spec_l26New_sg N).rs) tab (T_spec_l26New_ctx N) T_spec_l26New_ann N (theCode Try.f63) [1, 1, 1, 0, 1, 0] (retK tab (T_spec_l26New_sg N) Try.f63.results.toList some)) (.exit 2) (T_spec_l26New_lp1_e0 l11 i20 t21 l22)) =
    (some (α := ODen (T_spec_l26New_sg N).ps × RDen (T_spec_l26New_sg N).rs) ((), (((0 : Int), (l11, (l22, (([] : List (Int × Int)), (([] : List (Int × Int)), ([] : List Int)))))), ()))) := by kernel_rfl

theorem T_spec_l26New_c1 (N : Nat) (i9 : Int) (t10 : Bool) (l11 : List Int) :
    ((ctxK (R := ODen (T_spec_l26New_sg N).ps × RDen (T_spec_l26New_sg N).rs) tab (T_spec_l26New_ctx N) T_spec_l26New_ann N (theCode Try.f63) [1, 1, 0, 1, 0] (retK tab (T_spec_l26New_sg N) Try.f63.results.toList some)) (.exit 0) (T_spec_l26New_lp0_e0 i9 t10 l11)) =
    (T_spec_l26New_lp1 N l11
    (fun i20 t21 l22 =>
      (some (α := ODen (T_spec_l26New_sg N).ps × RDen (T_spec_l26New_sg N).rs) ((), (((0 : Int), (l11, (l22, (([] : List (Int × Int)), (([] : List (Int × Int)), ([] : List Int)))))), ()))))
     N (0 : Int) (List.replicate (Int.toNat (10 : Int)) false)) := by
  have h : ((ctxK (R := ODen (T_spec_l26New_sg N).ps × RDen (T_spec_l26New_sg N).rs) tab (T_spec_l26New_ctx N) T_spec_l26New_ann N (theCode Try.f63) [1, 1, 0, 1, 0] (retK tab (T_spec_l26New_sg N) Try.f63.results.toList some)) (.exit 0) (T_spec_l26New_lp0_e0 i9 t10 l11)) =
    (T_spec_l26New_lp1_m N N (T_spec_l26New_lp1_sh (0 : Int) l11 (List.replicate (Int.toNat (10 : Int)) false)) (ctxK (R := ODen (T_spec_l26New_sg N).ps × RDen (T_spec_l26New_sg N).rs) tab (T_spec_l26New_ctx N) T_spec_l26New_ann N (theCode Try.f63) [1, 1, 1, 0, 1, 0] (retK tab (T_spec_l26New_sg N) Try.f63.results.toList some))) := by kernel_rfl
  rw [h]
  (try simp only [T_spec_l26New_lp1_eq, T_spec_l26New_c2]) <;> rfl

theorem T_spec_l26New_c4 (N : Nat) (l25 : List Int) (i26 : Int) (t27 : Bool) (l28 : List Bool) :
    ((ctxK (R := ODen (T_spec_l26New_sg N).ps × RDen (T_spec_l26New_sg N).rs) tab (T_spec_l26New_ctx N) T_spec_l26New_ann N (theCode Try.f63) [1, 1, 1, 0, 1, 0] (retK tab (T_spec_l26New_sg N) Try.f63.results.toList some)) (.exit 2) (T_spec_l26New_lp1_e0 l25 i26 t27 l28)) =
    (some (α := ODen (T_spec_l26New_sg N).ps × RDen (T_spec_l26New_sg N).rs) ((), (((0 : Int), (l25, (l28, (([] : List (Int × Int)), (([] : List (Int × Int)), ([] : List Int)))))), ()))) := by kernel_rfl

theorem T_spec_l26New_c3 (N : Nat) (i23 : Int) (t24 : Bool) (l25 : List Int) :
    ((ctxK (R := ODen (T_spec_l26New_sg N).ps × RDen (T_spec_l26New_sg N).rs) tab (T_spec_l26New_ctx N) T_spec_l26New_ann N (theCode Try.f63) [1, 1, 0, 1, 0] (retK tab (T_spec_l26New_sg N) Try.f63.results.toList some)) (.exit 0) (T_spec_l26New_lp0_e0 i23 t24 l25)) =
    (T_spec_l26New_lp1 N l25
    (fun i26 t27 l28 =>
      (some (α := ODen (T_spec_l26New_sg N).ps × RDen (T_spec_l26New_sg N).rs) ((), (((0 : Int), (l25, (l28, (([] : List (Int × Int)), (([] : List (Int × Int)), ([] : List Int)))))), ()))))
     N (0 : Int) (List.replicate (Int.toNat (10 : Int)) false)) := by
  have h : ((ctxK (R := ODen (T_spec_l26New_sg N).ps × RDen (T_spec_l26New_sg N).rs) tab (T_spec_l26New_ctx N) T_spec_l26New_ann N (theCode Try.f63) [1, 1, 0, 1, 0] (retK tab (T_spec_l26New_sg N) Try.f63.results.toList some)) (.exit 0) (T_spec_l26New_lp0_e0 i23 t24 l25)) =
    (T_spec_l26New_lp1_m N N (T_spec_l26New_lp1_sh (0 : Int) l25 (List.replicate (Int.toNat (10 : Int)) false)) (ctxK (R := ODen (T_spec_l26New_sg N).ps × RDen (T_spec_l26New_sg N).rs) tab (T_spec_l26New_ctx N) T_spec_l26New_ann N (theCode Try.f63) [1, 1, 1, 0, 1, 0] (retK tab (T_spec_l26New_sg N) Try.f63.results.toList some))) := by kernel_rfl
  rw [h]
  (try simp only [T_spec_l26New_lp1_eq, T_spec_l26New_c4]) <;> rfl

theorem T_spec_l26New_c6 (N : Nat) (l31 : List Int) (i32 : Int) (t33 : Bool) (l34 : List Bool) :
    ((ctxK (R := ODen (T_spec_l26New_sg N).ps × RDen (T_spec_l26New_sg N).rs) tab (T_spec_l26New_ctx N) T_spec_l26New_ann N (theCode Try.f63) [1, 1, 1, 0, 1, 0] (retK tab (T_spec_l26New_sg N) Try.f63.results.toList some)) (.exit 2) (T_spec_l26New_lp1_e0 l31 i32 t33 l34)) =
    (some (α := ODen (T_spec_l26New_sg N).ps × RDen (T_spec_l26New_sg N).rs) ((), (((0 : Int), (l31, (l34, (([] : List (Int × Int)), (([] : List (Int × Int)), ([] : List Int)))))), ()))) := by kernel_rfl

theorem T_spec_l26New_c5 (N : Nat) (i29 : Int) (t30 : Bool) (l31 : List Int) :
    ((ctxK (R := ODen (T_spec_l26New_sg N).ps × RDen (T_spec_l26New_sg N).rs) tab (T_spec_l26New_ctx N) T_spec_l26New_ann N (theCode Try.f63) [1, 1, 0, 1, 0] (retK tab (T_spec_l26New_sg N) Try.f63.results.toList some)) (.exit 0) (T_spec_l26New_lp0_e0 i29 t30 l31)) =
    (T_spec_l26New_lp1 N l31
    (fun i32 t33 l34 =>
      (some (α := ODen (T_spec_l26New_sg N).ps × RDen (T_spec_l26New_sg N).rs) ((), (((0 : Int), (l31, (l34, (([] : List (Int × Int)), (([] : List (Int × Int)), ([] : List Int)))))), ()))))
     N (0 : Int) (List.replicate (Int.toNat (10 : Int)) false)) := by
  have h : ((ctxK (R := ODen (T_spec_l26New_sg N).ps × RDen (T_spec_l26New_sg N).rs) tab (T_spec_l26New_ctx N) T_spec_l26New_ann N (theCode Try.f63) [1, 1, 0, 1, 0] (retK tab (T_spec_l26New_sg N) Try.f63.results.toList some)) (.exit 0) (T_spec_l26New_lp0_e0 i29 t30 l31)) =
    (T_spec_l26New_lp1_m N N (T_spec_l26New_lp1_sh (0 : Int) l31 (List.replicate (Int.toNat (10 : Int)) false)) (ctxK (R := ODen (T_spec_l26New_sg N).ps × RDen (T_spec_l26New_sg N).rs) tab (T_spec_l26New_ctx N) T_spec_l26New_ann N (theCode Try.f63) [1, 1, 1, 0, 1, 0] (retK tab (T_spec_l26New_sg N) Try.f63.results.toList some))) := by kernel_rfl
  rw [h]
  (try simp only [T_spec_l26New_lp1_eq, T_spec_l26New_c6]) <;> rfl

theorem T_spec_l26New_c8 (N : Nat) (l37 : List Int) (i38 : Int) (t39 : Bool) (l40 : List Bool) :
    ((ctxK (R := ODen (T_spec_l26New_sg N).ps × RDen (T_spec_l26New_sg N).rs) tab (T_spec_l26New_ctx N) T_spec_l26New_ann N (theCode Try.f63) [1, 1, 1, 0, 1, 0] (retK tab (T_spec_l26New_sg N) Try.f63.results.toList some)) (.exit 2) (T_spec_l26New_lp1_e0 l37 i38 t39 l40)) =
    (some (α := ODen (T_spec_l26New_sg N).ps × RDen (T_spec_l26New_sg N).rs) ((), (((0 : Int), (l37, (l40, (([] : List (Int × Int)), (([] : List (Int × Int)), ([] : List Int)))))), ()))) := by kernel_rfl

theorem T_spec_l26New_c7 (N : Nat) (i35 : Int) (t36 : Bool) (l37 : List Int) :
    ((ctxK (R := ODen (T_spec_l26New_sg N).ps × RDen (T_spec_l26New_sg N).rs) tab (T_spec_l26New_ctx N) T_spec_l26New_ann N (theCode Try.f63) [1, 1, 0, 1, 0] (retK tab (T_spec_l26New_sg N) Try.f63.results.toList some)) (.exit 0) (T_spec_l26New_lp0_e0 i35 t36 l37)) =
    (T_spec_l26New_lp1 N l37
    (fun i38 t39 l40 =>
      (some (α := ODen (T_spec_l26New_sg N).ps × RDen (T_spec_l26New_sg N).rs) ((), (((0 : Int), (l37, (l40, (([] : List (Int × Int)), (([] : List (Int × Int)), ([] : List Int)))))), ()))))
     N (0 : Int) (List.replicate (Int.toNat (10 : Int)) false)) := by
  have h : ((ctxK (R := ODen (T_spec_l26New_sg N).ps × RDen (T_spec_l26New_sg N).rs) tab (T_spec_l26New_ctx N) T_spec_l26New_ann N (theCode Try.f63) [1, 1, 0, 1, 0] (retK tab (T_spec_l26New_sg N) Try.f63.results.toList some)) (.exit 0) (T_spec_l26New_lp0_e0 i35 t36 l37)) =
    (T_spec_l26New_lp1_m N N (T_spec_l26New_lp1_sh (0 : Int) l37 (List.replicate (Int.toNat (10 : Int)) false)) (ctxK (R := ODen (T_spec_l26New_sg N).ps × RDen (T_spec_l26New_sg N).rs) tab (T_spec_l26New_ctx N) T_spec_l26New_ann N (theCode Try.f63) [1, 1, 1, 0, 1, 0] (retK tab (T_spec_l26New_sg N) Try.f63.results.toList some))) := by kernel_rfl
  rw [h]
  (try simp only [T_spec_l26New_lp1_eq, T_spec_l26New_c8]) <;> rfl

theorem T_spec_l26New_c10 (N : Nat) (l43 : List Int) (i44 : Int) (t45 : Bool) (l46 : List Bool) :
    ((ctxK (R := ODen (T_spec_l26New_sg N).ps × RDen (T_spec_l26New_sg N).rs) tab (T_spec_l26New_ctx N) T_spec_l26New_ann N (theCode Try.f63) [1, 1, 1, 0, 1, 0] (retK tab (T_spec_l26New_sg N) Try.f63.results.toList some)) (.exit 2) (T_spec_l26New_lp1_e0 l43 i44 t45 l46)) =
    (some (α := ODen (T_spec_l26New_sg N).ps × RDen (T_spec_l26New_sg N).rs) ((), (((0 : Int), (l43, (l46, (([] : List (Int × Int)), (([] : List (Int × Int)), ([] : List Int)))))), ()))) := by kernel_rfl

theorem T_spec_l26New_c9 (N : Nat) (i41 : Int) (t42 : Bool) (l43 : List Int) :
    ((ctxK (R := ODen (T_spec_l26New_sg N).ps × RDen (T_spec_l26New_sg N).rs) tab (T_spec_l26New_ctx N) T_spec_l26New_ann N (theCode Try.f63) [1, 1, 0, 1, 0] (retK tab (T_spec_l26New_sg N) Try.f63.results.toList some)) (.exit 0) (T_spec_l26New_lp0_e0 i41 t42 l43)) =
    (T_spec_l26New_lp1 N l43
    (fun i44 t45 l46 =>
      (some (α := ODen (T_spec_l26New_sg N).ps × RDen (T_spec_l26New_sg N).rs) ((), (((0 : Int), (l43, (l46, (([] : List (Int × Int)), (([] : List (Int × Int)), ([] : List Int)))))), ()))))
     N (0 : Int) (List.replicate (Int.toNat (10 : Int)) false)) := by
  have h : ((ctxK (R := ODen (T_spec_l26New_sg N).ps × RDen (T_spec_l26New_sg N).rs) tab (T_spec_l26New_ctx N) T_spec_l26New_ann N (theCode Try.f63) [1, 1, 0, 1, 0] (retK tab (T_spec_l26New_sg N) Try.f63.results.toList some)) (.exit 0) (T_spec_l26New_lp0_e0 i41 t42 l43)) =
    (T_spec_l26New_lp1_m N N (T_spec_l26New_lp1_sh (0 : Int) l43 (List.replicate (Int.toNat (10 : Int)) false)) (ctxK (R := ODen (T_spec_l26New_sg N).ps × RDen (T_spec_l26New_sg N).rs) tab (T_spec_l26New_ctx N) T_spec_l26New_ann N (theCode Try.f63) [1, 1, 1, 0, 1, 0] (retK tab (T_spec_l26New_sg N) Try.f63.results.toList some))) := by kernel_rfl
  rw [h]
  (try simp only [T_spec_l26New_lp1_eq, T_spec_l26New_c10]) <;> rfl

theorem T_spec_l26New_c12 (N : Nat) (l49 : List Int) (i50 : Int) (t51 : Bool) (l52 : List Bool) :
    ((ctxK (R := ODen (T_spec_l26New_sg N).ps × RDen (T_spec_l26New_sg N).rs) tab (T_spec_l26New_ctx N) T_spec_l26New_ann N (theCode Try.f63) [1, 1, 1, 0, 1, 0] (retK tab (T_spec_l26New_sg N) Try.f63.results.toList some)) (.exit 2) (T_spec_l26New_lp1_e0 l49 i50 t51 l52)) =
    (some (α := ODen (T_spec_l26New_sg N).ps × RDen (T_spec_l26New_sg N).rs) ((), (((0 : Int), (l49, (l52, (([] : List (Int × Int)), (([] : List (Int × Int)), ([] : List Int)))))), ()))) := by kernel_rfl

theorem T_spec_l26New_c11 (N : Nat) (i47 : Int) (t48 : Bool) (l49 : List Int) :
    ((ctxK (R := ODen (T_spec_l26New_sg N).ps × RDen (T_spec_l26New_sg N).rs) tab (T_spec_l26New_ctx N) T_spec_l26New_ann N (theCode Try.f63) [1, 1, 0, 1, 0] (retK tab (T_spec_l26New_sg N) Try.f63.results.toList some)) (.exit 0) (T_spec_l26New_lp0_e0 i47 t48 l49)) =
    (T_spec_l26New_lp1 N l49
    (fun i50 t51 l52 =>
      (some (α := ODen (T_spec_l26New_sg N).ps × RDen (T_spec_l26New_sg N).rs) ((), (((0 : Int), (l49, (l52, (([] : List (Int × Int)), (([] : List (Int × Int)), ([] : List Int)))))), ()))))
     N (0 : Int) (List.replicate (Int.toNat (10 : Int)) false)) := by
  have h : ((ctxK (R := ODen (T_spec_l26New_sg N).ps × RDen (T_spec_l26New_sg N).rs) tab (T_spec_l26New_ctx N) T_spec_l26New_ann N (theCode Try.f63) [1, 1, 0, 1, 0] (retK tab (T_spec_l26New_sg N) Try.f63.results.toList some)) (.exit 0) (T_spec_l26New_lp0_e0 i47 t48 l49)) =
    (T_spec_l26New_lp1_m N N (T_spec_l26New_lp1_sh (0 : Int) l49 (List.replicate (Int.toNat (10 : Int)) false)) (ctxK (R := ODen (T_spec_l26New_sg N).ps × RDen (T_spec_l26New_sg N).rs) tab (T_spec_l26New_ctx N) T_spec_l26New_ann N (theCode Try.f63) [1, 1, 1, 0, 1, 0] (retK tab (T_spec_l26New_sg N) Try.f63.results.toList some))) := by kernel_rfl
  rw [h]
  (try simp only [T_spec_l26New_lp1_eq, T_spec_l26New_c12]) <;> rfl

theorem T_spec_l26New_den (N : Nat) :
    den (R := ODen (T_spec_l26New_sg N).ps × RDen (T_spec_l26New_sg N).rs) tab (T_spec_l26New_ctx N) T_spec_l26New_ann N (T_spec_l26New_sg N) Try.f63 (()) some =
    (both
    (bif ((decide ((0 : Int) ≤ (3 : Int))) && (decide ((3 : Int) ≤ (3 : Int)))) && (room (Int.toNat (3 : Int))) then
      (bif ((decide ((0 : Int) ≤ (10 : Int))) && (decide ((10 : Int) ≤ (10 : Int)))) && (room (Int.toNat (10 : Int))) then
        (T_spec_l26New_lp0 N
          (fun i9 t10 l11 =>
            (T_spec_l26New_lp1 N l11
              (fun i20 t21 l22 =>
                (some (α := ODen (T_spec_l26New_sg N).ps × RDen (T_spec_l26New_sg N).rs) ((), (((0 : Int), (l11, (l22, (([] : List (Int × Int)), (([] : List (Int × Int)), ([] : List Int)))))), ()))))
               N (0 : Int) (List.replicate (Int.toNat (10 : Int)) false)))
           N (0 : Int) (List.replicate (Int.toNat (3 : Int)) (0 : Int))) else none) else none)
    (both
    (bif ((decide ((0 : Int) ≤ (3 : Int))) && (decide ((3 : Int) ≤ (3 : Int)))) && (room (Int.toNat (3 : Int))) then
      (bif ((decide ((0 : Int) ≤ (10 : Int))) && (decide ((10 : Int) ≤ (10 : Int)))) && (room (Int.toNat (10 : Int))) then
        (T_spec_l26New_lp0 N
          (fun i23 t24 l25 =>
            (T_spec_l26New_lp1 N l25
              (fun i26 t27 l28 =>
                (some (α := ODen (T_spec_l26New_sg N).ps × RDen (T_spec_l26New_sg N).rs) ((), (((0 : Int), (l25, (l28, (([] : List (Int × Int)), (([] : List (Int × Int)), ([] : List Int)))))), ()))))
               N (0 : Int) (List.replicate (Int.toNat (10 : Int)) false)))
           N (0 : Int) (List.replicate (Int.toNat (3 : Int)) (0 : Int))) else none) else none)
    (both
    (bif ((decide ((0 : Int) ≤ (10 : Int))) && (decide ((10 : Int) ≤ (10 : Int)))) && (room (Int.toNat (10 : Int))) then
      (bif ((decide ((0 : Int) ≤ (3 : Int))) && (decide ((3 : Int) ≤ (3 : Int)))) && (room (Int.toNat (3 : Int))) then
        (T_spec_l26New_lp0 N
          (fun i29 t30 l31 =>
            (T_spec_l26New_lp1 N l31
              (fun i32 t33 l34 =>
                (some (α := ODen (T_spec_l26New_sg N).ps × RDen (T_spec_l26New_sg N).rs) ((), (((0 : Int), (l31, (l34, (([] : List (Int × Int)), (([] : List (Int × Int)), ([] : List Int)))))), ()))))
               N (0 : Int) (List.replicate (Int.toNat (10 : Int)) false)))
           N (0 : Int) (List.replicate (Int.toNat (3 : Int)) (0 : Int))) else none) else none)
    (both
    (bif ((decide ((0 : Int) ≤ (10 : Int))) && (decide ((10 : Int) ≤ (10 : Int)))) && (room (Int.toNat (10 : Int))) then
      (bif ((decide ((0 : Int) ≤ (3 : Int))) && (decide ((3 : Int) ≤ (3 : Int)))) && (room (Int.toNat (3 : Int))) then
        (T_spec_l26New_lp0 N
          (fun i35 t36 l37 =>
            (T_spec_l26New_lp1 N l37
              (fun i38 t39 l40 =>
                (some (α := ODen (T_spec_l26New_sg N).ps × RDen (T_spec_l26New_sg N).rs) ((), (((0 : Int), (l37, (l40, (([] : List (Int × Int)), (([] : List (Int × Int)), ([] : List Int)))))), ()))))
               N (0 : Int) (List.replicate (Int.toNat (10 : Int)) false)))
           N (0 : Int) (List.replicate (Int.toNat (3 : Int)) (0 : Int))) else none) else none)
    (both
    (bif ((decide ((0 : Int) ≤ (3 : Int))) && (decide ((3 : Int) ≤ (3 : Int)))) && (room (Int.toNat (3 : Int))) then
      (bif ((decide ((0 : Int) ≤ (10 : Int))) && (decide ((10 : Int) ≤ (10 : Int)))) && (room (Int.toNat (10 : Int))) then
        (T_spec_l26New_lp0 N
          (fun i41 t42 l43 =>
            (T_spec_l26New_lp1 N l43
              (fun i44 t45 l46 =>
                (some (α := ODen (T_spec_l26New_sg N).ps × RDen (T_spec_l26New_sg N).rs) ((), (((0 : Int), (l43, (l46, (([] : List (Int × Int)), (([] : List (Int × Int)), ([] : List Int)))))), ()))))
               N (0 : Int) (List.replicate (Int.toNat (10 : Int)) false)))
           N (0 : Int) (List.replicate (Int.toNat (3 : Int)) (0 : Int))) else none) else none)
    (bif ((decide ((0 : Int) ≤ (10 : Int))) && (decide ((10 : Int) ≤ (10 : Int)))) && (room (Int.toNat (10 : Int))) then
      (bif ((decide ((0 : Int) ≤ (3 : Int))) && (decide ((3 : Int) ≤ (3 : Int)))) && (room (Int.toNat (3 : Int))) then
        (T_spec_l26New_lp0 N
          (fun i47 t48 l49 =>
            (T_spec_l26New_lp1 N l49
              (fun i50 t51 l52 =>
                (some (α := ODen (T_spec_l26New_sg N).ps × RDen (T_spec_l26New_sg N).rs) ((), (((0 : Int), (l49, (l52, (([] : List (Int × Int)), (([] : List (Int × Int)), ([] : List Int)))))), ()))))
               N (0 : Int) (List.replicate (Int.toNat (10 : Int)) false)))
           N (0 : Int) (List.replicate (Int.toNat (3 : Int)) (0 : Int))) else none) else none)))))) := by
  have h : den (R := ODen (T_spec_l26New_sg N).ps × RDen (T_spec_l26New_sg N).rs) tab (T_spec_l26New_ctx N) T_spec_l26New_ann N (T_spec_l26New_sg N) Try.f63 (()) some =
    (both
    (bif ((decide ((0 : Int) ≤ (3 : Int))) && (decide ((3 : Int) ≤ (3 : Int)))) && (room (Int.toNat (3 : Int))) then
      (bif ((decide ((0 : Int) ≤ (10 : Int))) && (decide ((10 : Int) ≤ (10 : Int)))) && (room (Int.toNat (10 : Int))) then
        (T_spec_l26New_lp0_m N N (T_spec_l26New_lp0_sh (0 : Int) (List.replicate (Int.toNat (3 : Int)) (0 : Int))) (ctxK (R := ODen (T_spec_l26New_sg N).ps × RDen (T_spec_l26New_sg N).rs) tab (T_spec_l26New_ctx N) T_spec_l26New_ann N (theCode Try.f63) [1, 1, 0, 1, 0] (retK tab (T_spec_l26New_sg N) Try.f63.results.toList some))) else none) else none)
    (both
    (bif ((decide ((0 : Int) ≤ (3 : Int))) && (decide ((3 : Int) ≤ (3 : Int)))) && (room (Int.toNat (3 : Int))) then
      (bif ((decide ((0 : Int) ≤ (10 : Int))) && (decide ((10 : Int) ≤ (10 : Int)))) && (room (Int.toNat (10 : Int))) then
        (T_spec_l26New_lp0_m N N (T_spec_l26New_lp0_sh (0 : Int) (List.replicate (Int.toNat (3 : Int)) (0 : Int))) (ctxK (R := ODen (T_spec_l26New_sg N).ps × RDen (T_spec_l26New_sg N).rs) tab (T_spec_l26New_ctx N) T_spec_l26New_ann N (theCode Try.f63) [1, 1, 0, 1, 0] (retK tab (T_spec_l26New_sg N) Try.f63.results.toList some))) else none) else none)
    (both
    (bif ((decide ((0 : Int) ≤ (10 : Int))) && (decide ((10 : Int) ≤ (10 : Int)))) && (room (Int.toNat (10 : Int))) then
      (bif ((decide ((0 : Int) ≤ (3 : Int))) && (decide ((3 : Int) ≤ (3 : Int)))) && (room (Int.toNat (3 : Int))) then
        (T_spec_l26New_lp0_m N N (T_spec_l26New_lp0_sh (0 : Int) (List.replicate (Int.toNat (3 : Int)) (0 : Int))) (ctxK (R := ODen (T_spec_l26New_sg N).ps × RDen (T_spec_l26New_sg N).rs) tab (T_spec_l26New_ctx N) T_spec_l26New_ann N (theCode Try.f63) [1, 1, 0, 1, 0] (retK tab (T_spec_l26New_sg N) Try.f63.results.toList some))) else none) else none)
    (both
    (bif ((decide ((0 : Int) ≤ (10 : Int))) && (decide ((10 : Int) ≤ (10 : Int)))) && (room (Int.toNat (10 : Int))) then
      (bif ((decide ((0 : Int) ≤ (3 : Int))) && (decide ((3 : Int) ≤ (3 : Int)))) && (room (Int.toNat (3 : Int))) then
        (T_spec_l26New_lp0_m N N (T_spec_l26New_lp0_sh (0 : Int) (List.replicate (Int.toNat (3 : Int)) (0 : Int))) (ctxK (R := ODen (T_spec_l26New_sg N).ps × RDen (T_spec_l26New_sg N).rs) tab (T_spec_l26New_ctx N) T_spec_l26New_ann N (theCode Try.f63) [1, 1, 0, 1, 0] (retK tab (T_spec_l26New_sg N) Try.f63.results.toList some))) else none) else none)
    (both
    (bif ((decide ((0 : Int) ≤ (3 : Int))) && (decide ((3 : Int) ≤ (3 : Int)))) && (room (Int.toNat (3 : Int))) then
      (bif ((decide ((0 : Int) ≤ (10 : Int))) && (decide ((10 : Int) ≤ (10 : Int)))) && (room (Int.toNat (10 : Int))) then
        (T_spec_l26New_lp0_m N N (T_spec_l26New_lp0_sh (0 : Int) (List.replicate (Int.toNat (3 : Int)) (0 : Int))) (ctxK (R := ODen (T_spec_l26New_sg N).ps × RDen (T_spec_l26New_sg N).rs) tab (T_spec_l26New_ctx N) T_spec_l26New_ann N (theCode Try.f63) [1, 1, 0, 1, 0] (retK tab (T_spec_l26New_sg N) Try.f63.results.toList some))) else none) else none)
    (bif ((decide ((0 : Int) ≤ (10 : Int))) && (decide ((10 : Int) ≤ (10 : Int)))) && (room (Int.toNat (10 : Int))) then
      (bif ((decide ((0 : Int) ≤ (3 : Int))) && (decide ((3 : Int) ≤ (3 : Int)))) && (room (Int.toNat (3 : Int))) then
        (T_spec_l26New_lp0_m N N (T_spec_l26New_lp0_sh (0 : Int) (List.replicate (Int.toNat (3 : Int)) (0 : Int))) (ctxK (R := ODen (T_spec_l26New_sg N).ps × RDen (T_spec_l26New_sg N).rs) tab (T_spec_l26New_ctx N) T_spec_l26New_ann N (theCode Try.f63) [1, 1, 0, 1, 0] (retK tab (T_spec_l26New_sg N) Try.f63.results.toList some))) else none) else none)))))) := by kernel_rfl
  rw [h]
  (try simp only [T_spec_l26New_lp0_eq, T_spec_l26New_c1, T_spec_l26New_c3, T_spec_l26New_c5, T_spec_l26New_c7, T_spec_l26New_c9, T_spec_l26New_c11]) <;> rfl

theorem T_spec_l26New_ok (N : Nat) : chkBody Try.f63 (T_spec_l26New_sg N).ps = true := by kernel_rfl

theorem T_spec_l26New_callable : Callable Try.prog 63 := callable_of Try.func63 (show chkFn Try.f63 = true by kernel_rfl)

theorem T_spec_l26New_good (N : Nat) : Good Try.prog 63 (T_spec_l26New_sg N) :=
  good_body mixedOk tabOk ctx_nil Try.func63 (T_spec_l26New_ok N) (fun d _ h => ⟨N, (T_spec_l26New_den N).trans h⟩)

noncomputable def T_spec_l26Move_sg (N : Nat) : Sig := Sig.of [.v (.prod (.int .i64) (.prod (.own (.int .i64)) (.prod (.own (.bool)) (.prod (.own (.prod (.int .i64) (.int .i64))) (.prod (.own (.prod (.int .i64) (.int .i64))) (.own (.int .i64))))))) true] [.v (.prod (.int .i64) (.prod (.own (.int .i64)) (.prod (.own (.bool)) (.prod (.own (.prod (.int .i64) (.int .i64))) (.prod (.own (.prod (.int .i64) (.int .i64))) (.own (.int .i64))))))) true] (fun d => T_spec_l26Move N d.1)

def T_spec_l26Move_ann : Nat → List Ghost
  | 2 => [.canon [1, 2, 3, 7]]
  | 3 => [.canon [1, 2, 3]]
  | 4 => [.canon [1, 2, 3, 25]]
  | 5 => [.canon [2]]
  | 9 => [.canon [1, 2, 4, 5, 36]]
  | 10 => [.canon [1, 2, 4, 5]]
  | 11 => [.canon [1, 2, 4, 5, 48]]
  | 12 => [.canon [1, 2, 4, 5]]
  | 13 => [.canon [1, 2, 4, 5]]
  | 100002 => [.canon [1, 2, 3]]
  | 100009 => [.canon [1, 2, 4, 5]]
  | _ => []

noncomputable def T_spec_l26Move_ctx (N : Nat) : Ctx := []

def T_spec_l26Move_lp0_sh (i2 : Int) (b3 : Int) (l5 : List Int) (l6 : List Bool) (l7 : List (Int × Int)) (l8 : List (Int × Int)) (l9 : List Int) : St := { env := [(1, .s (.one (.ptr 0 0))), (2, .s (.one (.ptr 1 0))), (3, .s (.one (.val (.int .i64) (i2 : Int))))], objs := [(0, .box [.val (.int .i64) (b3 : Int), .own 2, .own 3, .own 4, .own 5, .own 6]), (1, .box [.val (.int .i64) ((0 : Int) : Int), .nils, .nils, .nils, .nils, .nils]), (2, .arr (.int .i64) (l5 : List Int)), (3, .arr (.bool) (l6 : List Bool)), (4, .arr (.prod (.int .i64) (.int .i64)) (l7 : List (Int × Int))), (5, .arr (.prod (.int .i64) (.int .i64)) (l8 : List (Int × Int))), (6, .arr (.int .i64) (l9 : List Int))], nx := 7 }

def T_spec_l26Move_lp0_e0 (b3 : Int) (l5 : List Int) (l6 : List Bool) (l7 : List (Int × Int)) (l8 : List (Int × Int)) (l9 : List Int) : St := { env := [(2, .s (.one (.ptr 0 0)))], objs := [(0, .box [.val (.int .i64) (b3 : Int), .own 1, .own 2, .own 3, .own 4, .own 5]), (1, .arr (.int .i64) (l5 : List Int)), (2, .arr (.bool) (l6 : List Bool)), (3, .arr (.prod (.int .i64) (.int .i64)) (l7 : List (Int × Int))), (4, .arr (.prod (.int .i64) (.int .i64)) (l8 : List (Int × Int))), (5, .arr (.int .i64) (l9 : List Int))], nx := 6 }

def T_spec_l26Move_lp0_e1 (b3 : Int) (l5 : List Int) (l6 : List Bool) (l7 : List (Int × Int)) (l8 : List (Int × Int)) (l9 : List Int) (i10 : Int) (t11 : Bool) : St := { env := [(1, .s (.one (.ptr 0 0))), (2, .s (.one (.ptr 1 0))), (3, .s (.one (.val (.int .i64) (i10 : Int)))), (7, .s (.one (.val (.bool) (t11 : Bool))))], objs := [(0, .box [.val (.int .i64) (b3 : Int), .own 2, .own 3, .own 4, .own 5, .own 6]), (1, .box [.val (.int .i64) ((0 : Int) : Int), .nils, .nils, .nils, .nils, .nils]), (2, .arr (.int .i64) (l5 : List Int)), (3, .arr (.bool) (l6 : List Bool)), (4, .arr (.prod (.int .i64) (.int .i64)) (l7 : List (Int × Int))), (5, .arr (.prod (.int .i64) (.int .i64)) (l8 : List (Int × Int))), (6, .arr (.int .i64) (l9 : List Int))], nx := 7 }

noncomputable def T_spec_l26Move_lp0_m (N : Nat) {R : Type} (n : Nat) (st : St) (K : Ex → St → Option R) : Option R := loopN (roundG (T_spec_l26Move_ann 100002) fun st k => sx tab (T_spec_l26Move_ctx N) T_spec_l26Move_ann N (nthLoop Try.f77 0) st k) n st K

theorem T_spec_l26Move_lp0_step (N : Nat) {R : Type} (n : Nat) (K : Ex → St → Option R) (i2 : Int) (b3 : Int) (l5 : List Int) (l6 : List Bool) (l7 : List (Int × Int)) (l8 : List (Int × Int)) (l9 : List Int) :
    T_spec_l26Move_lp0_m N (n + 1) (T_spec_l26Move_lp0_sh i2 b3 l5 l6 l7 l8 l9) K =
    (bif decide (i2 < (3 : Int)) then
    (bif inb i2 (List.length l5) then
      (bif decide ((List.getD l5 (Int.toNat i2) (0 : Int)) ≥ (0 : Int)) then
        (bif inb i2 (List.length l5) then
          (bif (List.getD l5 (Int.toNat i2) (0 : Int)) != b3 then
            (K .ret (T_spec_l26Move_lp0_e0 b3 l5 l6 l7 l8 l9))
            else
            (T_spec_l26Move_lp0_m N n (T_spec_l26Move_lp0_sh (iadd .i64 i2 (1 : Int)) b3 l5 l6 l7 l8 l9) K)) else none)
        else
        (T_spec_l26Move_lp0_m N n (T_spec_l26Move_lp0_sh (iadd .i64 i2 (1 : Int)) b3 l5 l6 l7 l8 l9) K)) else none)
    else
    (K (.exit 0) (T_spec_l26Move_lp0_e1 b3 l5 l6 l7 l8 l9 i2 (decide (i2 < (3 : Int)))))) := by kernel_rfl

theorem T_spec_l26Move_lp0_eq (N : Nat) {R : Type} (b3 : Int) (l5 : List Int) (l6 : List Bool) (l7 : List (Int × Int)) (l8 : List (Int × Int)) (l9 : List Int) (K : Ex → St → Option R) : ∀ (n : Nat) (i2 : Int), T_spec_l26Move_lp0_m N n (T_spec_l26Move_lp0_sh i2 b3 l5 l6 l7 l8 l9) K = T_spec_l26Move_lp0 N b3 l5 l6 l7 l8 l9 (K .ret (T_spec_l26Move_lp0_e0 b3 l5 l6 l7 l8 l9)) (fun i10 t11 => (K (.exit 0) (T_spec_l26Move_lp0_e1 b3 l5 l6 l7 l8 l9 i10 t11))) n i2
  | 0, _ => rfl
  | n + 1, i2 => by rw [T_spec_l26Move_lp0_step, T_spec_l26Move_lp0]; (try simp only [T_spec_l26Move_lp0_eq N b3 l5 l6 l7 l8 l9 K n])

def T_spec_l26Move_lp1_sh (i14 : Int) (b15 : Int) (l17 : List (Int × Int)) (l18 : List Int) (l19 : List Bool) (l20 : List (Int × Int)) (l21 : List (Int × Int)) (l22 : List Int) : St := { env := [(1, .s (.one (.ptr 0 0))), (2, .s (.one (.ptr 1 0))), (4, .s (.one (.own 2))), (5, .s (.one (.val (.int .i64) (i14 : Int))))], objs := [(0, .box [.val (.int .i64) (b15 : Int), .own 3, .own 4, .own 5, .own 6, .own 7]), (1, .box [.val (.int .i64) ((0 : Int) : Int), .nils, .nils, .nils, .nils, .nils]), (2, .arr (.prod (.int .i64) (.int .i64)) (l17 : List (Int × Int))), (3, .arr (.int .i64) (l18 : List Int)), (4, .arr (.bool) (l19 : List Bool)), (5, .arr (.prod (.int .i64) (.int .i64)) (l20 : List (Int × Int))), (6, .arr (.prod (.int .i64) (.int .i64)) (l21 : List (Int × Int))), (7, .arr (.int .i64) (l22 : List Int))], nx := 8 }

def T_spec_l26Move_lp1_e0 (b15 : Int) (l18 : List Int) (l19 : List Bool) (l20 : List (Int × Int)) (l21 : List (Int × Int)) (i23 : Int) (t24 : Bool) (l25 : List (Int × Int)) (l26 : List Int) : St := { env := [(1, .s (.one (.ptr 0 0))), (2, .s (.one (.ptr 1 0))), (4, .s (.one (.own 2))), (5, .s (.one (.val (.int .i64) (i23 : Int)))), (36, .s (.one (.val (.bool) (t24 : Bool))))], objs := [(0, .box [.val (.int .i64) (b15 : Int), .own 3, .own 4, .own 5, .own 6, .own 7]), (1, .box [.val (.int .i64) ((0 : Int) : Int), .nils, .nils, .nils, .nils, .nils]), (2, .arr (.prod (.int .i64) (.int .i64)) (l25 : List (Int × Int))), (3, .arr (.int .i64) (l18 : List Int)), (4, .arr (.bool) (l19 : List Bool)), (5, .arr (.prod (.int .i64) (.int .i64)) (l20 : List (Int × Int))), (6, .arr (.prod (.int .i64) (.int .i64)) (l21 : List (Int × Int))), (7, .arr (.int .i64) (l26 : List Int))], nx := 8 }

noncomputable def T_spec_l26Move_lp1_m (N : Nat) {R : Type} (n : Nat) (st : St) (K : Ex → St → Option R) : Option R := loopN (roundG (T_spec_l26Move_ann 100009) fun st k => sx tab (T_spec_l26Move_ctx N) T_spec_l26Move_ann N (nthLoop Try.f77 1) st k) n st K

theorem T_spec_l26Move_lp1_step (N : Nat) {R : Type} (n : Nat) (K : Ex → St → Option R) (i14 : Int) (b15 : Int) (l17 : List (Int × Int)) (l18 : List Int) (l19 : List Bool) (l20 : List (Int × Int)) (l21 : List (Int × Int)) (l22 : List Int) :
    T_spec_l26Move_lp1_m N (n + 1) (T_spec_l26Move_lp1_sh i14 b15 l17 l18 l19 l20 l21 l22) K =
    (bif decide (i14 < (ilen l20)) then
    (bif inb i14 (List.length l20) then
      (bif decide ((iadd .i64 (List.getD l20 (Int.toNat i14) ((0 : Int), (0 : Int))).2 (2 : Int)) ≤ b15) then
        (bif inb i14 (List.length l20) then
          (bif room ((List.length l22) + (List.length ([(List.getD l20 (Int.toNat i14) ((0 : Int), (0 : Int))).1]))) then
            (T_spec_l26Move_lp1_m N n (T_spec_l26Move_lp1_sh (iadd .i64 i14 (1 : Int)) b15 l17 l18 l19 l20 l21 (List.append l22 ([(List.getD l20 (Int.toNat i14) ((0 : Int), (0 : Int))).1]))) K) else none) else none)
        else
        (bif inb i14 (List.length l20) then
          (bif room ((List.length l17) + (List.length ([(List.getD l20 (Int.toNat i14) ((0 : Int), (0 : Int)))]))) then
            (T_spec_l26Move_lp1_m N n (T_spec_l26Move_lp1_sh (iadd .i64 i14 (1 : Int)) b15 (List.append l17 ([(List.getD l20 (Int.toNat i14) ((0 : Int), (0 : Int)))])) l18 l19 l20 l21 l22) K) else none) else none)) else none)
    else
    (K (.exit 2) (T_spec_l26Move_lp1_e0 b15 l18 l19 l20 l21 i14 (decide (i14 < (ilen l20))) l17 l22))) := by kernel_rfl

theorem T_spec_l26Move_lp1_eq (N : Nat) {R : Type} (b15 : Int) (l18 : List Int) (l19 : List Bool) (l20 : List (Int × Int)) (l21 : List (Int × Int)) (K : Ex → St → Option R) : ∀ (n : Nat) (i14 : Int) (l17 : List (Int × Int)) (l22 : List Int), T_spec_l26Move_lp1_m N n (T_spec_l26Move_lp1_sh i14 b15 l17 l18 l19 l20 l21 l22) K = T_spec_l26Move_lp1 N b15 l18 l19 l20 l21 (fun i23 t24 l25 l26 => (K (.exit 2) (T_spec_l26Move_lp1_e0 b15 l18 l19 l20 l21 i23 t24 l25 l26))) n i14 l17 l22
  | 0, _, _, _ => rfl
  | n + 1, i14, l17, l22 => by rw [T_spec_l26Move_lp1_step, T_spec_l26Move_lp1]; (try simp only [T_spec_l26Move_lp1_eq N b15 l18 l19 l20 l21 K n])

theorem T_spec_l26Move_c1 (N : Nat) (e1 : Int × List Int × List Bool × List (Int × Int) × List (Int × Int) × List Int) :
    ((ctxK (R := ODen (T_spec_l26Move_sg N).ps × RDen (T_spec_l26Move_sg N).rs) tab (T_spec_l26Move_ctx N) T_spec_l26Move_ann N (theCode Try.f77) [1, 0, 1, 0] (retK tab (T_spec_l26Move_sg N) Try.f77.results.toList some)) .ret (T_spec_l26Move_lp0_e0 e1.1 e1.2.1 e1.2.2.1 e1.2.2.2.1 e1.2.2.2.2.1 e1.2.2.2.2.2)) =
    (some (α := ODen (T_spec_l26Move_sg N).ps × RDen (T_spec_l26Move_sg N).rs) ((), (e1, ()))) := by kernel_rfl

theorem T_spec_l26Move_c3 (N : Nat) (e1 : Int × List Int × List Bool × List (Int × Int) × List (Int × Int) × List Int) (i27 : Int) (t28 : Bool) (l29 : List (Int × Int)) (l30 : List Int) :
    ((ctxK (R := ODen (T_spec_l26Move_sg N).ps × RDen (T_spec_l26Move_sg N).rs) tab (T_spec_l26Move_ctx N) T_spec_l26Move_ann N (theCode Try.f77) [1, 1, 1, 1, 0, 1, 0] (retK tab (T_spec_l26Move_sg N) Try.f77.results.toList some)) (.exit 2) (T_spec_l26Move_lp1_e0 (iadd .i64 e1.1 (1 : Int)) e1.2.1 e1.2.2.1 e1.2.2.2.1 e1.2.2.2.2.1 i27 t28 l29 l30)) =
    (some (α := ODen (T_spec_l26Move_sg N).ps × RDen (T_spec_l26Move_sg N).rs) ((), ((iadd .i64 e1.1 (1 : Int), (e1.2.1, (e1.2.2.1, (l29, (e1.2.2.2.2.1, l30))))), ()))) := by kernel_rfl

theorem T_spec_l26Move_c2 (N : Nat) (e1 : Int × List Int × List Bool × List (Int × Int) × List (Int × Int) × List Int) (i12 : Int) (t13 : Bool) :
    ((ctxK (R := ODen (T_spec_l26Move_sg N).ps × RDen (T_spec_l26Move_sg N).rs) tab (T_spec_l26Move_ctx N) T_spec_l26Move_ann N (theCode Try.f77) [1, 0, 1, 0] (retK tab (T_spec_l26Move_sg N) Try.f77.results.toList some)) (.exit 0) (T_spec_l26Move_lp0_e1 e1.1 e1.2.1 e1.2.2.1 e1.2.2.2.1 e1.2.2.2.2.1 e1.2.2.2.2.2 i12 t13)) =
    (T_spec_l26Move_lp1 N (iadd .i64 e1.1 (1 : Int)) e1.2.1 e1.2.2.1 e1.2.2.2.1 e1.2.2.2.2.1
    (fun i27 t28 l29 l30 =>
      (some (α := ODen (T_spec_l26Move_sg N).ps × RDen (T_spec_l26Move_sg N).rs) ((), ((iadd .i64 e1.1 (1 : Int), (e1.2.1, (e1.2.2.1, (l29, (e1.2.2.2.2.1, l30))))), ()))))
     N (0 : Int) ([] : List (Int × Int)) e1.2.2.2.2.2) := by
  have h : ((ctxK (R := ODen (T_spec_l26Move_sg N).ps × RDen (T_spec_l26Move_sg N).rs) tab (T_spec_l26Move_ctx N) T_spec_l26Move_ann N (theCode Try.f77) [1, 0, 1, 0] (retK tab (T_spec_l26Move_sg N) Try.f77.results.toList some)) (.exit 0) (T_spec_l26Move_lp0_e1 e1.1 e1.2.1 e1.2.2.1 e1.2.2.2.1 e1.2.2.2.2.1 e1.2.2.2.2.2 i12 t13)) =
    (T_spec_l26Move_lp1_m N N (T_spec_l26Move_lp1_sh (0 : Int) (iadd .i64 e1.1 (1 : Int)) ([] : List (Int × Int)) e1.2.1 e1.2.2.1 e1.2.2.2.1 e1.2.2.2.2.1 e1.2.2.2.2.2) (ctxK (R := ODen (T_spec_l26Move_sg N).ps × RDen (T_spec_l26Move_sg N).rs) tab (T_spec_l26Move_ctx N) T_spec_l26Move_ann N (theCode Try.f77) [1, 1, 1, 1, 0, 1, 0] (retK tab (T_spec_l26Move_sg N) Try.f77.results.toList some))) := by kernel_rfl
  rw [h]
  (try simp only [T_spec_l26Move_lp1_eq, T_spec_l26Move_c3]) <;> rfl

theorem T_spec_l26Move_den (N : Nat) (e1 : Int × List Int × List Bool × List (Int × Int) × List (Int × Int) × List Int) :
    den (R := ODen (T_spec_l26Move_sg N).ps × RDen (T_spec_l26Move_sg N).rs) tab (T_spec_l26Move_ctx N) T_spec_l26Move_ann N (T_spec_l26Move_sg N) Try.f77 (e1, ()) some =
    (T_spec_l26Move_lp0 N e1.1 e1.2.1 e1.2.2.1 e1.2.2.2.1 e1.2.2.2.2.1 e1.2.2.2.2.2
    (some (α := ODen (T_spec_l26Move_sg N).ps × RDen (T_spec_l26Move_sg N).rs) ((), (e1, ())))
    (fun i12 t13 =>
      (T_spec_l26Move_lp1 N (iadd .i64 e1.1 (1 : Int)) e1.2.1 e1.2.2.1 e1.2.2.2.1 e1.2.2.2.2.1
        (fun i27 t28 l29 l30 =>
          (some (α := ODen (T_spec_l26Move_sg N).ps × RDen (T_spec_l26Move_sg N).rs) ((), ((iadd .i64 e1.1 (1 : Int), (e1.2.1, (e1.2.2.1, (l29, (e1.2.2.2.2.1, l30))))), ()))))
         N (0 : Int) ([] : List (Int × Int)) e1.2.2.2.2.2))
     N (0 : Int)) := by
  have h : den (R := ODen (T_spec_l26Move_sg N).ps × RDen (T_spec_l26Move_sg N).rs) tab (T_spec_l26Move_ctx N) T_spec_l26Move_ann N (T_spec_l26Move_sg N) Try.f77 (e1, ()) some =
    (T_spec_l26Move_lp0_m N N (T_spec_l26Move_lp0_sh (0 : Int) e1.1 e1.2.1 e1.2.2.1 e1.2.2.2.1 e1.2.2.2.2.1 e1.2.2.2.2.2) (ctxK (R := ODen (T_spec_l26Move_sg N).ps × RDen (T_spec_l26Move_sg N).rs) tab (T_spec_l26Move_ctx N) T_spec_l26Move_ann N (theCode Try.f77) [1, 0, 1, 0] (retK tab (T_spec_l26Move_sg N) Try.f77.results.toList some))) := by kernel_rfl
  rw [h]
  (try simp only [T_spec_l26Move_lp0_eq, T_spec_l26Move_c1, T_spec_l26Move_c2]) <;> rfl

theorem T_spec_l26Move_ok (N : Nat) : chkBody Try.f77 (T_spec_l26Move_sg N).ps = true := by kernel_rfl

theorem T_spec_l26Move_callable : Callable Try.prog 77 := callable_of Try.func77 (show chkFn Try.f77 = true by kernel_rfl)

theorem T_spec_l26Move_good (N : Nat) : Good Try.prog 77 (T_spec_l26Move_sg N) :=
  good_body mixedOk tabOk ctx_nil Try.func77 (T_spec_l26Move_ok N) (fun d _ h => ⟨N, (T_spec_l26Move_den N d.1).trans h⟩)

noncomputable def T_spec_l1In_sg (N : Nat) : Sig := Sig.of [.v (.int .i64) false, .v (.int .i64) false, .v (.int .i64) false] [.v (.bool) false] (fun d => T_spec_l1In N d.1 d.2.1 d.2.2.1)

def T_spec_l1In_ann : Nat → List Ghost
  | _ => []

noncomputable def T_spec_l1In_ctx (N : Nat) : Ctx := []

theorem T_spec_l1In_den (N : Nat) (x1 : Int) (low2 : Int) (high3 : Int) :
    den (R := ODen (T_spec_l1In_sg N).ps × RDen (T_spec_l1In_sg N).rs) tab (T_spec_l1In_ctx N) T_spec_l1In_ann N (T_spec_l1In_sg N) Try.f57 (x1, low2, high3, ()) some =
    (bif decide (x1 ≥ low2) then
    (some (α := ODen (T_spec_l1In_sg N).ps × RDen (T_spec_l1In_sg N).rs) ((), (decide (x1 ≤ high3), ())))
    else
    (some (α := ODen (T_spec_l1In_sg N).ps × RDen (T_spec_l1In_sg N).rs) ((), (false, ())))) := by kernel_rfl

theorem T_spec_l1In_ok (N : Nat) : chkBody Try.f57 (T_spec_l1In_sg N).ps = true := by kernel_rfl

theorem T_spec_l1In_callable : Callable Try.prog 57 := callable_of Try.func57 (show chkFn Try.f57 = true by kernel_rfl)

theorem T_spec_l1In_good (N : Nat) : Good Try.prog 57 (T_spec_l1In_sg N) :=
  good_body mixedOk tabOk ctx_nil Try.func57 (T_spec_l1In_ok N) (fun d _ h => ⟨N, (T_spec_l1In_den N d.1 d.2.1 d.2.2.1).trans h⟩)

noncomputable def T_spec_l26Act_sg (N : Nat) : Sig := Sig.of [.v (.prod (.int .i64) (.prod (.own (.int .i64)) (.prod (.own (.bool)) (.prod (.own (.prod (.int .i64) (.int .i64))) (.prod (.own (.prod (.int .i64) (.int .i64))) (.own (.int .i64))))))) true, .v (.prod (.int .i64) (.prod (.int .i64) (.int .i64))) true] [.v (.prod (.int .i64) (.prod (.own (.int .i64)) (.prod (.own (.bool)) (.prod (.own (.prod (.int .i64) (.int .i64))) (.prod (.own (.prod (.int .i64) (.int .i64))) (.own (.int .i64))))))) true] (fun d => T_spec_l26Act N d.1 d.2.1)

def T_spec_l26Act_ann : Nat → List Ghost
  | 15 => [.canon [2, 3, 4, 7, 8, 64]]
  | 16 => [.canon [2, 3, 4, 7, 8]]
  | 17 => [.canon [2, 3, 4, 7, 8, 75]]
  | 18 => [.canon [2, 3, 4, 7, 8]]
  | 23 => [.canon [2, 3, 4, 5, 6, 9, 10, 92]]
  | 24 => [.canon [2, 3, 4, 5, 6, 9, 10]]
  | 25 => [.canon [2, 3, 4, 5, 6, 9, 10]]
  | 100015 => [.canon [2, 3, 4, 7, 8]]
  | 100023 => [.canon [2, 3, 4, 5, 6, 9, 10]]
  | _ => []

noncomputable def T_spec_l26Act_ctx (N : Nat) : Ctx := [(77, T_spec_l26Move_sg N), (57, T_spec_l1In_sg N)]

def T_spec_l26Act_lp0_sh (i6 : Int) (b7 : Int) (b8 : Int × Int × Int) (l10 : List (Int × Int)) (l11 : List Int) (l12 : List Bool) (l13 : List (Int × Int)) (l14 : List (Int × Int)) (l15 : List Int) : St := { env := [(2, .s (.one (.ptr 0 0))), (3, .s (.one (.ptr 1 0))), (4, .s (.one (.ptr 2 0))), (7, .s (.one (.own 3))), (8, .s (.one (.val (.int .i64) (i6 : Int))))], objs := [(0, .box [.val (.int .i64) (b7 : Int), .own 4, .own 5, .own 6, .own 7, .own 8]), (1, .box [.val (.int .i64) (b8.1 : Int), .val (.int .i64) (b8.2.1 : Int), .val (.int .i64) (b8.2.2 : Int)]), (2, .box [.val (.int .i64) ((0 : Int) : Int), .nils, .nils, .nils, .nils, .nils]), (3, .arr (.prod (.int .i64) (.int .i64)) (l10 : List (Int × Int))), (4, .arr (.int .i64) (l11 : List Int)), (5, .arr (.bool) (l12 : List Bool)), (6, .arr (.prod (.int .i64) (.int .i64)) (l13 : List (Int × Int))), (7, .arr (.prod (.int .i64) (.int .i64)) (l14 : List (Int × Int))), (8, .arr (.int .i64) (l15 : List Int))], nx := 9 }

def T_spec_l26Act_lp0_e0 (b7 : Int) (b8 : Int × Int × Int) (l11 : List Int) (l12 : List Bool) (l13 : List (Int × Int)) (l14 : List (Int × Int)) (l15 : List Int) (i16 : Int) (t17 : Bool) (l18 : List (Int × Int)) : St := { env := [(2, .s (.one (.ptr 0 0))), (3, .s (.one (.ptr 1 0))), (4, .s (.one (.ptr 2 0))), (7, .s (.one (.own 3))), (8, .s (.one (.val (.int .i64) (i16 : Int)))), (64, .s (.one (.val (.bool) (t17 : Bool))))], objs := [(0, .box [.val (.int .i64) (b7 : Int), .own 4, .own 5, .own 6, .own 7, .own 8]), (1, .box [.val (.int .i64) (b8.1 : Int), .val (.int .i64) (b8.2.1 : Int), .val (.int .i64) (b8.2.2 : Int)]), (2, .box [.val (.int .i64) ((0 : Int) : Int), .nils, .nils, .nils, .nils, .nils]), (3, .arr (.prod (.int .i64) (.int .i64)) (l18 : List (Int × Int))), (4, .arr (.int .i64) (l11 : List Int)), (5, .arr (.bool) (l12 : List Bool)), (6, .arr (.prod (.int .i64) (.int .i64)) (l13 : List (Int × Int))), (7, .arr (.prod (.int .i64) (.int .i64)) (l14 : List (Int × Int))), (8, .arr (.int .i64) (l15 : List Int))], nx := 9 }

noncomputable def T_spec_l26Act_lp0_m (N : Nat) {R : Type} (n : Nat) (st : St) (K : Ex → St → Option R) : Option R := loopN (roundG (T_spec_l26Act_ann 100015) fun st k => sx tab (T_spec_l26Act_ctx N) T_spec_l26Act_ann N (nthLoop Try.f64 0) st k) n st K

theorem T_spec_l26Act_lp0_step (N : Nat) {R : Type} (n : Nat) (K : Ex → St → Option R) (i6 : Int) (b7 : Int) (b8 : Int × Int × Int) (l10 : List (Int × Int)) (l11 : List Int) (l12 : List Bool) (l13 : List (Int × Int)) (l14 : List (Int × Int)) (l15 : List Int) :
    T_spec_l26Act_lp0_m N (n + 1) (T_spec_l26Act_lp0_sh i6 b7 b8 l10 l11 l12 l13 l14 l15) K =
    (bif decide (i6 < (ilen l14)) then
    (bif inb i6 (List.length l14) then
      (bif (List.getD l14 (Int.toNat i6) ((0 : Int), (0 : Int))).1 != b8.2.1 then
        (bif inb i6 (List.length l14) then
          (bif room ((List.length l10) + (List.length ([(List.getD l14 (Int.toNat i6) ((0 : Int), (0 : Int)))]))) then
            (T_spec_l26Act_lp0_m N n (T_spec_l26Act_lp0_sh (iadd .i64 i6 (1 : Int)) b7 b8 (List.append l10 ([(List.getD l14 (Int.toNat i6) ((0 : Int), (0 : Int)))])) l11 l12 l13 l14 l15) K) else none) else none)
        else
        (T_spec_l26Act_lp0_m N n (T_spec_l26Act_lp0_sh (iadd .i64 i6 (1 : Int)) b7 b8 l10 l11 l12 l13 l14 l15) K)) else none)
    else
    (K (.exit 1) (T_spec_l26Act_lp0_e0 b7 b8 l11 l12 l13 l14 l15 i6 (decide (i6 < (ilen l14))) l10))) := by kernel_rfl

theorem T_spec_l26Act_lp0_eq (N : Nat) {R : Type} (b7 : Int) (b8 : Int × Int × Int) (l11 : List Int) (l12 : List Bool) (l13 : List (Int × Int)) (l14 : List (Int × Int)) (l15 : List Int) (K : Ex → St → Option R) : ∀ (n : Nat) (i6 : Int) (l10 : List (Int × Int)), T_spec_l26Act_lp0_m N n (T_spec_l26Act_lp0_sh i6 b7 b8 l10 l11 l12 l13 l14 l15) K = T_spec_l26Act_lp0 N b7 b8 l11 l12 l13 l14 l15 (fun i16 t17 l18 => (K (.exit 1) (T_spec_l26Act_lp0_e0 b7 b8 l11 l12 l13 l14 l15 i16 t17 l18))) n i6 l10
  | 0, _, _ => rfl
  | n + 1, i6, l10 => by rw [T_spec_l26Act_lp0_step, T_spec_l26Act_lp0]; (try simp only [T_spec_l26Act_lp0_eq N b7 b8 l11 l12 l13 l14 l15 K n])

def T_spec_l26Act_lp1_sh (pinned22 : Bool) (has23 : Bool) (i24 : Int) (b25 : Int) (b26 : Int × Int × Int) (b28 : Int × Int) (l29 : List Int) (l30 : List Bool) (l31 : List (Int × Int)) (l32 : List (Int × Int)) (l33 : List Int) : St := { env := [(2, .s (.one (.ptr 0 0))), (3, .s (.one (.ptr 1 0))), (4, .s (.one (.ptr 2 0))), (5, .s (.one (.val (.bool) (pinned22 : Bool)))), (6, .s (.one (.ptr 3 0))), (9, .s (.one (.val (.bool) (has23 : Bool)))), (10, .s (.one (.val (.int .i64) (i24 : Int))))], objs := [(0, .box [.val (.int .i64) (b25 : Int), .own 4, .own 5, .own 6, .own 7, .own 8]), (1, .box [.val (.int .i64) (b26.1 : Int), .val (.int .i64) (b26.2.1 : Int), .val (.int .i64) (b26.2.2 : Int)]), (2, .box [.val (.int .i64) ((0 : Int) : Int), .nils, .nils, .nils, .nils, .nils]), (3, .box [.val (.int .i64) (b28.1 : Int), .val (.int .i64) (b28.2 : Int)]), (4, .arr (.int .i64) (l29 : List Int)), (5, .arr (.bool) (l30 : List Bool)), (6, .arr (.prod (.int .i64) (.int .i64)) (l31 : List (Int × Int))), (7, .arr (.prod (.int .i64) (.int .i64)) (l32 : List (Int × Int))), (8, .arr (.int .i64) (l33 : List Int))], nx := 9 }

def T_spec_l26Act_lp1_e0 (pinned22 : Bool) (b25 : Int) (b26 : Int × Int × Int) (b28 : Int × Int) (l29 : List Int) (l30 : List Bool) (l31 : List (Int × Int)) (l32 : List (Int × Int)) (l33 : List Int) (has34 : Bool) (i35 : Int) (t36 : Bool) : St := { env := [(2, .s (.one (.ptr 0 0))), (3, .s (.one (.ptr 1 0))), (4, .s (.one (.ptr 2 0))), (5, .s (.one (.val (.bool) (pinned22 : Bool)))), (6, .s (.one (.ptr 3 0))), (9, .s (.one (.val (.bool) (has34 : Bool)))), (10, .s (.one (.val (.int .i64) (i35 : Int)))), (92, .s (.one (.val (.bool) (t36 : Bool))))], objs := [(0, .box [.val (.int .i64) (b25 : Int), .own 4, .own 5, .own 6, .own 7, .own 8]), (1, .box [.val (.int .i64) (b26.1 : Int), .val (.int .i64) (b26.2.1 : Int), .val (.int .i64) (b26.2.2 : Int)]), (2, .box [.val (.int .i64) ((0 : Int) : Int), .nils, .nils, .nils, .nils, .nils]), (3, .box [.val (.int .i64) (b28.1 : Int), .val (.int .i64) (b28.2 : Int)]), (4, .arr (.int .i64) (l29 : List Int)), (5, .arr (.bool) (l30 : List Bool)), (6, .arr (.prod (.int .i64) (.int .i64)) (l31 : List (Int × Int))), (7, .arr (.prod (.int .i64) (.int .i64)) (l32 : List (Int × Int))), (8, .arr (.int .i64) (l33 : List Int))], nx := 9 }

noncomputable def T_spec_l26Act_lp1_m (N : Nat) {R : Type} (n : Nat) (st : St) (K : Ex → St → Option R) : Option R := loopN (roundG (T_spec_l26Act_ann 100023) fun st k => sx tab (T_spec_l26Act_ctx N) T_spec_l26Act_ann N (nthLoop Try.f64 1) st k) n st K

theorem T_spec_l26Act_lp1_step (N : Nat) {R : Type} (n : Nat) (K : Ex → St → Option R) (pinned22 : Bool) (has23 : Bool) (i24 : Int) (b25 : Int) (b26 : Int × Int × Int) (b28 : Int × Int) (l29 : List Int) (l30 : List Bool) (l31 : List (Int × Int)) (l32 : List (Int × Int)) (l33 : List Int) :
    T_spec_l26Act_lp1_m N (n + 1) (T_spec_l26Act_lp1_sh pinned22 has23 i24 b25 b26 b28 l29 l30 l31 l32 l33) K =
    (bif decide (i24 < (ilen l32)) then
    (bif has23 then
      (T_spec_l26Act_lp1_m N n (T_spec_l26Act_lp1_sh pinned22 true (iadd .i64 i24 (1 : Int)) b25 b26 b28 l29 l30 l31 l32 l33) K)
      else
      (bif inb i24 (List.length l32) then
        (T_spec_l26Act_lp1_m N n (T_spec_l26Act_lp1_sh pinned22 ((ieq (List.getD l32 (Int.toNat i24) ((0 : Int), (0 : Int))).1 b28.1) && ((ieq (List.getD l32 (Int.toNat i24) ((0 : Int), (0 : Int))).2 b28.2) && true)) (iadd .i64 i24 (1 : Int)) b25 b26 b28 l29 l30 l31 l32 l33) K) else none))
    else
    (K (.exit 3) (T_spec_l26Act_lp1_e0 pinned22 b25 b26 b28 l29 l30 l31 l32 l33 has23 i24 (decide (i24 < (ilen l32)))))) := by kernel_rfl

theorem T_spec_l26Act_lp1_eq (N : Nat) {R : Type} (pinned22 : Bool) (b25 : Int) (b26 : Int × Int × Int) (b28 : Int × Int) (l29 : List Int) (l30 : List Bool) (l31 : List (Int × Int)) (l32 : List (Int × Int)) (l33 : List Int) (K : Ex → St → Option R) : ∀ (n : Nat) (has23 : Bool) (i24 : Int), T_spec_l26Act_lp1_m N n (T_spec_l26Act_lp1_sh pinned22 has23 i24 b25 b26 b28 l29 l30 l31 l32 l33) K = T_spec_l26Act_lp1 N pinned22 b25 b26 b28 l29 l30 l31 l32 l33 (fun has34 i35 t36 => (K (.exit 3) (T_spec_l26Act_lp1_e0 pinned22 b25 b26 b28 l29 l30 l31 l32 l33 has34 i35 t36))) n has23 i24
  | 0, _, _ => rfl
  | n + 1, has23, i24 => by rw [T_spec_l26Act_lp1_step, T_spec_l26Act_lp1]; (try simp only [T_spec_l26Act_lp1_eq N pinned22 b25 b26 b28 l29 l30 l31 l32 l33 K n])

theorem T_spec_l26Act_c1 (N : Nat) (e1 : Int × List Int × List Bool × List (Int × Int) × List (Int × Int) × List Int) (a2 : Int × Int × Int) (i19 : Int) (t20 : Bool) (l21 : List (Int × Int)) :
    ((ctxK (R := ODen (T_spec_l26Act_sg N).ps × RDen (T_spec_l26Act_sg N).rs) tab (T_spec_l26Act_ctx N) T_spec_l26Act_ann N (theCode Try.f64) [1, 1, 1, 1, 1, 0, 1, 0, 1, 1, 1, 0, 1, 1, 0, 1, 0] (retK tab (T_spec_l26Act_sg N) Try.f64.results.toList some)) (.exit 1) (T_spec_l26Act_lp0_e0 e1.1 a2 (List.set e1.2.1 (Int.toNat a2.2.1) (-1 : Int)) e1.2.2.1 e1.2.2.2.1 e1.2.2.2.2.1 e1.2.2.2.2.2 i19 t20 l21)) =
    (some (α := ODen (T_spec_l26Act_sg N).ps × RDen (T_spec_l26Act_sg N).rs) ((), ((e1.1, (List.set e1.2.1 (Int.toNat a2.2.1) (-1 : Int), (e1.2.2.1, (e1.2.2.2.1, (l21, e1.2.2.2.2.2))))), ()))) := by kernel_rfl

theorem T_spec_l26Act_c2 (N : Nat) (e1 : Int × List Int × List Bool × List (Int × Int) × List (Int × Int) × List Int) (a2 : Int × Int × Int) (has37 : Bool) (i38 : Int) (t39 : Bool) :
    ((ctxK (R := ODen (T_spec_l26Act_sg N).ps × RDen (T_spec_l26Act_sg N).rs) tab (T_spec_l26Act_ctx N) T_spec_l26Act_ann N (theCode Try.f64) [1, 1, 1, 1, 1, 0, 1, 0, 1, 1, 1, 1, 1, 0, 1, 0, 1, 0] (retK tab (T_spec_l26Act_sg N) Try.f64.results.toList some)) (.exit 3) (T_spec_l26Act_lp1_e0 (decide ((List.getD e1.2.1 (Int.toNat a2.2.1) (0 : Int)) ≥ (0 : Int))) e1.1 a2 a2.2 e1.2.1 e1.2.2.1 e1.2.2.2.1 e1.2.2.2.2.1 e1.2.2.2.2.2 has37 i38 t39)) =
    (bif decide ((List.getD e1.2.1 (Int.toNat a2.2.1) (0 : Int)) ≥ (0 : Int)) then
    (bif inb a2.2.2 (List.length e1.2.2.1) then
      (bif List.getD e1.2.2.1 (Int.toNat a2.2.2) false then
        (bif !has37 then
          (bif room ((List.length e1.2.2.2.2.1) + (List.length ([a2.2]))) then
            (some (α := ODen (T_spec_l26Act_sg N).ps × RDen (T_spec_l26Act_sg N).rs) ((), ((e1.1, (e1.2.1, (e1.2.2.1, (e1.2.2.2.1, (List.append e1.2.2.2.2.1 ([a2.2]), e1.2.2.2.2.2))))), ()))) else none)
          else
          (some (α := ODen (T_spec_l26Act_sg N).ps × RDen (T_spec_l26Act_sg N).rs) ((), (e1, ()))))
        else
        (some (α := ODen (T_spec_l26Act_sg N).ps × RDen (T_spec_l26Act_sg N).rs) ((), (e1, ())))) else none)
    else
    (some (α := ODen (T_spec_l26Act_sg N).ps × RDen (T_spec_l26Act_sg N).rs) ((), (e1, ())))) := by kernel_rfl

theorem T_spec_l26Act_den (N : Nat) (e1 : Int × List Int × List Bool × List (Int × Int) × List (Int × Int) × List Int) (a2 : Int × Int × Int) :
    den (R := ODen (T_spec_l26Act_sg N).ps × RDen (T_spec_l26Act_sg N).rs) tab (T_spec_l26Act_ctx N) T_spec_l26Act_ann N (T_spec_l26Act_sg N) Try.f64 (e1, a2, ()) some =
    (bif a2.1 == (5 : Int) then
    ((T_spec_l26Move N e1).bind fun o3 =>
      (some (α := ODen (T_spec_l26Act_sg N).ps × RDen (T_spec_l26Act_sg N).rs) ((), (o3.2.1, ()))))
    else
    ((T_spec_l1In N a2.2.1 (0 : Int) (2 : Int)).bind fun o4 =>
      (bif !o4.2.1 then
        (some (α := ODen (T_spec_l26Act_sg N).ps × RDen (T_spec_l26Act_sg N).rs) ((), (e1, ())))
        else
        ((T_spec_l1In N a2.2.2 (0 : Int) (9 : Int)).bind fun o5 =>
          (bif !o5.2.1 then
            (some (α := ODen (T_spec_l26Act_sg N).ps × RDen (T_spec_l26Act_sg N).rs) ((), (e1, ())))
            else
            (bif inb a2.2.1 (List.length e1.2.1) then
              (bif a2.1 == (1 : Int) then
                (bif !(decide ((List.getD e1.2.1 (Int.toNat a2.2.1) (0 : Int)) ≥ (0 : Int))) then
                  (bif inb a2.2.1 (List.length e1.2.1) then
                    (some (α := ODen (T_spec_l26Act_sg N).ps × RDen (T_spec_l26Act_sg N).rs) ((), ((e1.1, (List.set e1.2.1 (Int.toNat a2.2.1) e1.1, e1.2.2)), ()))) else none)
                  else
                  (some (α := ODen (T_spec_l26Act_sg N).ps × RDen (T_spec_l26Act_sg N).rs) ((), (e1, ()))))
                else
                (bif a2.1 == (2 : Int) then
                  (bif inb a2.2.1 (List.length e1.2.1) then
                    (T_spec_l26Act_lp0 N e1.1 a2 (List.set e1.2.1 (Int.toNat a2.2.1) (-1 : Int)) e1.2.2.1 e1.2.2.2.1 e1.2.2.2.2.1 e1.2.2.2.2.2
                      (fun i19 t20 l21 =>
                        (some (α := ODen (T_spec_l26Act_sg N).ps × RDen (T_spec_l26Act_sg N).rs) ((), ((e1.1, (List.set e1.2.1 (Int.toNat a2.2.1) (-1 : Int), (e1.2.2.1, (e1.2.2.2.1, (l21, e1.2.2.2.2.2))))), ()))))
                       N (0 : Int) ([] : List (Int × Int))) else none)
                  else
                  (bif a2.1 == (3 : Int) then
                    (T_spec_l26Act_lp1 N (decide ((List.getD e1.2.1 (Int.toNat a2.2.1) (0 : Int)) ≥ (0 : Int))) e1.1 a2 a2.2 e1.2.1 e1.2.2.1 e1.2.2.2.1 e1.2.2.2.2.1 e1.2.2.2.2.2
                      (fun has37 i38 t39 =>
                        (bif decide ((List.getD e1.2.1 (Int.toNat a2.2.1) (0 : Int)) ≥ (0 : Int)) then
                          (bif inb a2.2.2 (List.length e1.2.2.1) then
                            (bif List.getD e1.2.2.1 (Int.toNat a2.2.2) false then
                              (bif !has37 then
                                (bif room ((List.length e1.2.2.2.2.1) + (List.length ([a2.2]))) then
                                  (some (α := ODen (T_spec_l26Act_sg N).ps × RDen (T_spec_l26Act_sg N).rs) ((), ((e1.1, (e1.2.1, (e1.2.2.1, (e1.2.2.2.1, (List.append e1.2.2.2.2.1 ([a2.2]), e1.2.2.2.2.2))))), ()))) else none)
                                else
                                (some (α := ODen (T_spec_l26Act_sg N).ps × RDen (T_spec_l26Act_sg N).rs) ((), (e1, ()))))
                              else
                              (some (α := ODen (T_spec_l26Act_sg N).ps × RDen (T_spec_l26Act_sg N).rs) ((), (e1, ())))) else none)
                          else
                          (some (α := ODen (T_spec_l26Act_sg N).ps × RDen (T_spec_l26Act_sg N).rs) ((), (e1, ())))))
                       N false (0 : Int))
                    else
                    (bif a2.1 == (4 : Int) then
                      (bif decide ((List.getD e1.2.1 (Int.toNat a2.2.1) (0 : Int)) ≥ (0 : Int)) then
                        (bif inb a2.2.2 (List.length e1.2.2.1) then
                          (bif List.getD e1.2.2.1 (Int.toNat a2.2.2) false then
                            (bif inb a2.2.2 (List.length e1.2.2.1) then
                              (bif room ((List.length e1.2.2.2.1) + (List.length ([(a2.2.2, e1.1)]))) then
                                (some (α := ODen (T_spec_l26Act_sg N).ps × RDen (T_spec_l26Act_sg N).rs) ((), ((e1.1, (e1.2.1, (List.set e1.2.2.1 (Int.toNat a2.2.2) false, (List.append e1.2.2.2.1 ([(a2.2.2, e1.1)]), e1.2.2.2.2)))), ()))) else none) else none)
                            else
                            (some (α := ODen (T_spec_l26Act_sg N).ps × RDen (T_spec_l26Act_sg N).rs) ((), (e1, ())))) else none)
                        else
                        (some (α := ODen (T_spec_l26Act_sg N).ps × RDen (T_spec_l26Act_sg N).rs) ((), (e1, ()))))
                      else
                      (some (α := ODen (T_spec_l26Act_sg N).ps × RDen (T_spec_l26Act_sg N).rs) ((), (e1, ()))))))) else none)))))) := by
  have h : den (R := ODen (T_spec_l26Act_sg N).ps × RDen (T_spec_l26Act_sg N).rs) tab (T_spec_l26Act_ctx N) T_spec_l26Act_ann N (T_spec_l26Act_sg N) Try.f64 (e1, a2, ()) some =
    (bif a2.1 == (5 : Int) then
    ((T_spec_l26Move N e1).bind fun o3 =>
      (some (α := ODen (T_spec_l26Act_sg N).ps × RDen (T_spec_l26Act_sg N).rs) ((), (o3.2.1, ()))))
    else
    ((T_spec_l1In N a2.2.1 (0 : Int) (2 : Int)).bind fun o4 =>
      (bif !o4.2.1 then
        (some (α := ODen (T_spec_l26Act_sg N).ps × RDen (T_spec_l26Act_sg N).rs) ((), (e1, ())))
        else
        ((T_spec_l1In N a2.2.2 (0 : Int) (9 : Int)).bind fun o5 =>
          (bif !o5.2.1 then
            (some (α := ODen (T_spec_l26Act_sg N).ps × RDen (T_spec_l26Act_sg N).rs) ((), (e1, ())))
            else
            (bif inb a2.2.1 (List.length e1.2.1) then
              (bif a2.1 == (1 : Int) then
                (bif !(decide ((List.getD e1.2.1 (Int.toNat a2.2.1) (0 : Int)) ≥ (0 : Int))) then
                  (bif inb a2.2.1 (List.length e1.2.1) then
                    (some (α := ODen (T_spec_l26Act_sg N).ps × RDen (T_spec_l26Act_sg N).rs) ((), ((e1.1, (List.set e1.2.1 (Int.toNat a2.2.1) e1.1, e1.2.2)), ()))) else none)
                  else
                  (some (α := ODen (T_spec_l26Act_sg N).ps × RDen (T_spec_l26Act_sg N).rs) ((), (e1, ()))))
                else
                (bif a2.1 == (2 : Int) then
                  (bif inb a2.2.1 (List.length e1.2.1) then
                    (T_spec_l26Act_lp0_m N N (T_spec_l26Act_lp0_sh (0 : Int) e1.1 a2 ([] : List (Int × Int)) (List.set e1.2.1 (Int.toNat a2.2.1) (-1 : Int)) e1.2.2.1 e1.2.2.2.1 e1.2.2.2.2.1 e1.2.2.2.2.2) (ctxK (R := ODen (T_spec_l26Act_sg N).ps × RDen (T_spec_l26Act_sg N).rs) tab (T_spec_l26Act_ctx N) T_spec_l26Act_ann N (theCode Try.f64) [1, 1, 1, 1, 1, 0, 1, 0, 1, 1, 1, 0, 1, 1, 0, 1, 0] (retK tab (T_spec_l26Act_sg N) Try.f64.results.toList some))) else none)
                  else
                  (bif a2.1 == (3 : Int) then
                    (T_spec_l26Act_lp1_m N N (T_spec_l26Act_lp1_sh (decide ((List.getD e1.2.1 (Int.toNat a2.2.1) (0 : Int)) ≥ (0 : Int))) false (0 : Int) e1.1 a2 a2.2 e1.2.1 e1.2.2.1 e1.2.2.2.1 e1.2.2.2.2.1 e1.2.2.2.2.2) (ctxK (R := ODen (T_spec_l26Act_sg N).ps × RDen (T_spec_l26Act_sg N).rs) tab (T_spec_l26Act_ctx N) T_spec_l26Act_ann N (theCode Try.f64) [1, 1, 1, 1, 1, 0, 1, 0, 1, 1, 1, 1, 1, 0, 1, 0, 1, 0] (retK tab (T_spec_l26Act_sg N) Try.f64.results.toList some)))
                    else
                    (bif a2.1 == (4 : Int) then
                      (bif decide ((List.getD e1.2.1 (Int.toNat a2.2.1) (0 : Int)) ≥ (0 : Int)) then
                        (bif inb a2.2.2 (List.length e1.2.2.1) then
                          (bif List.getD e1.2.2.1 (Int.toNat a2.2.2) false then
                            (bif inb a2.2.2 (List.length e1.2.2.1) then
                              (bif room ((List.length e1.2.2.2.1) + (List.length ([(a2.2.2, e1.1)]))) then
                                (some (α := ODen (T_spec_l26Act_sg N).ps × RDen (T_spec_l26Act_sg N).rs) ((), ((e1.1, (e1.2.1, (List.set e1.2.2.1 (Int.toNat a2.2.2) false, (List.append e1.2.2.2.1 ([(a2.2.2, e1.1)]), e1.2.2.2.2)))), ()))) else none) else none)
                            else
                            (some (α := ODen (T_spec_l26Act_sg N).ps × RDen (T_spec_l26Act_sg N).rs) ((), (e1, ())))) else none)
                        else
                        (some (α := ODen (T_spec_l26Act_sg N).ps × RDen (T_spec_l26Act_sg N).rs) ((), (e1, ()))))
                      else
                      (some (α := ODen (T_spec_l26Act_sg N).ps × RDen (T_spec_l26Act_sg N).rs) ((), (e1, ()))))))) else none)))))) := by kernel_rfl
  rw [h]
  (try simp only [T_spec_l26Act_lp0_eq, T_spec_l26Act_c1, T_spec_l26Act_lp1_eq, T_spec_l26Act_c2]) <;> rfl

theorem T_spec_l26Act_ok (N : Nat) : chkBody Try.f64 (T_spec_l26Act_sg N).ps = true := by kernel_rfl

theorem T_spec_l26Act_callable : Callable Try.prog 64 := callable_of Try.func64 (show chkFn Try.f64 = true by kernel_rfl)

theorem T_spec_l26Act_good (N : Nat) : Good Try.prog 64 (T_spec_l26Act_sg N) :=
  good_body mixedOk tabOk (ctx_cons (T_spec_l26Move_good N) T_spec_l26Move_callable (ctx_cons (T_spec_l1In_good N) T_spec_l1In_callable ctx_nil)) Try.func64 (T_spec_l26Act_ok N) (fun d _ h => ⟨N, (T_spec_l26Act_den N d.1 d.2.1).trans h⟩)

noncomputable def T_spec_EpochPlay_sg (N : Nat) : Sig := Sig.of [.v (.slice (.prod (.int .i64) (.prod (.int .i64) (.int .i64)))) false] [.v (.prod (.int .i64) (.prod (.own (.int .i64)) (.prod (.own (.bool)) (.prod (.own (.prod (.int .i64) (.int .i64))) (.prod (.own (.prod (.int .i64) (.int .i64))) (.own (.int .i64))))))) true] (fun d => T_spec_EpochPlay N d.1)

def T_spec_EpochPlay_ann : Nat → List Ghost
  | 5 => [.canon [0, 2, 3, 4, 13]]
  | 6 => [.canon [0, 2, 3, 4]]
  | 7 => [.canon [0, 2, 3, 4]]
  | 100005 => [.canon [0, 2, 3, 4]]
  | _ => []

noncomputable def T_spec_EpochPlay_ctx (N : Nat) : Ctx := [(63, T_spec_l26New_sg N), (64, T_spec_l26Act_sg N)]

def T_spec_EpochPlay_lp0_sh (acts3 : List (Int × Int × Int)) (i4 : Int) (b6 : Int) (l7 : List Int) (l8 : List Bool) (l9 : List (Int × Int)) (l10 : List (Int × Int)) (l11 : List Int) : St := { env := [(0, .s (.one (.val (.slice (.prod (.int .i64) (.prod (.int .i64) (.int .i64)))) (acts3 : List (Int × Int × Int))))), (2, .s (.one (.ptr 0 0))), (3, .s (.one (.ptr 1 0))), (4, .s (.one (.val (.int .i64) (i4 : Int))))], objs := [(0, .box [.val (.int .i64) ((0 : Int) : Int), .nils, .nils, .nils, .nils, .nils]), (1, .box [.val (.int .i64) (b6 : Int), .own 2, .own 3, .own 4, .own 5, .own 6]), (2, .arr (.int .i64) (l7 : List Int)), (3, .arr (.bool) (l8 : List Bool)), (4, .arr (.prod (.int .i64) (.int .i64)) (l9 : List (Int × Int))), (5, .arr (.prod (.int .i64) (.int .i64)) (l10 : List (Int × Int))), (6, .arr (.int .i64) (l11 : List Int))], nx := 7 }

def T_spec_EpochPlay_lp0_e0 (acts3 : List (Int × Int × Int)) (i14 : Int) (t15 : Bool) (b16 : Int) (l17 : List Int) (l18 : List Bool) (l19 : List (Int × Int)) (l20 : List (Int × Int)) (l21 : List Int) : St := { env := [(0, .s (.one (.val (.slice (.prod (.int .i64) (.prod (.int .i64) (.int .i64)))) (acts3 : List (Int × Int × Int))))), (2, .s (.one (.ptr 0 0))), (3, .s (.one (.ptr 1 0))), (4, .s (.one (.val (.int .i64) (i14 : Int)))), (13, .s (.one (.val (.bool) (t15 : Bool))))], objs := [(0, .box [.val (.int .i64) ((0 : Int) : Int), .nils, .nils, .nils, .nils, .nils]), (1, .box [.val (.int .i64) (b16 : Int), .own 2, .own 3, .own 4, .own 5, .own 6]), (2, .arr (.int .i64) (l17 : List Int)), (3, .arr (.bool) (l18 : List Bool)), (4, .arr (.prod (.int .i64) (.int .i64)) (l19 : List (Int × Int))), (5, .arr (.prod (.int .i64) (.int .i64)) (l20 : List (Int × Int))), (6, .arr (.int .i64) (l21 : List Int))], nx := 7 }

noncomputable def T_spec_EpochPlay_lp0_m (N : Nat) {R : Type} (n : Nat) (st : St) (K : Ex → St → Option R) : Option R := loopN (roundG (T_spec_EpochPlay_ann 100005) fun st k => sx tab (T_spec_EpochPlay_ctx N) T_spec_EpochPlay_ann N (nthLoop Try.f18 0) st k) n st K

theorem T_spec_EpochPlay_lp0_step (N : Nat) {R : Type} (n : Nat) (K : Ex → St → Option R) (acts3 : List (Int × Int × Int)) (i4 : Int) (b6 : Int) (l7 : List Int) (l8 : List Bool) (l9 : List (Int × Int)) (l10 : List (Int × Int)) (l11 : List Int) :
    T_spec_EpochPlay_lp0_m N (n + 1) (T_spec_EpochPlay_lp0_sh acts3 i4 b6 l7 l8 l9 l10 l11) K =
    (bif decide (i4 < (ilen acts3)) then
    (bif inb i4 (List.length acts3) then
      ((T_spec_l26Act N (b6, (l7, (l8, (l9, (l10, l11))))) (List.getD acts3 (Int.toNat i4) ((0 : Int), ((0 : Int), (0 : Int))))).bind fun o22 =>
        (T_spec_EpochPlay_lp0_m N n (T_spec_EpochPlay_lp0_sh acts3 (iadd .i64 i4 (1 : Int)) o22.2.1.1 o22.2.1.2.1 o22.2.1.2.2.1 o22.2.1.2.2.2.1 o22.2.1.2.2.2.2.1 o22.2.1.2.2.2.2.2) K)) else none)
    else
    (K (.exit 0) (T_spec_EpochPlay_lp0_e0 acts3 i4 (decide (i4 < (ilen acts3))) b6 l7 l8 l9 l10 l11))) := by kernel_rfl

theorem T_spec_EpochPlay_lp0_eq (N : Nat) {R : Type} (acts3 : List (Int × Int × Int)) (K : Ex → St → Option R) : ∀ (n : Nat) (i4 : Int) (b6 : Int) (l7 : List Int) (l8 : List Bool) (l9 : List (Int × Int)) (l10 : List (Int × Int)) (l11 : List Int), T_spec_EpochPlay_lp0_m N n (T_spec_EpochPlay_lp0_sh acts3 i4 b6 l7 l8 l9 l10 l11) K = T_spec_EpochPlay_lp0 N acts3 (fun i14 t15 b16 l17 l18 l19 l20 l21 => (K (.exit 0) (T_spec_EpochPlay_lp0_e0 acts3 i14 t15 b16 l17 l18 l19 l20 l21))) n i4 b6 l7 l8 l9 l10 l11
  | 0, _, _, _, _, _, _, _ => rfl
  | n + 1, i4, b6, l7, l8, l9, l10, l11 => by rw [T_spec_EpochPlay_lp0_step, T_spec_EpochPlay_lp0]; (try simp only [T_spec_EpochPlay_lp0_eq N acts3 K n])

theorem T_spec_EpochPlay_c1 (N : Nat) (acts1 : List (Int × Int × Int)) (i23 : Int) (t24 : Bool) (b25 : Int) (l26 : List Int) (l27 : List Bool) (l28 : List (Int × Int)) (l29 : List (Int × Int)) (l30 : List Int) :
    ((ctxK (R := ODen (T_spec_EpochPlay_sg N).ps × RDen (T_spec_EpochPlay_sg N).rs) tab (T_spec_EpochPlay_ctx N) T_spec_EpochPlay_ann N (theCode Try.f18) [1, 1, 1, 0, 1, 0] (retK tab (T_spec_EpochPlay_sg N) Try.f18.results.toList some)) (.exit 0) (T_spec_EpochPlay_lp0_e0 acts1 i23 t24 b25 l26 l27 l28 l29 l30)) =
    (some (α := ODen (T_spec_EpochPlay_sg N).ps × RDen (T_spec_EpochPlay_sg N).rs) ((), ((b25, (l26, (l27, (l28, (l29, l30))))), ()))) := by kernel_rfl

theorem T_spec_EpochPlay_den (N : Nat) (acts1 : List (Int × Int × Int)) :
    den (R := ODen (T_spec_EpochPlay_sg N).ps × RDen (T_spec_EpochPlay_sg N).rs) tab (T_spec_EpochPlay_ctx N) T_spec_EpochPlay_ann N (T_spec_EpochPlay_sg N) Try.f18 (acts1, ()) some =
    (bif decide ((ilen acts1) > (200 : Int)) then
    (some (α := ODen (T_spec_EpochPlay_sg N).ps × RDen (T_spec_EpochPlay_sg N).rs) ((), (((0 : Int), (([] : List Int), (([] : List Bool), (([] : List (Int × Int)), (([] : List (Int × Int)), ([] : List Int)))))), ())))
    else
    ((T_spec_l26New N).bind fun o2 =>
      (T_spec_EpochPlay_lp0 N acts1
        (fun i23 t24 b25 l26 l27 l28 l29 l30 =>
          (some (α := ODen (T_spec_EpochPlay_sg N).ps × RDen (T_spec_EpochPlay_sg N).rs) ((), ((b25, (l26, (l27, (l28, (l29, l30))))), ()))))
         N (0 : Int) o2.2.1.1 o2.2.1.2.1 o2.2.1.2.2.1 o2.2.1.2.2.2.1 o2.2.1.2.2.2.2.1 o2.2.1.2.2.2.2.2))) := by
  have h : den (R := ODen (T_spec_EpochPlay_sg N).ps × RDen (T_spec_EpochPlay_sg N).rs) tab (T_spec_EpochPlay_ctx N) T_spec_EpochPlay_ann N (T_spec_EpochPlay_sg N) Try.f18 (acts1, ()) some =
    (bif decide ((ilen acts1) > (200 : Int)) then
    (some (α := ODen (T_spec_EpochPlay_sg N).ps × RDen (T_spec_EpochPlay_sg N).rs) ((), (((0 : Int), (([] : List Int), (([] : List Bool), (([] : List (Int × Int)), (([] : List (Int × Int)), ([] : List Int)))))), ())))
    else
    ((T_spec_l26New N).bind fun o2 =>
      (T_spec_EpochPlay_lp0_m N N (T_spec_EpochPlay_lp0_sh acts1 (0 : Int) o2.2.1.1 o2.2.1.2.1 o2.2.1.2.2.1 o2.2.1.2.2.2.1 o2.2.1.2.2.2.2.1 o2.2.1.2.2.2.2.2) (ctxK (R := ODen (T_spec_EpochPlay_sg N).ps × RDen (T_spec_EpochPlay_sg N).rs) tab (T_spec_EpochPlay_ctx N) T_spec_EpochPlay_ann N (theCode Try.f18) [1, 1, 1, 0, 1, 0] (retK tab (T_spec_EpochPlay_sg N) Try.f18.results.toList some))))) := by kernel_rfl
  rw [h]
  (try simp only [T_spec_EpochPlay_lp0_eq, T_spec_EpochPlay_c1]) <;> rfl

theorem T_spec_EpochPlay_ok (N : Nat) : chkBody Try.f18 (T_spec_EpochPlay_sg N).ps = true := by kernel_rfl

theorem T_spec_EpochPlay_callable : Callable Try.prog 18 := callable_of Try.func18 (show chkFn Try.f18 = true by kernel_rfl)

theorem T_spec_EpochPlay_good (N : Nat) : Good Try.prog 18 (T_spec_EpochPlay_sg N) :=
  good_body mixedOk tabOk (ctx_cons (T_spec_l26New_good N) T_spec_l26New_callable (ctx_cons (T_spec_l26Act_good N) T_spec_l26Act_callable ctx_nil)) Try.func18 (T_spec_EpochPlay_ok N) (fun d _ h => ⟨N, (T_spec_EpochPlay_den N d.1).trans h⟩)

noncomputable def T_spec_EpochFlush_sg (N : Nat) : Sig := Sig.of [.v (.slice (.prod (.int .i64) (.prod (.int .i64) (.int .i64)))) false] [.v (.prod (.int .i64) (.prod (.own (.int .i64)) (.prod (.own (.bool)) (.prod (.own (.prod (.int .i64) (.int .i64))) (.prod (.own (.prod (.int .i64) (.int .i64))) (.own (.int .i64))))))) true] (fun d => T_spec_EpochFlush N d.1)

def T_spec_EpochFlush_ann : Nat → List Ghost
  | 5 => [.canon [2, 3, 4, 13]]
  | 6 => [.canon [2, 3, 4]]
  | 7 => [.canon [2, 3, 4]]
  | 100005 => [.canon [2, 3, 4]]
  | _ => []

noncomputable def T_spec_EpochFlush_ctx (N : Nat) : Ctx := [(18, T_spec_EpochPlay_sg N), (64, T_spec_l26Act_sg N), (77, T_spec_l26Move_sg N)]

def T_spec_EpochFlush_lp0_sh (t3 : Int) (b5 : Int) (l6 : List Int) (l7 : List Bool) (l8 : List (Int × Int)) (l9 : List (Int × Int)) (l10 : List Int) : St := { env := [(2, .s (.one (.ptr 0 0))), (3, .s (.one (.ptr 1 0))), (4, .s (.one (.val (.int .i64) (t3 : Int))))], objs := [(0, .box [.val (.int .i64) ((0 : Int) : Int), .nils, .nils, .nils, .nils, .nils]), (1, .box [.val (.int .i64) (b5 : Int), .own 2, .own 3, .own 4, .own 5, .own 6]), (2, .arr (.int .i64) (l6 : List Int)), (3, .arr (.bool) (l7 : List Bool)), (4, .arr (.prod (.int .i64) (.int .i64)) (l8 : List (Int × Int))), (5, .arr (.prod (.int .i64) (.int .i64)) (l9 : List (Int × Int))), (6, .arr (.int .i64) (l10 : List Int))], nx := 7 }

def T_spec_EpochFlush_lp0_e0 (t13 : Int) (t14 : Bool) (b15 : Int) (l16 : List Int) (l17 : List Bool) (l18 : List (Int × Int)) (l19 : List (Int × Int)) (l20 : List Int) : St := { env := [(2, .s (.one (.ptr 0 0))), (3, .s (.one (.ptr 1 0))), (4, .s (.one (.val (.int .i64) (t13 : Int)))), (13, .s (.one (.val (.bool) (t14 : Bool))))], objs := [(0, .box [.val (.int .i64) ((0 : Int) : Int), .nils, .nils, .nils, .nils, .nils]), (1, .box [.val (.int .i64) (b15 : Int), .own 2, .own 3, .own 4, .own 5, .own 6]), (2, .arr (.int .i64) (l16 : List Int)), (3, .arr (.bool) (l17 : List Bool)), (4, .arr (.prod (.int .i64) (.int .i64)) (l18 : List (Int × Int))), (5, .arr (.prod (.int .i64) (.int .i64)) (l19 : List (Int × Int))), (6, .arr (.int .i64) (l20 : List Int))], nx := 7 }

noncomputable def T_spec_EpochFlush_lp0_m (N : Nat) {R : Type} (n : Nat) (st : St) (K : Ex → St → Option R) : Option R := loopN (roundG (T_spec_EpochFlush_ann 100005) fun st k => sx tab (T_spec_EpochFlush_ctx N) T_spec_EpochFlush_ann N (nthLoop Try.f25 0) st k) n st K

theorem T_spec_EpochFlush_lp0_step (N : Nat) {R : Type} (n : Nat) (K : Ex → St → Option R) (t3 : Int) (b5 : Int) (l6 : List Int) (l7 : List Bool) (l8 : List (Int × Int)) (l9 : List (Int × Int)) (l10 : List Int) :
    T_spec_EpochFlush_lp0_m N (n + 1) (T_spec_EpochFlush_lp0_sh t3 b5 l6 l7 l8 l9 l10) K =
    (bif decide (t3 < (3 : Int)) then
    ((T_spec_l26Act N (b5, (l6, (l7, (l8, (l9, l10))))) ((2 : Int), (t3, (0 : Int)))).bind fun o21 =>
      (T_spec_EpochFlush_lp0_m N n (T_spec_EpochFlush_lp0_sh (iadd .i64 t3 (1 : Int)) o21.2.1.1 o21.2.1.2.1 o21.2.1.2.2.1 o21.2.1.2.2.2.1 o21.2.1.2.2.2.2.1 o21.2.1.2.2.2.2.2) K))
    else
    (K (.exit 0) (T_spec_EpochFlush_lp0_e0 t3 (decide (t3 < (3 : Int))) b5 l6 l7 l8 l9 l10))) := by kernel_rfl

theorem T_spec_EpochFlush_lp0_eq (N : Nat) {R : Type} (K : Ex → St → Option R) : ∀ (n : Nat) (t3 : Int) (b5 : Int) (l6 : List Int) (l7 : List Bool) (l8 : List (Int × Int)) (l9 : List (Int × Int)) (l10 : List Int), T_spec_EpochFlush_lp0_m N n (T_spec_EpochFlush_lp0_sh t3 b5 l6 l7 l8 l9 l10) K = T_spec_EpochFlush_lp0 N (fun t13 t14 b15 l16 l17 l18 l19 l20 => (K (.exit 0) (T_spec_EpochFlush_lp0_e0 t13 t14 b15 l16 l17 l18 l19 l20))) n t3 b5 l6 l7 l8 l9 l10
  | 0, _, _, _, _, _, _, _ => rfl
  | n + 1, t3, b5, l6, l7, l8, l9, l10 => by rw [T_spec_EpochFlush_lp0_step, T_spec_EpochFlush_lp0]; (try simp only [T_spec_EpochFlush_lp0_eq N K n])

theorem T_spec_EpochFlush_c1 (N : Nat) (t22 : Int) (t23 : Bool) (b24 : Int) (l25 : List Int) (l26 : List Bool) (l27 : List (Int × Int)) (l28 : List (Int × Int)) (l29 : List Int) :
    ((ctxK (R := ODen (T_spec_EpochFlush_sg N).ps × RDen (T_spec_EpochFlush_sg N).rs) tab (T_spec_EpochFlush_ctx N) T_spec_EpochFlush_ann N (theCode Try.f25) [1, 1, 1, 0, 1, 0] (retK tab (T_spec_EpochFlush_sg N) Try.f25.results.toList some)) (.exit 0) (T_spec_EpochFlush_lp0_e0 t22 t23 b24 l25 l26 l27 l28 l29)) =
    ((T_spec_l26Move N (b24, (l25, (l26, (l27, (l28, l29)))))).bind fun o30 =>
    ((T_spec_l26Move N o30.2.1).bind fun o31 =>
      (some (α := ODen (T_spec_EpochFlush_sg N).ps × RDen (T_spec_EpochFlush_sg N).rs) ((), (o31.2.1, ()))))) := by kernel_rfl

theorem T_spec_EpochFlush_den (N : Nat) (acts1 : List (Int × Int × Int)) :
    den (R := ODen (T_spec_EpochFlush_sg N).ps × RDen (T_spec_EpochFlush_sg N).rs) tab (T_spec_EpochFlush_ctx N) T_spec_EpochFlush_ann N (T_spec_EpochFlush_sg N) Try.f25 (acts1, ()) some =
    ((T_spec_EpochPlay N acts1).bind fun o2 =>
    (bif (ilen o2.2.1.2.1) == (0 : Int) then
      (some (α := ODen (T_spec_EpochFlush_sg N).ps × RDen (T_spec_EpochFlush_sg N).rs) ((), (o2.2.1, ())))
      else
      (T_spec_EpochFlush_lp0 N
        (fun t22 t23 b24 l25 l26 l27 l28 l29 =>
          ((T_spec_l26Move N (b24, (l25, (l26, (l27, (l28, l29)))))).bind fun o30 =>
            ((T_spec_l26Move N o30.2.1).bind fun o31 =>
              (some (α := ODen (T_spec_EpochFlush_sg N).ps × RDen (T_spec_EpochFlush_sg N).rs) ((), (o31.2.1, ()))))))
         N (0 : Int) o2.2.1.1 o2.2.1.2.1 o2.2.1.2.2.1 o2.2.1.2.2.2.1 o2.2.1.2.2.2.2.1 o2.2.1.2.2.2.2.2))) := by
  have h : den (R := ODen (T_spec_EpochFlush_sg N).ps × RDen (T_spec_EpochFlush_sg N).rs) tab (T_spec_EpochFlush_ctx N) T_spec_EpochFlush_ann N (T_spec_EpochFlush_sg N) Try.f25 (acts1, ()) some =
    ((T_spec_EpochPlay N acts1).bind fun o2 =>
    (bif (ilen o2.2.1.2.1) == (0 : Int) then
      (some (α := ODen (T_spec_EpochFlush_sg N).ps × RDen (T_spec_EpochFlush_sg N).rs) ((), (o2.2.1, ())))
      else
      (T_spec_EpochFlush_lp0_m N N (T_spec_EpochFlush_lp0_sh (0 : Int) o2.2.1.1 o2.2.1.2.1 o2.2.1.2.2.1 o2.2.1.2.2.2.1 o2.2.1.2.2.2.2.1 o2.2.1.2.2.2.2.2) (ctxK (R := ODen (T_spec_EpochFlush_sg N).ps × RDen (T_spec_EpochFlush_sg N).rs) tab (T_spec_EpochFlush_ctx N) T_spec_EpochFlush_ann N (theCode Try.f25) [1, 1, 1, 0, 1, 0] (retK tab (T_spec_EpochFlush_sg N) Try.f25.results.toList some))))) := by kernel_rfl
  rw [h]
  (try simp only [T_spec_EpochFlush_lp0_eq, T_spec_EpochFlush_c1]) <;> rfl

theorem T_spec_EpochFlush_ok (N : Nat) : chkBody Try.f25 (T_spec_EpochFlush_sg N).ps = true := by kernel_rfl

theorem T_spec_EpochFlush_callable : Callable Try.prog 25 := callable_of Try.func25 (show chkFn Try.f25 = true by kernel_rfl)

theorem T_spec_EpochFlush_good (N : Nat) : Good Try.prog 25 (T_spec_EpochFlush_sg N) :=
  good_body mixedOk tabOk (ctx_cons (T_spec_EpochPlay_good N) T_spec_EpochPlay_callable (ctx_cons (T_spec_l26Act_good N) T_spec_l26Act_callable (ctx_cons (T_spec_l26Move_good N) T_spec_l26Move_callable ctx_nil))) Try.func25 (T_spec_EpochFlush_ok N) (fun d _ h => ⟨N, (T_spec_EpochFlush_den N d.1).trans h⟩)

noncomputable def T_impl_Epochs_move_sg (N : Nat) : Sig := Sig.of [.box (.prod (.int .i64) (.prod (.own (.int .i64)) (.prod (.own (.bool)) (.prod (.own (.prod (.int .i64) (.int .i64))) (.prod (.own (.prod (.int .i64) (.int .i64))) (.own (.int .i64)))))))] [] (fun d => T_impl_Epochs_move N d.1)

def T_impl_Epochs_move_ann : Nat → List Ghost
  | 1 => [.canon [0, 10, 11, 12, 13]]
  | 2 => [.canon [0, 3, 10, 11, 12]]
  | 3 => [.canon [0, 10, 11, 12, 25]]
  | 4 => [.canon [0, 10, 11, 12]]
  | 8 => [.canon [0, 4, 38, 39, 40, 41]]
  | 9 => [.canon [0, 4, 6, 38, 39, 40]]
  | 10 => [.canon [0, 4, 6, 38, 39, 40, 51]]
  | 11 => [.canon [0, 4, 38, 39, 40]]
  | 12 => [.canon [0, 4, 38, 39, 40]]
  | 13 => [.canon [0, 4, 38, 39, 40]]
  | 100001 => [.canon [0, 10, 11, 12]]
  | 100008 => [.canon [0, 4, 38, 39, 40]]
  | _ => []

noncomputable def T_impl_Epochs_move_ctx (N : Nat) : Ctx := []

def T_impl_Epochs_move_lp0_sh (t2 : Int) (t3 : Int) (b4 : Int) (l5 : List Int) (l6 : List Bool) (l7 : List (Int × Int)) (l8 : List (Int × Int)) (l9 : List Int) : St := { env := [(0, .s (.one (.ptr 0 0))), (10, .s (.one (.own 1))), (11, .s (.one (.val (.int .i64) (t2 : Int)))), (12, .s (.one (.val (.int .i64) (t3 : Int))))], objs := [(0, .box [.val (.int .i64) (b4 : Int), .own 1, .own 2, .own 3, .own 4, .own 5]), (1, .arr (.int .i64) (l5 : List Int)), (2, .arr (.bool) (l6 : List Bool)), (3, .arr (.prod (.int .i64) (.int .i64)) (l7 : List (Int × Int))), (4, .arr (.prod (.int .i64) (.int .i64)) (l8 : List (Int × Int))), (5, .arr (.int .i64) (l9 : List Int))], nx := 6 }

def T_impl_Epochs_move_lp0_e0 (t2 : Int) (b4 : Int) (l5 : List Int) (l6 : List Bool) (l7 : List (Int × Int)) (l8 : List (Int × Int)) (l9 : List Int) (t10 : Int) (t11 : Bool) : St := { env := [(0, .s (.one (.ptr 0 0))), (10, .s (.one (.own 1))), (11, .s (.one (.val (.int .i64) (t2 : Int)))), (12, .s (.one (.val (.int .i64) (t10 : Int)))), (25, .s (.one (.val (.bool) (t11 : Bool))))], objs := [(0, .box [.val (.int .i64) (b4 : Int), .own 1, .own 2, .own 3, .own 4, .own 5]), (1, .arr (.int .i64) (l5 : List Int)), (2, .arr (.bool) (l6 : List Bool)), (3, .arr (.prod (.int .i64) (.int .i64)) (l7 : List (Int × Int))), (4, .arr (.prod (.int .i64) (.int .i64)) (l8 : List (Int × Int))), (5, .arr (.int .i64) (l9 : List Int))], nx := 6 }

def T_impl_Epochs_move_lp0_e1 (t2 : Int) (b4 : Int) (l5 : List Int) (l6 : List Bool) (l7 : List (Int × Int)) (l8 : List (Int × Int)) (l9 : List Int) (t12 : Int) (t13 : Bool) : St := { env := [(0, .s (.one (.ptr 0 0))), (10, .s (.one (.own 1))), (11, .s (.one (.val (.int .i64) (t2 : Int)))), (12, .s (.one (.val (.int .i64) (t12 : Int)))), (13, .s (.one (.val (.bool) (t13 : Bool))))], objs := [(0, .box [.val (.int .i64) (b4 : Int), .own 1, .own 2, .own 3, .own 4, .own 5]), (1, .arr (.int .i64) (l5 : List Int)), (2, .arr (.bool) (l6 : List Bool)), (3, .arr (.prod (.int .i64) (.int .i64)) (l7 : List (Int × Int))), (4, .arr (.prod (.int .i64) (.int .i64)) (l8 : List (Int × Int))), (5, .arr (.int .i64) (l9 : List Int))], nx := 6 }

noncomputable def T_impl_Epochs_move_lp0_m (N : Nat) {R : Type} (n : Nat) (st : St) (K : Ex → St → Option R) : Option R := loopN (roundG (T_impl_Epochs_move_ann 100001) fun st k => sx tab (T_impl_Epochs_move_ctx N) T_impl_Epochs_move_ann N (nthLoop Try.f56 0) st k) n st K

theorem T_impl_Epochs_move_lp0_step (N : Nat) {R : Type} (n : Nat) (K : Ex → St → Option R) (t2 : Int) (t3 : Int) (b4 : Int) (l5 : List Int) (l6 : List Bool) (l7 : List (Int × Int)) (l8 : List (Int × Int)) (l9 : List Int) :
    T_impl_Epochs_move_lp0_m N (n + 1) (T_impl_Epochs_move_lp0_sh t2 t3 b4 l5 l6 l7 l8 l9) K =
    (bif decide (t3 < t2) then
    (bif inb t3 (List.length l5) then
      (bif decide ((List.getD l5 (Int.toNat t3) (0 : Int)) ≥ (0 : Int)) then
        (bif (List.getD l5 (Int.toNat t3) (0 : Int)) != b4 then
          (K .ret (T_impl_Epochs_move_lp0_e0 t2 b4 l5 l6 l7 l8 l9 t3 ((List.getD l5 (Int.toNat t3) (0 : Int)) != b4)))
          else
          (T_impl_Epochs_move_lp0_m N n (T_impl_Epochs_move_lp0_sh t2 (iadd .i64 t3 (1 : Int)) b4 l5 l6 l7 l8 l9) K))
        else
        (T_impl_Epochs_move_lp0_m N n (T_impl_Epochs_move_lp0_sh t2 (iadd .i64 t3 (1 : Int)) b4 l5 l6 l7 l8 l9) K)) else none)
    else
    (K (.exit 0) (T_impl_Epochs_move_lp0_e1 t2 b4 l5 l6 l7 l8 l9 t3 (decide (t3 < t2))))) := by kernel_rfl

theorem T_impl_Epochs_move_lp0_eq (N : Nat) {R : Type} (t2 : Int) (b4 : Int) (l5 : List Int) (l6 : List Bool) (l7 : List (Int × Int)) (l8 : List (Int × Int)) (l9 : List Int) (K : Ex → St → Option R) : ∀ (n : Nat) (t3 : Int), T_impl_Epochs_move_lp0_m N n (T_impl_Epochs_move_lp0_sh t2 t3 b4 l5 l6 l7 l8 l9) K = T_impl_Epochs_move_lp0 N t2 b4 l5 l6 l7 l8 l9 (fun t10 t11 => (K .ret (T_impl_Epochs_move_lp0_e0 t2 b4 l5 l6 l7 l8 l9 t10 t11))) (fun t12 t13 => (K (.exit 0) (T_impl_Epochs_move_lp0_e1 t2 b4 l5 l6 l7 l8 l9 t12 t13))) n t3
  | 0, _ => rfl
  | n + 1, t3 => by rw [T_impl_Epochs_move_lp0_step, T_impl_Epochs_move_lp0]; (try simp only [T_impl_Epochs_move_lp0_eq N t2 b4 l5 l6 l7 l8 l9 K n])

def T_impl_Epochs_move_lp1_sh (t18 : Int) (t19 : Int) (b20 : Int) (l21 : List (Int × Int)) (l22 : List (Int × Int)) (l23 : List Int) (l24 : List Bool) (l25 : List (Int × Int)) (l26 : List Int) : St := { env := [(0, .s (.one (.ptr 0 0))), (4, .s (.one (.own 1))), (38, .s (.one (.own 2))), (39, .s (.one (.val (.int .i64) (t18 : Int)))), (40, .s (.one (.val (.int .i64) (t19 : Int))))], objs := [(0, .box [.val (.int .i64) (b20 : Int), .own 3, .own 4, .own 2, .own 5, .own 6]), (1, .arr (.prod (.int .i64) (.int .i64)) (l21 : List (Int × Int))), (2, .arr (.prod (.int .i64) (.int .i64)) (l22 : List (Int × Int))), (3, .arr (.int .i64) (l23 : List Int)), (4, .arr (.bool) (l24 : List Bool)), (5, .arr (.prod (.int .i64) (.int .i64)) (l25 : List (Int × Int))), (6, .arr (.int .i64) (l26 : List Int))], nx := 7 }

def T_impl_Epochs_move_lp1_e0 (t18 : Int) (b20 : Int) (l22 : List (Int × Int)) (l23 : List Int) (l24 : List Bool) (l25 : List (Int × Int)) (t27 : Int) (t28 : Bool) (l29 : List (Int × Int)) (l30 : List Int) : St := { env := [(0, .s (.one (.ptr 0 0))), (4, .s (.one (.own 1))), (38, .s (.one (.own 2))), (39, .s (.one (.val (.int .i64) (t18 : Int)))), (40, .s (.one (.val (.int .i64) (t27 : Int)))), (41, .s (.one (.val (.bool) (t28 : Bool))))], objs := [(0, .box [.val (.int .i64) (b20 : Int), .own 3, .own 4, .own 2, .own 5, .own 6]), (1, .arr (.prod (.int .i64) (.int .i64)) (l29 : List (Int × Int))), (2, .arr (.prod (.int .i64) (.int .i64)) (l22 : List (Int × Int))), (3, .arr (.int .i64) (l23 : List Int)), (4, .arr (.bool) (l24 : List Bool)), (5, .arr (.prod (.int .i64) (.int .i64)) (l25 : List (Int × Int))), (6, .arr (.int .i64) (l30 : List Int))], nx := 7 }

noncomputable def T_impl_Epochs_move_lp1_m (N : Nat) {R : Type} (n : Nat) (st : St) (K : Ex → St → Option R) : Option R := loopN (roundG (T_impl_Epochs_move_ann 100008) fun st k => sx tab (T_impl_Epochs_move_ctx N) T_impl_Epochs_move_ann N (nthLoop Try.f56 1) st k) n st K

theorem T_impl_Epochs_move_lp1_step (N : Nat) {R : Type} (n : Nat) (K : Ex → St → Option R) (t18 : Int) (t19 : Int) (b20 : Int) (l21 : List (Int × Int)) (l22 : List (Int × Int)) (l23 : List Int) (l24 : List Bool) (l25 : List (Int × Int)) (l26 : List Int) :
    T_impl_Epochs_move_lp1_m N (n + 1) (T_impl_Epochs_move_lp1_sh t18 t19 b20 l21 l22 l23 l24 l25 l26) K =
    (bif decide (t19 < t18) then
    (bif inb t19 (List.length l22) then
      (bif decide ((List.getD l22 (Int.toNat t19) ((0 : Int), (0 : Int))).2 ≤ (isub .i64 b20 (2 : Int))) then
        (bif room ((List.length l26) + (List.length ([(List.getD l22 (Int.toNat t19) ((0 : Int), (0 : Int))).1]))) then
          (T_impl_Epochs_move_lp1_m N n (T_impl_Epochs_move_lp1_sh t18 (iadd .i64 t19 (1 : Int)) b20 l21 l22 l23 l24 l25 (List.append l26 ([(List.getD l22 (Int.toNat t19) ((0 : Int), (0 : Int))).1]))) K) else none)
        else
        (bif room ((List.length l21) + (List.length ([(List.getD l22 (Int.toNat t19) ((0 : Int), (0 : Int)))]))) then
          (T_impl_Epochs_move_lp1_m N n (T_impl_Epochs_move_lp1_sh t18 (iadd .i64 t19 (1 : Int)) b20 (List.append l21 ([(List.getD l22 (Int.toNat t19) ((0 : Int), (0 : Int)))])) l22 l23 l24 l25 l26) K) else none)) else none)
    else
    (K (.exit 2) (T_impl_Epochs_move_lp1_e0 t18 b20 l22 l23 l24 l25 t19 (decide (t19 < t18)) l21 l26))) := by kernel_rfl

theorem T_impl_Epochs_move_lp1_eq (N : Nat) {R : Type} (t18 : Int) (b20 : Int) (l22 : List (Int × Int)) (l23 : List Int) (l24 : List Bool) (l25 : List (Int × Int)) (K : Ex → St → Option R) : ∀ (n : Nat) (t19 : Int) (l21 : List (Int × Int)) (l26 : List Int), T_impl_Epochs_move_lp1_m N n (T_impl_Epochs_move_lp1_sh t18 t19 b20 l21 l22 l23 l24 l25 l26) K = T_impl_Epochs_move_lp1 N t18 b20 l22 l23 l24 l25 (fun t27 t28 l29 l30 => (K (.exit 2) (T_impl_Epochs_move_lp1_e0 t18 b20 l22 l23 l24 l25 t27 t28 l29 l30))) n t19 l21 l26
  | 0, _, _, _ => rfl
  | n + 1, t19, l21, l26 => by rw [T_impl_Epochs_move_lp1_step, T_impl_Epochs_move_lp1]; (try simp only [T_impl_Epochs_move_lp1_eq N t18 b20 l22 l23 l24 l25 K n])

theorem T_impl_Epochs_move_c1 (N : Nat) (e1 : Int × List Int × List Bool × List (Int × Int) × List (Int × Int) × List Int) (t14 : Int) (t15 : Bool) :
    ((ctxK (R := ODen (T_impl_Epochs_move_sg N).ps × RDen (T_impl_Epochs_move_sg N).rs) tab (T_impl_Epochs_move_ctx N) T_impl_Epochs_move_ann N (theCode Try.f56) [0, 1, 0] (retK tab (T_impl_Epochs_move_sg N) Try.f56.results.toList some)) .ret (T_impl_Epochs_move_lp0_e0 (ilen e1.2.1) e1.1 e1.2.1 e1.2.2.1 e1.2.2.2.1 e1.2.2.2.2.1 e1.2.2.2.2.2 t14 t15)) =
    (some (α := ODen (T_impl_Epochs_move_sg N).ps × RDen (T_impl_Epochs_move_sg N).rs) ((e1, ()), ())) := by kernel_rfl

theorem T_impl_Epochs_move_c3 (N : Nat) (e1 : Int × List Int × List Bool × List (Int × Int) × List (Int × Int) × List Int) (t31 : Int) (t32 : Bool) (l33 : List (Int × Int)) (l34 : List Int) :
    ((ctxK (R := ODen (T_impl_Epochs_move_sg N).ps × RDen (T_impl_Epochs_move_sg N).rs) tab (T_impl_Epochs_move_ctx N) T_impl_Epochs_move_ann N (theCode Try.f56) [1, 1, 1, 0, 1, 0] (retK tab (T_impl_Epochs_move_sg N) Try.f56.results.toList some)) (.exit 2) (T_impl_Epochs_move_lp1_e0 (ilen e1.2.2.2.1) (iadd .i64 e1.1 (1 : Int)) e1.2.2.2.1 e1.2.1 e1.2.2.1 e1.2.2.2.2.1 t31 t32 l33 l34)) =
    (some (α := ODen (T_impl_Epochs_move_sg N).ps × RDen (T_impl_Epochs_move_sg N).rs) (((iadd .i64 e1.1 (1 : Int), (e1.2.1, (e1.2.2.1, (l33, (e1.2.2.2.2.1, l34))))), ()), ())) := by kernel_rfl

theorem T_impl_Epochs_move_c2 (N : Nat) (e1 : Int × List Int × List Bool × List (Int × Int) × List (Int × Int) × List Int) (t16 : Int) (t17 : Bool) :
    ((ctxK (R := ODen (T_impl_Epochs_move_sg N).ps × RDen (T_impl_Epochs_move_sg N).rs) tab (T_impl_Epochs_move_ctx N) T_impl_Epochs_move_ann N (theCode Try.f56) [0, 1, 0] (retK tab (T_impl_Epochs_move_sg N) Try.f56.results.toList some)) (.exit 0) (T_impl_Epochs_move_lp0_e1 (ilen e1.2.1) e1.1 e1.2.1 e1.2.2.1 e1.2.2.2.1 e1.2.2.2.2.1 e1.2.2.2.2.2 t16 t17)) =
    (T_impl_Epochs_move_lp1 N (ilen e1.2.2.2.1) (iadd .i64 e1.1 (1 : Int)) e1.2.2.2.1 e1.2.1 e1.2.2.1 e1.2.2.2.2.1
    (fun t31 t32 l33 l34 =>
      (some (α := ODen (T_impl_Epochs_move_sg N).ps × RDen (T_impl_Epochs_move_sg N).rs) (((iadd .i64 e1.1 (1 : Int), (e1.2.1, (e1.2.2.1, (l33, (e1.2.2.2.2.1, l34))))), ()), ())))
     N (0 : Int) ([] : List (Int × Int)) e1.2.2.2.2.2) := by
  have h : ((ctxK (R := ODen (T_impl_Epochs_move_sg N).ps × RDen (T_impl_Epochs_move_sg N).rs) tab (T_impl_Epochs_move_ctx N) T_impl_Epochs_move_ann N (theCode Try.f56) [0, 1, 0] (retK tab (T_impl_Epochs_move_sg N) Try.f56.results.toList some)) (.exit 0) (T_impl_Epochs_move_lp0_e1 (ilen e1.2.1) e1.1 e1.2.1 e1.2.2.1 e1.2.2.2.1 e1.2.2.2.2.1 e1.2.2.2.2.2 t16 t17)) =
    (T_impl_Epochs_move_lp1_m N N (T_impl_Epochs_move_lp1_sh (ilen e1.2.2.2.1) (0 : Int) (iadd .i64 e1.1 (1 : Int)) ([] : List (Int × Int)) e1.2.2.2.1 e1.2.1 e1.2.2.1 e1.2.2.2.2.1 e1.2.2.2.2.2) (ctxK (R := ODen (T_impl_Epochs_move_sg N).ps × RDen (T_impl_Epochs_move_sg N).rs) tab (T_impl_Epochs_move_ctx N) T_impl_Epochs_move_ann N (theCode Try.f56) [1, 1, 1, 0, 1, 0] (retK tab (T_impl_Epochs_move_sg N) Try.f56.results.toList some))) := by kernel_rfl
  rw [h]
  (try simp only [T_impl_Epochs_move_lp1_eq, T_impl_Epochs_move_c3]) <;> rfl

theorem T_impl_Epochs_move_den (N : Nat) (e1 : Int × List Int × List Bool × List (Int × Int) × List (Int × Int) × List Int) :
    den (R := ODen (T_impl_Epochs_move_sg N).ps × RDen (T_impl_Epochs_move_sg N).rs) tab (T_impl_Epochs_move_ctx N) T_impl_Epochs_move_ann N (T_impl_Epochs_move_sg N) Try.f56 (e1, ()) some =
    (T_impl_Epochs_move_lp0 N (ilen e1.2.1) e1.1 e1.2.1 e1.2.2.1 e1.2.2.2.1 e1.2.2.2.2.1 e1.2.2.2.2.2
    (fun t14 t15 =>
      (some (α := ODen (T_impl_Epochs_move_sg N).ps × RDen (T_impl_Epochs_move_sg N).rs) ((e1, ()), ())))
    (fun t16 t17 =>
      (T_impl_Epochs_move_lp1 N (ilen e1.2.2.2.1) (iadd .i64 e1.1 (1 : Int)) e1.2.2.2.1 e1.2.1 e1.2.2.1 e1.2.2.2.2.1
        (fun t31 t32 l33 l34 =>
          (some (α := ODen (T_impl_Epochs_move_sg N).ps × RDen (T_impl_Epochs_move_sg N).rs) (((iadd .i64 e1.1 (1 : Int), (e1.2.1, (e1.2.2.1, (l33, (e1.2.2.2.2.1, l34))))), ()), ())))
         N (0 : Int) ([] : List (Int × Int)) e1.2.2.2.2.2))
     N (0 : Int)) := by
  have h : den (R := ODen (T_impl_Epochs_move_sg N).ps × RDen (T_impl_Epochs_move_sg N).rs) tab (T_impl_Epochs_move_ctx N) T_impl_Epochs_move_ann N (T_impl_Epochs_move_sg N) Try.f56 (e1, ()) some =
    (T_impl_Epochs_move_lp0_m N N (T_impl_Epochs_move_lp0_sh (ilen e1.2.1) (0 : Int) e1.1 e1.2.1 e1.2.2.1 e1.2.2.2.1 e1.2.2.2.2.1 e1.2.2.2.2.2) (ctxK (R := ODen (T_impl_Epochs_move_sg N).ps × RDen (T_impl_Epochs_move_sg N).rs) tab (T_impl_Epochs_move_ctx N) T_impl_Epochs_move_ann N (theCode Try.f56) [0, 1, 0] (retK tab (T_impl_Epochs_move_sg N) Try.f56.results.toList some))) := by kernel_rfl
  rw [h]
  (try simp only [T_impl_Epochs_move_lp0_eq, T_impl_Epochs_move_c1, T_impl_Epochs_move_c2]) <;> rfl

theorem T_impl_Epochs_move_ok (N : Nat) : chkBody Try.f56 (T_impl_Epochs_move_sg N).ps = true := by kernel_rfl

theorem T_impl_Epochs_move_callable : Callable Try.prog 56 := callable_of Try.func56 (show chkFn Try.f56 = true by kernel_rfl)

theorem T_impl_Epochs_move_good (N : Nat) : Good Try.prog 56 (T_impl_Epochs_move_sg N) :=
  good_body mixedOk tabOk ctx_nil Try.func56 (T_impl_Epochs_move_ok N) (fun d _ h => ⟨N, (T_impl_Epochs_move_den N d.1).trans h⟩)

noncomputable def T_impl_within_sg (N : Nat) : Sig := Sig.of [.v (.int .i64) false, .v (.int .i64) false, .v (.int .i64) false] [.v (.bool) false] (fun d => T_impl_within N d.1 d.2.1 d.2.2.1)

def T_impl_within_ann : Nat → List Ghost
  | _ => []

noncomputable def T_impl_within_ctx (N : Nat) : Ctx := []

theorem T_impl_within_den (N : Nat) (x1 : Int) (lo2 : Int) (hi3 : Int) :
    den (R := ODen (T_impl_within_sg N).ps × RDen (T_impl_within_sg N).rs) tab (T_impl_within_ctx N) T_impl_within_ann N (T_impl_within_sg N) Try.f61 (x1, lo2, hi3, ()) some =
    (bif decide (x1 ≥ lo2) then
    (some (α := ODen (T_impl_within_sg N).ps × RDen (T_impl_within_sg N).rs) ((), (decide (x1 ≤ hi3), ())))
    else
    (some (α := ODen (T_impl_within_sg N).ps × RDen (T_impl_within_sg N).rs) ((), (false, ())))) := by kernel_rfl

theorem T_impl_within_ok (N : Nat) : chkBody Try.f61 (T_impl_within_sg N).ps = true := by kernel_rfl

theorem T_impl_within_callable : Callable Try.prog 61 := callable_of Try.func61 (show chkFn Try.f61 = true by kernel_rfl)

theorem T_impl_within_good (N : Nat) : Good Try.prog 61 (T_impl_within_sg N) :=
  good_body mixedOk tabOk ctx_nil Try.func61 (T_impl_within_ok N) (fun d _ h => ⟨N, (T_impl_within_den N d.1 d.2.1 d.2.2.1).trans h⟩)

noncomputable def T_impl_Epochs_act_1_sg (N : Nat) : Sig := Sig.of [.v (.prod (.int .i64) (.int .i64)) true, .box (.prod (.int .i64) (.prod (.int .i64) (.int .i64)))] [.v (.bool) false] (fun d => T_impl_Epochs_act_1 N d.1 d.2.1)

def T_impl_Epochs_act_1_ann : Nat → List Ghost
  | _ => []

noncomputable def T_impl_Epochs_act_1_ctx (N : Nat) : Ctx := []

theorem T_impl_Epochs_act_1_den (N : Nat) (x1 : Int × Int) (a2 : Int × Int × Int) :
    den (R := ODen (T_impl_Epochs_act_1_sg N).ps × RDen (T_impl_Epochs_act_1_sg N).rs) tab (T_impl_Epochs_act_1_ctx N) T_impl_Epochs_act_1_ann N (T_impl_Epochs_act_1_sg N) Try.f117 (x1, a2, ()) some =
    (some (α := ODen (T_impl_Epochs_act_1_sg N).ps × RDen (T_impl_Epochs_act_1_sg N).rs) ((a2, ()), (x1.1 == a2.2.1, ()))) := by kernel_rfl

theorem T_impl_Epochs_act_1_ok (N : Nat) : chkBody Try.f117 (T_impl_Epochs_act_1_sg N).ps = true := by kernel_rfl

theorem T_impl_Epochs_act_1_callable : Callable Try.prog 117 := callable_of Try.func117 (show chkFn Try.f117 = true by kernel_rfl)

theorem T_impl_Epochs_act_1_good (N : Nat) : Good Try.prog 117 (T_impl_Epochs_act_1_sg N) :=
  good_body mixedOk tabOk ctx_nil Try.func117 (T_impl_Epochs_act_1_ok N) (fun d _ h => ⟨N, (T_impl_Epochs_act_1_den N d.1 d.2.1).trans h⟩)

noncomputable def T_slices_IndexFunc___impl_EpHold_impl_EpHold___impl_Epochs_act_1_sg (N : Nat) : Sig := Sig.of [.v (.slice (.prod (.int .i64) (.int .i64))) false, .clos 117 1, .box (.prod (.int .i64) (.prod (.int .i64) (.int .i64)))] [.v (.int .i64) false] (fun d => T_slices_IndexFunc___impl_EpHold_impl_EpHold___impl_Epochs_act_1 N d.1 d.2.1)

def T_slices_IndexFunc___impl_EpHold_impl_EpHold___impl_Epochs_act_1_ann : Nat → List Ghost
  | 2 => [.canon [0, 1, 7, 8, 9]]
  | 3 => [.canon [0, 1, 5, 7, 8]]
  | 4 => [.canon [0, 1, 5, 7, 8, 16]]
  | 5 => [.canon [1, 4]]
  | 6 => [.canon [0, 1, 7, 8]]
  | 100002 => [.canon [0, 1, 7, 8]]
  | _ => []

noncomputable def T_slices_IndexFunc___impl_EpHold_impl_EpHold___impl_Epochs_act_1_ctx (N : Nat) : Ctx := [(117, T_impl_Epochs_act_1_sg N)]

def T_slices_IndexFunc___impl_EpHold_impl_EpHold___impl_Epochs_act_1_lp0_sh (s3 : List (Int × Int)) (t5 : Int) (b6 : Int × Int × Int) : St := { env := [(0, .s (.one (.val (.slice (.prod (.int .i64) (.int .i64))) (s3 : List (Int × Int))))), (1, .s (.one (.clos 117 [0]))), (7, .s (.one (.val (.int .i64) (ilen s3 : Int)))), (8, .s (.one (.val (.int .i64) (t5 : Int))))], objs := [(0, .box [.val (.int .i64) (b6.1 : Int), .val (.int .i64) (b6.2.1 : Int), .val (.int .i64) (b6.2.2 : Int)])], nx := 1 }

def T_slices_IndexFunc___impl_EpHold_impl_EpHold___impl_Epochs_act_1_lp0_e0 (s3 : List (Int × Int)) (t9 : Int) (b10 : Int × Int × Int) : St := { env := [(1, .s (.one (.clos 117 [0]))), (4, .s (.one (.val (.int .i64) (t9 : Int))))], objs := [(0, .box [.val (.int .i64) (b10.1 : Int), .val (.int .i64) (b10.2.1 : Int), .val (.int .i64) (b10.2.2 : Int)])], nx := 1 }

def T_slices_IndexFunc___impl_EpHold_impl_EpHold___impl_Epochs_act_1_lp0_e1 (s3 : List (Int × Int)) (t11 : Int) (t12 : Bool) (b13 : Int × Int × Int) : St := { env := [(0, .s (.one (.val (.slice (.prod (.int .i64) (.int .i64))) (s3 : List (Int × Int))))), (1, .s (.one (.clos 117 [0]))), (7, .s (.one (.val (.int .i64) (ilen s3 : Int)))), (8, .s (.one (.val (.int .i64) (t11 : Int)))), (9, .s (.one (.val (.bool) (t12 : Bool))))], objs := [(0, .box [.val (.int .i64) (b13.1 : Int), .val (.int .i64) (b13.2.1 : Int), .val (.int .i64) (b13.2.2 : Int)])], nx := 1 }

noncomputable def T_slices_IndexFunc___impl_EpHold_impl_EpHold___impl_Epochs_act_1_lp0_m (N : Nat) {R : Type} (n : Nat) (st : St) (K : Ex → St → Option R) : Option R := loopN (roundG (T_slices_IndexFunc___impl_EpHold_impl_EpHold___impl_Epochs_act_1_ann 100002) fun st k => sx tab (T_slices_IndexFunc___impl_EpHold_impl_EpHold___impl_Epochs_act_1_ctx N) T_slices_IndexFunc___impl_EpHold_impl_EpHold___impl_Epochs_act_1_ann N (nthLoop Try.f119 0) st k) n st K

theorem T_slices_IndexFunc___impl_EpHold_impl_EpHold___impl_Epochs_act_1_lp0_step (N : Nat) {R : Type} (n : Nat) (K : Ex → St → Option R) (s3 : List (Int × Int)) (t5 : Int) (b6 : Int × Int × Int) :
    T_slices_IndexFunc___impl_EpHold_impl_EpHold___impl_Epochs_act_1_lp0_m N (n + 1) (T_slices_IndexFunc___impl_EpHold_impl_EpHold___impl_Epochs_act_1_lp0_sh s3 t5 b6) K =
    (bif decide (t5 < (ilen s3)) then
    (bif inb t5 (List.length s3) then
      ((T_impl_Epochs_act_1 N (List.getD s3 (Int.toNat t5) ((0 : Int), (0 : Int))) b6).bind fun o14 =>
        (bif o14.2.1 then
          (K .ret (T_slices_IndexFunc___impl_EpHold_impl_EpHold___impl_Epochs_act_1_lp0_e0 s3 t5 o14.1.1))
          else
          (T_slices_IndexFunc___impl_EpHold_impl_EpHold___impl_Epochs_act_1_lp0_m N n (T_slices_IndexFunc___impl_EpHold_impl_EpHold___impl_Epochs_act_1_lp0_sh s3 (iadd .i64 t5 (1 : Int)) o14.1.1) K))) else none)
    else
    (K (.exit 0) (T_slices_IndexFunc___impl_EpHold_impl_EpHold___impl_Epochs_act_1_lp0_e1 s3 t5 (decide (t5 < (ilen s3))) b6))) := by kernel_rfl

theorem T_slices_IndexFunc___impl_EpHold_impl_EpHold___impl_Epochs_act_1_lp0_eq (N : Nat) {R : Type} (s3 : List (Int × Int)) (K : Ex → St → Option R) : ∀ (n : Nat) (t5 : Int) (b6 : Int × Int × Int), T_slices_IndexFunc___impl_EpHold_impl_EpHold___impl_Epochs_act_1_lp0_m N n (T_slices_IndexFunc___impl_EpHold_impl_EpHold___impl_Epochs_act_1_lp0_sh s3 t5 b6) K = T_slices_IndexFunc___impl_EpHold_impl_EpHold___impl_Epochs_act_1_lp0 N s3 (fun t9 b10 => (K .ret (T_slices_IndexFunc___impl_EpHold_impl_EpHold___impl_Epochs_act_1_lp0_e0 s3 t9 b10))) (fun t11 t12 b13 => (K (.exit 0) (T_slices_IndexFunc___impl_EpHold_impl_EpHold___impl_Epochs_act_1_lp0_e1 s3 t11 t12 b13))) n t5 b6
  | 0, _, _ => rfl
  | n + 1, t5, b6 => by rw [T_slices_IndexFunc___impl_EpHold_impl_EpHold___impl_Epochs_act_1_lp0_step, T_slices_IndexFunc___impl_EpHold_impl_EpHold___impl_Epochs_act_1_lp0]; (try simp only [T_slices_IndexFunc___impl_EpHold_impl_EpHold___impl_Epochs_act_1_lp0_eq N s3 K n])

theorem T_slices_IndexFunc___impl_EpHold_impl_EpHold___impl_Epochs_act_1_c1 (N : Nat) (s1 : List (Int × Int)) (t15 : Int) (b16 : Int × Int × Int) :
    ((ctxK (R := ODen (T_slices_IndexFunc___impl_EpHold_impl_EpHold___impl_Epochs_act_1_sg N).ps × RDen (T_slices_IndexFunc___impl_EpHold_impl_EpHold___impl_Epochs_act_1_sg N).rs) tab (T_slices_IndexFunc___impl_EpHold_impl_EpHold___impl_Epochs_act_1_ctx N) T_slices_IndexFunc___impl_EpHold_impl_EpHold___impl_Epochs_act_1_ann N (theCode Try.f119) [1, 0, 1, 0] (retK tab (T_slices_IndexFunc___impl_EpHold_impl_EpHold___impl_Epochs_act_1_sg N) Try.f119.results.toList some)) .ret (T_slices_IndexFunc___impl_EpHold_impl_EpHold___impl_Epochs_act_1_lp0_e0 s1 t15 b16)) =
    (some (α := ODen (T_slices_IndexFunc___impl_EpHold_impl_EpHold___impl_Epochs_act_1_sg N).ps × RDen (T_slices_IndexFunc___impl_EpHold_impl_EpHold___impl_Epochs_act_1_sg N).rs) ((b16, ()), (t15, ()))) := by kernel_rfl

theorem T_slices_IndexFunc___impl_EpHold_impl_EpHold___impl_Epochs_act_1_c2 (N : Nat) (s1 : List (Int × Int)) (t17 : Int) (t18 : Bool) (b19 : Int × Int × Int) :
    ((ctxK (R := ODen (T_slices_IndexFunc___impl_EpHold_impl_EpHold___impl_Epochs_act_1_sg N).ps × RDen (T_slices_IndexFunc___impl_EpHold_impl_EpHold___impl_Epochs_act_1_sg N).rs) tab (T_slices_IndexFunc___impl_EpHold_impl_EpHold___impl_Epochs_act_1_ctx N) T_slices_IndexFunc___impl_EpHold_impl_EpHold___impl_Epochs_act_1_ann N (theCode Try.f119) [1, 0, 1, 0] (retK tab (T_slices_IndexFunc___impl_EpHold_impl_EpHold___impl_Epochs_act_1_sg N) Try.f119.results.toList some)) (.exit 0) (T_slices_IndexFunc___impl_EpHold_impl_EpHold___impl_Epochs_act_1_lp0_e1 s1 t17 t18 b19)) =
    (some (α := ODen (T_slices_IndexFunc___impl_EpHold_impl_EpHold___impl_Epochs_act_1_sg N).ps × RDen (T_slices_IndexFunc___impl_EpHold_impl_EpHold___impl_Epochs_act_1_sg N).rs) ((b19, ()), ((-1 : Int), ()))) := by kernel_rfl

theorem T_slices_IndexFunc___impl_EpHold_impl_EpHold___impl_Epochs_act_1_den (N : Nat) (s1 : List (Int × Int)) (cap2 : Int × Int × Int) :
    den (R := ODen (T_slices_IndexFunc___impl_EpHold_impl_EpHold___impl_Epochs_act_1_sg N).ps × RDen (T_slices_IndexFunc___impl_EpHold_impl_EpHold___impl_Epochs_act_1_sg N).rs) tab (T_slices_IndexFunc___impl_EpHold_impl_EpHold___impl_Epochs_act_1_ctx N) T_slices_IndexFunc___impl_EpHold_impl_EpHold___impl_Epochs_act_1_ann N (T_slices_IndexFunc___impl_EpHold_impl_EpHold___impl_Epochs_act_1_sg N) Try.f119 (s1, cap2, ()) some =
    (T_slices_IndexFunc___impl_EpHold_impl_EpHold___impl_Epochs_act_1_lp0 N s1
    (fun t15 b16 =>
      (some (α := ODen (T_slices_IndexFunc___impl_EpHold_impl_EpHold___impl_Epochs_act_1_sg N).ps × RDen (T_slices_IndexFunc___impl_EpHold_impl_EpHold___impl_Epochs_act_1_sg N).rs) ((b16, ()), (t15, ()))))
    (fun t17 t18 b19 =>
      (some (α := ODen (T_slices_IndexFunc___impl_EpHold_impl_EpHold___impl_Epochs_act_1_sg N).ps × RDen (T_slices_IndexFunc___impl_EpHold_impl_EpHold___impl_Epochs_act_1_sg N).rs) ((b19, ()), ((-1 : Int), ()))))
     N (0 : Int) cap2) := by
  have h : den (R := ODen (T_slices_IndexFunc___impl_EpHold_impl_EpHold___impl_Epochs_act_1_sg N).ps × RDen (T_slices_IndexFunc___impl_EpHold_impl_EpHold___impl_Epochs_act_1_sg N).rs) tab (T_slices_IndexFunc___impl_EpHold_impl_EpHold___impl_Epochs_act_1_ctx N) T_slices_IndexFunc___impl_EpHold_impl_EpHold___impl_Epochs_act_1_ann N (T_slices_IndexFunc___impl_EpHold_impl_EpHold___impl_Epochs_act_1_sg N) Try.f119 (s1, cap2, ()) some =
    (T_slices_IndexFunc___impl_EpHold_impl_EpHold___impl_Epochs_act_1_lp0_m N N (T_slices_IndexFunc___impl_EpHold_impl_EpHold___impl_Epochs_act_1_lp0_sh s1 (0 : Int) cap2) (ctxK (R := ODen (T_slices_IndexFunc___impl_EpHold_impl_EpHold___impl_Epochs_act_1_sg N).ps × RDen (T_slices_IndexFunc___impl_EpHold_impl_EpHold___impl_Epochs_act_1_sg N).rs) tab (T_slices_IndexFunc___impl_EpHold_impl_EpHold___impl_Epochs_act_1_ctx N) T_slices_IndexFunc___impl_EpHold_impl_EpHold___impl_Epochs_act_1_ann N (theCode Try.f119) [1, 0, 1, 0] (retK tab (T_slices_IndexFunc___impl_EpHold_impl_EpHold___impl_Epochs_act_1_sg N) Try.f119.results.toList some))) := by kernel_rfl
  rw [h]
  (try simp only [T_slices_IndexFunc___impl_EpHold_impl_EpHold___impl_Epochs_act_1_lp0_eq, T_slices_IndexFunc___impl_EpHold_impl_EpHold___impl_Epochs_act_1_c1, T_slices_IndexFunc___impl_EpHold_impl_EpHold___impl_Epochs_act_1_c2]) <;> rfl

theorem T_slices_IndexFunc___impl_EpHold_impl_EpHold___impl_Epochs_act_1_ok (N : Nat) : chkBody Try.f119 (T_slices_IndexFunc___impl_EpHold_impl_EpHold___impl_Epochs_act_1_sg N).ps = true := by kernel_rfl

theorem T_slices_IndexFunc___impl_EpHold_impl_EpHold___impl_Epochs_act_1_callable : Callable Try.prog 119 := callable_of Try.func119 (show chkFn Try.f119 = true by kernel_rfl)

theorem T_slices_IndexFunc___impl_EpHold_impl_EpHold___impl_Epochs_act_1_good (N : Nat) : Good Try.prog 119 (T_slices_IndexFunc___impl_EpHold_impl_EpHold___impl_Epochs_act_1_sg N) :=
  good_body mixedOk tabOk (ctx_cons (T_impl_Epochs_act_1_good N) T_impl_Epochs_act_1_callable ctx_nil) Try.func119 (T_slices_IndexFunc___impl_EpHold_impl_EpHold___impl_Epochs_act_1_ok N) (fun d _ h => ⟨N, (T_slices_IndexFunc___impl_EpHold_impl_EpHold___impl_Epochs_act_1_den N d.1 d.2.1).trans h⟩)

noncomputable def T_slices_DeleteFunc___impl_EpHold_impl_EpHold___impl_Epochs_act_1_sg (N : Nat) : Sig := Sig.of [.v (.own (.prod (.int .i64) (.int .i64))) false, .clos 117 1, .box (.prod (.int .i64) (.prod (.int .i64) (.int .i64)))] [.v (.own (.prod (.int .i64) (.int .i64))) false] (fun d => T_slices_DeleteFunc___impl_EpHold_impl_EpHold___impl_Epochs_act_1 N d.1 d.2.1)

def T_slices_DeleteFunc___impl_EpHold_impl_EpHold___impl_Epochs_act_1_ann : Nat → List Ghost
  | 5 => [.canon [0, 1, 5, 6, 19]]
  | 6 => [.canon [0, 1, 5, 6]]
  | 7 => [.canon [0, 1, 5, 6, 7]]
  | 8 => [.canon [0, 1, 5, 6, 7, 29]]
  | 9 => [.canon [0, 1, 5, 6]]
  | 10 => [.canon [0, 1, 5, 6]]
  | 11 => [.view 38]
  | 100005 => [.canon [0, 1, 5, 6]]
  | _ => []

noncomputable def T_slices_DeleteFunc___impl_EpHold_impl_EpHold___impl_Epochs_act_1_ctx (N : Nat) : Ctx := [(119, T_slices_IndexFunc___impl_EpHold_impl_EpHold___impl_Epochs_act_1_sg N), (117, T_impl_Epochs_act_1_sg N)]

def T_slices_DeleteFunc___impl_EpHold_impl_EpHold___impl_Epochs_act_1_lp0_sh (i4 : Int) (j5 : Int) (l6 : List (Int × Int)) (b7 : Int × Int × Int) : St := { env := [(0, .s (.one (.own 0))), (1, .s (.one (.clos 117 [1]))), (5, .s (.one (.val (.int .i64) (i4 : Int)))), (6, .s (.one (.val (.int .i64) (j5 : Int))))], objs := [(0, .arr (.prod (.int .i64) (.int .i64)) (l6 : List (Int × Int))), (1, .box [.val (.int .i64) (b7.1 : Int), .val (.int .i64) (b7.2.1 : Int), .val (.int .i64) (b7.2.2 : Int)])], nx := 2 }

def T_slices_DeleteFunc___impl_EpHold_impl_EpHold___impl_Epochs_act_1_lp0_e0 (i9 : Int) (j10 : Int) (t11 : Bool) (l12 : List (Int × Int)) (b13 : Int × Int × Int) : St := { env := [(0, .s (.one (.own 0))), (1, .s (.one (.clos 117 [1]))), (5, .s (.one (.val (.int .i64) (i9 : Int)))), (6, .s (.one (.val (.int .i64) (j10 : Int)))), (19, .s (.one (.val (.bool) (t11 : Bool))))], objs := [(0, .arr (.prod (.int .i64) (.int .i64)) (l12 : List (Int × Int))), (1, .box [.val (.int .i64) (b13.1 : Int), .val (.int .i64) (b13.2.1 : Int), .val (.int .i64) (b13.2.2 : Int)])], nx := 2 }

noncomputable def T_slices_DeleteFunc___impl_EpHold_impl_EpHold___impl_Epochs_act_1_lp0_m (N : Nat) {R : Type} (n : Nat) (st : St) (K : Ex → St → Option R) : Option R := loopN (roundG (T_slices_DeleteFunc___impl_EpHold_impl_EpHold___impl_Epochs_act_1_ann 100005) fun st k => sx tab (T_slices_DeleteFunc___impl_EpHold_impl_EpHold___impl_Epochs_act_1_ctx N) T_slices_DeleteFunc___impl_EpHold_impl_EpHold___impl_Epochs_act_1_ann N (nthLoop Try.f116 0) st k) n st K

theorem T_slices_DeleteFunc___impl_EpHold_impl_EpHold___impl_Epochs_act_1_lp0_step (N : Nat) {R : Type} (n : Nat) (K : Ex → St → Option R) (i4 : Int) (j5 : Int) (l6 : List (Int × Int)) (b7 : Int × Int × Int) :
    T_slices_DeleteFunc___impl_EpHold_impl_EpHold___impl_Epochs_act_1_lp0_m N (n + 1) (T_slices_DeleteFunc___impl_EpHold_impl_EpHold___impl_Epochs_act_1_lp0_sh i4 j5 l6 b7) K =
    (bif decide (j5 < (ilen l6)) then
    (bif inb j5 (List.length l6) then
      ((T_impl_Epochs_act_1 N (List.getD l6 (Int.toNat j5) ((0 : Int), (0 : Int))) b7).bind fun o14 =>
        (bif !o14.2.1 then
          (bif inb i4 (List.length l6) then
            (T_slices_DeleteFunc___impl_EpHold_impl_EpHold___impl_Epochs_act_1_lp0_m N n (T_slices_DeleteFunc___impl_EpHold_impl_EpHold___impl_Epochs_act_1_lp0_sh (iadd .i64 i4 (1 : Int)) (iadd .i64 j5 (1 : Int)) (List.set l6 (Int.toNat i4) (List.getD l6 (Int.toNat j5) ((0 : Int), (0 : Int)))) o14.1.1) K) else none)
          else
          (T_slices_DeleteFunc___impl_EpHold_impl_EpHold___impl_Epochs_act_1_lp0_m N n (T_slices_DeleteFunc___impl_EpHold_impl_EpHold___impl_Epochs_act_1_lp0_sh i4 (iadd .i64 j5 (1 : Int)) l6 o14.1.1) K))) else none)
    else
    (K (.exit 0) (T_slices_DeleteFunc___impl_EpHold_impl_EpHold___impl_Epochs_act_1_lp0_e0 i4 j5 (decide (j5 < (ilen l6))) l6 b7))) := by kernel_rfl

theorem T_slices_DeleteFunc___impl_EpHold_impl_EpHold___impl_Epochs_act_1_lp0_eq (N : Nat) {R : Type} (K : Ex → St → Option R) : ∀ (n : Nat) (i4 : Int) (j5 : Int) (l6 : List (Int × Int)) (b7 : Int × Int × Int), T_slices_DeleteFunc___impl_EpHold_impl_EpHold___impl_Epochs_act_1_lp0_m N n (T_slices_DeleteFunc___impl_EpHold_impl_EpHold___impl_Epochs_act_1_lp0_sh i4 j5 l6 b7) K = T_slices_DeleteFunc___impl_EpHold_impl_EpHold___impl_Epochs_act_1_lp0 N (fun i9 j10 t11 l12 b13 => (K (.exit 0) (T_slices_DeleteFunc___impl_EpHold_impl_EpHold___impl_Epochs_act_1_lp0_e0 i9 j10 t11 l12 b13))) n i4 j5 l6 b7
  | 0, _, _, _, _ => rfl
  | n + 1, i4, j5, l6, b7 => by rw [T_slices_DeleteFunc___impl_EpHold_impl_EpHold___impl_Epochs_act_1_lp0_step, T_slices_DeleteFunc___impl_EpHold_impl_EpHold___impl_Epochs_act_1_lp0]; (try simp only [T_slices_DeleteFunc___impl_EpHold_impl_EpHold___impl_Epochs_act_1_lp0_eq N K n])

theorem T_slices_DeleteFunc___impl_EpHold_impl_EpHold___impl_Epochs_act_1_c1 (N : Nat) (i15 : Int) (j16 : Int) (t17 : Bool) (l18 : List (Int × Int)) (b19 : Int × Int × Int) :
    ((ctxK (R := ODen (T_slices_DeleteFunc___impl_EpHold_impl_EpHold___impl_Epochs_act_1_sg N).ps × RDen (T_slices_DeleteFunc___impl_EpHold_impl_EpHold___impl_Epochs_act_1_sg N).rs) tab (T_slices_DeleteFunc___impl_EpHold_impl_EpHold___impl_Epochs_act_1_ctx N) T_slices_DeleteFunc___impl_EpHold_impl_EpHold___impl_Epochs_act_1_ann N (theCode Try.f116) [1, 1, 1, 0, 1, 0] (retK tab (T_slices_DeleteFunc___impl_EpHold_impl_EpHold___impl_Epochs_act_1_sg N) Try.f116.results.toList some)) (.exit 0) (T_slices_DeleteFunc___impl_EpHold_impl_EpHold___impl_Epochs_act_1_lp0_e0 i15 j16 t17 l18 b19)) =
    (bif (decide ((0 : Int) ≤ i15)) && (decide (i15 ≤ ((List.length l18) : Int))) then
    (bif (decide ((0 : Int) ≤ i15)) && (decide (i15 ≤ ((List.length ((List.take (Int.toNat i15) l18) ++ List.replicate ((List.length l18) - (Int.toNat i15)) ((0 : Int), (0 : Int)) ++ (List.drop (List.length l18) l18))) : Int))) then
      (some (α := ODen (T_slices_DeleteFunc___impl_EpHold_impl_EpHold___impl_Epochs_act_1_sg N).ps × RDen (T_slices_DeleteFunc___impl_EpHold_impl_EpHold___impl_Epochs_act_1_sg N).rs) ((b19, ()), (List.take (Int.toNat i15) ((List.take (Int.toNat i15) l18) ++ List.replicate ((List.length l18) - (Int.toNat i15)) ((0 : Int), (0 : Int)) ++ (List.drop (List.length l18) l18)), ()))) else none) else none) := by kernel_rfl

theorem T_slices_DeleteFunc___impl_EpHold_impl_EpHold___impl_Epochs_act_1_den (N : Nat) (s1 : List (Int × Int)) (cap2 : Int × Int × Int) :
    den (R := ODen (T_slices_DeleteFunc___impl_EpHold_impl_EpHold___impl_Epochs_act_1_sg N).ps × RDen (T_slices_DeleteFunc___impl_EpHold_impl_EpHold___impl_Epochs_act_1_sg N).rs) tab (T_slices_DeleteFunc___impl_EpHold_impl_EpHold___impl_Epochs_act_1_ctx N) T_slices_DeleteFunc___impl_EpHold_impl_EpHold___impl_Epochs_act_1_ann N (T_slices_DeleteFunc___impl_EpHold_impl_EpHold___impl_Epochs_act_1_sg N) Try.f116 (s1, cap2, ()) some =
    ((T_slices_IndexFunc___impl_EpHold_impl_EpHold___impl_Epochs_act_1 N s1 cap2).bind fun o3 =>
    (bif o3.2.1 == (-1 : Int) then
      (some (α := ODen (T_slices_DeleteFunc___impl_EpHold_impl_EpHold___impl_Epochs_act_1_sg N).ps × RDen (T_slices_DeleteFunc___impl_EpHold_impl_EpHold___impl_Epochs_act_1_sg N).rs) ((o3.1.1, ()), (s1, ())))
      else
      (T_slices_DeleteFunc___impl_EpHold_impl_EpHold___impl_Epochs_act_1_lp0 N
        (fun i15 j16 t17 l18 b19 =>
          (bif (decide ((0 : Int) ≤ i15)) && (decide (i15 ≤ ((List.length l18) : Int))) then
            (bif (decide ((0 : Int) ≤ i15)) && (decide (i15 ≤ ((List.length ((List.take (Int.toNat i15) l18) ++ List.replicate ((List.length l18) - (Int.toNat i15)) ((0 : Int), (0 : Int)) ++ (List.drop (List.length l18) l18))) : Int))) then
              (some (α := ODen (T_slices_DeleteFunc___impl_EpHold_impl_EpHold___impl_Epochs_act_1_sg N).ps × RDen (T_slices_DeleteFunc___impl_EpHold_impl_EpHold___impl_Epochs_act_1_sg N).rs) ((b19, ()), (List.take (Int.toNat i15) ((List.take (Int.toNat i15) l18) ++ List.replicate ((List.length l18) - (Int.toNat i15)) ((0 : Int), (0 : Int)) ++ (List.drop (List.length l18) l18)), ()))) else none) else none))
         N o3.2.1 (iadd .i64 o3.2.1 (1 : Int)) s1 o3.1.1))) := by
  have h : den (R := ODen (T_slices_DeleteFunc___impl_EpHold_impl_EpHold___impl_Epochs_act_1_sg N).ps × RDen (T_slices_DeleteFunc___impl_EpHold_impl_EpHold___impl_Epochs_act_1_sg N).rs) tab (T_slices_DeleteFunc___impl_EpHold_impl_EpHold___impl_Epochs_act_1_ctx N) T_slices_DeleteFunc___impl_EpHold_impl_EpHold___impl_Epochs_act_1_ann N (T_slices_DeleteFunc___impl_EpHold_impl_EpHold___impl_Epochs_act_1_sg N) Try.f116 (s1, cap2, ()) some =
    ((T_slices_IndexFunc___impl_EpHold_impl_EpHold___impl_Epochs_act_1 N s1 cap2).bind fun o3 =>
    (bif o3.2.1 == (-1 : Int) then
      (some (α := ODen (T_slices_DeleteFunc___impl_EpHold_impl_EpHold___impl_Epochs_act_1_sg N).ps × RDen (T_slices_DeleteFunc___impl_EpHold_impl_EpHold___impl_Epochs_act_1_sg N).rs) ((o3.1.1, ()), (s1, ())))
      else
      (T_slices_DeleteFunc___impl_EpHold_impl_EpHold___impl_Epochs_act_1_lp0_m N N (T_slices_DeleteFunc___impl_EpHold_impl_EpHold___impl_Epochs_act_1_lp0_sh o3.2.1 (iadd .i64 o3.2.1 (1 : Int)) s1 o3.1.1) (ctxK (R := ODen (T_slices_DeleteFunc___impl_EpHold_impl_EpHold___impl_Epochs_act_1_sg N).ps × RDen (T_slices_DeleteFunc___impl_EpHold_impl_EpHold___impl_Epochs_act_1_sg N).rs) tab (T_slices_DeleteFunc___impl_EpHold_impl_EpHold___impl_Epochs_act_1_ctx N) T_slices_DeleteFunc___impl_EpHold_impl_EpHold___impl_Epochs_act_1_ann N (theCode Try.f116) [1, 1, 1, 0, 1, 0] (retK tab (T_slices_DeleteFunc___impl_EpHold_impl_EpHold___impl_Epochs_act_1_sg N) Try.f116.results.toList some))))) := by kernel_rfl
  rw [h]
  (try simp only [T_slices_DeleteFunc___impl_EpHold_impl_EpHold___impl_Epochs_act_1_lp0_eq, T_slices_DeleteFunc___impl_EpHold_impl_EpHold___impl_Epochs_act_1_c1]) <;> rfl

theorem T_slices_DeleteFunc___impl_EpHold_impl_EpHold___impl_Epochs_act_1_ok (N : Nat) : chkBody Try.f116 (T_slices_DeleteFunc___impl_EpHold_impl_EpHold___impl_Epochs_act_1_sg N).ps = true := by kernel_rfl

theorem T_slices_DeleteFunc___impl_EpHold_impl_EpHold___impl_Epochs_act_1_callable : Callable Try.prog 116 := callable_of Try.func116 (show chkFn Try.f116 = true by kernel_rfl)

theorem T_slices_DeleteFunc___impl_EpHold_impl_EpHold___impl_Epochs_act_1_good (N : Nat) : Good Try.prog 116 (T_slices_DeleteFunc___impl_EpHold_impl_EpHold___impl_Epochs_act_1_sg N) :=
  good_body mixedOk tabOk (ctx_cons (T_slices_IndexFunc___impl_EpHold_impl_EpHold___impl_Epochs_act_1_good N) T_slices_IndexFunc___impl_EpHold_impl_EpHold___impl_Epochs_act_1_callable (ctx_cons (T_impl_Epochs_act_1_good N) T_impl_Epochs_act_1_callable ctx_nil)) Try.func116 (T_slices_DeleteFunc___impl_EpHold_impl_EpHold___impl_Epochs_act_1_ok N) (fun d _ h => ⟨N, (T_slices_DeleteFunc___impl_EpHold_impl_EpHold___impl_Epochs_act_1_den N d.1 d.2.1).trans h⟩)

noncomputable def T_slices_Index___impl_EpHold_impl_EpHold__sg (N : Nat) : Sig := Sig.of [.v (.slice (.prod (.int .i64) (.int .i64))) false, .v (.prod (.int .i64) (.int .i64)) true] [.v (.int .i64) false] (fun d => T_slices_Index___impl_EpHold_impl_EpHold_ N d.1 d.2.1)

def T_slices_Index___impl_EpHold_impl_EpHold__ann : Nat → List Ghost
  | 2 => [.canon [0, 3, 7, 8, 9]]
  | 3 => [.canon [0, 3, 5, 7, 8]]
  | 4 => [.canon [0, 3, 5, 7, 8, 16]]
  | 5 => [.canon [4]]
  | 6 => [.canon [0, 3, 7, 8]]
  | 100002 => [.canon [0, 3, 7, 8]]
  | _ => []

noncomputable def T_slices_Index___impl_EpHold_impl_EpHold__ctx (N : Nat) : Ctx := []

def T_slices_Index___impl_EpHold_impl_EpHold__lp0_sh (s3 : List (Int × Int)) (t5 : Int) (b6 : Int × Int) : St := { env := [(0, .s (.one (.val (.slice (.prod (.int .i64) (.int .i64))) (s3 : List (Int × Int))))), (3, .s (.one (.ptr 0 0))), (7, .s (.one (.val (.int .i64) (ilen s3 : Int)))), (8, .s (.one (.val (.int .i64) (t5 : Int))))], objs := [(0, .box [.val (.int .i64) (b6.1 : Int), .val (.int .i64) (b6.2 : Int)])], nx := 1 }

def T_slices_Index___impl_EpHold_impl_EpHold__lp0_e0 (s3 : List (Int × Int)) (b6 : Int × Int) (t7 : Int) : St := { env := [(4, .s (.one (.val (.int .i64) (t7 : Int))))], objs := [], nx := 0 }

def T_slices_Index___impl_EpHold_impl_EpHold__lp0_e1 (s3 : List (Int × Int)) (b6 : Int × Int) (t8 : Int) (t9 : Bool) : St := { env := [(0, .s (.one (.val (.slice (.prod (.int .i64) (.int .i64))) (s3 : List (Int × Int))))), (3, .s (.one (.ptr 0 0))), (7, .s (.one (.val (.int .i64) (ilen s3 : Int)))), (8, .s (.one (.val (.int .i64) (t8 : Int)))), (9, .s (.one (.val (.bool) (t9 : Bool))))], objs := [(0, .box [.val (.int .i64) (b6.1 : Int), .val (.int .i64) (b6.2 : Int)])], nx := 1 }

noncomputable def T_slices_Index___impl_EpHold_impl_EpHold__lp0_m (N : Nat) {R : Type} (n : Nat) (st : St) (K : Ex → St → Option R) : Option R := loopN (roundG (T_slices_Index___impl_EpHold_impl_EpHold__ann 100002) fun st k => sx tab (T_slices_Index___impl_EpHold_impl_EpHold__ctx N) T_slices_Index___impl_EpHold_impl_EpHold__ann N (nthLoop Try.f162 0) st k) n st K

theorem T_slices_Index___impl_EpHold_impl_EpHold__lp0_step (N : Nat) {R : Type} (n : Nat) (K : Ex → St → Option R) (s3 : List (Int × Int)) (t5 : Int) (b6 : Int × Int) :
    T_slices_Index___impl_EpHold_impl_EpHold__lp0_m N (n + 1) (T_slices_Index___impl_EpHold_impl_EpHold__lp0_sh s3 t5 b6) K =
    (bif decide (t5 < (ilen s3)) then
    (bif inb t5 (List.length s3) then
      (bif (ieq b6.1 (List.getD s3 (Int.toNat t5) ((0 : Int), (0 : Int))).1) && ((ieq b6.2 (List.getD s3 (Int.toNat t5) ((0 : Int), (0 : Int))).2) && true) then
        (K .ret (T_slices_Index___impl_EpHold_impl_EpHold__lp0_e0 s3 b6 t5))
        else
        (T_slices_Index___impl_EpHold_impl_EpHold__lp0_m N n (T_slices_Index___impl_EpHold_impl_EpHold__lp0_sh s3 (iadd .i64 t5 (1 : Int)) b6) K)) else none)
    else
    (K (.exit 0) (T_slices_Index___impl_EpHold_impl_EpHold__lp0_e1 s3 b6 t5 (decide (t5 < (ilen s3)))))) := by kernel_rfl

theorem T_slices_Index___impl_EpHold_impl_EpHold__lp0_eq (N : Nat) {R : Type} (s3 : List (Int × Int)) (b6 : Int × Int) (K : Ex → St → Option R) : ∀ (n : Nat) (t5 : Int), T_slices_Index___impl_EpHold_impl_EpHold__lp0_m N n (T_slices_Index___impl_EpHold_impl_EpHold__lp0_sh s3 t5 b6) K = T_slices_Index___impl_EpHold_impl_EpHold__lp0 N s3 b6 (fun t7 => (K .ret (T_slices_Index___impl_EpHold_impl_EpHold__lp0_e0 s3 b6 t7))) (fun t8 t9 => (K (.exit 0) (T_slices_Index___impl_EpHold_impl_EpHold__lp0_e1 s3 b6 t8 t9))) n t5
  | 0, _ => rfl
  | n + 1, t5 => by rw [T_slices_Index___impl_EpHold_impl_EpHold__lp0_step, T_slices_Index___impl_EpHold_impl_EpHold__lp0]; (try simp only [T_slices_Index___impl_EpHold_impl_EpHold__lp0_eq N s3 b6 K n])

theorem T_slices_Index___impl_EpHold_impl_EpHold__c1 (N : Nat) (s1 : List (Int × Int)) (v2 : Int × Int) (t10 : Int) :
    ((ctxK (R := ODen (T_slices_Index___impl_EpHold_impl_EpHold__sg N).ps × RDen (T_slices_Index___impl_EpHold_impl_EpHold__sg N).rs) tab (T_slices_Index___impl_EpHold_impl_EpHold__ctx N) T_slices_Index___impl_EpHold_impl_EpHold__ann N (theCode Try.f162) [1, 0, 1, 0] (retK tab (T_slices_Index___impl_EpHold_impl_EpHold__sg N) Try.f162.results.toList some)) .ret (T_slices_Index___impl_EpHold_impl_EpHold__lp0_e0 s1 v2 t10)) =
    (some (α := ODen (T_slices_Index___impl_EpHold_impl_EpHold__sg N).ps × RDen (T_slices_Index___impl_EpHold_impl_EpHold__sg N).rs) ((), (t10, ()))) := by kernel_rfl

theorem T_slices_Index___impl_EpHold_impl_EpHold__c2 (N : Nat) (s1 : List (Int × Int)) (v2 : Int × Int) (t11 : Int) (t12 : Bool) :
    ((ctxK (R := ODen (T_slices_Index___impl_EpHold_impl_EpHold__sg N).ps × RDen (T_slices_Index___impl_EpHold_impl_EpHold__sg N).rs) tab (T_slices_Index___impl_EpHold_impl_EpHold__ctx N) T_slices_Index___impl_EpHold_impl_EpHold__ann N (theCode Try.f162) [1, 0, 1, 0] (retK tab (T_slices_Index___impl_EpHold_impl_EpHold__sg N) Try.f162.results.toList some)) (.exit 0) (T_slices_Index___impl_EpHold_impl_EpHold__lp0_e1 s1 v2 t11 t12)) =
    (some (α := ODen (T_slices_Index___impl_EpHold_impl_EpHold__sg N).ps × RDen (T_slices_Index___impl_EpHold_impl_EpHold__sg N).rs) ((), ((-1 : Int), ()))) := by kernel_rfl

theorem T_slices_Index___impl_EpHold_impl_EpHold__den (N : Nat) (s1 : List (Int × Int)) (v2 : Int × Int) :
    den (R := ODen (T_slices_Index___impl_EpHold_impl_EpHold__sg N).ps × RDen (T_slices_Index___impl_EpHold_impl_EpHold__sg N).rs) tab (T_slices_Index___impl_EpHold_impl_EpHold__ctx N) T_slices_Index___impl_EpHold_impl_EpHold__ann N (T_slices_Index___impl_EpHold_impl_EpHold__sg N) Try.f162 (s1, v2, ()) some =
    (T_slices_Index___impl_EpHold_impl_EpHold__lp0 N s1 v2
    (fun t10 =>
      (some (α := ODen (T_slices_Index___impl_EpHold_impl_EpHold__sg N).ps × RDen (T_slices_Index___impl_EpHold_impl_EpHold__sg N).rs) ((), (t10, ()))))
    (fun t11 t12 =>
      (some (α := ODen (T_slices_Index___impl_EpHold_impl_EpHold__sg N).ps × RDen (T_slices_Index___impl_EpHold_impl_EpHold__sg N).rs) ((), ((-1 : Int), ()))))
     N (0 : Int)) := by
  have h : den (R := ODen (T_slices_Index___impl_EpHold_impl_EpHold__sg N).ps × RDen (T_slices_Index___impl_EpHold_impl_EpHold__sg N).rs) tab (T_slices_Index___impl_EpHold_impl_EpHold__ctx N) T_slices_Index___impl_EpHold_impl_EpHold__ann N (T_slices_Index___impl_EpHold_impl_EpHold__sg N) Try.f162 (s1, v2, ()) some =
    (T_slices_Index___impl_EpHold_impl_EpHold__lp0_m N N (T_slices_Index___impl_EpHold_impl_EpHold__lp0_sh s1 (0 : Int) v2) (ctxK (R := ODen (T_slices_Index___impl_EpHold_impl_EpHold__sg N).ps × RDen (T_slices_Index___impl_EpHold_impl_EpHold__sg N).rs) tab (T_slices_Index___impl_EpHold_impl_EpHold__ctx N) T_slices_Index___impl_EpHold_impl_EpHold__ann N (theCode Try.f162) [1, 0, 1, 0] (retK tab (T_slices_Index___impl_EpHold_impl_EpHold__sg N) Try.f162.results.toList some))) := by kernel_rfl
  rw [h]
  (try simp only [T_slices_Index___impl_EpHold_impl_EpHold__lp0_eq, T_slices_Index___impl_EpHold_impl_EpHold__c1, T_slices_Index___impl_EpHold_impl_EpHold__c2]) <;> rfl

theorem T_slices_Index___impl_EpHold_impl_EpHold__ok (N : Nat) : chkBody Try.f162 (T_slices_Index___impl_EpHold_impl_EpHold__sg N).ps = true := by kernel_rfl

theorem T_slices_Index___impl_EpHold_impl_EpHold__callable : Callable Try.prog 162 := callable_of Try.func162 (show chkFn Try.f162 = true by kernel_rfl)

theorem T_slices_Index___impl_EpHold_impl_EpHold__good (N : Nat) : Good Try.prog 162 (T_slices_Index___impl_EpHold_impl_EpHold__sg N) :=
  good_body mixedOk tabOk ctx_nil Try.func162 (T_slices_Index___impl_EpHold_impl_EpHold__ok N) (fun d _ h => ⟨N, (T_slices_Index___impl_EpHold_impl_EpHold__den N d.1 d.2.1).trans h⟩)

noncomputable def T_slices_Contains___impl_EpHold_impl_EpHold__sg (N : Nat) : Sig := Sig.of [.v (.slice (.prod (.int .i64) (.int .i64))) false, .v (.prod (.int .i64) (.int .i64)) true] [.v (.bool) false] (fun d => T_slices_Contains___impl_EpHold_impl_EpHold_ N d.1 d.2.1)

def T_slices_Contains___impl_EpHold_impl_EpHold__ann : Nat → List Ghost
  | _ => []

noncomputable def T_slices_Contains___impl_EpHold_impl_EpHold__ctx (N : Nat) : Ctx := [(162, T_slices_Index___impl_EpHold_impl_EpHold__sg N)]

theorem T_slices_Contains___impl_EpHold_impl_EpHold__den (N : Nat) (s1 : List (Int × Int)) (v2 : Int × Int) :
    den (R := ODen (T_slices_Contains___impl_EpHold_impl_EpHold__sg N).ps × RDen (T_slices_Contains___impl_EpHold_impl_EpHold__sg N).rs) tab (T_slices_Contains___impl_EpHold_impl_EpHold__ctx N) T_slices_Contains___impl_EpHold_impl_EpHold__ann N (T_slices_Contains___impl_EpHold_impl_EpHold__sg N) Try.f118 (s1, v2, ()) some =
    ((T_slices_Index___impl_EpHold_impl_EpHold_ N s1 v2).bind fun o3 =>
    (some (α := ODen (T_slices_Contains___impl_EpHold_impl_EpHold__sg N).ps × RDen (T_slices_Contains___impl_EpHold_impl_EpHold__sg N).rs) ((), (decide (o3.2.1 ≥ (0 : Int)), ())))) := by kernel_rfl

theorem T_slices_Contains___impl_EpHold_impl_EpHold__ok (N : Nat) : chkBody Try.f118 (T_slices_Contains___impl_EpHold_impl_EpHold__sg N).ps = true := by kernel_rfl

theorem T_slices_Contains___impl_EpHold_impl_EpHold__callable : Callable Try.prog 118 := callable_of Try.func118 (show chkFn Try.f118 = true by kernel_rfl)

theorem T_slices_Contains___impl_EpHold_impl_EpHold__good (N : Nat) : Good Try.prog 118 (T_slices_Contains___impl_EpHold_impl_EpHold__sg N) :=
  good_body mixedOk tabOk (ctx_cons (T_slices_Index___impl_EpHold_impl_EpHold__good N) T_slices_Index___impl_EpHold_impl_EpHold__callable ctx_nil) Try.func118 (T_slices_Contains___impl_EpHold_impl_EpHold__ok N) (fun d _ h => ⟨N, (T_slices_Contains___impl_EpHold_impl_EpHold__den N d.1 d.2.1).trans h⟩)

noncomputable def T_impl_Epochs_act_sg (N : Nat) : Sig := Sig.of [.box (.prod (.int .i64) (.prod (.own (.int .i64)) (.prod (.own (.bool)) (.prod (.own (.prod (.int .i64) (.int .i64))) (.prod (.own (.prod (.int .i64) (.int .i64))) (.own (.int .i64))))))), .v (.prod (.int .i64) (.prod (.int .i64) (.int .i64))) true] [] (fun d => T_impl_Epochs_act N d.1 d.2.1)

def T_impl_Epochs_act_ann : Nat → List Ghost
  | _ => []

noncomputable def T_impl_Epochs_act_ctx (N : Nat) : Ctx := [(56, T_impl_Epochs_move_sg N), (61, T_impl_within_sg N), (116, T_slices_DeleteFunc___impl_EpHold_impl_EpHold___impl_Epochs_act_1_sg N), (118, T_slices_Contains___impl_EpHold_impl_EpHold__sg N)]

theorem T_impl_Epochs_act_den (N : Nat) (e1 : Int × List Int × List Bool × List (Int × Int) × List (Int × Int) × List Int) (a2 : Int × Int × Int) :
    den (R := ODen (T_impl_Epochs_act_sg N).ps × RDen (T_impl_Epochs_act_sg N).rs) tab (T_impl_Epochs_act_ctx N) T_impl_Epochs_act_ann N (T_impl_Epochs_act_sg N) Try.f55 (e1, a2, ()) some =
    (bif a2.1 == (5 : Int) then
    ((T_impl_Epochs_move N e1).bind fun o3 =>
      (some (α := ODen (T_impl_Epochs_act_sg N).ps × RDen (T_impl_Epochs_act_sg N).rs) ((o3.1.1, ()), ())))
    else
    ((T_impl_within N a2.2.1 (0 : Int) (2 : Int)).bind fun o4 =>
      (bif !o4.2.1 then
        (some (α := ODen (T_impl_Epochs_act_sg N).ps × RDen (T_impl_Epochs_act_sg N).rs) ((e1, ()), ()))
        else
        ((T_impl_within N a2.2.2 (0 : Int) (9 : Int)).bind fun o5 =>
          (bif !o5.2.1 then
            (some (α := ODen (T_impl_Epochs_act_sg N).ps × RDen (T_impl_Epochs_act_sg N).rs) ((e1, ()), ()))
            else
            (bif inb a2.2.1 (List.length e1.2.1) then
              (bif a2.1 == (1 : Int) then
                (bif (List.getD e1.2.1 (Int.toNat a2.2.1) (0 : Int)) == (-1 : Int) then
                  (bif inb a2.2.1 (List.length e1.2.1) then
                    (some (α := ODen (T_impl_Epochs_act_sg N).ps × RDen (T_impl_Epochs_act_sg N).rs) (((e1.1, (List.set e1.2.1 (Int.toNat a2.2.1) e1.1, e1.2.2)), ()), ())) else none)
                  else
                  (some (α := ODen (T_impl_Epochs_act_sg N).ps × RDen (T_impl_Epochs_act_sg N).rs) ((e1, ()), ())))
                else
                (bif a2.1 == (2 : Int) then
                  (bif inb a2.2.1 (List.length e1.2.1) then
                    ((T_slices_DeleteFunc___impl_EpHold_impl_EpHold___impl_Epochs_act_1 N e1.2.2.2.2.1 a2).bind fun o6 =>
                      (some (α := ODen (T_impl_Epochs_act_sg N).ps × RDen (T_impl_Epochs_act_sg N).rs) (((e1.1, (List.set e1.2.1 (Int.toNat a2.2.1) (-1 : Int), (e1.2.2.1, (e1.2.2.2.1, (o6.2.1, e1.2.2.2.2.2))))), ()), ()))) else none)
                  else
                  (bif a2.1 == (3 : Int) then
                    (bif (List.getD e1.2.1 (Int.toNat a2.2.1) (0 : Int)) != (-1 : Int) then
                      (bif inb a2.2.2 (List.length e1.2.2.1) then
                        (bif List.getD e1.2.2.1 (Int.toNat a2.2.2) false then
                          ((T_slices_Contains___impl_EpHold_impl_EpHold_ N e1.2.2.2.2.1 a2.2).bind fun o7 =>
                            (bif !o7.2.1 then
                              (bif room ((List.length e1.2.2.2.2.1) + (List.length ([a2.2]))) then
                                (some (α := ODen (T_impl_Epochs_act_sg N).ps × RDen (T_impl_Epochs_act_sg N).rs) (((e1.1, (e1.2.1, (e1.2.2.1, (e1.2.2.2.1, (List.append e1.2.2.2.2.1 ([a2.2]), e1.2.2.2.2.2))))), ()), ())) else none)
                              else
                              (some (α := ODen (T_impl_Epochs_act_sg N).ps × RDen (T_impl_Epochs_act_sg N).rs) ((e1, ()), ()))))
                          else
                          (some (α := ODen (T_impl_Epochs_act_sg N).ps × RDen (T_impl_Epochs_act_sg N).rs) ((e1, ()), ()))) else none)
                      else
                      (some (α := ODen (T_impl_Epochs_act_sg N).ps × RDen (T_impl_Epochs_act_sg N).rs) ((e1, ()), ())))
                    else
                    (bif a2.1 == (4 : Int) then
                      (bif (List.getD e1.2.1 (Int.toNat a2.2.1) (0 : Int)) != (-1 : Int) then
                        (bif inb a2.2.2 (List.length e1.2.2.1) then
                          (bif List.getD e1.2.2.1 (Int.toNat a2.2.2) false then
                            (bif inb a2.2.2 (List.length e1.2.2.1) then
                              (bif room ((List.length e1.2.2.2.1) + (List.length ([(a2.2.2, e1.1)]))) then
                                (some (α := ODen (T_impl_Epochs_act_sg N).ps × RDen (T_impl_Epochs_act_sg N).rs) (((e1.1, (e1.2.1, (List.set e1.2.2.1 (Int.toNat a2.2.2) false, (List.append e1.2.2.2.1 ([(a2.2.2, e1.1)]), e1.2.2.2.2)))), ()), ())) else none) else none)
                            else
                            (some (α := ODen (T_impl_Epochs_act_sg N).ps × RDen (T_impl_Epochs_act_sg N).rs) ((e1, ()), ()))) else none)
                        else
                        (some (α := ODen (T_impl_Epochs_act_sg N).ps × RDen (T_impl_Epochs_act_sg N).rs) ((e1, ()), ())))
                      else
                      (some (α := ODen (T_impl_Epochs_act_sg N).ps × RDen (T_impl_Epochs_act_sg N).rs) ((e1, ()), ())))))) else none)))))) := by kernel_rfl

theorem T_impl_Epochs_act_ok (N : Nat) : chkBody Try.f55 (T_impl_Epochs_act_sg N).ps = true := by kernel_rfl

theorem T_impl_Epochs_act_callable : Callable Try.prog 55 := callable_of Try.func55 (show chkFn Try.f55 = true by kernel_rfl)

theorem T_impl_Epochs_act_good (N : Nat) : Good Try.prog 55 (T_impl_Epochs_act_sg N) :=
  good_body mixedOk tabOk (ctx_cons (T_impl_Epochs_move_good N) T_impl_Epochs_move_callable (ctx_cons (T_impl_within_good N) T_impl_within_callable (ctx_cons (T_slices_DeleteFunc___impl_EpHold_impl_EpHold___impl_Epochs_act_1_good N) T_slices_DeleteFunc___impl_EpHold_impl_EpHold___impl_Epochs_act_1_callable (ctx_cons (T_slices_Contains___impl_EpHold_impl_EpHold__good N) T_slices_Contains___impl_EpHold_impl_EpHold__callable ctx_nil)))) Try.func55 (T_impl_Epochs_act_ok N) (fun d _ h => ⟨N, (T_impl_Epochs_act_den N d.1 d.2.1).trans h⟩)

noncomputable def T_impl_EpochPlay_sg (N : Nat) : Sig := Sig.of [.v (.slice (.prod (.int .i64) (.prod (.int .i64) (.int .i64)))) false] [.v (.prod (.int .i64) (.prod (.own (.int .i64)) (.prod (.own (.bool)) (.prod (.own (.prod (.int .i64) (.int .i64))) (.prod (.own (.prod (.int .i64) (.int .i64))) (.own (.int .i64))))))) true] (fun d => T_impl_EpochPlay N d.1)

def T_impl_EpochPlay_ann : Nat → List Ghost
  | 5 => [.canon [0, 2, 3, 11, 12]]
  | 6 => [.canon [0, 2, 3, 11]]
  | 7 => [.canon [0, 2, 3, 11]]
  | 9 => [.canon [0, 2, 3, 19, 20]]
  | 10 => [.canon [0, 2, 3, 19]]
  | 11 => [.canon [0, 2, 3, 19]]
  | 13 => [.canon [2, 3, 27, 28, 29, 30]]
  | 14 => [.canon [2, 3, 5, 27, 28, 29]]
  | 15 => [.canon [2, 3, 27, 28, 29]]
  | 16 => [.canon [2, 3, 27, 28, 29]]
  | 100005 => [.adoptC 3 1 (.int .i64), .canon [0, 2, 3, 11]]
  | 100009 => [.adoptC 3 2 (.bool), .canon [0, 2, 3, 19]]
  | 100013 => [.adoptC 3 3 (.prod (.int .i64) (.int .i64)), .adoptC 3 4 (.prod (.int .i64) (.int .i64)), .adoptC 3 5 (.int .i64), .canon [2, 3, 27, 28, 29]]
  | _ => []

noncomputable def T_impl_EpochPlay_ctx (N : Nat) : Ctx := [(55, T_impl_Epochs_act_sg N)]

def T_impl_EpochPlay_lp0_sh (acts2 : List (Int × Int × Int)) (t3 : Int) (l6 : List Int) : St := { env := [(0, .s (.one (.val (.slice (.prod (.int .i64) (.prod (.int .i64) (.int .i64)))) (acts2 : List (Int × Int × Int))))), (2, .s (.one (.ptr 0 0))), (3, .s (.one (.ptr 1 0))), (11, .s (.one (.val (.int .i64) (t3 : Int))))], objs := [(0, .box [.val (.int .i64) ((0 : Int) : Int), .nils, .nils, .nils, .nils, .nils]), (1, .box [.val (.int .i64) ((0 : Int) : Int), .own 2, .nils, .nils, .nils, .nils]), (2, .arr (.int .i64) (l6 : List Int))], nx := 3 }

def T_impl_EpochPlay_lp0_e0 (acts2 : List (Int × Int × Int)) (t7 : Int) (t8 : Bool) (l9 : List Int) : St := { env := [(0, .s (.one (.val (.slice (.prod (.int .i64) (.prod (.int .i64) (.int .i64)))) (acts2 : List (Int × Int × Int))))), (2, .s (.one (.ptr 0 0))), (3, .s (.one (.ptr 1 0))), (11, .s (.one (.val (.int .i64) (t7 : Int)))), (12, .s (.one (.val (.bool) (t8 : Bool))))], objs := [(0, .box [.val (.int .i64) ((0 : Int) : Int), .nils, .nils, .nils, .nils, .nils]), (1, .box [.val (.int .i64) ((0 : Int) : Int), .own 2, .nils, .nils, .nils, .nils]), (2, .arr (.int .i64) (l9 : List Int))], nx := 3 }

noncomputable def T_impl_EpochPlay_lp0_m (N : Nat) {R : Type} (n : Nat) (st : St) (K : Ex → St → Option R) : Option R := loopN (roundG (T_impl_EpochPlay_ann 100005) fun st k => sx tab (T_impl_EpochPlay_ctx N) T_impl_EpochPlay_ann N (nthLoop Try.f11 0) st k) n st K

theorem T_impl_EpochPlay_lp0_step (N : Nat) {R : Type} (n : Nat) (K : Ex → St → Option R) (acts2 : List (Int × Int × Int)) (t3 : Int) (l6 : List Int) :
    T_impl_EpochPlay_lp0_m N (n + 1) (T_impl_EpochPlay_lp0_sh acts2 t3 l6) K =
    (bif decide (t3 < (3 : Int)) then
    (bif room ((List.length l6) + (List.length ([(-1 : Int)]))) then
      (T_impl_EpochPlay_lp0_m N n (T_impl_EpochPlay_lp0_sh acts2 (iadd .i64 t3 (1 : Int)) (List.append l6 ([(-1 : Int)]))) K) else none)
    else
    (K (.exit 0) (T_impl_EpochPlay_lp0_e0 acts2 t3 (decide (t3 < (3 : Int))) l6))) := by kernel_rfl

theorem T_impl_EpochPlay_lp0_eq (N : Nat) {R : Type} (acts2 : List (Int × Int × Int)) (K : Ex → St → Option R) : ∀ (n : Nat) (t3 : Int) (l6 : List Int), T_impl_EpochPlay_lp0_m N n (T_impl_EpochPlay_lp0_sh acts2 t3 l6) K = T_impl_EpochPlay_lp0 N acts2 (fun t7 t8 l9 => (K (.exit 0) (T_impl_EpochPlay_lp0_e0 acts2 t7 t8 l9))) n t3 l6
  | 0, _, _ => rfl
  | n + 1, t3, l6 => by rw [T_impl_EpochPlay_lp0_step, T_impl_EpochPlay_lp0]; (try simp only [T_impl_EpochPlay_lp0_eq N acts2 K n])

def T_impl_EpochPlay_lp1_sh (acts13 : List (Int × Int × Int)) (t14 : Int) (l17 : List Int) (l18 : List Bool) : St := { env := [(0, .s (.one (.val (.slice (.prod (.int .i64) (.prod (.int .i64) (.int .i64)))) (acts13 : List (Int × Int × Int))))), (2, .s (.one (.ptr 0 0))), (3, .s (.one (.ptr 1 0))), (19, .s (.one (.val (.int .i64) (t14 : Int))))], objs := [(0, .box [.val (.int .i64) ((0 : Int) : Int), .nils, .nils, .nils, .nils, .nils]), (1, .box [.val (.int .i64) ((0 : Int) : Int), .own 2, .own 3, .nils, .nils, .nils]), (2, .arr (.int .i64) (l17 : List Int)), (3, .arr (.bool) (l18 : List Bool))], nx := 4 }

def T_impl_EpochPlay_lp1_e0 (acts13 : List (Int × Int × Int)) (l17 : List Int) (t19 : Int) (t20 : Bool) (l21 : List Bool) : St := { env := [(0, .s (.one (.val (.slice (.prod (.int .i64) (.prod (.int .i64) (.int .i64)))) (acts13 : List (Int × Int × Int))))), (2, .s (.one (.ptr 0 0))), (3, .s (.one (.ptr 1 0))), (19, .s (.one (.val (.int .i64) (t19 : Int)))), (20, .s (.one (.val (.bool) (t20 : Bool))))], objs := [(0, .box [.val (.int .i64) ((0 : Int) : Int), .nils, .nils, .nils, .nils, .nils]), (1, .box [.val (.int .i64) ((0 : Int) : Int), .own 2, .own 3, .nils, .nils, .nils]), (2, .arr (.int .i64) (l17 : List Int)), (3, .arr (.bool) (l21 : List Bool))], nx := 4 }

noncomputable def T_impl_EpochPlay_lp1_m (N : Nat) {R : Type} (n : Nat) (st : St) (K : Ex → St → Option R) : Option R := loopN (roundG (T_impl_EpochPlay_ann 100009) fun st k => sx tab (T_impl_EpochPlay_ctx N) T_impl_EpochPlay_ann N (nthLoop Try.f11 1) st k) n st K

theorem T_impl_EpochPlay_lp1_step (N : Nat) {R : Type} (n : Nat) (K : Ex → St → Option R) (acts13 : List (Int × Int × Int)) (t14 : Int) (l17 : List Int) (l18 : List Bool) :
    T_impl_EpochPlay_lp1_m N (n + 1) (T_impl_EpochPlay_lp1_sh acts13 t14 l17 l18) K =
    (bif decide (t14 < (10 : Int)) then
    (bif room ((List.length l18) + (List.length ([true]))) then
      (T_impl_EpochPlay_lp1_m N n (T_impl_EpochPlay_lp1_sh acts13 (iadd .i64 t14 (1 : Int)) l17 (List.append l18 ([true]))) K) else none)
    else
    (K (.exit 2) (T_impl_EpochPlay_lp1_e0 acts13 l17 t14 (decide (t14 < (10 : Int))) l18))) := by kernel_rfl

theorem T_impl_EpochPlay_lp1_eq (N : Nat) {R : Type} (acts13 : List (Int × Int × Int)) (l17 : List Int) (K : Ex → St → Option R) : ∀ (n : Nat) (t14 : Int) (l18 : List Bool), T_impl_EpochPlay_lp1_m N n (T_impl_EpochPlay_lp1_sh acts13 t14 l17 l18) K = T_impl_EpochPlay_lp1 N acts13 l17 (fun t19 t20 l21 => (K (.exit 2) (T_impl_EpochPlay_lp1_e0 acts13 l17 t19 t20 l21))) n t14 l18
  | 0, _, _ => rfl
  | n + 1, t14, l18 => by rw [T_impl_EpochPlay_lp1_step, T_impl_EpochPlay_lp1]; (try simp only [T_impl_EpochPlay_lp1_eq N acts13 l17 K n])

def T_impl_EpochPlay_lp2_sh (t25 : List (Int × Int × Int)) (t27 : Int) (b29 : Int) (l30 : List Int) (l31 : List Bool) (l32 : List (Int × Int)) (l33 : List (Int × Int)) (l34 : List Int) : St := { env := [(2, .s (.one (.ptr 0 0))), (3, .s (.one (.ptr 1 0))), (27, .s (.one (.val (.slice (.prod (.int .i64) (.prod (.int .i64) (.int .i64)))) (t25 : List (Int × Int × Int))))), (28, .s (.one (.val (.int .i64) (ilen t25 : Int)))), (29, .s (.one (.val (.int .i64) (t27 : Int))))], objs := [(0, .box [.val (.int .i64) ((0 : Int) : Int), .nils, .nils, .nils, .nils, .nils]), (1, .box [.val (.int .i64) (b29 : Int), .own 2, .own 3, .own 4, .own 5, .own 6]), (2, .arr (.int .i64) (l30 : List Int)), (3, .arr (.bool) (l31 : List Bool)), (4, .arr (.prod (.int .i64) (.int .i64)) (l32 : List (Int × Int))), (5, .arr (.prod (.int .i64) (.int .i64)) (l33 : List (Int × Int))), (6, .arr (.int .i64) (l34 : List Int))], nx := 7 }

def T_impl_EpochPlay_lp2_e0 (t25 : List (Int × Int × Int)) (t37 : Int) (t38 : Bool) (b39 : Int) (l40 : List Int) (l41 : List Bool) (l42 : List (Int × Int)) (l43 : List (Int × Int)) (l44 : List Int) : St := { env := [(2, .s (.one (.ptr 0 0))), (3, .s (.one (.ptr 1 0))), (27, .s (.one (.val (.slice (.prod (.int .i64) (.prod (.int .i64) (.int .i64)))) (t25 : List (Int × Int × Int))))), (28, .s (.one (.val (.int .i64) (ilen t25 : Int)))), (29, .s (.one (.val (.int .i64) (t37 : Int)))), (30, .s (.one (.val (.bool) (t38 : Bool))))], objs := [(0, .box [.val (.int .i64) ((0 : Int) : Int), .nils, .nils, .nils, .nils, .nils]), (1, .box [.val (.int .i64) (b39 : Int), .own 2, .own 3, .own 4, .own 5, .own 6]), (2, .arr (.int .i64) (l40 : List Int)), (3, .arr (.bool) (l41 : List Bool)), (4, .arr (.prod (.int .i64) (.int .i64)) (l42 : List (Int × Int))), (5, .arr (.prod (.int .i64) (.int .i64)) (l43 : List (Int × Int))), (6, .arr (.int .i64) (l44 : List Int))], nx := 7 }

noncomputable def T_impl_EpochPlay_lp2_m (N : Nat) {R : Type} (n : Nat) (st : St) (K : Ex → St → Option R) : Option R := loopN (roundG (T_impl_EpochPlay_ann 100013) fun st k => sx tab (T_impl_EpochPlay_ctx N) T_impl_EpochPlay_ann N (nthLoop Try.f11 2) st k) n st K

theorem T_impl_EpochPlay_lp2_step (N : Nat) {R : Type} (n : Nat) (K : Ex → St → Option R) (t25 : List (Int × Int × Int)) (t27 : Int) (b29 : Int) (l30 : List Int) (l31 : List Bool) (l32 : List (Int × Int)) (l33 : List (Int × Int)) (l34 : List Int) :
    T_impl_EpochPlay_lp2_m N (n + 1) (T_impl_EpochPlay_lp2_sh t25 t27 b29 l30 l31 l32 l33 l34) K =
    (bif decide (t27 < (ilen t25)) then
    (bif inb t27 (List.length t25) then
      ((T_impl_Epochs_act N (b29, (l30, (l31, (l32, (l33, l34))))) (List.getD t25 (Int.toNat t27) ((0 : Int), ((0 : Int), (0 : Int))))).bind fun o45 =>
        (T_impl_EpochPlay_lp2_m N n (T_impl_EpochPlay_lp2_sh t25 (iadd .i64 t27 (1 : Int)) o45.1.1.1 o45.1.1.2.1 o45.1.1.2.2.1 o45.1.1.2.2.2.1 o45.1.1.2.2.2.2.1 o45.1.1.2.2.2.2.2) K)) else none)
    else
    (K (.exit 4) (T_impl_EpochPlay_lp2_e0 t25 t27 (decide (t27 < (ilen t25))) b29 l30 l31 l32 l33 l34))) := by kernel_rfl

theorem T_impl_EpochPlay_lp2_eq (N : Nat) {R : Type} (t25 : List (Int × Int × Int)) (K : Ex → St → Option R) : ∀ (n : Nat) (t27 : Int) (b29 : Int) (l30 : List Int) (l31 : List Bool) (l32 : List (Int × Int)) (l33 : List (Int × Int)) (l34 : List Int), T_impl_EpochPlay_lp2_m N n (T_impl_EpochPlay_lp2_sh t25 t27 b29 l30 l31 l32 l33 l34) K = T_impl_EpochPlay_lp2 N t25 (fun t37 t38 b39 l40 l41 l42 l43 l44 => (K (.exit 4) (T_impl_EpochPlay_lp2_e0 t25 t37 t38 b39 l40 l41 l42 l43 l44))) n t27 b29 l30 l31 l32 l33 l34
  | 0, _, _, _, _, _, _, _ => rfl
  | n + 1, t27, b29, l30, l31, l32, l33, l34 => by rw [T_impl_EpochPlay_lp2_step, T_impl_EpochPlay_lp2]; (try simp only [T_impl_EpochPlay_lp2_eq N t25 K n])

theorem T_impl_EpochPlay_c3 (N : Nat) (acts1 : List (Int × Int × Int)) (t46 : Int) (t47 : Bool) (b48 : Int) (l49 : List Int) (l50 : List Bool) (l51 : List (Int × Int)) (l52 : List (Int × Int)) (l53 : List Int) :
    ((ctxK (R := ODen (T_impl_EpochPlay_sg N).ps × RDen (T_impl_EpochPlay_sg N).rs) tab (T_impl_EpochPlay_ctx N) T_impl_EpochPlay_ann N (theCode Try.f11) [1, 1, 1, 1, 1, 0, 1, 0] (retK tab (T_impl_EpochPlay_sg N) Try.f11.results.toList some)) (.exit 4) (T_impl_EpochPlay_lp2_e0 acts1 t46 t47 b48 l49 l50 l51 l52 l53)) =
    (some (α := ODen (T_impl_EpochPlay_sg N).ps × RDen (T_impl_EpochPlay_sg N).rs) ((), ((b48, (l49, (l50, (l51, (l52, l53))))), ()))) := by kernel_rfl

theorem T_impl_EpochPlay_c2 (N : Nat) (acts1 : List (Int × Int × Int)) (l12 : List Int) (t22 : Int) (t23 : Bool) (l24 : List Bool) :
    ((ctxK (R := ODen (T_impl_EpochPlay_sg N).ps × RDen (T_impl_EpochPlay_sg N).rs) tab (T_impl_EpochPlay_ctx N) T_impl_EpochPlay_ann N (theCode Try.f11) [1, 1, 1, 1, 0, 1, 0] (retK tab (T_impl_EpochPlay_sg N) Try.f11.results.toList some)) (.exit 2) (T_impl_EpochPlay_lp1_e0 acts1 l12 t22 t23 l24)) =
    (T_impl_EpochPlay_lp2 N acts1
    (fun t46 t47 b48 l49 l50 l51 l52 l53 =>
      (some (α := ODen (T_impl_EpochPlay_sg N).ps × RDen (T_impl_EpochPlay_sg N).rs) ((), ((b48, (l49, (l50, (l51, (l52, l53))))), ()))))
     N (0 : Int) (0 : Int) l12 l24 ([] : List (Int × Int)) ([] : List (Int × Int)) ([] : List Int)) := by
  have h : ((ctxK (R := ODen (T_impl_EpochPlay_sg N).ps × RDen (T_impl_EpochPlay_sg N).rs) tab (T_impl_EpochPlay_ctx N) T_impl_EpochPlay_ann N (theCode Try.f11) [1, 1, 1, 1, 0, 1, 0] (retK tab (T_impl_EpochPlay_sg N) Try.f11.results.toList some)) (.exit 2) (T_impl_EpochPlay_lp1_e0 acts1 l12 t22 t23 l24)) =
    (T_impl_EpochPlay_lp2_m N N (T_impl_EpochPlay_lp2_sh acts1 (0 : Int) (0 : Int) l12 l24 ([] : List (Int × Int)) ([] : List (Int × Int)) ([] : List Int)) (ctxK (R := ODen (T_impl_EpochPlay_sg N).ps × RDen (T_impl_EpochPlay_sg N).rs) tab (T_impl_EpochPlay_ctx N) T_impl_EpochPlay_ann N (theCode Try.f11) [1, 1, 1, 1, 1, 0, 1, 0] (retK tab (T_impl_EpochPlay_sg N) Try.f11.results.toList some))) := by kernel_rfl
  rw [h]
  (try simp only [T_impl_EpochPlay_lp2_eq, T_impl_EpochPlay_c3]) <;> rfl

theorem T_impl_EpochPlay_c1 (N : Nat) (acts1 : List (Int × Int × Int)) (t10 : Int) (t11 : Bool) (l12 : List Int) :
    ((ctxK (R := ODen (T_impl_EpochPlay_sg N).ps × RDen (T_impl_EpochPlay_sg N).rs) tab (T_impl_EpochPlay_ctx N) T_impl_EpochPlay_ann N (theCode Try.f11) [1, 1, 1, 0, 1, 0] (retK tab (T_impl_EpochPlay_sg N) Try.f11.results.toList some)) (.exit 0) (T_impl_EpochPlay_lp0_e0 acts1 t10 t11 l12)) =
    (T_impl_EpochPlay_lp1 N acts1 l12
    (fun t22 t23 l24 =>
      (T_impl_EpochPlay_lp2 N acts1
        (fun t46 t47 b48 l49 l50 l51 l52 l53 =>
          (some (α := ODen (T_impl_EpochPlay_sg N).ps × RDen (T_impl_EpochPlay_sg N).rs) ((), ((b48, (l49, (l50, (l51, (l52, l53))))), ()))))
         N (0 : Int) (0 : Int) l12 l24 ([] : List (Int × Int)) ([] : List (Int × Int)) ([] : List Int)))
     N (0 : Int) ([] : List Bool)) := by
  have h : ((ctxK (R := ODen (T_impl_EpochPlay_sg N).ps × RDen (T_impl_EpochPlay_sg N).rs) tab (T_impl_EpochPlay_ctx N) T_impl_EpochPlay_ann N (theCode Try.f11) [1, 1, 1, 0, 1, 0] (retK tab (T_impl_EpochPlay_sg N) Try.f11.results.toList some)) (.exit 0) (T_impl_EpochPlay_lp0_e0 acts1 t10 t11 l12)) =
    (T_impl_EpochPlay_lp1_m N N (T_impl_EpochPlay_lp1_sh acts1 (0 : Int) l12 ([] : List Bool)) (ctxK (R := ODen (T_impl_EpochPlay_sg N).ps × RDen (T_impl_EpochPlay_sg N).rs) tab (T_impl_EpochPlay_ctx N) T_impl_EpochPlay_ann N (theCode Try.f11) [1, 1, 1, 1, 0, 1, 0] (retK tab (T_impl_EpochPlay_sg N) Try.f11.results.toList some))) := by kernel_rfl
  rw [h]
  (try simp only [T_impl_EpochPlay_lp1_eq, T_impl_EpochPlay_c2]) <;> rfl

theorem T_impl_EpochPlay_den (N : Nat) (acts1 : List (Int × Int × Int)) :
    den (R := ODen (T_impl_EpochPlay_sg N).ps × RDen (T_impl_EpochPlay_sg N).rs) tab (T_impl_EpochPlay_ctx N) T_impl_EpochPlay_ann N (T_impl_EpochPlay_sg N) Try.f11 (acts1, ()) some =
    (bif decide ((ilen acts1) > (200 : Int)) then
    (some (α := ODen (T_impl_EpochPlay_sg N).ps × RDen (T_impl_EpochPlay_sg N).rs) ((), (((0 : Int), (([] : List Int), (([] : List Bool), (([] : List (Int × Int)), (([] : List (Int × Int)), ([] : List Int)))))), ())))
    else
    (T_impl_EpochPlay_lp0 N acts1
      (fun t10 t11 l12 =>
        (T_impl_EpochPlay_lp1 N acts1 l12
          (fun t22 t23 l24 =>
            (T_impl_EpochPlay_lp2 N acts1
              (fun t46 t47 b48 l49 l50 l51 l52 l53 =>
                (some (α := ODen (T_impl_EpochPlay_sg N).ps × RDen (T_impl_EpochPlay_sg N).rs) ((), ((b48, (l49, (l50, (l51, (l52, l53))))), ()))))
               N (0 : Int) (0 : Int) l12 l24 ([] : List (Int × Int)) ([] : List (Int × Int)) ([] : List Int)))
           N (0 : Int) ([] : List Bool)))
       N (0 : Int) ([] : List Int))) := by
  have h : den (R := ODen (T_impl_EpochPlay_sg N).ps × RDen (T_impl_EpochPlay_sg N).rs) tab (T_impl_EpochPlay_ctx N) T_impl_EpochPlay_ann N (T_impl_EpochPlay_sg N) Try.f11 (acts1, ()) some =
    (bif decide ((ilen acts1) > (200 : Int)) then
    (some (α := ODen (T_impl_EpochPlay_sg N).ps × RDen (T_impl_EpochPlay_sg N).rs) ((), (((0 : Int), (([] : List Int), (([] : List Bool), (([] : List (Int × Int)), (([] : List (Int × Int)), ([] : List Int)))))), ())))
    else
    (T_impl_EpochPlay_lp0_m N N (T_impl_EpochPlay_lp0_sh acts1 (0 : Int) ([] : List Int)) (ctxK (R := ODen (T_impl_EpochPlay_sg N).ps × RDen (T_impl_EpochPlay_sg N).rs) tab (T_impl_EpochPlay_ctx N) T_impl_EpochPlay_ann N (theCode Try.f11) [1, 1, 1, 0, 1, 0] (retK tab (T_impl_EpochPlay_sg N) Try.f11.results.toList some)))) := by kernel_rfl
  rw [h]
  (try simp only [T_impl_EpochPlay_lp0_eq, T_impl_EpochPlay_c1]) <;> rfl

theorem T_impl_EpochPlay_ok (N : Nat) : chkBody Try.f11 (T_impl_EpochPlay_sg N).ps = true := by kernel_rfl

theorem T_impl_EpochPlay_callable : Callable Try.prog 11 := callable_of Try.func11 (show chkFn Try.f11 = true by kernel_rfl)

theorem T_impl_EpochPlay_good (N : Nat) : Good Try.prog 11 (T_impl_EpochPlay_sg N) :=
  good_body mixedOk tabOk (ctx_cons (T_impl_Epochs_act_good N) T_impl_Epochs_act_callable ctx_nil) Try.func11 (T_impl_EpochPlay_ok N) (fun d _ h => ⟨N, (T_impl_EpochPlay_den N d.1).trans h⟩)

noncomputable def T_impl_EpochFlush_sg (N : Nat) : Sig := Sig.of [.v (.slice (.prod (.int .i64) (.prod (.int .i64) (.int .i64)))) false] [.v (.prod (.int .i64) (.prod (.own (.int .i64)) (.prod (.own (.bool)) (.prod (.own (.prod (.int .i64) (.int .i64))) (.prod (.own (.prod (.int .i64) (.int .i64))) (.own (.int .i64))))))) true] (fun d => T_impl_EpochFlush N d.1)

def T_impl_EpochFlush_ann : Nat → List Ghost
  | 5 => [.canon [2, 3, 11, 12]]
  | 6 => [.canon [2, 3, 4, 11]]
  | 7 => [.canon [2, 3, 11]]
  | 8 => [.canon [2, 3, 11]]
  | 100005 => [.canon [2, 3, 11]]
  | _ => []

noncomputable def T_impl_EpochFlush_ctx (N : Nat) : Ctx := [(11, T_impl_EpochPlay_sg N), (55, T_impl_Epochs_act_sg N), (56, T_impl_Epochs_move_sg N)]

def T_impl_EpochFlush_lp0_sh (t3 : Int) (b5 : Int) (l6 : List Int) (l7 : List Bool) (l8 : List (Int × Int)) (l9 : List (Int × Int)) (l10 : List Int) : St := { env := [(2, .s (.one (.ptr 0 0))), (3, .s (.one (.ptr 1 0))), (11, .s (.one (.val (.int .i64) (t3 : Int))))], objs := [(0, .box [.val (.int .i64) ((0 : Int) : Int), .nils, .nils, .nils, .nils, .nils]), (1, .box [.val (.int .i64) (b5 : Int), .own 2, .own 3, .own 4, .own 5, .own 6]), (2, .arr (.int .i64) (l6 : List Int)), (3, .arr (.bool) (l7 : List Bool)), (4, .arr (.prod (.int .i64) (.int .i64)) (l8 : List (Int × Int))), (5, .arr (.prod (.int .i64) (.int .i64)) (l9 : List (Int × Int))), (6, .arr (.int .i64) (l10 : List Int))], nx := 7 }

def T_impl_EpochFlush_lp0_e0 (t13 : Int) (t14 : Bool) (b15 : Int) (l16 : List Int) (l17 : List Bool) (l18 : List (Int × Int)) (l19 : List (Int × Int)) (l20 : List Int) : St := { env := [(2, .s (.one (.ptr 0 0))), (3, .s (.one (.ptr 1 0))), (11, .s (.one (.val (.int .i64) (t13 : Int)))), (12, .s (.one (.val (.bool) (t14 : Bool))))], objs := [(0, .box [.val (.int .i64) ((0 : Int) : Int), .nils, .nils, .nils, .nils, .nils]), (1, .box [.val (.int .i64) (b15 : Int), .own 2, .own 3, .own 4, .own 5, .own 6]), (2, .arr (.int .i64) (l16 : List Int)), (3, .arr (.bool) (l17 : List Bool)), (4, .arr (.prod (.int .i64) (.int .i64)) (l18 : List (Int × Int))), (5, .arr (.prod (.int .i64) (.int .i64)) (l19 : List (Int × Int))), (6, .arr (.int .i64) (l20 : List Int))], nx := 7 }

noncomputable def T_impl_EpochFlush_lp0_m (N : Nat) {R : Type} (n : Nat) (st : St) (K : Ex → St → Option R) : Option R := loopN (roundG (T_impl_EpochFlush_ann 100005) fun st k => sx tab (T_impl_EpochFlush_ctx N) T_impl_EpochFlush_ann N (nthLoop Try.f12 0) st k) n st K

theorem T_impl_EpochFlush_lp0_step (N : Nat) {R : Type} (n : Nat) (K : Ex → St → Option R) (t3 : Int) (b5 : Int) (l6 : List Int) (l7 : List Bool) (l8 : List (Int × Int)) (l9 : List (Int × Int)) (l10 : List Int) :
    T_impl_EpochFlush_lp0_m N (n + 1) (T_impl_EpochFlush_lp0_sh t3 b5 l6 l7 l8 l9 l10) K =
    (bif decide (t3 < (3 : Int)) then
    ((T_impl_Epochs_act N (b5, (l6, (l7, (l8, (l9, l10))))) ((2 : Int), (t3, (0 : Int)))).bind fun o21 =>
      (T_impl_EpochFlush_lp0_m N n (T_impl_EpochFlush_lp0_sh (iadd .i64 t3 (1 : Int)) o21.1.1.1 o21.1.1.2.1 o21.1.1.2.2.1 o21.1.1.2.2.2.1 o21.1.1.2.2.2.2.1 o21.1.1.2.2.2.2.2) K))
    else
    (K (.exit 0) (T_impl_EpochFlush_lp0_e0 t3 (decide (t3 < (3 : Int))) b5 l6 l7 l8 l9 l10))) := by kernel_rfl

theorem T_impl_EpochFlush_lp0_eq (N : Nat) {R : Type} (K : Ex → St → Option R) : ∀ (n : Nat) (t3 : Int) (b5 : Int) (l6 : List Int) (l7 : List Bool) (l8 : List (Int × Int)) (l9 : List (Int × Int)) (l10 : List Int), T_impl_EpochFlush_lp0_m N n (T_impl_EpochFlush_lp0_sh t3 b5 l6 l7 l8 l9 l10) K = T_impl_EpochFlush_lp0 N (fun t13 t14 b15 l16 l17 l18 l19 l20 => (K (.exit 0) (T_impl_EpochFlush_lp0_e0 t13 t14 b15 l16 l17 l18 l19 l20))) n t3 b5 l6 l7 l8 l9 l10
  | 0, _, _, _, _, _, _, _ => rfl
  | n + 1, t3, b5, l6, l7, l8, l9, l10 => by rw [T_impl_EpochFlush_lp0_step, T_impl_EpochFlush_lp0]; (try simp only [T_impl_EpochFlush_lp0_eq N K n])

theorem T_impl_EpochFlush_c1 (N : Nat) (t22 : Int) (t23 : Bool) (b24 : Int) (l25 : List Int) (l26 : List Bool) (l27 : List (Int × Int)) (l28 : List (Int × Int)) (l29 : List Int) :
    ((ctxK (R := ODen (T_impl_EpochFlush_sg N).ps × RDen (T_impl_EpochFlush_sg N).rs) tab (T_impl_EpochFlush_ctx N) T_impl_EpochFlush_ann N (theCode Try.f12) [1, 1, 1, 0, 1, 0] (retK tab (T_impl_EpochFlush_sg N) Try.f12.results.toList some)) (.exit 0) (T_impl_EpochFlush_lp0_e0 t22 t23 b24 l25 l26 l27 l28 l29)) =
    ((T_impl_Epochs_move N (b24, (l25, (l26, (l27, (l28, l29)))))).bind fun o30 =>
    ((T_impl_Epochs_move N o30.1.1).bind fun o31 =>
      (some (α := ODen (T_impl_EpochFlush_sg N).ps × RDen (T_impl_EpochFlush_sg N).rs) ((), (o31.1.1, ()))))) := by kernel_rfl

theorem T_impl_EpochFlush_den (N : Nat) (acts1 : List (Int × Int × Int)) :
    den (R := ODen (T_impl_EpochFlush_sg N).ps × RDen (T_impl_EpochFlush_sg N).rs) tab (T_impl_EpochFlush_ctx N) T_impl_EpochFlush_ann N (T_impl_EpochFlush_sg N) Try.f12 (acts1, ()) some =
    (bif decide ((ilen acts1) > (200 : Int)) then
    (some (α := ODen (T_impl_EpochFlush_sg N).ps × RDen (T_impl_EpochFlush_sg N).rs) ((), (((0 : Int), (([] : List Int), (([] : List Bool), (([] : List (Int × Int)), (([] : List (Int × Int)), ([] : List Int)))))), ())))
    else
    ((T_impl_EpochPlay N acts1).bind fun o2 =>
      (T_impl_EpochFlush_lp0 N
        (fun t22 t23 b24 l25 l26 l27 l28 l29 =>
          ((T_impl_Epochs_move N (b24, (l25, (l26, (l27, (l28, l29)))))).bind fun o30 =>
            ((T_impl_Epochs_move N o30.1.1).bind fun o31 =>
              (some (α := ODen (T_impl_EpochFlush_sg N).ps × RDen (T_impl_EpochFlush_sg N).rs) ((), (o31.1.1, ()))))))
         N (0 : Int) o2.2.1.1 o2.2.1.2.1 o2.2.1.2.2.1 o2.2.1.2.2.2.1 o2.2.1.2.2.2.2.1 o2.2.1.2.2.2.2.2))) := by
  have h : den (R := ODen (T_impl_EpochFlush_sg N).ps × RDen (T_impl_EpochFlush_sg N).rs) tab (T_impl_EpochFlush_ctx N) T_impl_EpochFlush_ann N (T_impl_EpochFlush_sg N) Try.f12 (acts1, ()) some =
    (bif decide ((ilen acts1) > (200 : Int)) then
    (some (α := ODen (T_impl_EpochFlush_sg N).ps × RDen (T_impl_EpochFlush_sg N).rs) ((), (((0 : Int), (([] : List Int), (([] : List Bool), (([] : List (Int × Int)), (([] : List (Int × Int)), ([] : List Int)))))), ())))
    else
    ((T_impl_EpochPlay N acts1).bind fun o2 =>
      (T_impl_EpochFlush_lp0_m N N (T_impl_EpochFlush_lp0_sh (0 : Int) o2.2.1.1 o2.2.1.2.1 o2.2.1.2.2.1 o2.2.1.2.2.2.1 o2.2.1.2.2.2.2.1 o2.2.1.2.2.2.2.2) (ctxK (R := ODen (T_impl_EpochFlush_sg N).ps × RDen (T_impl_EpochFlush_sg N).rs) tab (T_impl_EpochFlush_ctx N) T_impl_EpochFlush_ann N (theCode Try.f12) [1, 1, 1, 0, 1, 0] (retK tab (T_impl_EpochFlush_sg N) Try.f12.results.toList some))))) := by kernel_rfl
  rw [h]
  (try simp only [T_impl_EpochFlush_lp0_eq, T_impl_EpochFlush_c1]) <;> rfl

theorem T_impl_EpochFlush_ok (N : Nat) : chkBody Try.f12 (T_impl_EpochFlush_sg N).ps = true := by kernel_rfl

theorem T_impl_EpochFlush_callable : Callable Try.prog 12 := callable_of Try.func12 (show chkFn Try.f12 = true by kernel_rfl)

theorem T_impl_EpochFlush_good (N : Nat) : Good Try.prog 12 (T_impl_EpochFlush_sg N) :=
  good_body mixedOk tabOk (ctx_cons (T_impl_EpochPlay_good N) T_impl_EpochPlay_callable (ctx_cons (T_impl_Epochs_act_good N) T_impl_Epochs_act_callable (ctx_cons (T_impl_Epochs_move_good N) T_impl_Epochs_move_callable ctx_nil))) Try.func12 (T_impl_EpochFlush_ok N) (fun d _ h => ⟨N, (T_impl_EpochFlush_den N d.1).trans h⟩)

noncomputable def T_laws_eqIntS_sg (N : Nat) : Sig := Sig.of [.v (.slice (.int .i64)) false, .v (.slice (.int .i64)) false] [.v (.bool) false] (fun d => T_laws_eqIntS N d.1 d.2.1)

def T_laws_eqIntS_ann : Nat → List Ghost
  | 4 => [.canon [0, 1, 5, 14]]
  | 5 => [.canon [0, 1, 5]]
  | 6 => [.canon [0, 1, 5, 25]]
  | 7 => [.canon [4]]
  | 100004 => [.canon [0, 1, 5]]
  | _ => []

noncomputable def T_laws_eqIntS_ctx (N : Nat) : Ctx := []

def T_laws_eqIntS_lp0_sh (a3 : List Int) (b4 : List Int) (i5 : Int) : St := { env := [(0, .s (.one (.val (.slice (.int .i64)) (a3 : List Int)))), (1, .s (.one (.val (.slice (.int .i64)) (b4 : List Int)))), (5, .s (.one (.val (.int .i64) (i5 : Int))))], objs := [], nx := 0 }

def T_laws_eqIntS_lp0_e0 (a3 : List Int) (b4 : List Int) : St := { env := [(4, .s (.one (.val (.bool) (false : Bool))))], objs := [], nx := 0 }

def T_laws_eqIntS_lp0_e1 (a3 : List Int) (b4 : List Int) (i6 : Int) (t7 : Bool) : St := { env := [(0, .s (.one (.val (.slice (.int .i64)) (a3 : List Int)))), (1, .s (.one (.val (.slice (.int .i64)) (b4 : List Int)))), (5, .s (.one (.val (.int .i64) (i6 : Int)))), (14, .s (.one (.val (.bool) (t7 : Bool))))], objs := [], nx := 0 }

noncomputable def T_laws_eqIntS_lp0_m (N : Nat) {R : Type} (n : Nat) (st : St) (K : Ex → St → Option R) : Option R := loopN (roundG (T_laws_eqIntS_ann 100004) fun st k => sx tab (T_laws_eqIntS_ctx N) T_laws_eqIntS_ann N (nthLoop Try.f44 0) st k) n st K

theorem T_laws_eqIntS_lp0_step (N : Nat) {R : Type} (n : Nat) (K : Ex → St → Option R) (a3 : List Int) (b4 : List Int) (i5 : Int) :
    T_laws_eqIntS_lp0_m N (n + 1) (T_laws_eqIntS_lp0_sh a3 b4 i5) K =
    (bif decide (i5 < (ilen a3)) then
    (bif inb i5 (List.length a3) then
      (bif inb i5 (List.length b4) then
        (bif (List.getD a3 (Int.toNat i5) (0 : Int)) != (List.getD b4 (Int.toNat i5) (0 : Int)) then
          (K .ret (T_laws_eqIntS_lp0_e0 a3 b4))
          else
          (T_laws_eqIntS_lp0_m N n (T_laws_eqIntS_lp0_sh a3 b4 (iadd .i64 i5 (1 : Int))) K)) else none) else none)
    else
    (K (.exit 0) (T_laws_eqIntS_lp0_e1 a3 b4 i5 (decide (i5 < (ilen a3)))))) := by kernel_rfl

theorem T_laws_eqIntS_lp0_eq (N : Nat) {R : Type} (a3 : List Int) (b4 : List Int) (K : Ex → St → Option R) : ∀ (n : Nat) (i5 : Int), T_laws_eqIntS_lp0_m N n (T_laws_eqIntS_lp0_sh a3 b4 i5) K = T_laws_eqIntS_lp0 N a3 b4 (K .ret (T_laws_eqIntS_lp0_e0 a3 b4)) (fun i6 t7 => (K (.exit 0) (T_laws_eqIntS_lp0_e1 a3 b4 i6 t7))) n i5
  | 0, _ => rfl
  | n + 1, i5 => by rw [T_laws_eqIntS_lp0_step, T_laws_eqIntS_lp0]; (try simp only [T_laws_eqIntS_lp0_eq N a3 b4 K n])

theorem T_laws_eqIntS_c1 (N : Nat) (a1 : List Int) (b2 : List Int) :
    ((ctxK (R := ODen (T_laws_eqIntS_sg N).ps × RDen (T_laws_eqIntS_sg N).rs) tab (T_laws_eqIntS_ctx N) T_laws_eqIntS_ann N (theCode Try.f44) [1, 1, 0, 1, 0] (retK tab (T_laws_eqIntS_sg N) Try.f44.results.toList some)) .ret (T_laws_eqIntS_lp0_e0 a1 b2)) =
    (some (α := ODen (T_laws_eqIntS_sg N).ps × RDen (T_laws_eqIntS_sg N).rs) ((), (false, ()))) := by kernel_rfl

theorem T_laws_eqIntS_c2 (N : Nat) (a1 : List Int) (b2 : List Int) (i8 : Int) (t9 : Bool) :
    ((ctxK (R := ODen (T_laws_eqIntS_sg N).ps × RDen (T_laws_eqIntS_sg N).rs) tab (T_laws_eqIntS_ctx N) T_laws_eqIntS_ann N (theCode Try.f44) [1, 1, 0, 1, 0] (retK tab (T_laws_eqIntS_sg N) Try.f44.results.toList some)) (.exit 0) (T_laws_eqIntS_lp0_e1 a1 b2 i8 t9)) =
    (some (α := ODen (T_laws_eqIntS_sg N).ps × RDen (T_laws_eqIntS_sg N).rs) ((), (true, ()))) := by kernel_rfl

theorem T_laws_eqIntS_den (N : Nat) (a1 : List Int) (b2 : List Int) :
    den (R := ODen (T_laws_eqIntS_sg N).ps × RDen (T_laws_eqIntS_sg N).rs) tab (T_laws_eqIntS_ctx N) T_laws_eqIntS_ann N (T_laws_eqIntS_sg N) Try.f44 (a1, b2, ()) some =
    (bif (ilen a1) != (ilen b2) then
    (some (α := ODen (T_laws_eqIntS_sg N).ps × RDen (T_laws_eqIntS_sg N).rs) ((), (false, ())))
    else
    (T_laws_eqIntS_lp0 N a1 b2
      (some (α := ODen (T_laws_eqIntS_sg N).ps × RDen (T_laws_eqIntS_sg N).rs) ((), (false, ())))
      (fun i8 t9 =>
        (some (α := ODen (T_laws_eqIntS_sg N).ps × RDen (T_laws_eqIntS_sg N).rs) ((), (true, ()))))
       N (0 : Int))) := by
  have h : den (R := ODen (T_laws_eqIntS_sg N).ps × RDen (T_laws_eqIntS_sg N).rs) tab (T_laws_eqIntS_ctx N) T_laws_eqIntS_ann N (T_laws_eqIntS_sg N) Try.f44 (a1, b2, ()) some =
    (bif (ilen a1) != (ilen b2) then
    (some (α := ODen (T_laws_eqIntS_sg N).ps × RDen (T_laws_eqIntS_sg N).rs) ((), (false, ())))
    else
    (T_laws_eqIntS_lp0_m N N (T_laws_eqIntS_lp0_sh a1 b2 (0 : Int)) (ctxK (R := ODen (T_laws_eqIntS_sg N).ps × RDen (T_laws_eqIntS_sg N).rs) tab (T_laws_eqIntS_ctx N) T_laws_eqIntS_ann N (theCode Try.f44) [1, 1, 0, 1, 0] (retK tab (T_laws_eqIntS_sg N) Try.f44.results.toList some)))) := by kernel_rfl
  rw [h]
  (try simp only [T_laws_eqIntS_lp0_eq, T_laws_eqIntS_c1, T_laws_eqIntS_c2]) <;> rfl

theorem T_laws_eqIntS_ok (N : Nat) : chkBody Try.f44 (T_laws_eqIntS_sg N).ps = true := by kernel_rfl

theorem T_laws_eqIntS_callable : Callable Try.prog 44 := callable_of Try.func44 (show chkFn Try.f44 = true by kernel_rfl)

theorem T_laws_eqIntS_good (N : Nat) : Good Try.prog 44 (T_laws_eqIntS_sg N) :=
  good_body mixedOk tabOk ctx_nil Try.func44 (T_laws_eqIntS_ok N) (fun d _ h => ⟨N, (T_laws_eqIntS_den N d.1 d.2.1).trans h⟩)

noncomputable def T_laws_eqBoolS_sg (N : Nat) : Sig := Sig.of [.v (.slice (.bool)) false, .v (.slice (.bool)) false] [.v (.bool) false] (fun d => T_laws_eqBoolS N d.1 d.2.1)

def T_laws_eqBoolS_ann : Nat → List Ghost
  | 4 => [.canon [0, 1, 5, 14]]
  | 5 => [.canon [0, 1, 5]]
  | 6 => [.canon [0, 1, 5, 25]]
  | 7 => [.canon [4]]
  | 100004 => [.canon [0, 1, 5]]
  | _ => []

noncomputable def T_laws_eqBoolS_ctx (N : Nat) : Ctx := []

def T_laws_eqBoolS_lp0_sh (a3 : List Bool) (b4 : List Bool) (i5 : Int) : St := { env := [(0, .s (.one (.val (.slice (.bool)) (a3 : List Bool)))), (1, .s (.one (.val (.slice (.bool)) (b4 : List Bool)))), (5, .s (.one (.val (.int .i64) (i5 : Int))))], objs := [], nx := 0 }

def T_laws_eqBoolS_lp0_e0 (a3 : List Bool) (b4 : List Bool) : St := { env := [(4, .s (.one (.val (.bool) (false : Bool))))], objs := [], nx := 0 }

def T_laws_eqBoolS_lp0_e1 (a3 : List Bool) (b4 : List Bool) (i6 : Int) (t7 : Bool) : St := { env := [(0, .s (.one (.val (.slice (.bool)) (a3 : List Bool)))), (1, .s (.one (.val (.slice (.bool)) (b4 : List Bool)))), (5, .s (.one (.val (.int .i64) (i6 : Int)))), (14, .s (.one (.val (.bool) (t7 : Bool))))], objs := [], nx := 0 }

noncomputable def T_laws_eqBoolS_lp0_m (N : Nat) {R : Type} (n : Nat) (st : St) (K : Ex → St → Option R) : Option R := loopN (roundG (T_laws_eqBoolS_ann 100004) fun st k => sx tab (T_laws_eqBoolS_ctx N) T_laws_eqBoolS_ann N (nthLoop Try.f66 0) st k) n st K

theorem T_laws_eqBoolS_lp0_step (N : Nat) {R : Type} (n : Nat) (K : Ex → St → Option R) (a3 : List Bool) (b4 : List Bool) (i5 : Int) :
    T_laws_eqBoolS_lp0_m N (n + 1) (T_laws_eqBoolS_lp0_sh a3 b4 i5) K =
    (bif decide (i5 < (ilen a3)) then
    (bif inb i5 (List.length a3) then
      (bif inb i5 (List.length b4) then
        (bif !(beq (List.getD a3 (Int.toNat i5) false) (List.getD b4 (Int.toNat i5) false)) then
          (K .ret (T_laws_eqBoolS_lp0_e0 a3 b4))
          else
          (T_laws_eqBoolS_lp0_m N n (T_laws_eqBoolS_lp0_sh a3 b4 (iadd .i64 i5 (1 : Int))) K)) else none) else none)
    else
    (K (.exit 0) (T_laws_eqBoolS_lp0_e1 a3 b4 i5 (decide (i5 < (ilen a3)))))) := by kernel_rfl

theorem T_laws_eqBoolS_lp0_eq (N : Nat) {R : Type} (a3 : List Bool) (b4 : List Bool) (K : Ex → St → Option R) : ∀ (n : Nat) (i5 : Int), T_laws_eqBoolS_lp0_m N n (T_laws_eqBoolS_lp0_sh a3 b4 i5) K = T_laws_eqBoolS_lp0 N a3 b4 (K .ret (T_laws_eqBoolS_lp0_e0 a3 b4)) (fun i6 t7 => (K (.exit 0) (T_laws_eqBoolS_lp0_e1 a3 b4 i6 t7))) n i5
  | 0, _ => rfl
  | n + 1, i5 => by rw [T_laws_eqBoolS_lp0_step, T_laws_eqBoolS_lp0]; (try simp only [T_laws_eqBoolS_lp0_eq N a3 b4 K n])

theorem T_laws_eqBoolS_c1 (N : Nat) (a1 : List Bool) (b2 : List Bool) :
    ((ctxK (R := ODen (T_laws_eqBoolS_sg N).ps × RDen (T_laws_eqBoolS_sg N).rs) tab (T_laws_eqBoolS_ctx N) T_laws_eqBoolS_ann N (theCode Try.f66) [1, 1, 0, 1, 0] (retK tab (T_laws_eqBoolS_sg N) Try.f66.results.toList some)) .ret (T_laws_eqBoolS_lp0_e0 a1 b2)) =
    (some (α := ODen (T_laws_eqBoolS_sg N).ps × RDen (T_laws_eqBoolS_sg N).rs) ((), (false, ()))) := by kernel_rfl

theorem T_laws_eqBoolS_c2 (N : Nat) (a1 : List Bool) (b2 : List Bool) (i8 : Int) (t9 : Bool) :
    ((ctxK (R := ODen (T_laws_eqBoolS_sg N).ps × RDen (T_laws_eqBoolS_sg N).rs) tab (T_laws_eqBoolS_ctx N) T_laws_eqBoolS_ann N (theCode Try.f66) [1, 1, 0, 1, 0] (retK tab (T_laws_eqBoolS_sg N) Try.f66.results.toList some)) (.exit 0) (T_laws_eqBoolS_lp0_e1 a1 b2 i8 t9)) =
    (some (α := ODen (T_laws_eqBoolS_sg N).ps × RDen (T_laws_eqBoolS_sg N).rs) ((), (true, ()))) := by kernel_rfl

theorem T_laws_eqBoolS_den (N : Nat) (a1 : List Bool) (b2 : List Bool) :
    den (R := ODen (T_laws_eqBoolS_sg N).ps × RDen (T_laws_eqBoolS_sg N).rs) tab (T_laws_eqBoolS_ctx N) T_laws_eqBoolS_ann N (T_laws_eqBoolS_sg N) Try.f66 (a1, b2, ()) some =
    (bif (ilen a1) != (ilen b2) then
    (some (α := ODen (T_laws_eqBoolS_sg N).ps × RDen (T_laws_eqBoolS_sg N).rs) ((), (false, ())))
    else
    (T_laws_eqBoolS_lp0 N a1 b2
      (some (α := ODen (T_laws_eqBoolS_sg N).ps × RDen (T_laws_eqBoolS_sg N).rs) ((), (false, ())))
      (fun i8 t9 =>
        (some (α := ODen (T_laws_eqBoolS_sg N).ps × RDen (T_laws_eqBoolS_sg N).rs) ((), (true, ()))))
       N (0 : Int))) := by
  have h : den (R := ODen (T_laws_eqBoolS_sg N).ps × RDen (T_laws_eqBoolS_sg N).rs) tab (T_laws_eqBoolS_ctx N) T_laws_eqBoolS_ann N (T_laws_eqBoolS_sg N) Try.f66 (a1, b2, ()) some =
    (bif (ilen a1) != (ilen b2) then
    (some (α := ODen (T_laws_eqBoolS_sg N).ps × RDen (T_laws_eqBoolS_sg N).rs) ((), (false, ())))
    else
    (T_laws_eqBoolS_lp0_m N N (T_laws_eqBoolS_lp0_sh a1 b2 (0 : Int)) (ctxK (R := ODen (T_laws_eqBoolS_sg N).ps × RDen (T_laws_eqBoolS_sg N).rs) tab (T_laws_eqBoolS_ctx N) T_laws_eqBoolS_ann N (theCode Try.f66) [1, 1, 0, 1, 0] (retK tab (T_laws_eqBoolS_sg N) Try.f66.results.toList some)))) := by kernel_rfl
  rw [h]
  (try simp only [T_laws_eqBoolS_lp0_eq, T_laws_eqBoolS_c1, T_laws_eqBoolS_c2]) <;> rfl

theorem T_laws_eqBoolS_ok (N : Nat) : chkBody Try.f66 (T_laws_eqBoolS_sg N).ps = true := by kernel_rfl

theorem T_laws_eqBoolS_callable : Callable Try.prog 66 := callable_of Try.func66 (show chkFn Try.f66 = true by kernel_rfl)

theorem T_laws_eqBoolS_good (N : Nat) : Good Try.prog 66 (T_laws_eqBoolS_sg N) :=
  good_body mixedOk tabOk ctx_nil Try.func66 (T_laws_eqBoolS_ok N) (fun d _ h => ⟨N, (T_laws_eqBoolS_den N d.1 d.2.1).trans h⟩)

noncomputable def T_laws_eqEpBag_sg (N : Nat) : Sig := Sig.of [.v (.prod (.int .i64) (.int .i64)) true, .v (.prod (.int .i64) (.int .i64)) true] [.v (.bool) false] (fun d => T_laws_eqEpBag N d.1 d.2.1)

def T_laws_eqEpBag_ann : Nat → List Ghost
  | _ => []

noncomputable def T_laws_eqEpBag_ctx (N : Nat) : Ctx := []

theorem T_laws_eqEpBag_den (N : Nat) (a1 : Int × Int) (b2 : Int × Int) :
    den (R := ODen (T_laws_eqEpBag_sg N).ps × RDen (T_laws_eqEpBag_sg N).rs) tab (T_laws_eqEpBag_ctx N) T_laws_eqEpBag_ann N (T_laws_eqEpBag_sg N) Try.f121 (a1, b2, ()) some =
    (bif a1.1 != b2.1 then
    (some (α := ODen (T_laws_eqEpBag_sg N).ps × RDen (T_laws_eqEpBag_sg N).rs) ((), (false, ())))
    else
    (bif a1.2 != b2.2 then
      (some (α := ODen (T_laws_eqEpBag_sg N).ps × RDen (T_laws_eqEpBag_sg N).rs) ((), (false, ())))
      else
      (some (α := ODen (T_laws_eqEpBag_sg N).ps × RDen (T_laws_eqEpBag_sg N).rs) ((), (true, ()))))) := by kernel_rfl

theorem T_laws_eqEpBag_ok (N : Nat) : chkBody Try.f121 (T_laws_eqEpBag_sg N).ps = true := by kernel_rfl

theorem T_laws_eqEpBag_callable : Callable Try.prog 121 := callable_of Try.func121 (show chkFn Try.f121 = true by kernel_rfl)

theorem T_laws_eqEpBag_good (N : Nat) : Good Try.prog 121 (T_laws_eqEpBag_sg N) :=
  good_body mixedOk tabOk ctx_nil Try.func121 (T_laws_eqEpBag_ok N) (fun d _ h => ⟨N, (T_laws_eqEpBag_den N d.1 d.2.1).trans h⟩)

noncomputable def T_laws_eqEpBagS_sg (N : Nat) : Sig := Sig.of [.v (.slice (.prod (.int .i64) (.int .i64))) false, .v (.slice (.prod (.int .i64) (.int .i64))) false] [.v (.bool) false] (fun d => T_laws_eqEpBagS N d.1 d.2.1)

def T_laws_eqEpBagS_ann : Nat → List Ghost
  | 4 => [.canon [0, 1, 5, 14]]
  | 5 => [.canon [0, 1, 5]]
  | 6 => [.canon [0, 1, 5, 26]]
  | 7 => [.canon [4]]
  | 100004 => [.canon [0, 1, 5]]
  | _ => []

noncomputable def T_laws_eqEpBagS_ctx (N : Nat) : Ctx := [(121, T_laws_eqEpBag_sg N)]

def T_laws_eqEpBagS_lp0_sh (a3 : List (Int × Int)) (b4 : List (Int × Int)) (i5 : Int) : St := { env := [(0, .s (.one (.val (.slice (.prod (.int .i64) (.int .i64))) (a3 : List (Int × Int))))), (1, .s (.one (.val (.slice (.prod (.int .i64) (.int .i64))) (b4 : List (Int × Int))))), (5, .s (.one (.val (.int .i64) (i5 : Int))))], objs := [], nx := 0 }

def T_laws_eqEpBagS_lp0_e0 (a3 : List (Int × Int)) (b4 : List (Int × Int)) : St := { env := [(4, .s (.one (.val (.bool) (false : Bool))))], objs := [], nx := 0 }

def T_laws_eqEpBagS_lp0_e1 (a3 : List (Int × Int)) (b4 : List (Int × Int)) (i7 : Int) (t8 : Bool) : St := { env := [(0, .s (.one (.val (.slice (.prod (.int .i64) (.int .i64))) (a3 : List (Int × Int))))), (1, .s (.one (.val (.slice (.prod (.int .i64) (.int .i64))) (b4 : List (Int × Int))))), (5, .s (.one (.val (.int .i64) (i7 : Int)))), (14, .s (.one (.val (.bool) (t8 : Bool))))], objs := [], nx := 0 }

noncomputable def T_laws_eqEpBagS_lp0_m (N : Nat) {R : Type} (n : Nat) (st : St) (K : Ex → St → Option R) : Option R := loopN (roundG (T_laws_eqEpBagS_ann 100004) fun st k => sx tab (T_laws_eqEpBagS_ctx N) T_laws_eqEpBagS_ann N (nthLoop Try.f67 0) st k) n st K

theorem T_laws_eqEpBagS_lp0_step (N : Nat) {R : Type} (n : Nat) (K : Ex → St → Option R) (a3 : List (Int × Int)) (b4 : List (Int × Int)) (i5 : Int) :
    T_laws_eqEpBagS_lp0_m N (n + 1) (T_laws_eqEpBagS_lp0_sh a3 b4 i5) K =
    (bif decide (i5 < (ilen a3)) then
    (bif inb i5 (List.length a3) then
      (bif inb i5 (List.length b4) then
        ((T_laws_eqEpBag N (List.getD a3 (Int.toNat i5) ((0 : Int), (0 : Int))) (List.getD b4 (Int.toNat i5) ((0 : Int), (0 : Int)))).bind fun o9 =>
          (bif !o9.2.1 then
            (K .ret (T_laws_eqEpBagS_lp0_e0 a3 b4))
            else
            (T_laws_eqEpBagS_lp0_m N n (T_laws_eqEpBagS_lp0_sh a3 b4 (iadd .i64 i5 (1 : Int))) K))) else none) else none)
    else
    (K (.exit 0) (T_laws_eqEpBagS_lp0_e1 a3 b4 i5 (decide (i5 < (ilen a3)))))) := by kernel_rfl

theorem T_laws_eqEpBagS_lp0_eq (N : Nat) {R : Type} (a3 : List (Int × Int)) (b4 : List (Int × Int)) (K : Ex → St → Option R) : ∀ (n : Nat) (i5 : Int), T_laws_eqEpBagS_lp0_m N n (T_laws_eqEpBagS_lp0_sh a3 b4 i5) K = T_laws_eqEpBagS_lp0 N a3 b4 (K .ret (T_laws_eqEpBagS_lp0_e0 a3 b4)) (fun i7 t8 => (K (.exit 0) (T_laws_eqEpBagS_lp0_e1 a3 b4 i7 t8))) n i5
  | 0, _ => rfl
  | n + 1, i5 => by rw [T_laws_eqEpBagS_lp0_step, T_laws_eqEpBagS_lp0]; (try simp only [T_laws_eqEpBagS_lp0_eq N a3 b4 K n])

theorem T_laws_eqEpBagS_c1 (N : Nat) (a1 : List (Int × Int)) (b2 : List (Int × Int)) :
    ((ctxK (R := ODen (T_laws_eqEpBagS_sg N).ps × RDen (T_laws_eqEpBagS_sg N).rs) tab (T_laws_eqEpBagS_ctx N) T_laws_eqEpBagS_ann N (theCode Try.f67) [1, 1, 0, 1, 0] (retK tab (T_laws_eqEpBagS_sg N) Try.f67.results.toList some)) .ret (T_laws_eqEpBagS_lp0_e0 a1 b2)) =
    (some (α := ODen (T_laws_eqEpBagS_sg N).ps × RDen (T_laws_eqEpBagS_sg N).rs) ((), (false, ()))) := by kernel_rfl

theorem T_laws_eqEpBagS_c2 (N : Nat) (a1 : List (Int × Int)) (b2 : List (Int × Int)) (i10 : Int) (t11 : Bool) :
    ((ctxK (R := ODen (T_laws_eqEpBagS_sg N).ps × RDen (T_laws_eqEpBagS_sg N).rs) tab (T_laws_eqEpBagS_ctx N) T_laws_eqEpBagS_ann N (theCode Try.f67) [1, 1, 0, 1, 0] (retK tab (T_laws_eqEpBagS_sg N) Try.f67.results.toList some)) (.exit 0) (T_laws_eqEpBagS_lp0_e1 a1 b2 i10 t11)) =
    (some (α := ODen (T_laws_eqEpBagS_sg N).ps × RDen (T_laws_eqEpBagS_sg N).rs) ((), (true, ()))) := by kernel_rfl

theorem T_laws_eqEpBagS_den (N : Nat) (a1 : List (Int × Int)) (b2 : List (Int × Int)) :
    den (R := ODen (T_laws_eqEpBagS_sg N).ps × RDen (T_laws_eqEpBagS_sg N).rs) tab (T_laws_eqEpBagS_ctx N) T_laws_eqEpBagS_ann N (T_laws_eqEpBagS_sg N) Try.f67 (a1, b2, ()) some =
    (bif (ilen a1) != (ilen b2) then
    (some (α := ODen (T_laws_eqEpBagS_sg N).ps × RDen (T_laws_eqEpBagS_sg N).rs) ((), (false, ())))
    else
    (T_laws_eqEpBagS_lp0 N a1 b2
      (some (α := ODen (T_laws_eqEpBagS_sg N).ps × RDen (T_laws_eqEpBagS_sg N).rs) ((), (false, ())))
      (fun i10 t11 =>
        (some (α := ODen (T_laws_eqEpBagS_sg N).ps × RDen (T_laws_eqEpBagS_sg N).rs) ((), (true, ()))))
       N (0 : Int))) := by
  have h : den (R := ODen (T_laws_eqEpBagS_sg N).ps × RDen (T_laws_eqEpBagS_sg N).rs) tab (T_laws_eqEpBagS_ctx N) T_laws_eqEpBagS_ann N (T_laws_eqEpBagS_sg N) Try.f67 (a1, b2, ()) some =
    (bif (ilen a1) != (ilen b2) then
    (some (α := ODen (T_laws_eqEpBagS_sg N).ps × RDen (T_laws_eqEpBagS_sg N).rs) ((), (false, ())))
    else
    (T_laws_eqEpBagS_lp0_m N N (T_laws_eqEpBagS_lp0_sh a1 b2 (0 : Int)) (ctxK (R := ODen (T_laws_eqEpBagS_sg N).ps × RDen (T_laws_eqEpBagS_sg N).rs) tab (T_laws_eqEpBagS_ctx N) T_laws_eqEpBagS_ann N (theCode Try.f67) [1, 1, 0, 1, 0] (retK tab (T_laws_eqEpBagS_sg N) Try.f67.results.toList some)))) := by kernel_rfl
  rw [h]
  (try simp only [T_laws_eqEpBagS_lp0_eq, T_laws_eqEpBagS_c1, T_laws_eqEpBagS_c2]) <;> rfl

theorem T_laws_eqEpBagS_ok (N : Nat) : chkBody Try.f67 (T_laws_eqEpBagS_sg N).ps = true := by kernel_rfl

theorem T_laws_eqEpBagS_callable : Callable Try.prog 67 := callable_of Try.func67 (show chkFn Try.f67 = true by kernel_rfl)

theorem T_laws_eqEpBagS_good (N : Nat) : Good Try.prog 67 (T_laws_eqEpBagS_sg N) :=
  good_body mixedOk tabOk (ctx_cons (T_laws_eqEpBag_good N) T_laws_eqEpBag_callable ctx_nil) Try.func67 (T_laws_eqEpBagS_ok N) (fun d _ h => ⟨N, (T_laws_eqEpBagS_den N d.1 d.2.1).trans h⟩)

noncomputable def T_laws_eqEpHold_sg (N : Nat) : Sig := Sig.of [.v (.prod (.int .i64) (.int .i64)) true, .v (.prod (.int .i64) (.int .i64)) true] [.v (.bool) false] (fun d => T_laws_eqEpHold N d.1 d.2.1)

def T_laws_eqEpHold_ann : Nat → List Ghost
  | _ => []

noncomputable def T_laws_eqEpHold_ctx (N : Nat) : Ctx := []

theorem T_laws_eqEpHold_den (N : Nat) (a1 : Int × Int) (b2 : Int × Int) :
    den (R := ODen (T_laws_eqEpHold_sg N).ps × RDen (T_laws_eqEpHold_sg N).rs) tab (T_laws_eqEpHold_ctx N) T_laws_eqEpHold_ann N (T_laws_eqEpHold_sg N) Try.f122 (a1, b2, ()) some =
    (bif a1.1 != b2.1 then
    (some (α := ODen (T_laws_eqEpHold_sg N).ps × RDen (T_laws_eqEpHold_sg N).rs) ((), (false, ())))
    else
    (bif a1.2 != b2.2 then
      (some (α := ODen (T_laws_eqEpHold_sg N).ps × RDen (T_laws_eqEpHold_sg N).rs) ((), (false, ())))
      else
      (some (α := ODen (T_laws_eqEpHold_sg N).ps × RDen (T_laws_eqEpHold_sg N).rs) ((), (true, ()))))) := by kernel_rfl

theorem T_laws_eqEpHold_ok (N : Nat) : chkBody Try.f122 (T_laws_eqEpHold_sg N).ps = true := by kernel_rfl

theorem T_laws_eqEpHold_callable : Callable Try.prog 122 := callable_of Try.func122 (show chkFn Try.f122 = true by kernel_rfl)

theorem T_laws_eqEpHold_good (N : Nat) : Good Try.prog 122 (T_laws_eqEpHold_sg N) :=
  good_body mixedOk tabOk ctx_nil Try.func122 (T_laws_eqEpHold_ok N) (fun d _ h => ⟨N, (T_laws_eqEpHold_den N d.1 d.2.1).trans h⟩)

noncomputable def T_laws_eqEpHoldS_sg (N : Nat) : Sig := Sig.of [.v (.slice (.prod (.int .i64) (.int .i64))) false, .v (.slice (.prod (.int .i64) (.int .i64))) false] [.v (.bool) false] (fun d => T_laws_eqEpHoldS N d.1 d.2.1)

def T_laws_eqEpHoldS_ann : Nat → List Ghost
  | 4 => [.canon [0, 1, 5, 14]]
  | 5 => [.canon [0, 1, 5]]
  | 6 => [.canon [0, 1, 5, 26]]
  | 7 => [.canon [4]]
  | 100004 => [.canon [0, 1, 5]]
  | _ => []

noncomputable def T_laws_eqEpHoldS_ctx (N : Nat) : Ctx := [(122, T_laws_eqEpHold_sg N)]

def T_laws_eqEpHoldS_lp0_sh (a3 : List (Int × Int)) (b4 : List (Int × Int)) (i5 : Int) : St := { env := [(0, .s (.one (.val (.slice (.prod (.int .i64) (.int .i64))) (a3 : List (Int × Int))))), (1, .s (.one (.val (.slice (.prod (.int .i64) (.int .i64))) (b4 : List (Int × Int))))), (5, .s (.one (.val (.int .i64) (i5 : Int))))], objs := [], nx := 0 }

def T_laws_eqEpHoldS_lp0_e0 (a3 : List (Int × Int)) (b4 : List (Int × Int)) : St := { env := [(4, .s (.one (.val (.bool) (false : Bool))))], objs := [], nx := 0 }

def T_laws_eqEpHoldS_lp0_e1 (a3 : List (Int × Int)) (b4 : List (Int × Int)) (i7 : Int) (t8 : Bool) : St := { env := [(0, .s (.one (.val (.slice (.prod (.int .i64) (.int .i64))) (a3 : List (Int × Int))))), (1, .s (.one (.val (.slice (.prod (.int .i64) (.int .i64))) (b4 : List (Int × Int))))), (5, .s (.one (.val (.int .i64) (i7 : Int)))), (14, .s (.one (.val (.bool) (t8 : Bool))))], objs := [], nx := 0 }

noncomputable def T_laws_eqEpHoldS_lp0_m (N : Nat) {R : Type} (n : Nat) (st : St) (K : Ex → St → Option R) : Option R := loopN (roundG (T_laws_eqEpHoldS_ann 100004) fun st k => sx tab (T_laws_eqEpHoldS_ctx N) T_laws_eqEpHoldS_ann N (nthLoop Try.f68 0) st k) n st K

theorem T_laws_eqEpHoldS_lp0_step (N : Nat) {R : Type} (n : Nat) (K : Ex → St → Option R) (a3 : List (Int × Int)) (b4 : List (Int × Int)) (i5 : Int) :
    T_laws_eqEpHoldS_lp0_m N (n + 1) (T_laws_eqEpHoldS_lp0_sh a3 b4 i5) K =
    (bif decide (i5 < (ilen a3)) then
    (bif inb i5 (List.length a3) then
      (bif inb i5 (List.length b4) then
        ((T_laws_eqEpHold N (List.getD a3 (Int.toNat i5) ((0 : Int), (0 : Int))) (List.getD b4 (Int.toNat i5) ((0 : Int), (0 : Int)))).bind fun o9 =>
          (bif !o9.2.1 then
            (K .ret (T_laws_eqEpHoldS_lp0_e0 a3 b4))
            else
            (T_laws_eqEpHoldS_lp0_m N n (T_laws_eqEpHoldS_lp0_sh a3 b4 (iadd .i64 i5 (1 : Int))) K))) else none) else none)
    else
    (K (.exit 0) (T_laws_eqEpHoldS_lp0_e1 a3 b4 i5 (decide (i5 < (ilen a3)))))) := by kernel_rfl

theorem T_laws_eqEpHoldS_lp0_eq (N : Nat) {R : Type} (a3 : List (Int × Int)) (b4 : List (Int × Int)) (K : Ex → St → Option R) : ∀ (n : Nat) (i5 : Int), T_laws_eqEpHoldS_lp0_m N n (T_laws_eqEpHoldS_lp0_sh a3 b4 i5) K = T_laws_eqEpHoldS_lp0 N a3 b4 (K .ret (T_laws_eqEpHoldS_lp0_e0 a3 b4)) (fun i7 t8 => (K (.exit 0) (T_laws_eqEpHoldS_lp0_e1 a3 b4 i7 t8))) n i5
  | 0, _ => rfl
  | n + 1, i5 => by rw [T_laws_eqEpHoldS_lp0_step, T_laws_eqEpHoldS_lp0]; (try simp only [T_laws_eqEpHoldS_lp0_eq N a3 b4 K n])

theorem T_laws_eqEpHoldS_c1 (N : Nat) (a1 : List (Int × Int)) (b2 : List (Int × Int)) :
    ((ctxK (R := ODen (T_laws_eqEpHoldS_sg N).ps × RDen (T_laws_eqEpHoldS_sg N).rs) tab (T_laws_eqEpHoldS_ctx N) T_laws_eqEpHoldS_ann N (theCode Try.f68) [1, 1, 0, 1, 0] (retK tab (T_laws_eqEpHoldS_sg N) Try.f68.results.toList some)) .ret (T_laws_eqEpHoldS_lp0_e0 a1 b2)) =
    (some (α := ODen (T_laws_eqEpHoldS_sg N).ps × RDen (T_laws_eqEpHoldS_sg N).rs) ((), (false, ()))) := by kernel_rfl

theorem T_laws_eqEpHoldS_c2 (N : Nat) (a1 : List (Int × Int)) (b2 : List (Int × Int)) (i10 : Int) (t11 : Bool) :
    ((ctxK (R := ODen (T_laws_eqEpHoldS_sg N).ps × RDen (T_laws_eqEpHoldS_sg N).rs) tab (T_laws_eqEpHoldS_ctx N) T_laws_eqEpHoldS_ann N (theCode Try.f68) [1, 1, 0, 1, 0] (retK tab (T_laws_eqEpHoldS_sg N) Try.f68.results.toList some)) (.exit 0) (T_laws_eqEpHoldS_lp0_e1 a1 b2 i10 t11)) =
    (some (α := ODen (T_laws_eqEpHoldS_sg N).ps × RDen (T_laws_eqEpHoldS_sg N).rs) ((), (true, ()))) := by kernel_rfl

theorem T_laws_eqEpHoldS_den (N : Nat) (a1 : List (Int × Int)) (b2 : List (Int × Int)) :
    den (R := ODen (T_laws_eqEpHoldS_sg N).ps × RDen (T_laws_eqEpHoldS_sg N).rs) tab (T_laws_eqEpHoldS_ctx N) T_laws_eqEpHoldS_ann N (T_laws_eqEpHoldS_sg N) Try.f68 (a1, b2, ()) some =
    (bif (ilen a1) != (ilen b2) then
    (some (α := ODen (T_laws_eqEpHoldS_sg N).ps × RDen (T_laws_eqEpHoldS_sg N).rs) ((), (false, ())))
    else
    (T_laws_eqEpHoldS_lp0 N a1 b2
      (some (α := ODen (T_laws_eqEpHoldS_sg N).ps × RDen (T_laws_eqEpHoldS_sg N).rs) ((), (false, ())))
      (fun i10 t11 =>
        (some (α := ODen (T_laws_eqEpHoldS_sg N).ps × RDen (T_laws_eqEpHoldS_sg N).rs) ((), (true, ()))))
       N (0 : Int))) := by
  have h : den (R := ODen (T_laws_eqEpHoldS_sg N).ps × RDen (T_laws_eqEpHoldS_sg N).rs) tab (T_laws_eqEpHoldS_ctx N) T_laws_eqEpHoldS_ann N (T_laws_eqEpHoldS_sg N) Try.f68 (a1, b2, ()) some =
    (bif (ilen a1) != (ilen b2) then
    (some (α := ODen (T_laws_eqEpHoldS_sg N).ps × RDen (T_laws_eqEpHoldS_sg N).rs) ((), (false, ())))
    else
    (T_laws_eqEpHoldS_lp0_m N N (T_laws_eqEpHoldS_lp0_sh a1 b2 (0 : Int)) (ctxK (R := ODen (T_laws_eqEpHoldS_sg N).ps × RDen (T_laws_eqEpHoldS_sg N).rs) tab (T_laws_eqEpHoldS_ctx N) T_laws_eqEpHoldS_ann N (theCode Try.f68) [1, 1, 0, 1, 0] (retK tab (T_laws_eqEpHoldS_sg N) Try.f68.results.toList some)))) := by kernel_rfl
  rw [h]
  (try simp only [T_laws_eqEpHoldS_lp0_eq, T_laws_eqEpHoldS_c1, T_laws_eqEpHoldS_c2]) <;> rfl

theorem T_laws_eqEpHoldS_ok (N : Nat) : chkBody Try.f68 (T_laws_eqEpHoldS_sg N).ps = true := by kernel_rfl

theorem T_laws_eqEpHoldS_callable : Callable Try.prog 68 := callable_of Try.func68 (show chkFn Try.f68 = true by kernel_rfl)

theorem T_laws_eqEpHoldS_good (N : Nat) : Good Try.prog 68 (T_laws_eqEpHoldS_sg N) :=
  good_body mixedOk tabOk (ctx_cons (T_laws_eqEpHold_good N) T_laws_eqEpHold_callable ctx_nil) Try.func68 (T_laws_eqEpHoldS_ok N) (fun d _ h => ⟨N, (T_laws_eqEpHoldS_den N d.1 d.2.1).trans h⟩)

noncomputable def T_laws_eqEpochs_sg (N : Nat) : Sig := Sig.of [.v (.prod (.int .i64) (.prod (.slice (.int .i64)) (.prod (.slice (.bool)) (.prod (.slice (.prod (.int .i64) (.int .i64))) (.prod (.slice (.prod (.int .i64) (.int .i64))) (.slice (.int .i64))))))) true, .v (.prod (.int .i64) (.prod (.slice (.int .i64)) (.prod (.slice (.bool)) (.prod (.slice (.prod (.int .i64) (.int .i64))) (.prod (.slice (.prod (.int .i64) (.int .i64))) (.slice (.int .i64))))))) true] [.v (.bool) false] (fun d => T_laws_eqEpochs N d.1 d.2.1)

def T_laws_eqEpochs_ann : Nat → List Ghost
  | _ => []

noncomputable def T_laws_eqEpochs_ctx (N : Nat) : Ctx := [(44, T_laws_eqIntS_sg N), (66, T_laws_eqBoolS_sg N), (67, T_laws_eqEpBagS_sg N), (68, T_laws_eqEpHoldS_sg N)]

theorem T_laws_eqEpochs_den (N : Nat) (a1 : Int × List Int × List Bool × List (Int × Int) × List (Int × Int) × List Int) (b2 : Int × List Int × List Bool × List (Int × Int) × List (Int × Int) × List Int) :
    den (R := ODen (T_laws_eqEpochs_sg N).ps × RDen (T_laws_eqEpochs_sg N).rs) tab (T_laws_eqEpochs_ctx N) T_laws_eqEpochs_ann N (T_laws_eqEpochs_sg N) Try.f20 (a1, b2, ()) some =
    (bif a1.1 != b2.1 then
    (some (α := ODen (T_laws_eqEpochs_sg N).ps × RDen (T_laws_eqEpochs_sg N).rs) ((), (false, ())))
    else
    ((T_laws_eqIntS N a1.2.1 b2.2.1).bind fun o3 =>
      (bif !o3.2.1 then
        (some (α := ODen (T_laws_eqEpochs_sg N).ps × RDen (T_laws_eqEpochs_sg N).rs) ((), (false, ())))
        else
        ((T_laws_eqBoolS N a1.2.2.1 b2.2.2.1).bind fun o4 =>
          (bif !o4.2.1 then
            (some (α := ODen (T_laws_eqEpochs_sg N).ps × RDen (T_laws_eqEpochs_sg N).rs) ((), (false, ())))
            else
            ((T_laws_eqEpBagS N a1.2.2.2.1 b2.2.2.2.1).bind fun o5 =>
              (bif !o5.2.1 then
                (some (α := ODen (T_laws_eqEpochs_sg N).ps × RDen (T_laws_eqEpochs_sg N).rs) ((), (false, ())))
                else
                ((T_laws_eqEpHoldS N a1.2.2.2.2.1 b2.2.2.2.2.1).bind fun o6 =>
                  (bif !o6.2.1 then
                    (some (α := ODen (T_laws_eqEpochs_sg N).ps × RDen (T_laws_eqEpochs_sg N).rs) ((), (false, ())))
                    else
                    ((T_laws_eqIntS N a1.2.2.2.2.2 b2.2.2.2.2.2).bind fun o7 =>
                      (bif !o7.2.1 then
                        (some (α := ODen (T_laws_eqEpochs_sg N).ps × RDen (T_laws_eqEpochs_sg N).rs) ((), (false, ())))
                        else
                        (some (α := ODen (T_laws_eqEpochs_sg N).ps × RDen (T_laws_eqEpochs_sg N).rs) ((), (true, ())))))))))))))) := by kernel_rfl

theorem T_laws_eqEpochs_ok (N : Nat) : chkBody Try.f20 (T_laws_eqEpochs_sg N).ps = true := by kernel_rfl

theorem T_laws_eqEpochs_callable : Callable Try.prog 20 := callable_of Try.func20 (show chkFn Try.f20 = true by kernel_rfl)

theorem T_laws_eqEpochs_good (N : Nat) : Good Try.prog 20 (T_laws_eqEpochs_sg N) :=
  good_body mixedOk tabOk (ctx_cons (T_laws_eqIntS_good N) T_laws_eqIntS_callable (ctx_cons (T_laws_eqBoolS_good N) T_laws_eqBoolS_callable (ctx_cons (T_laws_eqEpBagS_good N) T_laws_eqEpBagS_callable (ctx_cons (T_laws_eqEpHoldS_good N) T_laws_eqEpHoldS_callable ctx_nil)))) Try.func20 (T_laws_eqEpochs_ok N) (fun d _ h => ⟨N, (T_laws_eqEpochs_den N d.1 d.2.1).trans h⟩)

noncomputable def T_laws_eqEpAct_sg (N : Nat) : Sig := Sig.of [.v (.prod (.int .i64) (.prod (.int .i64) (.int .i64))) true, .v (.prod (.int .i64) (.prod (.int .i64) (.int .i64))) true] [.v (.bool) false] (fun d => T_laws_eqEpAct N d.1 d.2.1)

def T_laws_eqEpAct_ann : Nat → List Ghost
  | _ => []

noncomputable def T_laws_eqEpAct_ctx (N : Nat) : Ctx := []

theorem T_laws_eqEpAct_den (N : Nat) (a1 : Int × Int × Int) (b2 : Int × Int × Int) :
    den (R := ODen (T_laws_eqEpAct_sg N).ps × RDen (T_laws_eqEpAct_sg N).rs) tab (T_laws_eqEpAct_ctx N) T_laws_eqEpAct_ann N (T_laws_eqEpAct_sg N) Try.f69 (a1, b2, ()) some =
    (bif a1.1 != b2.1 then
    (some (α := ODen (T_laws_eqEpAct_sg N).ps × RDen (T_laws_eqEpAct_sg N).rs) ((), (false, ())))
    else
    (bif a1.2.1 != b2.2.1 then
      (some (α := ODen (T_laws_eqEpAct_sg N).ps × RDen (T_laws_eqEpAct_sg N).rs) ((), (false, ())))
      else
      (bif a1.2.2 != b2.2.2 then
        (some (α := ODen (T_laws_eqEpAct_sg N).ps × RDen (T_laws_eqEpAct_sg N).rs) ((), (false, ())))
        else
        (some (α := ODen (T_laws_eqEpAct_sg N).ps × RDen (T_laws_eqEpAct_sg N).rs) ((), (true, ())))))) := by kernel_rfl

theorem T_laws_eqEpAct_ok (N : Nat) : chkBody Try.f69 (T_laws_eqEpAct_sg N).ps = true := by kernel_rfl

theorem T_laws_eqEpAct_callable : Callable Try.prog 69 := callable_of Try.func69 (show chkFn Try.f69 = true by kernel_rfl)

theorem T_laws_eqEpAct_good (N : Nat) : Good Try.prog 69 (T_laws_eqEpAct_sg N) :=
  good_body mixedOk tabOk ctx_nil Try.func69 (T_laws_eqEpAct_ok N) (fun d _ h => ⟨N, (T_laws_eqEpAct_den N d.1 d.2.1).trans h⟩)

noncomputable def T_laws_eqEpActS_sg (N : Nat) : Sig := Sig.of [.v (.slice (.prod (.int .i64) (.prod (.int .i64) (.int .i64)))) false, .v (.slice (.prod (.int .i64) (.prod (.int .i64) (.int .i64)))) false] [.v (.bool) false] (fun d => T_laws_eqEpActS N d.1 d.2.1)

def T_laws_eqEpActS_ann : Nat → List Ghost
  | 4 => [.canon [0, 1, 5, 14]]
  | 5 => [.canon [0, 1, 5]]
  | 6 => [.canon [0, 1, 5, 26]]
  | 7 => [.canon [4]]
  | 100004 => [.canon [0, 1, 5]]
  | _ => []

noncomputable def T_laws_eqEpActS_ctx (N : Nat) : Ctx := [(69, T_laws_eqEpAct_sg N)]

def T_laws_eqEpActS_lp0_sh (a3 : List (Int × Int × Int)) (b4 : List (Int × Int × Int)) (i5 : Int) : St := { env := [(0, .s (.one (.val (.slice (.prod (.int .i64) (.prod (.int .i64) (.int .i64)))) (a3 : List (Int × Int × Int))))), (1, .s (.one (.val (.slice (.prod (.int .i64) (.prod (.int .i64) (.int .i64)))) (b4 : List (Int × Int × Int))))), (5, .s (.one (.val (.int .i64) (i5 : Int))))], objs := [], nx := 0 }

def T_laws_eqEpActS_lp0_e0 (a3 : List (Int × Int × Int)) (b4 : List (Int × Int × Int)) : St := { env := [(4, .s (.one (.val (.bool) (false : Bool))))], objs := [], nx := 0 }

def T_laws_eqEpActS_lp0_e1 (a3 : List (Int × Int × Int)) (b4 : List (Int × Int × Int)) (i7 : Int) (t8 : Bool) : St := { env := [(0, .s (.one (.val (.slice (.prod (.int .i64) (.prod (.int .i64) (.int .i64)))) (a3 : List (Int × Int × Int))))), (1, .s (.one (.val (.slice (.prod (.int .i64) (.prod (.int .i64) (.int .i64)))) (b4 : List (Int × Int × Int))))), (5, .s (.one (.val (.int .i64) (i7 : Int)))), (14, .s (.one (.val (.bool) (t8 : Bool))))], objs := [], nx := 0 }

noncomputable def T_laws_eqEpActS_lp0_m (N : Nat) {R : Type} (n : Nat) (st : St) (K : Ex → St → Option R) : Option R := loopN (roundG (T_laws_eqEpActS_ann 100004) fun st k => sx tab (T_laws_eqEpActS_ctx N) T_laws_eqEpActS_ann N (nthLoop Try.f21 0) st k) n st K

theorem T_laws_eqEpActS_lp0_step (N : Nat) {R : Type} (n : Nat) (K : Ex → St → Option R) (a3 : List (Int × Int × Int)) (b4 : List (Int × Int × Int)) (i5 : Int) :
    T_laws_eqEpActS_lp0_m N (n + 1) (T_laws_eqEpActS_lp0_sh a3 b4 i5) K =
    (bif decide (i5 < (ilen a3)) then
    (bif inb i5 (List.length a3) then
      (bif inb i5 (List.length b4) then
        ((T_laws_eqEpAct N (List.getD a3 (Int.toNat i5) ((0 : Int), ((0 : Int), (0 : Int)))) (List.getD b4 (Int.toNat i5) ((0 : Int), ((0 : Int), (0 : Int))))).bind fun o9 =>
          (bif !o9.2.1 then
            (K .ret (T_laws_eqEpActS_lp0_e0 a3 b4))
            else
            (T_laws_eqEpActS_lp0_m N n (T_laws_eqEpActS_lp0_sh a3 b4 (iadd .i64 i5 (1 : Int))) K))) else none) else none)
    else
    (K (.exit 0) (T_laws_eqEpActS_lp0_e1 a3 b4 i5 (decide (i5 < (ilen a3)))))) := by kernel_rfl

theorem T_laws_eqEpActS_lp0_eq (N : Nat) {R : Type} (a3 : List (Int × Int × Int)) (b4 : List (Int × Int × Int)) (K : Ex → St → Option R) : ∀ (n : Nat) (i5 : Int), T_laws_eqEpActS_lp0_m N n (T_laws_eqEpActS_lp0_sh a3 b4 i5) K = T_laws_eqEpActS_lp0 N a3 b4 (K .ret (T_laws_eqEpActS_lp0_e0 a3 b4)) (fun i7 t8 => (K (.exit 0) (T_laws_eqEpActS_lp0_e1 a3 b4 i7 t8))) n i5
  | 0, _ => rfl
  | n + 1, i5 => by rw [T_laws_eqEpActS_lp0_step, T_laws_eqEpActS_lp0]; (try simp only [T_laws_eqEpActS_lp0_eq N a3 b4 K n])

theorem T_laws_eqEpActS_c1 (N : Nat) (a1 : List (Int × Int × Int)) (b2 : List (Int × Int × Int)) :
    ((ctxK (R := ODen (T_laws_eqEpActS_sg N).ps × RDen (T_laws_eqEpActS_sg N).rs) tab (T_laws_eqEpActS_ctx N) T_laws_eqEpActS_ann N (theCode Try.f21) [1, 1, 0, 1, 0] (retK tab (T_laws_eqEpActS_sg N) Try.f21.results.toList some)) .ret (T_laws_eqEpActS_lp0_e0 a1 b2)) =
    (some (α := ODen (T_laws_eqEpActS_sg N).ps × RDen (T_laws_eqEpActS_sg N).rs) ((), (false, ()))) := by kernel_rfl

theorem T_laws_eqEpActS_c2 (N : Nat) (a1 : List (Int × Int × Int)) (b2 : List (Int × Int × Int)) (i10 : Int) (t11 : Bool) :
    ((ctxK (R := ODen (T_laws_eqEpActS_sg N).ps × RDen (T_laws_eqEpActS_sg N).rs) tab (T_laws_eqEpActS_ctx N) T_laws_eqEpActS_ann N (theCode Try.f21) [1, 1, 0, 1, 0] (retK tab (T_laws_eqEpActS_sg N) Try.f21.results.toList some)) (.exit 0) (T_laws_eqEpActS_lp0_e1 a1 b2 i10 t11)) =
    (some (α := ODen (T_laws_eqEpActS_sg N).ps × RDen (T_laws_eqEpActS_sg N).rs) ((), (true, ()))) := by kernel_rfl

theorem T_laws_eqEpActS_den (N : Nat) (a1 : List (Int × Int × Int)) (b2 : List (Int × Int × Int)) :
    den (R := ODen (T_laws_eqEpActS_sg N).ps × RDen (T_laws_eqEpActS_sg N).rs) tab (T_laws_eqEpActS_ctx N) T_laws_eqEpActS_ann N (T_laws_eqEpActS_sg N) Try.f21 (a1, b2, ()) some =
    (bif (ilen a1) != (ilen b2) then
    (some (α := ODen (T_laws_eqEpActS_sg N).ps × RDen (T_laws_eqEpActS_sg N).rs) ((), (false, ())))
    else
    (T_laws_eqEpActS_lp0 N a1 b2
      (some (α := ODen (T_laws_eqEpActS_sg N).ps × RDen (T_laws_eqEpActS_sg N).rs) ((), (false, ())))
      (fun i10 t11 =>
        (some (α := ODen (T_laws_eqEpActS_sg N).ps × RDen (T_laws_eqEpActS_sg N).rs) ((), (true, ()))))
       N (0 : Int))) := by
  have h : den (R := ODen (T_laws_eqEpActS_sg N).ps × RDen (T_laws_eqEpActS_sg N).rs) tab (T_laws_eqEpActS_ctx N) T_laws_eqEpActS_ann N (T_laws_eqEpActS_sg N) Try.f21 (a1, b2, ()) some =
    (bif (ilen a1) != (ilen b2) then
    (some (α := ODen (T_laws_eqEpActS_sg N).ps × RDen (T_laws_eqEpActS_sg N).rs) ((), (false, ())))
    else
    (T_laws_eqEpActS_lp0_m N N (T_laws_eqEpActS_lp0_sh a1 b2 (0 : Int)) (ctxK (R := ODen (T_laws_eqEpActS_sg N).ps × RDen (T_laws_eqEpActS_sg N).rs) tab (T_laws_eqEpActS_ctx N) T_laws_eqEpActS_ann N (theCode Try.f21) [1, 1, 0, 1, 0] (retK tab (T_laws_eqEpActS_sg N) Try.f21.results.toList some)))) := by kernel_rfl
  rw [h]
  (try simp only [T_laws_eqEpActS_lp0_eq, T_laws_eqEpActS_c1, T_laws_eqEpActS_c2]) <;> rfl

theorem T_laws_eqEpActS_ok (N : Nat) : chkBody Try.f21 (T_laws_eqEpActS_sg N).ps = true := by kernel_rfl

theorem T_laws_eqEpActS_callable : Callable Try.prog 21 := callable_of Try.func21 (show chkFn Try.f21 = true by kernel_rfl)

theorem T_laws_eqEpActS_good (N : Nat) : Good Try.prog 21 (T_laws_eqEpActS_sg N) :=
  good_body mixedOk tabOk (ctx_cons (T_laws_eqEpAct_good N) T_laws_eqEpAct_callable ctx_nil) Try.func21 (T_laws_eqEpActS_ok N) (fun d _ h => ⟨N, (T_laws_eqEpActS_den N d.1 d.2.1).trans h⟩)

noncomputable def T_laws_markEpActS_sg (N : Nat) : Sig := Sig.of [.mut (.prod (.int .i64) (.prod (.int .i64) (.int .i64))), .v (.int .i64) false] [.v (.int .i64) false] (fun d => T_laws_markEpActS N d.1 d.2.1)

def T_laws_markEpActS_ann : Nat → List Ghost
  | 2 => [.canon [0, 1, 5, 9]]
  | 3 => [.canon [0, 1, 5]]
  | 4 => [.canon [0, 1, 5]]
  | 5 => [.canon [0, 1, 5]]
  | 6 => [.canon [0, 1, 5]]
  | 7 => [.canon [0, 1, 5]]
  | 8 => [.canon [0, 1, 5]]
  | 9 => [.canon [0, 1, 5]]
  | 100002 => [.canon [0, 1, 5]]
  | _ => []

noncomputable def T_laws_markEpActS_ctx (N : Nat) : Ctx := []

def T_laws_markEpActS_lp0_sh (k3 : Int) (i4 : Int) (l5 : List (Int × Int × Int)) : St := { env := [(0, .s (.one (.own 0))), (1, .s (.one (.val (.int .i64) (k3 : Int)))), (5, .s (.one (.val (.int .i64) (i4 : Int))))], objs := [(0, .arr (.prod (.int .i64) (.prod (.int .i64) (.int .i64))) (l5 : List (Int × Int × Int)))], nx := 1 }

def T_laws_markEpActS_lp0_e0 (k8 : Int) (i9 : Int) (t10 : Bool) (l11 : List (Int × Int × Int)) : St := { env := [(0, .s (.one (.own 0))), (1, .s (.one (.val (.int .i64) (k8 : Int)))), (5, .s (.one (.val (.int .i64) (i9 : Int)))), (9, .s (.one (.val (.bool) (t10 : Bool))))], objs := [(0, .arr (.prod (.int .i64) (.prod (.int .i64) (.int .i64))) (l11 : List (Int × Int × Int)))], nx := 1 }

noncomputable def T_laws_markEpActS_lp0_m (N : Nat) {R : Type} (n : Nat) (st : St) (K : Ex → St → Option R) : Option R := loopN (roundG (T_laws_markEpActS_ann 100002) fun st k => sx tab (T_laws_markEpActS_ctx N) T_laws_markEpActS_ann N (nthLoop Try.f22 0) st k) n st K

theorem T_laws_markEpActS_lp0_step (N : Nat) {R : Type} (n : Nat) (K : Ex → St → Option R) (k3 : Int) (i4 : Int) (l5 : List (Int × Int × Int)) :
    T_laws_markEpActS_lp0_m N (n + 1) (T_laws_markEpActS_lp0_sh k3 i4 l5) K =
    (bif decide (i4 < (ilen l5)) then
    (bif inb i4 (List.length l5) then
      (bif inb i4 (List.length (List.set l5 (Int.toNat i4) (k3, (List.getD l5 (Int.toNat i4) ((0 : Int), ((0 : Int), (0 : Int)))).2))) then
        (share (List.set l5 (Int.toNat i4) (k3, (List.getD l5 (Int.toNat i4) ((0 : Int), ((0 : Int), (0 : Int)))).2)) fun s12 =>
          (bif inb i4 (List.length (List.set s12 (Int.toNat i4) ((List.getD s12 (Int.toNat i4) ((0 : Int), ((0 : Int), (0 : Int)))).1, (iadd .i64 k3 (1 : Int), (List.getD s12 (Int.toNat i4) ((0 : Int), ((0 : Int), (0 : Int)))).2.2)))) then
            (share (List.set s12 (Int.toNat i4) ((List.getD s12 (Int.toNat i4) ((0 : Int), ((0 : Int), (0 : Int)))).1, (iadd .i64 k3 (1 : Int), (List.getD s12 (Int.toNat i4) ((0 : Int), ((0 : Int), (0 : Int)))).2.2))) fun s13 =>
              (T_laws_markEpActS_lp0_m N n (T_laws_markEpActS_lp0_sh (iadd .i64 (iadd .i64 (iadd .i64 k3 (1 : Int)) (1 : Int)) (1 : Int)) (iadd .i64 i4 (1 : Int)) (List.set s13 (Int.toNat i4) ((List.getD s13 (Int.toNat i4) ((0 : Int), ((0 : Int), (0 : Int)))).1, ((List.getD s13 (Int.toNat i4) ((0 : Int), ((0 : Int), (0 : Int)))).2.1, iadd .i64 (iadd .i64 k3 (1 : Int)) (1 : Int))))) K)) else none)) else none) else none)
    else
    (K (.exit 0) (T_laws_markEpActS_lp0_e0 k3 i4 (decide (i4 < (ilen l5))) l5))) := by kernel_rfl

theorem T_laws_markEpActS_lp0_eq (N : Nat) {R : Type} (K : Ex → St → Option R) : ∀ (n : Nat) (k3 : Int) (i4 : Int) (l5 : List (Int × Int × Int)), T_laws_markEpActS_lp0_m N n (T_laws_markEpActS_lp0_sh k3 i4 l5) K = T_laws_markEpActS_lp0 N (fun k8 i9 t10 l11 => (K (.exit 0) (T_laws_markEpActS_lp0_e0 k8 i9 t10 l11))) n k3 i4 l5
  | 0, _, _, _ => rfl
  | n + 1, k3, i4, l5 => by rw [T_laws_markEpActS_lp0_step, T_laws_markEpActS_lp0]; (try simp only [T_laws_markEpActS_lp0_eq N K n])

theorem T_laws_markEpActS_c1 (N : Nat) (k14 : Int) (i15 : Int) (t16 : Bool) (l17 : List (Int × Int × Int)) :
    ((ctxK (R := ODen (T_laws_markEpActS_sg N).ps × RDen (T_laws_markEpActS_sg N).rs) tab (T_laws_markEpActS_ctx N) T_laws_markEpActS_ann N (theCode Try.f22) [1, 0, 1, 0] (retK tab (T_laws_markEpActS_sg N) Try.f22.results.toList some)) (.exit 0) (T_laws_markEpActS_lp0_e0 k14 i15 t16 l17)) =
    (some (α := ODen (T_laws_markEpActS_sg N).ps × RDen (T_laws_markEpActS_sg N).rs) ((l17, ()), (k14, ()))) := by kernel_rfl

theorem T_laws_markEpActS_den (N : Nat) (a1 : List (Int × Int × Int)) (k2 : Int) :
    den (R := ODen (T_laws_markEpActS_sg N).ps × RDen (T_laws_markEpActS_sg N).rs) tab (T_laws_markEpActS_ctx N) T_laws_markEpActS_ann N (T_laws_markEpActS_sg N) Try.f22 (a1, k2, ()) some =
    (T_laws_markEpActS_lp0 N
    (fun k14 i15 t16 l17 =>
      (some (α := ODen (T_laws_markEpActS_sg N).ps × RDen (T_laws_markEpActS_sg N).rs) ((l17, ()), (k14, ()))))
     N k2 (0 : Int) a1) := by
  have h : den (R := ODen (T_laws_markEpActS_sg N).ps × RDen (T_laws_markEpActS_sg N).rs) tab (T_laws_markEpActS_ctx N) T_laws_markEpActS_ann N (T_laws_markEpActS_sg N) Try.f22 (a1, k2, ()) some =
    (T_laws_markEpActS_lp0_m N N (T_laws_markEpActS_lp0_sh k2 (0 : Int) a1) (ctxK (R := ODen (T_laws_markEpActS_sg N).ps × RDen (T_laws_markEpActS_sg N).rs) tab (T_laws_markEpActS_ctx N) T_laws_markEpActS_ann N (theCode Try.f22) [1, 0, 1, 0] (retK tab (T_laws_markEpActS_sg N) Try.f22.results.toList some))) := by kernel_rfl
  rw [h]
  (try simp only [T_laws_markEpActS_lp0_eq, T_laws_markEpActS_c1]) <;> rfl

theorem T_laws_markEpActS_ok (N : Nat) : chkBody Try.f22 (T_laws_markEpActS_sg N).ps = true := by kernel_rfl

theorem T_laws_markEpActS_callable : Callable Try.prog 22 := callable_of Try.func22 (show chkFn Try.f22 = true by kernel_rfl)

theorem T_laws_markEpActS_good (N : Nat) : Good Try.prog 22 (T_laws_markEpActS_sg N) :=
  good_body mixedOk tabOk ctx_nil Try.func22 (T_laws_markEpActS_ok N) (fun d _ h => ⟨N, (T_laws_markEpActS_den N d.1 d.2.1).trans h⟩)

noncomputable def T_laws_markIntS_sg (N : Nat) : Sig := Sig.of [.mut (.int .i64), .v (.int .i64) false] [.v (.int .i64) false] (fun d => T_laws_markIntS N d.1 d.2.1)

def T_laws_markIntS_ann : Nat → List Ghost
  | 2 => [.canon [0, 1, 5, 9]]
  | 3 => [.canon [0, 1, 5]]
  | 4 => [.canon [0, 1, 5]]
  | 5 => [.canon [0, 1, 5]]
  | 100002 => [.canon [0, 1, 5]]
  | _ => []

noncomputable def T_laws_markIntS_ctx (N : Nat) : Ctx := []

def T_laws_markIntS_lp0_sh (k3 : Int) (i4 : Int) (l5 : List Int) : St := { env := [(0, .s (.one (.own 0))), (1, .s (.one (.val (.int .i64) (k3 : Int)))), (5, .s (.one (.val (.int .i64) (i4 : Int))))], objs := [(0, .arr (.int .i64) (l5 : List Int))], nx := 1 }

def T_laws_markIntS_lp0_e0 (k6 : Int) (i7 : Int) (t8 : Bool) (l9 : List Int) : St := { env := [(0, .s (.one (.own 0))), (1, .s (.one (.val (.int .i64) (k6 : Int)))), (5, .s (.one (.val (.int .i64) (i7 : Int)))), (9, .s (.one (.val (.bool) (t8 : Bool))))], objs := [(0, .arr (.int .i64) (l9 : List Int))], nx := 1 }

noncomputable def T_laws_markIntS_lp0_m (N : Nat) {R : Type} (n : Nat) (st : St) (K : Ex → St → Option R) : Option R := loopN (roundG (T_laws_markIntS_ann 100002) fun st k => sx tab (T_laws_markIntS_ctx N) T_laws_markIntS_ann N (nthLoop Try.f46 0) st k) n st K

theorem T_laws_markIntS_lp0_step (N : Nat) {R : Type} (n : Nat) (K : Ex → St → Option R) (k3 : Int) (i4 : Int) (l5 : List Int) :
    T_laws_markIntS_lp0_m N (n + 1) (T_laws_markIntS_lp0_sh k3 i4 l5) K =
    (bif decide (i4 < (ilen l5)) then
    (bif inb i4 (List.length l5) then
      (T_laws_markIntS_lp0_m N n (T_laws_markIntS_lp0_sh (iadd .i64 k3 (1 : Int)) (iadd .i64 i4 (1 : Int)) (List.set l5 (Int.toNat i4) k3)) K) else none)
    else
    (K (.exit 0) (T_laws_markIntS_lp0_e0 k3 i4 (decide (i4 < (ilen l5))) l5))) := by kernel_rfl

theorem T_laws_markIntS_lp0_eq (N : Nat) {R : Type} (K : Ex → St → Option R) : ∀ (n : Nat) (k3 : Int) (i4 : Int) (l5 : List Int), T_laws_markIntS_lp0_m N n (T_laws_markIntS_lp0_sh k3 i4 l5) K = T_laws_markIntS_lp0 N (fun k6 i7 t8 l9 => (K (.exit 0) (T_laws_markIntS_lp0_e0 k6 i7 t8 l9))) n k3 i4 l5
  | 0, _, _, _ => rfl
  | n + 1, k3, i4, l5 => by rw [T_laws_markIntS_lp0_step, T_laws_markIntS_lp0]; (try simp only [T_laws_markIntS_lp0_eq N K n])

theorem T_laws_markIntS_c1 (N : Nat) (k10 : Int) (i11 : Int) (t12 : Bool) (l13 : List Int) :
    ((ctxK (R := ODen (T_laws_markIntS_sg N).ps × RDen (T_laws_markIntS_sg N).rs) tab (T_laws_markIntS_ctx N) T_laws_markIntS_ann N (theCode Try.f46) [1, 0, 1, 0] (retK tab (T_laws_markIntS_sg N) Try.f46.results.toList some)) (.exit 0) (T_laws_markIntS_lp0_e0 k10 i11 t12 l13)) =
    (some (α := ODen (T_laws_markIntS_sg N).ps × RDen (T_laws_markIntS_sg N).rs) ((l13, ()), (k10, ()))) := by kernel_rfl

theorem T_laws_markIntS_den (N : Nat) (a1 : List Int) (k2 : Int) :
    den (R := ODen (T_laws_markIntS_sg N).ps × RDen (T_laws_markIntS_sg N).rs) tab (T_laws_markIntS_ctx N) T_laws_markIntS_ann N (T_laws_markIntS_sg N) Try.f46 (a1, k2, ()) some =
    (T_laws_markIntS_lp0 N
    (fun k10 i11 t12 l13 =>
      (some (α := ODen (T_laws_markIntS_sg N).ps × RDen (T_laws_markIntS_sg N).rs) ((l13, ()), (k10, ()))))
     N k2 (0 : Int) a1) := by
  have h : den (R := ODen (T_laws_markIntS_sg N).ps × RDen (T_laws_markIntS_sg N).rs) tab (T_laws_markIntS_ctx N) T_laws_markIntS_ann N (T_laws_markIntS_sg N) Try.f46 (a1, k2, ()) some =
    (T_laws_markIntS_lp0_m N N (T_laws_markIntS_lp0_sh k2 (0 : Int) a1) (ctxK (R := ODen (T_laws_markIntS_sg N).ps × RDen (T_laws_markIntS_sg N).rs) tab (T_laws_markIntS_ctx N) T_laws_markIntS_ann N (theCode Try.f46) [1, 0, 1, 0] (retK tab (T_laws_markIntS_sg N) Try.f46.results.toList some))) := by kernel_rfl
  rw [h]
  (try simp only [T_laws_markIntS_lp0_eq, T_laws_markIntS_c1]) <;> rfl

theorem T_laws_markIntS_ok (N : Nat) : chkBody Try.f46 (T_laws_markIntS_sg N).ps = true := by kernel_rfl

theorem T_laws_markIntS_callable : Callable Try.prog 46 := callable_of Try.func46 (show chkFn Try.f46 = true by kernel_rfl)

theorem T_laws_markIntS_good (N : Nat) : Good Try.prog 46 (T_laws_markIntS_sg N) :=
  good_body mixedOk tabOk ctx_nil Try.func46 (T_laws_markIntS_ok N) (fun d _ h => ⟨N, (T_laws_markIntS_den N d.1 d.2.1).trans h⟩)

noncomputable def T_laws_markBoolS_sg (N : Nat) : Sig := Sig.of [.mut (.bool), .v (.int .i64) false] [.v (.int .i64) false] (fun d => T_laws_markBoolS N d.1 d.2.1)

def T_laws_markBoolS_ann : Nat → List Ghost
  | 2 => [.canon [0, 1, 5, 9]]
  | 3 => [.canon [0, 1, 5]]
  | 4 => [.canon [0, 1, 5]]
  | 5 => [.canon [0, 1, 5]]
  | 100002 => [.canon [0, 1, 5]]
  | _ => []

noncomputable def T_laws_markBoolS_ctx (N : Nat) : Ctx := []

def T_laws_markBoolS_lp0_sh (k3 : Int) (i4 : Int) (l5 : List Bool) : St := { env := [(0, .s (.one (.own 0))), (1, .s (.one (.val (.int .i64) (k3 : Int)))), (5, .s (.one (.val (.int .i64) (i4 : Int))))], objs := [(0, .arr (.bool) (l5 : List Bool))], nx := 1 }

def T_laws_markBoolS_lp0_e0 (k6 : Int) (i7 : Int) (t8 : Bool) (l9 : List Bool) : St := { env := [(0, .s (.one (.own 0))), (1, .s (.one (.val (.int .i64) (k6 : Int)))), (5, .s (.one (.val (.int .i64) (i7 : Int)))), (9, .s (.one (.val (.bool) (t8 : Bool))))], objs := [(0, .arr (.bool) (l9 : List Bool))], nx := 1 }

noncomputable def T_laws_markBoolS_lp0_m (N : Nat) {R : Type} (n : Nat) (st : St) (K : Ex → St → Option R) : Option R := loopN (roundG (T_laws_markBoolS_ann 100002) fun st k => sx tab (T_laws_markBoolS_ctx N) T_laws_markBoolS_ann N (nthLoop Try.f70 0) st k) n st K

theorem T_laws_markBoolS_lp0_step (N : Nat) {R : Type} (n : Nat) (K : Ex → St → Option R) (k3 : Int) (i4 : Int) (l5 : List Bool) :
    T_laws_markBoolS_lp0_m N (n + 1) (T_laws_markBoolS_lp0_sh k3 i4 l5) K =
    (bif decide (i4 < (ilen l5)) then
    (bif inz (3 : Int) then
      (bif inb i4 (List.length l5) then
        (T_laws_markBoolS_lp0_m N n (T_laws_markBoolS_lp0_sh (iadd .i64 k3 (1 : Int)) (iadd .i64 i4 (1 : Int)) (List.set l5 (Int.toNat i4) ((irem k3 (3 : Int)) == (0 : Int)))) K) else none) else none)
    else
    (K (.exit 0) (T_laws_markBoolS_lp0_e0 k3 i4 (decide (i4 < (ilen l5))) l5))) := by kernel_rfl

theorem T_laws_markBoolS_lp0_eq (N : Nat) {R : Type} (K : Ex → St → Option R) : ∀ (n : Nat) (k3 : Int) (i4 : Int) (l5 : List Bool), T_laws_markBoolS_lp0_m N n (T_laws_markBoolS_lp0_sh k3 i4 l5) K = T_laws_markBoolS_lp0 N (fun k6 i7 t8 l9 => (K (.exit 0) (T_laws_markBoolS_lp0_e0 k6 i7 t8 l9))) n k3 i4 l5
  | 0, _, _, _ => rfl
  | n + 1, k3, i4, l5 => by rw [T_laws_markBoolS_lp0_step, T_laws_markBoolS_lp0]; (try simp only [T_laws_markBoolS_lp0_eq N K n])

theorem T_laws_markBoolS_c1 (N : Nat) (k10 : Int) (i11 : Int) (t12 : Bool) (l13 : List Bool) :
    ((ctxK (R := ODen (T_laws_markBoolS_sg N).ps × RDen (T_laws_markBoolS_sg N).rs) tab (T_laws_markBoolS_ctx N) T_laws_markBoolS_ann N (theCode Try.f70) [1, 0, 1, 0] (retK tab (T_laws_markBoolS_sg N) Try.f70.results.toList some)) (.exit 0) (T_laws_markBoolS_lp0_e0 k10 i11 t12 l13)) =
    (some (α := ODen (T_laws_markBoolS_sg N).ps × RDen (T_laws_markBoolS_sg N).rs) ((l13, ()), (k10, ()))) := by kernel_rfl

theorem T_laws_markBoolS_den (N : Nat) (a1 : List Bool) (k2 : Int) :
    den (R := ODen (T_laws_markBoolS_sg N).ps × RDen (T_laws_markBoolS_sg N).rs) tab (T_laws_markBoolS_ctx N) T_laws_markBoolS_ann N (T_laws_markBoolS_sg N) Try.f70 (a1, k2, ()) some =
    (T_laws_markBoolS_lp0 N
    (fun k10 i11 t12 l13 =>
      (some (α := ODen (T_laws_markBoolS_sg N).ps × RDen (T_laws_markBoolS_sg N).rs) ((l13, ()), (k10, ()))))
     N k2 (0 : Int) a1) := by
  have h : den (R := ODen (T_laws_markBoolS_sg N).ps × RDen (T_laws_markBoolS_sg N).rs) tab (T_laws_markBoolS_ctx N) T_laws_markBoolS_ann N (T_laws_markBoolS_sg N) Try.f70 (a1, k2, ()) some =
    (T_laws_markBoolS_lp0_m N N (T_laws_markBoolS_lp0_sh k2 (0 : Int) a1) (ctxK (R := ODen (T_laws_markBoolS_sg N).ps × RDen (T_laws_markBoolS_sg N).rs) tab (T_laws_markBoolS_ctx N) T_laws_markBoolS_ann N (theCode Try.f70) [1, 0, 1, 0] (retK tab (T_laws_markBoolS_sg N) Try.f70.results.toList some))) := by kernel_rfl
  rw [h]
  (try simp only [T_laws_markBoolS_lp0_eq, T_laws_markBoolS_c1]) <;> rfl

theorem T_laws_markBoolS_ok (N : Nat) : chkBody Try.f70 (T_laws_markBoolS_sg N).ps = true := by kernel_rfl

theorem T_laws_markBoolS_callable : Callable Try.prog 70 := callable_of Try.func70 (show chkFn Try.f70 = true by kernel_rfl)

theorem T_laws_markBoolS_good (N : Nat) : Good Try.prog 70 (T_laws_markBoolS_sg N) :=
  good_body mixedOk tabOk ctx_nil Try.func70 (T_laws_markBoolS_ok N) (fun d _ h => ⟨N, (T_laws_markBoolS_den N d.1 d.2.1).trans h⟩)

noncomputable def T_laws_markEpBagS_sg (N : Nat) : Sig := Sig.of [.mut (.prod (.int .i64) (.int .i64)), .v (.int .i64) false] [.v (.int .i64) false] (fun d => T_laws_markEpBagS N d.1 d.2.1)

def T_laws_markEpBagS_ann : Nat → List Ghost
  | 2 => [.canon [0, 1, 5, 9]]
  | 3 => [.canon [0, 1, 5]]
  | 4 => [.canon [0, 1, 5]]
  | 5 => [.canon [0, 1, 5]]
  | 6 => [.canon [0, 1, 5]]
  | 7 => [.canon [0, 1, 5]]
  | 100002 => [.canon [0, 1, 5]]
  | _ => []

noncomputable def T_laws_markEpBagS_ctx (N : Nat) : Ctx := []

def T_laws_markEpBagS_lp0_sh (k3 : Int) (i4 : Int) (l5 : List (Int × Int)) : St := { env := [(0, .s (.one (.own 0))), (1, .s (.one (.val (.int .i64) (k3 : Int)))), (5, .s (.one (.val (.int .i64) (i4 : Int))))], objs := [(0, .arr (.prod (.int .i64) (.int .i64)) (l5 : List (Int × Int)))], nx := 1 }

def T_laws_markEpBagS_lp0_e0 (k7 : Int) (i8 : Int) (t9 : Bool) (l10 : List (Int × Int)) : St := { env := [(0, .s (.one (.own 0))), (1, .s (.one (.val (.int .i64) (k7 : Int)))), (5, .s (.one (.val (.int .i64) (i8 : Int)))), (9, .s (.one (.val (.bool) (t9 : Bool))))], objs := [(0, .arr (.prod (.int .i64) (.int .i64)) (l10 : List (Int × Int)))], nx := 1 }

noncomputable def T_laws_markEpBagS_lp0_m (N : Nat) {R : Type} (n : Nat) (st : St) (K : Ex → St → Option R) : Option R := loopN (roundG (T_laws_markEpBagS_ann 100002) fun st k => sx tab (T_laws_markEpBagS_ctx N) T_laws_markEpBagS_ann N (nthLoop Try.f71 0) st k) n st K

theorem T_laws_markEpBagS_lp0_step (N : Nat) {R : Type} (n : Nat) (K : Ex → St → Option R) (k3 : Int) (i4 : Int) (l5 : List (Int × Int)) :
    T_laws_markEpBagS_lp0_m N (n + 1) (T_laws_markEpBagS_lp0_sh k3 i4 l5) K =
    (bif decide (i4 < (ilen l5)) then
    (bif inb i4 (List.length l5) then
      (bif inb i4 (List.length (List.set l5 (Int.toNat i4) (k3, (List.getD l5 (Int.toNat i4) ((0 : Int), (0 : Int))).2))) then
        (share (List.set l5 (Int.toNat i4) (k3, (List.getD l5 (Int.toNat i4) ((0 : Int), (0 : Int))).2)) fun s11 =>
          (T_laws_markEpBagS_lp0_m N n (T_laws_markEpBagS_lp0_sh (iadd .i64 (iadd .i64 k3 (1 : Int)) (1 : Int)) (iadd .i64 i4 (1 : Int)) (List.set s11 (Int.toNat i4) ((List.getD s11 (Int.toNat i4) ((0 : Int), (0 : Int))).1, iadd .i64 k3 (1 : Int)))) K)) else none) else none)
    else
    (K (.exit 0) (T_laws_markEpBagS_lp0_e0 k3 i4 (decide (i4 < (ilen l5))) l5))) := by kernel_rfl

theorem T_laws_markEpBagS_lp0_eq (N : Nat) {R : Type} (K : Ex → St → Option R) : ∀ (n : Nat) (k3 : Int) (i4 : Int) (l5 : List (Int × Int)), T_laws_markEpBagS_lp0_m N n (T_laws_markEpBagS_lp0_sh k3 i4 l5) K = T_laws_markEpBagS_lp0 N (fun k7 i8 t9 l10 => (K (.exit 0) (T_laws_markEpBagS_lp0_e0 k7 i8 t9 l10))) n k3 i4 l5
  | 0, _, _, _ => rfl
  | n + 1, k3, i4, l5 => by rw [T_laws_markEpBagS_lp0_step, T_laws_markEpBagS_lp0]; (try simp only [T_laws_markEpBagS_lp0_eq N K n])

theorem T_laws_markEpBagS_c1 (N : Nat) (k12 : Int) (i13 : Int) (t14 : Bool) (l15 : List (Int × Int)) :
    ((ctxK (R := ODen (T_laws_markEpBagS_sg N).ps × RDen (T_laws_markEpBagS_sg N).rs) tab (T_laws_markEpBagS_ctx N) T_laws_markEpBagS_ann N (theCode Try.f71) [1, 0, 1, 0] (retK tab (T_laws_markEpBagS_sg N) Try.f71.results.toList some)) (.exit 0) (T_laws_markEpBagS_lp0_e0 k12 i13 t14 l15)) =
    (some (α := ODen (T_laws_markEpBagS_sg N).ps × RDen (T_laws_markEpBagS_sg N).rs) ((l15, ()), (k12, ()))) := by kernel_rfl

theorem T_laws_markEpBagS_den (N : Nat) (a1 : List (Int × Int)) (k2 : Int) :
    den (R := ODen (T_laws_markEpBagS_sg N).ps × RDen (T_laws_markEpBagS_sg N).rs) tab (T_laws_markEpBagS_ctx N) T_laws_markEpBagS_ann N (T_laws_markEpBagS_sg N) Try.f71 (a1, k2, ()) some =
    (T_laws_markEpBagS_lp0 N
    (fun k12 i13 t14 l15 =>
      (some (α := ODen (T_laws_markEpBagS_sg N).ps × RDen (T_laws_markEpBagS_sg N).rs) ((l15, ()), (k12, ()))))
     N k2 (0 : Int) a1) := by
  have h : den (R := ODen (T_laws_markEpBagS_sg N).ps × RDen (T_laws_markEpBagS_sg N).rs) tab (T_laws_markEpBagS_ctx N) T_laws_markEpBagS_ann N (T_laws_markEpBagS_sg N) Try.f71 (a1, k2, ()) some =
    (T_laws_markEpBagS_lp0_m N N (T_laws_markEpBagS_lp0_sh k2 (0 : Int) a1) (ctxK (R := ODen (T_laws_markEpBagS_sg N).ps × RDen (T_laws_markEpBagS_sg N).rs) tab (T_laws_markEpBagS_ctx N) T_laws_markEpBagS_ann N (theCode Try.f71) [1, 0, 1, 0] (retK tab (T_laws_markEpBagS_sg N) Try.f71.results.toList some))) := by kernel_rfl
  rw [h]
  (try simp only [T_laws_markEpBagS_lp0_eq, T_laws_markEpBagS_c1]) <;> rfl

theorem T_laws_markEpBagS_ok (N : Nat) : chkBody Try.f71 (T_laws_markEpBagS_sg N).ps = true := by kernel_rfl

theorem T_laws_markEpBagS_callable : Callable Try.prog 71 := callable_of Try.func71 (show chkFn Try.f71 = true by kernel_rfl)

theorem T_laws_markEpBagS_good (N : Nat) : Good Try.prog 71 (T_laws_markEpBagS_sg N) :=
  good_body mixedOk tabOk ctx_nil Try.func71 (T_laws_markEpBagS_ok N) (fun d _ h => ⟨N, (T_laws_markEpBagS_den N d.1 d.2.1).trans h⟩)

noncomputable def T_laws_markEpHoldS_sg (N : Nat) : Sig := Sig.of [.mut (.prod (.int .i64) (.int .i64)), .v (.int .i64) false] [.v (.int .i64) false] (fun d => T_laws_markEpHoldS N d.1 d.2.1)

def T_laws_markEpHoldS_ann : Nat → List Ghost
  | 2 => [.canon [0, 1, 5, 9]]
  | 3 => [.canon [0, 1, 5]]
  | 4 => [.canon [0, 1, 5]]
  | 5 => [.canon [0, 1, 5]]
  | 6 => [.canon [0, 1, 5]]
  | 7 => [.canon [0, 1, 5]]
  | 100002 => [.canon [0, 1, 5]]
  | _ => []

noncomputable def T_laws_markEpHoldS_ctx (N : Nat) : Ctx := []

def T_laws_markEpHoldS_lp0_sh (k3 : Int) (i4 : Int) (l5 : List (Int × Int)) : St := { env := [(0, .s (.one (.own 0))), (1, .s (.one (.val (.int .i64) (k3 : Int)))), (5, .s (.one (.val (.int .i64) (i4 : Int))))], objs := [(0, .arr (.prod (.int .i64) (.int .i64)) (l5 : List (Int × Int)))], nx := 1 }

def T_laws_markEpHoldS_lp0_e0 (k7 : Int) (i8 : Int) (t9 : Bool) (l10 : List (Int × Int)) : St := { env := [(0, .s (.one (.own 0))), (1, .s (.one (.val (.int .i64) (k7 : Int)))), (5, .s (.one (.val (.int .i64) (i8 : Int)))), (9, .s (.one (.val (.bool) (t9 : Bool))))], objs := [(0, .arr (.prod (.int .i64) (.int .i64)) (l10 : List (Int × Int)))], nx := 1 }

noncomputable def T_laws_markEpHoldS_lp0_m (N : Nat) {R : Type} (n : Nat) (st : St) (K : Ex → St → Option R) : Option R := loopN (roundG (T_laws_markEpHoldS_ann 100002) fun st k => sx tab (T_laws_markEpHoldS_ctx N) T_laws_markEpHoldS_ann N (nthLoop Try.f72 0) st k) n st K

theorem T_laws_markEpHoldS_lp0_step (N : Nat) {R : Type} (n : Nat) (K : Ex → St → Option R) (k3 : Int) (i4 : Int) (l5 : List (Int × Int)) :
    T_laws_markEpHoldS_lp0_m N (n + 1) (T_laws_markEpHoldS_lp0_sh k3 i4 l5) K =
    (bif decide (i4 < (ilen l5)) then
    (bif inb i4 (List.length l5) then
      (bif inb i4 (List.length (List.set l5 (Int.toNat i4) (k3, (List.getD l5 (Int.toNat i4) ((0 : Int), (0 : Int))).2))) then
        (share (List.set l5 (Int.toNat i4) (k3, (List.getD l5 (Int.toNat i4) ((0 : Int), (0 : Int))).2)) fun s11 =>
          (T_laws_markEpHoldS_lp0_m N n (T_laws_markEpHoldS_lp0_sh (iadd .i64 (iadd .i64 k3 (1 : Int)) (1 : Int)) (iadd .i64 i4 (1 : Int)) (List.set s11 (Int.toNat i4) ((List.getD s11 (Int.toNat i4) ((0 : Int), (0 : Int))).1, iadd .i64 k3 (1 : Int)))) K)) else none) else none)
    else
    (K (.exit 0) (T_laws_markEpHoldS_lp0_e0 k3 i4 (decide (i4 < (ilen l5))) l5))) := by kernel_rfl

theorem T_laws_markEpHoldS_lp0_eq (N : Nat) {R : Type} (K : Ex → St → Option R) : ∀ (n : Nat) (k3 : Int) (i4 : Int) (l5 : List (Int × Int)), T_laws_markEpHoldS_lp0_m N n (T_laws_markEpHoldS_lp0_sh k3 i4 l5) K = T_laws_markEpHoldS_lp0 N (fun k7 i8 t9 l10 => (K (.exit 0) (T_laws_markEpHoldS_lp0_e0 k7 i8 t9 l10))) n k3 i4 l5
  | 0, _, _, _ => rfl
  | n + 1, k3, i4, l5 => by rw [T_laws_markEpHoldS_lp0_step, T_laws_markEpHoldS_lp0]; (try simp only [T_laws_markEpHoldS_lp0_eq N K n])

theorem T_laws_markEpHoldS_c1 (N : Nat) (k12 : Int) (i13 : Int) (t14 : Bool) (l15 : List (Int × Int)) :
    ((ctxK (R := ODen (T_laws_markEpHoldS_sg N).ps × RDen (T_laws_markEpHoldS_sg N).rs) tab (T_laws_markEpHoldS_ctx N) T_laws_markEpHoldS_ann N (theCode Try.f72) [1, 0, 1, 0] (retK tab (T_laws_markEpHoldS_sg N) Try.f72.results.toList some)) (.exit 0) (T_laws_markEpHoldS_lp0_e0 k12 i13 t14 l15)) =
    (some (α := ODen (T_laws_markEpHoldS_sg N).ps × RDen (T_laws_markEpHoldS_sg N).rs) ((l15, ()), (k12, ()))) := by kernel_rfl

theorem T_laws_markEpHoldS_den (N : Nat) (a1 : List (Int × Int)) (k2 : Int) :
    den (R := ODen (T_laws_markEpHoldS_sg N).ps × RDen (T_laws_markEpHoldS_sg N).rs) tab (T_laws_markEpHoldS_ctx N) T_laws_markEpHoldS_ann N (T_laws_markEpHoldS_sg N) Try.f72 (a1, k2, ()) some =
    (T_laws_markEpHoldS_lp0 N
    (fun k12 i13 t14 l15 =>
      (some (α := ODen (T_laws_markEpHoldS_sg N).ps × RDen (T_laws_markEpHoldS_sg N).rs) ((l15, ()), (k12, ()))))
     N k2 (0 : Int) a1) := by
  have h : den (R := ODen (T_laws_markEpHoldS_sg N).ps × RDen (T_laws_markEpHoldS_sg N).rs) tab (T_laws_markEpHoldS_ctx N) T_laws_markEpHoldS_ann N (T_laws_markEpHoldS_sg N) Try.f72 (a1, k2, ()) some =
    (T_laws_markEpHoldS_lp0_m N N (T_laws_markEpHoldS_lp0_sh k2 (0 : Int) a1) (ctxK (R := ODen (T_laws_markEpHoldS_sg N).ps × RDen (T_laws_markEpHoldS_sg N).rs) tab (T_laws_markEpHoldS_ctx N) T_laws_markEpHoldS_ann N (theCode Try.f72) [1, 0, 1, 0] (retK tab (T_laws_markEpHoldS_sg N) Try.f72.results.toList some))) := by kernel_rfl
  rw [h]
  (try simp only [T_laws_markEpHoldS_lp0_eq, T_laws_markEpHoldS_c1]) <;> rfl

theorem T_laws_markEpHoldS_ok (N : Nat) : chkBody Try.f72 (T_laws_markEpHoldS_sg N).ps = true := by kernel_rfl

theorem T_laws_markEpHoldS_callable : Callable Try.prog 72 := callable_of Try.func72 (show chkFn Try.f72 = true by kernel_rfl)

theorem T_laws_markEpHoldS_good (N : Nat) : Good Try.prog 72 (T_laws_markEpHoldS_sg N) :=
  good_body mixedOk tabOk ctx_nil Try.func72 (T_laws_markEpHoldS_ok N) (fun d _ h => ⟨N, (T_laws_markEpHoldS_den N d.1 d.2.1).trans h⟩)

noncomputable def T_laws_markEpochs_sg (N : Nat) : Sig := Sig.of [.kv (.prod (.int .i64) (.prod (.own (.int .i64)) (.prod (.own (.bool)) (.prod (.own (.prod (.int .i64) (.int .i64))) (.prod (.own (.prod (.int .i64) (.int .i64))) (.own (.int .i64))))))) true, .v (.int .i64) false] [.v (.int .i64) false] (fun d => T_laws_markEpochs N d.1 d.2.1)

def T_laws_markEpochs_ann : Nat → List Ghost
  | _ => []

noncomputable def T_laws_markEpochs_ctx (N : Nat) : Ctx := [(46, T_laws_markIntS_sg N), (70, T_laws_markBoolS_sg N), (71, T_laws_markEpBagS_sg N), (72, T_laws_markEpHoldS_sg N)]

theorem T_laws_markEpochs_den (N : Nat) (a1 : Int × List Int × List Bool × List (Int × Int) × List (Int × Int) × List Int) (k2 : Int) :
    den (R := ODen (T_laws_markEpochs_sg N).ps × RDen (T_laws_markEpochs_sg N).rs) tab (T_laws_markEpochs_ctx N) T_laws_markEpochs_ann N (T_laws_markEpochs_sg N) Try.f23 (a1, k2, ()) some =
    ((T_laws_markIntS N a1.2.1 k2).bind fun o3 =>
    ((T_laws_markBoolS N a1.2.2.1 o3.2.1).bind fun o4 =>
      ((T_laws_markEpBagS N a1.2.2.2.1 o4.2.1).bind fun o5 =>
        ((T_laws_markEpHoldS N a1.2.2.2.2.1 o5.2.1).bind fun o6 =>
          ((T_laws_markIntS N a1.2.2.2.2.2 o6.2.1).bind fun o7 =>
            (some (α := ODen (T_laws_markEpochs_sg N).ps × RDen (T_laws_markEpochs_sg N).rs) (((a1.1, (o3.1.1, (o4.1.1, (o5.1.1, (o6.1.1, o7.1.1))))), ()), (o7.2.1, ())))))))) := by kernel_rfl

theorem T_laws_markEpochs_ok (N : Nat) : chkBody Try.f23 (T_laws_markEpochs_sg N).ps = true := by kernel_rfl

theorem T_laws_markEpochs_callable : Callable Try.prog 23 := callable_of Try.func23 (show chkFn Try.f23 = true by kernel_rfl)

theorem T_laws_markEpochs_good (N : Nat) : Good Try.prog 23 (T_laws_markEpochs_sg N) :=
  good_body mixedOk tabOk (ctx_cons (T_laws_markIntS_good N) T_laws_markIntS_callable (ctx_cons (T_laws_markBoolS_good N) T_laws_markBoolS_callable (ctx_cons (T_laws_markEpBagS_good N) T_laws_markEpBagS_callable (ctx_cons (T_laws_markEpHoldS_good N) T_laws_markEpHoldS_callable ctx_nil)))) Try.func23 (T_laws_markEpochs_ok N) (fun d _ h => ⟨N, (T_laws_markEpochs_den N d.1 d.2.1).trans h⟩)

noncomputable def T_laws_heldIntS_sg (N : Nat) : Sig := Sig.of [.v (.slice (.int .i64)) false, .v (.int .i64) false] [.v (.int .i64) false] (fun d => T_laws_heldIntS N d.1 d.2.1)

def T_laws_heldIntS_ann : Nat → List Ghost
  | 2 => [.canon [0, 1, 5, 9]]
  | 3 => [.canon [0, 1, 5]]
  | 4 => [.canon [0, 1, 5, 17]]
  | 5 => [.canon [4]]
  | 6 => [.canon [0, 1, 5]]
  | 100002 => [.canon [0, 1, 5]]
  | _ => []

noncomputable def T_laws_heldIntS_ctx (N : Nat) : Ctx := []

def T_laws_heldIntS_lp0_sh (a3 : List Int) (k4 : Int) (i5 : Int) : St := { env := [(0, .s (.one (.val (.slice (.int .i64)) (a3 : List Int)))), (1, .s (.one (.val (.int .i64) (k4 : Int)))), (5, .s (.one (.val (.int .i64) (i5 : Int))))], objs := [], nx := 0 }

def T_laws_heldIntS_lp0_e0 (a3 : List Int) : St := { env := [(4, .s (.one (.val (.int .i64) ((-1 : Int) : Int))))], objs := [], nx := 0 }

def T_laws_heldIntS_lp0_e1 (a3 : List Int) (k6 : Int) (i7 : Int) (t8 : Bool) : St := { env := [(0, .s (.one (.val (.slice (.int .i64)) (a3 : List Int)))), (1, .s (.one (.val (.int .i64) (k6 : Int)))), (5, .s (.one (.val (.int .i64) (i7 : Int)))), (9, .s (.one (.val (.bool) (t8 : Bool))))], objs := [], nx := 0 }

noncomputable def T_laws_heldIntS_lp0_m (N : Nat) {R : Type} (n : Nat) (st : St) (K : Ex → St → Option R) : Option R := loopN (roundG (T_laws_heldIntS_ann 100002) fun st k => sx tab (T_laws_heldIntS_ctx N) T_laws_heldIntS_ann N (nthLoop Try.f73 0) st k) n st K

theorem T_laws_heldIntS_lp0_step (N : Nat) {R : Type} (n : Nat) (K : Ex → St → Option R) (a3 : List Int) (k4 : Int) (i5 : Int) :
    T_laws_heldIntS_lp0_m N (n + 1) (T_laws_heldIntS_lp0_sh a3 k4 i5) K =
    (bif decide (i5 < (ilen a3)) then
    (bif inb i5 (List.length a3) then
      (bif (List.getD a3 (Int.toNat i5) (0 : Int)) != k4 then
        (K .ret (T_laws_heldIntS_lp0_e0 a3))
        else
        (T_laws_heldIntS_lp0_m N n (T_laws_heldIntS_lp0_sh a3 (iadd .i64 k4 (1 : Int)) (iadd .i64 i5 (1 : Int))) K)) else none)
    else
    (K (.exit 0) (T_laws_heldIntS_lp0_e1 a3 k4 i5 (decide (i5 < (ilen a3)))))) := by kernel_rfl

theorem T_laws_heldIntS_lp0_eq (N : Nat) {R : Type} (a3 : List Int) (K : Ex → St → Option R) : ∀ (n : Nat) (k4 : Int) (i5 : Int), T_laws_heldIntS_lp0_m N n (T_laws_heldIntS_lp0_sh a3 k4 i5) K = T_laws_heldIntS_lp0 N a3 (K .ret (T_laws_heldIntS_lp0_e0 a3)) (fun k6 i7 t8 => (K (.exit 0) (T_laws_heldIntS_lp0_e1 a3 k6 i7 t8))) n k4 i5
  | 0, _, _ => rfl
  | n + 1, k4, i5 => by rw [T_laws_heldIntS_lp0_step, T_laws_heldIntS_lp0]; (try simp only [T_laws_heldIntS_lp0_eq N a3 K n])

theorem T_laws_heldIntS_c1 (N : Nat) (a1 : List Int) :
    ((ctxK (R := ODen (T_laws_heldIntS_sg N).ps × RDen (T_laws_heldIntS_sg N).rs) tab (T_laws_heldIntS_ctx N) T_laws_heldIntS_ann N (theCode Try.f73) [1, 0, 1, 0] (retK tab (T_laws_heldIntS_sg N) Try.f73.results.toList some)) .ret (T_laws_heldIntS_lp0_e0 a1)) =
    (some (α := ODen (T_laws_heldIntS_sg N).ps × RDen (T_laws_heldIntS_sg N).rs) ((), ((-1 : Int), ()))) := by kernel_rfl

theorem T_laws_heldIntS_c2 (N : Nat) (a1 : List Int) (k9 : Int) (i10 : Int) (t11 : Bool) :
    ((ctxK (R := ODen (T_laws_heldIntS_sg N).ps × RDen (T_laws_heldIntS_sg N).rs) tab (T_laws_heldIntS_ctx N) T_laws_heldIntS_ann N (theCode Try.f73) [1, 0, 1, 0] (retK tab (T_laws_heldIntS_sg N) Try.f73.results.toList some)) (.exit 0) (T_laws_heldIntS_lp0_e1 a1 k9 i10 t11)) =
    (some (α := ODen (T_laws_heldIntS_sg N).ps × RDen (T_laws_heldIntS_sg N).rs) ((), (k9, ()))) := by kernel_rfl

theorem T_laws_heldIntS_den (N : Nat) (a1 : List Int) (k2 : Int) :
    den (R := ODen (T_laws_heldIntS_sg N).ps × RDen (T_laws_heldIntS_sg N).rs) tab (T_laws_heldIntS_ctx N) T_laws_heldIntS_ann N (T_laws_heldIntS_sg N) Try.f73 (a1, k2, ()) some =
    (T_laws_heldIntS_lp0 N a1
    (some (α := ODen (T_laws_heldIntS_sg N).ps × RDen (T_laws_heldIntS_sg N).rs) ((), ((-1 : Int), ())))
    (fun k9 i10 t11 =>
      (some (α := ODen (T_laws_heldIntS_sg N).ps × RDen (T_laws_heldIntS_sg N).rs) ((), (k9, ()))))
     N k2 (0 : Int)) := by
  have h : den (R := ODen (T_laws_heldIntS_sg N).ps × RDen (T_laws_heldIntS_sg N).rs) tab (T_laws_heldIntS_ctx N) T_laws_heldIntS_ann N (T_laws_heldIntS_sg N) Try.f73 (a1, k2, ()) some =
    (T_laws_heldIntS_lp0_m N N (T_laws_heldIntS_lp0_sh a1 k2 (0 : Int)) (ctxK (R := ODen (T_laws_heldIntS_sg N).ps × RDen (T_laws_heldIntS_sg N).rs) tab (T_laws_heldIntS_ctx N) T_laws_heldIntS_ann N (theCode Try.f73) [1, 0, 1, 0] (retK tab (T_laws_heldIntS_sg N) Try.f73.results.toList some))) := by kernel_rfl
  rw [h]
  (try simp only [T_laws_heldIntS_lp0_eq, T_laws_heldIntS_c1, T_laws_heldIntS_c2]) <;> rfl

theorem T_laws_heldIntS_ok (N : Nat) : chkBody Try.f73 (T_laws_heldIntS_sg N).ps = true := by kernel_rfl

theorem T_laws_heldIntS_callable : Callable Try.prog 73 := callable_of Try.func73 (show chkFn Try.f73 = true by kernel_rfl)

theorem T_laws_heldIntS_good (N : Nat) : Good Try.prog 73 (T_laws_heldIntS_sg N) :=
  good_body mixedOk tabOk ctx_nil Try.func73 (T_laws_heldIntS_ok N) (fun d _ h => ⟨N, (T_laws_heldIntS_den N d.1 d.2.1).trans h⟩)

noncomputable def T_laws_heldBoolS_sg (N : Nat) : Sig := Sig.of [.v (.slice (.bool)) false, .v (.int .i64) false] [.v (.int .i64) false] (fun d => T_laws_heldBoolS N d.1 d.2.1)

def T_laws_heldBoolS_ann : Nat → List Ghost
  | 2 => [.canon [0, 1, 5, 9]]
  | 3 => [.canon [0, 1, 5]]
  | 4 => [.canon [0, 1, 5, 19]]
  | 5 => [.canon [4]]
  | 6 => [.canon [0, 1, 5]]
  | 100002 => [.canon [0, 1, 5]]
  | _ => []

noncomputable def T_laws_heldBoolS_ctx (N : Nat) : Ctx := []

def T_laws_heldBoolS_lp0_sh (a3 : List Bool) (k4 : Int) (i5 : Int) : St := { env := [(0, .s (.one (.val (.slice (.bool)) (a3 : List Bool)))), (1, .s (.one (.val (.int .i64) (k4 : Int)))), (5, .s (.one (.val (.int .i64) (i5 : Int))))], objs := [], nx := 0 }

def T_laws_heldBoolS_lp0_e0 (a3 : List Bool) : St := { env := [(4, .s (.one (.val (.int .i64) ((-1 : Int) : Int))))], objs := [], nx := 0 }

def T_laws_heldBoolS_lp0_e1 (a3 : List Bool) (k6 : Int) (i7 : Int) (t8 : Bool) : St := { env := [(0, .s (.one (.val (.slice (.bool)) (a3 : List Bool)))), (1, .s (.one (.val (.int .i64) (k6 : Int)))), (5, .s (.one (.val (.int .i64) (i7 : Int)))), (9, .s (.one (.val (.bool) (t8 : Bool))))], objs := [], nx := 0 }

noncomputable def T_laws_heldBoolS_lp0_m (N : Nat) {R : Type} (n : Nat) (st : St) (K : Ex → St → Option R) : Option R := loopN (roundG (T_laws_heldBoolS_ann 100002) fun st k => sx tab (T_laws_heldBoolS_ctx N) T_laws_heldBoolS_ann N (nthLoop Try.f74 0) st k) n st K

theorem T_laws_heldBoolS_lp0_step (N : Nat) {R : Type} (n : Nat) (K : Ex → St → Option R) (a3 : List Bool) (k4 : Int) (i5 : Int) :
    T_laws_heldBoolS_lp0_m N (n + 1) (T_laws_heldBoolS_lp0_sh a3 k4 i5) K =
    (bif decide (i5 < (ilen a3)) then
    (bif inb i5 (List.length a3) then
      (bif inz (3 : Int) then
        (bif !(beq (List.getD a3 (Int.toNat i5) false) ((irem k4 (3 : Int)) == (0 : Int))) then
          (K .ret (T_laws_heldBoolS_lp0_e0 a3))
          else
          (T_laws_heldBoolS_lp0_m N n (T_laws_heldBoolS_lp0_sh a3 (iadd .i64 k4 (1 : Int)) (iadd .i64 i5 (1 : Int))) K)) else none) else none)
    else
    (K (.exit 0) (T_laws_heldBoolS_lp0_e1 a3 k4 i5 (decide (i5 < (ilen a3)))))) := by kernel_rfl

theorem T_laws_heldBoolS_lp0_eq (N : Nat) {R : Type} (a3 : List Bool) (K : Ex → St → Option R) : ∀ (n : Nat) (k4 : Int) (i5 : Int), T_laws_heldBoolS_lp0_m N n (T_laws_heldBoolS_lp0_sh a3 k4 i5) K = T_laws_heldBoolS_lp0 N a3 (K .ret (T_laws_heldBoolS_lp0_e0 a3)) (fun k6 i7 t8 => (K (.exit 0) (T_laws_heldBoolS_lp0_e1 a3 k6 i7 t8))) n k4 i5
  | 0, _, _ => rfl
  | n + 1, k4, i5 => by rw [T_laws_heldBoolS_lp0_step, T_laws_heldBoolS_lp0]; (try simp only [T_laws_heldBoolS_lp0_eq N a3 K n])

theorem T_laws_heldBoolS_c1 (N : Nat) (a1 : List Bool) :
    ((ctxK (R := ODen (T_laws_heldBoolS_sg N).ps × RDen (T_laws_heldBoolS_sg N).rs) tab (T_laws_heldBoolS_ctx N) T_laws_heldBoolS_ann N (theCode Try.f74) [1, 0, 1, 0] (retK tab (T_laws_heldBoolS_sg N) Try.f74.results.toList some)) .ret (T_laws_heldBoolS_lp0_e0 a1)) =
    (some (α := ODen (T_laws_heldBoolS_sg N).ps × RDen (T_laws_heldBoolS_sg N).rs) ((), ((-1 : Int), ()))) := by kernel_rfl

theorem T_laws_heldBoolS_c2 (N : Nat) (a1 : List Bool) (k9 : Int) (i10 : Int) (t11 : Bool) :
    ((ctxK (R := ODen (T_laws_heldBoolS_sg N).ps × RDen (T_laws_heldBoolS_sg N).rs) tab (T_laws_heldBoolS_ctx N) T_laws_heldBoolS_ann N (theCode Try.f74) [1, 0, 1, 0] (retK tab (T_laws_heldBoolS_sg N) Try.f74.results.toList some)) (.exit 0) (T_laws_heldBoolS_lp0_e1 a1 k9 i10 t11)) =
    (some (α := ODen (T_laws_heldBoolS_sg N).ps × RDen (T_laws_heldBoolS_sg N).rs) ((), (k9, ()))) := by kernel_rfl

theorem T_laws_heldBoolS_den (N : Nat) (a1 : List Bool) (k2 : Int) :
    den (R := ODen (T_laws_heldBoolS_sg N).ps × RDen (T_laws_heldBoolS_sg N).rs) tab (T_laws_heldBoolS_ctx N) T_laws_heldBoolS_ann N (T_laws_heldBoolS_sg N) Try.f74 (a1, k2, ()) some =
    (T_laws_heldBoolS_lp0 N a1
    (some (α := ODen (T_laws_heldBoolS_sg N).ps × RDen (T_laws_heldBoolS_sg N).rs) ((), ((-1 : Int), ())))
    (fun k9 i10 t11 =>
      (some (α := ODen (T_laws_heldBoolS_sg N).ps × RDen (T_laws_heldBoolS_sg N).rs) ((), (k9, ()))))
     N k2 (0 : Int)) := by
  have h : den (R := ODen (T_laws_heldBoolS_sg N).ps × RDen (T_laws_heldBoolS_sg N).rs) tab (T_laws_heldBoolS_ctx N) T_laws_heldBoolS_ann N (T_laws_heldBoolS_sg N) Try.f74 (a1, k2, ()) some =
    (T_laws_heldBoolS_lp0_m N N (T_laws_heldBoolS_lp0_sh a1 k2 (0 : Int)) (ctxK (R := ODen (T_laws_heldBoolS_sg N).ps × RDen (T_laws_heldBoolS_sg N).rs) tab (T_laws_heldBoolS_ctx N) T_laws_heldBoolS_ann N (theCode Try.f74) [1, 0, 1, 0] (retK tab (T_laws_heldBoolS_sg N) Try.f74.results.toList some))) := by kernel_rfl
  rw [h]
  (try simp only [T_laws_heldBoolS_lp0_eq, T_laws_heldBoolS_c1, T_laws_heldBoolS_c2]) <;> rfl

theorem T_laws_heldBoolS_ok (N : Nat) : chkBody Try.f74 (T_laws_heldBoolS_sg N).ps = true := by kernel_rfl

theorem T_laws_heldBoolS_callable : Callable Try.prog 74 := callable_of Try.func74 (show chkFn Try.f74 = true by kernel_rfl)

theorem T_laws_heldBoolS_good (N : Nat) : Good Try.prog 74 (T_laws_heldBoolS_sg N) :=
  good_body mixedOk tabOk ctx_nil Try.func74 (T_laws_heldBoolS_ok N) (fun d _ h => ⟨N, (T_laws_heldBoolS_den N d.1 d.2.1).trans h⟩)

noncomputable def T_laws_heldEpBagS_sg (N : Nat) : Sig := Sig.of [.v (.slice (.prod (.int .i64) (.int .i64))) false, .v (.int .i64) false] [.v (.int .i64) false] (fun d => T_laws_heldEpBagS N d.1 d.2.1)

def T_laws_heldEpBagS_ann : Nat → List Ghost
  | 2 => [.canon [0, 1, 5, 9]]
  | 3 => [.canon [0, 1, 5]]
  | 4 => [.canon [0, 1, 5, 18]]
  | 5 => [.canon [4]]
  | 6 => [.canon [0, 1, 5]]
  | 7 => [.canon [0, 1, 5, 27]]
  | 8 => [.canon [4]]
  | 9 => [.canon [0, 1, 5]]
  | 100002 => [.canon [0, 1, 5]]
  | _ => []

noncomputable def T_laws_heldEpBagS_ctx (N : Nat) : Ctx := []

def T_laws_heldEpBagS_lp0_sh (a3 : List (Int × Int)) (k4 : Int) (i5 : Int) : St := { env := [(0, .s (.one (.val (.slice (.prod (.int .i64) (.int .i64))) (a3 : List (Int × Int))))), (1, .s (.one (.val (.int .i64) (k4 : Int)))), (5, .s (.one (.val (.int .i64) (i5 : Int))))], objs := [], nx := 0 }

def T_laws_heldEpBagS_lp0_e0 (a3 : List (Int × Int)) : St := { env := [(4, .s (.one (.val (.int .i64) ((-1 : Int) : Int))))], objs := [], nx := 0 }

def T_laws_heldEpBagS_lp0_e1 (a3 : List (Int × Int)) (k6 : Int) (i7 : Int) (t8 : Bool) : St := { env := [(0, .s (.one (.val (.slice (.prod (.int .i64) (.int .i64))) (a3 : List (Int × Int))))), (1, .s (.one (.val (.int .i64) (k6 : Int)))), (5, .s (.one (.val (.int .i64) (i7 : Int)))), (9, .s (.one (.val (.bool) (t8 : Bool))))], objs := [], nx := 0 }

noncomputable def T_laws_heldEpBagS_lp0_m (N : Nat) {R : Type} (n : Nat) (st : St) (K : Ex → St → Option R) : Option R := loopN (roundG (T_laws_heldEpBagS_ann 100002) fun st k => sx tab (T_laws_heldEpBagS_ctx N) T_laws_heldEpBagS_ann N (nthLoop Try.f75 0) st k) n st K

theorem T_laws_heldEpBagS_lp0_step (N : Nat) {R : Type} (n : Nat) (K : Ex → St → Option R) (a3 : List (Int × Int)) (k4 : Int) (i5 : Int) :
    T_laws_heldEpBagS_lp0_m N (n + 1) (T_laws_heldEpBagS_lp0_sh a3 k4 i5) K =
    (bif decide (i5 < (ilen a3)) then
    (bif inb i5 (List.length a3) then
      (bif (List.getD a3 (Int.toNat i5) ((0 : Int), (0 : Int))).1 != k4 then
        (K .ret (T_laws_heldEpBagS_lp0_e0 a3))
        else
        (bif inb i5 (List.length a3) then
          (bif (List.getD a3 (Int.toNat i5) ((0 : Int), (0 : Int))).2 != (iadd .i64 k4 (1 : Int)) then
            (K .ret (T_laws_heldEpBagS_lp0_e0 a3))
            else
            (T_laws_heldEpBagS_lp0_m N n (T_laws_heldEpBagS_lp0_sh a3 (iadd .i64 (iadd .i64 k4 (1 : Int)) (1 : Int)) (iadd .i64 i5 (1 : Int))) K)) else none)) else none)
    else
    (K (.exit 0) (T_laws_heldEpBagS_lp0_e1 a3 k4 i5 (decide (i5 < (ilen a3)))))) := by kernel_rfl

theorem T_laws_heldEpBagS_lp0_eq (N : Nat) {R : Type} (a3 : List (Int × Int)) (K : Ex → St → Option R) : ∀ (n : Nat) (k4 : Int) (i5 : Int), T_laws_heldEpBagS_lp0_m N n (T_laws_heldEpBagS_lp0_sh a3 k4 i5) K = T_laws_heldEpBagS_lp0 N a3 (K .ret (T_laws_heldEpBagS_lp0_e0 a3)) (fun k6 i7 t8 => (K (.exit 0) (T_laws_heldEpBagS_lp0_e1 a3 k6 i7 t8))) n k4 i5
  | 0, _, _ => rfl
  | n + 1, k4, i5 => by rw [T_laws_heldEpBagS_lp0_step, T_laws_heldEpBagS_lp0]; (try simp only [T_laws_heldEpBagS_lp0_eq N a3 K n])

theorem T_laws_heldEpBagS_c1 (N : Nat) (a1 : List (Int × Int)) :
    ((ctxK (R := ODen (T_laws_heldEpBagS_sg N).ps × RDen (T_laws_heldEpBagS_sg N).rs) tab (T_laws_heldEpBagS_ctx N) T_laws_heldEpBagS_ann N (theCode Try.f75) [1, 0, 1, 0] (retK tab (T_laws_heldEpBagS_sg N) Try.f75.results.toList some)) .ret (T_laws_heldEpBagS_lp0_e0 a1)) =
    (some (α := ODen (T_laws_heldEpBagS_sg N).ps × RDen (T_laws_heldEpBagS_sg N).rs) ((), ((-1 : Int), ()))) := by kernel_rfl

theorem T_laws_heldEpBagS_c2 (N : Nat) (a1 : List (Int × Int)) (k9 : Int) (i10 : Int) (t11 : Bool) :
    ((ctxK (R := ODen (T_laws_heldEpBagS_sg N).ps × RDen (T_laws_heldEpBagS_sg N).rs) tab (T_laws_heldEpBagS_ctx N) T_laws_heldEpBagS_ann N (theCode Try.f75) [1, 0, 1, 0] (retK tab (T_laws_heldEpBagS_sg N) Try.f75.results.toList some)) (.exit 0) (T_laws_heldEpBagS_lp0_e1 a1 k9 i10 t11)) =
    (some (α := ODen (T_laws_heldEpBagS_sg N).ps × RDen (T_laws_heldEpBagS_sg N).rs) ((), (k9, ()))) := by kernel_rfl

theorem T_laws_heldEpBagS_den (N : Nat) (a1 : List (Int × Int)) (k2 : Int) :
    den (R := ODen (T_laws_heldEpBagS_sg N).ps × RDen (T_laws_heldEpBagS_sg N).rs) tab (T_laws_heldEpBagS_ctx N) T_laws_heldEpBagS_ann N (T_laws_heldEpBagS_sg N) Try.f75 (a1, k2, ()) some =
    (T_laws_heldEpBagS_lp0 N a1
    (some (α := ODen (T_laws_heldEpBagS_sg N).ps × RDen (T_laws_heldEpBagS_sg N).rs) ((), ((-1 : Int), ())))
    (fun k9 i10 t11 =>
      (some (α := ODen (T_laws_heldEpBagS_sg N).ps × RDen (T_laws_heldEpBagS_sg N).rs) ((), (k9, ()))))
     N k2 (0 : Int)) := by
  have h : den (R := ODen (T_laws_heldEpBagS_sg N).ps × RDen (T_laws_heldEpBagS_sg N).rs) tab (T_laws_heldEpBagS_ctx N) T_laws_heldEpBagS_ann N (T_laws_heldEpBagS_sg N) Try.f75 (a1, k2, ()) some =
    (T_laws_heldEpBagS_lp0_m N N (T_laws_heldEpBagS_lp0_sh a1 k2 (0 : Int)) (ctxK (R := ODen (T_laws_heldEpBagS_sg N).ps × RDen (T_laws_heldEpBagS_sg N).rs) tab (T_laws_heldEpBagS_ctx N) T_laws_heldEpBagS_ann N (theCode Try.f75) [1, 0, 1, 0] (retK tab (T_laws_heldEpBagS_sg N) Try.f75.results.toList some))) := by kernel_rfl
  rw [h]
  (try simp only [T_laws_heldEpBagS_lp0_eq, T_laws_heldEpBagS_c1, T_laws_heldEpBagS_c2]) <;> rfl

theorem T_laws_heldEpBagS_ok (N : Nat) : chkBody Try.f75 (T_laws_heldEpBagS_sg N).ps = true := by kernel_rfl

theorem T_laws_heldEpBagS_callable : Callable Try.prog 75 := callable_of Try.func75 (show chkFn Try.f75 = true by kernel_rfl)

theorem T_laws_heldEpBagS_good (N : Nat) : Good Try.prog 75 (T_laws_heldEpBagS_sg N) :=
  good_body mixedOk tabOk ctx_nil Try.func75 (T_laws_heldEpBagS_ok N) (fun d _ h => ⟨N, (T_laws_heldEpBagS_den N d.1 d.2.1).trans h⟩)

noncomputable def T_laws_heldEpHoldS_sg (N : Nat) : Sig := Sig.of [.v (.slice (.prod (.int .i64) (.int .i64))) false, .v (.int .i64) false] [.v (.int .i64) false] (fun d => T_laws_heldEpHoldS N d.1 d.2.1)

def T_laws_heldEpHoldS_ann : Nat → List Ghost
  | 2 => [.canon [0, 1, 5, 9]]
  | 3 => [.canon [0, 1, 5]]
  | 4 => [.canon [0, 1, 5, 18]]
  | 5 => [.canon [4]]
  | 6 => [.canon [0, 1, 5]]
  | 7 => [.canon [0, 1, 5, 27]]
  | 8 => [.canon [4]]
  | 9 => [.canon [0, 1, 5]]
  | 100002 => [.canon [0, 1, 5]]
  | _ => []

noncomputable def T_laws_heldEpHoldS_ctx (N : Nat) : Ctx := []

def T_laws_heldEpHoldS_lp0_sh (a3 : List (Int × Int)) (k4 : Int) (i5 : Int) : St := { env := [(0, .s (.one (.val (.slice (.prod (.int .i64) (.int .i64))) (a3 : List (Int × Int))))), (1, .s (.one (.val (.int .i64) (k4 : Int)))), (5, .s (.one (.val (.int .i64) (i5 : Int))))], objs := [], nx := 0 }

def T_laws_heldEpHoldS_lp0_e0 (a3 : List (Int × Int)) : St := { env := [(4, .s (.one (.val (.int .i64) ((-1 : Int) : Int))))], objs := [], nx := 0 }

def T_laws_heldEpHoldS_lp0_e1 (a3 : List (Int × Int)) (k6 : Int) (i7 : Int) (t8 : Bool) : St := { env := [(0, .s (.one (.val (.slice (.prod (.int .i64) (.int .i64))) (a3 : List (Int × Int))))), (1, .s (.one (.val (.int .i64) (k6 : Int)))), (5, .s (.one (.val (.int .i64) (i7 : Int)))), (9, .s (.one (.val (.bool) (t8 : Bool))))], objs := [], nx := 0 }

noncomputable def T_laws_heldEpHoldS_lp0_m (N : Nat) {R : Type} (n : Nat) (st : St) (K : Ex → St → Option R) : Option R := loopN (roundG (T_laws_heldEpHoldS_ann 100002) fun st k => sx tab (T_laws_heldEpHoldS_ctx N) T_laws_heldEpHoldS_ann N (nthLoop Try.f76 0) st k) n st K

theorem T_laws_heldEpHoldS_lp0_step (N : Nat) {R : Type} (n : Nat) (K : Ex → St → Option R) (a3 : List (Int × Int)) (k4 : Int) (i5 : Int) :
    T_laws_heldEpHoldS_lp0_m N (n + 1) (T_laws_heldEpHoldS_lp0_sh a3 k4 i5) K =
    (bif decide (i5 < (ilen a3)) then
    (bif inb i5 (List.length a3) then
      (bif (List.getD a3 (Int.toNat i5) ((0 : Int), (0 : Int))).1 != k4 then
        (K .ret (T_laws_heldEpHoldS_lp0_e0 a3))
        else
        (bif inb i5 (List.length a3) then
          (bif (List.getD a3 (Int.toNat i5) ((0 : Int), (0 : Int))).2 != (iadd .i64 k4 (1 : Int)) then
            (K .ret (T_laws_heldEpHoldS_lp0_e0 a3))
            else
            (T_laws_heldEpHoldS_lp0_m N n (T_laws_heldEpHoldS_lp0_sh a3 (iadd .i64 (iadd .i64 k4 (1 : Int)) (1 : Int)) (iadd .i64 i5 (1 : Int))) K)) else none)) else none)
    else
    (K (.exit 0) (T_laws_heldEpHoldS_lp0_e1 a3 k4 i5 (decide (i5 < (ilen a3)))))) := by kernel_rfl

theorem T_laws_heldEpHoldS_lp0_eq (N : Nat) {R : Type} (a3 : List (Int × Int)) (K : Ex → St → Option R) : ∀ (n : Nat) (k4 : Int) (i5 : Int), T_laws_heldEpHoldS_lp0_m N n (T_laws_heldEpHoldS_lp0_sh a3 k4 i5) K = T_laws_heldEpHoldS_lp0 N a3 (K .ret (T_laws_heldEpHoldS_lp0_e0 a3)) (fun k6 i7 t8 => (K (.exit 0) (T_laws_heldEpHoldS_lp0_e1 a3 k6 i7 t8))) n k4 i5
  | 0, _, _ => rfl
  | n + 1, k4, i5 => by rw [T_laws_heldEpHoldS_lp0_step, T_laws_heldEpHoldS_lp0]; (try simp only [T_laws_heldEpHoldS_lp0_eq N a3 K n])

theorem T_laws_heldEpHoldS_c1 (N : Nat) (a1 : List (Int × Int)) :
    ((ctxK (R := ODen (T_laws_heldEpHoldS_sg N).ps × RDen (T_laws_heldEpHoldS_sg N).rs) tab (T_laws_heldEpHoldS_ctx N) T_laws_heldEpHoldS_ann N (theCode Try.f76) [1, 0, 1, 0] (retK tab (T_laws_heldEpHoldS_sg N) Try.f76.results.toList some)) .ret (T_laws_heldEpHoldS_lp0_e0 a1)) =
    (some (α := ODen (T_laws_heldEpHoldS_sg N).ps × RDen (T_laws_heldEpHoldS_sg N).rs) ((), ((-1 : Int), ()))) := by kernel_rfl

theorem T_laws_heldEpHoldS_c2 (N : Nat) (a1 : List (Int × Int)) (k9 : Int) (i10 : Int) (t11 : Bool) :
    ((ctxK (R := ODen (T_laws_heldEpHoldS_sg N).ps × RDen (T_laws_heldEpHoldS_sg N).rs) tab (T_laws_heldEpHoldS_ctx N) T_laws_heldEpHoldS_ann N (theCode Try.f76) [1, 0, 1, 0] (retK tab (T_laws_heldEpHoldS_sg N) Try.f76.results.toList some)) (.exit 0) (T_laws_heldEpHoldS_lp0_e1 a1 k9 i10 t11)) =
    (some (α := ODen (T_laws_heldEpHoldS_sg N).ps × RDen (T_laws_heldEpHoldS_sg N).rs) ((), (k9, ()))) := by kernel_rfl

theorem T_laws_heldEpHoldS_den (N : Nat) (a1 : List (Int × Int)) (k2 : Int) :
    den (R := ODen (T_laws_heldEpHoldS_sg N).ps × RDen (T_laws_heldEpHoldS_sg N).rs) tab (T_laws_heldEpHoldS_ctx N) T_laws_heldEpHoldS_ann N (T_laws_heldEpHoldS_sg N) Try.f76 (a1, k2, ()) some =
    (T_laws_heldEpHoldS_lp0 N a1
    (some (α := ODen (T_laws_heldEpHoldS_sg N).ps × RDen (T_laws_heldEpHoldS_sg N).rs) ((), ((-1 : Int), ())))
    (fun k9 i10 t11 =>
      (some (α := ODen (T_laws_heldEpHoldS_sg N).ps × RDen (T_laws_heldEpHoldS_sg N).rs) ((), (k9, ()))))
     N k2 (0 : Int)) := by
  have h : den (R := ODen (T_laws_heldEpHoldS_sg N).ps × RDen (T_laws_heldEpHoldS_sg N).rs) tab (T_laws_heldEpHoldS_ctx N) T_laws_heldEpHoldS_ann N (T_laws_heldEpHoldS_sg N) Try.f76 (a1, k2, ()) some =
    (T_laws_heldEpHoldS_lp0_m N N (T_laws_heldEpHoldS_lp0_sh a1 k2 (0 : Int)) (ctxK (R := ODen (T_laws_heldEpHoldS_sg N).ps × RDen (T_laws_heldEpHoldS_sg N).rs) tab (T_laws_heldEpHoldS_ctx N) T_laws_heldEpHoldS_ann N (theCode Try.f76) [1, 0, 1, 0] (retK tab (T_laws_heldEpHoldS_sg N) Try.f76.results.toList some))) := by kernel_rfl
  rw [h]
  (try simp only [T_laws_heldEpHoldS_lp0_eq, T_laws_heldEpHoldS_c1, T_laws_heldEpHoldS_c2]) <;> rfl

theorem T_laws_heldEpHoldS_ok (N : Nat) : chkBody Try.f76 (T_laws_heldEpHoldS_sg N).ps = true := by kernel_rfl

theorem T_laws_heldEpHoldS_callable : Callable Try.prog 76 := callable_of Try.func76 (show chkFn Try.f76 = true by kernel_rfl)

theorem T_laws_heldEpHoldS_good (N : Nat) : Good Try.prog 76 (T_laws_heldEpHoldS_sg N) :=
  good_body mixedOk tabOk ctx_nil Try.func76 (T_laws_heldEpHoldS_ok N) (fun d _ h => ⟨N, (T_laws_heldEpHoldS_den N d.1 d.2.1).trans h⟩)

noncomputable def T_laws_heldEpochs_sg (N : Nat) : Sig := Sig.of [.v (.prod (.int .i64) (.prod (.slice (.int .i64)) (.prod (.slice (.bool)) (.prod (.slice (.prod (.int .i64) (.int .i64))) (.prod (.slice (.prod (.int .i64) (.int .i64))) (.slice (.int .i64))))))) true, .v (.int .i64) false] [.v (.int .i64) false] (fun d => T_laws_heldEpochs N d.1 d.2.1)

def T_laws_heldEpochs_ann : Nat → List Ghost
  | _ => []

noncomputable def T_laws_heldEpochs_ctx (N : Nat) : Ctx := [(73, T_laws_heldIntS_sg N), (74, T_laws_heldBoolS_sg N), (75, T_laws_heldEpBagS_sg N), (76, T_laws_heldEpHoldS_sg N)]

end Go.Sx
